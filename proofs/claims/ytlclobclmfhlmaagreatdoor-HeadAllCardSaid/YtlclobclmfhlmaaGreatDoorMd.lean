/- Contracts, put together. Conditions: those of each. -/
import Derived.Test.YtlclobclmfhlmaaGreatDoorMc
import Derived.Test.YtlclobclmfhlmaaGreatDoorRows
set_option linter.unusedSimpArgs false
set_option linter.unusedVariables false
set_option maxRecDepth 100000
namespace Go.Proofs.YtlclobclmfhlmaaGreatDoor
noncomputable abbrev VN:Go.Program:=Tryz.prog
end Go.Proofs.YtlclobclmfhlmaaGreatDoor
namespace Go.Proofs.YtlclobclmfhlmaaGreatDoor.Pt
open Go Go.Sx Go.RowKit
open Go.Sx.VL (need branch leaf)
open Go.Sx.AV (lst ptr agg roI tup top)
theorem VY:Tryz.prog.follows .mixedOrders=true:=VS
abbrev i(n:Int):AV:= .x (.int .i64 n)
abbrev iI(n:Int):AV:= .x (.int .i64 n)
abbrev bl(b:Bool):AV:= .x (.bool b)
def bt(lo n hi:Int):Bool:=decide (lo<=n)&&decide (n<=hi)
def insB(lo a b hi:Int):Bool:=decide (lo<=a)&&decide (a<=b)&&decide (b<=hi)
theorem insB_iff(lo a b hi:Int):insB lo a b hi=true↔lo<=a/\a<=b/\b<=hi:=by simp [insB,and_assoc]
def scB(a b:Int):Bool:=bt (-1000) a 1000&&bt (-1000) b 1000&&(a != b)
def B7:UV
 |[.x (.int .i64 n),.x (.int .i64 lo),.x (.int .i64 hi)]=>some ([],bl (bt lo n hi))
 |_=>none
theorem wO(n lo hi:Int):VW VN 227 [i n,i lo,i hi] (bl (bt lo n hi)):=by
 refine GU Tryz.func227 (t:=branch (decide (lo<=n)) (leaf (RV.x (.bool (decide (n<=hi))))) (leaf (RV.x (.bool false)))) VS ?_;simp only [VL.sat,UA,UZ,GI,UC,UG];all_goals (simp+contextual [bt,insB,scB,Bool.and_assoc]);all_goals omega
theorem RH:VO VN 227 B7:=by
 refine ⟨(UF Tryz.func227),?_⟩;intro avs ns res h hn;unfold B7 at h;split at h
 ·cases h;exact wO _ _ _
 ·cases h
def B8:UV
 |[.agg [.x (.int .i64 a),.x (.int .i64 b)],.x (.int .i64 lo),.x (.int .i64 hi)]=>some ([],bl (insB lo a b hi))
 |_=>none
theorem x9(a b lo hi:Int):VW VN 204 [.agg [i a,i b],i lo,i hi] (bl (insB lo a b hi)):=by
 refine GU Tryz.func204 (t:=branch (decide (lo<=a)) (branch (decide (a<=b)) (leaf (RV.x (.bool (decide (b<=hi))))) (leaf (RV.x (.bool false)))) (leaf (RV.x (.bool false)))) VS ?_;simp only [VL.sat,UA,UZ,GI,UC,UG];all_goals (simp+contextual [bt,insB,scB,Bool.and_assoc]);all_goals omega
theorem PP:VO VN 204 B8:=by
 refine ⟨(UF Tryz.func204),?_⟩;intro avs ns res h hn;unfold B8 at h;split at h
 ·cases h;exact x9 _ _ _ _
 ·cases h
theorem mul_bd{x y X Y:Int}(hx: -X<=x/\x<=X)(hy: -Y<=y/\y<=Y): -(X*Y)<=x*y/\x*y<=X*Y:=by
 have h1:x.natAbs<=X.natAbs:=VI;have h2:y.natAbs<=Y.natAbs:=VI;have h3:(x*y).natAbs<=(X*Y).natAbs:=by rw [Int.natAbs_mul,Int.natAbs_mul];exact Nat.mul_le_mul h1 h2
 have h4:0<=X*Y:=Int.mul_nonneg VI VI;omega
abbrev scs(n:Nat)(a b:Nat->Int):AV:= .lst 2 n (λk=>[i (a k),i (b k)])
theorem isRec2(n:Nat)(a b:Nat->Int):UD 2 n (λk=>[i (a k),i (b k)]):=λ_ _=>rfl
def col(j:Nat)(f:Nat->List AV):Nat->Int:=λk=>Wj5 (f k) j
def AM(p q:Nat->Int)(k:Nat):Bool:=bt 1 (p k) 2000&&(bt 1 (q k) 2000&&(decide (k=0)||(decide (p (k-1)<p k)&&decide (q (k-1)<q k))))
section
variable (n:Nat)
def xT(p q:Nat->Int):Bool:=D4 (AM p q) n
abbrev QS(p:Nat->Int)(q:Nat->Int):AV:=lst 2 n λk=>[iI (p k),iI (q k)]
def Wz2(p q:Nat->Int):St:={σ:=[QS n p q]++HG 10 [QS n p q,iI (n:Int)]++HG 42 [],m:=[],nx:=10}
noncomputable def Jn2:Code:=U8 (VQ (U6 Tryz.f203) 0)
def Wg0(p q:Nat->Int)(k:Nat):St:=(upM [(13,i k)] (Wz2 n p q))
def v7(p q:Nat->Int)(k:Nat):G6->Option St
 | .exit 0=>some (upM [] (Wz2 n p q))
 | .ret=>some (upM [(2,i 1)] (Wz2 n p q))
 |_=>none
def Ji3(p q:Nat->Int):CT:= .branch (xT n p q) (.leaf (.exit 0,(v7 n p q 0 (.exit 0)).getD (Wz2 n p q))) (.leaf (.ret,(v7 n p q 0 .ret).getD (Wz2 n p q)))
def Xt6(p q:Nat->Int):UH:=(HF (Wg0 n p q (0)) (Ji3 n p q))
abbrev JO(p:Nat->Int)(q:Nat->Int):Prop:=(QS n p q)=QS n p q
theorem Zv9(p q:Nat->Int)(VR:n<=100000):G7 VN (.loop Jn2) (Xt6 n p q):=by
 refine HE (L:=[]) (VJ.cons RH (VJ.nil _)) VY U2 (X:=Nat) (Wg0 n p q) (λk=>k<=n/\ ∀j,j<k->AM p q j=true) (λk=>n-k) (v7 n p q) (x0:=0) ⟨VI,λj hj=>VI⟩ ?_ ?_ ?_
 ·rintro k;kernel_rfl
 ·rintro k y E h;unfold v7 at h;split at h
  ·cases h;kernel_rfl
  ·cases h;kernel_rfl
  ·cases h
 ·rintro Q hQ k hx;refine ⟨(k+1),?_⟩;(with_reducible refine DF (t:=let z0:=(need [JO n p q,VX (1:Int),JO n p q,VX (n:Int)] (leaf G6.ret));let z1:=(need [VK ((k:Int)+1)] (need [JO n p q,JO n p q,VX (n:Int),(k:Int)+1=(↑(k+1):Int)] (leaf G6.normal)));(branch (decide ((k:Int)<(n:Int))) (need [UI k n] (branch (!bt (1:Int) (p k) (2000:Int)) z0 (branch (!bt (1:Int) (q k) (2000:Int)) z0 (branch (decide ((k:Int)>0)) (need [VK ((k:Int)-1)] (need [UI ((k:Int)-1) n] (branch (decide (p k<=p ((k:Int)-1).toNat)) z0 (need [VK ((k:Int)-1)] (need [UI ((k:Int)-1) n] (branch (decide (q k<=q ((k:Int)-1).toNat)) z0 z1)))))) z1)))) (need [JO n p q,JO n p q,VX (n:Int)] (leaf (G6.exit 0))))) VS ?_);simp only [Ji3,v7,VL.sat,GS] at hQ;have Wn2:k<n->AM p q k=false->xT n p q=false:=by
   intro h1 h2;rw [←Bool.not_eq_true];intro h3;have:=GR.1 h3 k h1;rw [h2] at this;cases this
  have uZ:AM p q k=true-> ∀j,j<k+1->AM p q j=true:=by
   intro h1 j hj;rcases (show j<k\/j=k by omega) with h|rfl
   ·exact hx.2 j h
   ·exact h1
  have PJ: ¬k<n->xT n p q=true:=λh=>GR.2 (λj hj=>hx.2 j VI)
  have hQ1: ∀E,v7 n p q k .ret=some E->xT n p q=false->Q (.ret,E):=by
   intro E hE hf;cases hE;exact hQ.2 hf
  have hQ2: ∀E,v7 n p q k (.exit 0)=some E->xT n p q=true->Q (.exit 0,E):=by
   intro E hE hf;cases hE;exact hQ.1 hf
  have t1:((k:Int)-1).toNat=k-1:=VI;have hsb:AM p q k=(bt 1 (p k) 2000&&(bt 1 (q k) 2000&&(decide (k=0)||(decide (p (k-1)<p k)&&decide (q (k-1)<q k))))):=rfl
  simp only [VL.sat,UA,UG,H9,VK,F9,t1]
  with_reducible repeat' first|apply And.intro|intro _
  all_goals first|exact True.intro|omega|exact hQ1 _ (by assumption) (Wn2 VI (by rw [hsb];grind))|exact hQ2 _ (by assumption) (PJ VI)|exact uZ (by rw [hsb];grind) _ (by assumption)
def tbE(p q:Nat->Int):Int:=if 8<n then 3 else if n<2 then 1 else if xT n p q then 0 else 1
end
def Qe3:UV
 |[.lst 2 n f]=>some ([UD 2 n f,n<=100000],i (tbE n (col 0 f) (col 1 f)))
 |_=>none
abbrev K7:Value:=Value.int IntKind.i64 (0:Int)
theorem Qy0(n:Nat)(p q:Nat->Int)(VR:n<=100000):VW VN 203 [scs n p q] (i (tbE n p q)):=by
 refine U0 (L:=[Xt6 n p q]) (VJ.cons RH (VJ.nil _)) VY Tryz.func203 (US Tryz.f203) (G0 (lpE (b:= .loop Jn2) VS<|Zv9 n p q VR)) (t:=let z0:=(leaf (RV.x (.int .i64 (1:Int))));(branch (decide ((n:Int)>8)) (leaf (RV.x (.int .i64 (3:Int)))) (branch (decide ((n:Int)<2)) z0 (need [JO n p q,JO n p q,VX (n:Int),(0:Int)=(↑(0:Nat):Int)] (branch (xT n p q) (leaf (RV.x (K7))) z0))))) VS ?_
 simp only [VL.sat,UA,UZ,UC,UG,H9,tbE,Int.natCast_zero];refine ⟨λh=>?_,λh=>⟨λh2=>?_,λh2=>⟨λh3=>?_,λh3=>?_⟩⟩⟩
 ·simp [show 8<n by omega]
 ·simp [show ¬8<n by omega,show n<2 by omega]
 ·simp [show ¬8<n by omega,show ¬n<2 by omega,h3]
 ·simp [show ¬8<n by omega,show ¬n<2 by omega,h3]
theorem Qx9:VO VN 203 Qe3:=by
 refine ⟨(UF Tryz.func203),?_⟩;intro avs ns res h hn;unfold Qe3 at h;split at h
 ·rename_i n f;cases h;have hr:UD 2 n f:=hn _ VU;exact (Qy0 n (col 0 f) (col 1 f) (hn _ VU)).same (.cons (.lst 2 n _ _ hr) .nil)
 ·cases h
def RM(n:Nat)(p:Nat->Int)(x:Int):Nat:=GV (λk=>decide (x<=p (k+1))) (n-1)
def dS(p q:Nat->Int)(x:Int)(k:Nat):Int:=q k+((q (k+1)-q k)*(x-p k)).tdiv (p (k+1)-p k)
def boilI(n:Nat)(p q:Nat->Int)(x:Int):Int:=dS p q x (RM n p x)
theorem LM{n:Nat}{p q:Nat->Int}(h:xT n p q=true){k:Nat}(hk:k<n):1<=p k/\p k<=2000/\1<=q k/\q k<=2000/\(k=0\/p (k-1)<p k/\q (k-1)<q k):=by
 have:=GR.1 h k hk;simp only [AM,bt,H2,Bool.or_eq_true,j8] at this;omega
theorem AL{n:Nat}{p q:Nat->Int}(h:xT n p q=true){j k:Nat}(hjk:j<=k)(hk:k<n):p j<=p k/\q j<=q k:=by
 induction k with
 |zero=>
      have:j=0:=VI;subst this;exact ⟨Int.le_refl _,Int.le_refl _⟩
 |succ k ih=>
  rcases (show j<=k\/j=k+1 by omega) with h1|rfl
  ·have:=ih h1 VI;have h2:=LM h hk;simp only [Nat.add_sub_cancel] at h2;omega
  ·exact ⟨Int.le_refl _,Int.le_refl _⟩
theorem Zb8{n:Nat}{p:Nat->Int}{x:Int}(hn:2<=n)(hx:x<=p (n-1)):RM n p x<n-1:=by
 obtain ⟨h1,h2,h3⟩:=F0 (λk=>decide (x<=p (k+1))) (n-1)
 unfold RM;rcases Nat.lt_or_ge (GV (λk=>decide (x<=p (k+1))) (n-1)) (n-1) with h|h
 ·exact h
 ·have:=h2 (n-2) VI;rw [show n-2+1=n-1 by omega] at this
  simp at this;omega
theorem catF1{k j:Nat}{a:Nat->Int}{x:Int}(h:j<k+1)(hx:x=a k):GG k (λk=>[i (a k)]) (U4 1 [i x]) j=[i (a j)]:=by
 have e:j-k=0:=VI;show H6 (decide (j<k)) [i (a j)] (U4 1 [i x] (j-k))=_;rw [e];by_cases hj:j<k
 ·rw [show decide (j<k)=true by simp [hj]]
  rfl
 ·have hk:j=k:=VI;rw [show decide (j<k)=false by simp [hj],hk,hx]
  rfl
theorem Jg6(a b:Nat->Int):col 0 (λk=>[i (a k),i (b k)])=a:=rfl
theorem Jg5(a b:Nat->Int):col 1 (λk=>[i (a k),i (b k)])=b:=rfl
theorem AT{n:Nat}{p q:Nat->Int}{x:Int}(hn:2<=n)(ht:xT n p q=true)(hx:p 0<=x/\x<=p (n-1)):RM n p x<n-1/\p (RM n p x)<=x/\x<=p (RM n p x+1):=by
 have h1:=Zb8 hn hx.2;obtain ⟨f1,f2,f3⟩:=F0 (λk=>decide (x<=p (k+1))) (n-1)
 have h3:=f3 h1;refine ⟨h1,?_,qL h3⟩;rcases Nat.eq_zero_or_pos (RM n p x) with h|h
 ·rw [h];exact hx.1
 ·have:=f2 (RM n p x-1) (by unfold RM at h ⊢;omega)
  rw [show RM n p x-1+1=RM n p x by omega] at this
  simp at this;omega
theorem dR{p q:Nat->Int}{x:Int}{k:Nat}(hp:p k<p (k+1))(hq:q k<q (k+1))(h1:p k<=x)(h2:x<=p (k+1)):dS p q x k=q k+(q (k+1)-q k)*(x-p k) / (p (k+1)-p k)/\q k<=dS p q x k/\dS p q x k<=q (k+1):=by
 have m0:0<=(q (k+1)-q k)*(x-p k):=Int.mul_nonneg VI VI;have e:dS p q x k=q k+(q (k+1)-q k)*(x-p k) / (p (k+1)-p k):=by
  unfold dS;rw [Int.tdiv_eq_ediv_of_nonneg m0]
 have m1:(q (k+1)-q k)*(x-p k)<=(q (k+1)-q k)*(p (k+1)-p k):=Int.mul_le_mul_of_nonneg_left VI VI;have d0:0<=(q (k+1)-q k)*(x-p k) / (p (k+1)-p k):=Int.ediv_nonneg m0 VI;have d1:(q (k+1)-q k)*(x-p k) / (p (k+1)-p k)<=q (k+1)-q k:=Int.ediv_le_of_le_mul VI m1;rw [e];omega
theorem Qz3{n:Nat}{p:Nat->Int}{x y:Int}(h:x<=y):RM n p x<=RM n p y:=by
 obtain ⟨f1,f2,f3⟩:=F0 (λk=>decide (x<=p (k+1))) (n-1)
 obtain ⟨g1,g2,g3⟩:=F0 (λk=>decide (y<=p (k+1))) (n-1)
 unfold RM;rcases Nat.lt_or_ge (GV (λk=>decide (y<=p (k+1))) (n-1)) (GV (λk=>decide (x<=p (k+1))) (n-1)) with hl|hl
 ·have a1:=f2 _ hl;have a2:=g3 VI;simp at a1 a2;omega
 ·exact hl
theorem boil_spec{n:Nat}{p q:Nat->Int}{x:Int}(hn:2<=n)(ht:xT n p q=true)(hx:p 0<=x/\x<=p (n-1)):q 0<=boilI n p q x/\boilI n p q x<=q (n-1)/\1<=boilI n p q x/\boilI n p q x<=2000:=by
 obtain ⟨h1,h2,h3⟩:=AT hn ht hx;have s:=LM ht (show RM n p x+1<n by omega)
 simp only [Nat.add_sub_cancel] at s;have b:=dR (p:=p) (q:=q) (x:=x) (k:=RM n p x) VI VI h2 h3;have m1:=AL ht (show 0<=RM n p x by omega) (show RM n p x<n by omega)
 have m2:=AL ht (show RM n p x+1<=n-1 by omega) (show n-1<n by omega)
 have z:=LM ht (show 0<n by omega)
 have z2:=LM ht (show n-1<n by omega)
 unfold boilI;omega
theorem boil_mono{n:Nat}{p q:Nat->Int}{x y:Int}(hn:2<=n)(ht:xT n p q=true)(hx:p 0<=x)(hxy:x<=y)(hy:y<=p (n-1)):boilI n p q x<=boilI n p q y:=by
 obtain ⟨h1,h2,h3⟩:=AT hn ht (x:=x) VI;obtain ⟨g1,g2,g3⟩:=AT hn ht (x:=y) VI;have s:=LM ht (show RM n p x+1<n by omega)
 have s':=LM ht (show RM n p y+1<n by omega)
 simp only [Nat.add_sub_cancel] at s s';have b:=dR (p:=p) (q:=q) (x:=x) (k:=RM n p x) VI VI h2 h3;have b':=dR (p:=p) (q:=q) (x:=y) (k:=RM n p y) VI VI g2 g3;have hm:=Qz3 (n:=n) (p:=p) hxy;unfold boilI;rcases Nat.lt_or_ge (RM n p x) (RM n p y) with hl|hl
 ·have m:=AL ht (show RM n p x+1<=RM n p y by omega) (show RM n p y<n by omega)
  omega
 ·have e:RM n p x=RM n p y:=VI;rw [b.1,b'.1,e];rw [e] at s;have:=Int.ediv_le_ediv (show 0<p (RM n p y+1)-p (RM n p y) by omega) (Int.mul_le_mul_of_nonneg_left (show x-p (RM n p y)<=y-p (RM n p y) by omega) (show 0<=q (RM n p y+1)-q (RM n p y) by omega))
  omega
def aO:UV
 |[.lst 2 n f]=>some ([],.fn (.func 241) [] [.ro [.lst 2 n f]])
 |_=>none
theorem Qy8(n:Nat)(f:Nat->List AV):FB VN 228 [.lst 2 n f] (.fn (.func 241) [] [.ro [.lst 2 n f]]):=by
 refine HU (L:=[]) (VJ.nil _) (VV.of (VP.nil _) (VM.nil _)) VY Tryz.func228 (US Tryz.f228) G4 (t:=leaf (AV.fn (Fn.func 241) [] [AV.ro [lst 2 n λa=>f a]])) VS ?_
 exact rfl
theorem N8:LZ VN 228 aO:=by
 refine ⟨(UF Tryz.func228),?_⟩;intro avs ns res h hn;unfold aO at h;split at h
 ·cases h;exact Qy8 _ _
 ·cases h
def stV(p q:Nat->Int)(k:Nat):Value:= .agg #[.int .i64 (p k),.int .i64 (q k)]
def spV(p q:Nat->Int)(k:Nat):List Value:=[stV p q k,stV p q (k+1)]
section
variable (l:Nat)
abbrev KV:AV:=AV.fn (Fn.yield l) [] []
def Wz3(n:Nat)(p q:Nat->Int):St:={σ:=[KV l,AV.ro [QS n p q],top,top,top,top,lst 2 (n-(1:Int).toNat) λi=>[iI (p ((1:Int).toNat+i)),iI (q ((1:Int).toNat+i))],iI (↑(n-(1:Int).toNat):Int)]++HG 14 [],m:=[],nx:=4,gh:=some 0}
noncomputable def Zr2:Code:=U8 (VQ (U6 Tryz.f241) 0)
def TO(n:Nat)(p q:Nat->Int)(k:Nat):St:={σ:=H3 [(8,i k)] (Wz3 l n p q).σ,m:=[],nx:=0,gh:=some (k) }
def jJ(n:Nat)(p q:Nat->Int)(k:Nat):G6->Option St
 | .exit 0=>some {σ:=H3 [] (Wz3 l n p q).σ,m:=[],nx:=0,gh:=some (n-1) }
 | .ret=>some {σ:=H3 [] (Wz3 l n p q).σ,m:=[],nx:=0,gh:=none}
 |_=>none
def Ji5(n:Nat)(p q:Nat->Int):CT:= .may True (.leaf (.exit 0,(jJ l n p q 0 (.exit 0)).getD (Wz3 l n p q))) (.leaf (.ret,(jJ l n p q 0 .ret).getD (Wz3 l n p q)))
def Xt8(n:Nat)(p q:Nat->Int):UH:=GJ [] (HF (TO l n p q (0)) (Ji5 l n p q))
theorem Zw2(n:Nat)(p q:Nat->Int)(VR:1<=n/\n<=100000){cx:Cx}(hX:VV VN {Y:=some (l,(n-1),(spV p q)) } cx):HH VN none cx (.loop Zr2) (Xt8 l n p q):=by
 refine FI [] (L:=[]) (VJ.nil _) hX VY G4 (V:=Nat) (TO l n p q) (λk=>k<=n-1) (λk=>n-k) (jJ l n p q) (x0:=0) VU ?_ ?_ ?_
 ·rintro k;kernel_rfl
 ·rintro k y E h;unfold jJ at h;split at h
  ·cases h;kernel_rfl
  ·cases h;kernel_rfl
  ·cases h
 ·rintro Q hQ k hx;refine ⟨(k+1),?_⟩;have e:HV VN [] {Y:=some (l,(n-1),(spV p q)) } [] [] Zr2 (TO l n p q k) (TO l n p q ((k+1))) (jJ l n p q k)=(let z0:=(VX (lst 2 (n-(1:Int).toNat) λi=>[iI (p ((1:Int).toNat+i)),iI (q ((1:Int).toNat+i))]));let z1:=(VX (↑(n-(1:Int).toNat):Int));(branch (decide ((k:Int)<(↑(n-(1:Int).toNat):Int))) (need [UI k (↑(n-(1:Int).toNat):Int)] (need [UI k n] (need [l=l,k<n-1,[Value.agg {toList:=[Value.int IntKind.i64 (p k),Value.int IntKind.i64 (q k)] },Value.agg {toList:=[Value.int IntKind.i64 (p ((1:Int).toNat+k)),Value.int IntKind.i64 (q ((1:Int).toNat+k))] }]=[Value.agg {toList:=[Value.int IntKind.i64 (p k),Value.int IntKind.i64 (q k)] },Value.agg {toList:=[Value.int IntKind.i64 (p (k+1)),Value.int IntKind.i64 (q (k+1))] }]] (VL.may True (need [VK ((k:Int)+1)] (need [KV l=KV l,VX (AV.ro [QS n p q]),z0,z1,(k:Int)+1=(↑(k+1):Int),k+1=k+1] (leaf G6.normal))) (need [KV l=KV l,VX (AV.ro [QS n p q]),z0,z1] (leaf G6.ret)))))) (need [KV l=KV l,VX (AV.ro [QS n p q]),z0,z1,k=n-1] (leaf (G6.exit 0))))):=VS
  rw [e];simp only [Ji5,jJ,VL.sat,GS] at hQ;have hQ1: ∀E,jJ l n p q k (.exit 0)=some E->Q (.exit 0,E):=λE hE=>by cases hE;exact hQ.1 trivial
  have hQ2: ∀E,jJ l n p q k .ret=some E->Q (.ret,E):=λE hE=>by cases hE;exact hQ.2
  have t1:(1:Int).toNat=1:=rfl;have t2:1+k=k+1:=VI;simp only [VL.sat,UA,UG,H9,VK,F9,t1,t2];clear e hQ;all_goals exact V5
end
section
variable (n:Nat)
theorem mY(p q:Nat->Int)(VR:1<=n/\n<=100000):B6 Tryz.prog 241 [.ro [scs n p q]] ((n-1)) (spV p q):=by
 refine BI (L:=λl=>[Xt8 l n p q]) (VJ.nil _) VY (UF Tryz.func241) Tryz.func241 (US Tryz.f241) VS (λl cx hX=>G0 (lpE (b:= .loop Zr2) VS<|Zw2 l n p q VR hX)) (t:=λl=>(need [(0:Int)<=1/\(1:Int)<=(n:Int)/\(n:Int)<=(n:Int)] (need [VX (AV.fn (Fn.yield l) [] []),VX (AV.ro [QS n p q]),VX (lst 2 (n-(1:Int).toNat) λi=>[iI (p ((1:Int).toNat+i)),iI (q ((1:Int).toNat+i))]),VX (↑(n-(1:Int).toNat):Int),(0:Int)=(↑(0:Nat):Int),0=0] (VL.may True (need [n-1=n-1] (leaf PUnit.unit)) (leaf PUnit.unit))))) (λl=>VS) ?_
 intro l;simp only [VL.sat,UA,UZ,GI,UC,VK,UG,H9,R0];all_goals exact V5
abbrev JZ(p:Nat->Int)(q:Nat->Int):AV:=AV.fn (Fn.func 241) [] [AV.ro [QS n p q]]
def t9(p q:Nat->Int)(y:Int):St:={σ:=[QS n p q,iI y,top,ptr 0 0,ptr 1 0,top,top,top,JZ n p q]++HG 25 [],m:=[(1,GM.cells 3 [iI 0]),(0,GM.cells 3 [iI y])],nx:=4}
def rfF:Option Code->Operand
 |some (.rangeFunc f _ _ _)=>f
 |_=> .const .nilFunc
def jG:Option Code->Array Nat
 |some (.rangeFunc _ ps _ _)=>ps
 |_=>#[]
def SP:Option Code->Code
 |some (.rangeFunc _ _ a _)=>a
 |_=> .skip
def SO:Option Code->Code
 |some (.rangeFunc _ _ _ b)=>b
 |_=> .skip
noncomputable def Zs0:Code:=SP (VQ (U6 Tryz.f205) 0)
noncomputable def Qs7:Code:=SO (VQ (U6 Tryz.f205) 0)
def vG(p q:Nat->Int)(y:Int)(k:Nat):St:=(upM [] (t9 n p q y))
def PN(p q:Nat->Int)(y:Int)(k:Nat):G6->Option St
 | .ret=>some (upE [] [(1,.cells 3 [i (boilI n p q y)])] (t9 n p q y))
 |_=>none
def Wu6(p q:Nat->Int)(y:Int):CT:= .leaf (.ret,(PN n p q y 0 .ret).getD (t9 n p q y))
def mJ(p q:Nat->Int)(y:Int):UH:=GJ [] (HF (vG n p q y (0)) (Wu6 n p q y))
abbrev YV:Ext:={R:=[(228,aO)],H:=[] }
theorem Jh2(p q:Nat->Int)(y:Int)(VR:2<=n/\n<=100000)(UE:xT n p q=true)(HP: -100000<=y/\y<=p (n-1)):HO VN (.rangeFunc (rfF (VQ (U6 Tryz.f205) 0)) (jG (VQ (U6 Tryz.f205) 0)) Zs0 Qs7) (mJ n p q y):=by
 refine P9 [] (L:=[]) (VJ.nil _) (VV.of (VP.cons N8 (VP.nil _)) (VM.nil _)) VY U2 (V:=Nat) (vG n p q y) (λk=>k<=n-1/\ ∀j,j<k->decide (y<=p (j+1))=false) (λk=>k) (PN n p q y) (x0:=0) ⟨VI,λj hj=>VI⟩ rfl ?_ ?_ ?_ ?_ (g:=241) (caps:=[.ro [scs n p q]]) VS VS (mY n p q VI) (λ_=>rfl) ?_
 ·rintro k;kernel_rfl
 ·rintro k y E h;unfold PN at h;split at h
  ·cases h;kernel_rfl
  ·cases h
 ·rintro k;rfl
 ·rintro k y E h;unfold PN at h;split at h
  ·cases h;rfl
  ·cases h
 ·rintro Q hQ k hx;refine ⟨λhlt=>⟨(k+1),rfl,?_⟩,λPJ=>?_⟩
  ·have e:AY VN [] YV [] [] (jG (VQ (U6 Tryz.f205) 0)).toList ((spV p q) (k)) Zs0 Qs7 (vG n p q y k) (vG n p q y ((k+1))) (PN n p q y k)=(branch (decide (y<=p (k+1))) (need [VK (q (k+1)-q k)] (need [VK (y-p k)] (need [VK ((q (k+1)-q k)*(y-p k))] (need [VK (p (k+1)-p k)] (need [p (k+1)-p k≠0,VK (Int.tdiv ((q (k+1)-q k)*(y-p k)) (p (k+1)-p k))] (need [VK (q k+Int.tdiv ((q (k+1)-q k)*(y-p k)) (p (k+1)-p k))] (need [JO n p q,y=y,VX (ptr 0 0),VX (ptr 1 0),VX (JZ n p q),q k+Int.tdiv ((q (k+1)-q k)*(y-p k)) (p (k+1)-p k)=boilI n p q y] (leaf G6.ret)))))))) (need [JO n p q,y=y,VX (ptr 0 0),VX (ptr 1 0),VX (JZ n p q),VX (0:Int),y=y] (leaf G6.normal))):=VS;rw [e];simp only [Wu6,PN,VL.sat,GS] at hQ;have hQ2: ∀E,PN n p q y k .ret=some E->Q (.ret,E):=λE hE=>by cases hE;exact hQ
   simp only [VL.sat,UA,UG,H9,VK];clear e hQ;have sl:=LM UE (show n-1<n by omega)
   have s0:=LM UE (show k<n by omega)
   have s1:=LM UE (show k+1<n by omega)
   simp only [Nat.add_sub_cancel] at s1;have m:=mul_bd (x:=q (k+1)-q k) (y:=y-p k) (X:=2000) (Y:=200000) VI VI;have dv:(((q (k+1)-q k)*(y-p k)).tdiv (p (k+1)-p k)).natAbs<=((q (k+1)-q k)*(y-p k)).natAbs:=by
    rw [Int.natAbs_tdiv];exact Nat.div_le_self _ _
   refine ⟨λh=>?_,λh=>?_⟩
   ·have hf:RM n p y=k:=zJ hlt (by simpa using h) hx.2
    have hbo:boilI n p q y=q k+((q (k+1)-q k)*(y-p k)).tdiv (p (k+1)-p k):=by unfold boilI;rw [hf];rfl
    rw [hbo];all_goals exact V5
   ·refine ⟨VI,λj hj=>?_⟩
    rcases (show j<k\/j=k by omega) with h1|rfl
    ·have:=hx.2 j h1;simpa using this
    ·exact h
  ·exfalso;have:=hx.2 (n-2) VI;rw [show n-2+1=n-1 by omega] at this
   simp at this;omega
theorem Xj4(p q:Nat->Int)(y:Int)(VR:2<=n/\n<=100000)(UE:xT n p q=true)(HP: -100000<=y/\y<=p (n-1)):VW VN 205 [scs n p q,i y] (i (boilI n p q y)):=by
 refine GA (L:=[mJ n p q y]) (VJ.nil _) (VV.of (VP.cons N8 (VP.nil _)) (VM.nil _)) VY Tryz.func205 (US Tryz.f205) (G0 (lpE (b:= .rangeFunc (rfF (VQ (U6 Tryz.f205) 0)) (jG (VQ (U6 Tryz.f205) 0)) Zs0 Qs7) VS<|Jh2 n p q y VR UE HP)) (t:=need [JO n p q,y=y,VX (ptr 0 0),VX (ptr 1 0),VX (JZ n p q),VX (0:Int),y=y] (leaf (RV.x (.int .i64 (boilI n p q y))))) VS ?_
 simp only [VL.sat,UA,UZ,GI,UC,VK,UG];all_goals first|omega|grind
end
def Wv3:UV
 |[.lst 2 n f,.x (.int .i64 y)]=>some ([UD 2 n f,2<=n/\n<=100000,xT n (col 0 f) (col 1 f)=true,-100000<=y/\y<=col 0 f (n-1)],i (boilI n (col 0 f) (col 1 f) y))
 |_=>none
theorem Xj3:VO VN 205 Wv3:=by
 refine ⟨(UF Tryz.func205),?_⟩;intro avs ns res h hn;unfold Wv3 at h;split at h
 ·rename_i n f y;cases h;have hr:UD 2 n f:=hn _ VU;exact (Xj4 n (col 0 f) (col 1 f) y (hn _ VU) (hn _ VU) (hn _ VU)).same (.cons (.lst 2 n _ _ hr) (.cons (.refl _) .nil))
 ·cases h
section
variable (n:Nat)(p q:Nat->Int)(lo hi:Int)
def blE:Int:=if tbE n p q=0 then (if insB (p 0) lo hi (p (n-1)) then 0 else 2) else tbE n p q
def blLo:Int:=if blE n p q lo hi=0 then boilI n p q lo else 0
def blHi:Int:=if blE n p q lo hi=0 then boilI n p q hi else 0
end
theorem Qx8{n:Nat}{p q:Nat->Int}(h:tbE n p q=0):2<=n/\n<=8/\xT n p q=true:=by
 unfold tbE at h;split at h
 ·omega
 ·split at h
  ·omega
  ·split at h
   ·rename_i h3;exact ⟨VI,VI,h3⟩
   ·omega
theorem Xa3(n:Nat)(p q:Nat->Int)(lo hi:Int)(VR:n<=100000):VW VN 172 [scs n p q,.agg [i lo,i hi]] (.tup [.agg [i (blLo n p q lo hi),i (blHi n p q lo hi)],i (blE n p q lo hi)]):=by
 refine U0 (L:=[]) (VJ.cons Qx9 (VJ.cons PP (VJ.cons Xj3 (VJ.nil _)))) VY Tryz.func172 (US Tryz.f172) U2 (t:=need [UD 2 n λk=>[i (p k),i (q k)],n<=100000] (branch (tbE n p q != 0) (leaf (RV.tup [RV.agg [RV.x (K7),RV.x (K7)],RV.x (.int .i64 (tbE n p q))])) (need [UI 0 n] (need [VK ((n:Int)-1)] (need [UI ((n:Int)-1) n] (branch (!insB (p (0:Int).toNat) lo hi (p ((n:Int)-1).toNat)) (leaf (RV.tup [RV.agg [RV.x (K7),RV.x (K7)],RV.x (.int .i64 (2:Int))])) (need [UD 2 n λk=>[i (p k),i (q k)],2<=n/\n<=100000,xT n p q=true,(-100000:Int)<=lo/\lo<=p (n-1)] (need [UD 2 n λk=>[i (p k),i (q k)],2<=n/\n<=100000,xT n p q=true,(-100000:Int)<=hi/\hi<=p (n-1)] (leaf (RV.tup [RV.agg [RV.x (.int .i64 (boilI n p q lo)),RV.x (.int .i64 (boilI n p q hi))],RV.x (K7)])))))))))) VS ?_
 simp only [VL.sat,UA,UZ,GI,UC,UG,Jg6,Jg5,VK,show (0:Int).toNat=0 from rfl];refine ⟨⟨isRec2 n p q,VR⟩,λh=>?_,λh=>?_⟩
 ·have h':tbE n p q≠0:=by simpa using h
  simp [blLo,blHi,blE,h']
 ·have h':tbE n p q=0:=by simpa using h
  obtain ⟨t1,t2,t3⟩:=Qx8 h';have e1:((n:Int)-1).toNat=n-1:=VI;have s0:=LM t3 (show 0<n by omega)
  simp only [e1];refine ⟨VI,VI,VI,λh2=>?_,λh2=>?_⟩
  ·have h2':insB (p 0) lo hi (p (n-1))=false:=by simpa using h2
   simp [blLo,blHi,blE,h',h2']
  ·have h2':insB (p 0) lo hi (p (n-1))=true:=by simpa using h2
   have b:=(insB_iff _ _ _ _).1 h2';refine ⟨⟨isRec2 n p q,VI,t3,VI⟩,⟨isRec2 n p q,VI,t3,VI⟩,?_⟩;simp [blLo,blHi,blE,h',h2']
def Qg3:UV
 |[.lst 2 n f,.agg [.x (.int .i64 lo),.x (.int .i64 hi)]]=>some ([UD 2 n f,n<=100000],.tup [.agg [i (blLo n (col 0 f) (col 1 f) lo hi),i (blHi n (col 0 f) (col 1 f) lo hi)],i (blE n (col 0 f) (col 1 f) lo hi)])
 |_=>none
theorem blE_ok{n:Nat}{p q:Nat->Int}{lo hi:Int}(h:blE n p q lo hi=0):2<=n/\n<=8/\xT n p q=true/\p 0<=lo/\lo<=hi/\hi<=p (n-1):=by
 unfold blE at h;split at h
 ·rename_i h1;obtain ⟨t1,t2,t3⟩:=Qx8 h1;split at h
  ·rename_i h2;have:=(insB_iff _ _ _ _).1 h2;exact ⟨t1,t2,t3,this⟩
  ·omega
 ·contradiction
theorem Boils_ok:VO VN 172 Qg3:=by
 refine ⟨(UF Tryz.func172),?_⟩;intro avs ns res h hn;unfold Qg3 at h;split at h
 ·rename_i n f lo hi;cases h;have hr:UD 2 n f:=hn _ VU;exact (Xa3 n (col 0 f) (col 1 f) lo hi (hn _ VU)).same (.cons (.lst 2 n _ _ hr) (.cons (.refl _) .nil))
 ·cases h
end Go.Proofs.YtlclobclmfhlmaaGreatDoor.Pt
namespace Go.Proofs.YtlclobclmfhlmaaGreatDoor.Bo
open Go Go.Sx Go.RowKit Go.ChangeShapes Go.WideShapes Go.ChangeAt
open Go.Sx.VL (need branch leaf)
open Go.Sx.AV (lst ptr agg roI tup top)
theorem VY:Tryz.prog.follows .mixedOrders=true:=VS
abbrev i(n:Int):AV:= .x (.int .i64 n)
abbrev iI(n:Int):AV:= .x (.int .i64 n)
abbrev bl(b:Bool):AV:= .x (.bool b)
def bt(lo n hi:Int):Bool:=decide (lo<=n)&&decide (n<=hi)
theorem bt_iff(lo n hi:Int):bt lo n hi=true↔lo<=n/\n<=hi:=by simp [bt]
def insB(lo a b hi:Int):Bool:=decide (lo<=a)&&decide (a<=b)&&decide (b<=hi)
theorem insB_iff(lo a b hi:Int):insB lo a b hi=true↔lo<=a/\a<=b/\b<=hi:=by simp [insB,and_assoc]
def BX(c T lo hi:Int):Bool:=bt 1 c 10&&insB 1 lo hi 200&&bt 1 T 2000&&bt (c*lo) T (c*hi)
def rdB(c a b u v:Int):Bool:=bt 0 a (c-1)&&bt a b c&&insB 0 u v 2000
def B7:UV
 |[.x (.int .i64 n),.x (.int .i64 lo),.x (.int .i64 hi)]=>some ([],bl (bt lo n hi))
 |_=>none
abbrev YG:Value:=Value.bool false
theorem wO(n lo hi:Int):VW VN 206 [i n,i lo,i hi] (bl (bt lo n hi)):=by
 refine GU Tryz.func206 (t:=branch (decide (lo<=n)) (leaf (RV.x (.bool (decide (n<=hi))))) (leaf (RV.x (YG)))) VS ?_;simp only [VL.sat,UA,UZ,GI,UC,UG];all_goals (simp+contextual [bt,insB,Bool.and_assoc]);all_goals omega
theorem RH:VO VN 206 B7:=by
 refine ⟨(UF Tryz.func206),?_⟩;intro avs ns res h hn;unfold B7 at h;split at h
 ·cases h;exact wO _ _ _
 ·cases h
def B8:UV
 |[.agg [.x (.int .i64 a),.x (.int .i64 b)],.x (.int .i64 lo),.x (.int .i64 hi)]=>some ([],bl (insB lo a b hi))
 |_=>none
theorem x9(a b lo hi:Int):VW VN 207 [.agg [i a,i b],i lo,i hi] (bl (insB lo a b hi)):=by
 refine GU Tryz.func207 (t:=branch (decide (lo<=a)) (branch (decide (a<=b)) (leaf (RV.x (.bool (decide (b<=hi))))) (leaf (RV.x (YG)))) (leaf (RV.x (YG)))) VS ?_;simp only [VL.sat,UA,UZ,GI,UC,UG];all_goals (simp+contextual [bt,insB,Bool.and_assoc]);all_goals omega
theorem PP:VO VN 207 B8:=by
 refine ⟨(UF Tryz.func207),?_⟩;intro avs ns res h hn;unfold B8 at h;split at h
 ·cases h;exact x9 _ _ _ _
 ·cases h
theorem mul_bd{x y X Y:Int}(hx: -X<=x/\x<=X)(hy: -Y<=y/\y<=Y): -(X*Y)<=x*y/\x*y<=X*Y:=by
 have h1:=Int.mul_nonneg (show 0<=X-x by omega) (show 0<=Y-y by omega)
 have h2:=Int.mul_nonneg (show 0<=X+x by omega) (show 0<=Y+y by omega)
 have h3:=Int.mul_nonneg (show 0<=X-x by omega) (show 0<=Y+y by omega)
 have h4:=Int.mul_nonneg (show 0<=X+x by omega) (show 0<=Y-y by omega)
 rw [Int.sub_mul,Int.mul_sub,Int.mul_sub] at h1;rw [Int.add_mul,Int.mul_add,Int.mul_add] at h2;rw [Int.sub_mul,Int.mul_add,Int.mul_add] at h3;rw [Int.add_mul,Int.mul_sub,Int.mul_sub] at h4;omega
def rB:UV
 |[.agg [.x (.int .i64 c),.x (.int .i64 T),.x (.int .i64 lo),.x (.int .i64 hi)]]=>some ([],i (if BX c T lo hi then 0 else 1))
 |_=>none
abbrev JT:Value:=Value.int IntKind.i64 (0:Int)
abbrev YB:Value:=Value.int IntKind.i64 (1:Int)
theorem b8(c T lo hi:Int):VW VN 173 [.agg [i c,i T,i lo,i hi]] (i (if BX c T lo hi then 0 else 1)):=by
 refine U0 (L:=[]) (VJ.cons RH (VJ.cons PP (VJ.nil _))) VY Tryz.func173 (US Tryz.f173) U2 (t:=branch (!bt (1:Int) c (10:Int)) (leaf (RV.x (YB))) (branch (!insB (1:Int) lo hi (200:Int)) (leaf (RV.x (YB))) (branch (!bt (1:Int) T (2000:Int)) (leaf (RV.x (YB))) (need [VK (c*lo)] (need [VK (c*hi)] (branch (!bt (c*lo) T (c*hi)) (leaf (RV.x (YB))) (leaf (RV.x (JT))))))))) VS ?_;simp only [VL.sat,UA,UZ,UC,UG,VK,BX];rcases Bool.eq_false_or_eq_true (bt 1 c 10) with h1|h1
 rotate_left
 ·simp [h1]
 rcases Bool.eq_false_or_eq_true (insB 1 lo hi 200) with h2|h2
 rotate_left
 ·simp [h1,h2]
 rcases Bool.eq_false_or_eq_true (bt 1 T 2000) with h3|h3
 rotate_left
 ·simp [h1,h2,h3]
 have e1:=(bt_iff _ _ _).1 h1;have e2:=(insB_iff _ _ _ _).1 h2;have m1:=mul_bd (x:=c) (y:=lo) (X:=10) (Y:=200) VI VI;have m2:=mul_bd (x:=c) (y:=hi) (X:=10) (Y:=200) VI VI;rcases Bool.eq_false_or_eq_true (bt (c*lo) T (c*hi)) with h4|h4<;>simp [h1,h2,h3,h4]<;>omega
theorem CheckTube_ok:VO VN 173 rB:=by
 refine ⟨(UF Tryz.func173),?_⟩;intro avs ns res h hn;unfold rB at h;split at h
 ·cases h;exact b8 _ _ _ _
 ·cases h
def OY:UV
 |[.agg [.x (.int .i64 c),.x (.int .i64 T),.x (.int .i64 lo),.x (.int .i64 hi)],.agg [.x (.int .i64 a),.x (.int .i64 b),.x (.int .i64 u),.x (.int .i64 v)]]=>some ([1<=c/\c<=10],bl (rdB c a b u v))
 |_=>none
theorem nK(c T lo hi a b u v:Int)(VR:1<=c/\c<=10):VW VN 229 [.agg [i c,i T,i lo,i hi],.agg [i a,i b,i u,i v]] (bl (rdB c a b u v)):=by
 refine U0 (L:=[]) (VJ.cons RH (VJ.cons PP (VJ.nil _))) VY Tryz.func229 (US Tryz.f229) U2 (t:=need [VK (c-1)] (branch (bt (0:Int) a (c-1)) (branch (bt a b c) (leaf (RV.x (.bool (insB (0:Int) u v (2000:Int))))) (leaf (RV.x (YG)))) (leaf (RV.x (YG))))) VS ?_;simp only [VL.sat,UA,UZ,UC,UG,VK,rdB];refine ⟨VI,?_⟩;cases h1:bt 0 a (c-1)<;>cases h2:bt a b c<;>cases h3:insB 0 u v 2000<;>simp
theorem nJ:VO VN 229 OY:=by
 refine ⟨(UF Tryz.func229),?_⟩;intro avs ns res h hn;unfold OY at h;split at h
 ·cases h;exact nK _ _ _ _ _ _ _ _ (hn _ VU)
 ·cases h
end Go.Proofs.YtlclobclmfhlmaaGreatDoor.Bo
namespace Go.Proofs.YtlclobclmfhlmaaGreatDoor.Bo
open Go Go.Sx Go.RowKit
open Go.Sx.VL (need branch leaf)
open Go.Sx.AV (lst ptr agg roI tup top)
theorem Xc0(a b:Int):VW VN 83 [.lst 1 2 (λk=>[i (if k=0 then a else b)])] (i (min a b)):=by
 refine U0 (L:=[λs=>some (xS Tryz.prog [] [] (U8 (VQ (U6 Tryz.f83) 0)) 3 s)]) (VJ.nil _) VY Tryz.func83 (US Tryz.f83) (G0 (lpE (b:= .loop (U8 (VQ (U6 Tryz.f83) 0))) VS<|L6 (VJ.nil _) VY U2 _)) (t:=let z0:=(min (if (0:Int).toNat=0 then a else b) (if (1:Int).toNat=0 then a else b));(branch (decide ((↑(2:Nat):Int)<1)) VL.fail (need [UI 0 2] (branch (decide ((1:Int)<(↑(2:Nat):Int))) (need [UI 1 2] (need [VK ((1:Int)+1)] (branch (decide ((1:Int)+1<(↑(2:Nat):Int))) (need [(0:Int)<=1+1/\(1:Int)+1<(↑(2:Nat):Int)] (need [VK ((1:Int)+1+1)] (branch (decide ((1:Int)+1+1<(↑(2:Nat):Int))) (need [(0:Int)<=1+1+1/\(1:Int)+1+1<(↑(2:Nat):Int)] (need [VK ((1:Int)+1+1+1)] VL.fail)) (leaf (RV.x (.int .i64 (min z0 (if ((1:Int)+1).toNat=0 then a else b)))))))) (leaf (RV.x (.int .i64 z0)))))) (leaf (RV.x (.int .i64 (if (0:Int).toNat=0 then a else b)))))))) VS ?_
 simp [VL.sat,UA,UZ,GI,UC,VK]
theorem Xc1(a b:Int):VW VN 84 [.lst 1 2 (λk=>[i (if k=0 then a else b)])] (i (max a b)):=by
 refine U0 (L:=[λs=>some (xS Tryz.prog [] [] (U8 (VQ (U6 Tryz.f84) 0)) 3 s)]) (VJ.nil _) VY Tryz.func84 (US Tryz.f84) (G0 (lpE (b:= .loop (U8 (VQ (U6 Tryz.f84) 0))) VS<|L6 (VJ.nil _) VY U2 _)) (t:=let z0:=(max (if (0:Int).toNat=0 then a else b) (if (1:Int).toNat=0 then a else b));(branch (decide ((↑(2:Nat):Int)<1)) VL.fail (need [UI 0 2] (branch (decide ((1:Int)<(↑(2:Nat):Int))) (need [UI 1 2] (need [VK ((1:Int)+1)] (branch (decide ((1:Int)+1<(↑(2:Nat):Int))) (need [(0:Int)<=1+1/\(1:Int)+1<(↑(2:Nat):Int)] (need [VK ((1:Int)+1+1)] (branch (decide ((1:Int)+1+1<(↑(2:Nat):Int))) (need [(0:Int)<=1+1+1/\(1:Int)+1+1<(↑(2:Nat):Int)] (need [VK ((1:Int)+1+1+1)] VL.fail)) (leaf (RV.x (.int .i64 (max z0 (if ((1:Int)+1).toNat=0 then a else b)))))))) (leaf (RV.x (.int .i64 z0)))))) (leaf (RV.x (.int .i64 (if (0:Int).toNat=0 then a else b)))))))) VS ?_
 simp [VL.sat,UA,UZ,GI,UC,VK]
def kF:UV
 |[.lst 1 2 f]=>(match f 0,f 1 with
  |[.x (.int .i64 a)],[.x (.int .i64 b)]=>some ([],i (min a b))
  |_,_=>none)
 |_=>none
theorem SN:VO VN 83 kF:=by
 refine ⟨(UF Tryz.func83),?_⟩;intro avs ns res h hn;unfold kF at h;split at h
 ·rename_i f;split at h
  ·rename_i a b h0 h1;cases h;refine (Xc0 a b).same (.cons (.lst 1 2 _ _ ?_) .nil);intro k hk;rcases (show k=0\/k=1 by omega) with rfl|rfl
   ·exact h0
   ·exact h1
  ·cases h
 ·cases h
def dU:UV
 |[.lst 1 2 f]=>(match f 0,f 1 with
  |[.x (.int .i64 a)],[.x (.int .i64 b)]=>some ([],i (max a b))
  |_,_=>none)
 |_=>none
theorem tI:VO VN 84 dU:=by
 refine ⟨(UF Tryz.func84),?_⟩;intro avs ns res h hn;unfold dU at h;split at h
 ·rename_i f;split at h
  ·rename_i a b h0 h1;cases h;refine (Xc1 a b).same (.cons (.lst 1 2 _ _ ?_) .nil);intro k hk;rcases (show k=0\/k=1 by omega) with rfl|rfl
   ·exact h0
   ·exact h1
  ·cases h
 ·cases h
theorem We7(a b:Int):VW VN 244 [.lst 1 2 (λk=>[i (if k=0 then a else b)])] (i (min a b)):=by
 refine U0 (L:=[]) (VJ.cons SN (VJ.nil _)) VY Tryz.func244 (US Tryz.f244) U2 (t:=leaf (RV.x (.int .i64 (min (if 0=0 then a else b) (if 1=0 then a else b))))) VS ?_
 simp [VL.sat,UZ,UC]
def A7:UV:=kF
theorem LQ:VO VN 244 A7:=by
 refine ⟨(UF Tryz.func244),?_⟩;intro avs ns res h hn;unfold A7 kF at h;split at h
 ·rename_i f;split at h
  ·rename_i a b h0 h1;cases h;refine (We7 a b).same (.cons (.lst 1 2 _ _ ?_) .nil);intro k hk;rcases (show k=0\/k=1 by omega) with rfl|rfl
   ·exact h0
   ·exact h1
  ·cases h
 ·cases h
theorem iP(a b:Int):VW VN 239 [.lst 1 2 (λk=>[i (if k=0 then a else b)])] (i (max a b)):=by
 refine U0 (L:=[]) (VJ.cons tI (VJ.nil _)) VY Tryz.func239 (US Tryz.f239) U2 (t:=leaf (RV.x (.int .i64 (max (if 0=0 then a else b) (if 1=0 then a else b))))) VS ?_
 simp [VL.sat,UZ,UC]
def M3:UV:=dU
theorem fQ:VO VN 239 M3:=by
 refine ⟨(UF Tryz.func239),?_⟩;intro avs ns res h hn;unfold M3 dU at h;split at h
 ·rename_i f;split at h
  ·rename_i a b h0 h1;cases h;refine (iP a b).same (.cons (.lst 1 2 _ _ ?_) .nil);intro k hk;rcases (show k=0\/k=1 by omega) with rfl|rfl
   ·exact h0
   ·exact h1
  ·cases h
 ·cases h
noncomputable def Qi1:HY:=rO Tryz.prog [(244,A7)] {} [] Tryz.f231 (U6 Tryz.f231)
abbrev J7:List (Nat×UV):=[(244,A7)]
theorem LG:G9 VN 231 Qi1:=
 RJ (G:=J7) (X:={}) (L:=[]) (VJ.cons LQ (VJ.nil _)) (VV.of (VP.nil _) (VM.nil _)) VY (UF Tryz.func231) Tryz.func231 (US Tryz.f231) U2
def UB(c T lo hi:Int)(M:Nat->Nat->Int)(k:Nat):Int:=if k=0 then c else if k=1 then T else if k=2 then lo else if k=3 then hi else M ((k-4) / 11) ((k-4)%11)
section
variable (M:Nat->Nat->Int)(a b:Nat)(v:Int)
def wU:Nat->Nat->Int:=λx y=>if x=a/\y=b then v else M x y
def bnd:Nat->Nat->Int:=wU M a b (min (M a b) v)
end
def ini(c:Nat)(k j:Nat):Nat->Nat->Int:=λx y=>if ((x<k/\y<=c)\/(x=k/\y<j))/\x≠y then 2000 else 0
theorem Qz1(c T lo hi:Int)(cc:Nat): ∀k,U7 (c::T::lo::hi::List.replicate 121 0) k=UB c T lo hi (ini cc 0 0) k:=by
 intro k;rcases k with _|_|_|_|k
 ·rfl
 ·rfl
 ·rfl
 ·rfl
 ·have h:U7 (c::T::lo::hi::List.replicate 121 0) (k+4)=U7 (List.replicate 121 0) k:=rfl;rw [h,gM (by decide)]
  simp [UB,ini]
theorem GL(q:Nat)(v:Int)(f:Nat->Int):j5 q [v] f=UO q v f:=rfl
section
variable (c T lo hi:Int)
theorem BY(M:Nat->Nat->Int){a b q:Nat}(hq:q=4+a*11+b)(hb:b<11):UB c T lo hi M q=M a b:=by
 unfold UB;rw [if_neg VI,if_neg VI,if_neg VI,if_neg VI,show (q-4) / 11=a by omega,show (q-4)%11=b by omega]
theorem yT{M M':Nat->Nat->Int}(h: ∀x y,x<11->y<11->M x y=M' x y){k:Nat}(hk:k<125):UB c T lo hi M k=UB c T lo hi M' k:=by
 unfold UB;split
 ·rfl
 split
 ·rfl
 split
 ·rfl
 split
 ·rfl
 exact h _ _ VI VI
theorem c7(M:Nat->Nat->Int){a b q:Nat}(hq:q=4+a*11+b)(hb:b<11)(v:Int)(k:Nat):UO q v (UB c T lo hi M) k=UB c T lo hi (wU M a b v) k:=by
 unfold UO;by_cases hk:k=q
 ·rw [if_pos hk,BY _ _ _ _ _ (hk.trans hq) hb];simp [wU]
 ·rw [if_neg hk];unfold UB;by_cases h0:k=0
  ·rw [if_pos h0,if_pos h0]
  by_cases h1:k=1
  ·rw [if_neg h0,if_neg h0,if_pos h1,if_pos h1]
  by_cases h2:k=2
  ·rw [if_neg h0,if_neg h0,if_neg h1,if_neg h1,if_pos h2,if_pos h2]
  by_cases h3:k=3
  ·rw [if_neg h0,if_neg h0,if_neg h1,if_neg h1,if_neg h2,if_neg h2,if_pos h3,if_pos h3]
  rw [if_neg h0,if_neg h0,if_neg h1,if_neg h1,if_neg h2,if_neg h2,if_neg h3,if_neg h3];unfold wU;rw [if_neg VI]
end
theorem Wj7(c k j:Nat)(hj:j<=c)(h:k≠j)(x y:Nat):wU (ini c k j) k j 2000 x y=ini c k (j+1) x y:=by
 unfold wU ini;split
 ·rename_i hxy;rw [if_pos ⟨.inr VI,VI⟩]
 ·rename_i hxy;by_cases h1:((x<k/\y<=c)\/(x=k/\y<j))/\x≠y
  ·rw [if_pos h1,if_pos VI]
  ·rw [if_neg h1,if_neg VI]
theorem Wj8(c k:Nat)(x y:Nat):ini c k k x y=ini c k (k+1) x y:=by
 unfold ini;by_cases h1:((x<k/\y<=c)\/(x=k/\y<k))/\x≠y
 ·rw [if_pos h1,if_pos VI]
 ·rw [if_neg h1,if_neg VI]
theorem Xf1(c k:Nat)(x y:Nat):ini c k (c+1) x y=ini c (k+1) 0 x y:=by
 unfold ini;by_cases h1:((x<k/\y<=c)\/(x=k/\y<c+1))/\x≠y
 ·rw [if_pos h1,if_pos VI]
 ·rw [if_neg h1,if_neg VI]
abbrev rds(n:Nat)(a b u v:Nat->Int):AV:= .lst 4 n (λk=>[i (a k),i (b k),i (u k),i (v k)])
abbrev QV:AV:=AV.x (.pointer none)
abbrev X5(n:Nat)(a:Nat->Int)(b:Nat->Int)(u:Nat->Int)(v:Nat->Int):AV:=lst 4 n λk=>[iI (a k),iI (b k),iI (u k),iI (v k)]
section
variable (c:Nat)(T lo hi:Int)(n:Nat)(a b u v:Nat->Int)
def Zp1:St:={σ:=[agg [iI (c:Int),iI T,iI lo,iI hi],X5 n a b u v,ptr 0 0,top,QV,AV.lit false,ptr 5 0]++HG 15 [iI ((c:Int)+1)]++HG 155 [],m:=[(5,GM.ints 343 [] 125 λa=>U7 ([(c:Int),T,lo,hi]++bC 121) a),(0,GM.cells 122 [iI (c:Int),iI T,iI lo,iI hi])],nx:=11}
noncomputable def Zr4:Code:=U8 (VQ (U6 Tryz.f209) 0)
def Wg9(k:Nat):St:=(upE [(23,i k)] [(5,.ints 343 [] 125 (UB c T lo hi (ini c k 0))),(0,.cells 122 [i c,i T,i lo,i hi])] (Zp1 c T lo hi n a b u v))
def CH(k:Nat):G6->Option St
 | .exit 0=>some (upE [(23,i ((c:Int)+1))] [(5,.ints 343 [] 125 (UB c T lo hi (ini c (c+1) 0))),(0,.cells 122 [i c,i T,i lo,i hi])] (Zp1 c T lo hi n a b u v))
 |_=>none
def Jj3:CT:= .leaf (.exit 0,(CH c T lo hi n a b u v 0 (.exit 0)).getD (Zp1 c T lo hi n a b u v))
def Xu6:UH:=GJ [] (HF (Wg9 c T lo hi n a b u v (0)) (Jj3 c T lo hi n a b u v))
def Zp0(k:Nat):St:={σ:=[agg [iI (c:Int),iI T,iI lo,iI hi],X5 n a b u v,ptr 0 0,top,QV,AV.lit false,ptr 5 0,iI (k:Int)]++HG 14 [iI ((c:Int)+1),iI (k:Int),top,top,top,top,iI ((c:Int)+1)]++HG 149 [],m:=[(5,GM.ints 343 [] 125 λk_1=>UB (c:Int) T lo hi (ini c k 0) k_1),(0,GM.cells 122 [iI (c:Int),iI T,iI lo,iI hi])],nx:=18}
noncomputable def Jn9:Code:=(U8 (VQ (U8 (VQ (U6 Tryz.f209) 0)) 0))
def Wg8(k:Nat)(j:Nat):St:=(upE [(29,i j)] [(5,.ints 343 [] 125 (UB c T lo hi (ini c k j))),(0,.cells 122 [i c,i T,i lo,i hi])] (Zp0 c T lo hi n a b u v k))
def CG(k:Nat)(j:Nat):G6->Option St
 | .exit 2=>some (upE [(29,i ((c:Int)+1))] [(5,.ints 343 [] 125 (UB c T lo hi (ini c k (c+1)))),(0,.cells 122 [i c,i T,i lo,i hi])] (Zp0 c T lo hi n a b u v k))
 |_=>none
def Jj2(k:Nat):CT:= .leaf (.exit 2,(CG c T lo hi n a b u v k 0 (.exit 2)).getD (Zp0 c T lo hi n a b u v k))
def Xu5(k:Nat):UH:=GJ [] (HF (Wg8 c T lo hi n a b u v k (0)) (Jj2 c T lo hi n a b u v k))
end
abbrev Q4(n:Nat)(a:Nat->Int)(b:Nat->Int)(u:Nat->Int)(v:Nat->Int):Prop:=(X5 n a b u v)=lst 4 n λk=>[iI (a k),iI (b k),iI (u k),iI (v k)]
abbrev X6:Prop:=AV.lit false=AV.lit false
noncomputable abbrev XF:Ext:={R:=[],H:=[(231,Qi1)] }
abbrev XI:Prop:=ptr 0 0=ptr 0 0
abbrev XU:Prop:=ptr 5 0=ptr 5 0
section
variable (c:Nat)(T lo hi:Int)(n:Nat)(a b u v:Nat->Int)
theorem Zz1(k:Nat)(VR:1<=c/\c<=10)(UE:1<=lo/\lo<=hi/\hi<=200/\1<=T/\T<=2000)(HP:k<=c):G7 VN (.loop Jn9) (Xu5 c T lo hi n a b u v k):=by
 refine UX [] (L:=[]) (VJ.cons LQ (VJ.nil _)) (VV.of (VP.nil _) (VM.cons LG (VM.nil _))) VY U2 (X:=Nat) (Wg8 c T lo hi n a b u v k) (λj=>j<=c+1) (λj=>c+1-j) (CG c T lo hi n a b u v k) (x0:=0) VU ?_ ?_ ?_
 ·rintro j;kernel_rfl
 ·rintro j y E h;unfold CG at h;split at h
  ·cases h;kernel_rfl
  ·cases h
 ·rintro Q hQ j hx;refine ⟨(j+1),?_⟩;(with_reducible refine DF (t:=let z0:=(VX ((c:Int)+1));let z1:=(VX (agg [iI (c:Int),iI T,iI lo,iI hi]));(branch (decide ((j:Int)<(c:Int)+1)) (branch ((k:Int) != (j:Int)) (need [UI k 11] (need [UI j 11] (need [j*1+(k*11+4)+1<=125] (need [VK ((j:Int)+1)] (need [z1,Q4 n a b u v,XI,QV=QV,X6,XU,VX (k:Int),z0,VX (k:Int),z0,(j:Int)+1=(↑(j+1):Int),125=125,GT 125 (UO (j*1+(k*11+4)) (2000:Int) (UB (c:Int) T lo hi (ini c k j))) (UB (c:Int) T lo hi (ini c k (j+1))),VX (c:Int),T=T,lo=lo,hi=hi] (leaf G6.normal)))))) (need [VK ((j:Int)+1)] (need [z1,Q4 n a b u v,XI,QV=QV,X6,XU,VX (k:Int),z0,VX (k:Int),z0,(j:Int)+1=(↑(j+1):Int),125=125,GT 125 (UB (c:Int) T lo hi (ini c k j)) (UB (c:Int) T lo hi (ini c k (j+1))),VX (c:Int),T=T,lo=lo,hi=hi] (leaf G6.normal)))) (need [z1,Q4 n a b u v,XI,QV=QV,X6,XU,VX (k:Int),z0,VX (k:Int),z0,(j:Int)=(c:Int)+1,125=125,GT 125 (UB (c:Int) T lo hi (ini c k j)) (UB (c:Int) T lo hi (ini c k (c+1))),VX (c:Int),T=T,lo=lo,hi=hi] (leaf (G6.exit 2))))) VS ?_);simp only [Jj2,CG,VL.sat,GS] at hQ;simp only [VL.sat,UA,UZ,GI,UC,VK,UG,H9,R0,RF,L1,GL,CG]
  refine ⟨λh=>⟨λhne=>?_,λheq=>?_⟩,λh=>?_⟩
  ·(with_reducible repeat' first|apply And.intro|intro _)
   all_goals first|exact P7|(exact (c7 c T lo hi _ VI VI _ _).trans (yT c T lo hi (λx y _ _=>Wj7 c k j VI VI x y) (by assumption)))
  ·obtain rfl:k=j:=VI
   (with_reducible repeat' first|apply And.intro|intro _)
   all_goals first|exact P7|(exact yT c T lo hi (λx y _ _=>Wj8 c k x y) (by assumption))
  ·obtain rfl:j=c+1:=VI
   (with_reducible repeat' first|apply And.intro|intro _)
   all_goals first|exact True.intro|omega|with_reducible rfl|(rename_i E hE;cases hE;exact hQ)|rfl
theorem Zz2(VR:1<=c/\c<=10)(UE:1<=lo/\lo<=hi/\hi<=200/\1<=T/\T<=2000):G7 VN (.loop Zr4) (Xu6 c T lo hi n a b u v):=by
 refine UX [] (L:=[BF 7 (λk=>FO [k<=c] (Xu5 c T lo hi n a b u v k))]) (VJ.cons LQ (VJ.nil _)) (VV.of (VP.nil _) (VM.cons LG (VM.nil _))) VY (G0 (λcj hcj=>by
  have e:VQ Zr4 0=some (.loop Jn9):=VS;rw [e] at hcj;cases hcj;exact P2 (λk=>D0 (λh=>Zz1 c T lo hi n a b u v k VR UE h)))) (X:=Nat) (Wg9 c T lo hi n a b u v) (λk=>k<=c+1) (λk=>c+1-k) (CH c T lo hi n a b u v) (x0:=0) VU ?_ ?_ ?_
 ·rintro k;kernel_rfl
 ·rintro k y E h;unfold CH at h;split at h
  ·cases h;kernel_rfl
  ·cases h
 ·rintro Q hQ k hx;refine ⟨(k+1),?_⟩;(with_reducible refine DF (t:=let z0:=(VX (agg [iI (c:Int),iI T,iI lo,iI hi]));let z1:=(VX ((c:Int)+1));(branch (decide ((k:Int)<(c:Int)+1)) (need [VK ((c:Int)+1)] (need [k<=c] (need [z0,Q4 n a b u v,XI,QV=QV,X6,XU,VX (k:Int),z1,VX (k:Int),z1,(0:Int)=(↑(0:Nat):Int),125=125,GN 125 (UB (c:Int) T lo hi (ini c k 0)),VX (c:Int),T=T,lo=lo,hi=hi] (need [VK ((k:Int)+1)] (need [z0,Q4 n a b u v,XI,QV=QV,X6,XU,z1,(k:Int)+1=(↑(k+1):Int),125=125,GT 125 (UB (c:Int) T lo hi (ini c k (c+1))) (UB (c:Int) T lo hi (ini c (k+1) 0)),VX (c:Int),T=T,lo=lo,hi=hi] (leaf G6.normal)))))) (need [z0,Q4 n a b u v,XI,QV=QV,X6,XU,z1,(k:Int)=(c:Int)+1,125=125,GT 125 (UB (c:Int) T lo hi (ini c k 0)) (UB (c:Int) T lo hi (ini c (c+1) 0)),VX (c:Int),T=T,lo=lo,hi=hi] (leaf (G6.exit 0))))) VS ?_);simp only [Jj3,CH,VL.sat,GS] at hQ;simp only [VL.sat,UA,UZ,GI,UC,VK,UG,H9,R0,RF,L1,GL,CH]
  refine ⟨λh=>?_,λh=>?_⟩
  ·(with_reducible repeat' first|apply And.intro|intro _)
   all_goals first|exact P7|(exact yT c T lo hi (λx y _ _=>Xf1 c k x y) (by assumption))
  ·obtain rfl:k=c+1:=VI
   (with_reducible repeat' first|apply And.intro|intro _)
   all_goals first|exact True.intro|omega|with_reducible rfl|(rename_i E hE;cases hE;exact hQ)|rfl
end
def cel(c:Nat)(lo hi:Int):Nat->Nat->Nat->Int
 | 0=>ini c (c+1) 0
 |k+1=>bnd (bnd (cel c lo hi k) k (k+1) hi) (k+1) k (-lo)
theorem zP{c T lo hi:Int}{M:Nat->Nat->Int}{a b q:Nat}{v:Int}(hq:q=4+a*11+b)(hb:b<11):UO q (min (UB c T lo hi M q) v) (UB c T lo hi M)=UB c T lo hi (bnd M a b v):=by
 funext k;rw [c7 c T lo hi M hq hb,BY c T lo hi M hq hb];rfl
section
variable (c:Nat)(T lo hi:Int)(n:Nat)(a b u v:Nat->Int)
def Zo9:St:={σ:=[agg [iI (c:Int),iI T,iI lo,iI hi],X5 n a b u v,ptr 0 0,top,QV,AV.lit false,ptr 5 0]++HG 15 [iI ((c:Int)+1),iI ((c:Int)+1)]++HG 21 [iI (c:Int)]++HG 132 [],m:=[(5,GM.ints 343 [] 125 λk=>UB (c:Int) T lo hi (ini c (c+1) 0) k),(0,GM.cells 122 [iI (c:Int),iI T,iI lo,iI hi])],nx:=14}
noncomputable def Jn8:Code:=U8 (VQ (U6 Tryz.f209) 1)
def Wg7(k:Nat):St:=(upE [(46,i k)] [(5,.ints 343 [] 125 (UB c T lo hi (cel c lo hi k))),(0,.cells 122 [i c,i T,i lo,i hi])] (Zo9 c T lo hi n a b u v))
def CF(k:Nat):G6->Option St
 | .exit 4=>some (upE [(46,i c)] [(5,.ints 343 [] 125 (UB c T lo hi (cel c lo hi c))),(0,.cells 122 [i c,i T,i lo,i hi])] (Zo9 c T lo hi n a b u v))
 |_=>none
def Jj1:CT:= .leaf (.exit 4,(CF c T lo hi n a b u v 0 (.exit 4)).getD (Zo9 c T lo hi n a b u v))
def Xu4:UH:=GJ [] (HF (Wg7 c T lo hi n a b u v (0)) (Jj1 c T lo hi n a b u v))
theorem Zz0(VR:1<=c/\c<=10)(UE:1<=lo/\lo<=hi/\hi<=200/\1<=T/\T<=2000):G7 VN (.loop Jn8) (Xu4 c T lo hi n a b u v):=by
 refine UX [] (L:=[]) (VJ.cons LQ (VJ.nil _)) (VV.of (VP.nil _) (VM.cons LG (VM.nil _))) VY U2 (X:=Nat) (Wg7 c T lo hi n a b u v) (λk=>k<=c) (λk=>c-k) (CF c T lo hi n a b u v) (x0:=0) VU ?_ ?_ ?_
 ·rintro k;kernel_rfl
 ·rintro k y E h;unfold CF at h;split at h
  ·cases h;kernel_rfl
  ·cases h
 ·rintro Q hQ k hx;refine ⟨(k+1),?_⟩;(with_reducible refine DF (t:=let z0:=(UB (c:Int) T lo hi (cel c lo hi k) (((k:Int)+1).toNat*1+(k*11+4)));let z1:=(UO (((k:Int)+1).toNat*1+(k*11+4)) (min z0 hi) (UB (c:Int) T lo hi (cel c lo hi k)) (k*1+(((k:Int)+1).toNat*11+4)));let z2:=(VX ((c:Int)+1));(branch (decide ((k:Int)<(c:Int))) (need [VK ((k:Int)+1)] (need [UI k 11] (need [UI ((k:Int)+1) 11] (need [((k:Int)+1).toNat*1+(k*11+4)<125] (need [UI k 11] (need [UI ((k:Int)+1) 11] (need [((k:Int)+1).toNat*1+(k*11+4)+List.length [min z0 hi]<=125] (need [VK ((k:Int)+1)] (need [VK (-lo)] (need [UI ((k:Int)+1) 11] (need [UI k 11] (need [k*1+(((k:Int)+1).toNat*11+4)<125] (need [UI ((k:Int)+1) 11] (need [UI k 11] (need [k*1+(((k:Int)+1).toNat*11+4)+List.length [min z1 (-lo)]<=125] (need [VK ((k:Int)+1)] (need [VX (agg [iI (c:Int),iI T,iI lo,iI hi]),Q4 n a b u v,XI,QV=QV,X6,XU,z2,z2,VX (c:Int),(k:Int)+1=(↑(k+1):Int),125=125,GT 125 (UO (k*1+(((k:Int)+1).toNat*11+4)) (min z1 (-lo)) (j5 (((k:Int)+1).toNat*1+(k*11+4)) [min z0 hi] (UB (c:Int) T lo hi (cel c lo hi k)))) (UB (c:Int) T lo hi (cel c lo hi (k+1))),VX (c:Int),T=T,lo=lo,hi=hi] (leaf G6.normal)))))))))))))))))) (need [VX (agg [iI (c:Int),iI T,iI lo,iI hi]),Q4 n a b u v,XI,QV=QV,X6,XU,z2,z2,VX (c:Int),(k:Int)=(c:Int),125=125,GT 125 (UB (c:Int) T lo hi (cel c lo hi k)) (UB (c:Int) T lo hi (cel c lo hi c)),VX (c:Int),T=T,lo=lo,hi=hi] (leaf (G6.exit 4))))) VS ?_);simp only [Jj1,CF,VL.sat,GS] at hQ;simp only [VL.sat,UA,UZ,GI,UC,VK,UG,H9,R0,RF,L1,GL,CF]
  refine ⟨λh=>?_,λh=>?_⟩
  ·have h1: ∀M v,UO (((k:Int)+1).toNat*1+(k*11+4)) (min (UB c T lo hi M (((k:Int)+1).toNat*1+(k*11+4))) v) (UB c T lo hi M)=UB c T lo hi (bnd M k (k+1) v):=λM v=>zP VI VI
   have h2: ∀M v,UO (k*1+(((k:Int)+1).toNat*11+4)) (min (UB c T lo hi M (k*1+(((k:Int)+1).toNat*11+4))) v) (UB c T lo hi M)=UB c T lo hi (bnd M (k+1) k v):=λM v=>zP VI VI
   simp only [h1,h2]
   (with_reducible repeat' first|apply And.intro|intro _)
   all_goals first|exact True.intro|omega|with_reducible rfl|(rename_i E hE;cases hE;exact hQ)|rfl
  ·obtain rfl:k=c:=VI
   (with_reducible repeat' first|apply And.intro|intro _)
   all_goals first|exact True.intro|omega|with_reducible rfl|(rename_i E hE;cases hE;exact hQ)|rfl
end
def rdS(c:Nat)(M:Nat->Nat->Int)(a b u v:Int):Nat->Nat->Int:=if b<(c:Int) then bnd (bnd M a.toNat b.toNat v) (b+1).toNat a.toNat (-u-1) else bnd M a.toNat b.toNat v
def rdM(c:Nat)(T lo hi:Int)(a b u v:Nat->Int):Nat->Nat->Nat->Int
 | 0=>bnd (bnd (cel c lo hi c) 0 c T) c 0 (-T)
 |j+1=>rdS c (rdM c T lo hi a b u v j) (a j) (b j) (u j) (v j)
def rdV(a b u v:Int):Value:= .agg #[.int .i64 a,.int .i64 b,.int .i64 u,.int .i64 v]
def sn(a b u v:Nat->Int)(k:Nat)(x:Value):Prop:= ∃j,j<k/\x=rdV (a j) (b j) (u j) (v j)
def Jb5(x:Value):Prop:= ∃a b u v,x=rdV a b u v
theorem Wa4(a b u v:Int)(e:UJ)(w:World):Rep e w (.agg [i a,i b,i u,i v]) (rdV a b u v):=
 Rep.aggL (U1.cons (.x _) (U1.cons (.x _) (U1.cons (.x _) (U1.one (.x _)))))
theorem Ql6(a b u v:Int):FC Tryz.prog 345 Jb5 (rdV a b u v) (.bool false):=by
 refine ⟨⟨72,4,(match Tryz.prog.underlying 72 with|some (.struct fs)=>fs|_=>#[]),VS,VS,?_,?_,?_⟩,by simp [Instr.sameBits,rdV]⟩
 ·intro b' w;kernel_rfl
 ·rintro k' ⟨a',b',u',v',rfl⟩ w;refine ⟨a==a'&&(b==b'&&(u==u'&&(v==v'&&true)&&true)),xG (P:=Tryz.prog) (e:=PD w w) Op.maxDepth 72 (.agg [i a,i b,i u,i v]) (.agg [i a',i b',i u',i v']) _ _ _ VS (Wa4 ..) (Wa4 ..),λh=>?_⟩
  simp only [Bool.and_true,H2,beq_iff_eq] at h;obtain ⟨rfl,rfl,rfl,rfl⟩:=h;rfl
 ·intro w;kernel_rfl
theorem Xq0{a b u v:Nat->Int}{k:Nat}{x:Value}(h:sn a b u v k x):Jb5 x:=by
 obtain ⟨j,_,h⟩:=h;exact ⟨_,_,_,_,h⟩
section
variable (M:Nat->Nat->Int)(a b:Nat)(v:Int)
theorem wL(x y:Nat):bnd M a b v x y<=M x y:=by
 unfold bnd wU;split
 ·rename_i h;rw [h.1,h.2];omega
 ·omega
theorem aG:bnd M a b v a b<=v:=by
 unfold bnd wU;rw [if_pos ⟨rfl,rfl⟩];omega
end
theorem Ws2{M:Nat->Nat->Int}{a b:Nat}{v:Int}(h:M a b<=v):bnd M a b v=M:=by
 funext x y;unfold bnd wU;split
 ·rename_i h';rw [h'.1,h'.2];omega
 ·rfl
section
variable (c:Nat)(M:Nat->Nat->Int)(a b u v:Int)
theorem Zf2(x y:Nat):rdS c M a b u v x y<=M x y:=by
 unfold rdS;split
 ·exact Int.le_trans (wL _ _ _ _ _ _) (wL _ _ _ _ _ _)
 ·exact wL _ _ _ _ _ _
theorem Zf4:rdS c M a b u v a.toNat b.toNat<=v/\(b<c->rdS c M a b u v (b+1).toNat a.toNat<= -u-1):=by
 unfold rdS;split
 ·exact ⟨Int.le_trans (wL _ _ _ _ _ _) (aG _ _ _ _),λ_=>aG _ _ _ _⟩
 ·exact ⟨aG _ _ _ _,λh=>VI⟩
end
theorem Zf3{c:Nat}{M:Nat->Nat->Int}{a b u v:Int}(h:M a.toNat b.toNat<=v)(h2:b<c->M (b+1).toNat a.toNat<= -u-1):rdS c M a b u v=M:=by
 unfold rdS;rw [Ws2 h];split
 ·rename_i hb;exact Ws2 (h2 hb)
 ·rfl
theorem C4(c:Nat)(T lo hi:Int)(a b u v:Nat->Int)(j:Nat): ∀(k:Nat),j<=k-> ∀x y,rdM c T lo hi a b u v k x y<=rdM c T lo hi a b u v j x y
 | 0,h,x,y=>by
           obtain rfl:j=0:=VI;exact Int.le_refl _
 |k+1,h,x,y=>by
  rcases (show j=k+1\/j<=k by omega) with rfl|h
  ·exact Int.le_refl _
  ·exact Int.le_trans (Zf2 _ _ _ _ _ _ _ _) (C4 c T lo hi a b u v j k h x y)
theorem Wb0{c:Nat}{T lo hi:Int}{a b u v:Nat->Int}{k:Nat}(h:sn a b u v k (rdV (a k) (b k) (u k) (v k))):rdM c T lo hi a b u v (k+1)=rdM c T lo hi a b u v k:=by
 obtain ⟨j,hj,he⟩:=h;unfold rdV at he;injection he with he
 injection he with he
 have e:a k=a j/\b k=b j/\u k=u j/\v k=v j:=by simpa using he
 have h1:=Zf4 c (rdM c T lo hi a b u v j) (a j) (b j) (u j) (v j);have m:=C4 c T lo hi a b u v (j+1) k VI;refine Zf3 ?_ (λhb=>?_)
 ·rw [e.1,e.2.1,e.2.2.2];exact Int.le_trans (m _ _) h1.1
 ·rw [e.1,e.2.1,e.2.2.1];exact Int.le_trans (m _ _) (h1.2 (by rw [←e.2.1];exact hb))
section
variable (c:Nat)(T lo hi:Int)(n:Nat)(a b u v:Nat->Int)
def Zo8:St:={σ:=[agg [iI (c:Int),iI T,iI lo,iI hi],X5 n a b u v,ptr 0 0,top,QV,AV.lit false,ptr 5 0,top,top,top,AV.mp 63]++HG 11 [iI ((c:Int)+1),iI ((c:Int)+1)]++HG 21 [iI (c:Int),iI (c:Int)]++HG 34 [X5 n a b u v,iI (n:Int)]++HG 95 [],m:=[(63,GM.memo (λx=>False) λv=>v),(56,GM.row 3 1 2 (U4 1 [iI (UO (c*1+4) (min (UB (c:Int) T lo hi (cel c lo hi c) (c*1+4)) T) (UB (c:Int) T lo hi (cel c lo hi c)) (0+(c*11+4))),iI (-T)])),(31,GM.row 3 1 2 (U4 1 [iI (UB (c:Int) T lo hi (cel c lo hi c) (c*1+4)),iI T])),(5,GM.ints 343 [] 125 λa=>UO (0+(c*11+4)) (min (UO (c*1+4) (min (UB (c:Int) T lo hi (cel c lo hi c) (c*1+4)) T) (UB (c:Int) T lo hi (cel c lo hi c)) (0+(c*11+4))) (-T)) (j5 (c*1+4) [min (UB (c:Int) T lo hi (cel c lo hi c) (c*1+4)) T] (UB (c:Int) T lo hi (cel c lo hi c))) a),(0,GM.cells 122 [iI (c:Int),iI T,iI lo,iI hi])],nx:=68}
noncomputable def Jn7:Code:=U8 (VQ (U6 Tryz.f209) 2)
def Wg6(k:Nat):St:=(upE [(83,i k)] [(5,.ints 343 [] 125 (UB c T lo hi (rdM c T lo hi a b u v k))),(0,.cells 122 [i c,i T,i lo,i hi]),(63,.memo (sn a b u v k) (λ_=> .bool true))] (Zo8 c T lo hi n a b u v))
def CE(k:Nat):G6->Option St
 | .exit 6=>some (upE [(83,i n)] [(5,.ints 343 [] 125 (UB c T lo hi (rdM c T lo hi a b u v n))),(0,.cells 122 [i c,i T,i lo,i hi]),(63,.memo (sn a b u v n) (λ_=> .bool true))] (Zo8 c T lo hi n a b u v))
 |_=>none
def Jj0:CT:= .leaf (.exit 6,(CE c T lo hi n a b u v 0 (.exit 6)).getD (Zo8 c T lo hi n a b u v))
def Xu3:UH:=GJ [] (HF (Wg6 c T lo hi n a b u v (0)) (Jj0 c T lo hi n a b u v))
abbrev ZH:Prop:=AV.mp 63=AV.mp 63
theorem Zy7(VR:1<=c/\c<=10)(UE:1<=lo/\lo<=hi/\hi<=200/\1<=T/\T<=2000)(HP:n<=1000)(DZ:D4 (λk=>rdB c (a k) (b k) (u k) (v k)) n=true):G7 VN (.loop Jn7) (Xu3 c T lo hi n a b u v):=by
 refine UX [] (L:=[]) (VJ.cons LQ (VJ.nil _)) (VV.of (VP.nil _) (VM.cons LG (VM.nil _))) VY U2 (X:=Nat) (Wg6 c T lo hi n a b u v) (λk=>k<=n) (λk=>n-k) (CE c T lo hi n a b u v) (x0:=0) VU ?_ ?_ ?_
 ·rintro k;kernel_rfl
 ·rintro k y E h;unfold CE at h;split at h
  ·cases h;kernel_rfl
  ·cases h
 ·rintro Q hQ k hx;refine ⟨(k+1),?_⟩;(with_reducible refine DF (t:=let z9:=sn a b u v k;let z3:=(Value.agg #[Value.int IntKind.i64 (a k),Value.int IntKind.i64 (b k),Value.int IntKind.i64 (u k),Value.int IntKind.i64 (v k)]);let z7:=(rdM c T lo hi a b u v k);let z2:=(UB (c:Int) T lo hi z7 ((b k).toNat*1+((a k).toNat*11+4)));let z10:=(UB (c:Int) T lo hi z7);let z5:=(UO ((b k).toNat*1+((a k).toNat*11+4)) (min z2 (v k)) z10 ((a k).toNat*1+((b k+1).toNat*11+4)));let z6:=(VX (agg [iI (c:Int),iI T,iI lo,iI hi]));let z8:=Q4 n a b u v;let z4:=(VX ((c:Int)+1));let z11:=(rdM c T lo hi a b u v (k+1));let z0:=(need [∀(u_1:Value),z9 u_1->Value.bool true=Value.bool true,FC Tryz.prog 345 (λu_1=>z9 u_1\/u_1=Value.agg #[Value.int IntKind.i64 (a k),Value.int IntKind.i64 (b k),Value.int IntKind.i64 (u k),Value.int IntKind.i64 (v k)]) z3 (YG)] (need [UI (a k) 11] (need [UI (b k) 11] (need [(b k).toNat*1+((a k).toNat*11+4)<125] (need [UI (a k) 11] (need [UI (b k) 11] (need [(b k).toNat*1+((a k).toNat*11+4)+List.length [min z2 (v k)]<=125] (branch (decide (b k<(c:Int))) (need [VK (b k+1)] (need [VK (-u k)] (need [VK (-u k-1)] (need [UI (b k+1) 11] (need [UI (a k) 11] (need [(a k).toNat*1+((b k+1).toNat*11+4)<125] (need [UI (b k+1) 11] (need [UI (a k) 11] (need [(a k).toNat*1+((b k+1).toNat*11+4)+List.length [min z5 (-u k-1)]<=125] (need [VK ((k:Int)+1)] (need [z6,z8,XI,QV=QV,X6,XU,ZH,z4,z4,VX (c:Int),VX (c:Int),z8,VX (n:Int),(k:Int)+1=(↑(k+1):Int),125=125,GT 125 (UO ((a k).toNat*1+((b k+1).toNat*11+4)) (min z5 (-u k-1)) (j5 ((b k).toNat*1+((a k).toNat*11+4)) [min z2 (v k)] z10)) (UB (c:Int) T lo hi z11),VX (c:Int),T=T,lo=lo,hi=hi,∀(k_1:Value),z9 k_1\/k_1=Value.agg #[Value.int IntKind.i64 (a k),Value.int IntKind.i64 (b k),Value.int IntKind.i64 (u k),Value.int IntKind.i64 (v k)]->sn a b u v (k+1) k_1/\Value.bool true=Value.bool true] (leaf G6.normal)))))))))))) (need [VK ((k:Int)+1)] (need [z6,z8,XI,QV=QV,X6,XU,ZH,z4,z4,VX (c:Int),VX (c:Int),z8,VX (n:Int),(k:Int)+1=(↑(k+1):Int),125=125,GT 125 (UO ((b k).toNat*1+((a k).toNat*11+4)) (min z2 (v k)) z10) (UB (c:Int) T lo hi z11),VX (c:Int),T=T,lo=lo,hi=hi,∀(k_1:Value),z9 k_1\/k_1=Value.agg #[Value.int IntKind.i64 (a k),Value.int IntKind.i64 (b k),Value.int IntKind.i64 (u k),Value.int IntKind.i64 (v k)]->sn a b u v (k+1) k_1/\Value.bool true=Value.bool true] (leaf G6.normal)))))))))));let z1:=(need [VK ((k:Int)+1)] (need [z6,z8,XI,QV=QV,X6,XU,ZH,z4,z4,VX (c:Int),VX (c:Int),z8,VX (n:Int),(k:Int)+1=(↑(k+1):Int),125=125,GT 125 (UB (c:Int) T lo hi z7) (UB (c:Int) T lo hi z11),VX (c:Int),T=T,lo=lo,hi=hi,∀(k_1:Value),z9 k_1->sn a b u v (k+1) k_1/\Value.bool true=Value.bool true] (leaf G6.normal)));(branch (decide ((k:Int)<(n:Int))) (need [UI k n] (need [FC Tryz.prog 345 (z9) z3 (YG)] (VL.may (z9 z3) (branch true z1 z0) (branch false z1 z0)))) (need [z6,z8,XI,QV=QV,X6,XU,ZH,z4,z4,VX (c:Int),VX (c:Int),z8,VX (n:Int),(k:Int)=(n:Int),125=125,GT 125 (UB (c:Int) T lo hi z7) (UB (c:Int) T lo hi (rdM c T lo hi a b u v n)),VX (c:Int),T=T,lo=lo,hi=hi,∀(k_1:Value),z9 k_1->sn a b u v n k_1/\Value.bool true=Value.bool true] (leaf (G6.exit 6))))) VS ?_)
  simp only [Jj0,CE,VL.sat,GS] at hQ;simp only [VL.sat,UA,UZ,GI,UC,VK,UG,H9,R0,RF,L1,GL,CE]
  have hv: ∀j,j<n->(0<=a j/\a j<=c-1)/\(a j<=b j/\b j<=c)/\0<=u j/\u j<=v j/\v j<=2000:=by
   intro j hj;have:=GR.1 DZ j hj;simp only [rdB,H2,bt_iff,insB_iff] at this;omega
  refine ⟨λh=>?_,λh=>?_⟩
  ·have hk:=hv k VI;have mk:=Ql6 (a k) (b k) (u k) (v k);have q1:FC Tryz.prog 345 (sn a b u v k) (rdV (a k) (b k) (u k) (v k)) (.bool false):=mk.mono (λx hx=>Xq0 hx)
   have q2:FC Tryz.prog 345 (λx=>sn a b u v k x\/x=rdV (a k) (b k) (u k) (v k)) (rdV (a k) (b k) (u k) (v k)) (.bool false):=mk.mono (λx hx=>hx.elim Xq0 (λhe=>⟨_,_,_,_,he⟩))
   have sn1: ∀x,sn a b u v k x->sn a b u v (k+1) x:=λx ⟨j,hj,he⟩=>⟨j,VI,he⟩
   have sn2:sn a b u v (k+1) (rdV (a k) (b k) (u k) (v k)):=⟨k,VI,rfl⟩;refine ⟨VI,q1,λhs=>⟨λ_=>?_,λhc=>absurd hc (by decide)⟩,λhc=>absurd hc (by decide),λ_=>?_⟩
   ·rw [Wb0 hs]
    (with_reducible repeat' first|apply And.intro|intro _)
    all_goals first|exact P7|(exact sn1 _ (by assumption))
   ·have h1: ∀M w,UO ((b k).toNat*1+((a k).toNat*11+4)) (min (UB c T lo hi M ((b k).toNat*1+((a k).toNat*11+4))) w) (UB c T lo hi M)=UB c T lo hi (bnd M (a k).toNat (b k).toNat w):=λM w=>zP VI VI
    refine ⟨⟨λ_ _=>trivial,q2⟩,?_⟩
    simp only [h1];refine ⟨VI,VI,VI,VI,VI,VI,λhb=>?_,λhb=>?_⟩
    ·have h2: ∀M w,UO ((a k).toNat*1+((b k+1).toNat*11+4)) (min (UB c T lo hi M ((a k).toNat*1+((b k+1).toNat*11+4))) w) (UB c T lo hi M)=UB c T lo hi (bnd M (b k+1).toNat (a k).toNat w):=λM w=>zP VI VI
     have e3:rdM c T lo hi a b u v (k+1)=bnd (bnd (rdM c T lo hi a b u v k) (a k).toNat (b k).toNat (v k)) (b k+1).toNat (a k).toNat (-u k-1):=by
      show rdS _ _ _ _ _ _=_;unfold rdS;rw [if_pos hb]
     simp only [h2,e3];exact VG
    ·have e3:rdM c T lo hi a b u v (k+1)=bnd (rdM c T lo hi a b u v k) (a k).toNat (b k).toNat (v k):=by
      show rdS _ _ _ _ _ _=_;unfold rdS;rw [if_neg hb]
     simp only [e3];exact VG
  ·obtain rfl:k=n:=VI
   (with_reducible repeat' first|apply And.intro|intro _)
   all_goals first|exact P7|(assumption)
end
def fwS(M:Nat->Nat->Int)(o f t:Nat):Nat->Nat->Int:=bnd M f t (M f o+M o t)
def fwT(M:Nat->Nat->Int)(o f:Nat):Nat->Nat->Nat->Int
 | 0=>M
 |t+1=>fwS (fwT M o f t) o f t
def fwF(c:Nat)(M:Nat->Nat->Int)(o:Nat):Nat->Nat->Nat->Int
 | 0=>M
 |f+1=>fwT (fwF c M o f) o f (c+1)
def fwO(c:Nat)(M:Nat->Nat->Int):Nat->Nat->Nat->Int
 | 0=>M
 |o+1=>fwF c (fwO c M o) o (c+1)
def LB(B:Int)(M:Nat->Nat->Int):Prop:= ∀x y,-B<=M x y/\M x y<=2000
def JB(B:Int)(o f t:Nat)(M:Nat->Nat->Int):Prop:= ∀x y,M x y<=2000/\ -(6*B)<=M x y/\(x=o-> -(3*B)<=M x y)/\(y=o-> -(3*B)<=M x y)/\(x=o->y=o-> -(2*B)<=M x y)/\(¬(x<f\/(x=f/\y<t))-> -B<=M x y)
theorem Wy1{B:Int}{o:Nat}{M:Nat->Nat->Int}(hB:0<=B)(h:LB B M):JB B o 0 0 M:=by
 intro x y;have:=h x y;refine ⟨VI,VI,λ_=>VI,λ_=>VI,λ_ _=>VI,λ_=>VI⟩
theorem Xm2{B:Int}{o f t:Nat}{M:Nat->Nat->Int}(hB:0<=B)(h:JB B o f t M):JB B o f (t+1) (fwS M o f t):=by
 have hft:=h f t;have hfo:=h f o;have hot:=h o t;have hoo:=h o o;have hn:=hft.2.2.2.2.2 VI;intro x y;have hxy:=h x y;unfold fwS bnd wU;by_cases hc:x=f/\y=t
 ·exact V1
 ·rw [if_neg hc];exact ⟨hxy.1,hxy.2.1,hxy.2.2.1,hxy.2.2.2.1,hxy.2.2.2.2.1,λhv=>hxy.2.2.2.2.2 VI⟩
theorem Zo0{B:Int}{o f:Nat}{M:Nat->Nat->Int}(hB:0<=B)(h:JB B o f 0 M): ∀t,JB B o f t (fwT M o f t)
 | 0=>h
 |t+1=>Xm2 hB (Zo0 hB h t)
theorem Zn9{B:Int}{o f t:Nat}{M:Nat->Nat->Int}(h:JB B o f t M):JB B o (f+1) 0 M:=by
 intro x y;have hxy:=h x y;exact ⟨hxy.1,hxy.2.1,hxy.2.2.1,hxy.2.2.2.1,hxy.2.2.2.2.1,λhv=>hxy.2.2.2.2.2 VI⟩
theorem Zo1{B:Int}{c o:Nat}{M:Nat->Nat->Int}(hB:0<=B)(h:LB B M): ∀f,JB B o f 0 (fwF c M o f)
 | 0=>Wy1 hB h
 |f+1=>Zn9 (Zo0 hB (Zo1 hB h f) (c+1))
theorem Zn8{c:Nat}{M:Nat->Nat->Int}(h:LB 2001 M): ∀o,LB (2001*6^o) (fwO c M o)
 | 0=>by
  rw [show (2001:Int)*6^0=2001 by decide]
  exact h
 |o+1=>by
  have ih:=Zn8 (c:=c) h o;have hp:(0:Int)<=2001*6^o:=Int.mul_nonneg VI (Int.pow_nonneg VI);have hj:=Zo1 (c:=c) (o:=o) hp ih (c+1);intro x y;have:=hj x y;have e:(2001:Int)*6^(o+1)=6*(2001*6^o):=by rw [Int.pow_succ];omega
  rw [e];exact ⟨this.2.1,this.1⟩
theorem Zz5: ∀o:Nat,o<=10->(6:Int)^o<=60466176:=by
 intro o ho;rcases (show o=0\/o=1\/o=2\/o=3\/o=4\/o=5\/o=6\/o=7\/o=8\/o=9\/o=10 by omega) with rfl|rfl|rfl|rfl|rfl|rfl|rfl|rfl|rfl|rfl|rfl<;>decide
theorem Je7{c:Nat}{M:Nat->Nat->Int}(h:LB 2001 M){o f t:Nat}(ho:o<=10)(x y:Nat): -800000000000<=fwT (fwF c (fwO c M o) o f) o f t x y/\fwT (fwF c (fwO c M o) o f) o f t x y<=2000:=by
 have ih:=Zn8 (c:=c) h o;have hp:(0:Int)<=2001*6^o:=Int.mul_nonneg VI (Int.pow_nonneg VI);have hj:=Zo0 hp (Zo1 (c:=c) (o:=o) hp ih f) t x y;have:=Zz5 o ho;omega
theorem vO{B:Int}{M:Nat->Nat->Int}(h:LB B M){a b:Nat}{v:Int}(hv: -B<=v):LB B (bnd M a b v):=by
 intro x y;have h1:=h a b;have h2:=h x y;unfold bnd wU;split<;>omega
theorem Wr4{c:Nat}{lo hi:Int}(h:1<=lo/\lo<=hi/\hi<=200): ∀k,LB 2001 (cel c lo hi k)
 | 0=>by
  intro x y;unfold cel ini;split<;>omega
 |k+1=>vO (vO (Wr4 h k) VI) VI
theorem nM{c:Nat}{T lo hi:Int}{a b u v:Nat->Int}{n:Nat}(h:1<=lo/\lo<=hi/\hi<=200/\1<=T/\T<=2000)(hv: ∀j,j<n->0<=u j/\u j<=v j/\v j<=2000): ∀k,k<=n->LB 2001 (rdM c T lo hi a b u v k)
 | 0,_=>vO (vO (Wr4 VI c) VI) VI
 |k+1,hk=>by
  have ih:=nM (c:=c) (a:=a) (b:=b) h hv k VI;have:=hv k VI;show LB 2001 (rdS _ _ _ _ _ _);unfold rdS;split
  ·exact vO (vO ih VI) VI
  ·exact vO ih VI
section
variable (c:Nat)(T lo hi:Int)(n:Nat)(a b u v:Nat->Int)
def t8:St:={σ:=[agg [iI (c:Int),iI T,iI lo,iI hi],X5 n a b u v,ptr 0 0,top,QV,AV.lit false,ptr 5 0,top,top,top,AV.mp 63]++HG 11 [iI ((c:Int)+1),iI ((c:Int)+1)]++HG 21 [iI (c:Int),iI (c:Int)]++HG 34 [X5 n a b u v,iI (n:Int),iI (n:Int)]++HG 37 [iI ((c:Int)+1)]++HG 56 [],m:=[(5,GM.ints 343 [] 125 λk=>UB (c:Int) T lo hi (rdM c T lo hi a b u v n) k),(0,GM.cells 122 [iI (c:Int),iI T,iI lo,iI hi]),(63,GM.memo (λx=>sn a b u v n x) λx=>Value.bool true)],nx:=72}
noncomputable def Qs6:Code:=U8 (VQ (U6 Tryz.f209) 3)
def EN(o:Nat):St:=(upE [(122,i o)] [(5,.ints 343 [] 125 (UB c T lo hi (fwO c (rdM c T lo hi a b u v n) o))),(0,.cells 122 [i c,i T,i lo,i hi])] (t8 c T lo hi n a b u v))
def qD(o:Nat):G6->Option St
 | .exit 8=>some (upE [(122,i ((c:Int)+1))] [(5,.ints 343 [] 125 (UB c T lo hi (fwO c (rdM c T lo hi a b u v n) (c+1)))),(0,.cells 122 [i c,i T,i lo,i hi])] (t8 c T lo hi n a b u v))
 |_=>none
def Wu5:CT:= .leaf (.exit 8,(qD c T lo hi n a b u v 0 (.exit 8)).getD (t8 c T lo hi n a b u v))
def mI:UH:=GJ [] (HF (EN c T lo hi n a b u v (0)) (Wu5 c T lo hi n a b u v))
def Zo7(o:Nat):St:={σ:=[agg [iI (c:Int),iI T,iI lo,iI hi],X5 n a b u v,ptr 0 0,top,QV,AV.lit false,ptr 5 0,top,top,top,AV.mp 63,top,top,iI (o:Int)]++HG 8 [iI ((c:Int)+1),iI ((c:Int)+1)]++HG 21 [iI (c:Int),iI (c:Int)]++HG 34 [X5 n a b u v,iI (n:Int),iI (n:Int)]++HG 37 [iI ((c:Int)+1),iI (o:Int),top,top,top,top,iI ((c:Int)+1)]++HG 50 [],m:=[(5,GM.ints 343 [] 125 λk=>UB (c:Int) T lo hi (fwO c (rdM c T lo hi a b u v n) o) k),(0,GM.cells 122 [iI (c:Int),iI T,iI lo,iI hi])],nx:=79}
noncomputable def Zr3:Code:=(U8 (VQ (U8 (VQ (U6 Tryz.f209) 3)) 0))
def Wg5(o:Nat)(f:Nat):St:=(upE [(128,i f)] [(5,.ints 343 [] 125 (UB c T lo hi (fwF c (fwO c (rdM c T lo hi a b u v n) o) o f))),(0,.cells 122 [i c,i T,i lo,i hi])] (Zo7 c T lo hi n a b u v o))
def CD(o:Nat)(f:Nat):G6->Option St
 | .exit 10=>some (upE [(128,i ((c:Int)+1))] [(5,.ints 343 [] 125 (UB c T lo hi (fwF c (fwO c (rdM c T lo hi a b u v n) o) o (c+1)))),(0,.cells 122 [i c,i T,i lo,i hi])] (Zo7 c T lo hi n a b u v o))
 |_=>none
def Ji9(o:Nat):CT:= .leaf (.exit 10,(CD c T lo hi n a b u v o 0 (.exit 10)).getD (Zo7 c T lo hi n a b u v o))
def Xu2(o:Nat):UH:=GJ [] (HF (Wg5 c T lo hi n a b u v o (0)) (Ji9 c T lo hi n a b u v o))
def b6(o:Nat)(f:Nat):St:={σ:=[agg [iI (c:Int),iI T,iI lo,iI hi],X5 n a b u v,ptr 0 0,top,QV,AV.lit false,ptr 5 0,top,top,top,AV.mp 63,top,top,iI (o:Int),iI (f:Int)]++HG 7 [iI ((c:Int)+1),iI ((c:Int)+1)]++HG 21 [iI (c:Int),iI (c:Int)]++HG 34 [X5 n a b u v,iI (n:Int),iI (n:Int)]++HG 37 [iI ((c:Int)+1),iI (o:Int),top,top,top,top,iI ((c:Int)+1),iI (f:Int),top,top,top,top,iI ((c:Int)+1)]++HG 44 [],m:=[(5,GM.ints 343 [] 125 λk=>UB (c:Int) T lo hi (fwF c (fwO c (rdM c T lo hi a b u v n) o) o f) k),(0,GM.cells 122 [iI (c:Int),iI T,iI lo,iI hi])],nx:=86}
noncomputable def Xa5:Code:=(U8 (VQ (U8 (VQ (U8 (VQ (U6 Tryz.f209) 3)) 0)) 0))
def EM(o:Nat)(f:Nat)(t:Nat):St:=(upE [(134,i t)] [(5,.ints 343 [] 125 (UB c T lo hi (fwT (fwF c (fwO c (rdM c T lo hi a b u v n) o) o f) o f t))),(0,.cells 122 [i c,i T,i lo,i hi])] (b6 c T lo hi n a b u v o f))
def PM(o:Nat)(f:Nat)(t:Nat):G6->Option St
 | .exit 12=>some (upE [(134,i ((c:Int)+1))] [(5,.ints 343 [] 125 (UB c T lo hi (fwT (fwF c (fwO c (rdM c T lo hi a b u v n) o) o f) o f (c+1)))),(0,.cells 122 [i c,i T,i lo,i hi])] (b6 c T lo hi n a b u v o f))
 |_=>none
def Wu4(o:Nat)(f:Nat):CT:= .leaf (.exit 12,(PM c T lo hi n a b u v o f 0 (.exit 12)).getD (b6 c T lo hi n a b u v o f))
def mH(o:Nat)(f:Nat):UH:=GJ [] (HF (EM c T lo hi n a b u v o f (0)) (Wu4 c T lo hi n a b u v o f))
theorem Wa3(o:Nat)(f:Nat)(VR:1<=c/\c<=10)(UE:1<=lo/\lo<=hi/\hi<=200/\1<=T/\T<=2000)(HP:n<=1000)(DZ:D4 (λk=>rdB c (a k) (b k) (u k) (v k)) n=true)(BM:o<=c)(z6:f<=c):G7 VN (.loop Xa5) (mH c T lo hi n a b u v o f):=by
 refine UX [] (L:=[]) (VJ.cons LQ (VJ.nil _)) (VV.of (VP.nil _) (VM.cons LG (VM.nil _))) VY U2 (X:=Nat) (EM c T lo hi n a b u v o f) (λt=>t<=c+1) (λt=>c+1-t) (PM c T lo hi n a b u v o f) (x0:=0) VU ?_ ?_ ?_
 ·rintro t;kernel_rfl
 ·rintro t y E h;unfold PM at h;split at h
  ·cases h;kernel_rfl
  ·cases h
 ·rintro Q hQ t hx;refine ⟨(t+1),?_⟩;(with_reducible refine DF (t:=let z2:=(fwF c (fwO c (rdM c T lo hi a b u v n) o) o f);let z0:=(fwT z2 o f t);let z1:=(VX ((c:Int)+1));let z3:=(UB (c:Int) T lo hi z0 (t*1+(f*11+4)));(branch (decide ((t:Int)<(c:Int)+1)) (need [UI f 11] (need [UI o 11] (need [o*1+(f*11+4)<125] (need [UI o 11] (need [UI t 11] (need [t*1+(o*11+4)<125] (need [VK (UB (c:Int) T lo hi z0 (o*1+(f*11+4))+UB (c:Int) T lo hi z0 (t*1+(o*11+4)))] (need [UI f 11] (need [UI t 11] (need [t*1+(f*11+4)<125] (need [UI f 11] (need [UI t 11] (need [t*1+(f*11+4)+List.length [min z3 (UB (c:Int) T lo hi z0 (o*1+(f*11+4))+UB (c:Int) T lo hi z0 (t*1+(o*11+4)))]<=125] (need [VK ((t:Int)+1)] (need [VX (agg [iI (c:Int),iI T,iI lo,iI hi]),Q4 n a b u v,XI,QV=QV,X6,XU,ZH,VX (o:Int),VX (f:Int),z1,z1,VX (c:Int),VX (c:Int),Q4 n a b u v,VX (n:Int),VX (n:Int),z1,VX (o:Int),z1,VX (f:Int),z1,(t:Int)+1=(↑(t+1):Int),125=125,GT 125 (UO (t*1+(f*11+4)) (min z3 (UB (c:Int) T lo hi z0 (o*1+(f*11+4))+UB (c:Int) T lo hi z0 (t*1+(o*11+4)))) (UB (c:Int) T lo hi z0)) (UB (c:Int) T lo hi (fwT z2 o f (t+1))),VX (c:Int),T=T,lo=lo,hi=hi] (leaf G6.normal)))))))))))))))) (need [VX (agg [iI (c:Int),iI T,iI lo,iI hi]),Q4 n a b u v,XI,QV=QV,X6,XU,ZH,VX (o:Int),VX (f:Int),z1,z1,VX (c:Int),VX (c:Int),Q4 n a b u v,VX (n:Int),VX (n:Int),z1,VX (o:Int),z1,VX (f:Int),z1,(t:Int)=(c:Int)+1,125=125,GT 125 (UB (c:Int) T lo hi z0) (UB (c:Int) T lo hi (fwT z2 o f (c+1))),VX (c:Int),T=T,lo=lo,hi=hi] (leaf (G6.exit 12))))) VS ?_);simp only [Wu4,PM,VL.sat,GS] at hQ;simp only [VL.sat,UA,UZ,GI,UC,VK,UG,H9,R0,RF,L1,GL,PM]
  have hv: ∀j,j<n->0<=u j/\u j<=v j/\v j<=2000:=by
   intro j hj;have:=GR.1 DZ j hj;simp only [rdB,H2,bt_iff,insB_iff] at this;omega
  have hl:=λx y=>Je7 (c:=c) (nM (c:=c) (a:=a) (b:=b) UE hv n (Nat.le_refl _)) (o:=o) (f:=f) (t:=t) VI x y
  have hfo:=hl f o;have hot:=hl o t;refine ⟨λh=>?_,λh=>?_⟩
  ·have h1: ∀M,UB c T lo hi M (o*1+(f*11+4))=M f o:=λM=>BY _ _ _ _ _ VI VI
   have h2: ∀M,UB c T lo hi M (t*1+(o*11+4))=M o t:=λM=>BY _ _ _ _ _ VI VI
   have h3: ∀M v,UO (t*1+(f*11+4)) (min (UB c T lo hi M (t*1+(f*11+4))) v) (UB c T lo hi M)=UB c T lo hi (bnd M f t v):=λM v=>zP VI VI
   simp only [h3];simp only [h1,h2]
   (with_reducible repeat' first|apply And.intro|intro _)
   all_goals first|exact True.intro|omega|with_reducible rfl|(rename_i E hE;cases hE;exact hQ)|rfl
  ·obtain rfl:t=c+1:=VI
   (with_reducible repeat' first|apply And.intro|intro _)
   all_goals first|exact True.intro|omega|with_reducible rfl|(rename_i E hE;cases hE;exact hQ)|rfl
theorem Zy3(o:Nat)(VR:1<=c/\c<=10)(UE:1<=lo/\lo<=hi/\hi<=200/\1<=T/\T<=2000)(HP:n<=1000)(DZ:D4 (λk=>rdB c (a k) (b k) (u k) (v k)) n=true)(BM:o<=c):G7 VN (.loop Zr3) (Xu2 c T lo hi n a b u v o):=by
 refine UX [] (L:=[BF 14 (λk=>FO [k<=c] (mH c T lo hi n a b u v o k))]) (VJ.cons LQ (VJ.nil _)) (VV.of (VP.nil _) (VM.cons LG (VM.nil _))) VY (G0 (λcj hcj=>by
  have e:VQ Zr3 0=some (.loop Xa5):=VS;rw [e] at hcj;cases hcj;exact P2 (λk=>D0 (λh=>Wa3 c T lo hi n a b u v o k VR UE HP DZ BM h)))) (X:=Nat) (Wg5 c T lo hi n a b u v o) (λf=>f<=c+1) (λf=>c+1-f) (CD c T lo hi n a b u v o) (x0:=0) VU ?_ ?_ ?_
 ·rintro f;kernel_rfl
 ·rintro f y E h;unfold CD at h;split at h
  ·cases h;kernel_rfl
  ·cases h
 ·rintro Q hQ f hx;refine ⟨(f+1),?_⟩;(with_reducible refine DF (t:=let z0:=(VX ((c:Int)+1));let z1:=(fwO c (rdM c T lo hi a b u v n) o);let z2:=(VX (agg [iI (c:Int),iI T,iI lo,iI hi]));let z3:=Q4 n a b u v;(branch (decide ((f:Int)<(c:Int)+1)) (need [VK ((c:Int)+1)] (need [f<=c] (need [z2,z3,XI,QV=QV,X6,XU,ZH,VX (o:Int),VX (f:Int),z0,z0,VX (c:Int),VX (c:Int),z3,VX (n:Int),VX (n:Int),z0,VX (o:Int),z0,VX (f:Int),z0,(0:Int)=(↑(0:Nat):Int),125=125,GT 125 (UB (c:Int) T lo hi (fwF c z1 o f)) (UB (c:Int) T lo hi (fwT (fwF c z1 o f) o f 0)),VX (c:Int),T=T,lo=lo,hi=hi] (need [VK ((f:Int)+1)] (need [z2,z3,XI,QV=QV,X6,XU,ZH,VX (o:Int),z0,z0,VX (c:Int),VX (c:Int),z3,VX (n:Int),VX (n:Int),z0,VX (o:Int),z0,(f:Int)+1=(↑(f+1):Int),125=125,GT 125 (UB (c:Int) T lo hi (fwT (fwF c z1 o f) o f (c+1))) (UB (c:Int) T lo hi (fwF c z1 o (f+1))),VX (c:Int),T=T,lo=lo,hi=hi] (leaf G6.normal)))))) (need [z2,z3,XI,QV=QV,X6,XU,ZH,VX (o:Int),z0,z0,VX (c:Int),VX (c:Int),z3,VX (n:Int),VX (n:Int),z0,VX (o:Int),z0,(f:Int)=(c:Int)+1,125=125,GT 125 (UB (c:Int) T lo hi (fwF c z1 o f)) (UB (c:Int) T lo hi (fwF c z1 o (c+1))),VX (c:Int),T=T,lo=lo,hi=hi] (leaf (G6.exit 10))))) VS ?_);simp only [Ji9,CD,VL.sat,GS] at hQ;simp only [VL.sat,UA,UZ,GI,UC,VK,UG,H9,R0,RF,L1,GL,CD]
  refine ⟨λh=>?_,λh=>?_⟩
  ·(with_reducible repeat' first|apply And.intro|intro _)
   all_goals first|exact True.intro|omega|with_reducible rfl|(rename_i E hE;cases hE;exact hQ)|rfl
  ·obtain rfl:f=c+1:=VI
   (with_reducible repeat' first|apply And.intro|intro _)
   all_goals first|exact True.intro|omega|with_reducible rfl|(rename_i E hE;cases hE;exact hQ)|rfl
theorem Wa8(VR:1<=c/\c<=10)(UE:1<=lo/\lo<=hi/\hi<=200/\1<=T/\T<=2000)(HP:n<=1000)(DZ:D4 (λk=>rdB c (a k) (b k) (u k) (v k)) n=true):G7 VN (.loop Qs6) (mI c T lo hi n a b u v):=by
 refine UX [] (L:=[BF 13 (λk=>FO [k<=c] (Xu2 c T lo hi n a b u v k))]) (VJ.cons LQ (VJ.nil _)) (VV.of (VP.nil _) (VM.cons LG (VM.nil _))) VY (G0 (λcj hcj=>by
  have e:VQ Qs6 0=some (.loop Zr3):=VS;rw [e] at hcj;cases hcj;exact P2 (λk=>D0 (λh=>Zy3 c T lo hi n a b u v k VR UE HP DZ h)))) (X:=Nat) (EN c T lo hi n a b u v) (λo=>o<=c+1) (λo=>c+1-o) (qD c T lo hi n a b u v) (x0:=0) VU ?_ ?_ ?_
 ·rintro o;kernel_rfl
 ·rintro o y E h;unfold qD at h;split at h
  ·cases h;kernel_rfl
  ·cases h
 ·rintro Q hQ o hx;refine ⟨(o+1),?_⟩;(with_reducible refine DF (t:=let z0:=(VX ((c:Int)+1));let z1:=(rdM c T lo hi a b u v n);let z2:=(VX (agg [iI (c:Int),iI T,iI lo,iI hi]));let z3:=Q4 n a b u v;(branch (decide ((o:Int)<(c:Int)+1)) (need [VK ((c:Int)+1)] (need [o<=c] (need [z2,z3,XI,QV=QV,X6,XU,ZH,VX (o:Int),z0,z0,VX (c:Int),VX (c:Int),z3,VX (n:Int),VX (n:Int),z0,VX (o:Int),z0,(0:Int)=(↑(0:Nat):Int),125=125,GT 125 (UB (c:Int) T lo hi (fwO c z1 o)) (UB (c:Int) T lo hi (fwF c (fwO c z1 o) o 0)),VX (c:Int),T=T,lo=lo,hi=hi] (need [VK ((o:Int)+1)] (need [z2,z3,XI,QV=QV,X6,XU,ZH,z0,z0,VX (c:Int),VX (c:Int),z3,VX (n:Int),VX (n:Int),z0,(o:Int)+1=(↑(o+1):Int),125=125,GT 125 (UB (c:Int) T lo hi (fwF c (fwO c z1 o) o (c+1))) (UB (c:Int) T lo hi (fwO c z1 (o+1))),VX (c:Int),T=T,lo=lo,hi=hi] (leaf G6.normal)))))) (need [z2,z3,XI,QV=QV,X6,XU,ZH,z0,z0,VX (c:Int),VX (c:Int),z3,VX (n:Int),VX (n:Int),z0,(o:Int)=(c:Int)+1,125=125,GT 125 (UB (c:Int) T lo hi (fwO c z1 o)) (UB (c:Int) T lo hi (fwO c z1 (c+1))),VX (c:Int),T=T,lo=lo,hi=hi] (leaf (G6.exit 8))))) VS ?_);simp only [Wu5,qD,VL.sat,GS] at hQ;simp only [VL.sat,UA,UZ,GI,UC,VK,UG,H9,R0,RF,L1,GL,qD]
  refine ⟨λh=>?_,λh=>?_⟩
  ·(with_reducible repeat' first|apply And.intro|intro _)
   all_goals first|exact True.intro|omega|with_reducible rfl|(rename_i E hE;cases hE;exact hQ)|rfl
  ·obtain rfl:o=c+1:=VI
   (with_reducible repeat' first|apply And.intro|intro _)
   all_goals first|exact True.intro|omega|with_reducible rfl|(rename_i E hE;cases hE;exact hQ)|rfl
def fwM:Nat->Nat->Int:=fwO c (rdM c T lo hi a b u v n) (c+1)
def okR:Bool:=D4 (λk=>decide (0<=fwM c T lo hi n a b u v k k)) (c+1)
def Wz4:St:={σ:=[agg [iI (c:Int),iI T,iI lo,iI hi],X5 n a b u v,ptr 0 0,top,top,top,ptr 5 0,top,top,top,AV.mp 63]++HG 11 [iI ((c:Int)+1),iI ((c:Int)+1)]++HG 21 [iI (c:Int),iI (c:Int)]++HG 34 [X5 n a b u v,iI (n:Int),iI (n:Int)]++HG 37 [iI ((c:Int)+1),iI ((c:Int)+1)]++HG 40 [iI ((c:Int)+1)]++HG 14 [],m:=[(5,GM.ints 343 [] 125 λk=>UB (c:Int) T lo hi (fwO c (rdM c T lo hi a b u v n) (c+1)) k),(0,GM.cells 122 [iI (c:Int),iI T,iI lo,iI hi])],nx:=76}
noncomputable def Jn6:Code:=U8 (VQ (U6 Tryz.f209) 4)
def Wg4(k:Nat):St:=(upE [(164,i k)] [(5,.ints 343 [] 125 (UB c T lo hi (fwM c T lo hi n a b u v))),(0,.cells 122 [i c,i T,i lo,i hi])] (Wz4 c T lo hi n a b u v))
def d7(k:Nat):G6->Option St
 | .ret=>some (upE [(4,.x (.pointer none)),(5,.lit false),(164,.top)] [(5,.ints 343 [] 125 (UB c T lo hi (fwM c T lo hi n a b u v))),(0,.cells 122 [i c,i T,i lo,i hi])] (Wz4 c T lo hi n a b u v))
 | .exit 14=>some (upE [(164,.top)] [(5,.ints 343 [] 125 (UB c T lo hi (fwM c T lo hi n a b u v))),(0,.cells 122 [i c,i T,i lo,i hi])] (Wz4 c T lo hi n a b u v))
 |_=>none
def Ji8:CT:= .branch (okR c T lo hi n a b u v) (.leaf (.exit 14,(d7 c T lo hi n a b u v 0 (.exit 14)).getD (Wz4 c T lo hi n a b u v))) (.leaf (.ret,(d7 c T lo hi n a b u v 0 .ret).getD (Wz4 c T lo hi n a b u v)))
def Xu1:UH:=GJ [] (HF (Wg4 c T lo hi n a b u v (0)) (Ji8 c T lo hi n a b u v))
theorem Zy2(VR:1<=c/\c<=10)(UE:1<=lo/\lo<=hi/\hi<=200/\1<=T/\T<=2000)(HP:n<=1000)(DZ:D4 (λk=>rdB c (a k) (b k) (u k) (v k)) n=true):G7 VN (.loop Jn6) (Xu1 c T lo hi n a b u v):=by
 refine UX [] (L:=[]) (VJ.cons LQ (VJ.nil _)) (VV.of (VP.nil _) (VM.cons LG (VM.nil _))) VY U2 (X:=Nat) (Wg4 c T lo hi n a b u v) (λk=>k<=c+1/\ ∀j,j<k->0<=fwM c T lo hi n a b u v j j) (λk=>c+1-k) (d7 c T lo hi n a b u v) (x0:=0) VU ?_ ?_ ?_
 ·rintro k;kernel_rfl
 ·rintro k y E h;unfold d7 at h;split at h
  ·cases h;kernel_rfl
  ·cases h;kernel_rfl
  ·cases h
 ·rintro Q hQ k hx;refine ⟨(k+1),?_⟩;(with_reducible refine DF (t:=let z0:=(VX ((c:Int)+1));let z1:=(fwM c T lo hi n a b u v);let z2:=(VX (agg [iI (c:Int),iI T,iI lo,iI hi]));let z3:=Q4 n a b u v;(branch (decide ((k:Int)<(c:Int)+1)) (need [UI k 11] (need [UI k 11] (need [k*1+(k*11+4)<125] (branch (decide (UB (c:Int) T lo hi z1 (k*1+(k*11+4))<0)) (need [z2,z3,XI,QV=QV,X6,XU,ZH,z0,z0,VX (c:Int),VX (c:Int),z3,VX (n:Int),VX (n:Int),z0,z0,z0,125=125,GN 125 (UB (c:Int) T lo hi z1),VX (c:Int),T=T,lo=lo,hi=hi] (leaf G6.ret)) (need [VK ((k:Int)+1)] (need [z2,z3,XI,XU,ZH,z0,z0,VX (c:Int),VX (c:Int),z3,VX (n:Int),VX (n:Int),z0,z0,z0,(k:Int)+1=(↑(k+1):Int),125=125,GN 125 (UB (c:Int) T lo hi z1),VX (c:Int),T=T,lo=lo,hi=hi] (leaf G6.normal))))))) (need [z2,z3,XI,XU,ZH,z0,z0,VX (c:Int),VX (c:Int),z3,VX (n:Int),VX (n:Int),z0,z0,z0,125=125,GN 125 (UB (c:Int) T lo hi z1),VX (c:Int),T=T,lo=lo,hi=hi] (leaf (G6.exit 14))))) VS ?_);simp only [Ji8,d7,VL.sat,GS] at hQ;simp only [VL.sat,UA,UZ,GI,UC,VK,UG,H9,R0,RF,L1,GL,d7]
  have h1:UB c T lo hi (fwM c T lo hi n a b u v) (k*1+(k*11+4))=fwM c T lo hi n a b u v k k\/11<=k:=by
   rcases Nat.lt_or_ge k 11 with h|h
   ·exact .inl (BY _ _ _ _ _ VI h)
   ·exact .inr h
  refine ⟨λh=>?_,λh=>?_⟩
  ·have h2:=h1.resolve_right VI;rw [h2];refine ⟨VI,VI,VI,λhneg=>?_,λWl3=>?_⟩
   ·have hno:okR c T lo hi n a b u v=false:=by
     cases ho:okR c T lo hi n a b u v
     ·rfl
     ·have:=GR.1 ho k VI;simp at this;omega
    (with_reducible repeat' first|apply And.intro|intro _)
    all_goals first|exact P7|(rename_i E hE;cases hE;exact hQ.2 hno)
   ·exact VE
  ·obtain ⟨hx1,hx2⟩:=hx;obtain rfl:k=c+1:=VI;have Wk1:okR c T lo hi n a b u v=true:=GR.2 (λj hj=>by simpa using hx2 j hj)
   (with_reducible repeat' first|apply And.intro|intro _)
   all_goals first|exact P7|(rename_i E hE;cases hE;exact hQ.1 Wk1)
end
theorem vM{S:Code->UH->Prop}{c:Code}{s0 s1 s2 s3 s4:UH}(h0: ∀cj,VQ c 0=some cj->S cj s0)(h1: ∀cj,VQ c 1=some cj->S cj s1)(h2: ∀cj,VQ c 2=some cj->S cj s2)(h3: ∀cj,VQ c 3=some cj->S cj s3)(h4: ∀cj,VQ c 4=some cj->S cj s4):
  ∀j cj,VQ c j=some cj-> ∀sp,[s0,s1,s2,s3,s4][j]? =some sp->S cj sp:=by
 intro j cj hj sp hsp
 match j with
 | 0=>simp at hsp;subst hsp;exact h0 cj hj
 | 1=>simp at hsp;subst hsp;exact h1 cj hj
 | 2=>simp at hsp;subst hsp;exact h2 cj hj
 | 3=>simp at hsp;subst hsp;exact h3 cj hj
 | 4=>simp at hsp;subst hsp;exact h4 cj hj
 |j+5=>simp at hsp
theorem UM.same{P:Program}{f:FuncId}{avs avs':List AV}{t:VL AV}(h:UM P f avs' t)(k:LT avs avs'):UM P f avs t:=λQ hQ e w args hro hgl FL hr=>h Q hQ e w args hro hgl (k.idf FL) (k.rep hr)
section
variable (c:Nat)(T lo hi:Int)(n:Nat)(a b u v:Nat->Int)
abbrev tH:AV:= .roI [] 125 (UB c T lo hi (fwM c T lo hi n a b u v)) 0
abbrev nilP:AV:= .x (.pointer none)
theorem SS(VR:1<=c/\c<=10)(UE:1<=lo/\lo<=hi/\hi<=200/\1<=T/\T<=2000)(HP:n<=1000)(DZ:D4 (λk=>rdB c (a k) (b k) (u k) (v k)) n=true):UM VN 209 [.agg [i c,i T,i lo,i hi],rds n a b u v] (.branch (okR c T lo hi n a b u v) (.leaf (.tup [tH c T lo hi n a b u v,.lit true])) (.leaf (.tup [nilP,.lit false]))):=by
 refine GQ (L:=[Xu6 c T lo hi n a b u v,Xu4 c T lo hi n a b u v,Xu3 c T lo hi n a b u v,mI c T lo hi n a b u v,Xu1 c T lo hi n a b u v]) (VJ.cons LQ (VJ.nil _)) (VV.of (VP.nil _) (VM.cons LG (VM.nil _))) VY Tryz.func209 (US Tryz.f209) (vM (lpE (b:= .loop Zr4) VS<|(Zz2 c T lo hi n a b u v VR UE).N) (lpE (b:= .loop Jn8) VS<|(Zz0 c T lo hi n a b u v VR UE).N) (lpE (b:= .loop Jn7) VS<|(Zy7 c T lo hi n a b u v VR UE HP DZ).N) (lpE (b:= .loop Qs6) VS<|(Wa8 c T lo hi n a b u v VR UE HP DZ).N) (lpE (b:= .loop Jn6) VS<|(Zy2 c T lo hi n a b u v VR UE HP DZ).N)) (t:=let z0:=(VX ((c:Int)+1));let z1:=(VX (agg [iI (c:Int),iI T,iI lo,iI hi]));let z2:=(UB (c:Int) T lo hi (cel c lo hi c) (c*1+4));let z3:=(UO (c*1+4) (min z2 T) (UB (c:Int) T lo hi (cel c lo hi c)) (0+(c*11+4)));let z4:=Q4 n a b u v;(need [VK ((c:Int)+1)] (need [z1,z4,XI,QV=QV,X6,XU,z0,(0:Int)=(↑(0:Nat):Int),List.length ([(c:Int),T,lo,hi]++bC 121)=125,GT 125 (U7 ([(c:Int),T,lo,hi]++bC 121)) (UB (c:Int) T lo hi (ini c 0 0)),VX (c:Int),T=T,lo=lo,hi=hi] (need [z1,z4,XI,QV=QV,X6,XU,z0,z0,VX (c:Int),(0:Int)=(↑(0:Nat):Int),125=125,GT 125 (UB (c:Int) T lo hi (ini c (c+1) 0)) (UB (c:Int) T lo hi (cel c lo hi 0)),VX (c:Int),T=T,lo=lo,hi=hi] (need [UI 0 11] (need [UI c 11] (need [c*1+4<125] (need [UI 0 11] (need [UI c 11] (need [c*1+4+List.length [min z2 T]<=125] (need [VK (-T)] (need [UI c 11] (need [UI 0 11] (need [0+(c*11+4)<125] (need [UI c 11] (need [UI 0 11] (need [0+(c*11+4)+List.length [min z3 (-T)]<=125] (need [z1,z4,XI,QV=QV,X6,XU,ZH,z0,z0,VX (c:Int),VX (c:Int),z4,VX (n:Int),(0:Int)=(↑(0:Nat):Int),125=125,GT 125 (UO (0+(c*11+4)) (min z3 (-T)) (j5 (c*1+4) [min z2 T] (UB (c:Int) T lo hi (cel c lo hi c)))) (UB (c:Int) T lo hi (rdM c T lo hi a b u v 0)),VX (c:Int),T=T,lo=lo,hi=hi,∀(k:Value),False->sn a b u v 0 k/\k=Value.bool true] (need [VK ((c:Int)+1)] (need [z1,z4,XI,QV=QV,X6,XU,ZH,z0,z0,VX (c:Int),VX (c:Int),z4,VX (n:Int),VX (n:Int),z0,(0:Int)=(↑(0:Nat):Int),125=125,GT 125 (UB (c:Int) T lo hi (rdM c T lo hi a b u v n)) (UB (c:Int) T lo hi (fwO c (rdM c T lo hi a b u v n) 0)),VX (c:Int),T=T,lo=lo,hi=hi] (need [VK ((c:Int)+1)] (need [z1,z4,XI,XU,ZH,z0,z0,VX (c:Int),VX (c:Int),z4,VX (n:Int),VX (n:Int),z0,z0,z0,(0:Int)=(↑(0:Nat):Int),125=125,GT 125 (UB (c:Int) T lo hi (fwO c (rdM c T lo hi a b u v n) (c+1))) (UB (c:Int) T lo hi (fwM c T lo hi n a b u v)),VX (c:Int),T=T,lo=lo,hi=hi] (branch (okR c T lo hi n a b u v) (leaf (tup [roI [] 125 (λk=>UB (c:Int) T lo hi (fwM c T lo hi n a b u v) k) 0,AV.lit true])) (leaf (tup [QV,AV.lit false]))))))))))))))))))))))))) VS ?_
 intro Q hQ;have h1: ∀M w,UO (c*1+4) (min (UB c T lo hi M (c*1+4)) w) (UB c T lo hi M)=UB c T lo hi (bnd M 0 c w):=λM w=>zP VI VI
 have h2: ∀M w,UO (0+(c*11+4)) (min (UB c T lo hi M (0+(c*11+4))) w) (UB c T lo hi M)=UB c T lo hi (bnd M c 0 w):=λM w=>zP VI VI
 simp only [VL.sat,UA,UG,VK,L1,GL,h1,h2] at hQ ⊢
 (with_reducible repeat' first|apply And.intro|intro _)
 all_goals first|exact True.intro|omega|with_reducible rfl|rfl|exact Qz1 _ _ _ _ _ _|(rename_i h;exact h.elim)|(rename_i h;exact ⟨.tup [tH c T lo hi n a b u v,.lit true],⟨⟨rfl,rfl,λ_ _=>rfl,rfl⟩,rfl,True.intro⟩,hQ.1 h⟩)|(rename_i h;exact ⟨.tup [nilP,.lit false],⟨rfl,rfl,True.intro⟩,hQ.2 h⟩)
end
def col(j:Nat)(f:Nat->List AV):Nat->Int:=λk=>Wj5 (f k) j
def fC:D7:=λl=>match l with
 |[.agg [.x (.int .i64 c),.x (.int .i64 T),.x (.int .i64 lo),.x (.int .i64 hi)],.lst 4 n f]=>some (.need [UD 4 n f,1<=c/\c<=10,1<=lo/\lo<=hi/\hi<=200/\1<=T/\T<=2000,n<=1000,D4 (λk=>rdB c (col 0 f k) (col 1 f k) (col 2 f k) (col 3 f k)) n=true]
   (.branch (okR c.toNat T lo hi n (col 0 f) (col 1 f) (col 2 f) (col 3 f)) (.leaf (.tup [tH c.toNat T lo hi n (col 0 f) (col 1 f) (col 2 f) (col 3 f),.lit true])) (.leaf (.tup [nilP,.lit false]))))
 |_=>none
theorem wX:Enters VN 209/\ ∀avs t,fC avs=some t->UM VN 209 avs t:=by
 refine ⟨(UF Tryz.func209),?_⟩;intro avs t h;unfold fC at h;split at h
 ·rename_i c T lo hi n f;cases h;intro Q hQ;have hn:=GB hQ.1;have hr:UD 4 n f:=hn _ VU;have hc:1<=c/\c<=10:=hn _ VU;have HW:D4 (λk=>rdB c (col 0 f k) (col 1 f k) (col 2 f k) (col 3 f k)) n=true:=hn _ VU
  have e:((c.toNat:Nat):Int)=c:=VI;have h0:=SS c.toNat T lo hi n (col 0 f) (col 1 f) (col 2 f) (col 3 f) VI (hn _ VU) (hn _ VU) (by rw [e];exact HW)
  rw [e] at h0;exact UM.same h0 (.cons (.refl _) (.cons (.lst 4 n _ _ hr) .nil)) Q hQ.2
 ·cases h
theorem PH.same{P:Program}{f:FuncId}{avs avs':List AV}{t:VL AV}(h:PH P f avs' t)(k:LT avs avs'):PH P f avs t:=λQ hQ e w args hro hgl FL hr=>h Q hQ e w args hro hgl (k.idf FL) (k.rep hr)
def Qg0:UV
 |[.agg [.x (.int .i64 a),.x (.int .i64 b),.x (.int .i64 u),.x (.int .i64 v)],.ro [.fn (.func 229) [.agg [.x (.int .i64 c),.x (.int .i64 T),.x (.int .i64 lo),.x (.int .i64 hi)]] []]]=>some ([1<=c/\c<=10],bl (!rdB c a b u v))
 |_=>none
theorem Wt7(c T lo hi a b u v:Int)(VR:1<=c/\c<=10):VW VN 243 [.agg [i a,i b,i u,i v],.ro [.fn (.func 229) [.agg [i c,i T,i lo,i hi]] []]] (bl (!rdB c a b u v)):=by
 refine U0 (L:=[]) (VJ.cons nJ (VJ.nil _)) VY Tryz.func243 (US Tryz.f243) U2 (t:=need [(1:Int)<=c/\c<=10] (leaf (RV.x (.bool !rdB c a b u v)))) VS ?_;simp [VL.sat,UA,UZ,UC];exact VR
theorem lL:VO VN 243 Qg0:=by
 refine ⟨(UF Tryz.func243),?_⟩;intro avs ns res h hn;unfold Qg0 at h;split at h
 ·cases h;exact Wt7 _ _ _ _ _ _ _ _ (hn _ VU)
 ·cases h
def y9(c:Int)(a b u v:Nat->Int)(k:Nat):Bool:= !rdB c (a k) (b k) (u k) (v k)
def MX(c:Int)(n:Nat)(a b u v:Nat->Int):Bool:=D4 (λk=>rdB c (a k) (b k) (u k) (v k)) n
abbrev X2(c:Int)(T:Int)(lo:Int)(hi:Int):AV:=AV.fn (Fn.func 243) [] [AV.ro [AV.fn (Fn.func 229) [agg [iI c,iI T,iI lo,iI hi]] []]]
section
variable (c T lo hi:Int)(n:Nat)(a b u v:Nat->Int)
def mQ:St:={σ:=[X5 n a b u v,X2 c T lo hi]++HG 5 [iI (n:Int)]++HG 11 [],m:=[],nx:=4}
noncomputable def Xx6:Code:=U8 (VQ (U6 Tryz.f247) 0)
def Qa7(k:Nat):St:=(upM [(8,i k)] (mQ c T lo hi n a b u v))
def kP(k:Nat):G6->Option St
 | .ret=>some (upM [(4,i (GV (y9 c a b u v) n))] (mQ c T lo hi n a b u v))
 | .exit 0=>some (upM [] (mQ c T lo hi n a b u v))
 |_=>none
def Xs0:CT:= .branch (decide (GV (y9 c a b u v) n<n)) (.leaf (.ret,(kP c T lo hi n a b u v 0 .ret).getD (mQ c T lo hi n a b u v))) (.leaf (.exit 0,(kP c T lo hi n a b u v 0 (.exit 0)).getD (mQ c T lo hi n a b u v)))
def Wx3:UH:=(HF (Qa7 c T lo hi n a b u v (0)) (Xs0 c T lo hi n a b u v))
theorem Xx9(VR:n<=100000)(UE:1<=c/\c<=10):G7 VN (.loop Xx6) (Wx3 c T lo hi n a b u v):=by
 refine HE (L:=[]) (VJ.cons lL (VJ.nil _)) VY U2 (X:=Nat) (Qa7 c T lo hi n a b u v) (λk=>k<=n/\ ∀j,j<k->y9 c a b u v j=false) (λk=>n-k) (kP c T lo hi n a b u v) (x0:=0) VU ?_ ?_ ?_
 ·rintro k;kernel_rfl
 ·rintro k y E h;unfold kP at h;split at h
  ·cases h;kernel_rfl
  ·cases h;kernel_rfl
  ·cases h
 ·rintro Q hQ k hx;refine ⟨(k+1),?_⟩;(with_reducible refine DF (t:=branch (decide ((k:Int)<(n:Int))) (need [UI k n] (need [(1:Int)<=c/\c<=10] (branch (!rdB c (a k) (b k) (u k) (v k)) (need [Q4 n a b u v,VX (X2 c T lo hi),(k:Int)=(↑(GV (y9 c a b u v) n):Int),VX (n:Int)] (leaf G6.ret)) (need [VK ((k:Int)+1)] (need [Q4 n a b u v,VX (X2 c T lo hi),VX (n:Int),(k:Int)+1=(↑(k+1):Int)] (leaf G6.normal)))))) (need [Q4 n a b u v,VX (X2 c T lo hi),VX (n:Int)] (leaf (G6.exit 0)))) VS ?_);simp only [Xs0,kP,VL.sat,GS,H9] at hQ;simp only [VL.sat,UA,UG,H9,VK,kP,F9];refine ⟨λh=>⟨VI,UE,λhb=>?_,λhb=>?_⟩,λh=>?_⟩
  ·have hf:GV (y9 c a b u v) n=k:=zJ VI hb hx.2;refine ⟨VI,λE hE=>?_⟩
   cases hE;exact hQ.1 VI
  ·refine ⟨VI,VI,⟨VI,λj hj=>?_⟩,VI⟩
   rcases (show j<k\/j=k by omega) with h1|rfl
   ·exact hx.2 j h1
   ·exact hb
  ·have hf:GV (y9 c a b u v) n=n:=BW (λj hj=>hx.2 j VI)
   intro E hE;cases hE;exact hQ.2 VI
theorem Xy0(VR:n<=100000)(UE:1<=c/\c<=10):VW VN 247 [rds n a b u v,.fn (.func 243) [] [.ro [.fn (.func 229) [.agg [i c,i T,i lo,i hi]] []]]] (i (if GV (y9 c a b u v) n<n then (GV (y9 c a b u v) n:Int) else -1)):=by
 refine U0 (L:=[Wx3 c T lo hi n a b u v]) (VJ.cons lL (VJ.nil _)) VY Tryz.func247 (US Tryz.f247) (G0 (lpE (b:= .loop Xx6) VS<|Xx9 c T lo hi n a b u v VR UE)) (t:=need [Q4 n a b u v,VX (X2 c T lo hi),VX (n:Int),(0:Int)=(↑(0:Nat):Int)] (branch (decide (GV (y9 c a b u v) n<n)) (leaf (RV.x (.int .i64 (↑(GV (y9 c a b u v) n):Int)))) (leaf (RV.x (.int .i64 (-1:Int)))))) VS ?_
 exact VA
end
theorem isRec4(n:Nat)(a b u v:Nat->Int):UD 4 n (λk=>[i (a k),i (b k),i (u k),i (v k)]):=λ_ _=>rfl
def Xs3:UV
 |[.lst 4 n f,.fn (.func 243) [] [.ro [.fn (.func 229) [.agg [.x (.int .i64 c),.x (.int .i64 T),.x (.int .i64 lo),.x (.int .i64 hi)]] []]]]=>some ([UD 4 n f,n<=100000,1<=c/\c<=10],i (if GV (y9 c (col 0 f) (col 1 f) (col 2 f) (col 3 f)) n<n then (GV (y9 c (col 0 f) (col 1 f) (col 2 f) (col 3 f)) n:Int) else -1))
 |_=>none
def Xs8:UV
 |[.lst 4 n f,.fn (.func 243) [] [.ro [.fn (.func 229) [.agg [.x (.int .i64 c),.x (.int .i64 T),.x (.int .i64 lo),.x (.int .i64 hi)]] []]]]=>some ([UD 4 n f,n<=100000,1<=c/\c<=10],bl (!MX c n (col 0 f) (col 1 f) (col 2 f) (col 3 f)))
 |_=>none
def Wv7:UV
 |[.lst 4 n f,.fn (.func 229) [.agg [.x (.int .i64 c),.x (.int .i64 T),.x (.int .i64 lo),.x (.int .i64 hi)]] []]=>some ([UD 4 n f,n<=100000,1<=c/\c<=10],bl (MX c n (col 0 f) (col 1 f) (col 2 f) (col 3 f)))
 |_=>none
def flt(c T lo hi:Int)(n:Nat)(a b u v:Nat->Int):Int:=if BX c T lo hi then (if 12<n then 3 else if MX c n a b u v then 0 else 2) else 1
def Qf4:UV
 |[.agg [.x (.int .i64 c),.x (.int .i64 T),.x (.int .i64 lo),.x (.int .i64 hi)],.lst 4 n f]=>some ([UD 4 n f],i (flt c T lo hi n (col 0 f) (col 1 f) (col 2 f) (col 3 f)))
 |_=>none
theorem Xx8:VO VN 247 Xs3:=by
 refine ⟨(UF Tryz.func247),?_⟩;intro avs ns res h hn;unfold Xs3 at h;split at h
 ·cases h;have hr:UD 4 _ _:=hn _ (GD);exact (Xy0 _ _ _ _ _ (col 0 _) (col 1 _) (col 2 _) (col 3 _) (hn _ VU) (hn _ VU)).same (.cons (.lst 4 _ _ _ hr) (.cons (.refl _) .nil))
 ·cases h
section
variable (c T lo hi:Int)(n:Nat)(a b u v:Nat->Int)
theorem Zl6(VR:n<=100000)(UE:1<=c/\c<=10):VW VN 242 [rds n a b u v,.fn (.func 243) [] [.ro [.fn (.func 229) [.agg [i c,i T,i lo,i hi]] []]]] (bl (!MX c n a b u v)):=by
 refine U0 (L:=[]) (VJ.cons Xx8 (VJ.nil _)) VY Tryz.func242 (US Tryz.f242) U2 (t:=need [UD 4 n λk=>[i (a k),i (b k),i (u k),i (v k)],n<=100000,(1:Int)<=c/\c<=10] (leaf (RV.x (.bool (decide ((if GV (y9 c a b u v) n<n then (↑(GV (y9 c a b u v) n):Int) else (-1:Int))>=(0:Int))))))) VS ?_
 simp only [VL.sat,UA,UZ,UC,UG];refine ⟨⟨isRec4 n _ _ _ _,VR,UE⟩,?_⟩;unfold MX;rw [kD];have:=F0 (y9 c a b u v) n;have e:(λk=> !(λk=>rdB c (a k) (b k) (u k) (v k)) k)=y9 c a b u v:=rfl
 rw [e];split<;>simp<;>omega
theorem Zl5:VO VN 242 Xs8:=by
 refine ⟨(UF Tryz.func242),?_⟩;intro avs ns res h hn;unfold Xs8 at h;split at h
 ·cases h;have hr:UD 4 _ _:=hn _ (GD);exact (Zl6 _ _ _ _ _ (col 0 _) (col 1 _) (col 2 _) (col 3 _) (hn _ VU) (hn _ VU)).same (.cons (.lst 4 _ _ _ hr) (.cons (.refl _) .nil))
 ·cases h
theorem Xk8(VR:n<=100000)(UE:1<=c/\c<=10):VW VN 230 [rds n a b u v,.fn (.func 229) [.agg [i c,i T,i lo,i hi]] []] (bl (MX c n a b u v)):=by
 refine U0 (L:=[]) (VJ.cons Zl5 (VJ.nil _)) VY Tryz.func230 (US Tryz.f230) U2 (t:=need [UD 4 n λk=>[i (a k),i (b k),i (u k),i (v k)],n<=100000,(1:Int)<=c/\c<=10] (leaf (RV.x (.bool !!MX c n a b u v)))) VS ?_
 simp only [VL.sat,UA,UZ,UC,UG];refine ⟨⟨isRec4 n _ _ _ _,VR,UE⟩,?_⟩;simp
end
theorem Xk7:VO VN 230 Wv7:=by
 refine ⟨(UF Tryz.func230),?_⟩;intro avs ns res h hn;unfold Wv7 at h;split at h
 ·cases h;have hr:UD 4 _ _:=hn _ (GD);exact (Xk8 _ _ _ _ _ (col 0 _) (col 1 _) (col 2 _) (col 3 _) (hn _ VU) (hn _ VU)).same (.cons (.lst 4 _ _ _ hr) (.cons (.refl _) .nil))
 ·cases h
theorem BH{c T lo hi:Int}(h:BX c T lo hi=true):(1<=c/\c<=10)/\(1<=lo/\lo<=hi/\hi<=200/\1<=T/\T<=2000)/\c*lo<=T/\T<=c*hi:=by
 simp only [BX,H2,bt_iff,insB_iff] at h;omega
theorem Wr2(c T lo hi:Int)(n:Nat)(a b u v:Nat->Int):VW VN 208 [.agg [i c,i T,i lo,i hi],rds n a b u v] (i (flt c T lo hi n a b u v)):=by
 refine U0 (L:=[]) (VJ.cons CheckTube_ok (VJ.cons Xk7 (VJ.nil _))) VY Tryz.func208 (US Tryz.f208) U2 (t:=branch ((if BX c T lo hi=true then (0:Int) else (1:Int)) != 0) (leaf (RV.x (.int .i64 (if BX c T lo hi=true then (0:Int) else (1:Int))))) (branch (decide ((n:Int)>12)) (leaf (RV.x (.int .i64 (3:Int)))) (need [UD 4 n λk=>[i (a k),i (b k),i (u k),i (v k)],n<=100000,(1:Int)<=c/\c<=10] (branch (!MX c n a b u v) (leaf (RV.x (.int .i64 (2:Int)))) (leaf (RV.x (JT))))))) VS ?_
 simp only [VL.sat,UA,UZ,UC,UG,flt];by_cases ht:BX c T lo hi=true
 ·have hb:=BH ht;by_cases hn:12<n
  ·simp [ht,hn];omega
  ·cases ha:MX c n a b u v<;>simp [ht,hn,ha,isRec4 n a b u v]<;>omega
 ·simp [ht]
theorem Wr1:VO VN 208 Qf4:=by
 refine ⟨(UF Tryz.func208),?_⟩;intro avs ns res h hn;unfold Qf4 at h;split at h
 ·cases h;have hr:UD 4 _ _:=hn _ (GD);exact (Wr2 _ _ _ _ _ (col 0 _) (col 1 _) (col 2 _) (col 3 _)).same (.cons (.refl _) (.cons (.lst 4 _ _ _ hr) .nil))
 ·cases h
theorem oE(f:Nat->Int)(k:Nat)(VR:k<=10)(UE: -1000000000000<=f (k*11+4)/\f (k*11+4)<=1000000000000):VW VN 232 [.roI [] 125 f 0,i k] (i (-(f (k*11+4)))):=by
 refine GU Tryz.func232 (t:=need [UI k 11] (need [UI 0 11] (need [0+(k*11+4)<125] (need [VK (-f (0+(k*11+4)))] (leaf (RV.x (.int .i64 (-f (0+(k*11+4)))))))))) VS ?_;simp only [VL.sat,UA,UZ,GI,UC,UG,F9];rw [show 0+(k*11+4)=k*11+4 by omega]
 simp only [VK];simp;omega
def lU:UV
 |[.roI [] 125 f 0,.x (.int .i64 k)]=>some ([0<=k/\k<=10,-1000000000000<=f (k.toNat*11+4)/\f (k.toNat*11+4)<=1000000000000],i (-(f (k.toNat*11+4))))
 |_=>none
theorem oD:VO VN 232 lU:=by
 refine ⟨(UF Tryz.func232),?_⟩;intro avs ns res h hn;unfold lU at h;split at h
 ·rename_i f k;cases h;have hk:0<=k/\k<=10:=hn _ VU;have e:((k.toNat:Nat):Int)=k:=VI;have h0:=oE f k.toNat VI (hn _ VU);rw [e] at h0;exact h0
 ·cases h
theorem TU(f:Nat->Int)(k:Nat)(VR:k<=10)(UE: -1000000000000<=f (k*11+4)/\f (k*11+4)<=1000000000000):VW VN 233 [.roI [] 125 f 0,i k] (i (f (k+4))):=by
 refine GU Tryz.func233 (t:=need [UI 0 11] (need [UI k 11] (need [k*1+4<125] (leaf (RV.x (.int .i64 (f (k*1+4)))))))) VS ?_;simp only [VL.sat,UA,UZ,GI,UC,UG,F9];rw [show k*1+4=k+4 by omega]
 simp only [VK];simp;omega
def M0:UV
 |[.roI [] 125 f 0,.x (.int .i64 k)]=>some ([0<=k/\k<=10,-1000000000000<=f (k.toNat*11+4)/\f (k.toNat*11+4)<=1000000000000],i (f (k.toNat+4)))
 |_=>none
theorem TS:VO VN 233 M0:=by
 refine ⟨(UF Tryz.func233),?_⟩;intro avs ns res h hn;unfold M0 at h;split at h
 ·rename_i f k;cases h;have hk:0<=k/\k<=10:=hn _ VU;have e:((k.toNat:Nat):Int)=k:=VI;have h0:=TU f k.toNat VI (hn _ VU);rw [e] at h0;exact h0
 ·cases h
def lT:UV
 |[]=>some ([],.agg [.fn (.func 232) [] []])
 |_=>none
theorem Ql8:VW VN 210 [] (.agg [.fn (.func 232) [] []]):=by
 refine GU Tryz.func210 (t:=leaf (RV.agg [RV.fn (Fn.func 232)])) VS ?_;exact YZ
theorem Ql7:VO VN 210 lT:=by
 refine ⟨(UF Tryz.func210),?_⟩;intro avs ns res h hn;unfold lT at h;split at h
 ·cases h;exact Ql8
 ·cases h
def S2:UV
 |[]=>some ([],.agg [.fn (.func 233) [] []])
 |_=>none
theorem pB:VW VN 211 [] (.agg [.fn (.func 233) [] []]):=by
 refine GU Tryz.func211 (t:=leaf (RV.agg [RV.fn (Fn.func 233)])) VS ?_;exact YZ
theorem pA:VO VN 211 S2:=by
 refine ⟨(UF Tryz.func211),?_⟩;intro avs ns res h hn;unfold S2 at h;split at h
 ·cases h;exact pB
 ·cases h
theorem Qq8(f:Nat->Int)(k:Nat)(VR:k<=10)(UE: -1000000000000<=f (k*11+4)/\f (k*11+4)<=1000000000000):VW VN 175 [.roI [] 125 f 0,i k] (.agg [i (-(f (k*11+4))),i (f (k+4))]):=by
 refine U0 (L:=[]) (VJ.cons oD (VJ.cons TS (VJ.cons Ql7 (VJ.cons pA (VJ.nil _))))) VY Tryz.func175 (US Tryz.f175) U2 (t:=need [(0:Int)<=(k:Int)/\(k:Int)<=10,(-1000000000000:Int)<=f (k*11+4)/\f (k*11+4)<=1000000000000] (need [(0:Int)<=(k:Int)/\(k:Int)<=10,(-1000000000000:Int)<=f (k*11+4)/\f (k*11+4)<=1000000000000] (leaf (RV.agg [RV.x (.int .i64 (-f (k*11+4))),RV.x (.int .i64 (f (k+4)))])))) VS ?_;exact YZ
def lZ:UV
 |[.roI [] 125 f 0,.x (.int .i64 k)]=>some ([0<=k/\k<=10,-1000000000000<=f (k.toNat*11+4)/\f (k.toNat*11+4)<=1000000000000],.agg [i (-(f (k.toNat*11+4))),i (f (k.toNat+4))])
 |_=>none
theorem xM:VO VN 175 lZ:=by
 refine ⟨(UF Tryz.func175),?_⟩;intro avs ns res h hn;unfold lZ at h;split at h
 ·rename_i f k;cases h;have hk:0<=k/\k<=10:=hn _ VU;have e:((k.toNat:Nat):Int)=k:=VI;have h0:=Qq8 f k.toNat VI (hn _ VU);rw [e] at h0;exact h0
 ·cases h
def dbF(f:Nat->Int):Nat->Int
 | 0=>0
 |k+1=>max (dbF f k) (f (k+4)- -(f (k*11+4)))
theorem pM{f:Nat->Int}{c:Nat}(h: ∀k,k<=c->(-1000000000000<=f (k*11+4)/\f (k*11+4)<=1000000000000)/\(-1000000000000<=f (k+4)/\f (k+4)<=1000000000000)): ∀k,k<=c+1->0<=dbF f k/\dbF f k<=2000000000000
 | 0,_=>by simp [dbF]
 |k+1,hk=>by
  have:=pM h k VI;have:=h k VI;simp only [dbF];omega
abbrev KF(f:Nat->Int):AV:=roI [] 125 (λa=>f a) 0
def Zq8(c:Nat)(f:Nat->Int):St:={σ:=[KF f]++HG 9 [iI (f 0+1)]++HG 16 [],m:=[],nx:=8}
noncomputable def Jp7:Code:=U8 (VQ (U6 Tryz.f218) 0)
section
variable (c:Nat)(f:Nat->Int)
def Wj0(k:Nat):St:=(upM [(2,i (dbF f k)),(11,i k)] (Zq8 c f))
def CZ(k:Nat):G6->Option St
 | .exit 0=>some (upM [(2,i (dbF f (c+1))),(11,i ((c+1:Nat):Int))] (Zq8 c f))
 |_=>none
def Jl5:CT:= .leaf (.exit 0,(CZ c f 0 (.exit 0)).getD (Zq8 c f))
def Xx1:UH:=(HF (Wj0 c f (0)) (Jl5 c f))
theorem Jg1(VR:c<=10)(UE:f 0=c)(HP: ∀k,k<=c->(-1000000000000<=f (k*11+4)/\f (k*11+4)<=1000000000000)/\(-1000000000000<=f (k+4)/\f (k+4)<=1000000000000)):G7 VN (.loop Jp7) (Xx1 c f):=by
 refine HE (L:=[]) (VJ.cons xM (VJ.cons fQ (VJ.nil _))) VY U2 (X:=Nat) (Wj0 c f) (λk=>k<=c+1) (λk=>c+1-k) (CZ c f) (x0:=0) VU ?_ ?_ ?_
 ·rintro k;kernel_rfl
 ·rintro k y E h;unfold CZ at h;split at h
  ·cases h;kernel_rfl
  ·cases h
 ·rintro Q hQ k hx;refine ⟨(k+1),?_⟩;(with_reducible refine DF (t:=branch (decide ((k:Int)<f 0+1)) (need [(0:Int)<=(k:Int)/\(k:Int)<=10,(-1000000000000:Int)<=f (k*11+4)/\f (k*11+4)<=1000000000000] (need [VK (f (k+4)- -f (k*11+4))] (need [VK ((k:Int)+1)] (need [KF f=KF f,max (dbF f k) (f (k+4)- -f (k*11+4))=dbF f (k+1),VX (f 0+1),(k:Int)+1=(↑(k+1):Int)] (leaf G6.normal))))) (need [KF f=KF f,dbF f k=dbF f (c+1),VX (f 0+1),(k:Int)=(↑(c+1):Int)] (leaf (G6.exit 0)))) VS ?_);simp only [Jl5,CZ,VL.sat,GS] at hQ;simp only [VL.sat,UA,UG,H9,VK,CZ,F9];refine ⟨λh=>?_,λh=>?_⟩
  ·have h1:=HP k VI;have h2:=pM HP k VI;refine ⟨⟨VI,h1.1⟩,VI,VI,⟨rfl,VI⟩,VI,VI⟩
  ·obtain rfl:k=c+1:=VI;exact ⟨⟨rfl,rfl⟩,λE hE=>by cases hE;exact hQ⟩
theorem Wq8(VR:c<=10)(UE:f 0=c)(HP: ∀k,k<=c->(-1000000000000<=f (k*11+4)/\f (k*11+4)<=1000000000000)/\(-1000000000000<=f (k+4)/\f (k+4)<=1000000000000)):VW VN 218 [.roI [] 125 f 0] (i (dbF f (c+1))):=by
 refine U0 (L:=[Xx1 c f]) (VJ.cons xM (VJ.cons fQ (VJ.nil _))) VY Tryz.func218 (US Tryz.f218) (G0 (lpE (b:= .loop Jp7) VS<|Jg1 c f VR UE HP)) (t:=need [0<125] (need [VK (f 0+1)] (need [KF f=KF f,(0:Int)=dbF f 0,VX (f 0+1),(0:Int)=(↑(0:Nat):Int)] (leaf (RV.x (.int .i64 (dbF f (c+1)))))))) VS ?_
 simp only [VL.sat,UA,UZ,GI,UC,UG,F9];simp only [VK];have h2:=pM HP (c+1) VI;all_goals exact V5
end
def Qf3:UV
 |[.roI [] 125 f 0]=>some ([0<=f 0/\f 0<=10,∀k,k<=(f 0).toNat->(-1000000000000<=f (k*11+4)/\f (k*11+4)<=1000000000000)/\(-1000000000000<=f (k+4)/\f (k+4)<=1000000000000)],i (dbF f ((f 0).toNat+1)))
 |_=>none
theorem Wq7:VO VN 218 Qf3:=by
 refine ⟨(UF Tryz.func218),?_⟩;intro avs ns res h hn;unfold Qf3 at h;split at h
 ·rename_i f;cases h;have hk:0<=f 0/\f 0<=10:=hn _ VU;exact Wq8 (f 0).toNat f VI VI (hn _ VU)
 ·cases h
section
variable (c T lo hi:Int)(n:Nat)(a b u v:Nat->Int)
abbrev c8:AV:=tH c.toNat T lo hi n a b u v
def okB:Bool:=okR c.toNat T lo hi n a b u v
def qI(r:Bool):Int:=if flt c T lo hi n a b u v=0 then (if r then (if okB c T lo hi n a b u v then 0 else 9) else 2) else flt c T lo hi n a b u v
end
section
variable {c T lo hi:Int}{n:Nat}{a b u v:Nat->Int}
theorem kX:flt c T lo hi n a b u v=0↔BX c T lo hi=true/\n<=12/\D4 (λk=>rdB c (a k) (b k) (u k) (v k)) n=true:=by
 unfold flt MX;split
 ·rename_i h1;split
  ·rename_i h2;constructor
   ·intro h;cases h
   ·intro h;omega
  ·rename_i h2;split
   ·rename_i h3;exact ⟨λ_=>⟨h1,VI,h3⟩,λ_=>rfl⟩
   ·rename_i h3;constructor
    ·intro h;cases h
    ·intro h;exact absurd h.2.2 h3
 ·rename_i h1;constructor
  ·intro h;cases h
  ·intro h;exact absurd h.1 h1
theorem gE{r:Bool}:qI c T lo hi n a b u v r=0↔flt c T lo hi n a b u v=0/\r=true/\okB c T lo hi n a b u v=true:=by
 unfold qI;split
 ·rename_i h1;split
  ·rename_i h2;split
   ·rename_i h3;simp [h1,h2,h3]
   ·rename_i h3;simp [h1,h2,h3]
  ·rename_i h2;simp [h1,h2]
 ·rename_i h1;simp [h1]
end
theorem bN(c T lo hi:Int)(n:Nat)(a b u v:Nat->Int)(r:Bool):UM VN 174 [.agg [i c,i T,i lo,i hi],rds n a b u v,bl r] (.branch (decide (qI c T lo hi n a b u v r=0)) (.leaf (.tup [c8 c T lo hi n a b u v,i 0])) (.leaf (.tup [nilP,i (qI c T lo hi n a b u v r)]))):=by
 refine GQ (L:=[]) (VJ.cons Wr1 (VJ.nil _)) (VV.ofC (VP.nil _) (VM.nil _) (U9.cons wX (U9.nil _))) VY Tryz.func174 (US Tryz.f174) G4 (t:=need [UD 4 n λk=>[i (a k),i (b k),i (u k),i (v k)]] (branch (flt c T lo hi n a b u v != 0) (leaf (tup [QV,iI (flt c T lo hi n a b u v)])) (branch (!r) (leaf (tup [QV,iI 2])) (need [UD 4 n λk=>[i (a k),i (b k),i (u k),i (v k)],(1:Int)<=c/\c<=10,(1:Int)<=lo/\lo<=hi/\hi<=200/\(1:Int)<=T/\T<=2000,n<=1000,D4 (λk=>rdB c (a k) (b k) (u k) (v k)) n=true] (branch (okR (Int.toNat c) T lo hi n a b u v) (leaf (tup [roI [] 125 (λk=>UB (↑(Int.toNat c):Int) T lo hi (fwM (Int.toNat c) T lo hi n a b u v) k) 0,iI 0])) (leaf (tup [QV,iI 9]))))))) VS ?_
 intro Q hQ;have e:c.toNat=c\/c<0:=VI;simp only [VL.sat,UA,UG,RF,H9,Bool.not_eq_true'] at hQ ⊢;refine ⟨isRec4 n a b u v,λh1=>?_,λh1=>?_⟩
 ·refine ⟨.tup [nilP,i (flt c T lo hi n a b u v)],⟨rfl,⟨rfl,rfl⟩,True.intro⟩,?_⟩;have h2:qI c T lo hi n a b u v r=flt c T lo hi n a b u v:=by unfold qI;rw [if_neg h1]
  rw [h2] at hQ;exact hQ.2 h1
 ·have hf:=kX.1 h1;have hb:=BH hf.1;refine ⟨λh2=>?_,λh2=>⟨⟨isRec4 n a b u v,hb.1,hb.2.1,by have:=hf.2.1;omega,hf.2.2⟩,λh3=>?_,λh3=>?_⟩⟩
  ·subst h2;have h4:qI c T lo hi n a b u v false=2:=by unfold qI;rw [if_pos h1];rfl
   rw [h4] at hQ;exact ⟨.tup [nilP,i 2],⟨rfl,⟨rfl,rfl⟩,True.intro⟩,hQ.2 VI⟩
  ·have h2:r=true:=by simpa using h2
   subst h2;have h4:qI c T lo hi n a b u v true=0:=gE.2 ⟨h1,rfl,h3⟩;exact ⟨.tup [c8 c T lo hi n a b u v,i 0],⟨⟨rfl,rfl,λ_ _=>rfl,rfl⟩,⟨rfl,rfl⟩,True.intro⟩,hQ.1 h4⟩
  ·have h2:r=true:=by simpa using h2
   subst h2;have h4:qI c T lo hi n a b u v true=9:=by unfold qI okB;rw [if_pos h1,h3];rfl
   rw [h4] at hQ;exact ⟨.tup [nilP,i 9],⟨rfl,⟨rfl,rfl⟩,True.intro⟩,hQ.2 VI⟩
def b9:D7:=λl=>match l with
 |[.agg [.x (.int .i64 c),.x (.int .i64 T),.x (.int .i64 lo),.x (.int .i64 hi)],.lst 4 n f,.x (.bool r)]=>some (.need [UD 4 n f] (.branch (decide (qI c T lo hi n (col 0 f) (col 1 f) (col 2 f) (col 3 f) r=0)) (.leaf (.tup [c8 c T lo hi n (col 0 f) (col 1 f) (col 2 f) (col 3 f),i 0])) (.leaf (.tup [nilP,i (qI c T lo hi n (col 0 f) (col 1 f) (col 2 f) (col 3 f) r)]))))
 |[.agg [.x (.int .i64 c),.x (.int .i64 T),.x (.int .i64 lo),.x (.int .i64 hi)],.lst 4 n f,.lit r]=>some (.need [UD 4 n f] (.branch (decide (qI c T lo hi n (col 0 f) (col 1 f) (col 2 f) (col 3 f) r=0)) (.leaf (.tup [c8 c T lo hi n (col 0 f) (col 1 f) (col 2 f) (col 3 f),i 0])) (.leaf (.tup [nilP,i (qI c T lo hi n (col 0 f) (col 1 f) (col 2 f) (col 3 f) r)]))))
 |_=>none
theorem U1.lits{e:UJ}{w:World}{r:Bool}: ∀{l:List AV} {vs:List Value},U1 e w (l++[.lit r]) vs->U1 e w (l++[.x (.bool r)]) vs
 |[],vs,h=>by
  obtain ⟨v,vs',rfl,hv,hvs⟩:=h.cons_inv;cases hv;exact U1.cons (.x _) hvs
 |a::l,vs,h=>by
  obtain ⟨v,vs',rfl,hv,hvs⟩:=h.cons_inv;exact U1.cons hv (U1.lits hvs)
theorem UM.lits{P:Program}{f:FuncId}{l:List AV}{r:Bool}{t:VL AV}(h:UM P f (l++[.x (.bool r)]) t):UM P f (l++[.lit r]) t:=λQ hQ e w args hro hgl FL hr=>h Q hQ e w args hro hgl (λa ha=>by
 rcases List.mem_append.1 ha with h1|h1
 ·exact FL a (List.mem_append_left _ h1)
 ·cases qM.1 h1;exact .x _) (U1.lits hr)
theorem gW:Enters VN 174/\ ∀avs t,b9 avs=some t->UM VN 174 avs t:=by
 refine ⟨(UF Tryz.func174),?_⟩;intro avs t h;unfold b9 at h;split at h
 ·rename_i c T lo hi n f r;cases h;intro Q hQ;have hr:UD 4 n f:=GB hQ.1 _ VU;exact UM.same (bN c T lo hi n (col 0 f) (col 1 f) (col 2 f) (col 3 f) r) (.cons (.refl _) (.cons (.lst 4 n _ _ hr) (.cons (.refl _) .nil))) Q hQ.2
 ·rename_i c T lo hi n f r;cases h;intro Q hQ;have hr:UD 4 n f:=GB hQ.1 _ VU;exact UM.lits (l:=[.agg [.x (.int .i64 c),.x (.int .i64 T),.x (.int .i64 lo),.x (.int .i64 hi)],.lst 4 n f]) (UM.same (bN c T lo hi n (col 0 f) (col 1 f) (col 2 f) (col 3 f) r) (.cons (.refl _) (.cons (.lst 4 n _ _ hr) (.cons (.refl _) .nil)))) Q hQ.2
 ·cases h
section
variable (c T lo hi:Int)(n:Nat)(a b u v:Nat->Int)
def eB:Int:=qI c T lo hi n a b u v true
def fwB:Nat->Nat->Int:=fwM c.toNat T lo hi n a b u v
def sfB:Nat->Int:=UB (c.toNat:Nat) T lo hi (fwB c T lo hi n a b u v)
def dtB:Int:=if eB c T lo hi n a b u v=0 then dbF (sfB c T lo hi n a b u v) (c.toNat+1) else 0
def rL:Nat:=if eB c T lo hi n a b u v=0 then c.toNat+1 else 0
end
theorem Xq2{c a b u v:Int}(h:rdB c a b u v=true):(0<=a/\a<=c-1)/\(a<=b/\b<=c)/\0<=u/\u<=v/\v<=2000:=by
 simp only [rdB,H2,bt_iff,insB_iff] at h;omega
theorem TZ{c T lo hi:Int}{n:Nat}{a b u v:Nat->Int}(h:flt c T lo hi n a b u v=0)(x y:Nat): -1000000000000<=fwB c T lo hi n a b u v x y/\fwB c T lo hi n a b u v x y<=2000:=by
 have hf:=kX.1 h;have hb:=BH hf.1;have hl:=nM (c:=c.toNat) (a:=a) (b:=b) hb.2.1 (λj hj=>(Xq2 (GR.1 hf.2.2 j hj)).2.2) n (Nat.le_refl n)
 have h1:=Zn8 (c:=c.toNat) hl (c.toNat+1) x y;have h2:=Zz5 c.toNat VI;rw [Int.pow_succ] at h1;unfold fwB fwM;omega
section
variable (c T lo hi:Int)(n:Nat)(a b u v:Nat->Int)
theorem Xq1:sfB c T lo hi n a b u v 0=c.toNat:=rfl
theorem SM(k:Nat):sfB c T lo hi n a b u v (k*11+4)=fwB c T lo hi n a b u v k 0:=BY _ _ _ _ _ VI VI
theorem c9{k:Nat}(hk:k<=10):sfB c T lo hi n a b u v (k+4)=fwB c T lo hi n a b u v 0 k:=BY _ _ _ _ _ VI VI
abbrev YE:Ext:={R:=[],H:=[],C:=[(174,b9)] }
theorem Xa1:VW VN 182 [.agg [i c,i T,i lo,i hi],rds n a b u v] (.tup [i (dtB c T lo hi n a b u v),i (eB c T lo hi n a b u v)]):=by
 refine GA (L:=[]) (VJ.cons Wq7 (VJ.nil _)) (VV.ofC (VP.nil _) (VM.nil _) (U9.cons gW (U9.nil _))) VY Tryz.func182 (US Tryz.f182) G4 (t:=let z0:=(fwM (Int.toNat c) T lo hi n a b u v);let z1:=qI c T lo hi n a b u v true;(need [UD 4 n λk=>[i (a k),i (b k),i (u k),i (v k)]] (branch (decide (z1=0)) (branch ((0:Int) != 0) (leaf (RV.tup [RV.x (JT),RV.x (JT)])) (need [(0:Int)<=UB (↑(Int.toNat c):Int) T lo hi z0 0/\UB (↑(Int.toNat c):Int) T lo hi z0 0<=10,∀(k:Nat),k<=(UB (↑(Int.toNat c):Int) T lo hi z0 0).toNat->((-1000000000000:Int)<=UB (↑(Int.toNat c):Int) T lo hi z0 (k*11+4)/\UB (↑(Int.toNat c):Int) T lo hi z0 (k*11+4)<=1000000000000)/\(-1000000000000:Int)<=UB (↑(Int.toNat c):Int) T lo hi z0 (k+4)/\UB (↑(Int.toNat c):Int) T lo hi z0 (k+4)<=1000000000000] (leaf (RV.tup [RV.x (.int .i64 (dbF (UB (↑(Int.toNat c):Int) T lo hi z0) ((UB (↑(Int.toNat c):Int) T lo hi z0 0).toNat+1))),RV.x (JT)])))) (branch (z1 != 0) (leaf (RV.tup [RV.x (JT),RV.x (.int .i64 (z1))])) VL.fail)))) VS ?_
 have eq: ∀k,UB (c.toNat:Nat) T lo hi (fwM c.toNat T lo hi n a b u v) k=sfB c T lo hi n a b u v k:=λ_=>rfl
 simp only [VL.sat,UA,UG,RF,H9,Bool.not_eq_true',not_true_eq_false,false_imp_iff,eq,UZ];refine ⟨isRec4 n a b u v,λh1 _=>?_,λh1=>⟨λ_=>?_,λh2=>h1 h2⟩⟩
 ·have hf:=(gE.1 h1).1;have hc:=(BH (kX.1 hf).1).1;have e0:(sfB c T lo hi n a b u v 0).toNat=c.toNat:=by rw [Xq1];omega
  refine ⟨⟨by rw [Xq1];omega,λk hk=>?_⟩,?_⟩
  ·rw [e0] at hk;rw [SM,c9 _ _ _ _ _ _ _ _ _ VI];have h2:=TZ hf k 0;have h3:=TZ hf 0 k;omega
  ·rw [e0];unfold dtB eB;rw [if_pos h1,h1];exact ⟨⟨rfl,rfl⟩,⟨rfl,rfl⟩,True.intro⟩
 ·unfold dtB eB;rw [if_neg h1];exact ⟨⟨rfl,rfl⟩,⟨rfl,rfl⟩,True.intro⟩
end
section
variable {sz k:Nat}{l:List AV}{x:AV}
theorem Qq3(h:x∈U4 sz l k):x∈l:=List.mem_of_mem_drop (List.mem_of_mem_take h)
theorem FN(hm:x∈U4 sz l k)(h: ∀y∈l,AV.one y=true):AV.one x=true:=h x (Qq3 hm)
end
theorem Jh0{k j:Nat}{a b:Nat->Int}{x y:Int}(h:j<k+1)(hx:x=a k)(hy:y=b k):GG k (λk=>[i (a k),i (b k)]) (U4 2 [i x,i y]) j=[i (a j),i (b j)]:=by
 have e:j-k=0:=VI;show H6 (decide (j<k)) [i (a j),i (b j)] (U4 2 [i x,i y] (j-k))=_;rw [e];by_cases hj:j<k
 ·rw [show decide (j<k)=true by simp [hj]]
  rfl
 ·have hk:j=k:=VI;rw [show decide (j<k)=false by simp [hj],hk,hx,hy]
  rfl
section
variable (c T lo hi:Int)(n:Nat)(a b u v:Nat->Int)
def Zp7:St:={σ:=[.agg [i c,i T,i lo,i hi],rds n a b u v,.ptr 0 0,.top,.x (.slice none 0 0),i 0,c8 c T lo hi n a b u v,i 0,.top,.top,.top,.top,.top,.top,.top,.top,.top,.top,.top,.top,.top,i (c+1),.top,.top,.top,.top,.top,.top,.top,.top,.top,.top,.top],m:=[(900,.row 70 2 0 (λ_=>[])),(0,.cells 122 [i c,i T,i lo,i hi])],nx:=901}
noncomputable def Jo7:Code:=U8 (VQ (U6 Tryz.f134) 0)
def Wh8(k:Nat):St:=(upE [(8,.row 900),(22,i k)] [(900,.row 70 2 (k) (λk=>[i (-(fwB c T lo hi n a b u v k 0)),i (fwB c T lo hi n a b u v 0 k)])),(0,.cells 122 [i c,i T,i lo,i hi])] (Zp7 c T lo hi n a b u v))
def CN(k:Nat):G6->Option St
 | .exit 0=>some (upE [(8,.row 900)] [(900,.row 70 2 (c.toNat+1) (λk=>[i (-(fwB c T lo hi n a b u v k 0)),i (fwB c T lo hi n a b u v 0 k)])),(0,.cells 122 [i c,i T,i lo,i hi])] (Zp7 c T lo hi n a b u v))
 |_=>none
def Jk3:CT:= .leaf (.exit 0,(CN c T lo hi n a b u v 0 (.exit 0)).getD (Zp7 c T lo hi n a b u v))
def Xv8:UH:=GJ [(.slot 8,900,70,2)] (HF (Wh8 c T lo hi n a b u v (0)) (Jk3 c T lo hi n a b u v))
abbrev KD:AV:=AV.x (.slice none 0 0)
abbrev Y3:Prop:=(0:Int)=0
theorem Jc7(VR:flt c T lo hi n a b u v=0):G7 VN (.loop Jo7) (Xv8 c T lo hi n a b u v):=by
 refine zE [(.slot 8,900,70,2)] (L:=[]) (VJ.cons xM (VJ.nil _)) VY U2 (X:=Nat) (Wh8 c T lo hi n a b u v) (λk=>k<=c.toNat+1) (λk=>c.toNat+1-k) (CN c T lo hi n a b u v) (x0:=0) VU ?_ ?_ ?_
 ·rintro k;kernel_rfl
 ·rintro k y E h;unfold CN at h;split at h
  ·cases h;kernel_rfl
  ·cases h
 ·rintro Q hQ k hx;refine ⟨(k+1),?_⟩;(with_reducible refine DF (t:=let z0:=(fwM (Int.toNat c) T lo hi n a b u v);let z1:=fwB c T lo hi n a b u v;let z2:=(VX (roI [] 125 (λk=>UB (↑(Int.toNat c):Int) T lo hi z0 k) 0));let z3:=(UB (↑(Int.toNat c):Int) T lo hi z0 (k+4));(branch (decide ((k:Int)<c+1)) (need [(0:Int)<=(k:Int)/\(k:Int)<=10,(-1000000000000:Int)<=UB (↑(Int.toNat c):Int) T lo hi z0 (k*11+4)/\UB (↑(Int.toNat c):Int) T lo hi z0 (k*11+4)<=1000000000000] (need [(k+1)*16<=140737488355328,RS 1 (U4 2 [iI (-UB (↑(Int.toNat c):Int) T lo hi z0 (k*11+4)),iI z3])] (need [VK ((k:Int)+1)] (need [VX (agg [iI c,iI T,iI lo,iI hi]),Q4 n a b u v,XI,KD=KD,Y3,z2,Y3,VX (AV.row 900),VX (c+1),(k:Int)+1=(↑(k+1):Int),k+1=k+1,GT (k+1) (GG k (λk=>[Bo.i (-z1 k 0),Bo.i (z1 0 k)]) (U4 2 [iI (-UB (↑(Int.toNat c):Int) T lo hi z0 (k*11+4)),iI z3])) (λi=>[Bo.i (-z1 i 0),Bo.i (z1 0 i)]),c=c,T=T,lo=lo,hi=hi] (leaf G6.normal))))) (need [VX (agg [iI c,iI T,iI lo,iI hi]),Q4 n a b u v,XI,KD=KD,Y3,z2,Y3,VX (AV.row 900),VX (c+1),k=Int.toNat c+1,∀(i:Nat),i<Int.toNat c+1->[Bo.i (-z1 i 0),Bo.i (z1 0 i)]=[Bo.i (-z1 i 0),Bo.i (z1 0 i)],c=c,T=T,lo=lo,hi=hi] (leaf (G6.exit 0))))) VS ?_)
  simp only [Jk3,CN,VL.sat,GS] at hQ;have hc:=(BH (kX.1 VR).1).1;have e0:((c.toNat:Nat):Int)=c:=VI;have eq: ∀k,UB c.toNat T lo hi (fwM c.toNat T lo hi n a b u v) k=sfB c T lo hi n a b u v k:=λ_=>rfl
  simp only [VL.sat,UA,UZ,GI,UC,VK,UG,H9,R0,CN,eq]
  refine ⟨λh=>?_,λh=>?_⟩
  ·have h2:=TZ VR k 0;have h3:=TZ VR 0 k;refine ⟨⟨VI,by rw [SM];omega⟩,⟨VI,λi hi a ha=>FN ha (by simp [AV.one,Value.oneCell'])⟩,VI,⟨VI,λi hi=>Jh0 hi (by rw [SM]) (by rw [c9 _ _ _ _ _ _ _ _ _ VI])⟩,VI,VI⟩
  ·obtain rfl:k=c.toNat+1:=VI;exact ⟨⟨rfl,λ_ _=>True.intro⟩,λE hE=>by cases hE;exact hQ⟩
theorem mM(VR:qI c T lo hi n a b u v true=0)(UE:flt c T lo hi n a b u v=0):VW VN 134 [.agg [i c,i T,i lo,i hi],rds n a b u v] (.tup [.lst 2 (rL c T lo hi n a b u v) (λk=>[i (-(fwB c T lo hi n a b u v k 0)),i (fwB c T lo hi n a b u v 0 k)]),i (eB c T lo hi n a b u v)]):=by
 refine vZ (L:=[Xv8 c T lo hi n a b u v]) (Gd.go true (Gd.go false Gd.rest)) (VJ.cons xM (VJ.nil _)) (VV.ofC (VP.nil _) (VM.nil _) (U9.cons gW (U9.nil _))) VY Tryz.func134 (US Tryz.f134) (G0 (lpE (b:= .loop Jo7) VS<|(Jc7 c T lo hi n a b u v UE).N)) (t:=let z0:=fwB c T lo hi n a b u v;(need [UD 4 n λk=>[i (a k),i (b k),i (u k),i (v k)]] (need [decide (qI c T lo hi n a b u v true=0)=true] (need [((0:Int) != 0)=false] (need [VK (c+1)] (need [VX (agg [iI c,iI T,iI lo,iI hi]),Q4 n a b u v,XI,KD=KD,Y3,VX (roI [] 125 (λk=>UB (↑(Int.toNat c):Int) T lo hi (fwM (Int.toNat c) T lo hi n a b u v) k) 0),Y3,VX (AV.row 900),VX (c+1),(0:Int)=(↑(0:Nat):Int),0=0,∀(i:Nat),i<0->[]=[Bo.i (-z0 i 0),Bo.i (z0 0 i)],c=c,T=T,lo=lo,hi=hi] (leaf (RV.tup [RV.lst 2 (Int.toNat c+1) λk=>[iI (-z0 k 0),iI (z0 0 k)],RV.x (JT)])))))))) VS ?_
 have hc:=(BH (kX.1 UE).1).1;have hl:rL c T lo hi n a b u v=c.toNat+1:=if_pos VR;have he:eB c T lo hi n a b u v=0:=VR;rw [hl,he];simp only [VL.sat,UA,UZ,GI,UC,VK,UG]
 (with_reducible repeat' first|apply And.intro|intro _)
 all_goals first|exact True.intro|with_reducible rfl|omega|exact isRec4 _ _ _ _ _|(simp [*];done)|(rename_i hm;simp only [GK,DQ,or_false] at hm;rcases hm with rfl|rfl<;>exact True.intro)
theorem mN(VR:qI c T lo hi n a b u v true≠0):VW VN 134 [.agg [i c,i T,i lo,i hi],rds n a b u v] (.tup [.lst 2 (rL c T lo hi n a b u v) (λk=>[i (-(fwB c T lo hi n a b u v k 0)),i (fwB c T lo hi n a b u v 0 k)]),i (eB c T lo hi n a b u v)]):=by
 refine vZ (L:=[]) (Gd.go false (Gd.go true Gd.rest)) (VJ.cons xM (VJ.nil _)) (VV.ofC (VP.nil _) (VM.nil _) (U9.cons gW (U9.nil _))) VY Tryz.func134 (US Tryz.f134) G4 (t:=let z0:=qI c T lo hi n a b u v true;(need [UD 4 n λk=>[i (a k),i (b k),i (u k),i (v k)]] (need [decide (z0=0)=false] (need [(z0 != 0)=true] (leaf (RV.tup [RV.x (.slice none 0 0),RV.x (.int .i64 (z0))])))))) VS ?_
 have hl:rL c T lo hi n a b u v=0:=if_neg VR;have he:eB c T lo hi n a b u v=qI c T lo hi n a b u v true:=rfl;rw [hl,he];simp only [VL.sat,UA,UZ,GI,UC,VK,UG]
 (with_reducible repeat' first|apply And.intro|intro _)
 all_goals first|exact True.intro|with_reducible rfl|omega|exact isRec4 _ _ _ _ _|(simp [*];done)
end
def S_Heights:UV
 |[.agg [.x (.int .i64 c),.x (.int .i64 T),.x (.int .i64 lo),.x (.int .i64 hi)],.lst 4 n f]=>some ([UD 4 n f],.tup [.lst 2 (rL c T lo hi n (col 0 f) (col 1 f) (col 2 f) (col 3 f)) (λk=>[i (-(fwB c T lo hi n (col 0 f) (col 1 f) (col 2 f) (col 3 f) k 0)),i (fwB c T lo hi n (col 0 f) (col 1 f) (col 2 f) (col 3 f) 0 k)]),i (eB c T lo hi n (col 0 f) (col 1 f) (col 2 f) (col 3 f))])
 |_=>none
theorem vV(c T lo hi:Int)(n:Nat)(a b u v:Nat->Int):VW VN 134 [.agg [i c,i T,i lo,i hi],rds n a b u v] (.tup [.lst 2 (rL c T lo hi n a b u v) (λk=>[i (-(fwB c T lo hi n a b u v k 0)),i (fwB c T lo hi n a b u v 0 k)]),i (eB c T lo hi n a b u v)]):=by
 by_cases h:qI c T lo hi n a b u v true=0
 ·exact mM c T lo hi n a b u v h (gE.1 h).1
 ·exact mN c T lo hi n a b u v h
theorem Heights_ok:VO VN 134 S_Heights:=by
 refine ⟨(UF Tryz.func134),?_⟩;intro avs ns res h hn;unfold S_Heights at h;split at h
 ·rename_i c T lo hi n f;cases h;have hr:UD 4 n f:=hn _ (GD);exact (vV c T lo hi n (col 0 f) (col 1 f) (col 2 f) (col 3 f)).same (.cons (.refl _) (.cons (.lst 4 n _ _ hr) .nil))
 ·cases h
end Go.Proofs.YtlclobclmfhlmaaGreatDoor.Bo
