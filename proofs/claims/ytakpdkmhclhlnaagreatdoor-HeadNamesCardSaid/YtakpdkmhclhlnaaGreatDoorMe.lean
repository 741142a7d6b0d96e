/- Contracts, put together. Conditions: those of each. -/
import Derived.Test.YtakpdkmhclhlnaaGreatDoorMd
import Derived.Lib.Walk
import Derived.Lib.SliceRun
import Derived.Lib.AppendZerosOnto
set_option linter.unusedSimpArgs false
set_option linter.unusedVariables false
set_option maxRecDepth 100000
namespace Go.Proofs.YtakpdkmhclhlnaaGreatDoor.Bo
open Go Go.Sx Go.RowKit
open Go.Sx.VO (need branch leaf)
open Go.Sx.AV (lst ptr agg roI tup top)
end Go.Proofs.YtakpdkmhclhlnaaGreatDoor.Bo
namespace Go.Proofs.YtakpdkmhclhlnaaGreatDoor
open Go Go.Sx Go.RowKit Bo
open Go.Sx.VO (need branch leaf)
open Go.Sx.AV (lst ptr agg roI tup top)
theorem U0:Tryz.prog.follows .mixedOrders=true:=VX
abbrev i(n:Int):AV:= .x (.int .i64 n)
abbrev iI(n:Int):AV:= .x (.int .i64 n)
abbrev bl(b:Bool):AV:= .x (.bool b)
abbrev bt:=Bo.bt
abbrev insB:=Bo.insB
def dnI(n d:Int):Int:=n.tdiv d
def upI(n d:Int):Int:=(n+d-1).tdiv d
theorem bt_iff(U n O:Int):bt U n O=true↔U<=n/\n<=O:=Bo.bt_iff U n O
theorem insB_iff(U a b O:Int):insB U a b O=true↔U<=a/\a<=b/\b<=O:=Bo.insB_iff U a b O
theorem gC{n d:Int}(hn:0<=n)(hd:1<=d):dnI n d*d<=n/\n<dnI n d*d+d/\0<=dnI n d/\dnI n d<=n:=by
 unfold dnI;rw [Int.tdiv_eq_ediv_of_nonneg hn];have h1:=Int.mul_ediv_add_emod n d;have h2:=Int.emod_nonneg n (show d≠0 by omega)
 have h3:=Int.emod_lt_of_pos n (show 0<d by omega)
 have h4:=Int.ediv_nonneg hn (show 0<=d by omega)
 have h5:=Int.ediv_le_self d hn;rw [Int.mul_comm] at h1;omega
theorem S0{n d:Int}(hn:0<=n)(hd:1<=d):upI n d*d-d<n/\n<=upI n d*d/\0<=upI n d/\upI n d<=n:=by
 have h:=gC (n:=n+d-1) VL hd;have e:upI n d=dnI (n+d-1) d:=rfl;rw [e];refine ⟨VL,VL,h.2.2.1,?_⟩;rcases Int.lt_or_le n (dnI (n+d-1) d) with h1|h1
 ·have h2:=Int.mul_le_mul_of_nonneg_right (show n+1<=dnI (n+d-1) d by omega) (show 0<=d by omega)
  rw [Int.add_mul,Int.one_mul] at h2;have h3:=Int.mul_nonneg hn (show 0<=d-1 by omega)
  rw [Int.mul_sub,Int.mul_one] at h3;omega
 ·exact h1
def B9:G0
 |[.x (.int .i64 n),.x (.int .i64 U),.x (.int .i64 O)]=>some ([],bl (bt U n O))
 |_=>none
abbrev KU:Value:=Value.bool false
theorem wO(n U O:Int):VZ VQ 92 [i n,i U,i O] (bl (bt U n O)):=by
 refine GT Tryz.func92 (t:=branch (decide (U<=n)) (leaf (RV.x (.bool (decide (n<=O))))) (leaf (RV.x (KU)))) VX ?_;simp only [VO.sat,UE,G5,GL,UH,UK];all_goals (simp+contextual [bt,insB,Bo.bt,Bo.insB,Bool.and_assoc]);all_goals omega
theorem RI:VS VQ 92 B9:=by
 refine ⟨(UJ Tryz.func92),?_⟩;intro avs ns res h hn;unfold B9 at h;split at h
 ·cases h;exact wO _ _ _
 ·cases h
def BA:G0
 |[.agg [.x (.int .i64 a),.x (.int .i64 b)],.x (.int .i64 U),.x (.int .i64 O)]=>some ([],bl (insB U a b O))
 |_=>none
theorem x9(a b U O:Int):VZ VQ 98 [.agg [i a,i b],i U,i O] (bl (insB U a b O)):=by
 refine GT Tryz.func98 (t:=branch (decide (U<=a)) (branch (decide (a<=b)) (leaf (RV.x (.bool (decide (b<=O))))) (leaf (RV.x (KU)))) (leaf (RV.x (KU)))) VX ?_;simp only [VO.sat,UE,G5,GL,UH,UK];all_goals (simp+contextual [bt,insB,Bo.bt,Bo.insB,Bool.and_assoc]);all_goals omega
theorem PQ:VS VQ 98 BA:=by
 refine ⟨(UJ Tryz.func98),?_⟩;intro avs ns res h hn;unfold BA at h;split at h
 ·cases h;exact x9 _ _ _ _
 ·cases h
def pR:G0
 |[.x (.int .i64 n),.x (.int .i64 d)]=>some ([1<=d/\d<=100000,0<=n/\n<=1000000000000],i (dnI n d))
 |_=>none
theorem Xg6(n d:Int)(VV:1<=d/\d<=100000)(UI:0<=n/\n<=1000000000000):VZ VQ 76 [i n,i d] (i (dnI n d)):=by
 refine GT Tryz.func76 (t:=need [d≠0,VN (Int.tdiv n d)] (leaf (RV.x (.int .i64 (Int.tdiv n d))))) VX ?_;have h:=gC UI.1 VV.1;unfold dnI at h ⊢;exact VC
theorem TP:VS VQ 76 pR:=by
 refine ⟨(UJ Tryz.func76),?_⟩;intro avs ns res h hn;unfold pR at h;split at h
 ·cases h;exact Xg6 _ _ (hn _ VW) (hn _ VW)
 ·cases h
def Zk2:G0
 |[.x (.int .i64 n),.x (.int .i64 d)]=>some ([1<=d/\d<=100000,0<=n/\n<=1000000000000],i (upI n d))
 |_=>none
theorem Zs1(n d:Int)(VV:1<=d/\d<=100000)(UI:0<=n/\n<=1000000000000):VZ VQ 77 [i n,i d] (i (upI n d)):=by
 refine GT Tryz.func77 (t:=need [VN (n+d)] (need [VN (n+d-1)] (need [d≠0,VN (Int.tdiv (n+d-1) d)] (leaf (RV.x (.int .i64 (Int.tdiv (n+d-1) d))))))) VX ?_;have h:=S0 UI.1 VV.1;unfold upI at h ⊢;exact VC
theorem Qw2:VS VQ 77 Zk2:=by
 refine ⟨(UJ Tryz.func77),?_⟩;intro avs ns res h hn;unfold Zk2 at h;split at h
 ·cases h;exact Zs1 _ _ (hn _ VW) (hn _ VW)
 ·cases h
theorem Qb0{a Z:Int}(ha:0<=a/\a<=100)(hd:0<=Z/\Z<=100000):0<=a*Z/\a*Z<=10000000:=by
 have h1:=Int.mul_nonneg ha.1 hd.1;have h2:=Bo.mul_bd (x:=a) (y:=Z) (X:=100) (Y:=100000) VL VL;omega
def Qd2:G0
 |[.agg [.x (.int .i64 a),.x (.int .i64 b)],.x (.int .i64 Z)]=>some ([0<=a/\a<=100,0<=b/\b<=100,0<=Z/\Z<=100000],.agg [i (dnI (a*Z) 100),i (upI (b*Z) 100)])
 |_=>none
theorem Qy6(a b Z:Int)(VV:0<=a/\a<=100)(UI:0<=b/\b<=100)(HR:0<=Z/\Z<=100000):VZ VQ 151 [.agg [i a,i b],i Z] (.agg [i (dnI (a*Z) 100),i (upI (b*Z) 100)]):=by
 refine U4 (L:=[]) (Ae TP (Ae Qw2 Aa)) U0 Tryz.func151 (UV Tryz.f151) U7 (t:=need [VN (a*Z)] (need [(1:Int)<=100/\(100:Int)<=100000,(0:Int)<=a*Z/\a*Z<=1000000000000] (need [VN (b*Z)] (need [(1:Int)<=100/\(100:Int)<=100000,(0:Int)<=b*Z/\b*Z<=1000000000000] (leaf (RV.agg [RV.x (.int .i64 (dnI (a*Z) (100:Int))),RV.x (.int .i64 (upI (b*Z) (100:Int)))])))))) VX ?_;have h1:=Qb0 VV HR;have h2:=Qb0 UI HR;exact VC
theorem bR:VS VQ 151 Qd2:=by
 refine ⟨(UJ Tryz.func151),?_⟩;intro avs ns res h hn;unfold Qd2 at h;split at h
 ·cases h;exact Qy6 _ _ _ (hn _ VW) (hn _ VW) (hn _ VW)
 ·cases h
section
variable (f:Nat->Int)(k:Nat)(Z:Int)
def onL:Int:=f (4+2*k)-upI (f 3*Z) 100
def onH:Int:=f (5+2*k)-dnI (f 2*Z) 100
end
def teM(c:Int)(k:Nat):Int:=dnI (1000*k) c
def drB(f:Nat->Int):Prop:=(0<=f 2/\f 2<=100)/\(0<=f 3/\f 3<=100)
def bdB(f:Nat->Int):Prop:= ∀j,j<22-> -100000000000<=f (4+j)/\f (4+j)<=100000000000
theorem Qy7{f:Nat->Int}{Z:Int}(h:drB f)(hd:0<=Z/\Z<=100000):(0<=upI (f 3*Z) 100/\upI (f 3*Z) 100<=10000000)/\0<=dnI (f 2*Z) 100/\dnI (f 2*Z) 100<=10000000:=by
 have h1:=Qb0 h.1 hd;have h2:=Qb0 h.2 hd;have h3:=gC h1.1 (show (1:Int)<=100 by omega)
 have h4:=S0 h2.1 (show (1:Int)<=100 by omega)
 omega
theorem nP(c T U O:Int)(A B:AV)(f:Nat->Int)(k:Nat)(Z:Int)(VV:drB f)(UI:bdB f)(HR:k<=10)(DY:0<=Z/\Z<=100000):VZ VQ 114 [.roI [i c,i T,i U,i O,A,B] 26 f 0,i k,i Z] (i (onL f k Z)):=by
 refine U4 (L:=[]) (Ae bR Aa) U0 Tryz.func114 (UV Tryz.f114) U7 (t:=need [UN k 11] (need [k*2+10+0-1-1-1-1-1-1<26] (need [2+2<=26] (need [(0:Int)<=f (2+nat_lit 0)/\f (2+nat_lit 0)<=100,(0:Int)<=f (2+nat_lit 1)/\f (2+nat_lit 1)<=100,(0:Int)<=Z/\Z<=100000] (need [VN (f (k*2+10+0-1-1-1-1-1-1)-upI (f (2+nat_lit 1)*Z) (100:Int))] (leaf (RV.x (.int .i64 (f (k*2+10+0-1-1-1-1-1-1)-upI (f (2+nat_lit 1)*Z) (100:Int)))))))))) VX ?_;have h0:=Qy7 VV DY;have h1:=UI (2*k) VL;have h2:=UI (2*k+1) VL;rw [show 4+(2*k+1)=5+2*k by omega] at h2
 have d1:=VV.1;have d2:=VV.2
 have hi6:VN (f (4+2*k)-upI (f 3*Z) 100):=by
  simp only [VN];omega
 simp only [VO.sat,UE,G5,GL,UH,UK];rw [show k*2+10+0-1-1-1-1-1-1=4+2*k by omega]
 exact ⟨VL,VL,VL,⟨d1,d2,DY⟩,hi6,rfl⟩
def lC:G0
 |[.roI [.x (.int .i64 c),.x (.int .i64 T),.x (.int .i64 U),.x (.int .i64 O),A,B] 26 f 0,.x (.int .i64 k),.x (.int .i64 Z)]=>some ([drB f,bdB f,0<=k/\k<=10,0<=Z/\Z<=100000],i (onL f k.toNat Z))
 |_=>none
theorem nO:VS VQ 114 lC:=by
 refine ⟨(UJ Tryz.func114),?_⟩;intro avs ns res h hn;unfold lC at h;split at h
 ·rename_i c T U O A B f k Z;cases h;have hk:0<=k/\k<=10:=hn _ VW;have e:((k.toNat:Nat):Int)=k:=VL;have h0:=nP c T U O A B f k.toNat Z (hn _ VW) (hn _ VW) VL (hn _ VW);rw [e] at h0;exact h0
 ·cases h
theorem TE(c T U O:Int)(A B:AV)(f:Nat->Int)(k:Nat)(Z:Int)(VV:drB f)(UI:bdB f)(HR:k<=10)(DY:0<=Z/\Z<=100000):VZ VQ 115 [.roI [i c,i T,i U,i O,A,B] 26 f 0,i k,i Z] (i (onH f k Z)):=by
 refine U4 (L:=[]) (Ae bR Aa) U0 Tryz.func115 (UV Tryz.f115) U7 (t:=need [UN k 11] (need [k*2+10+1-1-1-1-1-1-1<26] (need [2+2<=26] (need [(0:Int)<=f (2+nat_lit 0)/\f (2+nat_lit 0)<=100,(0:Int)<=f (2+nat_lit 1)/\f (2+nat_lit 1)<=100,(0:Int)<=Z/\Z<=100000] (need [VN (f (k*2+10+1-1-1-1-1-1-1)-dnI (f (2+nat_lit 0)*Z) (100:Int))] (leaf (RV.x (.int .i64 (f (k*2+10+1-1-1-1-1-1-1)-dnI (f (2+nat_lit 0)*Z) (100:Int)))))))))) VX ?_;have h0:=Qy7 VV DY;have h1:=UI (2*k) VL;have h2:=UI (2*k+1) VL;rw [show 4+(2*k+1)=5+2*k by omega] at h2
 have d1:=VV.1;have d2:=VV.2
 have hi6:VN (f (5+2*k)-dnI (f 2*Z) 100):=by
  simp only [VN];omega
 simp only [VO.sat,UE,G5,GL,UH,UK];rw [show k*2+10+1-1-1-1-1-1-1=5+2*k by omega]
 exact ⟨VL,VL,VL,⟨d1,d2,DY⟩,hi6,rfl⟩
def IK:G0
 |[.roI [.x (.int .i64 c),.x (.int .i64 T),.x (.int .i64 U),.x (.int .i64 O),A,B] 26 f 0,.x (.int .i64 k),.x (.int .i64 Z)]=>some ([drB f,bdB f,0<=k/\k<=10,0<=Z/\Z<=100000],i (onH f k.toNat Z))
 |_=>none
theorem TD:VS VQ 115 IK:=by
 refine ⟨(UJ Tryz.func115),?_⟩;intro avs ns res h hn;unfold IK at h;split at h
 ·rename_i c T U O A B f k Z;cases h;have hk:0<=k/\k<=10:=hn _ VW;have e:((k.toNat:Nat):Int)=k:=VL;have h0:=TE c T U O A B f k.toNat Z (hn _ VW) (hn _ VW) VL (hn _ VW);rw [e] at h0;exact h0
 ·cases h
theorem Zw7(c T U O:Int)(A B:AV)(f:Nat->Int)(k:Nat)(Z:Int)(VV:drB f)(UI:bdB f)(HR:k<=10)(DY:0<=Z/\Z<=100000):VZ VQ 72 [.roI [i c,i T,i U,i O,A,B] 26 f 0,i k,i Z] (.agg [i (onL f k Z),i (onH f k Z)]):=by
 refine U4 (L:=[]) (Ae nO (Ae TD Aa)) U0 Tryz.func72 (UV Tryz.f72) U7 (t:=need [drB f,bdB f,(0:Int)<=(k:Int)/\(k:Int)<=10,(0:Int)<=Z/\Z<=100000] (need [drB f,bdB f,(0:Int)<=(k:Int)/\(k:Int)<=10,(0:Int)<=Z/\Z<=100000] (leaf (RV.agg [RV.x (.int .i64 (onL f k Z)),RV.x (.int .i64 (onH f k Z))])))) VX ?_;simp only [VO.sat,UE,G5,GL,UH,UK,FF];exact ⟨⟨VV,UI,VL,DY⟩,⟨VV,UI,VL,DY⟩⟩
def Jk3:G0
 |[.roI [.x (.int .i64 c),.x (.int .i64 T),.x (.int .i64 U),.x (.int .i64 O),A,B] 26 f 0,.x (.int .i64 k),.x (.int .i64 Z)]=>some ([drB f,bdB f,0<=k/\k<=10,0<=Z/\Z<=100000],.agg [i (onL f k.toNat Z),i (onH f k.toNat Z)])
 |_=>none
theorem Wb4:VS VQ 72 Jk3:=by
 refine ⟨(UJ Tryz.func72),?_⟩;intro avs ns res h hn;unfold Jk3 at h;split at h
 ·rename_i c T U O A B f k Z;cases h;have hk:0<=k/\k<=10:=hn _ VW;have e:((k.toNat:Nat):Int)=k:=VL;have h0:=Zw7 c T U O A B f k.toNat Z (hn _ VW) (hn _ VW) VL (hn _ VW);rw [e] at h0;exact h0
 ·cases h
theorem Xn6{c:Int}{k:Nat}(hc:1<=c/\c<=10)(hk:k<=10):0<=teM c k/\teM c k<=10000:=by
 have:=gC (n:=1000*k) VL hc.1;unfold teM;omega
theorem Qw6(c T U O:Int)(A B:AV)(f:Nat->Int)(k:Nat)(VV:1<=c/\c<=10)(UI:k<=10):VZ VQ 141 [.roI [i c,i T,i U,i O,A,B] 26 f 0,i k] (i (teM c k)):=by
 refine GT Tryz.func141 (t:=need [VN ((1000:Int)*(k:Int))] (need [c≠0,VN (Int.tdiv ((1000:Int)*(k:Int)) c)] (leaf (RV.x (.int .i64 (Int.tdiv ((1000:Int)*(k:Int)) c)))))) VX ?_;have h:=Xn6 VV UI;unfold teM dnI at h ⊢;exact VC
def Qd0:G0
 |[.roI [.x (.int .i64 c),.x (.int .i64 T),.x (.int .i64 U),.x (.int .i64 O),A,B] 26 f 0,.x (.int .i64 k)]=>some ([1<=c/\c<=10,0<=k/\k<=10],i (teM c k.toNat))
 |_=>none
theorem Qw5:VS VQ 141 Qd0:=by
 refine ⟨(UJ Tryz.func141),?_⟩;intro avs ns res h hn;unfold Qd0 at h;split at h
 ·rename_i c T U O A B f k;cases h;have hk:0<=k/\k<=10:=hn _ VW;have e:((k.toNat:Nat):Int)=k:=VL;have h0:=Qw6 c T U O A B f k.toNat (hn _ VW) VL;rw [e] at h0;exact h0
 ·cases h
theorem ME(c T U O:Int)(A B:AV)(f:Nat->Int)(k:Nat)(Z:Int)(VV:drB f)(UI:bdB f)(HR:k<=10)(DY:0<=Z/\Z<=100000)(BM:1<=c/\c<=10):VZ VQ 97 [.roI [i c,i T,i U,i O,A,B] 26 f 0,i k,i Z] (.agg [i (onL f k Z-teM c k),i (onH f k Z-teM c k)]):=by
 refine U4 (L:=[]) (Ae Wb4 (Ae Qw5 Aa)) U0 Tryz.func97 (UV Tryz.f97) U7 (t:=need [drB f,bdB f,(0:Int)<=(k:Int)/\(k:Int)<=10,(0:Int)<=Z/\Z<=100000] (need [(1:Int)<=c/\c<=10,(0:Int)<=(k:Int)/\(k:Int)<=10] (need [VN (onL f k Z-teM c k)] (need [(1:Int)<=c/\c<=10,(0:Int)<=(k:Int)/\(k:Int)<=10] (need [VN (onH f k Z-teM c k)] (leaf (RV.agg [RV.x (.int .i64 (onL f k Z-teM c k)),RV.x (.int .i64 (onH f k Z-teM c k))]))))))) VX ?_;have h0:=Qy7 VV DY;have h1:=UI (2*k) VL;have h2:=UI (2*k+1) VL;rw [show 4+(2*k+1)=5+2*k by omega] at h2
 have d1:=VV.1;have d2:=VV.2
 have h5:=Xn6 BM HR;unfold onL onH;simp only [VO.sat,UE,G5,GL,UH,VN,UK,FF,onL,onH];refine ⟨⟨VV,UI,VL,DY⟩,⟨BM,VL⟩,VL,⟨BM,VL⟩,VL⟩
def gK:G0
 |[.roI [.x (.int .i64 c),.x (.int .i64 T),.x (.int .i64 U),.x (.int .i64 O),A,B] 26 f 0,.x (.int .i64 k),.x (.int .i64 Z)]=>some ([drB f,bdB f,0<=k/\k<=10,0<=Z/\Z<=100000,1<=c/\c<=10],.agg [i (onL f k.toNat Z-teM c k.toNat),i (onH f k.toNat Z-teM c k.toNat)])
 |_=>none
theorem MD:VS VQ 97 gK:=by
 refine ⟨(UJ Tryz.func97),?_⟩;intro avs ns res h hn;unfold gK at h;split at h
 ·rename_i c T U O A B f k Z;cases h;have hk:0<=k/\k<=10:=hn _ VW;have e:((k.toNat:Nat):Int)=k:=VL;have h0:=ME c T U O A B f k.toNat Z (hn _ VW) (hn _ VW) VL (hn _ VW) (hn _ VW);rw [e] at h0;exact h0
 ·cases h
def keP(c:Int)(f:Nat->Int)(wi Z x:Int):Bool:=insB (-wi) (onL f x.toNat Z-teM c x.toNat) (onH f x.toNat Z-teM c x.toNat) wi
def mkV(p:Int)(j:Nat):List Value:=[.int .i64 (p+j)]
def Qd7:G0
 |[.x (.int .i64 x),.ro [.roI [.x (.int .i64 c),.x (.int .i64 T),.x (.int .i64 U),.x (.int .i64 O),A,B] 26 f 0],.ro [.x (.int .i64 Z)],.ro [.x (.int .i64 I),.x (.int .i64 S),.x (.int .i64 wi)]]=>some ([drB f,bdB f,1<=c/\c<=10,0<=Z/\Z<=100000,0<=wi/\wi<=1000000,0<=x/\x<=10],bl (keP c f wi Z x))
 |_=>none
section
variable (x:Int)(c T U O:Int)(A B:AV)(f:Nat->Int)(Z I S wi:Int)
theorem Wd7(VV:drB f)(UI:bdB f)(HR:1<=c/\c<=10)(DY:0<=Z/\Z<=100000)(BM:0<=wi/\wi<=1000000)(xZ:0<=x/\x<=10):VZ VQ 96 [i x,.ro [.roI [i c,i T,i U,i O,A,B] 26 f 0],.ro [i Z],.ro [i I,i S,i wi]] (bl (keP c f wi Z x)):=by
 refine U4 (L:=[]) (Ae MD (Ae PQ Aa)) U0 Tryz.func96 (UV Tryz.f96) U7 (t:=need [drB f,bdB f,(0:Int)<=x/\x<=10,(0:Int)<=Z/\Z<=100000,(1:Int)<=c/\c<=10] (need [VN (-wi)] (leaf (RV.x (.bool (insB (-wi) (onL f (Int.toNat x) Z-teM c (Int.toNat x)) (onH f (Int.toNat x) Z-teM c (Int.toNat x)) wi)))))) VX ?_;simp only [VO.sat,UE,G5,GL,UH,VN,UK,keP];exact ⟨⟨VV,UI,xZ,DY,HR⟩,VL⟩
theorem Wd6:VS VQ 96 Qd7:=by
 refine ⟨(UJ Tryz.func96),?_⟩;intro avs ns res h hn;unfold Qd7 at h;split at h
 ·cases h;exact Wd7 _ _ _ _ _ _ _ _ _ _ _ _ (hn _ VW) (hn _ VW) (hn _ VW) (hn _ VW) (hn _ VW) (hn _ VW)
 ·cases h
theorem Wr9(VV:drB f)(UI:bdB f)(HR:1<=c/\c<=10)(DY:0<=Z/\Z<=100000)(BM:0<=wi/\wi<=1000000)(xZ:0<=x/\x<=10):VZ VQ 138 [i x,.ro [.fn (.func 96) [] [.ro [.roI [i c,i T,i U,i O,A,B] 26 f 0],.ro [i Z],.ro [i I,i S,i wi]]]] (bl (!(keP c f wi Z x))):=by
 refine U4 (L:=[]) (Ae Wd6 Aa) U0 Tryz.func138 (UV Tryz.f138) U7 (t:=need [drB f,bdB f,(1:Int)<=c/\c<=10,(0:Int)<=Z/\Z<=100000,(0:Int)<=wi/\wi<=1000000,(0:Int)<=x/\x<=10] (leaf (RV.x (.bool !keP c f wi Z x)))) VX ?_;simp only [VO.sat,UE,G5,GL,UH,UK];exact ⟨VV,UI,HR,DY,BM,xZ⟩
end
def Qe9:G0
 |[.x (.int .i64 x),.ro [.fn (.func 96) [] [.ro [.roI [.x (.int .i64 c),.x (.int .i64 T),.x (.int .i64 U),.x (.int .i64 O),A,B] 26 f 0],.ro [.x (.int .i64 Z)],.ro [.x (.int .i64 I),.x (.int .i64 S),.x (.int .i64 wi)]]]]=>some ([drB f,bdB f,1<=c/\c<=10,0<=Z/\Z<=100000,0<=wi/\wi<=1000000,0<=x/\x<=10],bl (!(keP c f wi Z x)))
 |_=>none
theorem iZ:VS VQ 138 Qe9:=by
 refine ⟨(UJ Tryz.func138),?_⟩;intro avs ns res h hn;unfold Qe9 at h;split at h
 ·cases h;exact Wr9 _ _ _ _ _ _ _ _ _ _ _ _ (hn _ VW) (hn _ VW) (hn _ VW) (hn _ VW) (hn _ VW) (hn _ VW)
 ·cases h
abbrev WB(c:Int)(T:Int)(U:Int)(O:Int)(A:AV)(B:AV)(f:Nat->Int)(Z:Int)(I:Int)(S:Int)(wi:Int):AV:=AV.fn (Fn.func 138) [] [AV.ro [AV.fn (Fn.func 96) [] [AV.ro [roI [iI c,iI T,iI U,iI O,A,B] 26 (λa=>f a) 0],AV.ro [iI Z],AV.ro [iI I,iI S,iI wi]]]]
section
variable (n:Nat)(g:Nat->Int)
abbrev K9:AV:=lst 1 n λk=>[iI (g k)]
def Wx1(c T U O:Int)(A B:AV)(f:Nat->Int)(Z I S wi:Int):St:={σ:=[K9 n g,WB c T U O A B f Z I S wi]++HK 5 [iI (n:Int)]++HK 11 [],m:=[],nx:=4}
noncomputable def Jl1:Code:=UC (VU (UA Tryz.f172) 0)
def Wd9(c T U O:Int)(A B:AV)(f:Nat->Int)(Z I S wi:Int)(k:Nat):St:=(upM [(8,i k)] (Wx1 n g c T U O A B f Z I S wi))
def gZ(c T U O:Int)(A B:AV)(f:Nat->Int)(Z I S wi:Int)(k:Nat):GB->Option St
 | .ret=>some (upM [(4,i (GW ((λk=> !(keP c f wi Z (g k)))) n))] (Wx1 n g c T U O A B f Z I S wi))
 | .exit 0=>some (upM [] (Wx1 n g c T U O A B f Z I S wi))
 |_=>none
def Jg6(c T U O:Int)(A B:AV)(f:Nat->Int)(Z I S wi:Int):CT:= .branch (decide (GW ((λk=> !(keP c f wi Z (g k)))) n<n)) (.leaf (.ret,(gZ n g c T U O A B f Z I S wi 0 .ret).getD (Wx1 n g c T U O A B f Z I S wi))) (.leaf (.exit 0,(gZ n g c T U O A B f Z I S wi 0 (.exit 0)).getD (Wx1 n g c T U O A B f Z I S wi)))
def Xq7(c T U O:Int)(A B:AV)(f:Nat->Int)(Z I S wi:Int):UL:=(HM (Wd9 n g c T U O A B f Z I S wi (0)) (Jg6 n g c T U O A B f Z I S wi))
theorem Zp5(c T U O:Int)(A B:AV)(f:Nat->Int)(Z I S wi:Int)(VV:n<=100000)(UI:drB f)(HR:bdB f)(DY:1<=c/\c<=10)(BM:0<=Z/\Z<=100000)(xZ:0<=wi/\wi<=1000000)(nA: ∀j,j<n->0<=g j/\g j<=10):GD VQ (.loop Jl1) (Xq7 n g c T U O A B f Z I S wi):=by
 refine HT (L:=[]) (Ae iZ Aa) U0 U7 (X:=Nat) (Wd9 n g c T U O A B f Z I S wi) (λk=>k<=n/\ ∀j,j<k->(λk=> !(keP c f wi Z (g k))) j=false) (λk=>n-k) (gZ n g c T U O A B f Z I S wi) (x0:=0) ⟨VL,λj hj=>VL⟩ ?_ ?_ ?_
 ·rintro k;kernel_rfl
 ·rintro k y E h;unfold gZ at h;split at h
  ·cases h;kernel_rfl
  ·cases h;kernel_rfl
  ·cases h
 ·rintro Q hQ k hx;refine ⟨(k+1),?_⟩;(with_reducible refine DU (t:=let W:=(U1 (WB c T U O A B f Z I S wi));(branch (decide ((k:Int)<(n:Int))) (need [UN k n] (need [drB λa=>f a,bdB λa=>f a,(1:Int)<=c/\c<=10,(0:Int)<=Z/\Z<=100000,(0:Int)<=wi/\wi<=1000000,(0:Int)<=g k/\g k<=10] (branch (!keP c (λa=>f a) wi Z (g k)) (need [U1 (K9 n g),W,(k:Int)=(↑(GW (λk=> !keP c f wi Z (g k)) n):Int),U1 (n:Int)] (leaf GB.ret)) (need [VN ((k:Int)+1)] (need [U1 (K9 n g),W,U1 (n:Int),(k:Int)+1=(↑(k+1):Int)] (leaf GB.normal)))))) (need [U1 (K9 n g),W,U1 (n:Int)] (leaf (GB.exit 0))))) VX ?_)
  simp only [Jg6,gZ,VO.sat,GX,HG] at hQ;simp only [VO.sat,UE,UK,HG,VN,gZ,FF];refine ⟨λh=>⟨VL,⟨UI,HR,DY,BM,xZ,nA k VL⟩,?_⟩,λh=>?_⟩
  rotate_left
  ·have hf:GW ((λk=> !(keP c f wi Z (g k)))) n=n:=BX (λj hj=>hx.2 j VL)
   intro E hE;cases hE;exact hQ.2 VL
  refine ⟨λhb=>?_,λhb=>?_⟩
  ·have hf:GW ((λk=> !(keP c f wi Z (g k)))) n=k:=zI VL hb hx.2
   refine ⟨VL,λE hE=>?_⟩
   cases hE;exact hQ.1 VL
  ·refine ⟨VL,VL,⟨VL,λj hj=>?_⟩,VL⟩
   rcases (show j<k\/j=k by omega) with h1|rfl
   ·exact hx.2 j h1
   ·exact hb
theorem Xv5(c T U O:Int)(A B:AV)(f:Nat->Int)(Z I S wi:Int)(VV:n<=100000)(UI:drB f)(HR:bdB f)(DY:1<=c/\c<=10)(BM:0<=Z/\Z<=100000)(xZ:0<=wi/\wi<=1000000)(nA: ∀j,j<n->0<=g j/\g j<=10):VZ VQ 172 [.lst 1 n (λk=>[i (g k)]),.fn (.func 138) [] [.ro [.fn (.func 96) [] [.ro [.roI [i c,i T,i U,i O,A,B] 26 f 0],.ro [i Z],.ro [i I,i S,i wi]]]]] (i (if GW ((λk=> !(keP c f wi Z (g k)))) n<n then (GW ((λk=> !(keP c f wi Z (g k)))) n:Int) else -1)):=by
 refine U4 (L:=[Xq7 n g c T U O A B f Z I S wi]) (Ae iZ Aa) U0 Tryz.func172 (UV Tryz.f172) (GA (lpE (b:= .loop Jl1) VX<|Zp5 n g c T U O A B f Z I S wi VV UI HR DY BM xZ nA)) (t:=need [U1 (K9 n g),U1 (WB c T U O A B f Z I S wi),U1 (n:Int),(0:Int)=(↑(0:Nat):Int)] (branch (decide (GW (λk=> !keP c f wi Z (g k)) n<n)) (leaf (RV.x (.int .i64 (↑(GW (λk=> !keP c f wi Z (g k)) n):Int)))) (leaf (RV.x (.int .i64 (-1:Int)))))) VX ?_
 exact VB
end
def Xp9:G0
 |[.lst 1 n g,.fn (.func 138) [] [.ro [.fn (.func 96) [] [.ro [.roI [.x (.int .i64 c),.x (.int .i64 T),.x (.int .i64 U),.x (.int .i64 O),A,B] 26 f 0],.ro [.x (.int .i64 Z)],.ro [.x (.int .i64 I),.x (.int .i64 S),.x (.int .i64 wi)]]]]]=>some ([UG 1 n g,n<=100000,drB f,bdB f,1<=c/\c<=10,0<=Z/\Z<=100000,0<=wi/\wi<=1000000,∀j,j<n->0<=col 0 g j/\col 0 g j<=10],i (if GW ((λk=> !(keP c f wi Z (col 0 g k)))) n<n then (GW ((λk=> !(keP c f wi Z (col 0 g k)))) n:Int) else -1))
 |_=>none
theorem Xv4:VS VQ 172 Xp9:=by
 refine ⟨(UJ Tryz.func172),?_⟩;intro avs ns res h hn;unfold Xp9 at h;split at h
 ·cases h;have hr:UG 1 _ _:=hn _ (GI);exact (Xv5 _ (col 0 _) _ _ _ _ _ _ _ _ _ _ _ (hn _ VW) (hn _ VW) (hn _ VW) (hn _ VW) (hn _ VW) (hn _ VW) (hn _ VW)).same (.cons (.lst 1 _ _ _ hr) (.cons (.refl _) .nil))
 ·cases h
theorem Zj3(n:Nat)(g:Nat->Int)(c T U O:Int)(A B:AV)(f:Nat->Int)(Z I S wi:Int)(VV:n<=100000)(UI:drB f)(HR:bdB f)(DY:1<=c/\c<=10)(BM:0<=Z/\Z<=100000)(xZ:0<=wi/\wi<=1000000)(nA: ∀j,j<n->0<=g j/\g j<=10):VZ VQ 137 [.lst 1 n (λk=>[i (g k)]),.fn (.func 138) [] [.ro [.fn (.func 96) [] [.ro [.roI [i c,i T,i U,i O,A,B] 26 f 0],.ro [i Z],.ro [i I,i S,i wi]]]]] (bl (!FN (λk=>keP c f wi Z (g k)) n)):=by
 refine U4 (L:=[]) (Ae Xv4 Aa) U0 Tryz.func137 (UV Tryz.f137) U7 (t:=need [UG 1 n λk=>[i (g k)],n<=100000,drB f,bdB f,(1:Int)<=c/\c<=10,(0:Int)<=Z/\Z<=100000,(0:Int)<=wi/\wi<=1000000,∀(j:Nat),j<n->(0:Int)<=g j/\g j<=10] (leaf (RV.x (.bool (decide ((if GW (λk=> !keP c f wi Z (g k)) n<n then (↑(GW (λk=> !keP c f wi Z (g k)) n):Int) else (-1:Int))>=(0:Int))))))) VX ?_
 simp only [VO.sat,UE,G5,UH,UK];refine ⟨⟨λ_ _=>rfl,VV,UI,HR,DY,BM,xZ,nA⟩,?_⟩
 rw [kB];have e:(λk=> !(λk=>keP c f wi Z (g k)) k)=(λk=> !(keP c f wi Z (g k))):=rfl
 rw [e];show decide ((if GW (λk=> !(keP c f wi Z (g k))) n<n then (GW (λk=> !(keP c f wi Z (g k))) n:Int) else -1)>=0)=_
 have:=DZ ((λk=> !(keP c f wi Z (g k)))) n
 split<;>simp<;>omega
def Xq4:G0
 |[.lst 1 n g,.fn (.func 138) [] [.ro [.fn (.func 96) [] [.ro [.roI [.x (.int .i64 c),.x (.int .i64 T),.x (.int .i64 U),.x (.int .i64 O),A,B] 26 f 0],.ro [.x (.int .i64 Z)],.ro [.x (.int .i64 I),.x (.int .i64 S),.x (.int .i64 wi)]]]]]=>some ([UG 1 n g,n<=100000,drB f,bdB f,1<=c/\c<=10,0<=Z/\Z<=100000,0<=wi/\wi<=1000000,∀j,j<n->0<=col 0 g j/\col 0 g j<=10],bl (!FN (λk=>keP c f wi Z (col 0 g k)) n))
 |_=>none
theorem Zj2:VS VQ 137 Xq4:=by
 refine ⟨(UJ Tryz.func137),?_⟩;intro avs ns res h hn;unfold Xq4 at h;split at h
 ·cases h;have hr:UG 1 _ _:=hn _ (GI);exact (Zj3 _ (col 0 _) _ _ _ _ _ _ _ _ _ _ _ (hn _ VW) (hn _ VW) (hn _ VW) (hn _ VW) (hn _ VW) (hn _ VW) (hn _ VW)).same (.cons (.lst 1 _ _ _ hr) (.cons (.refl _) .nil))
 ·cases h
theorem Xj1(n:Nat)(g:Nat->Int)(c T U O:Int)(A B:AV)(f:Nat->Int)(Z I S wi:Int)(VV:n<=100000)(UI:drB f)(HR:bdB f)(DY:1<=c/\c<=10)(BM:0<=Z/\Z<=100000)(xZ:0<=wi/\wi<=1000000)(nA: ∀j,j<n->0<=g j/\g j<=10):VZ VQ 93 [.lst 1 n (λk=>[i (g k)]),.fn (.func 96) [] [.ro [.roI [i c,i T,i U,i O,A,B] 26 f 0],.ro [i Z],.ro [i I,i S,i wi]]] (bl (FN (λk=>keP c f wi Z (g k)) n)):=by
 refine U4 (L:=[]) (Ae Zj2 Aa) U0 Tryz.func93 (UV Tryz.f93) U7 (t:=need [UG 1 n λk=>[i (g k)],n<=100000,drB f,bdB f,(1:Int)<=c/\c<=10,(0:Int)<=Z/\Z<=100000,(0:Int)<=wi/\wi<=1000000,∀(j:Nat),j<n->(0:Int)<=g j/\g j<=10] (leaf (RV.x (.bool !!FN (λk=>keP c f wi Z (g k)) n)))) VX ?_
 simp only [VO.sat,UE,G5,UH,UK];refine ⟨⟨λ_ _=>rfl,VV,UI,HR,DY,BM,xZ,nA⟩,?_⟩
 show (!!FN (λk=>keP c f wi Z (g k)) n)=_
 simp
def Wt9:G0
 |[.lst 1 n g,.fn (.func 96) [] [.ro [.roI [.x (.int .i64 c),.x (.int .i64 T),.x (.int .i64 U),.x (.int .i64 O),A,B] 26 f 0],.ro [.x (.int .i64 Z)],.ro [.x (.int .i64 I),.x (.int .i64 S),.x (.int .i64 wi)]]]=>some ([UG 1 n g,n<=100000,drB f,bdB f,1<=c/\c<=10,0<=Z/\Z<=100000,0<=wi/\wi<=1000000,∀j,j<n->0<=col 0 g j/\col 0 g j<=10],bl (FN (λk=>keP c f wi Z (col 0 g k)) n))
 |_=>none
theorem Xj0:VS VQ 93 Wt9:=by
 refine ⟨(UJ Tryz.func93),?_⟩;intro avs ns res h hn;unfold Wt9 at h;split at h
 ·cases h;have hr:UG 1 _ _:=hn _ (GI);exact (Xj1 _ (col 0 _) _ _ _ _ _ _ _ _ _ _ _ (hn _ VW) (hn _ VW) (hn _ VW) (hn _ VW) (hn _ VW) (hn _ VW) (hn _ VW)).same (.cons (.lst 1 _ _ _ hr) (.cons (.refl _) .nil))
 ·cases h
def aA:G0
 |[.x (.int .i64 p),.x (.int .i64 q)]=>some ([],.fn (.func 140) [] [.ro [i p],.ro [i q]])
 |_=>none
abbrev XT(p:Int)(q:Int):AV:=AV.fn (Fn.func 140) [] [AV.ro [iI p],AV.ro [iI q]]
abbrev JY:Ext:={}
theorem Wc6(p q:Int):FO VQ 95 [i p,i q] (.fn (.func 140) [] [.ro [i p],.ro [i q]]):=by
 refine D2 (L:=[]) Aa Ad U0 Tryz.func95 (UV Tryz.f95) G4 (t:=leaf (XT p q)) VX ?_;exact rfl
theorem d8:PI VQ 95 aA:=by
 refine ⟨(UJ Tryz.func95),?_⟩;intro avs ns res h hn;unfold aA at h;split at h
 ·cases h;exact Wc6 _ _
 ·cases h
section
variable (l:Nat)
abbrev YF:AV:=AV.fn (Fn.yield l) [] []
def Wx8(p q:Int):St:={σ:=[YF l,AV.ro [iI p],AV.ro [iI q]]++HK 12 [],m:=[],nx:=2,gh:=some 0}
noncomputable def Zo8:Code:=UC (VU (UA Tryz.f140) 0)
def TB(p q:Int)(j:Nat):St:={σ:=H6 [(4,i (p+j))] (Wx8 l p q).σ,m:=[],nx:=0,gh:=some (j) }
def jJ(p q:Int)(j:Nat):GB->Option St
 | .exit 0=>some {σ:=H6 [] (Wx8 l p q).σ,m:=[],nx:=0,gh:=some ((q-p+1).toNat) }
 | .ret=>some {σ:=H6 [] (Wx8 l p q).σ,m:=[],nx:=0,gh:=none}
 |_=>none
def Ji3(p q:Int):CT:= .may True (.leaf (.exit 0,(jJ l p q 0 (.exit 0)).getD (Wx8 l p q))) (.leaf (.ret,(jJ l p q 0 .ret).getD (Wx8 l p q)))
def Xs6(p q:Int):UL:=GN [] (HM (TB l p q (0)) (Ji3 l p q))
theorem Zz0(p q:Int)(VV: -1000000<=p/\p<=1000000)(UI: -1000000<=q/\q<=1000000){cx:Cx}(hX:VY VQ {Y:=some (l,((q-p+1).toNat),(mkV p)) } cx):HH VQ none cx (.loop Zo8) (Xs6 l p q):=by
 refine FI [] (L:=[]) Aa hX U0 G4 (V:=Nat) (TB l p q) (λj=>j<=((q-p+1).toNat)) (λj=>((q-p+1).toNat)-j) (jJ l p q) (x0:=0) VW ?_ ?_ ?_
 ·rintro j;kernel_rfl
 ·rintro j y E h;unfold jJ at h;split at h
  ·cases h;kernel_rfl
  ·cases h;kernel_rfl
  ·cases h
 ·rintro Q hQ j hx;refine ⟨(j+1),?_⟩;have e:HX VQ [] {Y:=some (l,((q-p+1).toNat),(mkV p)) } [] [] Zo8 (TB l p q j) (TB l p q ((j+1))) (jJ l p q j)=(branch (decide (p+(j:Int)<=q)) (need [l=l,j<(q-p+1).toNat,U1 ([Value.int IntKind.i64 (p+(j:Int))])] (VO.may True (need [VN (p+(j:Int)+1)] (need [YF l=YF l,U1 (AV.ro [iI p]),U1 (AV.ro [iI q]),p+(j:Int)+1=p+(↑(j+1):Int),j+1=j+1] (leaf GB.normal))) (need [YF l=YF l,U1 (AV.ro [iI p]),U1 (AV.ro [iI q])] (leaf GB.ret)))) (need [YF l=YF l,U1 (AV.ro [iI p]),U1 (AV.ro [iI q]),j=(q-p+1).toNat] (leaf (GB.exit 0)))):=VX;rw [e];simp only [Ji3,jJ,VO.sat,GX] at hQ;have hQ1: ∀E,jJ l p q j (.exit 0)=some E->Q (.exit 0,E):=λE hE=>by cases hE;exact hQ.1 trivial
  have hQ2: ∀E,jJ l p q j .ret=some E->Q (.ret,E):=λE hE=>by cases hE;exact hQ.2
  simp only [VO.sat,UE,UK,HG,VN,FF];clear e hQ;all_goals exact V6
end
theorem E1(p q:Int)(VV: -1000000<=p/\p<=1000000)(UI: -1000000<=q/\q<=1000000):B8 Tryz.prog 140 [.ro [i p],.ro [i q]] (((q-p+1).toNat)) (mkV p):=by
 refine BJ (L:=λl=>[Xs6 l p q]) Aa U0 (UJ Tryz.func140) Tryz.func140 (UV Tryz.f140) VX (λl cx hX=>GA (lpE (b:= .loop Zo8) VX<|Zz0 l p q VV UI hX)) (t:=λl=>(need [U1 (AV.fn (Fn.yield l) [] []),U1 (AV.ro [iI p]),U1 (AV.ro [iI q]),p=p+(↑(0:Nat):Int),0=0] (VO.may True (need [U1 (q-p+1).toNat] (leaf PUnit.unit)) (leaf PUnit.unit)))) (λl=>VX) ?_
 intro l;simp only [VO.sat,UE,G5,GL,UH,VN,UK,HG,RX];all_goals exact V6
theorem cat1{p:Int}{k j:Nat}(h:j<k+1):GJ k (λj=>[i (p+j)]) (U8 1 [i (p+k)]) j=[i (p+j)]:=by
 show HF (decide (j<k)) [i (p+j)] (U8 1 [i (p+k)] (j-k))=_;rw [show j-k=0 by omega]
 by_cases hj:j<k
 ·rw [decide_eq_true hj];rfl
 ·obtain rfl:j=k:=VL;rw [decide_eq_false hj];rfl
abbrev Z9:AV:=AV.x (.slice none 0 0)
section
variable (p q:Int)
def Jl0:St:={σ:=[Z9,XT p q,ptr 0 0,top,Z9,top,XT p q]++HK 6 [],m:=[(900,GQ.row 3 1 0 λx=>[]),(0,GQ.cells 22 [AV.row 900])],nx:=901}
def rfF:Option Code->Operand
 |some (.rangeFunc f _ _ _)=>f
 |_=> .const .nilFunc
def jE:Option Code->Array Nat
 |some (.rangeFunc _ ps _ _)=>ps
 |_=>#[]
def S9:Option Code->Code
 |some (.rangeFunc _ _ a _)=>a
 |_=> .skip
def S8:Option Code->Code
 |some (.rangeFunc _ _ _ b)=>b
 |_=> .skip
noncomputable def Jo8:Code:=S9 (VU (UA Tryz.f139) 0)
noncomputable def Jo2:Code:=S8 (VU (UA Tryz.f139) 0)
def nY(k:Nat):St:={σ:=H6 [] (Jl0 p q).σ,m:=[(900,.row 3 1 k (λj=>[i (p+j)])),(0,.cells 22 [.row 900])],nx:=901}
def nF(k:Nat):GB->Option St
 | .normal=>some {σ:=H6 [] (Jl0 p q).σ,m:=[(900,.row 3 1 ((q-p+1).toNat) (λj=>[i (p+j)])),(0,.cells 22 [.row 900])],nx:=901}
 |_=>none
def T_as:CT:= .leaf (.normal,nY p q ((q-p+1).toNat))
def Xu8:UL:=GN [(.cell 0 0,900,3,1)] (HM (nY p q (0)) (T_as p q))
abbrev KH:Prop:=ptr 0 0=ptr 0 0
theorem Jg2(VV: -1000000<=p/\p<=1000000)(UI: -1000000<=q/\q<=1000000):HQ VQ (.rangeFunc (rfF (VU (UA Tryz.f139) 0)) (jE (VU (UA Tryz.f139) 0)) Jo8 Jo2) (Xu8 p q):=by
 refine PA [(.cell 0 0,900,3,1)] (L:=[]) Aa Ad U0 U7 (V:=Nat) (nY p q) (λk=>k<=((q-p+1).toNat)) (λk=>k) (nF p q) (x0:=0) VW rfl ?_ ?_ ?_ ?_ (g:=140) (caps:=[.ro [i p],.ro [i q]]) VX VX (E1 p q VV UI) (λ_=>rfl) ?_
 ·rintro k;kernel_rfl
 ·rintro k y E h;unfold nF at h;split at h
  ·cases h;kernel_rfl
  ·cases h
 ·rintro k;rfl
 ·rintro k y E h;unfold nF at h;split at h
  ·cases h;rfl
  ·cases h
 ·rintro Q hQ k hx;refine ⟨λhlt=>⟨(k+1),rfl,?_⟩,λPS=>?_⟩
  ·(with_reducible refine DU (t:=need [(k+1)*8<=140737488355328,L0 1 (U8 1 [iI (p+(k:Int))])] (need [Z9=Z9,U1 (XT p q),KH,Z9=Z9,U1 (XT p q),k+1=k+1,GV (k+1) (GJ k (λj=>[iI (p+(j:Int))]) (U8 1 [iI (p+(k:Int))])) (λi=>[iI (p+(i:Int))]),U1 (AV.row 900)] (leaf GB.normal))) VX ?_)
   simp only [VO.sat,UE,UK]
   refine ⟨⟨VL,λj hj a ha=>FD ha (by simp [AV.one,Value.oneCell'])⟩,λj hj=>?_,VL⟩
   exact cat1 hj
  ·subst PS;exact hQ
end
def mkF(p:Int)(j:Nat):List AV:=[i (p+j)]
theorem Qq3(p q:Int)(VV: -1000000<=p/\p<=1000000)(UI: -1000000<=q/\q<=1000000):VZ VQ 139 [.x (.slice none 0 0),.fn (.func 140) [] [.ro [i p],.ro [i q]]] (.lst 1 ((q-p+1).toNat) (mkF p)):=by
 refine G9 (L:=[Xu8 p q]) Aa Ad U0 Tryz.func139 (UV Tryz.f139) (GA (lpE (b:= .rangeFunc (rfF (VU (UA Tryz.f139) 0)) (jE (VU (UA Tryz.f139) 0)) Jo8 Jo2) VX<|Jg2 p q VV UI)) (t:=need [Z9=Z9,U1 (XT p q),KH,Z9=Z9,U1 (XT p q),0=0,∀(i:Nat),i<0->[]=[iI (p+(i:Int))],U1 (AV.row 900)] (leaf (RV.lst 1 (q-p+1).toNat λj=>[iI (p+(j:Int))]))) VX ?_
 simp only [VO.sat,UE,G5,GL,UH,UK]
 (with_reducible repeat' first|apply Al|intro _)
 all_goals first|exact Ak|omega|with_reducible rfl|assumption|rfl|(rename_i h;exact absurd h (Aq _))|(rename_i hm;cases B7.1 hm;exact Ak)|skip
def lL:G0
 |[.x (.slice none 0 0),.fn (.func 140) [] [.ro [.x (.int .i64 p)],.ro [.x (.int .i64 q)]]]=>some ([-1000000<=p/\p<=1000000,-1000000<=q/\q<=1000000],.lst 1 ((q-p+1).toNat) (mkF p))
 |_=>none
theorem Qq2:VS VQ 139 lL:=by
 refine ⟨(UJ Tryz.func139),?_⟩;intro avs ns res h hn;unfold lL at h;split at h
 ·cases h;exact Qq3 _ _ (hn _ VW) (hn _ VW)
 ·cases h
def OL:G0
 |[.fn (.func 140) [] [.ro [.x (.int .i64 p)],.ro [.x (.int .i64 q)]]]=>some ([-1000000<=p/\p<=1000000,-1000000<=q/\q<=1000000],.lst 1 ((q-p+1).toNat) (mkF p))
 |_=>none
theorem oW(p q:Int)(VV: -1000000<=p/\p<=1000000)(UI: -1000000<=q/\q<=1000000):FO VQ 94 [.fn (.func 140) [] [.ro [i p],.ro [i q]]] (.lst 1 ((q-p+1).toNat) (mkF p)):=by
 refine D2 (L:=[]) (Ae Qq2 Aa) Ad U0 Tryz.func94 (UV Tryz.f94) G4 (t:=need [(-1000000:Int)<=p/\p<=1000000,(-1000000:Int)<=q/\q<=1000000] (leaf (lst 1 (q-p+1).toNat λj=>[iI (p+(j:Int))]))) VX ?_
 simp only [VO.sat,UE,UK];exact ⟨⟨VV,UI⟩,rfl,rfl,λ_ _=>rfl⟩
theorem iM:PI VQ 94 OL:=by
 refine ⟨(UJ Tryz.func94),?_⟩;intro avs ns res h hn;unfold OL at h;split at h
 ·cases h;exact oW _ _ (hn _ VW) (hn _ VW)
 ·cases h
def keB(c:Int)(f:Nat->Int)(I S wi Z:Int):Bool:=FN (λk=>keP c f wi Z (I+k)) (S-I+1).toNat
def Wt1:G0
 |[.roI [.x (.int .i64 c),.x (.int .i64 T),.x (.int .i64 U),.x (.int .i64 O),A,B] 26 f 0,.agg [.x (.int .i64 I),.x (.int .i64 S),.x (.int .i64 wi)],.x (.int .i64 Z)]=>some ([drB f,bdB f,1<=c/\c<=10,0<=I/\I<=S/\S<=10,0<=wi/\wi<=1000000,0<=Z/\Z<=100000],bl (keB c f I S wi Z))
 |_=>none
theorem Xc8(c T U O:Int)(A B:AV)(f:Nat->Int)(I S wi Z:Int)(VV:drB f)(UI:bdB f)(HR:1<=c/\c<=10)(DY:0<=I/\I<=S/\S<=10)(BM:0<=wi/\wi<=1000000)(xZ:0<=Z/\Z<=100000):VZ VQ 59 [.roI [i c,i T,i U,i O,A,B] 26 f 0,.agg [i I,i S,i wi],i Z] (bl (keB c f I S wi Z)):=by
 refine G9 (L:=[]) (Ae Xj0 Aa) (Ai (Af d8 (Af iM Ab)) Ac) U0 Tryz.func59 (UV Tryz.f59) G4 (t:=need [(-1000000:Int)<=I/\I<=1000000,(-1000000:Int)<=S/\S<=1000000] (need [UG 1 (S-I+1).toNat (mkF I),(S-I+1).toNat<=100000,drB f,bdB f,(1:Int)<=c/\c<=10,(0:Int)<=Z/\Z<=100000,(0:Int)<=wi/\wi<=1000000,∀(j:Nat),j<(S-I+1).toNat->(0:Int)<=col 0 (mkF I) j/\col 0 (mkF I) j<=10] (leaf (RV.x (.bool (FN (λk=>keP c f wi Z (col 0 (mkF I) k)) (S-I+1).toNat)))))) VX ?_
 simp only [VO.sat,UE,G5,GL,UH,UK,keB];refine ⟨⟨VL,VL⟩,⟨λk hk=>rfl,VL,VV,UI,HR,xZ,BM,λj hj=>?_⟩,rfl⟩
 show 0<=I+(j:Int)/\I+(j:Int)<=10;omega
theorem Xc7:VS VQ 59 Wt1:=by
 refine ⟨(UJ Tryz.func59),?_⟩;intro avs ns res h hn;unfold Wt1 at h;split at h
 ·cases h;exact Xc8 _ _ _ _ _ _ _ _ _ _ _ (hn _ VW) (hn _ VW) (hn _ VW) (hn _ VW) (hn _ VW) (hn _ VW)
 ·cases h
end Go.Proofs.YtakpdkmhclhlnaaGreatDoor
namespace Go.Proofs.YtakpdkmhclhlnaaGreatDoor.Bo
open Go Go.Sx Go.RowKit
open Go.Sx.VO (need branch leaf)
open Go.Sx.AV (lst ptr agg roI tup top)
def Tr(c:Nat)(T U O:Int)(n:Nat)(a b u v:Nat->Int)(h:Nat->Int):Prop:=
 h 0=0/\h c=T/\(∀k,k<c->U<=h (k+1)-h k/\h (k+1)-h k<=O)/\ ∀j,j<n->h (b j).toNat-h (a j).toNat<=v j/\(b j<c->u j+1<=h (b j+1).toNat-h (a j).toNat)
def ob(c:Nat)(M:Nat->Nat->Int)(h:Nat->Int):Prop:= ∀x y,x<=c->y<=c->h y-h x<=M x y
theorem jN{c:Nat}{M:Nat->Nat->Int}{h:Nat->Int}{p q:Nat}{v:Int}(hp:p<=c)(hq:q<=c):ob c (bnd M p q v) h↔ob c M h/\h q-h p<=v:=by
 constructor
 ·intro k;refine ⟨λx y hx hy=>Int.le_trans (k x y hx hy) (wK _ _ _ _ _ _),Int.le_trans (k p q hp hq) (TV _ _ _ _)⟩
 ·rintro ⟨k1,k2⟩ x y hx hy;have h1:=k1 x y hx hy;unfold bnd wU;split
  ·rename_i e;rw [e.1,e.2] at h1 ⊢;omega
  ·exact h1
theorem Xb7{c:Nat}{M N:Nat->Nat->Int}{h:Nat->Int}(hm: ∀x y,M x y<=N x y)(k:ob c M h):ob c N h:=λx y hx hy=>Int.le_trans (k x y hx hy) (hm x y)
theorem Zi2(M:Nat->Nat->Int)(o f t x y:Nat):fwS M o f t x y<=M x y:=wK _ _ _ _ _ _
theorem Wm6(M:Nat->Nat->Int)(o f:Nat): ∀t x y,fwT M o f t x y<=M x y
 | 0,_,_=>Int.le_refl _
 |t+1,x,y=>Int.le_trans (Zi2 _ _ _ _ _ _) (Wm6 M o f t x y)
theorem Wm9(c:Nat)(M:Nat->Nat->Int)(o:Nat): ∀f x y,fwF c M o f x y<=M x y
 | 0,_,_=>Int.le_refl _
 |f+1,x,y=>Int.le_trans (Wm6 _ _ _ _ _ _) (Wm9 c M o f x y)
theorem Xf5(c:Nat)(M:Nat->Nat->Int)(o x y:Nat):fwO c M (o+1) x y<=fwO c M o x y:=Wm9 _ _ _ _ _ _
theorem TH(c:Nat)(M:Nat->Nat->Int)(o:Nat): ∀d x y,fwO c M (o+d) x y<=fwO c M o x y
 | 0,_,_=>Int.le_refl _
 |d+1,x,y=>Int.le_trans (Xf5 c M (o+d) x y) (TH c M o d x y)
theorem Wm8(c:Nat)(M:Nat->Nat->Int)(o x y:Nat):fwO c M o x y<=M x y:=by
 have:=TH c M 0 o x y
 rwa [Ap] at this
theorem Zw9{c:Nat}{M:Nat->Nat->Int}{h:Nat->Int}{o f:Nat}(ho:o<=c)(hf:f<=c)(k:ob c M h): ∀t,t<=c+1->ob c (fwT M o f t) h
 | 0,_=>k
 |t+1,ht=>by
  have ih:=Zw9 ho hf k t VL;refine (jN hf VL).2 ⟨ih,?_⟩;have h1:=ih f o hf ho;have h2:=ih o t ho VL;omega
theorem Zx1{c:Nat}{M:Nat->Nat->Int}{h:Nat->Int}{o:Nat}(ho:o<=c)(k:ob c M h): ∀f,f<=c+1->ob c (fwF c M o f) h
 | 0,_=>k
 |f+1,hf=>Zw9 ho VL (Zx1 ho k f VL) (c+1) (Am _)
theorem Zx0{c:Nat}{M:Nat->Nat->Int}{h:Nat->Int}(k:ob c M h): ∀o,o<=c+1->ob c (fwO c M o) h
 | 0,_=>k
 |o+1,ho=>Zx1 VL (Zx0 k o VL) (c+1) (Am _)
theorem Wm7{c:Nat}{M N:Nat->Nat->Int}{o f:Nat}(h0:0<=M o o)(hN: ∀x y,N x y=if x<f/\y<=c then min (M x y) (M x o+M o y) else M x y): ∀t,t<=c+1-> ∀x y,fwT N o f t x y=if (x<f/\y<=c)\/(x=f/\y<t) then min (M x y) (M x o+M o y) else M x y
 | 0,_,x,y=>by
  show N x y=_;rw [hN];by_cases h:x<f/\y<=c
  ·rw [if_pos h,if_pos (.inl h)]
  ·rw [if_neg h,if_neg VL]
 |t+1,ht,x,y=>by
  have ih:=Wm7 h0 hN t VL;show bnd (fwT N o f t) f t (fwT N o f t f o+fwT N o f t o t) x y=_;have e1:fwT N o f t f o=M f o:=by
   rw [ih];split<;>omega
  have e2:fwT N o f t o t=M o t:=by
   rw [ih];split<;>omega
  have e3:fwT N o f t f t=M f t:=by
   rw [ih,if_neg VL]
  unfold bnd wU;rw [e1,e2,e3];by_cases hxy:x=f/\y=t
  ·rw [if_pos hxy,if_pos VL,hxy.1,hxy.2]
  ·rw [if_neg hxy,ih];by_cases h:(x<f/\y<=c)\/(x=f/\y<t)
   ·rw [if_pos h,if_pos VL]
   ·rw [if_neg h,if_neg VL]
theorem Wn0{c:Nat}{M:Nat->Nat->Int}{o:Nat}(h0:0<=M o o): ∀f x y,fwF c M o f x y=if x<f/\y<=c then min (M x y) (M x o+M o y) else M x y
 | 0,x,y=>by
  rw [if_neg VL];rfl
 |f+1,x,y=>by
  show fwT (fwF c M o f) o f (c+1) x y=_;rw [Wm7 h0 (Wn0 h0 f) (c+1) (Am _)];by_cases h:(x<f/\y<=c)\/(x=f/\y<c+1)
  ·rw [if_pos h,if_pos VL]
  ·rw [if_neg h,if_neg VL]
theorem EO{c:Nat}{M:Nat->Nat->Int}: ∀k,k<=c+1->(∀o,o<k->0<=fwO c M o o o)-> ∀p x y,p<k->x<=c->y<=c->fwO c M k x y<=fwO c M k x p+fwO c M k p y
 | 0,_,_,p,x,y,hp,_,_=>absurd hp (Aq _)
 |k+1,hk,hd,p,x,y,hp,hx,hy=>by
  have ih:=EO k VL (λo ho=>hd o VL)
  have h0:=hd k VL;have eq:=Wn0 (c:=c) h0 (c+1);show fwF c (fwO c M k) k (c+1) x y<=fwF c (fwO c M k) k (c+1) x p+fwF c (fwO c M k) k (c+1) p y;rw [eq x y,eq x p,eq p y,if_pos VL,if_pos VL,if_pos VL];rcases (show p=k\/p<k by omega) with rfl|hpk
  ·omega
  ·have i1:=ih p x y hpk hx hy;have i2:=ih p x k hpk hx VL;have i3:=ih p k y hpk VL hy;have i4:=ih p k k hpk VL VL;omega
theorem Ze0{c:Nat}{h:Nat->Int}:ob c (ini c (c+1) 0) h↔ ∀x y,x<=c->y<=c->h y-h x<=2000:=by
 constructor
 ·intro k x y hx hy;have:=k x y hx hy;unfold ini at this;split at this<;>omega
 ·intro k x y hx hy;unfold ini;by_cases e:x=y
  ·subst e;rw [if_neg VL];omega
  ·rw [if_pos VL];exact k x y hx hy
theorem Wb6{c:Nat}{U O:Int}{h:Nat->Int}: ∀k,k<=c->(ob c (cel c U O k) h↔ob c (ini c (c+1) 0) h/\ ∀j,j<k->U<=h (j+1)-h j/\h (j+1)-h j<=O)
 | 0,_=>⟨λk=>⟨k,λj hj=>absurd hj (Aq _)⟩,λk=>k.1⟩
 |k+1,hk=>by
  have ih:=Wb6 (c:=c) (U:=U) (O:=O) (h:=h) k VL;show ob c (bnd (bnd (cel c U O k) k (k+1) O) (k+1) k (-U)) h↔_;rw [jN VL VL,jN VL VL,ih];constructor
  ·rintro ⟨⟨⟨h1,h2⟩,h3⟩,h4⟩;refine ⟨h1,λj hj=>?_⟩
   rcases (show j<k\/j=k by omega) with h|rfl
   ·exact h2 j h
   ·omega
  ·rintro ⟨h1,h2⟩;have h3:=h2 k VL;exact ⟨⟨⟨h1,λj hj=>h2 j VL⟩,VL⟩,VL⟩
def mT(c:Nat)(n:Nat)(a b u v:Nat->Int):Prop:= ∀j,j<n->(0<=a j/\a j<=(c:Int)-1)/\(a j<=b j/\b j<=c)/\0<=u j/\u j<=v j/\v j<=2000
theorem Xo3{c:Nat}{T U O:Int}{a b u v:Nat->Int}{h:Nat->Int}: ∀n,mT c n a b u v->(ob c (rdM c T U O a b u v n) h↔ob c (cel c U O c) h/\h c-h 0=T/\ ∀j,j<n->h (b j).toNat-h (a j).toNat<=v j/\(b j<c->u j+1<=h (b j+1).toNat-h (a j).toNat))
 | 0,_=>by
  show ob c (bnd (bnd (cel c U O c) 0 c T) c 0 (-T)) h↔_;rw [jN VL VL,jN VL VL];constructor
  ·rintro ⟨⟨h1,h2⟩,h3⟩;exact ⟨h1,VL,λj hj=>absurd hj (Aq _)⟩
  ·rintro ⟨h1,h2,_⟩;exact ⟨⟨h1,VL⟩,VL⟩
 |n+1,hr=>by
  have ih:=Xo3 (c:=c) (T:=T) (U:=U) (O:=O) (a:=a) (b:=b) (u:=u) (v:=v) (h:=h) n (λj hj=>hr j VL)
  have hn:=hr n VL;have key:ob c (rdM c T U O a b u v (n+1)) h↔ob c (rdM c T U O a b u v n) h/\h (b n).toNat-h (a n).toNat<=v n/\(b n<c->u n+1<=h (b n+1).toNat-h (a n).toNat):=by
   show ob c (rdS c (rdM c T U O a b u v n) _ _ _ _) h↔_;unfold rdS;split
   ·rename_i hb;rw [jN VL VL,jN VL VL];constructor
    ·rintro ⟨⟨h1,h2⟩,h3⟩;exact ⟨h1,h2,λ_=>VL⟩
    ·rintro ⟨h1,h2,h3⟩;have:=h3 hb;exact ⟨⟨h1,h2⟩,VL⟩
   ·rename_i hb;rw [jN VL VL];constructor
    ·rintro ⟨h1,h2⟩;exact ⟨h1,h2,λh=>absurd h hb⟩
    ·rintro ⟨h1,h2,_⟩;exact ⟨h1,h2⟩
  rw [key,ih];constructor
  ·rintro ⟨⟨h1,h2,h3⟩,h4⟩;refine ⟨h1,h2,λj hj=>?_⟩
   rcases (show j<n\/j=n by omega) with h|rfl
   ·exact h3 j h
   ·exact h4
  ·rintro ⟨h1,h2,h3⟩;exact ⟨⟨h1,h2,λj hj=>h3 j VL⟩,h3 n VL⟩
theorem MP{U:Int}{h:Nat->Int}{c:Nat}(hl:0<=U)(hs: ∀k,k<c->U<=h (k+1)-h k)(x:Nat): ∀d,x+d<=c->h x<=h (x+d)
 | 0,_=>Int.le_refl _
 |d+1,hd=>by
  have ih:=MP hl hs x d VL;have:=hs (x+d) VL;rw [←Ba];omega
theorem Zs3{c:Nat}{T U O:Int}{n:Nat}{a b u v:Nat->Int}{h:Nat->Int}(hb:1<=U/\U<=O/\O<=200/\1<=T/\T<=2000)(hr:mT c n a b u v)(h0:h 0=0):Tr c T U O n a b u v h↔ob c (rdM c T U O a b u v n) h:=by
 rw [Xo3 n hr,Wb6 c (Am _),Ze0];constructor
 ·rintro ⟨_,h1,h2,h3⟩;refine ⟨⟨λx y hx hy=>?_,h2⟩,VL,h3⟩
  have m:=λx d=>MP (U:=U) (h:=h) (c:=c) VL (λk hk=>(h2 k hk).1) x d
  have m1:=m 0 x VL;have m2:=m y (c-y) VL;rw [Ap] at m1;rw [show y+(c-y)=c by omega] at m2
  omega
 ·rintro ⟨⟨_,h2⟩,h3,h4⟩;exact ⟨h0,VL,h2,h4⟩
theorem Xa8{c:Int}{n:Nat}{a b u v:Nat->Int}(hc:1<=c/\c<=10)(h:FN (λk=>rdB c (a k) (b k) (u k) (v k)) n=true):mT c.toNat n a b u v:=λj hj=>by
 have:=Xo1 (H3.1 h j hj);omega
section
variable {c:Nat}{T U O:Int}
theorem tB{n:Nat}{a b u v:Nat->Int}:okR c T U O n a b u v=true↔ ∀k,k<=c->0<=fwM c T U O n a b u v k k:=by
 unfold okR;rw [H3];constructor
 ·intro h k hk;simpa using h k VL
 ·intro h k hk;simpa using h k VL
theorem Qw3{n:Nat}{a b u v:Nat->Int}{h:Nat->Int}(hb:1<=U/\U<=O/\O<=200/\1<=T/\T<=2000)(hr:mT c n a b u v)(h0:h 0=0):Tr c T U O n a b u v h↔ob c (fwM c T U O n a b u v) h:=by
 rw [Zs3 hb hr h0];exact ⟨λk=>Zx0 k (c+1) (Am _),λk=>Xb7 (λx y=>Wm8 c _ (c+1) x y) k⟩
theorem Zs6{n:Nat}{a b u v:Nat->Int}{h:Nat->Int}(hb:1<=U/\U<=O/\O<=200/\1<=T/\T<=2000)(hr:mT c n a b u v)(k:Tr c T U O n a b u v h){x:Nat}(hx:x<=c): -(fwM c T U O n a b u v x 0)<=h x/\h x<=fwM c T U O n a b u v 0 x:=by
 have k1:=(Qw3 hb hr k.1).1 k;have h1:=k1 x 0 hx VL;have h2:=k1 0 x VL hx;have:=k.1;omega
theorem NS{n:Nat}{a b u v:Nat->Int}(h:okR c T U O n a b u v=true){p x y:Nat}(hp:p<=c)(hx:x<=c)(hy:y<=c):fwM c T U O n a b u v x y<=fwM c T U O n a b u v x p+fwM c T U O n a b u v p y:=by
 refine EO (c+1) (Am _) (λo ho=>?_) p x y VL hx hy
 have h1:=tB.1 h o VL;have h2:=TH c (rdM c T U O a b u v n) o (c+1-o) o o;rw [show o+(c+1-o)=c+1 by omega] at h2
 exact Int.le_trans h1 h2
theorem Zc9{a b u v:Nat->Int}(n:Nat):rdM c T U O a b u v n 0 0<=0:=by
 have h1:=AS c T U O a b u v 0 n (Ao _) 0 0;have h2:rdM c T U O a b u v 0 0 0<=cel c U O c 0 0:=Int.le_trans (wK _ _ _ _ _ _) (wK _ _ _ _ _ _);have h3: ∀k,cel c U O k 0 0<=0:=by
  intro k
  induction k with
  |zero=>unfold cel ini;rw [if_neg VL];exact Int.le_refl _
  |succ k ih=>exact Int.le_trans (Int.le_trans (wK _ _ _ _ _ _) (wK _ _ _ _ _ _)) ih
 exact Int.le_trans h1 (Int.le_trans h2 (h3 c))
theorem Xp3{n:Nat}{a b u v:Nat->Int}(h:okR c T U O n a b u v=true):fwM c T U O n a b u v 0 0=0:=by
 have h1:=tB.1 h 0 (Ao _);have h2:fwM c T U O n a b u v 0 0<=0:=Int.le_trans (Wm8 c _ (c+1) 0 0) (Zc9 n);omega
theorem Zs5{n:Nat}{a b u v:Nat->Int}(hb:1<=U/\U<=O/\O<=200/\1<=T/\T<=2000)(hr:mT c n a b u v)(h:okR c T U O n a b u v=true):Tr c T U O n a b u v (λk=>fwM c T U O n a b u v 0 k):=by
 refine (Qw3 hb hr (Xp3 h)).2 λx y hx hy=>?_
 have:=NS h hx (Ao _) hy;show fwM c T U O n a b u v 0 y-fwM c T U O n a b u v 0 x<=_;omega
theorem Zs4{n:Nat}{a b u v:Nat->Int}(hb:1<=U/\U<=O/\O<=200/\1<=T/\T<=2000)(hr:mT c n a b u v)(h:okR c T U O n a b u v=true):Tr c T U O n a b u v (λk=> -(fwM c T U O n a b u v k 0)):=by
 refine (Qw3 hb hr (by rw [Xp3 h];rfl)).2 λx y hx hy=>?_
 have:=NS h hy hx (Ao _);show -(fwM c T U O n a b u v y 0)- -(fwM c T U O n a b u v x 0)<=_;omega
end
end Go.Proofs.YtakpdkmhclhlnaaGreatDoor.Bo
namespace Go.Proofs.YtakpdkmhclhlnaaGreatDoor
open Go Go.Sx Go.RowKit Bo
open Go.Sx.VO (need branch leaf)
open Go.Sx.AV (lst ptr agg roI tup top)
def usB(c I S wi:Int):Bool:=bt 0 I S&&decide (S<=c)&&bt 0 wi 1000
section
variable (c T U O:Int)
def vaB(m:Nat)(p q:Nat->Int)(pl ph dl dh:Int):Bool:=decide (Pt.blE m p q pl ph=0)&&BZ c T U O&&insB 0 dl dh 100
def rdE(n:Nat)(a b u v:Nat->Int)(m:Nat)(p q:Nat->Int)(pl ph dl dh:Int):Int:=if n>12\/m>8 then 3 else if vaB c T U O m p q pl ph dl dh=true/\(eB c T U O n a b u v=0\/eB c T U O n a b u v=9) then eB c T U O n a b u v else 1
def bdL(n:Nat)(a b u v:Nat->Int)(m:Nat)(p q:Nat->Int)(pl ph:Int)(k:Nat):Int:=dnI (-(fwB c T U O n a b u v k 0)*Pt.boilI m p q pl) T
def bdH(n:Nat)(a b u v:Nat->Int)(m:Nat)(p q:Nat->Int)(pl ph:Int)(k:Nat):Int:=upI (fwB c T U O n a b u v 0 k*Pt.boilI m p q ph) T
end
def wkF(pl ph dl dh:Int)(L H:Nat->Int)(k j:Nat):Int:=if j=0 then pl else if j=1 then ph else if j=2 then dl else if j=3 then dh else if j<4+2*k then (if j%2=0 then L ((j-4) / 2) else H ((j-4) / 2)) else 0
def wkA(c T U O:Int)(n:Nat)(a b u v:Nat->Int)(m:Nat)(p q:Nat->Int)(pl ph dl dh:Int):Nat->Int:=wkF pl ph dl dh (bdL c T U O n a b u v m p q pl ph) (bdH c T U O n a b u v m p q pl ph) (c.toNat+1)
theorem Wz5{c I S wi:Int}:usB c I S wi=true↔(0<=I/\I<=S)/\S<=c/\0<=wi/\wi<=1000:=by
 simp only [usB,HA,gJ,bt_iff,and_assoc]
theorem Xn2{c:Nat}{T U O:Int}{n:Nat}{a b u v:Nat->Int}{h:Nat->Int}(hl:0<=U)(k:Tr c T U O n a b u v h){x:Nat}(hx:x<=c):0<=h x/\h x<=T:=by
 obtain ⟨h0,h1,h2,_⟩:=k;have up: ∀y,y<=c->0<=h y:=by
  intro y
  induction y with
  |zero=>intro _;omega
  |succ y ih=>
   intro hy;have:=h2 y VL;have:=ih VL;omega
 have dn: ∀d,d<=c->h (c-d)<=T:=by
  intro d
  induction d with
  |zero=>intro _;rw [Nat.sub_zero,h1];exact Int.le_refl _
  |succ d ih=>
   intro hd;have:=h2 (c-(d+1)) VL;rw [show c-(d+1)+1=c-d by omega] at this
   have:=ih VL;omega
 refine ⟨up x hx,?_⟩;have:=dn (c-x) VL;rw [show c-(c-x)=x by omega] at this
 exact this
theorem Xo9{c T U O:Int}{n:Nat}{a b u v:Nat->Int}(h:eB c T U O n a b u v=0){k:Nat}(hk:(k:Int)<=c):0<= -(fwB c T U O n a b u v k 0)/\ -(fwB c T U O n a b u v k 0)<=fwB c T U O n a b u v 0 k/\fwB c T U O n a b u v 0 k<=T:=by
 obtain ⟨h1,_,h3⟩:=gA.1 h;have hf:=kV.1 h1;have hb:=BI hf.1;have hr:=Xa8 hb.1 hf.2.2;have tl:=Zs4 hb.2.1 hr h3;have th:=Zs5 hb.2.1 hr h3;have g1:=Xn2 VL tl (x:=k) VL;have g2:=Xn2 VL th (x:=k) VL;have g3:=Zs6 hb.2.1 hr tl (x:=k) VL;unfold fwB;omega
theorem mD{c T U O:Int}{m:Nat}{p q:Nat->Int}{pl ph dl dh:Int}:vaB c T U O m p q pl ph dl dh=true↔Pt.blE m p q pl ph=0/\BZ c T U O=true/\0<=dl/\dl<=dh/\dh<=100:=by
 simp only [vaB,HA,gJ,insB_iff,and_assoc]
theorem Qx1{m:Nat}{p q:Nat->Int}{pl ph:Int}(h:Pt.blE m p q pl ph=0):(1<=Pt.boilI m p q pl/\Pt.boilI m p q pl<=2000)/\(1<=Pt.boilI m p q ph/\Pt.boilI m p q ph<=2000)/\Pt.boilI m p q pl<=Pt.boilI m p q ph/\Pt.blLo m p q pl ph=Pt.boilI m p q pl/\Pt.blHi m p q pl ph=Pt.boilI m p q ph:=by
 obtain ⟨h1,h2,h3,h4,h5,h6⟩:=Pt.blE_ok h;have a1:=Pt.boil_spec (x:=pl) h1 h3 VL;have a2:=Pt.boil_spec (x:=ph) h1 h3 VL;have a3:=Pt.boil_mono h1 h3 h4 h5 h6;exact ⟨VL,VL,a3,if_pos h,if_pos h⟩
theorem sW{x y X Y:Int}(hx:0<=x/\x<=X)(hy:0<=y/\y<=Y):0<=x*y/\x*y<=X*Y:=by
 have h1:=Int.mul_nonneg hx.1 hy.1;have h2:=Int.mul_le_mul hx.2 hy.2 hy.1 (show 0<=X by omega)
 omega
theorem Xy5(c T U O:Int)(n:Nat)(a b u v:Nat->Int)(m:Nat)(p q:Nat->Int)(pl ph dl dh I S wi:Int):VZ VQ 91 [.agg [i c,i T,i U,i O,rds n a b u v,Pt.scs m p q,i pl,i ph,i dl,i dh],.agg [i I,i S,i wi]] (bl (usB c I S wi)):=by
 refine U4 (L:=[]) (Ae RI Aa) U0 Tryz.func91 (UV Tryz.f91) U7 (t:=branch (bt (0:Int) I S) (branch (decide (S<=c)) (leaf (RV.x (.bool (bt (0:Int) wi (1000:Int))))) (leaf (RV.x (KU)))) (leaf (RV.x (KU)))) VX ?_;simp only [VO.sat,UE,G5,GL,UH,UK];all_goals (simp+contextual [usB,Bool.and_assoc]);all_goals omega
def Xq0:G0
 |[.agg [.x (.int .i64 c),.x (.int .i64 T),.x (.int .i64 U),.x (.int .i64 O),.lst 4 n fr,.lst 2 m ft,.x (.int .i64 pl),.x (.int .i64 ph),.x (.int .i64 dl),.x (.int .i64 dh)],.agg [.x (.int .i64 I),.x (.int .i64 S),.x (.int .i64 wi)]]=>some ([UG 4 n fr,UG 2 m ft],bl (usB c I S wi))
 |_=>none
theorem Xy4:VS VQ 91 Xq0:=by
 refine ⟨(UJ Tryz.func91),?_⟩;intro avs ns res h hn;unfold Xq0 at h;split at h
 ·cases h;have hr:UG 4 _ _:=hn _ GI;have ht:UG 2 _ _:=hn _ (HP _ GI);exact (Xy5 _ _ _ _ _ _ _ _ _ _ _ _ _ _ _ _ _ _ _).same (.cons (LW.same (.cons (.refl _) (.cons (.refl _) (.cons (.refl _) (.cons (.refl _) (.cons (.lst 4 _ _ _ hr) (.cons (.lst 2 _ _ _ ht) (.cons (.refl _) (.cons (.refl _) (.cons (.refl _) (.cons (.refl _) .nil))))))))))) (.cons (.refl _) .nil))
 ·cases h
theorem Qv7(c T U O:Int)(n:Nat)(a b u v:Nat->Int)(m:Nat)(p q:Nat->Int)(pl ph dl dh:Int)(VV:m<=100000):VZ VQ 74 [.agg [i c,i T,i U,i O,rds n a b u v,Pt.scs m p q,i pl,i ph,i dl,i dh]] (.tup [.agg [i (Pt.blLo m p q pl ph),i (Pt.blHi m p q pl ph)],bl (vaB c T U O m p q pl ph dl dh)]):=by
 refine G9 (L:=[]) (Ae Pt.Boils_ok (Ae Bo.CheckTube_ok (Ae PQ Aa))) Ad U0 Tryz.func74 (UV Tryz.f74) G4 (t:=let W:=(leaf (RV.tup [RV.agg [RV.x (.int .i64 (Pt.blLo m p q pl ph)),RV.x (.int .i64 (Pt.blHi m p q pl ph))],RV.x (KU)]));(need [UG 2 m λk=>[Pt.i (p k),Pt.i (q k)],m<=100000] (branch (Pt.blE m p q pl ph==0) (branch ((if BZ c T U O=true then (0:Int) else (1:Int))==0) (leaf (RV.tup [RV.agg [RV.x (.int .i64 (Pt.blLo m p q pl ph)),RV.x (.int .i64 (Pt.blHi m p q pl ph))],RV.x (.bool (insB (0:Int) dl dh (100:Int)))])) W) W))) VX ?_
 simp only [VO.sat,UE,G5,GL,UH,UK,beq_iff_eq,beq_eq_false_iff_ne];refine ⟨⟨Pt.isRec2 m p q,VV⟩,λh1=>⟨λh2=>?_,λh2=>?_⟩,λh1=>?_⟩
 ·cases ht:BZ c T U O
  ·rw [ht] at h2;simp at h2
  ·simp [vaB,h1,ht]
 ·cases ht:BZ c T U O
  ·simp [vaB,ht]
  ·rw [ht] at h2;simp at h2
 ·simp [vaB,h1]
def a8:G0
 |[.agg [.x (.int .i64 c),.x (.int .i64 T),.x (.int .i64 U),.x (.int .i64 O),.lst 4 n fr,.lst 2 m ft,.x (.int .i64 pl),.x (.int .i64 ph),.x (.int .i64 dl),.x (.int .i64 dh)]]=>some ([UG 4 n fr,UG 2 m ft,m<=100000],.tup [.agg [i (Pt.blLo m (Pt.col 0 ft) (Pt.col 1 ft) pl ph),i (Pt.blHi m (Pt.col 0 ft) (Pt.col 1 ft) pl ph)],bl (vaB c T U O m (Pt.col 0 ft) (Pt.col 1 ft) pl ph dl dh)])
 |_=>none
theorem aY:VS VQ 74 a8:=by
 refine ⟨(UJ Tryz.func74),?_⟩;intro avs ns res h hn;unfold a8 at h;split at h
 ·cases h;have hr:UG 4 _ _:=hn _ GI;have ht:UG 2 _ _:=hn _ (HP _ GI);exact (Qv7 _ _ _ _ _ _ _ _ _ _ _ _ _ _ _ _ (hn _ VW)).same (.cons (LW.same (.cons (.refl _) (.cons (.refl _) (.cons (.refl _) (.cons (.refl _) (.cons (.lst 4 _ _ _ hr) (.cons (.lst 2 _ _ _ ht) (.cons (.refl _) (.cons (.refl _) (.cons (.refl _) (.cons (.refl _) .nil))))))))))) .nil)
 ·cases h
section
variable {pl ph dl dh:Int}{L H:Nat->Int}
theorem Wy8{k j:Nat}:j5 (4+2*k) [L k,H k] (wkF pl ph dl dh L H k) j=wkF pl ph dl dh L H (k+1) j:=by
 simp only [j5,US];unfold wkF;by_cases h1:j=4+2*k+1
 ·rw [if_pos h1,if_neg VL,if_neg VL,if_neg VL,if_neg VL,if_pos VL,if_neg VL,show (j-4) / 2=k by omega]
 ·rw [if_neg h1];by_cases h2:j=4+2*k
  ·rw [if_pos h2,if_neg VL,if_neg VL,if_neg VL,if_neg VL,if_pos VL,if_pos VL,show (j-4) / 2=k by omega]
  ·rw [if_neg h2];by_cases h3:j<4+2*k
   ·rw [if_pos h3,if_pos (show j<4+2*(k+1) by omega)]
   ·rw [if_neg h3,if_neg (show ¬j<4+2*(k+1) by omega)]
theorem Wy7{j:Nat}(hj:j<26):U9 ([pl,ph,dl,dh]++aN 22) j=wkF pl ph dl dh L H 0 j:=by
 rcases (show j=0\/j=1\/j=2\/j=3\/j=4\/j=5\/j=6\/j=7\/j=8\/j=9\/j=10\/j=11\/j=12\/j=13\/j=14\/j=15\/j=16\/j=17\/j=18\/j=19\/j=20\/j=21\/j=22\/j=23\/j=24\/j=25 by omega) with rfl|rfl|rfl|rfl|rfl|rfl|rfl|rfl|rfl|rfl|rfl|rfl|rfl|rfl|rfl|rfl|rfl|rfl|rfl|rfl|rfl|rfl|rfl|rfl|rfl|rfl<;>rfl
end
abbrev QR(n:Nat)(a:Nat->Int)(b:Nat->Int)(u:Nat->Int)(v:Nat->Int):AV:=lst 4 n λk=>[iI (a k),iI (b k),iI (u k),iI (v k)]
abbrev QW(c:Int)(T:Int)(U:Int)(O:Int)(n:Nat)(a:Nat->Int)(b:Nat->Int)(u:Nat->Int)(v:Nat->Int):AV:=lst 2 (rG c T U O n a b u v) λk=>[iI (-fwB c T U O n a b u v k 0),iI (fwB c T U O n a b u v 0 k)]
abbrev QY(m:Nat)(p:Nat->Int)(q:Nat->Int):AV:=lst 2 m λk=>[iI (p k),iI (q k)]
abbrev Z2:AV:=AV.x (.pointer none)
section
variable (c T U O:Int)(n:Nat)(a b u v:Nat->Int)(m:Nat)(p q:Nat->Int)(pl ph dl dh:Int)
def Zl9:St:={σ:=[agg [iI c,iI T,iI U,iI O,QR n a b u v,QY m p q,iI pl,iI ph,iI dl,iI dh],ptr 0 0,Z2,iI 0,ptr 18 0,AV.x (.bool (vaB c T U O m p q pl ph dl dh)),QW c T U O n a b u v,iI (eB c T U O n a b u v),ptr 45 0]++HK 43 [QW c T U O n a b u v,iI (↑(rG c T U O n a b u v):Int)]++HK 31 [],m:=[(45,GQ.ints 174 [iI c,iI T,iI U,iI O,QR n a b u v,QY m p q] 26 λa=>U9 ([pl,ph,dl,dh]++aN 22) a),(18,GQ.cells 38 [iI (Pt.blLo m p q pl ph),iI (Pt.blHi m p q pl ph)]),(0,GQ.cells 53 [iI c,iI T,iI U,iI O,QR n a b u v,QY m p q,iI pl,iI ph,iI dl,iI dh])],nx:=50}
noncomputable def Jl7:Code:=UC (VU (UA Tryz.f51) 0)
def We4(k:Nat):St:=(upE [(54,i k)] [(45,.ints 174 [i c,i T,i U,i O,rds n a b u v,Pt.scs m p q] 26 (wkF pl ph dl dh (bdL c T U O n a b u v m p q pl ph) (bdH c T U O n a b u v m p q pl ph) k)),(18,.cells 38 [i (Pt.boilI m p q pl),i (Pt.boilI m p q ph)]),(0,.cells 53 [i c,i T,i U,i O,rds n a b u v,Pt.scs m p q,i pl,i ph,i dl,i dh])] (Zl9 c T U O n a b u v m p q pl ph dl dh))
def SH(k:Nat):GB->Option St
 | .exit 1=>some (upE [(54,i ((c.toNat+1:Nat):Int))] [(45,.ints 174 [i c,i T,i U,i O,rds n a b u v,Pt.scs m p q] 26 (wkF pl ph dl dh (bdL c T U O n a b u v m p q pl ph) (bdH c T U O n a b u v m p q pl ph) (c.toNat+1))),(18,.cells 38 [i (Pt.boilI m p q pl),i (Pt.boilI m p q ph)]),(0,.cells 53 [i c,i T,i U,i O,rds n a b u v,Pt.scs m p q,i pl,i ph,i dl,i dh])] (Zl9 c T U O n a b u v m p q pl ph dl dh))
 |_=>none
def Jh2:CT:= .leaf (.exit 1,(SH c T U O n a b u v m p q pl ph dl dh 0 (.exit 1)).getD (Zl9 c T U O n a b u v m p q pl ph dl dh))
def Xr4:UL:=GN [] (HM (We4 c T U O n a b u v m p q pl ph dl dh (0)) (Jh2 c T U O n a b u v m p q pl ph dl dh))
end
abbrev X3(c:Int)(T:Int)(U:Int)(O:Int)(n:Nat)(a:Nat->Int)(b:Nat->Int)(u:Nat->Int)(v:Nat->Int)(m:Nat)(p:Nat->Int)(q:Nat->Int)(pl:Int)(ph:Int)(dl:Int)(dh:Int):Prop:=agg [iI c,iI T,iI U,iI O,QR n a b u v,QY m p q,iI pl,iI ph,iI dl,iI dh]=agg [iI c,iI T,iI U,iI O,QR n a b u v,QY m p q,iI pl,iI ph,iI dl,iI dh]
abbrev K5:Prop:=(0:Int)=0
abbrev KX:List (Nat×G0):=[(74,a8),(75,Bo.S_Heights),(76,pR),(77,Zk2)]
abbrev Y0:Prop:=ptr 18 0=ptr 18 0
abbrev YK(n:Nat)(a:Nat->Int)(b:Nat->Int)(u:Nat->Int)(v:Nat->Int):Prop:=(QR n a b u v)=QR n a b u v
abbrev YQ(m:Nat)(p:Nat->Int)(q:Nat->Int):Prop:=(QY m p q)=QY m p q
abbrev YU(c:Int)(T:Int)(U:Int)(O:Int)(n:Nat)(a:Nat->Int)(b:Nat->Int)(u:Nat->Int)(v:Nat->Int):Prop:=(QW c T U O n a b u v)=QW c T U O n a b u v
section
variable (c T U O:Int)(n:Nat)(a b u v:Nat->Int)(m:Nat)(p q:Nat->Int)(pl ph dl dh:Int)
theorem Zv1(VV:n<=12)(UI:m<=8)(HR:vaB c T U O m p q pl ph dl dh=true)(DY:eB c T U O n a b u v=0):GD VQ (.loop Jl7) (Xr4 c T U O n a b u v m p q pl ph dl dh):=by
 refine G6 [] (L:=[]) (Ae aY (Ae Bo.Heights_ok (Ae TP (Ae Qw2 Aa)))) Ad U0 U7 (X:=Nat) (We4 c T U O n a b u v m p q pl ph dl dh) (λk=>k<=c.toNat+1) (λk=>c.toNat+1-k) (SH c T U O n a b u v m p q pl ph dl dh) (x0:=0) VW ?_ ?_ ?_
 ·rintro k;kernel_rfl
 ·rintro k y E h;unfold SH at h;split at h
  ·cases h;kernel_rfl
  ·cases h
 ·rintro Q hQ k hx;refine ⟨(k+1),?_⟩;(with_reducible refine DU (t:=let W:=(bdL c T U O n a b u v m p q pl ph);let z1:=(bdH c T U O n a b u v m p q pl ph);let z5:=fwB c T U O n a b u v;let z2:=z5 k;let z3:=Pt.boilI m p q pl;let z4:=Pt.boilI m p q ph;let z6:=(rG c T U O n a b u v);let z7:=YU c T U O n a b u v;(branch (decide ((k:Int)<(z6:Int))) (need [UN k z6] (need [VN (-z2 0*z3)] (need [(1:Int)<=T/\T<=100000,(0:Int)<= -z2 0*z3/\ -z2 0*z3<=1000000000000] (need [VN (z5 0 k*z4)] (need [(1:Int)<=T/\T<=100000,(0:Int)<=z5 0 k*z4/\z5 0 k*z4<=1000000000000] (need [UN k 11] (need [k*2+10-1-1-1-1-1-1+List.length [dnI (-z2 0*z3) T,upI (z5 0 k*z4) T]<=26] (need [VN ((k:Int)+1)] (need [X3 c T U O n a b u v m p q pl ph dl dh,KH,Z2=Z2,K5,Y0,U1 (vaB c T U O m p q pl ph dl dh),z7,U1 (eB c T U O n a b u v),U1 (ptr 45 0),z7,U1 (z6:Int),(k:Int)+1=(↑(k+1):Int),c=c,T=T,U=U,O=O,YK n a b u v,YQ m p q,26=26,GV 26 (US (k*2+10-1-1-1-1-1-1+1) (upI (z5 0 k*z4) T) (US (k*2+10-1-1-1-1-1-1) (dnI (-z2 0*z3) T) (wkF pl ph dl dh W z1 k))) (wkF pl ph dl dh W z1 (k+1)),U1 (z3),U1 (z4),c=c,T=T,U=U,O=O,YK n a b u v,YQ m p q,pl=pl,ph=ph,dl=dl,dh=dh] (leaf GB.normal)))))))))) (need [X3 c T U O n a b u v m p q pl ph dl dh,KH,Z2=Z2,K5,Y0,U1 (vaB c T U O m p q pl ph dl dh),z7,U1 (eB c T U O n a b u v),U1 (ptr 45 0),z7,U1 (z6:Int),(k:Int)=(↑(Int.toNat c+1):Int),c=c,T=T,U=U,O=O,YK n a b u v,YQ m p q,26=26,GV 26 (wkF pl ph dl dh W z1 k) (wkF pl ph dl dh W z1 (Int.toNat c+1)),U1 (z3),U1 (z4),c=c,T=T,U=U,O=O,YK n a b u v,YQ m p q,pl=pl,ph=ph,dl=dl,dh=dh] (leaf (GB.exit 1))))) VX ?_);simp only [Jh2,SH,VO.sat,GX] at hQ;have hv:=mD.1 HR;have hb:=BI hv.2.1;have hs:=Qx1 hv.1;have hl:rG c T U O n a b u v=c.toNat+1:=if_pos DY;simp only [VO.sat,UE,G5,GL,UH,VN,UK,HG,FF,LO,hl]
  refine ⟨λh=>?_,λh=>?_⟩
  ·have hk:=Xo9 DY (k:=k) VL;have m1:=sW (x:= -(fwB c T U O n a b u v k 0)) (y:=Pt.boilI m p q pl) (X:=2000) (Y:=2000) VL VL;have m2:=sW (x:=fwB c T U O n a b u v 0 k) (y:=Pt.boilI m p q ph) (X:=2000) (Y:=2000) VL VL;have e6:k*2+10-1-1-1-1-1-1=4+2*k:=VL;rw [e6]
   (with_reducible repeat' first|apply Al|intro _)
   all_goals first|exact Ak|omega|with_reducible rfl|exact Wy8
  ·obtain rfl:k=c.toNat+1:=VL
   (with_reducible repeat' first|apply Al|intro _)
   all_goals first|exact Ak|omega|with_reducible rfl|(rename_i E hE;cases hE;exact hQ)
theorem SC:UP VQ 51 [.agg [i c,i T,i U,i O,rds n a b u v,Pt.scs m p q,i pl,i ph,i dl,i dh]] (.branch (decide (rdE c T U O n a b u v m p q pl ph dl dh=0)) (.leaf (.tup [.roI [i c,i T,i U,i O,rds n a b u v,Pt.scs m p q] 26 (wkA c T U O n a b u v m p q pl ph dl dh) 0,i 0])) (.leaf (.tup [.x (.pointer none),i (rdE c T U O n a b u v m p q pl ph dl dh)]))):=by
 refine GU (L:=[RO [n<=12,m<=8,vaB c T U O m p q pl ph dl dh=true,eB c T U O n a b u v=0] (Xr4 c T U O n a b u v m p q pl ph dl dh)]) (Ae aY (Ae Bo.Heights_ok (Ae TP (Ae Qw2 Aa)))) Ad U0 Tryz.func51 (UV Tryz.f51) (GA (lpE (b:= .loop Jl7) VX<|(FH (ps:=[n<=12,m<=8,vaB c T U O m p q pl ph dl dh=true,eB c T U O n a b u v=0]) (λh=>Zv1 c T U O n a b u v m p q pl ph dl dh h.1 h.2.1 h.2.2.1 h.2.2.2)).N)) (t:=let W:=(leaf (tup [roI [iI c,iI T,iI U,iI O,QR n a b u v,QY m p q] 26 (λj=>wkF pl ph dl dh (bdL c T U O n a b u v m p q pl ph) (bdH c T U O n a b u v m p q pl ph) (Int.toNat c+1) j) 0,iI 0]));let z1:=eB c T U O n a b u v;let z2:=vaB c T U O m p q pl ph dl dh;let z3:=YU c T U O n a b u v;(branch (decide ((n:Int)>12)) (leaf (tup [Z2,iI 3])) (branch (decide ((m:Int)>8)) (leaf (tup [Z2,iI 3])) (need [UG 4 n λk=>[Bo.i (a k),Bo.i (b k),Bo.i (u k),Bo.i (v k)],UG 2 m λk=>[Pt.i (p k),Pt.i (q k)],m<=100000] (need [UG 4 n λk=>[Bo.i (a k),Bo.i (b k),Bo.i (u k),Bo.i (v k)]] (branch (!z2) (leaf (tup [Z2,iI 1])) (branch (z1 != 0) (branch (z1 != 9) (leaf (tup [Z2,iI 1])) (branch (z1 != 0) (leaf (tup [Z2,iI (z1)])) (need [n<=12,m<=8,z2=true,z1=0] (need [X3 c T U O n a b u v m p q pl ph dl dh,KH,Z2=Z2,K5,Y0,U1 (z2),z3,U1 (z1),ptr 47 0=ptr 45 0,z3,U1 (↑(rG c T U O n a b u v):Int),(0:Int)=(↑(0:Nat):Int),False,Pt.blLo m p q pl ph=Pt.boilI m p q pl,Pt.blHi m p q pl ph=Pt.boilI m p q ph,c=c,T=T,U=U,O=O,YK n a b u v,YQ m p q,pl=pl,ph=ph,dl=dl,dh=dh] W)))) (branch (z1 != 0) (leaf (tup [Z2,iI (z1)])) (need [n<=12,m<=8,z2=true,z1=0] (need [X3 c T U O n a b u v m p q pl ph dl dh,KH,Z2=Z2,K5,Y0,U1 (z2),z3,U1 (z1),U1 (ptr 45 0),z3,U1 (↑(rG c T U O n a b u v):Int),(0:Int)=(↑(0:Nat):Int),c=c,T=T,U=U,O=O,YK n a b u v,YQ m p q,List.length ([pl,ph,dl,dh]++aN 22)=26,GV 26 (U9 ([pl,ph,dl,dh]++aN 22)) (wkF pl ph dl dh (bdL c T U O n a b u v m p q pl ph) (bdH c T U O n a b u v m p q pl ph) 0),Pt.blLo m p q pl ph=Pt.boilI m p q pl,Pt.blHi m p q pl ph=Pt.boilI m p q ph,c=c,T=T,U=U,O=O,YK n a b u v,YQ m p q,pl=pl,ph=ph,dl=dl,dh=dh] W)))))))))) VX ?_
 intro Q hQ;have e3:(n>12\/m>8)->rdE c T U O n a b u v m p q pl ph dl dh=3:=λh=>if_pos h
 have e1: ¬(n>12\/m>8)-> ¬(vaB c T U O m p q pl ph dl dh=true/\(eB c T U O n a b u v=0\/eB c T U O n a b u v=9))->rdE c T U O n a b u v m p q pl ph dl dh=1:=λh h'=>by
  unfold rdE;rw [if_neg h,if_neg h']
 have e0: ¬(n>12\/m>8)->vaB c T U O m p q pl ph dl dh=true->(eB c T U O n a b u v=0\/eB c T U O n a b u v=9)->rdE c T U O n a b u v m p q pl ph dl dh=eB c T U O n a b u v:=λh h' h''=>by
  unfold rdE;rw [if_neg h,if_pos ⟨h',h''⟩]
 simp only [VO.sat,UE,UK,HG,RP,Ax,Bool.not_eq_false'] at hQ ⊢;have bad: ∀k:Int,k≠0->rdE c T U O n a b u v m p q pl ph dl dh=k-> ∃r',FB (.tup [.x (.pointer none),i k]) r'/\Q r':=λk hk he=>by
  rw [he] at hQ;exact ⟨.tup [.x (.pointer none),i k],⟨rfl,⟨rfl,rfl⟩,Ak⟩,hQ.2 hk⟩
 refine ⟨λh1=>bad 3 VL (e3 VL),λh1=>⟨λh2=>bad 3 VL (e3 VL),λh2=>⟨⟨Bo.isRec4 n a b u v,Pt.isRec2 m p q,VL⟩,Bo.isRec4 n a b u v,λh3=>bad 1 VL (e1 VL (by rw [h3];simp)),λh3=>⟨λh4=>⟨λh5=>bad 1 VL (e1 VL VL),λh5=>⟨λh6=>bad _ h4 (e0 VL h3 (.inr h5)),λh6=>absurd h6 h4⟩⟩,λh4=>⟨λh5=>absurd h4 h5,λ_=>?_⟩⟩⟩⟩⟩
 have hv:=mD.1 h3;have hs:=Qx1 hv.1;refine ⟨⟨VL,VL,h3,h4⟩,⟨rfl,rfl,λj hj=>Wy7 hj,hs.2.2.2.1,hs.2.2.2.2⟩,.tup [.roI [i c,i T,i U,i O,rds n a b u v,Pt.scs m p q] 26 (wkA c T U O n a b u v m p q pl ph dl dh) 0,i 0],⟨⟨rfl,rfl,λ_ _=>rfl,rfl⟩,⟨rfl,rfl⟩,Ak⟩,hQ.1 ((e0 VL h3 (.inl h4)).trans h4)⟩
end
def dZ:D8:=λl=>match l with
 |[.agg [.x (.int .i64 c),.x (.int .i64 T),.x (.int .i64 U),.x (.int .i64 O),.lst 4 n fr,.lst 2 m ft,.x (.int .i64 pl),.x (.int .i64 ph),.x (.int .i64 dl),.x (.int .i64 dh)]]=>some (.need [UG 4 n fr,UG 2 m ft] (.branch (decide (rdE c T U O n (col 0 fr) (col 1 fr) (col 2 fr) (col 3 fr) m (Pt.col 0 ft) (Pt.col 1 ft) pl ph dl dh=0)) (.leaf (.tup [.roI [i c,i T,i U,i O,rds n (col 0 fr) (col 1 fr) (col 2 fr) (col 3 fr),Pt.scs m (Pt.col 0 ft) (Pt.col 1 ft)] 26 (wkA c T U O n (col 0 fr) (col 1 fr) (col 2 fr) (col 3 fr) m (Pt.col 0 ft) (Pt.col 1 ft) pl ph dl dh) 0,i 0])) (.leaf (.tup [.x (.pointer none),i (rdE c T U O n (col 0 fr) (col 1 fr) (col 2 fr) (col 3 fr) m (Pt.col 0 ft) (Pt.col 1 ft) pl ph dl dh)]))))
 |_=>none
theorem wX:Sx.Enters Tryz.prog 51/\ ∀avs t,dZ avs=some t->UP VQ 51 avs t:=by
 refine ⟨(UJ Tryz.func51),?_⟩;intro avs t h;unfold dZ at h;split at h
 ·cases h;intro Q hQ;have hr:UG 4 _ _:=GE hQ.1 _ GI;have ht:UG 2 _ _:=GE hQ.1 _ (HP _ GI);exact UP.same (SC _ _ _ _ _ _ _ _ _ _ _ _ _ _ _ _) (.cons (LW.same (.cons (.refl _) (.cons (.refl _) (.cons (.refl _) (.cons (.refl _) (.cons (.lst 4 _ _ _ hr) (.cons (.lst 2 _ _ _ ht) (.cons (.refl _) (.cons (.refl _) (.cons (.refl _) (.cons (.refl _) .nil))))))))))) .nil) Q hQ.2
 ·cases h
section
variable (c T U O:Int)(n:Nat)(a b u v:Nat->Int)(m:Nat)(p q:Nat->Int)(pl ph dl dh:Int)
def asE(I S wi Z:Int):Int:=if rdE c T U O n a b u v m p q pl ph dl dh=0 then (if usB c I S wi&&bt 0 Z 10000 then 0 else 2) else rdE c T U O n a b u v m p q pl ph dl dh
def hdE(Z:Int):Int:=if rdE c T U O n a b u v m p q pl ph dl dh=0 then (if bt 0 Z 10000 then 0 else 2) else rdE c T U O n a b u v m p q pl ph dl dh
end
theorem Zv9{c T U O:Int}{n:Nat}{a b u v:Nat->Int}{m:Nat}{p q:Nat->Int}{pl ph dl dh:Int}(h:rdE c T U O n a b u v m p q pl ph dl dh=0):n<=12/\m<=8/\vaB c T U O m p q pl ph dl dh=true/\eB c T U O n a b u v=0:=by
 unfold rdE at h;split at h
 ·cases h
 ·rename_i h1;split at h
  ·rename_i h2;exact ⟨VL,VL,h2.1,h⟩
  ·cases h
section
variable {pl ph dl dh:Int}{L H:Nat->Int}{k j:Nat}
theorem wk_L(h:j<k):wkF pl ph dl dh L H k (4+2*j)=L j:=by
 unfold wkF;rw [if_neg VL,if_neg VL,if_neg VL,if_neg VL,if_pos VL,if_pos VL,show (4+2*j-4) / 2=j by omega]
theorem wk_H(h:j<k):wkF pl ph dl dh L H k (5+2*j)=H j:=by
 unfold wkF;rw [if_neg VL,if_neg VL,if_neg VL,if_neg VL,if_pos VL,if_neg VL,show (5+2*j-4) / 2=j by omega]
end
theorem aV{c T U O:Int}{n:Nat}{a b u v:Nat->Int}{m:Nat}{p q:Nat->Int}{pl ph dl dh:Int}(h:rdE c T U O n a b u v m p q pl ph dl dh=0):drB (wkA c T U O n a b u v m p q pl ph dl dh)/\bdB (wkA c T U O n a b u v m p q pl ph dl dh)/\(1<=c/\c<=10)/\ ∀k:Nat,(k:Int)<=c->0<=bdL c T U O n a b u v m p q pl ph k/\bdL c T U O n a b u v m p q pl ph k<=4000000/\0<=bdH c T U O n a b u v m p q pl ph k/\bdH c T U O n a b u v m p q pl ph k<=4000000:=by
 obtain ⟨h1,h2,h3,h4⟩:=Zv9 h;have hv:=mD.1 h3;have hb:=BI hv.2.1;have hs:=Qx1 hv.1;have key: ∀k:Nat,(k:Int)<=c->0<=bdL c T U O n a b u v m p q pl ph k/\bdL c T U O n a b u v m p q pl ph k<=4000000/\0<=bdH c T U O n a b u v m p q pl ph k/\bdH c T U O n a b u v m p q pl ph k<=4000000:=by
  intro k hk;have hk:=Xo9 h4 hk;have m1:=sW (x:= -(fwB c T U O n a b u v k 0)) (y:=Pt.boilI m p q pl) (X:=2000) (Y:=2000) VL VL;have m2:=sW (x:=fwB c T U O n a b u v 0 k) (y:=Pt.boilI m p q ph) (X:=2000) (Y:=2000) VL VL;have d1:=gC m1.1 (show 1<=T by omega)
  have d2:=S0 m2.1 (show 1<=T by omega)
  unfold bdL bdH;omega
 refine ⟨⟨?_,?_⟩,λj hj=>?_,hb.1,key⟩
 ·show 0<=dl/\dl<=100;omega
 ·show 0<=dh/\dh<=100;omega
 ·by_cases hk:j / 2<c.toNat+1
  ·have:=key (j / 2) VL;rcases Nat.mod_two_eq_zero_or_one j with h0|h0
   ·have e:wkA c T U O n a b u v m p q pl ph dl dh (4+j)=bdL c T U O n a b u v m p q pl ph (j / 2):=by
     have:=wk_L (pl:=pl) (ph:=ph) (dl:=dl) (dh:=dh) (L:=bdL c T U O n a b u v m p q pl ph) (H:=bdH c T U O n a b u v m p q pl ph) hk;rw [show 4+2*(j / 2)=4+j by omega] at this
     exact this
    rw [e];omega
   ·have e:wkA c T U O n a b u v m p q pl ph dl dh (4+j)=bdH c T U O n a b u v m p q pl ph (j / 2):=by
     have:=wk_H (pl:=pl) (ph:=ph) (dl:=dl) (dh:=dh) (L:=bdL c T U O n a b u v m p q pl ph) (H:=bdH c T U O n a b u v m p q pl ph) hk;rw [show 5+2*(j / 2)=4+j by omega] at this
     exact this
    rw [e];omega
  ·have e:wkA c T U O n a b u v m p q pl ph dl dh (4+j)=0:=by
    unfold wkA wkF;rw [if_neg VL,if_neg VL,if_neg VL,if_neg VL,if_neg VL]
   rw [e];omega
abbrev KQ:Value:=Value.int IntKind.i64 (0:Int)
theorem vU(c T U O:Int)(n:Nat)(a b u v:Nat->Int)(m:Nat)(p q:Nat->Int)(pl ph dl dh:Int):VZ VQ 17 [.agg [i c,i T,i U,i O,rds n a b u v,Pt.scs m p q,i pl,i ph,i dl,i dh]] (i (rdE c T U O n a b u v m p q pl ph dl dh)):=by
 refine G9 (L:=[]) Aa (Aj Ab Ac (Ah wX (UB.nil _))) U0 Tryz.func17 (UV Tryz.f17) G4 (t:=need [UG 4 n λk=>[Bo.i (a k),Bo.i (b k),Bo.i (u k),Bo.i (v k)],UG 2 m λk=>[Pt.i (p k),Pt.i (q k)]] (branch (decide (rdE c T U O n a b u v m p q pl ph dl dh=0)) (leaf (RV.x (KQ))) (leaf (RV.x (.int .i64 (rdE c T U O n a b u v m p q pl ph dl dh)))))) VX ?_
 simp only [VO.sat,UE,G5,GL,UH,UK,HG,RP,beq_iff_eq,beq_eq_false_iff_ne,Ax,Bool.not_eq_false',not_true_eq_false,false_imp_iff,true_imp_iff];exact ⟨⟨Bo.isRec4 n a b u v,Pt.isRec2 m p q⟩,λh=>h.symm,λ_=>trivial⟩
def DQ:G0
 |[.agg [.x (.int .i64 c),.x (.int .i64 T),.x (.int .i64 U),.x (.int .i64 O),.lst 4 n fr,.lst 2 m ft,.x (.int .i64 pl),.x (.int .i64 ph),.x (.int .i64 dl),.x (.int .i64 dh)]]=>some ([UG 4 n fr,UG 2 m ft],i (rdE c T U O n (col 0 fr) (col 1 fr) (col 2 fr) (col 3 fr) m (Pt.col 0 ft) (Pt.col 1 ft) pl ph dl dh))
 |_=>none
theorem qM:VS VQ 17 DQ:=by
 refine ⟨(UJ Tryz.func17),?_⟩;intro avs ns res h hn;unfold DQ at h;split at h
 ·cases h;have hr:UG 4 _ _:=hn _ GI;have ht:UG 2 _ _:=hn _ (HP _ GI);exact (vU _ _ _ _ _ _ _ _ _ _ _ _ _ _ _ _).same (.cons (LW.same (.cons (.refl _) (.cons (.refl _) (.cons (.refl _) (.cons (.refl _) (.cons (.lst 4 _ _ _ hr) (.cons (.lst 2 _ _ _ ht) (.cons (.refl _) (.cons (.refl _) (.cons (.refl _) (.cons (.refl _) .nil))))))))))) .nil)
 ·cases h
abbrev ZC(c:Int)(T:Int)(U:Int)(O:Int)(n:Nat)(a:Nat->Int)(b:Nat->Int)(u:Nat->Int)(v:Nat->Int)(m:Nat)(p:Nat->Int)(q:Nat->Int)(pl:Int)(ph:Int)(dl:Int)(dh:Int):AV:=roI [iI c,iI T,iI U,iI O,QR n a b u v,QY m p q] 26 (λa_1=>wkA c T U O n a b u v m p q pl ph dl dh a_1) 0
theorem Wr5(c T U O:Int)(n:Nat)(a b u v:Nat->Int)(m:Nat)(p q:Nat->Int)(pl ph dl dh:Int)(I S wi Z:Int):UP VQ 58 [.agg [i c,i T,i U,i O,rds n a b u v,Pt.scs m p q,i pl,i ph,i dl,i dh],.agg [i I,i S,i wi],i Z] (.branch (decide (asE c T U O n a b u v m p q pl ph dl dh I S wi Z=0)) (.leaf (.tup [.roI [i c,i T,i U,i O,rds n a b u v,Pt.scs m p q] 26 (wkA c T U O n a b u v m p q pl ph dl dh) 0,i 0])) (.leaf (.tup [.top,i (asE c T U O n a b u v m p q pl ph dl dh I S wi Z)]))):=by
 refine GU (L:=[]) (Ae Xy4 (Ae RI Aa)) (Aj Ab Ac (Ah wX (UB.nil _))) U0 Tryz.func58 (UV Tryz.f58) G4 (t:=let W:=rdE c T U O n a b u v m p q pl ph dl dh;let z1:=ZC c T U O n a b u v m p q pl ph dl dh;(need [UG 4 n λk=>[Bo.i (a k),Bo.i (b k),Bo.i (u k),Bo.i (v k)],UG 2 m λk=>[Pt.i (p k),Pt.i (q k)]] (branch (decide (W=0)) (branch ((0:Int)==0) (need [UG 4 n λk=>[Bo.i (a k),Bo.i (b k),Bo.i (u k),Bo.i (v k)],UG 2 m λk=>[Pt.i (p k),Pt.i (q k)]] (branch (!usB c I S wi) (leaf (tup [z1,iI 2])) (branch (!bt (0:Int) Z (10000:Int)) (leaf (tup [z1,iI 2])) (leaf (tup [z1,iI 0]))))) (leaf (tup [z1,iI 0]))) (branch (W==0) (need [UG 4 n λk=>[Bo.i (a k),Bo.i (b k),Bo.i (u k),Bo.i (v k)],UG 2 m λk=>[Pt.i (p k),Pt.i (q k)]] (branch (!usB c I S wi) (leaf (tup [Z2,iI 2])) (branch (!bt (0:Int) Z (10000:Int)) (leaf (tup [Z2,iI 2])) (leaf (tup [Z2,iI (W)]))))) (leaf (tup [Z2,iI (W)])))))) VX ?_
 intro Q hQ;simp only [VO.sat,UE,G5,GL,UH,UK,HG,RP,beq_iff_eq,beq_eq_false_iff_ne,Ax,Bool.not_eq_false',not_true_eq_false,false_imp_iff,true_imp_iff] at hQ ⊢;have hr:rdE c T U O n a b u v m p q pl ph dl dh≠0->asE c T U O n a b u v m p q pl ph dl dh I S wi Z=rdE c T U O n a b u v m p q pl ph dl dh:=λh=>if_neg h
 have h2:rdE c T U O n a b u v m p q pl ph dl dh=0->(usB c I S wi=false\/bt 0 Z 10000=false)->asE c T U O n a b u v m p q pl ph dl dh I S wi Z=2:=λh h'=>by
  unfold asE;rw [if_pos h,if_neg (by rcases h' with h'|h'<;>simp [h'])]
 have h0:rdE c T U O n a b u v m p q pl ph dl dh=0->usB c I S wi=true->bt 0 Z 10000=true->asE c T U O n a b u v m p q pl ph dl dh I S wi Z=0:=λh h' h''=>by
  unfold asE;rw [if_pos h,h',h''];rfl
 have bad: ∀(x:AV) (k:Int),asE c T U O n a b u v m p q pl ph dl dh I S wi Z=k->k≠0-> ∃r',FB (.tup [x,i k]) r'/\Q r':=λx k he hk=>by
  rw [he] at hQ;exact ⟨.tup [.top,i k],⟨by cases x<;>trivial,⟨rfl,rfl⟩,Ak⟩,hQ.2 hk⟩
 refine ⟨⟨Bo.isRec4 n a b u v,Pt.isRec2 m p q⟩,λh=>⟨⟨Bo.isRec4 n a b u v,Pt.isRec2 m p q⟩,λg=>bad _ 2 (h2 h (.inl g)) VL,λg=>⟨λg'=>bad _ 2 (h2 h (.inr g')) VL,λg'=>?_⟩⟩,λh=>⟨λh'=>absurd h' h,λ_=>?_⟩⟩
 ·exact ⟨.tup [.roI [i c,i T,i U,i O,rds n a b u v,Pt.scs m p q] 26 (wkA c T U O n a b u v m p q pl ph dl dh) 0,i 0],⟨⟨rfl,rfl,λ_ _=>rfl,rfl⟩,⟨rfl,rfl⟩,Ak⟩,hQ.1 (h0 h g g')⟩
 ·exact bad _ _ (hr h) h
def Qh1:D8:=λl=>match l with
 |[.agg [.x (.int .i64 c),.x (.int .i64 T),.x (.int .i64 U),.x (.int .i64 O),.lst 4 n fr,.lst 2 m ft,.x (.int .i64 pl),.x (.int .i64 ph),.x (.int .i64 dl),.x (.int .i64 dh)],.agg [.x (.int .i64 I),.x (.int .i64 S),.x (.int .i64 wi)],.x (.int .i64 Z)]=>some (.need [UG 4 n fr,UG 2 m ft] (.branch (decide (asE c T U O n (col 0 fr) (col 1 fr) (col 2 fr) (col 3 fr) m (Pt.col 0 ft) (Pt.col 1 ft) pl ph dl dh I S wi Z=0)) (.leaf (.tup [.roI [i c,i T,i U,i O,rds n (col 0 fr) (col 1 fr) (col 2 fr) (col 3 fr),Pt.scs m (Pt.col 0 ft) (Pt.col 1 ft)] 26 (wkA c T U O n (col 0 fr) (col 1 fr) (col 2 fr) (col 3 fr) m (Pt.col 0 ft) (Pt.col 1 ft) pl ph dl dh) 0,i 0])) (.leaf (.tup [.top,i (asE c T U O n (col 0 fr) (col 1 fr) (col 2 fr) (col 3 fr) m (Pt.col 0 ft) (Pt.col 1 ft) pl ph dl dh I S wi Z)]))))
 |_=>none
theorem Qq1:Sx.Enters Tryz.prog 58/\ ∀avs t,Qh1 avs=some t->UP VQ 58 avs t:=by
 refine ⟨(UJ Tryz.func58),?_⟩;intro avs t h;unfold Qh1 at h;split at h
 ·cases h;intro Q hQ;have hr:UG 4 _ _:=GE hQ.1 _ GI;have ht:UG 2 _ _:=GE hQ.1 _ (HP _ GI);exact UP.same (Wr5 _ _ _ _ _ _ _ _ _ _ _ _ _ _ _ _ _ _ _ _) (.cons (LW.same (.cons (.refl _) (.cons (.refl _) (.cons (.refl _) (.cons (.refl _) (.cons (.lst 4 _ _ _ hr) (.cons (.lst 2 _ _ _ ht) (.cons (.refl _) (.cons (.refl _) (.cons (.refl _) (.cons (.refl _) .nil))))))))))) (.cons (.refl _) (.cons (.refl _) .nil))) Q hQ.2
 ·cases h
def kpB(c T U O:Int)(n:Nat)(a b u v:Nat->Int)(m:Nat)(p q:Nat->Int)(pl ph dl dh:Int)(I S wi Z:Int):Bool:=decide (asE c T U O n a b u v m p q pl ph dl dh I S wi Z=0)&&keB c (wkA c T U O n a b u v m p q pl ph dl dh) I S wi Z
theorem Jg3{c T U O:Int}{n:Nat}{a b u v:Nat->Int}{m:Nat}{p q:Nat->Int}{pl ph dl dh I S wi Z:Int}(h:asE c T U O n a b u v m p q pl ph dl dh I S wi Z=0):rdE c T U O n a b u v m p q pl ph dl dh=0/\usB c I S wi=true/\0<=Z/\Z<=10000:=by
 unfold asE at h;split at h
 ·rename_i h1;split at h
  ·rename_i h2;rw [HA] at h2;exact ⟨h1,h2.1,(bt_iff _ _ _).1 h2.2⟩
  ·cases h
 ·rename_i h1;exact absurd h h1
theorem Xk0(c T U O:Int)(n:Nat)(a b u v:Nat->Int)(m:Nat)(p q:Nat->Int)(pl ph dl dh:Int)(I S wi Z:Int):VZ VQ 26 [.agg [i c,i T,i U,i O,rds n a b u v,Pt.scs m p q,i pl,i ph,i dl,i dh],.agg [i I,i S,i wi],i Z] (.tup [bl (kpB c T U O n a b u v m p q pl ph dl dh I S wi Z),i (asE c T U O n a b u v m p q pl ph dl dh I S wi Z)]):=by
 refine G9 (L:=[]) (Ae Xc7 Aa) (Aj Ab Ac (Ah Qq1 (UB.nil _))) U0 Tryz.func26 (UV Tryz.f26) G4 (t:=let W:=asE c T U O n a b u v m p q pl ph dl dh I S wi Z;let z1:=(wkA c T U O n a b u v m p q pl ph dl dh);(need [UG 4 n λk=>[Bo.i (a k),Bo.i (b k),Bo.i (u k),Bo.i (v k)],UG 2 m λk=>[Pt.i (p k),Pt.i (q k)]] (branch (decide (W=0)) (branch ((0:Int)==0) (need [drB z1,bdB z1,(1:Int)<=c/\c<=10,(0:Int)<=I/\I<=S/\S<=10,(0:Int)<=wi/\wi<=1000000,(0:Int)<=Z/\Z<=100000] (leaf (RV.tup [RV.x (.bool (keB c z1 I S wi Z)),RV.x (KQ)]))) (leaf (RV.tup [RV.x (KU),RV.x (KQ)]))) (branch (W==0) VO.fail (leaf (RV.tup [RV.x (KU),RV.x (.int .i64 (W))])))))) VX ?_
 simp only [VO.sat,UE,G5,GL,UH,UK,HG,RP,beq_iff_eq,beq_eq_false_iff_ne,Ax,Bool.not_eq_false',not_true_eq_false,false_imp_iff,true_imp_iff];refine ⟨⟨Bo.isRec4 n a b u v,Pt.isRec2 m p q⟩,λh=>?_,λh=>⟨λh'=>absurd h' h,λ_=>?_⟩⟩
 ·obtain ⟨h1,h2,h3⟩:=Jg3 h;have hw:=aV h1;have hu:=Wz5.1 h2;refine ⟨⟨hw.1,hw.2.1,hw.2.2.1,VL,VL,VL⟩,?_,h.symm⟩;unfold kpB;rw [h];rfl
 ·unfold kpB;rw [decide_eq_false h];rfl
def aD:G0
 |[.agg [.x (.int .i64 c),.x (.int .i64 T),.x (.int .i64 U),.x (.int .i64 O),.lst 4 n fr,.lst 2 m ft,.x (.int .i64 pl),.x (.int .i64 ph),.x (.int .i64 dl),.x (.int .i64 dh)],.agg [.x (.int .i64 I),.x (.int .i64 S),.x (.int .i64 wi)],.x (.int .i64 Z)]=>some ([UG 4 n fr,UG 2 m ft],.tup [bl (kpB c T U O n (col 0 fr) (col 1 fr) (col 2 fr) (col 3 fr) m (Pt.col 0 ft) (Pt.col 1 ft) pl ph dl dh I S wi Z),i (asE c T U O n (col 0 fr) (col 1 fr) (col 2 fr) (col 3 fr) m (Pt.col 0 ft) (Pt.col 1 ft) pl ph dl dh I S wi Z)])
 |_=>none
theorem Qg6:VS VQ 26 aD:=by
 refine ⟨(UJ Tryz.func26),?_⟩;intro avs ns res h hn;unfold aD at h;split at h
 ·cases h;have hr:UG 4 _ _:=hn _ GI;have ht:UG 2 _ _:=hn _ (HP _ GI);exact (Xk0 _ _ _ _ _ _ _ _ _ _ _ _ _ _ _ _ _ _ _ _).same (.cons (LW.same (.cons (.refl _) (.cons (.refl _) (.cons (.refl _) (.cons (.refl _) (.cons (.lst 4 _ _ _ hr) (.cons (.lst 2 _ _ _ ht) (.cons (.refl _) (.cons (.refl _) (.cons (.refl _) (.cons (.refl _) .nil))))))))))) (.cons (.refl _) (.cons (.refl _) .nil)))
 ·cases h
def hdN(c T U O:Int)(n:Nat)(a b u v:Nat->Int)(m:Nat)(p q:Nat->Int)(pl ph dl dh:Int)(Z:Int):Nat:=if hdE c T U O n a b u v m p q pl ph dl dh Z=0 then c.toNat+1 else 0
theorem PY{P:Program}{c:Code}{ps:List Prop}{sp:UL}(h:UE ps->HQ P c sp):HQ P c (RO ps sp):=λcx hf=>wJ (λhp=>h hp cx hf)
theorem Zj6{g h:Nat->Int}{k j:Nat}{x y:Int}(hx:x=g k)(hy:y=h k)(hj:j<k+1):GJ k (λk=>[i (g k),i (h k)]) (U8 2 [i x,i y]) j=[i (g j),i (h j)]:=by
 subst hx;subst hy;show HF (decide (j<k)) [i (g j),i (h j)] (U8 2 [i (g k),i (h k)] (j-k))=_;rw [show j-k=0 by omega]
 by_cases hj:j<k
 ·rw [decide_eq_true hj];rfl
 ·obtain rfl:j=k:=VL;rw [decide_eq_false hj];rfl
section
variable (c T U O:Int)(n:Nat)(a b u v:Nat->Int)(m:Nat)(p q:Nat->Int)(pl ph dl dh:Int)(Z:Int)
def Jk9:St:={σ:=mkS 37 [(0,.agg [i c,i T,i U,i O,rds n a b u v,Pt.scs m p q,i pl,i ph,i dl,i dh]),(1,i Z),(2,.fn (.func 72) [] []),(3,.ptr 0 0),(4,.ptr 1 0),(5,.ptr 2 0),(6,.x (.slice none 0 0)),(7,i 0),(8,.ptr 10 0),(9,i 0),(10,.ptr 18 0),(26,.fn (.func 140) [] [.ro [i 0],.ro [i c]])],m:=[(901,.row 51 2 0 (λk=>[i (onL (wkA c T U O n a b u v m p q pl ph dl dh) k Z),i (onH (wkA c T U O n a b u v m p q pl ph dl dh) k Z)])),(18,.cells 112 [.row 901]),(10,.cells 124 [.roI [i c,i T,i U,i O,rds n a b u v,Pt.scs m p q] 26 (wkA c T U O n a b u v m p q pl ph dl dh) 0]),(2,.cells 163 [.fn (.func 72) [] []]),(1,.cells 3 [i Z]),(0,.cells 53 [i c,i T,i U,i O,rds n a b u v,Pt.scs m p q,i pl,i ph,i dl,i dh])],nx:=902}
noncomputable def Jo7:Code:=S9 (VU (UA Tryz.f71) 0)
noncomputable def Jn8:Code:=S8 (VU (UA Tryz.f71) 0)
def nX(k:Nat):St:={σ:=H6 [] (Jk9 c T U O n a b u v m p q pl ph dl dh Z).σ,m:=[(901,.row 51 2 k (λk=>[i (onL (wkA c T U O n a b u v m p q pl ph dl dh) k Z),i (onH (wkA c T U O n a b u v m p q pl ph dl dh) k Z)])),(18,.cells 112 [.row 901]),(10,.cells 124 [.roI [i c,i T,i U,i O,rds n a b u v,Pt.scs m p q] 26 (wkA c T U O n a b u v m p q pl ph dl dh) 0]),(2,.cells 163 [.fn (.func 72) [] []]),(1,.cells 3 [i Z]),(0,.cells 53 [i c,i T,i U,i O,rds n a b u v,Pt.scs m p q,i pl,i ph,i dl,i dh])],nx:=902}
def nE(k:Nat):GB->Option St
 | .normal=>some {σ:=H6 [] (Jk9 c T U O n a b u v m p q pl ph dl dh Z).σ,m:=[(901,.row 51 2 ((c-0+1).toNat) (λk=>[i (onL (wkA c T U O n a b u v m p q pl ph dl dh) k Z),i (onH (wkA c T U O n a b u v m p q pl ph dl dh) k Z)])),(18,.cells 112 [.row 901]),(10,.cells 124 [.roI [i c,i T,i U,i O,rds n a b u v,Pt.scs m p q] 26 (wkA c T U O n a b u v m p q pl ph dl dh) 0]),(2,.cells 163 [.fn (.func 72) [] []]),(1,.cells 3 [i Z]),(0,.cells 53 [i c,i T,i U,i O,rds n a b u v,Pt.scs m p q,i pl,i ph,i dl,i dh])],nx:=902}
 |_=>none
def T_eO:CT:= .leaf (.normal,nX c T U O n a b u v m p q pl ph dl dh Z ((c-0+1).toNat))
def Xu4:UL:=GN [(.cell 18 0,901,51,2)] (HM (nX c T U O n a b u v m p q pl ph dl dh Z (0)) (T_eO c T U O n a b u v m p q pl ph dl dh Z))
end
abbrev ZT(c:Int):AV:=AV.fn (Fn.func 140) [] [AV.ro [iI 0],AV.ro [iI c]]
abbrev J1:Prop:=AV.fn (Fn.func 72) [] []=AV.fn (Fn.func 72) [] []
abbrev KV:Ext:={R:=[(95,aA)],H:=[],C:=[(51,dZ)] }
section
variable (c T U O:Int)(n:Nat)(a b u v:Nat->Int)(m:Nat)(p q:Nat->Int)(pl ph dl dh:Int)(Z:Int)
theorem Je7(VV:rdE c T U O n a b u v m p q pl ph dl dh=0)(UI:0<=Z/\Z<=10000)(HR:drB (wkA c T U O n a b u v m p q pl ph dl dh)/\bdB (wkA c T U O n a b u v m p q pl ph dl dh)/\1<=c/\c<=10):HQ VQ (.rangeFunc (rfF (VU (UA Tryz.f71) 0)) (jE (VU (UA Tryz.f71) 0)) Jo7 Jn8) (Xu4 c T U O n a b u v m p q pl ph dl dh Z):=by
 refine PA [(.cell 18 0,901,51,2)] (L:=[]) (Ae RI (Ae Wb4 Aa)) (Aj (Af d8 Ab) Ac (Ah wX (UB.nil _))) U0 U7 (V:=Nat) (nX c T U O n a b u v m p q pl ph dl dh Z) (λk=>k<=((c-0+1).toNat)) (λk=>k) (nE c T U O n a b u v m p q pl ph dl dh Z) (x0:=0) VW rfl ?_ ?_ ?_ ?_ (g:=140) (caps:=[.ro [i 0],.ro [i c]]) VX VX (E1 0 c VL VL) (λ_=>rfl) ?_
 ·rintro k;kernel_rfl
 ·rintro k y E h;unfold nE at h;split at h
  ·cases h;kernel_rfl
  ·cases h
 ·rintro k;rfl
 ·rintro k y E h;unfold nE at h;split at h
  ·cases h;rfl
  ·cases h
 ·rintro Q hQ k hx;refine ⟨λhlt=>⟨(k+1),rfl,?_⟩,λPS=>?_⟩
  ·(with_reducible refine DU (t:=let W:=(wkA c T U O n a b u v m p q pl ph dl dh);let z1:=((0:Int)+(k:Int)).toNat;(need [drB W,bdB W,(0:Int)<=0+(k:Int)/\(0:Int)+(k:Int)<=10,(0:Int)<=Z/\Z<=100000] (need [(k+1)*16<=140737488355328,L0 1 (U8 2 [iI (onL W z1 Z),iI (onH W z1 Z)])] (need [X3 c T U O n a b u v m p q pl ph dl dh,Z=Z,J1,KH,U1 (ptr 1 0),U1 (ptr 2 0),Z9=Z9,K5,U1 (ptr 10 0),K5,Y0,ZT c=ZT c,k+1=k+1,GV (k+1) (GJ k (λk=>[iI (onL W k Z),iI (onH W k Z)]) (U8 2 [iI (onL W z1 Z),iI (onH W z1 Z)])) (λi=>[iI (onL W i Z),iI (onH W i Z)]),U1 (AV.row 901),U1 (ZC c T U O n a b u v m p q pl ph dl dh),J1,Z=Z,c=c,T=T,U=U,O=O,YK n a b u v,YQ m p q,pl=pl,ph=ph,dl=dl,dh=dh] (leaf GB.normal))))) VX ?_)
   simp only [VO.sat,UE,UK]
   have ek:((0:Int)+(k:Int)).toNat=k:=VL;refine ⟨⟨HR.1,HR.2.1,VL,VL⟩,⟨VL,λj hj a ha=>FD ha (by simp [AV.one,Value.oneCell'])⟩,λj hj=>?_,VL⟩
   rw [ek];exact Zj6 rfl rfl hj
  ·subst PS;exact hQ
abbrev YP:Value:=Value.slice none 0 0
theorem Wo6:VZ VQ 71 [.agg [i c,i T,i U,i O,rds n a b u v,Pt.scs m p q,i pl,i ph,i dl,i dh],i Z,.fn (.func 72) [] []] (.tup [.lst 2 (hdN c T U O n a b u v m p q pl ph dl dh Z) (λk=>[i (onL (wkA c T U O n a b u v m p q pl ph dl dh) k Z),i (onH (wkA c T U O n a b u v m p q pl ph dl dh) k Z)]),i (hdE c T U O n a b u v m p q pl ph dl dh Z)]):=by
 refine G9 (L:=[RO [rdE c T U O n a b u v m p q pl ph dl dh=0,0<=Z/\Z<=10000,drB (wkA c T U O n a b u v m p q pl ph dl dh)/\bdB (wkA c T U O n a b u v m p q pl ph dl dh)/\1<=c/\c<=10] (Xu4 c T U O n a b u v m p q pl ph dl dh Z)]) (Ae RI (Ae Wb4 Aa)) (Aj (Af d8 Ab) Ac (Ah wX (UB.nil _))) U0 Tryz.func71 (UV Tryz.f71) (GA (lpE (b:= .rangeFunc (rfF (VU (UA Tryz.f71) 0)) (jE (VU (UA Tryz.f71) 0)) Jo7 Jn8) VX<|PY (λh=>Je7 c T U O n a b u v m p q pl ph dl dh Z h.1 h.2.1 h.2.2))) (t:=let W:=wkA c T U O n a b u v m p q pl ph dl dh;let z1:=rdE c T U O n a b u v m p q pl ph dl dh;let z2:=(leaf (RV.tup [RV.lst 2 (c-0+1).toNat λk=>[iI (onL (W) k Z),iI (onH (W) k Z)],RV.x (KQ)]));let z3:=(leaf (RV.tup [RV.x (YP),RV.x (.int .i64 (2:Int))]));(need [UG 4 n λk=>[Bo.i (a k),Bo.i (b k),Bo.i (u k),Bo.i (v k)],UG 2 m λk=>[Pt.i (p k),Pt.i (q k)]] (branch (decide (z1=0)) (branch ((0:Int) != 0) (leaf (RV.tup [RV.x (YP),RV.x (KQ)])) (branch (!bt (0:Int) Z (10000:Int)) z3 (need [z1=0,(0:Int)<=Z/\Z<=10000,drB (W)/\bdB (W)/\(1:Int)<=c/\c<=10] (need [X3 c T U O n a b u v m p q pl ph dl dh,Z=Z,J1,KH,U1 (ptr 1 0),U1 (ptr 2 0),Z9=Z9,K5,U1 (ptr 10 0),K5,Y0,ZT c=ZT c,0=0,∀(i:Nat),i<0->[]=[iI (onL (W) i Z),iI (onH (W) i Z)],U1 (AV.row 901),U1 (ZC c T U O n a b u v m p q pl ph dl dh),J1,Z=Z,c=c,T=T,U=U,O=O,YK n a b u v,YQ m p q,pl=pl,ph=ph,dl=dl,dh=dh] z2)))) (branch (z1 != 0) (leaf (RV.tup [RV.x (YP),RV.x (.int .i64 (z1))])) (branch (!bt (0:Int) Z (10000:Int)) z3 (need [z1=0,(0:Int)<=Z/\Z<=10000,drB (W)/\bdB (W)/\(1:Int)<=c/\c<=10] (need [X3 c T U O n a b u v m p q pl ph dl dh,Z=Z,J1,KH,U1 (ptr 1 0),U1 (ptr 2 0),Z9=Z9,K5,U1 (ptr 10 0),z1=0,Y0,ZT c=ZT c,0=0,∀(i:Nat),i<0->[]=[iI (onL (W) i Z),iI (onH (W) i Z)],U1 (AV.row 901),AV.x (.pointer none)=roI [iI c,iI T,iI U,iI O,QR n a b u v,QY m p q] 26 (λa_1=>W a_1) 0,J1,Z=Z,c=c,T=T,U=U,O=O,YK n a b u v,YQ m p q,pl=pl,ph=ph,dl=dl,dh=dh] z2))))))) VX ?_
 simp only [VO.sat,UE,G5,GL,UH,UK,HG,RP,beq_iff_eq,beq_eq_false_iff_ne,Ax,Bool.not_eq_false',not_true_eq_false,false_imp_iff,true_imp_iff];have e2:rdE c T U O n a b u v m p q pl ph dl dh=0->bt 0 Z 10000=false->hdE c T U O n a b u v m p q pl ph dl dh Z=2:=λh h'=>by
  unfold hdE;rw [if_pos h,h'];rfl
 have e0:rdE c T U O n a b u v m p q pl ph dl dh=0->bt 0 Z 10000=true->hdE c T U O n a b u v m p q pl ph dl dh Z=0:=λh h'=>by
  unfold hdE;rw [if_pos h,h'];rfl
 have er: ¬rdE c T U O n a b u v m p q pl ph dl dh=0->hdE c T U O n a b u v m p q pl ph dl dh Z=rdE c T U O n a b u v m p q pl ph dl dh:=λh=>if_neg h
 have eN: ∀k:Int,hdE c T U O n a b u v m p q pl ph dl dh Z=k->k≠0->(cY (YP)/\hdN c T U O n a b u v m p q pl ph dl dh Z=0)/\k=hdE c T U O n a b u v m p q pl ph dl dh Z:=λk h hk=>⟨⟨by trivial,if_neg (by rw [h];exact hk)⟩,h.symm⟩
 have eP:rdE c T U O n a b u v m p q pl ph dl dh=0->bt 0 Z 10000=true->hdN c T U O n a b u v m p q pl ph dl dh Z=c.toNat+1:=λh h'=>if_pos (e0 h h')
 refine ⟨⟨Bo.isRec4 n a b u v,Pt.isRec2 m p q⟩,λh=>⟨λh'=>eN 2 (e2 h h') (by decide),λh'=>?_⟩,λh=>⟨λ_=>eN _ (er h) h,λh''=>absurd h'' h⟩⟩
 have hw:=aV h;have hb:=(bt_iff _ _ _).1 h';refine ⟨⟨h,hb,hw.1,hw.2.1,hw.2.2.1⟩,λj hj=>absurd hj (Aq _),⟨?_,λj _ x hx=>?_⟩,(e0 h h').symm⟩
 ·rw [eP h h'];omega
 ·simp only [GM,DL,or_false] at hx;rcases hx with rfl|rfl<;>exact Ak
end
def Qe0:G0
 |[.agg [.x (.int .i64 c),.x (.int .i64 T),.x (.int .i64 U),.x (.int .i64 O),.lst 4 n fr,.lst 2 m ft,.x (.int .i64 pl),.x (.int .i64 ph),.x (.int .i64 dl),.x (.int .i64 dh)],.x (.int .i64 Z),.fn (.func 72) [] []]=>some ([UG 4 n fr,UG 2 m ft],.tup [.lst 2 (hdN c T U O n (col 0 fr) (col 1 fr) (col 2 fr) (col 3 fr) m (Pt.col 0 ft) (Pt.col 1 ft) pl ph dl dh Z) (λk=>[i (onL (wkA c T U O n (col 0 fr) (col 1 fr) (col 2 fr) (col 3 fr) m (Pt.col 0 ft) (Pt.col 1 ft) pl ph dl dh) k Z),i (onH (wkA c T U O n (col 0 fr) (col 1 fr) (col 2 fr) (col 3 fr) m (Pt.col 0 ft) (Pt.col 1 ft) pl ph dl dh) k Z)]),i (hdE c T U O n (col 0 fr) (col 1 fr) (col 2 fr) (col 3 fr) m (Pt.col 0 ft) (Pt.col 1 ft) pl ph dl dh Z)])
 |_=>none
theorem Wo5:VS VQ 71 Qe0:=by
 refine ⟨(UJ Tryz.func71),?_⟩;intro avs ns res h hn;unfold Qe0 at h;split at h
 ·cases h;have hr:UG 4 _ _:=hn _ GI;have ht:UG 2 _ _:=hn _ (HP _ GI);exact (Wo6 _ _ _ _ _ _ _ _ _ _ _ _ _ _ _ _ _).same (.cons (LW.same (.cons (.refl _) (.cons (.refl _) (.cons (.refl _) (.cons (.refl _) (.cons (.lst 4 _ _ _ hr) (.cons (.lst 2 _ _ _ ht) (.cons (.refl _) (.cons (.refl _) (.cons (.refl _) (.cons (.refl _) .nil))))))))))) (.cons (.refl _) (.cons (.refl _) .nil)))
 ·cases h
theorem vQ(c T U O:Int)(n:Nat)(a b u v:Nat->Int)(m:Nat)(p q:Nat->Int)(pl ph dl dh:Int)(Z:Int):FO VQ 43 [.agg [i c,i T,i U,i O,rds n a b u v,Pt.scs m p q,i pl,i ph,i dl,i dh],i Z] (.tup [.lst 2 (hdN c T U O n a b u v m p q pl ph dl dh Z) (λk=>[i (onL (wkA c T U O n a b u v m p q pl ph dl dh) k Z),i (onH (wkA c T U O n a b u v m p q pl ph dl dh) k Z)]),i (hdE c T U O n a b u v m p q pl ph dl dh Z)]):=by
 refine D2 (L:=[]) (Ae Wo5 Aa) Ad U0 Tryz.func43 (UV Tryz.f43) G4 (t:=need [UG 4 n λk=>[Bo.i (a k),Bo.i (b k),Bo.i (u k),Bo.i (v k)],UG 2 m λk=>[Pt.i (p k),Pt.i (q k)]] (leaf (tup [lst 2 (hdN c T U O n a b u v m p q pl ph dl dh Z) λk=>[iI (onL (wkA c T U O n a b u v m p q pl ph dl dh) k Z),iI (onH (wkA c T U O n a b u v m p q pl ph dl dh) k Z)],iI (hdE c T U O n a b u v m p q pl ph dl dh Z)]))) VX ?_
 simp only [VO.sat,UE,UK];exact ⟨⟨Bo.isRec4 n a b u v,Pt.isRec2 m p q⟩,⟨rfl,rfl,λ_ _=>rfl⟩,⟨rfl,rfl⟩,Ak⟩
end Go.Proofs.YtakpdkmhclhlnaaGreatDoor
namespace Go.Proofs.YtakpdkmhclhlnaaGreatDoor.Hd
open Go Go.Sx Go.RowKit Bo
open Go.Sx.VO (need branch leaf)
open Go.Sx.AV (lst ptr agg roI tup top)
def ON:G0
 |[.x (.int .i64 n),.x (.int .i64 U),.x (.int .i64 O)]=>some ([],bl (bt U n O))
 |_=>none
abbrev W6:Value:=Value.bool false
theorem V9{p:Prop}(h:p:=by
 simp only [VO.sat,UE,G5,GL,UH,UK];all_goals (simp+contextual [bt,insB,Bo.bt,Bo.insB,Bool.and_assoc]);all_goals omega):p:=h
theorem pB(n U O:Int):VZ VQ 122 [i n,i U,i O] (bl (bt U n O)):=by
 refine GT Tryz.func122 (t:=branch (decide (U<=n)) (leaf (RV.x (.bool (decide (n<=O))))) (leaf (RV.x (W6)))) VX ?_;exact V9
theorem zO:VS VQ 122 ON:=by
 refine ⟨(UJ Tryz.func122),?_⟩;intro avs ns res h hn;unfold ON at h;split at h
 ·cases h;exact pB _ _ _
 ·cases h
def OP:G0
 |[.agg [.x (.int .i64 a),.x (.int .i64 b)],.x (.int .i64 U),.x (.int .i64 O)]=>some ([],bl (insB U a b O))
 |_=>none
theorem pG(a b U O:Int):VZ VQ 163 [.agg [i a,i b],i U,i O] (bl (insB U a b O)):=by
 refine GT Tryz.func163 (t:=branch (decide (U<=a)) (branch (decide (a<=b)) (leaf (RV.x (.bool (decide (b<=O))))) (leaf (RV.x (W6)))) (leaf (RV.x (W6)))) VX ?_;exact V9
theorem IA:VS VQ 163 OP:=by
 refine ⟨(UJ Tryz.func163),?_⟩;intro avs ns res h hn;unfold OP at h;split at h
 ·cases h;exact pG _ _ _ _
 ·cases h
def OO:G0
 |[.agg [.x (.int .i64 a),.x (.int .i64 b)]]=>some ([],bl (insB (-100) a b 100))
 |_=>none
theorem pF(a b:Int):VZ VQ 121 [.agg [i a,i b]] (bl (insB (-100) a b 100)):=by
 refine U4 (L:=[]) (Ae IA Aa) U0 Tryz.func121 (UV Tryz.f121) U7 (t:=leaf (RV.x (.bool (insB (-100:Int) a b (100:Int))))) VX ?_;exact YZ
theorem pE:VS VQ 121 OO:=by
 refine ⟨(UJ Tryz.func121),?_⟩;intro avs ns res h hn;unfold OO at h;split at h
 ·cases h;exact pF _ _
 ·cases h
def Qe4:G0
 |[.agg [.x (.int .i64 a),.x (.int .i64 b)]]=>some ([],bl (insB 0 a b 1000))
 |_=>none
theorem Wq6(a b:Int):VZ VQ 167 [.agg [i a,i b]] (bl (insB 0 a b 1000)):=by
 refine U4 (L:=[]) (Ae IA Aa) U0 Tryz.func167 (UV Tryz.f167) U7 (t:=leaf (RV.x (.bool (insB (0:Int) a b (1000:Int))))) VX ?_;exact YZ
theorem iU:VS VQ 167 Qe4:=by
 refine ⟨(UJ Tryz.func167),?_⟩;intro avs ns res h hn;unfold Qe4 at h;split at h
 ·cases h;exact Wq6 _ _
 ·cases h
def aB:G0
 |[.x (.int .i64 n)]=>some ([0<=n/\n<=1000],i (1+n))
 |_=>none
theorem Wp9(n:Int)(VV:0<=n/\n<=1000):VZ VQ 54 [i n] (i (1+n)):=by
 refine GT Tryz.func54 (t:=need [VN ((1:Int)+n)] (leaf (RV.x (.int .i64 ((1:Int)+n))))) VX ?_;simp only [VO.sat,UE,G5,GL,UH,VN,UK];all_goals first|omega|grind
theorem RH:VS VQ 54 aB:=by
 refine ⟨(UJ Tryz.func54),?_⟩;intro avs ns res h hn;unfold aB at h;split at h
 ·cases h;exact Wp9 _ (hn _ VW)
 ·cases h
def aC:G0
 |[.x (.int .i64 n)]=>some ([0<=n/\n<=1000],i (7+n))
 |_=>none
theorem Wq1(n:Int)(VV:0<=n/\n<=1000):VZ VQ 127 [i n] (i (7+n)):=by
 refine GT Tryz.func127 (t:=need [VN ((7:Int)+n)] (leaf (RV.x (.int .i64 ((7:Int)+n))))) VX ?_;exact VC
theorem LV:VS VQ 127 aC:=by
 refine ⟨(UJ Tryz.func127),?_⟩;intro avs ns res h hn;unfold aC at h;split at h
 ·cases h;exact Wq1 _ (hn _ VW)
 ·cases h
def kF:G0:=kD
theorem Qp4(a b:Int):VZ VQ 128 [.lst 1 2 (λk=>[i (if k=0 then a else b)])] (i (min a b)):=by
 refine U4 (L:=[]) (Ae S7 Aa) U0 Tryz.func128 (UV Tryz.f128) U7 (t:=leaf (RV.x (.int .i64 (min (if 0=0 then a else b) (if 1=0 then a else b))))) VX ?_
 simp [VO.sat,G5,UH]
theorem R0:VS VQ 128 kF:=by
 refine ⟨(UJ Tryz.func128),?_⟩;intro avs ns res h hn;unfold kF kD at h;split at h
 ·rename_i f;split at h
  ·rename_i a b h0 h1;cases h;refine (Qp4 a b).same (.cons (.lst 1 2 _ _ ?_) .nil);intro k hk;rcases (show k=0\/k=1 by omega) with rfl|rfl
   ·exact h0
   ·exact h1
  ·cases h
 ·cases h
def lH:G0
 |[.agg [.lst 2 3 f,.x (.int .i64 er),.lst 3 N bf],.x (.int .i64 n)]=>some ([],bl (bt 0 n 2))
 |_=>none
theorem Qp5(f:Nat->List AV)(er:Int)(N:Nat)(bf:Nat->List AV)(n:Int):VZ VQ 166 [.agg [.lst 2 3 f,i er,.lst 3 N bf],i n] (bl (bt 0 n 2)):=by
 refine U4 (L:=[]) (Ae zO Aa) U0 Tryz.func166 (UV Tryz.f166) U7 (t:=need [VN ((↑(3:Nat):Int)-1)] (leaf (RV.x (.bool (bt (0:Int) n ((↑(3:Nat):Int)-1)))))) VX ?_;simp [VO.sat,UE,G5,UH,VN]
theorem O6:VS VQ 166 lH:=by
 refine ⟨(UJ Tryz.func166),?_⟩;intro avs ns res h hn;unfold lH at h;split at h
 ·cases h;exact Qp5 _ _ _ _ _
 ·cases h
def snB(r:Nat->Int):Nat->Int->Bool
 | 0,_=>false
 |k+1,q=>snB r k q||(r k==q)
theorem sL(r:Nat->Int)(q:Int): ∀k,snB r k q=true↔ ∃j,j<k/\r j=q
 | 0=>by simp [snB]
 |k+1=>by
  simp only [snB,Bl,sL r q k,beq_iff_eq];constructor
  ·rintro (⟨j,h1,h2⟩|h)
   ·exact ⟨j,VL,h2⟩
   ·exact ⟨k,VL,h⟩
  ·rintro ⟨j,h1,h2⟩;rcases (show j<k\/j=k by omega) with h|rfl
   ·exact .inl ⟨j,h,h2⟩
   ·exact .inr h2
abbrev bts(m:Nat)(r v:Nat->Int):AV:= .lst 2 m (λj=>[i (r j),i (v j)])
abbrev WE(f:Nat->List AV):AV:=lst 2 3 λa=>f a
abbrev X9(m:Nat)(r:Nat->Int)(v:Nat->Int):AV:=lst 2 m λj=>[iI (r j),iI (v j)]
abbrev K1(N:Nat)(bf:Nat->List AV):AV:=lst 3 N λa=>bf a
section
variable (f:Nat->List AV)(er:Int)(N:Nat)(bf:Nat->List AV)(U O:Int)(m:Nat)(r v:Nat->Int)
def Zo3:St:={σ:=[agg [WE f,iI er,K1 N bf],agg [iI U,iI O,X9 m r v],ptr 0 0,ptr 1 0,top,ptr 3 0,top,top,top,X9 m r v,iI (m:Int)]++HK 28 [],m:=[(3,GQ.cells 278 [AV.x (W6),AV.x (W6),AV.x (W6),AV.x (W6),AV.x (W6),AV.x (W6)]),(1,GQ.cells 148 [iI U,iI O,X9 m r v]),(0,GQ.cells 59 [WE f,iI er,K1 N bf])],nx:=8}
noncomputable def Jo1:Code:=UC (VU (UA Tryz.f124) 0)
def Wh3(k:Nat):St:=(upE [(11,i k)] [(3,.cells 278 [bl (snB r (k) 0),bl (snB r (k) 1),bl (snB r (k) 2),bl (snB r (k) 3),bl (snB r (k) 4),bl (snB r (k) 5)]),(1,.cells 148 [i U,i O,bts m r v]),(0,.cells 59 [.lst 2 3 f,i er,.lst 3 N bf])] (Zo3 f er N bf U O m r v))
def CP(k:Nat):GB->Option St
 | .exit 0=>some (upE [] [(3,.cells 278 [bl (snB r (m) 0),bl (snB r (m) 1),bl (snB r (m) 2),bl (snB r (m) 3),bl (snB r (m) 4),bl (snB r (m) 5)]),(1,.cells 148 [i U,i O,bts m r v]),(0,.cells 59 [.lst 2 3 f,i er,.lst 3 N bf])] (Zo3 f er N bf U O m r v))
 |_=>none
def Jk2:CT:= .leaf (.exit 0,(CP f er N bf U O m r v 0 (.exit 0)).getD (Zo3 f er N bf U O m r v))
def Xu7:UL:=(HM (Wh3 f er N bf U O m r v (0)) (Jk2 f er N bf U O m r v))
end
abbrev QO:Prop:=ptr 0 0=ptr 0 0
abbrev Z8:Prop:=ptr 1 0=ptr 1 0
abbrev ZG:Prop:=ptr 3 0=ptr 3 0
theorem YY{p:Prop}(h:p:=by
 (with_reducible repeat' first|apply Al|intro _)
 all_goals first|exact Ak|omega|with_reducible rfl|(rename_i E hE;cases hE;exact hQ)|rfl):p:=h
section
variable (f:Nat->List AV)(er:Int)(N:Nat)(bf:Nat->List AV)(U O:Int)(m:Nat)(r v:Nat->Int)
theorem Jg0(VV:m<=1000)(UI: ∀j,j<m->0<=r j/\r j<=2/\ -1000<=v j/\v j<=2000)(HR: ∀j k,j<k->k<m->r j≠r k)(DY:insB 0 U O 1000=true):GD VQ (.loop Jo1) (Xu7 f er N bf U O m r v):=by
 refine HT (L:=[]) (Ae O6 (Ae zO (Ae iU Aa))) U0 U7 (X:=Nat) (Wh3 f er N bf U O m r v) (λk=>k<=m) (λk=>m-k) (CP f er N bf U O m r v) (x0:=0) VW ?_ ?_ ?_
 ·rintro k;kernel_rfl
 ·rintro k y E h;unfold CP at h;split at h
  ·cases h;kernel_rfl
  ·cases h
 ·rintro Q hQ k hx;refine ⟨(k+1),?_⟩;(with_reducible refine DU (t:=branch (decide ((k:Int)<(m:Int))) (need [UN k m] (branch (!bt (0:Int) (r k) (2:Int)) VO.fail (need [UN (r k) 6] (need [0+(r k).toNat*1<List.length [snB r k (0:Int),snB r k (1:Int),snB r k (2:Int),snB r k (3:Int),snB r k (4:Int),snB r k (5:Int)]] (branch (match [snB r k (0:Int),snB r k (1:Int),snB r k (2:Int),snB r k (3:Int),snB r k (4:Int),snB r k (5:Int)][0+(r k).toNat*1]? with|some x=>x|none=>false) VO.fail (branch (!bt (-1000:Int) (v k) (2000:Int)) VO.fail (need [UN (r k) 6] (need [0+(r k).toNat*1<List.length [snB r k (0:Int),snB r k (1:Int),snB r k (2:Int),snB r k (3:Int),snB r k (4:Int),snB r k (5:Int)]] (need [VN ((k:Int)+1)] (need [U1 (agg [WE f,iI er,K1 N bf]),U1 (agg [iI U,iI O,X9 m r v]),QO,Z8,ZG,U1 (X9 m r v),U1 (m:Int),(k:Int)+1=(↑(k+1):Int),(if 0=0+(r k).toNat*1 then true else snB r k (0:Int))=snB r (k+1) (0:Int),(if 1=0+(r k).toNat*1 then true else snB r k (1:Int))=snB r (k+1) (1:Int),(if 2=0+(r k).toNat*1 then true else snB r k (2:Int))=snB r (k+1) (2:Int),(if 3=0+(r k).toNat*1 then true else snB r k (3:Int))=snB r (k+1) (3:Int),(if 4=0+(r k).toNat*1 then true else snB r k (4:Int))=snB r (k+1) (4:Int),(if 5=0+(r k).toNat*1 then true else snB r k (5:Int))=snB r (k+1) (5:Int),U=U,O=O,U1 (X9 m r v),WE f=WE f,er=er,U1 (K1 N bf)] (leaf GB.normal))))))))))) (need [U1 (agg [WE f,iI er,K1 N bf]),U1 (agg [iI U,iI O,X9 m r v]),QO,Z8,ZG,U1 (X9 m r v),U1 (m:Int),snB r k (0:Int)=snB r m (0:Int),snB r k (1:Int)=snB r m (1:Int),snB r k (2:Int)=snB r m (2:Int),snB r k (3:Int)=snB r m (3:Int),snB r k (4:Int)=snB r m (4:Int),snB r k (5:Int)=snB r m (5:Int),U=U,O=O,U1 (X9 m r v),WE f=WE f,er=er,U1 (K1 N bf)] (leaf (GB.exit 0)))) VX ?_)
  simp only [Jk2,CP,VO.sat,GX] at hQ;simp only [VO.sat,UE,G5,GL,UH,VN,UK,HG,RX,RP,LO,GS,CP]
  refine ⟨λh=>?_,λh=>?_⟩
  ·obtain ⟨h0,h1,h2,h3⟩:=UI k VL;have hno:snB r k (r k)=false:=by
    rw [←Bool.not_eq_true,sL];rintro ⟨j,hj,he⟩;exact HR j k hj VL he
   have hb1:bt 0 (r k) 2=true:=(bt_iff _ _ _).2 VL;have hb2:bt (-1000) (v k) 2000=true:=(bt_iff _ _ _).2 VL;rcases (show r k=0\/r k=1\/r k=2 by omega) with hr|hr|hr
   all_goals
    rw [hr] at hno hb1;simp [hr,hno,hb1,hb2,snB];exact YY
  ·obtain rfl:k=m:=VL;exact YY
theorem Wq9(VV:m<=1000)(UI: ∀j,j<m->0<=r j/\r j<=2/\ -1000<=v j/\v j<=2000)(HR: ∀j k,j<k->k<m->r j≠r k)(DY:insB 0 U O 1000=true):VZ VQ 124 [.agg [.lst 2 3 f,i er,.lst 3 N bf],.agg [i U,i O,bts m r v]] (bl true):=by
 refine U4 (L:=[Xu7 f er N bf U O m r v]) (Ae O6 (Ae zO (Ae iU Aa))) U0 Tryz.func124 (UV Tryz.f124) (GA (lpE (b:= .loop Jo1) VX<|Jg0 f er N bf U O m r v VV UI HR DY)) (t:=need [U1 (agg [WE f,iI er,K1 N bf]),U1 (agg [iI U,iI O,X9 m r v]),QO,Z8,ZG,U1 (X9 m r v),U1 (m:Int),(0:Int)=(↑(0:Nat):Int),false=snB r 0 (0:Int),false=snB r 0 (1:Int),false=snB r 0 (2:Int),false=snB r 0 (3:Int),false=snB r 0 (4:Int),false=snB r 0 (5:Int),U=U,O=O,U1 (X9 m r v),WE f=WE f,er=er,U1 (K1 N bf)] (leaf (RV.x (.bool (insB (0:Int) U O (1000:Int)))))) VX ?_
 exact YZ
end
def Qj0(m:Nat)(r v:Nat->Int):Prop:=m<=1000/\(∀j,j<m->0<=r j/\r j<=2/\ -1000<=v j/\v j<=2000)/\ ∀j k,j<k->k<m->r j≠r k
section
variable (N:Nat)(U O:Nat->Int)(m:Nat->Nat)(g:Nat->Nat->List AV)
abbrev bgs:AV:= .lst 3 N (λk=>[i (U k),i (O k),.lst 2 (m k) (g k)])
def Qp1:Prop:= ∀k,k<N->UG 2 (m k) (g k)/\Qj0 (m k) (col 0 (g k)) (col 1 (g k))/\insB 0 (U k) (O k) 1000=true
end
def vB(N:Nat)(bf:Nat->List AV):Prop:=N<=6/\ ∃(U O:Nat->Int) (m:Nat->Nat) (g:Nat->Nat->List AV),(∀k,k<N->bf k=[i (U k),i (O k),.lst 2 (m k) (g k)])/\Qp1 N U O m g
def Qe5:G0
 |[.agg [.lst 2 3 f,.x (.int .i64 er),.lst 3 N bf],.agg [.x (.int .i64 U),.x (.int .i64 O),.lst 2 m g]]=>some ([UG 2 m g,Qj0 m (col 0 g) (col 1 g),insB 0 U O 1000=true],bl true)
 |_=>none
theorem Wq8:VS VQ 124 Qe5:=by
 refine ⟨(UJ Tryz.func124),?_⟩;intro avs ns res h hn;unfold Qe5 at h;split at h
 ·cases h;have hr:_:=hn _ (GI);have hr1:_:=hn _ (HP _ (GI));have hr2:_:=hn _ (HP _ (HP _ (GI)));exact (Wq9 _ _ _ _ _ _ _ (col 0 _) (col 1 _) hr1.1 hr1.2.1 hr1.2.2 hr2).same (.cons (.refl _) (.cons (LW.same (.cons (.refl _) (.cons (.refl _) (.cons (.lst 2 _ _ _ hr) .nil)))) .nil))
 ·cases h
def lJ:G0
 |[.agg [.x (.int .i64 U),.x (.int .i64 O),.lst 2 m g],.ro [.fn (.func 124) [.agg [.lst 2 3 f,.x (.int .i64 er),.lst 3 N bf]] []]]=>some ([UG 2 m g,Qj0 m (col 0 g) (col 1 g),insB 0 U O 1000=true],bl false)
 |_=>none
theorem Qp7(U O:Int)(m:Nat)(g:Nat->List AV)(f:Nat->List AV)(er:Int)(N:Nat)(bf:Nat->List AV)(VV:UG 2 m g)(UI:Qj0 m (col 0 g) (col 1 g))(HR:insB 0 U O 1000=true):VZ VQ 165 [.agg [i U,i O,.lst 2 m g],.ro [.fn (.func 124) [.agg [.lst 2 3 f,i er,.lst 3 N bf]] []]] (bl false):=by
 refine U4 (L:=[]) (Ae Wq8 Aa) U0 Tryz.func165 (UV Tryz.f165) U7 (t:=need [UG 2 m g,Qj0 m (col 0 g) (col 1 g),insB (0:Int) U O (1000:Int)=true] (leaf (RV.x (.bool !true)))) VX ?_;exact YZ
theorem O8:VS VQ 165 lJ:=by
 refine ⟨(UJ Tryz.func165),?_⟩;intro avs ns res h hn;unfold lJ at h;split at h
 ·cases h;exact Qp7 _ _ _ _ _ _ _ _ (hn _ VW) (hn _ VW) (hn _ VW)
 ·cases h
abbrev XK(f:Nat->List AV)(er:Int)(N1:Nat)(bf:Nat->List AV):AV:=AV.fn (Fn.func 165) [] [AV.ro [AV.fn (Fn.func 124) [agg [WE f,iI er,lst 3 N1 λa=>bf a]] []]]
section
variable (N:Nat)
abbrev J3(U:Nat->Int)(O:Nat->Int)(m:Nat->Nat)(g:Nat->Nat->List AV):AV:=lst 3 N λk=>[iI (U k),iI (O k),lst 2 (m k) λa=>g k a]
def aI(U O:Nat->Int)(m:Nat->Nat)(g:Nat->Nat->List AV)(f:Nat->List AV)(er:Int)(N1:Nat)(bf:Nat->List AV):St:={σ:=[J3 N U O m g,XK f er N1 bf]++HK 5 [iI (N:Int)]++HK 11 [],m:=[],nx:=4}
noncomputable def Qh5:Code:=UC (VU (UA Tryz.f198) 0)
def NI(U O:Nat->Int)(m:Nat->Nat)(g:Nat->Nat->List AV)(f:Nat->List AV)(er:Int)(N1:Nat)(bf:Nat->List AV)(k:Nat):St:=(upM [(8,i k)] (aI N U O m g f er N1 bf))
def x7(U O:Nat->Int)(m:Nat->Nat)(g:Nat->Nat->List AV)(f:Nat->List AV)(er:Int)(N1:Nat)(bf:Nat->List AV)(k:Nat):GB->Option St
 | .exit 0=>some (upM [] (aI N U O m g f er N1 bf))
 |_=>none
def Qc7(U O:Nat->Int)(m:Nat->Nat)(g:Nat->Nat->List AV)(f:Nat->List AV)(er:Int)(N1:Nat)(bf:Nat->List AV):CT:= .leaf (.exit 0,(x7 N U O m g f er N1 bf 0 (.exit 0)).getD (aI N U O m g f er N1 bf))
def lT(U O:Nat->Int)(m:Nat->Nat)(g:Nat->Nat->List AV)(f:Nat->List AV)(er:Int)(N1:Nat)(bf:Nat->List AV):UL:=(HM (NI N U O m g f er N1 bf (0)) (Qc7 N U O m g f er N1 bf))
end
theorem VH{p:Prop}(h:p:=by
 (with_reducible repeat' first|apply Al|intro _)
 all_goals first|exact Ak|(rename_i E hE;cases hE;exact hQ)|omega|rfl|assumption):p:=h
section
variable (N:Nat)(U O:Nat->Int)(m:Nat->Nat)(g:Nat->Nat->List AV)(f:Nat->List AV)(er:Int)(N1:Nat)(bf:Nat->List AV)
theorem Qr7(VV:N<=6)(UI:Qp1 N U O m g):GD VQ (.loop Qh5) (lT N U O m g f er N1 bf):=by
 refine HT (L:=[]) (Ae O8 Aa) U0 U7 (X:=Nat) (NI N U O m g f er N1 bf) (λk=>k<=N) (λk=>N-k) (x7 N U O m g f er N1 bf) (x0:=0) VW ?_ ?_ ?_
 ·rintro k;kernel_rfl
 ·rintro k y E h;unfold x7 at h;split at h
  ·cases h;kernel_rfl
  ·cases h
 ·rintro Q hQ k hx;refine ⟨(k+1),?_⟩;(with_reducible refine DU (t:=branch (decide ((k:Int)<(N:Int))) (need [UN k N] (need [UG 2 (m k) λa=>g k a,Qj0 (m k) (col 0 λa=>g k a) (col 1 λa=>g k a),insB (0:Int) (U k) (O k) (1000:Int)=true] (branch false VO.fail (need [VN ((k:Int)+1)] (need [U1 (J3 N U O m g),U1 (XK f er N1 bf),U1 (N:Int),(k:Int)+1=(↑(k+1):Int)] (leaf GB.normal)))))) (need [U1 (J3 N U O m g),U1 (XK f er N1 bf),U1 (N:Int)] (leaf (GB.exit 0)))) VX ?_)
  simp only [Qc7,x7,VO.sat,GX] at hQ;simp only [VO.sat,UE,UK,HG,VN,x7,FF]
  refine ⟨λh=>?_,λh=>?_⟩
  ·have hk:k<N:=VL;obtain ⟨h1,h2,h3⟩:=UI k hk;all_goals exact V6
  ·obtain rfl:k=N:=VL;exact VH
abbrev JO:Value:=Value.int IntKind.i64 (-1:Int)
theorem Xh3(VV:N<=6)(UI:Qp1 N U O m g):VZ VQ 198 [bgs N U O m g,.fn (.func 165) [] [.ro [.fn (.func 124) [.agg [.lst 2 3 f,i er,.lst 3 N1 bf]] []]]] (i (-1)):=by
 refine U4 (L:=[lT N U O m g f er N1 bf]) (Ae O8 Aa) U0 Tryz.func198 (UV Tryz.f198) (GA (lpE (b:= .loop Qh5) VX<|Qr7 N U O m g f er N1 bf VV UI)) (t:=need [U1 (J3 N U O m g),U1 (XK f er N1 bf),U1 (N:Int),(0:Int)=(↑(0:Nat):Int)] (leaf (RV.x (JO)))) VX ?_
 exact YZ
end
def Wt3:G0
 |[.lst 3 N b,.fn (.func 165) [] [.ro [.fn (.func 124) [.agg [.lst 2 3 f,.x (.int .i64 er),.lst 3 N1 bf]] []]]]=>some ([vB N b],i (-1))
 |_=>none
theorem Xh2:VS VQ 198 Wt3:=by
 refine ⟨(UJ Tryz.func198),?_⟩;intro avs ns res h hn;unfold Wt3 at h;split at h
 ·cases h;obtain ⟨h0,U,O,m,g,he,hb⟩:vB _ _:=hn _ GI;exact (Xh3 _ U O m g _ _ _ _ h0 hb).same (.cons (.lst 3 _ _ _ he) (.cons (.refl _) .nil))
 ·cases h
theorem Qv8{N:Nat}{U O:Nat->Int}{m:Nat->Nat}{g:Nat->Nat->List AV}(h0:N<=6)(hb:Qp1 N U O m g):vB N (λk=>[i (U k),i (O k),.lst 2 (m k) (g k)]):=⟨h0,U,O,m,g,λ_ _=>rfl,hb⟩
theorem Xi2(N:Nat)(U O:Nat->Int)(m:Nat->Nat)(g:Nat->Nat->List AV)(f:Nat->List AV)(er:Int)(N1:Nat)(bf:Nat->List AV)(VV:N<=6)(UI:Qp1 N U O m g):VZ VQ 164 [bgs N U O m g,.fn (.func 165) [] [.ro [.fn (.func 124) [.agg [.lst 2 3 f,i er,.lst 3 N1 bf]] []]]] (bl false):=by
 refine U4 (L:=[]) (Ae Xh2 Aa) U0 Tryz.func164 (UV Tryz.f164) U7 (t:=need [vB N λk=>[i (U k),i (O k),lst 2 (m k) (g k)]] (leaf (RV.x (.bool (decide ((-1:Int)>=(0:Int))))))) VX ?_
 simp only [VO.sat,UE,G5,GL,UH,UK,FF];exact ⟨Qv8 VV UI,rfl⟩
def Wt7:G0
 |[.lst 3 N b,.fn (.func 165) [] [.ro [.fn (.func 124) [.agg [.lst 2 3 f,.x (.int .i64 er),.lst 3 N1 bf]] []]]]=>some ([vB N b],bl false)
 |_=>none
theorem Xi1:VS VQ 164 Wt7:=by
 refine ⟨(UJ Tryz.func164),?_⟩;intro avs ns res h hn;unfold Wt7 at h;split at h
 ·cases h;obtain ⟨h0,U,O,m,g,he,hb⟩:vB _ _:=hn _ GI;exact (Xi2 _ U O m g _ _ _ _ h0 hb).same (.cons (.lst 3 _ _ _ he) (.cons (.refl _) .nil))
 ·cases h
theorem Wr3(N:Nat)(U O:Nat->Int)(m:Nat->Nat)(g:Nat->Nat->List AV)(f:Nat->List AV)(er:Int)(N1:Nat)(bf:Nat->List AV)(VV:N<=6)(UI:Qp1 N U O m g):VZ VQ 123 [bgs N U O m g,.fn (.func 124) [.agg [.lst 2 3 f,i er,.lst 3 N1 bf]] []] (bl true):=by
 refine U4 (L:=[]) (Ae Xi1 Aa) U0 Tryz.func123 (UV Tryz.f123) U7 (t:=need [vB N λk=>[i (U k),i (O k),lst 2 (m k) (g k)]] (leaf (RV.x (.bool !false)))) VX ?_
 simp only [VO.sat,UE,G5,GL,UH,UK,FF];exact ⟨Qv8 VV UI,rfl⟩
def Qe7:G0
 |[.lst 3 N b,.fn (.func 124) [.agg [.lst 2 3 f,.x (.int .i64 er),.lst 3 N1 bf]] []]=>some ([vB N b],bl true)
 |_=>none
theorem Wr2:VS VQ 123 Qe7:=by
 refine ⟨(UJ Tryz.func123),?_⟩;intro avs ns res h hn;unfold Qe7 at h;split at h
 ·cases h;obtain ⟨h0,U,O,m,g,he,hb⟩:vB _ _:=hn _ GI;exact (Wr3 _ U O m g _ _ _ _ h0 hb).same (.cons (.lst 3 _ _ _ he) (.cons (.refl _) .nil))
 ·cases h
def oL(k:Nat):Int:=if k=0 then 0 else -9
def oH(k:Nat):Int:=if k=0 then 0 else 9
def ofB(f:Nat->List AV):Prop:= ∀k,k<3->f k=[i (oL k),i (oH k)]
abbrev ofs:AV:= .lst 2 3 (λk=>[i (oL k),i (oH k)])
def HC(m:Nat->Nat):Nat->Nat
 | 0=>0
 |b+1=>HC m b+m b
def GF(m:Nat->Nat):Nat->Nat->Nat×Nat
 | 0,q=>(0,q)
 |N+1,q=>if q<HC m N then GF m N q else (N,q-HC m N)
def Qz4(m:Nat->Nat)(N:Nat)(r v:Nat->Nat->Int)(q:Nat):List Value:=
 [.agg #[.int .i64 (GF m N q).1,.int .i64 (GF m N q).2],.agg #[.int .i64 (r (GF m N q).1 (GF m N q).2),.int .i64 (v (GF m N q).1 (GF m N q).2)]]
abbrev bds(N:Nat)(U O:Nat->Int)(m:Nat->Nat)(r v:Nat->Nat->Int):AV:= .lst 3 N (λk=>[i (U k),i (O k),bts (m k) (r k) (v k)])
theorem TQ{P:Program}{ro:Option Nat}{cx:Cx}{c:Code}{t:Nat}{F:Nat->UL}(h: ∀k,HH P ro cx c (F k)):HH P ro cx c (BG t F):=by
 intro n s tr ht Q hQ a w r;unfold BG at ht;split at ht
 ·exact h _ n s tr ht Q hQ a w r
 ·cases ht
theorem N6(m:Nat->Nat){b c:Nat}(h:b<=c):HC m b<=HC m c:=by
 induction h with
 |refl=>exact Am _
 |step _ ih=>exact Ar ih (Nat.le_add_right _ _)
theorem tI(m:Nat->Nat): ∀(N b n:Nat),b<N->n<m b->GF m N (HC m b+n)=(b,n)
 | 0,_,_,h,_=>VL
 |N+1,b,n,h,hn=>by
  unfold GF;rcases (show b<N\/b=N by omega) with hb|rfl
  ·have:=N6 m (show b+1<=N by omega)
   simp only [HC] at this;rw [if_pos VL,tI m N b n hb hn]
  ·rw [if_neg VL];simp
theorem T6(m:Nat->Nat): ∀(N q:Nat),q<HC m N->(GF m N q).1<N/\(GF m N q).2<m (GF m N q).1
 | 0,_,h=>by simp [HC] at h
 |N+1,q,h=>by
  simp only [HC] at h;unfold GF;split
  ·rename_i hq;obtain ⟨h1,h2⟩:=T6 m N q hq;exact ⟨VL,h2⟩
  ·exact ⟨VW,by simp;omega⟩
def lI:G0
 |[.agg [.x (.int .i64 a),.x (.int .i64 b)],.ro [.fn (.func 121) [] []]]=>some ([],bl (!insB (-100) a b 100))
 |_=>none
theorem Qp6(a b:Int):VZ VQ 162 [.agg [i a,i b],.ro [.fn (.func 121) [] []]] (bl (!insB (-100) a b 100)):=by
 refine U4 (L:=[]) (Ae pE Aa) U0 Tryz.func162 (UV Tryz.f162) U7 (t:=leaf (RV.x (.bool !insB (-100:Int) a b (100:Int)))) VX ?_;exact YZ
theorem O7:VS VQ 162 lI:=by
 refine ⟨(UJ Tryz.func162),?_⟩;intro avs ns res h hn;unfold lI at h;split at h
 ·cases h;exact Qp6 _ _
 ·cases h
abbrev ZD:AV:=AV.fn (Fn.func 162) [] [AV.ro [AV.fn (Fn.func 121) [] []]]
def aH:St:={σ:=[lst 2 3 λk=>[iI (oL k),iI (oH k)],ZD]++HK 5 [iI (↑(3:Nat):Int)]++HK 11 [],m:=[],nx:=4}
noncomputable def Qh4:Code:=UC (VU (UA Tryz.f197) 0)
def NH(k:Nat):St:=(upM [(8,i k)] (aH))
def x6(k:Nat):GB->Option St
 | .exit 0=>some (upM [] (aH))
 |_=>none
def Qc6:CT:= .leaf (.exit 0,(x6 0 (.exit 0)).getD (aH))
def lR:UL:=(HM (NH (0)) (Qc6))
theorem Qr6:GD VQ (.loop Qh4) (lR):=by
 refine HT (L:=[]) (Ae O7 Aa) U0 U7 (X:=Nat) (NH) (λk=>k<=3) (λk=>3-k) (x6) (x0:=0) VW ?_ ?_ ?_
 ·rintro k;kernel_rfl
 ·rintro k y E h;unfold x6 at h;split at h
  ·cases h;kernel_rfl
  ·cases h
 ·rintro Q hQ k hx;refine ⟨(k+1),?_⟩;(with_reducible refine DU (t:=branch (decide ((k:Int)<(↑(3:Nat):Int))) (need [UN k 3] (branch (!insB (-100:Int) (oL k) (oH k) (100:Int)) VO.fail (need [VN ((k:Int)+1)] (need [U1 (lst 2 3 λk=>[iI (oL k),iI (oH k)]),ZD=ZD,U1 (↑(3:Nat):Int),(k:Int)+1=(↑(k+1):Int)] (leaf GB.normal))))) (need [U1 (lst 2 3 λk=>[iI (oL k),iI (oH k)]),ZD=ZD,U1 (↑(3:Nat):Int)] (leaf (GB.exit 0)))) VX ?_)
  simp only [Qc6,x6,VO.sat,GX] at hQ;simp only [VO.sat,UE,UK,HG,VN,x6,FF]
  refine ⟨λh=>?_,λh=>?_⟩
  ·have hk:k<3:=VL;rcases (show k=0\/k=1\/k=2 by omega) with rfl|rfl|rfl<;>simp [oL,oH,insB,Bo.insB]
   all_goals exact V6
  ·obtain rfl:k=3:=VL;exact VH
theorem Xh1:VZ VQ 197 [ofs,.fn (.func 162) [] [.ro [.fn (.func 121) [] []]]] (i (-1)):=by
 refine U4 (L:=[lR]) (Ae O7 Aa) U0 Tryz.func197 (UV Tryz.f197) (GA (lpE (b:= .loop Qh4) VX<|Qr6)) (t:=need [U1 (lst 2 3 λk=>[iI (oL k),iI (oH k)]),ZD=ZD,U1 (↑(3:Nat):Int),(0:Int)=(↑(0:Nat):Int)] (leaf (RV.x (JO)))) VX ?_
 exact YZ
def Wt2:G0
 |[.lst 2 3 f,.fn (.func 162) [] [.ro [.fn (.func 121) [] []]]]=>some ([ofB f],i (-1))
 |_=>none
theorem Xh0:VS VQ 197 Wt2:=by
 refine ⟨(UJ Tryz.func197),?_⟩;intro avs ns res h hn;unfold Wt2 at h;split at h
 ·cases h;have hr:_:=hn _ (GI);exact (Xh1).same (.cons (.lst 2 3 _ _ hr) (.cons (.refl _) .nil))
 ·cases h
theorem Xi0:VZ VQ 161 [ofs,.fn (.func 162) [] [.ro [.fn (.func 121) [] []]]] (bl false):=by
 refine U4 (L:=[]) (Ae Xh0 Aa) U0 Tryz.func161 (UV Tryz.f161) U7 (t:=need [ofB λk=>[i (oL k),i (oH k)]] (leaf (RV.x (.bool (decide ((-1:Int)>=(0:Int))))))) VX ?_
 simp only [VO.sat,UE,G5,GL,UH,UK,FF];exact ⟨λ_ _=>rfl,rfl⟩
def Wt6:G0
 |[.lst 2 3 f,.fn (.func 162) [] [.ro [.fn (.func 121) [] []]]]=>some ([ofB f],bl false)
 |_=>none
theorem Xh9:VS VQ 161 Wt6:=by
 refine ⟨(UJ Tryz.func161),?_⟩;intro avs ns res h hn;unfold Wt6 at h;split at h
 ·cases h;have hr:_:=hn _ (GI);exact (Xi0).same (.cons (.lst 2 3 _ _ hr) (.cons (.refl _) .nil))
 ·cases h
theorem Wr1:VZ VQ 120 [ofs,.fn (.func 121) [] []] (bl true):=by
 refine U4 (L:=[]) (Ae Xh9 Aa) U0 Tryz.func120 (UV Tryz.f120) U7 (t:=need [ofB λk=>[i (oL k),i (oH k)]] (leaf (RV.x (.bool !false)))) VX ?_
 simp only [VO.sat,UE,G5,GL,UH,UK,FF];exact ⟨λ_ _=>rfl,rfl⟩
def Qe6:G0
 |[.lst 2 3 f,.fn (.func 121) [] []]=>some ([ofB f],bl true)
 |_=>none
theorem Wr0:VS VQ 120 Qe6:=by
 refine ⟨(UJ Tryz.func120),?_⟩;intro avs ns res h hn;unfold Qe6 at h;split at h
 ·cases h;have hr:_:=hn _ (GI);exact (Wr1).same (.cons (.lst 2 3 _ _ hr) (.cons (.refl _) .nil))
 ·cases h
def lK:G0
 |[.agg [.lst 2 3 f,.x (.int .i64 1),.lst 3 N bf]]=>some ([ofB f,vB N bf],i 0)
 |_=>none
abbrev X0:Value:=Value.int IntKind.i64 (0:Int)
abbrev JU:Value:=Value.int IntKind.i64 (1:Int)
abbrev KI:Value:=Value.int IntKind.i64 (3:Int)
theorem Qp9(f:Nat->List AV)(N:Nat)(bf:Nat->List AV)(VV:ofB f)(UI:vB N bf):VZ VQ 78 [.agg [.lst 2 3 f,i 1,.lst 3 N bf]] (i 0):=by
 refine U4 (L:=[]) (Ae Wr0 (Ae Wr2 (Ae zO Aa))) U0 Tryz.func78 (UV Tryz.f78) U7 (t:=branch (decide ((↑(3:Nat):Int)>6)) (leaf (RV.x (KI))) (branch (decide ((N:Int)>6)) (leaf (RV.x (KI))) (branch ((↑(3:Nat):Int)==0) (leaf (RV.x (JU))) (need [ofB f] (branch (!true) (leaf (RV.x (JU))) (branch (!bt (0:Int) (1:Int) (20:Int)) (leaf (RV.x (JU))) (need [vB N bf] (branch (!true) (leaf (RV.x (JU))) (leaf (RV.x (X0))))))))))) VX ?_;simp only [VO.sat,UE,G5,GL,UH,UK,FF];have h6:=UI.1;simp [bt,Bo.bt,VV,UI];omega
theorem Qp8:VS VQ 78 lK:=by
 refine ⟨(UJ Tryz.func78),?_⟩;intro avs ns res h hn;unfold lK at h;split at h
 ·cases h;exact Qp9 _ _ _ (hn _ VW) (hn _ VW)
 ·cases h
def IO:G0
 |[.agg [.lst 2 3 f,.x (.int .i64 er),.lst 3 N bf]]=>some ([],.fn (.func 168) [] [.ro [.lst 2 3 f,i er,.lst 3 N bf]])
 |_=>none
abbrev WH:Ext:={}
theorem Qp2(f:Nat->List AV)(er:Int)(N:Nat)(bf:Nat->List AV):FO VQ 125 [.agg [.lst 2 3 f,i er,.lst 3 N bf]] (.fn (.func 168) [] [.ro [.lst 2 3 f,i er,.lst 3 N bf]]):=by
 refine D2 (L:=[]) Aa Ad U0 Tryz.func125 (UV Tryz.f125) G4 (t:=leaf (AV.fn (Fn.func 168) [] [AV.ro [WE f,iI er,K1 N bf]])) VX ?_;exact rfl
theorem I7:PI VQ 125 IO:=by
 refine ⟨(UJ Tryz.func125),?_⟩;intro avs ns res h hn;unfold IO at h;split at h
 ·cases h;exact Qp2 _ _ _ _
 ·cases h
abbrev Q1(N:Nat)(U:Nat->Int)(O:Nat->Int)(m:Nat->Nat)(r:Nat->Nat->Int)(v:Nat->Nat->Int):AV:=lst 3 N λk=>[iI (U k),iI (O k),lst 2 (m k) λj=>[iI (r k j),iI (v k j)]]
section
variable (l:Nat)(f:Nat->List AV)(er:Int)(N:Nat)(U O:Nat->Int)(m:Nat->Nat)(r v:Nat->Nat->Int)
def m9:St:={σ:=[AV.fn (Fn.yield l) [] [],AV.ro [WE f,iI er,Q1 N U O m r v]]++HK 6 [Q1 N U O m r v,iI (N:Int)]++HK 22 [],m:=[],nx:=4,gh:=some 0}
noncomputable def mB:Code:=UC (VU (UA Tryz.f168) 0)
def rU(b:Nat):St:={σ:=H6 [(3,.top),(4,.top),(5,.top),(6,.top),(10,i b)] (m9 l f er N U O m r v).σ,m:=[],nx:=0,gh:=some (HC m b) }
def qT(b:Nat):GB->Option St
 | .exit 0=>some {σ:=H6 [(3,.top),(4,.top),(5,.top),(6,.top),(10,i N)] (m9 l f er N U O m r v).σ,m:=[],nx:=0,gh:=some (HC m N) }
 | .ret=>some {σ:=H6 [(3,.top),(4,.top),(5,.top),(6,.top)] (m9 l f er N U O m r v).σ,m:=[],nx:=0,gh:=none}
 |_=>none
def Xp6:CT:= .may True (.leaf (.exit 0,(qT l f er N U O m r v 0 (.exit 0)).getD (m9 l f er N U O m r v))) (.leaf (.ret,(qT l f er N U O m r v 0 .ret).getD (m9 l f er N U O m r v)))
def Ww0:UL:=GN [] (HM (rU l f er N U O m r v (0)) (Xp6 l f er N U O m r v))
end
abbrev JS(m:Nat->Nat)(b:Nat)(r:Nat->Nat->Int)(v:Nat->Nat->Int):AV:=lst 2 (m b) λj=>[iI (r b j),iI (v b j)]
section
variable (l:Nat)(f:Nat->List AV)(er:Int)(N:Nat)(U O:Nat->Int)(m:Nat->Nat)(r v:Nat->Nat->Int)(b:Nat)
def mA:St:={σ:=[AV.fn (Fn.yield l) [] [],AV.ro [WE f,iI er,Q1 N U O m r v],top,iI (b:Int),ptr 4 0,top,top,top,Q1 N U O m r v,iI (N:Int),iI (b:Int)]++HK 5 [JS m b r v,iI (↑(m b):Int)]++HK 14 [],m:=[(4,GQ.cells 148 [iI (U b),iI (O b),JS m b r v])],nx:=11,gh:=some (HC m b) }
noncomputable def Wy5:Code:=UC (VU mB 0)
def rV(n:Nat):St:={σ:=H6 [(4,.top),(5,.top),(6,.top),(18,i n)] (mA l f er N U O m r v b).σ,m:=[],nx:=0,gh:=some (HC m b+n) }
def qU(n:Nat):GB->Option St
 | .exit 2=>some {σ:=H6 [(3,.top),(4,.top),(5,.top),(6,.top),(18,i (m b))] (mA l f er N U O m r v b).σ,m:=[],nx:=0,gh:=some (HC m (b+1)) }
 | .ret=>some {σ:=H6 [(3,.top),(4,.top),(5,.top),(6,.top)] (mA l f er N U O m r v b).σ,m:=[],nx:=0,gh:=none}
 |_=>none
def Xp7:CT:= .may True (.leaf (.exit 2,(qU l f er N U O m r v b 0 (.exit 2)).getD (mA l f er N U O m r v b))) (.leaf (.ret,(qU l f er N U O m r v b 0 .ret).getD (mA l f er N U O m r v b)))
def pX:UL:=GN [] (HM (rV l f er N U O m r v b (0)) (Xp7 l f er N U O m r v b))
end
abbrev WS(N:Nat)(U:Nat->Int)(O:Nat->Int)(m:Nat->Nat)(r:Nat->Nat->Int)(v:Nat->Nat->Int):Prop:=(Q1 N U O m r v)=Q1 N U O m r v
abbrev XG(l:Nat):Prop:=AV.fn (Fn.yield l) [] []=AV.fn (Fn.yield l) [] []
abbrev ZZ(f:Nat->List AV)(er:Int)(N:Nat)(U:Nat->Int)(O:Nat->Int)(m:Nat->Nat)(r:Nat->Nat->Int)(v:Nat->Nat->Int):Prop:=AV.ro [WE f,iI er,Q1 N U O m r v]=AV.ro [WE f,iI er,Q1 N U O m r v]
section
variable (l:Nat)(f:Nat->List AV)(er:Int)(N:Nat)(U O:Nat->Int)(m:Nat->Nat)(r v:Nat->Nat->Int)
theorem Zc5(b:Nat)(VV:N<=1000)(UI: ∀b,b<N->m b<=1000)(HR:b<N){cx:Cx}(hX:VY VQ {Y:=some (l,(HC m N),(Qz4 m N r v)) } cx):HH VQ none cx (.loop Wy5) (pX l f er N U O m r v b):=by
 refine FI [] (L:=[]) Aa hX U0 G4 (V:=Nat) (rV l f er N U O m r v b) (λn=>n<=m b) (λn=>m b-n) (qU l f er N U O m r v b) (x0:=0) VW ?_ ?_ ?_
 ·rintro n;kernel_rfl
 ·rintro n y E h;unfold qU at h;split at h
  ·cases h;kernel_rfl
  ·cases h;kernel_rfl
  ·cases h
 ·rintro Q hQ n hx;refine ⟨(n+1),?_⟩;have e:HX VQ [] {Y:=some (l,(HC m N),(Qz4 m N r v)) } [] [] Wy5 (rV l f er N U O m r v b n) (rV l f er N U O m r v b ((n+1))) (qU l f er N U O m r v b n)=(let W:=(GF m N (HC m b+n));(branch (decide ((n:Int)<(↑(m b):Int))) (need [UN n (↑(m b):Int)] (need [l=l,HC m b+n<HC m N,[Value.agg {toList:=[Value.int IntKind.i64 (b:Int),Value.int IntKind.i64 (n:Int)] },Value.agg {toList:=[Value.int IntKind.i64 (r b n),Value.int IntKind.i64 (v b n)] }]=[Value.agg {toList:=[Value.int IntKind.i64 (↑(Prod.fst W):Int),Value.int IntKind.i64 (↑(Prod.snd W):Int)] },Value.agg {toList:=[Value.int IntKind.i64 (r (Prod.fst W) (Prod.snd W)),Value.int IntKind.i64 (v (Prod.fst W) (Prod.snd W))] }]] (VO.may True (need [VN ((n:Int)+1)] (need [XG l,ZZ f er N U O m r v,U1 (b:Int),WS N U O m r v,U1 (N:Int),U1 (b:Int),U1 (JS m b r v),U1 (↑(m b):Int),(n:Int)+1=(↑(n+1):Int),HC m b+n+1=HC m b+(n+1)] (leaf GB.normal))) (need [XG l,ZZ f er N U O m r v,WS N U O m r v,U1 (N:Int),U1 (b:Int),U1 (JS m b r v),U1 (↑(m b):Int)] (leaf GB.ret))))) (need [XG l,ZZ f er N U O m r v,WS N U O m r v,U1 (N:Int),U1 (b:Int),U1 (JS m b r v),U1 (↑(m b):Int),(n:Int)=(↑(m b):Int),HC m b+n=HC m (b+1)] (leaf (GB.exit 2))))):=VX;rw [e];simp only [Xp7,qU,VO.sat,GX] at hQ;have hQ1: ∀E,qU l f er N U O m r v b n (.exit 2)=some E->Q (.exit 2,E):=λE hE=>by cases hE;exact hQ.1 trivial
  have hQ2: ∀E,qU l f er N U O m r v b n .ret=some E->Q (.ret,E):=λE hE=>by cases hE;exact hQ.2
  simp only [VO.sat,UE,UK,HG,VN,FF];clear e hQ;have h3:=UI b HR;refine ⟨λh=>?_,λh=>?_⟩
  ·have hk:n<m b:=VL;have h1:=N6 m (show b+1<=N by omega)
   simp only [HC] at h1;rw [tI m N b n HR hk];all_goals exact V6
  ·obtain rfl:n=m b:=VL;all_goals exact V6
theorem Zc4(VV:N<=1000)(UI: ∀b,b<N->m b<=1000){cx:Cx}(hX:VY VQ {Y:=some (l,(HC m N),(Qz4 m N r v)) } cx):HH VQ none cx (.loop mB) (Ww0 l f er N U O m r v):=by
 refine FI [] (L:=[BG 10 (λb=>RO [b<N] (pX l f er N U O m r v b))]) Aa hX U0 (GA (λcj hcj=>by
  have e:VU mB 0=some (.loop Wy5):=VX;rw [e] at hcj;cases hcj;exact TQ (λb=>wJ (λh=>Zc5 l f er N U O m r v b VV UI h hX)))) (V:=Nat) (rU l f er N U O m r v) (λb=>b<=N) (λb=>N-b) (qT l f er N U O m r v) (x0:=0) VW ?_ ?_ ?_
 ·rintro b;kernel_rfl
 ·rintro b y E h;unfold qT at h;split at h
  ·cases h;kernel_rfl
  ·cases h;kernel_rfl
  ·cases h
 ·rintro Q hQ b hx;refine ⟨(b+1),?_⟩;have e:HX VQ [] {Y:=some (l,(HC m N),(Qz4 m N r v)) } [BG 10 (λb=>RO [b<N] (pX l f er N U O m r v b))] [] mB (rU l f er N U O m r v b) (rU l f er N U O m r v ((b+1))) (qT l f er N U O m r v b)=(let W:=ZZ f er N U O m r v;(branch (decide ((b:Int)<(N:Int))) (need [UN b N] (need [b<N] (need [XG l,W,U1 (b:Int),WS N U O m r v,U1 (N:Int),U1 (b:Int),U1 (lst 2 (m b) λj=>[iI (r b j),iI (v b j)]),U1 (↑(m b):Int),(0:Int)=(↑(0:Nat):Int),HC m b=HC m b+0] (VO.may True (need [VN ((b:Int)+1)] (need [XG l,W,WS N U O m r v,U1 (N:Int),(b:Int)+1=(↑(b+1):Int),U1 (HC m (b+1))] (leaf GB.normal))) (need [XG l,W,WS N U O m r v,U1 (N:Int)] (leaf GB.ret)))))) (need [XG l,W,WS N U O m r v,U1 (N:Int),(b:Int)=(N:Int),HC m b=HC m N] (leaf (GB.exit 0))))):=VX
  rw [e];simp only [Xp6,qT,VO.sat,GX] at hQ;have hQ1: ∀E,qT l f er N U O m r v b (.exit 0)=some E->Q (.exit 0,E):=λE hE=>by cases hE;exact hQ.1 trivial
  have hQ2: ∀E,qT l f er N U O m r v b .ret=some E->Q (.ret,E):=λE hE=>by cases hE;exact hQ.2
  simp only [VO.sat,UE,UK,HG,VN,FF];clear e hQ;refine ⟨λh=>?_,λh=>?_⟩
  ·have h3:=UI b VL;all_goals exact V6
  ·obtain rfl:b=N:=VL;all_goals exact V6
end
theorem iT(f:Nat->List AV)(er:Int)(N:Nat)(U O:Nat->Int)(m:Nat->Nat)(r v:Nat->Nat->Int)(VV:N<=1000)(UI: ∀b,b<N->m b<=1000):B8 Tryz.prog 168 [.ro [.lst 2 3 f,i er,bds N U O m r v]] ((HC m N)) (Qz4 m N r v):=by
 refine BJ (L:=λl=>[Ww0 l f er N U O m r v]) Aa U0 (UJ Tryz.func168) Tryz.func168 (UV Tryz.f168) VX (λl cx hX=>GA (lpE (b:= .loop mB) VX<|Zc4 l f er N U O m r v VV UI hX)) (t:=λl=>(need [U1 (AV.fn (Fn.yield l) [] []),ZZ f er N U O m r v,WS N U O m r v,U1 (N:Int),(0:Int)=(↑(0:Nat):Int),0=HC m 0] (VO.may True (need [U1 (HC m N)] (leaf PUnit.unit)) (leaf PUnit.unit)))) (λl=>VX) ?_
 intro l;simp only [VO.sat,UE,G5,GL,UH,VN,UK,HG,RX];all_goals exact V6
def plF(m:Nat->Nat)(N:Nat)(q:Nat):List AV:=[i (GF m N q).1,i (GF m N q).2]
theorem SV(m:Nat->Nat){K:Nat}: ∀(N:Nat),(∀b,b<N->m b<=K)->HC m N<=N*K
 | 0,_=>by simp [HC]
 |N+1,h=>by
  have:=SV m N (λb hb=>h b VL)
  have:=h N VL;simp only [HC,Bq];omega
abbrev QD:AV:=AV.x (.pointer none)
def Jk6(f:Nat->List AV)(er:Int)(N:Nat)(U O:Nat->Int)(m:Nat->Nat)(r v:Nat->Nat->Int):St:={σ:=[agg [WE f,iI er,Q1 N U O m r v],ptr 0 0,QD,ptr 6 0]++HK 6 [AV.fn (Fn.func 168) [] [AV.ro [WE f,iI er,Q1 N U O m r v]]]++HK 13 [],m:=[(901,GQ.row 241 2 0 λx=>[]),(6,GQ.cells 178 [ptr 5 0]),(5,GQ.cells 236 [WE f,iI er,Q1 N U O m r v,AV.row 901,AV.mp 3]),(3,GQ.memo (λx=>False) λv=>v),(0,GQ.cells 59 [WE f,iI er,Q1 N U O m r v])],nx:=902}
def rfF:Option Code->Operand
 |some (.rangeFunc f _ _ _)=>f
 |_=> .const .nilFunc
def jE:Option Code->Array Nat
 |some (.rangeFunc _ ps _ _)=>ps
 |_=>#[]
def S9:Option Code->Code
 |some (.rangeFunc _ _ a _)=>a
 |_=> .skip
def S8:Option Code->Code
 |some (.rangeFunc _ _ _ b)=>b
 |_=> .skip
noncomputable def Jo3:Code:=S9 (VU (UA Tryz.f79) 0)
noncomputable def Jl2:Code:=S8 (VU (UA Tryz.f79) 0)
section
variable (f:Nat->List AV)(er:Int)(N:Nat)(U O:Nat->Int)(m:Nat->Nat)(r v:Nat->Nat->Int)
def nU(k:Nat):St:={σ:=H6 [] (Jk6 f er N U O m r v).σ,m:=[(901,.row 241 2 (k) (plF m N)),(6,.cells 178 [.ptr 5 0]),(5,.cells 236 [.lst 2 3 f,i er,bds N U O m r v,.row 901,.mp 3]),(3,.memo (λ_=>False) (λx=>x)),(0,.cells 59 [.lst 2 3 f,i er,bds N U O m r v])],nx:=902}
def nB(k:Nat):GB->Option St
 | .normal=>some {σ:=H6 [] (Jk6 f er N U O m r v).σ,m:=[(901,.row 241 2 ((HC m N)) (plF m N)),(6,.cells 178 [.ptr 5 0]),(5,.cells 236 [.lst 2 3 f,i er,bds N U O m r v,.row 901,.mp 3]),(3,.memo (λ_=>False) (λx=>x)),(0,.cells 59 [.lst 2 3 f,i er,bds N U O m r v])],nx:=902}
 |_=>none
def T_wr:CT:= .leaf (.normal,nU f er N U O m r v (HC m N))
def Xq8:UL:=GN [(.cell 5 3,901,241,2)] (HM (nU f er N U O m r v (0)) (T_wr f er N U O m r v))
abbrev WG:Prop:=AV.row 901=AV.row 901
abbrev ZM:Prop:=ptr 5 0=ptr 5 0
abbrev YL:Prop:=ptr 6 0=ptr 6 0
abbrev YT:Ext:={R:=[(125,IO)],H:=[] }
theorem Zp6(VV:N<=1000)(UI: ∀b,b<N->m b<=1000):HQ VQ (.rangeFunc (rfF (VU (UA Tryz.f79) 0)) (jE (VU (UA Tryz.f79) 0)) Jo3 Jl2) (Xq8 f er N U O m r v):=by
 refine PA [(.cell 5 3,901,241,2)] (L:=[]) Aa (Ai (Af I7 Ab) Ac) U0 U7 (V:=Nat) (nU f er N U O m r v) (λk=>k<=(HC m N)) (λk=>k) (nB f er N U O m r v) (x0:=0) VW rfl ?_ ?_ ?_ ?_ (g:=168) (caps:=[.ro [.lst 2 3 f,i er,bds N U O m r v]]) VX VX (iT f er N U O m r v VV UI) (λ_=>rfl) ?_
 ·rintro k;kernel_rfl
 ·rintro k y E h;unfold nB at h;split at h
  ·cases h;kernel_rfl
  ·cases h
 ·rintro k;rfl
 ·rintro k y E h;unfold nB at h;split at h
  ·cases h;rfl
  ·cases h
 ·rintro Q hQ k hx;refine ⟨λhlt=>⟨(k+1),rfl,?_⟩,λPS=>?_⟩
  ·(with_reducible refine DU (t:=need [(k+1)*16<=140737488355328,L0 1 (U8 2 [iI (↑(Prod.fst (GF m N k)):Int),iI (↑(Prod.snd (GF m N k)):Int)])] (need [U1 (agg [WE f,iI er,Q1 N U O m r v]),QO,QD=QD,YL,U1 (AV.fn (Fn.func 168) [] [AV.ro [WE f,iI er,Q1 N U O m r v]]),k+1=k+1,GV (k+1) (GJ k (plF m N) (U8 2 [iI (↑(Prod.fst (GF m N k)):Int),iI (↑(Prod.snd (GF m N k)):Int)])) (plF m N),ZM,WE f=WE f,er=er,WS N U O m r v,WG,U1 (AV.mp 3),∀(k:Value),False->False/\k=k,WE f=WE f,er=er,WS N U O m r v] (leaf GB.normal))) VX ?_);have hb:=SV m N UI;have hb2:=BD 1000 VV;simp only [VO.sat,UE,UK]
   (with_reducible repeat' first|apply Al|intro _)
   all_goals first|exact Ak|rfl|omega|exact FD (by assumption) (by simp [AV.one,Value.oneCell'])|exact Zj6 rfl rfl (by assumption)|contradiction
  ·subst PS;exact hQ
end
abbrev Q2(m:Nat->Nat)(N:Nat):AV:=lst 2 (HC m N) λq=>[iI (↑(Prod.fst (GF m N q)):Int),iI (↑(Prod.snd (GF m N q)):Int)]
theorem Wp8(f:Nat->List AV)(er:Int)(N:Nat)(U O:Nat->Int)(m:Nat->Nat)(r v:Nat->Nat->Int)(VV:N<=1000)(UI: ∀b,b<N->m b<=1000):FO VQ 79 [.agg [.lst 2 3 f,i er,bds N U O m r v]] (.ro [.lst 2 3 f,i er,bds N U O m r v,.lst 2 (HC m N) (plF m N),.top]):=by
 refine D2 (L:=[Xq8 f er N U O m r v]) Aa (Ai (Af I7 Ab) Ac) U0 Tryz.func79 (UV Tryz.f79) (GA (lpE (b:= .rangeFunc (rfF (VU (UA Tryz.f79) 0)) (jE (VU (UA Tryz.f79) 0)) Jo3 Jl2) VX<|Zp6 f er N U O m r v VV UI)) (t:=need [U1 (agg [WE f,iI er,Q1 N U O m r v]),QO,QD=QD,YL,U1 (AV.fn (Fn.func 168) [] [AV.ro [WE f,iI er,Q1 N U O m r v]]),0=0,GV 0 (λi=>[]) (plF m N),ZM,WE f=WE f,er=er,WS N U O m r v,WG,U1 (AV.mp 3),∀(k:Value),False->False/\k=k,WE f=WE f,er=er,WS N U O m r v] (leaf (AV.ro [WE f,iI er,Q1 N U O m r v,Q2 m N,top]))) VX ?_
 simp only [VO.sat,UE,G5,GL,UH,VN,UK,HG,RX];all_goals exact V6
noncomputable def Qg8:D0:=rJ Tryz.prog [(128,kF)] {} [] Tryz.f126 (UA Tryz.f126)
theorem RL:GC VQ 126 Qg8:=
 RK (G:=[(128,kF)]) (X:=WH) (L:=[]) (Ae R0 Aa) Ad U0 (UJ Tryz.func126) Tryz.func126 (UV Tryz.f126) U7
def UZ(M:Nat->Nat->Int)(k:Nat):Int:=M (k / 13) (k%13)
def LU(k j:Nat):Nat->Nat->Int:=λx y=>if ((x<k/\y<=12)\/(x=k/\y<j))/\x≠y then 8000 else 0
def spn(M:Nat->Nat->Int)(a b:Nat)(U O:Int):Nat->Nat->Int:=bnd (bnd M a b O) b a (-U)
def ofM:Nat->Nat->Nat->Int
 | 0=>LU 13 0
 |k+1=>spn (ofM k) 0 (1+k) (-oH k) (-oL k)
def btM(U O:Nat->Int):Nat->Nat->Nat->Int
 | 0=>ofM 3
 |k+1=>spn (btM U O k) 0 (7+k) (U k) (O k)
def rdM1(N:Nat)(m:Nat->Nat)(r v:Nat->Nat->Int)(M:Nat->Nat->Int)(q:Nat):Nat->Nat->Int:=
 spn M (1+(r (GF m N q).1 (GF m N q).2).toNat) (7+(GF m N q).1) (v (GF m N q).1 (GF m N q).2-1) (v (GF m N q).1 (GF m N q).2+1)
def rA(N:Nat)(U O:Nat->Int)(m:Nat->Nat)(r v:Nat->Nat->Int):Nat->Nat->Nat->Int
 | 0=>btM U O N
 |q+1=>rdM1 N m r v (rA N U O m r v q) q
def bOK(N:Nat)(U O:Nat->Int)(m:Nat->Nat)(r v:Nat->Nat->Int):Prop:=N<=6/\ ∀b,b<N->m b<=10/\0<=U b/\U b<=O b/\O b<=1000/\ ∀j,j<m b->0<=r b j/\r b j<=2/\ -1000<=v b j/\v b j<=2000
theorem Xg0: ∀k,U9 (List.replicate 169 0) k=UZ (LU 0 0) k:=by
 intro k;rw [gI (by decide)]
 simp [UZ,LU]
theorem kW(M:Nat->Nat->Int){a b q:Nat}(hq:q=a*13+b)(hb:b<13):UZ M q=M a b:=by
 unfold UZ;rw [show q / 13=a by omega,show q%13=b by omega]
theorem dK{M M':Nat->Nat->Int}(h: ∀x y,x<13->y<13->M x y=M' x y){k:Nat}(hk:k<169):UZ M k=UZ M' k:=h _ _ VL VL
theorem Qa5(M:Nat->Nat->Int){a b q:Nat}(hq:q=a*13+b)(hb:b<13)(v:Int):US q v (UZ M)=UZ (wU M a b v):=by
 funext k;unfold US UZ wU;by_cases hk:k=q
 ·rw [if_pos hk,if_pos VL]
 ·rw [if_neg hk,if_neg VL]
theorem zL{M:Nat->Nat->Int}{a b q:Nat}{v:Int}(hq:q=a*13+b)(hb:b<13):US q (min (UZ M q) v) (UZ M)=UZ (bnd M a b v):=by
 rw [kW M hq hb,Qa5 M hq hb];rfl
theorem Ql5(k j:Nat)(hj:j<=12)(h:k≠j)(x y:Nat):wU (LU k j) k j 8000 x y=LU k (j+1) x y:=by
 unfold wU LU;split
 ·rename_i hxy;rw [if_pos ⟨.inr VL,VL⟩]
 ·rename_i hxy;by_cases h1:((x<k/\y<=12)\/(x=k/\y<j))/\x≠y
  ·rw [if_pos h1,if_pos VL]
  ·rw [if_neg h1,if_neg VL]
theorem Ql6(k:Nat)(x y:Nat):LU k k x y=LU k (k+1) x y:=by
 unfold LU;by_cases h1:((x<k/\y<=12)\/(x=k/\y<k))/\x≠y
 ·rw [if_pos h1,if_pos VL]
 ·rw [if_neg h1,if_neg VL]
theorem Wh9(k:Nat)(x y:Nat):LU k 13 x y=LU (k+1) 0 x y:=by
 unfold LU;by_cases h1:((x<k/\y<=12)\/(x=k/\y<13))/\x≠y
 ·rw [if_pos h1,if_pos VL]
 ·rw [if_neg h1,if_neg VL]
abbrev QC:List AV:=[AV.x (.int IntKind.u64 (0:Int))]
abbrev QL:List Int:=([(0:Int)]++aN 168)
abbrev KT:GQ:=GQ.cells 183 QC
section
variable (N:Nat)(U O:Nat->Int)(m:Nat->Nat)(r v:Nat->Nat->Int)
def Zo0:St:={σ:=[AV.ro [lst 2 3 λk=>[iI (oL k),iI (oH k)],iI 1,Q1 N U O m r v,Q2 m N,top],agg QC,top,ptr 0 0,QD,AV.lit false,ptr 4 0]++HK 184 [],m:=[(4,GQ.ints 244 [] 169 λa=>U9 QL a),(0,KT)],nx:=7}
noncomputable def Zp1:Code:=UC (VU (UA Tryz.f80) 0)
def Wh0(k:Nat):St:=(upE [(22,i k)] [(4,.ints 244 [] 169 (UZ (LU k 0))),(0,.cells 183 [.x (.int .u64 0)])] (Zo0 N U O m r v))
def CM(k:Nat):GB->Option St
 | .exit 0=>some (upE [(22,i 13)] [(4,.ints 244 [] 169 (UZ (LU 13 0))),(0,.cells 183 [.x (.int .u64 0)])] (Zo0 N U O m r v))
 |_=>none
def Jj9:CT:= .leaf (.exit 0,(CM N U O m r v 0 (.exit 0)).getD (Zo0 N U O m r v))
def Xu3:UL:=GN [] (HM (Wh0 N U O m r v (0)) (Jj9 N U O m r v))
def Zn9(k:Nat):St:={σ:=[AV.ro [lst 2 3 λk=>[iI (oL k),iI (oH k)],iI 1,Q1 N U O m r v,Q2 m N,top],agg QC,top,ptr 0 0,QD,AV.lit false,ptr 4 0,iI (k:Int)]++HK 14 [iI (k:Int)]++HK 168 [],m:=[(4,GQ.ints 244 [] 169 λk_1=>UZ (LU k 0) k_1),(0,KT)],nx:=11}
noncomputable def Jn7:Code:=(UC (VU (UC (VU (UA Tryz.f80) 0)) 0))
def Wg9(k:Nat)(j:Nat):St:=(upE [(25,i j)] [(4,.ints 244 [] 169 (UZ (LU k j))),(0,.cells 183 [.x (.int .u64 0)])] (Zn9 N U O m r v k))
def CL(k:Nat)(j:Nat):GB->Option St
 | .exit 2=>some (upE [(25,i 13)] [(4,.ints 244 [] 169 (UZ (LU k 13))),(0,.cells 183 [.x (.int .u64 0)])] (Zn9 N U O m r v k))
 |_=>none
def Jj8(k:Nat):CT:= .leaf (.exit 2,(CL N U O m r v k 0 (.exit 2)).getD (Zn9 N U O m r v k))
def Xu2(k:Nat):UL:=GN [] (HM (Wg9 N U O m r v k (0)) (Jj8 N U O m r v k))
abbrev QX:Prop:=(0:Int)=0
abbrev W5:Prop:=ptr 4 0=ptr 4 0
abbrev WK:List (Nat×G0):=[(54,aB),(127,aC),(128,kF)]
noncomputable abbrev X1:Ext:={R:=[],H:=[(126,Qg8)] }
abbrev X6:Prop:=AV.lit false=AV.lit false
theorem Je5(k:Nat)(VV:k<=12):GD VQ (.loop Jn7) (Xu2 N U O m r v k):=by
 refine G6 [] (L:=[]) (Ae RH (Ae LV (Ae R0 Aa))) (Ai Ab (Ag RL Ac)) U0 U7 (X:=Nat) (Wg9 N U O m r v k) (λj=>j<=13) (λj=>13-j) (CL N U O m r v k) (x0:=0) VW ?_ ?_ ?_
 ·rintro j;kernel_rfl
 ·rintro j y E h;unfold CL at h;split at h
  ·cases h;kernel_rfl
  ·cases h
 ·rintro Q hQ j hx;refine ⟨(j+1),?_⟩;(with_reducible refine DU (t:=let W:=(U1 (AV.ro [lst 2 3 λk=>[iI (oL k),iI (oH k)],iI 1,Q1 N U O m r v,Q2 m N,top]));(branch (decide ((j:Int)<13)) (branch ((k:Int) != (j:Int)) (need [UN k 13] (need [UN j 13] (need [j*1+(k*13+0)+1<=169] (need [VN ((j:Int)+1)] (need [W,U1 (agg QC),QO,QD=QD,X6,W5,U1 (k:Int),U1 (k:Int),(j:Int)+1=(↑(j+1):Int),169=169,GV 169 (US (j*1+(k*13+0)) (8000:Int) (UZ (LU k j))) (UZ (LU k (j+1))),QX] (leaf GB.normal)))))) (need [VN ((j:Int)+1)] (need [W,U1 (agg QC),QO,QD=QD,X6,W5,U1 (k:Int),U1 (k:Int),(j:Int)+1=(↑(j+1):Int),169=169,GV 169 (UZ (LU k j)) (UZ (LU k (j+1))),QX] (leaf GB.normal)))) (need [W,U1 (agg QC),QO,QD=QD,X6,W5,U1 (k:Int),U1 (k:Int),(j:Int)=13,169=169,GV 169 (UZ (LU k j)) (UZ (LU k 13)),QX] (leaf (GB.exit 2))))) VX ?_)
  simp only [Jj8,CL,VO.sat,GX] at hQ;simp only [VO.sat,UE,G5,GL,UH,VN,UK,HG,RX,RP,LO,GS,CL]
  refine ⟨λh=>⟨λhne=>?_,λheq=>?_⟩,λh=>?_⟩
  ·have h3: ∀M w,US (j*1+(k*13+0)) w (UZ M)=UZ (wU M k j w):=λM w=>Qa5 M VL VL w
   simp only [h3]
   (with_reducible repeat' first|apply Al|intro _)
   all_goals first|exact PM|(exact dK (λx y _ _=>Ql5 k j VL VL x y) (by assumption))
  ·obtain rfl:k=j:=VL
   (with_reducible repeat' first|apply Al|intro _)
   all_goals first|exact PM|(exact dK (λx y _ _=>Ql6 k x y) (by assumption))
  ·obtain rfl:j=13:=VL;exact YY
theorem Je6:GD VQ (.loop Zp1) (Xu3 N U O m r v):=by
 refine G6 [] (L:=[BG 22 (λk=>RO [k<=12] (Xu2 N U O m r v k))]) (Ae RH (Ae LV (Ae R0 Aa))) (Ai Ab (Ag RL Ac)) U0 (GA (λcj hcj=>by
  have e:VU Zp1 0=some (.loop Jn7):=VX;rw [e] at hcj;cases hcj;exact P4 (λk=>FH (λh=>Je5 N U O m r v k h)))) (X:=Nat) (Wh0 N U O m r v) (λk=>k<=13) (λk=>13-k) (CM N U O m r v) (x0:=0) VW ?_ ?_ ?_
 ·rintro k;kernel_rfl
 ·rintro k y E h;unfold CM at h;split at h
  ·cases h;kernel_rfl
  ·cases h
 ·rintro Q hQ k hx;refine ⟨(k+1),?_⟩;(with_reducible refine DU (t:=let W:=(U1 (AV.ro [lst 2 3 λk=>[iI (oL k),iI (oH k)],iI 1,Q1 N U O m r v,Q2 m N,top]));(branch (decide ((k:Int)<13)) (need [k<=12] (need [W,U1 (agg QC),QO,QD=QD,X6,W5,U1 (k:Int),U1 (k:Int),(0:Int)=(↑(0:Nat):Int),169=169,GO 169 (UZ (LU k 0)),QX] (need [VN ((k:Int)+1)] (need [W,U1 (agg QC),QO,QD=QD,X6,W5,(k:Int)+1=(↑(k+1):Int),169=169,GV 169 (UZ (LU k 13)) (UZ (LU (k+1) 0)),QX] (leaf GB.normal))))) (need [W,U1 (agg QC),QO,QD=QD,X6,W5,(k:Int)=13,169=169,GV 169 (UZ (LU k 0)) (UZ (LU 13 0)),QX] (leaf (GB.exit 0))))) VX ?_)
  simp only [Jj9,CM,VO.sat,GX] at hQ;simp only [VO.sat,UE,G5,GL,UH,VN,UK,HG,RX,RP,LO,GS,CM]
  refine ⟨λh=>?_,λh=>?_⟩
  ·(with_reducible repeat' first|apply Al|intro _)
   all_goals first|exact PM|(exact dK (λx y _ _=>Wh9 k x y) (by assumption))
  ·obtain rfl:k=13:=VL;exact YY
def Zn8:St:={σ:=[AV.ro [lst 2 3 λk=>[iI (oL k),iI (oH k)],iI 1,Q1 N U O m r v,Q2 m N,top],agg QC,top,ptr 0 0,QD,AV.lit false,ptr 4 0]++HK 15 [iI 13]++HK 20 [lst 2 3 λk=>[iI (oL k),iI (oH k)],iI (↑(3:Nat):Int)]++HK 146 [],m:=[(4,GQ.ints 244 [] 169 λk=>UZ (LU 13 0) k),(0,KT)],nx:=14}
noncomputable def Jn6:Code:=UC (VU (UA Tryz.f80) 1)
def Wg8(k:Nat):St:=(upE [(45,i k)] [(4,.ints 244 [] 169 (UZ (ofM k))),(0,.cells 183 [.x (.int .u64 0)])] (Zn8 N U O m r v))
def CK(k:Nat):GB->Option St
 | .exit 4=>some (upE [(45,i 3)] [(4,.ints 244 [] 169 (UZ (ofM 3))),(0,.cells 183 [.x (.int .u64 0)])] (Zn8 N U O m r v))
 |_=>none
def Jj7:CT:= .leaf (.exit 4,(CK N U O m r v 0 (.exit 4)).getD (Zn8 N U O m r v))
def Xu1:UL:=GN [] (HM (Wg8 N U O m r v (0)) (Jj7 N U O m r v))
abbrev XA:Prop:=(13:Int)=13
theorem Je4:GD VQ (.loop Jn6) (Xu1 N U O m r v):=by
 refine G6 [] (L:=[]) (Ae RH (Ae LV (Ae R0 Aa))) (Ai Ab (Ag RL Ac)) U0 U7 (X:=Nat) (Wg8 N U O m r v) (λk=>k<=3) (λk=>3-k) (CK N U O m r v) (x0:=0) VW ?_ ?_ ?_
 ·rintro k;kernel_rfl
 ·rintro k y E h;unfold CK at h;split at h
  ·cases h;kernel_rfl
  ·cases h
 ·rintro Q hQ k hx;refine ⟨(k+1),?_⟩;(with_reducible refine DU (t:=let z1:=(UZ (ofM k) (((1:Int)+(k:Int)).toNat*1+0));let W:=(US (((1:Int)+(k:Int)).toNat*1+0) (min z1 (-oL k)) (UZ (ofM k)) (0+(((1:Int)+(k:Int)).toNat*13+0)));let z2:=(U1 (AV.ro [lst 2 3 λk=>[iI (oL k),iI (oH k)],iI 1,Q1 N U O m r v,Q2 m N,top]));(branch (decide ((k:Int)<(↑(3:Nat):Int))) (need [UN k 3] (need [(0:Int)<=(k:Int)/\(k:Int)<=1000] (need [VN (-oH k)] (need [VN (-oL k)] (need [UN 0 13] (need [(0:Int)<=1+(k:Int)/\(1:Int)+(k:Int)<(↑(13:Nat):Int)] (need [((1:Int)+(k:Int)).toNat*1+0<169] (need [UN 0 13] (need [(0:Int)<=1+(k:Int)/\(1:Int)+(k:Int)<(↑(13:Nat):Int)] (need [((1:Int)+(k:Int)).toNat*1+0+List.length [min z1 (-oL k)]<=169] (need [(0:Int)<=1+(k:Int)/\(1:Int)+(k:Int)<(↑(13:Nat):Int)] (need [UN 0 13] (need [0+(((1:Int)+(k:Int)).toNat*13+0)<169] (need [VN (- -oH k)] (need [(0:Int)<=1+(k:Int)/\(1:Int)+(k:Int)<(↑(13:Nat):Int)] (need [UN 0 13] (need [0+(((1:Int)+(k:Int)).toNat*13+0)+List.length [min W (- -oH k)]<=169] (need [VN ((k:Int)+1)] (need [z2,U1 (agg QC),QO,QD=QD,X6,W5,XA,U1 (lst 2 3 λk=>[iI (oL k),iI (oH k)]),U1 (↑(3:Nat):Int),(k:Int)+1=(↑(k+1):Int),169=169,GV 169 (US (0+(((1:Int)+(k:Int)).toNat*13+0)) (min W (- -oH k)) (j5 (((1:Int)+(k:Int)).toNat*1+0) [min z1 (-oL k)] (UZ (ofM k)))) (UZ (ofM (k+1))),QX] (leaf GB.normal)))))))))))))))))))) (need [z2,U1 (agg QC),QO,QD=QD,X6,W5,XA,U1 (lst 2 3 λk=>[iI (oL k),iI (oH k)]),U1 (↑(3:Nat):Int),(k:Int)=3,169=169,GV 169 (UZ (ofM k)) (UZ (ofM 3)),QX] (leaf (GB.exit 4))))) VX ?_)
  simp only [Jj7,CK,VO.sat,GX] at hQ;simp only [VO.sat,UE,G5,GL,UH,VN,UK,HG,RX,RP,LO,GS,CK]
  have hL: -9<=oL k/\oL k<=0:=by unfold oL;split<;>omega
  have hH:0<=oH k/\oH k<=9:=by unfold oH;split<;>omega
  refine ⟨λh=>?_,λh=>?_⟩
  ·have h1: ∀M w,US ((1+(k:Int)).toNat*1+0) (min (UZ M ((1+(k:Int)).toNat*1+0)) w) (UZ M)=UZ (bnd M 0 (1+k) w):=λM w=>zL VL VL
   have h2: ∀M w,US (0+((1+(k:Int)).toNat*13+0)) (min (UZ M (0+((1+(k:Int)).toNat*13+0))) w) (UZ M)=UZ (bnd M (1+k) 0 w):=λM w=>zL VL VL
   simp only [h1,h2];exact YY
  ·obtain rfl:k=3:=VL;exact YY
def Zn7:St:={σ:=[AV.ro [lst 2 3 λk=>[iI (oL k),iI (oH k)],iI 1,Q1 N U O m r v,Q2 m N,top],agg QC,top,ptr 0 0,QD,AV.lit false,ptr 4 0]++HK 15 [iI 13]++HK 20 [lst 2 3 λk=>[iI (oL k),iI (oH k)],iI (↑(3:Nat):Int),iI 3]++HK 20 [Q1 N U O m r v,iI (N:Int)]++HK 123 [],m:=[(4,GQ.ints 244 [] 169 λk=>UZ (ofM 3) k),(0,KT)],nx:=21}
noncomputable def Jn5:Code:=UC (VU (UA Tryz.f80) 2)
def Wg7(k:Nat):St:=(upE [(68,i k)] [(4,.ints 244 [] 169 (UZ (btM U O k))),(0,.cells 183 [.x (.int .u64 0)])] (Zn7 N U O m r v))
def CJ(k:Nat):GB->Option St
 | .exit 6=>some (upE [(68,i N)] [(4,.ints 244 [] 169 (UZ (btM U O N))),(0,.cells 183 [.x (.int .u64 0)])] (Zn7 N U O m r v))
 |_=>none
def Jj6:CT:= .leaf (.exit 6,(CJ N U O m r v 0 (.exit 6)).getD (Zn7 N U O m r v))
def Xu0:UL:=GN [] (HM (Wg7 N U O m r v (0)) (Jj6 N U O m r v))
abbrev XE:Prop:=(3:Int)=3
theorem Je3(VV:bOK N U O m r v):GD VQ (.loop Jn5) (Xu0 N U O m r v):=by
 refine G6 [] (L:=[]) (Ae RH (Ae LV (Ae R0 Aa))) (Ai Ab (Ag RL Ac)) U0 U7 (X:=Nat) (Wg7 N U O m r v) (λk=>k<=N) (λk=>N-k) (CJ N U O m r v) (x0:=0) VW ?_ ?_ ?_
 ·rintro k;kernel_rfl
 ·rintro k y E h;unfold CJ at h;split at h
  ·cases h;kernel_rfl
  ·cases h
 ·rintro Q hQ k hx;refine ⟨(k+1),?_⟩;(with_reducible refine DU (t:=let z1:=(UZ (btM U O k) (((7:Int)+(k:Int)).toNat*1+0));let W:=(US (((7:Int)+(k:Int)).toNat*1+0) (min z1 (O k)) (UZ (btM U O k)) (0+(((7:Int)+(k:Int)).toNat*13+0)));let z2:=(U1 (AV.ro [lst 2 3 λk=>[iI (oL k),iI (oH k)],iI 1,Q1 N U O m r v,Q2 m N,top]));(branch (decide ((k:Int)<(N:Int))) (need [UN k N] (need [(0:Int)<=(k:Int)/\(k:Int)<=1000] (need [UN 0 13] (need [(0:Int)<=7+(k:Int)/\(7:Int)+(k:Int)<(↑(13:Nat):Int)] (need [((7:Int)+(k:Int)).toNat*1+0<169] (need [UN 0 13] (need [(0:Int)<=7+(k:Int)/\(7:Int)+(k:Int)<(↑(13:Nat):Int)] (need [((7:Int)+(k:Int)).toNat*1+0+List.length [min z1 (O k)]<=169] (need [(0:Int)<=7+(k:Int)/\(7:Int)+(k:Int)<(↑(13:Nat):Int)] (need [UN 0 13] (need [0+(((7:Int)+(k:Int)).toNat*13+0)<169] (need [VN (-U k)] (need [(0:Int)<=7+(k:Int)/\(7:Int)+(k:Int)<(↑(13:Nat):Int)] (need [UN 0 13] (need [0+(((7:Int)+(k:Int)).toNat*13+0)+List.length [min W (-U k)]<=169] (need [VN ((k:Int)+1)] (need [z2,U1 (agg QC),QO,QD=QD,X6,W5,XA,U1 (lst 2 3 λk=>[iI (oL k),iI (oH k)]),U1 (↑(3:Nat):Int),XE,WS N U O m r v,U1 (N:Int),(k:Int)+1=(↑(k+1):Int),169=169,GV 169 (US (0+(((7:Int)+(k:Int)).toNat*13+0)) (min W (-U k)) (j5 (((7:Int)+(k:Int)).toNat*1+0) [min z1 (O k)] (UZ (btM U O k)))) (UZ (btM U O (k+1))),QX] (leaf GB.normal)))))))))))))))))) (need [z2,U1 (agg QC),QO,QD=QD,X6,W5,XA,U1 (lst 2 3 λk=>[iI (oL k),iI (oH k)]),U1 (↑(3:Nat):Int),XE,WS N U O m r v,U1 (N:Int),(k:Int)=(N:Int),169=169,GV 169 (UZ (btM U O k)) (UZ (btM U O N)),QX] (leaf (GB.exit 6))))) VX ?_)
  simp only [Jj6,CJ,VO.sat,GX] at hQ;simp only [VO.sat,UE,G5,GL,UH,VN,UK,HG,RX,RP,LO,GS,CJ]
  have h6:=VV.1;refine ⟨λh=>?_,λh=>?_⟩
  ·obtain ⟨_,q1,q2,q3,_⟩:=VV.2 k VL;have h1: ∀M w,US ((7+(k:Int)).toNat*1+0) (min (UZ M ((7+(k:Int)).toNat*1+0)) w) (UZ M)=UZ (bnd M 0 (7+k) w):=λM w=>zL VL VL
   have h2: ∀M w,US (0+((7+(k:Int)).toNat*13+0)) (min (UZ M (0+((7+(k:Int)).toNat*13+0))) w) (UZ M)=UZ (bnd M (7+k) 0 w):=λM w=>zL VL VL
   simp only [h1,h2];exact YY
  ·obtain rfl:k=N:=VL;exact YY
def Zn6:St:={σ:=[AV.ro [lst 2 3 λk=>[iI (oL k),iI (oH k)],iI 1,Q1 N U O m r v,Q2 m N,top],agg QC,top,ptr 0 0,QD,AV.lit false,ptr 4 0]++HK 15 [iI 13]++HK 20 [lst 2 3 λk=>[iI (oL k),iI (oH k)],iI (↑(3:Nat):Int),iI 3]++HK 20 [Q1 N U O m r v,iI (N:Int),iI (N:Int)]++HK 14 [Q2 m N,iI (↑(HC m N):Int)]++HK 106 [],m:=[(4,GQ.ints 244 [] 169 λk=>UZ (btM U O N) k),(0,KT)],nx:=27}
noncomputable def Jn4:Code:=UC (VU (UA Tryz.f80) 3)
def Wg6(k:Nat):St:=(upE [(85,i k)] [(4,.ints 244 [] 169 (UZ (rA N U O m r v k))),(0,.cells 183 [.x (.int .u64 0)])] (Zn6 N U O m r v))
def CI(k:Nat):GB->Option St
 | .exit 8=>some (upE [(85,i (HC m N))] [(4,.ints 244 [] 169 (UZ (rA N U O m r v (HC m N)))),(0,.cells 183 [.x (.int .u64 0)])] (Zn6 N U O m r v))
 |_=>none
def Jj5:CT:= .leaf (.exit 8,(CI N U O m r v 0 (.exit 8)).getD (Zn6 N U O m r v))
def Xt9:UL:=GN [] (HM (Wg6 N U O m r v (0)) (Jj5 N U O m r v))
theorem Je2(VV:bOK N U O m r v):GD VQ (.loop Jn4) (Xt9 N U O m r v):=by
 refine G6 [] (L:=[]) (Ae RH (Ae LV (Ae R0 Aa))) (Ai Ab (Ag RL Ac)) U0 U7 (X:=Nat) (Wg6 N U O m r v) (λk=>k<=HC m N) (λk=>HC m N-k) (CI N U O m r v) (x0:=0) VW ?_ ?_ ?_
 ·rintro k;kernel_rfl
 ·rintro k y E h;unfold CI at h;split at h
  ·cases h;kernel_rfl
  ·cases h
 ·rintro Q hQ k hx;refine ⟨(k+1),?_⟩
  (with_reducible refine DU (t:=let z4:=rA N U O m r v k;let z1:=(UZ (z4) (((7:Int)+(↑(Prod.fst (GF m N k)):Int)).toNat*1+(((1:Int)+r (Prod.fst (GF m N k)) (Prod.snd (GF m N k))).toNat*13+0)));let W:=(US (((7:Int)+(↑(Prod.fst (GF m N k)):Int)).toNat*1+(((1:Int)+r (Prod.fst (GF m N k)) (Prod.snd (GF m N k))).toNat*13+0)) (min z1 (v (Prod.fst (GF m N k)) (Prod.snd (GF m N k))+1)) (UZ (z4)) (((1:Int)+r (Prod.fst (GF m N k)) (Prod.snd (GF m N k))).toNat*1+(((7:Int)+(↑(Prod.fst (GF m N k)):Int)).toNat*13+0)));let z2:=(U1 (AV.ro [lst 2 3 λk=>[iI (oL k),iI (oH k)],iI 1,Q1 N U O m r v,Q2 m N,top]));let z3:=(U1 (lst 2 3 λk=>[iI (oL k),iI (oH k)]));(branch (decide ((k:Int)<(↑(HC m N):Int))) (need [UN k (↑(HC m N):Int)] (need [(0:Int)<=(k:Int)/\(k:Int)<=64] (branch (IntKind.wrap IntKind.u64 (↑(BitVec.toNat (BitVec.ofInt (IntKind.bits IntKind.u64) ((0:Int) / (2:Int)^k) &&& BitVec.ofInt (IntKind.bits IntKind.u64) (1:Int))):Int)==0) (need [UN (↑(Prod.fst (GF m N k)):Int) N] (need [UN (↑(Prod.snd (GF m N k)):Int) ((↑(m (Prod.fst (GF m N k))):Int))] (need [(0:Int)<=r (Prod.fst (GF m N k)) (Prod.snd (GF m N k))/\r (Prod.fst (GF m N k)) (Prod.snd (GF m N k))<=1000] (need [(0:Int)<=(↑(Prod.fst (GF m N k)):Int)/\(↑(Prod.fst (GF m N k)):Int)<=1000] (need [VN (v (Prod.fst (GF m N k)) (Prod.snd (GF m N k))-1)] (need [VN (v (Prod.fst (GF m N k)) (Prod.snd (GF m N k))+1)] (need [(0:Int)<=1+r (Prod.fst (GF m N k)) (Prod.snd (GF m N k))/\(1:Int)+r (Prod.fst (GF m N k)) (Prod.snd (GF m N k))<(↑(13:Nat):Int)] (need [(0:Int)<=7+(↑(Prod.fst (GF m N k)):Int)/\(7:Int)+(↑(Prod.fst (GF m N k)):Int)<(↑(13:Nat):Int)] (need [((7:Int)+(↑(Prod.fst (GF m N k)):Int)).toNat*1+(((1:Int)+r (Prod.fst (GF m N k)) (Prod.snd (GF m N k))).toNat*13+0)<169] (need [(0:Int)<=1+r (Prod.fst (GF m N k)) (Prod.snd (GF m N k))/\(1:Int)+r (Prod.fst (GF m N k)) (Prod.snd (GF m N k))<(↑(13:Nat):Int)] (need [(0:Int)<=7+(↑(Prod.fst (GF m N k)):Int)/\(7:Int)+(↑(Prod.fst (GF m N k)):Int)<(↑(13:Nat):Int)] (need [((7:Int)+(↑(Prod.fst (GF m N k)):Int)).toNat*1+(((1:Int)+r (Prod.fst (GF m N k)) (Prod.snd (GF m N k))).toNat*13+0)+List.length [min z1 (v (Prod.fst (GF m N k)) (Prod.snd (GF m N k))+1)]<=169] (need [(0:Int)<=7+(↑(Prod.fst (GF m N k)):Int)/\(7:Int)+(↑(Prod.fst (GF m N k)):Int)<(↑(13:Nat):Int)] (need [(0:Int)<=1+r (Prod.fst (GF m N k)) (Prod.snd (GF m N k))/\(1:Int)+r (Prod.fst (GF m N k)) (Prod.snd (GF m N k))<(↑(13:Nat):Int)] (need [((1:Int)+r (Prod.fst (GF m N k)) (Prod.snd (GF m N k))).toNat*1+(((7:Int)+(↑(Prod.fst (GF m N k)):Int)).toNat*13+0)<169] (need [VN (-(v (Prod.fst (GF m N k)) (Prod.snd (GF m N k))-1))] (need [(0:Int)<=7+(↑(Prod.fst (GF m N k)):Int)/\(7:Int)+(↑(Prod.fst (GF m N k)):Int)<(↑(13:Nat):Int)] (need [(0:Int)<=1+r (Prod.fst (GF m N k)) (Prod.snd (GF m N k))/\(1:Int)+r (Prod.fst (GF m N k)) (Prod.snd (GF m N k))<(↑(13:Nat):Int)] (need [((1:Int)+r (Prod.fst (GF m N k)) (Prod.snd (GF m N k))).toNat*1+(((7:Int)+(↑(Prod.fst (GF m N k)):Int)).toNat*13+0)+List.length [min W (-(v (Prod.fst (GF m N k)) (Prod.snd (GF m N k))-1))]<=169] (need [VN ((k:Int)+1)] (need [z2,U1 (agg QC),QO,QD=QD,X6,W5,XA,z3,U1 (↑(3:Nat):Int),XE,WS N U O m r v,U1 (N:Int),U1 (N:Int),U1 (Q2 m N),U1 (↑(HC m N):Int),(k:Int)+1=(↑(k+1):Int),169=169,GV 169 (US (((1:Int)+r (Prod.fst (GF m N k)) (Prod.snd (GF m N k))).toNat*1+(((7:Int)+(↑(Prod.fst (GF m N k)):Int)).toNat*13+0)) (min W (-(v (Prod.fst (GF m N k)) (Prod.snd (GF m N k))-1))) (j5 (((7:Int)+(↑(Prod.fst (GF m N k)):Int)).toNat*1+(((1:Int)+r (Prod.fst (GF m N k)) (Prod.snd (GF m N k))).toNat*13+0)) [min z1 (v (Prod.fst (GF m N k)) (Prod.snd (GF m N k))+1)] (UZ (z4)))) (UZ (rA N U O m r v (k+1))),QX] (leaf GB.normal)))))))))))))))))))))) (need [VN ((k:Int)+1)] (need [z2,U1 (agg QC),QO,QD=QD,X6,W5,XA,z3,U1 (↑(3:Nat):Int),XE,WS N U O m r v,U1 (N:Int),U1 (N:Int),U1 (Q2 m N),U1 (↑(HC m N):Int),(k:Int)+1=(↑(k+1):Int),169=169,GV 169 (UZ (z4)) (UZ (rA N U O m r v (k+1))),QX] (leaf GB.normal)))))) (need [z2,U1 (agg QC),QO,QD=QD,X6,W5,XA,z3,U1 (↑(3:Nat):Int),XE,WS N U O m r v,U1 (N:Int),U1 (N:Int),U1 (Q2 m N),U1 (↑(HC m N):Int),(k:Int)=(↑(HC m N):Int),169=169,GV 169 (UZ (z4)) (UZ (rA N U O m r v (HC m N))),QX] (leaf (GB.exit 8))))) VX ?_)
  simp only [Jj5,CI,VO.sat,GX] at hQ;simp only [VO.sat,UE,G5,GL,UH,VN,UK,HG,RX,RP,LO,GS,CI]
  have h6:=VV.1;have hb:=SV m (K:=10) N (λb hb=>(VV.2 b hb).1)
  have hz:(IntKind.u64.wrap ((BitVec.ofInt IntKind.u64.bits (0 / 2^k) &&& BitVec.ofInt IntKind.u64.bits 1).toNat:Int)==0)=true:=by
   rw [Int.zero_ediv];decide
  simp only [hz,true_imp_iff,Bool.true_eq_false,false_imp_iff,and_true];refine ⟨λh=>?_,λh=>?_⟩
  ·obtain ⟨hl1,hl2⟩:=T6 m N k VL;obtain ⟨_,_,_,_,q4⟩:=VV.2 _ hl1;obtain ⟨q5,q6,q7,q8⟩:=q4 _ hl2;have e1:((1+r (GF m N k).1 (GF m N k).2).toNat)=1+(r (GF m N k).1 (GF m N k).2).toNat:=VL;have e2:((7+((GF m N k).1:Int)).toNat)=7+(GF m N k).1:=VL;rw [e1,e2];have h1: ∀M w,US ((7+(GF m N k).1)*1+((1+(r (GF m N k).1 (GF m N k).2).toNat)*13+0)) (min (UZ M ((7+(GF m N k).1)*1+((1+(r (GF m N k).1 (GF m N k).2).toNat)*13+0))) w) (UZ M)=UZ (bnd M (1+(r (GF m N k).1 (GF m N k).2).toNat) (7+(GF m N k).1) w):=λM w=>zL VL VL
   have h2: ∀M w,US ((1+(r (GF m N k).1 (GF m N k).2).toNat)*1+((7+(GF m N k).1)*13+0)) (min (UZ M ((1+(r (GF m N k).1 (GF m N k).2).toNat)*1+((7+(GF m N k).1)*13+0))) w) (UZ M)=UZ (bnd M (7+(GF m N k).1) (1+(r (GF m N k).1 (GF m N k).2).toNat) w):=λM w=>zL VL VL
   simp only [h1,h2];exact YY
  ·obtain rfl:k=HC m N:=VL;exact YY
end
def LB8(B:Int)(M:Nat->Nat->Int):Prop:= ∀x y,-B<=M x y/\M x y<=8000
def JB8(B:Int)(o f t:Nat)(M:Nat->Nat->Int):Prop:= ∀x y,M x y<=8000/\ -(6*B)<=M x y/\(x=o-> -(3*B)<=M x y)/\(y=o-> -(3*B)<=M x y)/\(x=o->y=o-> -(2*B)<=M x y)/\(¬(x<f\/(x=f/\y<t))-> -B<=M x y)
theorem Qq8{B:Int}{o:Nat}{M:Nat->Nat->Int}(hB:0<=B)(h:LB8 B M):JB8 B o 0 0 M:=by
 intro x y;have:=h x y;refine ⟨VL,VL,λ_=>VL,λ_=>VL,λ_ _=>VL,λ_=>VL⟩
theorem Ww3{B:Int}{o f t:Nat}{M:Nat->Nat->Int}(hB:0<=B)(h:JB8 B o f t M):JB8 B o f (t+1) (fwS M o f t):=by
 have hft:=h f t;have hfo:=h f o;have hot:=h o t;have hoo:=h o o;have hn:=hft.2.2.2.2.2 VL;intro x y;have hxy:=h x y;unfold fwS bnd wU;by_cases hc:x=f/\y=t
 ·exact V1
 ·rw [if_neg hc];exact ⟨hxy.1,hxy.2.1,hxy.2.2.1,hxy.2.2.2.1,hxy.2.2.2.2.1,λhv=>hxy.2.2.2.2.2 VL⟩
theorem Ww4{B:Int}{o f:Nat}{M:Nat->Nat->Int}(hB:0<=B)(h:JB8 B o f 0 M): ∀t,JB8 B o f t (fwT M o f t)
 | 0=>h
 |t+1=>Ww3 hB (Ww4 hB h t)
theorem Xk2{B:Int}{o f t:Nat}{M:Nat->Nat->Int}(h:JB8 B o f t M):JB8 B o (f+1) 0 M:=by
 intro x y;have hxy:=h x y;exact ⟨hxy.1,hxy.2.1,hxy.2.2.1,hxy.2.2.2.1,hxy.2.2.2.2.1,λhv=>hxy.2.2.2.2.2 VL⟩
theorem Ww5{B:Int}{c o:Nat}{M:Nat->Nat->Int}(hB:0<=B)(h:LB8 B M): ∀f,JB8 B o f 0 (fwF c M o f)
 | 0=>Qq8 hB h
 |f+1=>Xk2 (Ww4 hB (Ww5 hB h f) (c+1))
theorem Ww1{c:Nat}{M:Nat->Nat->Int}(h:LB8 8001 M): ∀o,LB8 (8001*6^o) (fwO c M o)
 | 0=>by
  rw [show (8001:Int)*6^0=8001 by decide]
  exact h
 |o+1=>by
  have ih:=Ww1 (c:=c) h o;have hp:(0:Int)<=8001*6^o:=Int.mul_nonneg VL (Int.pow_nonneg VL);have hj:=Ww5 (c:=c) (o:=o) hp ih (c+1);intro x y;have:=hj x y;have e:(8001:Int)*6^(o+1)=6*(8001*6^o):=by rw [Int.pow_succ];omega
  rw [e];exact ⟨this.2.1,this.1⟩
theorem Zw4: ∀o:Nat,o<=12->(6:Int)^o<=2176782336:=by
 intro o ho;rcases (show o=0\/o=1\/o=2\/o=3\/o=4\/o=5\/o=6\/o=7\/o=8\/o=9\/o=10\/o=11\/o=12 by omega) with rfl|rfl|rfl|rfl|rfl|rfl|rfl|rfl|rfl|rfl|rfl|rfl|rfl<;>decide
theorem Zi3{c:Nat}{M:Nat->Nat->Int}(h:LB8 8001 M){o f t:Nat}(ho:o<=12)(x y:Nat): -105000000000000<=fwT (fwF c (fwO c M o) o f) o f t x y/\fwT (fwF c (fwO c M o) o f) o f t x y<=8000:=by
 have ih:=Ww1 (c:=c) h o;have hp:(0:Int)<=8001*6^o:=Int.mul_nonneg VL (Int.pow_nonneg VL);have hj:=Ww4 hp (Ww5 (c:=c) (o:=o) hp ih f) t x y;have:=Zw4 o ho;omega
theorem kY{B:Int}{M:Nat->Nat->Int}(h:LB8 B M){a b:Nat}{v:Int}(hv: -B<=v):LB8 B (bnd M a b v):=by
 intro x y;have h1:=h a b;have h2:=h x y;unfold bnd wU;split<;>omega
theorem oLH(k:Nat):(-9<=oL k/\oL k<=0)/\0<=oH k/\oH k<=9:=by
 unfold oL oH;constructor<;>split<;>omega
theorem Wb5: ∀k,LB8 8001 (ofM k)
 | 0=>by
  intro x y;unfold ofM LU;split<;>omega
 |k+1=>by
  have h:=oLH k;exact kY (kY (Wb5 k) VL) VL
theorem Wq0{N:Nat}{U O:Nat->Int}{m:Nat->Nat}{r v:Nat->Nat->Int}(h:bOK N U O m r v): ∀k,k<=N->LB8 8001 (btM U O k)
 | 0,_=>Wb5 3
 |k+1,hk=>by
  have q:=h.2 k VL;exact kY (kY (Wq0 h k VL) VL) VL
theorem SD{N:Nat}{U O:Nat->Int}{m:Nat->Nat}{r v:Nat->Nat->Int}(h:bOK N U O m r v): ∀q,q<=HC m N->LB8 8001 (rA N U O m r v q)
 | 0,_=>Wq0 h N (Am _)
 |q+1,hq=>by
  obtain ⟨hl1,hl2⟩:=T6 m N q VL;have q4:=(h.2 _ hl1).2.2.2.2 _ hl2;exact kY (kY (SD h q VL) VL) VL
section
variable (N:Nat)(U O:Nat->Int)(m:Nat->Nat)(r v:Nat->Nat->Int)
def r0M:Nat->Nat->Int:=rA N U O m r v (HC m N)
def PF:Nat->Nat->Int:=fwO 12 (r0M N U O m r v) 13
def xF:Bool:=FN (λk=>decide (0<=PF N U O m r v k k)) 13
def Zn5:St:={σ:=[AV.ro [lst 2 3 λk=>[iI (oL k),iI (oH k)],iI 1,Q1 N U O m r v,Q2 m N,top],agg QC,top,ptr 0 0,QD,AV.lit false,ptr 4 0]++HK 15 [iI 13]++HK 20 [lst 2 3 λk=>[iI (oL k),iI (oH k)],iI (↑(3:Nat):Int),iI 3]++HK 20 [Q1 N U O m r v,iI (N:Int),iI (N:Int)]++HK 14 [Q2 m N,iI (↑(HC m N):Int),iI (↑(HC m N):Int)]++HK 105 [],m:=[(4,GQ.ints 244 [] 169 λk=>UZ (rA N U O m r v (HC m N)) k),(0,KT)],nx:=28}
noncomputable def Zp0:Code:=UC (VU (UA Tryz.f80) 4)
def Wg5(o:Nat):St:=(upE [(136,i o)] [(4,.ints 244 [] 169 (UZ (fwO 12 (r0M N U O m r v) o))),(0,.cells 183 [.x (.int .u64 0)])] (Zn5 N U O m r v))
def CH(o:Nat):GB->Option St
 | .exit 10=>some (upE [(136,i 13)] [(4,.ints 244 [] 169 (UZ (fwO 12 (r0M N U O m r v) 13))),(0,.cells 183 [.x (.int .u64 0)])] (Zn5 N U O m r v))
 |_=>none
def Jj4:CT:= .leaf (.exit 10,(CH N U O m r v 0 (.exit 10)).getD (Zn5 N U O m r v))
def Xt8:UL:=GN [] (HM (Wg5 N U O m r v (0)) (Jj4 N U O m r v))
def Zn4(o:Nat):St:={σ:=[AV.ro [lst 2 3 λk=>[iI (oL k),iI (oH k)],iI 1,Q1 N U O m r v,Q2 m N,top],agg QC,top,ptr 0 0,QD,AV.lit false,ptr 4 0]++HK 9 [iI (o:Int)]++HK 5 [iI 13]++HK 20 [lst 2 3 λk=>[iI (oL k),iI (oH k)],iI (↑(3:Nat):Int),iI 3]++HK 20 [Q1 N U O m r v,iI (N:Int),iI (N:Int)]++HK 14 [Q2 m N,iI (↑(HC m N):Int),iI (↑(HC m N):Int)]++HK 50 [iI (o:Int)]++HK 54 [],m:=[(4,GQ.ints 244 [] 169 λk=>UZ (fwO 12 (r0M N U O m r v) o) k),(0,KT)],nx:=32}
noncomputable def Zo9:Code:=(UC (VU (UC (VU (UA Tryz.f80) 4)) 0))
def Wg4(o:Nat)(f:Nat):St:=(upE [(139,i f)] [(4,.ints 244 [] 169 (UZ (fwF 12 (fwO 12 (r0M N U O m r v) o) o f))),(0,.cells 183 [.x (.int .u64 0)])] (Zn4 N U O m r v o))
def CG(o:Nat)(f:Nat):GB->Option St
 | .exit 12=>some (upE [(139,i 13)] [(4,.ints 244 [] 169 (UZ (fwF 12 (fwO 12 (r0M N U O m r v) o) o 13))),(0,.cells 183 [.x (.int .u64 0)])] (Zn4 N U O m r v o))
 |_=>none
def Jj3(o:Nat):CT:= .leaf (.exit 12,(CG N U O m r v o 0 (.exit 12)).getD (Zn4 N U O m r v o))
def Xt7(o:Nat):UL:=GN [] (HM (Wg4 N U O m r v o (0)) (Jj3 N U O m r v o))
def Zn3(o:Nat)(f:Nat):St:={σ:=[AV.ro [lst 2 3 λk=>[iI (oL k),iI (oH k)],iI 1,Q1 N U O m r v,Q2 m N,top],agg QC,top,ptr 0 0,QD,AV.lit false,ptr 4 0]++HK 9 [iI (o:Int),iI (f:Int),top,top,top,top,iI 13]++HK 20 [lst 2 3 λk=>[iI (oL k),iI (oH k)],iI (↑(3:Nat):Int),iI 3]++HK 20 [Q1 N U O m r v,iI (N:Int),iI (N:Int)]++HK 14 [Q2 m N,iI (↑(HC m N):Int),iI (↑(HC m N):Int)]++HK 50 [iI (o:Int),top,top,iI (f:Int)]++HK 51 [],m:=[(4,GQ.ints 244 [] 169 λk=>UZ (fwF 12 (fwO 12 (r0M N U O m r v) o) o f) k),(0,KT)],nx:=36}
noncomputable def Jn3:Code:=(UC (VU (UC (VU (UC (VU (UA Tryz.f80) 4)) 0)) 0))
def Wg3(o:Nat)(f:Nat)(t:Nat):St:=(upE [(142,i t)] [(4,.ints 244 [] 169 (UZ (fwT (fwF 12 (fwO 12 (r0M N U O m r v) o) o f) o f t))),(0,.cells 183 [.x (.int .u64 0)])] (Zn3 N U O m r v o f))
def CF(o:Nat)(f:Nat)(t:Nat):GB->Option St
 | .exit 14=>some (upE [(142,i 13)] [(4,.ints 244 [] 169 (UZ (fwT (fwF 12 (fwO 12 (r0M N U O m r v) o) o f) o f 13))),(0,.cells 183 [.x (.int .u64 0)])] (Zn3 N U O m r v o f))
 |_=>none
def Jj2(o:Nat)(f:Nat):CT:= .leaf (.exit 14,(CF N U O m r v o f 0 (.exit 14)).getD (Zn3 N U O m r v o f))
def Xt6(o:Nat)(f:Nat):UL:=GN [] (HM (Wg3 N U O m r v o f (0)) (Jj2 N U O m r v o f))
theorem Jd9(o:Nat)(f:Nat)(VV:bOK N U O m r v)(UI:o<=12)(HR:f<=12):GD VQ (.loop Jn3) (Xt6 N U O m r v o f):=by
 refine G6 [] (L:=[]) (Ae RH (Ae LV (Ae R0 Aa))) (Ai Ab (Ag RL Ac)) U0 U7 (X:=Nat) (Wg3 N U O m r v o f) (λt=>t<=13) (λt=>13-t) (CF N U O m r v o f) (x0:=0) VW ?_ ?_ ?_
 ·rintro t;kernel_rfl
 ·rintro t y E h;unfold CF at h;split at h
  ·cases h;kernel_rfl
  ·cases h
 ·rintro Q hQ t hx;refine ⟨(t+1),?_⟩;(with_reducible refine DU (t:=let z2:=(fwF 12 (fwO 12 (r0M N U O m r v) o) o f);let W:=(fwT z2 o f t);let z1:=(U1 (AV.ro [lst 2 3 λk=>[iI (oL k),iI (oH k)],iI 1,Q1 N U O m r v,Q2 m N,top]));let z3:=(U1 (↑(HC m N):Int));(branch (decide ((t:Int)<13)) (need [UN f 13] (need [UN t 13] (need [t*1+(f*13+0)<169] (need [UN f 13] (need [UN o 13] (need [o*1+(f*13+0)<169] (need [UN o 13] (need [UN t 13] (need [t*1+(o*13+0)<169] (need [VN (UZ W (o*1+(f*13+0))+UZ W (t*1+(o*13+0)))] (need [UN f 13] (need [UN t 13] (need [t*1+(f*13+0)+List.length [min (UZ W (t*1+(f*13+0))) (UZ W (o*1+(f*13+0))+UZ W (t*1+(o*13+0)))]<=169] (need [VN ((t:Int)+1)] (need [z1,U1 (agg QC),QO,QD=QD,X6,W5,U1 (o:Int),U1 (f:Int),XA,U1 (lst 2 3 λk=>[iI (oL k),iI (oH k)]),U1 (↑(3:Nat):Int),XE,WS N U O m r v,U1 (N:Int),U1 (N:Int),U1 (Q2 m N),z3,z3,U1 (o:Int),U1 (f:Int),(t:Int)+1=(↑(t+1):Int),169=169,GV 169 (US (t*1+(f*13+0)) (min (UZ W (t*1+(f*13+0))) (UZ W (o*1+(f*13+0))+UZ W (t*1+(o*13+0)))) (UZ W)) (UZ (fwT z2 o f (t+1))),QX] (leaf GB.normal)))))))))))))))) (need [z1,U1 (agg QC),QO,QD=QD,X6,W5,U1 (o:Int),U1 (f:Int),XA,U1 (lst 2 3 λk=>[iI (oL k),iI (oH k)]),U1 (↑(3:Nat):Int),XE,WS N U O m r v,U1 (N:Int),U1 (N:Int),U1 (Q2 m N),z3,z3,U1 (o:Int),U1 (f:Int),(t:Int)=13,169=169,GV 169 (UZ W) (UZ (fwT z2 o f 13)),QX] (leaf (GB.exit 14))))) VX ?_)
  simp only [Jj2,CF,VO.sat,GX] at hQ;simp only [VO.sat,UE,G5,GL,UH,VN,UK,HG,RX,RP,LO,GS,CF]
  have hl:=λx y=>Zi3 (c:=12) (SD VV (HC m N) (Am _)) (o:=o) (f:=f) (t:=t) VL x y
  have hfo:=hl f o;have hot:=hl o t;refine ⟨λh=>?_,λh=>?_⟩
  ·have h1: ∀M,UZ M (o*1+(f*13+0))=M f o:=λM=>kW _ VL VL
   have h2: ∀M,UZ M (t*1+(o*13+0))=M o t:=λM=>kW _ VL VL
   have h3: ∀M w,US (t*1+(f*13+0)) (min (UZ M (t*1+(f*13+0))) w) (UZ M)=UZ (bnd M f t w):=λM w=>zL VL VL
   simp only [h3];simp only [h1,h2];unfold r0M;exact YY
  ·obtain rfl:t=13:=VL;exact YY
theorem Je0(o:Nat)(VV:bOK N U O m r v)(UI:o<=12):GD VQ (.loop Zo9) (Xt7 N U O m r v o):=by
 refine G6 [] (L:=[BG 17 (λk=>RO [k<=12] (Xt6 N U O m r v o k))]) (Ae RH (Ae LV (Ae R0 Aa))) (Ai Ab (Ag RL Ac)) U0 (GA (λcj hcj=>by
  have e:VU Zo9 0=some (.loop Jn3):=VX;rw [e] at hcj;cases hcj;exact P4 (λk=>FH (λh=>Jd9 N U O m r v o k VV UI h)))) (X:=Nat) (Wg4 N U O m r v o) (λf=>f<=13) (λf=>13-f) (CG N U O m r v o) (x0:=0) VW ?_ ?_ ?_
 ·rintro f;kernel_rfl
 ·rintro f y E h;unfold CG at h;split at h
  ·cases h;kernel_rfl
  ·cases h
 ·rintro Q hQ f hx;refine ⟨(f+1),?_⟩;(with_reducible refine DU (t:=let W:=(U1 (AV.ro [lst 2 3 λk=>[iI (oL k),iI (oH k)],iI 1,Q1 N U O m r v,Q2 m N,top]));let z1:=(fwO 12 (r0M N U O m r v) o);let z2:=(U1 (↑(HC m N):Int));let z3:=(U1 (lst 2 3 λk=>[iI (oL k),iI (oH k)]));(branch (decide ((f:Int)<13)) (need [f<=12] (need [W,U1 (agg QC),QO,QD=QD,X6,W5,U1 (o:Int),U1 (f:Int),XA,z3,U1 (↑(3:Nat):Int),XE,WS N U O m r v,U1 (N:Int),U1 (N:Int),U1 (Q2 m N),z2,z2,U1 (o:Int),U1 (f:Int),(0:Int)=(↑(0:Nat):Int),169=169,GV 169 (UZ (fwF 12 z1 o f)) (UZ (fwT (fwF 12 z1 o f) o f 0)),QX] (need [VN ((f:Int)+1)] (need [W,U1 (agg QC),QO,QD=QD,X6,W5,U1 (o:Int),XA,z3,U1 (↑(3:Nat):Int),XE,WS N U O m r v,U1 (N:Int),U1 (N:Int),U1 (Q2 m N),z2,z2,U1 (o:Int),(f:Int)+1=(↑(f+1):Int),169=169,GV 169 (UZ (fwT (fwF 12 z1 o f) o f 13)) (UZ (fwF 12 z1 o (f+1))),QX] (leaf GB.normal))))) (need [W,U1 (agg QC),QO,QD=QD,X6,W5,U1 (o:Int),XA,z3,U1 (↑(3:Nat):Int),XE,WS N U O m r v,U1 (N:Int),U1 (N:Int),U1 (Q2 m N),z2,z2,U1 (o:Int),(f:Int)=13,169=169,GV 169 (UZ (fwF 12 z1 o f)) (UZ (fwF 12 z1 o 13)),QX] (leaf (GB.exit 12))))) VX ?_)
  simp only [Jj3,CG,VO.sat,GX] at hQ;simp only [VO.sat,UE,G5,GL,UH,VN,UK,HG,RX,RP,LO,GS,CG]
  refine ⟨λh=>?_,λh=>?_⟩
  ·exact YY
  ·obtain rfl:f=13:=VL;exact YY
theorem Je1(VV:bOK N U O m r v):GD VQ (.loop Zp0) (Xt8 N U O m r v):=by
 refine G6 [] (L:=[BG 16 (λk=>RO [k<=12] (Xt7 N U O m r v k))]) (Ae RH (Ae LV (Ae R0 Aa))) (Ai Ab (Ag RL Ac)) U0 (GA (λcj hcj=>by
  have e:VU Zp0 0=some (.loop Zo9):=VX;rw [e] at hcj;cases hcj;exact P4 (λk=>FH (λh=>Je0 N U O m r v k VV h)))) (X:=Nat) (Wg5 N U O m r v) (λo=>o<=13) (λo=>13-o) (CH N U O m r v) (x0:=0) VW ?_ ?_ ?_
 ·rintro o;kernel_rfl
 ·rintro o y E h;unfold CH at h;split at h
  ·cases h;kernel_rfl
  ·cases h
 ·rintro Q hQ o hx;refine ⟨(o+1),?_⟩;(with_reducible refine DU (t:=let W:=(U1 (AV.ro [lst 2 3 λk=>[iI (oL k),iI (oH k)],iI 1,Q1 N U O m r v,Q2 m N,top]));let z1:=(U1 (↑(HC m N):Int));let z2:=(U1 (lst 2 3 λk=>[iI (oL k),iI (oH k)]));let z3:=(fwO 12 (r0M N U O m r v) o);(branch (decide ((o:Int)<13)) (need [o<=12] (need [W,U1 (agg QC),QO,QD=QD,X6,W5,U1 (o:Int),XA,z2,U1 (↑(3:Nat):Int),XE,WS N U O m r v,U1 (N:Int),U1 (N:Int),U1 (Q2 m N),z1,z1,U1 (o:Int),(0:Int)=(↑(0:Nat):Int),169=169,GV 169 (UZ z3) (UZ (fwF 12 z3 o 0)),QX] (need [VN ((o:Int)+1)] (need [W,U1 (agg QC),QO,QD=QD,X6,W5,XA,z2,U1 (↑(3:Nat):Int),XE,WS N U O m r v,U1 (N:Int),U1 (N:Int),U1 (Q2 m N),z1,z1,(o:Int)+1=(↑(o+1):Int),169=169,GV 169 (UZ (fwF 12 z3 o 13)) (UZ (fwO 12 (r0M N U O m r v) (o+1))),QX] (leaf GB.normal))))) (need [W,U1 (agg QC),QO,QD=QD,X6,W5,XA,z2,U1 (↑(3:Nat):Int),XE,WS N U O m r v,U1 (N:Int),U1 (N:Int),U1 (Q2 m N),z1,z1,(o:Int)=13,169=169,GV 169 (UZ z3) (UZ (fwO 12 (r0M N U O m r v) 13)),QX] (leaf (GB.exit 10))))) VX ?_)
  simp only [Jj4,CH,VO.sat,GX] at hQ;simp only [VO.sat,UE,G5,GL,UH,VN,UK,HG,RX,RP,LO,GS,CH]
  refine ⟨λh=>?_,λh=>?_⟩
  ·exact YY
  ·obtain rfl:o=13:=VL;exact YY
end
end Go.Proofs.YtakpdkmhclhlnaaGreatDoor.Hd
