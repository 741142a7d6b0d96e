/- Contracts, put together. Conditions: those of each. -/
import Derived.Test.YtlclobclmfhlmaaGreatDoorMd
import Derived.Lib.Walk
import Derived.Lib.SliceRun
import Derived.Lib.AppendZerosOnto
set_option linter.unusedSimpArgs false
set_option linter.unusedVariables false
set_option maxRecDepth 100000
namespace Go.Proofs.YtlclobclmfhlmaaGreatDoor.Bo
open Go Go.Sx Go.RowKit
open Go.Sx.VP (need branch leaf)
open Go.Sx.AV (lst ptr agg roI tup top)
end Go.Proofs.YtlclobclmfhlmaaGreatDoor.Bo
namespace Go.Proofs.YtlclobclmfhlmaaGreatDoor
open Go Go.Sx Go.RowKit Bo
open Go.Sx.VP (need branch leaf)
open Go.Sx.AV (lst ptr agg roI tup top)
theorem U1:Tryz.prog.follows .mixedOrders=true:=VW
abbrev i(n:Int):AV:= .x (.int .i64 n)
abbrev iI(n:Int):AV:= .x (.int .i64 n)
abbrev bl(b:Bool):AV:= .x (.bool b)
abbrev bt:=Bo.bt
abbrev insB:=Bo.insB
def dnI(n d:Int):Int:=n.tdiv d
def upI(n d:Int):Int:=(n+d-1).tdiv d
theorem bt_iff(U n O:Int):bt U n O=true↔U<=n/\n<=O:=Bo.bt_iff U n O
theorem insB_iff(U a b O:Int):insB U a b O=true↔U<=a/\a<=b/\b<=O:=Bo.insB_iff U a b O
theorem d7{n d:Int}(I:0<=n)(hd:1<=d):dnI n d*d<=n/\n<dnI n d*d+d/\0<=dnI n d/\dnI n d<=n:=by
 unfold dnI;rw [Int.tdiv_eq_ediv_of_nonneg I];have h1:=Int.mul_ediv_add_emod n d;have h2:=Int.emod_nonneg n (show d≠0 by omega)
 have h3:=Int.emod_lt_of_pos n (show 0<d by omega)
 have h4:=Int.ediv_nonneg I (show 0<=d by omega)
 have h5:=Int.ediv_le_self d I;rw [Int.mul_comm] at h1;omega
theorem T5{n d:Int}(I:0<=n)(hd:1<=d):upI n d*d-d<n/\n<=upI n d*d/\0<=upI n d/\upI n d<=n:=by
 have h:=d7 (n:=n+d-1) VM hd;have e:upI n d=dnI (n+d-1) d:=rfl;rw [e];refine ⟨VM,VM,h.2.2.1,?_⟩;rcases Int.lt_or_le n (dnI (n+d-1) d) with h1|h1
 ·have h2:=Int.mul_le_mul_of_nonneg_right (show n+1<=dnI (n+d-1) d by omega) (show 0<=d by omega)
  rw [Int.add_mul,Int.one_mul] at h2;have h3:=Int.mul_nonneg I (show 0<=d-1 by omega)
  rw [Int.mul_sub,Int.mul_one] at h3;omega
 ·exact h1
def BI:UY
 |[.x (.int .i64 n),.x (.int .i64 U),.x (.int .i64 O)]=>some ([],bl (bt U n O))
 |_=>none
abbrev Y0:Value:=Value.bool false
theorem xE(n U O:Int):U0 VR 102 [i n,i U,i O] (bl (bt U n O)):=by
 refine GZ Tryz.func102 (t:=branch (decide (U<=n)) (leaf (RV.x (.bool (decide (n<=O))))) (leaf (RV.x (Y0)))) VW ?_;simp only [VP.sat,UD,G8,GO,UG,UJ];all_goals (simp+contextual [bt,insB,Bo.bt,Bo.insB,Bool.and_assoc]);all_goals omega
theorem RM:VS VR 102 BI:=by
 refine ⟨(UK Tryz.func102),?_⟩;intro avs ns res h I;unfold BI at h;split at h
 ·cases h;exact xE _ _ _
 ·cases h
def BJ:UY
 |[.agg [.x (.int .i64 a),.x (.int .i64 b)],.x (.int .i64 U),.x (.int .i64 O)]=>some ([],bl (insB U a b O))
 |_=>none
theorem xT(a b U O:Int):U0 VR 130 [.agg [i a,i b],i U,i O] (bl (insB U a b O)):=by
 refine GZ Tryz.func130 (t:=branch (decide (U<=a)) (branch (decide (a<=b)) (leaf (RV.x (.bool (decide (b<=O))))) (leaf (RV.x (Y0)))) (leaf (RV.x (Y0)))) VW ?_;simp only [VP.sat,UD,G8,GO,UG,UJ];all_goals (simp+contextual [bt,insB,Bo.bt,Bo.insB,Bool.and_assoc]);all_goals omega
theorem B0:VS VR 130 BJ:=by
 refine ⟨(UK Tryz.func130),?_⟩;intro avs ns res h I;unfold BJ at h;split at h
 ·cases h;exact xT _ _ _ _
 ·cases h
def tO:UY
 |[.x (.int .i64 n),.x (.int .i64 d)]=>some ([1<=d/\d<=100000,0<=n/\n<=1000000000000],i (dnI n d))
 |_=>none
theorem Xn6(n d:Int)(VU:1<=d/\d<=100000)(UI:0<=n/\n<=1000000000000):U0 VR 135 [i n,i d] (i (dnI n d)):=by
 refine GZ Tryz.func135 (t:=need [d≠0,VO (Int.tdiv n d)] (leaf (RV.x (.int .i64 (Int.tdiv n d))))) VW ?_;have h:=d7 UI.1 VU.1;unfold dnI at h ⊢;exact VG
theorem b6:VS VR 135 tO:=by
 refine ⟨(UK Tryz.func135),?_⟩;intro avs ns res h I;unfold tO at h;split at h
 ·cases h;exact Xn6 _ _ (I _ VX) (I _ VX)
 ·cases h
def Zr5:UY
 |[.x (.int .i64 n),.x (.int .i64 d)]=>some ([1<=d/\d<=100000,0<=n/\n<=1000000000000],i (upI n d))
 |_=>none
theorem Zz5(n d:Int)(VU:1<=d/\d<=100000)(UI:0<=n/\n<=1000000000000):U0 VR 136 [i n,i d] (i (upI n d)):=by
 refine GZ Tryz.func136 (t:=need [VO (n+d)] (need [VO (n+d-1)] (need [d≠0,VO (Int.tdiv (n+d-1) d)] (leaf (RV.x (.int .i64 (Int.tdiv (n+d-1) d))))))) VW ?_;have h:=T5 UI.1 VU.1;unfold upI at h ⊢;exact VG
theorem Wb8:VS VR 136 Zr5:=by
 refine ⟨(UK Tryz.func136),?_⟩;intro avs ns res h I;unfold Zr5 at h;split at h
 ·cases h;exact Zz5 _ _ (I _ VX) (I _ VX)
 ·cases h
theorem Qg1{a Z:Int}(ha:0<=a/\a<=100)(hd:0<=Z/\Z<=100000):0<=a*Z/\a*Z<=10000000:=by
 have h1:=Int.mul_nonneg ha.1 hd.1;have h2:=Bo.mul_bd (x:=a) (y:=Z) (X:=100) (Y:=100000) VM VM;omega
def Qi3:UY
 |[.agg [.x (.int .i64 a),.x (.int .i64 b)],.x (.int .i64 Z)]=>some ([0<=a/\a<=100,0<=b/\b<=100,0<=Z/\Z<=100000],.agg [i (dnI (a*Z) 100),i (upI (b*Z) 100)])
 |_=>none
theorem We3(a b Z:Int)(VU:0<=a/\a<=100)(UI:0<=b/\b<=100)(HU:0<=Z/\Z<=100000):U0 VR 138 [.agg [i a,i b],i Z] (.agg [i (dnI (a*Z) 100),i (upI (b*Z) 100)]):=by
 refine U4 (L:=[]) (Ae b6 (Ae Wb8 Aa)) U1 Tryz.func138 (UW Tryz.f138) U6 (t:=need [VO (a*Z)] (need [(1:Int)<=100/\(100:Int)<=100000,(0:Int)<=a*Z/\a*Z<=1000000000000] (need [VO (b*Z)] (need [(1:Int)<=100/\(100:Int)<=100000,(0:Int)<=b*Z/\b*Z<=1000000000000] (leaf (RV.agg [RV.x (.int .i64 (dnI (a*Z) (100:Int))),RV.x (.int .i64 (upI (b*Z) (100:Int)))])))))) VW ?_;have h1:=Qg1 VU HU;have h2:=Qg1 UI HU;exact VG
theorem eG:VS VR 138 Qi3:=by
 refine ⟨(UK Tryz.func138),?_⟩;intro avs ns res h I;unfold Qi3 at h;split at h
 ·cases h;exact We3 _ _ _ (I _ VX) (I _ VX) (I _ VX)
 ·cases h
section
variable (f:Nat->Int)(k:Nat)(Z:Int)
def onL:Int:=f (4+2*k)-upI (f 3*Z) 100
def onH:Int:=f (5+2*k)-dnI (f 2*Z) 100
end
def teM(c:Int)(k:Nat):Int:=dnI (1000*k) c
def drB(f:Nat->Int):Prop:=(0<=f 2/\f 2<=100)/\(0<=f 3/\f 3<=100)
def bdB(f:Nat->Int):Prop:= ∀j,j<22-> -100000000000<=f (4+j)/\f (4+j)<=100000000000
theorem We4{f:Nat->Int}{Z:Int}(h:drB f)(hd:0<=Z/\Z<=100000):(0<=upI (f 3*Z) 100/\upI (f 3*Z) 100<=10000000)/\0<=dnI (f 2*Z) 100/\dnI (f 2*Z) 100<=10000000:=by
 have h1:=Qg1 h.1 hd;have h2:=Qg1 h.2 hd;have h3:=d7 h1.1 (show (1:Int)<=100 by omega)
 have h4:=T5 h2.1 (show (1:Int)<=100 by omega)
 omega
theorem pJ(c T U O:Int)(A B:AV)(f:Nat->Int)(k:Nat)(Z:Int)(VU:drB f)(UI:bdB f)(HU:k<=10)(F5:0<=Z/\Z<=100000):U0 VR 104 [.roI [i c,i T,i U,i O,A,B] 26 f 0,i k,i Z] (i (onL f k Z)):=by
 refine U4 (L:=[]) (Ae eG Aa) U1 Tryz.func104 (UW Tryz.f104) U6 (t:=need [UM k 11] (need [k*2+10+0-1-1-1-1-1-1<26] (need [2+2<=26] (need [(0:Int)<=f (2+nat_lit 0)/\f (2+nat_lit 0)<=100,(0:Int)<=f (2+nat_lit 1)/\f (2+nat_lit 1)<=100,(0:Int)<=Z/\Z<=100000] (need [VO (f (k*2+10+0-1-1-1-1-1-1)-upI (f (2+nat_lit 1)*Z) (100:Int))] (leaf (RV.x (.int .i64 (f (k*2+10+0-1-1-1-1-1-1)-upI (f (2+nat_lit 1)*Z) (100:Int)))))))))) VW ?_;have h0:=We4 VU F5;have h1:=UI (2*k) VM;have h2:=UI (2*k+1) VM;rw [show 4+(2*k+1)=5+2*k by omega] at h2
 have d1:=VU.1;have d2:=VU.2
 have hi6:VO (f (4+2*k)-upI (f 3*Z) 100):=by
  simp only [VO];omega
 simp only [VP.sat,UD,G8,GO,UG,UJ];rw [show k*2+10+0-1-1-1-1-1-1=4+2*k by omega]
 exact ⟨VM,VM,VM,⟨d1,d2,F5⟩,hi6,rfl⟩
def mP:UY
 |[.roI [.x (.int .i64 c),.x (.int .i64 T),.x (.int .i64 U),.x (.int .i64 O),A,B] 26 f 0,.x (.int .i64 k),.x (.int .i64 Z)]=>some ([drB f,bdB f,0<=k/\k<=10,0<=Z/\Z<=100000],i (onL f k.toNat Z))
 |_=>none
theorem pI:VS VR 104 mP:=by
 refine ⟨(UK Tryz.func104),?_⟩;intro avs ns res h I;unfold mP at h;split at h
 ·rename_i c T U O A B f k Z;cases h;have hk:0<=k/\k<=10:=I _ VX;have e:((k.toNat:Nat):Int)=k:=VM;have h0:=pJ c T U O A B f k.toNat Z (I _ VX) (I _ VX) VM (I _ VX);rw [e] at h0;exact h0
 ·cases h
theorem aM(c T U O:Int)(A B:AV)(f:Nat->Int)(k:Nat)(Z:Int)(VU:drB f)(UI:bdB f)(HU:k<=10)(F5:0<=Z/\Z<=100000):U0 VR 105 [.roI [i c,i T,i U,i O,A,B] 26 f 0,i k,i Z] (i (onH f k Z)):=by
 refine U4 (L:=[]) (Ae eG Aa) U1 Tryz.func105 (UW Tryz.f105) U6 (t:=need [UM k 11] (need [k*2+10+1-1-1-1-1-1-1<26] (need [2+2<=26] (need [(0:Int)<=f (2+nat_lit 0)/\f (2+nat_lit 0)<=100,(0:Int)<=f (2+nat_lit 1)/\f (2+nat_lit 1)<=100,(0:Int)<=Z/\Z<=100000] (need [VO (f (k*2+10+1-1-1-1-1-1-1)-dnI (f (2+nat_lit 0)*Z) (100:Int))] (leaf (RV.x (.int .i64 (f (k*2+10+1-1-1-1-1-1-1)-dnI (f (2+nat_lit 0)*Z) (100:Int)))))))))) VW ?_;have h0:=We4 VU F5;have h1:=UI (2*k) VM;have h2:=UI (2*k+1) VM;rw [show 4+(2*k+1)=5+2*k by omega] at h2
 have d1:=VU.1;have d2:=VU.2
 have hi6:VO (f (5+2*k)-dnI (f 2*Z) 100):=by
  simp only [VO];omega
 simp only [VP.sat,UD,G8,GO,UG,UJ];rw [show k*2+10+1-1-1-1-1-1-1=5+2*k by omega]
 exact ⟨VM,VM,VM,⟨d1,d2,F5⟩,hi6,rfl⟩
def MF:UY
 |[.roI [.x (.int .i64 c),.x (.int .i64 T),.x (.int .i64 U),.x (.int .i64 O),A,B] 26 f 0,.x (.int .i64 k),.x (.int .i64 Z)]=>some ([drB f,bdB f,0<=k/\k<=10,0<=Z/\Z<=100000],i (onH f k.toNat Z))
 |_=>none
theorem aL:VS VR 105 MF:=by
 refine ⟨(UK Tryz.func105),?_⟩;intro avs ns res h I;unfold MF at h;split at h
 ·rename_i c T U O A B f k Z;cases h;have hk:0<=k/\k<=10:=I _ VX;have e:((k.toNat:Nat):Int)=k:=VM;have h0:=aM c T U O A B f k.toNat Z (I _ VX) (I _ VX) VM (I _ VX);rw [e] at h0;exact h0
 ·cases h
theorem Je9(c T U O:Int)(A B:AV)(f:Nat->Int)(k:Nat)(Z:Int)(VU:drB f)(UI:bdB f)(HU:k<=10)(F5:0<=Z/\Z<=100000):U0 VR 76 [.roI [i c,i T,i U,i O,A,B] 26 f 0,i k,i Z] (.agg [i (onL f k Z),i (onH f k Z)]):=by
 refine U4 (L:=[]) (Ae pI (Ae aL Aa)) U1 Tryz.func76 (UW Tryz.f76) U6 (t:=need [drB f,bdB f,(0:Int)<=(k:Int)/\(k:Int)<=10,(0:Int)<=Z/\Z<=100000] (need [drB f,bdB f,(0:Int)<=(k:Int)/\(k:Int)<=10,(0:Int)<=Z/\Z<=100000] (leaf (RV.agg [RV.x (.int .i64 (onL f k Z)),RV.x (.int .i64 (onH f k Z))])))) VW ?_;simp only [VP.sat,UD,G8,GO,UG,UJ,DP];exact ⟨⟨VU,UI,VM,F5⟩,⟨VU,UI,VM,F5⟩⟩
def Jr1:UY
 |[.roI [.x (.int .i64 c),.x (.int .i64 T),.x (.int .i64 U),.x (.int .i64 O),A,B] 26 f 0,.x (.int .i64 k),.x (.int .i64 Z)]=>some ([drB f,bdB f,0<=k/\k<=10,0<=Z/\Z<=100000],.agg [i (onL f k.toNat Z),i (onH f k.toNat Z)])
 |_=>none
theorem Wh5:VS VR 76 Jr1:=by
 refine ⟨(UK Tryz.func76),?_⟩;intro avs ns res h I;unfold Jr1 at h;split at h
 ·rename_i c T U O A B f k Z;cases h;have hk:0<=k/\k<=10:=I _ VX;have e:((k.toNat:Nat):Int)=k:=VM;have h0:=Je9 c T U O A B f k.toNat Z (I _ VX) (I _ VX) VM (I _ VX);rw [e] at h0;exact h0
 ·cases h
theorem Xu8{c:Int}{k:Nat}(hc:1<=c/\c<=10)(hk:k<=10):0<=teM c k/\teM c k<=10000:=by
 have:=d7 (n:=1000*k) VM hc.1;unfold teM;omega
theorem Wc3(c T U O:Int)(A B:AV)(f:Nat->Int)(k:Nat)(VU:1<=c/\c<=10)(UI:k<=10):U0 VR 166 [.roI [i c,i T,i U,i O,A,B] 26 f 0,i k] (i (teM c k)):=by
 refine GZ Tryz.func166 (t:=need [VO ((1000:Int)*(k:Int))] (need [c≠0,VO (Int.tdiv ((1000:Int)*(k:Int)) c)] (leaf (RV.x (.int .i64 (Int.tdiv ((1000:Int)*(k:Int)) c)))))) VW ?_;have h:=Xu8 VU UI;unfold teM dnI at h ⊢;exact VG
def Qi1:UY
 |[.roI [.x (.int .i64 c),.x (.int .i64 T),.x (.int .i64 U),.x (.int .i64 O),A,B] 26 f 0,.x (.int .i64 k)]=>some ([1<=c/\c<=10,0<=k/\k<=10],i (teM c k.toNat))
 |_=>none
theorem Wc2:VS VR 166 Qi1:=by
 refine ⟨(UK Tryz.func166),?_⟩;intro avs ns res h I;unfold Qi1 at h;split at h
 ·rename_i c T U O A B f k;cases h;have hk:0<=k/\k<=10:=I _ VX;have e:((k.toNat:Nat):Int)=k:=VM;have h0:=Wc3 c T U O A B f k.toNat (I _ VX) VM;rw [e] at h0;exact h0
 ·cases h
theorem NE(c T U O:Int)(A B:AV)(f:Nat->Int)(k:Nat)(Z:Int)(VU:drB f)(UI:bdB f)(HU:k<=10)(F5:0<=Z/\Z<=100000)(BU:1<=c/\c<=10):U0 VR 129 [.roI [i c,i T,i U,i O,A,B] 26 f 0,i k,i Z] (.agg [i (onL f k Z-teM c k),i (onH f k Z-teM c k)]):=by
 refine U4 (L:=[]) (Ae Wh5 (Ae Wc2 Aa)) U1 Tryz.func129 (UW Tryz.f129) U6 (t:=need [drB f,bdB f,(0:Int)<=(k:Int)/\(k:Int)<=10,(0:Int)<=Z/\Z<=100000] (need [(1:Int)<=c/\c<=10,(0:Int)<=(k:Int)/\(k:Int)<=10] (need [VO (onL f k Z-teM c k)] (need [(1:Int)<=c/\c<=10,(0:Int)<=(k:Int)/\(k:Int)<=10] (need [VO (onH f k Z-teM c k)] (leaf (RV.agg [RV.x (.int .i64 (onL f k Z-teM c k)),RV.x (.int .i64 (onH f k Z-teM c k))]))))))) VW ?_;have h0:=We4 VU F5;have h1:=UI (2*k) VM;have h2:=UI (2*k+1) VM;rw [show 4+(2*k+1)=5+2*k by omega] at h2
 have d1:=VU.1;have d2:=VU.2
 have h5:=Xu8 BU HU;unfold onL onH;simp only [VP.sat,UD,G8,GO,UG,VO,UJ,DP,onL,onH];refine ⟨⟨VU,UI,VM,F5⟩,⟨BU,VM⟩,VM,⟨BU,VM⟩,VM⟩
def dF:UY
 |[.roI [.x (.int .i64 c),.x (.int .i64 T),.x (.int .i64 U),.x (.int .i64 O),A,B] 26 f 0,.x (.int .i64 k),.x (.int .i64 Z)]=>some ([drB f,bdB f,0<=k/\k<=10,0<=Z/\Z<=100000,1<=c/\c<=10],.agg [i (onL f k.toNat Z-teM c k.toNat),i (onH f k.toNat Z-teM c k.toNat)])
 |_=>none
theorem ND:VS VR 129 dF:=by
 refine ⟨(UK Tryz.func129),?_⟩;intro avs ns res h I;unfold dF at h;split at h
 ·rename_i c T U O A B f k Z;cases h;have hk:0<=k/\k<=10:=I _ VX;have e:((k.toNat:Nat):Int)=k:=VM;have h0:=NE c T U O A B f k.toNat Z (I _ VX) (I _ VX) VM (I _ VX) (I _ VX);rw [e] at h0;exact h0
 ·cases h
def keP(c:Int)(f:Nat->Int)(wi Z x:Int):Bool:=insB (-wi) (onL f x.toNat Z-teM c x.toNat) (onH f x.toNat Z-teM c x.toNat) wi
def mkV(p:Int)(j:Nat):List Value:=[.int .i64 (p+j)]
def Qi8:UY
 |[.x (.int .i64 x),.ro [.roI [.x (.int .i64 c),.x (.int .i64 T),.x (.int .i64 U),.x (.int .i64 O),A,B] 26 f 0],.ro [.x (.int .i64 Z)],.ro [.x (.int .i64 S),.x (.int .i64 W),.x (.int .i64 wi)]]=>some ([drB f,bdB f,1<=c/\c<=10,0<=Z/\Z<=100000,0<=wi/\wi<=1000000,0<=x/\x<=10],bl (keP c f wi Z x))
 |_=>none
section
variable (x:Int)(c T U O:Int)(A B:AV)(f:Nat->Int)(Z S W wi:Int)
theorem Wk2(VU:drB f)(UI:bdB f)(HU:1<=c/\c<=10)(F5:0<=Z/\Z<=100000)(BU:0<=wi/\wi<=1000000)(zT:0<=x/\x<=10):U0 VR 128 [i x,.ro [.roI [i c,i T,i U,i O,A,B] 26 f 0],.ro [i Z],.ro [i S,i W,i wi]] (bl (keP c f wi Z x)):=by
 refine U4 (L:=[]) (Ae ND (Ae B0 Aa)) U1 Tryz.func128 (UW Tryz.f128) U6 (t:=need [drB f,bdB f,(0:Int)<=x/\x<=10,(0:Int)<=Z/\Z<=100000,(1:Int)<=c/\c<=10] (need [VO (-wi)] (leaf (RV.x (.bool (insB (-wi) (onL f (Int.toNat x) Z-teM c (Int.toNat x)) (onH f (Int.toNat x) Z-teM c (Int.toNat x)) wi)))))) VW ?_;simp only [VP.sat,UD,G8,GO,UG,VO,UJ,keP];exact ⟨⟨VU,UI,zT,F5,HU⟩,VM⟩
theorem Wk1:VS VR 128 Qi8:=by
 refine ⟨(UK Tryz.func128),?_⟩;intro avs ns res h I;unfold Qi8 at h;split at h
 ·cases h;exact Wk2 _ _ _ _ _ _ _ _ _ _ _ _ (I _ VX) (I _ VX) (I _ VX) (I _ VX) (I _ VX) (I _ VX)
 ·cases h
theorem Wy8(VU:drB f)(UI:bdB f)(HU:1<=c/\c<=10)(F5:0<=Z/\Z<=100000)(BU:0<=wi/\wi<=1000000)(zT:0<=x/\x<=10):U0 VR 164 [i x,.ro [.fn (.func 128) [] [.ro [.roI [i c,i T,i U,i O,A,B] 26 f 0],.ro [i Z],.ro [i S,i W,i wi]]]] (bl (!(keP c f wi Z x))):=by
 refine U4 (L:=[]) (Ae Wk1 Aa) U1 Tryz.func164 (UW Tryz.f164) U6 (t:=need [drB f,bdB f,(1:Int)<=c/\c<=10,(0:Int)<=Z/\Z<=100000,(0:Int)<=wi/\wi<=1000000,(0:Int)<=x/\x<=10] (leaf (RV.x (.bool !keP c f wi Z x)))) VW ?_;simp only [VP.sat,UD,G8,GO,UG,UJ];exact ⟨VU,UI,HU,F5,BU,zT⟩
end
def Qk1:UY
 |[.x (.int .i64 x),.ro [.fn (.func 128) [] [.ro [.roI [.x (.int .i64 c),.x (.int .i64 T),.x (.int .i64 U),.x (.int .i64 O),A,B] 26 f 0],.ro [.x (.int .i64 Z)],.ro [.x (.int .i64 S),.x (.int .i64 W),.x (.int .i64 wi)]]]]=>some ([drB f,bdB f,1<=c/\c<=10,0<=Z/\Z<=100000,0<=wi/\wi<=1000000,0<=x/\x<=10],bl (!(keP c f wi Z x)))
 |_=>none
theorem mJ:VS VR 164 Qk1:=by
 refine ⟨(UK Tryz.func164),?_⟩;intro avs ns res h I;unfold Qk1 at h;split at h
 ·cases h;exact Wy8 _ _ _ _ _ _ _ _ _ _ _ _ (I _ VX) (I _ VX) (I _ VX) (I _ VX) (I _ VX) (I _ VX)
 ·cases h
abbrev WC(c:Int)(T:Int)(U:Int)(O:Int)(A:AV)(B:AV)(f:Nat->Int)(Z:Int)(S:Int)(W:Int)(wi:Int):AV:=AV.fn (Fn.func 164) [] [AV.ro [AV.fn (Fn.func 128) [] [AV.ro [roI [iI c,iI T,iI U,iI O,A,B] 26 (λa=>f a) 0],AV.ro [iI Z],AV.ro [iI S,iI W,iI wi]]]]
section
variable (n:Nat)(g:Nat->Int)
abbrev KB:AV:=lst 1 n λk=>[iI (g k)]
def Xe0(c T U O:Int)(A B:AV)(f:Nat->Int)(Z S W wi:Int):St:={σ:=[KB n g,WC c T U O A B f Z S W wi]++HM 5 [iI (n:Int)]++HM 11 [],m:=[],nx:=4}
noncomputable def Js0:Code:=UC (VV (U9 Tryz.f197) 0)
def Wk4(c T U O:Int)(A B:AV)(f:Nat->Int)(Z S W wi:Int)(k:Nat):St:=(upM [(8,i k)] (Xe0 n g c T U O A B f Z S W wi))
def dR(c T U O:Int)(A B:AV)(f:Nat->Int)(Z S W wi:Int)(k:Nat):G9->Option St
 | .ret=>some (upM [(4,i (H0 ((λk=> !(keP c f wi Z (g k)))) n))] (Xe0 n g c T U O A B f Z S W wi))
 | .exit 0=>some (upM [] (Xe0 n g c T U O A B f Z S W wi))
 |_=>none
def Jn3(c T U O:Int)(A B:AV)(f:Nat->Int)(Z S W wi:Int):CT:= .branch (decide (H0 ((λk=> !(keP c f wi Z (g k)))) n<n)) (.leaf (.ret,(dR n g c T U O A B f Z S W wi 0 .ret).getD (Xe0 n g c T U O A B f Z S W wi))) (.leaf (.exit 0,(dR n g c T U O A B f Z S W wi 0 (.exit 0)).getD (Xe0 n g c T U O A B f Z S W wi)))
def Xy0(c T U O:Int)(A B:AV)(f:Nat->Int)(Z S W wi:Int):UL:=(HK (Wk4 n g c T U O A B f Z S W wi (0)) (Jn3 n g c T U O A B f Z S W wi))
theorem Zw8(c T U O:Int)(A B:AV)(f:Nat->Int)(Z S W wi:Int)(VU:n<=100000)(UI:drB f)(HU:bdB f)(F5:1<=c/\c<=10)(BU:0<=Z/\Z<=100000)(zT:0<=wi/\wi<=1000000)(oU: ∀j,j<n->0<=g j/\g j<=10):GA VR (.loop Js0) (Xy0 n g c T U O A B f Z S W wi):=by
 refine HJ (L:=[]) (Ae mJ Aa) U1 U6 (X:=Nat) (Wk4 n g c T U O A B f Z S W wi) (λk=>k<=n/\ ∀j,j<k->(λk=> !(keP c f wi Z (g k))) j=false) (λk=>n-k) (dR n g c T U O A B f Z S W wi) (x0:=0) ⟨VM,λj hj=>VM⟩ ?_ ?_ ?_
 ·rintro k;kernel_rfl
 ·rintro k y E h;unfold dR at h;split at h
  ·cases h;kernel_rfl
  ·cases h;kernel_rfl
  ·cases h
 ·rintro Q hQ k hx;refine ⟨(k+1),?_⟩;(with_reducible refine DL (t:=let z0:=(U2 (WC c T U O A B f Z S W wi));(branch (decide ((k:Int)<(n:Int))) (need [UM k n] (need [drB λa=>f a,bdB λa=>f a,(1:Int)<=c/\c<=10,(0:Int)<=Z/\Z<=100000,(0:Int)<=wi/\wi<=1000000,(0:Int)<=g k/\g k<=10] (branch (!keP c (λa=>f a) wi Z (g k)) (need [U2 (KB n g),z0,(k:Int)=(↑(H0 (λk=> !keP c f wi Z (g k)) n):Int),U2 (n:Int)] (leaf G9.ret)) (need [VO ((k:Int)+1)] (need [U2 (KB n g),z0,U2 (n:Int),(k:Int)+1=(↑(k+1):Int)] (leaf G9.normal)))))) (need [U2 (KB n g),z0,U2 (n:Int)] (leaf (G9.exit 0))))) VW ?_)
  simp only [Jn3,dR,VP.sat,GX,HB] at hQ;simp only [VP.sat,UD,UJ,HB,VO,dR,DP];refine ⟨λh=>⟨VM,⟨UI,HU,F5,BU,zT,oU k VM⟩,?_⟩,λh=>?_⟩
  rotate_left
  ·have hf:H0 ((λk=> !(keP c f wi Z (g k)))) n=n:=qH (λj hj=>hx.2 j VM)
   intro E hE;cases hE;exact hQ.2 VM
  refine ⟨λhb=>?_,λhb=>?_⟩
  ·have hf:H0 ((λk=> !(keP c f wi Z (g k)))) n=k:=jB VM hb hx.2
   refine ⟨VM,λE hE=>?_⟩
   cases hE;exact hQ.1 VM
  ·refine ⟨VM,VM,⟨VM,λj hj=>?_⟩,VM⟩
   rcases (show j<k\/j=k by omega) with h1|rfl
   ·exact hx.2 j h1
   ·exact hb
theorem Zd0(c T U O:Int)(A B:AV)(f:Nat->Int)(Z S W wi:Int)(VU:n<=100000)(UI:drB f)(HU:bdB f)(F5:1<=c/\c<=10)(BU:0<=Z/\Z<=100000)(zT:0<=wi/\wi<=1000000)(oU: ∀j,j<n->0<=g j/\g j<=10):U0 VR 197 [.lst 1 n (λk=>[i (g k)]),.fn (.func 164) [] [.ro [.fn (.func 128) [] [.ro [.roI [i c,i T,i U,i O,A,B] 26 f 0],.ro [i Z],.ro [i S,i W,i wi]]]]] (i (if H0 ((λk=> !(keP c f wi Z (g k)))) n<n then (H0 ((λk=> !(keP c f wi Z (g k)))) n:Int) else -1)):=by
 refine U4 (L:=[Xy0 n g c T U O A B f Z S W wi]) (Ae mJ Aa) U1 Tryz.func197 (UW Tryz.f197) (UZ (lpE (b:= .loop Js0) VW<|Zw8 n g c T U O A B f Z S W wi VU UI HU F5 BU zT oU)) (t:=need [U2 (KB n g),U2 (WC c T U O A B f Z S W wi),U2 (n:Int),(0:Int)=(↑(0:Nat):Int)] (branch (decide (H0 (λk=> !keP c f wi Z (g k)) n<n)) (leaf (RV.x (.int .i64 (↑(H0 (λk=> !keP c f wi Z (g k)) n):Int)))) (leaf (RV.x (.int .i64 (-1:Int)))))) VW ?_
 exact VF
end
def Xx2:UY
 |[.lst 1 n g,.fn (.func 164) [] [.ro [.fn (.func 128) [] [.ro [.roI [.x (.int .i64 c),.x (.int .i64 T),.x (.int .i64 U),.x (.int .i64 O),A,B] 26 f 0],.ro [.x (.int .i64 Z)],.ro [.x (.int .i64 S),.x (.int .i64 W),.x (.int .i64 wi)]]]]]=>some ([UH 1 n g,n<=100000,drB f,bdB f,1<=c/\c<=10,0<=Z/\Z<=100000,0<=wi/\wi<=1000000,∀j,j<n->0<=col 0 g j/\col 0 g j<=10],i (if H0 ((λk=> !(keP c f wi Z (col 0 g k)))) n<n then (H0 ((λk=> !(keP c f wi Z (col 0 g k)))) n:Int) else -1))
 |_=>none
theorem Zc9:VS VR 197 Xx2:=by
 refine ⟨(UK Tryz.func197),?_⟩;intro avs ns res h I;unfold Xx2 at h;split at h
 ·cases h;have hr:UH 1 _ _:=I _ (GJ);exact (Zd0 _ (col 0 _) _ _ _ _ _ _ _ _ _ _ _ (I _ VX) (I _ VX) (I _ VX) (I _ VX) (I _ VX) (I _ VX) (I _ VX)).same (.cons (.lst 1 _ _ _ hr) (.cons (.refl _) .nil))
 ·cases h
theorem Zq6(n:Nat)(g:Nat->Int)(c T U O:Int)(A B:AV)(f:Nat->Int)(Z S W wi:Int)(VU:n<=100000)(UI:drB f)(HU:bdB f)(F5:1<=c/\c<=10)(BU:0<=Z/\Z<=100000)(zT:0<=wi/\wi<=1000000)(oU: ∀j,j<n->0<=g j/\g j<=10):U0 VR 163 [.lst 1 n (λk=>[i (g k)]),.fn (.func 164) [] [.ro [.fn (.func 128) [] [.ro [.roI [i c,i T,i U,i O,A,B] 26 f 0],.ro [i Z],.ro [i S,i W,i wi]]]]] (bl (!DD (λk=>keP c f wi Z (g k)) n)):=by
 refine U4 (L:=[]) (Ae Zc9 Aa) U1 Tryz.func163 (UW Tryz.f163) U6 (t:=need [UH 1 n λk=>[i (g k)],n<=100000,drB f,bdB f,(1:Int)<=c/\c<=10,(0:Int)<=Z/\Z<=100000,(0:Int)<=wi/\wi<=1000000,∀(j:Nat),j<n->(0:Int)<=g j/\g j<=10] (leaf (RV.x (.bool (decide ((if H0 (λk=> !keP c f wi Z (g k)) n<n then (↑(H0 (λk=> !keP c f wi Z (g k)) n):Int) else (-1:Int))>=(0:Int))))))) VW ?_
 simp only [VP.sat,UD,G8,UG,UJ];refine ⟨⟨λ_ _=>rfl,VU,UI,HU,F5,BU,zT,oU⟩,?_⟩
 rw [kY];have e:(λk=> !(λk=>keP c f wi Z (g k)) k)=(λk=> !(keP c f wi Z (g k))):=rfl
 rw [e];show decide ((if H0 (λk=> !(keP c f wi Z (g k))) n<n then (H0 (λk=> !(keP c f wi Z (g k))) n:Int) else -1)>=0)=_
 have:=F6 ((λk=> !(keP c f wi Z (g k)))) n
 split<;>simp<;>omega
def Xx7:UY
 |[.lst 1 n g,.fn (.func 164) [] [.ro [.fn (.func 128) [] [.ro [.roI [.x (.int .i64 c),.x (.int .i64 T),.x (.int .i64 U),.x (.int .i64 O),A,B] 26 f 0],.ro [.x (.int .i64 Z)],.ro [.x (.int .i64 S),.x (.int .i64 W),.x (.int .i64 wi)]]]]]=>some ([UH 1 n g,n<=100000,drB f,bdB f,1<=c/\c<=10,0<=Z/\Z<=100000,0<=wi/\wi<=1000000,∀j,j<n->0<=col 0 g j/\col 0 g j<=10],bl (!DD (λk=>keP c f wi Z (col 0 g k)) n))
 |_=>none
theorem Zq5:VS VR 163 Xx7:=by
 refine ⟨(UK Tryz.func163),?_⟩;intro avs ns res h I;unfold Xx7 at h;split at h
 ·cases h;have hr:UH 1 _ _:=I _ (GJ);exact (Zq6 _ (col 0 _) _ _ _ _ _ _ _ _ _ _ _ (I _ VX) (I _ VX) (I _ VX) (I _ VX) (I _ VX) (I _ VX) (I _ VX)).same (.cons (.lst 1 _ _ _ hr) (.cons (.refl _) .nil))
 ·cases h
theorem Xq2(n:Nat)(g:Nat->Int)(c T U O:Int)(A B:AV)(f:Nat->Int)(Z S W wi:Int)(VU:n<=100000)(UI:drB f)(HU:bdB f)(F5:1<=c/\c<=10)(BU:0<=Z/\Z<=100000)(zT:0<=wi/\wi<=1000000)(oU: ∀j,j<n->0<=g j/\g j<=10):U0 VR 126 [.lst 1 n (λk=>[i (g k)]),.fn (.func 128) [] [.ro [.roI [i c,i T,i U,i O,A,B] 26 f 0],.ro [i Z],.ro [i S,i W,i wi]]] (bl (DD (λk=>keP c f wi Z (g k)) n)):=by
 refine U4 (L:=[]) (Ae Zq5 Aa) U1 Tryz.func126 (UW Tryz.f126) U6 (t:=need [UH 1 n λk=>[i (g k)],n<=100000,drB f,bdB f,(1:Int)<=c/\c<=10,(0:Int)<=Z/\Z<=100000,(0:Int)<=wi/\wi<=1000000,∀(j:Nat),j<n->(0:Int)<=g j/\g j<=10] (leaf (RV.x (.bool !!DD (λk=>keP c f wi Z (g k)) n)))) VW ?_
 simp only [VP.sat,UD,G8,UG,UJ];refine ⟨⟨λ_ _=>rfl,VU,UI,HU,F5,BU,zT,oU⟩,?_⟩
 show (!!DD (λk=>keP c f wi Z (g k)) n)=_
 simp
def Xa8:UY
 |[.lst 1 n g,.fn (.func 128) [] [.ro [.roI [.x (.int .i64 c),.x (.int .i64 T),.x (.int .i64 U),.x (.int .i64 O),A,B] 26 f 0],.ro [.x (.int .i64 Z)],.ro [.x (.int .i64 S),.x (.int .i64 W),.x (.int .i64 wi)]]]=>some ([UH 1 n g,n<=100000,drB f,bdB f,1<=c/\c<=10,0<=Z/\Z<=100000,0<=wi/\wi<=1000000,∀j,j<n->0<=col 0 g j/\col 0 g j<=10],bl (DD (λk=>keP c f wi Z (col 0 g k)) n))
 |_=>none
theorem Xq1:VS VR 126 Xa8:=by
 refine ⟨(UK Tryz.func126),?_⟩;intro avs ns res h I;unfold Xa8 at h;split at h
 ·cases h;have hr:UH 1 _ _:=I _ (GJ);exact (Xq2 _ (col 0 _) _ _ _ _ _ _ _ _ _ _ _ (I _ VX) (I _ VX) (I _ VX) (I _ VX) (I _ VX) (I _ VX) (I _ VX)).same (.cons (.lst 1 _ _ _ hr) (.cons (.refl _) .nil))
 ·cases h
def bN:UY
 |[.x (.int .i64 p),.x (.int .i64 q)]=>some ([],.fn (.func 137) [] [.ro [i p],.ro [i q]])
 |_=>none
abbrev XT(p:Int)(q:Int):AV:=AV.fn (Fn.func 137) [] [AV.ro [iI p],AV.ro [iI q]]
abbrev K1:Ext:={}
theorem Wi9(p q:Int):FF VR 103 [i p,i q] (.fn (.func 137) [] [.ro [i p],.ro [i q]]):=by
 refine D0 (L:=[]) Aa Ad U1 Tryz.func103 (UW Tryz.f103) G7 (t:=leaf (XT p q)) VW ?_;exact rfl
theorem dX:P5 VR 103 bN:=by
 refine ⟨(UK Tryz.func103),?_⟩;intro avs ns res h I;unfold bN at h;split at h
 ·cases h;exact Wi9 _ _
 ·cases h
section
variable (l:Nat)
abbrev YF:AV:=AV.fn (Fn.yield l) [] []
def Xe8(p q:Int):St:={σ:=[YF l,AV.ro [iI p],AV.ro [iI q]]++HM 12 [],m:=[],nx:=2,gh:=some 0}
noncomputable def Zw1:Code:=UC (VV (U9 Tryz.f137) 0)
def aJ(p q:Int)(j:Nat):St:={σ:=H4 [(4,i (p+j))] (Xe8 l p q).σ,m:=[],nx:=0,gh:=some (j) }
def kE(p q:Int)(j:Nat):G9->Option St
 | .exit 0=>some {σ:=H4 [] (Xe8 l p q).σ,m:=[],nx:=0,gh:=some ((q-p+1).toNat) }
 | .ret=>some {σ:=H4 [] (Xe8 l p q).σ,m:=[],nx:=0,gh:=none}
 |_=>none
def Jp1(p q:Int):CT:= .may True (.leaf (.exit 0,(kE l p q 0 (.exit 0)).getD (Xe8 l p q))) (.leaf (.ret,(kE l p q 0 .ret).getD (Xe8 l p q)))
def Za1(p q:Int):UL:=GM [] (HK (aJ l p q (0)) (Jp1 l p q))
theorem Jf5(p q:Int)(VU: -1000000<=p/\p<=1000000)(UI: -1000000<=q/\q<=1000000){cx:Cx}(hX:VZ VR {Y:=some (l,((q-p+1).toNat),(mkV p)) } cx):HL VR none cx (.loop Zw1) (Za1 l p q):=by
 refine F2 [] (L:=[]) Aa hX U1 G7 (V:=Nat) (aJ l p q) (λj=>j<=((q-p+1).toNat)) (λj=>((q-p+1).toNat)-j) (kE l p q) (x0:=0) VX ?_ ?_ ?_
 ·rintro j;kernel_rfl
 ·rintro j y E h;unfold kE at h;split at h
  ·cases h;kernel_rfl
  ·cases h;kernel_rfl
  ·cases h
 ·rintro Q hQ j hx;refine ⟨(j+1),?_⟩;have e:HP VR [] {Y:=some (l,((q-p+1).toNat),(mkV p)) } [] [] Zw1 (aJ l p q j) (aJ l p q ((j+1))) (kE l p q j)=(branch (decide (p+(j:Int)<=q)) (need [l=l,j<(q-p+1).toNat,U2 ([Value.int IntKind.i64 (p+(j:Int))])] (VP.may True (need [VO (p+(j:Int)+1)] (need [YF l=YF l,U2 (AV.ro [iI p]),U2 (AV.ro [iI q]),p+(j:Int)+1=p+(↑(j+1):Int),j+1=j+1] (leaf G9.normal))) (need [YF l=YF l,U2 (AV.ro [iI p]),U2 (AV.ro [iI q])] (leaf G9.ret)))) (need [YF l=YF l,U2 (AV.ro [iI p]),U2 (AV.ro [iI q]),j=(q-p+1).toNat] (leaf (G9.exit 0)))):=VW;rw [e];simp only [Jp1,kE,VP.sat,GX] at hQ;have hQ1: ∀E,kE l p q j (.exit 0)=some E->Q (.exit 0,E):=λE hE=>by cases hE;exact hQ.1 trivial
  have hQ2: ∀E,kE l p q j .ret=some E->Q (.ret,E):=λE hE=>by cases hE;exact hQ.2
  simp only [VP.sat,UD,UJ,HB,VO,DP];clear e hQ;all_goals exact VA
end
theorem ER(p q:Int)(VU: -1000000<=p/\p<=1000000)(UI: -1000000<=q/\q<=1000000):PN Tryz.prog 137 [.ro [i p],.ro [i q]] (((q-p+1).toNat)) (mkV p):=by
 refine PD (L:=λl=>[Za1 l p q]) Aa U1 (UK Tryz.func137) Tryz.func137 (UW Tryz.f137) VW (λl cx hX=>UZ (lpE (b:= .loop Zw1) VW<|Jf5 l p q VU UI hX)) (t:=λl=>(need [U2 (AV.fn (Fn.yield l) [] []),U2 (AV.ro [iI p]),U2 (AV.ro [iI q]),p=p+(↑(0:Nat):Int),0=0] (VP.may True (need [U2 (q-p+1).toNat] (leaf PUnit.unit)) (leaf PUnit.unit)))) (λl=>VW) ?_
 intro l;simp only [VP.sat,UD,G8,GO,UG,VO,UJ,HB,RE];all_goals exact VA
theorem cat1{p:Int}{k j:Nat}(h:j<k+1):GI k (λj=>[i (p+j)]) (U8 1 [i (p+k)]) j=[i (p+j)]:=by
 show HD (decide (j<k)) [i (p+j)] (U8 1 [i (p+k)] (j-k))=_;rw [show j-k=0 by omega]
 by_cases hj:j<k
 ·rw [decide_eq_true hj];rfl
 ·obtain rfl:j=k:=VM;rw [decide_eq_false hj];rfl
abbrev Z9:AV:=AV.x (.slice none 0 0)
section
variable (p q:Int)
def Jr9:St:={σ:=[Z9,XT p q,ptr 0 0,top,Z9,top,XT p q]++HM 6 [],m:=[(900,GS.row 3 1 0 λx=>[]),(0,GS.cells 61 [AV.row 900])],nx:=901}
def rfF:Option Code->Operand
 |some (.rangeFunc f _ _ _)=>f
 |_=> .const .nilFunc
def zQ:Option Code->Array Nat
 |some (.rangeFunc _ ps _ _)=>ps
 |_=>#[]
def MX:Option Code->Code
 |some (.rangeFunc _ _ a _)=>a
 |_=> .skip
def MW:Option Code->Code
 |some (.rangeFunc _ _ _ b)=>b
 |_=> .skip
noncomputable def Jw0:Code:=MX (VV (U9 Tryz.f165) 0)
noncomputable def Jv3:Code:=MW (VV (U9 Tryz.f165) 0)
def pU(k:Nat):St:={σ:=H4 [] (Jr9 p q).σ,m:=[(900,.row 3 1 k (λj=>[i (p+j)])),(0,.cells 61 [.row 900])],nx:=901}
def p8(k:Nat):G9->Option St
 | .normal=>some {σ:=H4 [] (Jr9 p q).σ,m:=[(900,.row 3 1 ((q-p+1).toNat) (λj=>[i (p+j)])),(0,.cells 61 [.row 900])],nx:=901}
 |_=>none
def T_as:CT:= .leaf (.normal,pU p q ((q-p+1).toNat))
def Zc3:UL:=GM [(.cell 0 0,900,3,1)] (HK (pU p q (0)) (T_as p q))
abbrev KK:Prop:=ptr 0 0=ptr 0 0
theorem Jm8(VU: -1000000<=p/\p<=1000000)(UI: -1000000<=q/\q<=1000000):HN VR (.rangeFunc (rfF (VV (U9 Tryz.f165) 0)) (zQ (VV (U9 Tryz.f165) 0)) Jw0 Jv3) (Zc3 p q):=by
 refine LH [(.cell 0 0,900,3,1)] (L:=[]) Aa Ad U1 U6 (V:=Nat) (pU p q) (λk=>k<=((q-p+1).toNat)) (λk=>k) (p8 p q) (x0:=0) VX rfl ?_ ?_ ?_ ?_ (g:=137) (caps:=[.ro [i p],.ro [i q]]) VW VW (ER p q VU UI) (λ_=>rfl) ?_
 ·rintro k;kernel_rfl
 ·rintro k y E h;unfold p8 at h;split at h
  ·cases h;kernel_rfl
  ·cases h
 ·rintro k;rfl
 ·rintro k y E h;unfold p8 at h;split at h
  ·cases h;rfl
  ·cases h
 ·rintro Q hQ k hx;refine ⟨λhlt=>⟨(k+1),rfl,?_⟩,λPI=>?_⟩
  ·(with_reducible refine DL (t:=need [(k+1)*8<=140737488355328,RZ 1 (U8 1 [iI (p+(k:Int))])] (need [Z9=Z9,U2 (XT p q),KK,Z9=Z9,U2 (XT p q),k+1=k+1,GY (k+1) (GI k (λj=>[iI (p+(j:Int))]) (U8 1 [iI (p+(k:Int))])) (λi=>[iI (p+(i:Int))]),U2 (AV.row 900)] (leaf G9.normal))) VW ?_)
   simp only [VP.sat,UD,UJ]
   refine ⟨⟨VM,λj hj a ha=>FS ha (by simp [AV.one,Value.oneCell'])⟩,λj hj=>?_,VM⟩
   exact cat1 hj
  ·subst PI;exact hQ
end
def mkF(p:Int)(j:Nat):List AV:=[i (p+j)]
theorem Qw1(p q:Int)(VU: -1000000<=p/\p<=1000000)(UI: -1000000<=q/\q<=1000000):U0 VR 165 [.x (.slice none 0 0),.fn (.func 137) [] [.ro [i p],.ro [i q]]] (.lst 1 ((q-p+1).toNat) (mkF p)):=by
 refine GD (L:=[Zc3 p q]) Aa Ad U1 Tryz.func165 (UW Tryz.f165) (UZ (lpE (b:= .rangeFunc (rfF (VV (U9 Tryz.f165) 0)) (zQ (VV (U9 Tryz.f165) 0)) Jw0 Jv3) VW<|Jm8 p q VU UI)) (t:=need [Z9=Z9,U2 (XT p q),KK,Z9=Z9,U2 (XT p q),0=0,∀(i:Nat),i<0->[]=[iI (p+(i:Int))],U2 (AV.row 900)] (leaf (RV.lst 1 (q-p+1).toNat λj=>[iI (p+(j:Int))]))) VW ?_
 simp only [VP.sat,UD,G8,GO,UG,UJ]
 (with_reducible repeat' first|apply Al|intro _)
 all_goals first|exact Ak|omega|with_reducible rfl|assumption|rfl|(rename_i h;exact absurd h (Aq _))|(rename_i hm;cases B6.1 hm;exact Ak)|skip
def mZ:UY
 |[.x (.slice none 0 0),.fn (.func 137) [] [.ro [.x (.int .i64 p)],.ro [.x (.int .i64 q)]]]=>some ([-1000000<=p/\p<=1000000,-1000000<=q/\q<=1000000],.lst 1 ((q-p+1).toNat) (mkF p))
 |_=>none
theorem Qw0:VS VR 165 mZ:=by
 refine ⟨(UK Tryz.func165),?_⟩;intro avs ns res h I;unfold mZ at h;split at h
 ·cases h;exact Qw1 _ _ (I _ VX) (I _ VX)
 ·cases h
def SP:UY
 |[.fn (.func 137) [] [.ro [.x (.int .i64 p)],.ro [.x (.int .i64 q)]]]=>some ([-1000000<=p/\p<=1000000,-1000000<=q/\q<=1000000],.lst 1 ((q-p+1).toNat) (mkF p))
 |_=>none
theorem sQ(p q:Int)(VU: -1000000<=p/\p<=1000000)(UI: -1000000<=q/\q<=1000000):FF VR 127 [.fn (.func 137) [] [.ro [i p],.ro [i q]]] (.lst 1 ((q-p+1).toNat) (mkF p)):=by
 refine D0 (L:=[]) (Ae Qw0 Aa) Ad U1 Tryz.func127 (UW Tryz.f127) G7 (t:=need [(-1000000:Int)<=p/\p<=1000000,(-1000000:Int)<=q/\q<=1000000] (leaf (lst 1 (q-p+1).toNat λj=>[iI (p+(j:Int))]))) VW ?_
 simp only [VP.sat,UD,UJ];exact ⟨⟨VU,UI⟩,rfl,rfl,λ_ _=>rfl⟩
theorem lY:P5 VR 127 SP:=by
 refine ⟨(UK Tryz.func127),?_⟩;intro avs ns res h I;unfold SP at h;split at h
 ·cases h;exact sQ _ _ (I _ VX) (I _ VX)
 ·cases h
def keB(c:Int)(f:Nat->Int)(S W wi Z:Int):Bool:=DD (λk=>keP c f wi Z (S+k)) (W-S+1).toNat
def Xa0:UY
 |[.roI [.x (.int .i64 c),.x (.int .i64 T),.x (.int .i64 U),.x (.int .i64 O),A,B] 26 f 0,.agg [.x (.int .i64 S),.x (.int .i64 W),.x (.int .i64 wi)],.x (.int .i64 Z)]=>some ([drB f,bdB f,1<=c/\c<=10,0<=S/\S<=W/\W<=10,0<=wi/\wi<=1000000,0<=Z/\Z<=100000],bl (keB c f S W wi Z))
 |_=>none
theorem Xj7(c T U O:Int)(A B:AV)(f:Nat->Int)(S W wi Z:Int)(VU:drB f)(UI:bdB f)(HU:1<=c/\c<=10)(F5:0<=S/\S<=W/\W<=10)(BU:0<=wi/\wi<=1000000)(zT:0<=Z/\Z<=100000):U0 VR 97 [.roI [i c,i T,i U,i O,A,B] 26 f 0,.agg [i S,i W,i wi],i Z] (bl (keB c f S W wi Z)):=by
 refine GD (L:=[]) (Ae Xq1 Aa) (Ai (Af dX (Af lY Ab)) Ac) U1 Tryz.func97 (UW Tryz.f97) G7 (t:=need [(-1000000:Int)<=S/\S<=1000000,(-1000000:Int)<=W/\W<=1000000] (need [UH 1 (W-S+1).toNat (mkF S),(W-S+1).toNat<=100000,drB f,bdB f,(1:Int)<=c/\c<=10,(0:Int)<=Z/\Z<=100000,(0:Int)<=wi/\wi<=1000000,∀(j:Nat),j<(W-S+1).toNat->(0:Int)<=col 0 (mkF S) j/\col 0 (mkF S) j<=10] (leaf (RV.x (.bool (DD (λk=>keP c f wi Z (col 0 (mkF S) k)) (W-S+1).toNat)))))) VW ?_
 simp only [VP.sat,UD,G8,GO,UG,UJ,keB];refine ⟨⟨VM,VM⟩,⟨λk hk=>rfl,VM,VU,UI,HU,zT,BU,λj hj=>?_⟩,rfl⟩
 show 0<=S+(j:Int)/\S+(j:Int)<=10;omega
theorem Xj6:VS VR 97 Xa0:=by
 refine ⟨(UK Tryz.func97),?_⟩;intro avs ns res h I;unfold Xa0 at h;split at h
 ·cases h;exact Xj7 _ _ _ _ _ _ _ _ _ _ _ (I _ VX) (I _ VX) (I _ VX) (I _ VX) (I _ VX) (I _ VX)
 ·cases h
end Go.Proofs.YtlclobclmfhlmaaGreatDoor
namespace Go.Proofs.YtlclobclmfhlmaaGreatDoor.Bo
open Go Go.Sx Go.RowKit
open Go.Sx.VP (need branch leaf)
open Go.Sx.AV (lst ptr agg roI tup top)
def Tr(c:Nat)(T U O:Int)(n:Nat)(a b u v:Nat->Int)(h:Nat->Int):Prop:=
 h 0=0/\h c=T/\(∀k,k<c->U<=h (k+1)-h k/\h (k+1)-h k<=O)/\ ∀j,j<n->h (b j).toNat-h (a j).toNat<=v j/\(b j<c->u j+1<=h (b j+1).toNat-h (a j).toNat)
def ob(c:Nat)(M:Nat->Nat->Int)(h:Nat->Int):Prop:= ∀x y,x<=c->y<=c->h y-h x<=M x y
theorem kI{c:Nat}{M:Nat->Nat->Int}{h:Nat->Int}{p q:Nat}{v:Int}(hp:p<=c)(hq:q<=c):ob c (bnd M p q v) h↔ob c M h/\h q-h p<=v:=by
 constructor
 ·intro k;refine ⟨λx y hx hy=>Int.le_trans (k x y hx hy) (xB _ _ _ _ _ _),Int.le_trans (k p q hp hq) (bE _ _ _ _)⟩
 ·rintro ⟨k1,k2⟩ x y hx hy;have h1:=k1 x y hx hy;unfold bnd xK;split
  ·rename_i e;rw [e.1,e.2] at h1 ⊢;omega
  ·exact h1
theorem Xi9{c:Nat}{M N:Nat->Nat->Int}{h:Nat->Int}(hm: ∀x y,M x y<=N x y)(k:ob c M h):ob c N h:=λx y hx hy=>Int.le_trans (k x y hx hy) (hm x y)
theorem Zp4(M:Nat->Nat->Int)(o f t x y:Nat):fwS M o f t x y<=M x y:=xB _ _ _ _ _ _
theorem Wt5(M:Nat->Nat->Int)(o f:Nat): ∀t x y,fwT M o f t x y<=M x y
 | 0,_,_=>Int.le_refl _
 |t+1,x,y=>Int.le_trans (Zp4 _ _ _ _ _ _) (Wt5 M o f t x y)
theorem Wt8(c:Nat)(M:Nat->Nat->Int)(o:Nat): ∀f x y,fwF c M o f x y<=M x y
 | 0,_,_=>Int.le_refl _
 |f+1,x,y=>Int.le_trans (Wt5 _ _ _ _ _ _) (Wt8 c M o f x y)
theorem Xm5(c:Nat)(M:Nat->Nat->Int)(o x y:Nat):fwO c M (o+1) x y<=fwO c M o x y:=Wt8 _ _ _ _ _ _
theorem aQ(c:Nat)(M:Nat->Nat->Int)(o:Nat): ∀d x y,fwO c M (o+d) x y<=fwO c M o x y
 | 0,_,_=>Int.le_refl _
 |d+1,x,y=>Int.le_trans (Xm5 c M (o+d) x y) (aQ c M o d x y)
theorem Wt7(c:Nat)(M:Nat->Nat->Int)(o x y:Nat):fwO c M o x y<=M x y:=by
 have:=aQ c M 0 o x y
 rwa [Ap] at this
theorem Jf1{c:Nat}{M:Nat->Nat->Int}{h:Nat->Int}{o f:Nat}(ho:o<=c)(hf:f<=c)(k:ob c M h): ∀t,t<=c+1->ob c (fwT M o f t) h
 | 0,_=>k
 |t+1,ht=>by
  have ih:=Jf1 ho hf k t VM;refine (kI hf VM).2 ⟨ih,?_⟩;have h1:=ih f o hf ho;have h2:=ih o t ho VM;omega
theorem Jf3{c:Nat}{M:Nat->Nat->Int}{h:Nat->Int}{o:Nat}(ho:o<=c)(k:ob c M h): ∀f,f<=c+1->ob c (fwF c M o f) h
 | 0,_=>k
 |f+1,hf=>Jf1 ho VM (Jf3 ho k f VM) (c+1) (Am _)
theorem Jf2{c:Nat}{M:Nat->Nat->Int}{h:Nat->Int}(k:ob c M h): ∀o,o<=c+1->ob c (fwO c M o) h
 | 0,_=>k
 |o+1,ho=>Jf3 VM (Jf2 k o VM) (c+1) (Am _)
theorem Wt6{c:Nat}{M N:Nat->Nat->Int}{o f:Nat}(h0:0<=M o o)(hN: ∀x y,N x y=if x<f/\y<=c then min (M x y) (M x o+M o y) else M x y): ∀t,t<=c+1-> ∀x y,fwT N o f t x y=if (x<f/\y<=c)\/(x=f/\y<t) then min (M x y) (M x o+M o y) else M x y
 | 0,_,x,y=>by
  show N x y=_;rw [hN];by_cases h:x<f/\y<=c
  ·rw [if_pos h,if_pos (.inl h)]
  ·rw [if_neg h,if_neg VM]
 |t+1,ht,x,y=>by
  have ih:=Wt6 h0 hN t VM;show bnd (fwT N o f t) f t (fwT N o f t f o+fwT N o f t o t) x y=_;have e1:fwT N o f t f o=M f o:=by
   rw [ih];split<;>omega
  have e2:fwT N o f t o t=M o t:=by
   rw [ih];split<;>omega
  have e3:fwT N o f t f t=M f t:=by
   rw [ih,if_neg VM]
  unfold bnd xK;rw [e1,e2,e3];by_cases hxy:x=f/\y=t
  ·rw [if_pos hxy,if_pos VM,hxy.1,hxy.2]
  ·rw [if_neg hxy,ih];by_cases h:(x<f/\y<=c)\/(x=f/\y<t)
   ·rw [if_pos h,if_pos VM]
   ·rw [if_neg h,if_neg VM]
theorem Wt9{c:Nat}{M:Nat->Nat->Int}{o:Nat}(h0:0<=M o o): ∀f x y,fwF c M o f x y=if x<f/\y<=c then min (M x y) (M x o+M o y) else M x y
 | 0,x,y=>by
  rw [if_neg VM];rfl
 |f+1,x,y=>by
  show fwT (fwF c M o f) o f (c+1) x y=_;rw [Wt6 h0 (Wt9 h0 f) (c+1) (Am _)];by_cases h:(x<f/\y<=c)\/(x=f/\y<c+1)
  ·rw [if_pos h,if_pos VM]
  ·rw [if_neg h,if_neg VM]
theorem IG{c:Nat}{M:Nat->Nat->Int}: ∀k,k<=c+1->(∀o,o<k->0<=fwO c M o o o)-> ∀p x y,p<k->x<=c->y<=c->fwO c M k x y<=fwO c M k x p+fwO c M k p y
 | 0,_,_,p,x,y,hp,_,_=>absurd hp (Aq _)
 |k+1,hk,hd,p,x,y,hp,hx,hy=>by
  have ih:=IG k VM (λo ho=>hd o VM)
  have h0:=hd k VM;have eq:=Wt9 (c:=c) h0 (c+1);show fwF c (fwO c M k) k (c+1) x y<=fwF c (fwO c M k) k (c+1) x p+fwF c (fwO c M k) k (c+1) p y;rw [eq x y,eq x p,eq p y,if_pos VM,if_pos VM,if_pos VM];rcases (show p=k\/p<k by omega) with rfl|hpk
  ·omega
  ·have i1:=ih p x y hpk hx hy;have i2:=ih p x k hpk hx VM;have i3:=ih p k y hpk VM hy;have i4:=ih p k k hpk VM VM;omega
theorem Zl3{c:Nat}{h:Nat->Int}:ob c (ini c (c+1) 0) h↔ ∀x y,x<=c->y<=c->h y-h x<=2000:=by
 constructor
 ·intro k x y hx hy;have:=k x y hx hy;unfold ini at this;split at this<;>omega
 ·intro k x y hx hy;unfold ini;by_cases e:x=y
  ·subst e;rw [if_neg VM];omega
  ·rw [if_pos VM];exact k x y hx hy
theorem Wh7{c:Nat}{U O:Int}{h:Nat->Int}: ∀k,k<=c->(ob c (cel c U O k) h↔ob c (ini c (c+1) 0) h/\ ∀j,j<k->U<=h (j+1)-h j/\h (j+1)-h j<=O)
 | 0,_=>⟨λk=>⟨k,λj hj=>absurd hj (Aq _)⟩,λk=>k.1⟩
 |k+1,hk=>by
  have ih:=Wh7 (c:=c) (U:=U) (O:=O) (h:=h) k VM;show ob c (bnd (bnd (cel c U O k) k (k+1) O) (k+1) k (-U)) h↔_;rw [kI VM VM,kI VM VM,ih];constructor
  ·rintro ⟨⟨⟨h1,h2⟩,h3⟩,h4⟩;refine ⟨h1,λj hj=>?_⟩
   rcases (show j<k\/j=k by omega) with h|rfl
   ·exact h2 j h
   ·omega
  ·rintro ⟨h1,h2⟩;have h3:=h2 k VM;exact ⟨⟨⟨h1,λj hj=>h2 j VM⟩,VM⟩,VM⟩
def oN(c:Nat)(n:Nat)(a b u v:Nat->Int):Prop:= ∀j,j<n->(0<=a j/\a j<=(c:Int)-1)/\(a j<=b j/\b j<=c)/\0<=u j/\u j<=v j/\v j<=2000
theorem Xv6{c:Nat}{T U O:Int}{a b u v:Nat->Int}{h:Nat->Int}: ∀n,oN c n a b u v->(ob c (rdM c T U O a b u v n) h↔ob c (cel c U O c) h/\h c-h 0=T/\ ∀j,j<n->h (b j).toNat-h (a j).toNat<=v j/\(b j<c->u j+1<=h (b j+1).toNat-h (a j).toNat))
 | 0,_=>by
  show ob c (bnd (bnd (cel c U O c) 0 c T) c 0 (-T)) h↔_;rw [kI VM VM,kI VM VM];constructor
  ·rintro ⟨⟨h1,h2⟩,h3⟩;exact ⟨h1,VM,λj hj=>absurd hj (Aq _)⟩
  ·rintro ⟨h1,h2,_⟩;exact ⟨⟨h1,VM⟩,VM⟩
 |n+1,hr=>by
  have ih:=Xv6 (c:=c) (T:=T) (U:=U) (O:=O) (a:=a) (b:=b) (u:=u) (v:=v) (h:=h) n (λj hj=>hr j VM)
  have I:=hr n VM;have key:ob c (rdM c T U O a b u v (n+1)) h↔ob c (rdM c T U O a b u v n) h/\h (b n).toNat-h (a n).toNat<=v n/\(b n<c->u n+1<=h (b n+1).toNat-h (a n).toNat):=by
   show ob c (rdS c (rdM c T U O a b u v n) _ _ _ _) h↔_;unfold rdS;split
   ·rename_i hb;rw [kI VM VM,kI VM VM];constructor
    ·rintro ⟨⟨h1,h2⟩,h3⟩;exact ⟨h1,h2,λ_=>VM⟩
    ·rintro ⟨h1,h2,h3⟩;have:=h3 hb;exact ⟨⟨h1,h2⟩,VM⟩
   ·rename_i hb;rw [kI VM VM];constructor
    ·rintro ⟨h1,h2⟩;exact ⟨h1,h2,λh=>absurd h hb⟩
    ·rintro ⟨h1,h2,_⟩;exact ⟨h1,h2⟩
  rw [key,ih];constructor
  ·rintro ⟨⟨h1,h2,h3⟩,h4⟩;refine ⟨h1,h2,λj hj=>?_⟩
   rcases (show j<n\/j=n by omega) with h|rfl
   ·exact h3 j h
   ·exact h4
  ·rintro ⟨h1,h2,h3⟩;exact ⟨⟨h1,h2,λj hj=>h3 j VM⟩,h3 n VM⟩
theorem NO{U:Int}{h:Nat->Int}{c:Nat}(hl:0<=U)(hs: ∀k,k<c->U<=h (k+1)-h k)(x:Nat): ∀d,x+d<=c->h x<=h (x+d)
 | 0,_=>Int.le_refl _
 |d+1,hd=>by
  have ih:=NO hl hs x d VM;have:=hs (x+d) VM;rw [←Ba];omega
theorem Zz8{c:Nat}{T U O:Int}{n:Nat}{a b u v:Nat->Int}{h:Nat->Int}(hb:1<=U/\U<=O/\O<=200/\1<=T/\T<=2000)(hr:oN c n a b u v)(h0:h 0=0):Tr c T U O n a b u v h↔ob c (rdM c T U O a b u v n) h:=by
 rw [Xv6 n hr,Wh7 c (Am _),Zl3];constructor
 ·rintro ⟨_,h1,h2,h3⟩;refine ⟨⟨λx y hx hy=>?_,h2⟩,VM,h3⟩
  have m:=λx d=>NO (U:=U) (h:=h) (c:=c) VM (λk hk=>(h2 k hk).1) x d
  have m1:=m 0 x VM;have m2:=m y (c-y) VM;rw [Ap] at m1;rw [show y+(c-y)=c by omega] at m2
  omega
 ·rintro ⟨⟨_,h2⟩,h3,h4⟩;exact ⟨h0,VM,h2,h4⟩
theorem Xi0{c:Int}{n:Nat}{a b u v:Nat->Int}(hc:1<=c/\c<=10)(h:DD (λk=>rdB c (a k) (b k) (u k) (v k)) n=true):oN c.toNat n a b u v:=λj hj=>by
 have:=Xv4 (GW.1 h j hj);omega
section
variable {c:Nat}{T U O:Int}
theorem Qd0{n:Nat}{a b u v:Nat->Int}:okR c T U O n a b u v=true↔ ∀k,k<=c->0<=fwM c T U O n a b u v k k:=by
 unfold okR;rw [GW];constructor
 ·intro h k hk;simpa using h k VM
 ·intro h k hk;simpa using h k VM
theorem Wb9{n:Nat}{a b u v:Nat->Int}{h:Nat->Int}(hb:1<=U/\U<=O/\O<=200/\1<=T/\T<=2000)(hr:oN c n a b u v)(h0:h 0=0):Tr c T U O n a b u v h↔ob c (fwM c T U O n a b u v) h:=by
 rw [Zz8 hb hr h0];exact ⟨λk=>Jf2 k (c+1) (Am _),λk=>Xi9 (λx y=>Wt7 c _ (c+1) x y) k⟩
theorem Ja1{n:Nat}{a b u v:Nat->Int}{h:Nat->Int}(hb:1<=U/\U<=O/\O<=200/\1<=T/\T<=2000)(hr:oN c n a b u v)(k:Tr c T U O n a b u v h){x:Nat}(hx:x<=c): -(fwM c T U O n a b u v x 0)<=h x/\h x<=fwM c T U O n a b u v 0 x:=by
 have k1:=(Wb9 hb hr k.1).1 k;have h1:=k1 x 0 hx VM;have h2:=k1 0 x VM hx;have:=k.1;omega
theorem OZ{n:Nat}{a b u v:Nat->Int}(h:okR c T U O n a b u v=true){p x y:Nat}(hp:p<=c)(hx:x<=c)(hy:y<=c):fwM c T U O n a b u v x y<=fwM c T U O n a b u v x p+fwM c T U O n a b u v p y:=by
 refine IG (c+1) (Am _) (λo ho=>?_) p x y VM hx hy
 have h1:=Qd0.1 h o VM;have h2:=aQ c (rdM c T U O a b u v n) o (c+1-o) o o;rw [show o+(c+1-o)=c+1 by omega] at h2
 exact Int.le_trans h1 h2
theorem Zk3{a b u v:Nat->Int}(n:Nat):rdM c T U O a b u v n 0 0<=0:=by
 have h1:=CH c T U O a b u v 0 n (Ao _) 0 0;have h2:rdM c T U O a b u v 0 0 0<=cel c U O c 0 0:=Int.le_trans (xB _ _ _ _ _ _) (xB _ _ _ _ _ _);have h3: ∀k,cel c U O k 0 0<=0:=by
  intro k
  induction k with
  |zero=>unfold cel ini;rw [if_neg VM];exact Int.le_refl _
  |succ k ih=>exact Int.le_trans (Int.le_trans (xB _ _ _ _ _ _) (xB _ _ _ _ _ _)) ih
 exact Int.le_trans h1 (Int.le_trans h2 (h3 c))
theorem Xw6{n:Nat}{a b u v:Nat->Int}(h:okR c T U O n a b u v=true):fwM c T U O n a b u v 0 0=0:=by
 have h1:=Qd0.1 h 0 (Ao _);have h2:fwM c T U O n a b u v 0 0<=0:=Int.le_trans (Wt7 c _ (c+1) 0 0) (Zk3 n);omega
theorem Ja0{n:Nat}{a b u v:Nat->Int}(hb:1<=U/\U<=O/\O<=200/\1<=T/\T<=2000)(hr:oN c n a b u v)(h:okR c T U O n a b u v=true):Tr c T U O n a b u v (λk=>fwM c T U O n a b u v 0 k):=by
 refine (Wb9 hb hr (Xw6 h)).2 λx y hx hy=>?_
 have:=OZ h hx (Ao _) hy;show fwM c T U O n a b u v 0 y-fwM c T U O n a b u v 0 x<=_;omega
theorem Zz9{n:Nat}{a b u v:Nat->Int}(hb:1<=U/\U<=O/\O<=200/\1<=T/\T<=2000)(hr:oN c n a b u v)(h:okR c T U O n a b u v=true):Tr c T U O n a b u v (λk=> -(fwM c T U O n a b u v k 0)):=by
 refine (Wb9 hb hr (by rw [Xw6 h];rfl)).2 λx y hx hy=>?_
 have:=OZ h hy hx (Ao _);show -(fwM c T U O n a b u v y 0)- -(fwM c T U O n a b u v x 0)<=_;omega
end
end Go.Proofs.YtlclobclmfhlmaaGreatDoor.Bo
namespace Go.Proofs.YtlclobclmfhlmaaGreatDoor
open Go Go.Sx Go.RowKit Bo
open Go.Sx.VP (need branch leaf)
open Go.Sx.AV (lst ptr agg roI tup top)
def usB(c S W wi:Int):Bool:=bt 0 S W&&decide (W<=c)&&bt 0 wi 1000
section
variable (c T U O:Int)
def vaB(m:Nat)(p q:Nat->Int)(pl ph dl dh:Int):Bool:=decide (Pt.blE m p q pl ph=0)&&qJ c T U O&&insB 0 dl dh 100
def rdE(n:Nat)(a b u v:Nat->Int)(m:Nat)(p q:Nat->Int)(pl ph dl dh:Int):Int:=if n>12\/m>8 then 3 else if vaB c T U O m p q pl ph dl dh=true/\(eB c T U O n a b u v=0\/eB c T U O n a b u v=9) then eB c T U O n a b u v else 1
def bdL(n:Nat)(a b u v:Nat->Int)(m:Nat)(p q:Nat->Int)(pl ph:Int)(k:Nat):Int:=dnI (-(fwB c T U O n a b u v k 0)*Pt.boilI m p q pl) T
def bdH(n:Nat)(a b u v:Nat->Int)(m:Nat)(p q:Nat->Int)(pl ph:Int)(k:Nat):Int:=upI (fwB c T U O n a b u v 0 k*Pt.boilI m p q ph) T
end
def wkF(pl ph dl dh:Int)(L H:Nat->Int)(k j:Nat):Int:=if j=0 then pl else if j=1 then ph else if j=2 then dl else if j=3 then dh else if j<4+2*k then (if j%2=0 then L ((j-4) / 2) else H ((j-4) / 2)) else 0
def wkA(c T U O:Int)(n:Nat)(a b u v:Nat->Int)(m:Nat)(p q:Nat->Int)(pl ph dl dh:Int):Nat->Int:=wkF pl ph dl dh (bdL c T U O n a b u v m p q pl ph) (bdH c T U O n a b u v m p q pl ph) (c.toNat+1)
theorem Xg6{c S W wi:Int}:usB c S W wi=true↔(0<=S/\S<=W)/\W<=c/\0<=wi/\wi<=1000:=by
 simp only [usB,HC,y5,bt_iff,and_assoc]
theorem Xu4{c:Nat}{T U O:Int}{n:Nat}{a b u v:Nat->Int}{h:Nat->Int}(hl:0<=U)(k:Tr c T U O n a b u v h){x:Nat}(hx:x<=c):0<=h x/\h x<=T:=by
 obtain ⟨h0,h1,h2,_⟩:=k;have up: ∀y,y<=c->0<=h y:=by
  intro y
  induction y with
  |zero=>intro _;omega
  |succ y ih=>
   intro hy;have:=h2 y VM;have:=ih VM;omega
 have dn: ∀d,d<=c->h (c-d)<=T:=by
  intro d
  induction d with
  |zero=>intro _;rw [Nat.sub_zero,h1];exact Int.le_refl _
  |succ d ih=>
   intro hd;have:=h2 (c-(d+1)) VM;rw [show c-(d+1)+1=c-d by omega] at this
   have:=ih VM;omega
 refine ⟨up x hx,?_⟩;have:=dn (c-x) VM;rw [show c-(c-x)=x by omega] at this
 exact this
theorem Xw2{c T U O:Int}{n:Nat}{a b u v:Nat->Int}(h:eB c T U O n a b u v=0){k:Nat}(hk:(k:Int)<=c):0<= -(fwB c T U O n a b u v k 0)/\ -(fwB c T U O n a b u v k 0)<=fwB c T U O n a b u v 0 k/\fwB c T U O n a b u v 0 k<=T:=by
 obtain ⟨h1,_,h3⟩:=hZ.1 h;have hf:=yO.1 h1;have hb:=BR hf.1;have hr:=Xi0 hb.1 hf.2.2;have tl:=Zz9 hb.2.1 hr h3;have th:=Ja0 hb.2.1 hr h3;have g1:=Xu4 VM tl (x:=k) VM;have g2:=Xu4 VM th (x:=k) VM;have g3:=Ja1 hb.2.1 hr tl (x:=k) VM;unfold fwB;omega
theorem nV{c T U O:Int}{m:Nat}{p q:Nat->Int}{pl ph dl dh:Int}:vaB c T U O m p q pl ph dl dh=true↔Pt.blE m p q pl ph=0/\qJ c T U O=true/\0<=dl/\dl<=dh/\dh<=100:=by
 simp only [vaB,HC,y5,insB_iff,and_assoc]
theorem Wc8{m:Nat}{p q:Nat->Int}{pl ph:Int}(h:Pt.blE m p q pl ph=0):(1<=Pt.boilI m p q pl/\Pt.boilI m p q pl<=2000)/\(1<=Pt.boilI m p q ph/\Pt.boilI m p q ph<=2000)/\Pt.boilI m p q pl<=Pt.boilI m p q ph/\Pt.blLo m p q pl ph=Pt.boilI m p q pl/\Pt.blHi m p q pl ph=Pt.boilI m p q ph:=by
 obtain ⟨h1,h2,h3,h4,h5,h6⟩:=Pt.blE_ok h;have a1:=Pt.boil_spec (x:=pl) h1 h3 VM;have a2:=Pt.boil_spec (x:=ph) h1 h3 VM;have a3:=Pt.boil_mono h1 h3 h4 h5 h6;exact ⟨VM,VM,a3,if_pos h,if_pos h⟩
theorem Qc3{x y X Y:Int}(hx:0<=x/\x<=X)(hy:0<=y/\y<=Y):0<=x*y/\x*y<=X*Y:=by
 have h1:=Int.mul_nonneg hx.1 hy.1;have h2:=Int.mul_le_mul hx.2 hy.2 hy.1 (show 0<=X by omega)
 omega
theorem Zg0(c T U O:Int)(n:Nat)(a b u v:Nat->Int)(m:Nat)(p q:Nat->Int)(pl ph dl dh S W wi:Int):U0 VR 125 [.agg [i c,i T,i U,i O,rds n a b u v,Pt.scs m p q,i pl,i ph,i dl,i dh],.agg [i S,i W,i wi]] (bl (usB c S W wi)):=by
 refine U4 (L:=[]) (Ae RM Aa) U1 Tryz.func125 (UW Tryz.f125) U6 (t:=branch (bt (0:Int) S W) (branch (decide (W<=c)) (leaf (RV.x (.bool (bt (0:Int) wi (1000:Int))))) (leaf (RV.x (Y0)))) (leaf (RV.x (Y0)))) VW ?_;simp only [VP.sat,UD,G8,GO,UG,UJ];all_goals (simp+contextual [usB,Bool.and_assoc]);all_goals omega
def Xx3:UY
 |[.agg [.x (.int .i64 c),.x (.int .i64 T),.x (.int .i64 U),.x (.int .i64 O),.lst 4 n fr,.lst 2 m ft,.x (.int .i64 pl),.x (.int .i64 ph),.x (.int .i64 dl),.x (.int .i64 dh)],.agg [.x (.int .i64 S),.x (.int .i64 W),.x (.int .i64 wi)]]=>some ([UH 4 n fr,UH 2 m ft],bl (usB c S W wi))
 |_=>none
theorem Zf9:VS VR 125 Xx3:=by
 refine ⟨(UK Tryz.func125),?_⟩;intro avs ns res h I;unfold Xx3 at h;split at h
 ·cases h;have hr:UH 4 _ _:=I _ GJ;have ht:UH 2 _ _:=I _ (HW _ GJ);exact (Zg0 _ _ _ _ _ _ _ _ _ _ _ _ _ _ _ _ _ _ _).same (.cons (P1.same (.cons (.refl _) (.cons (.refl _) (.cons (.refl _) (.cons (.refl _) (.cons (.lst 4 _ _ _ hr) (.cons (.lst 2 _ _ _ ht) (.cons (.refl _) (.cons (.refl _) (.cons (.refl _) (.cons (.refl _) .nil))))))))))) (.cons (.refl _) .nil))
 ·cases h
theorem Wb3(c T U O:Int)(n:Nat)(a b u v:Nat->Int)(m:Nat)(p q:Nat->Int)(pl ph dl dh:Int)(VU:m<=100000):U0 VR 133 [.agg [i c,i T,i U,i O,rds n a b u v,Pt.scs m p q,i pl,i ph,i dl,i dh]] (.tup [.agg [i (Pt.blLo m p q pl ph),i (Pt.blHi m p q pl ph)],bl (vaB c T U O m p q pl ph dl dh)]):=by
 refine GD (L:=[]) (Ae Pt.Boils_ok (Ae Bo.CheckTube_ok (Ae B0 Aa))) Ad U1 Tryz.func133 (UW Tryz.f133) G7 (t:=let z0:=(leaf (RV.tup [RV.agg [RV.x (.int .i64 (Pt.blLo m p q pl ph)),RV.x (.int .i64 (Pt.blHi m p q pl ph))],RV.x (Y0)]));(need [UH 2 m λk=>[Pt.i (p k),Pt.i (q k)],m<=100000] (branch (Pt.blE m p q pl ph==0) (branch ((if qJ c T U O=true then (0:Int) else (1:Int))==0) (leaf (RV.tup [RV.agg [RV.x (.int .i64 (Pt.blLo m p q pl ph)),RV.x (.int .i64 (Pt.blHi m p q pl ph))],RV.x (.bool (insB (0:Int) dl dh (100:Int)))])) z0) z0))) VW ?_
 simp only [VP.sat,UD,G8,GO,UG,UJ,beq_iff_eq,beq_eq_false_iff_ne];refine ⟨⟨Pt.isRec2 m p q,VU⟩,λh1=>⟨λh2=>?_,λh2=>?_⟩,λh1=>?_⟩
 ·cases ht:qJ c T U O
  ·rw [ht] at h2;simp at h2
  ·simp [vaB,h1,ht]
 ·cases ht:qJ c T U O
  ·simp [vaB,ht]
  ·rw [ht] at h2;simp at h2
 ·simp [vaB,h1]
def bL:UY
 |[.agg [.x (.int .i64 c),.x (.int .i64 T),.x (.int .i64 U),.x (.int .i64 O),.lst 4 n fr,.lst 2 m ft,.x (.int .i64 pl),.x (.int .i64 ph),.x (.int .i64 dl),.x (.int .i64 dh)]]=>some ([UH 4 n fr,UH 2 m ft,m<=100000],.tup [.agg [i (Pt.blLo m (Pt.col 0 ft) (Pt.col 1 ft) pl ph),i (Pt.blHi m (Pt.col 0 ft) (Pt.col 1 ft) pl ph)],bl (vaB c T U O m (Pt.col 0 ft) (Pt.col 1 ft) pl ph dl dh)])
 |_=>none
theorem cJ:VS VR 133 bL:=by
 refine ⟨(UK Tryz.func133),?_⟩;intro avs ns res h I;unfold bL at h;split at h
 ·cases h;have hr:UH 4 _ _:=I _ GJ;have ht:UH 2 _ _:=I _ (HW _ GJ);exact (Wb3 _ _ _ _ _ _ _ _ _ _ _ _ _ _ _ _ (I _ VX)).same (.cons (P1.same (.cons (.refl _) (.cons (.refl _) (.cons (.refl _) (.cons (.refl _) (.cons (.lst 4 _ _ _ hr) (.cons (.lst 2 _ _ _ ht) (.cons (.refl _) (.cons (.refl _) (.cons (.refl _) (.cons (.refl _) .nil))))))))))) .nil)
 ·cases h
section
variable {pl ph dl dh:Int}{L H:Nat->Int}
theorem Xf9{k j:Nat}:jT (4+2*k) [L k,H k] (wkF pl ph dl dh L H k) j=wkF pl ph dl dh L H (k+1) j:=by
 simp only [jT,UT];unfold wkF;by_cases h1:j=4+2*k+1
 ·rw [if_pos h1,if_neg VM,if_neg VM,if_neg VM,if_neg VM,if_pos VM,if_neg VM,show (j-4) / 2=k by omega]
 ·rw [if_neg h1];by_cases h2:j=4+2*k
  ·rw [if_pos h2,if_neg VM,if_neg VM,if_neg VM,if_neg VM,if_pos VM,if_pos VM,show (j-4) / 2=k by omega]
  ·rw [if_neg h2];by_cases h3:j<4+2*k
   ·rw [if_pos h3,if_pos (show j<4+2*(k+1) by omega)]
   ·rw [if_neg h3,if_neg (show ¬j<4+2*(k+1) by omega)]
theorem Xf8{j:Nat}(hj:j<26):UB ([pl,ph,dl,dh]++cA 22) j=wkF pl ph dl dh L H 0 j:=by
 rcases (show j=0\/j=1\/j=2\/j=3\/j=4\/j=5\/j=6\/j=7\/j=8\/j=9\/j=10\/j=11\/j=12\/j=13\/j=14\/j=15\/j=16\/j=17\/j=18\/j=19\/j=20\/j=21\/j=22\/j=23\/j=24\/j=25 by omega) with rfl|rfl|rfl|rfl|rfl|rfl|rfl|rfl|rfl|rfl|rfl|rfl|rfl|rfl|rfl|rfl|rfl|rfl|rfl|rfl|rfl|rfl|rfl|rfl|rfl|rfl<;>rfl
end
abbrev QR(n:Nat)(a:Nat->Int)(b:Nat->Int)(u:Nat->Int)(v:Nat->Int):AV:=lst 4 n λk=>[iI (a k),iI (b k),iI (u k),iI (v k)]
abbrev QX(c:Int)(T:Int)(U:Int)(O:Int)(n:Nat)(a:Nat->Int)(b:Nat->Int)(u:Nat->Int)(v:Nat->Int):AV:=lst 2 (A6 c T U O n a b u v) λk=>[iI (-fwB c T U O n a b u v k 0),iI (fwB c T U O n a b u v 0 k)]
abbrev QZ(m:Nat)(p:Nat->Int)(q:Nat->Int):AV:=lst 2 m λk=>[iI (p k),iI (q k)]
abbrev Z2:AV:=AV.x (.pointer none)
section
variable (c T U O:Int)(n:Nat)(a b u v:Nat->Int)(m:Nat)(p q:Nat->Int)(pl ph dl dh:Int)
def Zt3:St:={σ:=[agg [iI c,iI T,iI U,iI O,QR n a b u v,QZ m p q,iI pl,iI ph,iI dl,iI dh],ptr 0 0,Z2,iI 0,ptr 18 0,AV.x (.bool (vaB c T U O m p q pl ph dl dh)),QX c T U O n a b u v,iI (eB c T U O n a b u v),ptr 45 0]++HM 43 [QX c T U O n a b u v,iI (↑(A6 c T U O n a b u v):Int)]++HM 31 [],m:=[(45,GS.ints 252 [iI c,iI T,iI U,iI O,QR n a b u v,QZ m p q] 26 λa=>UB ([pl,ph,dl,dh]++cA 22) a),(18,GS.cells 27 [iI (Pt.blLo m p q pl ph),iI (Pt.blHi m p q pl ph)]),(0,GS.cells 126 [iI c,iI T,iI U,iI O,QR n a b u v,QZ m p q,iI pl,iI ph,iI dl,iI dh])],nx:=50}
noncomputable def Js9:Code:=UC (VV (U9 Tryz.f101) 0)
def Wl1(k:Nat):St:=(upE [(54,i k)] [(45,.ints 252 [i c,i T,i U,i O,rds n a b u v,Pt.scs m p q] 26 (wkF pl ph dl dh (bdL c T U O n a b u v m p q pl ph) (bdH c T U O n a b u v m p q pl ph) k)),(18,.cells 27 [i (Pt.boilI m p q pl),i (Pt.boilI m p q ph)]),(0,.cells 126 [i c,i T,i U,i O,rds n a b u v,Pt.scs m p q,i pl,i ph,i dl,i dh])] (Zt3 c T U O n a b u v m p q pl ph dl dh))
def TM(k:Nat):G9->Option St
 | .exit 1=>some (upE [(54,i ((c.toNat+1:Nat):Int))] [(45,.ints 252 [i c,i T,i U,i O,rds n a b u v,Pt.scs m p q] 26 (wkF pl ph dl dh (bdL c T U O n a b u v m p q pl ph) (bdH c T U O n a b u v m p q pl ph) (c.toNat+1))),(18,.cells 27 [i (Pt.boilI m p q pl),i (Pt.boilI m p q ph)]),(0,.cells 126 [i c,i T,i U,i O,rds n a b u v,Pt.scs m p q,i pl,i ph,i dl,i dh])] (Zt3 c T U O n a b u v m p q pl ph dl dh))
 |_=>none
def Jo1:CT:= .leaf (.exit 1,(TM c T U O n a b u v m p q pl ph dl dh 0 (.exit 1)).getD (Zt3 c T U O n a b u v m p q pl ph dl dh))
def Xz0:UL:=GM [] (HK (Wl1 c T U O n a b u v m p q pl ph dl dh (0)) (Jo1 c T U O n a b u v m p q pl ph dl dh))
end
abbrev X5(c:Int)(T:Int)(U:Int)(O:Int)(n:Nat)(a:Nat->Int)(b:Nat->Int)(u:Nat->Int)(v:Nat->Int)(m:Nat)(p:Nat->Int)(q:Nat->Int)(pl:Int)(ph:Int)(dl:Int)(dh:Int):Prop:=agg [iI c,iI T,iI U,iI O,QR n a b u v,QZ m p q,iI pl,iI ph,iI dl,iI dh]=agg [iI c,iI T,iI U,iI O,QR n a b u v,QZ m p q,iI pl,iI ph,iI dl,iI dh]
abbrev K7:Prop:=(0:Int)=0
abbrev KT:List (Nat×UY):=[(133,bL),(134,Bo.S_Heights),(135,tO),(136,Zr5)]
abbrev Y4:Prop:=ptr 18 0=ptr 18 0
abbrev YR(n:Nat)(a:Nat->Int)(b:Nat->Int)(u:Nat->Int)(v:Nat->Int):Prop:=(QR n a b u v)=QR n a b u v
abbrev YW(m:Nat)(p:Nat->Int)(q:Nat->Int):Prop:=(QZ m p q)=QZ m p q
abbrev YZ(c:Int)(T:Int)(U:Int)(O:Int)(n:Nat)(a:Nat->Int)(b:Nat->Int)(u:Nat->Int)(v:Nat->Int):Prop:=(QX c T U O n a b u v)=QX c T U O n a b u v
section
variable (c T U O:Int)(n:Nat)(a b u v:Nat->Int)(m:Nat)(p q:Nat->Int)(pl ph dl dh:Int)
theorem Jc8(VU:n<=12)(UI:m<=8)(HU:vaB c T U O m p q pl ph dl dh=true)(F5:eB c T U O n a b u v=0):GA VR (.loop Js9) (Xz0 c T U O n a b u v m p q pl ph dl dh):=by
 refine G5 [] (L:=[]) (Ae cJ (Ae Bo.Heights_ok (Ae b6 (Ae Wb8 Aa)))) Ad U1 U6 (X:=Nat) (Wl1 c T U O n a b u v m p q pl ph dl dh) (λk=>k<=c.toNat+1) (λk=>c.toNat+1-k) (TM c T U O n a b u v m p q pl ph dl dh) (x0:=0) VX ?_ ?_ ?_
 ·rintro k;kernel_rfl
 ·rintro k y E h;unfold TM at h;split at h
  ·cases h;kernel_rfl
  ·cases h
 ·rintro Q hQ k hx;refine ⟨(k+1),?_⟩;(with_reducible refine DL (t:=let z0:=(bdL c T U O n a b u v m p q pl ph);let z1:=(bdH c T U O n a b u v m p q pl ph);let z5:=fwB c T U O n a b u v;let z2:=z5 k;let z3:=Pt.boilI m p q pl;let z4:=Pt.boilI m p q ph;let z6:=(A6 c T U O n a b u v);let z7:=YZ c T U O n a b u v;(branch (decide ((k:Int)<(z6:Int))) (need [UM k z6] (need [VO (-z2 0*z3)] (need [(1:Int)<=T/\T<=100000,(0:Int)<= -z2 0*z3/\ -z2 0*z3<=1000000000000] (need [VO (z5 0 k*z4)] (need [(1:Int)<=T/\T<=100000,(0:Int)<=z5 0 k*z4/\z5 0 k*z4<=1000000000000] (need [UM k 11] (need [k*2+10-1-1-1-1-1-1+List.length [dnI (-z2 0*z3) T,upI (z5 0 k*z4) T]<=26] (need [VO ((k:Int)+1)] (need [X5 c T U O n a b u v m p q pl ph dl dh,KK,Z2=Z2,K7,Y4,U2 (vaB c T U O m p q pl ph dl dh),z7,U2 (eB c T U O n a b u v),U2 (ptr 45 0),z7,U2 (z6:Int),(k:Int)+1=(↑(k+1):Int),c=c,T=T,U=U,O=O,YR n a b u v,YW m p q,26=26,GY 26 (UT (k*2+10-1-1-1-1-1-1+1) (upI (z5 0 k*z4) T) (UT (k*2+10-1-1-1-1-1-1) (dnI (-z2 0*z3) T) (wkF pl ph dl dh z0 z1 k))) (wkF pl ph dl dh z0 z1 (k+1)),U2 (z3),U2 (z4),c=c,T=T,U=U,O=O,YR n a b u v,YW m p q,pl=pl,ph=ph,dl=dl,dh=dh] (leaf G9.normal)))))))))) (need [X5 c T U O n a b u v m p q pl ph dl dh,KK,Z2=Z2,K7,Y4,U2 (vaB c T U O m p q pl ph dl dh),z7,U2 (eB c T U O n a b u v),U2 (ptr 45 0),z7,U2 (z6:Int),(k:Int)=(↑(Int.toNat c+1):Int),c=c,T=T,U=U,O=O,YR n a b u v,YW m p q,26=26,GY 26 (wkF pl ph dl dh z0 z1 k) (wkF pl ph dl dh z0 z1 (Int.toNat c+1)),U2 (z3),U2 (z4),c=c,T=T,U=U,O=O,YR n a b u v,YW m p q,pl=pl,ph=ph,dl=dl,dh=dh] (leaf (G9.exit 1))))) VW ?_);simp only [Jo1,TM,VP.sat,GX] at hQ;have hv:=nV.1 HU;have hb:=BR hv.2.1;have hs:=Wc8 hv.1;have hl:A6 c T U O n a b u v=c.toNat+1:=if_pos F5;simp only [VP.sat,UD,G8,GO,UG,VO,UJ,HB,DP,L7,hl]
  refine ⟨λh=>?_,λh=>?_⟩
  ·have hk:=Xw2 F5 (k:=k) VM;have m1:=Qc3 (x:= -(fwB c T U O n a b u v k 0)) (y:=Pt.boilI m p q pl) (X:=2000) (Y:=2000) VM VM;have m2:=Qc3 (x:=fwB c T U O n a b u v 0 k) (y:=Pt.boilI m p q ph) (X:=2000) (Y:=2000) VM VM;have e6:k*2+10-1-1-1-1-1-1=4+2*k:=VM;rw [e6]
   (with_reducible repeat' first|apply Al|intro _)
   all_goals first|exact Ak|omega|with_reducible rfl|exact Xf9
  ·obtain rfl:k=c.toNat+1:=VM
   (with_reducible repeat' first|apply Al|intro _)
   all_goals first|exact Ak|omega|with_reducible rfl|(rename_i E hE;cases hE;exact hQ)
theorem TH:UQ VR 101 [.agg [i c,i T,i U,i O,rds n a b u v,Pt.scs m p q,i pl,i ph,i dl,i dh]] (.branch (decide (rdE c T U O n a b u v m p q pl ph dl dh=0)) (.leaf (.tup [.roI [i c,i T,i U,i O,rds n a b u v,Pt.scs m p q] 26 (wkA c T U O n a b u v m p q pl ph dl dh) 0,i 0])) (.leaf (.tup [.x (.pointer none),i (rdE c T U O n a b u v m p q pl ph dl dh)]))):=by
 refine GV (L:=[FT [n<=12,m<=8,vaB c T U O m p q pl ph dl dh=true,eB c T U O n a b u v=0] (Xz0 c T U O n a b u v m p q pl ph dl dh)]) (Ae cJ (Ae Bo.Heights_ok (Ae b6 (Ae Wb8 Aa)))) Ad U1 Tryz.func101 (UW Tryz.f101) (UZ (lpE (b:= .loop Js9) VW<|(D8 (ps:=[n<=12,m<=8,vaB c T U O m p q pl ph dl dh=true,eB c T U O n a b u v=0]) (λh=>Jc8 c T U O n a b u v m p q pl ph dl dh h.1 h.2.1 h.2.2.1 h.2.2.2)).N)) (t:=let z0:=(leaf (tup [roI [iI c,iI T,iI U,iI O,QR n a b u v,QZ m p q] 26 (λj=>wkF pl ph dl dh (bdL c T U O n a b u v m p q pl ph) (bdH c T U O n a b u v m p q pl ph) (Int.toNat c+1) j) 0,iI 0]));let z1:=eB c T U O n a b u v;let z2:=vaB c T U O m p q pl ph dl dh;let z3:=YZ c T U O n a b u v;(branch (decide ((n:Int)>12)) (leaf (tup [Z2,iI 3])) (branch (decide ((m:Int)>8)) (leaf (tup [Z2,iI 3])) (need [UH 4 n λk=>[Bo.i (a k),Bo.i (b k),Bo.i (u k),Bo.i (v k)],UH 2 m λk=>[Pt.i (p k),Pt.i (q k)],m<=100000] (need [UH 4 n λk=>[Bo.i (a k),Bo.i (b k),Bo.i (u k),Bo.i (v k)]] (branch (!z2) (leaf (tup [Z2,iI 1])) (branch (z1 != 0) (branch (z1 != 9) (leaf (tup [Z2,iI 1])) (branch (z1 != 0) (leaf (tup [Z2,iI (z1)])) (need [n<=12,m<=8,z2=true,z1=0] (need [X5 c T U O n a b u v m p q pl ph dl dh,KK,Z2=Z2,K7,Y4,U2 (z2),z3,U2 (z1),ptr 47 0=ptr 45 0,z3,U2 (↑(A6 c T U O n a b u v):Int),(0:Int)=(↑(0:Nat):Int),False,Pt.blLo m p q pl ph=Pt.boilI m p q pl,Pt.blHi m p q pl ph=Pt.boilI m p q ph,c=c,T=T,U=U,O=O,YR n a b u v,YW m p q,pl=pl,ph=ph,dl=dl,dh=dh] z0)))) (branch (z1 != 0) (leaf (tup [Z2,iI (z1)])) (need [n<=12,m<=8,z2=true,z1=0] (need [X5 c T U O n a b u v m p q pl ph dl dh,KK,Z2=Z2,K7,Y4,U2 (z2),z3,U2 (z1),U2 (ptr 45 0),z3,U2 (↑(A6 c T U O n a b u v):Int),(0:Int)=(↑(0:Nat):Int),c=c,T=T,U=U,O=O,YR n a b u v,YW m p q,List.length ([pl,ph,dl,dh]++cA 22)=26,GY 26 (UB ([pl,ph,dl,dh]++cA 22)) (wkF pl ph dl dh (bdL c T U O n a b u v m p q pl ph) (bdH c T U O n a b u v m p q pl ph) 0),Pt.blLo m p q pl ph=Pt.boilI m p q pl,Pt.blHi m p q pl ph=Pt.boilI m p q ph,c=c,T=T,U=U,O=O,YR n a b u v,YW m p q,pl=pl,ph=ph,dl=dl,dh=dh] z0)))))))))) VW ?_
 intro Q hQ;have e3:(n>12\/m>8)->rdE c T U O n a b u v m p q pl ph dl dh=3:=λh=>if_pos h
 have e1: ¬(n>12\/m>8)-> ¬(vaB c T U O m p q pl ph dl dh=true/\(eB c T U O n a b u v=0\/eB c T U O n a b u v=9))->rdE c T U O n a b u v m p q pl ph dl dh=1:=λh h'=>by
  unfold rdE;rw [if_neg h,if_neg h']
 have e0: ¬(n>12\/m>8)->vaB c T U O m p q pl ph dl dh=true->(eB c T U O n a b u v=0\/eB c T U O n a b u v=9)->rdE c T U O n a b u v m p q pl ph dl dh=eB c T U O n a b u v:=λh h' h''=>by
  unfold rdE;rw [if_neg h,if_pos ⟨h',h''⟩]
 simp only [VP.sat,UD,UJ,HB,RF,Ax,Bool.not_eq_false'] at hQ ⊢;have bad: ∀k:Int,k≠0->rdE c T U O n a b u v m p q pl ph dl dh=k-> ∃r',FJ (.tup [.x (.pointer none),i k]) r'/\Q r':=λk hk he=>by
  rw [he] at hQ;exact ⟨.tup [.x (.pointer none),i k],⟨rfl,⟨rfl,rfl⟩,Ak⟩,hQ.2 hk⟩
 refine ⟨λh1=>bad 3 VM (e3 VM),λh1=>⟨λh2=>bad 3 VM (e3 VM),λh2=>⟨⟨Bo.isRec4 n a b u v,Pt.isRec2 m p q,VM⟩,Bo.isRec4 n a b u v,λh3=>bad 1 VM (e1 VM (by rw [h3];simp)),λh3=>⟨λh4=>⟨λh5=>bad 1 VM (e1 VM VM),λh5=>⟨λh6=>bad _ h4 (e0 VM h3 (.inr h5)),λh6=>absurd h6 h4⟩⟩,λh4=>⟨λh5=>absurd h4 h5,λ_=>?_⟩⟩⟩⟩⟩
 have hv:=nV.1 h3;have hs:=Wc8 hv.1;refine ⟨⟨VM,VM,h3,h4⟩,⟨rfl,rfl,λj hj=>Xf8 hj,hs.2.2.2.1,hs.2.2.2.2⟩,.tup [.roI [i c,i T,i U,i O,rds n a b u v,Pt.scs m p q] 26 (wkA c T U O n a b u v m p q pl ph dl dh) 0,i 0],⟨⟨rfl,rfl,λ_ _=>rfl,rfl⟩,⟨rfl,rfl⟩,Ak⟩,hQ.1 ((e0 VM h3 (.inl h4)).trans h4)⟩
end
def r8:DK:=λl=>match l with
 |[.agg [.x (.int .i64 c),.x (.int .i64 T),.x (.int .i64 U),.x (.int .i64 O),.lst 4 n fr,.lst 2 m ft,.x (.int .i64 pl),.x (.int .i64 ph),.x (.int .i64 dl),.x (.int .i64 dh)]]=>some (.need [UH 4 n fr,UH 2 m ft] (.branch (decide (rdE c T U O n (col 0 fr) (col 1 fr) (col 2 fr) (col 3 fr) m (Pt.col 0 ft) (Pt.col 1 ft) pl ph dl dh=0)) (.leaf (.tup [.roI [i c,i T,i U,i O,rds n (col 0 fr) (col 1 fr) (col 2 fr) (col 3 fr),Pt.scs m (Pt.col 0 ft) (Pt.col 1 ft)] 26 (wkA c T U O n (col 0 fr) (col 1 fr) (col 2 fr) (col 3 fr) m (Pt.col 0 ft) (Pt.col 1 ft) pl ph dl dh) 0,i 0])) (.leaf (.tup [.x (.pointer none),i (rdE c T U O n (col 0 fr) (col 1 fr) (col 2 fr) (col 3 fr) m (Pt.col 0 ft) (Pt.col 1 ft) pl ph dl dh)]))))
 |_=>none
theorem xN:Sx.Enters Tryz.prog 101/\ ∀avs t,r8 avs=some t->UQ VR 101 avs t:=by
 refine ⟨(UK Tryz.func101),?_⟩;intro avs t h;unfold r8 at h;split at h
 ·cases h;intro Q hQ;have hr:UH 4 _ _:=GF hQ.1 _ GJ;have ht:UH 2 _ _:=GF hQ.1 _ (HW _ GJ);exact UQ.same (TH _ _ _ _ _ _ _ _ _ _ _ _ _ _ _ _) (.cons (P1.same (.cons (.refl _) (.cons (.refl _) (.cons (.refl _) (.cons (.refl _) (.cons (.lst 4 _ _ _ hr) (.cons (.lst 2 _ _ _ ht) (.cons (.refl _) (.cons (.refl _) (.cons (.refl _) (.cons (.refl _) .nil))))))))))) .nil) Q hQ.2
 ·cases h
section
variable (c T U O:Int)(n:Nat)(a b u v:Nat->Int)(m:Nat)(p q:Nat->Int)(pl ph dl dh:Int)
def asE(S W wi Z:Int):Int:=if rdE c T U O n a b u v m p q pl ph dl dh=0 then (if usB c S W wi&&bt 0 Z 10000 then 0 else 2) else rdE c T U O n a b u v m p q pl ph dl dh
def hdE(Z:Int):Int:=if rdE c T U O n a b u v m p q pl ph dl dh=0 then (if bt 0 Z 10000 then 0 else 2) else rdE c T U O n a b u v m p q pl ph dl dh
end
theorem Jd7{c T U O:Int}{n:Nat}{a b u v:Nat->Int}{m:Nat}{p q:Nat->Int}{pl ph dl dh:Int}(h:rdE c T U O n a b u v m p q pl ph dl dh=0):n<=12/\m<=8/\vaB c T U O m p q pl ph dl dh=true/\eB c T U O n a b u v=0:=by
 unfold rdE at h;split at h
 ·cases h
 ·rename_i h1;split at h
  ·rename_i h2;exact ⟨VM,VM,h2.1,h⟩
  ·cases h
section
variable {pl ph dl dh:Int}{L H:Nat->Int}{k j:Nat}
theorem wk_L(h:j<k):wkF pl ph dl dh L H k (4+2*j)=L j:=by
 unfold wkF;rw [if_neg VM,if_neg VM,if_neg VM,if_neg VM,if_pos VM,if_pos VM,show (4+2*j-4) / 2=j by omega]
theorem wk_H(h:j<k):wkF pl ph dl dh L H k (5+2*j)=H j:=by
 unfold wkF;rw [if_neg VM,if_neg VM,if_neg VM,if_neg VM,if_pos VM,if_neg VM,show (5+2*j-4) / 2=j by omega]
end
theorem cG{c T U O:Int}{n:Nat}{a b u v:Nat->Int}{m:Nat}{p q:Nat->Int}{pl ph dl dh:Int}(h:rdE c T U O n a b u v m p q pl ph dl dh=0):drB (wkA c T U O n a b u v m p q pl ph dl dh)/\bdB (wkA c T U O n a b u v m p q pl ph dl dh)/\(1<=c/\c<=10)/\ ∀k:Nat,(k:Int)<=c->0<=bdL c T U O n a b u v m p q pl ph k/\bdL c T U O n a b u v m p q pl ph k<=4000000/\0<=bdH c T U O n a b u v m p q pl ph k/\bdH c T U O n a b u v m p q pl ph k<=4000000:=by
 obtain ⟨h1,h2,h3,h4⟩:=Jd7 h;have hv:=nV.1 h3;have hb:=BR hv.2.1;have hs:=Wc8 hv.1;have key: ∀k:Nat,(k:Int)<=c->0<=bdL c T U O n a b u v m p q pl ph k/\bdL c T U O n a b u v m p q pl ph k<=4000000/\0<=bdH c T U O n a b u v m p q pl ph k/\bdH c T U O n a b u v m p q pl ph k<=4000000:=by
  intro k hk;have hk:=Xw2 h4 hk;have m1:=Qc3 (x:= -(fwB c T U O n a b u v k 0)) (y:=Pt.boilI m p q pl) (X:=2000) (Y:=2000) VM VM;have m2:=Qc3 (x:=fwB c T U O n a b u v 0 k) (y:=Pt.boilI m p q ph) (X:=2000) (Y:=2000) VM VM;have d1:=d7 m1.1 (show 1<=T by omega)
  have d2:=T5 m2.1 (show 1<=T by omega)
  unfold bdL bdH;omega
 refine ⟨⟨?_,?_⟩,λj hj=>?_,hb.1,key⟩
 ·show 0<=dl/\dl<=100;omega
 ·show 0<=dh/\dh<=100;omega
 ·by_cases hk:j / 2<c.toNat+1
  ·have:=key (j / 2) VM;rcases Nat.mod_two_eq_zero_or_one j with h0|h0
   ·have e:wkA c T U O n a b u v m p q pl ph dl dh (4+j)=bdL c T U O n a b u v m p q pl ph (j / 2):=by
     have:=wk_L (pl:=pl) (ph:=ph) (dl:=dl) (dh:=dh) (L:=bdL c T U O n a b u v m p q pl ph) (H:=bdH c T U O n a b u v m p q pl ph) hk;rw [show 4+2*(j / 2)=4+j by omega] at this
     exact this
    rw [e];omega
   ·have e:wkA c T U O n a b u v m p q pl ph dl dh (4+j)=bdH c T U O n a b u v m p q pl ph (j / 2):=by
     have:=wk_H (pl:=pl) (ph:=ph) (dl:=dl) (dh:=dh) (L:=bdL c T U O n a b u v m p q pl ph) (H:=bdH c T U O n a b u v m p q pl ph) hk;rw [show 5+2*(j / 2)=4+j by omega] at this
     exact this
    rw [e];omega
  ·have e:wkA c T U O n a b u v m p q pl ph dl dh (4+j)=0:=by
    unfold wkA wkF;rw [if_neg VM,if_neg VM,if_neg VM,if_neg VM,if_neg VM]
   rw [e];omega
abbrev KQ:Value:=Value.int IntKind.i64 (0:Int)
theorem uP(c T U O:Int)(n:Nat)(a b u v:Nat->Int)(m:Nat)(p q:Nat->Int)(pl ph dl dh:Int):U0 VR 184 [.agg [i c,i T,i U,i O,rds n a b u v,Pt.scs m p q,i pl,i ph,i dl,i dh]] (i (rdE c T U O n a b u v m p q pl ph dl dh)):=by
 refine GD (L:=[]) Aa (Aj Ab Ac (Ah xN (UE.nil _))) U1 Tryz.func184 (UW Tryz.f184) G7 (t:=need [UH 4 n λk=>[Bo.i (a k),Bo.i (b k),Bo.i (u k),Bo.i (v k)],UH 2 m λk=>[Pt.i (p k),Pt.i (q k)]] (branch (decide (rdE c T U O n a b u v m p q pl ph dl dh=0)) (leaf (RV.x (KQ))) (leaf (RV.x (.int .i64 (rdE c T U O n a b u v m p q pl ph dl dh)))))) VW ?_
 simp only [VP.sat,UD,G8,GO,UG,UJ,HB,RF,beq_iff_eq,beq_eq_false_iff_ne,Ax,Bool.not_eq_false',not_true_eq_false,false_imp_iff,true_imp_iff];exact ⟨⟨Bo.isRec4 n a b u v,Pt.isRec2 m p q⟩,λh=>h.symm,λ_=>trivial⟩
def DY:UY
 |[.agg [.x (.int .i64 c),.x (.int .i64 T),.x (.int .i64 U),.x (.int .i64 O),.lst 4 n fr,.lst 2 m ft,.x (.int .i64 pl),.x (.int .i64 ph),.x (.int .i64 dl),.x (.int .i64 dh)]]=>some ([UH 4 n fr,UH 2 m ft],i (rdE c T U O n (col 0 fr) (col 1 fr) (col 2 fr) (col 3 fr) m (Pt.col 0 ft) (Pt.col 1 ft) pl ph dl dh))
 |_=>none
theorem qZ:VS VR 184 DY:=by
 refine ⟨(UK Tryz.func184),?_⟩;intro avs ns res h I;unfold DY at h;split at h
 ·cases h;have hr:UH 4 _ _:=I _ GJ;have ht:UH 2 _ _:=I _ (HW _ GJ);exact (uP _ _ _ _ _ _ _ _ _ _ _ _ _ _ _ _).same (.cons (P1.same (.cons (.refl _) (.cons (.refl _) (.cons (.refl _) (.cons (.refl _) (.cons (.lst 4 _ _ _ hr) (.cons (.lst 2 _ _ _ ht) (.cons (.refl _) (.cons (.refl _) (.cons (.refl _) (.cons (.refl _) .nil))))))))))) .nil)
 ·cases h
abbrev ZD(c:Int)(T:Int)(U:Int)(O:Int)(n:Nat)(a:Nat->Int)(b:Nat->Int)(u:Nat->Int)(v:Nat->Int)(m:Nat)(p:Nat->Int)(q:Nat->Int)(pl:Int)(ph:Int)(dl:Int)(dh:Int):AV:=roI [iI c,iI T,iI U,iI O,QR n a b u v,QZ m p q] 26 (λa_1=>wkA c T U O n a b u v m p q pl ph dl dh a_1) 0
theorem Wy4(c T U O:Int)(n:Nat)(a b u v:Nat->Int)(m:Nat)(p q:Nat->Int)(pl ph dl dh:Int)(S W wi Z:Int):UQ VR 96 [.agg [i c,i T,i U,i O,rds n a b u v,Pt.scs m p q,i pl,i ph,i dl,i dh],.agg [i S,i W,i wi],i Z] (.branch (decide (asE c T U O n a b u v m p q pl ph dl dh S W wi Z=0)) (.leaf (.tup [.roI [i c,i T,i U,i O,rds n a b u v,Pt.scs m p q] 26 (wkA c T U O n a b u v m p q pl ph dl dh) 0,i 0])) (.leaf (.tup [.top,i (asE c T U O n a b u v m p q pl ph dl dh S W wi Z)]))):=by
 refine GV (L:=[]) (Ae Zf9 (Ae RM Aa)) (Aj Ab Ac (Ah xN (UE.nil _))) U1 Tryz.func96 (UW Tryz.f96) G7 (t:=let z0:=rdE c T U O n a b u v m p q pl ph dl dh;let z1:=ZD c T U O n a b u v m p q pl ph dl dh;(need [UH 4 n λk=>[Bo.i (a k),Bo.i (b k),Bo.i (u k),Bo.i (v k)],UH 2 m λk=>[Pt.i (p k),Pt.i (q k)]] (branch (decide (z0=0)) (branch ((0:Int)==0) (need [UH 4 n λk=>[Bo.i (a k),Bo.i (b k),Bo.i (u k),Bo.i (v k)],UH 2 m λk=>[Pt.i (p k),Pt.i (q k)]] (branch (!usB c S W wi) (leaf (tup [z1,iI 2])) (branch (!bt (0:Int) Z (10000:Int)) (leaf (tup [z1,iI 2])) (leaf (tup [z1,iI 0]))))) (leaf (tup [z1,iI 0]))) (branch (z0==0) (need [UH 4 n λk=>[Bo.i (a k),Bo.i (b k),Bo.i (u k),Bo.i (v k)],UH 2 m λk=>[Pt.i (p k),Pt.i (q k)]] (branch (!usB c S W wi) (leaf (tup [Z2,iI 2])) (branch (!bt (0:Int) Z (10000:Int)) (leaf (tup [Z2,iI 2])) (leaf (tup [Z2,iI (z0)]))))) (leaf (tup [Z2,iI (z0)])))))) VW ?_
 intro Q hQ;simp only [VP.sat,UD,G8,GO,UG,UJ,HB,RF,beq_iff_eq,beq_eq_false_iff_ne,Ax,Bool.not_eq_false',not_true_eq_false,false_imp_iff,true_imp_iff] at hQ ⊢;have hr:rdE c T U O n a b u v m p q pl ph dl dh≠0->asE c T U O n a b u v m p q pl ph dl dh S W wi Z=rdE c T U O n a b u v m p q pl ph dl dh:=λh=>if_neg h
 have h2:rdE c T U O n a b u v m p q pl ph dl dh=0->(usB c S W wi=false\/bt 0 Z 10000=false)->asE c T U O n a b u v m p q pl ph dl dh S W wi Z=2:=λh h'=>by
  unfold asE;rw [if_pos h,if_neg (by rcases h' with h'|h'<;>simp [h'])]
 have h0:rdE c T U O n a b u v m p q pl ph dl dh=0->usB c S W wi=true->bt 0 Z 10000=true->asE c T U O n a b u v m p q pl ph dl dh S W wi Z=0:=λh h' h''=>by
  unfold asE;rw [if_pos h,h',h''];rfl
 have bad: ∀(x:AV) (k:Int),asE c T U O n a b u v m p q pl ph dl dh S W wi Z=k->k≠0-> ∃r',FJ (.tup [x,i k]) r'/\Q r':=λx k he hk=>by
  rw [he] at hQ;exact ⟨.tup [.top,i k],⟨by cases x<;>trivial,⟨rfl,rfl⟩,Ak⟩,hQ.2 hk⟩
 refine ⟨⟨Bo.isRec4 n a b u v,Pt.isRec2 m p q⟩,λh=>⟨⟨Bo.isRec4 n a b u v,Pt.isRec2 m p q⟩,λg=>bad _ 2 (h2 h (.inl g)) VM,λg=>⟨λg'=>bad _ 2 (h2 h (.inr g')) VM,λg'=>?_⟩⟩,λh=>⟨λh'=>absurd h' h,λ_=>?_⟩⟩
 ·exact ⟨.tup [.roI [i c,i T,i U,i O,rds n a b u v,Pt.scs m p q] 26 (wkA c T U O n a b u v m p q pl ph dl dh) 0,i 0],⟨⟨rfl,rfl,λ_ _=>rfl,rfl⟩,⟨rfl,rfl⟩,Ak⟩,hQ.1 (h0 h g g')⟩
 ·exact bad _ _ (hr h) h
def Qm3:DK:=λl=>match l with
 |[.agg [.x (.int .i64 c),.x (.int .i64 T),.x (.int .i64 U),.x (.int .i64 O),.lst 4 n fr,.lst 2 m ft,.x (.int .i64 pl),.x (.int .i64 ph),.x (.int .i64 dl),.x (.int .i64 dh)],.agg [.x (.int .i64 S),.x (.int .i64 W),.x (.int .i64 wi)],.x (.int .i64 Z)]=>some (.need [UH 4 n fr,UH 2 m ft] (.branch (decide (asE c T U O n (col 0 fr) (col 1 fr) (col 2 fr) (col 3 fr) m (Pt.col 0 ft) (Pt.col 1 ft) pl ph dl dh S W wi Z=0)) (.leaf (.tup [.roI [i c,i T,i U,i O,rds n (col 0 fr) (col 1 fr) (col 2 fr) (col 3 fr),Pt.scs m (Pt.col 0 ft) (Pt.col 1 ft)] 26 (wkA c T U O n (col 0 fr) (col 1 fr) (col 2 fr) (col 3 fr) m (Pt.col 0 ft) (Pt.col 1 ft) pl ph dl dh) 0,i 0])) (.leaf (.tup [.top,i (asE c T U O n (col 0 fr) (col 1 fr) (col 2 fr) (col 3 fr) m (Pt.col 0 ft) (Pt.col 1 ft) pl ph dl dh S W wi Z)]))))
 |_=>none
theorem Qv9:Sx.Enters Tryz.prog 96/\ ∀avs t,Qm3 avs=some t->UQ VR 96 avs t:=by
 refine ⟨(UK Tryz.func96),?_⟩;intro avs t h;unfold Qm3 at h;split at h
 ·cases h;intro Q hQ;have hr:UH 4 _ _:=GF hQ.1 _ GJ;have ht:UH 2 _ _:=GF hQ.1 _ (HW _ GJ);exact UQ.same (Wy4 _ _ _ _ _ _ _ _ _ _ _ _ _ _ _ _ _ _ _ _) (.cons (P1.same (.cons (.refl _) (.cons (.refl _) (.cons (.refl _) (.cons (.refl _) (.cons (.lst 4 _ _ _ hr) (.cons (.lst 2 _ _ _ ht) (.cons (.refl _) (.cons (.refl _) (.cons (.refl _) (.cons (.refl _) .nil))))))))))) (.cons (.refl _) (.cons (.refl _) .nil))) Q hQ.2
 ·cases h
def kpB(c T U O:Int)(n:Nat)(a b u v:Nat->Int)(m:Nat)(p q:Nat->Int)(pl ph dl dh:Int)(S W wi Z:Int):Bool:=decide (asE c T U O n a b u v m p q pl ph dl dh S W wi Z=0)&&keB c (wkA c T U O n a b u v m p q pl ph dl dh) S W wi Z
theorem Jm9{c T U O:Int}{n:Nat}{a b u v:Nat->Int}{m:Nat}{p q:Nat->Int}{pl ph dl dh S W wi Z:Int}(h:asE c T U O n a b u v m p q pl ph dl dh S W wi Z=0):rdE c T U O n a b u v m p q pl ph dl dh=0/\usB c S W wi=true/\0<=Z/\Z<=10000:=by
 unfold asE at h;split at h
 ·rename_i h1;split at h
  ·rename_i h2;rw [HC] at h2;exact ⟨h1,h2.1,(bt_iff _ _ _).1 h2.2⟩
  ·cases h
 ·rename_i h1;exact absurd h h1
theorem Xr2(c T U O:Int)(n:Nat)(a b u v:Nat->Int)(m:Nat)(p q:Nat->Int)(pl ph dl dh:Int)(S W wi Z:Int):U0 VR 71 [.agg [i c,i T,i U,i O,rds n a b u v,Pt.scs m p q,i pl,i ph,i dl,i dh],.agg [i S,i W,i wi],i Z] (.tup [bl (kpB c T U O n a b u v m p q pl ph dl dh S W wi Z),i (asE c T U O n a b u v m p q pl ph dl dh S W wi Z)]):=by
 refine GD (L:=[]) (Ae Xj6 Aa) (Aj Ab Ac (Ah Qv9 (UE.nil _))) U1 Tryz.func71 (UW Tryz.f71) G7 (t:=let z0:=asE c T U O n a b u v m p q pl ph dl dh S W wi Z;let z1:=(wkA c T U O n a b u v m p q pl ph dl dh);(need [UH 4 n λk=>[Bo.i (a k),Bo.i (b k),Bo.i (u k),Bo.i (v k)],UH 2 m λk=>[Pt.i (p k),Pt.i (q k)]] (branch (decide (z0=0)) (branch ((0:Int)==0) (need [drB z1,bdB z1,(1:Int)<=c/\c<=10,(0:Int)<=S/\S<=W/\W<=10,(0:Int)<=wi/\wi<=1000000,(0:Int)<=Z/\Z<=100000] (leaf (RV.tup [RV.x (.bool (keB c z1 S W wi Z)),RV.x (KQ)]))) (leaf (RV.tup [RV.x (Y0),RV.x (KQ)]))) (branch (z0==0) VP.fail (leaf (RV.tup [RV.x (Y0),RV.x (.int .i64 (z0))])))))) VW ?_
 simp only [VP.sat,UD,G8,GO,UG,UJ,HB,RF,beq_iff_eq,beq_eq_false_iff_ne,Ax,Bool.not_eq_false',not_true_eq_false,false_imp_iff,true_imp_iff];refine ⟨⟨Bo.isRec4 n a b u v,Pt.isRec2 m p q⟩,λh=>?_,λh=>⟨λh'=>absurd h' h,λ_=>?_⟩⟩
 ·obtain ⟨h1,h2,h3⟩:=Jm9 h;have hw:=cG h1;have hu:=Xg6.1 h2;refine ⟨⟨hw.1,hw.2.1,hw.2.2.1,VM,VM,VM⟩,?_,h.symm⟩;unfold kpB;rw [h];rfl
 ·unfold kpB;rw [decide_eq_false h];rfl
def bQ:UY
 |[.agg [.x (.int .i64 c),.x (.int .i64 T),.x (.int .i64 U),.x (.int .i64 O),.lst 4 n fr,.lst 2 m ft,.x (.int .i64 pl),.x (.int .i64 ph),.x (.int .i64 dl),.x (.int .i64 dh)],.agg [.x (.int .i64 S),.x (.int .i64 W),.x (.int .i64 wi)],.x (.int .i64 Z)]=>some ([UH 4 n fr,UH 2 m ft],.tup [bl (kpB c T U O n (col 0 fr) (col 1 fr) (col 2 fr) (col 3 fr) m (Pt.col 0 ft) (Pt.col 1 ft) pl ph dl dh S W wi Z),i (asE c T U O n (col 0 fr) (col 1 fr) (col 2 fr) (col 3 fr) m (Pt.col 0 ft) (Pt.col 1 ft) pl ph dl dh S W wi Z)])
 |_=>none
theorem Ql8:VS VR 71 bQ:=by
 refine ⟨(UK Tryz.func71),?_⟩;intro avs ns res h I;unfold bQ at h;split at h
 ·cases h;have hr:UH 4 _ _:=I _ GJ;have ht:UH 2 _ _:=I _ (HW _ GJ);exact (Xr2 _ _ _ _ _ _ _ _ _ _ _ _ _ _ _ _ _ _ _ _).same (.cons (P1.same (.cons (.refl _) (.cons (.refl _) (.cons (.refl _) (.cons (.refl _) (.cons (.lst 4 _ _ _ hr) (.cons (.lst 2 _ _ _ ht) (.cons (.refl _) (.cons (.refl _) (.cons (.refl _) (.cons (.refl _) .nil))))))))))) (.cons (.refl _) (.cons (.refl _) .nil)))
 ·cases h
def hdN(c T U O:Int)(n:Nat)(a b u v:Nat->Int)(m:Nat)(p q:Nat->Int)(pl ph dl dh:Int)(Z:Int):Nat:=if hdE c T U O n a b u v m p q pl ph dl dh Z=0 then c.toNat+1 else 0
theorem B8{P:Program}{c:Code}{ps:List Prop}{sp:UL}(h:UD ps->HN P c sp):HN P c (FT ps sp):=λcx hf=>xA (λhp=>h hp cx hf)
theorem Zq9{g h:Nat->Int}{k j:Nat}{x y:Int}(hx:x=g k)(hy:y=h k)(hj:j<k+1):GI k (λk=>[i (g k),i (h k)]) (U8 2 [i x,i y]) j=[i (g j),i (h j)]:=by
 subst hx;subst hy;show HD (decide (j<k)) [i (g j),i (h j)] (U8 2 [i (g k),i (h k)] (j-k))=_;rw [show j-k=0 by omega]
 by_cases hj:j<k
 ·rw [decide_eq_true hj];rfl
 ·obtain rfl:j=k:=VM;rw [decide_eq_false hj];rfl
section
variable (c T U O:Int)(n:Nat)(a b u v:Nat->Int)(m:Nat)(p q:Nat->Int)(pl ph dl dh:Int)(Z:Int)
def Jr8:St:={σ:=mkS 37 [(0,.agg [i c,i T,i U,i O,rds n a b u v,Pt.scs m p q,i pl,i ph,i dl,i dh]),(1,i Z),(2,.fn (.func 76) [] []),(3,.ptr 0 0),(4,.ptr 1 0),(5,.ptr 2 0),(6,.x (.slice none 0 0)),(7,i 0),(8,.ptr 10 0),(9,i 0),(10,.ptr 18 0),(26,.fn (.func 137) [] [.ro [i 0],.ro [i c]])],m:=[(901,.row 124 2 0 (λk=>[i (onL (wkA c T U O n a b u v m p q pl ph dl dh) k Z),i (onH (wkA c T U O n a b u v m p q pl ph dl dh) k Z)])),(18,.cells 118 [.row 901]),(10,.cells 167 [.roI [i c,i T,i U,i O,rds n a b u v,Pt.scs m p q] 26 (wkA c T U O n a b u v m p q pl ph dl dh) 0]),(2,.cells 165 [.fn (.func 76) [] []]),(1,.cells 3 [i Z]),(0,.cells 126 [i c,i T,i U,i O,rds n a b u v,Pt.scs m p q,i pl,i ph,i dl,i dh])],nx:=902}
noncomputable def Jv9:Code:=MX (VV (U9 Tryz.f75) 0)
noncomputable def Ju9:Code:=MW (VV (U9 Tryz.f75) 0)
def pT(k:Nat):St:={σ:=H4 [] (Jr8 c T U O n a b u v m p q pl ph dl dh Z).σ,m:=[(901,.row 124 2 k (λk=>[i (onL (wkA c T U O n a b u v m p q pl ph dl dh) k Z),i (onH (wkA c T U O n a b u v m p q pl ph dl dh) k Z)])),(18,.cells 118 [.row 901]),(10,.cells 167 [.roI [i c,i T,i U,i O,rds n a b u v,Pt.scs m p q] 26 (wkA c T U O n a b u v m p q pl ph dl dh) 0]),(2,.cells 165 [.fn (.func 76) [] []]),(1,.cells 3 [i Z]),(0,.cells 126 [i c,i T,i U,i O,rds n a b u v,Pt.scs m p q,i pl,i ph,i dl,i dh])],nx:=902}
def oZ(k:Nat):G9->Option St
 | .normal=>some {σ:=H4 [] (Jr8 c T U O n a b u v m p q pl ph dl dh Z).σ,m:=[(901,.row 124 2 ((c-0+1).toNat) (λk=>[i (onL (wkA c T U O n a b u v m p q pl ph dl dh) k Z),i (onH (wkA c T U O n a b u v m p q pl ph dl dh) k Z)])),(18,.cells 118 [.row 901]),(10,.cells 167 [.roI [i c,i T,i U,i O,rds n a b u v,Pt.scs m p q] 26 (wkA c T U O n a b u v m p q pl ph dl dh) 0]),(2,.cells 165 [.fn (.func 76) [] []]),(1,.cells 3 [i Z]),(0,.cells 126 [i c,i T,i U,i O,rds n a b u v,Pt.scs m p q,i pl,i ph,i dl,i dh])],nx:=902}
 |_=>none
def T_eO:CT:= .leaf (.normal,pT c T U O n a b u v m p q pl ph dl dh Z ((c-0+1).toNat))
def Zb9:UL:=GM [(.cell 18 0,901,124,2)] (HK (pT c T U O n a b u v m p q pl ph dl dh Z (0)) (T_eO c T U O n a b u v m p q pl ph dl dh Z))
end
abbrev ZU(c:Int):AV:=AV.fn (Fn.func 137) [] [AV.ro [iI 0],AV.ro [iI c]]
abbrev J1:Prop:=AV.fn (Fn.func 76) [] []=AV.fn (Fn.func 76) [] []
abbrev KX:Ext:={R:=[(103,bN)],H:=[],C:=[(101,r8)] }
section
variable (c T U O:Int)(n:Nat)(a b u v:Nat->Int)(m:Nat)(p q:Nat->Int)(pl ph dl dh:Int)(Z:Int)
theorem Jl3(VU:rdE c T U O n a b u v m p q pl ph dl dh=0)(UI:0<=Z/\Z<=10000)(HU:drB (wkA c T U O n a b u v m p q pl ph dl dh)/\bdB (wkA c T U O n a b u v m p q pl ph dl dh)/\1<=c/\c<=10):HN VR (.rangeFunc (rfF (VV (U9 Tryz.f75) 0)) (zQ (VV (U9 Tryz.f75) 0)) Jv9 Ju9) (Zb9 c T U O n a b u v m p q pl ph dl dh Z):=by
 refine LH [(.cell 18 0,901,124,2)] (L:=[]) (Ae RM (Ae Wh5 Aa)) (Aj (Af dX Ab) Ac (Ah xN (UE.nil _))) U1 U6 (V:=Nat) (pT c T U O n a b u v m p q pl ph dl dh Z) (λk=>k<=((c-0+1).toNat)) (λk=>k) (oZ c T U O n a b u v m p q pl ph dl dh Z) (x0:=0) VX rfl ?_ ?_ ?_ ?_ (g:=137) (caps:=[.ro [i 0],.ro [i c]]) VW VW (ER 0 c VM VM) (λ_=>rfl) ?_
 ·rintro k;kernel_rfl
 ·rintro k y E h;unfold oZ at h;split at h
  ·cases h;kernel_rfl
  ·cases h
 ·rintro k;rfl
 ·rintro k y E h;unfold oZ at h;split at h
  ·cases h;rfl
  ·cases h
 ·rintro Q hQ k hx;refine ⟨λhlt=>⟨(k+1),rfl,?_⟩,λPI=>?_⟩
  ·(with_reducible refine DL (t:=let z0:=(wkA c T U O n a b u v m p q pl ph dl dh);let z1:=((0:Int)+(k:Int)).toNat;(need [drB z0,bdB z0,(0:Int)<=0+(k:Int)/\(0:Int)+(k:Int)<=10,(0:Int)<=Z/\Z<=100000] (need [(k+1)*16<=140737488355328,RZ 1 (U8 2 [iI (onL z0 z1 Z),iI (onH z0 z1 Z)])] (need [X5 c T U O n a b u v m p q pl ph dl dh,Z=Z,J1,KK,U2 (ptr 1 0),U2 (ptr 2 0),Z9=Z9,K7,U2 (ptr 10 0),K7,Y4,ZU c=ZU c,k+1=k+1,GY (k+1) (GI k (λk=>[iI (onL z0 k Z),iI (onH z0 k Z)]) (U8 2 [iI (onL z0 z1 Z),iI (onH z0 z1 Z)])) (λi=>[iI (onL z0 i Z),iI (onH z0 i Z)]),U2 (AV.row 901),U2 (ZD c T U O n a b u v m p q pl ph dl dh),J1,Z=Z,c=c,T=T,U=U,O=O,YR n a b u v,YW m p q,pl=pl,ph=ph,dl=dl,dh=dh] (leaf G9.normal))))) VW ?_)
   simp only [VP.sat,UD,UJ]
   have ek:((0:Int)+(k:Int)).toNat=k:=VM;refine ⟨⟨HU.1,HU.2.1,VM,VM⟩,⟨VM,λj hj a ha=>FS ha (by simp [AV.one,Value.oneCell'])⟩,λj hj=>?_,VM⟩
   rw [ek];exact Zq9 rfl rfl hj
  ·subst PI;exact hQ
abbrev YV:Value:=Value.slice none 0 0
theorem Wv6:U0 VR 75 [.agg [i c,i T,i U,i O,rds n a b u v,Pt.scs m p q,i pl,i ph,i dl,i dh],i Z,.fn (.func 76) [] []] (.tup [.lst 2 (hdN c T U O n a b u v m p q pl ph dl dh Z) (λk=>[i (onL (wkA c T U O n a b u v m p q pl ph dl dh) k Z),i (onH (wkA c T U O n a b u v m p q pl ph dl dh) k Z)]),i (hdE c T U O n a b u v m p q pl ph dl dh Z)]):=by
 refine GD (L:=[FT [rdE c T U O n a b u v m p q pl ph dl dh=0,0<=Z/\Z<=10000,drB (wkA c T U O n a b u v m p q pl ph dl dh)/\bdB (wkA c T U O n a b u v m p q pl ph dl dh)/\1<=c/\c<=10] (Zb9 c T U O n a b u v m p q pl ph dl dh Z)]) (Ae RM (Ae Wh5 Aa)) (Aj (Af dX Ab) Ac (Ah xN (UE.nil _))) U1 Tryz.func75 (UW Tryz.f75) (UZ (lpE (b:= .rangeFunc (rfF (VV (U9 Tryz.f75) 0)) (zQ (VV (U9 Tryz.f75) 0)) Jv9 Ju9) VW<|B8 (λh=>Jl3 c T U O n a b u v m p q pl ph dl dh Z h.1 h.2.1 h.2.2))) (t:=let z0:=wkA c T U O n a b u v m p q pl ph dl dh;let z1:=rdE c T U O n a b u v m p q pl ph dl dh;let z2:=(leaf (RV.tup [RV.lst 2 (c-0+1).toNat λk=>[iI (onL (z0) k Z),iI (onH (z0) k Z)],RV.x (KQ)]));let z3:=(leaf (RV.tup [RV.x (YV),RV.x (.int .i64 (2:Int))]));(need [UH 4 n λk=>[Bo.i (a k),Bo.i (b k),Bo.i (u k),Bo.i (v k)],UH 2 m λk=>[Pt.i (p k),Pt.i (q k)]] (branch (decide (z1=0)) (branch ((0:Int) != 0) (leaf (RV.tup [RV.x (YV),RV.x (KQ)])) (branch (!bt (0:Int) Z (10000:Int)) z3 (need [z1=0,(0:Int)<=Z/\Z<=10000,drB (z0)/\bdB (z0)/\(1:Int)<=c/\c<=10] (need [X5 c T U O n a b u v m p q pl ph dl dh,Z=Z,J1,KK,U2 (ptr 1 0),U2 (ptr 2 0),Z9=Z9,K7,U2 (ptr 10 0),K7,Y4,ZU c=ZU c,0=0,∀(i:Nat),i<0->[]=[iI (onL (z0) i Z),iI (onH (z0) i Z)],U2 (AV.row 901),U2 (ZD c T U O n a b u v m p q pl ph dl dh),J1,Z=Z,c=c,T=T,U=U,O=O,YR n a b u v,YW m p q,pl=pl,ph=ph,dl=dl,dh=dh] z2)))) (branch (z1 != 0) (leaf (RV.tup [RV.x (YV),RV.x (.int .i64 (z1))])) (branch (!bt (0:Int) Z (10000:Int)) z3 (need [z1=0,(0:Int)<=Z/\Z<=10000,drB (z0)/\bdB (z0)/\(1:Int)<=c/\c<=10] (need [X5 c T U O n a b u v m p q pl ph dl dh,Z=Z,J1,KK,U2 (ptr 1 0),U2 (ptr 2 0),Z9=Z9,K7,U2 (ptr 10 0),z1=0,Y4,ZU c=ZU c,0=0,∀(i:Nat),i<0->[]=[iI (onL (z0) i Z),iI (onH (z0) i Z)],U2 (AV.row 901),AV.x (.pointer none)=roI [iI c,iI T,iI U,iI O,QR n a b u v,QZ m p q] 26 (λa_1=>z0 a_1) 0,J1,Z=Z,c=c,T=T,U=U,O=O,YR n a b u v,YW m p q,pl=pl,ph=ph,dl=dl,dh=dh] z2))))))) VW ?_
 simp only [VP.sat,UD,G8,GO,UG,UJ,HB,RF,beq_iff_eq,beq_eq_false_iff_ne,Ax,Bool.not_eq_false',not_true_eq_false,false_imp_iff,true_imp_iff];have e2:rdE c T U O n a b u v m p q pl ph dl dh=0->bt 0 Z 10000=false->hdE c T U O n a b u v m p q pl ph dl dh Z=2:=λh h'=>by
  unfold hdE;rw [if_pos h,h'];rfl
 have e0:rdE c T U O n a b u v m p q pl ph dl dh=0->bt 0 Z 10000=true->hdE c T U O n a b u v m p q pl ph dl dh Z=0:=λh h'=>by
  unfold hdE;rw [if_pos h,h'];rfl
 have er: ¬rdE c T U O n a b u v m p q pl ph dl dh=0->hdE c T U O n a b u v m p q pl ph dl dh Z=rdE c T U O n a b u v m p q pl ph dl dh:=λh=>if_neg h
 have eN: ∀k:Int,hdE c T U O n a b u v m p q pl ph dl dh Z=k->k≠0->(iQ (YV)/\hdN c T U O n a b u v m p q pl ph dl dh Z=0)/\k=hdE c T U O n a b u v m p q pl ph dl dh Z:=λk h hk=>⟨⟨by trivial,if_neg (by rw [h];exact hk)⟩,h.symm⟩
 have eP:rdE c T U O n a b u v m p q pl ph dl dh=0->bt 0 Z 10000=true->hdN c T U O n a b u v m p q pl ph dl dh Z=c.toNat+1:=λh h'=>if_pos (e0 h h')
 refine ⟨⟨Bo.isRec4 n a b u v,Pt.isRec2 m p q⟩,λh=>⟨λh'=>eN 2 (e2 h h') (by decide),λh'=>?_⟩,λh=>⟨λ_=>eN _ (er h) h,λh''=>absurd h'' h⟩⟩
 have hw:=cG h;have hb:=(bt_iff _ _ _).1 h';refine ⟨⟨h,hb,hw.1,hw.2.1,hw.2.2.1⟩,λj hj=>absurd hj (Aq _),⟨?_,λj _ x hx=>?_⟩,(e0 h h').symm⟩
 ·rw [eP h h'];omega
 ·simp only [GQ,DQ,or_false] at hx;rcases hx with rfl|rfl<;>exact Ak
end
def Qj2:UY
 |[.agg [.x (.int .i64 c),.x (.int .i64 T),.x (.int .i64 U),.x (.int .i64 O),.lst 4 n fr,.lst 2 m ft,.x (.int .i64 pl),.x (.int .i64 ph),.x (.int .i64 dl),.x (.int .i64 dh)],.x (.int .i64 Z),.fn (.func 76) [] []]=>some ([UH 4 n fr,UH 2 m ft],.tup [.lst 2 (hdN c T U O n (col 0 fr) (col 1 fr) (col 2 fr) (col 3 fr) m (Pt.col 0 ft) (Pt.col 1 ft) pl ph dl dh Z) (λk=>[i (onL (wkA c T U O n (col 0 fr) (col 1 fr) (col 2 fr) (col 3 fr) m (Pt.col 0 ft) (Pt.col 1 ft) pl ph dl dh) k Z),i (onH (wkA c T U O n (col 0 fr) (col 1 fr) (col 2 fr) (col 3 fr) m (Pt.col 0 ft) (Pt.col 1 ft) pl ph dl dh) k Z)]),i (hdE c T U O n (col 0 fr) (col 1 fr) (col 2 fr) (col 3 fr) m (Pt.col 0 ft) (Pt.col 1 ft) pl ph dl dh Z)])
 |_=>none
theorem Wv5:VS VR 75 Qj2:=by
 refine ⟨(UK Tryz.func75),?_⟩;intro avs ns res h I;unfold Qj2 at h;split at h
 ·cases h;have hr:UH 4 _ _:=I _ GJ;have ht:UH 2 _ _:=I _ (HW _ GJ);exact (Wv6 _ _ _ _ _ _ _ _ _ _ _ _ _ _ _ _ _).same (.cons (P1.same (.cons (.refl _) (.cons (.refl _) (.cons (.refl _) (.cons (.refl _) (.cons (.lst 4 _ _ _ hr) (.cons (.lst 2 _ _ _ ht) (.cons (.refl _) (.cons (.refl _) (.cons (.refl _) (.cons (.refl _) .nil))))))))))) (.cons (.refl _) (.cons (.refl _) .nil)))
 ·cases h
theorem uO(c T U O:Int)(n:Nat)(a b u v:Nat->Int)(m:Nat)(p q:Nat->Int)(pl ph dl dh:Int)(Z:Int):FF VR 44 [.agg [i c,i T,i U,i O,rds n a b u v,Pt.scs m p q,i pl,i ph,i dl,i dh],i Z] (.tup [.lst 2 (hdN c T U O n a b u v m p q pl ph dl dh Z) (λk=>[i (onL (wkA c T U O n a b u v m p q pl ph dl dh) k Z),i (onH (wkA c T U O n a b u v m p q pl ph dl dh) k Z)]),i (hdE c T U O n a b u v m p q pl ph dl dh Z)]):=by
 refine D0 (L:=[]) (Ae Wv5 Aa) Ad U1 Tryz.func44 (UW Tryz.f44) G7 (t:=need [UH 4 n λk=>[Bo.i (a k),Bo.i (b k),Bo.i (u k),Bo.i (v k)],UH 2 m λk=>[Pt.i (p k),Pt.i (q k)]] (leaf (tup [lst 2 (hdN c T U O n a b u v m p q pl ph dl dh Z) λk=>[iI (onL (wkA c T U O n a b u v m p q pl ph dl dh) k Z),iI (onH (wkA c T U O n a b u v m p q pl ph dl dh) k Z)],iI (hdE c T U O n a b u v m p q pl ph dl dh Z)]))) VW ?_
 simp only [VP.sat,UD,UJ];exact ⟨⟨Bo.isRec4 n a b u v,Pt.isRec2 m p q⟩,⟨rfl,rfl,λ_ _=>rfl⟩,⟨rfl,rfl⟩,Ak⟩
end Go.Proofs.YtlclobclmfhlmaaGreatDoor
namespace Go.Proofs.YtlclobclmfhlmaaGreatDoor.Hd
open Go Go.Sx Go.RowKit Bo
open Go.Sx.VP (need branch leaf)
open Go.Sx.AV (lst ptr agg roI tup top)
def SQ:UY
 |[.x (.int .i64 n),.x (.int .i64 U),.x (.int .i64 O)]=>some ([],bl (bt U n O))
 |_=>none
abbrev WO:Value:=Value.bool false
theorem VD{p:Prop}(h:p:=by
 simp only [VP.sat,UD,G8,GO,UG,UJ];all_goals (simp+contextual [bt,insB,Bo.bt,Bo.insB,Bool.and_assoc]);all_goals omega):p:=h
theorem sZ(n U O:Int):U0 VR 118 [i n,i U,i O] (bl (bt U n O)):=by
 refine GZ Tryz.func118 (t:=branch (decide (U<=n)) (leaf (RV.x (.bool (decide (n<=O))))) (leaf (RV.x (WO)))) VW ?_;exact VD
theorem jH:VS VR 118 SQ:=by
 refine ⟨(UK Tryz.func118),?_⟩;intro avs ns res h I;unfold SQ at h;split at h
 ·cases h;exact sZ _ _ _
 ·cases h
def ST:UY
 |[.agg [.x (.int .i64 a),.x (.int .i64 b)],.x (.int .i64 U),.x (.int .i64 O)]=>some ([],bl (insB U a b O))
 |_=>none
theorem tD(a b U O:Int):U0 VR 157 [.agg [i a,i b],i U,i O] (bl (insB U a b O)):=by
 refine GZ Tryz.func157 (t:=branch (decide (U<=a)) (branch (decide (a<=b)) (leaf (RV.x (.bool (decide (b<=O))))) (leaf (RV.x (WO)))) (leaf (RV.x (WO)))) VW ?_;exact VD
theorem M4:VS VR 157 ST:=by
 refine ⟨(UK Tryz.func157),?_⟩;intro avs ns res h I;unfold ST at h;split at h
 ·cases h;exact tD _ _ _ _
 ·cases h
def SR:UY
 |[.agg [.x (.int .i64 a),.x (.int .i64 b)]]=>some ([],bl (insB (-100) a b 100))
 |_=>none
theorem tB(a b:Int):U0 VR 117 [.agg [i a,i b]] (bl (insB (-100) a b 100)):=by
 refine U4 (L:=[]) (Ae M4 Aa) U1 Tryz.func117 (UW Tryz.f117) U6 (t:=leaf (RV.x (.bool (insB (-100:Int) a b (100:Int))))) VW ?_;exact V4
theorem tA:VS VR 117 SR:=by
 refine ⟨(UK Tryz.func117),?_⟩;intro avs ns res h I;unfold SR at h;split at h
 ·cases h;exact tB _ _
 ·cases h
def Qj6:UY
 |[.agg [.x (.int .i64 a),.x (.int .i64 b)]]=>some ([],bl (insB 0 a b 1000))
 |_=>none
theorem Wx5(a b:Int):U0 VR 161 [.agg [i a,i b]] (bl (insB 0 a b 1000)):=by
 refine U4 (L:=[]) (Ae M4 Aa) U1 Tryz.func161 (UW Tryz.f161) U6 (t:=leaf (RV.x (.bool (insB (0:Int) a b (1000:Int))))) VW ?_;exact V4
theorem mC:VS VR 161 Qj6:=by
 refine ⟨(UK Tryz.func161),?_⟩;intro avs ns res h I;unfold Qj6 at h;split at h
 ·cases h;exact Wx5 _ _
 ·cases h
def bO:UY
 |[.x (.int .i64 n)]=>some ([0<=n/\n<=1000],i (1+n))
 |_=>none
theorem Ww8(n:Int)(VU:0<=n/\n<=1000):U0 VR 70 [i n] (i (1+n)):=by
 refine GZ Tryz.func70 (t:=need [VO ((1:Int)+n)] (leaf (RV.x (.int .i64 ((1:Int)+n))))) VW ?_;simp only [VP.sat,UD,G8,GO,UG,VO,UJ];all_goals first|omega|grind
theorem RL:VS VR 70 bO:=by
 refine ⟨(UK Tryz.func70),?_⟩;intro avs ns res h I;unfold bO at h;split at h
 ·cases h;exact Ww8 _ (I _ VX)
 ·cases h
def bP:UY
 |[.x (.int .i64 n)]=>some ([0<=n/\n<=1000],i (7+n))
 |_=>none
theorem Wx0(n:Int)(VU:0<=n/\n<=1000):U0 VR 123 [i n] (i (7+n)):=by
 refine GZ Tryz.func123 (t:=need [VO ((7:Int)+n)] (leaf (RV.x (.int .i64 ((7:Int)+n))))) VW ?_;exact VG
theorem P0:VS VR 123 bP:=by
 refine ⟨(UK Tryz.func123),?_⟩;intro avs ns res h I;unfold bP at h;split at h
 ·cases h;exact Wx0 _ (I _ VX)
 ·cases h
def y8:UY:=y6
theorem Qv2(a b:Int):U0 VR 124 [.lst 1 2 (λk=>[i (if k=0 then a else b)])] (i (min a b)):=by
 refine U4 (L:=[]) (Ae TE Aa) U1 Tryz.func124 (UW Tryz.f124) U6 (t:=leaf (RV.x (.int .i64 (min (if 0=0 then a else b) (if 1=0 then a else b))))) VW ?_
 simp [VP.sat,G8,UG]
theorem RB:VS VR 124 y8:=by
 refine ⟨(UK Tryz.func124),?_⟩;intro avs ns res h I;unfold y8 y6 at h;split at h
 ·rename_i f;split at h
  ·rename_i a b h0 h1;cases h;refine (Qv2 a b).same (.cons (.lst 1 2 _ _ ?_) .nil);intro k hk;rcases (show k=0\/k=1 by omega) with rfl|rfl
   ·exact h0
   ·exact h1
  ·cases h
 ·cases h
def mV:UY
 |[.agg [.lst 2 3 f,.x (.int .i64 er),.lst 3 N bf],.x (.int .i64 n)]=>some ([],bl (bt 0 n 2))
 |_=>none
theorem Qv3(f:Nat->List AV)(er:Int)(N:Nat)(bf:Nat->List AV)(n:Int):U0 VR 160 [.agg [.lst 2 3 f,i er,.lst 3 N bf],i n] (bl (bt 0 n 2)):=by
 refine U4 (L:=[]) (Ae jH Aa) U1 Tryz.func160 (UW Tryz.f160) U6 (t:=need [VO ((↑(3:Nat):Int)-1)] (leaf (RV.x (.bool (bt (0:Int) n ((↑(3:Nat):Int)-1)))))) VW ?_;simp [VP.sat,UD,G8,UG,VO]
theorem SB:VS VR 160 mV:=by
 refine ⟨(UK Tryz.func160),?_⟩;intro avs ns res h I;unfold mV at h;split at h
 ·cases h;exact Qv3 _ _ _ _ _
 ·cases h
def snB(r:Nat->Int):Nat->Int->Bool
 | 0,_=>false
 |k+1,q=>snB r k q||(r k==q)
theorem Qb3(r:Nat->Int)(q:Int): ∀k,snB r k q=true↔ ∃j,j<k/\r j=q
 | 0=>by simp [snB]
 |k+1=>by
  simp only [snB,Bl,Qb3 r q k,beq_iff_eq];constructor
  ·rintro (⟨j,h1,h2⟩|h)
   ·exact ⟨j,VM,h2⟩
   ·exact ⟨k,VM,h⟩
  ·rintro ⟨j,h1,h2⟩;rcases (show j<k\/j=k by omega) with h|rfl
   ·exact .inl ⟨j,h,h2⟩
   ·exact .inr h2
abbrev bts(m:Nat)(r v:Nat->Int):AV:= .lst 2 m (λj=>[i (r j),i (v j)])
abbrev WG(f:Nat->List AV):AV:=lst 2 3 λa=>f a
abbrev XB(m:Nat)(r:Nat->Int)(v:Nat->Int):AV:=lst 2 m λj=>[iI (r j),iI (v j)]
abbrev K4(N:Nat)(bf:Nat->List AV):AV:=lst 3 N λa=>bf a
section
variable (f:Nat->List AV)(er:Int)(N:Nat)(bf:Nat->List AV)(U O:Int)(m:Nat)(r v:Nat->Int)
def Zv6:St:={σ:=[agg [WG f,iI er,K4 N bf],agg [iI U,iI O,XB m r v],ptr 0 0,ptr 1 0,top,ptr 3 0,top,top,top,XB m r v,iI (m:Int)]++HM 28 [],m:=[(3,GS.cells 264 [AV.x (WO),AV.x (WO),AV.x (WO),AV.x (WO),AV.x (WO),AV.x (WO)]),(1,GS.cells 75 [iI U,iI O,XB m r v]),(0,GS.cells 103 [WG f,iI er,K4 N bf])],nx:=8}
noncomputable def Jv2:Code:=UC (VV (U9 Tryz.f120) 0)
def Wn9(k:Nat):St:=(upE [(11,i k)] [(3,.cells 264 [bl (snB r (k) 0),bl (snB r (k) 1),bl (snB r (k) 2),bl (snB r (k) 3),bl (snB r (k) 4),bl (snB r (k) 5)]),(1,.cells 75 [i U,i O,bts m r v]),(0,.cells 103 [.lst 2 3 f,i er,.lst 3 N bf])] (Zv6 f er N bf U O m r v))
def EG(k:Nat):G9->Option St
 | .exit 0=>some (upE [] [(3,.cells 264 [bl (snB r (m) 0),bl (snB r (m) 1),bl (snB r (m) 2),bl (snB r (m) 3),bl (snB r (m) 4),bl (snB r (m) 5)]),(1,.cells 75 [i U,i O,bts m r v]),(0,.cells 103 [.lst 2 3 f,i er,.lst 3 N bf])] (Zv6 f er N bf U O m r v))
 |_=>none
def Jr0:CT:= .leaf (.exit 0,(EG f er N bf U O m r v 0 (.exit 0)).getD (Zv6 f er N bf U O m r v))
def Zc2:UL:=(HK (Wn9 f er N bf U O m r v (0)) (Jr0 f er N bf U O m r v))
end
abbrev QS:Prop:=ptr 0 0=ptr 0 0
abbrev Z4:Prop:=ptr 1 0=ptr 1 0
abbrev ZH:Prop:=ptr 3 0=ptr 3 0
theorem V3{p:Prop}(h:p:=by
 (with_reducible repeat' first|apply Al|intro _)
 all_goals first|exact Ak|omega|with_reducible rfl|(rename_i E hE;cases hE;exact hQ)|rfl):p:=h
section
variable (f:Nat->List AV)(er:Int)(N:Nat)(bf:Nat->List AV)(U O:Int)(m:Nat)(r v:Nat->Int)
theorem Jm6(VU:m<=1000)(UI: ∀j,j<m->0<=r j/\r j<=2/\ -1000<=v j/\v j<=2000)(HU: ∀j k,j<k->k<m->r j≠r k)(F5:insB 0 U O 1000=true):GA VR (.loop Jv2) (Zc2 f er N bf U O m r v):=by
 refine HJ (L:=[]) (Ae SB (Ae jH (Ae mC Aa))) U1 U6 (X:=Nat) (Wn9 f er N bf U O m r v) (λk=>k<=m) (λk=>m-k) (EG f er N bf U O m r v) (x0:=0) VX ?_ ?_ ?_
 ·rintro k;kernel_rfl
 ·rintro k y E h;unfold EG at h;split at h
  ·cases h;kernel_rfl
  ·cases h
 ·rintro Q hQ k hx;refine ⟨(k+1),?_⟩;(with_reducible refine DL (t:=branch (decide ((k:Int)<(m:Int))) (need [UM k m] (branch (!bt (0:Int) (r k) (2:Int)) VP.fail (need [UM (r k) 6] (need [0+(r k).toNat*1<List.length [snB r k (0:Int),snB r k (1:Int),snB r k (2:Int),snB r k (3:Int),snB r k (4:Int),snB r k (5:Int)]] (branch (match [snB r k (0:Int),snB r k (1:Int),snB r k (2:Int),snB r k (3:Int),snB r k (4:Int),snB r k (5:Int)][0+(r k).toNat*1]? with|some x=>x|none=>false) VP.fail (branch (!bt (-1000:Int) (v k) (2000:Int)) VP.fail (need [UM (r k) 6] (need [0+(r k).toNat*1<List.length [snB r k (0:Int),snB r k (1:Int),snB r k (2:Int),snB r k (3:Int),snB r k (4:Int),snB r k (5:Int)]] (need [VO ((k:Int)+1)] (need [U2 (agg [WG f,iI er,K4 N bf]),U2 (agg [iI U,iI O,XB m r v]),QS,Z4,ZH,U2 (XB m r v),U2 (m:Int),(k:Int)+1=(↑(k+1):Int),(if 0=0+(r k).toNat*1 then true else snB r k (0:Int))=snB r (k+1) (0:Int),(if 1=0+(r k).toNat*1 then true else snB r k (1:Int))=snB r (k+1) (1:Int),(if 2=0+(r k).toNat*1 then true else snB r k (2:Int))=snB r (k+1) (2:Int),(if 3=0+(r k).toNat*1 then true else snB r k (3:Int))=snB r (k+1) (3:Int),(if 4=0+(r k).toNat*1 then true else snB r k (4:Int))=snB r (k+1) (4:Int),(if 5=0+(r k).toNat*1 then true else snB r k (5:Int))=snB r (k+1) (5:Int),U=U,O=O,U2 (XB m r v),WG f=WG f,er=er,U2 (K4 N bf)] (leaf G9.normal))))))))))) (need [U2 (agg [WG f,iI er,K4 N bf]),U2 (agg [iI U,iI O,XB m r v]),QS,Z4,ZH,U2 (XB m r v),U2 (m:Int),snB r k (0:Int)=snB r m (0:Int),snB r k (1:Int)=snB r m (1:Int),snB r k (2:Int)=snB r m (2:Int),snB r k (3:Int)=snB r m (3:Int),snB r k (4:Int)=snB r m (4:Int),snB r k (5:Int)=snB r m (5:Int),U=U,O=O,U2 (XB m r v),WG f=WG f,er=er,U2 (K4 N bf)] (leaf (G9.exit 0)))) VW ?_)
  simp only [Jr0,EG,VP.sat,GX] at hQ;simp only [VP.sat,UD,G8,GO,UG,VO,UJ,HB,RE,RF,L7,GR,EG]
  refine ⟨λh=>?_,λh=>?_⟩
  ·obtain ⟨h0,h1,h2,h3⟩:=UI k VM;have hno:snB r k (r k)=false:=by
    rw [←Bool.not_eq_true,Qb3];rintro ⟨j,hj,he⟩;exact HU j k hj VM he
   have hb1:bt 0 (r k) 2=true:=(bt_iff _ _ _).2 VM;have hb2:bt (-1000) (v k) 2000=true:=(bt_iff _ _ _).2 VM;rcases (show r k=0\/r k=1\/r k=2 by omega) with hr|hr|hr
   all_goals
    rw [hr] at hno hb1;simp [hr,hno,hb1,hb2,snB];exact V3
  ·obtain rfl:k=m:=VM;exact V3
theorem Wx8(VU:m<=1000)(UI: ∀j,j<m->0<=r j/\r j<=2/\ -1000<=v j/\v j<=2000)(HU: ∀j k,j<k->k<m->r j≠r k)(F5:insB 0 U O 1000=true):U0 VR 120 [.agg [.lst 2 3 f,i er,.lst 3 N bf],.agg [i U,i O,bts m r v]] (bl true):=by
 refine U4 (L:=[Zc2 f er N bf U O m r v]) (Ae SB (Ae jH (Ae mC Aa))) U1 Tryz.func120 (UW Tryz.f120) (UZ (lpE (b:= .loop Jv2) VW<|Jm6 f er N bf U O m r v VU UI HU F5)) (t:=need [U2 (agg [WG f,iI er,K4 N bf]),U2 (agg [iI U,iI O,XB m r v]),QS,Z4,ZH,U2 (XB m r v),U2 (m:Int),(0:Int)=(↑(0:Nat):Int),false=snB r 0 (0:Int),false=snB r 0 (1:Int),false=snB r 0 (2:Int),false=snB r 0 (3:Int),false=snB r 0 (4:Int),false=snB r 0 (5:Int),U=U,O=O,U2 (XB m r v),WG f=WG f,er=er,U2 (K4 N bf)] (leaf (RV.x (.bool (insB (0:Int) U O (1000:Int)))))) VW ?_
 exact V4
end
def Qo2(m:Nat)(r v:Nat->Int):Prop:=m<=1000/\(∀j,j<m->0<=r j/\r j<=2/\ -1000<=v j/\v j<=2000)/\ ∀j k,j<k->k<m->r j≠r k
section
variable (N:Nat)(U O:Nat->Int)(m:Nat->Nat)(g:Nat->Nat->List AV)
abbrev bgs:AV:= .lst 3 N (λk=>[i (U k),i (O k),.lst 2 (m k) (g k)])
def Qu9:Prop:= ∀k,k<N->UH 2 (m k) (g k)/\Qo2 (m k) (col 0 (g k)) (col 1 (g k))/\insB 0 (U k) (O k) 1000=true
end
def vB(N:Nat)(bf:Nat->List AV):Prop:=N<=6/\ ∃(U O:Nat->Int) (m:Nat->Nat) (g:Nat->Nat->List AV),(∀k,k<N->bf k=[i (U k),i (O k),.lst 2 (m k) (g k)])/\Qu9 N U O m g
def Qj7:UY
 |[.agg [.lst 2 3 f,.x (.int .i64 er),.lst 3 N bf],.agg [.x (.int .i64 U),.x (.int .i64 O),.lst 2 m g]]=>some ([UH 2 m g,Qo2 m (col 0 g) (col 1 g),insB 0 U O 1000=true],bl true)
 |_=>none
theorem Wx7:VS VR 120 Qj7:=by
 refine ⟨(UK Tryz.func120),?_⟩;intro avs ns res h I;unfold Qj7 at h;split at h
 ·cases h;have hr:_:=I _ (GJ);have hr1:_:=I _ (HW _ (GJ));have hr2:_:=I _ (HW _ (HW _ (GJ)));exact (Wx8 _ _ _ _ _ _ _ (col 0 _) (col 1 _) hr1.1 hr1.2.1 hr1.2.2 hr2).same (.cons (.refl _) (.cons (P1.same (.cons (.refl _) (.cons (.refl _) (.cons (.lst 2 _ _ _ hr) .nil)))) .nil))
 ·cases h
def mX:UY
 |[.agg [.x (.int .i64 U),.x (.int .i64 O),.lst 2 m g],.ro [.fn (.func 120) [.agg [.lst 2 3 f,.x (.int .i64 er),.lst 3 N bf]] []]]=>some ([UH 2 m g,Qo2 m (col 0 g) (col 1 g),insB 0 U O 1000=true],bl false)
 |_=>none
theorem Qv5(U O:Int)(m:Nat)(g:Nat->List AV)(f:Nat->List AV)(er:Int)(N:Nat)(bf:Nat->List AV)(VU:UH 2 m g)(UI:Qo2 m (col 0 g) (col 1 g))(HU:insB 0 U O 1000=true):U0 VR 159 [.agg [i U,i O,.lst 2 m g],.ro [.fn (.func 120) [.agg [.lst 2 3 f,i er,.lst 3 N bf]] []]] (bl false):=by
 refine U4 (L:=[]) (Ae Wx7 Aa) U1 Tryz.func159 (UW Tryz.f159) U6 (t:=need [UH 2 m g,Qo2 m (col 0 g) (col 1 g),insB (0:Int) U O (1000:Int)=true] (leaf (RV.x (.bool !true)))) VW ?_;exact V4
theorem SD:VS VR 159 mX:=by
 refine ⟨(UK Tryz.func159),?_⟩;intro avs ns res h I;unfold mX at h;split at h
 ·cases h;exact Qv5 _ _ _ _ _ _ _ _ (I _ VX) (I _ VX) (I _ VX)
 ·cases h
abbrev XL(f:Nat->List AV)(er:Int)(N1:Nat)(bf:Nat->List AV):AV:=AV.fn (Fn.func 159) [] [AV.ro [AV.fn (Fn.func 120) [agg [WG f,iI er,lst 3 N1 λa=>bf a]] []]]
section
variable (N:Nat)
abbrev J3(U:Nat->Int)(O:Nat->Int)(m:Nat->Nat)(g:Nat->Nat->List AV):AV:=lst 3 N λk=>[iI (U k),iI (O k),lst 2 (m k) λa=>g k a]
def bW(U O:Nat->Int)(m:Nat->Nat)(g:Nat->Nat->List AV)(f:Nat->List AV)(er:Int)(N1:Nat)(bf:Nat->List AV):St:={σ:=[J3 N U O m g,XL f er N1 bf]++HM 5 [iI (N:Int)]++HM 11 [],m:=[],nx:=4}
noncomputable def Qm7:Code:=UC (VV (U9 Tryz.f196) 0)
def OL(U O:Nat->Int)(m:Nat->Nat)(g:Nat->Nat->List AV)(f:Nat->List AV)(er:Int)(N1:Nat)(bf:Nat->List AV)(k:Nat):St:=(upM [(8,i k)] (bW N U O m g f er N1 bf))
def xR(U O:Nat->Int)(m:Nat->Nat)(g:Nat->Nat->List AV)(f:Nat->List AV)(er:Int)(N1:Nat)(bf:Nat->List AV)(k:Nat):G9->Option St
 | .exit 0=>some (upM [] (bW N U O m g f er N1 bf))
 |_=>none
def Qh9(U O:Nat->Int)(m:Nat->Nat)(g:Nat->Nat->List AV)(f:Nat->List AV)(er:Int)(N1:Nat)(bf:Nat->List AV):CT:= .leaf (.exit 0,(xR N U O m g f er N1 bf 0 (.exit 0)).getD (bW N U O m g f er N1 bf))
def nF(U O:Nat->Int)(m:Nat->Nat)(g:Nat->Nat->List AV)(f:Nat->List AV)(er:Int)(N1:Nat)(bf:Nat->List AV):UL:=(HK (OL N U O m g f er N1 bf (0)) (Qh9 N U O m g f er N1 bf))
end
theorem VJ{p:Prop}(h:p:=by
 (with_reducible repeat' first|apply Al|intro _)
 all_goals first|exact Ak|(rename_i E hE;cases hE;exact hQ)|omega|rfl|assumption):p:=h
section
variable (N:Nat)(U O:Nat->Int)(m:Nat->Nat)(g:Nat->Nat->List AV)(f:Nat->List AV)(er:Int)(N1:Nat)(bf:Nat->List AV)
theorem Qx7(VU:N<=6)(UI:Qu9 N U O m g):GA VR (.loop Qm7) (nF N U O m g f er N1 bf):=by
 refine HJ (L:=[]) (Ae SD Aa) U1 U6 (X:=Nat) (OL N U O m g f er N1 bf) (λk=>k<=N) (λk=>N-k) (xR N U O m g f er N1 bf) (x0:=0) VX ?_ ?_ ?_
 ·rintro k;kernel_rfl
 ·rintro k y E h;unfold xR at h;split at h
  ·cases h;kernel_rfl
  ·cases h
 ·rintro Q hQ k hx;refine ⟨(k+1),?_⟩;(with_reducible refine DL (t:=branch (decide ((k:Int)<(N:Int))) (need [UM k N] (need [UH 2 (m k) λa=>g k a,Qo2 (m k) (col 0 λa=>g k a) (col 1 λa=>g k a),insB (0:Int) (U k) (O k) (1000:Int)=true] (branch false VP.fail (need [VO ((k:Int)+1)] (need [U2 (J3 N U O m g),U2 (XL f er N1 bf),U2 (N:Int),(k:Int)+1=(↑(k+1):Int)] (leaf G9.normal)))))) (need [U2 (J3 N U O m g),U2 (XL f er N1 bf),U2 (N:Int)] (leaf (G9.exit 0)))) VW ?_)
  simp only [Qh9,xR,VP.sat,GX] at hQ;simp only [VP.sat,UD,UJ,HB,VO,xR,DP]
  refine ⟨λh=>?_,λh=>?_⟩
  ·have hk:k<N:=VM;obtain ⟨h1,h2,h3⟩:=UI k hk;all_goals exact VA
  ·obtain rfl:k=N:=VM;exact VJ
abbrev KJ:Value:=Value.int IntKind.i64 (-1:Int)
theorem Xo4(VU:N<=6)(UI:Qu9 N U O m g):U0 VR 196 [bgs N U O m g,.fn (.func 159) [] [.ro [.fn (.func 120) [.agg [.lst 2 3 f,i er,.lst 3 N1 bf]] []]]] (i (-1)):=by
 refine U4 (L:=[nF N U O m g f er N1 bf]) (Ae SD Aa) U1 Tryz.func196 (UW Tryz.f196) (UZ (lpE (b:= .loop Qm7) VW<|Qx7 N U O m g f er N1 bf VU UI)) (t:=need [U2 (J3 N U O m g),U2 (XL f er N1 bf),U2 (N:Int),(0:Int)=(↑(0:Nat):Int)] (leaf (RV.x (KJ)))) VW ?_
 exact V4
end
def Xa2:UY
 |[.lst 3 N b,.fn (.func 159) [] [.ro [.fn (.func 120) [.agg [.lst 2 3 f,.x (.int .i64 er),.lst 3 N1 bf]] []]]]=>some ([vB N b],i (-1))
 |_=>none
theorem Xo3:VS VR 196 Xa2:=by
 refine ⟨(UK Tryz.func196),?_⟩;intro avs ns res h I;unfold Xa2 at h;split at h
 ·cases h;obtain ⟨h0,U,O,m,g,he,hb⟩:vB _ _:=I _ GJ;exact (Xo4 _ U O m g _ _ _ _ h0 hb).same (.cons (.lst 3 _ _ _ he) (.cons (.refl _) .nil))
 ·cases h
theorem Wb4{N:Nat}{U O:Nat->Int}{m:Nat->Nat}{g:Nat->Nat->List AV}(h0:N<=6)(hb:Qu9 N U O m g):vB N (λk=>[i (U k),i (O k),.lst 2 (m k) (g k)]):=⟨h0,U,O,m,g,λ_ _=>rfl,hb⟩
theorem Xp3(N:Nat)(U O:Nat->Int)(m:Nat->Nat)(g:Nat->Nat->List AV)(f:Nat->List AV)(er:Int)(N1:Nat)(bf:Nat->List AV)(VU:N<=6)(UI:Qu9 N U O m g):U0 VR 158 [bgs N U O m g,.fn (.func 159) [] [.ro [.fn (.func 120) [.agg [.lst 2 3 f,i er,.lst 3 N1 bf]] []]]] (bl false):=by
 refine U4 (L:=[]) (Ae Xo3 Aa) U1 Tryz.func158 (UW Tryz.f158) U6 (t:=need [vB N λk=>[i (U k),i (O k),lst 2 (m k) (g k)]] (leaf (RV.x (.bool (decide ((-1:Int)>=(0:Int))))))) VW ?_
 simp only [VP.sat,UD,G8,GO,UG,UJ,DP];exact ⟨Wb4 VU UI,rfl⟩
def Xa6:UY
 |[.lst 3 N b,.fn (.func 159) [] [.ro [.fn (.func 120) [.agg [.lst 2 3 f,.x (.int .i64 er),.lst 3 N1 bf]] []]]]=>some ([vB N b],bl false)
 |_=>none
theorem Xp2:VS VR 158 Xa6:=by
 refine ⟨(UK Tryz.func158),?_⟩;intro avs ns res h I;unfold Xa6 at h;split at h
 ·cases h;obtain ⟨h0,U,O,m,g,he,hb⟩:vB _ _:=I _ GJ;exact (Xp3 _ U O m g _ _ _ _ h0 hb).same (.cons (.lst 3 _ _ _ he) (.cons (.refl _) .nil))
 ·cases h
theorem Wy2(N:Nat)(U O:Nat->Int)(m:Nat->Nat)(g:Nat->Nat->List AV)(f:Nat->List AV)(er:Int)(N1:Nat)(bf:Nat->List AV)(VU:N<=6)(UI:Qu9 N U O m g):U0 VR 119 [bgs N U O m g,.fn (.func 120) [.agg [.lst 2 3 f,i er,.lst 3 N1 bf]] []] (bl true):=by
 refine U4 (L:=[]) (Ae Xp2 Aa) U1 Tryz.func119 (UW Tryz.f119) U6 (t:=need [vB N λk=>[i (U k),i (O k),lst 2 (m k) (g k)]] (leaf (RV.x (.bool !false)))) VW ?_
 simp only [VP.sat,UD,G8,GO,UG,UJ,DP];exact ⟨Wb4 VU UI,rfl⟩
def Qj9:UY
 |[.lst 3 N b,.fn (.func 120) [.agg [.lst 2 3 f,.x (.int .i64 er),.lst 3 N1 bf]] []]=>some ([vB N b],bl true)
 |_=>none
theorem Wy1:VS VR 119 Qj9:=by
 refine ⟨(UK Tryz.func119),?_⟩;intro avs ns res h I;unfold Qj9 at h;split at h
 ·cases h;obtain ⟨h0,U,O,m,g,he,hb⟩:vB _ _:=I _ GJ;exact (Wy2 _ U O m g _ _ _ _ h0 hb).same (.cons (.lst 3 _ _ _ he) (.cons (.refl _) .nil))
 ·cases h
def oL(k:Nat):Int:=if k=0 then 0 else -9
def oH(k:Nat):Int:=if k=0 then 0 else 9
def ofB(f:Nat->List AV):Prop:= ∀k,k<3->f k=[i (oL k),i (oH k)]
abbrev ofs:AV:= .lst 2 3 (λk=>[i (oL k),i (oH k)])
def HG(m:Nat->Nat):Nat->Nat
 | 0=>0
 |b+1=>HG m b+m b
def GG(m:Nat->Nat):Nat->Nat->Nat×Nat
 | 0,q=>(0,q)
 |N+1,q=>if q<HG m N then GG m N q else (N,q-HG m N)
def Wf2(m:Nat->Nat)(N:Nat)(r v:Nat->Nat->Int)(q:Nat):List Value:=
 [.agg #[.int .i64 (GG m N q).1,.int .i64 (GG m N q).2],.agg #[.int .i64 (r (GG m N q).1 (GG m N q).2),.int .i64 (v (GG m N q).1 (GG m N q).2)]]
abbrev bds(N:Nat)(U O:Nat->Int)(m:Nat->Nat)(r v:Nat->Nat->Int):AV:= .lst 3 N (λk=>[i (U k),i (O k),bts (m k) (r k) (v k)])
theorem b8{P:Program}{ro:Option Nat}{cx:Cx}{c:Code}{t:Nat}{F:Nat->UL}(h: ∀k,HL P ro cx c (F k)):HL P ro cx c (BP t F):=by
 intro n s tr ht Q hQ a w r;unfold BP at ht;split at ht
 ·exact h _ n s tr ht Q hQ a w r
 ·cases ht
theorem O7(m:Nat->Nat){b c:Nat}(h:b<=c):HG m b<=HG m c:=by
 induction h with
 |refl=>exact Am _
 |step _ ih=>exact Ar ih (Nat.le_add_right _ _)
theorem Qd6(m:Nat->Nat): ∀(N b n:Nat),b<N->n<m b->GG m N (HG m b+n)=(b,n)
 | 0,_,_,h,_=>VM
 |N+1,b,n,h,I=>by
  unfold GG;rcases (show b<N\/b=N by omega) with hb|rfl
  ·have:=O7 m (show b+1<=N by omega)
   simp only [HG] at this;rw [if_pos VM,Qd6 m N b n hb I]
  ·rw [if_neg VM];simp
theorem aE(m:Nat->Nat): ∀(N q:Nat),q<HG m N->(GG m N q).1<N/\(GG m N q).2<m (GG m N q).1
 | 0,_,h=>by simp [HG] at h
 |N+1,q,h=>by
  simp only [HG] at h;unfold GG;split
  ·rename_i hq;obtain ⟨h1,h2⟩:=aE m N q hq;exact ⟨VM,h2⟩
  ·exact ⟨VX,by simp;omega⟩
def mW:UY
 |[.agg [.x (.int .i64 a),.x (.int .i64 b)],.ro [.fn (.func 117) [] []]]=>some ([],bl (!insB (-100) a b 100))
 |_=>none
theorem Qv4(a b:Int):U0 VR 156 [.agg [i a,i b],.ro [.fn (.func 117) [] []]] (bl (!insB (-100) a b 100)):=by
 refine U4 (L:=[]) (Ae tA Aa) U1 Tryz.func156 (UW Tryz.f156) U6 (t:=leaf (RV.x (.bool !insB (-100:Int) a b (100:Int)))) VW ?_;exact V4
theorem SC:VS VR 156 mW:=by
 refine ⟨(UK Tryz.func156),?_⟩;intro avs ns res h I;unfold mW at h;split at h
 ·cases h;exact Qv4 _ _
 ·cases h
abbrev ZE:AV:=AV.fn (Fn.func 156) [] [AV.ro [AV.fn (Fn.func 117) [] []]]
def bU:St:={σ:=[lst 2 3 λk=>[iI (oL k),iI (oH k)],ZE]++HM 5 [iI (↑(3:Nat):Int)]++HM 11 [],m:=[],nx:=4}
noncomputable def Qm6:Code:=UC (VV (U9 Tryz.f195) 0)
def OK(k:Nat):St:=(upM [(8,i k)] (bU))
def xQ(k:Nat):G9->Option St
 | .exit 0=>some (upM [] (bU))
 |_=>none
def Qh8:CT:= .leaf (.exit 0,(xQ 0 (.exit 0)).getD (bU))
def nE:UL:=(HK (OK (0)) (Qh8))
theorem Qx6:GA VR (.loop Qm6) (nE):=by
 refine HJ (L:=[]) (Ae SC Aa) U1 U6 (X:=Nat) (OK) (λk=>k<=3) (λk=>3-k) (xQ) (x0:=0) VX ?_ ?_ ?_
 ·rintro k;kernel_rfl
 ·rintro k y E h;unfold xQ at h;split at h
  ·cases h;kernel_rfl
  ·cases h
 ·rintro Q hQ k hx;refine ⟨(k+1),?_⟩;(with_reducible refine DL (t:=branch (decide ((k:Int)<(↑(3:Nat):Int))) (need [UM k 3] (branch (!insB (-100:Int) (oL k) (oH k) (100:Int)) VP.fail (need [VO ((k:Int)+1)] (need [U2 (lst 2 3 λk=>[iI (oL k),iI (oH k)]),ZE=ZE,U2 (↑(3:Nat):Int),(k:Int)+1=(↑(k+1):Int)] (leaf G9.normal))))) (need [U2 (lst 2 3 λk=>[iI (oL k),iI (oH k)]),ZE=ZE,U2 (↑(3:Nat):Int)] (leaf (G9.exit 0)))) VW ?_)
  simp only [Qh8,xQ,VP.sat,GX] at hQ;simp only [VP.sat,UD,UJ,HB,VO,xQ,DP]
  refine ⟨λh=>?_,λh=>?_⟩
  ·have hk:k<3:=VM;rcases (show k=0\/k=1\/k=2 by omega) with rfl|rfl|rfl<;>simp [oL,oH,insB,Bo.insB]
   all_goals exact VA
  ·obtain rfl:k=3:=VM;exact VJ
theorem Xo2:U0 VR 195 [ofs,.fn (.func 156) [] [.ro [.fn (.func 117) [] []]]] (i (-1)):=by
 refine U4 (L:=[nE]) (Ae SC Aa) U1 Tryz.func195 (UW Tryz.f195) (UZ (lpE (b:= .loop Qm6) VW<|Qx6)) (t:=need [U2 (lst 2 3 λk=>[iI (oL k),iI (oH k)]),ZE=ZE,U2 (↑(3:Nat):Int),(0:Int)=(↑(0:Nat):Int)] (leaf (RV.x (KJ)))) VW ?_
 exact V4
def Xa1:UY
 |[.lst 2 3 f,.fn (.func 156) [] [.ro [.fn (.func 117) [] []]]]=>some ([ofB f],i (-1))
 |_=>none
theorem Xo1:VS VR 195 Xa1:=by
 refine ⟨(UK Tryz.func195),?_⟩;intro avs ns res h I;unfold Xa1 at h;split at h
 ·cases h;have hr:_:=I _ (GJ);exact (Xo2).same (.cons (.lst 2 3 _ _ hr) (.cons (.refl _) .nil))
 ·cases h
theorem Xp1:U0 VR 155 [ofs,.fn (.func 156) [] [.ro [.fn (.func 117) [] []]]] (bl false):=by
 refine U4 (L:=[]) (Ae Xo1 Aa) U1 Tryz.func155 (UW Tryz.f155) U6 (t:=need [ofB λk=>[i (oL k),i (oH k)]] (leaf (RV.x (.bool (decide ((-1:Int)>=(0:Int))))))) VW ?_
 simp only [VP.sat,UD,G8,GO,UG,UJ,DP];exact ⟨λ_ _=>rfl,rfl⟩
def Xa5:UY
 |[.lst 2 3 f,.fn (.func 156) [] [.ro [.fn (.func 117) [] []]]]=>some ([ofB f],bl false)
 |_=>none
theorem Xp0:VS VR 155 Xa5:=by
 refine ⟨(UK Tryz.func155),?_⟩;intro avs ns res h I;unfold Xa5 at h;split at h
 ·cases h;have hr:_:=I _ (GJ);exact (Xp1).same (.cons (.lst 2 3 _ _ hr) (.cons (.refl _) .nil))
 ·cases h
theorem Wy0:U0 VR 116 [ofs,.fn (.func 117) [] []] (bl true):=by
 refine U4 (L:=[]) (Ae Xp0 Aa) U1 Tryz.func116 (UW Tryz.f116) U6 (t:=need [ofB λk=>[i (oL k),i (oH k)]] (leaf (RV.x (.bool !false)))) VW ?_
 simp only [VP.sat,UD,G8,GO,UG,UJ,DP];exact ⟨λ_ _=>rfl,rfl⟩
def Qj8:UY
 |[.lst 2 3 f,.fn (.func 117) [] []]=>some ([ofB f],bl true)
 |_=>none
theorem Wx9:VS VR 116 Qj8:=by
 refine ⟨(UK Tryz.func116),?_⟩;intro avs ns res h I;unfold Qj8 at h;split at h
 ·cases h;have hr:_:=I _ (GJ);exact (Wy0).same (.cons (.lst 2 3 _ _ hr) (.cons (.refl _) .nil))
 ·cases h
def mY:UY
 |[.agg [.lst 2 3 f,.x (.int .i64 1),.lst 3 N bf]]=>some ([ofB f,vB N bf],i 0)
 |_=>none
abbrev X2:Value:=Value.int IntKind.i64 (0:Int)
abbrev JW:Value:=Value.int IntKind.i64 (1:Int)
abbrev KM:Value:=Value.int IntKind.i64 (3:Int)
theorem Qv7(f:Nat->List AV)(N:Nat)(bf:Nat->List AV)(VU:ofB f)(UI:vB N bf):U0 VR 91 [.agg [.lst 2 3 f,i 1,.lst 3 N bf]] (i 0):=by
 refine U4 (L:=[]) (Ae Wx9 (Ae Wy1 (Ae jH Aa))) U1 Tryz.func91 (UW Tryz.f91) U6 (t:=branch (decide ((↑(3:Nat):Int)>6)) (leaf (RV.x (KM))) (branch (decide ((N:Int)>6)) (leaf (RV.x (KM))) (branch ((↑(3:Nat):Int)==0) (leaf (RV.x (JW))) (need [ofB f] (branch (!true) (leaf (RV.x (JW))) (branch (!bt (0:Int) (1:Int) (20:Int)) (leaf (RV.x (JW))) (need [vB N bf] (branch (!true) (leaf (RV.x (JW))) (leaf (RV.x (X2))))))))))) VW ?_;simp only [VP.sat,UD,G8,GO,UG,UJ,DP];have h6:=UI.1;simp [bt,Bo.bt,VU,UI];omega
theorem Qv6:VS VR 91 mY:=by
 refine ⟨(UK Tryz.func91),?_⟩;intro avs ns res h I;unfold mY at h;split at h
 ·cases h;exact Qv7 _ _ _ (I _ VX) (I _ VX)
 ·cases h
def MJ:UY
 |[.agg [.lst 2 3 f,.x (.int .i64 er),.lst 3 N bf]]=>some ([],.fn (.func 162) [] [.ro [.lst 2 3 f,i er,.lst 3 N bf]])
 |_=>none
abbrev WD:Ext:={}
theorem Qv0(f:Nat->List AV)(er:Int)(N:Nat)(bf:Nat->List AV):FF VR 121 [.agg [.lst 2 3 f,i er,.lst 3 N bf]] (.fn (.func 162) [] [.ro [.lst 2 3 f,i er,.lst 3 N bf]]):=by
 refine D0 (L:=[]) Aa Ad U1 Tryz.func121 (UW Tryz.f121) G7 (t:=leaf (AV.fn (Fn.func 162) [] [AV.ro [WG f,iI er,K4 N bf]])) VW ?_;exact rfl
theorem M1:P5 VR 121 MJ:=by
 refine ⟨(UK Tryz.func121),?_⟩;intro avs ns res h I;unfold MJ at h;split at h
 ·cases h;exact Qv0 _ _ _ _
 ·cases h
abbrev Q1(N:Nat)(U:Nat->Int)(O:Nat->Int)(m:Nat->Nat)(r:Nat->Nat->Int)(v:Nat->Nat->Int):AV:=lst 3 N λk=>[iI (U k),iI (O k),lst 2 (m k) λj=>[iI (r k j),iI (v k j)]]
section
variable (l:Nat)(f:Nat->List AV)(er:Int)(N:Nat)(U O:Nat->Int)(m:Nat->Nat)(r v:Nat->Nat->Int)
def nR:St:={σ:=[AV.fn (Fn.yield l) [] [],AV.ro [WG f,iI er,Q1 N U O m r v]]++HM 6 [Q1 N U O m r v,iI (N:Int)]++HM 22 [],m:=[],nx:=4,gh:=some 0}
noncomputable def nT:Code:=UC (VV (U9 Tryz.f162) 0)
def AH(b:Nat):St:={σ:=H4 [(3,.top),(4,.top),(5,.top),(6,.top),(10,i b)] (nR l f er N U O m r v).σ,m:=[],nx:=0,gh:=some (HG m b) }
def wF(b:Nat):G9->Option St
 | .exit 0=>some {σ:=H4 [(3,.top),(4,.top),(5,.top),(6,.top),(10,i N)] (nR l f er N U O m r v).σ,m:=[],nx:=0,gh:=some (HG m N) }
 | .ret=>some {σ:=H4 [(3,.top),(4,.top),(5,.top),(6,.top)] (nR l f er N U O m r v).σ,m:=[],nx:=0,gh:=none}
 |_=>none
def Xw9:CT:= .may True (.leaf (.exit 0,(wF l f er N U O m r v 0 (.exit 0)).getD (nR l f er N U O m r v))) (.leaf (.ret,(wF l f er N U O m r v 0 .ret).getD (nR l f er N U O m r v)))
def Xc9:UL:=GM [] (HK (AH l f er N U O m r v (0)) (Xw9 l f er N U O m r v))
end
abbrev JU(m:Nat->Nat)(b:Nat)(r:Nat->Nat->Int)(v:Nat->Nat->Int):AV:=lst 2 (m b) λj=>[iI (r b j),iI (v b j)]
section
variable (l:Nat)(f:Nat->List AV)(er:Int)(N:Nat)(U O:Nat->Int)(m:Nat->Nat)(r v:Nat->Nat->Int)(b:Nat)
def nS:St:={σ:=[AV.fn (Fn.yield l) [] [],AV.ro [WG f,iI er,Q1 N U O m r v],top,iI (b:Int),ptr 4 0,top,top,top,Q1 N U O m r v,iI (N:Int),iI (b:Int)]++HM 5 [JU m b r v,iI (↑(m b):Int)]++HM 14 [],m:=[(4,GS.cells 75 [iI (U b),iI (O b),JU m b r v])],nx:=11,gh:=some (HG m b) }
noncomputable def Xf6:Code:=UC (VV nT 0)
def AI(n:Nat):St:={σ:=H4 [(4,.top),(5,.top),(6,.top),(18,i n)] (nS l f er N U O m r v b).σ,m:=[],nx:=0,gh:=some (HG m b+n) }
def wG(n:Nat):G9->Option St
 | .exit 2=>some {σ:=H4 [(3,.top),(4,.top),(5,.top),(6,.top),(18,i (m b))] (nS l f er N U O m r v b).σ,m:=[],nx:=0,gh:=some (HG m (b+1)) }
 | .ret=>some {σ:=H4 [(3,.top),(4,.top),(5,.top),(6,.top)] (nS l f er N U O m r v b).σ,m:=[],nx:=0,gh:=none}
 |_=>none
def Xx0:CT:= .may True (.leaf (.exit 2,(wG l f er N U O m r v b 0 (.exit 2)).getD (nS l f er N U O m r v b))) (.leaf (.ret,(wG l f er N U O m r v b 0 .ret).getD (nS l f er N U O m r v b)))
def tY:UL:=GM [] (HK (AI l f er N U O m r v b (0)) (Xx0 l f er N U O m r v b))
end
abbrev W6(l:Nat):Prop:=AV.fn (Fn.yield l) [] []=AV.fn (Fn.yield l) [] []
abbrev WU(N:Nat)(U:Nat->Int)(O:Nat->Int)(m:Nat->Nat)(r:Nat->Nat->Int)(v:Nat->Nat->Int):Prop:=(Q1 N U O m r v)=Q1 N U O m r v
abbrev J0(f:Nat->List AV)(er:Int)(N:Nat)(U:Nat->Int)(O:Nat->Int)(m:Nat->Nat)(r:Nat->Nat->Int)(v:Nat->Nat->Int):Prop:=AV.ro [WG f,iI er,Q1 N U O m r v]=AV.ro [WG f,iI er,Q1 N U O m r v]
section
variable (l:Nat)(f:Nat->List AV)(er:Int)(N:Nat)(U O:Nat->Int)(m:Nat->Nat)(r v:Nat->Nat->Int)
theorem Zj9(b:Nat)(VU:N<=1000)(UI: ∀b,b<N->m b<=1000)(HU:b<N){cx:Cx}(hX:VZ VR {Y:=some (l,(HG m N),(Wf2 m N r v)) } cx):HL VR none cx (.loop Xf6) (tY l f er N U O m r v b):=by
 refine F2 [] (L:=[]) Aa hX U1 G7 (V:=Nat) (AI l f er N U O m r v b) (λn=>n<=m b) (λn=>m b-n) (wG l f er N U O m r v b) (x0:=0) VX ?_ ?_ ?_
 ·rintro n;kernel_rfl
 ·rintro n y E h;unfold wG at h;split at h
  ·cases h;kernel_rfl
  ·cases h;kernel_rfl
  ·cases h
 ·rintro Q hQ n hx;refine ⟨(n+1),?_⟩;have e:HP VR [] {Y:=some (l,(HG m N),(Wf2 m N r v)) } [] [] Xf6 (AI l f er N U O m r v b n) (AI l f er N U O m r v b ((n+1))) (wG l f er N U O m r v b n)=(let z0:=(GG m N (HG m b+n));(branch (decide ((n:Int)<(↑(m b):Int))) (need [UM n (↑(m b):Int)] (need [l=l,HG m b+n<HG m N,[Value.agg {toList:=[Value.int IntKind.i64 (b:Int),Value.int IntKind.i64 (n:Int)] },Value.agg {toList:=[Value.int IntKind.i64 (r b n),Value.int IntKind.i64 (v b n)] }]=[Value.agg {toList:=[Value.int IntKind.i64 (↑(Prod.fst z0):Int),Value.int IntKind.i64 (↑(Prod.snd z0):Int)] },Value.agg {toList:=[Value.int IntKind.i64 (r (Prod.fst z0) (Prod.snd z0)),Value.int IntKind.i64 (v (Prod.fst z0) (Prod.snd z0))] }]] (VP.may True (need [VO ((n:Int)+1)] (need [W6 l,J0 f er N U O m r v,U2 (b:Int),WU N U O m r v,U2 (N:Int),U2 (b:Int),U2 (JU m b r v),U2 (↑(m b):Int),(n:Int)+1=(↑(n+1):Int),HG m b+n+1=HG m b+(n+1)] (leaf G9.normal))) (need [W6 l,J0 f er N U O m r v,WU N U O m r v,U2 (N:Int),U2 (b:Int),U2 (JU m b r v),U2 (↑(m b):Int)] (leaf G9.ret))))) (need [W6 l,J0 f er N U O m r v,WU N U O m r v,U2 (N:Int),U2 (b:Int),U2 (JU m b r v),U2 (↑(m b):Int),(n:Int)=(↑(m b):Int),HG m b+n=HG m (b+1)] (leaf (G9.exit 2))))):=VW;rw [e];simp only [Xx0,wG,VP.sat,GX] at hQ;have hQ1: ∀E,wG l f er N U O m r v b n (.exit 2)=some E->Q (.exit 2,E):=λE hE=>by cases hE;exact hQ.1 trivial
  have hQ2: ∀E,wG l f er N U O m r v b n .ret=some E->Q (.ret,E):=λE hE=>by cases hE;exact hQ.2
  simp only [VP.sat,UD,UJ,HB,VO,DP];clear e hQ;have h3:=UI b HU;refine ⟨λh=>?_,λh=>?_⟩
  ·have hk:n<m b:=VM;have h1:=O7 m (show b+1<=N by omega)
   simp only [HG] at h1;rw [Qd6 m N b n HU hk];all_goals exact VA
  ·obtain rfl:n=m b:=VM;all_goals exact VA
theorem Zj8(VU:N<=1000)(UI: ∀b,b<N->m b<=1000){cx:Cx}(hX:VZ VR {Y:=some (l,(HG m N),(Wf2 m N r v)) } cx):HL VR none cx (.loop nT) (Xc9 l f er N U O m r v):=by
 refine F2 [] (L:=[BP 10 (λb=>FT [b<N] (tY l f er N U O m r v b))]) Aa hX U1 (UZ (λcj hcj=>by
  have e:VV nT 0=some (.loop Xf6):=VW;rw [e] at hcj;cases hcj;exact b8 (λb=>xA (λh=>Zj9 l f er N U O m r v b VU UI h hX)))) (V:=Nat) (AH l f er N U O m r v) (λb=>b<=N) (λb=>N-b) (wF l f er N U O m r v) (x0:=0) VX ?_ ?_ ?_
 ·rintro b;kernel_rfl
 ·rintro b y E h;unfold wF at h;split at h
  ·cases h;kernel_rfl
  ·cases h;kernel_rfl
  ·cases h
 ·rintro Q hQ b hx;refine ⟨(b+1),?_⟩;have e:HP VR [] {Y:=some (l,(HG m N),(Wf2 m N r v)) } [BP 10 (λb=>FT [b<N] (tY l f er N U O m r v b))] [] nT (AH l f er N U O m r v b) (AH l f er N U O m r v ((b+1))) (wF l f er N U O m r v b)=(let z0:=J0 f er N U O m r v;(branch (decide ((b:Int)<(N:Int))) (need [UM b N] (need [b<N] (need [W6 l,z0,U2 (b:Int),WU N U O m r v,U2 (N:Int),U2 (b:Int),U2 (lst 2 (m b) λj=>[iI (r b j),iI (v b j)]),U2 (↑(m b):Int),(0:Int)=(↑(0:Nat):Int),HG m b=HG m b+0] (VP.may True (need [VO ((b:Int)+1)] (need [W6 l,z0,WU N U O m r v,U2 (N:Int),(b:Int)+1=(↑(b+1):Int),U2 (HG m (b+1))] (leaf G9.normal))) (need [W6 l,z0,WU N U O m r v,U2 (N:Int)] (leaf G9.ret)))))) (need [W6 l,z0,WU N U O m r v,U2 (N:Int),(b:Int)=(N:Int),HG m b=HG m N] (leaf (G9.exit 0))))):=VW
  rw [e];simp only [Xw9,wF,VP.sat,GX] at hQ;have hQ1: ∀E,wF l f er N U O m r v b (.exit 0)=some E->Q (.exit 0,E):=λE hE=>by cases hE;exact hQ.1 trivial
  have hQ2: ∀E,wF l f er N U O m r v b .ret=some E->Q (.ret,E):=λE hE=>by cases hE;exact hQ.2
  simp only [VP.sat,UD,UJ,HB,VO,DP];clear e hQ;refine ⟨λh=>?_,λh=>?_⟩
  ·have h3:=UI b VM;all_goals exact VA
  ·obtain rfl:b=N:=VM;all_goals exact VA
end
theorem mB(f:Nat->List AV)(er:Int)(N:Nat)(U O:Nat->Int)(m:Nat->Nat)(r v:Nat->Nat->Int)(VU:N<=1000)(UI: ∀b,b<N->m b<=1000):PN Tryz.prog 162 [.ro [.lst 2 3 f,i er,bds N U O m r v]] ((HG m N)) (Wf2 m N r v):=by
 refine PD (L:=λl=>[Xc9 l f er N U O m r v]) Aa U1 (UK Tryz.func162) Tryz.func162 (UW Tryz.f162) VW (λl cx hX=>UZ (lpE (b:= .loop nT) VW<|Zj8 l f er N U O m r v VU UI hX)) (t:=λl=>(need [U2 (AV.fn (Fn.yield l) [] []),J0 f er N U O m r v,WU N U O m r v,U2 (N:Int),(0:Int)=(↑(0:Nat):Int),0=HG m 0] (VP.may True (need [U2 (HG m N)] (leaf PUnit.unit)) (leaf PUnit.unit)))) (λl=>VW) ?_
 intro l;simp only [VP.sat,UD,G8,GO,UG,VO,UJ,HB,RE];all_goals exact VA
def plF(m:Nat->Nat)(N:Nat)(q:Nat):List AV:=[i (GG m N q).1,i (GG m N q).2]
theorem a6(m:Nat->Nat){K:Nat}: ∀(N:Nat),(∀b,b<N->m b<=K)->HG m N<=N*K
 | 0,_=>by simp [HG]
 |N+1,h=>by
  have:=a6 m N (λb hb=>h b VM)
  have:=h N VM;simp only [HG,Bq];omega
abbrev QD:AV:=AV.x (.pointer none)
def Jr4(f:Nat->List AV)(er:Int)(N:Nat)(U O:Nat->Int)(m:Nat->Nat)(r v:Nat->Nat->Int):St:={σ:=[agg [WG f,iI er,Q1 N U O m r v],ptr 0 0,QD,ptr 6 0]++HM 6 [AV.fn (Fn.func 162) [] [AV.ro [WG f,iI er,Q1 N U O m r v]]]++HM 13 [],m:=[(901,GS.row 234 2 0 λx=>[]),(6,GS.cells 186 [ptr 5 0]),(5,GS.cells 229 [WG f,iI er,Q1 N U O m r v,AV.row 901,AV.mp 3]),(3,GS.memo (λx=>False) λv=>v),(0,GS.cells 103 [WG f,iI er,Q1 N U O m r v])],nx:=902}
def rfF:Option Code->Operand
 |some (.rangeFunc f _ _ _)=>f
 |_=> .const .nilFunc
def zQ:Option Code->Array Nat
 |some (.rangeFunc _ ps _ _)=>ps
 |_=>#[]
def MX:Option Code->Code
 |some (.rangeFunc _ _ a _)=>a
 |_=> .skip
def MW:Option Code->Code
 |some (.rangeFunc _ _ _ b)=>b
 |_=> .skip
noncomputable def Jv4:Code:=MX (VV (U9 Tryz.f92) 0)
noncomputable def Js1:Code:=MW (VV (U9 Tryz.f92) 0)
section
variable (f:Nat->List AV)(er:Int)(N:Nat)(U O:Nat->Int)(m:Nat->Nat)(r v:Nat->Nat->Int)
def pP(k:Nat):St:={σ:=H4 [] (Jr4 f er N U O m r v).σ,m:=[(901,.row 234 2 (k) (plF m N)),(6,.cells 186 [.ptr 5 0]),(5,.cells 229 [.lst 2 3 f,i er,bds N U O m r v,.row 901,.mp 3]),(3,.memo (λ_=>False) (λx=>x)),(0,.cells 103 [.lst 2 3 f,i er,bds N U O m r v])],nx:=902}
def oV(k:Nat):G9->Option St
 | .normal=>some {σ:=H4 [] (Jr4 f er N U O m r v).σ,m:=[(901,.row 234 2 ((HG m N)) (plF m N)),(6,.cells 186 [.ptr 5 0]),(5,.cells 229 [.lst 2 3 f,i er,bds N U O m r v,.row 901,.mp 3]),(3,.memo (λ_=>False) (λx=>x)),(0,.cells 103 [.lst 2 3 f,i er,bds N U O m r v])],nx:=902}
 |_=>none
def T_wr:CT:= .leaf (.normal,pP f er N U O m r v (HG m N))
def Xy1:UL:=GM [(.cell 5 3,901,234,2)] (HK (pP f er N U O m r v (0)) (T_wr f er N U O m r v))
abbrev WI:Prop:=AV.row 901=AV.row 901
abbrev ZN:Prop:=ptr 5 0=ptr 5 0
abbrev YS:Prop:=ptr 6 0=ptr 6 0
abbrev YY:Ext:={R:=[(121,MJ)],H:=[] }
theorem Zw9(VU:N<=1000)(UI: ∀b,b<N->m b<=1000):HN VR (.rangeFunc (rfF (VV (U9 Tryz.f92) 0)) (zQ (VV (U9 Tryz.f92) 0)) Jv4 Js1) (Xy1 f er N U O m r v):=by
 refine LH [(.cell 5 3,901,234,2)] (L:=[]) Aa (Ai (Af M1 Ab) Ac) U1 U6 (V:=Nat) (pP f er N U O m r v) (λk=>k<=(HG m N)) (λk=>k) (oV f er N U O m r v) (x0:=0) VX rfl ?_ ?_ ?_ ?_ (g:=162) (caps:=[.ro [.lst 2 3 f,i er,bds N U O m r v]]) VW VW (mB f er N U O m r v VU UI) (λ_=>rfl) ?_
 ·rintro k;kernel_rfl
 ·rintro k y E h;unfold oV at h;split at h
  ·cases h;kernel_rfl
  ·cases h
 ·rintro k;rfl
 ·rintro k y E h;unfold oV at h;split at h
  ·cases h;rfl
  ·cases h
 ·rintro Q hQ k hx;refine ⟨λhlt=>⟨(k+1),rfl,?_⟩,λPI=>?_⟩
  ·(with_reducible refine DL (t:=need [(k+1)*16<=140737488355328,RZ 1 (U8 2 [iI (↑(Prod.fst (GG m N k)):Int),iI (↑(Prod.snd (GG m N k)):Int)])] (need [U2 (agg [WG f,iI er,Q1 N U O m r v]),QS,QD=QD,YS,U2 (AV.fn (Fn.func 162) [] [AV.ro [WG f,iI er,Q1 N U O m r v]]),k+1=k+1,GY (k+1) (GI k (plF m N) (U8 2 [iI (↑(Prod.fst (GG m N k)):Int),iI (↑(Prod.snd (GG m N k)):Int)])) (plF m N),ZN,WG f=WG f,er=er,WU N U O m r v,WI,U2 (AV.mp 3),∀(k:Value),False->False/\k=k,WG f=WG f,er=er,WU N U O m r v] (leaf G9.normal))) VW ?_);have hb:=a6 m N UI;have hb2:=BM 1000 VU;simp only [VP.sat,UD,UJ]
   (with_reducible repeat' first|apply Al|intro _)
   all_goals first|exact Ak|rfl|omega|exact FS (by assumption) (by simp [AV.one,Value.oneCell'])|exact Zq9 rfl rfl (by assumption)|contradiction
  ·subst PI;exact hQ
end
abbrev Q2(m:Nat->Nat)(N:Nat):AV:=lst 2 (HG m N) λq=>[iI (↑(Prod.fst (GG m N q)):Int),iI (↑(Prod.snd (GG m N q)):Int)]
theorem Ww7(f:Nat->List AV)(er:Int)(N:Nat)(U O:Nat->Int)(m:Nat->Nat)(r v:Nat->Nat->Int)(VU:N<=1000)(UI: ∀b,b<N->m b<=1000):FF VR 92 [.agg [.lst 2 3 f,i er,bds N U O m r v]] (.ro [.lst 2 3 f,i er,bds N U O m r v,.lst 2 (HG m N) (plF m N),.top]):=by
 refine D0 (L:=[Xy1 f er N U O m r v]) Aa (Ai (Af M1 Ab) Ac) U1 Tryz.func92 (UW Tryz.f92) (UZ (lpE (b:= .rangeFunc (rfF (VV (U9 Tryz.f92) 0)) (zQ (VV (U9 Tryz.f92) 0)) Jv4 Js1) VW<|Zw9 f er N U O m r v VU UI)) (t:=need [U2 (agg [WG f,iI er,Q1 N U O m r v]),QS,QD=QD,YS,U2 (AV.fn (Fn.func 162) [] [AV.ro [WG f,iI er,Q1 N U O m r v]]),0=0,GY 0 (λi=>[]) (plF m N),ZN,WG f=WG f,er=er,WU N U O m r v,WI,U2 (AV.mp 3),∀(k:Value),False->False/\k=k,WG f=WG f,er=er,WU N U O m r v] (leaf (AV.ro [WG f,iI er,Q1 N U O m r v,Q2 m N,top]))) VW ?_
 simp only [VP.sat,UD,G8,GO,UG,VO,UJ,HB,RE];all_goals exact VA
noncomputable def Qm0:D6:=A9 Tryz.prog [(124,y8)] {} [] Tryz.f122 (U9 Tryz.f122)
theorem RP:GE VR 122 Qm0:=
 RO (G:=[(124,y8)]) (X:=WD) (L:=[]) (Ae RB Aa) Ad U1 (UK Tryz.func122) Tryz.func122 (UW Tryz.f122) U6
def G6(M:Nat->Nat->Int)(k:Nat):Int:=M (k / 13) (k%13)
def LZ(k j:Nat):Nat->Nat->Int:=λx y=>if ((x<k/\y<=12)\/(x=k/\y<j))/\x≠y then 8000 else 0
def spn(M:Nat->Nat->Int)(a b:Nat)(U O:Int):Nat->Nat->Int:=bnd (bnd M a b O) b a (-U)
def ofM:Nat->Nat->Nat->Int
 | 0=>LZ 13 0
 |k+1=>spn (ofM k) 0 (1+k) (-oH k) (-oL k)
def btM(U O:Nat->Int):Nat->Nat->Nat->Int
 | 0=>ofM 3
 |k+1=>spn (btM U O k) 0 (7+k) (U k) (O k)
def rdM1(N:Nat)(m:Nat->Nat)(r v:Nat->Nat->Int)(M:Nat->Nat->Int)(q:Nat):Nat->Nat->Int:=
 spn M (1+(r (GG m N q).1 (GG m N q).2).toNat) (7+(GG m N q).1) (v (GG m N q).1 (GG m N q).2-1) (v (GG m N q).1 (GG m N q).2+1)
def A0(N:Nat)(U O:Nat->Int)(m:Nat->Nat)(r v:Nat->Nat->Int):Nat->Nat->Nat->Int
 | 0=>btM U O N
 |q+1=>rdM1 N m r v (A0 N U O m r v q) q
def bOK(N:Nat)(U O:Nat->Int)(m:Nat->Nat)(r v:Nat->Nat->Int):Prop:=N<=6/\ ∀b,b<N->m b<=10/\0<=U b/\U b<=O b/\O b<=1000/\ ∀j,j<m b->0<=r b j/\r b j<=2/\ -1000<=v b j/\v b j<=2000
theorem Xn0: ∀k,UB (List.replicate 169 0) k=G6 (LZ 0 0) k:=by
 intro k;rw [dD (by decide)]
 simp [G6,LZ]
theorem yP(M:Nat->Nat->Int){a b q:Nat}(hq:q=a*13+b)(hb:b<13):G6 M q=M a b:=by
 unfold G6;rw [show q / 13=a by omega,show q%13=b by omega]
theorem fI{M M':Nat->Nat->Int}(h: ∀x y,x<13->y<13->M x y=M' x y){k:Nat}(hk:k<169):G6 M k=G6 M' k:=h _ _ VM VM
theorem Qf6(M:Nat->Nat->Int){a b q:Nat}(hq:q=a*13+b)(hb:b<13)(v:Int):UT q v (G6 M)=G6 (xK M a b v):=by
 funext k;unfold UT G6 xK;by_cases hk:k=q
 ·rw [if_pos hk,if_pos VM]
 ·rw [if_neg hk,if_neg VM]
theorem jE{M:Nat->Nat->Int}{a b q:Nat}{v:Int}(hq:q=a*13+b)(hb:b<13):UT q (min (G6 M q) v) (G6 M)=G6 (bnd M a b v):=by
 rw [yP M hq hb,Qf6 M hq hb];rfl
theorem Qr3(k j:Nat)(hj:j<=12)(h:k≠j)(x y:Nat):xK (LZ k j) k j 8000 x y=LZ k (j+1) x y:=by
 unfold xK LZ;split
 ·rename_i hxy;rw [if_pos ⟨.inr VM,VM⟩]
 ·rename_i hxy;by_cases h1:((x<k/\y<=12)\/(x=k/\y<j))/\x≠y
  ·rw [if_pos h1,if_pos VM]
  ·rw [if_neg h1,if_neg VM]
theorem Qr4(k:Nat)(x y:Nat):LZ k k x y=LZ k (k+1) x y:=by
 unfold LZ;by_cases h1:((x<k/\y<=12)\/(x=k/\y<k))/\x≠y
 ·rw [if_pos h1,if_pos VM]
 ·rw [if_neg h1,if_neg VM]
theorem Wo5(k:Nat)(x y:Nat):LZ k 13 x y=LZ (k+1) 0 x y:=by
 unfold LZ;by_cases h1:((x<k/\y<=12)\/(x=k/\y<13))/\x≠y
 ·rw [if_pos h1,if_pos VM]
 ·rw [if_neg h1,if_neg VM]
abbrev QC:List AV:=[AV.x (.int IntKind.u64 (0:Int))]
abbrev QM:List Int:=([(0:Int)]++cA 168)
abbrev KZ:GS:=GS.cells 191 QC
section
variable (N:Nat)(U O:Nat->Int)(m:Nat->Nat)(r v:Nat->Nat->Int)
def Zv3:St:={σ:=[AV.ro [lst 2 3 λk=>[iI (oL k),iI (oH k)],iI 1,Q1 N U O m r v,Q2 m N,top],agg QC,top,ptr 0 0,QD,AV.lit false,ptr 4 0]++HM 184 [],m:=[(4,GS.ints 237 [] 169 λa=>UB QM a),(0,KZ)],nx:=7}
noncomputable def Zw4:Code:=UC (VV (U9 Tryz.f93) 0)
def Wn6(k:Nat):St:=(upE [(22,i k)] [(4,.ints 237 [] 169 (G6 (LZ k 0))),(0,.cells 191 [.x (.int .u64 0)])] (Zv3 N U O m r v))
def EC(k:Nat):G9->Option St
 | .exit 0=>some (upE [(22,i 13)] [(4,.ints 237 [] 169 (G6 (LZ 13 0))),(0,.cells 191 [.x (.int .u64 0)])] (Zv3 N U O m r v))
 |_=>none
def Jq7:CT:= .leaf (.exit 0,(EC N U O m r v 0 (.exit 0)).getD (Zv3 N U O m r v))
def Zb8:UL:=GM [] (HK (Wn6 N U O m r v (0)) (Jq7 N U O m r v))
def Zv2(k:Nat):St:={σ:=[AV.ro [lst 2 3 λk=>[iI (oL k),iI (oH k)],iI 1,Q1 N U O m r v,Q2 m N,top],agg QC,top,ptr 0 0,QD,AV.lit false,ptr 4 0,iI (k:Int)]++HM 14 [iI (k:Int)]++HM 168 [],m:=[(4,GS.ints 237 [] 169 λk_1=>G6 (LZ k 0) k_1),(0,KZ)],nx:=11}
noncomputable def Ju8:Code:=(UC (VV (UC (VV (U9 Tryz.f93) 0)) 0))
def Wn5(k:Nat)(j:Nat):St:=(upE [(25,i j)] [(4,.ints 237 [] 169 (G6 (LZ k j))),(0,.cells 191 [.x (.int .u64 0)])] (Zv2 N U O m r v k))
def EB(k:Nat)(j:Nat):G9->Option St
 | .exit 2=>some (upE [(25,i 13)] [(4,.ints 237 [] 169 (G6 (LZ k 13))),(0,.cells 191 [.x (.int .u64 0)])] (Zv2 N U O m r v k))
 |_=>none
def Jq6(k:Nat):CT:= .leaf (.exit 2,(EB N U O m r v k 0 (.exit 2)).getD (Zv2 N U O m r v k))
def Zb7(k:Nat):UL:=GM [] (HK (Wn5 N U O m r v k (0)) (Jq6 N U O m r v k))
abbrev QY:Prop:=(0:Int)=0
abbrev W7:Prop:=ptr 4 0=ptr 4 0
abbrev WL:List (Nat×UY):=[(70,bO),(123,bP),(124,y8)]
abbrev WN:Prop:=AV.lit false=AV.lit false
noncomputable abbrev X3:Ext:={R:=[],H:=[(122,Qm0)] }
theorem Jl1(k:Nat)(VU:k<=12):GA VR (.loop Ju8) (Zb7 N U O m r v k):=by
 refine G5 [] (L:=[]) (Ae RL (Ae P0 (Ae RB Aa))) (Ai Ab (Ag RP Ac)) U1 U6 (X:=Nat) (Wn5 N U O m r v k) (λj=>j<=13) (λj=>13-j) (EB N U O m r v k) (x0:=0) VX ?_ ?_ ?_
 ·rintro j;kernel_rfl
 ·rintro j y E h;unfold EB at h;split at h
  ·cases h;kernel_rfl
  ·cases h
 ·rintro Q hQ j hx;refine ⟨(j+1),?_⟩;(with_reducible refine DL (t:=let z0:=(U2 (AV.ro [lst 2 3 λk=>[iI (oL k),iI (oH k)],iI 1,Q1 N U O m r v,Q2 m N,top]));(branch (decide ((j:Int)<13)) (branch ((k:Int) != (j:Int)) (need [UM k 13] (need [UM j 13] (need [j*1+(k*13+0)+1<=169] (need [VO ((j:Int)+1)] (need [z0,U2 (agg QC),QS,QD=QD,WN,W7,U2 (k:Int),U2 (k:Int),(j:Int)+1=(↑(j+1):Int),169=169,GY 169 (UT (j*1+(k*13+0)) (8000:Int) (G6 (LZ k j))) (G6 (LZ k (j+1))),QY] (leaf G9.normal)))))) (need [VO ((j:Int)+1)] (need [z0,U2 (agg QC),QS,QD=QD,WN,W7,U2 (k:Int),U2 (k:Int),(j:Int)+1=(↑(j+1):Int),169=169,GY 169 (G6 (LZ k j)) (G6 (LZ k (j+1))),QY] (leaf G9.normal)))) (need [z0,U2 (agg QC),QS,QD=QD,WN,W7,U2 (k:Int),U2 (k:Int),(j:Int)=13,169=169,GY 169 (G6 (LZ k j)) (G6 (LZ k 13)),QY] (leaf (G9.exit 2))))) VW ?_)
  simp only [Jq6,EB,VP.sat,GX] at hQ;simp only [VP.sat,UD,G8,GO,UG,VO,UJ,HB,RE,RF,L7,GR,EB]
  refine ⟨λh=>⟨λhne=>?_,λheq=>?_⟩,λh=>?_⟩
  ·have h3: ∀M w,UT (j*1+(k*13+0)) w (G6 M)=G6 (xK M k j w):=λM w=>Qf6 M VM VM w
   simp only [h3]
   (with_reducible repeat' first|apply Al|intro _)
   all_goals first|exact PQ|(exact fI (λx y _ _=>Qr3 k j VM VM x y) (by assumption))
  ·obtain rfl:k=j:=VM
   (with_reducible repeat' first|apply Al|intro _)
   all_goals first|exact PQ|(exact fI (λx y _ _=>Qr4 k x y) (by assumption))
  ·obtain rfl:j=13:=VM;exact V3
theorem Jl2:GA VR (.loop Zw4) (Zb8 N U O m r v):=by
 refine G5 [] (L:=[BP 22 (λk=>FT [k<=12] (Zb7 N U O m r v k))]) (Ae RL (Ae P0 (Ae RB Aa))) (Ai Ab (Ag RP Ac)) U1 (UZ (λcj hcj=>by
  have e:VV Zw4 0=some (.loop Ju8):=VW;rw [e] at hcj;cases hcj;exact P8 (λk=>D8 (λh=>Jl1 N U O m r v k h)))) (X:=Nat) (Wn6 N U O m r v) (λk=>k<=13) (λk=>13-k) (EC N U O m r v) (x0:=0) VX ?_ ?_ ?_
 ·rintro k;kernel_rfl
 ·rintro k y E h;unfold EC at h;split at h
  ·cases h;kernel_rfl
  ·cases h
 ·rintro Q hQ k hx;refine ⟨(k+1),?_⟩;(with_reducible refine DL (t:=let z0:=(U2 (AV.ro [lst 2 3 λk=>[iI (oL k),iI (oH k)],iI 1,Q1 N U O m r v,Q2 m N,top]));(branch (decide ((k:Int)<13)) (need [k<=12] (need [z0,U2 (agg QC),QS,QD=QD,WN,W7,U2 (k:Int),U2 (k:Int),(0:Int)=(↑(0:Nat):Int),169=169,GT 169 (G6 (LZ k 0)),QY] (need [VO ((k:Int)+1)] (need [z0,U2 (agg QC),QS,QD=QD,WN,W7,(k:Int)+1=(↑(k+1):Int),169=169,GY 169 (G6 (LZ k 13)) (G6 (LZ (k+1) 0)),QY] (leaf G9.normal))))) (need [z0,U2 (agg QC),QS,QD=QD,WN,W7,(k:Int)=13,169=169,GY 169 (G6 (LZ k 0)) (G6 (LZ 13 0)),QY] (leaf (G9.exit 0))))) VW ?_)
  simp only [Jq7,EC,VP.sat,GX] at hQ;simp only [VP.sat,UD,G8,GO,UG,VO,UJ,HB,RE,RF,L7,GR,EC]
  refine ⟨λh=>?_,λh=>?_⟩
  ·(with_reducible repeat' first|apply Al|intro _)
   all_goals first|exact PQ|(exact fI (λx y _ _=>Wo5 k x y) (by assumption))
  ·obtain rfl:k=13:=VM;exact V3
def Zv1:St:={σ:=[AV.ro [lst 2 3 λk=>[iI (oL k),iI (oH k)],iI 1,Q1 N U O m r v,Q2 m N,top],agg QC,top,ptr 0 0,QD,AV.lit false,ptr 4 0]++HM 15 [iI 13]++HM 20 [lst 2 3 λk=>[iI (oL k),iI (oH k)],iI (↑(3:Nat):Int)]++HM 146 [],m:=[(4,GS.ints 237 [] 169 λk=>G6 (LZ 13 0) k),(0,KZ)],nx:=14}
noncomputable def Ju7:Code:=UC (VV (U9 Tryz.f93) 1)
def Wn4(k:Nat):St:=(upE [(45,i k)] [(4,.ints 237 [] 169 (G6 (ofM k))),(0,.cells 191 [.x (.int .u64 0)])] (Zv1 N U O m r v))
def EA(k:Nat):G9->Option St
 | .exit 4=>some (upE [(45,i 3)] [(4,.ints 237 [] 169 (G6 (ofM 3))),(0,.cells 191 [.x (.int .u64 0)])] (Zv1 N U O m r v))
 |_=>none
def Jq5:CT:= .leaf (.exit 4,(EA N U O m r v 0 (.exit 4)).getD (Zv1 N U O m r v))
def Zb6:UL:=GM [] (HK (Wn4 N U O m r v (0)) (Jq5 N U O m r v))
abbrev XC:Prop:=(13:Int)=13
theorem Jl0:GA VR (.loop Ju7) (Zb6 N U O m r v):=by
 refine G5 [] (L:=[]) (Ae RL (Ae P0 (Ae RB Aa))) (Ai Ab (Ag RP Ac)) U1 U6 (X:=Nat) (Wn4 N U O m r v) (λk=>k<=3) (λk=>3-k) (EA N U O m r v) (x0:=0) VX ?_ ?_ ?_
 ·rintro k;kernel_rfl
 ·rintro k y E h;unfold EA at h;split at h
  ·cases h;kernel_rfl
  ·cases h
 ·rintro Q hQ k hx;refine ⟨(k+1),?_⟩;(with_reducible refine DL (t:=let z1:=(G6 (ofM k) (((1:Int)+(k:Int)).toNat*1+0));let z0:=(UT (((1:Int)+(k:Int)).toNat*1+0) (min z1 (-oL k)) (G6 (ofM k)) (0+(((1:Int)+(k:Int)).toNat*13+0)));let z2:=(U2 (AV.ro [lst 2 3 λk=>[iI (oL k),iI (oH k)],iI 1,Q1 N U O m r v,Q2 m N,top]));(branch (decide ((k:Int)<(↑(3:Nat):Int))) (need [UM k 3] (need [(0:Int)<=(k:Int)/\(k:Int)<=1000] (need [VO (-oH k)] (need [VO (-oL k)] (need [UM 0 13] (need [(0:Int)<=1+(k:Int)/\(1:Int)+(k:Int)<(↑(13:Nat):Int)] (need [((1:Int)+(k:Int)).toNat*1+0<169] (need [UM 0 13] (need [(0:Int)<=1+(k:Int)/\(1:Int)+(k:Int)<(↑(13:Nat):Int)] (need [((1:Int)+(k:Int)).toNat*1+0+List.length [min z1 (-oL k)]<=169] (need [(0:Int)<=1+(k:Int)/\(1:Int)+(k:Int)<(↑(13:Nat):Int)] (need [UM 0 13] (need [0+(((1:Int)+(k:Int)).toNat*13+0)<169] (need [VO (- -oH k)] (need [(0:Int)<=1+(k:Int)/\(1:Int)+(k:Int)<(↑(13:Nat):Int)] (need [UM 0 13] (need [0+(((1:Int)+(k:Int)).toNat*13+0)+List.length [min z0 (- -oH k)]<=169] (need [VO ((k:Int)+1)] (need [z2,U2 (agg QC),QS,QD=QD,WN,W7,XC,U2 (lst 2 3 λk=>[iI (oL k),iI (oH k)]),U2 (↑(3:Nat):Int),(k:Int)+1=(↑(k+1):Int),169=169,GY 169 (UT (0+(((1:Int)+(k:Int)).toNat*13+0)) (min z0 (- -oH k)) (jT (((1:Int)+(k:Int)).toNat*1+0) [min z1 (-oL k)] (G6 (ofM k)))) (G6 (ofM (k+1))),QY] (leaf G9.normal)))))))))))))))))))) (need [z2,U2 (agg QC),QS,QD=QD,WN,W7,XC,U2 (lst 2 3 λk=>[iI (oL k),iI (oH k)]),U2 (↑(3:Nat):Int),(k:Int)=3,169=169,GY 169 (G6 (ofM k)) (G6 (ofM 3)),QY] (leaf (G9.exit 4))))) VW ?_)
  simp only [Jq5,EA,VP.sat,GX] at hQ;simp only [VP.sat,UD,G8,GO,UG,VO,UJ,HB,RE,RF,L7,GR,EA]
  have hL: -9<=oL k/\oL k<=0:=by unfold oL;split<;>omega
  have hH:0<=oH k/\oH k<=9:=by unfold oH;split<;>omega
  refine ⟨λh=>?_,λh=>?_⟩
  ·have h1: ∀M w,UT ((1+(k:Int)).toNat*1+0) (min (G6 M ((1+(k:Int)).toNat*1+0)) w) (G6 M)=G6 (bnd M 0 (1+k) w):=λM w=>jE VM VM
   have h2: ∀M w,UT (0+((1+(k:Int)).toNat*13+0)) (min (G6 M (0+((1+(k:Int)).toNat*13+0))) w) (G6 M)=G6 (bnd M (1+k) 0 w):=λM w=>jE VM VM
   simp only [h1,h2];exact V3
  ·obtain rfl:k=3:=VM;exact V3
def Zv0:St:={σ:=[AV.ro [lst 2 3 λk=>[iI (oL k),iI (oH k)],iI 1,Q1 N U O m r v,Q2 m N,top],agg QC,top,ptr 0 0,QD,AV.lit false,ptr 4 0]++HM 15 [iI 13]++HM 20 [lst 2 3 λk=>[iI (oL k),iI (oH k)],iI (↑(3:Nat):Int),iI 3]++HM 20 [Q1 N U O m r v,iI (N:Int)]++HM 123 [],m:=[(4,GS.ints 237 [] 169 λk=>G6 (ofM 3) k),(0,KZ)],nx:=21}
noncomputable def Ju6:Code:=UC (VV (U9 Tryz.f93) 2)
def Wn3(k:Nat):St:=(upE [(68,i k)] [(4,.ints 237 [] 169 (G6 (btM U O k))),(0,.cells 191 [.x (.int .u64 0)])] (Zv0 N U O m r v))
def E9(k:Nat):G9->Option St
 | .exit 6=>some (upE [(68,i N)] [(4,.ints 237 [] 169 (G6 (btM U O N))),(0,.cells 191 [.x (.int .u64 0)])] (Zv0 N U O m r v))
 |_=>none
def Jq4:CT:= .leaf (.exit 6,(E9 N U O m r v 0 (.exit 6)).getD (Zv0 N U O m r v))
def Zb5:UL:=GM [] (HK (Wn3 N U O m r v (0)) (Jq4 N U O m r v))
abbrev XG:Prop:=(3:Int)=3
theorem Jk9(VU:bOK N U O m r v):GA VR (.loop Ju6) (Zb5 N U O m r v):=by
 refine G5 [] (L:=[]) (Ae RL (Ae P0 (Ae RB Aa))) (Ai Ab (Ag RP Ac)) U1 U6 (X:=Nat) (Wn3 N U O m r v) (λk=>k<=N) (λk=>N-k) (E9 N U O m r v) (x0:=0) VX ?_ ?_ ?_
 ·rintro k;kernel_rfl
 ·rintro k y E h;unfold E9 at h;split at h
  ·cases h;kernel_rfl
  ·cases h
 ·rintro Q hQ k hx;refine ⟨(k+1),?_⟩;(with_reducible refine DL (t:=let z1:=(G6 (btM U O k) (((7:Int)+(k:Int)).toNat*1+0));let z0:=(UT (((7:Int)+(k:Int)).toNat*1+0) (min z1 (O k)) (G6 (btM U O k)) (0+(((7:Int)+(k:Int)).toNat*13+0)));let z2:=(U2 (AV.ro [lst 2 3 λk=>[iI (oL k),iI (oH k)],iI 1,Q1 N U O m r v,Q2 m N,top]));(branch (decide ((k:Int)<(N:Int))) (need [UM k N] (need [(0:Int)<=(k:Int)/\(k:Int)<=1000] (need [UM 0 13] (need [(0:Int)<=7+(k:Int)/\(7:Int)+(k:Int)<(↑(13:Nat):Int)] (need [((7:Int)+(k:Int)).toNat*1+0<169] (need [UM 0 13] (need [(0:Int)<=7+(k:Int)/\(7:Int)+(k:Int)<(↑(13:Nat):Int)] (need [((7:Int)+(k:Int)).toNat*1+0+List.length [min z1 (O k)]<=169] (need [(0:Int)<=7+(k:Int)/\(7:Int)+(k:Int)<(↑(13:Nat):Int)] (need [UM 0 13] (need [0+(((7:Int)+(k:Int)).toNat*13+0)<169] (need [VO (-U k)] (need [(0:Int)<=7+(k:Int)/\(7:Int)+(k:Int)<(↑(13:Nat):Int)] (need [UM 0 13] (need [0+(((7:Int)+(k:Int)).toNat*13+0)+List.length [min z0 (-U k)]<=169] (need [VO ((k:Int)+1)] (need [z2,U2 (agg QC),QS,QD=QD,WN,W7,XC,U2 (lst 2 3 λk=>[iI (oL k),iI (oH k)]),U2 (↑(3:Nat):Int),XG,WU N U O m r v,U2 (N:Int),(k:Int)+1=(↑(k+1):Int),169=169,GY 169 (UT (0+(((7:Int)+(k:Int)).toNat*13+0)) (min z0 (-U k)) (jT (((7:Int)+(k:Int)).toNat*1+0) [min z1 (O k)] (G6 (btM U O k)))) (G6 (btM U O (k+1))),QY] (leaf G9.normal)))))))))))))))))) (need [z2,U2 (agg QC),QS,QD=QD,WN,W7,XC,U2 (lst 2 3 λk=>[iI (oL k),iI (oH k)]),U2 (↑(3:Nat):Int),XG,WU N U O m r v,U2 (N:Int),(k:Int)=(N:Int),169=169,GY 169 (G6 (btM U O k)) (G6 (btM U O N)),QY] (leaf (G9.exit 6))))) VW ?_)
  simp only [Jq4,E9,VP.sat,GX] at hQ;simp only [VP.sat,UD,G8,GO,UG,VO,UJ,HB,RE,RF,L7,GR,E9]
  have h6:=VU.1;refine ⟨λh=>?_,λh=>?_⟩
  ·obtain ⟨_,q1,q2,q3,_⟩:=VU.2 k VM;have h1: ∀M w,UT ((7+(k:Int)).toNat*1+0) (min (G6 M ((7+(k:Int)).toNat*1+0)) w) (G6 M)=G6 (bnd M 0 (7+k) w):=λM w=>jE VM VM
   have h2: ∀M w,UT (0+((7+(k:Int)).toNat*13+0)) (min (G6 M (0+((7+(k:Int)).toNat*13+0))) w) (G6 M)=G6 (bnd M (7+k) 0 w):=λM w=>jE VM VM
   simp only [h1,h2];exact V3
  ·obtain rfl:k=N:=VM;exact V3
def Zu9:St:={σ:=[AV.ro [lst 2 3 λk=>[iI (oL k),iI (oH k)],iI 1,Q1 N U O m r v,Q2 m N,top],agg QC,top,ptr 0 0,QD,AV.lit false,ptr 4 0]++HM 15 [iI 13]++HM 20 [lst 2 3 λk=>[iI (oL k),iI (oH k)],iI (↑(3:Nat):Int),iI 3]++HM 20 [Q1 N U O m r v,iI (N:Int),iI (N:Int)]++HM 14 [Q2 m N,iI (↑(HG m N):Int)]++HM 106 [],m:=[(4,GS.ints 237 [] 169 λk=>G6 (btM U O N) k),(0,KZ)],nx:=27}
noncomputable def Ju5:Code:=UC (VV (U9 Tryz.f93) 3)
def Wn2(k:Nat):St:=(upE [(85,i k)] [(4,.ints 237 [] 169 (G6 (A0 N U O m r v k))),(0,.cells 191 [.x (.int .u64 0)])] (Zu9 N U O m r v))
def E8(k:Nat):G9->Option St
 | .exit 8=>some (upE [(85,i (HG m N))] [(4,.ints 237 [] 169 (G6 (A0 N U O m r v (HG m N)))),(0,.cells 191 [.x (.int .u64 0)])] (Zu9 N U O m r v))
 |_=>none
def Jq3:CT:= .leaf (.exit 8,(E8 N U O m r v 0 (.exit 8)).getD (Zu9 N U O m r v))
def Zb4:UL:=GM [] (HK (Wn2 N U O m r v (0)) (Jq3 N U O m r v))
theorem Jk8(VU:bOK N U O m r v):GA VR (.loop Ju5) (Zb4 N U O m r v):=by
 refine G5 [] (L:=[]) (Ae RL (Ae P0 (Ae RB Aa))) (Ai Ab (Ag RP Ac)) U1 U6 (X:=Nat) (Wn2 N U O m r v) (λk=>k<=HG m N) (λk=>HG m N-k) (E8 N U O m r v) (x0:=0) VX ?_ ?_ ?_
 ·rintro k;kernel_rfl
 ·rintro k y E h;unfold E8 at h;split at h
  ·cases h;kernel_rfl
  ·cases h
 ·rintro Q hQ k hx;refine ⟨(k+1),?_⟩
  (with_reducible refine DL (t:=let z4:=A0 N U O m r v k;let z1:=(G6 (z4) (((7:Int)+(↑(Prod.fst (GG m N k)):Int)).toNat*1+(((1:Int)+r (Prod.fst (GG m N k)) (Prod.snd (GG m N k))).toNat*13+0)));let z0:=(UT (((7:Int)+(↑(Prod.fst (GG m N k)):Int)).toNat*1+(((1:Int)+r (Prod.fst (GG m N k)) (Prod.snd (GG m N k))).toNat*13+0)) (min z1 (v (Prod.fst (GG m N k)) (Prod.snd (GG m N k))+1)) (G6 (z4)) (((1:Int)+r (Prod.fst (GG m N k)) (Prod.snd (GG m N k))).toNat*1+(((7:Int)+(↑(Prod.fst (GG m N k)):Int)).toNat*13+0)));let z2:=(U2 (AV.ro [lst 2 3 λk=>[iI (oL k),iI (oH k)],iI 1,Q1 N U O m r v,Q2 m N,top]));let z3:=(U2 (lst 2 3 λk=>[iI (oL k),iI (oH k)]));(branch (decide ((k:Int)<(↑(HG m N):Int))) (need [UM k (↑(HG m N):Int)] (need [(0:Int)<=(k:Int)/\(k:Int)<=64] (branch (IntKind.wrap IntKind.u64 (↑(BitVec.toNat (BitVec.ofInt (IntKind.bits IntKind.u64) ((0:Int) / (2:Int)^k) &&& BitVec.ofInt (IntKind.bits IntKind.u64) (1:Int))):Int)==0) (need [UM (↑(Prod.fst (GG m N k)):Int) N] (need [UM (↑(Prod.snd (GG m N k)):Int) ((↑(m (Prod.fst (GG m N k))):Int))] (need [(0:Int)<=r (Prod.fst (GG m N k)) (Prod.snd (GG m N k))/\r (Prod.fst (GG m N k)) (Prod.snd (GG m N k))<=1000] (need [(0:Int)<=(↑(Prod.fst (GG m N k)):Int)/\(↑(Prod.fst (GG m N k)):Int)<=1000] (need [VO (v (Prod.fst (GG m N k)) (Prod.snd (GG m N k))-1)] (need [VO (v (Prod.fst (GG m N k)) (Prod.snd (GG m N k))+1)] (need [(0:Int)<=1+r (Prod.fst (GG m N k)) (Prod.snd (GG m N k))/\(1:Int)+r (Prod.fst (GG m N k)) (Prod.snd (GG m N k))<(↑(13:Nat):Int)] (need [(0:Int)<=7+(↑(Prod.fst (GG m N k)):Int)/\(7:Int)+(↑(Prod.fst (GG m N k)):Int)<(↑(13:Nat):Int)] (need [((7:Int)+(↑(Prod.fst (GG m N k)):Int)).toNat*1+(((1:Int)+r (Prod.fst (GG m N k)) (Prod.snd (GG m N k))).toNat*13+0)<169] (need [(0:Int)<=1+r (Prod.fst (GG m N k)) (Prod.snd (GG m N k))/\(1:Int)+r (Prod.fst (GG m N k)) (Prod.snd (GG m N k))<(↑(13:Nat):Int)] (need [(0:Int)<=7+(↑(Prod.fst (GG m N k)):Int)/\(7:Int)+(↑(Prod.fst (GG m N k)):Int)<(↑(13:Nat):Int)] (need [((7:Int)+(↑(Prod.fst (GG m N k)):Int)).toNat*1+(((1:Int)+r (Prod.fst (GG m N k)) (Prod.snd (GG m N k))).toNat*13+0)+List.length [min z1 (v (Prod.fst (GG m N k)) (Prod.snd (GG m N k))+1)]<=169] (need [(0:Int)<=7+(↑(Prod.fst (GG m N k)):Int)/\(7:Int)+(↑(Prod.fst (GG m N k)):Int)<(↑(13:Nat):Int)] (need [(0:Int)<=1+r (Prod.fst (GG m N k)) (Prod.snd (GG m N k))/\(1:Int)+r (Prod.fst (GG m N k)) (Prod.snd (GG m N k))<(↑(13:Nat):Int)] (need [((1:Int)+r (Prod.fst (GG m N k)) (Prod.snd (GG m N k))).toNat*1+(((7:Int)+(↑(Prod.fst (GG m N k)):Int)).toNat*13+0)<169] (need [VO (-(v (Prod.fst (GG m N k)) (Prod.snd (GG m N k))-1))] (need [(0:Int)<=7+(↑(Prod.fst (GG m N k)):Int)/\(7:Int)+(↑(Prod.fst (GG m N k)):Int)<(↑(13:Nat):Int)] (need [(0:Int)<=1+r (Prod.fst (GG m N k)) (Prod.snd (GG m N k))/\(1:Int)+r (Prod.fst (GG m N k)) (Prod.snd (GG m N k))<(↑(13:Nat):Int)] (need [((1:Int)+r (Prod.fst (GG m N k)) (Prod.snd (GG m N k))).toNat*1+(((7:Int)+(↑(Prod.fst (GG m N k)):Int)).toNat*13+0)+List.length [min z0 (-(v (Prod.fst (GG m N k)) (Prod.snd (GG m N k))-1))]<=169] (need [VO ((k:Int)+1)] (need [z2,U2 (agg QC),QS,QD=QD,WN,W7,XC,z3,U2 (↑(3:Nat):Int),XG,WU N U O m r v,U2 (N:Int),U2 (N:Int),U2 (Q2 m N),U2 (↑(HG m N):Int),(k:Int)+1=(↑(k+1):Int),169=169,GY 169 (UT (((1:Int)+r (Prod.fst (GG m N k)) (Prod.snd (GG m N k))).toNat*1+(((7:Int)+(↑(Prod.fst (GG m N k)):Int)).toNat*13+0)) (min z0 (-(v (Prod.fst (GG m N k)) (Prod.snd (GG m N k))-1))) (jT (((7:Int)+(↑(Prod.fst (GG m N k)):Int)).toNat*1+(((1:Int)+r (Prod.fst (GG m N k)) (Prod.snd (GG m N k))).toNat*13+0)) [min z1 (v (Prod.fst (GG m N k)) (Prod.snd (GG m N k))+1)] (G6 (z4)))) (G6 (A0 N U O m r v (k+1))),QY] (leaf G9.normal)))))))))))))))))))))) (need [VO ((k:Int)+1)] (need [z2,U2 (agg QC),QS,QD=QD,WN,W7,XC,z3,U2 (↑(3:Nat):Int),XG,WU N U O m r v,U2 (N:Int),U2 (N:Int),U2 (Q2 m N),U2 (↑(HG m N):Int),(k:Int)+1=(↑(k+1):Int),169=169,GY 169 (G6 (z4)) (G6 (A0 N U O m r v (k+1))),QY] (leaf G9.normal)))))) (need [z2,U2 (agg QC),QS,QD=QD,WN,W7,XC,z3,U2 (↑(3:Nat):Int),XG,WU N U O m r v,U2 (N:Int),U2 (N:Int),U2 (Q2 m N),U2 (↑(HG m N):Int),(k:Int)=(↑(HG m N):Int),169=169,GY 169 (G6 (z4)) (G6 (A0 N U O m r v (HG m N))),QY] (leaf (G9.exit 8))))) VW ?_)
  simp only [Jq3,E8,VP.sat,GX] at hQ;simp only [VP.sat,UD,G8,GO,UG,VO,UJ,HB,RE,RF,L7,GR,E8]
  have h6:=VU.1;have hb:=a6 m (K:=10) N (λb hb=>(VU.2 b hb).1)
  have hz:(IntKind.u64.wrap ((BitVec.ofInt IntKind.u64.bits (0 / 2^k) &&& BitVec.ofInt IntKind.u64.bits 1).toNat:Int)==0)=true:=by
   rw [Int.zero_ediv];decide
  simp only [hz,true_imp_iff,Bool.true_eq_false,false_imp_iff,and_true];refine ⟨λh=>?_,λh=>?_⟩
  ·obtain ⟨hl1,hl2⟩:=aE m N k VM;obtain ⟨_,_,_,_,q4⟩:=VU.2 _ hl1;obtain ⟨q5,q6,q7,q8⟩:=q4 _ hl2;have e1:((1+r (GG m N k).1 (GG m N k).2).toNat)=1+(r (GG m N k).1 (GG m N k).2).toNat:=VM;have e2:((7+((GG m N k).1:Int)).toNat)=7+(GG m N k).1:=VM;rw [e1,e2];have h1: ∀M w,UT ((7+(GG m N k).1)*1+((1+(r (GG m N k).1 (GG m N k).2).toNat)*13+0)) (min (G6 M ((7+(GG m N k).1)*1+((1+(r (GG m N k).1 (GG m N k).2).toNat)*13+0))) w) (G6 M)=G6 (bnd M (1+(r (GG m N k).1 (GG m N k).2).toNat) (7+(GG m N k).1) w):=λM w=>jE VM VM
   have h2: ∀M w,UT ((1+(r (GG m N k).1 (GG m N k).2).toNat)*1+((7+(GG m N k).1)*13+0)) (min (G6 M ((1+(r (GG m N k).1 (GG m N k).2).toNat)*1+((7+(GG m N k).1)*13+0))) w) (G6 M)=G6 (bnd M (7+(GG m N k).1) (1+(r (GG m N k).1 (GG m N k).2).toNat) w):=λM w=>jE VM VM
   simp only [h1,h2];exact V3
  ·obtain rfl:k=HG m N:=VM;exact V3
end
def LB8(B:Int)(M:Nat->Nat->Int):Prop:= ∀x y,-B<=M x y/\M x y<=8000
def JB8(B:Int)(o f t:Nat)(M:Nat->Nat->Int):Prop:= ∀x y,M x y<=8000/\ -(6*B)<=M x y/\(x=o-> -(3*B)<=M x y)/\(y=o-> -(3*B)<=M x y)/\(x=o->y=o-> -(2*B)<=M x y)/\(¬(x<f\/(x=f/\y<t))-> -B<=M x y)
theorem Qw8{B:Int}{o:Nat}{M:Nat->Nat->Int}(hB:0<=B)(h:LB8 B M):JB8 B o 0 0 M:=by
 intro x y;have:=h x y;refine ⟨VM,VM,λ_=>VM,λ_=>VM,λ_ _=>VM,λ_=>VM⟩
theorem Xd2{B:Int}{o f t:Nat}{M:Nat->Nat->Int}(hB:0<=B)(h:JB8 B o f t M):JB8 B o f (t+1) (fwS M o f t):=by
 have hft:=h f t;have hfo:=h f o;have hot:=h o t;have hoo:=h o o;have I:=hft.2.2.2.2.2 VM;intro x y;have hxy:=h x y;unfold fwS bnd xK;by_cases hc:x=f/\y=t
 ·exact V6
 ·rw [if_neg hc];exact ⟨hxy.1,hxy.2.1,hxy.2.2.1,hxy.2.2.2.1,hxy.2.2.2.2.1,λhv=>hxy.2.2.2.2.2 VM⟩
theorem Xd3{B:Int}{o f:Nat}{M:Nat->Nat->Int}(hB:0<=B)(h:JB8 B o f 0 M): ∀t,JB8 B o f t (fwT M o f t)
 | 0=>h
 |t+1=>Xd2 hB (Xd3 hB h t)
theorem Xr4{B:Int}{o f t:Nat}{M:Nat->Nat->Int}(h:JB8 B o f t M):JB8 B o (f+1) 0 M:=by
 intro x y;have hxy:=h x y;exact ⟨hxy.1,hxy.2.1,hxy.2.2.1,hxy.2.2.2.1,hxy.2.2.2.2.1,λhv=>hxy.2.2.2.2.2 VM⟩
theorem Xd4{B:Int}{c o:Nat}{M:Nat->Nat->Int}(hB:0<=B)(h:LB8 B M): ∀f,JB8 B o f 0 (fwF c M o f)
 | 0=>Qw8 hB h
 |f+1=>Xr4 (Xd3 hB (Xd4 hB h f) (c+1))
theorem Xd0{c:Nat}{M:Nat->Nat->Int}(h:LB8 8001 M): ∀o,LB8 (8001*6^o) (fwO c M o)
 | 0=>by
  rw [show (8001:Int)*6^0=8001 by decide]
  exact h
 |o+1=>by
  have ih:=Xd0 (c:=c) h o;have hp:(0:Int)<=8001*6^o:=Int.mul_nonneg VM (Int.pow_nonneg VM);have hj:=Xd4 (c:=c) (o:=o) hp ih (c+1);intro x y;have:=hj x y;have e:(8001:Int)*6^(o+1)=6*(8001*6^o):=by rw [Int.pow_succ];omega
  rw [e];exact ⟨this.2.1,this.1⟩
theorem Je6: ∀o:Nat,o<=12->(6:Int)^o<=2176782336:=by
 intro o ho;rcases (show o=0\/o=1\/o=2\/o=3\/o=4\/o=5\/o=6\/o=7\/o=8\/o=9\/o=10\/o=11\/o=12 by omega) with rfl|rfl|rfl|rfl|rfl|rfl|rfl|rfl|rfl|rfl|rfl|rfl|rfl<;>decide
theorem Zp5{c:Nat}{M:Nat->Nat->Int}(h:LB8 8001 M){o f t:Nat}(ho:o<=12)(x y:Nat): -105000000000000<=fwT (fwF c (fwO c M o) o f) o f t x y/\fwT (fwF c (fwO c M o) o f) o f t x y<=8000:=by
 have ih:=Xd0 (c:=c) h o;have hp:(0:Int)<=8001*6^o:=Int.mul_nonneg VM (Int.pow_nonneg VM);have hj:=Xd3 hp (Xd4 (c:=c) (o:=o) hp ih f) t x y;have:=Je6 o ho;omega
theorem yR{B:Int}{M:Nat->Nat->Int}(h:LB8 B M){a b:Nat}{v:Int}(hv: -B<=v):LB8 B (bnd M a b v):=by
 intro x y;have h1:=h a b;have h2:=h x y;unfold bnd xK;split<;>omega
theorem oLH(k:Nat):(-9<=oL k/\oL k<=0)/\0<=oH k/\oH k<=9:=by
 unfold oL oH;constructor<;>split<;>omega
theorem Wh6: ∀k,LB8 8001 (ofM k)
 | 0=>by
  intro x y;unfold ofM LZ;split<;>omega
 |k+1=>by
  have h:=oLH k;exact yR (yR (Wh6 k) VM) VM
theorem Ww9{N:Nat}{U O:Nat->Int}{m:Nat->Nat}{r v:Nat->Nat->Int}(h:bOK N U O m r v): ∀k,k<=N->LB8 8001 (btM U O k)
 | 0,_=>Wh6 3
 |k+1,hk=>by
  have q:=h.2 k VM;exact yR (yR (Ww9 h k VM) VM) VM
theorem TI{N:Nat}{U O:Nat->Int}{m:Nat->Nat}{r v:Nat->Nat->Int}(h:bOK N U O m r v): ∀q,q<=HG m N->LB8 8001 (A0 N U O m r v q)
 | 0,_=>Ww9 h N (Am _)
 |q+1,hq=>by
  obtain ⟨hl1,hl2⟩:=aE m N q VM;have q4:=(h.2 _ hl1).2.2.2.2 _ hl2;exact yR (yR (TI h q VM) VM) VM
section
variable (N:Nat)(U O:Nat->Int)(m:Nat->Nat)(r v:Nat->Nat->Int)
def r0M:Nat->Nat->Int:=A0 N U O m r v (HG m N)
def PK:Nat->Nat->Int:=fwO 12 (r0M N U O m r v) 13
def xZ:Bool:=DD (λk=>decide (0<=PK N U O m r v k k)) 13
def Zu8:St:={σ:=[AV.ro [lst 2 3 λk=>[iI (oL k),iI (oH k)],iI 1,Q1 N U O m r v,Q2 m N,top],agg QC,top,ptr 0 0,QD,AV.lit false,ptr 4 0]++HM 15 [iI 13]++HM 20 [lst 2 3 λk=>[iI (oL k),iI (oH k)],iI (↑(3:Nat):Int),iI 3]++HM 20 [Q1 N U O m r v,iI (N:Int),iI (N:Int)]++HM 14 [Q2 m N,iI (↑(HG m N):Int),iI (↑(HG m N):Int)]++HM 105 [],m:=[(4,GS.ints 237 [] 169 λk=>G6 (A0 N U O m r v (HG m N)) k),(0,KZ)],nx:=28}
noncomputable def Zw3:Code:=UC (VV (U9 Tryz.f93) 4)
def Wn1(o:Nat):St:=(upE [(136,i o)] [(4,.ints 237 [] 169 (G6 (fwO 12 (r0M N U O m r v) o))),(0,.cells 191 [.x (.int .u64 0)])] (Zu8 N U O m r v))
def E7(o:Nat):G9->Option St
 | .exit 10=>some (upE [(136,i 13)] [(4,.ints 237 [] 169 (G6 (fwO 12 (r0M N U O m r v) 13))),(0,.cells 191 [.x (.int .u64 0)])] (Zu8 N U O m r v))
 |_=>none
def Jq2:CT:= .leaf (.exit 10,(E7 N U O m r v 0 (.exit 10)).getD (Zu8 N U O m r v))
def Zb3:UL:=GM [] (HK (Wn1 N U O m r v (0)) (Jq2 N U O m r v))
def Zu7(o:Nat):St:={σ:=[AV.ro [lst 2 3 λk=>[iI (oL k),iI (oH k)],iI 1,Q1 N U O m r v,Q2 m N,top],agg QC,top,ptr 0 0,QD,AV.lit false,ptr 4 0]++HM 9 [iI (o:Int)]++HM 5 [iI 13]++HM 20 [lst 2 3 λk=>[iI (oL k),iI (oH k)],iI (↑(3:Nat):Int),iI 3]++HM 20 [Q1 N U O m r v,iI (N:Int),iI (N:Int)]++HM 14 [Q2 m N,iI (↑(HG m N):Int),iI (↑(HG m N):Int)]++HM 50 [iI (o:Int)]++HM 54 [],m:=[(4,GS.ints 237 [] 169 λk=>G6 (fwO 12 (r0M N U O m r v) o) k),(0,KZ)],nx:=32}
noncomputable def Zw2:Code:=(UC (VV (UC (VV (U9 Tryz.f93) 4)) 0))
def Wn0(o:Nat)(f:Nat):St:=(upE [(139,i f)] [(4,.ints 237 [] 169 (G6 (fwF 12 (fwO 12 (r0M N U O m r v) o) o f))),(0,.cells 191 [.x (.int .u64 0)])] (Zu7 N U O m r v o))
def E6(o:Nat)(f:Nat):G9->Option St
 | .exit 12=>some (upE [(139,i 13)] [(4,.ints 237 [] 169 (G6 (fwF 12 (fwO 12 (r0M N U O m r v) o) o 13))),(0,.cells 191 [.x (.int .u64 0)])] (Zu7 N U O m r v o))
 |_=>none
def Jq1(o:Nat):CT:= .leaf (.exit 12,(E6 N U O m r v o 0 (.exit 12)).getD (Zu7 N U O m r v o))
def Zb2(o:Nat):UL:=GM [] (HK (Wn0 N U O m r v o (0)) (Jq1 N U O m r v o))
def Zu6(o:Nat)(f:Nat):St:={σ:=[AV.ro [lst 2 3 λk=>[iI (oL k),iI (oH k)],iI 1,Q1 N U O m r v,Q2 m N,top],agg QC,top,ptr 0 0,QD,AV.lit false,ptr 4 0]++HM 9 [iI (o:Int),iI (f:Int),top,top,top,top,iI 13]++HM 20 [lst 2 3 λk=>[iI (oL k),iI (oH k)],iI (↑(3:Nat):Int),iI 3]++HM 20 [Q1 N U O m r v,iI (N:Int),iI (N:Int)]++HM 14 [Q2 m N,iI (↑(HG m N):Int),iI (↑(HG m N):Int)]++HM 50 [iI (o:Int),top,top,iI (f:Int)]++HM 51 [],m:=[(4,GS.ints 237 [] 169 λk=>G6 (fwF 12 (fwO 12 (r0M N U O m r v) o) o f) k),(0,KZ)],nx:=36}
noncomputable def Ju4:Code:=(UC (VV (UC (VV (UC (VV (U9 Tryz.f93) 4)) 0)) 0))
def Wm9(o:Nat)(f:Nat)(t:Nat):St:=(upE [(142,i t)] [(4,.ints 237 [] 169 (G6 (fwT (fwF 12 (fwO 12 (r0M N U O m r v) o) o f) o f t))),(0,.cells 191 [.x (.int .u64 0)])] (Zu6 N U O m r v o f))
def E5(o:Nat)(f:Nat)(t:Nat):G9->Option St
 | .exit 14=>some (upE [(142,i 13)] [(4,.ints 237 [] 169 (G6 (fwT (fwF 12 (fwO 12 (r0M N U O m r v) o) o f) o f 13))),(0,.cells 191 [.x (.int .u64 0)])] (Zu6 N U O m r v o f))
 |_=>none
def Jq0(o:Nat)(f:Nat):CT:= .leaf (.exit 14,(E5 N U O m r v o f 0 (.exit 14)).getD (Zu6 N U O m r v o f))
def Zb1(o:Nat)(f:Nat):UL:=GM [] (HK (Wm9 N U O m r v o f (0)) (Jq0 N U O m r v o f))
theorem Jk5(o:Nat)(f:Nat)(VU:bOK N U O m r v)(UI:o<=12)(HU:f<=12):GA VR (.loop Ju4) (Zb1 N U O m r v o f):=by
 refine G5 [] (L:=[]) (Ae RL (Ae P0 (Ae RB Aa))) (Ai Ab (Ag RP Ac)) U1 U6 (X:=Nat) (Wm9 N U O m r v o f) (λt=>t<=13) (λt=>13-t) (E5 N U O m r v o f) (x0:=0) VX ?_ ?_ ?_
 ·rintro t;kernel_rfl
 ·rintro t y E h;unfold E5 at h;split at h
  ·cases h;kernel_rfl
  ·cases h
 ·rintro Q hQ t hx;refine ⟨(t+1),?_⟩;(with_reducible refine DL (t:=let z2:=(fwF 12 (fwO 12 (r0M N U O m r v) o) o f);let z0:=(fwT z2 o f t);let z1:=(U2 (AV.ro [lst 2 3 λk=>[iI (oL k),iI (oH k)],iI 1,Q1 N U O m r v,Q2 m N,top]));let z3:=(U2 (↑(HG m N):Int));(branch (decide ((t:Int)<13)) (need [UM f 13] (need [UM t 13] (need [t*1+(f*13+0)<169] (need [UM f 13] (need [UM o 13] (need [o*1+(f*13+0)<169] (need [UM o 13] (need [UM t 13] (need [t*1+(o*13+0)<169] (need [VO (G6 z0 (o*1+(f*13+0))+G6 z0 (t*1+(o*13+0)))] (need [UM f 13] (need [UM t 13] (need [t*1+(f*13+0)+List.length [min (G6 z0 (t*1+(f*13+0))) (G6 z0 (o*1+(f*13+0))+G6 z0 (t*1+(o*13+0)))]<=169] (need [VO ((t:Int)+1)] (need [z1,U2 (agg QC),QS,QD=QD,WN,W7,U2 (o:Int),U2 (f:Int),XC,U2 (lst 2 3 λk=>[iI (oL k),iI (oH k)]),U2 (↑(3:Nat):Int),XG,WU N U O m r v,U2 (N:Int),U2 (N:Int),U2 (Q2 m N),z3,z3,U2 (o:Int),U2 (f:Int),(t:Int)+1=(↑(t+1):Int),169=169,GY 169 (UT (t*1+(f*13+0)) (min (G6 z0 (t*1+(f*13+0))) (G6 z0 (o*1+(f*13+0))+G6 z0 (t*1+(o*13+0)))) (G6 z0)) (G6 (fwT z2 o f (t+1))),QY] (leaf G9.normal)))))))))))))))) (need [z1,U2 (agg QC),QS,QD=QD,WN,W7,U2 (o:Int),U2 (f:Int),XC,U2 (lst 2 3 λk=>[iI (oL k),iI (oH k)]),U2 (↑(3:Nat):Int),XG,WU N U O m r v,U2 (N:Int),U2 (N:Int),U2 (Q2 m N),z3,z3,U2 (o:Int),U2 (f:Int),(t:Int)=13,169=169,GY 169 (G6 z0) (G6 (fwT z2 o f 13)),QY] (leaf (G9.exit 14))))) VW ?_)
  simp only [Jq0,E5,VP.sat,GX] at hQ;simp only [VP.sat,UD,G8,GO,UG,VO,UJ,HB,RE,RF,L7,GR,E5]
  have hl:=λx y=>Zp5 (c:=12) (TI VU (HG m N) (Am _)) (o:=o) (f:=f) (t:=t) VM x y
  have hfo:=hl f o;have hot:=hl o t;refine ⟨λh=>?_,λh=>?_⟩
  ·have h1: ∀M,G6 M (o*1+(f*13+0))=M f o:=λM=>yP _ VM VM
   have h2: ∀M,G6 M (t*1+(o*13+0))=M o t:=λM=>yP _ VM VM
   have h3: ∀M w,UT (t*1+(f*13+0)) (min (G6 M (t*1+(f*13+0))) w) (G6 M)=G6 (bnd M f t w):=λM w=>jE VM VM
   simp only [h3];simp only [h1,h2];unfold r0M;exact V3
  ·obtain rfl:t=13:=VM;exact V3
theorem Jk6(o:Nat)(VU:bOK N U O m r v)(UI:o<=12):GA VR (.loop Zw2) (Zb2 N U O m r v o):=by
 refine G5 [] (L:=[BP 17 (λk=>FT [k<=12] (Zb1 N U O m r v o k))]) (Ae RL (Ae P0 (Ae RB Aa))) (Ai Ab (Ag RP Ac)) U1 (UZ (λcj hcj=>by
  have e:VV Zw2 0=some (.loop Ju4):=VW;rw [e] at hcj;cases hcj;exact P8 (λk=>D8 (λh=>Jk5 N U O m r v o k VU UI h)))) (X:=Nat) (Wn0 N U O m r v o) (λf=>f<=13) (λf=>13-f) (E6 N U O m r v o) (x0:=0) VX ?_ ?_ ?_
 ·rintro f;kernel_rfl
 ·rintro f y E h;unfold E6 at h;split at h
  ·cases h;kernel_rfl
  ·cases h
 ·rintro Q hQ f hx;refine ⟨(f+1),?_⟩;(with_reducible refine DL (t:=let z0:=(U2 (AV.ro [lst 2 3 λk=>[iI (oL k),iI (oH k)],iI 1,Q1 N U O m r v,Q2 m N,top]));let z1:=(fwO 12 (r0M N U O m r v) o);let z2:=(U2 (↑(HG m N):Int));let z3:=(U2 (lst 2 3 λk=>[iI (oL k),iI (oH k)]));(branch (decide ((f:Int)<13)) (need [f<=12] (need [z0,U2 (agg QC),QS,QD=QD,WN,W7,U2 (o:Int),U2 (f:Int),XC,z3,U2 (↑(3:Nat):Int),XG,WU N U O m r v,U2 (N:Int),U2 (N:Int),U2 (Q2 m N),z2,z2,U2 (o:Int),U2 (f:Int),(0:Int)=(↑(0:Nat):Int),169=169,GY 169 (G6 (fwF 12 z1 o f)) (G6 (fwT (fwF 12 z1 o f) o f 0)),QY] (need [VO ((f:Int)+1)] (need [z0,U2 (agg QC),QS,QD=QD,WN,W7,U2 (o:Int),XC,z3,U2 (↑(3:Nat):Int),XG,WU N U O m r v,U2 (N:Int),U2 (N:Int),U2 (Q2 m N),z2,z2,U2 (o:Int),(f:Int)+1=(↑(f+1):Int),169=169,GY 169 (G6 (fwT (fwF 12 z1 o f) o f 13)) (G6 (fwF 12 z1 o (f+1))),QY] (leaf G9.normal))))) (need [z0,U2 (agg QC),QS,QD=QD,WN,W7,U2 (o:Int),XC,z3,U2 (↑(3:Nat):Int),XG,WU N U O m r v,U2 (N:Int),U2 (N:Int),U2 (Q2 m N),z2,z2,U2 (o:Int),(f:Int)=13,169=169,GY 169 (G6 (fwF 12 z1 o f)) (G6 (fwF 12 z1 o 13)),QY] (leaf (G9.exit 12))))) VW ?_)
  simp only [Jq1,E6,VP.sat,GX] at hQ;simp only [VP.sat,UD,G8,GO,UG,VO,UJ,HB,RE,RF,L7,GR,E6]
  refine ⟨λh=>?_,λh=>?_⟩
  ·exact V3
  ·obtain rfl:f=13:=VM;exact V3
theorem Jk7(VU:bOK N U O m r v):GA VR (.loop Zw3) (Zb3 N U O m r v):=by
 refine G5 [] (L:=[BP 16 (λk=>FT [k<=12] (Zb2 N U O m r v k))]) (Ae RL (Ae P0 (Ae RB Aa))) (Ai Ab (Ag RP Ac)) U1 (UZ (λcj hcj=>by
  have e:VV Zw3 0=some (.loop Zw2):=VW;rw [e] at hcj;cases hcj;exact P8 (λk=>D8 (λh=>Jk6 N U O m r v k VU h)))) (X:=Nat) (Wn1 N U O m r v) (λo=>o<=13) (λo=>13-o) (E7 N U O m r v) (x0:=0) VX ?_ ?_ ?_
 ·rintro o;kernel_rfl
 ·rintro o y E h;unfold E7 at h;split at h
  ·cases h;kernel_rfl
  ·cases h
 ·rintro Q hQ o hx;refine ⟨(o+1),?_⟩;(with_reducible refine DL (t:=let z0:=(U2 (AV.ro [lst 2 3 λk=>[iI (oL k),iI (oH k)],iI 1,Q1 N U O m r v,Q2 m N,top]));let z1:=(U2 (↑(HG m N):Int));let z2:=(U2 (lst 2 3 λk=>[iI (oL k),iI (oH k)]));let z3:=(fwO 12 (r0M N U O m r v) o);(branch (decide ((o:Int)<13)) (need [o<=12] (need [z0,U2 (agg QC),QS,QD=QD,WN,W7,U2 (o:Int),XC,z2,U2 (↑(3:Nat):Int),XG,WU N U O m r v,U2 (N:Int),U2 (N:Int),U2 (Q2 m N),z1,z1,U2 (o:Int),(0:Int)=(↑(0:Nat):Int),169=169,GY 169 (G6 z3) (G6 (fwF 12 z3 o 0)),QY] (need [VO ((o:Int)+1)] (need [z0,U2 (agg QC),QS,QD=QD,WN,W7,XC,z2,U2 (↑(3:Nat):Int),XG,WU N U O m r v,U2 (N:Int),U2 (N:Int),U2 (Q2 m N),z1,z1,(o:Int)+1=(↑(o+1):Int),169=169,GY 169 (G6 (fwF 12 z3 o 13)) (G6 (fwO 12 (r0M N U O m r v) (o+1))),QY] (leaf G9.normal))))) (need [z0,U2 (agg QC),QS,QD=QD,WN,W7,XC,z2,U2 (↑(3:Nat):Int),XG,WU N U O m r v,U2 (N:Int),U2 (N:Int),U2 (Q2 m N),z1,z1,(o:Int)=13,169=169,GY 169 (G6 z3) (G6 (fwO 12 (r0M N U O m r v) 13)),QY] (leaf (G9.exit 10))))) VW ?_)
  simp only [Jq2,E7,VP.sat,GX] at hQ;simp only [VP.sat,UD,G8,GO,UG,VO,UJ,HB,RE,RF,L7,GR,E7]
  refine ⟨λh=>?_,λh=>?_⟩
  ·exact V3
  ·obtain rfl:o=13:=VM;exact V3
end
end Go.Proofs.YtlclobclmfhlmaaGreatDoor.Hd
