/- Contracts, put together. Conditions: those of each. -/
import Derived.Test.YtlclobclmfhlmaaGreatDoorMd
import Derived.Lib.Walk
import Derived.Lib.SliceRun
import Derived.Lib.AppendZerosOnto
set_option linter.unusedSimpArgs false
set_option linter.unusedVariables false
set_option maxRecDepth 100000
namespace Go.Proofs.YtlclobclmfhlmaaGreatDoor.Bo
open Go Go.Sx Go.RowKit
open Go.Sx.VR (need branch leaf)
open Go.Sx.AV (lst ptr agg roI tup top)
end Go.Proofs.YtlclobclmfhlmaaGreatDoor.Bo
namespace Go.Proofs.YtlclobclmfhlmaaGreatDoor
open Go Go.Sx Go.RowKit Bo
open Go.Sx.VR (need branch leaf)
open Go.Sx.AV (lst ptr agg roI tup top)
theorem U3:Tryz.prog.follows .mixedOrders=true:=VY
abbrev i(n:Int):AV:= .x (.int .i64 n)
abbrev iI(n:Int):AV:= .x (.int .i64 n)
abbrev bl(b:Bool):AV:= .x (.bool b)
abbrev bt:=Bo.bt
abbrev insB:=Bo.insB
def dnI(n d:Int):Int:=n.tdiv d
def upI(n d:Int):Int:=(n+d-1).tdiv d
theorem bt_iff(U n O:Int):bt U n O=true↔U<=n/\n<=O:=Bo.bt_iff U n O
theorem insB_iff(U a b O:Int):insB U a b O=true↔U<=a/\a<=b/\b<=O:=Bo.insB_iff U a b O
theorem dA{n d:Int}(I:0<=n)(hd:1<=d):dnI n d*d<=n/\n<dnI n d*d+d/\0<=dnI n d/\dnI n d<=n:=by
 unfold dnI;rw [Int.tdiv_eq_ediv_of_nonneg I];have h1:=Int.mul_ediv_add_emod n d;have h2:=Int.emod_nonneg n (show d≠0 by omega)
 have h3:=Int.emod_lt_of_pos n (show 0<d by omega)
 have h4:=Int.ediv_nonneg I (show 0<=d by omega)
 have h5:=Int.ediv_le_self d I;rw [Int.mul_comm] at h1;omega
theorem T6{n d:Int}(I:0<=n)(hd:1<=d):upI n d*d-d<n/\n<=upI n d*d/\0<=upI n d/\upI n d<=n:=by
 have h:=dA (n:=n+d-1) VO hd;have e:upI n d=dnI (n+d-1) d:=rfl;rw [e];refine ⟨VO,VO,h.2.2.1,?_⟩;rcases Int.lt_or_le n (dnI (n+d-1) d) with h1|h1
 ·have h2:=Int.mul_le_mul_of_nonneg_right (show n+1<=dnI (n+d-1) d by omega) (show 0<=d by omega)
  rw [Int.add_mul,Int.one_mul] at h2;have h3:=Int.mul_nonneg I (show 0<=d-1 by omega)
  rw [Int.mul_sub,Int.mul_one] at h3;omega
 ·exact h1
def BK:G0
 |[.x (.int .i64 n),.x (.int .i64 U),.x (.int .i64 O)]=>some ([],bl (bt U n O))
 |_=>none
abbrev Y1:Value:=Value.bool false
theorem xH(n U O:Int):U2 VT 102 [i n,i U,i O] (bl (bt U n O)):=by
 refine H3 Tryz.func102 (t:=branch (decide (U<=n)) (leaf (RV.x (.bool (decide (n<=O))))) (leaf (RV.x (Y1)))) VY ?_;simp only [VR.sat,UF,GA,GR,UI,UL];all_goals (simp+contextual [bt,insB,Bo.bt,Bo.insB,Bool.and_assoc]);all_goals omega
theorem RN:VU VT 102 BK:=by
 refine ⟨(UM Tryz.func102),?_⟩;intro avs ns res h I;unfold BK at h;split at h
 ·cases h;exact xH _ _ _
 ·cases h
def BL:G0
 |[.agg [.x (.int .i64 a),.x (.int .i64 b)],.x (.int .i64 U),.x (.int .i64 O)]=>some ([],bl (insB U a b O))
 |_=>none
theorem xW(a b U O:Int):U2 VT 130 [.agg [i a,i b],i U,i O] (bl (insB U a b O)):=by
 refine H3 Tryz.func130 (t:=branch (decide (U<=a)) (branch (decide (a<=b)) (leaf (RV.x (.bool (decide (b<=O))))) (leaf (RV.x (Y1)))) (leaf (RV.x (Y1)))) VY ?_;simp only [VR.sat,UF,GA,GR,UI,UL];all_goals (simp+contextual [bt,insB,Bo.bt,Bo.insB,Bool.and_assoc]);all_goals omega
theorem B4:VU VT 130 BL:=by
 refine ⟨(UM Tryz.func130),?_⟩;intro avs ns res h I;unfold BL at h;split at h
 ·cases h;exact xW _ _ _ _
 ·cases h
def tP:G0
 |[.x (.int .i64 n),.x (.int .i64 d)]=>some ([1<=d/\d<=100000,0<=n/\n<=1000000000000],i (dnI n d))
 |_=>none
theorem Xn5(n d:Int)(VW:1<=d/\d<=100000)(UK:0<=n/\n<=1000000000000):U2 VT 135 [i n,i d] (i (dnI n d)):=by
 refine H3 Tryz.func135 (t:=need [d≠0,VQ (Int.tdiv n d)] (leaf (RV.x (.int .i64 (Int.tdiv n d))))) VY ?_;have h:=dA UK.1 VW.1;unfold dnI at h ⊢;exact VH
theorem b8:VU VT 135 tP:=by
 refine ⟨(UM Tryz.func135),?_⟩;intro avs ns res h I;unfold tP at h;split at h
 ·cases h;exact Xn5 _ _ (I _ VZ) (I _ VZ)
 ·cases h
def Zr0:G0
 |[.x (.int .i64 n),.x (.int .i64 d)]=>some ([1<=d/\d<=100000,0<=n/\n<=1000000000000],i (upI n d))
 |_=>none
theorem Zz0(n d:Int)(VW:1<=d/\d<=100000)(UK:0<=n/\n<=1000000000000):U2 VT 136 [i n,i d] (i (upI n d)):=by
 refine H3 Tryz.func136 (t:=need [VQ (n+d)] (need [VQ (n+d-1)] (need [d≠0,VQ (Int.tdiv (n+d-1) d)] (leaf (RV.x (.int .i64 (Int.tdiv (n+d-1) d))))))) VY ?_;have h:=T6 UK.1 VW.1;unfold upI at h ⊢;exact VH
theorem Wc0:VU VT 136 Zr0:=by
 refine ⟨(UM Tryz.func136),?_⟩;intro avs ns res h I;unfold Zr0 at h;split at h
 ·cases h;exact Zz0 _ _ (I _ VZ) (I _ VZ)
 ·cases h
theorem Qg2{a Z:Int}(ha:0<=a/\a<=100)(hd:0<=Z/\Z<=100000):0<=a*Z/\a*Z<=10000000:=by
 have h1:=Int.mul_nonneg ha.1 hd.1;have h2:=Bo.mul_bd (x:=a) (y:=Z) (X:=100) (Y:=100000) VO VO;omega
def Qi4:G0
 |[.agg [.x (.int .i64 a),.x (.int .i64 b)],.x (.int .i64 Z)]=>some ([0<=a/\a<=100,0<=b/\b<=100,0<=Z/\Z<=100000],.agg [i (dnI (a*Z) 100),i (upI (b*Z) 100)])
 |_=>none
theorem We4(a b Z:Int)(VW:0<=a/\a<=100)(UK:0<=b/\b<=100)(HY:0<=Z/\Z<=100000):U2 VT 138 [.agg [i a,i b],i Z] (.agg [i (dnI (a*Z) 100),i (upI (b*Z) 100)]):=by
 refine U6 (L:=[]) (Ae b8 (Ae Wc0 Aa)) U3 Tryz.func138 (UY Tryz.f138) U8 (t:=need [VQ (a*Z)] (need [(1:Int)<=100/\(100:Int)<=100000,(0:Int)<=a*Z/\a*Z<=1000000000000] (need [VQ (b*Z)] (need [(1:Int)<=100/\(100:Int)<=100000,(0:Int)<=b*Z/\b*Z<=1000000000000] (leaf (RV.agg [RV.x (.int .i64 (dnI (a*Z) (100:Int))),RV.x (.int .i64 (upI (b*Z) (100:Int)))])))))) VY ?_;have h1:=Qg2 VW HY;have h2:=Qg2 UK HY;exact VH
theorem eH:VU VT 138 Qi4:=by
 refine ⟨(UM Tryz.func138),?_⟩;intro avs ns res h I;unfold Qi4 at h;split at h
 ·cases h;exact We4 _ _ _ (I _ VZ) (I _ VZ) (I _ VZ)
 ·cases h
section
variable (f:Nat->Int)(k:Nat)(Z:Int)
def onL:Int:=f (4+2*k)-upI (f 3*Z) 100
def onH:Int:=f (5+2*k)-dnI (f 2*Z) 100
end
def teM(c:Int)(k:Nat):Int:=dnI (1000*k) c
def drB(f:Nat->Int):Prop:=(0<=f 2/\f 2<=100)/\(0<=f 3/\f 3<=100)
def bdB(f:Nat->Int):Prop:= ∀j,j<22-> -100000000000<=f (4+j)/\f (4+j)<=100000000000
theorem We5{f:Nat->Int}{Z:Int}(h:drB f)(hd:0<=Z/\Z<=100000):(0<=upI (f 3*Z) 100/\upI (f 3*Z) 100<=10000000)/\0<=dnI (f 2*Z) 100/\dnI (f 2*Z) 100<=10000000:=by
 have h1:=Qg2 h.1 hd;have h2:=Qg2 h.2 hd;have h3:=dA h1.1 (show (1:Int)<=100 by omega)
 have h4:=T6 h2.1 (show (1:Int)<=100 by omega)
 omega
theorem pL(c T U O:Int)(A B:AV)(f:Nat->Int)(k:Nat)(Z:Int)(VW:drB f)(UK:bdB f)(HY:k<=10)(F8:0<=Z/\Z<=100000):U2 VT 104 [.roI [i c,i T,i U,i O,A,B] 26 f 0,i k,i Z] (i (onL f k Z)):=by
 refine U6 (L:=[]) (Ae eH Aa) U3 Tryz.func104 (UY Tryz.f104) U8 (t:=need [UO k 11] (need [k*2+10+0-1-1-1-1-1-1<26] (need [2+2<=26] (need [(0:Int)<=f (2+nat_lit 0)/\f (2+nat_lit 0)<=100,(0:Int)<=f (2+nat_lit 1)/\f (2+nat_lit 1)<=100,(0:Int)<=Z/\Z<=100000] (need [VQ (f (k*2+10+0-1-1-1-1-1-1)-upI (f (2+nat_lit 1)*Z) (100:Int))] (leaf (RV.x (.int .i64 (f (k*2+10+0-1-1-1-1-1-1)-upI (f (2+nat_lit 1)*Z) (100:Int)))))))))) VY ?_;have h0:=We5 VW F8;have h1:=UK (2*k) VO;have h2:=UK (2*k+1) VO;rw [show 4+(2*k+1)=5+2*k by omega] at h2
 have d1:=VW.1;have d2:=VW.2
 have hi6:VQ (f (4+2*k)-upI (f 3*Z) 100):=by
  simp only [VQ];omega
 simp only [VR.sat,UF,GA,GR,UI,UL];rw [show k*2+10+0-1-1-1-1-1-1=4+2*k by omega]
 exact ⟨VO,VO,VO,⟨d1,d2,F8⟩,hi6,rfl⟩
def mQ:G0
 |[.roI [.x (.int .i64 c),.x (.int .i64 T),.x (.int .i64 U),.x (.int .i64 O),A,B] 26 f 0,.x (.int .i64 k),.x (.int .i64 Z)]=>some ([drB f,bdB f,0<=k/\k<=10,0<=Z/\Z<=100000],i (onL f k.toNat Z))
 |_=>none
theorem pK:VU VT 104 mQ:=by
 refine ⟨(UM Tryz.func104),?_⟩;intro avs ns res h I;unfold mQ at h;split at h
 ·rename_i c T U O A B f k Z;cases h;have hk:0<=k/\k<=10:=I _ VZ;have e:((k.toNat:Nat):Int)=k:=VO;have h0:=pL c T U O A B f k.toNat Z (I _ VZ) (I _ VZ) VO (I _ VZ);rw [e] at h0;exact h0
 ·cases h
theorem aM(c T U O:Int)(A B:AV)(f:Nat->Int)(k:Nat)(Z:Int)(VW:drB f)(UK:bdB f)(HY:k<=10)(F8:0<=Z/\Z<=100000):U2 VT 105 [.roI [i c,i T,i U,i O,A,B] 26 f 0,i k,i Z] (i (onH f k Z)):=by
 refine U6 (L:=[]) (Ae eH Aa) U3 Tryz.func105 (UY Tryz.f105) U8 (t:=need [UO k 11] (need [k*2+10+1-1-1-1-1-1-1<26] (need [2+2<=26] (need [(0:Int)<=f (2+nat_lit 0)/\f (2+nat_lit 0)<=100,(0:Int)<=f (2+nat_lit 1)/\f (2+nat_lit 1)<=100,(0:Int)<=Z/\Z<=100000] (need [VQ (f (k*2+10+1-1-1-1-1-1-1)-dnI (f (2+nat_lit 0)*Z) (100:Int))] (leaf (RV.x (.int .i64 (f (k*2+10+1-1-1-1-1-1-1)-dnI (f (2+nat_lit 0)*Z) (100:Int)))))))))) VY ?_;have h0:=We5 VW F8;have h1:=UK (2*k) VO;have h2:=UK (2*k+1) VO;rw [show 4+(2*k+1)=5+2*k by omega] at h2
 have d1:=VW.1;have d2:=VW.2
 have hi6:VQ (f (5+2*k)-dnI (f 2*Z) 100):=by
  simp only [VQ];omega
 simp only [VR.sat,UF,GA,GR,UI,UL];rw [show k*2+10+1-1-1-1-1-1-1=5+2*k by omega]
 exact ⟨VO,VO,VO,⟨d1,d2,F8⟩,hi6,rfl⟩
def MH:G0
 |[.roI [.x (.int .i64 c),.x (.int .i64 T),.x (.int .i64 U),.x (.int .i64 O),A,B] 26 f 0,.x (.int .i64 k),.x (.int .i64 Z)]=>some ([drB f,bdB f,0<=k/\k<=10,0<=Z/\Z<=100000],i (onH f k.toNat Z))
 |_=>none
theorem aL:VU VT 105 MH:=by
 refine ⟨(UM Tryz.func105),?_⟩;intro avs ns res h I;unfold MH at h;split at h
 ·rename_i c T U O A B f k Z;cases h;have hk:0<=k/\k<=10:=I _ VZ;have e:((k.toNat:Nat):Int)=k:=VO;have h0:=aM c T U O A B f k.toNat Z (I _ VZ) (I _ VZ) VO (I _ VZ);rw [e] at h0;exact h0
 ·cases h
theorem Je4(c T U O:Int)(A B:AV)(f:Nat->Int)(k:Nat)(Z:Int)(VW:drB f)(UK:bdB f)(HY:k<=10)(F8:0<=Z/\Z<=100000):U2 VT 76 [.roI [i c,i T,i U,i O,A,B] 26 f 0,i k,i Z] (.agg [i (onL f k Z),i (onH f k Z)]):=by
 refine U6 (L:=[]) (Ae pK (Ae aL Aa)) U3 Tryz.func76 (UY Tryz.f76) U8 (t:=need [drB f,bdB f,(0:Int)<=(k:Int)/\(k:Int)<=10,(0:Int)<=Z/\Z<=100000] (need [drB f,bdB f,(0:Int)<=(k:Int)/\(k:Int)<=10,(0:Int)<=Z/\Z<=100000] (leaf (RV.agg [RV.x (.int .i64 (onL f k Z)),RV.x (.int .i64 (onH f k Z))])))) VY ?_;simp only [VR.sat,UF,GA,GR,UI,UL,DR];exact ⟨⟨VW,UK,VO,F8⟩,⟨VW,UK,VO,F8⟩⟩
def Jq4:G0
 |[.roI [.x (.int .i64 c),.x (.int .i64 T),.x (.int .i64 U),.x (.int .i64 O),A,B] 26 f 0,.x (.int .i64 k),.x (.int .i64 Z)]=>some ([drB f,bdB f,0<=k/\k<=10,0<=Z/\Z<=100000],.agg [i (onL f k.toNat Z),i (onH f k.toNat Z)])
 |_=>none
theorem Wh4:VU VT 76 Jq4:=by
 refine ⟨(UM Tryz.func76),?_⟩;intro avs ns res h I;unfold Jq4 at h;split at h
 ·rename_i c T U O A B f k Z;cases h;have hk:0<=k/\k<=10:=I _ VZ;have e:((k.toNat:Nat):Int)=k:=VO;have h0:=Je4 c T U O A B f k.toNat Z (I _ VZ) (I _ VZ) VO (I _ VZ);rw [e] at h0;exact h0
 ·cases h
theorem Xu5{c:Int}{k:Nat}(hc:1<=c/\c<=10)(hk:k<=10):0<=teM c k/\teM c k<=10000:=by
 have:=dA (n:=1000*k) VO hc.1;unfold teM;omega
theorem Wc4(c T U O:Int)(A B:AV)(f:Nat->Int)(k:Nat)(VW:1<=c/\c<=10)(UK:k<=10):U2 VT 166 [.roI [i c,i T,i U,i O,A,B] 26 f 0,i k] (i (teM c k)):=by
 refine H3 Tryz.func166 (t:=need [VQ ((1000:Int)*(k:Int))] (need [c≠0,VQ (Int.tdiv ((1000:Int)*(k:Int)) c)] (leaf (RV.x (.int .i64 (Int.tdiv ((1000:Int)*(k:Int)) c)))))) VY ?_;have h:=Xu5 VW UK;unfold teM dnI at h ⊢;exact VH
def Qi2:G0
 |[.roI [.x (.int .i64 c),.x (.int .i64 T),.x (.int .i64 U),.x (.int .i64 O),A,B] 26 f 0,.x (.int .i64 k)]=>some ([1<=c/\c<=10,0<=k/\k<=10],i (teM c k.toNat))
 |_=>none
theorem Wc3:VU VT 166 Qi2:=by
 refine ⟨(UM Tryz.func166),?_⟩;intro avs ns res h I;unfold Qi2 at h;split at h
 ·rename_i c T U O A B f k;cases h;have hk:0<=k/\k<=10:=I _ VZ;have e:((k.toNat:Nat):Int)=k:=VO;have h0:=Wc4 c T U O A B f k.toNat (I _ VZ) VO;rw [e] at h0;exact h0
 ·cases h
theorem NG(c T U O:Int)(A B:AV)(f:Nat->Int)(k:Nat)(Z:Int)(VW:drB f)(UK:bdB f)(HY:k<=10)(F8:0<=Z/\Z<=100000)(BX:1<=c/\c<=10):U2 VT 129 [.roI [i c,i T,i U,i O,A,B] 26 f 0,i k,i Z] (.agg [i (onL f k Z-teM c k),i (onH f k Z-teM c k)]):=by
 refine U6 (L:=[]) (Ae Wh4 (Ae Wc3 Aa)) U3 Tryz.func129 (UY Tryz.f129) U8 (t:=need [drB f,bdB f,(0:Int)<=(k:Int)/\(k:Int)<=10,(0:Int)<=Z/\Z<=100000] (need [(1:Int)<=c/\c<=10,(0:Int)<=(k:Int)/\(k:Int)<=10] (need [VQ (onL f k Z-teM c k)] (need [(1:Int)<=c/\c<=10,(0:Int)<=(k:Int)/\(k:Int)<=10] (need [VQ (onH f k Z-teM c k)] (leaf (RV.agg [RV.x (.int .i64 (onL f k Z-teM c k)),RV.x (.int .i64 (onH f k Z-teM c k))]))))))) VY ?_;have h0:=We5 VW F8;have h1:=UK (2*k) VO;have h2:=UK (2*k+1) VO;rw [show 4+(2*k+1)=5+2*k by omega] at h2
 have d1:=VW.1;have d2:=VW.2
 have h5:=Xu5 BX HY;unfold onL onH;simp only [VR.sat,UF,GA,GR,UI,VQ,UL,DR,onL,onH];refine ⟨⟨VW,UK,VO,F8⟩,⟨BX,VO⟩,VO,⟨BX,VO⟩,VO⟩
def dI:G0
 |[.roI [.x (.int .i64 c),.x (.int .i64 T),.x (.int .i64 U),.x (.int .i64 O),A,B] 26 f 0,.x (.int .i64 k),.x (.int .i64 Z)]=>some ([drB f,bdB f,0<=k/\k<=10,0<=Z/\Z<=100000,1<=c/\c<=10],.agg [i (onL f k.toNat Z-teM c k.toNat),i (onH f k.toNat Z-teM c k.toNat)])
 |_=>none
theorem NF:VU VT 129 dI:=by
 refine ⟨(UM Tryz.func129),?_⟩;intro avs ns res h I;unfold dI at h;split at h
 ·rename_i c T U O A B f k Z;cases h;have hk:0<=k/\k<=10:=I _ VZ;have e:((k.toNat:Nat):Int)=k:=VO;have h0:=NG c T U O A B f k.toNat Z (I _ VZ) (I _ VZ) VO (I _ VZ) (I _ VZ);rw [e] at h0;exact h0
 ·cases h
def keP(c:Int)(f:Nat->Int)(wi Z x:Int):Bool:=insB (-wi) (onL f x.toNat Z-teM c x.toNat) (onH f x.toNat Z-teM c x.toNat) wi
def mkV(p:Int)(j:Nat):List Value:=[.int .i64 (p+j)]
def Qi9:G0
 |[.x (.int .i64 x),.ro [.roI [.x (.int .i64 c),.x (.int .i64 T),.x (.int .i64 U),.x (.int .i64 O),A,B] 26 f 0],.ro [.x (.int .i64 Z)],.ro [.x (.int .i64 S),.x (.int .i64 W),.x (.int .i64 wi)]]=>some ([drB f,bdB f,1<=c/\c<=10,0<=Z/\Z<=100000,0<=wi/\wi<=1000000,0<=x/\x<=10],bl (keP c f wi Z x))
 |_=>none
section
variable (x:Int)(c T U O:Int)(A B:AV)(f:Nat->Int)(Z S W wi:Int)
theorem Wk1(VW:drB f)(UK:bdB f)(HY:1<=c/\c<=10)(F8:0<=Z/\Z<=100000)(BX:0<=wi/\wi<=1000000)(zV:0<=x/\x<=10):U2 VT 128 [i x,.ro [.roI [i c,i T,i U,i O,A,B] 26 f 0],.ro [i Z],.ro [i S,i W,i wi]] (bl (keP c f wi Z x)):=by
 refine U6 (L:=[]) (Ae NF (Ae B4 Aa)) U3 Tryz.func128 (UY Tryz.f128) U8 (t:=need [drB f,bdB f,(0:Int)<=x/\x<=10,(0:Int)<=Z/\Z<=100000,(1:Int)<=c/\c<=10] (need [VQ (-wi)] (leaf (RV.x (.bool (insB (-wi) (onL f (Int.toNat x) Z-teM c (Int.toNat x)) (onH f (Int.toNat x) Z-teM c (Int.toNat x)) wi)))))) VY ?_;simp only [VR.sat,UF,GA,GR,UI,VQ,UL,keP];exact ⟨⟨VW,UK,zV,F8,HY⟩,VO⟩
theorem Wk0:VU VT 128 Qi9:=by
 refine ⟨(UM Tryz.func128),?_⟩;intro avs ns res h I;unfold Qi9 at h;split at h
 ·cases h;exact Wk1 _ _ _ _ _ _ _ _ _ _ _ _ (I _ VZ) (I _ VZ) (I _ VZ) (I _ VZ) (I _ VZ) (I _ VZ)
 ·cases h
theorem Wy7(VW:drB f)(UK:bdB f)(HY:1<=c/\c<=10)(F8:0<=Z/\Z<=100000)(BX:0<=wi/\wi<=1000000)(zV:0<=x/\x<=10):U2 VT 164 [i x,.ro [.fn (.func 128) [] [.ro [.roI [i c,i T,i U,i O,A,B] 26 f 0],.ro [i Z],.ro [i S,i W,i wi]]]] (bl (!(keP c f wi Z x))):=by
 refine U6 (L:=[]) (Ae Wk0 Aa) U3 Tryz.func164 (UY Tryz.f164) U8 (t:=need [drB f,bdB f,(1:Int)<=c/\c<=10,(0:Int)<=Z/\Z<=100000,(0:Int)<=wi/\wi<=1000000,(0:Int)<=x/\x<=10] (leaf (RV.x (.bool !keP c f wi Z x)))) VY ?_;simp only [VR.sat,UF,GA,GR,UI,UL];exact ⟨VW,UK,HY,F8,BX,zV⟩
end
def Qk2:G0
 |[.x (.int .i64 x),.ro [.fn (.func 128) [] [.ro [.roI [.x (.int .i64 c),.x (.int .i64 T),.x (.int .i64 U),.x (.int .i64 O),A,B] 26 f 0],.ro [.x (.int .i64 Z)],.ro [.x (.int .i64 S),.x (.int .i64 W),.x (.int .i64 wi)]]]]=>some ([drB f,bdB f,1<=c/\c<=10,0<=Z/\Z<=100000,0<=wi/\wi<=1000000,0<=x/\x<=10],bl (!(keP c f wi Z x)))
 |_=>none
theorem mK:VU VT 164 Qk2:=by
 refine ⟨(UM Tryz.func164),?_⟩;intro avs ns res h I;unfold Qk2 at h;split at h
 ·cases h;exact Wy7 _ _ _ _ _ _ _ _ _ _ _ _ (I _ VZ) (I _ VZ) (I _ VZ) (I _ VZ) (I _ VZ) (I _ VZ)
 ·cases h
abbrev WC(c:Int)(T:Int)(U:Int)(O:Int)(A:AV)(B:AV)(f:Nat->Int)(Z:Int)(S:Int)(W:Int)(wi:Int):AV:=AV.fn (Fn.func 164) [] [AV.ro [AV.fn (Fn.func 128) [] [AV.ro [roI [iI c,iI T,iI U,iI O,A,B] 26 (λa=>f a) 0],AV.ro [iI Z],AV.ro [iI S,iI W,iI wi]]]]
section
variable (n:Nat)(g:Nat->Int)
abbrev KD:AV:=lst 1 n λk=>[iI (g k)]
def Xe0(c T U O:Int)(A B:AV)(f:Nat->Int)(Z S W wi:Int):St:={σ:=[KD n g,WC c T U O A B f Z S W wi]++HO 5 [iI (n:Int)]++HO 11 [],m:=[],nx:=4}
noncomputable def Jr3:Code:=UE (VX (UB Tryz.f197) 0)
def Wk3(c T U O:Int)(A B:AV)(f:Nat->Int)(Z S W wi:Int)(k:Nat):St:=(upM [(8,i k)] (Xe0 n g c T U O A B f Z S W wi))
def dU(c T U O:Int)(A B:AV)(f:Nat->Int)(Z S W wi:Int)(k:Nat):GB->Option St
 | .ret=>some (upM [(4,i (H0 ((λk=> !(keP c f wi Z (g k)))) n))] (Xe0 n g c T U O A B f Z S W wi))
 | .exit 0=>some (upM [] (Xe0 n g c T U O A B f Z S W wi))
 |_=>none
def Jm8(c T U O:Int)(A B:AV)(f:Nat->Int)(Z S W wi:Int):CT:= .branch (decide (H0 ((λk=> !(keP c f wi Z (g k)))) n<n)) (.leaf (.ret,(dU n g c T U O A B f Z S W wi 0 .ret).getD (Xe0 n g c T U O A B f Z S W wi))) (.leaf (.exit 0,(dU n g c T U O A B f Z S W wi 0 (.exit 0)).getD (Xe0 n g c T U O A B f Z S W wi)))
def Xx7(c T U O:Int)(A B:AV)(f:Nat->Int)(Z S W wi:Int):UN:=(HM (Wk3 n g c T U O A B f Z S W wi (0)) (Jm8 n g c T U O A B f Z S W wi))
theorem Zw1(c T U O:Int)(A B:AV)(f:Nat->Int)(Z S W wi:Int)(VW:n<=100000)(UK:drB f)(HY:bdB f)(F8:1<=c/\c<=10)(BX:0<=Z/\Z<=100000)(zV:0<=wi/\wi<=1000000)(oW: ∀j,j<n->0<=g j/\g j<=10):GC VT (.loop Jr3) (Xx7 n g c T U O A B f Z S W wi):=by
 refine HL (L:=[]) (Ae mK Aa) U3 U8 (X:=Nat) (Wk3 n g c T U O A B f Z S W wi) (λk=>k<=n/\ ∀j,j<k->(λk=> !(keP c f wi Z (g k))) j=false) (λk=>n-k) (dU n g c T U O A B f Z S W wi) (x0:=0) ⟨VO,λj hj=>VO⟩ ?_ ?_ ?_
 ·rintro k;kernel_rfl
 ·rintro k y E h;unfold dU at h;split at h
  ·cases h;kernel_rfl
  ·cases h;kernel_rfl
  ·cases h
 ·rintro Q hQ k hx;refine ⟨(k+1),?_⟩;(with_reducible refine DN (t:=let z0:=(U4 (WC c T U O A B f Z S W wi));(branch (decide ((k:Int)<(n:Int))) (need [UO k n] (need [drB λa=>f a,bdB λa=>f a,(1:Int)<=c/\c<=10,(0:Int)<=Z/\Z<=100000,(0:Int)<=wi/\wi<=1000000,(0:Int)<=g k/\g k<=10] (branch (!keP c (λa=>f a) wi Z (g k)) (need [U4 (KD n g),z0,(k:Int)=(↑(H0 (λk=> !keP c f wi Z (g k)) n):Int),U4 (n:Int)] (leaf GB.ret)) (need [VQ ((k:Int)+1)] (need [U4 (KD n g),z0,U4 (n:Int),(k:Int)+1=(↑(k+1):Int)] (leaf GB.normal)))))) (need [U4 (KD n g),z0,U4 (n:Int)] (leaf (GB.exit 0))))) VY ?_)
  simp only [Jm8,dU,VR.sat,GZ,HD] at hQ;simp only [VR.sat,UF,UL,HD,VQ,dU,DR];refine ⟨λh=>⟨VO,⟨UK,HY,F8,BX,zV,oW k VO⟩,?_⟩,λh=>?_⟩
  rotate_left
  ·have hf:H0 ((λk=> !(keP c f wi Z (g k)))) n=n:=qJ (λj hj=>hx.2 j VO)
   intro E hE;cases hE;exact hQ.2 VO
  refine ⟨λhb=>?_,λhb=>?_⟩
  ·have hf:H0 ((λk=> !(keP c f wi Z (g k)))) n=k:=jD VO hb hx.2
   refine ⟨VO,λE hE=>?_⟩
   cases hE;exact hQ.1 VO
  ·refine ⟨VO,VO,⟨VO,λj hj=>?_⟩,VO⟩
   rcases (show j<k\/j=k by omega) with h1|rfl
   ·exact hx.2 j h1
   ·exact hb
theorem Zc5(c T U O:Int)(A B:AV)(f:Nat->Int)(Z S W wi:Int)(VW:n<=100000)(UK:drB f)(HY:bdB f)(F8:1<=c/\c<=10)(BX:0<=Z/\Z<=100000)(zV:0<=wi/\wi<=1000000)(oW: ∀j,j<n->0<=g j/\g j<=10):U2 VT 197 [.lst 1 n (λk=>[i (g k)]),.fn (.func 164) [] [.ro [.fn (.func 128) [] [.ro [.roI [i c,i T,i U,i O,A,B] 26 f 0],.ro [i Z],.ro [i S,i W,i wi]]]]] (i (if H0 ((λk=> !(keP c f wi Z (g k)))) n<n then (H0 ((λk=> !(keP c f wi Z (g k)))) n:Int) else -1)):=by
 refine U6 (L:=[Xx7 n g c T U O A B f Z S W wi]) (Ae mK Aa) U3 Tryz.func197 (UY Tryz.f197) (G4 (lpE (b:= .loop Jr3) VY<|Zw1 n g c T U O A B f Z S W wi VW UK HY F8 BX zV oW)) (t:=need [U4 (KD n g),U4 (WC c T U O A B f Z S W wi),U4 (n:Int),(0:Int)=(↑(0:Nat):Int)] (branch (decide (H0 (λk=> !keP c f wi Z (g k)) n<n)) (leaf (RV.x (.int .i64 (↑(H0 (λk=> !keP c f wi Z (g k)) n):Int)))) (leaf (RV.x (.int .i64 (-1:Int)))))) VY ?_
 exact VG
end
def Xw9:G0
 |[.lst 1 n g,.fn (.func 164) [] [.ro [.fn (.func 128) [] [.ro [.roI [.x (.int .i64 c),.x (.int .i64 T),.x (.int .i64 U),.x (.int .i64 O),A,B] 26 f 0],.ro [.x (.int .i64 Z)],.ro [.x (.int .i64 S),.x (.int .i64 W),.x (.int .i64 wi)]]]]]=>some ([UJ 1 n g,n<=100000,drB f,bdB f,1<=c/\c<=10,0<=Z/\Z<=100000,0<=wi/\wi<=1000000,∀j,j<n->0<=col 0 g j/\col 0 g j<=10],i (if H0 ((λk=> !(keP c f wi Z (col 0 g k)))) n<n then (H0 ((λk=> !(keP c f wi Z (col 0 g k)))) n:Int) else -1))
 |_=>none
theorem Zc4:VU VT 197 Xw9:=by
 refine ⟨(UM Tryz.func197),?_⟩;intro avs ns res h I;unfold Xw9 at h;split at h
 ·cases h;have hr:UJ 1 _ _:=I _ (GK);exact (Zc5 _ (col 0 _) _ _ _ _ _ _ _ _ _ _ _ (I _ VZ) (I _ VZ) (I _ VZ) (I _ VZ) (I _ VZ) (I _ VZ) (I _ VZ)).same (.cons (.lst 1 _ _ _ hr) (.cons (.refl _) .nil))
 ·cases h
theorem Zq1(n:Nat)(g:Nat->Int)(c T U O:Int)(A B:AV)(f:Nat->Int)(Z S W wi:Int)(VW:n<=100000)(UK:drB f)(HY:bdB f)(F8:1<=c/\c<=10)(BX:0<=Z/\Z<=100000)(zV:0<=wi/\wi<=1000000)(oW: ∀j,j<n->0<=g j/\g j<=10):U2 VT 163 [.lst 1 n (λk=>[i (g k)]),.fn (.func 164) [] [.ro [.fn (.func 128) [] [.ro [.roI [i c,i T,i U,i O,A,B] 26 f 0],.ro [i Z],.ro [i S,i W,i wi]]]]] (bl (!DF (λk=>keP c f wi Z (g k)) n)):=by
 refine U6 (L:=[]) (Ae Zc4 Aa) U3 Tryz.func163 (UY Tryz.f163) U8 (t:=need [UJ 1 n λk=>[i (g k)],n<=100000,drB f,bdB f,(1:Int)<=c/\c<=10,(0:Int)<=Z/\Z<=100000,(0:Int)<=wi/\wi<=1000000,∀(j:Nat),j<n->(0:Int)<=g j/\g j<=10] (leaf (RV.x (.bool (decide ((if H0 (λk=> !keP c f wi Z (g k)) n<n then (↑(H0 (λk=> !keP c f wi Z (g k)) n):Int) else (-1:Int))>=(0:Int))))))) VY ?_
 simp only [VR.sat,UF,GA,UI,UL];refine ⟨⟨λ_ _=>rfl,VW,UK,HY,F8,BX,zV,oW⟩,?_⟩
 rw [kZ];have e:(λk=> !(λk=>keP c f wi Z (g k)) k)=(λk=> !(keP c f wi Z (g k))):=rfl
 rw [e];show decide ((if H0 (λk=> !(keP c f wi Z (g k))) n<n then (H0 (λk=> !(keP c f wi Z (g k))) n:Int) else -1)>=0)=_
 have:=F0 ((λk=> !(keP c f wi Z (g k)))) n
 split<;>simp<;>omega
def Xx4:G0
 |[.lst 1 n g,.fn (.func 164) [] [.ro [.fn (.func 128) [] [.ro [.roI [.x (.int .i64 c),.x (.int .i64 T),.x (.int .i64 U),.x (.int .i64 O),A,B] 26 f 0],.ro [.x (.int .i64 Z)],.ro [.x (.int .i64 S),.x (.int .i64 W),.x (.int .i64 wi)]]]]]=>some ([UJ 1 n g,n<=100000,drB f,bdB f,1<=c/\c<=10,0<=Z/\Z<=100000,0<=wi/\wi<=1000000,∀j,j<n->0<=col 0 g j/\col 0 g j<=10],bl (!DF (λk=>keP c f wi Z (col 0 g k)) n))
 |_=>none
theorem Zq0:VU VT 163 Xx4:=by
 refine ⟨(UM Tryz.func163),?_⟩;intro avs ns res h I;unfold Xx4 at h;split at h
 ·cases h;have hr:UJ 1 _ _:=I _ (GK);exact (Zq1 _ (col 0 _) _ _ _ _ _ _ _ _ _ _ _ (I _ VZ) (I _ VZ) (I _ VZ) (I _ VZ) (I _ VZ) (I _ VZ) (I _ VZ)).same (.cons (.lst 1 _ _ _ hr) (.cons (.refl _) .nil))
 ·cases h
theorem Xp9(n:Nat)(g:Nat->Int)(c T U O:Int)(A B:AV)(f:Nat->Int)(Z S W wi:Int)(VW:n<=100000)(UK:drB f)(HY:bdB f)(F8:1<=c/\c<=10)(BX:0<=Z/\Z<=100000)(zV:0<=wi/\wi<=1000000)(oW: ∀j,j<n->0<=g j/\g j<=10):U2 VT 126 [.lst 1 n (λk=>[i (g k)]),.fn (.func 128) [] [.ro [.roI [i c,i T,i U,i O,A,B] 26 f 0],.ro [i Z],.ro [i S,i W,i wi]]] (bl (DF (λk=>keP c f wi Z (g k)) n)):=by
 refine U6 (L:=[]) (Ae Zq0 Aa) U3 Tryz.func126 (UY Tryz.f126) U8 (t:=need [UJ 1 n λk=>[i (g k)],n<=100000,drB f,bdB f,(1:Int)<=c/\c<=10,(0:Int)<=Z/\Z<=100000,(0:Int)<=wi/\wi<=1000000,∀(j:Nat),j<n->(0:Int)<=g j/\g j<=10] (leaf (RV.x (.bool !!DF (λk=>keP c f wi Z (g k)) n)))) VY ?_
 simp only [VR.sat,UF,GA,UI,UL];refine ⟨⟨λ_ _=>rfl,VW,UK,HY,F8,BX,zV,oW⟩,?_⟩
 show (!!DF (λk=>keP c f wi Z (g k)) n)=_
 simp
def Xa8:G0
 |[.lst 1 n g,.fn (.func 128) [] [.ro [.roI [.x (.int .i64 c),.x (.int .i64 T),.x (.int .i64 U),.x (.int .i64 O),A,B] 26 f 0],.ro [.x (.int .i64 Z)],.ro [.x (.int .i64 S),.x (.int .i64 W),.x (.int .i64 wi)]]]=>some ([UJ 1 n g,n<=100000,drB f,bdB f,1<=c/\c<=10,0<=Z/\Z<=100000,0<=wi/\wi<=1000000,∀j,j<n->0<=col 0 g j/\col 0 g j<=10],bl (DF (λk=>keP c f wi Z (col 0 g k)) n))
 |_=>none
theorem Xp8:VU VT 126 Xa8:=by
 refine ⟨(UM Tryz.func126),?_⟩;intro avs ns res h I;unfold Xa8 at h;split at h
 ·cases h;have hr:UJ 1 _ _:=I _ (GK);exact (Xp9 _ (col 0 _) _ _ _ _ _ _ _ _ _ _ _ (I _ VZ) (I _ VZ) (I _ VZ) (I _ VZ) (I _ VZ) (I _ VZ) (I _ VZ)).same (.cons (.lst 1 _ _ _ hr) (.cons (.refl _) .nil))
 ·cases h
def bO:G0
 |[.x (.int .i64 p),.x (.int .i64 q)]=>some ([],.fn (.func 137) [] [.ro [i p],.ro [i q]])
 |_=>none
abbrev XV(p:Int)(q:Int):AV:=AV.fn (Fn.func 137) [] [AV.ro [iI p],AV.ro [iI q]]
abbrev K4:Ext:={}
theorem Wi8(p q:Int):FH VT 103 [i p,i q] (.fn (.func 137) [] [.ro [i p],.ro [i q]]):=by
 refine D2 (L:=[]) Aa Ad U3 Tryz.func103 (UY Tryz.f103) G9 (t:=leaf (XV p q)) VY ?_;exact rfl
theorem f9:P7 VT 103 bO:=by
 refine ⟨(UM Tryz.func103),?_⟩;intro avs ns res h I;unfold bO at h;split at h
 ·cases h;exact Wi8 _ _
 ·cases h
section
variable (l:Nat)
abbrev YF:AV:=AV.fn (Fn.yield l) [] []
def Xe7(p q:Int):St:={σ:=[YF l,AV.ro [iI p],AV.ro [iI q]]++HO 12 [],m:=[],nx:=2,gh:=some 0}
noncomputable def Zv4:Code:=UE (VX (UB Tryz.f137) 0)
def aJ(p q:Int)(j:Nat):St:={σ:=H6 [(4,i (p+j))] (Xe7 l p q).σ,m:=[],nx:=0,gh:=some (j) }
def kF(p q:Int)(j:Nat):GB->Option St
 | .exit 0=>some {σ:=H6 [] (Xe7 l p q).σ,m:=[],nx:=0,gh:=some ((q-p+1).toNat) }
 | .ret=>some {σ:=H6 [] (Xe7 l p q).σ,m:=[],nx:=0,gh:=none}
 |_=>none
def Jo4(p q:Int):CT:= .may True (.leaf (.exit 0,(kF l p q 0 (.exit 0)).getD (Xe7 l p q))) (.leaf (.ret,(kF l p q 0 .ret).getD (Xe7 l p q)))
def Xz6(p q:Int):UN:=GO [] (HM (aJ l p q (0)) (Jo4 l p q))
theorem Jf0(p q:Int)(VW: -1000000<=p/\p<=1000000)(UK: -1000000<=q/\q<=1000000){cx:Cx}(hX:U1 VT {Y:=some (l,((q-p+1).toNat),(mkV p)) } cx):HN VT none cx (.loop Zv4) (Xz6 l p q):=by
 refine F5 [] (L:=[]) Aa hX U3 G9 (V:=Nat) (aJ l p q) (λj=>j<=((q-p+1).toNat)) (λj=>((q-p+1).toNat)-j) (kF l p q) (x0:=0) VZ ?_ ?_ ?_
 ·rintro j;kernel_rfl
 ·rintro j y E h;unfold kF at h;split at h
  ·cases h;kernel_rfl
  ·cases h;kernel_rfl
  ·cases h
 ·rintro Q hQ j hx;refine ⟨(j+1),?_⟩;have e:HR VT [] {Y:=some (l,((q-p+1).toNat),(mkV p)) } [] [] Zv4 (aJ l p q j) (aJ l p q ((j+1))) (kF l p q j)=(branch (decide (p+(j:Int)<=q)) (need [l=l,j<(q-p+1).toNat,U4 ([Value.int IntKind.i64 (p+(j:Int))])] (VR.may True (need [VQ (p+(j:Int)+1)] (need [YF l=YF l,U4 (AV.ro [iI p]),U4 (AV.ro [iI q]),p+(j:Int)+1=p+(↑(j+1):Int),j+1=j+1] (leaf GB.normal))) (need [YF l=YF l,U4 (AV.ro [iI p]),U4 (AV.ro [iI q])] (leaf GB.ret)))) (need [YF l=YF l,U4 (AV.ro [iI p]),U4 (AV.ro [iI q]),j=(q-p+1).toNat] (leaf (GB.exit 0)))):=VY;rw [e];simp only [Jo4,kF,VR.sat,GZ] at hQ;have hQ1: ∀E,kF l p q j (.exit 0)=some E->Q (.exit 0,E):=λE hE=>by cases hE;exact hQ.1 trivial
  have hQ2: ∀E,kF l p q j .ret=some E->Q (.ret,E):=λE hE=>by cases hE;exact hQ.2
  simp only [VR.sat,UF,UL,HD,VQ,DR];clear e hQ;all_goals exact VB
end
theorem EV(p q:Int)(VW: -1000000<=p/\p<=1000000)(UK: -1000000<=q/\q<=1000000):PQ Tryz.prog 137 [.ro [i p],.ro [i q]] (((q-p+1).toNat)) (mkV p):=by
 refine PF (L:=λl=>[Xz6 l p q]) Aa U3 (UM Tryz.func137) Tryz.func137 (UY Tryz.f137) VY (λl cx hX=>G4 (lpE (b:= .loop Zv4) VY<|Jf0 l p q VW UK hX)) (t:=λl=>(need [U4 (AV.fn (Fn.yield l) [] []),U4 (AV.ro [iI p]),U4 (AV.ro [iI q]),p=p+(↑(0:Nat):Int),0=0] (VR.may True (need [U4 (q-p+1).toNat] (leaf PUnit.unit)) (leaf PUnit.unit)))) (λl=>VY) ?_
 intro l;simp only [VR.sat,UF,GA,GR,UI,VQ,UL,HD,RF];all_goals exact VB
theorem cat1{p:Int}{k j:Nat}(h:j<k+1):GM k (λj=>[i (p+j)]) (UA 1 [i (p+k)]) j=[i (p+j)]:=by
 show HG (decide (j<k)) [i (p+j)] (UA 1 [i (p+k)] (j-k))=_;rw [show j-k=0 by omega]
 by_cases hj:j<k
 ·rw [decide_eq_true hj];rfl
 ·obtain rfl:j=k:=VO;rw [decide_eq_false hj];rfl
abbrev ZB:AV:=AV.x (.slice none 0 0)
section
variable (p q:Int)
def Jr2:St:={σ:=[ZB,XV p q,ptr 0 0,top,ZB,top,XV p q]++HO 6 [],m:=[(900,GU.row 3 1 0 λx=>[]),(0,GU.cells 61 [AV.row 900])],nx:=901}
def rfF:Option Code->Operand
 |some (.rangeFunc f _ _ _)=>f
 |_=> .const .nilFunc
def zS:Option Code->Array Nat
 |some (.rangeFunc _ ps _ _)=>ps
 |_=>#[]
def MZ:Option Code->Code
 |some (.rangeFunc _ _ a _)=>a
 |_=> .skip
def MY:Option Code->Code
 |some (.rangeFunc _ _ _ b)=>b
 |_=> .skip
noncomputable def Jv2:Code:=MZ (VX (UB Tryz.f165) 0)
noncomputable def Ju5:Code:=MY (VX (UB Tryz.f165) 0)
def pW(k:Nat):St:={σ:=H6 [] (Jr2 p q).σ,m:=[(900,.row 3 1 k (λj=>[i (p+j)])),(0,.cells 61 [.row 900])],nx:=901}
def pB(k:Nat):GB->Option St
 | .normal=>some {σ:=H6 [] (Jr2 p q).σ,m:=[(900,.row 3 1 ((q-p+1).toNat) (λj=>[i (p+j)])),(0,.cells 61 [.row 900])],nx:=901}
 |_=>none
def T_as:CT:= .leaf (.normal,pW p q ((q-p+1).toNat))
def Zb8:UN:=GO [(.cell 0 0,900,3,1)] (HM (pW p q (0)) (T_as p q))
abbrev KM:Prop:=ptr 0 0=ptr 0 0
theorem Jm3(VW: -1000000<=p/\p<=1000000)(UK: -1000000<=q/\q<=1000000):HP VT (.rangeFunc (rfF (VX (UB Tryz.f165) 0)) (zS (VX (UB Tryz.f165) 0)) Jv2 Ju5) (Zb8 p q):=by
 refine LI [(.cell 0 0,900,3,1)] (L:=[]) Aa Ad U3 U8 (V:=Nat) (pW p q) (λk=>k<=((q-p+1).toNat)) (λk=>k) (pB p q) (x0:=0) VZ rfl ?_ ?_ ?_ ?_ (g:=137) (caps:=[.ro [i p],.ro [i q]]) VY VY (EV p q VW UK) (λ_=>rfl) ?_
 ·rintro k;kernel_rfl
 ·rintro k y E h;unfold pB at h;split at h
  ·cases h;kernel_rfl
  ·cases h
 ·rintro k;rfl
 ·rintro k y E h;unfold pB at h;split at h
  ·cases h;rfl
  ·cases h
 ·rintro Q hQ k hx;refine ⟨λhlt=>⟨(k+1),rfl,?_⟩,λPL=>?_⟩
  ·(with_reducible refine DN (t:=need [(k+1)*8<=140737488355328,L1 1 (UA 1 [iI (p+(k:Int))])] (need [ZB=ZB,U4 (XV p q),KM,ZB=ZB,U4 (XV p q),k+1=k+1,H2 (k+1) (GM k (λj=>[iI (p+(j:Int))]) (UA 1 [iI (p+(k:Int))])) (λi=>[iI (p+(i:Int))]),U4 (AV.row 900)] (leaf GB.normal))) VY ?_)
   simp only [VR.sat,UF,UL]
   refine ⟨⟨VO,λj hj a ha=>FU ha (by simp [AV.one,Value.oneCell'])⟩,λj hj=>?_,VO⟩
   exact cat1 hj
  ·subst PL;exact hQ
end
def mkF(p:Int)(j:Nat):List AV:=[i (p+j)]
theorem Qw2(p q:Int)(VW: -1000000<=p/\p<=1000000)(UK: -1000000<=q/\q<=1000000):U2 VT 165 [.x (.slice none 0 0),.fn (.func 137) [] [.ro [i p],.ro [i q]]] (.lst 1 ((q-p+1).toNat) (mkF p)):=by
 refine GF (L:=[Zb8 p q]) Aa Ad U3 Tryz.func165 (UY Tryz.f165) (G4 (lpE (b:= .rangeFunc (rfF (VX (UB Tryz.f165) 0)) (zS (VX (UB Tryz.f165) 0)) Jv2 Ju5) VY<|Jm3 p q VW UK)) (t:=need [ZB=ZB,U4 (XV p q),KM,ZB=ZB,U4 (XV p q),0=0,∀(i:Nat),i<0->[]=[iI (p+(i:Int))],U4 (AV.row 900)] (leaf (RV.lst 1 (q-p+1).toNat λj=>[iI (p+(j:Int))]))) VY ?_
 simp only [VR.sat,UF,GA,GR,UI,UL]
 (with_reducible repeat' first|apply Al|intro _)
 all_goals first|exact Ak|omega|with_reducible rfl|assumption|rfl|(rename_i h;exact absurd h (Aq _))|(rename_i hm;cases B9.1 hm;exact Ak)|skip
def nA:G0
 |[.x (.slice none 0 0),.fn (.func 137) [] [.ro [.x (.int .i64 p)],.ro [.x (.int .i64 q)]]]=>some ([-1000000<=p/\p<=1000000,-1000000<=q/\q<=1000000],.lst 1 ((q-p+1).toNat) (mkF p))
 |_=>none
theorem Qw1:VU VT 165 nA:=by
 refine ⟨(UM Tryz.func165),?_⟩;intro avs ns res h I;unfold nA at h;split at h
 ·cases h;exact Qw2 _ _ (I _ VZ) (I _ VZ)
 ·cases h
def SQ:G0
 |[.fn (.func 137) [] [.ro [.x (.int .i64 p)],.ro [.x (.int .i64 q)]]]=>some ([-1000000<=p/\p<=1000000,-1000000<=q/\q<=1000000],.lst 1 ((q-p+1).toNat) (mkF p))
 |_=>none
theorem sT(p q:Int)(VW: -1000000<=p/\p<=1000000)(UK: -1000000<=q/\q<=1000000):FH VT 127 [.fn (.func 137) [] [.ro [i p],.ro [i q]]] (.lst 1 ((q-p+1).toNat) (mkF p)):=by
 refine D2 (L:=[]) (Ae Qw1 Aa) Ad U3 Tryz.func127 (UY Tryz.f127) G9 (t:=need [(-1000000:Int)<=p/\p<=1000000,(-1000000:Int)<=q/\q<=1000000] (leaf (lst 1 (q-p+1).toNat λj=>[iI (p+(j:Int))]))) VY ?_
 simp only [VR.sat,UF,UL];exact ⟨⟨VW,UK⟩,rfl,rfl,λ_ _=>rfl⟩
theorem lZ:P7 VT 127 SQ:=by
 refine ⟨(UM Tryz.func127),?_⟩;intro avs ns res h I;unfold SQ at h;split at h
 ·cases h;exact sT _ _ (I _ VZ) (I _ VZ)
 ·cases h
def keB(c:Int)(f:Nat->Int)(S W wi Z:Int):Bool:=DF (λk=>keP c f wi Z (S+k)) (W-S+1).toNat
def Xa0:G0
 |[.roI [.x (.int .i64 c),.x (.int .i64 T),.x (.int .i64 U),.x (.int .i64 O),A,B] 26 f 0,.agg [.x (.int .i64 S),.x (.int .i64 W),.x (.int .i64 wi)],.x (.int .i64 Z)]=>some ([drB f,bdB f,1<=c/\c<=10,0<=S/\S<=W/\W<=10,0<=wi/\wi<=1000000,0<=Z/\Z<=100000],bl (keB c f S W wi Z))
 |_=>none
theorem Xj6(c T U O:Int)(A B:AV)(f:Nat->Int)(S W wi Z:Int)(VW:drB f)(UK:bdB f)(HY:1<=c/\c<=10)(F8:0<=S/\S<=W/\W<=10)(BX:0<=wi/\wi<=1000000)(zV:0<=Z/\Z<=100000):U2 VT 97 [.roI [i c,i T,i U,i O,A,B] 26 f 0,.agg [i S,i W,i wi],i Z] (bl (keB c f S W wi Z)):=by
 refine GF (L:=[]) (Ae Xp8 Aa) (Ai (Af f9 (Af lZ Ab)) Ac) U3 Tryz.func97 (UY Tryz.f97) G9 (t:=need [(-1000000:Int)<=S/\S<=1000000,(-1000000:Int)<=W/\W<=1000000] (need [UJ 1 (W-S+1).toNat (mkF S),(W-S+1).toNat<=100000,drB f,bdB f,(1:Int)<=c/\c<=10,(0:Int)<=Z/\Z<=100000,(0:Int)<=wi/\wi<=1000000,∀(j:Nat),j<(W-S+1).toNat->(0:Int)<=col 0 (mkF S) j/\col 0 (mkF S) j<=10] (leaf (RV.x (.bool (DF (λk=>keP c f wi Z (col 0 (mkF S) k)) (W-S+1).toNat)))))) VY ?_
 simp only [VR.sat,UF,GA,GR,UI,UL,keB];refine ⟨⟨VO,VO⟩,⟨λk hk=>rfl,VO,VW,UK,HY,zV,BX,λj hj=>?_⟩,rfl⟩
 show 0<=S+(j:Int)/\S+(j:Int)<=10;omega
theorem Xj5:VU VT 97 Xa0:=by
 refine ⟨(UM Tryz.func97),?_⟩;intro avs ns res h I;unfold Xa0 at h;split at h
 ·cases h;exact Xj6 _ _ _ _ _ _ _ _ _ _ _ (I _ VZ) (I _ VZ) (I _ VZ) (I _ VZ) (I _ VZ) (I _ VZ)
 ·cases h
end Go.Proofs.YtlclobclmfhlmaaGreatDoor
namespace Go.Proofs.YtlclobclmfhlmaaGreatDoor.Bo
open Go Go.Sx Go.RowKit
open Go.Sx.VR (need branch leaf)
open Go.Sx.AV (lst ptr agg roI tup top)
def Tr(c:Nat)(T U O:Int)(n:Nat)(a b u v:Nat->Int)(h:Nat->Int):Prop:=
 h 0=0/\h c=T/\(∀k,k<c->U<=h (k+1)-h k/\h (k+1)-h k<=O)/\ ∀j,j<n->h (b j).toNat-h (a j).toNat<=v j/\(b j<c->u j+1<=h (b j+1).toNat-h (a j).toNat)
def ob(c:Nat)(M:Nat->Nat->Int)(h:Nat->Int):Prop:= ∀x y,x<=c->y<=c->h y-h x<=M x y
theorem kJ{c:Nat}{M:Nat->Nat->Int}{h:Nat->Int}{p q:Nat}{v:Int}(hp:p<=c)(hq:q<=c):ob c (bnd M p q v) h↔ob c M h/\h q-h p<=v:=by
 constructor
 ·intro k;refine ⟨λx y hx hy=>Int.le_trans (k x y hx hy) (xE _ _ _ _ _ _),Int.le_trans (k p q hp hq) (bF _ _ _ _)⟩
 ·rintro ⟨k1,k2⟩ x y hx hy;have h1:=k1 x y hx hy;unfold bnd xN;split
  ·rename_i e;rw [e.1,e.2] at h1 ⊢;omega
  ·exact h1
theorem Xi8{c:Nat}{M N:Nat->Nat->Int}{h:Nat->Int}(hm: ∀x y,M x y<=N x y)(k:ob c M h):ob c N h:=λx y hx hy=>Int.le_trans (k x y hx hy) (hm x y)
theorem Zp0(M:Nat->Nat->Int)(o f t x y:Nat):fwS M o f t x y<=M x y:=xE _ _ _ _ _ _
theorem Wt3(M:Nat->Nat->Int)(o f:Nat): ∀t x y,fwT M o f t x y<=M x y
 | 0,_,_=>Int.le_refl _
 |t+1,x,y=>Int.le_trans (Zp0 _ _ _ _ _ _) (Wt3 M o f t x y)
theorem Wt6(c:Nat)(M:Nat->Nat->Int)(o:Nat): ∀f x y,fwF c M o f x y<=M x y
 | 0,_,_=>Int.le_refl _
 |f+1,x,y=>Int.le_trans (Wt3 _ _ _ _ _ _) (Wt6 c M o f x y)
theorem Xm4(c:Nat)(M:Nat->Nat->Int)(o x y:Nat):fwO c M (o+1) x y<=fwO c M o x y:=Wt6 _ _ _ _ _ _
theorem aQ(c:Nat)(M:Nat->Nat->Int)(o:Nat): ∀d x y,fwO c M (o+d) x y<=fwO c M o x y
 | 0,_,_=>Int.le_refl _
 |d+1,x,y=>Int.le_trans (Xm4 c M (o+d) x y) (aQ c M o d x y)
theorem Wt5(c:Nat)(M:Nat->Nat->Int)(o x y:Nat):fwO c M o x y<=M x y:=by
 have:=aQ c M 0 o x y
 rwa [Ap] at this
theorem Je6{c:Nat}{M:Nat->Nat->Int}{h:Nat->Int}{o f:Nat}(ho:o<=c)(hf:f<=c)(k:ob c M h): ∀t,t<=c+1->ob c (fwT M o f t) h
 | 0,_=>k
 |t+1,ht=>by
  have ih:=Je6 ho hf k t VO;refine (kJ hf VO).2 ⟨ih,?_⟩;have h1:=ih f o hf ho;have h2:=ih o t ho VO;omega
theorem Je8{c:Nat}{M:Nat->Nat->Int}{h:Nat->Int}{o:Nat}(ho:o<=c)(k:ob c M h): ∀f,f<=c+1->ob c (fwF c M o f) h
 | 0,_=>k
 |f+1,hf=>Je6 ho VO (Je8 ho k f VO) (c+1) (Am _)
theorem Je7{c:Nat}{M:Nat->Nat->Int}{h:Nat->Int}(k:ob c M h): ∀o,o<=c+1->ob c (fwO c M o) h
 | 0,_=>k
 |o+1,ho=>Je8 VO (Je7 k o VO) (c+1) (Am _)
theorem Wt4{c:Nat}{M N:Nat->Nat->Int}{o f:Nat}(h0:0<=M o o)(hN: ∀x y,N x y=if x<f/\y<=c then min (M x y) (M x o+M o y) else M x y): ∀t,t<=c+1-> ∀x y,fwT N o f t x y=if (x<f/\y<=c)\/(x=f/\y<t) then min (M x y) (M x o+M o y) else M x y
 | 0,_,x,y=>by
  show N x y=_;rw [hN];by_cases h:x<f/\y<=c
  ·rw [if_pos h,if_pos (.inl h)]
  ·rw [if_neg h,if_neg VO]
 |t+1,ht,x,y=>by
  have ih:=Wt4 h0 hN t VO;show bnd (fwT N o f t) f t (fwT N o f t f o+fwT N o f t o t) x y=_;have e1:fwT N o f t f o=M f o:=by
   rw [ih];split<;>omega
  have e2:fwT N o f t o t=M o t:=by
   rw [ih];split<;>omega
  have e3:fwT N o f t f t=M f t:=by
   rw [ih,if_neg VO]
  unfold bnd xN;rw [e1,e2,e3];by_cases hxy:x=f/\y=t
  ·rw [if_pos hxy,if_pos VO,hxy.1,hxy.2]
  ·rw [if_neg hxy,ih];by_cases h:(x<f/\y<=c)\/(x=f/\y<t)
   ·rw [if_pos h,if_pos VO]
   ·rw [if_neg h,if_neg VO]
theorem Wt7{c:Nat}{M:Nat->Nat->Int}{o:Nat}(h0:0<=M o o): ∀f x y,fwF c M o f x y=if x<f/\y<=c then min (M x y) (M x o+M o y) else M x y
 | 0,x,y=>by
  rw [if_neg VO];rfl
 |f+1,x,y=>by
  show fwT (fwF c M o f) o f (c+1) x y=_;rw [Wt4 h0 (Wt7 h0 f) (c+1) (Am _)];by_cases h:(x<f/\y<=c)\/(x=f/\y<c+1)
  ·rw [if_pos h,if_pos VO]
  ·rw [if_neg h,if_neg VO]
theorem IJ{c:Nat}{M:Nat->Nat->Int}: ∀k,k<=c+1->(∀o,o<k->0<=fwO c M o o o)-> ∀p x y,p<k->x<=c->y<=c->fwO c M k x y<=fwO c M k x p+fwO c M k p y
 | 0,_,_,p,x,y,hp,_,_=>absurd hp (Aq _)
 |k+1,hk,hd,p,x,y,hp,hx,hy=>by
  have ih:=IJ k VO (λo ho=>hd o VO)
  have h0:=hd k VO;have eq:=Wt7 (c:=c) h0 (c+1);show fwF c (fwO c M k) k (c+1) x y<=fwF c (fwO c M k) k (c+1) x p+fwF c (fwO c M k) k (c+1) p y;rw [eq x y,eq x p,eq p y,if_pos VO,if_pos VO,if_pos VO];rcases (show p=k\/p<k by omega) with rfl|hpk
  ·omega
  ·have i1:=ih p x y hpk hx hy;have i2:=ih p x k hpk hx VO;have i3:=ih p k y hpk VO hy;have i4:=ih p k k hpk VO VO;omega
theorem Zk9{c:Nat}{h:Nat->Int}:ob c (ini c (c+1) 0) h↔ ∀x y,x<=c->y<=c->h y-h x<=2000:=by
 constructor
 ·intro k x y hx hy;have:=k x y hx hy;unfold ini at this;split at this<;>omega
 ·intro k x y hx hy;unfold ini;by_cases e:x=y
  ·subst e;rw [if_neg VO];omega
  ·rw [if_pos VO];exact k x y hx hy
theorem Wh6{c:Nat}{U O:Int}{h:Nat->Int}: ∀k,k<=c->(ob c (cel c U O k) h↔ob c (ini c (c+1) 0) h/\ ∀j,j<k->U<=h (j+1)-h j/\h (j+1)-h j<=O)
 | 0,_=>⟨λk=>⟨k,λj hj=>absurd hj (Aq _)⟩,λk=>k.1⟩
 |k+1,hk=>by
  have ih:=Wh6 (c:=c) (U:=U) (O:=O) (h:=h) k VO;show ob c (bnd (bnd (cel c U O k) k (k+1) O) (k+1) k (-U)) h↔_;rw [kJ VO VO,kJ VO VO,ih];constructor
  ·rintro ⟨⟨⟨h1,h2⟩,h3⟩,h4⟩;refine ⟨h1,λj hj=>?_⟩
   rcases (show j<k\/j=k by omega) with h|rfl
   ·exact h2 j h
   ·omega
  ·rintro ⟨h1,h2⟩;have h3:=h2 k VO;exact ⟨⟨⟨h1,λj hj=>h2 j VO⟩,VO⟩,VO⟩
def oP(c:Nat)(n:Nat)(a b u v:Nat->Int):Prop:= ∀j,j<n->(0<=a j/\a j<=(c:Int)-1)/\(a j<=b j/\b j<=c)/\0<=u j/\u j<=v j/\v j<=2000
theorem Xv3{c:Nat}{T U O:Int}{a b u v:Nat->Int}{h:Nat->Int}: ∀n,oP c n a b u v->(ob c (rdM c T U O a b u v n) h↔ob c (cel c U O c) h/\h c-h 0=T/\ ∀j,j<n->h (b j).toNat-h (a j).toNat<=v j/\(b j<c->u j+1<=h (b j+1).toNat-h (a j).toNat))
 | 0,_=>by
  show ob c (bnd (bnd (cel c U O c) 0 c T) c 0 (-T)) h↔_;rw [kJ VO VO,kJ VO VO];constructor
  ·rintro ⟨⟨h1,h2⟩,h3⟩;exact ⟨h1,VO,λj hj=>absurd hj (Aq _)⟩
  ·rintro ⟨h1,h2,_⟩;exact ⟨⟨h1,VO⟩,VO⟩
 |n+1,hr=>by
  have ih:=Xv3 (c:=c) (T:=T) (U:=U) (O:=O) (a:=a) (b:=b) (u:=u) (v:=v) (h:=h) n (λj hj=>hr j VO)
  have I:=hr n VO;have key:ob c (rdM c T U O a b u v (n+1)) h↔ob c (rdM c T U O a b u v n) h/\h (b n).toNat-h (a n).toNat<=v n/\(b n<c->u n+1<=h (b n+1).toNat-h (a n).toNat):=by
   show ob c (rdS c (rdM c T U O a b u v n) _ _ _ _) h↔_;unfold rdS;split
   ·rename_i hb;rw [kJ VO VO,kJ VO VO];constructor
    ·rintro ⟨⟨h1,h2⟩,h3⟩;exact ⟨h1,h2,λ_=>VO⟩
    ·rintro ⟨h1,h2,h3⟩;have:=h3 hb;exact ⟨⟨h1,h2⟩,VO⟩
   ·rename_i hb;rw [kJ VO VO];constructor
    ·rintro ⟨h1,h2⟩;exact ⟨h1,h2,λh=>absurd h hb⟩
    ·rintro ⟨h1,h2,_⟩;exact ⟨h1,h2⟩
  rw [key,ih];constructor
  ·rintro ⟨⟨h1,h2,h3⟩,h4⟩;refine ⟨h1,h2,λj hj=>?_⟩
   rcases (show j<n\/j=n by omega) with h|rfl
   ·exact h3 j h
   ·exact h4
  ·rintro ⟨h1,h2,h3⟩;exact ⟨⟨h1,h2,λj hj=>h3 j VO⟩,h3 n VO⟩
theorem NQ{U:Int}{h:Nat->Int}{c:Nat}(hl:0<=U)(hs: ∀k,k<c->U<=h (k+1)-h k)(x:Nat): ∀d,x+d<=c->h x<=h (x+d)
 | 0,_=>Int.le_refl _
 |d+1,hd=>by
  have ih:=NQ hl hs x d VO;have:=hs (x+d) VO;rw [←Ba];omega
theorem Zz3{c:Nat}{T U O:Int}{n:Nat}{a b u v:Nat->Int}{h:Nat->Int}(hb:1<=U/\U<=O/\O<=200/\1<=T/\T<=2000)(hr:oP c n a b u v)(h0:h 0=0):Tr c T U O n a b u v h↔ob c (rdM c T U O a b u v n) h:=by
 rw [Xv3 n hr,Wh6 c (Am _),Zk9];constructor
 ·rintro ⟨_,h1,h2,h3⟩;refine ⟨⟨λx y hx hy=>?_,h2⟩,VO,h3⟩
  have m:=λx d=>NQ (U:=U) (h:=h) (c:=c) VO (λk hk=>(h2 k hk).1) x d
  have m1:=m 0 x VO;have m2:=m y (c-y) VO;rw [Ap] at m1;rw [show y+(c-y)=c by omega] at m2
  omega
 ·rintro ⟨⟨_,h2⟩,h3,h4⟩;exact ⟨h0,VO,h2,h4⟩
theorem Xh9{c:Int}{n:Nat}{a b u v:Nat->Int}(hc:1<=c/\c<=10)(h:DF (λk=>rdB c (a k) (b k) (u k) (v k)) n=true):oP c.toNat n a b u v:=λj hj=>by
 have:=Xv1 (GY.1 h j hj);omega
section
variable {c:Nat}{T U O:Int}
theorem Qd1{n:Nat}{a b u v:Nat->Int}:okR c T U O n a b u v=true↔ ∀k,k<=c->0<=fwM c T U O n a b u v k k:=by
 unfold okR;rw [GY];constructor
 ·intro h k hk;simpa using h k VO
 ·intro h k hk;simpa using h k VO
theorem Wc1{n:Nat}{a b u v:Nat->Int}{h:Nat->Int}(hb:1<=U/\U<=O/\O<=200/\1<=T/\T<=2000)(hr:oP c n a b u v)(h0:h 0=0):Tr c T U O n a b u v h↔ob c (fwM c T U O n a b u v) h:=by
 rw [Zz3 hb hr h0];exact ⟨λk=>Je7 k (c+1) (Am _),λk=>Xi8 (λx y=>Wt5 c _ (c+1) x y) k⟩
theorem Zz6{n:Nat}{a b u v:Nat->Int}{h:Nat->Int}(hb:1<=U/\U<=O/\O<=200/\1<=T/\T<=2000)(hr:oP c n a b u v)(k:Tr c T U O n a b u v h){x:Nat}(hx:x<=c): -(fwM c T U O n a b u v x 0)<=h x/\h x<=fwM c T U O n a b u v 0 x:=by
 have k1:=(Wc1 hb hr k.1).1 k;have h1:=k1 x 0 hx VO;have h2:=k1 0 x VO hx;have:=k.1;omega
theorem S1{n:Nat}{a b u v:Nat->Int}(h:okR c T U O n a b u v=true){p x y:Nat}(hp:p<=c)(hx:x<=c)(hy:y<=c):fwM c T U O n a b u v x y<=fwM c T U O n a b u v x p+fwM c T U O n a b u v p y:=by
 refine IJ (c+1) (Am _) (λo ho=>?_) p x y VO hx hy
 have h1:=Qd1.1 h o VO;have h2:=aQ c (rdM c T U O a b u v n) o (c+1-o) o o;rw [show o+(c+1-o)=c+1 by omega] at h2
 exact Int.le_trans h1 h2
theorem Zj8{a b u v:Nat->Int}(n:Nat):rdM c T U O a b u v n 0 0<=0:=by
 have h1:=CL c T U O a b u v 0 n (Ao _) 0 0;have h2:rdM c T U O a b u v 0 0 0<=cel c U O c 0 0:=Int.le_trans (xE _ _ _ _ _ _) (xE _ _ _ _ _ _);have h3: ∀k,cel c U O k 0 0<=0:=by
  intro k
  induction k with
  |zero=>unfold cel ini;rw [if_neg VO];exact Int.le_refl _
  |succ k ih=>exact Int.le_trans (Int.le_trans (xE _ _ _ _ _ _) (xE _ _ _ _ _ _)) ih
 exact Int.le_trans h1 (Int.le_trans h2 (h3 c))
theorem Xw3{n:Nat}{a b u v:Nat->Int}(h:okR c T U O n a b u v=true):fwM c T U O n a b u v 0 0=0:=by
 have h1:=Qd1.1 h 0 (Ao _);have h2:fwM c T U O n a b u v 0 0<=0:=Int.le_trans (Wt5 c _ (c+1) 0 0) (Zj8 n);omega
theorem Zz5{n:Nat}{a b u v:Nat->Int}(hb:1<=U/\U<=O/\O<=200/\1<=T/\T<=2000)(hr:oP c n a b u v)(h:okR c T U O n a b u v=true):Tr c T U O n a b u v (λk=>fwM c T U O n a b u v 0 k):=by
 refine (Wc1 hb hr (Xw3 h)).2 λx y hx hy=>?_
 have:=S1 h hx (Ao _) hy;show fwM c T U O n a b u v 0 y-fwM c T U O n a b u v 0 x<=_;omega
theorem Zz4{n:Nat}{a b u v:Nat->Int}(hb:1<=U/\U<=O/\O<=200/\1<=T/\T<=2000)(hr:oP c n a b u v)(h:okR c T U O n a b u v=true):Tr c T U O n a b u v (λk=> -(fwM c T U O n a b u v k 0)):=by
 refine (Wc1 hb hr (by rw [Xw3 h];rfl)).2 λx y hx hy=>?_
 have:=S1 h hy hx (Ao _);show -(fwM c T U O n a b u v y 0)- -(fwM c T U O n a b u v x 0)<=_;omega
end
end Go.Proofs.YtlclobclmfhlmaaGreatDoor.Bo
namespace Go.Proofs.YtlclobclmfhlmaaGreatDoor
open Go Go.Sx Go.RowKit Bo
open Go.Sx.VR (need branch leaf)
open Go.Sx.AV (lst ptr agg roI tup top)
def usB(c S W wi:Int):Bool:=bt 0 S W&&decide (W<=c)&&bt 0 wi 1000
section
variable (c T U O:Int)
def vaB(m:Nat)(p q:Nat->Int)(pl ph dl dh:Int):Bool:=decide (Pt.blE m p q pl ph=0)&&qL c T U O&&insB 0 dl dh 100
def rdE(n:Nat)(a b u v:Nat->Int)(m:Nat)(p q:Nat->Int)(pl ph dl dh:Int):Int:=if n>12\/m>8 then 3 else if vaB c T U O m p q pl ph dl dh=true/\(eB c T U O n a b u v=0\/eB c T U O n a b u v=9) then eB c T U O n a b u v else 1
def bdL(n:Nat)(a b u v:Nat->Int)(m:Nat)(p q:Nat->Int)(pl ph:Int)(k:Nat):Int:=dnI (-(fwB c T U O n a b u v k 0)*Pt.boilI m p q pl) T
def bdH(n:Nat)(a b u v:Nat->Int)(m:Nat)(p q:Nat->Int)(pl ph:Int)(k:Nat):Int:=upI (fwB c T U O n a b u v 0 k*Pt.boilI m p q ph) T
end
def wkF(pl ph dl dh:Int)(L H:Nat->Int)(k j:Nat):Int:=if j=0 then pl else if j=1 then ph else if j=2 then dl else if j=3 then dh else if j<4+2*k then (if j%2=0 then L ((j-4) / 2) else H ((j-4) / 2)) else 0
def wkA(c T U O:Int)(n:Nat)(a b u v:Nat->Int)(m:Nat)(p q:Nat->Int)(pl ph dl dh:Int):Nat->Int:=wkF pl ph dl dh (bdL c T U O n a b u v m p q pl ph) (bdH c T U O n a b u v m p q pl ph) (c.toNat+1)
theorem Xg5{c S W wi:Int}:usB c S W wi=true↔(0<=S/\S<=W)/\W<=c/\0<=wi/\wi<=1000:=by
 simp only [usB,HE,y6,bt_iff,and_assoc]
theorem Xu1{c:Nat}{T U O:Int}{n:Nat}{a b u v:Nat->Int}{h:Nat->Int}(hl:0<=U)(k:Tr c T U O n a b u v h){x:Nat}(hx:x<=c):0<=h x/\h x<=T:=by
 obtain ⟨h0,h1,h2,_⟩:=k;have up: ∀y,y<=c->0<=h y:=by
  intro y
  induction y with
  |zero=>intro _;omega
  |succ y ih=>
   intro hy;have:=h2 y VO;have:=ih VO;omega
 have dn: ∀d,d<=c->h (c-d)<=T:=by
  intro d
  induction d with
  |zero=>intro _;rw [Nat.sub_zero,h1];exact Int.le_refl _
  |succ d ih=>
   intro hd;have:=h2 (c-(d+1)) VO;rw [show c-(d+1)+1=c-d by omega] at this
   have:=ih VO;omega
 refine ⟨up x hx,?_⟩;have:=dn (c-x) VO;rw [show c-(c-x)=x by omega] at this
 exact this
theorem Xv9{c T U O:Int}{n:Nat}{a b u v:Nat->Int}(h:eB c T U O n a b u v=0){k:Nat}(hk:(k:Int)<=c):0<= -(fwB c T U O n a b u v k 0)/\ -(fwB c T U O n a b u v k 0)<=fwB c T U O n a b u v 0 k/\fwB c T U O n a b u v 0 k<=T:=by
 obtain ⟨h1,_,h3⟩:=d8.1 h;have hf:=yP.1 h1;have hb:=BU hf.1;have hr:=Xh9 hb.1 hf.2.2;have tl:=Zz4 hb.2.1 hr h3;have th:=Zz5 hb.2.1 hr h3;have g1:=Xu1 VO tl (x:=k) VO;have g2:=Xu1 VO th (x:=k) VO;have g3:=Zz6 hb.2.1 hr tl (x:=k) VO;unfold fwB;omega
theorem nX{c T U O:Int}{m:Nat}{p q:Nat->Int}{pl ph dl dh:Int}:vaB c T U O m p q pl ph dl dh=true↔Pt.blE m p q pl ph=0/\qL c T U O=true/\0<=dl/\dl<=dh/\dh<=100:=by
 simp only [vaB,HE,y6,insB_iff,and_assoc]
theorem Wc9{m:Nat}{p q:Nat->Int}{pl ph:Int}(h:Pt.blE m p q pl ph=0):(1<=Pt.boilI m p q pl/\Pt.boilI m p q pl<=2000)/\(1<=Pt.boilI m p q ph/\Pt.boilI m p q ph<=2000)/\Pt.boilI m p q pl<=Pt.boilI m p q ph/\Pt.blLo m p q pl ph=Pt.boilI m p q pl/\Pt.blHi m p q pl ph=Pt.boilI m p q ph:=by
 obtain ⟨h1,h2,h3,h4,h5,h6⟩:=Pt.blE_ok h;have a1:=Pt.boil_spec (x:=pl) h1 h3 VO;have a2:=Pt.boil_spec (x:=ph) h1 h3 VO;have a3:=Pt.boil_mono h1 h3 h4 h5 h6;exact ⟨VO,VO,a3,if_pos h,if_pos h⟩
theorem Qc4{x y X Y:Int}(hx:0<=x/\x<=X)(hy:0<=y/\y<=Y):0<=x*y/\x*y<=X*Y:=by
 have h1:=Int.mul_nonneg hx.1 hy.1;have h2:=Int.mul_le_mul hx.2 hy.2 hy.1 (show 0<=X by omega)
 omega
theorem Zf5(c T U O:Int)(n:Nat)(a b u v:Nat->Int)(m:Nat)(p q:Nat->Int)(pl ph dl dh S W wi:Int):U2 VT 125 [.agg [i c,i T,i U,i O,rds n a b u v,Pt.scs m p q,i pl,i ph,i dl,i dh],.agg [i S,i W,i wi]] (bl (usB c S W wi)):=by
 refine U6 (L:=[]) (Ae RN Aa) U3 Tryz.func125 (UY Tryz.f125) U8 (t:=branch (bt (0:Int) S W) (branch (decide (W<=c)) (leaf (RV.x (.bool (bt (0:Int) wi (1000:Int))))) (leaf (RV.x (Y1)))) (leaf (RV.x (Y1)))) VY ?_;simp only [VR.sat,UF,GA,GR,UI,UL];all_goals (simp+contextual [usB,Bool.and_assoc]);all_goals omega
def Xx0:G0
 |[.agg [.x (.int .i64 c),.x (.int .i64 T),.x (.int .i64 U),.x (.int .i64 O),.lst 4 n fr,.lst 2 m ft,.x (.int .i64 pl),.x (.int .i64 ph),.x (.int .i64 dl),.x (.int .i64 dh)],.agg [.x (.int .i64 S),.x (.int .i64 W),.x (.int .i64 wi)]]=>some ([UJ 4 n fr,UJ 2 m ft],bl (usB c S W wi))
 |_=>none
theorem Zf4:VU VT 125 Xx0:=by
 refine ⟨(UM Tryz.func125),?_⟩;intro avs ns res h I;unfold Xx0 at h;split at h
 ·cases h;have hr:UJ 4 _ _:=I _ GK;have ht:UJ 2 _ _:=I _ (HX _ GK);exact (Zf5 _ _ _ _ _ _ _ _ _ _ _ _ _ _ _ _ _ _ _).same (.cons (P3.same (.cons (.refl _) (.cons (.refl _) (.cons (.refl _) (.cons (.refl _) (.cons (.lst 4 _ _ _ hr) (.cons (.lst 2 _ _ _ ht) (.cons (.refl _) (.cons (.refl _) (.cons (.refl _) (.cons (.refl _) .nil))))))))))) (.cons (.refl _) .nil))
 ·cases h
theorem Wb5(c T U O:Int)(n:Nat)(a b u v:Nat->Int)(m:Nat)(p q:Nat->Int)(pl ph dl dh:Int)(VW:m<=100000):U2 VT 133 [.agg [i c,i T,i U,i O,rds n a b u v,Pt.scs m p q,i pl,i ph,i dl,i dh]] (.tup [.agg [i (Pt.blLo m p q pl ph),i (Pt.blHi m p q pl ph)],bl (vaB c T U O m p q pl ph dl dh)]):=by
 refine GF (L:=[]) (Ae Pt.Boils_ok (Ae Bo.CheckTube_ok (Ae B4 Aa))) Ad U3 Tryz.func133 (UY Tryz.f133) G9 (t:=let z0:=(leaf (RV.tup [RV.agg [RV.x (.int .i64 (Pt.blLo m p q pl ph)),RV.x (.int .i64 (Pt.blHi m p q pl ph))],RV.x (Y1)]));(need [UJ 2 m λk=>[Pt.i (p k),Pt.i (q k)],m<=100000] (branch (Pt.blE m p q pl ph==0) (branch ((if qL c T U O=true then (0:Int) else (1:Int))==0) (leaf (RV.tup [RV.agg [RV.x (.int .i64 (Pt.blLo m p q pl ph)),RV.x (.int .i64 (Pt.blHi m p q pl ph))],RV.x (.bool (insB (0:Int) dl dh (100:Int)))])) z0) z0))) VY ?_
 simp only [VR.sat,UF,GA,GR,UI,UL,beq_iff_eq,beq_eq_false_iff_ne];refine ⟨⟨Pt.isRec2 m p q,VW⟩,λh1=>⟨λh2=>?_,λh2=>?_⟩,λh1=>?_⟩
 ·cases ht:qL c T U O
  ·rw [ht] at h2;simp at h2
  ·simp [vaB,h1,ht]
 ·cases ht:qL c T U O
  ·simp [vaB,ht]
  ·rw [ht] at h2;simp at h2
 ·simp [vaB,h1]
def bM:G0
 |[.agg [.x (.int .i64 c),.x (.int .i64 T),.x (.int .i64 U),.x (.int .i64 O),.lst 4 n fr,.lst 2 m ft,.x (.int .i64 pl),.x (.int .i64 ph),.x (.int .i64 dl),.x (.int .i64 dh)]]=>some ([UJ 4 n fr,UJ 2 m ft,m<=100000],.tup [.agg [i (Pt.blLo m (Pt.col 0 ft) (Pt.col 1 ft) pl ph),i (Pt.blHi m (Pt.col 0 ft) (Pt.col 1 ft) pl ph)],bl (vaB c T U O m (Pt.col 0 ft) (Pt.col 1 ft) pl ph dl dh)])
 |_=>none
theorem cL:VU VT 133 bM:=by
 refine ⟨(UM Tryz.func133),?_⟩;intro avs ns res h I;unfold bM at h;split at h
 ·cases h;have hr:UJ 4 _ _:=I _ GK;have ht:UJ 2 _ _:=I _ (HX _ GK);exact (Wb5 _ _ _ _ _ _ _ _ _ _ _ _ _ _ _ _ (I _ VZ)).same (.cons (P3.same (.cons (.refl _) (.cons (.refl _) (.cons (.refl _) (.cons (.refl _) (.cons (.lst 4 _ _ _ hr) (.cons (.lst 2 _ _ _ ht) (.cons (.refl _) (.cons (.refl _) (.cons (.refl _) (.cons (.refl _) .nil))))))))))) .nil)
 ·cases h
section
variable {pl ph dl dh:Int}{L H:Nat->Int}
theorem Xf8{k j:Nat}:jV (4+2*k) [L k,H k] (wkF pl ph dl dh L H k) j=wkF pl ph dl dh L H (k+1) j:=by
 simp only [jV,UV];unfold wkF;by_cases h1:j=4+2*k+1
 ·rw [if_pos h1,if_neg VO,if_neg VO,if_neg VO,if_neg VO,if_pos VO,if_neg VO,show (j-4) / 2=k by omega]
 ·rw [if_neg h1];by_cases h2:j=4+2*k
  ·rw [if_pos h2,if_neg VO,if_neg VO,if_neg VO,if_neg VO,if_pos VO,if_pos VO,show (j-4) / 2=k by omega]
  ·rw [if_neg h2];by_cases h3:j<4+2*k
   ·rw [if_pos h3,if_pos (show j<4+2*(k+1) by omega)]
   ·rw [if_neg h3,if_neg (show ¬j<4+2*(k+1) by omega)]
theorem Xf7{j:Nat}(hj:j<26):UD ([pl,ph,dl,dh]++cC 22) j=wkF pl ph dl dh L H 0 j:=by
 rcases (show j=0\/j=1\/j=2\/j=3\/j=4\/j=5\/j=6\/j=7\/j=8\/j=9\/j=10\/j=11\/j=12\/j=13\/j=14\/j=15\/j=16\/j=17\/j=18\/j=19\/j=20\/j=21\/j=22\/j=23\/j=24\/j=25 by omega) with rfl|rfl|rfl|rfl|rfl|rfl|rfl|rfl|rfl|rfl|rfl|rfl|rfl|rfl|rfl|rfl|rfl|rfl|rfl|rfl|rfl|rfl|rfl|rfl|rfl|rfl<;>rfl
end
abbrev QR(n:Nat)(a:Nat->Int)(b:Nat->Int)(u:Nat->Int)(v:Nat->Int):AV:=lst 4 n λk=>[iI (a k),iI (b k),iI (u k),iI (v k)]
abbrev QX(c:Int)(T:Int)(U:Int)(O:Int)(n:Nat)(a:Nat->Int)(b:Nat->Int)(u:Nat->Int)(v:Nat->Int):AV:=lst 2 (A9 c T U O n a b u v) λk=>[iI (-fwB c T U O n a b u v k 0),iI (fwB c T U O n a b u v 0 k)]
abbrev QZ(m:Nat)(p:Nat->Int)(q:Nat->Int):AV:=lst 2 m λk=>[iI (p k),iI (q k)]
abbrev Z4:AV:=AV.x (.pointer none)
section
variable (c T U O:Int)(n:Nat)(a b u v:Nat->Int)(m:Nat)(p q:Nat->Int)(pl ph dl dh:Int)
def Zs8:St:={σ:=[agg [iI c,iI T,iI U,iI O,QR n a b u v,QZ m p q,iI pl,iI ph,iI dl,iI dh],ptr 0 0,Z4,iI 0,ptr 18 0,AV.x (.bool (vaB c T U O m p q pl ph dl dh)),QX c T U O n a b u v,iI (eB c T U O n a b u v),ptr 45 0]++HO 43 [QX c T U O n a b u v,iI (↑(A9 c T U O n a b u v):Int)]++HO 31 [],m:=[(45,GU.ints 252 [iI c,iI T,iI U,iI O,QR n a b u v,QZ m p q] 26 λa=>UD ([pl,ph,dl,dh]++cC 22) a),(18,GU.cells 27 [iI (Pt.blLo m p q pl ph),iI (Pt.blHi m p q pl ph)]),(0,GU.cells 126 [iI c,iI T,iI U,iI O,QR n a b u v,QZ m p q,iI pl,iI ph,iI dl,iI dh])],nx:=50}
noncomputable def Js2:Code:=UE (VX (UB Tryz.f101) 0)
def Wl0(k:Nat):St:=(upE [(54,i k)] [(45,.ints 252 [i c,i T,i U,i O,rds n a b u v,Pt.scs m p q] 26 (wkF pl ph dl dh (bdL c T U O n a b u v m p q pl ph) (bdH c T U O n a b u v m p q pl ph) k)),(18,.cells 27 [i (Pt.boilI m p q pl),i (Pt.boilI m p q ph)]),(0,.cells 126 [i c,i T,i U,i O,rds n a b u v,Pt.scs m p q,i pl,i ph,i dl,i dh])] (Zs8 c T U O n a b u v m p q pl ph dl dh))
def TN(k:Nat):GB->Option St
 | .exit 1=>some (upE [(54,i ((c.toNat+1:Nat):Int))] [(45,.ints 252 [i c,i T,i U,i O,rds n a b u v,Pt.scs m p q] 26 (wkF pl ph dl dh (bdL c T U O n a b u v m p q pl ph) (bdH c T U O n a b u v m p q pl ph) (c.toNat+1))),(18,.cells 27 [i (Pt.boilI m p q pl),i (Pt.boilI m p q ph)]),(0,.cells 126 [i c,i T,i U,i O,rds n a b u v,Pt.scs m p q,i pl,i ph,i dl,i dh])] (Zs8 c T U O n a b u v m p q pl ph dl dh))
 |_=>none
def Jn5:CT:= .leaf (.exit 1,(TN c T U O n a b u v m p q pl ph dl dh 0 (.exit 1)).getD (Zs8 c T U O n a b u v m p q pl ph dl dh))
def Xy6:UN:=GO [] (HM (Wl0 c T U O n a b u v m p q pl ph dl dh (0)) (Jn5 c T U O n a b u v m p q pl ph dl dh))
end
abbrev X5(c:Int)(T:Int)(U:Int)(O:Int)(n:Nat)(a:Nat->Int)(b:Nat->Int)(u:Nat->Int)(v:Nat->Int)(m:Nat)(p:Nat->Int)(q:Nat->Int)(pl:Int)(ph:Int)(dl:Int)(dh:Int):Prop:=agg [iI c,iI T,iI U,iI O,QR n a b u v,QZ m p q,iI pl,iI ph,iI dl,iI dh]=agg [iI c,iI T,iI U,iI O,QR n a b u v,QZ m p q,iI pl,iI ph,iI dl,iI dh]
abbrev K9:Prop:=(0:Int)=0
abbrev KU:List (Nat×G0):=[(133,bM),(134,Bo.S_Heights),(135,tP),(136,Zr0)]
abbrev Y5:Prop:=ptr 18 0=ptr 18 0
abbrev YS(n:Nat)(a:Nat->Int)(b:Nat->Int)(u:Nat->Int)(v:Nat->Int):Prop:=(QR n a b u v)=QR n a b u v
abbrev YX(m:Nat)(p:Nat->Int)(q:Nat->Int):Prop:=(QZ m p q)=QZ m p q
abbrev V0(c:Int)(T:Int)(U:Int)(O:Int)(n:Nat)(a:Nat->Int)(b:Nat->Int)(u:Nat->Int)(v:Nat->Int):Prop:=(QX c T U O n a b u v)=QX c T U O n a b u v
section
variable (c T U O:Int)(n:Nat)(a b u v:Nat->Int)(m:Nat)(p q:Nat->Int)(pl ph dl dh:Int)
theorem Jc4(VW:n<=12)(UK:m<=8)(HY:vaB c T U O m p q pl ph dl dh=true)(F8:eB c T U O n a b u v=0):GC VT (.loop Js2) (Xy6 c T U O n a b u v m p q pl ph dl dh):=by
 refine G7 [] (L:=[]) (Ae cL (Ae Bo.Heights_ok (Ae b8 (Ae Wc0 Aa)))) Ad U3 U8 (X:=Nat) (Wl0 c T U O n a b u v m p q pl ph dl dh) (λk=>k<=c.toNat+1) (λk=>c.toNat+1-k) (TN c T U O n a b u v m p q pl ph dl dh) (x0:=0) VZ ?_ ?_ ?_
 ·rintro k;kernel_rfl
 ·rintro k y E h;unfold TN at h;split at h
  ·cases h;kernel_rfl
  ·cases h
 ·rintro Q hQ k hx;refine ⟨(k+1),?_⟩;(with_reducible refine DN (t:=let z0:=(bdL c T U O n a b u v m p q pl ph);let z1:=(bdH c T U O n a b u v m p q pl ph);let z5:=fwB c T U O n a b u v;let z2:=z5 k;let z3:=Pt.boilI m p q pl;let z4:=Pt.boilI m p q ph;let z6:=(A9 c T U O n a b u v);let z7:=V0 c T U O n a b u v;(branch (decide ((k:Int)<(z6:Int))) (need [UO k z6] (need [VQ (-z2 0*z3)] (need [(1:Int)<=T/\T<=100000,(0:Int)<= -z2 0*z3/\ -z2 0*z3<=1000000000000] (need [VQ (z5 0 k*z4)] (need [(1:Int)<=T/\T<=100000,(0:Int)<=z5 0 k*z4/\z5 0 k*z4<=1000000000000] (need [UO k 11] (need [k*2+10-1-1-1-1-1-1+List.length [dnI (-z2 0*z3) T,upI (z5 0 k*z4) T]<=26] (need [VQ ((k:Int)+1)] (need [X5 c T U O n a b u v m p q pl ph dl dh,KM,Z4=Z4,K9,Y5,U4 (vaB c T U O m p q pl ph dl dh),z7,U4 (eB c T U O n a b u v),U4 (ptr 45 0),z7,U4 (z6:Int),(k:Int)+1=(↑(k+1):Int),c=c,T=T,U=U,O=O,YS n a b u v,YX m p q,26=26,H2 26 (UV (k*2+10-1-1-1-1-1-1+1) (upI (z5 0 k*z4) T) (UV (k*2+10-1-1-1-1-1-1) (dnI (-z2 0*z3) T) (wkF pl ph dl dh z0 z1 k))) (wkF pl ph dl dh z0 z1 (k+1)),U4 (z3),U4 (z4),c=c,T=T,U=U,O=O,YS n a b u v,YX m p q,pl=pl,ph=ph,dl=dl,dh=dh] (leaf GB.normal)))))))))) (need [X5 c T U O n a b u v m p q pl ph dl dh,KM,Z4=Z4,K9,Y5,U4 (vaB c T U O m p q pl ph dl dh),z7,U4 (eB c T U O n a b u v),U4 (ptr 45 0),z7,U4 (z6:Int),(k:Int)=(↑(Int.toNat c+1):Int),c=c,T=T,U=U,O=O,YS n a b u v,YX m p q,26=26,H2 26 (wkF pl ph dl dh z0 z1 k) (wkF pl ph dl dh z0 z1 (Int.toNat c+1)),U4 (z3),U4 (z4),c=c,T=T,U=U,O=O,YS n a b u v,YX m p q,pl=pl,ph=ph,dl=dl,dh=dh] (leaf (GB.exit 1))))) VY ?_);simp only [Jn5,TN,VR.sat,GZ] at hQ;have hv:=nX.1 HY;have hb:=BU hv.2.1;have hs:=Wc9 hv.1;have hl:A9 c T U O n a b u v=c.toNat+1:=if_pos F8;simp only [VR.sat,UF,GA,GR,UI,VQ,UL,HD,DR,L9,hl]
  refine ⟨λh=>?_,λh=>?_⟩
  ·have hk:=Xv9 F8 (k:=k) VO;have m1:=Qc4 (x:= -(fwB c T U O n a b u v k 0)) (y:=Pt.boilI m p q pl) (X:=2000) (Y:=2000) VO VO;have m2:=Qc4 (x:=fwB c T U O n a b u v 0 k) (y:=Pt.boilI m p q ph) (X:=2000) (Y:=2000) VO VO;have e6:k*2+10-1-1-1-1-1-1=4+2*k:=VO;rw [e6]
   (with_reducible repeat' first|apply Al|intro _)
   all_goals first|exact Ak|omega|with_reducible rfl|exact Xf8
  ·obtain rfl:k=c.toNat+1:=VO
   (with_reducible repeat' first|apply Al|intro _)
   all_goals first|exact Ak|omega|with_reducible rfl|(rename_i E hE;cases hE;exact hQ)
theorem TI:US VT 101 [.agg [i c,i T,i U,i O,rds n a b u v,Pt.scs m p q,i pl,i ph,i dl,i dh]] (.branch (decide (rdE c T U O n a b u v m p q pl ph dl dh=0)) (.leaf (.tup [.roI [i c,i T,i U,i O,rds n a b u v,Pt.scs m p q] 26 (wkA c T U O n a b u v m p q pl ph dl dh) 0,i 0])) (.leaf (.tup [.x (.pointer none),i (rdE c T U O n a b u v m p q pl ph dl dh)]))):=by
 refine GX (L:=[FV [n<=12,m<=8,vaB c T U O m p q pl ph dl dh=true,eB c T U O n a b u v=0] (Xy6 c T U O n a b u v m p q pl ph dl dh)]) (Ae cL (Ae Bo.Heights_ok (Ae b8 (Ae Wc0 Aa)))) Ad U3 Tryz.func101 (UY Tryz.f101) (G4 (lpE (b:= .loop Js2) VY<|(D9 (ps:=[n<=12,m<=8,vaB c T U O m p q pl ph dl dh=true,eB c T U O n a b u v=0]) (λh=>Jc4 c T U O n a b u v m p q pl ph dl dh h.1 h.2.1 h.2.2.1 h.2.2.2)).N)) (t:=let z0:=(leaf (tup [roI [iI c,iI T,iI U,iI O,QR n a b u v,QZ m p q] 26 (λj=>wkF pl ph dl dh (bdL c T U O n a b u v m p q pl ph) (bdH c T U O n a b u v m p q pl ph) (Int.toNat c+1) j) 0,iI 0]));let z1:=eB c T U O n a b u v;let z2:=vaB c T U O m p q pl ph dl dh;let z3:=V0 c T U O n a b u v;(branch (decide ((n:Int)>12)) (leaf (tup [Z4,iI 3])) (branch (decide ((m:Int)>8)) (leaf (tup [Z4,iI 3])) (need [UJ 4 n λk=>[Bo.i (a k),Bo.i (b k),Bo.i (u k),Bo.i (v k)],UJ 2 m λk=>[Pt.i (p k),Pt.i (q k)],m<=100000] (need [UJ 4 n λk=>[Bo.i (a k),Bo.i (b k),Bo.i (u k),Bo.i (v k)]] (branch (!z2) (leaf (tup [Z4,iI 1])) (branch (z1 != 0) (branch (z1 != 9) (leaf (tup [Z4,iI 1])) (branch (z1 != 0) (leaf (tup [Z4,iI (z1)])) (need [n<=12,m<=8,z2=true,z1=0] (need [X5 c T U O n a b u v m p q pl ph dl dh,KM,Z4=Z4,K9,Y5,U4 (z2),z3,U4 (z1),ptr 47 0=ptr 45 0,z3,U4 (↑(A9 c T U O n a b u v):Int),(0:Int)=(↑(0:Nat):Int),False,Pt.blLo m p q pl ph=Pt.boilI m p q pl,Pt.blHi m p q pl ph=Pt.boilI m p q ph,c=c,T=T,U=U,O=O,YS n a b u v,YX m p q,pl=pl,ph=ph,dl=dl,dh=dh] z0)))) (branch (z1 != 0) (leaf (tup [Z4,iI (z1)])) (need [n<=12,m<=8,z2=true,z1=0] (need [X5 c T U O n a b u v m p q pl ph dl dh,KM,Z4=Z4,K9,Y5,U4 (z2),z3,U4 (z1),U4 (ptr 45 0),z3,U4 (↑(A9 c T U O n a b u v):Int),(0:Int)=(↑(0:Nat):Int),c=c,T=T,U=U,O=O,YS n a b u v,YX m p q,List.length ([pl,ph,dl,dh]++cC 22)=26,H2 26 (UD ([pl,ph,dl,dh]++cC 22)) (wkF pl ph dl dh (bdL c T U O n a b u v m p q pl ph) (bdH c T U O n a b u v m p q pl ph) 0),Pt.blLo m p q pl ph=Pt.boilI m p q pl,Pt.blHi m p q pl ph=Pt.boilI m p q ph,c=c,T=T,U=U,O=O,YS n a b u v,YX m p q,pl=pl,ph=ph,dl=dl,dh=dh] z0)))))))))) VY ?_
 intro Q hQ;have e3:(n>12\/m>8)->rdE c T U O n a b u v m p q pl ph dl dh=3:=λh=>if_pos h
 have e1: ¬(n>12\/m>8)-> ¬(vaB c T U O m p q pl ph dl dh=true/\(eB c T U O n a b u v=0\/eB c T U O n a b u v=9))->rdE c T U O n a b u v m p q pl ph dl dh=1:=λh h'=>by
  unfold rdE;rw [if_neg h,if_neg h']
 have e0: ¬(n>12\/m>8)->vaB c T U O m p q pl ph dl dh=true->(eB c T U O n a b u v=0\/eB c T U O n a b u v=9)->rdE c T U O n a b u v m p q pl ph dl dh=eB c T U O n a b u v:=λh h' h''=>by
  unfold rdE;rw [if_neg h,if_pos ⟨h',h''⟩]
 simp only [VR.sat,UF,UL,HD,RG,Ax,Bool.not_eq_false'] at hQ ⊢;have bad: ∀k:Int,k≠0->rdE c T U O n a b u v m p q pl ph dl dh=k-> ∃r',FL (.tup [.x (.pointer none),i k]) r'/\Q r':=λk hk he=>by
  rw [he] at hQ;exact ⟨.tup [.x (.pointer none),i k],⟨rfl,⟨rfl,rfl⟩,Ak⟩,hQ.2 hk⟩
 refine ⟨λh1=>bad 3 VO (e3 VO),λh1=>⟨λh2=>bad 3 VO (e3 VO),λh2=>⟨⟨Bo.isRec4 n a b u v,Pt.isRec2 m p q,VO⟩,Bo.isRec4 n a b u v,λh3=>bad 1 VO (e1 VO (by rw [h3];simp)),λh3=>⟨λh4=>⟨λh5=>bad 1 VO (e1 VO VO),λh5=>⟨λh6=>bad _ h4 (e0 VO h3 (.inr h5)),λh6=>absurd h6 h4⟩⟩,λh4=>⟨λh5=>absurd h4 h5,λ_=>?_⟩⟩⟩⟩⟩
 have hv:=nX.1 h3;have hs:=Wc9 hv.1;refine ⟨⟨VO,VO,h3,h4⟩,⟨rfl,rfl,λj hj=>Xf7 hj,hs.2.2.2.1,hs.2.2.2.2⟩,.tup [.roI [i c,i T,i U,i O,rds n a b u v,Pt.scs m p q] 26 (wkA c T U O n a b u v m p q pl ph dl dh) 0,i 0],⟨⟨rfl,rfl,λ_ _=>rfl,rfl⟩,⟨rfl,rfl⟩,Ak⟩,hQ.1 ((e0 VO h3 (.inl h4)).trans h4)⟩
end
def rC:DM:=λl=>match l with
 |[.agg [.x (.int .i64 c),.x (.int .i64 T),.x (.int .i64 U),.x (.int .i64 O),.lst 4 n fr,.lst 2 m ft,.x (.int .i64 pl),.x (.int .i64 ph),.x (.int .i64 dl),.x (.int .i64 dh)]]=>some (.need [UJ 4 n fr,UJ 2 m ft] (.branch (decide (rdE c T U O n (col 0 fr) (col 1 fr) (col 2 fr) (col 3 fr) m (Pt.col 0 ft) (Pt.col 1 ft) pl ph dl dh=0)) (.leaf (.tup [.roI [i c,i T,i U,i O,rds n (col 0 fr) (col 1 fr) (col 2 fr) (col 3 fr),Pt.scs m (Pt.col 0 ft) (Pt.col 1 ft)] 26 (wkA c T U O n (col 0 fr) (col 1 fr) (col 2 fr) (col 3 fr) m (Pt.col 0 ft) (Pt.col 1 ft) pl ph dl dh) 0,i 0])) (.leaf (.tup [.x (.pointer none),i (rdE c T U O n (col 0 fr) (col 1 fr) (col 2 fr) (col 3 fr) m (Pt.col 0 ft) (Pt.col 1 ft) pl ph dl dh)]))))
 |_=>none
theorem xQ:Sx.Enters Tryz.prog 101/\ ∀avs t,rC avs=some t->US VT 101 avs t:=by
 refine ⟨(UM Tryz.func101),?_⟩;intro avs t h;unfold rC at h;split at h
 ·cases h;intro Q hQ;have hr:UJ 4 _ _:=GH hQ.1 _ GK;have ht:UJ 2 _ _:=GH hQ.1 _ (HX _ GK);exact US.same (TI _ _ _ _ _ _ _ _ _ _ _ _ _ _ _ _) (.cons (P3.same (.cons (.refl _) (.cons (.refl _) (.cons (.refl _) (.cons (.refl _) (.cons (.lst 4 _ _ _ hr) (.cons (.lst 2 _ _ _ ht) (.cons (.refl _) (.cons (.refl _) (.cons (.refl _) (.cons (.refl _) .nil))))))))))) .nil) Q hQ.2
 ·cases h
section
variable (c T U O:Int)(n:Nat)(a b u v:Nat->Int)(m:Nat)(p q:Nat->Int)(pl ph dl dh:Int)
def asE(S W wi Z:Int):Int:=if rdE c T U O n a b u v m p q pl ph dl dh=0 then (if usB c S W wi&&bt 0 Z 10000 then 0 else 2) else rdE c T U O n a b u v m p q pl ph dl dh
def hdE(Z:Int):Int:=if rdE c T U O n a b u v m p q pl ph dl dh=0 then (if bt 0 Z 10000 then 0 else 2) else rdE c T U O n a b u v m p q pl ph dl dh
end
theorem Jd3{c T U O:Int}{n:Nat}{a b u v:Nat->Int}{m:Nat}{p q:Nat->Int}{pl ph dl dh:Int}(h:rdE c T U O n a b u v m p q pl ph dl dh=0):n<=12/\m<=8/\vaB c T U O m p q pl ph dl dh=true/\eB c T U O n a b u v=0:=by
 unfold rdE at h;split at h
 ·cases h
 ·rename_i h1;split at h
  ·rename_i h2;exact ⟨VO,VO,h2.1,h⟩
  ·cases h
section
variable {pl ph dl dh:Int}{L H:Nat->Int}{k j:Nat}
theorem wk_L(h:j<k):wkF pl ph dl dh L H k (4+2*j)=L j:=by
 unfold wkF;rw [if_neg VO,if_neg VO,if_neg VO,if_neg VO,if_pos VO,if_pos VO,show (4+2*j-4) / 2=j by omega]
theorem wk_H(h:j<k):wkF pl ph dl dh L H k (5+2*j)=H j:=by
 unfold wkF;rw [if_neg VO,if_neg VO,if_neg VO,if_neg VO,if_pos VO,if_neg VO,show (5+2*j-4) / 2=j by omega]
end
theorem cI{c T U O:Int}{n:Nat}{a b u v:Nat->Int}{m:Nat}{p q:Nat->Int}{pl ph dl dh:Int}(h:rdE c T U O n a b u v m p q pl ph dl dh=0):drB (wkA c T U O n a b u v m p q pl ph dl dh)/\bdB (wkA c T U O n a b u v m p q pl ph dl dh)/\(1<=c/\c<=10)/\ ∀k:Nat,(k:Int)<=c->0<=bdL c T U O n a b u v m p q pl ph k/\bdL c T U O n a b u v m p q pl ph k<=4000000/\0<=bdH c T U O n a b u v m p q pl ph k/\bdH c T U O n a b u v m p q pl ph k<=4000000:=by
 obtain ⟨h1,h2,h3,h4⟩:=Jd3 h;have hv:=nX.1 h3;have hb:=BU hv.2.1;have hs:=Wc9 hv.1;have key: ∀k:Nat,(k:Int)<=c->0<=bdL c T U O n a b u v m p q pl ph k/\bdL c T U O n a b u v m p q pl ph k<=4000000/\0<=bdH c T U O n a b u v m p q pl ph k/\bdH c T U O n a b u v m p q pl ph k<=4000000:=by
  intro k hk;have hk:=Xv9 h4 hk;have m1:=Qc4 (x:= -(fwB c T U O n a b u v k 0)) (y:=Pt.boilI m p q pl) (X:=2000) (Y:=2000) VO VO;have m2:=Qc4 (x:=fwB c T U O n a b u v 0 k) (y:=Pt.boilI m p q ph) (X:=2000) (Y:=2000) VO VO;have d1:=dA m1.1 (show 1<=T by omega)
  have d2:=T6 m2.1 (show 1<=T by omega)
  unfold bdL bdH;omega
 refine ⟨⟨?_,?_⟩,λj hj=>?_,hb.1,key⟩
 ·show 0<=dl/\dl<=100;omega
 ·show 0<=dh/\dh<=100;omega
 ·by_cases hk:j / 2<c.toNat+1
  ·have:=key (j / 2) VO;rcases Nat.mod_two_eq_zero_or_one j with h0|h0
   ·have e:wkA c T U O n a b u v m p q pl ph dl dh (4+j)=bdL c T U O n a b u v m p q pl ph (j / 2):=by
     have:=wk_L (pl:=pl) (ph:=ph) (dl:=dl) (dh:=dh) (L:=bdL c T U O n a b u v m p q pl ph) (H:=bdH c T U O n a b u v m p q pl ph) hk;rw [show 4+2*(j / 2)=4+j by omega] at this
     exact this
    rw [e];omega
   ·have e:wkA c T U O n a b u v m p q pl ph dl dh (4+j)=bdH c T U O n a b u v m p q pl ph (j / 2):=by
     have:=wk_H (pl:=pl) (ph:=ph) (dl:=dl) (dh:=dh) (L:=bdL c T U O n a b u v m p q pl ph) (H:=bdH c T U O n a b u v m p q pl ph) hk;rw [show 5+2*(j / 2)=4+j by omega] at this
     exact this
    rw [e];omega
  ·have e:wkA c T U O n a b u v m p q pl ph dl dh (4+j)=0:=by
    unfold wkA wkF;rw [if_neg VO,if_neg VO,if_neg VO,if_neg VO,if_neg VO]
   rw [e];omega
abbrev KQ:Value:=Value.int IntKind.i64 (0:Int)
theorem uR(c T U O:Int)(n:Nat)(a b u v:Nat->Int)(m:Nat)(p q:Nat->Int)(pl ph dl dh:Int):U2 VT 184 [.agg [i c,i T,i U,i O,rds n a b u v,Pt.scs m p q,i pl,i ph,i dl,i dh]] (i (rdE c T U O n a b u v m p q pl ph dl dh)):=by
 refine GF (L:=[]) Aa (Aj Ab Ac (Ah xQ (UG.nil _))) U3 Tryz.func184 (UY Tryz.f184) G9 (t:=need [UJ 4 n λk=>[Bo.i (a k),Bo.i (b k),Bo.i (u k),Bo.i (v k)],UJ 2 m λk=>[Pt.i (p k),Pt.i (q k)]] (branch (decide (rdE c T U O n a b u v m p q pl ph dl dh=0)) (leaf (RV.x (KQ))) (leaf (RV.x (.int .i64 (rdE c T U O n a b u v m p q pl ph dl dh)))))) VY ?_
 simp only [VR.sat,UF,GA,GR,UI,UL,HD,RG,beq_iff_eq,beq_eq_false_iff_ne,Ax,Bool.not_eq_false',not_true_eq_false,false_imp_iff,true_imp_iff];exact ⟨⟨Bo.isRec4 n a b u v,Pt.isRec2 m p q⟩,λh=>h.symm,λ_=>trivial⟩
def F1:G0
 |[.agg [.x (.int .i64 c),.x (.int .i64 T),.x (.int .i64 U),.x (.int .i64 O),.lst 4 n fr,.lst 2 m ft,.x (.int .i64 pl),.x (.int .i64 ph),.x (.int .i64 dl),.x (.int .i64 dh)]]=>some ([UJ 4 n fr,UJ 2 m ft],i (rdE c T U O n (col 0 fr) (col 1 fr) (col 2 fr) (col 3 fr) m (Pt.col 0 ft) (Pt.col 1 ft) pl ph dl dh))
 |_=>none
theorem wA:VU VT 184 F1:=by
 refine ⟨(UM Tryz.func184),?_⟩;intro avs ns res h I;unfold F1 at h;split at h
 ·cases h;have hr:UJ 4 _ _:=I _ GK;have ht:UJ 2 _ _:=I _ (HX _ GK);exact (uR _ _ _ _ _ _ _ _ _ _ _ _ _ _ _ _).same (.cons (P3.same (.cons (.refl _) (.cons (.refl _) (.cons (.refl _) (.cons (.refl _) (.cons (.lst 4 _ _ _ hr) (.cons (.lst 2 _ _ _ ht) (.cons (.refl _) (.cons (.refl _) (.cons (.refl _) (.cons (.refl _) .nil))))))))))) .nil)
 ·cases h
abbrev ZE(c:Int)(T:Int)(U:Int)(O:Int)(n:Nat)(a:Nat->Int)(b:Nat->Int)(u:Nat->Int)(v:Nat->Int)(m:Nat)(p:Nat->Int)(q:Nat->Int)(pl:Int)(ph:Int)(dl:Int)(dh:Int):AV:=roI [iI c,iI T,iI U,iI O,QR n a b u v,QZ m p q] 26 (λa_1=>wkA c T U O n a b u v m p q pl ph dl dh a_1) 0
theorem Wy3(c T U O:Int)(n:Nat)(a b u v:Nat->Int)(m:Nat)(p q:Nat->Int)(pl ph dl dh:Int)(S W wi Z:Int):US VT 96 [.agg [i c,i T,i U,i O,rds n a b u v,Pt.scs m p q,i pl,i ph,i dl,i dh],.agg [i S,i W,i wi],i Z] (.branch (decide (asE c T U O n a b u v m p q pl ph dl dh S W wi Z=0)) (.leaf (.tup [.roI [i c,i T,i U,i O,rds n a b u v,Pt.scs m p q] 26 (wkA c T U O n a b u v m p q pl ph dl dh) 0,i 0])) (.leaf (.tup [.top,i (asE c T U O n a b u v m p q pl ph dl dh S W wi Z)]))):=by
 refine GX (L:=[]) (Ae Zf4 (Ae RN Aa)) (Aj Ab Ac (Ah xQ (UG.nil _))) U3 Tryz.func96 (UY Tryz.f96) G9 (t:=let z0:=rdE c T U O n a b u v m p q pl ph dl dh;let z1:=ZE c T U O n a b u v m p q pl ph dl dh;(need [UJ 4 n λk=>[Bo.i (a k),Bo.i (b k),Bo.i (u k),Bo.i (v k)],UJ 2 m λk=>[Pt.i (p k),Pt.i (q k)]] (branch (decide (z0=0)) (branch ((0:Int)==0) (need [UJ 4 n λk=>[Bo.i (a k),Bo.i (b k),Bo.i (u k),Bo.i (v k)],UJ 2 m λk=>[Pt.i (p k),Pt.i (q k)]] (branch (!usB c S W wi) (leaf (tup [z1,iI 2])) (branch (!bt (0:Int) Z (10000:Int)) (leaf (tup [z1,iI 2])) (leaf (tup [z1,iI 0]))))) (leaf (tup [z1,iI 0]))) (branch (z0==0) (need [UJ 4 n λk=>[Bo.i (a k),Bo.i (b k),Bo.i (u k),Bo.i (v k)],UJ 2 m λk=>[Pt.i (p k),Pt.i (q k)]] (branch (!usB c S W wi) (leaf (tup [Z4,iI 2])) (branch (!bt (0:Int) Z (10000:Int)) (leaf (tup [Z4,iI 2])) (leaf (tup [Z4,iI (z0)]))))) (leaf (tup [Z4,iI (z0)])))))) VY ?_
 intro Q hQ;simp only [VR.sat,UF,GA,GR,UI,UL,HD,RG,beq_iff_eq,beq_eq_false_iff_ne,Ax,Bool.not_eq_false',not_true_eq_false,false_imp_iff,true_imp_iff] at hQ ⊢;have hr:rdE c T U O n a b u v m p q pl ph dl dh≠0->asE c T U O n a b u v m p q pl ph dl dh S W wi Z=rdE c T U O n a b u v m p q pl ph dl dh:=λh=>if_neg h
 have h2:rdE c T U O n a b u v m p q pl ph dl dh=0->(usB c S W wi=false\/bt 0 Z 10000=false)->asE c T U O n a b u v m p q pl ph dl dh S W wi Z=2:=λh h'=>by
  unfold asE;rw [if_pos h,if_neg (by rcases h' with h'|h'<;>simp [h'])]
 have h0:rdE c T U O n a b u v m p q pl ph dl dh=0->usB c S W wi=true->bt 0 Z 10000=true->asE c T U O n a b u v m p q pl ph dl dh S W wi Z=0:=λh h' h''=>by
  unfold asE;rw [if_pos h,h',h''];rfl
 have bad: ∀(x:AV) (k:Int),asE c T U O n a b u v m p q pl ph dl dh S W wi Z=k->k≠0-> ∃r',FL (.tup [x,i k]) r'/\Q r':=λx k he hk=>by
  rw [he] at hQ;exact ⟨.tup [.top,i k],⟨by cases x<;>trivial,⟨rfl,rfl⟩,Ak⟩,hQ.2 hk⟩
 refine ⟨⟨Bo.isRec4 n a b u v,Pt.isRec2 m p q⟩,λh=>⟨⟨Bo.isRec4 n a b u v,Pt.isRec2 m p q⟩,λg=>bad _ 2 (h2 h (.inl g)) VO,λg=>⟨λg'=>bad _ 2 (h2 h (.inr g')) VO,λg'=>?_⟩⟩,λh=>⟨λh'=>absurd h' h,λ_=>?_⟩⟩
 ·exact ⟨.tup [.roI [i c,i T,i U,i O,rds n a b u v,Pt.scs m p q] 26 (wkA c T U O n a b u v m p q pl ph dl dh) 0,i 0],⟨⟨rfl,rfl,λ_ _=>rfl,rfl⟩,⟨rfl,rfl⟩,Ak⟩,hQ.1 (h0 h g g')⟩
 ·exact bad _ _ (hr h) h
def Qm4:DM:=λl=>match l with
 |[.agg [.x (.int .i64 c),.x (.int .i64 T),.x (.int .i64 U),.x (.int .i64 O),.lst 4 n fr,.lst 2 m ft,.x (.int .i64 pl),.x (.int .i64 ph),.x (.int .i64 dl),.x (.int .i64 dh)],.agg [.x (.int .i64 S),.x (.int .i64 W),.x (.int .i64 wi)],.x (.int .i64 Z)]=>some (.need [UJ 4 n fr,UJ 2 m ft] (.branch (decide (asE c T U O n (col 0 fr) (col 1 fr) (col 2 fr) (col 3 fr) m (Pt.col 0 ft) (Pt.col 1 ft) pl ph dl dh S W wi Z=0)) (.leaf (.tup [.roI [i c,i T,i U,i O,rds n (col 0 fr) (col 1 fr) (col 2 fr) (col 3 fr),Pt.scs m (Pt.col 0 ft) (Pt.col 1 ft)] 26 (wkA c T U O n (col 0 fr) (col 1 fr) (col 2 fr) (col 3 fr) m (Pt.col 0 ft) (Pt.col 1 ft) pl ph dl dh) 0,i 0])) (.leaf (.tup [.top,i (asE c T U O n (col 0 fr) (col 1 fr) (col 2 fr) (col 3 fr) m (Pt.col 0 ft) (Pt.col 1 ft) pl ph dl dh S W wi Z)]))))
 |_=>none
theorem Qw0:Sx.Enters Tryz.prog 96/\ ∀avs t,Qm4 avs=some t->US VT 96 avs t:=by
 refine ⟨(UM Tryz.func96),?_⟩;intro avs t h;unfold Qm4 at h;split at h
 ·cases h;intro Q hQ;have hr:UJ 4 _ _:=GH hQ.1 _ GK;have ht:UJ 2 _ _:=GH hQ.1 _ (HX _ GK);exact US.same (Wy3 _ _ _ _ _ _ _ _ _ _ _ _ _ _ _ _ _ _ _ _) (.cons (P3.same (.cons (.refl _) (.cons (.refl _) (.cons (.refl _) (.cons (.refl _) (.cons (.lst 4 _ _ _ hr) (.cons (.lst 2 _ _ _ ht) (.cons (.refl _) (.cons (.refl _) (.cons (.refl _) (.cons (.refl _) .nil))))))))))) (.cons (.refl _) (.cons (.refl _) .nil))) Q hQ.2
 ·cases h
def kpB(c T U O:Int)(n:Nat)(a b u v:Nat->Int)(m:Nat)(p q:Nat->Int)(pl ph dl dh:Int)(S W wi Z:Int):Bool:=decide (asE c T U O n a b u v m p q pl ph dl dh S W wi Z=0)&&keB c (wkA c T U O n a b u v m p q pl ph dl dh) S W wi Z
theorem Jm4{c T U O:Int}{n:Nat}{a b u v:Nat->Int}{m:Nat}{p q:Nat->Int}{pl ph dl dh S W wi Z:Int}(h:asE c T U O n a b u v m p q pl ph dl dh S W wi Z=0):rdE c T U O n a b u v m p q pl ph dl dh=0/\usB c S W wi=true/\0<=Z/\Z<=10000:=by
 unfold asE at h;split at h
 ·rename_i h1;split at h
  ·rename_i h2;rw [HE] at h2;exact ⟨h1,h2.1,(bt_iff _ _ _).1 h2.2⟩
  ·cases h
 ·rename_i h1;exact absurd h h1
theorem Xq9(c T U O:Int)(n:Nat)(a b u v:Nat->Int)(m:Nat)(p q:Nat->Int)(pl ph dl dh:Int)(S W wi Z:Int):U2 VT 71 [.agg [i c,i T,i U,i O,rds n a b u v,Pt.scs m p q,i pl,i ph,i dl,i dh],.agg [i S,i W,i wi],i Z] (.tup [bl (kpB c T U O n a b u v m p q pl ph dl dh S W wi Z),i (asE c T U O n a b u v m p q pl ph dl dh S W wi Z)]):=by
 refine GF (L:=[]) (Ae Xj5 Aa) (Aj Ab Ac (Ah Qw0 (UG.nil _))) U3 Tryz.func71 (UY Tryz.f71) G9 (t:=let z0:=asE c T U O n a b u v m p q pl ph dl dh S W wi Z;let z1:=(wkA c T U O n a b u v m p q pl ph dl dh);(need [UJ 4 n λk=>[Bo.i (a k),Bo.i (b k),Bo.i (u k),Bo.i (v k)],UJ 2 m λk=>[Pt.i (p k),Pt.i (q k)]] (branch (decide (z0=0)) (branch ((0:Int)==0) (need [drB z1,bdB z1,(1:Int)<=c/\c<=10,(0:Int)<=S/\S<=W/\W<=10,(0:Int)<=wi/\wi<=1000000,(0:Int)<=Z/\Z<=100000] (leaf (RV.tup [RV.x (.bool (keB c z1 S W wi Z)),RV.x (KQ)]))) (leaf (RV.tup [RV.x (Y1),RV.x (KQ)]))) (branch (z0==0) VR.fail (leaf (RV.tup [RV.x (Y1),RV.x (.int .i64 (z0))])))))) VY ?_
 simp only [VR.sat,UF,GA,GR,UI,UL,HD,RG,beq_iff_eq,beq_eq_false_iff_ne,Ax,Bool.not_eq_false',not_true_eq_false,false_imp_iff,true_imp_iff];refine ⟨⟨Bo.isRec4 n a b u v,Pt.isRec2 m p q⟩,λh=>?_,λh=>⟨λh'=>absurd h' h,λ_=>?_⟩⟩
 ·obtain ⟨h1,h2,h3⟩:=Jm4 h;have hw:=cI h1;have hu:=Xg5.1 h2;refine ⟨⟨hw.1,hw.2.1,hw.2.2.1,VO,VO,VO⟩,?_,h.symm⟩;unfold kpB;rw [h];rfl
 ·unfold kpB;rw [decide_eq_false h];rfl
def bR:G0
 |[.agg [.x (.int .i64 c),.x (.int .i64 T),.x (.int .i64 U),.x (.int .i64 O),.lst 4 n fr,.lst 2 m ft,.x (.int .i64 pl),.x (.int .i64 ph),.x (.int .i64 dl),.x (.int .i64 dh)],.agg [.x (.int .i64 S),.x (.int .i64 W),.x (.int .i64 wi)],.x (.int .i64 Z)]=>some ([UJ 4 n fr,UJ 2 m ft],.tup [bl (kpB c T U O n (col 0 fr) (col 1 fr) (col 2 fr) (col 3 fr) m (Pt.col 0 ft) (Pt.col 1 ft) pl ph dl dh S W wi Z),i (asE c T U O n (col 0 fr) (col 1 fr) (col 2 fr) (col 3 fr) m (Pt.col 0 ft) (Pt.col 1 ft) pl ph dl dh S W wi Z)])
 |_=>none
theorem Ql9:VU VT 71 bR:=by
 refine ⟨(UM Tryz.func71),?_⟩;intro avs ns res h I;unfold bR at h;split at h
 ·cases h;have hr:UJ 4 _ _:=I _ GK;have ht:UJ 2 _ _:=I _ (HX _ GK);exact (Xq9 _ _ _ _ _ _ _ _ _ _ _ _ _ _ _ _ _ _ _ _).same (.cons (P3.same (.cons (.refl _) (.cons (.refl _) (.cons (.refl _) (.cons (.refl _) (.cons (.lst 4 _ _ _ hr) (.cons (.lst 2 _ _ _ ht) (.cons (.refl _) (.cons (.refl _) (.cons (.refl _) (.cons (.refl _) .nil))))))))))) (.cons (.refl _) (.cons (.refl _) .nil)))
 ·cases h
def hdN(c T U O:Int)(n:Nat)(a b u v:Nat->Int)(m:Nat)(p q:Nat->Int)(pl ph dl dh:Int)(Z:Int):Nat:=if hdE c T U O n a b u v m p q pl ph dl dh Z=0 then c.toNat+1 else 0
theorem BB{P:Program}{c:Code}{ps:List Prop}{sp:UN}(h:UF ps->HP P c sp):HP P c (FV ps sp):=λcx hf=>xD (λhp=>h hp cx hf)
theorem Zq4{g h:Nat->Int}{k j:Nat}{x y:Int}(hx:x=g k)(hy:y=h k)(hj:j<k+1):GM k (λk=>[i (g k),i (h k)]) (UA 2 [i x,i y]) j=[i (g j),i (h j)]:=by
 subst hx;subst hy;show HG (decide (j<k)) [i (g j),i (h j)] (UA 2 [i (g k),i (h k)] (j-k))=_;rw [show j-k=0 by omega]
 by_cases hj:j<k
 ·rw [decide_eq_true hj];rfl
 ·obtain rfl:j=k:=VO;rw [decide_eq_false hj];rfl
section
variable (c T U O:Int)(n:Nat)(a b u v:Nat->Int)(m:Nat)(p q:Nat->Int)(pl ph dl dh:Int)(Z:Int)
def Jr1:St:={σ:=mkS 37 [(0,.agg [i c,i T,i U,i O,rds n a b u v,Pt.scs m p q,i pl,i ph,i dl,i dh]),(1,i Z),(2,.fn (.func 76) [] []),(3,.ptr 0 0),(4,.ptr 1 0),(5,.ptr 2 0),(6,.x (.slice none 0 0)),(7,i 0),(8,.ptr 10 0),(9,i 0),(10,.ptr 18 0),(26,.fn (.func 137) [] [.ro [i 0],.ro [i c]])],m:=[(901,.row 124 2 0 (λk=>[i (onL (wkA c T U O n a b u v m p q pl ph dl dh) k Z),i (onH (wkA c T U O n a b u v m p q pl ph dl dh) k Z)])),(18,.cells 118 [.row 901]),(10,.cells 167 [.roI [i c,i T,i U,i O,rds n a b u v,Pt.scs m p q] 26 (wkA c T U O n a b u v m p q pl ph dl dh) 0]),(2,.cells 165 [.fn (.func 76) [] []]),(1,.cells 3 [i Z]),(0,.cells 126 [i c,i T,i U,i O,rds n a b u v,Pt.scs m p q,i pl,i ph,i dl,i dh])],nx:=902}
noncomputable def Jv1:Code:=MZ (VX (UB Tryz.f75) 0)
noncomputable def Ju1:Code:=MY (VX (UB Tryz.f75) 0)
def pV(k:Nat):St:={σ:=H6 [] (Jr1 c T U O n a b u v m p q pl ph dl dh Z).σ,m:=[(901,.row 124 2 k (λk=>[i (onL (wkA c T U O n a b u v m p q pl ph dl dh) k Z),i (onH (wkA c T U O n a b u v m p q pl ph dl dh) k Z)])),(18,.cells 118 [.row 901]),(10,.cells 167 [.roI [i c,i T,i U,i O,rds n a b u v,Pt.scs m p q] 26 (wkA c T U O n a b u v m p q pl ph dl dh) 0]),(2,.cells 165 [.fn (.func 76) [] []]),(1,.cells 3 [i Z]),(0,.cells 126 [i c,i T,i U,i O,rds n a b u v,Pt.scs m p q,i pl,i ph,i dl,i dh])],nx:=902}
def pA(k:Nat):GB->Option St
 | .normal=>some {σ:=H6 [] (Jr1 c T U O n a b u v m p q pl ph dl dh Z).σ,m:=[(901,.row 124 2 ((c-0+1).toNat) (λk=>[i (onL (wkA c T U O n a b u v m p q pl ph dl dh) k Z),i (onH (wkA c T U O n a b u v m p q pl ph dl dh) k Z)])),(18,.cells 118 [.row 901]),(10,.cells 167 [.roI [i c,i T,i U,i O,rds n a b u v,Pt.scs m p q] 26 (wkA c T U O n a b u v m p q pl ph dl dh) 0]),(2,.cells 165 [.fn (.func 76) [] []]),(1,.cells 3 [i Z]),(0,.cells 126 [i c,i T,i U,i O,rds n a b u v,Pt.scs m p q,i pl,i ph,i dl,i dh])],nx:=902}
 |_=>none
def T_eO:CT:= .leaf (.normal,pV c T U O n a b u v m p q pl ph dl dh Z ((c-0+1).toNat))
def Zb4:UN:=GO [(.cell 18 0,901,124,2)] (HM (pV c T U O n a b u v m p q pl ph dl dh Z (0)) (T_eO c T U O n a b u v m p q pl ph dl dh Z))
end
abbrev ZV(c:Int):AV:=AV.fn (Fn.func 137) [] [AV.ro [iI 0],AV.ro [iI c]]
abbrev J3:Prop:=AV.fn (Fn.func 76) [] []=AV.fn (Fn.func 76) [] []
abbrev KY:Ext:={R:=[(103,bO)],H:=[],C:=[(101,rC)] }
section
variable (c T U O:Int)(n:Nat)(a b u v:Nat->Int)(m:Nat)(p q:Nat->Int)(pl ph dl dh:Int)(Z:Int)
theorem Jk8(VW:rdE c T U O n a b u v m p q pl ph dl dh=0)(UK:0<=Z/\Z<=10000)(HY:drB (wkA c T U O n a b u v m p q pl ph dl dh)/\bdB (wkA c T U O n a b u v m p q pl ph dl dh)/\1<=c/\c<=10):HP VT (.rangeFunc (rfF (VX (UB Tryz.f75) 0)) (zS (VX (UB Tryz.f75) 0)) Jv1 Ju1) (Zb4 c T U O n a b u v m p q pl ph dl dh Z):=by
 refine LI [(.cell 18 0,901,124,2)] (L:=[]) (Ae RN (Ae Wh4 Aa)) (Aj (Af f9 Ab) Ac (Ah xQ (UG.nil _))) U3 U8 (V:=Nat) (pV c T U O n a b u v m p q pl ph dl dh Z) (λk=>k<=((c-0+1).toNat)) (λk=>k) (pA c T U O n a b u v m p q pl ph dl dh Z) (x0:=0) VZ rfl ?_ ?_ ?_ ?_ (g:=137) (caps:=[.ro [i 0],.ro [i c]]) VY VY (EV 0 c VO VO) (λ_=>rfl) ?_
 ·rintro k;kernel_rfl
 ·rintro k y E h;unfold pA at h;split at h
  ·cases h;kernel_rfl
  ·cases h
 ·rintro k;rfl
 ·rintro k y E h;unfold pA at h;split at h
  ·cases h;rfl
  ·cases h
 ·rintro Q hQ k hx;refine ⟨λhlt=>⟨(k+1),rfl,?_⟩,λPL=>?_⟩
  ·(with_reducible refine DN (t:=let z0:=(wkA c T U O n a b u v m p q pl ph dl dh);let z1:=((0:Int)+(k:Int)).toNat;(need [drB z0,bdB z0,(0:Int)<=0+(k:Int)/\(0:Int)+(k:Int)<=10,(0:Int)<=Z/\Z<=100000] (need [(k+1)*16<=140737488355328,L1 1 (UA 2 [iI (onL z0 z1 Z),iI (onH z0 z1 Z)])] (need [X5 c T U O n a b u v m p q pl ph dl dh,Z=Z,J3,KM,U4 (ptr 1 0),U4 (ptr 2 0),ZB=ZB,K9,U4 (ptr 10 0),K9,Y5,ZV c=ZV c,k+1=k+1,H2 (k+1) (GM k (λk=>[iI (onL z0 k Z),iI (onH z0 k Z)]) (UA 2 [iI (onL z0 z1 Z),iI (onH z0 z1 Z)])) (λi=>[iI (onL z0 i Z),iI (onH z0 i Z)]),U4 (AV.row 901),U4 (ZE c T U O n a b u v m p q pl ph dl dh),J3,Z=Z,c=c,T=T,U=U,O=O,YS n a b u v,YX m p q,pl=pl,ph=ph,dl=dl,dh=dh] (leaf GB.normal))))) VY ?_)
   simp only [VR.sat,UF,UL]
   have ek:((0:Int)+(k:Int)).toNat=k:=VO;refine ⟨⟨HY.1,HY.2.1,VO,VO⟩,⟨VO,λj hj a ha=>FU ha (by simp [AV.one,Value.oneCell'])⟩,λj hj=>?_,VO⟩
   rw [ek];exact Zq4 rfl rfl hj
  ·subst PL;exact hQ
abbrev YW:Value:=Value.slice none 0 0
theorem Wv4:U2 VT 75 [.agg [i c,i T,i U,i O,rds n a b u v,Pt.scs m p q,i pl,i ph,i dl,i dh],i Z,.fn (.func 76) [] []] (.tup [.lst 2 (hdN c T U O n a b u v m p q pl ph dl dh Z) (λk=>[i (onL (wkA c T U O n a b u v m p q pl ph dl dh) k Z),i (onH (wkA c T U O n a b u v m p q pl ph dl dh) k Z)]),i (hdE c T U O n a b u v m p q pl ph dl dh Z)]):=by
 refine GF (L:=[FV [rdE c T U O n a b u v m p q pl ph dl dh=0,0<=Z/\Z<=10000,drB (wkA c T U O n a b u v m p q pl ph dl dh)/\bdB (wkA c T U O n a b u v m p q pl ph dl dh)/\1<=c/\c<=10] (Zb4 c T U O n a b u v m p q pl ph dl dh Z)]) (Ae RN (Ae Wh4 Aa)) (Aj (Af f9 Ab) Ac (Ah xQ (UG.nil _))) U3 Tryz.func75 (UY Tryz.f75) (G4 (lpE (b:= .rangeFunc (rfF (VX (UB Tryz.f75) 0)) (zS (VX (UB Tryz.f75) 0)) Jv1 Ju1) VY<|BB (λh=>Jk8 c T U O n a b u v m p q pl ph dl dh Z h.1 h.2.1 h.2.2))) (t:=let z0:=wkA c T U O n a b u v m p q pl ph dl dh;let z1:=rdE c T U O n a b u v m p q pl ph dl dh;let z2:=(leaf (RV.tup [RV.lst 2 (c-0+1).toNat λk=>[iI (onL (z0) k Z),iI (onH (z0) k Z)],RV.x (KQ)]));let z3:=(leaf (RV.tup [RV.x (YW),RV.x (.int .i64 (2:Int))]));(need [UJ 4 n λk=>[Bo.i (a k),Bo.i (b k),Bo.i (u k),Bo.i (v k)],UJ 2 m λk=>[Pt.i (p k),Pt.i (q k)]] (branch (decide (z1=0)) (branch ((0:Int) != 0) (leaf (RV.tup [RV.x (YW),RV.x (KQ)])) (branch (!bt (0:Int) Z (10000:Int)) z3 (need [z1=0,(0:Int)<=Z/\Z<=10000,drB (z0)/\bdB (z0)/\(1:Int)<=c/\c<=10] (need [X5 c T U O n a b u v m p q pl ph dl dh,Z=Z,J3,KM,U4 (ptr 1 0),U4 (ptr 2 0),ZB=ZB,K9,U4 (ptr 10 0),K9,Y5,ZV c=ZV c,0=0,∀(i:Nat),i<0->[]=[iI (onL (z0) i Z),iI (onH (z0) i Z)],U4 (AV.row 901),U4 (ZE c T U O n a b u v m p q pl ph dl dh),J3,Z=Z,c=c,T=T,U=U,O=O,YS n a b u v,YX m p q,pl=pl,ph=ph,dl=dl,dh=dh] z2)))) (branch (z1 != 0) (leaf (RV.tup [RV.x (YW),RV.x (.int .i64 (z1))])) (branch (!bt (0:Int) Z (10000:Int)) z3 (need [z1=0,(0:Int)<=Z/\Z<=10000,drB (z0)/\bdB (z0)/\(1:Int)<=c/\c<=10] (need [X5 c T U O n a b u v m p q pl ph dl dh,Z=Z,J3,KM,U4 (ptr 1 0),U4 (ptr 2 0),ZB=ZB,K9,U4 (ptr 10 0),z1=0,Y5,ZV c=ZV c,0=0,∀(i:Nat),i<0->[]=[iI (onL (z0) i Z),iI (onH (z0) i Z)],U4 (AV.row 901),AV.x (.pointer none)=roI [iI c,iI T,iI U,iI O,QR n a b u v,QZ m p q] 26 (λa_1=>z0 a_1) 0,J3,Z=Z,c=c,T=T,U=U,O=O,YS n a b u v,YX m p q,pl=pl,ph=ph,dl=dl,dh=dh] z2))))))) VY ?_
 simp only [VR.sat,UF,GA,GR,UI,UL,HD,RG,beq_iff_eq,beq_eq_false_iff_ne,Ax,Bool.not_eq_false',not_true_eq_false,false_imp_iff,true_imp_iff];have e2:rdE c T U O n a b u v m p q pl ph dl dh=0->bt 0 Z 10000=false->hdE c T U O n a b u v m p q pl ph dl dh Z=2:=λh h'=>by
  unfold hdE;rw [if_pos h,h'];rfl
 have e0:rdE c T U O n a b u v m p q pl ph dl dh=0->bt 0 Z 10000=true->hdE c T U O n a b u v m p q pl ph dl dh Z=0:=λh h'=>by
  unfold hdE;rw [if_pos h,h'];rfl
 have er: ¬rdE c T U O n a b u v m p q pl ph dl dh=0->hdE c T U O n a b u v m p q pl ph dl dh Z=rdE c T U O n a b u v m p q pl ph dl dh:=λh=>if_neg h
 have eN: ∀k:Int,hdE c T U O n a b u v m p q pl ph dl dh Z=k->k≠0->(iR (YW)/\hdN c T U O n a b u v m p q pl ph dl dh Z=0)/\k=hdE c T U O n a b u v m p q pl ph dl dh Z:=λk h hk=>⟨⟨by trivial,if_neg (by rw [h];exact hk)⟩,h.symm⟩
 have eP:rdE c T U O n a b u v m p q pl ph dl dh=0->bt 0 Z 10000=true->hdN c T U O n a b u v m p q pl ph dl dh Z=c.toNat+1:=λh h'=>if_pos (e0 h h')
 refine ⟨⟨Bo.isRec4 n a b u v,Pt.isRec2 m p q⟩,λh=>⟨λh'=>eN 2 (e2 h h') (by decide),λh'=>?_⟩,λh=>⟨λ_=>eN _ (er h) h,λh''=>absurd h'' h⟩⟩
 have hw:=cI h;have hb:=(bt_iff _ _ _).1 h';refine ⟨⟨h,hb,hw.1,hw.2.1,hw.2.2.1⟩,λj hj=>absurd hj (Aq _),⟨?_,λj _ x hx=>?_⟩,(e0 h h').symm⟩
 ·rw [eP h h'];omega
 ·simp only [GS,DS,or_false] at hx;rcases hx with rfl|rfl<;>exact Ak
end
def Qj3:G0
 |[.agg [.x (.int .i64 c),.x (.int .i64 T),.x (.int .i64 U),.x (.int .i64 O),.lst 4 n fr,.lst 2 m ft,.x (.int .i64 pl),.x (.int .i64 ph),.x (.int .i64 dl),.x (.int .i64 dh)],.x (.int .i64 Z),.fn (.func 76) [] []]=>some ([UJ 4 n fr,UJ 2 m ft],.tup [.lst 2 (hdN c T U O n (col 0 fr) (col 1 fr) (col 2 fr) (col 3 fr) m (Pt.col 0 ft) (Pt.col 1 ft) pl ph dl dh Z) (λk=>[i (onL (wkA c T U O n (col 0 fr) (col 1 fr) (col 2 fr) (col 3 fr) m (Pt.col 0 ft) (Pt.col 1 ft) pl ph dl dh) k Z),i (onH (wkA c T U O n (col 0 fr) (col 1 fr) (col 2 fr) (col 3 fr) m (Pt.col 0 ft) (Pt.col 1 ft) pl ph dl dh) k Z)]),i (hdE c T U O n (col 0 fr) (col 1 fr) (col 2 fr) (col 3 fr) m (Pt.col 0 ft) (Pt.col 1 ft) pl ph dl dh Z)])
 |_=>none
theorem Wv3:VU VT 75 Qj3:=by
 refine ⟨(UM Tryz.func75),?_⟩;intro avs ns res h I;unfold Qj3 at h;split at h
 ·cases h;have hr:UJ 4 _ _:=I _ GK;have ht:UJ 2 _ _:=I _ (HX _ GK);exact (Wv4 _ _ _ _ _ _ _ _ _ _ _ _ _ _ _ _ _).same (.cons (P3.same (.cons (.refl _) (.cons (.refl _) (.cons (.refl _) (.cons (.refl _) (.cons (.lst 4 _ _ _ hr) (.cons (.lst 2 _ _ _ ht) (.cons (.refl _) (.cons (.refl _) (.cons (.refl _) (.cons (.refl _) .nil))))))))))) (.cons (.refl _) (.cons (.refl _) .nil)))
 ·cases h
theorem uQ(c T U O:Int)(n:Nat)(a b u v:Nat->Int)(m:Nat)(p q:Nat->Int)(pl ph dl dh:Int)(Z:Int):FH VT 44 [.agg [i c,i T,i U,i O,rds n a b u v,Pt.scs m p q,i pl,i ph,i dl,i dh],i Z] (.tup [.lst 2 (hdN c T U O n a b u v m p q pl ph dl dh Z) (λk=>[i (onL (wkA c T U O n a b u v m p q pl ph dl dh) k Z),i (onH (wkA c T U O n a b u v m p q pl ph dl dh) k Z)]),i (hdE c T U O n a b u v m p q pl ph dl dh Z)]):=by
 refine D2 (L:=[]) (Ae Wv3 Aa) Ad U3 Tryz.func44 (UY Tryz.f44) G9 (t:=need [UJ 4 n λk=>[Bo.i (a k),Bo.i (b k),Bo.i (u k),Bo.i (v k)],UJ 2 m λk=>[Pt.i (p k),Pt.i (q k)]] (leaf (tup [lst 2 (hdN c T U O n a b u v m p q pl ph dl dh Z) λk=>[iI (onL (wkA c T U O n a b u v m p q pl ph dl dh) k Z),iI (onH (wkA c T U O n a b u v m p q pl ph dl dh) k Z)],iI (hdE c T U O n a b u v m p q pl ph dl dh Z)]))) VY ?_
 simp only [VR.sat,UF,UL];exact ⟨⟨Bo.isRec4 n a b u v,Pt.isRec2 m p q⟩,⟨rfl,rfl,λ_ _=>rfl⟩,⟨rfl,rfl⟩,Ak⟩
end Go.Proofs.YtlclobclmfhlmaaGreatDoor
namespace Go.Proofs.YtlclobclmfhlmaaGreatDoor.Hd
open Go Go.Sx Go.RowKit Bo
open Go.Sx.VR (need branch leaf)
open Go.Sx.AV (lst ptr agg roI tup top)
def SR:G0
 |[.x (.int .i64 n),.x (.int .i64 U),.x (.int .i64 O)]=>some ([],bl (bt U n O))
 |_=>none
abbrev WN:Value:=Value.bool false
theorem VE{p:Prop}(h:p:=by
 simp only [VR.sat,UF,GA,GR,UI,UL];all_goals (simp+contextual [bt,insB,Bo.bt,Bo.insB,Bool.and_assoc]);all_goals omega):p:=h
theorem t8(n U O:Int):U2 VT 118 [i n,i U,i O] (bl (bt U n O)):=by
 refine H3 Tryz.func118 (t:=branch (decide (U<=n)) (leaf (RV.x (.bool (decide (n<=O))))) (leaf (RV.x (WN)))) VY ?_;exact VE
theorem jJ:VU VT 118 SR:=by
 refine ⟨(UM Tryz.func118),?_⟩;intro avs ns res h I;unfold SR at h;split at h
 ·cases h;exact t8 _ _ _
 ·cases h
def SU:G0
 |[.agg [.x (.int .i64 a),.x (.int .i64 b)],.x (.int .i64 U),.x (.int .i64 O)]=>some ([],bl (insB U a b O))
 |_=>none
theorem tE(a b U O:Int):U2 VT 157 [.agg [i a,i b],i U,i O] (bl (insB U a b O)):=by
 refine H3 Tryz.func157 (t:=branch (decide (U<=a)) (branch (decide (a<=b)) (leaf (RV.x (.bool (decide (b<=O))))) (leaf (RV.x (WN)))) (leaf (RV.x (WN)))) VY ?_;exact VE
theorem M6:VU VT 157 SU:=by
 refine ⟨(UM Tryz.func157),?_⟩;intro avs ns res h I;unfold SU at h;split at h
 ·cases h;exact tE _ _ _ _
 ·cases h
def ST:G0
 |[.agg [.x (.int .i64 a),.x (.int .i64 b)]]=>some ([],bl (insB (-100) a b 100))
 |_=>none
theorem tD(a b:Int):U2 VT 117 [.agg [i a,i b]] (bl (insB (-100) a b 100)):=by
 refine U6 (L:=[]) (Ae M6 Aa) U3 Tryz.func117 (UY Tryz.f117) U8 (t:=leaf (RV.x (.bool (insB (-100:Int) a b (100:Int))))) VY ?_;exact V5
theorem tB:VU VT 117 ST:=by
 refine ⟨(UM Tryz.func117),?_⟩;intro avs ns res h I;unfold ST at h;split at h
 ·cases h;exact tD _ _
 ·cases h
def Qj7:G0
 |[.agg [.x (.int .i64 a),.x (.int .i64 b)]]=>some ([],bl (insB 0 a b 1000))
 |_=>none
theorem Wx4(a b:Int):U2 VT 161 [.agg [i a,i b]] (bl (insB 0 a b 1000)):=by
 refine U6 (L:=[]) (Ae M6 Aa) U3 Tryz.func161 (UY Tryz.f161) U8 (t:=leaf (RV.x (.bool (insB (0:Int) a b (1000:Int))))) VY ?_;exact V5
theorem mD:VU VT 161 Qj7:=by
 refine ⟨(UM Tryz.func161),?_⟩;intro avs ns res h I;unfold Qj7 at h;split at h
 ·cases h;exact Wx4 _ _
 ·cases h
def bP:G0
 |[.x (.int .i64 n)]=>some ([0<=n/\n<=1000],i (1+n))
 |_=>none
theorem Ww7(n:Int)(VW:0<=n/\n<=1000):U2 VT 70 [i n] (i (1+n)):=by
 refine H3 Tryz.func70 (t:=need [VQ ((1:Int)+n)] (leaf (RV.x (.int .i64 ((1:Int)+n))))) VY ?_;simp only [VR.sat,UF,GA,GR,UI,VQ,UL];all_goals first|omega|grind
theorem RM:VU VT 70 bP:=by
 refine ⟨(UM Tryz.func70),?_⟩;intro avs ns res h I;unfold bP at h;split at h
 ·cases h;exact Ww7 _ (I _ VZ)
 ·cases h
def bQ:G0
 |[.x (.int .i64 n)]=>some ([0<=n/\n<=1000],i (7+n))
 |_=>none
theorem Ww9(n:Int)(VW:0<=n/\n<=1000):U2 VT 123 [i n] (i (7+n)):=by
 refine H3 Tryz.func123 (t:=need [VQ ((7:Int)+n)] (leaf (RV.x (.int .i64 ((7:Int)+n))))) VY ?_;exact VH
theorem P2:VU VT 123 bQ:=by
 refine ⟨(UM Tryz.func123),?_⟩;intro avs ns res h I;unfold bQ at h;split at h
 ·cases h;exact Ww9 _ (I _ VZ)
 ·cases h
def y9:G0:=y7
theorem Qv3(a b:Int):U2 VT 124 [.lst 1 2 (λk=>[i (if k=0 then a else b)])] (i (min a b)):=by
 refine U6 (L:=[]) (Ae TF Aa) U3 Tryz.func124 (UY Tryz.f124) U8 (t:=leaf (RV.x (.int .i64 (min (if 0=0 then a else b) (if 1=0 then a else b))))) VY ?_
 simp [VR.sat,GA,UI]
theorem RC:VU VT 124 y9:=by
 refine ⟨(UM Tryz.func124),?_⟩;intro avs ns res h I;unfold y9 y7 at h;split at h
 ·rename_i f;split at h
  ·rename_i a b h0 h1;cases h;refine (Qv3 a b).same (.cons (.lst 1 2 _ _ ?_) .nil);intro k hk;rcases (show k=0\/k=1 by omega) with rfl|rfl
   ·exact h0
   ·exact h1
  ·cases h
 ·cases h
def mW:G0
 |[.agg [.lst 2 3 f,.x (.int .i64 er),.lst 3 N bf],.x (.int .i64 n)]=>some ([],bl (bt 0 n 2))
 |_=>none
theorem Qv4(f:Nat->List AV)(er:Int)(N:Nat)(bf:Nat->List AV)(n:Int):U2 VT 160 [.agg [.lst 2 3 f,i er,.lst 3 N bf],i n] (bl (bt 0 n 2)):=by
 refine U6 (L:=[]) (Ae jJ Aa) U3 Tryz.func160 (UY Tryz.f160) U8 (t:=need [VQ ((↑(3:Nat):Int)-1)] (leaf (RV.x (.bool (bt (0:Int) n ((↑(3:Nat):Int)-1)))))) VY ?_;simp [VR.sat,UF,GA,UI,VQ]
theorem SC:VU VT 160 mW:=by
 refine ⟨(UM Tryz.func160),?_⟩;intro avs ns res h I;unfold mW at h;split at h
 ·cases h;exact Qv4 _ _ _ _ _
 ·cases h
def snB(r:Nat->Int):Nat->Int->Bool
 | 0,_=>false
 |k+1,q=>snB r k q||(r k==q)
theorem Qb4(r:Nat->Int)(q:Int): ∀k,snB r k q=true↔ ∃j,j<k/\r j=q
 | 0=>by simp [snB]
 |k+1=>by
  simp only [snB,Bl,Qb4 r q k,beq_iff_eq];constructor
  ·rintro (⟨j,h1,h2⟩|h)
   ·exact ⟨j,VO,h2⟩
   ·exact ⟨k,VO,h⟩
  ·rintro ⟨j,h1,h2⟩;rcases (show j<k\/j=k by omega) with h|rfl
   ·exact .inl ⟨j,h,h2⟩
   ·exact .inr h2
abbrev bts(m:Nat)(r v:Nat->Int):AV:= .lst 2 m (λj=>[i (r j),i (v j)])
abbrev WG(f:Nat->List AV):AV:=lst 2 3 λa=>f a
abbrev XB(m:Nat)(r:Nat->Int)(v:Nat->Int):AV:=lst 2 m λj=>[iI (r j),iI (v j)]
abbrev K6(N:Nat)(bf:Nat->List AV):AV:=lst 3 N λa=>bf a
section
variable (f:Nat->List AV)(er:Int)(N:Nat)(bf:Nat->List AV)(U O:Int)(m:Nat)(r v:Nat->Int)
def Zv0:St:={σ:=[agg [WG f,iI er,K6 N bf],agg [iI U,iI O,XB m r v],ptr 0 0,ptr 1 0,top,ptr 3 0,top,top,top,XB m r v,iI (m:Int)]++HO 28 [],m:=[(3,GU.cells 264 [AV.x (WN),AV.x (WN),AV.x (WN),AV.x (WN),AV.x (WN),AV.x (WN)]),(1,GU.cells 75 [iI U,iI O,XB m r v]),(0,GU.cells 103 [WG f,iI er,K6 N bf])],nx:=8}
noncomputable def Ju4:Code:=UE (VX (UB Tryz.f120) 0)
def Wn7(k:Nat):St:=(upE [(11,i k)] [(3,.cells 264 [bl (snB r (k) 0),bl (snB r (k) 1),bl (snB r (k) 2),bl (snB r (k) 3),bl (snB r (k) 4),bl (snB r (k) 5)]),(1,.cells 75 [i U,i O,bts m r v]),(0,.cells 103 [.lst 2 3 f,i er,.lst 3 N bf])] (Zv0 f er N bf U O m r v))
def EJ(k:Nat):GB->Option St
 | .exit 0=>some (upE [] [(3,.cells 264 [bl (snB r (m) 0),bl (snB r (m) 1),bl (snB r (m) 2),bl (snB r (m) 3),bl (snB r (m) 4),bl (snB r (m) 5)]),(1,.cells 75 [i U,i O,bts m r v]),(0,.cells 103 [.lst 2 3 f,i er,.lst 3 N bf])] (Zv0 f er N bf U O m r v))
 |_=>none
def Jq3:CT:= .leaf (.exit 0,(EJ f er N bf U O m r v 0 (.exit 0)).getD (Zv0 f er N bf U O m r v))
def Zb7:UN:=(HM (Wn7 f er N bf U O m r v (0)) (Jq3 f er N bf U O m r v))
end
abbrev QS:Prop:=ptr 0 0=ptr 0 0
abbrev Z6:Prop:=ptr 1 0=ptr 1 0
abbrev ZI:Prop:=ptr 3 0=ptr 3 0
theorem V4{p:Prop}(h:p:=by
 (with_reducible repeat' first|apply Al|intro _)
 all_goals first|exact Ak|omega|with_reducible rfl|(rename_i E hE;cases hE;exact hQ)|rfl):p:=h
section
variable (f:Nat->List AV)(er:Int)(N:Nat)(bf:Nat->List AV)(U O:Int)(m:Nat)(r v:Nat->Int)
theorem Jm1(VW:m<=1000)(UK: ∀j,j<m->0<=r j/\r j<=2/\ -1000<=v j/\v j<=2000)(HY: ∀j k,j<k->k<m->r j≠r k)(F8:insB 0 U O 1000=true):GC VT (.loop Ju4) (Zb7 f er N bf U O m r v):=by
 refine HL (L:=[]) (Ae SC (Ae jJ (Ae mD Aa))) U3 U8 (X:=Nat) (Wn7 f er N bf U O m r v) (λk=>k<=m) (λk=>m-k) (EJ f er N bf U O m r v) (x0:=0) VZ ?_ ?_ ?_
 ·rintro k;kernel_rfl
 ·rintro k y E h;unfold EJ at h;split at h
  ·cases h;kernel_rfl
  ·cases h
 ·rintro Q hQ k hx;refine ⟨(k+1),?_⟩;(with_reducible refine DN (t:=branch (decide ((k:Int)<(m:Int))) (need [UO k m] (branch (!bt (0:Int) (r k) (2:Int)) VR.fail (need [UO (r k) 6] (need [0+(r k).toNat*1<List.length [snB r k (0:Int),snB r k (1:Int),snB r k (2:Int),snB r k (3:Int),snB r k (4:Int),snB r k (5:Int)]] (branch (match [snB r k (0:Int),snB r k (1:Int),snB r k (2:Int),snB r k (3:Int),snB r k (4:Int),snB r k (5:Int)][0+(r k).toNat*1]? with|some x=>x|none=>false) VR.fail (branch (!bt (-1000:Int) (v k) (2000:Int)) VR.fail (need [UO (r k) 6] (need [0+(r k).toNat*1<List.length [snB r k (0:Int),snB r k (1:Int),snB r k (2:Int),snB r k (3:Int),snB r k (4:Int),snB r k (5:Int)]] (need [VQ ((k:Int)+1)] (need [U4 (agg [WG f,iI er,K6 N bf]),U4 (agg [iI U,iI O,XB m r v]),QS,Z6,ZI,U4 (XB m r v),U4 (m:Int),(k:Int)+1=(↑(k+1):Int),(if 0=0+(r k).toNat*1 then true else snB r k (0:Int))=snB r (k+1) (0:Int),(if 1=0+(r k).toNat*1 then true else snB r k (1:Int))=snB r (k+1) (1:Int),(if 2=0+(r k).toNat*1 then true else snB r k (2:Int))=snB r (k+1) (2:Int),(if 3=0+(r k).toNat*1 then true else snB r k (3:Int))=snB r (k+1) (3:Int),(if 4=0+(r k).toNat*1 then true else snB r k (4:Int))=snB r (k+1) (4:Int),(if 5=0+(r k).toNat*1 then true else snB r k (5:Int))=snB r (k+1) (5:Int),U=U,O=O,U4 (XB m r v),WG f=WG f,er=er,U4 (K6 N bf)] (leaf GB.normal))))))))))) (need [U4 (agg [WG f,iI er,K6 N bf]),U4 (agg [iI U,iI O,XB m r v]),QS,Z6,ZI,U4 (XB m r v),U4 (m:Int),snB r k (0:Int)=snB r m (0:Int),snB r k (1:Int)=snB r m (1:Int),snB r k (2:Int)=snB r m (2:Int),snB r k (3:Int)=snB r m (3:Int),snB r k (4:Int)=snB r m (4:Int),snB r k (5:Int)=snB r m (5:Int),U=U,O=O,U4 (XB m r v),WG f=WG f,er=er,U4 (K6 N bf)] (leaf (GB.exit 0)))) VY ?_)
  simp only [Jq3,EJ,VR.sat,GZ] at hQ;simp only [VR.sat,UF,GA,GR,UI,VQ,UL,HD,RF,RG,L9,GT,EJ]
  refine ⟨λh=>?_,λh=>?_⟩
  ·obtain ⟨h0,h1,h2,h3⟩:=UK k VO;have hno:snB r k (r k)=false:=by
    rw [←Bool.not_eq_true,Qb4];rintro ⟨j,hj,he⟩;exact HY j k hj VO he
   have hb1:bt 0 (r k) 2=true:=(bt_iff _ _ _).2 VO;have hb2:bt (-1000) (v k) 2000=true:=(bt_iff _ _ _).2 VO;rcases (show r k=0\/r k=1\/r k=2 by omega) with hr|hr|hr
   all_goals
    rw [hr] at hno hb1;simp [hr,hno,hb1,hb2,snB];exact V4
  ·obtain rfl:k=m:=VO;exact V4
theorem Wx7(VW:m<=1000)(UK: ∀j,j<m->0<=r j/\r j<=2/\ -1000<=v j/\v j<=2000)(HY: ∀j k,j<k->k<m->r j≠r k)(F8:insB 0 U O 1000=true):U2 VT 120 [.agg [.lst 2 3 f,i er,.lst 3 N bf],.agg [i U,i O,bts m r v]] (bl true):=by
 refine U6 (L:=[Zb7 f er N bf U O m r v]) (Ae SC (Ae jJ (Ae mD Aa))) U3 Tryz.func120 (UY Tryz.f120) (G4 (lpE (b:= .loop Ju4) VY<|Jm1 f er N bf U O m r v VW UK HY F8)) (t:=need [U4 (agg [WG f,iI er,K6 N bf]),U4 (agg [iI U,iI O,XB m r v]),QS,Z6,ZI,U4 (XB m r v),U4 (m:Int),(0:Int)=(↑(0:Nat):Int),false=snB r 0 (0:Int),false=snB r 0 (1:Int),false=snB r 0 (2:Int),false=snB r 0 (3:Int),false=snB r 0 (4:Int),false=snB r 0 (5:Int),U=U,O=O,U4 (XB m r v),WG f=WG f,er=er,U4 (K6 N bf)] (leaf (RV.x (.bool (insB (0:Int) U O (1000:Int)))))) VY ?_
 exact V5
end
def Qo3(m:Nat)(r v:Nat->Int):Prop:=m<=1000/\(∀j,j<m->0<=r j/\r j<=2/\ -1000<=v j/\v j<=2000)/\ ∀j k,j<k->k<m->r j≠r k
section
variable (N:Nat)(U O:Nat->Int)(m:Nat->Nat)(g:Nat->Nat->List AV)
abbrev bgs:AV:= .lst 3 N (λk=>[i (U k),i (O k),.lst 2 (m k) (g k)])
def Qv0:Prop:= ∀k,k<N->UJ 2 (m k) (g k)/\Qo3 (m k) (col 0 (g k)) (col 1 (g k))/\insB 0 (U k) (O k) 1000=true
end
def vB(N:Nat)(bf:Nat->List AV):Prop:=N<=6/\ ∃(U O:Nat->Int) (m:Nat->Nat) (g:Nat->Nat->List AV),(∀k,k<N->bf k=[i (U k),i (O k),.lst 2 (m k) (g k)])/\Qv0 N U O m g
def Qj8:G0
 |[.agg [.lst 2 3 f,.x (.int .i64 er),.lst 3 N bf],.agg [.x (.int .i64 U),.x (.int .i64 O),.lst 2 m g]]=>some ([UJ 2 m g,Qo3 m (col 0 g) (col 1 g),insB 0 U O 1000=true],bl true)
 |_=>none
theorem Wx6:VU VT 120 Qj8:=by
 refine ⟨(UM Tryz.func120),?_⟩;intro avs ns res h I;unfold Qj8 at h;split at h
 ·cases h;have hr:_:=I _ (GK);have hr1:_:=I _ (HX _ (GK));have hr2:_:=I _ (HX _ (HX _ (GK)));exact (Wx7 _ _ _ _ _ _ _ (col 0 _) (col 1 _) hr1.1 hr1.2.1 hr1.2.2 hr2).same (.cons (.refl _) (.cons (P3.same (.cons (.refl _) (.cons (.refl _) (.cons (.lst 2 _ _ _ hr) .nil)))) .nil))
 ·cases h
def mY:G0
 |[.agg [.x (.int .i64 U),.x (.int .i64 O),.lst 2 m g],.ro [.fn (.func 120) [.agg [.lst 2 3 f,.x (.int .i64 er),.lst 3 N bf]] []]]=>some ([UJ 2 m g,Qo3 m (col 0 g) (col 1 g),insB 0 U O 1000=true],bl false)
 |_=>none
theorem Qv6(U O:Int)(m:Nat)(g:Nat->List AV)(f:Nat->List AV)(er:Int)(N:Nat)(bf:Nat->List AV)(VW:UJ 2 m g)(UK:Qo3 m (col 0 g) (col 1 g))(HY:insB 0 U O 1000=true):U2 VT 159 [.agg [i U,i O,.lst 2 m g],.ro [.fn (.func 120) [.agg [.lst 2 3 f,i er,.lst 3 N bf]] []]] (bl false):=by
 refine U6 (L:=[]) (Ae Wx6 Aa) U3 Tryz.func159 (UY Tryz.f159) U8 (t:=need [UJ 2 m g,Qo3 m (col 0 g) (col 1 g),insB (0:Int) U O (1000:Int)=true] (leaf (RV.x (.bool !true)))) VY ?_;exact V5
theorem SE:VU VT 159 mY:=by
 refine ⟨(UM Tryz.func159),?_⟩;intro avs ns res h I;unfold mY at h;split at h
 ·cases h;exact Qv6 _ _ _ _ _ _ _ _ (I _ VZ) (I _ VZ) (I _ VZ)
 ·cases h
abbrev XM(f:Nat->List AV)(er:Int)(N1:Nat)(bf:Nat->List AV):AV:=AV.fn (Fn.func 159) [] [AV.ro [AV.fn (Fn.func 120) [agg [WG f,iI er,lst 3 N1 λa=>bf a]] []]]
section
variable (N:Nat)
abbrev J5(U:Nat->Int)(O:Nat->Int)(m:Nat->Nat)(g:Nat->Nat->List AV):AV:=lst 3 N λk=>[iI (U k),iI (O k),lst 2 (m k) λa=>g k a]
def bX(U O:Nat->Int)(m:Nat->Nat)(g:Nat->Nat->List AV)(f:Nat->List AV)(er:Int)(N1:Nat)(bf:Nat->List AV):St:={σ:=[J5 N U O m g,XM f er N1 bf]++HO 5 [iI (N:Int)]++HO 11 [],m:=[],nx:=4}
noncomputable def Qm8:Code:=UE (VX (UB Tryz.f196) 0)
def OO(U O:Nat->Int)(m:Nat->Nat)(g:Nat->Nat->List AV)(f:Nat->List AV)(er:Int)(N1:Nat)(bf:Nat->List AV)(k:Nat):St:=(upM [(8,i k)] (bX N U O m g f er N1 bf))
def xU(U O:Nat->Int)(m:Nat->Nat)(g:Nat->Nat->List AV)(f:Nat->List AV)(er:Int)(N1:Nat)(bf:Nat->List AV)(k:Nat):GB->Option St
 | .exit 0=>some (upM [] (bX N U O m g f er N1 bf))
 |_=>none
def Qi0(U O:Nat->Int)(m:Nat->Nat)(g:Nat->Nat->List AV)(f:Nat->List AV)(er:Int)(N1:Nat)(bf:Nat->List AV):CT:= .leaf (.exit 0,(xU N U O m g f er N1 bf 0 (.exit 0)).getD (bX N U O m g f er N1 bf))
def nG(U O:Nat->Int)(m:Nat->Nat)(g:Nat->Nat->List AV)(f:Nat->List AV)(er:Int)(N1:Nat)(bf:Nat->List AV):UN:=(HM (OO N U O m g f er N1 bf (0)) (Qi0 N U O m g f er N1 bf))
end
theorem VK{p:Prop}(h:p:=by
 (with_reducible repeat' first|apply Al|intro _)
 all_goals first|exact Ak|(rename_i E hE;cases hE;exact hQ)|omega|rfl|assumption):p:=h
section
variable (N:Nat)(U O:Nat->Int)(m:Nat->Nat)(g:Nat->Nat->List AV)(f:Nat->List AV)(er:Int)(N1:Nat)(bf:Nat->List AV)
theorem Qx9(VW:N<=6)(UK:Qv0 N U O m g):GC VT (.loop Qm8) (nG N U O m g f er N1 bf):=by
 refine HL (L:=[]) (Ae SE Aa) U3 U8 (X:=Nat) (OO N U O m g f er N1 bf) (λk=>k<=N) (λk=>N-k) (xU N U O m g f er N1 bf) (x0:=0) VZ ?_ ?_ ?_
 ·rintro k;kernel_rfl
 ·rintro k y E h;unfold xU at h;split at h
  ·cases h;kernel_rfl
  ·cases h
 ·rintro Q hQ k hx;refine ⟨(k+1),?_⟩;(with_reducible refine DN (t:=branch (decide ((k:Int)<(N:Int))) (need [UO k N] (need [UJ 2 (m k) λa=>g k a,Qo3 (m k) (col 0 λa=>g k a) (col 1 λa=>g k a),insB (0:Int) (U k) (O k) (1000:Int)=true] (branch false VR.fail (need [VQ ((k:Int)+1)] (need [U4 (J5 N U O m g),U4 (XM f er N1 bf),U4 (N:Int),(k:Int)+1=(↑(k+1):Int)] (leaf GB.normal)))))) (need [U4 (J5 N U O m g),U4 (XM f er N1 bf),U4 (N:Int)] (leaf (GB.exit 0)))) VY ?_)
  simp only [Qi0,xU,VR.sat,GZ] at hQ;simp only [VR.sat,UF,UL,HD,VQ,xU,DR]
  refine ⟨λh=>?_,λh=>?_⟩
  ·have hk:k<N:=VO;obtain ⟨h1,h2,h3⟩:=UK k hk;all_goals exact VB
  ·obtain rfl:k=N:=VO;exact VK
abbrev KL:Value:=Value.int IntKind.i64 (-1:Int)
theorem Xo1(VW:N<=6)(UK:Qv0 N U O m g):U2 VT 196 [bgs N U O m g,.fn (.func 159) [] [.ro [.fn (.func 120) [.agg [.lst 2 3 f,i er,.lst 3 N1 bf]] []]]] (i (-1)):=by
 refine U6 (L:=[nG N U O m g f er N1 bf]) (Ae SE Aa) U3 Tryz.func196 (UY Tryz.f196) (G4 (lpE (b:= .loop Qm8) VY<|Qx9 N U O m g f er N1 bf VW UK)) (t:=need [U4 (J5 N U O m g),U4 (XM f er N1 bf),U4 (N:Int),(0:Int)=(↑(0:Nat):Int)] (leaf (RV.x (KL)))) VY ?_
 exact V5
end
def Xa2:G0
 |[.lst 3 N b,.fn (.func 159) [] [.ro [.fn (.func 120) [.agg [.lst 2 3 f,.x (.int .i64 er),.lst 3 N1 bf]] []]]]=>some ([vB N b],i (-1))
 |_=>none
theorem Xo0:VU VT 196 Xa2:=by
 refine ⟨(UM Tryz.func196),?_⟩;intro avs ns res h I;unfold Xa2 at h;split at h
 ·cases h;obtain ⟨h0,U,O,m,g,he,hb⟩:vB _ _:=I _ GK;exact (Xo1 _ U O m g _ _ _ _ h0 hb).same (.cons (.lst 3 _ _ _ he) (.cons (.refl _) .nil))
 ·cases h
theorem Wb6{N:Nat}{U O:Nat->Int}{m:Nat->Nat}{g:Nat->Nat->List AV}(h0:N<=6)(hb:Qv0 N U O m g):vB N (λk=>[i (U k),i (O k),.lst 2 (m k) (g k)]):=⟨h0,U,O,m,g,λ_ _=>rfl,hb⟩
theorem Xp0(N:Nat)(U O:Nat->Int)(m:Nat->Nat)(g:Nat->Nat->List AV)(f:Nat->List AV)(er:Int)(N1:Nat)(bf:Nat->List AV)(VW:N<=6)(UK:Qv0 N U O m g):U2 VT 158 [bgs N U O m g,.fn (.func 159) [] [.ro [.fn (.func 120) [.agg [.lst 2 3 f,i er,.lst 3 N1 bf]] []]]] (bl false):=by
 refine U6 (L:=[]) (Ae Xo0 Aa) U3 Tryz.func158 (UY Tryz.f158) U8 (t:=need [vB N λk=>[i (U k),i (O k),lst 2 (m k) (g k)]] (leaf (RV.x (.bool (decide ((-1:Int)>=(0:Int))))))) VY ?_
 simp only [VR.sat,UF,GA,GR,UI,UL,DR];exact ⟨Wb6 VW UK,rfl⟩
def Xa6:G0
 |[.lst 3 N b,.fn (.func 159) [] [.ro [.fn (.func 120) [.agg [.lst 2 3 f,.x (.int .i64 er),.lst 3 N1 bf]] []]]]=>some ([vB N b],bl false)
 |_=>none
theorem Xo9:VU VT 158 Xa6:=by
 refine ⟨(UM Tryz.func158),?_⟩;intro avs ns res h I;unfold Xa6 at h;split at h
 ·cases h;obtain ⟨h0,U,O,m,g,he,hb⟩:vB _ _:=I _ GK;exact (Xp0 _ U O m g _ _ _ _ h0 hb).same (.cons (.lst 3 _ _ _ he) (.cons (.refl _) .nil))
 ·cases h
theorem Wy1(N:Nat)(U O:Nat->Int)(m:Nat->Nat)(g:Nat->Nat->List AV)(f:Nat->List AV)(er:Int)(N1:Nat)(bf:Nat->List AV)(VW:N<=6)(UK:Qv0 N U O m g):U2 VT 119 [bgs N U O m g,.fn (.func 120) [.agg [.lst 2 3 f,i er,.lst 3 N1 bf]] []] (bl true):=by
 refine U6 (L:=[]) (Ae Xo9 Aa) U3 Tryz.func119 (UY Tryz.f119) U8 (t:=need [vB N λk=>[i (U k),i (O k),lst 2 (m k) (g k)]] (leaf (RV.x (.bool !false)))) VY ?_
 simp only [VR.sat,UF,GA,GR,UI,UL,DR];exact ⟨Wb6 VW UK,rfl⟩
def Qk0:G0
 |[.lst 3 N b,.fn (.func 120) [.agg [.lst 2 3 f,.x (.int .i64 er),.lst 3 N1 bf]] []]=>some ([vB N b],bl true)
 |_=>none
theorem Wy0:VU VT 119 Qk0:=by
 refine ⟨(UM Tryz.func119),?_⟩;intro avs ns res h I;unfold Qk0 at h;split at h
 ·cases h;obtain ⟨h0,U,O,m,g,he,hb⟩:vB _ _:=I _ GK;exact (Wy1 _ U O m g _ _ _ _ h0 hb).same (.cons (.lst 3 _ _ _ he) (.cons (.refl _) .nil))
 ·cases h
def oL(k:Nat):Int:=if k=0 then 0 else -9
def oH(k:Nat):Int:=if k=0 then 0 else 9
def ofB(f:Nat->List AV):Prop:= ∀k,k<3->f k=[i (oL k),i (oH k)]
abbrev ofs:AV:= .lst 2 3 (λk=>[i (oL k),i (oH k)])
def HI(m:Nat->Nat):Nat->Nat
 | 0=>0
 |b+1=>HI m b+m b
def GI(m:Nat->Nat):Nat->Nat->Nat×Nat
 | 0,q=>(0,q)
 |N+1,q=>if q<HI m N then GI m N q else (N,q-HI m N)
def Wf3(m:Nat->Nat)(N:Nat)(r v:Nat->Nat->Int)(q:Nat):List Value:=
 [.agg #[.int .i64 (GI m N q).1,.int .i64 (GI m N q).2],.agg #[.int .i64 (r (GI m N q).1 (GI m N q).2),.int .i64 (v (GI m N q).1 (GI m N q).2)]]
abbrev bds(N:Nat)(U O:Nat->Int)(m:Nat->Nat)(r v:Nat->Nat->Int):AV:= .lst 3 N (λk=>[i (U k),i (O k),bts (m k) (r k) (v k)])
theorem b9{P:Program}{ro:Option Nat}{cx:Cx}{c:Code}{t:Nat}{F:Nat->UN}(h: ∀k,HN P ro cx c (F k)):HN P ro cx c (BS t F):=by
 intro n s tr ht Q hQ a w r;unfold BS at ht;split at ht
 ·exact h _ n s tr ht Q hQ a w r
 ·cases ht
theorem O9(m:Nat->Nat){b c:Nat}(h:b<=c):HI m b<=HI m c:=by
 induction h with
 |refl=>exact Am _
 |step _ ih=>exact Ar ih (Nat.le_add_right _ _)
theorem Qd7(m:Nat->Nat): ∀(N b n:Nat),b<N->n<m b->GI m N (HI m b+n)=(b,n)
 | 0,_,_,h,_=>VO
 |N+1,b,n,h,I=>by
  unfold GI;rcases (show b<N\/b=N by omega) with hb|rfl
  ·have:=O9 m (show b+1<=N by omega)
   simp only [HI] at this;rw [if_pos VO,Qd7 m N b n hb I]
  ·rw [if_neg VO];simp
theorem aF(m:Nat->Nat): ∀(N q:Nat),q<HI m N->(GI m N q).1<N/\(GI m N q).2<m (GI m N q).1
 | 0,_,h=>by simp [HI] at h
 |N+1,q,h=>by
  simp only [HI] at h;unfold GI;split
  ·rename_i hq;obtain ⟨h1,h2⟩:=aF m N q hq;exact ⟨VO,h2⟩
  ·exact ⟨VZ,by simp;omega⟩
def mX:G0
 |[.agg [.x (.int .i64 a),.x (.int .i64 b)],.ro [.fn (.func 117) [] []]]=>some ([],bl (!insB (-100) a b 100))
 |_=>none
theorem Qv5(a b:Int):U2 VT 156 [.agg [i a,i b],.ro [.fn (.func 117) [] []]] (bl (!insB (-100) a b 100)):=by
 refine U6 (L:=[]) (Ae tB Aa) U3 Tryz.func156 (UY Tryz.f156) U8 (t:=leaf (RV.x (.bool !insB (-100:Int) a b (100:Int)))) VY ?_;exact V5
theorem SD:VU VT 156 mX:=by
 refine ⟨(UM Tryz.func156),?_⟩;intro avs ns res h I;unfold mX at h;split at h
 ·cases h;exact Qv5 _ _
 ·cases h
abbrev ZF:AV:=AV.fn (Fn.func 156) [] [AV.ro [AV.fn (Fn.func 117) [] []]]
def bW:St:={σ:=[lst 2 3 λk=>[iI (oL k),iI (oH k)],ZF]++HO 5 [iI (↑(3:Nat):Int)]++HO 11 [],m:=[],nx:=4}
noncomputable def Qm7:Code:=UE (VX (UB Tryz.f195) 0)
def ON(k:Nat):St:=(upM [(8,i k)] (bW))
def xT(k:Nat):GB->Option St
 | .exit 0=>some (upM [] (bW))
 |_=>none
def Qh9:CT:= .leaf (.exit 0,(xT 0 (.exit 0)).getD (bW))
def nF:UN:=(HM (ON (0)) (Qh9))
theorem Qx8:GC VT (.loop Qm7) (nF):=by
 refine HL (L:=[]) (Ae SD Aa) U3 U8 (X:=Nat) (ON) (λk=>k<=3) (λk=>3-k) (xT) (x0:=0) VZ ?_ ?_ ?_
 ·rintro k;kernel_rfl
 ·rintro k y E h;unfold xT at h;split at h
  ·cases h;kernel_rfl
  ·cases h
 ·rintro Q hQ k hx;refine ⟨(k+1),?_⟩;(with_reducible refine DN (t:=branch (decide ((k:Int)<(↑(3:Nat):Int))) (need [UO k 3] (branch (!insB (-100:Int) (oL k) (oH k) (100:Int)) VR.fail (need [VQ ((k:Int)+1)] (need [U4 (lst 2 3 λk=>[iI (oL k),iI (oH k)]),ZF=ZF,U4 (↑(3:Nat):Int),(k:Int)+1=(↑(k+1):Int)] (leaf GB.normal))))) (need [U4 (lst 2 3 λk=>[iI (oL k),iI (oH k)]),ZF=ZF,U4 (↑(3:Nat):Int)] (leaf (GB.exit 0)))) VY ?_)
  simp only [Qh9,xT,VR.sat,GZ] at hQ;simp only [VR.sat,UF,UL,HD,VQ,xT,DR]
  refine ⟨λh=>?_,λh=>?_⟩
  ·have hk:k<3:=VO;rcases (show k=0\/k=1\/k=2 by omega) with rfl|rfl|rfl<;>simp [oL,oH,insB,Bo.insB]
   all_goals exact VB
  ·obtain rfl:k=3:=VO;exact VK
theorem Xn9:U2 VT 195 [ofs,.fn (.func 156) [] [.ro [.fn (.func 117) [] []]]] (i (-1)):=by
 refine U6 (L:=[nF]) (Ae SD Aa) U3 Tryz.func195 (UY Tryz.f195) (G4 (lpE (b:= .loop Qm7) VY<|Qx8)) (t:=need [U4 (lst 2 3 λk=>[iI (oL k),iI (oH k)]),ZF=ZF,U4 (↑(3:Nat):Int),(0:Int)=(↑(0:Nat):Int)] (leaf (RV.x (KL)))) VY ?_
 exact V5
def Xa1:G0
 |[.lst 2 3 f,.fn (.func 156) [] [.ro [.fn (.func 117) [] []]]]=>some ([ofB f],i (-1))
 |_=>none
theorem Xn8:VU VT 195 Xa1:=by
 refine ⟨(UM Tryz.func195),?_⟩;intro avs ns res h I;unfold Xa1 at h;split at h
 ·cases h;have hr:_:=I _ (GK);exact (Xn9).same (.cons (.lst 2 3 _ _ hr) (.cons (.refl _) .nil))
 ·cases h
theorem Xo8:U2 VT 155 [ofs,.fn (.func 156) [] [.ro [.fn (.func 117) [] []]]] (bl false):=by
 refine U6 (L:=[]) (Ae Xn8 Aa) U3 Tryz.func155 (UY Tryz.f155) U8 (t:=need [ofB λk=>[i (oL k),i (oH k)]] (leaf (RV.x (.bool (decide ((-1:Int)>=(0:Int))))))) VY ?_
 simp only [VR.sat,UF,GA,GR,UI,UL,DR];exact ⟨λ_ _=>rfl,rfl⟩
def Xa5:G0
 |[.lst 2 3 f,.fn (.func 156) [] [.ro [.fn (.func 117) [] []]]]=>some ([ofB f],bl false)
 |_=>none
theorem Xo7:VU VT 155 Xa5:=by
 refine ⟨(UM Tryz.func155),?_⟩;intro avs ns res h I;unfold Xa5 at h;split at h
 ·cases h;have hr:_:=I _ (GK);exact (Xo8).same (.cons (.lst 2 3 _ _ hr) (.cons (.refl _) .nil))
 ·cases h
theorem Wx9:U2 VT 116 [ofs,.fn (.func 117) [] []] (bl true):=by
 refine U6 (L:=[]) (Ae Xo7 Aa) U3 Tryz.func116 (UY Tryz.f116) U8 (t:=need [ofB λk=>[i (oL k),i (oH k)]] (leaf (RV.x (.bool !false)))) VY ?_
 simp only [VR.sat,UF,GA,GR,UI,UL,DR];exact ⟨λ_ _=>rfl,rfl⟩
def Qj9:G0
 |[.lst 2 3 f,.fn (.func 117) [] []]=>some ([ofB f],bl true)
 |_=>none
theorem Wx8:VU VT 116 Qj9:=by
 refine ⟨(UM Tryz.func116),?_⟩;intro avs ns res h I;unfold Qj9 at h;split at h
 ·cases h;have hr:_:=I _ (GK);exact (Wx9).same (.cons (.lst 2 3 _ _ hr) (.cons (.refl _) .nil))
 ·cases h
def mZ:G0
 |[.agg [.lst 2 3 f,.x (.int .i64 1),.lst 3 N bf]]=>some ([ofB f,vB N bf],i 0)
 |_=>none
abbrev X2:Value:=Value.int IntKind.i64 (0:Int)
abbrev JY:Value:=Value.int IntKind.i64 (1:Int)
abbrev KN:Value:=Value.int IntKind.i64 (3:Int)
theorem Qv8(f:Nat->List AV)(N:Nat)(bf:Nat->List AV)(VW:ofB f)(UK:vB N bf):U2 VT 91 [.agg [.lst 2 3 f,i 1,.lst 3 N bf]] (i 0):=by
 refine U6 (L:=[]) (Ae Wx8 (Ae Wy0 (Ae jJ Aa))) U3 Tryz.func91 (UY Tryz.f91) U8 (t:=branch (decide ((↑(3:Nat):Int)>6)) (leaf (RV.x (KN))) (branch (decide ((N:Int)>6)) (leaf (RV.x (KN))) (branch ((↑(3:Nat):Int)==0) (leaf (RV.x (JY))) (need [ofB f] (branch (!true) (leaf (RV.x (JY))) (branch (!bt (0:Int) (1:Int) (20:Int)) (leaf (RV.x (JY))) (need [vB N bf] (branch (!true) (leaf (RV.x (JY))) (leaf (RV.x (X2))))))))))) VY ?_;simp only [VR.sat,UF,GA,GR,UI,UL,DR];have h6:=UK.1;simp [bt,Bo.bt,VW,UK];omega
theorem Qv7:VU VT 91 mZ:=by
 refine ⟨(UM Tryz.func91),?_⟩;intro avs ns res h I;unfold mZ at h;split at h
 ·cases h;exact Qv8 _ _ _ (I _ VZ) (I _ VZ)
 ·cases h
def MM:G0
 |[.agg [.lst 2 3 f,.x (.int .i64 er),.lst 3 N bf]]=>some ([],.fn (.func 162) [] [.ro [.lst 2 3 f,i er,.lst 3 N bf]])
 |_=>none
abbrev WD:Ext:={}
theorem Qv1(f:Nat->List AV)(er:Int)(N:Nat)(bf:Nat->List AV):FH VT 121 [.agg [.lst 2 3 f,i er,.lst 3 N bf]] (.fn (.func 162) [] [.ro [.lst 2 3 f,i er,.lst 3 N bf]]):=by
 refine D2 (L:=[]) Aa Ad U3 Tryz.func121 (UY Tryz.f121) G9 (t:=leaf (AV.fn (Fn.func 162) [] [AV.ro [WG f,iI er,K6 N bf]])) VY ?_;exact rfl
theorem M3:P7 VT 121 MM:=by
 refine ⟨(UM Tryz.func121),?_⟩;intro avs ns res h I;unfold MM at h;split at h
 ·cases h;exact Qv1 _ _ _ _
 ·cases h
abbrev Q1(N:Nat)(U:Nat->Int)(O:Nat->Int)(m:Nat->Nat)(r:Nat->Nat->Int)(v:Nat->Nat->Int):AV:=lst 3 N λk=>[iI (U k),iI (O k),lst 2 (m k) λj=>[iI (r k j),iI (v k j)]]
section
variable (l:Nat)(f:Nat->List AV)(er:Int)(N:Nat)(U O:Nat->Int)(m:Nat->Nat)(r v:Nat->Nat->Int)
def nT:St:={σ:=[AV.fn (Fn.yield l) [] [],AV.ro [WG f,iI er,Q1 N U O m r v]]++HO 6 [Q1 N U O m r v,iI (N:Int)]++HO 22 [],m:=[],nx:=4,gh:=some 0}
noncomputable def nV:Code:=UE (VX (UB Tryz.f162) 0)
def AK(b:Nat):St:={σ:=H6 [(3,.top),(4,.top),(5,.top),(6,.top),(10,i b)] (nT l f er N U O m r v).σ,m:=[],nx:=0,gh:=some (HI m b) }
def wI(b:Nat):GB->Option St
 | .exit 0=>some {σ:=H6 [(3,.top),(4,.top),(5,.top),(6,.top),(10,i N)] (nT l f er N U O m r v).σ,m:=[],nx:=0,gh:=some (HI m N) }
 | .ret=>some {σ:=H6 [(3,.top),(4,.top),(5,.top),(6,.top)] (nT l f er N U O m r v).σ,m:=[],nx:=0,gh:=none}
 |_=>none
def Xw6:CT:= .may True (.leaf (.exit 0,(wI l f er N U O m r v 0 (.exit 0)).getD (nT l f er N U O m r v))) (.leaf (.ret,(wI l f er N U O m r v 0 .ret).getD (nT l f er N U O m r v)))
def Xc9:UN:=GO [] (HM (AK l f er N U O m r v (0)) (Xw6 l f er N U O m r v))
end
abbrev JW(m:Nat->Nat)(b:Nat)(r:Nat->Nat->Int)(v:Nat->Nat->Int):AV:=lst 2 (m b) λj=>[iI (r b j),iI (v b j)]
section
variable (l:Nat)(f:Nat->List AV)(er:Int)(N:Nat)(U O:Nat->Int)(m:Nat->Nat)(r v:Nat->Nat->Int)(b:Nat)
def nU:St:={σ:=[AV.fn (Fn.yield l) [] [],AV.ro [WG f,iI er,Q1 N U O m r v],top,iI (b:Int),ptr 4 0,top,top,top,Q1 N U O m r v,iI (N:Int),iI (b:Int)]++HO 5 [JW m b r v,iI (↑(m b):Int)]++HO 14 [],m:=[(4,GU.cells 75 [iI (U b),iI (O b),JW m b r v])],nx:=11,gh:=some (HI m b) }
noncomputable def Xf5:Code:=UE (VX nV 0)
def AL(n:Nat):St:={σ:=H6 [(4,.top),(5,.top),(6,.top),(18,i n)] (nU l f er N U O m r v b).σ,m:=[],nx:=0,gh:=some (HI m b+n) }
def wJ(n:Nat):GB->Option St
 | .exit 2=>some {σ:=H6 [(3,.top),(4,.top),(5,.top),(6,.top),(18,i (m b))] (nU l f er N U O m r v b).σ,m:=[],nx:=0,gh:=some (HI m (b+1)) }
 | .ret=>some {σ:=H6 [(3,.top),(4,.top),(5,.top),(6,.top)] (nU l f er N U O m r v b).σ,m:=[],nx:=0,gh:=none}
 |_=>none
def Xw7:CT:= .may True (.leaf (.exit 2,(wJ l f er N U O m r v b 0 (.exit 2)).getD (nU l f er N U O m r v b))) (.leaf (.ret,(wJ l f er N U O m r v b 0 .ret).getD (nU l f er N U O m r v b)))
def tZ:UN:=GO [] (HM (AL l f er N U O m r v b (0)) (Xw7 l f er N U O m r v b))
end
abbrev W6(l:Nat):Prop:=AV.fn (Fn.yield l) [] []=AV.fn (Fn.yield l) [] []
abbrev WU(N:Nat)(U:Nat->Int)(O:Nat->Int)(m:Nat->Nat)(r:Nat->Nat->Int)(v:Nat->Nat->Int):Prop:=(Q1 N U O m r v)=Q1 N U O m r v
abbrev J2(f:Nat->List AV)(er:Int)(N:Nat)(U:Nat->Int)(O:Nat->Int)(m:Nat->Nat)(r:Nat->Nat->Int)(v:Nat->Nat->Int):Prop:=AV.ro [WG f,iI er,Q1 N U O m r v]=AV.ro [WG f,iI er,Q1 N U O m r v]
section
variable (l:Nat)(f:Nat->List AV)(er:Int)(N:Nat)(U O:Nat->Int)(m:Nat->Nat)(r v:Nat->Nat->Int)
theorem Zj4(b:Nat)(VW:N<=1000)(UK: ∀b,b<N->m b<=1000)(HY:b<N){cx:Cx}(hX:U1 VT {Y:=some (l,(HI m N),(Wf3 m N r v)) } cx):HN VT none cx (.loop Xf5) (tZ l f er N U O m r v b):=by
 refine F5 [] (L:=[]) Aa hX U3 G9 (V:=Nat) (AL l f er N U O m r v b) (λn=>n<=m b) (λn=>m b-n) (wJ l f er N U O m r v b) (x0:=0) VZ ?_ ?_ ?_
 ·rintro n;kernel_rfl
 ·rintro n y E h;unfold wJ at h;split at h
  ·cases h;kernel_rfl
  ·cases h;kernel_rfl
  ·cases h
 ·rintro Q hQ n hx;refine ⟨(n+1),?_⟩;have e:HR VT [] {Y:=some (l,(HI m N),(Wf3 m N r v)) } [] [] Xf5 (AL l f er N U O m r v b n) (AL l f er N U O m r v b ((n+1))) (wJ l f er N U O m r v b n)=(let z0:=(GI m N (HI m b+n));(branch (decide ((n:Int)<(↑(m b):Int))) (need [UO n (↑(m b):Int)] (need [l=l,HI m b+n<HI m N,[Value.agg {toList:=[Value.int IntKind.i64 (b:Int),Value.int IntKind.i64 (n:Int)] },Value.agg {toList:=[Value.int IntKind.i64 (r b n),Value.int IntKind.i64 (v b n)] }]=[Value.agg {toList:=[Value.int IntKind.i64 (↑(Prod.fst z0):Int),Value.int IntKind.i64 (↑(Prod.snd z0):Int)] },Value.agg {toList:=[Value.int IntKind.i64 (r (Prod.fst z0) (Prod.snd z0)),Value.int IntKind.i64 (v (Prod.fst z0) (Prod.snd z0))] }]] (VR.may True (need [VQ ((n:Int)+1)] (need [W6 l,J2 f er N U O m r v,U4 (b:Int),WU N U O m r v,U4 (N:Int),U4 (b:Int),U4 (JW m b r v),U4 (↑(m b):Int),(n:Int)+1=(↑(n+1):Int),HI m b+n+1=HI m b+(n+1)] (leaf GB.normal))) (need [W6 l,J2 f er N U O m r v,WU N U O m r v,U4 (N:Int),U4 (b:Int),U4 (JW m b r v),U4 (↑(m b):Int)] (leaf GB.ret))))) (need [W6 l,J2 f er N U O m r v,WU N U O m r v,U4 (N:Int),U4 (b:Int),U4 (JW m b r v),U4 (↑(m b):Int),(n:Int)=(↑(m b):Int),HI m b+n=HI m (b+1)] (leaf (GB.exit 2))))):=VY;rw [e];simp only [Xw7,wJ,VR.sat,GZ] at hQ;have hQ1: ∀E,wJ l f er N U O m r v b n (.exit 2)=some E->Q (.exit 2,E):=λE hE=>by cases hE;exact hQ.1 trivial
  have hQ2: ∀E,wJ l f er N U O m r v b n .ret=some E->Q (.ret,E):=λE hE=>by cases hE;exact hQ.2
  simp only [VR.sat,UF,UL,HD,VQ,DR];clear e hQ;have h3:=UK b HY;refine ⟨λh=>?_,λh=>?_⟩
  ·have hk:n<m b:=VO;have h1:=O9 m (show b+1<=N by omega)
   simp only [HI] at h1;rw [Qd7 m N b n HY hk];all_goals exact VB
  ·obtain rfl:n=m b:=VO;all_goals exact VB
theorem Zj3(VW:N<=1000)(UK: ∀b,b<N->m b<=1000){cx:Cx}(hX:U1 VT {Y:=some (l,(HI m N),(Wf3 m N r v)) } cx):HN VT none cx (.loop nV) (Xc9 l f er N U O m r v):=by
 refine F5 [] (L:=[BS 10 (λb=>FV [b<N] (tZ l f er N U O m r v b))]) Aa hX U3 (G4 (λcj hcj=>by
  have e:VX nV 0=some (.loop Xf5):=VY;rw [e] at hcj;cases hcj;exact b9 (λb=>xD (λh=>Zj4 l f er N U O m r v b VW UK h hX)))) (V:=Nat) (AK l f er N U O m r v) (λb=>b<=N) (λb=>N-b) (wI l f er N U O m r v) (x0:=0) VZ ?_ ?_ ?_
 ·rintro b;kernel_rfl
 ·rintro b y E h;unfold wI at h;split at h
  ·cases h;kernel_rfl
  ·cases h;kernel_rfl
  ·cases h
 ·rintro Q hQ b hx;refine ⟨(b+1),?_⟩;have e:HR VT [] {Y:=some (l,(HI m N),(Wf3 m N r v)) } [BS 10 (λb=>FV [b<N] (tZ l f er N U O m r v b))] [] nV (AK l f er N U O m r v b) (AK l f er N U O m r v ((b+1))) (wI l f er N U O m r v b)=(let z0:=J2 f er N U O m r v;(branch (decide ((b:Int)<(N:Int))) (need [UO b N] (need [b<N] (need [W6 l,z0,U4 (b:Int),WU N U O m r v,U4 (N:Int),U4 (b:Int),U4 (lst 2 (m b) λj=>[iI (r b j),iI (v b j)]),U4 (↑(m b):Int),(0:Int)=(↑(0:Nat):Int),HI m b=HI m b+0] (VR.may True (need [VQ ((b:Int)+1)] (need [W6 l,z0,WU N U O m r v,U4 (N:Int),(b:Int)+1=(↑(b+1):Int),U4 (HI m (b+1))] (leaf GB.normal))) (need [W6 l,z0,WU N U O m r v,U4 (N:Int)] (leaf GB.ret)))))) (need [W6 l,z0,WU N U O m r v,U4 (N:Int),(b:Int)=(N:Int),HI m b=HI m N] (leaf (GB.exit 0))))):=VY
  rw [e];simp only [Xw6,wI,VR.sat,GZ] at hQ;have hQ1: ∀E,wI l f er N U O m r v b (.exit 0)=some E->Q (.exit 0,E):=λE hE=>by cases hE;exact hQ.1 trivial
  have hQ2: ∀E,wI l f er N U O m r v b .ret=some E->Q (.ret,E):=λE hE=>by cases hE;exact hQ.2
  simp only [VR.sat,UF,UL,HD,VQ,DR];clear e hQ;refine ⟨λh=>?_,λh=>?_⟩
  ·have h3:=UK b VO;all_goals exact VB
  ·obtain rfl:b=N:=VO;all_goals exact VB
end
theorem mC(f:Nat->List AV)(er:Int)(N:Nat)(U O:Nat->Int)(m:Nat->Nat)(r v:Nat->Nat->Int)(VW:N<=1000)(UK: ∀b,b<N->m b<=1000):PQ Tryz.prog 162 [.ro [.lst 2 3 f,i er,bds N U O m r v]] ((HI m N)) (Wf3 m N r v):=by
 refine PF (L:=λl=>[Xc9 l f er N U O m r v]) Aa U3 (UM Tryz.func162) Tryz.func162 (UY Tryz.f162) VY (λl cx hX=>G4 (lpE (b:= .loop nV) VY<|Zj3 l f er N U O m r v VW UK hX)) (t:=λl=>(need [U4 (AV.fn (Fn.yield l) [] []),J2 f er N U O m r v,WU N U O m r v,U4 (N:Int),(0:Int)=(↑(0:Nat):Int),0=HI m 0] (VR.may True (need [U4 (HI m N)] (leaf PUnit.unit)) (leaf PUnit.unit)))) (λl=>VY) ?_
 intro l;simp only [VR.sat,UF,GA,GR,UI,VQ,UL,HD,RF];all_goals exact VB
def plF(m:Nat->Nat)(N:Nat)(q:Nat):List AV:=[i (GI m N q).1,i (GI m N q).2]
theorem a7(m:Nat->Nat){K:Nat}: ∀(N:Nat),(∀b,b<N->m b<=K)->HI m N<=N*K
 | 0,_=>by simp [HI]
 |N+1,h=>by
  have:=a7 m N (λb hb=>h b VO)
  have:=h N VO;simp only [HI,Bq];omega
abbrev QD:AV:=AV.x (.pointer none)
def Jq7(f:Nat->List AV)(er:Int)(N:Nat)(U O:Nat->Int)(m:Nat->Nat)(r v:Nat->Nat->Int):St:={σ:=[agg [WG f,iI er,Q1 N U O m r v],ptr 0 0,QD,ptr 6 0]++HO 6 [AV.fn (Fn.func 162) [] [AV.ro [WG f,iI er,Q1 N U O m r v]]]++HO 13 [],m:=[(901,GU.row 234 2 0 λx=>[]),(6,GU.cells 186 [ptr 5 0]),(5,GU.cells 229 [WG f,iI er,Q1 N U O m r v,AV.row 901,AV.mp 3]),(3,GU.memo (λx=>False) λv=>v),(0,GU.cells 103 [WG f,iI er,Q1 N U O m r v])],nx:=902}
def rfF:Option Code->Operand
 |some (.rangeFunc f _ _ _)=>f
 |_=> .const .nilFunc
def zS:Option Code->Array Nat
 |some (.rangeFunc _ ps _ _)=>ps
 |_=>#[]
def MZ:Option Code->Code
 |some (.rangeFunc _ _ a _)=>a
 |_=> .skip
def MY:Option Code->Code
 |some (.rangeFunc _ _ _ b)=>b
 |_=> .skip
noncomputable def Ju6:Code:=MZ (VX (UB Tryz.f92) 0)
noncomputable def Jr4:Code:=MY (VX (UB Tryz.f92) 0)
section
variable (f:Nat->List AV)(er:Int)(N:Nat)(U O:Nat->Int)(m:Nat->Nat)(r v:Nat->Nat->Int)
def pR(k:Nat):St:={σ:=H6 [] (Jq7 f er N U O m r v).σ,m:=[(901,.row 234 2 (k) (plF m N)),(6,.cells 186 [.ptr 5 0]),(5,.cells 229 [.lst 2 3 f,i er,bds N U O m r v,.row 901,.mp 3]),(3,.memo (λ_=>False) (λx=>x)),(0,.cells 103 [.lst 2 3 f,i er,bds N U O m r v])],nx:=902}
def oX(k:Nat):GB->Option St
 | .normal=>some {σ:=H6 [] (Jq7 f er N U O m r v).σ,m:=[(901,.row 234 2 ((HI m N)) (plF m N)),(6,.cells 186 [.ptr 5 0]),(5,.cells 229 [.lst 2 3 f,i er,bds N U O m r v,.row 901,.mp 3]),(3,.memo (λ_=>False) (λx=>x)),(0,.cells 103 [.lst 2 3 f,i er,bds N U O m r v])],nx:=902}
 |_=>none
def T_wr:CT:= .leaf (.normal,pR f er N U O m r v (HI m N))
def Xx8:UN:=GO [(.cell 5 3,901,234,2)] (HM (pR f er N U O m r v (0)) (T_wr f er N U O m r v))
abbrev WI:Prop:=AV.row 901=AV.row 901
abbrev ZO:Prop:=ptr 5 0=ptr 5 0
abbrev YT:Prop:=ptr 6 0=ptr 6 0
abbrev YZ:Ext:={R:=[(121,MM)],H:=[] }
theorem Zw2(VW:N<=1000)(UK: ∀b,b<N->m b<=1000):HP VT (.rangeFunc (rfF (VX (UB Tryz.f92) 0)) (zS (VX (UB Tryz.f92) 0)) Ju6 Jr4) (Xx8 f er N U O m r v):=by
 refine LI [(.cell 5 3,901,234,2)] (L:=[]) Aa (Ai (Af M3 Ab) Ac) U3 U8 (V:=Nat) (pR f er N U O m r v) (λk=>k<=(HI m N)) (λk=>k) (oX f er N U O m r v) (x0:=0) VZ rfl ?_ ?_ ?_ ?_ (g:=162) (caps:=[.ro [.lst 2 3 f,i er,bds N U O m r v]]) VY VY (mC f er N U O m r v VW UK) (λ_=>rfl) ?_
 ·rintro k;kernel_rfl
 ·rintro k y E h;unfold oX at h;split at h
  ·cases h;kernel_rfl
  ·cases h
 ·rintro k;rfl
 ·rintro k y E h;unfold oX at h;split at h
  ·cases h;rfl
  ·cases h
 ·rintro Q hQ k hx;refine ⟨λhlt=>⟨(k+1),rfl,?_⟩,λPL=>?_⟩
  ·(with_reducible refine DN (t:=need [(k+1)*16<=140737488355328,L1 1 (UA 2 [iI (↑(Prod.fst (GI m N k)):Int),iI (↑(Prod.snd (GI m N k)):Int)])] (need [U4 (agg [WG f,iI er,Q1 N U O m r v]),QS,QD=QD,YT,U4 (AV.fn (Fn.func 162) [] [AV.ro [WG f,iI er,Q1 N U O m r v]]),k+1=k+1,H2 (k+1) (GM k (plF m N) (UA 2 [iI (↑(Prod.fst (GI m N k)):Int),iI (↑(Prod.snd (GI m N k)):Int)])) (plF m N),ZO,WG f=WG f,er=er,WU N U O m r v,WI,U4 (AV.mp 3),∀(k:Value),False->False/\k=k,WG f=WG f,er=er,WU N U O m r v] (leaf GB.normal))) VY ?_);have hb:=a7 m N UK;have hb2:=BP 1000 VW;simp only [VR.sat,UF,UL]
   (with_reducible repeat' first|apply Al|intro _)
   all_goals first|exact Ak|rfl|omega|exact FU (by assumption) (by simp [AV.one,Value.oneCell'])|exact Zq4 rfl rfl (by assumption)|contradiction
  ·subst PL;exact hQ
end
abbrev Q2(m:Nat->Nat)(N:Nat):AV:=lst 2 (HI m N) λq=>[iI (↑(Prod.fst (GI m N q)):Int),iI (↑(Prod.snd (GI m N q)):Int)]
theorem Ww6(f:Nat->List AV)(er:Int)(N:Nat)(U O:Nat->Int)(m:Nat->Nat)(r v:Nat->Nat->Int)(VW:N<=1000)(UK: ∀b,b<N->m b<=1000):FH VT 92 [.agg [.lst 2 3 f,i er,bds N U O m r v]] (.ro [.lst 2 3 f,i er,bds N U O m r v,.lst 2 (HI m N) (plF m N),.top]):=by
 refine D2 (L:=[Xx8 f er N U O m r v]) Aa (Ai (Af M3 Ab) Ac) U3 Tryz.func92 (UY Tryz.f92) (G4 (lpE (b:= .rangeFunc (rfF (VX (UB Tryz.f92) 0)) (zS (VX (UB Tryz.f92) 0)) Ju6 Jr4) VY<|Zw2 f er N U O m r v VW UK)) (t:=need [U4 (agg [WG f,iI er,Q1 N U O m r v]),QS,QD=QD,YT,U4 (AV.fn (Fn.func 162) [] [AV.ro [WG f,iI er,Q1 N U O m r v]]),0=0,H2 0 (λi=>[]) (plF m N),ZO,WG f=WG f,er=er,WU N U O m r v,WI,U4 (AV.mp 3),∀(k:Value),False->False/\k=k,WG f=WG f,er=er,WU N U O m r v] (leaf (AV.ro [WG f,iI er,Q1 N U O m r v,Q2 m N,top]))) VY ?_
 simp only [VR.sat,UF,GA,GR,UI,VQ,UL,HD,RF];all_goals exact VB
noncomputable def Qm1:D7:=AC Tryz.prog [(124,y9)] {} [] Tryz.f122 (UB Tryz.f122)
theorem RQ:GG VT 122 Qm1:=
 RP (G:=[(124,y9)]) (X:=WD) (L:=[]) (Ae RC Aa) Ad U3 (UM Tryz.func122) Tryz.func122 (UY Tryz.f122) U8
def G8(M:Nat->Nat->Int)(k:Nat):Int:=M (k / 13) (k%13)
def P1(k j:Nat):Nat->Nat->Int:=λx y=>if ((x<k/\y<=12)\/(x=k/\y<j))/\x≠y then 8000 else 0
def spn(M:Nat->Nat->Int)(a b:Nat)(U O:Int):Nat->Nat->Int:=bnd (bnd M a b O) b a (-U)
def ofM:Nat->Nat->Nat->Int
 | 0=>P1 13 0
 |k+1=>spn (ofM k) 0 (1+k) (-oH k) (-oL k)
def btM(U O:Nat->Int):Nat->Nat->Nat->Int
 | 0=>ofM 3
 |k+1=>spn (btM U O k) 0 (7+k) (U k) (O k)
def rdM1(N:Nat)(m:Nat->Nat)(r v:Nat->Nat->Int)(M:Nat->Nat->Int)(q:Nat):Nat->Nat->Int:=
 spn M (1+(r (GI m N q).1 (GI m N q).2).toNat) (7+(GI m N q).1) (v (GI m N q).1 (GI m N q).2-1) (v (GI m N q).1 (GI m N q).2+1)
def A3(N:Nat)(U O:Nat->Int)(m:Nat->Nat)(r v:Nat->Nat->Int):Nat->Nat->Nat->Int
 | 0=>btM U O N
 |q+1=>rdM1 N m r v (A3 N U O m r v q) q
def bOK(N:Nat)(U O:Nat->Int)(m:Nat->Nat)(r v:Nat->Nat->Int):Prop:=N<=6/\ ∀b,b<N->m b<=10/\0<=U b/\U b<=O b/\O b<=1000/\ ∀j,j<m b->0<=r b j/\r b j<=2/\ -1000<=v b j/\v b j<=2000
theorem Xm9: ∀k,UD (List.replicate 169 0) k=G8 (P1 0 0) k:=by
 intro k;rw [dG (by decide)]
 simp [G8,P1]
theorem yQ(M:Nat->Nat->Int){a b q:Nat}(hq:q=a*13+b)(hb:b<13):G8 M q=M a b:=by
 unfold G8;rw [show q / 13=a by omega,show q%13=b by omega]
theorem fL{M M':Nat->Nat->Int}(h: ∀x y,x<13->y<13->M x y=M' x y){k:Nat}(hk:k<169):G8 M k=G8 M' k:=h _ _ VO VO
theorem Qf7(M:Nat->Nat->Int){a b q:Nat}(hq:q=a*13+b)(hb:b<13)(v:Int):UV q v (G8 M)=G8 (xN M a b v):=by
 funext k;unfold UV G8 xN;by_cases hk:k=q
 ·rw [if_pos hk,if_pos VO]
 ·rw [if_neg hk,if_neg VO]
theorem jG{M:Nat->Nat->Int}{a b q:Nat}{v:Int}(hq:q=a*13+b)(hb:b<13):UV q (min (G8 M q) v) (G8 M)=G8 (bnd M a b v):=by
 rw [yQ M hq hb,Qf7 M hq hb];rfl
theorem Qr4(k j:Nat)(hj:j<=12)(h:k≠j)(x y:Nat):xN (P1 k j) k j 8000 x y=P1 k (j+1) x y:=by
 unfold xN P1;split
 ·rename_i hxy;rw [if_pos ⟨.inr VO,VO⟩]
 ·rename_i hxy;by_cases h1:((x<k/\y<=12)\/(x=k/\y<j))/\x≠y
  ·rw [if_pos h1,if_pos VO]
  ·rw [if_neg h1,if_neg VO]
theorem Qr5(k:Nat)(x y:Nat):P1 k k x y=P1 k (k+1) x y:=by
 unfold P1;by_cases h1:((x<k/\y<=12)\/(x=k/\y<k))/\x≠y
 ·rw [if_pos h1,if_pos VO]
 ·rw [if_neg h1,if_neg VO]
theorem Wo3(k:Nat)(x y:Nat):P1 k 13 x y=P1 (k+1) 0 x y:=by
 unfold P1;by_cases h1:((x<k/\y<=12)\/(x=k/\y<13))/\x≠y
 ·rw [if_pos h1,if_pos VO]
 ·rw [if_neg h1,if_neg VO]
abbrev QC:List AV:=[AV.x (.int IntKind.u64 (0:Int))]
abbrev QM:List Int:=([(0:Int)]++cC 168)
abbrev Y0:GU:=GU.cells 191 QC
section
variable (N:Nat)(U O:Nat->Int)(m:Nat->Nat)(r v:Nat->Nat->Int)
def Zu7:St:={σ:=[AV.ro [lst 2 3 λk=>[iI (oL k),iI (oH k)],iI 1,Q1 N U O m r v,Q2 m N,top],agg QC,top,ptr 0 0,QD,AV.lit false,ptr 4 0]++HO 184 [],m:=[(4,GU.ints 237 [] 169 λa=>UD QM a),(0,Y0)],nx:=7}
noncomputable def Zv7:Code:=UE (VX (UB Tryz.f93) 0)
def Wn4(k:Nat):St:=(upE [(22,i k)] [(4,.ints 237 [] 169 (G8 (P1 k 0))),(0,.cells 191 [.x (.int .u64 0)])] (Zu7 N U O m r v))
def EG(k:Nat):GB->Option St
 | .exit 0=>some (upE [(22,i 13)] [(4,.ints 237 [] 169 (G8 (P1 13 0))),(0,.cells 191 [.x (.int .u64 0)])] (Zu7 N U O m r v))
 |_=>none
def Jq0:CT:= .leaf (.exit 0,(EG N U O m r v 0 (.exit 0)).getD (Zu7 N U O m r v))
def Zb3:UN:=GO [] (HM (Wn4 N U O m r v (0)) (Jq0 N U O m r v))
def Zu6(k:Nat):St:={σ:=[AV.ro [lst 2 3 λk=>[iI (oL k),iI (oH k)],iI 1,Q1 N U O m r v,Q2 m N,top],agg QC,top,ptr 0 0,QD,AV.lit false,ptr 4 0,iI (k:Int)]++HO 14 [iI (k:Int)]++HO 168 [],m:=[(4,GU.ints 237 [] 169 λk_1=>G8 (P1 k 0) k_1),(0,Y0)],nx:=11}
noncomputable def Ju0:Code:=(UE (VX (UE (VX (UB Tryz.f93) 0)) 0))
def Wn3(k:Nat)(j:Nat):St:=(upE [(25,i j)] [(4,.ints 237 [] 169 (G8 (P1 k j))),(0,.cells 191 [.x (.int .u64 0)])] (Zu6 N U O m r v k))
def EE(k:Nat)(j:Nat):GB->Option St
 | .exit 2=>some (upE [(25,i 13)] [(4,.ints 237 [] 169 (G8 (P1 k 13))),(0,.cells 191 [.x (.int .u64 0)])] (Zu6 N U O m r v k))
 |_=>none
def Jp9(k:Nat):CT:= .leaf (.exit 2,(EE N U O m r v k 0 (.exit 2)).getD (Zu6 N U O m r v k))
def Zb2(k:Nat):UN:=GO [] (HM (Wn3 N U O m r v k (0)) (Jp9 N U O m r v k))
abbrev QY:Prop:=(0:Int)=0
abbrev W7:Prop:=ptr 4 0=ptr 4 0
abbrev WL:List (Nat×G0):=[(70,bP),(123,bQ),(124,y9)]
abbrev WO:Prop:=AV.lit false=AV.lit false
noncomputable abbrev X3:Ext:={R:=[],H:=[(122,Qm1)] }
theorem Jk6(k:Nat)(VW:k<=12):GC VT (.loop Ju0) (Zb2 N U O m r v k):=by
 refine G7 [] (L:=[]) (Ae RM (Ae P2 (Ae RC Aa))) (Ai Ab (Ag RQ Ac)) U3 U8 (X:=Nat) (Wn3 N U O m r v k) (λj=>j<=13) (λj=>13-j) (EE N U O m r v k) (x0:=0) VZ ?_ ?_ ?_
 ·rintro j;kernel_rfl
 ·rintro j y E h;unfold EE at h;split at h
  ·cases h;kernel_rfl
  ·cases h
 ·rintro Q hQ j hx;refine ⟨(j+1),?_⟩;(with_reducible refine DN (t:=let z0:=(U4 (AV.ro [lst 2 3 λk=>[iI (oL k),iI (oH k)],iI 1,Q1 N U O m r v,Q2 m N,top]));(branch (decide ((j:Int)<13)) (branch ((k:Int) != (j:Int)) (need [UO k 13] (need [UO j 13] (need [j*1+(k*13+0)+1<=169] (need [VQ ((j:Int)+1)] (need [z0,U4 (agg QC),QS,QD=QD,WO,W7,U4 (k:Int),U4 (k:Int),(j:Int)+1=(↑(j+1):Int),169=169,H2 169 (UV (j*1+(k*13+0)) (8000:Int) (G8 (P1 k j))) (G8 (P1 k (j+1))),QY] (leaf GB.normal)))))) (need [VQ ((j:Int)+1)] (need [z0,U4 (agg QC),QS,QD=QD,WO,W7,U4 (k:Int),U4 (k:Int),(j:Int)+1=(↑(j+1):Int),169=169,H2 169 (G8 (P1 k j)) (G8 (P1 k (j+1))),QY] (leaf GB.normal)))) (need [z0,U4 (agg QC),QS,QD=QD,WO,W7,U4 (k:Int),U4 (k:Int),(j:Int)=13,169=169,H2 169 (G8 (P1 k j)) (G8 (P1 k 13)),QY] (leaf (GB.exit 2))))) VY ?_)
  simp only [Jp9,EE,VR.sat,GZ] at hQ;simp only [VR.sat,UF,GA,GR,UI,VQ,UL,HD,RF,RG,L9,GT,EE]
  refine ⟨λh=>⟨λhne=>?_,λheq=>?_⟩,λh=>?_⟩
  ·have h3: ∀M w,UV (j*1+(k*13+0)) w (G8 M)=G8 (xN M k j w):=λM w=>Qf7 M VO VO w
   simp only [h3]
   (with_reducible repeat' first|apply Al|intro _)
   all_goals first|exact PU|(exact fL (λx y _ _=>Qr4 k j VO VO x y) (by assumption))
  ·obtain rfl:k=j:=VO
   (with_reducible repeat' first|apply Al|intro _)
   all_goals first|exact PU|(exact fL (λx y _ _=>Qr5 k x y) (by assumption))
  ·obtain rfl:j=13:=VO;exact V4
theorem Jk7:GC VT (.loop Zv7) (Zb3 N U O m r v):=by
 refine G7 [] (L:=[BS 22 (λk=>FV [k<=12] (Zb2 N U O m r v k))]) (Ae RM (Ae P2 (Ae RC Aa))) (Ai Ab (Ag RQ Ac)) U3 (G4 (λcj hcj=>by
  have e:VX Zv7 0=some (.loop Ju0):=VY;rw [e] at hcj;cases hcj;exact PA (λk=>D9 (λh=>Jk6 N U O m r v k h)))) (X:=Nat) (Wn4 N U O m r v) (λk=>k<=13) (λk=>13-k) (EG N U O m r v) (x0:=0) VZ ?_ ?_ ?_
 ·rintro k;kernel_rfl
 ·rintro k y E h;unfold EG at h;split at h
  ·cases h;kernel_rfl
  ·cases h
 ·rintro Q hQ k hx;refine ⟨(k+1),?_⟩;(with_reducible refine DN (t:=let z0:=(U4 (AV.ro [lst 2 3 λk=>[iI (oL k),iI (oH k)],iI 1,Q1 N U O m r v,Q2 m N,top]));(branch (decide ((k:Int)<13)) (need [k<=12] (need [z0,U4 (agg QC),QS,QD=QD,WO,W7,U4 (k:Int),U4 (k:Int),(0:Int)=(↑(0:Nat):Int),169=169,GV 169 (G8 (P1 k 0)),QY] (need [VQ ((k:Int)+1)] (need [z0,U4 (agg QC),QS,QD=QD,WO,W7,(k:Int)+1=(↑(k+1):Int),169=169,H2 169 (G8 (P1 k 13)) (G8 (P1 (k+1) 0)),QY] (leaf GB.normal))))) (need [z0,U4 (agg QC),QS,QD=QD,WO,W7,(k:Int)=13,169=169,H2 169 (G8 (P1 k 0)) (G8 (P1 13 0)),QY] (leaf (GB.exit 0))))) VY ?_)
  simp only [Jq0,EG,VR.sat,GZ] at hQ;simp only [VR.sat,UF,GA,GR,UI,VQ,UL,HD,RF,RG,L9,GT,EG]
  refine ⟨λh=>?_,λh=>?_⟩
  ·(with_reducible repeat' first|apply Al|intro _)
   all_goals first|exact PU|(exact fL (λx y _ _=>Wo3 k x y) (by assumption))
  ·obtain rfl:k=13:=VO;exact V4
def Zu5:St:={σ:=[AV.ro [lst 2 3 λk=>[iI (oL k),iI (oH k)],iI 1,Q1 N U O m r v,Q2 m N,top],agg QC,top,ptr 0 0,QD,AV.lit false,ptr 4 0]++HO 15 [iI 13]++HO 20 [lst 2 3 λk=>[iI (oL k),iI (oH k)],iI (↑(3:Nat):Int)]++HO 146 [],m:=[(4,GU.ints 237 [] 169 λk=>G8 (P1 13 0) k),(0,Y0)],nx:=14}
noncomputable def Jt9:Code:=UE (VX (UB Tryz.f93) 1)
def Wn2(k:Nat):St:=(upE [(45,i k)] [(4,.ints 237 [] 169 (G8 (ofM k))),(0,.cells 191 [.x (.int .u64 0)])] (Zu5 N U O m r v))
def ED(k:Nat):GB->Option St
 | .exit 4=>some (upE [(45,i 3)] [(4,.ints 237 [] 169 (G8 (ofM 3))),(0,.cells 191 [.x (.int .u64 0)])] (Zu5 N U O m r v))
 |_=>none
def Jp8:CT:= .leaf (.exit 4,(ED N U O m r v 0 (.exit 4)).getD (Zu5 N U O m r v))
def Zb1:UN:=GO [] (HM (Wn2 N U O m r v (0)) (Jp8 N U O m r v))
abbrev XC:Prop:=(13:Int)=13
theorem Jk5:GC VT (.loop Jt9) (Zb1 N U O m r v):=by
 refine G7 [] (L:=[]) (Ae RM (Ae P2 (Ae RC Aa))) (Ai Ab (Ag RQ Ac)) U3 U8 (X:=Nat) (Wn2 N U O m r v) (λk=>k<=3) (λk=>3-k) (ED N U O m r v) (x0:=0) VZ ?_ ?_ ?_
 ·rintro k;kernel_rfl
 ·rintro k y E h;unfold ED at h;split at h
  ·cases h;kernel_rfl
  ·cases h
 ·rintro Q hQ k hx;refine ⟨(k+1),?_⟩;(with_reducible refine DN (t:=let z1:=(G8 (ofM k) (((1:Int)+(k:Int)).toNat*1+0));let z0:=(UV (((1:Int)+(k:Int)).toNat*1+0) (min z1 (-oL k)) (G8 (ofM k)) (0+(((1:Int)+(k:Int)).toNat*13+0)));let z2:=(U4 (AV.ro [lst 2 3 λk=>[iI (oL k),iI (oH k)],iI 1,Q1 N U O m r v,Q2 m N,top]));(branch (decide ((k:Int)<(↑(3:Nat):Int))) (need [UO k 3] (need [(0:Int)<=(k:Int)/\(k:Int)<=1000] (need [VQ (-oH k)] (need [VQ (-oL k)] (need [UO 0 13] (need [(0:Int)<=1+(k:Int)/\(1:Int)+(k:Int)<(↑(13:Nat):Int)] (need [((1:Int)+(k:Int)).toNat*1+0<169] (need [UO 0 13] (need [(0:Int)<=1+(k:Int)/\(1:Int)+(k:Int)<(↑(13:Nat):Int)] (need [((1:Int)+(k:Int)).toNat*1+0+List.length [min z1 (-oL k)]<=169] (need [(0:Int)<=1+(k:Int)/\(1:Int)+(k:Int)<(↑(13:Nat):Int)] (need [UO 0 13] (need [0+(((1:Int)+(k:Int)).toNat*13+0)<169] (need [VQ (- -oH k)] (need [(0:Int)<=1+(k:Int)/\(1:Int)+(k:Int)<(↑(13:Nat):Int)] (need [UO 0 13] (need [0+(((1:Int)+(k:Int)).toNat*13+0)+List.length [min z0 (- -oH k)]<=169] (need [VQ ((k:Int)+1)] (need [z2,U4 (agg QC),QS,QD=QD,WO,W7,XC,U4 (lst 2 3 λk=>[iI (oL k),iI (oH k)]),U4 (↑(3:Nat):Int),(k:Int)+1=(↑(k+1):Int),169=169,H2 169 (UV (0+(((1:Int)+(k:Int)).toNat*13+0)) (min z0 (- -oH k)) (jV (((1:Int)+(k:Int)).toNat*1+0) [min z1 (-oL k)] (G8 (ofM k)))) (G8 (ofM (k+1))),QY] (leaf GB.normal)))))))))))))))))))) (need [z2,U4 (agg QC),QS,QD=QD,WO,W7,XC,U4 (lst 2 3 λk=>[iI (oL k),iI (oH k)]),U4 (↑(3:Nat):Int),(k:Int)=3,169=169,H2 169 (G8 (ofM k)) (G8 (ofM 3)),QY] (leaf (GB.exit 4))))) VY ?_)
  simp only [Jp8,ED,VR.sat,GZ] at hQ;simp only [VR.sat,UF,GA,GR,UI,VQ,UL,HD,RF,RG,L9,GT,ED]
  have hL: -9<=oL k/\oL k<=0:=by unfold oL;split<;>omega
  have hH:0<=oH k/\oH k<=9:=by unfold oH;split<;>omega
  refine ⟨λh=>?_,λh=>?_⟩
  ·have h1: ∀M w,UV ((1+(k:Int)).toNat*1+0) (min (G8 M ((1+(k:Int)).toNat*1+0)) w) (G8 M)=G8 (bnd M 0 (1+k) w):=λM w=>jG VO VO
   have h2: ∀M w,UV (0+((1+(k:Int)).toNat*13+0)) (min (G8 M (0+((1+(k:Int)).toNat*13+0))) w) (G8 M)=G8 (bnd M (1+k) 0 w):=λM w=>jG VO VO
   simp only [h1,h2];exact V4
  ·obtain rfl:k=3:=VO;exact V4
def Zu4:St:={σ:=[AV.ro [lst 2 3 λk=>[iI (oL k),iI (oH k)],iI 1,Q1 N U O m r v,Q2 m N,top],agg QC,top,ptr 0 0,QD,AV.lit false,ptr 4 0]++HO 15 [iI 13]++HO 20 [lst 2 3 λk=>[iI (oL k),iI (oH k)],iI (↑(3:Nat):Int),iI 3]++HO 20 [Q1 N U O m r v,iI (N:Int)]++HO 123 [],m:=[(4,GU.ints 237 [] 169 λk=>G8 (ofM 3) k),(0,Y0)],nx:=21}
noncomputable def Jt8:Code:=UE (VX (UB Tryz.f93) 2)
def Wn1(k:Nat):St:=(upE [(68,i k)] [(4,.ints 237 [] 169 (G8 (btM U O k))),(0,.cells 191 [.x (.int .u64 0)])] (Zu4 N U O m r v))
def EC(k:Nat):GB->Option St
 | .exit 6=>some (upE [(68,i N)] [(4,.ints 237 [] 169 (G8 (btM U O N))),(0,.cells 191 [.x (.int .u64 0)])] (Zu4 N U O m r v))
 |_=>none
def Jp7:CT:= .leaf (.exit 6,(EC N U O m r v 0 (.exit 6)).getD (Zu4 N U O m r v))
def Zb0:UN:=GO [] (HM (Wn1 N U O m r v (0)) (Jp7 N U O m r v))
abbrev XG:Prop:=(3:Int)=3
theorem Jk4(VW:bOK N U O m r v):GC VT (.loop Jt8) (Zb0 N U O m r v):=by
 refine G7 [] (L:=[]) (Ae RM (Ae P2 (Ae RC Aa))) (Ai Ab (Ag RQ Ac)) U3 U8 (X:=Nat) (Wn1 N U O m r v) (λk=>k<=N) (λk=>N-k) (EC N U O m r v) (x0:=0) VZ ?_ ?_ ?_
 ·rintro k;kernel_rfl
 ·rintro k y E h;unfold EC at h;split at h
  ·cases h;kernel_rfl
  ·cases h
 ·rintro Q hQ k hx;refine ⟨(k+1),?_⟩;(with_reducible refine DN (t:=let z1:=(G8 (btM U O k) (((7:Int)+(k:Int)).toNat*1+0));let z0:=(UV (((7:Int)+(k:Int)).toNat*1+0) (min z1 (O k)) (G8 (btM U O k)) (0+(((7:Int)+(k:Int)).toNat*13+0)));let z2:=(U4 (AV.ro [lst 2 3 λk=>[iI (oL k),iI (oH k)],iI 1,Q1 N U O m r v,Q2 m N,top]));(branch (decide ((k:Int)<(N:Int))) (need [UO k N] (need [(0:Int)<=(k:Int)/\(k:Int)<=1000] (need [UO 0 13] (need [(0:Int)<=7+(k:Int)/\(7:Int)+(k:Int)<(↑(13:Nat):Int)] (need [((7:Int)+(k:Int)).toNat*1+0<169] (need [UO 0 13] (need [(0:Int)<=7+(k:Int)/\(7:Int)+(k:Int)<(↑(13:Nat):Int)] (need [((7:Int)+(k:Int)).toNat*1+0+List.length [min z1 (O k)]<=169] (need [(0:Int)<=7+(k:Int)/\(7:Int)+(k:Int)<(↑(13:Nat):Int)] (need [UO 0 13] (need [0+(((7:Int)+(k:Int)).toNat*13+0)<169] (need [VQ (-U k)] (need [(0:Int)<=7+(k:Int)/\(7:Int)+(k:Int)<(↑(13:Nat):Int)] (need [UO 0 13] (need [0+(((7:Int)+(k:Int)).toNat*13+0)+List.length [min z0 (-U k)]<=169] (need [VQ ((k:Int)+1)] (need [z2,U4 (agg QC),QS,QD=QD,WO,W7,XC,U4 (lst 2 3 λk=>[iI (oL k),iI (oH k)]),U4 (↑(3:Nat):Int),XG,WU N U O m r v,U4 (N:Int),(k:Int)+1=(↑(k+1):Int),169=169,H2 169 (UV (0+(((7:Int)+(k:Int)).toNat*13+0)) (min z0 (-U k)) (jV (((7:Int)+(k:Int)).toNat*1+0) [min z1 (O k)] (G8 (btM U O k)))) (G8 (btM U O (k+1))),QY] (leaf GB.normal)))))))))))))))))) (need [z2,U4 (agg QC),QS,QD=QD,WO,W7,XC,U4 (lst 2 3 λk=>[iI (oL k),iI (oH k)]),U4 (↑(3:Nat):Int),XG,WU N U O m r v,U4 (N:Int),(k:Int)=(N:Int),169=169,H2 169 (G8 (btM U O k)) (G8 (btM U O N)),QY] (leaf (GB.exit 6))))) VY ?_)
  simp only [Jp7,EC,VR.sat,GZ] at hQ;simp only [VR.sat,UF,GA,GR,UI,VQ,UL,HD,RF,RG,L9,GT,EC]
  have h6:=VW.1;refine ⟨λh=>?_,λh=>?_⟩
  ·obtain ⟨_,q1,q2,q3,_⟩:=VW.2 k VO;have h1: ∀M w,UV ((7+(k:Int)).toNat*1+0) (min (G8 M ((7+(k:Int)).toNat*1+0)) w) (G8 M)=G8 (bnd M 0 (7+k) w):=λM w=>jG VO VO
   have h2: ∀M w,UV (0+((7+(k:Int)).toNat*13+0)) (min (G8 M (0+((7+(k:Int)).toNat*13+0))) w) (G8 M)=G8 (bnd M (7+k) 0 w):=λM w=>jG VO VO
   simp only [h1,h2];exact V4
  ·obtain rfl:k=N:=VO;exact V4
def Zu3:St:={σ:=[AV.ro [lst 2 3 λk=>[iI (oL k),iI (oH k)],iI 1,Q1 N U O m r v,Q2 m N,top],agg QC,top,ptr 0 0,QD,AV.lit false,ptr 4 0]++HO 15 [iI 13]++HO 20 [lst 2 3 λk=>[iI (oL k),iI (oH k)],iI (↑(3:Nat):Int),iI 3]++HO 20 [Q1 N U O m r v,iI (N:Int),iI (N:Int)]++HO 14 [Q2 m N,iI (↑(HI m N):Int)]++HO 106 [],m:=[(4,GU.ints 237 [] 169 λk=>G8 (btM U O N) k),(0,Y0)],nx:=27}
noncomputable def Jt7:Code:=UE (VX (UB Tryz.f93) 3)
def Wn0(k:Nat):St:=(upE [(85,i k)] [(4,.ints 237 [] 169 (G8 (A3 N U O m r v k))),(0,.cells 191 [.x (.int .u64 0)])] (Zu3 N U O m r v))
def EB(k:Nat):GB->Option St
 | .exit 8=>some (upE [(85,i (HI m N))] [(4,.ints 237 [] 169 (G8 (A3 N U O m r v (HI m N)))),(0,.cells 191 [.x (.int .u64 0)])] (Zu3 N U O m r v))
 |_=>none
def Jp6:CT:= .leaf (.exit 8,(EB N U O m r v 0 (.exit 8)).getD (Zu3 N U O m r v))
def Za9:UN:=GO [] (HM (Wn0 N U O m r v (0)) (Jp6 N U O m r v))
theorem Jk3(VW:bOK N U O m r v):GC VT (.loop Jt7) (Za9 N U O m r v):=by
 refine G7 [] (L:=[]) (Ae RM (Ae P2 (Ae RC Aa))) (Ai Ab (Ag RQ Ac)) U3 U8 (X:=Nat) (Wn0 N U O m r v) (λk=>k<=HI m N) (λk=>HI m N-k) (EB N U O m r v) (x0:=0) VZ ?_ ?_ ?_
 ·rintro k;kernel_rfl
 ·rintro k y E h;unfold EB at h;split at h
  ·cases h;kernel_rfl
  ·cases h
 ·rintro Q hQ k hx;refine ⟨(k+1),?_⟩
  (with_reducible refine DN (t:=let z4:=A3 N U O m r v k;let z1:=(G8 (z4) (((7:Int)+(↑(Prod.fst (GI m N k)):Int)).toNat*1+(((1:Int)+r (Prod.fst (GI m N k)) (Prod.snd (GI m N k))).toNat*13+0)));let z0:=(UV (((7:Int)+(↑(Prod.fst (GI m N k)):Int)).toNat*1+(((1:Int)+r (Prod.fst (GI m N k)) (Prod.snd (GI m N k))).toNat*13+0)) (min z1 (v (Prod.fst (GI m N k)) (Prod.snd (GI m N k))+1)) (G8 (z4)) (((1:Int)+r (Prod.fst (GI m N k)) (Prod.snd (GI m N k))).toNat*1+(((7:Int)+(↑(Prod.fst (GI m N k)):Int)).toNat*13+0)));let z2:=(U4 (AV.ro [lst 2 3 λk=>[iI (oL k),iI (oH k)],iI 1,Q1 N U O m r v,Q2 m N,top]));let z3:=(U4 (lst 2 3 λk=>[iI (oL k),iI (oH k)]));(branch (decide ((k:Int)<(↑(HI m N):Int))) (need [UO k (↑(HI m N):Int)] (need [(0:Int)<=(k:Int)/\(k:Int)<=64] (branch (IntKind.wrap IntKind.u64 (↑(BitVec.toNat (BitVec.ofInt (IntKind.bits IntKind.u64) ((0:Int) / (2:Int)^k) &&& BitVec.ofInt (IntKind.bits IntKind.u64) (1:Int))):Int)==0) (need [UO (↑(Prod.fst (GI m N k)):Int) N] (need [UO (↑(Prod.snd (GI m N k)):Int) ((↑(m (Prod.fst (GI m N k))):Int))] (need [(0:Int)<=r (Prod.fst (GI m N k)) (Prod.snd (GI m N k))/\r (Prod.fst (GI m N k)) (Prod.snd (GI m N k))<=1000] (need [(0:Int)<=(↑(Prod.fst (GI m N k)):Int)/\(↑(Prod.fst (GI m N k)):Int)<=1000] (need [VQ (v (Prod.fst (GI m N k)) (Prod.snd (GI m N k))-1)] (need [VQ (v (Prod.fst (GI m N k)) (Prod.snd (GI m N k))+1)] (need [(0:Int)<=1+r (Prod.fst (GI m N k)) (Prod.snd (GI m N k))/\(1:Int)+r (Prod.fst (GI m N k)) (Prod.snd (GI m N k))<(↑(13:Nat):Int)] (need [(0:Int)<=7+(↑(Prod.fst (GI m N k)):Int)/\(7:Int)+(↑(Prod.fst (GI m N k)):Int)<(↑(13:Nat):Int)] (need [((7:Int)+(↑(Prod.fst (GI m N k)):Int)).toNat*1+(((1:Int)+r (Prod.fst (GI m N k)) (Prod.snd (GI m N k))).toNat*13+0)<169] (need [(0:Int)<=1+r (Prod.fst (GI m N k)) (Prod.snd (GI m N k))/\(1:Int)+r (Prod.fst (GI m N k)) (Prod.snd (GI m N k))<(↑(13:Nat):Int)] (need [(0:Int)<=7+(↑(Prod.fst (GI m N k)):Int)/\(7:Int)+(↑(Prod.fst (GI m N k)):Int)<(↑(13:Nat):Int)] (need [((7:Int)+(↑(Prod.fst (GI m N k)):Int)).toNat*1+(((1:Int)+r (Prod.fst (GI m N k)) (Prod.snd (GI m N k))).toNat*13+0)+List.length [min z1 (v (Prod.fst (GI m N k)) (Prod.snd (GI m N k))+1)]<=169] (need [(0:Int)<=7+(↑(Prod.fst (GI m N k)):Int)/\(7:Int)+(↑(Prod.fst (GI m N k)):Int)<(↑(13:Nat):Int)] (need [(0:Int)<=1+r (Prod.fst (GI m N k)) (Prod.snd (GI m N k))/\(1:Int)+r (Prod.fst (GI m N k)) (Prod.snd (GI m N k))<(↑(13:Nat):Int)] (need [((1:Int)+r (Prod.fst (GI m N k)) (Prod.snd (GI m N k))).toNat*1+(((7:Int)+(↑(Prod.fst (GI m N k)):Int)).toNat*13+0)<169] (need [VQ (-(v (Prod.fst (GI m N k)) (Prod.snd (GI m N k))-1))] (need [(0:Int)<=7+(↑(Prod.fst (GI m N k)):Int)/\(7:Int)+(↑(Prod.fst (GI m N k)):Int)<(↑(13:Nat):Int)] (need [(0:Int)<=1+r (Prod.fst (GI m N k)) (Prod.snd (GI m N k))/\(1:Int)+r (Prod.fst (GI m N k)) (Prod.snd (GI m N k))<(↑(13:Nat):Int)] (need [((1:Int)+r (Prod.fst (GI m N k)) (Prod.snd (GI m N k))).toNat*1+(((7:Int)+(↑(Prod.fst (GI m N k)):Int)).toNat*13+0)+List.length [min z0 (-(v (Prod.fst (GI m N k)) (Prod.snd (GI m N k))-1))]<=169] (need [VQ ((k:Int)+1)] (need [z2,U4 (agg QC),QS,QD=QD,WO,W7,XC,z3,U4 (↑(3:Nat):Int),XG,WU N U O m r v,U4 (N:Int),U4 (N:Int),U4 (Q2 m N),U4 (↑(HI m N):Int),(k:Int)+1=(↑(k+1):Int),169=169,H2 169 (UV (((1:Int)+r (Prod.fst (GI m N k)) (Prod.snd (GI m N k))).toNat*1+(((7:Int)+(↑(Prod.fst (GI m N k)):Int)).toNat*13+0)) (min z0 (-(v (Prod.fst (GI m N k)) (Prod.snd (GI m N k))-1))) (jV (((7:Int)+(↑(Prod.fst (GI m N k)):Int)).toNat*1+(((1:Int)+r (Prod.fst (GI m N k)) (Prod.snd (GI m N k))).toNat*13+0)) [min z1 (v (Prod.fst (GI m N k)) (Prod.snd (GI m N k))+1)] (G8 (z4)))) (G8 (A3 N U O m r v (k+1))),QY] (leaf GB.normal)))))))))))))))))))))) (need [VQ ((k:Int)+1)] (need [z2,U4 (agg QC),QS,QD=QD,WO,W7,XC,z3,U4 (↑(3:Nat):Int),XG,WU N U O m r v,U4 (N:Int),U4 (N:Int),U4 (Q2 m N),U4 (↑(HI m N):Int),(k:Int)+1=(↑(k+1):Int),169=169,H2 169 (G8 (z4)) (G8 (A3 N U O m r v (k+1))),QY] (leaf GB.normal)))))) (need [z2,U4 (agg QC),QS,QD=QD,WO,W7,XC,z3,U4 (↑(3:Nat):Int),XG,WU N U O m r v,U4 (N:Int),U4 (N:Int),U4 (Q2 m N),U4 (↑(HI m N):Int),(k:Int)=(↑(HI m N):Int),169=169,H2 169 (G8 (z4)) (G8 (A3 N U O m r v (HI m N))),QY] (leaf (GB.exit 8))))) VY ?_)
  simp only [Jp6,EB,VR.sat,GZ] at hQ;simp only [VR.sat,UF,GA,GR,UI,VQ,UL,HD,RF,RG,L9,GT,EB]
  have h6:=VW.1;have hb:=a7 m (K:=10) N (λb hb=>(VW.2 b hb).1)
  have hz:(IntKind.u64.wrap ((BitVec.ofInt IntKind.u64.bits (0 / 2^k) &&& BitVec.ofInt IntKind.u64.bits 1).toNat:Int)==0)=true:=by
   rw [Int.zero_ediv];decide
  simp only [hz,true_imp_iff,Bool.true_eq_false,false_imp_iff,and_true];refine ⟨λh=>?_,λh=>?_⟩
  ·obtain ⟨hl1,hl2⟩:=aF m N k VO;obtain ⟨_,_,_,_,q4⟩:=VW.2 _ hl1;obtain ⟨q5,q6,q7,q8⟩:=q4 _ hl2;have e1:((1+r (GI m N k).1 (GI m N k).2).toNat)=1+(r (GI m N k).1 (GI m N k).2).toNat:=VO;have e2:((7+((GI m N k).1:Int)).toNat)=7+(GI m N k).1:=VO;rw [e1,e2];have h1: ∀M w,UV ((7+(GI m N k).1)*1+((1+(r (GI m N k).1 (GI m N k).2).toNat)*13+0)) (min (G8 M ((7+(GI m N k).1)*1+((1+(r (GI m N k).1 (GI m N k).2).toNat)*13+0))) w) (G8 M)=G8 (bnd M (1+(r (GI m N k).1 (GI m N k).2).toNat) (7+(GI m N k).1) w):=λM w=>jG VO VO
   have h2: ∀M w,UV ((1+(r (GI m N k).1 (GI m N k).2).toNat)*1+((7+(GI m N k).1)*13+0)) (min (G8 M ((1+(r (GI m N k).1 (GI m N k).2).toNat)*1+((7+(GI m N k).1)*13+0))) w) (G8 M)=G8 (bnd M (7+(GI m N k).1) (1+(r (GI m N k).1 (GI m N k).2).toNat) w):=λM w=>jG VO VO
   simp only [h1,h2];exact V4
  ·obtain rfl:k=HI m N:=VO;exact V4
end
def LB8(B:Int)(M:Nat->Nat->Int):Prop:= ∀x y,-B<=M x y/\M x y<=8000
def JB8(B:Int)(o f t:Nat)(M:Nat->Nat->Int):Prop:= ∀x y,M x y<=8000/\ -(6*B)<=M x y/\(x=o-> -(3*B)<=M x y)/\(y=o-> -(3*B)<=M x y)/\(x=o->y=o-> -(2*B)<=M x y)/\(¬(x<f\/(x=f/\y<t))-> -B<=M x y)
theorem Qw9{B:Int}{o:Nat}{M:Nat->Nat->Int}(hB:0<=B)(h:LB8 B M):JB8 B o 0 0 M:=by
 intro x y;have:=h x y;refine ⟨VO,VO,λ_=>VO,λ_=>VO,λ_ _=>VO,λ_=>VO⟩
theorem Xd2{B:Int}{o f t:Nat}{M:Nat->Nat->Int}(hB:0<=B)(h:JB8 B o f t M):JB8 B o f (t+1) (fwS M o f t):=by
 have hft:=h f t;have hfo:=h f o;have hot:=h o t;have hoo:=h o o;have I:=hft.2.2.2.2.2 VO;intro x y;have hxy:=h x y;unfold fwS bnd xN;by_cases hc:x=f/\y=t
 ·exact V7
 ·rw [if_neg hc];exact ⟨hxy.1,hxy.2.1,hxy.2.2.1,hxy.2.2.2.1,hxy.2.2.2.2.1,λhv=>hxy.2.2.2.2.2 VO⟩
theorem Xd3{B:Int}{o f:Nat}{M:Nat->Nat->Int}(hB:0<=B)(h:JB8 B o f 0 M): ∀t,JB8 B o f t (fwT M o f t)
 | 0=>h
 |t+1=>Xd2 hB (Xd3 hB h t)
theorem Xr1{B:Int}{o f t:Nat}{M:Nat->Nat->Int}(h:JB8 B o f t M):JB8 B o (f+1) 0 M:=by
 intro x y;have hxy:=h x y;exact ⟨hxy.1,hxy.2.1,hxy.2.2.1,hxy.2.2.2.1,hxy.2.2.2.2.1,λhv=>hxy.2.2.2.2.2 VO⟩
theorem Xd4{B:Int}{c o:Nat}{M:Nat->Nat->Int}(hB:0<=B)(h:LB8 B M): ∀f,JB8 B o f 0 (fwF c M o f)
 | 0=>Qw9 hB h
 |f+1=>Xr1 (Xd3 hB (Xd4 hB h f) (c+1))
theorem Xd0{c:Nat}{M:Nat->Nat->Int}(h:LB8 8001 M): ∀o,LB8 (8001*6^o) (fwO c M o)
 | 0=>by
  rw [show (8001:Int)*6^0=8001 by decide]
  exact h
 |o+1=>by
  have ih:=Xd0 (c:=c) h o;have hp:(0:Int)<=8001*6^o:=Int.mul_nonneg VO (Int.pow_nonneg VO);have hj:=Xd4 (c:=c) (o:=o) hp ih (c+1);intro x y;have:=hj x y;have e:(8001:Int)*6^(o+1)=6*(8001*6^o):=by rw [Int.pow_succ];omega
  rw [e];exact ⟨this.2.1,this.1⟩
theorem Je1: ∀o:Nat,o<=12->(6:Int)^o<=2176782336:=by
 intro o ho;rcases (show o=0\/o=1\/o=2\/o=3\/o=4\/o=5\/o=6\/o=7\/o=8\/o=9\/o=10\/o=11\/o=12 by omega) with rfl|rfl|rfl|rfl|rfl|rfl|rfl|rfl|rfl|rfl|rfl|rfl|rfl<;>decide
theorem Zp1{c:Nat}{M:Nat->Nat->Int}(h:LB8 8001 M){o f t:Nat}(ho:o<=12)(x y:Nat): -105000000000000<=fwT (fwF c (fwO c M o) o f) o f t x y/\fwT (fwF c (fwO c M o) o f) o f t x y<=8000:=by
 have ih:=Xd0 (c:=c) h o;have hp:(0:Int)<=8001*6^o:=Int.mul_nonneg VO (Int.pow_nonneg VO);have hj:=Xd3 hp (Xd4 (c:=c) (o:=o) hp ih f) t x y;have:=Je1 o ho;omega
theorem yS{B:Int}{M:Nat->Nat->Int}(h:LB8 B M){a b:Nat}{v:Int}(hv: -B<=v):LB8 B (bnd M a b v):=by
 intro x y;have h1:=h a b;have h2:=h x y;unfold bnd xN;split<;>omega
theorem oLH(k:Nat):(-9<=oL k/\oL k<=0)/\0<=oH k/\oH k<=9:=by
 unfold oL oH;constructor<;>split<;>omega
theorem Wh5: ∀k,LB8 8001 (ofM k)
 | 0=>by
  intro x y;unfold ofM P1;split<;>omega
 |k+1=>by
  have h:=oLH k;exact yS (yS (Wh5 k) VO) VO
theorem Ww8{N:Nat}{U O:Nat->Int}{m:Nat->Nat}{r v:Nat->Nat->Int}(h:bOK N U O m r v): ∀k,k<=N->LB8 8001 (btM U O k)
 | 0,_=>Wh5 3
 |k+1,hk=>by
  have q:=h.2 k VO;exact yS (yS (Ww8 h k VO) VO) VO
theorem TJ{N:Nat}{U O:Nat->Int}{m:Nat->Nat}{r v:Nat->Nat->Int}(h:bOK N U O m r v): ∀q,q<=HI m N->LB8 8001 (A3 N U O m r v q)
 | 0,_=>Ww8 h N (Am _)
 |q+1,hq=>by
  obtain ⟨hl1,hl2⟩:=aF m N q VO;have q4:=(h.2 _ hl1).2.2.2.2 _ hl2;exact yS (yS (TJ h q VO) VO) VO
section
variable (N:Nat)(U O:Nat->Int)(m:Nat->Nat)(r v:Nat->Nat->Int)
def r0M:Nat->Nat->Int:=A3 N U O m r v (HI m N)
def PN:Nat->Nat->Int:=fwO 12 (r0M N U O m r v) 13
def z8:Bool:=DF (λk=>decide (0<=PN N U O m r v k k)) 13
def Zu2:St:={σ:=[AV.ro [lst 2 3 λk=>[iI (oL k),iI (oH k)],iI 1,Q1 N U O m r v,Q2 m N,top],agg QC,top,ptr 0 0,QD,AV.lit false,ptr 4 0]++HO 15 [iI 13]++HO 20 [lst 2 3 λk=>[iI (oL k),iI (oH k)],iI (↑(3:Nat):Int),iI 3]++HO 20 [Q1 N U O m r v,iI (N:Int),iI (N:Int)]++HO 14 [Q2 m N,iI (↑(HI m N):Int),iI (↑(HI m N):Int)]++HO 105 [],m:=[(4,GU.ints 237 [] 169 λk=>G8 (A3 N U O m r v (HI m N)) k),(0,Y0)],nx:=28}
noncomputable def Zv6:Code:=UE (VX (UB Tryz.f93) 4)
def Wm9(o:Nat):St:=(upE [(136,i o)] [(4,.ints 237 [] 169 (G8 (fwO 12 (r0M N U O m r v) o))),(0,.cells 191 [.x (.int .u64 0)])] (Zu2 N U O m r v))
def EA(o:Nat):GB->Option St
 | .exit 10=>some (upE [(136,i 13)] [(4,.ints 237 [] 169 (G8 (fwO 12 (r0M N U O m r v) 13))),(0,.cells 191 [.x (.int .u64 0)])] (Zu2 N U O m r v))
 |_=>none
def Jp5:CT:= .leaf (.exit 10,(EA N U O m r v 0 (.exit 10)).getD (Zu2 N U O m r v))
def Za8:UN:=GO [] (HM (Wm9 N U O m r v (0)) (Jp5 N U O m r v))
def Zu1(o:Nat):St:={σ:=[AV.ro [lst 2 3 λk=>[iI (oL k),iI (oH k)],iI 1,Q1 N U O m r v,Q2 m N,top],agg QC,top,ptr 0 0,QD,AV.lit false,ptr 4 0]++HO 9 [iI (o:Int)]++HO 5 [iI 13]++HO 20 [lst 2 3 λk=>[iI (oL k),iI (oH k)],iI (↑(3:Nat):Int),iI 3]++HO 20 [Q1 N U O m r v,iI (N:Int),iI (N:Int)]++HO 14 [Q2 m N,iI (↑(HI m N):Int),iI (↑(HI m N):Int)]++HO 50 [iI (o:Int)]++HO 54 [],m:=[(4,GU.ints 237 [] 169 λk=>G8 (fwO 12 (r0M N U O m r v) o) k),(0,Y0)],nx:=32}
noncomputable def Zv5:Code:=(UE (VX (UE (VX (UB Tryz.f93) 4)) 0))
def Wm8(o:Nat)(f:Nat):St:=(upE [(139,i f)] [(4,.ints 237 [] 169 (G8 (fwF 12 (fwO 12 (r0M N U O m r v) o) o f))),(0,.cells 191 [.x (.int .u64 0)])] (Zu1 N U O m r v o))
def E9(o:Nat)(f:Nat):GB->Option St
 | .exit 12=>some (upE [(139,i 13)] [(4,.ints 237 [] 169 (G8 (fwF 12 (fwO 12 (r0M N U O m r v) o) o 13))),(0,.cells 191 [.x (.int .u64 0)])] (Zu1 N U O m r v o))
 |_=>none
def Jp4(o:Nat):CT:= .leaf (.exit 12,(E9 N U O m r v o 0 (.exit 12)).getD (Zu1 N U O m r v o))
def Za7(o:Nat):UN:=GO [] (HM (Wm8 N U O m r v o (0)) (Jp4 N U O m r v o))
def Zu0(o:Nat)(f:Nat):St:={σ:=[AV.ro [lst 2 3 λk=>[iI (oL k),iI (oH k)],iI 1,Q1 N U O m r v,Q2 m N,top],agg QC,top,ptr 0 0,QD,AV.lit false,ptr 4 0]++HO 9 [iI (o:Int),iI (f:Int),top,top,top,top,iI 13]++HO 20 [lst 2 3 λk=>[iI (oL k),iI (oH k)],iI (↑(3:Nat):Int),iI 3]++HO 20 [Q1 N U O m r v,iI (N:Int),iI (N:Int)]++HO 14 [Q2 m N,iI (↑(HI m N):Int),iI (↑(HI m N):Int)]++HO 50 [iI (o:Int),top,top,iI (f:Int)]++HO 51 [],m:=[(4,GU.ints 237 [] 169 λk=>G8 (fwF 12 (fwO 12 (r0M N U O m r v) o) o f) k),(0,Y0)],nx:=36}
noncomputable def Jt6:Code:=(UE (VX (UE (VX (UE (VX (UB Tryz.f93) 4)) 0)) 0))
def Wm7(o:Nat)(f:Nat)(t:Nat):St:=(upE [(142,i t)] [(4,.ints 237 [] 169 (G8 (fwT (fwF 12 (fwO 12 (r0M N U O m r v) o) o f) o f t))),(0,.cells 191 [.x (.int .u64 0)])] (Zu0 N U O m r v o f))
def E8(o:Nat)(f:Nat)(t:Nat):GB->Option St
 | .exit 14=>some (upE [(142,i 13)] [(4,.ints 237 [] 169 (G8 (fwT (fwF 12 (fwO 12 (r0M N U O m r v) o) o f) o f 13))),(0,.cells 191 [.x (.int .u64 0)])] (Zu0 N U O m r v o f))
 |_=>none
def Jp3(o:Nat)(f:Nat):CT:= .leaf (.exit 14,(E8 N U O m r v o f 0 (.exit 14)).getD (Zu0 N U O m r v o f))
def Za6(o:Nat)(f:Nat):UN:=GO [] (HM (Wm7 N U O m r v o f (0)) (Jp3 N U O m r v o f))
theorem Jk0(o:Nat)(f:Nat)(VW:bOK N U O m r v)(UK:o<=12)(HY:f<=12):GC VT (.loop Jt6) (Za6 N U O m r v o f):=by
 refine G7 [] (L:=[]) (Ae RM (Ae P2 (Ae RC Aa))) (Ai Ab (Ag RQ Ac)) U3 U8 (X:=Nat) (Wm7 N U O m r v o f) (λt=>t<=13) (λt=>13-t) (E8 N U O m r v o f) (x0:=0) VZ ?_ ?_ ?_
 ·rintro t;kernel_rfl
 ·rintro t y E h;unfold E8 at h;split at h
  ·cases h;kernel_rfl
  ·cases h
 ·rintro Q hQ t hx;refine ⟨(t+1),?_⟩;(with_reducible refine DN (t:=let z2:=(fwF 12 (fwO 12 (r0M N U O m r v) o) o f);let z0:=(fwT z2 o f t);let z1:=(U4 (AV.ro [lst 2 3 λk=>[iI (oL k),iI (oH k)],iI 1,Q1 N U O m r v,Q2 m N,top]));let z3:=(U4 (↑(HI m N):Int));(branch (decide ((t:Int)<13)) (need [UO f 13] (need [UO t 13] (need [t*1+(f*13+0)<169] (need [UO f 13] (need [UO o 13] (need [o*1+(f*13+0)<169] (need [UO o 13] (need [UO t 13] (need [t*1+(o*13+0)<169] (need [VQ (G8 z0 (o*1+(f*13+0))+G8 z0 (t*1+(o*13+0)))] (need [UO f 13] (need [UO t 13] (need [t*1+(f*13+0)+List.length [min (G8 z0 (t*1+(f*13+0))) (G8 z0 (o*1+(f*13+0))+G8 z0 (t*1+(o*13+0)))]<=169] (need [VQ ((t:Int)+1)] (need [z1,U4 (agg QC),QS,QD=QD,WO,W7,U4 (o:Int),U4 (f:Int),XC,U4 (lst 2 3 λk=>[iI (oL k),iI (oH k)]),U4 (↑(3:Nat):Int),XG,WU N U O m r v,U4 (N:Int),U4 (N:Int),U4 (Q2 m N),z3,z3,U4 (o:Int),U4 (f:Int),(t:Int)+1=(↑(t+1):Int),169=169,H2 169 (UV (t*1+(f*13+0)) (min (G8 z0 (t*1+(f*13+0))) (G8 z0 (o*1+(f*13+0))+G8 z0 (t*1+(o*13+0)))) (G8 z0)) (G8 (fwT z2 o f (t+1))),QY] (leaf GB.normal)))))))))))))))) (need [z1,U4 (agg QC),QS,QD=QD,WO,W7,U4 (o:Int),U4 (f:Int),XC,U4 (lst 2 3 λk=>[iI (oL k),iI (oH k)]),U4 (↑(3:Nat):Int),XG,WU N U O m r v,U4 (N:Int),U4 (N:Int),U4 (Q2 m N),z3,z3,U4 (o:Int),U4 (f:Int),(t:Int)=13,169=169,H2 169 (G8 z0) (G8 (fwT z2 o f 13)),QY] (leaf (GB.exit 14))))) VY ?_)
  simp only [Jp3,E8,VR.sat,GZ] at hQ;simp only [VR.sat,UF,GA,GR,UI,VQ,UL,HD,RF,RG,L9,GT,E8]
  have hl:=λx y=>Zp1 (c:=12) (TJ VW (HI m N) (Am _)) (o:=o) (f:=f) (t:=t) VO x y
  have hfo:=hl f o;have hot:=hl o t;refine ⟨λh=>?_,λh=>?_⟩
  ·have h1: ∀M,G8 M (o*1+(f*13+0))=M f o:=λM=>yQ _ VO VO
   have h2: ∀M,G8 M (t*1+(o*13+0))=M o t:=λM=>yQ _ VO VO
   have h3: ∀M w,UV (t*1+(f*13+0)) (min (G8 M (t*1+(f*13+0))) w) (G8 M)=G8 (bnd M f t w):=λM w=>jG VO VO
   simp only [h3];simp only [h1,h2];unfold r0M;exact V4
  ·obtain rfl:t=13:=VO;exact V4
theorem Jk1(o:Nat)(VW:bOK N U O m r v)(UK:o<=12):GC VT (.loop Zv5) (Za7 N U O m r v o):=by
 refine G7 [] (L:=[BS 17 (λk=>FV [k<=12] (Za6 N U O m r v o k))]) (Ae RM (Ae P2 (Ae RC Aa))) (Ai Ab (Ag RQ Ac)) U3 (G4 (λcj hcj=>by
  have e:VX Zv5 0=some (.loop Jt6):=VY;rw [e] at hcj;cases hcj;exact PA (λk=>D9 (λh=>Jk0 N U O m r v o k VW UK h)))) (X:=Nat) (Wm8 N U O m r v o) (λf=>f<=13) (λf=>13-f) (E9 N U O m r v o) (x0:=0) VZ ?_ ?_ ?_
 ·rintro f;kernel_rfl
 ·rintro f y E h;unfold E9 at h;split at h
  ·cases h;kernel_rfl
  ·cases h
 ·rintro Q hQ f hx;refine ⟨(f+1),?_⟩;(with_reducible refine DN (t:=let z0:=(U4 (AV.ro [lst 2 3 λk=>[iI (oL k),iI (oH k)],iI 1,Q1 N U O m r v,Q2 m N,top]));let z1:=(fwO 12 (r0M N U O m r v) o);let z2:=(U4 (↑(HI m N):Int));let z3:=(U4 (lst 2 3 λk=>[iI (oL k),iI (oH k)]));(branch (decide ((f:Int)<13)) (need [f<=12] (need [z0,U4 (agg QC),QS,QD=QD,WO,W7,U4 (o:Int),U4 (f:Int),XC,z3,U4 (↑(3:Nat):Int),XG,WU N U O m r v,U4 (N:Int),U4 (N:Int),U4 (Q2 m N),z2,z2,U4 (o:Int),U4 (f:Int),(0:Int)=(↑(0:Nat):Int),169=169,H2 169 (G8 (fwF 12 z1 o f)) (G8 (fwT (fwF 12 z1 o f) o f 0)),QY] (need [VQ ((f:Int)+1)] (need [z0,U4 (agg QC),QS,QD=QD,WO,W7,U4 (o:Int),XC,z3,U4 (↑(3:Nat):Int),XG,WU N U O m r v,U4 (N:Int),U4 (N:Int),U4 (Q2 m N),z2,z2,U4 (o:Int),(f:Int)+1=(↑(f+1):Int),169=169,H2 169 (G8 (fwT (fwF 12 z1 o f) o f 13)) (G8 (fwF 12 z1 o (f+1))),QY] (leaf GB.normal))))) (need [z0,U4 (agg QC),QS,QD=QD,WO,W7,U4 (o:Int),XC,z3,U4 (↑(3:Nat):Int),XG,WU N U O m r v,U4 (N:Int),U4 (N:Int),U4 (Q2 m N),z2,z2,U4 (o:Int),(f:Int)=13,169=169,H2 169 (G8 (fwF 12 z1 o f)) (G8 (fwF 12 z1 o 13)),QY] (leaf (GB.exit 12))))) VY ?_)
  simp only [Jp4,E9,VR.sat,GZ] at hQ;simp only [VR.sat,UF,GA,GR,UI,VQ,UL,HD,RF,RG,L9,GT,E9]
  refine ⟨λh=>?_,λh=>?_⟩
  ·exact V4
  ·obtain rfl:f=13:=VO;exact V4
theorem Jk2(VW:bOK N U O m r v):GC VT (.loop Zv6) (Za8 N U O m r v):=by
 refine G7 [] (L:=[BS 16 (λk=>FV [k<=12] (Za7 N U O m r v k))]) (Ae RM (Ae P2 (Ae RC Aa))) (Ai Ab (Ag RQ Ac)) U3 (G4 (λcj hcj=>by
  have e:VX Zv6 0=some (.loop Zv5):=VY;rw [e] at hcj;cases hcj;exact PA (λk=>D9 (λh=>Jk1 N U O m r v k VW h)))) (X:=Nat) (Wm9 N U O m r v) (λo=>o<=13) (λo=>13-o) (EA N U O m r v) (x0:=0) VZ ?_ ?_ ?_
 ·rintro o;kernel_rfl
 ·rintro o y E h;unfold EA at h;split at h
  ·cases h;kernel_rfl
  ·cases h
 ·rintro Q hQ o hx;refine ⟨(o+1),?_⟩;(with_reducible refine DN (t:=let z0:=(U4 (AV.ro [lst 2 3 λk=>[iI (oL k),iI (oH k)],iI 1,Q1 N U O m r v,Q2 m N,top]));let z1:=(U4 (↑(HI m N):Int));let z2:=(U4 (lst 2 3 λk=>[iI (oL k),iI (oH k)]));let z3:=(fwO 12 (r0M N U O m r v) o);(branch (decide ((o:Int)<13)) (need [o<=12] (need [z0,U4 (agg QC),QS,QD=QD,WO,W7,U4 (o:Int),XC,z2,U4 (↑(3:Nat):Int),XG,WU N U O m r v,U4 (N:Int),U4 (N:Int),U4 (Q2 m N),z1,z1,U4 (o:Int),(0:Int)=(↑(0:Nat):Int),169=169,H2 169 (G8 z3) (G8 (fwF 12 z3 o 0)),QY] (need [VQ ((o:Int)+1)] (need [z0,U4 (agg QC),QS,QD=QD,WO,W7,XC,z2,U4 (↑(3:Nat):Int),XG,WU N U O m r v,U4 (N:Int),U4 (N:Int),U4 (Q2 m N),z1,z1,(o:Int)+1=(↑(o+1):Int),169=169,H2 169 (G8 (fwF 12 z3 o 13)) (G8 (fwO 12 (r0M N U O m r v) (o+1))),QY] (leaf GB.normal))))) (need [z0,U4 (agg QC),QS,QD=QD,WO,W7,XC,z2,U4 (↑(3:Nat):Int),XG,WU N U O m r v,U4 (N:Int),U4 (N:Int),U4 (Q2 m N),z1,z1,(o:Int)=13,169=169,H2 169 (G8 z3) (G8 (fwO 12 (r0M N U O m r v) 13)),QY] (leaf (GB.exit 10))))) VY ?_)
  simp only [Jp5,EA,VR.sat,GZ] at hQ;simp only [VR.sat,UF,GA,GR,UI,VQ,UL,HD,RF,RG,L9,GT,EA]
  refine ⟨λh=>?_,λh=>?_⟩
  ·exact V4
  ·obtain rfl:o=13:=VO;exact V4
end
end Go.Proofs.YtlclobclmfhlmaaGreatDoor.Hd
