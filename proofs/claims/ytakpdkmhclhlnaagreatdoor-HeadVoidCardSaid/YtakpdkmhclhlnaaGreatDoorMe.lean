/- Contracts, put together. Conditions: those of each. -/
import Derived.Test.YtakpdkmhclhlnaaGreatDoorMd
import Derived.Lib.Walk
import Derived.Lib.SliceRun
import Derived.Lib.AppendZerosOnto
set_option linter.unusedSimpArgs false
set_option linter.unusedVariables false
set_option maxRecDepth 100000
namespace Go.Proofs.YtakpdkmhclhlnaaGreatDoor.Bo
open Go Go.Sx Go.RowKit
open Go.Sx.VM (need branch leaf)
open Go.Sx.AV (lst ptr agg roI tup top)
end Go.Proofs.YtakpdkmhclhlnaaGreatDoor.Bo
namespace Go.Proofs.YtakpdkmhclhlnaaGreatDoor
open Go Go.Sx Go.RowKit Bo
open Go.Sx.VM (need branch leaf)
open Go.Sx.AV (lst ptr agg roI tup top)
theorem VY:Tryz.prog.follows .mixedOrders=true:=VT
abbrev i(n:Int):AV:= .x (.int .i64 n)
abbrev iI(n:Int):AV:= .x (.int .i64 n)
abbrev bl(b:Bool):AV:= .x (.bool b)
abbrev bt:=Bo.bt
abbrev insB:=Bo.insB
def dnI(n d:Int):Int:=n.tdiv d
def upI(n d:Int):Int:=(n+d-1).tdiv d
theorem bt_iff(U n O:Int):bt U n O=true↔U<=n/\n<=O:=Bo.bt_iff U n O
theorem insB_iff(U a b O:Int):insB U a b O=true↔U<=a/\a<=b/\b<=O:=Bo.insB_iff U a b O
theorem gG{n d:Int}(I:0<=n)(hd:1<=d):dnI n d*d<=n/\n<dnI n d*d+d/\0<=dnI n d/\dnI n d<=n:=by
 unfold dnI;rw [Int.tdiv_eq_ediv_of_nonneg I];have h1:=Int.mul_ediv_add_emod n d;have h2:=Int.emod_nonneg n (show d≠0 by omega)
 have h3:=Int.emod_lt_of_pos n (show 0<d by omega)
 have h4:=Int.ediv_nonneg I (show 0<=d by omega)
 have h5:=Int.ediv_le_self d I;rw [Int.mul_comm] at h1;omega
theorem S9{n d:Int}(I:0<=n)(hd:1<=d):upI n d*d-d<n/\n<=upI n d*d/\0<=upI n d/\upI n d<=n:=by
 have h:=gG (n:=n+d-1) VJ hd;have e:upI n d=dnI (n+d-1) d:=rfl;rw [e];refine ⟨VJ,VJ,h.2.2.1,?_⟩;rcases Int.lt_or_le n (dnI (n+d-1) d) with h1|h1
 ·have h2:=Int.mul_le_mul_of_nonneg_right (show n+1<=dnI (n+d-1) d by omega) (show 0<=d by omega)
  rw [Int.add_mul,Int.one_mul] at h2;have h3:=Int.mul_nonneg I (show 0<=d-1 by omega)
  rw [Int.mul_sub,Int.mul_one] at h3;omega
 ·exact h1
def B7:UW
 |[.x (.int .i64 n),.x (.int .i64 U),.x (.int .i64 O)]=>some ([],bl (bt U n O))
 |_=>none
abbrev KX:Value:=Value.bool false
theorem wM(n U O:Int):VX VO 92 [i n,i U,i O] (bl (bt U n O)):=by
 refine GV Tryz.func92 (t:=branch (decide (U<=n)) (leaf (RV.x (.bool (decide (n<=O))))) (leaf (RV.x (KX)))) VT ?_;simp only [VM.sat,UB,G4,GJ,UD,UH];all_goals (simp+contextual [bt,insB,Bo.bt,Bo.insB,Bool.and_assoc]);all_goals omega
theorem RI:VP VO 92 B7:=by
 refine ⟨(UG Tryz.func92),?_⟩;intro avs ns res h I;unfold B7 at h;split at h
 ·cases h;exact wM _ _ _
 ·cases h
def B8:UW
 |[.agg [.x (.int .i64 a),.x (.int .i64 b)],.x (.int .i64 U),.x (.int .i64 O)]=>some ([],bl (insB U a b O))
 |_=>none
theorem x7(a b U O:Int):VX VO 98 [.agg [i a,i b],i U,i O] (bl (insB U a b O)):=by
 refine GV Tryz.func98 (t:=branch (decide (U<=a)) (branch (decide (a<=b)) (leaf (RV.x (.bool (decide (b<=O))))) (leaf (RV.x (KX)))) (leaf (RV.x (KX)))) VT ?_;simp only [VM.sat,UB,G4,GJ,UD,UH];all_goals (simp+contextual [bt,insB,Bo.bt,Bo.insB,Bool.and_assoc]);all_goals omega
theorem PO:VP VO 98 B8:=by
 refine ⟨(UG Tryz.func98),?_⟩;intro avs ns res h I;unfold B8 at h;split at h
 ·cases h;exact x7 _ _ _ _
 ·cases h
def s7:UW
 |[.x (.int .i64 n),.x (.int .i64 d)]=>some ([1<=d/\d<=100000,0<=n/\n<=1000000000000],i (dnI n d))
 |_=>none
theorem Xi6(n d:Int)(VR:1<=d/\d<=100000)(UE:0<=n/\n<=1000000000000):VX VO 76 [i n,i d] (i (dnI n d)):=by
 refine GV Tryz.func76 (t:=need [d≠0,VL (Int.tdiv n d)] (leaf (RV.x (.int .i64 (Int.tdiv n d))))) VT ?_;have h:=gG UE.1 VR.1;unfold dnI at h ⊢;exact VC
theorem TZ:VP VO 76 s7:=by
 refine ⟨(UG Tryz.func76),?_⟩;intro avs ns res h I;unfold s7 at h;split at h
 ·cases h;exact Xi6 _ _ (I _ VV) (I _ VV)
 ·cases h
def Zn6:UW
 |[.x (.int .i64 n),.x (.int .i64 d)]=>some ([1<=d/\d<=100000,0<=n/\n<=1000000000000],i (upI n d))
 |_=>none
theorem Zw2(n d:Int)(VR:1<=d/\d<=100000)(UE:0<=n/\n<=1000000000000):VX VO 77 [i n,i d] (i (upI n d)):=by
 refine GV Tryz.func77 (t:=need [VL (n+d)] (need [VL (n+d-1)] (need [d≠0,VL (Int.tdiv (n+d-1) d)] (leaf (RV.x (.int .i64 (Int.tdiv (n+d-1) d))))))) VT ?_;have h:=S9 UE.1 VR.1;unfold upI at h ⊢;exact VC
theorem Qw9:VP VO 77 Zn6:=by
 refine ⟨(UG Tryz.func77),?_⟩;intro avs ns res h I;unfold Zn6 at h;split at h
 ·cases h;exact Zw2 _ _ (I _ VV) (I _ VV)
 ·cases h
theorem Qb7{a Z:Int}(ha:0<=a/\a<=100)(hd:0<=Z/\Z<=100000):0<=a*Z/\a*Z<=10000000:=by
 have h1:=Int.mul_nonneg ha.1 hd.1;have h2:=Bo.mul_bd (x:=a) (y:=Z) (X:=100) (Y:=100000) VJ VJ;omega
def Qd7:UW
 |[.agg [.x (.int .i64 a),.x (.int .i64 b)],.x (.int .i64 Z)]=>some ([0<=a/\a<=100,0<=b/\b<=100,0<=Z/\Z<=100000],.agg [i (dnI (a*Z) 100),i (upI (b*Z) 100)])
 |_=>none
theorem Qz3(a b Z:Int)(VR:0<=a/\a<=100)(UE:0<=b/\b<=100)(HQ:0<=Z/\Z<=100000):VX VO 151 [.agg [i a,i b],i Z] (.agg [i (dnI (a*Z) 100),i (upI (b*Z) 100)]):=by
 refine U1 (L:=[]) (Ae TZ (Ae Qw9 Aa)) VY Tryz.func151 (UT Tryz.f151) U3 (t:=need [VL (a*Z)] (need [(1:Int)<=100/\(100:Int)<=100000,(0:Int)<=a*Z/\a*Z<=1000000000000] (need [VL (b*Z)] (need [(1:Int)<=100/\(100:Int)<=100000,(0:Int)<=b*Z/\b*Z<=1000000000000] (leaf (RV.agg [RV.x (.int .i64 (dnI (a*Z) (100:Int))),RV.x (.int .i64 (upI (b*Z) (100:Int)))])))))) VT ?_;have h1:=Qb7 VR HQ;have h2:=Qb7 UE HQ;exact VC
theorem c7:VP VO 151 Qd7:=by
 refine ⟨(UG Tryz.func151),?_⟩;intro avs ns res h I;unfold Qd7 at h;split at h
 ·cases h;exact Qz3 _ _ _ (I _ VV) (I _ VV) (I _ VV)
 ·cases h
section
variable (f:Nat->Int)(k:Nat)(Z:Int)
def onL:Int:=f (4+2*k)-upI (f 3*Z) 100
def onH:Int:=f (5+2*k)-dnI (f 2*Z) 100
end
def teM(c:Int)(k:Nat):Int:=dnI (1000*k) c
def drB(f:Nat->Int):Prop:=(0<=f 2/\f 2<=100)/\(0<=f 3/\f 3<=100)
def bdB(f:Nat->Int):Prop:= ∀j,j<22-> -100000000000<=f (4+j)/\f (4+j)<=100000000000
theorem Qz4{f:Nat->Int}{Z:Int}(h:drB f)(hd:0<=Z/\Z<=100000):(0<=upI (f 3*Z) 100/\upI (f 3*Z) 100<=10000000)/\0<=dnI (f 2*Z) 100/\dnI (f 2*Z) 100<=10000000:=by
 have h1:=Qb7 h.1 hd;have h2:=Qb7 h.2 hd;have h3:=gG h1.1 (show (1:Int)<=100 by omega)
 have h4:=S9 h2.1 (show (1:Int)<=100 by omega)
 omega
theorem nX(c T U O:Int)(A B:AV)(f:Nat->Int)(k:Nat)(Z:Int)(VR:drB f)(UE:bdB f)(HQ:k<=10)(F1:0<=Z/\Z<=100000):VX VO 114 [.roI [i c,i T,i U,i O,A,B] 26 f 0,i k,i Z] (i (onL f k Z)):=by
 refine U1 (L:=[]) (Ae c7 Aa) VY Tryz.func114 (UT Tryz.f114) U3 (t:=need [UJ k 11] (need [k*2+10+0-1-1-1-1-1-1<26] (need [2+2<=26] (need [(0:Int)<=f (2+nat_lit 0)/\f (2+nat_lit 0)<=100,(0:Int)<=f (2+nat_lit 1)/\f (2+nat_lit 1)<=100,(0:Int)<=Z/\Z<=100000] (need [VL (f (k*2+10+0-1-1-1-1-1-1)-upI (f (2+nat_lit 1)*Z) (100:Int))] (leaf (RV.x (.int .i64 (f (k*2+10+0-1-1-1-1-1-1)-upI (f (2+nat_lit 1)*Z) (100:Int)))))))))) VT ?_;have h0:=Qz4 VR F1;have h1:=UE (2*k) VJ;have h2:=UE (2*k+1) VJ;rw [show 4+(2*k+1)=5+2*k by omega] at h2
 have d1:=VR.1;have d2:=VR.2
 have hi6:VL (f (4+2*k)-upI (f 3*Z) 100):=by
  simp only [VL];omega
 simp only [VM.sat,UB,G4,GJ,UD,UH];rw [show k*2+10+0-1-1-1-1-1-1=4+2*k by omega]
 exact ⟨VJ,VJ,VJ,⟨d1,d2,F1⟩,hi6,rfl⟩
def lJ:UW
 |[.roI [.x (.int .i64 c),.x (.int .i64 T),.x (.int .i64 U),.x (.int .i64 O),A,B] 26 f 0,.x (.int .i64 k),.x (.int .i64 Z)]=>some ([drB f,bdB f,0<=k/\k<=10,0<=Z/\Z<=100000],i (onL f k.toNat Z))
 |_=>none
theorem nW:VP VO 114 lJ:=by
 refine ⟨(UG Tryz.func114),?_⟩;intro avs ns res h I;unfold lJ at h;split at h
 ·rename_i c T U O A B f k Z;cases h;have hk:0<=k/\k<=10:=I _ VV;have e:((k.toNat:Nat):Int)=k:=VJ;have h0:=nX c T U O A B f k.toNat Z (I _ VV) (I _ VV) VJ (I _ VV);rw [e] at h0;exact h0
 ·cases h
theorem TN(c T U O:Int)(A B:AV)(f:Nat->Int)(k:Nat)(Z:Int)(VR:drB f)(UE:bdB f)(HQ:k<=10)(F1:0<=Z/\Z<=100000):VX VO 115 [.roI [i c,i T,i U,i O,A,B] 26 f 0,i k,i Z] (i (onH f k Z)):=by
 refine U1 (L:=[]) (Ae c7 Aa) VY Tryz.func115 (UT Tryz.f115) U3 (t:=need [UJ k 11] (need [k*2+10+1-1-1-1-1-1-1<26] (need [2+2<=26] (need [(0:Int)<=f (2+nat_lit 0)/\f (2+nat_lit 0)<=100,(0:Int)<=f (2+nat_lit 1)/\f (2+nat_lit 1)<=100,(0:Int)<=Z/\Z<=100000] (need [VL (f (k*2+10+1-1-1-1-1-1-1)-dnI (f (2+nat_lit 0)*Z) (100:Int))] (leaf (RV.x (.int .i64 (f (k*2+10+1-1-1-1-1-1-1)-dnI (f (2+nat_lit 0)*Z) (100:Int)))))))))) VT ?_;have h0:=Qz4 VR F1;have h1:=UE (2*k) VJ;have h2:=UE (2*k+1) VJ;rw [show 4+(2*k+1)=5+2*k by omega] at h2
 have d1:=VR.1;have d2:=VR.2
 have hi6:VL (f (5+2*k)-dnI (f 2*Z) 100):=by
  simp only [VL];omega
 simp only [VM.sat,UB,G4,GJ,UD,UH];rw [show k*2+10+1-1-1-1-1-1-1=5+2*k by omega]
 exact ⟨VJ,VJ,VJ,⟨d1,d2,F1⟩,hi6,rfl⟩
def IS:UW
 |[.roI [.x (.int .i64 c),.x (.int .i64 T),.x (.int .i64 U),.x (.int .i64 O),A,B] 26 f 0,.x (.int .i64 k),.x (.int .i64 Z)]=>some ([drB f,bdB f,0<=k/\k<=10,0<=Z/\Z<=100000],i (onH f k.toNat Z))
 |_=>none
theorem TM:VP VO 115 IS:=by
 refine ⟨(UG Tryz.func115),?_⟩;intro avs ns res h I;unfold IS at h;split at h
 ·rename_i c T U O A B f k Z;cases h;have hk:0<=k/\k<=10:=I _ VV;have e:((k.toNat:Nat):Int)=k:=VJ;have h0:=TN c T U O A B f k.toNat Z (I _ VV) (I _ VV) VJ (I _ VV);rw [e] at h0;exact h0
 ·cases h
theorem Ja9(c T U O:Int)(A B:AV)(f:Nat->Int)(k:Nat)(Z:Int)(VR:drB f)(UE:bdB f)(HQ:k<=10)(F1:0<=Z/\Z<=100000):VX VO 72 [.roI [i c,i T,i U,i O,A,B] 26 f 0,i k,i Z] (.agg [i (onL f k Z),i (onH f k Z)]):=by
 refine U1 (L:=[]) (Ae nW (Ae TM Aa)) VY Tryz.func72 (UT Tryz.f72) U3 (t:=need [drB f,bdB f,(0:Int)<=(k:Int)/\(k:Int)<=10,(0:Int)<=Z/\Z<=100000] (need [drB f,bdB f,(0:Int)<=(k:Int)/\(k:Int)<=10,(0:Int)<=Z/\Z<=100000] (leaf (RV.agg [RV.x (.int .i64 (onL f k Z)),RV.x (.int .i64 (onH f k Z))])))) VT ?_;simp only [VM.sat,UB,G4,GJ,UD,UH,DZ];exact ⟨⟨VR,UE,VJ,F1⟩,⟨VR,UE,VJ,F1⟩⟩
def Jn0:UW
 |[.roI [.x (.int .i64 c),.x (.int .i64 T),.x (.int .i64 U),.x (.int .i64 O),A,B] 26 f 0,.x (.int .i64 k),.x (.int .i64 Z)]=>some ([drB f,bdB f,0<=k/\k<=10,0<=Z/\Z<=100000],.agg [i (onL f k.toNat Z),i (onH f k.toNat Z)])
 |_=>none
theorem Wc2:VP VO 72 Jn0:=by
 refine ⟨(UG Tryz.func72),?_⟩;intro avs ns res h I;unfold Jn0 at h;split at h
 ·rename_i c T U O A B f k Z;cases h;have hk:0<=k/\k<=10:=I _ VV;have e:((k.toNat:Nat):Int)=k:=VJ;have h0:=Ja9 c T U O A B f k.toNat Z (I _ VV) (I _ VV) VJ (I _ VV);rw [e] at h0;exact h0
 ·cases h
theorem Xq0{c:Int}{k:Nat}(hc:1<=c/\c<=10)(hk:k<=10):0<=teM c k/\teM c k<=10000:=by
 have:=gG (n:=1000*k) VJ hc.1;unfold teM;omega
theorem Qx3(c T U O:Int)(A B:AV)(f:Nat->Int)(k:Nat)(VR:1<=c/\c<=10)(UE:k<=10):VX VO 141 [.roI [i c,i T,i U,i O,A,B] 26 f 0,i k] (i (teM c k)):=by
 refine GV Tryz.func141 (t:=need [VL ((1000:Int)*(k:Int))] (need [c≠0,VL (Int.tdiv ((1000:Int)*(k:Int)) c)] (leaf (RV.x (.int .i64 (Int.tdiv ((1000:Int)*(k:Int)) c)))))) VT ?_;have h:=Xq0 VR UE;unfold teM dnI at h ⊢;exact VC
def Qd5:UW
 |[.roI [.x (.int .i64 c),.x (.int .i64 T),.x (.int .i64 U),.x (.int .i64 O),A,B] 26 f 0,.x (.int .i64 k)]=>some ([1<=c/\c<=10,0<=k/\k<=10],i (teM c k.toNat))
 |_=>none
theorem Qx2:VP VO 141 Qd5:=by
 refine ⟨(UG Tryz.func141),?_⟩;intro avs ns res h I;unfold Qd5 at h;split at h
 ·rename_i c T U O A B f k;cases h;have hk:0<=k/\k<=10:=I _ VV;have e:((k.toNat:Nat):Int)=k:=VJ;have h0:=Qx3 c T U O A B f k.toNat (I _ VV) VJ;rw [e] at h0;exact h0
 ·cases h
theorem MN(c T U O:Int)(A B:AV)(f:Nat->Int)(k:Nat)(Z:Int)(VR:drB f)(UE:bdB f)(HQ:k<=10)(F1:0<=Z/\Z<=100000)(BL:1<=c/\c<=10):VX VO 97 [.roI [i c,i T,i U,i O,A,B] 26 f 0,i k,i Z] (.agg [i (onL f k Z-teM c k),i (onH f k Z-teM c k)]):=by
 refine U1 (L:=[]) (Ae Wc2 (Ae Qx2 Aa)) VY Tryz.func97 (UT Tryz.f97) U3 (t:=need [drB f,bdB f,(0:Int)<=(k:Int)/\(k:Int)<=10,(0:Int)<=Z/\Z<=100000] (need [(1:Int)<=c/\c<=10,(0:Int)<=(k:Int)/\(k:Int)<=10] (need [VL (onL f k Z-teM c k)] (need [(1:Int)<=c/\c<=10,(0:Int)<=(k:Int)/\(k:Int)<=10] (need [VL (onH f k Z-teM c k)] (leaf (RV.agg [RV.x (.int .i64 (onL f k Z-teM c k)),RV.x (.int .i64 (onH f k Z-teM c k))]))))))) VT ?_;have h0:=Qz4 VR F1;have h1:=UE (2*k) VJ;have h2:=UE (2*k+1) VJ;rw [show 4+(2*k+1)=5+2*k by omega] at h2
 have d1:=VR.1;have d2:=VR.2
 have h5:=Xq0 BL HQ;unfold onL onH;simp only [VM.sat,UB,G4,GJ,UD,VL,UH,DZ,onL,onH];refine ⟨⟨VR,UE,VJ,F1⟩,⟨BL,VJ⟩,VJ,⟨BL,VJ⟩,VJ⟩
def gN:UW
 |[.roI [.x (.int .i64 c),.x (.int .i64 T),.x (.int .i64 U),.x (.int .i64 O),A,B] 26 f 0,.x (.int .i64 k),.x (.int .i64 Z)]=>some ([drB f,bdB f,0<=k/\k<=10,0<=Z/\Z<=100000,1<=c/\c<=10],.agg [i (onL f k.toNat Z-teM c k.toNat),i (onH f k.toNat Z-teM c k.toNat)])
 |_=>none
theorem MM:VP VO 97 gN:=by
 refine ⟨(UG Tryz.func97),?_⟩;intro avs ns res h I;unfold gN at h;split at h
 ·rename_i c T U O A B f k Z;cases h;have hk:0<=k/\k<=10:=I _ VV;have e:((k.toNat:Nat):Int)=k:=VJ;have h0:=MN c T U O A B f k.toNat Z (I _ VV) (I _ VV) VJ (I _ VV) (I _ VV);rw [e] at h0;exact h0
 ·cases h
def keP(c:Int)(f:Nat->Int)(wi Z x:Int):Bool:=insB (-wi) (onL f x.toNat Z-teM c x.toNat) (onH f x.toNat Z-teM c x.toNat) wi
def mkV(p:Int)(j:Nat):List Value:=[.int .i64 (p+j)]
def Qe2:UW
 |[.x (.int .i64 x),.ro [.roI [.x (.int .i64 c),.x (.int .i64 T),.x (.int .i64 U),.x (.int .i64 O),A,B] 26 f 0],.ro [.x (.int .i64 Z)],.ro [.x (.int .i64 S),.x (.int .i64 W),.x (.int .i64 wi)]]=>some ([drB f,bdB f,1<=c/\c<=10,0<=Z/\Z<=100000,0<=wi/\wi<=1000000,0<=x/\x<=10],bl (keP c f wi Z x))
 |_=>none
section
variable (x:Int)(c T U O:Int)(A B:AV)(f:Nat->Int)(Z S W wi:Int)
theorem We7(VR:drB f)(UE:bdB f)(HQ:1<=c/\c<=10)(F1:0<=Z/\Z<=100000)(BL:0<=wi/\wi<=1000000)(xX:0<=x/\x<=10):VX VO 96 [i x,.ro [.roI [i c,i T,i U,i O,A,B] 26 f 0],.ro [i Z],.ro [i S,i W,i wi]] (bl (keP c f wi Z x)):=by
 refine U1 (L:=[]) (Ae MM (Ae PO Aa)) VY Tryz.func96 (UT Tryz.f96) U3 (t:=need [drB f,bdB f,(0:Int)<=x/\x<=10,(0:Int)<=Z/\Z<=100000,(1:Int)<=c/\c<=10] (need [VL (-wi)] (leaf (RV.x (.bool (insB (-wi) (onL f (Int.toNat x) Z-teM c (Int.toNat x)) (onH f (Int.toNat x) Z-teM c (Int.toNat x)) wi)))))) VT ?_;simp only [VM.sat,UB,G4,GJ,UD,VL,UH,keP];exact ⟨⟨VR,UE,xX,F1,HQ⟩,VJ⟩
theorem We6:VP VO 96 Qe2:=by
 refine ⟨(UG Tryz.func96),?_⟩;intro avs ns res h I;unfold Qe2 at h;split at h
 ·cases h;exact We7 _ _ _ _ _ _ _ _ _ _ _ _ (I _ VV) (I _ VV) (I _ VV) (I _ VV) (I _ VV) (I _ VV)
 ·cases h
theorem Wt4(VR:drB f)(UE:bdB f)(HQ:1<=c/\c<=10)(F1:0<=Z/\Z<=100000)(BL:0<=wi/\wi<=1000000)(xX:0<=x/\x<=10):VX VO 138 [i x,.ro [.fn (.func 96) [] [.ro [.roI [i c,i T,i U,i O,A,B] 26 f 0],.ro [i Z],.ro [i S,i W,i wi]]]] (bl (!(keP c f wi Z x))):=by
 refine U1 (L:=[]) (Ae We6 Aa) VY Tryz.func138 (UT Tryz.f138) U3 (t:=need [drB f,bdB f,(1:Int)<=c/\c<=10,(0:Int)<=Z/\Z<=100000,(0:Int)<=wi/\wi<=1000000,(0:Int)<=x/\x<=10] (leaf (RV.x (.bool !keP c f wi Z x)))) VT ?_;simp only [VM.sat,UB,G4,GJ,UD,UH];exact ⟨VR,UE,HQ,F1,BL,xX⟩
end
def Qf4:UW
 |[.x (.int .i64 x),.ro [.fn (.func 96) [] [.ro [.roI [.x (.int .i64 c),.x (.int .i64 T),.x (.int .i64 U),.x (.int .i64 O),A,B] 26 f 0],.ro [.x (.int .i64 Z)],.ro [.x (.int .i64 S),.x (.int .i64 W),.x (.int .i64 wi)]]]]=>some ([drB f,bdB f,1<=c/\c<=10,0<=Z/\Z<=100000,0<=wi/\wi<=1000000,0<=x/\x<=10],bl (!(keP c f wi Z x)))
 |_=>none
theorem lD:VP VO 138 Qf4:=by
 refine ⟨(UG Tryz.func138),?_⟩;intro avs ns res h I;unfold Qf4 at h;split at h
 ·cases h;exact Wt4 _ _ _ _ _ _ _ _ _ _ _ _ (I _ VV) (I _ VV) (I _ VV) (I _ VV) (I _ VV) (I _ VV)
 ·cases h
abbrev WB(c:Int)(T:Int)(U:Int)(O:Int)(A:AV)(B:AV)(f:Nat->Int)(Z:Int)(S:Int)(W:Int)(wi:Int):AV:=AV.fn (Fn.func 138) [] [AV.ro [AV.fn (Fn.func 96) [] [AV.ro [roI [iI c,iI T,iI U,iI O,A,B] 26 (λa=>f a) 0],AV.ro [iI Z],AV.ro [iI S,iI W,iI wi]]]]
section
variable (n:Nat)(g:Nat->Int)
abbrev KA:AV:=lst 1 n λk=>[iI (g k)]
def Wy6(c T U O:Int)(A B:AV)(f:Nat->Int)(Z S W wi:Int):St:={σ:=[KA n g,WB c T U O A B f Z S W wi]++HH 5 [iI (n:Int)]++HH 11 [],m:=[],nx:=4}
noncomputable def Jn9:Code:=U9 (VS (U7 Tryz.f172) 0)
def We9(c T U O:Int)(A B:AV)(f:Nat->Int)(Z S W wi:Int)(k:Nat):St:=(upM [(8,i k)] (Wy6 n g c T U O A B f Z S W wi))
def hZ(c T U O:Int)(A B:AV)(f:Nat->Int)(Z S W wi:Int)(k:Nat):G7->Option St
 | .ret=>some (upM [(4,i (GW ((λk=> !(keP c f wi Z (g k)))) n))] (Wy6 n g c T U O A B f Z S W wi))
 | .exit 0=>some (upM [] (Wy6 n g c T U O A B f Z S W wi))
 |_=>none
def Jj0(c T U O:Int)(A B:AV)(f:Nat->Int)(Z S W wi:Int):CT:= .branch (decide (GW ((λk=> !(keP c f wi Z (g k)))) n<n)) (.leaf (.ret,(hZ n g c T U O A B f Z S W wi 0 .ret).getD (Wy6 n g c T U O A B f Z S W wi))) (.leaf (.exit 0,(hZ n g c T U O A B f Z S W wi 0 (.exit 0)).getD (Wy6 n g c T U O A B f Z S W wi)))
def Xt4(c T U O:Int)(A B:AV)(f:Nat->Int)(Z S W wi:Int):UI:=(HG (We9 n g c T U O A B f Z S W wi (0)) (Jj0 n g c T U O A B f Z S W wi))
theorem Zt1(c T U O:Int)(A B:AV)(f:Nat->Int)(Z S W wi:Int)(VR:n<=100000)(UE:drB f)(HQ:bdB f)(F1:1<=c/\c<=10)(BL:0<=Z/\Z<=100000)(xX:0<=wi/\wi<=1000000)(nI: ∀j,j<n->0<=g j/\g j<=10):G8 VO (.loop Jn9) (Xt4 n g c T U O A B f Z S W wi):=by
 refine HF (L:=[]) (Ae lD Aa) VY U3 (X:=Nat) (We9 n g c T U O A B f Z S W wi) (λk=>k<=n/\ ∀j,j<k->(λk=> !(keP c f wi Z (g k))) j=false) (λk=>n-k) (hZ n g c T U O A B f Z S W wi) (x0:=0) ⟨VJ,λj hj=>VJ⟩ ?_ ?_ ?_
 ·rintro k;kernel_rfl
 ·rintro k y E h;unfold hZ at h;split at h
  ·cases h;kernel_rfl
  ·cases h;kernel_rfl
  ·cases h
 ·rintro Q hQ k hx;refine ⟨(k+1),?_⟩;(with_reducible refine DH (t:=let z0:=(VZ (WB c T U O A B f Z S W wi));(branch (decide ((k:Int)<(n:Int))) (need [UJ k n] (need [drB λa=>f a,bdB λa=>f a,(1:Int)<=c/\c<=10,(0:Int)<=Z/\Z<=100000,(0:Int)<=wi/\wi<=1000000,(0:Int)<=g k/\g k<=10] (branch (!keP c (λa=>f a) wi Z (g k)) (need [VZ (KA n g),z0,(k:Int)=(↑(GW (λk=> !keP c f wi Z (g k)) n):Int),VZ (n:Int)] (leaf G7.ret)) (need [VL ((k:Int)+1)] (need [VZ (KA n g),z0,VZ (n:Int),(k:Int)+1=(↑(k+1):Int)] (leaf G7.normal)))))) (need [VZ (KA n g),z0,VZ (n:Int)] (leaf (G7.exit 0))))) VT ?_)
  simp only [Jj0,hZ,VM.sat,GT,HA] at hQ;simp only [VM.sat,UB,UH,HA,VL,hZ,DZ];refine ⟨λh=>⟨VJ,⟨UE,HQ,F1,BL,xX,nI k VJ⟩,?_⟩,λh=>?_⟩
  rotate_left
  ·have hf:GW ((λk=> !(keP c f wi Z (g k)))) n=n:=BV (λj hj=>hx.2 j VJ)
   intro E hE;cases hE;exact hQ.2 VJ
  refine ⟨λhb=>?_,λhb=>?_⟩
  ·have hf:GW ((λk=> !(keP c f wi Z (g k)))) n=k:=zG VJ hb hx.2
   refine ⟨VJ,λE hE=>?_⟩
   cases hE;exact hQ.1 VJ
  ·refine ⟨VJ,VJ,⟨VJ,λj hj=>?_⟩,VJ⟩
   rcases (show j<k\/j=k by omega) with h1|rfl
   ·exact hx.2 j h1
   ·exact hb
theorem Xy6(c T U O:Int)(A B:AV)(f:Nat->Int)(Z S W wi:Int)(VR:n<=100000)(UE:drB f)(HQ:bdB f)(F1:1<=c/\c<=10)(BL:0<=Z/\Z<=100000)(xX:0<=wi/\wi<=1000000)(nI: ∀j,j<n->0<=g j/\g j<=10):VX VO 172 [.lst 1 n (λk=>[i (g k)]),.fn (.func 138) [] [.ro [.fn (.func 96) [] [.ro [.roI [i c,i T,i U,i O,A,B] 26 f 0],.ro [i Z],.ro [i S,i W,i wi]]]]] (i (if GW ((λk=> !(keP c f wi Z (g k)))) n<n then (GW ((λk=> !(keP c f wi Z (g k)))) n:Int) else -1)):=by
 refine U1 (L:=[Xt4 n g c T U O A B f Z S W wi]) (Ae lD Aa) VY Tryz.func172 (UT Tryz.f172) (G0 (lpE (b:= .loop Jn9) VT<|Zt1 n g c T U O A B f Z S W wi VR UE HQ F1 BL xX nI)) (t:=need [VZ (KA n g),VZ (WB c T U O A B f Z S W wi),VZ (n:Int),(0:Int)=(↑(0:Nat):Int)] (branch (decide (GW (λk=> !keP c f wi Z (g k)) n<n)) (leaf (RV.x (.int .i64 (↑(GW (λk=> !keP c f wi Z (g k)) n):Int)))) (leaf (RV.x (.int .i64 (-1:Int)))))) VT ?_
 exact VB
end
def Xs5:UW
 |[.lst 1 n g,.fn (.func 138) [] [.ro [.fn (.func 96) [] [.ro [.roI [.x (.int .i64 c),.x (.int .i64 T),.x (.int .i64 U),.x (.int .i64 O),A,B] 26 f 0],.ro [.x (.int .i64 Z)],.ro [.x (.int .i64 S),.x (.int .i64 W),.x (.int .i64 wi)]]]]]=>some ([UF 1 n g,n<=100000,drB f,bdB f,1<=c/\c<=10,0<=Z/\Z<=100000,0<=wi/\wi<=1000000,∀j,j<n->0<=col 0 g j/\col 0 g j<=10],i (if GW ((λk=> !(keP c f wi Z (col 0 g k)))) n<n then (GW ((λk=> !(keP c f wi Z (col 0 g k)))) n:Int) else -1))
 |_=>none
theorem Xy5:VP VO 172 Xs5:=by
 refine ⟨(UG Tryz.func172),?_⟩;intro avs ns res h I;unfold Xs5 at h;split at h
 ·cases h;have hr:UF 1 _ _:=I _ (GG);exact (Xy6 _ (col 0 _) _ _ _ _ _ _ _ _ _ _ _ (I _ VV) (I _ VV) (I _ VV) (I _ VV) (I _ VV) (I _ VV) (I _ VV)).same (.cons (.lst 1 _ _ _ hr) (.cons (.refl _) .nil))
 ·cases h
theorem Zm7(n:Nat)(g:Nat->Int)(c T U O:Int)(A B:AV)(f:Nat->Int)(Z S W wi:Int)(VR:n<=100000)(UE:drB f)(HQ:bdB f)(F1:1<=c/\c<=10)(BL:0<=Z/\Z<=100000)(xX:0<=wi/\wi<=1000000)(nI: ∀j,j<n->0<=g j/\g j<=10):VX VO 137 [.lst 1 n (λk=>[i (g k)]),.fn (.func 138) [] [.ro [.fn (.func 96) [] [.ro [.roI [i c,i T,i U,i O,A,B] 26 f 0],.ro [i Z],.ro [i S,i W,i wi]]]]] (bl (!D5 (λk=>keP c f wi Z (g k)) n)):=by
 refine U1 (L:=[]) (Ae Xy5 Aa) VY Tryz.func137 (UT Tryz.f137) U3 (t:=need [UF 1 n λk=>[i (g k)],n<=100000,drB f,bdB f,(1:Int)<=c/\c<=10,(0:Int)<=Z/\Z<=100000,(0:Int)<=wi/\wi<=1000000,∀(j:Nat),j<n->(0:Int)<=g j/\g j<=10] (leaf (RV.x (.bool (decide ((if GW (λk=> !keP c f wi Z (g k)) n<n then (↑(GW (λk=> !keP c f wi Z (g k)) n):Int) else (-1:Int))>=(0:Int))))))) VT ?_
 simp only [VM.sat,UB,G4,UD,UH];refine ⟨⟨λ_ _=>rfl,VR,UE,HQ,F1,BL,xX,nI⟩,?_⟩
 rw [kB];have e:(λk=> !(λk=>keP c f wi Z (g k)) k)=(λk=> !(keP c f wi Z (g k))):=rfl
 rw [e];show decide ((if GW (λk=> !(keP c f wi Z (g k))) n<n then (GW (λk=> !(keP c f wi Z (g k))) n:Int) else -1)>=0)=_
 have:=F2 ((λk=> !(keP c f wi Z (g k)))) n
 split<;>simp<;>omega
def Xt1:UW
 |[.lst 1 n g,.fn (.func 138) [] [.ro [.fn (.func 96) [] [.ro [.roI [.x (.int .i64 c),.x (.int .i64 T),.x (.int .i64 U),.x (.int .i64 O),A,B] 26 f 0],.ro [.x (.int .i64 Z)],.ro [.x (.int .i64 S),.x (.int .i64 W),.x (.int .i64 wi)]]]]]=>some ([UF 1 n g,n<=100000,drB f,bdB f,1<=c/\c<=10,0<=Z/\Z<=100000,0<=wi/\wi<=1000000,∀j,j<n->0<=col 0 g j/\col 0 g j<=10],bl (!D5 (λk=>keP c f wi Z (col 0 g k)) n))
 |_=>none
theorem Zm6:VP VO 137 Xt1:=by
 refine ⟨(UG Tryz.func137),?_⟩;intro avs ns res h I;unfold Xt1 at h;split at h
 ·cases h;have hr:UF 1 _ _:=I _ (GG);exact (Zm7 _ (col 0 _) _ _ _ _ _ _ _ _ _ _ _ (I _ VV) (I _ VV) (I _ VV) (I _ VV) (I _ VV) (I _ VV) (I _ VV)).same (.cons (.lst 1 _ _ _ hr) (.cons (.refl _) .nil))
 ·cases h
theorem Xl1(n:Nat)(g:Nat->Int)(c T U O:Int)(A B:AV)(f:Nat->Int)(Z S W wi:Int)(VR:n<=100000)(UE:drB f)(HQ:bdB f)(F1:1<=c/\c<=10)(BL:0<=Z/\Z<=100000)(xX:0<=wi/\wi<=1000000)(nI: ∀j,j<n->0<=g j/\g j<=10):VX VO 93 [.lst 1 n (λk=>[i (g k)]),.fn (.func 96) [] [.ro [.roI [i c,i T,i U,i O,A,B] 26 f 0],.ro [i Z],.ro [i S,i W,i wi]]] (bl (D5 (λk=>keP c f wi Z (g k)) n)):=by
 refine U1 (L:=[]) (Ae Zm6 Aa) VY Tryz.func93 (UT Tryz.f93) U3 (t:=need [UF 1 n λk=>[i (g k)],n<=100000,drB f,bdB f,(1:Int)<=c/\c<=10,(0:Int)<=Z/\Z<=100000,(0:Int)<=wi/\wi<=1000000,∀(j:Nat),j<n->(0:Int)<=g j/\g j<=10] (leaf (RV.x (.bool !!D5 (λk=>keP c f wi Z (g k)) n)))) VT ?_
 simp only [VM.sat,UB,G4,UD,UH];refine ⟨⟨λ_ _=>rfl,VR,UE,HQ,F1,BL,xX,nI⟩,?_⟩
 show (!!D5 (λk=>keP c f wi Z (g k)) n)=_
 simp
def Wv4:UW
 |[.lst 1 n g,.fn (.func 96) [] [.ro [.roI [.x (.int .i64 c),.x (.int .i64 T),.x (.int .i64 U),.x (.int .i64 O),A,B] 26 f 0],.ro [.x (.int .i64 Z)],.ro [.x (.int .i64 S),.x (.int .i64 W),.x (.int .i64 wi)]]]=>some ([UF 1 n g,n<=100000,drB f,bdB f,1<=c/\c<=10,0<=Z/\Z<=100000,0<=wi/\wi<=1000000,∀j,j<n->0<=col 0 g j/\col 0 g j<=10],bl (D5 (λk=>keP c f wi Z (col 0 g k)) n))
 |_=>none
theorem Xl0:VP VO 93 Wv4:=by
 refine ⟨(UG Tryz.func93),?_⟩;intro avs ns res h I;unfold Wv4 at h;split at h
 ·cases h;have hr:UF 1 _ _:=I _ (GG);exact (Xl1 _ (col 0 _) _ _ _ _ _ _ _ _ _ _ _ (I _ VV) (I _ VV) (I _ VV) (I _ VV) (I _ VV) (I _ VV) (I _ VV)).same (.cons (.lst 1 _ _ _ hr) (.cons (.refl _) .nil))
 ·cases h
def aI:UW
 |[.x (.int .i64 p),.x (.int .i64 q)]=>some ([],.fn (.func 140) [] [.ro [i p],.ro [i q]])
 |_=>none
abbrev XS(p:Int)(q:Int):AV:=AV.fn (Fn.func 140) [] [AV.ro [iI p],AV.ro [iI q]]
abbrev JZ:Ext:={}
theorem Wd4(p q:Int):FN VO 95 [i p,i q] (.fn (.func 140) [] [.ro [i p],.ro [i q]]):=by
 refine D1 (L:=[]) Aa Ad VY Tryz.func95 (UT Tryz.f95) G5 (t:=leaf (XS p q)) VT ?_;exact rfl
theorem dB:PF VO 95 aI:=by
 refine ⟨(UG Tryz.func95),?_⟩;intro avs ns res h I;unfold aI at h;split at h
 ·cases h;exact Wd4 _ _
 ·cases h
section
variable (l:Nat)
abbrev YF:AV:=AV.fn (Fn.yield l) [] []
def Wz4(p q:Int):St:={σ:=[YF l,AV.ro [iI p],AV.ro [iI q]]++HH 12 [],m:=[],nx:=2,gh:=some 0}
noncomputable def Zs4:Code:=U9 (VS (U7 Tryz.f140) 0)
def TK(p q:Int)(j:Nat):St:={σ:=H4 [(4,i (p+j))] (Wz4 l p q).σ,m:=[],nx:=0,gh:=some (j) }
def jI(p q:Int)(j:Nat):G7->Option St
 | .exit 0=>some {σ:=H4 [] (Wz4 l p q).σ,m:=[],nx:=0,gh:=some ((q-p+1).toNat) }
 | .ret=>some {σ:=H4 [] (Wz4 l p q).σ,m:=[],nx:=0,gh:=none}
 |_=>none
def Jl0(p q:Int):CT:= .may True (.leaf (.exit 0,(jI l p q 0 (.exit 0)).getD (Wz4 l p q))) (.leaf (.ret,(jI l p q 0 .ret).getD (Wz4 l p q)))
def Xv6(p q:Int):UI:=GK [] (HG (TK l p q (0)) (Jl0 l p q))
theorem Jb5(p q:Int)(VR: -1000000<=p/\p<=1000000)(UE: -1000000<=q/\q<=1000000){cx:Cx}(hX:VW VO {Y:=some (l,((q-p+1).toNat),(mkV p)) } cx):HI VO none cx (.loop Zs4) (Xv6 l p q):=by
 refine FJ [] (L:=[]) Aa hX VY G5 (V:=Nat) (TK l p q) (λj=>j<=((q-p+1).toNat)) (λj=>((q-p+1).toNat)-j) (jI l p q) (x0:=0) VV ?_ ?_ ?_
 ·rintro j;kernel_rfl
 ·rintro j y E h;unfold jI at h;split at h
  ·cases h;kernel_rfl
  ·cases h;kernel_rfl
  ·cases h
 ·rintro Q hQ j hx;refine ⟨(j+1),?_⟩;have e:HV VO [] {Y:=some (l,((q-p+1).toNat),(mkV p)) } [] [] Zs4 (TK l p q j) (TK l p q ((j+1))) (jI l p q j)=(branch (decide (p+(j:Int)<=q)) (need [l=l,j<(q-p+1).toNat,VZ ([Value.int IntKind.i64 (p+(j:Int))])] (VM.may True (need [VL (p+(j:Int)+1)] (need [YF l=YF l,VZ (AV.ro [iI p]),VZ (AV.ro [iI q]),p+(j:Int)+1=p+(↑(j+1):Int),j+1=j+1] (leaf G7.normal))) (need [YF l=YF l,VZ (AV.ro [iI p]),VZ (AV.ro [iI q])] (leaf G7.ret)))) (need [YF l=YF l,VZ (AV.ro [iI p]),VZ (AV.ro [iI q]),j=(q-p+1).toNat] (leaf (G7.exit 0)))):=VT;rw [e];simp only [Jl0,jI,VM.sat,GT] at hQ;have hQ1: ∀E,jI l p q j (.exit 0)=some E->Q (.exit 0,E):=λE hE=>by cases hE;exact hQ.1 trivial
  have hQ2: ∀E,jI l p q j .ret=some E->Q (.ret,E):=λE hE=>by cases hE;exact hQ.2
  simp only [VM.sat,UB,UH,HA,VL,DZ];clear e hQ;all_goals exact V6
end
theorem E8(p q:Int)(VR: -1000000<=p/\p<=1000000)(UE: -1000000<=q/\q<=1000000):B6 Tryz.prog 140 [.ro [i p],.ro [i q]] (((q-p+1).toNat)) (mkV p):=by
 refine BH (L:=λl=>[Xv6 l p q]) Aa VY (UG Tryz.func140) Tryz.func140 (UT Tryz.f140) VT (λl cx hX=>G0 (lpE (b:= .loop Zs4) VT<|Jb5 l p q VR UE hX)) (t:=λl=>(need [VZ (AV.fn (Fn.yield l) [] []),VZ (AV.ro [iI p]),VZ (AV.ro [iI q]),p=p+(↑(0:Nat):Int),0=0] (VM.may True (need [VZ (q-p+1).toNat] (leaf PUnit.unit)) (leaf PUnit.unit)))) (λl=>VT) ?_
 intro l;simp only [VM.sat,UB,G4,GJ,UD,VL,UH,HA,FY];all_goals exact V6
theorem cat1{p:Int}{k j:Nat}(h:j<k+1):GE k (λj=>[i (p+j)]) (U4 1 [i (p+k)]) j=[i (p+j)]:=by
 show H0 (decide (j<k)) [i (p+j)] (U4 1 [i (p+k)] (j-k))=_;rw [show j-k=0 by omega]
 by_cases hj:j<k
 ·rw [decide_eq_true hj];rfl
 ·obtain rfl:j=k:=VJ;rw [decide_eq_false hj];rfl
abbrev Z8:AV:=AV.x (.slice none 0 0)
section
variable (p q:Int)
def Jn8:St:={σ:=[Z8,XS p q,ptr 0 0,top,Z8,top,XS p q]++HH 6 [],m:=[(900,GN.row 3 1 0 λx=>[]),(0,GN.cells 22 [AV.row 900])],nx:=901}
def rfF:Option Code->Operand
 |some (.rangeFunc f _ _ _)=>f
 |_=> .const .nilFunc
def jD:Option Code->Array Nat
 |some (.rangeFunc _ ps _ _)=>ps
 |_=>#[]
def SI:Option Code->Code
 |some (.rangeFunc _ _ a _)=>a
 |_=> .skip
def SH:Option Code->Code
 |some (.rangeFunc _ _ _ b)=>b
 |_=> .skip
noncomputable def Jr8:Code:=SI (VS (U7 Tryz.f139) 0)
noncomputable def Jr2:Code:=SH (VS (U7 Tryz.f139) 0)
def oI(k:Nat):St:={σ:=H4 [] (Jn8 p q).σ,m:=[(900,.row 3 1 k (λj=>[i (p+j)])),(0,.cells 22 [.row 900])],nx:=901}
def nN(k:Nat):G7->Option St
 | .normal=>some {σ:=H4 [] (Jn8 p q).σ,m:=[(900,.row 3 1 ((q-p+1).toNat) (λj=>[i (p+j)])),(0,.cells 22 [.row 900])],nx:=901}
 |_=>none
def T_as:CT:= .leaf (.normal,oI p q ((q-p+1).toNat))
def Xx8:UI:=GK [(.cell 0 0,900,3,1)] (HG (oI p q (0)) (T_as p q))
abbrev KJ:Prop:=ptr 0 0=ptr 0 0
theorem Ji6(VR: -1000000<=p/\p<=1000000)(UE: -1000000<=q/\q<=1000000):HP VO (.rangeFunc (rfF (VS (U7 Tryz.f139) 0)) (jD (VS (U7 Tryz.f139) 0)) Jr8 Jr2) (Xx8 p q):=by
 refine P7 [(.cell 0 0,900,3,1)] (L:=[]) Aa Ad VY U3 (V:=Nat) (oI p q) (λk=>k<=((q-p+1).toNat)) (λk=>k) (nN p q) (x0:=0) VV rfl ?_ ?_ ?_ ?_ (g:=140) (caps:=[.ro [i p],.ro [i q]]) VT VT (E8 p q VR UE) (λ_=>rfl) ?_
 ·rintro k;kernel_rfl
 ·rintro k y E h;unfold nN at h;split at h
  ·cases h;kernel_rfl
  ·cases h
 ·rintro k;rfl
 ·rintro k y E h;unfold nN at h;split at h
  ·cases h;rfl
  ·cases h
 ·rintro Q hQ k hx;refine ⟨λhlt=>⟨(k+1),rfl,?_⟩,λPI=>?_⟩
  ·(with_reducible refine DH (t:=need [(k+1)*8<=140737488355328,RT 1 (U4 1 [iI (p+(k:Int))])] (need [Z8=Z8,VZ (XS p q),KJ,Z8=Z8,VZ (XS p q),k+1=k+1,GU (k+1) (GE k (λj=>[iI (p+(j:Int))]) (U4 1 [iI (p+(k:Int))])) (λi=>[iI (p+(i:Int))]),VZ (AV.row 900)] (leaf G7.normal))) VT ?_)
   simp only [VM.sat,UB,UH]
   refine ⟨⟨VJ,λj hj a ha=>FG ha (by simp [AV.one,Value.oneCell'])⟩,λj hj=>?_,VJ⟩
   exact cat1 hj
  ·subst PI;exact hQ
end
def mkF(p:Int)(j:Nat):List AV:=[i (p+j)]
theorem Qr2(p q:Int)(VR: -1000000<=p/\p<=1000000)(UE: -1000000<=q/\q<=1000000):VX VO 139 [.x (.slice none 0 0),.fn (.func 140) [] [.ro [i p],.ro [i q]]] (.lst 1 ((q-p+1).toNat) (mkF p)):=by
 refine GA (L:=[Xx8 p q]) Aa Ad VY Tryz.func139 (UT Tryz.f139) (G0 (lpE (b:= .rangeFunc (rfF (VS (U7 Tryz.f139) 0)) (jD (VS (U7 Tryz.f139) 0)) Jr8 Jr2) VT<|Ji6 p q VR UE)) (t:=need [Z8=Z8,VZ (XS p q),KJ,Z8=Z8,VZ (XS p q),0=0,∀(i:Nat),i<0->[]=[iI (p+(i:Int))],VZ (AV.row 900)] (leaf (RV.lst 1 (q-p+1).toNat λj=>[iI (p+(j:Int))]))) VT ?_
 simp only [VM.sat,UB,G4,GJ,UD,UH]
 (with_reducible repeat' first|apply Al|intro _)
 all_goals first|exact Ak|omega|with_reducible rfl|assumption|rfl|(rename_i h;exact absurd h (Aq _))|(rename_i hm;cases BC.1 hm;exact Ak)|skip
def lU:UW
 |[.x (.slice none 0 0),.fn (.func 140) [] [.ro [.x (.int .i64 p)],.ro [.x (.int .i64 q)]]]=>some ([-1000000<=p/\p<=1000000,-1000000<=q/\q<=1000000],.lst 1 ((q-p+1).toNat) (mkF p))
 |_=>none
theorem Qr1:VP VO 139 lU:=by
 refine ⟨(UG Tryz.func139),?_⟩;intro avs ns res h I;unfold lU at h;split at h
 ·cases h;exact Qr2 _ _ (I _ VV) (I _ VV)
 ·cases h
def OY:UW
 |[.fn (.func 140) [] [.ro [.x (.int .i64 p)],.ro [.x (.int .i64 q)]]]=>some ([-1000000<=p/\p<=1000000,-1000000<=q/\q<=1000000],.lst 1 ((q-p+1).toNat) (mkF p))
 |_=>none
theorem pF(p q:Int)(VR: -1000000<=p/\p<=1000000)(UE: -1000000<=q/\q<=1000000):FN VO 94 [.fn (.func 140) [] [.ro [i p],.ro [i q]]] (.lst 1 ((q-p+1).toNat) (mkF p)):=by
 refine D1 (L:=[]) (Ae Qr1 Aa) Ad VY Tryz.func94 (UT Tryz.f94) G5 (t:=need [(-1000000:Int)<=p/\p<=1000000,(-1000000:Int)<=q/\q<=1000000] (leaf (lst 1 (q-p+1).toNat λj=>[iI (p+(j:Int))]))) VT ?_
 simp only [VM.sat,UB,UH];exact ⟨⟨VR,UE⟩,rfl,rfl,λ_ _=>rfl⟩
theorem iT:PF VO 94 OY:=by
 refine ⟨(UG Tryz.func94),?_⟩;intro avs ns res h I;unfold OY at h;split at h
 ·cases h;exact pF _ _ (I _ VV) (I _ VV)
 ·cases h
def keB(c:Int)(f:Nat->Int)(S W wi Z:Int):Bool:=D5 (λk=>keP c f wi Z (S+k)) (W-S+1).toNat
def Wu6:UW
 |[.roI [.x (.int .i64 c),.x (.int .i64 T),.x (.int .i64 U),.x (.int .i64 O),A,B] 26 f 0,.agg [.x (.int .i64 S),.x (.int .i64 W),.x (.int .i64 wi)],.x (.int .i64 Z)]=>some ([drB f,bdB f,1<=c/\c<=10,0<=S/\S<=W/\W<=10,0<=wi/\wi<=1000000,0<=Z/\Z<=100000],bl (keB c f S W wi Z))
 |_=>none
theorem Xe8(c T U O:Int)(A B:AV)(f:Nat->Int)(S W wi Z:Int)(VR:drB f)(UE:bdB f)(HQ:1<=c/\c<=10)(F1:0<=S/\S<=W/\W<=10)(BL:0<=wi/\wi<=1000000)(xX:0<=Z/\Z<=100000):VX VO 59 [.roI [i c,i T,i U,i O,A,B] 26 f 0,.agg [i S,i W,i wi],i Z] (bl (keB c f S W wi Z)):=by
 refine GA (L:=[]) (Ae Xl0 Aa) (Ai (Af dB (Af iT Ab)) Ac) VY Tryz.func59 (UT Tryz.f59) G5 (t:=need [(-1000000:Int)<=S/\S<=1000000,(-1000000:Int)<=W/\W<=1000000] (need [UF 1 (W-S+1).toNat (mkF S),(W-S+1).toNat<=100000,drB f,bdB f,(1:Int)<=c/\c<=10,(0:Int)<=Z/\Z<=100000,(0:Int)<=wi/\wi<=1000000,∀(j:Nat),j<(W-S+1).toNat->(0:Int)<=col 0 (mkF S) j/\col 0 (mkF S) j<=10] (leaf (RV.x (.bool (D5 (λk=>keP c f wi Z (col 0 (mkF S) k)) (W-S+1).toNat)))))) VT ?_
 simp only [VM.sat,UB,G4,GJ,UD,UH,keB];refine ⟨⟨VJ,VJ⟩,⟨λk hk=>rfl,VJ,VR,UE,HQ,xX,BL,λj hj=>?_⟩,rfl⟩
 show 0<=S+(j:Int)/\S+(j:Int)<=10;omega
theorem Xe7:VP VO 59 Wu6:=by
 refine ⟨(UG Tryz.func59),?_⟩;intro avs ns res h I;unfold Wu6 at h;split at h
 ·cases h;exact Xe8 _ _ _ _ _ _ _ _ _ _ _ (I _ VV) (I _ VV) (I _ VV) (I _ VV) (I _ VV) (I _ VV)
 ·cases h
end Go.Proofs.YtakpdkmhclhlnaaGreatDoor
namespace Go.Proofs.YtakpdkmhclhlnaaGreatDoor.Bo
open Go Go.Sx Go.RowKit
open Go.Sx.VM (need branch leaf)
open Go.Sx.AV (lst ptr agg roI tup top)
def Tr(c:Nat)(T U O:Int)(n:Nat)(a b u v:Nat->Int)(h:Nat->Int):Prop:=
 h 0=0/\h c=T/\(∀k,k<c->U<=h (k+1)-h k/\h (k+1)-h k<=O)/\ ∀j,j<n->h (b j).toNat-h (a j).toNat<=v j/\(b j<c->u j+1<=h (b j+1).toNat-h (a j).toNat)
def ob(c:Nat)(M:Nat->Nat->Int)(h:Nat->Int):Prop:= ∀x y,x<=c->y<=c->h y-h x<=M x y
theorem jM{c:Nat}{M:Nat->Nat->Int}{h:Nat->Int}{p q:Nat}{v:Int}(hp:p<=c)(hq:q<=c):ob c (bnd M p q v) h↔ob c M h/\h q-h p<=v:=by
 constructor
 ·intro k;refine ⟨λx y hx hy=>Int.le_trans (k x y hx hy) (wJ _ _ _ _ _ _),Int.le_trans (k p q hp hq) (a9 _ _ _ _)⟩
 ·rintro ⟨k1,k2⟩ x y hx hy;have h1:=k1 x y hx hy;unfold bnd wS;split
  ·rename_i e;rw [e.1,e.2] at h1 ⊢;omega
  ·exact h1
theorem Xd9{c:Nat}{M N:Nat->Nat->Int}{h:Nat->Int}(hm: ∀x y,M x y<=N x y)(k:ob c M h):ob c N h:=λx y hx hy=>Int.le_trans (k x y hx hy) (hm x y)
theorem Zl6(M:Nat->Nat->Int)(o f t x y:Nat):fwS M o f t x y<=M x y:=wJ _ _ _ _ _ _
theorem Wo1(M:Nat->Nat->Int)(o f:Nat): ∀t x y,fwT M o f t x y<=M x y
 | 0,_,_=>Int.le_refl _
 |t+1,x,y=>Int.le_trans (Zl6 _ _ _ _ _ _) (Wo1 M o f t x y)
theorem Wo4(c:Nat)(M:Nat->Nat->Int)(o:Nat): ∀f x y,fwF c M o f x y<=M x y
 | 0,_,_=>Int.le_refl _
 |f+1,x,y=>Int.le_trans (Wo1 _ _ _ _ _ _) (Wo4 c M o f x y)
theorem Xh5(c:Nat)(M:Nat->Nat->Int)(o x y:Nat):fwO c M (o+1) x y<=fwO c M o x y:=Wo4 _ _ _ _ _ _
theorem TQ(c:Nat)(M:Nat->Nat->Int)(o:Nat): ∀d x y,fwO c M (o+d) x y<=fwO c M o x y
 | 0,_,_=>Int.le_refl _
 |d+1,x,y=>Int.le_trans (Xh5 c M (o+d) x y) (TQ c M o d x y)
theorem Wo3(c:Nat)(M:Nat->Nat->Int)(o x y:Nat):fwO c M o x y<=M x y:=by
 have:=TQ c M 0 o x y
 rwa [Ap] at this
theorem Jb1{c:Nat}{M:Nat->Nat->Int}{h:Nat->Int}{o f:Nat}(ho:o<=c)(hf:f<=c)(k:ob c M h): ∀t,t<=c+1->ob c (fwT M o f t) h
 | 0,_=>k
 |t+1,ht=>by
  have ih:=Jb1 ho hf k t VJ;refine (jM hf VJ).2 ⟨ih,?_⟩;have h1:=ih f o hf ho;have h2:=ih o t ho VJ;omega
theorem Jb3{c:Nat}{M:Nat->Nat->Int}{h:Nat->Int}{o:Nat}(ho:o<=c)(k:ob c M h): ∀f,f<=c+1->ob c (fwF c M o f) h
 | 0,_=>k
 |f+1,hf=>Jb1 ho VJ (Jb3 ho k f VJ) (c+1) (Am _)
theorem Jb2{c:Nat}{M:Nat->Nat->Int}{h:Nat->Int}(k:ob c M h): ∀o,o<=c+1->ob c (fwO c M o) h
 | 0,_=>k
 |o+1,ho=>Jb3 VJ (Jb2 k o VJ) (c+1) (Am _)
theorem Wo2{c:Nat}{M N:Nat->Nat->Int}{o f:Nat}(h0:0<=M o o)(hN: ∀x y,N x y=if x<f/\y<=c then min (M x y) (M x o+M o y) else M x y): ∀t,t<=c+1-> ∀x y,fwT N o f t x y=if (x<f/\y<=c)\/(x=f/\y<t) then min (M x y) (M x o+M o y) else M x y
 | 0,_,x,y=>by
  show N x y=_;rw [hN];by_cases h:x<f/\y<=c
  ·rw [if_pos h,if_pos (.inl h)]
  ·rw [if_neg h,if_neg VJ]
 |t+1,ht,x,y=>by
  have ih:=Wo2 h0 hN t VJ;show bnd (fwT N o f t) f t (fwT N o f t f o+fwT N o f t o t) x y=_;have e1:fwT N o f t f o=M f o:=by
   rw [ih];split<;>omega
  have e2:fwT N o f t o t=M o t:=by
   rw [ih];split<;>omega
  have e3:fwT N o f t f t=M f t:=by
   rw [ih,if_neg VJ]
  unfold bnd wS;rw [e1,e2,e3];by_cases hxy:x=f/\y=t
  ·rw [if_pos hxy,if_pos VJ,hxy.1,hxy.2]
  ·rw [if_neg hxy,ih];by_cases h:(x<f/\y<=c)\/(x=f/\y<t)
   ·rw [if_pos h,if_pos VJ]
   ·rw [if_neg h,if_neg VJ]
theorem Wo5{c:Nat}{M:Nat->Nat->Int}{o:Nat}(h0:0<=M o o): ∀f x y,fwF c M o f x y=if x<f/\y<=c then min (M x y) (M x o+M o y) else M x y
 | 0,x,y=>by
  rw [if_neg VJ];rfl
 |f+1,x,y=>by
  show fwT (fwF c M o f) o f (c+1) x y=_;rw [Wo2 h0 (Wo5 h0 f) (c+1) (Am _)];by_cases h:(x<f/\y<=c)\/(x=f/\y<c+1)
  ·rw [if_pos h,if_pos VJ]
  ·rw [if_neg h,if_neg VJ]
theorem EX{c:Nat}{M:Nat->Nat->Int}: ∀k,k<=c+1->(∀o,o<k->0<=fwO c M o o o)-> ∀p x y,p<k->x<=c->y<=c->fwO c M k x y<=fwO c M k x p+fwO c M k p y
 | 0,_,_,p,x,y,hp,_,_=>absurd hp (Aq _)
 |k+1,hk,hd,p,x,y,hp,hx,hy=>by
  have ih:=EX k VJ (λo ho=>hd o VJ)
  have h0:=hd k VJ;have eq:=Wo5 (c:=c) h0 (c+1);show fwF c (fwO c M k) k (c+1) x y<=fwF c (fwO c M k) k (c+1) x p+fwF c (fwO c M k) k (c+1) p y;rw [eq x y,eq x p,eq p y,if_pos VJ,if_pos VJ,if_pos VJ];rcases (show p=k\/p<k by omega) with rfl|hpk
  ·omega
  ·have i1:=ih p x y hpk hx hy;have i2:=ih p x k hpk hx VJ;have i3:=ih p k y hpk VJ hy;have i4:=ih p k k hpk VJ VJ;omega
theorem Zh4{c:Nat}{h:Nat->Int}:ob c (ini c (c+1) 0) h↔ ∀x y,x<=c->y<=c->h y-h x<=2000:=by
 constructor
 ·intro k x y hx hy;have:=k x y hx hy;unfold ini at this;split at this<;>omega
 ·intro k x y hx hy;unfold ini;by_cases e:x=y
  ·subst e;rw [if_neg VJ];omega
  ·rw [if_pos VJ];exact k x y hx hy
theorem Wc4{c:Nat}{U O:Int}{h:Nat->Int}: ∀k,k<=c->(ob c (cel c U O k) h↔ob c (ini c (c+1) 0) h/\ ∀j,j<k->U<=h (j+1)-h j/\h (j+1)-h j<=O)
 | 0,_=>⟨λk=>⟨k,λj hj=>absurd hj (Aq _)⟩,λk=>k.1⟩
 |k+1,hk=>by
  have ih:=Wc4 (c:=c) (U:=U) (O:=O) (h:=h) k VJ;show ob c (bnd (bnd (cel c U O k) k (k+1) O) (k+1) k (-U)) h↔_;rw [jM VJ VJ,jM VJ VJ,ih];constructor
  ·rintro ⟨⟨⟨h1,h2⟩,h3⟩,h4⟩;refine ⟨h1,λj hj=>?_⟩
   rcases (show j<k\/j=k by omega) with h|rfl
   ·exact h2 j h
   ·omega
  ·rintro ⟨h1,h2⟩;have h3:=h2 k VJ;exact ⟨⟨⟨h1,λj hj=>h2 j VJ⟩,VJ⟩,VJ⟩
def nB(c:Nat)(n:Nat)(a b u v:Nat->Int):Prop:= ∀j,j<n->(0<=a j/\a j<=(c:Int)-1)/\(a j<=b j/\b j<=c)/\0<=u j/\u j<=v j/\v j<=2000
theorem Xq8{c:Nat}{T U O:Int}{a b u v:Nat->Int}{h:Nat->Int}: ∀n,nB c n a b u v->(ob c (rdM c T U O a b u v n) h↔ob c (cel c U O c) h/\h c-h 0=T/\ ∀j,j<n->h (b j).toNat-h (a j).toNat<=v j/\(b j<c->u j+1<=h (b j+1).toNat-h (a j).toNat))
 | 0,_=>by
  show ob c (bnd (bnd (cel c U O c) 0 c T) c 0 (-T)) h↔_;rw [jM VJ VJ,jM VJ VJ];constructor
  ·rintro ⟨⟨h1,h2⟩,h3⟩;exact ⟨h1,VJ,λj hj=>absurd hj (Aq _)⟩
  ·rintro ⟨h1,h2,_⟩;exact ⟨⟨h1,VJ⟩,VJ⟩
 |n+1,hr=>by
  have ih:=Xq8 (c:=c) (T:=T) (U:=U) (O:=O) (a:=a) (b:=b) (u:=u) (v:=v) (h:=h) n (λj hj=>hr j VJ)
  have I:=hr n VJ;have key:ob c (rdM c T U O a b u v (n+1)) h↔ob c (rdM c T U O a b u v n) h/\h (b n).toNat-h (a n).toNat<=v n/\(b n<c->u n+1<=h (b n+1).toNat-h (a n).toNat):=by
   show ob c (rdS c (rdM c T U O a b u v n) _ _ _ _) h↔_;unfold rdS;split
   ·rename_i hb;rw [jM VJ VJ,jM VJ VJ];constructor
    ·rintro ⟨⟨h1,h2⟩,h3⟩;exact ⟨h1,h2,λ_=>VJ⟩
    ·rintro ⟨h1,h2,h3⟩;have:=h3 hb;exact ⟨⟨h1,h2⟩,VJ⟩
   ·rename_i hb;rw [jM VJ VJ];constructor
    ·rintro ⟨h1,h2⟩;exact ⟨h1,h2,λh=>absurd h hb⟩
    ·rintro ⟨h1,h2,_⟩;exact ⟨h1,h2⟩
  rw [key,ih];constructor
  ·rintro ⟨⟨h1,h2,h3⟩,h4⟩;refine ⟨h1,h2,λj hj=>?_⟩
   rcases (show j<n\/j=n by omega) with h|rfl
   ·exact h3 j h
   ·exact h4
  ·rintro ⟨h1,h2,h3⟩;exact ⟨⟨h1,h2,λj hj=>h3 j VJ⟩,h3 n VJ⟩
theorem MX{U:Int}{h:Nat->Int}{c:Nat}(hl:0<=U)(hs: ∀k,k<c->U<=h (k+1)-h k)(x:Nat): ∀d,x+d<=c->h x<=h (x+d)
 | 0,_=>Int.le_refl _
 |d+1,hd=>by
  have ih:=MX hl hs x d VJ;have:=hs (x+d) VJ;rw [←Ba];omega
theorem Zw4{c:Nat}{T U O:Int}{n:Nat}{a b u v:Nat->Int}{h:Nat->Int}(hb:1<=U/\U<=O/\O<=200/\1<=T/\T<=2000)(hr:nB c n a b u v)(h0:h 0=0):Tr c T U O n a b u v h↔ob c (rdM c T U O a b u v n) h:=by
 rw [Xq8 n hr,Wc4 c (Am _),Zh4];constructor
 ·rintro ⟨_,h1,h2,h3⟩;refine ⟨⟨λx y hx hy=>?_,h2⟩,VJ,h3⟩
  have m:=λx d=>MX (U:=U) (h:=h) (c:=c) VJ (λk hk=>(h2 k hk).1) x d
  have m1:=m 0 x VJ;have m2:=m y (c-y) VJ;rw [Ap] at m1;rw [show y+(c-y)=c by omega] at m2
  omega
 ·rintro ⟨⟨_,h2⟩,h3,h4⟩;exact ⟨h0,VJ,h2,h4⟩
theorem Xd0{c:Int}{n:Nat}{a b u v:Nat->Int}(hc:1<=c/\c<=10)(h:D5 (λk=>rdB c (a k) (b k) (u k) (v k)) n=true):nB c.toNat n a b u v:=λj hj=>by
 have:=Xq6 (GR.1 h j hj);omega
section
variable {c:Nat}{T U O:Int}
theorem tL{n:Nat}{a b u v:Nat->Int}:okR c T U O n a b u v=true↔ ∀k,k<=c->0<=fwM c T U O n a b u v k k:=by
 unfold okR;rw [GR];constructor
 ·intro h k hk;simpa using h k VJ
 ·intro h k hk;simpa using h k VJ
theorem Qx0{n:Nat}{a b u v:Nat->Int}{h:Nat->Int}(hb:1<=U/\U<=O/\O<=200/\1<=T/\T<=2000)(hr:nB c n a b u v)(h0:h 0=0):Tr c T U O n a b u v h↔ob c (fwM c T U O n a b u v) h:=by
 rw [Zw4 hb hr h0];exact ⟨λk=>Jb2 k (c+1) (Am _),λk=>Xd9 (λx y=>Wo3 c _ (c+1) x y) k⟩
theorem Zw7{n:Nat}{a b u v:Nat->Int}{h:Nat->Int}(hb:1<=U/\U<=O/\O<=200/\1<=T/\T<=2000)(hr:nB c n a b u v)(k:Tr c T U O n a b u v h){x:Nat}(hx:x<=c): -(fwM c T U O n a b u v x 0)<=h x/\h x<=fwM c T U O n a b u v 0 x:=by
 have k1:=(Qx0 hb hr k.1).1 k;have h1:=k1 x 0 hx VJ;have h2:=k1 0 x VJ hx;have:=k.1;omega
theorem O4{n:Nat}{a b u v:Nat->Int}(h:okR c T U O n a b u v=true){p x y:Nat}(hp:p<=c)(hx:x<=c)(hy:y<=c):fwM c T U O n a b u v x y<=fwM c T U O n a b u v x p+fwM c T U O n a b u v p y:=by
 refine EX (c+1) (Am _) (λo ho=>?_) p x y VJ hx hy
 have h1:=tL.1 h o VJ;have h2:=TQ c (rdM c T U O a b u v n) o (c+1-o) o o;rw [show o+(c+1-o)=c+1 by omega] at h2
 exact Int.le_trans h1 h2
theorem Zg3{a b u v:Nat->Int}(n:Nat):rdM c T U O a b u v n 0 0<=0:=by
 have h1:=AY c T U O a b u v 0 n (Ao _) 0 0;have h2:rdM c T U O a b u v 0 0 0<=cel c U O c 0 0:=Int.le_trans (wJ _ _ _ _ _ _) (wJ _ _ _ _ _ _);have h3: ∀k,cel c U O k 0 0<=0:=by
  intro k
  induction k with
  |zero=>unfold cel ini;rw [if_neg VJ];exact Int.le_refl _
  |succ k ih=>exact Int.le_trans (Int.le_trans (wJ _ _ _ _ _ _) (wJ _ _ _ _ _ _)) ih
 exact Int.le_trans h1 (Int.le_trans h2 (h3 c))
theorem Xr8{n:Nat}{a b u v:Nat->Int}(h:okR c T U O n a b u v=true):fwM c T U O n a b u v 0 0=0:=by
 have h1:=tL.1 h 0 (Ao _);have h2:fwM c T U O n a b u v 0 0<=0:=Int.le_trans (Wo3 c _ (c+1) 0 0) (Zg3 n);omega
theorem Zw6{n:Nat}{a b u v:Nat->Int}(hb:1<=U/\U<=O/\O<=200/\1<=T/\T<=2000)(hr:nB c n a b u v)(h:okR c T U O n a b u v=true):Tr c T U O n a b u v (λk=>fwM c T U O n a b u v 0 k):=by
 refine (Qx0 hb hr (Xr8 h)).2 λx y hx hy=>?_
 have:=O4 h hx (Ao _) hy;show fwM c T U O n a b u v 0 y-fwM c T U O n a b u v 0 x<=_;omega
theorem Zw5{n:Nat}{a b u v:Nat->Int}(hb:1<=U/\U<=O/\O<=200/\1<=T/\T<=2000)(hr:nB c n a b u v)(h:okR c T U O n a b u v=true):Tr c T U O n a b u v (λk=> -(fwM c T U O n a b u v k 0)):=by
 refine (Qx0 hb hr (by rw [Xr8 h];rfl)).2 λx y hx hy=>?_
 have:=O4 h hy hx (Ao _);show -(fwM c T U O n a b u v y 0)- -(fwM c T U O n a b u v x 0)<=_;omega
end
end Go.Proofs.YtakpdkmhclhlnaaGreatDoor.Bo
namespace Go.Proofs.YtakpdkmhclhlnaaGreatDoor
open Go Go.Sx Go.RowKit Bo
open Go.Sx.VM (need branch leaf)
open Go.Sx.AV (lst ptr agg roI tup top)
def usB(c S W wi:Int):Bool:=bt 0 S W&&decide (W<=c)&&bt 0 wi 1000
section
variable (c T U O:Int)
def vaB(m:Nat)(p q:Nat->Int)(pl ph dl dh:Int):Bool:=decide (Pt.blE m p q pl ph=0)&&BX c T U O&&insB 0 dl dh 100
def rdE(n:Nat)(a b u v:Nat->Int)(m:Nat)(p q:Nat->Int)(pl ph dl dh:Int):Int:=if n>12\/m>8 then 3 else if vaB c T U O m p q pl ph dl dh=true/\(eB c T U O n a b u v=0\/eB c T U O n a b u v=9) then eB c T U O n a b u v else 1
def bdL(n:Nat)(a b u v:Nat->Int)(m:Nat)(p q:Nat->Int)(pl ph:Int)(k:Nat):Int:=dnI (-(fwB c T U O n a b u v k 0)*Pt.boilI m p q pl) T
def bdH(n:Nat)(a b u v:Nat->Int)(m:Nat)(p q:Nat->Int)(pl ph:Int)(k:Nat):Int:=upI (fwB c T U O n a b u v 0 k*Pt.boilI m p q ph) T
end
def wkF(pl ph dl dh:Int)(L H:Nat->Int)(k j:Nat):Int:=if j=0 then pl else if j=1 then ph else if j=2 then dl else if j=3 then dh else if j<4+2*k then (if j%2=0 then L ((j-4) / 2) else H ((j-4) / 2)) else 0
def wkA(c T U O:Int)(n:Nat)(a b u v:Nat->Int)(m:Nat)(p q:Nat->Int)(pl ph dl dh:Int):Nat->Int:=wkF pl ph dl dh (bdL c T U O n a b u v m p q pl ph) (bdH c T U O n a b u v m p q pl ph) (c.toNat+1)
theorem Xb7{c S W wi:Int}:usB c S W wi=true↔(0<=S/\S<=W)/\W<=c/\0<=wi/\wi<=1000:=by
 simp only [usB,H6,kD,bt_iff,and_assoc]
theorem Xp6{c:Nat}{T U O:Int}{n:Nat}{a b u v:Nat->Int}{h:Nat->Int}(hl:0<=U)(k:Tr c T U O n a b u v h){x:Nat}(hx:x<=c):0<=h x/\h x<=T:=by
 obtain ⟨h0,h1,h2,_⟩:=k;have up: ∀y,y<=c->0<=h y:=by
  intro y
  induction y with
  |zero=>intro _;omega
  |succ y ih=>
   intro hy;have:=h2 y VJ;have:=ih VJ;omega
 have dn: ∀d,d<=c->h (c-d)<=T:=by
  intro d
  induction d with
  |zero=>intro _;rw [Nat.sub_zero,h1];exact Int.le_refl _
  |succ d ih=>
   intro hd;have:=h2 (c-(d+1)) VJ;rw [show c-(d+1)+1=c-d by omega] at this
   have:=ih VJ;omega
 refine ⟨up x hx,?_⟩;have:=dn (c-x) VJ;rw [show c-(c-x)=x by omega] at this
 exact this
theorem Xr4{c T U O:Int}{n:Nat}{a b u v:Nat->Int}(h:eB c T U O n a b u v=0){k:Nat}(hk:(k:Int)<=c):0<= -(fwB c T U O n a b u v k 0)/\ -(fwB c T U O n a b u v k 0)<=fwB c T U O n a b u v 0 k/\fwB c T U O n a b u v 0 k<=T:=by
 obtain ⟨h1,_,h3⟩:=gD.1 h;have hf:=kX.1 h1;have hb:=BG hf.1;have hr:=Xd0 hb.1 hf.2.2;have tl:=Zw5 hb.2.1 hr h3;have th:=Zw6 hb.2.1 hr h3;have g1:=Xp6 VJ tl (x:=k) VJ;have g2:=Xp6 VJ th (x:=k) VJ;have g3:=Zw7 hb.2.1 hr tl (x:=k) VJ;unfold fwB;omega
theorem mL{c T U O:Int}{m:Nat}{p q:Nat->Int}{pl ph dl dh:Int}:vaB c T U O m p q pl ph dl dh=true↔Pt.blE m p q pl ph=0/\BX c T U O=true/\0<=dl/\dl<=dh/\dh<=100:=by
 simp only [vaB,H6,kD,insB_iff,and_assoc]
theorem Qx8{m:Nat}{p q:Nat->Int}{pl ph:Int}(h:Pt.blE m p q pl ph=0):(1<=Pt.boilI m p q pl/\Pt.boilI m p q pl<=2000)/\(1<=Pt.boilI m p q ph/\Pt.boilI m p q ph<=2000)/\Pt.boilI m p q pl<=Pt.boilI m p q ph/\Pt.blLo m p q pl ph=Pt.boilI m p q pl/\Pt.blHi m p q pl ph=Pt.boilI m p q ph:=by
 obtain ⟨h1,h2,h3,h4,h5,h6⟩:=Pt.blE_ok h;have a1:=Pt.boil_spec (x:=pl) h1 h3 VJ;have a2:=Pt.boil_spec (x:=ph) h1 h3 VJ;have a3:=Pt.boil_mono h1 h3 h4 h5 h6;exact ⟨VJ,VJ,a3,if_pos h,if_pos h⟩
theorem tE{x y X Y:Int}(hx:0<=x/\x<=X)(hy:0<=y/\y<=Y):0<=x*y/\x*y<=X*Y:=by
 have h1:=Int.mul_nonneg hx.1 hy.1;have h2:=Int.mul_le_mul hx.2 hy.2 hy.1 (show 0<=X by omega)
 omega
theorem Zb9(c T U O:Int)(n:Nat)(a b u v:Nat->Int)(m:Nat)(p q:Nat->Int)(pl ph dl dh S W wi:Int):VX VO 91 [.agg [i c,i T,i U,i O,rds n a b u v,Pt.scs m p q,i pl,i ph,i dl,i dh],.agg [i S,i W,i wi]] (bl (usB c S W wi)):=by
 refine U1 (L:=[]) (Ae RI Aa) VY Tryz.func91 (UT Tryz.f91) U3 (t:=branch (bt (0:Int) S W) (branch (decide (W<=c)) (leaf (RV.x (.bool (bt (0:Int) wi (1000:Int))))) (leaf (RV.x (KX)))) (leaf (RV.x (KX)))) VT ?_;simp only [VM.sat,UB,G4,GJ,UD,UH];all_goals (simp+contextual [usB,Bool.and_assoc]);all_goals omega
def Xs6:UW
 |[.agg [.x (.int .i64 c),.x (.int .i64 T),.x (.int .i64 U),.x (.int .i64 O),.lst 4 n fr,.lst 2 m ft,.x (.int .i64 pl),.x (.int .i64 ph),.x (.int .i64 dl),.x (.int .i64 dh)],.agg [.x (.int .i64 S),.x (.int .i64 W),.x (.int .i64 wi)]]=>some ([UF 4 n fr,UF 2 m ft],bl (usB c S W wi))
 |_=>none
theorem Zb8:VP VO 91 Xs6:=by
 refine ⟨(UG Tryz.func91),?_⟩;intro avs ns res h I;unfold Xs6 at h;split at h
 ·cases h;have hr:UF 4 _ _:=I _ GG;have ht:UF 2 _ _:=I _ (HO _ GG);exact (Zb9 _ _ _ _ _ _ _ _ _ _ _ _ _ _ _ _ _ _ _).same (.cons (LV.same (.cons (.refl _) (.cons (.refl _) (.cons (.refl _) (.cons (.refl _) (.cons (.lst 4 _ _ _ hr) (.cons (.lst 2 _ _ _ ht) (.cons (.refl _) (.cons (.refl _) (.cons (.refl _) (.cons (.refl _) .nil))))))))))) (.cons (.refl _) .nil))
 ·cases h
theorem Qw4(c T U O:Int)(n:Nat)(a b u v:Nat->Int)(m:Nat)(p q:Nat->Int)(pl ph dl dh:Int)(VR:m<=100000):VX VO 74 [.agg [i c,i T,i U,i O,rds n a b u v,Pt.scs m p q,i pl,i ph,i dl,i dh]] (.tup [.agg [i (Pt.blLo m p q pl ph),i (Pt.blHi m p q pl ph)],bl (vaB c T U O m p q pl ph dl dh)]):=by
 refine GA (L:=[]) (Ae Pt.Boils_ok (Ae Bo.CheckTube_ok (Ae PO Aa))) Ad VY Tryz.func74 (UT Tryz.f74) G5 (t:=let z0:=(leaf (RV.tup [RV.agg [RV.x (.int .i64 (Pt.blLo m p q pl ph)),RV.x (.int .i64 (Pt.blHi m p q pl ph))],RV.x (KX)]));(need [UF 2 m λk=>[Pt.i (p k),Pt.i (q k)],m<=100000] (branch (Pt.blE m p q pl ph==0) (branch ((if BX c T U O=true then (0:Int) else (1:Int))==0) (leaf (RV.tup [RV.agg [RV.x (.int .i64 (Pt.blLo m p q pl ph)),RV.x (.int .i64 (Pt.blHi m p q pl ph))],RV.x (.bool (insB (0:Int) dl dh (100:Int)))])) z0) z0))) VT ?_
 simp only [VM.sat,UB,G4,GJ,UD,UH,beq_iff_eq,beq_eq_false_iff_ne];refine ⟨⟨Pt.isRec2 m p q,VR⟩,λh1=>⟨λh2=>?_,λh2=>?_⟩,λh1=>?_⟩
 ·cases ht:BX c T U O
  ·rw [ht] at h2;simp at h2
  ·simp [vaB,h1,ht]
 ·cases ht:BX c T U O
  ·simp [vaB,ht]
  ·rw [ht] at h2;simp at h2
 ·simp [vaB,h1]
def aG:UW
 |[.agg [.x (.int .i64 c),.x (.int .i64 T),.x (.int .i64 U),.x (.int .i64 O),.lst 4 n fr,.lst 2 m ft,.x (.int .i64 pl),.x (.int .i64 ph),.x (.int .i64 dl),.x (.int .i64 dh)]]=>some ([UF 4 n fr,UF 2 m ft,m<=100000],.tup [.agg [i (Pt.blLo m (Pt.col 0 ft) (Pt.col 1 ft) pl ph),i (Pt.blHi m (Pt.col 0 ft) (Pt.col 1 ft) pl ph)],bl (vaB c T U O m (Pt.col 0 ft) (Pt.col 1 ft) pl ph dl dh)])
 |_=>none
theorem bD:VP VO 74 aG:=by
 refine ⟨(UG Tryz.func74),?_⟩;intro avs ns res h I;unfold aG at h;split at h
 ·cases h;have hr:UF 4 _ _:=I _ GG;have ht:UF 2 _ _:=I _ (HO _ GG);exact (Qw4 _ _ _ _ _ _ _ _ _ _ _ _ _ _ _ _ (I _ VV)).same (.cons (LV.same (.cons (.refl _) (.cons (.refl _) (.cons (.refl _) (.cons (.refl _) (.cons (.lst 4 _ _ _ hr) (.cons (.lst 2 _ _ _ ht) (.cons (.refl _) (.cons (.refl _) (.cons (.refl _) (.cons (.refl _) .nil))))))))))) .nil)
 ·cases h
section
variable {pl ph dl dh:Int}{L H:Nat->Int}
theorem Xa5{k j:Nat}:zY (4+2*k) [L k,H k] (wkF pl ph dl dh L H k) j=wkF pl ph dl dh L H (k+1) j:=by
 simp only [zY,UR];unfold wkF;by_cases h1:j=4+2*k+1
 ·rw [if_pos h1,if_neg VJ,if_neg VJ,if_neg VJ,if_neg VJ,if_pos VJ,if_neg VJ,show (j-4) / 2=k by omega]
 ·rw [if_neg h1];by_cases h2:j=4+2*k
  ·rw [if_pos h2,if_neg VJ,if_neg VJ,if_neg VJ,if_neg VJ,if_pos VJ,if_pos VJ,show (j-4) / 2=k by omega]
  ·rw [if_neg h2];by_cases h3:j<4+2*k
   ·rw [if_pos h3,if_pos (show j<4+2*(k+1) by omega)]
   ·rw [if_neg h3,if_neg (show ¬j<4+2*(k+1) by omega)]
theorem Xa4{j:Nat}(hj:j<26):U8 ([pl,ph,dl,dh]++aY 22) j=wkF pl ph dl dh L H 0 j:=by
 rcases (show j=0\/j=1\/j=2\/j=3\/j=4\/j=5\/j=6\/j=7\/j=8\/j=9\/j=10\/j=11\/j=12\/j=13\/j=14\/j=15\/j=16\/j=17\/j=18\/j=19\/j=20\/j=21\/j=22\/j=23\/j=24\/j=25 by omega) with rfl|rfl|rfl|rfl|rfl|rfl|rfl|rfl|rfl|rfl|rfl|rfl|rfl|rfl|rfl|rfl|rfl|rfl|rfl|rfl|rfl|rfl|rfl|rfl|rfl|rfl<;>rfl
end
abbrev QR(n:Nat)(a:Nat->Int)(b:Nat->Int)(u:Nat->Int)(v:Nat->Int):AV:=lst 4 n λk=>[iI (a k),iI (b k),iI (u k),iI (v k)]
abbrev QX(c:Int)(T:Int)(U:Int)(O:Int)(n:Nat)(a:Nat->Int)(b:Nat->Int)(u:Nat->Int)(v:Nat->Int):AV:=lst 2 (rK c T U O n a b u v) λk=>[iI (-fwB c T U O n a b u v k 0),iI (fwB c T U O n a b u v 0 k)]
abbrev QY(m:Nat)(p:Nat->Int)(q:Nat->Int):AV:=lst 2 m λk=>[iI (p k),iI (q k)]
abbrev Z2:AV:=AV.x (.pointer none)
section
variable (c T U O:Int)(n:Nat)(a b u v:Nat->Int)(m:Nat)(p q:Nat->Int)(pl ph dl dh:Int)
def Zp5:St:={σ:=[agg [iI c,iI T,iI U,iI O,QR n a b u v,QY m p q,iI pl,iI ph,iI dl,iI dh],ptr 0 0,Z2,iI 0,ptr 18 0,AV.x (.bool (vaB c T U O m p q pl ph dl dh)),QX c T U O n a b u v,iI (eB c T U O n a b u v),ptr 45 0]++HH 43 [QX c T U O n a b u v,iI (↑(rK c T U O n a b u v):Int)]++HH 31 [],m:=[(45,GN.ints 174 [iI c,iI T,iI U,iI O,QR n a b u v,QY m p q] 26 λa=>U8 ([pl,ph,dl,dh]++aY 22) a),(18,GN.cells 38 [iI (Pt.blLo m p q pl ph),iI (Pt.blHi m p q pl ph)]),(0,GN.cells 53 [iI c,iI T,iI U,iI O,QR n a b u v,QY m p q,iI pl,iI ph,iI dl,iI dh])],nx:=50}
noncomputable def Jo7:Code:=U9 (VS (U7 Tryz.f51) 0)
def Wf7(k:Nat):St:=(upE [(54,i k)] [(45,.ints 174 [i c,i T,i U,i O,rds n a b u v,Pt.scs m p q] 26 (wkF pl ph dl dh (bdL c T U O n a b u v m p q pl ph) (bdH c T U O n a b u v m p q pl ph) k)),(18,.cells 38 [i (Pt.boilI m p q pl),i (Pt.boilI m p q ph)]),(0,.cells 53 [i c,i T,i U,i O,rds n a b u v,Pt.scs m p q,i pl,i ph,i dl,i dh])] (Zp5 c T U O n a b u v m p q pl ph dl dh))
def SR(k:Nat):G7->Option St
 | .exit 1=>some (upE [(54,i ((c.toNat+1:Nat):Int))] [(45,.ints 174 [i c,i T,i U,i O,rds n a b u v,Pt.scs m p q] 26 (wkF pl ph dl dh (bdL c T U O n a b u v m p q pl ph) (bdH c T U O n a b u v m p q pl ph) (c.toNat+1))),(18,.cells 38 [i (Pt.boilI m p q pl),i (Pt.boilI m p q ph)]),(0,.cells 53 [i c,i T,i U,i O,rds n a b u v,Pt.scs m p q,i pl,i ph,i dl,i dh])] (Zp5 c T U O n a b u v m p q pl ph dl dh))
 |_=>none
def Jj9:CT:= .leaf (.exit 1,(SR c T U O n a b u v m p q pl ph dl dh 0 (.exit 1)).getD (Zp5 c T U O n a b u v m p q pl ph dl dh))
def Xu4:UI:=GK [] (HG (Wf7 c T U O n a b u v m p q pl ph dl dh (0)) (Jj9 c T U O n a b u v m p q pl ph dl dh))
end
abbrev X3(c:Int)(T:Int)(U:Int)(O:Int)(n:Nat)(a:Nat->Int)(b:Nat->Int)(u:Nat->Int)(v:Nat->Int)(m:Nat)(p:Nat->Int)(q:Nat->Int)(pl:Int)(ph:Int)(dl:Int)(dh:Int):Prop:=agg [iI c,iI T,iI U,iI O,QR n a b u v,QY m p q,iI pl,iI ph,iI dl,iI dh]=agg [iI c,iI T,iI U,iI O,QR n a b u v,QY m p q,iI pl,iI ph,iI dl,iI dh]
abbrev K6:Prop:=(0:Int)=0
abbrev Y0:List (Nat×UW):=[(74,aG),(75,Bo.S_Heights),(76,s7),(77,Zn6)]
abbrev Y3:Prop:=ptr 18 0=ptr 18 0
abbrev YO(n:Nat)(a:Nat->Int)(b:Nat->Int)(u:Nat->Int)(v:Nat->Int):Prop:=(QR n a b u v)=QR n a b u v
abbrev YS(m:Nat)(p:Nat->Int)(q:Nat->Int):Prop:=(QY m p q)=QY m p q
abbrev YV(c:Int)(T:Int)(U:Int)(O:Int)(n:Nat)(a:Nat->Int)(b:Nat->Int)(u:Nat->Int)(v:Nat->Int):Prop:=(QX c T U O n a b u v)=QX c T U O n a b u v
section
variable (c T U O:Int)(n:Nat)(a b u v:Nat->Int)(m:Nat)(p q:Nat->Int)(pl ph dl dh:Int)
theorem Zz3(VR:n<=12)(UE:m<=8)(HQ:vaB c T U O m p q pl ph dl dh=true)(F1:eB c T U O n a b u v=0):G8 VO (.loop Jo7) (Xu4 c T U O n a b u v m p q pl ph dl dh):=by
 refine UV [] (L:=[]) (Ae bD (Ae Bo.Heights_ok (Ae TZ (Ae Qw9 Aa)))) Ad VY U3 (X:=Nat) (Wf7 c T U O n a b u v m p q pl ph dl dh) (λk=>k<=c.toNat+1) (λk=>c.toNat+1-k) (SR c T U O n a b u v m p q pl ph dl dh) (x0:=0) VV ?_ ?_ ?_
 ·rintro k;kernel_rfl
 ·rintro k y E h;unfold SR at h;split at h
  ·cases h;kernel_rfl
  ·cases h
 ·rintro Q hQ k hx;refine ⟨(k+1),?_⟩;(with_reducible refine DH (t:=let z0:=(bdL c T U O n a b u v m p q pl ph);let z1:=(bdH c T U O n a b u v m p q pl ph);let z5:=fwB c T U O n a b u v;let z2:=z5 k;let z3:=Pt.boilI m p q pl;let z4:=Pt.boilI m p q ph;let z6:=(rK c T U O n a b u v);let z7:=YV c T U O n a b u v;(branch (decide ((k:Int)<(z6:Int))) (need [UJ k z6] (need [VL (-z2 0*z3)] (need [(1:Int)<=T/\T<=100000,(0:Int)<= -z2 0*z3/\ -z2 0*z3<=1000000000000] (need [VL (z5 0 k*z4)] (need [(1:Int)<=T/\T<=100000,(0:Int)<=z5 0 k*z4/\z5 0 k*z4<=1000000000000] (need [UJ k 11] (need [k*2+10-1-1-1-1-1-1+List.length [dnI (-z2 0*z3) T,upI (z5 0 k*z4) T]<=26] (need [VL ((k:Int)+1)] (need [X3 c T U O n a b u v m p q pl ph dl dh,KJ,Z2=Z2,K6,Y3,VZ (vaB c T U O m p q pl ph dl dh),z7,VZ (eB c T U O n a b u v),VZ (ptr 45 0),z7,VZ (z6:Int),(k:Int)+1=(↑(k+1):Int),c=c,T=T,U=U,O=O,YO n a b u v,YS m p q,26=26,GU 26 (UR (k*2+10-1-1-1-1-1-1+1) (upI (z5 0 k*z4) T) (UR (k*2+10-1-1-1-1-1-1) (dnI (-z2 0*z3) T) (wkF pl ph dl dh z0 z1 k))) (wkF pl ph dl dh z0 z1 (k+1)),VZ (z3),VZ (z4),c=c,T=T,U=U,O=O,YO n a b u v,YS m p q,pl=pl,ph=ph,dl=dl,dh=dh] (leaf G7.normal)))))))))) (need [X3 c T U O n a b u v m p q pl ph dl dh,KJ,Z2=Z2,K6,Y3,VZ (vaB c T U O m p q pl ph dl dh),z7,VZ (eB c T U O n a b u v),VZ (ptr 45 0),z7,VZ (z6:Int),(k:Int)=(↑(Int.toNat c+1):Int),c=c,T=T,U=U,O=O,YO n a b u v,YS m p q,26=26,GU 26 (wkF pl ph dl dh z0 z1 k) (wkF pl ph dl dh z0 z1 (Int.toNat c+1)),VZ (z3),VZ (z4),c=c,T=T,U=U,O=O,YO n a b u v,YS m p q,pl=pl,ph=ph,dl=dl,dh=dh] (leaf (G7.exit 1))))) VT ?_);simp only [Jj9,SR,VM.sat,GT] at hQ;have hv:=mL.1 HQ;have hb:=BG hv.2.1;have hs:=Qx8 hv.1;have hl:rK c T U O n a b u v=c.toNat+1:=if_pos F1;simp only [VM.sat,UB,G4,GJ,UD,VL,UH,HA,DZ,RW,hl]
  refine ⟨λh=>?_,λh=>?_⟩
  ·have hk:=Xr4 F1 (k:=k) VJ;have m1:=tE (x:= -(fwB c T U O n a b u v k 0)) (y:=Pt.boilI m p q pl) (X:=2000) (Y:=2000) VJ VJ;have m2:=tE (x:=fwB c T U O n a b u v 0 k) (y:=Pt.boilI m p q ph) (X:=2000) (Y:=2000) VJ VJ;have e6:k*2+10-1-1-1-1-1-1=4+2*k:=VJ;rw [e6]
   (with_reducible repeat' first|apply Al|intro _)
   all_goals first|exact Ak|omega|with_reducible rfl|exact Xa5
  ·obtain rfl:k=c.toNat+1:=VJ
   (with_reducible repeat' first|apply Al|intro _)
   all_goals first|exact Ak|omega|with_reducible rfl|(rename_i E hE;cases hE;exact hQ)
theorem SM:UN VO 51 [.agg [i c,i T,i U,i O,rds n a b u v,Pt.scs m p q,i pl,i ph,i dl,i dh]] (.branch (decide (rdE c T U O n a b u v m p q pl ph dl dh=0)) (.leaf (.tup [.roI [i c,i T,i U,i O,rds n a b u v,Pt.scs m p q] 26 (wkA c T U O n a b u v m p q pl ph dl dh) 0,i 0])) (.leaf (.tup [.x (.pointer none),i (rdE c T U O n a b u v m p q pl ph dl dh)]))):=by
 refine GS (L:=[FO [n<=12,m<=8,vaB c T U O m p q pl ph dl dh=true,eB c T U O n a b u v=0] (Xu4 c T U O n a b u v m p q pl ph dl dh)]) (Ae bD (Ae Bo.Heights_ok (Ae TZ (Ae Qw9 Aa)))) Ad VY Tryz.func51 (UT Tryz.f51) (G0 (lpE (b:= .loop Jo7) VT<|(D2 (ps:=[n<=12,m<=8,vaB c T U O m p q pl ph dl dh=true,eB c T U O n a b u v=0]) (λh=>Zz3 c T U O n a b u v m p q pl ph dl dh h.1 h.2.1 h.2.2.1 h.2.2.2)).N)) (t:=let z0:=(leaf (tup [roI [iI c,iI T,iI U,iI O,QR n a b u v,QY m p q] 26 (λj=>wkF pl ph dl dh (bdL c T U O n a b u v m p q pl ph) (bdH c T U O n a b u v m p q pl ph) (Int.toNat c+1) j) 0,iI 0]));let z1:=eB c T U O n a b u v;let z2:=vaB c T U O m p q pl ph dl dh;let z3:=YV c T U O n a b u v;(branch (decide ((n:Int)>12)) (leaf (tup [Z2,iI 3])) (branch (decide ((m:Int)>8)) (leaf (tup [Z2,iI 3])) (need [UF 4 n λk=>[Bo.i (a k),Bo.i (b k),Bo.i (u k),Bo.i (v k)],UF 2 m λk=>[Pt.i (p k),Pt.i (q k)],m<=100000] (need [UF 4 n λk=>[Bo.i (a k),Bo.i (b k),Bo.i (u k),Bo.i (v k)]] (branch (!z2) (leaf (tup [Z2,iI 1])) (branch (z1 != 0) (branch (z1 != 9) (leaf (tup [Z2,iI 1])) (branch (z1 != 0) (leaf (tup [Z2,iI (z1)])) (need [n<=12,m<=8,z2=true,z1=0] (need [X3 c T U O n a b u v m p q pl ph dl dh,KJ,Z2=Z2,K6,Y3,VZ (z2),z3,VZ (z1),ptr 47 0=ptr 45 0,z3,VZ (↑(rK c T U O n a b u v):Int),(0:Int)=(↑(0:Nat):Int),False,Pt.blLo m p q pl ph=Pt.boilI m p q pl,Pt.blHi m p q pl ph=Pt.boilI m p q ph,c=c,T=T,U=U,O=O,YO n a b u v,YS m p q,pl=pl,ph=ph,dl=dl,dh=dh] z0)))) (branch (z1 != 0) (leaf (tup [Z2,iI (z1)])) (need [n<=12,m<=8,z2=true,z1=0] (need [X3 c T U O n a b u v m p q pl ph dl dh,KJ,Z2=Z2,K6,Y3,VZ (z2),z3,VZ (z1),VZ (ptr 45 0),z3,VZ (↑(rK c T U O n a b u v):Int),(0:Int)=(↑(0:Nat):Int),c=c,T=T,U=U,O=O,YO n a b u v,YS m p q,List.length ([pl,ph,dl,dh]++aY 22)=26,GU 26 (U8 ([pl,ph,dl,dh]++aY 22)) (wkF pl ph dl dh (bdL c T U O n a b u v m p q pl ph) (bdH c T U O n a b u v m p q pl ph) 0),Pt.blLo m p q pl ph=Pt.boilI m p q pl,Pt.blHi m p q pl ph=Pt.boilI m p q ph,c=c,T=T,U=U,O=O,YO n a b u v,YS m p q,pl=pl,ph=ph,dl=dl,dh=dh] z0)))))))))) VT ?_
 intro Q hQ;have e3:(n>12\/m>8)->rdE c T U O n a b u v m p q pl ph dl dh=3:=λh=>if_pos h
 have e1: ¬(n>12\/m>8)-> ¬(vaB c T U O m p q pl ph dl dh=true/\(eB c T U O n a b u v=0\/eB c T U O n a b u v=9))->rdE c T U O n a b u v m p q pl ph dl dh=1:=λh h'=>by
  unfold rdE;rw [if_neg h,if_neg h']
 have e0: ¬(n>12\/m>8)->vaB c T U O m p q pl ph dl dh=true->(eB c T U O n a b u v=0\/eB c T U O n a b u v=9)->rdE c T U O n a b u v m p q pl ph dl dh=eB c T U O n a b u v:=λh h' h''=>by
  unfold rdE;rw [if_neg h,if_pos ⟨h',h''⟩]
 simp only [VM.sat,UB,UH,HA,RA,Ax,Bool.not_eq_false'] at hQ ⊢;have bad: ∀k:Int,k≠0->rdE c T U O n a b u v m p q pl ph dl dh=k-> ∃r',FE (.tup [.x (.pointer none),i k]) r'/\Q r':=λk hk he=>by
  rw [he] at hQ;exact ⟨.tup [.x (.pointer none),i k],⟨rfl,⟨rfl,rfl⟩,Ak⟩,hQ.2 hk⟩
 refine ⟨λh1=>bad 3 VJ (e3 VJ),λh1=>⟨λh2=>bad 3 VJ (e3 VJ),λh2=>⟨⟨Bo.isRec4 n a b u v,Pt.isRec2 m p q,VJ⟩,Bo.isRec4 n a b u v,λh3=>bad 1 VJ (e1 VJ (by rw [h3];simp)),λh3=>⟨λh4=>⟨λh5=>bad 1 VJ (e1 VJ VJ),λh5=>⟨λh6=>bad _ h4 (e0 VJ h3 (.inr h5)),λh6=>absurd h6 h4⟩⟩,λh4=>⟨λh5=>absurd h4 h5,λ_=>?_⟩⟩⟩⟩⟩
 have hv:=mL.1 h3;have hs:=Qx8 hv.1;refine ⟨⟨VJ,VJ,h3,h4⟩,⟨rfl,rfl,λj hj=>Xa4 hj,hs.2.2.2.1,hs.2.2.2.2⟩,.tup [.roI [i c,i T,i U,i O,rds n a b u v,Pt.scs m p q] 26 (wkA c T U O n a b u v m p q pl ph dl dh) 0,i 0],⟨⟨rfl,rfl,λ_ _=>rfl,rfl⟩,⟨rfl,rfl⟩,Ak⟩,hQ.1 ((e0 VJ h3 (.inl h4)).trans h4)⟩
end
def fC:DA:=λl=>match l with
 |[.agg [.x (.int .i64 c),.x (.int .i64 T),.x (.int .i64 U),.x (.int .i64 O),.lst 4 n fr,.lst 2 m ft,.x (.int .i64 pl),.x (.int .i64 ph),.x (.int .i64 dl),.x (.int .i64 dh)]]=>some (.need [UF 4 n fr,UF 2 m ft] (.branch (decide (rdE c T U O n (col 0 fr) (col 1 fr) (col 2 fr) (col 3 fr) m (Pt.col 0 ft) (Pt.col 1 ft) pl ph dl dh=0)) (.leaf (.tup [.roI [i c,i T,i U,i O,rds n (col 0 fr) (col 1 fr) (col 2 fr) (col 3 fr),Pt.scs m (Pt.col 0 ft) (Pt.col 1 ft)] 26 (wkA c T U O n (col 0 fr) (col 1 fr) (col 2 fr) (col 3 fr) m (Pt.col 0 ft) (Pt.col 1 ft) pl ph dl dh) 0,i 0])) (.leaf (.tup [.x (.pointer none),i (rdE c T U O n (col 0 fr) (col 1 fr) (col 2 fr) (col 3 fr) m (Pt.col 0 ft) (Pt.col 1 ft) pl ph dl dh)]))))
 |_=>none
theorem wV:Sx.Enters Tryz.prog 51/\ ∀avs t,fC avs=some t->UN VO 51 avs t:=by
 refine ⟨(UG Tryz.func51),?_⟩;intro avs t h;unfold fC at h;split at h
 ·cases h;intro Q hQ;have hr:UF 4 _ _:=GC hQ.1 _ GG;have ht:UF 2 _ _:=GC hQ.1 _ (HO _ GG);exact UN.same (SM _ _ _ _ _ _ _ _ _ _ _ _ _ _ _ _) (.cons (LV.same (.cons (.refl _) (.cons (.refl _) (.cons (.refl _) (.cons (.refl _) (.cons (.lst 4 _ _ _ hr) (.cons (.lst 2 _ _ _ ht) (.cons (.refl _) (.cons (.refl _) (.cons (.refl _) (.cons (.refl _) .nil))))))))))) .nil) Q hQ.2
 ·cases h
section
variable (c T U O:Int)(n:Nat)(a b u v:Nat->Int)(m:Nat)(p q:Nat->Int)(pl ph dl dh:Int)
def asE(S W wi Z:Int):Int:=if rdE c T U O n a b u v m p q pl ph dl dh=0 then (if usB c S W wi&&bt 0 Z 10000 then 0 else 2) else rdE c T U O n a b u v m p q pl ph dl dh
def hdE(Z:Int):Int:=if rdE c T U O n a b u v m p q pl ph dl dh=0 then (if bt 0 Z 10000 then 0 else 2) else rdE c T U O n a b u v m p q pl ph dl dh
end
theorem Ja0{c T U O:Int}{n:Nat}{a b u v:Nat->Int}{m:Nat}{p q:Nat->Int}{pl ph dl dh:Int}(h:rdE c T U O n a b u v m p q pl ph dl dh=0):n<=12/\m<=8/\vaB c T U O m p q pl ph dl dh=true/\eB c T U O n a b u v=0:=by
 unfold rdE at h;split at h
 ·cases h
 ·rename_i h1;split at h
  ·rename_i h2;exact ⟨VJ,VJ,h2.1,h⟩
  ·cases h
section
variable {pl ph dl dh:Int}{L H:Nat->Int}{k j:Nat}
theorem wk_L(h:j<k):wkF pl ph dl dh L H k (4+2*j)=L j:=by
 unfold wkF;rw [if_neg VJ,if_neg VJ,if_neg VJ,if_neg VJ,if_pos VJ,if_pos VJ,show (4+2*j-4) / 2=j by omega]
theorem wk_H(h:j<k):wkF pl ph dl dh L H k (5+2*j)=H j:=by
 unfold wkF;rw [if_neg VJ,if_neg VJ,if_neg VJ,if_neg VJ,if_pos VJ,if_neg VJ,show (5+2*j-4) / 2=j by omega]
end
theorem bB{c T U O:Int}{n:Nat}{a b u v:Nat->Int}{m:Nat}{p q:Nat->Int}{pl ph dl dh:Int}(h:rdE c T U O n a b u v m p q pl ph dl dh=0):drB (wkA c T U O n a b u v m p q pl ph dl dh)/\bdB (wkA c T U O n a b u v m p q pl ph dl dh)/\(1<=c/\c<=10)/\ ∀k:Nat,(k:Int)<=c->0<=bdL c T U O n a b u v m p q pl ph k/\bdL c T U O n a b u v m p q pl ph k<=4000000/\0<=bdH c T U O n a b u v m p q pl ph k/\bdH c T U O n a b u v m p q pl ph k<=4000000:=by
 obtain ⟨h1,h2,h3,h4⟩:=Ja0 h;have hv:=mL.1 h3;have hb:=BG hv.2.1;have hs:=Qx8 hv.1;have key: ∀k:Nat,(k:Int)<=c->0<=bdL c T U O n a b u v m p q pl ph k/\bdL c T U O n a b u v m p q pl ph k<=4000000/\0<=bdH c T U O n a b u v m p q pl ph k/\bdH c T U O n a b u v m p q pl ph k<=4000000:=by
  intro k hk;have hk:=Xr4 h4 hk;have m1:=tE (x:= -(fwB c T U O n a b u v k 0)) (y:=Pt.boilI m p q pl) (X:=2000) (Y:=2000) VJ VJ;have m2:=tE (x:=fwB c T U O n a b u v 0 k) (y:=Pt.boilI m p q ph) (X:=2000) (Y:=2000) VJ VJ;have d1:=gG m1.1 (show 1<=T by omega)
  have d2:=S9 m2.1 (show 1<=T by omega)
  unfold bdL bdH;omega
 refine ⟨⟨?_,?_⟩,λj hj=>?_,hb.1,key⟩
 ·show 0<=dl/\dl<=100;omega
 ·show 0<=dh/\dh<=100;omega
 ·by_cases hk:j / 2<c.toNat+1
  ·have:=key (j / 2) VJ;rcases Nat.mod_two_eq_zero_or_one j with h0|h0
   ·have e:wkA c T U O n a b u v m p q pl ph dl dh (4+j)=bdL c T U O n a b u v m p q pl ph (j / 2):=by
     have:=wk_L (pl:=pl) (ph:=ph) (dl:=dl) (dh:=dh) (L:=bdL c T U O n a b u v m p q pl ph) (H:=bdH c T U O n a b u v m p q pl ph) hk;rw [show 4+2*(j / 2)=4+j by omega] at this
     exact this
    rw [e];omega
   ·have e:wkA c T U O n a b u v m p q pl ph dl dh (4+j)=bdH c T U O n a b u v m p q pl ph (j / 2):=by
     have:=wk_H (pl:=pl) (ph:=ph) (dl:=dl) (dh:=dh) (L:=bdL c T U O n a b u v m p q pl ph) (H:=bdH c T U O n a b u v m p q pl ph) hk;rw [show 5+2*(j / 2)=4+j by omega] at this
     exact this
    rw [e];omega
  ·have e:wkA c T U O n a b u v m p q pl ph dl dh (4+j)=0:=by
    unfold wkA wkF;rw [if_neg VJ,if_neg VJ,if_neg VJ,if_neg VJ,if_neg VJ]
   rw [e];omega
abbrev KQ:Value:=Value.int IntKind.i64 (0:Int)
theorem vW(c T U O:Int)(n:Nat)(a b u v:Nat->Int)(m:Nat)(p q:Nat->Int)(pl ph dl dh:Int):VX VO 17 [.agg [i c,i T,i U,i O,rds n a b u v,Pt.scs m p q,i pl,i ph,i dl,i dh]] (i (rdE c T U O n a b u v m p q pl ph dl dh)):=by
 refine GA (L:=[]) Aa (Aj Ab Ac (Ah wV (UA.nil _))) VY Tryz.func17 (UT Tryz.f17) G5 (t:=need [UF 4 n λk=>[Bo.i (a k),Bo.i (b k),Bo.i (u k),Bo.i (v k)],UF 2 m λk=>[Pt.i (p k),Pt.i (q k)]] (branch (decide (rdE c T U O n a b u v m p q pl ph dl dh=0)) (leaf (RV.x (KQ))) (leaf (RV.x (.int .i64 (rdE c T U O n a b u v m p q pl ph dl dh)))))) VT ?_
 simp only [VM.sat,UB,G4,GJ,UD,UH,HA,RA,beq_iff_eq,beq_eq_false_iff_ne,Ax,Bool.not_eq_false',not_true_eq_false,false_imp_iff,true_imp_iff];exact ⟨⟨Bo.isRec4 n a b u v,Pt.isRec2 m p q⟩,λh=>h.symm,λ_=>trivial⟩
def DU:UW
 |[.agg [.x (.int .i64 c),.x (.int .i64 T),.x (.int .i64 U),.x (.int .i64 O),.lst 4 n fr,.lst 2 m ft,.x (.int .i64 pl),.x (.int .i64 ph),.x (.int .i64 dl),.x (.int .i64 dh)]]=>some ([UF 4 n fr,UF 2 m ft],i (rdE c T U O n (col 0 fr) (col 1 fr) (col 2 fr) (col 3 fr) m (Pt.col 0 ft) (Pt.col 1 ft) pl ph dl dh))
 |_=>none
theorem qL:VP VO 17 DU:=by
 refine ⟨(UG Tryz.func17),?_⟩;intro avs ns res h I;unfold DU at h;split at h
 ·cases h;have hr:UF 4 _ _:=I _ GG;have ht:UF 2 _ _:=I _ (HO _ GG);exact (vW _ _ _ _ _ _ _ _ _ _ _ _ _ _ _ _).same (.cons (LV.same (.cons (.refl _) (.cons (.refl _) (.cons (.refl _) (.cons (.refl _) (.cons (.lst 4 _ _ _ hr) (.cons (.lst 2 _ _ _ ht) (.cons (.refl _) (.cons (.refl _) (.cons (.refl _) (.cons (.refl _) .nil))))))))))) .nil)
 ·cases h
abbrev ZB(c:Int)(T:Int)(U:Int)(O:Int)(n:Nat)(a:Nat->Int)(b:Nat->Int)(u:Nat->Int)(v:Nat->Int)(m:Nat)(p:Nat->Int)(q:Nat->Int)(pl:Int)(ph:Int)(dl:Int)(dh:Int):AV:=roI [iI c,iI T,iI U,iI O,QR n a b u v,QY m p q] 26 (λa_1=>wkA c T U O n a b u v m p q pl ph dl dh a_1) 0
theorem Wt0(c T U O:Int)(n:Nat)(a b u v:Nat->Int)(m:Nat)(p q:Nat->Int)(pl ph dl dh:Int)(S W wi Z:Int):UN VO 58 [.agg [i c,i T,i U,i O,rds n a b u v,Pt.scs m p q,i pl,i ph,i dl,i dh],.agg [i S,i W,i wi],i Z] (.branch (decide (asE c T U O n a b u v m p q pl ph dl dh S W wi Z=0)) (.leaf (.tup [.roI [i c,i T,i U,i O,rds n a b u v,Pt.scs m p q] 26 (wkA c T U O n a b u v m p q pl ph dl dh) 0,i 0])) (.leaf (.tup [.top,i (asE c T U O n a b u v m p q pl ph dl dh S W wi Z)]))):=by
 refine GS (L:=[]) (Ae Zb8 (Ae RI Aa)) (Aj Ab Ac (Ah wV (UA.nil _))) VY Tryz.func58 (UT Tryz.f58) G5 (t:=let z0:=rdE c T U O n a b u v m p q pl ph dl dh;let z1:=ZB c T U O n a b u v m p q pl ph dl dh;(need [UF 4 n λk=>[Bo.i (a k),Bo.i (b k),Bo.i (u k),Bo.i (v k)],UF 2 m λk=>[Pt.i (p k),Pt.i (q k)]] (branch (decide (z0=0)) (branch ((0:Int)==0) (need [UF 4 n λk=>[Bo.i (a k),Bo.i (b k),Bo.i (u k),Bo.i (v k)],UF 2 m λk=>[Pt.i (p k),Pt.i (q k)]] (branch (!usB c S W wi) (leaf (tup [z1,iI 2])) (branch (!bt (0:Int) Z (10000:Int)) (leaf (tup [z1,iI 2])) (leaf (tup [z1,iI 0]))))) (leaf (tup [z1,iI 0]))) (branch (z0==0) (need [UF 4 n λk=>[Bo.i (a k),Bo.i (b k),Bo.i (u k),Bo.i (v k)],UF 2 m λk=>[Pt.i (p k),Pt.i (q k)]] (branch (!usB c S W wi) (leaf (tup [Z2,iI 2])) (branch (!bt (0:Int) Z (10000:Int)) (leaf (tup [Z2,iI 2])) (leaf (tup [Z2,iI (z0)]))))) (leaf (tup [Z2,iI (z0)])))))) VT ?_
 intro Q hQ;simp only [VM.sat,UB,G4,GJ,UD,UH,HA,RA,beq_iff_eq,beq_eq_false_iff_ne,Ax,Bool.not_eq_false',not_true_eq_false,false_imp_iff,true_imp_iff] at hQ ⊢;have hr:rdE c T U O n a b u v m p q pl ph dl dh≠0->asE c T U O n a b u v m p q pl ph dl dh S W wi Z=rdE c T U O n a b u v m p q pl ph dl dh:=λh=>if_neg h
 have h2:rdE c T U O n a b u v m p q pl ph dl dh=0->(usB c S W wi=false\/bt 0 Z 10000=false)->asE c T U O n a b u v m p q pl ph dl dh S W wi Z=2:=λh h'=>by
  unfold asE;rw [if_pos h,if_neg (by rcases h' with h'|h'<;>simp [h'])]
 have h0:rdE c T U O n a b u v m p q pl ph dl dh=0->usB c S W wi=true->bt 0 Z 10000=true->asE c T U O n a b u v m p q pl ph dl dh S W wi Z=0:=λh h' h''=>by
  unfold asE;rw [if_pos h,h',h''];rfl
 have bad: ∀(x:AV) (k:Int),asE c T U O n a b u v m p q pl ph dl dh S W wi Z=k->k≠0-> ∃r',FE (.tup [x,i k]) r'/\Q r':=λx k he hk=>by
  rw [he] at hQ;exact ⟨.tup [.top,i k],⟨by cases x<;>trivial,⟨rfl,rfl⟩,Ak⟩,hQ.2 hk⟩
 refine ⟨⟨Bo.isRec4 n a b u v,Pt.isRec2 m p q⟩,λh=>⟨⟨Bo.isRec4 n a b u v,Pt.isRec2 m p q⟩,λg=>bad _ 2 (h2 h (.inl g)) VJ,λg=>⟨λg'=>bad _ 2 (h2 h (.inr g')) VJ,λg'=>?_⟩⟩,λh=>⟨λh'=>absurd h' h,λ_=>?_⟩⟩
 ·exact ⟨.tup [.roI [i c,i T,i U,i O,rds n a b u v,Pt.scs m p q] 26 (wkA c T U O n a b u v m p q pl ph dl dh) 0,i 0],⟨⟨rfl,rfl,λ_ _=>rfl,rfl⟩,⟨rfl,rfl⟩,Ak⟩,hQ.1 (h0 h g g')⟩
 ·exact bad _ _ (hr h) h
def Qh6:DA:=λl=>match l with
 |[.agg [.x (.int .i64 c),.x (.int .i64 T),.x (.int .i64 U),.x (.int .i64 O),.lst 4 n fr,.lst 2 m ft,.x (.int .i64 pl),.x (.int .i64 ph),.x (.int .i64 dl),.x (.int .i64 dh)],.agg [.x (.int .i64 S),.x (.int .i64 W),.x (.int .i64 wi)],.x (.int .i64 Z)]=>some (.need [UF 4 n fr,UF 2 m ft] (.branch (decide (asE c T U O n (col 0 fr) (col 1 fr) (col 2 fr) (col 3 fr) m (Pt.col 0 ft) (Pt.col 1 ft) pl ph dl dh S W wi Z=0)) (.leaf (.tup [.roI [i c,i T,i U,i O,rds n (col 0 fr) (col 1 fr) (col 2 fr) (col 3 fr),Pt.scs m (Pt.col 0 ft) (Pt.col 1 ft)] 26 (wkA c T U O n (col 0 fr) (col 1 fr) (col 2 fr) (col 3 fr) m (Pt.col 0 ft) (Pt.col 1 ft) pl ph dl dh) 0,i 0])) (.leaf (.tup [.top,i (asE c T U O n (col 0 fr) (col 1 fr) (col 2 fr) (col 3 fr) m (Pt.col 0 ft) (Pt.col 1 ft) pl ph dl dh S W wi Z)]))))
 |_=>none
theorem Qr0:Sx.Enters Tryz.prog 58/\ ∀avs t,Qh6 avs=some t->UN VO 58 avs t:=by
 refine ⟨(UG Tryz.func58),?_⟩;intro avs t h;unfold Qh6 at h;split at h
 ·cases h;intro Q hQ;have hr:UF 4 _ _:=GC hQ.1 _ GG;have ht:UF 2 _ _:=GC hQ.1 _ (HO _ GG);exact UN.same (Wt0 _ _ _ _ _ _ _ _ _ _ _ _ _ _ _ _ _ _ _ _) (.cons (LV.same (.cons (.refl _) (.cons (.refl _) (.cons (.refl _) (.cons (.refl _) (.cons (.lst 4 _ _ _ hr) (.cons (.lst 2 _ _ _ ht) (.cons (.refl _) (.cons (.refl _) (.cons (.refl _) (.cons (.refl _) .nil))))))))))) (.cons (.refl _) (.cons (.refl _) .nil))) Q hQ.2
 ·cases h
def kpB(c T U O:Int)(n:Nat)(a b u v:Nat->Int)(m:Nat)(p q:Nat->Int)(pl ph dl dh:Int)(S W wi Z:Int):Bool:=decide (asE c T U O n a b u v m p q pl ph dl dh S W wi Z=0)&&keB c (wkA c T U O n a b u v m p q pl ph dl dh) S W wi Z
theorem Ji7{c T U O:Int}{n:Nat}{a b u v:Nat->Int}{m:Nat}{p q:Nat->Int}{pl ph dl dh S W wi Z:Int}(h:asE c T U O n a b u v m p q pl ph dl dh S W wi Z=0):rdE c T U O n a b u v m p q pl ph dl dh=0/\usB c S W wi=true/\0<=Z/\Z<=10000:=by
 unfold asE at h;split at h
 ·rename_i h1;split at h
  ·rename_i h2;rw [H6] at h2;exact ⟨h1,h2.1,(bt_iff _ _ _).1 h2.2⟩
  ·cases h
 ·rename_i h1;exact absurd h h1
theorem Xm3(c T U O:Int)(n:Nat)(a b u v:Nat->Int)(m:Nat)(p q:Nat->Int)(pl ph dl dh:Int)(S W wi Z:Int):VX VO 26 [.agg [i c,i T,i U,i O,rds n a b u v,Pt.scs m p q,i pl,i ph,i dl,i dh],.agg [i S,i W,i wi],i Z] (.tup [bl (kpB c T U O n a b u v m p q pl ph dl dh S W wi Z),i (asE c T U O n a b u v m p q pl ph dl dh S W wi Z)]):=by
 refine GA (L:=[]) (Ae Xe7 Aa) (Aj Ab Ac (Ah Qr0 (UA.nil _))) VY Tryz.func26 (UT Tryz.f26) G5 (t:=let z0:=asE c T U O n a b u v m p q pl ph dl dh S W wi Z;let z1:=(wkA c T U O n a b u v m p q pl ph dl dh);(need [UF 4 n λk=>[Bo.i (a k),Bo.i (b k),Bo.i (u k),Bo.i (v k)],UF 2 m λk=>[Pt.i (p k),Pt.i (q k)]] (branch (decide (z0=0)) (branch ((0:Int)==0) (need [drB z1,bdB z1,(1:Int)<=c/\c<=10,(0:Int)<=S/\S<=W/\W<=10,(0:Int)<=wi/\wi<=1000000,(0:Int)<=Z/\Z<=100000] (leaf (RV.tup [RV.x (.bool (keB c z1 S W wi Z)),RV.x (KQ)]))) (leaf (RV.tup [RV.x (KX),RV.x (KQ)]))) (branch (z0==0) VM.fail (leaf (RV.tup [RV.x (KX),RV.x (.int .i64 (z0))])))))) VT ?_
 simp only [VM.sat,UB,G4,GJ,UD,UH,HA,RA,beq_iff_eq,beq_eq_false_iff_ne,Ax,Bool.not_eq_false',not_true_eq_false,false_imp_iff,true_imp_iff];refine ⟨⟨Bo.isRec4 n a b u v,Pt.isRec2 m p q⟩,λh=>?_,λh=>⟨λh'=>absurd h' h,λ_=>?_⟩⟩
 ·obtain ⟨h1,h2,h3⟩:=Ji7 h;have hw:=bB h1;have hu:=Xb7.1 h2;refine ⟨⟨hw.1,hw.2.1,hw.2.2.1,VJ,VJ,VJ⟩,?_,h.symm⟩;unfold kpB;rw [h];rfl
 ·unfold kpB;rw [decide_eq_false h];rfl
def aL:UW
 |[.agg [.x (.int .i64 c),.x (.int .i64 T),.x (.int .i64 U),.x (.int .i64 O),.lst 4 n fr,.lst 2 m ft,.x (.int .i64 pl),.x (.int .i64 ph),.x (.int .i64 dl),.x (.int .i64 dh)],.agg [.x (.int .i64 S),.x (.int .i64 W),.x (.int .i64 wi)],.x (.int .i64 Z)]=>some ([UF 4 n fr,UF 2 m ft],.tup [bl (kpB c T U O n (col 0 fr) (col 1 fr) (col 2 fr) (col 3 fr) m (Pt.col 0 ft) (Pt.col 1 ft) pl ph dl dh S W wi Z),i (asE c T U O n (col 0 fr) (col 1 fr) (col 2 fr) (col 3 fr) m (Pt.col 0 ft) (Pt.col 1 ft) pl ph dl dh S W wi Z)])
 |_=>none
theorem Qh1:VP VO 26 aL:=by
 refine ⟨(UG Tryz.func26),?_⟩;intro avs ns res h I;unfold aL at h;split at h
 ·cases h;have hr:UF 4 _ _:=I _ GG;have ht:UF 2 _ _:=I _ (HO _ GG);exact (Xm3 _ _ _ _ _ _ _ _ _ _ _ _ _ _ _ _ _ _ _ _).same (.cons (LV.same (.cons (.refl _) (.cons (.refl _) (.cons (.refl _) (.cons (.refl _) (.cons (.lst 4 _ _ _ hr) (.cons (.lst 2 _ _ _ ht) (.cons (.refl _) (.cons (.refl _) (.cons (.refl _) (.cons (.refl _) .nil))))))))))) (.cons (.refl _) (.cons (.refl _) .nil)))
 ·cases h
def hdN(c T U O:Int)(n:Nat)(a b u v:Nat->Int)(m:Nat)(p q:Nat->Int)(pl ph dl dh:Int)(Z:Int):Nat:=if hdE c T U O n a b u v m p q pl ph dl dh Z=0 then c.toNat+1 else 0
theorem PV{P:Program}{c:Code}{ps:List Prop}{sp:UI}(h:UB ps->HP P c sp):HP P c (FO ps sp):=λcx hf=>wI (λhp=>h hp cx hf)
theorem Zn0{g h:Nat->Int}{k j:Nat}{x y:Int}(hx:x=g k)(hy:y=h k)(hj:j<k+1):GE k (λk=>[i (g k),i (h k)]) (U4 2 [i x,i y]) j=[i (g j),i (h j)]:=by
 subst hx;subst hy;show H0 (decide (j<k)) [i (g j),i (h j)] (U4 2 [i (g k),i (h k)] (j-k))=_;rw [show j-k=0 by omega]
 by_cases hj:j<k
 ·rw [decide_eq_true hj];rfl
 ·obtain rfl:j=k:=VJ;rw [decide_eq_false hj];rfl
section
variable (c T U O:Int)(n:Nat)(a b u v:Nat->Int)(m:Nat)(p q:Nat->Int)(pl ph dl dh:Int)(Z:Int)
def Jn7:St:={σ:=mkS 37 [(0,.agg [i c,i T,i U,i O,rds n a b u v,Pt.scs m p q,i pl,i ph,i dl,i dh]),(1,i Z),(2,.fn (.func 72) [] []),(3,.ptr 0 0),(4,.ptr 1 0),(5,.ptr 2 0),(6,.x (.slice none 0 0)),(7,i 0),(8,.ptr 10 0),(9,i 0),(10,.ptr 18 0),(26,.fn (.func 140) [] [.ro [i 0],.ro [i c]])],m:=[(901,.row 51 2 0 (λk=>[i (onL (wkA c T U O n a b u v m p q pl ph dl dh) k Z),i (onH (wkA c T U O n a b u v m p q pl ph dl dh) k Z)])),(18,.cells 112 [.row 901]),(10,.cells 124 [.roI [i c,i T,i U,i O,rds n a b u v,Pt.scs m p q] 26 (wkA c T U O n a b u v m p q pl ph dl dh) 0]),(2,.cells 163 [.fn (.func 72) [] []]),(1,.cells 3 [i Z]),(0,.cells 53 [i c,i T,i U,i O,rds n a b u v,Pt.scs m p q,i pl,i ph,i dl,i dh])],nx:=902}
noncomputable def Jr7:Code:=SI (VS (U7 Tryz.f71) 0)
noncomputable def Jq8:Code:=SH (VS (U7 Tryz.f71) 0)
def oG(k:Nat):St:={σ:=H4 [] (Jn7 c T U O n a b u v m p q pl ph dl dh Z).σ,m:=[(901,.row 51 2 k (λk=>[i (onL (wkA c T U O n a b u v m p q pl ph dl dh) k Z),i (onH (wkA c T U O n a b u v m p q pl ph dl dh) k Z)])),(18,.cells 112 [.row 901]),(10,.cells 124 [.roI [i c,i T,i U,i O,rds n a b u v,Pt.scs m p q] 26 (wkA c T U O n a b u v m p q pl ph dl dh) 0]),(2,.cells 163 [.fn (.func 72) [] []]),(1,.cells 3 [i Z]),(0,.cells 53 [i c,i T,i U,i O,rds n a b u v,Pt.scs m p q,i pl,i ph,i dl,i dh])],nx:=902}
def nM(k:Nat):G7->Option St
 | .normal=>some {σ:=H4 [] (Jn7 c T U O n a b u v m p q pl ph dl dh Z).σ,m:=[(901,.row 51 2 ((c-0+1).toNat) (λk=>[i (onL (wkA c T U O n a b u v m p q pl ph dl dh) k Z),i (onH (wkA c T U O n a b u v m p q pl ph dl dh) k Z)])),(18,.cells 112 [.row 901]),(10,.cells 124 [.roI [i c,i T,i U,i O,rds n a b u v,Pt.scs m p q] 26 (wkA c T U O n a b u v m p q pl ph dl dh) 0]),(2,.cells 163 [.fn (.func 72) [] []]),(1,.cells 3 [i Z]),(0,.cells 53 [i c,i T,i U,i O,rds n a b u v,Pt.scs m p q,i pl,i ph,i dl,i dh])],nx:=902}
 |_=>none
def T_eO:CT:= .leaf (.normal,oG c T U O n a b u v m p q pl ph dl dh Z ((c-0+1).toNat))
def Xx4:UI:=GK [(.cell 18 0,901,51,2)] (HG (oG c T U O n a b u v m p q pl ph dl dh Z (0)) (T_eO c T U O n a b u v m p q pl ph dl dh Z))
end
abbrev ZU(c:Int):AV:=AV.fn (Fn.func 140) [] [AV.ro [iI 0],AV.ro [iI c]]
abbrev J1:Prop:=AV.fn (Fn.func 72) [] []=AV.fn (Fn.func 72) [] []
abbrev KY:Ext:={R:=[(95,aI)],H:=[],C:=[(51,fC)] }
section
variable (c T U O:Int)(n:Nat)(a b u v:Nat->Int)(m:Nat)(p q:Nat->Int)(pl ph dl dh:Int)(Z:Int)
theorem Jh2(VR:rdE c T U O n a b u v m p q pl ph dl dh=0)(UE:0<=Z/\Z<=10000)(HQ:drB (wkA c T U O n a b u v m p q pl ph dl dh)/\bdB (wkA c T U O n a b u v m p q pl ph dl dh)/\1<=c/\c<=10):HP VO (.rangeFunc (rfF (VS (U7 Tryz.f71) 0)) (jD (VS (U7 Tryz.f71) 0)) Jr7 Jq8) (Xx4 c T U O n a b u v m p q pl ph dl dh Z):=by
 refine P7 [(.cell 18 0,901,51,2)] (L:=[]) (Ae RI (Ae Wc2 Aa)) (Aj (Af dB Ab) Ac (Ah wV (UA.nil _))) VY U3 (V:=Nat) (oG c T U O n a b u v m p q pl ph dl dh Z) (λk=>k<=((c-0+1).toNat)) (λk=>k) (nM c T U O n a b u v m p q pl ph dl dh Z) (x0:=0) VV rfl ?_ ?_ ?_ ?_ (g:=140) (caps:=[.ro [i 0],.ro [i c]]) VT VT (E8 0 c VJ VJ) (λ_=>rfl) ?_
 ·rintro k;kernel_rfl
 ·rintro k y E h;unfold nM at h;split at h
  ·cases h;kernel_rfl
  ·cases h
 ·rintro k;rfl
 ·rintro k y E h;unfold nM at h;split at h
  ·cases h;rfl
  ·cases h
 ·rintro Q hQ k hx;refine ⟨λhlt=>⟨(k+1),rfl,?_⟩,λPI=>?_⟩
  ·(with_reducible refine DH (t:=let z0:=(wkA c T U O n a b u v m p q pl ph dl dh);let z1:=((0:Int)+(k:Int)).toNat;(need [drB z0,bdB z0,(0:Int)<=0+(k:Int)/\(0:Int)+(k:Int)<=10,(0:Int)<=Z/\Z<=100000] (need [(k+1)*16<=140737488355328,RT 1 (U4 2 [iI (onL z0 z1 Z),iI (onH z0 z1 Z)])] (need [X3 c T U O n a b u v m p q pl ph dl dh,Z=Z,J1,KJ,VZ (ptr 1 0),VZ (ptr 2 0),Z8=Z8,K6,VZ (ptr 10 0),K6,Y3,ZU c=ZU c,k+1=k+1,GU (k+1) (GE k (λk=>[iI (onL z0 k Z),iI (onH z0 k Z)]) (U4 2 [iI (onL z0 z1 Z),iI (onH z0 z1 Z)])) (λi=>[iI (onL z0 i Z),iI (onH z0 i Z)]),VZ (AV.row 901),VZ (ZB c T U O n a b u v m p q pl ph dl dh),J1,Z=Z,c=c,T=T,U=U,O=O,YO n a b u v,YS m p q,pl=pl,ph=ph,dl=dl,dh=dh] (leaf G7.normal))))) VT ?_)
   simp only [VM.sat,UB,UH]
   have ek:((0:Int)+(k:Int)).toNat=k:=VJ;refine ⟨⟨HQ.1,HQ.2.1,VJ,VJ⟩,⟨VJ,λj hj a ha=>FG ha (by simp [AV.one,Value.oneCell'])⟩,λj hj=>?_,VJ⟩
   rw [ek];exact Zn0 rfl rfl hj
  ·subst PI;exact hQ
abbrev YR:Value:=Value.slice none 0 0
theorem Wq1:VX VO 71 [.agg [i c,i T,i U,i O,rds n a b u v,Pt.scs m p q,i pl,i ph,i dl,i dh],i Z,.fn (.func 72) [] []] (.tup [.lst 2 (hdN c T U O n a b u v m p q pl ph dl dh Z) (λk=>[i (onL (wkA c T U O n a b u v m p q pl ph dl dh) k Z),i (onH (wkA c T U O n a b u v m p q pl ph dl dh) k Z)]),i (hdE c T U O n a b u v m p q pl ph dl dh Z)]):=by
 refine GA (L:=[FO [rdE c T U O n a b u v m p q pl ph dl dh=0,0<=Z/\Z<=10000,drB (wkA c T U O n a b u v m p q pl ph dl dh)/\bdB (wkA c T U O n a b u v m p q pl ph dl dh)/\1<=c/\c<=10] (Xx4 c T U O n a b u v m p q pl ph dl dh Z)]) (Ae RI (Ae Wc2 Aa)) (Aj (Af dB Ab) Ac (Ah wV (UA.nil _))) VY Tryz.func71 (UT Tryz.f71) (G0 (lpE (b:= .rangeFunc (rfF (VS (U7 Tryz.f71) 0)) (jD (VS (U7 Tryz.f71) 0)) Jr7 Jq8) VT<|PV (λh=>Jh2 c T U O n a b u v m p q pl ph dl dh Z h.1 h.2.1 h.2.2))) (t:=let z0:=wkA c T U O n a b u v m p q pl ph dl dh;let z1:=rdE c T U O n a b u v m p q pl ph dl dh;let z2:=(leaf (RV.tup [RV.lst 2 (c-0+1).toNat λk=>[iI (onL (z0) k Z),iI (onH (z0) k Z)],RV.x (KQ)]));let z3:=(leaf (RV.tup [RV.x (YR),RV.x (.int .i64 (2:Int))]));(need [UF 4 n λk=>[Bo.i (a k),Bo.i (b k),Bo.i (u k),Bo.i (v k)],UF 2 m λk=>[Pt.i (p k),Pt.i (q k)]] (branch (decide (z1=0)) (branch ((0:Int) != 0) (leaf (RV.tup [RV.x (YR),RV.x (KQ)])) (branch (!bt (0:Int) Z (10000:Int)) z3 (need [z1=0,(0:Int)<=Z/\Z<=10000,drB (z0)/\bdB (z0)/\(1:Int)<=c/\c<=10] (need [X3 c T U O n a b u v m p q pl ph dl dh,Z=Z,J1,KJ,VZ (ptr 1 0),VZ (ptr 2 0),Z8=Z8,K6,VZ (ptr 10 0),K6,Y3,ZU c=ZU c,0=0,∀(i:Nat),i<0->[]=[iI (onL (z0) i Z),iI (onH (z0) i Z)],VZ (AV.row 901),VZ (ZB c T U O n a b u v m p q pl ph dl dh),J1,Z=Z,c=c,T=T,U=U,O=O,YO n a b u v,YS m p q,pl=pl,ph=ph,dl=dl,dh=dh] z2)))) (branch (z1 != 0) (leaf (RV.tup [RV.x (YR),RV.x (.int .i64 (z1))])) (branch (!bt (0:Int) Z (10000:Int)) z3 (need [z1=0,(0:Int)<=Z/\Z<=10000,drB (z0)/\bdB (z0)/\(1:Int)<=c/\c<=10] (need [X3 c T U O n a b u v m p q pl ph dl dh,Z=Z,J1,KJ,VZ (ptr 1 0),VZ (ptr 2 0),Z8=Z8,K6,VZ (ptr 10 0),z1=0,Y3,ZU c=ZU c,0=0,∀(i:Nat),i<0->[]=[iI (onL (z0) i Z),iI (onH (z0) i Z)],VZ (AV.row 901),AV.x (.pointer none)=roI [iI c,iI T,iI U,iI O,QR n a b u v,QY m p q] 26 (λa_1=>z0 a_1) 0,J1,Z=Z,c=c,T=T,U=U,O=O,YO n a b u v,YS m p q,pl=pl,ph=ph,dl=dl,dh=dh] z2))))))) VT ?_
 simp only [VM.sat,UB,G4,GJ,UD,UH,HA,RA,beq_iff_eq,beq_eq_false_iff_ne,Ax,Bool.not_eq_false',not_true_eq_false,false_imp_iff,true_imp_iff];have e2:rdE c T U O n a b u v m p q pl ph dl dh=0->bt 0 Z 10000=false->hdE c T U O n a b u v m p q pl ph dl dh Z=2:=λh h'=>by
  unfold hdE;rw [if_pos h,h'];rfl
 have e0:rdE c T U O n a b u v m p q pl ph dl dh=0->bt 0 Z 10000=true->hdE c T U O n a b u v m p q pl ph dl dh Z=0:=λh h'=>by
  unfold hdE;rw [if_pos h,h'];rfl
 have er: ¬rdE c T U O n a b u v m p q pl ph dl dh=0->hdE c T U O n a b u v m p q pl ph dl dh Z=rdE c T U O n a b u v m p q pl ph dl dh:=λh=>if_neg h
 have eN: ∀k:Int,hdE c T U O n a b u v m p q pl ph dl dh Z=k->k≠0->(eF (YR)/\hdN c T U O n a b u v m p q pl ph dl dh Z=0)/\k=hdE c T U O n a b u v m p q pl ph dl dh Z:=λk h hk=>⟨⟨by trivial,if_neg (by rw [h];exact hk)⟩,h.symm⟩
 have eP:rdE c T U O n a b u v m p q pl ph dl dh=0->bt 0 Z 10000=true->hdN c T U O n a b u v m p q pl ph dl dh Z=c.toNat+1:=λh h'=>if_pos (e0 h h')
 refine ⟨⟨Bo.isRec4 n a b u v,Pt.isRec2 m p q⟩,λh=>⟨λh'=>eN 2 (e2 h h') (by decide),λh'=>?_⟩,λh=>⟨λ_=>eN _ (er h) h,λh''=>absurd h'' h⟩⟩
 have hw:=bB h;have hb:=(bt_iff _ _ _).1 h';refine ⟨⟨h,hb,hw.1,hw.2.1,hw.2.2.1⟩,λj hj=>absurd hj (Aq _),⟨?_,λj _ x hx=>?_⟩,(e0 h h').symm⟩
 ·rw [eP h h'];omega
 ·simp only [GM,DO,or_false] at hx;rcases hx with rfl|rfl<;>exact Ak
end
def Qe5:UW
 |[.agg [.x (.int .i64 c),.x (.int .i64 T),.x (.int .i64 U),.x (.int .i64 O),.lst 4 n fr,.lst 2 m ft,.x (.int .i64 pl),.x (.int .i64 ph),.x (.int .i64 dl),.x (.int .i64 dh)],.x (.int .i64 Z),.fn (.func 72) [] []]=>some ([UF 4 n fr,UF 2 m ft],.tup [.lst 2 (hdN c T U O n (col 0 fr) (col 1 fr) (col 2 fr) (col 3 fr) m (Pt.col 0 ft) (Pt.col 1 ft) pl ph dl dh Z) (λk=>[i (onL (wkA c T U O n (col 0 fr) (col 1 fr) (col 2 fr) (col 3 fr) m (Pt.col 0 ft) (Pt.col 1 ft) pl ph dl dh) k Z),i (onH (wkA c T U O n (col 0 fr) (col 1 fr) (col 2 fr) (col 3 fr) m (Pt.col 0 ft) (Pt.col 1 ft) pl ph dl dh) k Z)]),i (hdE c T U O n (col 0 fr) (col 1 fr) (col 2 fr) (col 3 fr) m (Pt.col 0 ft) (Pt.col 1 ft) pl ph dl dh Z)])
 |_=>none
theorem Wq0:VP VO 71 Qe5:=by
 refine ⟨(UG Tryz.func71),?_⟩;intro avs ns res h I;unfold Qe5 at h;split at h
 ·cases h;have hr:UF 4 _ _:=I _ GG;have ht:UF 2 _ _:=I _ (HO _ GG);exact (Wq1 _ _ _ _ _ _ _ _ _ _ _ _ _ _ _ _ _).same (.cons (LV.same (.cons (.refl _) (.cons (.refl _) (.cons (.refl _) (.cons (.refl _) (.cons (.lst 4 _ _ _ hr) (.cons (.lst 2 _ _ _ ht) (.cons (.refl _) (.cons (.refl _) (.cons (.refl _) (.cons (.refl _) .nil))))))))))) (.cons (.refl _) (.cons (.refl _) .nil)))
 ·cases h
theorem vV(c T U O:Int)(n:Nat)(a b u v:Nat->Int)(m:Nat)(p q:Nat->Int)(pl ph dl dh:Int)(Z:Int):FN VO 43 [.agg [i c,i T,i U,i O,rds n a b u v,Pt.scs m p q,i pl,i ph,i dl,i dh],i Z] (.tup [.lst 2 (hdN c T U O n a b u v m p q pl ph dl dh Z) (λk=>[i (onL (wkA c T U O n a b u v m p q pl ph dl dh) k Z),i (onH (wkA c T U O n a b u v m p q pl ph dl dh) k Z)]),i (hdE c T U O n a b u v m p q pl ph dl dh Z)]):=by
 refine D1 (L:=[]) (Ae Wq0 Aa) Ad VY Tryz.func43 (UT Tryz.f43) G5 (t:=need [UF 4 n λk=>[Bo.i (a k),Bo.i (b k),Bo.i (u k),Bo.i (v k)],UF 2 m λk=>[Pt.i (p k),Pt.i (q k)]] (leaf (tup [lst 2 (hdN c T U O n a b u v m p q pl ph dl dh Z) λk=>[iI (onL (wkA c T U O n a b u v m p q pl ph dl dh) k Z),iI (onH (wkA c T U O n a b u v m p q pl ph dl dh) k Z)],iI (hdE c T U O n a b u v m p q pl ph dl dh Z)]))) VT ?_
 simp only [VM.sat,UB,UH];exact ⟨⟨Bo.isRec4 n a b u v,Pt.isRec2 m p q⟩,⟨rfl,rfl,λ_ _=>rfl⟩,⟨rfl,rfl⟩,Ak⟩
end Go.Proofs.YtakpdkmhclhlnaaGreatDoor
namespace Go.Proofs.YtakpdkmhclhlnaaGreatDoor.Hd
open Go Go.Sx Go.RowKit Bo
open Go.Sx.VM (need branch leaf)
open Go.Sx.AV (lst ptr agg roI tup top)
def OZ:UW
 |[.x (.int .i64 n),.x (.int .i64 U),.x (.int .i64 O)]=>some ([],bl (bt U n O))
 |_=>none
abbrev WM:Value:=Value.bool false
theorem V9{p:Prop}(h:p:=by
 simp only [VM.sat,UB,G4,GJ,UD,UH];all_goals (simp+contextual [bt,insB,Bo.bt,Bo.insB,Bool.and_assoc]);all_goals omega):p:=h
theorem pL(n U O:Int):VX VO 122 [i n,i U,i O] (bl (bt U n O)):=by
 refine GV Tryz.func122 (t:=branch (decide (U<=n)) (leaf (RV.x (.bool (decide (n<=O))))) (leaf (RV.x (WM)))) VT ?_;exact V9
theorem zM:VP VO 122 OZ:=by
 refine ⟨(UG Tryz.func122),?_⟩;intro avs ns res h I;unfold OZ at h;split at h
 ·cases h;exact pL _ _ _
 ·cases h
def S1:UW
 |[.agg [.x (.int .i64 a),.x (.int .i64 b)],.x (.int .i64 U),.x (.int .i64 O)]=>some ([],bl (insB U a b O))
 |_=>none
theorem pQ(a b U O:Int):VX VO 163 [.agg [i a,i b],i U,i O] (bl (insB U a b O)):=by
 refine GV Tryz.func163 (t:=branch (decide (U<=a)) (branch (decide (a<=b)) (leaf (RV.x (.bool (decide (b<=O))))) (leaf (RV.x (WM)))) (leaf (RV.x (WM)))) VT ?_;exact V9
theorem II:VP VO 163 S1:=by
 refine ⟨(UG Tryz.func163),?_⟩;intro avs ns res h I;unfold S1 at h;split at h
 ·cases h;exact pQ _ _ _ _
 ·cases h
def S0:UW
 |[.agg [.x (.int .i64 a),.x (.int .i64 b)]]=>some ([],bl (insB (-100) a b 100))
 |_=>none
theorem pP(a b:Int):VX VO 121 [.agg [i a,i b]] (bl (insB (-100) a b 100)):=by
 refine U1 (L:=[]) (Ae II Aa) VY Tryz.func121 (UT Tryz.f121) U3 (t:=leaf (RV.x (.bool (insB (-100:Int) a b (100:Int))))) VT ?_;exact V0
theorem pO:VP VO 121 S0:=by
 refine ⟨(UG Tryz.func121),?_⟩;intro avs ns res h I;unfold S0 at h;split at h
 ·cases h;exact pP _ _
 ·cases h
def Qe9:UW
 |[.agg [.x (.int .i64 a),.x (.int .i64 b)]]=>some ([],bl (insB 0 a b 1000))
 |_=>none
theorem Ws1(a b:Int):VX VO 167 [.agg [i a,i b]] (bl (insB 0 a b 1000)):=by
 refine U1 (L:=[]) (Ae II Aa) VY Tryz.func167 (UT Tryz.f167) U3 (t:=leaf (RV.x (.bool (insB (0:Int) a b (1000:Int))))) VT ?_;exact V0
theorem l8:VP VO 167 Qe9:=by
 refine ⟨(UG Tryz.func167),?_⟩;intro avs ns res h I;unfold Qe9 at h;split at h
 ·cases h;exact Ws1 _ _
 ·cases h
def aJ:UW
 |[.x (.int .i64 n)]=>some ([0<=n/\n<=1000],i (1+n))
 |_=>none
theorem Wr4(n:Int)(VR:0<=n/\n<=1000):VX VO 54 [i n] (i (1+n)):=by
 refine GV Tryz.func54 (t:=need [VL ((1:Int)+n)] (leaf (RV.x (.int .i64 ((1:Int)+n))))) VT ?_;simp only [VM.sat,UB,G4,GJ,UD,VL,UH];all_goals first|omega|grind
theorem RH:VP VO 54 aJ:=by
 refine ⟨(UG Tryz.func54),?_⟩;intro avs ns res h I;unfold aJ at h;split at h
 ·cases h;exact Wr4 _ (I _ VV)
 ·cases h
def aK:UW
 |[.x (.int .i64 n)]=>some ([0<=n/\n<=1000],i (7+n))
 |_=>none
theorem Wr6(n:Int)(VR:0<=n/\n<=1000):VX VO 127 [i n] (i (7+n)):=by
 refine GV Tryz.func127 (t:=need [VL ((7:Int)+n)] (leaf (RV.x (.int .i64 ((7:Int)+n))))) VT ?_;exact VC
theorem LT:VP VO 127 aK:=by
 refine ⟨(UG Tryz.func127),?_⟩;intro avs ns res h I;unfold aK at h;split at h
 ·cases h;exact Wr6 _ (I _ VV)
 ·cases h
def kG:UW:=kE
theorem Qq3(a b:Int):VX VO 128 [.lst 1 2 (λk=>[i (if k=0 then a else b)])] (i (min a b)):=by
 refine U1 (L:=[]) (Ae SG Aa) VY Tryz.func128 (UT Tryz.f128) U3 (t:=leaf (RV.x (.int .i64 (min (if 0=0 then a else b) (if 1=0 then a else b))))) VT ?_
 simp [VM.sat,G4,UD]
theorem FZ:VP VO 128 kG:=by
 refine ⟨(UG Tryz.func128),?_⟩;intro avs ns res h I;unfold kG kE at h;split at h
 ·rename_i f;split at h
  ·rename_i a b h0 h1;cases h;refine (Qq3 a b).same (.cons (.lst 1 2 _ _ ?_) .nil);intro k hk;rcases (show k=0\/k=1 by omega) with rfl|rfl
   ·exact h0
   ·exact h1
  ·cases h
 ·cases h
def lO:UW
 |[.agg [.lst 2 3 f,.x (.int .i64 er),.lst 3 N bf],.x (.int .i64 n)]=>some ([],bl (bt 0 n 2))
 |_=>none
theorem Qq4(f:Nat->List AV)(er:Int)(N:Nat)(bf:Nat->List AV)(n:Int):VX VO 166 [.agg [.lst 2 3 f,i er,.lst 3 N bf],i n] (bl (bt 0 n 2)):=by
 refine U1 (L:=[]) (Ae zM Aa) VY Tryz.func166 (UT Tryz.f166) U3 (t:=need [VL ((↑(3:Nat):Int)-1)] (leaf (RV.x (.bool (bt (0:Int) n ((↑(3:Nat):Int)-1)))))) VT ?_;simp [VM.sat,UB,G4,UD,VL]
theorem OG:VP VO 166 lO:=by
 refine ⟨(UG Tryz.func166),?_⟩;intro avs ns res h I;unfold lO at h;split at h
 ·cases h;exact Qq4 _ _ _ _ _
 ·cases h
def snB(r:Nat->Int):Nat->Int->Bool
 | 0,_=>false
 |k+1,q=>snB r k q||(r k==q)
theorem sX(r:Nat->Int)(q:Int): ∀k,snB r k q=true↔ ∃j,j<k/\r j=q
 | 0=>by simp [snB]
 |k+1=>by
  simp only [snB,Bl,sX r q k,beq_iff_eq];constructor
  ·rintro (⟨j,h1,h2⟩|h)
   ·exact ⟨j,VJ,h2⟩
   ·exact ⟨k,VJ,h⟩
  ·rintro ⟨j,h1,h2⟩;rcases (show j<k\/j=k by omega) with h|rfl
   ·exact .inl ⟨j,h,h2⟩
   ·exact .inr h2
abbrev bts(m:Nat)(r v:Nat->Int):AV:= .lst 2 m (λj=>[i (r j),i (v j)])
abbrev WE(f:Nat->List AV):AV:=lst 2 3 λa=>f a
abbrev X9(m:Nat)(r:Nat->Int)(v:Nat->Int):AV:=lst 2 m λj=>[iI (r j),iI (v j)]
abbrev K2(N:Nat)(bf:Nat->List AV):AV:=lst 3 N λa=>bf a
section
variable (f:Nat->List AV)(er:Int)(N:Nat)(bf:Nat->List AV)(U O:Int)(m:Nat)(r v:Nat->Int)
def Zr9:St:={σ:=[agg [WE f,iI er,K2 N bf],agg [iI U,iI O,X9 m r v],ptr 0 0,ptr 1 0,top,ptr 3 0,top,top,top,X9 m r v,iI (m:Int)]++HH 28 [],m:=[(3,GN.cells 278 [AV.x (WM),AV.x (WM),AV.x (WM),AV.x (WM),AV.x (WM),AV.x (WM)]),(1,GN.cells 148 [iI U,iI O,X9 m r v]),(0,GN.cells 59 [WE f,iI er,K2 N bf])],nx:=8}
noncomputable def Jr1:Code:=U9 (VS (U7 Tryz.f124) 0)
def Wi6(k:Nat):St:=(upE [(11,i k)] [(3,.cells 278 [bl (snB r (k) 0),bl (snB r (k) 1),bl (snB r (k) 2),bl (snB r (k) 3),bl (snB r (k) 4),bl (snB r (k) 5)]),(1,.cells 148 [i U,i O,bts m r v]),(0,.cells 59 [.lst 2 3 f,i er,.lst 3 N bf])] (Zr9 f er N bf U O m r v))
def CX(k:Nat):G7->Option St
 | .exit 0=>some (upE [] [(3,.cells 278 [bl (snB r (m) 0),bl (snB r (m) 1),bl (snB r (m) 2),bl (snB r (m) 3),bl (snB r (m) 4),bl (snB r (m) 5)]),(1,.cells 148 [i U,i O,bts m r v]),(0,.cells 59 [.lst 2 3 f,i er,.lst 3 N bf])] (Zr9 f er N bf U O m r v))
 |_=>none
def Jm9:CT:= .leaf (.exit 0,(CX f er N bf U O m r v 0 (.exit 0)).getD (Zr9 f er N bf U O m r v))
def Xx7:UI:=(HG (Wi6 f er N bf U O m r v (0)) (Jm9 f er N bf U O m r v))
end
abbrev QO:Prop:=ptr 0 0=ptr 0 0
abbrev XV:Prop:=ptr 1 0=ptr 1 0
abbrev ZF:Prop:=ptr 3 0=ptr 3 0
theorem YZ{p:Prop}(h:p:=by
 (with_reducible repeat' first|apply Al|intro _)
 all_goals first|exact Ak|omega|with_reducible rfl|(rename_i E hE;cases hE;exact hQ)|rfl):p:=h
section
variable (f:Nat->List AV)(er:Int)(N:Nat)(bf:Nat->List AV)(U O:Int)(m:Nat)(r v:Nat->Int)
theorem Ji4(VR:m<=1000)(UE: ∀j,j<m->0<=r j/\r j<=2/\ -1000<=v j/\v j<=2000)(HQ: ∀j k,j<k->k<m->r j≠r k)(F1:insB 0 U O 1000=true):G8 VO (.loop Jr1) (Xx7 f er N bf U O m r v):=by
 refine HF (L:=[]) (Ae OG (Ae zM (Ae l8 Aa))) VY U3 (X:=Nat) (Wi6 f er N bf U O m r v) (λk=>k<=m) (λk=>m-k) (CX f er N bf U O m r v) (x0:=0) VV ?_ ?_ ?_
 ·rintro k;kernel_rfl
 ·rintro k y E h;unfold CX at h;split at h
  ·cases h;kernel_rfl
  ·cases h
 ·rintro Q hQ k hx;refine ⟨(k+1),?_⟩;(with_reducible refine DH (t:=branch (decide ((k:Int)<(m:Int))) (need [UJ k m] (branch (!bt (0:Int) (r k) (2:Int)) VM.fail (need [UJ (r k) 6] (need [0+(r k).toNat*1<List.length [snB r k (0:Int),snB r k (1:Int),snB r k (2:Int),snB r k (3:Int),snB r k (4:Int),snB r k (5:Int)]] (branch (match [snB r k (0:Int),snB r k (1:Int),snB r k (2:Int),snB r k (3:Int),snB r k (4:Int),snB r k (5:Int)][0+(r k).toNat*1]? with|some x=>x|none=>false) VM.fail (branch (!bt (-1000:Int) (v k) (2000:Int)) VM.fail (need [UJ (r k) 6] (need [0+(r k).toNat*1<List.length [snB r k (0:Int),snB r k (1:Int),snB r k (2:Int),snB r k (3:Int),snB r k (4:Int),snB r k (5:Int)]] (need [VL ((k:Int)+1)] (need [VZ (agg [WE f,iI er,K2 N bf]),VZ (agg [iI U,iI O,X9 m r v]),QO,XV,ZF,VZ (X9 m r v),VZ (m:Int),(k:Int)+1=(↑(k+1):Int),(if 0=0+(r k).toNat*1 then true else snB r k (0:Int))=snB r (k+1) (0:Int),(if 1=0+(r k).toNat*1 then true else snB r k (1:Int))=snB r (k+1) (1:Int),(if 2=0+(r k).toNat*1 then true else snB r k (2:Int))=snB r (k+1) (2:Int),(if 3=0+(r k).toNat*1 then true else snB r k (3:Int))=snB r (k+1) (3:Int),(if 4=0+(r k).toNat*1 then true else snB r k (4:Int))=snB r (k+1) (4:Int),(if 5=0+(r k).toNat*1 then true else snB r k (5:Int))=snB r (k+1) (5:Int),U=U,O=O,VZ (X9 m r v),WE f=WE f,er=er,VZ (K2 N bf)] (leaf G7.normal))))))))))) (need [VZ (agg [WE f,iI er,K2 N bf]),VZ (agg [iI U,iI O,X9 m r v]),QO,XV,ZF,VZ (X9 m r v),VZ (m:Int),snB r k (0:Int)=snB r m (0:Int),snB r k (1:Int)=snB r m (1:Int),snB r k (2:Int)=snB r m (2:Int),snB r k (3:Int)=snB r m (3:Int),snB r k (4:Int)=snB r m (4:Int),snB r k (5:Int)=snB r m (5:Int),U=U,O=O,VZ (X9 m r v),WE f=WE f,er=er,VZ (K2 N bf)] (leaf (G7.exit 0)))) VT ?_)
  simp only [Jm9,CX,VM.sat,GT] at hQ;simp only [VM.sat,UB,G4,GJ,UD,VL,UH,HA,FY,RA,RW,GL,CX]
  refine ⟨λh=>?_,λh=>?_⟩
  ·obtain ⟨h0,h1,h2,h3⟩:=UE k VJ;have hno:snB r k (r k)=false:=by
    rw [←Bool.not_eq_true,sX];rintro ⟨j,hj,he⟩;exact HQ j k hj VJ he
   have hb1:bt 0 (r k) 2=true:=(bt_iff _ _ _).2 VJ;have hb2:bt (-1000) (v k) 2000=true:=(bt_iff _ _ _).2 VJ;rcases (show r k=0\/r k=1\/r k=2 by omega) with hr|hr|hr
   all_goals
    rw [hr] at hno hb1;simp [hr,hno,hb1,hb2,snB];exact YZ
  ·obtain rfl:k=m:=VJ;exact YZ
theorem Ws4(VR:m<=1000)(UE: ∀j,j<m->0<=r j/\r j<=2/\ -1000<=v j/\v j<=2000)(HQ: ∀j k,j<k->k<m->r j≠r k)(F1:insB 0 U O 1000=true):VX VO 124 [.agg [.lst 2 3 f,i er,.lst 3 N bf],.agg [i U,i O,bts m r v]] (bl true):=by
 refine U1 (L:=[Xx7 f er N bf U O m r v]) (Ae OG (Ae zM (Ae l8 Aa))) VY Tryz.func124 (UT Tryz.f124) (G0 (lpE (b:= .loop Jr1) VT<|Ji4 f er N bf U O m r v VR UE HQ F1)) (t:=need [VZ (agg [WE f,iI er,K2 N bf]),VZ (agg [iI U,iI O,X9 m r v]),QO,XV,ZF,VZ (X9 m r v),VZ (m:Int),(0:Int)=(↑(0:Nat):Int),false=snB r 0 (0:Int),false=snB r 0 (1:Int),false=snB r 0 (2:Int),false=snB r 0 (3:Int),false=snB r 0 (4:Int),false=snB r 0 (5:Int),U=U,O=O,VZ (X9 m r v),WE f=WE f,er=er,VZ (K2 N bf)] (leaf (RV.x (.bool (insB (0:Int) U O (1000:Int)))))) VT ?_
 exact V0
end
def Qj4(m:Nat)(r v:Nat->Int):Prop:=m<=1000/\(∀j,j<m->0<=r j/\r j<=2/\ -1000<=v j/\v j<=2000)/\ ∀j k,j<k->k<m->r j≠r k
section
variable (N:Nat)(U O:Nat->Int)(m:Nat->Nat)(g:Nat->Nat->List AV)
abbrev bgs:AV:= .lst 3 N (λk=>[i (U k),i (O k),.lst 2 (m k) (g k)])
def Qq0:Prop:= ∀k,k<N->UF 2 (m k) (g k)/\Qj4 (m k) (col 0 (g k)) (col 1 (g k))/\insB 0 (U k) (O k) 1000=true
end
def vB(N:Nat)(bf:Nat->List AV):Prop:=N<=6/\ ∃(U O:Nat->Int) (m:Nat->Nat) (g:Nat->Nat->List AV),(∀k,k<N->bf k=[i (U k),i (O k),.lst 2 (m k) (g k)])/\Qq0 N U O m g
def Qf0:UW
 |[.agg [.lst 2 3 f,.x (.int .i64 er),.lst 3 N bf],.agg [.x (.int .i64 U),.x (.int .i64 O),.lst 2 m g]]=>some ([UF 2 m g,Qj4 m (col 0 g) (col 1 g),insB 0 U O 1000=true],bl true)
 |_=>none
theorem Ws3:VP VO 124 Qf0:=by
 refine ⟨(UG Tryz.func124),?_⟩;intro avs ns res h I;unfold Qf0 at h;split at h
 ·cases h;have hr:_:=I _ (GG);have hr1:_:=I _ (HO _ (GG));have hr2:_:=I _ (HO _ (HO _ (GG)));exact (Ws4 _ _ _ _ _ _ _ (col 0 _) (col 1 _) hr1.1 hr1.2.1 hr1.2.2 hr2).same (.cons (.refl _) (.cons (LV.same (.cons (.refl _) (.cons (.refl _) (.cons (.lst 2 _ _ _ hr) .nil)))) .nil))
 ·cases h
def lR:UW
 |[.agg [.x (.int .i64 U),.x (.int .i64 O),.lst 2 m g],.ro [.fn (.func 124) [.agg [.lst 2 3 f,.x (.int .i64 er),.lst 3 N bf]] []]]=>some ([UF 2 m g,Qj4 m (col 0 g) (col 1 g),insB 0 U O 1000=true],bl false)
 |_=>none
theorem Qq6(U O:Int)(m:Nat)(g:Nat->List AV)(f:Nat->List AV)(er:Int)(N:Nat)(bf:Nat->List AV)(VR:UF 2 m g)(UE:Qj4 m (col 0 g) (col 1 g))(HQ:insB 0 U O 1000=true):VX VO 165 [.agg [i U,i O,.lst 2 m g],.ro [.fn (.func 124) [.agg [.lst 2 3 f,i er,.lst 3 N bf]] []]] (bl false):=by
 refine U1 (L:=[]) (Ae Ws3 Aa) VY Tryz.func165 (UT Tryz.f165) U3 (t:=need [UF 2 m g,Qj4 m (col 0 g) (col 1 g),insB (0:Int) U O (1000:Int)=true] (leaf (RV.x (.bool !true)))) VT ?_;exact V0
theorem OI:VP VO 165 lR:=by
 refine ⟨(UG Tryz.func165),?_⟩;intro avs ns res h I;unfold lR at h;split at h
 ·cases h;exact Qq6 _ _ _ _ _ _ _ _ (I _ VV) (I _ VV) (I _ VV)
 ·cases h
abbrev XK(f:Nat->List AV)(er:Int)(N1:Nat)(bf:Nat->List AV):AV:=AV.fn (Fn.func 165) [] [AV.ro [AV.fn (Fn.func 124) [agg [WE f,iI er,lst 3 N1 λa=>bf a]] []]]
section
variable (N:Nat)
abbrev J3(U:Nat->Int)(O:Nat->Int)(m:Nat->Nat)(g:Nat->Nat->List AV):AV:=lst 3 N λk=>[iI (U k),iI (O k),lst 2 (m k) λa=>g k a]
def aQ(U O:Nat->Int)(m:Nat->Nat)(g:Nat->Nat->List AV)(f:Nat->List AV)(er:Int)(N1:Nat)(bf:Nat->List AV):St:={σ:=[J3 N U O m g,XK f er N1 bf]++HH 5 [iI (N:Int)]++HH 11 [],m:=[],nx:=4}
noncomputable def Qi0:Code:=U9 (VS (U7 Tryz.f198) 0)
def NR(U O:Nat->Int)(m:Nat->Nat)(g:Nat->Nat->List AV)(f:Nat->List AV)(er:Int)(N1:Nat)(bf:Nat->List AV)(k:Nat):St:=(upM [(8,i k)] (aQ N U O m g f er N1 bf))
def wZ(U O:Nat->Int)(m:Nat->Nat)(g:Nat->Nat->List AV)(f:Nat->List AV)(er:Int)(N1:Nat)(bf:Nat->List AV)(k:Nat):G7->Option St
 | .exit 0=>some (upM [] (aQ N U O m g f er N1 bf))
 |_=>none
def Qd3(U O:Nat->Int)(m:Nat->Nat)(g:Nat->Nat->List AV)(f:Nat->List AV)(er:Int)(N1:Nat)(bf:Nat->List AV):CT:= .leaf (.exit 0,(wZ N U O m g f er N1 bf 0 (.exit 0)).getD (aQ N U O m g f er N1 bf))
def m6(U O:Nat->Int)(m:Nat->Nat)(g:Nat->Nat->List AV)(f:Nat->List AV)(er:Int)(N1:Nat)(bf:Nat->List AV):UI:=(HG (NR N U O m g f er N1 bf (0)) (Qd3 N U O m g f er N1 bf))
end
theorem VG{p:Prop}(h:p:=by
 (with_reducible repeat' first|apply Al|intro _)
 all_goals first|exact Ak|(rename_i E hE;cases hE;exact hQ)|omega|rfl|assumption):p:=h
section
variable (N:Nat)(U O:Nat->Int)(m:Nat->Nat)(g:Nat->Nat->List AV)(f:Nat->List AV)(er:Int)(N1:Nat)(bf:Nat->List AV)
theorem Qs7(VR:N<=6)(UE:Qq0 N U O m g):G8 VO (.loop Qi0) (m6 N U O m g f er N1 bf):=by
 refine HF (L:=[]) (Ae OI Aa) VY U3 (X:=Nat) (NR N U O m g f er N1 bf) (λk=>k<=N) (λk=>N-k) (wZ N U O m g f er N1 bf) (x0:=0) VV ?_ ?_ ?_
 ·rintro k;kernel_rfl
 ·rintro k y E h;unfold wZ at h;split at h
  ·cases h;kernel_rfl
  ·cases h
 ·rintro Q hQ k hx;refine ⟨(k+1),?_⟩;(with_reducible refine DH (t:=branch (decide ((k:Int)<(N:Int))) (need [UJ k N] (need [UF 2 (m k) λa=>g k a,Qj4 (m k) (col 0 λa=>g k a) (col 1 λa=>g k a),insB (0:Int) (U k) (O k) (1000:Int)=true] (branch false VM.fail (need [VL ((k:Int)+1)] (need [VZ (J3 N U O m g),VZ (XK f er N1 bf),VZ (N:Int),(k:Int)+1=(↑(k+1):Int)] (leaf G7.normal)))))) (need [VZ (J3 N U O m g),VZ (XK f er N1 bf),VZ (N:Int)] (leaf (G7.exit 0)))) VT ?_)
  simp only [Qd3,wZ,VM.sat,GT] at hQ;simp only [VM.sat,UB,UH,HA,VL,wZ,DZ]
  refine ⟨λh=>?_,λh=>?_⟩
  ·have hk:k<N:=VJ;obtain ⟨h1,h2,h3⟩:=UE k hk;all_goals exact V6
  ·obtain rfl:k=N:=VJ;exact VG
abbrev KI:Value:=Value.int IntKind.i64 (-1:Int)
theorem Xj3(VR:N<=6)(UE:Qq0 N U O m g):VX VO 198 [bgs N U O m g,.fn (.func 165) [] [.ro [.fn (.func 124) [.agg [.lst 2 3 f,i er,.lst 3 N1 bf]] []]]] (i (-1)):=by
 refine U1 (L:=[m6 N U O m g f er N1 bf]) (Ae OI Aa) VY Tryz.func198 (UT Tryz.f198) (G0 (lpE (b:= .loop Qi0) VT<|Qs7 N U O m g f er N1 bf VR UE)) (t:=need [VZ (J3 N U O m g),VZ (XK f er N1 bf),VZ (N:Int),(0:Int)=(↑(0:Nat):Int)] (leaf (RV.x (KI)))) VT ?_
 exact V0
end
def Wu8:UW
 |[.lst 3 N b,.fn (.func 165) [] [.ro [.fn (.func 124) [.agg [.lst 2 3 f,.x (.int .i64 er),.lst 3 N1 bf]] []]]]=>some ([vB N b],i (-1))
 |_=>none
theorem Xj2:VP VO 198 Wu8:=by
 refine ⟨(UG Tryz.func198),?_⟩;intro avs ns res h I;unfold Wu8 at h;split at h
 ·cases h;obtain ⟨h0,U,O,m,g,he,hb⟩:vB _ _:=I _ GG;exact (Xj3 _ U O m g _ _ _ _ h0 hb).same (.cons (.lst 3 _ _ _ he) (.cons (.refl _) .nil))
 ·cases h
theorem Qw5{N:Nat}{U O:Nat->Int}{m:Nat->Nat}{g:Nat->Nat->List AV}(h0:N<=6)(hb:Qq0 N U O m g):vB N (λk=>[i (U k),i (O k),.lst 2 (m k) (g k)]):=⟨h0,U,O,m,g,λ_ _=>rfl,hb⟩
theorem Xk2(N:Nat)(U O:Nat->Int)(m:Nat->Nat)(g:Nat->Nat->List AV)(f:Nat->List AV)(er:Int)(N1:Nat)(bf:Nat->List AV)(VR:N<=6)(UE:Qq0 N U O m g):VX VO 164 [bgs N U O m g,.fn (.func 165) [] [.ro [.fn (.func 124) [.agg [.lst 2 3 f,i er,.lst 3 N1 bf]] []]]] (bl false):=by
 refine U1 (L:=[]) (Ae Xj2 Aa) VY Tryz.func164 (UT Tryz.f164) U3 (t:=need [vB N λk=>[i (U k),i (O k),lst 2 (m k) (g k)]] (leaf (RV.x (.bool (decide ((-1:Int)>=(0:Int))))))) VT ?_
 simp only [VM.sat,UB,G4,GJ,UD,UH,DZ];exact ⟨Qw5 VR UE,rfl⟩
def Wv2:UW
 |[.lst 3 N b,.fn (.func 165) [] [.ro [.fn (.func 124) [.agg [.lst 2 3 f,.x (.int .i64 er),.lst 3 N1 bf]] []]]]=>some ([vB N b],bl false)
 |_=>none
theorem Xk1:VP VO 164 Wv2:=by
 refine ⟨(UG Tryz.func164),?_⟩;intro avs ns res h I;unfold Wv2 at h;split at h
 ·cases h;obtain ⟨h0,U,O,m,g,he,hb⟩:vB _ _:=I _ GG;exact (Xk2 _ U O m g _ _ _ _ h0 hb).same (.cons (.lst 3 _ _ _ he) (.cons (.refl _) .nil))
 ·cases h
theorem Ws8(N:Nat)(U O:Nat->Int)(m:Nat->Nat)(g:Nat->Nat->List AV)(f:Nat->List AV)(er:Int)(N1:Nat)(bf:Nat->List AV)(VR:N<=6)(UE:Qq0 N U O m g):VX VO 123 [bgs N U O m g,.fn (.func 124) [.agg [.lst 2 3 f,i er,.lst 3 N1 bf]] []] (bl true):=by
 refine U1 (L:=[]) (Ae Xk1 Aa) VY Tryz.func123 (UT Tryz.f123) U3 (t:=need [vB N λk=>[i (U k),i (O k),lst 2 (m k) (g k)]] (leaf (RV.x (.bool !false)))) VT ?_
 simp only [VM.sat,UB,G4,GJ,UD,UH,DZ];exact ⟨Qw5 VR UE,rfl⟩
def Qf2:UW
 |[.lst 3 N b,.fn (.func 124) [.agg [.lst 2 3 f,.x (.int .i64 er),.lst 3 N1 bf]] []]=>some ([vB N b],bl true)
 |_=>none
theorem Ws7:VP VO 123 Qf2:=by
 refine ⟨(UG Tryz.func123),?_⟩;intro avs ns res h I;unfold Qf2 at h;split at h
 ·cases h;obtain ⟨h0,U,O,m,g,he,hb⟩:vB _ _:=I _ GG;exact (Ws8 _ U O m g _ _ _ _ h0 hb).same (.cons (.lst 3 _ _ _ he) (.cons (.refl _) .nil))
 ·cases h
def oL(k:Nat):Int:=if k=0 then 0 else -9
def oH(k:Nat):Int:=if k=0 then 0 else 9
def ofB(f:Nat->List AV):Prop:= ∀k,k<3->f k=[i (oL k),i (oH k)]
abbrev ofs:AV:= .lst 2 3 (λk=>[i (oL k),i (oH k)])
def HC(m:Nat->Nat):Nat->Nat
 | 0=>0
 |b+1=>HC m b+m b
def GD(m:Nat->Nat):Nat->Nat->Nat×Nat
 | 0,q=>(0,q)
 |N+1,q=>if q<HC m N then GD m N q else (N,q-HC m N)
def Wa2(m:Nat->Nat)(N:Nat)(r v:Nat->Nat->Int)(q:Nat):List Value:=
 [.agg #[.int .i64 (GD m N q).1,.int .i64 (GD m N q).2],.agg #[.int .i64 (r (GD m N q).1 (GD m N q).2),.int .i64 (v (GD m N q).1 (GD m N q).2)]]
abbrev bds(N:Nat)(U O:Nat->Int)(m:Nat->Nat)(r v:Nat->Nat->Int):AV:= .lst 3 N (λk=>[i (U k),i (O k),bts (m k) (r k) (v k)])
theorem a6{P:Program}{ro:Option Nat}{cx:Cx}{c:Code}{t:Nat}{F:Nat->UI}(h: ∀k,HI P ro cx c (F k)):HI P ro cx c (B4 t F):=by
 intro n s tr ht Q hQ a w r;unfold B4 at ht;split at ht
 ·exact h _ n s tr ht Q hQ a w r
 ·cases ht
theorem NE(m:Nat->Nat){b c:Nat}(h:b<=c):HC m b<=HC m c:=by
 induction h with
 |refl=>exact Am _
 |step _ ih=>exact Ar ih (Nat.le_add_right _ _)
theorem tQ(m:Nat->Nat): ∀(N b n:Nat),b<N->n<m b->GD m N (HC m b+n)=(b,n)
 | 0,_,_,h,_=>VJ
 |N+1,b,n,h,I=>by
  unfold GD;rcases (show b<N\/b=N by omega) with hb|rfl
  ·have:=NE m (show b+1<=N by omega)
   simp only [HC] at this;rw [if_pos VJ,tQ m N b n hb I]
  ·rw [if_neg VJ];simp
theorem TF(m:Nat->Nat): ∀(N q:Nat),q<HC m N->(GD m N q).1<N/\(GD m N q).2<m (GD m N q).1
 | 0,_,h=>by simp [HC] at h
 |N+1,q,h=>by
  simp only [HC] at h;unfold GD;split
  ·rename_i hq;obtain ⟨h1,h2⟩:=TF m N q hq;exact ⟨VJ,h2⟩
  ·exact ⟨VV,by simp;omega⟩
def lP:UW
 |[.agg [.x (.int .i64 a),.x (.int .i64 b)],.ro [.fn (.func 121) [] []]]=>some ([],bl (!insB (-100) a b 100))
 |_=>none
theorem Qq5(a b:Int):VX VO 162 [.agg [i a,i b],.ro [.fn (.func 121) [] []]] (bl (!insB (-100) a b 100)):=by
 refine U1 (L:=[]) (Ae pO Aa) VY Tryz.func162 (UT Tryz.f162) U3 (t:=leaf (RV.x (.bool !insB (-100:Int) a b (100:Int)))) VT ?_;exact V0
theorem OH:VP VO 162 lP:=by
 refine ⟨(UG Tryz.func162),?_⟩;intro avs ns res h I;unfold lP at h;split at h
 ·cases h;exact Qq5 _ _
 ·cases h
abbrev ZC:AV:=AV.fn (Fn.func 162) [] [AV.ro [AV.fn (Fn.func 121) [] []]]
def aP:St:={σ:=[lst 2 3 λk=>[iI (oL k),iI (oH k)],ZC]++HH 5 [iI (↑(3:Nat):Int)]++HH 11 [],m:=[],nx:=4}
noncomputable def Qh9:Code:=U9 (VS (U7 Tryz.f197) 0)
def NQ(k:Nat):St:=(upM [(8,i k)] (aP))
def wY(k:Nat):G7->Option St
 | .exit 0=>some (upM [] (aP))
 |_=>none
def Qd2:CT:= .leaf (.exit 0,(wY 0 (.exit 0)).getD (aP))
def lZ:UI:=(HG (NQ (0)) (Qd2))
theorem Qs6:G8 VO (.loop Qh9) (lZ):=by
 refine HF (L:=[]) (Ae OH Aa) VY U3 (X:=Nat) (NQ) (λk=>k<=3) (λk=>3-k) (wY) (x0:=0) VV ?_ ?_ ?_
 ·rintro k;kernel_rfl
 ·rintro k y E h;unfold wY at h;split at h
  ·cases h;kernel_rfl
  ·cases h
 ·rintro Q hQ k hx;refine ⟨(k+1),?_⟩;(with_reducible refine DH (t:=branch (decide ((k:Int)<(↑(3:Nat):Int))) (need [UJ k 3] (branch (!insB (-100:Int) (oL k) (oH k) (100:Int)) VM.fail (need [VL ((k:Int)+1)] (need [VZ (lst 2 3 λk=>[iI (oL k),iI (oH k)]),ZC=ZC,VZ (↑(3:Nat):Int),(k:Int)+1=(↑(k+1):Int)] (leaf G7.normal))))) (need [VZ (lst 2 3 λk=>[iI (oL k),iI (oH k)]),ZC=ZC,VZ (↑(3:Nat):Int)] (leaf (G7.exit 0)))) VT ?_)
  simp only [Qd2,wY,VM.sat,GT] at hQ;simp only [VM.sat,UB,UH,HA,VL,wY,DZ]
  refine ⟨λh=>?_,λh=>?_⟩
  ·have hk:k<3:=VJ;rcases (show k=0\/k=1\/k=2 by omega) with rfl|rfl|rfl<;>simp [oL,oH,insB,Bo.insB]
   all_goals exact V6
  ·obtain rfl:k=3:=VJ;exact VG
theorem Xj1:VX VO 197 [ofs,.fn (.func 162) [] [.ro [.fn (.func 121) [] []]]] (i (-1)):=by
 refine U1 (L:=[lZ]) (Ae OH Aa) VY Tryz.func197 (UT Tryz.f197) (G0 (lpE (b:= .loop Qh9) VT<|Qs6)) (t:=need [VZ (lst 2 3 λk=>[iI (oL k),iI (oH k)]),ZC=ZC,VZ (↑(3:Nat):Int),(0:Int)=(↑(0:Nat):Int)] (leaf (RV.x (KI)))) VT ?_
 exact V0
def Wu7:UW
 |[.lst 2 3 f,.fn (.func 162) [] [.ro [.fn (.func 121) [] []]]]=>some ([ofB f],i (-1))
 |_=>none
theorem Xj0:VP VO 197 Wu7:=by
 refine ⟨(UG Tryz.func197),?_⟩;intro avs ns res h I;unfold Wu7 at h;split at h
 ·cases h;have hr:_:=I _ (GG);exact (Xj1).same (.cons (.lst 2 3 _ _ hr) (.cons (.refl _) .nil))
 ·cases h
theorem Xk0:VX VO 161 [ofs,.fn (.func 162) [] [.ro [.fn (.func 121) [] []]]] (bl false):=by
 refine U1 (L:=[]) (Ae Xj0 Aa) VY Tryz.func161 (UT Tryz.f161) U3 (t:=need [ofB λk=>[i (oL k),i (oH k)]] (leaf (RV.x (.bool (decide ((-1:Int)>=(0:Int))))))) VT ?_
 simp only [VM.sat,UB,G4,GJ,UD,UH,DZ];exact ⟨λ_ _=>rfl,rfl⟩
def Wv1:UW
 |[.lst 2 3 f,.fn (.func 162) [] [.ro [.fn (.func 121) [] []]]]=>some ([ofB f],bl false)
 |_=>none
theorem Xj9:VP VO 161 Wv1:=by
 refine ⟨(UG Tryz.func161),?_⟩;intro avs ns res h I;unfold Wv1 at h;split at h
 ·cases h;have hr:_:=I _ (GG);exact (Xk0).same (.cons (.lst 2 3 _ _ hr) (.cons (.refl _) .nil))
 ·cases h
theorem Ws6:VX VO 120 [ofs,.fn (.func 121) [] []] (bl true):=by
 refine U1 (L:=[]) (Ae Xj9 Aa) VY Tryz.func120 (UT Tryz.f120) U3 (t:=need [ofB λk=>[i (oL k),i (oH k)]] (leaf (RV.x (.bool !false)))) VT ?_
 simp only [VM.sat,UB,G4,GJ,UD,UH,DZ];exact ⟨λ_ _=>rfl,rfl⟩
def Qf1:UW
 |[.lst 2 3 f,.fn (.func 121) [] []]=>some ([ofB f],bl true)
 |_=>none
theorem Ws5:VP VO 120 Qf1:=by
 refine ⟨(UG Tryz.func120),?_⟩;intro avs ns res h I;unfold Qf1 at h;split at h
 ·cases h;have hr:_:=I _ (GG);exact (Ws6).same (.cons (.lst 2 3 _ _ hr) (.cons (.refl _) .nil))
 ·cases h
def lT:UW
 |[.agg [.lst 2 3 f,.x (.int .i64 1),.lst 3 N bf]]=>some ([ofB f,vB N bf],i 0)
 |_=>none
abbrev X0:Value:=Value.int IntKind.i64 (0:Int)
abbrev JV:Value:=Value.int IntKind.i64 (1:Int)
abbrev KK:Value:=Value.int IntKind.i64 (3:Int)
theorem Qq8(f:Nat->List AV)(N:Nat)(bf:Nat->List AV)(VR:ofB f)(UE:vB N bf):VX VO 78 [.agg [.lst 2 3 f,i 1,.lst 3 N bf]] (i 0):=by
 refine U1 (L:=[]) (Ae Ws5 (Ae Ws7 (Ae zM Aa))) VY Tryz.func78 (UT Tryz.f78) U3 (t:=branch (decide ((↑(3:Nat):Int)>6)) (leaf (RV.x (KK))) (branch (decide ((N:Int)>6)) (leaf (RV.x (KK))) (branch ((↑(3:Nat):Int)==0) (leaf (RV.x (JV))) (need [ofB f] (branch (!true) (leaf (RV.x (JV))) (branch (!bt (0:Int) (1:Int) (20:Int)) (leaf (RV.x (JV))) (need [vB N bf] (branch (!true) (leaf (RV.x (JV))) (leaf (RV.x (X0))))))))))) VT ?_;simp only [VM.sat,UB,G4,GJ,UD,UH,DZ];have h6:=UE.1;simp [bt,Bo.bt,VR,UE];omega
theorem Qq7:VP VO 78 lT:=by
 refine ⟨(UG Tryz.func78),?_⟩;intro avs ns res h I;unfold lT at h;split at h
 ·cases h;exact Qq8 _ _ _ (I _ VV) (I _ VV)
 ·cases h
def IW:UW
 |[.agg [.lst 2 3 f,.x (.int .i64 er),.lst 3 N bf]]=>some ([],.fn (.func 168) [] [.ro [.lst 2 3 f,i er,.lst 3 N bf]])
 |_=>none
abbrev WA:Ext:={}
theorem Qq1(f:Nat->List AV)(er:Int)(N:Nat)(bf:Nat->List AV):FN VO 125 [.agg [.lst 2 3 f,i er,.lst 3 N bf]] (.fn (.func 168) [] [.ro [.lst 2 3 f,i er,.lst 3 N bf]]):=by
 refine D1 (L:=[]) Aa Ad VY Tryz.func125 (UT Tryz.f125) G5 (t:=leaf (AV.fn (Fn.func 168) [] [AV.ro [WE f,iI er,K2 N bf]])) VT ?_;exact rfl
theorem IF:PF VO 125 IW:=by
 refine ⟨(UG Tryz.func125),?_⟩;intro avs ns res h I;unfold IW at h;split at h
 ·cases h;exact Qq1 _ _ _ _
 ·cases h
abbrev Q1(N:Nat)(U:Nat->Int)(O:Nat->Int)(m:Nat->Nat)(r:Nat->Nat->Int)(v:Nat->Nat->Int):AV:=lst 3 N λk=>[iI (U k),iI (O k),lst 2 (m k) λj=>[iI (r k j),iI (v k j)]]
section
variable (l:Nat)(f:Nat->List AV)(er:Int)(N:Nat)(U O:Nat->Int)(m:Nat->Nat)(r v:Nat->Nat->Int)
def mH:St:={σ:=[AV.fn (Fn.yield l) [] [],AV.ro [WE f,iI er,Q1 N U O m r v]]++HH 6 [Q1 N U O m r v,iI (N:Int)]++HH 22 [],m:=[],nx:=4,gh:=some 0}
noncomputable def mJ:Code:=U9 (VS (U7 Tryz.f168) 0)
def rX(b:Nat):St:={σ:=H4 [(3,.top),(4,.top),(5,.top),(6,.top),(10,i b)] (mH l f er N U O m r v).σ,m:=[],nx:=0,gh:=some (HC m b) }
def qS(b:Nat):G7->Option St
 | .exit 0=>some {σ:=H4 [(3,.top),(4,.top),(5,.top),(6,.top),(10,i N)] (mH l f er N U O m r v).σ,m:=[],nx:=0,gh:=some (HC m N) }
 | .ret=>some {σ:=H4 [(3,.top),(4,.top),(5,.top),(6,.top)] (mH l f er N U O m r v).σ,m:=[],nx:=0,gh:=none}
 |_=>none
def Xs2:CT:= .may True (.leaf (.exit 0,(qS l f er N U O m r v 0 (.exit 0)).getD (mH l f er N U O m r v))) (.leaf (.ret,(qS l f er N U O m r v 0 .ret).getD (mH l f er N U O m r v)))
def Wx5:UI:=GK [] (HG (rX l f er N U O m r v (0)) (Xs2 l f er N U O m r v))
end
abbrev JT(m:Nat->Nat)(b:Nat)(r:Nat->Nat->Int)(v:Nat->Nat->Int):AV:=lst 2 (m b) λj=>[iI (r b j),iI (v b j)]
section
variable (l:Nat)(f:Nat->List AV)(er:Int)(N:Nat)(U O:Nat->Int)(m:Nat->Nat)(r v:Nat->Nat->Int)(b:Nat)
def mI:St:={σ:=[AV.fn (Fn.yield l) [] [],AV.ro [WE f,iI er,Q1 N U O m r v],top,iI (b:Int),ptr 4 0,top,top,top,Q1 N U O m r v,iI (N:Int),iI (b:Int)]++HH 5 [JT m b r v,iI (↑(m b):Int)]++HH 14 [],m:=[(4,GN.cells 148 [iI (U b),iI (O b),JT m b r v])],nx:=11,gh:=some (HC m b) }
noncomputable def Xa2:Code:=U9 (VS mJ 0)
def rY(n:Nat):St:={σ:=H4 [(4,.top),(5,.top),(6,.top),(18,i n)] (mI l f er N U O m r v b).σ,m:=[],nx:=0,gh:=some (HC m b+n) }
def qT(n:Nat):G7->Option St
 | .exit 2=>some {σ:=H4 [(3,.top),(4,.top),(5,.top),(6,.top),(18,i (m b))] (mI l f er N U O m r v b).σ,m:=[],nx:=0,gh:=some (HC m (b+1)) }
 | .ret=>some {σ:=H4 [(3,.top),(4,.top),(5,.top),(6,.top)] (mI l f er N U O m r v b).σ,m:=[],nx:=0,gh:=none}
 |_=>none
def Xs3:CT:= .may True (.leaf (.exit 2,(qT l f er N U O m r v b 0 (.exit 2)).getD (mI l f er N U O m r v b))) (.leaf (.ret,(qT l f er N U O m r v b 0 .ret).getD (mI l f er N U O m r v b)))
def sD:UI:=GK [] (HG (rY l f er N U O m r v b (0)) (Xs3 l f er N U O m r v b))
end
abbrev WS(N:Nat)(U:Nat->Int)(O:Nat->Int)(m:Nat->Nat)(r:Nat->Nat->Int)(v:Nat->Nat->Int):Prop:=(Q1 N U O m r v)=Q1 N U O m r v
abbrev XG(l:Nat):Prop:=AV.fn (Fn.yield l) [] []=AV.fn (Fn.yield l) [] []
abbrev J0(f:Nat->List AV)(er:Int)(N:Nat)(U:Nat->Int)(O:Nat->Int)(m:Nat->Nat)(r:Nat->Nat->Int)(v:Nat->Nat->Int):Prop:=AV.ro [WE f,iI er,Q1 N U O m r v]=AV.ro [WE f,iI er,Q1 N U O m r v]
section
variable (l:Nat)(f:Nat->List AV)(er:Int)(N:Nat)(U O:Nat->Int)(m:Nat->Nat)(r v:Nat->Nat->Int)
theorem Zf9(b:Nat)(VR:N<=1000)(UE: ∀b,b<N->m b<=1000)(HQ:b<N){cx:Cx}(hX:VW VO {Y:=some (l,(HC m N),(Wa2 m N r v)) } cx):HI VO none cx (.loop Xa2) (sD l f er N U O m r v b):=by
 refine FJ [] (L:=[]) Aa hX VY G5 (V:=Nat) (rY l f er N U O m r v b) (λn=>n<=m b) (λn=>m b-n) (qT l f er N U O m r v b) (x0:=0) VV ?_ ?_ ?_
 ·rintro n;kernel_rfl
 ·rintro n y E h;unfold qT at h;split at h
  ·cases h;kernel_rfl
  ·cases h;kernel_rfl
  ·cases h
 ·rintro Q hQ n hx;refine ⟨(n+1),?_⟩;have e:HV VO [] {Y:=some (l,(HC m N),(Wa2 m N r v)) } [] [] Xa2 (rY l f er N U O m r v b n) (rY l f er N U O m r v b ((n+1))) (qT l f er N U O m r v b n)=(let z0:=(GD m N (HC m b+n));(branch (decide ((n:Int)<(↑(m b):Int))) (need [UJ n (↑(m b):Int)] (need [l=l,HC m b+n<HC m N,[Value.agg {toList:=[Value.int IntKind.i64 (b:Int),Value.int IntKind.i64 (n:Int)] },Value.agg {toList:=[Value.int IntKind.i64 (r b n),Value.int IntKind.i64 (v b n)] }]=[Value.agg {toList:=[Value.int IntKind.i64 (↑(Prod.fst z0):Int),Value.int IntKind.i64 (↑(Prod.snd z0):Int)] },Value.agg {toList:=[Value.int IntKind.i64 (r (Prod.fst z0) (Prod.snd z0)),Value.int IntKind.i64 (v (Prod.fst z0) (Prod.snd z0))] }]] (VM.may True (need [VL ((n:Int)+1)] (need [XG l,J0 f er N U O m r v,VZ (b:Int),WS N U O m r v,VZ (N:Int),VZ (b:Int),VZ (JT m b r v),VZ (↑(m b):Int),(n:Int)+1=(↑(n+1):Int),HC m b+n+1=HC m b+(n+1)] (leaf G7.normal))) (need [XG l,J0 f er N U O m r v,WS N U O m r v,VZ (N:Int),VZ (b:Int),VZ (JT m b r v),VZ (↑(m b):Int)] (leaf G7.ret))))) (need [XG l,J0 f er N U O m r v,WS N U O m r v,VZ (N:Int),VZ (b:Int),VZ (JT m b r v),VZ (↑(m b):Int),(n:Int)=(↑(m b):Int),HC m b+n=HC m (b+1)] (leaf (G7.exit 2))))):=VT;rw [e];simp only [Xs3,qT,VM.sat,GT] at hQ;have hQ1: ∀E,qT l f er N U O m r v b n (.exit 2)=some E->Q (.exit 2,E):=λE hE=>by cases hE;exact hQ.1 trivial
  have hQ2: ∀E,qT l f er N U O m r v b n .ret=some E->Q (.ret,E):=λE hE=>by cases hE;exact hQ.2
  simp only [VM.sat,UB,UH,HA,VL,DZ];clear e hQ;have h3:=UE b HQ;refine ⟨λh=>?_,λh=>?_⟩
  ·have hk:n<m b:=VJ;have h1:=NE m (show b+1<=N by omega)
   simp only [HC] at h1;rw [tQ m N b n HQ hk];all_goals exact V6
  ·obtain rfl:n=m b:=VJ;all_goals exact V6
theorem Zf8(VR:N<=1000)(UE: ∀b,b<N->m b<=1000){cx:Cx}(hX:VW VO {Y:=some (l,(HC m N),(Wa2 m N r v)) } cx):HI VO none cx (.loop mJ) (Wx5 l f er N U O m r v):=by
 refine FJ [] (L:=[B4 10 (λb=>FO [b<N] (sD l f er N U O m r v b))]) Aa hX VY (G0 (λcj hcj=>by
  have e:VS mJ 0=some (.loop Xa2):=VT;rw [e] at hcj;cases hcj;exact a6 (λb=>wI (λh=>Zf9 l f er N U O m r v b VR UE h hX)))) (V:=Nat) (rX l f er N U O m r v) (λb=>b<=N) (λb=>N-b) (qS l f er N U O m r v) (x0:=0) VV ?_ ?_ ?_
 ·rintro b;kernel_rfl
 ·rintro b y E h;unfold qS at h;split at h
  ·cases h;kernel_rfl
  ·cases h;kernel_rfl
  ·cases h
 ·rintro Q hQ b hx;refine ⟨(b+1),?_⟩;have e:HV VO [] {Y:=some (l,(HC m N),(Wa2 m N r v)) } [B4 10 (λb=>FO [b<N] (sD l f er N U O m r v b))] [] mJ (rX l f er N U O m r v b) (rX l f er N U O m r v ((b+1))) (qS l f er N U O m r v b)=(let z0:=J0 f er N U O m r v;(branch (decide ((b:Int)<(N:Int))) (need [UJ b N] (need [b<N] (need [XG l,z0,VZ (b:Int),WS N U O m r v,VZ (N:Int),VZ (b:Int),VZ (lst 2 (m b) λj=>[iI (r b j),iI (v b j)]),VZ (↑(m b):Int),(0:Int)=(↑(0:Nat):Int),HC m b=HC m b+0] (VM.may True (need [VL ((b:Int)+1)] (need [XG l,z0,WS N U O m r v,VZ (N:Int),(b:Int)+1=(↑(b+1):Int),VZ (HC m (b+1))] (leaf G7.normal))) (need [XG l,z0,WS N U O m r v,VZ (N:Int)] (leaf G7.ret)))))) (need [XG l,z0,WS N U O m r v,VZ (N:Int),(b:Int)=(N:Int),HC m b=HC m N] (leaf (G7.exit 0))))):=VT
  rw [e];simp only [Xs2,qS,VM.sat,GT] at hQ;have hQ1: ∀E,qS l f er N U O m r v b (.exit 0)=some E->Q (.exit 0,E):=λE hE=>by cases hE;exact hQ.1 trivial
  have hQ2: ∀E,qS l f er N U O m r v b .ret=some E->Q (.ret,E):=λE hE=>by cases hE;exact hQ.2
  simp only [VM.sat,UB,UH,HA,VL,DZ];clear e hQ;refine ⟨λh=>?_,λh=>?_⟩
  ·have h3:=UE b VJ;all_goals exact V6
  ·obtain rfl:b=N:=VJ;all_goals exact V6
end
theorem l7(f:Nat->List AV)(er:Int)(N:Nat)(U O:Nat->Int)(m:Nat->Nat)(r v:Nat->Nat->Int)(VR:N<=1000)(UE: ∀b,b<N->m b<=1000):B6 Tryz.prog 168 [.ro [.lst 2 3 f,i er,bds N U O m r v]] ((HC m N)) (Wa2 m N r v):=by
 refine BH (L:=λl=>[Wx5 l f er N U O m r v]) Aa VY (UG Tryz.func168) Tryz.func168 (UT Tryz.f168) VT (λl cx hX=>G0 (lpE (b:= .loop mJ) VT<|Zf8 l f er N U O m r v VR UE hX)) (t:=λl=>(need [VZ (AV.fn (Fn.yield l) [] []),J0 f er N U O m r v,WS N U O m r v,VZ (N:Int),(0:Int)=(↑(0:Nat):Int),0=HC m 0] (VM.may True (need [VZ (HC m N)] (leaf PUnit.unit)) (leaf PUnit.unit)))) (λl=>VT) ?_
 intro l;simp only [VM.sat,UB,G4,GJ,UD,VL,UH,HA,FY];all_goals exact V6
def plF(m:Nat->Nat)(N:Nat)(q:Nat):List AV:=[i (GD m N q).1,i (GD m N q).2]
theorem T7(m:Nat->Nat){K:Nat}: ∀(N:Nat),(∀b,b<N->m b<=K)->HC m N<=N*K
 | 0,_=>by simp [HC]
 |N+1,h=>by
  have:=T7 m N (λb hb=>h b VJ)
  have:=h N VJ;simp only [HC,Bq];omega
abbrev QE:AV:=AV.x (.pointer none)
def Jn4(f:Nat->List AV)(er:Int)(N:Nat)(U O:Nat->Int)(m:Nat->Nat)(r v:Nat->Nat->Int):St:={σ:=[agg [WE f,iI er,Q1 N U O m r v],ptr 0 0,QE,ptr 6 0]++HH 6 [AV.fn (Fn.func 168) [] [AV.ro [WE f,iI er,Q1 N U O m r v]]]++HH 13 [],m:=[(901,GN.row 241 2 0 λx=>[]),(6,GN.cells 178 [ptr 5 0]),(5,GN.cells 236 [WE f,iI er,Q1 N U O m r v,AV.row 901,AV.mp 3]),(3,GN.memo (λx=>False) λv=>v),(0,GN.cells 59 [WE f,iI er,Q1 N U O m r v])],nx:=902}
def rfF:Option Code->Operand
 |some (.rangeFunc f _ _ _)=>f
 |_=> .const .nilFunc
def jD:Option Code->Array Nat
 |some (.rangeFunc _ ps _ _)=>ps
 |_=>#[]
def SI:Option Code->Code
 |some (.rangeFunc _ _ a _)=>a
 |_=> .skip
def SH:Option Code->Code
 |some (.rangeFunc _ _ _ b)=>b
 |_=> .skip
noncomputable def Jr3:Code:=SI (VS (U7 Tryz.f79) 0)
noncomputable def Jo0:Code:=SH (VS (U7 Tryz.f79) 0)
section
variable (f:Nat->List AV)(er:Int)(N:Nat)(U O:Nat->Int)(m:Nat->Nat)(r v:Nat->Nat->Int)
def oD(k:Nat):St:={σ:=H4 [] (Jn4 f er N U O m r v).σ,m:=[(901,.row 241 2 (k) (plF m N)),(6,.cells 178 [.ptr 5 0]),(5,.cells 236 [.lst 2 3 f,i er,bds N U O m r v,.row 901,.mp 3]),(3,.memo (λ_=>False) (λx=>x)),(0,.cells 59 [.lst 2 3 f,i er,bds N U O m r v])],nx:=902}
def nJ(k:Nat):G7->Option St
 | .normal=>some {σ:=H4 [] (Jn4 f er N U O m r v).σ,m:=[(901,.row 241 2 ((HC m N)) (plF m N)),(6,.cells 178 [.ptr 5 0]),(5,.cells 236 [.lst 2 3 f,i er,bds N U O m r v,.row 901,.mp 3]),(3,.memo (λ_=>False) (λx=>x)),(0,.cells 59 [.lst 2 3 f,i er,bds N U O m r v])],nx:=902}
 |_=>none
def T_wr:CT:= .leaf (.normal,oD f er N U O m r v (HC m N))
def Xt5:UI:=GK [(.cell 5 3,901,241,2)] (HG (oD f er N U O m r v (0)) (T_wr f er N U O m r v))
abbrev WG:Prop:=AV.row 901=AV.row 901
abbrev ZL:Prop:=ptr 5 0=ptr 5 0
abbrev YP:Prop:=ptr 6 0=ptr 6 0
abbrev YU:Ext:={R:=[(125,IW)],H:=[] }
theorem Zt2(VR:N<=1000)(UE: ∀b,b<N->m b<=1000):HP VO (.rangeFunc (rfF (VS (U7 Tryz.f79) 0)) (jD (VS (U7 Tryz.f79) 0)) Jr3 Jo0) (Xt5 f er N U O m r v):=by
 refine P7 [(.cell 5 3,901,241,2)] (L:=[]) Aa (Ai (Af IF Ab) Ac) VY U3 (V:=Nat) (oD f er N U O m r v) (λk=>k<=(HC m N)) (λk=>k) (nJ f er N U O m r v) (x0:=0) VV rfl ?_ ?_ ?_ ?_ (g:=168) (caps:=[.ro [.lst 2 3 f,i er,bds N U O m r v]]) VT VT (l7 f er N U O m r v VR UE) (λ_=>rfl) ?_
 ·rintro k;kernel_rfl
 ·rintro k y E h;unfold nJ at h;split at h
  ·cases h;kernel_rfl
  ·cases h
 ·rintro k;rfl
 ·rintro k y E h;unfold nJ at h;split at h
  ·cases h;rfl
  ·cases h
 ·rintro Q hQ k hx;refine ⟨λhlt=>⟨(k+1),rfl,?_⟩,λPI=>?_⟩
  ·(with_reducible refine DH (t:=need [(k+1)*16<=140737488355328,RT 1 (U4 2 [iI (↑(Prod.fst (GD m N k)):Int),iI (↑(Prod.snd (GD m N k)):Int)])] (need [VZ (agg [WE f,iI er,Q1 N U O m r v]),QO,QE=QE,YP,VZ (AV.fn (Fn.func 168) [] [AV.ro [WE f,iI er,Q1 N U O m r v]]),k+1=k+1,GU (k+1) (GE k (plF m N) (U4 2 [iI (↑(Prod.fst (GD m N k)):Int),iI (↑(Prod.snd (GD m N k)):Int)])) (plF m N),ZL,WE f=WE f,er=er,WS N U O m r v,WG,VZ (AV.mp 3),∀(k:Value),False->False/\k=k,WE f=WE f,er=er,WS N U O m r v] (leaf G7.normal))) VT ?_);have hb:=T7 m N UE;have hb2:=BB 1000 VR;simp only [VM.sat,UB,UH]
   (with_reducible repeat' first|apply Al|intro _)
   all_goals first|exact Ak|rfl|omega|exact FG (by assumption) (by simp [AV.one,Value.oneCell'])|exact Zn0 rfl rfl (by assumption)|contradiction
  ·subst PI;exact hQ
end
abbrev Q2(m:Nat->Nat)(N:Nat):AV:=lst 2 (HC m N) λq=>[iI (↑(Prod.fst (GD m N q)):Int),iI (↑(Prod.snd (GD m N q)):Int)]
theorem Wr3(f:Nat->List AV)(er:Int)(N:Nat)(U O:Nat->Int)(m:Nat->Nat)(r v:Nat->Nat->Int)(VR:N<=1000)(UE: ∀b,b<N->m b<=1000):FN VO 79 [.agg [.lst 2 3 f,i er,bds N U O m r v]] (.ro [.lst 2 3 f,i er,bds N U O m r v,.lst 2 (HC m N) (plF m N),.top]):=by
 refine D1 (L:=[Xt5 f er N U O m r v]) Aa (Ai (Af IF Ab) Ac) VY Tryz.func79 (UT Tryz.f79) (G0 (lpE (b:= .rangeFunc (rfF (VS (U7 Tryz.f79) 0)) (jD (VS (U7 Tryz.f79) 0)) Jr3 Jo0) VT<|Zt2 f er N U O m r v VR UE)) (t:=need [VZ (agg [WE f,iI er,Q1 N U O m r v]),QO,QE=QE,YP,VZ (AV.fn (Fn.func 168) [] [AV.ro [WE f,iI er,Q1 N U O m r v]]),0=0,GU 0 (λi=>[]) (plF m N),ZL,WE f=WE f,er=er,WS N U O m r v,WG,VZ (AV.mp 3),∀(k:Value),False->False/\k=k,WE f=WE f,er=er,WS N U O m r v] (leaf (AV.ro [WE f,iI er,Q1 N U O m r v,Q2 m N,top]))) VT ?_
 simp only [VM.sat,UB,G4,GJ,UD,VL,UH,HA,FY];all_goals exact V6
noncomputable def Qh3:HX:=dG Tryz.prog [(128,kG)] {} [] Tryz.f126 (U7 Tryz.f126)
theorem RK:GB VO 126 Qh3:=
 FW (G:=[(128,kG)]) (X:=WA) (L:=[]) (Ae FZ Aa) Ad VY (UG Tryz.func126) Tryz.func126 (UT Tryz.f126) U3
def UZ(M:Nat->Nat->Int)(k:Nat):Int:=M (k / 13) (k%13)
def LS(k j:Nat):Nat->Nat->Int:=λx y=>if ((x<k/\y<=12)\/(x=k/\y<j))/\x≠y then 8000 else 0
def spn(M:Nat->Nat->Int)(a b:Nat)(U O:Int):Nat->Nat->Int:=bnd (bnd M a b O) b a (-U)
def ofM:Nat->Nat->Nat->Int
 | 0=>LS 13 0
 |k+1=>spn (ofM k) 0 (1+k) (-oH k) (-oL k)
def btM(U O:Nat->Int):Nat->Nat->Nat->Int
 | 0=>ofM 3
 |k+1=>spn (btM U O k) 0 (7+k) (U k) (O k)
def rdM1(N:Nat)(m:Nat->Nat)(r v:Nat->Nat->Int)(M:Nat->Nat->Int)(q:Nat):Nat->Nat->Int:=
 spn M (1+(r (GD m N q).1 (GD m N q).2).toNat) (7+(GD m N q).1) (v (GD m N q).1 (GD m N q).2-1) (v (GD m N q).1 (GD m N q).2+1)
def rE(N:Nat)(U O:Nat->Int)(m:Nat->Nat)(r v:Nat->Nat->Int):Nat->Nat->Nat->Int
 | 0=>btM U O N
 |q+1=>rdM1 N m r v (rE N U O m r v q) q
def bOK(N:Nat)(U O:Nat->Int)(m:Nat->Nat)(r v:Nat->Nat->Int):Prop:=N<=6/\ ∀b,b<N->m b<=10/\0<=U b/\U b<=O b/\O b<=1000/\ ∀j,j<m b->0<=r b j/\r b j<=2/\ -1000<=v b j/\v b j<=2000
theorem Xi0: ∀k,U8 (List.replicate 169 0) k=UZ (LS 0 0) k:=by
 intro k;rw [gM (by decide)]
 simp [UZ,LS]
theorem kY(M:Nat->Nat->Int){a b q:Nat}(hq:q=a*13+b)(hb:b<13):UZ M q=M a b:=by
 unfold UZ;rw [show q / 13=a by omega,show q%13=b by omega]
theorem dO{M M':Nat->Nat->Int}(h: ∀x y,x<13->y<13->M x y=M' x y){k:Nat}(hk:k<169):UZ M k=UZ M' k:=h _ _ VJ VJ
theorem Qb2(M:Nat->Nat->Int){a b q:Nat}(hq:q=a*13+b)(hb:b<13)(v:Int):UR q v (UZ M)=UZ (wS M a b v):=by
 funext k;unfold UR UZ wS;by_cases hk:k=q
 ·rw [if_pos hk,if_pos VJ]
 ·rw [if_neg hk,if_neg VJ]
theorem zJ{M:Nat->Nat->Int}{a b q:Nat}{v:Int}(hq:q=a*13+b)(hb:b<13):UR q (min (UZ M q) v) (UZ M)=UZ (bnd M a b v):=by
 rw [kY M hq hb,Qb2 M hq hb];rfl
theorem Qm3(k j:Nat)(hj:j<=12)(h:k≠j)(x y:Nat):wS (LS k j) k j 8000 x y=LS k (j+1) x y:=by
 unfold wS LS;split
 ·rename_i hxy;rw [if_pos ⟨.inr VJ,VJ⟩]
 ·rename_i hxy;by_cases h1:((x<k/\y<=12)\/(x=k/\y<j))/\x≠y
  ·rw [if_pos h1,if_pos VJ]
  ·rw [if_neg h1,if_neg VJ]
theorem Qm4(k:Nat)(x y:Nat):LS k k x y=LS k (k+1) x y:=by
 unfold LS;by_cases h1:((x<k/\y<=12)\/(x=k/\y<k))/\x≠y
 ·rw [if_pos h1,if_pos VJ]
 ·rw [if_neg h1,if_neg VJ]
theorem Wj2(k:Nat)(x y:Nat):LS k 13 x y=LS (k+1) 0 x y:=by
 unfold LS;by_cases h1:((x<k/\y<=12)\/(x=k/\y<13))/\x≠y
 ·rw [if_pos h1,if_pos VJ]
 ·rw [if_neg h1,if_neg VJ]
abbrev QD:List AV:=[AV.x (.int IntKind.u64 (0:Int))]
abbrev QL:List Int:=([(0:Int)]++aY 168)
abbrev KW:GN:=GN.cells 183 QD
section
variable (N:Nat)(U O:Nat->Int)(m:Nat->Nat)(r v:Nat->Nat->Int)
def Zr6:St:={σ:=[AV.ro [lst 2 3 λk=>[iI (oL k),iI (oH k)],iI 1,Q1 N U O m r v,Q2 m N,top],agg QD,top,ptr 0 0,QE,AV.lit false,ptr 4 0]++HH 184 [],m:=[(4,GN.ints 244 [] 169 λa=>U8 QL a),(0,KW)],nx:=7}
noncomputable def Zs7:Code:=U9 (VS (U7 Tryz.f80) 0)
def Wi3(k:Nat):St:=(upE [(22,i k)] [(4,.ints 244 [] 169 (UZ (LS k 0))),(0,.cells 183 [.x (.int .u64 0)])] (Zr6 N U O m r v))
def CU(k:Nat):G7->Option St
 | .exit 0=>some (upE [(22,i 13)] [(4,.ints 244 [] 169 (UZ (LS 13 0))),(0,.cells 183 [.x (.int .u64 0)])] (Zr6 N U O m r v))
 |_=>none
def Jm6:CT:= .leaf (.exit 0,(CU N U O m r v 0 (.exit 0)).getD (Zr6 N U O m r v))
def Xx3:UI:=GK [] (HG (Wi3 N U O m r v (0)) (Jm6 N U O m r v))
def Zr5(k:Nat):St:={σ:=[AV.ro [lst 2 3 λk=>[iI (oL k),iI (oH k)],iI 1,Q1 N U O m r v,Q2 m N,top],agg QD,top,ptr 0 0,QE,AV.lit false,ptr 4 0,iI (k:Int)]++HH 14 [iI (k:Int)]++HH 168 [],m:=[(4,GN.ints 244 [] 169 λk_1=>UZ (LS k 0) k_1),(0,KW)],nx:=11}
noncomputable def Jq7:Code:=(U9 (VS (U9 (VS (U7 Tryz.f80) 0)) 0))
def Wi2(k:Nat)(j:Nat):St:=(upE [(25,i j)] [(4,.ints 244 [] 169 (UZ (LS k j))),(0,.cells 183 [.x (.int .u64 0)])] (Zr5 N U O m r v k))
def CS(k:Nat)(j:Nat):G7->Option St
 | .exit 2=>some (upE [(25,i 13)] [(4,.ints 244 [] 169 (UZ (LS k 13))),(0,.cells 183 [.x (.int .u64 0)])] (Zr5 N U O m r v k))
 |_=>none
def Jm5(k:Nat):CT:= .leaf (.exit 2,(CS N U O m r v k 0 (.exit 2)).getD (Zr5 N U O m r v k))
def Xx2(k:Nat):UI:=GK [] (HG (Wi2 N U O m r v k (0)) (Jm5 N U O m r v k))
abbrev QT:Prop:=(0:Int)=0
abbrev W5:Prop:=ptr 4 0=ptr 4 0
abbrev WJ:List (Nat×UW):=[(54,aJ),(127,aK),(128,kG)]
abbrev WK:Prop:=AV.lit false=AV.lit false
noncomputable abbrev X1:Ext:={R:=[],H:=[(126,Qh3)] }
theorem Jh0(k:Nat)(VR:k<=12):G8 VO (.loop Jq7) (Xx2 N U O m r v k):=by
 refine UV [] (L:=[]) (Ae RH (Ae LT (Ae FZ Aa))) (Ai Ab (Ag RK Ac)) VY U3 (X:=Nat) (Wi2 N U O m r v k) (λj=>j<=13) (λj=>13-j) (CS N U O m r v k) (x0:=0) VV ?_ ?_ ?_
 ·rintro j;kernel_rfl
 ·rintro j y E h;unfold CS at h;split at h
  ·cases h;kernel_rfl
  ·cases h
 ·rintro Q hQ j hx;refine ⟨(j+1),?_⟩;(with_reducible refine DH (t:=let z0:=(VZ (AV.ro [lst 2 3 λk=>[iI (oL k),iI (oH k)],iI 1,Q1 N U O m r v,Q2 m N,top]));(branch (decide ((j:Int)<13)) (branch ((k:Int) != (j:Int)) (need [UJ k 13] (need [UJ j 13] (need [j*1+(k*13+0)+1<=169] (need [VL ((j:Int)+1)] (need [z0,VZ (agg QD),QO,QE=QE,WK,W5,VZ (k:Int),VZ (k:Int),(j:Int)+1=(↑(j+1):Int),169=169,GU 169 (UR (j*1+(k*13+0)) (8000:Int) (UZ (LS k j))) (UZ (LS k (j+1))),QT] (leaf G7.normal)))))) (need [VL ((j:Int)+1)] (need [z0,VZ (agg QD),QO,QE=QE,WK,W5,VZ (k:Int),VZ (k:Int),(j:Int)+1=(↑(j+1):Int),169=169,GU 169 (UZ (LS k j)) (UZ (LS k (j+1))),QT] (leaf G7.normal)))) (need [z0,VZ (agg QD),QO,QE=QE,WK,W5,VZ (k:Int),VZ (k:Int),(j:Int)=13,169=169,GU 169 (UZ (LS k j)) (UZ (LS k 13)),QT] (leaf (G7.exit 2))))) VT ?_)
  simp only [Jm5,CS,VM.sat,GT] at hQ;simp only [VM.sat,UB,G4,GJ,UD,VL,UH,HA,FY,RA,RW,GL,CS]
  refine ⟨λh=>⟨λhne=>?_,λheq=>?_⟩,λh=>?_⟩
  ·have h3: ∀M w,UR (j*1+(k*13+0)) w (UZ M)=UZ (wS M k j w):=λM w=>Qb2 M VJ VJ w
   simp only [h3]
   (with_reducible repeat' first|apply Al|intro _)
   all_goals first|exact P3|(exact dO (λx y _ _=>Qm3 k j VJ VJ x y) (by assumption))
  ·obtain rfl:k=j:=VJ
   (with_reducible repeat' first|apply Al|intro _)
   all_goals first|exact P3|(exact dO (λx y _ _=>Qm4 k x y) (by assumption))
  ·obtain rfl:j=13:=VJ;exact YZ
theorem Jh1:G8 VO (.loop Zs7) (Xx3 N U O m r v):=by
 refine UV [] (L:=[B4 22 (λk=>FO [k<=12] (Xx2 N U O m r v k))]) (Ae RH (Ae LT (Ae FZ Aa))) (Ai Ab (Ag RK Ac)) VY (G0 (λcj hcj=>by
  have e:VS Zs7 0=some (.loop Jq7):=VT;rw [e] at hcj;cases hcj;exact L2 (λk=>D2 (λh=>Jh0 N U O m r v k h)))) (X:=Nat) (Wi3 N U O m r v) (λk=>k<=13) (λk=>13-k) (CU N U O m r v) (x0:=0) VV ?_ ?_ ?_
 ·rintro k;kernel_rfl
 ·rintro k y E h;unfold CU at h;split at h
  ·cases h;kernel_rfl
  ·cases h
 ·rintro Q hQ k hx;refine ⟨(k+1),?_⟩;(with_reducible refine DH (t:=let z0:=(VZ (AV.ro [lst 2 3 λk=>[iI (oL k),iI (oH k)],iI 1,Q1 N U O m r v,Q2 m N,top]));(branch (decide ((k:Int)<13)) (need [k<=12] (need [z0,VZ (agg QD),QO,QE=QE,WK,W5,VZ (k:Int),VZ (k:Int),(0:Int)=(↑(0:Nat):Int),169=169,GO 169 (UZ (LS k 0)),QT] (need [VL ((k:Int)+1)] (need [z0,VZ (agg QD),QO,QE=QE,WK,W5,(k:Int)+1=(↑(k+1):Int),169=169,GU 169 (UZ (LS k 13)) (UZ (LS (k+1) 0)),QT] (leaf G7.normal))))) (need [z0,VZ (agg QD),QO,QE=QE,WK,W5,(k:Int)=13,169=169,GU 169 (UZ (LS k 0)) (UZ (LS 13 0)),QT] (leaf (G7.exit 0))))) VT ?_)
  simp only [Jm6,CU,VM.sat,GT] at hQ;simp only [VM.sat,UB,G4,GJ,UD,VL,UH,HA,FY,RA,RW,GL,CU]
  refine ⟨λh=>?_,λh=>?_⟩
  ·(with_reducible repeat' first|apply Al|intro _)
   all_goals first|exact P3|(exact dO (λx y _ _=>Wj2 k x y) (by assumption))
  ·obtain rfl:k=13:=VJ;exact YZ
def Zr4:St:={σ:=[AV.ro [lst 2 3 λk=>[iI (oL k),iI (oH k)],iI 1,Q1 N U O m r v,Q2 m N,top],agg QD,top,ptr 0 0,QE,AV.lit false,ptr 4 0]++HH 15 [iI 13]++HH 20 [lst 2 3 λk=>[iI (oL k),iI (oH k)],iI (↑(3:Nat):Int)]++HH 146 [],m:=[(4,GN.ints 244 [] 169 λk=>UZ (LS 13 0) k),(0,KW)],nx:=14}
noncomputable def Jq6:Code:=U9 (VS (U7 Tryz.f80) 1)
def Wi1(k:Nat):St:=(upE [(45,i k)] [(4,.ints 244 [] 169 (UZ (ofM k))),(0,.cells 183 [.x (.int .u64 0)])] (Zr4 N U O m r v))
def CR(k:Nat):G7->Option St
 | .exit 4=>some (upE [(45,i 3)] [(4,.ints 244 [] 169 (UZ (ofM 3))),(0,.cells 183 [.x (.int .u64 0)])] (Zr4 N U O m r v))
 |_=>none
def Jm4:CT:= .leaf (.exit 4,(CR N U O m r v 0 (.exit 4)).getD (Zr4 N U O m r v))
def Xx1:UI:=GK [] (HG (Wi1 N U O m r v (0)) (Jm4 N U O m r v))
abbrev XA:Prop:=(13:Int)=13
theorem Jg9:G8 VO (.loop Jq6) (Xx1 N U O m r v):=by
 refine UV [] (L:=[]) (Ae RH (Ae LT (Ae FZ Aa))) (Ai Ab (Ag RK Ac)) VY U3 (X:=Nat) (Wi1 N U O m r v) (λk=>k<=3) (λk=>3-k) (CR N U O m r v) (x0:=0) VV ?_ ?_ ?_
 ·rintro k;kernel_rfl
 ·rintro k y E h;unfold CR at h;split at h
  ·cases h;kernel_rfl
  ·cases h
 ·rintro Q hQ k hx;refine ⟨(k+1),?_⟩;(with_reducible refine DH (t:=let z1:=(UZ (ofM k) (((1:Int)+(k:Int)).toNat*1+0));let z0:=(UR (((1:Int)+(k:Int)).toNat*1+0) (min z1 (-oL k)) (UZ (ofM k)) (0+(((1:Int)+(k:Int)).toNat*13+0)));let z2:=(VZ (AV.ro [lst 2 3 λk=>[iI (oL k),iI (oH k)],iI 1,Q1 N U O m r v,Q2 m N,top]));(branch (decide ((k:Int)<(↑(3:Nat):Int))) (need [UJ k 3] (need [(0:Int)<=(k:Int)/\(k:Int)<=1000] (need [VL (-oH k)] (need [VL (-oL k)] (need [UJ 0 13] (need [(0:Int)<=1+(k:Int)/\(1:Int)+(k:Int)<(↑(13:Nat):Int)] (need [((1:Int)+(k:Int)).toNat*1+0<169] (need [UJ 0 13] (need [(0:Int)<=1+(k:Int)/\(1:Int)+(k:Int)<(↑(13:Nat):Int)] (need [((1:Int)+(k:Int)).toNat*1+0+List.length [min z1 (-oL k)]<=169] (need [(0:Int)<=1+(k:Int)/\(1:Int)+(k:Int)<(↑(13:Nat):Int)] (need [UJ 0 13] (need [0+(((1:Int)+(k:Int)).toNat*13+0)<169] (need [VL (- -oH k)] (need [(0:Int)<=1+(k:Int)/\(1:Int)+(k:Int)<(↑(13:Nat):Int)] (need [UJ 0 13] (need [0+(((1:Int)+(k:Int)).toNat*13+0)+List.length [min z0 (- -oH k)]<=169] (need [VL ((k:Int)+1)] (need [z2,VZ (agg QD),QO,QE=QE,WK,W5,XA,VZ (lst 2 3 λk=>[iI (oL k),iI (oH k)]),VZ (↑(3:Nat):Int),(k:Int)+1=(↑(k+1):Int),169=169,GU 169 (UR (0+(((1:Int)+(k:Int)).toNat*13+0)) (min z0 (- -oH k)) (zY (((1:Int)+(k:Int)).toNat*1+0) [min z1 (-oL k)] (UZ (ofM k)))) (UZ (ofM (k+1))),QT] (leaf G7.normal)))))))))))))))))))) (need [z2,VZ (agg QD),QO,QE=QE,WK,W5,XA,VZ (lst 2 3 λk=>[iI (oL k),iI (oH k)]),VZ (↑(3:Nat):Int),(k:Int)=3,169=169,GU 169 (UZ (ofM k)) (UZ (ofM 3)),QT] (leaf (G7.exit 4))))) VT ?_)
  simp only [Jm4,CR,VM.sat,GT] at hQ;simp only [VM.sat,UB,G4,GJ,UD,VL,UH,HA,FY,RA,RW,GL,CR]
  have hL: -9<=oL k/\oL k<=0:=by unfold oL;split<;>omega
  have hH:0<=oH k/\oH k<=9:=by unfold oH;split<;>omega
  refine ⟨λh=>?_,λh=>?_⟩
  ·have h1: ∀M w,UR ((1+(k:Int)).toNat*1+0) (min (UZ M ((1+(k:Int)).toNat*1+0)) w) (UZ M)=UZ (bnd M 0 (1+k) w):=λM w=>zJ VJ VJ
   have h2: ∀M w,UR (0+((1+(k:Int)).toNat*13+0)) (min (UZ M (0+((1+(k:Int)).toNat*13+0))) w) (UZ M)=UZ (bnd M (1+k) 0 w):=λM w=>zJ VJ VJ
   simp only [h1,h2];exact YZ
  ·obtain rfl:k=3:=VJ;exact YZ
def Zr3:St:={σ:=[AV.ro [lst 2 3 λk=>[iI (oL k),iI (oH k)],iI 1,Q1 N U O m r v,Q2 m N,top],agg QD,top,ptr 0 0,QE,AV.lit false,ptr 4 0]++HH 15 [iI 13]++HH 20 [lst 2 3 λk=>[iI (oL k),iI (oH k)],iI (↑(3:Nat):Int),iI 3]++HH 20 [Q1 N U O m r v,iI (N:Int)]++HH 123 [],m:=[(4,GN.ints 244 [] 169 λk=>UZ (ofM 3) k),(0,KW)],nx:=21}
noncomputable def Jq5:Code:=U9 (VS (U7 Tryz.f80) 2)
def Wi0(k:Nat):St:=(upE [(68,i k)] [(4,.ints 244 [] 169 (UZ (btM U O k))),(0,.cells 183 [.x (.int .u64 0)])] (Zr3 N U O m r v))
def CQ(k:Nat):G7->Option St
 | .exit 6=>some (upE [(68,i N)] [(4,.ints 244 [] 169 (UZ (btM U O N))),(0,.cells 183 [.x (.int .u64 0)])] (Zr3 N U O m r v))
 |_=>none
def Jm3:CT:= .leaf (.exit 6,(CQ N U O m r v 0 (.exit 6)).getD (Zr3 N U O m r v))
def Xx0:UI:=GK [] (HG (Wi0 N U O m r v (0)) (Jm3 N U O m r v))
abbrev XE:Prop:=(3:Int)=3
theorem Jg8(VR:bOK N U O m r v):G8 VO (.loop Jq5) (Xx0 N U O m r v):=by
 refine UV [] (L:=[]) (Ae RH (Ae LT (Ae FZ Aa))) (Ai Ab (Ag RK Ac)) VY U3 (X:=Nat) (Wi0 N U O m r v) (λk=>k<=N) (λk=>N-k) (CQ N U O m r v) (x0:=0) VV ?_ ?_ ?_
 ·rintro k;kernel_rfl
 ·rintro k y E h;unfold CQ at h;split at h
  ·cases h;kernel_rfl
  ·cases h
 ·rintro Q hQ k hx;refine ⟨(k+1),?_⟩;(with_reducible refine DH (t:=let z1:=(UZ (btM U O k) (((7:Int)+(k:Int)).toNat*1+0));let z0:=(UR (((7:Int)+(k:Int)).toNat*1+0) (min z1 (O k)) (UZ (btM U O k)) (0+(((7:Int)+(k:Int)).toNat*13+0)));let z2:=(VZ (AV.ro [lst 2 3 λk=>[iI (oL k),iI (oH k)],iI 1,Q1 N U O m r v,Q2 m N,top]));(branch (decide ((k:Int)<(N:Int))) (need [UJ k N] (need [(0:Int)<=(k:Int)/\(k:Int)<=1000] (need [UJ 0 13] (need [(0:Int)<=7+(k:Int)/\(7:Int)+(k:Int)<(↑(13:Nat):Int)] (need [((7:Int)+(k:Int)).toNat*1+0<169] (need [UJ 0 13] (need [(0:Int)<=7+(k:Int)/\(7:Int)+(k:Int)<(↑(13:Nat):Int)] (need [((7:Int)+(k:Int)).toNat*1+0+List.length [min z1 (O k)]<=169] (need [(0:Int)<=7+(k:Int)/\(7:Int)+(k:Int)<(↑(13:Nat):Int)] (need [UJ 0 13] (need [0+(((7:Int)+(k:Int)).toNat*13+0)<169] (need [VL (-U k)] (need [(0:Int)<=7+(k:Int)/\(7:Int)+(k:Int)<(↑(13:Nat):Int)] (need [UJ 0 13] (need [0+(((7:Int)+(k:Int)).toNat*13+0)+List.length [min z0 (-U k)]<=169] (need [VL ((k:Int)+1)] (need [z2,VZ (agg QD),QO,QE=QE,WK,W5,XA,VZ (lst 2 3 λk=>[iI (oL k),iI (oH k)]),VZ (↑(3:Nat):Int),XE,WS N U O m r v,VZ (N:Int),(k:Int)+1=(↑(k+1):Int),169=169,GU 169 (UR (0+(((7:Int)+(k:Int)).toNat*13+0)) (min z0 (-U k)) (zY (((7:Int)+(k:Int)).toNat*1+0) [min z1 (O k)] (UZ (btM U O k)))) (UZ (btM U O (k+1))),QT] (leaf G7.normal)))))))))))))))))) (need [z2,VZ (agg QD),QO,QE=QE,WK,W5,XA,VZ (lst 2 3 λk=>[iI (oL k),iI (oH k)]),VZ (↑(3:Nat):Int),XE,WS N U O m r v,VZ (N:Int),(k:Int)=(N:Int),169=169,GU 169 (UZ (btM U O k)) (UZ (btM U O N)),QT] (leaf (G7.exit 6))))) VT ?_)
  simp only [Jm3,CQ,VM.sat,GT] at hQ;simp only [VM.sat,UB,G4,GJ,UD,VL,UH,HA,FY,RA,RW,GL,CQ]
  have h6:=VR.1;refine ⟨λh=>?_,λh=>?_⟩
  ·obtain ⟨_,q1,q2,q3,_⟩:=VR.2 k VJ;have h1: ∀M w,UR ((7+(k:Int)).toNat*1+0) (min (UZ M ((7+(k:Int)).toNat*1+0)) w) (UZ M)=UZ (bnd M 0 (7+k) w):=λM w=>zJ VJ VJ
   have h2: ∀M w,UR (0+((7+(k:Int)).toNat*13+0)) (min (UZ M (0+((7+(k:Int)).toNat*13+0))) w) (UZ M)=UZ (bnd M (7+k) 0 w):=λM w=>zJ VJ VJ
   simp only [h1,h2];exact YZ
  ·obtain rfl:k=N:=VJ;exact YZ
def Zr2:St:={σ:=[AV.ro [lst 2 3 λk=>[iI (oL k),iI (oH k)],iI 1,Q1 N U O m r v,Q2 m N,top],agg QD,top,ptr 0 0,QE,AV.lit false,ptr 4 0]++HH 15 [iI 13]++HH 20 [lst 2 3 λk=>[iI (oL k),iI (oH k)],iI (↑(3:Nat):Int),iI 3]++HH 20 [Q1 N U O m r v,iI (N:Int),iI (N:Int)]++HH 14 [Q2 m N,iI (↑(HC m N):Int)]++HH 106 [],m:=[(4,GN.ints 244 [] 169 λk=>UZ (btM U O N) k),(0,KW)],nx:=27}
noncomputable def Jq4:Code:=U9 (VS (U7 Tryz.f80) 3)
def Wh9(k:Nat):St:=(upE [(85,i k)] [(4,.ints 244 [] 169 (UZ (rE N U O m r v k))),(0,.cells 183 [.x (.int .u64 0)])] (Zr2 N U O m r v))
def CP(k:Nat):G7->Option St
 | .exit 8=>some (upE [(85,i (HC m N))] [(4,.ints 244 [] 169 (UZ (rE N U O m r v (HC m N)))),(0,.cells 183 [.x (.int .u64 0)])] (Zr2 N U O m r v))
 |_=>none
def Jm2:CT:= .leaf (.exit 8,(CP N U O m r v 0 (.exit 8)).getD (Zr2 N U O m r v))
def Xw9:UI:=GK [] (HG (Wh9 N U O m r v (0)) (Jm2 N U O m r v))
theorem Jg7(VR:bOK N U O m r v):G8 VO (.loop Jq4) (Xw9 N U O m r v):=by
 refine UV [] (L:=[]) (Ae RH (Ae LT (Ae FZ Aa))) (Ai Ab (Ag RK Ac)) VY U3 (X:=Nat) (Wh9 N U O m r v) (λk=>k<=HC m N) (λk=>HC m N-k) (CP N U O m r v) (x0:=0) VV ?_ ?_ ?_
 ·rintro k;kernel_rfl
 ·rintro k y E h;unfold CP at h;split at h
  ·cases h;kernel_rfl
  ·cases h
 ·rintro Q hQ k hx;refine ⟨(k+1),?_⟩
  (with_reducible refine DH (t:=let z4:=rE N U O m r v k;let z1:=(UZ (z4) (((7:Int)+(↑(Prod.fst (GD m N k)):Int)).toNat*1+(((1:Int)+r (Prod.fst (GD m N k)) (Prod.snd (GD m N k))).toNat*13+0)));let z0:=(UR (((7:Int)+(↑(Prod.fst (GD m N k)):Int)).toNat*1+(((1:Int)+r (Prod.fst (GD m N k)) (Prod.snd (GD m N k))).toNat*13+0)) (min z1 (v (Prod.fst (GD m N k)) (Prod.snd (GD m N k))+1)) (UZ (z4)) (((1:Int)+r (Prod.fst (GD m N k)) (Prod.snd (GD m N k))).toNat*1+(((7:Int)+(↑(Prod.fst (GD m N k)):Int)).toNat*13+0)));let z2:=(VZ (AV.ro [lst 2 3 λk=>[iI (oL k),iI (oH k)],iI 1,Q1 N U O m r v,Q2 m N,top]));let z3:=(VZ (lst 2 3 λk=>[iI (oL k),iI (oH k)]));(branch (decide ((k:Int)<(↑(HC m N):Int))) (need [UJ k (↑(HC m N):Int)] (need [(0:Int)<=(k:Int)/\(k:Int)<=64] (branch (IntKind.wrap IntKind.u64 (↑(BitVec.toNat (BitVec.ofInt (IntKind.bits IntKind.u64) ((0:Int) / (2:Int)^k) &&& BitVec.ofInt (IntKind.bits IntKind.u64) (1:Int))):Int)==0) (need [UJ (↑(Prod.fst (GD m N k)):Int) N] (need [UJ (↑(Prod.snd (GD m N k)):Int) ((↑(m (Prod.fst (GD m N k))):Int))] (need [(0:Int)<=r (Prod.fst (GD m N k)) (Prod.snd (GD m N k))/\r (Prod.fst (GD m N k)) (Prod.snd (GD m N k))<=1000] (need [(0:Int)<=(↑(Prod.fst (GD m N k)):Int)/\(↑(Prod.fst (GD m N k)):Int)<=1000] (need [VL (v (Prod.fst (GD m N k)) (Prod.snd (GD m N k))-1)] (need [VL (v (Prod.fst (GD m N k)) (Prod.snd (GD m N k))+1)] (need [(0:Int)<=1+r (Prod.fst (GD m N k)) (Prod.snd (GD m N k))/\(1:Int)+r (Prod.fst (GD m N k)) (Prod.snd (GD m N k))<(↑(13:Nat):Int)] (need [(0:Int)<=7+(↑(Prod.fst (GD m N k)):Int)/\(7:Int)+(↑(Prod.fst (GD m N k)):Int)<(↑(13:Nat):Int)] (need [((7:Int)+(↑(Prod.fst (GD m N k)):Int)).toNat*1+(((1:Int)+r (Prod.fst (GD m N k)) (Prod.snd (GD m N k))).toNat*13+0)<169] (need [(0:Int)<=1+r (Prod.fst (GD m N k)) (Prod.snd (GD m N k))/\(1:Int)+r (Prod.fst (GD m N k)) (Prod.snd (GD m N k))<(↑(13:Nat):Int)] (need [(0:Int)<=7+(↑(Prod.fst (GD m N k)):Int)/\(7:Int)+(↑(Prod.fst (GD m N k)):Int)<(↑(13:Nat):Int)] (need [((7:Int)+(↑(Prod.fst (GD m N k)):Int)).toNat*1+(((1:Int)+r (Prod.fst (GD m N k)) (Prod.snd (GD m N k))).toNat*13+0)+List.length [min z1 (v (Prod.fst (GD m N k)) (Prod.snd (GD m N k))+1)]<=169] (need [(0:Int)<=7+(↑(Prod.fst (GD m N k)):Int)/\(7:Int)+(↑(Prod.fst (GD m N k)):Int)<(↑(13:Nat):Int)] (need [(0:Int)<=1+r (Prod.fst (GD m N k)) (Prod.snd (GD m N k))/\(1:Int)+r (Prod.fst (GD m N k)) (Prod.snd (GD m N k))<(↑(13:Nat):Int)] (need [((1:Int)+r (Prod.fst (GD m N k)) (Prod.snd (GD m N k))).toNat*1+(((7:Int)+(↑(Prod.fst (GD m N k)):Int)).toNat*13+0)<169] (need [VL (-(v (Prod.fst (GD m N k)) (Prod.snd (GD m N k))-1))] (need [(0:Int)<=7+(↑(Prod.fst (GD m N k)):Int)/\(7:Int)+(↑(Prod.fst (GD m N k)):Int)<(↑(13:Nat):Int)] (need [(0:Int)<=1+r (Prod.fst (GD m N k)) (Prod.snd (GD m N k))/\(1:Int)+r (Prod.fst (GD m N k)) (Prod.snd (GD m N k))<(↑(13:Nat):Int)] (need [((1:Int)+r (Prod.fst (GD m N k)) (Prod.snd (GD m N k))).toNat*1+(((7:Int)+(↑(Prod.fst (GD m N k)):Int)).toNat*13+0)+List.length [min z0 (-(v (Prod.fst (GD m N k)) (Prod.snd (GD m N k))-1))]<=169] (need [VL ((k:Int)+1)] (need [z2,VZ (agg QD),QO,QE=QE,WK,W5,XA,z3,VZ (↑(3:Nat):Int),XE,WS N U O m r v,VZ (N:Int),VZ (N:Int),VZ (Q2 m N),VZ (↑(HC m N):Int),(k:Int)+1=(↑(k+1):Int),169=169,GU 169 (UR (((1:Int)+r (Prod.fst (GD m N k)) (Prod.snd (GD m N k))).toNat*1+(((7:Int)+(↑(Prod.fst (GD m N k)):Int)).toNat*13+0)) (min z0 (-(v (Prod.fst (GD m N k)) (Prod.snd (GD m N k))-1))) (zY (((7:Int)+(↑(Prod.fst (GD m N k)):Int)).toNat*1+(((1:Int)+r (Prod.fst (GD m N k)) (Prod.snd (GD m N k))).toNat*13+0)) [min z1 (v (Prod.fst (GD m N k)) (Prod.snd (GD m N k))+1)] (UZ (z4)))) (UZ (rE N U O m r v (k+1))),QT] (leaf G7.normal)))))))))))))))))))))) (need [VL ((k:Int)+1)] (need [z2,VZ (agg QD),QO,QE=QE,WK,W5,XA,z3,VZ (↑(3:Nat):Int),XE,WS N U O m r v,VZ (N:Int),VZ (N:Int),VZ (Q2 m N),VZ (↑(HC m N):Int),(k:Int)+1=(↑(k+1):Int),169=169,GU 169 (UZ (z4)) (UZ (rE N U O m r v (k+1))),QT] (leaf G7.normal)))))) (need [z2,VZ (agg QD),QO,QE=QE,WK,W5,XA,z3,VZ (↑(3:Nat):Int),XE,WS N U O m r v,VZ (N:Int),VZ (N:Int),VZ (Q2 m N),VZ (↑(HC m N):Int),(k:Int)=(↑(HC m N):Int),169=169,GU 169 (UZ (z4)) (UZ (rE N U O m r v (HC m N))),QT] (leaf (G7.exit 8))))) VT ?_)
  simp only [Jm2,CP,VM.sat,GT] at hQ;simp only [VM.sat,UB,G4,GJ,UD,VL,UH,HA,FY,RA,RW,GL,CP]
  have h6:=VR.1;have hb:=T7 m (K:=10) N (λb hb=>(VR.2 b hb).1)
  have hz:(IntKind.u64.wrap ((BitVec.ofInt IntKind.u64.bits (0 / 2^k) &&& BitVec.ofInt IntKind.u64.bits 1).toNat:Int)==0)=true:=by
   rw [Int.zero_ediv];decide
  simp only [hz,true_imp_iff,Bool.true_eq_false,false_imp_iff,and_true];refine ⟨λh=>?_,λh=>?_⟩
  ·obtain ⟨hl1,hl2⟩:=TF m N k VJ;obtain ⟨_,_,_,_,q4⟩:=VR.2 _ hl1;obtain ⟨q5,q6,q7,q8⟩:=q4 _ hl2;have e1:((1+r (GD m N k).1 (GD m N k).2).toNat)=1+(r (GD m N k).1 (GD m N k).2).toNat:=VJ;have e2:((7+((GD m N k).1:Int)).toNat)=7+(GD m N k).1:=VJ;rw [e1,e2];have h1: ∀M w,UR ((7+(GD m N k).1)*1+((1+(r (GD m N k).1 (GD m N k).2).toNat)*13+0)) (min (UZ M ((7+(GD m N k).1)*1+((1+(r (GD m N k).1 (GD m N k).2).toNat)*13+0))) w) (UZ M)=UZ (bnd M (1+(r (GD m N k).1 (GD m N k).2).toNat) (7+(GD m N k).1) w):=λM w=>zJ VJ VJ
   have h2: ∀M w,UR ((1+(r (GD m N k).1 (GD m N k).2).toNat)*1+((7+(GD m N k).1)*13+0)) (min (UZ M ((1+(r (GD m N k).1 (GD m N k).2).toNat)*1+((7+(GD m N k).1)*13+0))) w) (UZ M)=UZ (bnd M (7+(GD m N k).1) (1+(r (GD m N k).1 (GD m N k).2).toNat) w):=λM w=>zJ VJ VJ
   simp only [h1,h2];exact YZ
  ·obtain rfl:k=HC m N:=VJ;exact YZ
end
def LB8(B:Int)(M:Nat->Nat->Int):Prop:= ∀x y,-B<=M x y/\M x y<=8000
def JB8(B:Int)(o f t:Nat)(M:Nat->Nat->Int):Prop:= ∀x y,M x y<=8000/\ -(6*B)<=M x y/\(x=o-> -(3*B)<=M x y)/\(y=o-> -(3*B)<=M x y)/\(x=o->y=o-> -(2*B)<=M x y)/\(¬(x<f\/(x=f/\y<t))-> -B<=M x y)
theorem Qr8{B:Int}{o:Nat}{M:Nat->Nat->Int}(hB:0<=B)(h:LB8 B M):JB8 B o 0 0 M:=by
 intro x y;have:=h x y;refine ⟨VJ,VJ,λ_=>VJ,λ_=>VJ,λ_ _=>VJ,λ_=>VJ⟩
theorem Wx8{B:Int}{o f t:Nat}{M:Nat->Nat->Int}(hB:0<=B)(h:JB8 B o f t M):JB8 B o f (t+1) (fwS M o f t):=by
 have hft:=h f t;have hfo:=h f o;have hot:=h o t;have hoo:=h o o;have I:=hft.2.2.2.2.2 VJ;intro x y;have hxy:=h x y;unfold fwS bnd wS;by_cases hc:x=f/\y=t
 ·exact V2
 ·rw [if_neg hc];exact ⟨hxy.1,hxy.2.1,hxy.2.2.1,hxy.2.2.2.1,hxy.2.2.2.2.1,λhv=>hxy.2.2.2.2.2 VJ⟩
theorem Wx9{B:Int}{o f:Nat}{M:Nat->Nat->Int}(hB:0<=B)(h:JB8 B o f 0 M): ∀t,JB8 B o f t (fwT M o f t)
 | 0=>h
 |t+1=>Wx8 hB (Wx9 hB h t)
theorem Xm5{B:Int}{o f t:Nat}{M:Nat->Nat->Int}(h:JB8 B o f t M):JB8 B o (f+1) 0 M:=by
 intro x y;have hxy:=h x y;exact ⟨hxy.1,hxy.2.1,hxy.2.2.1,hxy.2.2.2.1,hxy.2.2.2.2.1,λhv=>hxy.2.2.2.2.2 VJ⟩
theorem Wy0{B:Int}{c o:Nat}{M:Nat->Nat->Int}(hB:0<=B)(h:LB8 B M): ∀f,JB8 B o f 0 (fwF c M o f)
 | 0=>Qr8 hB h
 |f+1=>Xm5 (Wx9 hB (Wy0 hB h f) (c+1))
theorem Wx6{c:Nat}{M:Nat->Nat->Int}(h:LB8 8001 M): ∀o,LB8 (8001*6^o) (fwO c M o)
 | 0=>by
  rw [show (8001:Int)*6^0=8001 by decide]
  exact h
 |o+1=>by
  have ih:=Wx6 (c:=c) h o;have hp:(0:Int)<=8001*6^o:=Int.mul_nonneg VJ (Int.pow_nonneg VJ);have hj:=Wy0 (c:=c) (o:=o) hp ih (c+1);intro x y;have:=hj x y;have e:(8001:Int)*6^(o+1)=6*(8001*6^o):=by rw [Int.pow_succ];omega
  rw [e];exact ⟨this.2.1,this.1⟩
theorem Ja5: ∀o:Nat,o<=12->(6:Int)^o<=2176782336:=by
 intro o ho;rcases (show o=0\/o=1\/o=2\/o=3\/o=4\/o=5\/o=6\/o=7\/o=8\/o=9\/o=10\/o=11\/o=12 by omega) with rfl|rfl|rfl|rfl|rfl|rfl|rfl|rfl|rfl|rfl|rfl|rfl|rfl<;>decide
theorem Zl7{c:Nat}{M:Nat->Nat->Int}(h:LB8 8001 M){o f t:Nat}(ho:o<=12)(x y:Nat): -105000000000000<=fwT (fwF c (fwO c M o) o f) o f t x y/\fwT (fwF c (fwO c M o) o f) o f t x y<=8000:=by
 have ih:=Wx6 (c:=c) h o;have hp:(0:Int)<=8001*6^o:=Int.mul_nonneg VJ (Int.pow_nonneg VJ);have hj:=Wx9 hp (Wy0 (c:=c) (o:=o) hp ih f) t x y;have:=Ja5 o ho;omega
theorem y5{B:Int}{M:Nat->Nat->Int}(h:LB8 B M){a b:Nat}{v:Int}(hv: -B<=v):LB8 B (bnd M a b v):=by
 intro x y;have h1:=h a b;have h2:=h x y;unfold bnd wS;split<;>omega
theorem oLH(k:Nat):(-9<=oL k/\oL k<=0)/\0<=oH k/\oH k<=9:=by
 unfold oL oH;constructor<;>split<;>omega
theorem Wc3: ∀k,LB8 8001 (ofM k)
 | 0=>by
  intro x y;unfold ofM LS;split<;>omega
 |k+1=>by
  have h:=oLH k;exact y5 (y5 (Wc3 k) VJ) VJ
theorem Wr5{N:Nat}{U O:Nat->Int}{m:Nat->Nat}{r v:Nat->Nat->Int}(h:bOK N U O m r v): ∀k,k<=N->LB8 8001 (btM U O k)
 | 0,_=>Wc3 3
 |k+1,hk=>by
  have q:=h.2 k VJ;exact y5 (y5 (Wr5 h k VJ) VJ) VJ
theorem SN{N:Nat}{U O:Nat->Int}{m:Nat->Nat}{r v:Nat->Nat->Int}(h:bOK N U O m r v): ∀q,q<=HC m N->LB8 8001 (rE N U O m r v q)
 | 0,_=>Wr5 h N (Am _)
 |q+1,hq=>by
  obtain ⟨hl1,hl2⟩:=TF m N q VJ;have q4:=(h.2 _ hl1).2.2.2.2 _ hl2;exact y5 (y5 (SN h q VJ) VJ) VJ
section
variable (N:Nat)(U O:Nat->Int)(m:Nat->Nat)(r v:Nat->Nat->Int)
def r0M:Nat->Nat->Int:=rE N U O m r v (HC m N)
def PC:Nat->Nat->Int:=fwO 12 (r0M N U O m r v) 13
def xD:Bool:=D5 (λk=>decide (0<=PC N U O m r v k k)) 13
def Zr1:St:={σ:=[AV.ro [lst 2 3 λk=>[iI (oL k),iI (oH k)],iI 1,Q1 N U O m r v,Q2 m N,top],agg QD,top,ptr 0 0,QE,AV.lit false,ptr 4 0]++HH 15 [iI 13]++HH 20 [lst 2 3 λk=>[iI (oL k),iI (oH k)],iI (↑(3:Nat):Int),iI 3]++HH 20 [Q1 N U O m r v,iI (N:Int),iI (N:Int)]++HH 14 [Q2 m N,iI (↑(HC m N):Int),iI (↑(HC m N):Int)]++HH 105 [],m:=[(4,GN.ints 244 [] 169 λk=>UZ (rE N U O m r v (HC m N)) k),(0,KW)],nx:=28}
noncomputable def Zs6:Code:=U9 (VS (U7 Tryz.f80) 4)
def Wh8(o:Nat):St:=(upE [(136,i o)] [(4,.ints 244 [] 169 (UZ (fwO 12 (r0M N U O m r v) o))),(0,.cells 183 [.x (.int .u64 0)])] (Zr1 N U O m r v))
def CO(o:Nat):G7->Option St
 | .exit 10=>some (upE [(136,i 13)] [(4,.ints 244 [] 169 (UZ (fwO 12 (r0M N U O m r v) 13))),(0,.cells 183 [.x (.int .u64 0)])] (Zr1 N U O m r v))
 |_=>none
def Jm1:CT:= .leaf (.exit 10,(CO N U O m r v 0 (.exit 10)).getD (Zr1 N U O m r v))
def Xw8:UI:=GK [] (HG (Wh8 N U O m r v (0)) (Jm1 N U O m r v))
def Zr0(o:Nat):St:={σ:=[AV.ro [lst 2 3 λk=>[iI (oL k),iI (oH k)],iI 1,Q1 N U O m r v,Q2 m N,top],agg QD,top,ptr 0 0,QE,AV.lit false,ptr 4 0]++HH 9 [iI (o:Int)]++HH 5 [iI 13]++HH 20 [lst 2 3 λk=>[iI (oL k),iI (oH k)],iI (↑(3:Nat):Int),iI 3]++HH 20 [Q1 N U O m r v,iI (N:Int),iI (N:Int)]++HH 14 [Q2 m N,iI (↑(HC m N):Int),iI (↑(HC m N):Int)]++HH 50 [iI (o:Int)]++HH 54 [],m:=[(4,GN.ints 244 [] 169 λk=>UZ (fwO 12 (r0M N U O m r v) o) k),(0,KW)],nx:=32}
noncomputable def Zs5:Code:=(U9 (VS (U9 (VS (U7 Tryz.f80) 4)) 0))
def Wh7(o:Nat)(f:Nat):St:=(upE [(139,i f)] [(4,.ints 244 [] 169 (UZ (fwF 12 (fwO 12 (r0M N U O m r v) o) o f))),(0,.cells 183 [.x (.int .u64 0)])] (Zr0 N U O m r v o))
def CN(o:Nat)(f:Nat):G7->Option St
 | .exit 12=>some (upE [(139,i 13)] [(4,.ints 244 [] 169 (UZ (fwF 12 (fwO 12 (r0M N U O m r v) o) o 13))),(0,.cells 183 [.x (.int .u64 0)])] (Zr0 N U O m r v o))
 |_=>none
def Jm0(o:Nat):CT:= .leaf (.exit 12,(CN N U O m r v o 0 (.exit 12)).getD (Zr0 N U O m r v o))
def Xw7(o:Nat):UI:=GK [] (HG (Wh7 N U O m r v o (0)) (Jm0 N U O m r v o))
def Zq9(o:Nat)(f:Nat):St:={σ:=[AV.ro [lst 2 3 λk=>[iI (oL k),iI (oH k)],iI 1,Q1 N U O m r v,Q2 m N,top],agg QD,top,ptr 0 0,QE,AV.lit false,ptr 4 0]++HH 9 [iI (o:Int),iI (f:Int),top,top,top,top,iI 13]++HH 20 [lst 2 3 λk=>[iI (oL k),iI (oH k)],iI (↑(3:Nat):Int),iI 3]++HH 20 [Q1 N U O m r v,iI (N:Int),iI (N:Int)]++HH 14 [Q2 m N,iI (↑(HC m N):Int),iI (↑(HC m N):Int)]++HH 50 [iI (o:Int),top,top,iI (f:Int)]++HH 51 [],m:=[(4,GN.ints 244 [] 169 λk=>UZ (fwF 12 (fwO 12 (r0M N U O m r v) o) o f) k),(0,KW)],nx:=36}
noncomputable def Jq3:Code:=(U9 (VS (U9 (VS (U9 (VS (U7 Tryz.f80) 4)) 0)) 0))
def Wh6(o:Nat)(f:Nat)(t:Nat):St:=(upE [(142,i t)] [(4,.ints 244 [] 169 (UZ (fwT (fwF 12 (fwO 12 (r0M N U O m r v) o) o f) o f t))),(0,.cells 183 [.x (.int .u64 0)])] (Zq9 N U O m r v o f))
def CM(o:Nat)(f:Nat)(t:Nat):G7->Option St
 | .exit 14=>some (upE [(142,i 13)] [(4,.ints 244 [] 169 (UZ (fwT (fwF 12 (fwO 12 (r0M N U O m r v) o) o f) o f 13))),(0,.cells 183 [.x (.int .u64 0)])] (Zq9 N U O m r v o f))
 |_=>none
def Jl9(o:Nat)(f:Nat):CT:= .leaf (.exit 14,(CM N U O m r v o f 0 (.exit 14)).getD (Zq9 N U O m r v o f))
def Xw6(o:Nat)(f:Nat):UI:=GK [] (HG (Wh6 N U O m r v o f (0)) (Jl9 N U O m r v o f))
theorem Jg4(o:Nat)(f:Nat)(VR:bOK N U O m r v)(UE:o<=12)(HQ:f<=12):G8 VO (.loop Jq3) (Xw6 N U O m r v o f):=by
 refine UV [] (L:=[]) (Ae RH (Ae LT (Ae FZ Aa))) (Ai Ab (Ag RK Ac)) VY U3 (X:=Nat) (Wh6 N U O m r v o f) (λt=>t<=13) (λt=>13-t) (CM N U O m r v o f) (x0:=0) VV ?_ ?_ ?_
 ·rintro t;kernel_rfl
 ·rintro t y E h;unfold CM at h;split at h
  ·cases h;kernel_rfl
  ·cases h
 ·rintro Q hQ t hx;refine ⟨(t+1),?_⟩;(with_reducible refine DH (t:=let z2:=(fwF 12 (fwO 12 (r0M N U O m r v) o) o f);let z0:=(fwT z2 o f t);let z1:=(VZ (AV.ro [lst 2 3 λk=>[iI (oL k),iI (oH k)],iI 1,Q1 N U O m r v,Q2 m N,top]));let z3:=(VZ (↑(HC m N):Int));(branch (decide ((t:Int)<13)) (need [UJ f 13] (need [UJ t 13] (need [t*1+(f*13+0)<169] (need [UJ f 13] (need [UJ o 13] (need [o*1+(f*13+0)<169] (need [UJ o 13] (need [UJ t 13] (need [t*1+(o*13+0)<169] (need [VL (UZ z0 (o*1+(f*13+0))+UZ z0 (t*1+(o*13+0)))] (need [UJ f 13] (need [UJ t 13] (need [t*1+(f*13+0)+List.length [min (UZ z0 (t*1+(f*13+0))) (UZ z0 (o*1+(f*13+0))+UZ z0 (t*1+(o*13+0)))]<=169] (need [VL ((t:Int)+1)] (need [z1,VZ (agg QD),QO,QE=QE,WK,W5,VZ (o:Int),VZ (f:Int),XA,VZ (lst 2 3 λk=>[iI (oL k),iI (oH k)]),VZ (↑(3:Nat):Int),XE,WS N U O m r v,VZ (N:Int),VZ (N:Int),VZ (Q2 m N),z3,z3,VZ (o:Int),VZ (f:Int),(t:Int)+1=(↑(t+1):Int),169=169,GU 169 (UR (t*1+(f*13+0)) (min (UZ z0 (t*1+(f*13+0))) (UZ z0 (o*1+(f*13+0))+UZ z0 (t*1+(o*13+0)))) (UZ z0)) (UZ (fwT z2 o f (t+1))),QT] (leaf G7.normal)))))))))))))))) (need [z1,VZ (agg QD),QO,QE=QE,WK,W5,VZ (o:Int),VZ (f:Int),XA,VZ (lst 2 3 λk=>[iI (oL k),iI (oH k)]),VZ (↑(3:Nat):Int),XE,WS N U O m r v,VZ (N:Int),VZ (N:Int),VZ (Q2 m N),z3,z3,VZ (o:Int),VZ (f:Int),(t:Int)=13,169=169,GU 169 (UZ z0) (UZ (fwT z2 o f 13)),QT] (leaf (G7.exit 14))))) VT ?_)
  simp only [Jl9,CM,VM.sat,GT] at hQ;simp only [VM.sat,UB,G4,GJ,UD,VL,UH,HA,FY,RA,RW,GL,CM]
  have hl:=λx y=>Zl7 (c:=12) (SN VR (HC m N) (Am _)) (o:=o) (f:=f) (t:=t) VJ x y
  have hfo:=hl f o;have hot:=hl o t;refine ⟨λh=>?_,λh=>?_⟩
  ·have h1: ∀M,UZ M (o*1+(f*13+0))=M f o:=λM=>kY _ VJ VJ
   have h2: ∀M,UZ M (t*1+(o*13+0))=M o t:=λM=>kY _ VJ VJ
   have h3: ∀M w,UR (t*1+(f*13+0)) (min (UZ M (t*1+(f*13+0))) w) (UZ M)=UZ (bnd M f t w):=λM w=>zJ VJ VJ
   simp only [h3];simp only [h1,h2];unfold r0M;exact YZ
  ·obtain rfl:t=13:=VJ;exact YZ
theorem Jg5(o:Nat)(VR:bOK N U O m r v)(UE:o<=12):G8 VO (.loop Zs5) (Xw7 N U O m r v o):=by
 refine UV [] (L:=[B4 17 (λk=>FO [k<=12] (Xw6 N U O m r v o k))]) (Ae RH (Ae LT (Ae FZ Aa))) (Ai Ab (Ag RK Ac)) VY (G0 (λcj hcj=>by
  have e:VS Zs5 0=some (.loop Jq3):=VT;rw [e] at hcj;cases hcj;exact L2 (λk=>D2 (λh=>Jg4 N U O m r v o k VR UE h)))) (X:=Nat) (Wh7 N U O m r v o) (λf=>f<=13) (λf=>13-f) (CN N U O m r v o) (x0:=0) VV ?_ ?_ ?_
 ·rintro f;kernel_rfl
 ·rintro f y E h;unfold CN at h;split at h
  ·cases h;kernel_rfl
  ·cases h
 ·rintro Q hQ f hx;refine ⟨(f+1),?_⟩;(with_reducible refine DH (t:=let z0:=(VZ (AV.ro [lst 2 3 λk=>[iI (oL k),iI (oH k)],iI 1,Q1 N U O m r v,Q2 m N,top]));let z1:=(fwO 12 (r0M N U O m r v) o);let z2:=(VZ (↑(HC m N):Int));let z3:=(VZ (lst 2 3 λk=>[iI (oL k),iI (oH k)]));(branch (decide ((f:Int)<13)) (need [f<=12] (need [z0,VZ (agg QD),QO,QE=QE,WK,W5,VZ (o:Int),VZ (f:Int),XA,z3,VZ (↑(3:Nat):Int),XE,WS N U O m r v,VZ (N:Int),VZ (N:Int),VZ (Q2 m N),z2,z2,VZ (o:Int),VZ (f:Int),(0:Int)=(↑(0:Nat):Int),169=169,GU 169 (UZ (fwF 12 z1 o f)) (UZ (fwT (fwF 12 z1 o f) o f 0)),QT] (need [VL ((f:Int)+1)] (need [z0,VZ (agg QD),QO,QE=QE,WK,W5,VZ (o:Int),XA,z3,VZ (↑(3:Nat):Int),XE,WS N U O m r v,VZ (N:Int),VZ (N:Int),VZ (Q2 m N),z2,z2,VZ (o:Int),(f:Int)+1=(↑(f+1):Int),169=169,GU 169 (UZ (fwT (fwF 12 z1 o f) o f 13)) (UZ (fwF 12 z1 o (f+1))),QT] (leaf G7.normal))))) (need [z0,VZ (agg QD),QO,QE=QE,WK,W5,VZ (o:Int),XA,z3,VZ (↑(3:Nat):Int),XE,WS N U O m r v,VZ (N:Int),VZ (N:Int),VZ (Q2 m N),z2,z2,VZ (o:Int),(f:Int)=13,169=169,GU 169 (UZ (fwF 12 z1 o f)) (UZ (fwF 12 z1 o 13)),QT] (leaf (G7.exit 12))))) VT ?_)
  simp only [Jm0,CN,VM.sat,GT] at hQ;simp only [VM.sat,UB,G4,GJ,UD,VL,UH,HA,FY,RA,RW,GL,CN]
  refine ⟨λh=>?_,λh=>?_⟩
  ·exact YZ
  ·obtain rfl:f=13:=VJ;exact YZ
theorem Jg6(VR:bOK N U O m r v):G8 VO (.loop Zs6) (Xw8 N U O m r v):=by
 refine UV [] (L:=[B4 16 (λk=>FO [k<=12] (Xw7 N U O m r v k))]) (Ae RH (Ae LT (Ae FZ Aa))) (Ai Ab (Ag RK Ac)) VY (G0 (λcj hcj=>by
  have e:VS Zs6 0=some (.loop Zs5):=VT;rw [e] at hcj;cases hcj;exact L2 (λk=>D2 (λh=>Jg5 N U O m r v k VR h)))) (X:=Nat) (Wh8 N U O m r v) (λo=>o<=13) (λo=>13-o) (CO N U O m r v) (x0:=0) VV ?_ ?_ ?_
 ·rintro o;kernel_rfl
 ·rintro o y E h;unfold CO at h;split at h
  ·cases h;kernel_rfl
  ·cases h
 ·rintro Q hQ o hx;refine ⟨(o+1),?_⟩;(with_reducible refine DH (t:=let z0:=(VZ (AV.ro [lst 2 3 λk=>[iI (oL k),iI (oH k)],iI 1,Q1 N U O m r v,Q2 m N,top]));let z1:=(VZ (↑(HC m N):Int));let z2:=(VZ (lst 2 3 λk=>[iI (oL k),iI (oH k)]));let z3:=(fwO 12 (r0M N U O m r v) o);(branch (decide ((o:Int)<13)) (need [o<=12] (need [z0,VZ (agg QD),QO,QE=QE,WK,W5,VZ (o:Int),XA,z2,VZ (↑(3:Nat):Int),XE,WS N U O m r v,VZ (N:Int),VZ (N:Int),VZ (Q2 m N),z1,z1,VZ (o:Int),(0:Int)=(↑(0:Nat):Int),169=169,GU 169 (UZ z3) (UZ (fwF 12 z3 o 0)),QT] (need [VL ((o:Int)+1)] (need [z0,VZ (agg QD),QO,QE=QE,WK,W5,XA,z2,VZ (↑(3:Nat):Int),XE,WS N U O m r v,VZ (N:Int),VZ (N:Int),VZ (Q2 m N),z1,z1,(o:Int)+1=(↑(o+1):Int),169=169,GU 169 (UZ (fwF 12 z3 o 13)) (UZ (fwO 12 (r0M N U O m r v) (o+1))),QT] (leaf G7.normal))))) (need [z0,VZ (agg QD),QO,QE=QE,WK,W5,XA,z2,VZ (↑(3:Nat):Int),XE,WS N U O m r v,VZ (N:Int),VZ (N:Int),VZ (Q2 m N),z1,z1,(o:Int)=13,169=169,GU 169 (UZ z3) (UZ (fwO 12 (r0M N U O m r v) 13)),QT] (leaf (G7.exit 10))))) VT ?_)
  simp only [Jm1,CO,VM.sat,GT] at hQ;simp only [VM.sat,UB,G4,GJ,UD,VL,UH,HA,FY,RA,RW,GL,CO]
  refine ⟨λh=>?_,λh=>?_⟩
  ·exact YZ
  ·obtain rfl:o=13:=VJ;exact YZ
end
end Go.Proofs.YtakpdkmhclhlnaaGreatDoor.Hd
