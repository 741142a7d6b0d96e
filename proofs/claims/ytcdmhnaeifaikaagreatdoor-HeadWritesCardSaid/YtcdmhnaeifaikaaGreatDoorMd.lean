/- Contracts, put together. Conditions: those of each. -/
import Derived.Test.YtcdmhnaeifaikaaGreatDoorMc
import Derived.Lib.Walk
import Derived.Lib.SliceRun
import Derived.Lib.AppendZerosOnto
set_option linter.unusedSimpArgs false
set_option linter.unusedVariables false
set_option maxRecDepth 100000
namespace Go.Proofs.YtcdmhnaeifaikaaGreatDoor.Bo
open Go Go.Sx Go.RowKit
open Go.Sx.VR (need branch leaf)
open Go.Sx.AV (lst ptr agg roI tup top)
end Go.Proofs.YtcdmhnaeifaikaaGreatDoor.Bo
namespace Go.Proofs.YtcdmhnaeifaikaaGreatDoor
open Go Go.Sx Go.RowKit Bo
open Go.Sx.VR (need branch leaf)
open Go.Sx.AV (lst ptr agg roI tup top)
theorem U3:Tryz.prog.follows .mixedOrders=true:=VZ
abbrev i(n:Int):AV:= .x (.int .i64 n)
abbrev iI(n:Int):AV:= .x (.int .i64 n)
abbrev bl(b:Bool):AV:= .x (.bool b)
abbrev bt:=Bo.bt
abbrev insB:=Bo.insB
def dnI(n d:Int):Int:=n.tdiv d
def upI(n d:Int):Int:=(n+d-1).tdiv d
theorem bt_iff(U n O:Int):bt U n O=true↔U<=n/\n<=O:=Bo.bt_iff U n O
theorem insB_iff(U a b O:Int):insB U a b O=true↔U<=a/\a<=b/\b<=O:=Bo.insB_iff U a b O
theorem dQ{n d:Int}(I:0<=n)(hd:1<=d):dnI n d*d<=n/\n<dnI n d*d+d/\0<=dnI n d/\dnI n d<=n:=by
 unfold dnI;rw [Int.tdiv_eq_ediv_of_nonneg I];have h1:=Int.mul_ediv_add_emod n d;have h2:=Int.emod_nonneg n (show d≠0 by omega)
 have h3:=Int.emod_lt_of_pos n (show 0<d by omega)
 have h4:=Int.ediv_nonneg I (show 0<=d by omega)
 have h5:=Int.ediv_le_self d I;rw [Int.mul_comm] at h1;omega
theorem a9{n d:Int}(I:0<=n)(hd:1<=d):upI n d*d-d<n/\n<=upI n d*d/\0<=upI n d/\upI n d<=n:=by
 have h:=dQ (n:=n+d-1) VO hd;have e:upI n d=dnI (n+d-1) d:=rfl;rw [e];refine ⟨VO,VO,h.2.2.1,?_⟩;rcases Int.lt_or_le n (dnI (n+d-1) d) with h1|h1;have h2:=Int.mul_le_mul_of_nonneg_right (show n+1<=dnI (n+d-1) d by omega) (show 0<=d by omega)
 rw [Int.add_mul,Int.one_mul] at h2;have h3:=Bz I (show 0<=d-1 by omega)
 rw [Int.mul_sub,Int.mul_one] at h3;omega;exact h1
def BT:G4
 |[.x (.int .i64 n),.x (.int .i64 U),.x (.int .i64 O)]=>some ([],bl (bt U n O))
 |_=>none
abbrev Y0:Value:=Value.bool false
theorem xL(n U O:Int):U2 VU 93 [i n,i U,i O] (bl (bt U n O)):=by
 refine H0 Tryz.func93 (t:=branch (decide (U<=n)) (leaf (RV.x (.bool (decide (n<=O))))) (leaf (RV.x (Y0)))) VZ ?_;simp only [VR.sat,UF,G6,GQ,UH,UK];all_goals (simp+contextual [bt,insB,Bo.bt,Bo.insB,Bool.and_assoc]);all_goals omega
theorem RR:VT VU 93 BT:=by
 refine ⟨(UM Tryz.func93),?_⟩;intro avs ns res h I;unfold BT at h;split at h;cases h;exact xL _ _ _;cases h
def BU:G4
 |[.agg [.x (.int .i64 a),.x (.int .i64 b)],.x (.int .i64 U),.x (.int .i64 O)]=>some ([],bl (insB U a b O))
 |_=>none
theorem z7(a b U O:Int):U2 VU 118 [.agg [i a,i b],i U,i O] (bl (insB U a b O)):=by
 refine H0 Tryz.func118 (t:=branch (decide (U<=a)) (branch (decide (a<=b)) (leaf (RV.x (.bool (decide (b<=O))))) (leaf (RV.x (Y0)))) (leaf (RV.x (Y0)))) VZ ?_;simp only [VR.sat,UF,G6,GQ,UH,UK];all_goals (simp+contextual [bt,insB,Bo.bt,Bo.insB,Bool.and_assoc]);all_goals omega
theorem BA:VT VU 118 BU:=by
 refine ⟨(UM Tryz.func118),?_⟩;intro avs ns res h I;unfold BU at h;split at h;cases h;exact z7 _ _ _ _;cases h
def Qc5:G4
 |[.x (.int .i64 n),.x (.int .i64 d)]=>some ([1<=d/\d<=100000,0<=n/\n<=1000000000000],i (dnI n d))
 |_=>none
theorem Xt8(n d:Int)(VW:1<=d/\d<=100000)(UG:0<=n/\n<=1000000000000):U2 VU 131 [i n,i d] (i (dnI n d)):=by
 refine H0 Tryz.func131 (t:=need [d≠0,VQ (Int.tdiv n d)] (leaf (RV.x (.int .i64 (Int.tdiv n d))))) VZ ?_;have h:=dQ UG.1 VW.1;unfold dnI at h ⊢;exact VE
theorem cB:VT VU 131 Qc5:=by
 refine ⟨(UM Tryz.func131),?_⟩;intro avs ns res h I;unfold Qc5 at h;split at h;cases h;exact Xt8 _ _ (I _ VY) (I _ VY);cases h
def Zz2:G4
 |[.x (.int .i64 n),.x (.int .i64 d)]=>some ([1<=d/\d<=100000,0<=n/\n<=1000000000000],i (upI n d))
 |_=>none
theorem Ji1(n d:Int)(VW:1<=d/\d<=100000)(UG:0<=n/\n<=1000000000000):U2 VU 132 [i n,i d] (i (upI n d)):=by
 refine H0 Tryz.func132 (t:=need [VQ (n+d)] (need [VQ (n+d-1)] (need [d≠0,VQ (Int.tdiv (n+d-1) d)] (leaf (RV.x (.int .i64 (Int.tdiv (n+d-1) d))))))) VZ ?_;have h:=a9 UG.1 VW.1;unfold upI at h ⊢;exact VE
theorem Wf6:VT VU 132 Zz2:=by
 refine ⟨(UM Tryz.func132),?_⟩;intro avs ns res h I;unfold Zz2 at h;split at h;cases h;exact Ji1 _ _ (I _ VY) (I _ VY);cases h
theorem Qj5{a Z:Int}(ha:0<=a/\a<=100)(hd:0<=Z/\Z<=100000):0<=a*Z/\a*Z<=10000000:=by
 have h1:=Bz ha.1 hd.1;have h2:=Bo.mul_bd (x:=a) (y:=Z) (X:=100) (Y:=100000) VO VO;omega
def Ql6:G4
 |[.agg [.x (.int .i64 a),.x (.int .i64 b)],.x (.int .i64 Z)]=>some ([0<=a/\a<=100,0<=b/\b<=100,0<=Z/\Z<=100000],.agg [i (dnI (a*Z) 100),i (upI (b*Z) 100)])
 |_=>none
theorem Wi1(a b Z:Int)(VW:0<=a/\a<=100)(UG:0<=b/\b<=100)(HX:0<=Z/\Z<=100000):U2 VU 134 [.agg [i a,i b],i Z] (.agg [i (dnI (a*Z) 100),i (upI (b*Z) 100)]):=by
 refine U6 (L:=[]) (Ae cB (Ae Wf6 Aa)) U3 Tryz.func134 (UW Tryz.f134) U7 (t:=need [VQ (a*Z)] (need [(1:Int)<=100/\(100:Int)<=100000,(0:Int)<=a*Z/\a*Z<=1000000000000] (need [VQ (b*Z)] (need [(1:Int)<=100/\(100:Int)<=100000,(0:Int)<=b*Z/\b*Z<=1000000000000] (leaf (RV.agg [RV.x (.int .i64 (dnI (a*Z) (100:Int))),RV.x (.int .i64 (upI (b*Z) (100:Int)))])))))) VZ ?_;have h1:=Qj5 VW HX;have h2:=Qj5 UG HX;exact VE
theorem iP:VT VU 134 Ql6:=by
 refine ⟨(UM Tryz.func134),?_⟩;intro avs ns res h I;unfold Ql6 at h;split at h;cases h;exact Wi1 _ _ _ (I _ VY) (I _ VY) (I _ VY);cases h
section
variable (f:Cg)(k:Nat)(Z:Int)
def onL:Int:=f (4+2*k)-upI (f 3*Z) 100
def onH:Int:=f (5+2*k)-dnI (f 2*Z) 100
end
def teM(c:Int)(k:Nat):Int:=dnI (1000*k) c
def drB(f:Cg):Prop:=(0<=f 2/\f 2<=100)/\(0<=f 3/\f 3<=100)
def bdB(f:Cg):Prop:= ∀j,j<22-> -100000000000<=f (4+j)/\f (4+j)<=100000000000
theorem Wi2{f:Cg}{Z:Int}(h:drB f)(hd:0<=Z/\Z<=100000):(0<=upI (f 3*Z) 100/\upI (f 3*Z) 100<=10000000)/\0<=dnI (f 2*Z) 100/\dnI (f 2*Z) 100<=10000000:=by
 have h1:=Qj5 h.1 hd;have h2:=Qj5 h.2 hd;have h3:=dQ h1.1 (show (1:Int)<=100 by omega)
 have h4:=a9 h2.1 (show (1:Int)<=100 by omega)
 omega
theorem sT(c T U O:Int)(A B:AV)(f:Cg)(k:Nat)(Z:Int)(VW:drB f)(UG:bdB f)(HX:k<=10)(F6:0<=Z/\Z<=100000):U2 VU 95 [.roI [i c,i T,i U,i O,A,B] 26 f 0,i k,i Z] (i (onL f k Z)):=by
 refine U6 (L:=[]) (Ae iP Aa) U3 Tryz.func95 (UW Tryz.f95) U7 (t:=need [UO k 11] (need [k*2+10+0-1-1-1-1-1-1<26] (need [2+2<=26] (need [(0:Int)<=f (2+nat_lit 0)/\f (2+nat_lit 0)<=100,(0:Int)<=f (2+nat_lit 1)/\f (2+nat_lit 1)<=100,(0:Int)<=Z/\Z<=100000] (need [VQ (f (k*2+10+0-1-1-1-1-1-1)-upI (f (2+nat_lit 1)*Z) (100:Int))] (leaf (RV.x (.int .i64 (f (k*2+10+0-1-1-1-1-1-1)-upI (f (2+nat_lit 1)*Z) (100:Int)))))))))) VZ ?_;have h0:=Wi2 VW F6;have h1:=UG (2*k) VO;have h2:=UG (2*k+1) VO;rw [show 4+(2*k+1)=5+2*k by omega] at h2
 have d1:=VW.1;have d2:=VW.2
 have hi6:VQ (f (4+2*k)-upI (f 3*Z) 100):=by
  simp only [VQ];omega
 simp only [VR.sat,UF,G6,GQ,UH,UK];rw [show k*2+10+0-1-1-1-1-1-1=4+2*k by omega]
 exact ⟨VO,VO,VO,⟨d1,d2,F6⟩,hi6,rfl⟩
def nX:G4
 |[.roI [.x (.int .i64 c),.x (.int .i64 T),.x (.int .i64 U),.x (.int .i64 O),A,B] 26 f 0,.x (.int .i64 k),.x (.int .i64 Z)]=>some ([drB f,bdB f,0<=k/\k<=10,0<=Z/\Z<=100000],i (onL f k.toNat Z))
 |_=>none
theorem sQ:VT VU 95 nX:=by
 refine ⟨(UM Tryz.func95),?_⟩;intro avs ns res h I;unfold nX at h;split at h;rename_i c T U O A B f k Z;cases h;have hk:0<=k/\k<=10:=I _ VY;have e:((k.toNat:Nat):Int)=k:=VO;have h0:=sT c T U O A B f k.toNat Z (I _ VY) (I _ VY) VO (I _ VY);rw [e] at h0;exact h0;cases h
theorem bR(c T U O:Int)(A B:AV)(f:Cg)(k:Nat)(Z:Int)(VW:drB f)(UG:bdB f)(HX:k<=10)(F6:0<=Z/\Z<=100000):U2 VU 96 [.roI [i c,i T,i U,i O,A,B] 26 f 0,i k,i Z] (i (onH f k Z)):=by
 refine U6 (L:=[]) (Ae iP Aa) U3 Tryz.func96 (UW Tryz.f96) U7 (t:=need [UO k 11] (need [k*2+10+1-1-1-1-1-1-1<26] (need [2+2<=26] (need [(0:Int)<=f (2+nat_lit 0)/\f (2+nat_lit 0)<=100,(0:Int)<=f (2+nat_lit 1)/\f (2+nat_lit 1)<=100,(0:Int)<=Z/\Z<=100000] (need [VQ (f (k*2+10+1-1-1-1-1-1-1)-dnI (f (2+nat_lit 0)*Z) (100:Int))] (leaf (RV.x (.int .i64 (f (k*2+10+1-1-1-1-1-1-1)-dnI (f (2+nat_lit 0)*Z) (100:Int)))))))))) VZ ?_;have h0:=Wi2 VW F6;have h1:=UG (2*k) VO;have h2:=UG (2*k+1) VO;rw [show 4+(2*k+1)=5+2*k by omega] at h2
 have d1:=VW.1;have d2:=VW.2
 have hi6:VQ (f (5+2*k)-dnI (f 2*Z) 100):=by
  simp only [VQ];omega
 simp only [VR.sat,UF,G6,GQ,UH,UK];rw [show k*2+10+1-1-1-1-1-1-1=5+2*k by omega]
 exact ⟨VO,VO,VO,⟨d1,d2,F6⟩,hi6,rfl⟩
def NE:G4
 |[.roI [.x (.int .i64 c),.x (.int .i64 T),.x (.int .i64 U),.x (.int .i64 O),A,B] 26 f 0,.x (.int .i64 k),.x (.int .i64 Z)]=>some ([drB f,bdB f,0<=k/\k<=10,0<=Z/\Z<=100000],i (onH f k.toNat Z))
 |_=>none
theorem bQ:VT VU 96 NE:=by
 refine ⟨(UM Tryz.func96),?_⟩;intro avs ns res h I;unfold NE at h;split at h;rename_i c T U O A B f k Z;cases h;have hk:0<=k/\k<=10:=I _ VY;have e:((k.toNat:Nat):Int)=k:=VO;have h0:=bR c T U O A B f k.toNat Z (I _ VY) (I _ VY) VO (I _ VY);rw [e] at h0;exact h0;cases h
theorem Jn5(c T U O:Int)(A B:AV)(f:Cg)(k:Nat)(Z:Int)(VW:drB f)(UG:bdB f)(HX:k<=10)(F6:0<=Z/\Z<=100000):U2 VU 65 [.roI [i c,i T,i U,i O,A,B] 26 f 0,i k,i Z] (.agg [i (onL f k Z),i (onH f k Z)]):=by
 refine U6 (L:=[]) (Ae sQ (Ae bQ Aa)) U3 Tryz.func65 (UW Tryz.f65) U7 (t:=need [drB f,bdB f,(0:Int)<=(k:Int)/\(k:Int)<=10,(0:Int)<=Z/\Z<=100000] (need [drB f,bdB f,(0:Int)<=(k:Int)/\(k:Int)<=10,(0:Int)<=Z/\Z<=100000] (leaf (RV.agg [RV.x (.int .i64 (onL f k Z)),RV.x (.int .i64 (onH f k Z))])))) VZ ?_;simp only [VR.sat,UF,G6,GQ,UH,UK,DR];exact ⟨⟨VW,UG,VO,F6⟩,⟨VW,UG,VO,F6⟩⟩
def Ka1:G4
 |[.roI [.x (.int .i64 c),.x (.int .i64 T),.x (.int .i64 U),.x (.int .i64 O),A,B] 26 f 0,.x (.int .i64 k),.x (.int .i64 Z)]=>some ([drB f,bdB f,0<=k/\k<=10,0<=Z/\Z<=100000],.agg [i (onL f k.toNat Z),i (onH f k.toNat Z)])
 |_=>none
theorem Wl9:VT VU 65 Ka1:=by
 refine ⟨(UM Tryz.func65),?_⟩;intro avs ns res h I;unfold Ka1 at h;split at h;rename_i c T U O A B f k Z;cases h;have hk:0<=k/\k<=10:=I _ VY;have e:((k.toNat:Nat):Int)=k:=VO;have h0:=Jn5 c T U O A B f k.toNat Z (I _ VY) (I _ VY) VO (I _ VY);rw [e] at h0;exact h0;cases h
theorem Zb4{c:Int}{k:Nat}(hc:1<=c/\c<=10)(hk:k<=10):0<=teM c k/\teM c k<=10000:=by
 have:=dQ (n:=1000*k) VO hc.1;unfold teM;omega
theorem Wg0(c T U O:Int)(A B:AV)(f:Cg)(k:Nat)(VW:1<=c/\c<=10)(UG:k<=10):U2 VU 161 [.roI [i c,i T,i U,i O,A,B] 26 f 0,i k] (i (teM c k)):=by
 refine H0 Tryz.func161 (t:=need [VQ ((1000:Int)*(k:Int))] (need [c≠0,VQ (Int.tdiv ((1000:Int)*(k:Int)) c)] (leaf (RV.x (.int .i64 (Int.tdiv ((1000:Int)*(k:Int)) c)))))) VZ ?_;have h:=Zb4 VW UG;unfold teM dnI at h ⊢;exact VE
def Ql4:G4
 |[.roI [.x (.int .i64 c),.x (.int .i64 T),.x (.int .i64 U),.x (.int .i64 O),A,B] 26 f 0,.x (.int .i64 k)]=>some ([1<=c/\c<=10,0<=k/\k<=10],i (teM c k.toNat))
 |_=>none
theorem Wf9:VT VU 161 Ql4:=by
 refine ⟨(UM Tryz.func161),?_⟩;intro avs ns res h I;unfold Ql4 at h;split at h;rename_i c T U O A B f k;cases h;have hk:0<=k/\k<=10:=I _ VY;have e:((k.toNat:Nat):Int)=k:=VO;have h0:=Wg0 c T U O A B f k.toNat (I _ VY) VO;rw [e] at h0;exact h0;cases h
theorem OG(c T U O:Int)(A B:AV)(f:Cg)(k:Nat)(Z:Int)(VW:drB f)(UG:bdB f)(HX:k<=10)(F6:0<=Z/\Z<=100000)(qD:1<=c/\c<=10):U2 VU 117 [.roI [i c,i T,i U,i O,A,B] 26 f 0,i k,i Z] (.agg [i (onL f k Z-teM c k),i (onH f k Z-teM c k)]):=by
 refine U6 (L:=[]) (Ae Wl9 (Ae Wf9 Aa)) U3 Tryz.func117 (UW Tryz.f117) U7 (t:=need [drB f,bdB f,(0:Int)<=(k:Int)/\(k:Int)<=10,(0:Int)<=Z/\Z<=100000] (need [(1:Int)<=c/\c<=10,(0:Int)<=(k:Int)/\(k:Int)<=10] (need [VQ (onL f k Z-teM c k)] (need [(1:Int)<=c/\c<=10,(0:Int)<=(k:Int)/\(k:Int)<=10] (need [VQ (onH f k Z-teM c k)] (leaf (RV.agg [RV.x (.int .i64 (onL f k Z-teM c k)),RV.x (.int .i64 (onH f k Z-teM c k))]))))))) VZ ?_;have h0:=Wi2 VW F6;have h1:=UG (2*k) VO;have h2:=UG (2*k+1) VO;rw [show 4+(2*k+1)=5+2*k by omega] at h2
 have d1:=VW.1;have d2:=VW.2
 have h5:=Zb4 qD HX;unfold onL onH;simp only [VR.sat,UF,G6,GQ,UH,VQ,UK,DR,onL,onH];refine ⟨⟨VW,UG,VO,F6⟩,⟨qD,VO⟩,VO,⟨qD,VO⟩,VO⟩
def dX:G4
 |[.roI [.x (.int .i64 c),.x (.int .i64 T),.x (.int .i64 U),.x (.int .i64 O),A,B] 26 f 0,.x (.int .i64 k),.x (.int .i64 Z)]=>some ([drB f,bdB f,0<=k/\k<=10,0<=Z/\Z<=100000,1<=c/\c<=10],.agg [i (onL f k.toNat Z-teM c k.toNat),i (onH f k.toNat Z-teM c k.toNat)])
 |_=>none
theorem OF:VT VU 117 dX:=by
 refine ⟨(UM Tryz.func117),?_⟩;intro avs ns res h I;unfold dX at h;split at h;rename_i c T U O A B f k Z;cases h;have hk:0<=k/\k<=10:=I _ VY;have e:((k.toNat:Nat):Int)=k:=VO;have h0:=OG c T U O A B f k.toNat Z (I _ VY) (I _ VY) VO (I _ VY) (I _ VY);rw [e] at h0;exact h0;cases h
def keP(c:Int)(f:Cg)(wi Z x:Int):Bool:=insB (-wi) (onL f x.toNat Z-teM c x.toNat) (onH f x.toNat Z-teM c x.toNat) wi
def mkV(p:Int)(j:Nat):List Value:=[.int .i64 (p+j)]
def Qm1:G4
 |[.x (.int .i64 x),.ro [.roI [.x (.int .i64 c),.x (.int .i64 T),.x (.int .i64 U),.x (.int .i64 O),A,B] 26 f 0],.ro [.x (.int .i64 Z)],.ro [.x (.int .i64 S),.x (.int .i64 W),.x (.int .i64 wi)]]=>some ([drB f,bdB f,1<=c/\c<=10,0<=Z/\Z<=100000,0<=wi/\wi<=1000000,0<=x/\x<=10],bl (keP c f wi Z x))
 |_=>none
section
variable (x:Int)(c T U O:Int)(A B:AV)(f:Cg)(Z S W wi:Int)
theorem Wo6(VW:drB f)(UG:bdB f)(HX:1<=c/\c<=10)(F6:0<=Z/\Z<=100000)(qD:0<=wi/\wi<=1000000)(j6:0<=x/\x<=10):U2 VU 116 [i x,.ro [.roI [i c,i T,i U,i O,A,B] 26 f 0],.ro [i Z],.ro [i S,i W,i wi]] (bl (keP c f wi Z x)):=by
 refine U6 (L:=[]) (Ae OF (Ae BA Aa)) U3 Tryz.func116 (UW Tryz.f116) U7 (t:=need [drB f,bdB f,(0:Int)<=x/\x<=10,(0:Int)<=Z/\Z<=100000,(1:Int)<=c/\c<=10] (need [VQ (-wi)] (leaf (RV.x (.bool (insB (-wi) (onL f (Int.toNat x) Z-teM c (Int.toNat x)) (onH f (Int.toNat x) Z-teM c (Int.toNat x)) wi)))))) VZ ?_;simp only [VR.sat,UF,G6,GQ,UH,VQ,UK,keP];exact ⟨⟨VW,UG,j6,F6,HX⟩,VO⟩
theorem Wo5:VT VU 116 Qm1:=by
 refine ⟨(UM Tryz.func116),?_⟩;intro avs ns res h I;unfold Qm1 at h;split at h;cases h;exact Wo6 _ _ _ _ _ _ _ _ _ _ _ _ (I _ VY) (I _ VY) (I _ VY) (I _ VY) (I _ VY) (I _ VY);cases h
theorem Xd9(VW:drB f)(UG:bdB f)(HX:1<=c/\c<=10)(F6:0<=Z/\Z<=100000)(qD:0<=wi/\wi<=1000000)(j6:0<=x/\x<=10):U2 VU 159 [i x,.ro [.fn (.func 116) [] [.ro [.roI [i c,i T,i U,i O,A,B] 26 f 0],.ro [i Z],.ro [i S,i W,i wi]]]] (bl (!(keP c f wi Z x))):=by
 refine U6 (L:=[]) (Ae Wo5 Aa) U3 Tryz.func159 (UW Tryz.f159) U7 (t:=need [drB f,bdB f,(1:Int)<=c/\c<=10,(0:Int)<=Z/\Z<=100000,(0:Int)<=wi/\wi<=1000000,(0:Int)<=x/\x<=10] (leaf (RV.x (.bool !keP c f wi Z x)))) VZ ?_;simp only [VR.sat,UF,G6,GQ,UH,UK];exact ⟨VW,UG,HX,F6,qD,j6⟩
end
def Qn3:G4
 |[.x (.int .i64 x),.ro [.fn (.func 116) [] [.ro [.roI [.x (.int .i64 c),.x (.int .i64 T),.x (.int .i64 U),.x (.int .i64 O),A,B] 26 f 0],.ro [.x (.int .i64 Z)],.ro [.x (.int .i64 S),.x (.int .i64 W),.x (.int .i64 wi)]]]]=>some ([drB f,bdB f,1<=c/\c<=10,0<=Z/\Z<=100000,0<=wi/\wi<=1000000,0<=x/\x<=10],bl (!(keP c f wi Z x)))
 |_=>none
theorem nR:VT VU 159 Qn3:=by
 refine ⟨(UM Tryz.func159),?_⟩;intro avs ns res h I;unfold Qn3 at h;split at h;cases h;exact Xd9 _ _ _ _ _ _ _ _ _ _ _ _ (I _ VY) (I _ VY) (I _ VY) (I _ VY) (I _ VY) (I _ VY);cases h
abbrev WD(c:Int)(T:Int)(U:Int)(O:Int)(A:AV)(B:AV)(f:Cg)(Z:Int)(S:Int)(W:Int)(wi:Int):AV:=AV.fn (Fn.func 159) [] [AV.ro [AV.fn (Fn.func 116) [] [AV.ro [roI [iI c,iI T,iI U,iI O,A,B] 26 (λa=>f a) 0],AV.ro [iI Z],AV.ro [iI S,iI W,iI wi]]]]
section
variable (n:Nat)(g:Cg)
abbrev KC:AV:=lst 1 n λk=>[iI (g k)]
def Xj7(c T U O:Int)(A B:AV)(f:Cg)(Z S W wi:Int):St:={σ:=[KC n g,WD c T U O A B f Z S W wi]++HR 5 [iI (n:Int)]++HR 11 [],m:=[],nx:=4}
noncomputable def Kb0:Code:=UD (VX (UB Tryz.f195) 0)
def Wo8(c T U O:Int)(A B:AV)(f:Cg)(Z S W wi:Int)(k:Nat):St:=(upM [(8,i k)] (Xj7 n g c T U O A B f Z S W wi))
def fL(c T U O:Int)(A B:AV)(f:Cg)(Z S W wi:Int)(k:Nat):G8->Option St
 | .ret=>some (upM [(4,i (H2 ((λk=> !(keP c f wi Z (g k)))) n))] (Xj7 n g c T U O A B f Z S W wi))
 | .exit 0=>some (upM [] (Xj7 n g c T U O A B f Z S W wi))
 |_=>none
def Jv9(c T U O:Int)(A B:AV)(f:Cg)(Z S W wi:Int):CT:= .branch (decide (H2 ((λk=> !(keP c f wi Z (g k)))) n<n)) (.leaf (.ret,(fL n g c T U O A B f Z S W wi 0 .ret).getD (Xj7 n g c T U O A B f Z S W wi))) (.leaf (.exit 0,(fL n g c T U O A B f Z S W wi 0 (.exit 0)).getD (Xj7 n g c T U O A B f Z S W wi)))
def Ze5(c T U O:Int)(A B:AV)(f:Cg)(Z S W wi:Int):UN:=(HI (Wo8 n g c T U O A B f Z S W wi (0)) (Jv9 n g c T U O A B f Z S W wi))
theorem Jf1(c T U O:Int)(A B:AV)(f:Cg)(Z S W wi:Int)(VW:n<=100000)(UG:drB f)(HX:bdB f)(F6:1<=c/\c<=10)(qD:0<=Z/\Z<=100000)(j6:0<=wi/\wi<=1000000)(sA: ∀j,j<n->0<=g j/\g j<=10):GD VU (.loop Kb0) (Ze5 n g c T U O A B f Z S W wi):=by
 refine HO (L:=[]) (Ae nR Aa) U3 U7 (X:=Nat) (Wo8 n g c T U O A B f Z S W wi) (λk=>k<=n/\ ∀j,j<k->(λk=> !(keP c f wi Z (g k))) j=false) (λk=>n-k) (fL n g c T U O A B f Z S W wi) (x0:=0) ⟨VO,λj hj=>VO⟩ ?_ ?_ ?_;rintro k;kernel_rfl;rintro k y E h;unfold fL at h;split at h;cases h;kernel_rfl;cases h;kernel_rfl;cases h
 ·rintro Q hQ k hx;refine ⟨(k+1),?_⟩;(with_reducible refine DG (t:=let z0:=(U4 (WD c T U O A B f Z S W wi));(branch (decide ((k:Int)<(n:Int))) (need [UO k n] (need [drB λa=>f a,bdB λa=>f a,(1:Int)<=c/\c<=10,(0:Int)<=Z/\Z<=100000,(0:Int)<=wi/\wi<=1000000,(0:Int)<=g k/\g k<=10] (branch (!keP c (λa=>f a) wi Z (g k)) (need [U4 (KC n g),z0,(k:Int)=(↑(H2 (λk=> !keP c f wi Z (g k)) n):Int),U4 (n:Int)] (leaf G8.ret)) (need [VQ ((k:Int)+1)] (need [U4 (KC n g),z0,U4 (n:Int),(k:Int)+1=(↑(k+1):Int)] (leaf G8.normal)))))) (need [U4 (KC n g),z0,U4 (n:Int)] (leaf (G8.exit 0))))) VZ ?_)
  simp only [Jv9,fL,VR.sat,GW,H6] at hQ;simp only [VR.sat,UF,UK,H6,VQ,fL,DR];refine ⟨λh=>⟨VO,⟨UG,HX,F6,qD,j6,sA k VO⟩,?_⟩,λh=>?_⟩
  rotate_left
  have hf:H2 ((λk=> !(keP c f wi Z (g k)))) n=n:=qO (λj hj=>hx.2 j VO);intro E hE;cases hE;exact hQ.2 VO;refine ⟨λhb=>?_,λhb=>?_⟩;have hf:H2 ((λk=> !(keP c f wi Z (g k)))) n=k:=jJ VO hb hx.2;refine ⟨VO,λE hE=>?_⟩;cases hE;exact hQ.1 VO;refine ⟨VO,VO,⟨VO,λj hj=>?_⟩,VO⟩;rcases (show j<k\/j=k by omega) with h1|rfl
  exact hx.2 j h1;exact hb
theorem Zj9(c T U O:Int)(A B:AV)(f:Cg)(Z S W wi:Int)(VW:n<=100000)(UG:drB f)(HX:bdB f)(F6:1<=c/\c<=10)(qD:0<=Z/\Z<=100000)(j6:0<=wi/\wi<=1000000)(sA: ∀j,j<n->0<=g j/\g j<=10):U2 VU 195 [.lst 1 n (λk=>[i (g k)]),.fn (.func 159) [] [.ro [.fn (.func 116) [] [.ro [.roI [i c,i T,i U,i O,A,B] 26 f 0],.ro [i Z],.ro [i S,i W,i wi]]]]] (i (if H2 ((λk=> !(keP c f wi Z (g k)))) n<n then (H2 ((λk=> !(keP c f wi Z (g k)))) n:Int) else -1)):=by
 refine U6 (L:=[Ze5 n g c T U O A B f Z S W wi]) (Ae nR Aa) U3 Tryz.func195 (UW Tryz.f195) (G0 (lpE (b:= .loop Kb0) VZ<|Jf1 n g c T U O A B f Z S W wi VW UG HX F6 qD j6 sA)) (t:=need [U4 (KC n g),U4 (WD c T U O A B f Z S W wi),U4 (n:Int),(0:Int)=((0:Nat):Int)] (branch (decide (H2 (λk=> !keP c f wi Z (g k)) n<n)) (leaf (RV.x (.int .i64 (↑(H2 (λk=> !keP c f wi Z (g k)) n):Int)))) (leaf (RV.x (.int .i64 (-1:Int)))))) VZ ?_
 exact VD
end
def Zd8:G4
 |[.lst 1 n g,.fn (.func 159) [] [.ro [.fn (.func 116) [] [.ro [.roI [.x (.int .i64 c),.x (.int .i64 T),.x (.int .i64 U),.x (.int .i64 O),A,B] 26 f 0],.ro [.x (.int .i64 Z)],.ro [.x (.int .i64 S),.x (.int .i64 W),.x (.int .i64 wi)]]]]]=>some ([UL 1 n g,n<=100000,drB f,bdB f,1<=c/\c<=10,0<=Z/\Z<=100000,0<=wi/\wi<=1000000,∀j,j<n->0<=col 0 g j/\col 0 g j<=10],i (if H2 ((λk=> !(keP c f wi Z (col 0 g k)))) n<n then (H2 ((λk=> !(keP c f wi Z (col 0 g k)))) n:Int) else -1))
 |_=>none
theorem Zj8:VT VU 195 Zd8:=by
 refine ⟨(UM Tryz.func195),?_⟩;intro avs ns res h I;unfold Zd8 at h;split at h;cases h;have hr:UL 1 _ _:=I _ (GN);exact (Zj9 _ (col 0 _) _ _ _ _ _ _ _ _ _ _ _ (I _ VY) (I _ VY) (I _ VY) (I _ VY) (I _ VY) (I _ VY) (I _ VY)).same (.cons (.lst 1 _ _ _ hr) (.cons (.refl _) .nil));cases h
theorem Zy2(n:Nat)(g:Cg)(c T U O:Int)(A B:AV)(f:Cg)(Z S W wi:Int)(VW:n<=100000)(UG:drB f)(HX:bdB f)(F6:1<=c/\c<=10)(qD:0<=Z/\Z<=100000)(j6:0<=wi/\wi<=1000000)(sA: ∀j,j<n->0<=g j/\g j<=10):U2 VU 158 [.lst 1 n (λk=>[i (g k)]),.fn (.func 159) [] [.ro [.fn (.func 116) [] [.ro [.roI [i c,i T,i U,i O,A,B] 26 f 0],.ro [i Z],.ro [i S,i W,i wi]]]]] (bl (!DH (λk=>keP c f wi Z (g k)) n)):=by
 refine U6 (L:=[]) (Ae Zj8 Aa) U3 Tryz.func158 (UW Tryz.f158) U7 (t:=need [UL 1 n λk=>[i (g k)],n<=100000,drB f,bdB f,(1:Int)<=c/\c<=10,(0:Int)<=Z/\Z<=100000,(0:Int)<=wi/\wi<=1000000,∀(j:Nat),j<n->(0:Int)<=g j/\g j<=10] (leaf (RV.x (.bool (decide ((if H2 (λk=> !keP c f wi Z (g k)) n<n then (↑(H2 (λk=> !keP c f wi Z (g k)) n):Int) else (-1:Int))>=(0:Int))))))) VZ ?_
 simp only [VR.sat,UF,G6,UH,UK];refine ⟨⟨λ_ _=>rfl,VW,UG,HX,F6,qD,j6,sA⟩,?_⟩;rw [yF];have e:(λk=> !(λk=>keP c f wi Z (g k)) k)=(λk=> !(keP c f wi Z (g k))):=rfl;rw [e];show decide ((if H2 (λk=> !(keP c f wi Z (g k))) n<n then (H2 (λk=> !(keP c f wi Z (g k))) n:Int) else -1)>=0)=_
 have:=FA ((λk=> !(keP c f wi Z (g k)))) n;split<;>simp<;>omega
def Ze3:G4
 |[.lst 1 n g,.fn (.func 159) [] [.ro [.fn (.func 116) [] [.ro [.roI [.x (.int .i64 c),.x (.int .i64 T),.x (.int .i64 U),.x (.int .i64 O),A,B] 26 f 0],.ro [.x (.int .i64 Z)],.ro [.x (.int .i64 S),.x (.int .i64 W),.x (.int .i64 wi)]]]]]=>some ([UL 1 n g,n<=100000,drB f,bdB f,1<=c/\c<=10,0<=Z/\Z<=100000,0<=wi/\wi<=1000000,∀j,j<n->0<=col 0 g j/\col 0 g j<=10],bl (!DH (λk=>keP c f wi Z (col 0 g k)) n))
 |_=>none
theorem Zy1:VT VU 158 Ze3:=by
 refine ⟨(UM Tryz.func158),?_⟩;intro avs ns res h I;unfold Ze3 at h;split at h;cases h;have hr:UL 1 _ _:=I _ (GN);exact (Zy2 _ (col 0 _) _ _ _ _ _ _ _ _ _ _ _ (I _ VY) (I _ VY) (I _ VY) (I _ VY) (I _ VY) (I _ VY) (I _ VY)).same (.cons (.lst 1 _ _ _ hr) (.cons (.refl _) .nil));cases h
theorem Xw5(n:Nat)(g:Cg)(c T U O:Int)(A B:AV)(f:Cg)(Z S W wi:Int)(VW:n<=100000)(UG:drB f)(HX:bdB f)(F6:1<=c/\c<=10)(qD:0<=Z/\Z<=100000)(j6:0<=wi/\wi<=1000000)(sA: ∀j,j<n->0<=g j/\g j<=10):U2 VU 114 [.lst 1 n (λk=>[i (g k)]),.fn (.func 116) [] [.ro [.roI [i c,i T,i U,i O,A,B] 26 f 0],.ro [i Z],.ro [i S,i W,i wi]]] (bl (DH (λk=>keP c f wi Z (g k)) n)):=by
 refine U6 (L:=[]) (Ae Zy1 Aa) U3 Tryz.func114 (UW Tryz.f114) U7 (t:=need [UL 1 n λk=>[i (g k)],n<=100000,drB f,bdB f,(1:Int)<=c/\c<=10,(0:Int)<=Z/\Z<=100000,(0:Int)<=wi/\wi<=1000000,∀(j:Nat),j<n->(0:Int)<=g j/\g j<=10] (leaf (RV.x (.bool !!DH (λk=>keP c f wi Z (g k)) n)))) VZ ?_;simp only [VR.sat,UF,G6,UH,UK];refine ⟨⟨λ_ _=>rfl,VW,UG,HX,F6,qD,j6,sA⟩,?_⟩;show (!!DH (λk=>keP c f wi Z (g k)) n)=_
 simp
def Xg1:G4
 |[.lst 1 n g,.fn (.func 116) [] [.ro [.roI [.x (.int .i64 c),.x (.int .i64 T),.x (.int .i64 U),.x (.int .i64 O),A,B] 26 f 0],.ro [.x (.int .i64 Z)],.ro [.x (.int .i64 S),.x (.int .i64 W),.x (.int .i64 wi)]]]=>some ([UL 1 n g,n<=100000,drB f,bdB f,1<=c/\c<=10,0<=Z/\Z<=100000,0<=wi/\wi<=1000000,∀j,j<n->0<=col 0 g j/\col 0 g j<=10],bl (DH (λk=>keP c f wi Z (col 0 g k)) n))
 |_=>none
theorem Xw4:VT VU 114 Xg1:=by
 refine ⟨(UM Tryz.func114),?_⟩;intro avs ns res h I;unfold Xg1 at h;split at h;cases h;have hr:UL 1 _ _:=I _ (GN);exact (Xw5 _ (col 0 _) _ _ _ _ _ _ _ _ _ _ _ (I _ VY) (I _ VY) (I _ VY) (I _ VY) (I _ VY) (I _ VY) (I _ VY)).same (.cons (.lst 1 _ _ _ hr) (.cons (.refl _) .nil));cases h
def cQ:G4
 |[.x (.int .i64 p),.x (.int .i64 q)]=>some ([],.fn (.func 133) [] [.ro [i p],.ro [i q]])
 |_=>none
abbrev XT(p:Int)(q:Int):AV:=AV.fn (Fn.func 133) [] [AV.ro [iI p],AV.ro [iI q]]
abbrev JZ:Ext:={}
theorem Wn2(p q:Int):FJ VU 94 [i p,i q] (.fn (.func 133) [] [.ro [i p],.ro [i q]]):=by
 refine D6 (L:=[]) Aa Ad U3 Tryz.func94 (UW Tryz.f94) G9 (t:=leaf (XT p q)) VZ ?_;exact rfl
theorem fU:PE VU 94 cQ:=by
 refine ⟨(UM Tryz.func94),?_⟩;intro avs ns res h I;unfold cQ at h;split at h;cases h;exact Wn2 _ _;cases h
section
variable (l:Nat)
abbrev YF:AV:=AV.fn (Fn.yield l) [] []
def Xk5(p q:Int):St:={σ:=[YF l,AV.ro [iI p],AV.ro [iI q]]++HR 12 [],m:=[],nx:=2,gh:=some 0}
noncomputable def Je3:Code:=UD (VX (UB Tryz.f133) 0)
def bO(p q:Int)(j:Nat):St:={σ:=H4 [(4,i (p+j))] (Xk5 l p q).σ,m:=[],nx:=0,gh:=some (j) }
def kN(p q:Int)(j:Nat):G8->Option St
 | .exit 0=>some {σ:=H4 [] (Xk5 l p q).σ,m:=[],nx:=0,gh:=some ((q-p+1).toNat) }
 | .ret=>some {σ:=H4 [] (Xk5 l p q).σ,m:=[],nx:=0,gh:=none}
 |_=>none
def Jx9(p q:Int):CT:= .may True (.leaf (.exit 0,(kN l p q 0 (.exit 0)).getD (Xk5 l p q))) (.leaf (.ret,(kN l p q 0 .ret).getD (Xk5 l p q)))
def Zg8(p q:Int):UN:=GO [] (HI (bO l p q (0)) (Jx9 l p q))
theorem Jo1(p q:Int)(VW: -1000000<=p/\p<=1000000)(UG: -1000000<=q/\q<=1000000){cx:Cx}(hX:U0 VU {Y:=some (l,((q-p+1).toNat),(mkV p)) } cx):HQ VU none cx (.loop Je3) (Zg8 l p q):=by
 refine F7 [] (L:=[]) Aa hX U3 G9 (V:=Nat) (bO l p q) (λj=>j<=((q-p+1).toNat)) (λj=>((q-p+1).toNat)-j) (kN l p q) (x0:=0) VY ?_ ?_ ?_;rintro j;kernel_rfl;rintro j y E h;unfold kN at h;split at h;cases h;kernel_rfl;cases h;kernel_rfl;cases h
 ·rintro Q hQ j hx;refine ⟨(j+1),?_⟩;have e:HW VU [] {Y:=some (l,((q-p+1).toNat),(mkV p)) } [] [] Je3 (bO l p q j) (bO l p q ((j+1))) (kN l p q j)=(branch (decide (p+(j:Int)<=q)) (need [l=l,j<(q-p+1).toNat,U4 ([Value.int IntKind.i64 (p+(j:Int))])] (VR.may True (need [VQ (p+(j:Int)+1)] (need [YF l=YF l,U4 (AV.ro [iI p]),U4 (AV.ro [iI q]),p+(j:Int)+1=p+(↑(j+1):Int),j+1=j+1] (leaf G8.normal))) (need [YF l=YF l,U4 (AV.ro [iI p]),U4 (AV.ro [iI q])] (leaf G8.ret)))) (need [YF l=YF l,U4 (AV.ro [iI p]),U4 (AV.ro [iI q]),j=(q-p+1).toNat] (leaf (G8.exit 0)))):=VZ;rw [e];simp only [Jx9,kN,VR.sat,GW] at hQ;have hQ1: ∀E,kN l p q j (.exit 0)=some E->Q (.exit 0,E):=λE hE=>by cases hE;exact hQ.1 trivial
  have hQ2: ∀E,kN l p q j .ret=some E->Q (.ret,E):=λE hE=>by cases hE;exact hQ.2
  simp only [VR.sat,UF,UK,H6,VQ,DR];clear e hQ;all_goals exact V8
end
theorem IO(p q:Int)(VW: -1000000<=p/\p<=1000000)(UG: -1000000<=q/\q<=1000000):PZ Tryz.prog 133 [.ro [i p],.ro [i q]] (((q-p+1).toNat)) (mkV p):=by
 refine PM (L:=λl=>[Zg8 l p q]) Aa U3 (UM Tryz.func133) Tryz.func133 (UW Tryz.f133) VZ (λl cx hX=>G0 (lpE (b:= .loop Je3) VZ<|Jo1 l p q VW UG hX)) (t:=λl=>(need [U4 (AV.fn (Fn.yield l) [] []),U4 (AV.ro [iI p]),U4 (AV.ro [iI q]),p=p+((0:Nat):Int),0=0] (VR.may True (need [U4 (q-p+1).toNat] (leaf PUnit.unit)) (leaf PUnit.unit)))) (λl=>VZ) ?_
 intro l;simp only [VR.sat,UF,G6,GQ,UH,VQ,UK,H6,FW];all_goals exact V8
theorem cat1{p:Int}{k j:Nat}(h:j<k+1):GL k (λj=>[i (p+j)]) (UA 1 [i (p+k)]) j=[i (p+j)]:=by
 show HJ (decide (j<k)) [i (p+j)] (UA 1 [i (p+k)] (j-k))=_;rw [show j-k=0 by omega]
 by_cases hj:j<k;rw [decide_eq_true hj];rfl;obtain rfl:j=k:=VO;rw [decide_eq_false hj];rfl
abbrev Z9:AV:=AV.x (.slice none 0 0)
section
variable (p q:Int)
def Ka9:St:={σ:=[Z9,XT p q,ptr 0 0,top,Z9,top,XT p q]++HR 6 [],m:=[(900,GU.row 3 1 0 λx=>[]),(0,GU.cells 52 [AV.row 900])],nx:=901}
def rfF:Option Code->Operand
 |some (.rangeFunc f _ _ _)=>f
 |_=> .const .nilFunc
def xS:Option Code->Array Nat
 |some (.rangeFunc _ ps _ _)=>ps
 |_=>#[]
def NW:Option Code->Code
 |some (.rangeFunc _ _ a _)=>a
 |_=> .skip
def NV:Option Code->Code
 |some (.rangeFunc _ _ _ b)=>b
 |_=> .skip
noncomputable def Kf1:Code:=NW (VX (UB Tryz.f160) 0)
noncomputable def Ke5:Code:=NV (VX (UB Tryz.f160) 0)
def tD(k:Nat):St:={σ:=H4 [] (Ka9 p q).σ,m:=[(900,.row 3 1 k (λj=>[i (p+j)])),(0,.cells 52 [.row 900])],nx:=901}
def sG(k:Nat):G8->Option St
 | .normal=>some {σ:=H4 [] (Ka9 p q).σ,m:=[(900,.row 3 1 ((q-p+1).toNat) (λj=>[i (p+j)])),(0,.cells 52 [.row 900])],nx:=901}
 |_=>none
def T_as:CT:= .leaf (.normal,tD p q ((q-p+1).toNat))
def Zj2:UN:=GO [(.cell 0 0,900,3,1)] (HI (tD p q (0)) (T_as p q))
abbrev KM:Prop:=ptr 0 0=ptr 0 0
theorem Jv3(VW: -1000000<=p/\p<=1000000)(UG: -1000000<=q/\q<=1000000):HU VU (.rangeFunc (rfF (VX (UB Tryz.f160) 0)) (xS (VX (UB Tryz.f160) 0)) Kf1 Ke5) (Zj2 p q):=by
 refine LQ [(.cell 0 0,900,3,1)] (L:=[]) Aa Ad U3 U7 (V:=Nat) (tD p q) (λk=>k<=((q-p+1).toNat)) (λk=>k) (sG p q) (x0:=0) VY rfl ?_ ?_ ?_ ?_ (g:=133) (caps:=[.ro [i p],.ro [i q]]) VZ VZ (IO p q VW UG) (λ_=>rfl) ?_;rintro k;kernel_rfl;rintro k y E h;unfold sG at h;split at h;cases h;kernel_rfl;cases h;rintro k;rfl;rintro k y E h;unfold sG at h;split at h;cases h;rfl;cases h;rintro Q hQ k hx;refine ⟨λhlt=>⟨(k+1),rfl,?_⟩,λPR=>?_⟩;(with_reducible refine DG (t:=need [(k+1)*8<=140737488355328,RY 1 (UA 1 [iI (p+(k:Int))])] (need [Z9=Z9,U4 (XT p q),KM,Z9=Z9,U4 (XT p q),k+1=k+1,GZ (k+1) (GL k (λj=>[iI (p+(j:Int))]) (UA 1 [iI (p+(k:Int))])) (λi=>[iI (p+(i:Int))]),U4 (AV.row 900)] (leaf G8.normal))) VZ ?_)
 simp only [VR.sat,UF,UK]
 refine ⟨⟨VO,λj hj a ha=>FP ha (by simp [AV.one,Value.oneCell'])⟩,λj hj=>?_,VO⟩
 exact cat1 hj;subst PR;exact hQ
end
def mkF(p:Int)(j:Nat):List AV:=[i (p+j)]
theorem Qz8(p q:Int)(VW: -1000000<=p/\p<=1000000)(UG: -1000000<=q/\q<=1000000):U2 VU 160 [.x (.slice none 0 0),.fn (.func 133) [] [.ro [i p],.ro [i q]]] (.lst 1 ((q-p+1).toNat) (mkF p)):=by
 refine G7 (L:=[Zj2 p q]) Aa Ad U3 Tryz.func160 (UW Tryz.f160) (G0 (lpE (b:= .rangeFunc (rfF (VX (UB Tryz.f160) 0)) (xS (VX (UB Tryz.f160) 0)) Kf1 Ke5) VZ<|Jv3 p q VW UG)) (t:=need [Z9=Z9,U4 (XT p q),KM,Z9=Z9,U4 (XT p q),0=0,∀(i:Nat),i<0->[]=[iI (p+(i:Int))],U4 (AV.row 900)] (leaf (RV.lst 1 (q-p+1).toNat λj=>[iI (p+(j:Int))]))) VZ ?_
 simp only [VR.sat,UF,G6,GQ,UH,UK]
 (with_reducible repeat' first|apply Al|intro _)
 all_goals first|exact Ak|omega|with_reducible rfl|assumption|rfl|(rename_i h;exact absurd h (Aq _))|(rename_i hm;cases B2.1 hm;exact Ak)|skip
def oE:G4
 |[.x (.slice none 0 0),.fn (.func 133) [] [.ro [.x (.int .i64 p)],.ro [.x (.int .i64 q)]]]=>some ([-1000000<=p/\p<=1000000,-1000000<=q/\q<=1000000],.lst 1 ((q-p+1).toNat) (mkF p))
 |_=>none
theorem Qz7:VT VU 160 oE:=by
 refine ⟨(UM Tryz.func160),?_⟩;intro avs ns res h I;unfold oE at h;split at h;cases h;exact Qz8 _ _ (I _ VY) (I _ VY);cases h
def TR:G4
 |[.fn (.func 133) [] [.ro [.x (.int .i64 p)],.ro [.x (.int .i64 q)]]]=>some ([-1000000<=p/\p<=1000000,-1000000<=q/\q<=1000000],.lst 1 ((q-p+1).toNat) (mkF p))
 |_=>none
theorem Qa3(p q:Int)(VW: -1000000<=p/\p<=1000000)(UG: -1000000<=q/\q<=1000000):FJ VU 115 [.fn (.func 133) [] [.ro [i p],.ro [i q]]] (.lst 1 ((q-p+1).toNat) (mkF p)):=by
 refine D6 (L:=[]) (Ae Qz7 Aa) Ad U3 Tryz.func115 (UW Tryz.f115) G9 (t:=need [(-1000000:Int)<=p/\p<=1000000,(-1000000:Int)<=q/\q<=1000000] (leaf (lst 1 (q-p+1).toNat λj=>[iI (p+(j:Int))]))) VZ ?_;simp only [VR.sat,UF,UK];exact ⟨⟨VW,UG⟩,rfl,rfl,λ_ _=>rfl⟩
theorem nB:PE VU 115 TR:=by
 refine ⟨(UM Tryz.func115),?_⟩;intro avs ns res h I;unfold TR at h;split at h;cases h;exact Qa3 _ _ (I _ VY) (I _ VY);cases h
def keB(c:Int)(f:Cg)(S W wi Z:Int):Bool:=DH (λk=>keP c f wi Z (S+k)) (W-S+1).toNat
def Xf3:G4
 |[.roI [.x (.int .i64 c),.x (.int .i64 T),.x (.int .i64 U),.x (.int .i64 O),A,B] 26 f 0,.agg [.x (.int .i64 S),.x (.int .i64 W),.x (.int .i64 wi)],.x (.int .i64 Z)]=>some ([drB f,bdB f,1<=c/\c<=10,0<=S/\S<=W/\W<=10,0<=wi/\wi<=1000000,0<=Z/\Z<=100000],bl (keB c f S W wi Z))
 |_=>none
theorem Xp8(c T U O:Int)(A B:AV)(f:Cg)(S W wi Z:Int)(VW:drB f)(UG:bdB f)(HX:1<=c/\c<=10)(F6:0<=S/\S<=W/\W<=10)(qD:0<=wi/\wi<=1000000)(j6:0<=Z/\Z<=100000):U2 VU 80 [.roI [i c,i T,i U,i O,A,B] 26 f 0,.agg [i S,i W,i wi],i Z] (bl (keB c f S W wi Z)):=by
 refine G7 (L:=[]) (Ae Xw4 Aa) (Ai (Af fU (Af nB Ab)) Ac) U3 Tryz.func80 (UW Tryz.f80) G9 (t:=need [(-1000000:Int)<=S/\S<=1000000,(-1000000:Int)<=W/\W<=1000000] (need [UL 1 (W-S+1).toNat (mkF S),(W-S+1).toNat<=100000,drB f,bdB f,(1:Int)<=c/\c<=10,(0:Int)<=Z/\Z<=100000,(0:Int)<=wi/\wi<=1000000,∀(j:Nat),j<(W-S+1).toNat->(0:Int)<=col 0 (mkF S) j/\col 0 (mkF S) j<=10] (leaf (RV.x (.bool (DH (λk=>keP c f wi Z (col 0 (mkF S) k)) (W-S+1).toNat)))))) VZ ?_;simp only [VR.sat,UF,G6,GQ,UH,UK,keB];refine ⟨⟨VO,VO⟩,⟨λk hk=>rfl,VO,VW,UG,HX,j6,qD,λj hj=>?_⟩,rfl⟩;show 0<=S+(j:Int)/\S+(j:Int)<=10;omega
theorem Xp7:VT VU 80 Xf3:=by
 refine ⟨(UM Tryz.func80),?_⟩;intro avs ns res h I;unfold Xf3 at h;split at h;cases h;exact Xp8 _ _ _ _ _ _ _ _ _ _ _ (I _ VY) (I _ VY) (I _ VY) (I _ VY) (I _ VY) (I _ VY);cases h
end Go.Proofs.YtcdmhnaeifaikaaGreatDoor
namespace Go.Proofs.YtcdmhnaeifaikaaGreatDoor.Bo
open Go Go.Sx Go.RowKit
open Go.Sx.VR (need branch leaf)
open Go.Sx.AV (lst ptr agg roI tup top)
def Tr(c:Nat)(T U O:Int)(n:Nat)(a b u v:Cg)(h:Cg):Prop:=
 h 0=0/\h c=T/\(∀k,k<c->U<=h (k+1)-h k/\h (k+1)-h k<=O)/\ ∀j,j<n->h (b j).toNat-h (a j).toNat<=v j/\(b j<c->u j+1<=h (b j+1).toNat-h (a j).toNat)
def ob(c:Nat)(M:Nat->Cg)(h:Cg):Prop:= ∀x y,x<=c->y<=c->h y-h x<=M x y
theorem kR{c:Nat}{M:Nat->Cg}{h:Cg}{p q:Nat}{v:Int}(hp:p<=c)(hq:q<=c):ob c (bnd M p q v) h↔ob c M h/\h q-h p<=v:=by
 constructor;intro k;refine ⟨λx y hx hy=>Bx (k x y hx hy) (xI _ _ _ _ _ _),Bx (k p q hp hq) (cG _ _ _ _)⟩;rintro ⟨k1,k2⟩ x y hx hy;have h1:=k1 x y hx hy;unfold bnd xR;split;rename_i e;rw [e.1,e.2] at h1 ⊢;omega;exact h1
theorem Xp0{c:Nat}{M N:Nat->Cg}{h:Cg}(hm: ∀x y,M x y<=N x y)(k:ob c M h):ob c N h:=λx y hx hy=>Bx (k x y hx hy) (hm x y)
theorem Zx0(M:Nat->Cg)(o f t x y:Nat):fwS M o f t x y<=M x y:=xI _ _ _ _ _ _
theorem Wy2(M:Nat->Cg)(o f:Nat): ∀t x y,fwT M o f t x y<=M x y
 | 0,_,_=>Int.le_refl _
 |t+1,x,y=>Bx (Zx0 _ _ _ _ _ _) (Wy2 M o f t x y)
theorem Wy5(c:Nat)(M:Nat->Cg)(o:Nat): ∀f x y,fwF c M o f x y<=M x y
 | 0,_,_=>Int.le_refl _
 |f+1,x,y=>Bx (Wy2 _ _ _ _ _ _) (Wy5 c M o f x y)
theorem Xs7(c:Nat)(M:Nat->Cg)(o x y:Nat):fwO c M (o+1) x y<=fwO c M o x y:=Wy5 _ _ _ _ _ _
theorem bW(c:Nat)(M:Nat->Cg)(o:Nat): ∀d x y,fwO c M (o+d) x y<=fwO c M o x y
 | 0,_,_=>Int.le_refl _
 |d+1,x,y=>Bx (Xs7 c M (o+d) x y) (bW c M o d x y)
theorem Wy4(c:Nat)(M:Nat->Cg)(o x y:Nat):fwO c M o x y<=M x y:=by
 have:=bW c M 0 o x y
 rwa [Ap] at this
theorem Jn7{c:Nat}{M:Nat->Cg}{h:Cg}{o f:Nat}(ho:o<=c)(hf:f<=c)(k:ob c M h): ∀t,t<=c+1->ob c (fwT M o f t) h
 | 0,_=>k
 |t+1,ht=>by
  have ih:=Jn7 ho hf k t VO;refine (kR hf VO).2 ⟨ih,?_⟩;have h1:=ih f o hf ho;have h2:=ih o t ho VO;omega
theorem Jn9{c:Nat}{M:Nat->Cg}{h:Cg}{o:Nat}(ho:o<=c)(k:ob c M h): ∀f,f<=c+1->ob c (fwF c M o f) h
 | 0,_=>k
 |f+1,hf=>Jn7 ho VO (Jn9 ho k f VO) (c+1) (Am _)
theorem Jn8{c:Nat}{M:Nat->Cg}{h:Cg}(k:ob c M h): ∀o,o<=c+1->ob c (fwO c M o) h
 | 0,_=>k
 |o+1,ho=>Jn9 VO (Jn8 k o VO) (c+1) (Am _)
theorem Wy3{c:Nat}{M N:Nat->Cg}{o f:Nat}(h0:0<=M o o)(hN: ∀x y,N x y=if x<f/\y<=c then min (M x y) (M x o+M o y) else M x y): ∀t,t<=c+1-> ∀x y,fwT N o f t x y=if (x<f/\y<=c)\/(x=f/\y<t) then min (M x y) (M x o+M o y) else M x y
 | 0,_,x,y=>by
  show N x y=_;rw [hN];by_cases h:x<f/\y<=c;rw [if_pos h,if_pos (.inl h)];rw [if_neg h,if_neg VO]
 |t+1,ht,x,y=>by
  have ih:=Wy3 h0 hN t VO;show bnd (fwT N o f t) f t (fwT N o f t f o+fwT N o f t o t) x y=_;have e1:fwT N o f t f o=M f o:=by
   rw [ih];split<;>omega
  have e2:fwT N o f t o t=M o t:=by
   rw [ih];split<;>omega
  have e3:fwT N o f t f t=M f t:=by
   rw [ih,if_neg VO]
  unfold bnd xR;rw [e1,e2,e3];by_cases hxy:x=f/\y=t;rw [if_pos hxy,if_pos VO,hxy.1,hxy.2];rw [if_neg hxy,ih];by_cases h:(x<f/\y<=c)\/(x=f/\y<t);rw [if_pos h,if_pos VO];rw [if_neg h,if_neg VO]
theorem Wy6{c:Nat}{M:Nat->Cg}{o:Nat}(h0:0<=M o o): ∀f x y,fwF c M o f x y=if x<f/\y<=c then min (M x y) (M x o+M o y) else M x y
 | 0,x,y=>by
  rw [if_neg VO];rfl
 |f+1,x,y=>by
  show fwT (fwF c M o f) o f (c+1) x y=_;rw [Wy3 h0 (Wy6 h0 f) (c+1) (Am _)];by_cases h:(x<f/\y<=c)\/(x=f/\y<c+1);rw [if_pos h,if_pos VO];rw [if_neg h,if_neg VO]
theorem MC{c:Nat}{M:Nat->Cg}: ∀k,k<=c+1->(∀o,o<k->0<=fwO c M o o o)-> ∀p x y,p<k->x<=c->y<=c->fwO c M k x y<=fwO c M k x p+fwO c M k p y
 | 0,_,_,p,x,y,hp,_,_=>absurd hp (Aq _)
 |k+1,hk,hd,p,x,y,hp,hx,hy=>by
  have ih:=MC k VO (λo ho=>hd o VO);have h0:=hd k VO;have eq:=Wy6 (c:=c) h0 (c+1);show fwF c (fwO c M k) k (c+1) x y<=fwF c (fwO c M k) k (c+1) x p+fwF c (fwO c M k) k (c+1) p y;rw [eq x y,eq x p,eq p y,if_pos VO,if_pos VO,if_pos VO];rcases (show p=k\/p<k by omega) with rfl|hpk
  omega;have i1:=ih p x y hpk hx hy;have i2:=ih p x k hpk hx VO;have i3:=ih p k y hpk VO hy;have i4:=ih p k k hpk VO VO;omega
theorem Zs6{c:Nat}{h:Cg}:ob c (ini c (c+1) 0) h↔ ∀x y,x<=c->y<=c->h y-h x<=2000:=by
 constructor;intro k x y hx hy;have:=k x y hx hy;unfold ini at this;split at this<;>omega;intro k x y hx hy;unfold ini;by_cases e:x=y;subst e;rw [if_neg VO];omega;rw [if_pos VO];exact k x y hx hy
theorem Wm1{c:Nat}{U O:Int}{h:Cg}: ∀k,k<=c->(ob c (cel c U O k) h↔ob c (ini c (c+1) 0) h/\ ∀j,j<k->U<=h (j+1)-h j/\h (j+1)-h j<=O)
 | 0,_=>⟨λk=>⟨k,λj hj=>absurd hj (Aq _)⟩,λk=>k.1⟩
 |k+1,hk=>by
  have ih:=Wm1 (c:=c) (U:=U) (O:=O) (h:=h) k VO;show ob c (bnd (bnd (cel c U O k) k (k+1) O) (k+1) k (-U)) h↔_;rw [kR VO VO,kR VO VO,ih];constructor;rintro ⟨⟨⟨h1,h2⟩,h3⟩,h4⟩;refine ⟨h1,λj hj=>?_⟩;rcases (show j<k\/j=k by omega) with h|rfl
  exact h2 j h;omega;rintro ⟨h1,h2⟩;have h3:=h2 k VO;exact ⟨⟨⟨h1,λj hj=>h2 j VO⟩,VO⟩,VO⟩
def pX(c:Nat)(n:Nat)(a b u v:Cg):Prop:= ∀j,j<n->(0<=a j/\a j<=(c:Int)-1)/\(a j<=b j/\b j<=c)/\0<=u j/\u j<=v j/\v j<=2000
theorem Zc2{c:Nat}{T U O:Int}{a b u v:Cg}{h:Cg}: ∀n,pX c n a b u v->(ob c (rdM c T U O a b u v n) h↔ob c (cel c U O c) h/\h c-h 0=T/\ ∀j,j<n->h (b j).toNat-h (a j).toNat<=v j/\(b j<c->u j+1<=h (b j+1).toNat-h (a j).toNat))
 | 0,_=>by
  show ob c (bnd (bnd (cel c U O c) 0 c T) c 0 (-T)) h↔_;rw [kR VO VO,kR VO VO];constructor;rintro ⟨⟨h1,h2⟩,h3⟩;exact ⟨h1,VO,λj hj=>absurd hj (Aq _)⟩;rintro ⟨h1,h2,_⟩;exact ⟨⟨h1,VO⟩,VO⟩
 |n+1,hr=>by
  have ih:=Zc2 (c:=c) (T:=T) (U:=U) (O:=O) (a:=a) (b:=b) (u:=u) (v:=v) (h:=h) n (λj hj=>hr j VO);have I:=hr n VO;have key:ob c (rdM c T U O a b u v (n+1)) h↔ob c (rdM c T U O a b u v n) h/\h (b n).toNat-h (a n).toNat<=v n/\(b n<c->u n+1<=h (b n+1).toNat-h (a n).toNat):=by
   show ob c (rdS c (rdM c T U O a b u v n) _ _ _ _) h↔_;unfold rdS;split;rename_i hb;rw [kR VO VO,kR VO VO];constructor;rintro ⟨⟨h1,h2⟩,h3⟩;exact ⟨h1,h2,λ_=>VO⟩;rintro ⟨h1,h2,h3⟩;have:=h3 hb;exact ⟨⟨h1,h2⟩,VO⟩;rename_i hb;rw [kR VO VO];constructor;rintro ⟨h1,h2⟩;exact ⟨h1,h2,λh=>absurd h hb⟩;rintro ⟨h1,h2,_⟩;exact ⟨h1,h2⟩
  rw [key,ih];constructor;rintro ⟨⟨h1,h2,h3⟩,h4⟩;refine ⟨h1,h2,λj hj=>?_⟩;rcases (show j<n\/j=n by omega) with h|rfl
  exact h3 j h;exact h4;rintro ⟨h1,h2,h3⟩;exact ⟨⟨h1,h2,λj hj=>h3 j VO⟩,h3 n VO⟩
theorem OR{U:Int}{h:Cg}{c:Nat}(hl:0<=U)(hs: ∀k,k<c->U<=h (k+1)-h k)(x:Nat): ∀d,x+d<=c->h x<=h (x+d)
 | 0,_=>Int.le_refl _
 |d+1,hd=>by
  have ih:=OR hl hs x d VO;have:=hs (x+d) VO;rw [←Ba];omega
theorem Ji4{c:Nat}{T U O:Int}{n:Nat}{a b u v:Cg}{h:Cg}(hb:1<=U/\U<=O/\O<=200/\1<=T/\T<=2000)(hr:pX c n a b u v)(h0:h 0=0):Tr c T U O n a b u v h↔ob c (rdM c T U O a b u v n) h:=by
 rw [Zc2 n hr,Wm1 c (Am _),Zs6];constructor;rintro ⟨_,h1,h2,h3⟩;refine ⟨⟨λx y hx hy=>?_,h2⟩,VO,h3⟩;have m:=λx d=>OR (U:=U) (h:=h) (c:=c) VO (λk hk=>(h2 k hk).1) x d;have m1:=m 0 x VO;have m2:=m y (c-y) VO;rw [Ap] at m1;rw [show y+(c-y)=c by omega] at m2
 omega;rintro ⟨⟨_,h2⟩,h3,h4⟩;exact ⟨h0,VO,h2,h4⟩
theorem Xo1{c:Int}{n:Nat}{a b u v:Cg}(hc:1<=c/\c<=10)(h:DH (λk=>rdB c (a k) (b k) (u k) (v k)) n=true):pX c.toNat n a b u v:=λj hj=>by
 have:=Zb9 (H3.1 h j hj);omega
section
variable {c:Nat}{T U O:Int}
theorem Qg6{n:Nat}{a b u v:Cg}:okR c T U O n a b u v=true↔ ∀k,k<=c->0<=fwM c T U O n a b u v k k:=by
 unfold okR;rw [H3];constructor;intro h k hk;simpa using h k VO;intro h k hk;simpa using h k VO
theorem Wf8{n:Nat}{a b u v:Cg}{h:Cg}(hb:1<=U/\U<=O/\O<=200/\1<=T/\T<=2000)(hr:pX c n a b u v)(h0:h 0=0):Tr c T U O n a b u v h↔ob c (fwM c T U O n a b u v) h:=by
 rw [Ji4 hb hr h0];exact ⟨λk=>Jn8 k (c+1) (Am _),λk=>Xp0 (λx y=>Wy4 c _ (c+1) x y) k⟩
theorem Ji7{n:Nat}{a b u v:Cg}{h:Cg}(hb:1<=U/\U<=O/\O<=200/\1<=T/\T<=2000)(hr:pX c n a b u v)(k:Tr c T U O n a b u v h){x:Nat}(hx:x<=c): -(fwM c T U O n a b u v x 0)<=h x/\h x<=fwM c T U O n a b u v 0 x:=by
 have k1:=(Wf8 hb hr k.1).1 k;have h1:=k1 x 0 hx VO;have h2:=k1 0 x VO hx;have:=k.1;omega
theorem SZ{n:Nat}{a b u v:Cg}(h:okR c T U O n a b u v=true){p x y:Nat}(hp:p<=c)(hx:x<=c)(hy:y<=c):fwM c T U O n a b u v x y<=fwM c T U O n a b u v x p+fwM c T U O n a b u v p y:=by
 refine MC (c+1) (Am _) (λo ho=>?_) p x y VO hx hy;have h1:=Qg6.1 h o VO;have h2:=bW c (rdM c T U O a b u v n) o (c+1-o) o o;rw [show o+(c+1-o)=c+1 by omega] at h2
 exact Bx h1 h2
theorem Zr4{a b u v:Cg}(n:Nat):rdM c T U O a b u v n 0 0<=0:=by
 have h1:=E9 c T U O a b u v 0 n (Ao _) 0 0;have h2:rdM c T U O a b u v 0 0 0<=cel c U O c 0 0:=Bx (xI _ _ _ _ _ _) (xI _ _ _ _ _ _);have h3: ∀k,cel c U O k 0 0<=0:=by
  intro k
  induction k with
  |zero=>unfold cel ini;rw [if_neg VO];exact Int.le_refl _
  |succ k ih=>exact Bx (Bx (xI _ _ _ _ _ _) (xI _ _ _ _ _ _)) ih
 exact Bx h1 (Bx h2 (h3 c))
theorem Zd2{n:Nat}{a b u v:Cg}(h:okR c T U O n a b u v=true):fwM c T U O n a b u v 0 0=0:=by
 have h1:=Qg6.1 h 0 (Ao _);have h2:fwM c T U O n a b u v 0 0<=0:=Bx (Wy4 c _ (c+1) 0 0) (Zr4 n);omega
theorem Ji6{n:Nat}{a b u v:Cg}(hb:1<=U/\U<=O/\O<=200/\1<=T/\T<=2000)(hr:pX c n a b u v)(h:okR c T U O n a b u v=true):Tr c T U O n a b u v (λk=>fwM c T U O n a b u v 0 k):=by
 refine (Wf8 hb hr (Zd2 h)).2 λx y hx hy=>?_;have:=SZ h hx (Ao _) hy;show fwM c T U O n a b u v 0 y-fwM c T U O n a b u v 0 x<=_;omega
theorem Ji5{n:Nat}{a b u v:Cg}(hb:1<=U/\U<=O/\O<=200/\1<=T/\T<=2000)(hr:pX c n a b u v)(h:okR c T U O n a b u v=true):Tr c T U O n a b u v (λk=> -(fwM c T U O n a b u v k 0)):=by
 refine (Wf8 hb hr (by rw [Zd2 h];rfl)).2 λx y hx hy=>?_
 have:=SZ h hy hx (Ao _);show -(fwM c T U O n a b u v y 0)- -(fwM c T U O n a b u v x 0)<=_;omega
end
end Go.Proofs.YtcdmhnaeifaikaaGreatDoor.Bo
namespace Go.Proofs.YtcdmhnaeifaikaaGreatDoor
open Go Go.Sx Go.RowKit Bo
open Go.Sx.VR (need branch leaf)
open Go.Sx.AV (lst ptr agg roI tup top)
def usB(c S W wi:Int):Bool:=bt 0 S W&&decide (W<=c)&&bt 0 wi 1000
section
variable (c T U O:Int)
def vaB(m:Nat)(p q:Cg)(pl ph dl dh:Int):Bool:=decide (Pt.blE m p q pl ph=0)&&qQ c T U O&&insB 0 dl dh 100
def rdE(n:Nat)(a b u v:Cg)(m:Nat)(p q:Cg)(pl ph dl dh:Int):Int:=if n>12\/m>8 then 3 else if vaB c T U O m p q pl ph dl dh=true/\(eB c T U O n a b u v=0\/eB c T U O n a b u v=9) then eB c T U O n a b u v else 1
def bdL(n:Nat)(a b u v:Cg)(m:Nat)(p q:Cg)(pl ph:Int)(k:Nat):Int:=dnI (-(fwB c T U O n a b u v k 0)*Pt.boilI m p q pl) T
def bdH(n:Nat)(a b u v:Cg)(m:Nat)(p q:Cg)(pl ph:Int)(k:Nat):Int:=upI (fwB c T U O n a b u v 0 k*Pt.boilI m p q ph) T
end
def wkF(pl ph dl dh:Int)(L H:Cg)(k j:Nat):Int:=if j=0 then pl else if j=1 then ph else if j=2 then dl else if j=3 then dh else if j<4+2*k then (if j%2=0 then L ((j-4) / 2) else H ((j-4) / 2)) else 0
def wkA(c T U O:Int)(n:Nat)(a b u v:Cg)(m:Nat)(p q:Cg)(pl ph dl dh:Int):Cg:=wkF pl ph dl dh (bdL c T U O n a b u v m p q pl ph) (bdH c T U O n a b u v m p q pl ph) (c.toNat+1)
theorem Xm6{c S W wi:Int}:usB c S W wi=true↔(0<=S/\S<=W)/\W<=c/\0<=wi/\wi<=1000:=by
 simp only [usB,HF,vK,bt_iff,and_assoc]
theorem Zb0{c:Nat}{T U O:Int}{n:Nat}{a b u v:Cg}{h:Cg}(hl:0<=U)(k:Tr c T U O n a b u v h){x:Nat}(hx:x<=c):0<=h x/\h x<=T:=by
 obtain ⟨h0,h1,h2,_⟩:=k;have up: ∀y,y<=c->0<=h y:=by
  intro y
  induction y with
  |zero=>intro _;omega
  |succ y ih=>
   intro hy;have:=h2 y VO;have:=ih VO;omega
 have dn: ∀d,d<=c->h (c-d)<=T:=by
  intro d
  induction d with
  |zero=>intro _;rw [Nat.sub_zero,h1];exact Int.le_refl _
  |succ d ih=>
   intro hd;have:=h2 (c-(d+1)) VO;rw [show c-(d+1)+1=c-d by omega] at this
   have:=ih VO;omega
 refine ⟨up x hx,?_⟩;have:=dn (c-x) VO;rw [show c-(c-x)=x by omega] at this
 exact this
theorem Zc8{c T U O:Int}{n:Nat}{a b u v:Cg}(h:eB c T U O n a b u v=0){k:Nat}(hk:(k:Int)<=c):0<= -(fwB c T U O n a b u v k 0)/\ -(fwB c T U O n a b u v k 0)<=fwB c T U O n a b u v 0 k/\fwB c T U O n a b u v 0 k<=T:=by
 obtain ⟨h1,_,h3⟩:=dO.1 h;have hf:=v7.1 h1;have hb:=qA hf.1;have hr:=Xo1 hb.1 hf.2.2;have tl:=Ji5 hb.2.1 hr h3;have th:=Ji6 hb.2.1 hr h3;have g1:=Zb0 VO tl (x:=k) VO;have g2:=Zb0 VO th (x:=k) VO;have g3:=Ji7 hb.2.1 hr tl (x:=k) VO;unfold fwB;omega
theorem pB{c T U O:Int}{m:Nat}{p q:Cg}{pl ph dl dh:Int}:vaB c T U O m p q pl ph dl dh=true↔Pt.blE m p q pl ph=0/\qQ c T U O=true/\0<=dl/\dl<=dh/\dh<=100:=by
 simp only [vaB,HF,vK,insB_iff,and_assoc]
theorem Wg5{m:Nat}{p q:Cg}{pl ph:Int}(h:Pt.blE m p q pl ph=0):(1<=Pt.boilI m p q pl/\Pt.boilI m p q pl<=2000)/\(1<=Pt.boilI m p q ph/\Pt.boilI m p q ph<=2000)/\Pt.boilI m p q pl<=Pt.boilI m p q ph/\Pt.blLo m p q pl ph=Pt.boilI m p q pl/\Pt.blHi m p q pl ph=Pt.boilI m p q ph:=by
 obtain ⟨h1,h2,h3,h4,h5,h6⟩:=Pt.blE_ok h;have a1:=Pt.boil_spec (x:=pl) h1 h3 VO;have a2:=Pt.boil_spec (x:=ph) h1 h3 VO;have a3:=Pt.boil_mono h1 h3 h4 h5 h6;exact ⟨VO,VO,a3,if_pos h,if_pos h⟩
theorem Qf9{x y X Y:Int}(hx:0<=x/\x<=X)(hy:0<=y/\y<=Y):0<=x*y/\x*y<=X*Y:=by
 have h1:=Bz hx.1 hy.1;have h2:=Int.mul_le_mul hx.2 hy.2 hy.1 (show 0<=X by omega)
 omega
theorem Zn0(c T U O:Int)(n:Nat)(a b u v:Cg)(m:Nat)(p q:Cg)(pl ph dl dh S W wi:Int):U2 VU 113 [.agg [i c,i T,i U,i O,rds n a b u v,Pt.scs m p q,i pl,i ph,i dl,i dh],.agg [i S,i W,i wi]] (bl (usB c S W wi)):=by
 refine U6 (L:=[]) (Ae RR Aa) U3 Tryz.func113 (UW Tryz.f113) U7 (t:=branch (bt (0:Int) S W) (branch (decide (W<=c)) (leaf (RV.x (.bool (bt (0:Int) wi (1000:Int))))) (leaf (RV.x (Y0)))) (leaf (RV.x (Y0)))) VZ ?_;simp only [VR.sat,UF,G6,GQ,UH,UK];all_goals (simp+contextual [usB,Bool.and_assoc]);all_goals omega
def Zd9:G4
 |[.agg [.x (.int .i64 c),.x (.int .i64 T),.x (.int .i64 U),.x (.int .i64 O),.lst 4 n fr,.lst 2 m ft,.x (.int .i64 pl),.x (.int .i64 ph),.x (.int .i64 dl),.x (.int .i64 dh)],.agg [.x (.int .i64 S),.x (.int .i64 W),.x (.int .i64 wi)]]=>some ([UL 4 n fr,UL 2 m ft],bl (usB c S W wi))
 |_=>none
theorem Zm9:VT VU 113 Zd9:=by
 refine ⟨(UM Tryz.func113),?_⟩;intro avs ns res h I;unfold Zd9 at h;split at h;cases h;have hr:UL 4 _ _:=I _ GN;have ht:UL 2 _ _:=I _ (D1 _ GN);exact (Zn0 _ _ _ _ _ _ _ _ _ _ _ _ _ _ _ _ _ _ _).same (.cons (PA.same (.cons (.refl _) (.cons (.refl _) (.cons (.refl _) (.cons (.refl _) (.cons (.lst 4 _ _ _ hr) (.cons (.lst 2 _ _ _ ht) (.cons (.refl _) (.cons (.refl _) (.cons (.refl _) (.cons (.refl _) .nil))))))))))) (.cons (.refl _) .nil));cases h
theorem Wf1(c T U O:Int)(n:Nat)(a b u v:Cg)(m:Nat)(p q:Cg)(pl ph dl dh:Int)(VW:m<=100000):U2 VU 129 [.agg [i c,i T,i U,i O,rds n a b u v,Pt.scs m p q,i pl,i ph,i dl,i dh]] (.tup [.agg [i (Pt.blLo m p q pl ph),i (Pt.blHi m p q pl ph)],bl (vaB c T U O m p q pl ph dl dh)]):=by
 refine G7 (L:=[]) (Ae Pt.Boils_ok (Ae Bo.CheckTube_ok (Ae BA Aa))) Ad U3 Tryz.func129 (UW Tryz.f129) G9 (t:=let z0:=(leaf (RV.tup [RV.agg [RV.x (.int .i64 (Pt.blLo m p q pl ph)),RV.x (.int .i64 (Pt.blHi m p q pl ph))],RV.x (Y0)]));(need [UL 2 m λk=>[Pt.i (p k),Pt.i (q k)],m<=100000] (branch (Pt.blE m p q pl ph==0) (branch ((if qQ c T U O=true then (0:Int) else (1:Int))==0) (leaf (RV.tup [RV.agg [RV.x (.int .i64 (Pt.blLo m p q pl ph)),RV.x (.int .i64 (Pt.blHi m p q pl ph))],RV.x (.bool (insB (0:Int) dl dh (100:Int)))])) z0) z0))) VZ ?_
 simp only [VR.sat,UF,G6,GQ,UH,UK,beq_iff_eq,beq_eq_false_iff_ne];refine ⟨⟨Pt.isRec2 m p q,VW⟩,λh1=>⟨λh2=>?_,λh2=>?_⟩,λh1=>?_⟩;cases ht:qQ c T U O;rw [ht] at h2;simp at h2;simp [vaB,h1,ht];cases ht:qQ c T U O;simp [vaB,ht];rw [ht] at h2;simp at h2;simp [vaB,h1]
def cO:G4
 |[.agg [.x (.int .i64 c),.x (.int .i64 T),.x (.int .i64 U),.x (.int .i64 O),.lst 4 n fr,.lst 2 m ft,.x (.int .i64 pl),.x (.int .i64 ph),.x (.int .i64 dl),.x (.int .i64 dh)]]=>some ([UL 4 n fr,UL 2 m ft,m<=100000],.tup [.agg [i (Pt.blLo m (Pt.col 0 ft) (Pt.col 1 ft) pl ph),i (Pt.blHi m (Pt.col 0 ft) (Pt.col 1 ft) pl ph)],bl (vaB c T U O m (Pt.col 0 ft) (Pt.col 1 ft) pl ph dl dh)])
 |_=>none
theorem eU:VT VU 129 cO:=by
 refine ⟨(UM Tryz.func129),?_⟩;intro avs ns res h I;unfold cO at h;split at h;cases h;have hr:UL 4 _ _:=I _ GN;have ht:UL 2 _ _:=I _ (D1 _ GN);exact (Wf1 _ _ _ _ _ _ _ _ _ _ _ _ _ _ _ _ (I _ VY)).same (.cons (PA.same (.cons (.refl _) (.cons (.refl _) (.cons (.refl _) (.cons (.refl _) (.cons (.lst 4 _ _ _ hr) (.cons (.lst 2 _ _ _ ht) (.cons (.refl _) (.cons (.refl _) (.cons (.refl _) (.cons (.refl _) .nil))))))))))) .nil);cases h
section
variable {pl ph dl dh:Int}{L H:Cg}
theorem Xl7{k j:Nat}:kA (4+2*k) [L k,H k] (wkF pl ph dl dh L H k) j=wkF pl ph dl dh L H (k+1) j:=by
 simp only [kA,UX];unfold wkF;by_cases h1:j=4+2*k+1;rw [if_pos h1,if_neg VO,if_neg VO,if_neg VO,if_neg VO,if_pos VO,if_neg VO,show (j-4) / 2=k by omega]
 rw [if_neg h1];by_cases h2:j=4+2*k;rw [if_pos h2,if_neg VO,if_neg VO,if_neg VO,if_neg VO,if_pos VO,if_pos VO,show (j-4) / 2=k by omega]
 rw [if_neg h2];by_cases h3:j<4+2*k;rw [if_pos h3,if_pos (show j<4+2*(k+1) by omega)]
 rw [if_neg h3,if_neg (show ¬j<4+2*(k+1) by omega)]
theorem Xl6{j:Nat}(hj:j<26):UE ([pl,ph,dl,dh]++eH 22) j=wkF pl ph dl dh L H 0 j:=by
 rcases (show j=0\/j=1\/j=2\/j=3\/j=4\/j=5\/j=6\/j=7\/j=8\/j=9\/j=10\/j=11\/j=12\/j=13\/j=14\/j=15\/j=16\/j=17\/j=18\/j=19\/j=20\/j=21\/j=22\/j=23\/j=24\/j=25 by omega) with rfl|rfl|rfl|rfl|rfl|rfl|rfl|rfl|rfl|rfl|rfl|rfl|rfl|rfl|rfl|rfl|rfl|rfl|rfl|rfl|rfl|rfl|rfl|rfl|rfl|rfl<;>rfl
end
abbrev QR(n:Nat)(a:Cg)(b:Cg)(u:Cg)(v:Cg):AV:=lst 4 n λk=>[iI (a k),iI (b k),iI (u k),iI (v k)]
abbrev QX(c:Int)(T:Int)(U:Int)(O:Int)(n:Nat)(a:Cg)(b:Cg)(u:Cg)(v:Cg):AV:=lst 2 (AR c T U O n a b u v) λk=>[iI (-fwB c T U O n a b u v k 0),iI (fwB c T U O n a b u v 0 k)]
abbrev QY(m:Nat)(p:Cg)(q:Cg):AV:=lst 2 m λk=>[iI (p k),iI (q k)]
abbrev Z3:AV:=AV.x (.pointer none)
section
variable (c T U O:Int)(n:Nat)(a b u v:Cg)(m:Nat)(p q:Cg)(pl ph dl dh:Int)
def Jb3:St:={σ:=[agg [iI c,iI T,iI U,iI O,QR n a b u v,QY m p q,iI pl,iI ph,iI dl,iI dh],ptr 0 0,Z3,iI 0,ptr 18 0,AV.x (.bool (vaB c T U O m p q pl ph dl dh)),QX c T U O n a b u v,iI (eB c T U O n a b u v),ptr 45 0]++HR 43 [QX c T U O n a b u v,iI (AR c T U O n a b u v:Int)]++HR 31 [],m:=[(45,GU.ints 247 [iI c,iI T,iI U,iI O,QR n a b u v,QY m p q] 26 λa=>UE ([pl,ph,dl,dh]++eH 22) a),(18,GU.cells 39 [iI (Pt.blLo m p q pl ph),iI (Pt.blHi m p q pl ph)]),(0,GU.cells 105 [iI c,iI T,iI U,iI O,QR n a b u v,QY m p q,iI pl,iI ph,iI dl,iI dh])],nx:=50}
noncomputable def Kc0:Code:=UD (VX (UB Tryz.f92) 0)
def Wp8(k:Nat):St:=(upE [(54,i k)] [(45,.ints 247 [i c,i T,i U,i O,rds n a b u v,Pt.scs m p q] 26 (wkF pl ph dl dh (bdL c T U O n a b u v m p q pl ph) (bdH c T U O n a b u v m p q pl ph) k)),(18,.cells 39 [i (Pt.boilI m p q pl),i (Pt.boilI m p q ph)]),(0,.cells 105 [i c,i T,i U,i O,rds n a b u v,Pt.scs m p q,i pl,i ph,i dl,i dh])] (Jb3 c T U O n a b u v m p q pl ph dl dh))
def aP(k:Nat):G8->Option St
 | .exit 1=>some (upE [(54,i ((c.toNat+1:Nat):Int))] [(45,.ints 247 [i c,i T,i U,i O,rds n a b u v,Pt.scs m p q] 26 (wkF pl ph dl dh (bdL c T U O n a b u v m p q pl ph) (bdH c T U O n a b u v m p q pl ph) (c.toNat+1))),(18,.cells 39 [i (Pt.boilI m p q pl),i (Pt.boilI m p q ph)]),(0,.cells 105 [i c,i T,i U,i O,rds n a b u v,Pt.scs m p q,i pl,i ph,i dl,i dh])] (Jb3 c T U O n a b u v m p q pl ph dl dh))
 |_=>none
def Jx0:CT:= .leaf (.exit 1,(aP c T U O n a b u v m p q pl ph dl dh 0 (.exit 1)).getD (Jb3 c T U O n a b u v m p q pl ph dl dh))
def Zf8:UN:=GO [] (HI (Wp8 c T U O n a b u v m p q pl ph dl dh (0)) (Jx0 c T U O n a b u v m p q pl ph dl dh))
end
abbrev X5(c:Int)(T:Int)(U:Int)(O:Int)(n:Nat)(a:Cg)(b:Cg)(u:Cg)(v:Cg)(m:Nat)(p:Cg)(q:Cg)(pl:Int)(ph:Int)(dl:Int)(dh:Int):Prop:=agg [iI c,iI T,iI U,iI O,QR n a b u v,QY m p q,iI pl,iI ph,iI dl,iI dh]=agg [iI c,iI T,iI U,iI O,QR n a b u v,QY m p q,iI pl,iI ph,iI dl,iI dh]
abbrev K6:Prop:=(0:Int)=0
abbrev KU:List (Nat×G4):=[(129,cO),(130,Bo.S_Heights),(131,Qc5),(132,Zz2)]
abbrev Y5:Prop:=ptr 18 0=ptr 18 0
abbrev YQ(n:Nat)(a:Cg)(b:Cg)(u:Cg)(v:Cg):Prop:=(QR n a b u v)=QR n a b u v
abbrev YU(m:Nat)(p:Cg)(q:Cg):Prop:=(QY m p q)=QY m p q
abbrev YX(c:Int)(T:Int)(U:Int)(O:Int)(n:Nat)(a:Cg)(b:Cg)(u:Cg)(v:Cg):Prop:=(QX c T U O n a b u v)=QX c T U O n a b u v
section
variable (c T U O:Int)(n:Nat)(a b u v:Cg)(m:Nat)(p q:Cg)(pl ph dl dh:Int)
theorem Jl6(VW:n<=12)(UG:m<=8)(HX:vaB c T U O m p q pl ph dl dh=true)(F6:eB c T U O n a b u v=0):GD VU (.loop Kc0) (Zf8 c T U O n a b u v m p q pl ph dl dh):=by
 refine UV [] (L:=[]) (Ae eU (Ae Bo.Heights_ok (Ae cB (Ae Wf6 Aa)))) Ad U3 U7 (X:=Nat) (Wp8 c T U O n a b u v m p q pl ph dl dh) (λk=>k<=c.toNat+1) (λk=>c.toNat+1-k) (aP c T U O n a b u v m p q pl ph dl dh) (x0:=0) VY ?_ ?_ ?_;rintro k;kernel_rfl;rintro k y E h;unfold aP at h;split at h;cases h;kernel_rfl;cases h;rintro Q hQ k hx;refine ⟨(k+1),?_⟩;(with_reducible refine DG (t:=let z0:=(bdL c T U O n a b u v m p q pl ph);let z1:=(bdH c T U O n a b u v m p q pl ph);let z5:=fwB c T U O n a b u v;let z2:=z5 k;let z3:=Pt.boilI m p q pl;let z4:=Pt.boilI m p q ph;let z6:=(AR c T U O n a b u v);let z7:=YX c T U O n a b u v;(branch (decide ((k:Int)<(z6:Int))) (need [UO k z6] (need [VQ (-z2 0*z3)] (need [(1:Int)<=T/\T<=100000,(0:Int)<= -z2 0*z3/\ -z2 0*z3<=1000000000000] (need [VQ (z5 0 k*z4)] (need [(1:Int)<=T/\T<=100000,(0:Int)<=z5 0 k*z4/\z5 0 k*z4<=1000000000000] (need [UO k 11] (need [k*2+10-1-1-1-1-1-1+List.length [dnI (-z2 0*z3) T,upI (z5 0 k*z4) T]<=26] (need [VQ ((k:Int)+1)] (need [X5 c T U O n a b u v m p q pl ph dl dh,KM,Z3=Z3,K6,Y5,U4 (vaB c T U O m p q pl ph dl dh),z7,U4 (eB c T U O n a b u v),U4 (ptr 45 0),z7,U4 (z6:Int),(k:Int)+1=(↑(k+1):Int),c=c,T=T,U=U,O=O,YQ n a b u v,YU m p q,26=26,GZ 26 (UX (k*2+10-1-1-1-1-1-1+1) (upI (z5 0 k*z4) T) (UX (k*2+10-1-1-1-1-1-1) (dnI (-z2 0*z3) T) (wkF pl ph dl dh z0 z1 k))) (wkF pl ph dl dh z0 z1 (k+1)),U4 (z3),U4 (z4),c=c,T=T,U=U,O=O,YQ n a b u v,YU m p q,pl=pl,ph=ph,dl=dl,dh=dh] (leaf G8.normal)))))))))) (need [X5 c T U O n a b u v m p q pl ph dl dh,KM,Z3=Z3,K6,Y5,U4 (vaB c T U O m p q pl ph dl dh),z7,U4 (eB c T U O n a b u v),U4 (ptr 45 0),z7,U4 (z6:Int),(k:Int)=(↑(Int.toNat c+1):Int),c=c,T=T,U=U,O=O,YQ n a b u v,YU m p q,26=26,GZ 26 (wkF pl ph dl dh z0 z1 k) (wkF pl ph dl dh z0 z1 (Int.toNat c+1)),U4 (z3),U4 (z4),c=c,T=T,U=U,O=O,YQ n a b u v,YU m p q,pl=pl,ph=ph,dl=dl,dh=dh] (leaf (G8.exit 1))))) VZ ?_);simp only [Jx0,aP,VR.sat,GW] at hQ;have hv:=pB.1 HX;have hb:=qA hv.2.1;have hs:=Wg5 hv.1;have hl:AR c T U O n a b u v=c.toNat+1:=if_pos F6;simp only [VR.sat,UF,G6,GQ,UH,VQ,UK,H6,DR,RP,hl]
 refine ⟨λh=>?_,λh=>?_⟩
 ·have hk:=Zc8 F6 (k:=k) VO;have m1:=Qf9 (x:= -(fwB c T U O n a b u v k 0)) (y:=Pt.boilI m p q pl) (X:=2000) (Y:=2000) VO VO;have m2:=Qf9 (x:=fwB c T U O n a b u v 0 k) (y:=Pt.boilI m p q ph) (X:=2000) (Y:=2000) VO VO;have e6:k*2+10-1-1-1-1-1-1=4+2*k:=VO;rw [e6]
  (with_reducible repeat' first|apply Al|intro _)
  all_goals first|exact Ak|omega|with_reducible rfl|exact Xl7
 ·obtain rfl:k=c.toNat+1:=VO
  (with_reducible repeat' first|apply Al|intro _)
  all_goals first|exact Ak|omega|with_reducible rfl|(rename_i E hE;cases hE;exact hQ)
theorem aJ:US VU 92 [.agg [i c,i T,i U,i O,rds n a b u v,Pt.scs m p q,i pl,i ph,i dl,i dh]] (.branch (decide (rdE c T U O n a b u v m p q pl ph dl dh=0)) (.leaf (.tup [.roI [i c,i T,i U,i O,rds n a b u v,Pt.scs m p q] 26 (wkA c T U O n a b u v m p q pl ph dl dh) 0,i 0])) (.leaf (.tup [.x (.pointer none),i (rdE c T U O n a b u v m p q pl ph dl dh)]))):=by
 refine GY (L:=[FX [n<=12,m<=8,vaB c T U O m p q pl ph dl dh=true,eB c T U O n a b u v=0] (Zf8 c T U O n a b u v m p q pl ph dl dh)]) (Ae eU (Ae Bo.Heights_ok (Ae cB (Ae Wf6 Aa)))) Ad U3 Tryz.func92 (UW Tryz.f92) (G0 (lpE (b:= .loop Kc0) VZ<|(DB (ps:=[n<=12,m<=8,vaB c T U O m p q pl ph dl dh=true,eB c T U O n a b u v=0]) (λh=>Jl6 c T U O n a b u v m p q pl ph dl dh h.1 h.2.1 h.2.2.1 h.2.2.2)).N)) (t:=let z0:=(leaf (tup [roI [iI c,iI T,iI U,iI O,QR n a b u v,QY m p q] 26 (λj=>wkF pl ph dl dh (bdL c T U O n a b u v m p q pl ph) (bdH c T U O n a b u v m p q pl ph) (Int.toNat c+1) j) 0,iI 0]));let z1:=eB c T U O n a b u v;let z2:=vaB c T U O m p q pl ph dl dh;let z3:=YX c T U O n a b u v;(branch (decide ((n:Int)>12)) (leaf (tup [Z3,iI 3])) (branch (decide ((m:Int)>8)) (leaf (tup [Z3,iI 3])) (need [UL 4 n λk=>[Bo.i (a k),Bo.i (b k),Bo.i (u k),Bo.i (v k)],UL 2 m λk=>[Pt.i (p k),Pt.i (q k)],m<=100000] (need [UL 4 n λk=>[Bo.i (a k),Bo.i (b k),Bo.i (u k),Bo.i (v k)]] (branch (!z2) (leaf (tup [Z3,iI 1])) (branch (z1 != 0) (branch (z1 != 9) (leaf (tup [Z3,iI 1])) (branch (z1 != 0) (leaf (tup [Z3,iI (z1)])) (need [n<=12,m<=8,z2=true,z1=0] (need [X5 c T U O n a b u v m p q pl ph dl dh,KM,Z3=Z3,K6,Y5,U4 (z2),z3,U4 (z1),ptr 47 0=ptr 45 0,z3,U4 (AR c T U O n a b u v:Int),(0:Int)=((0:Nat):Int),False,Pt.blLo m p q pl ph=Pt.boilI m p q pl,Pt.blHi m p q pl ph=Pt.boilI m p q ph,c=c,T=T,U=U,O=O,YQ n a b u v,YU m p q,pl=pl,ph=ph,dl=dl,dh=dh] z0)))) (branch (z1 != 0) (leaf (tup [Z3,iI (z1)])) (need [n<=12,m<=8,z2=true,z1=0] (need [X5 c T U O n a b u v m p q pl ph dl dh,KM,Z3=Z3,K6,Y5,U4 (z2),z3,U4 (z1),U4 (ptr 45 0),z3,U4 (AR c T U O n a b u v:Int),(0:Int)=((0:Nat):Int),c=c,T=T,U=U,O=O,YQ n a b u v,YU m p q,List.length ([pl,ph,dl,dh]++eH 22)=26,GZ 26 (UE ([pl,ph,dl,dh]++eH 22)) (wkF pl ph dl dh (bdL c T U O n a b u v m p q pl ph) (bdH c T U O n a b u v m p q pl ph) 0),Pt.blLo m p q pl ph=Pt.boilI m p q pl,Pt.blHi m p q pl ph=Pt.boilI m p q ph,c=c,T=T,U=U,O=O,YQ n a b u v,YU m p q,pl=pl,ph=ph,dl=dl,dh=dh] z0)))))))))) VZ ?_
 intro Q hQ;have e3:(n>12\/m>8)->rdE c T U O n a b u v m p q pl ph dl dh=3:=λh=>if_pos h;have e1: ¬(n>12\/m>8)-> ¬(vaB c T U O m p q pl ph dl dh=true/\(eB c T U O n a b u v=0\/eB c T U O n a b u v=9))->rdE c T U O n a b u v m p q pl ph dl dh=1:=λh h'=>by
  unfold rdE;rw [if_neg h,if_neg h']
 have e0: ¬(n>12\/m>8)->vaB c T U O m p q pl ph dl dh=true->(eB c T U O n a b u v=0\/eB c T U O n a b u v=9)->rdE c T U O n a b u v m p q pl ph dl dh=eB c T U O n a b u v:=λh h' h''=>by
  unfold rdE;rw [if_neg h,if_pos ⟨h',h''⟩]
 simp only [VR.sat,UF,UK,H6,FZ,Ax,Bool.not_eq_false'] at hQ ⊢;have bad: ∀k:Int,k≠0->rdE c T U O n a b u v m p q pl ph dl dh=k-> ∃r',FN (.tup [.x (.pointer none),i k]) r'/\Q r':=λk hk he=>by
  rw [he] at hQ;exact ⟨.tup [.x (.pointer none),i k],⟨rfl,⟨rfl,rfl⟩,Ak⟩,hQ.2 hk⟩
 refine ⟨λh1=>bad 3 VO (e3 VO),λh1=>⟨λh2=>bad 3 VO (e3 VO),λh2=>⟨⟨Bo.isRec4 n a b u v,Pt.isRec2 m p q,VO⟩,Bo.isRec4 n a b u v,λh3=>bad 1 VO (e1 VO (by rw [h3];simp)),λh3=>⟨λh4=>⟨λh5=>bad 1 VO (e1 VO VO),λh5=>⟨λh6=>bad _ h4 (e0 VO h3 (.inr h5)),λh6=>absurd h6 h4⟩⟩,λh4=>⟨λh5=>absurd h4 h5,λ_=>?_⟩⟩⟩⟩⟩
 have hv:=pB.1 h3;have hs:=Wg5 hv.1;refine ⟨⟨VO,VO,h3,h4⟩,⟨rfl,rfl,λj hj=>Xl6 hj,hs.2.2.2.1,hs.2.2.2.2⟩,.tup [.roI [i c,i T,i U,i O,rds n a b u v,Pt.scs m p q] 26 (wkA c T U O n a b u v m p q pl ph dl dh) 0,i 0],⟨⟨rfl,rfl,λ_ _=>rfl,rfl⟩,⟨rfl,rfl⟩,Ak⟩,hQ.1 ((e0 VO h3 (.inl h4)).trans h4)⟩
end
def rU:DP:=λl=>match l with
 |[.agg [.x (.int .i64 c),.x (.int .i64 T),.x (.int .i64 U),.x (.int .i64 O),.lst 4 n fr,.lst 2 m ft,.x (.int .i64 pl),.x (.int .i64 ph),.x (.int .i64 dl),.x (.int .i64 dh)]]=>some (.need [UL 4 n fr,UL 2 m ft] (.branch (decide (rdE c T U O n (col 0 fr) (col 1 fr) (col 2 fr) (col 3 fr) m (Pt.col 0 ft) (Pt.col 1 ft) pl ph dl dh=0)) (.leaf (.tup [.roI [i c,i T,i U,i O,rds n (col 0 fr) (col 1 fr) (col 2 fr) (col 3 fr),Pt.scs m (Pt.col 0 ft) (Pt.col 1 ft)] 26 (wkA c T U O n (col 0 fr) (col 1 fr) (col 2 fr) (col 3 fr) m (Pt.col 0 ft) (Pt.col 1 ft) pl ph dl dh) 0,i 0])) (.leaf (.tup [.x (.pointer none),i (rdE c T U O n (col 0 fr) (col 1 fr) (col 2 fr) (col 3 fr) m (Pt.col 0 ft) (Pt.col 1 ft) pl ph dl dh)]))))
 |_=>none
theorem xV:Sx.Enters Tryz.prog 92/\ ∀avs t,rU avs=some t->US VU 92 avs t:=by
 refine ⟨(UM Tryz.func92),?_⟩;intro avs t h;unfold rU at h;split at h;cases h;intro Q hQ;have hr:UL 4 _ _:=GI hQ.1 _ GN;have ht:UL 2 _ _:=GI hQ.1 _ (D1 _ GN);exact US.same (aJ _ _ _ _ _ _ _ _ _ _ _ _ _ _ _ _) (.cons (PA.same (.cons (.refl _) (.cons (.refl _) (.cons (.refl _) (.cons (.refl _) (.cons (.lst 4 _ _ _ hr) (.cons (.lst 2 _ _ _ ht) (.cons (.refl _) (.cons (.refl _) (.cons (.refl _) (.cons (.refl _) .nil))))))))))) .nil) Q hQ.2;cases h
section
variable (c T U O:Int)(n:Nat)(a b u v:Cg)(m:Nat)(p q:Cg)(pl ph dl dh:Int)
def asE(S W wi Z:Int):Int:=if rdE c T U O n a b u v m p q pl ph dl dh=0 then (if usB c S W wi&&bt 0 Z 10000 then 0 else 2) else rdE c T U O n a b u v m p q pl ph dl dh
def hdE(Z:Int):Int:=if rdE c T U O n a b u v m p q pl ph dl dh=0 then (if bt 0 Z 10000 then 0 else 2) else rdE c T U O n a b u v m p q pl ph dl dh
end
theorem Jm6{c T U O:Int}{n:Nat}{a b u v:Cg}{m:Nat}{p q:Cg}{pl ph dl dh:Int}(h:rdE c T U O n a b u v m p q pl ph dl dh=0):n<=12/\m<=8/\vaB c T U O m p q pl ph dl dh=true/\eB c T U O n a b u v=0:=by
 unfold rdE at h;split at h;cases h;rename_i h1;split at h;rename_i h2;exact ⟨VO,VO,h2.1,h⟩;cases h
section
variable {pl ph dl dh:Int}{L H:Cg}{k j:Nat}
theorem wk_L(h:j<k):wkF pl ph dl dh L H k (4+2*j)=L j:=by
 unfold wkF;rw [if_neg VO,if_neg VO,if_neg VO,if_neg VO,if_pos VO,if_pos VO,show (4+2*j-4) / 2=j by omega]
theorem wk_H(h:j<k):wkF pl ph dl dh L H k (5+2*j)=H j:=by
 unfold wkF;rw [if_neg VO,if_neg VO,if_neg VO,if_neg VO,if_pos VO,if_neg VO,show (5+2*j-4) / 2=j by omega]
end
theorem eS{c T U O:Int}{n:Nat}{a b u v:Cg}{m:Nat}{p q:Cg}{pl ph dl dh:Int}(h:rdE c T U O n a b u v m p q pl ph dl dh=0):drB (wkA c T U O n a b u v m p q pl ph dl dh)/\bdB (wkA c T U O n a b u v m p q pl ph dl dh)/\(1<=c/\c<=10)/\ ∀k:Nat,(k:Int)<=c->0<=bdL c T U O n a b u v m p q pl ph k/\bdL c T U O n a b u v m p q pl ph k<=4000000/\0<=bdH c T U O n a b u v m p q pl ph k/\bdH c T U O n a b u v m p q pl ph k<=4000000:=by
 obtain ⟨h1,h2,h3,h4⟩:=Jm6 h;have hv:=pB.1 h3;have hb:=qA hv.2.1;have hs:=Wg5 hv.1;have key: ∀k:Nat,(k:Int)<=c->0<=bdL c T U O n a b u v m p q pl ph k/\bdL c T U O n a b u v m p q pl ph k<=4000000/\0<=bdH c T U O n a b u v m p q pl ph k/\bdH c T U O n a b u v m p q pl ph k<=4000000:=by
  intro k hk;have hk:=Zc8 h4 hk;have m1:=Qf9 (x:= -(fwB c T U O n a b u v k 0)) (y:=Pt.boilI m p q pl) (X:=2000) (Y:=2000) VO VO;have m2:=Qf9 (x:=fwB c T U O n a b u v 0 k) (y:=Pt.boilI m p q ph) (X:=2000) (Y:=2000) VO VO;have d1:=dQ m1.1 (show 1<=T by omega)
  have d2:=a9 m2.1 (show 1<=T by omega)
  unfold bdL bdH;omega
 refine ⟨⟨?_,?_⟩,λj hj=>?_,hb.1,key⟩;show 0<=dl/\dl<=100;omega;show 0<=dh/\dh<=100;omega;by_cases hk:j / 2<c.toNat+1;have:=key (j / 2) VO;rcases Nat.mod_two_eq_zero_or_one j with h0|h0;have e:wkA c T U O n a b u v m p q pl ph dl dh (4+j)=bdL c T U O n a b u v m p q pl ph (j / 2):=by
  have:=wk_L (pl:=pl) (ph:=ph) (dl:=dl) (dh:=dh) (L:=bdL c T U O n a b u v m p q pl ph) (H:=bdH c T U O n a b u v m p q pl ph) hk;rw [show 4+2*(j / 2)=4+j by omega] at this
  exact this
 rw [e];omega;have e:wkA c T U O n a b u v m p q pl ph dl dh (4+j)=bdH c T U O n a b u v m p q pl ph (j / 2):=by
  have:=wk_H (pl:=pl) (ph:=ph) (dl:=dl) (dh:=dh) (L:=bdL c T U O n a b u v m p q pl ph) (H:=bdH c T U O n a b u v m p q pl ph) hk;rw [show 5+2*(j / 2)=4+j by omega] at this
  exact this
 rw [e];omega;have e:wkA c T U O n a b u v m p q pl ph dl dh (4+j)=0:=by
  unfold wkA wkF;rw [if_neg VO,if_neg VO,if_neg VO,if_neg VO,if_neg VO]
 rw [e];omega
abbrev KQ:Value:=Value.int IntKind.i64 (0:Int)
theorem gH(c T U O:Int)(n:Nat)(a b u v:Cg)(m:Nat)(p q:Cg)(pl ph dl dh:Int):U2 VU 182 [.agg [i c,i T,i U,i O,rds n a b u v,Pt.scs m p q,i pl,i ph,i dl,i dh]] (i (rdE c T U O n a b u v m p q pl ph dl dh)):=by
 refine G7 (L:=[]) Aa (Aj Ab Ac (Ah xV (UJ.nil _))) U3 Tryz.func182 (UW Tryz.f182) G9 (t:=need [UL 4 n λk=>[Bo.i (a k),Bo.i (b k),Bo.i (u k),Bo.i (v k)],UL 2 m λk=>[Pt.i (p k),Pt.i (q k)]] (branch (decide (rdE c T U O n a b u v m p q pl ph dl dh=0)) (leaf (RV.x (KQ))) (leaf (RV.x (.int .i64 (rdE c T U O n a b u v m p q pl ph dl dh)))))) VZ ?_;simp only [VR.sat,UF,G6,GQ,UH,UK,H6,FZ,beq_iff_eq,beq_eq_false_iff_ne,Ax,Bool.not_eq_false',not_true_eq_false,false_imp_iff,true_imp_iff];exact ⟨⟨Bo.isRec4 n a b u v,Pt.isRec2 m p q⟩,λh=>h.symm,λ_=>trivial⟩
def F1:G4
 |[.agg [.x (.int .i64 c),.x (.int .i64 T),.x (.int .i64 U),.x (.int .i64 O),.lst 4 n fr,.lst 2 m ft,.x (.int .i64 pl),.x (.int .i64 ph),.x (.int .i64 dl),.x (.int .i64 dh)]]=>some ([UL 4 n fr,UL 2 m ft],i (rdE c T U O n (col 0 fr) (col 1 fr) (col 2 fr) (col 3 fr) m (Pt.col 0 ft) (Pt.col 1 ft) pl ph dl dh))
 |_=>none
theorem wE:VT VU 182 F1:=by
 refine ⟨(UM Tryz.func182),?_⟩;intro avs ns res h I;unfold F1 at h;split at h;cases h;have hr:UL 4 _ _:=I _ GN;have ht:UL 2 _ _:=I _ (D1 _ GN);exact (gH _ _ _ _ _ _ _ _ _ _ _ _ _ _ _ _).same (.cons (PA.same (.cons (.refl _) (.cons (.refl _) (.cons (.refl _) (.cons (.refl _) (.cons (.lst 4 _ _ _ hr) (.cons (.lst 2 _ _ _ ht) (.cons (.refl _) (.cons (.refl _) (.cons (.refl _) (.cons (.refl _) .nil))))))))))) .nil);cases h
abbrev ZD(c:Int)(T:Int)(U:Int)(O:Int)(n:Nat)(a:Cg)(b:Cg)(u:Cg)(v:Cg)(m:Nat)(p:Cg)(q:Cg)(pl:Int)(ph:Int)(dl:Int)(dh:Int):AV:=roI [iI c,iI T,iI U,iI O,QR n a b u v,QY m p q] 26 (λa_1=>wkA c T U O n a b u v m p q pl ph dl dh a_1) 0
theorem Xd5(c T U O:Int)(n:Nat)(a b u v:Cg)(m:Nat)(p q:Cg)(pl ph dl dh:Int)(S W wi Z:Int):US VU 79 [.agg [i c,i T,i U,i O,rds n a b u v,Pt.scs m p q,i pl,i ph,i dl,i dh],.agg [i S,i W,i wi],i Z] (.branch (decide (asE c T U O n a b u v m p q pl ph dl dh S W wi Z=0)) (.leaf (.tup [.roI [i c,i T,i U,i O,rds n a b u v,Pt.scs m p q] 26 (wkA c T U O n a b u v m p q pl ph dl dh) 0,i 0])) (.leaf (.tup [.top,i (asE c T U O n a b u v m p q pl ph dl dh S W wi Z)]))):=by
 refine GY (L:=[]) (Ae Zm9 (Ae RR Aa)) (Aj Ab Ac (Ah xV (UJ.nil _))) U3 Tryz.func79 (UW Tryz.f79) G9 (t:=let z0:=rdE c T U O n a b u v m p q pl ph dl dh;let z1:=ZD c T U O n a b u v m p q pl ph dl dh;(need [UL 4 n λk=>[Bo.i (a k),Bo.i (b k),Bo.i (u k),Bo.i (v k)],UL 2 m λk=>[Pt.i (p k),Pt.i (q k)]] (branch (decide (z0=0)) (branch ((0:Int)==0) (need [UL 4 n λk=>[Bo.i (a k),Bo.i (b k),Bo.i (u k),Bo.i (v k)],UL 2 m λk=>[Pt.i (p k),Pt.i (q k)]] (branch (!usB c S W wi) (leaf (tup [z1,iI 2])) (branch (!bt (0:Int) Z (10000:Int)) (leaf (tup [z1,iI 2])) (leaf (tup [z1,iI 0]))))) (leaf (tup [z1,iI 0]))) (branch (z0==0) (need [UL 4 n λk=>[Bo.i (a k),Bo.i (b k),Bo.i (u k),Bo.i (v k)],UL 2 m λk=>[Pt.i (p k),Pt.i (q k)]] (branch (!usB c S W wi) (leaf (tup [Z3,iI 2])) (branch (!bt (0:Int) Z (10000:Int)) (leaf (tup [Z3,iI 2])) (leaf (tup [Z3,iI (z0)]))))) (leaf (tup [Z3,iI (z0)])))))) VZ ?_;intro Q hQ;simp only [VR.sat,UF,G6,GQ,UH,UK,H6,FZ,beq_iff_eq,beq_eq_false_iff_ne,Ax,Bool.not_eq_false',not_true_eq_false,false_imp_iff,true_imp_iff] at hQ ⊢;have hr:rdE c T U O n a b u v m p q pl ph dl dh≠0->asE c T U O n a b u v m p q pl ph dl dh S W wi Z=rdE c T U O n a b u v m p q pl ph dl dh:=λh=>if_neg h;have h2:rdE c T U O n a b u v m p q pl ph dl dh=0->(usB c S W wi=false\/bt 0 Z 10000=false)->asE c T U O n a b u v m p q pl ph dl dh S W wi Z=2:=λh h'=>by
  unfold asE;rw [if_pos h,if_neg (by rcases h' with h'|h'<;>simp [h'])]
 have h0:rdE c T U O n a b u v m p q pl ph dl dh=0->usB c S W wi=true->bt 0 Z 10000=true->asE c T U O n a b u v m p q pl ph dl dh S W wi Z=0:=λh h' h''=>by
  unfold asE;rw [if_pos h,h',h''];rfl
 have bad: ∀(x:AV) (k:Int),asE c T U O n a b u v m p q pl ph dl dh S W wi Z=k->k≠0-> ∃r',FN (.tup [x,i k]) r'/\Q r':=λx k he hk=>by
  rw [he] at hQ;exact ⟨.tup [.top,i k],⟨by cases x<;>trivial,⟨rfl,rfl⟩,Ak⟩,hQ.2 hk⟩
 refine ⟨⟨Bo.isRec4 n a b u v,Pt.isRec2 m p q⟩,λh=>⟨⟨Bo.isRec4 n a b u v,Pt.isRec2 m p q⟩,λg=>bad _ 2 (h2 h (.inl g)) VO,λg=>⟨λg'=>bad _ 2 (h2 h (.inr g')) VO,λg'=>?_⟩⟩,λh=>⟨λh'=>absurd h' h,λ_=>?_⟩⟩;exact ⟨.tup [.roI [i c,i T,i U,i O,rds n a b u v,Pt.scs m p q] 26 (wkA c T U O n a b u v m p q pl ph dl dh) 0,i 0],⟨⟨rfl,rfl,λ_ _=>rfl,rfl⟩,⟨rfl,rfl⟩,Ak⟩,hQ.1 (h0 h g g')⟩;exact bad _ _ (hr h) h
def Qp5:DP:=λl=>match l with
 |[.agg [.x (.int .i64 c),.x (.int .i64 T),.x (.int .i64 U),.x (.int .i64 O),.lst 4 n fr,.lst 2 m ft,.x (.int .i64 pl),.x (.int .i64 ph),.x (.int .i64 dl),.x (.int .i64 dh)],.agg [.x (.int .i64 S),.x (.int .i64 W),.x (.int .i64 wi)],.x (.int .i64 Z)]=>some (.need [UL 4 n fr,UL 2 m ft] (.branch (decide (asE c T U O n (col 0 fr) (col 1 fr) (col 2 fr) (col 3 fr) m (Pt.col 0 ft) (Pt.col 1 ft) pl ph dl dh S W wi Z=0)) (.leaf (.tup [.roI [i c,i T,i U,i O,rds n (col 0 fr) (col 1 fr) (col 2 fr) (col 3 fr),Pt.scs m (Pt.col 0 ft) (Pt.col 1 ft)] 26 (wkA c T U O n (col 0 fr) (col 1 fr) (col 2 fr) (col 3 fr) m (Pt.col 0 ft) (Pt.col 1 ft) pl ph dl dh) 0,i 0])) (.leaf (.tup [.top,i (asE c T U O n (col 0 fr) (col 1 fr) (col 2 fr) (col 3 fr) m (Pt.col 0 ft) (Pt.col 1 ft) pl ph dl dh S W wi Z)]))))
 |_=>none
theorem Qz6:Sx.Enters Tryz.prog 79/\ ∀avs t,Qp5 avs=some t->US VU 79 avs t:=by
 refine ⟨(UM Tryz.func79),?_⟩;intro avs t h;unfold Qp5 at h;split at h;cases h;intro Q hQ;have hr:UL 4 _ _:=GI hQ.1 _ GN;have ht:UL 2 _ _:=GI hQ.1 _ (D1 _ GN);exact US.same (Xd5 _ _ _ _ _ _ _ _ _ _ _ _ _ _ _ _ _ _ _ _) (.cons (PA.same (.cons (.refl _) (.cons (.refl _) (.cons (.refl _) (.cons (.refl _) (.cons (.lst 4 _ _ _ hr) (.cons (.lst 2 _ _ _ ht) (.cons (.refl _) (.cons (.refl _) (.cons (.refl _) (.cons (.refl _) .nil))))))))))) (.cons (.refl _) (.cons (.refl _) .nil))) Q hQ.2;cases h
def kpB(c T U O:Int)(n:Nat)(a b u v:Cg)(m:Nat)(p q:Cg)(pl ph dl dh:Int)(S W wi Z:Int):Bool:=decide (asE c T U O n a b u v m p q pl ph dl dh S W wi Z=0)&&keB c (wkA c T U O n a b u v m p q pl ph dl dh) S W wi Z
theorem Jv4{c T U O:Int}{n:Nat}{a b u v:Cg}{m:Nat}{p q:Cg}{pl ph dl dh S W wi Z:Int}(h:asE c T U O n a b u v m p q pl ph dl dh S W wi Z=0):rdE c T U O n a b u v m p q pl ph dl dh=0/\usB c S W wi=true/\0<=Z/\Z<=10000:=by
 unfold asE at h;split at h;rename_i h1;split at h;rename_i h2;rw [HF] at h2;exact ⟨h1,h2.1,(bt_iff _ _ _).1 h2.2⟩;cases h;rename_i h1;exact absurd h h1
theorem Xx5(c T U O:Int)(n:Nat)(a b u v:Cg)(m:Nat)(p q:Cg)(pl ph dl dh:Int)(S W wi Z:Int):U2 VU 57 [.agg [i c,i T,i U,i O,rds n a b u v,Pt.scs m p q,i pl,i ph,i dl,i dh],.agg [i S,i W,i wi],i Z] (.tup [bl (kpB c T U O n a b u v m p q pl ph dl dh S W wi Z),i (asE c T U O n a b u v m p q pl ph dl dh S W wi Z)]):=by
 refine G7 (L:=[]) (Ae Xp7 Aa) (Aj Ab Ac (Ah Qz6 (UJ.nil _))) U3 Tryz.func57 (UW Tryz.f57) G9 (t:=let z0:=asE c T U O n a b u v m p q pl ph dl dh S W wi Z;let z1:=(wkA c T U O n a b u v m p q pl ph dl dh);(need [UL 4 n λk=>[Bo.i (a k),Bo.i (b k),Bo.i (u k),Bo.i (v k)],UL 2 m λk=>[Pt.i (p k),Pt.i (q k)]] (branch (decide (z0=0)) (branch ((0:Int)==0) (need [drB z1,bdB z1,(1:Int)<=c/\c<=10,(0:Int)<=S/\S<=W/\W<=10,(0:Int)<=wi/\wi<=1000000,(0:Int)<=Z/\Z<=100000] (leaf (RV.tup [RV.x (.bool (keB c z1 S W wi Z)),RV.x (KQ)]))) (leaf (RV.tup [RV.x (Y0),RV.x (KQ)]))) (branch (z0==0) VR.fail (leaf (RV.tup [RV.x (Y0),RV.x (.int .i64 (z0))])))))) VZ ?_;simp only [VR.sat,UF,G6,GQ,UH,UK,H6,FZ,beq_iff_eq,beq_eq_false_iff_ne,Ax,Bool.not_eq_false',not_true_eq_false,false_imp_iff,true_imp_iff];refine ⟨⟨Bo.isRec4 n a b u v,Pt.isRec2 m p q⟩,λh=>?_,λh=>⟨λh'=>absurd h' h,λ_=>?_⟩⟩;obtain ⟨h1,h2,h3⟩:=Jv4 h;have hw:=eS h1;have hu:=Xm6.1 h2;refine ⟨⟨hw.1,hw.2.1,hw.2.2.1,VO,VO,VO⟩,?_,h.symm⟩;unfold kpB;rw [h];rfl;unfold kpB;rw [decide_eq_false h];rfl
def cV:G4
 |[.agg [.x (.int .i64 c),.x (.int .i64 T),.x (.int .i64 U),.x (.int .i64 O),.lst 4 n fr,.lst 2 m ft,.x (.int .i64 pl),.x (.int .i64 ph),.x (.int .i64 dl),.x (.int .i64 dh)],.agg [.x (.int .i64 S),.x (.int .i64 W),.x (.int .i64 wi)],.x (.int .i64 Z)]=>some ([UL 4 n fr,UL 2 m ft],.tup [bl (kpB c T U O n (col 0 fr) (col 1 fr) (col 2 fr) (col 3 fr) m (Pt.col 0 ft) (Pt.col 1 ft) pl ph dl dh S W wi Z),i (asE c T U O n (col 0 fr) (col 1 fr) (col 2 fr) (col 3 fr) m (Pt.col 0 ft) (Pt.col 1 ft) pl ph dl dh S W wi Z)])
 |_=>none
theorem Qp0:VT VU 57 cV:=by
 refine ⟨(UM Tryz.func57),?_⟩;intro avs ns res h I;unfold cV at h;split at h;cases h;have hr:UL 4 _ _:=I _ GN;have ht:UL 2 _ _:=I _ (D1 _ GN);exact (Xx5 _ _ _ _ _ _ _ _ _ _ _ _ _ _ _ _ _ _ _ _).same (.cons (PA.same (.cons (.refl _) (.cons (.refl _) (.cons (.refl _) (.cons (.refl _) (.cons (.lst 4 _ _ _ hr) (.cons (.lst 2 _ _ _ ht) (.cons (.refl _) (.cons (.refl _) (.cons (.refl _) (.cons (.refl _) .nil))))))))))) (.cons (.refl _) (.cons (.refl _) .nil)));cases h
def hdN(c T U O:Int)(n:Nat)(a b u v:Cg)(m:Nat)(p q:Cg)(pl ph dl dh:Int)(Z:Int):Nat:=if hdE c T U O n a b u v m p q pl ph dl dh Z=0 then c.toNat+1 else 0
theorem BG{P:Program}{c:Code}{ps:List Prop}{sp:UN}(h:UF ps->HU P c sp):HU P c (FX ps sp):=λcx hf=>xG (λhp=>h hp cx hf)
theorem Zy5{g h:Cg}{k j:Nat}{x y:Int}(hx:x=g k)(hy:y=h k)(hj:j<k+1):GL k (λk=>[i (g k),i (h k)]) (UA 2 [i x,i y]) j=[i (g j),i (h j)]:=by
 subst hx;subst hy;show HJ (decide (j<k)) [i (g j),i (h j)] (UA 2 [i (g k),i (h k)] (j-k))=_;rw [show j-k=0 by omega]
 by_cases hj:j<k;rw [decide_eq_true hj];rfl;obtain rfl:j=k:=VO;rw [decide_eq_false hj];rfl
section
variable (c T U O:Int)(n:Nat)(a b u v:Cg)(m:Nat)(p q:Cg)(pl ph dl dh:Int)(Z:Int)
def Ka8:St:={σ:=mkS 37 [(0,.agg [i c,i T,i U,i O,rds n a b u v,Pt.scs m p q,i pl,i ph,i dl,i dh]),(1,i Z),(2,.fn (.func 65) [] []),(3,.ptr 0 0),(4,.ptr 1 0),(5,.ptr 2 0),(6,.x (.slice none 0 0)),(7,i 0),(8,.ptr 10 0),(9,i 0),(10,.ptr 18 0),(26,.fn (.func 133) [] [.ro [i 0],.ro [i c]])],m:=[(901,.row 103 2 0 (λk=>[i (onL (wkA c T U O n a b u v m p q pl ph dl dh) k Z),i (onH (wkA c T U O n a b u v m p q pl ph dl dh) k Z)])),(18,.cells 96 [.row 901]),(10,.cells 154 [.roI [i c,i T,i U,i O,rds n a b u v,Pt.scs m p q] 26 (wkA c T U O n a b u v m p q pl ph dl dh) 0]),(2,.cells 152 [.fn (.func 65) [] []]),(1,.cells 3 [i Z]),(0,.cells 105 [i c,i T,i U,i O,rds n a b u v,Pt.scs m p q,i pl,i ph,i dl,i dh])],nx:=902}
noncomputable def Kf0:Code:=NW (VX (UB Tryz.f64) 0)
noncomputable def Ke1:Code:=NV (VX (UB Tryz.f64) 0)
def tB(k:Nat):St:={σ:=H4 [] (Ka8 c T U O n a b u v m p q pl ph dl dh Z).σ,m:=[(901,.row 103 2 k (λk=>[i (onL (wkA c T U O n a b u v m p q pl ph dl dh) k Z),i (onH (wkA c T U O n a b u v m p q pl ph dl dh) k Z)])),(18,.cells 96 [.row 901]),(10,.cells 154 [.roI [i c,i T,i U,i O,rds n a b u v,Pt.scs m p q] 26 (wkA c T U O n a b u v m p q pl ph dl dh) 0]),(2,.cells 152 [.fn (.func 65) [] []]),(1,.cells 3 [i Z]),(0,.cells 105 [i c,i T,i U,i O,rds n a b u v,Pt.scs m p q,i pl,i ph,i dl,i dh])],nx:=902}
def sE(k:Nat):G8->Option St
 | .normal=>some {σ:=H4 [] (Ka8 c T U O n a b u v m p q pl ph dl dh Z).σ,m:=[(901,.row 103 2 ((c-0+1).toNat) (λk=>[i (onL (wkA c T U O n a b u v m p q pl ph dl dh) k Z),i (onH (wkA c T U O n a b u v m p q pl ph dl dh) k Z)])),(18,.cells 96 [.row 901]),(10,.cells 154 [.roI [i c,i T,i U,i O,rds n a b u v,Pt.scs m p q] 26 (wkA c T U O n a b u v m p q pl ph dl dh) 0]),(2,.cells 152 [.fn (.func 65) [] []]),(1,.cells 3 [i Z]),(0,.cells 105 [i c,i T,i U,i O,rds n a b u v,Pt.scs m p q,i pl,i ph,i dl,i dh])],nx:=902}
 |_=>none
def T_eO:CT:= .leaf (.normal,tB c T U O n a b u v m p q pl ph dl dh Z ((c-0+1).toNat))
def Zi8:UN:=GO [(.cell 18 0,901,103,2)] (HI (tB c T U O n a b u v m p q pl ph dl dh Z (0)) (T_eO c T U O n a b u v m p q pl ph dl dh Z))
end
abbrev ZW(c:Int):AV:=AV.fn (Fn.func 133) [] [AV.ro [iI 0],AV.ro [iI c]]
abbrev J3:Prop:=AV.fn (Fn.func 65) [] []=AV.fn (Fn.func 65) [] []
abbrev Y1:Ext:={R:=[(94,cQ)],H:=[],C:=[(92,rU)] }
section
variable (c T U O:Int)(n:Nat)(a b u v:Cg)(m:Nat)(p q:Cg)(pl ph dl dh:Int)(Z:Int)
theorem Jt8(VW:rdE c T U O n a b u v m p q pl ph dl dh=0)(UG:0<=Z/\Z<=10000)(HX:drB (wkA c T U O n a b u v m p q pl ph dl dh)/\bdB (wkA c T U O n a b u v m p q pl ph dl dh)/\1<=c/\c<=10):HU VU (.rangeFunc (rfF (VX (UB Tryz.f64) 0)) (xS (VX (UB Tryz.f64) 0)) Kf0 Ke1) (Zi8 c T U O n a b u v m p q pl ph dl dh Z):=by
 refine LQ [(.cell 18 0,901,103,2)] (L:=[]) (Ae RR (Ae Wl9 Aa)) (Aj (Af fU Ab) Ac (Ah xV (UJ.nil _))) U3 U7 (V:=Nat) (tB c T U O n a b u v m p q pl ph dl dh Z) (λk=>k<=((c-0+1).toNat)) (λk=>k) (sE c T U O n a b u v m p q pl ph dl dh Z) (x0:=0) VY rfl ?_ ?_ ?_ ?_ (g:=133) (caps:=[.ro [i 0],.ro [i c]]) VZ VZ (IO 0 c VO VO) (λ_=>rfl) ?_;rintro k;kernel_rfl;rintro k y E h;unfold sE at h;split at h;cases h;kernel_rfl;cases h;rintro k;rfl;rintro k y E h;unfold sE at h;split at h;cases h;rfl;cases h;rintro Q hQ k hx;refine ⟨λhlt=>⟨(k+1),rfl,?_⟩,λPR=>?_⟩;(with_reducible refine DG (t:=let z0:=(wkA c T U O n a b u v m p q pl ph dl dh);let z1:=((0:Int)+(k:Int)).toNat;(need [drB z0,bdB z0,(0:Int)<=0+(k:Int)/\(0:Int)+(k:Int)<=10,(0:Int)<=Z/\Z<=100000] (need [(k+1)*16<=140737488355328,RY 1 (UA 2 [iI (onL z0 z1 Z),iI (onH z0 z1 Z)])] (need [X5 c T U O n a b u v m p q pl ph dl dh,Z=Z,J3,KM,U4 (ptr 1 0),U4 (ptr 2 0),Z9=Z9,K6,U4 (ptr 10 0),K6,Y5,ZW c=ZW c,k+1=k+1,GZ (k+1) (GL k (λk=>[iI (onL z0 k Z),iI (onH z0 k Z)]) (UA 2 [iI (onL z0 z1 Z),iI (onH z0 z1 Z)])) (λi=>[iI (onL z0 i Z),iI (onH z0 i Z)]),U4 (AV.row 901),U4 (ZD c T U O n a b u v m p q pl ph dl dh),J3,Z=Z,c=c,T=T,U=U,O=O,YQ n a b u v,YU m p q,pl=pl,ph=ph,dl=dl,dh=dh] (leaf G8.normal))))) VZ ?_)
 simp only [VR.sat,UF,UK]
 have ek:((0:Int)+(k:Int)).toNat=k:=VO;refine ⟨⟨HX.1,HX.2.1,VO,VO⟩,⟨VO,λj hj a ha=>FP ha (by simp [AV.one,Value.oneCell'])⟩,λj hj=>?_,VO⟩
 rw [ek];exact Zy5 rfl rfl hj;subst PR;exact hQ
abbrev YS:Value:=Value.slice none 0 0
theorem Xa6:U2 VU 64 [.agg [i c,i T,i U,i O,rds n a b u v,Pt.scs m p q,i pl,i ph,i dl,i dh],i Z,.fn (.func 65) [] []] (.tup [.lst 2 (hdN c T U O n a b u v m p q pl ph dl dh Z) (λk=>[i (onL (wkA c T U O n a b u v m p q pl ph dl dh) k Z),i (onH (wkA c T U O n a b u v m p q pl ph dl dh) k Z)]),i (hdE c T U O n a b u v m p q pl ph dl dh Z)]):=by
 refine G7 (L:=[FX [rdE c T U O n a b u v m p q pl ph dl dh=0,0<=Z/\Z<=10000,drB (wkA c T U O n a b u v m p q pl ph dl dh)/\bdB (wkA c T U O n a b u v m p q pl ph dl dh)/\1<=c/\c<=10] (Zi8 c T U O n a b u v m p q pl ph dl dh Z)]) (Ae RR (Ae Wl9 Aa)) (Aj (Af fU Ab) Ac (Ah xV (UJ.nil _))) U3 Tryz.func64 (UW Tryz.f64) (G0 (lpE (b:= .rangeFunc (rfF (VX (UB Tryz.f64) 0)) (xS (VX (UB Tryz.f64) 0)) Kf0 Ke1) VZ<|BG (λh=>Jt8 c T U O n a b u v m p q pl ph dl dh Z h.1 h.2.1 h.2.2))) (t:=let z0:=wkA c T U O n a b u v m p q pl ph dl dh;let z1:=rdE c T U O n a b u v m p q pl ph dl dh;let z2:=(leaf (RV.tup [RV.lst 2 (c-0+1).toNat λk=>[iI (onL (z0) k Z),iI (onH (z0) k Z)],RV.x (KQ)]));let z3:=(leaf (RV.tup [RV.x (YS),RV.x (.int .i64 (2:Int))]));(need [UL 4 n λk=>[Bo.i (a k),Bo.i (b k),Bo.i (u k),Bo.i (v k)],UL 2 m λk=>[Pt.i (p k),Pt.i (q k)]] (branch (decide (z1=0)) (branch ((0:Int) != 0) (leaf (RV.tup [RV.x (YS),RV.x (KQ)])) (branch (!bt (0:Int) Z (10000:Int)) z3 (need [z1=0,(0:Int)<=Z/\Z<=10000,drB (z0)/\bdB (z0)/\(1:Int)<=c/\c<=10] (need [X5 c T U O n a b u v m p q pl ph dl dh,Z=Z,J3,KM,U4 (ptr 1 0),U4 (ptr 2 0),Z9=Z9,K6,U4 (ptr 10 0),K6,Y5,ZW c=ZW c,0=0,∀(i:Nat),i<0->[]=[iI (onL (z0) i Z),iI (onH (z0) i Z)],U4 (AV.row 901),U4 (ZD c T U O n a b u v m p q pl ph dl dh),J3,Z=Z,c=c,T=T,U=U,O=O,YQ n a b u v,YU m p q,pl=pl,ph=ph,dl=dl,dh=dh] z2)))) (branch (z1 != 0) (leaf (RV.tup [RV.x (YS),RV.x (.int .i64 (z1))])) (branch (!bt (0:Int) Z (10000:Int)) z3 (need [z1=0,(0:Int)<=Z/\Z<=10000,drB (z0)/\bdB (z0)/\(1:Int)<=c/\c<=10] (need [X5 c T U O n a b u v m p q pl ph dl dh,Z=Z,J3,KM,U4 (ptr 1 0),U4 (ptr 2 0),Z9=Z9,K6,U4 (ptr 10 0),z1=0,Y5,ZW c=ZW c,0=0,∀(i:Nat),i<0->[]=[iI (onL (z0) i Z),iI (onH (z0) i Z)],U4 (AV.row 901),AV.x (.pointer none)=roI [iI c,iI T,iI U,iI O,QR n a b u v,QY m p q] 26 (λa_1=>z0 a_1) 0,J3,Z=Z,c=c,T=T,U=U,O=O,YQ n a b u v,YU m p q,pl=pl,ph=ph,dl=dl,dh=dh] z2))))))) VZ ?_
 simp only [VR.sat,UF,G6,GQ,UH,UK,H6,FZ,beq_iff_eq,beq_eq_false_iff_ne,Ax,Bool.not_eq_false',not_true_eq_false,false_imp_iff,true_imp_iff];have e2:rdE c T U O n a b u v m p q pl ph dl dh=0->bt 0 Z 10000=false->hdE c T U O n a b u v m p q pl ph dl dh Z=2:=λh h'=>by
  unfold hdE;rw [if_pos h,h'];rfl
 have e0:rdE c T U O n a b u v m p q pl ph dl dh=0->bt 0 Z 10000=true->hdE c T U O n a b u v m p q pl ph dl dh Z=0:=λh h'=>by
  unfold hdE;rw [if_pos h,h'];rfl
 have er: ¬rdE c T U O n a b u v m p q pl ph dl dh=0->hdE c T U O n a b u v m p q pl ph dl dh Z=rdE c T U O n a b u v m p q pl ph dl dh:=λh=>if_neg h;have eN: ∀k:Int,hdE c T U O n a b u v m p q pl ph dl dh Z=k->k≠0->(lU (YS)/\hdN c T U O n a b u v m p q pl ph dl dh Z=0)/\k=hdE c T U O n a b u v m p q pl ph dl dh Z:=λk h hk=>⟨⟨by trivial,if_neg (by rw [h];exact hk)⟩,h.symm⟩
 have eP:rdE c T U O n a b u v m p q pl ph dl dh=0->bt 0 Z 10000=true->hdN c T U O n a b u v m p q pl ph dl dh Z=c.toNat+1:=λh h'=>if_pos (e0 h h');refine ⟨⟨Bo.isRec4 n a b u v,Pt.isRec2 m p q⟩,λh=>⟨λh'=>eN 2 (e2 h h') (by decide),λh'=>?_⟩,λh=>⟨λ_=>eN _ (er h) h,λh''=>absurd h'' h⟩⟩
 have hw:=eS h;have hb:=(bt_iff _ _ _).1 h';refine ⟨⟨h,hb,hw.1,hw.2.1,hw.2.2.1⟩,λj hj=>absurd hj (Aq _),⟨?_,λj _ x hx=>?_⟩,(e0 h h').symm⟩;rw [eP h h'];omega;simp only [GT,DO,or_false] at hx;rcases hx with rfl|rfl<;>exact Ak
end
def Qm4:G4
 |[.agg [.x (.int .i64 c),.x (.int .i64 T),.x (.int .i64 U),.x (.int .i64 O),.lst 4 n fr,.lst 2 m ft,.x (.int .i64 pl),.x (.int .i64 ph),.x (.int .i64 dl),.x (.int .i64 dh)],.x (.int .i64 Z),.fn (.func 65) [] []]=>some ([UL 4 n fr,UL 2 m ft],.tup [.lst 2 (hdN c T U O n (col 0 fr) (col 1 fr) (col 2 fr) (col 3 fr) m (Pt.col 0 ft) (Pt.col 1 ft) pl ph dl dh Z) (λk=>[i (onL (wkA c T U O n (col 0 fr) (col 1 fr) (col 2 fr) (col 3 fr) m (Pt.col 0 ft) (Pt.col 1 ft) pl ph dl dh) k Z),i (onH (wkA c T U O n (col 0 fr) (col 1 fr) (col 2 fr) (col 3 fr) m (Pt.col 0 ft) (Pt.col 1 ft) pl ph dl dh) k Z)]),i (hdE c T U O n (col 0 fr) (col 1 fr) (col 2 fr) (col 3 fr) m (Pt.col 0 ft) (Pt.col 1 ft) pl ph dl dh Z)])
 |_=>none
theorem Xa5:VT VU 64 Qm4:=by
 refine ⟨(UM Tryz.func64),?_⟩;intro avs ns res h I;unfold Qm4 at h;split at h;cases h;have hr:UL 4 _ _:=I _ GN;have ht:UL 2 _ _:=I _ (D1 _ GN);exact (Xa6 _ _ _ _ _ _ _ _ _ _ _ _ _ _ _ _ _).same (.cons (PA.same (.cons (.refl _) (.cons (.refl _) (.cons (.refl _) (.cons (.refl _) (.cons (.lst 4 _ _ _ hr) (.cons (.lst 2 _ _ _ ht) (.cons (.refl _) (.cons (.refl _) (.cons (.refl _) (.cons (.refl _) .nil))))))))))) (.cons (.refl _) (.cons (.refl _) .nil)));cases h
theorem gG(c T U O:Int)(n:Nat)(a b u v:Cg)(m:Nat)(p q:Cg)(pl ph dl dh:Int)(Z:Int):FJ VU 36 [.agg [i c,i T,i U,i O,rds n a b u v,Pt.scs m p q,i pl,i ph,i dl,i dh],i Z] (.tup [.lst 2 (hdN c T U O n a b u v m p q pl ph dl dh Z) (λk=>[i (onL (wkA c T U O n a b u v m p q pl ph dl dh) k Z),i (onH (wkA c T U O n a b u v m p q pl ph dl dh) k Z)]),i (hdE c T U O n a b u v m p q pl ph dl dh Z)]):=by
 refine D6 (L:=[]) (Ae Xa5 Aa) Ad U3 Tryz.func36 (UW Tryz.f36) G9 (t:=need [UL 4 n λk=>[Bo.i (a k),Bo.i (b k),Bo.i (u k),Bo.i (v k)],UL 2 m λk=>[Pt.i (p k),Pt.i (q k)]] (leaf (tup [lst 2 (hdN c T U O n a b u v m p q pl ph dl dh Z) λk=>[iI (onL (wkA c T U O n a b u v m p q pl ph dl dh) k Z),iI (onH (wkA c T U O n a b u v m p q pl ph dl dh) k Z)],iI (hdE c T U O n a b u v m p q pl ph dl dh Z)]))) VZ ?_;simp only [VR.sat,UF,UK];exact ⟨⟨Bo.isRec4 n a b u v,Pt.isRec2 m p q⟩,⟨rfl,rfl,λ_ _=>rfl⟩,⟨rfl,rfl⟩,Ak⟩
end Go.Proofs.YtcdmhnaeifaikaaGreatDoor
namespace Go.Proofs.YtcdmhnaeifaikaaGreatDoor.Hd
open Go Go.Sx Go.RowKit Bo
open Go.Sx.VR (need branch leaf)
open Go.Sx.AV (lst ptr agg roI tup top)
def TS:G4
 |[.x (.int .i64 n),.x (.int .i64 U),.x (.int .i64 O)]=>some ([],bl (bt U n O))
 |_=>none
abbrev WL:Value:=Value.bool false
theorem VB{p:Prop}(h:p:=by
 simp only [VR.sat,UF,G6,GQ,UH,UK];all_goals (simp+contextual [bt,insB,Bo.bt,Bo.insB,Bool.and_assoc]);all_goals omega):p:=h
theorem Qa9(n U O:Int):U2 VU 106 [i n,i U,i O] (bl (bt U n O)):=by
 refine H0 Tryz.func106 (t:=branch (decide (U<=n)) (leaf (RV.x (.bool (decide (n<=O))))) (leaf (RV.x (WL)))) VZ ?_;exact VB
theorem jP:VT VU 106 TS:=by
 refine ⟨(UM Tryz.func106),?_⟩;intro avs ns res h I;unfold TS at h;split at h;cases h;exact Qa9 _ _ _;cases h
def TV:G4
 |[.agg [.x (.int .i64 a),.x (.int .i64 b)],.x (.int .i64 U),.x (.int .i64 O)]=>some ([],bl (insB U a b O))
 |_=>none
theorem Qb4(a b U O:Int):U2 VU 152 [.agg [i a,i b],i U,i O] (bl (insB U a b O)):=by
 refine H0 Tryz.func152 (t:=branch (decide (U<=a)) (branch (decide (a<=b)) (leaf (RV.x (.bool (decide (b<=O))))) (leaf (RV.x (WL)))) (leaf (RV.x (WL)))) VZ ?_;exact VB
theorem N0:VT VU 152 TV:=by
 refine ⟨(UM Tryz.func152),?_⟩;intro avs ns res h I;unfold TV at h;split at h;cases h;exact Qb4 _ _ _ _;cases h
def TU:G4
 |[.agg [.x (.int .i64 a),.x (.int .i64 b)]]=>some ([],bl (insB (-100) a b 100))
 |_=>none
theorem Qb3(a b:Int):U2 VU 105 [.agg [i a,i b]] (bl (insB (-100) a b 100)):=by
 refine U6 (L:=[]) (Ae N0 Aa) U3 Tryz.func105 (UW Tryz.f105) U7 (t:=leaf (RV.x (.bool (insB (-100:Int) a b (100:Int))))) VZ ?_;exact V2
theorem Qb2:VT VU 105 TU:=by
 refine ⟨(UM Tryz.func105),?_⟩;intro avs ns res h I;unfold TU at h;split at h;cases h;exact Qb3 _ _;cases h
def Qm8:G4
 |[.agg [.x (.int .i64 a),.x (.int .i64 b)]]=>some ([],bl (insB 0 a b 1000))
 |_=>none
theorem Xc5(a b:Int):U2 VU 156 [.agg [i a,i b]] (bl (insB 0 a b 1000)):=by
 refine U6 (L:=[]) (Ae N0 Aa) U3 Tryz.func156 (UW Tryz.f156) U7 (t:=leaf (RV.x (.bool (insB (0:Int) a b (1000:Int))))) VZ ?_;exact V2
theorem nL:VT VU 156 Qm8:=by
 refine ⟨(UM Tryz.func156),?_⟩;intro avs ns res h I;unfold Qm8 at h;split at h;cases h;exact Xc5 _ _;cases h
def cT:G4
 |[.x (.int .i64 n)]=>some ([0<=n/\n<=1000],i (1+n))
 |_=>none
theorem Xb8(n:Int)(VW:0<=n/\n<=1000):U2 VU 56 [i n] (i (1+n)):=by
 refine H0 Tryz.func56 (t:=need [VQ ((1:Int)+n)] (leaf (RV.x (.int .i64 ((1:Int)+n))))) VZ ?_;simp only [VR.sat,UF,G6,GQ,UH,VQ,UK];all_goals first|omega|grind
theorem RQ:VT VU 56 cT:=by
 refine ⟨(UM Tryz.func56),?_⟩;intro avs ns res h I;unfold cT at h;split at h;cases h;exact Xb8 _ (I _ VY);cases h
def cU:G4
 |[.x (.int .i64 n)]=>some ([0<=n/\n<=1000],i (7+n))
 |_=>none
theorem Xc0(n:Int)(VW:0<=n/\n<=1000):U2 VU 111 [i n] (i (7+n)):=by
 refine H0 Tryz.func111 (t:=need [VQ ((7:Int)+n)] (leaf (RV.x (.int .i64 ((7:Int)+n))))) VZ ?_;exact VE
theorem P9:VT VU 111 cU:=by
 refine ⟨(UM Tryz.func111),?_⟩;intro avs ns res h I;unfold cU at h;split at h;cases h;exact Xc0 _ (I _ VY);cases h
def yK:G4:=yH
theorem Qy9(a b:Int):U2 VU 112 [.lst 1 2 (λk=>[i (if k=0 then a else b)])] (i (min a b)):=by
 refine U6 (L:=[]) (Ae aG Aa) U3 Tryz.func112 (UW Tryz.f112) U7 (t:=leaf (RV.x (.int .i64 (min (if 0=0 then a else b) (if 1=0 then a else b))))) VZ ?_
 simp [VR.sat,G6,UH]
theorem RG:VT VU 112 yK:=by
 refine ⟨(UM Tryz.func112),?_⟩;intro avs ns res h I;unfold yK yH at h;split at h;rename_i f;split at h;rename_i a b h0 h1;cases h;refine (Qy9 a b).same (.cons (.lst 1 2 _ _ ?_) .nil);intro k hk;rcases (show k=0\/k=1 by omega) with rfl|rfl
 exact h0;exact h1;cases h;cases h
def oA:G4
 |[.agg [.lst 2 3 f,.x (.int .i64 er),.lst 3 N bf],.x (.int .i64 n)]=>some ([],bl (bt 0 n 2))
 |_=>none
theorem Qz0(f:Ci)(er:Int)(N:Nat)(bf:Ci)(n:Int):U2 VU 155 [.agg [.lst 2 3 f,i er,.lst 3 N bf],i n] (bl (bt 0 n 2)):=by
 refine U6 (L:=[]) (Ae jP Aa) U3 Tryz.func155 (UW Tryz.f155) U7 (t:=need [VQ (((3:Nat):Int)-1)] (leaf (RV.x (.bool (bt (0:Int) n (((3:Nat):Int)-1)))))) VZ ?_;simp [VR.sat,UF,G6,UH,VQ]
theorem TE:VT VU 155 oA:=by
 refine ⟨(UM Tryz.func155),?_⟩;intro avs ns res h I;unfold oA at h;split at h;cases h;exact Qz0 _ _ _ _ _;cases h
def snB(r:Cg):Nat->Int->Bool
 | 0,_=>false
 |k+1,q=>snB r k q||(r k==q)
theorem Qf0(r:Cg)(q:Int): ∀k,snB r k q=true↔ ∃j,j<k/\r j=q
 | 0=>by simp [snB]
 |k+1=>by
  simp only [snB,Bl,Qf0 r q k,beq_iff_eq];constructor;rintro (⟨j,h1,h2⟩|h);exact ⟨j,VO,h2⟩;exact ⟨k,VO,h⟩;rintro ⟨j,h1,h2⟩;rcases (show j<k\/j=k by omega) with h|rfl
  exact .inl ⟨j,h,h2⟩;exact .inr h2
abbrev bts(m:Nat)(r v:Cg):AV:= .lst 2 m (λj=>[i (r j),i (v j)])
abbrev WG(f:Ci):AV:=lst 2 3 λa=>f a
abbrev XB(m:Nat)(r:Cg)(v:Cg):AV:=lst 2 m λj=>[iI (r j),iI (v j)]
abbrev K2(N:Nat)(bf:Ci):AV:=lst 3 N λa=>bf a
section
variable (f:Ci)(er:Int)(N:Nat)(bf:Ci)(U O:Int)(m:Nat)(r v:Cg)
def Jd7:St:={σ:=[agg [WG f,iI er,K2 N bf],agg [iI U,iI O,XB m r v],ptr 0 0,ptr 1 0,top,ptr 3 0,top,top,top,XB m r v,iI (m:Int)]++HR 28 [],m:=[(3,GU.cells 258 [AV.x (WL),AV.x (WL),AV.x (WL),AV.x (WL),AV.x (WL),AV.x (WL)]),(1,GU.cells 133 [iI U,iI O,XB m r v]),(0,GU.cells 74 [WG f,iI er,K2 N bf])],nx:=8}
noncomputable def Ke4:Code:=UD (VX (UB Tryz.f108) 0)
def Ws7(k:Nat):St:=(upE [(11,i k)] [(3,.cells 258 [bl (snB r (k) 0),bl (snB r (k) 1),bl (snB r (k) 2),bl (snB r (k) 3),bl (snB r (k) 4),bl (snB r (k) 5)]),(1,.cells 133 [i U,i O,bts m r v]),(0,.cells 74 [.lst 2 3 f,i er,.lst 3 N bf])] (Jd7 f er N bf U O m r v))
def IC(k:Nat):G8->Option St
 | .exit 0=>some (upE [] [(3,.cells 258 [bl (snB r (m) 0),bl (snB r (m) 1),bl (snB r (m) 2),bl (snB r (m) 3),bl (snB r (m) 4),bl (snB r (m) 5)]),(1,.cells 133 [i U,i O,bts m r v]),(0,.cells 74 [.lst 2 3 f,i er,.lst 3 N bf])] (Jd7 f er N bf U O m r v))
 |_=>none
def Ka0:CT:= .leaf (.exit 0,(IC f er N bf U O m r v 0 (.exit 0)).getD (Jd7 f er N bf U O m r v))
def Zj1:UN:=(HI (Ws7 f er N bf U O m r v (0)) (Ka0 f er N bf U O m r v))
end
abbrev QO:Prop:=ptr 0 0=ptr 0 0
abbrev XY:Prop:=ptr 1 0=ptr 1 0
abbrev ZH:Prop:=ptr 3 0=ptr 3 0
theorem V1{p:Prop}(h:p:=by
 (with_reducible repeat' first|apply Al|intro _)
 all_goals first|exact Ak|omega|with_reducible rfl|(rename_i E hE;cases hE;exact hQ)|rfl):p:=h
section
variable (f:Ci)(er:Int)(N:Nat)(bf:Ci)(U O:Int)(m:Nat)(r v:Cg)
theorem Jv1(VW:m<=1000)(UG: ∀j,j<m->0<=r j/\r j<=2/\ -1000<=v j/\v j<=2000)(HX: ∀j k,j<k->k<m->r j≠r k)(F6:insB 0 U O 1000=true):GD VU (.loop Ke4) (Zj1 f er N bf U O m r v):=by
 refine HO (L:=[]) (Ae TE (Ae jP (Ae nL Aa))) U3 U7 (X:=Nat) (Ws7 f er N bf U O m r v) (λk=>k<=m) (λk=>m-k) (IC f er N bf U O m r v) (x0:=0) VY ?_ ?_ ?_;rintro k;kernel_rfl;rintro k y E h;unfold IC at h;split at h;cases h;kernel_rfl;cases h;rintro Q hQ k hx;refine ⟨(k+1),?_⟩;(with_reducible refine DG (t:=branch (decide ((k:Int)<(m:Int))) (need [UO k m] (branch (!bt (0:Int) (r k) (2:Int)) VR.fail (need [UO (r k) 6] (need [0+(r k).toNat*1<List.length [snB r k (0:Int),snB r k (1:Int),snB r k (2:Int),snB r k (3:Int),snB r k (4:Int),snB r k (5:Int)]] (branch (match [snB r k (0:Int),snB r k (1:Int),snB r k (2:Int),snB r k (3:Int),snB r k (4:Int),snB r k (5:Int)][0+(r k).toNat*1]? with|some x=>x|none=>false) VR.fail (branch (!bt (-1000:Int) (v k) (2000:Int)) VR.fail (need [UO (r k) 6] (need [0+(r k).toNat*1<List.length [snB r k (0:Int),snB r k (1:Int),snB r k (2:Int),snB r k (3:Int),snB r k (4:Int),snB r k (5:Int)]] (need [VQ ((k:Int)+1)] (need [U4 (agg [WG f,iI er,K2 N bf]),U4 (agg [iI U,iI O,XB m r v]),QO,XY,ZH,U4 (XB m r v),U4 (m:Int),(k:Int)+1=(↑(k+1):Int),(if 0=0+(r k).toNat*1 then true else snB r k (0:Int))=snB r (k+1) (0:Int),(if 1=0+(r k).toNat*1 then true else snB r k (1:Int))=snB r (k+1) (1:Int),(if 2=0+(r k).toNat*1 then true else snB r k (2:Int))=snB r (k+1) (2:Int),(if 3=0+(r k).toNat*1 then true else snB r k (3:Int))=snB r (k+1) (3:Int),(if 4=0+(r k).toNat*1 then true else snB r k (4:Int))=snB r (k+1) (4:Int),(if 5=0+(r k).toNat*1 then true else snB r k (5:Int))=snB r (k+1) (5:Int),U=U,O=O,U4 (XB m r v),WG f=WG f,er=er,U4 (K2 N bf)] (leaf G8.normal))))))))))) (need [U4 (agg [WG f,iI er,K2 N bf]),U4 (agg [iI U,iI O,XB m r v]),QO,XY,ZH,U4 (XB m r v),U4 (m:Int),snB r k (0:Int)=snB r m (0:Int),snB r k (1:Int)=snB r m (1:Int),snB r k (2:Int)=snB r m (2:Int),snB r k (3:Int)=snB r m (3:Int),snB r k (4:Int)=snB r m (4:Int),snB r k (5:Int)=snB r m (5:Int),U=U,O=O,U4 (XB m r v),WG f=WG f,er=er,U4 (K2 N bf)] (leaf (G8.exit 0)))) VZ ?_)
 simp only [Ka0,IC,VR.sat,GW] at hQ;simp only [VR.sat,UF,G6,GQ,UH,VQ,UK,H6,FW,FZ,RP,GR,IC]
 refine ⟨λh=>?_,λh=>?_⟩
 ·obtain ⟨h0,h1,h2,h3⟩:=UG k VO;have hno:snB r k (r k)=false:=by
   rw [←Bool.not_eq_true,Qf0];rintro ⟨j,hj,he⟩;exact HX j k hj VO he
  have hb1:bt 0 (r k) 2=true:=(bt_iff _ _ _).2 VO;have hb2:bt (-1000) (v k) 2000=true:=(bt_iff _ _ _).2 VO;rcases (show r k=0\/r k=1\/r k=2 by omega) with hr|hr|hr
  all_goals
   rw [hr] at hno hb1;simp [hr,hno,hb1,hb2,snB];exact V1
 obtain rfl:k=m:=VO;exact V1
theorem Xc8(VW:m<=1000)(UG: ∀j,j<m->0<=r j/\r j<=2/\ -1000<=v j/\v j<=2000)(HX: ∀j k,j<k->k<m->r j≠r k)(F6:insB 0 U O 1000=true):U2 VU 108 [.agg [.lst 2 3 f,i er,.lst 3 N bf],.agg [i U,i O,bts m r v]] (bl true):=by
 refine U6 (L:=[Zj1 f er N bf U O m r v]) (Ae TE (Ae jP (Ae nL Aa))) U3 Tryz.func108 (UW Tryz.f108) (G0 (lpE (b:= .loop Ke4) VZ<|Jv1 f er N bf U O m r v VW UG HX F6)) (t:=need [U4 (agg [WG f,iI er,K2 N bf]),U4 (agg [iI U,iI O,XB m r v]),QO,XY,ZH,U4 (XB m r v),U4 (m:Int),(0:Int)=((0:Nat):Int),false=snB r 0 (0:Int),false=snB r 0 (1:Int),false=snB r 0 (2:Int),false=snB r 0 (3:Int),false=snB r 0 (4:Int),false=snB r 0 (5:Int),U=U,O=O,U4 (XB m r v),WG f=WG f,er=er,U4 (K2 N bf)] (leaf (RV.x (.bool (insB (0:Int) U O (1000:Int)))))) VZ ?_
 exact V2
end
def Qr5(m:Nat)(r v:Cg):Prop:=m<=1000/\(∀j,j<m->0<=r j/\r j<=2/\ -1000<=v j/\v j<=2000)/\ ∀j k,j<k->k<m->r j≠r k
section
variable (N:Nat)(U O:Cg)(m:Ch)(g:Nat->Ci)
abbrev bgs:AV:= .lst 3 N (λk=>[i (U k),i (O k),.lst 2 (m k) (g k)])
def Qy6:Prop:= ∀k,k<N->UL 2 (m k) (g k)/\Qr5 (m k) (col 0 (g k)) (col 1 (g k))/\insB 0 (U k) (O k) 1000=true
end
def vB(N:Nat)(bf:Ci):Prop:=N<=6/\ ∃(U O:Cg) (m:Ch) (g:Nat->Ci),(∀k,k<N->bf k=[i (U k),i (O k),.lst 2 (m k) (g k)])/\Qy6 N U O m g
def Qm9:G4
 |[.agg [.lst 2 3 f,.x (.int .i64 er),.lst 3 N bf],.agg [.x (.int .i64 U),.x (.int .i64 O),.lst 2 m g]]=>some ([UL 2 m g,Qr5 m (col 0 g) (col 1 g),insB 0 U O 1000=true],bl true)
 |_=>none
theorem Xc7:VT VU 108 Qm9:=by
 refine ⟨(UM Tryz.func108),?_⟩;intro avs ns res h I;unfold Qm9 at h;split at h;cases h;have hr:_:=I _ (GN);have hr1:_:=I _ (D1 _ (GN));have hr2:_:=I _ (D1 _ (D1 _ (GN)));exact (Xc8 _ _ _ _ _ _ _ (col 0 _) (col 1 _) hr1.1 hr1.2.1 hr1.2.2 hr2).same (.cons (.refl _) (.cons (PA.same (.cons (.refl _) (.cons (.refl _) (.cons (.lst 2 _ _ _ hr) .nil)))) .nil));cases h
def oC:G4
 |[.agg [.x (.int .i64 U),.x (.int .i64 O),.lst 2 m g],.ro [.fn (.func 108) [.agg [.lst 2 3 f,.x (.int .i64 er),.lst 3 N bf]] []]]=>some ([UL 2 m g,Qr5 m (col 0 g) (col 1 g),insB 0 U O 1000=true],bl false)
 |_=>none
theorem Qz2(U O:Int)(m:Nat)(g:Ci)(f:Ci)(er:Int)(N:Nat)(bf:Ci)(VW:UL 2 m g)(UG:Qr5 m (col 0 g) (col 1 g))(HX:insB 0 U O 1000=true):U2 VU 154 [.agg [i U,i O,.lst 2 m g],.ro [.fn (.func 108) [.agg [.lst 2 3 f,i er,.lst 3 N bf]] []]] (bl false):=by
 refine U6 (L:=[]) (Ae Xc7 Aa) U3 Tryz.func154 (UW Tryz.f154) U7 (t:=need [UL 2 m g,Qr5 m (col 0 g) (col 1 g),insB (0:Int) U O (1000:Int)=true] (leaf (RV.x (.bool !true)))) VZ ?_;exact V2
theorem TG:VT VU 154 oC:=by
 refine ⟨(UM Tryz.func154),?_⟩;intro avs ns res h I;unfold oC at h;split at h;cases h;exact Qz2 _ _ _ _ _ _ _ _ (I _ VY) (I _ VY) (I _ VY);cases h
abbrev XL(f:Ci)(er:Int)(N1:Nat)(bf:Ci):AV:=AV.fn (Fn.func 154) [] [AV.ro [AV.fn (Fn.func 108) [agg [WG f,iI er,lst 3 N1 λa=>bf a]] []]]
section
variable (N:Nat)
abbrev J5(U:Cg)(O:Cg)(m:Ch)(g:Nat->Ci):AV:=lst 3 N λk=>[iI (U k),iI (O k),lst 2 (m k) λa=>g k a]
def e7(U O:Cg)(m:Ch)(g:Nat->Ci)(f:Ci)(er:Int)(N1:Nat)(bf:Ci):St:={σ:=[J5 N U O m g,XL f er N1 bf]++HR 5 [iI (N:Int)]++HR 11 [],m:=[],nx:=4}
noncomputable def Qp9:Code:=UD (VX (UB Tryz.f194) 0)
def SM(U O:Cg)(m:Ch)(g:Nat->Ci)(f:Ci)(er:Int)(N1:Nat)(bf:Ci)(k:Nat):St:=(upM [(8,i k)] (e7 N U O m g f er N1 bf))
def xZ(U O:Cg)(m:Ch)(g:Nat->Ci)(f:Ci)(er:Int)(N1:Nat)(bf:Ci)(k:Nat):G8->Option St
 | .exit 0=>some (upM [] (e7 N U O m g f er N1 bf))
 |_=>none
def Ql2(U O:Cg)(m:Ch)(g:Nat->Ci)(f:Ci)(er:Int)(N1:Nat)(bf:Ci):CT:= .leaf (.exit 0,(xZ N U O m g f er N1 bf 0 (.exit 0)).getD (e7 N U O m g f er N1 bf))
def oM(U O:Cg)(m:Ch)(g:Nat->Ci)(f:Ci)(er:Int)(N1:Nat)(bf:Ci):UN:=(HI (SM N U O m g f er N1 bf (0)) (Ql2 N U O m g f er N1 bf))
end
theorem VJ{p:Prop}(h:p:=by
 (with_reducible repeat' first|apply Al|intro _)
 all_goals first|exact Ak|(rename_i E hE;cases hE;exact hQ)|omega|rfl|assumption):p:=h
section
variable (N:Nat)(U O:Cg)(m:Ch)(g:Nat->Ci)(f:Ci)(er:Int)(N1:Nat)(bf:Ci)
theorem Wb5(VW:N<=6)(UG:Qy6 N U O m g):GD VU (.loop Qp9) (oM N U O m g f er N1 bf):=by
 refine HO (L:=[]) (Ae TG Aa) U3 U7 (X:=Nat) (SM N U O m g f er N1 bf) (λk=>k<=N) (λk=>N-k) (xZ N U O m g f er N1 bf) (x0:=0) VY ?_ ?_ ?_;rintro k;kernel_rfl;rintro k y E h;unfold xZ at h;split at h;cases h;kernel_rfl;cases h;rintro Q hQ k hx;refine ⟨(k+1),?_⟩;(with_reducible refine DG (t:=branch (decide ((k:Int)<(N:Int))) (need [UO k N] (need [UL 2 (m k) λa=>g k a,Qr5 (m k) (col 0 λa=>g k a) (col 1 λa=>g k a),insB (0:Int) (U k) (O k) (1000:Int)=true] (branch false VR.fail (need [VQ ((k:Int)+1)] (need [U4 (J5 N U O m g),U4 (XL f er N1 bf),U4 (N:Int),(k:Int)+1=(↑(k+1):Int)] (leaf G8.normal)))))) (need [U4 (J5 N U O m g),U4 (XL f er N1 bf),U4 (N:Int)] (leaf (G8.exit 0)))) VZ ?_)
 simp only [Ql2,xZ,VR.sat,GW] at hQ;simp only [VR.sat,UF,UK,H6,VQ,xZ,DR]
 refine ⟨λh=>?_,λh=>?_⟩
 ·have hk:k<N:=VO;obtain ⟨h1,h2,h3⟩:=UG k hk;all_goals exact V8
 obtain rfl:k=N:=VO;exact VJ
abbrev KL:Value:=Value.int IntKind.i64 (-1:Int)
theorem Xu6(VW:N<=6)(UG:Qy6 N U O m g):U2 VU 194 [bgs N U O m g,.fn (.func 154) [] [.ro [.fn (.func 108) [.agg [.lst 2 3 f,i er,.lst 3 N1 bf]] []]]] (i (-1)):=by
 refine U6 (L:=[oM N U O m g f er N1 bf]) (Ae TG Aa) U3 Tryz.func194 (UW Tryz.f194) (G0 (lpE (b:= .loop Qp9) VZ<|Wb5 N U O m g f er N1 bf VW UG)) (t:=need [U4 (J5 N U O m g),U4 (XL f er N1 bf),U4 (N:Int),(0:Int)=((0:Nat):Int)] (leaf (RV.x (KL)))) VZ ?_
 exact V2
end
def Xf5:G4
 |[.lst 3 N b,.fn (.func 154) [] [.ro [.fn (.func 108) [.agg [.lst 2 3 f,.x (.int .i64 er),.lst 3 N1 bf]] []]]]=>some ([vB N b],i (-1))
 |_=>none
theorem Xu5:VT VU 194 Xf5:=by
 refine ⟨(UM Tryz.func194),?_⟩;intro avs ns res h I;unfold Xf5 at h;split at h;cases h;obtain ⟨h0,U,O,m,g,he,hb⟩:vB _ _:=I _ GN;exact (Xu6 _ U O m g _ _ _ _ h0 hb).same (.cons (.lst 3 _ _ _ he) (.cons (.refl _) .nil));cases h
theorem Wf2{N:Nat}{U O:Cg}{m:Ch}{g:Nat->Ci}(h0:N<=6)(hb:Qy6 N U O m g):vB N (λk=>[i (U k),i (O k),.lst 2 (m k) (g k)]):=⟨h0,U,O,m,g,λ_ _=>rfl,hb⟩
theorem Xv5(N:Nat)(U O:Cg)(m:Ch)(g:Nat->Ci)(f:Ci)(er:Int)(N1:Nat)(bf:Ci)(VW:N<=6)(UG:Qy6 N U O m g):U2 VU 153 [bgs N U O m g,.fn (.func 154) [] [.ro [.fn (.func 108) [.agg [.lst 2 3 f,i er,.lst 3 N1 bf]] []]]] (bl false):=by
 refine U6 (L:=[]) (Ae Xu5 Aa) U3 Tryz.func153 (UW Tryz.f153) U7 (t:=need [vB N λk=>[i (U k),i (O k),lst 2 (m k) (g k)]] (leaf (RV.x (.bool (decide ((-1:Int)>=(0:Int))))))) VZ ?_;simp only [VR.sat,UF,G6,GQ,UH,UK,DR];exact ⟨Wf2 VW UG,rfl⟩
def Xf9:G4
 |[.lst 3 N b,.fn (.func 154) [] [.ro [.fn (.func 108) [.agg [.lst 2 3 f,.x (.int .i64 er),.lst 3 N1 bf]] []]]]=>some ([vB N b],bl false)
 |_=>none
theorem Xv4:VT VU 153 Xf9:=by
 refine ⟨(UM Tryz.func153),?_⟩;intro avs ns res h I;unfold Xf9 at h;split at h;cases h;obtain ⟨h0,U,O,m,g,he,hb⟩:vB _ _:=I _ GN;exact (Xv5 _ U O m g _ _ _ _ h0 hb).same (.cons (.lst 3 _ _ _ he) (.cons (.refl _) .nil));cases h
theorem Xd2(N:Nat)(U O:Cg)(m:Ch)(g:Nat->Ci)(f:Ci)(er:Int)(N1:Nat)(bf:Ci)(VW:N<=6)(UG:Qy6 N U O m g):U2 VU 107 [bgs N U O m g,.fn (.func 108) [.agg [.lst 2 3 f,i er,.lst 3 N1 bf]] []] (bl true):=by
 refine U6 (L:=[]) (Ae Xv4 Aa) U3 Tryz.func107 (UW Tryz.f107) U7 (t:=need [vB N λk=>[i (U k),i (O k),lst 2 (m k) (g k)]] (leaf (RV.x (.bool !false)))) VZ ?_;simp only [VR.sat,UF,G6,GQ,UH,UK,DR];exact ⟨Wf2 VW UG,rfl⟩
def Qn1:G4
 |[.lst 3 N b,.fn (.func 108) [.agg [.lst 2 3 f,.x (.int .i64 er),.lst 3 N1 bf]] []]=>some ([vB N b],bl true)
 |_=>none
theorem Xd1:VT VU 107 Qn1:=by
 refine ⟨(UM Tryz.func107),?_⟩;intro avs ns res h I;unfold Qn1 at h;split at h;cases h;obtain ⟨h0,U,O,m,g,he,hb⟩:vB _ _:=I _ GN;exact (Xd2 _ U O m g _ _ _ _ h0 hb).same (.cons (.lst 3 _ _ _ he) (.cons (.refl _) .nil));cases h
def oL(k:Nat):Int:=if k=0 then 0 else -9
def oH(k:Nat):Int:=if k=0 then 0 else 9
def ofB(f:Ci):Prop:= ∀k,k<3->f k=[i (oL k),i (oH k)]
abbrev ofs:AV:= .lst 2 3 (λk=>[i (oL k),i (oH k)])
def HK(m:Ch):Nat->Nat
 | 0=>0
 |b+1=>HK m b+m b
def GJ(m:Ch):Nat->Nat->Nat×Nat
 | 0,q=>(0,q)
 |N+1,q=>if q<HK m N then GJ m N q else (N,q-HK m N)
def Wj3(m:Ch)(N:Nat)(r v:Nat->Cg)(q:Nat):List Value:=
 [.agg #[.int .i64 (GJ m N q).1,.int .i64 (GJ m N q).2],.agg #[.int .i64 (r (GJ m N q).1 (GJ m N q).2),.int .i64 (v (GJ m N q).1 (GJ m N q).2)]]
abbrev bds(N:Nat)(U O:Cg)(m:Ch)(r v:Nat->Cg):AV:= .lst 3 N (λk=>[i (U k),i (O k),bts (m k) (r k) (v k)])
theorem cC{P:Program}{ro:Option Nat}{cx:Cx}{c:Code}{t:Nat}{F:Nat->UN}(h: ∀k,HQ P ro cx c (F k)):HQ P ro cx c (BQ t F):=by
 intro n s tr ht Q hQ a w r;unfold BQ at ht;split at ht;exact h _ n s tr ht Q hQ a w r;cases ht
theorem S9(m:Ch){b c:Nat}(h:b<=c):HK m b<=HK m c:=by
 induction h with
 |refl=>exact Am _
 |step _ ih=>exact Ar ih (Nat.le_add_right _ _)
theorem Qh1(m:Ch): ∀(N b n:Nat),b<N->n<m b->GJ m N (HK m b+n)=(b,n)
 | 0,_,_,h,_=>VO
 |N+1,b,n,h,I=>by
  unfold GJ;rcases (show b<N\/b=N by omega) with hb|rfl
  have:=S9 m (show b+1<=N by omega)
  simp only [HK] at this;rw [if_pos VO,Qh1 m N b n hb I];rw [if_neg VO];simp
theorem bJ(m:Ch): ∀(N q:Nat),q<HK m N->(GJ m N q).1<N/\(GJ m N q).2<m (GJ m N q).1
 | 0,_,h=>by simp [HK] at h
 |N+1,q,h=>by
  simp only [HK] at h;unfold GJ;split;rename_i hq;obtain ⟨h1,h2⟩:=bJ m N q hq;exact ⟨VO,h2⟩;exact ⟨VY,by simp;omega⟩
def oB:G4
 |[.agg [.x (.int .i64 a),.x (.int .i64 b)],.ro [.fn (.func 105) [] []]]=>some ([],bl (!insB (-100) a b 100))
 |_=>none
theorem Qz1(a b:Int):U2 VU 151 [.agg [i a,i b],.ro [.fn (.func 105) [] []]] (bl (!insB (-100) a b 100)):=by
 refine U6 (L:=[]) (Ae Qb2 Aa) U3 Tryz.func151 (UW Tryz.f151) U7 (t:=leaf (RV.x (.bool !insB (-100:Int) a b (100:Int)))) VZ ?_;exact V2
theorem TF:VT VU 151 oB:=by
 refine ⟨(UM Tryz.func151),?_⟩;intro avs ns res h I;unfold oB at h;split at h;cases h;exact Qz1 _ _;cases h
abbrev ZE:AV:=AV.fn (Fn.func 151) [] [AV.ro [AV.fn (Fn.func 105) [] []]]
def cZ:St:={σ:=[lst 2 3 λk=>[iI (oL k),iI (oH k)],ZE]++HR 5 [iI ((3:Nat):Int)]++HR 11 [],m:=[],nx:=4}
noncomputable def Qp8:Code:=UD (VX (UB Tryz.f193) 0)
def SL(k:Nat):St:=(upM [(8,i k)] (cZ))
def xY(k:Nat):G8->Option St
 | .exit 0=>some (upM [] (cZ))
 |_=>none
def Ql1:CT:= .leaf (.exit 0,(xY 0 (.exit 0)).getD (cZ))
def oK:UN:=(HI (SL (0)) (Ql1))
theorem Wb4:GD VU (.loop Qp8) (oK):=by
 refine HO (L:=[]) (Ae TF Aa) U3 U7 (X:=Nat) (SL) (λk=>k<=3) (λk=>3-k) (xY) (x0:=0) VY ?_ ?_ ?_;rintro k;kernel_rfl;rintro k y E h;unfold xY at h;split at h;cases h;kernel_rfl;cases h;rintro Q hQ k hx;refine ⟨(k+1),?_⟩;(with_reducible refine DG (t:=branch (decide ((k:Int)<((3:Nat):Int))) (need [UO k 3] (branch (!insB (-100:Int) (oL k) (oH k) (100:Int)) VR.fail (need [VQ ((k:Int)+1)] (need [U4 (lst 2 3 λk=>[iI (oL k),iI (oH k)]),ZE=ZE,U4 ((3:Nat):Int),(k:Int)+1=(↑(k+1):Int)] (leaf G8.normal))))) (need [U4 (lst 2 3 λk=>[iI (oL k),iI (oH k)]),ZE=ZE,U4 ((3:Nat):Int)] (leaf (G8.exit 0)))) VZ ?_)
 simp only [Ql1,xY,VR.sat,GW] at hQ;simp only [VR.sat,UF,UK,H6,VQ,xY,DR]
 refine ⟨λh=>?_,λh=>?_⟩
 ·have hk:k<3:=VO;rcases (show k=0\/k=1\/k=2 by omega) with rfl|rfl|rfl<;>simp [oL,oH,insB,Bo.insB]
  all_goals exact V8
 obtain rfl:k=3:=VO;exact VJ
theorem Xu4:U2 VU 193 [ofs,.fn (.func 151) [] [.ro [.fn (.func 105) [] []]]] (i (-1)):=by
 refine U6 (L:=[oK]) (Ae TF Aa) U3 Tryz.func193 (UW Tryz.f193) (G0 (lpE (b:= .loop Qp8) VZ<|Wb4)) (t:=need [U4 (lst 2 3 λk=>[iI (oL k),iI (oH k)]),ZE=ZE,U4 ((3:Nat):Int),(0:Int)=((0:Nat):Int)] (leaf (RV.x (KL)))) VZ ?_
 exact V2
def Xf4:G4
 |[.lst 2 3 f,.fn (.func 151) [] [.ro [.fn (.func 105) [] []]]]=>some ([ofB f],i (-1))
 |_=>none
theorem Xu3:VT VU 193 Xf4:=by
 refine ⟨(UM Tryz.func193),?_⟩;intro avs ns res h I;unfold Xf4 at h;split at h;cases h;have hr:_:=I _ (GN);exact (Xu4).same (.cons (.lst 2 3 _ _ hr) (.cons (.refl _) .nil));cases h
theorem Xv3:U2 VU 150 [ofs,.fn (.func 151) [] [.ro [.fn (.func 105) [] []]]] (bl false):=by
 refine U6 (L:=[]) (Ae Xu3 Aa) U3 Tryz.func150 (UW Tryz.f150) U7 (t:=need [ofB λk=>[i (oL k),i (oH k)]] (leaf (RV.x (.bool (decide ((-1:Int)>=(0:Int))))))) VZ ?_;simp only [VR.sat,UF,G6,GQ,UH,UK,DR];exact ⟨λ_ _=>rfl,rfl⟩
def Xf8:G4
 |[.lst 2 3 f,.fn (.func 151) [] [.ro [.fn (.func 105) [] []]]]=>some ([ofB f],bl false)
 |_=>none
theorem Xv2:VT VU 150 Xf8:=by
 refine ⟨(UM Tryz.func150),?_⟩;intro avs ns res h I;unfold Xf8 at h;split at h;cases h;have hr:_:=I _ (GN);exact (Xv3).same (.cons (.lst 2 3 _ _ hr) (.cons (.refl _) .nil));cases h
theorem Xd0:U2 VU 104 [ofs,.fn (.func 105) [] []] (bl true):=by
 refine U6 (L:=[]) (Ae Xv2 Aa) U3 Tryz.func104 (UW Tryz.f104) U7 (t:=need [ofB λk=>[i (oL k),i (oH k)]] (leaf (RV.x (.bool !false)))) VZ ?_;simp only [VR.sat,UF,G6,GQ,UH,UK,DR];exact ⟨λ_ _=>rfl,rfl⟩
def Qn0:G4
 |[.lst 2 3 f,.fn (.func 105) [] []]=>some ([ofB f],bl true)
 |_=>none
theorem Xc9:VT VU 104 Qn0:=by
 refine ⟨(UM Tryz.func104),?_⟩;intro avs ns res h I;unfold Qn0 at h;split at h;cases h;have hr:_:=I _ (GN);exact (Xd0).same (.cons (.lst 2 3 _ _ hr) (.cons (.refl _) .nil));cases h
def oD:G4
 |[.agg [.lst 2 3 f,.x (.int .i64 1),.lst 3 N bf]]=>some ([ofB f,vB N bf],i 0)
 |_=>none
abbrev WV:Value:=Value.int IntKind.i64 (0:Int)
abbrev JU:Value:=Value.int IntKind.i64 (1:Int)
abbrev KA:Value:=Value.int IntKind.i64 (3:Int)
theorem Qz4(f:Ci)(N:Nat)(bf:Ci)(VW:ofB f)(UG:vB N bf):U2 VU 74 [.agg [.lst 2 3 f,i 1,.lst 3 N bf]] (i 0):=by
 refine U6 (L:=[]) (Ae Xc9 (Ae Xd1 (Ae jP Aa))) U3 Tryz.func74 (UW Tryz.f74) U7 (t:=branch (decide (((3:Nat):Int)>6)) (leaf (RV.x (KA))) (branch (decide ((N:Int)>6)) (leaf (RV.x (KA))) (branch (((3:Nat):Int)==0) (leaf (RV.x (JU))) (need [ofB f] (branch (!true) (leaf (RV.x (JU))) (branch (!bt (0:Int) (1:Int) (20:Int)) (leaf (RV.x (JU))) (need [vB N bf] (branch (!true) (leaf (RV.x (JU))) (leaf (RV.x (WV))))))))))) VZ ?_;simp only [VR.sat,UF,G6,GQ,UH,UK,DR];have h6:=UG.1;simp [bt,Bo.bt,VW,UG];omega
theorem Qz3:VT VU 74 oD:=by
 refine ⟨(UM Tryz.func74),?_⟩;intro avs ns res h I;unfold oD at h;split at h;cases h;exact Qz4 _ _ _ (I _ VY) (I _ VY);cases h
def NI:G4
 |[.agg [.lst 2 3 f,.x (.int .i64 er),.lst 3 N bf]]=>some ([],.fn (.func 157) [] [.ro [.lst 2 3 f,i er,.lst 3 N bf]])
 |_=>none
abbrev W5:Ext:={}
theorem Qy7(f:Ci)(er:Int)(N:Nat)(bf:Ci):FJ VU 109 [.agg [.lst 2 3 f,i er,.lst 3 N bf]] (.fn (.func 157) [] [.ro [.lst 2 3 f,i er,.lst 3 N bf]]):=by
 refine D6 (L:=[]) Aa Ad U3 Tryz.func109 (UW Tryz.f109) G9 (t:=leaf (AV.fn (Fn.func 157) [] [AV.ro [WG f,iI er,K2 N bf]])) VZ ?_;exact rfl
theorem MX:PE VU 109 NI:=by
 refine ⟨(UM Tryz.func109),?_⟩;intro avs ns res h I;unfold NI at h;split at h;cases h;exact Qy7 _ _ _ _;cases h
abbrev Q1(N:Nat)(U:Cg)(O:Cg)(m:Ch)(r:Nat->Cg)(v:Nat->Cg):AV:=lst 3 N λk=>[iI (U k),iI (O k),lst 2 (m k) λj=>[iI (r k j),iI (v k j)]]
section
variable (l:Nat)(f:Ci)(er:Int)(N:Nat)(U O:Cg)(m:Ch)(r v:Nat->Cg)
def oY:St:={σ:=[AV.fn (Fn.yield l) [] [],AV.ro [WG f,iI er,Q1 N U O m r v]]++HR 6 [Q1 N U O m r v,iI (N:Int)]++HR 22 [],m:=[],nx:=4,gh:=some 0}
noncomputable def p8:Code:=UD (VX (UB Tryz.f157) 0)
def C4(b:Nat):St:={σ:=H4 [(3,.top),(4,.top),(5,.top),(6,.top),(10,i b)] (oY l f er N U O m r v).σ,m:=[],nx:=0,gh:=some (HK m b) }
def wM(b:Nat):G8->Option St
 | .exit 0=>some {σ:=H4 [(3,.top),(4,.top),(5,.top),(6,.top),(10,i N)] (oY l f er N U O m r v).σ,m:=[],nx:=0,gh:=some (HK m N) }
 | .ret=>some {σ:=H4 [(3,.top),(4,.top),(5,.top),(6,.top)] (oY l f er N U O m r v).σ,m:=[],nx:=0,gh:=none}
 |_=>none
def Zd5:CT:= .may True (.leaf (.exit 0,(wM l f er N U O m r v 0 (.exit 0)).getD (oY l f er N U O m r v))) (.leaf (.ret,(wM l f er N U O m r v 0 .ret).getD (oY l f er N U O m r v)))
def Xi6:UN:=GO [] (HI (C4 l f er N U O m r v (0)) (Zd5 l f er N U O m r v))
end
abbrev JS(m:Ch)(b:Nat)(r:Nat->Cg)(v:Nat->Cg):AV:=lst 2 (m b) λj=>[iI (r b j),iI (v b j)]
section
variable (l:Nat)(f:Ci)(er:Int)(N:Nat)(U O:Cg)(m:Ch)(r v:Nat->Cg)(b:Nat)
def oZ:St:={σ:=[AV.fn (Fn.yield l) [] [],AV.ro [WG f,iI er,Q1 N U O m r v],top,iI (b:Int),ptr 4 0,top,top,top,Q1 N U O m r v,iI (N:Int),iI (b:Int)]++HR 5 [JS m b r v,iI (m b:Int)]++HR 14 [],m:=[(4,GU.cells 133 [iI (U b),iI (O b),JS m b r v])],nx:=11,gh:=some (HK m b) }
noncomputable def Xl3:Code:=UD (VX p8 0)
def C5(n:Nat):St:={σ:=H4 [(4,.top),(5,.top),(6,.top),(18,i n)] (oZ l f er N U O m r v b).σ,m:=[],nx:=0,gh:=some (HK m b+n) }
def wN(n:Nat):G8->Option St
 | .exit 2=>some {σ:=H4 [(3,.top),(4,.top),(5,.top),(6,.top),(18,i (m b))] (oZ l f er N U O m r v b).σ,m:=[],nx:=0,gh:=some (HK m (b+1)) }
 | .ret=>some {σ:=H4 [(3,.top),(4,.top),(5,.top),(6,.top)] (oZ l f er N U O m r v b).σ,m:=[],nx:=0,gh:=none}
 |_=>none
def Zd6:CT:= .may True (.leaf (.exit 2,(wN l f er N U O m r v b 0 (.exit 2)).getD (oZ l f er N U O m r v b))) (.leaf (.ret,(wN l f er N U O m r v b 0 .ret).getD (oZ l f er N U O m r v b)))
def Qd2:UN:=GO [] (HI (C5 l f er N U O m r v b (0)) (Zd6 l f er N U O m r v b))
end
abbrev W6(l:Nat):Prop:=AV.fn (Fn.yield l) [] []=AV.fn (Fn.yield l) [] []
abbrev WU(N:Nat)(U:Cg)(O:Cg)(m:Ch)(r:Nat->Cg)(v:Nat->Cg):Prop:=(Q1 N U O m r v)=Q1 N U O m r v
abbrev J2(f:Ci)(er:Int)(N:Nat)(U:Cg)(O:Cg)(m:Ch)(r:Nat->Cg)(v:Nat->Cg):Prop:=AV.ro [WG f,iI er,Q1 N U O m r v]=AV.ro [WG f,iI er,Q1 N U O m r v]
section
variable (l:Nat)(f:Ci)(er:Int)(N:Nat)(U O:Cg)(m:Ch)(r v:Nat->Cg)
theorem Zr0(b:Nat)(VW:N<=1000)(UG: ∀b,b<N->m b<=1000)(HX:b<N){cx:Cx}(hX:U0 VU {Y:=some (l,(HK m N),(Wj3 m N r v)) } cx):HQ VU none cx (.loop Xl3) (Qd2 l f er N U O m r v b):=by
 refine F7 [] (L:=[]) Aa hX U3 G9 (V:=Nat) (C5 l f er N U O m r v b) (λn=>n<=m b) (λn=>m b-n) (wN l f er N U O m r v b) (x0:=0) VY ?_ ?_ ?_;rintro n;kernel_rfl;rintro n y E h;unfold wN at h;split at h;cases h;kernel_rfl;cases h;kernel_rfl;cases h;rintro Q hQ n hx;refine ⟨(n+1),?_⟩;have e:HW VU [] {Y:=some (l,(HK m N),(Wj3 m N r v)) } [] [] Xl3 (C5 l f er N U O m r v b n) (C5 l f er N U O m r v b ((n+1))) (wN l f er N U O m r v b n)=(let z0:=(GJ m N (HK m b+n));(branch (decide ((n:Int)<(m b:Int))) (need [UO n (m b:Int)] (need [l=l,HK m b+n<HK m N,[Value.agg {toList:=[Value.int IntKind.i64 (b:Int),Value.int IntKind.i64 (n:Int)] },Value.agg {toList:=[Value.int IntKind.i64 (r b n),Value.int IntKind.i64 (v b n)] }]=[Value.agg {toList:=[Value.int IntKind.i64 (↑(Prod.fst z0):Int),Value.int IntKind.i64 (↑(Prod.snd z0):Int)] },Value.agg {toList:=[Value.int IntKind.i64 (r (Prod.fst z0) (Prod.snd z0)),Value.int IntKind.i64 (v (Prod.fst z0) (Prod.snd z0))] }]] (VR.may True (need [VQ ((n:Int)+1)] (need [W6 l,J2 f er N U O m r v,U4 (b:Int),WU N U O m r v,U4 (N:Int),U4 (b:Int),U4 (JS m b r v),U4 (m b:Int),(n:Int)+1=(↑(n+1):Int),HK m b+n+1=HK m b+(n+1)] (leaf G8.normal))) (need [W6 l,J2 f er N U O m r v,WU N U O m r v,U4 (N:Int),U4 (b:Int),U4 (JS m b r v),U4 (m b:Int)] (leaf G8.ret))))) (need [W6 l,J2 f er N U O m r v,WU N U O m r v,U4 (N:Int),U4 (b:Int),U4 (JS m b r v),U4 (m b:Int),(n:Int)=(m b:Int),HK m b+n=HK m (b+1)] (leaf (G8.exit 2))))):=VZ;rw [e];simp only [Zd6,wN,VR.sat,GW] at hQ;have hQ1: ∀E,wN l f er N U O m r v b n (.exit 2)=some E->Q (.exit 2,E):=λE hE=>by cases hE;exact hQ.1 trivial
 have hQ2: ∀E,wN l f er N U O m r v b n .ret=some E->Q (.ret,E):=λE hE=>by cases hE;exact hQ.2
 simp only [VR.sat,UF,UK,H6,VQ,DR];clear e hQ;have h3:=UG b HX;refine ⟨λh=>?_,λh=>?_⟩
 ·have hk:n<m b:=VO;have h1:=S9 m (show b+1<=N by omega)
  simp only [HK] at h1;rw [Qh1 m N b n HX hk];all_goals exact V8
 ·obtain rfl:n=m b:=VO;all_goals exact V8
theorem Zq9(VW:N<=1000)(UG: ∀b,b<N->m b<=1000){cx:Cx}(hX:U0 VU {Y:=some (l,(HK m N),(Wj3 m N r v)) } cx):HQ VU none cx (.loop p8) (Xi6 l f er N U O m r v):=by
 refine F7 [] (L:=[BQ 10 (λb=>FX [b<N] (Qd2 l f er N U O m r v b))]) Aa hX U3 (G0 (λcj hcj=>by
  have e:VX p8 0=some (.loop Xl3):=VZ;rw [e] at hcj;cases hcj;exact cC (λb=>xG (λh=>Zr0 l f er N U O m r v b VW UG h hX)))) (V:=Nat) (C4 l f er N U O m r v) (λb=>b<=N) (λb=>N-b) (wM l f er N U O m r v) (x0:=0) VY ?_ ?_ ?_
 rintro b;kernel_rfl;rintro b y E h;unfold wM at h;split at h;cases h;kernel_rfl;cases h;kernel_rfl;cases h;rintro Q hQ b hx;refine ⟨(b+1),?_⟩;have e:HW VU [] {Y:=some (l,(HK m N),(Wj3 m N r v)) } [BQ 10 (λb=>FX [b<N] (Qd2 l f er N U O m r v b))] [] p8 (C4 l f er N U O m r v b) (C4 l f er N U O m r v ((b+1))) (wM l f er N U O m r v b)=(let z0:=J2 f er N U O m r v;(branch (decide ((b:Int)<(N:Int))) (need [UO b N] (need [b<N] (need [W6 l,z0,U4 (b:Int),WU N U O m r v,U4 (N:Int),U4 (b:Int),U4 (lst 2 (m b) λj=>[iI (r b j),iI (v b j)]),U4 (m b:Int),(0:Int)=((0:Nat):Int),HK m b=HK m b+0] (VR.may True (need [VQ ((b:Int)+1)] (need [W6 l,z0,WU N U O m r v,U4 (N:Int),(b:Int)+1=(↑(b+1):Int),U4 (HK m (b+1))] (leaf G8.normal))) (need [W6 l,z0,WU N U O m r v,U4 (N:Int)] (leaf G8.ret)))))) (need [W6 l,z0,WU N U O m r v,U4 (N:Int),(b:Int)=(N:Int),HK m b=HK m N] (leaf (G8.exit 0))))):=VZ;rw [e];simp only [Zd5,wM,VR.sat,GW] at hQ;have hQ1: ∀E,wM l f er N U O m r v b (.exit 0)=some E->Q (.exit 0,E):=λE hE=>by cases hE;exact hQ.1 trivial
 have hQ2: ∀E,wM l f er N U O m r v b .ret=some E->Q (.ret,E):=λE hE=>by cases hE;exact hQ.2
 simp only [VR.sat,UF,UK,H6,VQ,DR];clear e hQ;refine ⟨λh=>?_,λh=>?_⟩
 ·have h3:=UG b VO;all_goals exact V8
 ·obtain rfl:b=N:=VO;all_goals exact V8
end
theorem nK(f:Ci)(er:Int)(N:Nat)(U O:Cg)(m:Ch)(r v:Nat->Cg)(VW:N<=1000)(UG: ∀b,b<N->m b<=1000):PZ Tryz.prog 157 [.ro [.lst 2 3 f,i er,bds N U O m r v]] ((HK m N)) (Wj3 m N r v):=by
 refine PM (L:=λl=>[Xi6 l f er N U O m r v]) Aa U3 (UM Tryz.func157) Tryz.func157 (UW Tryz.f157) VZ (λl cx hX=>G0 (lpE (b:= .loop p8) VZ<|Zq9 l f er N U O m r v VW UG hX)) (t:=λl=>(need [U4 (AV.fn (Fn.yield l) [] []),J2 f er N U O m r v,WU N U O m r v,U4 (N:Int),(0:Int)=((0:Nat):Int),0=HK m 0] (VR.may True (need [U4 (HK m N)] (leaf PUnit.unit)) (leaf PUnit.unit)))) (λl=>VZ) ?_
 intro l;simp only [VR.sat,UF,G6,GQ,UH,VQ,UK,H6,FW];all_goals exact V8
def plF(m:Ch)(N:Nat)(q:Nat):List AV:=[i (GJ m N q).1,i (GJ m N q).2]
theorem bB(m:Ch){K:Nat}: ∀(N:Nat),(∀b,b<N->m b<=K)->HK m N<=N*K
 | 0,_=>by simp [HK]
 |N+1,h=>by
  have:=bB m N (λb hb=>h b VO);have:=h N VO;simp only [HK,Bq];omega
abbrev QD:AV:=AV.x (.pointer none)
def Ka5(f:Ci)(er:Int)(N:Nat)(U O:Cg)(m:Ch)(r v:Nat->Cg):St:={σ:=[agg [WG f,iI er,Q1 N U O m r v],ptr 0 0,QD,ptr 6 0]++HR 6 [AV.fn (Fn.func 157) [] [AV.ro [WG f,iI er,Q1 N U O m r v]]]++HR 13 [],m:=[(901,GU.row 219 2 0 λx=>[]),(6,GU.cells 163 [ptr 5 0]),(5,GU.cells 214 [WG f,iI er,Q1 N U O m r v,AV.row 901,AV.mp 3]),(3,GU.memo (λx=>False) λv=>v),(0,GU.cells 74 [WG f,iI er,Q1 N U O m r v])],nx:=902}
def rfF:Option Code->Operand
 |some (.rangeFunc f _ _ _)=>f
 |_=> .const .nilFunc
def xS:Option Code->Array Nat
 |some (.rangeFunc _ ps _ _)=>ps
 |_=>#[]
def NW:Option Code->Code
 |some (.rangeFunc _ _ a _)=>a
 |_=> .skip
def NV:Option Code->Code
 |some (.rangeFunc _ _ _ b)=>b
 |_=> .skip
noncomputable def Ke6:Code:=NW (VX (UB Tryz.f75) 0)
noncomputable def Kb1:Code:=NV (VX (UB Tryz.f75) 0)
section
variable (f:Ci)(er:Int)(N:Nat)(U O:Cg)(m:Ch)(r v:Nat->Cg)
def t8(k:Nat):St:={σ:=H4 [] (Ka5 f er N U O m r v).σ,m:=[(901,.row 219 2 (k) (plF m N)),(6,.cells 163 [.ptr 5 0]),(5,.cells 214 [.lst 2 3 f,i er,bds N U O m r v,.row 901,.mp 3]),(3,.memo (λ_=>False) (λx=>x)),(0,.cells 74 [.lst 2 3 f,i er,bds N U O m r v])],nx:=902}
def sB(k:Nat):G8->Option St
 | .normal=>some {σ:=H4 [] (Ka5 f er N U O m r v).σ,m:=[(901,.row 219 2 ((HK m N)) (plF m N)),(6,.cells 163 [.ptr 5 0]),(5,.cells 214 [.lst 2 3 f,i er,bds N U O m r v,.row 901,.mp 3]),(3,.memo (λ_=>False) (λx=>x)),(0,.cells 74 [.lst 2 3 f,i er,bds N U O m r v])],nx:=902}
 |_=>none
def T_wr:CT:= .leaf (.normal,t8 f er N U O m r v (HK m N))
def Ze6:UN:=GO [(.cell 5 3,901,219,2)] (HI (t8 f er N U O m r v (0)) (T_wr f er N U O m r v))
abbrev W8:Prop:=AV.row 901=AV.row 901
abbrev ZN:Prop:=ptr 5 0=ptr 5 0
abbrev YR:Prop:=ptr 6 0=ptr 6 0
abbrev YW:Ext:={R:=[(109,NI)],H:=[] }
theorem Jf2(VW:N<=1000)(UG: ∀b,b<N->m b<=1000):HU VU (.rangeFunc (rfF (VX (UB Tryz.f75) 0)) (xS (VX (UB Tryz.f75) 0)) Ke6 Kb1) (Ze6 f er N U O m r v):=by
 refine LQ [(.cell 5 3,901,219,2)] (L:=[]) Aa (Ai (Af MX Ab) Ac) U3 U7 (V:=Nat) (t8 f er N U O m r v) (λk=>k<=(HK m N)) (λk=>k) (sB f er N U O m r v) (x0:=0) VY rfl ?_ ?_ ?_ ?_ (g:=157) (caps:=[.ro [.lst 2 3 f,i er,bds N U O m r v]]) VZ VZ (nK f er N U O m r v VW UG) (λ_=>rfl) ?_;rintro k;kernel_rfl;rintro k y E h;unfold sB at h;split at h;cases h;kernel_rfl;cases h;rintro k;rfl;rintro k y E h;unfold sB at h;split at h;cases h;rfl;cases h
 ·rintro Q hQ k hx;refine ⟨λhlt=>⟨(k+1),rfl,?_⟩,λPR=>?_⟩
  ·(with_reducible refine DG (t:=need [(k+1)*16<=140737488355328,RY 1 (UA 2 [iI (↑(Prod.fst (GJ m N k)):Int),iI (↑(Prod.snd (GJ m N k)):Int)])] (need [U4 (agg [WG f,iI er,Q1 N U O m r v]),QO,QD=QD,YR,U4 (AV.fn (Fn.func 157) [] [AV.ro [WG f,iI er,Q1 N U O m r v]]),k+1=k+1,GZ (k+1) (GL k (plF m N) (UA 2 [iI (↑(Prod.fst (GJ m N k)):Int),iI (↑(Prod.snd (GJ m N k)):Int)])) (plF m N),ZN,WG f=WG f,er=er,WU N U O m r v,W8,U4 (AV.mp 3),∀(k:Value),False->False/\k=k,WG f=WG f,er=er,WU N U O m r v] (leaf G8.normal))) VZ ?_);have hb:=bB m N UG;have hb2:=BS 1000 VW;simp only [VR.sat,UF,UK]
   (with_reducible repeat' first|apply Al|intro _)
   all_goals first|exact Ak|rfl|omega|exact FP (by assumption) (by simp [AV.one,Value.oneCell'])|exact Zy5 rfl rfl (by assumption)|contradiction
  subst PR;exact hQ
end
abbrev Q2(m:Ch)(N:Nat):AV:=lst 2 (HK m N) λq=>[iI (↑(Prod.fst (GJ m N q)):Int),iI (↑(Prod.snd (GJ m N q)):Int)]
theorem Xb7(f:Ci)(er:Int)(N:Nat)(U O:Cg)(m:Ch)(r v:Nat->Cg)(VW:N<=1000)(UG: ∀b,b<N->m b<=1000):FJ VU 75 [.agg [.lst 2 3 f,i er,bds N U O m r v]] (.ro [.lst 2 3 f,i er,bds N U O m r v,.lst 2 (HK m N) (plF m N),.top]):=by
 refine D6 (L:=[Ze6 f er N U O m r v]) Aa (Ai (Af MX Ab) Ac) U3 Tryz.func75 (UW Tryz.f75) (G0 (lpE (b:= .rangeFunc (rfF (VX (UB Tryz.f75) 0)) (xS (VX (UB Tryz.f75) 0)) Ke6 Kb1) VZ<|Jf2 f er N U O m r v VW UG)) (t:=need [U4 (agg [WG f,iI er,Q1 N U O m r v]),QO,QD=QD,YR,U4 (AV.fn (Fn.func 157) [] [AV.ro [WG f,iI er,Q1 N U O m r v]]),0=0,GZ 0 (λi=>[]) (plF m N),ZN,WG f=WG f,er=er,WU N U O m r v,W8,U4 (AV.mp 3),∀(k:Value),False->False/\k=k,WG f=WG f,er=er,WU N U O m r v] (leaf (AV.ro [WG f,iI er,Q1 N U O m r v,Q2 m N,top]))) VZ ?_
 simp only [VR.sat,UF,G6,GQ,UH,VQ,UK,H6,FW];all_goals exact V8
noncomputable def Qp2:D9:=AU Tryz.prog [(112,yK)] {} [] Tryz.f110 (UB Tryz.f110)
theorem RU:GH VU 110 Qp2:=
 RT (G:=[(112,yK)]) (X:=W5) (L:=[]) (Ae RG Aa) Ad U3 (UM Tryz.func110) Tryz.func110 (UW Tryz.f110) U7
def GC(M:Nat->Cg)(k:Nat):Int:=M (k / 13) (k%13)
def P8(k j:Nat):Nat->Cg:=λx y=>if ((x<k/\y<=12)\/(x=k/\y<j))/\x≠y then 8000 else 0
def spn(M:Nat->Cg)(a b:Nat)(U O:Int):Nat->Cg:=bnd (bnd M a b O) b a (-U)
def ofM:Nat->Nat->Nat->Int
 | 0=>P8 13 0
 |k+1=>spn (ofM k) 0 (1+k) (-oH k) (-oL k)
def btM(U O:Cg):Nat->Nat->Nat->Int
 | 0=>ofM 3
 |k+1=>spn (btM U O k) 0 (7+k) (U k) (O k)
def rdM1(N:Nat)(m:Ch)(r v:Nat->Cg)(M:Nat->Cg)(q:Nat):Nat->Cg:=
 spn M (1+(r (GJ m N q).1 (GJ m N q).2).toNat) (7+(GJ m N q).1) (v (GJ m N q).1 (GJ m N q).2-1) (v (GJ m N q).1 (GJ m N q).2+1)
def AL(N:Nat)(U O:Cg)(m:Ch)(r v:Nat->Cg):Nat->Nat->Nat->Int
 | 0=>btM U O N
 |q+1=>rdM1 N m r v (AL N U O m r v q) q
def bOK(N:Nat)(U O:Cg)(m:Ch)(r v:Nat->Cg):Prop:=N<=6/\ ∀b,b<N->m b<=10/\0<=U b/\U b<=O b/\O b<=1000/\ ∀j,j<m b->0<=r b j/\r b j<=2/\ -1000<=v b j/\v b j<=2000
theorem Xt2: ∀k,UE (List.replicate 169 0) k=GC (P8 0 0) k:=by
 intro k;rw [dW (by decide)]
 simp [GC,P8]
theorem v8(M:Nat->Cg){a b q:Nat}(hq:q=a*13+b)(hb:b<13):GC M q=M a b:=by
 unfold GC;rw [show q / 13=a by omega,show q%13=b by omega]
theorem rG{M M':Nat->Cg}(h: ∀x y,x<13->y<13->M x y=M' x y){k:Nat}(hk:k<169):GC M k=GC M' k:=h _ _ VO VO
theorem Qj0(M:Nat->Cg){a b q:Nat}(hq:q=a*13+b)(hb:b<13)(v:Int):UX q v (GC M)=GC (xR M a b v):=by
 funext k;unfold UX GC xR;by_cases hk:k=q;rw [if_pos hk,if_pos VO];rw [if_neg hk,if_neg VO]
theorem jM{M:Nat->Cg}{a b q:Nat}{v:Int}(hq:q=a*13+b)(hb:b<13):UX q (min (GC M q) v) (GC M)=GC (bnd M a b v):=by
 rw [v8 M hq hb,Qj0 M hq hb];rfl
theorem Qu8(k j:Nat)(hj:j<=12)(h:k≠j)(x y:Nat):xR (P8 k j) k j 8000 x y=P8 k (j+1) x y:=by
 unfold xR P8;split;rename_i hxy;rw [if_pos ⟨.inr VO,VO⟩];rename_i hxy;by_cases h1:((x<k/\y<=12)\/(x=k/\y<j))/\x≠y;rw [if_pos h1,if_pos VO];rw [if_neg h1,if_neg VO]
theorem Qu9(k:Nat)(x y:Nat):P8 k k x y=P8 k (k+1) x y:=by
 unfold P8;by_cases h1:((x<k/\y<=12)\/(x=k/\y<k))/\x≠y;rw [if_pos h1,if_pos VO];rw [if_neg h1,if_neg VO]
theorem Wt3(k:Nat)(x y:Nat):P8 k 13 x y=P8 (k+1) 0 x y:=by
 unfold P8;by_cases h1:((x<k/\y<=12)\/(x=k/\y<13))/\x≠y;rw [if_pos h1,if_pos VO];rw [if_neg h1,if_neg VO]
abbrev QC:List AV:=[AV.x (.int IntKind.u64 (0:Int))]
abbrev QL:List Int:=([(0:Int)]++eH 168)
abbrev KZ:GU:=GU.cells 168 QC
section
variable (N:Nat)(U O:Cg)(m:Ch)(r v:Nat->Cg)
def Jd4:St:={σ:=[AV.ro [lst 2 3 λk=>[iI (oL k),iI (oH k)],iI 1,Q1 N U O m r v,Q2 m N,top],agg QC,top,ptr 0 0,QD,AV.lit false,ptr 4 0]++HR 184 [],m:=[(4,GU.ints 222 [] 169 λa=>UE QL a),(0,KZ)],nx:=7}
noncomputable def Je6:Code:=UD (VX (UB Tryz.f76) 0)
def Ws4(k:Nat):St:=(upE [(22,i k)] [(4,.ints 222 [] 169 (GC (P8 k 0))),(0,.cells 168 [.x (.int .u64 0)])] (Jd4 N U O m r v))
def I9(k:Nat):G8->Option St
 | .exit 0=>some (upE [(22,i 13)] [(4,.ints 222 [] 169 (GC (P8 13 0))),(0,.cells 168 [.x (.int .u64 0)])] (Jd4 N U O m r v))
 |_=>none
def Jz7:CT:= .leaf (.exit 0,(I9 N U O m r v 0 (.exit 0)).getD (Jd4 N U O m r v))
def Zi7:UN:=GO [] (HI (Ws4 N U O m r v (0)) (Jz7 N U O m r v))
def Jd3(k:Nat):St:={σ:=[AV.ro [lst 2 3 λk=>[iI (oL k),iI (oH k)],iI 1,Q1 N U O m r v,Q2 m N,top],agg QC,top,ptr 0 0,QD,AV.lit false,ptr 4 0,iI (k:Int)]++HR 14 [iI (k:Int)]++HR 168 [],m:=[(4,GU.ints 222 [] 169 λk_1=>GC (P8 k 0) k_1),(0,KZ)],nx:=11}
noncomputable def Ke0:Code:=(UD (VX (UD (VX (UB Tryz.f76) 0)) 0))
def Ws3(k:Nat)(j:Nat):St:=(upE [(25,i j)] [(4,.ints 222 [] 169 (GC (P8 k j))),(0,.cells 168 [.x (.int .u64 0)])] (Jd3 N U O m r v k))
def I8(k:Nat)(j:Nat):G8->Option St
 | .exit 2=>some (upE [(25,i 13)] [(4,.ints 222 [] 169 (GC (P8 k 13))),(0,.cells 168 [.x (.int .u64 0)])] (Jd3 N U O m r v k))
 |_=>none
def Jz6(k:Nat):CT:= .leaf (.exit 2,(I8 N U O m r v k 0 (.exit 2)).getD (Jd3 N U O m r v k))
def Zi6(k:Nat):UN:=GO [] (HI (Ws3 N U O m r v k (0)) (Jz6 N U O m r v k))
abbrev QU:Prop:=(0:Int)=0
abbrev W7:Prop:=ptr 4 0=ptr 4 0
abbrev WK:List (Nat×G4):=[(56,cT),(111,cU),(112,yK)]
abbrev WN:Prop:=AV.lit false=AV.lit false
noncomputable abbrev X0:Ext:={R:=[],H:=[(110,Qp2)] }
theorem Jt6(k:Nat)(VW:k<=12):GD VU (.loop Ke0) (Zi6 N U O m r v k):=by
 refine UV [] (L:=[]) (Ae RQ (Ae P9 (Ae RG Aa))) (Ai Ab (Ag RU Ac)) U3 U7 (X:=Nat) (Ws3 N U O m r v k) (λj=>j<=13) (λj=>13-j) (I8 N U O m r v k) (x0:=0) VY ?_ ?_ ?_;rintro j;kernel_rfl;rintro j y E h;unfold I8 at h;split at h;cases h;kernel_rfl;cases h;rintro Q hQ j hx;refine ⟨(j+1),?_⟩;(with_reducible refine DG (t:=let z0:=(U4 (AV.ro [lst 2 3 λk=>[iI (oL k),iI (oH k)],iI 1,Q1 N U O m r v,Q2 m N,top]));(branch (decide ((j:Int)<13)) (branch ((k:Int) != (j:Int)) (need [UO k 13] (need [UO j 13] (need [j*1+(k*13+0)+1<=169] (need [VQ ((j:Int)+1)] (need [z0,U4 (agg QC),QO,QD=QD,WN,W7,U4 (k:Int),U4 (k:Int),(j:Int)+1=(↑(j+1):Int),169=169,GZ 169 (UX (j*1+(k*13+0)) (8000:Int) (GC (P8 k j))) (GC (P8 k (j+1))),QU] (leaf G8.normal)))))) (need [VQ ((j:Int)+1)] (need [z0,U4 (agg QC),QO,QD=QD,WN,W7,U4 (k:Int),U4 (k:Int),(j:Int)+1=(↑(j+1):Int),169=169,GZ 169 (GC (P8 k j)) (GC (P8 k (j+1))),QU] (leaf G8.normal)))) (need [z0,U4 (agg QC),QO,QD=QD,WN,W7,U4 (k:Int),U4 (k:Int),(j:Int)=13,169=169,GZ 169 (GC (P8 k j)) (GC (P8 k 13)),QU] (leaf (G8.exit 2))))) VZ ?_)
 simp only [Jz6,I8,VR.sat,GW] at hQ;simp only [VR.sat,UF,G6,GQ,UH,VQ,UK,H6,FW,FZ,RP,GR,I8]
 refine ⟨λh=>⟨λhne=>?_,λheq=>?_⟩,λh=>?_⟩
 ·have h3: ∀M w,UX (j*1+(k*13+0)) w (GC M)=GC (xR M k j w):=λM w=>Qj0 M VO VO w;simp only [h3]
  (with_reducible repeat' first|apply Al|intro _)
  all_goals first|exact LN|(exact rG (λx y _ _=>Qu8 k j VO VO x y) (by assumption))
 ·obtain rfl:k=j:=VO
  (with_reducible repeat' first|apply Al|intro _)
  all_goals first|exact LN|(exact rG (λx y _ _=>Qu9 k x y) (by assumption))
 obtain rfl:j=13:=VO;exact V1
theorem Jt7:GD VU (.loop Je6) (Zi7 N U O m r v):=by
 refine UV [] (L:=[BQ 22 (λk=>FX [k<=12] (Zi6 N U O m r v k))]) (Ae RQ (Ae P9 (Ae RG Aa))) (Ai Ab (Ag RU Ac)) U3 (G0 (λcj hcj=>by
  have e:VX Je6 0=some (.loop Ke0):=VZ;rw [e] at hcj;cases hcj;exact LE (λk=>DB (λh=>Jt6 N U O m r v k h)))) (X:=Nat) (Ws4 N U O m r v) (λk=>k<=13) (λk=>13-k) (I9 N U O m r v) (x0:=0) VY ?_ ?_ ?_
 rintro k;kernel_rfl;rintro k y E h;unfold I9 at h;split at h;cases h;kernel_rfl;cases h;rintro Q hQ k hx;refine ⟨(k+1),?_⟩;(with_reducible refine DG (t:=let z0:=(U4 (AV.ro [lst 2 3 λk=>[iI (oL k),iI (oH k)],iI 1,Q1 N U O m r v,Q2 m N,top]));(branch (decide ((k:Int)<13)) (need [k<=12] (need [z0,U4 (agg QC),QO,QD=QD,WN,W7,U4 (k:Int),U4 (k:Int),(0:Int)=((0:Nat):Int),169=169,GV 169 (GC (P8 k 0)),QU] (need [VQ ((k:Int)+1)] (need [z0,U4 (agg QC),QO,QD=QD,WN,W7,(k:Int)+1=(↑(k+1):Int),169=169,GZ 169 (GC (P8 k 13)) (GC (P8 (k+1) 0)),QU] (leaf G8.normal))))) (need [z0,U4 (agg QC),QO,QD=QD,WN,W7,(k:Int)=13,169=169,GZ 169 (GC (P8 k 0)) (GC (P8 13 0)),QU] (leaf (G8.exit 0))))) VZ ?_)
 simp only [Jz7,I9,VR.sat,GW] at hQ;simp only [VR.sat,UF,G6,GQ,UH,VQ,UK,H6,FW,FZ,RP,GR,I9]
 refine ⟨λh=>?_,λh=>?_⟩
 ·(with_reducible repeat' first|apply Al|intro _)
  all_goals first|exact LN|(exact rG (λx y _ _=>Wt3 k x y) (by assumption))
 obtain rfl:k=13:=VO;exact V1
def Jd2:St:={σ:=[AV.ro [lst 2 3 λk=>[iI (oL k),iI (oH k)],iI 1,Q1 N U O m r v,Q2 m N,top],agg QC,top,ptr 0 0,QD,AV.lit false,ptr 4 0]++HR 15 [iI 13]++HR 20 [lst 2 3 λk=>[iI (oL k),iI (oH k)],iI ((3:Nat):Int)]++HR 146 [],m:=[(4,GU.ints 222 [] 169 λk=>GC (P8 13 0) k),(0,KZ)],nx:=14}
noncomputable def Kd9:Code:=UD (VX (UB Tryz.f76) 1)
def Ws2(k:Nat):St:=(upE [(45,i k)] [(4,.ints 222 [] 169 (GC (ofM k))),(0,.cells 168 [.x (.int .u64 0)])] (Jd2 N U O m r v))
def I7(k:Nat):G8->Option St
 | .exit 4=>some (upE [(45,i 3)] [(4,.ints 222 [] 169 (GC (ofM 3))),(0,.cells 168 [.x (.int .u64 0)])] (Jd2 N U O m r v))
 |_=>none
def Jz5:CT:= .leaf (.exit 4,(I7 N U O m r v 0 (.exit 4)).getD (Jd2 N U O m r v))
def Zi5:UN:=GO [] (HI (Ws2 N U O m r v (0)) (Jz5 N U O m r v))
abbrev XC:Prop:=(13:Int)=13
theorem Jt5:GD VU (.loop Kd9) (Zi5 N U O m r v):=by
 refine UV [] (L:=[]) (Ae RQ (Ae P9 (Ae RG Aa))) (Ai Ab (Ag RU Ac)) U3 U7 (X:=Nat) (Ws2 N U O m r v) (λk=>k<=3) (λk=>3-k) (I7 N U O m r v) (x0:=0) VY ?_ ?_ ?_;rintro k;kernel_rfl;rintro k y E h;unfold I7 at h;split at h;cases h;kernel_rfl;cases h;rintro Q hQ k hx;refine ⟨(k+1),?_⟩;(with_reducible refine DG (t:=let z1:=(GC (ofM k) (((1:Int)+(k:Int)).toNat*1+0));let z0:=(UX (((1:Int)+(k:Int)).toNat*1+0) (min z1 (-oL k)) (GC (ofM k)) (0+(((1:Int)+(k:Int)).toNat*13+0)));let z2:=(U4 (AV.ro [lst 2 3 λk=>[iI (oL k),iI (oH k)],iI 1,Q1 N U O m r v,Q2 m N,top]));(branch (decide ((k:Int)<((3:Nat):Int))) (need [UO k 3] (need [(0:Int)<=(k:Int)/\(k:Int)<=1000] (need [VQ (-oH k)] (need [VQ (-oL k)] (need [UO 0 13] (need [(0:Int)<=1+(k:Int)/\(1:Int)+(k:Int)<((13:Nat):Int)] (need [((1:Int)+(k:Int)).toNat*1+0<169] (need [UO 0 13] (need [(0:Int)<=1+(k:Int)/\(1:Int)+(k:Int)<((13:Nat):Int)] (need [((1:Int)+(k:Int)).toNat*1+0+List.length [min z1 (-oL k)]<=169] (need [(0:Int)<=1+(k:Int)/\(1:Int)+(k:Int)<((13:Nat):Int)] (need [UO 0 13] (need [0+(((1:Int)+(k:Int)).toNat*13+0)<169] (need [VQ (- -oH k)] (need [(0:Int)<=1+(k:Int)/\(1:Int)+(k:Int)<((13:Nat):Int)] (need [UO 0 13] (need [0+(((1:Int)+(k:Int)).toNat*13+0)+List.length [min z0 (- -oH k)]<=169] (need [VQ ((k:Int)+1)] (need [z2,U4 (agg QC),QO,QD=QD,WN,W7,XC,U4 (lst 2 3 λk=>[iI (oL k),iI (oH k)]),U4 ((3:Nat):Int),(k:Int)+1=(↑(k+1):Int),169=169,GZ 169 (UX (0+(((1:Int)+(k:Int)).toNat*13+0)) (min z0 (- -oH k)) (kA (((1:Int)+(k:Int)).toNat*1+0) [min z1 (-oL k)] (GC (ofM k)))) (GC (ofM (k+1))),QU] (leaf G8.normal)))))))))))))))))))) (need [z2,U4 (agg QC),QO,QD=QD,WN,W7,XC,U4 (lst 2 3 λk=>[iI (oL k),iI (oH k)]),U4 ((3:Nat):Int),(k:Int)=3,169=169,GZ 169 (GC (ofM k)) (GC (ofM 3)),QU] (leaf (G8.exit 4))))) VZ ?_)
 simp only [Jz5,I7,VR.sat,GW] at hQ;simp only [VR.sat,UF,G6,GQ,UH,VQ,UK,H6,FW,FZ,RP,GR,I7]
 have hL: -9<=oL k/\oL k<=0:=by unfold oL;split<;>omega
 have hH:0<=oH k/\oH k<=9:=by unfold oH;split<;>omega
 refine ⟨λh=>?_,λh=>?_⟩;have h1: ∀M w,UX ((1+(k:Int)).toNat*1+0) (min (GC M ((1+(k:Int)).toNat*1+0)) w) (GC M)=GC (bnd M 0 (1+k) w):=λM w=>jM VO VO;have h2: ∀M w,UX (0+((1+(k:Int)).toNat*13+0)) (min (GC M (0+((1+(k:Int)).toNat*13+0))) w) (GC M)=GC (bnd M (1+k) 0 w):=λM w=>jM VO VO;simp only [h1,h2];exact V1;obtain rfl:k=3:=VO;exact V1
def Jd1:St:={σ:=[AV.ro [lst 2 3 λk=>[iI (oL k),iI (oH k)],iI 1,Q1 N U O m r v,Q2 m N,top],agg QC,top,ptr 0 0,QD,AV.lit false,ptr 4 0]++HR 15 [iI 13]++HR 20 [lst 2 3 λk=>[iI (oL k),iI (oH k)],iI ((3:Nat):Int),iI 3]++HR 20 [Q1 N U O m r v,iI (N:Int)]++HR 123 [],m:=[(4,GU.ints 222 [] 169 λk=>GC (ofM 3) k),(0,KZ)],nx:=21}
noncomputable def Kd8:Code:=UD (VX (UB Tryz.f76) 2)
def Ws1(k:Nat):St:=(upE [(68,i k)] [(4,.ints 222 [] 169 (GC (btM U O k))),(0,.cells 168 [.x (.int .u64 0)])] (Jd1 N U O m r v))
def I6(k:Nat):G8->Option St
 | .exit 6=>some (upE [(68,i N)] [(4,.ints 222 [] 169 (GC (btM U O N))),(0,.cells 168 [.x (.int .u64 0)])] (Jd1 N U O m r v))
 |_=>none
def Jz4:CT:= .leaf (.exit 6,(I6 N U O m r v 0 (.exit 6)).getD (Jd1 N U O m r v))
def Zi4:UN:=GO [] (HI (Ws1 N U O m r v (0)) (Jz4 N U O m r v))
abbrev XG:Prop:=(3:Int)=3
theorem Jt4(VW:bOK N U O m r v):GD VU (.loop Kd8) (Zi4 N U O m r v):=by
 refine UV [] (L:=[]) (Ae RQ (Ae P9 (Ae RG Aa))) (Ai Ab (Ag RU Ac)) U3 U7 (X:=Nat) (Ws1 N U O m r v) (λk=>k<=N) (λk=>N-k) (I6 N U O m r v) (x0:=0) VY ?_ ?_ ?_;rintro k;kernel_rfl;rintro k y E h;unfold I6 at h;split at h;cases h;kernel_rfl;cases h;rintro Q hQ k hx;refine ⟨(k+1),?_⟩;(with_reducible refine DG (t:=let z1:=(GC (btM U O k) (((7:Int)+(k:Int)).toNat*1+0));let z0:=(UX (((7:Int)+(k:Int)).toNat*1+0) (min z1 (O k)) (GC (btM U O k)) (0+(((7:Int)+(k:Int)).toNat*13+0)));let z2:=(U4 (AV.ro [lst 2 3 λk=>[iI (oL k),iI (oH k)],iI 1,Q1 N U O m r v,Q2 m N,top]));(branch (decide ((k:Int)<(N:Int))) (need [UO k N] (need [(0:Int)<=(k:Int)/\(k:Int)<=1000] (need [UO 0 13] (need [(0:Int)<=7+(k:Int)/\(7:Int)+(k:Int)<((13:Nat):Int)] (need [((7:Int)+(k:Int)).toNat*1+0<169] (need [UO 0 13] (need [(0:Int)<=7+(k:Int)/\(7:Int)+(k:Int)<((13:Nat):Int)] (need [((7:Int)+(k:Int)).toNat*1+0+List.length [min z1 (O k)]<=169] (need [(0:Int)<=7+(k:Int)/\(7:Int)+(k:Int)<((13:Nat):Int)] (need [UO 0 13] (need [0+(((7:Int)+(k:Int)).toNat*13+0)<169] (need [VQ (-U k)] (need [(0:Int)<=7+(k:Int)/\(7:Int)+(k:Int)<((13:Nat):Int)] (need [UO 0 13] (need [0+(((7:Int)+(k:Int)).toNat*13+0)+List.length [min z0 (-U k)]<=169] (need [VQ ((k:Int)+1)] (need [z2,U4 (agg QC),QO,QD=QD,WN,W7,XC,U4 (lst 2 3 λk=>[iI (oL k),iI (oH k)]),U4 ((3:Nat):Int),XG,WU N U O m r v,U4 (N:Int),(k:Int)+1=(↑(k+1):Int),169=169,GZ 169 (UX (0+(((7:Int)+(k:Int)).toNat*13+0)) (min z0 (-U k)) (kA (((7:Int)+(k:Int)).toNat*1+0) [min z1 (O k)] (GC (btM U O k)))) (GC (btM U O (k+1))),QU] (leaf G8.normal)))))))))))))))))) (need [z2,U4 (agg QC),QO,QD=QD,WN,W7,XC,U4 (lst 2 3 λk=>[iI (oL k),iI (oH k)]),U4 ((3:Nat):Int),XG,WU N U O m r v,U4 (N:Int),(k:Int)=(N:Int),169=169,GZ 169 (GC (btM U O k)) (GC (btM U O N)),QU] (leaf (G8.exit 6))))) VZ ?_)
 simp only [Jz4,I6,VR.sat,GW] at hQ;simp only [VR.sat,UF,G6,GQ,UH,VQ,UK,H6,FW,FZ,RP,GR,I6]
 have h6:=VW.1;refine ⟨λh=>?_,λh=>?_⟩;obtain ⟨_,q1,q2,q3,_⟩:=VW.2 k VO;have h1: ∀M w,UX ((7+(k:Int)).toNat*1+0) (min (GC M ((7+(k:Int)).toNat*1+0)) w) (GC M)=GC (bnd M 0 (7+k) w):=λM w=>jM VO VO;have h2: ∀M w,UX (0+((7+(k:Int)).toNat*13+0)) (min (GC M (0+((7+(k:Int)).toNat*13+0))) w) (GC M)=GC (bnd M (7+k) 0 w):=λM w=>jM VO VO;simp only [h1,h2];exact V1;obtain rfl:k=N:=VO;exact V1
def Jd0:St:={σ:=[AV.ro [lst 2 3 λk=>[iI (oL k),iI (oH k)],iI 1,Q1 N U O m r v,Q2 m N,top],agg QC,top,ptr 0 0,QD,AV.lit false,ptr 4 0]++HR 15 [iI 13]++HR 20 [lst 2 3 λk=>[iI (oL k),iI (oH k)],iI ((3:Nat):Int),iI 3]++HR 20 [Q1 N U O m r v,iI (N:Int),iI (N:Int)]++HR 14 [Q2 m N,iI (HK m N:Int)]++HR 106 [],m:=[(4,GU.ints 222 [] 169 λk=>GC (btM U O N) k),(0,KZ)],nx:=27}
noncomputable def Kd7:Code:=UD (VX (UB Tryz.f76) 3)
def Ws0(k:Nat):St:=(upE [(85,i k)] [(4,.ints 222 [] 169 (GC (AL N U O m r v k))),(0,.cells 168 [.x (.int .u64 0)])] (Jd0 N U O m r v))
def I5(k:Nat):G8->Option St
 | .exit 8=>some (upE [(85,i (HK m N))] [(4,.ints 222 [] 169 (GC (AL N U O m r v (HK m N)))),(0,.cells 168 [.x (.int .u64 0)])] (Jd0 N U O m r v))
 |_=>none
def Jz3:CT:= .leaf (.exit 8,(I5 N U O m r v 0 (.exit 8)).getD (Jd0 N U O m r v))
def Zi3:UN:=GO [] (HI (Ws0 N U O m r v (0)) (Jz3 N U O m r v))
theorem Jt3(VW:bOK N U O m r v):GD VU (.loop Kd7) (Zi3 N U O m r v):=by
 refine UV [] (L:=[]) (Ae RQ (Ae P9 (Ae RG Aa))) (Ai Ab (Ag RU Ac)) U3 U7 (X:=Nat) (Ws0 N U O m r v) (λk=>k<=HK m N) (λk=>HK m N-k) (I5 N U O m r v) (x0:=0) VY ?_ ?_ ?_;rintro k;kernel_rfl;rintro k y E h;unfold I5 at h;split at h;cases h;kernel_rfl;cases h;rintro Q hQ k hx;refine ⟨(k+1),?_⟩
 (with_reducible refine DG (t:=let z4:=AL N U O m r v k;let z1:=(GC (z4) (((7:Int)+(↑(Prod.fst (GJ m N k)):Int)).toNat*1+(((1:Int)+r (Prod.fst (GJ m N k)) (Prod.snd (GJ m N k))).toNat*13+0)));let z0:=(UX (((7:Int)+(↑(Prod.fst (GJ m N k)):Int)).toNat*1+(((1:Int)+r (Prod.fst (GJ m N k)) (Prod.snd (GJ m N k))).toNat*13+0)) (min z1 (v (Prod.fst (GJ m N k)) (Prod.snd (GJ m N k))+1)) (GC (z4)) (((1:Int)+r (Prod.fst (GJ m N k)) (Prod.snd (GJ m N k))).toNat*1+(((7:Int)+(↑(Prod.fst (GJ m N k)):Int)).toNat*13+0)));let z2:=(U4 (AV.ro [lst 2 3 λk=>[iI (oL k),iI (oH k)],iI 1,Q1 N U O m r v,Q2 m N,top]));let z3:=(U4 (lst 2 3 λk=>[iI (oL k),iI (oH k)]));(branch (decide ((k:Int)<(HK m N:Int))) (need [UO k (HK m N:Int)] (need [(0:Int)<=(k:Int)/\(k:Int)<=64] (branch (IntKind.wrap IntKind.u64 (↑(BitVec.toNat (BitVec.ofInt (IntKind.bits IntKind.u64) ((0:Int) / (2:Int)^k) &&& BitVec.ofInt (IntKind.bits IntKind.u64) (1:Int))):Int)==0) (need [UO (↑(Prod.fst (GJ m N k)):Int) N] (need [UO (↑(Prod.snd (GJ m N k)):Int) ((↑(m (Prod.fst (GJ m N k))):Int))] (need [(0:Int)<=r (Prod.fst (GJ m N k)) (Prod.snd (GJ m N k))/\r (Prod.fst (GJ m N k)) (Prod.snd (GJ m N k))<=1000] (need [(0:Int)<=(↑(Prod.fst (GJ m N k)):Int)/\(↑(Prod.fst (GJ m N k)):Int)<=1000] (need [VQ (v (Prod.fst (GJ m N k)) (Prod.snd (GJ m N k))-1)] (need [VQ (v (Prod.fst (GJ m N k)) (Prod.snd (GJ m N k))+1)] (need [(0:Int)<=1+r (Prod.fst (GJ m N k)) (Prod.snd (GJ m N k))/\(1:Int)+r (Prod.fst (GJ m N k)) (Prod.snd (GJ m N k))<((13:Nat):Int)] (need [(0:Int)<=7+(↑(Prod.fst (GJ m N k)):Int)/\(7:Int)+(↑(Prod.fst (GJ m N k)):Int)<((13:Nat):Int)] (need [((7:Int)+(↑(Prod.fst (GJ m N k)):Int)).toNat*1+(((1:Int)+r (Prod.fst (GJ m N k)) (Prod.snd (GJ m N k))).toNat*13+0)<169] (need [(0:Int)<=1+r (Prod.fst (GJ m N k)) (Prod.snd (GJ m N k))/\(1:Int)+r (Prod.fst (GJ m N k)) (Prod.snd (GJ m N k))<((13:Nat):Int)] (need [(0:Int)<=7+(↑(Prod.fst (GJ m N k)):Int)/\(7:Int)+(↑(Prod.fst (GJ m N k)):Int)<((13:Nat):Int)] (need [((7:Int)+(↑(Prod.fst (GJ m N k)):Int)).toNat*1+(((1:Int)+r (Prod.fst (GJ m N k)) (Prod.snd (GJ m N k))).toNat*13+0)+List.length [min z1 (v (Prod.fst (GJ m N k)) (Prod.snd (GJ m N k))+1)]<=169] (need [(0:Int)<=7+(↑(Prod.fst (GJ m N k)):Int)/\(7:Int)+(↑(Prod.fst (GJ m N k)):Int)<((13:Nat):Int)] (need [(0:Int)<=1+r (Prod.fst (GJ m N k)) (Prod.snd (GJ m N k))/\(1:Int)+r (Prod.fst (GJ m N k)) (Prod.snd (GJ m N k))<((13:Nat):Int)] (need [((1:Int)+r (Prod.fst (GJ m N k)) (Prod.snd (GJ m N k))).toNat*1+(((7:Int)+(↑(Prod.fst (GJ m N k)):Int)).toNat*13+0)<169] (need [VQ (-(v (Prod.fst (GJ m N k)) (Prod.snd (GJ m N k))-1))] (need [(0:Int)<=7+(↑(Prod.fst (GJ m N k)):Int)/\(7:Int)+(↑(Prod.fst (GJ m N k)):Int)<((13:Nat):Int)] (need [(0:Int)<=1+r (Prod.fst (GJ m N k)) (Prod.snd (GJ m N k))/\(1:Int)+r (Prod.fst (GJ m N k)) (Prod.snd (GJ m N k))<((13:Nat):Int)] (need [((1:Int)+r (Prod.fst (GJ m N k)) (Prod.snd (GJ m N k))).toNat*1+(((7:Int)+(↑(Prod.fst (GJ m N k)):Int)).toNat*13+0)+List.length [min z0 (-(v (Prod.fst (GJ m N k)) (Prod.snd (GJ m N k))-1))]<=169] (need [VQ ((k:Int)+1)] (need [z2,U4 (agg QC),QO,QD=QD,WN,W7,XC,z3,U4 ((3:Nat):Int),XG,WU N U O m r v,U4 (N:Int),U4 (N:Int),U4 (Q2 m N),U4 (HK m N:Int),(k:Int)+1=(↑(k+1):Int),169=169,GZ 169 (UX (((1:Int)+r (Prod.fst (GJ m N k)) (Prod.snd (GJ m N k))).toNat*1+(((7:Int)+(↑(Prod.fst (GJ m N k)):Int)).toNat*13+0)) (min z0 (-(v (Prod.fst (GJ m N k)) (Prod.snd (GJ m N k))-1))) (kA (((7:Int)+(↑(Prod.fst (GJ m N k)):Int)).toNat*1+(((1:Int)+r (Prod.fst (GJ m N k)) (Prod.snd (GJ m N k))).toNat*13+0)) [min z1 (v (Prod.fst (GJ m N k)) (Prod.snd (GJ m N k))+1)] (GC (z4)))) (GC (AL N U O m r v (k+1))),QU] (leaf G8.normal)))))))))))))))))))))) (need [VQ ((k:Int)+1)] (need [z2,U4 (agg QC),QO,QD=QD,WN,W7,XC,z3,U4 ((3:Nat):Int),XG,WU N U O m r v,U4 (N:Int),U4 (N:Int),U4 (Q2 m N),U4 (HK m N:Int),(k:Int)+1=(↑(k+1):Int),169=169,GZ 169 (GC (z4)) (GC (AL N U O m r v (k+1))),QU] (leaf G8.normal)))))) (need [z2,U4 (agg QC),QO,QD=QD,WN,W7,XC,z3,U4 ((3:Nat):Int),XG,WU N U O m r v,U4 (N:Int),U4 (N:Int),U4 (Q2 m N),U4 (HK m N:Int),(k:Int)=(HK m N:Int),169=169,GZ 169 (GC (z4)) (GC (AL N U O m r v (HK m N))),QU] (leaf (G8.exit 8))))) VZ ?_)
 simp only [Jz3,I5,VR.sat,GW] at hQ;simp only [VR.sat,UF,G6,GQ,UH,VQ,UK,H6,FW,FZ,RP,GR,I5]
 have h6:=VW.1;have hb:=bB m (K:=10) N (λb hb=>(VW.2 b hb).1);have hz:(IntKind.u64.wrap ((BitVec.ofInt IntKind.u64.bits (0 / 2^k) &&& BitVec.ofInt IntKind.u64.bits 1).toNat:Int)==0)=true:=by
  rw [Int.zero_ediv];decide
 simp only [hz,true_imp_iff,Bool.true_eq_false,false_imp_iff,and_true];refine ⟨λh=>?_,λh=>?_⟩;obtain ⟨hl1,hl2⟩:=bJ m N k VO;obtain ⟨_,_,_,_,q4⟩:=VW.2 _ hl1;obtain ⟨q5,q6,q7,q8⟩:=q4 _ hl2;have e1:((1+r (GJ m N k).1 (GJ m N k).2).toNat)=1+(r (GJ m N k).1 (GJ m N k).2).toNat:=VO;have e2:((7+((GJ m N k).1:Int)).toNat)=7+(GJ m N k).1:=VO;rw [e1,e2];have h1: ∀M w,UX ((7+(GJ m N k).1)*1+((1+(r (GJ m N k).1 (GJ m N k).2).toNat)*13+0)) (min (GC M ((7+(GJ m N k).1)*1+((1+(r (GJ m N k).1 (GJ m N k).2).toNat)*13+0))) w) (GC M)=GC (bnd M (1+(r (GJ m N k).1 (GJ m N k).2).toNat) (7+(GJ m N k).1) w):=λM w=>jM VO VO;have h2: ∀M w,UX ((1+(r (GJ m N k).1 (GJ m N k).2).toNat)*1+((7+(GJ m N k).1)*13+0)) (min (GC M ((1+(r (GJ m N k).1 (GJ m N k).2).toNat)*1+((7+(GJ m N k).1)*13+0))) w) (GC M)=GC (bnd M (7+(GJ m N k).1) (1+(r (GJ m N k).1 (GJ m N k).2).toNat) w):=λM w=>jM VO VO;simp only [h1,h2];exact V1;obtain rfl:k=HK m N:=VO;exact V1
end
def LB8(B:Int)(M:Nat->Cg):Prop:= ∀x y,-B<=M x y/\M x y<=8000
def JB8(B:Int)(o f t:Nat)(M:Nat->Cg):Prop:= ∀x y,M x y<=8000/\ -(6*B)<=M x y/\(x=o-> -(3*B)<=M x y)/\(y=o-> -(3*B)<=M x y)/\(x=o->y=o-> -(2*B)<=M x y)/\(¬(x<f\/(x=f/\y<t))-> -B<=M x y)
theorem Wa5{B:Int}{o:Nat}{M:Nat->Cg}(hB:0<=B)(h:LB8 B M):JB8 B o 0 0 M:=by
 intro x y;have:=h x y;refine ⟨VO,VO,λ_=>VO,λ_=>VO,λ_ _=>VO,λ_=>VO⟩
theorem Xi9{B:Int}{o f t:Nat}{M:Nat->Cg}(hB:0<=B)(h:JB8 B o f t M):JB8 B o f (t+1) (fwS M o f t):=by
 have hft:=h f t;have hfo:=h f o;have hot:=h o t;have hoo:=h o o;have I:=hft.2.2.2.2.2 VO;intro x y;have hxy:=h x y;unfold fwS bnd xR;by_cases hc:x=f/\y=t;exact V4;rw [if_neg hc];exact ⟨hxy.1,hxy.2.1,hxy.2.2.1,hxy.2.2.2.1,hxy.2.2.2.2.1,λhv=>hxy.2.2.2.2.2 VO⟩
theorem Xj0{B:Int}{o f:Nat}{M:Nat->Cg}(hB:0<=B)(h:JB8 B o f 0 M): ∀t,JB8 B o f t (fwT M o f t)
 | 0=>h
 |t+1=>Xi9 hB (Xj0 hB h t)
theorem Xx7{B:Int}{o f t:Nat}{M:Nat->Cg}(h:JB8 B o f t M):JB8 B o (f+1) 0 M:=by
 intro x y;have hxy:=h x y;exact ⟨hxy.1,hxy.2.1,hxy.2.2.1,hxy.2.2.2.1,hxy.2.2.2.2.1,λhv=>hxy.2.2.2.2.2 VO⟩
theorem Xj1{B:Int}{c o:Nat}{M:Nat->Cg}(hB:0<=B)(h:LB8 B M): ∀f,JB8 B o f 0 (fwF c M o f)
 | 0=>Wa5 hB h
 |f+1=>Xx7 (Xj0 hB (Xj1 hB h f) (c+1))
theorem Xi7{c:Nat}{M:Nat->Cg}(h:LB8 8001 M): ∀o,LB8 (8001*6^o) (fwO c M o)
 | 0=>by
  rw [show (8001:Int)*6^0=8001 by decide]
  exact h
 |o+1=>by
  have ih:=Xi7 (c:=c) h o;have hp:(0:Int)<=8001*6^o:=Bz VO (Int.pow_nonneg VO);have hj:=Xj1 (c:=c) (o:=o) hp ih (c+1);intro x y;have:=hj x y;have e:(8001:Int)*6^(o+1)=6*(8001*6^o):=by rw [Int.pow_succ];omega
  rw [e];exact ⟨this.2.1,this.1⟩
theorem Jn2: ∀o:Nat,o<=12->(6:Int)^o<=2176782336:=by
 intro o ho;rcases (show o=0\/o=1\/o=2\/o=3\/o=4\/o=5\/o=6\/o=7\/o=8\/o=9\/o=10\/o=11\/o=12 by omega) with rfl|rfl|rfl|rfl|rfl|rfl|rfl|rfl|rfl|rfl|rfl|rfl|rfl<;>decide
theorem Zx1{c:Nat}{M:Nat->Cg}(h:LB8 8001 M){o f t:Nat}(ho:o<=12)(x y:Nat): -105000000000000<=fwT (fwF c (fwO c M o) o f) o f t x y/\fwT (fwF c (fwO c M o) o f) o f t x y<=8000:=by
 have ih:=Xi7 (c:=c) h o;have hp:(0:Int)<=8001*6^o:=Bz VO (Int.pow_nonneg VO);have hj:=Xj0 hp (Xj1 (c:=c) (o:=o) hp ih f) t x y;have:=Jn2 o ho;omega
theorem vC{B:Int}{M:Nat->Cg}(h:LB8 B M){a b:Nat}{v:Int}(hv: -B<=v):LB8 B (bnd M a b v):=by
 intro x y;have h1:=h a b;have h2:=h x y;unfold bnd xR;split<;>omega
theorem oLH(k:Nat):(-9<=oL k/\oL k<=0)/\0<=oH k/\oH k<=9:=by
 unfold oL oH;constructor<;>split<;>omega
theorem Wm0: ∀k,LB8 8001 (ofM k)
 | 0=>by
  intro x y;unfold ofM P8;split<;>omega
 |k+1=>by
  have h:=oLH k;exact vC (vC (Wm0 k) VO) VO
theorem Xb9{N:Nat}{U O:Cg}{m:Ch}{r v:Nat->Cg}(h:bOK N U O m r v): ∀k,k<=N->LB8 8001 (btM U O k)
 | 0,_=>Wm0 3
 |k+1,hk=>by
  have q:=h.2 k VO;exact vC (vC (Xb9 h k VO) VO) VO
theorem aK{N:Nat}{U O:Cg}{m:Ch}{r v:Nat->Cg}(h:bOK N U O m r v): ∀q,q<=HK m N->LB8 8001 (AL N U O m r v q)
 | 0,_=>Xb9 h N (Am _)
 |q+1,hq=>by
  obtain ⟨hl1,hl2⟩:=bJ m N q VO;have q4:=(h.2 _ hl1).2.2.2.2 _ hl2;exact vC (vC (aK h q VO) VO) VO
section
variable (N:Nat)(U O:Cg)(m:Ch)(r v:Nat->Cg)
def r0M:Nat->Cg:=AL N U O m r v (HK m N)
def PU:Nat->Cg:=fwO 12 (r0M N U O m r v) 13
def zF:Bool:=DH (λk=>decide (0<=PU N U O m r v k k)) 13
def Jc9:St:={σ:=[AV.ro [lst 2 3 λk=>[iI (oL k),iI (oH k)],iI 1,Q1 N U O m r v,Q2 m N,top],agg QC,top,ptr 0 0,QD,AV.lit false,ptr 4 0]++HR 15 [iI 13]++HR 20 [lst 2 3 λk=>[iI (oL k),iI (oH k)],iI ((3:Nat):Int),iI 3]++HR 20 [Q1 N U O m r v,iI (N:Int),iI (N:Int)]++HR 14 [Q2 m N,iI (HK m N:Int),iI (HK m N:Int)]++HR 105 [],m:=[(4,GU.ints 222 [] 169 λk=>GC (AL N U O m r v (HK m N)) k),(0,KZ)],nx:=28}
noncomputable def Je5:Code:=UD (VX (UB Tryz.f76) 4)
def Wr9(o:Nat):St:=(upE [(136,i o)] [(4,.ints 222 [] 169 (GC (fwO 12 (r0M N U O m r v) o))),(0,.cells 168 [.x (.int .u64 0)])] (Jc9 N U O m r v))
def I4(o:Nat):G8->Option St
 | .exit 10=>some (upE [(136,i 13)] [(4,.ints 222 [] 169 (GC (fwO 12 (r0M N U O m r v) 13))),(0,.cells 168 [.x (.int .u64 0)])] (Jc9 N U O m r v))
 |_=>none
def Jz2:CT:= .leaf (.exit 10,(I4 N U O m r v 0 (.exit 10)).getD (Jc9 N U O m r v))
def Zi2:UN:=GO [] (HI (Wr9 N U O m r v (0)) (Jz2 N U O m r v))
def Jc8(o:Nat):St:={σ:=[AV.ro [lst 2 3 λk=>[iI (oL k),iI (oH k)],iI 1,Q1 N U O m r v,Q2 m N,top],agg QC,top,ptr 0 0,QD,AV.lit false,ptr 4 0]++HR 9 [iI (o:Int)]++HR 5 [iI 13]++HR 20 [lst 2 3 λk=>[iI (oL k),iI (oH k)],iI ((3:Nat):Int),iI 3]++HR 20 [Q1 N U O m r v,iI (N:Int),iI (N:Int)]++HR 14 [Q2 m N,iI (HK m N:Int),iI (HK m N:Int)]++HR 50 [iI (o:Int)]++HR 54 [],m:=[(4,GU.ints 222 [] 169 λk=>GC (fwO 12 (r0M N U O m r v) o) k),(0,KZ)],nx:=32}
noncomputable def Je4:Code:=(UD (VX (UD (VX (UB Tryz.f76) 4)) 0))
def Wr8(o:Nat)(f:Nat):St:=(upE [(139,i f)] [(4,.ints 222 [] 169 (GC (fwF 12 (fwO 12 (r0M N U O m r v) o) o f))),(0,.cells 168 [.x (.int .u64 0)])] (Jc8 N U O m r v o))
def I3(o:Nat)(f:Nat):G8->Option St
 | .exit 12=>some (upE [(139,i 13)] [(4,.ints 222 [] 169 (GC (fwF 12 (fwO 12 (r0M N U O m r v) o) o 13))),(0,.cells 168 [.x (.int .u64 0)])] (Jc8 N U O m r v o))
 |_=>none
def Jz1(o:Nat):CT:= .leaf (.exit 12,(I3 N U O m r v o 0 (.exit 12)).getD (Jc8 N U O m r v o))
def Zi1(o:Nat):UN:=GO [] (HI (Wr8 N U O m r v o (0)) (Jz1 N U O m r v o))
def Jc7(o:Nat)(f:Nat):St:={σ:=[AV.ro [lst 2 3 λk=>[iI (oL k),iI (oH k)],iI 1,Q1 N U O m r v,Q2 m N,top],agg QC,top,ptr 0 0,QD,AV.lit false,ptr 4 0]++HR 9 [iI (o:Int),iI (f:Int),top,top,top,top,iI 13]++HR 20 [lst 2 3 λk=>[iI (oL k),iI (oH k)],iI ((3:Nat):Int),iI 3]++HR 20 [Q1 N U O m r v,iI (N:Int),iI (N:Int)]++HR 14 [Q2 m N,iI (HK m N:Int),iI (HK m N:Int)]++HR 50 [iI (o:Int),top,top,iI (f:Int)]++HR 51 [],m:=[(4,GU.ints 222 [] 169 λk=>GC (fwF 12 (fwO 12 (r0M N U O m r v) o) o f) k),(0,KZ)],nx:=36}
noncomputable def Kd6:Code:=(UD (VX (UD (VX (UD (VX (UB Tryz.f76) 4)) 0)) 0))
def Wr7(o:Nat)(f:Nat)(t:Nat):St:=(upE [(142,i t)] [(4,.ints 222 [] 169 (GC (fwT (fwF 12 (fwO 12 (r0M N U O m r v) o) o f) o f t))),(0,.cells 168 [.x (.int .u64 0)])] (Jc7 N U O m r v o f))
def I2(o:Nat)(f:Nat)(t:Nat):G8->Option St
 | .exit 14=>some (upE [(142,i 13)] [(4,.ints 222 [] 169 (GC (fwT (fwF 12 (fwO 12 (r0M N U O m r v) o) o f) o f 13))),(0,.cells 168 [.x (.int .u64 0)])] (Jc7 N U O m r v o f))
 |_=>none
def Jz0(o:Nat)(f:Nat):CT:= .leaf (.exit 14,(I2 N U O m r v o f 0 (.exit 14)).getD (Jc7 N U O m r v o f))
def Zi0(o:Nat)(f:Nat):UN:=GO [] (HI (Wr7 N U O m r v o f (0)) (Jz0 N U O m r v o f))
theorem Jt0(o:Nat)(f:Nat)(VW:bOK N U O m r v)(UG:o<=12)(HX:f<=12):GD VU (.loop Kd6) (Zi0 N U O m r v o f):=by
 refine UV [] (L:=[]) (Ae RQ (Ae P9 (Ae RG Aa))) (Ai Ab (Ag RU Ac)) U3 U7 (X:=Nat) (Wr7 N U O m r v o f) (λt=>t<=13) (λt=>13-t) (I2 N U O m r v o f) (x0:=0) VY ?_ ?_ ?_;rintro t;kernel_rfl;rintro t y E h;unfold I2 at h;split at h;cases h;kernel_rfl;cases h;rintro Q hQ t hx;refine ⟨(t+1),?_⟩;(with_reducible refine DG (t:=let z2:=(fwF 12 (fwO 12 (r0M N U O m r v) o) o f);let z0:=(fwT z2 o f t);let z1:=(U4 (AV.ro [lst 2 3 λk=>[iI (oL k),iI (oH k)],iI 1,Q1 N U O m r v,Q2 m N,top]));let z3:=(U4 (HK m N:Int));(branch (decide ((t:Int)<13)) (need [UO f 13] (need [UO t 13] (need [t*1+(f*13+0)<169] (need [UO f 13] (need [UO o 13] (need [o*1+(f*13+0)<169] (need [UO o 13] (need [UO t 13] (need [t*1+(o*13+0)<169] (need [VQ (GC z0 (o*1+(f*13+0))+GC z0 (t*1+(o*13+0)))] (need [UO f 13] (need [UO t 13] (need [t*1+(f*13+0)+List.length [min (GC z0 (t*1+(f*13+0))) (GC z0 (o*1+(f*13+0))+GC z0 (t*1+(o*13+0)))]<=169] (need [VQ ((t:Int)+1)] (need [z1,U4 (agg QC),QO,QD=QD,WN,W7,U4 (o:Int),U4 (f:Int),XC,U4 (lst 2 3 λk=>[iI (oL k),iI (oH k)]),U4 ((3:Nat):Int),XG,WU N U O m r v,U4 (N:Int),U4 (N:Int),U4 (Q2 m N),z3,z3,U4 (o:Int),U4 (f:Int),(t:Int)+1=(↑(t+1):Int),169=169,GZ 169 (UX (t*1+(f*13+0)) (min (GC z0 (t*1+(f*13+0))) (GC z0 (o*1+(f*13+0))+GC z0 (t*1+(o*13+0)))) (GC z0)) (GC (fwT z2 o f (t+1))),QU] (leaf G8.normal)))))))))))))))) (need [z1,U4 (agg QC),QO,QD=QD,WN,W7,U4 (o:Int),U4 (f:Int),XC,U4 (lst 2 3 λk=>[iI (oL k),iI (oH k)]),U4 ((3:Nat):Int),XG,WU N U O m r v,U4 (N:Int),U4 (N:Int),U4 (Q2 m N),z3,z3,U4 (o:Int),U4 (f:Int),(t:Int)=13,169=169,GZ 169 (GC z0) (GC (fwT z2 o f 13)),QU] (leaf (G8.exit 14))))) VZ ?_)
 simp only [Jz0,I2,VR.sat,GW] at hQ;simp only [VR.sat,UF,G6,GQ,UH,VQ,UK,H6,FW,FZ,RP,GR,I2]
 have hl:=λx y=>Zx1 (c:=12) (aK VW (HK m N) (Am _)) (o:=o) (f:=f) (t:=t) VO x y;have hfo:=hl f o;have hot:=hl o t;refine ⟨λh=>?_,λh=>?_⟩;have h1: ∀M,GC M (o*1+(f*13+0))=M f o:=λM=>v8 _ VO VO;have h2: ∀M,GC M (t*1+(o*13+0))=M o t:=λM=>v8 _ VO VO;have h3: ∀M w,UX (t*1+(f*13+0)) (min (GC M (t*1+(f*13+0))) w) (GC M)=GC (bnd M f t w):=λM w=>jM VO VO;simp only [h3];simp only [h1,h2];unfold r0M;exact V1;obtain rfl:t=13:=VO;exact V1
theorem Jt1(o:Nat)(VW:bOK N U O m r v)(UG:o<=12):GD VU (.loop Je4) (Zi1 N U O m r v o):=by
 refine UV [] (L:=[BQ 17 (λk=>FX [k<=12] (Zi0 N U O m r v o k))]) (Ae RQ (Ae P9 (Ae RG Aa))) (Ai Ab (Ag RU Ac)) U3 (G0 (λcj hcj=>by
  have e:VX Je4 0=some (.loop Kd6):=VZ;rw [e] at hcj;cases hcj;exact LE (λk=>DB (λh=>Jt0 N U O m r v o k VW UG h)))) (X:=Nat) (Wr8 N U O m r v o) (λf=>f<=13) (λf=>13-f) (I3 N U O m r v o) (x0:=0) VY ?_ ?_ ?_
 rintro f;kernel_rfl;rintro f y E h;unfold I3 at h;split at h;cases h;kernel_rfl;cases h;rintro Q hQ f hx;refine ⟨(f+1),?_⟩;(with_reducible refine DG (t:=let z0:=(U4 (AV.ro [lst 2 3 λk=>[iI (oL k),iI (oH k)],iI 1,Q1 N U O m r v,Q2 m N,top]));let z1:=(fwO 12 (r0M N U O m r v) o);let z2:=(U4 (HK m N:Int));let z3:=(U4 (lst 2 3 λk=>[iI (oL k),iI (oH k)]));(branch (decide ((f:Int)<13)) (need [f<=12] (need [z0,U4 (agg QC),QO,QD=QD,WN,W7,U4 (o:Int),U4 (f:Int),XC,z3,U4 ((3:Nat):Int),XG,WU N U O m r v,U4 (N:Int),U4 (N:Int),U4 (Q2 m N),z2,z2,U4 (o:Int),U4 (f:Int),(0:Int)=((0:Nat):Int),169=169,GZ 169 (GC (fwF 12 z1 o f)) (GC (fwT (fwF 12 z1 o f) o f 0)),QU] (need [VQ ((f:Int)+1)] (need [z0,U4 (agg QC),QO,QD=QD,WN,W7,U4 (o:Int),XC,z3,U4 ((3:Nat):Int),XG,WU N U O m r v,U4 (N:Int),U4 (N:Int),U4 (Q2 m N),z2,z2,U4 (o:Int),(f:Int)+1=(↑(f+1):Int),169=169,GZ 169 (GC (fwT (fwF 12 z1 o f) o f 13)) (GC (fwF 12 z1 o (f+1))),QU] (leaf G8.normal))))) (need [z0,U4 (agg QC),QO,QD=QD,WN,W7,U4 (o:Int),XC,z3,U4 ((3:Nat):Int),XG,WU N U O m r v,U4 (N:Int),U4 (N:Int),U4 (Q2 m N),z2,z2,U4 (o:Int),(f:Int)=13,169=169,GZ 169 (GC (fwF 12 z1 o f)) (GC (fwF 12 z1 o 13)),QU] (leaf (G8.exit 12))))) VZ ?_)
 simp only [Jz1,I3,VR.sat,GW] at hQ;simp only [VR.sat,UF,G6,GQ,UH,VQ,UK,H6,FW,FZ,RP,GR,I3]
 refine ⟨λh=>?_,λh=>?_⟩;exact V1;obtain rfl:f=13:=VO;exact V1
theorem Jt2(VW:bOK N U O m r v):GD VU (.loop Je5) (Zi2 N U O m r v):=by
 refine UV [] (L:=[BQ 16 (λk=>FX [k<=12] (Zi1 N U O m r v k))]) (Ae RQ (Ae P9 (Ae RG Aa))) (Ai Ab (Ag RU Ac)) U3 (G0 (λcj hcj=>by
  have e:VX Je5 0=some (.loop Je4):=VZ;rw [e] at hcj;cases hcj;exact LE (λk=>DB (λh=>Jt1 N U O m r v k VW h)))) (X:=Nat) (Wr9 N U O m r v) (λo=>o<=13) (λo=>13-o) (I4 N U O m r v) (x0:=0) VY ?_ ?_ ?_
 rintro o;kernel_rfl;rintro o y E h;unfold I4 at h;split at h;cases h;kernel_rfl;cases h;rintro Q hQ o hx;refine ⟨(o+1),?_⟩;(with_reducible refine DG (t:=let z0:=(U4 (AV.ro [lst 2 3 λk=>[iI (oL k),iI (oH k)],iI 1,Q1 N U O m r v,Q2 m N,top]));let z1:=(U4 (HK m N:Int));let z2:=(U4 (lst 2 3 λk=>[iI (oL k),iI (oH k)]));let z3:=(fwO 12 (r0M N U O m r v) o);(branch (decide ((o:Int)<13)) (need [o<=12] (need [z0,U4 (agg QC),QO,QD=QD,WN,W7,U4 (o:Int),XC,z2,U4 ((3:Nat):Int),XG,WU N U O m r v,U4 (N:Int),U4 (N:Int),U4 (Q2 m N),z1,z1,U4 (o:Int),(0:Int)=((0:Nat):Int),169=169,GZ 169 (GC z3) (GC (fwF 12 z3 o 0)),QU] (need [VQ ((o:Int)+1)] (need [z0,U4 (agg QC),QO,QD=QD,WN,W7,XC,z2,U4 ((3:Nat):Int),XG,WU N U O m r v,U4 (N:Int),U4 (N:Int),U4 (Q2 m N),z1,z1,(o:Int)+1=(↑(o+1):Int),169=169,GZ 169 (GC (fwF 12 z3 o 13)) (GC (fwO 12 (r0M N U O m r v) (o+1))),QU] (leaf G8.normal))))) (need [z0,U4 (agg QC),QO,QD=QD,WN,W7,XC,z2,U4 ((3:Nat):Int),XG,WU N U O m r v,U4 (N:Int),U4 (N:Int),U4 (Q2 m N),z1,z1,(o:Int)=13,169=169,GZ 169 (GC z3) (GC (fwO 12 (r0M N U O m r v) 13)),QU] (leaf (G8.exit 10))))) VZ ?_)
 simp only [Jz2,I4,VR.sat,GW] at hQ;simp only [VR.sat,UF,G6,GQ,UH,VQ,UK,H6,FW,FZ,RP,GR,I4]
 refine ⟨λh=>?_,λh=>?_⟩;exact V1;obtain rfl:o=13:=VO;exact V1
end
section
variable (N:Nat)(U O:Cg)(m:Ch)(r v:Nat->Cg)
def Xk7:St:={σ:=[AV.ro [lst 2 3 λk=>[iI (oL k),iI (oH k)],iI 1,Q1 N U O m r v,Q2 m N,top],agg QC,top,ptr 0 0,top,top,ptr 4 0]++HR 15 [iI 13]++HR 20 [lst 2 3 λk=>[iI (oL k),iI (oH k)],iI ((3:Nat):Int),iI 3]++HR 20 [Q1 N U O m r v,iI (N:Int),iI (N:Int)]++HR 14 [Q2 m N,iI (HK m N:Int),iI (HK m N:Int)]++HR 50 [iI 13]++HR 54 [],m:=[(4,GU.ints 222 [] 169 λk=>GC (fwO 12 (r0M N U O m r v) 13) k),(0,KZ)],nx:=29}
noncomputable def Kd5:Code:=UD (VX (UB Tryz.f76) 5)
def Wr6(k:Nat):St:=(upE [(178,i k)] [(4,.ints 222 [] 169 (GC (PU N U O m r v))),(0,.cells 168 [.x (.int .u64 0)])] (Xk7 N U O m r v))
def fN(k:Nat):G8->Option St
 | .ret=>some (upE [(4,.x (.pointer none)),(5,.lit false),(178,.top)] [(4,.ints 222 [] 169 (GC (PU N U O m r v))),(0,.cells 168 [.x (.int .u64 0)])] (Xk7 N U O m r v))
 | .exit 16=>some (upE [(178,.top)] [(4,.ints 222 [] 169 (GC (PU N U O m r v))),(0,.cells 168 [.x (.int .u64 0)])] (Xk7 N U O m r v))
 |_=>none
def Jy9:CT:= .branch (zF N U O m r v) (.leaf (.exit 16,(fN N U O m r v 0 (.exit 16)).getD (Xk7 N U O m r v))) (.leaf (.ret,(fN N U O m r v 0 .ret).getD (Xk7 N U O m r v)))
def Zh9:UN:=GO [] (HI (Wr6 N U O m r v (0)) (Jy9 N U O m r v))
theorem Js9(VW:bOK N U O m r v):GD VU (.loop Kd5) (Zh9 N U O m r v):=by
 refine UV [] (L:=[]) (Ae RQ (Ae P9 (Ae RG Aa))) (Ai Ab (Ag RU Ac)) U3 U7 (X:=Nat) (Wr6 N U O m r v) (λk=>k<=13/\ ∀j,j<k->0<=PU N U O m r v j j) (λk=>13-k) (fN N U O m r v) (x0:=0) VY ?_ ?_ ?_;rintro k;kernel_rfl;rintro k y E h;unfold fN at h;split at h;cases h;kernel_rfl;cases h;kernel_rfl;cases h;rintro Q hQ k hx;refine ⟨(k+1),?_⟩;(with_reducible refine DG (t:=let W:=(U4 (AV.ro [lst 2 3 λk=>[iI (oL k),iI (oH k)],iI 1,Q1 N U O m r v,Q2 m N,top]));let z1:=(U4 (HK m N:Int));let z2:=PU N U O m r v;let z3:=(U4 (lst 2 3 λk=>[iI (oL k),iI (oH k)]));(branch (decide ((k:Int)<13)) (need [UO k 13] (need [UO k 13] (need [k*1+(k*13+0)<169] (branch (decide (GC (z2) (k*1+(k*13+0))<0)) (need [W,U4 (agg QC),QO,QD=QD,WN,W7,XC,z3,U4 ((3:Nat):Int),XG,WU N U O m r v,U4 (N:Int),U4 (N:Int),U4 (Q2 m N),z1,z1,XC,169=169,GV 169 (GC (z2)),QU] (leaf G8.ret)) (need [VQ ((k:Int)+1)] (need [W,U4 (agg QC),QO,W7,XC,z3,U4 ((3:Nat):Int),XG,WU N U O m r v,U4 (N:Int),U4 (N:Int),U4 (Q2 m N),z1,z1,XC,(k:Int)+1=(↑(k+1):Int),169=169,GV 169 (GC (z2)),QU] (leaf G8.normal))))))) (need [W,U4 (agg QC),QO,W7,XC,z3,U4 ((3:Nat):Int),XG,WU N U O m r v,U4 (N:Int),U4 (N:Int),U4 (Q2 m N),z1,z1,XC,169=169,GV 169 (GC (z2)),QU] (leaf (G8.exit 16))))) VZ ?_)
 simp only [Jy9,fN,VR.sat,GW] at hQ;simp only [VR.sat,UF,G6,GQ,UH,VQ,UK,H6,FW,FZ,RP,GR,fN]
 have h1:GC (PU N U O m r v) (k*1+(k*13+0))=PU N U O m r v k k\/13<=k:=by
  rcases An k 13 with h|h;exact .inl (v8 _ VO h);exact .inr h
 refine ⟨λh=>?_,λh=>?_⟩;have h2:=h1.resolve_right VO;rw [h2];refine ⟨VO,VO,VO,λhneg=>?_,λWu7=>?_⟩
 ·have hno:zF N U O m r v=false:=by
   cases ho:zF N U O m r v;rfl;have:=H3.1 ho k VO;simp at this;omega
  (with_reducible repeat' first|apply Al|intro _)
  all_goals first|exact LN|(rename_i E hE;cases hE;exact hQ.2 hno)
 exact VI
 ·obtain ⟨hx1,hx2⟩:=hx;obtain rfl:k=13:=VO;have Wt5:zF N U O m r v=true:=H3.2 (λj hj=>by simpa using hx2 j hj)
  (with_reducible repeat' first|apply Al|intro _)
  all_goals first|exact LN|(rename_i E hE;cases hE;exact hQ.1 Wt5)
end
theorem Qq6{S:Code->UN->Prop}{c:Code}{s0 s1 s2 s3 s4 s5:UN}(h0: ∀cj,VX c 0=some cj->S cj s0)(h1: ∀cj,VX c 1=some cj->S cj s1)(h2: ∀cj,VX c 2=some cj->S cj s2)(h3: ∀cj,VX c 3=some cj->S cj s3)(h4: ∀cj,VX c 4=some cj->S cj s4)(h5: ∀cj,VX c 5=some cj->S cj s5):
  ∀j cj,VX c j=some cj-> ∀sp,[s0,s1,s2,s3,s4,s5][j]? =some sp->S cj sp:=by
 intro j cj hj sp hsp
 match j with
 | 0=>simp at hsp;subst hsp;exact h0 cj hj
 | 1=>simp at hsp;subst hsp;exact h1 cj hj
 | 2=>simp at hsp;subst hsp;exact h2 cj hj
 | 3=>simp at hsp;subst hsp;exact h3 cj hj
 | 4=>simp at hsp;subst hsp;exact h4 cj hj
 | 5=>simp at hsp;subst hsp;exact h5 cj hj
 |j+6=>simp at hsp
section
variable (N:Nat)
abbrev KG(U:Cg)(O:Cg)(m:Ch)(r:Nat->Cg)(v:Nat->Cg):AV:=roI [] 169 (λk=>GC (PU N U O m r v) k) 0
theorem Xv1(U O:Cg)(m:Ch)(r v:Nat->Cg)(VW:bOK N U O m r v):US VU 76 [.ro [ofs,i 1,bds N U O m r v,.lst 2 (HK m N) (plF m N),.top],.agg [.x (.int .u64 0)]] (.branch (zF N U O m r v) (.leaf (.tup [.roI [] 169 (GC (PU N U O m r v)) 0,.lit true])) (.leaf (.tup [Bo.nilP,.lit false]))):=by
 refine GY (L:=[Zi7 N U O m r v,Zi5 N U O m r v,Zi4 N U O m r v,Zi3 N U O m r v,Zi2 N U O m r v,Zh9 N U O m r v]) (Ae RQ (Ae P9 (Ae RG Aa))) (Ai Ab (Ag RU Ac)) U3 Tryz.func76 (UW Tryz.f76) (Qq6 (lpE (b:= .loop Je6) VZ<|(Jt7 N U O m r v).N) (lpE (b:= .loop Kd9) VZ<|(Jt5 N U O m r v).N) (lpE (b:= .loop Kd8) VZ<|(Jt4 N U O m r v VW).N) (lpE (b:= .loop Kd7) VZ<|(Jt3 N U O m r v VW).N) (lpE (b:= .loop Je5) VZ<|(Jt2 N U O m r v VW).N) (lpE (b:= .loop Kd5) VZ<|(Js9 N U O m r v VW).N)) (t:=let W:=(U4 (AV.ro [lst 2 3 λk=>[iI (oL k),iI (oH k)],iI 1,Q1 N U O m r v,Q2 m N,top]));let z1:=(U4 (lst 2 3 λk=>[iI (oL k),iI (oH k)]));let z2:=(U4 (HK m N:Int));let z3:=(U4 ((3:Nat):Int));(need [W,U4 (agg QC),QO,QD=QD,WN,W7,(0:Int)=((0:Nat):Int),169=169,GZ 169 (UE QL) (GC (P8 0 0)),QU] (need [W,U4 (agg QC),QO,QD=QD,WN,W7,XC,z1,z3,(0:Int)=((0:Nat):Int),169=169,GZ 169 (GC (P8 13 0)) (GC (ofM 0)),QU] (need [W,U4 (agg QC),QO,QD=QD,WN,W7,XC,z1,z3,XG,WU N U O m r v,U4 (N:Int),(0:Int)=((0:Nat):Int),169=169,GZ 169 (GC (ofM 3)) (GC (btM U O 0)),QU] (need [W,U4 (agg QC),QO,QD=QD,WN,W7,XC,z1,z3,XG,WU N U O m r v,U4 (N:Int),U4 (N:Int),U4 (Q2 m N),z2,(0:Int)=((0:Nat):Int),169=169,GZ 169 (GC (btM U O N)) (GC (AL N U O m r v 0)),QU] (need [W,U4 (agg QC),QO,QD=QD,WN,W7,XC,z1,z3,XG,WU N U O m r v,U4 (N:Int),U4 (N:Int),U4 (Q2 m N),z2,z2,(0:Int)=((0:Nat):Int),169=169,GZ 169 (GC (AL N U O m r v (HK m N))) (GC (fwO 12 (r0M N U O m r v) 0)),QU] (need [W,U4 (agg QC),QO,W7,XC,z1,z3,XG,WU N U O m r v,U4 (N:Int),U4 (N:Int),U4 (Q2 m N),z2,z2,XC,(0:Int)=((0:Nat):Int),169=169,GZ 169 (GC (fwO 12 (r0M N U O m r v) 13)) (GC (PU N U O m r v)),QU] (branch (zF N U O m r v) (leaf (tup [KG N U O m r v,AV.lit true])) (leaf (tup [QD,AV.lit false])))))))))) VZ ?_
 intro Q hQ;simp only [VR.sat,UF,UK,VQ,RP,GR] at hQ ⊢
 (with_reducible repeat' first|apply Al|intro _)
 all_goals first|exact Ak|omega|with_reducible rfl|rfl|exact Xt2 _|(rename_i h;exact h.elim)|(rename_i h;exact ⟨.tup [.roI [] 169 (GC (PU N U O m r v)) 0,.lit true],⟨⟨rfl,rfl,λ_ _=>rfl,rfl⟩,rfl,Ak⟩,hQ.1 h⟩)|(rename_i h;exact ⟨.tup [Bo.nilP,.lit false],⟨rfl,rfl,Ak⟩,hQ.2 h⟩)
def Ja1(U O:Cg)(m:Ch)(r v:Nat->Cg):DP:=λl=>some (.need [l=[.ro [ofs,i 1,bds N U O m r v,.lst 2 (HK m N) (plF m N),.top],.agg [.x (.int .u64 0)]]] (.branch (zF N U O m r v) (.leaf (.tup [.roI [] 169 (GC (PU N U O m r v)) 0,.lit true])) (.leaf (.tup [Bo.nilP,.lit false]))))
theorem Xc6(U O:Cg)(m:Ch)(r v:Nat->Cg)(VW:bOK N U O m r v):Sx.Enters Tryz.prog 76/\ ∀avs t,Ja1 N U O m r v avs=some t->US VU 76 avs t:=by
 refine ⟨(UM Tryz.func76),?_⟩;intro avs t h;cases h;intro Q hQ;have e:=hQ.1
 dsimp only [UF] at e
 subst e;exact Xv1 N U O m r v VW Q hQ.2
def bV(U O:Cg)(m:Ch)(r v:Nat->Cg):Prop:=bOK N U O m r v/\ ∀b,b<N-> ∀j k,j<k->k<m b->r b j≠r b k
end
section
variable {N:Nat}{U O:Cg}{m:Ch}{r v:Nat->Cg}
theorem Ji0(h:bV N U O m r v):vB N (λk=>[i (U k),i (O k),bts (m k) (r k) (v k)]):=by
 refine ⟨h.1.1,U,O,m,λk j=>[i (r k j),i (v k j)],λ_ _=>rfl,λk hk=>⟨λ_ _=>rfl,⟨?_,λj hj=>?_,λj q hj hq=>?_⟩,?_⟩⟩;have:=(h.1.2 k hk).1;omega;obtain ⟨h1,h2,h3,h4,h5⟩:=h.1.2 k hk;exact h5 j hj;exact h.2 k hk j q hj hq;obtain ⟨h1,h2,h3,h4,h5⟩:=h.1.2 k hk;exact (insB_iff _ _ _ _).2 ⟨h2,h3,h4⟩
theorem Xd3(h:bV N U O m r v):N<=1000/\ ∀b,b<N->m b<=1000:=⟨by have:=h.1.1;omega,λb hb=>by have:=(h.1.2 b hb).1;omega⟩
end
section
variable (f:Ci)(er:Int)(N:Nat)(U O:Cg)(m:Ch)(r v:Nat->Cg)
def Xx4:G4:=λl=>some ([l=[.agg [.lst 2 3 f,i er,bds N U O m r v]]],.ro [.lst 2 3 f,i er,bds N U O m r v,.lst 2 (HK m N) (plF m N),.top])
theorem Qy4(VW:N<=1000)(UG: ∀b,b<N->m b<=1000):PE VU 75 (Xx4 f er N U O m r v):=by
 refine ⟨(UM Tryz.func75),?_⟩;intro avs ns res h hn;cases h;have e:=hn _ GN;subst e;exact Xb7 f er N U O m r v VW UG
end
section
variable (N:Nat)(U O:Cg)(m:Ch)(r v:Nat->Cg)
theorem Qy5(VW:bV N U O m r v):US VU 54 [.agg [ofs,i 1,bds N U O m r v],.lit true] (.branch (zF N U O m r v) (.leaf (.tup [.roI [] 169 (GC (PU N U O m r v)) 0,i 0])) (.leaf (.tup [Bo.nilP,i 9]))):=by
 refine GY (L:=[]) (Ae Qz3 Aa) (Aj (Af (Qy4 (λk=>[i (oL k),i (oH k)]) 1 N U O m r v (Xd3 VW).1 (Xd3 VW).2) Ab) Ac (Ah (Xc6 N U O m r v VW.1) (UJ.nil _))) U3 Tryz.func54 (UW Tryz.f54) G9 (t:=need [ofB λk=>[i (oL k),i (oH k)],vB N λk=>[i (U k),i (O k),bts (m k) (r k) (v k)]] (branch ((0:Int) != 0) (leaf (tup [QD,iI 0])) (need [U4 ([agg [lst 2 3 λk=>[iI (oL k),iI (oH k)],iI 1,Q1 N U O m r v]])] (need [U4 ([AV.ro [lst 2 3 λk=>[iI (oL k),iI (oH k)],iI 1,Q1 N U O m r v,Q2 m N,top],agg QC])] (branch (zF N U O m r v) (leaf (tup [KG N U O m r v,iI 0])) (leaf (tup [QD,iI 9]))))))) VZ ?_;intro Q hQ;simp only [VR.sat,UF,UK] at hQ ⊢;refine ⟨⟨λ_ _=>rfl,Ji0 VW⟩,λh=>by simp at h,λ_=>⟨λh=>⟨.tup [.roI [] 169 (GC (PU N U O m r v)) 0,i 0],⟨⟨rfl,rfl,λ_ _=>rfl,rfl⟩,⟨rfl,rfl⟩,Ak⟩,hQ.1 h⟩,λh=>⟨.tup [Bo.nilP,i 9],⟨rfl,⟨rfl,rfl⟩,Ak⟩,hQ.2 h⟩⟩⟩
def Xh8:DP:=λl=>some (.need [l=[.agg [ofs,i 1,bds N U O m r v],.lit true]] (.branch (zF N U O m r v) (.leaf (.tup [.roI [] 169 (GC (PU N U O m r v)) 0,i 0])) (.leaf (.tup [Bo.nilP,i 9]))))
theorem MW(VW:bV N U O m r v):Sx.Enters Tryz.prog 54/\ ∀avs t,Xh8 N U O m r v avs=some t->US VU 54 avs t:=by
 refine ⟨(UM Tryz.func54),?_⟩;intro avs t h;cases h;intro Q hQ;have e:=hQ.1
 dsimp only [UF] at e
 subst e;exact Qy5 N U O m r v VW Q hQ.2
end
def Xf7:G4
 |[.roI [] 169 F 0,.x (.int .i64 a),.x (.int .i64 b)]=>some ([0<=a/\a<=12,0<=b/\b<=12,-1000000000000000<=F (b.toNat*13+a.toNat)/\F (b.toNat*13+a.toNat)<=1000000000000000],i (-(F (b.toNat*13+a.toNat))))
 |_=>none
theorem Xv0(F:Cg)(a b:Int)(VW:0<=a/\a<=12)(UG:0<=b/\b<=12)(HX: -1000000000000000<=F (b.toNat*13+a.toNat)/\F (b.toNat*13+a.toNat)<=1000000000000000):U2 VU 77 [.roI [] 169 F 0,i a,i b] (i (-(F (b.toNat*13+a.toNat)))):=by
 refine H0 Tryz.func77 (t:=need [UO b 13] (need [UO a 13] (need [Int.toNat a*1+(Int.toNat b*13+0)<169] (need [VQ (-F (Int.toNat a*1+(Int.toNat b*13+0)))] (leaf (RV.x (.int .i64 (-F (Int.toNat a*1+(Int.toNat b*13+0)))))))))) VZ ?_;simp only [VR.sat,UF,G6,GQ,UH,UK,DR];rw [show a.toNat*1+(b.toNat*13+0)=b.toNat*13+a.toNat by omega]
 simp only [VQ];simp;omega
theorem Xu9:VT VU 77 Xf7:=by
 refine ⟨(UM Tryz.func77),?_⟩;intro avs ns res h hn;unfold Xf7 at h;split at h;cases h;exact Xv0 _ _ _ (hn _ VY) (hn _ VY) (hn _ VY);cases h
def Qm7:G4
 |[.roI [] 169 F 0,.x (.int .i64 a),.x (.int .i64 b)]=>some ([0<=a/\a<=12,0<=b/\b<=12,-1000000000000000<=F (a.toNat*13+b.toNat)/\F (a.toNat*13+b.toNat)<=1000000000000000],i (F (a.toNat*13+b.toNat)))
 |_=>none
theorem Xc4(F:Cg)(a b:Int)(VW:0<=a/\a<=12)(UG:0<=b/\b<=12)(HX: -1000000000000000<=F (a.toNat*13+b.toNat)/\F (a.toNat*13+b.toNat)<=1000000000000000):U2 VU 78 [.roI [] 169 F 0,i a,i b] (i (F (a.toNat*13+b.toNat))):=by
 refine H0 Tryz.func78 (t:=need [UO a 13] (need [UO b 13] (need [Int.toNat b*1+(Int.toNat a*13+0)<169] (leaf (RV.x (.int .i64 (F (Int.toNat b*1+(Int.toNat a*13+0))))))))) VZ ?_;simp only [VR.sat,UF,G6,GQ,UH,UK,DR];rw [show b.toNat*1+(a.toNat*13+0)=a.toNat*13+b.toNat by omega]
 simp only [VQ];simp;omega
theorem Xc3:VT VU 78 Qm7:=by
 refine ⟨(UM Tryz.func78),?_⟩;intro avs ns res h hn;unfold Qm7 at h;split at h;cases h;exact Xc4 _ _ _ (hn _ VY) (hn _ VY) (hn _ VY);cases h
def NJ:G4
 |[.roI [] 169 F 0,.x (.int .i64 a),.x (.int .i64 b)]=>some ([0<=a/\a<=12,0<=b/\b<=12,-1000000000000000<=F (b.toNat*13+a.toNat)/\F (b.toNat*13+a.toNat)<=1000000000000000,-1000000000000000<=F (a.toNat*13+b.toNat)/\F (a.toNat*13+b.toNat)<=1000000000000000],.agg [i (-(F (b.toNat*13+a.toNat))),i (F (a.toNat*13+b.toNat))])
 |_=>none
theorem nM(F:Cg)(a b:Int)(VW:0<=a/\a<=12)(UG:0<=b/\b<=12)(HX: -1000000000000000<=F (b.toNat*13+a.toNat)/\F (b.toNat*13+a.toNat)<=1000000000000000)(F6: -1000000000000000<=F (a.toNat*13+b.toNat)/\F (a.toNat*13+b.toNat)<=1000000000000000):U2 VU 55 [.roI [] 169 F 0,i a,i b] (.agg [i (-(F (b.toNat*13+a.toNat))),i (F (a.toNat*13+b.toNat))]):=by
 refine U6 (L:=[]) (Ae Xu9 (Ae Xc3 Aa)) U3 Tryz.func55 (UW Tryz.f55) U7 (t:=need [(0:Int)<=a/\a<=12,(0:Int)<=b/\b<=12,(-1000000000000000:Int)<=F (Int.toNat b*13+Int.toNat a)/\F (Int.toNat b*13+Int.toNat a)<=1000000000000000] (need [(0:Int)<=a/\a<=12,(0:Int)<=b/\b<=12,(-1000000000000000:Int)<=F (Int.toNat a*13+Int.toNat b)/\F (Int.toNat a*13+Int.toNat b)<=1000000000000000] (leaf (RV.agg [RV.x (.int .i64 (-F (Int.toNat b*13+Int.toNat a))),RV.x (.int .i64 (F (Int.toNat a*13+Int.toNat b)))])))) VZ ?_;exact V2
theorem AG:VT VU 55 NJ:=by
 refine ⟨(UM Tryz.func55),?_⟩;intro avs ns res h hn;unfold NJ at h;split at h;cases h;exact nM _ _ _ (hn _ VY) (hn _ VY) (hn _ VY) (hn _ VY);cases h
theorem Xt3{N:Nat}{U O:Cg}{m:Ch}{r v:Nat->Cg}(h:bOK N U O m r v)(x y:Nat): -1000000000000000<=PU N U O m r v x y/\PU N U O m r v x y<=1000000000000000:=by
 have:=Xi7 (c:=12) (aK h (HK m N) (Am _)) 13 x y;rw [show (8001:Int)*6^13=104498612822016 by decide] at this
 unfold PU r0M;omega
section
variable (N:Nat)(U O:Cg)(m:Ch)(r v:Nat->Cg)
def boE:Int:=if zF N U O m r v=true then 0 else 9
def boN:Nat:=if zF N U O m r v=true then 3 else 0
def boL(k:Nat):Int:= -(PU N U O m r v 0 (1+k))
def boH(k:Nat):Int:=PU N U O m r v (1+k) 0
abbrev QB:AV:=AV.x (.slice none 0 0)
def Qe3:St:={σ:=[agg [lst 2 3 λk=>[iI (oL k),iI (oH k)],iI 1,Q1 N U O m r v],ptr 0 0,QB,iI 0,QD,iI 9]++HR 12 [iI ((3:Nat):Int)]++HR 12 [],m:=[(901,GU.row 59 2 0 λx=>[]),(0,GU.cells 74 [lst 2 3 λk=>[iI (oL k),iI (oH k)],iI 1,Q1 N U O m r v])],nx:=902}
noncomputable def Wa9:Code:=UD (VX (UB Tryz.f27) 0)
def uU(k:Nat):St:={σ:=H4 [(19,i k),(6,.row 901),(4,.roI [] 169 (GC (PU N U O m r v)) 0),(5,i 0)] (Qe3 N U O m r v).σ,m:=[(901,.row 59 2 k (λk=>[i (boL N U O m r v k),i (boH N U O m r v k)])),(0,.cells 74 [ofs,i 1,bds N U O m r v])],nx:=902}
def B7(k:Nat):G8->Option St
 | .exit 0=>some {σ:=H4 [(19,i 3),(6,.row 901),(4,.roI [] 169 (GC (PU N U O m r v)) 0),(5,i 0)] (Qe3 N U O m r v).σ,m:=[(901,.row 59 2 3 (λk=>[i (boL N U O m r v k),i (boH N U O m r v k)])),(0,.cells 74 [ofs,i 1,bds N U O m r v])],nx:=902}
 |_=>none
def Xe8:CT:= .leaf (.exit 0,(B7 N U O m r v 0 (.exit 0)).getD (Qe3 N U O m r v))
def oQ:UN:=GO [(.slot 6,901,59,2)] (HI (uU N U O m r v (0)) (Xe8 N U O m r v))
abbrev KV:Prop:=(1:Int)=1
theorem Ju9(VW:bV N U O m r v):GD VU (.loop Wa9) (oQ N U O m r v):=by
 refine UV [(.slot 6,901,59,2)] (L:=[]) (Ae RQ (Ae AG Aa)) (Aj Ab Ac (Ah (MW N U O m r v VW) (UJ.nil _))) U3 U7 (X:=Nat) (uU N U O m r v) (λk=>k<=3) (λk=>3-k) (B7 N U O m r v) (x0:=0) VY ?_ ?_ ?_;rintro k;kernel_rfl;rintro k y E h;unfold B7 at h;split at h;cases h;kernel_rfl;cases h;rintro Q hQ k hx;refine ⟨(k+1),?_⟩;(with_reducible refine DG (t:=let W:=PU N U O m r v;let z1:=(U4 (agg [lst 2 3 λk=>[iI (oL k),iI (oH k)],iI 1,Q1 N U O m r v]));let z2:=(GC (W) (((1:Int)+(k:Int)).toNat*13+(0:Int).toNat));(branch (decide ((k:Int)<((3:Nat):Int))) (need [(0:Int)<=(k:Int)/\(k:Int)<=1000] (need [(0:Int)<=1+(k:Int)/\(1:Int)+(k:Int)<=12,(0:Int)<=0/\(0:Int)<=12,(-1000000000000000:Int)<=GC (W) (0+((1:Int)+(k:Int)).toNat)/\GC (W) (0+((1:Int)+(k:Int)).toNat)<=1000000000000000,(-1000000000000000:Int)<=GC (W) (((1:Int)+(k:Int)).toNat*13+(0:Int).toNat)/\GC (W) (((1:Int)+(k:Int)).toNat*13+(0:Int).toNat)<=1000000000000000] (need [(k+1)*16<=140737488355328,RY 1 (UA 2 [iI (-GC (W) (0+((1:Int)+(k:Int)).toNat)),iI z2])] (need [VQ ((k:Int)+1)] (need [z1,QO,QB=QB,QU,U4 (KG N U O m r v),QU,W8,U4 ((3:Nat):Int),(k:Int)+1=(↑(k+1):Int),k+1=k+1,GZ (k+1) (GL k (λk=>[iI (boL N U O m r v k),iI (boH N U O m r v k)]) (UA 2 [iI (-GC (W) (0+((1:Int)+(k:Int)).toNat)),iI z2])) (λi=>[iI (boL N U O m r v i),iI (boH N U O m r v i)]),U4 (lst 2 3 λk=>[iI (oL k),iI (oH k)]),KV,WU N U O m r v] (leaf G8.normal)))))) (need [z1,QO,QB=QB,QU,U4 (KG N U O m r v),QU,W8,U4 ((3:Nat):Int),(k:Int)=3,k=3,∀(i:Nat),i<3->[iI (boL N U O m r v i),iI (boH N U O m r v i)]=[iI (boL N U O m r v i),iI (boH N U O m r v i)],U4 (lst 2 3 λk=>[iI (oL k),iI (oH k)]),KV,WU N U O m r v] (leaf (G8.exit 0))))) VZ ?_)
 simp only [Xe8,B7,VR.sat,GW] at hQ;simp only [VR.sat,UF,G6,GQ,UH,VQ,UK,H6,FW,FZ,RP,GR,B7]
 have hb:=λx y=>Xt3 VW.1 x y;have e1:(1+(k:Int)).toNat=1+k:=VO;have g1:k<3->GC (PU N U O m r v) (0*13+(1+k))=PU N U O m r v 0 (1+k):=λ_=>v8 _ VO VO;have g2:k<3->GC (PU N U O m r v) ((1+k)*13+0)=PU N U O m r v (1+k) 0:=λ_=>v8 _ VO VO;have b1:=hb 0 (1+k);have b2:=hb (1+k) 0;refine ⟨λh=>?_,λh=>?_⟩
 ·have hk:k<3:=VO;have f1:=g1 hk;have f2:=g2 hk;rw [e1];simp only [Int.toNat_zero,f1,f2]
  (with_reducible repeat' first|apply Al|intro _)
  all_goals first|exact Ak|omega|rfl|exact FP (by assumption) (by simp [AV.one,Value.oneCell'])|exact Zy5 rfl rfl (by assumption)
 obtain rfl:k=3:=VO;exact V1
abbrev J6:Value:=Value.slice none 0 0
abbrev Y9:Value:=Value.pointer none
theorem yE(VW:bV N U O m r v):U2 VU 27 [.agg [ofs,i 1,bds N U O m r v]] (.tup [.lst 2 (boN N U O m r v) (λk=>[i (boL N U O m r v k),i (boH N U O m r v k)]),i (boE N U O m r v)]):=by
 refine G7 (L:=[oQ N U O m r v]) (Ae RQ (Ae AG Aa)) (Aj Ab Ac (Ah (MW N U O m r v VW) (UJ.nil _))) U3 Tryz.func27 (UW Tryz.f27) (G0 (lpE (b:= .loop Wa9) VZ<|(Ju9 N U O m r v VW).N)) (t:=let W:=([lst 2 3 λk=>[iI (oL k),iI (oH k)],iI 1,Q1 N U O m r v]);let z1:=(leaf (RV.tup [RV.lst 2 3 λk=>[iI (boL N U O m r v k),iI (boH N U O m r v k)],RV.x (WV)]));(need [U4 ([agg W,AV.lit true])] (branch (zF N U O m r v) (branch ((0:Int) != 0) (leaf (RV.tup [RV.x (J6),RV.x (WV)])) (need [U4 (agg W),QO,QB=QB,QU,U4 (KG N U O m r v),QU,W8,U4 ((3:Nat):Int),(0:Int)=((0:Nat):Int),0=0,∀(i:Nat),i<0->[]=[iI (boL N U O m r v i),iI (boH N U O m r v i)],U4 (lst 2 3 λk=>[iI (oL k),iI (oH k)]),KV,WU N U O m r v] z1)) (branch ((9:Int) != 0) (leaf (RV.tup [RV.x (J6),RV.x (.int .i64 (9:Int))])) (need [U4 (agg W),QO,QB=QB,QU,AV.x (Y9)=roI [] 169 (λk=>GC (PU N U O m r v) k) 0,(9:Int)=0,W8,U4 ((3:Nat):Int),(0:Int)=((0:Nat):Int),0=0,∀(i:Nat),i<0->[]=[iI (boL N U O m r v i),iI (boH N U O m r v i)],U4 (lst 2 3 λk=>[iI (oL k),iI (oH k)]),KV,WU N U O m r v] z1))))) VZ ?_
 simp only [VR.sat,UF,G6,GQ,UH,UK];refine ⟨λhok=>⟨λh=>by simp at h,λ_=>?_⟩,λhno=>⟨λ_=>?_,λh=>by simp at h⟩⟩
 ·unfold boN boE;rw [if_pos hok,if_pos hok]
  (with_reducible repeat' first|apply Al|intro _)
  all_goals first|exact Ak|omega|rfl|(rename_i hm;simp only [GT,DO,or_false] at hm;rcases hm with rfl|rfl<;>exact Ak)
 unfold boN boE;rw [if_neg (by simp [hno]),if_neg (by simp [hno])]
 exact ⟨⟨Ak,rfl⟩,rfl⟩
def Qd1:G4:=λl=>some ([l=[.agg [ofs,i 1,bds N U O m r v]]],.tup [.lst 2 (boN N U O m r v) (λk=>[i (boL N U O m r v k),i (boH N U O m r v k)]),i (boE N U O m r v)])
theorem cH(VW:bV N U O m r v):VT VU 27 (Qd1 N U O m r v):=by
 refine ⟨(UM Tryz.func27),?_⟩;intro avs ns res h hn;cases h;have e:=hn _ GN;subst e;exact yE N U O m r v VW
end
def TN:G4
 |[.x (.int .i64 n),.x (.int .i64 U),.x (.int .i64 O)]=>some ([],bl (bt U n O))
 |_=>none
theorem pZ(n U O:Int):U2 VU 66 [i n,i U,i O] (bl (bt U n O)):=by
 refine H0 Tryz.func66 (t:=branch (decide (U<=n)) (leaf (RV.x (.bool (decide (n<=O))))) (leaf (RV.x (WL)))) VZ ?_;exact VB
theorem j5:VT VU 66 TN:=by
 refine ⟨(UM Tryz.func66),?_⟩;intro avs ns res h hn;unfold TN at h;split at h;cases h;exact pZ _ _ _;cases h
def Xf1:G4
 |[.x (.int .i64 n)]=>some ([],bl (bt 0 n 100))
 |_=>none
theorem Xo3(n:Int):U2 VU 59 [i n] (bl (bt 0 n 100)):=by
 refine U6 (L:=[]) (Ae j5 Aa) U3 Tryz.func59 (UW Tryz.f59) U7 (t:=leaf (RV.x (.bool (bt (0:Int) n (100:Int))))) VZ ?_;exact V2
theorem C0:VT VU 59 Xf1:=by
 refine ⟨(UM Tryz.func59),?_⟩;intro avs ns res h hn;unfold Xf1 at h;split at h;cases h;exact Xo3 _;cases h
def ND:G4:=yH
theorem Qs0(a b:Int):U2 VU 87 [.lst 1 2 (λk=>[i (if k=0 then a else b)])] (i (min a b)):=by
 refine U6 (L:=[]) (Ae aG Aa) U3 Tryz.func87 (UW Tryz.f87) U7 (t:=leaf (RV.x (.int .i64 (min (if 0=0 then a else b) (if 1=0 then a else b))))) VZ ?_
 simp [VR.sat,G6,UH]
theorem B5:VT VU 87 ND:=by
 refine ⟨(UM Tryz.func87),?_⟩;intro avs ns res h hn;unfold ND yH at h;split at h;rename_i f;split at h;rename_i a b h0 h1;cases h;refine (Qs0 a b).same (.cons (.lst 1 2 _ _ ?_) .nil);intro k hk;rcases (show k=0\/k=1 by omega) with rfl|rfl
 exact h0;exact h1;cases h;cases h
def yI:G4:=rL
theorem aM(a b:Int):U2 VU 88 [.lst 1 2 (λk=>[i (if k=0 then a else b)])] (i (max a b)):=by
 refine U6 (L:=[]) (Ae Qf4 Aa) U3 Tryz.func88 (UW Tryz.f88) U7 (t:=leaf (RV.x (.int .i64 (max (if 0=0 then a else b) (if 1=0 then a else b))))) VZ ?_
 simp [VR.sat,G6,UH]
theorem F5:VT VU 88 yI:=by
 refine ⟨(UM Tryz.func88),?_⟩;intro avs ns res h hn;unfold yI rL at h;split at h;rename_i f;split at h;rename_i a b h0 h1;cases h;refine (aM a b).same (.cons (.lst 1 2 _ _ ?_) .nil);intro k hk;rcases (show k=0\/k=1 by omega) with rfl|rfl
 exact h0;exact h1;cases h;cases h
def saB(f t q U O:Int):Bool:=bt 0 f 3&&bt 0 t 3&&(f != t)&&bt 1 q 1000&&bt 0 U 100&&bt 0 O 100&&decide (U<=O)
abbrev sls(n:Nat)(f t q U O:Cg):AV:= .lst 5 n (λk=>[i (f k),i (t k),i (q k),i (U k),i (O k)])
def OE(d:Int)(n:Nat):Bool:=Xw1 (d / 2^n) 1==1
theorem Xn0{f t q U O:Int}:saB f t q U O=true↔(0<=f/\f<=3)/\(0<=t/\t<=3)/\f≠t/\(1<=q/\q<=1000)/\(0<=U/\U<=100)/\(0<=O/\O<=100)/\U<=O:=by
 simp [saB,bt_iff,and_assoc]
theorem eR{q:Nat}(h:q<2^40):IntKind.i64.wrap (q:Int)=q:=by
 have e:IntKind.i64.wrap (q:Int)=if (true&&decide ((q:Int)%2^64>=2^63))=true then (q:Int)%2^64-2^64 else (q:Int)%2^64:=rfl
 have e2:(q:Int)%2^64=q:=Int.emod_eq_of_lt VO VO;rw [e,e2,if_neg];rw [Bool.true_and,vK];omega
theorem Qb0{z:Nat}(hz:z<8192):(BitVec.ofInt 64 (z:Int)).toNat=z:=by
 rw [BitVec.toNat_ofInt];omega
theorem Xo9{x y:Nat}(hx:x<8192)(hy:y<8192):orI x y=((x ||| y:Nat):Int):=by
 unfold orI;rw [BitVec.toNat_or,Qb0 hx,Qb0 hy];have hlt:x ||| y<2^13:=Nat.or_lt_two_pow VO VO
 exact eR VO
theorem Xd7{x:Nat}(hx:x<8192):Xw1 x 1=((x%2:Nat):Int):=by
 unfold Xw1;rw [BitVec.toNat_and,Qb0 hx,show (BitVec.ofInt 64 1).toNat=1 from rfl,Nat.and_one_is_mod];exact eR VO
theorem Zx4(d n:Nat):((d:Int) / 2^n)=((d / 2^n:Nat):Int):=by
 rw [Int.natCast_ediv,Int.natCast_pow];rfl
theorem Ww7{d n:Nat}(hd:d<8192):OE d n=d.testBit n:=by
 unfold OE;rw [Zx4,Xd7 (Nat.lt_of_le_of_lt (Nat.div_le_self _ _) hd),Nat.testBit_eq_decide_div_mod_eq,Bool.eq_iff_iff,beq_iff_eq,vK];omega
def Qc0:G4
 |[.x (.int .i64 d),.x (.int .i64 n)]=>some ([0<=n/\n<=64],bl (OE d n.toNat))
 |_=>none
theorem Xo2(d n:Int)(VW:0<=n/\n<=64):U2 VU 123 [i d,i n] (bl (OE d n.toNat)):=by
 refine H0 Tryz.func123 (t:=need [(0:Int)<=n/\n<=64] (leaf (RV.x (.bool (IntKind.wrap IntKind.i64 (↑(BitVec.toNat (BitVec.ofInt 64 (d / (2:Int)^Int.toNat n) &&& BitVec.ofInt 64 (1:Int))):Int)==1))))) VZ ?_;exact V2
theorem AZ:VT VU 123 Qc0:=by
 refine ⟨(UM Tryz.func123),?_⟩;intro avs ns res h hn;unfold Qc0 at h;split at h;cases h;exact Xo2 _ _ (hn _ VY);cases h
def Ql8:G4
 |[.agg [.x (.int .i64 4),.x (.int .i64 10),.lst 5 n f],.agg [.x (.int .i64 a),.x (.int .i64 b),.x (.int .i64 c),.x (.int .i64 U),.x (.int .i64 O)]]=>some ([],bl (saB a b c U O))
 |_=>none
theorem Wk2(f:Ci)(n:Nat)(a b c U O:Int):U2 VU 119 [.agg [i 4,i 10,.lst 5 n f],.agg [i a,i b,i c,i U,i O]] (bl (saB a b c U O)):=by
 refine U6 (L:=[]) (Ae j5 (Ae C0 Aa)) U3 Tryz.func119 (UW Tryz.f119) U7 (t:=need [VQ ((4:Int)-1)] (branch (bt (0:Int) a ((4:Int)-1)) (need [VQ ((4:Int)-1)] (branch (bt (0:Int) b ((4:Int)-1)) (branch (a != b) (branch (bt (1:Int) c (1000:Int)) (branch (bt (0:Int) U (100:Int)) (branch (bt (0:Int) O (100:Int)) (leaf (RV.x (.bool (decide (U<=O))))) (leaf (RV.x (WL)))) (leaf (RV.x (WL)))) (leaf (RV.x (WL)))) (leaf (RV.x (WL)))) (leaf (RV.x (WL))))) (leaf (RV.x (WL))))) VZ ?_;simp only [VR.sat,UF,G6,GQ,UH,UK,VQ,saB];refine ⟨VO,?_⟩;cases h1:bt 0 a 3<;>cases h2:bt 0 b 3<;>cases h3:(a != b)<;>cases h4:bt 1 c 1000<;>cases h5:bt 0 U 100<;>cases h6:bt 0 O 100<;>simp [h1,h2,h3,h4,h5,h6]
theorem Wk1:VT VU 119 Ql8:=by
 refine ⟨(UM Tryz.func119),?_⟩;intro avs ns res h hn;unfold Ql8 at h;split at h;cases h;exact Wk2 _ _ _ _ _ _ _;cases h
def Ql9:G4
 |[.agg [.x (.int .i64 a),.x (.int .i64 b),.x (.int .i64 c),.x (.int .i64 U),.x (.int .i64 O)],.ro [.fn (.func 119) [.agg [.x (.int .i64 4),.x (.int .i64 10),.lst 5 n f]] []]]=>some ([],bl (!saB a b c U O))
 |_=>none
theorem Wk6(f:Ci)(n:Nat)(a b c U O:Int):U2 VU 163 [.agg [i a,i b,i c,i U,i O],.ro [.fn (.func 119) [.agg [i 4,i 10,.lst 5 n f]] []]] (bl (!saB a b c U O)):=by
 refine U6 (L:=[]) (Ae Wk1 Aa) U3 Tryz.func163 (UW Tryz.f163) U7 (t:=leaf (RV.x (.bool !saB a b c U O))) VZ ?_;exact V2
theorem iY:VT VU 163 Ql9:=by
 refine ⟨(UM Tryz.func163),?_⟩;intro avs ns res h hn;unfold Ql9 at h;split at h;cases h;exact Wk6 _ _ _ _ _ _ _;cases h
def nsB(a b c U O:Cg)(j:Nat):Bool:= !saB (a j) (b j) (c j) (U j) (O j)
def jV(n:Nat)(a b c U O:Cg):Bool:=DH (λj=>saB (a j) (b j) (c j) (U j) (O j)) n
abbrev Q0(n:Nat)(a:Cg)(b:Cg)(c:Cg)(U:Cg)(O:Cg):AV:=lst 5 n λk=>[iI (a k),iI (b k),iI (c k),iI (U k),iI (O k)]
abbrev WJ(n1:Nat)(f:Ci):AV:=AV.fn (Fn.func 163) [] [AV.ro [AV.fn (Fn.func 119) [agg [iI 4,iI 10,lst 5 n1 λa=>f a]] []]]
section
variable (n:Nat)(a b c U O:Cg)(f:Ci)(n1:Nat)
def NO:St:={σ:=[Q0 n a b c U O,WJ n1 f]++HR 5 [iI (n:Int)]++HR 11 [],m:=[],nx:=4}
noncomputable def Xl1:Code:=UD (VX (UB Tryz.f196) 0)
def lV(k:Nat):St:=(upM [(8,i k)] (NO n a b c U O f n1))
def xX(k:Nat):G8->Option St
 | .ret=>some (upM [(4,i (H2 ((nsB a b c U O)) n))] (NO n a b c U O f n1))
 | .exit 0=>some (upM [] (NO n a b c U O f n1))
 |_=>none
def Xe4:CT:= .branch (decide (H2 ((nsB a b c U O)) n<n)) (.leaf (.ret,(xX n a b c U O f n1 0 .ret).getD (NO n a b c U O f n1))) (.leaf (.exit 0,(xX n a b c U O f n1 0 (.exit 0)).getD (NO n a b c U O f n1)))
def Qo9:UN:=(HI (lV n a b c U O f n1 (0)) (Xe4 n a b c U O f n1))
end
abbrev W2(n:Nat)(a:Cg)(b:Cg)(c:Cg)(U:Cg)(O:Cg):Prop:=(Q0 n a b c U O)=Q0 n a b c U O
theorem VH{p:Prop}(h:p:=by
 refine ⟨by have:=Xr6 hk hb;omega,λE hE=>?_⟩
 cases hE;exact hQ.1 (by rw [Xr6 hk hb];exact hk)):p:=h
section
variable (n:Nat)(a b c U O:Cg)(f:Ci)(n1:Nat)
theorem Xl5(VW:n<=100000):GD VU (.loop Xl1) (Qo9 n a b c U O f n1):=by
 refine HO (L:=[]) (Ae iY Aa) U3 U7 (X:=Nat) (lV n a b c U O f n1) (λk=>k<=n/\ ∀j,j<k->(nsB a b c U O) j=false) (λk=>n-k) (xX n a b c U O f n1) (x0:=0) ⟨VO,λj hj=>VO⟩ ?_ ?_ ?_;rintro k;kernel_rfl;rintro k y E h;unfold xX at h;split at h;cases h;kernel_rfl;cases h;kernel_rfl;cases h
 ·rintro Q hQ k hx;refine ⟨(k+1),?_⟩;(with_reducible refine DG (t:=branch (decide ((k:Int)<(n:Int))) (need [UO k n] (branch (!saB (a k) (b k) (c k) (U k) (O k)) (need [W2 n a b c U O,U4 (WJ n1 f),(k:Int)=(↑(H2 (nsB a b c U O) n):Int),U4 (n:Int)] (leaf G8.ret)) (need [VQ ((k:Int)+1)] (need [W2 n a b c U O,U4 (WJ n1 f),U4 (n:Int),(k:Int)+1=(↑(k+1):Int)] (leaf G8.normal))))) (need [W2 n a b c U O,U4 (WJ n1 f),U4 (n:Int)] (leaf (G8.exit 0)))) VZ ?_);simp only [Xe4,xX,VR.sat,GW,H6] at hQ;simp only [VR.sat,UF,UK,H6,VQ,xX,DR];have Xr6:k<n->((nsB a b c U O)) k=true->H2 ((nsB a b c U O)) n=k:=λh hb=>jJ h hb hx.2;have PR: ¬k<n->H2 ((nsB a b c U O)) n=n:=λh=>qO (λj hj=>hx.2 j VO);have hgo:((nsB a b c U O)) k=false-> ∀j,j<k+1->((nsB a b c U O)) j=false:=by
   intro hb j hj;rcases (show j<k\/j=k by omega) with h1|rfl
   exact hx.2 j h1;exact hb
  refine ⟨λh=>⟨VO,?_⟩,λh=>?_⟩
  rotate_left
  intro E hE;cases hE;exact hQ.2 (by rw [PR VO];omega)
  have hk:k<n:=VO;refine ⟨λhb=>?_,λhb=>?_⟩;exact VH;exact ⟨VO,VO,⟨VO,hgo hb⟩,VO⟩
theorem Zr8(VW:n<=100000):U2 VU 196 [sls n a b c U O,.fn (.func 163) [] [.ro [.fn (.func 119) [.agg [i 4,i 10,.lst 5 n1 f]] []]]] (i (if H2 ((nsB a b c U O)) n<n then (H2 ((nsB a b c U O)) n:Int) else -1)):=by
 refine U6 (L:=[Qo9 n a b c U O f n1]) (Ae iY Aa) U3 Tryz.func196 (UW Tryz.f196) (G0 (lpE (b:= .loop Xl1) VZ<|Xl5 n a b c U O f n1 VW)) (t:=need [W2 n a b c U O,U4 (WJ n1 f),U4 (n:Int),(0:Int)=((0:Nat):Int)] (branch (decide (H2 (nsB a b c U O) n<n)) (leaf (RV.x (.int .i64 (↑(H2 (nsB a b c U O) n):Int)))) (leaf (RV.x (KL))))) VZ ?_
 exact VD
end
def Ze0:G4
 |[.lst 5 n f,.fn (.func 163) [] [.ro [.fn (.func 119) [.agg [.x (.int .i64 4),.x (.int .i64 10),.lst 5 n1 f1]] []]]]=>some ([UL 5 n f,n<=100000],i (if H2 (nsB (col 0 f) (col 1 f) (col 2 f) (col 3 f) (col 4 f)) n<n then (H2 (nsB (col 0 f) (col 1 f) (col 2 f) (col 3 f) (col 4 f)) n:Int) else -1))
 |_=>none
theorem Zr7:VT VU 196 Ze0:=by
 refine ⟨(UM Tryz.func196),?_⟩;intro avs ns res h hn;unfold Ze0 at h;split at h;cases h;have hr:_:=hn _ (GN);have hr1:_:=hn _ (D1 _ (GN));exact (Zr8 _ (col 0 _) (col 1 _) (col 2 _) (col 3 _) (col 4 _) _ _ hr1).same (.cons (.lst 5 _ _ _ hr) (.cons (.refl _) .nil));cases h
theorem Zs0(n:Nat)(a b c U O:Cg)(f:Ci)(n1:Nat)(VW:n<=100000):U2 VU 162 [sls n a b c U O,.fn (.func 163) [] [.ro [.fn (.func 119) [.agg [i 4,i 10,.lst 5 n1 f]] []]]] (bl (!jV n a b c U O)):=by
 refine U6 (L:=[]) (Ae Zr7 Aa) U3 Tryz.func162 (UW Tryz.f162) U7 (t:=need [UL 5 n λk=>[i (a k),i (b k),i (c k),i (U k),i (O k)],n<=100000] (leaf (RV.x (.bool (decide ((if H2 (nsB a b c U O) n<n then (↑(H2 (nsB a b c U O) n):Int) else (-1:Int))>=(0:Int))))))) VZ ?_
 simp only [VR.sat,UF,G6,UH,UK];refine ⟨⟨λ_ _=>rfl,VW⟩,?_⟩;unfold jV;rw [yF];have:=FA (nsB a b c U O) n;have e:(λk=> !(λk=>saB (a k) (b k) (c k) (U k) (O k)) k)=nsB a b c U O:=rfl;rw [e];show decide ((if H2 (nsB a b c U O) n<n then (H2 (nsB a b c U O) n:Int) else -1)>=0)=_
 split<;>simp<;>omega
def Ze1:G4
 |[.lst 5 n f,.fn (.func 163) [] [.ro [.fn (.func 119) [.agg [.x (.int .i64 4),.x (.int .i64 10),.lst 5 n1 f1]] []]]]=>some ([UL 5 n f,n<=100000],bl (!jV n (col 0 f) (col 1 f) (col 2 f) (col 3 f) (col 4 f)))
 |_=>none
theorem Zr9:VT VU 162 Ze1:=by
 refine ⟨(UM Tryz.func162),?_⟩;intro avs ns res h hn;unfold Ze1 at h;split at h;cases h;have hr:_:=hn _ (GN);have hr1:_:=hn _ (D1 _ (GN));exact (Zs0 _ (col 0 _) (col 1 _) (col 2 _) (col 3 _) (col 4 _) _ _ hr1).same (.cons (.lst 5 _ _ _ hr) (.cons (.refl _) .nil));cases h
theorem Xo5(n:Nat)(a b c U O:Cg)(f:Ci)(n1:Nat)(VW:n<=100000):U2 VU 120 [sls n a b c U O,.fn (.func 119) [.agg [i 4,i 10,.lst 5 n1 f]] []] (bl (jV n a b c U O)):=by
 refine U6 (L:=[]) (Ae Zr9 Aa) U3 Tryz.func120 (UW Tryz.f120) U7 (t:=need [UL 5 n λk=>[i (a k),i (b k),i (c k),i (U k),i (O k)],n<=100000] (leaf (RV.x (.bool !!jV n a b c U O)))) VZ ?_;simp only [VR.sat,UF,G6,UH,UK];refine ⟨⟨λ_ _=>rfl,VW⟩,?_⟩;show (!!jV n a b c U O)=_;simp
def Xf2:G4
 |[.lst 5 n f,.fn (.func 119) [.agg [.x (.int .i64 4),.x (.int .i64 10),.lst 5 n1 f1]] []]=>some ([UL 5 n f,n<=100000],bl (jV n (col 0 f) (col 1 f) (col 2 f) (col 3 f) (col 4 f)))
 |_=>none
theorem Xo4:VT VU 120 Xf2:=by
 refine ⟨(UM Tryz.func120),?_⟩;intro avs ns res h hn;unfold Xf2 at h;split at h;cases h;have hr:_:=hn _ (GN);have hr1:_:=hn _ (D1 _ (GN));exact (Xo5 _ (col 0 _) (col 1 _) (col 2 _) (col 3 _) (col 4 _) _ _ hr1).same (.cons (.lst 5 _ _ _ hr) (.cons (.refl _) .nil));cases h
theorem S4(n:Nat)(a b c U O:Cg)(VW:n<=8):U2 VU 81 [.agg [i 4,i 10,sls n a b c U O]] (i (if jV n a b c U O then 0 else 1)):=by
 refine U6 (L:=[]) (Ae Xo4 (Ae j5 Aa)) U3 Tryz.func81 (UW Tryz.f81) U7 (t:=branch (decide ((n:Int)>8)) (leaf (RV.x (KA))) (branch (!bt (1:Int) (4:Int) (6:Int)) (leaf (RV.x (JU))) (branch (!bt (0:Int) (10:Int) (1000:Int)) (leaf (RV.x (JU))) (need [UL 5 n λk=>[i (a k),i (b k),i (c k),i (U k),i (O k)],n<=100000] (branch (!jV n a b c U O) (leaf (RV.x (JU))) (leaf (RV.x (WV)))))))) VZ ?_;simp only [VR.sat,UF,G6,UH,UK];have h1:(!bt 1 4 6)=false:=by decide
 have h2:(!bt 0 10 1000)=false:=by decide
 rw [h1,h2];refine ⟨λh=>absurd h (by simp;omega),λ_=>⟨λh=>(Bool.noConfusion h),λ_=>⟨λh=>(Bool.noConfusion h),λ_=>⟨⟨λ_ _=>rfl,VO⟩,λh=>?_,λh=>?_⟩⟩⟩⟩
 rw [Ax] at h;rw [h];rfl;rw [Bool.not_eq_false'] at h;rw [h];rfl
def sg0(k:Nat):Int:=if k=0 then 10 else 0
def sld(F:Cg)(a b c:Int)(k:Nat):Int:=if (k:Int)=b then (if (k:Int)=a then F k-c else F k)+c else if (k:Int)=a then F k-c else F k
abbrev sgs(F:Cg):AV:= .agg [i (F 0),i (F 1),i (F 2),i (F 3),i (F 4),i (F 5)]
def nV:G4
 |[.agg [.x (.int .i64 4),.x (.int .i64 10),.lst 5 n f]]=>some ([],.agg [i 10,i 0,i 0,i 0,i 0,i 0])
 |_=>none
abbrev Q3:List Int:=[(0:Int),0,0,0,0,0]
theorem Qs2(f:Ci)(n:Nat):U2 VU 122 [.agg [i 4,i 10,.lst 5 n f]] (.agg [i 10,i 0,i 0,i 0,i 0,i 0]):=by
 refine H0 Tryz.func122 (t:=let W:=(UX 4 (UX 0 (10:Int) (BY Q3) 4) (UX 3 (UX 0 (10:Int) (BY Q3) 3) (UX 2 (UX 0 (10:Int) (BY Q3) 2) (UX 1 (UX 0 (10:Int) (BY Q3) 1) (UX 0 (UX 0 (10:Int) (BY Q3) 0) (kA 0 [(10:Int)] (BY Q3)))))));let z1:=(UX 0 (10:Int) (BY Q3) 5);(need [UO 0 6] (need [1<=6] (need [6<=6] (need [6<=6] (leaf (RV.agg [RV.x (.int .i64 (UX 5 z1 W 0)),RV.x (.int .i64 (UX 5 z1 W 1)),RV.x (.int .i64 (UX 5 z1 W 2)),RV.x (.int .i64 (UX 5 z1 W 3)),RV.x (.int .i64 (UX 5 z1 W 4)),RV.x (.int .i64 (UX 5 z1 W 5))]))))))) VZ ?_;exact V2
theorem S3:VT VU 122 nV:=by
 refine ⟨(UM Tryz.func122),?_⟩;intro avs ns res h hn;unfold nV at h;split at h;cases h;exact Qs2 _ _;cases h
theorem Wk0(F:Cg)(a b c U O:Int)(VW: ∀k,k<6-> -1000000<=F k/\F k<=1000000)(UG:0<=a/\a<=3)(HX:0<=b/\b<=3)(F6:a≠b)(qD:1<=c/\c<=1000):U2 VU 124 [sgs F,.agg [i a,i b,i c,i U,i O]] (sgs (sld F a b c)):=by
 refine H0 Tryz.func124 (t:=let z1:=(kA (Int.toNat a*1+0) [UE [F 0,F 1,F 2,F 3,F 4,F 5] (Int.toNat a*1+0)-c] (UE [F 0,F 1,F 2,F 3,F 4,F 5]));let W:=(UX 4 (UX (Int.toNat b*1+0) (UX (Int.toNat a*1+0) (UE [F 0,F 1,F 2,F 3,F 4,F 5] (Int.toNat a*1+0)-c) (UE [F 0,F 1,F 2,F 3,F 4,F 5]) (Int.toNat b*1+0)+c) z1 4) (UX 3 (UX (Int.toNat b*1+0) (UX (Int.toNat a*1+0) (UE [F 0,F 1,F 2,F 3,F 4,F 5] (Int.toNat a*1+0)-c) (UE [F 0,F 1,F 2,F 3,F 4,F 5]) (Int.toNat b*1+0)+c) z1 3) (UX 2 (UX (Int.toNat b*1+0) (UX (Int.toNat a*1+0) (UE [F 0,F 1,F 2,F 3,F 4,F 5] (Int.toNat a*1+0)-c) (UE [F 0,F 1,F 2,F 3,F 4,F 5]) (Int.toNat b*1+0)+c) z1 2) (UX 1 (UX (Int.toNat b*1+0) (UX (Int.toNat a*1+0) (UE [F 0,F 1,F 2,F 3,F 4,F 5] (Int.toNat a*1+0)-c) (UE [F 0,F 1,F 2,F 3,F 4,F 5]) (Int.toNat b*1+0)+c) z1 1) (UX 0 (UX (Int.toNat b*1+0) (UX (Int.toNat a*1+0) (UE [F 0,F 1,F 2,F 3,F 4,F 5] (Int.toNat a*1+0)-c) (UE [F 0,F 1,F 2,F 3,F 4,F 5]) (Int.toNat b*1+0)+c) z1 0) (BY Q3))))));let z2:=(UX (Int.toNat b*1+0) (UX (Int.toNat a*1+0) (UE [F 0,F 1,F 2,F 3,F 4,F 5] (Int.toNat a*1+0)-c) (UE [F 0,F 1,F 2,F 3,F 4,F 5]) (Int.toNat b*1+0)+c) z1 5);(need [UO a 6] (need [Int.toNat a*1+0<List.length [F 0,F 1,F 2,F 3,F 4,F 5]] (need [VQ (UE [F 0,F 1,F 2,F 3,F 4,F 5] (Int.toNat a*1+0)-c)] (need [UO a 6] (need [Int.toNat a*1+0+List.length [UE [F 0,F 1,F 2,F 3,F 4,F 5] (Int.toNat a*1+0)-c]<=List.length [F 0,F 1,F 2,F 3,F 4,F 5]] (need [UO b 6] (need [Int.toNat b*1+0<List.length [F 0,F 1,F 2,F 3,F 4,F 5]] (need [VQ (UX (Int.toNat a*1+0) (UE [F 0,F 1,F 2,F 3,F 4,F 5] (Int.toNat a*1+0)-c) (UE [F 0,F 1,F 2,F 3,F 4,F 5]) (Int.toNat b*1+0)+c)] (need [UO b 6] (need [Int.toNat b*1+0+List.length [UX (Int.toNat a*1+0) (UE [F 0,F 1,F 2,F 3,F 4,F 5] (Int.toNat a*1+0)-c) (UE [F 0,F 1,F 2,F 3,F 4,F 5]) (Int.toNat b*1+0)+c]<=List.length [F 0,F 1,F 2,F 3,F 4,F 5]] (need [6<=List.length [F 0,F 1,F 2,F 3,F 4,F 5]] (need [0+List.length [UX (Int.toNat b*1+0) (UX (Int.toNat a*1+0) (UE [F 0,F 1,F 2,F 3,F 4,F 5] (Int.toNat a*1+0)-c) (UE [F 0,F 1,F 2,F 3,F 4,F 5]) (Int.toNat b*1+0)+c) z1 0,UX (Int.toNat b*1+0) (UX (Int.toNat a*1+0) (UE [F 0,F 1,F 2,F 3,F 4,F 5] (Int.toNat a*1+0)-c) (UE [F 0,F 1,F 2,F 3,F 4,F 5]) (Int.toNat b*1+0)+c) z1 1,UX (Int.toNat b*1+0) (UX (Int.toNat a*1+0) (UE [F 0,F 1,F 2,F 3,F 4,F 5] (Int.toNat a*1+0)-c) (UE [F 0,F 1,F 2,F 3,F 4,F 5]) (Int.toNat b*1+0)+c) z1 2,UX (Int.toNat b*1+0) (UX (Int.toNat a*1+0) (UE [F 0,F 1,F 2,F 3,F 4,F 5] (Int.toNat a*1+0)-c) (UE [F 0,F 1,F 2,F 3,F 4,F 5]) (Int.toNat b*1+0)+c) z1 3,UX (Int.toNat b*1+0) (UX (Int.toNat a*1+0) (UE [F 0,F 1,F 2,F 3,F 4,F 5] (Int.toNat a*1+0)-c) (UE [F 0,F 1,F 2,F 3,F 4,F 5]) (Int.toNat b*1+0)+c) z1 4,UX (Int.toNat b*1+0) (UX (Int.toNat a*1+0) (UE [F 0,F 1,F 2,F 3,F 4,F 5] (Int.toNat a*1+0)-c) (UE [F 0,F 1,F 2,F 3,F 4,F 5]) (Int.toNat b*1+0)+c) z1 5]<=6] (leaf (RV.agg [RV.x (.int .i64 (UX 5 z2 W 0)),RV.x (.int .i64 (UX 5 z2 W 1)),RV.x (.int .i64 (UX 5 z2 W 2)),RV.x (.int .i64 (UX 5 z2 W 3)),RV.x (.int .i64 (UX 5 z2 W 4)),RV.x (.int .i64 (UX 5 z2 W 5))]))))))))))))))) VZ ?_;simp only [VR.sat,UF,G6,GQ,UH,UK,VQ];obtain ⟨A,rfl⟩: ∃A:Nat,a=A:=⟨a.toNat,VO⟩;obtain ⟨B,rfl⟩: ∃B:Nat,b=B:=⟨b.toNat,VO⟩;have h0:=VW 0 VO;have h1:=VW 1 VO;have h2:=VW 2 VO;have h3:=VW 3 VO
 have h4:=VW 4 VO;have h5:=VW 5 VO;rcases (show A=0\/A=1\/A=2\/A=3 by omega) with rfl|rfl|rfl|rfl<;>rcases (show B=0\/B=1\/B=2\/B=3 by omega) with rfl|rfl|rfl|rfl<;>first|(exfalso;omega)|(simp [GR,UX,UE,sld];omega)
def Ql7:G4
 |[.agg [.x (.int .i64 s0),.x (.int .i64 s1),.x (.int .i64 s2),.x (.int .i64 s3),.x (.int .i64 s4),.x (.int .i64 s5)],.agg [.x (.int .i64 a),.x (.int .i64 b),.x (.int .i64 c),.x (.int .i64 U),.x (.int .i64 O)]]=>some ([-1000000<=s0/\s0<=1000000,-1000000<=s1/\s1<=1000000,-1000000<=s2/\s2<=1000000,-1000000<=s3/\s3<=1000000,-1000000<=s4/\s4<=1000000,-1000000<=s5/\s5<=1000000,0<=a/\a<=3,0<=b/\b<=3,a≠b,1<=c/\c<=1000],sgs (sld (UE [s0,s1,s2,s3,s4,s5]) a b c))
 |_=>none
def sV(n:Nat)(a b c U O:Cg):Prop:=n<=8/\ ∀k,k<n->saB (a k) (b k) (c k) (U k) (O k)=true
def stF(a b c:Cg)(d:Int):Nat->Nat->Int
 | 0=>sg0
 |k+1=>if OE d k then sld (stF a b c d k) (a k) (b k) (c k) else stF a b c d k
theorem iW:VT VU 124 Ql7:=by
 refine ⟨(UM Tryz.func124),?_⟩;intro avs ns res h hn;unfold Ql7 at h;split at h;cases h;rename_i s0 s1 s2 s3 s4 s5 a b c U O;refine Wk0 (UE [s0,s1,s2,s3,s4,s5]) a b c U O ?_ (hn _ VY) (hn _ VY) (hn _ VY) (hn _ VY);intro k hk
 match k,hk with
 | 0,_=>exact hn (-1000000<=s0/\s0<=1000000) VY
 | 1,_=>exact hn (-1000000<=s1/\s1<=1000000) VY
 | 2,_=>exact hn (-1000000<=s2/\s2<=1000000) VY
 | 3,_=>exact hn (-1000000<=s3/\s3<=1000000) VY
 | 4,_=>exact hn (-1000000<=s4/\s4<=1000000) VY
 | 5,_=>exact hn (-1000000<=s5/\s5<=1000000) VY
 cases h
theorem upd6(F:Cg)(a b c:Int)(q:Nat)(hq:q<6):
  UX 5 (sld (UE [F 0,F 1,F 2,F 3,F 4,F 5]) a b c 5) (UX 4 (sld (UE [F 0,F 1,F 2,F 3,F 4,F 5]) a b c 4) (UX 3 (sld (UE [F 0,F 1,F 2,F 3,F 4,F 5]) a b c 3)
   (UX 2 (sld (UE [F 0,F 1,F 2,F 3,F 4,F 5]) a b c 2) (UX 1 (sld (UE [F 0,F 1,F 2,F 3,F 4,F 5]) a b c 1) (UX 0 (sld (UE [F 0,F 1,F 2,F 3,F 4,F 5]) a b c 0) F))))) q=sld F a b c q:=by
 match q,hq with
 | 0,_=>rfl
 | 1,_=>rfl
 | 2,_=>rfl
 | 3,_=>rfl
 | 4,_=>rfl
 | 5,_=>rfl
theorem Za7(F:Cg)(x0 x1 x2 x3 x4 x5:Int)(q:Nat)(hq:q<6):
  UX 5 x5 (UX 4 x4 (UX 3 x3 (UX 2 x2 (UX 1 x1 (UX 0 x0 F))))) q=UE [x0,x1,x2,x3,x4,x5] q:=by
 match q,hq with
 | 0,_=>rfl
 | 1,_=>rfl
 | 2,_=>rfl
 | 3,_=>rfl
 | 4,_=>rfl
 | 5,_=>rfl
theorem Qf3{n:Nat}{a b c U O:Cg}(h:sV n a b c U O){k:Nat}(hk:k<n):(0<=a k/\a k<=3)/\(0<=b k/\b k<=3)/\a k≠b k/\(1<=c k/\c k<=1000)/\(0<=U k/\U k<=100)/\(0<=O k/\O k<=100)/\U k<=O k:=Xn0.1 (h.2 k hk)
theorem Wg6{n:Nat}{a b c U O:Cg}(h:sV n a b c U O)(d:Int): ∀k,k<=n-> ∀j,-(1000*k:Int)<=stF a b c d k j/\stF a b c d k j<=10+1000*k
 | 0,_,j=>by
  simp only [stF,sg0];split<;>omega
 |k+1,hk,j=>by
  obtain ⟨_,_,h3,h4,_⟩:=Qf3 h (show k<n by omega)
  have ih:=Wg6 h d k VO j;simp only [stF];split
  ·unfold sld
   repeat' split
   all_goals omega
  omega
theorem Zn3{n:Nat}{a b c U O:Cg}(h:sV n a b c U O)(d:Int){k:Nat}(hk:k<=n)(j:Nat): -1000000<=stF a b c d k j/\stF a b c d k j<=1000000:=by
 have:=Wg6 h d k hk j;have:=h.1;omega
abbrev QQ(n:Nat)(a:Cg)(b:Cg)(c:Cg)(U:Cg)(O:Cg)(ea:AV)(la:AV):AV:=AV.ro [iI 4,iI 10,Q0 n a b c U O,ea,la]
section
variable (ea la:AV)(n:Nat)(a b c U O:Cg)(d:Int)
def Jb1:St:={σ:=[QQ n a b c U O ea la,iI d,top,top,ptr 0 0,ptr 6 0]++HR 11 [Q0 n a b c U O,iI (n:Int)]++HR 13 [],m:=[(6,GU.ints 182 [] 6 λa=>UX 5 (0:Int) (UX 4 (0:Int) (UX 3 (0:Int) (UX 2 (0:Int) (UX 1 (0:Int) (UX 0 (10:Int) (BY Q3)))))) a),(0,GU.ints 182 [] 6 λa=>(0:Int))],nx:=15}
noncomputable def Kb8:Code:=UD (VX (UB Tryz.f86) 0)
def Wp6(k:Nat):St:={σ:=H4 [(6,.top),(7,.top),(19,i k)] (Jb1 ea la n a b c U O d).σ,m:=[(6,.ints 182 [] 6 (stF a b c d (k))),(0,.ints 182 [] 6 (λ_=>0))],nx:=15}
def EM(k:Nat):G8->Option St
 | .exit 0=>some {σ:=H4 [(6,.top),(7,.top),(19,i n)] (Jb1 ea la n a b c U O d).σ,m:=[(6,.ints 182 [] 6 (stF a b c d (n))),(0,.ints 182 [] 6 (λ_=>0))],nx:=15}
 |_=>none
def Jw7:CT:= .leaf (.exit 0,(EM ea la n a b c U O d 0 (.exit 0)).getD (Jb1 ea la n a b c U O d))
def Zf4:UN:=(HI (Wp6 ea la n a b c U O d (0)) (Jw7 ea la n a b c U O d))
end
abbrev ZO(n:Nat)(a:Cg)(b:Cg)(c:Cg)(U:Cg)(O:Cg)(ea:AV)(la:AV):Prop:=QQ n a b c U O ea la=QQ n a b c U O ea la
section
variable (ea la:AV)(n:Nat)(a b c U O:Cg)(d:Int)
theorem Jj5(VW:sV n a b c U O)(UG:0<=d/\d<256):GD VU (.loop Kb8) (Zf4 ea la n a b c U O d):=by
 refine HO (L:=[]) (Ae AZ (Ae iW (Ae S3 Aa))) U3 U7 (X:=Nat) (Wp6 ea la n a b c U O d) (λk=>k<=n) (λk=>n-k) (EM ea la n a b c U O d) (x0:=0) VO ?_ ?_ ?_;rintro k;kernel_rfl;rintro k y E h;unfold EM at h;split at h;cases h;kernel_rfl;cases h;rintro Q hQ k hx;refine ⟨(k+1),?_⟩;(with_reducible refine DG (t:=let z1:=stF a b c d k;let W:=(UE [z1 0,z1 1,z1 2,z1 3,z1 4,z1 5]);(branch (decide ((k:Int)<(n:Int))) (need [UO k n] (need [(0:Int)<=(k:Int)/\(k:Int)<=64] (branch (OE d k) (need [6<=6] (need [(-1000000:Int)<=z1 0/\z1 0<=1000000,(-1000000:Int)<=z1 1/\z1 1<=1000000,(-1000000:Int)<=z1 2/\z1 2<=1000000,(-1000000:Int)<=z1 3/\z1 3<=1000000,(-1000000:Int)<=z1 4/\z1 4<=1000000,(-1000000:Int)<=z1 5/\z1 5<=1000000,(0:Int)<=a k/\a k<=3,(0:Int)<=b k/\b k<=3,a k≠b k,(1:Int)<=c k/\c k<=1000] (need [0+List.length [sld W (a k) (b k) (c k) 0,sld W (a k) (b k) (c k) 1,sld W (a k) (b k) (c k) 2,sld W (a k) (b k) (c k) 3,sld W (a k) (b k) (c k) 4,sld W (a k) (b k) (c k) 5]<=6] (need [VQ ((k:Int)+1)] (need [ZO n a b c U O ea la,d=d,QO,YR,W2 n a b c U O,U4 (n:Int),(k:Int)+1=(↑(k+1):Int),6=6,GZ 6 (UX 5 (sld W (a k) (b k) (c k) 5) (UX 4 (sld W (a k) (b k) (c k) 4) (UX 3 (sld W (a k) (b k) (c k) 3) (UX 2 (sld W (a k) (b k) (c k) 2) (UX 1 (sld W (a k) (b k) (c k) 1) (UX 0 (sld W (a k) (b k) (c k) 0) (z1))))))) (stF a b c d (k+1)),6=6,∀(k:Nat),k<6->(0:Int)=0] (leaf G8.normal)))))) (need [VQ ((k:Int)+1)] (need [ZO n a b c U O ea la,d=d,QO,YR,W2 n a b c U O,U4 (n:Int),(k:Int)+1=(↑(k+1):Int),6=6,GZ 6 z1 (stF a b c d (k+1)),6=6,∀(k:Nat),k<6->(0:Int)=0] (leaf G8.normal)))))) (need [ZO n a b c U O ea la,d=d,QO,YR,W2 n a b c U O,U4 (n:Int),(k:Int)=(n:Int),6=6,GZ 6 z1 (stF a b c d n),6=6,∀(k:Nat),k<6->(0:Int)=0] (leaf (G8.exit 0))))) VZ ?_);simp only [Jw7,EM,VR.sat,GW] at hQ;simp only [VR.sat,UF,G6,GQ,UH,VQ,UK,H6,FW,FZ,RP,GR,EM]
 have h8:=VW.1;refine ⟨λh=>?_,λh=>?_⟩;have hs:=Qf3 VW (show k<n by omega)
 have hl:=Zn3 VW d (show k<=n by omega)
 cases hb:OE d k
 ·(with_reducible repeat' first|apply Al|intro _)
  all_goals first|exact LN|(first|contradiction|(simp [stF,hb]))
 ·(with_reducible repeat' first|apply Al|intro _)
  all_goals first|exact LN|(first|contradiction|exact (hl _).1|exact (hl _).2|(simp only [stF,hb,if_true];exact upd6 _ _ _ _ _ (by assumption)))
 obtain rfl:k=n:=VO;exact V1
theorem s6(VW:sV n a b c U O)(UG:0<=d/\d<256):U2 VU 86 [.ro [i 4,i 10,sls n a b c U O,ea,la],i d] (sgs (stF a b c d n)):=by
 refine U6 (L:=[Zf4 ea la n a b c U O d]) (Ae AZ (Ae iW (Ae S3 Aa))) U3 Tryz.func86 (UW Tryz.f86) (G0 (lpE (b:= .loop Kb8) VZ<|Jj5 ea la n a b c U O d VW UG)) (t:=let z1:=stF a b c d n;let W:=(UX 4 (z1 4) (UX 3 (z1 3) (UX 2 (z1 2) (UX 1 (z1 1) (UX 0 (z1 0) λx=>(0:Int))))));(need [6<=6] (need [ZO n a b c U O ea la,d=d,QO,YR,W2 n a b c U O,U4 (n:Int),(0:Int)=((0:Nat):Int),6=6,GZ 6 (UX 5 (0:Int) (UX 4 (0:Int) (UX 3 (0:Int) (UX 2 (0:Int) (UX 1 (0:Int) (UX 0 (10:Int) (BY Q3))))))) (stF a b c d 0),6=6,∀(k:Nat),k<6->(0:Int)=0] (need [6<=6] (need [0+List.length [z1 0,z1 1,z1 2,z1 3,z1 4,z1 5]<=6] (leaf (RV.agg [RV.x (.int .i64 (UX 5 (z1 5) W 0)),RV.x (.int .i64 (UX 5 (z1 5) W 1)),RV.x (.int .i64 (UX 5 (z1 5) W 2)),RV.x (.int .i64 (UX 5 (z1 5) W 3)),RV.x (.int .i64 (UX 5 (z1 5) W 4)),RV.x (.int .i64 (UX 5 (z1 5) W 5))]))))))) VZ ?_
 simp only [VR.sat,UF,G6,GQ,UH,UK]
 (with_reducible repeat' first|apply Al|intro _)
 all_goals first|exact Ak|omega|with_reducible rfl|rfl|(simp;done)|skip
 rename_i q hq;rw [Za7 _ _ _ _ _ _ _ q hq]
 match q,hq with
 | 0,_=>rfl
 | 1,_=>rfl
 | 2,_=>rfl
 | 3,_=>rfl
 | 4,_=>rfl
 | 5,_=>rfl
end
section
variable (n:Nat)(a b c U O:Cg)
def rP:G4
 |[.ro [.x (.int .i64 4),.x (.int .i64 10),.lst 5 n1 f1,ea,la],.x (.int .i64 d)]=>some ([lst 5 n1 f1=sls n a b c U O,0<=d/\d<256],sgs (stF a b c d n))
 |_=>none
theorem wL(VW:sV n a b c U O):VT VU 86 (rP n a b c U O):=by
 refine ⟨(UM Tryz.func86),?_⟩;intro avs ns res h hn;unfold rP at h;split at h;cases h;rename_i n1 f1 ea la d;have e:=hn _ GN;rw [e];exact s6 ea la n a b c U O d VW (hn _ VY);cases h
end
theorem hO{n:Nat}(h:n<=8):(1:Int)<=2^n/\(2:Int)^n<=256:=by
 rcases (show n=0\/n=1\/n=2\/n=3\/n=4\/n=5\/n=6\/n=7\/n=8 by omega) with rfl|rfl|rfl|rfl|rfl|rfl|rfl|rfl|rfl<;>decide
def NC:G4
 |[.ro [.x (.int .i64 4),.x (.int .i64 10),.lst 5 n f,ea,la]]=>some ([n<=8],i (2^n-1))
 |_=>none
theorem Qr8(ea la:AV)(n:Nat)(f:Ci)(VW:n<=8):U2 VU 84 [.ro [i 4,i 10,.lst 5 n f,ea,la]] (i (2^n-1)):=by
 refine H0 Tryz.func84 (t:=need [(0:Int)<=(n:Int)/\(n:Int)<=64,VQ ((1:Int)*2^n)] (need [VQ ((1:Int)*2^n-1)] (leaf (RV.x (.int .i64 ((1:Int)*2^n-1)))))) VZ ?_;simp only [VR.sat,UF,G6,GQ,UH,UK,Int.one_mul,VQ];have h:=hO VW;omega
theorem LR:VT VU 84 NC:=by
 refine ⟨(UM Tryz.func84),?_⟩;intro avs ns res h hn;unfold NC at h;split at h;cases h;exact Qr8 _ _ _ _ (hn _ VY);cases h
def GG(p:Nat->Bool):Nat->Nat
 | 0=>0
 |k+1=>GG p k+(match p k with|true=>1|false=>0)
def UZ(p:Nat->Bool)(n q:Nat):Nat:=H2 (λj=>p j&&Nat.beq (GG p j) q) n
def st6(F:Cg):Cg:=UX 5 (F 5) (UX 4 (F 4) (UX 3 (F 3) (UX 2 (F 2) (UX 1 (F 1) (UX 0 (F 0) (BY [0,0,0,0,0,0]))))))
def quB(n:Nat)(a b c:Cg)(d:Int)(j:Nat):Bool:= !OE d j&&decide (stF a b c d n (a j).toNat>=c j)
def saV(a b c U O:Cg)(j:Nat):List Value:=[.int .i64 j,.agg #[.int .i64 (a j),.int .i64 (b j),.int .i64 (c j),.int .i64 (U j),.int .i64 (O j)]]
def quV(n:Nat)(a b c U O:Cg)(d:Int)(q:Nat):List Value:=saV a b c U O (UZ (quB n a b c d) n q)
def quN(n:Nat)(a b c:Cg)(d:Int):Nat:=GG (quB n a b c d) n
theorem Zn4(F:Cg){q:Nat}(hq:q<6):st6 F q=F q:=by
 unfold st6;rw [Za7 _ _ _ _ _ _ _ q hq]
 match q,hq with
 | 0,_=>rfl
 | 1,_=>rfl
 | 2,_=>rfl
 | 3,_=>rfl
 | 4,_=>rfl
 | 5,_=>rfl
theorem T9(p:Nat->Bool){b c:Nat}(h:b<=c):GG p b<=GG p c:=by
 induction h with
 |refl=>exact Am _
 |step _ ih=>exact Ar ih (Nat.le_add_right _ _)
section
variable {p:Nat->Bool}
theorem FV{k:Nat}(h:p k=true):GG p (k+1)=GG p k+1:=by
 simp only [GG,h]
theorem L3{k:Nat}(h:p k=false):GG p (k+1)=GG p k:=by
 simp only [GG,h,Bg]
theorem wJ{n k:Nat}(hk:k<n)(h:p k=true):UZ p n (GG p k)=k:=by
 refine jJ hk ?_ λj hj=>?_;simp [h];cases hp:p j;rfl;have h1:=FV hp;have h2:=T9 p (show j+1<=k by omega)
 simp only [Bool.true_and];cases hb:Nat.beq (GG p j) (GG p k);rfl;have:=H5 hb;omega
end
theorem cE(p:Nat->Bool): ∀k,GG p k<=k
 | 0=>Am 0
 |k+1=>by
  have:=cE p k;unfold GG;split<;>omega
theorem nE{p:Nat->Bool}: ∀{k q:Nat},q<GG p k-> ∃j,j<k/\p j=true/\GG p j=q
 | 0,q,h=>absurd h (by simp [GG])
 |k+1,q,h=>by
  rcases An q (GG p k) with h1|h1;obtain ⟨j,hj,h2⟩:=nE h1;exact ⟨j,VO,h2⟩;cases hp:p k;rw [L3 hp] at h;omega;rw [FV hp] at h;exact ⟨k,VO,hp,VO⟩
theorem gP{p:Nat->Bool}{n q:Nat}(h:q<GG p n):UZ p n q<n/\p (UZ p n q)=true:=by
 obtain ⟨j,hj,hp,hc⟩:=nE h;rw [←hc,wJ hj hp];exact ⟨hj,hp⟩
def CC:G4
 |[.ro [.x (.int .i64 4),.x (.int .i64 10),.lst 5 n f,ea,la],.x (.int .i64 d)]=>some ([],.fn (.func 164) [] [.ro [.ro [i 4,i 10,.lst 5 n f,ea,la]],.ro [i d]])
 |_=>none
theorem Wk3(ea la:AV)(n:Nat)(f:Ci)(d:Int):FJ VU 121 [.ro [i 4,i 10,.lst 5 n f,ea,la],i d] (.fn (.func 164) [] [.ro [.ro [i 4,i 10,.lst 5 n f,ea,la]],.ro [i d]]):=by
 refine D6 (L:=[]) Aa Ad U3 Tryz.func121 (UW Tryz.f121) G9 (t:=leaf (AV.fn (Fn.func 164) [] [AV.ro [AV.ro [iI 4,iI 10,lst 5 n λa=>f a,ea,la]],AV.ro [iI d]])) VZ ?_;exact rfl
theorem S2:PE VU 121 CC:=by
 refine ⟨(UM Tryz.func121),?_⟩;intro avs ns res h hn;unfold CC at h;split at h;cases h;exact Wk3 _ _ _ _ _;cases h
section
variable (l:Nat)(ea la:AV)(n:Nat)(a b c U O:Cg)(d:Int)
def Xk2:St:={σ:=[AV.fn (Fn.yield l) [] [],AV.ro [QQ n a b c U O ea la],AV.ro [iI d],top,ptr 3 0]++HR 9 [Q0 n a b c U O,iI (n:Int)]++HR 26 [],m:=[(3,GU.ints 182 [] 6 λa_1=>UX 5 (stF a b c d n 5) (UX 4 (stF a b c d n 4) (UX 3 (stF a b c d n 3) (UX 2 (stF a b c d n 2) (UX 1 (stF a b c d n 1) (UX 0 (stF a b c d n 0) (BY Q3)))))) a_1)],nx:=12,gh:=some 0}
noncomputable def Je2:Code:=UD (VX (UB Tryz.f164) 0)
def bN(k:Nat):St:={σ:=H4 [(4,.roI [] 6 (st6 (stF a b c d n)) 0),(5,.top),(6,.top),(16,i k)] (Xk2 l ea la n a b c U O d).σ,m:=[],nx:=12,gh:=some (GG (quB n a b c d) k) }
def kM(k:Nat):G8->Option St
 | .exit 0=>some {σ:=H4 [(4,.roI [] 6 (st6 (stF a b c d n)) 0),(5,.top),(6,.top),(16,i n)] (Xk2 l ea la n a b c U O d).σ,m:=[],nx:=12,gh:=some (quN n a b c d) }
 | .ret=>some {σ:=H4 [(4,.roI [] 6 (st6 (stF a b c d n)) 0),(5,.top),(6,.top),(16,.top)] (Xk2 l ea la n a b c U O d).σ,m:=[],nx:=12,gh:=none}
 |_=>none
def Jx6:CT:= .may True (.leaf (.exit 0,(kM l ea la n a b c U O d 0 (.exit 0)).getD (Xk2 l ea la n a b c U O d))) (.leaf (.ret,(kM l ea la n a b c U O d 0 .ret).getD (Xk2 l ea la n a b c U O d)))
def Zg4:UN:=GO [(.slot 4,3,182,1)] (HI (bN l ea la n a b c U O d (0)) (Jx6 l ea la n a b c U O d))
end
abbrev ZU(a:Cg)(b:Cg)(c:Cg)(d:Int)(n:Nat):Prop:=roI [] 6 (λa_1=>st6 (stF a b c d n) a_1) 0=roI [] 6 (λa_1=>st6 (stF a b c d n) a_1) 0
abbrev Y3(d:Int):Prop:=AV.ro [iI d]=AV.ro [iI d]
abbrev YC(n:Nat)(a:Cg)(b:Cg)(c:Cg)(U:Cg)(O:Cg)(ea:AV)(la:AV):Prop:=AV.ro [QQ n a b c U O ea la]=AV.ro [QQ n a b c U O ea la]
theorem Jn1(l:Nat)(ea la:AV)(n:Nat)(a b c U O:Cg)(d:Int)(VW:sV n a b c U O)(UG:0<=d/\d<256){cx:Cx}(hX:U0 VU {Y:=some (l,(quN n a b c d),(quV n a b c U O d)) } cx):HQ VU none cx (.loop Je2) (Zg4 l ea la n a b c U O d):=by
 refine F7 [(.slot 4,3,182,1)] (L:=[]) (Ae AZ (Ae (wL n a b c U O VW) Aa)) hX U3 G9 (V:=Nat) (bN l ea la n a b c U O d) (λk=>k<=n) (λk=>n-k) (kM l ea la n a b c U O d) (x0:=0) VY ?_ ?_ ?_;rintro k;kernel_rfl;rintro k y E h;unfold kM at h;split at h;cases h;kernel_rfl;cases h;kernel_rfl;cases h;rintro Q hQ k hx;refine ⟨(k+1),?_⟩;have e:HW VU [(123,Qc0),(86,(rP n a b c U O))] {Y:=some (l,(quN n a b c d),(quV n a b c U O d)) } [] [(.slot 4,3,182,1)] Je2 (bN l ea la n a b c U O d k) (bN l ea la n a b c U O d ((k+1))) (kM l ea la n a b c U O d k)=(let z3:=YC n a b c U O ea la;let z2:=quB n a b c d;let W:=(need [VQ ((k:Int)+1)] (need [W6 l,z3,Y3 d,ZU a b c d n,W2 n a b c U O,U4 (n:Int),(k:Int)+1=(↑(k+1):Int),GG (z2) k=GG (z2) (k+1)] (leaf G8.normal)));let z1:=(UZ (z2) n (GG (z2) k));(branch (decide ((k:Int)<(n:Int))) (need [UO k n] (need [(0:Int)<=(k:Int)/\(k:Int)<=64] (branch (!OE d k) (need [UO (a k) 6] (need [(a k).toNat*1+0<6] (branch (decide (st6 (stF a b c d n) ((a k).toNat*1+0)>=c k)) (need [l=l,GG (z2) k<quN n a b c d,[Value.int IntKind.i64 (k:Int),Value.agg {toList:=[Value.int IntKind.i64 (a k),Value.int IntKind.i64 (b k),Value.int IntKind.i64 (c k),Value.int IntKind.i64 (U k),Value.int IntKind.i64 (O k)] }]=[Value.int IntKind.i64 (z1:Int),Value.agg {toList:=[Value.int IntKind.i64 (a z1),Value.int IntKind.i64 (b z1),Value.int IntKind.i64 (c z1),Value.int IntKind.i64 (U z1),Value.int IntKind.i64 (O z1)] }]] (VR.may True (need [VQ ((k:Int)+1)] (need [W6 l,z3,Y3 d,ZU a b c d n,W2 n a b c U O,U4 (n:Int),(k:Int)+1=(↑(k+1):Int),GG (z2) k+1=GG (z2) (k+1)] (leaf G8.normal))) (need [W6 l,z3,Y3 d,ZU a b c d n,W2 n a b c U O,U4 (n:Int)] (leaf G8.ret)))) W))) W))) (need [W6 l,z3,Y3 d,ZU a b c d n,W2 n a b c U O,U4 (n:Int),(k:Int)=(n:Int),GG (z2) k=quN n a b c d] (leaf (G8.exit 0))))):=VZ;rw [e];simp only [Jx6,kM,VR.sat,GW] at hQ;have hQ1: ∀E,kM l ea la n a b c U O d k (.exit 0)=some E->Q (.exit 0,E):=λE hE=>by cases hE;exact hQ.1 trivial
 have hQ2: ∀E,kM l ea la n a b c U O d k .ret=some E->Q (.ret,E):=λE hE=>by cases hE;exact hQ.2
 simp only [VR.sat,UF,UK,H6,VQ,DR];clear e hQ;have h8:=VW.1;have hX:(a k).toNat*1+0=(a k).toNat:=VO;rw [hX];refine ⟨λh=>?_,λh=>?_⟩;have hk:k<n:=VO;have hs:=Qf3 VW hk;have hno:quB n a b c d k=false->GG (quB n a b c d) k=GG (quB n a b c d) (k+1):=λh=>(L3 h).symm;rw [Zn4 _ (show (a k).toNat<6 by omega)]
 refine ⟨VO,VO,λh1=>⟨VO,VO,λh2=>?_,λh2=>?_⟩,λh1=>?_⟩
 ·have hq:quB n a b c d k=true:=by
   unfold quB;rw [h1,decide_eq_true h2];rfl
  have hy:=FV hq;have hm:=T9 (quB n a b c d) (show k+1<=n by omega)
  rw [wJ hk hq]
  (with_reducible repeat' first|apply Al|intro _)
  all_goals first|exact Ak|(simp only [quN];omega)|omega|rfl|exact hQ1 _ (by assumption)|exact hQ2 _ (by assumption)
 ·have hq:quB n a b c d k=false:=by
   unfold quB;rw [decide_eq_false h2,Bool.and_false]
  have hy:=L3 hq;all_goals exact V8
 ·have hq:quB n a b c d k=false:=by
   unfold quB;rw [h1];rfl
  have hy:=L3 hq;all_goals exact V8
 ·obtain rfl:k=n:=VO;all_goals exact V8
theorem uH(ea la:AV)(n:Nat)(a b c U O:Cg)(d:Int)(VW:sV n a b c U O)(UG:0<=d/\d<256):PZ Tryz.prog 164 [.ro [.ro [i 4,i 10,sls n a b c U O,ea,la]],.ro [i d]] ((quN n a b c d)) (quV n a b c U O d):=by
 refine PM (L:=λl=>[Zg4 l ea la n a b c U O d]) (Ae AZ (Ae (wL n a b c U O VW) Aa)) U3 (UM Tryz.func164) Tryz.func164 (UW Tryz.f164) VZ (λl cx hX=>G0 (lpE (b:= .loop Je2) VZ<|Jn1 l ea la n a b c U O d VW UG hX)) (t:=λl=>(let W:=stF a b c d n;(need [W2 n a b c U O,(0:Int)<=d/\d<256] (need [0+List.length [W 0,W 1,W 2,W 3,W 4,W 5]<=6] (need [U4 (AV.fn (Fn.yield l) [] []),YC n a b c U O ea la,Y3 d,roI [] 6 (λa_1=>UX 5 (W 5) (UX 4 (W 4) (UX 3 (W 3) (UX 2 (W 2) (UX 1 (W 1) (UX 0 (W 0) (BY Q3)))))) a_1) 0=roI [] 6 (λa_1=>st6 (W) a_1) 0,W2 n a b c U O,U4 (n:Int),(0:Int)=((0:Nat):Int),0=GG (quB n a b c d) 0] (VR.may True (need [U4 (quN n a b c d)] (leaf PUnit.unit)) (leaf PUnit.unit))))))) (λl=>VZ) ?_
 intro l;simp only [VR.sat,UF,G6,GQ,UH,UK];exact ⟨UG,VY,⟨rfl,rfl,rfl⟩,λ_=>trivial⟩
noncomputable def Qp1:D9:=AU Tryz.prog [] {} [] Tryz.f121 (UB Tryz.f121)
theorem fI:GH VU 121 Qp1:=
 RT (G:=[]) (X:=W5) (L:=[]) Aa Ad U3 (UM Tryz.func121) Tryz.func121 (UW Tryz.f121) U7
section
variable (n:Nat)
abbrev ZG:AV:=iI ((2:Int)^n-1+1)
abbrev ZV(a:Cg)(b:Cg)(c:Cg)(U:Cg)(O:Cg):List AV:=[iI 4,iI 10,Q0 n a b c U O]
abbrev KT(a:Cg)(b:Cg)(c:Cg)(U:Cg)(O:Cg):List AV:=[iI 4,iI 10,Q0 n a b c U O,AV.row 901,AV.row 902]
abbrev YA:GU:=GU.row 3 1 0 λx=>[]
abbrev YJ:GU:=GU.cells 144 [ptr 4 0]
def Jc1(a b c U O:Cg):St:={σ:=[agg (ZV n a b c U O),ptr 0 0,QD,ptr 5 0]++HR 14 [ZG n]++HR 140 [],m:=[(902,YA),(901,YA),(5,YJ),(4,GU.cells 231 (KT n a b c U O)),(0,GU.cells 84 (ZV n a b c U O))],nx:=903}
noncomputable def Kc9:Code:=UD (VX (UB Tryz.f82) 0)
def Wr0(a b c U O:Cg)(k:Nat):St:={σ:=H4 [(19,i k)] (Jc1 n a b c U O).σ,m:=[(902,.row 3 1 (k) (λz=>[i ((λ_=> -1) z)])),(901,.row 3 1 (k) (λz=>[i ((λ_=>101) z)])),(5,.cells 144 [.ptr 4 0]),(4,.cells 231 [i 4,i 10,sls n a b c U O,.row 901,.row 902]),(0,.cells 84 [i 4,i 10,sls n a b c U O])],nx:=903}
def EW(a b c U O:Cg)(k:Nat):G8->Option St
 | .exit 0=>some {σ:=H4 [(19,i (2^n))] (Jc1 n a b c U O).σ,m:=[(902,.row 3 1 (2^n) (λz=>[i ((λ_=> -1) z)])),(901,.row 3 1 (2^n) (λz=>[i ((λ_=>101) z)])),(5,.cells 144 [.ptr 4 0]),(4,.cells 231 [i 4,i 10,sls n a b c U O,.row 901,.row 902]),(0,.cells 84 [i 4,i 10,sls n a b c U O])],nx:=903}
 |_=>none
def Jy3(a b c U O:Cg):CT:= .leaf (.exit 0,(EW n a b c U O 0 (.exit 0)).getD (Jc1 n a b c U O))
abbrev K4:List (Pl×Nat×TypeId×Nat):=[(.cell 4 3,0,0,1),(.cell 4 4,0,0,1),(.cell 4 3,901,3,1),(.cell 4 4,902,3,1)]
def Zh3(a b c U O:Cg):UN:=GO K4 (HI (Wr0 n a b c U O (0)) (Jy3 n a b c U O))
abbrev QG:Prop:=(2:Int)^n-1+1=2^n-1+1
abbrev QP(a:Cg)(b:Cg)(c:Cg)(U:Cg)(O:Cg):Prop:=agg (ZV n a b c U O)=agg (ZV n a b c U O)
abbrev QZ:Prop:=(4:Int)=4
abbrev WC:Prop:=(10:Int)=10
abbrev WI:Prop:=AV.row 902=AV.row 902
abbrev ZZ:List AV:=[iI 101]
abbrev YN:Ci:=λz=>[iI (-1:Int)]
theorem Jp1(a b c U O:Cg)(VW:sV n a b c U O):GD VU (.loop Kc9) (Zh3 n a b c U O):=by
 refine jD K4 (L:=[]) (Ae LR Aa) U3 U7 (X:=Nat) (Wr0 n a b c U O) (λk=>k<=2^n) (λk=>2^n-k) (EW n a b c U O) (x0:=0) VY ?_ ?_ ?_;rintro k;kernel_rfl;rintro k y E h;unfold EW at h;split at h;cases h;kernel_rfl;cases h;rintro Q hQ k hx;refine ⟨(k+1),?_⟩;(with_reducible refine DG (t:=let W:=(need [VQ ((k:Int)+1)] (need [QP n a b c U O,QO,QD=QD,ZN,QG n,(k:Int)+1=(↑(k+1):Int),k+1=k+1,GZ (k+1) (GL k (YN) (UA 1 [iI (-1:Int)])) (λi=>[iI (-1:Int)]),k+1=k+1,GZ (k+1) (GL k (λz=>ZZ) (UA 1 ZZ)) (λi=>ZZ),W7,QZ,WC,W2 n a b c U O,W8,WI,QZ,WC,W2 n a b c U O] (leaf G8.normal)));(branch (decide ((k:Int)<2^n-1+1)) (need [(k+1)*8<=140737488355328,∀(i:Nat),i<1-> ∀(a:AV),a∈UA 1 ZZ i->AV.one a=true] (need [(k+1)*8<=140737488355328,RY 1 (UA 1 [iI (-1:Int)])] (VR.may True W (VR.may True W (VR.may True W (VR.may True W W)))))) (need [QP n a b c U O,QO,QD=QD,ZN,QG n,(k:Int)=2^n,k=2^n,∀(i:Nat),i<2^n->[iI (-1:Int)]=[iI (-1:Int)],k=2^n,∀(i:Nat),i<2^n->ZZ=ZZ,W7,QZ,WC,W2 n a b c U O,W8,WI,QZ,WC,W2 n a b c U O] (leaf (G8.exit 0))))) VZ ?_)
 simp only [Jy3,EW,VR.sat,GW] at hQ;simp only [VR.sat,UF,G6,GQ,UH,VQ,UK,H6,FW,FZ,RP,GR,EW]
 have h8:=VW.1;have hp:=hO h8;have hpn:((2^n:Nat):Int)=2^n:=VY;refine ⟨λh=>?_,λh=>?_⟩
 ·have hk:k<2^n:=VO
  (with_reducible repeat' first|apply Al|intro _)
  all_goals first|exact LN|(first|exact FP (by assumption) (by simp [AV.one,Value.oneCell'])|exact Pt.catF1 (a:=λ_=>101) (by assumption) rfl|exact Pt.catF1 (a:=λ_=> -1) (by assumption) rfl)
 obtain rfl:k=2^n:=VO;exact V1
end
def eQ(p:Nat->Bool)(n:Nat)(U O:Cg)(d:Nat)(E:Cg):Nat->Nat->Int
 | 0=>E
 |q+1=>if max (eQ p n U O d E q d) (U (UZ p n q))<=O (UZ p n q) then UX (d ||| 2^UZ p n q) (min (eQ p n U O d E q (d ||| 2^UZ p n q)) (max (eQ p n U O d E q d) (U (UZ p n q)))) (eQ p n U O d E q) else eQ p n U O d E q
def eD(n:Nat)(a b c U O:Cg):Nat->Nat->Int
 | 0=>λk=>if k=0 then 0 else 101
 |d+1=>if eD n a b c U O d d=101 then eD n a b c U O d else eQ (quB n a b c d) n U O d (eD n a b c U O d) (quN n a b c d)
section
variable (n:Nat)(a b c U O:Cg)
noncomputable def Jc0:St:={σ:=[agg (ZV n a b c U O),ptr 0 0,QD,ptr 5 0]++HR 14 [ZG n,iI ((2:Int)^n)]++HR 27 [ZG n]++HR 111 [],m:=[(902,GU.row 3 1 (2^n) λz=>[iI (-1:Int)]),(901,GU.row 3 1 (2^n) λk=>iI (if decide (k=(0:Int).toNat)=true then (0:Int) else (101:Int))::Bool.rec ([]) ([]) (decide (k=(0:Int).toNat))),(5,YJ),(4,GU.keep 231 (KT n a b c U O)),(0,GU.cells 84 (ZV n a b c U O))],nx:=913}
noncomputable def eG:Code:=UD (VX (UB Tryz.f82) 1)
noncomputable def Wq9(d:Nat):St:={σ:=H4 [(4,.top),(48,i d),(5,.top),(6,.top),(7,.top),(8,.top)] (Jc0 n a b c U O).σ,m:=[(902,.row 3 1 (2^n) (λz=>[i ((λ_=> -1) z)])),(901,.row 3 1 (2^n) (λz=>[i ((eD n a b c U O (d)) z)])),(5,.cells 144 [.ptr 4 0]),(4,.keep 231 [i 4,i 10,sls n a b c U O,.row 901,.row 902]),(0,.cells 84 [i 4,i 10,sls n a b c U O])],nx:=903}
noncomputable def EV(d:Nat):G8->Option St
 | .exit 2=>some {σ:=H4 [(4,.top),(48,i (2^n)),(5,.top),(6,.top),(7,.top),(8,.top)] (Jc0 n a b c U O).σ,m:=[(902,.row 3 1 (2^n) (λz=>[i ((λ_=> -1) z)])),(901,.row 3 1 (2^n) (λz=>[i ((eD n a b c U O (2^n)) z)])),(5,.cells 144 [.ptr 4 0]),(4,.keep 231 [i 4,i 10,sls n a b c U O,.row 901,.row 902]),(0,.cells 84 [i 4,i 10,sls n a b c U O])],nx:=903}
 |_=>none
noncomputable def Jy2:CT:= .leaf (.exit 2,(EV n a b c U O 0 (.exit 2)).getD (Jc0 n a b c U O))
noncomputable def Zh2:UN:=GO [(.cell 5 0,0,0,0)] (HI (Wq9 n a b c U O (0)) (Jy2 n a b c U O))
end
theorem qP{n d:Nat}(h8:n<=8)(h:d<2^n):(0:Int)<=d/\(d:Int)<256:=by
 have hp:=hO h8;have hpn:((2^n:Nat):Int)=2^n:=VY;omega
theorem Qg3{n d s:Nat}(h:d<2^n)(hs:s<n):d ||| 2^s<2^n:=Nat.or_lt_two_pow h (Nat.pow_lt_pow_right (by decide) hs)
theorem Wl1{n d s:Nat}(h8:n<=8)(h:d<2^n)(hs:s<n):IntKind.i64.wrap ((BitVec.ofInt 64 (d:Int) ||| BitVec.ofInt 64 (1*2^s)).toNat:Int)=((d ||| 2^s:Nat):Int):=by
 have h2:=qP h8 h;have h3:2^s<2^n:=Nat.pow_lt_pow_right (by decide) hs
 have h4:=qP h8 h3;have e:(1*2^s:Int)=((2^s:Nat):Int):=by rw [Int.one_mul];simp
 rw [e];exact Xo9 VO VO
theorem gW{F:Cg}{v:Int}{q j:Nat}:HJ (decide (j=q)) [i v] [i (F j)]=[i (UX q v F j)]:=by
 unfold UX;by_cases h:j=q;rw [decide_eq_true h,if_pos h];rfl;rw [decide_eq_false h,if_neg h];rfl
abbrev J0:AV:=AV.fn (Fn.func 164) [] [ptr 917 0,ptr 918 0]
section
variable (n:Nat)(a b c U O:Cg)(d:Nat)
def Ka7:St:={σ:=[agg (ZV n a b c U O),ptr 0 0,QD,ptr 5 0,ptr 905 0]++HR 13 [ZG n,iI ((2:Int)^n)]++HR 27 [ZG n,iI (d:Int)]++HR 12 [J0]++HR 97 [],m:=[(918,GU.keep 178 [iI (d:Int)]),(917,GU.keep 144 [ptr 4 0]),(905,GU.cells 178 [iI (d:Int)]),(902,GU.row 3 1 (2^n) λz=>[iI (-1:Int)]),(901,GU.row 3 1 (2^n) λz=>[iI (eD n a b c U O d z)]),(5,YJ),(4,GU.keep 231 (KT n a b c U O)),(0,GU.cells 84 (ZV n a b c U O))],nx:=922}
noncomputable def Ke9:Code:=NW (VX eG 0)
noncomputable def Kc8:Code:=NV (VX eG 0)
def tA(k:Nat):St:={σ:=H4 [(5,.top),(6,.top),(7,.top),(8,.top)] (Ka7 n a b c U O d).σ,m:=[(918,.keep 178 [i d]),(917,.keep 144 [.ptr 4 0]),(905,.cells 178 [i d]),(902,.row 3 1 (2^n) (λz=>[i ((λ_=> -1) z)])),(901,.row 3 1 (2^n) (λz=>[i ((eQ (quB n a b c d) n U O d (eD n a b c U O d) (k)) z)])),(5,.cells 144 [.ptr 4 0]),(4,.keep 231 [i 4,i 10,sls n a b c U O,.row 901,.row 902]),(0,.cells 84 [i 4,i 10,sls n a b c U O])],nx:=922}
def sD(k:Nat):G8->Option St
 | .normal=>some {σ:=H4 [(5,.top),(6,.top),(7,.top),(8,.top)] (Ka7 n a b c U O d).σ,m:=[(918,.keep 178 [i d]),(917,.keep 144 [.ptr 4 0]),(905,.cells 178 [i d]),(902,.row 3 1 (2^n) (λz=>[i ((λ_=> -1) z)])),(901,.row 3 1 (2^n) (λz=>[i ((eQ (quB n a b c d) n U O d (eD n a b c U O d) ((quN n a b c d))) z)])),(5,.cells 144 [.ptr 4 0]),(4,.keep 231 [i 4,i 10,sls n a b c U O,.row 901,.row 902]),(0,.cells 84 [i 4,i 10,sls n a b c U O])],nx:=922}
 |_=>none
def T_kc:CT:= .leaf (.normal,tA n a b c U O d (quN n a b c d))
def Zh1:UN:=GO [(.slot 61,0,0,0)] (HI (tA n a b c U O d (0)) (T_kc n a b c U O d))
end
abbrev XU(n:Nat):Prop:=(2:Int)^n=2^n
theorem Jo9(n:Nat)(a b c U O:Cg)(d:Nat)(VW:sV n a b c U O)(UG:d<2^n):HU VU (.rangeFunc (rfF (VX eG 0)) (xS (VX eG 0)) Ke9 Kc8) (Zh1 n a b c U O d):=by
 refine vP [(.slot 61,0,0,0)] (L:=[]) (Ae F5 (Ae B5 Aa)) Ad U3 U7 (V:=Nat) (tA n a b c U O d) (λk=>k<=(quN n a b c d)) (λk=>k) (sD n a b c U O d) (x0:=0) VY rfl ?_ ?_ ?_ ?_ (g:=164) (caps:=[.ro [.ro [i 4,i 10,sls n a b c U O,.top,.top]],.ro [i d]]) (caps0:=[.ptr 917 0,.ptr 918 0]) VZ VZ (uH .top .top n a b c U O d VW (qP VW.1 UG)) (λ_=>rfl) ?_;rintro k;kernel_rfl;rintro k y E h;unfold sD at h;split at h;cases h;kernel_rfl;cases h;rintro k;rfl;rintro k y E h;unfold sD at h;split at h;cases h;rfl;cases h;rintro Q hQ k hx;refine ⟨λhlt=>⟨(k+1),rfl,?_⟩,λPR=>?_⟩;(with_reducible refine DG (t:=let z1:=(quB n a b c (d:Int));let W:=(BitVec.toNat (BitVec.ofInt 64 (d:Int) ||| BitVec.ofInt 64 ((1:Int)*2^UZ z1 n k)));let z2:=(IntKind.wrap IntKind.i64 (W:Int));let z3:=eD n a b c U O d;let z4:=eQ z1 n U O d;(need [UO d (↑(2^n):Int)] (need [d<2^n] (branch (decide (max (z4 (z3) k d) (U (UZ z1 n k))<=O (UZ z1 n k))) (need [(0:Int)<=(UZ z1 n k:Int)/\(UZ z1 n k:Int)<=64,VQ ((1:Int)*2^UZ z1 n k)] (need [UO (IntKind.wrap IntKind.i64 (W:Int)) (↑(2^n):Int)] (need [Int.toNat z2<2^n] (need [UO (IntKind.wrap IntKind.i64 (W:Int)) (↑(2^n):Int)] (need [Int.toNat z2<2^n] (need [QP n a b c U O,QO,QD=QD,ZN,U4 (ptr 905 0),QG n,XU n,QG n,U4 (d:Int),J0=J0,U4 (d:Int),W7,U4 (d:Int),2^n=2^n,∀(i:Nat),i<2^n->[iI (-1:Int)]=[iI (-1:Int)],2^n=2^n,∀(i:Nat),i<2^n->HJ (decide (i=Int.toNat z2)) [iI (min (z4 (z3) k (Int.toNat z2)) (max (z4 (z3) k d) (U (UZ z1 n k))))] [iI (z4 (z3) k i)]=[iI (z4 (z3) (k+1) i)],W7,QZ,WC,W2 n a b c U O,W8,WI,QZ,WC,W2 n a b c U O] (leaf G8.normal))))))) (need [QP n a b c U O,QO,QD=QD,ZN,U4 (ptr 905 0),QG n,XU n,QG n,U4 (d:Int),J0=J0,U4 (d:Int),W7,U4 (d:Int),2^n=2^n,∀(i:Nat),i<2^n->[iI (-1:Int)]=[iI (-1:Int)],2^n=2^n,∀(i:Nat),i<2^n->[iI (z4 (z3) k i)]=[iI (z4 (z3) (k+1) i)],W7,QZ,WC,W2 n a b c U O,W8,WI,QZ,WC,W2 n a b c U O] (leaf G8.normal)))))) VZ ?_)
 have h8:=VW.1;have hd:=qP h8 UG;have hpn:((2^n:Nat):Int)=2^n:=VY;have hs:=gP hlt;have hor:=Wl1 h8 UG hs.1;have hol:=Qg3 UG hs.1;simp only [VR.sat,UF,UK,hor,DR,H6]
 have hd2:(d:Int)<2^n:=by
  have h:(d:Int)<((2^n:Nat):Int):=Int.ofNat_lt.2 UG
  rwa [hpn] at h
 have Qv7:((d ||| 2^UZ (quB n a b c d) n k:Nat):Int)<2^n:=by
  have h:((d ||| 2^UZ (quB n a b c d) n k:Nat):Int)<((2^n:Nat):Int):=Int.ofNat_lt.2 hol
  rwa [hpn] at h
 have hk1:k+1<=quN n a b c d:=hlt;have h2s:(1:Int)<=2^UZ (quB n a b c d) n k/\(2:Int)^UZ (quB n a b c d) n k<=256:=hO VO;have h64:=hs.1;refine ⟨⟨VO,hd2⟩,UG,λh=>?_,λh=>?_⟩;refine ⟨⟨⟨VO,VO⟩,by simp only [VQ,Int.one_mul];omega⟩,⟨VO,Qv7⟩,hol,⟨VO,Qv7⟩,hol,⟨λ_ _=>trivial,λj hj=>?_⟩,hk1⟩
 simp only [eQ,if_pos h];exact gW;refine ⟨⟨λ_ _=>trivial,λj hj=>?_⟩,hk1⟩;simp only [eQ,if_neg h];have hk:k=quN n a b c d:=VO;subst hk;exact hQ
theorem dB{P:Program}{G:List (Nat×G4)}{E:Ext}{L:List UN}(N:List (Pl×Nat×TypeId×Nat))(hG:VP P G)(hX: ∀cx,U0 P E cx)(GX:P.follows .mixedOrders=true){body:Code}(hL: ∀j cj,VX body j=some cj-> ∀sp,L[j]? =some sp->HU P cj sp)
  {X:Type}(inv:X->St)(I:X->Prop)(μ:X->Nat)(out:X->G8->Option St){t:CT}{x0:X}(h0:I x0)
  (hok: ∀x,Go.Sx.okB (inv x)=true)(wF: ∀x y E,out x y=some E->Go.Sx.okB E=true)
  (round: ∀(Q:G8×St->Prop),t.sat Q-> ∀x,I x-> ∃x',(HW P G E L N body (inv x) (inv x') (out x)).sat (λy=>match y with
   | .normal=>I x'/\μ x'<μ x
   |y=> ∀E,out x y=some E->Q (y,E))):HU P (.loop body) (GO N (HI (inv x0) t)):=
 λcx hf=>F7 N hG (hX cx) GX (λj cj hj sp hsp=>hL j cj hj sp hsp cx hf) inv I μ out h0 hok wF round
theorem dS{P:Program}{c:Code}{t:Nat}{F:Nat->UN}(h: ∀k,HU P c (F k)):HU P c (BQ t F):=by
 intro cx hf n s tr ht Q hQ a w r;unfold BQ at ht;split at ht;exact h _ cx hf n s tr ht Q hQ a w r;cases ht
abbrev JN:List (Nat×G4):=[(84,NC),(88,yI),(87,ND)]
noncomputable abbrev KH:Ext:={R:=[],H:=[(121,Qp1)] }
theorem Jp0(n:Nat)(a b c U O:Cg)(VW:sV n a b c U O):HU VU (.loop eG) (Zh2 n a b c U O):=by
 refine dB [(.cell 5 0,0,0,0)] (L:=[BQ 48 (λd=>FX [d<2^n] (Zh1 n a b c U O d))]) (Ae LR (Ae F5 (Ae B5 Aa))) (Ai Ab (Ag fI Ac)) U3 (G0 (λcj hcj=>by
  have e:VX eG 0=some (.rangeFunc (rfF (VX eG 0)) (xS (VX eG 0)) Ke9 Kc8):=VZ;rw [e] at hcj;cases hcj;exact dS (λd=>BG (λh=>Jo9 n a b c U O d VW h)))) (X:=Nat) (Wq9 n a b c U O) (λd=>d<=2^n) (λd=>2^n-d) (EV n a b c U O) (x0:=0) VY ?_ ?_ ?_
 rintro d;kernel_rfl;rintro d y E h;unfold EV at h;split at h;cases h;kernel_rfl;cases h;rintro Q hQ d hx;refine ⟨(d+1),?_⟩;(with_reducible refine DG (t:=let W:=W2 n a b c U O;let z1:=eD n a b c U O d;(branch (decide ((d:Int)<2^n-1+1)) (need [UO d (↑(2^n):Int)] (need [d<2^n] (branch (z1 d==101) (need [VQ ((d:Int)+1)] (need [QP n a b c U O,QO,QD=QD,ZN,QG n,XU n,QG n,(d:Int)+1=(↑(d+1):Int),2^n=2^n,∀(i:Nat),i<2^n->[iI (-1:Int)]=[iI (-1:Int)],2^n=2^n,∀(i:Nat),i<2^n->[iI (z1 i)]=[iI (eD n a b c U O (d+1) i)],W7,QZ,WC,W,W8,WI,QZ,WC,W] (leaf G8.normal))) (need [d<2^n] (need [QP n a b c U O,QO,QD=QD,ZN,U4 (ptr 905 0),QG n,XU n,QG n,U4 (d:Int),J0=J0,U4 (d:Int),W7,U4 (d:Int),2^n=2^n,∀(i:Nat),i<2^n->[iI (-1:Int)]=[iI (-1:Int)],2^n=2^n,∀(i:Nat),i<2^n->[iI (z1 i)]=[iI (eQ (quB n a b c (d:Int)) n U O d (z1) 0 i)],W7,QZ,WC,W,W8,WI,QZ,WC,W] (need [VQ ((d:Int)+1)] (need [QP n a b c U O,QO,QD=QD,ZN,QG n,XU n,QG n,(d:Int)+1=(↑(d+1):Int),2^n=2^n,∀(i:Nat),i<2^n->[iI (-1:Int)]=[iI (-1:Int)],2^n=2^n,∀(i:Nat),i<2^n->[iI (eQ (quB n a b c (d:Int)) n U O d (z1) (quN n a b c (d:Int)) i)]=[iI (eD n a b c U O (d+1) i)],W7,QZ,WC,W,W8,WI,QZ,WC,W] (leaf G8.normal)))))))) (need [QP n a b c U O,QO,QD=QD,ZN,QG n,XU n,QG n,(d:Int)=2^n,2^n=2^n,∀(i:Nat),i<2^n->[iI (-1:Int)]=[iI (-1:Int)],2^n=2^n,∀(i:Nat),i<2^n->[iI (z1 i)]=[iI (eD n a b c U O (2^n) i)],W7,QZ,WC,W,W8,WI,QZ,WC,W] (leaf (G8.exit 2))))) VZ ?_);simp only [Jy2,EV,VR.sat,GW] at hQ;simp only [VR.sat,UF,G6,GQ,UH,VQ,UK,H6,FW,FZ,RP,GR,EV]
 have h8:=VW.1;have hp:=hO h8;have hpn:((2^n:Nat):Int)=2^n:=VY;refine ⟨λh=>?_,λh=>?_⟩;have hd3:(d:Int)<2^n:=VO;have hd:d<2^n:=by
  have h':(d:Int)<((2^n:Nat):Int):=by rw [hpn];exact hd3
  exact Int.ofNat_lt.1 h'
 have hd2:=qP h8 hd;refine ⟨⟨VO,hd3⟩,hd,λhb=>?_,λhb=>?_⟩;rw [beq_iff_eq] at hb;refine ⟨VO,⟨VO,λ_ _=>trivial,λj hj=>by simp only [eD,if_pos hb]⟩,hd,VO⟩
 rw [beq_eq_false_iff_ne] at hb;refine ⟨hd,⟨λ_ _=>trivial,λj hj=>rfl⟩,VO,⟨VO,λ_ _=>trivial,λj hj=>by simp only [eD,if_neg hb]⟩,hd,VO⟩
 have hd:d=2^n:=by
  have h': ¬(d:Int)<((2^n:Nat):Int):=by rw [hpn];omega
  omega
 subst hd;exact ⟨⟨hpn,λ_ _=>trivial,λj hj=>rfl⟩,λE hE=>by cases hE;exact hQ⟩
def pm(n:Nat):Nat:=2^n-1
def lQ(p:Nat->Bool)(n:Nat)(U O:Cg)(d:Nat)(F:Cg):Nat->Nat->Int
 | 0=>F
 |q+1=>if min (lQ p n U O d F q (d ||| 2^UZ p n q)) (O (UZ p n q))>=U (UZ p n q) then UX d (max (lQ p n U O d F q d) (min (lQ p n U O d F q (d ||| 2^UZ p n q)) (O (UZ p n q)))) (lQ p n U O d F q) else lQ p n U O d F q
def lS(n:Nat)(a b c U O:Cg):Nat->Nat->Int
 | 0=>UX (2^n-1) 101 (λ_=> -1)
 |s+1=>lQ (quB n a b c ((2^n-2-s:Nat):Int)) n U O (2^n-2-s) (lS n a b c U O s) (quN n a b c ((2^n-2-s:Nat):Int))
section
variable (n:Nat)(a b c U O:Cg)
noncomputable def Jb9:St:={σ:=[agg (ZV n a b c U O),ptr 0 0,QD,ptr 5 0]++HR 14 [ZG n,iI ((2:Int)^n)]++HR 27 [ZG n,iI ((2:Int)^n)]++HR 110 [],m:=[(903,GU.cells 178 [iI ((2:Int)^n-1-1)]),(902,GU.row 3 1 (2^n) λk=>iI (if decide (k=((2:Int)^n-1).toNat)=true then (101:Int) else (-1:Int))::Bool.rec ([]) ([]) (decide (k=((2:Int)^n-1).toNat))),(901,GU.row 3 1 (2^n) λz=>[iI (eD n a b c U O (2^n) z)]),(5,YJ),(4,GU.keep 231 (KT n a b c U O)),(0,GU.cells 84 (ZV n a b c U O))],nx:=916}
noncomputable def eF:Code:=UD (VX (UB Tryz.f82) 2)
noncomputable def Wq8(d:Nat):St:={σ:=H4 [(9,.ptr 903 0),(10,.top),(11,.top),(12,.top)] (Jb9 n a b c U O).σ,m:=[(903,.cells 178 [i (((d:Nat):Int)-1)]),(902,.row 3 1 (2^n) (λz=>[i ((lS n a b c U O (2^n-1-(d))) z)])),(901,.row 3 1 (2^n) (λz=>[i ((eD n a b c U O (2^n)) z)])),(5,.cells 144 [.ptr 4 0]),(4,.keep 231 [i 4,i 10,sls n a b c U O,.row 901,.row 902]),(0,.cells 84 [i 4,i 10,sls n a b c U O])],nx:=904}
noncomputable def EU(d:Nat):G8->Option St
 | .exit 6=>some {σ:=H4 [(9,.ptr 903 0),(10,.top),(11,.top),(12,.top)] (Jb9 n a b c U O).σ,m:=[(903,.cells 178 [i (((0:Nat):Int)-1)]),(902,.row 3 1 (2^n) (λz=>[i ((lS n a b c U O (2^n-1-(0))) z)])),(901,.row 3 1 (2^n) (λz=>[i ((eD n a b c U O (2^n)) z)])),(5,.cells 144 [.ptr 4 0]),(4,.keep 231 [i 4,i 10,sls n a b c U O,.row 901,.row 902]),(0,.cells 84 [i 4,i 10,sls n a b c U O])],nx:=904}
 |_=>none
noncomputable def Jy1:CT:= .leaf (.exit 6,(EU n a b c U O (pm n) (.exit 6)).getD (Jb9 n a b c U O))
noncomputable def Zh0:UN:=GO [(.slot 9,903,178,2),(.cell 5 0,0,0,0)] (HI (Wq8 n a b c U O (pm n)) (Jy1 n a b c U O))
abbrev J1:AV:=AV.fn (Fn.func 164) [] [ptr 908 0,ptr 909 0]
def Ka6(d:Nat):St:={σ:=[agg (ZV n a b c U O),ptr 0 0,QD,ptr 5 0]++HR 5 [ptr 903 0]++HR 8 [ZG n,iI ((2:Int)^n)]++HR 27 [ZG n,iI ((2:Int)^n)]++HR 69 [J1]++HR 40 [],m:=[(909,GU.keep 178 [iI ((d:Int)-1)]),(908,GU.keep 144 [ptr 4 0]),(903,GU.cells 178 [iI ((d:Int)-1)]),(902,GU.row 3 1 (2^n) λz=>[iI (lS n a b c U O (2^n-1-d) z)]),(901,GU.row 3 1 (2^n) λz=>[iI (eD n a b c U O (2^n) z)]),(5,YJ),(4,GU.keep 231 (KT n a b c U O)),(0,GU.cells 84 (ZV n a b c U O))],nx:=913}
noncomputable def Ke8:Code:=NW (VX eF 0)
noncomputable def Kc7:Code:=NV (VX eF 0)
def t9(d:Nat)(k:Nat):St:={σ:=H4 [(10,.top),(11,.top),(12,.top)] (Ka6 n a b c U O d).σ,m:=[(909,.keep 178 [i ((d:Int)-1)]),(908,.keep 144 [.ptr 4 0]),(903,.cells 178 [i (((d:Nat):Int)-1)]),(902,.row 3 1 (2^n) (λz=>[i ((lQ (quB n a b c ((d:Int)-1)) n U O (d-1) (lS n a b c U O (2^n-1-d)) (k)) z)])),(901,.row 3 1 (2^n) (λz=>[i ((eD n a b c U O (2^n)) z)])),(5,.cells 144 [.ptr 4 0]),(4,.keep 231 [i 4,i 10,sls n a b c U O,.row 901,.row 902]),(0,.cells 84 [i 4,i 10,sls n a b c U O])],nx:=913}
def sC(d:Nat)(k:Nat):G8->Option St
 | .normal=>some {σ:=H4 [(10,.top),(11,.top),(12,.top)] (Ka6 n a b c U O d).σ,m:=[(909,.keep 178 [i ((d:Int)-1)]),(908,.keep 144 [.ptr 4 0]),(903,.cells 178 [i (((d:Nat):Int)-1)]),(902,.row 3 1 (2^n) (λz=>[i ((lQ (quB n a b c ((d:Int)-1)) n U O (d-1) (lS n a b c U O (2^n-1-d)) ((quN n a b c ((d:Int)-1)))) z)])),(901,.row 3 1 (2^n) (λz=>[i ((eD n a b c U O (2^n)) z)])),(5,.cells 144 [.ptr 4 0]),(4,.keep 231 [i 4,i 10,sls n a b c U O,.row 901,.row 902]),(0,.cells 84 [i 4,i 10,sls n a b c U O])],nx:=913}
 |_=>none
def T_ke(d:Nat):CT:= .leaf (.normal,t9 n a b c U O d (quN n a b c ((d:Int)-1)))
def Zg9(d:Nat):UN:=GO [(.slot 118,0,0,0)] (HI (t9 n a b c U O d (0)) (T_ke n a b c U O d))
abbrev ZT:Prop:=ptr 903 0=ptr 903 0
theorem Jo7(d:Nat)(VW:sV n a b c U O)(UG:1<=d)(HX:d<2^n):HU VU (.rangeFunc (rfF (VX eF 0)) (xS (VX eF 0)) Ke8 Kc7) (Zg9 n a b c U O d):=by
 refine vP [(.slot 118,0,0,0)] (L:=[]) (Ae F5 (Ae B5 Aa)) Ad U3 U7 (V:=Nat) (t9 n a b c U O d) (λk=>k<=(quN n a b c ((d:Int)-1))) (λk=>k) (sC n a b c U O d) (x0:=0) VY rfl ?_ ?_ ?_ ?_ (g:=164) (caps:=[.ro [.ro [i 4,i 10,sls n a b c U O,.top,.top]],.ro [i ((d:Int)-1)]]) (caps0:=[.ptr 908 0,.ptr 909 0]) VZ VZ (uH .top .top n a b c U O ((d:Int)-1) VW (by have:=qP VW.1 HX;omega)) (λ_=>rfl) ?_
 rintro k;kernel_rfl;rintro k y E h;unfold sC at h;split at h;cases h;kernel_rfl;cases h;rintro k;rfl;rintro k y E h;unfold sC at h;split at h;cases h;rfl;cases h;rintro Q hQ k hx;refine ⟨λhlt=>⟨(k+1),rfl,?_⟩,λPR=>?_⟩;(with_reducible refine DG (t:=let W:=(quB n a b c ((d:Int)-1));let z1:=(BitVec.toNat (BitVec.ofInt 64 ((d:Int)-1) ||| BitVec.ofInt 64 ((1:Int)*2^UZ W n k)));let z2:=(lS n a b c U O (2^n-1-d));let z3:=(U4 ((d:Int)-1));let z5:=lQ W n U O;let z4:=(z5 (d-1) z2 k (IntKind.wrap IntKind.i64 (z1:Int)).toNat);(need [(0:Int)<=(UZ W n k:Int)/\(UZ W n k:Int)<=64,VQ ((1:Int)*2^UZ W n k)] (need [UO (IntKind.wrap IntKind.i64 (z1:Int)) (↑(2^n):Int)] (need [(IntKind.wrap IntKind.i64 (z1:Int)).toNat<2^n] (branch (decide (min z4 (O (UZ W n k))>=U (UZ W n k))) (need [UO ((d:Int)-1) (↑(2^n):Int)] (need [((d:Int)-1).toNat<2^n] (need [UO ((d:Int)-1) (↑(2^n):Int)] (need [((d:Int)-1).toNat<2^n] (need [QP n a b c U O,QO,QD=QD,ZN,ZT,QG n,XU n,QG n,XU n,J1=J1,z3,W7,z3,2^n=2^n,∀(i:Nat),i<2^n->HJ (decide (i=((d:Int)-1).toNat)) [iI (max (z5 (d-1) z2 k ((d:Int)-1).toNat) (min z4 (O (UZ W n k))))] [iI (z5 (d-1) z2 k i)]=[iI (z5 (d-1) z2 (k+1) i)],2^n=2^n,∀(i:Nat),i<2^n->[iI (eD n a b c U O (2^n) i)]=[iI (eD n a b c U O (2^n) i)],W7,QZ,WC,W2 n a b c U O,W8,WI,QZ,WC,W2 n a b c U O] (leaf G8.normal)))))) (need [QP n a b c U O,QO,QD=QD,ZN,ZT,QG n,XU n,QG n,XU n,J1=J1,z3,W7,z3,2^n=2^n,∀(i:Nat),i<2^n->[iI (z5 (d-1) z2 k i)]=[iI (z5 (d-1) z2 (k+1) i)],2^n=2^n,∀(i:Nat),i<2^n->[iI (eD n a b c U O (2^n) i)]=[iI (eD n a b c U O (2^n) i)],W7,QZ,WC,W2 n a b c U O,W8,WI,QZ,WC,W2 n a b c U O] (leaf G8.normal))))))) VZ ?_)
 have h8:=VW.1;obtain ⟨D,rfl⟩: ∃D,d=D+1:=⟨d-1,VO⟩;have hD:(((D+1:Nat):Int)-1)=(D:Int):=VO;have hd:D<2^n:=VO;have hdi:=qP h8 hd;have hpn:((2^n:Nat):Int)=2^n:=VY;simp only [hD] at*;have hs:=gP hlt;have hor:=Wl1 h8 hd hs.1;have hol:=Qg3 hd hs.1;simp only [VR.sat,UF,UK,hor,DR,H6,Bi]
 have hd2:(D:Int)<2^n:=by
  have h:(D:Int)<((2^n:Nat):Int):=Int.ofNat_lt.2 hd
  rwa [hpn] at h
 have Qv7:((D ||| 2^UZ (quB n a b c D) n k:Nat):Int)<2^n:=by
  have h:((D ||| 2^UZ (quB n a b c D) n k:Nat):Int)<((2^n:Nat):Int):=Int.ofNat_lt.2 hol
  rwa [hpn] at h
 have hk1:k+1<=quN n a b c D:=hlt;have h2s:(1:Int)<=2^UZ (quB n a b c D) n k/\(2:Int)^UZ (quB n a b c D) n k<=256:=hO VO;have h64:=hs.1;refine ⟨⟨⟨VO,VO⟩,by simp only [VQ,Int.one_mul];omega⟩,⟨VO,Qv7⟩,hol,λh=>?_,λh=>?_⟩
 refine ⟨⟨VO,hd2⟩,hd,⟨VO,hd2⟩,hd,⟨λj hj=>?_,λ_ _=>trivial⟩,hk1⟩;simp only [lQ,if_pos h];exact gW;refine ⟨⟨λj hj=>?_,λ_ _=>trivial⟩,hk1⟩;simp only [lQ,if_neg h];have hk:k=quN n a b c ((d:Int)-1):=VO;subst hk;exact hQ
theorem Jo8(VW:sV n a b c U O):HU VU (.loop eF) (Zh0 n a b c U O):=by
 refine dB [(.slot 9,903,178,2),(.cell 5 0,0,0,0)] (L:=[BQ 117 (λd=>FX [d+1<2^n] (Zg9 n a b c U O (d+1)))]) (Ae LR (Ae F5 (Ae B5 Aa))) (Ai Ab (Ag fI Ac)) U3 (G0 (λcj hcj=>by
  have e:VX eF 0=some (.rangeFunc (rfF (VX eF 0)) (xS (VX eF 0)) Ke8 Kc7):=VZ;rw [e] at hcj;cases hcj;exact dS (λd=>BG (λh=>Jo7 n a b c U O (d+1) VW (Nat.succ_le_succ (Ao _)) h)))) (X:=Nat) (Wq8 n a b c U O) (λd=>d<=pm n) (λd=>d) (EU n a b c U O) (x0:=pm n) (Am _) ?_ ?_ ?_
 rintro d;kernel_rfl;rintro d y E h;unfold EU at h;split at h;cases h;kernel_rfl;cases h;rintro Q hQ d hx;refine ⟨(d-1),?_⟩;(with_reducible refine DG (t:=let W:=(quB n a b c ((↑(((d:Int)-1).toNat+1):Int)-1));let z4:=lS n a b c U O;let z1:=(z4 (2^n-1-(((d:Int)-1).toNat+1)));let z2:=eD n a b c U O;let z3:=W2 n a b c U O;(branch (decide ((d:Int)-1>=(0:Int))) (need [((d:Int)-1).toNat+1<2^n] (need [QP n a b c U O,QO,QD=QD,ZN,ZT,QG n,XU n,QG n,XU n,J1=J1,(d:Int)-1=(↑(((d:Int)-1).toNat+1):Int)-1,W7,(d:Int)-1=(↑(((d:Int)-1).toNat+1):Int)-1,2^n=2^n,∀(i:Nat),i<2^n->[iI (z4 (2^n-1-d) i)]=[iI (lQ W n U O (((d:Int)-1).toNat+1-1) z1 0 i)],2^n=2^n,∀(i:Nat),i<2^n->[iI (z2 (2^n) i)]=[iI (z2 (2^n) i)],W7,QZ,WC,z3,W8,WI,QZ,WC,z3] (need [VQ ((↑(((d:Int)-1).toNat+1):Int)-1-1)] (need [QP n a b c U O,QO,QD=QD,ZN,ZT,QG n,XU n,QG n,XU n,(↑(((d:Int)-1).toNat+1):Int)-1-1=(↑(d-1):Int)-1,2^n=2^n,∀(i:Nat),i<2^n->[iI (lQ W n U O (((d:Int)-1).toNat+1-1) z1 (quN n a b c ((↑(((d:Int)-1).toNat+1):Int)-1)) i)]=[iI (z4 (2^n-1-(d-1)) i)],2^n=2^n,∀(i:Nat),i<2^n->[iI (z2 (2^n) i)]=[iI (z2 (2^n) i)],W7,QZ,WC,z3,W8,WI,QZ,WC,z3] (leaf G8.normal))))) (need [QP n a b c U O,QO,QD=QD,ZN,ZT,QG n,XU n,QG n,XU n,(d:Int)-1=((0:Nat):Int)-1,2^n=2^n,∀(i:Nat),i<2^n->[iI (z4 (2^n-1-d) i)]=[iI (z4 (2^n-1-0) i)],2^n=2^n,∀(i:Nat),i<2^n->[iI (z2 (2^n) i)]=[iI (z2 (2^n) i)],W7,QZ,WC,z3,W8,WI,QZ,WC,z3] (leaf (G8.exit 6))))) VZ ?_);simp only [Jy1,EU,VR.sat,GW] at hQ;simp only [VR.sat,UF,G6,GQ,UH,VQ,UK,H6,FW,FZ,RP,GR,EU]
 have h8:=VW.1;have hpm:pm n=2^n-1:=rfl;rw [hpm] at hx ⊢;have hp:=hO h8;have hpn:((2^n:Nat):Int)=2^n:=VY;refine ⟨λh=>?_,λh=>?_⟩;obtain ⟨D,rfl⟩: ∃D,d=D+1:=⟨d-1,VO⟩;have e1:(((D+1:Nat):Int)-1).toNat=D:=VO;have e2:(((D+1:Nat):Int)-1)=(D:Int):=VO;have hd:D+1<2^n:=VO;have hdi:=qP h8 hd;simp only [e2,DR,Bi,true_and];have hst:lQ (quB n a b c D) n U O D (lS n a b c U O (2^n-1-(D+1))) (quN n a b c D)=lS n a b c U O (2^n-1-D):=by
  have h1:2^n-1-D=(2^n-1-(D+1))+1:=VO;have h2:2^n-2-(2^n-1-(D+1))=D:=VO;rw [h1];simp only [lS,h2]
 refine ⟨hd,⟨λj hj=>rfl,λ_ _=>trivial⟩,VO,⟨λj hj=>by rw [hst],λ_ _=>trivial⟩,VO,VO⟩
 obtain rfl:d=0:=VO;exact ⟨⟨rfl,λj hj=>rfl,λ_ _=>trivial⟩,λE hE=>by cases hE;exact hQ⟩
end
theorem Qb1{S:Code->UN->Prop}{c:Code}{s0 s1 s2:UN}(h0: ∀cj,VX c 0=some cj->S cj s0)(h1: ∀cj,VX c 1=some cj->S cj s1)(h2: ∀cj,VX c 2=some cj->S cj s2):
  ∀j cj,VX c j=some cj-> ∀sp,[s0,s1,s2][j]? =some sp->S cj sp:=by
 intro j cj hj sp hsp
 match j with
 | 0=>simp at hsp;subst hsp;exact h0 cj hj
 | 1=>simp at hsp;subst hsp;exact h1 cj hj
 | 2=>simp at hsp;subst hsp;exact h2 cj hj
 |j+3=>simp at hsp
section
variable (n:Nat)(a b c U O:Cg)
theorem Wk5(VW:sV n a b c U O):FJ VU 82 [.agg [i 4,i 10,sls n a b c U O]] (.ro [i 4,i 10,sls n a b c U O,.lst 1 (2^n) (λz=>[i (eD n a b c U O (2^n) z)]),.lst 1 (2^n) (λz=>[i (lS n a b c U O (2^n-1) z)])]):=by
 refine D6 (L:=[Zh3 n a b c U O,Zh2 n a b c U O,Zh0 n a b c U O]) (Ae LR (Ae F5 (Ae B5 Aa))) (Ai Ab (Ag fI Ac)) U3 Tryz.func82 (UW Tryz.f82) (Qb1 (lpE (b:= .loop Kc9) VZ<|(Jp1 n a b c U O VW).N) (lpE (b:= .loop eG) VZ<|Jp0 n a b c U O VW) (lpE (b:= .loop eF) VZ<|Jo8 n a b c U O VW)) (t:=let W:=W2 n a b c U O;(need [n<=8] (need [VQ ((2:Int)^n-1+1)] (need [QP n a b c U O,QO,QD=QD,ZN,QG n,(0:Int)=((0:Nat):Int),0=0,∀(i:Nat),i<0->[]=[iI (-1:Int)],0=0,∀(i:Nat),i<0->[]=ZZ,W7,QZ,WC,W,W8,WI,QZ,WC,W] (need [UO 0 (↑(2^n):Int)] (need [(0:Int).toNat<2^n] (need [n<=8] (need [VQ ((2:Int)^n-1+1)] (need [QP n a b c U O,QO,QD=QD,ZN,QG n,XU n,QG n,(0:Int)=((0:Nat):Int),2^n=2^n,∀(i:Nat),i<2^n->[iI (-1:Int)]=[iI (-1:Int)],2^n=2^n,∀(i:Nat),i<2^n->HJ (decide (i=(0:Int).toNat)) [iI 0] ZZ=[iI (eD n a b c U O 0 i)],W7,QZ,WC,W,W8,WI,QZ,WC,W] (need [n<=8] (need [(0:Int)<=2^n-1/\(2:Int)^n-1<(↑(2^n):Int)] (need [((2:Int)^n-1).toNat<2^n] (need [n<=8] (need [VQ ((2:Int)^n-1-1)] (need [QP n a b c U O,QO,QD=QD,ZN,ZT,QG n,XU n,QG n,XU n,(2:Int)^n-1-1=(pm n:Int)-1,2^n=2^n,∀(i:Nat),i<2^n->HJ (decide (i=((2:Int)^n-1).toNat)) ZZ [iI (-1:Int)]=[iI (lS n a b c U O (2^n-1-pm n) i)],2^n=2^n,∀(i:Nat),i<2^n->[iI (eD n a b c U O (2^n) i)]=[iI (eD n a b c U O (2^n) i)],W7,QZ,WC,W,W8,WI,QZ,WC,W] (leaf (AV.ro [iI 4,iI 10,Q0 n a b c U O,lst 1 (2^n) λz=>[iI (eD n a b c U O (2^n) z)],lst 1 (2^n) λz=>[iI (lS n a b c U O (2^n-1-0) z)]]))))))))))))))))) VZ ?_
 have h8:=VW.1;have hp:=hO h8;have hpn:((2^n:Nat):Int)=2^n:=VY;have hp1:1<=2^n:=Cc;have hpt:((2:Int)^n-1).toNat=2^n-1:=VO;simp only [VR.sat,UF,UK,VQ,hpt,Int.toNat_zero]
 (with_reducible repeat' first|apply Al|intro _)
 all_goals first|exact Ak|omega|with_reducible rfl|rfl|skip
 rename_i q hq;exact gW (F:=λ_=>101);have h1:((pm n:Nat):Int)=((2^n:Nat):Int)-1:=by
  unfold pm;omega
 rw [h1,hpn];rename_i q hq;rw [show 2^n-1-pm n=0 from Bs _];exact gW (F:=λ_=> -1)
def Xx1:G4:=λl=>some ([l=[.agg [i 4,i 10,sls n a b c U O]]],.ro [i 4,i 10,sls n a b c U O,.lst 1 (2^n) (λz=>[i (eD n a b c U O (2^n) z)]),.lst 1 (2^n) (λz=>[i (lS n a b c U O (2^n-1) z)])])
theorem fK(VW:sV n a b c U O):PE VU 82 (Xx1 n a b c U O):=by
 refine ⟨(UM Tryz.func82),?_⟩;intro avs ns res h hn;cases h;have e:=hn _ GN;subst e;exact Wk5 n a b c U O VW
def Xg9:G4:=λl=>some ([l=[.agg [i 4,i 10,sls n a b c U O]]],i (if jV n a b c U O then 0 else 1))
theorem uJ(VW:n<=8):VT VU 81 (Xg9 n a b c U O):=by
 refine ⟨(UM Tryz.func81),?_⟩;intro avs ns res h hn;cases h;have e:=hn _ GN;subst e;exact S4 n a b c U O VW
theorem Wk4(E F:Cg)(VW:n<=8):U2 VU 83 [.ro [i 4,i 10,sls n a b c U O,.lst 1 (2^n) (λz=>[i (E z)]),.lst 1 (2^n) (λz=>[i (F z)])]] (bl (E (2^n-1) != 101)):=by
 refine U6 (L:=[]) (Ae LR Aa) U3 Tryz.func83 (UW Tryz.f83) U7 (t:=need [n<=8] (need [(0:Int)<=2^n-1/\(2:Int)^n-1<(↑(2^n):Int)] (leaf (RV.x (.bool (E ((2:Int)^n-1).toNat != 101)))))) VZ ?_;have hp:=hO VW;have hpn:((2^n:Nat):Int)=2^n:=VY;have hp1:1<=2^n:=Cc;have hpt:((2:Int)^n-1).toNat=2^n-1:=VO;simp only [VR.sat,UF,G6,GQ,UH,UK,hpt]
 (with_reducible repeat' first|apply Al|intro _)
 all_goals first|exact VW|omega|rfl|trivial
def Xx0(E F:Cg):G4:=λl=>some ([l=[.ro [i 4,i 10,sls n a b c U O,.lst 1 (2^n) (λz=>[i (E z)]),.lst 1 (2^n) (λz=>[i (F z)])]]],bl (E (2^n-1) != 101))
theorem fJ(E F:Cg)(VW:n<=8):VT VU 83 (Xx0 n a b c U O E F):=by
 refine ⟨(UM Tryz.func83),?_⟩;intro avs ns res h hn;cases h;have e:=hn _ GN;subst e;exact Wk4 n a b c U O E F VW
theorem iX(E F:Cg)(d Z:Int)(VW:0<=d/\d<2^n):U2 VU 85 [.ro [i 4,i 10,sls n a b c U O,.lst 1 (2^n) (λz=>[i (E z)]),.lst 1 (2^n) (λz=>[i (F z)])],i d,i Z] (bl (decide (E d.toNat<=Z)&&decide (F d.toNat>Z))):=by
 refine H0 Tryz.func85 (t:=need [UO d (↑(2^n):Int)] (branch (decide (E (Int.toNat d)<=Z)) (need [UO d (↑(2^n):Int)] (leaf (RV.x (.bool (decide (F (Int.toNat d)>Z)))))) (leaf (RV.x (WL))))) VZ ?_;have hpn:((2^n:Nat):Int)=2^n:=VY;simp only [VR.sat,UF,G6,GQ,UH,UK];have hd:d.toNat<2^n:=VO
 (with_reducible repeat' first|apply Al|intro _)
 all_goals first|omega|(rename_i h;rw [h];rfl)
def NM(E F:Cg):G4
 |[bk,.x (.int .i64 d),.x (.int .i64 Z)]=>some ([bk= .ro [i 4,i 10,sls n a b c U O,.lst 1 (2^n) (λz=>[i (E z)]),.lst 1 (2^n) (λz=>[i (F z)])],0<=d/\d<2^n],bl (decide (E d.toNat<=Z)&&decide (F d.toNat>Z)))
 |_=>none
theorem gZ(E F:Cg):VT VU 85 (NM n a b c U O E F):=by
 refine ⟨(UM Tryz.func85),?_⟩;intro avs ns res h hn;unfold NM at h;split at h;cases h;rename_i bk d Z;have e:=hn _ GN;rw [e];exact iX n a b c U O E F d Z (hn _ VY);cases h
end
def hoF(n:Nat)(a b c:Cg)(E F:Cg)(ow Z:Int):Nat->Int×Int
 | 0=>(1001,-1)
 |d+1=>match decide (E d<=Z)&&decide (F d>Z) with
  |true=>(min (hoF n a b c E F ow Z d).1 (stF a b c d n ow.toNat),max (hoF n a b c E F ow Z d).2 (stF a b c d n ow.toNat))
  |false=>hoF n a b c E F ow Z d
theorem nth6(F:Cg){q:Nat}(hq:q<6):UE [F 0,F 1,F 2,F 3,F 4,F 5] q=F q:=by
 match q,hq with
 | 0,_=>rfl
 | 1,_=>rfl
 | 2,_=>rfl
 | 3,_=>rfl
 | 4,_=>rfl
 | 5,_=>rfl
section
variable (n:Nat)
abbrev WF(a:Cg)(b:Cg)(c:Cg)(U:Cg)(O:Cg)(E:Cg)(F:Cg):AV:=AV.ro [iI 4,iI 10,Q0 n a b c U O,lst 1 (2^n) λz=>[iI (E z)],lst 1 (2^n) λz=>[iI (F z)]]
abbrev JP:List AV:=[iI 0,iI 0]
def Jc3(a b c U O:Cg)(E F:Cg)(ow Z:Int):St:={σ:=[WF n a b c U O E F,iI ow,iI Z,top,top,top,ptr 0 0,ptr 2 0]++HR 5 [ZG n]++HR 25 [],m:=[(2,GU.cells 108 [iI 1001,iI (-1:Int)]),(0,GU.cells 108 JP)],nx:=8}
noncomputable def Kd1:Code:=UD (VX (UB Tryz.f60) 0)
def Wr2(a b c U O:Cg)(E F:Cg)(ow Z:Int)(d:Nat):St:={σ:=H4 [(8,.top),(9,.top),(14,i d)] (Jc3 n a b c U O E F ow Z).σ,m:=[(2,.cells 108 [i (hoF n a b c E F ow Z (d)).1,i (hoF n a b c E F ow Z (d)).2]),(0,.cells 108 [i 0,i 0])],nx:=8}
def EY(a b c U O:Cg)(E F:Cg)(ow Z:Int)(d:Nat):G8->Option St
 | .exit 0=>some {σ:=H4 [(8,.top),(9,.top),(14,i (2^n))] (Jc3 n a b c U O E F ow Z).σ,m:=[(2,.cells 108 [i (hoF n a b c E F ow Z (2^n)).1,i (hoF n a b c E F ow Z (2^n)).2]),(0,.cells 108 [i 0,i 0])],nx:=8}
 |_=>none
def Jy5(a b c U O:Cg)(E F:Cg)(ow Z:Int):CT:= .leaf (.exit 0,(EY n a b c U O E F ow Z 0 (.exit 0)).getD (Jc3 n a b c U O E F ow Z))
def Zh5(a b c U O:Cg)(E F:Cg)(ow Z:Int):UN:=(HI (Wr2 n a b c U O E F ow Z (0)) (Jy5 n a b c U O E F ow Z))
abbrev ZC:Prop:=ptr 2 0=ptr 2 0
theorem Jq8(a b c U O:Cg)(E F:Cg)(ow Z:Int)(VW:sV n a b c U O)(UG:0<=ow/\ow<4):GD VU (.loop Kd1) (Zh5 n a b c U O E F ow Z):=by
 refine HO (L:=[]) (Ae B5 (Ae F5 (Ae LR (Ae (gZ n a b c U O E F) (Ae (wL n a b c U O VW) Aa))))) U3 U7 (X:=Nat) (Wr2 n a b c U O E F ow Z) (λd=>d<=2^n) (λd=>2^n-d) (EY n a b c U O E F ow Z) (x0:=0) VY ?_ ?_ ?_;rintro d;kernel_rfl;rintro d y E h;unfold EY at h;split at h;cases h;kernel_rfl;cases h;rintro Q hQ d hx;refine ⟨(d+1),?_⟩;(with_reducible refine DG (t:=let W:=(UE [stF a b c (d:Int) n 0,stF a b c (d:Int) n 1,stF a b c (d:Int) n 2,stF a b c (d:Int) n 3,stF a b c (d:Int) n 4,stF a b c (d:Int) n 5] (Int.toNat ow));let z2:=hoF n a b c E F ow Z;let z1:=(z2 d);let z3:=(U4 (WF n a b c U O E F));(branch (decide ((d:Int)<2^n-1+1)) (need [z3,(0:Int)<=(d:Int)/\(d:Int)<2^n] (branch (decide (E d<=Z)&&decide (F d>Z)) (need [W2 n a b c U O,(0:Int)<=(d:Int)/\(d:Int)<256] (need [UO ow 6] (need [VQ ((d:Int)+1)] (need [z3,ow=ow,Z=Z,QO,ZC,QG n,(d:Int)+1=(↑(d+1):Int),min (Prod.fst z1) W=Prod.fst (z2 (d+1)),max (Prod.snd z1) W=Prod.snd (z2 (d+1)),QU,QU] (leaf G8.normal))))) (need [VQ ((d:Int)+1)] (need [z3,ow=ow,Z=Z,QO,ZC,QG n,(d:Int)+1=(↑(d+1):Int),Prod.fst z1=Prod.fst (z2 (d+1)),Prod.snd z1=Prod.snd (z2 (d+1)),QU,QU] (leaf G8.normal))))) (need [z3,ow=ow,Z=Z,QO,ZC,QG n,(d:Int)=2^n,Prod.fst z1=Prod.fst (z2 (2^n)),Prod.snd z1=Prod.snd (z2 (2^n)),QU,QU] (leaf (G8.exit 0))))) VZ ?_);simp only [Jy5,EY,VR.sat,GW] at hQ;simp only [VR.sat,UF,G6,GQ,UH,VQ,UK,H6,FW,FZ,RP,GR,EY]
 have h8:=VW.1;have hp:=hO h8;have hpn:((2^n:Nat):Int)=2^n:=VY;refine ⟨λh=>?_,λh=>?_⟩;have hd3:(d:Int)<2^n:=VO;have hd:d<2^n:=by
  have h':(d:Int)<((2^n:Nat):Int):=by rw [hpn];exact hd3
  exact Int.ofNat_lt.1 h'
 have hd2:=qP h8 hd;have h6:=nth6 (stF a b c d n) (show ow.toNat<6 by omega)
 refine ⟨⟨VO,hd3⟩,λhb=>?_,λhb=>?_⟩;refine ⟨hd2,⟨VO,VO⟩,VO,⟨VO,?_,?_⟩,hd,VO⟩;simp only [hoF,hb];rw [h6];simp only [hoF,hb];rw [h6];refine ⟨VO,⟨VO,?_,?_⟩,hd,VO⟩;simp only [hoF,hb];simp only [hoF,hb];have hd:d=2^n:=by
  have h': ¬(d:Int)<((2^n:Nat):Int):=by rw [hpn];omega
  omega
 subst hd;exact ⟨⟨hpn,rfl,rfl⟩,λE hE=>by cases hE;exact hQ⟩
theorem Qs1(a b c U O:Cg)(E F:Cg)(ow Z:Int)(VW:sV n a b c U O)(UG:0<=ow/\ow<4):U2 VU 60 [.ro [i 4,i 10,sls n a b c U O,.lst 1 (2^n) (λz=>[i (E z)]),.lst 1 (2^n) (λz=>[i (F z)])],i ow,i Z] (.agg [i (hoF n a b c E F ow Z (2^n)).1,i (hoF n a b c E F ow Z (2^n)).2]):=by
 refine U6 (L:=[Zh5 n a b c U O E F ow Z]) (Ae B5 (Ae F5 (Ae LR (Ae (gZ n a b c U O E F) (Ae (wL n a b c U O VW) Aa))))) U3 Tryz.func60 (UW Tryz.f60) (G0 (lpE (b:= .loop Kd1) VZ<|Jq8 n a b c U O E F ow Z VW UG)) (t:=let W:=hoF n a b c E F ow Z;(need [n<=8] (need [VQ ((2:Int)^n-1+1)] (need [U4 (WF n a b c U O E F),ow=ow,Z=Z,QO,ZC,QG n,(0:Int)=((0:Nat):Int),(1001:Int)=Prod.fst (W 0),(-1:Int)=Prod.snd (W 0),QU,QU] (leaf (RV.agg [RV.x (.int .i64 (Prod.fst (W (2^n)))),RV.x (.int .i64 (Prod.snd (W (2^n))))])))))) VZ ?_
 have h8:=VW.1;have hp:=hO h8;have hpn:((2^n:Nat):Int)=2^n:=VY;simp only [VR.sat,UF,G6,GQ,UH,UK,VQ,Prod.fst,Prod.snd]
 (with_reducible repeat' first|apply Al|intro _)
 all_goals first|exact Ak|exact h8|omega|rfl
def oF(a b c U O:Cg)(E F:Cg):G4
 |[bk,.x (.int .i64 ow),.x (.int .i64 Z)]=>some ([bk= .ro [i 4,i 10,sls n a b c U O,.lst 1 (2^n) (λz=>[i (E z)]),.lst 1 (2^n) (λz=>[i (F z)])],0<=ow/\ow<4],.agg [i (hoF n a b c E F ow Z (2^n)).1,i (hoF n a b c E F ow Z (2^n)).2])
 |_=>none
theorem uI(a b c U O:Cg)(E F:Cg)(VW:sV n a b c U O):VT VU 60 (oF n a b c U O E F):=by
 refine ⟨(UM Tryz.func60),?_⟩;intro avs ns res h hn;unfold oF at h;split at h;cases h;rename_i bk ow Z;have e:=hn _ GN;rw [e];exact Qs1 n a b c U O E F ow Z VW (hn _ VY);cases h
def jL(a b c U O:Cg):Bool:=eD n a b c U O (2^n) (2^n-1) != 101
end
theorem cL{n:Nat}{a b c U O:Cg}(h:sV n a b c U O):jV n a b c U O=true:=H3.2 h.2
section
variable (n:Nat)
abbrev X7(a:Cg)(b:Cg)(c:Cg)(U:Cg)(O:Cg):List AV:=[agg [iI 4,iI 10,Q0 n a b c U O]]
theorem Qr9(a b c U O:Cg)(rt:Bool)(VW:sV n a b c U O):US VU 58 [.agg [i 4,i 10,sls n a b c U O],bl rt] (.branch (!rt) (.leaf (.tup [Bo.nilP,i 2])) (.branch (!jL n a b c U O) (.leaf (.tup [Bo.nilP,i 9])) (.leaf (.tup [.ro [i 4,i 10,sls n a b c U O,.lst 1 (2^n) (λz=>[i (eD n a b c U O (2^n) z)]),.lst 1 (2^n) (λz=>[i (lS n a b c U O (2^n-1) z)])],i 0])))):=by
 refine GY (L:=[]) (Ae (uJ n a b c U O VW.1) (Ae (fJ n a b c U O (eD n a b c U O (2^n)) (lS n a b c U O (2^n-1)) VW.1) Aa)) (Ai (Af (fK n a b c U O VW) Ab) Ac) U3 Tryz.func58 (UW Tryz.f58) G9 (t:=let W:=(AV.ro [iI 4,iI 10,Q0 n a b c U O,lst 1 (2^n) λz=>[iI (eD n a b c U O (2^n) z)],lst 1 (2^n) λz=>[iI (lS n a b c U O (2^n-1) z)]]);(need [U4 (X7 n a b c U O)] (branch ((if jV n a b c U O=true then (0:Int) else (1:Int)) != 0) (leaf (tup [QD,iI (if jV n a b c U O=true then (0:Int) else (1:Int))])) (branch (!rt) (leaf (tup [QD,iI 2])) (need [U4 (X7 n a b c U O)] (need [U4 ([W])] (branch (!eD n a b c U O (2^n) (2^n-1) != 101) (leaf (tup [QD,iI 9])) (leaf (tup [W,iI 0]))))))))) VZ ?_
 intro Q hQ;simp only [VR.sat,UF,UK] at hQ ⊢;rw [cL VW];refine ⟨λh=>by simp at h,λ_=>⟨λh=>⟨.tup [Bo.nilP,i 2],⟨rfl,⟨rfl,rfl⟩,Ak⟩,hQ.1 h⟩,λh=>⟨λh2=>⟨.tup [Bo.nilP,i 9],⟨rfl,⟨rfl,rfl⟩,Ak⟩,(hQ.2 h).1 h2⟩,λh2=>⟨.tup [.ro [i 4,i 10,sls n a b c U O,.lst 1 (2^n) (λz=>[i (eD n a b c U O (2^n) z)]),.lst 1 (2^n) (λz=>[i (lS n a b c U O (2^n-1) z)])],i 0],⟨rfl,⟨rfl,rfl⟩,Ak⟩,(hQ.2 h).2 h2⟩⟩⟩⟩
theorem EC(a b c U O:Cg)(VW:sV n a b c U O):US VU 58 [.agg [i 4,i 10,sls n a b c U O],.lit true] (.branch (!true) (.leaf (.tup [Bo.nilP,i 2])) (.branch (!jL n a b c U O) (.leaf (.tup [Bo.nilP,i 9])) (.leaf (.tup [.ro [i 4,i 10,sls n a b c U O,.lst 1 (2^n) (λz=>[i (eD n a b c U O (2^n) z)]),.lst 1 (2^n) (λz=>[i (lS n a b c U O (2^n-1) z)])],i 0])))):=by
 refine GY (L:=[]) (Ae (uJ n a b c U O VW.1) (Ae (fJ n a b c U O (eD n a b c U O (2^n)) (lS n a b c U O (2^n-1)) VW.1) Aa)) (Ai (Af (fK n a b c U O VW) Ab) Ac) U3 Tryz.func58 (UW Tryz.f58) G9 (t:=let W:=(AV.ro [iI 4,iI 10,Q0 n a b c U O,lst 1 (2^n) λz=>[iI (eD n a b c U O (2^n) z)],lst 1 (2^n) λz=>[iI (lS n a b c U O (2^n-1) z)]]);(need [U4 (X7 n a b c U O)] (branch ((if jV n a b c U O=true then (0:Int) else (1:Int)) != 0) (leaf (tup [QD,iI (if jV n a b c U O=true then (0:Int) else (1:Int))])) (need [U4 (X7 n a b c U O)] (need [U4 ([W])] (branch (!eD n a b c U O (2^n) (2^n-1) != 101) (leaf (tup [QD,iI 9])) (leaf (tup [W,iI 0])))))))) VZ ?_
 intro Q hQ;simp only [VR.sat,UF,UK] at hQ ⊢;rw [cL VW]
 replace hQ:=hQ.2 rfl
 refine ⟨λh=>by simp at h,λ_=>⟨λh2=>⟨.tup [Bo.nilP,i 9],⟨rfl,⟨rfl,rfl⟩,Ak⟩,hQ.1 h2⟩,λh2=>⟨.tup [.ro [i 4,i 10,sls n a b c U O,.lst 1 (2^n) (λz=>[i (eD n a b c U O (2^n) z)]),.lst 1 (2^n) (λz=>[i (lS n a b c U O (2^n-1) z)])],i 0],⟨rfl,⟨rfl,rfl⟩,Ak⟩,hQ.2 h2⟩⟩⟩
theorem AM(a b c U O:Cg)(VW:sV n a b c U O):US VU 58 [.agg [i 4,i 10,sls n a b c U O],.lit false] (.branch (!false) (.leaf (.tup [Bo.nilP,i 2])) (.branch (!jL n a b c U O) (.leaf (.tup [Bo.nilP,i 9])) (.leaf (.tup [.ro [i 4,i 10,sls n a b c U O,.lst 1 (2^n) (λz=>[i (eD n a b c U O (2^n) z)]),.lst 1 (2^n) (λz=>[i (lS n a b c U O (2^n-1) z)])],i 0])))):=by
 refine GY (L:=[]) (Ae (uJ n a b c U O VW.1) (Ae (fJ n a b c U O (eD n a b c U O (2^n)) (lS n a b c U O (2^n-1)) VW.1) Aa)) (Ai (Af (fK n a b c U O VW) Ab) Ac) U3 Tryz.func58 (UW Tryz.f58) G9 (t:=need [U4 (X7 n a b c U O)] (branch ((if jV n a b c U O=true then (0:Int) else (1:Int)) != 0) (leaf (tup [QD,iI (if jV n a b c U O=true then (0:Int) else (1:Int))])) (leaf (tup [QD,iI 2])))) VZ ?_
 intro Q hQ;simp only [VR.sat,UF,UK] at hQ ⊢;rw [cL VW];exact ⟨λh=>by simp at h,λ_=>⟨.tup [Bo.nilP,i 2],⟨rfl,⟨rfl,rfl⟩,Ak⟩,hQ.1 rfl⟩⟩
def NL(a b c U O:Cg):DP:=λl=>match l with
 |[bt,.x (.bool rt)]=>some (.need [bt= .agg [i 4,i 10,sls n a b c U O]] (.branch (!rt) (.leaf (.tup [Bo.nilP,i 2])) (.branch (!jL n a b c U O) (.leaf (.tup [Bo.nilP,i 9])) (.leaf (.tup [.ro [i 4,i 10,sls n a b c U O,.lst 1 (2^n) (λz=>[i (eD n a b c U O (2^n) z)]),.lst 1 (2^n) (λz=>[i (lS n a b c U O (2^n-1) z)])],i 0])))))
 |[bt,.lit rt]=>some (.need [bt= .agg [i 4,i 10,sls n a b c U O]] (.branch (!rt) (.leaf (.tup [Bo.nilP,i 2])) (.branch (!jL n a b c U O) (.leaf (.tup [Bo.nilP,i 9])) (.leaf (.tup [.ro [i 4,i 10,sls n a b c U O,.lst 1 (2^n) (λz=>[i (eD n a b c U O (2^n) z)]),.lst 1 (2^n) (λz=>[i (lS n a b c U O (2^n-1) z)])],i 0])))))
 |_=>none
theorem uG(a b c U O:Cg)(VW:sV n a b c U O):Sx.Enters Tryz.prog 58/\ ∀avs t,NL n a b c U O avs=some t->US VU 58 avs t:=by
 refine ⟨(UM Tryz.func58),?_⟩;intro avs t h;unfold NL at h;split at h;cases h;intro Q hQ;have e:=hQ.1
 dsimp only [UF] at e
 subst e;exact Qr9 n a b c U O _ VW Q hQ.2;cases h;intro Q hQ;have e:=hQ.1
 dsimp only [UF] at e
 subst e;rename_i rt;cases rt;exact AM n a b c U O VW Q hQ.2;exact EC n a b c U O VW Q hQ.2;cases h
def rD{α:Type}(f:Nat->Option α):Nat->Nat->Option α
 |_,0=>none
 |s,k+1=>match f s with
  |some r=>some r
  |none=>rD f (s+1) k
def orQ(a b c U O:Cg)(g:Nat->Int->Option (List (Nat×Int)))(d:Nat)(Z:Int)(q:Nat):Option (List (Nat×Int)):=
 if max Z (U (UZ (quB n a b c d) n q))>O (UZ (quB n a b c d) n q) then none else
  match g (d ||| 2^UZ (quB n a b c d) n q) (max Z (U (UZ (quB n a b c d) n q))) with
  |some l=>some (l++[(UZ (quB n a b c d) n q,max Z (U (UZ (quB n a b c d) n q)))])
  |none=>none
end
def orF(n:Nat)(a b c U O:Cg):Nat->Nat->Int->Option (List (Nat×Int))
 | 0,_,_=>none
 |N+1,d,Z=>if d=2^n-1 then some [] else rD (orQ n a b c U O (orF n a b c U O N) d Z) 0 (quN n a b c d)
def orS(n:Nat)(a b c U O:Cg)(d:Nat)(Z:Int):Option (List (Nat×Int)):=orF n a b c U O (2^n) d Z
def orL(l:List (Nat×Int)):List Int:=l.map λp=>(p.1:Int)
def dyU:List (Nat×Int)->(Cg)->Nat->Int
 |[],f=>f
 |p::t,f=>dyU t (UX p.1 p.2 f)
section
variable (n:Nat)(a b c U O:Cg)
def orG(d:Nat)(Z:Int):List (Nat×Int):=(orS n a b c U O d Z).getD []
def orH(x:Value):Prop:= ∃(d:Nat) (Z:Int),x= .agg #[.int .i64 d,.int .i64 Z]/\d<2^n/\orS n a b c U O d Z=none
end
def orV:Value->Value:=λ_=> .bool true
def stK(x:Value):Prop:= ∃(d Z:Int),x= .agg #[.int .i64 d,.int .i64 Z]
theorem Wm4(l m:List Int): ∀k,UE (l++m) k=if k<l.length then UE l k else UE m (k-l.length):=by
 induction l with
 |nil=>intro k;simp
 |cons x l ih=>
  intro k;cases k with
  |zero=>simp [UE]
  |succ k=>
   show UE (l++m) k=_;rw [ih];simp only [Bj,Nat.add_lt_add_iff_right,Nat.add_sub_add_right];rfl
theorem IK: ∀{l:List Int} {k:Nat} (h:k<l.length),UE l k=l[k]
 |x::l,0,h=>rfl
 |x::l,k+1,h=>IK (l:=l) (k:=k) (by simpa using h)
theorem rC{α:Type}{f:Nat->Option α}: ∀{k s:Nat},rD f s k=none↔ ∀j,s<=j->j<s+k->f j=none
 | 0,s=>⟨λ_ j h1 h2=>VO,λ_=>rfl⟩
 |k+1,s=>by
  unfold rD;cases h:f s with
  |some r=>exact ⟨λh1=>(by cases h1),λh1=>(by rw [h1 s (Am _) VO] at h;cases h)⟩
  |none=>
   simp only;rw [rC];refine ⟨λh1 j h2 h3=>?_,λh1 j h2 h3=>h1 j VO VO⟩;rcases (show j=s\/s+1<=j by omega) with rfl|h4
   exact h;exact h1 j h4 VO
theorem T3{α:Type}{f:Nat->Option α}{r:α}{q:Nat}(hq:f q=some r): ∀{k s:Nat},s<=q->q<s+k->(∀j,s<=j->j<q->f j=none)->rD f s k=some r
 | 0,s,h1,h2,_=>VO
 |k+1,s,h1,h2,h3=>by
  unfold rD;rcases (show s=q\/s<q by omega) with rfl|h4
  rw [hq];rw [h3 s (Am _) h4];exact T3 hq h4 VO (λj h5 h6=>h3 j VO h6)
theorem ME{α:Type}{f g:Nat->Option α}: ∀{k s:Nat},(∀j,s<=j->j<s+k->f j=g j)->rD f s k=rD g s k
 | 0,_,_=>rfl
 |k+1,s,h=>by
  unfold rD;rw [h s (Am _) VO,ME (λj h1 h2=>h j VO VO)]
theorem AY{n:Nat}(h:n<=8):2^n<=256:=by
 have:=hO h;have hpn:((2^n:Nat):Int)=2^n:=VY;omega
theorem Zc1{n:Nat}{a b c:Cg}{d q:Nat}(h8:n<=8)(hd:d<2^n)(hq:q<quN n a b c d):d<d ||| 2^UZ (quB n a b c d) n q:=by
 have hs:=gP hq;have h2:=AY h8;have hb:OE d (UZ (quB n a b c d) n q)=false:=by
  have:=hs.2;unfold quB at this;rw [HF] at this;have h1:=this.1;unfold quB;simpa using h1
 rw [Ww7 VO] at hb;have hle:d<=d ||| 2^UZ (quB n a b c d) n q:=Nat.left_le_or
 rcases Nat.lt_or_eq_of_le hle with h|h;exact h;exfalso;have:(d ||| 2^UZ (quB n a b c d) n q).testBit (UZ (quB n a b c d) n q)=true:=by
  rw [Nat.testBit_or,Nat.testBit_two_pow_self,Bool.or_true]
 rw [←h,hb] at this;cases this
theorem lA{n:Nat}{a b c U O:Cg}(h8:n<=8): ∀(N N' d:Nat) (Z:Int),d<2^n->2^n-d<=N->2^n-d<=N'->orF n a b c U O N d Z=orF n a b c U O N' d Z
 | 0,_,d,_,h1,h2,_=>VO
 |N+1,0,d,_,h1,_,h3=>VO
 |N+1,N'+1,d,Z,h1,h2,h3=>by
  simp only [orF];split;rfl;refine ME λq _ hq=>?_;have hq:q<quN n a b c d:=VO;have hg:=Zc1 h8 h1 hq;have hl:=Qg3 h1 (gP hq).1;unfold orQ;rw [lA h8 N N' _ _ hl VO VO]
section
variable {n:Nat}{a b c U O:Cg}
theorem sH(h8:n<=8){d:Nat}(Z:Int)(hd:d<2^n):orS n a b c U O d Z=if d=2^n-1 then some [] else rD (orQ n a b c U O (orS n a b c U O) d Z) 0 (quN n a b c d):=by
 have h:orS n a b c U O d Z=orF n a b c U O (2^n+1) d Z:=lA h8 _ _ _ _ hd VO VO;rw [h];rfl
theorem Wl3(h8:n<=8)(Z:Int):orS n a b c U O (2^n-1) Z=some []:=by
 have:=AY h8;have:0<2^n:=Nat.two_pow_pos n;rw [sH h8 Z VO,if_pos rfl]
end
theorem Xo8(l:List (Nat×Int))(p:Nat×Int):orL (l++[p])=orL l++[(p.1:Int)]:=by simp [orL]
theorem Qj4: ∀(l:List (Nat×Int)) (p:Nat×Int) (f:Cg),dyU (l++[p]) f=UX p.1 p.2 (dyU l f)
 |[],_,_=>rfl
 |_::t,p,f=>Qj4 t p _
theorem Qg5{n:Nat}{a b c U O:Cg}: ∀(N d:Nat) (Z:Int) (l:List (Nat×Int)),orF n a b c U O N d Z=some l->l.length<=N
 | 0,_,_,_,h=>by simp [orF] at h
 |N+1,d,Z,l,h=>by
  simp only [orF] at h;split at h;cases h;exact Ao _;obtain ⟨q,hq⟩: ∃q,orQ n a b c U O (orF n a b c U O N) d Z q=some l:=by
   refine Classical.byContradiction λhno=>?_;rw [rC.2 (λj _ _=>?_)] at h;cases h;cases hj:orQ n a b c U O (orF n a b c U O N) d Z j with
   |none=>rfl
   |some r=>
    exfalso;have: ∀(f:Nat->Option (List (Nat×Int))) (k s:Nat) (r:List (Nat×Int)),rD f s k=some r-> ∃q,f q=some r:=by
     intro f k
     induction k with
     |zero=>intro s r h;cases h
     |succ k ih=>
      intro s r h;unfold rD at h;cases hf:f s with
      |some r'=>rw [hf] at h;cases h;exact ⟨s,hf⟩
      |none=>rw [hf] at h;exact ih _ _ h
    exact hno (this _ _ _ _ h)
  unfold orQ at hq;split at hq;cases hq;split at hq;rename_i l' hl';cases hq;have:=Qg5 N _ _ _ hl';rw [Be];simp;omega;cases hq
theorem Qg4(n:Nat)(a b c U O:Cg)(d:Nat)(Z:Int):(orG n a b c U O d Z).length<=2^n:=by
 unfold orG;cases h:orS n a b c U O d Z with
 |none=>exact Ao _
 |some l=>exact Qg5 _ _ _ _ h
theorem SC(d Z:Int):FK Tryz.prog 325 stK (.agg #[.int .i64 d,.int .i64 Z]) (.bool false):=by
 refine ⟨⟨328,4,(match Tryz.prog.underlying 328 with|some (.struct fs)=>fs|_=>#[]),VZ,VZ,?_,?_,?_⟩,by simp [Instr.sameBits]⟩
 intro b' w;kernel_rfl;rintro k' ⟨d',day',rfl⟩ w;refine ⟨d==d'&&(Z==day'&&true),zG (P:=Tryz.prog) (e:=PS w w) Op.maxDepth 328 (.agg [i d,i Z]) (.agg [i d',i day']) _ _ _ VZ (Rep.aggL (U8.cons (.x _) (U8.one (.x _)))) (Rep.aggL (U8.cons (.x _) (U8.one (.x _)))),λh=>?_⟩;simp only [Bool.and_true,HF,beq_iff_eq] at h;obtain ⟨rfl,rfl⟩:=h;rfl;intro w;kernel_rfl
theorem Wl4{n:Nat}{a b c U O:Cg}{x:Value}(h:orH n a b c U O x):stK x:=by
 obtain ⟨d,Z,h,_⟩:=h;exact ⟨_,_,h⟩
section
variable (n:Nat)(a b c U O:Cg)(ea la:AV)
def OM(d:Nat)(Z:Int)(ord:List Int)(dy:Cg)(oa:Option Addr)(ol oc:Nat)(da:Option Addr)(dl dc:Nat):HA:=[(3,.cells 52 [.row 900]),(3,.cells 52 [.x (.slice oa ol oc)]),(900,.row 3 1 ord.length (λj=>[i (UE ord j)])),(5,.memo (orH n a b c U O) orV),(7,.row 3 1 n (λj=>[i (dy j)])),(0,.keep 144 [.ro [i 4,i 10,sls n a b c U O,ea,la]]),(1,.keep 325 [.mp 5]),(2,.keep 326 [.fn (.func 221) [] [.ptr 0 0,.ptr 1 0,.ptr 2 0,.ptr 3 0,.ptr 4 0]]),(4,.cells 52 [.row 7]),(4,.cells 52 [.x (.slice da dl dc)])]
def OT_(d:Nat)(Z:Int)(ord:List Int)(dy:Cg)(oa:Option Addr)(ol oc:Nat)(da:Option Addr)(dl dc:Nat)(l:List (Nat×Int)):St:={σ:=[],m:=[(3,.cells 52 [.row 900]),(900,.row 3 1 (ord++orL l).length (λj=>[i (UE (ord++orL l) j)])),(5,.memo (orH n a b c U O) orV),(7,.row 3 1 n (λj=>[i ((dyU l dy) j)])),(0,.keep 144 [.ro [i 4,i 10,sls n a b c U O,ea,la]]),(1,.keep 325 [.mp 5]),(2,.keep 326 [.fn (.func 221) [] [.ptr 0 0,.ptr 1 0,.ptr 2 0,.ptr 3 0,.ptr 4 0]]),(4,.cells 52 [.row 7]),(4,.cells 52 [.x (.slice da dl dc)])],nx:=901,sv:=[[.ptr 0 0,.ptr 1 0,.ptr 2 0,.ptr 3 0,.ptr 4 0]] }
def OF_(d:Nat)(Z:Int)(ord:List Int)(dy:Cg)(oa:Option Addr)(ol oc:Nat)(da:Option Addr)(dl dc:Nat):St:={σ:=[],m:=[(3,.cells 52 [.row 900]),(3,.cells 52 [.x (.slice oa ol oc)]),(900,.row 3 1 ord.length (λj=>[i (UE ord j)])),(5,.memo (orH n a b c U O) orV),(7,.row 3 1 n (λj=>[i (dy j)])),(0,.keep 144 [.ro [i 4,i 10,sls n a b c U O,ea,la]]),(1,.keep 325 [.mp 5]),(2,.keep 326 [.fn (.func 221) [] [.ptr 0 0,.ptr 1 0,.ptr 2 0,.ptr 3 0,.ptr 4 0]]),(4,.cells 52 [.row 7]),(4,.cells 52 [.x (.slice da dl dc)])],nx:=901,sv:=[[.ptr 0 0,.ptr 1 0,.ptr 2 0,.ptr 3 0,.ptr 4 0]] }
end
def SA:List (Nat×Nat)->Bool
 |[]=>true
 |(x,y)::t=>match Nat.beq x y with
  |true=>SA t
  |false=>false
def Xq2:GU->Bool
 | .aka _ _ _ _ _=>true
 |_=>false
def sN:HA->HA
 |[]=>[]
 |(k,r)::t=>match Xq2 r with
  |true=>sN t
  |false=>(k,r)::sN t
def zLo(k:Nat)(g:Ci):List Int:=(List.range k).map (col 0 g)
def oV(n:Nat)(a b c U O:Cg)(N:Nat):D9:=λavs m nx sv=>match avs with
 |[.agg [.x (.int .i64 d),.x (.int .i64 Z)],.ptr k W,.ptr g z1,.ptr f z2,.ptr o z3,.ptr dd z4]=>match DN m k,DN m g,DN m f,DN m o,DN m dd with
  |some (.keep Tk [.ro [c1,c2,sl,ea,la]]),some (.keep Tg [.mp mg]),some (.keep Tf [.fn (.func fg) [] [.ptr k' y0,.ptr g' y1,.ptr f' y2,.ptr o' y3,.ptr d' y4]]),some (.cells To [.row q]),some (.cells Td [.row r])=>match DN m mg,DN m q,DN m r with
   |some (.memo h ff),some (.row T1 s1 k1 g1),some (.row T2 s2 k2 g2)=>
    match SA [(W,0),(z1,0),(z2,0),(z3,0),(z4,0),(y0,0),(y1,0),(y2,0),(y3,0),(y4,0),(Tk,144),(Tg,325),(Tf,326),(To,52),(Td,52),(fg,221),(k,k'),(g,g'),(f,f'),(o,o'),(dd,d'),(T1,3),(s1,1),(T2,3),(s2,1)]&&(!Nat.beq q r&& !Nat.beq o dd) with
    |true=>some (.needT [c1=i 4,c2=i 10,sl=sls n a b c U O,∀x,h x->orH n a b c U O x/\ff x=orV x,UL 1 k1 g1,UL 1 k2 g2,k2=n,0<=d/\d<2^n,2^n-d.toNat<=N,0<=Z/\Z<=100,k1<=1000]
      (.branch (orS n a b c U O d.toNat Z).isSome
       (.leaf (.lit true,(nx,.row 3 1 (zLo k1 g1++orL (orG n a b c U O d.toNat Z)).length (λj=>[i (UE (zLo k1 g1++orL (orG n a b c U O d.toNat Z)) j)]))::qT (qT (qT (kB (sN m) q) o (.cells 52 [.row nx])) r (.row 3 1 n (λj=>[i (dyU (orG n a b c U O d.toNat Z) (col 0 g2) j)]))) mg (.memo (orH n a b c U O) orV),nx+1,sv))
       (.leaf (.lit false,qT (qT (qT (sN m) q (.row 3 1 k1 g1)) r (.row 3 1 n g2)) mg (.memo (orH n a b c U O) orV),nx,sv))))
    |false=>none
   |_,_,_=>none
  |_,_,_,_,_=>none
 |_=>none
theorem Ju7{l:List Int}{x:Int}{j:Nat}(h:j<l.length+1):GL l.length (λj=>[i (UE l j)]) (UA 1 [i x]) j=[i (UE (l++[x]) j)]:=by
 rw [Wm4];show HJ (decide (j<l.length)) _ (UA 1 [i x] (j-l.length))=_;rw [show j-l.length=0 by omega]
 by_cases hj:j<l.length;rw [decide_eq_true hj,if_pos hj];rfl;rw [decide_eq_false hj,if_neg hj];rfl
theorem pU(n:Nat)(f:Cg):UL 1 n (λj=>[i (f j)]):=λj _=>rfl
theorem aT(l:List Int):zLo l.length (λj=>[i (UE l j)])=l:=by
 unfold zLo;apply List.ext_getElem?;intro j;rcases An j l.length with hj|hj;rw [Bn,List.getElem?_range hj,D8 VO];simp only [Bt,HL];unfold col;show UE l j=l[j];exact IK VO;rw [Br (by simp;omega),Br VO]
abbrev QM:AV:=AV.fn (Fn.func 221) [] [ptr 0 0,ptr 1 0,ptr 2 0,ptr 3 0,ptr 4 0]
section
variable (n:Nat)(a b c U O:Cg)(ea la:AV)(d:Nat)(Z:Int)(ord:List Int)(dy:Cg)(oa:Option Addr)(ol oc:Nat)(da:Option Addr)(dl dc:Nat)
def Xk3(N:Nat):St:={σ:=[agg [iI (d:Int),iI Z],ptr 0 0,ptr 1 0,ptr 2 0,ptr 3 0,ptr 4 0,ptr 901 0,ptr 902 0]++HR 14 [AV.fn (Fn.func 164) [] [AV.ro [QQ n a b c U O ea la],AV.ro [iI (d:Int)]]]++HR 33 [],m:=[(902,GU.cells 4 [AV.x (WL)]),(901,GU.cells 328 [iI (d:Int),iI Z]),(3,GU.cells 52 [AV.row 900]),(3,GU.cells 52 [AV.x (.slice oa ol oc)]),(900,GU.row 3 1 (List.length ord) λj=>[iI (UE ord j)]),(5,GU.memo (λx=>orH n a b c U O x) λa=>Value.bool true),(7,GU.row 3 1 n λj=>[iI (dy j)]),(0,GU.keep 144 [QQ n a b c U O ea la]),(1,GU.keep 325 [AV.mp 5]),(2,GU.keep 326 [QM]),(4,GU.cells 52 [AV.row 7]),(4,GU.cells 52 [AV.x (.slice da dl dc)])],nx:=915,sv:=[[ptr 0 0,ptr 1 0,ptr 2 0,ptr 3 0,ptr 4 0]] }
noncomputable def Ke7:Code:=NW (VX (UB Tryz.f221) 0)
noncomputable def Kc5:Code:=NV (VX (UB Tryz.f221) 0)
def Wq5(N:Nat)(k:Nat):St:={σ:=H4 [(8,.top),(9,.top),(10,.top)] (Xk3 n a b c U O ea la d Z ord dy oa ol oc da dl dc N).σ,m:=[(902,.cells 4 [.x (.bool false)]),(901,.cells 328 [i d,i Z]),(3,.cells 52 [.row 900]),(3,.cells 52 [.x (.slice oa ol oc)]),(900,.row 3 1 ord.length (λj=>[i (UE ord j)])),(5,.memo (orH n a b c U O) orV),(7,.row 3 1 n (λj=>[i (dy j)])),(0,.keep 144 [.ro [i 4,i 10,sls n a b c U O,ea,la]]),(1,.keep 325 [.mp 5]),(2,.keep 326 [.fn (.func 221) [] [.ptr 0 0,.ptr 1 0,.ptr 2 0,.ptr 3 0,.ptr 4 0]]),(4,.cells 52 [.row 7]),(4,.cells 52 [.x (.slice da dl dc)])],nx:=920,sv:=[[.ptr 0 0,.ptr 1 0,.ptr 2 0,.ptr 3 0,.ptr 4 0]] }
def uN(N:Nat)(k:Nat):G8->Option St
 | .normal=>some {σ:=H4 [(8,.top),(9,.top),(10,.top)] (Xk3 n a b c U O ea la d Z ord dy oa ol oc da dl dc N).σ,m:=[(902,.cells 4 [.x (.bool false)]),(901,.cells 328 [i d,i Z]),(3,.cells 52 [.row 900]),(3,.cells 52 [.x (.slice oa ol oc)]),(900,.row 3 1 ord.length (λj=>[i (UE ord j)])),(5,.memo (orH n a b c U O) orV),(7,.row 3 1 n (λj=>[i (dy j)])),(0,.keep 144 [.ro [i 4,i 10,sls n a b c U O,ea,la]]),(1,.keep 325 [.mp 5]),(2,.keep 326 [.fn (.func 221) [] [.ptr 0 0,.ptr 1 0,.ptr 2 0,.ptr 3 0,.ptr 4 0]]),(4,.cells 52 [.row 7]),(4,.cells 52 [.x (.slice da dl dc)])],nx:=920,sv:=[[.ptr 0 0,.ptr 1 0,.ptr 2 0,.ptr 3 0,.ptr 4 0]] }
 | .ret=>some {σ:=H4 [(8,.top),(9,.top),(10,.top)] (Xk3 n a b c U O ea la d Z ord dy oa ol oc da dl dc N).σ,m:=[(902,.cells 4 [.lit true]),(901,.cells 328 [i d,i Z]),(3,.cells 52 [.row 900]),(900,.row 3 1 (ord++orL (orG n a b c U O d Z)).length (λj=>[i (UE (ord++orL (orG n a b c U O d Z)) j)])),(5,.memo (orH n a b c U O) orV),(7,.row 3 1 n (λj=>[i ((dyU (orG n a b c U O d Z) dy) j)])),(0,.keep 144 [.ro [i 4,i 10,sls n a b c U O,ea,la]]),(1,.keep 325 [.mp 5]),(2,.keep 326 [.fn (.func 221) [] [.ptr 0 0,.ptr 1 0,.ptr 2 0,.ptr 3 0,.ptr 4 0]]),(4,.cells 52 [.row 7]),(4,.cells 52 [.x (.slice da dl dc)])],nx:=920,sv:=[[.ptr 0 0,.ptr 1 0,.ptr 2 0,.ptr 3 0,.ptr 4 0]] }
 |_=>none
def Zz0(N:Nat):CT:= .branch (orS n a b c U O d Z).isSome (.leaf (.ret,(uN n a b c U O ea la d Z ord dy oa ol oc da dl dc N 0 .ret).getD (Xk3 n a b c U O ea la d Z ord dy oa ol oc da dl dc N))) (.leaf (.normal,(uN n a b c U O ea la d Z ord dy oa ol oc da dl dc N 0 .normal).getD (Xk3 n a b c U O ea la d Z ord dy oa ol oc da dl dc N)))
def Zg6(N:Nat):UN:=GO [(.cell 3 0,900,3,1)] (HI (Wq5 n a b c U O ea la d Z ord dy oa ol oc da dl dc N (0)) (Zz0 n a b c U O ea la d Z ord dy oa ol oc da dl dc N))
end
abbrev ZY:Prop:=AV.row 900=AV.row 900
abbrev J9:Prop:=AV.row 7=AV.row 7
abbrev JK:Prop:=AV.mp 5=AV.mp 5
abbrev JV(ord:List Int):Prop:=List.length ord=List.length ord
abbrev KW:Prop:=ptr 901 0=ptr 901 0
abbrev KX:Prop:=ptr 902 0=ptr 902 0
theorem Jn6(n:Nat)(a b c U O:Cg)(ea la:AV)(d:Nat)(Z:Int)(ord:List Int)(dy:Cg)(oa:Option Addr)(ol oc:Nat)(da:Option Addr)(dl dc:Nat)(N:Nat)(VW:sV n a b c U O)(UG:d<2^n/\d≠2^n-1)(HX:2^n-d<=N+1)(F6:0<=Z/\Z<=100)(qD:ord.length<=1000)(j6:GH VU 221 (oV n a b c U O N)):HU VU (.rangeFunc (rfF (VX (UB Tryz.f221) 0)) (xS (VX (UB Tryz.f221) 0)) Ke7 Kc5) (Zg6 n a b c U O ea la d Z ord dy oa ol oc da dl dc N):=by
 refine LQ [(.cell 3 0,900,3,1)] (X:={R:=[(121,CC)],H:=[(221,(oV n a b c U O N))] }) (L:=[]) (Ae F5 (Ae LR Aa)) (Ai (Af S2 Ab) (Ag j6 Ac)) U3 U7 (V:=Nat) (Wq5 n a b c U O ea la d Z ord dy oa ol oc da dl dc N) (λk=>k<=(quN n a b c d)/\ ∀j,j<k->orQ n a b c U O (orS n a b c U O) d Z j=none) (λk=>k) (uN n a b c U O ea la d Z ord dy oa ol oc da dl dc N) (x0:=0) ⟨Ao _,λj h=>absurd h (Aq _)⟩ rfl ?_ ?_ ?_ ?_ (g:=164) (caps:=[.ro [.ro [i 4,i 10,sls n a b c U O,ea,la]],.ro [i d]]) VZ VZ (uH ea la n a b c U O d VW (qP VW.1 UG.1)) (λ_=>rfl) ?_;rintro k;kernel_rfl;rintro k y E h;unfold uN at h;split at h;cases h;kernel_rfl;cases h;kernel_rfl;cases h;rintro k;rfl;rintro k y E h;unfold uN at h;split at h;cases h;rfl;cases h;rfl;cases h;rintro Q hQ k hx;refine ⟨λhlt=>⟨(k+1),rfl,?_⟩,λPR=>?_⟩;(with_reducible refine DG (t:=let z5:=(quB n a b c (d:Int));let z3:=(UZ z5 n k);let z6:=(U4 (AV.fn (Fn.func 164) [] [AV.ro [QQ n a b c U O ea la],AV.ro [iI (d:Int)]]));let z10:=(zLo (List.length ord) λj=>[i (UE ord j)]);let z1:=(BitVec.toNat (BitVec.ofInt 64 (d:Int) ||| BitVec.ofInt 64 ((1:Int)*2^UZ z5 n k)));let z8:=(IntKind.wrap IntKind.i64 (z1:Int));let z4:=(orG n a b c U O (Int.toNat z8) (max Z (U z3)));let z9:=(orG n a b c U O d Z);let z7:=orH n a b c U O;let W:=(need [UO z3 n] (need [UZ z5 n k<n] (need [U4 (agg [iI (d:Int),iI Z]),QO,XY,ZC,ZH,W7,KW,KX,z6,U4 (AV.lit true),U4 (d:Int),Z=Z,ZY,List.length (z10++orL z4)+1=List.length (ord++orL z9),∀(i:Nat),i<List.length (ord++orL z9)->GL (List.length ((zLo (List.length ord) λj=>[iI (UE ord j)])++orL z4)) (λj=>[iI (UE ((zLo (List.length ord) λj=>[iI (UE ord j)])++orL z4) j)]) (UA 1 [iI (z3:Int)]) i=[iI (UE (ord++orL z9) i)],∀(k:Value),z7 k->z7 k/\orV k=orV k,n=n,∀(i:Nat),i<n->HJ (decide (i=UZ z5 n k)) [iI (max Z (U z3))] [iI (dyU z4 dy i)]=[iI (dyU z9 dy i)],ZO n a b c U O ea la,JK,QM=QM,J9,U4 (AV.x (.slice da dl dc)),QO,XY,ZC,ZH,W7] (leaf G8.ret))));let z2:=(need [U4 (agg [iI (d:Int),iI Z]),QO,XY,ZC,ZH,W7,KW,KX,z6,false=false,U4 (d:Int),Z=Z,ZY,U4 (AV.x (.slice oa ol oc)),JV ord,∀(i:Nat),i<List.length ord->[iI (UE ord i)]=[iI (UE ord i)],∀(k:Value),z7 k->z7 k/\orV k=orV k,n=n,∀(i:Nat),i<n->[iI (dy i)]=[iI (dy i)],ZO n a b c U O ea la,JK,QM=QM,J9,U4 (AV.x (.slice da dl dc)),QO,XY,ZC,ZH,W7] (leaf G8.normal));(branch (decide (max Z (U z3)>O z3)) z2 (need [(0:Int)<=(z3:Int)/\(z3:Int)<=64,VQ ((1:Int)*2^UZ z5 n k)] (need [U4 (iI 4),U4 (iI 10),W2 n a b c U O,∀(x:Value),z7 x->z7 x/\orV x=orV x,UL 1 (List.length ord) λj=>[i (UE ord j)],UL 1 n λj=>[i (dy j)],n=n,(0:Int)<=IntKind.wrap IntKind.i64 (z1:Int)/\IntKind.wrap IntKind.i64 (z1:Int)<2^n,2^n-Int.toNat z8<=N,(0:Int)<=max Z (U z3)/\max Z (U z3)<=100,List.length ord<=1000] (branch (Option.isSome (orS n a b c U O (Int.toNat z8) (max Z (U z3)))) (need [(List.length (z10++orL z4)+1)*8<=140737488355328,RY 1 (UA 1 [iI (z3:Int)])] (VR.may True W (VR.may True W W))) z2))))) VZ ?_)
 simp only [Zz0,uN,VR.sat,GW] at hQ;obtain ⟨x1,x2⟩:=hx;have h8:=VW.1;have hd:=UG.1;have hd2:=qP h8 hd;have hpn:((2^n:Nat):Int)=2^n:=VY;have h256:=AY h8;have hs:=gP hlt;have hor:=Wl1 h8 hd hs.1;have hol:=Qg3 hd hs.1;have hgt:=Zc1 h8 hd hlt;have hsv:=Qf3 VW hs.1;have h2s:(1:Int)<=2^UZ (quB n a b c d) n k/\(2:Int)^UZ (quB n a b c d) n k<=256:=hO VO;have qJ:orS n a b c U O d Z=rD (orQ n a b c U O (orS n a b c U O) d Z) 0 (quN n a b c d):=by
  rw [sH h8 Z hd,if_neg UG.2]
 simp only [VR.sat,UF,UK,hor,DR,H6,aT]
 have Qv7:((d ||| 2^UZ (quB n a b c d) n k:Nat):Int)<2^n:=by
  have h:((d ||| 2^UZ (quB n a b c d) n k:Nat):Int)<((2^n:Nat):Int):=Int.ofNat_lt.2 hol
  rwa [hpn] at h
 have Zc9:orQ n a b c U O (orS n a b c U O) d Z k=none-> ∀j,j<k+1->orQ n a b c U O (orS n a b c U O) d Z j=none:=by
  intro h1 j h2;rcases (show j=k\/j<k by omega) with rfl|h3
  exact h1;exact x2 j h3
 have hQe:orQ n a b c U O (orS n a b c U O) d Z k=(if max Z (U (UZ (quB n a b c d) n k))>O (UZ (quB n a b c d) n k) then none else match orS n a b c U O (d ||| 2^UZ (quB n a b c d) n k) (max Z (U (UZ (quB n a b c d) n k))) with
   |some l=>some (l++[(UZ (quB n a b c d) n k,max Z (U (UZ (quB n a b c d) n k)))])
   |none=>none):=rfl
 have dM: ¬max Z (U (UZ (quB n a b c d) n k))>O (UZ (quB n a b c d) n k)->(orS n a b c U O (d ||| 2^UZ (quB n a b c d) n k) (max Z (U (UZ (quB n a b c d) n k)))).isSome=true->
   (orS n a b c U O d Z).isSome=true/\orG n a b c U O d Z=orG n a b c U O (d ||| 2^UZ (quB n a b c d) n k) (max Z (U (UZ (quB n a b c d) n k)))++[(UZ (quB n a b c d) n k,max Z (U (UZ (quB n a b c d) n k)))]:=by
  intro h1 h2;obtain ⟨l,hl⟩:=Option.isSome_iff_exists.1 h2;rw [if_neg h1,hl] at hQe;have h3:orS n a b c U O d Z=some (l++[(UZ (quB n a b c d) n k,max Z (U (UZ (quB n a b c d) n k)))]):=by
   rw [qJ];exact T3 (q:=k) hQe (Ao _) VO (λj _ h4=>x2 j h4)
  unfold orG;rw [h3,hl];exact ⟨rfl,rfl⟩
 have hk1:k+1<=quN n a b c d:=hlt;have hc1: ∀x:Int,∀(j:Nat),j<1-> ∀y,y∈UA 1 [iI x] j->AV.one y=true:=λx j _ y hy=>FP hy (by simp [AV.one,Value.oneCell'])
 have hGl:=Qg4 n a b c U O (d ||| 2^UZ (quB n a b c d) n k) (max Z (U (UZ (quB n a b c d) n k)))
 have hoL: ∀l:List (Nat×Int),(orL l).length=l.length:=λl=>by simp [orL]
 refine ⟨λh=>?_,λh=>?_⟩;have hno:orQ n a b c U O (orS n a b c U O) d Z k=none:=by
  rw [hQe,if_pos h]
 exact ⟨⟨λ_ _=>trivial,λ_ h=>h,λ_ _=>trivial⟩,hk1,Zc9 hno⟩;refine ⟨⟨⟨VO,VO⟩,by simp only [VQ,Int.one_mul];omega⟩,⟨λ_ h=>h,pU _ _,pU _ _,⟨VO,Qv7⟩,VO,⟨VO,VO⟩,qD⟩,λh2=>?_,λh2=>?_⟩
 ·obtain ⟨g1,g2⟩:=dM VO h2;rw [g2];have hln:(ord++orL (orG n a b c U O (d ||| 2^UZ (quB n a b c d) n k) (max Z (U (UZ (quB n a b c d) n k))))).length<=2000:=by
   rw [Be,hoL];omega
  have hap:ord++orL (orG n a b c U O (d ||| 2^UZ (quB n a b c d) n k) (max Z (U (UZ (quB n a b c d) n k)))++[(UZ (quB n a b c d) n k,max Z (U (UZ (quB n a b c d) n k)))])=(ord++orL (orG n a b c U O (d ||| 2^UZ (quB n a b c d) n k) (max Z (U (UZ (quB n a b c d) n k)))))++[((UZ (quB n a b c d) n k:Nat):Int)]:=by
   rw [Xo8,List.append_assoc]
  have hdy:dyU (orG n a b c U O (d ||| 2^UZ (quB n a b c d) n k) (max Z (U (UZ (quB n a b c d) n k)))++[(UZ (quB n a b c d) n k,max Z (U (UZ (quB n a b c d) n k)))]) dy=UX (UZ (quB n a b c d) n k) (max Z (U (UZ (quB n a b c d) n k))) (dyU (orG n a b c U O (d ||| 2^UZ (quB n a b c d) n k) (max Z (U (UZ (quB n a b c d) n k)))) dy):=Qj4 _ _ _
  rw [hap,hdy];refine ⟨⟨VO,hc1 _⟩,?_⟩;have hin:(0<=((UZ (quB n a b c d) n k:Nat):Int)/\((UZ (quB n a b c d) n k:Nat):Int)<n):=⟨VO,by have:=hs.1;omega⟩
  have hrw: ∀j,j<((ord++orL (orG n a b c U O (d ||| 2^UZ (quB n a b c d) n k) (max Z (U (UZ (quB n a b c d) n k)))))++[((UZ (quB n a b c d) n k:Nat):Int)]).length->j<(ord++orL (orG n a b c U O (d ||| 2^UZ (quB n a b c d) n k) (max Z (U (UZ (quB n a b c d) n k))))).length+1:=λj hj=>by
   rw [Be] at hj;simpa using hj
  (with_reducible repeat' first|apply Al|intro _)
  all_goals first|exact Ak|exact hin.1|exact hin.2|exact hs.1|(rename_i E hE;cases hE;exact hQ.1 g1)|rfl|exact Ju7 (hrw _ (by assumption))|exact gW|(rw [Be (bs:=[_])];rfl)|assumption
 have hno:orQ n a b c U O (orS n a b c U O) d Z k=none:=by
  rw [hQe,if_neg VO];cases ho:orS n a b c U O (d ||| 2^UZ (quB n a b c d) n k) (max Z (U (UZ (quB n a b c d) n k))) with
  |none=>rfl
  |some l=>rw [ho] at h2;cases h2
 exact ⟨⟨λ_ _=>trivial,λ_ h=>h,λ_ _=>trivial⟩,hk1,Zc9 hno⟩;have hk:k=quN n a b c d:=VO;subst hk;simp only [Zz0,uN,VR.sat,GW] at hQ;refine hQ.2 ?_;rw [sH VW.1 Z UG.1,if_neg UG.2,rC.2 (λj _ hj=>hx.2 j VO)];rfl
theorem II{x y:Nat}{t:List (Nat×Nat)}:SA ((x,y)::t)=true↔x=y/\SA t=true:=by
 show (match Nat.beq x y with|true=>SA t|false=>false)=true↔_
 cases h:Nat.beq x y with
 |true=>simp [H5 h]
 |false=>
  simp only [Bw,false_iff,not_and];intro he;rw [he,Nat.beq_refl] at h;cases h
theorem IM{m:HA}{p:Nat×GU}(h:p∈sN m):p∈m/\Xq2 p.2=false:=by
 induction m with
 |nil=>cases h
 |cons q t ih=>
  obtain ⟨k,r⟩:=q;unfold sN at h;split at h;exact ⟨D1 _ (ih h).1,(ih h).2⟩;rename_i hb;rcases GT.1 h with rfl|h;exact ⟨GN,hb⟩;exact ⟨D1 _ (ih h).1,(ih h).2⟩
theorem LF{m:HA}{id:Nat}{p:Nat×GU}(h:p∈kB m id):p∈m/\p.1≠id:=by
 induction m with
 |nil=>cases h
 |cons q t ih=>
  obtain ⟨k,r⟩:=q;unfold kB at h;split at h;exact ⟨D1 _ (ih h).1,(ih h).2⟩;rename_i hb;rcases GT.1 h with rfl|h;refine ⟨GN,?_⟩;rintro rfl;simp at hb;exact ⟨D1 _ (ih h).1,(ih h).2⟩
theorem Qq9{e:UP}{w:World}{id o n:Nat}{f:Ci}(h:Ka2 e w id o 3 1 n f)(hr:UL 1 n f):w.ownsRow 0 3 1 (e.val id) n ((zLo n f).map (Value.int .i64)):=by
 obtain ⟨h2,hf,xs,h3,h4⟩:=h;have hx:xs=(zLo n f).map (Value.int .i64):=by
  apply List.ext_getElem?;intro j;unfold zLo;have hl:xs.length=n*1:=h3.1;rcases An j n with hj|hj;have hx:xs[j]? =some xs[j]:=D8 VO;have e1:(f j)[0]? =some (iI (col 0 f j)):=by
   rw [hr j hj];rfl
  have:=h4 j 0 _ xs[j] hj e1 (by rw [show j*1+0=j by omega];exact hx)
  rw [hx,this.x_inv];simp [hj];rw [Br VO,Br (by simp;omega)]
 subst hx;exact h3
theorem qU{e:UP}{w:World}{id n:Nat}{f:Ci}(h:GM e w id (.row 3 1 n f))(hr:UL 1 n f):w.ownsRow 0 3 1 (e.val id) n ((zLo n f).map (Value.int .i64)):=Qq9 (o:=id) h.2 hr
theorem Qg2(n:Nat)(f:Cg):zLo n (λj=>[i (f j)])=(List.range n).map f:=rfl
theorem zD{e:UP}{w:World}{id n:Nat}{f:Cg}{ov:Value}{l:List Int}(hl:e.live id)(hv:e.val id=ov)(hob: ∀x,ov.ownBlock=some x->e.own x=some id)(D5:l.length=n)(hf: ∀j,j<n->l[j]? =some (f j))(ho:w.ownsRow 0 3 1 ov n (l.map (Value.int .i64))):GM e w id (.row 3 1 n (λj=>[i (f j)])):=by
 subst hv;refine ⟨hl,hob,λi O=>⟨rfl,λa ha=>by rw [B2.1 ha];exact .x _⟩,_,ho,λi j a v O ha hv=>?_⟩
 cases j with
 |zero=>
  simp only [List.getElem?_cons_zero,HL] at ha;subst ha;rw [show i*1+0=i by omega,Bn,hf i O] at hv
  simp only [Bt,HL] at hv;rw [←hv];exact .x _
 |succ j=>simp at ha
theorem Qg7{l:List Int}{j:Nat}(h:j<l.length):l[j]? =some (UE l j):=by
 rw [IK h,D8 h]
theorem EB{n:Nat}{f:Cg}{j:Nat}(h:j<n):((List.range n).map f)[j]? =some (f j):=by
 rw [Bn,List.getElem?_range h];rfl
abbrev P5(b:Nat):Value:= .pointer (some ⟨b,0,none⟩)
abbrev Zs4(bk bg bf bo bd:Nat):Value:= .func (.func 221) #[] #[P5 bk,P5 bg,P5 bf,P5 bo,P5 bd]
def Qo8(n:Nat)(a b c U O:Cg)(N:Nat):Prop:= ∀(ea la:AV) (d:Nat) (Z:Int) (ord:List Int) (dy:Cg) (oa:Option Addr) (ol oc:Nat) (da:Option Addr) (dl dc:Nat),d<2^n->2^n-d<=N->(0<=Z/\Z<=100)->ord.length<=1000->
 Xj5 VU 221 [.agg [i d,i Z],.ptr 0 0,.ptr 1 0,.ptr 2 0,.ptr 3 0,.ptr 4 0] (OM n a b c U O ea la d Z ord dy oa ol oc da dl dc) 901 [[.ptr 0 0,.ptr 1 0,.ptr 2 0,.ptr 3 0,.ptr 4 0]] (OT_ n a b c U O ea la d Z ord dy oa ol oc da dl dc (orG n a b c U O d Z)) (OF_ n a b c U O ea la d Z ord dy oa ol oc da dl dc) (orS n a b c U O d Z).isSome
theorem Qf5{w:World}{ov:Value}{n:Nat}{xs:List Value}(h:w.ownsRow 0 3 1 ov n xs){b:Nat}(hb:ov.ownBlock=some b):b<w.heap.size:=(h.lt b hb).2
theorem Wl0{n:Nat}{a b c U O:Cg}{N:Nat}(hs:Qo8 n a b c U O N){d:Nat}{Z:Int}{ord:List Int}{dy:Cg}(h1:d<2^n)(h2:2^n-d<=N)(h3:0<=Z/\Z<=100)(h4:ord.length<=1000)
  {w:World}{bk bg bf bo bd bm:Nat}{rb dv ov:Value}{ea la:AV}{R:UP}{es:Array MapEntry}{cn:Nat}(hgl:D2 R w)
  (hk:w.heap[bk]? =some (.cells #[rb] 144 (0,0)))(hg:w.heap[bg]? =some (.cells #[.map (some bm)] 325 (0,0)))(hf:w.heap[bf]? =some (.cells #[Zs4 bk bg bf bo bd] 326 (0,0)))(hdb:w.heap[bd]? =some (.cells #[dv] 52 (0,0)))
  (ho:w.heap[bo]? =some (.cells #[ov] 52 (0,0)))(hm:w.heap[bm]? =some (.map es cn))(hes: ∀x∈es.toList,orH n a b c U O x.key/\x.val=orV x.key)
  (M3:w.ownsRow 0 3 1 ov ord.length (ord.map (Value.int .i64)))(Zd0:w.ownsRow 0 3 1 dv n (((List.range n).map dy).map (Value.int .i64)))(hov: ∃p q r,ov= .slice p q r)(hdv: ∃p q r,dv= .slice p q r)
  (hobm:bo≠bm)(hobd:bo≠bd)(hmbd:bm≠bd)(hoo: ∀x,ov.ownBlock=some x->x≠bo/\x≠bm/\x≠bd/\dv.ownBlock≠some x)(hdo: ∀x,dv.ownBlock=some x->x≠bo/\x≠bm/\x≠bd)
  (hR:Rep R w (.ro [i 4,i 10,sls n a b c U O,ea,la]) rb)(hro: ∀x,R.ro x->x<w.heap.size/\x≠bo/\x≠bm/\x≠bd/\ov.ownBlock≠some x/\dv.ownBlock≠some x)(rk:R.ro bk)(rg:R.ro bg)(rf:R.ro bf):
  Calls Tryz.prog 221 #[.agg #[.int .i64 d,.int .i64 Z],P5 bk,P5 bg,P5 bf,P5 bo,P5 bd] w λen w1=>en= .returned (.bool (orS n a b c U O d Z).isSome)/\w.heap.size<=w1.heap.size/\w1.os=w.os/\w1.tape=w.tape/\w1.output=w.output/\
   (∀x,x<w.heap.size->x≠bo->x≠bm->ov.ownBlock≠some x->dv.ownBlock≠some x->w1.heap[x]? =w.heap[x]?)/\(∃(es':Array MapEntry) (c':Nat),w1.heap[bm]? =some (.map es' c')/\ ∀x∈es'.toList,orH n a b c U O x.key/\x.val=orV x.key)/\
   ((orS n a b c U O d Z).isSome=false->w1.heap[bo]? =some (.cells #[ov] 52 (0,0))/\w1.ownsRow 0 3 1 ov ord.length (ord.map (Value.int .i64))/\w1.ownsRow 0 3 1 dv n (((List.range n).map dy).map (Value.int .i64)))/\
   ((orS n a b c U O d Z).isSome=true-> ∃y',w1.heap[bo]? =some (.cells #[y'] 52 (0,0))/\(∃p q r,y'= .slice p q r)/\w1.ownsRow 0 3 1 y' (ord++orL (orG n a b c U O d Z)).length ((ord++orL (orG n a b c U O d Z)).map (Value.int .i64))/\
    (∀x,y'.ownBlock=some x->w.heap.size<=x\/ov.ownBlock=some x)/\w1.ownsRow 0 3 1 dv n (((List.range n).map (dyU (orG n a b c U O d Z) dy)).map (Value.int .i64))):=by
 have hob:=(PK.1 ho).1;have hmb:=(PK.1 hm).1;have hbb:=(PK.1 hdb).1;obtain ⟨oa,ol,oc,hov⟩:=hov;obtain ⟨da,dl,dc,hdv⟩:=hdv
 let e0:UP:={ro:=λx=>x<w.heap.size/\x≠bo/\x≠bm/\x≠bd/\ov.ownBlock≠some x/\dv.ownBlock≠some x,own:=λx=>if x=bo then some 3 else if x=bm then some 5 else if x=bd then some 4 else if ov.ownBlock=some x then some 900 else if dv.ownBlock=some x then some 7 else none,live:=λk=>k<901,blk:=λk=>if k=0 then bk else if k=1 then bg else if k=2 then bf else if k=3 then bo else if k=4 then bd else bm,val:=λk=>if k=7 then dv else ov}
 let c0:Cx:={M:=λ_=>False,Φ:=λ_ _ _=>True,K:=λx o=>e0.ro x/\w.heap[x]? =some o,saved:=[[P5 bk,P5 bg,P5 bf,P5 bo,P5 bd]],sz:=w.heap.size}
 let w00:World:={w with heap:=#[] }
 have Wu4: ∀x,R.ro x->e0.ro x:=λx hx=>hro x hx;have o3:e0.own bo=some 3:=if_pos rfl;have o5:e0.own bm=some 5:=by simp [e0,Ne.symm hobm]
 have o4:e0.own bd=some 4:=by simp [e0,Ne.symm hobd,Ne.symm hmbd]
 have o9: ∀x,ov.ownBlock=some x->e0.own x=some 900:=by
  intro x hx;obtain ⟨q1,q2,q2',q3⟩:=hoo x hx;simp [e0,q1,q2,q2',hx]
 have o7: ∀x,dv.ownBlock=some x->e0.own x=some 7:=by
  intro x hx;obtain ⟨q1,q2,q2'⟩:=hdo x hx;have q3:ov.ownBlock≠some x:=λh=>(hoo x h).2.2.2 hx;simp [e0,q1,q2,q2',q3,hx]
 have hE:GB e0 w00.heap.size w:=by
  refine ⟨λx hx=>?_,λx k hk=>⟨Ao _,?_⟩,λq p hp=>?_⟩;obtain ⟨q0,q1,q2,q2',q3,q4⟩:=hx;exact ⟨by simp [e0,q1,q2,q2',q3,q4],q0⟩
  have hk:(if x=bo then some 3 else if x=bm then some 5 else if x=bd then some 4 else if ov.ownBlock=some x then some 900 else if dv.ownBlock=some x then some 7 else none)=some k:=hk
  split at hk;rename_i h;rw [h];exact hob;split at hk;rename_i h;rw [h];exact hmb;split at hk;rename_i h;rw [h];exact hbb;split at hk;rename_i h;exact Qf5 M3 h;split at hk;rename_i h;exact Qf5 Zd0 h;cases hk;obtain ⟨q1,q2⟩:=hgl q p hp;exact ⟨Wu4 _ q1,q2⟩
 have p0:Rep e0 w (.ptr 0 0) (P5 bk):= .ptr 0 0 (show 0<901 by omega)
 have p1:Rep e0 w (.ptr 1 0) (P5 bg):= .ptr 1 0 (show 1<901 by omega)
 have p2:Rep e0 w (.ptr 2 0) (P5 bf):= .ptr 2 0 (show 2<901 by omega)
 have p3:Rep e0 w (.ptr 3 0) (P5 bo):= .ptr 3 0 (show 3<901 by omega)
 have p4:Rep e0 w (.ptr 4 0) (P5 bd):= .ptr 4 0 (show 4<901 by omega)
 have p9:Rep e0 w (.row 900) ov:=by
  rw [hov];exact .row 900 _ _ _ (show 900<901 by omega) hov
 have p7:Rep e0 w (.row 7) dv:=by
  rw [hdv];exact .row 7 _ _ _ (show 7<901 by omega) hdv
 have p5:Rep e0 w (.mp 5) (.map (some bm)):= .mp 5 (show 5<901 by omega)
 have vZ:U8 e0 w [.ptr 0 0,.ptr 1 0,.ptr 2 0,.ptr 3 0,.ptr 4 0] [P5 bk,P5 bg,P5 bf,P5 bo,P5 bd]:= .cons p0 (.cons p1 (.cons p2 (.cons p3 (.cons p4 (.nil _ _)))));have hfn:Rep e0 w (.fn (.func 221) [] [.ptr 0 0,.ptr 1 0,.ptr 2 0,.ptr 3 0,.ptr 4 0]) (Zs4 bk bg bf bo bd):= .fn _ [] _ [] _ rfl (λi a v h=>by simp at h) vZ.1 vZ.2
 have hrb:Rep e0 w (.ro [i 4,i 10,sls n a b c U O,ea,la]) rb:=by
  refine Rep.idf (e:=R) (e':=e0) Wu4 hR ?_;cases hR with
  |ro l vs b' o' g1 g2 g3 g4 g5 g6=>exact .ro _ g3
 have hM:G5 e0 (OM n a b c U O ea la d Z ord dy oa ol oc da dl dc) w:=by
  intro p hp;unfold OM at hp;simp only [GT,DO,or_false] at hp;rcases hp with rfl|rfl|rfl|rfl|rfl|rfl|rfl|rfl|rfl|rfl;exact ⟨show 3<901 by omega,o3,[ov],ho,.cons p9 (.nil _ _)⟩
  exact ⟨show 3<901 by omega,o3,[ov],ho,.cons (by rw [hov];exact .x _) (.nil _ _)⟩
  exact zD (show 900<901 by omega) rfl o9 rfl (λj hj=>Qg7 hj) M3
  exact ⟨show 5<901 by omega,o5,es,cn,hm,hes⟩
  exact zD (show 7<901 by omega) rfl o7 VY (λj hj=>EB hj) Zd0
  exact ⟨show 0<901 by omega,Wu4 _ rk,(hro _ rk).1,[rb],hk,.cons hrb (.nil _ _)⟩
  exact ⟨show 1<901 by omega,Wu4 _ rg,(hro _ rg).1,[.map (some bm)],hg,.cons p5 (.nil _ _)⟩
  exact ⟨show 2<901 by omega,Wu4 _ rf,(hro _ rf).1,[Zs4 bk bg bf bo bd],hf,.cons hfn (.nil _ _)⟩
  exact ⟨show 4<901 by omega,o4,[dv],hdb,.cons p7 (.nil _ _)⟩
  exact ⟨show 4<901 by omega,o4,[dv],hdb,.cons (by rw [hdv];exact .x _) (.nil _ _)⟩
 have hX:Xt c0 e0 [[.ptr 0 0,.ptr 1 0,.ptr 2 0,.ptr 3 0,.ptr 4 0]] [] w:=
  ⟨⟨λd hd=>(by cases hd),By⟩,λx o hk=>⟨hk.1,hk.1.1,hk.2⟩,LK.cons vZ ⟨rfl,λi a v h=>by simp at h⟩,Am _⟩
 have hA:U8 e0 w [.agg [i d,i Z],.ptr 0 0,.ptr 1 0,.ptr 2 0,.ptr 3 0,.ptr 4 0] [.agg #[.int .i64 d,.int .i64 Z],P5 bk,P5 bg,P5 bf,P5 bo,P5 bd]:= .cons (Rep.aggL (.cons (.x _) (.cons (.x _) (.nil _ _)))) vZ;have FO:=hs ea la d Z ord dy oa ol oc da dl dc h1 h2 h3 h4 c0 w00 (λ_=>False) e0 _ w hE ⟨rfl,rfl,rfl,Ao _,λk hk=>absurd hk (Aq _)⟩ hM (λk hk=>hk) (λ_ h=>h.elim) hX rfl hA;refine FO.mono ?_;rintro en w1 ⟨hen,e1,g1,g2,g3,g4,_,g6⟩;have hsz:w.heap.size<=w1.heap.size:=g6.size;have ST: ∀x,x<w.heap.size->x≠bo->x≠bm->x≠bd->ov.ownBlock≠some x->dv.ownBlock≠some x->e1.ro x/\w1.heap[x]? =w.heap[x]? :=by
  intro x hx n1 n2 n2' n3 n4;have hk:=g6.kept x w.heap[x] ⟨⟨hx,n1,n2,n2',n3,n4⟩,by simp [hx]⟩
  exact ⟨hk.1,by rw [hk.2.2];simp [hx]⟩
 have keptR: ∀x,R.ro x->w1.heap[x]? =w.heap[x]? :=λx hx=>(ST x (hro x hx).1 (hro x hx).2.1 (hro x hx).2.2.1 (hro x hx).2.2.2.1 (hro x hx).2.2.2.2.1 (hro x hx).2.2.2.2.2).2;have hsv:(cond (orS n a b c U O d Z).isSome (OT_ n a b c U O ea la d Z ord dy oa ol oc da dl dc (orG n a b c U O d Z)) (OF_ n a b c U O ea la d Z ord dy oa ol oc da dl dc)).sv=[[.ptr 0 0,.ptr 1 0,.ptr 2 0,.ptr 3 0,.ptr 4 0]]:=by
  cases (orS n a b c U O d Z).isSome<;>rfl
 have hsd:=g6.saved;rw [hsv] at hsd;have hs1:=hsd.2 0 _ _ rfl rfl;obtain ⟨v0,l0,q,r0,hs1⟩:=hs1.cons_inv;obtain ⟨rfl,rfl⟩:=List.cons.inj q;obtain ⟨v1,l1,q,r1,hs1⟩:=hs1.cons_inv;obtain ⟨rfl,rfl⟩:=List.cons.inj q;obtain ⟨v2,l2,q,r2,hs1⟩:=hs1.cons_inv;obtain ⟨rfl,rfl⟩:=List.cons.inj q;obtain ⟨v3,l3,q,r3,hs1⟩:=hs1.cons_inv;obtain ⟨rfl,rfl⟩:=List.cons.inj q;obtain ⟨v4,l4,q,r4,_⟩:=hs1.cons_inv;obtain ⟨rfl,rfl⟩:=List.cons.inj q;have ptr_inv: ∀{k x:Nat},Rep e1 w1 (.ptr k 0) (P5 x)->e1.blk k=x:=by
  intro k x h;cases h;rfl
 have b1:=ptr_inv r1;have b3:=ptr_inv r3;have b4:=ptr_inv r4;have dL: ∀p,(p∈(OT_ n a b c U O ea la d Z ord dy oa ol oc da dl dc (orG n a b c U O d Z)).m/\p∈(OF_ n a b c U O ea la d Z ord dy oa ol oc da dl dc).m)->GM e1 w1 p.1 p.2:=by
  intro p hp;refine g3 p ?_;cases (orS n a b c U O d Z).isSome;exact hp.2;exact hp.1
 have hbd:w1.heap[bd]? =some (.cells #[dv] 52 (0,0)):=by
  obtain ⟨_,_,vs,q1,q2⟩:=dL (4,.cells 52 [.x (.slice da dl dc)]) ⟨by simp [OT_],by simp [OF_]⟩
  obtain ⟨x,xs,rfl,t1,q2⟩:=q2.cons_inv;obtain rfl:=q2.nil_inv;rw [b4,t1.x_inv,←hdv] at q1;exact q1
 have b7:e1.val 7=dv:=by
  obtain ⟨_,_,vs,q1,q2⟩:=dL (4,.cells 52 [.row 7]) ⟨by simp [OT_],by simp [OF_]⟩
  obtain ⟨x,xs,rfl,t1,q2⟩:=q2.cons_inv;obtain rfl:=q2.nil_inv;rw [b4,hbd] at q1;simp only [HL,Obj.cells.injEq] at q1;have:dv=x:=by simpa using q1.1
  subst this;clear q1 hbd;generalize dv=z at t1;cases t1 with
  |row _ a n c _ hv=>exact hv
 have hsm: ∀x,x<w.heap.size->x≠bo->x≠bm->ov.ownBlock≠some x->dv.ownBlock≠some x->w1.heap[x]? =w.heap[x]? :=by
  intro x hx n1 n2 n3 n4;rcases Classical.em (x=bd) with rfl|n5;rw [hbd,hdb];exact (ST x hx n1 n2 n5 n3 n4).2
 have b5:e1.blk 5=bm:=by
  obtain ⟨_,_,_,vs,q1,q2⟩:=dL (1,.keep 325 [.mp 5]) ⟨by simp [OT_],by simp [OF_]⟩
  obtain ⟨x,xs,rfl,t1,q2⟩:=q2.cons_inv;obtain rfl:=q2.nil_inv;rw [b1,keptR _ rg,hg] at q1;simp only [HL,Obj.cells.injEq] at q1;have:Value.map (some bm)=x:=by simpa using q1.1
  subst this;cases t1;rfl
 have Jr2: ∃(es':Array MapEntry) (c':Nat),w1.heap[bm]? =some (.map es' c')/\ ∀x∈es'.toList,orH n a b c U O x.key/\x.val=orV x.key:=by
  obtain ⟨_,_,es',c',q1,q2⟩:=dL (5,.memo (orH n a b c U O) orV) ⟨by simp [OT_],by simp [OF_]⟩
  rw [b5] at q1;exact ⟨es',c',q1,q2⟩
 refine ⟨hen,hsz,g2.os,g2.tape,g2.output,hsm,Jr2,λhb=>?_,λhb=>?_⟩;rw [hb] at g3;have k3:=g3 (3,.cells 52 [.row 900]) (by simp [OF_])
 have k3':=g3 (3,.cells 52 [.x (.slice oa ol oc)]) (by simp [OF_])
 have k9:=g3 (900,.row 3 1 ord.length (λj=>[i (UE ord j)])) (by simp [OF_])
 have k7:=g3 (7,.row 3 1 n (λj=>[i (dy j)])) (by simp [OF_])
 obtain ⟨_,_,vs,q1,q2⟩:=k3';obtain ⟨x,xs,rfl,t1,q2⟩:=q2.cons_inv;obtain rfl:=q2.nil_inv;have hx:x=ov:=by rw [hov];exact t1.x_inv
 subst hx;have q1':w1.heap[e1.blk 3]? =some (.cells #[x] 52 (0,0)):=q1;rw [b3] at q1';have h9:e1.val 900=x:=by
  obtain ⟨_,_,vs,u1,u2⟩:=k3;obtain ⟨y,ys,rfl,t2,u2⟩:=u2.cons_inv;obtain rfl:=u2.nil_inv;have u1':w1.heap[e1.blk 3]? =some (.cells #[y] 52 (0,0)):=u1;rw [b3,q1'] at u1';simp only [HL,Obj.cells.injEq] at u1';have:x=y:=by simpa using u1'.1
  subst this;clear q1' u1' q1 u1 t1;generalize x=z at t2;cases t2 with
  |row _ a n c _ hv=>exact hv
 have r9:=qU k9 (pU _ _);have r7:=qU k7 (pU _ _);rw [h9,aT] at r9;rw [b7,Qg2] at r7;exact ⟨q1',r9,r7⟩;rw [hb] at g3;have k3:=g3 (3,.cells 52 [.row 900]) (by simp [OT_])
 have k9:=g3 (900,.row 3 1 (ord++orL (orG n a b c U O d Z)).length (λj=>[i (UE (ord++orL (orG n a b c U O d Z)) j)])) (by simp [OT_])
 have k7:=g3 (7,.row 3 1 n (λj=>[i (dyU (orG n a b c U O d Z) dy j)])) (by simp [OT_])
 have k5:=g3 (5,.memo (orH n a b c U O) orV) (by simp [OT_])
 have o3':=k3.2.1;rw [b3] at o3';have o5':=k5.2.1;rw [b5] at o5';obtain ⟨_,_,vs,q1,q2⟩:=k3;obtain ⟨y,ys,rfl,t1,q2⟩:=q2.cons_inv;obtain rfl:=q2.nil_inv;have q1':w1.heap[e1.blk 3]? =some (.cells #[y] 52 (0,0)):=q1;rw [b3] at q1';have hy:(∃p q r,y= .slice p q r)/\e1.val 900=y:=by
  cases t1 with
  |row _ a n c _ hv=>exact ⟨⟨a,n,c,rfl⟩,hv⟩
 have r9:=qU k9 (pU _ _);have r7:=qU k7 (pU _ _);rw [hy.2,aT] at r9;rw [b7,Qg2] at r7;refine ⟨y,q1',hy.1,r9,λz hz=>?_,r7⟩;rcases An z w.heap.size with hlt|hge;refine .inr ?_;have hoz:e1.own z=some 900:=k9.2.1 z (by show (e1.val 900).ownBlock=some z;rw [hy.2];exact hz)
 refine Classical.byContradiction λn3=>?_;have n1:z≠bo:=by
  rintro rfl;rw [o3'] at hoz;cases hoz
 have n2:z≠bm:=by
  rintro rfl;rw [o5'] at hoz;cases hoz
 have n4:dv.ownBlock≠some z:=by
  intro h;have:=k7.2.1 z (by show (e1.val 7).ownBlock=some z;rw [b7];exact h)
  rw [this] at hoz;cases hoz
 have n5:z≠bd:=by
  rintro rfl;have:=(g3 (4,.cells 52 [.row 7]) (by simp [OT_])).2.1
  rw [b4] at this;rw [this] at hoz;cases hoz
 have hk:=ST z hlt n1 n2 n5 n3 n4;rw [(g1.apart z hk.1).1] at hoz;cases hoz;exact .inl hge
theorem LW{e e':UP}{w w1:World}{id:Nat}{r:GU}(st:Step e e' w w1)(HD: ∀x,e.own x=some id->e'.own x=some id/\w1.heap[x]? =w.heap[x]?)(hna:Xq2 r=false)(h:GM e w id r):GM e' w1 id r:=by
 cases r with
 |cells T l=>
  obtain ⟨h1,h2,vs,h3,h4⟩:=h;obtain ⟨l1,l2,l3⟩:=st.live id h1;obtain ⟨k1,k2⟩:=HD _ h2;exact ⟨l1,by rw [l2];exact k1,vs,by rw [l2,k2];exact h3,h4.step st⟩
 |ints T pre n f=>
  obtain ⟨h1,h2,vs,h3,h4⟩:=h;obtain ⟨l1,l2,l3⟩:=st.live id h1;obtain ⟨k1,k2⟩:=HD _ h2;exact ⟨l1,by rw [l2];exact k1,vs,by rw [l2,k2];exact h3,h4.step st⟩
 |memo g f=>
  obtain ⟨h1,h2,es,c,h3,h4⟩:=h;obtain ⟨l1,l2,l3⟩:=st.live id h1;obtain ⟨k1,k2⟩:=HD _ h2;exact ⟨l1,by rw [l2];exact k1,es,c,by rw [l2,k2];exact h3,h4⟩
 |keep T l=>exact LT st h
 |aka _ _ _ _ _=>cases hna
 |row T sz n f=>
  obtain ⟨h1,h2,hf,ys,h3,h4⟩:=h;obtain ⟨l1,l2,l3⟩:=st.live id h1;refine ⟨l1,λx hx=>(HD _ (h2 x (by rw [←l3];exact hx))).1,hf,ys,?_,λi j a v O ha hv=>(h4 i j a v O ha hv).step st⟩
  rw [l3];refine ⟨h3.1,h3.2.imp (λh=>h) ?_⟩;rintro ⟨g',cap',cur',hv,hg,hh,rest⟩;exact ⟨g',cap',cur',hv,hg,(HD g' (h2 g' (by rw [hv];rfl))).2.trans hh,rest⟩
theorem M8{e:UP}{w:World}{id n:Nat}{g:Ci}{ov:Value}(hr:UL 1 n g)(hl:e.live id)(hv:e.val id=ov)(hob: ∀x,ov.ownBlock=some x->e.own x=some id)(ho:w.ownsRow 0 3 1 ov n (((List.range n).map (col 0 g)).map (Value.int .i64))):GM e w id (.row 3 1 n g):=by
 have h:=zD (f:=col 0 g) hl hv hob VY (λj hj=>EB hj) ho;obtain ⟨h1,h2,h3,xs,h4,h5⟩:=h;refine ⟨h1,h2,λj hj=>?_,xs,h4,λi j a v O ha hv=>?_⟩;rw [hr j hj];exact h3 j hj;rw [hr i O] at ha;exact h5 i j a v O ha hv
theorem l9{n:Nat}{a b c U O:Cg}{N:Nat}(hs:Qo8 n a b c U O N):GH VU 221 (oV n a b c U O N):=by
 refine ⟨(UM Tryz.func221),?_⟩;intro avs m nx sv tr ht Q hQ cx w0 TT e ds args w hE hB hm hlv P2 hxt hr;unfold oV at ht;split at ht;rename_i d Z k W g z1 f z2 o z3 dd z4;split at ht;rename_i Tk c1 c2 sl ea la Tg mg Tf fg k' y0 g' y1 f' y2 o' y3 d' y4 To q Td r h1 h2 h3 h4 h5;split at ht;rename_i hh ff T1 s1 k1 g1 T2 s2 k2 g2 h6 h7 h8;split at ht;rename_i hb;rw [HF] at hb;obtain ⟨hb1,hb2⟩:=hb;simp only [II] at hb1;obtain ⟨rfl,rfl,rfl,rfl,rfl,rfl,rfl,rfl,rfl,rfl,rfl,rfl,rfl,rfl,rfl,rfl,rfl,rfl,rfl,rfl,rfl,rfl,rfl,rfl,rfl,_⟩:=hb1;rw [HF] at hb2;have hqr:q≠r:=by
  rintro rfl;simp at hb2
 have hod:o≠dd:=by
  rintro rfl;simp at hb2
 cases ht;obtain ⟨hn,hq⟩:=VR.sat_needT hQ;have hn:=GI hn;have n1:c1=i 4:=hn _ VY;have n2:c2=i 10:=hn _ VY;have n3:sl=sls n a b c U O:=hn _ VY;have n4: ∀x,hh x->orH n a b c U O x/\ff x=orV x:=hn _ VY;have n6:UL 1 k1 g1:=hn _ VY;have n7:UL 1 k2 g2:=hn _ VY;have n8:k2=n:=hn _ VY;have n9:0<=d/\d<2^n:=hn _ VY;have n10:2^n-d.toNat<=N:=hn _ VY;have n11:0<=Z/\Z<=100:=hn _ VY;have n12:k1<=1000:=hn _ VY;clear hn hQ;subst n1 n2 n3 n8;obtain ⟨d,rfl⟩: ∃d':Nat,d=d':=⟨d.toNat,VO⟩;simp only [DR] at hq n10;have hpn:((2^k2:Nat):Int)=2^k2:=VY;have hdn:d<2^k2:=by
  have h:=n9.2;rw [←hpn] at h;exact Int.ofNat_lt.1 h
 obtain ⟨v0,l1,rfl,r1,hr⟩:=hr.cons_inv;obtain ⟨v1,l1,rfl,r2,hr⟩:=hr.cons_inv;obtain ⟨v2,l2,rfl,r3,hr⟩:=hr.cons_inv;obtain ⟨v3,l3,rfl,r4,hr⟩:=hr.cons_inv;obtain ⟨v4,l4,rfl,r5,hr⟩:=hr.cons_inv;obtain ⟨v5,l5,rfl,r6,hr⟩:=hr.cons_inv;obtain rfl:=hr.nil_inv;obtain ⟨us,rfl,ru⟩:=r1.agg_inv;obtain ⟨u1,us1,rfl,q1,ru⟩:=ru.cons_inv;obtain ⟨u2,us2,rfl,q2,ru⟩:=ru.cons_inv;obtain rfl:=ru.nil_inv;obtain rfl:=q1.x_inv;obtain rfl:=q2.x_inv;have z: ∀{k:Nat} {x:Value},Rep e w (.ptr k 0) x->x=P5 (e.blk k):=by
  intro k x h;cases h;rfl
 obtain rfl:=z r2;obtain rfl:=z r3;obtain rfl:=z r4;obtain rfl:=z r5;obtain rfl:=z r6;have m4:=GA h4;obtain ⟨_,ro1,_,vs1,hp1,e1⟩:=hm _ (GA h1);obtain ⟨rb,xs,rfl,t1,e1⟩:=e1.cons_inv;obtain rfl:=e1.nil_inv;obtain ⟨_,ro2,_,vs2,hp2,e2⟩:=hm _ (GA h2);obtain ⟨mv,xs,rfl,t2,e2⟩:=e2.cons_inv;obtain rfl:=e2.nil_inv;have hmv:mv= .map (some (e.blk mg)):=by
  cases t2;rfl
 subst hmv;obtain ⟨_,ro3,_,vs3,hp3,e3⟩:=hm _ (GA h3);obtain ⟨fv,xs,rfl,t3,e3⟩:=e3.cons_inv;obtain rfl:=e3.nil_inv;obtain ⟨us,us',rfl,t6,t7⟩:=t3.fn_inv;obtain rfl:=t6.nil_inv;obtain ⟨x1,xs,rfl,s1,t7⟩:=t7.cons_inv;obtain ⟨x2,xs,rfl,s2,t7⟩:=t7.cons_inv;obtain ⟨x3,xs,rfl,s3,t7⟩:=t7.cons_inv;obtain ⟨x4,xs,rfl,s4,t7⟩:=t7.cons_inv;obtain ⟨x5,xs,rfl,s5,t7⟩:=t7.cons_inv;obtain rfl:=t7.nil_inv;obtain rfl:=z s1;obtain rfl:=z s2;obtain rfl:=z s3;obtain rfl:=z s4;obtain rfl:=z s5;obtain ⟨live4,own4,vs4,hp4,e4⟩:=hm _ m4;obtain ⟨ov,xs,rfl,t4,e4⟩:=e4.cons_inv;obtain rfl:=e4.nil_inv;obtain ⟨_,own5,vs5,hp5,e5⟩:=hm _ (GA h5);obtain ⟨dv,xs,rfl,t5,e5⟩:=e5.cons_inv;obtain rfl:=e5.nil_inv;have hov:(∃p q r,ov= .slice p q r)/\e.val q=ov:=by
  cases t4 with
  |row _ a n c _ hv=>exact ⟨⟨a,n,c,rfl⟩,hv⟩
 have hdv:(∃p q r,dv= .slice p q r)/\e.val r=dv:=by
  cases t5 with
  |row _ a n c _ hv=>exact ⟨⟨a,n,c,rfl⟩,hv⟩
 obtain ⟨live6,own6,es,cn,hp6,hes0⟩:=hm _ (GA h6);have hes: ∀x∈es.toList,orH k2 a b c U O x.key/\x.val=orV x.key:=λx hx=>by
  obtain ⟨g1,g2⟩:=hes0 x hx;exact ⟨(n4 _ g1).1,by rw [g2,(n4 _ g1).2]⟩
 have H7:=hm _ (GA h7);have H8:=hm _ (GA h8);have R7:=qU H7 n6;have R8:=qU H8 n7;simp only at hp1 hp2 hp3 hp4 hp5 hp6 own4 own6 live4 live6 R7 R8 ro1 ro2 ro3 own5;rw [hov.2] at R7;rw [hdv.2] at R8;have own7: ∀x,ov.ownBlock=some x->e.own x=some q:=λx hx=>H7.2.1 x (by show (e.val q).ownBlock=some x;rw [hov.2];exact hx)
 have own8: ∀x,dv.ownBlock=some x->e.own x=some r:=λx hx=>H8.2.1 x (by show (e.val r).ownBlock=some x;rw [hdv.2];exact hx)
 have live7:e.live q:=H7.1;have live8:e.live r:=H8.1;have ho_q:o≠q:=by
  rintro rfl;rw [h7] at h4;cases h4
 have ho_r:o≠r:=by
  rintro rfl;rw [h8] at h4;cases h4
 have ho_m:o≠mg:=by
  rintro rfl;rw [h6] at h4;cases h4
 have hm_q:mg≠q:=by
  rintro rfl;rw [h7] at h6;cases h6
 have hm_r:mg≠r:=by
  rintro rfl;rw [h8] at h6;cases h6
 have hd_q:dd≠q:=by
  rintro rfl;rw [h7] at h5;cases h5
 have hd_r:dd≠r:=by
  rintro rfl;rw [h8] at h5;cases h5
 have hd_m:dd≠mg:=by
  rintro rfl;rw [h6] at h5;cases h5
 have dne: ∀{x y j j':Nat},e.own x=some j->e.own y=some j'->j≠j'->x≠y:=by
  rintro x y j j' hx hy hj rfl;rw [hx] at hy;exact hj (Bb hy)
 have D5:(zLo k1 g1).length=k1:=by simp [zLo]
 have hro: ∀x,e.ro x->x<w.heap.size/\x≠e.blk o/\x≠e.blk mg/\x≠e.blk dd/\ov.ownBlock≠some x/\dv.ownBlock≠some x:=by
  intro x hx;obtain ⟨hx1,hx2⟩:=hE.apart x hx;have nx_: ∀{y j:Nat},e.own y=some j->x≠y:=by
   rintro y j hy rfl;rw [hx1] at hy;cases hy
  exact ⟨hx2,nx_ own4,nx_ own6,nx_ own5,λh=>(nx_ (own7 x h)) rfl,λh=>(nx_ (own8 x h)) rfl⟩
 have FO:=Wl0 hs (ord:=zLo k1 g1) (dy:=col 0 g2) hdn n10 n11 (by rw [D5];exact n12) (w:=w) (bk:=e.blk k) (bg:=e.blk g) (bf:=e.blk f) (bo:=e.blk o) (bd:=e.blk dd) (bm:=e.blk mg) (R:=e) hE.glob
  hp1 hp2 hp3 hp5 hp4 hp6 hes (by rw [D5];exact R7) R8 hov.1 hdv.1 (dne own4 own6 ho_m) (dne own4 own5 hod) (dne own6 own5 (Ne.symm hd_m)) (λx hx=>⟨dne (own7 x hx) own4 (Ne.symm ho_q),dne (own7 x hx) own6 (Ne.symm hm_q),dne (own7 x hx) own5 (Ne.symm hd_q),λh=>dne (own7 x hx) (own8 x h) hqr rfl⟩)
  (λx hx=>⟨dne (own8 x hx) own4 (Ne.symm ho_r),dne (own8 x hx) own6 (Ne.symm hm_r),dne (own8 x hx) own5 (Ne.symm hd_r)⟩) t1 hro ro1 ro2 ro3
 refine FO.mono ?_;rintro en w1 ⟨rfl,hsz,q1,q2,q3,jY,⟨es',c',hmp,hes'⟩,hF,hT⟩;rw [D5] at hF;have hlt: ∀{x j:Nat},e.own x=some j->w0.heap.size<=x:=λh=>(hE.owned _ _ h).1;have hBel:Below w0.heap.size w0 w1:=by
  refine ⟨q1.trans hB.os,q2.trans hB.tape,q3.trans hB.output,Ar hB.size hsz,λx hx=>?_⟩;have ne_: ∀{y j:Nat},e.own y=some j->x≠y:=λh he=>by have:=hlt h;omega
  rw [jY x (PJ hx hB.size) (ne_ own4) (ne_ own6) (λh=>ne_ (own7 x h) rfl) (λh=>ne_ (own8 x h) rfl)];exact hB.block x hx
 have Xr4: ∀x,x<w.heap.size->e.ro x->w1.heap[x]? =w.heap[x]? :=λx hx hx2=>jY x hx (hro x hx2).2.1 (hro x hx2).2.2.1 (hro x hx2).2.2.2.2.1 (hro x hx2).2.2.2.2.2;cases hb:(orS k2 a b c U O d Z).isSome with
 |false=>
  have hq:=hq.2 hb;obtain ⟨f1,f2,f3⟩:=hF hb;have st:Step e e w w1:=⟨λx hx hx2=>⟨hx2,Xr4 x hx hx2⟩,λ_ h=>⟨h,rfl,rfl⟩,hsz⟩;refine ⟨_,_,_,_,_,e,rfl,hq,⟨λx hx=>⟨(hE.apart x hx).1,PJ (hE.apart x hx).2 hsz⟩,λx j hx=>⟨(hE.owned x j hx).1,PJ (hE.owned x j hx).2 hsz⟩,hE.glob.step st⟩,hBel,?_,hlv,P2,hxt.step st,.lit false⟩;intro p hp;rcases RC hp with rfl|⟨hp,Zw2,_⟩;exact ⟨live6,own6,es',c',hmp,hes'⟩;rcases RC hp with rfl|⟨hp,uW,_⟩;exact M8 n7 live8 hdv.2 own8 f3;rcases RC hp with rfl|⟨hp,Zw1,_⟩;exact M8 n6 live7 hov.2 own7 f2;obtain ⟨hpm,hna⟩:=IM hp;refine LW st (λx hx=>⟨hx,?_⟩) hna (hm p hpm);rcases Classical.em (x=e.blk o) with rfl|hxo;rw [f1,hp4];exact jY x (hE.owned x _ hx).2 hxo (dne hx own6 Zw2) (λh=>dne hx (own7 x h) Zw1 rfl) (λh=>dne hx (own8 x h) uW rfl)
 |true=>
  have hq:=hq.1 hb;obtain ⟨y',t1,⟨ya,yn,yc,hy0⟩,t2,t3,t4⟩:=hT hb;have hid: ¬e.live nx:=λh=>Bf _ (hlv _ h);have hfr: ∀x j,e.own x=some j->j≠q->y'.ownBlock≠some x:=by
   intro x j hx hj h;rcases t3 x h with h|h;have:=(hE.owned x j hx).2;omega;exact dne hx (own7 x h) hj rfl
  have hfr2: ∀x,e.ro x->y'.ownBlock≠some x:=by
   intro x hx h;rcases t3 x h with h|h;have:=(hro x hx).1;omega;exact (hro x hx).2.2.2.2.1 h
  have HD: ∀x j,e.own x=some j->j≠q->(e.app nx y').own x=some j:=by
   intro x j hx hj;simp only [UP.app];rw [if_neg (hfr x j hx hj)];exact hx
  have st:Step e (e.app nx y') w w1:=⟨λx hx hx2=>⟨hx2,Xr4 x hx hx2⟩,λj hj=>⟨.inr hj,rfl,by
   have:j≠nx:=λh=>hid (h▸hj);simp [UP.app,this]⟩,hsz⟩
  have vne: ∀{j:Nat},e.live j->(e.app nx y').val j=e.val j:=λ{j} hj=>by
   have:j≠nx:=λh=>hid (h▸hj);simp [UP.app,this]
  refine ⟨_,_,_,_,_,e.app nx y',rfl,hq,⟨λx hx=>⟨?_,PJ (hE.apart x hx).2 hsz⟩,λx j hx=>?_,hE.glob.step st⟩,hBel,?_,?_,P2,hxt.step st,.lit true⟩;simp only [UP.app];rw [if_neg (hfr2 x hx)];exact (hE.apart x hx).1;simp only [UP.app] at hx;split at hx;rename_i hxb;refine ⟨?_,(t2.lt x hxb).2⟩;rcases t3 x hxb with h|h;exact Ar hB.size h;exact hlt (own7 x h);exact ⟨(hE.owned x j hx).1,PJ (hE.owned x j hx).2 hsz⟩;intro p hp;rcases GT.1 hp with rfl|hp;exact zD (ov:=y') (.inl rfl) (by simp [UP.app]) (λx hx=>by simp [UP.app,hx]) rfl (λj hj=>Qg7 hj) t2
  rcases RC hp with rfl|⟨hp,Zw2,_⟩;exact ⟨.inr live6,HD _ _ own6 hm_q,es',c',hmp,hes'⟩;rcases RC hp with rfl|⟨hp,uW,_⟩;exact zD (ov:=dv) (.inr live8) (by rw [vne live8];exact hdv.2) (λx hx=>HD _ _ (own8 x hx) (Ne.symm hqr)) VY (λj hj=>EB hj) t4
  rcases RC hp with rfl|⟨hp,Zw1,_⟩;refine ⟨.inr live4,HD _ _ own4 ho_q,[y'],t1,.cons ?_ (.nil _ _)⟩;rw [hy0];exact .row nx _ _ _ (.inl rfl) (by simp [UP.app])
  obtain ⟨hp,Jr0⟩:=LF hp;obtain ⟨hpm,hna⟩:=IM hp;refine LW st (λx hx=>⟨HD _ _ hx Jr0,?_⟩) hna (hm p hpm);exact jY x (hE.owned x _ hx).2 (dne hx own4 Zw1) (dne hx own6 Zw2) (λh=>dne hx (own7 x h) Jr0 rfl) (λh=>dne hx (own8 x h) uW rfl);rintro j (rfl|hj);exact Bk _;exact Nat.lt_succ_of_lt (hlv j hj)
 cases ht;cases ht;cases ht;cases ht
