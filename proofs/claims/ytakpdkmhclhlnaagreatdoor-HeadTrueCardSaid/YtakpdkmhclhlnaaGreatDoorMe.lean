/- Contracts, put together. Conditions: those of each. -/
import Derived.Test.YtakpdkmhclhlnaaGreatDoorMd
import Derived.Lib.Walk
import Derived.Lib.SliceRun
import Derived.Lib.AppendZerosOnto
set_option linter.unusedSimpArgs false
set_option linter.unusedVariables false
set_option maxRecDepth 100000
namespace Go.Proofs.YtakpdkmhclhlnaaGreatDoor.Bo
open Go Go.Sx Go.RowKit
open Go.Sx.VJ (need branch leaf)
open Go.Sx.AV (lst ptr agg roI tup top)
end Go.Proofs.YtakpdkmhclhlnaaGreatDoor.Bo
namespace Go.Proofs.YtakpdkmhclhlnaaGreatDoor
open Go Go.Sx Go.RowKit Bo
open Go.Sx.VJ (need branch leaf)
open Go.Sx.AV (lst ptr agg roI tup top)
theorem VW:Tryz.prog.follows .mixedOrders=true:=VQ
abbrev i(n:Int):AV:= .x (.int .i64 n)
abbrev iI(n:Int):AV:= .x (.int .i64 n)
abbrev bl(b:Bool):AV:= .x (.bool b)
abbrev bt:=Bo.bt
abbrev insB:=Bo.insB
def dnI(n d:Int):Int:=n.tdiv d
def upI(n d:Int):Int:=(n+d-1).tdiv d
theorem bt_iff(U n O:Int):bt U n O=true↔U<=n/\n<=O:=Bo.bt_iff U n O
theorem insB_iff(U a b O:Int):insB U a b O=true↔U<=a/\a<=b/\b<=O:=Bo.insB_iff U a b O
theorem gP{n d:Int}(I:0<=n)(hd:1<=d):dnI n d*d<=n/\n<dnI n d*d+d/\0<=dnI n d/\dnI n d<=n:=by
 unfold dnI;rw [Int.tdiv_eq_ediv_of_nonneg I];have h1:=Int.mul_ediv_add_emod n d;have h2:=Int.emod_nonneg n (show d≠0 by omega)
 have h3:=Int.emod_lt_of_pos n (show 0<d by omega)
 have h4:=Int.ediv_nonneg I (show 0<=d by omega)
 have h5:=Int.ediv_le_self d I;rw [Int.mul_comm] at h1;omega
theorem SN{n d:Int}(I:0<=n)(hd:1<=d):upI n d*d-d<n/\n<=upI n d*d/\0<=upI n d/\upI n d<=n:=by
 have h:=gP (n:=n+d-1) VG hd;have e:upI n d=dnI (n+d-1) d:=rfl;rw [e];refine ⟨VG,VG,h.2.2.1,?_⟩;rcases Int.lt_or_le n (dnI (n+d-1) d) with h1|h1;have h2:=Int.mul_le_mul_of_nonneg_right (show n+1<=dnI (n+d-1) d by omega) (show 0<=d by omega)
 rw [Int.add_mul,Int.one_mul] at h2;have h3:=Bz I (show 0<=d-1 by omega)
 rw [Int.mul_sub,Int.mul_one] at h3;omega;exact h1
def B8:UU
 |[.x (.int .i64 n),.x (.int .i64 U),.x (.int .i64 O)]=>some ([],bl (bt U n O))
 |_=>none
abbrev KV:Value:=Value.bool false
theorem wQ(n U O:Int):VV VL 92 [i n,i U,i O] (bl (bt U n O)):=by
 refine GS Tryz.func92 (t:=branch (decide (U<=n)) (leaf (RV.x (.bool (decide (n<=O))))) (leaf (RV.x (KV)))) VQ ?_;simp only [VJ.sat,U8,UZ,GH,UB,UE];all_goals (simp+contextual [bt,insB,Bo.bt,Bo.insB,Bool.and_assoc]);all_goals omega
theorem RF:VM VL 92 B8:=by
 refine ⟨(UC Tryz.func92),?_⟩;intro avs ns res h I;unfold B8 at h;split at h;cases h;exact wQ _ _ _;cases h
def B9:UU
 |[.agg [.x (.int .i64 a),.x (.int .i64 b)],.x (.int .i64 U),.x (.int .i64 O)]=>some ([],bl (insB U a b O))
 |_=>none
theorem xB(a b U O:Int):VV VL 98 [.agg [i a,i b],i U,i O] (bl (insB U a b O)):=by
 refine GS Tryz.func98 (t:=branch (decide (U<=a)) (branch (decide (a<=b)) (leaf (RV.x (.bool (decide (b<=O))))) (leaf (RV.x (KV)))) (leaf (RV.x (KV)))) VQ ?_;simp only [VJ.sat,U8,UZ,GH,UB,UE];all_goals (simp+contextual [bt,insB,Bo.bt,Bo.insB,Bool.and_assoc]);all_goals omega
theorem PN:VM VL 98 B9:=by
 refine ⟨(UC Tryz.func98),?_⟩;intro avs ns res h I;unfold B9 at h;split at h;cases h;exact xB _ _ _ _;cases h
def sZ:UU
 |[.x (.int .i64 n),.x (.int .i64 d)]=>some ([1<=d/\d<=100000,0<=n/\n<=1000000000000],i (dnI n d))
 |_=>none
theorem Xj9(n d:Int)(VO:1<=d/\d<=100000)(UD:0<=n/\n<=1000000000000):VV VL 76 [i n,i d] (i (dnI n d)):=by
 refine GS Tryz.func76 (t:=need [d≠0,VI (Int.tdiv n d)] (leaf (RV.x (.int .i64 (Int.tdiv n d))))) VQ ?_;have h:=gP UD.1 VO.1;unfold dnI at h ⊢;exact V9
theorem aJ:VM VL 76 sZ:=by
 refine ⟨(UC Tryz.func76),?_⟩;intro avs ns res h I;unfold sZ at h;split at h;cases h;exact Xj9 _ _ (I _ VS) (I _ VS);cases h
def Zo6:UU
 |[.x (.int .i64 n),.x (.int .i64 d)]=>some ([1<=d/\d<=100000,0<=n/\n<=1000000000000],i (upI n d))
 |_=>none
theorem Zw7(n d:Int)(VO:1<=d/\d<=100000)(UD:0<=n/\n<=1000000000000):VV VL 77 [i n,i d] (i (upI n d)):=by
 refine GS Tryz.func77 (t:=need [VI (n+d)] (need [VI (n+d-1)] (need [d≠0,VI (Int.tdiv (n+d-1) d)] (leaf (RV.x (.int .i64 (Int.tdiv (n+d-1) d))))))) VQ ?_;have h:=SN UD.1 VO.1;unfold upI at h ⊢;exact V9
theorem Qy7:VM VL 77 Zo6:=by
 refine ⟨(UC Tryz.func77),?_⟩;intro avs ns res h I;unfold Zo6 at h;split at h;cases h;exact Zw7 _ _ (I _ VS) (I _ VS);cases h
theorem Qe0{a Z:Int}(ha:0<=a/\a<=100)(hd:0<=Z/\Z<=100000):0<=a*Z/\a*Z<=10000000:=by
 have h1:=Bz ha.1 hd.1;have h2:=Bo.mul_bd (x:=a) (y:=Z) (X:=100) (Y:=100000) VG VG;omega
def Qf9:UU
 |[.agg [.x (.int .i64 a),.x (.int .i64 b)],.x (.int .i64 Z)]=>some ([0<=a/\a<=100,0<=b/\b<=100,0<=Z/\Z<=100000],.agg [i (dnI (a*Z) 100),i (upI (b*Z) 100)])
 |_=>none
theorem Wb1(a b Z:Int)(VO:0<=a/\a<=100)(UD:0<=b/\b<=100)(HO:0<=Z/\Z<=100000):VV VL 151 [.agg [i a,i b],i Z] (.agg [i (dnI (a*Z) 100),i (upI (b*Z) 100)]):=by
 refine VY (L:=[]) (Ae aJ (Ae Qy7 Aa)) VW Tryz.func151 (UR Tryz.f151) U0 (t:=need [VI (a*Z)] (need [(1:Int)<=100/\(100:Int)<=100000,(0:Int)<=a*Z/\a*Z<=1000000000000] (need [VI (b*Z)] (need [(1:Int)<=100/\(100:Int)<=100000,(0:Int)<=b*Z/\b*Z<=1000000000000] (leaf (RV.agg [RV.x (.int .i64 (dnI (a*Z) (100:Int))),RV.x (.int .i64 (upI (b*Z) (100:Int)))])))))) VQ ?_;have h1:=Qe0 VO HO;have h2:=Qe0 UD HO;exact V9
theorem cK:VM VL 151 Qf9:=by
 refine ⟨(UC Tryz.func151),?_⟩;intro avs ns res h I;unfold Qf9 at h;split at h;cases h;exact Wb1 _ _ _ (I _ VS) (I _ VS) (I _ VS);cases h
section
variable (f:Nat->Int)(k:Nat)(Z:Int)
def onL:Int:=f (4+2*k)-upI (f 3*Z) 100
def onH:Int:=f (5+2*k)-dnI (f 2*Z) 100
end
def teM(c:Int)(k:Nat):Int:=dnI (1000*k) c
def drB(f:Nat->Int):Prop:=(0<=f 2/\f 2<=100)/\(0<=f 3/\f 3<=100)
def bdB(f:Nat->Int):Prop:= ∀j,j<22-> -100000000000<=f (4+j)/\f (4+j)<=100000000000
theorem Wb2{f:Nat->Int}{Z:Int}(h:drB f)(hd:0<=Z/\Z<=100000):(0<=upI (f 3*Z) 100/\upI (f 3*Z) 100<=10000000)/\0<=dnI (f 2*Z) 100/\dnI (f 2*Z) 100<=10000000:=by
 have h1:=Qe0 h.1 hd;have h2:=Qe0 h.2 hd;have h3:=gP h1.1 (show (1:Int)<=100 by omega)
 have h4:=SN h2.1 (show (1:Int)<=100 by omega)
 omega
theorem oT(c T U O:Int)(A B:AV)(f:Nat->Int)(k:Nat)(Z:Int)(VO:drB f)(UD:bdB f)(HO:k<=10)(DZ:0<=Z/\Z<=100000):VV VL 114 [.roI [i c,i T,i U,i O,A,B] 26 f 0,i k,i Z] (i (onL f k Z)):=by
 refine VY (L:=[]) (Ae cK Aa) VW Tryz.func114 (UR Tryz.f114) U0 (t:=need [UG k 11] (need [k*2+10+0-1-1-1-1-1-1<26] (need [2+2<=26] (need [(0:Int)<=f (2+nat_lit 0)/\f (2+nat_lit 0)<=100,(0:Int)<=f (2+nat_lit 1)/\f (2+nat_lit 1)<=100,(0:Int)<=Z/\Z<=100000] (need [VI (f (k*2+10+0-1-1-1-1-1-1)-upI (f (2+nat_lit 1)*Z) (100:Int))] (leaf (RV.x (.int .i64 (f (k*2+10+0-1-1-1-1-1-1)-upI (f (2+nat_lit 1)*Z) (100:Int)))))))))) VQ ?_;have h0:=Wb2 VO DZ;have h1:=UD (2*k) VG;have h2:=UD (2*k+1) VG;rw [show 4+(2*k+1)=5+2*k by omega] at h2
 have d1:=VO.1;have d2:=VO.2
 have hi6:VI (f (4+2*k)-upI (f 3*Z) 100):=by
  simp only [VI];omega
 simp only [VJ.sat,U8,UZ,GH,UB,UE];rw [show k*2+10+0-1-1-1-1-1-1=4+2*k by omega]
 exact ⟨VG,VG,VG,⟨d1,d2,DZ⟩,hi6,rfl⟩
def m6:UU
 |[.roI [.x (.int .i64 c),.x (.int .i64 T),.x (.int .i64 U),.x (.int .i64 O),A,B] 26 f 0,.x (.int .i64 k),.x (.int .i64 Z)]=>some ([drB f,bdB f,0<=k/\k<=10,0<=Z/\Z<=100000],i (onL f k.toNat Z))
 |_=>none
theorem oS:VM VL 114 m6:=by
 refine ⟨(UC Tryz.func114),?_⟩;intro avs ns res h I;unfold m6 at h;split at h;rename_i c T U O A B f k Z;cases h;have hk:0<=k/\k<=10:=I _ VS;have e:((k.toNat:Nat):Int)=k:=VG;have h0:=oT c T U O A B f k.toNat Z (I _ VS) (I _ VS) VG (I _ VS);rw [e] at h0;exact h0;cases h
theorem a9(c T U O:Int)(A B:AV)(f:Nat->Int)(k:Nat)(Z:Int)(VO:drB f)(UD:bdB f)(HO:k<=10)(DZ:0<=Z/\Z<=100000):VV VL 115 [.roI [i c,i T,i U,i O,A,B] 26 f 0,i k,i Z] (i (onH f k Z)):=by
 refine VY (L:=[]) (Ae cK Aa) VW Tryz.func115 (UR Tryz.f115) U0 (t:=need [UG k 11] (need [k*2+10+1-1-1-1-1-1-1<26] (need [2+2<=26] (need [(0:Int)<=f (2+nat_lit 0)/\f (2+nat_lit 0)<=100,(0:Int)<=f (2+nat_lit 1)/\f (2+nat_lit 1)<=100,(0:Int)<=Z/\Z<=100000] (need [VI (f (k*2+10+1-1-1-1-1-1-1)-dnI (f (2+nat_lit 0)*Z) (100:Int))] (leaf (RV.x (.int .i64 (f (k*2+10+1-1-1-1-1-1-1)-dnI (f (2+nat_lit 0)*Z) (100:Int)))))))))) VQ ?_;have h0:=Wb2 VO DZ;have h1:=UD (2*k) VG;have h2:=UD (2*k+1) VG;rw [show 4+(2*k+1)=5+2*k by omega] at h2
 have d1:=VO.1;have d2:=VO.2
 have hi6:VI (f (5+2*k)-dnI (f 2*Z) 100):=by
  simp only [VI];omega
 simp only [VJ.sat,U8,UZ,GH,UB,UE];rw [show k*2+10+1-1-1-1-1-1-1=5+2*k by omega]
 exact ⟨VG,VG,VG,⟨d1,d2,DZ⟩,hi6,rfl⟩
def M6:UU
 |[.roI [.x (.int .i64 c),.x (.int .i64 T),.x (.int .i64 U),.x (.int .i64 O),A,B] 26 f 0,.x (.int .i64 k),.x (.int .i64 Z)]=>some ([drB f,bdB f,0<=k/\k<=10,0<=Z/\Z<=100000],i (onH f k.toNat Z))
 |_=>none
theorem a8:VM VL 115 M6:=by
 refine ⟨(UC Tryz.func115),?_⟩;intro avs ns res h I;unfold M6 at h;split at h;rename_i c T U O A B f k Z;cases h;have hk:0<=k/\k<=10:=I _ VS;have e:((k.toNat:Nat):Int)=k:=VG;have h0:=a9 c T U O A B f k.toNat Z (I _ VS) (I _ VS) VG (I _ VS);rw [e] at h0;exact h0;cases h
theorem Jb3(c T U O:Int)(A B:AV)(f:Nat->Int)(k:Nat)(Z:Int)(VO:drB f)(UD:bdB f)(HO:k<=10)(DZ:0<=Z/\Z<=100000):VV VL 72 [.roI [i c,i T,i U,i O,A,B] 26 f 0,i k,i Z] (.agg [i (onL f k Z),i (onH f k Z)]):=by
 refine VY (L:=[]) (Ae oS (Ae a8 Aa)) VW Tryz.func72 (UR Tryz.f72) U0 (t:=need [drB f,bdB f,(0:Int)<=(k:Int)/\(k:Int)<=10,(0:Int)<=Z/\Z<=100000] (need [drB f,bdB f,(0:Int)<=(k:Int)/\(k:Int)<=10,(0:Int)<=Z/\Z<=100000] (leaf (RV.agg [RV.x (.int .i64 (onL f k Z)),RV.x (.int .i64 (onH f k Z))])))) VQ ?_;simp only [VJ.sat,U8,UZ,GH,UB,UE,FC];exact ⟨⟨VO,UD,VG,DZ⟩,⟨VO,UD,VG,DZ⟩⟩
def Jn4:UU
 |[.roI [.x (.int .i64 c),.x (.int .i64 T),.x (.int .i64 U),.x (.int .i64 O),A,B] 26 f 0,.x (.int .i64 k),.x (.int .i64 Z)]=>some ([drB f,bdB f,0<=k/\k<=10,0<=Z/\Z<=100000],.agg [i (onL f k.toNat Z),i (onH f k.toNat Z)])
 |_=>none
theorem We1:VM VL 72 Jn4:=by
 refine ⟨(UC Tryz.func72),?_⟩;intro avs ns res h I;unfold Jn4 at h;split at h;rename_i c T U O A B f k Z;cases h;have hk:0<=k/\k<=10:=I _ VS;have e:((k.toNat:Nat):Int)=k:=VG;have h0:=Jb3 c T U O A B f k.toNat Z (I _ VS) (I _ VS) VG (I _ VS);rw [e] at h0;exact h0;cases h
theorem Xr1{c:Int}{k:Nat}(hc:1<=c/\c<=10)(hk:k<=10):0<=teM c k/\teM c k<=10000:=by
 have:=gP (n:=1000*k) VG hc.1;unfold teM;omega
theorem Qz0(c T U O:Int)(A B:AV)(f:Nat->Int)(k:Nat)(VO:1<=c/\c<=10)(UD:k<=10):VV VL 141 [.roI [i c,i T,i U,i O,A,B] 26 f 0,i k] (i (teM c k)):=by
 refine GS Tryz.func141 (t:=need [VI ((1000:Int)*(k:Int))] (need [c≠0,VI (Int.tdiv ((1000:Int)*(k:Int)) c)] (leaf (RV.x (.int .i64 (Int.tdiv ((1000:Int)*(k:Int)) c)))))) VQ ?_;have h:=Xr1 VO UD;unfold teM dnI at h ⊢;exact V9
def Qf7:UU
 |[.roI [.x (.int .i64 c),.x (.int .i64 T),.x (.int .i64 U),.x (.int .i64 O),A,B] 26 f 0,.x (.int .i64 k)]=>some ([1<=c/\c<=10,0<=k/\k<=10],i (teM c k.toNat))
 |_=>none
theorem Qy9:VM VL 141 Qf7:=by
 refine ⟨(UC Tryz.func141),?_⟩;intro avs ns res h I;unfold Qf7 at h;split at h;rename_i c T U O A B f k;cases h;have hk:0<=k/\k<=10:=I _ VS;have e:((k.toNat:Nat):Int)=k:=VG;have h0:=Qz0 c T U O A B f k.toNat (I _ VS) VG;rw [e] at h0;exact h0;cases h
theorem N2(c T U O:Int)(A B:AV)(f:Nat->Int)(k:Nat)(Z:Int)(VO:drB f)(UD:bdB f)(HO:k<=10)(DZ:0<=Z/\Z<=100000)(BM:1<=c/\c<=10):VV VL 97 [.roI [i c,i T,i U,i O,A,B] 26 f 0,i k,i Z] (.agg [i (onL f k Z-teM c k),i (onH f k Z-teM c k)]):=by
 refine VY (L:=[]) (Ae We1 (Ae Qy9 Aa)) VW Tryz.func97 (UR Tryz.f97) U0 (t:=need [drB f,bdB f,(0:Int)<=(k:Int)/\(k:Int)<=10,(0:Int)<=Z/\Z<=100000] (need [(1:Int)<=c/\c<=10,(0:Int)<=(k:Int)/\(k:Int)<=10] (need [VI (onL f k Z-teM c k)] (need [(1:Int)<=c/\c<=10,(0:Int)<=(k:Int)/\(k:Int)<=10] (need [VI (onH f k Z-teM c k)] (leaf (RV.agg [RV.x (.int .i64 (onL f k Z-teM c k)),RV.x (.int .i64 (onH f k Z-teM c k))]))))))) VQ ?_;have h0:=Wb2 VO DZ;have h1:=UD (2*k) VG;have h2:=UD (2*k+1) VG;rw [show 4+(2*k+1)=5+2*k by omega] at h2
 have d1:=VO.1;have d2:=VO.2
 have h5:=Xr1 BM HO;unfold onL onH;simp only [VJ.sat,U8,UZ,GH,UB,VI,UE,FC,onL,onH];refine ⟨⟨VO,UD,VG,DZ⟩,⟨BM,VG⟩,VG,⟨BM,VG⟩,VG⟩
def gZ:UU
 |[.roI [.x (.int .i64 c),.x (.int .i64 T),.x (.int .i64 U),.x (.int .i64 O),A,B] 26 f 0,.x (.int .i64 k),.x (.int .i64 Z)]=>some ([drB f,bdB f,0<=k/\k<=10,0<=Z/\Z<=100000,1<=c/\c<=10],.agg [i (onL f k.toNat Z-teM c k.toNat),i (onH f k.toNat Z-teM c k.toNat)])
 |_=>none
theorem N0:VM VL 97 gZ:=by
 refine ⟨(UC Tryz.func97),?_⟩;intro avs ns res h I;unfold gZ at h;split at h;rename_i c T U O A B f k Z;cases h;have hk:0<=k/\k<=10:=I _ VS;have e:((k.toNat:Nat):Int)=k:=VG;have h0:=N2 c T U O A B f k.toNat Z (I _ VS) (I _ VS) VG (I _ VS) (I _ VS);rw [e] at h0;exact h0;cases h
def keP(c:Int)(f:Nat->Int)(wi Z x:Int):Bool:=insB (-wi) (onL f x.toNat Z-teM c x.toNat) (onH f x.toNat Z-teM c x.toNat) wi
def mkV(p:Int)(j:Nat):List Value:=[.int .i64 (p+j)]
def Qg5:UU
 |[.x (.int .i64 x),.ro [.roI [.x (.int .i64 c),.x (.int .i64 T),.x (.int .i64 U),.x (.int .i64 O),A,B] 26 f 0],.ro [.x (.int .i64 Z)],.ro [.x (.int .i64 S),.x (.int .i64 W),.x (.int .i64 wi)]]=>some ([drB f,bdB f,1<=c/\c<=10,0<=Z/\Z<=100000,0<=wi/\wi<=1000000,0<=x/\x<=10],bl (keP c f wi Z x))
 |_=>none
section
variable (x:Int)(c T U O:Int)(A B:AV)(f:Nat->Int)(Z S W wi:Int)
theorem Wg7(VO:drB f)(UD:bdB f)(HO:1<=c/\c<=10)(DZ:0<=Z/\Z<=100000)(BM:0<=wi/\wi<=1000000)(z9:0<=x/\x<=10):VV VL 96 [i x,.ro [.roI [i c,i T,i U,i O,A,B] 26 f 0],.ro [i Z],.ro [i S,i W,i wi]] (bl (keP c f wi Z x)):=by
 refine VY (L:=[]) (Ae N0 (Ae PN Aa)) VW Tryz.func96 (UR Tryz.f96) U0 (t:=need [drB f,bdB f,(0:Int)<=x/\x<=10,(0:Int)<=Z/\Z<=100000,(1:Int)<=c/\c<=10] (need [VI (-wi)] (leaf (RV.x (.bool (insB (-wi) (onL f (Int.toNat x) Z-teM c (Int.toNat x)) (onH f (Int.toNat x) Z-teM c (Int.toNat x)) wi)))))) VQ ?_;simp only [VJ.sat,U8,UZ,GH,UB,VI,UE,keP];exact ⟨⟨VO,UD,z9,DZ,HO⟩,VG⟩
theorem Wg6:VM VL 96 Qg5:=by
 refine ⟨(UC Tryz.func96),?_⟩;intro avs ns res h I;unfold Qg5 at h;split at h;cases h;exact Wg7 _ _ _ _ _ _ _ _ _ _ _ _ (I _ VS) (I _ VS) (I _ VS) (I _ VS) (I _ VS) (I _ VS);cases h
theorem Wv2(VO:drB f)(UD:bdB f)(HO:1<=c/\c<=10)(DZ:0<=Z/\Z<=100000)(BM:0<=wi/\wi<=1000000)(z9:0<=x/\x<=10):VV VL 138 [i x,.ro [.fn (.func 96) [] [.ro [.roI [i c,i T,i U,i O,A,B] 26 f 0],.ro [i Z],.ro [i S,i W,i wi]]]] (bl (!(keP c f wi Z x))):=by
 refine VY (L:=[]) (Ae Wg6 Aa) VW Tryz.func138 (UR Tryz.f138) U0 (t:=need [drB f,bdB f,(1:Int)<=c/\c<=10,(0:Int)<=Z/\Z<=100000,(0:Int)<=wi/\wi<=1000000,(0:Int)<=x/\x<=10] (leaf (RV.x (.bool !keP c f wi Z x)))) VQ ?_;simp only [VJ.sat,U8,UZ,GH,UB,UE];exact ⟨VO,UD,HO,DZ,BM,z9⟩
end
def Qh7:UU
 |[.x (.int .i64 x),.ro [.fn (.func 96) [] [.ro [.roI [.x (.int .i64 c),.x (.int .i64 T),.x (.int .i64 U),.x (.int .i64 O),A,B] 26 f 0],.ro [.x (.int .i64 Z)],.ro [.x (.int .i64 S),.x (.int .i64 W),.x (.int .i64 wi)]]]]=>some ([drB f,bdB f,1<=c/\c<=10,0<=Z/\Z<=100000,0<=wi/\wi<=1000000,0<=x/\x<=10],bl (!(keP c f wi Z x)))
 |_=>none
theorem lU:VM VL 138 Qh7:=by
 refine ⟨(UC Tryz.func138),?_⟩;intro avs ns res h I;unfold Qh7 at h;split at h;cases h;exact Wv2 _ _ _ _ _ _ _ _ _ _ _ _ (I _ VS) (I _ VS) (I _ VS) (I _ VS) (I _ VS) (I _ VS);cases h
abbrev WA(c:Int)(T:Int)(U:Int)(O:Int)(A:AV)(B:AV)(f:Nat->Int)(Z:Int)(S:Int)(W:Int)(wi:Int):AV:=AV.fn (Fn.func 138) [] [AV.ro [AV.fn (Fn.func 96) [] [AV.ro [roI [iI c,iI T,iI U,iI O,A,B] 26 (λa=>f a) 0],AV.ro [iI Z],AV.ro [iI S,iI W,iI wi]]]]
section
variable (n:Nat)(g:Nat->Int)
abbrev K8:AV:=lst 1 n λk=>[iI (g k)]
def Xa5(c T U O:Int)(A B:AV)(f:Nat->Int)(Z S W wi:Int):St:={σ:=[K8 n g,WA c T U O A B f Z S W wi]++HF 5 [iI (n:Int)]++HF 11 [],m:=[],nx:=4}
noncomputable def Jo9:Code:=U7 (VP (U5 Tryz.f172) 0)
def Wg9(c T U O:Int)(A B:AV)(f:Nat->Int)(Z S W wi:Int)(k:Nat):St:=(upM [(8,i k)] (Xa5 n g c T U O A B f Z S W wi))
def dG(c T U O:Int)(A B:AV)(f:Nat->Int)(Z S W wi:Int)(k:Nat):G4->Option St
 | .ret=>some (upM [(4,i (GT ((λk=> !(keP c f wi Z (g k)))) n))] (Xa5 n g c T U O A B f Z S W wi))
 | .exit 0=>some (upM [] (Xa5 n g c T U O A B f Z S W wi))
 |_=>none
def Jj6(c T U O:Int)(A B:AV)(f:Nat->Int)(Z S W wi:Int):CT:= .branch (decide (GT ((λk=> !(keP c f wi Z (g k)))) n<n)) (.leaf (.ret,(dG n g c T U O A B f Z S W wi 0 .ret).getD (Xa5 n g c T U O A B f Z S W wi))) (.leaf (.exit 0,(dG n g c T U O A B f Z S W wi 0 (.exit 0)).getD (Xa5 n g c T U O A B f Z S W wi)))
def Xu5(c T U O:Int)(A B:AV)(f:Nat->Int)(Z S W wi:Int):UF:=(HD (Wg9 n g c T U O A B f Z S W wi (0)) (Jj6 n g c T U O A B f Z S W wi))
theorem Zu0(c T U O:Int)(A B:AV)(f:Nat->Int)(Z S W wi:Int)(VO:n<=100000)(UD:drB f)(HO:bdB f)(DZ:1<=c/\c<=10)(BM:0<=Z/\Z<=100000)(z9:0<=wi/\wi<=1000000)(o1: ∀j,j<n->0<=g j/\g j<=10):G5 VL (.loop Jo9) (Xu5 n g c T U O A B f Z S W wi):=by
 refine HC (L:=[]) (Ae lU Aa) VW U0 (X:=Nat) (Wg9 n g c T U O A B f Z S W wi) (λk=>k<=n/\ ∀j,j<k->(λk=> !(keP c f wi Z (g k))) j=false) (λk=>n-k) (dG n g c T U O A B f Z S W wi) (x0:=0) ⟨VG,λj hj=>VG⟩ ?_ ?_ ?_;rintro k;kernel_rfl;rintro k y E h;unfold dG at h;split at h;cases h;kernel_rfl;cases h;kernel_rfl;cases h
 ·rintro Q hQ k hx;refine ⟨(k+1),?_⟩;(with_reducible refine DA (t:=let z0:=(VU (WA c T U O A B f Z S W wi));(branch (decide ((k:Int)<(n:Int))) (need [UG k n] (need [drB λa=>f a,bdB λa=>f a,(1:Int)<=c/\c<=10,(0:Int)<=Z/\Z<=100000,(0:Int)<=wi/\wi<=1000000,(0:Int)<=g k/\g k<=10] (branch (!keP c (λa=>f a) wi Z (g k)) (need [VU (K8 n g),z0,(k:Int)=(↑(GT (λk=> !keP c f wi Z (g k)) n):Int),VU (n:Int)] (leaf G4.ret)) (need [VI ((k:Int)+1)] (need [VU (K8 n g),z0,VU (n:Int),(k:Int)+1=(↑(k+1):Int)] (leaf G4.normal)))))) (need [VU (K8 n g),z0,VU (n:Int)] (leaf (G4.exit 0))))) VQ ?_)
  simp only [Jj6,dG,VJ.sat,GQ,H6] at hQ;simp only [VJ.sat,U8,UE,H6,VI,dG,FC];refine ⟨λh=>⟨VG,⟨UD,HO,DZ,BM,z9,o1 k VG⟩,?_⟩,λh=>?_⟩
  rotate_left
  have hf:GT ((λk=> !(keP c f wi Z (g k)))) n=n:=BX (λj hj=>hx.2 j VG);intro E hE;cases hE;exact hQ.2 VG;refine ⟨λhb=>?_,λhb=>?_⟩;have hf:GT ((λk=> !(keP c f wi Z (g k)))) n=k:=zM VG hb hx.2;refine ⟨VG,λE hE=>?_⟩;cases hE;exact hQ.1 VG;refine ⟨VG,VG,⟨VG,λj hj=>?_⟩,VG⟩;rcases (show j<k\/j=k by omega) with h1|rfl
  exact hx.2 j h1;exact hb
theorem Xz5(c T U O:Int)(A B:AV)(f:Nat->Int)(Z S W wi:Int)(VO:n<=100000)(UD:drB f)(HO:bdB f)(DZ:1<=c/\c<=10)(BM:0<=Z/\Z<=100000)(z9:0<=wi/\wi<=1000000)(o1: ∀j,j<n->0<=g j/\g j<=10):VV VL 172 [.lst 1 n (λk=>[i (g k)]),.fn (.func 138) [] [.ro [.fn (.func 96) [] [.ro [.roI [i c,i T,i U,i O,A,B] 26 f 0],.ro [i Z],.ro [i S,i W,i wi]]]]] (i (if GT ((λk=> !(keP c f wi Z (g k)))) n<n then (GT ((λk=> !(keP c f wi Z (g k)))) n:Int) else -1)):=by
 refine VY (L:=[Xu5 n g c T U O A B f Z S W wi]) (Ae lU Aa) VW Tryz.func172 (UR Tryz.f172) (G0 (lpE (b:= .loop Jo9) VQ<|Zu0 n g c T U O A B f Z S W wi VO UD HO DZ BM z9 o1)) (t:=need [VU (K8 n g),VU (WA c T U O A B f Z S W wi),VU (n:Int),(0:Int)=(↑(0:Nat):Int)] (branch (decide (GT (λk=> !keP c f wi Z (g k)) n<n)) (leaf (RV.x (.int .i64 (↑(GT (λk=> !keP c f wi Z (g k)) n):Int)))) (leaf (RV.x (.int .i64 (-1:Int)))))) VQ ?_
 exact V8
end
def Xt8:UU
 |[.lst 1 n g,.fn (.func 138) [] [.ro [.fn (.func 96) [] [.ro [.roI [.x (.int .i64 c),.x (.int .i64 T),.x (.int .i64 U),.x (.int .i64 O),A,B] 26 f 0],.ro [.x (.int .i64 Z)],.ro [.x (.int .i64 S),.x (.int .i64 W),.x (.int .i64 wi)]]]]]=>some ([U9 1 n g,n<=100000,drB f,bdB f,1<=c/\c<=10,0<=Z/\Z<=100000,0<=wi/\wi<=1000000,∀j,j<n->0<=col 0 g j/\col 0 g j<=10],i (if GT ((λk=> !(keP c f wi Z (col 0 g k)))) n<n then (GT ((λk=> !(keP c f wi Z (col 0 g k)))) n:Int) else -1))
 |_=>none
theorem Xz4:VM VL 172 Xt8:=by
 refine ⟨(UC Tryz.func172),?_⟩;intro avs ns res h I;unfold Xt8 at h;split at h;cases h;have hr:U9 1 _ _:=I _ (GB);exact (Xz5 _ (col 0 _) _ _ _ _ _ _ _ _ _ _ _ (I _ VS) (I _ VS) (I _ VS) (I _ VS) (I _ VS) (I _ VS) (I _ VS)).same (.cons (.lst 1 _ _ _ hr) (.cons (.refl _) .nil));cases h
theorem Zn6(n:Nat)(g:Nat->Int)(c T U O:Int)(A B:AV)(f:Nat->Int)(Z S W wi:Int)(VO:n<=100000)(UD:drB f)(HO:bdB f)(DZ:1<=c/\c<=10)(BM:0<=Z/\Z<=100000)(z9:0<=wi/\wi<=1000000)(o1: ∀j,j<n->0<=g j/\g j<=10):VV VL 137 [.lst 1 n (λk=>[i (g k)]),.fn (.func 138) [] [.ro [.fn (.func 96) [] [.ro [.roI [i c,i T,i U,i O,A,B] 26 f 0],.ro [i Z],.ro [i S,i W,i wi]]]]] (bl (!HW (λk=>keP c f wi Z (g k)) n)):=by
 refine VY (L:=[]) (Ae Xz4 Aa) VW Tryz.func137 (UR Tryz.f137) U0 (t:=need [U9 1 n λk=>[i (g k)],n<=100000,drB f,bdB f,(1:Int)<=c/\c<=10,(0:Int)<=Z/\Z<=100000,(0:Int)<=wi/\wi<=1000000,∀(j:Nat),j<n->(0:Int)<=g j/\g j<=10] (leaf (RV.x (.bool (decide ((if GT (λk=> !keP c f wi Z (g k)) n<n then (↑(GT (λk=> !keP c f wi Z (g k)) n):Int) else (-1:Int))>=(0:Int))))))) VQ ?_
 simp only [VJ.sat,U8,UZ,UB,UE];refine ⟨⟨λ_ _=>rfl,VO,UD,HO,DZ,BM,z9,o1⟩,?_⟩;rw [kH];have e:(λk=> !(λk=>keP c f wi Z (g k)) k)=(λk=> !(keP c f wi Z (g k))):=rfl;rw [e];show decide ((if GT (λk=> !(keP c f wi Z (g k))) n<n then (GT (λk=> !(keP c f wi Z (g k))) n:Int) else -1)>=0)=_
 have:=F0 ((λk=> !(keP c f wi Z (g k)))) n;split<;>simp<;>omega
def Xu3:UU
 |[.lst 1 n g,.fn (.func 138) [] [.ro [.fn (.func 96) [] [.ro [.roI [.x (.int .i64 c),.x (.int .i64 T),.x (.int .i64 U),.x (.int .i64 O),A,B] 26 f 0],.ro [.x (.int .i64 Z)],.ro [.x (.int .i64 S),.x (.int .i64 W),.x (.int .i64 wi)]]]]]=>some ([U9 1 n g,n<=100000,drB f,bdB f,1<=c/\c<=10,0<=Z/\Z<=100000,0<=wi/\wi<=1000000,∀j,j<n->0<=col 0 g j/\col 0 g j<=10],bl (!HW (λk=>keP c f wi Z (col 0 g k)) n))
 |_=>none
theorem Zn5:VM VL 137 Xu3:=by
 refine ⟨(UC Tryz.func137),?_⟩;intro avs ns res h I;unfold Xu3 at h;split at h;cases h;have hr:U9 1 _ _:=I _ (GB);exact (Zn6 _ (col 0 _) _ _ _ _ _ _ _ _ _ _ _ (I _ VS) (I _ VS) (I _ VS) (I _ VS) (I _ VS) (I _ VS) (I _ VS)).same (.cons (.lst 1 _ _ _ hr) (.cons (.refl _) .nil));cases h
theorem Xm4(n:Nat)(g:Nat->Int)(c T U O:Int)(A B:AV)(f:Nat->Int)(Z S W wi:Int)(VO:n<=100000)(UD:drB f)(HO:bdB f)(DZ:1<=c/\c<=10)(BM:0<=Z/\Z<=100000)(z9:0<=wi/\wi<=1000000)(o1: ∀j,j<n->0<=g j/\g j<=10):VV VL 93 [.lst 1 n (λk=>[i (g k)]),.fn (.func 96) [] [.ro [.roI [i c,i T,i U,i O,A,B] 26 f 0],.ro [i Z],.ro [i S,i W,i wi]]] (bl (HW (λk=>keP c f wi Z (g k)) n)):=by
 refine VY (L:=[]) (Ae Zn5 Aa) VW Tryz.func93 (UR Tryz.f93) U0 (t:=need [U9 1 n λk=>[i (g k)],n<=100000,drB f,bdB f,(1:Int)<=c/\c<=10,(0:Int)<=Z/\Z<=100000,(0:Int)<=wi/\wi<=1000000,∀(j:Nat),j<n->(0:Int)<=g j/\g j<=10] (leaf (RV.x (.bool !!HW (λk=>keP c f wi Z (g k)) n)))) VQ ?_;simp only [VJ.sat,U8,UZ,UB,UE];refine ⟨⟨λ_ _=>rfl,VO,UD,HO,DZ,BM,z9,o1⟩,?_⟩;show (!!HW (λk=>keP c f wi Z (g k)) n)=_
 simp
def Wx3:UU
 |[.lst 1 n g,.fn (.func 96) [] [.ro [.roI [.x (.int .i64 c),.x (.int .i64 T),.x (.int .i64 U),.x (.int .i64 O),A,B] 26 f 0],.ro [.x (.int .i64 Z)],.ro [.x (.int .i64 S),.x (.int .i64 W),.x (.int .i64 wi)]]]=>some ([U9 1 n g,n<=100000,drB f,bdB f,1<=c/\c<=10,0<=Z/\Z<=100000,0<=wi/\wi<=1000000,∀j,j<n->0<=col 0 g j/\col 0 g j<=10],bl (HW (λk=>keP c f wi Z (col 0 g k)) n))
 |_=>none
theorem Xm3:VM VL 93 Wx3:=by
 refine ⟨(UC Tryz.func93),?_⟩;intro avs ns res h I;unfold Wx3 at h;split at h;cases h;have hr:U9 1 _ _:=I _ (GB);exact (Xm4 _ (col 0 _) _ _ _ _ _ _ _ _ _ _ _ (I _ VS) (I _ VS) (I _ VS) (I _ VS) (I _ VS) (I _ VS) (I _ VS)).same (.cons (.lst 1 _ _ _ hr) (.cons (.refl _) .nil));cases h
def aX:UU
 |[.x (.int .i64 p),.x (.int .i64 q)]=>some ([],.fn (.func 140) [] [.ro [i p],.ro [i q]])
 |_=>none
abbrev XS(p:Int)(q:Int):AV:=AV.fn (Fn.func 140) [] [AV.ro [iI p],AV.ro [iI q]]
abbrev JW:Ext:={}
theorem Wf5(p q:Int):DH VL 95 [i p,i q] (.fn (.func 140) [] [.ro [i p],.ro [i q]]):=by
 refine HE (L:=[]) Aa Ad VW Tryz.func95 (UR Tryz.f95) UV (t:=leaf (XS p q)) VQ ?_;exact rfl
theorem dN:L2 VL 95 aX:=by
 refine ⟨(UC Tryz.func95),?_⟩;intro avs ns res h I;unfold aX at h;split at h;cases h;exact Wf5 _ _;cases h
section
variable (l:Nat)
abbrev YF:AV:=AV.fn (Fn.yield l) [] []
def Xb2(p q:Int):St:={σ:=[YF l,AV.ro [iI p],AV.ro [iI q]]++HF 12 [],m:=[],nx:=2,gh:=some 0}
noncomputable def Zt3:Code:=U7 (VP (U5 Tryz.f140) 0)
def a6(p q:Int)(j:Nat):St:={σ:=H0 [(4,i (p+j))] (Xb2 l p q).σ,m:=[],nx:=0,gh:=some (j) }
def jP(p q:Int)(j:Nat):G4->Option St
 | .exit 0=>some {σ:=H0 [] (Xb2 l p q).σ,m:=[],nx:=0,gh:=some ((q-p+1).toNat) }
 | .ret=>some {σ:=H0 [] (Xb2 l p q).σ,m:=[],nx:=0,gh:=none}
 |_=>none
def Jl4(p q:Int):CT:= .may True (.leaf (.exit 0,(jP l p q 0 (.exit 0)).getD (Xb2 l p q))) (.leaf (.ret,(jP l p q 0 .ret).getD (Xb2 l p q)))
def Xw5(p q:Int):UF:=GG [] (HD (a6 l p q (0)) (Jl4 l p q))
theorem Jb8(p q:Int)(VO: -1000000<=p/\p<=1000000)(UD: -1000000<=q/\q<=1000000){cx:Cx}(hX:VT VL {Y:=some (l,((q-p+1).toNat),(mkV p)) } cx):HH VL none cx (.loop Zt3) (Xw5 l p q):=by
 refine FH [] (L:=[]) Aa hX VW UV (V:=Nat) (a6 l p q) (λj=>j<=((q-p+1).toNat)) (λj=>((q-p+1).toNat)-j) (jP l p q) (x0:=0) VS ?_ ?_ ?_;rintro j;kernel_rfl;rintro j y E h;unfold jP at h;split at h;cases h;kernel_rfl;cases h;kernel_rfl;cases h
 ·rintro Q hQ j hx;refine ⟨(j+1),?_⟩;have e:HU VL [] {Y:=some (l,((q-p+1).toNat),(mkV p)) } [] [] Zt3 (a6 l p q j) (a6 l p q ((j+1))) (jP l p q j)=(branch (decide (p+(j:Int)<=q)) (need [l=l,j<(q-p+1).toNat,VU ([Value.int IntKind.i64 (p+(j:Int))])] (VJ.may True (need [VI (p+(j:Int)+1)] (need [YF l=YF l,VU (AV.ro [iI p]),VU (AV.ro [iI q]),p+(j:Int)+1=p+(↑(j+1):Int),j+1=j+1] (leaf G4.normal))) (need [YF l=YF l,VU (AV.ro [iI p]),VU (AV.ro [iI q])] (leaf G4.ret)))) (need [YF l=YF l,VU (AV.ro [iI p]),VU (AV.ro [iI q]),j=(q-p+1).toNat] (leaf (G4.exit 0)))):=VQ;rw [e];simp only [Jl4,jP,VJ.sat,GQ] at hQ;have hQ1: ∀E,jP l p q j (.exit 0)=some E->Q (.exit 0,E):=λE hE=>by cases hE;exact hQ.1 trivial
  have hQ2: ∀E,jP l p q j .ret=some E->Q (.ret,E):=λE hE=>by cases hE;exact hQ.2
  simp only [VJ.sat,U8,UE,H6,VI,FC];clear e hQ;all_goals exact V3
end
theorem EM(p q:Int)(VO: -1000000<=p/\p<=1000000)(UD: -1000000<=q/\q<=1000000):B7 Tryz.prog 140 [.ro [i p],.ro [i q]] (((q-p+1).toNat)) (mkV p):=by
 refine BJ (L:=λl=>[Xw5 l p q]) Aa VW (UC Tryz.func140) Tryz.func140 (UR Tryz.f140) VQ (λl cx hX=>G0 (lpE (b:= .loop Zt3) VQ<|Jb8 l p q VO UD hX)) (t:=λl=>(need [VU (AV.fn (Fn.yield l) [] []),VU (AV.ro [iI p]),VU (AV.ro [iI q]),p=p+(↑(0:Nat):Int),0=0] (VJ.may True (need [VU (q-p+1).toNat] (leaf PUnit.unit)) (leaf PUnit.unit)))) (λl=>VQ) ?_
 intro l;simp only [VJ.sat,U8,UZ,GH,UB,VI,UE,H6,FW];all_goals exact V3
theorem cat1{p:Int}{k j:Nat}(h:j<k+1):GE k (λj=>[i (p+j)]) (U3 1 [i (p+k)]) j=[i (p+j)]:=by
 show H9 (decide (j<k)) [i (p+j)] (U3 1 [i (p+k)] (j-k))=_;rw [show j-k=0 by omega]
 by_cases hj:j<k;rw [decide_eq_true hj];rfl;obtain rfl:j=k:=VG;rw [decide_eq_false hj];rfl
abbrev Z8:AV:=AV.x (.slice none 0 0)
section
variable (p q:Int)
def Jo8:St:={σ:=[Z8,XS p q,ptr 0 0,top,Z8,top,XS p q]++HF 6 [],m:=[(900,GL.row 3 1 0 λx=>[]),(0,GL.cells 22 [AV.row 900])],nx:=901}
def rfF:Option Code->Operand
 |some (.rangeFunc f _ _ _)=>f
 |_=> .const .nilFunc
def jK:Option Code->Array Nat
 |some (.rangeFunc _ ps _ _)=>ps
 |_=>#[]
def SW:Option Code->Code
 |some (.rangeFunc _ _ a _)=>a
 |_=> .skip
def SV:Option Code->Code
 |some (.rangeFunc _ _ _ b)=>b
 |_=> .skip
noncomputable def Js7:Code:=SW (VP (U5 Tryz.f139) 0)
noncomputable def Js1:Code:=SV (VP (U5 Tryz.f139) 0)
def pE(k:Nat):St:={σ:=H0 [] (Jo8 p q).σ,m:=[(900,.row 3 1 k (λj=>[i (p+j)])),(0,.cells 22 [.row 900])],nx:=901}
def oE(k:Nat):G4->Option St
 | .normal=>some {σ:=H0 [] (Jo8 p q).σ,m:=[(900,.row 3 1 ((q-p+1).toNat) (λj=>[i (p+j)])),(0,.cells 22 [.row 900])],nx:=901}
 |_=>none
def T_as:CT:= .leaf (.normal,pE p q ((q-p+1).toNat))
def Xy7:UF:=GG [(.cell 0 0,900,3,1)] (HD (pE p q (0)) (T_as p q))
abbrev KI:Prop:=ptr 0 0=ptr 0 0
theorem Jj2(VO: -1000000<=p/\p<=1000000)(UD: -1000000<=q/\q<=1000000):HN VL (.rangeFunc (rfF (VP (U5 Tryz.f139) 0)) (jK (VP (U5 Tryz.f139) 0)) Js7 Js1) (Xy7 p q):=by
 refine P6 [(.cell 0 0,900,3,1)] (L:=[]) Aa Ad VW U0 (V:=Nat) (pE p q) (λk=>k<=((q-p+1).toNat)) (λk=>k) (oE p q) (x0:=0) VS rfl ?_ ?_ ?_ ?_ (g:=140) (caps:=[.ro [i p],.ro [i q]]) VQ VQ (EM p q VO UD) (λ_=>rfl) ?_;rintro k;kernel_rfl;rintro k y E h;unfold oE at h;split at h;cases h;kernel_rfl;cases h;rintro k;rfl;rintro k y E h;unfold oE at h;split at h;cases h;rfl;cases h;rintro Q hQ k hx;refine ⟨λhlt=>⟨(k+1),rfl,?_⟩,λPG=>?_⟩;(with_reducible refine DA (t:=need [(k+1)*8<=140737488355328,RQ 1 (U3 1 [iI (p+(k:Int))])] (need [Z8=Z8,VU (XS p q),KI,Z8=Z8,VU (XS p q),k+1=k+1,GR (k+1) (GE k (λj=>[iI (p+(j:Int))]) (U3 1 [iI (p+(k:Int))])) (λi=>[iI (p+(i:Int))]),VU (AV.row 900)] (leaf G4.normal))) VQ ?_)
 simp only [VJ.sat,U8,UE]
 refine ⟨⟨VG,λj hj a ha=>FM ha (by simp [AV.one,Value.oneCell'])⟩,λj hj=>?_,VG⟩
 exact cat1 hj;subst PG;exact hQ
end
def mkF(p:Int)(j:Nat):List AV:=[i (p+j)]
theorem Qt2(p q:Int)(VO: -1000000<=p/\p<=1000000)(UD: -1000000<=q/\q<=1000000):VV VL 139 [.x (.slice none 0 0),.fn (.func 140) [] [.ro [i p],.ro [i q]]] (.lst 1 ((q-p+1).toNat) (mkF p)):=by
 refine G9 (L:=[Xy7 p q]) Aa Ad VW Tryz.func139 (UR Tryz.f139) (G0 (lpE (b:= .rangeFunc (rfF (VP (U5 Tryz.f139) 0)) (jK (VP (U5 Tryz.f139) 0)) Js7 Js1) VQ<|Jj2 p q VO UD)) (t:=need [Z8=Z8,VU (XS p q),KI,Z8=Z8,VU (XS p q),0=0,∀(i:Nat),i<0->[]=[iI (p+(i:Int))],VU (AV.row 900)] (leaf (RV.lst 1 (q-p+1).toNat λj=>[iI (p+(j:Int))]))) VQ ?_
 simp only [VJ.sat,U8,UZ,GH,UB,UE]
 (with_reducible repeat' first|apply Al|intro _)
 all_goals first|exact Ak|omega|with_reducible rfl|assumption|rfl|(rename_i h;exact absurd h (Aq _))|(rename_i hm;cases qL.1 hm;exact Ak)|skip
def mG:UU
 |[.x (.slice none 0 0),.fn (.func 140) [] [.ro [.x (.int .i64 p)],.ro [.x (.int .i64 q)]]]=>some ([-1000000<=p/\p<=1000000,-1000000<=q/\q<=1000000],.lst 1 ((q-p+1).toNat) (mkF p))
 |_=>none
theorem Qt1:VM VL 139 mG:=by
 refine ⟨(UC Tryz.func139),?_⟩;intro avs ns res h I;unfold mG at h;split at h;cases h;exact Qt2 _ _ (I _ VS) (I _ VS);cases h
def SB:UU
 |[.fn (.func 140) [] [.ro [.x (.int .i64 p)],.ro [.x (.int .i64 q)]]]=>some ([-1000000<=p/\p<=1000000,-1000000<=q/\q<=1000000],.lst 1 ((q-p+1).toNat) (mkF p))
 |_=>none
theorem s8(p q:Int)(VO: -1000000<=p/\p<=1000000)(UD: -1000000<=q/\q<=1000000):DH VL 94 [.fn (.func 140) [] [.ro [i p],.ro [i q]]] (.lst 1 ((q-p+1).toNat) (mkF p)):=by
 refine HE (L:=[]) (Ae Qt1 Aa) Ad VW Tryz.func94 (UR Tryz.f94) UV (t:=need [(-1000000:Int)<=p/\p<=1000000,(-1000000:Int)<=q/\q<=1000000] (leaf (lst 1 (q-p+1).toNat λj=>[iI (p+(j:Int))]))) VQ ?_;simp only [VJ.sat,U8,UE];exact ⟨⟨VO,UD⟩,rfl,rfl,λ_ _=>rfl⟩
theorem lE:L2 VL 94 SB:=by
 refine ⟨(UC Tryz.func94),?_⟩;intro avs ns res h I;unfold SB at h;split at h;cases h;exact s8 _ _ (I _ VS) (I _ VS);cases h
def keB(c:Int)(f:Nat->Int)(S W wi Z:Int):Bool:=HW (λk=>keP c f wi Z (S+k)) (W-S+1).toNat
def Ww5:UU
 |[.roI [.x (.int .i64 c),.x (.int .i64 T),.x (.int .i64 U),.x (.int .i64 O),A,B] 26 f 0,.agg [.x (.int .i64 S),.x (.int .i64 W),.x (.int .i64 wi)],.x (.int .i64 Z)]=>some ([drB f,bdB f,1<=c/\c<=10,0<=S/\S<=W/\W<=10,0<=wi/\wi<=1000000,0<=Z/\Z<=100000],bl (keB c f S W wi Z))
 |_=>none
theorem Xg1(c T U O:Int)(A B:AV)(f:Nat->Int)(S W wi Z:Int)(VO:drB f)(UD:bdB f)(HO:1<=c/\c<=10)(DZ:0<=S/\S<=W/\W<=10)(BM:0<=wi/\wi<=1000000)(z9:0<=Z/\Z<=100000):VV VL 59 [.roI [i c,i T,i U,i O,A,B] 26 f 0,.agg [i S,i W,i wi],i Z] (bl (keB c f S W wi Z)):=by
 refine G9 (L:=[]) (Ae Xm3 Aa) (Ai (Af dN (Af lE Ab)) Ac) VW Tryz.func59 (UR Tryz.f59) UV (t:=need [(-1000000:Int)<=S/\S<=1000000,(-1000000:Int)<=W/\W<=1000000] (need [U9 1 (W-S+1).toNat (mkF S),(W-S+1).toNat<=100000,drB f,bdB f,(1:Int)<=c/\c<=10,(0:Int)<=Z/\Z<=100000,(0:Int)<=wi/\wi<=1000000,∀(j:Nat),j<(W-S+1).toNat->(0:Int)<=col 0 (mkF S) j/\col 0 (mkF S) j<=10] (leaf (RV.x (.bool (HW (λk=>keP c f wi Z (col 0 (mkF S) k)) (W-S+1).toNat)))))) VQ ?_;simp only [VJ.sat,U8,UZ,GH,UB,UE,keB];refine ⟨⟨VG,VG⟩,⟨λk hk=>rfl,VG,VO,UD,HO,z9,BM,λj hj=>?_⟩,rfl⟩;show 0<=S+(j:Int)/\S+(j:Int)<=10;omega
theorem Xg0:VM VL 59 Ww5:=by
 refine ⟨(UC Tryz.func59),?_⟩;intro avs ns res h I;unfold Ww5 at h;split at h;cases h;exact Xg1 _ _ _ _ _ _ _ _ _ _ _ (I _ VS) (I _ VS) (I _ VS) (I _ VS) (I _ VS) (I _ VS);cases h
end Go.Proofs.YtakpdkmhclhlnaaGreatDoor
namespace Go.Proofs.YtakpdkmhclhlnaaGreatDoor.Bo
open Go Go.Sx Go.RowKit
open Go.Sx.VJ (need branch leaf)
open Go.Sx.AV (lst ptr agg roI tup top)
def Tr(c:Nat)(T U O:Int)(n:Nat)(a b u v:Nat->Int)(h:Nat->Int):Prop:=
 h 0=0/\h c=T/\(∀k,k<c->U<=h (k+1)-h k/\h (k+1)-h k<=O)/\ ∀j,j<n->h (b j).toNat-h (a j).toNat<=v j/\(b j<c->u j+1<=h (b j+1).toNat-h (a j).toNat)
def ob(c:Nat)(M:Nat->Nat->Int)(h:Nat->Int):Prop:= ∀x y,x<=c->y<=c->h y-h x<=M x y
theorem wK{c:Nat}{M:Nat->Nat->Int}{h:Nat->Int}{p q:Nat}{v:Int}(hp:p<=c)(hq:q<=c):ob c (bnd M p q v) h↔ob c M h/\h q-h p<=v:=by
 constructor;intro k;refine ⟨λx y hx hy=>Bx (k x y hx hy) (wN _ _ _ _ _ _),Bx (k p q hp hq) (aN _ _ _ _)⟩;rintro ⟨k1,k2⟩ x y hx hy;have h1:=k1 x y hx hy;unfold bnd wW;split;rename_i e;rw [e.1,e.2] at h1 ⊢;omega;exact h1
theorem Xf2{c:Nat}{M N:Nat->Nat->Int}{h:Nat->Int}(hm: ∀x y,M x y<=N x y)(k:ob c M h):ob c N h:=λx y hx hy=>Bx (k x y hx hy) (hm x y)
theorem Zm4(M:Nat->Nat->Int)(o f t x y:Nat):fwS M o f t x y<=M x y:=wN _ _ _ _ _ _
theorem Wp8(M:Nat->Nat->Int)(o f:Nat): ∀t x y,fwT M o f t x y<=M x y
 | 0,_,_=>Int.le_refl _
 |t+1,x,y=>Bx (Zm4 _ _ _ _ _ _) (Wp8 M o f t x y)
theorem Wq0(c:Nat)(M:Nat->Nat->Int)(o:Nat): ∀f x y,fwF c M o f x y<=M x y
 | 0,_,_=>Int.le_refl _
 |f+1,x,y=>Bx (Wp8 _ _ _ _ _ _) (Wq0 c M o f x y)
theorem Xi8(c:Nat)(M:Nat->Nat->Int)(o x y:Nat):fwO c M (o+1) x y<=fwO c M o x y:=Wq0 _ _ _ _ _ _
theorem AD(c:Nat)(M:Nat->Nat->Int)(o:Nat): ∀d x y,fwO c M (o+d) x y<=fwO c M o x y
 | 0,_,_=>Int.le_refl _
 |d+1,x,y=>Bx (Xi8 c M (o+d) x y) (AD c M o d x y)
theorem pV(c:Nat)(M:Nat->Nat->Int)(o x y:Nat):fwO c M o x y<=M x y:=by
 have:=AD c M 0 o x y
 rwa [Ap] at this
theorem Jb5{c:Nat}{M:Nat->Nat->Int}{h:Nat->Int}{o f:Nat}(ho:o<=c)(hf:f<=c)(k:ob c M h): ∀t,t<=c+1->ob c (fwT M o f t) h
 | 0,_=>k
 |t+1,ht=>by
  have ih:=Jb5 ho hf k t VG;refine (wK hf VG).2 ⟨ih,?_⟩;have h1:=ih f o hf ho;have h2:=ih o t ho VG;omega
theorem Jb6{c:Nat}{M:Nat->Nat->Int}{h:Nat->Int}{o:Nat}(ho:o<=c)(k:ob c M h): ∀f,f<=c+1->ob c (fwF c M o f) h
 | 0,_=>k
 |f+1,hf=>Jb5 ho VG (Jb6 ho k f VG) (c+1) (Am _)
theorem Zi1{c:Nat}{M:Nat->Nat->Int}{h:Nat->Int}(k:ob c M h): ∀o,o<=c+1->ob c (fwO c M o) h
 | 0,_=>k
 |o+1,ho=>Jb6 VG (Zi1 k o VG) (c+1) (Am _)
theorem Wp9{c:Nat}{M N:Nat->Nat->Int}{o f:Nat}(h0:0<=M o o)(hN: ∀x y,N x y=if x<f/\y<=c then min (M x y) (M x o+M o y) else M x y): ∀t,t<=c+1-> ∀x y,fwT N o f t x y=if (x<f/\y<=c)\/(x=f/\y<t) then min (M x y) (M x o+M o y) else M x y
 | 0,_,x,y=>by
  show N x y=_;rw [hN];by_cases h:x<f/\y<=c;rw [if_pos h,if_pos (.inl h)];rw [if_neg h,if_neg VG]
 |t+1,ht,x,y=>by
  have ih:=Wp9 h0 hN t VG;show bnd (fwT N o f t) f t (fwT N o f t f o+fwT N o f t o t) x y=_;have e1:fwT N o f t f o=M f o:=by
   rw [ih];split<;>omega
  have e2:fwT N o f t o t=M o t:=by
   rw [ih];split<;>omega
  have e3:fwT N o f t f t=M f t:=by
   rw [ih,if_neg VG]
  unfold bnd wW;rw [e1,e2,e3];by_cases hxy:x=f/\y=t;rw [if_pos hxy,if_pos VG,hxy.1,hxy.2];rw [if_neg hxy,ih];by_cases h:(x<f/\y<=c)\/(x=f/\y<t);rw [if_pos h,if_pos VG];rw [if_neg h,if_neg VG]
theorem Wq1{c:Nat}{M:Nat->Nat->Int}{o:Nat}(h0:0<=M o o): ∀f x y,fwF c M o f x y=if x<f/\y<=c then min (M x y) (M x o+M o y) else M x y
 | 0,x,y=>by
  rw [if_neg VG];rfl
 |f+1,x,y=>by
  show fwT (fwF c M o f) o f (c+1) x y=_;rw [Wp9 h0 (Wq1 h0 f) (c+1) (Am _)];by_cases h:(x<f/\y<=c)\/(x=f/\y<c+1);rw [if_pos h,if_pos VG];rw [if_neg h,if_neg VG]
theorem vQ{c:Nat}{M:Nat->Nat->Int}: ∀k,k<=c+1->(∀o,o<k->0<=fwO c M o o o)-> ∀p x y,p<k->x<=c->y<=c->fwO c M k x y<=fwO c M k x p+fwO c M k p y
 | 0,_,_,p,x,y,hp,_,_=>absurd hp (Aq _)
 |k+1,hk,hd,p,x,y,hp,hx,hy=>by
  have ih:=vQ k VG (λo ho=>hd o VG);have h0:=hd k VG;have eq:=Wq1 (c:=c) h0 (c+1);show fwF c (fwO c M k) k (c+1) x y<=fwF c (fwO c M k) k (c+1) x p+fwF c (fwO c M k) k (c+1) p y;rw [eq x y,eq x p,eq p y,if_pos VG,if_pos VG,if_pos VG];rcases (show p=k\/p<k by omega) with rfl|hpk
  omega;have i1:=ih p x y hpk hx hy;have i2:=ih p x k hpk hx VG;have i3:=ih p k y hpk VG hy;have i4:=ih p k k hpk VG VG;omega
theorem Zi0{c:Nat}{h:Nat->Int}:ob c (ini c (c+1) 0) h↔ ∀x y,x<=c->y<=c->h y-h x<=2000:=by
 constructor;intro k x y hx hy;have:=k x y hx hy;unfold ini at this;split at this<;>omega;intro k x y hx hy;unfold ini;by_cases e:x=y;subst e;rw [if_neg VG];omega;rw [if_pos VG];exact k x y hx hy
theorem We5{c:Nat}{U O:Int}{h:Nat->Int}: ∀k,k<=c->(ob c (cel c U O k) h↔ob c (ini c (c+1) 0) h/\ ∀j,j<k->U<=h (j+1)-h j/\h (j+1)-h j<=O)
 | 0,_=>⟨λk=>⟨k,λj hj=>absurd hj (Aq _)⟩,λk=>k.1⟩
 |k+1,hk=>by
  have ih:=We5 (c:=c) (U:=U) (O:=O) (h:=h) k VG;show ob c (bnd (bnd (cel c U O k) k (k+1) O) (k+1) k (-U)) h↔_;rw [wK VG VG,wK VG VG,ih];constructor;rintro ⟨⟨⟨h1,h2⟩,h3⟩,h4⟩;refine ⟨h1,λj hj=>?_⟩;rcases (show j<k\/j=k by omega) with h|rfl
  exact h2 j h;omega;rintro ⟨h1,h2⟩;have h3:=h2 k VG;exact ⟨⟨⟨h1,λj hj=>h2 j VG⟩,VG⟩,VG⟩
def cT(c:Nat)(n:Nat)(a b u v:Nat->Int):Prop:= ∀j,j<n->(0<=a j/\a j<=(c:Int)-1)/\(a j<=b j/\b j<=c)/\0<=u j/\u j<=v j/\v j<=2000
theorem Xr9{c:Nat}{T U O:Int}{a b u v:Nat->Int}{h:Nat->Int}: ∀n,cT c n a b u v->(ob c (rdM c T U O a b u v n) h↔ob c (cel c U O c) h/\h c-h 0=T/\ ∀j,j<n->h (b j).toNat-h (a j).toNat<=v j/\(b j<c->u j+1<=h (b j+1).toNat-h (a j).toNat))
 | 0,_=>by
  show ob c (bnd (bnd (cel c U O c) 0 c T) c 0 (-T)) h↔_;rw [wK VG VG,wK VG VG];constructor;rintro ⟨⟨h1,h2⟩,h3⟩;exact ⟨h1,VG,λj hj=>absurd hj (Aq _)⟩;rintro ⟨h1,h2,_⟩;exact ⟨⟨h1,VG⟩,VG⟩
 |n+1,hr=>by
  have ih:=Xr9 (c:=c) (T:=T) (U:=U) (O:=O) (a:=a) (b:=b) (u:=u) (v:=v) (h:=h) n (λj hj=>hr j VG);have I:=hr n VG;have key:ob c (rdM c T U O a b u v (n+1)) h↔ob c (rdM c T U O a b u v n) h/\h (b n).toNat-h (a n).toNat<=v n/\(b n<c->u n+1<=h (b n+1).toNat-h (a n).toNat):=by
   show ob c (rdS c (rdM c T U O a b u v n) _ _ _ _) h↔_;unfold rdS;split;rename_i hb;rw [wK VG VG,wK VG VG];constructor;rintro ⟨⟨h1,h2⟩,h3⟩;exact ⟨h1,h2,λ_=>VG⟩;rintro ⟨h1,h2,h3⟩;have:=h3 hb;exact ⟨⟨h1,h2⟩,VG⟩;rename_i hb;rw [wK VG VG];constructor;rintro ⟨h1,h2⟩;exact ⟨h1,h2,λh=>absurd h hb⟩;rintro ⟨h1,h2,_⟩;exact ⟨h1,h2⟩
  rw [key,ih];constructor;rintro ⟨⟨h1,h2,h3⟩,h4⟩;refine ⟨h1,h2,λj hj=>?_⟩;rcases (show j<n\/j=n by omega) with h|rfl
  exact h3 j h;exact h4;rintro ⟨h1,h2,h3⟩;exact ⟨⟨h1,h2,λj hj=>h3 j VG⟩,h3 n VG⟩
theorem NC{U:Int}{h:Nat->Int}{c:Nat}(hl:0<=U)(hs: ∀k,k<c->U<=h (k+1)-h k)(x:Nat): ∀d,x+d<=c->h x<=h (x+d)
 | 0,_=>Int.le_refl _
 |d+1,hd=>by
  have ih:=NC hl hs x d VG;have:=hs (x+d) VG;rw [←Ba];omega
theorem Zw9{c:Nat}{T U O:Int}{n:Nat}{a b u v:Nat->Int}{h:Nat->Int}(hb:1<=U/\U<=O/\O<=200/\1<=T/\T<=2000)(hr:cT c n a b u v)(h0:h 0=0):Tr c T U O n a b u v h↔ob c (rdM c T U O a b u v n) h:=by
 rw [Xr9 n hr,We5 c (Am _),Zi0];constructor;rintro ⟨_,h1,h2,h3⟩;refine ⟨⟨λx y hx hy=>?_,h2⟩,VG,h3⟩;have m:=λx d=>NC (U:=U) (h:=h) (c:=c) VG (λk hk=>(h2 k hk).1) x d;have m1:=m 0 x VG;have m2:=m y (c-y) VG;rw [Ap] at m1;rw [show y+(c-y)=c by omega] at m2
 omega;rintro ⟨⟨_,h2⟩,h3,h4⟩;exact ⟨h0,VG,h2,h4⟩
theorem T3{c:Int}{n:Nat}{a b u v:Nat->Int}(hc:1<=c/\c<=10)(h:HW (λk=>rdB c (a k) (b k) (u k) (v k)) n=true):cT c.toNat n a b u v:=λj hj=>by
 have:=Xr7 (GI.1 h j hj);omega
section
variable {c:Nat}{T U O:Int}{n:Nat}{a b u v:Nat->Int}
theorem TL:okR c T U O n a b u v=true↔ ∀k,k<=c->0<=fwM c T U O n a b u v k k:=by
 unfold okR;rw [GI];constructor;intro h k hk;simpa using h k VG;intro h k hk;simpa using h k VG
theorem tQ{h:Nat->Int}(hb:1<=U/\U<=O/\O<=200/\1<=T/\T<=2000)(hr:cT c n a b u v)(h0:h 0=0):Tr c T U O n a b u v h↔ob c (fwM c T U O n a b u v) h:=by
 rw [Zw9 hb hr h0];exact ⟨λk=>Zi1 k (c+1) (Am _),λk=>Xf2 (λx y=>pV c _ (c+1) x y) k⟩
theorem We2{h:Nat->Int}(hb:1<=U/\U<=O/\O<=200/\1<=T/\T<=2000)(hr:cT c n a b u v)(k:Tr c T U O n a b u v h):okR c T U O n a b u v=true:=by
 have k1:=(tQ hb hr k.1).1 k;refine TL.2 λx hx=>?_;have:=k1 x x hx hx;omega
theorem Zx1{h:Nat->Int}(hb:1<=U/\U<=O/\O<=200/\1<=T/\T<=2000)(hr:cT c n a b u v)(k:Tr c T U O n a b u v h){x:Nat}(hx:x<=c): -(fwM c T U O n a b u v x 0)<=h x/\h x<=fwM c T U O n a b u v 0 x:=by
 have k1:=(tQ hb hr k.1).1 k;have h1:=k1 x 0 hx VG;have h2:=k1 0 x VG hx;have:=k.1;omega
theorem OJ(h:okR c T U O n a b u v=true){p x y:Nat}(hp:p<=c)(hx:x<=c)(hy:y<=c):fwM c T U O n a b u v x y<=fwM c T U O n a b u v x p+fwM c T U O n a b u v p y:=by
 refine vQ (c+1) (Am _) (λo ho=>?_) p x y VG hx hy;have h1:=TL.1 h o VG;have h2:=AD c (rdM c T U O a b u v n) o (c+1-o) o o;rw [show o+(c+1-o)=c+1 by omega] at h2
 exact Bx h1 h2
end
section
variable {c:Nat}{T U O:Int}
theorem Zg9{a b u v:Nat->Int}(n:Nat):rdM c T U O a b u v n 0 0<=0:=by
 have h1:=CC c T U O a b u v 0 n (Ao _) 0 0;have h2:rdM c T U O a b u v 0 0 0<=cel c U O c 0 0:=Bx (wN _ _ _ _ _ _) (wN _ _ _ _ _ _);have h3: ∀k,cel c U O k 0 0<=0:=by
  intro k
  induction k with
  |zero=>unfold cel ini;rw [if_neg VG];exact Int.le_refl _
  |succ k ih=>exact Bx (Bx (wN _ _ _ _ _ _) (wN _ _ _ _ _ _)) ih
 exact Bx h1 (Bx h2 (h3 c))
theorem Xt2{n:Nat}{a b u v:Nat->Int}(h:okR c T U O n a b u v=true):fwM c T U O n a b u v 0 0=0:=by
 have h1:=TL.1 h 0 (Ao _);have h2:fwM c T U O n a b u v 0 0<=0:=Bx (pV c _ (c+1) 0 0) (Zg9 n);omega
theorem Xq7{n:Nat}{a b u v:Nat->Int}(hb:1<=U/\U<=O/\O<=200/\1<=T/\T<=2000)(hr:cT c n a b u v)(h:okR c T U O n a b u v=true):Tr c T U O n a b u v (λk=>fwM c T U O n a b u v 0 k):=by
 refine (tQ hb hr (Xt2 h)).2 λx y hx hy=>?_;have:=OJ h hx (Ao _) hy;show fwM c T U O n a b u v 0 y-fwM c T U O n a b u v 0 x<=_;omega
theorem Zx0{n:Nat}{a b u v:Nat->Int}(hb:1<=U/\U<=O/\O<=200/\1<=T/\T<=2000)(hr:cT c n a b u v)(h:okR c T U O n a b u v=true):Tr c T U O n a b u v (λk=> -(fwM c T U O n a b u v k 0)):=by
 refine (tQ hb hr (by rw [Xt2 h];rfl)).2 λx y hx hy=>?_
 have:=OJ h hy hx (Ao _);show -(fwM c T U O n a b u v y 0)- -(fwM c T U O n a b u v x 0)<=_;omega
end
end Go.Proofs.YtakpdkmhclhlnaaGreatDoor.Bo
namespace Go.Proofs.YtakpdkmhclhlnaaGreatDoor
open Go Go.Sx Go.RowKit Bo
open Go.Sx.VJ (need branch leaf)
open Go.Sx.AV (lst ptr agg roI tup top)
def usB(c S W wi:Int):Bool:=bt 0 S W&&decide (W<=c)&&bt 0 wi 1000
section
variable (c T U O:Int)
def vaB(m:Nat)(p q:Nat->Int)(pl ph dl dh:Int):Bool:=decide (Pt.blE m p q pl ph=0)&&BZ c T U O&&insB 0 dl dh 100
def rdE(n:Nat)(a b u v:Nat->Int)(m:Nat)(p q:Nat->Int)(pl ph dl dh:Int):Int:=if n>12\/m>8 then 3 else if vaB c T U O m p q pl ph dl dh=true/\(eB c T U O n a b u v=0\/eB c T U O n a b u v=9) then eB c T U O n a b u v else 1
def bdL(n:Nat)(a b u v:Nat->Int)(m:Nat)(p q:Nat->Int)(pl ph:Int)(k:Nat):Int:=dnI (-(fwB c T U O n a b u v k 0)*Pt.boilI m p q pl) T
def bdH(n:Nat)(a b u v:Nat->Int)(m:Nat)(p q:Nat->Int)(pl ph:Int)(k:Nat):Int:=upI (fwB c T U O n a b u v 0 k*Pt.boilI m p q ph) T
end
def wkF(pl ph dl dh:Int)(L H:Nat->Int)(k j:Nat):Int:=if j=0 then pl else if j=1 then ph else if j=2 then dl else if j=3 then dh else if j<4+2*k then (if j%2=0 then L ((j-4) / 2) else H ((j-4) / 2)) else 0
def wkA(c T U O:Int)(n:Nat)(a b u v:Nat->Int)(m:Nat)(p q:Nat->Int)(pl ph dl dh:Int):Nat->Int:=wkF pl ph dl dh (bdL c T U O n a b u v m p q pl ph) (bdH c T U O n a b u v m p q pl ph) (c.toNat+1)
theorem Xd1{c S W wi:Int}:usB c S W wi=true↔(0<=S/\S<=W)/\W<=c/\0<=wi/\wi<=1000:=by
 simp only [usB,GZ,kJ,bt_iff,and_assoc]
theorem Xq6{c:Nat}{T U O:Int}{n:Nat}{a b u v:Nat->Int}{h:Nat->Int}(hl:0<=U)(k:Tr c T U O n a b u v h){x:Nat}(hx:x<=c):0<=h x/\h x<=T:=by
 obtain ⟨h0,h1,h2,_⟩:=k;have up: ∀y,y<=c->0<=h y:=by
  intro y
  induction y with
  |zero=>intro _;omega
  |succ y ih=>
   intro hy;have:=h2 y VG;have:=ih VG;omega
 have dn: ∀d,d<=c->h (c-d)<=T:=by
  intro d
  induction d with
  |zero=>intro _;rw [Nat.sub_zero,h1];exact Int.le_refl _
  |succ d ih=>
   intro hd;have:=h2 (c-(d+1)) VG;rw [show c-(d+1)+1=c-d by omega] at this
   have:=ih VG;omega
 refine ⟨up x hx,?_⟩;have:=dn (c-x) VG;rw [show c-(c-x)=x by omega] at this
 exact this
theorem Xs8{c T U O:Int}{n:Nat}{a b u v:Nat->Int}(h:eB c T U O n a b u v=0){k:Nat}(hk:(k:Int)<=c):0<= -(fwB c T U O n a b u v k 0)/\ -(fwB c T U O n a b u v k 0)<=fwB c T U O n a b u v 0 k/\fwB c T U O n a b u v 0 k<=T:=by
 obtain ⟨h1,_,h3⟩:=xH.1 h;have hf:=w6.1 h1;have hb:=PU hf.1;have hr:=T3 hb.1 hf.2.2;have tl:=Zx0 hb.2.1 hr h3;have th:=Xq7 hb.2.1 hr h3;have g1:=Xq6 VG tl (x:=k) VG;have g2:=Xq6 VG th (x:=k) VG;have g3:=Zx1 hb.2.1 hr tl (x:=k) VG;unfold fwB;omega
theorem nC{c T U O:Int}{m:Nat}{p q:Nat->Int}{pl ph dl dh:Int}:vaB c T U O m p q pl ph dl dh=true↔Pt.blE m p q pl ph=0/\BZ c T U O=true/\0<=dl/\dl<=dh/\dh<=100:=by
 simp only [vaB,GZ,kJ,insB_iff,and_assoc]
theorem Qz6{m:Nat}{p q:Nat->Int}{pl ph:Int}(h:Pt.blE m p q pl ph=0):(1<=Pt.boilI m p q pl/\Pt.boilI m p q pl<=2000)/\(1<=Pt.boilI m p q ph/\Pt.boilI m p q ph<=2000)/\Pt.boilI m p q pl<=Pt.boilI m p q ph/\Pt.blLo m p q pl ph=Pt.boilI m p q pl/\Pt.blHi m p q pl ph=Pt.boilI m p q ph:=by
 obtain ⟨h1,h2,h3,h4,h5,h6⟩:=Pt.blE_ok h;have a1:=Pt.boil_spec (x:=pl) h1 h3 VG;have a2:=Pt.boil_spec (x:=ph) h1 h3 VG;have a3:=Pt.boil_mono h1 h3 h4 h5 h6;exact ⟨VG,VG,a3,if_pos h,if_pos h⟩
theorem Qa6{x y X Y:Int}(hx:0<=x/\x<=X)(hy:0<=y/\y<=Y):0<=x*y/\x*y<=X*Y:=by
 have h1:=Bz hx.1 hy.1;have h2:=Int.mul_le_mul hx.2 hy.2 hy.1 (show 0<=X by omega)
 omega
theorem Zc5(c T U O:Int)(n:Nat)(a b u v:Nat->Int)(m:Nat)(p q:Nat->Int)(pl ph dl dh S W wi:Int):VV VL 91 [.agg [i c,i T,i U,i O,rds n a b u v,Pt.scs m p q,i pl,i ph,i dl,i dh],.agg [i S,i W,i wi]] (bl (usB c S W wi)):=by
 refine VY (L:=[]) (Ae RF Aa) VW Tryz.func91 (UR Tryz.f91) U0 (t:=branch (bt (0:Int) S W) (branch (decide (W<=c)) (leaf (RV.x (.bool (bt (0:Int) wi (1000:Int))))) (leaf (RV.x (KV)))) (leaf (RV.x (KV)))) VQ ?_;simp only [VJ.sat,U8,UZ,GH,UB,UE];all_goals (simp+contextual [usB,Bool.and_assoc]);all_goals omega
def Xt9:UU
 |[.agg [.x (.int .i64 c),.x (.int .i64 T),.x (.int .i64 U),.x (.int .i64 O),.lst 4 n fr,.lst 2 m ft,.x (.int .i64 pl),.x (.int .i64 ph),.x (.int .i64 dl),.x (.int .i64 dh)],.agg [.x (.int .i64 S),.x (.int .i64 W),.x (.int .i64 wi)]]=>some ([U9 4 n fr,U9 2 m ft],bl (usB c S W wi))
 |_=>none
theorem Zc4:VM VL 91 Xt9:=by
 refine ⟨(UC Tryz.func91),?_⟩;intro avs ns res h I;unfold Xt9 at h;split at h;cases h;have hr:U9 4 _ _:=I _ GB;have ht:U9 2 _ _:=I _ (HM _ GB);exact (Zc5 _ _ _ _ _ _ _ _ _ _ _ _ _ _ _ _ _ _ _).same (.cons (LS.same (.cons (.refl _) (.cons (.refl _) (.cons (.refl _) (.cons (.refl _) (.cons (.lst 4 _ _ _ hr) (.cons (.lst 2 _ _ _ ht) (.cons (.refl _) (.cons (.refl _) (.cons (.refl _) (.cons (.refl _) .nil))))))))))) (.cons (.refl _) .nil));cases h
theorem Qy2(c T U O:Int)(n:Nat)(a b u v:Nat->Int)(m:Nat)(p q:Nat->Int)(pl ph dl dh:Int)(VO:m<=100000):VV VL 74 [.agg [i c,i T,i U,i O,rds n a b u v,Pt.scs m p q,i pl,i ph,i dl,i dh]] (.tup [.agg [i (Pt.blLo m p q pl ph),i (Pt.blHi m p q pl ph)],bl (vaB c T U O m p q pl ph dl dh)]):=by
 refine G9 (L:=[]) (Ae Pt.Boils_ok (Ae Bo.CheckTube_ok (Ae PN Aa))) Ad VW Tryz.func74 (UR Tryz.f74) UV (t:=let z0:=(leaf (RV.tup [RV.agg [RV.x (.int .i64 (Pt.blLo m p q pl ph)),RV.x (.int .i64 (Pt.blHi m p q pl ph))],RV.x (KV)]));(need [U9 2 m λk=>[Pt.i (p k),Pt.i (q k)],m<=100000] (branch (Pt.blE m p q pl ph==0) (branch ((if BZ c T U O=true then (0:Int) else (1:Int))==0) (leaf (RV.tup [RV.agg [RV.x (.int .i64 (Pt.blLo m p q pl ph)),RV.x (.int .i64 (Pt.blHi m p q pl ph))],RV.x (.bool (insB (0:Int) dl dh (100:Int)))])) z0) z0))) VQ ?_
 simp only [VJ.sat,U8,UZ,GH,UB,UE,beq_iff_eq,beq_eq_false_iff_ne];refine ⟨⟨Pt.isRec2 m p q,VO⟩,λh1=>⟨λh2=>?_,λh2=>?_⟩,λh1=>?_⟩;cases ht:BZ c T U O;rw [ht] at h2;simp at h2;simp [vaB,h1,ht];cases ht:BZ c T U O;simp [vaB,ht];rw [ht] at h2;simp at h2;simp [vaB,h1]
def aV:UU
 |[.agg [.x (.int .i64 c),.x (.int .i64 T),.x (.int .i64 U),.x (.int .i64 O),.lst 4 n fr,.lst 2 m ft,.x (.int .i64 pl),.x (.int .i64 ph),.x (.int .i64 dl),.x (.int .i64 dh)]]=>some ([U9 4 n fr,U9 2 m ft,m<=100000],.tup [.agg [i (Pt.blLo m (Pt.col 0 ft) (Pt.col 1 ft) pl ph),i (Pt.blHi m (Pt.col 0 ft) (Pt.col 1 ft) pl ph)],bl (vaB c T U O m (Pt.col 0 ft) (Pt.col 1 ft) pl ph dl dh)])
 |_=>none
theorem bR:VM VL 74 aV:=by
 refine ⟨(UC Tryz.func74),?_⟩;intro avs ns res h I;unfold aV at h;split at h;cases h;have hr:U9 4 _ _:=I _ GB;have ht:U9 2 _ _:=I _ (HM _ GB);exact (Qy2 _ _ _ _ _ _ _ _ _ _ _ _ _ _ _ _ (I _ VS)).same (.cons (LS.same (.cons (.refl _) (.cons (.refl _) (.cons (.refl _) (.cons (.refl _) (.cons (.lst 4 _ _ _ hr) (.cons (.lst 2 _ _ _ ht) (.cons (.refl _) (.cons (.refl _) (.cons (.refl _) (.cons (.refl _) .nil))))))))))) .nil);cases h
section
variable {pl ph dl dh:Int}{L H:Nat->Int}
theorem Xc4{k j:Nat}:jB (4+2*k) [L k,H k] (wkF pl ph dl dh L H k) j=wkF pl ph dl dh L H (k+1) j:=by
 simp only [jB,UP];unfold wkF;by_cases h1:j=4+2*k+1;rw [if_pos h1,if_neg VG,if_neg VG,if_neg VG,if_neg VG,if_pos VG,if_neg VG,show (j-4) / 2=k by omega]
 rw [if_neg h1];by_cases h2:j=4+2*k;rw [if_pos h2,if_neg VG,if_neg VG,if_neg VG,if_neg VG,if_pos VG,if_pos VG,show (j-4) / 2=k by omega]
 rw [if_neg h2];by_cases h3:j<4+2*k;rw [if_pos h3,if_pos (show j<4+2*(k+1) by omega)]
 rw [if_neg h3,if_neg (show ¬j<4+2*(k+1) by omega)]
theorem Xc3{j:Nat}(hj:j<26):U6 ([pl,ph,dl,dh]++bJ 22) j=wkF pl ph dl dh L H 0 j:=by
 rcases (show j=0\/j=1\/j=2\/j=3\/j=4\/j=5\/j=6\/j=7\/j=8\/j=9\/j=10\/j=11\/j=12\/j=13\/j=14\/j=15\/j=16\/j=17\/j=18\/j=19\/j=20\/j=21\/j=22\/j=23\/j=24\/j=25 by omega) with rfl|rfl|rfl|rfl|rfl|rfl|rfl|rfl|rfl|rfl|rfl|rfl|rfl|rfl|rfl|rfl|rfl|rfl|rfl|rfl|rfl|rfl|rfl|rfl|rfl|rfl<;>rfl
end
abbrev QR(n:Nat)(a:Nat->Int)(b:Nat->Int)(u:Nat->Int)(v:Nat->Int):AV:=lst 4 n λk=>[iI (a k),iI (b k),iI (u k),iI (v k)]
abbrev QW(c:Int)(T:Int)(U:Int)(O:Int)(n:Nat)(a:Nat->Int)(b:Nat->Int)(u:Nat->Int)(v:Nat->Int):AV:=lst 2 (rU c T U O n a b u v) λk=>[iI (-fwB c T U O n a b u v k 0),iI (fwB c T U O n a b u v 0 k)]
abbrev QX(m:Nat)(p:Nat->Int)(q:Nat->Int):AV:=lst 2 m λk=>[iI (p k),iI (q k)]
abbrev Z2:AV:=AV.x (.pointer none)
section
variable (c T U O:Int)(n:Nat)(a b u v:Nat->Int)(m:Nat)(p q:Nat->Int)(pl ph dl dh:Int)
def Zq4:St:={σ:=[agg [iI c,iI T,iI U,iI O,QR n a b u v,QX m p q,iI pl,iI ph,iI dl,iI dh],ptr 0 0,Z2,iI 0,ptr 18 0,AV.x (.bool (vaB c T U O m p q pl ph dl dh)),QW c T U O n a b u v,iI (eB c T U O n a b u v),ptr 45 0]++HF 43 [QW c T U O n a b u v,iI (↑(rU c T U O n a b u v):Int)]++HF 31 [],m:=[(45,GL.ints 174 [iI c,iI T,iI U,iI O,QR n a b u v,QX m p q] 26 λa=>U6 ([pl,ph,dl,dh]++bJ 22) a),(18,GL.cells 38 [iI (Pt.blLo m p q pl ph),iI (Pt.blHi m p q pl ph)]),(0,GL.cells 53 [iI c,iI T,iI U,iI O,QR n a b u v,QX m p q,iI pl,iI ph,iI dl,iI dh])],nx:=50}
noncomputable def Jp6:Code:=U7 (VP (U5 Tryz.f51) 0)
def Wh5(k:Nat):St:=(upE [(54,i k)] [(45,.ints 174 [i c,i T,i U,i O,rds n a b u v,Pt.scs m p q] 26 (wkF pl ph dl dh (bdL c T U O n a b u v m p q pl ph) (bdH c T U O n a b u v m p q pl ph) k)),(18,.cells 38 [i (Pt.boilI m p q pl),i (Pt.boilI m p q ph)]),(0,.cells 53 [i c,i T,i U,i O,rds n a b u v,Pt.scs m p q,i pl,i ph,i dl,i dh])] (Zq4 c T U O n a b u v m p q pl ph dl dh))
def T8(k:Nat):G4->Option St
 | .exit 1=>some (upE [(54,i ((c.toNat+1:Nat):Int))] [(45,.ints 174 [i c,i T,i U,i O,rds n a b u v,Pt.scs m p q] 26 (wkF pl ph dl dh (bdL c T U O n a b u v m p q pl ph) (bdH c T U O n a b u v m p q pl ph) (c.toNat+1))),(18,.cells 38 [i (Pt.boilI m p q pl),i (Pt.boilI m p q ph)]),(0,.cells 53 [i c,i T,i U,i O,rds n a b u v,Pt.scs m p q,i pl,i ph,i dl,i dh])] (Zq4 c T U O n a b u v m p q pl ph dl dh))
 |_=>none
def Jk3:CT:= .leaf (.exit 1,(T8 c T U O n a b u v m p q pl ph dl dh 0 (.exit 1)).getD (Zq4 c T U O n a b u v m p q pl ph dl dh))
def Xv3:UF:=GG [] (HD (Wh5 c T U O n a b u v m p q pl ph dl dh (0)) (Jk3 c T U O n a b u v m p q pl ph dl dh))
end
abbrev X3(c:Int)(T:Int)(U:Int)(O:Int)(n:Nat)(a:Nat->Int)(b:Nat->Int)(u:Nat->Int)(v:Nat->Int)(m:Nat)(p:Nat->Int)(q:Nat->Int)(pl:Int)(ph:Int)(dl:Int)(dh:Int):Prop:=agg [iI c,iI T,iI U,iI O,QR n a b u v,QX m p q,iI pl,iI ph,iI dl,iI dh]=agg [iI c,iI T,iI U,iI O,QR n a b u v,QX m p q,iI pl,iI ph,iI dl,iI dh]
abbrev K4:Prop:=(0:Int)=0
abbrev KX:List (Nat×UU):=[(74,aV),(75,Bo.S_Heights),(76,sZ),(77,Zo6)]
abbrev Y0:Prop:=ptr 18 0=ptr 18 0
abbrev YL(n:Nat)(a:Nat->Int)(b:Nat->Int)(u:Nat->Int)(v:Nat->Int):Prop:=(QR n a b u v)=QR n a b u v
abbrev YP(m:Nat)(p:Nat->Int)(q:Nat->Int):Prop:=(QX m p q)=QX m p q
abbrev YS(c:Int)(T:Int)(U:Int)(O:Int)(n:Nat)(a:Nat->Int)(b:Nat->Int)(u:Nat->Int)(v:Nat->Int):Prop:=(QW c T U O n a b u v)=QW c T U O n a b u v
section
variable (c T U O:Int)(n:Nat)(a b u v:Nat->Int)(m:Nat)(p q:Nat->Int)(pl ph dl dh:Int)
theorem Zz7(VO:n<=12)(UD:m<=8)(HO:vaB c T U O m p q pl ph dl dh=true)(DZ:eB c T U O n a b u v=0):G5 VL (.loop Jp6) (Xv3 c T U O n a b u v m p q pl ph dl dh):=by
 refine UT [] (L:=[]) (Ae bR (Ae Bo.Heights_ok (Ae aJ (Ae Qy7 Aa)))) Ad VW U0 (X:=Nat) (Wh5 c T U O n a b u v m p q pl ph dl dh) (λk=>k<=c.toNat+1) (λk=>c.toNat+1-k) (T8 c T U O n a b u v m p q pl ph dl dh) (x0:=0) VS ?_ ?_ ?_;rintro k;kernel_rfl;rintro k y E h;unfold T8 at h;split at h;cases h;kernel_rfl;cases h;rintro Q hQ k hx;refine ⟨(k+1),?_⟩;(with_reducible refine DA (t:=let z0:=(bdL c T U O n a b u v m p q pl ph);let z1:=(bdH c T U O n a b u v m p q pl ph);let z5:=fwB c T U O n a b u v;let z2:=z5 k;let z3:=Pt.boilI m p q pl;let z4:=Pt.boilI m p q ph;let z6:=(rU c T U O n a b u v);let z7:=YS c T U O n a b u v;(branch (decide ((k:Int)<(z6:Int))) (need [UG k z6] (need [VI (-z2 0*z3)] (need [(1:Int)<=T/\T<=100000,(0:Int)<= -z2 0*z3/\ -z2 0*z3<=1000000000000] (need [VI (z5 0 k*z4)] (need [(1:Int)<=T/\T<=100000,(0:Int)<=z5 0 k*z4/\z5 0 k*z4<=1000000000000] (need [UG k 11] (need [k*2+10-1-1-1-1-1-1+List.length [dnI (-z2 0*z3) T,upI (z5 0 k*z4) T]<=26] (need [VI ((k:Int)+1)] (need [X3 c T U O n a b u v m p q pl ph dl dh,KI,Z2=Z2,K4,Y0,VU (vaB c T U O m p q pl ph dl dh),z7,VU (eB c T U O n a b u v),VU (ptr 45 0),z7,VU (z6:Int),(k:Int)+1=(↑(k+1):Int),c=c,T=T,U=U,O=O,YL n a b u v,YP m p q,26=26,GR 26 (UP (k*2+10-1-1-1-1-1-1+1) (upI (z5 0 k*z4) T) (UP (k*2+10-1-1-1-1-1-1) (dnI (-z2 0*z3) T) (wkF pl ph dl dh z0 z1 k))) (wkF pl ph dl dh z0 z1 (k+1)),VU (z3),VU (z4),c=c,T=T,U=U,O=O,YL n a b u v,YP m p q,pl=pl,ph=ph,dl=dl,dh=dh] (leaf G4.normal)))))))))) (need [X3 c T U O n a b u v m p q pl ph dl dh,KI,Z2=Z2,K4,Y0,VU (vaB c T U O m p q pl ph dl dh),z7,VU (eB c T U O n a b u v),VU (ptr 45 0),z7,VU (z6:Int),(k:Int)=(↑(Int.toNat c+1):Int),c=c,T=T,U=U,O=O,YL n a b u v,YP m p q,26=26,GR 26 (wkF pl ph dl dh z0 z1 k) (wkF pl ph dl dh z0 z1 (Int.toNat c+1)),VU (z3),VU (z4),c=c,T=T,U=U,O=O,YL n a b u v,YP m p q,pl=pl,ph=ph,dl=dl,dh=dh] (leaf (G4.exit 1))))) VQ ?_);simp only [Jk3,T8,VJ.sat,GQ] at hQ;have hv:=nC.1 HO;have hb:=PU hv.2.1;have hs:=Qz6 hv.1;have hl:rU c T U O n a b u v=c.toNat+1:=if_pos DZ;simp only [VJ.sat,U8,UZ,GH,UB,VI,UE,H6,FC,RT,hl]
 refine ⟨λh=>?_,λh=>?_⟩
 ·have hk:=Xs8 DZ (k:=k) VG;have m1:=Qa6 (x:= -(fwB c T U O n a b u v k 0)) (y:=Pt.boilI m p q pl) (X:=2000) (Y:=2000) VG VG;have m2:=Qa6 (x:=fwB c T U O n a b u v 0 k) (y:=Pt.boilI m p q ph) (X:=2000) (Y:=2000) VG VG;have e6:k*2+10-1-1-1-1-1-1=4+2*k:=VG;rw [e6]
  (with_reducible repeat' first|apply Al|intro _)
  all_goals first|exact Ak|omega|with_reducible rfl|exact Xc4
 ·obtain rfl:k=c.toNat+1:=VG
  (with_reducible repeat' first|apply Al|intro _)
  all_goals first|exact Ak|omega|with_reducible rfl|(rename_i E hE;cases hE;exact hQ)
theorem SZ:UH VL 51 [.agg [i c,i T,i U,i O,rds n a b u v,Pt.scs m p q,i pl,i ph,i dl,i dh]] (.branch (decide (rdE c T U O n a b u v m p q pl ph dl dh=0)) (.leaf (.tup [.roI [i c,i T,i U,i O,rds n a b u v,Pt.scs m p q] 26 (wkA c T U O n a b u v m p q pl ph dl dh) 0,i 0])) (.leaf (.tup [.x (.pointer none),i (rdE c T U O n a b u v m p q pl ph dl dh)]))):=by
 refine GO (L:=[FE [n<=12,m<=8,vaB c T U O m p q pl ph dl dh=true,eB c T U O n a b u v=0] (Xv3 c T U O n a b u v m p q pl ph dl dh)]) (Ae bR (Ae Bo.Heights_ok (Ae aJ (Ae Qy7 Aa)))) Ad VW Tryz.func51 (UR Tryz.f51) (G0 (lpE (b:= .loop Jp6) VQ<|(HT (ps:=[n<=12,m<=8,vaB c T U O m p q pl ph dl dh=true,eB c T U O n a b u v=0]) (λh=>Zz7 c T U O n a b u v m p q pl ph dl dh h.1 h.2.1 h.2.2.1 h.2.2.2)).N)) (t:=let z0:=(leaf (tup [roI [iI c,iI T,iI U,iI O,QR n a b u v,QX m p q] 26 (λj=>wkF pl ph dl dh (bdL c T U O n a b u v m p q pl ph) (bdH c T U O n a b u v m p q pl ph) (Int.toNat c+1) j) 0,iI 0]));let z1:=eB c T U O n a b u v;let z2:=vaB c T U O m p q pl ph dl dh;let z3:=YS c T U O n a b u v;(branch (decide ((n:Int)>12)) (leaf (tup [Z2,iI 3])) (branch (decide ((m:Int)>8)) (leaf (tup [Z2,iI 3])) (need [U9 4 n λk=>[Bo.i (a k),Bo.i (b k),Bo.i (u k),Bo.i (v k)],U9 2 m λk=>[Pt.i (p k),Pt.i (q k)],m<=100000] (need [U9 4 n λk=>[Bo.i (a k),Bo.i (b k),Bo.i (u k),Bo.i (v k)]] (branch (!z2) (leaf (tup [Z2,iI 1])) (branch (z1 != 0) (branch (z1 != 9) (leaf (tup [Z2,iI 1])) (branch (z1 != 0) (leaf (tup [Z2,iI (z1)])) (need [n<=12,m<=8,z2=true,z1=0] (need [X3 c T U O n a b u v m p q pl ph dl dh,KI,Z2=Z2,K4,Y0,VU (z2),z3,VU (z1),ptr 47 0=ptr 45 0,z3,VU (↑(rU c T U O n a b u v):Int),(0:Int)=(↑(0:Nat):Int),False,Pt.blLo m p q pl ph=Pt.boilI m p q pl,Pt.blHi m p q pl ph=Pt.boilI m p q ph,c=c,T=T,U=U,O=O,YL n a b u v,YP m p q,pl=pl,ph=ph,dl=dl,dh=dh] z0)))) (branch (z1 != 0) (leaf (tup [Z2,iI (z1)])) (need [n<=12,m<=8,z2=true,z1=0] (need [X3 c T U O n a b u v m p q pl ph dl dh,KI,Z2=Z2,K4,Y0,VU (z2),z3,VU (z1),VU (ptr 45 0),z3,VU (↑(rU c T U O n a b u v):Int),(0:Int)=(↑(0:Nat):Int),c=c,T=T,U=U,O=O,YL n a b u v,YP m p q,List.length ([pl,ph,dl,dh]++bJ 22)=26,GR 26 (U6 ([pl,ph,dl,dh]++bJ 22)) (wkF pl ph dl dh (bdL c T U O n a b u v m p q pl ph) (bdH c T U O n a b u v m p q pl ph) 0),Pt.blLo m p q pl ph=Pt.boilI m p q pl,Pt.blHi m p q pl ph=Pt.boilI m p q ph,c=c,T=T,U=U,O=O,YL n a b u v,YP m p q,pl=pl,ph=ph,dl=dl,dh=dh] z0)))))))))) VQ ?_
 intro Q hQ;have e3:(n>12\/m>8)->rdE c T U O n a b u v m p q pl ph dl dh=3:=λh=>if_pos h;have e1: ¬(n>12\/m>8)-> ¬(vaB c T U O m p q pl ph dl dh=true/\(eB c T U O n a b u v=0\/eB c T U O n a b u v=9))->rdE c T U O n a b u v m p q pl ph dl dh=1:=λh h'=>by
  unfold rdE;rw [if_neg h,if_neg h']
 have e0: ¬(n>12\/m>8)->vaB c T U O m p q pl ph dl dh=true->(eB c T U O n a b u v=0\/eB c T U O n a b u v=9)->rdE c T U O n a b u v m p q pl ph dl dh=eB c T U O n a b u v:=λh h' h''=>by
  unfold rdE;rw [if_neg h,if_pos ⟨h',h''⟩]
 simp only [VJ.sat,U8,UE,H6,R0,Ax,Bool.not_eq_false'] at hQ ⊢;have bad: ∀k:Int,k≠0->rdE c T U O n a b u v m p q pl ph dl dh=k-> ∃r',DV (.tup [.x (.pointer none),i k]) r'/\Q r':=λk hk he=>by
  rw [he] at hQ;exact ⟨.tup [.x (.pointer none),i k],⟨rfl,⟨rfl,rfl⟩,Ak⟩,hQ.2 hk⟩
 refine ⟨λh1=>bad 3 VG (e3 VG),λh1=>⟨λh2=>bad 3 VG (e3 VG),λh2=>⟨⟨Bo.isRec4 n a b u v,Pt.isRec2 m p q,VG⟩,Bo.isRec4 n a b u v,λh3=>bad 1 VG (e1 VG (by rw [h3];simp)),λh3=>⟨λh4=>⟨λh5=>bad 1 VG (e1 VG VG),λh5=>⟨λh6=>bad _ h4 (e0 VG h3 (.inr h5)),λh6=>absurd h6 h4⟩⟩,λh4=>⟨λh5=>absurd h4 h5,λ_=>?_⟩⟩⟩⟩⟩
 have hv:=nC.1 h3;have hs:=Qz6 hv.1;refine ⟨⟨VG,VG,h3,h4⟩,⟨rfl,rfl,λj hj=>Xc3 hj,hs.2.2.2.1,hs.2.2.2.2⟩,.tup [.roI [i c,i T,i U,i O,rds n a b u v,Pt.scs m p q] 26 (wkA c T U O n a b u v m p q pl ph dl dh) 0,i 0],⟨⟨rfl,rfl,λ_ _=>rfl,rfl⟩,⟨rfl,rfl⟩,Ak⟩,hQ.1 ((e0 VG h3 (.inl h4)).trans h4)⟩
end
def fM:HZ:=λl=>match l with
 |[.agg [.x (.int .i64 c),.x (.int .i64 T),.x (.int .i64 U),.x (.int .i64 O),.lst 4 n fr,.lst 2 m ft,.x (.int .i64 pl),.x (.int .i64 ph),.x (.int .i64 dl),.x (.int .i64 dh)]]=>some (.need [U9 4 n fr,U9 2 m ft] (.branch (decide (rdE c T U O n (col 0 fr) (col 1 fr) (col 2 fr) (col 3 fr) m (Pt.col 0 ft) (Pt.col 1 ft) pl ph dl dh=0)) (.leaf (.tup [.roI [i c,i T,i U,i O,rds n (col 0 fr) (col 1 fr) (col 2 fr) (col 3 fr),Pt.scs m (Pt.col 0 ft) (Pt.col 1 ft)] 26 (wkA c T U O n (col 0 fr) (col 1 fr) (col 2 fr) (col 3 fr) m (Pt.col 0 ft) (Pt.col 1 ft) pl ph dl dh) 0,i 0])) (.leaf (.tup [.x (.pointer none),i (rdE c T U O n (col 0 fr) (col 1 fr) (col 2 fr) (col 3 fr) m (Pt.col 0 ft) (Pt.col 1 ft) pl ph dl dh)]))))
 |_=>none
theorem wZ:Sx.Enters Tryz.prog 51/\ ∀avs t,fM avs=some t->UH VL 51 avs t:=by
 refine ⟨(UC Tryz.func51),?_⟩;intro avs t h;unfold fM at h;split at h;cases h;intro Q hQ;have hr:U9 4 _ _:=GA hQ.1 _ GB;have ht:U9 2 _ _:=GA hQ.1 _ (HM _ GB);exact UH.same (SZ _ _ _ _ _ _ _ _ _ _ _ _ _ _ _ _) (.cons (LS.same (.cons (.refl _) (.cons (.refl _) (.cons (.refl _) (.cons (.refl _) (.cons (.lst 4 _ _ _ hr) (.cons (.lst 2 _ _ _ ht) (.cons (.refl _) (.cons (.refl _) (.cons (.refl _) (.cons (.refl _) .nil))))))))))) .nil) Q hQ.2;cases h
section
variable (c T U O:Int)(n:Nat)(a b u v:Nat->Int)(m:Nat)(p q:Nat->Int)(pl ph dl dh:Int)
def asE(S W wi Z:Int):Int:=if rdE c T U O n a b u v m p q pl ph dl dh=0 then (if usB c S W wi&&bt 0 Z 10000 then 0 else 2) else rdE c T U O n a b u v m p q pl ph dl dh
def hdE(Z:Int):Int:=if rdE c T U O n a b u v m p q pl ph dl dh=0 then (if bt 0 Z 10000 then 0 else 2) else rdE c T U O n a b u v m p q pl ph dl dh
end
section
variable {c T U O:Int}{n:Nat}{a b u v:Nat->Int}{m:Nat}{p q:Nat->Int}{pl ph dl dh:Int}
theorem Xr6(h:rdE c T U O n a b u v m p q pl ph dl dh=0):n<=12/\m<=8/\vaB c T U O m p q pl ph dl dh=true/\eB c T U O n a b u v=0:=by
 unfold rdE at h;split at h;cases h;rename_i h1;split at h;rename_i h2;exact ⟨VG,VG,h2.1,h⟩;cases h
theorem Zh0(h1:n<=12)(h2:m<=8)(h3:vaB c T U O m p q pl ph dl dh=true)(h4:eB c T U O n a b u v=0):rdE c T U O n a b u v m p q pl ph dl dh=0:=by
 unfold rdE;rw [if_neg VG,if_pos ⟨h3,.inl h4⟩,h4]
end
section
variable {pl ph dl dh:Int}{L H:Nat->Int}{k j:Nat}
theorem wk_L(h:j<k):wkF pl ph dl dh L H k (4+2*j)=L j:=by
 unfold wkF;rw [if_neg VG,if_neg VG,if_neg VG,if_neg VG,if_pos VG,if_pos VG,show (4+2*j-4) / 2=j by omega]
theorem wk_H(h:j<k):wkF pl ph dl dh L H k (5+2*j)=H j:=by
 unfold wkF;rw [if_neg VG,if_neg VG,if_neg VG,if_neg VG,if_pos VG,if_neg VG,show (5+2*j-4) / 2=j by omega]
end
theorem bP{c T U O:Int}{n:Nat}{a b u v:Nat->Int}{m:Nat}{p q:Nat->Int}{pl ph dl dh:Int}(h:rdE c T U O n a b u v m p q pl ph dl dh=0):drB (wkA c T U O n a b u v m p q pl ph dl dh)/\bdB (wkA c T U O n a b u v m p q pl ph dl dh)/\(1<=c/\c<=10)/\ ∀k:Nat,(k:Int)<=c->0<=bdL c T U O n a b u v m p q pl ph k/\bdL c T U O n a b u v m p q pl ph k<=4000000/\0<=bdH c T U O n a b u v m p q pl ph k/\bdH c T U O n a b u v m p q pl ph k<=4000000:=by
 obtain ⟨h1,h2,h3,h4⟩:=Xr6 h;have hv:=nC.1 h3;have hb:=PU hv.2.1;have hs:=Qz6 hv.1;have key: ∀k:Nat,(k:Int)<=c->0<=bdL c T U O n a b u v m p q pl ph k/\bdL c T U O n a b u v m p q pl ph k<=4000000/\0<=bdH c T U O n a b u v m p q pl ph k/\bdH c T U O n a b u v m p q pl ph k<=4000000:=by
  intro k hk;have hk:=Xs8 h4 hk;have m1:=Qa6 (x:= -(fwB c T U O n a b u v k 0)) (y:=Pt.boilI m p q pl) (X:=2000) (Y:=2000) VG VG;have m2:=Qa6 (x:=fwB c T U O n a b u v 0 k) (y:=Pt.boilI m p q ph) (X:=2000) (Y:=2000) VG VG;have d1:=gP m1.1 (show 1<=T by omega)
  have d2:=SN m2.1 (show 1<=T by omega)
  unfold bdL bdH;omega
 refine ⟨⟨?_,?_⟩,λj hj=>?_,hb.1,key⟩;show 0<=dl/\dl<=100;omega;show 0<=dh/\dh<=100;omega;by_cases hk:j / 2<c.toNat+1;have:=key (j / 2) VG;rcases Nat.mod_two_eq_zero_or_one j with h0|h0;have e:wkA c T U O n a b u v m p q pl ph dl dh (4+j)=bdL c T U O n a b u v m p q pl ph (j / 2):=by
  have:=wk_L (pl:=pl) (ph:=ph) (dl:=dl) (dh:=dh) (L:=bdL c T U O n a b u v m p q pl ph) (H:=bdH c T U O n a b u v m p q pl ph) hk;rw [show 4+2*(j / 2)=4+j by omega] at this
  exact this
 rw [e];omega;have e:wkA c T U O n a b u v m p q pl ph dl dh (4+j)=bdH c T U O n a b u v m p q pl ph (j / 2):=by
  have:=wk_H (pl:=pl) (ph:=ph) (dl:=dl) (dh:=dh) (L:=bdL c T U O n a b u v m p q pl ph) (H:=bdH c T U O n a b u v m p q pl ph) hk;rw [show 5+2*(j / 2)=4+j by omega] at this
  exact this
 rw [e];omega;have e:wkA c T U O n a b u v m p q pl ph dl dh (4+j)=0:=by
  unfold wkA wkF;rw [if_neg VG,if_neg VG,if_neg VG,if_neg VG,if_neg VG]
 rw [e];omega
abbrev KQ:Value:=Value.int IntKind.i64 (0:Int)
theorem u9(c T U O:Int)(n:Nat)(a b u v:Nat->Int)(m:Nat)(p q:Nat->Int)(pl ph dl dh:Int):VV VL 17 [.agg [i c,i T,i U,i O,rds n a b u v,Pt.scs m p q,i pl,i ph,i dl,i dh]] (i (rdE c T U O n a b u v m p q pl ph dl dh)):=by
 refine G9 (L:=[]) Aa (Aj Ab Ac (Ah wZ (U1.nil _))) VW Tryz.func17 (UR Tryz.f17) UV (t:=need [U9 4 n λk=>[Bo.i (a k),Bo.i (b k),Bo.i (u k),Bo.i (v k)],U9 2 m λk=>[Pt.i (p k),Pt.i (q k)]] (branch (decide (rdE c T U O n a b u v m p q pl ph dl dh=0)) (leaf (RV.x (KQ))) (leaf (RV.x (.int .i64 (rdE c T U O n a b u v m p q pl ph dl dh)))))) VQ ?_;simp only [VJ.sat,U8,UZ,GH,UB,UE,H6,R0,beq_iff_eq,beq_eq_false_iff_ne,Ax,Bool.not_eq_false',not_true_eq_false,false_imp_iff,true_imp_iff];exact ⟨⟨Bo.isRec4 n a b u v,Pt.isRec2 m p q⟩,λh=>h.symm,λ_=>trivial⟩
def DO:UU
 |[.agg [.x (.int .i64 c),.x (.int .i64 T),.x (.int .i64 U),.x (.int .i64 O),.lst 4 n fr,.lst 2 m ft,.x (.int .i64 pl),.x (.int .i64 ph),.x (.int .i64 dl),.x (.int .i64 dh)]]=>some ([U9 4 n fr,U9 2 m ft],i (rdE c T U O n (col 0 fr) (col 1 fr) (col 2 fr) (col 3 fr) m (Pt.col 0 ft) (Pt.col 1 ft) pl ph dl dh))
 |_=>none
theorem F9:VM VL 17 DO:=by
 refine ⟨(UC Tryz.func17),?_⟩;intro avs ns res h I;unfold DO at h;split at h;cases h;have hr:U9 4 _ _:=I _ GB;have ht:U9 2 _ _:=I _ (HM _ GB);exact (u9 _ _ _ _ _ _ _ _ _ _ _ _ _ _ _ _).same (.cons (LS.same (.cons (.refl _) (.cons (.refl _) (.cons (.refl _) (.cons (.refl _) (.cons (.lst 4 _ _ _ hr) (.cons (.lst 2 _ _ _ ht) (.cons (.refl _) (.cons (.refl _) (.cons (.refl _) (.cons (.refl _) .nil))))))))))) .nil);cases h
abbrev ZB(c:Int)(T:Int)(U:Int)(O:Int)(n:Nat)(a:Nat->Int)(b:Nat->Int)(u:Nat->Int)(v:Nat->Int)(m:Nat)(p:Nat->Int)(q:Nat->Int)(pl:Int)(ph:Int)(dl:Int)(dh:Int):AV:=roI [iI c,iI T,iI U,iI O,QR n a b u v,QX m p q] 26 (λa_1=>wkA c T U O n a b u v m p q pl ph dl dh a_1) 0
theorem Wu8(c T U O:Int)(n:Nat)(a b u v:Nat->Int)(m:Nat)(p q:Nat->Int)(pl ph dl dh:Int)(S W wi Z:Int):UH VL 58 [.agg [i c,i T,i U,i O,rds n a b u v,Pt.scs m p q,i pl,i ph,i dl,i dh],.agg [i S,i W,i wi],i Z] (.branch (decide (asE c T U O n a b u v m p q pl ph dl dh S W wi Z=0)) (.leaf (.tup [.roI [i c,i T,i U,i O,rds n a b u v,Pt.scs m p q] 26 (wkA c T U O n a b u v m p q pl ph dl dh) 0,i 0])) (.leaf (.tup [.top,i (asE c T U O n a b u v m p q pl ph dl dh S W wi Z)]))):=by
 refine GO (L:=[]) (Ae Zc4 (Ae RF Aa)) (Aj Ab Ac (Ah wZ (U1.nil _))) VW Tryz.func58 (UR Tryz.f58) UV (t:=let z0:=rdE c T U O n a b u v m p q pl ph dl dh;let z1:=ZB c T U O n a b u v m p q pl ph dl dh;(need [U9 4 n λk=>[Bo.i (a k),Bo.i (b k),Bo.i (u k),Bo.i (v k)],U9 2 m λk=>[Pt.i (p k),Pt.i (q k)]] (branch (decide (z0=0)) (branch ((0:Int)==0) (need [U9 4 n λk=>[Bo.i (a k),Bo.i (b k),Bo.i (u k),Bo.i (v k)],U9 2 m λk=>[Pt.i (p k),Pt.i (q k)]] (branch (!usB c S W wi) (leaf (tup [z1,iI 2])) (branch (!bt (0:Int) Z (10000:Int)) (leaf (tup [z1,iI 2])) (leaf (tup [z1,iI 0]))))) (leaf (tup [z1,iI 0]))) (branch (z0==0) (need [U9 4 n λk=>[Bo.i (a k),Bo.i (b k),Bo.i (u k),Bo.i (v k)],U9 2 m λk=>[Pt.i (p k),Pt.i (q k)]] (branch (!usB c S W wi) (leaf (tup [Z2,iI 2])) (branch (!bt (0:Int) Z (10000:Int)) (leaf (tup [Z2,iI 2])) (leaf (tup [Z2,iI (z0)]))))) (leaf (tup [Z2,iI (z0)])))))) VQ ?_;intro Q hQ;simp only [VJ.sat,U8,UZ,GH,UB,UE,H6,R0,beq_iff_eq,beq_eq_false_iff_ne,Ax,Bool.not_eq_false',not_true_eq_false,false_imp_iff,true_imp_iff] at hQ ⊢;have hr:rdE c T U O n a b u v m p q pl ph dl dh≠0->asE c T U O n a b u v m p q pl ph dl dh S W wi Z=rdE c T U O n a b u v m p q pl ph dl dh:=λh=>if_neg h;have h2:rdE c T U O n a b u v m p q pl ph dl dh=0->(usB c S W wi=false\/bt 0 Z 10000=false)->asE c T U O n a b u v m p q pl ph dl dh S W wi Z=2:=λh h'=>by
  unfold asE;rw [if_pos h,if_neg (by rcases h' with h'|h'<;>simp [h'])]
 have h0:rdE c T U O n a b u v m p q pl ph dl dh=0->usB c S W wi=true->bt 0 Z 10000=true->asE c T U O n a b u v m p q pl ph dl dh S W wi Z=0:=λh h' h''=>by
  unfold asE;rw [if_pos h,h',h''];rfl
 have bad: ∀(x:AV) (k:Int),asE c T U O n a b u v m p q pl ph dl dh S W wi Z=k->k≠0-> ∃r',DV (.tup [x,i k]) r'/\Q r':=λx k he hk=>by
  rw [he] at hQ;exact ⟨.tup [.top,i k],⟨by cases x<;>trivial,⟨rfl,rfl⟩,Ak⟩,hQ.2 hk⟩
 refine ⟨⟨Bo.isRec4 n a b u v,Pt.isRec2 m p q⟩,λh=>⟨⟨Bo.isRec4 n a b u v,Pt.isRec2 m p q⟩,λg=>bad _ 2 (h2 h (.inl g)) VG,λg=>⟨λg'=>bad _ 2 (h2 h (.inr g')) VG,λg'=>?_⟩⟩,λh=>⟨λh'=>absurd h' h,λ_=>?_⟩⟩;exact ⟨.tup [.roI [i c,i T,i U,i O,rds n a b u v,Pt.scs m p q] 26 (wkA c T U O n a b u v m p q pl ph dl dh) 0,i 0],⟨⟨rfl,rfl,λ_ _=>rfl,rfl⟩,⟨rfl,rfl⟩,Ak⟩,hQ.1 (h0 h g g')⟩;exact bad _ _ (hr h) h
def Qj8:HZ:=λl=>match l with
 |[.agg [.x (.int .i64 c),.x (.int .i64 T),.x (.int .i64 U),.x (.int .i64 O),.lst 4 n fr,.lst 2 m ft,.x (.int .i64 pl),.x (.int .i64 ph),.x (.int .i64 dl),.x (.int .i64 dh)],.agg [.x (.int .i64 S),.x (.int .i64 W),.x (.int .i64 wi)],.x (.int .i64 Z)]=>some (.need [U9 4 n fr,U9 2 m ft] (.branch (decide (asE c T U O n (col 0 fr) (col 1 fr) (col 2 fr) (col 3 fr) m (Pt.col 0 ft) (Pt.col 1 ft) pl ph dl dh S W wi Z=0)) (.leaf (.tup [.roI [i c,i T,i U,i O,rds n (col 0 fr) (col 1 fr) (col 2 fr) (col 3 fr),Pt.scs m (Pt.col 0 ft) (Pt.col 1 ft)] 26 (wkA c T U O n (col 0 fr) (col 1 fr) (col 2 fr) (col 3 fr) m (Pt.col 0 ft) (Pt.col 1 ft) pl ph dl dh) 0,i 0])) (.leaf (.tup [.top,i (asE c T U O n (col 0 fr) (col 1 fr) (col 2 fr) (col 3 fr) m (Pt.col 0 ft) (Pt.col 1 ft) pl ph dl dh S W wi Z)]))))
 |_=>none
theorem Qt0:Sx.Enters Tryz.prog 58/\ ∀avs t,Qj8 avs=some t->UH VL 58 avs t:=by
 refine ⟨(UC Tryz.func58),?_⟩;intro avs t h;unfold Qj8 at h;split at h;cases h;intro Q hQ;have hr:U9 4 _ _:=GA hQ.1 _ GB;have ht:U9 2 _ _:=GA hQ.1 _ (HM _ GB);exact UH.same (Wu8 _ _ _ _ _ _ _ _ _ _ _ _ _ _ _ _ _ _ _ _) (.cons (LS.same (.cons (.refl _) (.cons (.refl _) (.cons (.refl _) (.cons (.refl _) (.cons (.lst 4 _ _ _ hr) (.cons (.lst 2 _ _ _ ht) (.cons (.refl _) (.cons (.refl _) (.cons (.refl _) (.cons (.refl _) .nil))))))))))) (.cons (.refl _) (.cons (.refl _) .nil))) Q hQ.2;cases h
def kpB(c T U O:Int)(n:Nat)(a b u v:Nat->Int)(m:Nat)(p q:Nat->Int)(pl ph dl dh:Int)(S W wi Z:Int):Bool:=decide (asE c T U O n a b u v m p q pl ph dl dh S W wi Z=0)&&keB c (wkA c T U O n a b u v m p q pl ph dl dh) S W wi Z
section
variable {c T U O:Int}{n:Nat}{a b u v:Nat->Int}{m:Nat}{p q:Nat->Int}{pl ph dl dh S W wi Z:Int}
theorem Jj3(h:asE c T U O n a b u v m p q pl ph dl dh S W wi Z=0):rdE c T U O n a b u v m p q pl ph dl dh=0/\usB c S W wi=true/\0<=Z/\Z<=10000:=by
 unfold asE at h;split at h;rename_i h1;split at h;rename_i h2;rw [GZ] at h2;exact ⟨h1,h2.1,(bt_iff _ _ _).1 h2.2⟩;cases h;rename_i h1;exact absurd h h1
theorem Zo2(h:rdE c T U O n a b u v m p q pl ph dl dh=0)(h1:usB c S W wi=true)(h2:0<=Z/\Z<=10000):asE c T U O n a b u v m p q pl ph dl dh S W wi Z=0:=by
 unfold asE;rw [if_pos h,h1,(bt_iff _ _ _).2 h2];rfl
end
theorem Xn5(c T U O:Int)(n:Nat)(a b u v:Nat->Int)(m:Nat)(p q:Nat->Int)(pl ph dl dh:Int)(S W wi Z:Int):VV VL 26 [.agg [i c,i T,i U,i O,rds n a b u v,Pt.scs m p q,i pl,i ph,i dl,i dh],.agg [i S,i W,i wi],i Z] (.tup [bl (kpB c T U O n a b u v m p q pl ph dl dh S W wi Z),i (asE c T U O n a b u v m p q pl ph dl dh S W wi Z)]):=by
 refine G9 (L:=[]) (Ae Xg0 Aa) (Aj Ab Ac (Ah Qt0 (U1.nil _))) VW Tryz.func26 (UR Tryz.f26) UV (t:=let z0:=asE c T U O n a b u v m p q pl ph dl dh S W wi Z;let z1:=(wkA c T U O n a b u v m p q pl ph dl dh);(need [U9 4 n λk=>[Bo.i (a k),Bo.i (b k),Bo.i (u k),Bo.i (v k)],U9 2 m λk=>[Pt.i (p k),Pt.i (q k)]] (branch (decide (z0=0)) (branch ((0:Int)==0) (need [drB z1,bdB z1,(1:Int)<=c/\c<=10,(0:Int)<=S/\S<=W/\W<=10,(0:Int)<=wi/\wi<=1000000,(0:Int)<=Z/\Z<=100000] (leaf (RV.tup [RV.x (.bool (keB c z1 S W wi Z)),RV.x (KQ)]))) (leaf (RV.tup [RV.x (KV),RV.x (KQ)]))) (branch (z0==0) VJ.fail (leaf (RV.tup [RV.x (KV),RV.x (.int .i64 (z0))])))))) VQ ?_;simp only [VJ.sat,U8,UZ,GH,UB,UE,H6,R0,beq_iff_eq,beq_eq_false_iff_ne,Ax,Bool.not_eq_false',not_true_eq_false,false_imp_iff,true_imp_iff];refine ⟨⟨Bo.isRec4 n a b u v,Pt.isRec2 m p q⟩,λh=>?_,λh=>⟨λh'=>absurd h' h,λ_=>?_⟩⟩;obtain ⟨h1,h2,h3⟩:=Jj3 h;have hw:=bP h1;have hu:=Xd1.1 h2;refine ⟨⟨hw.1,hw.2.1,hw.2.2.1,VG,VG,VG⟩,?_,h.symm⟩;unfold kpB;rw [h];rfl;unfold kpB;rw [decide_eq_false h];rfl
def b6:UU
 |[.agg [.x (.int .i64 c),.x (.int .i64 T),.x (.int .i64 U),.x (.int .i64 O),.lst 4 n fr,.lst 2 m ft,.x (.int .i64 pl),.x (.int .i64 ph),.x (.int .i64 dl),.x (.int .i64 dh)],.agg [.x (.int .i64 S),.x (.int .i64 W),.x (.int .i64 wi)],.x (.int .i64 Z)]=>some ([U9 4 n fr,U9 2 m ft],.tup [bl (kpB c T U O n (col 0 fr) (col 1 fr) (col 2 fr) (col 3 fr) m (Pt.col 0 ft) (Pt.col 1 ft) pl ph dl dh S W wi Z),i (asE c T U O n (col 0 fr) (col 1 fr) (col 2 fr) (col 3 fr) m (Pt.col 0 ft) (Pt.col 1 ft) pl ph dl dh S W wi Z)])
 |_=>none
theorem hU:VM VL 26 b6:=by
 refine ⟨(UC Tryz.func26),?_⟩;intro avs ns res h I;unfold b6 at h;split at h;cases h;have hr:U9 4 _ _:=I _ GB;have ht:U9 2 _ _:=I _ (HM _ GB);exact (Xn5 _ _ _ _ _ _ _ _ _ _ _ _ _ _ _ _ _ _ _ _).same (.cons (LS.same (.cons (.refl _) (.cons (.refl _) (.cons (.refl _) (.cons (.refl _) (.cons (.lst 4 _ _ _ hr) (.cons (.lst 2 _ _ _ ht) (.cons (.refl _) (.cons (.refl _) (.cons (.refl _) (.cons (.refl _) .nil))))))))))) (.cons (.refl _) (.cons (.refl _) .nil)));cases h
def hdN(c T U O:Int)(n:Nat)(a b u v:Nat->Int)(m:Nat)(p q:Nat->Int)(pl ph dl dh:Int)(Z:Int):Nat:=if hdE c T U O n a b u v m p q pl ph dl dh Z=0 then c.toNat+1 else 0
theorem PW{P:Program}{c:Code}{ps:List Prop}{sp:UF}(h:U8 ps->HN P c sp):HN P c (FE ps sp):=λcx hf=>wM (λhp=>h hp cx hf)
theorem Zn9{g h:Nat->Int}{k j:Nat}{x y:Int}(hx:x=g k)(hy:y=h k)(hj:j<k+1):GE k (λk=>[i (g k),i (h k)]) (U3 2 [i x,i y]) j=[i (g j),i (h j)]:=by
 subst hx;subst hy;show H9 (decide (j<k)) [i (g j),i (h j)] (U3 2 [i (g k),i (h k)] (j-k))=_;rw [show j-k=0 by omega]
 by_cases hj:j<k;rw [decide_eq_true hj];rfl;obtain rfl:j=k:=VG;rw [decide_eq_false hj];rfl
section
variable (c T U O:Int)(n:Nat)(a b u v:Nat->Int)(m:Nat)(p q:Nat->Int)(pl ph dl dh:Int)(Z:Int)
def Jo7:St:={σ:=mkS 37 [(0,.agg [i c,i T,i U,i O,rds n a b u v,Pt.scs m p q,i pl,i ph,i dl,i dh]),(1,i Z),(2,.fn (.func 72) [] []),(3,.ptr 0 0),(4,.ptr 1 0),(5,.ptr 2 0),(6,.x (.slice none 0 0)),(7,i 0),(8,.ptr 10 0),(9,i 0),(10,.ptr 18 0),(26,.fn (.func 140) [] [.ro [i 0],.ro [i c]])],m:=[(901,.row 51 2 0 (λk=>[i (onL (wkA c T U O n a b u v m p q pl ph dl dh) k Z),i (onH (wkA c T U O n a b u v m p q pl ph dl dh) k Z)])),(18,.cells 112 [.row 901]),(10,.cells 124 [.roI [i c,i T,i U,i O,rds n a b u v,Pt.scs m p q] 26 (wkA c T U O n a b u v m p q pl ph dl dh) 0]),(2,.cells 163 [.fn (.func 72) [] []]),(1,.cells 3 [i Z]),(0,.cells 53 [i c,i T,i U,i O,rds n a b u v,Pt.scs m p q,i pl,i ph,i dl,i dh])],nx:=902}
noncomputable def Js6:Code:=SW (VP (U5 Tryz.f71) 0)
noncomputable def Jr7:Code:=SV (VP (U5 Tryz.f71) 0)
def pD(k:Nat):St:={σ:=H0 [] (Jo7 c T U O n a b u v m p q pl ph dl dh Z).σ,m:=[(901,.row 51 2 k (λk=>[i (onL (wkA c T U O n a b u v m p q pl ph dl dh) k Z),i (onH (wkA c T U O n a b u v m p q pl ph dl dh) k Z)])),(18,.cells 112 [.row 901]),(10,.cells 124 [.roI [i c,i T,i U,i O,rds n a b u v,Pt.scs m p q] 26 (wkA c T U O n a b u v m p q pl ph dl dh) 0]),(2,.cells 163 [.fn (.func 72) [] []]),(1,.cells 3 [i Z]),(0,.cells 53 [i c,i T,i U,i O,rds n a b u v,Pt.scs m p q,i pl,i ph,i dl,i dh])],nx:=902}
def oD(k:Nat):G4->Option St
 | .normal=>some {σ:=H0 [] (Jo7 c T U O n a b u v m p q pl ph dl dh Z).σ,m:=[(901,.row 51 2 ((c-0+1).toNat) (λk=>[i (onL (wkA c T U O n a b u v m p q pl ph dl dh) k Z),i (onH (wkA c T U O n a b u v m p q pl ph dl dh) k Z)])),(18,.cells 112 [.row 901]),(10,.cells 124 [.roI [i c,i T,i U,i O,rds n a b u v,Pt.scs m p q] 26 (wkA c T U O n a b u v m p q pl ph dl dh) 0]),(2,.cells 163 [.fn (.func 72) [] []]),(1,.cells 3 [i Z]),(0,.cells 53 [i c,i T,i U,i O,rds n a b u v,Pt.scs m p q,i pl,i ph,i dl,i dh])],nx:=902}
 |_=>none
def T_eO:CT:= .leaf (.normal,pD c T U O n a b u v m p q pl ph dl dh Z ((c-0+1).toNat))
def Xy3:UF:=GG [(.cell 18 0,901,51,2)] (HD (pD c T U O n a b u v m p q pl ph dl dh Z (0)) (T_eO c T U O n a b u v m p q pl ph dl dh Z))
end
abbrev ZS(c:Int):AV:=AV.fn (Fn.func 140) [] [AV.ro [iI 0],AV.ro [iI c]]
abbrev ZZ:Prop:=AV.fn (Fn.func 72) [] []=AV.fn (Fn.func 72) [] []
abbrev KW:Ext:={R:=[(95,aX)],H:=[],C:=[(51,fM)] }
section
variable (c T U O:Int)(n:Nat)(a b u v:Nat->Int)(m:Nat)(p q:Nat->Int)(pl ph dl dh:Int)(Z:Int)
theorem Jh4(VO:rdE c T U O n a b u v m p q pl ph dl dh=0)(UD:0<=Z/\Z<=10000)(HO:drB (wkA c T U O n a b u v m p q pl ph dl dh)/\bdB (wkA c T U O n a b u v m p q pl ph dl dh)/\1<=c/\c<=10):HN VL (.rangeFunc (rfF (VP (U5 Tryz.f71) 0)) (jK (VP (U5 Tryz.f71) 0)) Js6 Jr7) (Xy3 c T U O n a b u v m p q pl ph dl dh Z):=by
 refine P6 [(.cell 18 0,901,51,2)] (L:=[]) (Ae RF (Ae We1 Aa)) (Aj (Af dN Ab) Ac (Ah wZ (U1.nil _))) VW U0 (V:=Nat) (pD c T U O n a b u v m p q pl ph dl dh Z) (λk=>k<=((c-0+1).toNat)) (λk=>k) (oD c T U O n a b u v m p q pl ph dl dh Z) (x0:=0) VS rfl ?_ ?_ ?_ ?_ (g:=140) (caps:=[.ro [i 0],.ro [i c]]) VQ VQ (EM 0 c VG VG) (λ_=>rfl) ?_;rintro k;kernel_rfl;rintro k y E h;unfold oD at h;split at h;cases h;kernel_rfl;cases h;rintro k;rfl;rintro k y E h;unfold oD at h;split at h;cases h;rfl;cases h;rintro Q hQ k hx;refine ⟨λhlt=>⟨(k+1),rfl,?_⟩,λPG=>?_⟩;(with_reducible refine DA (t:=let z0:=(wkA c T U O n a b u v m p q pl ph dl dh);let z1:=((0:Int)+(k:Int)).toNat;(need [drB z0,bdB z0,(0:Int)<=0+(k:Int)/\(0:Int)+(k:Int)<=10,(0:Int)<=Z/\Z<=100000] (need [(k+1)*16<=140737488355328,RQ 1 (U3 2 [iI (onL z0 z1 Z),iI (onH z0 z1 Z)])] (need [X3 c T U O n a b u v m p q pl ph dl dh,Z=Z,ZZ,KI,VU (ptr 1 0),VU (ptr 2 0),Z8=Z8,K4,VU (ptr 10 0),K4,Y0,ZS c=ZS c,k+1=k+1,GR (k+1) (GE k (λk=>[iI (onL z0 k Z),iI (onH z0 k Z)]) (U3 2 [iI (onL z0 z1 Z),iI (onH z0 z1 Z)])) (λi=>[iI (onL z0 i Z),iI (onH z0 i Z)]),VU (AV.row 901),VU (ZB c T U O n a b u v m p q pl ph dl dh),ZZ,Z=Z,c=c,T=T,U=U,O=O,YL n a b u v,YP m p q,pl=pl,ph=ph,dl=dl,dh=dh] (leaf G4.normal))))) VQ ?_)
 simp only [VJ.sat,U8,UE]
 have ek:((0:Int)+(k:Int)).toNat=k:=VG;refine ⟨⟨HO.1,HO.2.1,VG,VG⟩,⟨VG,λj hj a ha=>FM ha (by simp [AV.one,Value.oneCell'])⟩,λj hj=>?_,VG⟩
 rw [ek];exact Zn9 rfl rfl hj;subst PG;exact hQ
abbrev YO:Value:=Value.slice none 0 0
theorem Wr7:VV VL 71 [.agg [i c,i T,i U,i O,rds n a b u v,Pt.scs m p q,i pl,i ph,i dl,i dh],i Z,.fn (.func 72) [] []] (.tup [.lst 2 (hdN c T U O n a b u v m p q pl ph dl dh Z) (λk=>[i (onL (wkA c T U O n a b u v m p q pl ph dl dh) k Z),i (onH (wkA c T U O n a b u v m p q pl ph dl dh) k Z)]),i (hdE c T U O n a b u v m p q pl ph dl dh Z)]):=by
 refine G9 (L:=[FE [rdE c T U O n a b u v m p q pl ph dl dh=0,0<=Z/\Z<=10000,drB (wkA c T U O n a b u v m p q pl ph dl dh)/\bdB (wkA c T U O n a b u v m p q pl ph dl dh)/\1<=c/\c<=10] (Xy3 c T U O n a b u v m p q pl ph dl dh Z)]) (Ae RF (Ae We1 Aa)) (Aj (Af dN Ab) Ac (Ah wZ (U1.nil _))) VW Tryz.func71 (UR Tryz.f71) (G0 (lpE (b:= .rangeFunc (rfF (VP (U5 Tryz.f71) 0)) (jK (VP (U5 Tryz.f71) 0)) Js6 Jr7) VQ<|PW (λh=>Jh4 c T U O n a b u v m p q pl ph dl dh Z h.1 h.2.1 h.2.2))) (t:=let z0:=wkA c T U O n a b u v m p q pl ph dl dh;let z1:=rdE c T U O n a b u v m p q pl ph dl dh;let z2:=(leaf (RV.tup [RV.lst 2 (c-0+1).toNat λk=>[iI (onL (z0) k Z),iI (onH (z0) k Z)],RV.x (KQ)]));let z3:=(leaf (RV.tup [RV.x (YO),RV.x (.int .i64 (2:Int))]));(need [U9 4 n λk=>[Bo.i (a k),Bo.i (b k),Bo.i (u k),Bo.i (v k)],U9 2 m λk=>[Pt.i (p k),Pt.i (q k)]] (branch (decide (z1=0)) (branch ((0:Int) != 0) (leaf (RV.tup [RV.x (YO),RV.x (KQ)])) (branch (!bt (0:Int) Z (10000:Int)) z3 (need [z1=0,(0:Int)<=Z/\Z<=10000,drB (z0)/\bdB (z0)/\(1:Int)<=c/\c<=10] (need [X3 c T U O n a b u v m p q pl ph dl dh,Z=Z,ZZ,KI,VU (ptr 1 0),VU (ptr 2 0),Z8=Z8,K4,VU (ptr 10 0),K4,Y0,ZS c=ZS c,0=0,∀(i:Nat),i<0->[]=[iI (onL (z0) i Z),iI (onH (z0) i Z)],VU (AV.row 901),VU (ZB c T U O n a b u v m p q pl ph dl dh),ZZ,Z=Z,c=c,T=T,U=U,O=O,YL n a b u v,YP m p q,pl=pl,ph=ph,dl=dl,dh=dh] z2)))) (branch (z1 != 0) (leaf (RV.tup [RV.x (YO),RV.x (.int .i64 (z1))])) (branch (!bt (0:Int) Z (10000:Int)) z3 (need [z1=0,(0:Int)<=Z/\Z<=10000,drB (z0)/\bdB (z0)/\(1:Int)<=c/\c<=10] (need [X3 c T U O n a b u v m p q pl ph dl dh,Z=Z,ZZ,KI,VU (ptr 1 0),VU (ptr 2 0),Z8=Z8,K4,VU (ptr 10 0),z1=0,Y0,ZS c=ZS c,0=0,∀(i:Nat),i<0->[]=[iI (onL (z0) i Z),iI (onH (z0) i Z)],VU (AV.row 901),AV.x (.pointer none)=roI [iI c,iI T,iI U,iI O,QR n a b u v,QX m p q] 26 (λa_1=>z0 a_1) 0,ZZ,Z=Z,c=c,T=T,U=U,O=O,YL n a b u v,YP m p q,pl=pl,ph=ph,dl=dl,dh=dh] z2))))))) VQ ?_
 simp only [VJ.sat,U8,UZ,GH,UB,UE,H6,R0,beq_iff_eq,beq_eq_false_iff_ne,Ax,Bool.not_eq_false',not_true_eq_false,false_imp_iff,true_imp_iff];have e2:rdE c T U O n a b u v m p q pl ph dl dh=0->bt 0 Z 10000=false->hdE c T U O n a b u v m p q pl ph dl dh Z=2:=λh h'=>by
  unfold hdE;rw [if_pos h,h'];rfl
 have e0:rdE c T U O n a b u v m p q pl ph dl dh=0->bt 0 Z 10000=true->hdE c T U O n a b u v m p q pl ph dl dh Z=0:=λh h'=>by
  unfold hdE;rw [if_pos h,h'];rfl
 have er: ¬rdE c T U O n a b u v m p q pl ph dl dh=0->hdE c T U O n a b u v m p q pl ph dl dh Z=rdE c T U O n a b u v m p q pl ph dl dh:=λh=>if_neg h;have eN: ∀k:Int,hdE c T U O n a b u v m p q pl ph dl dh Z=k->k≠0->(eY (YO)/\hdN c T U O n a b u v m p q pl ph dl dh Z=0)/\k=hdE c T U O n a b u v m p q pl ph dl dh Z:=λk h hk=>⟨⟨by trivial,if_neg (by rw [h];exact hk)⟩,h.symm⟩
 have eP:rdE c T U O n a b u v m p q pl ph dl dh=0->bt 0 Z 10000=true->hdN c T U O n a b u v m p q pl ph dl dh Z=c.toNat+1:=λh h'=>if_pos (e0 h h');refine ⟨⟨Bo.isRec4 n a b u v,Pt.isRec2 m p q⟩,λh=>⟨λh'=>eN 2 (e2 h h') (by decide),λh'=>?_⟩,λh=>⟨λ_=>eN _ (er h) h,λh''=>absurd h'' h⟩⟩
 have hw:=bP h;have hb:=(bt_iff _ _ _).1 h';refine ⟨⟨h,hb,hw.1,hw.2.1,hw.2.2.1⟩,λj hj=>absurd hj (Aq _),⟨?_,λj _ x hx=>?_⟩,(e0 h h').symm⟩;rw [eP h h'];omega;simp only [GK,DP,or_false] at hx;rcases hx with rfl|rfl<;>exact Ak
end
def Qg8:UU
 |[.agg [.x (.int .i64 c),.x (.int .i64 T),.x (.int .i64 U),.x (.int .i64 O),.lst 4 n fr,.lst 2 m ft,.x (.int .i64 pl),.x (.int .i64 ph),.x (.int .i64 dl),.x (.int .i64 dh)],.x (.int .i64 Z),.fn (.func 72) [] []]=>some ([U9 4 n fr,U9 2 m ft],.tup [.lst 2 (hdN c T U O n (col 0 fr) (col 1 fr) (col 2 fr) (col 3 fr) m (Pt.col 0 ft) (Pt.col 1 ft) pl ph dl dh Z) (λk=>[i (onL (wkA c T U O n (col 0 fr) (col 1 fr) (col 2 fr) (col 3 fr) m (Pt.col 0 ft) (Pt.col 1 ft) pl ph dl dh) k Z),i (onH (wkA c T U O n (col 0 fr) (col 1 fr) (col 2 fr) (col 3 fr) m (Pt.col 0 ft) (Pt.col 1 ft) pl ph dl dh) k Z)]),i (hdE c T U O n (col 0 fr) (col 1 fr) (col 2 fr) (col 3 fr) m (Pt.col 0 ft) (Pt.col 1 ft) pl ph dl dh Z)])
 |_=>none
theorem Wr6:VM VL 71 Qg8:=by
 refine ⟨(UC Tryz.func71),?_⟩;intro avs ns res h I;unfold Qg8 at h;split at h;cases h;have hr:U9 4 _ _:=I _ GB;have ht:U9 2 _ _:=I _ (HM _ GB);exact (Wr7 _ _ _ _ _ _ _ _ _ _ _ _ _ _ _ _ _).same (.cons (LS.same (.cons (.refl _) (.cons (.refl _) (.cons (.refl _) (.cons (.refl _) (.cons (.lst 4 _ _ _ hr) (.cons (.lst 2 _ _ _ ht) (.cons (.refl _) (.cons (.refl _) (.cons (.refl _) (.cons (.refl _) .nil))))))))))) (.cons (.refl _) (.cons (.refl _) .nil)));cases h
theorem u7(c T U O:Int)(n:Nat)(a b u v:Nat->Int)(m:Nat)(p q:Nat->Int)(pl ph dl dh:Int)(Z:Int):DH VL 43 [.agg [i c,i T,i U,i O,rds n a b u v,Pt.scs m p q,i pl,i ph,i dl,i dh],i Z] (.tup [.lst 2 (hdN c T U O n a b u v m p q pl ph dl dh Z) (λk=>[i (onL (wkA c T U O n a b u v m p q pl ph dl dh) k Z),i (onH (wkA c T U O n a b u v m p q pl ph dl dh) k Z)]),i (hdE c T U O n a b u v m p q pl ph dl dh Z)]):=by
 refine HE (L:=[]) (Ae Wr6 Aa) Ad VW Tryz.func43 (UR Tryz.f43) UV (t:=need [U9 4 n λk=>[Bo.i (a k),Bo.i (b k),Bo.i (u k),Bo.i (v k)],U9 2 m λk=>[Pt.i (p k),Pt.i (q k)]] (leaf (tup [lst 2 (hdN c T U O n a b u v m p q pl ph dl dh Z) λk=>[iI (onL (wkA c T U O n a b u v m p q pl ph dl dh) k Z),iI (onH (wkA c T U O n a b u v m p q pl ph dl dh) k Z)],iI (hdE c T U O n a b u v m p q pl ph dl dh Z)]))) VQ ?_;simp only [VJ.sat,U8,UE];exact ⟨⟨Bo.isRec4 n a b u v,Pt.isRec2 m p q⟩,⟨rfl,rfl,λ_ _=>rfl⟩,⟨rfl,rfl⟩,Ak⟩
end Go.Proofs.YtakpdkmhclhlnaaGreatDoor
namespace Go.Proofs.YtakpdkmhclhlnaaGreatDoor.Hd
open Go Go.Sx Go.RowKit Bo
open Go.Sx.VJ (need branch leaf)
open Go.Sx.AV (lst ptr agg roI tup top)
def SC:UU
 |[.x (.int .i64 n),.x (.int .i64 U),.x (.int .i64 O)]=>some ([],bl (bt U n O))
 |_=>none
abbrev WK:Value:=Value.bool false
theorem V6{p:Prop}(h:p:=by
 simp only [VJ.sat,U8,UZ,GH,UB,UE];all_goals (simp+contextual [bt,insB,Bo.bt,Bo.insB,Bool.and_assoc]);all_goals omega):p:=h
theorem sE(n U O:Int):VV VL 122 [i n,i U,i O] (bl (bt U n O)):=by
 refine GS Tryz.func122 (t:=branch (decide (U<=n)) (leaf (RV.x (.bool (decide (n<=O))))) (leaf (RV.x (WK)))) VQ ?_;exact V6
theorem zS:VM VL 122 SC:=by
 refine ⟨(UC Tryz.func122),?_⟩;intro avs ns res h I;unfold SC at h;split at h;cases h;exact sE _ _ _;cases h
def SE:UU
 |[.agg [.x (.int .i64 a),.x (.int .i64 b)],.x (.int .i64 U),.x (.int .i64 O)]=>some ([],bl (insB U a b O))
 |_=>none
theorem sL(a b U O:Int):VV VL 163 [.agg [i a,i b],i U,i O] (bl (insB U a b O)):=by
 refine GS Tryz.func163 (t:=branch (decide (U<=a)) (branch (decide (a<=b)) (leaf (RV.x (.bool (decide (b<=O))))) (leaf (RV.x (WK)))) (leaf (RV.x (WK)))) VQ ?_;exact V6
theorem IW:VM VL 163 SE:=by
 refine ⟨(UC Tryz.func163),?_⟩;intro avs ns res h I;unfold SE at h;split at h;cases h;exact sL _ _ _ _;cases h
def SD:UU
 |[.agg [.x (.int .i64 a),.x (.int .i64 b)]]=>some ([],bl (insB (-100) a b 100))
 |_=>none
theorem sI(a b:Int):VV VL 121 [.agg [i a,i b]] (bl (insB (-100) a b 100)):=by
 refine VY (L:=[]) (Ae IW Aa) VW Tryz.func121 (UR Tryz.f121) U0 (t:=leaf (RV.x (.bool (insB (-100:Int) a b (100:Int))))) VQ ?_;exact YX
theorem sH:VM VL 121 SD:=by
 refine ⟨(UC Tryz.func121),?_⟩;intro avs ns res h I;unfold SD at h;split at h;cases h;exact sI _ _;cases h
def Qh2:UU
 |[.agg [.x (.int .i64 a),.x (.int .i64 b)]]=>some ([],bl (insB 0 a b 1000))
 |_=>none
theorem Wt9(a b:Int):VV VL 167 [.agg [i a,i b]] (bl (insB 0 a b 1000)):=by
 refine VY (L:=[]) (Ae IW Aa) VW Tryz.func167 (UR Tryz.f167) U0 (t:=leaf (RV.x (.bool (insB (0:Int) a b (1000:Int))))) VQ ?_;exact YX
theorem lN:VM VL 167 Qh2:=by
 refine ⟨(UC Tryz.func167),?_⟩;intro avs ns res h I;unfold Qh2 at h;split at h;cases h;exact Wt9 _ _;cases h
def aY:UU
 |[.x (.int .i64 n)]=>some ([0<=n/\n<=1000],i (1+n))
 |_=>none
theorem Wt1(n:Int)(VO:0<=n/\n<=1000):VV VL 54 [i n] (i (1+n)):=by
 refine GS Tryz.func54 (t:=need [VI ((1:Int)+n)] (leaf (RV.x (.int .i64 ((1:Int)+n))))) VQ ?_;simp only [VJ.sat,U8,UZ,GH,UB,VI,UE];all_goals first|omega|grind
theorem RE:VM VL 54 aY:=by
 refine ⟨(UC Tryz.func54),?_⟩;intro avs ns res h I;unfold aY at h;split at h;cases h;exact Wt1 _ (I _ VS);cases h
def aZ:UU
 |[.x (.int .i64 n)]=>some ([0<=n/\n<=1000],i (7+n))
 |_=>none
theorem Wt4(n:Int)(VO:0<=n/\n<=1000):VV VL 127 [i n] (i (7+n)):=by
 refine GS Tryz.func127 (t:=need [VI ((7:Int)+n)] (leaf (RV.x (.int .i64 ((7:Int)+n))))) VQ ?_;exact V9
theorem LR:VM VL 127 aZ:=by
 refine ⟨(UC Tryz.func127),?_⟩;intro avs ns res h I;unfold aZ at h;split at h;cases h;exact Wt4 _ (I _ VS);cases h
def kM:UU:=kK
theorem Qs3(a b:Int):VV VL 128 [.lst 1 2 (λk=>[i (if k=0 then a else b)])] (i (min a b)):=by
 refine VY (L:=[]) (Ae SU Aa) VW Tryz.func128 (UR Tryz.f128) U0 (t:=leaf (RV.x (.int .i64 (min (if 0=0 then a else b) (if 1=0 then a else b))))) VQ ?_
 simp [VJ.sat,UZ,UB]
theorem FX:VM VL 128 kM:=by
 refine ⟨(UC Tryz.func128),?_⟩;intro avs ns res h I;unfold kM kK at h;split at h;rename_i f;split at h;rename_i a b h0 h1;cases h;refine (Qs3 a b).same (.cons (.lst 1 2 _ _ ?_) .nil);intro k hk;rcases (show k=0\/k=1 by omega) with rfl|rfl
 exact h0;exact h1;cases h;cases h
def mC:UU
 |[.agg [.lst 2 3 f,.x (.int .i64 er),.lst 3 N bf],.x (.int .i64 n)]=>some ([],bl (bt 0 n 2))
 |_=>none
theorem Qs4(f:Nat->List AV)(er:Int)(N:Nat)(bf:Nat->List AV)(n:Int):VV VL 166 [.agg [.lst 2 3 f,i er,.lst 3 N bf],i n] (bl (bt 0 n 2)):=by
 refine VY (L:=[]) (Ae zS Aa) VW Tryz.func166 (UR Tryz.f166) U0 (t:=need [VI ((↑(3:Nat):Int)-1)] (leaf (RV.x (.bool (bt (0:Int) n ((↑(3:Nat):Int)-1)))))) VQ ?_;simp [VJ.sat,U8,UZ,UB,VI]
theorem OV:VM VL 166 mC:=by
 refine ⟨(UC Tryz.func166),?_⟩;intro avs ns res h I;unfold mC at h;split at h;cases h;exact Qs4 _ _ _ _ _;cases h
def snB(r:Nat->Int):Nat->Int->Bool
 | 0,_=>false
 |k+1,q=>snB r k q||(r k==q)
theorem tY(r:Nat->Int)(q:Int): ∀k,snB r k q=true↔ ∃j,j<k/\r j=q
 | 0=>by simp [snB]
 |k+1=>by
  simp only [snB,Bl,tY r q k,beq_iff_eq];constructor;rintro (⟨j,h1,h2⟩|h);exact ⟨j,VG,h2⟩;exact ⟨k,VG,h⟩;rintro ⟨j,h1,h2⟩;rcases (show j<k\/j=k by omega) with h|rfl
  exact .inl ⟨j,h,h2⟩;exact .inr h2
abbrev bts(m:Nat)(r v:Nat->Int):AV:= .lst 2 m (λj=>[i (r j),i (v j)])
abbrev WE(f:Nat->List AV):AV:=lst 2 3 λa=>f a
abbrev X9(m:Nat)(r:Nat->Int)(v:Nat->Int):AV:=lst 2 m λj=>[iI (r j),iI (v j)]
abbrev JY(N:Nat)(bf:Nat->List AV):AV:=lst 3 N λa=>bf a
section
variable (f:Nat->List AV)(er:Int)(N:Nat)(bf:Nat->List AV)(U O:Int)(m:Nat)(r v:Nat->Int)
def Zs8:St:={σ:=[agg [WE f,iI er,JY N bf],agg [iI U,iI O,X9 m r v],ptr 0 0,ptr 1 0,top,ptr 3 0,top,top,top,X9 m r v,iI (m:Int)]++HF 28 [],m:=[(3,GL.cells 278 [AV.x (WK),AV.x (WK),AV.x (WK),AV.x (WK),AV.x (WK),AV.x (WK)]),(1,GL.cells 148 [iI U,iI O,X9 m r v]),(0,GL.cells 59 [WE f,iI er,JY N bf])],nx:=8}
noncomputable def Js0:Code:=U7 (VP (U5 Tryz.f124) 0)
def Wk4(k:Nat):St:=(upE [(11,i k)] [(3,.cells 278 [bl (snB r (k) 0),bl (snB r (k) 1),bl (snB r (k) 2),bl (snB r (k) 3),bl (snB r (k) 4),bl (snB r (k) 5)]),(1,.cells 148 [i U,i O,bts m r v]),(0,.cells 59 [.lst 2 3 f,i er,.lst 3 N bf])] (Zs8 f er N bf U O m r v))
def EA(k:Nat):G4->Option St
 | .exit 0=>some (upE [] [(3,.cells 278 [bl (snB r (m) 0),bl (snB r (m) 1),bl (snB r (m) 2),bl (snB r (m) 3),bl (snB r (m) 4),bl (snB r (m) 5)]),(1,.cells 148 [i U,i O,bts m r v]),(0,.cells 59 [.lst 2 3 f,i er,.lst 3 N bf])] (Zs8 f er N bf U O m r v))
 |_=>none
def Jn3:CT:= .leaf (.exit 0,(EA f er N bf U O m r v 0 (.exit 0)).getD (Zs8 f er N bf U O m r v))
def Xy6:UF:=(HD (Wk4 f er N bf U O m r v (0)) (Jn3 f er N bf U O m r v))
end
abbrev QO:Prop:=ptr 0 0=ptr 0 0
abbrev XV:Prop:=ptr 1 0=ptr 1 0
abbrev ZF:Prop:=ptr 3 0=ptr 3 0
theorem YW{p:Prop}(h:p:=by
 (with_reducible repeat' first|apply Al|intro _)
 all_goals first|exact Ak|omega|with_reducible rfl|(rename_i E hE;cases hE;exact hQ)|rfl):p:=h
section
variable (f:Nat->List AV)(er:Int)(N:Nat)(bf:Nat->List AV)(U O:Int)(m:Nat)(r v:Nat->Int)
theorem Ji9(VO:m<=1000)(UD: ∀j,j<m->0<=r j/\r j<=2/\ -1000<=v j/\v j<=2000)(HO: ∀j k,j<k->k<m->r j≠r k)(DZ:insB 0 U O 1000=true):G5 VL (.loop Js0) (Xy6 f er N bf U O m r v):=by
 refine HC (L:=[]) (Ae OV (Ae zS (Ae lN Aa))) VW U0 (X:=Nat) (Wk4 f er N bf U O m r v) (λk=>k<=m) (λk=>m-k) (EA f er N bf U O m r v) (x0:=0) VS ?_ ?_ ?_;rintro k;kernel_rfl;rintro k y E h;unfold EA at h;split at h;cases h;kernel_rfl;cases h;rintro Q hQ k hx;refine ⟨(k+1),?_⟩;(with_reducible refine DA (t:=branch (decide ((k:Int)<(m:Int))) (need [UG k m] (branch (!bt (0:Int) (r k) (2:Int)) VJ.fail (need [UG (r k) 6] (need [0+(r k).toNat*1<List.length [snB r k (0:Int),snB r k (1:Int),snB r k (2:Int),snB r k (3:Int),snB r k (4:Int),snB r k (5:Int)]] (branch (match [snB r k (0:Int),snB r k (1:Int),snB r k (2:Int),snB r k (3:Int),snB r k (4:Int),snB r k (5:Int)][0+(r k).toNat*1]? with|some x=>x|none=>false) VJ.fail (branch (!bt (-1000:Int) (v k) (2000:Int)) VJ.fail (need [UG (r k) 6] (need [0+(r k).toNat*1<List.length [snB r k (0:Int),snB r k (1:Int),snB r k (2:Int),snB r k (3:Int),snB r k (4:Int),snB r k (5:Int)]] (need [VI ((k:Int)+1)] (need [VU (agg [WE f,iI er,JY N bf]),VU (agg [iI U,iI O,X9 m r v]),QO,XV,ZF,VU (X9 m r v),VU (m:Int),(k:Int)+1=(↑(k+1):Int),(if 0=0+(r k).toNat*1 then true else snB r k (0:Int))=snB r (k+1) (0:Int),(if 1=0+(r k).toNat*1 then true else snB r k (1:Int))=snB r (k+1) (1:Int),(if 2=0+(r k).toNat*1 then true else snB r k (2:Int))=snB r (k+1) (2:Int),(if 3=0+(r k).toNat*1 then true else snB r k (3:Int))=snB r (k+1) (3:Int),(if 4=0+(r k).toNat*1 then true else snB r k (4:Int))=snB r (k+1) (4:Int),(if 5=0+(r k).toNat*1 then true else snB r k (5:Int))=snB r (k+1) (5:Int),U=U,O=O,VU (X9 m r v),WE f=WE f,er=er,VU (JY N bf)] (leaf G4.normal))))))))))) (need [VU (agg [WE f,iI er,JY N bf]),VU (agg [iI U,iI O,X9 m r v]),QO,XV,ZF,VU (X9 m r v),VU (m:Int),snB r k (0:Int)=snB r m (0:Int),snB r k (1:Int)=snB r m (1:Int),snB r k (2:Int)=snB r m (2:Int),snB r k (3:Int)=snB r m (3:Int),snB r k (4:Int)=snB r m (4:Int),snB r k (5:Int)=snB r m (5:Int),U=U,O=O,VU (X9 m r v),WE f=WE f,er=er,VU (JY N bf)] (leaf (G4.exit 0)))) VQ ?_)
 simp only [Jn3,EA,VJ.sat,GQ] at hQ;simp only [VJ.sat,U8,UZ,GH,UB,VI,UE,H6,FW,R0,RT,GJ,EA]
 refine ⟨λh=>?_,λh=>?_⟩
 ·obtain ⟨h0,h1,h2,h3⟩:=UD k VG;have hno:snB r k (r k)=false:=by
   rw [←Bool.not_eq_true,tY];rintro ⟨j,hj,he⟩;exact HO j k hj VG he
  have hb1:bt 0 (r k) 2=true:=(bt_iff _ _ _).2 VG;have hb2:bt (-1000) (v k) 2000=true:=(bt_iff _ _ _).2 VG;rcases (show r k=0\/r k=1\/r k=2 by omega) with hr|hr|hr
  all_goals
   rw [hr] at hno hb1;simp [hr,hno,hb1,hb2,snB];exact YW
 obtain rfl:k=m:=VG;exact YW
theorem Wu2(VO:m<=1000)(UD: ∀j,j<m->0<=r j/\r j<=2/\ -1000<=v j/\v j<=2000)(HO: ∀j k,j<k->k<m->r j≠r k)(DZ:insB 0 U O 1000=true):VV VL 124 [.agg [.lst 2 3 f,i er,.lst 3 N bf],.agg [i U,i O,bts m r v]] (bl true):=by
 refine VY (L:=[Xy6 f er N bf U O m r v]) (Ae OV (Ae zS (Ae lN Aa))) VW Tryz.func124 (UR Tryz.f124) (G0 (lpE (b:= .loop Js0) VQ<|Ji9 f er N bf U O m r v VO UD HO DZ)) (t:=need [VU (agg [WE f,iI er,JY N bf]),VU (agg [iI U,iI O,X9 m r v]),QO,XV,ZF,VU (X9 m r v),VU (m:Int),(0:Int)=(↑(0:Nat):Int),false=snB r 0 (0:Int),false=snB r 0 (1:Int),false=snB r 0 (2:Int),false=snB r 0 (3:Int),false=snB r 0 (4:Int),false=snB r 0 (5:Int),U=U,O=O,VU (X9 m r v),WE f=WE f,er=er,VU (JY N bf)] (leaf (RV.x (.bool (insB (0:Int) U O (1000:Int)))))) VQ ?_
 exact YX
end
def Ql6(m:Nat)(r v:Nat->Int):Prop:=m<=1000/\(∀j,j<m->0<=r j/\r j<=2/\ -1000<=v j/\v j<=2000)/\ ∀j k,j<k->k<m->r j≠r k
section
variable (N:Nat)(U O:Nat->Int)(m:Nat->Nat)(g:Nat->Nat->List AV)
abbrev bgs:AV:= .lst 3 N (λk=>[i (U k),i (O k),.lst 2 (m k) (g k)])
def Qs0:Prop:= ∀k,k<N->U9 2 (m k) (g k)/\Ql6 (m k) (col 0 (g k)) (col 1 (g k))/\insB 0 (U k) (O k) 1000=true
end
def vB(N:Nat)(bf:Nat->List AV):Prop:=N<=6/\ ∃(U O:Nat->Int) (m:Nat->Nat) (g:Nat->Nat->List AV),(∀k,k<N->bf k=[i (U k),i (O k),.lst 2 (m k) (g k)])/\Qs0 N U O m g
def Qh3:UU
 |[.agg [.lst 2 3 f,.x (.int .i64 er),.lst 3 N bf],.agg [.x (.int .i64 U),.x (.int .i64 O),.lst 2 m g]]=>some ([U9 2 m g,Ql6 m (col 0 g) (col 1 g),insB 0 U O 1000=true],bl true)
 |_=>none
theorem Wu1:VM VL 124 Qh3:=by
 refine ⟨(UC Tryz.func124),?_⟩;intro avs ns res h I;unfold Qh3 at h;split at h;cases h;have hr:_:=I _ (GB);have hr1:_:=I _ (HM _ (GB));have hr2:_:=I _ (HM _ (HM _ (GB)));exact (Wu2 _ _ _ _ _ _ _ (col 0 _) (col 1 _) hr1.1 hr1.2.1 hr1.2.2 hr2).same (.cons (.refl _) (.cons (LS.same (.cons (.refl _) (.cons (.refl _) (.cons (.lst 2 _ _ _ hr) .nil)))) .nil));cases h
def mE:UU
 |[.agg [.x (.int .i64 U),.x (.int .i64 O),.lst 2 m g],.ro [.fn (.func 124) [.agg [.lst 2 3 f,.x (.int .i64 er),.lst 3 N bf]] []]]=>some ([U9 2 m g,Ql6 m (col 0 g) (col 1 g),insB 0 U O 1000=true],bl false)
 |_=>none
theorem Qs6(U O:Int)(m:Nat)(g:Nat->List AV)(f:Nat->List AV)(er:Int)(N:Nat)(bf:Nat->List AV)(VO:U9 2 m g)(UD:Ql6 m (col 0 g) (col 1 g))(HO:insB 0 U O 1000=true):VV VL 165 [.agg [i U,i O,.lst 2 m g],.ro [.fn (.func 124) [.agg [.lst 2 3 f,i er,.lst 3 N bf]] []]] (bl false):=by
 refine VY (L:=[]) (Ae Wu1 Aa) VW Tryz.func165 (UR Tryz.f165) U0 (t:=need [U9 2 m g,Ql6 m (col 0 g) (col 1 g),insB (0:Int) U O (1000:Int)=true] (leaf (RV.x (.bool !true)))) VQ ?_;exact YX
theorem OY:VM VL 165 mE:=by
 refine ⟨(UC Tryz.func165),?_⟩;intro avs ns res h I;unfold mE at h;split at h;cases h;exact Qs6 _ _ _ _ _ _ _ _ (I _ VS) (I _ VS) (I _ VS);cases h
abbrev XK(f:Nat->List AV)(er:Int)(N1:Nat)(bf:Nat->List AV):AV:=AV.fn (Fn.func 165) [] [AV.ro [AV.fn (Fn.func 124) [agg [WE f,iI er,lst 3 N1 λa=>bf a]] []]]
section
variable (N:Nat)
abbrev J1(U:Nat->Int)(O:Nat->Int)(m:Nat->Nat)(g:Nat->Nat->List AV):AV:=lst 3 N λk=>[iI (U k),iI (O k),lst 2 (m k) λa=>g k a]
def bC(U O:Nat->Int)(m:Nat->Nat)(g:Nat->Nat->List AV)(f:Nat->List AV)(er:Int)(N1:Nat)(bf:Nat->List AV):St:={σ:=[J1 N U O m g,XK f er N1 bf]++HF 5 [iI (N:Int)]++HF 11 [],m:=[],nx:=4}
noncomputable def Qk2:Code:=U7 (VP (U5 Tryz.f198) 0)
def O8(U O:Nat->Int)(m:Nat->Nat)(g:Nat->Nat->List AV)(f:Nat->List AV)(er:Int)(N1:Nat)(bf:Nat->List AV)(k:Nat):St:=(upM [(8,i k)] (bC N U O m g f er N1 bf))
def x9(U O:Nat->Int)(m:Nat->Nat)(g:Nat->Nat->List AV)(f:Nat->List AV)(er:Int)(N1:Nat)(bf:Nat->List AV)(k:Nat):G4->Option St
 | .exit 0=>some (upM [] (bC N U O m g f er N1 bf))
 |_=>none
def Qf5(U O:Nat->Int)(m:Nat->Nat)(g:Nat->Nat->List AV)(f:Nat->List AV)(er:Int)(N1:Nat)(bf:Nat->List AV):CT:= .leaf (.exit 0,(x9 N U O m g f er N1 bf 0 (.exit 0)).getD (bC N U O m g f er N1 bf))
def mM(U O:Nat->Int)(m:Nat->Nat)(g:Nat->Nat->List AV)(f:Nat->List AV)(er:Int)(N1:Nat)(bf:Nat->List AV):UF:=(HD (O8 N U O m g f er N1 bf (0)) (Qf5 N U O m g f er N1 bf))
end
theorem VD{p:Prop}(h:p:=by
 (with_reducible repeat' first|apply Al|intro _)
 all_goals first|exact Ak|(rename_i E hE;cases hE;exact hQ)|omega|rfl|assumption):p:=h
section
variable (N:Nat)(U O:Nat->Int)(m:Nat->Nat)(g:Nat->Nat->List AV)(f:Nat->List AV)(er:Int)(N1:Nat)(bf:Nat->List AV)
theorem Qu7(VO:N<=6)(UD:Qs0 N U O m g):G5 VL (.loop Qk2) (mM N U O m g f er N1 bf):=by
 refine HC (L:=[]) (Ae OY Aa) VW U0 (X:=Nat) (O8 N U O m g f er N1 bf) (λk=>k<=N) (λk=>N-k) (x9 N U O m g f er N1 bf) (x0:=0) VS ?_ ?_ ?_;rintro k;kernel_rfl;rintro k y E h;unfold x9 at h;split at h;cases h;kernel_rfl;cases h;rintro Q hQ k hx;refine ⟨(k+1),?_⟩;(with_reducible refine DA (t:=branch (decide ((k:Int)<(N:Int))) (need [UG k N] (need [U9 2 (m k) λa=>g k a,Ql6 (m k) (col 0 λa=>g k a) (col 1 λa=>g k a),insB (0:Int) (U k) (O k) (1000:Int)=true] (branch false VJ.fail (need [VI ((k:Int)+1)] (need [VU (J1 N U O m g),VU (XK f er N1 bf),VU (N:Int),(k:Int)+1=(↑(k+1):Int)] (leaf G4.normal)))))) (need [VU (J1 N U O m g),VU (XK f er N1 bf),VU (N:Int)] (leaf (G4.exit 0)))) VQ ?_)
 simp only [Qf5,x9,VJ.sat,GQ] at hQ;simp only [VJ.sat,U8,UE,H6,VI,x9,FC]
 refine ⟨λh=>?_,λh=>?_⟩
 ·have hk:k<N:=VG;obtain ⟨h1,h2,h3⟩:=UD k hk;all_goals exact V3
 obtain rfl:k=N:=VG;exact VD
abbrev KH:Value:=Value.int IntKind.i64 (-1:Int)
theorem Xk6(VO:N<=6)(UD:Qs0 N U O m g):VV VL 198 [bgs N U O m g,.fn (.func 165) [] [.ro [.fn (.func 124) [.agg [.lst 2 3 f,i er,.lst 3 N1 bf]] []]]] (i (-1)):=by
 refine VY (L:=[mM N U O m g f er N1 bf]) (Ae OY Aa) VW Tryz.func198 (UR Tryz.f198) (G0 (lpE (b:= .loop Qk2) VQ<|Qu7 N U O m g f er N1 bf VO UD)) (t:=need [VU (J1 N U O m g),VU (XK f er N1 bf),VU (N:Int),(0:Int)=(↑(0:Nat):Int)] (leaf (RV.x (KH)))) VQ ?_
 exact YX
end
def Ww7:UU
 |[.lst 3 N b,.fn (.func 165) [] [.ro [.fn (.func 124) [.agg [.lst 2 3 f,.x (.int .i64 er),.lst 3 N1 bf]] []]]]=>some ([vB N b],i (-1))
 |_=>none
theorem Xk5:VM VL 198 Ww7:=by
 refine ⟨(UC Tryz.func198),?_⟩;intro avs ns res h I;unfold Ww7 at h;split at h;cases h;obtain ⟨h0,U,O,m,g,he,hb⟩:vB _ _:=I _ GB;exact (Xk6 _ U O m g _ _ _ _ h0 hb).same (.cons (.lst 3 _ _ _ he) (.cons (.refl _) .nil));cases h
theorem Qy3{N:Nat}{U O:Nat->Int}{m:Nat->Nat}{g:Nat->Nat->List AV}(h0:N<=6)(hb:Qs0 N U O m g):vB N (λk=>[i (U k),i (O k),.lst 2 (m k) (g k)]):=⟨h0,U,O,m,g,λ_ _=>rfl,hb⟩
theorem Xl5(N:Nat)(U O:Nat->Int)(m:Nat->Nat)(g:Nat->Nat->List AV)(f:Nat->List AV)(er:Int)(N1:Nat)(bf:Nat->List AV)(VO:N<=6)(UD:Qs0 N U O m g):VV VL 164 [bgs N U O m g,.fn (.func 165) [] [.ro [.fn (.func 124) [.agg [.lst 2 3 f,i er,.lst 3 N1 bf]] []]]] (bl false):=by
 refine VY (L:=[]) (Ae Xk5 Aa) VW Tryz.func164 (UR Tryz.f164) U0 (t:=need [vB N λk=>[i (U k),i (O k),lst 2 (m k) (g k)]] (leaf (RV.x (.bool (decide ((-1:Int)>=(0:Int))))))) VQ ?_;simp only [VJ.sat,U8,UZ,GH,UB,UE,FC];exact ⟨Qy3 VO UD,rfl⟩
def Wx1:UU
 |[.lst 3 N b,.fn (.func 165) [] [.ro [.fn (.func 124) [.agg [.lst 2 3 f,.x (.int .i64 er),.lst 3 N1 bf]] []]]]=>some ([vB N b],bl false)
 |_=>none
theorem Xl4:VM VL 164 Wx1:=by
 refine ⟨(UC Tryz.func164),?_⟩;intro avs ns res h I;unfold Wx1 at h;split at h;cases h;obtain ⟨h0,U,O,m,g,he,hb⟩:vB _ _:=I _ GB;exact (Xl5 _ U O m g _ _ _ _ h0 hb).same (.cons (.lst 3 _ _ _ he) (.cons (.refl _) .nil));cases h
theorem Wu6(N:Nat)(U O:Nat->Int)(m:Nat->Nat)(g:Nat->Nat->List AV)(f:Nat->List AV)(er:Int)(N1:Nat)(bf:Nat->List AV)(VO:N<=6)(UD:Qs0 N U O m g):VV VL 123 [bgs N U O m g,.fn (.func 124) [.agg [.lst 2 3 f,i er,.lst 3 N1 bf]] []] (bl true):=by
 refine VY (L:=[]) (Ae Xl4 Aa) VW Tryz.func123 (UR Tryz.f123) U0 (t:=need [vB N λk=>[i (U k),i (O k),lst 2 (m k) (g k)]] (leaf (RV.x (.bool !false)))) VQ ?_;simp only [VJ.sat,U8,UZ,GH,UB,UE,FC];exact ⟨Qy3 VO UD,rfl⟩
def Qh5:UU
 |[.lst 3 N b,.fn (.func 124) [.agg [.lst 2 3 f,.x (.int .i64 er),.lst 3 N1 bf]] []]=>some ([vB N b],bl true)
 |_=>none
theorem Wu5:VM VL 123 Qh5:=by
 refine ⟨(UC Tryz.func123),?_⟩;intro avs ns res h I;unfold Qh5 at h;split at h;cases h;obtain ⟨h0,U,O,m,g,he,hb⟩:vB _ _:=I _ GB;exact (Wu6 _ U O m g _ _ _ _ h0 hb).same (.cons (.lst 3 _ _ _ he) (.cons (.refl _) .nil));cases h
def oL(k:Nat):Int:=if k=0 then 0 else -9
def oH(k:Nat):Int:=if k=0 then 0 else 9
def ofB(f:Nat->List AV):Prop:= ∀k,k<3->f k=[i (oL k),i (oH k)]
abbrev ofs:AV:= .lst 2 3 (λk=>[i (oL k),i (oH k)])
def H4(m:Nat->Nat):Nat->Nat
 | 0=>0
 |b+1=>H4 m b+m b
def G7(m:Nat->Nat):Nat->Nat->Nat×Nat
 | 0,q=>(0,q)
 |N+1,q=>if q<H4 m N then G7 m N q else (N,q-H4 m N)
def Wc0(m:Nat->Nat)(N:Nat)(r v:Nat->Nat->Int)(q:Nat):List Value:=
 [.agg #[.int .i64 (G7 m N q).1,.int .i64 (G7 m N q).2],.agg #[.int .i64 (r (G7 m N q).1 (G7 m N q).2),.int .i64 (v (G7 m N q).1 (G7 m N q).2)]]
abbrev bds(N:Nat)(U O:Nat->Int)(m:Nat->Nat)(r v:Nat->Nat->Int):AV:= .lst 3 N (λk=>[i (U k),i (O k),bts (m k) (r k) (v k)])
theorem aK{P:Program}{ro:Option Nat}{cx:Cx}{c:Code}{t:Nat}{F:Nat->UF}(h: ∀k,HH P ro cx c (F k)):HH P ro cx c (BG t F):=by
 intro n s tr ht Q hQ a w r;unfold BG at ht;split at ht;exact h _ n s tr ht Q hQ a w r;cases ht
theorem dK(m:Nat->Nat){b c:Nat}(h:b<=c):H4 m b<=H4 m c:=by
 induction h with
 |refl=>exact Am _
 |step _ ih=>exact Ar ih (Nat.le_add_right _ _)
theorem TV(m:Nat->Nat): ∀(N b n:Nat),b<N->n<m b->G7 m N (H4 m b+n)=(b,n)
 | 0,_,_,h,_=>VG
 |N+1,b,n,h,I=>by
  unfold G7;rcases (show b<N\/b=N by omega) with hb|rfl
  have:=dK m (show b+1<=N by omega)
  simp only [H4] at this;rw [if_pos VG,TV m N b n hb I];rw [if_neg VG];simp
theorem uX(m:Nat->Nat): ∀(N q:Nat),q<H4 m N->(G7 m N q).1<N/\(G7 m N q).2<m (G7 m N q).1
 | 0,_,h=>by simp [H4] at h
 |N+1,q,h=>by
  simp only [H4] at h;unfold G7;split;rename_i hq;obtain ⟨h1,h2⟩:=uX m N q hq;exact ⟨VG,h2⟩;exact ⟨VS,by simp;omega⟩
def mD:UU
 |[.agg [.x (.int .i64 a),.x (.int .i64 b)],.ro [.fn (.func 121) [] []]]=>some ([],bl (!insB (-100) a b 100))
 |_=>none
theorem Qs5(a b:Int):VV VL 162 [.agg [i a,i b],.ro [.fn (.func 121) [] []]] (bl (!insB (-100) a b 100)):=by
 refine VY (L:=[]) (Ae sH Aa) VW Tryz.func162 (UR Tryz.f162) U0 (t:=leaf (RV.x (.bool !insB (-100:Int) a b (100:Int)))) VQ ?_;exact YX
theorem OW:VM VL 162 mD:=by
 refine ⟨(UC Tryz.func162),?_⟩;intro avs ns res h I;unfold mD at h;split at h;cases h;exact Qs5 _ _;cases h
abbrev ZC:AV:=AV.fn (Fn.func 162) [] [AV.ro [AV.fn (Fn.func 121) [] []]]
def bB:St:={σ:=[lst 2 3 λk=>[iI (oL k),iI (oH k)],ZC]++HF 5 [iI (↑(3:Nat):Int)]++HF 11 [],m:=[],nx:=4}
noncomputable def Qk1:Code:=U7 (VP (U5 Tryz.f197) 0)
def O7(k:Nat):St:=(upM [(8,i k)] (bB))
def x8(k:Nat):G4->Option St
 | .exit 0=>some (upM [] (bB))
 |_=>none
def Qf4:CT:= .leaf (.exit 0,(x8 0 (.exit 0)).getD (bB))
def mL:UF:=(HD (O7 (0)) (Qf4))
theorem Qu6:G5 VL (.loop Qk1) (mL):=by
 refine HC (L:=[]) (Ae OW Aa) VW U0 (X:=Nat) (O7) (λk=>k<=3) (λk=>3-k) (x8) (x0:=0) VS ?_ ?_ ?_;rintro k;kernel_rfl;rintro k y E h;unfold x8 at h;split at h;cases h;kernel_rfl;cases h;rintro Q hQ k hx;refine ⟨(k+1),?_⟩;(with_reducible refine DA (t:=branch (decide ((k:Int)<(↑(3:Nat):Int))) (need [UG k 3] (branch (!insB (-100:Int) (oL k) (oH k) (100:Int)) VJ.fail (need [VI ((k:Int)+1)] (need [VU (lst 2 3 λk=>[iI (oL k),iI (oH k)]),ZC=ZC,VU (↑(3:Nat):Int),(k:Int)+1=(↑(k+1):Int)] (leaf G4.normal))))) (need [VU (lst 2 3 λk=>[iI (oL k),iI (oH k)]),ZC=ZC,VU (↑(3:Nat):Int)] (leaf (G4.exit 0)))) VQ ?_)
 simp only [Qf4,x8,VJ.sat,GQ] at hQ;simp only [VJ.sat,U8,UE,H6,VI,x8,FC]
 refine ⟨λh=>?_,λh=>?_⟩
 ·have hk:k<3:=VG;rcases (show k=0\/k=1\/k=2 by omega) with rfl|rfl|rfl<;>simp [oL,oH,insB,Bo.insB]
  all_goals exact V3
 obtain rfl:k=3:=VG;exact VD
theorem Xk4:VV VL 197 [ofs,.fn (.func 162) [] [.ro [.fn (.func 121) [] []]]] (i (-1)):=by
 refine VY (L:=[mL]) (Ae OW Aa) VW Tryz.func197 (UR Tryz.f197) (G0 (lpE (b:= .loop Qk1) VQ<|Qu6)) (t:=need [VU (lst 2 3 λk=>[iI (oL k),iI (oH k)]),ZC=ZC,VU (↑(3:Nat):Int),(0:Int)=(↑(0:Nat):Int)] (leaf (RV.x (KH)))) VQ ?_
 exact YX
def Ww6:UU
 |[.lst 2 3 f,.fn (.func 162) [] [.ro [.fn (.func 121) [] []]]]=>some ([ofB f],i (-1))
 |_=>none
theorem Xk3:VM VL 197 Ww6:=by
 refine ⟨(UC Tryz.func197),?_⟩;intro avs ns res h I;unfold Ww6 at h;split at h;cases h;have hr:_:=I _ (GB);exact (Xk4).same (.cons (.lst 2 3 _ _ hr) (.cons (.refl _) .nil));cases h
theorem Xl3:VV VL 161 [ofs,.fn (.func 162) [] [.ro [.fn (.func 121) [] []]]] (bl false):=by
 refine VY (L:=[]) (Ae Xk3 Aa) VW Tryz.func161 (UR Tryz.f161) U0 (t:=need [ofB λk=>[i (oL k),i (oH k)]] (leaf (RV.x (.bool (decide ((-1:Int)>=(0:Int))))))) VQ ?_;simp only [VJ.sat,U8,UZ,GH,UB,UE,FC];exact ⟨λ_ _=>rfl,rfl⟩
def Wx0:UU
 |[.lst 2 3 f,.fn (.func 162) [] [.ro [.fn (.func 121) [] []]]]=>some ([ofB f],bl false)
 |_=>none
theorem Xl2:VM VL 161 Wx0:=by
 refine ⟨(UC Tryz.func161),?_⟩;intro avs ns res h I;unfold Wx0 at h;split at h;cases h;have hr:_:=I _ (GB);exact (Xl3).same (.cons (.lst 2 3 _ _ hr) (.cons (.refl _) .nil));cases h
theorem Wu4:VV VL 120 [ofs,.fn (.func 121) [] []] (bl true):=by
 refine VY (L:=[]) (Ae Xl2 Aa) VW Tryz.func120 (UR Tryz.f120) U0 (t:=need [ofB λk=>[i (oL k),i (oH k)]] (leaf (RV.x (.bool !false)))) VQ ?_;simp only [VJ.sat,U8,UZ,GH,UB,UE,FC];exact ⟨λ_ _=>rfl,rfl⟩
def Qh4:UU
 |[.lst 2 3 f,.fn (.func 121) [] []]=>some ([ofB f],bl true)
 |_=>none
theorem Wu3:VM VL 120 Qh4:=by
 refine ⟨(UC Tryz.func120),?_⟩;intro avs ns res h I;unfold Qh4 at h;split at h;cases h;have hr:_:=I _ (GB);exact (Wu4).same (.cons (.lst 2 3 _ _ hr) (.cons (.refl _) .nil));cases h
def mF:UU
 |[.agg [.lst 2 3 f,.x (.int .i64 1),.lst 3 N bf]]=>some ([ofB f,vB N bf],i 0)
 |_=>none
abbrev X0:Value:=Value.int IntKind.i64 (0:Int)
abbrev JS:Value:=Value.int IntKind.i64 (1:Int)
abbrev KJ:Value:=Value.int IntKind.i64 (3:Int)
theorem Qs8(f:Nat->List AV)(N:Nat)(bf:Nat->List AV)(VO:ofB f)(UD:vB N bf):VV VL 78 [.agg [.lst 2 3 f,i 1,.lst 3 N bf]] (i 0):=by
 refine VY (L:=[]) (Ae Wu3 (Ae Wu5 (Ae zS Aa))) VW Tryz.func78 (UR Tryz.f78) U0 (t:=branch (decide ((↑(3:Nat):Int)>6)) (leaf (RV.x (KJ))) (branch (decide ((N:Int)>6)) (leaf (RV.x (KJ))) (branch ((↑(3:Nat):Int)==0) (leaf (RV.x (JS))) (need [ofB f] (branch (!true) (leaf (RV.x (JS))) (branch (!bt (0:Int) (1:Int) (20:Int)) (leaf (RV.x (JS))) (need [vB N bf] (branch (!true) (leaf (RV.x (JS))) (leaf (RV.x (X0))))))))))) VQ ?_;simp only [VJ.sat,U8,UZ,GH,UB,UE,FC];have h6:=UD.1;simp [bt,Bo.bt,VO,UD];omega
theorem Qs7:VM VL 78 mF:=by
 refine ⟨(UC Tryz.func78),?_⟩;intro avs ns res h I;unfold mF at h;split at h;cases h;exact Qs8 _ _ _ (I _ VS) (I _ VS);cases h
def MA:UU
 |[.agg [.lst 2 3 f,.x (.int .i64 er),.lst 3 N bf]]=>some ([],.fn (.func 168) [] [.ro [.lst 2 3 f,i er,.lst 3 N bf]])
 |_=>none
abbrev WC:Ext:={}
theorem Qs1(f:Nat->List AV)(er:Int)(N:Nat)(bf:Nat->List AV):DH VL 125 [.agg [.lst 2 3 f,i er,.lst 3 N bf]] (.fn (.func 168) [] [.ro [.lst 2 3 f,i er,.lst 3 N bf]]):=by
 refine HE (L:=[]) Aa Ad VW Tryz.func125 (UR Tryz.f125) UV (t:=leaf (AV.fn (Fn.func 168) [] [AV.ro [WE f,iI er,JY N bf]])) VQ ?_;exact rfl
theorem IT:L2 VL 125 MA:=by
 refine ⟨(UC Tryz.func125),?_⟩;intro avs ns res h I;unfold MA at h;split at h;cases h;exact Qs1 _ _ _ _;cases h
abbrev Q1(N:Nat)(U:Nat->Int)(O:Nat->Int)(m:Nat->Nat)(r:Nat->Nat->Int)(v:Nat->Nat->Int):AV:=lst 3 N λk=>[iI (U k),iI (O k),lst 2 (m k) λj=>[iI (r k j),iI (v k j)]]
section
variable (l:Nat)(f:Nat->List AV)(er:Int)(N:Nat)(U O:Nat->Int)(m:Nat->Nat)(r v:Nat->Nat->Int)
def mY:St:={σ:=[AV.fn (Fn.yield l) [] [],AV.ro [WE f,iI er,Q1 N U O m r v]]++HF 6 [Q1 N U O m r v,iI (N:Int)]++HF 22 [],m:=[],nx:=4,gh:=some 0}
noncomputable def nA:Code:=U7 (VP (U5 Tryz.f168) 0)
def A8(b:Nat):St:={σ:=H0 [(3,.top),(4,.top),(5,.top),(6,.top),(10,i b)] (mY l f er N U O m r v).σ,m:=[],nx:=0,gh:=some (H4 m b) }
def qS(b:Nat):G4->Option St
 | .exit 0=>some {σ:=H0 [(3,.top),(4,.top),(5,.top),(6,.top),(10,i N)] (mY l f er N U O m r v).σ,m:=[],nx:=0,gh:=some (H4 m N) }
 | .ret=>some {σ:=H0 [(3,.top),(4,.top),(5,.top),(6,.top)] (mY l f er N U O m r v).σ,m:=[],nx:=0,gh:=none}
 |_=>none
def Xt5:CT:= .may True (.leaf (.exit 0,(qS l f er N U O m r v 0 (.exit 0)).getD (mY l f er N U O m r v))) (.leaf (.ret,(qS l f er N U O m r v 0 .ret).getD (mY l f er N U O m r v)))
def Wz4:UF:=GG [] (HD (A8 l f er N U O m r v (0)) (Xt5 l f er N U O m r v))
end
abbrev JQ(m:Nat->Nat)(b:Nat)(r:Nat->Nat->Int)(v:Nat->Nat->Int):AV:=lst 2 (m b) λj=>[iI (r b j),iI (v b j)]
section
variable (l:Nat)(f:Nat->List AV)(er:Int)(N:Nat)(U O:Nat->Int)(m:Nat->Nat)(r v:Nat->Nat->Int)(b:Nat)
def mZ:St:={σ:=[AV.fn (Fn.yield l) [] [],AV.ro [WE f,iI er,Q1 N U O m r v],top,iI (b:Int),ptr 4 0,top,top,top,Q1 N U O m r v,iI (N:Int),iI (b:Int)]++HF 5 [JQ m b r v,iI (↑(m b):Int)]++HF 14 [],m:=[(4,GL.cells 148 [iI (U b),iI (O b),JQ m b r v])],nx:=11,gh:=some (H4 m b) }
noncomputable def Xc1:Code:=U7 (VP nA 0)
def A9(n:Nat):St:={σ:=H0 [(4,.top),(5,.top),(6,.top),(18,i n)] (mZ l f er N U O m r v b).σ,m:=[],nx:=0,gh:=some (H4 m b+n) }
def qT(n:Nat):G4->Option St
 | .exit 2=>some {σ:=H0 [(3,.top),(4,.top),(5,.top),(6,.top),(18,i (m b))] (mZ l f er N U O m r v b).σ,m:=[],nx:=0,gh:=some (H4 m (b+1)) }
 | .ret=>some {σ:=H0 [(3,.top),(4,.top),(5,.top),(6,.top)] (mZ l f er N U O m r v b).σ,m:=[],nx:=0,gh:=none}
 |_=>none
def Xt6:CT:= .may True (.leaf (.exit 2,(qT l f er N U O m r v b 0 (.exit 2)).getD (mZ l f er N U O m r v b))) (.leaf (.ret,(qT l f er N U O m r v b 0 .ret).getD (mZ l f er N U O m r v b)))
def tE:UF:=GG [] (HD (A9 l f er N U O m r v b (0)) (Xt6 l f er N U O m r v b))
end
abbrev WS(N:Nat)(U:Nat->Int)(O:Nat->Int)(m:Nat->Nat)(r:Nat->Nat->Int)(v:Nat->Nat->Int):Prop:=(Q1 N U O m r v)=Q1 N U O m r v
abbrev XG(l:Nat):Prop:=AV.fn (Fn.yield l) [] []=AV.fn (Fn.yield l) [] []
abbrev ZY(f:Nat->List AV)(er:Int)(N:Nat)(U:Nat->Int)(O:Nat->Int)(m:Nat->Nat)(r:Nat->Nat->Int)(v:Nat->Nat->Int):Prop:=AV.ro [WE f,iI er,Q1 N U O m r v]=AV.ro [WE f,iI er,Q1 N U O m r v]
section
variable (l:Nat)(f:Nat->List AV)(er:Int)(N:Nat)(U O:Nat->Int)(m:Nat->Nat)(r v:Nat->Nat->Int)
theorem Zg5(b:Nat)(VO:N<=1000)(UD: ∀b,b<N->m b<=1000)(HO:b<N){cx:Cx}(hX:VT VL {Y:=some (l,(H4 m N),(Wc0 m N r v)) } cx):HH VL none cx (.loop Xc1) (tE l f er N U O m r v b):=by
 refine FH [] (L:=[]) Aa hX VW UV (V:=Nat) (A9 l f er N U O m r v b) (λn=>n<=m b) (λn=>m b-n) (qT l f er N U O m r v b) (x0:=0) VS ?_ ?_ ?_;rintro n;kernel_rfl;rintro n y E h;unfold qT at h;split at h;cases h;kernel_rfl;cases h;kernel_rfl;cases h;rintro Q hQ n hx;refine ⟨(n+1),?_⟩;have e:HU VL [] {Y:=some (l,(H4 m N),(Wc0 m N r v)) } [] [] Xc1 (A9 l f er N U O m r v b n) (A9 l f er N U O m r v b ((n+1))) (qT l f er N U O m r v b n)=(let z0:=(G7 m N (H4 m b+n));(branch (decide ((n:Int)<(↑(m b):Int))) (need [UG n (↑(m b):Int)] (need [l=l,H4 m b+n<H4 m N,[Value.agg {toList:=[Value.int IntKind.i64 (b:Int),Value.int IntKind.i64 (n:Int)] },Value.agg {toList:=[Value.int IntKind.i64 (r b n),Value.int IntKind.i64 (v b n)] }]=[Value.agg {toList:=[Value.int IntKind.i64 (↑(Prod.fst z0):Int),Value.int IntKind.i64 (↑(Prod.snd z0):Int)] },Value.agg {toList:=[Value.int IntKind.i64 (r (Prod.fst z0) (Prod.snd z0)),Value.int IntKind.i64 (v (Prod.fst z0) (Prod.snd z0))] }]] (VJ.may True (need [VI ((n:Int)+1)] (need [XG l,ZY f er N U O m r v,VU (b:Int),WS N U O m r v,VU (N:Int),VU (b:Int),VU (JQ m b r v),VU (↑(m b):Int),(n:Int)+1=(↑(n+1):Int),H4 m b+n+1=H4 m b+(n+1)] (leaf G4.normal))) (need [XG l,ZY f er N U O m r v,WS N U O m r v,VU (N:Int),VU (b:Int),VU (JQ m b r v),VU (↑(m b):Int)] (leaf G4.ret))))) (need [XG l,ZY f er N U O m r v,WS N U O m r v,VU (N:Int),VU (b:Int),VU (JQ m b r v),VU (↑(m b):Int),(n:Int)=(↑(m b):Int),H4 m b+n=H4 m (b+1)] (leaf (G4.exit 2))))):=VQ;rw [e];simp only [Xt6,qT,VJ.sat,GQ] at hQ;have hQ1: ∀E,qT l f er N U O m r v b n (.exit 2)=some E->Q (.exit 2,E):=λE hE=>by cases hE;exact hQ.1 trivial
 have hQ2: ∀E,qT l f er N U O m r v b n .ret=some E->Q (.ret,E):=λE hE=>by cases hE;exact hQ.2
 simp only [VJ.sat,U8,UE,H6,VI,FC];clear e hQ;have h3:=UD b HO;refine ⟨λh=>?_,λh=>?_⟩
 ·have hk:n<m b:=VG;have h1:=dK m (show b+1<=N by omega)
  simp only [H4] at h1;rw [TV m N b n HO hk];all_goals exact V3
 ·obtain rfl:n=m b:=VG;all_goals exact V3
theorem Zg4(VO:N<=1000)(UD: ∀b,b<N->m b<=1000){cx:Cx}(hX:VT VL {Y:=some (l,(H4 m N),(Wc0 m N r v)) } cx):HH VL none cx (.loop nA) (Wz4 l f er N U O m r v):=by
 refine FH [] (L:=[BG 10 (λb=>FE [b<N] (tE l f er N U O m r v b))]) Aa hX VW (G0 (λcj hcj=>by
  have e:VP nA 0=some (.loop Xc1):=VQ;rw [e] at hcj;cases hcj;exact aK (λb=>wM (λh=>Zg5 l f er N U O m r v b VO UD h hX)))) (V:=Nat) (A8 l f er N U O m r v) (λb=>b<=N) (λb=>N-b) (qS l f er N U O m r v) (x0:=0) VS ?_ ?_ ?_
 rintro b;kernel_rfl;rintro b y E h;unfold qS at h;split at h;cases h;kernel_rfl;cases h;kernel_rfl;cases h;rintro Q hQ b hx;refine ⟨(b+1),?_⟩;have e:HU VL [] {Y:=some (l,(H4 m N),(Wc0 m N r v)) } [BG 10 (λb=>FE [b<N] (tE l f er N U O m r v b))] [] nA (A8 l f er N U O m r v b) (A8 l f er N U O m r v ((b+1))) (qS l f er N U O m r v b)=(let z0:=ZY f er N U O m r v;(branch (decide ((b:Int)<(N:Int))) (need [UG b N] (need [b<N] (need [XG l,z0,VU (b:Int),WS N U O m r v,VU (N:Int),VU (b:Int),VU (lst 2 (m b) λj=>[iI (r b j),iI (v b j)]),VU (↑(m b):Int),(0:Int)=(↑(0:Nat):Int),H4 m b=H4 m b+0] (VJ.may True (need [VI ((b:Int)+1)] (need [XG l,z0,WS N U O m r v,VU (N:Int),(b:Int)+1=(↑(b+1):Int),VU (H4 m (b+1))] (leaf G4.normal))) (need [XG l,z0,WS N U O m r v,VU (N:Int)] (leaf G4.ret)))))) (need [XG l,z0,WS N U O m r v,VU (N:Int),(b:Int)=(N:Int),H4 m b=H4 m N] (leaf (G4.exit 0))))):=VQ;rw [e];simp only [Xt5,qS,VJ.sat,GQ] at hQ;have hQ1: ∀E,qS l f er N U O m r v b (.exit 0)=some E->Q (.exit 0,E):=λE hE=>by cases hE;exact hQ.1 trivial
 have hQ2: ∀E,qS l f er N U O m r v b .ret=some E->Q (.ret,E):=λE hE=>by cases hE;exact hQ.2
 simp only [VJ.sat,U8,UE,H6,VI,FC];clear e hQ;refine ⟨λh=>?_,λh=>?_⟩
 ·have h3:=UD b VG;all_goals exact V3
 ·obtain rfl:b=N:=VG;all_goals exact V3
end
theorem lM(f:Nat->List AV)(er:Int)(N:Nat)(U O:Nat->Int)(m:Nat->Nat)(r v:Nat->Nat->Int)(VO:N<=1000)(UD: ∀b,b<N->m b<=1000):B7 Tryz.prog 168 [.ro [.lst 2 3 f,i er,bds N U O m r v]] ((H4 m N)) (Wc0 m N r v):=by
 refine BJ (L:=λl=>[Wz4 l f er N U O m r v]) Aa VW (UC Tryz.func168) Tryz.func168 (UR Tryz.f168) VQ (λl cx hX=>G0 (lpE (b:= .loop nA) VQ<|Zg4 l f er N U O m r v VO UD hX)) (t:=λl=>(need [VU (AV.fn (Fn.yield l) [] []),ZY f er N U O m r v,WS N U O m r v,VU (N:Int),(0:Int)=(↑(0:Nat):Int),0=H4 m 0] (VJ.may True (need [VU (H4 m N)] (leaf PUnit.unit)) (leaf PUnit.unit)))) (λl=>VQ) ?_
 intro l;simp only [VJ.sat,U8,UZ,GH,UB,VI,UE,H6,FW];all_goals exact V3
def plF(m:Nat->Nat)(N:Nat)(q:Nat):List AV:=[i (G7 m N q).1,i (G7 m N q).2]
theorem TM(m:Nat->Nat){K:Nat}: ∀(N:Nat),(∀b,b<N->m b<=K)->H4 m N<=N*K
 | 0,_=>by simp [H4]
 |N+1,h=>by
  have:=TM m N (λb hb=>h b VG);have:=h N VG;simp only [H4,Bq];omega
abbrev QD:AV:=AV.x (.pointer none)
def Jo4(f:Nat->List AV)(er:Int)(N:Nat)(U O:Nat->Int)(m:Nat->Nat)(r v:Nat->Nat->Int):St:={σ:=[agg [WE f,iI er,Q1 N U O m r v],ptr 0 0,QD,ptr 6 0]++HF 6 [AV.fn (Fn.func 168) [] [AV.ro [WE f,iI er,Q1 N U O m r v]]]++HF 13 [],m:=[(901,GL.row 241 2 0 λx=>[]),(6,GL.cells 178 [ptr 5 0]),(5,GL.cells 236 [WE f,iI er,Q1 N U O m r v,AV.row 901,AV.mp 3]),(3,GL.memo (λx=>False) λv=>v),(0,GL.cells 59 [WE f,iI er,Q1 N U O m r v])],nx:=902}
def rfF:Option Code->Operand
 |some (.rangeFunc f _ _ _)=>f
 |_=> .const .nilFunc
def jK:Option Code->Array Nat
 |some (.rangeFunc _ ps _ _)=>ps
 |_=>#[]
def SW:Option Code->Code
 |some (.rangeFunc _ _ a _)=>a
 |_=> .skip
def SV:Option Code->Code
 |some (.rangeFunc _ _ _ b)=>b
 |_=> .skip
noncomputable def Js2:Code:=SW (VP (U5 Tryz.f79) 0)
noncomputable def Jp0:Code:=SV (VP (U5 Tryz.f79) 0)
section
variable (f:Nat->List AV)(er:Int)(N:Nat)(U O:Nat->Int)(m:Nat->Nat)(r v:Nat->Nat->Int)
def pA(k:Nat):St:={σ:=H0 [] (Jo4 f er N U O m r v).σ,m:=[(901,.row 241 2 (k) (plF m N)),(6,.cells 178 [.ptr 5 0]),(5,.cells 236 [.lst 2 3 f,i er,bds N U O m r v,.row 901,.mp 3]),(3,.memo (λ_=>False) (λx=>x)),(0,.cells 59 [.lst 2 3 f,i er,bds N U O m r v])],nx:=902}
def o8(k:Nat):G4->Option St
 | .normal=>some {σ:=H0 [] (Jo4 f er N U O m r v).σ,m:=[(901,.row 241 2 ((H4 m N)) (plF m N)),(6,.cells 178 [.ptr 5 0]),(5,.cells 236 [.lst 2 3 f,i er,bds N U O m r v,.row 901,.mp 3]),(3,.memo (λ_=>False) (λx=>x)),(0,.cells 59 [.lst 2 3 f,i er,bds N U O m r v])],nx:=902}
 |_=>none
def T_wr:CT:= .leaf (.normal,pA f er N U O m r v (H4 m N))
def Xu6:UF:=GG [(.cell 5 3,901,241,2)] (HD (pA f er N U O m r v (0)) (T_wr f er N U O m r v))
abbrev WG:Prop:=AV.row 901=AV.row 901
abbrev ZL:Prop:=ptr 5 0=ptr 5 0
abbrev YM:Prop:=ptr 6 0=ptr 6 0
abbrev YR:Ext:={R:=[(125,MA)],H:=[] }
theorem Zu1(VO:N<=1000)(UD: ∀b,b<N->m b<=1000):HN VL (.rangeFunc (rfF (VP (U5 Tryz.f79) 0)) (jK (VP (U5 Tryz.f79) 0)) Js2 Jp0) (Xu6 f er N U O m r v):=by
 refine P6 [(.cell 5 3,901,241,2)] (L:=[]) Aa (Ai (Af IT Ab) Ac) VW U0 (V:=Nat) (pA f er N U O m r v) (λk=>k<=(H4 m N)) (λk=>k) (o8 f er N U O m r v) (x0:=0) VS rfl ?_ ?_ ?_ ?_ (g:=168) (caps:=[.ro [.lst 2 3 f,i er,bds N U O m r v]]) VQ VQ (lM f er N U O m r v VO UD) (λ_=>rfl) ?_;rintro k;kernel_rfl;rintro k y E h;unfold o8 at h;split at h;cases h;kernel_rfl;cases h;rintro k;rfl;rintro k y E h;unfold o8 at h;split at h;cases h;rfl;cases h
 ·rintro Q hQ k hx;refine ⟨λhlt=>⟨(k+1),rfl,?_⟩,λPG=>?_⟩
  ·(with_reducible refine DA (t:=need [(k+1)*16<=140737488355328,RQ 1 (U3 2 [iI (↑(Prod.fst (G7 m N k)):Int),iI (↑(Prod.snd (G7 m N k)):Int)])] (need [VU (agg [WE f,iI er,Q1 N U O m r v]),QO,QD=QD,YM,VU (AV.fn (Fn.func 168) [] [AV.ro [WE f,iI er,Q1 N U O m r v]]),k+1=k+1,GR (k+1) (GE k (plF m N) (U3 2 [iI (↑(Prod.fst (G7 m N k)):Int),iI (↑(Prod.snd (G7 m N k)):Int)])) (plF m N),ZL,WE f=WE f,er=er,WS N U O m r v,WG,VU (AV.mp 3),∀(k:Value),False->False/\k=k,WE f=WE f,er=er,WS N U O m r v] (leaf G4.normal))) VQ ?_);have hb:=TM m N UD;have hb2:=BC 1000 VO;simp only [VJ.sat,U8,UE]
   (with_reducible repeat' first|apply Al|intro _)
   all_goals first|exact Ak|rfl|omega|exact FM (by assumption) (by simp [AV.one,Value.oneCell'])|exact Zn9 rfl rfl (by assumption)|contradiction
  subst PG;exact hQ
end
abbrev Q2(m:Nat->Nat)(N:Nat):AV:=lst 2 (H4 m N) λq=>[iI (↑(Prod.fst (G7 m N q)):Int),iI (↑(Prod.snd (G7 m N q)):Int)]
theorem Wt0(f:Nat->List AV)(er:Int)(N:Nat)(U O:Nat->Int)(m:Nat->Nat)(r v:Nat->Nat->Int)(VO:N<=1000)(UD: ∀b,b<N->m b<=1000):DH VL 79 [.agg [.lst 2 3 f,i er,bds N U O m r v]] (.ro [.lst 2 3 f,i er,bds N U O m r v,.lst 2 (H4 m N) (plF m N),.top]):=by
 refine HE (L:=[Xu6 f er N U O m r v]) Aa (Ai (Af IT Ab) Ac) VW Tryz.func79 (UR Tryz.f79) (G0 (lpE (b:= .rangeFunc (rfF (VP (U5 Tryz.f79) 0)) (jK (VP (U5 Tryz.f79) 0)) Js2 Jp0) VQ<|Zu1 f er N U O m r v VO UD)) (t:=need [VU (agg [WE f,iI er,Q1 N U O m r v]),QO,QD=QD,YM,VU (AV.fn (Fn.func 168) [] [AV.ro [WE f,iI er,Q1 N U O m r v]]),0=0,GR 0 (λi=>[]) (plF m N),ZL,WE f=WE f,er=er,WS N U O m r v,WG,VU (AV.mp 3),∀(k:Value),False->False/\k=k,WE f=WE f,er=er,WS N U O m r v] (leaf (AV.ro [WE f,iI er,Q1 N U O m r v,Q2 m N,top]))) VQ ?_
 simp only [VJ.sat,U8,UZ,GH,UB,VI,UE,H6,FW];all_goals exact V3
noncomputable def Qj5:HY:=rX Tryz.prog [(128,kM)] {} [] Tryz.f126 (U5 Tryz.f126)
theorem RI:G8 VL 126 Qj5:=
 RH (G:=[(128,kM)]) (X:=WC) (L:=[]) (Ae FX Aa) Ad VW (UC Tryz.func126) Tryz.func126 (UR Tryz.f126) U0
def UY(M:Nat->Nat->Int)(k:Nat):Int:=M (k / 13) (k%13)
def RR(k j:Nat):Nat->Nat->Int:=λx y=>if ((x<k/\y<=12)\/(x=k/\y<j))/\x≠y then 8000 else 0
def spn(M:Nat->Nat->Int)(a b:Nat)(U O:Int):Nat->Nat->Int:=bnd (bnd M a b O) b a (-U)
def ofM:Nat->Nat->Nat->Int
 | 0=>RR 13 0
 |k+1=>spn (ofM k) 0 (1+k) (-oH k) (-oL k)
def btM(U O:Nat->Int):Nat->Nat->Nat->Int
 | 0=>ofM 3
 |k+1=>spn (btM U O k) 0 (7+k) (U k) (O k)
def rdM1(N:Nat)(m:Nat->Nat)(r v:Nat->Nat->Int)(M:Nat->Nat->Int)(q:Nat):Nat->Nat->Int:=
 spn M (1+(r (G7 m N q).1 (G7 m N q).2).toNat) (7+(G7 m N q).1) (v (G7 m N q).1 (G7 m N q).2-1) (v (G7 m N q).1 (G7 m N q).2+1)
def uM(N:Nat)(U O:Nat->Int)(m:Nat->Nat)(r v:Nat->Nat->Int):Nat->Nat->Nat->Int
 | 0=>btM U O N
 |q+1=>rdM1 N m r v (uM N U O m r v q) q
def bOK(N:Nat)(U O:Nat->Int)(m:Nat->Nat)(r v:Nat->Nat->Int):Prop:=N<=6/\ ∀b,b<N->m b<=10/\0<=U b/\U b<=O b/\O b<=1000/\ ∀j,j<m b->0<=r b j/\r b j<=2/\ -1000<=v b j/\v b j<=2000
theorem Xj3: ∀k,U6 (List.replicate 169 0) k=UY (RR 0 0) k:=by
 intro k;rw [gY (by decide)]
 simp [UY,RR]
theorem y7(M:Nat->Nat->Int){a b q:Nat}(hq:q=a*13+b)(hb:b<13):UY M q=M a b:=by
 unfold UY;rw [show q / 13=a by omega,show q%13=b by omega]
theorem f7{M M':Nat->Nat->Int}(h: ∀x y,x<13->y<13->M x y=M' x y){k:Nat}(hk:k<169):UY M k=UY M' k:=h _ _ VG VG
theorem Qd4(M:Nat->Nat->Int){a b q:Nat}(hq:q=a*13+b)(hb:b<13)(v:Int):UP q v (UY M)=UY (wW M a b v):=by
 funext k;unfold UP UY wW;by_cases hk:k=q;rw [if_pos hk,if_pos VG];rw [if_neg hk,if_neg VG]
theorem zO{M:Nat->Nat->Int}{a b q:Nat}{v:Int}(hq:q=a*13+b)(hb:b<13):UP q (min (UY M q) v) (UY M)=UY (bnd M a b v):=by
 rw [y7 M hq hb,Qd4 M hq hb];rfl
theorem Qo4(k j:Nat)(hj:j<=12)(h:k≠j)(x y:Nat):wW (RR k j) k j 8000 x y=RR k (j+1) x y:=by
 unfold wW RR;split;rename_i hxy;rw [if_pos ⟨.inr VG,VG⟩];rename_i hxy;by_cases h1:((x<k/\y<=12)\/(x=k/\y<j))/\x≠y;rw [if_pos h1,if_pos VG];rw [if_neg h1,if_neg VG]
theorem Qo5(k:Nat)(x y:Nat):RR k k x y=RR k (k+1) x y:=by
 unfold RR;by_cases h1:((x<k/\y<=12)\/(x=k/\y<k))/\x≠y;rw [if_pos h1,if_pos VG];rw [if_neg h1,if_neg VG]
theorem Wl0(k:Nat)(x y:Nat):RR k 13 x y=RR (k+1) 0 x y:=by
 unfold RR;by_cases h1:((x<k/\y<=12)\/(x=k/\y<13))/\x≠y;rw [if_pos h1,if_pos VG];rw [if_neg h1,if_neg VG]
abbrev QC:List AV:=[AV.x (.int IntKind.u64 (0:Int))]
abbrev QL:List Int:=([(0:Int)]++bJ 168)
abbrev KU:GL:=GL.cells 183 QC
section
variable (N:Nat)(U O:Nat->Int)(m:Nat->Nat)(r v:Nat->Nat->Int)
def Zs5:St:={σ:=[AV.ro [lst 2 3 λk=>[iI (oL k),iI (oH k)],iI 1,Q1 N U O m r v,Q2 m N,top],agg QC,top,ptr 0 0,QD,AV.lit false,ptr 4 0]++HF 184 [],m:=[(4,GL.ints 244 [] 169 λa=>U6 QL a),(0,KU)],nx:=7}
noncomputable def Zt6:Code:=U7 (VP (U5 Tryz.f80) 0)
def Wk1(k:Nat):St:=(upE [(22,i k)] [(4,.ints 244 [] 169 (UY (RR k 0))),(0,.cells 183 [.x (.int .u64 0)])] (Zs5 N U O m r v))
def E7(k:Nat):G4->Option St
 | .exit 0=>some (upE [(22,i 13)] [(4,.ints 244 [] 169 (UY (RR 13 0))),(0,.cells 183 [.x (.int .u64 0)])] (Zs5 N U O m r v))
 |_=>none
def Jn0:CT:= .leaf (.exit 0,(E7 N U O m r v 0 (.exit 0)).getD (Zs5 N U O m r v))
def Xy2:UF:=GG [] (HD (Wk1 N U O m r v (0)) (Jn0 N U O m r v))
def Zs4(k:Nat):St:={σ:=[AV.ro [lst 2 3 λk=>[iI (oL k),iI (oH k)],iI 1,Q1 N U O m r v,Q2 m N,top],agg QC,top,ptr 0 0,QD,AV.lit false,ptr 4 0,iI (k:Int)]++HF 14 [iI (k:Int)]++HF 168 [],m:=[(4,GL.ints 244 [] 169 λk_1=>UY (RR k 0) k_1),(0,KU)],nx:=11}
noncomputable def Jr6:Code:=(U7 (VP (U7 (VP (U5 Tryz.f80) 0)) 0))
def Wk0(k:Nat)(j:Nat):St:=(upE [(25,i j)] [(4,.ints 244 [] 169 (UY (RR k j))),(0,.cells 183 [.x (.int .u64 0)])] (Zs4 N U O m r v k))
def E6(k:Nat)(j:Nat):G4->Option St
 | .exit 2=>some (upE [(25,i 13)] [(4,.ints 244 [] 169 (UY (RR k 13))),(0,.cells 183 [.x (.int .u64 0)])] (Zs4 N U O m r v k))
 |_=>none
def Jm9(k:Nat):CT:= .leaf (.exit 2,(E6 N U O m r v k 0 (.exit 2)).getD (Zs4 N U O m r v k))
def Xy1(k:Nat):UF:=GG [] (HD (Wk0 N U O m r v k (0)) (Jm9 N U O m r v k))
abbrev QI:Prop:=(0:Int)=0
abbrev W2:Prop:=ptr 4 0=ptr 4 0
abbrev WJ:List (Nat×UU):=[(54,aY),(127,aZ),(128,kM)]
abbrev WL:Prop:=AV.lit false=AV.lit false
noncomputable abbrev X1:Ext:={R:=[],H:=[(126,Qj5)] }
theorem Jh2(k:Nat)(VO:k<=12):G5 VL (.loop Jr6) (Xy1 N U O m r v k):=by
 refine UT [] (L:=[]) (Ae RE (Ae LR (Ae FX Aa))) (Ai Ab (Ag RI Ac)) VW U0 (X:=Nat) (Wk0 N U O m r v k) (λj=>j<=13) (λj=>13-j) (E6 N U O m r v k) (x0:=0) VS ?_ ?_ ?_;rintro j;kernel_rfl;rintro j y E h;unfold E6 at h;split at h;cases h;kernel_rfl;cases h;rintro Q hQ j hx;refine ⟨(j+1),?_⟩;(with_reducible refine DA (t:=let z0:=(VU (AV.ro [lst 2 3 λk=>[iI (oL k),iI (oH k)],iI 1,Q1 N U O m r v,Q2 m N,top]));(branch (decide ((j:Int)<13)) (branch ((k:Int) != (j:Int)) (need [UG k 13] (need [UG j 13] (need [j*1+(k*13+0)+1<=169] (need [VI ((j:Int)+1)] (need [z0,VU (agg QC),QO,QD=QD,WL,W2,VU (k:Int),VU (k:Int),(j:Int)+1=(↑(j+1):Int),169=169,GR 169 (UP (j*1+(k*13+0)) (8000:Int) (UY (RR k j))) (UY (RR k (j+1))),QI] (leaf G4.normal)))))) (need [VI ((j:Int)+1)] (need [z0,VU (agg QC),QO,QD=QD,WL,W2,VU (k:Int),VU (k:Int),(j:Int)+1=(↑(j+1):Int),169=169,GR 169 (UY (RR k j)) (UY (RR k (j+1))),QI] (leaf G4.normal)))) (need [z0,VU (agg QC),QO,QD=QD,WL,W2,VU (k:Int),VU (k:Int),(j:Int)=13,169=169,GR 169 (UY (RR k j)) (UY (RR k 13)),QI] (leaf (G4.exit 2))))) VQ ?_)
 simp only [Jm9,E6,VJ.sat,GQ] at hQ;simp only [VJ.sat,U8,UZ,GH,UB,VI,UE,H6,FW,R0,RT,GJ,E6]
 refine ⟨λh=>⟨λhne=>?_,λheq=>?_⟩,λh=>?_⟩
 ·have h3: ∀M w,UP (j*1+(k*13+0)) w (UY M)=UY (wW M k j w):=λM w=>Qd4 M VG VG w;simp only [h3]
  (with_reducible repeat' first|apply Al|intro _)
  all_goals first|exact P4|(exact f7 (λx y _ _=>Qo4 k j VG VG x y) (by assumption))
 ·obtain rfl:k=j:=VG
  (with_reducible repeat' first|apply Al|intro _)
  all_goals first|exact P4|(exact f7 (λx y _ _=>Qo5 k x y) (by assumption))
 obtain rfl:j=13:=VG;exact YW
theorem Jh3:G5 VL (.loop Zt6) (Xy2 N U O m r v):=by
 refine UT [] (L:=[BG 22 (λk=>FE [k<=12] (Xy1 N U O m r v k))]) (Ae RE (Ae LR (Ae FX Aa))) (Ai Ab (Ag RI Ac)) VW (G0 (λcj hcj=>by
  have e:VP Zt6 0=some (.loop Jr6):=VQ;rw [e] at hcj;cases hcj;exact LZ (λk=>HT (λh=>Jh2 N U O m r v k h)))) (X:=Nat) (Wk1 N U O m r v) (λk=>k<=13) (λk=>13-k) (E7 N U O m r v) (x0:=0) VS ?_ ?_ ?_
 rintro k;kernel_rfl;rintro k y E h;unfold E7 at h;split at h;cases h;kernel_rfl;cases h;rintro Q hQ k hx;refine ⟨(k+1),?_⟩;(with_reducible refine DA (t:=let z0:=(VU (AV.ro [lst 2 3 λk=>[iI (oL k),iI (oH k)],iI 1,Q1 N U O m r v,Q2 m N,top]));(branch (decide ((k:Int)<13)) (need [k<=12] (need [z0,VU (agg QC),QO,QD=QD,WL,W2,VU (k:Int),VU (k:Int),(0:Int)=(↑(0:Nat):Int),169=169,GM 169 (UY (RR k 0)),QI] (need [VI ((k:Int)+1)] (need [z0,VU (agg QC),QO,QD=QD,WL,W2,(k:Int)+1=(↑(k+1):Int),169=169,GR 169 (UY (RR k 13)) (UY (RR (k+1) 0)),QI] (leaf G4.normal))))) (need [z0,VU (agg QC),QO,QD=QD,WL,W2,(k:Int)=13,169=169,GR 169 (UY (RR k 0)) (UY (RR 13 0)),QI] (leaf (G4.exit 0))))) VQ ?_)
 simp only [Jn0,E7,VJ.sat,GQ] at hQ;simp only [VJ.sat,U8,UZ,GH,UB,VI,UE,H6,FW,R0,RT,GJ,E7]
 refine ⟨λh=>?_,λh=>?_⟩
 ·(with_reducible repeat' first|apply Al|intro _)
  all_goals first|exact P4|(exact f7 (λx y _ _=>Wl0 k x y) (by assumption))
 obtain rfl:k=13:=VG;exact YW
def Zs3:St:={σ:=[AV.ro [lst 2 3 λk=>[iI (oL k),iI (oH k)],iI 1,Q1 N U O m r v,Q2 m N,top],agg QC,top,ptr 0 0,QD,AV.lit false,ptr 4 0]++HF 15 [iI 13]++HF 20 [lst 2 3 λk=>[iI (oL k),iI (oH k)],iI (↑(3:Nat):Int)]++HF 146 [],m:=[(4,GL.ints 244 [] 169 λk=>UY (RR 13 0) k),(0,KU)],nx:=14}
noncomputable def Jr5:Code:=U7 (VP (U5 Tryz.f80) 1)
def Wj9(k:Nat):St:=(upE [(45,i k)] [(4,.ints 244 [] 169 (UY (ofM k))),(0,.cells 183 [.x (.int .u64 0)])] (Zs3 N U O m r v))
def E5(k:Nat):G4->Option St
 | .exit 4=>some (upE [(45,i 3)] [(4,.ints 244 [] 169 (UY (ofM 3))),(0,.cells 183 [.x (.int .u64 0)])] (Zs3 N U O m r v))
 |_=>none
def Jm8:CT:= .leaf (.exit 4,(E5 N U O m r v 0 (.exit 4)).getD (Zs3 N U O m r v))
def Xy0:UF:=GG [] (HD (Wj9 N U O m r v (0)) (Jm8 N U O m r v))
abbrev XA:Prop:=(13:Int)=13
theorem Jh1:G5 VL (.loop Jr5) (Xy0 N U O m r v):=by
 refine UT [] (L:=[]) (Ae RE (Ae LR (Ae FX Aa))) (Ai Ab (Ag RI Ac)) VW U0 (X:=Nat) (Wj9 N U O m r v) (λk=>k<=3) (λk=>3-k) (E5 N U O m r v) (x0:=0) VS ?_ ?_ ?_;rintro k;kernel_rfl;rintro k y E h;unfold E5 at h;split at h;cases h;kernel_rfl;cases h;rintro Q hQ k hx;refine ⟨(k+1),?_⟩;(with_reducible refine DA (t:=let z1:=(UY (ofM k) (((1:Int)+(k:Int)).toNat*1+0));let z0:=(UP (((1:Int)+(k:Int)).toNat*1+0) (min z1 (-oL k)) (UY (ofM k)) (0+(((1:Int)+(k:Int)).toNat*13+0)));let z2:=(VU (AV.ro [lst 2 3 λk=>[iI (oL k),iI (oH k)],iI 1,Q1 N U O m r v,Q2 m N,top]));(branch (decide ((k:Int)<(↑(3:Nat):Int))) (need [UG k 3] (need [(0:Int)<=(k:Int)/\(k:Int)<=1000] (need [VI (-oH k)] (need [VI (-oL k)] (need [UG 0 13] (need [(0:Int)<=1+(k:Int)/\(1:Int)+(k:Int)<(↑(13:Nat):Int)] (need [((1:Int)+(k:Int)).toNat*1+0<169] (need [UG 0 13] (need [(0:Int)<=1+(k:Int)/\(1:Int)+(k:Int)<(↑(13:Nat):Int)] (need [((1:Int)+(k:Int)).toNat*1+0+List.length [min z1 (-oL k)]<=169] (need [(0:Int)<=1+(k:Int)/\(1:Int)+(k:Int)<(↑(13:Nat):Int)] (need [UG 0 13] (need [0+(((1:Int)+(k:Int)).toNat*13+0)<169] (need [VI (- -oH k)] (need [(0:Int)<=1+(k:Int)/\(1:Int)+(k:Int)<(↑(13:Nat):Int)] (need [UG 0 13] (need [0+(((1:Int)+(k:Int)).toNat*13+0)+List.length [min z0 (- -oH k)]<=169] (need [VI ((k:Int)+1)] (need [z2,VU (agg QC),QO,QD=QD,WL,W2,XA,VU (lst 2 3 λk=>[iI (oL k),iI (oH k)]),VU (↑(3:Nat):Int),(k:Int)+1=(↑(k+1):Int),169=169,GR 169 (UP (0+(((1:Int)+(k:Int)).toNat*13+0)) (min z0 (- -oH k)) (jB (((1:Int)+(k:Int)).toNat*1+0) [min z1 (-oL k)] (UY (ofM k)))) (UY (ofM (k+1))),QI] (leaf G4.normal)))))))))))))))))))) (need [z2,VU (agg QC),QO,QD=QD,WL,W2,XA,VU (lst 2 3 λk=>[iI (oL k),iI (oH k)]),VU (↑(3:Nat):Int),(k:Int)=3,169=169,GR 169 (UY (ofM k)) (UY (ofM 3)),QI] (leaf (G4.exit 4))))) VQ ?_)
 simp only [Jm8,E5,VJ.sat,GQ] at hQ;simp only [VJ.sat,U8,UZ,GH,UB,VI,UE,H6,FW,R0,RT,GJ,E5]
 have hL: -9<=oL k/\oL k<=0:=by unfold oL;split<;>omega
 have hH:0<=oH k/\oH k<=9:=by unfold oH;split<;>omega
 refine ⟨λh=>?_,λh=>?_⟩;have h1: ∀M w,UP ((1+(k:Int)).toNat*1+0) (min (UY M ((1+(k:Int)).toNat*1+0)) w) (UY M)=UY (bnd M 0 (1+k) w):=λM w=>zO VG VG;have h2: ∀M w,UP (0+((1+(k:Int)).toNat*13+0)) (min (UY M (0+((1+(k:Int)).toNat*13+0))) w) (UY M)=UY (bnd M (1+k) 0 w):=λM w=>zO VG VG;simp only [h1,h2];exact YW;obtain rfl:k=3:=VG;exact YW
def Zs2:St:={σ:=[AV.ro [lst 2 3 λk=>[iI (oL k),iI (oH k)],iI 1,Q1 N U O m r v,Q2 m N,top],agg QC,top,ptr 0 0,QD,AV.lit false,ptr 4 0]++HF 15 [iI 13]++HF 20 [lst 2 3 λk=>[iI (oL k),iI (oH k)],iI (↑(3:Nat):Int),iI 3]++HF 20 [Q1 N U O m r v,iI (N:Int)]++HF 123 [],m:=[(4,GL.ints 244 [] 169 λk=>UY (ofM 3) k),(0,KU)],nx:=21}
noncomputable def Jr4:Code:=U7 (VP (U5 Tryz.f80) 2)
def Wj8(k:Nat):St:=(upE [(68,i k)] [(4,.ints 244 [] 169 (UY (btM U O k))),(0,.cells 183 [.x (.int .u64 0)])] (Zs2 N U O m r v))
def E4(k:Nat):G4->Option St
 | .exit 6=>some (upE [(68,i N)] [(4,.ints 244 [] 169 (UY (btM U O N))),(0,.cells 183 [.x (.int .u64 0)])] (Zs2 N U O m r v))
 |_=>none
def Jm7:CT:= .leaf (.exit 6,(E4 N U O m r v 0 (.exit 6)).getD (Zs2 N U O m r v))
def Xx9:UF:=GG [] (HD (Wj8 N U O m r v (0)) (Jm7 N U O m r v))
abbrev XE:Prop:=(3:Int)=3
theorem Jh0(VO:bOK N U O m r v):G5 VL (.loop Jr4) (Xx9 N U O m r v):=by
 refine UT [] (L:=[]) (Ae RE (Ae LR (Ae FX Aa))) (Ai Ab (Ag RI Ac)) VW U0 (X:=Nat) (Wj8 N U O m r v) (λk=>k<=N) (λk=>N-k) (E4 N U O m r v) (x0:=0) VS ?_ ?_ ?_;rintro k;kernel_rfl;rintro k y E h;unfold E4 at h;split at h;cases h;kernel_rfl;cases h;rintro Q hQ k hx;refine ⟨(k+1),?_⟩;(with_reducible refine DA (t:=let z1:=(UY (btM U O k) (((7:Int)+(k:Int)).toNat*1+0));let z0:=(UP (((7:Int)+(k:Int)).toNat*1+0) (min z1 (O k)) (UY (btM U O k)) (0+(((7:Int)+(k:Int)).toNat*13+0)));let z2:=(VU (AV.ro [lst 2 3 λk=>[iI (oL k),iI (oH k)],iI 1,Q1 N U O m r v,Q2 m N,top]));(branch (decide ((k:Int)<(N:Int))) (need [UG k N] (need [(0:Int)<=(k:Int)/\(k:Int)<=1000] (need [UG 0 13] (need [(0:Int)<=7+(k:Int)/\(7:Int)+(k:Int)<(↑(13:Nat):Int)] (need [((7:Int)+(k:Int)).toNat*1+0<169] (need [UG 0 13] (need [(0:Int)<=7+(k:Int)/\(7:Int)+(k:Int)<(↑(13:Nat):Int)] (need [((7:Int)+(k:Int)).toNat*1+0+List.length [min z1 (O k)]<=169] (need [(0:Int)<=7+(k:Int)/\(7:Int)+(k:Int)<(↑(13:Nat):Int)] (need [UG 0 13] (need [0+(((7:Int)+(k:Int)).toNat*13+0)<169] (need [VI (-U k)] (need [(0:Int)<=7+(k:Int)/\(7:Int)+(k:Int)<(↑(13:Nat):Int)] (need [UG 0 13] (need [0+(((7:Int)+(k:Int)).toNat*13+0)+List.length [min z0 (-U k)]<=169] (need [VI ((k:Int)+1)] (need [z2,VU (agg QC),QO,QD=QD,WL,W2,XA,VU (lst 2 3 λk=>[iI (oL k),iI (oH k)]),VU (↑(3:Nat):Int),XE,WS N U O m r v,VU (N:Int),(k:Int)+1=(↑(k+1):Int),169=169,GR 169 (UP (0+(((7:Int)+(k:Int)).toNat*13+0)) (min z0 (-U k)) (jB (((7:Int)+(k:Int)).toNat*1+0) [min z1 (O k)] (UY (btM U O k)))) (UY (btM U O (k+1))),QI] (leaf G4.normal)))))))))))))))))) (need [z2,VU (agg QC),QO,QD=QD,WL,W2,XA,VU (lst 2 3 λk=>[iI (oL k),iI (oH k)]),VU (↑(3:Nat):Int),XE,WS N U O m r v,VU (N:Int),(k:Int)=(N:Int),169=169,GR 169 (UY (btM U O k)) (UY (btM U O N)),QI] (leaf (G4.exit 6))))) VQ ?_)
 simp only [Jm7,E4,VJ.sat,GQ] at hQ;simp only [VJ.sat,U8,UZ,GH,UB,VI,UE,H6,FW,R0,RT,GJ,E4]
 have h6:=VO.1;refine ⟨λh=>?_,λh=>?_⟩;obtain ⟨_,q1,q2,q3,_⟩:=VO.2 k VG;have h1: ∀M w,UP ((7+(k:Int)).toNat*1+0) (min (UY M ((7+(k:Int)).toNat*1+0)) w) (UY M)=UY (bnd M 0 (7+k) w):=λM w=>zO VG VG;have h2: ∀M w,UP (0+((7+(k:Int)).toNat*13+0)) (min (UY M (0+((7+(k:Int)).toNat*13+0))) w) (UY M)=UY (bnd M (7+k) 0 w):=λM w=>zO VG VG;simp only [h1,h2];exact YW;obtain rfl:k=N:=VG;exact YW
def Zs1:St:={σ:=[AV.ro [lst 2 3 λk=>[iI (oL k),iI (oH k)],iI 1,Q1 N U O m r v,Q2 m N,top],agg QC,top,ptr 0 0,QD,AV.lit false,ptr 4 0]++HF 15 [iI 13]++HF 20 [lst 2 3 λk=>[iI (oL k),iI (oH k)],iI (↑(3:Nat):Int),iI 3]++HF 20 [Q1 N U O m r v,iI (N:Int),iI (N:Int)]++HF 14 [Q2 m N,iI (↑(H4 m N):Int)]++HF 106 [],m:=[(4,GL.ints 244 [] 169 λk=>UY (btM U O N) k),(0,KU)],nx:=27}
noncomputable def Jr3:Code:=U7 (VP (U5 Tryz.f80) 3)
def Wj7(k:Nat):St:=(upE [(85,i k)] [(4,.ints 244 [] 169 (UY (uM N U O m r v k))),(0,.cells 183 [.x (.int .u64 0)])] (Zs1 N U O m r v))
def E3(k:Nat):G4->Option St
 | .exit 8=>some (upE [(85,i (H4 m N))] [(4,.ints 244 [] 169 (UY (uM N U O m r v (H4 m N)))),(0,.cells 183 [.x (.int .u64 0)])] (Zs1 N U O m r v))
 |_=>none
def Jm6:CT:= .leaf (.exit 8,(E3 N U O m r v 0 (.exit 8)).getD (Zs1 N U O m r v))
def Xx8:UF:=GG [] (HD (Wj7 N U O m r v (0)) (Jm6 N U O m r v))
theorem Jg9(VO:bOK N U O m r v):G5 VL (.loop Jr3) (Xx8 N U O m r v):=by
 refine UT [] (L:=[]) (Ae RE (Ae LR (Ae FX Aa))) (Ai Ab (Ag RI Ac)) VW U0 (X:=Nat) (Wj7 N U O m r v) (λk=>k<=H4 m N) (λk=>H4 m N-k) (E3 N U O m r v) (x0:=0) VS ?_ ?_ ?_;rintro k;kernel_rfl;rintro k y E h;unfold E3 at h;split at h;cases h;kernel_rfl;cases h;rintro Q hQ k hx;refine ⟨(k+1),?_⟩
 (with_reducible refine DA (t:=let z4:=uM N U O m r v k;let z1:=(UY (z4) (((7:Int)+(↑(Prod.fst (G7 m N k)):Int)).toNat*1+(((1:Int)+r (Prod.fst (G7 m N k)) (Prod.snd (G7 m N k))).toNat*13+0)));let z0:=(UP (((7:Int)+(↑(Prod.fst (G7 m N k)):Int)).toNat*1+(((1:Int)+r (Prod.fst (G7 m N k)) (Prod.snd (G7 m N k))).toNat*13+0)) (min z1 (v (Prod.fst (G7 m N k)) (Prod.snd (G7 m N k))+1)) (UY (z4)) (((1:Int)+r (Prod.fst (G7 m N k)) (Prod.snd (G7 m N k))).toNat*1+(((7:Int)+(↑(Prod.fst (G7 m N k)):Int)).toNat*13+0)));let z2:=(VU (AV.ro [lst 2 3 λk=>[iI (oL k),iI (oH k)],iI 1,Q1 N U O m r v,Q2 m N,top]));let z3:=(VU (lst 2 3 λk=>[iI (oL k),iI (oH k)]));(branch (decide ((k:Int)<(↑(H4 m N):Int))) (need [UG k (↑(H4 m N):Int)] (need [(0:Int)<=(k:Int)/\(k:Int)<=64] (branch (IntKind.wrap IntKind.u64 (↑(BitVec.toNat (BitVec.ofInt (IntKind.bits IntKind.u64) ((0:Int) / (2:Int)^k) &&& BitVec.ofInt (IntKind.bits IntKind.u64) (1:Int))):Int)==0) (need [UG (↑(Prod.fst (G7 m N k)):Int) N] (need [UG (↑(Prod.snd (G7 m N k)):Int) ((↑(m (Prod.fst (G7 m N k))):Int))] (need [(0:Int)<=r (Prod.fst (G7 m N k)) (Prod.snd (G7 m N k))/\r (Prod.fst (G7 m N k)) (Prod.snd (G7 m N k))<=1000] (need [(0:Int)<=(↑(Prod.fst (G7 m N k)):Int)/\(↑(Prod.fst (G7 m N k)):Int)<=1000] (need [VI (v (Prod.fst (G7 m N k)) (Prod.snd (G7 m N k))-1)] (need [VI (v (Prod.fst (G7 m N k)) (Prod.snd (G7 m N k))+1)] (need [(0:Int)<=1+r (Prod.fst (G7 m N k)) (Prod.snd (G7 m N k))/\(1:Int)+r (Prod.fst (G7 m N k)) (Prod.snd (G7 m N k))<(↑(13:Nat):Int)] (need [(0:Int)<=7+(↑(Prod.fst (G7 m N k)):Int)/\(7:Int)+(↑(Prod.fst (G7 m N k)):Int)<(↑(13:Nat):Int)] (need [((7:Int)+(↑(Prod.fst (G7 m N k)):Int)).toNat*1+(((1:Int)+r (Prod.fst (G7 m N k)) (Prod.snd (G7 m N k))).toNat*13+0)<169] (need [(0:Int)<=1+r (Prod.fst (G7 m N k)) (Prod.snd (G7 m N k))/\(1:Int)+r (Prod.fst (G7 m N k)) (Prod.snd (G7 m N k))<(↑(13:Nat):Int)] (need [(0:Int)<=7+(↑(Prod.fst (G7 m N k)):Int)/\(7:Int)+(↑(Prod.fst (G7 m N k)):Int)<(↑(13:Nat):Int)] (need [((7:Int)+(↑(Prod.fst (G7 m N k)):Int)).toNat*1+(((1:Int)+r (Prod.fst (G7 m N k)) (Prod.snd (G7 m N k))).toNat*13+0)+List.length [min z1 (v (Prod.fst (G7 m N k)) (Prod.snd (G7 m N k))+1)]<=169] (need [(0:Int)<=7+(↑(Prod.fst (G7 m N k)):Int)/\(7:Int)+(↑(Prod.fst (G7 m N k)):Int)<(↑(13:Nat):Int)] (need [(0:Int)<=1+r (Prod.fst (G7 m N k)) (Prod.snd (G7 m N k))/\(1:Int)+r (Prod.fst (G7 m N k)) (Prod.snd (G7 m N k))<(↑(13:Nat):Int)] (need [((1:Int)+r (Prod.fst (G7 m N k)) (Prod.snd (G7 m N k))).toNat*1+(((7:Int)+(↑(Prod.fst (G7 m N k)):Int)).toNat*13+0)<169] (need [VI (-(v (Prod.fst (G7 m N k)) (Prod.snd (G7 m N k))-1))] (need [(0:Int)<=7+(↑(Prod.fst (G7 m N k)):Int)/\(7:Int)+(↑(Prod.fst (G7 m N k)):Int)<(↑(13:Nat):Int)] (need [(0:Int)<=1+r (Prod.fst (G7 m N k)) (Prod.snd (G7 m N k))/\(1:Int)+r (Prod.fst (G7 m N k)) (Prod.snd (G7 m N k))<(↑(13:Nat):Int)] (need [((1:Int)+r (Prod.fst (G7 m N k)) (Prod.snd (G7 m N k))).toNat*1+(((7:Int)+(↑(Prod.fst (G7 m N k)):Int)).toNat*13+0)+List.length [min z0 (-(v (Prod.fst (G7 m N k)) (Prod.snd (G7 m N k))-1))]<=169] (need [VI ((k:Int)+1)] (need [z2,VU (agg QC),QO,QD=QD,WL,W2,XA,z3,VU (↑(3:Nat):Int),XE,WS N U O m r v,VU (N:Int),VU (N:Int),VU (Q2 m N),VU (↑(H4 m N):Int),(k:Int)+1=(↑(k+1):Int),169=169,GR 169 (UP (((1:Int)+r (Prod.fst (G7 m N k)) (Prod.snd (G7 m N k))).toNat*1+(((7:Int)+(↑(Prod.fst (G7 m N k)):Int)).toNat*13+0)) (min z0 (-(v (Prod.fst (G7 m N k)) (Prod.snd (G7 m N k))-1))) (jB (((7:Int)+(↑(Prod.fst (G7 m N k)):Int)).toNat*1+(((1:Int)+r (Prod.fst (G7 m N k)) (Prod.snd (G7 m N k))).toNat*13+0)) [min z1 (v (Prod.fst (G7 m N k)) (Prod.snd (G7 m N k))+1)] (UY (z4)))) (UY (uM N U O m r v (k+1))),QI] (leaf G4.normal)))))))))))))))))))))) (need [VI ((k:Int)+1)] (need [z2,VU (agg QC),QO,QD=QD,WL,W2,XA,z3,VU (↑(3:Nat):Int),XE,WS N U O m r v,VU (N:Int),VU (N:Int),VU (Q2 m N),VU (↑(H4 m N):Int),(k:Int)+1=(↑(k+1):Int),169=169,GR 169 (UY (z4)) (UY (uM N U O m r v (k+1))),QI] (leaf G4.normal)))))) (need [z2,VU (agg QC),QO,QD=QD,WL,W2,XA,z3,VU (↑(3:Nat):Int),XE,WS N U O m r v,VU (N:Int),VU (N:Int),VU (Q2 m N),VU (↑(H4 m N):Int),(k:Int)=(↑(H4 m N):Int),169=169,GR 169 (UY (z4)) (UY (uM N U O m r v (H4 m N))),QI] (leaf (G4.exit 8))))) VQ ?_)
 simp only [Jm6,E3,VJ.sat,GQ] at hQ;simp only [VJ.sat,U8,UZ,GH,UB,VI,UE,H6,FW,R0,RT,GJ,E3]
 have h6:=VO.1;have hb:=TM m (K:=10) N (λb hb=>(VO.2 b hb).1);have hz:(IntKind.u64.wrap ((BitVec.ofInt IntKind.u64.bits (0 / 2^k) &&& BitVec.ofInt IntKind.u64.bits 1).toNat:Int)==0)=true:=by
  rw [Int.zero_ediv];decide
 simp only [hz,true_imp_iff,Bool.true_eq_false,false_imp_iff,and_true];refine ⟨λh=>?_,λh=>?_⟩;obtain ⟨hl1,hl2⟩:=uX m N k VG;obtain ⟨_,_,_,_,q4⟩:=VO.2 _ hl1;obtain ⟨q5,q6,q7,q8⟩:=q4 _ hl2;have e1:((1+r (G7 m N k).1 (G7 m N k).2).toNat)=1+(r (G7 m N k).1 (G7 m N k).2).toNat:=VG;have e2:((7+((G7 m N k).1:Int)).toNat)=7+(G7 m N k).1:=VG;rw [e1,e2];have h1: ∀M w,UP ((7+(G7 m N k).1)*1+((1+(r (G7 m N k).1 (G7 m N k).2).toNat)*13+0)) (min (UY M ((7+(G7 m N k).1)*1+((1+(r (G7 m N k).1 (G7 m N k).2).toNat)*13+0))) w) (UY M)=UY (bnd M (1+(r (G7 m N k).1 (G7 m N k).2).toNat) (7+(G7 m N k).1) w):=λM w=>zO VG VG;have h2: ∀M w,UP ((1+(r (G7 m N k).1 (G7 m N k).2).toNat)*1+((7+(G7 m N k).1)*13+0)) (min (UY M ((1+(r (G7 m N k).1 (G7 m N k).2).toNat)*1+((7+(G7 m N k).1)*13+0))) w) (UY M)=UY (bnd M (7+(G7 m N k).1) (1+(r (G7 m N k).1 (G7 m N k).2).toNat) w):=λM w=>zO VG VG;simp only [h1,h2];exact YW;obtain rfl:k=H4 m N:=VG;exact YW
end
def LB8(B:Int)(M:Nat->Nat->Int):Prop:= ∀x y,-B<=M x y/\M x y<=8000
def JB8(B:Int)(o f t:Nat)(M:Nat->Nat->Int):Prop:= ∀x y,M x y<=8000/\ -(6*B)<=M x y/\(x=o-> -(3*B)<=M x y)/\(y=o-> -(3*B)<=M x y)/\(x=o->y=o-> -(2*B)<=M x y)/\(¬(x<f\/(x=f/\y<t))-> -B<=M x y)
theorem Qt8{B:Int}{o:Nat}{M:Nat->Nat->Int}(hB:0<=B)(h:LB8 B M):JB8 B o 0 0 M:=by
 intro x y;have:=h x y;refine ⟨VG,VG,λ_=>VG,λ_=>VG,λ_ _=>VG,λ_=>VG⟩
theorem Wz7{B:Int}{o f t:Nat}{M:Nat->Nat->Int}(hB:0<=B)(h:JB8 B o f t M):JB8 B o f (t+1) (fwS M o f t):=by
 have hft:=h f t;have hfo:=h f o;have hot:=h o t;have hoo:=h o o;have I:=hft.2.2.2.2.2 VG;intro x y;have hxy:=h x y;unfold fwS bnd wW;by_cases hc:x=f/\y=t;exact YZ;rw [if_neg hc];exact ⟨hxy.1,hxy.2.1,hxy.2.2.1,hxy.2.2.2.1,hxy.2.2.2.2.1,λhv=>hxy.2.2.2.2.2 VG⟩
theorem Wz8{B:Int}{o f:Nat}{M:Nat->Nat->Int}(hB:0<=B)(h:JB8 B o f 0 M): ∀t,JB8 B o f t (fwT M o f t)
 | 0=>h
 |t+1=>Wz7 hB (Wz8 hB h t)
theorem Xn7{B:Int}{o f t:Nat}{M:Nat->Nat->Int}(h:JB8 B o f t M):JB8 B o (f+1) 0 M:=by
 intro x y;have hxy:=h x y;exact ⟨hxy.1,hxy.2.1,hxy.2.2.1,hxy.2.2.2.1,hxy.2.2.2.2.1,λhv=>hxy.2.2.2.2.2 VG⟩
theorem Wz9{B:Int}{c o:Nat}{M:Nat->Nat->Int}(hB:0<=B)(h:LB8 B M): ∀f,JB8 B o f 0 (fwF c M o f)
 | 0=>Qt8 hB h
 |f+1=>Xn7 (Wz8 hB (Wz9 hB h f) (c+1))
theorem Wz5{c:Nat}{M:Nat->Nat->Int}(h:LB8 8001 M): ∀o,LB8 (8001*6^o) (fwO c M o)
 | 0=>by
  rw [show (8001:Int)*6^0=8001 by decide]
  exact h
 |o+1=>by
  have ih:=Wz5 (c:=c) h o;have hp:(0:Int)<=8001*6^o:=Bz VG (Int.pow_nonneg VG);have hj:=Wz9 (c:=c) (o:=o) hp ih (c+1);intro x y;have:=hj x y;have e:(8001:Int)*6^(o+1)=6*(8001*6^o):=by rw [Int.pow_succ];omega
  rw [e];exact ⟨this.2.1,this.1⟩
theorem Ja9: ∀o:Nat,o<=12->(6:Int)^o<=2176782336:=by
 intro o ho;rcases (show o=0\/o=1\/o=2\/o=3\/o=4\/o=5\/o=6\/o=7\/o=8\/o=9\/o=10\/o=11\/o=12 by omega) with rfl|rfl|rfl|rfl|rfl|rfl|rfl|rfl|rfl|rfl|rfl|rfl|rfl<;>decide
theorem Zm5{c:Nat}{M:Nat->Nat->Int}(h:LB8 8001 M){o f t:Nat}(ho:o<=12)(x y:Nat): -105000000000000<=fwT (fwF c (fwO c M o) o f) o f t x y/\fwT (fwF c (fwO c M o) o f) o f t x y<=8000:=by
 have ih:=Wz5 (c:=c) h o;have hp:(0:Int)<=8001*6^o:=Bz VG (Int.pow_nonneg VG);have hj:=Wz8 hp (Wz9 (c:=c) (o:=o) hp ih f) t x y;have:=Ja9 o ho;omega
theorem y9{B:Int}{M:Nat->Nat->Int}(h:LB8 B M){a b:Nat}{v:Int}(hv: -B<=v):LB8 B (bnd M a b v):=by
 intro x y;have h1:=h a b;have h2:=h x y;unfold bnd wW;split<;>omega
theorem oLH(k:Nat):(-9<=oL k/\oL k<=0)/\0<=oH k/\oH k<=9:=by
 unfold oL oH;constructor<;>split<;>omega
theorem We3: ∀k,LB8 8001 (ofM k)
 | 0=>by
  intro x y;unfold ofM RR;split<;>omega
 |k+1=>by
  have h:=oLH k;exact y9 (y9 (We3 k) VG) VG
theorem Wt3{N:Nat}{U O:Nat->Int}{m:Nat->Nat}{r v:Nat->Nat->Int}(h:bOK N U O m r v): ∀k,k<=N->LB8 8001 (btM U O k)
 | 0,_=>We3 3
 |k+1,hk=>by
  have q:=h.2 k VG;exact y9 (y9 (Wt3 h k VG) VG) VG
theorem T4{N:Nat}{U O:Nat->Int}{m:Nat->Nat}{r v:Nat->Nat->Int}(h:bOK N U O m r v): ∀q,q<=H4 m N->LB8 8001 (uM N U O m r v q)
 | 0,_=>Wt3 h N (Am _)
 |q+1,hq=>by
  obtain ⟨hl1,hl2⟩:=uX m N q VG;have q4:=(h.2 _ hl1).2.2.2.2 _ hl2;exact y9 (y9 (T4 h q VG) VG) VG
section
variable (N:Nat)(U O:Nat->Int)(m:Nat->Nat)(r v:Nat->Nat->Int)
def r0M:Nat->Nat->Int:=uM N U O m r v (H4 m N)
def PB:Nat->Nat->Int:=fwO 12 (r0M N U O m r v) 13
def w9:Bool:=HW (λk=>decide (0<=PB N U O m r v k k)) 13
def Zs0:St:={σ:=[AV.ro [lst 2 3 λk=>[iI (oL k),iI (oH k)],iI 1,Q1 N U O m r v,Q2 m N,top],agg QC,top,ptr 0 0,QD,AV.lit false,ptr 4 0]++HF 15 [iI 13]++HF 20 [lst 2 3 λk=>[iI (oL k),iI (oH k)],iI (↑(3:Nat):Int),iI 3]++HF 20 [Q1 N U O m r v,iI (N:Int),iI (N:Int)]++HF 14 [Q2 m N,iI (↑(H4 m N):Int),iI (↑(H4 m N):Int)]++HF 105 [],m:=[(4,GL.ints 244 [] 169 λk=>UY (uM N U O m r v (H4 m N)) k),(0,KU)],nx:=28}
noncomputable def Zt5:Code:=U7 (VP (U5 Tryz.f80) 4)
def Wj6(o:Nat):St:=(upE [(136,i o)] [(4,.ints 244 [] 169 (UY (fwO 12 (r0M N U O m r v) o))),(0,.cells 183 [.x (.int .u64 0)])] (Zs0 N U O m r v))
def E2(o:Nat):G4->Option St
 | .exit 10=>some (upE [(136,i 13)] [(4,.ints 244 [] 169 (UY (fwO 12 (r0M N U O m r v) 13))),(0,.cells 183 [.x (.int .u64 0)])] (Zs0 N U O m r v))
 |_=>none
def Jm5:CT:= .leaf (.exit 10,(E2 N U O m r v 0 (.exit 10)).getD (Zs0 N U O m r v))
def Xx7:UF:=GG [] (HD (Wj6 N U O m r v (0)) (Jm5 N U O m r v))
def Zr9(o:Nat):St:={σ:=[AV.ro [lst 2 3 λk=>[iI (oL k),iI (oH k)],iI 1,Q1 N U O m r v,Q2 m N,top],agg QC,top,ptr 0 0,QD,AV.lit false,ptr 4 0]++HF 9 [iI (o:Int)]++HF 5 [iI 13]++HF 20 [lst 2 3 λk=>[iI (oL k),iI (oH k)],iI (↑(3:Nat):Int),iI 3]++HF 20 [Q1 N U O m r v,iI (N:Int),iI (N:Int)]++HF 14 [Q2 m N,iI (↑(H4 m N):Int),iI (↑(H4 m N):Int)]++HF 50 [iI (o:Int)]++HF 54 [],m:=[(4,GL.ints 244 [] 169 λk=>UY (fwO 12 (r0M N U O m r v) o) k),(0,KU)],nx:=32}
noncomputable def Zt4:Code:=(U7 (VP (U7 (VP (U5 Tryz.f80) 4)) 0))
def Wj5(o:Nat)(f:Nat):St:=(upE [(139,i f)] [(4,.ints 244 [] 169 (UY (fwF 12 (fwO 12 (r0M N U O m r v) o) o f))),(0,.cells 183 [.x (.int .u64 0)])] (Zr9 N U O m r v o))
def E1(o:Nat)(f:Nat):G4->Option St
 | .exit 12=>some (upE [(139,i 13)] [(4,.ints 244 [] 169 (UY (fwF 12 (fwO 12 (r0M N U O m r v) o) o 13))),(0,.cells 183 [.x (.int .u64 0)])] (Zr9 N U O m r v o))
 |_=>none
def Jm4(o:Nat):CT:= .leaf (.exit 12,(E1 N U O m r v o 0 (.exit 12)).getD (Zr9 N U O m r v o))
def Xx6(o:Nat):UF:=GG [] (HD (Wj5 N U O m r v o (0)) (Jm4 N U O m r v o))
def Zr8(o:Nat)(f:Nat):St:={σ:=[AV.ro [lst 2 3 λk=>[iI (oL k),iI (oH k)],iI 1,Q1 N U O m r v,Q2 m N,top],agg QC,top,ptr 0 0,QD,AV.lit false,ptr 4 0]++HF 9 [iI (o:Int),iI (f:Int),top,top,top,top,iI 13]++HF 20 [lst 2 3 λk=>[iI (oL k),iI (oH k)],iI (↑(3:Nat):Int),iI 3]++HF 20 [Q1 N U O m r v,iI (N:Int),iI (N:Int)]++HF 14 [Q2 m N,iI (↑(H4 m N):Int),iI (↑(H4 m N):Int)]++HF 50 [iI (o:Int),top,top,iI (f:Int)]++HF 51 [],m:=[(4,GL.ints 244 [] 169 λk=>UY (fwF 12 (fwO 12 (r0M N U O m r v) o) o f) k),(0,KU)],nx:=36}
noncomputable def Jr2:Code:=(U7 (VP (U7 (VP (U7 (VP (U5 Tryz.f80) 4)) 0)) 0))
def Wj4(o:Nat)(f:Nat)(t:Nat):St:=(upE [(142,i t)] [(4,.ints 244 [] 169 (UY (fwT (fwF 12 (fwO 12 (r0M N U O m r v) o) o f) o f t))),(0,.cells 183 [.x (.int .u64 0)])] (Zr8 N U O m r v o f))
def E0(o:Nat)(f:Nat)(t:Nat):G4->Option St
 | .exit 14=>some (upE [(142,i 13)] [(4,.ints 244 [] 169 (UY (fwT (fwF 12 (fwO 12 (r0M N U O m r v) o) o f) o f 13))),(0,.cells 183 [.x (.int .u64 0)])] (Zr8 N U O m r v o f))
 |_=>none
def Jm3(o:Nat)(f:Nat):CT:= .leaf (.exit 14,(E0 N U O m r v o f 0 (.exit 14)).getD (Zr8 N U O m r v o f))
def Xx5(o:Nat)(f:Nat):UF:=GG [] (HD (Wj4 N U O m r v o f (0)) (Jm3 N U O m r v o f))
theorem Jg6(o:Nat)(f:Nat)(VO:bOK N U O m r v)(UD:o<=12)(HO:f<=12):G5 VL (.loop Jr2) (Xx5 N U O m r v o f):=by
 refine UT [] (L:=[]) (Ae RE (Ae LR (Ae FX Aa))) (Ai Ab (Ag RI Ac)) VW U0 (X:=Nat) (Wj4 N U O m r v o f) (λt=>t<=13) (λt=>13-t) (E0 N U O m r v o f) (x0:=0) VS ?_ ?_ ?_;rintro t;kernel_rfl;rintro t y E h;unfold E0 at h;split at h;cases h;kernel_rfl;cases h;rintro Q hQ t hx;refine ⟨(t+1),?_⟩;(with_reducible refine DA (t:=let z2:=(fwF 12 (fwO 12 (r0M N U O m r v) o) o f);let z0:=(fwT z2 o f t);let z1:=(VU (AV.ro [lst 2 3 λk=>[iI (oL k),iI (oH k)],iI 1,Q1 N U O m r v,Q2 m N,top]));let z3:=(VU (↑(H4 m N):Int));(branch (decide ((t:Int)<13)) (need [UG f 13] (need [UG t 13] (need [t*1+(f*13+0)<169] (need [UG f 13] (need [UG o 13] (need [o*1+(f*13+0)<169] (need [UG o 13] (need [UG t 13] (need [t*1+(o*13+0)<169] (need [VI (UY z0 (o*1+(f*13+0))+UY z0 (t*1+(o*13+0)))] (need [UG f 13] (need [UG t 13] (need [t*1+(f*13+0)+List.length [min (UY z0 (t*1+(f*13+0))) (UY z0 (o*1+(f*13+0))+UY z0 (t*1+(o*13+0)))]<=169] (need [VI ((t:Int)+1)] (need [z1,VU (agg QC),QO,QD=QD,WL,W2,VU (o:Int),VU (f:Int),XA,VU (lst 2 3 λk=>[iI (oL k),iI (oH k)]),VU (↑(3:Nat):Int),XE,WS N U O m r v,VU (N:Int),VU (N:Int),VU (Q2 m N),z3,z3,VU (o:Int),VU (f:Int),(t:Int)+1=(↑(t+1):Int),169=169,GR 169 (UP (t*1+(f*13+0)) (min (UY z0 (t*1+(f*13+0))) (UY z0 (o*1+(f*13+0))+UY z0 (t*1+(o*13+0)))) (UY z0)) (UY (fwT z2 o f (t+1))),QI] (leaf G4.normal)))))))))))))))) (need [z1,VU (agg QC),QO,QD=QD,WL,W2,VU (o:Int),VU (f:Int),XA,VU (lst 2 3 λk=>[iI (oL k),iI (oH k)]),VU (↑(3:Nat):Int),XE,WS N U O m r v,VU (N:Int),VU (N:Int),VU (Q2 m N),z3,z3,VU (o:Int),VU (f:Int),(t:Int)=13,169=169,GR 169 (UY z0) (UY (fwT z2 o f 13)),QI] (leaf (G4.exit 14))))) VQ ?_)
 simp only [Jm3,E0,VJ.sat,GQ] at hQ;simp only [VJ.sat,U8,UZ,GH,UB,VI,UE,H6,FW,R0,RT,GJ,E0]
 have hl:=λx y=>Zm5 (c:=12) (T4 VO (H4 m N) (Am _)) (o:=o) (f:=f) (t:=t) VG x y;have hfo:=hl f o;have hot:=hl o t;refine ⟨λh=>?_,λh=>?_⟩;have h1: ∀M,UY M (o*1+(f*13+0))=M f o:=λM=>y7 _ VG VG;have h2: ∀M,UY M (t*1+(o*13+0))=M o t:=λM=>y7 _ VG VG;have h3: ∀M w,UP (t*1+(f*13+0)) (min (UY M (t*1+(f*13+0))) w) (UY M)=UY (bnd M f t w):=λM w=>zO VG VG;simp only [h3];simp only [h1,h2];unfold r0M;exact YW;obtain rfl:t=13:=VG;exact YW
theorem Jg7(o:Nat)(VO:bOK N U O m r v)(UD:o<=12):G5 VL (.loop Zt4) (Xx6 N U O m r v o):=by
 refine UT [] (L:=[BG 17 (λk=>FE [k<=12] (Xx5 N U O m r v o k))]) (Ae RE (Ae LR (Ae FX Aa))) (Ai Ab (Ag RI Ac)) VW (G0 (λcj hcj=>by
  have e:VP Zt4 0=some (.loop Jr2):=VQ;rw [e] at hcj;cases hcj;exact LZ (λk=>HT (λh=>Jg6 N U O m r v o k VO UD h)))) (X:=Nat) (Wj5 N U O m r v o) (λf=>f<=13) (λf=>13-f) (E1 N U O m r v o) (x0:=0) VS ?_ ?_ ?_
 rintro f;kernel_rfl;rintro f y E h;unfold E1 at h;split at h;cases h;kernel_rfl;cases h;rintro Q hQ f hx;refine ⟨(f+1),?_⟩;(with_reducible refine DA (t:=let z0:=(VU (AV.ro [lst 2 3 λk=>[iI (oL k),iI (oH k)],iI 1,Q1 N U O m r v,Q2 m N,top]));let z1:=(fwO 12 (r0M N U O m r v) o);let z2:=(VU (↑(H4 m N):Int));let z3:=(VU (lst 2 3 λk=>[iI (oL k),iI (oH k)]));(branch (decide ((f:Int)<13)) (need [f<=12] (need [z0,VU (agg QC),QO,QD=QD,WL,W2,VU (o:Int),VU (f:Int),XA,z3,VU (↑(3:Nat):Int),XE,WS N U O m r v,VU (N:Int),VU (N:Int),VU (Q2 m N),z2,z2,VU (o:Int),VU (f:Int),(0:Int)=(↑(0:Nat):Int),169=169,GR 169 (UY (fwF 12 z1 o f)) (UY (fwT (fwF 12 z1 o f) o f 0)),QI] (need [VI ((f:Int)+1)] (need [z0,VU (agg QC),QO,QD=QD,WL,W2,VU (o:Int),XA,z3,VU (↑(3:Nat):Int),XE,WS N U O m r v,VU (N:Int),VU (N:Int),VU (Q2 m N),z2,z2,VU (o:Int),(f:Int)+1=(↑(f+1):Int),169=169,GR 169 (UY (fwT (fwF 12 z1 o f) o f 13)) (UY (fwF 12 z1 o (f+1))),QI] (leaf G4.normal))))) (need [z0,VU (agg QC),QO,QD=QD,WL,W2,VU (o:Int),XA,z3,VU (↑(3:Nat):Int),XE,WS N U O m r v,VU (N:Int),VU (N:Int),VU (Q2 m N),z2,z2,VU (o:Int),(f:Int)=13,169=169,GR 169 (UY (fwF 12 z1 o f)) (UY (fwF 12 z1 o 13)),QI] (leaf (G4.exit 12))))) VQ ?_)
 simp only [Jm4,E1,VJ.sat,GQ] at hQ;simp only [VJ.sat,U8,UZ,GH,UB,VI,UE,H6,FW,R0,RT,GJ,E1]
 refine ⟨λh=>?_,λh=>?_⟩;exact YW;obtain rfl:f=13:=VG;exact YW
theorem Jg8(VO:bOK N U O m r v):G5 VL (.loop Zt5) (Xx7 N U O m r v):=by
 refine UT [] (L:=[BG 16 (λk=>FE [k<=12] (Xx6 N U O m r v k))]) (Ae RE (Ae LR (Ae FX Aa))) (Ai Ab (Ag RI Ac)) VW (G0 (λcj hcj=>by
  have e:VP Zt5 0=some (.loop Zt4):=VQ;rw [e] at hcj;cases hcj;exact LZ (λk=>HT (λh=>Jg7 N U O m r v k VO h)))) (X:=Nat) (Wj6 N U O m r v) (λo=>o<=13) (λo=>13-o) (E2 N U O m r v) (x0:=0) VS ?_ ?_ ?_
 rintro o;kernel_rfl;rintro o y E h;unfold E2 at h;split at h;cases h;kernel_rfl;cases h;rintro Q hQ o hx;refine ⟨(o+1),?_⟩;(with_reducible refine DA (t:=let z0:=(VU (AV.ro [lst 2 3 λk=>[iI (oL k),iI (oH k)],iI 1,Q1 N U O m r v,Q2 m N,top]));let z1:=(VU (↑(H4 m N):Int));let z2:=(VU (lst 2 3 λk=>[iI (oL k),iI (oH k)]));let z3:=(fwO 12 (r0M N U O m r v) o);(branch (decide ((o:Int)<13)) (need [o<=12] (need [z0,VU (agg QC),QO,QD=QD,WL,W2,VU (o:Int),XA,z2,VU (↑(3:Nat):Int),XE,WS N U O m r v,VU (N:Int),VU (N:Int),VU (Q2 m N),z1,z1,VU (o:Int),(0:Int)=(↑(0:Nat):Int),169=169,GR 169 (UY z3) (UY (fwF 12 z3 o 0)),QI] (need [VI ((o:Int)+1)] (need [z0,VU (agg QC),QO,QD=QD,WL,W2,XA,z2,VU (↑(3:Nat):Int),XE,WS N U O m r v,VU (N:Int),VU (N:Int),VU (Q2 m N),z1,z1,(o:Int)+1=(↑(o+1):Int),169=169,GR 169 (UY (fwF 12 z3 o 13)) (UY (fwO 12 (r0M N U O m r v) (o+1))),QI] (leaf G4.normal))))) (need [z0,VU (agg QC),QO,QD=QD,WL,W2,XA,z2,VU (↑(3:Nat):Int),XE,WS N U O m r v,VU (N:Int),VU (N:Int),VU (Q2 m N),z1,z1,(o:Int)=13,169=169,GR 169 (UY z3) (UY (fwO 12 (r0M N U O m r v) 13)),QI] (leaf (G4.exit 10))))) VQ ?_)
 simp only [Jm5,E2,VJ.sat,GQ] at hQ;simp only [VJ.sat,U8,UZ,GH,UB,VI,UE,H6,FW,R0,RT,GJ,E2]
 refine ⟨λh=>?_,λh=>?_⟩;exact YW;obtain rfl:o=13:=VG;exact YW
end
end Go.Proofs.YtakpdkmhclhlnaaGreatDoor.Hd
