/- Contracts, put together. Conditions: those of each. -/
import Derived.Test.YtakpdkmhclhlnaaGreatDoorMc
import Derived.Lib.Walk
import Derived.Lib.SliceRun
import Derived.Lib.AppendZerosOnto
set_option linter.unusedSimpArgs false
set_option linter.unusedVariables false
set_option maxRecDepth 100000
namespace Go.Proofs.YtakpdkmhclhlnaaGreatDoor.Bo
open Go Go.Sx Go.RowKit
open Go.Sx.VL (need branch leaf)
open Go.Sx.AV (lst ptr agg roI tup top)
end Go.Proofs.YtakpdkmhclhlnaaGreatDoor.Bo
namespace Go.Proofs.YtakpdkmhclhlnaaGreatDoor
open Go Go.Sx Go.RowKit Bo
open Go.Sx.VL (need branch leaf)
open Go.Sx.AV (lst ptr agg roI tup top)
theorem VX:Tryz.prog.follows .mixedOrders=true:=VT
abbrev i(n:Int):AV:= .x (.int .i64 n)
abbrev iI(n:Int):AV:= .x (.int .i64 n)
abbrev bl(b:Bool):AV:= .x (.bool b)
abbrev bt:=Bo.bt
abbrev insB:=Bo.insB
def dnI(n d:Int):Int:=n.tdiv d
def upI(n d:Int):Int:=(n+d-1).tdiv d
theorem bt_iff(U n O:Int):bt U n O=true↔U<=n/\n<=O:=Bo.bt_iff U n O
theorem insB_iff(U a b O:Int):insB U a b O=true↔U<=a/\a<=b/\b<=O:=Bo.insB_iff U a b O
theorem gK{n d:Int}(I:0<=n)(hd:1<=d):dnI n d*d<=n/\n<dnI n d*d+d/\0<=dnI n d/\dnI n d<=n:=by
 unfold dnI;rw [Int.tdiv_eq_ediv_of_nonneg I];have h1:=Int.mul_ediv_add_emod n d;have h2:=Int.emod_nonneg n (show d≠0 by omega)
 have h3:=Int.emod_lt_of_pos n (show 0<d by omega)
 have h4:=Int.ediv_nonneg I (show 0<=d by omega)
 have h5:=Int.ediv_le_self d I;rw [Int.mul_comm] at h1;omega
theorem SI{n d:Int}(I:0<=n)(hd:1<=d):upI n d*d-d<n/\n<=upI n d*d/\0<=upI n d/\upI n d<=n:=by
 have h:=gK (n:=n+d-1) VI hd;have e:upI n d=dnI (n+d-1) d:=rfl;rw [e];refine ⟨VI,VI,h.2.2.1,?_⟩;rcases Int.lt_or_le n (dnI (n+d-1) d) with h1|h1;have h2:=Int.mul_le_mul_of_nonneg_right (show n+1<=dnI (n+d-1) d by omega) (show 0<=d by omega)
 rw [Int.add_mul,Int.one_mul] at h2;have h3:=Bz I (show 0<=d-1 by omega)
 rw [Int.mul_sub,Int.mul_one] at h3;omega;exact h1
def BE:UX
 |[.x (.int .i64 n),.x (.int .i64 U),.x (.int .i64 O)]=>some ([],bl (bt U n O))
 |_=>none
abbrev KU:Value:=Value.bool false
theorem wN(n U O:Int):VW VN 92 [i n,i U,i O] (bl (bt U n O)):=by
 refine GV Tryz.func92 (t:=branch (decide (U<=n)) (leaf (RV.x (.bool (decide (n<=O))))) (leaf (RV.x (KU)))) VT ?_;simp only [VL.sat,U9,UV,GJ,UB,UG];all_goals (simp+contextual [bt,insB,Bo.bt,Bo.insB,Bool.and_assoc]);all_goals omega
theorem RN:VO VN 92 BE:=by
 refine ⟨(UI Tryz.func92),?_⟩;intro avs ns res h I;unfold BE at h;split at h;cases h;exact wN _ _ _;cases h
def BF:UX
 |[.agg [.x (.int .i64 a),.x (.int .i64 b)],.x (.int .i64 U),.x (.int .i64 O)]=>some ([],bl (insB U a b O))
 |_=>none
theorem x9(a b U O:Int):VW VN 98 [.agg [i a,i b],i U,i O] (bl (insB U a b O)):=by
 refine GV Tryz.func98 (t:=branch (decide (U<=a)) (branch (decide (a<=b)) (leaf (RV.x (.bool (decide (b<=O))))) (leaf (RV.x (KU)))) (leaf (RV.x (KU)))) VT ?_;simp only [VL.sat,U9,UV,GJ,UB,UG];all_goals (simp+contextual [bt,insB,Bo.bt,Bo.insB,Bool.and_assoc]);all_goals omega
theorem PV:VO VN 98 BF:=by
 refine ⟨(UI Tryz.func98),?_⟩;intro avs ns res h I;unfold BF at h;split at h;cases h;exact x9 _ _ _ _;cases h
def sL:UX
 |[.x (.int .i64 n),.x (.int .i64 d)]=>some ([1<=d/\d<=100000,0<=n/\n<=1000000000000],i (dnI n d))
 |_=>none
theorem Xm7(n d:Int)(VR:1<=d/\d<=100000)(UD:0<=n/\n<=1000000000000):VW VN 76 [i n,i d] (i (dnI n d)):=by
 refine GV Tryz.func76 (t:=need [d≠0,VK (Int.tdiv n d)] (leaf (RV.x (.int .i64 (Int.tdiv n d))))) VT ?_;have h:=gK UD.1 VR.1;unfold dnI at h ⊢;exact VB
theorem aE:VO VN 76 sL:=by
 refine ⟨(UI Tryz.func76),?_⟩;intro avs ns res h I;unfold sL at h;split at h;cases h;exact Xm7 _ _ (I _ VS) (I _ VS);cases h
def Zs8:UX
 |[.x (.int .i64 n),.x (.int .i64 d)]=>some ([1<=d/\d<=100000,0<=n/\n<=1000000000000],i (upI n d))
 |_=>none
theorem Jb9(n d:Int)(VR:1<=d/\d<=100000)(UD:0<=n/\n<=1000000000000):VW VN 77 [i n,i d] (i (upI n d)):=by
 refine GV Tryz.func77 (t:=need [VK (n+d)] (need [VK (n+d-1)] (need [d≠0,VK (Int.tdiv (n+d-1) d)] (leaf (RV.x (.int .i64 (Int.tdiv (n+d-1) d))))))) VT ?_;have h:=SI UD.1 VR.1;unfold upI at h ⊢;exact VB
theorem Qz3:VO VN 77 Zs8:=by
 refine ⟨(UI Tryz.func77),?_⟩;intro avs ns res h I;unfold Zs8 at h;split at h;cases h;exact Jb9 _ _ (I _ VS) (I _ VS);cases h
theorem Qd4{a Z:Int}(ha:0<=a/\a<=100)(hd:0<=Z/\Z<=100000):0<=a*Z/\a*Z<=10000000:=by
 have h1:=Bz ha.1 hd.1;have h2:=Bo.mul_bd (x:=a) (y:=Z) (X:=100) (Y:=100000) VI VI;omega
def Qf6:UX
 |[.agg [.x (.int .i64 a),.x (.int .i64 b)],.x (.int .i64 Z)]=>some ([0<=a/\a<=100,0<=b/\b<=100,0<=Z/\Z<=100000],.agg [i (dnI (a*Z) 100),i (upI (b*Z) 100)])
 |_=>none
theorem Wb8(a b Z:Int)(VR:0<=a/\a<=100)(UD:0<=b/\b<=100)(HF:0<=Z/\Z<=100000):VW VN 151 [.agg [i a,i b],i Z] (.agg [i (dnI (a*Z) 100),i (upI (b*Z) 100)]):=by
 refine U0 (L:=[]) (Ae aE (Ae Qz3 Aa)) VX Tryz.func151 (US Tryz.f151) U1 (t:=need [VK (a*Z)] (need [(1:Int)<=100/\(100:Int)<=100000,(0:Int)<=a*Z/\a*Z<=1000000000000] (need [VK (b*Z)] (need [(1:Int)<=100/\(100:Int)<=100000,(0:Int)<=b*Z/\b*Z<=1000000000000] (leaf (RV.agg [RV.x (.int .i64 (dnI (a*Z) (100:Int))),RV.x (.int .i64 (upI (b*Z) (100:Int)))])))))) VT ?_;have h1:=Qd4 VR HF;have h2:=Qd4 UD HF;exact VB
theorem cF:VO VN 151 Qf6:=by
 refine ⟨(UI Tryz.func151),?_⟩;intro avs ns res h I;unfold Qf6 at h;split at h;cases h;exact Wb8 _ _ _ (I _ VS) (I _ VS) (I _ VS);cases h
section
variable (f:Cg)(k:Nat)(Z:Int)
def onL:Int:=f (4+2*k)-upI (f 3*Z) 100
def onH:Int:=f (5+2*k)-dnI (f 2*Z) 100
end
def teM(c:Int)(k:Nat):Int:=dnI (1000*k) c
def drB(f:Cg):Prop:=(0<=f 2/\f 2<=100)/\(0<=f 3/\f 3<=100)
def bdB(f:Cg):Prop:= ∀j,j<22-> -100000000000<=f (4+j)/\f (4+j)<=100000000000
theorem Wb9{f:Cg}{Z:Int}(h:drB f)(hd:0<=Z/\Z<=100000):(0<=upI (f 3*Z) 100/\upI (f 3*Z) 100<=10000000)/\0<=dnI (f 2*Z) 100/\dnI (f 2*Z) 100<=10000000:=by
 have h1:=Qd4 h.1 hd;have h2:=Qd4 h.2 hd;have h3:=gK h1.1 (show (1:Int)<=100 by omega)
 have h4:=SI h2.1 (show (1:Int)<=100 by omega)
 omega
theorem oI(c T U O:Int)(A B:AV)(f:Cg)(k:Nat)(Z:Int)(VR:drB f)(UD:bdB f)(HF:k<=10)(DM:0<=Z/\Z<=100000):VW VN 114 [.roI [i c,i T,i U,i O,A,B] 26 f 0,i k,i Z] (i (onL f k Z)):=by
 refine U0 (L:=[]) (Ae cF Aa) VX Tryz.func114 (US Tryz.f114) U1 (t:=need [UE k 11] (need [k*2+10+0-1-1-1-1-1-1<26] (need [2+2<=26] (need [(0:Int)<=f (2+nat_lit 0)/\f (2+nat_lit 0)<=100,(0:Int)<=f (2+nat_lit 1)/\f (2+nat_lit 1)<=100,(0:Int)<=Z/\Z<=100000] (need [VK (f (k*2+10+0-1-1-1-1-1-1)-upI (f (2+nat_lit 1)*Z) (100:Int))] (leaf (RV.x (.int .i64 (f (k*2+10+0-1-1-1-1-1-1)-upI (f (2+nat_lit 1)*Z) (100:Int)))))))))) VT ?_;have h0:=Wb9 VR DM;have h1:=UD (2*k) VI;have h2:=UD (2*k+1) VI;rw [show 4+(2*k+1)=5+2*k by omega] at h2
 have d1:=VR.1;have d2:=VR.2
 have hi6:VK (f (4+2*k)-upI (f 3*Z) 100):=by
  simp only [VK];omega
 simp only [VL.sat,U9,UV,GJ,UB,UG];rw [show k*2+10+0-1-1-1-1-1-1=4+2*k by omega]
 exact ⟨VI,VI,VI,⟨d1,d2,DM⟩,hi6,rfl⟩
def lZ:UX
 |[.roI [.x (.int .i64 c),.x (.int .i64 T),.x (.int .i64 U),.x (.int .i64 O),A,B] 26 f 0,.x (.int .i64 k),.x (.int .i64 Z)]=>some ([drB f,bdB f,0<=k/\k<=10,0<=Z/\Z<=100000],i (onL f k.toNat Z))
 |_=>none
theorem oG:VO VN 114 lZ:=by
 refine ⟨(UI Tryz.func114),?_⟩;intro avs ns res h I;unfold lZ at h;split at h;rename_i c T U O A B f k Z;cases h;have hk:0<=k/\k<=10:=I _ VS;have e:((k.toNat:Nat):Int)=k:=VI;have h0:=oI c T U O A B f k.toNat Z (I _ VS) (I _ VS) VI (I _ VS);rw [e] at h0;exact h0;cases h
theorem TY(c T U O:Int)(A B:AV)(f:Cg)(k:Nat)(Z:Int)(VR:drB f)(UD:bdB f)(HF:k<=10)(DM:0<=Z/\Z<=100000):VW VN 115 [.roI [i c,i T,i U,i O,A,B] 26 f 0,i k,i Z] (i (onH f k Z)):=by
 refine U0 (L:=[]) (Ae cF Aa) VX Tryz.func115 (US Tryz.f115) U1 (t:=need [UE k 11] (need [k*2+10+1-1-1-1-1-1-1<26] (need [2+2<=26] (need [(0:Int)<=f (2+nat_lit 0)/\f (2+nat_lit 0)<=100,(0:Int)<=f (2+nat_lit 1)/\f (2+nat_lit 1)<=100,(0:Int)<=Z/\Z<=100000] (need [VK (f (k*2+10+1-1-1-1-1-1-1)-dnI (f (2+nat_lit 0)*Z) (100:Int))] (leaf (RV.x (.int .i64 (f (k*2+10+1-1-1-1-1-1-1)-dnI (f (2+nat_lit 0)*Z) (100:Int)))))))))) VT ?_;have h0:=Wb9 VR DM;have h1:=UD (2*k) VI;have h2:=UD (2*k+1) VI;rw [show 4+(2*k+1)=5+2*k by omega] at h2
 have d1:=VR.1;have d2:=VR.2
 have hi6:VK (f (5+2*k)-dnI (f 2*Z) 100):=by
  simp only [VK];omega
 simp only [VL.sat,U9,UV,GJ,UB,UG];rw [show k*2+10+1-1-1-1-1-1-1=5+2*k by omega]
 exact ⟨VI,VI,VI,⟨d1,d2,DM⟩,hi6,rfl⟩
def M4:UX
 |[.roI [.x (.int .i64 c),.x (.int .i64 T),.x (.int .i64 U),.x (.int .i64 O),A,B] 26 f 0,.x (.int .i64 k),.x (.int .i64 Z)]=>some ([drB f,bdB f,0<=k/\k<=10,0<=Z/\Z<=100000],i (onH f k.toNat Z))
 |_=>none
theorem TX:VO VN 115 M4:=by
 refine ⟨(UI Tryz.func115),?_⟩;intro avs ns res h I;unfold M4 at h;split at h;rename_i c T U O A B f k Z;cases h;have hk:0<=k/\k<=10:=I _ VS;have e:((k.toNat:Nat):Int)=k:=VI;have h0:=TY c T U O A B f k.toNat Z (I _ VS) (I _ VS) VI (I _ VS);rw [e] at h0;exact h0;cases h
theorem Jg8(c T U O:Int)(A B:AV)(f:Cg)(k:Nat)(Z:Int)(VR:drB f)(UD:bdB f)(HF:k<=10)(DM:0<=Z/\Z<=100000):VW VN 72 [.roI [i c,i T,i U,i O,A,B] 26 f 0,i k,i Z] (.agg [i (onL f k Z),i (onH f k Z)]):=by
 refine U0 (L:=[]) (Ae oG (Ae TX Aa)) VX Tryz.func72 (US Tryz.f72) U1 (t:=need [drB f,bdB f,(0:Int)<=(k:Int)/\(k:Int)<=10,(0:Int)<=Z/\Z<=100000] (need [drB f,bdB f,(0:Int)<=(k:Int)/\(k:Int)<=10,(0:Int)<=Z/\Z<=100000] (leaf (RV.agg [RV.x (.int .i64 (onL f k Z)),RV.x (.int .i64 (onH f k Z))])))) VT ?_;simp only [VL.sat,U9,UV,GJ,UB,UG,DX];exact ⟨⟨VR,UD,VI,DM⟩,⟨VR,UD,VI,DM⟩⟩
def Ju2:UX
 |[.roI [.x (.int .i64 c),.x (.int .i64 T),.x (.int .i64 U),.x (.int .i64 O),A,B] 26 f 0,.x (.int .i64 k),.x (.int .i64 Z)]=>some ([drB f,bdB f,0<=k/\k<=10,0<=Z/\Z<=100000],.agg [i (onL f k.toNat Z),i (onH f k.toNat Z)])
 |_=>none
theorem We7:VO VN 72 Ju2:=by
 refine ⟨(UI Tryz.func72),?_⟩;intro avs ns res h I;unfold Ju2 at h;split at h;rename_i c T U O A B f k Z;cases h;have hk:0<=k/\k<=10:=I _ VS;have e:((k.toNat:Nat):Int)=k:=VI;have h0:=Jg8 c T U O A B f k.toNat Z (I _ VS) (I _ VS) VI (I _ VS);rw [e] at h0;exact h0;cases h
theorem Xu5{c:Int}{k:Nat}(hc:1<=c/\c<=10)(hk:k<=10):0<=teM c k/\teM c k<=10000:=by
 have:=gK (n:=1000*k) VI hc.1;unfold teM;omega
theorem Qz8(c T U O:Int)(A B:AV)(f:Cg)(k:Nat)(VR:1<=c/\c<=10)(UD:k<=10):VW VN 141 [.roI [i c,i T,i U,i O,A,B] 26 f 0,i k] (i (teM c k)):=by
 refine GV Tryz.func141 (t:=need [VK ((1000:Int)*(k:Int))] (need [c≠0,VK (Int.tdiv ((1000:Int)*(k:Int)) c)] (leaf (RV.x (.int .i64 (Int.tdiv ((1000:Int)*(k:Int)) c)))))) VT ?_;have h:=Xu5 VR UD;unfold teM dnI at h ⊢;exact VB
def Qf4:UX
 |[.roI [.x (.int .i64 c),.x (.int .i64 T),.x (.int .i64 U),.x (.int .i64 O),A,B] 26 f 0,.x (.int .i64 k)]=>some ([1<=c/\c<=10,0<=k/\k<=10],i (teM c k.toNat))
 |_=>none
theorem Qz7:VO VN 141 Qf4:=by
 refine ⟨(UI Tryz.func141),?_⟩;intro avs ns res h I;unfold Qf4 at h;split at h;rename_i c T U O A B f k;cases h;have hk:0<=k/\k<=10:=I _ VS;have e:((k.toNat:Nat):Int)=k:=VI;have h0:=Qz8 c T U O A B f k.toNat (I _ VS) VI;rw [e] at h0;exact h0;cases h
theorem MY(c T U O:Int)(A B:AV)(f:Cg)(k:Nat)(Z:Int)(VR:drB f)(UD:bdB f)(HF:k<=10)(DM:0<=Z/\Z<=100000)(B6:1<=c/\c<=10):VW VN 97 [.roI [i c,i T,i U,i O,A,B] 26 f 0,i k,i Z] (.agg [i (onL f k Z-teM c k),i (onH f k Z-teM c k)]):=by
 refine U0 (L:=[]) (Ae We7 (Ae Qz7 Aa)) VX Tryz.func97 (US Tryz.f97) U1 (t:=need [drB f,bdB f,(0:Int)<=(k:Int)/\(k:Int)<=10,(0:Int)<=Z/\Z<=100000] (need [(1:Int)<=c/\c<=10,(0:Int)<=(k:Int)/\(k:Int)<=10] (need [VK (onL f k Z-teM c k)] (need [(1:Int)<=c/\c<=10,(0:Int)<=(k:Int)/\(k:Int)<=10] (need [VK (onH f k Z-teM c k)] (leaf (RV.agg [RV.x (.int .i64 (onL f k Z-teM c k)),RV.x (.int .i64 (onH f k Z-teM c k))]))))))) VT ?_;have h0:=Wb9 VR DM;have h1:=UD (2*k) VI;have h2:=UD (2*k+1) VI;rw [show 4+(2*k+1)=5+2*k by omega] at h2
 have d1:=VR.1;have d2:=VR.2
 have h5:=Xu5 B6 HF;unfold onL onH;simp only [VL.sat,U9,UV,GJ,UB,VK,UG,DX,onL,onH];refine ⟨⟨VR,UD,VI,DM⟩,⟨B6,VI⟩,VI,⟨B6,VI⟩,VI⟩
def gQ:UX
 |[.roI [.x (.int .i64 c),.x (.int .i64 T),.x (.int .i64 U),.x (.int .i64 O),A,B] 26 f 0,.x (.int .i64 k),.x (.int .i64 Z)]=>some ([drB f,bdB f,0<=k/\k<=10,0<=Z/\Z<=100000,1<=c/\c<=10],.agg [i (onL f k.toNat Z-teM c k.toNat),i (onH f k.toNat Z-teM c k.toNat)])
 |_=>none
theorem MX:VO VN 97 gQ:=by
 refine ⟨(UI Tryz.func97),?_⟩;intro avs ns res h I;unfold gQ at h;split at h;rename_i c T U O A B f k Z;cases h;have hk:0<=k/\k<=10:=I _ VS;have e:((k.toNat:Nat):Int)=k:=VI;have h0:=MY c T U O A B f k.toNat Z (I _ VS) (I _ VS) VI (I _ VS) (I _ VS);rw [e] at h0;exact h0;cases h
def keP(c:Int)(f:Cg)(wi Z x:Int):Bool:=insB (-wi) (onL f x.toNat Z-teM c x.toNat) (onH f x.toNat Z-teM c x.toNat) wi
def mkV(p:Int)(j:Nat):List Value:=[.int .i64 (p+j)]
def Qg1:UX
 |[.x (.int .i64 x),.ro [.roI [.x (.int .i64 c),.x (.int .i64 T),.x (.int .i64 U),.x (.int .i64 O),A,B] 26 f 0],.ro [.x (.int .i64 Z)],.ro [.x (.int .i64 S),.x (.int .i64 W),.x (.int .i64 wi)]]=>some ([drB f,bdB f,1<=c/\c<=10,0<=Z/\Z<=100000,0<=wi/\wi<=1000000,0<=x/\x<=10],bl (keP c f wi Z x))
 |_=>none
section
variable (x:Int)(c T U O:Int)(A B:AV)(f:Cg)(Z S W wi:Int)
theorem Wh5(VR:drB f)(UD:bdB f)(HF:1<=c/\c<=10)(DM:0<=Z/\Z<=100000)(B6:0<=wi/\wi<=1000000)(z6:0<=x/\x<=10):VW VN 96 [i x,.ro [.roI [i c,i T,i U,i O,A,B] 26 f 0],.ro [i Z],.ro [i S,i W,i wi]] (bl (keP c f wi Z x)):=by
 refine U0 (L:=[]) (Ae MX (Ae PV Aa)) VX Tryz.func96 (US Tryz.f96) U1 (t:=need [drB f,bdB f,(0:Int)<=x/\x<=10,(0:Int)<=Z/\Z<=100000,(1:Int)<=c/\c<=10] (need [VK (-wi)] (leaf (RV.x (.bool (insB (-wi) (onL f (Int.toNat x) Z-teM c (Int.toNat x)) (onH f (Int.toNat x) Z-teM c (Int.toNat x)) wi)))))) VT ?_;simp only [VL.sat,U9,UV,GJ,UB,VK,UG,keP];exact ⟨⟨VR,UD,z6,DM,HF⟩,VI⟩
theorem Wh4:VO VN 96 Qg1:=by
 refine ⟨(UI Tryz.func96),?_⟩;intro avs ns res h I;unfold Qg1 at h;split at h;cases h;exact Wh5 _ _ _ _ _ _ _ _ _ _ _ _ (I _ VS) (I _ VS) (I _ VS) (I _ VS) (I _ VS) (I _ VS);cases h
theorem Wx1(VR:drB f)(UD:bdB f)(HF:1<=c/\c<=10)(DM:0<=Z/\Z<=100000)(B6:0<=wi/\wi<=1000000)(z6:0<=x/\x<=10):VW VN 138 [i x,.ro [.fn (.func 96) [] [.ro [.roI [i c,i T,i U,i O,A,B] 26 f 0],.ro [i Z],.ro [i S,i W,i wi]]]] (bl (!(keP c f wi Z x))):=by
 refine U0 (L:=[]) (Ae Wh4 Aa) VX Tryz.func138 (US Tryz.f138) U1 (t:=need [drB f,bdB f,(1:Int)<=c/\c<=10,(0:Int)<=Z/\Z<=100000,(0:Int)<=wi/\wi<=1000000,(0:Int)<=x/\x<=10] (leaf (RV.x (.bool !keP c f wi Z x)))) VT ?_;simp only [VL.sat,U9,UV,GJ,UB,UG];exact ⟨VR,UD,HF,DM,B6,z6⟩
end
def Qh3:UX
 |[.x (.int .i64 x),.ro [.fn (.func 96) [] [.ro [.roI [.x (.int .i64 c),.x (.int .i64 T),.x (.int .i64 U),.x (.int .i64 O),A,B] 26 f 0],.ro [.x (.int .i64 Z)],.ro [.x (.int .i64 S),.x (.int .i64 W),.x (.int .i64 wi)]]]]=>some ([drB f,bdB f,1<=c/\c<=10,0<=Z/\Z<=100000,0<=wi/\wi<=1000000,0<=x/\x<=10],bl (!(keP c f wi Z x)))
 |_=>none
theorem lR:VO VN 138 Qh3:=by
 refine ⟨(UI Tryz.func138),?_⟩;intro avs ns res h I;unfold Qh3 at h;split at h;cases h;exact Wx1 _ _ _ _ _ _ _ _ _ _ _ _ (I _ VS) (I _ VS) (I _ VS) (I _ VS) (I _ VS) (I _ VS);cases h
abbrev WE(c:Int)(T:Int)(U:Int)(O:Int)(A:AV)(B:AV)(f:Cg)(Z:Int)(S:Int)(W:Int)(wi:Int):AV:=AV.fn (Fn.func 138) [] [AV.ro [AV.fn (Fn.func 96) [] [AV.ro [roI [iI c,iI T,iI U,iI O,A,B] 26 (λa=>f a) 0],AV.ro [iI Z],AV.ro [iI S,iI W,iI wi]]]]
section
variable (n:Nat)(g:Cg)
abbrev K7:AV:=lst 1 n λk=>[iI (g k)]
def Xd0(c T U O:Int)(A B:AV)(f:Cg)(Z S W wi:Int):St:={σ:=[K7 n g,WE c T U O A B f Z S W wi]++HH 5 [iI (n:Int)]++HH 11 [],m:=[],nx:=4}
noncomputable def Jv2:Code:=U7 (VQ (U6 Tryz.f172) 0)
def Wh8(c T U O:Int)(A B:AV)(f:Cg)(Z S W wi:Int)(k:Nat):St:=(upM [(8,i k)] (Xd0 n g c T U O A B f Z S W wi))
def d8(c T U O:Int)(A B:AV)(f:Cg)(Z S W wi:Int)(k:Nat):G6->Option St
 | .ret=>some (upM [(4,i (GW ((λk=> !(keP c f wi Z (g k)))) n))] (Xd0 n g c T U O A B f Z S W wi))
 | .exit 0=>some (upM [] (Xd0 n g c T U O A B f Z S W wi))
 |_=>none
def Jp7(c T U O:Int)(A B:AV)(f:Cg)(Z S W wi:Int):CT:= .branch (decide (GW ((λk=> !(keP c f wi Z (g k)))) n<n)) (.leaf (.ret,(d8 n g c T U O A B f Z S W wi 0 .ret).getD (Xd0 n g c T U O A B f Z S W wi))) (.leaf (.exit 0,(d8 n g c T U O A B f Z S W wi 0 (.exit 0)).getD (Xd0 n g c T U O A B f Z S W wi)))
def Xx8(c T U O:Int)(A B:AV)(f:Cg)(Z S W wi:Int):UF:=(HB (Wh8 n g c T U O A B f Z S W wi (0)) (Jp7 n g c T U O A B f Z S W wi))
theorem Zy8(c T U O:Int)(A B:AV)(f:Cg)(Z S W wi:Int)(VR:n<=100000)(UD:drB f)(HF:bdB f)(DM:1<=c/\c<=10)(B6:0<=Z/\Z<=100000)(z6:0<=wi/\wi<=1000000)(nV: ∀j,j<n->0<=g j/\g j<=10):G0 VN (.loop Jv2) (Xx8 n g c T U O A B f Z S W wi):=by
 refine HG (L:=[]) (Ae lR Aa) VX U1 (X:=Nat) (Wh8 n g c T U O A B f Z S W wi) (λk=>k<=n/\ ∀j,j<k->(λk=> !(keP c f wi Z (g k))) j=false) (λk=>n-k) (d8 n g c T U O A B f Z S W wi) (x0:=0) ⟨VI,λj hj=>VI⟩ ?_ ?_ ?_;rintro k;kernel_rfl;rintro k y E h;unfold d8 at h;split at h;cases h;kernel_rfl;cases h;kernel_rfl;cases h
 ·rintro Q hQ k hx;refine ⟨(k+1),?_⟩;(with_reducible refine D2 (t:=let z0:=(VY (WE c T U O A B f Z S W wi));(branch (decide ((k:Int)<(n:Int))) (need [UE k n] (need [drB λa=>f a,bdB λa=>f a,(1:Int)<=c/\c<=10,(0:Int)<=Z/\Z<=100000,(0:Int)<=wi/\wi<=1000000,(0:Int)<=g k/\g k<=10] (branch (!keP c (λa=>f a) wi Z (g k)) (need [VY (K7 n g),z0,(k:Int)=(↑(GW (λk=> !keP c f wi Z (g k)) n):Int),VY (n:Int)] (leaf G6.ret)) (need [VK ((k:Int)+1)] (need [VY (K7 n g),z0,VY (n:Int),(k:Int)+1=(↑(k+1):Int)] (leaf G6.normal)))))) (need [VY (K7 n g),z0,VY (n:Int)] (leaf (G6.exit 0))))) VT ?_)
  simp only [Jp7,d8,VL.sat,GR,H4] at hQ;simp only [VL.sat,U9,UG,H4,VK,d8,DX];refine ⟨λh=>⟨VI,⟨UD,HF,DM,B6,z6,nV k VI⟩,?_⟩,λh=>?_⟩
  rotate_left
  have hf:GW ((λk=> !(keP c f wi Z (g k)))) n=n:=BY (λj hj=>hx.2 j VI);intro E hE;cases hE;exact hQ.2 VI;refine ⟨λhb=>?_,λhb=>?_⟩;have hf:GW ((λk=> !(keP c f wi Z (g k)))) n=k:=zJ VI hb hx.2;refine ⟨VI,λE hE=>?_⟩;cases hE;exact hQ.1 VI;refine ⟨VI,VI,⟨VI,λj hj=>?_⟩,VI⟩;rcases (show j<k\/j=k by omega) with h1|rfl
  exact hx.2 j h1;exact hb
theorem Zd4(c T U O:Int)(A B:AV)(f:Cg)(Z S W wi:Int)(VR:n<=100000)(UD:drB f)(HF:bdB f)(DM:1<=c/\c<=10)(B6:0<=Z/\Z<=100000)(z6:0<=wi/\wi<=1000000)(nV: ∀j,j<n->0<=g j/\g j<=10):VW VN 172 [.lst 1 n (λk=>[i (g k)]),.fn (.func 138) [] [.ro [.fn (.func 96) [] [.ro [.roI [i c,i T,i U,i O,A,B] 26 f 0],.ro [i Z],.ro [i S,i W,i wi]]]]] (i (if GW ((λk=> !(keP c f wi Z (g k)))) n<n then (GW ((λk=> !(keP c f wi Z (g k)))) n:Int) else -1)):=by
 refine U0 (L:=[Xx8 n g c T U O A B f Z S W wi]) (Ae lR Aa) VX Tryz.func172 (US Tryz.f172) (UY (lpE (b:= .loop Jv2) VT<|Zy8 n g c T U O A B f Z S W wi VR UD HF DM B6 z6 nV)) (t:=need [VY (K7 n g),VY (WE c T U O A B f Z S W wi),VY (n:Int),(0:Int)=((0:Nat):Int)] (branch (decide (GW (λk=> !keP c f wi Z (g k)) n<n)) (leaf (RV.x (.int .i64 (↑(GW (λk=> !keP c f wi Z (g k)) n):Int)))) (leaf (RV.x (.int .i64 (-1:Int)))))) VT ?_
 exact VA
end
def Xx0:UX
 |[.lst 1 n g,.fn (.func 138) [] [.ro [.fn (.func 96) [] [.ro [.roI [.x (.int .i64 c),.x (.int .i64 T),.x (.int .i64 U),.x (.int .i64 O),A,B] 26 f 0],.ro [.x (.int .i64 Z)],.ro [.x (.int .i64 S),.x (.int .i64 W),.x (.int .i64 wi)]]]]]=>some ([UH 1 n g,n<=100000,drB f,bdB f,1<=c/\c<=10,0<=Z/\Z<=100000,0<=wi/\wi<=1000000,∀j,j<n->0<=col 0 g j/\col 0 g j<=10],i (if GW ((λk=> !(keP c f wi Z (col 0 g k)))) n<n then (GW ((λk=> !(keP c f wi Z (col 0 g k)))) n:Int) else -1))
 |_=>none
theorem Zd3:VO VN 172 Xx0:=by
 refine ⟨(UI Tryz.func172),?_⟩;intro avs ns res h I;unfold Xx0 at h;split at h;cases h;have hr:UH 1 _ _:=I _ (GB);exact (Zd4 _ (col 0 _) _ _ _ _ _ _ _ _ _ _ _ (I _ VS) (I _ VS) (I _ VS) (I _ VS) (I _ VS) (I _ VS) (I _ VS)).same (.cons (.lst 1 _ _ _ hr) (.cons (.refl _) .nil));cases h
theorem Zr8(n:Nat)(g:Cg)(c T U O:Int)(A B:AV)(f:Cg)(Z S W wi:Int)(VR:n<=100000)(UD:drB f)(HF:bdB f)(DM:1<=c/\c<=10)(B6:0<=Z/\Z<=100000)(z6:0<=wi/\wi<=1000000)(nV: ∀j,j<n->0<=g j/\g j<=10):VW VN 137 [.lst 1 n (λk=>[i (g k)]),.fn (.func 138) [] [.ro [.fn (.func 96) [] [.ro [.roI [i c,i T,i U,i O,A,B] 26 f 0],.ro [i Z],.ro [i S,i W,i wi]]]]] (bl (!D4 (λk=>keP c f wi Z (g k)) n)):=by
 refine U0 (L:=[]) (Ae Zd3 Aa) VX Tryz.func137 (US Tryz.f137) U1 (t:=need [UH 1 n λk=>[i (g k)],n<=100000,drB f,bdB f,(1:Int)<=c/\c<=10,(0:Int)<=Z/\Z<=100000,(0:Int)<=wi/\wi<=1000000,∀(j:Nat),j<n->(0:Int)<=g j/\g j<=10] (leaf (RV.x (.bool (decide ((if GW (λk=> !keP c f wi Z (g k)) n<n then (↑(GW (λk=> !keP c f wi Z (g k)) n):Int) else (-1:Int))>=(0:Int))))))) VT ?_
 simp only [VL.sat,U9,UV,UB,UG];refine ⟨⟨λ_ _=>rfl,VR,UD,HF,DM,B6,z6,nV⟩,?_⟩;rw [kE];have e:(λk=> !(λk=>keP c f wi Z (g k)) k)=(λk=> !(keP c f wi Z (g k))):=rfl;rw [e];show decide ((if GW (λk=> !(keP c f wi Z (g k))) n<n then (GW (λk=> !(keP c f wi Z (g k))) n:Int) else -1)>=0)=_
 have:=F2 ((λk=> !(keP c f wi Z (g k)))) n;split<;>simp<;>omega
def Xx5:UX
 |[.lst 1 n g,.fn (.func 138) [] [.ro [.fn (.func 96) [] [.ro [.roI [.x (.int .i64 c),.x (.int .i64 T),.x (.int .i64 U),.x (.int .i64 O),A,B] 26 f 0],.ro [.x (.int .i64 Z)],.ro [.x (.int .i64 S),.x (.int .i64 W),.x (.int .i64 wi)]]]]]=>some ([UH 1 n g,n<=100000,drB f,bdB f,1<=c/\c<=10,0<=Z/\Z<=100000,0<=wi/\wi<=1000000,∀j,j<n->0<=col 0 g j/\col 0 g j<=10],bl (!D4 (λk=>keP c f wi Z (col 0 g k)) n))
 |_=>none
theorem Zr7:VO VN 137 Xx5:=by
 refine ⟨(UI Tryz.func137),?_⟩;intro avs ns res h I;unfold Xx5 at h;split at h;cases h;have hr:UH 1 _ _:=I _ (GB);exact (Zr8 _ (col 0 _) _ _ _ _ _ _ _ _ _ _ _ (I _ VS) (I _ VS) (I _ VS) (I _ VS) (I _ VS) (I _ VS) (I _ VS)).same (.cons (.lst 1 _ _ _ hr) (.cons (.refl _) .nil));cases h
theorem Xp3(n:Nat)(g:Cg)(c T U O:Int)(A B:AV)(f:Cg)(Z S W wi:Int)(VR:n<=100000)(UD:drB f)(HF:bdB f)(DM:1<=c/\c<=10)(B6:0<=Z/\Z<=100000)(z6:0<=wi/\wi<=1000000)(nV: ∀j,j<n->0<=g j/\g j<=10):VW VN 93 [.lst 1 n (λk=>[i (g k)]),.fn (.func 96) [] [.ro [.roI [i c,i T,i U,i O,A,B] 26 f 0],.ro [i Z],.ro [i S,i W,i wi]]] (bl (D4 (λk=>keP c f wi Z (g k)) n)):=by
 refine U0 (L:=[]) (Ae Zr7 Aa) VX Tryz.func93 (US Tryz.f93) U1 (t:=need [UH 1 n λk=>[i (g k)],n<=100000,drB f,bdB f,(1:Int)<=c/\c<=10,(0:Int)<=Z/\Z<=100000,(0:Int)<=wi/\wi<=1000000,∀(j:Nat),j<n->(0:Int)<=g j/\g j<=10] (leaf (RV.x (.bool !!D4 (λk=>keP c f wi Z (g k)) n)))) VT ?_;simp only [VL.sat,U9,UV,UB,UG];refine ⟨⟨λ_ _=>rfl,VR,UD,HF,DM,B6,z6,nV⟩,?_⟩;show (!!D4 (λk=>keP c f wi Z (g k)) n)=_
 simp
def Wz4:UX
 |[.lst 1 n g,.fn (.func 96) [] [.ro [.roI [.x (.int .i64 c),.x (.int .i64 T),.x (.int .i64 U),.x (.int .i64 O),A,B] 26 f 0],.ro [.x (.int .i64 Z)],.ro [.x (.int .i64 S),.x (.int .i64 W),.x (.int .i64 wi)]]]=>some ([UH 1 n g,n<=100000,drB f,bdB f,1<=c/\c<=10,0<=Z/\Z<=100000,0<=wi/\wi<=1000000,∀j,j<n->0<=col 0 g j/\col 0 g j<=10],bl (D4 (λk=>keP c f wi Z (col 0 g k)) n))
 |_=>none
theorem Xp2:VO VN 93 Wz4:=by
 refine ⟨(UI Tryz.func93),?_⟩;intro avs ns res h I;unfold Wz4 at h;split at h;cases h;have hr:UH 1 _ _:=I _ (GB);exact (Xp3 _ (col 0 _) _ _ _ _ _ _ _ _ _ _ _ (I _ VS) (I _ VS) (I _ VS) (I _ VS) (I _ VS) (I _ VS) (I _ VS)).same (.cons (.lst 1 _ _ _ hr) (.cons (.refl _) .nil));cases h
def aT:UX
 |[.x (.int .i64 p),.x (.int .i64 q)]=>some ([],.fn (.func 140) [] [.ro [i p],.ro [i q]])
 |_=>none
abbrev XW(p:Int)(q:Int):AV:=AV.fn (Fn.func 140) [] [AV.ro [iI p],AV.ro [iI q]]
abbrev JW:Ext:={}
theorem Wg0(p q:Int):FP VN 95 [i p,i q] (.fn (.func 140) [] [.ro [i p],.ro [i q]]):=by
 refine D1 (L:=[]) Aa Ad VX Tryz.func95 (US Tryz.f95) G7 (t:=leaf (XW p q)) VT ?_;exact rfl
theorem dE:PH VN 95 aT:=by
 refine ⟨(UI Tryz.func95),?_⟩;intro avs ns res h I;unfold aT at h;split at h;cases h;exact Wg0 _ _;cases h
section
variable (l:Nat)
abbrev YF:AV:=AV.fn (Fn.yield l) [] []
def Xd8(p q:Int):St:={σ:=[YF l,AV.ro [iI p],AV.ro [iI q]]++HH 12 [],m:=[],nx:=2,gh:=some 0}
noncomputable def Zy1:Code:=U7 (VQ (U6 Tryz.f140) 0)
def TV(p q:Int)(j:Nat):St:={σ:=H5 [(4,i (p+j))] (Xd8 l p q).σ,m:=[],nx:=0,gh:=some (j) }
def jK(p q:Int)(j:Nat):G6->Option St
 | .exit 0=>some {σ:=H5 [] (Xd8 l p q).σ,m:=[],nx:=0,gh:=some ((q-p+1).toNat) }
 | .ret=>some {σ:=H5 [] (Xd8 l p q).σ,m:=[],nx:=0,gh:=none}
 |_=>none
def Jr7(p q:Int):CT:= .may True (.leaf (.exit 0,(jK l p q 0 (.exit 0)).getD (Xd8 l p q))) (.leaf (.ret,(jK l p q 0 .ret).getD (Xd8 l p q)))
def Za0(p q:Int):UF:=GI [] (HB (TV l p q (0)) (Jr7 l p q))
theorem Jh4(p q:Int)(VR: -1000000<=p/\p<=1000000)(UD: -1000000<=q/\q<=1000000){cx:Cx}(hX:VV VN {Y:=some (l,((q-p+1).toNat),(mkV p)) } cx):HK VN none cx (.loop Zy1) (Za0 l p q):=by
 refine FL [] (L:=[]) Aa hX VX G7 (V:=Nat) (TV l p q) (λj=>j<=((q-p+1).toNat)) (λj=>((q-p+1).toNat)-j) (jK l p q) (x0:=0) VS ?_ ?_ ?_;rintro j;kernel_rfl;rintro j y E h;unfold jK at h;split at h;cases h;kernel_rfl;cases h;kernel_rfl;cases h
 ·rintro Q hQ j hx;refine ⟨(j+1),?_⟩;have e:HW VN [] {Y:=some (l,((q-p+1).toNat),(mkV p)) } [] [] Zy1 (TV l p q j) (TV l p q ((j+1))) (jK l p q j)=(branch (decide (p+(j:Int)<=q)) (need [l=l,j<(q-p+1).toNat,VY ([Value.int IntKind.i64 (p+(j:Int))])] (VL.may True (need [VK (p+(j:Int)+1)] (need [YF l=YF l,VY (AV.ro [iI p]),VY (AV.ro [iI q]),p+(j:Int)+1=p+(↑(j+1):Int),j+1=j+1] (leaf G6.normal))) (need [YF l=YF l,VY (AV.ro [iI p]),VY (AV.ro [iI q])] (leaf G6.ret)))) (need [YF l=YF l,VY (AV.ro [iI p]),VY (AV.ro [iI q]),j=(q-p+1).toNat] (leaf (G6.exit 0)))):=VT;rw [e];simp only [Jr7,jK,VL.sat,GR] at hQ;have hQ1: ∀E,jK l p q j (.exit 0)=some E->Q (.exit 0,E):=λE hE=>by cases hE;exact hQ.1 trivial
  have hQ2: ∀E,jK l p q j .ret=some E->Q (.ret,E):=λE hE=>by cases hE;exact hQ.2
  simp only [VL.sat,U9,UG,H4,VK,DX];clear e hQ;all_goals exact V4
end
theorem EI(p q:Int)(VR: -1000000<=p/\p<=1000000)(UD: -1000000<=q/\q<=1000000):BD Tryz.prog 140 [.ro [i p],.ro [i q]] (((q-p+1).toNat)) (mkV p):=by
 refine BN (L:=λl=>[Za0 l p q]) Aa VX (UI Tryz.func140) Tryz.func140 (US Tryz.f140) VT (λl cx hX=>UY (lpE (b:= .loop Zy1) VT<|Jh4 l p q VR UD hX)) (t:=λl=>(need [VY (AV.fn (Fn.yield l) [] []),VY (AV.ro [iI p]),VY (AV.ro [iI q]),p=p+((0:Nat):Int),0=0] (VL.may True (need [VY (q-p+1).toNat] (leaf PUnit.unit)) (leaf PUnit.unit)))) (λl=>VT) ?_
 intro l;simp only [VL.sat,U9,UV,GJ,UB,VK,UG,H4,FE];all_goals exact V4
theorem cat1{p:Int}{k j:Nat}(h:j<k+1):GD k (λj=>[i (p+j)]) (U3 1 [i (p+k)]) j=[i (p+j)]:=by
 show H3 (decide (j<k)) [i (p+j)] (U3 1 [i (p+k)] (j-k))=_;rw [show j-k=0 by omega]
 by_cases hj:j<k;rw [decide_eq_true hj];rfl;obtain rfl:j=k:=VI;rw [decide_eq_false hj];rfl
abbrev ZA:AV:=AV.x (.slice none 0 0)
section
variable (p q:Int)
def Jv1:St:={σ:=[ZA,XW p q,ptr 0 0,top,ZA,top,XW p q]++HH 6 [],m:=[(900,GN.row 3 1 0 λx=>[]),(0,GN.cells 22 [AV.row 900])],nx:=901}
def rfF:Option Code->Operand
 |some (.rangeFunc f _ _ _)=>f
 |_=> .const .nilFunc
def jF:Option Code->Array Nat
 |some (.rangeFunc _ ps _ _)=>ps
 |_=>#[]
def SS:Option Code->Code
 |some (.rangeFunc _ _ a _)=>a
 |_=> .skip
def SR:Option Code->Code
 |some (.rangeFunc _ _ _ b)=>b
 |_=> .skip
noncomputable def Jz5:Code:=SS (VQ (U6 Tryz.f139) 0)
noncomputable def Jy9:Code:=SR (VQ (U6 Tryz.f139) 0)
def oV(k:Nat):St:={σ:=H5 [] (Jv1 p q).σ,m:=[(900,.row 3 1 k (λj=>[i (p+j)])),(0,.cells 22 [.row 900])],nx:=901}
def o1(k:Nat):G6->Option St
 | .normal=>some {σ:=H5 [] (Jv1 p q).σ,m:=[(900,.row 3 1 ((q-p+1).toNat) (λj=>[i (p+j)])),(0,.cells 22 [.row 900])],nx:=901}
 |_=>none
def T_as:CT:= .leaf (.normal,oV p q ((q-p+1).toNat))
def Zc7:UF:=GI [(.cell 0 0,900,3,1)] (HB (oV p q (0)) (T_as p q))
abbrev KH:Prop:=ptr 0 0=ptr 0 0
theorem Jp3(VR: -1000000<=p/\p<=1000000)(UD: -1000000<=q/\q<=1000000):HP VN (.rangeFunc (rfF (VQ (U6 Tryz.f139) 0)) (jF (VQ (U6 Tryz.f139) 0)) Jz5 Jy9) (Zc7 p q):=by
 refine P9 [(.cell 0 0,900,3,1)] (L:=[]) Aa Ad VX U1 (V:=Nat) (oV p q) (λk=>k<=((q-p+1).toNat)) (λk=>k) (o1 p q) (x0:=0) VS rfl ?_ ?_ ?_ ?_ (g:=140) (caps:=[.ro [i p],.ro [i q]]) VT VT (EI p q VR UD) (λ_=>rfl) ?_;rintro k;kernel_rfl;rintro k y E h;unfold o1 at h;split at h;cases h;kernel_rfl;cases h;rintro k;rfl;rintro k y E h;unfold o1 at h;split at h;cases h;rfl;cases h;rintro Q hQ k hx;refine ⟨λhlt=>⟨(k+1),rfl,?_⟩,λPL=>?_⟩;(with_reducible refine D2 (t:=need [(k+1)*8<=140737488355328,RH 1 (U3 1 [iI (p+(k:Int))])] (need [ZA=ZA,VY (XW p q),KH,ZA=ZA,VY (XW p q),k+1=k+1,GU (k+1) (GD k (λj=>[iI (p+(j:Int))]) (U3 1 [iI (p+(k:Int))])) (λi=>[iI (p+(i:Int))]),VY (AV.row 900)] (leaf G6.normal))) VT ?_)
 simp only [VL.sat,U9,UG]
 refine ⟨⟨VI,λj hj a ha=>FG ha (by simp [AV.one,Value.oneCell'])⟩,λj hj=>?_,VI⟩
 exact cat1 hj;subst PL;exact hQ
end
def mkF(p:Int)(j:Nat):List AV:=[i (p+j)]
theorem Qt7(p q:Int)(VR: -1000000<=p/\p<=1000000)(UD: -1000000<=q/\q<=1000000):VW VN 139 [.x (.slice none 0 0),.fn (.func 140) [] [.ro [i p],.ro [i q]]] (.lst 1 ((q-p+1).toNat) (mkF p)):=by
 refine G8 (L:=[Zc7 p q]) Aa Ad VX Tryz.func139 (US Tryz.f139) (UY (lpE (b:= .rangeFunc (rfF (VQ (U6 Tryz.f139) 0)) (jF (VQ (U6 Tryz.f139) 0)) Jz5 Jy9) VT<|Jp3 p q VR UD)) (t:=need [ZA=ZA,VY (XW p q),KH,ZA=ZA,VY (XW p q),0=0,∀(i:Nat),i<0->[]=[iI (p+(i:Int))],VY (AV.row 900)] (leaf (RV.lst 1 (q-p+1).toNat λj=>[iI (p+(j:Int))]))) VT ?_
 simp only [VL.sat,U9,UV,GJ,UB,UG]
 (with_reducible repeat' first|apply Al|intro _)
 all_goals first|exact Ak|omega|with_reducible rfl|assumption|rfl|(rename_i h;exact absurd h (Aq _))|(rename_i hm;cases PM.1 hm;exact Ak)|skip
def mE:UX
 |[.x (.slice none 0 0),.fn (.func 140) [] [.ro [.x (.int .i64 p)],.ro [.x (.int .i64 q)]]]=>some ([-1000000<=p/\p<=1000000,-1000000<=q/\q<=1000000],.lst 1 ((q-p+1).toNat) (mkF p))
 |_=>none
theorem Qt6:VO VN 139 mE:=by
 refine ⟨(UI Tryz.func139),?_⟩;intro avs ns res h I;unfold mE at h;split at h;cases h;exact Qt7 _ _ (I _ VS) (I _ VS);cases h
def S6:UX
 |[.fn (.func 140) [] [.ro [.x (.int .i64 p)],.ro [.x (.int .i64 q)]]]=>some ([-1000000<=p/\p<=1000000,-1000000<=q/\q<=1000000],.lst 1 ((q-p+1).toNat) (mkF p))
 |_=>none
theorem pR(p q:Int)(VR: -1000000<=p/\p<=1000000)(UD: -1000000<=q/\q<=1000000):FP VN 94 [.fn (.func 140) [] [.ro [i p],.ro [i q]]] (.lst 1 ((q-p+1).toNat) (mkF p)):=by
 refine D1 (L:=[]) (Ae Qt6 Aa) Ad VX Tryz.func94 (US Tryz.f94) G7 (t:=need [(-1000000:Int)<=p/\p<=1000000,(-1000000:Int)<=q/\q<=1000000] (leaf (lst 1 (q-p+1).toNat λj=>[iI (p+(j:Int))]))) VT ?_;simp only [VL.sat,U9,UG];exact ⟨⟨VR,UD⟩,rfl,rfl,λ_ _=>rfl⟩
theorem lD:PH VN 94 S6:=by
 refine ⟨(UI Tryz.func94),?_⟩;intro avs ns res h I;unfold S6 at h;split at h;cases h;exact pR _ _ (I _ VS) (I _ VS);cases h
def keB(c:Int)(f:Cg)(S W wi Z:Int):Bool:=D4 (λk=>keP c f wi Z (S+k)) (W-S+1).toNat
def Wy6:UX
 |[.roI [.x (.int .i64 c),.x (.int .i64 T),.x (.int .i64 U),.x (.int .i64 O),A,B] 26 f 0,.agg [.x (.int .i64 S),.x (.int .i64 W),.x (.int .i64 wi)],.x (.int .i64 Z)]=>some ([drB f,bdB f,1<=c/\c<=10,0<=S/\S<=W/\W<=10,0<=wi/\wi<=1000000,0<=Z/\Z<=100000],bl (keB c f S W wi Z))
 |_=>none
theorem Xj0(c T U O:Int)(A B:AV)(f:Cg)(S W wi Z:Int)(VR:drB f)(UD:bdB f)(HF:1<=c/\c<=10)(DM:0<=S/\S<=W/\W<=10)(B6:0<=wi/\wi<=1000000)(z6:0<=Z/\Z<=100000):VW VN 59 [.roI [i c,i T,i U,i O,A,B] 26 f 0,.agg [i S,i W,i wi],i Z] (bl (keB c f S W wi Z)):=by
 refine G8 (L:=[]) (Ae Xp2 Aa) (Ai (Af dE (Af lD Ab)) Ac) VX Tryz.func59 (US Tryz.f59) G7 (t:=need [(-1000000:Int)<=S/\S<=1000000,(-1000000:Int)<=W/\W<=1000000] (need [UH 1 (W-S+1).toNat (mkF S),(W-S+1).toNat<=100000,drB f,bdB f,(1:Int)<=c/\c<=10,(0:Int)<=Z/\Z<=100000,(0:Int)<=wi/\wi<=1000000,∀(j:Nat),j<(W-S+1).toNat->(0:Int)<=col 0 (mkF S) j/\col 0 (mkF S) j<=10] (leaf (RV.x (.bool (D4 (λk=>keP c f wi Z (col 0 (mkF S) k)) (W-S+1).toNat)))))) VT ?_;simp only [VL.sat,U9,UV,GJ,UB,UG,keB];refine ⟨⟨VI,VI⟩,⟨λk hk=>rfl,VI,VR,UD,HF,z6,B6,λj hj=>?_⟩,rfl⟩;show 0<=S+(j:Int)/\S+(j:Int)<=10;omega
theorem Xi9:VO VN 59 Wy6:=by
 refine ⟨(UI Tryz.func59),?_⟩;intro avs ns res h I;unfold Wy6 at h;split at h;cases h;exact Xj0 _ _ _ _ _ _ _ _ _ _ _ (I _ VS) (I _ VS) (I _ VS) (I _ VS) (I _ VS) (I _ VS);cases h
end Go.Proofs.YtakpdkmhclhlnaaGreatDoor
namespace Go.Proofs.YtakpdkmhclhlnaaGreatDoor.Bo
open Go Go.Sx Go.RowKit
open Go.Sx.VL (need branch leaf)
open Go.Sx.AV (lst ptr agg roI tup top)
def Tr(c:Nat)(T U O:Int)(n:Nat)(a b u v:Cg)(h:Cg):Prop:=
 h 0=0/\h c=T/\(∀k,k<c->U<=h (k+1)-h k/\h (k+1)-h k<=O)/\ ∀j,j<n->h (b j).toNat-h (a j).toNat<=v j/\(b j<c->u j+1<=h (b j+1).toNat-h (a j).toNat)
def ob(c:Nat)(M:Nat->Cg)(h:Cg):Prop:= ∀x y,x<=c->y<=c->h y-h x<=M x y
theorem jO{c:Nat}{M:Nat->Cg}{h:Cg}{p q:Nat}{v:Int}(hp:p<=c)(hq:q<=c):ob c (bnd M p q v) h↔ob c M h/\h q-h p<=v:=by
 constructor;intro k;refine ⟨λx y hx hy=>Bx (k x y hx hy) (wK _ _ _ _ _ _),Bx (k p q hp hq) (aI _ _ _ _)⟩;rintro ⟨k1,k2⟩ x y hx hy;have h1:=k1 x y hx hy;unfold bnd wT;split;rename_i e;rw [e.1,e.2] at h1 ⊢;omega;exact h1
theorem Xi2{c:Nat}{M N:Nat->Cg}{h:Cg}(hm: ∀x y,M x y<=N x y)(k:ob c M h):ob c N h:=λx y hx hy=>Bx (k x y hx hy) (hm x y)
theorem Zq6(M:Nat->Cg)(o f t x y:Nat):fwS M o f t x y<=M x y:=wK _ _ _ _ _ _
theorem Wr6(M:Nat->Cg)(o f:Nat): ∀t x y,fwT M o f t x y<=M x y
 | 0,_,_=>Int.le_refl _
 |t+1,x,y=>Bx (Zq6 _ _ _ _ _ _) (Wr6 M o f t x y)
theorem Wr9(c:Nat)(M:Nat->Cg)(o:Nat): ∀f x y,fwF c M o f x y<=M x y
 | 0,_,_=>Int.le_refl _
 |f+1,x,y=>Bx (Wr6 _ _ _ _ _ _) (Wr9 c M o f x y)
theorem Xl7(c:Nat)(M:Nat->Cg)(o x y:Nat):fwO c M (o+1) x y<=fwO c M o x y:=Wr9 _ _ _ _ _ _
theorem a7(c:Nat)(M:Nat->Cg)(o:Nat): ∀d x y,fwO c M (o+d) x y<=fwO c M o x y
 | 0,_,_=>Int.le_refl _
 |d+1,x,y=>Bx (Xl7 c M (o+d) x y) (a7 c M o d x y)
theorem Wr8(c:Nat)(M:Nat->Cg)(o x y:Nat):fwO c M o x y<=M x y:=by
 have:=a7 c M 0 o x y
 rwa [Ap] at this
theorem Jh0{c:Nat}{M:Nat->Cg}{h:Cg}{o f:Nat}(ho:o<=c)(hf:f<=c)(k:ob c M h): ∀t,t<=c+1->ob c (fwT M o f t) h
 | 0,_=>k
 |t+1,ht=>by
  have ih:=Jh0 ho hf k t VI;refine (jO hf VI).2 ⟨ih,?_⟩;have h1:=ih f o hf ho;have h2:=ih o t ho VI;omega
theorem Jh2{c:Nat}{M:Nat->Cg}{h:Cg}{o:Nat}(ho:o<=c)(k:ob c M h): ∀f,f<=c+1->ob c (fwF c M o f) h
 | 0,_=>k
 |f+1,hf=>Jh0 ho VI (Jh2 ho k f VI) (c+1) (Am _)
theorem Jh1{c:Nat}{M:Nat->Cg}{h:Cg}(k:ob c M h): ∀o,o<=c+1->ob c (fwO c M o) h
 | 0,_=>k
 |o+1,ho=>Jh2 VI (Jh1 k o VI) (c+1) (Am _)
theorem Wr7{c:Nat}{M N:Nat->Cg}{o f:Nat}(h0:0<=M o o)(hN: ∀x y,N x y=if x<f/\y<=c then min (M x y) (M x o+M o y) else M x y): ∀t,t<=c+1-> ∀x y,fwT N o f t x y=if (x<f/\y<=c)\/(x=f/\y<t) then min (M x y) (M x o+M o y) else M x y
 | 0,_,x,y=>by
  show N x y=_;rw [hN];by_cases h:x<f/\y<=c;rw [if_pos h,if_pos (.inl h)];rw [if_neg h,if_neg VI]
 |t+1,ht,x,y=>by
  have ih:=Wr7 h0 hN t VI;show bnd (fwT N o f t) f t (fwT N o f t f o+fwT N o f t o t) x y=_;have e1:fwT N o f t f o=M f o:=by
   rw [ih];split<;>omega
  have e2:fwT N o f t o t=M o t:=by
   rw [ih];split<;>omega
  have e3:fwT N o f t f t=M f t:=by
   rw [ih,if_neg VI]
  unfold bnd wT;rw [e1,e2,e3];by_cases hxy:x=f/\y=t;rw [if_pos hxy,if_pos VI,hxy.1,hxy.2];rw [if_neg hxy,ih];by_cases h:(x<f/\y<=c)\/(x=f/\y<t);rw [if_pos h,if_pos VI];rw [if_neg h,if_neg VI]
theorem Ws0{c:Nat}{M:Nat->Cg}{o:Nat}(h0:0<=M o o): ∀f x y,fwF c M o f x y=if x<f/\y<=c then min (M x y) (M x o+M o y) else M x y
 | 0,x,y=>by
  rw [if_neg VI];rfl
 |f+1,x,y=>by
  show fwT (fwF c M o f) o f (c+1) x y=_;rw [Wr7 h0 (Ws0 h0 f) (c+1) (Am _)];by_cases h:(x<f/\y<=c)\/(x=f/\y<c+1);rw [if_pos h,if_pos VI];rw [if_neg h,if_neg VI]
theorem I7{c:Nat}{M:Nat->Cg}: ∀k,k<=c+1->(∀o,o<k->0<=fwO c M o o o)-> ∀p x y,p<k->x<=c->y<=c->fwO c M k x y<=fwO c M k x p+fwO c M k p y
 | 0,_,_,p,x,y,hp,_,_=>absurd hp (Aq _)
 |k+1,hk,hd,p,x,y,hp,hx,hy=>by
  have ih:=I7 k VI (λo ho=>hd o VI);have h0:=hd k VI;have eq:=Ws0 (c:=c) h0 (c+1);show fwF c (fwO c M k) k (c+1) x y<=fwF c (fwO c M k) k (c+1) x p+fwF c (fwO c M k) k (c+1) p y;rw [eq x y,eq x p,eq p y,if_pos VI,if_pos VI,if_pos VI];rcases (show p=k\/p<k by omega) with rfl|hpk
  omega;have i1:=ih p x y hpk hx hy;have i2:=ih p x k hpk hx VI;have i3:=ih p k y hpk VI hy;have i4:=ih p k k hpk VI VI;omega
theorem Zm4{c:Nat}{h:Cg}:ob c (ini c (c+1) 0) h↔ ∀x y,x<=c->y<=c->h y-h x<=2000:=by
 constructor;intro k x y hx hy;have:=k x y hx hy;unfold ini at this;split at this<;>omega;intro k x y hx hy;unfold ini;by_cases e:x=y;subst e;rw [if_neg VI];omega;rw [if_pos VI];exact k x y hx hy
theorem Wf0{c:Nat}{U O:Int}{h:Cg}: ∀k,k<=c->(ob c (cel c U O k) h↔ob c (ini c (c+1) 0) h/\ ∀j,j<k->U<=h (j+1)-h j/\h (j+1)-h j<=O)
 | 0,_=>⟨λk=>⟨k,λj hj=>absurd hj (Aq _)⟩,λk=>k.1⟩
 |k+1,hk=>by
  have ih:=Wf0 (c:=c) (U:=U) (O:=O) (h:=h) k VI;show ob c (bnd (bnd (cel c U O k) k (k+1) O) (k+1) k (-U)) h↔_;rw [jO VI VI,jO VI VI,ih];constructor;rintro ⟨⟨⟨h1,h2⟩,h3⟩,h4⟩;refine ⟨h1,λj hj=>?_⟩;rcases (show j<k\/j=k by omega) with h|rfl
  exact h2 j h;omega;rintro ⟨h1,h2⟩;have h3:=h2 k VI;exact ⟨⟨⟨h1,λj hj=>h2 j VI⟩,VI⟩,VI⟩
def cM(c:Nat)(n:Nat)(a b u v:Cg):Prop:= ∀j,j<n->(0<=a j/\a j<=(c:Int)-1)/\(a j<=b j/\b j<=c)/\0<=u j/\u j<=v j/\v j<=2000
theorem Xv3{c:Nat}{T U O:Int}{a b u v:Cg}{h:Cg}: ∀n,cM c n a b u v->(ob c (rdM c T U O a b u v n) h↔ob c (cel c U O c) h/\h c-h 0=T/\ ∀j,j<n->h (b j).toNat-h (a j).toNat<=v j/\(b j<c->u j+1<=h (b j+1).toNat-h (a j).toNat))
 | 0,_=>by
  show ob c (bnd (bnd (cel c U O c) 0 c T) c 0 (-T)) h↔_;rw [jO VI VI,jO VI VI];constructor;rintro ⟨⟨h1,h2⟩,h3⟩;exact ⟨h1,VI,λj hj=>absurd hj (Aq _)⟩;rintro ⟨h1,h2,_⟩;exact ⟨⟨h1,VI⟩,VI⟩
 |n+1,hr=>by
  have ih:=Xv3 (c:=c) (T:=T) (U:=U) (O:=O) (a:=a) (b:=b) (u:=u) (v:=v) (h:=h) n (λj hj=>hr j VI);have I:=hr n VI;have key:ob c (rdM c T U O a b u v (n+1)) h↔ob c (rdM c T U O a b u v n) h/\h (b n).toNat-h (a n).toNat<=v n/\(b n<c->u n+1<=h (b n+1).toNat-h (a n).toNat):=by
   show ob c (rdS c (rdM c T U O a b u v n) _ _ _ _) h↔_;unfold rdS;split;rename_i hb;rw [jO VI VI,jO VI VI];constructor;rintro ⟨⟨h1,h2⟩,h3⟩;exact ⟨h1,h2,λ_=>VI⟩;rintro ⟨h1,h2,h3⟩;have:=h3 hb;exact ⟨⟨h1,h2⟩,VI⟩;rename_i hb;rw [jO VI VI];constructor;rintro ⟨h1,h2⟩;exact ⟨h1,h2,λh=>absurd h hb⟩;rintro ⟨h1,h2,_⟩;exact ⟨h1,h2⟩
  rw [key,ih];constructor;rintro ⟨⟨h1,h2,h3⟩,h4⟩;refine ⟨h1,h2,λj hj=>?_⟩;rcases (show j<n\/j=n by omega) with h|rfl
  exact h3 j h;exact h4;rintro ⟨h1,h2,h3⟩;exact ⟨⟨h1,h2,λj hj=>h3 j VI⟩,h3 n VI⟩
theorem N9{U:Int}{h:Cg}{c:Nat}(hl:0<=U)(hs: ∀k,k<c->U<=h (k+1)-h k)(x:Nat): ∀d,x+d<=c->h x<=h (x+d)
 | 0,_=>Int.le_refl _
 |d+1,hd=>by
  have ih:=N9 hl hs x d VI;have:=hs (x+d) VI;rw [←Ba];omega
theorem Jc2{c:Nat}{T U O:Int}{n:Nat}{a b u v:Cg}{h:Cg}(hb:1<=U/\U<=O/\O<=200/\1<=T/\T<=2000)(hr:cM c n a b u v)(h0:h 0=0):Tr c T U O n a b u v h↔ob c (rdM c T U O a b u v n) h:=by
 rw [Xv3 n hr,Wf0 c (Am _),Zm4];constructor;rintro ⟨_,h1,h2,h3⟩;refine ⟨⟨λx y hx hy=>?_,h2⟩,VI,h3⟩;have m:=λx d=>N9 (U:=U) (h:=h) (c:=c) VI (λk hk=>(h2 k hk).1) x d;have m1:=m 0 x VI;have m2:=m y (c-y) VI;rw [Ap] at m1;rw [show y+(c-y)=c by omega] at m2
 omega;rintro ⟨⟨_,h2⟩,h3,h4⟩;exact ⟨h0,VI,h2,h4⟩
theorem uJ{c:Int}{n:Nat}{a b u v:Cg}(hc:1<=c/\c<=10)(h:D4 (λk=>rdB c (a k) (b k) (u k) (v k)) n=true):cM c.toNat n a b u v:=λj hj=>by
 have:=Xv1 (GK.1 h j hj);omega
section
variable {c:Nat}{T U O:Int}{n:Nat}{a b u v:Cg}
theorem TG:okR c T U O n a b u v=true↔ ∀k,k<=c->0<=fwM c T U O n a b u v k k:=by
 unfold okR;rw [GK];constructor;intro h k hk;simpa using h k VI;intro h k hk;simpa using h k VI
theorem tG{h:Cg}(hb:1<=U/\U<=O/\O<=200/\1<=T/\T<=2000)(hr:cM c n a b u v)(h0:h 0=0):Tr c T U O n a b u v h↔ob c (fwM c T U O n a b u v) h:=by
 rw [Jc2 hb hr h0];exact ⟨λk=>Jh1 k (c+1) (Am _),λk=>Xi2 (λx y=>Wr8 c _ (c+1) x y) k⟩
theorem We8{h:Cg}(hb:1<=U/\U<=O/\O<=200/\1<=T/\T<=2000)(hr:cM c n a b u v)(k:Tr c T U O n a b u v h):okR c T U O n a b u v=true:=by
 have k1:=(tG hb hr k.1).1 k;refine TG.2 λx hx=>?_;have:=k1 x x hx hx;omega
theorem Qz5{h:Cg}(hb:1<=U/\U<=O/\O<=200/\1<=T/\T<=2000)(hr:cM c n a b u v)(k:Tr c T U O n a b u v h){x:Nat}(hx:x<=c): -(fwM c T U O n a b u v x 0)<=h x/\h x<=fwM c T U O n a b u v 0 x:=by
 have k1:=(tG hb hr k.1).1 k;have h1:=k1 x 0 hx VI;have h2:=k1 0 x VI hx;have:=k.1;omega
theorem OF(h:okR c T U O n a b u v=true){p x y:Nat}(hp:p<=c)(hx:x<=c)(hy:y<=c):fwM c T U O n a b u v x y<=fwM c T U O n a b u v x p+fwM c T U O n a b u v p y:=by
 refine I7 (c+1) (Am _) (λo ho=>?_) p x y VI hx hy;have h1:=TG.1 h o VI;have h2:=a7 c (rdM c T U O a b u v n) o (c+1-o) o o;rw [show o+(c+1-o)=c+1 by omega] at h2
 exact Bx h1 h2
end
section
variable {c:Nat}{T U O:Int}
theorem Zl2{a b u v:Cg}(n:Nat):rdM c T U O a b u v n 0 0<=0:=by
 have h1:=C2 c T U O a b u v 0 n (Ao _) 0 0;have h2:rdM c T U O a b u v 0 0 0<=cel c U O c 0 0:=Bx (wK _ _ _ _ _ _) (wK _ _ _ _ _ _);have h3: ∀k,cel c U O k 0 0<=0:=by
  intro k
  induction k with
  |zero=>unfold cel ini;rw [if_neg VI];exact Int.le_refl _
  |succ k ih=>exact Bx (Bx (wK _ _ _ _ _ _) (wK _ _ _ _ _ _)) ih
 exact Bx h1 (Bx h2 (h3 c))
theorem Xw4{n:Nat}{a b u v:Cg}(h:okR c T U O n a b u v=true):fwM c T U O n a b u v 0 0=0:=by
 have h1:=TG.1 h 0 (Ao _);have h2:fwM c T U O n a b u v 0 0<=0:=Bx (Wr8 c _ (c+1) 0 0) (Zl2 n);omega
theorem Qz4{n:Nat}{a b u v:Cg}(hb:1<=U/\U<=O/\O<=200/\1<=T/\T<=2000)(hr:cM c n a b u v)(h:okR c T U O n a b u v=true):Tr c T U O n a b u v (λk=>fwM c T U O n a b u v 0 k):=by
 refine (tG hb hr (Xw4 h)).2 λx y hx hy=>?_;have:=OF h hx (Ao _) hy;show fwM c T U O n a b u v 0 y-fwM c T U O n a b u v 0 x<=_;omega
theorem Xt8{n:Nat}{a b u v:Cg}(hb:1<=U/\U<=O/\O<=200/\1<=T/\T<=2000)(hr:cM c n a b u v)(h:okR c T U O n a b u v=true):Tr c T U O n a b u v (λk=> -(fwM c T U O n a b u v k 0)):=by
 refine (tG hb hr (by rw [Xw4 h];rfl)).2 λx y hx hy=>?_
 have:=OF h hy hx (Ao _);show -(fwM c T U O n a b u v y 0)- -(fwM c T U O n a b u v x 0)<=_;omega
end
end Go.Proofs.YtakpdkmhclhlnaaGreatDoor.Bo
namespace Go.Proofs.YtakpdkmhclhlnaaGreatDoor
open Go Go.Sx Go.RowKit Bo
open Go.Sx.VL (need branch leaf)
open Go.Sx.AV (lst ptr agg roI tup top)
def usB(c S W wi:Int):Bool:=bt 0 S W&&decide (W<=c)&&bt 0 wi 1000
section
variable (c T U O:Int)
def vaB(m:Nat)(p q:Cg)(pl ph dl dh:Int):Bool:=decide (Pt.blE m p q pl ph=0)&&qA c T U O&&insB 0 dl dh 100
def rdE(n:Nat)(a b u v:Cg)(m:Nat)(p q:Cg)(pl ph dl dh:Int):Int:=if n>12\/m>8 then 3 else if vaB c T U O m p q pl ph dl dh=true/\(eB c T U O n a b u v=0\/eB c T U O n a b u v=9) then eB c T U O n a b u v else 1
def bdL(n:Nat)(a b u v:Cg)(m:Nat)(p q:Cg)(pl ph:Int)(k:Nat):Int:=dnI (-(fwB c T U O n a b u v k 0)*Pt.boilI m p q pl) T
def bdH(n:Nat)(a b u v:Cg)(m:Nat)(p q:Cg)(pl ph:Int)(k:Nat):Int:=upI (fwB c T U O n a b u v 0 k*Pt.boilI m p q ph) T
end
def wkF(pl ph dl dh:Int)(L H:Cg)(k j:Nat):Int:=if j=0 then pl else if j=1 then ph else if j=2 then dl else if j=3 then dh else if j<4+2*k then (if j%2=0 then L ((j-4) / 2) else H ((j-4) / 2)) else 0
def wkA(c T U O:Int)(n:Nat)(a b u v:Cg)(m:Nat)(p q:Cg)(pl ph dl dh:Int):Cg:=wkF pl ph dl dh (bdL c T U O n a b u v m p q pl ph) (bdH c T U O n a b u v m p q pl ph) (c.toNat+1)
theorem tF{c S W wi:Int}:usB c S W wi=true↔(0<=S/\S<=W)/\W<=c/\0<=wi/\wi<=1000:=by
 simp only [usB,GT,kG,bt_iff,and_assoc]
theorem Xt9{c:Nat}{T U O:Int}{n:Nat}{a b u v:Cg}{h:Cg}(hl:0<=U)(k:Tr c T U O n a b u v h){x:Nat}(hx:x<=c):0<=h x/\h x<=T:=by
 obtain ⟨h0,h1,h2,_⟩:=k;have up: ∀y,y<=c->0<=h y:=by
  intro y
  induction y with
  |zero=>intro _;omega
  |succ y ih=>
   intro hy;have:=h2 y VI;have:=ih VI;omega
 have dn: ∀d,d<=c->h (c-d)<=T:=by
  intro d
  induction d with
  |zero=>intro _;rw [Nat.sub_zero,h1];exact Int.le_refl _
  |succ d ih=>
   intro hd;have:=h2 (c-(d+1)) VI;rw [show c-(d+1)+1=c-d by omega] at this
   have:=ih VI;omega
 refine ⟨up x hx,?_⟩;have:=dn (c-x) VI;rw [show c-(c-x)=x by omega] at this
 exact this
theorem Qc1{c T U O:Int}{n:Nat}{a b u v:Cg}(h:eB c T U O n a b u v=0){k:Nat}(hk:(k:Int)<=c):0<= -(fwB c T U O n a b u v k 0)/\ -(fwB c T U O n a b u v k 0)<=fwB c T U O n a b u v 0 k/\fwB c T U O n a b u v 0 k<=T:=by
 obtain ⟨h1,_,h3⟩:=BA.1 h;have hf:=flt_iff.1 h1;have hb:=LY hf.1;have hr:=uJ hb.1 hf.2.2;have tl:=Xt8 hb.2.1 hr h3;have th:=Qz4 hb.2.1 hr h3;have g1:=Xt9 VI tl (x:=k) VI;have g2:=Xt9 VI th (x:=k) VI;have g3:=Qz5 hb.2.1 hr tl (x:=k) VI;unfold fwB;omega
theorem SH{c T U O:Int}{m:Nat}{p q:Cg}{pl ph dl dh:Int}:vaB c T U O m p q pl ph dl dh=true↔Pt.blE m p q pl ph=0/\qA c T U O=true/\0<=dl/\dl<=dh/\dh<=100:=by
 simp only [vaB,GT,kG,insB_iff,and_assoc]
theorem tL{m:Nat}{p q:Cg}{pl ph:Int}(h:Pt.blE m p q pl ph=0):(1<=Pt.boilI m p q pl/\Pt.boilI m p q pl<=2000)/\(1<=Pt.boilI m p q ph/\Pt.boilI m p q ph<=2000)/\Pt.boilI m p q pl<=Pt.boilI m p q ph/\Pt.blLo m p q pl ph=Pt.boilI m p q pl/\Pt.blHi m p q pl ph=Pt.boilI m p q ph:=by
 obtain ⟨h1,h2,h3,h4,h5,h6⟩:=Pt.blE_ok h;have a1:=Pt.boil_spec (x:=pl) h1 h3 VI;have a2:=Pt.boil_spec (x:=ph) h1 h3 VI;have a3:=Pt.boil_mono h1 h3 h4 h5 h6;exact ⟨VI,VI,a3,if_pos h,if_pos h⟩
theorem tZ{x y X Y:Int}(hx:0<=x/\x<=X)(hy:0<=y/\y<=Y):0<=x*y/\x*y<=X*Y:=by
 have h1:=Bz hx.1 hy.1;have h2:=Int.mul_le_mul hx.2 hy.2 hy.1 (show 0<=X by omega)
 omega
theorem Zg5(c T U O:Int)(n:Nat)(a b u v:Cg)(m:Nat)(p q:Cg)(pl ph dl dh S W wi:Int):VW VN 91 [.agg [i c,i T,i U,i O,rds n a b u v,Pt.scs m p q,i pl,i ph,i dl,i dh],.agg [i S,i W,i wi]] (bl (usB c S W wi)):=by
 refine U0 (L:=[]) (Ae RN Aa) VX Tryz.func91 (US Tryz.f91) U1 (t:=branch (bt (0:Int) S W) (branch (decide (W<=c)) (leaf (RV.x (.bool (bt (0:Int) wi (1000:Int))))) (leaf (RV.x (KU)))) (leaf (RV.x (KU)))) VT ?_;simp only [VL.sat,U9,UV,GJ,UB,UG];all_goals (simp+contextual [usB,Bool.and_assoc]);all_goals omega
def Xx1:UX
 |[.agg [.x (.int .i64 c),.x (.int .i64 T),.x (.int .i64 U),.x (.int .i64 O),.lst 4 n fr,.lst 2 m ft,.x (.int .i64 pl),.x (.int .i64 ph),.x (.int .i64 dl),.x (.int .i64 dh)],.agg [.x (.int .i64 S),.x (.int .i64 W),.x (.int .i64 wi)]]=>some ([UH 4 n fr,UH 2 m ft],bl (usB c S W wi))
 |_=>none
theorem Zg4:VO VN 91 Xx1:=by
 refine ⟨(UI Tryz.func91),?_⟩;intro avs ns res h I;unfold Xx1 at h;split at h;cases h;have hr:UH 4 _ _:=I _ GB;have ht:UH 2 _ _:=I _ (HI _ GB);exact (Zg5 _ _ _ _ _ _ _ _ _ _ _ _ _ _ _ _ _ _ _).same (.cons (LK.same (.cons (.refl _) (.cons (.refl _) (.cons (.refl _) (.cons (.refl _) (.cons (.lst 4 _ _ _ hr) (.cons (.lst 2 _ _ _ ht) (.cons (.refl _) (.cons (.refl _) (.cons (.refl _) (.cons (.refl _) .nil))))))))))) (.cons (.refl _) .nil));cases h
theorem Qy8(c T U O:Int)(n:Nat)(a b u v:Cg)(m:Nat)(p q:Cg)(pl ph dl dh:Int)(VR:m<=100000):VW VN 74 [.agg [i c,i T,i U,i O,rds n a b u v,Pt.scs m p q,i pl,i ph,i dl,i dh]] (.tup [.agg [i (Pt.blLo m p q pl ph),i (Pt.blHi m p q pl ph)],bl (vaB c T U O m p q pl ph dl dh)]):=by
 refine G8 (L:=[]) (Ae Pt.Boils_ok (Ae Bo.CheckTube_ok (Ae PV Aa))) Ad VX Tryz.func74 (US Tryz.f74) G7 (t:=let z0:=(leaf (RV.tup [RV.agg [RV.x (.int .i64 (Pt.blLo m p q pl ph)),RV.x (.int .i64 (Pt.blHi m p q pl ph))],RV.x (KU)]));(need [UH 2 m λk=>[Pt.i (p k),Pt.i (q k)],m<=100000] (branch (Pt.blE m p q pl ph==0) (branch ((if qA c T U O=true then (0:Int) else (1:Int))==0) (leaf (RV.tup [RV.agg [RV.x (.int .i64 (Pt.blLo m p q pl ph)),RV.x (.int .i64 (Pt.blHi m p q pl ph))],RV.x (.bool (insB (0:Int) dl dh (100:Int)))])) z0) z0))) VT ?_
 simp only [VL.sat,U9,UV,GJ,UB,UG,beq_iff_eq,beq_eq_false_iff_ne];refine ⟨⟨Pt.isRec2 m p q,VR⟩,λh1=>⟨λh2=>?_,λh2=>?_⟩,λh1=>?_⟩;cases ht:qA c T U O;rw [ht] at h2;simp at h2;simp [vaB,h1,ht];cases ht:qA c T U O;simp [vaB,ht];rw [ht] at h2;simp at h2;simp [vaB,h1]
def aP:UX
 |[.agg [.x (.int .i64 c),.x (.int .i64 T),.x (.int .i64 U),.x (.int .i64 O),.lst 4 n fr,.lst 2 m ft,.x (.int .i64 pl),.x (.int .i64 ph),.x (.int .i64 dl),.x (.int .i64 dh)]]=>some ([UH 4 n fr,UH 2 m ft,m<=100000],.tup [.agg [i (Pt.blLo m (Pt.col 0 ft) (Pt.col 1 ft) pl ph),i (Pt.blHi m (Pt.col 0 ft) (Pt.col 1 ft) pl ph)],bl (vaB c T U O m (Pt.col 0 ft) (Pt.col 1 ft) pl ph dl dh)])
 |_=>none
theorem bM:VO VN 74 aP:=by
 refine ⟨(UI Tryz.func74),?_⟩;intro avs ns res h I;unfold aP at h;split at h;cases h;have hr:UH 4 _ _:=I _ GB;have ht:UH 2 _ _:=I _ (HI _ GB);exact (Qy8 _ _ _ _ _ _ _ _ _ _ _ _ _ _ _ _ (I _ VS)).same (.cons (LK.same (.cons (.refl _) (.cons (.refl _) (.cons (.refl _) (.cons (.refl _) (.cons (.lst 4 _ _ _ hr) (.cons (.lst 2 _ _ _ ht) (.cons (.refl _) (.cons (.refl _) (.cons (.refl _) (.cons (.refl _) .nil))))))))))) .nil);cases h
section
variable {pl ph dl dh:Int}{L H:Cg}
theorem Xe9{k j:Nat}:j6 (4+2*k) [L k,H k] (wkF pl ph dl dh L H k) j=wkF pl ph dl dh L H (k+1) j:=by
 simp only [j6,UR];unfold wkF;by_cases h1:j=4+2*k+1;rw [if_pos h1,if_neg VI,if_neg VI,if_neg VI,if_neg VI,if_pos VI,if_neg VI,show (j-4) / 2=k by omega]
 rw [if_neg h1];by_cases h2:j=4+2*k;rw [if_pos h2,if_neg VI,if_neg VI,if_neg VI,if_neg VI,if_pos VI,if_pos VI,show (j-4) / 2=k by omega]
 rw [if_neg h2];by_cases h3:j<4+2*k;rw [if_pos h3,if_pos (show j<4+2*(k+1) by omega)]
 rw [if_neg h3,if_neg (show ¬j<4+2*(k+1) by omega)]
theorem Xe8{j:Nat}(hj:j<26):U8 ([pl,ph,dl,dh]++bE 22) j=wkF pl ph dl dh L H 0 j:=by
 rcases (show j=0\/j=1\/j=2\/j=3\/j=4\/j=5\/j=6\/j=7\/j=8\/j=9\/j=10\/j=11\/j=12\/j=13\/j=14\/j=15\/j=16\/j=17\/j=18\/j=19\/j=20\/j=21\/j=22\/j=23\/j=24\/j=25 by omega) with rfl|rfl|rfl|rfl|rfl|rfl|rfl|rfl|rfl|rfl|rfl|rfl|rfl|rfl|rfl|rfl|rfl|rfl|rfl|rfl|rfl|rfl|rfl|rfl|rfl|rfl<;>rfl
end
abbrev QR(n:Nat)(a:Cg)(b:Cg)(u:Cg)(v:Cg):AV:=lst 4 n λk=>[iI (a k),iI (b k),iI (u k),iI (v k)]
abbrev QW(c:Int)(T:Int)(U:Int)(O:Int)(n:Nat)(a:Cg)(b:Cg)(u:Cg)(v:Cg):AV:=lst 2 (rM c T U O n a b u v) λk=>[iI (-fwB c T U O n a b u v k 0),iI (fwB c T U O n a b u v 0 k)]
abbrev W0(m:Nat)(p:Cg)(q:Cg):AV:=lst 2 m λk=>[iI (p k),iI (q k)]
abbrev Z4:AV:=AV.x (.pointer none)
section
variable (c T U O:Int)(n:Nat)(a b u v:Cg)(m:Nat)(p q:Cg)(pl ph dl dh:Int)
def Zu7:St:={σ:=[agg [iI c,iI T,iI U,iI O,QR n a b u v,W0 m p q,iI pl,iI ph,iI dl,iI dh],ptr 0 0,Z4,iI 0,ptr 18 0,AV.x (.bool (vaB c T U O m p q pl ph dl dh)),QW c T U O n a b u v,iI (eB c T U O n a b u v),ptr 45 0]++HH 43 [QW c T U O n a b u v,iI (rM c T U O n a b u v:Int)]++HH 31 [],m:=[(45,GN.ints 174 [iI c,iI T,iI U,iI O,QR n a b u v,W0 m p q] 26 λa=>U8 ([pl,ph,dl,dh]++bE 22) a),(18,GN.cells 38 [iI (Pt.blLo m p q pl ph),iI (Pt.blHi m p q pl ph)]),(0,GN.cells 53 [iI c,iI T,iI U,iI O,QR n a b u v,W0 m p q,iI pl,iI ph,iI dl,iI dh])],nx:=50}
noncomputable def Jw0:Code:=U7 (VQ (U6 Tryz.f51) 0)
def Wi6(k:Nat):St:=(upE [(54,i k)] [(45,.ints 174 [i c,i T,i U,i O,rds n a b u v,Pt.scs m p q] 26 (wkF pl ph dl dh (bdL c T U O n a b u v m p q pl ph) (bdH c T U O n a b u v m p q pl ph) k)),(18,.cells 38 [i (Pt.boilI m p q pl),i (Pt.boilI m p q ph)]),(0,.cells 53 [i c,i T,i U,i O,rds n a b u v,Pt.scs m p q,i pl,i ph,i dl,i dh])] (Zu7 c T U O n a b u v m p q pl ph dl dh))
def T3(k:Nat):G6->Option St
 | .exit 1=>some (upE [(54,i ((c.toNat+1:Nat):Int))] [(45,.ints 174 [i c,i T,i U,i O,rds n a b u v,Pt.scs m p q] 26 (wkF pl ph dl dh (bdL c T U O n a b u v m p q pl ph) (bdH c T U O n a b u v m p q pl ph) (c.toNat+1))),(18,.cells 38 [i (Pt.boilI m p q pl),i (Pt.boilI m p q ph)]),(0,.cells 53 [i c,i T,i U,i O,rds n a b u v,Pt.scs m p q,i pl,i ph,i dl,i dh])] (Zu7 c T U O n a b u v m p q pl ph dl dh))
 |_=>none
def Jq6:CT:= .leaf (.exit 1,(T3 c T U O n a b u v m p q pl ph dl dh 0 (.exit 1)).getD (Zu7 c T U O n a b u v m p q pl ph dl dh))
def Xy8:UF:=GI [] (HB (Wi6 c T U O n a b u v m p q pl ph dl dh (0)) (Jq6 c T U O n a b u v m p q pl ph dl dh))
end
abbrev X9(c:Int)(T:Int)(U:Int)(O:Int)(n:Nat)(a:Cg)(b:Cg)(u:Cg)(v:Cg)(m:Nat)(p:Cg)(q:Cg)(pl:Int)(ph:Int)(dl:Int)(dh:Int):Prop:=agg [iI c,iI T,iI U,iI O,QR n a b u v,W0 m p q,iI pl,iI ph,iI dl,iI dh]=agg [iI c,iI T,iI U,iI O,QR n a b u v,W0 m p q,iI pl,iI ph,iI dl,iI dh]
abbrev K2:Prop:=(0:Int)=0
abbrev KX:List (Nat×UX):=[(74,aP),(75,Bo.S_Heights),(76,sL),(77,Zs8)]
abbrev Y0:Prop:=ptr 18 0=ptr 18 0
abbrev YL(n:Nat)(a:Cg)(b:Cg)(u:Cg)(v:Cg):Prop:=(QR n a b u v)=QR n a b u v
abbrev YP(m:Nat)(p:Cg)(q:Cg):Prop:=(W0 m p q)=W0 m p q
abbrev YS(c:Int)(T:Int)(U:Int)(O:Int)(n:Nat)(a:Cg)(b:Cg)(u:Cg)(v:Cg):Prop:=(QW c T U O n a b u v)=QW c T U O n a b u v
section
variable (c T U O:Int)(n:Nat)(a b u v:Cg)(m:Nat)(p q:Cg)(pl ph dl dh:Int)
theorem Jf2(VR:n<=12)(UD:m<=8)(HF:vaB c T U O m p q pl ph dl dh=true)(DM:eB c T U O n a b u v=0):G0 VN (.loop Jw0) (Xy8 c T U O n a b u v m p q pl ph dl dh):=by
 refine UP [] (L:=[]) (Ae bM (Ae Bo.Heights_ok (Ae aE (Ae Qz3 Aa)))) Ad VX U1 (X:=Nat) (Wi6 c T U O n a b u v m p q pl ph dl dh) (λk=>k<=c.toNat+1) (λk=>c.toNat+1-k) (T3 c T U O n a b u v m p q pl ph dl dh) (x0:=0) VS ?_ ?_ ?_;rintro k;kernel_rfl;rintro k y E h;unfold T3 at h;split at h;cases h;kernel_rfl;cases h;rintro Q hQ k hx;refine ⟨(k+1),?_⟩;(with_reducible refine D2 (t:=let z0:=(bdL c T U O n a b u v m p q pl ph);let z1:=(bdH c T U O n a b u v m p q pl ph);let z5:=fwB c T U O n a b u v;let z2:=z5 k;let z3:=Pt.boilI m p q pl;let z4:=Pt.boilI m p q ph;let z6:=(rM c T U O n a b u v);let z7:=YS c T U O n a b u v;(branch (decide ((k:Int)<(z6:Int))) (need [UE k z6] (need [VK (-z2 0*z3)] (need [(1:Int)<=T/\T<=100000,(0:Int)<= -z2 0*z3/\ -z2 0*z3<=1000000000000] (need [VK (z5 0 k*z4)] (need [(1:Int)<=T/\T<=100000,(0:Int)<=z5 0 k*z4/\z5 0 k*z4<=1000000000000] (need [UE k 11] (need [k*2+10-1-1-1-1-1-1+List.length [dnI (-z2 0*z3) T,upI (z5 0 k*z4) T]<=26] (need [VK ((k:Int)+1)] (need [X9 c T U O n a b u v m p q pl ph dl dh,KH,Z4=Z4,K2,Y0,VY (vaB c T U O m p q pl ph dl dh),z7,VY (eB c T U O n a b u v),VY (ptr 45 0),z7,VY (z6:Int),(k:Int)+1=(↑(k+1):Int),c=c,T=T,U=U,O=O,YL n a b u v,YP m p q,26=26,GU 26 (UR (k*2+10-1-1-1-1-1-1+1) (upI (z5 0 k*z4) T) (UR (k*2+10-1-1-1-1-1-1) (dnI (-z2 0*z3) T) (wkF pl ph dl dh z0 z1 k))) (wkF pl ph dl dh z0 z1 (k+1)),VY (z3),VY (z4),c=c,T=T,U=U,O=O,YL n a b u v,YP m p q,pl=pl,ph=ph,dl=dl,dh=dh] (leaf G6.normal)))))))))) (need [X9 c T U O n a b u v m p q pl ph dl dh,KH,Z4=Z4,K2,Y0,VY (vaB c T U O m p q pl ph dl dh),z7,VY (eB c T U O n a b u v),VY (ptr 45 0),z7,VY (z6:Int),(k:Int)=(↑(Int.toNat c+1):Int),c=c,T=T,U=U,O=O,YL n a b u v,YP m p q,26=26,GU 26 (wkF pl ph dl dh z0 z1 k) (wkF pl ph dl dh z0 z1 (Int.toNat c+1)),VY (z3),VY (z4),c=c,T=T,U=U,O=O,YL n a b u v,YP m p q,pl=pl,ph=ph,dl=dl,dh=dh] (leaf (G6.exit 1))))) VT ?_);simp only [Jq6,T3,VL.sat,GR] at hQ;have hv:=SH.1 HF;have hb:=LY hv.2.1;have hs:=tL hv.1;have hl:rM c T U O n a b u v=c.toNat+1:=if_pos DM;simp only [VL.sat,U9,UV,GJ,UB,VK,UG,H4,DX,FR,hl]
 refine ⟨λh=>?_,λh=>?_⟩
 ·have hk:=Qc1 DM (k:=k) VI;have m1:=tZ (x:= -(fwB c T U O n a b u v k 0)) (y:=Pt.boilI m p q pl) (X:=2000) (Y:=2000) VI VI;have m2:=tZ (x:=fwB c T U O n a b u v 0 k) (y:=Pt.boilI m p q ph) (X:=2000) (Y:=2000) VI VI;have e6:k*2+10-1-1-1-1-1-1=4+2*k:=VI;rw [e6]
  (with_reducible repeat' first|apply Al|intro _)
  all_goals first|exact Ak|omega|with_reducible rfl|exact Xe9
 ·obtain rfl:k=c.toNat+1:=VI
  (with_reducible repeat' first|apply Al|intro _)
  all_goals first|exact Ak|omega|with_reducible rfl|(rename_i E hE;cases hE;exact hQ)
theorem SV:UK VN 51 [.agg [i c,i T,i U,i O,rds n a b u v,Pt.scs m p q,i pl,i ph,i dl,i dh]] (.branch (decide (rdE c T U O n a b u v m p q pl ph dl dh=0)) (.leaf (.tup [.roI [i c,i T,i U,i O,rds n a b u v,Pt.scs m p q] 26 (wkA c T U O n a b u v m p q pl ph dl dh) 0,i 0])) (.leaf (.tup [.x (.pointer none),i (rdE c T U O n a b u v m p q pl ph dl dh)]))):=by
 refine GS (L:=[FH [n<=12,m<=8,vaB c T U O m p q pl ph dl dh=true,eB c T U O n a b u v=0] (Xy8 c T U O n a b u v m p q pl ph dl dh)]) (Ae bM (Ae Bo.Heights_ok (Ae aE (Ae Qz3 Aa)))) Ad VX Tryz.func51 (US Tryz.f51) (UY (lpE (b:= .loop Jw0) VT<|(HU (ps:=[n<=12,m<=8,vaB c T U O m p q pl ph dl dh=true,eB c T U O n a b u v=0]) (λh=>Jf2 c T U O n a b u v m p q pl ph dl dh h.1 h.2.1 h.2.2.1 h.2.2.2)).N)) (t:=let z0:=(leaf (tup [roI [iI c,iI T,iI U,iI O,QR n a b u v,W0 m p q] 26 (λj=>wkF pl ph dl dh (bdL c T U O n a b u v m p q pl ph) (bdH c T U O n a b u v m p q pl ph) (Int.toNat c+1) j) 0,iI 0]));let z1:=eB c T U O n a b u v;let z2:=vaB c T U O m p q pl ph dl dh;let z3:=YS c T U O n a b u v;(branch (decide ((n:Int)>12)) (leaf (tup [Z4,iI 3])) (branch (decide ((m:Int)>8)) (leaf (tup [Z4,iI 3])) (need [UH 4 n λk=>[Bo.i (a k),Bo.i (b k),Bo.i (u k),Bo.i (v k)],UH 2 m λk=>[Pt.i (p k),Pt.i (q k)],m<=100000] (need [UH 4 n λk=>[Bo.i (a k),Bo.i (b k),Bo.i (u k),Bo.i (v k)]] (branch (!z2) (leaf (tup [Z4,iI 1])) (branch (z1 != 0) (branch (z1 != 9) (leaf (tup [Z4,iI 1])) (branch (z1 != 0) (leaf (tup [Z4,iI (z1)])) (need [n<=12,m<=8,z2=true,z1=0] (need [X9 c T U O n a b u v m p q pl ph dl dh,KH,Z4=Z4,K2,Y0,VY (z2),z3,VY (z1),ptr 47 0=ptr 45 0,z3,VY (rM c T U O n a b u v:Int),(0:Int)=((0:Nat):Int),False,Pt.blLo m p q pl ph=Pt.boilI m p q pl,Pt.blHi m p q pl ph=Pt.boilI m p q ph,c=c,T=T,U=U,O=O,YL n a b u v,YP m p q,pl=pl,ph=ph,dl=dl,dh=dh] z0)))) (branch (z1 != 0) (leaf (tup [Z4,iI (z1)])) (need [n<=12,m<=8,z2=true,z1=0] (need [X9 c T U O n a b u v m p q pl ph dl dh,KH,Z4=Z4,K2,Y0,VY (z2),z3,VY (z1),VY (ptr 45 0),z3,VY (rM c T U O n a b u v:Int),(0:Int)=((0:Nat):Int),c=c,T=T,U=U,O=O,YL n a b u v,YP m p q,List.length ([pl,ph,dl,dh]++bE 22)=26,GU 26 (U8 ([pl,ph,dl,dh]++bE 22)) (wkF pl ph dl dh (bdL c T U O n a b u v m p q pl ph) (bdH c T U O n a b u v m p q pl ph) 0),Pt.blLo m p q pl ph=Pt.boilI m p q pl,Pt.blHi m p q pl ph=Pt.boilI m p q ph,c=c,T=T,U=U,O=O,YL n a b u v,YP m p q,pl=pl,ph=ph,dl=dl,dh=dh] z0)))))))))) VT ?_
 intro Q hQ;have e3:(n>12\/m>8)->rdE c T U O n a b u v m p q pl ph dl dh=3:=λh=>if_pos h;have e1: ¬(n>12\/m>8)-> ¬(vaB c T U O m p q pl ph dl dh=true/\(eB c T U O n a b u v=0\/eB c T U O n a b u v=9))->rdE c T U O n a b u v m p q pl ph dl dh=1:=λh h'=>by
  unfold rdE;rw [if_neg h,if_neg h']
 have e0: ¬(n>12\/m>8)->vaB c T U O m p q pl ph dl dh=true->(eB c T U O n a b u v=0\/eB c T U O n a b u v=9)->rdE c T U O n a b u v m p q pl ph dl dh=eB c T U O n a b u v:=λh h' h''=>by
  unfold rdE;rw [if_neg h,if_pos ⟨h',h''⟩]
 simp only [VL.sat,U9,UG,H4,FJ,Ax,Bool.not_eq_false'] at hQ ⊢;have bad: ∀k:Int,k≠0->rdE c T U O n a b u v m p q pl ph dl dh=k-> ∃r',FD (.tup [.x (.pointer none),i k]) r'/\Q r':=λk hk he=>by
  rw [he] at hQ;exact ⟨.tup [.x (.pointer none),i k],⟨rfl,⟨rfl,rfl⟩,Ak⟩,hQ.2 hk⟩
 refine ⟨λh1=>bad 3 VI (e3 VI),λh1=>⟨λh2=>bad 3 VI (e3 VI),λh2=>⟨⟨Bo.isRec4 n a b u v,Pt.isRec2 m p q,VI⟩,Bo.isRec4 n a b u v,λh3=>bad 1 VI (e1 VI (by rw [h3];simp)),λh3=>⟨λh4=>⟨λh5=>bad 1 VI (e1 VI VI),λh5=>⟨λh6=>bad _ h4 (e0 VI h3 (.inr h5)),λh6=>absurd h6 h4⟩⟩,λh4=>⟨λh5=>absurd h4 h5,λ_=>?_⟩⟩⟩⟩⟩
 have hv:=SH.1 h3;have hs:=tL hv.1;refine ⟨⟨VI,VI,h3,h4⟩,⟨rfl,rfl,λj hj=>Xe8 hj,hs.2.2.2.1,hs.2.2.2.2⟩,.tup [.roI [i c,i T,i U,i O,rds n a b u v,Pt.scs m p q] 26 (wkA c T U O n a b u v m p q pl ph dl dh) 0,i 0],⟨⟨rfl,rfl,λ_ _=>rfl,rfl⟩,⟨rfl,rfl⟩,Ak⟩,hQ.1 ((e0 VI h3 (.inl h4)).trans h4)⟩
end
def fE:D9:=λl=>match l with
 |[.agg [.x (.int .i64 c),.x (.int .i64 T),.x (.int .i64 U),.x (.int .i64 O),.lst 4 n fr,.lst 2 m ft,.x (.int .i64 pl),.x (.int .i64 ph),.x (.int .i64 dl),.x (.int .i64 dh)]]=>some (.need [UH 4 n fr,UH 2 m ft] (.branch (decide (rdE c T U O n (col 0 fr) (col 1 fr) (col 2 fr) (col 3 fr) m (Pt.col 0 ft) (Pt.col 1 ft) pl ph dl dh=0)) (.leaf (.tup [.roI [i c,i T,i U,i O,rds n (col 0 fr) (col 1 fr) (col 2 fr) (col 3 fr),Pt.scs m (Pt.col 0 ft) (Pt.col 1 ft)] 26 (wkA c T U O n (col 0 fr) (col 1 fr) (col 2 fr) (col 3 fr) m (Pt.col 0 ft) (Pt.col 1 ft) pl ph dl dh) 0,i 0])) (.leaf (.tup [.x (.pointer none),i (rdE c T U O n (col 0 fr) (col 1 fr) (col 2 fr) (col 3 fr) m (Pt.col 0 ft) (Pt.col 1 ft) pl ph dl dh)]))))
 |_=>none
theorem wX:Sx.Enters Tryz.prog 51/\ ∀avs t,fE avs=some t->UK VN 51 avs t:=by
 refine ⟨(UI Tryz.func51),?_⟩;intro avs t h;unfold fE at h;split at h;cases h;intro Q hQ;have hr:UH 4 _ _:=GC hQ.1 _ GB;have ht:UH 2 _ _:=GC hQ.1 _ (HI _ GB);exact UK.same (SV _ _ _ _ _ _ _ _ _ _ _ _ _ _ _ _) (.cons (LK.same (.cons (.refl _) (.cons (.refl _) (.cons (.refl _) (.cons (.refl _) (.cons (.lst 4 _ _ _ hr) (.cons (.lst 2 _ _ _ ht) (.cons (.refl _) (.cons (.refl _) (.cons (.refl _) (.cons (.refl _) .nil))))))))))) .nil) Q hQ.2;cases h
section
variable (c T U O:Int)(n:Nat)(a b u v:Cg)(m:Nat)(p q:Cg)(pl ph dl dh:Int)
def asE(S W wi Z:Int):Int:=if rdE c T U O n a b u v m p q pl ph dl dh=0 then (if usB c S W wi&&bt 0 Z 10000 then 0 else 2) else rdE c T U O n a b u v m p q pl ph dl dh
def hdE(Z:Int):Int:=if rdE c T U O n a b u v m p q pl ph dl dh=0 then (if bt 0 Z 10000 then 0 else 2) else rdE c T U O n a b u v m p q pl ph dl dh
end
section
variable {c T U O:Int}{n:Nat}{a b u v:Cg}{m:Nat}{p q:Cg}{pl ph dl dh:Int}
theorem tX(h:rdE c T U O n a b u v m p q pl ph dl dh=0):n<=12/\m<=8/\vaB c T U O m p q pl ph dl dh=true/\eB c T U O n a b u v=0:=by
 unfold rdE at h;split at h;cases h;rename_i h1;split at h;rename_i h2;exact ⟨VI,VI,h2.1,h⟩;cases h
theorem Zl3(h1:n<=12)(h2:m<=8)(h3:vaB c T U O m p q pl ph dl dh=true)(h4:eB c T U O n a b u v=0):rdE c T U O n a b u v m p q pl ph dl dh=0:=by
 unfold rdE;rw [if_neg VI,if_pos ⟨h3,.inl h4⟩,h4]
end
section
variable {pl ph dl dh:Int}{L H:Cg}{k j:Nat}
theorem Jb4(h:j<k):wkF pl ph dl dh L H k (4+2*j)=L j:=by
 unfold wkF;rw [if_neg VI,if_neg VI,if_neg VI,if_neg VI,if_pos VI,if_pos VI,show (4+2*j-4) / 2=j by omega]
theorem Jb5(h:j<k):wkF pl ph dl dh L H k (5+2*j)=H j:=by
 unfold wkF;rw [if_neg VI,if_neg VI,if_neg VI,if_neg VI,if_pos VI,if_neg VI,show (5+2*j-4) / 2=j by omega]
end
theorem bK{c T U O:Int}{n:Nat}{a b u v:Cg}{m:Nat}{p q:Cg}{pl ph dl dh:Int}(h:rdE c T U O n a b u v m p q pl ph dl dh=0):drB (wkA c T U O n a b u v m p q pl ph dl dh)/\bdB (wkA c T U O n a b u v m p q pl ph dl dh)/\(1<=c/\c<=10)/\ ∀k:Nat,(k:Int)<=c->0<=bdL c T U O n a b u v m p q pl ph k/\bdL c T U O n a b u v m p q pl ph k<=4000000/\0<=bdH c T U O n a b u v m p q pl ph k/\bdH c T U O n a b u v m p q pl ph k<=4000000:=by
 obtain ⟨h1,h2,h3,h4⟩:=tX h;have hv:=SH.1 h3;have hb:=LY hv.2.1;have hs:=tL hv.1;have key: ∀k:Nat,(k:Int)<=c->0<=bdL c T U O n a b u v m p q pl ph k/\bdL c T U O n a b u v m p q pl ph k<=4000000/\0<=bdH c T U O n a b u v m p q pl ph k/\bdH c T U O n a b u v m p q pl ph k<=4000000:=by
  intro k hk;have hk:=Qc1 h4 hk;have m1:=tZ (x:= -(fwB c T U O n a b u v k 0)) (y:=Pt.boilI m p q pl) (X:=2000) (Y:=2000) VI VI;have m2:=tZ (x:=fwB c T U O n a b u v 0 k) (y:=Pt.boilI m p q ph) (X:=2000) (Y:=2000) VI VI;have d1:=gK m1.1 (show 1<=T by omega)
  have d2:=SI m2.1 (show 1<=T by omega)
  unfold bdL bdH;omega
 refine ⟨⟨?_,?_⟩,λj hj=>?_,hb.1,key⟩;show 0<=dl/\dl<=100;omega;show 0<=dh/\dh<=100;omega;by_cases hk:j / 2<c.toNat+1;have:=key (j / 2) VI;rcases Nat.mod_two_eq_zero_or_one j with h0|h0;have e:wkA c T U O n a b u v m p q pl ph dl dh (4+j)=bdL c T U O n a b u v m p q pl ph (j / 2):=by
  have:=Jb4 (pl:=pl) (ph:=ph) (dl:=dl) (dh:=dh) (L:=bdL c T U O n a b u v m p q pl ph) (H:=bdH c T U O n a b u v m p q pl ph) hk;rw [show 4+2*(j / 2)=4+j by omega] at this
  exact this
 rw [e];omega;have e:wkA c T U O n a b u v m p q pl ph dl dh (4+j)=bdH c T U O n a b u v m p q pl ph (j / 2):=by
  have:=Jb5 (pl:=pl) (ph:=ph) (dl:=dl) (dh:=dh) (L:=bdL c T U O n a b u v m p q pl ph) (H:=bdH c T U O n a b u v m p q pl ph) hk;rw [show 5+2*(j / 2)=4+j by omega] at this
  exact this
 rw [e];omega;have e:wkA c T U O n a b u v m p q pl ph dl dh (4+j)=0:=by
  unfold wkA wkF;rw [if_neg VI,if_neg VI,if_neg VI,if_neg VI,if_neg VI]
 rw [e];omega
abbrev KQ:Value:=Value.int IntKind.i64 (0:Int)
theorem vZ(c T U O:Int)(n:Nat)(a b u v:Cg)(m:Nat)(p q:Cg)(pl ph dl dh:Int):VW VN 17 [.agg [i c,i T,i U,i O,rds n a b u v,Pt.scs m p q,i pl,i ph,i dl,i dh]] (i (rdE c T U O n a b u v m p q pl ph dl dh)):=by
 refine G8 (L:=[]) Aa (Aj Ab Ac (Ah wX (UA.nil _))) VX Tryz.func17 (US Tryz.f17) G7 (t:=need [UH 4 n λk=>[Bo.i (a k),Bo.i (b k),Bo.i (u k),Bo.i (v k)],UH 2 m λk=>[Pt.i (p k),Pt.i (q k)]] (branch (decide (rdE c T U O n a b u v m p q pl ph dl dh=0)) (leaf (RV.x (KQ))) (leaf (RV.x (.int .i64 (rdE c T U O n a b u v m p q pl ph dl dh)))))) VT ?_;simp only [VL.sat,U9,UV,GJ,UB,UG,H4,FJ,beq_iff_eq,beq_eq_false_iff_ne,Ax,Bool.not_eq_false',not_true_eq_false,false_imp_iff,true_imp_iff];exact ⟨⟨Bo.isRec4 n a b u v,Pt.isRec2 m p q⟩,λh=>h.symm,λ_=>trivial⟩
def DU:UX
 |[.agg [.x (.int .i64 c),.x (.int .i64 T),.x (.int .i64 U),.x (.int .i64 O),.lst 4 n fr,.lst 2 m ft,.x (.int .i64 pl),.x (.int .i64 ph),.x (.int .i64 dl),.x (.int .i64 dh)]]=>some ([UH 4 n fr,UH 2 m ft],i (rdE c T U O n (col 0 fr) (col 1 fr) (col 2 fr) (col 3 fr) m (Pt.col 0 ft) (Pt.col 1 ft) pl ph dl dh))
 |_=>none
theorem qM:VO VN 17 DU:=by
 refine ⟨(UI Tryz.func17),?_⟩;intro avs ns res h I;unfold DU at h;split at h;cases h;have hr:UH 4 _ _:=I _ GB;have ht:UH 2 _ _:=I _ (HI _ GB);exact (vZ _ _ _ _ _ _ _ _ _ _ _ _ _ _ _ _).same (.cons (LK.same (.cons (.refl _) (.cons (.refl _) (.cons (.refl _) (.cons (.refl _) (.cons (.lst 4 _ _ _ hr) (.cons (.lst 2 _ _ _ ht) (.cons (.refl _) (.cons (.refl _) (.cons (.refl _) (.cons (.refl _) .nil))))))))))) .nil);cases h
abbrev ZD(c:Int)(T:Int)(U:Int)(O:Int)(n:Nat)(a:Cg)(b:Cg)(u:Cg)(v:Cg)(m:Nat)(p:Cg)(q:Cg)(pl:Int)(ph:Int)(dl:Int)(dh:Int):AV:=roI [iI c,iI T,iI U,iI O,QR n a b u v,W0 m p q] 26 (λa_1=>wkA c T U O n a b u v m p q pl ph dl dh a_1) 0
theorem Ww7(c T U O:Int)(n:Nat)(a b u v:Cg)(m:Nat)(p q:Cg)(pl ph dl dh:Int)(S W wi Z:Int):UK VN 58 [.agg [i c,i T,i U,i O,rds n a b u v,Pt.scs m p q,i pl,i ph,i dl,i dh],.agg [i S,i W,i wi],i Z] (.branch (decide (asE c T U O n a b u v m p q pl ph dl dh S W wi Z=0)) (.leaf (.tup [.roI [i c,i T,i U,i O,rds n a b u v,Pt.scs m p q] 26 (wkA c T U O n a b u v m p q pl ph dl dh) 0,i 0])) (.leaf (.tup [.top,i (asE c T U O n a b u v m p q pl ph dl dh S W wi Z)]))):=by
 refine GS (L:=[]) (Ae Zg4 (Ae RN Aa)) (Aj Ab Ac (Ah wX (UA.nil _))) VX Tryz.func58 (US Tryz.f58) G7 (t:=let z0:=rdE c T U O n a b u v m p q pl ph dl dh;let z1:=ZD c T U O n a b u v m p q pl ph dl dh;(need [UH 4 n λk=>[Bo.i (a k),Bo.i (b k),Bo.i (u k),Bo.i (v k)],UH 2 m λk=>[Pt.i (p k),Pt.i (q k)]] (branch (decide (z0=0)) (branch ((0:Int)==0) (need [UH 4 n λk=>[Bo.i (a k),Bo.i (b k),Bo.i (u k),Bo.i (v k)],UH 2 m λk=>[Pt.i (p k),Pt.i (q k)]] (branch (!usB c S W wi) (leaf (tup [z1,iI 2])) (branch (!bt (0:Int) Z (10000:Int)) (leaf (tup [z1,iI 2])) (leaf (tup [z1,iI 0]))))) (leaf (tup [z1,iI 0]))) (branch (z0==0) (need [UH 4 n λk=>[Bo.i (a k),Bo.i (b k),Bo.i (u k),Bo.i (v k)],UH 2 m λk=>[Pt.i (p k),Pt.i (q k)]] (branch (!usB c S W wi) (leaf (tup [Z4,iI 2])) (branch (!bt (0:Int) Z (10000:Int)) (leaf (tup [Z4,iI 2])) (leaf (tup [Z4,iI (z0)]))))) (leaf (tup [Z4,iI (z0)])))))) VT ?_;intro Q hQ;simp only [VL.sat,U9,UV,GJ,UB,UG,H4,FJ,beq_iff_eq,beq_eq_false_iff_ne,Ax,Bool.not_eq_false',not_true_eq_false,false_imp_iff,true_imp_iff] at hQ ⊢;have hr:rdE c T U O n a b u v m p q pl ph dl dh≠0->asE c T U O n a b u v m p q pl ph dl dh S W wi Z=rdE c T U O n a b u v m p q pl ph dl dh:=λh=>if_neg h;have h2:rdE c T U O n a b u v m p q pl ph dl dh=0->(usB c S W wi=false\/bt 0 Z 10000=false)->asE c T U O n a b u v m p q pl ph dl dh S W wi Z=2:=λh h'=>by
  unfold asE;rw [if_pos h,if_neg (by rcases h' with h'|h'<;>simp [h'])]
 have h0:rdE c T U O n a b u v m p q pl ph dl dh=0->usB c S W wi=true->bt 0 Z 10000=true->asE c T U O n a b u v m p q pl ph dl dh S W wi Z=0:=λh h' h''=>by
  unfold asE;rw [if_pos h,h',h''];rfl
 have bad: ∀(x:AV) (k:Int),asE c T U O n a b u v m p q pl ph dl dh S W wi Z=k->k≠0-> ∃r',FD (.tup [x,i k]) r'/\Q r':=λx k he hk=>by
  rw [he] at hQ;exact ⟨.tup [.top,i k],⟨by cases x<;>trivial,⟨rfl,rfl⟩,Ak⟩,hQ.2 hk⟩
 refine ⟨⟨Bo.isRec4 n a b u v,Pt.isRec2 m p q⟩,λh=>⟨⟨Bo.isRec4 n a b u v,Pt.isRec2 m p q⟩,λg=>bad _ 2 (h2 h (.inl g)) VI,λg=>⟨λg'=>bad _ 2 (h2 h (.inr g')) VI,λg'=>?_⟩⟩,λh=>⟨λh'=>absurd h' h,λ_=>?_⟩⟩;exact ⟨.tup [.roI [i c,i T,i U,i O,rds n a b u v,Pt.scs m p q] 26 (wkA c T U O n a b u v m p q pl ph dl dh) 0,i 0],⟨⟨rfl,rfl,λ_ _=>rfl,rfl⟩,⟨rfl,rfl⟩,Ak⟩,hQ.1 (h0 h g g')⟩;exact bad _ _ (hr h) h
def Qj9:D9:=λl=>match l with
 |[.agg [.x (.int .i64 c),.x (.int .i64 T),.x (.int .i64 U),.x (.int .i64 O),.lst 4 n fr,.lst 2 m ft,.x (.int .i64 pl),.x (.int .i64 ph),.x (.int .i64 dl),.x (.int .i64 dh)],.agg [.x (.int .i64 S),.x (.int .i64 W),.x (.int .i64 wi)],.x (.int .i64 Z)]=>some (.need [UH 4 n fr,UH 2 m ft] (.branch (decide (asE c T U O n (col 0 fr) (col 1 fr) (col 2 fr) (col 3 fr) m (Pt.col 0 ft) (Pt.col 1 ft) pl ph dl dh S W wi Z=0)) (.leaf (.tup [.roI [i c,i T,i U,i O,rds n (col 0 fr) (col 1 fr) (col 2 fr) (col 3 fr),Pt.scs m (Pt.col 0 ft) (Pt.col 1 ft)] 26 (wkA c T U O n (col 0 fr) (col 1 fr) (col 2 fr) (col 3 fr) m (Pt.col 0 ft) (Pt.col 1 ft) pl ph dl dh) 0,i 0])) (.leaf (.tup [.top,i (asE c T U O n (col 0 fr) (col 1 fr) (col 2 fr) (col 3 fr) m (Pt.col 0 ft) (Pt.col 1 ft) pl ph dl dh S W wi Z)]))))
 |_=>none
theorem Qt5:Sx.Enters Tryz.prog 58/\ ∀avs t,Qj9 avs=some t->UK VN 58 avs t:=by
 refine ⟨(UI Tryz.func58),?_⟩;intro avs t h;unfold Qj9 at h;split at h;cases h;intro Q hQ;have hr:UH 4 _ _:=GC hQ.1 _ GB;have ht:UH 2 _ _:=GC hQ.1 _ (HI _ GB);exact UK.same (Ww7 _ _ _ _ _ _ _ _ _ _ _ _ _ _ _ _ _ _ _ _) (.cons (LK.same (.cons (.refl _) (.cons (.refl _) (.cons (.refl _) (.cons (.refl _) (.cons (.lst 4 _ _ _ hr) (.cons (.lst 2 _ _ _ ht) (.cons (.refl _) (.cons (.refl _) (.cons (.refl _) (.cons (.refl _) .nil))))))))))) (.cons (.refl _) (.cons (.refl _) .nil))) Q hQ.2;cases h
def kpB(c T U O:Int)(n:Nat)(a b u v:Cg)(m:Nat)(p q:Cg)(pl ph dl dh:Int)(S W wi Z:Int):Bool:=decide (asE c T U O n a b u v m p q pl ph dl dh S W wi Z=0)&&keB c (wkA c T U O n a b u v m p q pl ph dl dh) S W wi Z
section
variable {c T U O:Int}{n:Nat}{a b u v:Cg}{m:Nat}{p q:Cg}{pl ph dl dh S W wi Z:Int}
theorem Jp4(h:asE c T U O n a b u v m p q pl ph dl dh S W wi Z=0):rdE c T U O n a b u v m p q pl ph dl dh=0/\usB c S W wi=true/\0<=Z/\Z<=10000:=by
 unfold asE at h;split at h;rename_i h1;split at h;rename_i h2;rw [GT] at h2;exact ⟨h1,h2.1,(bt_iff _ _ _).1 h2.2⟩;cases h;rename_i h1;exact absurd h h1
theorem Zs4(h:rdE c T U O n a b u v m p q pl ph dl dh=0)(h1:usB c S W wi=true)(h2:0<=Z/\Z<=10000):asE c T U O n a b u v m p q pl ph dl dh S W wi Z=0:=by
 unfold asE;rw [if_pos h,h1,(bt_iff _ _ _).2 h2];rfl
end
theorem Xq4(c T U O:Int)(n:Nat)(a b u v:Cg)(m:Nat)(p q:Cg)(pl ph dl dh:Int)(S W wi Z:Int):VW VN 26 [.agg [i c,i T,i U,i O,rds n a b u v,Pt.scs m p q,i pl,i ph,i dl,i dh],.agg [i S,i W,i wi],i Z] (.tup [bl (kpB c T U O n a b u v m p q pl ph dl dh S W wi Z),i (asE c T U O n a b u v m p q pl ph dl dh S W wi Z)]):=by
 refine G8 (L:=[]) (Ae Xi9 Aa) (Aj Ab Ac (Ah Qt5 (UA.nil _))) VX Tryz.func26 (US Tryz.f26) G7 (t:=let z0:=asE c T U O n a b u v m p q pl ph dl dh S W wi Z;let z1:=(wkA c T U O n a b u v m p q pl ph dl dh);(need [UH 4 n λk=>[Bo.i (a k),Bo.i (b k),Bo.i (u k),Bo.i (v k)],UH 2 m λk=>[Pt.i (p k),Pt.i (q k)]] (branch (decide (z0=0)) (branch ((0:Int)==0) (need [drB z1,bdB z1,(1:Int)<=c/\c<=10,(0:Int)<=S/\S<=W/\W<=10,(0:Int)<=wi/\wi<=1000000,(0:Int)<=Z/\Z<=100000] (leaf (RV.tup [RV.x (.bool (keB c z1 S W wi Z)),RV.x (KQ)]))) (leaf (RV.tup [RV.x (KU),RV.x (KQ)]))) (branch (z0==0) VL.fail (leaf (RV.tup [RV.x (KU),RV.x (.int .i64 (z0))])))))) VT ?_;simp only [VL.sat,U9,UV,GJ,UB,UG,H4,FJ,beq_iff_eq,beq_eq_false_iff_ne,Ax,Bool.not_eq_false',not_true_eq_false,false_imp_iff,true_imp_iff];refine ⟨⟨Bo.isRec4 n a b u v,Pt.isRec2 m p q⟩,λh=>?_,λh=>⟨λh'=>absurd h' h,λ_=>?_⟩⟩;obtain ⟨h1,h2,h3⟩:=Jp4 h;have hw:=bK h1;have hu:=tF.1 h2;refine ⟨⟨hw.1,hw.2.1,hw.2.2.1,VI,VI,VI⟩,?_,h.symm⟩;unfold kpB;rw [h];rfl;unfold kpB;rw [decide_eq_false h];rfl
def aW:UX
 |[.agg [.x (.int .i64 c),.x (.int .i64 T),.x (.int .i64 U),.x (.int .i64 O),.lst 4 n fr,.lst 2 m ft,.x (.int .i64 pl),.x (.int .i64 ph),.x (.int .i64 dl),.x (.int .i64 dh)],.agg [.x (.int .i64 S),.x (.int .i64 W),.x (.int .i64 wi)],.x (.int .i64 Z)]=>some ([UH 4 n fr,UH 2 m ft],.tup [bl (kpB c T U O n (col 0 fr) (col 1 fr) (col 2 fr) (col 3 fr) m (Pt.col 0 ft) (Pt.col 1 ft) pl ph dl dh S W wi Z),i (asE c T U O n (col 0 fr) (col 1 fr) (col 2 fr) (col 3 fr) m (Pt.col 0 ft) (Pt.col 1 ft) pl ph dl dh S W wi Z)])
 |_=>none
theorem Qj2:VO VN 26 aW:=by
 refine ⟨(UI Tryz.func26),?_⟩;intro avs ns res h I;unfold aW at h;split at h;cases h;have hr:UH 4 _ _:=I _ GB;have ht:UH 2 _ _:=I _ (HI _ GB);exact (Xq4 _ _ _ _ _ _ _ _ _ _ _ _ _ _ _ _ _ _ _ _).same (.cons (LK.same (.cons (.refl _) (.cons (.refl _) (.cons (.refl _) (.cons (.refl _) (.cons (.lst 4 _ _ _ hr) (.cons (.lst 2 _ _ _ ht) (.cons (.refl _) (.cons (.refl _) (.cons (.refl _) (.cons (.refl _) .nil))))))))))) (.cons (.refl _) (.cons (.refl _) .nil)));cases h
def hdN(c T U O:Int)(n:Nat)(a b u v:Cg)(m:Nat)(p q:Cg)(pl ph dl dh:Int)(Z:Int):Nat:=if hdE c T U O n a b u v m p q pl ph dl dh Z=0 then c.toNat+1 else 0
theorem B2{P:Program}{c:Code}{ps:List Prop}{sp:UF}(h:U9 ps->HP P c sp):HP P c (FH ps sp):=λcx hf=>wJ (λhp=>h hp cx hf)
theorem Zs1{g h:Cg}{k j:Nat}{x y:Int}(hx:x=g k)(hy:y=h k)(hj:j<k+1):GD k (λk=>[i (g k),i (h k)]) (U3 2 [i x,i y]) j=[i (g j),i (h j)]:=by
 subst hx;subst hy;show H3 (decide (j<k)) [i (g j),i (h j)] (U3 2 [i (g k),i (h k)] (j-k))=_;rw [show j-k=0 by omega]
 by_cases hj:j<k;rw [decide_eq_true hj];rfl;obtain rfl:j=k:=VI;rw [decide_eq_false hj];rfl
section
variable (c T U O:Int)(n:Nat)(a b u v:Cg)(m:Nat)(p q:Cg)(pl ph dl dh:Int)(Z:Int)
def Jv0:St:={σ:=mkS 37 [(0,.agg [i c,i T,i U,i O,rds n a b u v,Pt.scs m p q,i pl,i ph,i dl,i dh]),(1,i Z),(2,.fn (.func 72) [] []),(3,.ptr 0 0),(4,.ptr 1 0),(5,.ptr 2 0),(6,.x (.slice none 0 0)),(7,i 0),(8,.ptr 10 0),(9,i 0),(10,.ptr 18 0),(26,.fn (.func 140) [] [.ro [i 0],.ro [i c]])],m:=[(901,.row 51 2 0 (λk=>[i (onL (wkA c T U O n a b u v m p q pl ph dl dh) k Z),i (onH (wkA c T U O n a b u v m p q pl ph dl dh) k Z)])),(18,.cells 112 [.row 901]),(10,.cells 124 [.roI [i c,i T,i U,i O,rds n a b u v,Pt.scs m p q] 26 (wkA c T U O n a b u v m p q pl ph dl dh) 0]),(2,.cells 163 [.fn (.func 72) [] []]),(1,.cells 3 [i Z]),(0,.cells 53 [i c,i T,i U,i O,rds n a b u v,Pt.scs m p q,i pl,i ph,i dl,i dh])],nx:=902}
noncomputable def Jz4:Code:=SS (VQ (U6 Tryz.f71) 0)
noncomputable def Jy5:Code:=SR (VQ (U6 Tryz.f71) 0)
def oU(k:Nat):St:={σ:=H5 [] (Jv0 c T U O n a b u v m p q pl ph dl dh Z).σ,m:=[(901,.row 51 2 k (λk=>[i (onL (wkA c T U O n a b u v m p q pl ph dl dh) k Z),i (onH (wkA c T U O n a b u v m p q pl ph dl dh) k Z)])),(18,.cells 112 [.row 901]),(10,.cells 124 [.roI [i c,i T,i U,i O,rds n a b u v,Pt.scs m p q] 26 (wkA c T U O n a b u v m p q pl ph dl dh) 0]),(2,.cells 163 [.fn (.func 72) [] []]),(1,.cells 3 [i Z]),(0,.cells 53 [i c,i T,i U,i O,rds n a b u v,Pt.scs m p q,i pl,i ph,i dl,i dh])],nx:=902}
def nZ(k:Nat):G6->Option St
 | .normal=>some {σ:=H5 [] (Jv0 c T U O n a b u v m p q pl ph dl dh Z).σ,m:=[(901,.row 51 2 ((c-0+1).toNat) (λk=>[i (onL (wkA c T U O n a b u v m p q pl ph dl dh) k Z),i (onH (wkA c T U O n a b u v m p q pl ph dl dh) k Z)])),(18,.cells 112 [.row 901]),(10,.cells 124 [.roI [i c,i T,i U,i O,rds n a b u v,Pt.scs m p q] 26 (wkA c T U O n a b u v m p q pl ph dl dh) 0]),(2,.cells 163 [.fn (.func 72) [] []]),(1,.cells 3 [i Z]),(0,.cells 53 [i c,i T,i U,i O,rds n a b u v,Pt.scs m p q,i pl,i ph,i dl,i dh])],nx:=902}
 |_=>none
def T_eO:CT:= .leaf (.normal,oU c T U O n a b u v m p q pl ph dl dh Z ((c-0+1).toNat))
def Zc3:UF:=GI [(.cell 18 0,901,51,2)] (HB (oU c T U O n a b u v m p q pl ph dl dh Z (0)) (T_eO c T U O n a b u v m p q pl ph dl dh Z))
end
abbrev ZW(c:Int):AV:=AV.fn (Fn.func 140) [] [AV.ro [iI 0],AV.ro [iI c]]
abbrev J3:Prop:=AV.fn (Fn.func 72) [] []=AV.fn (Fn.func 72) [] []
abbrev KV:Ext:={R:=[(95,aT)],H:=[],C:=[(51,fE)] }
section
variable (c T U O:Int)(n:Nat)(a b u v:Cg)(m:Nat)(p q:Cg)(pl ph dl dh:Int)(Z:Int)
theorem Jn5(VR:rdE c T U O n a b u v m p q pl ph dl dh=0)(UD:0<=Z/\Z<=10000)(HF:drB (wkA c T U O n a b u v m p q pl ph dl dh)/\bdB (wkA c T U O n a b u v m p q pl ph dl dh)/\1<=c/\c<=10):HP VN (.rangeFunc (rfF (VQ (U6 Tryz.f71) 0)) (jF (VQ (U6 Tryz.f71) 0)) Jz4 Jy5) (Zc3 c T U O n a b u v m p q pl ph dl dh Z):=by
 refine P9 [(.cell 18 0,901,51,2)] (L:=[]) (Ae RN (Ae We7 Aa)) (Aj (Af dE Ab) Ac (Ah wX (UA.nil _))) VX U1 (V:=Nat) (oU c T U O n a b u v m p q pl ph dl dh Z) (λk=>k<=((c-0+1).toNat)) (λk=>k) (nZ c T U O n a b u v m p q pl ph dl dh Z) (x0:=0) VS rfl ?_ ?_ ?_ ?_ (g:=140) (caps:=[.ro [i 0],.ro [i c]]) VT VT (EI 0 c VI VI) (λ_=>rfl) ?_;rintro k;kernel_rfl;rintro k y E h;unfold nZ at h;split at h;cases h;kernel_rfl;cases h;rintro k;rfl;rintro k y E h;unfold nZ at h;split at h;cases h;rfl;cases h;rintro Q hQ k hx;refine ⟨λhlt=>⟨(k+1),rfl,?_⟩,λPL=>?_⟩;(with_reducible refine D2 (t:=let z0:=(wkA c T U O n a b u v m p q pl ph dl dh);let z1:=((0:Int)+(k:Int)).toNat;(need [drB z0,bdB z0,(0:Int)<=0+(k:Int)/\(0:Int)+(k:Int)<=10,(0:Int)<=Z/\Z<=100000] (need [(k+1)*16<=140737488355328,RH 1 (U3 2 [iI (onL z0 z1 Z),iI (onH z0 z1 Z)])] (need [X9 c T U O n a b u v m p q pl ph dl dh,Z=Z,J3,KH,VY (ptr 1 0),VY (ptr 2 0),ZA=ZA,K2,VY (ptr 10 0),K2,Y0,ZW c=ZW c,k+1=k+1,GU (k+1) (GD k (λk=>[iI (onL z0 k Z),iI (onH z0 k Z)]) (U3 2 [iI (onL z0 z1 Z),iI (onH z0 z1 Z)])) (λi=>[iI (onL z0 i Z),iI (onH z0 i Z)]),VY (AV.row 901),VY (ZD c T U O n a b u v m p q pl ph dl dh),J3,Z=Z,c=c,T=T,U=U,O=O,YL n a b u v,YP m p q,pl=pl,ph=ph,dl=dl,dh=dh] (leaf G6.normal))))) VT ?_)
 simp only [VL.sat,U9,UG]
 have ek:((0:Int)+(k:Int)).toNat=k:=VI;refine ⟨⟨HF.1,HF.2.1,VI,VI⟩,⟨VI,λj hj a ha=>FG ha (by simp [AV.one,Value.oneCell'])⟩,λj hj=>?_,VI⟩
 rw [ek];exact Zs1 rfl rfl hj;subst PL;exact hQ
abbrev YO:Value:=Value.slice none 0 0
theorem Wt7:VW VN 71 [.agg [i c,i T,i U,i O,rds n a b u v,Pt.scs m p q,i pl,i ph,i dl,i dh],i Z,.fn (.func 72) [] []] (.tup [.lst 2 (hdN c T U O n a b u v m p q pl ph dl dh Z) (λk=>[i (onL (wkA c T U O n a b u v m p q pl ph dl dh) k Z),i (onH (wkA c T U O n a b u v m p q pl ph dl dh) k Z)]),i (hdE c T U O n a b u v m p q pl ph dl dh Z)]):=by
 refine G8 (L:=[FH [rdE c T U O n a b u v m p q pl ph dl dh=0,0<=Z/\Z<=10000,drB (wkA c T U O n a b u v m p q pl ph dl dh)/\bdB (wkA c T U O n a b u v m p q pl ph dl dh)/\1<=c/\c<=10] (Zc3 c T U O n a b u v m p q pl ph dl dh Z)]) (Ae RN (Ae We7 Aa)) (Aj (Af dE Ab) Ac (Ah wX (UA.nil _))) VX Tryz.func71 (US Tryz.f71) (UY (lpE (b:= .rangeFunc (rfF (VQ (U6 Tryz.f71) 0)) (jF (VQ (U6 Tryz.f71) 0)) Jz4 Jy5) VT<|B2 (λh=>Jn5 c T U O n a b u v m p q pl ph dl dh Z h.1 h.2.1 h.2.2))) (t:=let z0:=wkA c T U O n a b u v m p q pl ph dl dh;let z1:=rdE c T U O n a b u v m p q pl ph dl dh;let z2:=(leaf (RV.tup [RV.lst 2 (c-0+1).toNat λk=>[iI (onL (z0) k Z),iI (onH (z0) k Z)],RV.x (KQ)]));let z3:=(leaf (RV.tup [RV.x (YO),RV.x (.int .i64 (2:Int))]));(need [UH 4 n λk=>[Bo.i (a k),Bo.i (b k),Bo.i (u k),Bo.i (v k)],UH 2 m λk=>[Pt.i (p k),Pt.i (q k)]] (branch (decide (z1=0)) (branch ((0:Int) != 0) (leaf (RV.tup [RV.x (YO),RV.x (KQ)])) (branch (!bt (0:Int) Z (10000:Int)) z3 (need [z1=0,(0:Int)<=Z/\Z<=10000,drB (z0)/\bdB (z0)/\(1:Int)<=c/\c<=10] (need [X9 c T U O n a b u v m p q pl ph dl dh,Z=Z,J3,KH,VY (ptr 1 0),VY (ptr 2 0),ZA=ZA,K2,VY (ptr 10 0),K2,Y0,ZW c=ZW c,0=0,∀(i:Nat),i<0->[]=[iI (onL (z0) i Z),iI (onH (z0) i Z)],VY (AV.row 901),VY (ZD c T U O n a b u v m p q pl ph dl dh),J3,Z=Z,c=c,T=T,U=U,O=O,YL n a b u v,YP m p q,pl=pl,ph=ph,dl=dl,dh=dh] z2)))) (branch (z1 != 0) (leaf (RV.tup [RV.x (YO),RV.x (.int .i64 (z1))])) (branch (!bt (0:Int) Z (10000:Int)) z3 (need [z1=0,(0:Int)<=Z/\Z<=10000,drB (z0)/\bdB (z0)/\(1:Int)<=c/\c<=10] (need [X9 c T U O n a b u v m p q pl ph dl dh,Z=Z,J3,KH,VY (ptr 1 0),VY (ptr 2 0),ZA=ZA,K2,VY (ptr 10 0),z1=0,Y0,ZW c=ZW c,0=0,∀(i:Nat),i<0->[]=[iI (onL (z0) i Z),iI (onH (z0) i Z)],VY (AV.row 901),AV.x (.pointer none)=roI [iI c,iI T,iI U,iI O,QR n a b u v,W0 m p q] 26 (λa_1=>z0 a_1) 0,J3,Z=Z,c=c,T=T,U=U,O=O,YL n a b u v,YP m p q,pl=pl,ph=ph,dl=dl,dh=dh] z2))))))) VT ?_
 simp only [VL.sat,U9,UV,GJ,UB,UG,H4,FJ,beq_iff_eq,beq_eq_false_iff_ne,Ax,Bool.not_eq_false',not_true_eq_false,false_imp_iff,true_imp_iff];have e2:rdE c T U O n a b u v m p q pl ph dl dh=0->bt 0 Z 10000=false->hdE c T U O n a b u v m p q pl ph dl dh Z=2:=λh h'=>by
  unfold hdE;rw [if_pos h,h'];rfl
 have e0:rdE c T U O n a b u v m p q pl ph dl dh=0->bt 0 Z 10000=true->hdE c T U O n a b u v m p q pl ph dl dh Z=0:=λh h'=>by
  unfold hdE;rw [if_pos h,h'];rfl
 have er: ¬rdE c T U O n a b u v m p q pl ph dl dh=0->hdE c T U O n a b u v m p q pl ph dl dh Z=rdE c T U O n a b u v m p q pl ph dl dh:=λh=>if_neg h;have eN: ∀k:Int,hdE c T U O n a b u v m p q pl ph dl dh Z=k->k≠0->(eV (YO)/\hdN c T U O n a b u v m p q pl ph dl dh Z=0)/\k=hdE c T U O n a b u v m p q pl ph dl dh Z:=λk h hk=>⟨⟨by trivial,if_neg (by rw [h];exact hk)⟩,h.symm⟩
 have eP:rdE c T U O n a b u v m p q pl ph dl dh=0->bt 0 Z 10000=true->hdN c T U O n a b u v m p q pl ph dl dh Z=c.toNat+1:=λh h'=>if_pos (e0 h h');refine ⟨⟨Bo.isRec4 n a b u v,Pt.isRec2 m p q⟩,λh=>⟨λh'=>eN 2 (e2 h h') (by decide),λh'=>?_⟩,λh=>⟨λ_=>eN _ (er h) h,λh''=>absurd h'' h⟩⟩
 have hw:=bK h;have hb:=(bt_iff _ _ _).1 h';refine ⟨⟨h,hb,hw.1,hw.2.1,hw.2.2.1⟩,λj hj=>absurd hj (Aq _),⟨?_,λj _ x hx=>?_⟩,(e0 h h').symm⟩;rw [eP h h'];omega;simp only [GM,D7,or_false] at hx;rcases hx with rfl|rfl<;>exact Ak
end
def Qg4:UX
 |[.agg [.x (.int .i64 c),.x (.int .i64 T),.x (.int .i64 U),.x (.int .i64 O),.lst 4 n fr,.lst 2 m ft,.x (.int .i64 pl),.x (.int .i64 ph),.x (.int .i64 dl),.x (.int .i64 dh)],.x (.int .i64 Z),.fn (.func 72) [] []]=>some ([UH 4 n fr,UH 2 m ft],.tup [.lst 2 (hdN c T U O n (col 0 fr) (col 1 fr) (col 2 fr) (col 3 fr) m (Pt.col 0 ft) (Pt.col 1 ft) pl ph dl dh Z) (λk=>[i (onL (wkA c T U O n (col 0 fr) (col 1 fr) (col 2 fr) (col 3 fr) m (Pt.col 0 ft) (Pt.col 1 ft) pl ph dl dh) k Z),i (onH (wkA c T U O n (col 0 fr) (col 1 fr) (col 2 fr) (col 3 fr) m (Pt.col 0 ft) (Pt.col 1 ft) pl ph dl dh) k Z)]),i (hdE c T U O n (col 0 fr) (col 1 fr) (col 2 fr) (col 3 fr) m (Pt.col 0 ft) (Pt.col 1 ft) pl ph dl dh Z)])
 |_=>none
theorem Wt6:VO VN 71 Qg4:=by
 refine ⟨(UI Tryz.func71),?_⟩;intro avs ns res h I;unfold Qg4 at h;split at h;cases h;have hr:UH 4 _ _:=I _ GB;have ht:UH 2 _ _:=I _ (HI _ GB);exact (Wt7 _ _ _ _ _ _ _ _ _ _ _ _ _ _ _ _ _).same (.cons (LK.same (.cons (.refl _) (.cons (.refl _) (.cons (.refl _) (.cons (.refl _) (.cons (.lst 4 _ _ _ hr) (.cons (.lst 2 _ _ _ ht) (.cons (.refl _) (.cons (.refl _) (.cons (.refl _) (.cons (.refl _) .nil))))))))))) (.cons (.refl _) (.cons (.refl _) .nil)));cases h
theorem vY(c T U O:Int)(n:Nat)(a b u v:Cg)(m:Nat)(p q:Cg)(pl ph dl dh:Int)(Z:Int):FP VN 43 [.agg [i c,i T,i U,i O,rds n a b u v,Pt.scs m p q,i pl,i ph,i dl,i dh],i Z] (.tup [.lst 2 (hdN c T U O n a b u v m p q pl ph dl dh Z) (λk=>[i (onL (wkA c T U O n a b u v m p q pl ph dl dh) k Z),i (onH (wkA c T U O n a b u v m p q pl ph dl dh) k Z)]),i (hdE c T U O n a b u v m p q pl ph dl dh Z)]):=by
 refine D1 (L:=[]) (Ae Wt6 Aa) Ad VX Tryz.func43 (US Tryz.f43) G7 (t:=need [UH 4 n λk=>[Bo.i (a k),Bo.i (b k),Bo.i (u k),Bo.i (v k)],UH 2 m λk=>[Pt.i (p k),Pt.i (q k)]] (leaf (tup [lst 2 (hdN c T U O n a b u v m p q pl ph dl dh Z) λk=>[iI (onL (wkA c T U O n a b u v m p q pl ph dl dh) k Z),iI (onH (wkA c T U O n a b u v m p q pl ph dl dh) k Z)],iI (hdE c T U O n a b u v m p q pl ph dl dh Z)]))) VT ?_;simp only [VL.sat,U9,UG];exact ⟨⟨Bo.isRec4 n a b u v,Pt.isRec2 m p q⟩,⟨rfl,rfl,λ_ _=>rfl⟩,⟨rfl,rfl⟩,Ak⟩
end Go.Proofs.YtakpdkmhclhlnaaGreatDoor
namespace Go.Proofs.YtakpdkmhclhlnaaGreatDoor.Hd
open Go Go.Sx Go.RowKit Bo
open Go.Sx.VL (need branch leaf)
open Go.Sx.AV (lst ptr agg roI tup top)
def S7:UX
 |[.x (.int .i64 n),.x (.int .i64 U),.x (.int .i64 O)]=>some ([],bl (bt U n O))
 |_=>none
abbrev WK:Value:=Value.bool false
theorem V7{p:Prop}(h:p:=by
 simp only [VL.sat,U9,UV,GJ,UB,UG];all_goals (simp+contextual [bt,insB,Bo.bt,Bo.insB,Bool.and_assoc]);all_goals omega):p:=h
theorem pX(n U O:Int):VW VN 122 [i n,i U,i O] (bl (bt U n O)):=by
 refine GV Tryz.func122 (t:=branch (decide (U<=n)) (leaf (RV.x (.bool (decide (n<=O))))) (leaf (RV.x (WK)))) VT ?_;exact V7
theorem zP:VO VN 122 S7:=by
 refine ⟨(UI Tryz.func122),?_⟩;intro avs ns res h I;unfold S7 at h;split at h;cases h;exact pX _ _ _;cases h
def S9:UX
 |[.agg [.x (.int .i64 a),.x (.int .i64 b)],.x (.int .i64 U),.x (.int .i64 O)]=>some ([],bl (insB U a b O))
 |_=>none
theorem s8(a b U O:Int):VW VN 163 [.agg [i a,i b],i U,i O] (bl (insB U a b O)):=by
 refine GV Tryz.func163 (t:=branch (decide (U<=a)) (branch (decide (a<=b)) (leaf (RV.x (.bool (decide (b<=O))))) (leaf (RV.x (WK)))) (leaf (RV.x (WK)))) VT ?_;exact V7
theorem IU:VO VN 163 S9:=by
 refine ⟨(UI Tryz.func163),?_⟩;intro avs ns res h I;unfold S9 at h;split at h;cases h;exact s8 _ _ _ _;cases h
def S8:UX
 |[.agg [.x (.int .i64 a),.x (.int .i64 b)]]=>some ([],bl (insB (-100) a b 100))
 |_=>none
theorem s7(a b:Int):VW VN 121 [.agg [i a,i b]] (bl (insB (-100) a b 100)):=by
 refine U0 (L:=[]) (Ae IU Aa) VX Tryz.func121 (US Tryz.f121) U1 (t:=leaf (RV.x (.bool (insB (-100:Int) a b (100:Int))))) VT ?_;exact YX
theorem s6:VO VN 121 S8:=by
 refine ⟨(UI Tryz.func121),?_⟩;intro avs ns res h I;unfold S8 at h;split at h;cases h;exact s7 _ _;cases h
def Qg8:UX
 |[.agg [.x (.int .i64 a),.x (.int .i64 b)]]=>some ([],bl (insB 0 a b 1000))
 |_=>none
theorem Wv8(a b:Int):VW VN 167 [.agg [i a,i b]] (bl (insB 0 a b 1000)):=by
 refine U0 (L:=[]) (Ae IU Aa) VX Tryz.func167 (US Tryz.f167) U1 (t:=leaf (RV.x (.bool (insB (0:Int) a b (1000:Int))))) VT ?_;exact YX
theorem lL:VO VN 167 Qg8:=by
 refine ⟨(UI Tryz.func167),?_⟩;intro avs ns res h I;unfold Qg8 at h;split at h;cases h;exact Wv8 _ _;cases h
def aU:UX
 |[.x (.int .i64 n)]=>some ([0<=n/\n<=1000],i (1+n))
 |_=>none
theorem Wv1(n:Int)(VR:0<=n/\n<=1000):VW VN 54 [i n] (i (1+n)):=by
 refine GV Tryz.func54 (t:=need [VK ((1:Int)+n)] (leaf (RV.x (.int .i64 ((1:Int)+n))))) VT ?_;simp only [VL.sat,U9,UV,GJ,UB,VK,UG];all_goals first|omega|grind
theorem RM:VO VN 54 aU:=by
 refine ⟨(UI Tryz.func54),?_⟩;intro avs ns res h I;unfold aU at h;split at h;cases h;exact Wv1 _ (I _ VS);cases h
def aV:UX
 |[.x (.int .i64 n)]=>some ([0<=n/\n<=1000],i (7+n))
 |_=>none
theorem Wv3(n:Int)(VR:0<=n/\n<=1000):VW VN 127 [i n] (i (7+n)):=by
 refine GV Tryz.func127 (t:=need [VK ((7:Int)+n)] (leaf (RV.x (.int .i64 ((7:Int)+n))))) VT ?_;exact VB
theorem LU:VO VN 127 aV:=by
 refine ⟨(UI Tryz.func127),?_⟩;intro avs ns res h I;unfold aV at h;split at h;cases h;exact Wv3 _ (I _ VS);cases h
def kJ:UX:=kH
theorem Qs8(a b:Int):VW VN 128 [.lst 1 2 (λk=>[i (if k=0 then a else b)])] (i (min a b)):=by
 refine U0 (L:=[]) (Ae SQ Aa) VX Tryz.func128 (US Tryz.f128) U1 (t:=leaf (RV.x (.int .i64 (min (if 0=0 then a else b) (if 1=0 then a else b))))) VT ?_
 simp [VL.sat,UV,UB]
theorem R9:VO VN 128 kJ:=by
 refine ⟨(UI Tryz.func128),?_⟩;intro avs ns res h I;unfold kJ kH at h;split at h;rename_i f;split at h;rename_i a b h0 h1;cases h;refine (Qs8 a b).same (.cons (.lst 1 2 _ _ ?_) .nil);intro k hk;rcases (show k=0\/k=1 by omega) with rfl|rfl
 exact h0;exact h1;cases h;cases h
def mA:UX
 |[.agg [.lst 2 3 f,.x (.int .i64 er),.lst 3 N bf],.x (.int .i64 n)]=>some ([],bl (bt 0 n 2))
 |_=>none
theorem Qs9(f:Ci)(er:Int)(N:Nat)(bf:Ci)(n:Int):VW VN 166 [.agg [.lst 2 3 f,i er,.lst 3 N bf],i n] (bl (bt 0 n 2)):=by
 refine U0 (L:=[]) (Ae zP Aa) VX Tryz.func166 (US Tryz.f166) U1 (t:=need [VK (((3:Nat):Int)-1)] (leaf (RV.x (.bool (bt (0:Int) n (((3:Nat):Int)-1)))))) VT ?_;simp [VL.sat,U9,UV,UB,VK]
theorem OQ:VO VN 166 mA:=by
 refine ⟨(UI Tryz.func166),?_⟩;intro avs ns res h I;unfold mA at h;split at h;cases h;exact Qs9 _ _ _ _ _;cases h
def snB(r:Cg):Nat->Int->Bool
 | 0,_=>false
 |k+1,q=>snB r k q||(r k==q)
theorem tM(r:Cg)(q:Int): ∀k,snB r k q=true↔ ∃j,j<k/\r j=q
 | 0=>by simp [snB]
 |k+1=>by
  simp only [snB,Bl,tM r q k,beq_iff_eq];constructor;rintro (⟨j,h1,h2⟩|h);exact ⟨j,VI,h2⟩;exact ⟨k,VI,h⟩;rintro ⟨j,h1,h2⟩;rcases (show j<k\/j=k by omega) with h|rfl
  exact .inl ⟨j,h,h2⟩;exact .inr h2
abbrev bts(m:Nat)(r v:Cg):AV:= .lst 2 m (λj=>[i (r j),i (v j)])
abbrev WH(f:Ci):AV:=lst 2 3 λa=>f a
abbrev XG(m:Nat)(r:Cg)(v:Cg):AV:=lst 2 m λj=>[iI (r j),iI (v j)]
abbrev JY(N:Nat)(bf:Ci):AV:=lst 3 N λa=>bf a
section
variable (f:Ci)(er:Int)(N:Nat)(bf:Ci)(U O:Int)(m:Nat)(r v:Cg)
def Zx6:St:={σ:=[agg [WH f,iI er,JY N bf],agg [iI U,iI O,XG m r v],ptr 0 0,ptr 1 0,top,ptr 3 0,top,top,top,XG m r v,iI (m:Int)]++HH 28 [],m:=[(3,GN.cells 278 [AV.x (WK),AV.x (WK),AV.x (WK),AV.x (WK),AV.x (WK),AV.x (WK)]),(1,GN.cells 148 [iI U,iI O,XG m r v]),(0,GN.cells 59 [WH f,iI er,JY N bf])],nx:=8}
noncomputable def Jy8:Code:=U7 (VQ (U6 Tryz.f124) 0)
def Wm0(k:Nat):St:=(upE [(11,i k)] [(3,.cells 278 [bl (snB r (k) 0),bl (snB r (k) 1),bl (snB r (k) 2),bl (snB r (k) 3),bl (snB r (k) 4),bl (snB r (k) 5)]),(1,.cells 148 [i U,i O,bts m r v]),(0,.cells 59 [.lst 2 3 f,i er,.lst 3 N bf])] (Zx6 f er N bf U O m r v))
def E6(k:Nat):G6->Option St
 | .exit 0=>some (upE [] [(3,.cells 278 [bl (snB r (m) 0),bl (snB r (m) 1),bl (snB r (m) 2),bl (snB r (m) 3),bl (snB r (m) 4),bl (snB r (m) 5)]),(1,.cells 148 [i U,i O,bts m r v]),(0,.cells 59 [.lst 2 3 f,i er,.lst 3 N bf])] (Zx6 f er N bf U O m r v))
 |_=>none
def Ju1:CT:= .leaf (.exit 0,(E6 f er N bf U O m r v 0 (.exit 0)).getD (Zx6 f er N bf U O m r v))
def Zc6:UF:=(HB (Wm0 f er N bf U O m r v (0)) (Ju1 f er N bf U O m r v))
end
abbrev QK:Prop:=ptr 0 0=ptr 0 0
abbrev WR:Prop:=ptr 1 0=ptr 1 0
abbrev ZH:Prop:=ptr 3 0=ptr 3 0
theorem YW{p:Prop}(h:p:=by
 (with_reducible repeat' first|apply Al|intro _)
 all_goals first|exact Ak|omega|with_reducible rfl|(rename_i E hE;cases hE;exact hQ)|rfl):p:=h
section
variable (f:Ci)(er:Int)(N:Nat)(bf:Ci)(U O:Int)(m:Nat)(r v:Cg)
theorem Jp0(VR:m<=1000)(UD: ∀j,j<m->0<=r j/\r j<=2/\ -1000<=v j/\v j<=2000)(HF: ∀j k,j<k->k<m->r j≠r k)(DM:insB 0 U O 1000=true):G0 VN (.loop Jy8) (Zc6 f er N bf U O m r v):=by
 refine HG (L:=[]) (Ae OQ (Ae zP (Ae lL Aa))) VX U1 (X:=Nat) (Wm0 f er N bf U O m r v) (λk=>k<=m) (λk=>m-k) (E6 f er N bf U O m r v) (x0:=0) VS ?_ ?_ ?_;rintro k;kernel_rfl;rintro k y E h;unfold E6 at h;split at h;cases h;kernel_rfl;cases h;rintro Q hQ k hx;refine ⟨(k+1),?_⟩;(with_reducible refine D2 (t:=branch (decide ((k:Int)<(m:Int))) (need [UE k m] (branch (!bt (0:Int) (r k) (2:Int)) VL.fail (need [UE (r k) 6] (need [0+(r k).toNat*1<List.length [snB r k (0:Int),snB r k (1:Int),snB r k (2:Int),snB r k (3:Int),snB r k (4:Int),snB r k (5:Int)]] (branch (match [snB r k (0:Int),snB r k (1:Int),snB r k (2:Int),snB r k (3:Int),snB r k (4:Int),snB r k (5:Int)][0+(r k).toNat*1]? with|some x=>x|none=>false) VL.fail (branch (!bt (-1000:Int) (v k) (2000:Int)) VL.fail (need [UE (r k) 6] (need [0+(r k).toNat*1<List.length [snB r k (0:Int),snB r k (1:Int),snB r k (2:Int),snB r k (3:Int),snB r k (4:Int),snB r k (5:Int)]] (need [VK ((k:Int)+1)] (need [VY (agg [WH f,iI er,JY N bf]),VY (agg [iI U,iI O,XG m r v]),QK,WR,ZH,VY (XG m r v),VY (m:Int),(k:Int)+1=(↑(k+1):Int),(if 0=0+(r k).toNat*1 then true else snB r k (0:Int))=snB r (k+1) (0:Int),(if 1=0+(r k).toNat*1 then true else snB r k (1:Int))=snB r (k+1) (1:Int),(if 2=0+(r k).toNat*1 then true else snB r k (2:Int))=snB r (k+1) (2:Int),(if 3=0+(r k).toNat*1 then true else snB r k (3:Int))=snB r (k+1) (3:Int),(if 4=0+(r k).toNat*1 then true else snB r k (4:Int))=snB r (k+1) (4:Int),(if 5=0+(r k).toNat*1 then true else snB r k (5:Int))=snB r (k+1) (5:Int),U=U,O=O,VY (XG m r v),WH f=WH f,er=er,VY (JY N bf)] (leaf G6.normal))))))))))) (need [VY (agg [WH f,iI er,JY N bf]),VY (agg [iI U,iI O,XG m r v]),QK,WR,ZH,VY (XG m r v),VY (m:Int),snB r k (0:Int)=snB r m (0:Int),snB r k (1:Int)=snB r m (1:Int),snB r k (2:Int)=snB r m (2:Int),snB r k (3:Int)=snB r m (3:Int),snB r k (4:Int)=snB r m (4:Int),snB r k (5:Int)=snB r m (5:Int),U=U,O=O,VY (XG m r v),WH f=WH f,er=er,VY (JY N bf)] (leaf (G6.exit 0)))) VT ?_)
 simp only [Ju1,E6,VL.sat,GR] at hQ;simp only [VL.sat,U9,UV,GJ,UB,VK,UG,H4,FE,FJ,FR,GH,E6]
 refine ⟨λh=>?_,λh=>?_⟩
 ·obtain ⟨h0,h1,h2,h3⟩:=UD k VI;have hno:snB r k (r k)=false:=by
   rw [←Bool.not_eq_true,tM];rintro ⟨j,hj,he⟩;exact HF j k hj VI he
  have hb1:bt 0 (r k) 2=true:=(bt_iff _ _ _).2 VI;have hb2:bt (-1000) (v k) 2000=true:=(bt_iff _ _ _).2 VI;rcases (show r k=0\/r k=1\/r k=2 by omega) with hr|hr|hr
  all_goals
   rw [hr] at hno hb1;simp [hr,hno,hb1,hb2,snB];exact YW
 obtain rfl:k=m:=VI;exact YW
theorem Ww1(VR:m<=1000)(UD: ∀j,j<m->0<=r j/\r j<=2/\ -1000<=v j/\v j<=2000)(HF: ∀j k,j<k->k<m->r j≠r k)(DM:insB 0 U O 1000=true):VW VN 124 [.agg [.lst 2 3 f,i er,.lst 3 N bf],.agg [i U,i O,bts m r v]] (bl true):=by
 refine U0 (L:=[Zc6 f er N bf U O m r v]) (Ae OQ (Ae zP (Ae lL Aa))) VX Tryz.func124 (US Tryz.f124) (UY (lpE (b:= .loop Jy8) VT<|Jp0 f er N bf U O m r v VR UD HF DM)) (t:=need [VY (agg [WH f,iI er,JY N bf]),VY (agg [iI U,iI O,XG m r v]),QK,WR,ZH,VY (XG m r v),VY (m:Int),(0:Int)=((0:Nat):Int),false=snB r 0 (0:Int),false=snB r 0 (1:Int),false=snB r 0 (2:Int),false=snB r 0 (3:Int),false=snB r 0 (4:Int),false=snB r 0 (5:Int),U=U,O=O,VY (XG m r v),WH f=WH f,er=er,VY (JY N bf)] (leaf (RV.x (.bool (insB (0:Int) U O (1000:Int)))))) VT ?_
 exact YX
end
def Ql7(m:Nat)(r v:Cg):Prop:=m<=1000/\(∀j,j<m->0<=r j/\r j<=2/\ -1000<=v j/\v j<=2000)/\ ∀j k,j<k->k<m->r j≠r k
section
variable (N:Nat)(U O:Cg)(m:Ch)(g:Nat->Ci)
abbrev bgs:AV:= .lst 3 N (λk=>[i (U k),i (O k),.lst 2 (m k) (g k)])
def Qs5:Prop:= ∀k,k<N->UH 2 (m k) (g k)/\Ql7 (m k) (col 0 (g k)) (col 1 (g k))/\insB 0 (U k) (O k) 1000=true
end
def vB(N:Nat)(bf:Ci):Prop:=N<=6/\ ∃(U O:Cg) (m:Ch) (g:Nat->Ci),(∀k,k<N->bf k=[i (U k),i (O k),.lst 2 (m k) (g k)])/\Qs5 N U O m g
def Qg9:UX
 |[.agg [.lst 2 3 f,.x (.int .i64 er),.lst 3 N bf],.agg [.x (.int .i64 U),.x (.int .i64 O),.lst 2 m g]]=>some ([UH 2 m g,Ql7 m (col 0 g) (col 1 g),insB 0 U O 1000=true],bl true)
 |_=>none
theorem Ww0:VO VN 124 Qg9:=by
 refine ⟨(UI Tryz.func124),?_⟩;intro avs ns res h I;unfold Qg9 at h;split at h;cases h;have hr:_:=I _ (GB);have hr1:_:=I _ (HI _ (GB));have hr2:_:=I _ (HI _ (HI _ (GB)));exact (Ww1 _ _ _ _ _ _ _ (col 0 _) (col 1 _) hr1.1 hr1.2.1 hr1.2.2 hr2).same (.cons (.refl _) (.cons (LK.same (.cons (.refl _) (.cons (.refl _) (.cons (.lst 2 _ _ _ hr) .nil)))) .nil));cases h
def mC:UX
 |[.agg [.x (.int .i64 U),.x (.int .i64 O),.lst 2 m g],.ro [.fn (.func 124) [.agg [.lst 2 3 f,.x (.int .i64 er),.lst 3 N bf]] []]]=>some ([UH 2 m g,Ql7 m (col 0 g) (col 1 g),insB 0 U O 1000=true],bl false)
 |_=>none
theorem Qt1(U O:Int)(m:Nat)(g:Ci)(f:Ci)(er:Int)(N:Nat)(bf:Ci)(VR:UH 2 m g)(UD:Ql7 m (col 0 g) (col 1 g))(HF:insB 0 U O 1000=true):VW VN 165 [.agg [i U,i O,.lst 2 m g],.ro [.fn (.func 124) [.agg [.lst 2 3 f,i er,.lst 3 N bf]] []]] (bl false):=by
 refine U0 (L:=[]) (Ae Ww0 Aa) VX Tryz.func165 (US Tryz.f165) U1 (t:=need [UH 2 m g,Ql7 m (col 0 g) (col 1 g),insB (0:Int) U O (1000:Int)=true] (leaf (RV.x (.bool !true)))) VT ?_;exact YX
theorem OT:VO VN 165 mC:=by
 refine ⟨(UI Tryz.func165),?_⟩;intro avs ns res h I;unfold mC at h;split at h;cases h;exact Qt1 _ _ _ _ _ _ _ _ (I _ VS) (I _ VS) (I _ VS);cases h
abbrev XQ(f:Ci)(er:Int)(N1:Nat)(bf:Ci):AV:=AV.fn (Fn.func 165) [] [AV.ro [AV.fn (Fn.func 124) [agg [WH f,iI er,lst 3 N1 λa=>bf a]] []]]
section
variable (N:Nat)
abbrev J5(U:Cg)(O:Cg)(m:Ch)(g:Nat->Ci):AV:=lst 3 N λk=>[iI (U k),iI (O k),lst 2 (m k) λa=>g k a]
def b8(U O:Cg)(m:Ch)(g:Nat->Ci)(f:Ci)(er:Int)(N1:Nat)(bf:Ci):St:={σ:=[J5 N U O m g,XQ f er N1 bf]++HH 5 [iI (N:Int)]++HH 11 [],m:=[],nx:=4}
noncomputable def Qk3:Code:=U7 (VQ (U6 Tryz.f198) 0)
def O5(U O:Cg)(m:Ch)(g:Nat->Ci)(f:Ci)(er:Int)(N1:Nat)(bf:Ci)(k:Nat):St:=(upM [(8,i k)] (b8 N U O m g f er N1 bf))
def x7(U O:Cg)(m:Ch)(g:Nat->Ci)(f:Ci)(er:Int)(N1:Nat)(bf:Ci)(k:Nat):G6->Option St
 | .exit 0=>some (upM [] (b8 N U O m g f er N1 bf))
 |_=>none
def Qf2(U O:Cg)(m:Ch)(g:Nat->Ci)(f:Ci)(er:Int)(N1:Nat)(bf:Ci):CT:= .leaf (.exit 0,(x7 N U O m g f er N1 bf 0 (.exit 0)).getD (b8 N U O m g f er N1 bf))
def mK(U O:Cg)(m:Ch)(g:Nat->Ci)(f:Ci)(er:Int)(N1:Nat)(bf:Ci):UF:=(HB (O5 N U O m g f er N1 bf (0)) (Qf2 N U O m g f er N1 bf))
end
theorem VF{p:Prop}(h:p:=by
 (with_reducible repeat' first|apply Al|intro _)
 all_goals first|exact Ak|(rename_i E hE;cases hE;exact hQ)|omega|rfl|assumption):p:=h
section
variable (N:Nat)(U O:Cg)(m:Ch)(g:Nat->Ci)(f:Ci)(er:Int)(N1:Nat)(bf:Ci)
theorem Qv2(VR:N<=6)(UD:Qs5 N U O m g):G0 VN (.loop Qk3) (mK N U O m g f er N1 bf):=by
 refine HG (L:=[]) (Ae OT Aa) VX U1 (X:=Nat) (O5 N U O m g f er N1 bf) (λk=>k<=N) (λk=>N-k) (x7 N U O m g f er N1 bf) (x0:=0) VS ?_ ?_ ?_;rintro k;kernel_rfl;rintro k y E h;unfold x7 at h;split at h;cases h;kernel_rfl;cases h;rintro Q hQ k hx;refine ⟨(k+1),?_⟩;(with_reducible refine D2 (t:=branch (decide ((k:Int)<(N:Int))) (need [UE k N] (need [UH 2 (m k) λa=>g k a,Ql7 (m k) (col 0 λa=>g k a) (col 1 λa=>g k a),insB (0:Int) (U k) (O k) (1000:Int)=true] (branch false VL.fail (need [VK ((k:Int)+1)] (need [VY (J5 N U O m g),VY (XQ f er N1 bf),VY (N:Int),(k:Int)+1=(↑(k+1):Int)] (leaf G6.normal)))))) (need [VY (J5 N U O m g),VY (XQ f er N1 bf),VY (N:Int)] (leaf (G6.exit 0)))) VT ?_)
 simp only [Qf2,x7,VL.sat,GR] at hQ;simp only [VL.sat,U9,UG,H4,VK,x7,DX]
 refine ⟨λh=>?_,λh=>?_⟩
 ·have hk:k<N:=VI;obtain ⟨h1,h2,h3⟩:=UD k hk;all_goals exact V4
 obtain rfl:k=N:=VI;exact VF
abbrev KG:Value:=Value.int IntKind.i64 (-1:Int)
theorem Xn5(VR:N<=6)(UD:Qs5 N U O m g):VW VN 198 [bgs N U O m g,.fn (.func 165) [] [.ro [.fn (.func 124) [.agg [.lst 2 3 f,i er,.lst 3 N1 bf]] []]]] (i (-1)):=by
 refine U0 (L:=[mK N U O m g f er N1 bf]) (Ae OT Aa) VX Tryz.func198 (US Tryz.f198) (UY (lpE (b:= .loop Qk3) VT<|Qv2 N U O m g f er N1 bf VR UD)) (t:=need [VY (J5 N U O m g),VY (XQ f er N1 bf),VY (N:Int),(0:Int)=((0:Nat):Int)] (leaf (RV.x (KG)))) VT ?_
 exact YX
end
def Wy8:UX
 |[.lst 3 N b,.fn (.func 165) [] [.ro [.fn (.func 124) [.agg [.lst 2 3 f,.x (.int .i64 er),.lst 3 N1 bf]] []]]]=>some ([vB N b],i (-1))
 |_=>none
theorem Xn4:VO VN 198 Wy8:=by
 refine ⟨(UI Tryz.func198),?_⟩;intro avs ns res h I;unfold Wy8 at h;split at h;cases h;obtain ⟨h0,U,O,m,g,he,hb⟩:vB _ _:=I _ GB;exact (Xn5 _ U O m g _ _ _ _ h0 hb).same (.cons (.lst 3 _ _ _ he) (.cons (.refl _) .nil));cases h
theorem Qy9{N:Nat}{U O:Cg}{m:Ch}{g:Nat->Ci}(h0:N<=6)(hb:Qs5 N U O m g):vB N (λk=>[i (U k),i (O k),.lst 2 (m k) (g k)]):=⟨h0,U,O,m,g,λ_ _=>rfl,hb⟩
theorem Xo4(N:Nat)(U O:Cg)(m:Ch)(g:Nat->Ci)(f:Ci)(er:Int)(N1:Nat)(bf:Ci)(VR:N<=6)(UD:Qs5 N U O m g):VW VN 164 [bgs N U O m g,.fn (.func 165) [] [.ro [.fn (.func 124) [.agg [.lst 2 3 f,i er,.lst 3 N1 bf]] []]]] (bl false):=by
 refine U0 (L:=[]) (Ae Xn4 Aa) VX Tryz.func164 (US Tryz.f164) U1 (t:=need [vB N λk=>[i (U k),i (O k),lst 2 (m k) (g k)]] (leaf (RV.x (.bool (decide ((-1:Int)>=(0:Int))))))) VT ?_;simp only [VL.sat,U9,UV,GJ,UB,UG,DX];exact ⟨Qy9 VR UD,rfl⟩
def Wz2:UX
 |[.lst 3 N b,.fn (.func 165) [] [.ro [.fn (.func 124) [.agg [.lst 2 3 f,.x (.int .i64 er),.lst 3 N1 bf]] []]]]=>some ([vB N b],bl false)
 |_=>none
theorem Xo3:VO VN 164 Wz2:=by
 refine ⟨(UI Tryz.func164),?_⟩;intro avs ns res h I;unfold Wz2 at h;split at h;cases h;obtain ⟨h0,U,O,m,g,he,hb⟩:vB _ _:=I _ GB;exact (Xo4 _ U O m g _ _ _ _ h0 hb).same (.cons (.lst 3 _ _ _ he) (.cons (.refl _) .nil));cases h
theorem Ww5(N:Nat)(U O:Cg)(m:Ch)(g:Nat->Ci)(f:Ci)(er:Int)(N1:Nat)(bf:Ci)(VR:N<=6)(UD:Qs5 N U O m g):VW VN 123 [bgs N U O m g,.fn (.func 124) [.agg [.lst 2 3 f,i er,.lst 3 N1 bf]] []] (bl true):=by
 refine U0 (L:=[]) (Ae Xo3 Aa) VX Tryz.func123 (US Tryz.f123) U1 (t:=need [vB N λk=>[i (U k),i (O k),lst 2 (m k) (g k)]] (leaf (RV.x (.bool !false)))) VT ?_;simp only [VL.sat,U9,UV,GJ,UB,UG,DX];exact ⟨Qy9 VR UD,rfl⟩
def Qh1:UX
 |[.lst 3 N b,.fn (.func 124) [.agg [.lst 2 3 f,.x (.int .i64 er),.lst 3 N1 bf]] []]=>some ([vB N b],bl true)
 |_=>none
theorem Ww4:VO VN 123 Qh1:=by
 refine ⟨(UI Tryz.func123),?_⟩;intro avs ns res h I;unfold Qh1 at h;split at h;cases h;obtain ⟨h0,U,O,m,g,he,hb⟩:vB _ _:=I _ GB;exact (Ww5 _ U O m g _ _ _ _ h0 hb).same (.cons (.lst 3 _ _ _ he) (.cons (.refl _) .nil));cases h
def oL(k:Nat):Int:=if k=0 then 0 else -9
def oH(k:Nat):Int:=if k=0 then 0 else 9
def ofB(f:Ci):Prop:= ∀k,k<3->f k=[i (oL k),i (oH k)]
abbrev ofs:AV:= .lst 2 3 (λk=>[i (oL k),i (oH k)])
def HC(m:Ch):Nat->Nat
 | 0=>0
 |b+1=>HC m b+m b
def GE(m:Ch):Nat->Nat->Nat×Nat
 | 0,q=>(0,q)
 |N+1,q=>if q<HC m N then GE m N q else (N,q-HC m N)
def Wc7(m:Ch)(N:Nat)(r v:Nat->Cg)(q:Nat):List Value:=
 [.agg #[.int .i64 (GE m N q).1,.int .i64 (GE m N q).2],.agg #[.int .i64 (r (GE m N q).1 (GE m N q).2),.int .i64 (v (GE m N q).1 (GE m N q).2)]]
abbrev bds(N:Nat)(U O:Cg)(m:Ch)(r v:Nat->Cg):AV:= .lst 3 N (λk=>[i (U k),i (O k),bts (m k) (r k) (v k)])
theorem aF{P:Program}{ro:Option Nat}{cx:Cx}{c:Code}{t:Nat}{F:Nat->UF}(h: ∀k,HK P ro cx c (F k)):HK P ro cx c (PP t F):=by
 intro n s tr ht Q hQ a w r;unfold PP at ht;split at ht;exact h _ n s tr ht Q hQ a w r;cases ht
theorem NP(m:Ch){b c:Nat}(h:b<=c):HC m b<=HC m c:=by
 induction h with
 |refl=>exact Am _
 |step _ ih=>exact Ar ih (Nat.le_add_right _ _)
theorem Qb0(m:Ch): ∀(N b n:Nat),b<N->n<m b->GE m N (HC m b+n)=(b,n)
 | 0,_,_,h,_=>VI
 |N+1,b,n,h,I=>by
  unfold GE;rcases (show b<N\/b=N by omega) with hb|rfl
  have:=NP m (show b+1<=N by omega)
  simp only [HC] at this;rw [if_pos VI,Qb0 m N b n hb I];rw [if_neg VI];simp
theorem TP(m:Ch): ∀(N q:Nat),q<HC m N->(GE m N q).1<N/\(GE m N q).2<m (GE m N q).1
 | 0,_,h=>by simp [HC] at h
 |N+1,q,h=>by
  simp only [HC] at h;unfold GE;split;rename_i hq;obtain ⟨h1,h2⟩:=TP m N q hq;exact ⟨VI,h2⟩;exact ⟨VS,by simp;omega⟩
def mB:UX
 |[.agg [.x (.int .i64 a),.x (.int .i64 b)],.ro [.fn (.func 121) [] []]]=>some ([],bl (!insB (-100) a b 100))
 |_=>none
theorem Qt0(a b:Int):VW VN 162 [.agg [i a,i b],.ro [.fn (.func 121) [] []]] (bl (!insB (-100) a b 100)):=by
 refine U0 (L:=[]) (Ae s6 Aa) VX Tryz.func162 (US Tryz.f162) U1 (t:=leaf (RV.x (.bool !insB (-100:Int) a b (100:Int)))) VT ?_;exact YX
theorem OR:VO VN 162 mB:=by
 refine ⟨(UI Tryz.func162),?_⟩;intro avs ns res h I;unfold mB at h;split at h;cases h;exact Qt0 _ _;cases h
abbrev ZE:AV:=AV.fn (Fn.func 162) [] [AV.ro [AV.fn (Fn.func 121) [] []]]
def b6:St:={σ:=[lst 2 3 λk=>[iI (oL k),iI (oH k)],ZE]++HH 5 [iI ((3:Nat):Int)]++HH 11 [],m:=[],nx:=4}
noncomputable def Qk2:Code:=U7 (VQ (U6 Tryz.f197) 0)
def O4(k:Nat):St:=(upM [(8,i k)] (b6))
def x6(k:Nat):G6->Option St
 | .exit 0=>some (upM [] (b6))
 |_=>none
def Qf1:CT:= .leaf (.exit 0,(x6 0 (.exit 0)).getD (b6))
def mJ:UF:=(HB (O4 (0)) (Qf1))
theorem Qv1:G0 VN (.loop Qk2) (mJ):=by
 refine HG (L:=[]) (Ae OR Aa) VX U1 (X:=Nat) (O4) (λk=>k<=3) (λk=>3-k) (x6) (x0:=0) VS ?_ ?_ ?_;rintro k;kernel_rfl;rintro k y E h;unfold x6 at h;split at h;cases h;kernel_rfl;cases h;rintro Q hQ k hx;refine ⟨(k+1),?_⟩;(with_reducible refine D2 (t:=branch (decide ((k:Int)<((3:Nat):Int))) (need [UE k 3] (branch (!insB (-100:Int) (oL k) (oH k) (100:Int)) VL.fail (need [VK ((k:Int)+1)] (need [VY (lst 2 3 λk=>[iI (oL k),iI (oH k)]),ZE=ZE,VY ((3:Nat):Int),(k:Int)+1=(↑(k+1):Int)] (leaf G6.normal))))) (need [VY (lst 2 3 λk=>[iI (oL k),iI (oH k)]),ZE=ZE,VY ((3:Nat):Int)] (leaf (G6.exit 0)))) VT ?_)
 simp only [Qf1,x6,VL.sat,GR] at hQ;simp only [VL.sat,U9,UG,H4,VK,x6,DX]
 refine ⟨λh=>?_,λh=>?_⟩
 ·have hk:k<3:=VI;rcases (show k=0\/k=1\/k=2 by omega) with rfl|rfl|rfl<;>simp [oL,oH,insB,Bo.insB]
  all_goals exact V4
 obtain rfl:k=3:=VI;exact VF
theorem Xn3:VW VN 197 [ofs,.fn (.func 162) [] [.ro [.fn (.func 121) [] []]]] (i (-1)):=by
 refine U0 (L:=[mJ]) (Ae OR Aa) VX Tryz.func197 (US Tryz.f197) (UY (lpE (b:= .loop Qk2) VT<|Qv1)) (t:=need [VY (lst 2 3 λk=>[iI (oL k),iI (oH k)]),ZE=ZE,VY ((3:Nat):Int),(0:Int)=((0:Nat):Int)] (leaf (RV.x (KG)))) VT ?_
 exact YX
def Wy7:UX
 |[.lst 2 3 f,.fn (.func 162) [] [.ro [.fn (.func 121) [] []]]]=>some ([ofB f],i (-1))
 |_=>none
theorem Xn2:VO VN 197 Wy7:=by
 refine ⟨(UI Tryz.func197),?_⟩;intro avs ns res h I;unfold Wy7 at h;split at h;cases h;have hr:_:=I _ (GB);exact (Xn3).same (.cons (.lst 2 3 _ _ hr) (.cons (.refl _) .nil));cases h
theorem Xo2:VW VN 161 [ofs,.fn (.func 162) [] [.ro [.fn (.func 121) [] []]]] (bl false):=by
 refine U0 (L:=[]) (Ae Xn2 Aa) VX Tryz.func161 (US Tryz.f161) U1 (t:=need [ofB λk=>[i (oL k),i (oH k)]] (leaf (RV.x (.bool (decide ((-1:Int)>=(0:Int))))))) VT ?_;simp only [VL.sat,U9,UV,GJ,UB,UG,DX];exact ⟨λ_ _=>rfl,rfl⟩
def Wz1:UX
 |[.lst 2 3 f,.fn (.func 162) [] [.ro [.fn (.func 121) [] []]]]=>some ([ofB f],bl false)
 |_=>none
theorem Xo1:VO VN 161 Wz1:=by
 refine ⟨(UI Tryz.func161),?_⟩;intro avs ns res h I;unfold Wz1 at h;split at h;cases h;have hr:_:=I _ (GB);exact (Xo2).same (.cons (.lst 2 3 _ _ hr) (.cons (.refl _) .nil));cases h
theorem Ww3:VW VN 120 [ofs,.fn (.func 121) [] []] (bl true):=by
 refine U0 (L:=[]) (Ae Xo1 Aa) VX Tryz.func120 (US Tryz.f120) U1 (t:=need [ofB λk=>[i (oL k),i (oH k)]] (leaf (RV.x (.bool !false)))) VT ?_;simp only [VL.sat,U9,UV,GJ,UB,UG,DX];exact ⟨λ_ _=>rfl,rfl⟩
def Qh0:UX
 |[.lst 2 3 f,.fn (.func 121) [] []]=>some ([ofB f],bl true)
 |_=>none
theorem Ww2:VO VN 120 Qh0:=by
 refine ⟨(UI Tryz.func120),?_⟩;intro avs ns res h I;unfold Qh0 at h;split at h;cases h;have hr:_:=I _ (GB);exact (Ww3).same (.cons (.lst 2 3 _ _ hr) (.cons (.refl _) .nil));cases h
def mD:UX
 |[.agg [.lst 2 3 f,.x (.int .i64 1),.lst 3 N bf]]=>some ([ofB f,vB N bf],i 0)
 |_=>none
abbrev X5:Value:=Value.int IntKind.i64 (0:Int)
abbrev JS:Value:=Value.int IntKind.i64 (1:Int)
abbrev KI:Value:=Value.int IntKind.i64 (3:Int)
theorem Qt3(f:Ci)(N:Nat)(bf:Ci)(VR:ofB f)(UD:vB N bf):VW VN 78 [.agg [.lst 2 3 f,i 1,.lst 3 N bf]] (i 0):=by
 refine U0 (L:=[]) (Ae Ww2 (Ae Ww4 (Ae zP Aa))) VX Tryz.func78 (US Tryz.f78) U1 (t:=branch (decide (((3:Nat):Int)>6)) (leaf (RV.x (KI))) (branch (decide ((N:Int)>6)) (leaf (RV.x (KI))) (branch (((3:Nat):Int)==0) (leaf (RV.x (JS))) (need [ofB f] (branch (!true) (leaf (RV.x (JS))) (branch (!bt (0:Int) (1:Int) (20:Int)) (leaf (RV.x (JS))) (need [vB N bf] (branch (!true) (leaf (RV.x (JS))) (leaf (RV.x (X5))))))))))) VT ?_;simp only [VL.sat,U9,UV,GJ,UB,UG,DX];have h6:=UD.1;simp [bt,Bo.bt,VR,UD];omega
theorem Qt2:VO VN 78 mD:=by
 refine ⟨(UI Tryz.func78),?_⟩;intro avs ns res h I;unfold mD at h;split at h;cases h;exact Qt3 _ _ _ (I _ VS) (I _ VS);cases h
def M8:UX
 |[.agg [.lst 2 3 f,.x (.int .i64 er),.lst 3 N bf]]=>some ([],.fn (.func 168) [] [.ro [.lst 2 3 f,i er,.lst 3 N bf]])
 |_=>none
abbrev W8:Ext:={}
theorem Qs6(f:Ci)(er:Int)(N:Nat)(bf:Ci):FP VN 125 [.agg [.lst 2 3 f,i er,.lst 3 N bf]] (.fn (.func 168) [] [.ro [.lst 2 3 f,i er,.lst 3 N bf]]):=by
 refine D1 (L:=[]) Aa Ad VX Tryz.func125 (US Tryz.f125) G7 (t:=leaf (AV.fn (Fn.func 168) [] [AV.ro [WH f,iI er,JY N bf]])) VT ?_;exact rfl
theorem IR:PH VN 125 M8:=by
 refine ⟨(UI Tryz.func125),?_⟩;intro avs ns res h I;unfold M8 at h;split at h;cases h;exact Qs6 _ _ _ _;cases h
abbrev Q1(N:Nat)(U:Cg)(O:Cg)(m:Ch)(r:Nat->Cg)(v:Nat->Cg):AV:=lst 3 N λk=>[iI (U k),iI (O k),lst 2 (m k) λj=>[iI (r k j),iI (v k j)]]
section
variable (l:Nat)(f:Ci)(er:Int)(N:Nat)(U O:Cg)(m:Ch)(r v:Nat->Cg)
def mV:St:={σ:=[AV.fn (Fn.yield l) [] [],AV.ro [WH f,iI er,Q1 N U O m r v]]++HH 6 [Q1 N U O m r v,iI (N:Int)]++HH 22 [],m:=[],nx:=4,gh:=some 0}
noncomputable def mX:Code:=U7 (VQ (U6 Tryz.f168) 0)
def rZ(b:Nat):St:={σ:=H5 [(3,.top),(4,.top),(5,.top),(6,.top),(10,i b)] (mV l f er N U O m r v).σ,m:=[],nx:=0,gh:=some (HC m b) }
def qT(b:Nat):G6->Option St
 | .exit 0=>some {σ:=H5 [(3,.top),(4,.top),(5,.top),(6,.top),(10,i N)] (mV l f er N U O m r v).σ,m:=[],nx:=0,gh:=some (HC m N) }
 | .ret=>some {σ:=H5 [(3,.top),(4,.top),(5,.top),(6,.top)] (mV l f er N U O m r v).σ,m:=[],nx:=0,gh:=none}
 |_=>none
def Xw7:CT:= .may True (.leaf (.exit 0,(qT l f er N U O m r v 0 (.exit 0)).getD (mV l f er N U O m r v))) (.leaf (.ret,(qT l f er N U O m r v 0 .ret).getD (mV l f er N U O m r v)))
def Xb8:UF:=GI [] (HB (rZ l f er N U O m r v (0)) (Xw7 l f er N U O m r v))
end
abbrev JP(m:Ch)(b:Nat)(r:Nat->Cg)(v:Nat->Cg):AV:=lst 2 (m b) λj=>[iI (r b j),iI (v b j)]
section
variable (l:Nat)(f:Ci)(er:Int)(N:Nat)(U O:Cg)(m:Ch)(r v:Nat->Cg)(b:Nat)
def mW:St:={σ:=[AV.fn (Fn.yield l) [] [],AV.ro [WH f,iI er,Q1 N U O m r v],top,iI (b:Int),ptr 4 0,top,top,top,Q1 N U O m r v,iI (N:Int),iI (b:Int)]++HH 5 [JP m b r v,iI (m b:Int)]++HH 14 [],m:=[(4,GN.cells 148 [iI (U b),iI (O b),JP m b r v])],nx:=11,gh:=some (HC m b) }
noncomputable def Xe6:Code:=U7 (VQ mX 0)
def A0(n:Nat):St:={σ:=H5 [(4,.top),(5,.top),(6,.top),(18,i n)] (mW l f er N U O m r v b).σ,m:=[],nx:=0,gh:=some (HC m b+n) }
def qU(n:Nat):G6->Option St
 | .exit 2=>some {σ:=H5 [(3,.top),(4,.top),(5,.top),(6,.top),(18,i (m b))] (mW l f er N U O m r v b).σ,m:=[],nx:=0,gh:=some (HC m (b+1)) }
 | .ret=>some {σ:=H5 [(3,.top),(4,.top),(5,.top),(6,.top)] (mW l f er N U O m r v b).σ,m:=[],nx:=0,gh:=none}
 |_=>none
def Xw8:CT:= .may True (.leaf (.exit 2,(qU l f er N U O m r v b 0 (.exit 2)).getD (mW l f er N U O m r v b))) (.leaf (.ret,(qU l f er N U O m r v b 0 .ret).getD (mW l f er N U O m r v b)))
def sT:UF:=GI [] (HB (A0 l f er N U O m r v b (0)) (Xw8 l f er N U O m r v b))
end
abbrev WW(N:Nat)(U:Cg)(O:Cg)(m:Ch)(r:Nat->Cg)(v:Nat->Cg):Prop:=(Q1 N U O m r v)=Q1 N U O m r v
abbrev XN(l:Nat):Prop:=AV.fn (Fn.yield l) [] []=AV.fn (Fn.yield l) [] []
abbrev J2(f:Ci)(er:Int)(N:Nat)(U:Cg)(O:Cg)(m:Ch)(r:Nat->Cg)(v:Nat->Cg):Prop:=AV.ro [WH f,iI er,Q1 N U O m r v]=AV.ro [WH f,iI er,Q1 N U O m r v]
section
variable (l:Nat)(f:Ci)(er:Int)(N:Nat)(U O:Cg)(m:Ch)(r v:Nat->Cg)
theorem Zk8(b:Nat)(VR:N<=1000)(UD: ∀b,b<N->m b<=1000)(HF:b<N){cx:Cx}(hX:VV VN {Y:=some (l,(HC m N),(Wc7 m N r v)) } cx):HK VN none cx (.loop Xe6) (sT l f er N U O m r v b):=by
 refine FL [] (L:=[]) Aa hX VX G7 (V:=Nat) (A0 l f er N U O m r v b) (λn=>n<=m b) (λn=>m b-n) (qU l f er N U O m r v b) (x0:=0) VS ?_ ?_ ?_;rintro n;kernel_rfl;rintro n y E h;unfold qU at h;split at h;cases h;kernel_rfl;cases h;kernel_rfl;cases h;rintro Q hQ n hx;refine ⟨(n+1),?_⟩;have e:HW VN [] {Y:=some (l,(HC m N),(Wc7 m N r v)) } [] [] Xe6 (A0 l f er N U O m r v b n) (A0 l f er N U O m r v b ((n+1))) (qU l f er N U O m r v b n)=(let z0:=(GE m N (HC m b+n));(branch (decide ((n:Int)<(m b:Int))) (need [UE n (m b:Int)] (need [l=l,HC m b+n<HC m N,[Value.agg {toList:=[Value.int IntKind.i64 (b:Int),Value.int IntKind.i64 (n:Int)] },Value.agg {toList:=[Value.int IntKind.i64 (r b n),Value.int IntKind.i64 (v b n)] }]=[Value.agg {toList:=[Value.int IntKind.i64 (↑(Prod.fst z0):Int),Value.int IntKind.i64 (↑(Prod.snd z0):Int)] },Value.agg {toList:=[Value.int IntKind.i64 (r (Prod.fst z0) (Prod.snd z0)),Value.int IntKind.i64 (v (Prod.fst z0) (Prod.snd z0))] }]] (VL.may True (need [VK ((n:Int)+1)] (need [XN l,J2 f er N U O m r v,VY (b:Int),WW N U O m r v,VY (N:Int),VY (b:Int),VY (JP m b r v),VY (m b:Int),(n:Int)+1=(↑(n+1):Int),HC m b+n+1=HC m b+(n+1)] (leaf G6.normal))) (need [XN l,J2 f er N U O m r v,WW N U O m r v,VY (N:Int),VY (b:Int),VY (JP m b r v),VY (m b:Int)] (leaf G6.ret))))) (need [XN l,J2 f er N U O m r v,WW N U O m r v,VY (N:Int),VY (b:Int),VY (JP m b r v),VY (m b:Int),(n:Int)=(m b:Int),HC m b+n=HC m (b+1)] (leaf (G6.exit 2))))):=VT;rw [e];simp only [Xw8,qU,VL.sat,GR] at hQ;have hQ1: ∀E,qU l f er N U O m r v b n (.exit 2)=some E->Q (.exit 2,E):=λE hE=>by cases hE;exact hQ.1 trivial
 have hQ2: ∀E,qU l f er N U O m r v b n .ret=some E->Q (.ret,E):=λE hE=>by cases hE;exact hQ.2
 simp only [VL.sat,U9,UG,H4,VK,DX];clear e hQ;have h3:=UD b HF;refine ⟨λh=>?_,λh=>?_⟩
 ·have hk:n<m b:=VI;have h1:=NP m (show b+1<=N by omega)
  simp only [HC] at h1;rw [Qb0 m N b n HF hk];all_goals exact V4
 ·obtain rfl:n=m b:=VI;all_goals exact V4
theorem Zk7(VR:N<=1000)(UD: ∀b,b<N->m b<=1000){cx:Cx}(hX:VV VN {Y:=some (l,(HC m N),(Wc7 m N r v)) } cx):HK VN none cx (.loop mX) (Xb8 l f er N U O m r v):=by
 refine FL [] (L:=[PP 10 (λb=>FH [b<N] (sT l f er N U O m r v b))]) Aa hX VX (UY (λcj hcj=>by
  have e:VQ mX 0=some (.loop Xe6):=VT;rw [e] at hcj;cases hcj;exact aF (λb=>wJ (λh=>Zk8 l f er N U O m r v b VR UD h hX)))) (V:=Nat) (rZ l f er N U O m r v) (λb=>b<=N) (λb=>N-b) (qT l f er N U O m r v) (x0:=0) VS ?_ ?_ ?_
 rintro b;kernel_rfl;rintro b y E h;unfold qT at h;split at h;cases h;kernel_rfl;cases h;kernel_rfl;cases h;rintro Q hQ b hx;refine ⟨(b+1),?_⟩;have e:HW VN [] {Y:=some (l,(HC m N),(Wc7 m N r v)) } [PP 10 (λb=>FH [b<N] (sT l f er N U O m r v b))] [] mX (rZ l f er N U O m r v b) (rZ l f er N U O m r v ((b+1))) (qT l f er N U O m r v b)=(let z0:=J2 f er N U O m r v;(branch (decide ((b:Int)<(N:Int))) (need [UE b N] (need [b<N] (need [XN l,z0,VY (b:Int),WW N U O m r v,VY (N:Int),VY (b:Int),VY (lst 2 (m b) λj=>[iI (r b j),iI (v b j)]),VY (m b:Int),(0:Int)=((0:Nat):Int),HC m b=HC m b+0] (VL.may True (need [VK ((b:Int)+1)] (need [XN l,z0,WW N U O m r v,VY (N:Int),(b:Int)+1=(↑(b+1):Int),VY (HC m (b+1))] (leaf G6.normal))) (need [XN l,z0,WW N U O m r v,VY (N:Int)] (leaf G6.ret)))))) (need [XN l,z0,WW N U O m r v,VY (N:Int),(b:Int)=(N:Int),HC m b=HC m N] (leaf (G6.exit 0))))):=VT;rw [e];simp only [Xw7,qT,VL.sat,GR] at hQ;have hQ1: ∀E,qT l f er N U O m r v b (.exit 0)=some E->Q (.exit 0,E):=λE hE=>by cases hE;exact hQ.1 trivial
 have hQ2: ∀E,qT l f er N U O m r v b .ret=some E->Q (.ret,E):=λE hE=>by cases hE;exact hQ.2
 simp only [VL.sat,U9,UG,H4,VK,DX];clear e hQ;refine ⟨λh=>?_,λh=>?_⟩
 ·have h3:=UD b VI;all_goals exact V4
 ·obtain rfl:b=N:=VI;all_goals exact V4
end
theorem lK(f:Ci)(er:Int)(N:Nat)(U O:Cg)(m:Ch)(r v:Nat->Cg)(VR:N<=1000)(UD: ∀b,b<N->m b<=1000):BD Tryz.prog 168 [.ro [.lst 2 3 f,i er,bds N U O m r v]] ((HC m N)) (Wc7 m N r v):=by
 refine BN (L:=λl=>[Xb8 l f er N U O m r v]) Aa VX (UI Tryz.func168) Tryz.func168 (US Tryz.f168) VT (λl cx hX=>UY (lpE (b:= .loop mX) VT<|Zk7 l f er N U O m r v VR UD hX)) (t:=λl=>(need [VY (AV.fn (Fn.yield l) [] []),J2 f er N U O m r v,WW N U O m r v,VY (N:Int),(0:Int)=((0:Nat):Int),0=HC m 0] (VL.may True (need [VY (HC m N)] (leaf PUnit.unit)) (leaf PUnit.unit)))) (λl=>VT) ?_
 intro l;simp only [VL.sat,U9,UV,GJ,UB,VK,UG,H4,FE];all_goals exact V4
def plF(m:Ch)(N:Nat)(q:Nat):List AV:=[i (GE m N q).1,i (GE m N q).2]
theorem TH(m:Ch){K:Nat}: ∀(N:Nat),(∀b,b<N->m b<=K)->HC m N<=N*K
 | 0,_=>by simp [HC]
 |N+1,h=>by
  have:=TH m N (λb hb=>h b VI);have:=h N VI;simp only [HC,Bq];omega
abbrev QD:AV:=AV.x (.pointer none)
def Ju7(f:Ci)(er:Int)(N:Nat)(U O:Cg)(m:Ch)(r v:Nat->Cg):St:={σ:=[agg [WH f,iI er,Q1 N U O m r v],ptr 0 0,QD,ptr 6 0]++HH 6 [AV.fn (Fn.func 168) [] [AV.ro [WH f,iI er,Q1 N U O m r v]]]++HH 13 [],m:=[(901,GN.row 241 2 0 λx=>[]),(6,GN.cells 178 [ptr 5 0]),(5,GN.cells 236 [WH f,iI er,Q1 N U O m r v,AV.row 901,AV.mp 3]),(3,GN.memo (λx=>False) λv=>v),(0,GN.cells 59 [WH f,iI er,Q1 N U O m r v])],nx:=902}
def rfF:Option Code->Operand
 |some (.rangeFunc f _ _ _)=>f
 |_=> .const .nilFunc
def jF:Option Code->Array Nat
 |some (.rangeFunc _ ps _ _)=>ps
 |_=>#[]
def SS:Option Code->Code
 |some (.rangeFunc _ _ a _)=>a
 |_=> .skip
def SR:Option Code->Code
 |some (.rangeFunc _ _ _ b)=>b
 |_=> .skip
noncomputable def Jz0:Code:=SS (VQ (U6 Tryz.f79) 0)
noncomputable def Jv3:Code:=SR (VQ (U6 Tryz.f79) 0)
section
variable (f:Ci)(er:Int)(N:Nat)(U O:Cg)(m:Ch)(r v:Nat->Cg)
def oR(k:Nat):St:={σ:=H5 [] (Ju7 f er N U O m r v).σ,m:=[(901,.row 241 2 (k) (plF m N)),(6,.cells 178 [.ptr 5 0]),(5,.cells 236 [.lst 2 3 f,i er,bds N U O m r v,.row 901,.mp 3]),(3,.memo (λ_=>False) (λx=>x)),(0,.cells 59 [.lst 2 3 f,i er,bds N U O m r v])],nx:=902}
def nW(k:Nat):G6->Option St
 | .normal=>some {σ:=H5 [] (Ju7 f er N U O m r v).σ,m:=[(901,.row 241 2 ((HC m N)) (plF m N)),(6,.cells 178 [.ptr 5 0]),(5,.cells 236 [.lst 2 3 f,i er,bds N U O m r v,.row 901,.mp 3]),(3,.memo (λ_=>False) (λx=>x)),(0,.cells 59 [.lst 2 3 f,i er,bds N U O m r v])],nx:=902}
 |_=>none
def T_wr:CT:= .leaf (.normal,oR f er N U O m r v (HC m N))
def Xx9:UF:=GI [(.cell 5 3,901,241,2)] (HB (oR f er N U O m r v (0)) (T_wr f er N U O m r v))
abbrev WJ:Prop:=AV.row 901=AV.row 901
abbrev ZN:Prop:=ptr 5 0=ptr 5 0
abbrev YM:Prop:=ptr 6 0=ptr 6 0
abbrev YR:Ext:={R:=[(125,M8)],H:=[] }
theorem Zy9(VR:N<=1000)(UD: ∀b,b<N->m b<=1000):HP VN (.rangeFunc (rfF (VQ (U6 Tryz.f79) 0)) (jF (VQ (U6 Tryz.f79) 0)) Jz0 Jv3) (Xx9 f er N U O m r v):=by
 refine P9 [(.cell 5 3,901,241,2)] (L:=[]) Aa (Ai (Af IR Ab) Ac) VX U1 (V:=Nat) (oR f er N U O m r v) (λk=>k<=(HC m N)) (λk=>k) (nW f er N U O m r v) (x0:=0) VS rfl ?_ ?_ ?_ ?_ (g:=168) (caps:=[.ro [.lst 2 3 f,i er,bds N U O m r v]]) VT VT (lK f er N U O m r v VR UD) (λ_=>rfl) ?_;rintro k;kernel_rfl;rintro k y E h;unfold nW at h;split at h;cases h;kernel_rfl;cases h;rintro k;rfl;rintro k y E h;unfold nW at h;split at h;cases h;rfl;cases h
 ·rintro Q hQ k hx;refine ⟨λhlt=>⟨(k+1),rfl,?_⟩,λPL=>?_⟩
  ·(with_reducible refine D2 (t:=need [(k+1)*16<=140737488355328,RH 1 (U3 2 [iI (↑(Prod.fst (GE m N k)):Int),iI (↑(Prod.snd (GE m N k)):Int)])] (need [VY (agg [WH f,iI er,Q1 N U O m r v]),QK,QD=QD,YM,VY (AV.fn (Fn.func 168) [] [AV.ro [WH f,iI er,Q1 N U O m r v]]),k+1=k+1,GU (k+1) (GD k (plF m N) (U3 2 [iI (↑(Prod.fst (GE m N k)):Int),iI (↑(Prod.snd (GE m N k)):Int)])) (plF m N),ZN,WH f=WH f,er=er,WW N U O m r v,WJ,VY (AV.mp 3),∀(k:Value),False->False/\k=k,WH f=WH f,er=er,WW N U O m r v] (leaf G6.normal))) VT ?_);have hb:=TH m N UD;have hb2:=BJ 1000 VR;simp only [VL.sat,U9,UG]
   (with_reducible repeat' first|apply Al|intro _)
   all_goals first|exact Ak|rfl|omega|exact FG (by assumption) (by simp [AV.one,Value.oneCell'])|exact Zs1 rfl rfl (by assumption)|contradiction
  subst PL;exact hQ
end
abbrev Q2(m:Ch)(N:Nat):AV:=lst 2 (HC m N) λq=>[iI (↑(Prod.fst (GE m N q)):Int),iI (↑(Prod.snd (GE m N q)):Int)]
theorem Wv0(f:Ci)(er:Int)(N:Nat)(U O:Cg)(m:Ch)(r v:Nat->Cg)(VR:N<=1000)(UD: ∀b,b<N->m b<=1000):FP VN 79 [.agg [.lst 2 3 f,i er,bds N U O m r v]] (.ro [.lst 2 3 f,i er,bds N U O m r v,.lst 2 (HC m N) (plF m N),.top]):=by
 refine D1 (L:=[Xx9 f er N U O m r v]) Aa (Ai (Af IR Ab) Ac) VX Tryz.func79 (US Tryz.f79) (UY (lpE (b:= .rangeFunc (rfF (VQ (U6 Tryz.f79) 0)) (jF (VQ (U6 Tryz.f79) 0)) Jz0 Jv3) VT<|Zy9 f er N U O m r v VR UD)) (t:=need [VY (agg [WH f,iI er,Q1 N U O m r v]),QK,QD=QD,YM,VY (AV.fn (Fn.func 168) [] [AV.ro [WH f,iI er,Q1 N U O m r v]]),0=0,GU 0 (λi=>[]) (plF m N),ZN,WH f=WH f,er=er,WW N U O m r v,WJ,VY (AV.mp 3),∀(k:Value),False->False/\k=k,WH f=WH f,er=er,WW N U O m r v] (leaf (AV.ro [WH f,iI er,Q1 N U O m r v,Q2 m N,top]))) VT ?_
 simp only [VL.sat,U9,UV,GJ,UB,VK,UG,H4,FE];all_goals exact V4
noncomputable def Qj5:HY:=dJ Tryz.prog [(128,kJ)] {} [] Tryz.f126 (U6 Tryz.f126)
theorem RP:GA VN 126 Qj5:=
 FZ (G:=[(128,kJ)]) (X:=W8) (L:=[]) (Ae R9 Aa) Ad VX (UI Tryz.func126) Tryz.func126 (US Tryz.f126) U1
def G5(M:Nat->Cg)(k:Nat):Int:=M (k / 13) (k%13)
def LT(k j:Nat):Nat->Cg:=λx y=>if ((x<k/\y<=12)\/(x=k/\y<j))/\x≠y then 8000 else 0
def spn(M:Nat->Cg)(a b:Nat)(U O:Int):Nat->Cg:=bnd (bnd M a b O) b a (-U)
def ofM:Nat->Nat->Nat->Int
 | 0=>LT 13 0
 |k+1=>spn (ofM k) 0 (1+k) (-oH k) (-oL k)
def btM(U O:Cg):Nat->Nat->Nat->Int
 | 0=>ofM 3
 |k+1=>spn (btM U O k) 0 (7+k) (U k) (O k)
def rdM1(N:Nat)(m:Ch)(r v:Nat->Cg)(M:Nat->Cg)(q:Nat):Nat->Cg:=
 spn M (1+(r (GE m N q).1 (GE m N q).2).toNat) (7+(GE m N q).1) (v (GE m N q).1 (GE m N q).2-1) (v (GE m N q).1 (GE m N q).2+1)
def rG(N:Nat)(U O:Cg)(m:Ch)(r v:Nat->Cg):Nat->Nat->Nat->Int
 | 0=>btM U O N
 |q+1=>rdM1 N m r v (rG N U O m r v q) q
def bOK(N:Nat)(U O:Cg)(m:Ch)(r v:Nat->Cg):Prop:=N<=6/\ ∀b,b<N->m b<=10/\0<=U b/\U b<=O b/\O b<=1000/\ ∀j,j<m b->0<=r b j/\r b j<=2/\ -1000<=v b j/\v b j<=2000
theorem Xm1: ∀k,U8 (List.replicate 169 0) k=G5 (LT 0 0) k:=by
 intro k;rw [gP (by decide)]
 simp [G5,LT]
theorem y5(M:Nat->Cg){a b q:Nat}(hq:q=a*13+b)(hb:b<13):G5 M q=M a b:=by
 unfold G5;rw [show q / 13=a by omega,show q%13=b by omega]
theorem dR{M M':Nat->Cg}(h: ∀x y,x<13->y<13->M x y=M' x y){k:Nat}(hk:k<169):G5 M k=G5 M' k:=h _ _ VI VI
theorem Qc9(M:Nat->Cg){a b q:Nat}(hq:q=a*13+b)(hb:b<13)(v:Int):UR q v (G5 M)=G5 (wT M a b v):=by
 funext k;unfold UR G5 wT;by_cases hk:k=q;rw [if_pos hk,if_pos VI];rw [if_neg hk,if_neg VI]
theorem zM{M:Nat->Cg}{a b q:Nat}{v:Int}(hq:q=a*13+b)(hb:b<13):UR q (min (G5 M q) v) (G5 M)=G5 (bnd M a b v):=by
 rw [y5 M hq hb,Qc9 M hq hb];rfl
theorem Qo8(k j:Nat)(hj:j<=12)(h:k≠j)(x y:Nat):wT (LT k j) k j 8000 x y=LT k (j+1) x y:=by
 unfold wT LT;split;rename_i hxy;rw [if_pos ⟨.inr VI,VI⟩];rename_i hxy;by_cases h1:((x<k/\y<=12)\/(x=k/\y<j))/\x≠y;rw [if_pos h1,if_pos VI];rw [if_neg h1,if_neg VI]
theorem Qo9(k:Nat)(x y:Nat):LT k k x y=LT k (k+1) x y:=by
 unfold LT;by_cases h1:((x<k/\y<=12)\/(x=k/\y<k))/\x≠y;rw [if_pos h1,if_pos VI];rw [if_neg h1,if_neg VI]
theorem Wm6(k:Nat)(x y:Nat):LT k 13 x y=LT (k+1) 0 x y:=by
 unfold LT;by_cases h1:((x<k/\y<=12)\/(x=k/\y<13))/\x≠y;rw [if_pos h1,if_pos VI];rw [if_neg h1,if_neg VI]
abbrev QC:List AV:=[AV.x (.int IntKind.u64 (0:Int))]
abbrev QL:List Int:=([(0:Int)]++bE 168)
abbrev KT:GN:=GN.cells 183 QC
section
variable (N:Nat)(U O:Cg)(m:Ch)(r v:Nat->Cg)
def Zw8:St:={σ:=[AV.ro [lst 2 3 λk=>[iI (oL k),iI (oH k)],iI 1,Q1 N U O m r v,Q2 m N,top],agg QC,top,ptr 0 0,QD,AV.lit false,ptr 4 0]++HH 184 [],m:=[(4,GN.ints 244 [] 169 λa=>U8 QL a),(0,KT)],nx:=7}
noncomputable def Zy4:Code:=U7 (VQ (U6 Tryz.f80) 0)
def Wl2(k:Nat):St:=(upE [(22,i k)] [(4,.ints 244 [] 169 (G5 (LT k 0))),(0,.cells 183 [.x (.int .u64 0)])] (Zw8 N U O m r v))
def CY(k:Nat):G6->Option St
 | .exit 0=>some (upE [(22,i 13)] [(4,.ints 244 [] 169 (G5 (LT 13 0))),(0,.cells 183 [.x (.int .u64 0)])] (Zw8 N U O m r v))
 |_=>none
def Jt3:CT:= .leaf (.exit 0,(CY N U O m r v 0 (.exit 0)).getD (Zw8 N U O m r v))
def Zb7:UF:=GI [] (HB (Wl2 N U O m r v (0)) (Jt3 N U O m r v))
def Zw7(k:Nat):St:={σ:=[AV.ro [lst 2 3 λk=>[iI (oL k),iI (oH k)],iI 1,Q1 N U O m r v,Q2 m N,top],agg QC,top,ptr 0 0,QD,AV.lit false,ptr 4 0,iI (k:Int)]++HH 14 [iI (k:Int)]++HH 168 [],m:=[(4,GN.ints 244 [] 169 λk_1=>G5 (LT k 0) k_1),(0,KT)],nx:=11}
noncomputable def Jy0:Code:=(U7 (VQ (U7 (VQ (U6 Tryz.f80) 0)) 0))
def Wl1(k:Nat)(j:Nat):St:=(upE [(25,i j)] [(4,.ints 244 [] 169 (G5 (LT k j))),(0,.cells 183 [.x (.int .u64 0)])] (Zw7 N U O m r v k))
def CX(k:Nat)(j:Nat):G6->Option St
 | .exit 2=>some (upE [(25,i 13)] [(4,.ints 244 [] 169 (G5 (LT k 13))),(0,.cells 183 [.x (.int .u64 0)])] (Zw7 N U O m r v k))
 |_=>none
def Jt2(k:Nat):CT:= .leaf (.exit 2,(CX N U O m r v k 0 (.exit 2)).getD (Zw7 N U O m r v k))
def Zb6(k:Nat):UF:=GI [] (HB (Wl1 N U O m r v k (0)) (Jt2 N U O m r v k))
abbrev QS:Prop:=(0:Int)=0
abbrev W9:Prop:=ptr 4 0=ptr 4 0
abbrev WN:List (Nat×UX):=[(54,aU),(127,aV),(128,kJ)]
abbrev WO:Prop:=AV.lit false=AV.lit false
noncomputable abbrev X7:Ext:={R:=[],H:=[(126,Qj5)] }
theorem Jm8(k:Nat)(VR:k<=12):G0 VN (.loop Jy0) (Zb6 N U O m r v k):=by
 refine UP [] (L:=[]) (Ae RM (Ae LU (Ae R9 Aa))) (Ai Ab (Ag RP Ac)) VX U1 (X:=Nat) (Wl1 N U O m r v k) (λj=>j<=13) (λj=>13-j) (CX N U O m r v k) (x0:=0) VS ?_ ?_ ?_;rintro j;kernel_rfl;rintro j y E h;unfold CX at h;split at h;cases h;kernel_rfl;cases h;rintro Q hQ j hx;refine ⟨(j+1),?_⟩;(with_reducible refine D2 (t:=let z0:=(VY (AV.ro [lst 2 3 λk=>[iI (oL k),iI (oH k)],iI 1,Q1 N U O m r v,Q2 m N,top]));(branch (decide ((j:Int)<13)) (branch ((k:Int) != (j:Int)) (need [UE k 13] (need [UE j 13] (need [j*1+(k*13+0)+1<=169] (need [VK ((j:Int)+1)] (need [z0,VY (agg QC),QK,QD=QD,WO,W9,VY (k:Int),VY (k:Int),(j:Int)+1=(↑(j+1):Int),169=169,GU 169 (UR (j*1+(k*13+0)) (8000:Int) (G5 (LT k j))) (G5 (LT k (j+1))),QS] (leaf G6.normal)))))) (need [VK ((j:Int)+1)] (need [z0,VY (agg QC),QK,QD=QD,WO,W9,VY (k:Int),VY (k:Int),(j:Int)+1=(↑(j+1):Int),169=169,GU 169 (G5 (LT k j)) (G5 (LT k (j+1))),QS] (leaf G6.normal)))) (need [z0,VY (agg QC),QK,QD=QD,WO,W9,VY (k:Int),VY (k:Int),(j:Int)=13,169=169,GU 169 (G5 (LT k j)) (G5 (LT k 13)),QS] (leaf (G6.exit 2))))) VT ?_)
 simp only [Jt2,CX,VL.sat,GR] at hQ;simp only [VL.sat,U9,UV,GJ,UB,VK,UG,H4,FE,FJ,FR,GH,CX]
 refine ⟨λh=>⟨λhne=>?_,λheq=>?_⟩,λh=>?_⟩
 ·have h3: ∀M w,UR (j*1+(k*13+0)) w (G5 M)=G5 (wT M k j w):=λM w=>Qc9 M VI VI w;simp only [h3]
  (with_reducible repeat' first|apply Al|intro _)
  all_goals first|exact P4|(exact dR (λx y _ _=>Qo8 k j VI VI x y) (by assumption))
 ·obtain rfl:k=j:=VI
  (with_reducible repeat' first|apply Al|intro _)
  all_goals first|exact P4|(exact dR (λx y _ _=>Qo9 k x y) (by assumption))
 obtain rfl:j=13:=VI;exact YW
theorem Jm9:G0 VN (.loop Zy4) (Zb7 N U O m r v):=by
 refine UP [] (L:=[PP 22 (λk=>FH [k<=12] (Zb6 N U O m r v k))]) (Ae RM (Ae LU (Ae R9 Aa))) (Ai Ab (Ag RP Ac)) VX (UY (λcj hcj=>by
  have e:VQ Zy4 0=some (.loop Jy0):=VT;rw [e] at hcj;cases hcj;exact RE (λk=>HU (λh=>Jm8 N U O m r v k h)))) (X:=Nat) (Wl2 N U O m r v) (λk=>k<=13) (λk=>13-k) (CY N U O m r v) (x0:=0) VS ?_ ?_ ?_
 rintro k;kernel_rfl;rintro k y E h;unfold CY at h;split at h;cases h;kernel_rfl;cases h;rintro Q hQ k hx;refine ⟨(k+1),?_⟩;(with_reducible refine D2 (t:=let z0:=(VY (AV.ro [lst 2 3 λk=>[iI (oL k),iI (oH k)],iI 1,Q1 N U O m r v,Q2 m N,top]));(branch (decide ((k:Int)<13)) (need [k<=12] (need [z0,VY (agg QC),QK,QD=QD,WO,W9,VY (k:Int),VY (k:Int),(0:Int)=((0:Nat):Int),169=169,GO 169 (G5 (LT k 0)),QS] (need [VK ((k:Int)+1)] (need [z0,VY (agg QC),QK,QD=QD,WO,W9,(k:Int)+1=(↑(k+1):Int),169=169,GU 169 (G5 (LT k 13)) (G5 (LT (k+1) 0)),QS] (leaf G6.normal))))) (need [z0,VY (agg QC),QK,QD=QD,WO,W9,(k:Int)=13,169=169,GU 169 (G5 (LT k 0)) (G5 (LT 13 0)),QS] (leaf (G6.exit 0))))) VT ?_)
 simp only [Jt3,CY,VL.sat,GR] at hQ;simp only [VL.sat,U9,UV,GJ,UB,VK,UG,H4,FE,FJ,FR,GH,CY]
 refine ⟨λh=>?_,λh=>?_⟩
 ·(with_reducible repeat' first|apply Al|intro _)
  all_goals first|exact P4|(exact dR (λx y _ _=>Wm6 k x y) (by assumption))
 obtain rfl:k=13:=VI;exact YW
def Zw6:St:={σ:=[AV.ro [lst 2 3 λk=>[iI (oL k),iI (oH k)],iI 1,Q1 N U O m r v,Q2 m N,top],agg QC,top,ptr 0 0,QD,AV.lit false,ptr 4 0]++HH 15 [iI 13]++HH 20 [lst 2 3 λk=>[iI (oL k),iI (oH k)],iI ((3:Nat):Int)]++HH 146 [],m:=[(4,GN.ints 244 [] 169 λk=>G5 (LT 13 0) k),(0,KT)],nx:=14}
noncomputable def Jx9:Code:=U7 (VQ (U6 Tryz.f80) 1)
def Wl0(k:Nat):St:=(upE [(45,i k)] [(4,.ints 244 [] 169 (G5 (ofM k))),(0,.cells 183 [.x (.int .u64 0)])] (Zw6 N U O m r v))
def CW(k:Nat):G6->Option St
 | .exit 4=>some (upE [(45,i 3)] [(4,.ints 244 [] 169 (G5 (ofM 3))),(0,.cells 183 [.x (.int .u64 0)])] (Zw6 N U O m r v))
 |_=>none
def Jt1:CT:= .leaf (.exit 4,(CW N U O m r v 0 (.exit 4)).getD (Zw6 N U O m r v))
def Zb5:UF:=GI [] (HB (Wl0 N U O m r v (0)) (Jt1 N U O m r v))
abbrev XH:Prop:=(13:Int)=13
theorem Jm7:G0 VN (.loop Jx9) (Zb5 N U O m r v):=by
 refine UP [] (L:=[]) (Ae RM (Ae LU (Ae R9 Aa))) (Ai Ab (Ag RP Ac)) VX U1 (X:=Nat) (Wl0 N U O m r v) (λk=>k<=3) (λk=>3-k) (CW N U O m r v) (x0:=0) VS ?_ ?_ ?_;rintro k;kernel_rfl;rintro k y E h;unfold CW at h;split at h;cases h;kernel_rfl;cases h;rintro Q hQ k hx;refine ⟨(k+1),?_⟩;(with_reducible refine D2 (t:=let z1:=(G5 (ofM k) (((1:Int)+(k:Int)).toNat*1+0));let z0:=(UR (((1:Int)+(k:Int)).toNat*1+0) (min z1 (-oL k)) (G5 (ofM k)) (0+(((1:Int)+(k:Int)).toNat*13+0)));let z2:=(VY (AV.ro [lst 2 3 λk=>[iI (oL k),iI (oH k)],iI 1,Q1 N U O m r v,Q2 m N,top]));(branch (decide ((k:Int)<((3:Nat):Int))) (need [UE k 3] (need [(0:Int)<=(k:Int)/\(k:Int)<=1000] (need [VK (-oH k)] (need [VK (-oL k)] (need [UE 0 13] (need [(0:Int)<=1+(k:Int)/\(1:Int)+(k:Int)<((13:Nat):Int)] (need [((1:Int)+(k:Int)).toNat*1+0<169] (need [UE 0 13] (need [(0:Int)<=1+(k:Int)/\(1:Int)+(k:Int)<((13:Nat):Int)] (need [((1:Int)+(k:Int)).toNat*1+0+List.length [min z1 (-oL k)]<=169] (need [(0:Int)<=1+(k:Int)/\(1:Int)+(k:Int)<((13:Nat):Int)] (need [UE 0 13] (need [0+(((1:Int)+(k:Int)).toNat*13+0)<169] (need [VK (- -oH k)] (need [(0:Int)<=1+(k:Int)/\(1:Int)+(k:Int)<((13:Nat):Int)] (need [UE 0 13] (need [0+(((1:Int)+(k:Int)).toNat*13+0)+List.length [min z0 (- -oH k)]<=169] (need [VK ((k:Int)+1)] (need [z2,VY (agg QC),QK,QD=QD,WO,W9,XH,VY (lst 2 3 λk=>[iI (oL k),iI (oH k)]),VY ((3:Nat):Int),(k:Int)+1=(↑(k+1):Int),169=169,GU 169 (UR (0+(((1:Int)+(k:Int)).toNat*13+0)) (min z0 (- -oH k)) (j6 (((1:Int)+(k:Int)).toNat*1+0) [min z1 (-oL k)] (G5 (ofM k)))) (G5 (ofM (k+1))),QS] (leaf G6.normal)))))))))))))))))))) (need [z2,VY (agg QC),QK,QD=QD,WO,W9,XH,VY (lst 2 3 λk=>[iI (oL k),iI (oH k)]),VY ((3:Nat):Int),(k:Int)=3,169=169,GU 169 (G5 (ofM k)) (G5 (ofM 3)),QS] (leaf (G6.exit 4))))) VT ?_)
 simp only [Jt1,CW,VL.sat,GR] at hQ;simp only [VL.sat,U9,UV,GJ,UB,VK,UG,H4,FE,FJ,FR,GH,CW]
 have hL: -9<=oL k/\oL k<=0:=by unfold oL;split<;>omega
 have hH:0<=oH k/\oH k<=9:=by unfold oH;split<;>omega
 refine ⟨λh=>?_,λh=>?_⟩;have h1: ∀M w,UR ((1+(k:Int)).toNat*1+0) (min (G5 M ((1+(k:Int)).toNat*1+0)) w) (G5 M)=G5 (bnd M 0 (1+k) w):=λM w=>zM VI VI;have h2: ∀M w,UR (0+((1+(k:Int)).toNat*13+0)) (min (G5 M (0+((1+(k:Int)).toNat*13+0))) w) (G5 M)=G5 (bnd M (1+k) 0 w):=λM w=>zM VI VI;simp only [h1,h2];exact YW;obtain rfl:k=3:=VI;exact YW
def Zw5:St:={σ:=[AV.ro [lst 2 3 λk=>[iI (oL k),iI (oH k)],iI 1,Q1 N U O m r v,Q2 m N,top],agg QC,top,ptr 0 0,QD,AV.lit false,ptr 4 0]++HH 15 [iI 13]++HH 20 [lst 2 3 λk=>[iI (oL k),iI (oH k)],iI ((3:Nat):Int),iI 3]++HH 20 [Q1 N U O m r v,iI (N:Int)]++HH 123 [],m:=[(4,GN.ints 244 [] 169 λk=>G5 (ofM 3) k),(0,KT)],nx:=21}
noncomputable def Jx8:Code:=U7 (VQ (U6 Tryz.f80) 2)
def Wk9(k:Nat):St:=(upE [(68,i k)] [(4,.ints 244 [] 169 (G5 (btM U O k))),(0,.cells 183 [.x (.int .u64 0)])] (Zw5 N U O m r v))
def CV(k:Nat):G6->Option St
 | .exit 6=>some (upE [(68,i N)] [(4,.ints 244 [] 169 (G5 (btM U O N))),(0,.cells 183 [.x (.int .u64 0)])] (Zw5 N U O m r v))
 |_=>none
def Jt0:CT:= .leaf (.exit 6,(CV N U O m r v 0 (.exit 6)).getD (Zw5 N U O m r v))
def Zb4:UF:=GI [] (HB (Wk9 N U O m r v (0)) (Jt0 N U O m r v))
abbrev XL:Prop:=(3:Int)=3
theorem Jm6(VR:bOK N U O m r v):G0 VN (.loop Jx8) (Zb4 N U O m r v):=by
 refine UP [] (L:=[]) (Ae RM (Ae LU (Ae R9 Aa))) (Ai Ab (Ag RP Ac)) VX U1 (X:=Nat) (Wk9 N U O m r v) (λk=>k<=N) (λk=>N-k) (CV N U O m r v) (x0:=0) VS ?_ ?_ ?_;rintro k;kernel_rfl;rintro k y E h;unfold CV at h;split at h;cases h;kernel_rfl;cases h;rintro Q hQ k hx;refine ⟨(k+1),?_⟩;(with_reducible refine D2 (t:=let z1:=(G5 (btM U O k) (((7:Int)+(k:Int)).toNat*1+0));let z0:=(UR (((7:Int)+(k:Int)).toNat*1+0) (min z1 (O k)) (G5 (btM U O k)) (0+(((7:Int)+(k:Int)).toNat*13+0)));let z2:=(VY (AV.ro [lst 2 3 λk=>[iI (oL k),iI (oH k)],iI 1,Q1 N U O m r v,Q2 m N,top]));(branch (decide ((k:Int)<(N:Int))) (need [UE k N] (need [(0:Int)<=(k:Int)/\(k:Int)<=1000] (need [UE 0 13] (need [(0:Int)<=7+(k:Int)/\(7:Int)+(k:Int)<((13:Nat):Int)] (need [((7:Int)+(k:Int)).toNat*1+0<169] (need [UE 0 13] (need [(0:Int)<=7+(k:Int)/\(7:Int)+(k:Int)<((13:Nat):Int)] (need [((7:Int)+(k:Int)).toNat*1+0+List.length [min z1 (O k)]<=169] (need [(0:Int)<=7+(k:Int)/\(7:Int)+(k:Int)<((13:Nat):Int)] (need [UE 0 13] (need [0+(((7:Int)+(k:Int)).toNat*13+0)<169] (need [VK (-U k)] (need [(0:Int)<=7+(k:Int)/\(7:Int)+(k:Int)<((13:Nat):Int)] (need [UE 0 13] (need [0+(((7:Int)+(k:Int)).toNat*13+0)+List.length [min z0 (-U k)]<=169] (need [VK ((k:Int)+1)] (need [z2,VY (agg QC),QK,QD=QD,WO,W9,XH,VY (lst 2 3 λk=>[iI (oL k),iI (oH k)]),VY ((3:Nat):Int),XL,WW N U O m r v,VY (N:Int),(k:Int)+1=(↑(k+1):Int),169=169,GU 169 (UR (0+(((7:Int)+(k:Int)).toNat*13+0)) (min z0 (-U k)) (j6 (((7:Int)+(k:Int)).toNat*1+0) [min z1 (O k)] (G5 (btM U O k)))) (G5 (btM U O (k+1))),QS] (leaf G6.normal)))))))))))))))))) (need [z2,VY (agg QC),QK,QD=QD,WO,W9,XH,VY (lst 2 3 λk=>[iI (oL k),iI (oH k)]),VY ((3:Nat):Int),XL,WW N U O m r v,VY (N:Int),(k:Int)=(N:Int),169=169,GU 169 (G5 (btM U O k)) (G5 (btM U O N)),QS] (leaf (G6.exit 6))))) VT ?_)
 simp only [Jt0,CV,VL.sat,GR] at hQ;simp only [VL.sat,U9,UV,GJ,UB,VK,UG,H4,FE,FJ,FR,GH,CV]
 have h6:=VR.1;refine ⟨λh=>?_,λh=>?_⟩;obtain ⟨_,q1,q2,q3,_⟩:=VR.2 k VI;have h1: ∀M w,UR ((7+(k:Int)).toNat*1+0) (min (G5 M ((7+(k:Int)).toNat*1+0)) w) (G5 M)=G5 (bnd M 0 (7+k) w):=λM w=>zM VI VI;have h2: ∀M w,UR (0+((7+(k:Int)).toNat*13+0)) (min (G5 M (0+((7+(k:Int)).toNat*13+0))) w) (G5 M)=G5 (bnd M (7+k) 0 w):=λM w=>zM VI VI;simp only [h1,h2];exact YW;obtain rfl:k=N:=VI;exact YW
def Zw4:St:={σ:=[AV.ro [lst 2 3 λk=>[iI (oL k),iI (oH k)],iI 1,Q1 N U O m r v,Q2 m N,top],agg QC,top,ptr 0 0,QD,AV.lit false,ptr 4 0]++HH 15 [iI 13]++HH 20 [lst 2 3 λk=>[iI (oL k),iI (oH k)],iI ((3:Nat):Int),iI 3]++HH 20 [Q1 N U O m r v,iI (N:Int),iI (N:Int)]++HH 14 [Q2 m N,iI (HC m N:Int)]++HH 106 [],m:=[(4,GN.ints 244 [] 169 λk=>G5 (btM U O N) k),(0,KT)],nx:=27}
noncomputable def Jx7:Code:=U7 (VQ (U6 Tryz.f80) 3)
def Wk8(k:Nat):St:=(upE [(85,i k)] [(4,.ints 244 [] 169 (G5 (rG N U O m r v k))),(0,.cells 183 [.x (.int .u64 0)])] (Zw4 N U O m r v))
def CU(k:Nat):G6->Option St
 | .exit 8=>some (upE [(85,i (HC m N))] [(4,.ints 244 [] 169 (G5 (rG N U O m r v (HC m N)))),(0,.cells 183 [.x (.int .u64 0)])] (Zw4 N U O m r v))
 |_=>none
def Js9:CT:= .leaf (.exit 8,(CU N U O m r v 0 (.exit 8)).getD (Zw4 N U O m r v))
def Zb3:UF:=GI [] (HB (Wk8 N U O m r v (0)) (Js9 N U O m r v))
theorem Jm5(VR:bOK N U O m r v):G0 VN (.loop Jx7) (Zb3 N U O m r v):=by
 refine UP [] (L:=[]) (Ae RM (Ae LU (Ae R9 Aa))) (Ai Ab (Ag RP Ac)) VX U1 (X:=Nat) (Wk8 N U O m r v) (λk=>k<=HC m N) (λk=>HC m N-k) (CU N U O m r v) (x0:=0) VS ?_ ?_ ?_;rintro k;kernel_rfl;rintro k y E h;unfold CU at h;split at h;cases h;kernel_rfl;cases h;rintro Q hQ k hx;refine ⟨(k+1),?_⟩
 (with_reducible refine D2 (t:=let z4:=rG N U O m r v k;let z1:=(G5 (z4) (((7:Int)+(↑(Prod.fst (GE m N k)):Int)).toNat*1+(((1:Int)+r (Prod.fst (GE m N k)) (Prod.snd (GE m N k))).toNat*13+0)));let z0:=(UR (((7:Int)+(↑(Prod.fst (GE m N k)):Int)).toNat*1+(((1:Int)+r (Prod.fst (GE m N k)) (Prod.snd (GE m N k))).toNat*13+0)) (min z1 (v (Prod.fst (GE m N k)) (Prod.snd (GE m N k))+1)) (G5 (z4)) (((1:Int)+r (Prod.fst (GE m N k)) (Prod.snd (GE m N k))).toNat*1+(((7:Int)+(↑(Prod.fst (GE m N k)):Int)).toNat*13+0)));let z2:=(VY (AV.ro [lst 2 3 λk=>[iI (oL k),iI (oH k)],iI 1,Q1 N U O m r v,Q2 m N,top]));let z3:=(VY (lst 2 3 λk=>[iI (oL k),iI (oH k)]));(branch (decide ((k:Int)<(HC m N:Int))) (need [UE k (HC m N:Int)] (need [(0:Int)<=(k:Int)/\(k:Int)<=64] (branch (IntKind.wrap IntKind.u64 (↑(BitVec.toNat (BitVec.ofInt (IntKind.bits IntKind.u64) ((0:Int) / (2:Int)^k) &&& BitVec.ofInt (IntKind.bits IntKind.u64) (1:Int))):Int)==0) (need [UE (↑(Prod.fst (GE m N k)):Int) N] (need [UE (↑(Prod.snd (GE m N k)):Int) ((↑(m (Prod.fst (GE m N k))):Int))] (need [(0:Int)<=r (Prod.fst (GE m N k)) (Prod.snd (GE m N k))/\r (Prod.fst (GE m N k)) (Prod.snd (GE m N k))<=1000] (need [(0:Int)<=(↑(Prod.fst (GE m N k)):Int)/\(↑(Prod.fst (GE m N k)):Int)<=1000] (need [VK (v (Prod.fst (GE m N k)) (Prod.snd (GE m N k))-1)] (need [VK (v (Prod.fst (GE m N k)) (Prod.snd (GE m N k))+1)] (need [(0:Int)<=1+r (Prod.fst (GE m N k)) (Prod.snd (GE m N k))/\(1:Int)+r (Prod.fst (GE m N k)) (Prod.snd (GE m N k))<((13:Nat):Int)] (need [(0:Int)<=7+(↑(Prod.fst (GE m N k)):Int)/\(7:Int)+(↑(Prod.fst (GE m N k)):Int)<((13:Nat):Int)] (need [((7:Int)+(↑(Prod.fst (GE m N k)):Int)).toNat*1+(((1:Int)+r (Prod.fst (GE m N k)) (Prod.snd (GE m N k))).toNat*13+0)<169] (need [(0:Int)<=1+r (Prod.fst (GE m N k)) (Prod.snd (GE m N k))/\(1:Int)+r (Prod.fst (GE m N k)) (Prod.snd (GE m N k))<((13:Nat):Int)] (need [(0:Int)<=7+(↑(Prod.fst (GE m N k)):Int)/\(7:Int)+(↑(Prod.fst (GE m N k)):Int)<((13:Nat):Int)] (need [((7:Int)+(↑(Prod.fst (GE m N k)):Int)).toNat*1+(((1:Int)+r (Prod.fst (GE m N k)) (Prod.snd (GE m N k))).toNat*13+0)+List.length [min z1 (v (Prod.fst (GE m N k)) (Prod.snd (GE m N k))+1)]<=169] (need [(0:Int)<=7+(↑(Prod.fst (GE m N k)):Int)/\(7:Int)+(↑(Prod.fst (GE m N k)):Int)<((13:Nat):Int)] (need [(0:Int)<=1+r (Prod.fst (GE m N k)) (Prod.snd (GE m N k))/\(1:Int)+r (Prod.fst (GE m N k)) (Prod.snd (GE m N k))<((13:Nat):Int)] (need [((1:Int)+r (Prod.fst (GE m N k)) (Prod.snd (GE m N k))).toNat*1+(((7:Int)+(↑(Prod.fst (GE m N k)):Int)).toNat*13+0)<169] (need [VK (-(v (Prod.fst (GE m N k)) (Prod.snd (GE m N k))-1))] (need [(0:Int)<=7+(↑(Prod.fst (GE m N k)):Int)/\(7:Int)+(↑(Prod.fst (GE m N k)):Int)<((13:Nat):Int)] (need [(0:Int)<=1+r (Prod.fst (GE m N k)) (Prod.snd (GE m N k))/\(1:Int)+r (Prod.fst (GE m N k)) (Prod.snd (GE m N k))<((13:Nat):Int)] (need [((1:Int)+r (Prod.fst (GE m N k)) (Prod.snd (GE m N k))).toNat*1+(((7:Int)+(↑(Prod.fst (GE m N k)):Int)).toNat*13+0)+List.length [min z0 (-(v (Prod.fst (GE m N k)) (Prod.snd (GE m N k))-1))]<=169] (need [VK ((k:Int)+1)] (need [z2,VY (agg QC),QK,QD=QD,WO,W9,XH,z3,VY ((3:Nat):Int),XL,WW N U O m r v,VY (N:Int),VY (N:Int),VY (Q2 m N),VY (HC m N:Int),(k:Int)+1=(↑(k+1):Int),169=169,GU 169 (UR (((1:Int)+r (Prod.fst (GE m N k)) (Prod.snd (GE m N k))).toNat*1+(((7:Int)+(↑(Prod.fst (GE m N k)):Int)).toNat*13+0)) (min z0 (-(v (Prod.fst (GE m N k)) (Prod.snd (GE m N k))-1))) (j6 (((7:Int)+(↑(Prod.fst (GE m N k)):Int)).toNat*1+(((1:Int)+r (Prod.fst (GE m N k)) (Prod.snd (GE m N k))).toNat*13+0)) [min z1 (v (Prod.fst (GE m N k)) (Prod.snd (GE m N k))+1)] (G5 (z4)))) (G5 (rG N U O m r v (k+1))),QS] (leaf G6.normal)))))))))))))))))))))) (need [VK ((k:Int)+1)] (need [z2,VY (agg QC),QK,QD=QD,WO,W9,XH,z3,VY ((3:Nat):Int),XL,WW N U O m r v,VY (N:Int),VY (N:Int),VY (Q2 m N),VY (HC m N:Int),(k:Int)+1=(↑(k+1):Int),169=169,GU 169 (G5 (z4)) (G5 (rG N U O m r v (k+1))),QS] (leaf G6.normal)))))) (need [z2,VY (agg QC),QK,QD=QD,WO,W9,XH,z3,VY ((3:Nat):Int),XL,WW N U O m r v,VY (N:Int),VY (N:Int),VY (Q2 m N),VY (HC m N:Int),(k:Int)=(HC m N:Int),169=169,GU 169 (G5 (z4)) (G5 (rG N U O m r v (HC m N))),QS] (leaf (G6.exit 8))))) VT ?_)
 simp only [Js9,CU,VL.sat,GR] at hQ;simp only [VL.sat,U9,UV,GJ,UB,VK,UG,H4,FE,FJ,FR,GH,CU]
 have h6:=VR.1;have hb:=TH m (K:=10) N (λb hb=>(VR.2 b hb).1);have hz:(IntKind.u64.wrap ((BitVec.ofInt IntKind.u64.bits (0 / 2^k) &&& BitVec.ofInt IntKind.u64.bits 1).toNat:Int)==0)=true:=by
  rw [Int.zero_ediv];decide
 simp only [hz,true_imp_iff,Bool.true_eq_false,false_imp_iff,and_true];refine ⟨λh=>?_,λh=>?_⟩;obtain ⟨hl1,hl2⟩:=TP m N k VI;obtain ⟨_,_,_,_,q4⟩:=VR.2 _ hl1;obtain ⟨q5,q6,q7,q8⟩:=q4 _ hl2;have e1:((1+r (GE m N k).1 (GE m N k).2).toNat)=1+(r (GE m N k).1 (GE m N k).2).toNat:=VI;have e2:((7+((GE m N k).1:Int)).toNat)=7+(GE m N k).1:=VI;rw [e1,e2];have h1: ∀M w,UR ((7+(GE m N k).1)*1+((1+(r (GE m N k).1 (GE m N k).2).toNat)*13+0)) (min (G5 M ((7+(GE m N k).1)*1+((1+(r (GE m N k).1 (GE m N k).2).toNat)*13+0))) w) (G5 M)=G5 (bnd M (1+(r (GE m N k).1 (GE m N k).2).toNat) (7+(GE m N k).1) w):=λM w=>zM VI VI;have h2: ∀M w,UR ((1+(r (GE m N k).1 (GE m N k).2).toNat)*1+((7+(GE m N k).1)*13+0)) (min (G5 M ((1+(r (GE m N k).1 (GE m N k).2).toNat)*1+((7+(GE m N k).1)*13+0))) w) (G5 M)=G5 (bnd M (7+(GE m N k).1) (1+(r (GE m N k).1 (GE m N k).2).toNat) w):=λM w=>zM VI VI;simp only [h1,h2];exact YW;obtain rfl:k=HC m N:=VI;exact YW
end
def LB8(B:Int)(M:Nat->Cg):Prop:= ∀x y,-B<=M x y/\M x y<=8000
def JB8(B:Int)(o f t:Nat)(M:Nat->Cg):Prop:= ∀x y,M x y<=8000/\ -(6*B)<=M x y/\(x=o-> -(3*B)<=M x y)/\(y=o-> -(3*B)<=M x y)/\(x=o->y=o-> -(2*B)<=M x y)/\(¬(x<f\/(x=f/\y<t))-> -B<=M x y)
theorem Qu3{B:Int}{o:Nat}{M:Nat->Cg}(hB:0<=B)(h:LB8 B M):JB8 B o 0 0 M:=by
 intro x y;have:=h x y;refine ⟨VI,VI,λ_=>VI,λ_=>VI,λ_ _=>VI,λ_=>VI⟩
theorem Xc1{B:Int}{o f t:Nat}{M:Nat->Cg}(hB:0<=B)(h:JB8 B o f t M):JB8 B o f (t+1) (fwS M o f t):=by
 have hft:=h f t;have hfo:=h f o;have hot:=h o t;have hoo:=h o o;have I:=hft.2.2.2.2.2 VI;intro x y;have hxy:=h x y;unfold fwS bnd wT;by_cases hc:x=f/\y=t;exact YZ;rw [if_neg hc];exact ⟨hxy.1,hxy.2.1,hxy.2.2.1,hxy.2.2.2.1,hxy.2.2.2.2.1,λhv=>hxy.2.2.2.2.2 VI⟩
theorem Xc2{B:Int}{o f:Nat}{M:Nat->Cg}(hB:0<=B)(h:JB8 B o f 0 M): ∀t,JB8 B o f t (fwT M o f t)
 | 0=>h
 |t+1=>Xc1 hB (Xc2 hB h t)
theorem Xq6{B:Int}{o f t:Nat}{M:Nat->Cg}(h:JB8 B o f t M):JB8 B o (f+1) 0 M:=by
 intro x y;have hxy:=h x y;exact ⟨hxy.1,hxy.2.1,hxy.2.2.1,hxy.2.2.2.1,hxy.2.2.2.2.1,λhv=>hxy.2.2.2.2.2 VI⟩
theorem Xc3{B:Int}{c o:Nat}{M:Nat->Cg}(hB:0<=B)(h:LB8 B M): ∀f,JB8 B o f 0 (fwF c M o f)
 | 0=>Qu3 hB h
 |f+1=>Xq6 (Xc2 hB (Xc3 hB h f) (c+1))
theorem Xb9{c:Nat}{M:Nat->Cg}(h:LB8 8001 M): ∀o,LB8 (8001*6^o) (fwO c M o)
 | 0=>by
  rw [show (8001:Int)*6^0=8001 by decide]
  exact h
 |o+1=>by
  have ih:=Xb9 (c:=c) h o;have hp:(0:Int)<=8001*6^o:=Bz VI (Int.pow_nonneg VI);have hj:=Xc3 (c:=c) (o:=o) hp ih (c+1);intro x y;have:=hj x y;have e:(8001:Int)*6^(o+1)=6*(8001*6^o):=by rw [Int.pow_succ];omega
  rw [e];exact ⟨this.2.1,this.1⟩
theorem Jg4: ∀o:Nat,o<=12->(6:Int)^o<=2176782336:=by
 intro o ho;rcases (show o=0\/o=1\/o=2\/o=3\/o=4\/o=5\/o=6\/o=7\/o=8\/o=9\/o=10\/o=11\/o=12 by omega) with rfl|rfl|rfl|rfl|rfl|rfl|rfl|rfl|rfl|rfl|rfl|rfl|rfl<;>decide
theorem Zq7{c:Nat}{M:Nat->Cg}(h:LB8 8001 M){o f t:Nat}(ho:o<=12)(x y:Nat): -105000000000000<=fwT (fwF c (fwO c M o) o f) o f t x y/\fwT (fwF c (fwO c M o) o f) o f t x y<=8000:=by
 have ih:=Xb9 (c:=c) h o;have hp:(0:Int)<=8001*6^o:=Bz VI (Int.pow_nonneg VI);have hj:=Xc2 hp (Xc3 (c:=c) (o:=o) hp ih f) t x y;have:=Jg4 o ho;omega
theorem y8{B:Int}{M:Nat->Cg}(h:LB8 B M){a b:Nat}{v:Int}(hv: -B<=v):LB8 B (bnd M a b v):=by
 intro x y;have h1:=h a b;have h2:=h x y;unfold bnd wT;split<;>omega
theorem oLH(k:Nat):(-9<=oL k/\oL k<=0)/\0<=oH k/\oH k<=9:=by
 unfold oL oH;constructor<;>split<;>omega
theorem We9: ∀k,LB8 8001 (ofM k)
 | 0=>by
  intro x y;unfold ofM LT;split<;>omega
 |k+1=>by
  have h:=oLH k;exact y8 (y8 (We9 k) VI) VI
theorem Wv2{N:Nat}{U O:Cg}{m:Ch}{r v:Nat->Cg}(h:bOK N U O m r v): ∀k,k<=N->LB8 8001 (btM U O k)
 | 0,_=>We9 3
 |k+1,hk=>by
  have q:=h.2 k VI;exact y8 (y8 (Wv2 h k VI) VI) VI
theorem SW{N:Nat}{U O:Cg}{m:Ch}{r v:Nat->Cg}(h:bOK N U O m r v): ∀q,q<=HC m N->LB8 8001 (rG N U O m r v q)
 | 0,_=>Wv2 h N (Am _)
 |q+1,hq=>by
  obtain ⟨hl1,hl2⟩:=TP m N q VI;have q4:=(h.2 _ hl1).2.2.2.2 _ hl2;exact y8 (y8 (SW h q VI) VI) VI
section
variable (N:Nat)(U O:Cg)(m:Ch)(r v:Nat->Cg)
def r0M:Nat->Cg:=rG N U O m r v (HC m N)
def PE:Nat->Cg:=fwO 12 (r0M N U O m r v) 13
def xF:Bool:=D4 (λk=>decide (0<=PE N U O m r v k k)) 13
def Zw3:St:={σ:=[AV.ro [lst 2 3 λk=>[iI (oL k),iI (oH k)],iI 1,Q1 N U O m r v,Q2 m N,top],agg QC,top,ptr 0 0,QD,AV.lit false,ptr 4 0]++HH 15 [iI 13]++HH 20 [lst 2 3 λk=>[iI (oL k),iI (oH k)],iI ((3:Nat):Int),iI 3]++HH 20 [Q1 N U O m r v,iI (N:Int),iI (N:Int)]++HH 14 [Q2 m N,iI (HC m N:Int),iI (HC m N:Int)]++HH 105 [],m:=[(4,GN.ints 244 [] 169 λk=>G5 (rG N U O m r v (HC m N)) k),(0,KT)],nx:=28}
noncomputable def Zy3:Code:=U7 (VQ (U6 Tryz.f80) 4)
def Wk7(o:Nat):St:=(upE [(136,i o)] [(4,.ints 244 [] 169 (G5 (fwO 12 (r0M N U O m r v) o))),(0,.cells 183 [.x (.int .u64 0)])] (Zw3 N U O m r v))
def CS(o:Nat):G6->Option St
 | .exit 10=>some (upE [(136,i 13)] [(4,.ints 244 [] 169 (G5 (fwO 12 (r0M N U O m r v) 13))),(0,.cells 183 [.x (.int .u64 0)])] (Zw3 N U O m r v))
 |_=>none
def Js8:CT:= .leaf (.exit 10,(CS N U O m r v 0 (.exit 10)).getD (Zw3 N U O m r v))
def Zb2:UF:=GI [] (HB (Wk7 N U O m r v (0)) (Js8 N U O m r v))
def Zw2(o:Nat):St:={σ:=[AV.ro [lst 2 3 λk=>[iI (oL k),iI (oH k)],iI 1,Q1 N U O m r v,Q2 m N,top],agg QC,top,ptr 0 0,QD,AV.lit false,ptr 4 0]++HH 9 [iI (o:Int)]++HH 5 [iI 13]++HH 20 [lst 2 3 λk=>[iI (oL k),iI (oH k)],iI ((3:Nat):Int),iI 3]++HH 20 [Q1 N U O m r v,iI (N:Int),iI (N:Int)]++HH 14 [Q2 m N,iI (HC m N:Int),iI (HC m N:Int)]++HH 50 [iI (o:Int)]++HH 54 [],m:=[(4,GN.ints 244 [] 169 λk=>G5 (fwO 12 (r0M N U O m r v) o) k),(0,KT)],nx:=32}
noncomputable def Zy2:Code:=(U7 (VQ (U7 (VQ (U6 Tryz.f80) 4)) 0))
def Wk6(o:Nat)(f:Nat):St:=(upE [(139,i f)] [(4,.ints 244 [] 169 (G5 (fwF 12 (fwO 12 (r0M N U O m r v) o) o f))),(0,.cells 183 [.x (.int .u64 0)])] (Zw2 N U O m r v o))
def CR(o:Nat)(f:Nat):G6->Option St
 | .exit 12=>some (upE [(139,i 13)] [(4,.ints 244 [] 169 (G5 (fwF 12 (fwO 12 (r0M N U O m r v) o) o 13))),(0,.cells 183 [.x (.int .u64 0)])] (Zw2 N U O m r v o))
 |_=>none
def Js7(o:Nat):CT:= .leaf (.exit 12,(CR N U O m r v o 0 (.exit 12)).getD (Zw2 N U O m r v o))
def Zb1(o:Nat):UF:=GI [] (HB (Wk6 N U O m r v o (0)) (Js7 N U O m r v o))
def Zw1(o:Nat)(f:Nat):St:={σ:=[AV.ro [lst 2 3 λk=>[iI (oL k),iI (oH k)],iI 1,Q1 N U O m r v,Q2 m N,top],agg QC,top,ptr 0 0,QD,AV.lit false,ptr 4 0]++HH 9 [iI (o:Int),iI (f:Int),top,top,top,top,iI 13]++HH 20 [lst 2 3 λk=>[iI (oL k),iI (oH k)],iI ((3:Nat):Int),iI 3]++HH 20 [Q1 N U O m r v,iI (N:Int),iI (N:Int)]++HH 14 [Q2 m N,iI (HC m N:Int),iI (HC m N:Int)]++HH 50 [iI (o:Int),top,top,iI (f:Int)]++HH 51 [],m:=[(4,GN.ints 244 [] 169 λk=>G5 (fwF 12 (fwO 12 (r0M N U O m r v) o) o f) k),(0,KT)],nx:=36}
noncomputable def Jx6:Code:=(U7 (VQ (U7 (VQ (U7 (VQ (U6 Tryz.f80) 4)) 0)) 0))
def Wk5(o:Nat)(f:Nat)(t:Nat):St:=(upE [(142,i t)] [(4,.ints 244 [] 169 (G5 (fwT (fwF 12 (fwO 12 (r0M N U O m r v) o) o f) o f t))),(0,.cells 183 [.x (.int .u64 0)])] (Zw1 N U O m r v o f))
def CQ(o:Nat)(f:Nat)(t:Nat):G6->Option St
 | .exit 14=>some (upE [(142,i 13)] [(4,.ints 244 [] 169 (G5 (fwT (fwF 12 (fwO 12 (r0M N U O m r v) o) o f) o f 13))),(0,.cells 183 [.x (.int .u64 0)])] (Zw1 N U O m r v o f))
 |_=>none
def Js6(o:Nat)(f:Nat):CT:= .leaf (.exit 14,(CQ N U O m r v o f 0 (.exit 14)).getD (Zw1 N U O m r v o f))
def Zb0(o:Nat)(f:Nat):UF:=GI [] (HB (Wk5 N U O m r v o f (0)) (Js6 N U O m r v o f))
theorem Jm2(o:Nat)(f:Nat)(VR:bOK N U O m r v)(UD:o<=12)(HF:f<=12):G0 VN (.loop Jx6) (Zb0 N U O m r v o f):=by
 refine UP [] (L:=[]) (Ae RM (Ae LU (Ae R9 Aa))) (Ai Ab (Ag RP Ac)) VX U1 (X:=Nat) (Wk5 N U O m r v o f) (λt=>t<=13) (λt=>13-t) (CQ N U O m r v o f) (x0:=0) VS ?_ ?_ ?_;rintro t;kernel_rfl;rintro t y E h;unfold CQ at h;split at h;cases h;kernel_rfl;cases h;rintro Q hQ t hx;refine ⟨(t+1),?_⟩;(with_reducible refine D2 (t:=let z2:=(fwF 12 (fwO 12 (r0M N U O m r v) o) o f);let z0:=(fwT z2 o f t);let z1:=(VY (AV.ro [lst 2 3 λk=>[iI (oL k),iI (oH k)],iI 1,Q1 N U O m r v,Q2 m N,top]));let z3:=(VY (HC m N:Int));(branch (decide ((t:Int)<13)) (need [UE f 13] (need [UE t 13] (need [t*1+(f*13+0)<169] (need [UE f 13] (need [UE o 13] (need [o*1+(f*13+0)<169] (need [UE o 13] (need [UE t 13] (need [t*1+(o*13+0)<169] (need [VK (G5 z0 (o*1+(f*13+0))+G5 z0 (t*1+(o*13+0)))] (need [UE f 13] (need [UE t 13] (need [t*1+(f*13+0)+List.length [min (G5 z0 (t*1+(f*13+0))) (G5 z0 (o*1+(f*13+0))+G5 z0 (t*1+(o*13+0)))]<=169] (need [VK ((t:Int)+1)] (need [z1,VY (agg QC),QK,QD=QD,WO,W9,VY (o:Int),VY (f:Int),XH,VY (lst 2 3 λk=>[iI (oL k),iI (oH k)]),VY ((3:Nat):Int),XL,WW N U O m r v,VY (N:Int),VY (N:Int),VY (Q2 m N),z3,z3,VY (o:Int),VY (f:Int),(t:Int)+1=(↑(t+1):Int),169=169,GU 169 (UR (t*1+(f*13+0)) (min (G5 z0 (t*1+(f*13+0))) (G5 z0 (o*1+(f*13+0))+G5 z0 (t*1+(o*13+0)))) (G5 z0)) (G5 (fwT z2 o f (t+1))),QS] (leaf G6.normal)))))))))))))))) (need [z1,VY (agg QC),QK,QD=QD,WO,W9,VY (o:Int),VY (f:Int),XH,VY (lst 2 3 λk=>[iI (oL k),iI (oH k)]),VY ((3:Nat):Int),XL,WW N U O m r v,VY (N:Int),VY (N:Int),VY (Q2 m N),z3,z3,VY (o:Int),VY (f:Int),(t:Int)=13,169=169,GU 169 (G5 z0) (G5 (fwT z2 o f 13)),QS] (leaf (G6.exit 14))))) VT ?_)
 simp only [Js6,CQ,VL.sat,GR] at hQ;simp only [VL.sat,U9,UV,GJ,UB,VK,UG,H4,FE,FJ,FR,GH,CQ]
 have hl:=λx y=>Zq7 (c:=12) (SW VR (HC m N) (Am _)) (o:=o) (f:=f) (t:=t) VI x y;have hfo:=hl f o;have hot:=hl o t;refine ⟨λh=>?_,λh=>?_⟩;have h1: ∀M,G5 M (o*1+(f*13+0))=M f o:=λM=>y5 _ VI VI;have h2: ∀M,G5 M (t*1+(o*13+0))=M o t:=λM=>y5 _ VI VI;have h3: ∀M w,UR (t*1+(f*13+0)) (min (G5 M (t*1+(f*13+0))) w) (G5 M)=G5 (bnd M f t w):=λM w=>zM VI VI;simp only [h3];simp only [h1,h2];unfold r0M;exact YW;obtain rfl:t=13:=VI;exact YW
theorem Jm3(o:Nat)(VR:bOK N U O m r v)(UD:o<=12):G0 VN (.loop Zy2) (Zb1 N U O m r v o):=by
 refine UP [] (L:=[PP 17 (λk=>FH [k<=12] (Zb0 N U O m r v o k))]) (Ae RM (Ae LU (Ae R9 Aa))) (Ai Ab (Ag RP Ac)) VX (UY (λcj hcj=>by
  have e:VQ Zy2 0=some (.loop Jx6):=VT;rw [e] at hcj;cases hcj;exact RE (λk=>HU (λh=>Jm2 N U O m r v o k VR UD h)))) (X:=Nat) (Wk6 N U O m r v o) (λf=>f<=13) (λf=>13-f) (CR N U O m r v o) (x0:=0) VS ?_ ?_ ?_
 rintro f;kernel_rfl;rintro f y E h;unfold CR at h;split at h;cases h;kernel_rfl;cases h;rintro Q hQ f hx;refine ⟨(f+1),?_⟩;(with_reducible refine D2 (t:=let z0:=(VY (AV.ro [lst 2 3 λk=>[iI (oL k),iI (oH k)],iI 1,Q1 N U O m r v,Q2 m N,top]));let z1:=(fwO 12 (r0M N U O m r v) o);let z2:=(VY (HC m N:Int));let z3:=(VY (lst 2 3 λk=>[iI (oL k),iI (oH k)]));(branch (decide ((f:Int)<13)) (need [f<=12] (need [z0,VY (agg QC),QK,QD=QD,WO,W9,VY (o:Int),VY (f:Int),XH,z3,VY ((3:Nat):Int),XL,WW N U O m r v,VY (N:Int),VY (N:Int),VY (Q2 m N),z2,z2,VY (o:Int),VY (f:Int),(0:Int)=((0:Nat):Int),169=169,GU 169 (G5 (fwF 12 z1 o f)) (G5 (fwT (fwF 12 z1 o f) o f 0)),QS] (need [VK ((f:Int)+1)] (need [z0,VY (agg QC),QK,QD=QD,WO,W9,VY (o:Int),XH,z3,VY ((3:Nat):Int),XL,WW N U O m r v,VY (N:Int),VY (N:Int),VY (Q2 m N),z2,z2,VY (o:Int),(f:Int)+1=(↑(f+1):Int),169=169,GU 169 (G5 (fwT (fwF 12 z1 o f) o f 13)) (G5 (fwF 12 z1 o (f+1))),QS] (leaf G6.normal))))) (need [z0,VY (agg QC),QK,QD=QD,WO,W9,VY (o:Int),XH,z3,VY ((3:Nat):Int),XL,WW N U O m r v,VY (N:Int),VY (N:Int),VY (Q2 m N),z2,z2,VY (o:Int),(f:Int)=13,169=169,GU 169 (G5 (fwF 12 z1 o f)) (G5 (fwF 12 z1 o 13)),QS] (leaf (G6.exit 12))))) VT ?_)
 simp only [Js7,CR,VL.sat,GR] at hQ;simp only [VL.sat,U9,UV,GJ,UB,VK,UG,H4,FE,FJ,FR,GH,CR]
 refine ⟨λh=>?_,λh=>?_⟩;exact YW;obtain rfl:f=13:=VI;exact YW
theorem Jm4(VR:bOK N U O m r v):G0 VN (.loop Zy3) (Zb2 N U O m r v):=by
 refine UP [] (L:=[PP 16 (λk=>FH [k<=12] (Zb1 N U O m r v k))]) (Ae RM (Ae LU (Ae R9 Aa))) (Ai Ab (Ag RP Ac)) VX (UY (λcj hcj=>by
  have e:VQ Zy3 0=some (.loop Zy2):=VT;rw [e] at hcj;cases hcj;exact RE (λk=>HU (λh=>Jm3 N U O m r v k VR h)))) (X:=Nat) (Wk7 N U O m r v) (λo=>o<=13) (λo=>13-o) (CS N U O m r v) (x0:=0) VS ?_ ?_ ?_
 rintro o;kernel_rfl;rintro o y E h;unfold CS at h;split at h;cases h;kernel_rfl;cases h;rintro Q hQ o hx;refine ⟨(o+1),?_⟩;(with_reducible refine D2 (t:=let z0:=(VY (AV.ro [lst 2 3 λk=>[iI (oL k),iI (oH k)],iI 1,Q1 N U O m r v,Q2 m N,top]));let z1:=(VY (HC m N:Int));let z2:=(VY (lst 2 3 λk=>[iI (oL k),iI (oH k)]));let z3:=(fwO 12 (r0M N U O m r v) o);(branch (decide ((o:Int)<13)) (need [o<=12] (need [z0,VY (agg QC),QK,QD=QD,WO,W9,VY (o:Int),XH,z2,VY ((3:Nat):Int),XL,WW N U O m r v,VY (N:Int),VY (N:Int),VY (Q2 m N),z1,z1,VY (o:Int),(0:Int)=((0:Nat):Int),169=169,GU 169 (G5 z3) (G5 (fwF 12 z3 o 0)),QS] (need [VK ((o:Int)+1)] (need [z0,VY (agg QC),QK,QD=QD,WO,W9,XH,z2,VY ((3:Nat):Int),XL,WW N U O m r v,VY (N:Int),VY (N:Int),VY (Q2 m N),z1,z1,(o:Int)+1=(↑(o+1):Int),169=169,GU 169 (G5 (fwF 12 z3 o 13)) (G5 (fwO 12 (r0M N U O m r v) (o+1))),QS] (leaf G6.normal))))) (need [z0,VY (agg QC),QK,QD=QD,WO,W9,XH,z2,VY ((3:Nat):Int),XL,WW N U O m r v,VY (N:Int),VY (N:Int),VY (Q2 m N),z1,z1,(o:Int)=13,169=169,GU 169 (G5 z3) (G5 (fwO 12 (r0M N U O m r v) 13)),QS] (leaf (G6.exit 10))))) VT ?_)
 simp only [Js8,CS,VL.sat,GR] at hQ;simp only [VL.sat,U9,UV,GJ,UB,VK,UG,H4,FE,FJ,FR,GH,CS]
 refine ⟨λh=>?_,λh=>?_⟩;exact YW;obtain rfl:o=13:=VI;exact YW
end
section
variable (N:Nat)(U O:Cg)(m:Ch)(r v:Nat->Cg)
def Xe0:St:={σ:=[AV.ro [lst 2 3 λk=>[iI (oL k),iI (oH k)],iI 1,Q1 N U O m r v,Q2 m N,top],agg QC,top,ptr 0 0,top,top,ptr 4 0]++HH 15 [iI 13]++HH 20 [lst 2 3 λk=>[iI (oL k),iI (oH k)],iI ((3:Nat):Int),iI 3]++HH 20 [Q1 N U O m r v,iI (N:Int),iI (N:Int)]++HH 14 [Q2 m N,iI (HC m N:Int),iI (HC m N:Int)]++HH 50 [iI 13]++HH 54 [],m:=[(4,GN.ints 244 [] 169 λk=>G5 (fwO 12 (r0M N U O m r v) 13) k),(0,KT)],nx:=29}
noncomputable def Jx5:Code:=U7 (VQ (U6 Tryz.f80) 5)
def Wk4(k:Nat):St:=(upE [(178,i k)] [(4,.ints 244 [] 169 (G5 (PE N U O m r v))),(0,.cells 183 [.x (.int .u64 0)])] (Xe0 N U O m r v))
def dA(k:Nat):G6->Option St
 | .ret=>some (upE [(4,.x (.pointer none)),(5,.lit false),(178,.top)] [(4,.ints 244 [] 169 (G5 (PE N U O m r v))),(0,.cells 183 [.x (.int .u64 0)])] (Xe0 N U O m r v))
 | .exit 16=>some (upE [(178,.top)] [(4,.ints 244 [] 169 (G5 (PE N U O m r v))),(0,.cells 183 [.x (.int .u64 0)])] (Xe0 N U O m r v))
 |_=>none
def Js5:CT:= .branch (xF N U O m r v) (.leaf (.exit 16,(dA N U O m r v 0 (.exit 16)).getD (Xe0 N U O m r v))) (.leaf (.ret,(dA N U O m r v 0 .ret).getD (Xe0 N U O m r v)))
def Za9:UF:=GI [] (HB (Wk4 N U O m r v (0)) (Js5 N U O m r v))
theorem Jm1(VR:bOK N U O m r v):G0 VN (.loop Jx5) (Za9 N U O m r v):=by
 refine UP [] (L:=[]) (Ae RM (Ae LU (Ae R9 Aa))) (Ai Ab (Ag RP Ac)) VX U1 (X:=Nat) (Wk4 N U O m r v) (λk=>k<=13/\ ∀j,j<k->0<=PE N U O m r v j j) (λk=>13-k) (dA N U O m r v) (x0:=0) VS ?_ ?_ ?_;rintro k;kernel_rfl;rintro k y E h;unfold dA at h;split at h;cases h;kernel_rfl;cases h;kernel_rfl;cases h;rintro Q hQ k hx;refine ⟨(k+1),?_⟩;(with_reducible refine D2 (t:=let W:=(VY (AV.ro [lst 2 3 λk=>[iI (oL k),iI (oH k)],iI 1,Q1 N U O m r v,Q2 m N,top]));let z1:=(VY (HC m N:Int));let z2:=PE N U O m r v;let z3:=(VY (lst 2 3 λk=>[iI (oL k),iI (oH k)]));(branch (decide ((k:Int)<13)) (need [UE k 13] (need [UE k 13] (need [k*1+(k*13+0)<169] (branch (decide (G5 (z2) (k*1+(k*13+0))<0)) (need [W,VY (agg QC),QK,QD=QD,WO,W9,XH,z3,VY ((3:Nat):Int),XL,WW N U O m r v,VY (N:Int),VY (N:Int),VY (Q2 m N),z1,z1,XH,169=169,GO 169 (G5 (z2)),QS] (leaf G6.ret)) (need [VK ((k:Int)+1)] (need [W,VY (agg QC),QK,W9,XH,z3,VY ((3:Nat):Int),XL,WW N U O m r v,VY (N:Int),VY (N:Int),VY (Q2 m N),z1,z1,XH,(k:Int)+1=(↑(k+1):Int),169=169,GO 169 (G5 (z2)),QS] (leaf G6.normal))))))) (need [W,VY (agg QC),QK,W9,XH,z3,VY ((3:Nat):Int),XL,WW N U O m r v,VY (N:Int),VY (N:Int),VY (Q2 m N),z1,z1,XH,169=169,GO 169 (G5 (z2)),QS] (leaf (G6.exit 16))))) VT ?_)
 simp only [Js5,dA,VL.sat,GR] at hQ;simp only [VL.sat,U9,UV,GJ,UB,VK,UG,H4,FE,FJ,FR,GH,dA]
 have h1:G5 (PE N U O m r v) (k*1+(k*13+0))=PE N U O m r v k k\/13<=k:=by
  rcases An k 13 with h|h;exact .inl (y5 _ VI h);exact .inr h
 refine ⟨λh=>?_,λh=>?_⟩;have h2:=h1.resolve_right VI;rw [h2];refine ⟨VI,VI,VI,λhneg=>?_,λWo1=>?_⟩
 ·have hno:xF N U O m r v=false:=by
   cases ho:xF N U O m r v;rfl;have:=GK.1 ho k VI;simp at this;omega
  (with_reducible repeat' first|apply Al|intro _)
  all_goals first|exact P4|(rename_i E hE;cases hE;exact hQ.2 hno)
 exact VE
 ·obtain ⟨hx1,hx2⟩:=hx;obtain rfl:k=13:=VI;have Wm8:xF N U O m r v=true:=GK.2 (λj hj=>by simpa using hx2 j hj)
  (with_reducible repeat' first|apply Al|intro _)
  all_goals first|exact P4|(rename_i E hE;cases hE;exact hQ.1 Wm8)
end
theorem Ql0{S:Code->UF->Prop}{c:Code}{s0 s1 s2 s3 s4 s5:UF}(h0: ∀cj,VQ c 0=some cj->S cj s0)(h1: ∀cj,VQ c 1=some cj->S cj s1)(h2: ∀cj,VQ c 2=some cj->S cj s2)(h3: ∀cj,VQ c 3=some cj->S cj s3)(h4: ∀cj,VQ c 4=some cj->S cj s4)(h5: ∀cj,VQ c 5=some cj->S cj s5):
  ∀j cj,VQ c j=some cj-> ∀sp,[s0,s1,s2,s3,s4,s5][j]? =some sp->S cj sp:=by
 intro j cj hj sp hsp
 match j with
 | 0=>simp at hsp;subst hsp;exact h0 cj hj
 | 1=>simp at hsp;subst hsp;exact h1 cj hj
 | 2=>simp at hsp;subst hsp;exact h2 cj hj
 | 3=>simp at hsp;subst hsp;exact h3 cj hj
 | 4=>simp at hsp;subst hsp;exact h4 cj hj
 | 5=>simp at hsp;subst hsp;exact h5 cj hj
 |j+6=>simp at hsp
section
variable (N:Nat)
abbrev KA(U:Cg)(O:Cg)(m:Ch)(r:Nat->Cg)(v:Nat->Cg):AV:=roI [] 169 (λk=>G5 (PE N U O m r v) k) 0
theorem Xo0(U O:Cg)(m:Ch)(r v:Nat->Cg)(VR:bOK N U O m r v):UK VN 80 [.ro [ofs,i 1,bds N U O m r v,.lst 2 (HC m N) (plF m N),.top],.agg [.x (.int .u64 0)]] (.branch (xF N U O m r v) (.leaf (.tup [.roI [] 169 (G5 (PE N U O m r v)) 0,.lit true])) (.leaf (.tup [Bo.nilP,.lit false]))):=by
 refine GS (L:=[Zb7 N U O m r v,Zb5 N U O m r v,Zb4 N U O m r v,Zb3 N U O m r v,Zb2 N U O m r v,Za9 N U O m r v]) (Ae RM (Ae LU (Ae R9 Aa))) (Ai Ab (Ag RP Ac)) VX Tryz.func80 (US Tryz.f80) (Ql0 (lpE (b:= .loop Zy4) VT<|(Jm9 N U O m r v).N) (lpE (b:= .loop Jx9) VT<|(Jm7 N U O m r v).N) (lpE (b:= .loop Jx8) VT<|(Jm6 N U O m r v VR).N) (lpE (b:= .loop Jx7) VT<|(Jm5 N U O m r v VR).N) (lpE (b:= .loop Zy3) VT<|(Jm4 N U O m r v VR).N) (lpE (b:= .loop Jx5) VT<|(Jm1 N U O m r v VR).N)) (t:=let W:=(VY (AV.ro [lst 2 3 λk=>[iI (oL k),iI (oH k)],iI 1,Q1 N U O m r v,Q2 m N,top]));let z1:=(VY (lst 2 3 λk=>[iI (oL k),iI (oH k)]));let z2:=(VY (HC m N:Int));let z3:=(VY ((3:Nat):Int));(need [W,VY (agg QC),QK,QD=QD,WO,W9,(0:Int)=((0:Nat):Int),169=169,GU 169 (U8 QL) (G5 (LT 0 0)),QS] (need [W,VY (agg QC),QK,QD=QD,WO,W9,XH,z1,z3,(0:Int)=((0:Nat):Int),169=169,GU 169 (G5 (LT 13 0)) (G5 (ofM 0)),QS] (need [W,VY (agg QC),QK,QD=QD,WO,W9,XH,z1,z3,XL,WW N U O m r v,VY (N:Int),(0:Int)=((0:Nat):Int),169=169,GU 169 (G5 (ofM 3)) (G5 (btM U O 0)),QS] (need [W,VY (agg QC),QK,QD=QD,WO,W9,XH,z1,z3,XL,WW N U O m r v,VY (N:Int),VY (N:Int),VY (Q2 m N),z2,(0:Int)=((0:Nat):Int),169=169,GU 169 (G5 (btM U O N)) (G5 (rG N U O m r v 0)),QS] (need [W,VY (agg QC),QK,QD=QD,WO,W9,XH,z1,z3,XL,WW N U O m r v,VY (N:Int),VY (N:Int),VY (Q2 m N),z2,z2,(0:Int)=((0:Nat):Int),169=169,GU 169 (G5 (rG N U O m r v (HC m N))) (G5 (fwO 12 (r0M N U O m r v) 0)),QS] (need [W,VY (agg QC),QK,W9,XH,z1,z3,XL,WW N U O m r v,VY (N:Int),VY (N:Int),VY (Q2 m N),z2,z2,XH,(0:Int)=((0:Nat):Int),169=169,GU 169 (G5 (fwO 12 (r0M N U O m r v) 13)) (G5 (PE N U O m r v)),QS] (branch (xF N U O m r v) (leaf (tup [KA N U O m r v,AV.lit true])) (leaf (tup [QD,AV.lit false])))))))))) VT ?_
 intro Q hQ;simp only [VL.sat,U9,UG,VK,FR,GH] at hQ ⊢
 (with_reducible repeat' first|apply Al|intro _)
 all_goals first|exact Ak|omega|with_reducible rfl|rfl|exact Xm1 _|(rename_i h;exact h.elim)|(rename_i h;exact ⟨.tup [.roI [] 169 (G5 (PE N U O m r v)) 0,.lit true],⟨⟨rfl,rfl,λ_ _=>rfl,rfl⟩,rfl,Ak⟩,hQ.1 h⟩)|(rename_i h;exact ⟨.tup [Bo.nilP,.lit false],⟨rfl,rfl,Ak⟩,hQ.2 h⟩)
def Zt7(U O:Cg)(m:Ch)(r v:Nat->Cg):D9:=λl=>some (.need [l=[.ro [ofs,i 1,bds N U O m r v,.lst 2 (HC m N) (plF m N),.top],.agg [.x (.int .u64 0)]]] (.branch (xF N U O m r v) (.leaf (.tup [.roI [] 169 (G5 (PE N U O m r v)) 0,.lit true])) (.leaf (.tup [Bo.nilP,.lit false]))))
theorem Wv9(U O:Cg)(m:Ch)(r v:Nat->Cg)(VR:bOK N U O m r v):Sx.Enters Tryz.prog 80/\ ∀avs t,Zt7 N U O m r v avs=some t->UK VN 80 avs t:=by
 refine ⟨(UI Tryz.func80),?_⟩;intro avs t h;cases h;intro Q hQ;have e:=hQ.1
 dsimp only [U9] at e
 subst e;exact Xo0 N U O m r v VR Q hQ.2
def bV(U O:Cg)(m:Ch)(r v:Nat->Cg):Prop:=bOK N U O m r v/\ ∀b,b<N-> ∀j k,j<k->k<m b->r b j≠r b k
end
section
variable {N:Nat}{U O:Cg}{m:Ch}{r v:Nat->Cg}
theorem Jb8(h:bV N U O m r v):vB N (λk=>[i (U k),i (O k),bts (m k) (r k) (v k)]):=by
 refine ⟨h.1.1,U,O,m,λk j=>[i (r k j),i (v k j)],λ_ _=>rfl,λk hk=>⟨λ_ _=>rfl,⟨?_,λj hj=>?_,λj q hj hq=>?_⟩,?_⟩⟩;have:=(h.1.2 k hk).1;omega;obtain ⟨h1,h2,h3,h4,h5⟩:=h.1.2 k hk;exact h5 j hj;exact h.2 k hk j q hj hq;obtain ⟨h1,h2,h3,h4,h5⟩:=h.1.2 k hk;exact (insB_iff _ _ _ _).2 ⟨h2,h3,h4⟩
theorem Ww6(h:bV N U O m r v):N<=1000/\ ∀b,b<N->m b<=1000:=⟨by have:=h.1.1;omega,λb hb=>by have:=(h.1.2 b hb).1;omega⟩
end
section
variable (f:Ci)(er:Int)(N:Nat)(U O:Cg)(m:Ch)(r v:Nat->Cg)
def Xq3:UX:=λl=>some ([l=[.agg [.lst 2 3 f,i er,bds N U O m r v]]],.ro [.lst 2 3 f,i er,bds N U O m r v,.lst 2 (HC m N) (plF m N),.top])
theorem Qs3(VR:N<=1000)(UD: ∀b,b<N->m b<=1000):PH VN 79 (Xq3 f er N U O m r v):=by
 refine ⟨(UI Tryz.func79),?_⟩;intro avs ns res h hn;cases h;have e:=hn _ GB;subst e;exact Wv0 f er N U O m r v VR UD
end
section
variable (N:Nat)(U O:Cg)(m:Ch)(r v:Nat->Cg)
theorem Qs4(VR:bV N U O m r v):UK VN 52 [.agg [ofs,i 1,bds N U O m r v],.lit true] (.branch (xF N U O m r v) (.leaf (.tup [.roI [] 169 (G5 (PE N U O m r v)) 0,i 0])) (.leaf (.tup [Bo.nilP,i 9]))):=by
 refine GS (L:=[]) (Ae Qt2 Aa) (Aj (Af (Qs3 (λk=>[i (oL k),i (oH k)]) 1 N U O m r v (Ww6 VR).1 (Ww6 VR).2) Ab) Ac (Ah (Wv9 N U O m r v VR.1) (UA.nil _))) VX Tryz.func52 (US Tryz.f52) G7 (t:=need [ofB λk=>[i (oL k),i (oH k)],vB N λk=>[i (U k),i (O k),bts (m k) (r k) (v k)]] (branch ((0:Int) != 0) (leaf (tup [QD,iI 0])) (need [VY ([agg [lst 2 3 λk=>[iI (oL k),iI (oH k)],iI 1,Q1 N U O m r v]])] (need [VY ([AV.ro [lst 2 3 λk=>[iI (oL k),iI (oH k)],iI 1,Q1 N U O m r v,Q2 m N,top],agg QC])] (branch (xF N U O m r v) (leaf (tup [KA N U O m r v,iI 0])) (leaf (tup [QD,iI 9]))))))) VT ?_;intro Q hQ;simp only [VL.sat,U9,UG] at hQ ⊢;refine ⟨⟨λ_ _=>rfl,Jb8 VR⟩,λh=>by simp at h,λ_=>⟨λh=>⟨.tup [.roI [] 169 (G5 (PE N U O m r v)) 0,i 0],⟨⟨rfl,rfl,λ_ _=>rfl,rfl⟩,⟨rfl,rfl⟩,Ak⟩,hQ.1 h⟩,λh=>⟨.tup [Bo.nilP,i 9],⟨rfl,⟨rfl,rfl⟩,Ak⟩,hQ.2 h⟩⟩⟩
def Xb0:D9:=λl=>some (.need [l=[.agg [ofs,i 1,bds N U O m r v],.lit true]] (.branch (xF N U O m r v) (.leaf (.tup [.roI [] 169 (G5 (PE N U O m r v)) 0,i 0])) (.leaf (.tup [Bo.nilP,i 9]))))
theorem IQ(VR:bV N U O m r v):Sx.Enters Tryz.prog 52/\ ∀avs t,Xb0 N U O m r v avs=some t->UK VN 52 avs t:=by
 refine ⟨(UI Tryz.func52),?_⟩;intro avs t h;cases h;intro Q hQ;have e:=hQ.1
 dsimp only [U9] at e
 subst e;exact Qs4 N U O m r v VR Q hQ.2
end
def Wz0:UX
 |[.roI [] 169 F 0,.x (.int .i64 a),.x (.int .i64 b)]=>some ([0<=a/\a<=12,0<=b/\b<=12,-1000000000000000<=F (b.toNat*13+a.toNat)/\F (b.toNat*13+a.toNat)<=1000000000000000],i (-(F (b.toNat*13+a.toNat))))
 |_=>none
theorem Xn9(F:Cg)(a b:Int)(VR:0<=a/\a<=12)(UD:0<=b/\b<=12)(HF: -1000000000000000<=F (b.toNat*13+a.toNat)/\F (b.toNat*13+a.toNat)<=1000000000000000):VW VN 81 [.roI [] 169 F 0,i a,i b] (i (-(F (b.toNat*13+a.toNat)))):=by
 refine GV Tryz.func81 (t:=need [UE b 13] (need [UE a 13] (need [Int.toNat a*1+(Int.toNat b*13+0)<169] (need [VK (-F (Int.toNat a*1+(Int.toNat b*13+0)))] (leaf (RV.x (.int .i64 (-F (Int.toNat a*1+(Int.toNat b*13+0)))))))))) VT ?_;simp only [VL.sat,U9,UV,GJ,UB,UG,DX];rw [show a.toNat*1+(b.toNat*13+0)=b.toNat*13+a.toNat by omega]
 simp only [VK];simp;omega
theorem Xn8:VO VN 81 Wz0:=by
 refine ⟨(UI Tryz.func81),?_⟩;intro avs ns res h hn;unfold Wz0 at h;split at h;cases h;exact Xn9 _ _ _ (hn _ VS) (hn _ VS) (hn _ VS);cases h
def Qg7:UX
 |[.roI [] 169 F 0,.x (.int .i64 a),.x (.int .i64 b)]=>some ([0<=a/\a<=12,0<=b/\b<=12,-1000000000000000<=F (a.toNat*13+b.toNat)/\F (a.toNat*13+b.toNat)<=1000000000000000],i (F (a.toNat*13+b.toNat)))
 |_=>none
theorem Wv7(F:Cg)(a b:Int)(VR:0<=a/\a<=12)(UD:0<=b/\b<=12)(HF: -1000000000000000<=F (a.toNat*13+b.toNat)/\F (a.toNat*13+b.toNat)<=1000000000000000):VW VN 82 [.roI [] 169 F 0,i a,i b] (i (F (a.toNat*13+b.toNat))):=by
 refine GV Tryz.func82 (t:=need [UE a 13] (need [UE b 13] (need [Int.toNat b*1+(Int.toNat a*13+0)<169] (leaf (RV.x (.int .i64 (F (Int.toNat b*1+(Int.toNat a*13+0))))))))) VT ?_;simp only [VL.sat,U9,UV,GJ,UB,UG,DX];rw [show b.toNat*1+(a.toNat*13+0)=a.toNat*13+b.toNat by omega]
 simp only [VK];simp;omega
theorem Wv6:VO VN 82 Qg7:=by
 refine ⟨(UI Tryz.func82),?_⟩;intro avs ns res h hn;unfold Qg7 at h;split at h;cases h;exact Wv7 _ _ _ (hn _ VS) (hn _ VS) (hn _ VS);cases h
def M9:UX
 |[.roI [] 169 F 0,.x (.int .i64 a),.x (.int .i64 b)]=>some ([0<=a/\a<=12,0<=b/\b<=12,-1000000000000000<=F (b.toNat*13+a.toNat)/\F (b.toNat*13+a.toNat)<=1000000000000000,-1000000000000000<=F (a.toNat*13+b.toNat)/\F (a.toNat*13+b.toNat)<=1000000000000000],.agg [i (-(F (b.toNat*13+a.toNat))),i (F (a.toNat*13+b.toNat))])
 |_=>none
theorem lM(F:Cg)(a b:Int)(VR:0<=a/\a<=12)(UD:0<=b/\b<=12)(HF: -1000000000000000<=F (b.toNat*13+a.toNat)/\F (b.toNat*13+a.toNat)<=1000000000000000)(DM: -1000000000000000<=F (a.toNat*13+b.toNat)/\F (a.toNat*13+b.toNat)<=1000000000000000):VW VN 53 [.roI [] 169 F 0,i a,i b] (.agg [i (-(F (b.toNat*13+a.toNat))),i (F (a.toNat*13+b.toNat))]):=by
 refine U0 (L:=[]) (Ae Xn8 (Ae Wv6 Aa)) VX Tryz.func53 (US Tryz.f53) U1 (t:=need [(0:Int)<=a/\a<=12,(0:Int)<=b/\b<=12,(-1000000000000000:Int)<=F (Int.toNat b*13+Int.toNat a)/\F (Int.toNat b*13+Int.toNat a)<=1000000000000000] (need [(0:Int)<=a/\a<=12,(0:Int)<=b/\b<=12,(-1000000000000000:Int)<=F (Int.toNat a*13+Int.toNat b)/\F (Int.toNat a*13+Int.toNat b)<=1000000000000000] (leaf (RV.agg [RV.x (.int .i64 (-F (Int.toNat b*13+Int.toNat a))),RV.x (.int .i64 (F (Int.toNat a*13+Int.toNat b)))])))) VT ?_;exact YX
theorem rB:VO VN 53 M9:=by
 refine ⟨(UI Tryz.func53),?_⟩;intro avs ns res h hn;unfold M9 at h;split at h;cases h;exact lM _ _ _ (hn _ VS) (hn _ VS) (hn _ VS) (hn _ VS);cases h
theorem Xm2{N:Nat}{U O:Cg}{m:Ch}{r v:Nat->Cg}(h:bOK N U O m r v)(x y:Nat): -1000000000000000<=PE N U O m r v x y/\PE N U O m r v x y<=1000000000000000:=by
 have:=Xb9 (c:=12) (SW h (HC m N) (Am _)) 13 x y;rw [show (8001:Int)*6^13=104498612822016 by decide] at this
 unfold PE r0M;omega
section
variable (N:Nat)(U O:Cg)(m:Ch)(r v:Nat->Cg)
def boE:Int:=if xF N U O m r v=true then 0 else 9
def boN:Nat:=if xF N U O m r v=true then 3 else 0
def boL(k:Nat):Int:= -(PE N U O m r v 0 (1+k))
def boH(k:Nat):Int:=PE N U O m r v (1+k) 0
abbrev Q9:AV:=AV.x (.slice none 0 0)
def tE:St:={σ:=[agg [lst 2 3 λk=>[iI (oL k),iI (oH k)],iI 1,Q1 N U O m r v],ptr 0 0,Q9,iI 0,QD,iI 9]++HH 12 [iI ((3:Nat):Int)]++HH 12 [],m:=[(901,GN.row 68 2 0 λx=>[]),(0,GN.cells 59 [lst 2 3 λk=>[iI (oL k),iI (oH k)],iI 1,Q1 N U O m r v])],nx:=902}
noncomputable def Qu6:Code:=U7 (VQ (U6 Tryz.f19) 0)
def vJ(k:Nat):St:={σ:=H5 [(19,i k),(6,.row 901),(4,.roI [] 169 (G5 (PE N U O m r v)) 0),(5,i 0)] (tE N U O m r v).σ,m:=[(901,.row 68 2 k (λk=>[i (boL N U O m r v k),i (boH N U O m r v k)])),(0,.cells 59 [ofs,i 1,bds N U O m r v])],nx:=902}
def PS(k:Nat):G6->Option St
 | .exit 0=>some {σ:=H5 [(19,i 3),(6,.row 901),(4,.roI [] 169 (G5 (PE N U O m r v)) 0),(5,i 0)] (tE N U O m r v).σ,m:=[(901,.row 68 2 3 (λk=>[i (boL N U O m r v k),i (boH N U O m r v k)])),(0,.cells 59 [ofs,i 1,bds N U O m r v])],nx:=902}
 |_=>none
def Wy2:CT:= .leaf (.exit 0,(PS N U O m r v 0 (.exit 0)).getD (tE N U O m r v))
def mN:UF:=GI [(.slot 6,901,68,2)] (HB (vJ N U O m r v (0)) (Wy2 N U O m r v))
abbrev KO:Prop:=(1:Int)=1
theorem Jo8(VR:bV N U O m r v):G0 VN (.loop Qu6) (mN N U O m r v):=by
 refine UP [(.slot 6,901,68,2)] (L:=[]) (Ae RM (Ae rB Aa)) (Aj Ab Ac (Ah (IQ N U O m r v VR) (UA.nil _))) VX U1 (X:=Nat) (vJ N U O m r v) (λk=>k<=3) (λk=>3-k) (PS N U O m r v) (x0:=0) VS ?_ ?_ ?_;rintro k;kernel_rfl;rintro k y E h;unfold PS at h;split at h;cases h;kernel_rfl;cases h;rintro Q hQ k hx;refine ⟨(k+1),?_⟩;(with_reducible refine D2 (t:=let W:=PE N U O m r v;let z1:=(VY (agg [lst 2 3 λk=>[iI (oL k),iI (oH k)],iI 1,Q1 N U O m r v]));let z2:=(G5 (W) (((1:Int)+(k:Int)).toNat*13+(0:Int).toNat));(branch (decide ((k:Int)<((3:Nat):Int))) (need [(0:Int)<=(k:Int)/\(k:Int)<=1000] (need [(0:Int)<=1+(k:Int)/\(1:Int)+(k:Int)<=12,(0:Int)<=0/\(0:Int)<=12,(-1000000000000000:Int)<=G5 (W) (0+((1:Int)+(k:Int)).toNat)/\G5 (W) (0+((1:Int)+(k:Int)).toNat)<=1000000000000000,(-1000000000000000:Int)<=G5 (W) (((1:Int)+(k:Int)).toNat*13+(0:Int).toNat)/\G5 (W) (((1:Int)+(k:Int)).toNat*13+(0:Int).toNat)<=1000000000000000] (need [(k+1)*16<=140737488355328,RH 1 (U3 2 [iI (-G5 (W) (0+((1:Int)+(k:Int)).toNat)),iI z2])] (need [VK ((k:Int)+1)] (need [z1,QK,Q9=Q9,QS,VY (KA N U O m r v),QS,WJ,VY ((3:Nat):Int),(k:Int)+1=(↑(k+1):Int),k+1=k+1,GU (k+1) (GD k (λk=>[iI (boL N U O m r v k),iI (boH N U O m r v k)]) (U3 2 [iI (-G5 (W) (0+((1:Int)+(k:Int)).toNat)),iI z2])) (λi=>[iI (boL N U O m r v i),iI (boH N U O m r v i)]),VY (lst 2 3 λk=>[iI (oL k),iI (oH k)]),KO,WW N U O m r v] (leaf G6.normal)))))) (need [z1,QK,Q9=Q9,QS,VY (KA N U O m r v),QS,WJ,VY ((3:Nat):Int),(k:Int)=3,k=3,∀(i:Nat),i<3->[iI (boL N U O m r v i),iI (boH N U O m r v i)]=[iI (boL N U O m r v i),iI (boH N U O m r v i)],VY (lst 2 3 λk=>[iI (oL k),iI (oH k)]),KO,WW N U O m r v] (leaf (G6.exit 0))))) VT ?_)
 simp only [Wy2,PS,VL.sat,GR] at hQ;simp only [VL.sat,U9,UV,GJ,UB,VK,UG,H4,FE,FJ,FR,GH,PS]
 have hb:=λx y=>Xm2 VR.1 x y;have e1:(1+(k:Int)).toNat=1+k:=VI;have g1:k<3->G5 (PE N U O m r v) (0*13+(1+k))=PE N U O m r v 0 (1+k):=λ_=>y5 _ VI VI;have g2:k<3->G5 (PE N U O m r v) ((1+k)*13+0)=PE N U O m r v (1+k) 0:=λ_=>y5 _ VI VI;have b1:=hb 0 (1+k);have b2:=hb (1+k) 0;refine ⟨λh=>?_,λh=>?_⟩
 ·have hk:k<3:=VI;have f1:=g1 hk;have f2:=g2 hk;rw [e1];simp only [Int.toNat_zero,f1,f2]
  (with_reducible repeat' first|apply Al|intro _)
  all_goals first|exact Ak|omega|rfl|exact FG (by assumption) (by simp [AV.one,Value.oneCell'])|exact Zs1 rfl rfl (by assumption)
 obtain rfl:k=3:=VI;exact YW
abbrev J6:Value:=Value.slice none 0 0
abbrev Y4:Value:=Value.pointer none
theorem kD(VR:bV N U O m r v):VW VN 19 [.agg [ofs,i 1,bds N U O m r v]] (.tup [.lst 2 (boN N U O m r v) (λk=>[i (boL N U O m r v k),i (boH N U O m r v k)]),i (boE N U O m r v)]):=by
 refine G8 (L:=[mN N U O m r v]) (Ae RM (Ae rB Aa)) (Aj Ab Ac (Ah (IQ N U O m r v VR) (UA.nil _))) VX Tryz.func19 (US Tryz.f19) (UY (lpE (b:= .loop Qu6) VT<|(Jo8 N U O m r v VR).N)) (t:=let W:=([lst 2 3 λk=>[iI (oL k),iI (oH k)],iI 1,Q1 N U O m r v]);let z1:=(leaf (RV.tup [RV.lst 2 3 λk=>[iI (boL N U O m r v k),iI (boH N U O m r v k)],RV.x (X5)]));(need [VY ([agg W,AV.lit true])] (branch (xF N U O m r v) (branch ((0:Int) != 0) (leaf (RV.tup [RV.x (J6),RV.x (X5)])) (need [VY (agg W),QK,Q9=Q9,QS,VY (KA N U O m r v),QS,WJ,VY ((3:Nat):Int),(0:Int)=((0:Nat):Int),0=0,∀(i:Nat),i<0->[]=[iI (boL N U O m r v i),iI (boH N U O m r v i)],VY (lst 2 3 λk=>[iI (oL k),iI (oH k)]),KO,WW N U O m r v] z1)) (branch ((9:Int) != 0) (leaf (RV.tup [RV.x (J6),RV.x (.int .i64 (9:Int))])) (need [VY (agg W),QK,Q9=Q9,QS,AV.x (Y4)=roI [] 169 (λk=>G5 (PE N U O m r v) k) 0,(9:Int)=0,WJ,VY ((3:Nat):Int),(0:Int)=((0:Nat):Int),0=0,∀(i:Nat),i<0->[]=[iI (boL N U O m r v i),iI (boH N U O m r v i)],VY (lst 2 3 λk=>[iI (oL k),iI (oH k)]),KO,WW N U O m r v] z1))))) VT ?_
 simp only [VL.sat,U9,UV,GJ,UB,UG];refine ⟨λhok=>⟨λh=>by simp at h,λ_=>?_⟩,λhno=>⟨λ_=>?_,λh=>by simp at h⟩⟩
 ·unfold boN boE;rw [if_pos hok,if_pos hok]
  (with_reducible repeat' first|apply Al|intro _)
  all_goals first|exact Ak|omega|rfl|(rename_i hm;simp only [GM,D7,or_false] at hm;rcases hm with rfl|rfl<;>exact Ak)
 unfold boN boE;rw [if_neg (by simp [hno]),if_neg (by simp [hno])]
 exact ⟨⟨Ak,rfl⟩,rfl⟩
def sQ:UX:=λl=>some ([l=[.agg [ofs,i 1,bds N U O m r v]]],.tup [.lst 2 (boN N U O m r v) (λk=>[i (boL N U O m r v k),i (boH N U O m r v k)]),i (boE N U O m r v)])
theorem aJ(VR:bV N U O m r v):VO VN 19 (sQ N U O m r v):=by
 refine ⟨(UI Tryz.func19),?_⟩;intro avs ns res h hn;cases h;have e:=hn _ GB;subst e;exact kD N U O m r v VR
end
def S1:UX
 |[.x (.int .i64 n),.x (.int .i64 U),.x (.int .i64 O)]=>some ([],bl (bt U n O))
 |_=>none
theorem nQ(n U O:Int):VW VN 73 [i n,i U,i O] (bl (bt U n O)):=by
 refine GV Tryz.func73 (t:=branch (decide (U<=n)) (leaf (RV.x (.bool (decide (n<=O))))) (leaf (RV.x (WK)))) VT ?_;exact V7
theorem xZ:VO VN 73 S1:=by
 refine ⟨(UI Tryz.func73),?_⟩;intro avs ns res h hn;unfold S1 at h;split at h;cases h;exact nQ _ _ _;cases h
def Wy4:UX
 |[.x (.int .i64 n)]=>some ([],bl (bt 0 n 100))
 |_=>none
theorem Xh5(n:Int):VW VN 56 [i n] (bl (bt 0 n 100)):=by
 refine U0 (L:=[]) (Ae xZ Aa) VX Tryz.func56 (US Tryz.f56) U1 (t:=leaf (RV.x (.bool (bt (0:Int) n (100:Int))))) VT ?_;exact YX
theorem rV:VO VN 56 Wy4:=by
 refine ⟨(UI Tryz.func56),?_⟩;intro avs ns res h hn;unfold Wy4 at h;split at h;cases h;exact Xh5 _;cases h
def M3:UX:=kH
theorem Qm0(a b:Int):VW VN 89 [.lst 1 2 (λk=>[i (if k=0 then a else b)])] (i (min a b)):=by
 refine U0 (L:=[]) (Ae SQ Aa) VX Tryz.func89 (US Tryz.f89) U1 (t:=leaf (RV.x (.int .i64 (min (if 0=0 then a else b) (if 1=0 then a else b))))) VT ?_
 simp [VL.sat,UV,UB]
theorem PQ:VO VN 89 M3:=by
 refine ⟨(UI Tryz.func89),?_⟩;intro avs ns res h hn;unfold M3 kH at h;split at h;rename_i f;split at h;rename_i a b h0 h1;cases h;refine (Qm0 a b).same (.cons (.lst 1 2 _ _ ?_) .nil);intro k hk;rcases (show k=0\/k=1 by omega) with rfl|rfl
 exact h0;exact h1;cases h;cases h
def kI:UX:=dX
theorem SX(a b:Int):VW VN 90 [.lst 1 2 (λk=>[i (if k=0 then a else b)])] (i (max a b)):=by
 refine U0 (L:=[]) (Ae tQ Aa) VX Tryz.func90 (US Tryz.f90) U1 (t:=leaf (RV.x (.int .i64 (max (if 0=0 then a else b) (if 1=0 then a else b))))) VT ?_
 simp [VL.sat,UV,UB]
theorem DZ:VO VN 90 kI:=by
 refine ⟨(UI Tryz.func90),?_⟩;intro avs ns res h hn;unfold kI dX at h;split at h;rename_i f;split at h;rename_i a b h0 h1;cases h;refine (SX a b).same (.cons (.lst 1 2 _ _ ?_) .nil);intro k hk;rcases (show k=0\/k=1 by omega) with rfl|rfl
 exact h0;exact h1;cases h;cases h
def saB(f t q U O:Int):Bool:=bt 0 f 3&&bt 0 t 3&&(f != t)&&bt 1 q 1000&&bt 0 U 100&&bt 0 O 100&&decide (U<=O)
abbrev sls(n:Nat)(f t q U O:Cg):AV:= .lst 5 n (λk=>[i (f k),i (t k),i (q k),i (U k),i (O k)])
def MW(d:Int)(n:Nat):Bool:=Xo9 (d / 2^n) 1==1
theorem Xg4{f t q U O:Int}:saB f t q U O=true↔(0<=f/\f<=3)/\(0<=t/\t<=3)/\f≠t/\(1<=q/\q<=1000)/\(0<=U/\U<=100)/\(0<=O/\O<=100)/\U<=O:=by
 simp [saB,bt_iff,and_assoc]
theorem bJ{q:Nat}(h:q<2^40):IntKind.i64.wrap (q:Int)=q:=by
 have e:IntKind.i64.wrap (q:Int)=if (true&&decide ((q:Int)%2^64>=2^63))=true then (q:Int)%2^64-2^64 else (q:Int)%2^64:=rfl
 have e2:(q:Int)%2^64=q:=Int.emod_eq_of_lt VI VI;rw [e,e2,if_neg];rw [Bool.true_and,kG];omega
theorem pY{z:Nat}(hz:z<8192):(BitVec.ofInt 64 (z:Int)).toNat=z:=by
 rw [BitVec.toNat_ofInt];omega
theorem Xi1{x y:Nat}(hx:x<8192)(hy:y<8192):orI x y=((x ||| y:Nat):Int):=by
 unfold orI;rw [BitVec.toNat_or,pY hx,pY hy];have hlt:x ||| y<2^13:=Nat.or_lt_two_pow VI VI
 exact bJ VI
theorem Ww9{x:Nat}(hx:x<8192):Xo9 x 1=((x%2:Nat):Int):=by
 unfold Xo9;rw [BitVec.toNat_and,pY hx,show (BitVec.ofInt 64 1).toNat=1 from rfl,Nat.and_one_is_mod];exact bJ VI
theorem Zr2(d n:Nat):((d:Int) / 2^n)=((d / 2^n:Nat):Int):=by
 rw [Int.natCast_ediv,Int.natCast_pow];rfl
theorem Wq2{d n:Nat}(hd:d<8192):MW d n=d.testBit n:=by
 unfold MW;rw [Zr2,Ww9 (Nat.lt_of_le_of_lt (Nat.div_le_self _ _) hd),Nat.testBit_eq_decide_div_mod_eq,Bool.eq_iff_iff,beq_iff_eq,kG];omega
def sE:UX
 |[.x (.int .i64 d),.x (.int .i64 n)]=>some ([0<=n/\n<=64],bl (MW d n.toNat))
 |_=>none
theorem Xh4(d n:Int)(VR:0<=n/\n<=64):VW VN 133 [i d,i n] (bl (MW d n.toNat)):=by
 refine GV Tryz.func133 (t:=need [(0:Int)<=n/\n<=64] (leaf (RV.x (.bool (IntKind.wrap IntKind.i64 (↑(BitVec.toNat (BitVec.ofInt 64 (d / (2:Int)^Int.toNat n) &&& BitVec.ofInt 64 (1:Int))):Int)==1))))) VT ?_;exact YX
theorem rU:VO VN 133 sE:=by
 refine ⟨(UI Tryz.func133),?_⟩;intro avs ns res h hn;unfold sE at h;split at h;cases h;exact Xh4 _ _ (hn _ VS);cases h
def Qf8:UX
 |[.agg [.x (.int .i64 4),.x (.int .i64 10),.lst 5 n f],.agg [.x (.int .i64 a),.x (.int .i64 b),.x (.int .i64 c),.x (.int .i64 U),.x (.int .i64 O)]]=>some ([],bl (saB a b c U O))
 |_=>none
theorem Wd1(f:Ci)(n:Nat)(a b c U O:Int):VW VN 129 [.agg [i 4,i 10,.lst 5 n f],.agg [i a,i b,i c,i U,i O]] (bl (saB a b c U O)):=by
 refine U0 (L:=[]) (Ae xZ (Ae rV Aa)) VX Tryz.func129 (US Tryz.f129) U1 (t:=need [VK ((4:Int)-1)] (branch (bt (0:Int) a ((4:Int)-1)) (need [VK ((4:Int)-1)] (branch (bt (0:Int) b ((4:Int)-1)) (branch (a != b) (branch (bt (1:Int) c (1000:Int)) (branch (bt (0:Int) U (100:Int)) (branch (bt (0:Int) O (100:Int)) (leaf (RV.x (.bool (decide (U<=O))))) (leaf (RV.x (WK)))) (leaf (RV.x (WK)))) (leaf (RV.x (WK)))) (leaf (RV.x (WK)))) (leaf (RV.x (WK))))) (leaf (RV.x (WK))))) VT ?_;simp only [VL.sat,U9,UV,GJ,UB,UG,VK,saB];refine ⟨VI,?_⟩;cases h1:bt 0 a 3<;>cases h2:bt 0 b 3<;>cases h3:(a != b)<;>cases h4:bt 1 c 1000<;>cases h5:bt 0 U 100<;>cases h6:bt 0 O 100<;>simp [h1,h2,h3,h4,h5,h6]
theorem Wd0:VO VN 129 Qf8:=by
 refine ⟨(UI Tryz.func129),?_⟩;intro avs ns res h hn;unfold Qf8 at h;split at h;cases h;exact Wd1 _ _ _ _ _ _ _;cases h
def Qf9:UX
 |[.agg [.x (.int .i64 a),.x (.int .i64 b),.x (.int .i64 c),.x (.int .i64 U),.x (.int .i64 O)],.ro [.fn (.func 129) [.agg [.x (.int .i64 4),.x (.int .i64 10),.lst 5 n f]] []]]=>some ([],bl (!saB a b c U O))
 |_=>none
theorem Wd5(f:Ci)(n:Nat)(a b c U O:Int):VW VN 170 [.agg [i a,i b,i c,i U,i O],.ro [.fn (.func 129) [.agg [i 4,i 10,.lst 5 n f]] []]] (bl (!saB a b c U O)):=by
 refine U0 (L:=[]) (Ae Wd0 Aa) VX Tryz.func170 (US Tryz.f170) U1 (t:=leaf (RV.x (.bool !saB a b c U O))) VT ?_;exact YX
theorem cS:VO VN 170 Qf9:=by
 refine ⟨(UI Tryz.func170),?_⟩;intro avs ns res h hn;unfold Qf9 at h;split at h;cases h;exact Wd5 _ _ _ _ _ _ _;cases h
def nsB(a b c U O:Cg)(j:Nat):Bool:= !saB (a j) (b j) (c j) (U j) (O j)
def zU(n:Nat)(a b c U O:Cg):Bool:=D4 (λj=>saB (a j) (b j) (c j) (U j) (O j)) n
abbrev Q0(n:Nat)(a:Cg)(b:Cg)(c:Cg)(U:Cg)(O:Cg):AV:=lst 5 n λk=>[iI (a k),iI (b k),iI (c k),iI (U k),iI (O k)]
abbrev WL(n1:Nat)(f:Ci):AV:=AV.fn (Fn.func 170) [] [AV.ro [AV.fn (Fn.func 129) [agg [iI 4,iI 10,lst 5 n1 λa=>f a]] []]]
section
variable (n:Nat)(a b c U O:Cg)(f:Ci)(n1:Nat)
def MD:St:={σ:=[Q0 n a b c U O,WL n1 f]++HH 5 [iI (n:Int)]++HH 11 [],m:=[],nx:=4}
noncomputable def Xe4:Code:=U7 (VQ (U6 Tryz.f199) 0)
def eW(k:Nat):St:=(upM [(8,i k)] (MD n a b c U O f n1))
def wZ(k:Nat):G6->Option St
 | .ret=>some (upM [(4,i (GW ((nsB a b c U O)) n))] (MD n a b c U O f n1))
 | .exit 0=>some (upM [] (MD n a b c U O f n1))
 |_=>none
def Wx8:CT:= .branch (decide (GW ((nsB a b c U O)) n<n)) (.leaf (.ret,(wZ n a b c U O f n1 0 .ret).getD (MD n a b c U O f n1))) (.leaf (.exit 0,(wZ n a b c U O f n1 0 (.exit 0)).getD (MD n a b c U O f n1)))
def Qj1:UF:=(HB (eW n a b c U O f n1 (0)) (Wx8 n a b c U O f n1))
end
abbrev W7(n:Nat)(a:Cg)(b:Cg)(c:Cg)(U:Cg)(O:Cg):Prop:=(Q0 n a b c U O)=Q0 n a b c U O
theorem VC{p:Prop}(h:p:=by
 refine ⟨by have:=Xk8 hk hb;omega,λE hE=>?_⟩
 cases hE;exact hQ.1 (by rw [Xk8 hk hb];exact hk)):p:=h
section
variable (n:Nat)(a b c U O:Cg)(f:Ci)(n1:Nat)
theorem Xe7(VR:n<=100000):G0 VN (.loop Xe4) (Qj1 n a b c U O f n1):=by
 refine HG (L:=[]) (Ae cS Aa) VX U1 (X:=Nat) (eW n a b c U O f n1) (λk=>k<=n/\ ∀j,j<k->(nsB a b c U O) j=false) (λk=>n-k) (wZ n a b c U O f n1) (x0:=0) ⟨VI,λj hj=>VI⟩ ?_ ?_ ?_;rintro k;kernel_rfl;rintro k y E h;unfold wZ at h;split at h;cases h;kernel_rfl;cases h;kernel_rfl;cases h
 ·rintro Q hQ k hx;refine ⟨(k+1),?_⟩;(with_reducible refine D2 (t:=branch (decide ((k:Int)<(n:Int))) (need [UE k n] (branch (!saB (a k) (b k) (c k) (U k) (O k)) (need [W7 n a b c U O,VY (WL n1 f),(k:Int)=(↑(GW (nsB a b c U O) n):Int),VY (n:Int)] (leaf G6.ret)) (need [VK ((k:Int)+1)] (need [W7 n a b c U O,VY (WL n1 f),VY (n:Int),(k:Int)+1=(↑(k+1):Int)] (leaf G6.normal))))) (need [W7 n a b c U O,VY (WL n1 f),VY (n:Int)] (leaf (G6.exit 0)))) VT ?_);simp only [Wx8,wZ,VL.sat,GR,H4] at hQ;simp only [VL.sat,U9,UG,H4,VK,wZ,DX];have Xk8:k<n->((nsB a b c U O)) k=true->GW ((nsB a b c U O)) n=k:=λh hb=>zJ h hb hx.2;have PL: ¬k<n->GW ((nsB a b c U O)) n=n:=λh=>BY (λj hj=>hx.2 j VI);have hgo:((nsB a b c U O)) k=false-> ∀j,j<k+1->((nsB a b c U O)) j=false:=by
   intro hb j hj;rcases (show j<k\/j=k by omega) with h1|rfl
   exact hx.2 j h1;exact hb
  refine ⟨λh=>⟨VI,?_⟩,λh=>?_⟩
  rotate_left
  intro E hE;cases hE;exact hQ.2 (by rw [PL VI];omega)
  have hk:k<n:=VI;refine ⟨λhb=>?_,λhb=>?_⟩;exact VC;exact ⟨VI,VI,⟨VI,hgo hb⟩,VI⟩
theorem Zl5(VR:n<=100000):VW VN 199 [sls n a b c U O,.fn (.func 170) [] [.ro [.fn (.func 129) [.agg [i 4,i 10,.lst 5 n1 f]] []]]] (i (if GW ((nsB a b c U O)) n<n then (GW ((nsB a b c U O)) n:Int) else -1)):=by
 refine U0 (L:=[Qj1 n a b c U O f n1]) (Ae cS Aa) VX Tryz.func199 (US Tryz.f199) (UY (lpE (b:= .loop Xe4) VT<|Xe7 n a b c U O f n1 VR)) (t:=need [W7 n a b c U O,VY (WL n1 f),VY (n:Int),(0:Int)=((0:Nat):Int)] (branch (decide (GW (nsB a b c U O) n<n)) (leaf (RV.x (.int .i64 (↑(GW (nsB a b c U O) n):Int)))) (leaf (RV.x (KG))))) VT ?_
 exact VA
end
def Xx2:UX
 |[.lst 5 n f,.fn (.func 170) [] [.ro [.fn (.func 129) [.agg [.x (.int .i64 4),.x (.int .i64 10),.lst 5 n1 f1]] []]]]=>some ([UH 5 n f,n<=100000],i (if GW (nsB (col 0 f) (col 1 f) (col 2 f) (col 3 f) (col 4 f)) n<n then (GW (nsB (col 0 f) (col 1 f) (col 2 f) (col 3 f) (col 4 f)) n:Int) else -1))
 |_=>none
theorem Zl4:VO VN 199 Xx2:=by
 refine ⟨(UI Tryz.func199),?_⟩;intro avs ns res h hn;unfold Xx2 at h;split at h;cases h;have hr:_:=hn _ (GB);have hr1:_:=hn _ (HI _ (GB));exact (Zl5 _ (col 0 _) (col 1 _) (col 2 _) (col 3 _) (col 4 _) _ _ hr1).same (.cons (.lst 5 _ _ _ hr) (.cons (.refl _) .nil));cases h
theorem Zl7(n:Nat)(a b c U O:Cg)(f:Ci)(n1:Nat)(VR:n<=100000):VW VN 169 [sls n a b c U O,.fn (.func 170) [] [.ro [.fn (.func 129) [.agg [i 4,i 10,.lst 5 n1 f]] []]]] (bl (!zU n a b c U O)):=by
 refine U0 (L:=[]) (Ae Zl4 Aa) VX Tryz.func169 (US Tryz.f169) U1 (t:=need [UH 5 n λk=>[i (a k),i (b k),i (c k),i (U k),i (O k)],n<=100000] (leaf (RV.x (.bool (decide ((if GW (nsB a b c U O) n<n then (↑(GW (nsB a b c U O) n):Int) else (-1:Int))>=(0:Int))))))) VT ?_
 simp only [VL.sat,U9,UV,UB,UG];refine ⟨⟨λ_ _=>rfl,VR⟩,?_⟩;unfold zU;rw [kE];have:=F2 (nsB a b c U O) n;have e:(λk=> !(λk=>saB (a k) (b k) (c k) (U k) (O k)) k)=nsB a b c U O:=rfl;rw [e];show decide ((if GW (nsB a b c U O) n<n then (GW (nsB a b c U O) n:Int) else -1)>=0)=_
 split<;>simp<;>omega
def Xx3:UX
 |[.lst 5 n f,.fn (.func 170) [] [.ro [.fn (.func 129) [.agg [.x (.int .i64 4),.x (.int .i64 10),.lst 5 n1 f1]] []]]]=>some ([UH 5 n f,n<=100000],bl (!zU n (col 0 f) (col 1 f) (col 2 f) (col 3 f) (col 4 f)))
 |_=>none
theorem Zl6:VO VN 169 Xx3:=by
 refine ⟨(UI Tryz.func169),?_⟩;intro avs ns res h hn;unfold Xx3 at h;split at h;cases h;have hr:_:=hn _ (GB);have hr1:_:=hn _ (HI _ (GB));exact (Zl7 _ (col 0 _) (col 1 _) (col 2 _) (col 3 _) (col 4 _) _ _ hr1).same (.cons (.lst 5 _ _ _ hr) (.cons (.refl _) .nil));cases h
theorem Xh7(n:Nat)(a b c U O:Cg)(f:Ci)(n1:Nat)(VR:n<=100000):VW VN 130 [sls n a b c U O,.fn (.func 129) [.agg [i 4,i 10,.lst 5 n1 f]] []] (bl (zU n a b c U O)):=by
 refine U0 (L:=[]) (Ae Zl6 Aa) VX Tryz.func130 (US Tryz.f130) U1 (t:=need [UH 5 n λk=>[i (a k),i (b k),i (c k),i (U k),i (O k)],n<=100000] (leaf (RV.x (.bool !!zU n a b c U O)))) VT ?_;simp only [VL.sat,U9,UV,UB,UG];refine ⟨⟨λ_ _=>rfl,VR⟩,?_⟩;show (!!zU n a b c U O)=_;simp
def Wy5:UX
 |[.lst 5 n f,.fn (.func 129) [.agg [.x (.int .i64 4),.x (.int .i64 10),.lst 5 n1 f1]] []]=>some ([UH 5 n f,n<=100000],bl (zU n (col 0 f) (col 1 f) (col 2 f) (col 3 f) (col 4 f)))
 |_=>none
theorem Xh6:VO VN 130 Wy5:=by
 refine ⟨(UI Tryz.func130),?_⟩;intro avs ns res h hn;unfold Wy5 at h;split at h;cases h;have hr:_:=hn _ (GB);have hr1:_:=hn _ (HI _ (GB));exact (Xh7 _ (col 0 _) (col 1 _) (col 2 _) (col 3 _) (col 4 _) _ _ hr1).same (.cons (.lst 5 _ _ _ hr) (.cons (.refl _) .nil));cases h
theorem NK(n:Nat)(a b c U O:Cg)(VR:n<=8):VW VN 83 [.agg [i 4,i 10,sls n a b c U O]] (i (if zU n a b c U O then 0 else 1)):=by
 refine U0 (L:=[]) (Ae Xh6 (Ae xZ Aa)) VX Tryz.func83 (US Tryz.f83) U1 (t:=branch (decide ((n:Int)>8)) (leaf (RV.x (KI))) (branch (!bt (1:Int) (4:Int) (6:Int)) (leaf (RV.x (JS))) (branch (!bt (0:Int) (10:Int) (1000:Int)) (leaf (RV.x (JS))) (need [UH 5 n λk=>[i (a k),i (b k),i (c k),i (U k),i (O k)],n<=100000] (branch (!zU n a b c U O) (leaf (RV.x (JS))) (leaf (RV.x (X5)))))))) VT ?_;simp only [VL.sat,U9,UV,UB,UG];have h1:(!bt 1 4 6)=false:=by decide
 have h2:(!bt 0 10 1000)=false:=by decide
 rw [h1,h2];refine ⟨λh=>absurd h (by simp;omega),λ_=>⟨λh=>(Bool.noConfusion h),λ_=>⟨λh=>(Bool.noConfusion h),λ_=>⟨⟨λ_ _=>rfl,VI⟩,λh=>?_,λh=>?_⟩⟩⟩⟩
 rw [Ax] at h;rw [h];rfl;rw [Bool.not_eq_false'] at h;rw [h];rfl
def sg0(k:Nat):Int:=if k=0 then 10 else 0
def sld(F:Cg)(a b c:Int)(k:Nat):Int:=if (k:Int)=b then (if (k:Int)=a then F k-c else F k)+c else if (k:Int)=a then F k-c else F k
abbrev sgs(F:Cg):AV:= .agg [i (F 0),i (F 1),i (F 2),i (F 3),i (F 4),i (F 5)]
def lX:UX
 |[.agg [.x (.int .i64 4),.x (.int .i64 10),.lst 5 n f]]=>some ([],.agg [i 10,i 0,i 0,i 0,i 0,i 0])
 |_=>none
abbrev Q3:List Int:=[(0:Int),0,0,0,0,0]
theorem Qm2(f:Ci)(n:Nat):VW VN 132 [.agg [i 4,i 10,.lst 5 n f]] (.agg [i 10,i 0,i 0,i 0,i 0,i 0]):=by
 refine GV Tryz.func132 (t:=let W:=(UR 4 (UR 0 (10:Int) (BM Q3) 4) (UR 3 (UR 0 (10:Int) (BM Q3) 3) (UR 2 (UR 0 (10:Int) (BM Q3) 2) (UR 1 (UR 0 (10:Int) (BM Q3) 1) (UR 0 (UR 0 (10:Int) (BM Q3) 0) (j6 0 [(10:Int)] (BM Q3)))))));let z1:=(UR 0 (10:Int) (BM Q3) 5);(need [UE 0 6] (need [1<=6] (need [6<=6] (need [6<=6] (leaf (RV.agg [RV.x (.int .i64 (UR 5 z1 W 0)),RV.x (.int .i64 (UR 5 z1 W 1)),RV.x (.int .i64 (UR 5 z1 W 2)),RV.x (.int .i64 (UR 5 z1 W 3)),RV.x (.int .i64 (UR 5 z1 W 4)),RV.x (.int .i64 (UR 5 z1 W 5))]))))))) VT ?_;exact YX
theorem NJ:VO VN 132 lX:=by
 refine ⟨(UI Tryz.func132),?_⟩;intro avs ns res h hn;unfold lX at h;split at h;cases h;exact Qm2 _ _;cases h
theorem Wc9(F:Cg)(a b c U O:Int)(VR: ∀k,k<6-> -1000000<=F k/\F k<=1000000)(UD:0<=a/\a<=3)(HF:0<=b/\b<=3)(DM:a≠b)(B6:1<=c/\c<=1000):VW VN 134 [sgs F,.agg [i a,i b,i c,i U,i O]] (sgs (sld F a b c)):=by
 refine GV Tryz.func134 (t:=let z1:=(j6 (Int.toNat a*1+0) [U8 [F 0,F 1,F 2,F 3,F 4,F 5] (Int.toNat a*1+0)-c] (U8 [F 0,F 1,F 2,F 3,F 4,F 5]));let W:=(UR 4 (UR (Int.toNat b*1+0) (UR (Int.toNat a*1+0) (U8 [F 0,F 1,F 2,F 3,F 4,F 5] (Int.toNat a*1+0)-c) (U8 [F 0,F 1,F 2,F 3,F 4,F 5]) (Int.toNat b*1+0)+c) z1 4) (UR 3 (UR (Int.toNat b*1+0) (UR (Int.toNat a*1+0) (U8 [F 0,F 1,F 2,F 3,F 4,F 5] (Int.toNat a*1+0)-c) (U8 [F 0,F 1,F 2,F 3,F 4,F 5]) (Int.toNat b*1+0)+c) z1 3) (UR 2 (UR (Int.toNat b*1+0) (UR (Int.toNat a*1+0) (U8 [F 0,F 1,F 2,F 3,F 4,F 5] (Int.toNat a*1+0)-c) (U8 [F 0,F 1,F 2,F 3,F 4,F 5]) (Int.toNat b*1+0)+c) z1 2) (UR 1 (UR (Int.toNat b*1+0) (UR (Int.toNat a*1+0) (U8 [F 0,F 1,F 2,F 3,F 4,F 5] (Int.toNat a*1+0)-c) (U8 [F 0,F 1,F 2,F 3,F 4,F 5]) (Int.toNat b*1+0)+c) z1 1) (UR 0 (UR (Int.toNat b*1+0) (UR (Int.toNat a*1+0) (U8 [F 0,F 1,F 2,F 3,F 4,F 5] (Int.toNat a*1+0)-c) (U8 [F 0,F 1,F 2,F 3,F 4,F 5]) (Int.toNat b*1+0)+c) z1 0) (BM Q3))))));let z2:=(UR (Int.toNat b*1+0) (UR (Int.toNat a*1+0) (U8 [F 0,F 1,F 2,F 3,F 4,F 5] (Int.toNat a*1+0)-c) (U8 [F 0,F 1,F 2,F 3,F 4,F 5]) (Int.toNat b*1+0)+c) z1 5);(need [UE a 6] (need [Int.toNat a*1+0<List.length [F 0,F 1,F 2,F 3,F 4,F 5]] (need [VK (U8 [F 0,F 1,F 2,F 3,F 4,F 5] (Int.toNat a*1+0)-c)] (need [UE a 6] (need [Int.toNat a*1+0+List.length [U8 [F 0,F 1,F 2,F 3,F 4,F 5] (Int.toNat a*1+0)-c]<=List.length [F 0,F 1,F 2,F 3,F 4,F 5]] (need [UE b 6] (need [Int.toNat b*1+0<List.length [F 0,F 1,F 2,F 3,F 4,F 5]] (need [VK (UR (Int.toNat a*1+0) (U8 [F 0,F 1,F 2,F 3,F 4,F 5] (Int.toNat a*1+0)-c) (U8 [F 0,F 1,F 2,F 3,F 4,F 5]) (Int.toNat b*1+0)+c)] (need [UE b 6] (need [Int.toNat b*1+0+List.length [UR (Int.toNat a*1+0) (U8 [F 0,F 1,F 2,F 3,F 4,F 5] (Int.toNat a*1+0)-c) (U8 [F 0,F 1,F 2,F 3,F 4,F 5]) (Int.toNat b*1+0)+c]<=List.length [F 0,F 1,F 2,F 3,F 4,F 5]] (need [6<=List.length [F 0,F 1,F 2,F 3,F 4,F 5]] (need [0+List.length [UR (Int.toNat b*1+0) (UR (Int.toNat a*1+0) (U8 [F 0,F 1,F 2,F 3,F 4,F 5] (Int.toNat a*1+0)-c) (U8 [F 0,F 1,F 2,F 3,F 4,F 5]) (Int.toNat b*1+0)+c) z1 0,UR (Int.toNat b*1+0) (UR (Int.toNat a*1+0) (U8 [F 0,F 1,F 2,F 3,F 4,F 5] (Int.toNat a*1+0)-c) (U8 [F 0,F 1,F 2,F 3,F 4,F 5]) (Int.toNat b*1+0)+c) z1 1,UR (Int.toNat b*1+0) (UR (Int.toNat a*1+0) (U8 [F 0,F 1,F 2,F 3,F 4,F 5] (Int.toNat a*1+0)-c) (U8 [F 0,F 1,F 2,F 3,F 4,F 5]) (Int.toNat b*1+0)+c) z1 2,UR (Int.toNat b*1+0) (UR (Int.toNat a*1+0) (U8 [F 0,F 1,F 2,F 3,F 4,F 5] (Int.toNat a*1+0)-c) (U8 [F 0,F 1,F 2,F 3,F 4,F 5]) (Int.toNat b*1+0)+c) z1 3,UR (Int.toNat b*1+0) (UR (Int.toNat a*1+0) (U8 [F 0,F 1,F 2,F 3,F 4,F 5] (Int.toNat a*1+0)-c) (U8 [F 0,F 1,F 2,F 3,F 4,F 5]) (Int.toNat b*1+0)+c) z1 4,UR (Int.toNat b*1+0) (UR (Int.toNat a*1+0) (U8 [F 0,F 1,F 2,F 3,F 4,F 5] (Int.toNat a*1+0)-c) (U8 [F 0,F 1,F 2,F 3,F 4,F 5]) (Int.toNat b*1+0)+c) z1 5]<=6] (leaf (RV.agg [RV.x (.int .i64 (UR 5 z2 W 0)),RV.x (.int .i64 (UR 5 z2 W 1)),RV.x (.int .i64 (UR 5 z2 W 2)),RV.x (.int .i64 (UR 5 z2 W 3)),RV.x (.int .i64 (UR 5 z2 W 4)),RV.x (.int .i64 (UR 5 z2 W 5))]))))))))))))))) VT ?_;simp only [VL.sat,U9,UV,GJ,UB,UG,VK];obtain ⟨A,rfl⟩: ∃A:Nat,a=A:=⟨a.toNat,VI⟩;obtain ⟨B,rfl⟩: ∃B:Nat,b=B:=⟨b.toNat,VI⟩;have h0:=VR 0 VI;have h1:=VR 1 VI;have h2:=VR 2 VI;have h3:=VR 3 VI
 have h4:=VR 4 VI;have h5:=VR 5 VI;rcases (show A=0\/A=1\/A=2\/A=3 by omega) with rfl|rfl|rfl|rfl<;>rcases (show B=0\/B=1\/B=2\/B=3 by omega) with rfl|rfl|rfl|rfl<;>first|(exfalso;omega)|(simp [GH,UR,U8,sld];omega)
def Qf7:UX
 |[.agg [.x (.int .i64 s0),.x (.int .i64 s1),.x (.int .i64 s2),.x (.int .i64 s3),.x (.int .i64 s4),.x (.int .i64 s5)],.agg [.x (.int .i64 a),.x (.int .i64 b),.x (.int .i64 c),.x (.int .i64 U),.x (.int .i64 O)]]=>some ([-1000000<=s0/\s0<=1000000,-1000000<=s1/\s1<=1000000,-1000000<=s2/\s2<=1000000,-1000000<=s3/\s3<=1000000,-1000000<=s4/\s4<=1000000,-1000000<=s5/\s5<=1000000,0<=a/\a<=3,0<=b/\b<=3,a≠b,1<=c/\c<=1000],sgs (sld (U8 [s0,s1,s2,s3,s4,s5]) a b c))
 |_=>none
def sV(n:Nat)(a b c U O:Cg):Prop:=n<=8/\ ∀k,k<n->saB (a k) (b k) (c k) (U k) (O k)=true
def stF(a b c:Cg)(d:Int):Nat->Nat->Int
 | 0=>sg0
 |k+1=>if MW d k then sld (stF a b c d k) (a k) (b k) (c k) else stF a b c d k
theorem cP:VO VN 134 Qf7:=by
 refine ⟨(UI Tryz.func134),?_⟩;intro avs ns res h hn;unfold Qf7 at h;split at h;cases h;rename_i s0 s1 s2 s3 s4 s5 a b c U O;refine Wc9 (U8 [s0,s1,s2,s3,s4,s5]) a b c U O ?_ (hn _ VS) (hn _ VS) (hn _ VS) (hn _ VS);intro k hk
 match k,hk with
 | 0,_=>exact hn (-1000000<=s0/\s0<=1000000) VS
 | 1,_=>exact hn (-1000000<=s1/\s1<=1000000) VS
 | 2,_=>exact hn (-1000000<=s2/\s2<=1000000) VS
 | 3,_=>exact hn (-1000000<=s3/\s3<=1000000) VS
 | 4,_=>exact hn (-1000000<=s4/\s4<=1000000) VS
 | 5,_=>exact hn (-1000000<=s5/\s5<=1000000) VS
 cases h
theorem upd6(F:Cg)(a b c:Int)(q:Nat)(hq:q<6):
  UR 5 (sld (U8 [F 0,F 1,F 2,F 3,F 4,F 5]) a b c 5) (UR 4 (sld (U8 [F 0,F 1,F 2,F 3,F 4,F 5]) a b c 4) (UR 3 (sld (U8 [F 0,F 1,F 2,F 3,F 4,F 5]) a b c 3)
   (UR 2 (sld (U8 [F 0,F 1,F 2,F 3,F 4,F 5]) a b c 2) (UR 1 (sld (U8 [F 0,F 1,F 2,F 3,F 4,F 5]) a b c 1) (UR 0 (sld (U8 [F 0,F 1,F 2,F 3,F 4,F 5]) a b c 0) F))))) q=sld F a b c q:=by
 match q,hq with
 | 0,_=>rfl
 | 1,_=>rfl
 | 2,_=>rfl
 | 3,_=>rfl
 | 4,_=>rfl
 | 5,_=>rfl
theorem Xt7(F:Cg)(x0 x1 x2 x3 x4 x5:Int)(q:Nat)(hq:q<6):
  UR 5 x5 (UR 4 x4 (UR 3 x3 (UR 2 x2 (UR 1 x1 (UR 0 x0 F))))) q=U8 [x0,x1,x2,x3,x4,x5] q:=by
 match q,hq with
 | 0,_=>rfl
 | 1,_=>rfl
 | 2,_=>rfl
 | 3,_=>rfl
 | 4,_=>rfl
 | 5,_=>rfl
theorem tP{n:Nat}{a b c U O:Cg}(h:sV n a b c U O){k:Nat}(hk:k<n):(0<=a k/\a k<=3)/\(0<=b k/\b k<=3)/\a k≠b k/\(1<=c k/\c k<=1000)/\(0<=U k/\U k<=100)/\(0<=O k/\O k<=100)/\U k<=O k:=Xg4.1 (h.2 k hk)
theorem Wa3{n:Nat}{a b c U O:Cg}(h:sV n a b c U O)(d:Int): ∀k,k<=n-> ∀j,-(1000*k:Int)<=stF a b c d k j/\stF a b c d k j<=10+1000*k
 | 0,_,j=>by
  simp only [stF,sg0];split<;>omega
 |k+1,hk,j=>by
  obtain ⟨_,_,h3,h4,_⟩:=tP h (show k<n by omega)
  have ih:=Wa3 h d k VI j;simp only [stF];split
  ·unfold sld
   repeat' split
   all_goals omega
  omega
theorem Zh0{n:Nat}{a b c U O:Cg}(h:sV n a b c U O)(d:Int){k:Nat}(hk:k<=n)(j:Nat): -1000000<=stF a b c d k j/\stF a b c d k j<=1000000:=by
 have:=Wa3 h d k hk j;have:=h.1;omega
abbrev QQ(n:Nat)(a:Cg)(b:Cg)(c:Cg)(U:Cg)(O:Cg)(ea:AV)(la:AV):AV:=AV.ro [iI 4,iI 10,Q0 n a b c U O,ea,la]
section
variable (ea la:AV)(n:Nat)(a b c U O:Cg)(d:Int)
def Zu5:St:={σ:=[QQ n a b c U O ea la,iI d,top,top,ptr 0 0,ptr 6 0]++HH 11 [Q0 n a b c U O,iI (n:Int)]++HH 13 [],m:=[(6,GN.ints 193 [] 6 λa=>UR 5 (0:Int) (UR 4 (0:Int) (UR 3 (0:Int) (UR 2 (0:Int) (UR 1 (0:Int) (UR 0 (10:Int) (BM Q3)))))) a),(0,GN.ints 193 [] 6 λa=>(0:Int))],nx:=15}
noncomputable def Jv8:Code:=U7 (VQ (U6 Tryz.f88) 0)
def Wi4(k:Nat):St:={σ:=H5 [(6,.top),(7,.top),(19,i k)] (Zu5 ea la n a b c U O d).σ,m:=[(6,.ints 193 [] 6 (stF a b c d (k))),(0,.ints 193 [] 6 (λ_=>0))],nx:=15}
def CB(k:Nat):G6->Option St
 | .exit 0=>some {σ:=H5 [(6,.top),(7,.top),(19,i n)] (Zu5 ea la n a b c U O d).σ,m:=[(6,.ints 193 [] 6 (stF a b c d (n))),(0,.ints 193 [] 6 (λ_=>0))],nx:=15}
 |_=>none
def Jq3:CT:= .leaf (.exit 0,(CB ea la n a b c U O d 0 (.exit 0)).getD (Zu5 ea la n a b c U O d))
def Xy5:UF:=(HB (Wi4 ea la n a b c U O d (0)) (Jq3 ea la n a b c U O d))
end
abbrev ZO(n:Nat)(a:Cg)(b:Cg)(c:Cg)(U:Cg)(O:Cg)(ea:AV)(la:AV):Prop:=QQ n a b c U O ea la=QQ n a b c U O ea la
section
variable (ea la:AV)(n:Nat)(a b c U O:Cg)(d:Int)
theorem Jd1(VR:sV n a b c U O)(UD:0<=d/\d<256):G0 VN (.loop Jv8) (Xy5 ea la n a b c U O d):=by
 refine HG (L:=[]) (Ae rU (Ae cP (Ae NJ Aa))) VX U1 (X:=Nat) (Wi4 ea la n a b c U O d) (λk=>k<=n) (λk=>n-k) (CB ea la n a b c U O d) (x0:=0) VI ?_ ?_ ?_;rintro k;kernel_rfl;rintro k y E h;unfold CB at h;split at h;cases h;kernel_rfl;cases h;rintro Q hQ k hx;refine ⟨(k+1),?_⟩;(with_reducible refine D2 (t:=let z1:=stF a b c d k;let W:=(U8 [z1 0,z1 1,z1 2,z1 3,z1 4,z1 5]);(branch (decide ((k:Int)<(n:Int))) (need [UE k n] (need [(0:Int)<=(k:Int)/\(k:Int)<=64] (branch (MW d k) (need [6<=6] (need [(-1000000:Int)<=z1 0/\z1 0<=1000000,(-1000000:Int)<=z1 1/\z1 1<=1000000,(-1000000:Int)<=z1 2/\z1 2<=1000000,(-1000000:Int)<=z1 3/\z1 3<=1000000,(-1000000:Int)<=z1 4/\z1 4<=1000000,(-1000000:Int)<=z1 5/\z1 5<=1000000,(0:Int)<=a k/\a k<=3,(0:Int)<=b k/\b k<=3,a k≠b k,(1:Int)<=c k/\c k<=1000] (need [0+List.length [sld W (a k) (b k) (c k) 0,sld W (a k) (b k) (c k) 1,sld W (a k) (b k) (c k) 2,sld W (a k) (b k) (c k) 3,sld W (a k) (b k) (c k) 4,sld W (a k) (b k) (c k) 5]<=6] (need [VK ((k:Int)+1)] (need [ZO n a b c U O ea la,d=d,QK,YM,W7 n a b c U O,VY (n:Int),(k:Int)+1=(↑(k+1):Int),6=6,GU 6 (UR 5 (sld W (a k) (b k) (c k) 5) (UR 4 (sld W (a k) (b k) (c k) 4) (UR 3 (sld W (a k) (b k) (c k) 3) (UR 2 (sld W (a k) (b k) (c k) 2) (UR 1 (sld W (a k) (b k) (c k) 1) (UR 0 (sld W (a k) (b k) (c k) 0) (z1))))))) (stF a b c d (k+1)),6=6,∀(k:Nat),k<6->(0:Int)=0] (leaf G6.normal)))))) (need [VK ((k:Int)+1)] (need [ZO n a b c U O ea la,d=d,QK,YM,W7 n a b c U O,VY (n:Int),(k:Int)+1=(↑(k+1):Int),6=6,GU 6 z1 (stF a b c d (k+1)),6=6,∀(k:Nat),k<6->(0:Int)=0] (leaf G6.normal)))))) (need [ZO n a b c U O ea la,d=d,QK,YM,W7 n a b c U O,VY (n:Int),(k:Int)=(n:Int),6=6,GU 6 z1 (stF a b c d n),6=6,∀(k:Nat),k<6->(0:Int)=0] (leaf (G6.exit 0))))) VT ?_);simp only [Jq3,CB,VL.sat,GR] at hQ;simp only [VL.sat,U9,UV,GJ,UB,VK,UG,H4,FE,FJ,FR,GH,CB]
 have h8:=VR.1;refine ⟨λh=>?_,λh=>?_⟩;have hs:=tP VR (show k<n by omega)
 have hl:=Zh0 VR d (show k<=n by omega)
 cases hb:MW d k
 ·(with_reducible repeat' first|apply Al|intro _)
  all_goals first|exact P4|(first|contradiction|(simp [stF,hb]))
 ·(with_reducible repeat' first|apply Al|intro _)
  all_goals first|exact P4|(first|contradiction|exact (hl _).1|exact (hl _).2|(simp only [stF,hb,if_true];exact upd6 _ _ _ _ _ (by assumption)))
 obtain rfl:k=n:=VI;exact YW
theorem nR(VR:sV n a b c U O)(UD:0<=d/\d<256):VW VN 88 [.ro [i 4,i 10,sls n a b c U O,ea,la],i d] (sgs (stF a b c d n)):=by
 refine U0 (L:=[Xy5 ea la n a b c U O d]) (Ae rU (Ae cP (Ae NJ Aa))) VX Tryz.func88 (US Tryz.f88) (UY (lpE (b:= .loop Jv8) VT<|Jd1 ea la n a b c U O d VR UD)) (t:=let z1:=stF a b c d n;let W:=(UR 4 (z1 4) (UR 3 (z1 3) (UR 2 (z1 2) (UR 1 (z1 1) (UR 0 (z1 0) λx=>(0:Int))))));(need [6<=6] (need [ZO n a b c U O ea la,d=d,QK,YM,W7 n a b c U O,VY (n:Int),(0:Int)=((0:Nat):Int),6=6,GU 6 (UR 5 (0:Int) (UR 4 (0:Int) (UR 3 (0:Int) (UR 2 (0:Int) (UR 1 (0:Int) (UR 0 (10:Int) (BM Q3))))))) (stF a b c d 0),6=6,∀(k:Nat),k<6->(0:Int)=0] (need [6<=6] (need [0+List.length [z1 0,z1 1,z1 2,z1 3,z1 4,z1 5]<=6] (leaf (RV.agg [RV.x (.int .i64 (UR 5 (z1 5) W 0)),RV.x (.int .i64 (UR 5 (z1 5) W 1)),RV.x (.int .i64 (UR 5 (z1 5) W 2)),RV.x (.int .i64 (UR 5 (z1 5) W 3)),RV.x (.int .i64 (UR 5 (z1 5) W 4)),RV.x (.int .i64 (UR 5 (z1 5) W 5))]))))))) VT ?_
 simp only [VL.sat,U9,UV,GJ,UB,UG]
 (with_reducible repeat' first|apply Al|intro _)
 all_goals first|exact Ak|omega|with_reducible rfl|rfl|(simp;done)|skip
 rename_i q hq;rw [Xt7 _ _ _ _ _ _ _ q hq]
 match q,hq with
 | 0,_=>rfl
 | 1,_=>rfl
 | 2,_=>rfl
 | 3,_=>rfl
 | 4,_=>rfl
 | 5,_=>rfl
end
section
variable (n:Nat)(a b c U O:Cg)
def f8:UX
 |[.ro [.x (.int .i64 4),.x (.int .i64 10),.lst 5 n1 f1,ea,la],.x (.int .i64 d)]=>some ([lst 5 n1 f1=sls n a b c U O,0<=d/\d<256],sgs (stF a b c d n))
 |_=>none
theorem qS(VR:sV n a b c U O):VO VN 88 (f8 n a b c U O):=by
 refine ⟨(UI Tryz.func88),?_⟩;intro avs ns res h hn;unfold f8 at h;split at h;cases h;rename_i n1 f1 ea la d;have e:=hn _ GB;rw [e];exact nR ea la n a b c U O d VR (hn _ VS);cases h
end
theorem uL{n:Nat}(h:n<=8):(1:Int)<=2^n/\(2:Int)^n<=256:=by
 rcases (show n=0\/n=1\/n=2\/n=3\/n=4\/n=5\/n=6\/n=7\/n=8 by omega) with rfl|rfl|rfl|rfl|rfl|rfl|rfl|rfl|rfl<;>decide
def M2:UX
 |[.ro [.x (.int .i64 4),.x (.int .i64 10),.lst 5 n f,ea,la]]=>some ([n<=8],i (2^n-1))
 |_=>none
theorem Ql8(ea la:AV)(n:Nat)(f:Ci)(VR:n<=8):VW VN 86 [.ro [i 4,i 10,.lst 5 n f,ea,la]] (i (2^n-1)):=by
 refine GV Tryz.func86 (t:=need [(0:Int)<=(n:Int)/\(n:Int)<=64,VK ((1:Int)*2^n)] (need [VK ((1:Int)*2^n-1)] (leaf (RV.x (.int .i64 ((1:Int)*2^n-1)))))) VT ?_;simp only [VL.sat,U9,UV,GJ,UB,UG,Int.one_mul,VK];have h:=uL VR;omega
theorem LC:VO VN 86 M2:=by
 refine ⟨(UI Tryz.func86),?_⟩;intro avs ns res h hn;unfold M2 at h;split at h;cases h;exact Ql8 _ _ _ _ (hn _ VS);cases h
def UW(p:Nat->Bool):Nat->Nat
 | 0=>0
 |k+1=>UW p k+(match p k with|true=>1|false=>0)
def UO(p:Nat->Bool)(n q:Nat):Nat:=GW (λj=>p j&&Nat.beq (UW p j) q) n
def st6(F:Cg):Cg:=UR 5 (F 5) (UR 4 (F 4) (UR 3 (F 3) (UR 2 (F 2) (UR 1 (F 1) (UR 0 (F 0) (BM [0,0,0,0,0,0]))))))
def quB(n:Nat)(a b c:Cg)(d:Int)(j:Nat):Bool:= !MW d j&&decide (stF a b c d n (a j).toNat>=c j)
def saV(a b c U O:Cg)(j:Nat):List Value:=[.int .i64 j,.agg #[.int .i64 (a j),.int .i64 (b j),.int .i64 (c j),.int .i64 (U j),.int .i64 (O j)]]
def quV(n:Nat)(a b c U O:Cg)(d:Int)(q:Nat):List Value:=saV a b c U O (UO (quB n a b c d) n q)
def quN(n:Nat)(a b c:Cg)(d:Int):Nat:=UW (quB n a b c d) n
theorem Zh1(F:Cg){q:Nat}(hq:q<6):st6 F q=F q:=by
 unfold st6;rw [Xt7 _ _ _ _ _ _ _ q hq]
 match q,hq with
 | 0,_=>rfl
 | 1,_=>rfl
 | 2,_=>rfl
 | 3,_=>rfl
 | 4,_=>rfl
 | 5,_=>rfl
theorem dS(p:Nat->Bool){b c:Nat}(h:b<=c):UW p b<=UW p c:=by
 induction h with
 |refl=>exact Am _
 |step _ ih=>exact Ar ih (Nat.le_add_right _ _)
section
variable {p:Nat->Bool}
theorem DW{k:Nat}(h:p k=true):UW p (k+1)=UW p k+1:=by
 simp only [UW,h]
theorem RJ{k:Nat}(h:p k=false):UW p (k+1)=UW p k:=by
 simp only [UW,h,Bg]
theorem B1{n k:Nat}(hk:k<n)(h:p k=true):UO p n (UW p k)=k:=by
 refine zJ hk ?_ λj hj=>?_;simp [h];cases hp:p j;rfl;have h1:=DW hp;have h2:=dS p (show j+1<=k by omega)
 simp only [Bool.true_and];cases hb:Nat.beq (UW p j) (UW p k);rfl;have:=GX hb;omega
end
theorem y6(p:Nat->Bool): ∀k,UW p k<=k
 | 0=>Am 0
 |k+1=>by
  have:=y6 p k;unfold UW;split<;>omega
theorem lG{p:Nat->Bool}: ∀{k q:Nat},q<UW p k-> ∃j,j<k/\p j=true/\UW p j=q
 | 0,q,h=>absurd h (by simp [UW])
 |k+1,q,h=>by
  rcases An q (UW p k) with h1|h1;obtain ⟨j,hj,h2⟩:=lG h1;exact ⟨j,VI,h2⟩;cases hp:p k;rw [RJ hp] at h;omega;rw [DW hp] at h;exact ⟨k,VI,hp,VI⟩
theorem kP{p:Nat->Bool}{n q:Nat}(h:q<UW p n):UO p n q<n/\p (UO p n q)=true:=by
 obtain ⟨j,hj,hp,hc⟩:=lG h;rw [←hc,B1 hj hp];exact ⟨hj,hp⟩
def A6:UX
 |[.ro [.x (.int .i64 4),.x (.int .i64 10),.lst 5 n f,ea,la],.x (.int .i64 d)]=>some ([],.fn (.func 171) [] [.ro [.ro [i 4,i 10,.lst 5 n f,ea,la]],.ro [i d]])
 |_=>none
theorem Wd2(ea la:AV)(n:Nat)(f:Ci)(d:Int):FP VN 131 [.ro [i 4,i 10,.lst 5 n f,ea,la],i d] (.fn (.func 171) [] [.ro [.ro [i 4,i 10,.lst 5 n f,ea,la]],.ro [i d]]):=by
 refine D1 (L:=[]) Aa Ad VX Tryz.func131 (US Tryz.f131) G7 (t:=leaf (AV.fn (Fn.func 171) [] [AV.ro [AV.ro [iI 4,iI 10,lst 5 n λa=>f a,ea,la]],AV.ro [iI d]])) VT ?_;exact rfl
theorem NI:PH VN 131 A6:=by
 refine ⟨(UI Tryz.func131),?_⟩;intro avs ns res h hn;unfold A6 at h;split at h;cases h;exact Wd2 _ _ _ _ _;cases h
section
variable (l:Nat)(ea la:AV)(n:Nat)(a b c U O:Cg)(d:Int)
def Xd5:St:={σ:=[AV.fn (Fn.yield l) [] [],AV.ro [QQ n a b c U O ea la],AV.ro [iI d],top,ptr 3 0]++HH 9 [Q0 n a b c U O,iI (n:Int)]++HH 26 [],m:=[(3,GN.ints 193 [] 6 λa_1=>UR 5 (stF a b c d n 5) (UR 4 (stF a b c d n 4) (UR 3 (stF a b c d n 3) (UR 2 (stF a b c d n 2) (UR 1 (stF a b c d n 1) (UR 0 (stF a b c d n 0) (BM Q3)))))) a_1)],nx:=12,gh:=some 0}
noncomputable def Zy0:Code:=U7 (VQ (U6 Tryz.f171) 0)
def TU(k:Nat):St:={σ:=H5 [(4,.roI [] 6 (st6 (stF a b c d n)) 0),(5,.top),(6,.top),(16,i k)] (Xd5 l ea la n a b c U O d).σ,m:=[],nx:=12,gh:=some (UW (quB n a b c d) k) }
def jJ(k:Nat):G6->Option St
 | .exit 0=>some {σ:=H5 [(4,.roI [] 6 (st6 (stF a b c d n)) 0),(5,.top),(6,.top),(16,i n)] (Xd5 l ea la n a b c U O d).σ,m:=[],nx:=12,gh:=some (quN n a b c d) }
 | .ret=>some {σ:=H5 [(4,.roI [] 6 (st6 (stF a b c d n)) 0),(5,.top),(6,.top),(16,.top)] (Xd5 l ea la n a b c U O d).σ,m:=[],nx:=12,gh:=none}
 |_=>none
def Jr3:CT:= .may True (.leaf (.exit 0,(jJ l ea la n a b c U O d 0 (.exit 0)).getD (Xd5 l ea la n a b c U O d))) (.leaf (.ret,(jJ l ea la n a b c U O d 0 .ret).getD (Xd5 l ea la n a b c U O d)))
def Xz5:UF:=GI [(.slot 4,3,193,1)] (HB (TU l ea la n a b c U O d (0)) (Jr3 l ea la n a b c U O d))
end
abbrev ZU(a:Cg)(b:Cg)(c:Cg)(d:Int)(n:Nat):Prop:=roI [] 6 (λa_1=>st6 (stF a b c d n) a_1) 0=roI [] 6 (λa_1=>st6 (stF a b c d n) a_1) 0
abbrev KY(d:Int):Prop:=AV.ro [iI d]=AV.ro [iI d]
abbrev Y7(n:Nat)(a:Cg)(b:Cg)(c:Cg)(U:Cg)(O:Cg)(ea:AV)(la:AV):Prop:=AV.ro [QQ n a b c U O ea la]=AV.ro [QQ n a b c U O ea la]
theorem Jg3(l:Nat)(ea la:AV)(n:Nat)(a b c U O:Cg)(d:Int)(VR:sV n a b c U O)(UD:0<=d/\d<256){cx:Cx}(hX:VV VN {Y:=some (l,(quN n a b c d),(quV n a b c U O d)) } cx):HK VN none cx (.loop Zy0) (Xz5 l ea la n a b c U O d):=by
 refine FL [(.slot 4,3,193,1)] (L:=[]) (Ae rU (Ae (qS n a b c U O VR) Aa)) hX VX G7 (V:=Nat) (TU l ea la n a b c U O d) (λk=>k<=n) (λk=>n-k) (jJ l ea la n a b c U O d) (x0:=0) VS ?_ ?_ ?_;rintro k;kernel_rfl;rintro k y E h;unfold jJ at h;split at h;cases h;kernel_rfl;cases h;kernel_rfl;cases h;rintro Q hQ k hx;refine ⟨(k+1),?_⟩;have e:HW VN [(133,sE),(88,(f8 n a b c U O))] {Y:=some (l,(quN n a b c d),(quV n a b c U O d)) } [] [(.slot 4,3,193,1)] Zy0 (TU l ea la n a b c U O d k) (TU l ea la n a b c U O d ((k+1))) (jJ l ea la n a b c U O d k)=(let z3:=Y7 n a b c U O ea la;let z2:=quB n a b c d;let W:=(need [VK ((k:Int)+1)] (need [XN l,z3,KY d,ZU a b c d n,W7 n a b c U O,VY (n:Int),(k:Int)+1=(↑(k+1):Int),UW (z2) k=UW (z2) (k+1)] (leaf G6.normal)));let z1:=(UO (z2) n (UW (z2) k));(branch (decide ((k:Int)<(n:Int))) (need [UE k n] (need [(0:Int)<=(k:Int)/\(k:Int)<=64] (branch (!MW d k) (need [UE (a k) 6] (need [(a k).toNat*1+0<6] (branch (decide (st6 (stF a b c d n) ((a k).toNat*1+0)>=c k)) (need [l=l,UW (z2) k<quN n a b c d,[Value.int IntKind.i64 (k:Int),Value.agg {toList:=[Value.int IntKind.i64 (a k),Value.int IntKind.i64 (b k),Value.int IntKind.i64 (c k),Value.int IntKind.i64 (U k),Value.int IntKind.i64 (O k)] }]=[Value.int IntKind.i64 (z1:Int),Value.agg {toList:=[Value.int IntKind.i64 (a z1),Value.int IntKind.i64 (b z1),Value.int IntKind.i64 (c z1),Value.int IntKind.i64 (U z1),Value.int IntKind.i64 (O z1)] }]] (VL.may True (need [VK ((k:Int)+1)] (need [XN l,z3,KY d,ZU a b c d n,W7 n a b c U O,VY (n:Int),(k:Int)+1=(↑(k+1):Int),UW (z2) k+1=UW (z2) (k+1)] (leaf G6.normal))) (need [XN l,z3,KY d,ZU a b c d n,W7 n a b c U O,VY (n:Int)] (leaf G6.ret)))) W))) W))) (need [XN l,z3,KY d,ZU a b c d n,W7 n a b c U O,VY (n:Int),(k:Int)=(n:Int),UW (z2) k=quN n a b c d] (leaf (G6.exit 0))))):=VT;rw [e];simp only [Jr3,jJ,VL.sat,GR] at hQ;have hQ1: ∀E,jJ l ea la n a b c U O d k (.exit 0)=some E->Q (.exit 0,E):=λE hE=>by cases hE;exact hQ.1 trivial
 have hQ2: ∀E,jJ l ea la n a b c U O d k .ret=some E->Q (.ret,E):=λE hE=>by cases hE;exact hQ.2
 simp only [VL.sat,U9,UG,H4,VK,DX];clear e hQ;have h8:=VR.1;have hX:(a k).toNat*1+0=(a k).toNat:=VI;rw [hX];refine ⟨λh=>?_,λh=>?_⟩;have hk:k<n:=VI;have hs:=tP VR hk;have hno:quB n a b c d k=false->UW (quB n a b c d) k=UW (quB n a b c d) (k+1):=λh=>(RJ h).symm;rw [Zh1 _ (show (a k).toNat<6 by omega)]
 refine ⟨VI,VI,λh1=>⟨VI,VI,λh2=>?_,λh2=>?_⟩,λh1=>?_⟩
 ·have hq:quB n a b c d k=true:=by
   unfold quB;rw [h1,decide_eq_true h2];rfl
  have hy:=DW hq;have hm:=dS (quB n a b c d) (show k+1<=n by omega)
  rw [B1 hk hq]
  (with_reducible repeat' first|apply Al|intro _)
  all_goals first|exact Ak|(simp only [quN];omega)|omega|rfl|exact hQ1 _ (by assumption)|exact hQ2 _ (by assumption)
 ·have hq:quB n a b c d k=false:=by
   unfold quB;rw [decide_eq_false h2,Bool.and_false]
  have hy:=RJ hq;all_goals exact V4
 ·have hq:quB n a b c d k=false:=by
   unfold quB;rw [h1];rfl
  have hy:=RJ hq;all_goals exact V4
 ·obtain rfl:k=n:=VI;all_goals exact V4
theorem v6(ea la:AV)(n:Nat)(a b c U O:Cg)(d:Int)(VR:sV n a b c U O)(UD:0<=d/\d<256):BD Tryz.prog 171 [.ro [.ro [i 4,i 10,sls n a b c U O,ea,la]],.ro [i d]] ((quN n a b c d)) (quV n a b c U O d):=by
 refine BN (L:=λl=>[Xz5 l ea la n a b c U O d]) (Ae rU (Ae (qS n a b c U O VR) Aa)) VX (UI Tryz.func171) Tryz.func171 (US Tryz.f171) VT (λl cx hX=>UY (lpE (b:= .loop Zy0) VT<|Jg3 l ea la n a b c U O d VR UD hX)) (t:=λl=>(let W:=stF a b c d n;(need [W7 n a b c U O,(0:Int)<=d/\d<256] (need [0+List.length [W 0,W 1,W 2,W 3,W 4,W 5]<=6] (need [VY (AV.fn (Fn.yield l) [] []),Y7 n a b c U O ea la,KY d,roI [] 6 (λa_1=>UR 5 (W 5) (UR 4 (W 4) (UR 3 (W 3) (UR 2 (W 2) (UR 1 (W 1) (UR 0 (W 0) (BM Q3)))))) a_1) 0=roI [] 6 (λa_1=>st6 (W) a_1) 0,W7 n a b c U O,VY (n:Int),(0:Int)=((0:Nat):Int),0=UW (quB n a b c d) 0] (VL.may True (need [VY (quN n a b c d)] (leaf PUnit.unit)) (leaf PUnit.unit))))))) (λl=>VT) ?_
 intro l;simp only [VL.sat,U9,UV,GJ,UB,UG];exact ⟨UD,VS,⟨rfl,rfl,rfl⟩,λ_=>trivial⟩
noncomputable def Qj3:HY:=dJ Tryz.prog [] {} [] Tryz.f131 (U6 Tryz.f131)
theorem hZ:GA VN 131 Qj3:=
 FZ (G:=[]) (X:=W8) (L:=[]) Aa Ad VX (UI Tryz.func131) Tryz.func131 (US Tryz.f131) U1
section
variable (n:Nat)
abbrev ZG:AV:=iI ((2:Int)^n-1+1)
abbrev ZV(a:Cg)(b:Cg)(c:Cg)(U:Cg)(O:Cg):List AV:=[iI 4,iI 10,Q0 n a b c U O]
abbrev KN(a:Cg)(b:Cg)(c:Cg)(U:Cg)(O:Cg):List AV:=[iI 4,iI 10,Q0 n a b c U O,AV.row 901,AV.row 902]
abbrev Y5:GN:=GN.row 3 1 0 λx=>[]
abbrev YD:GN:=GN.cells 134 [ptr 4 0]
def Zv7(a b c U O:Cg):St:={σ:=[agg (ZV n a b c U O),ptr 0 0,QD,ptr 5 0]++HH 14 [ZG n]++HH 140 [],m:=[(902,Y5),(901,Y5),(5,YD),(4,GN.cells 249 (KN n a b c U O)),(0,GN.cells 65 (ZV n a b c U O))],nx:=903}
noncomputable def Jx1:Code:=U7 (VQ (U6 Tryz.f84) 0)
def Wk0(a b c U O:Cg)(k:Nat):St:={σ:=H5 [(19,i k)] (Zv7 n a b c U O).σ,m:=[(902,.row 3 1 (k) (λz=>[i ((λ_=> -1) z)])),(901,.row 3 1 (k) (λz=>[i ((λ_=>101) z)])),(5,.cells 134 [.ptr 4 0]),(4,.cells 249 [i 4,i 10,sls n a b c U O,.row 901,.row 902]),(0,.cells 65 [i 4,i 10,sls n a b c U O])],nx:=903}
def CM(a b c U O:Cg)(k:Nat):G6->Option St
 | .exit 0=>some {σ:=H5 [(19,i (2^n))] (Zv7 n a b c U O).σ,m:=[(902,.row 3 1 (2^n) (λz=>[i ((λ_=> -1) z)])),(901,.row 3 1 (2^n) (λz=>[i ((λ_=>101) z)])),(5,.cells 134 [.ptr 4 0]),(4,.cells 249 [i 4,i 10,sls n a b c U O,.row 901,.row 902]),(0,.cells 65 [i 4,i 10,sls n a b c U O])],nx:=903}
 |_=>none
def Js1(a b c U O:Cg):CT:= .leaf (.exit 0,(CM n a b c U O 0 (.exit 0)).getD (Zv7 n a b c U O))
abbrev JZ:List (Pl×Nat×TypeId×Nat):=[(.cell 4 3,0,0,1),(.cell 4 4,0,0,1),(.cell 4 3,901,3,1),(.cell 4 4,902,3,1)]
def Za5(a b c U O:Cg):UF:=GI JZ (HB (Wk0 n a b c U O (0)) (Js1 n a b c U O))
abbrev QG:Prop:=(2:Int)^n-1+1=2^n-1+1
abbrev QP(a:Cg)(b:Cg)(c:Cg)(U:Cg)(O:Cg):Prop:=agg (ZV n a b c U O)=agg (ZV n a b c U O)
abbrev W5:Prop:=(4:Int)=4
abbrev WD:Prop:=(10:Int)=10
abbrev WM:Prop:=AV.row 902=AV.row 902
abbrev ZZ:List AV:=[iI 101]
abbrev YK:Ci:=λz=>[iI (-1:Int)]
theorem Ji4(a b c U O:Cg)(VR:sV n a b c U O):G0 VN (.loop Jx1) (Za5 n a b c U O):=by
 refine zE JZ (L:=[]) (Ae LC Aa) VX U1 (X:=Nat) (Wk0 n a b c U O) (λk=>k<=2^n) (λk=>2^n-k) (CM n a b c U O) (x0:=0) VS ?_ ?_ ?_;rintro k;kernel_rfl;rintro k y E h;unfold CM at h;split at h;cases h;kernel_rfl;cases h;rintro Q hQ k hx;refine ⟨(k+1),?_⟩;(with_reducible refine D2 (t:=let W:=(need [VK ((k:Int)+1)] (need [QP n a b c U O,QK,QD=QD,ZN,QG n,(k:Int)+1=(↑(k+1):Int),k+1=k+1,GU (k+1) (GD k (YK) (U3 1 [iI (-1:Int)])) (λi=>[iI (-1:Int)]),k+1=k+1,GU (k+1) (GD k (λz=>ZZ) (U3 1 ZZ)) (λi=>ZZ),W9,W5,WD,W7 n a b c U O,WJ,WM,W5,WD,W7 n a b c U O] (leaf G6.normal)));(branch (decide ((k:Int)<2^n-1+1)) (need [(k+1)*8<=140737488355328,∀(i:Nat),i<1-> ∀(a:AV),a∈U3 1 ZZ i->AV.one a=true] (need [(k+1)*8<=140737488355328,RH 1 (U3 1 [iI (-1:Int)])] (VL.may True W (VL.may True W (VL.may True W (VL.may True W W)))))) (need [QP n a b c U O,QK,QD=QD,ZN,QG n,(k:Int)=2^n,k=2^n,∀(i:Nat),i<2^n->[iI (-1:Int)]=[iI (-1:Int)],k=2^n,∀(i:Nat),i<2^n->ZZ=ZZ,W9,W5,WD,W7 n a b c U O,WJ,WM,W5,WD,W7 n a b c U O] (leaf (G6.exit 0))))) VT ?_)
 simp only [Js1,CM,VL.sat,GR] at hQ;simp only [VL.sat,U9,UV,GJ,UB,VK,UG,H4,FE,FJ,FR,GH,CM]
 have h8:=VR.1;have hp:=uL h8;have hpn:((2^n:Nat):Int)=2^n:=VS;refine ⟨λh=>?_,λh=>?_⟩
 ·have hk:k<2^n:=VI
  (with_reducible repeat' first|apply Al|intro _)
  all_goals first|exact P4|(first|exact FG (by assumption) (by simp [AV.one,Value.oneCell'])|exact Pt.catF1 (a:=λ_=>101) (by assumption) rfl|exact Pt.catF1 (a:=λ_=> -1) (by assumption) rfl)
 obtain rfl:k=2^n:=VI;exact YW
end
def eQ(p:Nat->Bool)(n:Nat)(U O:Cg)(d:Nat)(E:Cg):Nat->Nat->Int
 | 0=>E
 |q+1=>if max (eQ p n U O d E q d) (U (UO p n q))<=O (UO p n q) then UR (d ||| 2^UO p n q) (min (eQ p n U O d E q (d ||| 2^UO p n q)) (max (eQ p n U O d E q d) (U (UO p n q)))) (eQ p n U O d E q) else eQ p n U O d E q
def eD(n:Nat)(a b c U O:Cg):Nat->Nat->Int
 | 0=>λk=>if k=0 then 0 else 101
 |d+1=>if eD n a b c U O d d=101 then eD n a b c U O d else eQ (quB n a b c d) n U O d (eD n a b c U O d) (quN n a b c d)
section
variable (n:Nat)(a b c U O:Cg)
noncomputable def Zv6:St:={σ:=[agg (ZV n a b c U O),ptr 0 0,QD,ptr 5 0]++HH 14 [ZG n,iI ((2:Int)^n)]++HH 27 [ZG n]++HH 111 [],m:=[(902,GN.row 3 1 (2^n) λz=>[iI (-1:Int)]),(901,GN.row 3 1 (2^n) λk=>iI (if decide (k=(0:Int).toNat)=true then (0:Int) else (101:Int))::Bool.rec ([]) ([]) (decide (k=(0:Int).toNat))),(5,YD),(4,GN.keep 249 (KN n a b c U O)),(0,GN.cells 65 (ZV n a b c U O))],nx:=913}
noncomputable def bD:Code:=U7 (VQ (U6 Tryz.f84) 1)
noncomputable def Wj9(d:Nat):St:={σ:=H5 [(4,.top),(48,i d),(5,.top),(6,.top),(7,.top),(8,.top)] (Zv6 n a b c U O).σ,m:=[(902,.row 3 1 (2^n) (λz=>[i ((λ_=> -1) z)])),(901,.row 3 1 (2^n) (λz=>[i ((eD n a b c U O (d)) z)])),(5,.cells 134 [.ptr 4 0]),(4,.keep 249 [i 4,i 10,sls n a b c U O,.row 901,.row 902]),(0,.cells 65 [i 4,i 10,sls n a b c U O])],nx:=903}
noncomputable def CL(d:Nat):G6->Option St
 | .exit 2=>some {σ:=H5 [(4,.top),(48,i (2^n)),(5,.top),(6,.top),(7,.top),(8,.top)] (Zv6 n a b c U O).σ,m:=[(902,.row 3 1 (2^n) (λz=>[i ((λ_=> -1) z)])),(901,.row 3 1 (2^n) (λz=>[i ((eD n a b c U O (2^n)) z)])),(5,.cells 134 [.ptr 4 0]),(4,.keep 249 [i 4,i 10,sls n a b c U O,.row 901,.row 902]),(0,.cells 65 [i 4,i 10,sls n a b c U O])],nx:=903}
 |_=>none
noncomputable def Js0:CT:= .leaf (.exit 2,(CL n a b c U O 0 (.exit 2)).getD (Zv6 n a b c U O))
noncomputable def Za4:UF:=GI [(.cell 5 0,0,0,0)] (HB (Wj9 n a b c U O (0)) (Js0 n a b c U O))
end
theorem BZ{n d:Nat}(h8:n<=8)(h:d<2^n):(0:Int)<=d/\(d:Int)<256:=by
 have hp:=uL h8;have hpn:((2^n:Nat):Int)=2^n:=VS;omega
theorem Qa3{n d s:Nat}(h:d<2^n)(hs:s<n):d ||| 2^s<2^n:=Nat.or_lt_two_pow h (Nat.pow_lt_pow_right (by decide) hs)
theorem Wd9{n d s:Nat}(h8:n<=8)(h:d<2^n)(hs:s<n):IntKind.i64.wrap ((BitVec.ofInt 64 (d:Int) ||| BitVec.ofInt 64 (1*2^s)).toNat:Int)=((d ||| 2^s:Nat):Int):=by
 have h2:=BZ h8 h;have h3:2^s<2^n:=Nat.pow_lt_pow_right (by decide) hs
 have h4:=BZ h8 h3;have e:(1*2^s:Int)=((2^s:Nat):Int):=by rw [Int.one_mul];simp
 rw [e];exact Xi1 VI VI
theorem uG{F:Cg}{v:Int}{q j:Nat}:H3 (decide (j=q)) [i v] [i (F j)]=[i (UR q v F j)]:=by
 unfold UR;by_cases h:j=q;rw [decide_eq_true h,if_pos h];rfl;rw [decide_eq_false h,if_neg h];rfl
abbrev J0:AV:=AV.fn (Fn.func 171) [] [ptr 917 0,ptr 918 0]
section
variable (n:Nat)(a b c U O:Cg)(d:Nat)
def Ju9:St:={σ:=[agg (ZV n a b c U O),ptr 0 0,QD,ptr 5 0,ptr 905 0]++HH 13 [ZG n,iI ((2:Int)^n)]++HH 27 [ZG n,iI (d:Int)]++HH 12 [J0]++HH 97 [],m:=[(918,GN.keep 189 [iI (d:Int)]),(917,GN.keep 134 [ptr 4 0]),(905,GN.cells 189 [iI (d:Int)]),(902,GN.row 3 1 (2^n) λz=>[iI (-1:Int)]),(901,GN.row 3 1 (2^n) λz=>[iI (eD n a b c U O d z)]),(5,YD),(4,GN.keep 249 (KN n a b c U O)),(0,GN.cells 65 (ZV n a b c U O))],nx:=922}
noncomputable def Jz3:Code:=SS (VQ bD 0)
noncomputable def Jx0:Code:=SR (VQ bD 0)
def oT(k:Nat):St:={σ:=H5 [(5,.top),(6,.top),(7,.top),(8,.top)] (Ju9 n a b c U O d).σ,m:=[(918,.keep 189 [i d]),(917,.keep 134 [.ptr 4 0]),(905,.cells 189 [i d]),(902,.row 3 1 (2^n) (λz=>[i ((λ_=> -1) z)])),(901,.row 3 1 (2^n) (λz=>[i ((eQ (quB n a b c d) n U O d (eD n a b c U O d) (k)) z)])),(5,.cells 134 [.ptr 4 0]),(4,.keep 249 [i 4,i 10,sls n a b c U O,.row 901,.row 902]),(0,.cells 65 [i 4,i 10,sls n a b c U O])],nx:=922}
def nY(k:Nat):G6->Option St
 | .normal=>some {σ:=H5 [(5,.top),(6,.top),(7,.top),(8,.top)] (Ju9 n a b c U O d).σ,m:=[(918,.keep 189 [i d]),(917,.keep 134 [.ptr 4 0]),(905,.cells 189 [i d]),(902,.row 3 1 (2^n) (λz=>[i ((λ_=> -1) z)])),(901,.row 3 1 (2^n) (λz=>[i ((eQ (quB n a b c d) n U O d (eD n a b c U O d) ((quN n a b c d))) z)])),(5,.cells 134 [.ptr 4 0]),(4,.keep 249 [i 4,i 10,sls n a b c U O,.row 901,.row 902]),(0,.cells 65 [i 4,i 10,sls n a b c U O])],nx:=922}
 |_=>none
def T_kc:CT:= .leaf (.normal,oT n a b c U O d (quN n a b c d))
def Za3:UF:=GI [(.slot 61,0,0,0)] (HB (oT n a b c U O d (0)) (T_kc n a b c U O d))
end
abbrev XX(n:Nat):Prop:=(2:Int)^n=2^n
theorem Ji2(n:Nat)(a b c U O:Cg)(d:Nat)(VR:sV n a b c U O)(UD:d<2^n):HP VN (.rangeFunc (rfF (VQ bD 0)) (jF (VQ bD 0)) Jz3 Jx0) (Za3 n a b c U O d):=by
 refine yK [(.slot 61,0,0,0)] (L:=[]) (Ae DZ (Ae PQ Aa)) Ad VX U1 (V:=Nat) (oT n a b c U O d) (λk=>k<=(quN n a b c d)) (λk=>k) (nY n a b c U O d) (x0:=0) VS rfl ?_ ?_ ?_ ?_ (g:=171) (caps:=[.ro [.ro [i 4,i 10,sls n a b c U O,.top,.top]],.ro [i d]]) (caps0:=[.ptr 917 0,.ptr 918 0]) VT VT (v6 .top .top n a b c U O d VR (BZ VR.1 UD)) (λ_=>rfl) ?_;rintro k;kernel_rfl;rintro k y E h;unfold nY at h;split at h;cases h;kernel_rfl;cases h;rintro k;rfl;rintro k y E h;unfold nY at h;split at h;cases h;rfl;cases h;rintro Q hQ k hx;refine ⟨λhlt=>⟨(k+1),rfl,?_⟩,λPL=>?_⟩;(with_reducible refine D2 (t:=let z1:=(quB n a b c (d:Int));let W:=(BitVec.toNat (BitVec.ofInt 64 (d:Int) ||| BitVec.ofInt 64 ((1:Int)*2^UO z1 n k)));let z2:=(IntKind.wrap IntKind.i64 (W:Int));let z3:=eD n a b c U O d;let z4:=eQ z1 n U O d;(need [UE d (↑(2^n):Int)] (need [d<2^n] (branch (decide (max (z4 (z3) k d) (U (UO z1 n k))<=O (UO z1 n k))) (need [(0:Int)<=(UO z1 n k:Int)/\(UO z1 n k:Int)<=64,VK ((1:Int)*2^UO z1 n k)] (need [UE (IntKind.wrap IntKind.i64 (W:Int)) (↑(2^n):Int)] (need [Int.toNat z2<2^n] (need [UE (IntKind.wrap IntKind.i64 (W:Int)) (↑(2^n):Int)] (need [Int.toNat z2<2^n] (need [QP n a b c U O,QK,QD=QD,ZN,VY (ptr 905 0),QG n,XX n,QG n,VY (d:Int),J0=J0,VY (d:Int),W9,VY (d:Int),2^n=2^n,∀(i:Nat),i<2^n->[iI (-1:Int)]=[iI (-1:Int)],2^n=2^n,∀(i:Nat),i<2^n->H3 (decide (i=Int.toNat z2)) [iI (min (z4 (z3) k (Int.toNat z2)) (max (z4 (z3) k d) (U (UO z1 n k))))] [iI (z4 (z3) k i)]=[iI (z4 (z3) (k+1) i)],W9,W5,WD,W7 n a b c U O,WJ,WM,W5,WD,W7 n a b c U O] (leaf G6.normal))))))) (need [QP n a b c U O,QK,QD=QD,ZN,VY (ptr 905 0),QG n,XX n,QG n,VY (d:Int),J0=J0,VY (d:Int),W9,VY (d:Int),2^n=2^n,∀(i:Nat),i<2^n->[iI (-1:Int)]=[iI (-1:Int)],2^n=2^n,∀(i:Nat),i<2^n->[iI (z4 (z3) k i)]=[iI (z4 (z3) (k+1) i)],W9,W5,WD,W7 n a b c U O,WJ,WM,W5,WD,W7 n a b c U O] (leaf G6.normal)))))) VT ?_)
 have h8:=VR.1;have hd:=BZ h8 UD;have hpn:((2^n:Nat):Int)=2^n:=VS;have hs:=kP hlt;have hor:=Wd9 h8 UD hs.1;have hol:=Qa3 UD hs.1;simp only [VL.sat,U9,UG,hor,DX,H4]
 have hd2:(d:Int)<2^n:=by
  have h:(d:Int)<((2^n:Nat):Int):=Int.ofNat_lt.2 UD
  rwa [hpn] at h
 have Qp6:((d ||| 2^UO (quB n a b c d) n k:Nat):Int)<2^n:=by
  have h:((d ||| 2^UO (quB n a b c d) n k:Nat):Int)<((2^n:Nat):Int):=Int.ofNat_lt.2 hol
  rwa [hpn] at h
 have hk1:k+1<=quN n a b c d:=hlt;have h2s:(1:Int)<=2^UO (quB n a b c d) n k/\(2:Int)^UO (quB n a b c d) n k<=256:=uL VI;have h64:=hs.1;refine ⟨⟨VI,hd2⟩,UD,λh=>?_,λh=>?_⟩;refine ⟨⟨⟨VI,VI⟩,by simp only [VK,Int.one_mul];omega⟩,⟨VI,Qp6⟩,hol,⟨VI,Qp6⟩,hol,⟨λ_ _=>trivial,λj hj=>?_⟩,hk1⟩
 simp only [eQ,if_pos h];exact uG;refine ⟨⟨λ_ _=>trivial,λj hj=>?_⟩,hk1⟩;simp only [eQ,if_neg h];have hk:k=quN n a b c d:=VI;subst hk;exact hQ
theorem uT{P:Program}{G:List (Nat×UX)}{E:Ext}{L:List UF}(N:List (Pl×Nat×TypeId×Nat))(hG:VJ P G)(hX: ∀cx,VV P E cx)(GQ:P.follows .mixedOrders=true){body:Code}(hL: ∀j cj,VQ body j=some cj-> ∀sp,L[j]? =some sp->HP P cj sp)
  {X:Type}(inv:X->St)(I:X->Prop)(μ:X->Nat)(out:X->G6->Option St){t:CT}{x0:X}(h0:I x0)
  (hok: ∀x,Go.Sx.okB (inv x)=true)(qN: ∀x y E,out x y=some E->Go.Sx.okB E=true)
  (round: ∀(Q:G6×St->Prop),t.sat Q-> ∀x,I x-> ∃x',(HW P G E L N body (inv x) (inv x') (out x)).sat (λy=>match y with
   | .normal=>I x'/\μ x'<μ x
   |y=> ∀E,out x y=some E->Q (y,E))):HP P (.loop body) (GI N (HB (inv x0) t)):=
 λcx hf=>FL N hG (hX cx) GQ (λj cj hj sp hsp=>hL j cj hj sp hsp cx hf) inv I μ out h0 hok qN round
theorem gM{P:Program}{c:Code}{t:Nat}{F:Nat->UF}(h: ∀k,HP P c (F k)):HP P c (PP t F):=by
 intro cx hf n s tr ht Q hQ a w r;unfold PP at ht;split at ht;exact h _ cx hf n s tr ht Q hQ a w r;cases ht
abbrev JM:List (Nat×UX):=[(86,M2),(90,kI),(89,M3)]
noncomputable abbrev KB:Ext:={R:=[],H:=[(131,Qj3)] }
theorem Ji3(n:Nat)(a b c U O:Cg)(VR:sV n a b c U O):HP VN (.loop bD) (Za4 n a b c U O):=by
 refine uT [(.cell 5 0,0,0,0)] (L:=[PP 48 (λd=>FH [d<2^n] (Za3 n a b c U O d))]) (Ae LC (Ae DZ (Ae PQ Aa))) (Ai Ab (Ag hZ Ac)) VX (UY (λcj hcj=>by
  have e:VQ bD 0=some (.rangeFunc (rfF (VQ bD 0)) (jF (VQ bD 0)) Jz3 Jx0):=VT;rw [e] at hcj;cases hcj;exact gM (λd=>B2 (λh=>Ji2 n a b c U O d VR h)))) (X:=Nat) (Wj9 n a b c U O) (λd=>d<=2^n) (λd=>2^n-d) (CL n a b c U O) (x0:=0) VS ?_ ?_ ?_
 rintro d;kernel_rfl;rintro d y E h;unfold CL at h;split at h;cases h;kernel_rfl;cases h;rintro Q hQ d hx;refine ⟨(d+1),?_⟩;(with_reducible refine D2 (t:=let W:=W7 n a b c U O;let z1:=eD n a b c U O d;(branch (decide ((d:Int)<2^n-1+1)) (need [UE d (↑(2^n):Int)] (need [d<2^n] (branch (z1 d==101) (need [VK ((d:Int)+1)] (need [QP n a b c U O,QK,QD=QD,ZN,QG n,XX n,QG n,(d:Int)+1=(↑(d+1):Int),2^n=2^n,∀(i:Nat),i<2^n->[iI (-1:Int)]=[iI (-1:Int)],2^n=2^n,∀(i:Nat),i<2^n->[iI (z1 i)]=[iI (eD n a b c U O (d+1) i)],W9,W5,WD,W,WJ,WM,W5,WD,W] (leaf G6.normal))) (need [d<2^n] (need [QP n a b c U O,QK,QD=QD,ZN,VY (ptr 905 0),QG n,XX n,QG n,VY (d:Int),J0=J0,VY (d:Int),W9,VY (d:Int),2^n=2^n,∀(i:Nat),i<2^n->[iI (-1:Int)]=[iI (-1:Int)],2^n=2^n,∀(i:Nat),i<2^n->[iI (z1 i)]=[iI (eQ (quB n a b c (d:Int)) n U O d (z1) 0 i)],W9,W5,WD,W,WJ,WM,W5,WD,W] (need [VK ((d:Int)+1)] (need [QP n a b c U O,QK,QD=QD,ZN,QG n,XX n,QG n,(d:Int)+1=(↑(d+1):Int),2^n=2^n,∀(i:Nat),i<2^n->[iI (-1:Int)]=[iI (-1:Int)],2^n=2^n,∀(i:Nat),i<2^n->[iI (eQ (quB n a b c (d:Int)) n U O d (z1) (quN n a b c (d:Int)) i)]=[iI (eD n a b c U O (d+1) i)],W9,W5,WD,W,WJ,WM,W5,WD,W] (leaf G6.normal)))))))) (need [QP n a b c U O,QK,QD=QD,ZN,QG n,XX n,QG n,(d:Int)=2^n,2^n=2^n,∀(i:Nat),i<2^n->[iI (-1:Int)]=[iI (-1:Int)],2^n=2^n,∀(i:Nat),i<2^n->[iI (z1 i)]=[iI (eD n a b c U O (2^n) i)],W9,W5,WD,W,WJ,WM,W5,WD,W] (leaf (G6.exit 2))))) VT ?_);simp only [Js0,CL,VL.sat,GR] at hQ;simp only [VL.sat,U9,UV,GJ,UB,VK,UG,H4,FE,FJ,FR,GH,CL]
 have h8:=VR.1;have hp:=uL h8;have hpn:((2^n:Nat):Int)=2^n:=VS;refine ⟨λh=>?_,λh=>?_⟩;have hd3:(d:Int)<2^n:=VI;have hd:d<2^n:=by
  have h':(d:Int)<((2^n:Nat):Int):=by rw [hpn];exact hd3
  exact Int.ofNat_lt.1 h'
 have hd2:=BZ h8 hd;refine ⟨⟨VI,hd3⟩,hd,λhb=>?_,λhb=>?_⟩;rw [beq_iff_eq] at hb;refine ⟨VI,⟨VI,λ_ _=>trivial,λj hj=>by simp only [eD,if_pos hb]⟩,hd,VI⟩
 rw [beq_eq_false_iff_ne] at hb;refine ⟨hd,⟨λ_ _=>trivial,λj hj=>rfl⟩,VI,⟨VI,λ_ _=>trivial,λj hj=>by simp only [eD,if_neg hb]⟩,hd,VI⟩
 have hd:d=2^n:=by
  have h': ¬(d:Int)<((2^n:Nat):Int):=by rw [hpn];omega
  omega
 subst hd;exact ⟨⟨hpn,λ_ _=>trivial,λj hj=>rfl⟩,λE hE=>by cases hE;exact hQ⟩
def pm(n:Nat):Nat:=2^n-1
def lQ(p:Nat->Bool)(n:Nat)(U O:Cg)(d:Nat)(F:Cg):Nat->Nat->Int
 | 0=>F
 |q+1=>if min (lQ p n U O d F q (d ||| 2^UO p n q)) (O (UO p n q))>=U (UO p n q) then UR d (max (lQ p n U O d F q d) (min (lQ p n U O d F q (d ||| 2^UO p n q)) (O (UO p n q)))) (lQ p n U O d F q) else lQ p n U O d F q
def lS(n:Nat)(a b c U O:Cg):Nat->Nat->Int
 | 0=>UR (2^n-1) 101 (λ_=> -1)
 |s+1=>lQ (quB n a b c ((2^n-2-s:Nat):Int)) n U O (2^n-2-s) (lS n a b c U O s) (quN n a b c ((2^n-2-s:Nat):Int))
section
variable (n:Nat)(a b c U O:Cg)
noncomputable def Zv5:St:={σ:=[agg (ZV n a b c U O),ptr 0 0,QD,ptr 5 0]++HH 14 [ZG n,iI ((2:Int)^n)]++HH 27 [ZG n,iI ((2:Int)^n)]++HH 110 [],m:=[(903,GN.cells 189 [iI ((2:Int)^n-1-1)]),(902,GN.row 3 1 (2^n) λk=>iI (if decide (k=((2:Int)^n-1).toNat)=true then (101:Int) else (-1:Int))::Bool.rec ([]) ([]) (decide (k=((2:Int)^n-1).toNat))),(901,GN.row 3 1 (2^n) λz=>[iI (eD n a b c U O (2^n) z)]),(5,YD),(4,GN.keep 249 (KN n a b c U O)),(0,GN.cells 65 (ZV n a b c U O))],nx:=916}
noncomputable def bC:Code:=U7 (VQ (U6 Tryz.f84) 2)
noncomputable def Wj8(d:Nat):St:={σ:=H5 [(9,.ptr 903 0),(10,.top),(11,.top),(12,.top)] (Zv5 n a b c U O).σ,m:=[(903,.cells 189 [i (((d:Nat):Int)-1)]),(902,.row 3 1 (2^n) (λz=>[i ((lS n a b c U O (2^n-1-(d))) z)])),(901,.row 3 1 (2^n) (λz=>[i ((eD n a b c U O (2^n)) z)])),(5,.cells 134 [.ptr 4 0]),(4,.keep 249 [i 4,i 10,sls n a b c U O,.row 901,.row 902]),(0,.cells 65 [i 4,i 10,sls n a b c U O])],nx:=904}
noncomputable def CK(d:Nat):G6->Option St
 | .exit 6=>some {σ:=H5 [(9,.ptr 903 0),(10,.top),(11,.top),(12,.top)] (Zv5 n a b c U O).σ,m:=[(903,.cells 189 [i (((0:Nat):Int)-1)]),(902,.row 3 1 (2^n) (λz=>[i ((lS n a b c U O (2^n-1-(0))) z)])),(901,.row 3 1 (2^n) (λz=>[i ((eD n a b c U O (2^n)) z)])),(5,.cells 134 [.ptr 4 0]),(4,.keep 249 [i 4,i 10,sls n a b c U O,.row 901,.row 902]),(0,.cells 65 [i 4,i 10,sls n a b c U O])],nx:=904}
 |_=>none
noncomputable def Jr9:CT:= .leaf (.exit 6,(CK n a b c U O (pm n) (.exit 6)).getD (Zv5 n a b c U O))
noncomputable def Za2:UF:=GI [(.slot 9,903,189,2),(.cell 5 0,0,0,0)] (HB (Wj8 n a b c U O (pm n)) (Jr9 n a b c U O))
abbrev J1:AV:=AV.fn (Fn.func 171) [] [ptr 908 0,ptr 909 0]
def Ju8(d:Nat):St:={σ:=[agg (ZV n a b c U O),ptr 0 0,QD,ptr 5 0]++HH 5 [ptr 903 0]++HH 8 [ZG n,iI ((2:Int)^n)]++HH 27 [ZG n,iI ((2:Int)^n)]++HH 69 [J1]++HH 40 [],m:=[(909,GN.keep 189 [iI ((d:Int)-1)]),(908,GN.keep 134 [ptr 4 0]),(903,GN.cells 189 [iI ((d:Int)-1)]),(902,GN.row 3 1 (2^n) λz=>[iI (lS n a b c U O (2^n-1-d) z)]),(901,GN.row 3 1 (2^n) λz=>[iI (eD n a b c U O (2^n) z)]),(5,YD),(4,GN.keep 249 (KN n a b c U O)),(0,GN.cells 65 (ZV n a b c U O))],nx:=913}
noncomputable def Jz2:Code:=SS (VQ bC 0)
noncomputable def Jw9:Code:=SR (VQ bC 0)
def oS(d:Nat)(k:Nat):St:={σ:=H5 [(10,.top),(11,.top),(12,.top)] (Ju8 n a b c U O d).σ,m:=[(909,.keep 189 [i ((d:Int)-1)]),(908,.keep 134 [.ptr 4 0]),(903,.cells 189 [i (((d:Nat):Int)-1)]),(902,.row 3 1 (2^n) (λz=>[i ((lQ (quB n a b c ((d:Int)-1)) n U O (d-1) (lS n a b c U O (2^n-1-d)) (k)) z)])),(901,.row 3 1 (2^n) (λz=>[i ((eD n a b c U O (2^n)) z)])),(5,.cells 134 [.ptr 4 0]),(4,.keep 249 [i 4,i 10,sls n a b c U O,.row 901,.row 902]),(0,.cells 65 [i 4,i 10,sls n a b c U O])],nx:=913}
def nX(d:Nat)(k:Nat):G6->Option St
 | .normal=>some {σ:=H5 [(10,.top),(11,.top),(12,.top)] (Ju8 n a b c U O d).σ,m:=[(909,.keep 189 [i ((d:Int)-1)]),(908,.keep 134 [.ptr 4 0]),(903,.cells 189 [i (((d:Nat):Int)-1)]),(902,.row 3 1 (2^n) (λz=>[i ((lQ (quB n a b c ((d:Int)-1)) n U O (d-1) (lS n a b c U O (2^n-1-d)) ((quN n a b c ((d:Int)-1)))) z)])),(901,.row 3 1 (2^n) (λz=>[i ((eD n a b c U O (2^n)) z)])),(5,.cells 134 [.ptr 4 0]),(4,.keep 249 [i 4,i 10,sls n a b c U O,.row 901,.row 902]),(0,.cells 65 [i 4,i 10,sls n a b c U O])],nx:=913}
 |_=>none
def T_ke(d:Nat):CT:= .leaf (.normal,oS n a b c U O d (quN n a b c ((d:Int)-1)))
def Za1(d:Nat):UF:=GI [(.slot 118,0,0,0)] (HB (oS n a b c U O d (0)) (T_ke n a b c U O d))
abbrev ZT:Prop:=ptr 903 0=ptr 903 0
theorem Ji0(d:Nat)(VR:sV n a b c U O)(UD:1<=d)(HF:d<2^n):HP VN (.rangeFunc (rfF (VQ bC 0)) (jF (VQ bC 0)) Jz2 Jw9) (Za1 n a b c U O d):=by
 refine yK [(.slot 118,0,0,0)] (L:=[]) (Ae DZ (Ae PQ Aa)) Ad VX U1 (V:=Nat) (oS n a b c U O d) (λk=>k<=(quN n a b c ((d:Int)-1))) (λk=>k) (nX n a b c U O d) (x0:=0) VS rfl ?_ ?_ ?_ ?_ (g:=171) (caps:=[.ro [.ro [i 4,i 10,sls n a b c U O,.top,.top]],.ro [i ((d:Int)-1)]]) (caps0:=[.ptr 908 0,.ptr 909 0]) VT VT (v6 .top .top n a b c U O ((d:Int)-1) VR (by have:=BZ VR.1 HF;omega)) (λ_=>rfl) ?_
 rintro k;kernel_rfl;rintro k y E h;unfold nX at h;split at h;cases h;kernel_rfl;cases h;rintro k;rfl;rintro k y E h;unfold nX at h;split at h;cases h;rfl;cases h;rintro Q hQ k hx;refine ⟨λhlt=>⟨(k+1),rfl,?_⟩,λPL=>?_⟩;(with_reducible refine D2 (t:=let W:=(quB n a b c ((d:Int)-1));let z1:=(BitVec.toNat (BitVec.ofInt 64 ((d:Int)-1) ||| BitVec.ofInt 64 ((1:Int)*2^UO W n k)));let z2:=(lS n a b c U O (2^n-1-d));let z3:=(VY ((d:Int)-1));let z5:=lQ W n U O;let z4:=(z5 (d-1) z2 k (IntKind.wrap IntKind.i64 (z1:Int)).toNat);(need [(0:Int)<=(UO W n k:Int)/\(UO W n k:Int)<=64,VK ((1:Int)*2^UO W n k)] (need [UE (IntKind.wrap IntKind.i64 (z1:Int)) (↑(2^n):Int)] (need [(IntKind.wrap IntKind.i64 (z1:Int)).toNat<2^n] (branch (decide (min z4 (O (UO W n k))>=U (UO W n k))) (need [UE ((d:Int)-1) (↑(2^n):Int)] (need [((d:Int)-1).toNat<2^n] (need [UE ((d:Int)-1) (↑(2^n):Int)] (need [((d:Int)-1).toNat<2^n] (need [QP n a b c U O,QK,QD=QD,ZN,ZT,QG n,XX n,QG n,XX n,J1=J1,z3,W9,z3,2^n=2^n,∀(i:Nat),i<2^n->H3 (decide (i=((d:Int)-1).toNat)) [iI (max (z5 (d-1) z2 k ((d:Int)-1).toNat) (min z4 (O (UO W n k))))] [iI (z5 (d-1) z2 k i)]=[iI (z5 (d-1) z2 (k+1) i)],2^n=2^n,∀(i:Nat),i<2^n->[iI (eD n a b c U O (2^n) i)]=[iI (eD n a b c U O (2^n) i)],W9,W5,WD,W7 n a b c U O,WJ,WM,W5,WD,W7 n a b c U O] (leaf G6.normal)))))) (need [QP n a b c U O,QK,QD=QD,ZN,ZT,QG n,XX n,QG n,XX n,J1=J1,z3,W9,z3,2^n=2^n,∀(i:Nat),i<2^n->[iI (z5 (d-1) z2 k i)]=[iI (z5 (d-1) z2 (k+1) i)],2^n=2^n,∀(i:Nat),i<2^n->[iI (eD n a b c U O (2^n) i)]=[iI (eD n a b c U O (2^n) i)],W9,W5,WD,W7 n a b c U O,WJ,WM,W5,WD,W7 n a b c U O] (leaf G6.normal))))))) VT ?_)
 have h8:=VR.1;obtain ⟨D,rfl⟩: ∃D,d=D+1:=⟨d-1,VI⟩;have hD:(((D+1:Nat):Int)-1)=(D:Int):=VI;have hd:D<2^n:=VI;have hdi:=BZ h8 hd;have hpn:((2^n:Nat):Int)=2^n:=VS;simp only [hD] at*;have hs:=kP hlt;have hor:=Wd9 h8 hd hs.1;have hol:=Qa3 hd hs.1;simp only [VL.sat,U9,UG,hor,DX,H4,Bi]
 have hd2:(D:Int)<2^n:=by
  have h:(D:Int)<((2^n:Nat):Int):=Int.ofNat_lt.2 hd
  rwa [hpn] at h
 have Qp6:((D ||| 2^UO (quB n a b c D) n k:Nat):Int)<2^n:=by
  have h:((D ||| 2^UO (quB n a b c D) n k:Nat):Int)<((2^n:Nat):Int):=Int.ofNat_lt.2 hol
  rwa [hpn] at h
 have hk1:k+1<=quN n a b c D:=hlt;have h2s:(1:Int)<=2^UO (quB n a b c D) n k/\(2:Int)^UO (quB n a b c D) n k<=256:=uL VI;have h64:=hs.1;refine ⟨⟨⟨VI,VI⟩,by simp only [VK,Int.one_mul];omega⟩,⟨VI,Qp6⟩,hol,λh=>?_,λh=>?_⟩
 refine ⟨⟨VI,hd2⟩,hd,⟨VI,hd2⟩,hd,⟨λj hj=>?_,λ_ _=>trivial⟩,hk1⟩;simp only [lQ,if_pos h];exact uG;refine ⟨⟨λj hj=>?_,λ_ _=>trivial⟩,hk1⟩;simp only [lQ,if_neg h];have hk:k=quN n a b c ((d:Int)-1):=VI;subst hk;exact hQ
theorem Ji1(VR:sV n a b c U O):HP VN (.loop bC) (Za2 n a b c U O):=by
 refine uT [(.slot 9,903,189,2),(.cell 5 0,0,0,0)] (L:=[PP 117 (λd=>FH [d+1<2^n] (Za1 n a b c U O (d+1)))]) (Ae LC (Ae DZ (Ae PQ Aa))) (Ai Ab (Ag hZ Ac)) VX (UY (λcj hcj=>by
  have e:VQ bC 0=some (.rangeFunc (rfF (VQ bC 0)) (jF (VQ bC 0)) Jz2 Jw9):=VT;rw [e] at hcj;cases hcj;exact gM (λd=>B2 (λh=>Ji0 n a b c U O (d+1) VR (Nat.succ_le_succ (Ao _)) h)))) (X:=Nat) (Wj8 n a b c U O) (λd=>d<=pm n) (λd=>d) (CK n a b c U O) (x0:=pm n) (Am _) ?_ ?_ ?_
 rintro d;kernel_rfl;rintro d y E h;unfold CK at h;split at h;cases h;kernel_rfl;cases h;rintro Q hQ d hx;refine ⟨(d-1),?_⟩;(with_reducible refine D2 (t:=let W:=(quB n a b c ((↑(((d:Int)-1).toNat+1):Int)-1));let z4:=lS n a b c U O;let z1:=(z4 (2^n-1-(((d:Int)-1).toNat+1)));let z2:=eD n a b c U O;let z3:=W7 n a b c U O;(branch (decide ((d:Int)-1>=(0:Int))) (need [((d:Int)-1).toNat+1<2^n] (need [QP n a b c U O,QK,QD=QD,ZN,ZT,QG n,XX n,QG n,XX n,J1=J1,(d:Int)-1=(↑(((d:Int)-1).toNat+1):Int)-1,W9,(d:Int)-1=(↑(((d:Int)-1).toNat+1):Int)-1,2^n=2^n,∀(i:Nat),i<2^n->[iI (z4 (2^n-1-d) i)]=[iI (lQ W n U O (((d:Int)-1).toNat+1-1) z1 0 i)],2^n=2^n,∀(i:Nat),i<2^n->[iI (z2 (2^n) i)]=[iI (z2 (2^n) i)],W9,W5,WD,z3,WJ,WM,W5,WD,z3] (need [VK ((↑(((d:Int)-1).toNat+1):Int)-1-1)] (need [QP n a b c U O,QK,QD=QD,ZN,ZT,QG n,XX n,QG n,XX n,(↑(((d:Int)-1).toNat+1):Int)-1-1=(↑(d-1):Int)-1,2^n=2^n,∀(i:Nat),i<2^n->[iI (lQ W n U O (((d:Int)-1).toNat+1-1) z1 (quN n a b c ((↑(((d:Int)-1).toNat+1):Int)-1)) i)]=[iI (z4 (2^n-1-(d-1)) i)],2^n=2^n,∀(i:Nat),i<2^n->[iI (z2 (2^n) i)]=[iI (z2 (2^n) i)],W9,W5,WD,z3,WJ,WM,W5,WD,z3] (leaf G6.normal))))) (need [QP n a b c U O,QK,QD=QD,ZN,ZT,QG n,XX n,QG n,XX n,(d:Int)-1=((0:Nat):Int)-1,2^n=2^n,∀(i:Nat),i<2^n->[iI (z4 (2^n-1-d) i)]=[iI (z4 (2^n-1-0) i)],2^n=2^n,∀(i:Nat),i<2^n->[iI (z2 (2^n) i)]=[iI (z2 (2^n) i)],W9,W5,WD,z3,WJ,WM,W5,WD,z3] (leaf (G6.exit 6))))) VT ?_);simp only [Jr9,CK,VL.sat,GR] at hQ;simp only [VL.sat,U9,UV,GJ,UB,VK,UG,H4,FE,FJ,FR,GH,CK]
 have h8:=VR.1;have hpm:pm n=2^n-1:=rfl;rw [hpm] at hx ⊢;have hp:=uL h8;have hpn:((2^n:Nat):Int)=2^n:=VS;refine ⟨λh=>?_,λh=>?_⟩;obtain ⟨D,rfl⟩: ∃D,d=D+1:=⟨d-1,VI⟩;have e1:(((D+1:Nat):Int)-1).toNat=D:=VI;have e2:(((D+1:Nat):Int)-1)=(D:Int):=VI;have hd:D+1<2^n:=VI;have hdi:=BZ h8 hd;simp only [e2,DX,Bi,true_and];have hst:lQ (quB n a b c D) n U O D (lS n a b c U O (2^n-1-(D+1))) (quN n a b c D)=lS n a b c U O (2^n-1-D):=by
  have h1:2^n-1-D=(2^n-1-(D+1))+1:=VI;have h2:2^n-2-(2^n-1-(D+1))=D:=VI;rw [h1];simp only [lS,h2]
 refine ⟨hd,⟨λj hj=>rfl,λ_ _=>trivial⟩,VI,⟨λj hj=>by rw [hst],λ_ _=>trivial⟩,VI,VI⟩
 obtain rfl:d=0:=VI;exact ⟨⟨rfl,λj hj=>rfl,λ_ _=>trivial⟩,λE hE=>by cases hE;exact hQ⟩
end
theorem pZ{S:Code->UF->Prop}{c:Code}{s0 s1 s2:UF}(h0: ∀cj,VQ c 0=some cj->S cj s0)(h1: ∀cj,VQ c 1=some cj->S cj s1)(h2: ∀cj,VQ c 2=some cj->S cj s2):
  ∀j cj,VQ c j=some cj-> ∀sp,[s0,s1,s2][j]? =some sp->S cj sp:=by
 intro j cj hj sp hsp
 match j with
 | 0=>simp at hsp;subst hsp;exact h0 cj hj
 | 1=>simp at hsp;subst hsp;exact h1 cj hj
 | 2=>simp at hsp;subst hsp;exact h2 cj hj
 |j+3=>simp at hsp
section
variable (n:Nat)(a b c U O:Cg)
theorem Wd4(VR:sV n a b c U O):FP VN 84 [.agg [i 4,i 10,sls n a b c U O]] (.ro [i 4,i 10,sls n a b c U O,.lst 1 (2^n) (λz=>[i (eD n a b c U O (2^n) z)]),.lst 1 (2^n) (λz=>[i (lS n a b c U O (2^n-1) z)])]):=by
 refine D1 (L:=[Za5 n a b c U O,Za4 n a b c U O,Za2 n a b c U O]) (Ae LC (Ae DZ (Ae PQ Aa))) (Ai Ab (Ag hZ Ac)) VX Tryz.func84 (US Tryz.f84) (pZ (lpE (b:= .loop Jx1) VT<|(Ji4 n a b c U O VR).N) (lpE (b:= .loop bD) VT<|Ji3 n a b c U O VR) (lpE (b:= .loop bC) VT<|Ji1 n a b c U O VR)) (t:=let W:=W7 n a b c U O;(need [n<=8] (need [VK ((2:Int)^n-1+1)] (need [QP n a b c U O,QK,QD=QD,ZN,QG n,(0:Int)=((0:Nat):Int),0=0,∀(i:Nat),i<0->[]=[iI (-1:Int)],0=0,∀(i:Nat),i<0->[]=ZZ,W9,W5,WD,W,WJ,WM,W5,WD,W] (need [UE 0 (↑(2^n):Int)] (need [(0:Int).toNat<2^n] (need [n<=8] (need [VK ((2:Int)^n-1+1)] (need [QP n a b c U O,QK,QD=QD,ZN,QG n,XX n,QG n,(0:Int)=((0:Nat):Int),2^n=2^n,∀(i:Nat),i<2^n->[iI (-1:Int)]=[iI (-1:Int)],2^n=2^n,∀(i:Nat),i<2^n->H3 (decide (i=(0:Int).toNat)) [iI 0] ZZ=[iI (eD n a b c U O 0 i)],W9,W5,WD,W,WJ,WM,W5,WD,W] (need [n<=8] (need [(0:Int)<=2^n-1/\(2:Int)^n-1<(↑(2^n):Int)] (need [((2:Int)^n-1).toNat<2^n] (need [n<=8] (need [VK ((2:Int)^n-1-1)] (need [QP n a b c U O,QK,QD=QD,ZN,ZT,QG n,XX n,QG n,XX n,(2:Int)^n-1-1=(pm n:Int)-1,2^n=2^n,∀(i:Nat),i<2^n->H3 (decide (i=((2:Int)^n-1).toNat)) ZZ [iI (-1:Int)]=[iI (lS n a b c U O (2^n-1-pm n) i)],2^n=2^n,∀(i:Nat),i<2^n->[iI (eD n a b c U O (2^n) i)]=[iI (eD n a b c U O (2^n) i)],W9,W5,WD,W,WJ,WM,W5,WD,W] (leaf (AV.ro [iI 4,iI 10,Q0 n a b c U O,lst 1 (2^n) λz=>[iI (eD n a b c U O (2^n) z)],lst 1 (2^n) λz=>[iI (lS n a b c U O (2^n-1-0) z)]]))))))))))))))))) VT ?_
 have h8:=VR.1;have hp:=uL h8;have hpn:((2^n:Nat):Int)=2^n:=VS;have hp1:1<=2^n:=Cc;have hpt:((2:Int)^n-1).toNat=2^n-1:=VI;simp only [VL.sat,U9,UG,VK,hpt,Int.toNat_zero]
 (with_reducible repeat' first|apply Al|intro _)
 all_goals first|exact Ak|omega|with_reducible rfl|rfl|skip
 rename_i q hq;exact uG (F:=λ_=>101);have h1:((pm n:Nat):Int)=((2^n:Nat):Int)-1:=by
  unfold pm;omega
 rw [h1,hpn];rename_i q hq;rw [show 2^n-1-pm n=0 from Bs _];exact uG (F:=λ_=> -1)
def Xp9:UX:=λl=>some ([l=[.agg [i 4,i 10,sls n a b c U O]]],.ro [i 4,i 10,sls n a b c U O,.lst 1 (2^n) (λz=>[i (eD n a b c U O (2^n) z)]),.lst 1 (2^n) (λz=>[i (lS n a b c U O (2^n-1) z)])])
theorem d7(VR:sV n a b c U O):PH VN 84 (Xp9 n a b c U O):=by
 refine ⟨(UI Tryz.func84),?_⟩;intro avs ns res h hn;cases h;have e:=hn _ GB;subst e;exact Wd4 n a b c U O VR
def Xa0:UX:=λl=>some ([l=[.agg [i 4,i 10,sls n a b c U O]]],i (if zU n a b c U O then 0 else 1))
theorem v8(VR:n<=8):VO VN 83 (Xa0 n a b c U O):=by
 refine ⟨(UI Tryz.func83),?_⟩;intro avs ns res h hn;cases h;have e:=hn _ GB;subst e;exact NK n a b c U O VR
theorem Wd3(E F:Cg)(VR:n<=8):VW VN 85 [.ro [i 4,i 10,sls n a b c U O,.lst 1 (2^n) (λz=>[i (E z)]),.lst 1 (2^n) (λz=>[i (F z)])]] (bl (E (2^n-1) != 101)):=by
 refine U0 (L:=[]) (Ae LC Aa) VX Tryz.func85 (US Tryz.f85) U1 (t:=need [n<=8] (need [(0:Int)<=2^n-1/\(2:Int)^n-1<(↑(2^n):Int)] (leaf (RV.x (.bool (E ((2:Int)^n-1).toNat != 101)))))) VT ?_;have hp:=uL VR;have hpn:((2^n:Nat):Int)=2^n:=VS;have hp1:1<=2^n:=Cc;have hpt:((2:Int)^n-1).toNat=2^n-1:=VI;simp only [VL.sat,U9,UV,GJ,UB,UG,hpt]
 (with_reducible repeat' first|apply Al|intro _)
 all_goals first|exact VR|omega|rfl|trivial
def Xp8(E F:Cg):UX:=λl=>some ([l=[.ro [i 4,i 10,sls n a b c U O,.lst 1 (2^n) (λz=>[i (E z)]),.lst 1 (2^n) (λz=>[i (F z)])]]],bl (E (2^n-1) != 101))
theorem d6(E F:Cg)(VR:n<=8):VO VN 85 (Xp8 n a b c U O E F):=by
 refine ⟨(UI Tryz.func85),?_⟩;intro avs ns res h hn;cases h;have e:=hn _ GB;subst e;exact Wd3 n a b c U O E F VR
theorem cQ(E F:Cg)(d Z:Int)(VR:0<=d/\d<2^n):VW VN 87 [.ro [i 4,i 10,sls n a b c U O,.lst 1 (2^n) (λz=>[i (E z)]),.lst 1 (2^n) (λz=>[i (F z)])],i d,i Z] (bl (decide (E d.toNat<=Z)&&decide (F d.toNat>Z))):=by
 refine GV Tryz.func87 (t:=need [UE d (↑(2^n):Int)] (branch (decide (E (Int.toNat d)<=Z)) (need [UE d (↑(2^n):Int)] (leaf (RV.x (.bool (decide (F (Int.toNat d)>Z)))))) (leaf (RV.x (WK))))) VT ?_;have hpn:((2^n:Nat):Int)=2^n:=VS;simp only [VL.sat,U9,UV,GJ,UB,UG];have hd:d.toNat<2^n:=VI
 (with_reducible repeat' first|apply Al|intro _)
 all_goals first|omega|(rename_i h;rw [h];rfl)
def MB(E F:Cg):UX
 |[bk,.x (.int .i64 d),.x (.int .i64 Z)]=>some ([bk= .ro [i 4,i 10,sls n a b c U O,.lst 1 (2^n) (λz=>[i (E z)]),.lst 1 (2^n) (λz=>[i (F z)])],0<=d/\d<2^n],bl (decide (E d.toNat<=Z)&&decide (F d.toNat>Z)))
 |_=>none
theorem uK(E F:Cg):VO VN 87 (MB n a b c U O E F):=by
 refine ⟨(UI Tryz.func87),?_⟩;intro avs ns res h hn;unfold MB at h;split at h;cases h;rename_i bk d Z;have e:=hn _ GB;rw [e];exact cQ n a b c U O E F d Z (hn _ VS);cases h
end
def hoF(n:Nat)(a b c:Cg)(E F:Cg)(ow Z:Int):Nat->Int×Int
 | 0=>(1001,-1)
 |d+1=>match decide (E d<=Z)&&decide (F d>Z) with
  |true=>(min (hoF n a b c E F ow Z d).1 (stF a b c d n ow.toNat),max (hoF n a b c E F ow Z d).2 (stF a b c d n ow.toNat))
  |false=>hoF n a b c E F ow Z d
theorem nth6(F:Cg){q:Nat}(hq:q<6):U8 [F 0,F 1,F 2,F 3,F 4,F 5] q=F q:=by
 match q,hq with
 | 0,_=>rfl
 | 1,_=>rfl
 | 2,_=>rfl
 | 3,_=>rfl
 | 4,_=>rfl
 | 5,_=>rfl
section
variable (n:Nat)
abbrev WG(a:Cg)(b:Cg)(c:Cg)(U:Cg)(O:Cg)(E:Cg)(F:Cg):AV:=AV.ro [iI 4,iI 10,Q0 n a b c U O,lst 1 (2^n) λz=>[iI (E z)],lst 1 (2^n) λz=>[iI (F z)]]
abbrev JO:List AV:=[iI 0,iI 0]
def Zv9(a b c U O:Cg)(E F:Cg)(ow Z:Int):St:={σ:=[WG n a b c U O E F,iI ow,iI Z,top,top,top,ptr 0 0,ptr 2 0]++HH 5 [ZG n]++HH 25 [],m:=[(2,GN.cells 118 [iI 1001,iI (-1:Int)]),(0,GN.cells 118 JO)],nx:=8}
noncomputable def Jx3:Code:=U7 (VQ (U6 Tryz.f57) 0)
def Wk2(a b c U O:Cg)(E F:Cg)(ow Z:Int)(d:Nat):St:={σ:=H5 [(8,.top),(9,.top),(14,i d)] (Zv9 n a b c U O E F ow Z).σ,m:=[(2,.cells 118 [i (hoF n a b c E F ow Z (d)).1,i (hoF n a b c E F ow Z (d)).2]),(0,.cells 118 [i 0,i 0])],nx:=8}
def CO(a b c U O:Cg)(E F:Cg)(ow Z:Int)(d:Nat):G6->Option St
 | .exit 0=>some {σ:=H5 [(8,.top),(9,.top),(14,i (2^n))] (Zv9 n a b c U O E F ow Z).σ,m:=[(2,.cells 118 [i (hoF n a b c E F ow Z (2^n)).1,i (hoF n a b c E F ow Z (2^n)).2]),(0,.cells 118 [i 0,i 0])],nx:=8}
 |_=>none
def Js3(a b c U O:Cg)(E F:Cg)(ow Z:Int):CT:= .leaf (.exit 0,(CO n a b c U O E F ow Z 0 (.exit 0)).getD (Zv9 n a b c U O E F ow Z))
def Za7(a b c U O:Cg)(E F:Cg)(ow Z:Int):UF:=(HB (Wk2 n a b c U O E F ow Z (0)) (Js3 n a b c U O E F ow Z))
abbrev ZC:Prop:=ptr 2 0=ptr 2 0
theorem Jk2(a b c U O:Cg)(E F:Cg)(ow Z:Int)(VR:sV n a b c U O)(UD:0<=ow/\ow<4):G0 VN (.loop Jx3) (Za7 n a b c U O E F ow Z):=by
 refine HG (L:=[]) (Ae PQ (Ae DZ (Ae LC (Ae (uK n a b c U O E F) (Ae (qS n a b c U O VR) Aa))))) VX U1 (X:=Nat) (Wk2 n a b c U O E F ow Z) (λd=>d<=2^n) (λd=>2^n-d) (CO n a b c U O E F ow Z) (x0:=0) VS ?_ ?_ ?_;rintro d;kernel_rfl;rintro d y E h;unfold CO at h;split at h;cases h;kernel_rfl;cases h;rintro Q hQ d hx;refine ⟨(d+1),?_⟩;(with_reducible refine D2 (t:=let W:=(U8 [stF a b c (d:Int) n 0,stF a b c (d:Int) n 1,stF a b c (d:Int) n 2,stF a b c (d:Int) n 3,stF a b c (d:Int) n 4,stF a b c (d:Int) n 5] (Int.toNat ow));let z2:=hoF n a b c E F ow Z;let z1:=(z2 d);let z3:=(VY (WG n a b c U O E F));(branch (decide ((d:Int)<2^n-1+1)) (need [z3,(0:Int)<=(d:Int)/\(d:Int)<2^n] (branch (decide (E d<=Z)&&decide (F d>Z)) (need [W7 n a b c U O,(0:Int)<=(d:Int)/\(d:Int)<256] (need [UE ow 6] (need [VK ((d:Int)+1)] (need [z3,ow=ow,Z=Z,QK,ZC,QG n,(d:Int)+1=(↑(d+1):Int),min (Prod.fst z1) W=Prod.fst (z2 (d+1)),max (Prod.snd z1) W=Prod.snd (z2 (d+1)),QS,QS] (leaf G6.normal))))) (need [VK ((d:Int)+1)] (need [z3,ow=ow,Z=Z,QK,ZC,QG n,(d:Int)+1=(↑(d+1):Int),Prod.fst z1=Prod.fst (z2 (d+1)),Prod.snd z1=Prod.snd (z2 (d+1)),QS,QS] (leaf G6.normal))))) (need [z3,ow=ow,Z=Z,QK,ZC,QG n,(d:Int)=2^n,Prod.fst z1=Prod.fst (z2 (2^n)),Prod.snd z1=Prod.snd (z2 (2^n)),QS,QS] (leaf (G6.exit 0))))) VT ?_);simp only [Js3,CO,VL.sat,GR] at hQ;simp only [VL.sat,U9,UV,GJ,UB,VK,UG,H4,FE,FJ,FR,GH,CO]
 have h8:=VR.1;have hp:=uL h8;have hpn:((2^n:Nat):Int)=2^n:=VS;refine ⟨λh=>?_,λh=>?_⟩;have hd3:(d:Int)<2^n:=VI;have hd:d<2^n:=by
  have h':(d:Int)<((2^n:Nat):Int):=by rw [hpn];exact hd3
  exact Int.ofNat_lt.1 h'
 have hd2:=BZ h8 hd;have h6:=nth6 (stF a b c d n) (show ow.toNat<6 by omega)
 refine ⟨⟨VI,hd3⟩,λhb=>?_,λhb=>?_⟩;refine ⟨hd2,⟨VI,VI⟩,VI,⟨VI,?_,?_⟩,hd,VI⟩;simp only [hoF,hb];rw [h6];simp only [hoF,hb];rw [h6];refine ⟨VI,⟨VI,?_,?_⟩,hd,VI⟩;simp only [hoF,hb];simp only [hoF,hb];have hd:d=2^n:=by
  have h': ¬(d:Int)<((2^n:Nat):Int):=by rw [hpn];omega
  omega
 subst hd;exact ⟨⟨hpn,rfl,rfl⟩,λE hE=>by cases hE;exact hQ⟩
theorem Qm1(a b c U O:Cg)(E F:Cg)(ow Z:Int)(VR:sV n a b c U O)(UD:0<=ow/\ow<4):VW VN 57 [.ro [i 4,i 10,sls n a b c U O,.lst 1 (2^n) (λz=>[i (E z)]),.lst 1 (2^n) (λz=>[i (F z)])],i ow,i Z] (.agg [i (hoF n a b c E F ow Z (2^n)).1,i (hoF n a b c E F ow Z (2^n)).2]):=by
 refine U0 (L:=[Za7 n a b c U O E F ow Z]) (Ae PQ (Ae DZ (Ae LC (Ae (uK n a b c U O E F) (Ae (qS n a b c U O VR) Aa))))) VX Tryz.func57 (US Tryz.f57) (UY (lpE (b:= .loop Jx3) VT<|Jk2 n a b c U O E F ow Z VR UD)) (t:=let W:=hoF n a b c E F ow Z;(need [n<=8] (need [VK ((2:Int)^n-1+1)] (need [VY (WG n a b c U O E F),ow=ow,Z=Z,QK,ZC,QG n,(0:Int)=((0:Nat):Int),(1001:Int)=Prod.fst (W 0),(-1:Int)=Prod.snd (W 0),QS,QS] (leaf (RV.agg [RV.x (.int .i64 (Prod.fst (W (2^n)))),RV.x (.int .i64 (Prod.snd (W (2^n))))])))))) VT ?_
 have h8:=VR.1;have hp:=uL h8;have hpn:((2^n:Nat):Int)=2^n:=VS;simp only [VL.sat,U9,UV,GJ,UB,UG,VK,Prod.fst,Prod.snd]
 (with_reducible repeat' first|apply Al|intro _)
 all_goals first|exact Ak|exact h8|omega|rfl
def mF(a b c U O:Cg)(E F:Cg):UX
 |[bk,.x (.int .i64 ow),.x (.int .i64 Z)]=>some ([bk= .ro [i 4,i 10,sls n a b c U O,.lst 1 (2^n) (λz=>[i (E z)]),.lst 1 (2^n) (λz=>[i (F z)])],0<=ow/\ow<4],.agg [i (hoF n a b c E F ow Z (2^n)).1,i (hoF n a b c E F ow Z (2^n)).2])
 |_=>none
theorem v7(a b c U O:Cg)(E F:Cg)(VR:sV n a b c U O):VO VN 57 (mF n a b c U O E F):=by
 refine ⟨(UI Tryz.func57),?_⟩;intro avs ns res h hn;unfold mF at h;split at h;cases h;rename_i bk ow Z;have e:=hn _ GB;rw [e];exact Qm1 n a b c U O E F ow Z VR (hn _ VS);cases h
def zL(a b c U O:Cg):Bool:=eD n a b c U O (2^n) (2^n-1) != 101
end
theorem aN{n:Nat}{a b c U O:Cg}(h:sV n a b c U O):zU n a b c U O=true:=GK.2 h.2
section
variable (n:Nat)
abbrev XA(a:Cg)(b:Cg)(c:Cg)(U:Cg)(O:Cg):List AV:=[agg [iI 4,iI 10,Q0 n a b c U O]]
theorem Ql9(a b c U O:Cg)(rt:Bool)(VR:sV n a b c U O):UK VN 55 [.agg [i 4,i 10,sls n a b c U O],bl rt] (.branch (!rt) (.leaf (.tup [Bo.nilP,i 2])) (.branch (!zL n a b c U O) (.leaf (.tup [Bo.nilP,i 9])) (.leaf (.tup [.ro [i 4,i 10,sls n a b c U O,.lst 1 (2^n) (λz=>[i (eD n a b c U O (2^n) z)]),.lst 1 (2^n) (λz=>[i (lS n a b c U O (2^n-1) z)])],i 0])))):=by
 refine GS (L:=[]) (Ae (v8 n a b c U O VR.1) (Ae (d6 n a b c U O (eD n a b c U O (2^n)) (lS n a b c U O (2^n-1)) VR.1) Aa)) (Ai (Af (d7 n a b c U O VR) Ab) Ac) VX Tryz.func55 (US Tryz.f55) G7 (t:=let W:=(AV.ro [iI 4,iI 10,Q0 n a b c U O,lst 1 (2^n) λz=>[iI (eD n a b c U O (2^n) z)],lst 1 (2^n) λz=>[iI (lS n a b c U O (2^n-1) z)]]);(need [VY (XA n a b c U O)] (branch ((if zU n a b c U O=true then (0:Int) else (1:Int)) != 0) (leaf (tup [QD,iI (if zU n a b c U O=true then (0:Int) else (1:Int))])) (branch (!rt) (leaf (tup [QD,iI 2])) (need [VY (XA n a b c U O)] (need [VY ([W])] (branch (!eD n a b c U O (2^n) (2^n-1) != 101) (leaf (tup [QD,iI 9])) (leaf (tup [W,iI 0]))))))))) VT ?_
 intro Q hQ;simp only [VL.sat,U9,UG] at hQ ⊢;rw [aN VR];refine ⟨λh=>by simp at h,λ_=>⟨λh=>⟨.tup [Bo.nilP,i 2],⟨rfl,⟨rfl,rfl⟩,Ak⟩,hQ.1 h⟩,λh=>⟨λh2=>⟨.tup [Bo.nilP,i 9],⟨rfl,⟨rfl,rfl⟩,Ak⟩,(hQ.2 h).1 h2⟩,λh2=>⟨.tup [.ro [i 4,i 10,sls n a b c U O,.lst 1 (2^n) (λz=>[i (eD n a b c U O (2^n) z)]),.lst 1 (2^n) (λz=>[i (lS n a b c U O (2^n-1) z)])],i 0],⟨rfl,⟨rfl,rfl⟩,Ak⟩,(hQ.2 h).2 h2⟩⟩⟩⟩
theorem C4(a b c U O:Cg)(VR:sV n a b c U O):UK VN 55 [.agg [i 4,i 10,sls n a b c U O],.lit true] (.branch (!true) (.leaf (.tup [Bo.nilP,i 2])) (.branch (!zL n a b c U O) (.leaf (.tup [Bo.nilP,i 9])) (.leaf (.tup [.ro [i 4,i 10,sls n a b c U O,.lst 1 (2^n) (λz=>[i (eD n a b c U O (2^n) z)]),.lst 1 (2^n) (λz=>[i (lS n a b c U O (2^n-1) z)])],i 0])))):=by
 refine GS (L:=[]) (Ae (v8 n a b c U O VR.1) (Ae (d6 n a b c U O (eD n a b c U O (2^n)) (lS n a b c U O (2^n-1)) VR.1) Aa)) (Ai (Af (d7 n a b c U O VR) Ab) Ac) VX Tryz.func55 (US Tryz.f55) G7 (t:=let W:=(AV.ro [iI 4,iI 10,Q0 n a b c U O,lst 1 (2^n) λz=>[iI (eD n a b c U O (2^n) z)],lst 1 (2^n) λz=>[iI (lS n a b c U O (2^n-1) z)]]);(need [VY (XA n a b c U O)] (branch ((if zU n a b c U O=true then (0:Int) else (1:Int)) != 0) (leaf (tup [QD,iI (if zU n a b c U O=true then (0:Int) else (1:Int))])) (need [VY (XA n a b c U O)] (need [VY ([W])] (branch (!eD n a b c U O (2^n) (2^n-1) != 101) (leaf (tup [QD,iI 9])) (leaf (tup [W,iI 0])))))))) VT ?_
 intro Q hQ;simp only [VL.sat,U9,UG] at hQ ⊢;rw [aN VR]
 replace hQ:=hQ.2 rfl
 refine ⟨λh=>by simp at h,λ_=>⟨λh2=>⟨.tup [Bo.nilP,i 9],⟨rfl,⟨rfl,rfl⟩,Ak⟩,hQ.1 h2⟩,λh2=>⟨.tup [.ro [i 4,i 10,sls n a b c U O,.lst 1 (2^n) (λz=>[i (eD n a b c U O (2^n) z)]),.lst 1 (2^n) (λz=>[i (lS n a b c U O (2^n-1) z)])],i 0],⟨rfl,⟨rfl,rfl⟩,Ak⟩,hQ.2 h2⟩⟩⟩
theorem rH(a b c U O:Cg)(VR:sV n a b c U O):UK VN 55 [.agg [i 4,i 10,sls n a b c U O],.lit false] (.branch (!false) (.leaf (.tup [Bo.nilP,i 2])) (.branch (!zL n a b c U O) (.leaf (.tup [Bo.nilP,i 9])) (.leaf (.tup [.ro [i 4,i 10,sls n a b c U O,.lst 1 (2^n) (λz=>[i (eD n a b c U O (2^n) z)]),.lst 1 (2^n) (λz=>[i (lS n a b c U O (2^n-1) z)])],i 0])))):=by
 refine GS (L:=[]) (Ae (v8 n a b c U O VR.1) (Ae (d6 n a b c U O (eD n a b c U O (2^n)) (lS n a b c U O (2^n-1)) VR.1) Aa)) (Ai (Af (d7 n a b c U O VR) Ab) Ac) VX Tryz.func55 (US Tryz.f55) G7 (t:=need [VY (XA n a b c U O)] (branch ((if zU n a b c U O=true then (0:Int) else (1:Int)) != 0) (leaf (tup [QD,iI (if zU n a b c U O=true then (0:Int) else (1:Int))])) (leaf (tup [QD,iI 2])))) VT ?_
 intro Q hQ;simp only [VL.sat,U9,UG] at hQ ⊢;rw [aN VR];exact ⟨λh=>by simp at h,λ_=>⟨.tup [Bo.nilP,i 2],⟨rfl,⟨rfl,rfl⟩,Ak⟩,hQ.1 rfl⟩⟩
def MA(a b c U O:Cg):D9:=λl=>match l with
 |[bt,.x (.bool rt)]=>some (.need [bt= .agg [i 4,i 10,sls n a b c U O]] (.branch (!rt) (.leaf (.tup [Bo.nilP,i 2])) (.branch (!zL n a b c U O) (.leaf (.tup [Bo.nilP,i 9])) (.leaf (.tup [.ro [i 4,i 10,sls n a b c U O,.lst 1 (2^n) (λz=>[i (eD n a b c U O (2^n) z)]),.lst 1 (2^n) (λz=>[i (lS n a b c U O (2^n-1) z)])],i 0])))))
 |[bt,.lit rt]=>some (.need [bt= .agg [i 4,i 10,sls n a b c U O]] (.branch (!rt) (.leaf (.tup [Bo.nilP,i 2])) (.branch (!zL n a b c U O) (.leaf (.tup [Bo.nilP,i 9])) (.leaf (.tup [.ro [i 4,i 10,sls n a b c U O,.lst 1 (2^n) (λz=>[i (eD n a b c U O (2^n) z)]),.lst 1 (2^n) (λz=>[i (lS n a b c U O (2^n-1) z)])],i 0])))))
 |_=>none
theorem yZ(a b c U O:Cg)(VR:sV n a b c U O):Sx.Enters Tryz.prog 55/\ ∀avs t,MA n a b c U O avs=some t->UK VN 55 avs t:=by
 refine ⟨(UI Tryz.func55),?_⟩;intro avs t h;unfold MA at h;split at h;cases h;intro Q hQ;have e:=hQ.1
 dsimp only [U9] at e
 subst e;exact Ql9 n a b c U O _ VR Q hQ.2;cases h;intro Q hQ;have e:=hQ.1
 dsimp only [U9] at e
 subst e;rename_i rt;cases rt;exact rH n a b c U O VR Q hQ.2;exact C4 n a b c U O VR Q hQ.2;cases h
def dP{α:Type}(f:Nat->Option α):Nat->Nat->Option α
 |_,0=>none
 |s,k+1=>match f s with
  |some r=>some r
  |none=>dP f (s+1) k
def orQ(a b c U O:Cg)(g:Nat->Int->Option (List (Nat×Int)))(d:Nat)(Z:Int)(q:Nat):Option (List (Nat×Int)):=
 if max Z (U (UO (quB n a b c d) n q))>O (UO (quB n a b c d) n q) then none else
  match g (d ||| 2^UO (quB n a b c d) n q) (max Z (U (UO (quB n a b c d) n q))) with
  |some l=>some (l++[(UO (quB n a b c d) n q,max Z (U (UO (quB n a b c d) n q)))])
  |none=>none
end
def orF(n:Nat)(a b c U O:Cg):Nat->Nat->Int->Option (List (Nat×Int))
 | 0,_,_=>none
 |N+1,d,Z=>if d=2^n-1 then some [] else dP (orQ n a b c U O (orF n a b c U O N) d Z) 0 (quN n a b c d)
def orS(n:Nat)(a b c U O:Cg)(d:Nat)(Z:Int):Option (List (Nat×Int)):=orF n a b c U O (2^n) d Z
def orL(l:List (Nat×Int)):List Int:=l.map λp=>(p.1:Int)
def dyU:List (Nat×Int)->(Cg)->Nat->Int
 |[],f=>f
 |p::t,f=>dyU t (UR p.1 p.2 f)
section
variable (n:Nat)(a b c U O:Cg)
def orG(d:Nat)(Z:Int):List (Nat×Int):=(orS n a b c U O d Z).getD []
def orH(x:Value):Prop:= ∃(d:Nat) (Z:Int),x= .agg #[.int .i64 d,.int .i64 Z]/\d<2^n/\orS n a b c U O d Z=none
end
def orV:Value->Value:=λ_=> .bool true
def stK(x:Value):Prop:= ∃(d Z:Int),x= .agg #[.int .i64 d,.int .i64 Z]
theorem Wf2(l m:List Int): ∀k,U8 (l++m) k=if k<l.length then U8 l k else U8 m (k-l.length):=by
 induction l with
 |nil=>intro k;simp
 |cons x l ih=>
  intro k;cases k with
  |zero=>simp [U8]
  |succ k=>
   show U8 (l++m) k=_;rw [ih];simp only [Bj,Nat.add_lt_add_iff_right,Nat.add_sub_add_right];rfl
theorem ED: ∀{l:List Int} {k:Nat} (h:k<l.length),U8 l k=l[k]
 |x::l,0,h=>rfl
 |x::l,k+1,h=>ED (l:=l) (k:=k) (by simpa using h)
theorem dO{α:Type}{f:Nat->Option α}: ∀{k s:Nat},dP f s k=none↔ ∀j,s<=j->j<s+k->f j=none
 | 0,s=>⟨λ_ j h1 h2=>VI,λ_=>rfl⟩
 |k+1,s=>by
  unfold dP;cases h:f s with
  |some r=>exact ⟨λh1=>(by cases h1),λh1=>(by rw [h1 s (Am _) VI] at h;cases h)⟩
  |none=>
   simp only;rw [dO];refine ⟨λh1 j h2 h3=>?_,λh1 j h2 h3=>h1 j VI VI⟩;rcases (show j=s\/s+1<=j by omega) with rfl|h4
   exact h;exact h1 j h4 VI
theorem OG{α:Type}{f:Nat->Option α}{r:α}{q:Nat}(hq:f q=some r): ∀{k s:Nat},s<=q->q<s+k->(∀j,s<=j->j<q->f j=none)->dP f s k=some r
 | 0,s,h1,h2,_=>VI
 |k+1,s,h1,h2,h3=>by
  unfold dP;rcases (show s=q\/s<q by omega) with rfl|h4
  rw [hq];rw [h3 s (Am _) h4];exact OG hq h4 VI (λj h5 h6=>h3 j VI h6)
theorem I9{α:Type}{f g:Nat->Option α}: ∀{k s:Nat},(∀j,s<=j->j<s+k->f j=g j)->dP f s k=dP g s k
 | 0,_,_=>rfl
 |k+1,s,h=>by
  unfold dP;rw [h s (Am _) VI,I9 (λj h1 h2=>h j VI VI)]
theorem rS{n:Nat}(h:n<=8):2^n<=256:=by
 have:=uL h;have hpn:((2^n:Nat):Int)=2^n:=VS;omega
theorem Xv2{n:Nat}{a b c:Cg}{d q:Nat}(h8:n<=8)(hd:d<2^n)(hq:q<quN n a b c d):d<d ||| 2^UO (quB n a b c d) n q:=by
 have hs:=kP hq;have h2:=rS h8;have hb:MW d (UO (quB n a b c d) n q)=false:=by
  have:=hs.2;unfold quB at this;rw [GT] at this;have h1:=this.1;unfold quB;simpa using h1
 rw [Wq2 VI] at hb;have hle:d<=d ||| 2^UO (quB n a b c d) n q:=Nat.left_le_or
 rcases Nat.lt_or_eq_of_le hle with h|h;exact h;exfalso;have:(d ||| 2^UO (quB n a b c d) n q).testBit (UO (quB n a b c d) n q)=true:=by
  rw [Nat.testBit_or,Nat.testBit_two_pow_self,Bool.or_true]
 rw [←h,hb] at this;cases this
theorem cX{n:Nat}{a b c U O:Cg}(h8:n<=8): ∀(N N' d:Nat) (Z:Int),d<2^n->2^n-d<=N->2^n-d<=N'->orF n a b c U O N d Z=orF n a b c U O N' d Z
 | 0,_,d,_,h1,h2,_=>VI
 |N+1,0,d,_,h1,_,h3=>VI
 |N+1,N'+1,d,Z,h1,h2,h3=>by
  simp only [orF];split;rfl;refine I9 λq _ hq=>?_;have hq:q<quN n a b c d:=VI;have hg:=Xv2 h8 h1 hq;have hl:=Qa3 h1 (kP hq).1;unfold orQ;rw [cX h8 N N' _ _ hl VI VI]
section
variable {n:Nat}{a b c U O:Cg}
theorem o2(h8:n<=8){d:Nat}(Z:Int)(hd:d<2^n):orS n a b c U O d Z=if d=2^n-1 then some [] else dP (orQ n a b c U O (orS n a b c U O) d Z) 0 (quN n a b c d):=by
 have h:orS n a b c U O d Z=orF n a b c U O (2^n+1) d Z:=cX h8 _ _ _ _ hd VI VI;rw [h];rfl
theorem We1(h8:n<=8)(Z:Int):orS n a b c U O (2^n-1) Z=some []:=by
 have:=rS h8;have:0<2^n:=Nat.two_pow_pos n;rw [o2 h8 Z VI,if_pos rfl]
end
theorem Xi0(l:List (Nat×Int))(p:Nat×Int):orL (l++[p])=orL l++[(p.1:Int)]:=by simp [orL]
theorem Qd3: ∀(l:List (Nat×Int)) (p:Nat×Int) (f:Cg),dyU (l++[p]) f=UR p.1 p.2 (dyU l f)
 |[],_,_=>rfl
 |_::t,p,f=>Qd3 t p _
theorem Qa5{n:Nat}{a b c U O:Cg}: ∀(N d:Nat) (Z:Int) (l:List (Nat×Int)),orF n a b c U O N d Z=some l->l.length<=N
 | 0,_,_,_,h=>by simp [orF] at h
 |N+1,d,Z,l,h=>by
  simp only [orF] at h;split at h;cases h;exact Ao _;obtain ⟨q,hq⟩: ∃q,orQ n a b c U O (orF n a b c U O N) d Z q=some l:=by
   refine Classical.byContradiction λhno=>?_;rw [dO.2 (λj _ _=>?_)] at h;cases h;cases hj:orQ n a b c U O (orF n a b c U O N) d Z j with
   |none=>rfl
   |some r=>
    exfalso;have: ∀(f:Nat->Option (List (Nat×Int))) (k s:Nat) (r:List (Nat×Int)),dP f s k=some r-> ∃q,f q=some r:=by
     intro f k
     induction k with
     |zero=>intro s r h;cases h
     |succ k ih=>
      intro s r h;unfold dP at h;cases hf:f s with
      |some r'=>rw [hf] at h;cases h;exact ⟨s,hf⟩
      |none=>rw [hf] at h;exact ih _ _ h
    exact hno (this _ _ _ _ h)
  unfold orQ at hq;split at hq;cases hq;split at hq;rename_i l' hl';cases hq;have:=Qa5 N _ _ _ hl';rw [Be];simp;omega;cases hq
theorem Qa4(n:Nat)(a b c U O:Cg)(d:Nat)(Z:Int):(orG n a b c U O d Z).length<=2^n:=by
 unfold orG;cases h:orS n a b c U O d Z with
 |none=>exact Ao _
 |some l=>exact Qa5 _ _ _ _ h
theorem NS(d Z:Int):FA Tryz.prog 340 stK (.agg #[.int .i64 d,.int .i64 Z]) (.bool false):=by
 refine ⟨⟨343,4,(match Tryz.prog.underlying 343 with|some (.struct fs)=>fs|_=>#[]),VT,VT,?_,?_,?_⟩,by simp [Instr.sameBits]⟩
 intro b' w;kernel_rfl;rintro k' ⟨d',day',rfl⟩ w;refine ⟨d==d'&&(Z==day'&&true),xG (P:=Tryz.prog) (e:=PD w w) Op.maxDepth 343 (.agg [i d,i Z]) (.agg [i d',i day']) _ _ _ VT (Rep.aggL (U2.cons (.x _) (U2.one (.x _)))) (Rep.aggL (U2.cons (.x _) (U2.one (.x _)))),λh=>?_⟩;simp only [Bool.and_true,GT,beq_iff_eq] at h;obtain ⟨rfl,rfl⟩:=h;rfl;intro w;kernel_rfl
theorem We2{n:Nat}{a b c U O:Cg}{x:Value}(h:orH n a b c U O x):stK x:=by
 obtain ⟨d,Z,h,_⟩:=h;exact ⟨_,_,h⟩
section
variable (n:Nat)(a b c U O:Cg)(ea la:AV)
def OM(d:Nat)(Z:Int)(ord:List Int)(dy:Cg)(oa:Option Addr)(ol oc:Nat)(da:Option Addr)(dl dc:Nat):GY:=[(3,.cells 22 [.row 900]),(3,.cells 22 [.x (.slice oa ol oc)]),(900,.row 3 1 ord.length (λj=>[i (U8 ord j)])),(5,.memo (orH n a b c U O) orV),(7,.row 3 1 n (λj=>[i (dy j)])),(0,.keep 134 [.ro [i 4,i 10,sls n a b c U O,ea,la]]),(1,.keep 340 [.mp 5]),(2,.keep 341 [.fn (.func 237) [] [.ptr 0 0,.ptr 1 0,.ptr 2 0,.ptr 3 0,.ptr 4 0]]),(4,.cells 22 [.row 7]),(4,.cells 22 [.x (.slice da dl dc)])]
def OT_(d:Nat)(Z:Int)(ord:List Int)(dy:Cg)(oa:Option Addr)(ol oc:Nat)(da:Option Addr)(dl dc:Nat)(l:List (Nat×Int)):St:={σ:=[],m:=[(3,.cells 22 [.row 900]),(900,.row 3 1 (ord++orL l).length (λj=>[i (U8 (ord++orL l) j)])),(5,.memo (orH n a b c U O) orV),(7,.row 3 1 n (λj=>[i ((dyU l dy) j)])),(0,.keep 134 [.ro [i 4,i 10,sls n a b c U O,ea,la]]),(1,.keep 340 [.mp 5]),(2,.keep 341 [.fn (.func 237) [] [.ptr 0 0,.ptr 1 0,.ptr 2 0,.ptr 3 0,.ptr 4 0]]),(4,.cells 22 [.row 7]),(4,.cells 22 [.x (.slice da dl dc)])],nx:=901,sv:=[[.ptr 0 0,.ptr 1 0,.ptr 2 0,.ptr 3 0,.ptr 4 0]] }
def OF_(d:Nat)(Z:Int)(ord:List Int)(dy:Cg)(oa:Option Addr)(ol oc:Nat)(da:Option Addr)(dl dc:Nat):St:={σ:=[],m:=[(3,.cells 22 [.row 900]),(3,.cells 22 [.x (.slice oa ol oc)]),(900,.row 3 1 ord.length (λj=>[i (U8 ord j)])),(5,.memo (orH n a b c U O) orV),(7,.row 3 1 n (λj=>[i (dy j)])),(0,.keep 134 [.ro [i 4,i 10,sls n a b c U O,ea,la]]),(1,.keep 340 [.mp 5]),(2,.keep 341 [.fn (.func 237) [] [.ptr 0 0,.ptr 1 0,.ptr 2 0,.ptr 3 0,.ptr 4 0]]),(4,.cells 22 [.row 7]),(4,.cells 22 [.x (.slice da dl dc)])],nx:=901,sv:=[[.ptr 0 0,.ptr 1 0,.ptr 2 0,.ptr 3 0,.ptr 4 0]] }
end
def NQ:List (Nat×Nat)->Bool
 |[]=>true
 |(x,y)::t=>match Nat.beq x y with
  |true=>NQ t
  |false=>false
def Xj4:GN->Bool
 | .aka _ _ _ _ _=>true
 |_=>false
def oD:GY->GY
 |[]=>[]
 |(k,r)::t=>match Xj4 r with
  |true=>oD t
  |false=>(k,r)::oD t
def x8(k:Nat)(g:Ci):List Int:=(List.range k).map (col 0 g)
def mS(n:Nat)(a b c U O:Cg)(N:Nat):HY:=λavs m nx sv=>match avs with
 |[.agg [.x (.int .i64 d),.x (.int .i64 Z)],.ptr k W,.ptr g z1,.ptr f z2,.ptr o z3,.ptr dd z4]=>match DH m k,DH m g,DH m f,DH m o,DH m dd with
  |some (.keep Tk [.ro [c1,c2,sl,ea,la]]),some (.keep Tg [.mp mg]),some (.keep Tf [.fn (.func fg) [] [.ptr k' y0,.ptr g' y1,.ptr f' y2,.ptr o' y3,.ptr d' y4]]),some (.cells To [.row q]),some (.cells Td [.row r])=>match DH m mg,DH m q,DH m r with
   |some (.memo h ff),some (.row T1 s1 k1 g1),some (.row T2 s2 k2 g2)=>
    match NQ [(W,0),(z1,0),(z2,0),(z3,0),(z4,0),(y0,0),(y1,0),(y2,0),(y3,0),(y4,0),(Tk,134),(Tg,340),(Tf,341),(To,22),(Td,22),(fg,237),(k,k'),(g,g'),(f,f'),(o,o'),(dd,d'),(T1,3),(s1,1),(T2,3),(s2,1)]&&(!Nat.beq q r&& !Nat.beq o dd) with
    |true=>some (.needT [c1=i 4,c2=i 10,sl=sls n a b c U O,∀x,h x->orH n a b c U O x/\ff x=orV x,UH 1 k1 g1,UH 1 k2 g2,k2=n,0<=d/\d<2^n,2^n-d.toNat<=N,0<=Z/\Z<=100,k1<=1000]
      (.branch (orS n a b c U O d.toNat Z).isSome
       (.leaf (.lit true,(nx,.row 3 1 (x8 k1 g1++orL (orG n a b c U O d.toNat Z)).length (λj=>[i (U8 (x8 k1 g1++orL (orG n a b c U O d.toNat Z)) j)]))::qD (qD (qD (j7 (oD m) q) o (.cells 22 [.row nx])) r (.row 3 1 n (λj=>[i (dyU (orG n a b c U O d.toNat Z) (col 0 g2) j)]))) mg (.memo (orH n a b c U O) orV),nx+1,sv))
       (.leaf (.lit false,qD (qD (qD (oD m) q (.row 3 1 k1 g1)) r (.row 3 1 n g2)) mg (.memo (orH n a b c U O) orV),nx,sv))))
    |false=>none
   |_,_,_=>none
  |_,_,_,_,_=>none
 |_=>none
theorem Jo6{l:List Int}{x:Int}{j:Nat}(h:j<l.length+1):GD l.length (λj=>[i (U8 l j)]) (U3 1 [i x]) j=[i (U8 (l++[x]) j)]:=by
 rw [Wf2];show H3 (decide (j<l.length)) _ (U3 1 [i x] (j-l.length))=_;rw [show j-l.length=0 by omega]
 by_cases hj:j<l.length;rw [decide_eq_true hj,if_pos hj];rfl;rw [decide_eq_false hj,if_neg hj];rfl
theorem nM(n:Nat)(f:Cg):UH 1 n (λj=>[i (f j)]):=λj _=>rfl
theorem T5(l:List Int):x8 l.length (λj=>[i (U8 l j)])=l:=by
 unfold x8;apply List.ext_getElem?;intro j;rcases An j l.length with hj|hj;rw [Bn,List.getElem?_range hj,HZ VI];simp only [Bt,HD];unfold col;show U8 l j=l[j];exact ED VI;rw [Br (by simp;omega),Br VI]
abbrev QM:AV:=AV.fn (Fn.func 237) [] [ptr 0 0,ptr 1 0,ptr 2 0,ptr 3 0,ptr 4 0]
section
variable (n:Nat)(a b c U O:Cg)(ea la:AV)(d:Nat)(Z:Int)(ord:List Int)(dy:Cg)(oa:Option Addr)(ol oc:Nat)(da:Option Addr)(dl dc:Nat)
def Xd6(N:Nat):St:={σ:=[agg [iI (d:Int),iI Z],ptr 0 0,ptr 1 0,ptr 2 0,ptr 3 0,ptr 4 0,ptr 901 0,ptr 902 0]++HH 14 [AV.fn (Fn.func 171) [] [AV.ro [QQ n a b c U O ea la],AV.ro [iI (d:Int)]]]++HH 33 [],m:=[(902,GN.cells 4 [AV.x (WK)]),(901,GN.cells 343 [iI (d:Int),iI Z]),(3,GN.cells 22 [AV.row 900]),(3,GN.cells 22 [AV.x (.slice oa ol oc)]),(900,GN.row 3 1 (List.length ord) λj=>[iI (U8 ord j)]),(5,GN.memo (λx=>orH n a b c U O x) λa=>Value.bool true),(7,GN.row 3 1 n λj=>[iI (dy j)]),(0,GN.keep 134 [QQ n a b c U O ea la]),(1,GN.keep 340 [AV.mp 5]),(2,GN.keep 341 [QM]),(4,GN.cells 22 [AV.row 7]),(4,GN.cells 22 [AV.x (.slice da dl dc)])],nx:=915,sv:=[[ptr 0 0,ptr 1 0,ptr 2 0,ptr 3 0,ptr 4 0]] }
noncomputable def Jz1:Code:=SS (VQ (U6 Tryz.f237) 0)
noncomputable def Jw7:Code:=SR (VQ (U6 Tryz.f237) 0)
def Wj5(N:Nat)(k:Nat):St:={σ:=H5 [(8,.top),(9,.top),(10,.top)] (Xd6 n a b c U O ea la d Z ord dy oa ol oc da dl dc N).σ,m:=[(902,.cells 4 [.x (.bool false)]),(901,.cells 343 [i d,i Z]),(3,.cells 22 [.row 900]),(3,.cells 22 [.x (.slice oa ol oc)]),(900,.row 3 1 ord.length (λj=>[i (U8 ord j)])),(5,.memo (orH n a b c U O) orV),(7,.row 3 1 n (λj=>[i (dy j)])),(0,.keep 134 [.ro [i 4,i 10,sls n a b c U O,ea,la]]),(1,.keep 340 [.mp 5]),(2,.keep 341 [.fn (.func 237) [] [.ptr 0 0,.ptr 1 0,.ptr 2 0,.ptr 3 0,.ptr 4 0]]),(4,.cells 22 [.row 7]),(4,.cells 22 [.x (.slice da dl dc)])],nx:=920,sv:=[[.ptr 0 0,.ptr 1 0,.ptr 2 0,.ptr 3 0,.ptr 4 0]] }
def vC(N:Nat)(k:Nat):G6->Option St
 | .normal=>some {σ:=H5 [(8,.top),(9,.top),(10,.top)] (Xd6 n a b c U O ea la d Z ord dy oa ol oc da dl dc N).σ,m:=[(902,.cells 4 [.x (.bool false)]),(901,.cells 343 [i d,i Z]),(3,.cells 22 [.row 900]),(3,.cells 22 [.x (.slice oa ol oc)]),(900,.row 3 1 ord.length (λj=>[i (U8 ord j)])),(5,.memo (orH n a b c U O) orV),(7,.row 3 1 n (λj=>[i (dy j)])),(0,.keep 134 [.ro [i 4,i 10,sls n a b c U O,ea,la]]),(1,.keep 340 [.mp 5]),(2,.keep 341 [.fn (.func 237) [] [.ptr 0 0,.ptr 1 0,.ptr 2 0,.ptr 3 0,.ptr 4 0]]),(4,.cells 22 [.row 7]),(4,.cells 22 [.x (.slice da dl dc)])],nx:=920,sv:=[[.ptr 0 0,.ptr 1 0,.ptr 2 0,.ptr 3 0,.ptr 4 0]] }
 | .ret=>some {σ:=H5 [(8,.top),(9,.top),(10,.top)] (Xd6 n a b c U O ea la d Z ord dy oa ol oc da dl dc N).σ,m:=[(902,.cells 4 [.lit true]),(901,.cells 343 [i d,i Z]),(3,.cells 22 [.row 900]),(900,.row 3 1 (ord++orL (orG n a b c U O d Z)).length (λj=>[i (U8 (ord++orL (orG n a b c U O d Z)) j)])),(5,.memo (orH n a b c U O) orV),(7,.row 3 1 n (λj=>[i ((dyU (orG n a b c U O d Z) dy) j)])),(0,.keep 134 [.ro [i 4,i 10,sls n a b c U O,ea,la]]),(1,.keep 340 [.mp 5]),(2,.keep 341 [.fn (.func 237) [] [.ptr 0 0,.ptr 1 0,.ptr 2 0,.ptr 3 0,.ptr 4 0]]),(4,.cells 22 [.row 7]),(4,.cells 22 [.x (.slice da dl dc)])],nx:=920,sv:=[[.ptr 0 0,.ptr 1 0,.ptr 2 0,.ptr 3 0,.ptr 4 0]] }
 |_=>none
def Zs6(N:Nat):CT:= .branch (orS n a b c U O d Z).isSome (.leaf (.ret,(vC n a b c U O ea la d Z ord dy oa ol oc da dl dc N 0 .ret).getD (Xd6 n a b c U O ea la d Z ord dy oa ol oc da dl dc N))) (.leaf (.normal,(vC n a b c U O ea la d Z ord dy oa ol oc da dl dc N 0 .normal).getD (Xd6 n a b c U O ea la d Z ord dy oa ol oc da dl dc N)))
def Xz8(N:Nat):UF:=GI [(.cell 3 0,900,3,1)] (HB (Wj5 n a b c U O ea la d Z ord dy oa ol oc da dl dc N (0)) (Zs6 n a b c U O ea la d Z ord dy oa ol oc da dl dc N))
end
abbrev ZY:Prop:=AV.row 900=AV.row 900
abbrev J9:Prop:=AV.row 7=AV.row 7
abbrev JJ:Prop:=AV.mp 5=AV.mp 5
abbrev JT(ord:List Int):Prop:=List.length ord=List.length ord
abbrev KP:Prop:=ptr 901 0=ptr 901 0
abbrev KR:Prop:=ptr 902 0=ptr 902 0
theorem Jg9(n:Nat)(a b c U O:Cg)(ea la:AV)(d:Nat)(Z:Int)(ord:List Int)(dy:Cg)(oa:Option Addr)(ol oc:Nat)(da:Option Addr)(dl dc:Nat)(N:Nat)(VR:sV n a b c U O)(UD:d<2^n/\d≠2^n-1)(HF:2^n-d<=N+1)(DM:0<=Z/\Z<=100)(B6:ord.length<=1000)(z6:GA VN 237 (mS n a b c U O N)):HP VN (.rangeFunc (rfF (VQ (U6 Tryz.f237) 0)) (jF (VQ (U6 Tryz.f237) 0)) Jz1 Jw7) (Xz8 n a b c U O ea la d Z ord dy oa ol oc da dl dc N):=by
 refine P9 [(.cell 3 0,900,3,1)] (X:={R:=[(131,A6)],H:=[(237,(mS n a b c U O N))] }) (L:=[]) (Ae DZ (Ae LC Aa)) (Ai (Af NI Ab) (Ag z6 Ac)) VX U1 (V:=Nat) (Wj5 n a b c U O ea la d Z ord dy oa ol oc da dl dc N) (λk=>k<=(quN n a b c d)/\ ∀j,j<k->orQ n a b c U O (orS n a b c U O) d Z j=none) (λk=>k) (vC n a b c U O ea la d Z ord dy oa ol oc da dl dc N) (x0:=0) ⟨Ao _,λj h=>absurd h (Aq _)⟩ rfl ?_ ?_ ?_ ?_ (g:=171) (caps:=[.ro [.ro [i 4,i 10,sls n a b c U O,ea,la]],.ro [i d]]) VT VT (v6 ea la n a b c U O d VR (BZ VR.1 UD.1)) (λ_=>rfl) ?_;rintro k;kernel_rfl;rintro k y E h;unfold vC at h;split at h;cases h;kernel_rfl;cases h;kernel_rfl;cases h;rintro k;rfl;rintro k y E h;unfold vC at h;split at h;cases h;rfl;cases h;rfl;cases h;rintro Q hQ k hx;refine ⟨λhlt=>⟨(k+1),rfl,?_⟩,λPL=>?_⟩;(with_reducible refine D2 (t:=let z5:=(quB n a b c (d:Int));let z3:=(UO z5 n k);let z6:=(VY (AV.fn (Fn.func 171) [] [AV.ro [QQ n a b c U O ea la],AV.ro [iI (d:Int)]]));let z10:=(x8 (List.length ord) λj=>[i (U8 ord j)]);let z1:=(BitVec.toNat (BitVec.ofInt 64 (d:Int) ||| BitVec.ofInt 64 ((1:Int)*2^UO z5 n k)));let z8:=(IntKind.wrap IntKind.i64 (z1:Int));let z4:=(orG n a b c U O (Int.toNat z8) (max Z (U z3)));let z9:=(orG n a b c U O d Z);let z7:=orH n a b c U O;let W:=(need [UE z3 n] (need [UO z5 n k<n] (need [VY (agg [iI (d:Int),iI Z]),QK,WR,ZC,ZH,W9,KP,KR,z6,VY (AV.lit true),VY (d:Int),Z=Z,ZY,List.length (z10++orL z4)+1=List.length (ord++orL z9),∀(i:Nat),i<List.length (ord++orL z9)->GD (List.length ((x8 (List.length ord) λj=>[iI (U8 ord j)])++orL z4)) (λj=>[iI (U8 ((x8 (List.length ord) λj=>[iI (U8 ord j)])++orL z4) j)]) (U3 1 [iI (z3:Int)]) i=[iI (U8 (ord++orL z9) i)],∀(k:Value),z7 k->z7 k/\orV k=orV k,n=n,∀(i:Nat),i<n->H3 (decide (i=UO z5 n k)) [iI (max Z (U z3))] [iI (dyU z4 dy i)]=[iI (dyU z9 dy i)],ZO n a b c U O ea la,JJ,QM=QM,J9,VY (AV.x (.slice da dl dc)),QK,WR,ZC,ZH,W9] (leaf G6.ret))));let z2:=(need [VY (agg [iI (d:Int),iI Z]),QK,WR,ZC,ZH,W9,KP,KR,z6,false=false,VY (d:Int),Z=Z,ZY,VY (AV.x (.slice oa ol oc)),JT ord,∀(i:Nat),i<List.length ord->[iI (U8 ord i)]=[iI (U8 ord i)],∀(k:Value),z7 k->z7 k/\orV k=orV k,n=n,∀(i:Nat),i<n->[iI (dy i)]=[iI (dy i)],ZO n a b c U O ea la,JJ,QM=QM,J9,VY (AV.x (.slice da dl dc)),QK,WR,ZC,ZH,W9] (leaf G6.normal));(branch (decide (max Z (U z3)>O z3)) z2 (need [(0:Int)<=(z3:Int)/\(z3:Int)<=64,VK ((1:Int)*2^UO z5 n k)] (need [VY (iI 4),VY (iI 10),W7 n a b c U O,∀(x:Value),z7 x->z7 x/\orV x=orV x,UH 1 (List.length ord) λj=>[i (U8 ord j)],UH 1 n λj=>[i (dy j)],n=n,(0:Int)<=IntKind.wrap IntKind.i64 (z1:Int)/\IntKind.wrap IntKind.i64 (z1:Int)<2^n,2^n-Int.toNat z8<=N,(0:Int)<=max Z (U z3)/\max Z (U z3)<=100,List.length ord<=1000] (branch (Option.isSome (orS n a b c U O (Int.toNat z8) (max Z (U z3)))) (need [(List.length (z10++orL z4)+1)*8<=140737488355328,RH 1 (U3 1 [iI (z3:Int)])] (VL.may True W (VL.may True W W))) z2))))) VT ?_)
 simp only [Zs6,vC,VL.sat,GR] at hQ;obtain ⟨x1,x2⟩:=hx;have h8:=VR.1;have hd:=UD.1;have hd2:=BZ h8 hd;have hpn:((2^n:Nat):Int)=2^n:=VS;have h256:=rS h8;have hs:=kP hlt;have hor:=Wd9 h8 hd hs.1;have hol:=Qa3 hd hs.1;have hgt:=Xv2 h8 hd hlt;have hsv:=tP VR hs.1;have h2s:(1:Int)<=2^UO (quB n a b c d) n k/\(2:Int)^UO (quB n a b c d) n k<=256:=uL VI;have BT:orS n a b c U O d Z=dP (orQ n a b c U O (orS n a b c U O) d Z) 0 (quN n a b c d):=by
  rw [o2 h8 Z hd,if_neg UD.2]
 simp only [VL.sat,U9,UG,hor,DX,H4,T5]
 have Qp6:((d ||| 2^UO (quB n a b c d) n k:Nat):Int)<2^n:=by
  have h:((d ||| 2^UO (quB n a b c d) n k:Nat):Int)<((2^n:Nat):Int):=Int.ofNat_lt.2 hol
  rwa [hpn] at h
 have Xw1:orQ n a b c U O (orS n a b c U O) d Z k=none-> ∀j,j<k+1->orQ n a b c U O (orS n a b c U O) d Z j=none:=by
  intro h1 j h2;rcases (show j=k\/j<k by omega) with rfl|h3
  exact h1;exact x2 j h3
 have hQe:orQ n a b c U O (orS n a b c U O) d Z k=(if max Z (U (UO (quB n a b c d) n k))>O (UO (quB n a b c d) n k) then none else match orS n a b c U O (d ||| 2^UO (quB n a b c d) n k) (max Z (U (UO (quB n a b c d) n k))) with
   |some l=>some (l++[(UO (quB n a b c d) n k,max Z (U (UO (quB n a b c d) n k)))])
   |none=>none):=rfl
 have gE: ¬max Z (U (UO (quB n a b c d) n k))>O (UO (quB n a b c d) n k)->(orS n a b c U O (d ||| 2^UO (quB n a b c d) n k) (max Z (U (UO (quB n a b c d) n k)))).isSome=true->
   (orS n a b c U O d Z).isSome=true/\orG n a b c U O d Z=orG n a b c U O (d ||| 2^UO (quB n a b c d) n k) (max Z (U (UO (quB n a b c d) n k)))++[(UO (quB n a b c d) n k,max Z (U (UO (quB n a b c d) n k)))]:=by
  intro h1 h2;obtain ⟨l,hl⟩:=Option.isSome_iff_exists.1 h2;rw [if_neg h1,hl] at hQe;have h3:orS n a b c U O d Z=some (l++[(UO (quB n a b c d) n k,max Z (U (UO (quB n a b c d) n k)))]):=by
   rw [BT];exact OG (q:=k) hQe (Ao _) VI (λj _ h4=>x2 j h4)
  unfold orG;rw [h3,hl];exact ⟨rfl,rfl⟩
 have hk1:k+1<=quN n a b c d:=hlt;have hc1: ∀x:Int,∀(j:Nat),j<1-> ∀y,y∈U3 1 [iI x] j->AV.one y=true:=λx j _ y hy=>FG hy (by simp [AV.one,Value.oneCell'])
 have hGl:=Qa4 n a b c U O (d ||| 2^UO (quB n a b c d) n k) (max Z (U (UO (quB n a b c d) n k)))
 have hoL: ∀l:List (Nat×Int),(orL l).length=l.length:=λl=>by simp [orL]
 refine ⟨λh=>?_,λh=>?_⟩;have hno:orQ n a b c U O (orS n a b c U O) d Z k=none:=by
  rw [hQe,if_pos h]
 exact ⟨⟨λ_ _=>trivial,λ_ h=>h,λ_ _=>trivial⟩,hk1,Xw1 hno⟩;refine ⟨⟨⟨VI,VI⟩,by simp only [VK,Int.one_mul];omega⟩,⟨λ_ h=>h,nM _ _,nM _ _,⟨VI,Qp6⟩,VI,⟨VI,VI⟩,B6⟩,λh2=>?_,λh2=>?_⟩
 ·obtain ⟨g1,g2⟩:=gE VI h2;rw [g2];have hln:(ord++orL (orG n a b c U O (d ||| 2^UO (quB n a b c d) n k) (max Z (U (UO (quB n a b c d) n k))))).length<=2000:=by
   rw [Be,hoL];omega
  have hap:ord++orL (orG n a b c U O (d ||| 2^UO (quB n a b c d) n k) (max Z (U (UO (quB n a b c d) n k)))++[(UO (quB n a b c d) n k,max Z (U (UO (quB n a b c d) n k)))])=(ord++orL (orG n a b c U O (d ||| 2^UO (quB n a b c d) n k) (max Z (U (UO (quB n a b c d) n k)))))++[((UO (quB n a b c d) n k:Nat):Int)]:=by
   rw [Xi0,List.append_assoc]
  have hdy:dyU (orG n a b c U O (d ||| 2^UO (quB n a b c d) n k) (max Z (U (UO (quB n a b c d) n k)))++[(UO (quB n a b c d) n k,max Z (U (UO (quB n a b c d) n k)))]) dy=UR (UO (quB n a b c d) n k) (max Z (U (UO (quB n a b c d) n k))) (dyU (orG n a b c U O (d ||| 2^UO (quB n a b c d) n k) (max Z (U (UO (quB n a b c d) n k)))) dy):=Qd3 _ _ _
  rw [hap,hdy];refine ⟨⟨VI,hc1 _⟩,?_⟩;have hin:(0<=((UO (quB n a b c d) n k:Nat):Int)/\((UO (quB n a b c d) n k:Nat):Int)<n):=⟨VI,by have:=hs.1;omega⟩
  have hrw: ∀j,j<((ord++orL (orG n a b c U O (d ||| 2^UO (quB n a b c d) n k) (max Z (U (UO (quB n a b c d) n k)))))++[((UO (quB n a b c d) n k:Nat):Int)]).length->j<(ord++orL (orG n a b c U O (d ||| 2^UO (quB n a b c d) n k) (max Z (U (UO (quB n a b c d) n k))))).length+1:=λj hj=>by
   rw [Be] at hj;simpa using hj
  (with_reducible repeat' first|apply Al|intro _)
  all_goals first|exact Ak|exact hin.1|exact hin.2|exact hs.1|(rename_i E hE;cases hE;exact hQ.1 g1)|rfl|exact Jo6 (hrw _ (by assumption))|exact uG|(rw [Be (bs:=[_])];rfl)|assumption
 have hno:orQ n a b c U O (orS n a b c U O) d Z k=none:=by
  rw [hQe,if_neg VI];cases ho:orS n a b c U O (d ||| 2^UO (quB n a b c d) n k) (max Z (U (UO (quB n a b c d) n k))) with
  |none=>rfl
  |some l=>rw [ho] at h2;cases h2
 exact ⟨⟨λ_ _=>trivial,λ_ h=>h,λ_ _=>trivial⟩,hk1,Xw1 hno⟩;have hk:k=quN n a b c d:=VI;subst hk;simp only [Zs6,vC,VL.sat,GR] at hQ;refine hQ.2 ?_;rw [o2 VR.1 Z UD.1,if_neg UD.2,dO.2 (λj _ hj=>hx.2 j VI)];rfl
theorem EC{x y:Nat}{t:List (Nat×Nat)}:NQ ((x,y)::t)=true↔x=y/\NQ t=true:=by
 show (match Nat.beq x y with|true=>NQ t|false=>false)=true↔_
 cases h:Nat.beq x y with
 |true=>simp [GX h]
 |false=>
  simp only [Bw,false_iff,not_and];intro he;rw [he,Nat.beq_refl] at h;cases h
theorem EG{m:GY}{p:Nat×GN}(h:p∈oD m):p∈m/\Xj4 p.2=false:=by
 induction m with
 |nil=>cases h
 |cons q t ih=>
  obtain ⟨k,r⟩:=q;unfold oD at h;split at h;exact ⟨HI _ (ih h).1,(ih h).2⟩;rename_i hb;rcases GM.1 h with rfl|h;exact ⟨GB,hb⟩;exact ⟨HI _ (ih h).1,(ih h).2⟩
theorem L3{m:GY}{id:Nat}{p:Nat×GN}(h:p∈j7 m id):p∈m/\p.1≠id:=by
 induction m with
 |nil=>cases h
 |cons q t ih=>
  obtain ⟨k,r⟩:=q;unfold j7 at h;split at h;exact ⟨HI _ (ih h).1,(ih h).2⟩;rename_i hb;rcases GM.1 h with rfl|h;refine ⟨GB,?_⟩;rintro rfl;simp at hb;exact ⟨HI _ (ih h).1,(ih h).2⟩
theorem Ql3{e:UL}{w:World}{id o n:Nat}{f:Ci}(h:Ju3 e w id o 3 1 n f)(hr:UH 1 n f):w.ownsRow 0 3 1 (e.val id) n ((x8 n f).map (Value.int .i64)):=by
 obtain ⟨h2,hf,xs,h3,h4⟩:=h;have hx:xs=(x8 n f).map (Value.int .i64):=by
  apply List.ext_getElem?;intro j;unfold x8;have hl:xs.length=n*1:=h3.1;rcases An j n with hj|hj;have hx:xs[j]? =some xs[j]:=HZ VI;have e1:(f j)[0]? =some (iI (col 0 f j)):=by
   rw [hr j hj];rfl
  have:=h4 j 0 _ xs[j] hj e1 (by rw [show j*1+0=j by omega];exact hx)
  rw [hx,this.x_inv];simp [hj];rw [Br VI,Br (by simp;omega)]
 subst hx;exact h3
theorem qE{e:UL}{w:World}{id n:Nat}{f:Ci}(h:GG e w id (.row 3 1 n f))(hr:UH 1 n f):w.ownsRow 0 3 1 (e.val id) n ((x8 n f).map (Value.int .i64)):=Ql3 (o:=id) h.2 hr
theorem Qa2(n:Nat)(f:Cg):x8 n (λj=>[i (f j)])=(List.range n).map f:=rfl
theorem xD{e:UL}{w:World}{id n:Nat}{f:Cg}{ov:Value}{l:List Int}(hl:e.live id)(hv:e.val id=ov)(hob: ∀x,ov.ownBlock=some x->e.own x=some id)(HT:l.length=n)(hf: ∀j,j<n->l[j]? =some (f j))(ho:w.ownsRow 0 3 1 ov n (l.map (Value.int .i64))):GG e w id (.row 3 1 n (λj=>[i (f j)])):=by
 subst hv;refine ⟨hl,hob,λi O=>⟨rfl,λa ha=>by rw [PM.1 ha];exact .x _⟩,_,ho,λi j a v O ha hv=>?_⟩
 cases j with
 |zero=>
  simp only [List.getElem?_cons_zero,HD] at ha;subst ha;rw [show i*1+0=i by omega,Bn,hf i O] at hv
  simp only [Bt,HD] at hv;rw [←hv];exact .x _
 |succ j=>simp at ha
theorem Qa6{l:List Int}{j:Nat}(h:j<l.length):l[j]? =some (U8 l j):=by
 rw [ED h,HZ h]
theorem C3{n:Nat}{f:Cg}{j:Nat}(h:j<n):((List.range n).map f)[j]? =some (f j):=by
 rw [Bn,List.getElem?_range h];rfl
abbrev LQ(b:Nat):Value:= .pointer (some ⟨b,0,none⟩)
abbrev Zm2(bk bg bf bo bd:Nat):Value:= .func (.func 237) #[] #[LQ bk,LQ bg,LQ bf,LQ bo,LQ bd]
def Qj0(n:Nat)(a b c U O:Cg)(N:Nat):Prop:= ∀(ea la:AV) (d:Nat) (Z:Int) (ord:List Int) (dy:Cg) (oa:Option Addr) (ol oc:Nat) (da:Option Addr) (dl dc:Nat),d<2^n->2^n-d<=N->(0<=Z/\Z<=100)->ord.length<=1000->
 Xc8 VN 237 [.agg [i d,i Z],.ptr 0 0,.ptr 1 0,.ptr 2 0,.ptr 3 0,.ptr 4 0] (OM n a b c U O ea la d Z ord dy oa ol oc da dl dc) 901 [[.ptr 0 0,.ptr 1 0,.ptr 2 0,.ptr 3 0,.ptr 4 0]] (OT_ n a b c U O ea la d Z ord dy oa ol oc da dl dc (orG n a b c U O d Z)) (OF_ n a b c U O ea la d Z ord dy oa ol oc da dl dc) (orS n a b c U O d Z).isSome
theorem tV{w:World}{ov:Value}{n:Nat}{xs:List Value}(h:w.ownsRow 0 3 1 ov n xs){b:Nat}(hb:ov.ownBlock=some b):b<w.heap.size:=(h.lt b hb).2
theorem Wd8{n:Nat}{a b c U O:Cg}{N:Nat}(hs:Qj0 n a b c U O N){d:Nat}{Z:Int}{ord:List Int}{dy:Cg}(h1:d<2^n)(h2:2^n-d<=N)(h3:0<=Z/\Z<=100)(h4:ord.length<=1000)
  {w:World}{bk bg bf bo bd bm:Nat}{rb dv ov:Value}{ea la:AV}{R:UL}{es:Array MapEntry}{cn:Nat}(hgl:DI R w)
  (hk:w.heap[bk]? =some (.cells #[rb] 134 (0,0)))(hg:w.heap[bg]? =some (.cells #[.map (some bm)] 340 (0,0)))(hf:w.heap[bf]? =some (.cells #[Zm2 bk bg bf bo bd] 341 (0,0)))(hdb:w.heap[bd]? =some (.cells #[dv] 22 (0,0)))
  (ho:w.heap[bo]? =some (.cells #[ov] 22 (0,0)))(hm:w.heap[bm]? =some (.map es cn))(hes: ∀x∈es.toList,orH n a b c U O x.key/\x.val=orV x.key)
  (EX:w.ownsRow 0 3 1 ov ord.length (ord.map (Value.int .i64)))(Xw2:w.ownsRow 0 3 1 dv n (((List.range n).map dy).map (Value.int .i64)))(hov: ∃p q r,ov= .slice p q r)(hdv: ∃p q r,dv= .slice p q r)
  (hobm:bo≠bm)(hobd:bo≠bd)(hmbd:bm≠bd)(hoo: ∀x,ov.ownBlock=some x->x≠bo/\x≠bm/\x≠bd/\dv.ownBlock≠some x)(hdo: ∀x,dv.ownBlock=some x->x≠bo/\x≠bm/\x≠bd)
  (hR:Rep R w (.ro [i 4,i 10,sls n a b c U O,ea,la]) rb)(hro: ∀x,R.ro x->x<w.heap.size/\x≠bo/\x≠bm/\x≠bd/\ov.ownBlock≠some x/\dv.ownBlock≠some x)(rk:R.ro bk)(rg:R.ro bg)(rf:R.ro bf):
  Calls Tryz.prog 237 #[.agg #[.int .i64 d,.int .i64 Z],LQ bk,LQ bg,LQ bf,LQ bo,LQ bd] w λen w1=>en= .returned (.bool (orS n a b c U O d Z).isSome)/\w.heap.size<=w1.heap.size/\w1.os=w.os/\w1.tape=w.tape/\w1.output=w.output/\
   (∀x,x<w.heap.size->x≠bo->x≠bm->ov.ownBlock≠some x->dv.ownBlock≠some x->w1.heap[x]? =w.heap[x]?)/\(∃(es':Array MapEntry) (c':Nat),w1.heap[bm]? =some (.map es' c')/\ ∀x∈es'.toList,orH n a b c U O x.key/\x.val=orV x.key)/\
   ((orS n a b c U O d Z).isSome=false->w1.heap[bo]? =some (.cells #[ov] 22 (0,0))/\w1.ownsRow 0 3 1 ov ord.length (ord.map (Value.int .i64))/\w1.ownsRow 0 3 1 dv n (((List.range n).map dy).map (Value.int .i64)))/\
   ((orS n a b c U O d Z).isSome=true-> ∃y',w1.heap[bo]? =some (.cells #[y'] 22 (0,0))/\(∃p q r,y'= .slice p q r)/\w1.ownsRow 0 3 1 y' (ord++orL (orG n a b c U O d Z)).length ((ord++orL (orG n a b c U O d Z)).map (Value.int .i64))/\
    (∀x,y'.ownBlock=some x->w.heap.size<=x\/ov.ownBlock=some x)/\w1.ownsRow 0 3 1 dv n (((List.range n).map (dyU (orG n a b c U O d Z) dy)).map (Value.int .i64))):=by
 have hob:=(P5.1 ho).1;have hmb:=(P5.1 hm).1;have hbb:=(P5.1 hdb).1;obtain ⟨oa,ol,oc,hov⟩:=hov;obtain ⟨da,dl,dc,hdv⟩:=hdv
 let e0:UL:={ro:=λx=>x<w.heap.size/\x≠bo/\x≠bm/\x≠bd/\ov.ownBlock≠some x/\dv.ownBlock≠some x,own:=λx=>if x=bo then some 3 else if x=bm then some 5 else if x=bd then some 4 else if ov.ownBlock=some x then some 900 else if dv.ownBlock=some x then some 7 else none,live:=λk=>k<901,blk:=λk=>if k=0 then bk else if k=1 then bg else if k=2 then bf else if k=3 then bo else if k=4 then bd else bm,val:=λk=>if k=7 then dv else ov}
 let c0:Cx:={M:=λ_=>False,Φ:=λ_ _ _=>True,K:=λx o=>e0.ro x/\w.heap[x]? =some o,saved:=[[LQ bk,LQ bg,LQ bf,LQ bo,LQ bd]],sz:=w.heap.size}
 let w00:World:={w with heap:=#[] }
 have Wn9: ∀x,R.ro x->e0.ro x:=λx hx=>hro x hx;have o3:e0.own bo=some 3:=if_pos rfl;have o5:e0.own bm=some 5:=by simp [e0,Ne.symm hobm]
 have o4:e0.own bd=some 4:=by simp [e0,Ne.symm hobd,Ne.symm hmbd]
 have o9: ∀x,ov.ownBlock=some x->e0.own x=some 900:=by
  intro x hx;obtain ⟨q1,q2,q2',q3⟩:=hoo x hx;simp [e0,q1,q2,q2',hx]
 have o7: ∀x,dv.ownBlock=some x->e0.own x=some 7:=by
  intro x hx;obtain ⟨q1,q2,q2'⟩:=hdo x hx;have q3:ov.ownBlock≠some x:=λh=>(hoo x h).2.2.2 hx;simp [e0,q1,q2,q2',q3,hx]
 have hE:G4 e0 w00.heap.size w:=by
  refine ⟨λx hx=>?_,λx k hk=>⟨Ao _,?_⟩,λq p hp=>?_⟩;obtain ⟨q0,q1,q2,q2',q3,q4⟩:=hx;exact ⟨by simp [e0,q1,q2,q2',q3,q4],q0⟩
  have hk:(if x=bo then some 3 else if x=bm then some 5 else if x=bd then some 4 else if ov.ownBlock=some x then some 900 else if dv.ownBlock=some x then some 7 else none)=some k:=hk
  split at hk;rename_i h;rw [h];exact hob;split at hk;rename_i h;rw [h];exact hmb;split at hk;rename_i h;rw [h];exact hbb;split at hk;rename_i h;exact tV EX h;split at hk;rename_i h;exact tV Xw2 h;cases hk;obtain ⟨q1,q2⟩:=hgl q p hp;exact ⟨Wn9 _ q1,q2⟩
 have p0:Rep e0 w (.ptr 0 0) (LQ bk):= .ptr 0 0 (show 0<901 by omega)
 have p1:Rep e0 w (.ptr 1 0) (LQ bg):= .ptr 1 0 (show 1<901 by omega)
 have p2:Rep e0 w (.ptr 2 0) (LQ bf):= .ptr 2 0 (show 2<901 by omega)
 have p3:Rep e0 w (.ptr 3 0) (LQ bo):= .ptr 3 0 (show 3<901 by omega)
 have p4:Rep e0 w (.ptr 4 0) (LQ bd):= .ptr 4 0 (show 4<901 by omega)
 have p9:Rep e0 w (.row 900) ov:=by
  rw [hov];exact .row 900 _ _ _ (show 900<901 by omega) hov
 have p7:Rep e0 w (.row 7) dv:=by
  rw [hdv];exact .row 7 _ _ _ (show 7<901 by omega) hdv
 have p5:Rep e0 w (.mp 5) (.map (some bm)):= .mp 5 (show 5<901 by omega)
 have yR:U2 e0 w [.ptr 0 0,.ptr 1 0,.ptr 2 0,.ptr 3 0,.ptr 4 0] [LQ bk,LQ bg,LQ bf,LQ bo,LQ bd]:= .cons p0 (.cons p1 (.cons p2 (.cons p3 (.cons p4 (.nil _ _)))));have hfn:Rep e0 w (.fn (.func 237) [] [.ptr 0 0,.ptr 1 0,.ptr 2 0,.ptr 3 0,.ptr 4 0]) (Zm2 bk bg bf bo bd):= .fn _ [] _ [] _ rfl (λi a v h=>by simp at h) yR.1 yR.2
 have hrb:Rep e0 w (.ro [i 4,i 10,sls n a b c U O,ea,la]) rb:=by
  refine Rep.idf (e:=R) (e':=e0) Wn9 hR ?_;cases hR with
  |ro l vs b' o' g1 g2 g3 g4 g5 g6=>exact .ro _ g3
 have hM:UU e0 (OM n a b c U O ea la d Z ord dy oa ol oc da dl dc) w:=by
  intro p hp;unfold OM at hp;simp only [GM,D7,or_false] at hp;rcases hp with rfl|rfl|rfl|rfl|rfl|rfl|rfl|rfl|rfl|rfl;exact ⟨show 3<901 by omega,o3,[ov],ho,.cons p9 (.nil _ _)⟩
  exact ⟨show 3<901 by omega,o3,[ov],ho,.cons (by rw [hov];exact .x _) (.nil _ _)⟩
  exact xD (show 900<901 by omega) rfl o9 rfl (λj hj=>Qa6 hj) EX
  exact ⟨show 5<901 by omega,o5,es,cn,hm,hes⟩
  exact xD (show 7<901 by omega) rfl o7 VS (λj hj=>C3 hj) Xw2
  exact ⟨show 0<901 by omega,Wn9 _ rk,(hro _ rk).1,[rb],hk,.cons hrb (.nil _ _)⟩
  exact ⟨show 1<901 by omega,Wn9 _ rg,(hro _ rg).1,[.map (some bm)],hg,.cons p5 (.nil _ _)⟩
  exact ⟨show 2<901 by omega,Wn9 _ rf,(hro _ rf).1,[Zm2 bk bg bf bo bd],hf,.cons hfn (.nil _ _)⟩
  exact ⟨show 4<901 by omega,o4,[dv],hdb,.cons p7 (.nil _ _)⟩
  exact ⟨show 4<901 by omega,o4,[dv],hdb,.cons (by rw [hdv];exact .x _) (.nil _ _)⟩
 have hX:Xt c0 e0 [[.ptr 0 0,.ptr 1 0,.ptr 2 0,.ptr 3 0,.ptr 4 0]] [] w:=
  ⟨⟨λd hd=>(by cases hd),By⟩,λx o hk=>⟨hk.1,hk.1.1,hk.2⟩,L6.cons yR ⟨rfl,λi a v h=>by simp at h⟩,Am _⟩
 have hA:U2 e0 w [.agg [i d,i Z],.ptr 0 0,.ptr 1 0,.ptr 2 0,.ptr 3 0,.ptr 4 0] [.agg #[.int .i64 d,.int .i64 Z],LQ bk,LQ bg,LQ bf,LQ bo,LQ bd]:= .cons (Rep.aggL (.cons (.x _) (.cons (.x _) (.nil _ _)))) yR;have FF:=hs ea la d Z ord dy oa ol oc da dl dc h1 h2 h3 h4 c0 w00 (λ_=>False) e0 _ w hE ⟨rfl,rfl,rfl,Ao _,λk hk=>absurd hk (Aq _)⟩ hM (λk hk=>hk) (λ_ h=>h.elim) hX rfl hA;refine FF.mono ?_;rintro en w1 ⟨hen,e1,g1,g2,g3,g4,_,g6⟩;have hsz:w.heap.size<=w1.heap.size:=g6.size;have O9: ∀x,x<w.heap.size->x≠bo->x≠bm->x≠bd->ov.ownBlock≠some x->dv.ownBlock≠some x->e1.ro x/\w1.heap[x]? =w.heap[x]? :=by
  intro x hx n1 n2 n2' n3 n4;have hk:=g6.kept x w.heap[x] ⟨⟨hx,n1,n2,n2',n3,n4⟩,by simp [hx]⟩
  exact ⟨hk.1,by rw [hk.2.2];simp [hx]⟩
 have keptR: ∀x,R.ro x->w1.heap[x]? =w.heap[x]? :=λx hx=>(O9 x (hro x hx).1 (hro x hx).2.1 (hro x hx).2.2.1 (hro x hx).2.2.2.1 (hro x hx).2.2.2.2.1 (hro x hx).2.2.2.2.2).2;have hsv:(cond (orS n a b c U O d Z).isSome (OT_ n a b c U O ea la d Z ord dy oa ol oc da dl dc (orG n a b c U O d Z)) (OF_ n a b c U O ea la d Z ord dy oa ol oc da dl dc)).sv=[[.ptr 0 0,.ptr 1 0,.ptr 2 0,.ptr 3 0,.ptr 4 0]]:=by
  cases (orS n a b c U O d Z).isSome<;>rfl
 have hsd:=g6.saved;rw [hsv] at hsd;have hs1:=hsd.2 0 _ _ rfl rfl;obtain ⟨v0,l0,q,r0,hs1⟩:=hs1.cons_inv;obtain ⟨rfl,rfl⟩:=List.cons.inj q;obtain ⟨v1,l1,q,r1,hs1⟩:=hs1.cons_inv;obtain ⟨rfl,rfl⟩:=List.cons.inj q;obtain ⟨v2,l2,q,r2,hs1⟩:=hs1.cons_inv;obtain ⟨rfl,rfl⟩:=List.cons.inj q;obtain ⟨v3,l3,q,r3,hs1⟩:=hs1.cons_inv;obtain ⟨rfl,rfl⟩:=List.cons.inj q;obtain ⟨v4,l4,q,r4,_⟩:=hs1.cons_inv;obtain ⟨rfl,rfl⟩:=List.cons.inj q;have ptr_inv: ∀{k x:Nat},Rep e1 w1 (.ptr k 0) (LQ x)->e1.blk k=x:=by
  intro k x h;cases h;rfl
 have b1:=ptr_inv r1;have b3:=ptr_inv r3;have b4:=ptr_inv r4;have gD: ∀p,(p∈(OT_ n a b c U O ea la d Z ord dy oa ol oc da dl dc (orG n a b c U O d Z)).m/\p∈(OF_ n a b c U O ea la d Z ord dy oa ol oc da dl dc).m)->GG e1 w1 p.1 p.2:=by
  intro p hp;refine g3 p ?_;cases (orS n a b c U O d Z).isSome;exact hp.2;exact hp.1
 have hbd:w1.heap[bd]? =some (.cells #[dv] 22 (0,0)):=by
  obtain ⟨_,_,vs,q1,q2⟩:=gD (4,.cells 22 [.x (.slice da dl dc)]) ⟨by simp [OT_],by simp [OF_]⟩
  obtain ⟨x,xs,rfl,t1,q2⟩:=q2.cons_inv;obtain rfl:=q2.nil_inv;rw [b4,t1.x_inv,←hdv] at q1;exact q1
 have b7:e1.val 7=dv:=by
  obtain ⟨_,_,vs,q1,q2⟩:=gD (4,.cells 22 [.row 7]) ⟨by simp [OT_],by simp [OF_]⟩
  obtain ⟨x,xs,rfl,t1,q2⟩:=q2.cons_inv;obtain rfl:=q2.nil_inv;rw [b4,hbd] at q1;simp only [HD,Obj.cells.injEq] at q1;have:dv=x:=by simpa using q1.1
  subst this;clear q1 hbd;generalize dv=z at t1;cases t1 with
  |row _ a n c _ hv=>exact hv
 have hsm: ∀x,x<w.heap.size->x≠bo->x≠bm->ov.ownBlock≠some x->dv.ownBlock≠some x->w1.heap[x]? =w.heap[x]? :=by
  intro x hx n1 n2 n3 n4;rcases Classical.em (x=bd) with rfl|n5;rw [hbd,hdb];exact (O9 x hx n1 n2 n5 n3 n4).2
 have b5:e1.blk 5=bm:=by
  obtain ⟨_,_,_,vs,q1,q2⟩:=gD (1,.keep 340 [.mp 5]) ⟨by simp [OT_],by simp [OF_]⟩
  obtain ⟨x,xs,rfl,t1,q2⟩:=q2.cons_inv;obtain rfl:=q2.nil_inv;rw [b1,keptR _ rg,hg] at q1;simp only [HD,Obj.cells.injEq] at q1;have:Value.map (some bm)=x:=by simpa using q1.1
  subst this;cases t1;rfl
 have Jk6: ∃(es':Array MapEntry) (c':Nat),w1.heap[bm]? =some (.map es' c')/\ ∀x∈es'.toList,orH n a b c U O x.key/\x.val=orV x.key:=by
  obtain ⟨_,_,es',c',q1,q2⟩:=gD (5,.memo (orH n a b c U O) orV) ⟨by simp [OT_],by simp [OF_]⟩
  rw [b5] at q1;exact ⟨es',c',q1,q2⟩
 refine ⟨hen,hsz,g2.os,g2.tape,g2.output,hsm,Jk6,λhb=>?_,λhb=>?_⟩;rw [hb] at g3;have k3:=g3 (3,.cells 22 [.row 900]) (by simp [OF_])
 have k3':=g3 (3,.cells 22 [.x (.slice oa ol oc)]) (by simp [OF_])
 have k9:=g3 (900,.row 3 1 ord.length (λj=>[i (U8 ord j)])) (by simp [OF_])
 have k7:=g3 (7,.row 3 1 n (λj=>[i (dy j)])) (by simp [OF_])
 obtain ⟨_,_,vs,q1,q2⟩:=k3';obtain ⟨x,xs,rfl,t1,q2⟩:=q2.cons_inv;obtain rfl:=q2.nil_inv;have hx:x=ov:=by rw [hov];exact t1.x_inv
 subst hx;have q1':w1.heap[e1.blk 3]? =some (.cells #[x] 22 (0,0)):=q1;rw [b3] at q1';have h9:e1.val 900=x:=by
  obtain ⟨_,_,vs,u1,u2⟩:=k3;obtain ⟨y,ys,rfl,t2,u2⟩:=u2.cons_inv;obtain rfl:=u2.nil_inv;have u1':w1.heap[e1.blk 3]? =some (.cells #[y] 22 (0,0)):=u1;rw [b3,q1'] at u1';simp only [HD,Obj.cells.injEq] at u1';have:x=y:=by simpa using u1'.1
  subst this;clear q1' u1' q1 u1 t1;generalize x=z at t2;cases t2 with
  |row _ a n c _ hv=>exact hv
 have r9:=qE k9 (nM _ _);have r7:=qE k7 (nM _ _);rw [h9,T5] at r9;rw [b7,Qa2] at r7;exact ⟨q1',r9,r7⟩;rw [hb] at g3;have k3:=g3 (3,.cells 22 [.row 900]) (by simp [OT_])
 have k9:=g3 (900,.row 3 1 (ord++orL (orG n a b c U O d Z)).length (λj=>[i (U8 (ord++orL (orG n a b c U O d Z)) j)])) (by simp [OT_])
 have k7:=g3 (7,.row 3 1 n (λj=>[i (dyU (orG n a b c U O d Z) dy j)])) (by simp [OT_])
 have k5:=g3 (5,.memo (orH n a b c U O) orV) (by simp [OT_])
 have o3':=k3.2.1;rw [b3] at o3';have o5':=k5.2.1;rw [b5] at o5';obtain ⟨_,_,vs,q1,q2⟩:=k3;obtain ⟨y,ys,rfl,t1,q2⟩:=q2.cons_inv;obtain rfl:=q2.nil_inv;have q1':w1.heap[e1.blk 3]? =some (.cells #[y] 22 (0,0)):=q1;rw [b3] at q1';have hy:(∃p q r,y= .slice p q r)/\e1.val 900=y:=by
  cases t1 with
  |row _ a n c _ hv=>exact ⟨⟨a,n,c,rfl⟩,hv⟩
 have r9:=qE k9 (nM _ _);have r7:=qE k7 (nM _ _);rw [hy.2,T5] at r9;rw [b7,Qa2] at r7;refine ⟨y,q1',hy.1,r9,λz hz=>?_,r7⟩;rcases An z w.heap.size with hlt|hge;refine .inr ?_;have hoz:e1.own z=some 900:=k9.2.1 z (by show (e1.val 900).ownBlock=some z;rw [hy.2];exact hz)
 refine Classical.byContradiction λn3=>?_;have n1:z≠bo:=by
  rintro rfl;rw [o3'] at hoz;cases hoz
 have n2:z≠bm:=by
  rintro rfl;rw [o5'] at hoz;cases hoz
 have n4:dv.ownBlock≠some z:=by
  intro h;have:=k7.2.1 z (by show (e1.val 7).ownBlock=some z;rw [b7];exact h)
  rw [this] at hoz;cases hoz
 have n5:z≠bd:=by
  rintro rfl;have:=(g3 (4,.cells 22 [.row 7]) (by simp [OT_])).2.1
  rw [b4] at this;rw [this] at hoz;cases hoz
 have hk:=O9 z hlt n1 n2 n5 n3 n4;rw [(g1.apart z hk.1).1] at hoz;cases hoz;exact .inl hge
theorem LH{e e':UL}{w w1:World}{id:Nat}{r:GN}(st:Step e e' w w1)(H6: ∀x,e.own x=some id->e'.own x=some id/\w1.heap[x]? =w.heap[x]?)(hna:Xj4 r=false)(h:GG e w id r):GG e' w1 id r:=by
 cases r with
 |cells T l=>
  obtain ⟨h1,h2,vs,h3,h4⟩:=h;obtain ⟨l1,l2,l3⟩:=st.live id h1;obtain ⟨k1,k2⟩:=H6 _ h2;exact ⟨l1,by rw [l2];exact k1,vs,by rw [l2,k2];exact h3,h4.step st⟩
 |ints T pre n f=>
  obtain ⟨h1,h2,vs,h3,h4⟩:=h;obtain ⟨l1,l2,l3⟩:=st.live id h1;obtain ⟨k1,k2⟩:=H6 _ h2;exact ⟨l1,by rw [l2];exact k1,vs,by rw [l2,k2];exact h3,h4.step st⟩
 |memo g f=>
  obtain ⟨h1,h2,es,c,h3,h4⟩:=h;obtain ⟨l1,l2,l3⟩:=st.live id h1;obtain ⟨k1,k2⟩:=H6 _ h2;exact ⟨l1,by rw [l2];exact k1,es,c,by rw [l2,k2];exact h3,h4⟩
 |keep T l=>exact LE st h
 |aka _ _ _ _ _=>cases hna
 |row T sz n f=>
  obtain ⟨h1,h2,hf,ys,h3,h4⟩:=h;obtain ⟨l1,l2,l3⟩:=st.live id h1;refine ⟨l1,λx hx=>(H6 _ (h2 x (by rw [←l3];exact hx))).1,hf,ys,?_,λi j a v O ha hv=>(h4 i j a v O ha hv).step st⟩
  rw [l3];refine ⟨h3.1,h3.2.imp (λh=>h) ?_⟩;rintro ⟨g',cap',cur',hv,hg,hh,rest⟩;exact ⟨g',cap',cur',hv,hg,(H6 g' (h2 g' (by rw [hv];rfl))).2.trans hh,rest⟩
theorem I2{e:UL}{w:World}{id n:Nat}{g:Ci}{ov:Value}(hr:UH 1 n g)(hl:e.live id)(hv:e.val id=ov)(hob: ∀x,ov.ownBlock=some x->e.own x=some id)(ho:w.ownsRow 0 3 1 ov n (((List.range n).map (col 0 g)).map (Value.int .i64))):GG e w id (.row 3 1 n g):=by
 have h:=xD (f:=col 0 g) hl hv hob VS (λj hj=>C3 hj) ho;obtain ⟨h1,h2,h3,xs,h4,h5⟩:=h;refine ⟨h1,h2,λj hj=>?_,xs,h4,λi j a v O ha hv=>?_⟩;rw [hr j hj];exact h3 j hj;rw [hr i O] at ha;exact h5 i j a v O ha hv
theorem cW{n:Nat}{a b c U O:Cg}{N:Nat}(hs:Qj0 n a b c U O N):GA VN 237 (mS n a b c U O N):=by
 refine ⟨(UI Tryz.func237),?_⟩;intro avs m nx sv tr ht Q hQ cx w0 TT e ds args w hE hB hm hlv LO hxt hr;unfold mS at ht;split at ht;rename_i d Z k W g z1 f z2 o z3 dd z4;split at ht;rename_i Tk c1 c2 sl ea la Tg mg Tf fg k' y0 g' y1 f' y2 o' y3 d' y4 To q Td r h1 h2 h3 h4 h5;split at ht;rename_i hh ff T1 s1 k1 g1 T2 s2 k2 g2 h6 h7 h8;split at ht;rename_i hb;rw [GT] at hb;obtain ⟨hb1,hb2⟩:=hb;simp only [EC] at hb1;obtain ⟨rfl,rfl,rfl,rfl,rfl,rfl,rfl,rfl,rfl,rfl,rfl,rfl,rfl,rfl,rfl,rfl,rfl,rfl,rfl,rfl,rfl,rfl,rfl,rfl,rfl,_⟩:=hb1;rw [GT] at hb2;have hqr:q≠r:=by
  rintro rfl;simp at hb2
 have hod:o≠dd:=by
  rintro rfl;simp at hb2
 cases ht;obtain ⟨hn,hq⟩:=VL.sat_needT hQ;have hn:=GC hn;have n1:c1=i 4:=hn _ VS;have n2:c2=i 10:=hn _ VS;have n3:sl=sls n a b c U O:=hn _ VS;have n4: ∀x,hh x->orH n a b c U O x/\ff x=orV x:=hn _ VS;have n6:UH 1 k1 g1:=hn _ VS;have n7:UH 1 k2 g2:=hn _ VS;have n8:k2=n:=hn _ VS;have n9:0<=d/\d<2^n:=hn _ VS;have n10:2^n-d.toNat<=N:=hn _ VS;have n11:0<=Z/\Z<=100:=hn _ VS;have n12:k1<=1000:=hn _ VS;clear hn hQ;subst n1 n2 n3 n8;obtain ⟨d,rfl⟩: ∃d':Nat,d=d':=⟨d.toNat,VI⟩;simp only [DX] at hq n10;have hpn:((2^k2:Nat):Int)=2^k2:=VS;have hdn:d<2^k2:=by
  have h:=n9.2;rw [←hpn] at h;exact Int.ofNat_lt.1 h
 obtain ⟨v0,l1,rfl,r1,hr⟩:=hr.cons_inv;obtain ⟨v1,l1,rfl,r2,hr⟩:=hr.cons_inv;obtain ⟨v2,l2,rfl,r3,hr⟩:=hr.cons_inv;obtain ⟨v3,l3,rfl,r4,hr⟩:=hr.cons_inv;obtain ⟨v4,l4,rfl,r5,hr⟩:=hr.cons_inv;obtain ⟨v5,l5,rfl,r6,hr⟩:=hr.cons_inv;obtain rfl:=hr.nil_inv;obtain ⟨us,rfl,ru⟩:=r1.agg_inv;obtain ⟨u1,us1,rfl,q1,ru⟩:=ru.cons_inv;obtain ⟨u2,us2,rfl,q2,ru⟩:=ru.cons_inv;obtain rfl:=ru.nil_inv;obtain rfl:=q1.x_inv;obtain rfl:=q2.x_inv;have z: ∀{k:Nat} {x:Value},Rep e w (.ptr k 0) x->x=LQ (e.blk k):=by
  intro k x h;cases h;rfl
 obtain rfl:=z r2;obtain rfl:=z r3;obtain rfl:=z r4;obtain rfl:=z r5;obtain rfl:=z r6;have m4:=UZ h4;obtain ⟨_,ro1,_,vs1,hp1,e1⟩:=hm _ (UZ h1);obtain ⟨rb,xs,rfl,t1,e1⟩:=e1.cons_inv;obtain rfl:=e1.nil_inv;obtain ⟨_,ro2,_,vs2,hp2,e2⟩:=hm _ (UZ h2);obtain ⟨mv,xs,rfl,t2,e2⟩:=e2.cons_inv;obtain rfl:=e2.nil_inv;have hmv:mv= .map (some (e.blk mg)):=by
  cases t2;rfl
 subst hmv;obtain ⟨_,ro3,_,vs3,hp3,e3⟩:=hm _ (UZ h3);obtain ⟨fv,xs,rfl,t3,e3⟩:=e3.cons_inv;obtain rfl:=e3.nil_inv;obtain ⟨us,us',rfl,t6,t7⟩:=t3.fn_inv;obtain rfl:=t6.nil_inv;obtain ⟨x1,xs,rfl,s1,t7⟩:=t7.cons_inv;obtain ⟨x2,xs,rfl,s2,t7⟩:=t7.cons_inv;obtain ⟨x3,xs,rfl,s3,t7⟩:=t7.cons_inv;obtain ⟨x4,xs,rfl,s4,t7⟩:=t7.cons_inv;obtain ⟨x5,xs,rfl,s5,t7⟩:=t7.cons_inv;obtain rfl:=t7.nil_inv;obtain rfl:=z s1;obtain rfl:=z s2;obtain rfl:=z s3;obtain rfl:=z s4;obtain rfl:=z s5;obtain ⟨live4,own4,vs4,hp4,e4⟩:=hm _ m4;obtain ⟨ov,xs,rfl,t4,e4⟩:=e4.cons_inv;obtain rfl:=e4.nil_inv;obtain ⟨_,own5,vs5,hp5,e5⟩:=hm _ (UZ h5);obtain ⟨dv,xs,rfl,t5,e5⟩:=e5.cons_inv;obtain rfl:=e5.nil_inv;have hov:(∃p q r,ov= .slice p q r)/\e.val q=ov:=by
  cases t4 with
  |row _ a n c _ hv=>exact ⟨⟨a,n,c,rfl⟩,hv⟩
 have hdv:(∃p q r,dv= .slice p q r)/\e.val r=dv:=by
  cases t5 with
  |row _ a n c _ hv=>exact ⟨⟨a,n,c,rfl⟩,hv⟩
 obtain ⟨live6,own6,es,cn,hp6,hes0⟩:=hm _ (UZ h6);have hes: ∀x∈es.toList,orH k2 a b c U O x.key/\x.val=orV x.key:=λx hx=>by
  obtain ⟨g1,g2⟩:=hes0 x hx;exact ⟨(n4 _ g1).1,by rw [g2,(n4 _ g1).2]⟩
 have H7:=hm _ (UZ h7);have H8:=hm _ (UZ h8);have R7:=qE H7 n6;have R8:=qE H8 n7;simp only at hp1 hp2 hp3 hp4 hp5 hp6 own4 own6 live4 live6 R7 R8 ro1 ro2 ro3 own5;rw [hov.2] at R7;rw [hdv.2] at R8;have own7: ∀x,ov.ownBlock=some x->e.own x=some q:=λx hx=>H7.2.1 x (by show (e.val q).ownBlock=some x;rw [hov.2];exact hx)
 have own8: ∀x,dv.ownBlock=some x->e.own x=some r:=λx hx=>H8.2.1 x (by show (e.val r).ownBlock=some x;rw [hdv.2];exact hx)
 have live7:e.live q:=H7.1;have live8:e.live r:=H8.1;have ho_q:o≠q:=by
  rintro rfl;rw [h7] at h4;cases h4
 have ho_r:o≠r:=by
  rintro rfl;rw [h8] at h4;cases h4
 have ho_m:o≠mg:=by
  rintro rfl;rw [h6] at h4;cases h4
 have hm_q:mg≠q:=by
  rintro rfl;rw [h7] at h6;cases h6
 have hm_r:mg≠r:=by
  rintro rfl;rw [h8] at h6;cases h6
 have hd_q:dd≠q:=by
  rintro rfl;rw [h7] at h5;cases h5
 have hd_r:dd≠r:=by
  rintro rfl;rw [h8] at h5;cases h5
 have hd_m:dd≠mg:=by
  rintro rfl;rw [h6] at h5;cases h5
 have dne: ∀{x y j j':Nat},e.own x=some j->e.own y=some j'->j≠j'->x≠y:=by
  rintro x y j j' hx hy hj rfl;rw [hx] at hy;exact hj (Bb hy)
 have HT:(x8 k1 g1).length=k1:=by simp [x8]
 have hro: ∀x,e.ro x->x<w.heap.size/\x≠e.blk o/\x≠e.blk mg/\x≠e.blk dd/\ov.ownBlock≠some x/\dv.ownBlock≠some x:=by
  intro x hx;obtain ⟨hx1,hx2⟩:=hE.apart x hx;have nx_: ∀{y j:Nat},e.own y=some j->x≠y:=by
   rintro y j hy rfl;rw [hx1] at hy;cases hy
  exact ⟨hx2,nx_ own4,nx_ own6,nx_ own5,λh=>(nx_ (own7 x h)) rfl,λh=>(nx_ (own8 x h)) rfl⟩
 have FF:=Wd8 hs (ord:=x8 k1 g1) (dy:=col 0 g2) hdn n10 n11 (by rw [HT];exact n12) (w:=w) (bk:=e.blk k) (bg:=e.blk g) (bf:=e.blk f) (bo:=e.blk o) (bd:=e.blk dd) (bm:=e.blk mg) (R:=e) hE.glob
  hp1 hp2 hp3 hp5 hp4 hp6 hes (by rw [HT];exact R7) R8 hov.1 hdv.1 (dne own4 own6 ho_m) (dne own4 own5 hod) (dne own6 own5 (Ne.symm hd_m)) (λx hx=>⟨dne (own7 x hx) own4 (Ne.symm ho_q),dne (own7 x hx) own6 (Ne.symm hm_q),dne (own7 x hx) own5 (Ne.symm hd_q),λh=>dne (own7 x hx) (own8 x h) hqr rfl⟩)
  (λx hx=>⟨dne (own8 x hx) own4 (Ne.symm ho_r),dne (own8 x hx) own6 (Ne.symm hm_r),dne (own8 x hx) own5 (Ne.symm hd_r)⟩) t1 hro ro1 ro2 ro3
 refine FF.mono ?_;rintro en w1 ⟨rfl,hsz,q1,q2,q3,zX,⟨es',c',hmp,hes'⟩,hF,hT⟩;rw [HT] at hF;have hlt: ∀{x j:Nat},e.own x=some j->w0.heap.size<=x:=λh=>(hE.owned _ _ h).1;have hBel:Below w0.heap.size w0 w1:=by
  refine ⟨q1.trans hB.os,q2.trans hB.tape,q3.trans hB.output,Ar hB.size hsz,λx hx=>?_⟩;have ne_: ∀{y j:Nat},e.own y=some j->x≠y:=λh he=>by have:=hlt h;omega
  rw [zX x (xP hx hB.size) (ne_ own4) (ne_ own6) (λh=>ne_ (own7 x h) rfl) (λh=>ne_ (own8 x h) rfl)];exact hB.block x hx
 have Xk6: ∀x,x<w.heap.size->e.ro x->w1.heap[x]? =w.heap[x]? :=λx hx hx2=>zX x hx (hro x hx2).2.1 (hro x hx2).2.2.1 (hro x hx2).2.2.2.2.1 (hro x hx2).2.2.2.2.2;cases hb:(orS k2 a b c U O d Z).isSome with
 |false=>
  have hq:=hq.2 hb;obtain ⟨f1,f2,f3⟩:=hF hb;have st:Step e e w w1:=⟨λx hx hx2=>⟨hx2,Xk6 x hx hx2⟩,λ_ h=>⟨h,rfl,rfl⟩,hsz⟩;refine ⟨_,_,_,_,_,e,rfl,hq,⟨λx hx=>⟨(hE.apart x hx).1,xP (hE.apart x hx).2 hsz⟩,λx j hx=>⟨(hE.owned x j hx).1,xP (hE.owned x j hx).2 hsz⟩,hE.glob.step st⟩,hBel,?_,hlv,LO,hxt.step st,.lit false⟩;intro p hp;rcases FW hp with rfl|⟨hp,Zp9,_⟩;exact ⟨live6,own6,es',c',hmp,hes'⟩;rcases FW hp with rfl|⟨hp,vL,_⟩;exact I2 n7 live8 hdv.2 own8 f3;rcases FW hp with rfl|⟨hp,Zp8,_⟩;exact I2 n6 live7 hov.2 own7 f2;obtain ⟨hpm,hna⟩:=EG hp;refine LH st (λx hx=>⟨hx,?_⟩) hna (hm p hpm);rcases Classical.em (x=e.blk o) with rfl|hxo;rw [f1,hp4];exact zX x (hE.owned x _ hx).2 hxo (dne hx own6 Zp9) (λh=>dne hx (own7 x h) Zp8 rfl) (λh=>dne hx (own8 x h) vL rfl)
 |true=>
  have hq:=hq.1 hb;obtain ⟨y',t1,⟨ya,yn,yc,hy0⟩,t2,t3,t4⟩:=hT hb;have hid: ¬e.live nx:=λh=>Bf _ (hlv _ h);have hfr: ∀x j,e.own x=some j->j≠q->y'.ownBlock≠some x:=by
   intro x j hx hj h;rcases t3 x h with h|h;have:=(hE.owned x j hx).2;omega;exact dne hx (own7 x h) hj rfl
  have hfr2: ∀x,e.ro x->y'.ownBlock≠some x:=by
   intro x hx h;rcases t3 x h with h|h;have:=(hro x hx).1;omega;exact (hro x hx).2.2.2.2.1 h
  have H6: ∀x j,e.own x=some j->j≠q->(e.app nx y').own x=some j:=by
   intro x j hx hj;simp only [UL.app];rw [if_neg (hfr x j hx hj)];exact hx
  have st:Step e (e.app nx y') w w1:=⟨λx hx hx2=>⟨hx2,Xk6 x hx hx2⟩,λj hj=>⟨.inr hj,rfl,by
   have:j≠nx:=λh=>hid (h▸hj);simp [UL.app,this]⟩,hsz⟩
  have vne: ∀{j:Nat},e.live j->(e.app nx y').val j=e.val j:=λ{j} hj=>by
   have:j≠nx:=λh=>hid (h▸hj);simp [UL.app,this]
  refine ⟨_,_,_,_,_,e.app nx y',rfl,hq,⟨λx hx=>⟨?_,xP (hE.apart x hx).2 hsz⟩,λx j hx=>?_,hE.glob.step st⟩,hBel,?_,?_,LO,hxt.step st,.lit true⟩;simp only [UL.app];rw [if_neg (hfr2 x hx)];exact (hE.apart x hx).1;simp only [UL.app] at hx;split at hx;rename_i hxb;refine ⟨?_,(t2.lt x hxb).2⟩;rcases t3 x hxb with h|h;exact Ar hB.size h;exact hlt (own7 x h);exact ⟨(hE.owned x j hx).1,xP (hE.owned x j hx).2 hsz⟩;intro p hp;rcases GM.1 hp with rfl|hp;exact xD (ov:=y') (.inl rfl) (by simp [UL.app]) (λx hx=>by simp [UL.app,hx]) rfl (λj hj=>Qa6 hj) t2
  rcases FW hp with rfl|⟨hp,Zp9,_⟩;exact ⟨.inr live6,H6 _ _ own6 hm_q,es',c',hmp,hes'⟩;rcases FW hp with rfl|⟨hp,vL,_⟩;exact xD (ov:=dv) (.inr live8) (by rw [vne live8];exact hdv.2) (λx hx=>H6 _ _ (own8 x hx) (Ne.symm hqr)) VS (λj hj=>C3 hj) t4
  rcases FW hp with rfl|⟨hp,Zp8,_⟩;refine ⟨.inr live4,H6 _ _ own4 ho_q,[y'],t1,.cons ?_ (.nil _ _)⟩;rw [hy0];exact .row nx _ _ _ (.inl rfl) (by simp [UL.app])
  obtain ⟨hp,Jk4⟩:=L3 hp;obtain ⟨hpm,hna⟩:=EG hp;refine LH st (λx hx=>⟨H6 _ _ hx Jk4,?_⟩) hna (hm p hpm);exact zX x (hE.owned x _ hx).2 (dne hx own4 Zp8) (dne hx own6 Zp9) (λh=>dne hx (own7 x h) Jk4 rfl) (λh=>dne hx (own8 x h) vL rfl);rintro j (rfl|hj);exact Bk _;exact Nat.lt_succ_of_lt (hlv j hj)
 cases ht;cases ht;cases ht;cases ht
