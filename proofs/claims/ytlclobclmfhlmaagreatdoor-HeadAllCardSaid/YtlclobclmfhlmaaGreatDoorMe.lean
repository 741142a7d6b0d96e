/- Contracts, put together. Conditions: those of each. -/
import Derived.Test.YtlclobclmfhlmaaGreatDoorMd
import Derived.Lib.Walk
import Derived.Lib.SliceRun
import Derived.Lib.AppendZerosOnto
set_option linter.unusedSimpArgs false
set_option linter.unusedVariables false
set_option maxRecDepth 100000
namespace Go.Proofs.YtlclobclmfhlmaaGreatDoor.Bo
open Go Go.Sx Go.RowKit
open Go.Sx.VL (need branch leaf)
open Go.Sx.AV (lst ptr agg roI tup top)
end Go.Proofs.YtlclobclmfhlmaaGreatDoor.Bo
namespace Go.Proofs.YtlclobclmfhlmaaGreatDoor
open Go Go.Sx Go.RowKit Bo
open Go.Sx.VL (need branch leaf)
open Go.Sx.AV (lst ptr agg roI tup top)
theorem VY:Tryz.prog.follows .mixedOrders=true:=VS
abbrev i(n:Int):AV:= .x (.int .i64 n)
abbrev iI(n:Int):AV:= .x (.int .i64 n)
abbrev bl(b:Bool):AV:= .x (.bool b)
abbrev bt:=Bo.bt
abbrev insB:=Bo.insB
def dnI(n d:Int):Int:=n.tdiv d
def upI(n d:Int):Int:=(n+d-1).tdiv d
theorem bt_iff(lo n hi:Int):bt lo n hi=true↔lo<=n/\n<=hi:=Bo.bt_iff lo n hi
theorem insB_iff(lo a b hi:Int):insB lo a b hi=true↔lo<=a/\a<=b/\b<=hi:=Bo.insB_iff lo a b hi
theorem gH{n d:Int}(hn:0<=n)(hd:1<=d):dnI n d*d<=n/\n<dnI n d*d+d/\0<=dnI n d/\dnI n d<=n:=by
 unfold dnI;rw [Int.tdiv_eq_ediv_of_nonneg hn];have h1:=Int.mul_ediv_add_emod n d;have h2:=Int.emod_nonneg n (show d≠0 by omega)
 have h3:=Int.emod_lt_of_pos n (show 0<d by omega)
 have h4:=Int.ediv_nonneg hn (show 0<=d by omega)
 have h5:=Int.ediv_le_self d hn;rw [Int.mul_comm] at h1;omega
theorem SF{n d:Int}(hn:0<=n)(hd:1<=d):upI n d*d-d<n/\n<=upI n d*d/\0<=upI n d/\upI n d<=n:=by
 have h:=gH (n:=n+d-1) VI hd;have e:upI n d=dnI (n+d-1) d:=rfl;rw [e];refine ⟨VI,VI,h.2.2.1,?_⟩;rcases Int.lt_or_le n (dnI (n+d-1) d) with h1|h1
 ·have h2:=Int.mul_le_mul_of_nonneg_right (show n+1<=dnI (n+d-1) d by omega) (show 0<=d by omega)
  rw [Int.add_mul,Int.one_mul] at h2;have h3:=Int.mul_nonneg hn (show 0<=d-1 by omega)
  rw [Int.mul_sub,Int.mul_one] at h3;omega
 ·exact h1
def B7:UV
 |[.x (.int .i64 n),.x (.int .i64 lo),.x (.int .i64 hi)]=>some ([],bl (bt lo n hi))
 |_=>none
abbrev KY:Value:=Value.bool false
theorem wO(n lo hi:Int):VW VN 102 [i n,i lo,i hi] (bl (bt lo n hi)):=by
 refine GU Tryz.func102 (t:=branch (decide (lo<=n)) (leaf (RV.x (.bool (decide (n<=hi))))) (leaf (RV.x (KY)))) VS ?_;simp only [VL.sat,UA,UZ,GI,UC,UG];all_goals (simp+contextual [bt,insB,Bo.bt,Bo.insB,Bool.and_assoc]);all_goals omega
theorem RH:VO VN 102 B7:=by
 refine ⟨(UF Tryz.func102),?_⟩;intro avs ns res h hn;unfold B7 at h;split at h
 ·cases h;exact wO _ _ _
 ·cases h
def B8:UV
 |[.agg [.x (.int .i64 a),.x (.int .i64 b)],.x (.int .i64 lo),.x (.int .i64 hi)]=>some ([],bl (insB lo a b hi))
 |_=>none
theorem x9(a b lo hi:Int):VW VN 130 [.agg [i a,i b],i lo,i hi] (bl (insB lo a b hi)):=by
 refine GU Tryz.func130 (t:=branch (decide (lo<=a)) (branch (decide (a<=b)) (leaf (RV.x (.bool (decide (b<=hi))))) (leaf (RV.x (KY)))) (leaf (RV.x (KY)))) VS ?_;simp only [VL.sat,UA,UZ,GI,UC,UG];all_goals (simp+contextual [bt,insB,Bo.bt,Bo.insB,Bool.and_assoc]);all_goals omega
theorem PP:VO VN 130 B8:=by
 refine ⟨(UF Tryz.func130),?_⟩;intro avs ns res h hn;unfold B8 at h;split at h
 ·cases h;exact x9 _ _ _ _
 ·cases h
def sG:UV
 |[.x (.int .i64 n),.x (.int .i64 d)]=>some ([1<=d/\d<=100000,0<=n/\n<=1000000000000],i (dnI n d))
 |_=>none
theorem Xi5(n d:Int)(VR:1<=d/\d<=100000)(UE:0<=n/\n<=1000000000000):VW VN 135 [i n,i d] (i (dnI n d)):=by
 refine GU Tryz.func135 (t:=need [d≠0,VK (Int.tdiv n d)] (leaf (RV.x (.int .i64 (Int.tdiv n d))))) VS ?_;have h:=gH UE.1 VR.1;unfold dnI at h ⊢;exact VB
theorem aC:VO VN 135 sG:=by
 refine ⟨(UF Tryz.func135),?_⟩;intro avs ns res h hn;unfold sG at h;split at h
 ·cases h;exact Xi5 _ _ (hn _ VU) (hn _ VU)
 ·cases h
def Zm8:UV
 |[.x (.int .i64 n),.x (.int .i64 d)]=>some ([1<=d/\d<=100000,0<=n/\n<=1000000000000],i (upI n d))
 |_=>none
theorem Zv0(n d:Int)(VR:1<=d/\d<=100000)(UE:0<=n/\n<=1000000000000):VW VN 136 [i n,i d] (i (upI n d)):=by
 refine GU Tryz.func136 (t:=need [VK (n+d)] (need [VK (n+d-1)] (need [d≠0,VK (Int.tdiv (n+d-1) d)] (leaf (RV.x (.int .i64 (Int.tdiv (n+d-1) d))))))) VS ?_;have h:=SF UE.1 VR.1;unfold upI at h ⊢;exact VB
theorem Qx3:VO VN 136 Zm8:=by
 refine ⟨(UF Tryz.func136),?_⟩;intro avs ns res h hn;unfold Zm8 at h;split at h
 ·cases h;exact Zv0 _ _ (hn _ VU) (hn _ VU)
 ·cases h
theorem Qc4{a day:Int}(ha:0<=a/\a<=100)(hd:0<=day/\day<=100000):0<=a*day/\a*day<=10000000:=by
 have h1:=Int.mul_nonneg ha.1 hd.1;have h2:=Bo.mul_bd (x:=a) (y:=day) (X:=100) (Y:=100000) VI VI;omega
def Qe4:UV
 |[.agg [.x (.int .i64 a),.x (.int .i64 b)],.x (.int .i64 day)]=>some ([0<=a/\a<=100,0<=b/\b<=100,0<=day/\day<=100000],.agg [i (dnI (a*day) 100),i (upI (b*day) 100)])
 |_=>none
theorem Wa0(a b day:Int)(VR:0<=a/\a<=100)(UE:0<=b/\b<=100)(HP:0<=day/\day<=100000):VW VN 138 [.agg [i a,i b],i day] (.agg [i (dnI (a*day) 100),i (upI (b*day) 100)]):=by
 refine U0 (L:=[]) (VJ.cons aC (VJ.cons Qx3 (VJ.nil _))) VY Tryz.func138 (US Tryz.f138) U2 (t:=need [VK (a*day)] (need [(1:Int)<=100/\(100:Int)<=100000,(0:Int)<=a*day/\a*day<=1000000000000] (need [VK (b*day)] (need [(1:Int)<=100/\(100:Int)<=100000,(0:Int)<=b*day/\b*day<=1000000000000] (leaf (RV.agg [RV.x (.int .i64 (dnI (a*day) (100:Int))),RV.x (.int .i64 (upI (b*day) (100:Int)))])))))) VS ?_;have h1:=Qc4 VR HP;have h2:=Qc4 UE HP;exact VB
theorem cE:VO VN 138 Qe4:=by
 refine ⟨(UF Tryz.func138),?_⟩;intro avs ns res h hn;unfold Qe4 at h;split at h
 ·cases h;exact Wa0 _ _ _ (hn _ VU) (hn _ VU) (hn _ VU)
 ·cases h
section
variable (f:Nat->Int)(k:Nat)(day:Int)
def onL:Int:=f (4+2*k)-upI (f 3*day) 100
def onH:Int:=f (5+2*k)-dnI (f 2*day) 100
end
def teM(c:Int)(k:Nat):Int:=dnI (1000*k) c
def drB(f:Nat->Int):Prop:=(0<=f 2/\f 2<=100)/\(0<=f 3/\f 3<=100)
def bdB(f:Nat->Int):Prop:= ∀j,j<22-> -100000000000<=f (4+j)/\f (4+j)<=100000000000
theorem Wa1{f:Nat->Int}{day:Int}(h:drB f)(hd:0<=day/\day<=100000):(0<=upI (f 3*day) 100/\upI (f 3*day) 100<=10000000)/\0<=dnI (f 2*day) 100/\dnI (f 2*day) 100<=10000000:=by
 have h1:=Qc4 h.1 hd;have h2:=Qc4 h.2 hd;have h3:=gH h1.1 (show (1:Int)<=100 by omega)
 have h4:=SF h2.1 (show (1:Int)<=100 by omega)
 omega
theorem oE(c T lo hi:Int)(A B:AV)(f:Nat->Int)(k:Nat)(day:Int)(VR:drB f)(UE:bdB f)(HP:k<=10)(DZ:0<=day/\day<=100000):VW VN 104 [.roI [i c,i T,i lo,i hi,A,B] 26 f 0,i k,i day] (i (onL f k day)):=by
 refine U0 (L:=[]) (VJ.cons cE (VJ.nil _)) VY Tryz.func104 (US Tryz.f104) U2 (t:=need [UI k 11] (need [k*2+10+0-1-1-1-1-1-1<26] (need [2+2<=26] (need [(0:Int)<=f (2+nat_lit 0)/\f (2+nat_lit 0)<=100,(0:Int)<=f (2+nat_lit 1)/\f (2+nat_lit 1)<=100,(0:Int)<=day/\day<=100000] (need [VK (f (k*2+10+0-1-1-1-1-1-1)-upI (f (2+nat_lit 1)*day) (100:Int))] (leaf (RV.x (.int .i64 (f (k*2+10+0-1-1-1-1-1-1)-upI (f (2+nat_lit 1)*day) (100:Int)))))))))) VS ?_;have h0:=Wa1 VR DZ;have h1:=UE (2*k) VI;have h2:=UE (2*k+1) VI;rw [show 4+(2*k+1)=5+2*k by omega] at h2
 have d1:=VR.1;have d2:=VR.2
 have hi6:VK (f (4+2*k)-upI (f 3*day) 100):=by
  simp only [VK];omega
 simp only [VL.sat,UA,UZ,GI,UC,UG];rw [show k*2+10+0-1-1-1-1-1-1=4+2*k by omega]
 exact ⟨VI,VI,VI,⟨d1,d2,DZ⟩,hi6,rfl⟩
def lU:UV
 |[.roI [.x (.int .i64 c),.x (.int .i64 T),.x (.int .i64 lo),.x (.int .i64 hi),A,B] 26 f 0,.x (.int .i64 k),.x (.int .i64 day)]=>some ([drB f,bdB f,0<=k/\k<=10,0<=day/\day<=100000],i (onL f k.toNat day))
 |_=>none
theorem oD:VO VN 104 lU:=by
 refine ⟨(UF Tryz.func104),?_⟩;intro avs ns res h hn;unfold lU at h;split at h
 ·rename_i c T lo hi A B f k day;cases h;have hk:0<=k/\k<=10:=hn _ VU;have e:((k.toNat:Nat):Int)=k:=VI;have h0:=oE c T lo hi A B f k.toNat day (hn _ VU) (hn _ VU) VI (hn _ VU);rw [e] at h0;exact h0
 ·cases h
theorem TU(c T lo hi:Int)(A B:AV)(f:Nat->Int)(k:Nat)(day:Int)(VR:drB f)(UE:bdB f)(HP:k<=10)(DZ:0<=day/\day<=100000):VW VN 105 [.roI [i c,i T,i lo,i hi,A,B] 26 f 0,i k,i day] (i (onH f k day)):=by
 refine U0 (L:=[]) (VJ.cons cE (VJ.nil _)) VY Tryz.func105 (US Tryz.f105) U2 (t:=need [UI k 11] (need [k*2+10+1-1-1-1-1-1-1<26] (need [2+2<=26] (need [(0:Int)<=f (2+nat_lit 0)/\f (2+nat_lit 0)<=100,(0:Int)<=f (2+nat_lit 1)/\f (2+nat_lit 1)<=100,(0:Int)<=day/\day<=100000] (need [VK (f (k*2+10+1-1-1-1-1-1-1)-dnI (f (2+nat_lit 0)*day) (100:Int))] (leaf (RV.x (.int .i64 (f (k*2+10+1-1-1-1-1-1-1)-dnI (f (2+nat_lit 0)*day) (100:Int)))))))))) VS ?_;have h0:=Wa1 VR DZ;have h1:=UE (2*k) VI;have h2:=UE (2*k+1) VI;rw [show 4+(2*k+1)=5+2*k by omega] at h2
 have d1:=VR.1;have d2:=VR.2
 have hi6:VK (f (5+2*k)-dnI (f 2*day) 100):=by
  simp only [VK];omega
 simp only [VL.sat,UA,UZ,GI,UC,UG];rw [show k*2+10+1-1-1-1-1-1-1=5+2*k by omega]
 exact ⟨VI,VI,VI,⟨d1,d2,DZ⟩,hi6,rfl⟩
def M0:UV
 |[.roI [.x (.int .i64 c),.x (.int .i64 T),.x (.int .i64 lo),.x (.int .i64 hi),A,B] 26 f 0,.x (.int .i64 k),.x (.int .i64 day)]=>some ([drB f,bdB f,0<=k/\k<=10,0<=day/\day<=100000],i (onH f k.toNat day))
 |_=>none
theorem TS:VO VN 105 M0:=by
 refine ⟨(UF Tryz.func105),?_⟩;intro avs ns res h hn;unfold M0 at h;split at h
 ·rename_i c T lo hi A B f k day;cases h;have hk:0<=k/\k<=10:=hn _ VU;have e:((k.toNat:Nat):Int)=k:=VI;have h0:=TU c T lo hi A B f k.toNat day (hn _ VU) (hn _ VU) VI (hn _ VU);rw [e] at h0;exact h0
 ·cases h
theorem Zz8(c T lo hi:Int)(A B:AV)(f:Nat->Int)(k:Nat)(day:Int)(VR:drB f)(UE:bdB f)(HP:k<=10)(DZ:0<=day/\day<=100000):VW VN 76 [.roI [i c,i T,i lo,i hi,A,B] 26 f 0,i k,i day] (.agg [i (onL f k day),i (onH f k day)]):=by
 refine U0 (L:=[]) (VJ.cons oD (VJ.cons TS (VJ.nil _))) VY Tryz.func76 (US Tryz.f76) U2 (t:=need [drB f,bdB f,(0:Int)<=(k:Int)/\(k:Int)<=10,(0:Int)<=day/\day<=100000] (need [drB f,bdB f,(0:Int)<=(k:Int)/\(k:Int)<=10,(0:Int)<=day/\day<=100000] (leaf (RV.agg [RV.x (.int .i64 (onL f k day)),RV.x (.int .i64 (onH f k day))])))) VS ?_;simp only [VL.sat,UA,UZ,GI,UC,UG,F9];exact ⟨⟨VR,UE,VI,DZ⟩,⟨VR,UE,VI,DZ⟩⟩
def Jl9:UV
 |[.roI [.x (.int .i64 c),.x (.int .i64 T),.x (.int .i64 lo),.x (.int .i64 hi),A,B] 26 f 0,.x (.int .i64 k),.x (.int .i64 day)]=>some ([drB f,bdB f,0<=k/\k<=10,0<=day/\day<=100000],.agg [i (onL f k.toNat day),i (onH f k.toNat day)])
 |_=>none
theorem Wd0:VO VN 76 Jl9:=by
 refine ⟨(UF Tryz.func76),?_⟩;intro avs ns res h hn;unfold Jl9 at h;split at h
 ·rename_i c T lo hi A B f k day;cases h;have hk:0<=k/\k<=10:=hn _ VU;have e:((k.toNat:Nat):Int)=k:=VI;have h0:=Zz8 c T lo hi A B f k.toNat day (hn _ VU) (hn _ VU) VI (hn _ VU);rw [e] at h0;exact h0
 ·cases h
theorem Xp6{c:Int}{k:Nat}(hc:1<=c/\c<=10)(hk:k<=10):0<=teM c k/\teM c k<=10000:=by
 have:=gH (n:=1000*k) VI hc.1;unfold teM;omega
theorem Qx7(c T lo hi:Int)(A B:AV)(f:Nat->Int)(k:Nat)(VR:1<=c/\c<=10)(UE:k<=10):VW VN 166 [.roI [i c,i T,i lo,i hi,A,B] 26 f 0,i k] (i (teM c k)):=by
 refine GU Tryz.func166 (t:=need [VK ((1000:Int)*(k:Int))] (need [c≠0,VK (Int.tdiv ((1000:Int)*(k:Int)) c)] (leaf (RV.x (.int .i64 (Int.tdiv ((1000:Int)*(k:Int)) c)))))) VS ?_;have h:=Xp6 VR UE;unfold teM dnI at h ⊢;exact VB
def Qe2:UV
 |[.roI [.x (.int .i64 c),.x (.int .i64 T),.x (.int .i64 lo),.x (.int .i64 hi),A,B] 26 f 0,.x (.int .i64 k)]=>some ([1<=c/\c<=10,0<=k/\k<=10],i (teM c k.toNat))
 |_=>none
theorem Qx6:VO VN 166 Qe2:=by
 refine ⟨(UF Tryz.func166),?_⟩;intro avs ns res h hn;unfold Qe2 at h;split at h
 ·rename_i c T lo hi A B f k;cases h;have hk:0<=k/\k<=10:=hn _ VU;have e:((k.toNat:Nat):Int)=k:=VI;have h0:=Qx7 c T lo hi A B f k.toNat (hn _ VU) VI;rw [e] at h0;exact h0
 ·cases h
theorem MU(c T lo hi:Int)(A B:AV)(f:Nat->Int)(k:Nat)(day:Int)(VR:drB f)(UE:bdB f)(HP:k<=10)(DZ:0<=day/\day<=100000)(BM:1<=c/\c<=10):VW VN 129 [.roI [i c,i T,i lo,i hi,A,B] 26 f 0,i k,i day] (.agg [i (onL f k day-teM c k),i (onH f k day-teM c k)]):=by
 refine U0 (L:=[]) (VJ.cons Wd0 (VJ.cons Qx6 (VJ.nil _))) VY Tryz.func129 (US Tryz.f129) U2 (t:=need [drB f,bdB f,(0:Int)<=(k:Int)/\(k:Int)<=10,(0:Int)<=day/\day<=100000] (need [(1:Int)<=c/\c<=10,(0:Int)<=(k:Int)/\(k:Int)<=10] (need [VK (onL f k day-teM c k)] (need [(1:Int)<=c/\c<=10,(0:Int)<=(k:Int)/\(k:Int)<=10] (need [VK (onH f k day-teM c k)] (leaf (RV.agg [RV.x (.int .i64 (onL f k day-teM c k)),RV.x (.int .i64 (onH f k day-teM c k))]))))))) VS ?_;have h0:=Wa1 VR DZ;have h1:=UE (2*k) VI;have h2:=UE (2*k+1) VI;rw [show 4+(2*k+1)=5+2*k by omega] at h2
 have d1:=VR.1;have d2:=VR.2
 have h5:=Xp6 BM HP;unfold onL onH;simp only [VL.sat,UA,UZ,GI,UC,VK,UG,F9,onL,onH];refine ⟨⟨VR,UE,VI,DZ⟩,⟨BM,VI⟩,VI,⟨BM,VI⟩,VI⟩
def gN:UV
 |[.roI [.x (.int .i64 c),.x (.int .i64 T),.x (.int .i64 lo),.x (.int .i64 hi),A,B] 26 f 0,.x (.int .i64 k),.x (.int .i64 day)]=>some ([drB f,bdB f,0<=k/\k<=10,0<=day/\day<=100000,1<=c/\c<=10],.agg [i (onL f k.toNat day-teM c k.toNat),i (onH f k.toNat day-teM c k.toNat)])
 |_=>none
theorem MT:VO VN 129 gN:=by
 refine ⟨(UF Tryz.func129),?_⟩;intro avs ns res h hn;unfold gN at h;split at h
 ·rename_i c T lo hi A B f k day;cases h;have hk:0<=k/\k<=10:=hn _ VU;have e:((k.toNat:Nat):Int)=k:=VI;have h0:=MU c T lo hi A B f k.toNat day (hn _ VU) (hn _ VU) VI (hn _ VU) (hn _ VU);rw [e] at h0;exact h0
 ·cases h
def keP(c:Int)(f:Nat->Int)(wi day x:Int):Bool:=insB (-wi) (onL f x.toNat day-teM c x.toNat) (onH f x.toNat day-teM c x.toNat) wi
def mkV(p:Int)(j:Nat):List Value:=[.int .i64 (p+j)]
def Qe9:UV
 |[.x (.int .i64 x),.ro [.roI [.x (.int .i64 c),.x (.int .i64 T),.x (.int .i64 lo),.x (.int .i64 hi),A,B] 26 f 0],.ro [.x (.int .i64 day)],.ro [.x (.int .i64 u0),.x (.int .i64 u1),.x (.int .i64 wi)]]=>some ([drB f,bdB f,1<=c/\c<=10,0<=day/\day<=100000,0<=wi/\wi<=1000000,0<=x/\x<=10],bl (keP c f wi day x))
 |_=>none
section
variable (x:Int)(c T lo hi:Int)(A B:AV)(f:Nat->Int)(day u0 u1 wi:Int)
theorem Wf5(VR:drB f)(UE:bdB f)(HP:1<=c/\c<=10)(DZ:0<=day/\day<=100000)(BM:0<=wi/\wi<=1000000)(z6:0<=x/\x<=10):VW VN 128 [i x,.ro [.roI [i c,i T,i lo,i hi,A,B] 26 f 0],.ro [i day],.ro [i u0,i u1,i wi]] (bl (keP c f wi day x)):=by
 refine U0 (L:=[]) (VJ.cons MT (VJ.cons PP (VJ.nil _))) VY Tryz.func128 (US Tryz.f128) U2 (t:=need [drB f,bdB f,(0:Int)<=x/\x<=10,(0:Int)<=day/\day<=100000,(1:Int)<=c/\c<=10] (need [VK (-wi)] (leaf (RV.x (.bool (insB (-wi) (onL f (Int.toNat x) day-teM c (Int.toNat x)) (onH f (Int.toNat x) day-teM c (Int.toNat x)) wi)))))) VS ?_;simp only [VL.sat,UA,UZ,GI,UC,VK,UG,keP];exact ⟨⟨VR,UE,z6,DZ,HP⟩,VI⟩
theorem Wf4:VO VN 128 Qe9:=by
 refine ⟨(UF Tryz.func128),?_⟩;intro avs ns res h hn;unfold Qe9 at h;split at h
 ·cases h;exact Wf5 _ _ _ _ _ _ _ _ _ _ _ _ (hn _ VU) (hn _ VU) (hn _ VU) (hn _ VU) (hn _ VU) (hn _ VU)
 ·cases h
theorem Wt8(VR:drB f)(UE:bdB f)(HP:1<=c/\c<=10)(DZ:0<=day/\day<=100000)(BM:0<=wi/\wi<=1000000)(z6:0<=x/\x<=10):VW VN 164 [i x,.ro [.fn (.func 128) [] [.ro [.roI [i c,i T,i lo,i hi,A,B] 26 f 0],.ro [i day],.ro [i u0,i u1,i wi]]]] (bl (!(keP c f wi day x))):=by
 refine U0 (L:=[]) (VJ.cons Wf4 (VJ.nil _)) VY Tryz.func164 (US Tryz.f164) U2 (t:=need [drB f,bdB f,(1:Int)<=c/\c<=10,(0:Int)<=day/\day<=100000,(0:Int)<=wi/\wi<=1000000,(0:Int)<=x/\x<=10] (leaf (RV.x (.bool !keP c f wi day x)))) VS ?_;simp only [VL.sat,UA,UZ,GI,UC,UG];exact ⟨VR,UE,HP,DZ,BM,z6⟩
end
def Qg1:UV
 |[.x (.int .i64 x),.ro [.fn (.func 128) [] [.ro [.roI [.x (.int .i64 c),.x (.int .i64 T),.x (.int .i64 lo),.x (.int .i64 hi),A,B] 26 f 0],.ro [.x (.int .i64 day)],.ro [.x (.int .i64 u0),.x (.int .i64 u1),.x (.int .i64 wi)]]]]=>some ([drB f,bdB f,1<=c/\c<=10,0<=day/\day<=100000,0<=wi/\wi<=1000000,0<=x/\x<=10],bl (!(keP c f wi day x)))
 |_=>none
theorem lM:VO VN 164 Qg1:=by
 refine ⟨(UF Tryz.func164),?_⟩;intro avs ns res h hn;unfold Qg1 at h;split at h
 ·cases h;exact Wt8 _ _ _ _ _ _ _ _ _ _ _ _ (hn _ VU) (hn _ VU) (hn _ VU) (hn _ VU) (hn _ VU) (hn _ VU)
 ·cases h
abbrev WA(c:Int)(T:Int)(lo:Int)(hi:Int)(A:AV)(B:AV)(f:Nat->Int)(day:Int)(u0:Int)(u1:Int)(wi:Int):AV:=AV.fn (Fn.func 164) [] [AV.ro [AV.fn (Fn.func 128) [] [AV.ro [roI [iI c,iI T,iI lo,iI hi,A,B] 26 (λa=>f a) 0],AV.ro [iI day],AV.ro [iI u0,iI u1,iI wi]]]]
section
variable (n:Nat)(g:Nat->Int)
abbrev K9:AV:=lst 1 n λk=>[iI (g k)]
def Wz0(c T lo hi:Int)(A B:AV)(f:Nat->Int)(day u0 u1 wi:Int):St:={σ:=[K9 n g,WA c T lo hi A B f day u0 u1 wi]++HG 5 [iI (n:Int)]++HG 11 [],m:=[],nx:=4}
noncomputable def Jm8:Code:=U8 (VQ (U6 Tryz.f197) 0)
def Wf7(c T lo hi:Int)(A B:AV)(f:Nat->Int)(day u0 u1 wi:Int)(k:Nat):St:=(upM [(8,i k)] (Wz0 n g c T lo hi A B f day u0 u1 wi))
def d6(c T lo hi:Int)(A B:AV)(f:Nat->Int)(day u0 u1 wi:Int)(k:Nat):G6->Option St
 | .ret=>some (upM [(4,i (GV ((λk=> !(keP c f wi day (g k)))) n))] (Wz0 n g c T lo hi A B f day u0 u1 wi))
 | .exit 0=>some (upM [] (Wz0 n g c T lo hi A B f day u0 u1 wi))
 |_=>none
def Ji0(c T lo hi:Int)(A B:AV)(f:Nat->Int)(day u0 u1 wi:Int):CT:= .branch (decide (GV ((λk=> !(keP c f wi day (g k)))) n<n)) (.leaf (.ret,(d6 n g c T lo hi A B f day u0 u1 wi 0 .ret).getD (Wz0 n g c T lo hi A B f day u0 u1 wi))) (.leaf (.exit 0,(d6 n g c T lo hi A B f day u0 u1 wi 0 (.exit 0)).getD (Wz0 n g c T lo hi A B f day u0 u1 wi)))
def Xt2(c T lo hi:Int)(A B:AV)(f:Nat->Int)(day u0 u1 wi:Int):UH:=(HF (Wf7 n g c T lo hi A B f day u0 u1 wi (0)) (Ji0 n g c T lo hi A B f day u0 u1 wi))
theorem Zs3(c T lo hi:Int)(A B:AV)(f:Nat->Int)(day u0 u1 wi:Int)(VR:n<=100000)(UE:drB f)(HP:bdB f)(DZ:1<=c/\c<=10)(BM:0<=day/\day<=100000)(z6:0<=wi/\wi<=1000000)(nS: ∀j,j<n->0<=g j/\g j<=10):G7 VN (.loop Jm8) (Xt2 n g c T lo hi A B f day u0 u1 wi):=by
 refine HE (L:=[]) (VJ.cons lM (VJ.nil _)) VY U2 (X:=Nat) (Wf7 n g c T lo hi A B f day u0 u1 wi) (λk=>k<=n/\ ∀j,j<k->(λk=> !(keP c f wi day (g k))) j=false) (λk=>n-k) (d6 n g c T lo hi A B f day u0 u1 wi) (x0:=0) ⟨VI,λj hj=>VI⟩ ?_ ?_ ?_
 ·rintro k;kernel_rfl
 ·rintro k y E h;unfold d6 at h;split at h
  ·cases h;kernel_rfl
  ·cases h;kernel_rfl
  ·cases h
 ·rintro Q hQ k hx;refine ⟨(k+1),?_⟩;(with_reducible refine DF (t:=let z0:=(VX (WA c T lo hi A B f day u0 u1 wi));(branch (decide ((k:Int)<(n:Int))) (need [UI k n] (need [drB λa=>f a,bdB λa=>f a,(1:Int)<=c/\c<=10,(0:Int)<=day/\day<=100000,(0:Int)<=wi/\wi<=1000000,(0:Int)<=g k/\g k<=10] (branch (!keP c (λa=>f a) wi day (g k)) (need [VX (K9 n g),z0,(k:Int)=(↑(GV (λk=> !keP c f wi day (g k)) n):Int),VX (n:Int)] (leaf G6.ret)) (need [VK ((k:Int)+1)] (need [VX (K9 n g),z0,VX (n:Int),(k:Int)+1=(↑(k+1):Int)] (leaf G6.normal)))))) (need [VX (K9 n g),z0,VX (n:Int)] (leaf (G6.exit 0))))) VS ?_)
  simp only [Ji0,d6,VL.sat,GS,H9] at hQ;simp only [VL.sat,UA,UG,H9,VK,d6,F9];refine ⟨λh=>⟨VI,⟨UE,HP,DZ,BM,z6,nS k VI⟩,?_⟩,λh=>?_⟩
  rotate_left
  ·have hf:GV ((λk=> !(keP c f wi day (g k)))) n=n:=BW (λj hj=>hx.2 j VI)
   intro E hE;cases hE;exact hQ.2 VI
  refine ⟨λhb=>?_,λhb=>?_⟩
  ·have hf:GV ((λk=> !(keP c f wi day (g k)))) n=k:=zJ VI hb hx.2
   refine ⟨VI,λE hE=>?_⟩
   cases hE;exact hQ.1 VI
  ·refine ⟨VI,VI,⟨VI,λj hj=>?_⟩,VI⟩
   rcases (show j<k\/j=k by omega) with h1|rfl
   ·exact hx.2 j h1
   ·exact hb
theorem Xy2(c T lo hi:Int)(A B:AV)(f:Nat->Int)(day u0 u1 wi:Int)(VR:n<=100000)(UE:drB f)(HP:bdB f)(DZ:1<=c/\c<=10)(BM:0<=day/\day<=100000)(z6:0<=wi/\wi<=1000000)(nS: ∀j,j<n->0<=g j/\g j<=10):VW VN 197 [.lst 1 n (λk=>[i (g k)]),.fn (.func 164) [] [.ro [.fn (.func 128) [] [.ro [.roI [i c,i T,i lo,i hi,A,B] 26 f 0],.ro [i day],.ro [i u0,i u1,i wi]]]]] (i (if GV ((λk=> !(keP c f wi day (g k)))) n<n then (GV ((λk=> !(keP c f wi day (g k)))) n:Int) else -1)):=by
 refine U0 (L:=[Xt2 n g c T lo hi A B f day u0 u1 wi]) (VJ.cons lM (VJ.nil _)) VY Tryz.func197 (US Tryz.f197) (G0 (lpE (b:= .loop Jm8) VS<|Zs3 n g c T lo hi A B f day u0 u1 wi VR UE HP DZ BM z6 nS)) (t:=need [VX (K9 n g),VX (WA c T lo hi A B f day u0 u1 wi),VX (n:Int),(0:Int)=(↑(0:Nat):Int)] (branch (decide (GV (λk=> !keP c f wi day (g k)) n<n)) (leaf (RV.x (.int .i64 (↑(GV (λk=> !keP c f wi day (g k)) n):Int)))) (leaf (RV.x (.int .i64 (-1:Int)))))) VS ?_
 exact VA
end
def Xs4:UV
 |[.lst 1 n g,.fn (.func 164) [] [.ro [.fn (.func 128) [] [.ro [.roI [.x (.int .i64 c),.x (.int .i64 T),.x (.int .i64 lo),.x (.int .i64 hi),A,B] 26 f 0],.ro [.x (.int .i64 day)],.ro [.x (.int .i64 u0),.x (.int .i64 u1),.x (.int .i64 wi)]]]]]=>some ([UD 1 n g,n<=100000,drB f,bdB f,1<=c/\c<=10,0<=day/\day<=100000,0<=wi/\wi<=1000000,∀j,j<n->0<=col 0 g j/\col 0 g j<=10],i (if GV ((λk=> !(keP c f wi day (col 0 g k)))) n<n then (GV ((λk=> !(keP c f wi day (col 0 g k)))) n:Int) else -1))
 |_=>none
theorem Xy1:VO VN 197 Xs4:=by
 refine ⟨(UF Tryz.func197),?_⟩;intro avs ns res h hn;unfold Xs4 at h;split at h
 ·cases h;have hr:UD 1 _ _:=hn _ (GD);exact (Xy2 _ (col 0 _) _ _ _ _ _ _ _ _ _ _ _ (hn _ VU) (hn _ VU) (hn _ VU) (hn _ VU) (hn _ VU) (hn _ VU) (hn _ VU)).same (.cons (.lst 1 _ _ _ hr) (.cons (.refl _) .nil))
 ·cases h
theorem Zl8(n:Nat)(g:Nat->Int)(c T lo hi:Int)(A B:AV)(f:Nat->Int)(day u0 u1 wi:Int)(VR:n<=100000)(UE:drB f)(HP:bdB f)(DZ:1<=c/\c<=10)(BM:0<=day/\day<=100000)(z6:0<=wi/\wi<=1000000)(nS: ∀j,j<n->0<=g j/\g j<=10):VW VN 163 [.lst 1 n (λk=>[i (g k)]),.fn (.func 164) [] [.ro [.fn (.func 128) [] [.ro [.roI [i c,i T,i lo,i hi,A,B] 26 f 0],.ro [i day],.ro [i u0,i u1,i wi]]]]] (bl (!D4 (λk=>keP c f wi day (g k)) n)):=by
 refine U0 (L:=[]) (VJ.cons Xy1 (VJ.nil _)) VY Tryz.func163 (US Tryz.f163) U2 (t:=need [UD 1 n λk=>[i (g k)],n<=100000,drB f,bdB f,(1:Int)<=c/\c<=10,(0:Int)<=day/\day<=100000,(0:Int)<=wi/\wi<=1000000,∀(j:Nat),j<n->(0:Int)<=g j/\g j<=10] (leaf (RV.x (.bool (decide ((if GV (λk=> !keP c f wi day (g k)) n<n then (↑(GV (λk=> !keP c f wi day (g k)) n):Int) else (-1:Int))>=(0:Int))))))) VS ?_
 simp only [VL.sat,UA,UZ,UC,UG];refine ⟨⟨λ_ _=>rfl,VR,UE,HP,DZ,BM,z6,nS⟩,?_⟩
 rw [kD];have e:(λk=> !(λk=>keP c f wi day (g k)) k)=(λk=> !(keP c f wi day (g k))):=rfl
 rw [e];show decide ((if GV (λk=> !(keP c f wi day (g k))) n<n then (GV (λk=> !(keP c f wi day (g k))) n:Int) else -1)>=0)=_
 have:=F0 ((λk=> !(keP c f wi day (g k)))) n
 split<;>simp<;>omega
def Xs9:UV
 |[.lst 1 n g,.fn (.func 164) [] [.ro [.fn (.func 128) [] [.ro [.roI [.x (.int .i64 c),.x (.int .i64 T),.x (.int .i64 lo),.x (.int .i64 hi),A,B] 26 f 0],.ro [.x (.int .i64 day)],.ro [.x (.int .i64 u0),.x (.int .i64 u1),.x (.int .i64 wi)]]]]]=>some ([UD 1 n g,n<=100000,drB f,bdB f,1<=c/\c<=10,0<=day/\day<=100000,0<=wi/\wi<=1000000,∀j,j<n->0<=col 0 g j/\col 0 g j<=10],bl (!D4 (λk=>keP c f wi day (col 0 g k)) n))
 |_=>none
theorem Zl7:VO VN 163 Xs9:=by
 refine ⟨(UF Tryz.func163),?_⟩;intro avs ns res h hn;unfold Xs9 at h;split at h
 ·cases h;have hr:UD 1 _ _:=hn _ (GD);exact (Zl8 _ (col 0 _) _ _ _ _ _ _ _ _ _ _ _ (hn _ VU) (hn _ VU) (hn _ VU) (hn _ VU) (hn _ VU) (hn _ VU) (hn _ VU)).same (.cons (.lst 1 _ _ _ hr) (.cons (.refl _) .nil))
 ·cases h
theorem Xl0(n:Nat)(g:Nat->Int)(c T lo hi:Int)(A B:AV)(f:Nat->Int)(day u0 u1 wi:Int)(VR:n<=100000)(UE:drB f)(HP:bdB f)(DZ:1<=c/\c<=10)(BM:0<=day/\day<=100000)(z6:0<=wi/\wi<=1000000)(nS: ∀j,j<n->0<=g j/\g j<=10):VW VN 126 [.lst 1 n (λk=>[i (g k)]),.fn (.func 128) [] [.ro [.roI [i c,i T,i lo,i hi,A,B] 26 f 0],.ro [i day],.ro [i u0,i u1,i wi]]] (bl (D4 (λk=>keP c f wi day (g k)) n)):=by
 refine U0 (L:=[]) (VJ.cons Zl7 (VJ.nil _)) VY Tryz.func126 (US Tryz.f126) U2 (t:=need [UD 1 n λk=>[i (g k)],n<=100000,drB f,bdB f,(1:Int)<=c/\c<=10,(0:Int)<=day/\day<=100000,(0:Int)<=wi/\wi<=1000000,∀(j:Nat),j<n->(0:Int)<=g j/\g j<=10] (leaf (RV.x (.bool !!D4 (λk=>keP c f wi day (g k)) n)))) VS ?_
 simp only [VL.sat,UA,UZ,UC,UG];refine ⟨⟨λ_ _=>rfl,VR,UE,HP,DZ,BM,z6,nS⟩,?_⟩
 show (!!D4 (λk=>keP c f wi day (g k)) n)=_
 simp
def Wv8:UV
 |[.lst 1 n g,.fn (.func 128) [] [.ro [.roI [.x (.int .i64 c),.x (.int .i64 T),.x (.int .i64 lo),.x (.int .i64 hi),A,B] 26 f 0],.ro [.x (.int .i64 day)],.ro [.x (.int .i64 u0),.x (.int .i64 u1),.x (.int .i64 wi)]]]=>some ([UD 1 n g,n<=100000,drB f,bdB f,1<=c/\c<=10,0<=day/\day<=100000,0<=wi/\wi<=1000000,∀j,j<n->0<=col 0 g j/\col 0 g j<=10],bl (D4 (λk=>keP c f wi day (col 0 g k)) n))
 |_=>none
theorem Xk9:VO VN 126 Wv8:=by
 refine ⟨(UF Tryz.func126),?_⟩;intro avs ns res h hn;unfold Wv8 at h;split at h
 ·cases h;have hr:UD 1 _ _:=hn _ (GD);exact (Xl0 _ (col 0 _) _ _ _ _ _ _ _ _ _ _ _ (hn _ VU) (hn _ VU) (hn _ VU) (hn _ VU) (hn _ VU) (hn _ VU) (hn _ VU)).same (.cons (.lst 1 _ _ _ hr) (.cons (.refl _) .nil))
 ·cases h
def aP:UV
 |[.x (.int .i64 p),.x (.int .i64 q)]=>some ([],.fn (.func 137) [] [.ro [i p],.ro [i q]])
 |_=>none
abbrev XS(p:Int)(q:Int):AV:=AV.fn (Fn.func 137) [] [AV.ro [iI p],AV.ro [iI q]]
abbrev JY:Ext:={}
theorem We2(p q:Int):FB VN 103 [i p,i q] (.fn (.func 137) [] [.ro [i p],.ro [i q]]):=by
 refine HU (L:=[]) (VJ.nil _) (VV.of (VP.nil _) (VM.nil _)) VY Tryz.func103 (US Tryz.f103) G4 (t:=leaf (XS p q)) VS ?_;exact rfl
theorem dC:LZ VN 103 aP:=by
 refine ⟨(UF Tryz.func103),?_⟩;intro avs ns res h hn;unfold aP at h;split at h
 ·cases h;exact We2 _ _
 ·cases h
section
variable (l:Nat)
abbrev YF:AV:=AV.fn (Fn.yield l) [] []
def Wz8(p q:Int):St:={σ:=[YF l,AV.ro [iI p],AV.ro [iI q]]++HG 12 [],m:=[],nx:=2,gh:=some 0}
noncomputable def Zr6:Code:=U8 (VQ (U6 Tryz.f137) 0)
def TQ(p q:Int)(j:Nat):St:={σ:=H3 [(4,i (p+j))] (Wz8 l p q).σ,m:=[],nx:=0,gh:=some (j) }
def jL(p q:Int)(j:Nat):G6->Option St
 | .exit 0=>some {σ:=H3 [] (Wz8 l p q).σ,m:=[],nx:=0,gh:=some ((q-p+1).toNat) }
 | .ret=>some {σ:=H3 [] (Wz8 l p q).σ,m:=[],nx:=0,gh:=none}
 |_=>none
def Jj8(p q:Int):CT:= .may True (.leaf (.exit 0,(jL l p q 0 (.exit 0)).getD (Wz8 l p q))) (.leaf (.ret,(jL l p q 0 .ret).getD (Wz8 l p q)))
def Xv2(p q:Int):UH:=GJ [] (HF (TQ l p q (0)) (Jj8 l p q))
theorem Ja4(p q:Int)(VR: -1000000<=p/\p<=1000000)(UE: -1000000<=q/\q<=1000000){cx:Cx}(hX:VV VN {Y:=some (l,((q-p+1).toNat),(mkV p)) } cx):HH VN none cx (.loop Zr6) (Xv2 l p q):=by
 refine FI [] (L:=[]) (VJ.nil _) hX VY G4 (V:=Nat) (TQ l p q) (λj=>j<=((q-p+1).toNat)) (λj=>((q-p+1).toNat)-j) (jL l p q) (x0:=0) VU ?_ ?_ ?_
 ·rintro j;kernel_rfl
 ·rintro j y E h;unfold jL at h;split at h
  ·cases h;kernel_rfl
  ·cases h;kernel_rfl
  ·cases h
 ·rintro Q hQ j hx;refine ⟨(j+1),?_⟩;have e:HV VN [] {Y:=some (l,((q-p+1).toNat),(mkV p)) } [] [] Zr6 (TQ l p q j) (TQ l p q ((j+1))) (jL l p q j)=(branch (decide (p+(j:Int)<=q)) (need [l=l,j<(q-p+1).toNat,VX ([Value.int IntKind.i64 (p+(j:Int))])] (VL.may True (need [VK (p+(j:Int)+1)] (need [YF l=YF l,VX (AV.ro [iI p]),VX (AV.ro [iI q]),p+(j:Int)+1=p+(↑(j+1):Int),j+1=j+1] (leaf G6.normal))) (need [YF l=YF l,VX (AV.ro [iI p]),VX (AV.ro [iI q])] (leaf G6.ret)))) (need [YF l=YF l,VX (AV.ro [iI p]),VX (AV.ro [iI q]),j=(q-p+1).toNat] (leaf (G6.exit 0)))):=VS;rw [e];simp only [Jj8,jL,VL.sat,GS] at hQ;have hQ1: ∀E,jL l p q j (.exit 0)=some E->Q (.exit 0,E):=λE hE=>by cases hE;exact hQ.1 trivial
  have hQ2: ∀E,jL l p q j .ret=some E->Q (.ret,E):=λE hE=>by cases hE;exact hQ.2
  simp only [VL.sat,UA,UG,H9,VK,F9];clear e hQ;all_goals exact V5
end
theorem ED(p q:Int)(VR: -1000000<=p/\p<=1000000)(UE: -1000000<=q/\q<=1000000):B6 Tryz.prog 137 [.ro [i p],.ro [i q]] (((q-p+1).toNat)) (mkV p):=by
 refine BI (L:=λl=>[Xv2 l p q]) (VJ.nil _) VY (UF Tryz.func137) Tryz.func137 (US Tryz.f137) VS (λl cx hX=>G0 (lpE (b:= .loop Zr6) VS<|Ja4 l p q VR UE hX)) (t:=λl=>(need [VX (AV.fn (Fn.yield l) [] []),VX (AV.ro [iI p]),VX (AV.ro [iI q]),p=p+(↑(0:Nat):Int),0=0] (VL.may True (need [VX (q-p+1).toNat] (leaf PUnit.unit)) (leaf PUnit.unit)))) (λl=>VS) ?_
 intro l;simp only [VL.sat,UA,UZ,GI,UC,VK,UG,H9,R0];all_goals exact V5
theorem cat1{p:Int}{k j:Nat}(h:j<k+1):GG k (λj=>[i (p+j)]) (U4 1 [i (p+k)]) j=[i (p+j)]:=by
 show H6 (decide (j<k)) [i (p+j)] (U4 1 [i (p+k)] (j-k))=_;rw [show j-k=0 by omega]
 by_cases hj:j<k
 ·rw [decide_eq_true hj];rfl
 ·obtain rfl:j=k:=VI;rw [decide_eq_false hj];rfl
abbrev Z8:AV:=AV.x (.slice none 0 0)
section
variable (p q:Int)
def Jm7:St:={σ:=[Z8,XS p q,ptr 0 0,top,Z8,top,XS p q]++HG 6 [],m:=[(900,GM.row 3 1 0 λx=>[]),(0,GM.cells 61 [AV.row 900])],nx:=901}
def rfF:Option Code->Operand
 |some (.rangeFunc f _ _ _)=>f
 |_=> .const .nilFunc
def jG:Option Code->Array Nat
 |some (.rangeFunc _ ps _ _)=>ps
 |_=>#[]
def SP:Option Code->Code
 |some (.rangeFunc _ _ a _)=>a
 |_=> .skip
def SO:Option Code->Code
 |some (.rangeFunc _ _ _ b)=>b
 |_=> .skip
noncomputable def Jq7:Code:=SP (VQ (U6 Tryz.f165) 0)
noncomputable def Jq0:Code:=SO (VQ (U6 Tryz.f165) 0)
def oR(k:Nat):St:={σ:=H3 [] (Jm7 p q).σ,m:=[(900,.row 3 1 k (λj=>[i (p+j)])),(0,.cells 61 [.row 900])],nx:=901}
def nX(k:Nat):G6->Option St
 | .normal=>some {σ:=H3 [] (Jm7 p q).σ,m:=[(900,.row 3 1 ((q-p+1).toNat) (λj=>[i (p+j)])),(0,.cells 61 [.row 900])],nx:=901}
 |_=>none
def T_as:CT:= .leaf (.normal,oR p q ((q-p+1).toNat))
def Xx4:UH:=GJ [(.cell 0 0,900,3,1)] (HF (oR p q (0)) (T_as p q))
abbrev KI:Prop:=ptr 0 0=ptr 0 0
theorem Jh5(VR: -1000000<=p/\p<=1000000)(UE: -1000000<=q/\q<=1000000):HO VN (.rangeFunc (rfF (VQ (U6 Tryz.f165) 0)) (jG (VQ (U6 Tryz.f165) 0)) Jq7 Jq0) (Xx4 p q):=by
 refine P9 [(.cell 0 0,900,3,1)] (L:=[]) (VJ.nil _) (VV.of (VP.nil _) (VM.nil _)) VY U2 (V:=Nat) (oR p q) (λk=>k<=((q-p+1).toNat)) (λk=>k) (nX p q) (x0:=0) VU rfl ?_ ?_ ?_ ?_ (g:=137) (caps:=[.ro [i p],.ro [i q]]) VS VS (ED p q VR UE) (λ_=>rfl) ?_
 ·rintro k;kernel_rfl
 ·rintro k y E h;unfold nX at h;split at h
  ·cases h;kernel_rfl
  ·cases h
 ·rintro k;rfl
 ·rintro k y E h;unfold nX at h;split at h
  ·cases h;rfl
  ·cases h
 ·rintro Q hQ k hx;refine ⟨λhlt=>⟨(k+1),rfl,?_⟩,λPJ=>?_⟩
  ·(with_reducible refine DF (t:=need [(k+1)*8<=140737488355328,RS 1 (U4 1 [iI (p+(k:Int))])] (need [Z8=Z8,VX (XS p q),KI,Z8=Z8,VX (XS p q),k+1=k+1,GT (k+1) (GG k (λj=>[iI (p+(j:Int))]) (U4 1 [iI (p+(k:Int))])) (λi=>[iI (p+(i:Int))]),VX (AV.row 900)] (leaf G6.normal))) VS ?_)
   simp only [VL.sat,UA,UG]
   refine ⟨⟨VI,λj hj a ha=>FN ha (by simp [AV.one,Value.oneCell'])⟩,λj hj=>?_,VI⟩
   exact cat1 hj
  ·subst PJ;exact hQ
end
def mkF(p:Int)(j:Nat):List AV:=[i (p+j)]
theorem Qr8(p q:Int)(VR: -1000000<=p/\p<=1000000)(UE: -1000000<=q/\q<=1000000):VW VN 165 [.x (.slice none 0 0),.fn (.func 137) [] [.ro [i p],.ro [i q]]] (.lst 1 ((q-p+1).toNat) (mkF p)):=by
 refine GA (L:=[Xx4 p q]) (VJ.nil _) (VV.of (VP.nil _) (VM.nil _)) VY Tryz.func165 (US Tryz.f165) (G0 (lpE (b:= .rangeFunc (rfF (VQ (U6 Tryz.f165) 0)) (jG (VQ (U6 Tryz.f165) 0)) Jq7 Jq0) VS<|Jh5 p q VR UE)) (t:=need [Z8=Z8,VX (XS p q),KI,Z8=Z8,VX (XS p q),0=0,∀(i:Nat),i<0->[]=[iI (p+(i:Int))],VX (AV.row 900)] (leaf (RV.lst 1 (q-p+1).toNat λj=>[iI (p+(j:Int))]))) VS ?_
 simp only [VL.sat,UA,UZ,GI,UC,UG]
 (with_reducible repeat' first|apply And.intro|intro _)
 all_goals first|exact True.intro|omega|with_reducible rfl|assumption|rfl|(rename_i h;exact absurd h (Nat.not_lt_zero _))|(rename_i hm;cases qM.1 hm;exact True.intro)|skip
def mA:UV
 |[.x (.slice none 0 0),.fn (.func 137) [] [.ro [.x (.int .i64 p)],.ro [.x (.int .i64 q)]]]=>some ([-1000000<=p/\p<=1000000,-1000000<=q/\q<=1000000],.lst 1 ((q-p+1).toNat) (mkF p))
 |_=>none
theorem Qr7:VO VN 165 mA:=by
 refine ⟨(UF Tryz.func165),?_⟩;intro avs ns res h hn;unfold mA at h;split at h
 ·cases h;exact Qr8 _ _ (hn _ VU) (hn _ VU)
 ·cases h
def S4:UV
 |[.fn (.func 137) [] [.ro [.x (.int .i64 p)],.ro [.x (.int .i64 q)]]]=>some ([-1000000<=p/\p<=1000000,-1000000<=q/\q<=1000000],.lst 1 ((q-p+1).toNat) (mkF p))
 |_=>none
theorem pO(p q:Int)(VR: -1000000<=p/\p<=1000000)(UE: -1000000<=q/\q<=1000000):FB VN 127 [.fn (.func 137) [] [.ro [i p],.ro [i q]]] (.lst 1 ((q-p+1).toNat) (mkF p)):=by
 refine HU (L:=[]) (VJ.cons Qr7 (VJ.nil _)) (VV.of (VP.nil _) (VM.nil _)) VY Tryz.func127 (US Tryz.f127) G4 (t:=need [(-1000000:Int)<=p/\p<=1000000,(-1000000:Int)<=q/\q<=1000000] (leaf (lst 1 (q-p+1).toNat λj=>[iI (p+(j:Int))]))) VS ?_
 simp only [VL.sat,UA,UG];exact ⟨⟨VR,UE⟩,rfl,rfl,λ_ _=>rfl⟩
theorem l8:LZ VN 127 S4:=by
 refine ⟨(UF Tryz.func127),?_⟩;intro avs ns res h hn;unfold S4 at h;split at h
 ·cases h;exact pO _ _ (hn _ VU) (hn _ VU)
 ·cases h
def keB(c:Int)(f:Nat->Int)(u0 u1 wi day:Int):Bool:=D4 (λk=>keP c f wi day (u0+k)) (u1-u0+1).toNat
def Wv0:UV
 |[.roI [.x (.int .i64 c),.x (.int .i64 T),.x (.int .i64 lo),.x (.int .i64 hi),A,B] 26 f 0,.agg [.x (.int .i64 u0),.x (.int .i64 u1),.x (.int .i64 wi)],.x (.int .i64 day)]=>some ([drB f,bdB f,1<=c/\c<=10,0<=u0/\u0<=u1/\u1<=10,0<=wi/\wi<=1000000,0<=day/\day<=100000],bl (keB c f u0 u1 wi day))
 |_=>none
theorem Xe6(c T lo hi:Int)(A B:AV)(f:Nat->Int)(u0 u1 wi day:Int)(VR:drB f)(UE:bdB f)(HP:1<=c/\c<=10)(DZ:0<=u0/\u0<=u1/\u1<=10)(BM:0<=wi/\wi<=1000000)(z6:0<=day/\day<=100000):VW VN 97 [.roI [i c,i T,i lo,i hi,A,B] 26 f 0,.agg [i u0,i u1,i wi],i day] (bl (keB c f u0 u1 wi day)):=by
 refine GA (L:=[]) (VJ.cons Xk9 (VJ.nil _)) (VV.of (VP.cons dC (VP.cons l8 (VP.nil _))) (VM.nil _)) VY Tryz.func97 (US Tryz.f97) G4 (t:=need [(-1000000:Int)<=u0/\u0<=1000000,(-1000000:Int)<=u1/\u1<=1000000] (need [UD 1 (u1-u0+1).toNat (mkF u0),(u1-u0+1).toNat<=100000,drB f,bdB f,(1:Int)<=c/\c<=10,(0:Int)<=day/\day<=100000,(0:Int)<=wi/\wi<=1000000,∀(j:Nat),j<(u1-u0+1).toNat->(0:Int)<=col 0 (mkF u0) j/\col 0 (mkF u0) j<=10] (leaf (RV.x (.bool (D4 (λk=>keP c f wi day (col 0 (mkF u0) k)) (u1-u0+1).toNat)))))) VS ?_
 simp only [VL.sat,UA,UZ,GI,UC,UG,keB];refine ⟨⟨VI,VI⟩,⟨λk hk=>rfl,VI,VR,UE,HP,z6,BM,λj hj=>?_⟩,rfl⟩
 show 0<=u0+(j:Int)/\u0+(j:Int)<=10;omega
theorem Xe5:VO VN 97 Wv0:=by
 refine ⟨(UF Tryz.func97),?_⟩;intro avs ns res h hn;unfold Wv0 at h;split at h
 ·cases h;exact Xe6 _ _ _ _ _ _ _ _ _ _ _ (hn _ VU) (hn _ VU) (hn _ VU) (hn _ VU) (hn _ VU) (hn _ VU)
 ·cases h
end Go.Proofs.YtlclobclmfhlmaaGreatDoor
namespace Go.Proofs.YtlclobclmfhlmaaGreatDoor.Bo
open Go Go.Sx Go.RowKit
open Go.Sx.VL (need branch leaf)
open Go.Sx.AV (lst ptr agg roI tup top)
def Tr(c:Nat)(T lo hi:Int)(n:Nat)(a b u v:Nat->Int)(h:Nat->Int):Prop:=
 h 0=0/\h c=T/\(∀k,k<c->lo<=h (k+1)-h k/\h (k+1)-h k<=hi)/\ ∀j,j<n->h (b j).toNat-h (a j).toNat<=v j/\(b j<c->u j+1<=h (b j+1).toNat-h (a j).toNat)
def ob(c:Nat)(M:Nat->Nat->Int)(h:Nat->Int):Prop:= ∀x y,x<=c->y<=c->h y-h x<=M x y
theorem jP{c:Nat}{M:Nat->Nat->Int}{h:Nat->Int}{p q:Nat}{v:Int}(hp:p<=c)(hq:q<=c):ob c (bnd M p q v) h↔ob c M h/\h q-h p<=v:=by
 constructor
 ·intro k;refine ⟨λx y hx hy=>Int.le_trans (k x y hx hy) (wL _ _ _ _ _ _),Int.le_trans (k p q hp hq) (aG _ _ _ _)⟩
 ·rintro ⟨k1,k2⟩ x y hx hy;have h1:=k1 x y hx hy;unfold bnd wU;split
  ·rename_i e;rw [e.1,e.2] at h1 ⊢;omega
  ·exact h1
theorem Xd8{c:Nat}{M N:Nat->Nat->Int}{h:Nat->Int}(hm: ∀x y,M x y<=N x y)(k:ob c M h):ob c N h:=λx y hx hy=>Int.le_trans (k x y hx hy) (hm x y)
theorem Zk6(M:Nat->Nat->Int)(o f t x y:Nat):fwS M o f t x y<=M x y:=wL _ _ _ _ _ _
theorem Wo6(M:Nat->Nat->Int)(o f:Nat): ∀t x y,fwT M o f t x y<=M x y
 | 0,_,_=>Int.le_refl _
 |t+1,x,y=>Int.le_trans (Zk6 _ _ _ _ _ _) (Wo6 M o f t x y)
theorem Wo9(c:Nat)(M:Nat->Nat->Int)(o:Nat): ∀f x y,fwF c M o f x y<=M x y
 | 0,_,_=>Int.le_refl _
 |f+1,x,y=>Int.le_trans (Wo6 _ _ _ _ _ _) (Wo9 c M o f x y)
theorem Xh4(c:Nat)(M:Nat->Nat->Int)(o x y:Nat):fwO c M (o+1) x y<=fwO c M o x y:=Wo9 _ _ _ _ _ _
theorem TY(c:Nat)(M:Nat->Nat->Int)(o:Nat): ∀d x y,fwO c M (o+d) x y<=fwO c M o x y
 | 0,_,_=>Int.le_refl _
 |d+1,x,y=>Int.le_trans (Xh4 c M (o+d) x y) (TY c M o d x y)
theorem Wo8(c:Nat)(M:Nat->Nat->Int)(o x y:Nat):fwO c M o x y<=M x y:=by
 have:=TY c M 0 o x y
 rwa [Nat.zero_add] at this
theorem Ja0{c:Nat}{M:Nat->Nat->Int}{h:Nat->Int}{o f:Nat}(ho:o<=c)(hf:f<=c)(k:ob c M h): ∀t,t<=c+1->ob c (fwT M o f t) h
 | 0,_=>k
 |t+1,ht=>by
  have ih:=Ja0 ho hf k t VI;refine (jP hf VI).2 ⟨ih,?_⟩;have h1:=ih f o hf ho;have h2:=ih o t ho VI;omega
theorem Ja2{c:Nat}{M:Nat->Nat->Int}{h:Nat->Int}{o:Nat}(ho:o<=c)(k:ob c M h): ∀f,f<=c+1->ob c (fwF c M o f) h
 | 0,_=>k
 |f+1,hf=>Ja0 ho VI (Ja2 ho k f VI) (c+1) (Nat.le_refl _)
theorem Ja1{c:Nat}{M:Nat->Nat->Int}{h:Nat->Int}(k:ob c M h): ∀o,o<=c+1->ob c (fwO c M o) h
 | 0,_=>k
 |o+1,ho=>Ja2 VI (Ja1 k o VI) (c+1) (Nat.le_refl _)
theorem Wo7{c:Nat}{M N:Nat->Nat->Int}{o f:Nat}(h0:0<=M o o)(hN: ∀x y,N x y=if x<f/\y<=c then min (M x y) (M x o+M o y) else M x y): ∀t,t<=c+1-> ∀x y,fwT N o f t x y=if (x<f/\y<=c)\/(x=f/\y<t) then min (M x y) (M x o+M o y) else M x y
 | 0,_,x,y=>by
  show N x y=_;rw [hN];by_cases h:x<f/\y<=c
  ·rw [if_pos h,if_pos (.inl h)]
  ·rw [if_neg h,if_neg VI]
 |t+1,ht,x,y=>by
  have ih:=Wo7 h0 hN t VI;show bnd (fwT N o f t) f t (fwT N o f t f o+fwT N o f t o t) x y=_;have e1:fwT N o f t f o=M f o:=by
   rw [ih];split<;>omega
  have e2:fwT N o f t o t=M o t:=by
   rw [ih];split<;>omega
  have e3:fwT N o f t f t=M f t:=by
   rw [ih,if_neg VI]
  unfold bnd wU;rw [e1,e2,e3];by_cases hxy:x=f/\y=t
  ·rw [if_pos hxy,if_pos VI,hxy.1,hxy.2]
  ·rw [if_neg hxy,ih];by_cases h:(x<f/\y<=c)\/(x=f/\y<t)
   ·rw [if_pos h,if_pos VI]
   ·rw [if_neg h,if_neg VI]
theorem Wp0{c:Nat}{M:Nat->Nat->Int}{o:Nat}(h0:0<=M o o): ∀f x y,fwF c M o f x y=if x<f/\y<=c then min (M x y) (M x o+M o y) else M x y
 | 0,x,y=>by
  rw [if_neg VI];rfl
 |f+1,x,y=>by
  show fwT (fwF c M o f) o f (c+1) x y=_;rw [Wo7 h0 (Wp0 h0 f) (c+1) (Nat.le_refl _)];by_cases h:(x<f/\y<=c)\/(x=f/\y<c+1)
  ·rw [if_pos h,if_pos VI]
  ·rw [if_neg h,if_neg VI]
theorem I5{c:Nat}{M:Nat->Nat->Int}: ∀k,k<=c+1->(∀o,o<k->0<=fwO c M o o o)-> ∀p x y,p<k->x<=c->y<=c->fwO c M k x y<=fwO c M k x p+fwO c M k p y
 | 0,_,_,p,x,y,hp,_,_=>absurd hp (Nat.not_lt_zero _)
 |k+1,hk,hd,p,x,y,hp,hx,hy=>by
  have ih:=I5 k VI (λo ho=>hd o VI)
  have h0:=hd k VI;have eq:=Wp0 (c:=c) h0 (c+1);show fwF c (fwO c M k) k (c+1) x y<=fwF c (fwO c M k) k (c+1) x p+fwF c (fwO c M k) k (c+1) p y;rw [eq x y,eq x p,eq p y,if_pos VI,if_pos VI,if_pos VI];rcases (show p=k\/p<k by omega) with rfl|hpk
  ·omega
  ·have i1:=ih p x y hpk hx hy;have i2:=ih p x k hpk hx VI;have i3:=ih p k y hpk VI hy;have i4:=ih p k k hpk VI VI;omega
theorem Zg5{c:Nat}{h:Nat->Int}:ob c (ini c (c+1) 0) h↔ ∀x y,x<=c->y<=c->h y-h x<=2000:=by
 constructor
 ·intro k x y hx hy;have:=k x y hx hy;unfold ini at this;split at this<;>omega
 ·intro k x y hx hy;unfold ini;by_cases e:x=y
  ·subst e;rw [if_neg VI];omega
  ·rw [if_pos VI];exact k x y hx hy
theorem Wd2{c:Nat}{lo hi:Int}{h:Nat->Int}: ∀k,k<=c->(ob c (cel c lo hi k) h↔ob c (ini c (c+1) 0) h/\ ∀j,j<k->lo<=h (j+1)-h j/\h (j+1)-h j<=hi)
 | 0,_=>⟨λk=>⟨k,λj hj=>absurd hj (Nat.not_lt_zero _)⟩,λk=>k.1⟩
 |k+1,hk=>by
  have ih:=Wd2 (c:=c) (lo:=lo) (hi:=hi) (h:=h) k VI;show ob c (bnd (bnd (cel c lo hi k) k (k+1) hi) (k+1) k (-lo)) h↔_;rw [jP VI VI,jP VI VI,ih];constructor
  ·rintro ⟨⟨⟨h1,h2⟩,h3⟩,h4⟩;refine ⟨h1,λj hj=>?_⟩
   rcases (show j<k\/j=k by omega) with h|rfl
   ·exact h2 j h
   ·omega
  ·rintro ⟨h1,h2⟩;have h3:=h2 k VI;exact ⟨⟨⟨h1,λj hj=>h2 j VI⟩,VI⟩,VI⟩
def nL(c:Nat)(n:Nat)(a b u v:Nat->Int):Prop:= ∀j,j<n->(0<=a j/\a j<=(c:Int)-1)/\(a j<=b j/\b j<=c)/\0<=u j/\u j<=v j/\v j<=2000
theorem Xq4{c:Nat}{T lo hi:Int}{a b u v:Nat->Int}{h:Nat->Int}: ∀n,nL c n a b u v->(ob c (rdM c T lo hi a b u v n) h↔ob c (cel c lo hi c) h/\h c-h 0=T/\ ∀j,j<n->h (b j).toNat-h (a j).toNat<=v j/\(b j<c->u j+1<=h (b j+1).toNat-h (a j).toNat))
 | 0,_=>by
  show ob c (bnd (bnd (cel c lo hi c) 0 c T) c 0 (-T)) h↔_;rw [jP VI VI,jP VI VI];constructor
  ·rintro ⟨⟨h1,h2⟩,h3⟩;exact ⟨h1,VI,λj hj=>absurd hj (Nat.not_lt_zero _)⟩
  ·rintro ⟨h1,h2,_⟩;exact ⟨⟨h1,VI⟩,VI⟩
 |n+1,hr=>by
  have ih:=Xq4 (c:=c) (T:=T) (lo:=lo) (hi:=hi) (a:=a) (b:=b) (u:=u) (v:=v) (h:=h) n (λj hj=>hr j VI)
  have hn:=hr n VI;have key:ob c (rdM c T lo hi a b u v (n+1)) h↔ob c (rdM c T lo hi a b u v n) h/\h (b n).toNat-h (a n).toNat<=v n/\(b n<c->u n+1<=h (b n+1).toNat-h (a n).toNat):=by
   show ob c (rdS c (rdM c T lo hi a b u v n) _ _ _ _) h↔_;unfold rdS;split
   ·rename_i hb;rw [jP VI VI,jP VI VI];constructor
    ·rintro ⟨⟨h1,h2⟩,h3⟩;exact ⟨h1,h2,λ_=>VI⟩
    ·rintro ⟨h1,h2,h3⟩;have:=h3 hb;exact ⟨⟨h1,h2⟩,VI⟩
   ·rename_i hb;rw [jP VI VI];constructor
    ·rintro ⟨h1,h2⟩;exact ⟨h1,h2,λh=>absurd h hb⟩
    ·rintro ⟨h1,h2,_⟩;exact ⟨h1,h2⟩
  rw [key,ih];constructor
  ·rintro ⟨⟨h1,h2,h3⟩,h4⟩;refine ⟨h1,h2,λj hj=>?_⟩
   rcases (show j<n\/j=n by omega) with h|rfl
   ·exact h3 j h
   ·exact h4
  ·rintro ⟨h1,h2,h3⟩;exact ⟨⟨h1,h2,λj hj=>h3 j VI⟩,h3 n VI⟩
theorem N5{lo:Int}{h:Nat->Int}{c:Nat}(hl:0<=lo)(hs: ∀k,k<c->lo<=h (k+1)-h k)(x:Nat): ∀d,x+d<=c->h x<=h (x+d)
 | 0,_=>Int.le_refl _
 |d+1,hd=>by
  have ih:=N5 hl hs x d VI;have:=hs (x+d) VI;rw [←Nat.add_assoc];omega
theorem Zv2{c:Nat}{T lo hi:Int}{n:Nat}{a b u v:Nat->Int}{h:Nat->Int}(hb:1<=lo/\lo<=hi/\hi<=200/\1<=T/\T<=2000)(hr:nL c n a b u v)(h0:h 0=0):Tr c T lo hi n a b u v h↔ob c (rdM c T lo hi a b u v n) h:=by
 rw [Xq4 n hr,Wd2 c (Nat.le_refl _),Zg5];constructor
 ·rintro ⟨_,h1,h2,h3⟩;refine ⟨⟨λx y hx hy=>?_,h2⟩,VI,h3⟩
  have m:=λx d=>N5 (lo:=lo) (h:=h) (c:=c) VI (λk hk=>(h2 k hk).1) x d
  have m1:=m 0 x VI;have m2:=m y (c-y) VI;rw [Nat.zero_add] at m1;rw [show y+(c-y)=c by omega] at m2
  omega
 ·rintro ⟨⟨_,h2⟩,h3,h4⟩;exact ⟨h0,VI,h2,h4⟩
theorem Xc9{c:Int}{n:Nat}{a b u v:Nat->Int}(hc:1<=c/\c<=10)(h:D4 (λk=>rdB c (a k) (b k) (u k) (v k)) n=true):nL c.toNat n a b u v:=λj hj=>by
 have:=Xq2 (GR.1 h j hj);omega
section
variable {c:Nat}{T lo hi:Int}
theorem tV{n:Nat}{a b u v:Nat->Int}:okR c T lo hi n a b u v=true↔ ∀k,k<=c->0<=fwM c T lo hi n a b u v k k:=by
 unfold okR;rw [GR];constructor
 ·intro h k hk;simpa using h k VI
 ·intro h k hk;simpa using h k VI
theorem Qx4{n:Nat}{a b u v:Nat->Int}{h:Nat->Int}(hb:1<=lo/\lo<=hi/\hi<=200/\1<=T/\T<=2000)(hr:nL c n a b u v)(h0:h 0=0):Tr c T lo hi n a b u v h↔ob c (fwM c T lo hi n a b u v) h:=by
 rw [Zv2 hb hr h0];exact ⟨λk=>Ja1 k (c+1) (Nat.le_refl _),λk=>Xd8 (λx y=>Wo8 c _ (c+1) x y) k⟩
theorem Zv5{n:Nat}{a b u v:Nat->Int}{h:Nat->Int}(hb:1<=lo/\lo<=hi/\hi<=200/\1<=T/\T<=2000)(hr:nL c n a b u v)(k:Tr c T lo hi n a b u v h){x:Nat}(hx:x<=c): -(fwM c T lo hi n a b u v x 0)<=h x/\h x<=fwM c T lo hi n a b u v 0 x:=by
 have k1:=(Qx4 hb hr k.1).1 k;have h1:=k1 x 0 hx VI;have h2:=k1 0 x VI hx;have:=k.1;omega
theorem OC{n:Nat}{a b u v:Nat->Int}(h:okR c T lo hi n a b u v=true){p x y:Nat}(hp:p<=c)(hx:x<=c)(hy:y<=c):fwM c T lo hi n a b u v x y<=fwM c T lo hi n a b u v x p+fwM c T lo hi n a b u v p y:=by
 refine I5 (c+1) (Nat.le_refl _) (λo ho=>?_) p x y VI hx hy
 have h1:=tV.1 h o VI;have h2:=TY c (rdM c T lo hi a b u v n) o (c+1-o) o o;rw [show o+(c+1-o)=c+1 by omega] at h2
 exact Int.le_trans h1 h2
theorem Zf5{a b u v:Nat->Int}(n:Nat):rdM c T lo hi a b u v n 0 0<=0:=by
 have h1:=C4 c T lo hi a b u v 0 n (Nat.zero_le _) 0 0;have h2:rdM c T lo hi a b u v 0 0 0<=cel c lo hi c 0 0:=Int.le_trans (wL _ _ _ _ _ _) (wL _ _ _ _ _ _);have h3: ∀k,cel c lo hi k 0 0<=0:=by
  intro k
  induction k with
  |zero=>unfold cel ini;rw [if_neg VI];exact Int.le_refl _
  |succ k ih=>exact Int.le_trans (Int.le_trans (wL _ _ _ _ _ _) (wL _ _ _ _ _ _)) ih
 exact Int.le_trans h1 (Int.le_trans h2 (h3 c))
theorem Xr6{n:Nat}{a b u v:Nat->Int}(h:okR c T lo hi n a b u v=true):fwM c T lo hi n a b u v 0 0=0:=by
 have h1:=tV.1 h 0 (Nat.zero_le _);have h2:fwM c T lo hi n a b u v 0 0<=0:=Int.le_trans (Wo8 c _ (c+1) 0 0) (Zf5 n);omega
theorem Zv4{n:Nat}{a b u v:Nat->Int}(hb:1<=lo/\lo<=hi/\hi<=200/\1<=T/\T<=2000)(hr:nL c n a b u v)(h:okR c T lo hi n a b u v=true):Tr c T lo hi n a b u v (λk=>fwM c T lo hi n a b u v 0 k):=by
 refine (Qx4 hb hr (Xr6 h)).2 λx y hx hy=>?_
 have:=OC h hx (Nat.zero_le _) hy;show fwM c T lo hi n a b u v 0 y-fwM c T lo hi n a b u v 0 x<=_;omega
theorem Zv3{n:Nat}{a b u v:Nat->Int}(hb:1<=lo/\lo<=hi/\hi<=200/\1<=T/\T<=2000)(hr:nL c n a b u v)(h:okR c T lo hi n a b u v=true):Tr c T lo hi n a b u v (λk=> -(fwM c T lo hi n a b u v k 0)):=by
 refine (Qx4 hb hr (by rw [Xr6 h];rfl)).2 λx y hx hy=>?_
 have:=OC h hy hx (Nat.zero_le _);show -(fwM c T lo hi n a b u v y 0)- -(fwM c T lo hi n a b u v x 0)<=_;omega
end
end Go.Proofs.YtlclobclmfhlmaaGreatDoor.Bo
namespace Go.Proofs.YtlclobclmfhlmaaGreatDoor
open Go Go.Sx Go.RowKit Bo
open Go.Sx.VL (need branch leaf)
open Go.Sx.AV (lst ptr agg roI tup top)
def usB(c u0 u1 wi:Int):Bool:=bt 0 u0 u1&&decide (u1<=c)&&bt 0 wi 1000
section
variable (c T lo hi:Int)
def vaB(m:Nat)(p q:Nat->Int)(pl ph dl dh:Int):Bool:=decide (Pt.blE m p q pl ph=0)&&BX c T lo hi&&insB 0 dl dh 100
def rdE(n:Nat)(a b u v:Nat->Int)(m:Nat)(p q:Nat->Int)(pl ph dl dh:Int):Int:=if n>12\/m>8 then 3 else if vaB c T lo hi m p q pl ph dl dh=true/\(eB c T lo hi n a b u v=0\/eB c T lo hi n a b u v=9) then eB c T lo hi n a b u v else 1
def bdL(n:Nat)(a b u v:Nat->Int)(m:Nat)(p q:Nat->Int)(pl ph:Int)(k:Nat):Int:=dnI (-(fwB c T lo hi n a b u v k 0)*Pt.boilI m p q pl) T
def bdH(n:Nat)(a b u v:Nat->Int)(m:Nat)(p q:Nat->Int)(pl ph:Int)(k:Nat):Int:=upI (fwB c T lo hi n a b u v 0 k*Pt.boilI m p q ph) T
end
def wkF(pl ph dl dh:Int)(L H:Nat->Int)(k j:Nat):Int:=if j=0 then pl else if j=1 then ph else if j=2 then dl else if j=3 then dh else if j<4+2*k then (if j%2=0 then L ((j-4) / 2) else H ((j-4) / 2)) else 0
def wkA(c T lo hi:Int)(n:Nat)(a b u v:Nat->Int)(m:Nat)(p q:Nat->Int)(pl ph dl dh:Int):Nat->Int:=wkF pl ph dl dh (bdL c T lo hi n a b u v m p q pl ph) (bdH c T lo hi n a b u v m p q pl ph) (c.toNat+1)
theorem Xb6{c u0 u1 wi:Int}:usB c u0 u1 wi=true↔(0<=u0/\u0<=u1)/\u1<=c/\0<=wi/\wi<=1000:=by
 simp only [usB,H2,j8,bt_iff,and_assoc]
theorem Xp2{c:Nat}{T lo hi:Int}{n:Nat}{a b u v:Nat->Int}{h:Nat->Int}(hl:0<=lo)(k:Tr c T lo hi n a b u v h){x:Nat}(hx:x<=c):0<=h x/\h x<=T:=by
 obtain ⟨h0,h1,h2,_⟩:=k;have up: ∀y,y<=c->0<=h y:=by
  intro y
  induction y with
  |zero=>intro _;omega
  |succ y ih=>
   intro hy;have:=h2 y VI;have:=ih VI;omega
 have dn: ∀d,d<=c->h (c-d)<=T:=by
  intro d
  induction d with
  |zero=>intro _;rw [Nat.sub_zero,h1];exact Int.le_refl _
  |succ d ih=>
   intro hd;have:=h2 (c-(d+1)) VI;rw [show c-(d+1)+1=c-d by omega] at this
   have:=ih VI;omega
 refine ⟨up x hx,?_⟩;have:=dn (c-x) VI;rw [show c-(c-x)=x by omega] at this
 exact this
theorem Xr2{c T lo hi:Int}{n:Nat}{a b u v:Nat->Int}(h:eB c T lo hi n a b u v=0){k:Nat}(hk:(k:Int)<=c):0<= -(fwB c T lo hi n a b u v k 0)/\ -(fwB c T lo hi n a b u v k 0)<=fwB c T lo hi n a b u v 0 k/\fwB c T lo hi n a b u v 0 k<=T:=by
 obtain ⟨h1,_,h3⟩:=gE.1 h;have hf:=kX.1 h1;have hb:=BH hf.1;have hr:=Xc9 hb.1 hf.2.2;have tl:=Zv3 hb.2.1 hr h3;have th:=Zv4 hb.2.1 hr h3;have g1:=Xp2 VI tl (x:=k) VI;have g2:=Xp2 VI th (x:=k) VI;have g3:=Zv5 hb.2.1 hr tl (x:=k) VI;unfold fwB;omega
theorem mV{c T lo hi:Int}{m:Nat}{p q:Nat->Int}{pl ph dl dh:Int}:vaB c T lo hi m p q pl ph dl dh=true↔Pt.blE m p q pl ph=0/\BX c T lo hi=true/\0<=dl/\dl<=dh/\dh<=100:=by
 simp only [vaB,H2,j8,insB_iff,and_assoc]
theorem Qy4{m:Nat}{p q:Nat->Int}{pl ph:Int}(h:Pt.blE m p q pl ph=0):(1<=Pt.boilI m p q pl/\Pt.boilI m p q pl<=2000)/\(1<=Pt.boilI m p q ph/\Pt.boilI m p q ph<=2000)/\Pt.boilI m p q pl<=Pt.boilI m p q ph/\Pt.blLo m p q pl ph=Pt.boilI m p q pl/\Pt.blHi m p q pl ph=Pt.boilI m p q ph:=by
 obtain ⟨h1,h2,h3,h4,h5,h6⟩:=Pt.blE_ok h;have a1:=Pt.boil_spec (x:=pl) h1 h3 VI;have a2:=Pt.boil_spec (x:=ph) h1 h3 VI;have a3:=Pt.boil_mono h1 h3 h4 h5 h6;exact ⟨VI,VI,a3,if_pos h,if_pos h⟩
theorem tM{x y X Y:Int}(hx:0<=x/\x<=X)(hy:0<=y/\y<=Y):0<=x*y/\x*y<=X*Y:=by
 have h1:=Int.mul_nonneg hx.1 hy.1;have h2:=Int.mul_le_mul hx.2 hy.2 hy.1 (show 0<=X by omega)
 omega
theorem Zb2(c T lo hi:Int)(n:Nat)(a b u v:Nat->Int)(m:Nat)(p q:Nat->Int)(pl ph dl dh u0 u1 wi:Int):VW VN 125 [.agg [i c,i T,i lo,i hi,rds n a b u v,Pt.scs m p q,i pl,i ph,i dl,i dh],.agg [i u0,i u1,i wi]] (bl (usB c u0 u1 wi)):=by
 refine U0 (L:=[]) (VJ.cons RH (VJ.nil _)) VY Tryz.func125 (US Tryz.f125) U2 (t:=branch (bt (0:Int) u0 u1) (branch (decide (u1<=c)) (leaf (RV.x (.bool (bt (0:Int) wi (1000:Int))))) (leaf (RV.x (KY)))) (leaf (RV.x (KY)))) VS ?_;simp only [VL.sat,UA,UZ,GI,UC,UG];all_goals (simp+contextual [usB,Bool.and_assoc]);all_goals omega
def Xs5:UV
 |[.agg [.x (.int .i64 c),.x (.int .i64 T),.x (.int .i64 lo),.x (.int .i64 hi),.lst 4 n fr,.lst 2 m ft,.x (.int .i64 pl),.x (.int .i64 ph),.x (.int .i64 dl),.x (.int .i64 dh)],.agg [.x (.int .i64 u0),.x (.int .i64 u1),.x (.int .i64 wi)]]=>some ([UD 4 n fr,UD 2 m ft],bl (usB c u0 u1 wi))
 |_=>none
theorem Zb1:VO VN 125 Xs5:=by
 refine ⟨(UF Tryz.func125),?_⟩;intro avs ns res h hn;unfold Xs5 at h;split at h
 ·cases h;have hr:UD 4 _ _:=hn _ GD;have ht:UD 2 _ _:=hn _ (HN _ GD);exact (Zb2 _ _ _ _ _ _ _ _ _ _ _ _ _ _ _ _ _ _ _).same (.cons (LT.same (.cons (.refl _) (.cons (.refl _) (.cons (.refl _) (.cons (.refl _) (.cons (.lst 4 _ _ _ hr) (.cons (.lst 2 _ _ _ ht) (.cons (.refl _) (.cons (.refl _) (.cons (.refl _) (.cons (.refl _) .nil))))))))))) (.cons (.refl _) .nil))
 ·cases h
theorem Qw8(c T lo hi:Int)(n:Nat)(a b u v:Nat->Int)(m:Nat)(p q:Nat->Int)(pl ph dl dh:Int)(VR:m<=100000):VW VN 133 [.agg [i c,i T,i lo,i hi,rds n a b u v,Pt.scs m p q,i pl,i ph,i dl,i dh]] (.tup [.agg [i (Pt.blLo m p q pl ph),i (Pt.blHi m p q pl ph)],bl (vaB c T lo hi m p q pl ph dl dh)]):=by
 refine GA (L:=[]) (VJ.cons Pt.Boils_ok (VJ.cons Bo.CheckTube_ok (VJ.cons PP (VJ.nil _)))) (VV.of (VP.nil _) (VM.nil _)) VY Tryz.func133 (US Tryz.f133) G4 (t:=let z0:=(leaf (RV.tup [RV.agg [RV.x (.int .i64 (Pt.blLo m p q pl ph)),RV.x (.int .i64 (Pt.blHi m p q pl ph))],RV.x (KY)]));(need [UD 2 m λk=>[Pt.i (p k),Pt.i (q k)],m<=100000] (branch (Pt.blE m p q pl ph==0) (branch ((if BX c T lo hi=true then (0:Int) else (1:Int))==0) (leaf (RV.tup [RV.agg [RV.x (.int .i64 (Pt.blLo m p q pl ph)),RV.x (.int .i64 (Pt.blHi m p q pl ph))],RV.x (.bool (insB (0:Int) dl dh (100:Int)))])) z0) z0))) VS ?_
 simp only [VL.sat,UA,UZ,GI,UC,UG,beq_iff_eq,beq_eq_false_iff_ne];refine ⟨⟨Pt.isRec2 m p q,VR⟩,λh1=>⟨λh2=>?_,λh2=>?_⟩,λh1=>?_⟩
 ·cases ht:BX c T lo hi
  ·rw [ht] at h2;simp at h2
  ·simp [vaB,h1,ht]
 ·cases ht:BX c T lo hi
  ·simp [vaB,ht]
  ·rw [ht] at h2;simp at h2
 ·simp [vaB,h1]
def aN:UV
 |[.agg [.x (.int .i64 c),.x (.int .i64 T),.x (.int .i64 lo),.x (.int .i64 hi),.lst 4 n fr,.lst 2 m ft,.x (.int .i64 pl),.x (.int .i64 ph),.x (.int .i64 dl),.x (.int .i64 dh)]]=>some ([UD 4 n fr,UD 2 m ft,m<=100000],.tup [.agg [i (Pt.blLo m (Pt.col 0 ft) (Pt.col 1 ft) pl ph),i (Pt.blHi m (Pt.col 0 ft) (Pt.col 1 ft) pl ph)],bl (vaB c T lo hi m (Pt.col 0 ft) (Pt.col 1 ft) pl ph dl dh)])
 |_=>none
theorem bL:VO VN 133 aN:=by
 refine ⟨(UF Tryz.func133),?_⟩;intro avs ns res h hn;unfold aN at h;split at h
 ·cases h;have hr:UD 4 _ _:=hn _ GD;have ht:UD 2 _ _:=hn _ (HN _ GD);exact (Qw8 _ _ _ _ _ _ _ _ _ _ _ _ _ _ _ _ (hn _ VU)).same (.cons (LT.same (.cons (.refl _) (.cons (.refl _) (.cons (.refl _) (.cons (.refl _) (.cons (.lst 4 _ _ _ hr) (.cons (.lst 2 _ _ _ ht) (.cons (.refl _) (.cons (.refl _) (.cons (.refl _) (.cons (.refl _) .nil))))))))))) .nil)
 ·cases h
section
variable {pl ph dl dh:Int}{L H:Nat->Int}
theorem Xa9{k j:Nat}:j5 (4+2*k) [L k,H k] (wkF pl ph dl dh L H k) j=wkF pl ph dl dh L H (k+1) j:=by
 simp only [j5,UO];unfold wkF;by_cases h1:j=4+2*k+1
 ·rw [if_pos h1,if_neg VI,if_neg VI,if_neg VI,if_neg VI,if_pos VI,if_neg VI,show (j-4) / 2=k by omega]
 ·rw [if_neg h1];by_cases h2:j=4+2*k
  ·rw [if_pos h2,if_neg VI,if_neg VI,if_neg VI,if_neg VI,if_pos VI,if_pos VI,show (j-4) / 2=k by omega]
  ·rw [if_neg h2];by_cases h3:j<4+2*k
   ·rw [if_pos h3,if_pos (show j<4+2*(k+1) by omega)]
   ·rw [if_neg h3,if_neg (show ¬j<4+2*(k+1) by omega)]
theorem Xa8{j:Nat}(hj:j<26):U7 ([pl,ph,dl,dh]++bC 22) j=wkF pl ph dl dh L H 0 j:=by
 rcases (show j=0\/j=1\/j=2\/j=3\/j=4\/j=5\/j=6\/j=7\/j=8\/j=9\/j=10\/j=11\/j=12\/j=13\/j=14\/j=15\/j=16\/j=17\/j=18\/j=19\/j=20\/j=21\/j=22\/j=23\/j=24\/j=25 by omega) with rfl|rfl|rfl|rfl|rfl|rfl|rfl|rfl|rfl|rfl|rfl|rfl|rfl|rfl|rfl|rfl|rfl|rfl|rfl|rfl|rfl|rfl|rfl|rfl|rfl|rfl<;>rfl
end
abbrev QR(n:Nat)(a:Nat->Int)(b:Nat->Int)(u:Nat->Int)(v:Nat->Int):AV:=lst 4 n λk=>[iI (a k),iI (b k),iI (u k),iI (v k)]
abbrev QX(c:Int)(T:Int)(lo:Int)(hi:Int)(n:Nat)(a:Nat->Int)(b:Nat->Int)(u:Nat->Int)(v:Nat->Int):AV:=lst 2 (rL c T lo hi n a b u v) λk=>[iI (-fwB c T lo hi n a b u v k 0),iI (fwB c T lo hi n a b u v 0 k)]
abbrev QY(m:Nat)(p:Nat->Int)(q:Nat->Int):AV:=lst 2 m λk=>[iI (p k),iI (q k)]
abbrev Z2:AV:=AV.x (.pointer none)
section
variable (c T lo hi:Int)(n:Nat)(a b u v:Nat->Int)(m:Nat)(p q:Nat->Int)(pl ph dl dh:Int)
def Zo6:St:={σ:=[agg [iI c,iI T,iI lo,iI hi,QR n a b u v,QY m p q,iI pl,iI ph,iI dl,iI dh],ptr 0 0,Z2,iI 0,ptr 18 0,AV.x (.bool (vaB c T lo hi m p q pl ph dl dh)),QX c T lo hi n a b u v,iI (eB c T lo hi n a b u v),ptr 45 0]++HG 43 [QX c T lo hi n a b u v,iI (↑(rL c T lo hi n a b u v):Int)]++HG 31 [],m:=[(45,GM.ints 252 [iI c,iI T,iI lo,iI hi,QR n a b u v,QY m p q] 26 λa=>U7 ([pl,ph,dl,dh]++bC 22) a),(18,GM.cells 27 [iI (Pt.blLo m p q pl ph),iI (Pt.blHi m p q pl ph)]),(0,GM.cells 126 [iI c,iI T,iI lo,iI hi,QR n a b u v,QY m p q,iI pl,iI ph,iI dl,iI dh])],nx:=50}
noncomputable def Jn5:Code:=U8 (VQ (U6 Tryz.f101) 0)
def Wg3(k:Nat):St:=(upE [(54,i k)] [(45,.ints 252 [i c,i T,i lo,i hi,rds n a b u v,Pt.scs m p q] 26 (wkF pl ph dl dh (bdL c T lo hi n a b u v m p q pl ph) (bdH c T lo hi n a b u v m p q pl ph) k)),(18,.cells 27 [i (Pt.boilI m p q pl),i (Pt.boilI m p q ph)]),(0,.cells 126 [i c,i T,i lo,i hi,rds n a b u v,Pt.scs m p q,i pl,i ph,i dl,i dh])] (Zo6 c T lo hi n a b u v m p q pl ph dl dh))
def SX(k:Nat):G6->Option St
 | .exit 1=>some (upE [(54,i ((c.toNat+1:Nat):Int))] [(45,.ints 252 [i c,i T,i lo,i hi,rds n a b u v,Pt.scs m p q] 26 (wkF pl ph dl dh (bdL c T lo hi n a b u v m p q pl ph) (bdH c T lo hi n a b u v m p q pl ph) (c.toNat+1))),(18,.cells 27 [i (Pt.boilI m p q pl),i (Pt.boilI m p q ph)]),(0,.cells 126 [i c,i T,i lo,i hi,rds n a b u v,Pt.scs m p q,i pl,i ph,i dl,i dh])] (Zo6 c T lo hi n a b u v m p q pl ph dl dh))
 |_=>none
def Ji7:CT:= .leaf (.exit 1,(SX c T lo hi n a b u v m p q pl ph dl dh 0 (.exit 1)).getD (Zo6 c T lo hi n a b u v m p q pl ph dl dh))
def Xu0:UH:=GJ [] (HF (Wg3 c T lo hi n a b u v m p q pl ph dl dh (0)) (Ji7 c T lo hi n a b u v m p q pl ph dl dh))
end
abbrev X3(c:Int)(T:Int)(lo:Int)(hi:Int)(n:Nat)(a:Nat->Int)(b:Nat->Int)(u:Nat->Int)(v:Nat->Int)(m:Nat)(p:Nat->Int)(q:Nat->Int)(pl:Int)(ph:Int)(dl:Int)(dh:Int):Prop:=agg [iI c,iI T,iI lo,iI hi,QR n a b u v,QY m p q,iI pl,iI ph,iI dl,iI dh]=agg [iI c,iI T,iI lo,iI hi,QR n a b u v,QY m p q,iI pl,iI ph,iI dl,iI dh]
abbrev K5:Prop:=(0:Int)=0
abbrev KP:List (Nat×UV):=[(133,aN),(134,Bo.S_Heights),(135,sG),(136,Zm8)]
abbrev Y2:Prop:=ptr 18 0=ptr 18 0
abbrev YN(n:Nat)(a:Nat->Int)(b:Nat->Int)(u:Nat->Int)(v:Nat->Int):Prop:=(QR n a b u v)=QR n a b u v
abbrev YR(m:Nat)(p:Nat->Int)(q:Nat->Int):Prop:=(QY m p q)=QY m p q
abbrev YU(c:Int)(T:Int)(lo:Int)(hi:Int)(n:Nat)(a:Nat->Int)(b:Nat->Int)(u:Nat->Int)(v:Nat->Int):Prop:=(QX c T lo hi n a b u v)=QX c T lo hi n a b u v
section
variable (c T lo hi:Int)(n:Nat)(a b u v:Nat->Int)(m:Nat)(p q:Nat->Int)(pl ph dl dh:Int)
theorem Zy1(VR:n<=12)(UE:m<=8)(HP:vaB c T lo hi m p q pl ph dl dh=true)(DZ:eB c T lo hi n a b u v=0):G7 VN (.loop Jn5) (Xu0 c T lo hi n a b u v m p q pl ph dl dh):=by
 refine UX [] (L:=[]) (VJ.cons bL (VJ.cons Bo.Heights_ok (VJ.cons aC (VJ.cons Qx3 (VJ.nil _))))) (VV.of (VP.nil _) (VM.nil _)) VY U2 (X:=Nat) (Wg3 c T lo hi n a b u v m p q pl ph dl dh) (λk=>k<=c.toNat+1) (λk=>c.toNat+1-k) (SX c T lo hi n a b u v m p q pl ph dl dh) (x0:=0) VU ?_ ?_ ?_
 ·rintro k;kernel_rfl
 ·rintro k y E h;unfold SX at h;split at h
  ·cases h;kernel_rfl
  ·cases h
 ·rintro Q hQ k hx;refine ⟨(k+1),?_⟩;(with_reducible refine DF (t:=let z0:=(bdL c T lo hi n a b u v m p q pl ph);let z1:=(bdH c T lo hi n a b u v m p q pl ph);let z5:=fwB c T lo hi n a b u v;let z2:=z5 k;let z3:=Pt.boilI m p q pl;let z4:=Pt.boilI m p q ph;let z6:=(rL c T lo hi n a b u v);let z7:=YU c T lo hi n a b u v;(branch (decide ((k:Int)<(z6:Int))) (need [UI k z6] (need [VK (-z2 0*z3)] (need [(1:Int)<=T/\T<=100000,(0:Int)<= -z2 0*z3/\ -z2 0*z3<=1000000000000] (need [VK (z5 0 k*z4)] (need [(1:Int)<=T/\T<=100000,(0:Int)<=z5 0 k*z4/\z5 0 k*z4<=1000000000000] (need [UI k 11] (need [k*2+10-1-1-1-1-1-1+List.length [dnI (-z2 0*z3) T,upI (z5 0 k*z4) T]<=26] (need [VK ((k:Int)+1)] (need [X3 c T lo hi n a b u v m p q pl ph dl dh,KI,Z2=Z2,K5,Y2,VX (vaB c T lo hi m p q pl ph dl dh),z7,VX (eB c T lo hi n a b u v),VX (ptr 45 0),z7,VX (z6:Int),(k:Int)+1=(↑(k+1):Int),c=c,T=T,lo=lo,hi=hi,YN n a b u v,YR m p q,26=26,GT 26 (UO (k*2+10-1-1-1-1-1-1+1) (upI (z5 0 k*z4) T) (UO (k*2+10-1-1-1-1-1-1) (dnI (-z2 0*z3) T) (wkF pl ph dl dh z0 z1 k))) (wkF pl ph dl dh z0 z1 (k+1)),VX (z3),VX (z4),c=c,T=T,lo=lo,hi=hi,YN n a b u v,YR m p q,pl=pl,ph=ph,dl=dl,dh=dh] (leaf G6.normal)))))))))) (need [X3 c T lo hi n a b u v m p q pl ph dl dh,KI,Z2=Z2,K5,Y2,VX (vaB c T lo hi m p q pl ph dl dh),z7,VX (eB c T lo hi n a b u v),VX (ptr 45 0),z7,VX (z6:Int),(k:Int)=(↑(Int.toNat c+1):Int),c=c,T=T,lo=lo,hi=hi,YN n a b u v,YR m p q,26=26,GT 26 (wkF pl ph dl dh z0 z1 k) (wkF pl ph dl dh z0 z1 (Int.toNat c+1)),VX (z3),VX (z4),c=c,T=T,lo=lo,hi=hi,YN n a b u v,YR m p q,pl=pl,ph=ph,dl=dl,dh=dh] (leaf (G6.exit 1))))) VS ?_);simp only [Ji7,SX,VL.sat,GS] at hQ;have hv:=mV.1 HP;have hb:=BH hv.2.1;have hs:=Qy4 hv.1;have hl:rL c T lo hi n a b u v=c.toNat+1:=if_pos DZ;simp only [VL.sat,UA,UZ,GI,UC,VK,UG,H9,F9,L1,hl]
  refine ⟨λh=>?_,λh=>?_⟩
  ·have hk:=Xr2 DZ (k:=k) VI;have m1:=tM (x:= -(fwB c T lo hi n a b u v k 0)) (y:=Pt.boilI m p q pl) (X:=2000) (Y:=2000) VI VI;have m2:=tM (x:=fwB c T lo hi n a b u v 0 k) (y:=Pt.boilI m p q ph) (X:=2000) (Y:=2000) VI VI;have e6:k*2+10-1-1-1-1-1-1=4+2*k:=VI;rw [e6]
   (with_reducible repeat' first|apply And.intro|intro _)
   all_goals first|exact True.intro|omega|with_reducible rfl|exact Xa9
  ·obtain rfl:k=c.toNat+1:=VI
   (with_reducible repeat' first|apply And.intro|intro _)
   all_goals first|exact True.intro|omega|with_reducible rfl|(rename_i E hE;cases hE;exact hQ)
theorem SS:UM VN 101 [.agg [i c,i T,i lo,i hi,rds n a b u v,Pt.scs m p q,i pl,i ph,i dl,i dh]] (.branch (decide (rdE c T lo hi n a b u v m p q pl ph dl dh=0)) (.leaf (.tup [.roI [i c,i T,i lo,i hi,rds n a b u v,Pt.scs m p q] 26 (wkA c T lo hi n a b u v m p q pl ph dl dh) 0,i 0])) (.leaf (.tup [.x (.pointer none),i (rdE c T lo hi n a b u v m p q pl ph dl dh)]))):=by
 refine GQ (L:=[FO [n<=12,m<=8,vaB c T lo hi m p q pl ph dl dh=true,eB c T lo hi n a b u v=0] (Xu0 c T lo hi n a b u v m p q pl ph dl dh)]) (VJ.cons bL (VJ.cons Bo.Heights_ok (VJ.cons aC (VJ.cons Qx3 (VJ.nil _))))) (VV.of (VP.nil _) (VM.nil _)) VY Tryz.func101 (US Tryz.f101) (G0 (lpE (b:= .loop Jn5) VS<|(D0 (ps:=[n<=12,m<=8,vaB c T lo hi m p q pl ph dl dh=true,eB c T lo hi n a b u v=0]) (λh=>Zy1 c T lo hi n a b u v m p q pl ph dl dh h.1 h.2.1 h.2.2.1 h.2.2.2)).N)) (t:=let z0:=(leaf (tup [roI [iI c,iI T,iI lo,iI hi,QR n a b u v,QY m p q] 26 (λj=>wkF pl ph dl dh (bdL c T lo hi n a b u v m p q pl ph) (bdH c T lo hi n a b u v m p q pl ph) (Int.toNat c+1) j) 0,iI 0]));let z1:=eB c T lo hi n a b u v;let z2:=vaB c T lo hi m p q pl ph dl dh;let z3:=YU c T lo hi n a b u v;(branch (decide ((n:Int)>12)) (leaf (tup [Z2,iI 3])) (branch (decide ((m:Int)>8)) (leaf (tup [Z2,iI 3])) (need [UD 4 n λk=>[Bo.i (a k),Bo.i (b k),Bo.i (u k),Bo.i (v k)],UD 2 m λk=>[Pt.i (p k),Pt.i (q k)],m<=100000] (need [UD 4 n λk=>[Bo.i (a k),Bo.i (b k),Bo.i (u k),Bo.i (v k)]] (branch (!z2) (leaf (tup [Z2,iI 1])) (branch (z1 != 0) (branch (z1 != 9) (leaf (tup [Z2,iI 1])) (branch (z1 != 0) (leaf (tup [Z2,iI (z1)])) (need [n<=12,m<=8,z2=true,z1=0] (need [X3 c T lo hi n a b u v m p q pl ph dl dh,KI,Z2=Z2,K5,Y2,VX (z2),z3,VX (z1),ptr 47 0=ptr 45 0,z3,VX (↑(rL c T lo hi n a b u v):Int),(0:Int)=(↑(0:Nat):Int),False,Pt.blLo m p q pl ph=Pt.boilI m p q pl,Pt.blHi m p q pl ph=Pt.boilI m p q ph,c=c,T=T,lo=lo,hi=hi,YN n a b u v,YR m p q,pl=pl,ph=ph,dl=dl,dh=dh] z0)))) (branch (z1 != 0) (leaf (tup [Z2,iI (z1)])) (need [n<=12,m<=8,z2=true,z1=0] (need [X3 c T lo hi n a b u v m p q pl ph dl dh,KI,Z2=Z2,K5,Y2,VX (z2),z3,VX (z1),VX (ptr 45 0),z3,VX (↑(rL c T lo hi n a b u v):Int),(0:Int)=(↑(0:Nat):Int),c=c,T=T,lo=lo,hi=hi,YN n a b u v,YR m p q,List.length ([pl,ph,dl,dh]++bC 22)=26,GT 26 (U7 ([pl,ph,dl,dh]++bC 22)) (wkF pl ph dl dh (bdL c T lo hi n a b u v m p q pl ph) (bdH c T lo hi n a b u v m p q pl ph) 0),Pt.blLo m p q pl ph=Pt.boilI m p q pl,Pt.blHi m p q pl ph=Pt.boilI m p q ph,c=c,T=T,lo=lo,hi=hi,YN n a b u v,YR m p q,pl=pl,ph=ph,dl=dl,dh=dh] z0)))))))))) VS ?_
 intro Q hQ;have e3:(n>12\/m>8)->rdE c T lo hi n a b u v m p q pl ph dl dh=3:=λh=>if_pos h
 have e1: ¬(n>12\/m>8)-> ¬(vaB c T lo hi m p q pl ph dl dh=true/\(eB c T lo hi n a b u v=0\/eB c T lo hi n a b u v=9))->rdE c T lo hi n a b u v m p q pl ph dl dh=1:=λh h'=>by
  unfold rdE;rw [if_neg h,if_neg h']
 have e0: ¬(n>12\/m>8)->vaB c T lo hi m p q pl ph dl dh=true->(eB c T lo hi n a b u v=0\/eB c T lo hi n a b u v=9)->rdE c T lo hi n a b u v m p q pl ph dl dh=eB c T lo hi n a b u v:=λh h' h''=>by
  unfold rdE;rw [if_neg h,if_pos ⟨h',h''⟩]
 simp only [VL.sat,UA,UG,H9,RF,Bool.not_eq_true',Bool.not_eq_false'] at hQ ⊢;have bad: ∀k:Int,k≠0->rdE c T lo hi n a b u v m p q pl ph dl dh=k-> ∃r',F5 (.tup [.x (.pointer none),i k]) r'/\Q r':=λk hk he=>by
  rw [he] at hQ;exact ⟨.tup [.x (.pointer none),i k],⟨rfl,⟨rfl,rfl⟩,True.intro⟩,hQ.2 hk⟩
 refine ⟨λh1=>bad 3 VI (e3 VI),λh1=>⟨λh2=>bad 3 VI (e3 VI),λh2=>⟨⟨Bo.isRec4 n a b u v,Pt.isRec2 m p q,VI⟩,Bo.isRec4 n a b u v,λh3=>bad 1 VI (e1 VI (by rw [h3];simp)),λh3=>⟨λh4=>⟨λh5=>bad 1 VI (e1 VI VI),λh5=>⟨λh6=>bad _ h4 (e0 VI h3 (.inr h5)),λh6=>absurd h6 h4⟩⟩,λh4=>⟨λh5=>absurd h4 h5,λ_=>?_⟩⟩⟩⟩⟩
 have hv:=mV.1 h3;have hs:=Qy4 hv.1;refine ⟨⟨VI,VI,h3,h4⟩,⟨rfl,rfl,λj hj=>Xa8 hj,hs.2.2.2.1,hs.2.2.2.2⟩,.tup [.roI [i c,i T,i lo,i hi,rds n a b u v,Pt.scs m p q] 26 (wkA c T lo hi n a b u v m p q pl ph dl dh) 0,i 0],⟨⟨rfl,rfl,λ_ _=>rfl,rfl⟩,⟨rfl,rfl⟩,True.intro⟩,hQ.1 ((e0 VI h3 (.inl h4)).trans h4)⟩
end
def fC:D7:=λl=>match l with
 |[.agg [.x (.int .i64 c),.x (.int .i64 T),.x (.int .i64 lo),.x (.int .i64 hi),.lst 4 n fr,.lst 2 m ft,.x (.int .i64 pl),.x (.int .i64 ph),.x (.int .i64 dl),.x (.int .i64 dh)]]=>some (.need [UD 4 n fr,UD 2 m ft] (.branch (decide (rdE c T lo hi n (col 0 fr) (col 1 fr) (col 2 fr) (col 3 fr) m (Pt.col 0 ft) (Pt.col 1 ft) pl ph dl dh=0)) (.leaf (.tup [.roI [i c,i T,i lo,i hi,rds n (col 0 fr) (col 1 fr) (col 2 fr) (col 3 fr),Pt.scs m (Pt.col 0 ft) (Pt.col 1 ft)] 26 (wkA c T lo hi n (col 0 fr) (col 1 fr) (col 2 fr) (col 3 fr) m (Pt.col 0 ft) (Pt.col 1 ft) pl ph dl dh) 0,i 0])) (.leaf (.tup [.x (.pointer none),i (rdE c T lo hi n (col 0 fr) (col 1 fr) (col 2 fr) (col 3 fr) m (Pt.col 0 ft) (Pt.col 1 ft) pl ph dl dh)]))))
 |_=>none
theorem wX:Sx.Enters Tryz.prog 101/\ ∀avs t,fC avs=some t->UM VN 101 avs t:=by
 refine ⟨(UF Tryz.func101),?_⟩;intro avs t h;unfold fC at h;split at h
 ·cases h;intro Q hQ;have hr:UD 4 _ _:=GB hQ.1 _ GD;have ht:UD 2 _ _:=GB hQ.1 _ (HN _ GD);exact UM.same (SS _ _ _ _ _ _ _ _ _ _ _ _ _ _ _ _) (.cons (LT.same (.cons (.refl _) (.cons (.refl _) (.cons (.refl _) (.cons (.refl _) (.cons (.lst 4 _ _ _ hr) (.cons (.lst 2 _ _ _ ht) (.cons (.refl _) (.cons (.refl _) (.cons (.refl _) (.cons (.refl _) .nil))))))))))) .nil) Q hQ.2
 ·cases h
section
variable (c T lo hi:Int)(n:Nat)(a b u v:Nat->Int)(m:Nat)(p q:Nat->Int)(pl ph dl dh:Int)
def asE(u0 u1 wi day:Int):Int:=if rdE c T lo hi n a b u v m p q pl ph dl dh=0 then (if usB c u0 u1 wi&&bt 0 day 10000 then 0 else 2) else rdE c T lo hi n a b u v m p q pl ph dl dh
def hdE(day:Int):Int:=if rdE c T lo hi n a b u v m p q pl ph dl dh=0 then (if bt 0 day 10000 then 0 else 2) else rdE c T lo hi n a b u v m p q pl ph dl dh
end
theorem Zy9{c T lo hi:Int}{n:Nat}{a b u v:Nat->Int}{m:Nat}{p q:Nat->Int}{pl ph dl dh:Int}(h:rdE c T lo hi n a b u v m p q pl ph dl dh=0):n<=12/\m<=8/\vaB c T lo hi m p q pl ph dl dh=true/\eB c T lo hi n a b u v=0:=by
 unfold rdE at h;split at h
 ·cases h
 ·rename_i h1;split at h
  ·rename_i h2;exact ⟨VI,VI,h2.1,h⟩
  ·cases h
section
variable {pl ph dl dh:Int}{L H:Nat->Int}{k j:Nat}
theorem wk_L(h:j<k):wkF pl ph dl dh L H k (4+2*j)=L j:=by
 unfold wkF;rw [if_neg VI,if_neg VI,if_neg VI,if_neg VI,if_pos VI,if_pos VI,show (4+2*j-4) / 2=j by omega]
theorem wk_H(h:j<k):wkF pl ph dl dh L H k (5+2*j)=H j:=by
 unfold wkF;rw [if_neg VI,if_neg VI,if_neg VI,if_neg VI,if_pos VI,if_neg VI,show (5+2*j-4) / 2=j by omega]
end
theorem bI{c T lo hi:Int}{n:Nat}{a b u v:Nat->Int}{m:Nat}{p q:Nat->Int}{pl ph dl dh:Int}(h:rdE c T lo hi n a b u v m p q pl ph dl dh=0):drB (wkA c T lo hi n a b u v m p q pl ph dl dh)/\bdB (wkA c T lo hi n a b u v m p q pl ph dl dh)/\(1<=c/\c<=10)/\ ∀k:Nat,(k:Int)<=c->0<=bdL c T lo hi n a b u v m p q pl ph k/\bdL c T lo hi n a b u v m p q pl ph k<=4000000/\0<=bdH c T lo hi n a b u v m p q pl ph k/\bdH c T lo hi n a b u v m p q pl ph k<=4000000:=by
 obtain ⟨h1,h2,h3,h4⟩:=Zy9 h;have hv:=mV.1 h3;have hb:=BH hv.2.1;have hs:=Qy4 hv.1;have key: ∀k:Nat,(k:Int)<=c->0<=bdL c T lo hi n a b u v m p q pl ph k/\bdL c T lo hi n a b u v m p q pl ph k<=4000000/\0<=bdH c T lo hi n a b u v m p q pl ph k/\bdH c T lo hi n a b u v m p q pl ph k<=4000000:=by
  intro k hk;have hk:=Xr2 h4 hk;have m1:=tM (x:= -(fwB c T lo hi n a b u v k 0)) (y:=Pt.boilI m p q pl) (X:=2000) (Y:=2000) VI VI;have m2:=tM (x:=fwB c T lo hi n a b u v 0 k) (y:=Pt.boilI m p q ph) (X:=2000) (Y:=2000) VI VI;have d1:=gH m1.1 (show 1<=T by omega)
  have d2:=SF m2.1 (show 1<=T by omega)
  unfold bdL bdH;omega
 refine ⟨⟨?_,?_⟩,λj hj=>?_,hb.1,key⟩
 ·show 0<=dl/\dl<=100;omega
 ·show 0<=dh/\dh<=100;omega
 ·by_cases hk:j / 2<c.toNat+1
  ·have:=key (j / 2) VI;rcases Nat.mod_two_eq_zero_or_one j with h0|h0
   ·have e:wkA c T lo hi n a b u v m p q pl ph dl dh (4+j)=bdL c T lo hi n a b u v m p q pl ph (j / 2):=by
     have:=wk_L (pl:=pl) (ph:=ph) (dl:=dl) (dh:=dh) (L:=bdL c T lo hi n a b u v m p q pl ph) (H:=bdH c T lo hi n a b u v m p q pl ph) hk;rw [show 4+2*(j / 2)=4+j by omega] at this
     exact this
    rw [e];omega
   ·have e:wkA c T lo hi n a b u v m p q pl ph dl dh (4+j)=bdH c T lo hi n a b u v m p q pl ph (j / 2):=by
     have:=wk_H (pl:=pl) (ph:=ph) (dl:=dl) (dh:=dh) (L:=bdL c T lo hi n a b u v m p q pl ph) (H:=bdH c T lo hi n a b u v m p q pl ph) hk;rw [show 5+2*(j / 2)=4+j by omega] at this
     exact this
    rw [e];omega
  ·have e:wkA c T lo hi n a b u v m p q pl ph dl dh (4+j)=0:=by
    unfold wkA wkF;rw [if_neg VI,if_neg VI,if_neg VI,if_neg VI,if_neg VI]
   rw [e];omega
abbrev KQ:Value:=Value.int IntKind.i64 (0:Int)
theorem vW(c T lo hi:Int)(n:Nat)(a b u v:Nat->Int)(m:Nat)(p q:Nat->Int)(pl ph dl dh:Int):VW VN 184 [.agg [i c,i T,i lo,i hi,rds n a b u v,Pt.scs m p q,i pl,i ph,i dl,i dh]] (i (rdE c T lo hi n a b u v m p q pl ph dl dh)):=by
 refine GA (L:=[]) (VJ.nil _) (VV.ofC (VP.nil _) (VM.nil _) (U9.cons wX (U9.nil _))) VY Tryz.func184 (US Tryz.f184) G4 (t:=need [UD 4 n λk=>[Bo.i (a k),Bo.i (b k),Bo.i (u k),Bo.i (v k)],UD 2 m λk=>[Pt.i (p k),Pt.i (q k)]] (branch (decide (rdE c T lo hi n a b u v m p q pl ph dl dh=0)) (leaf (RV.x (KQ))) (leaf (RV.x (.int .i64 (rdE c T lo hi n a b u v m p q pl ph dl dh)))))) VS ?_
 simp only [VL.sat,UA,UZ,GI,UC,UG,H9,RF,beq_iff_eq,beq_eq_false_iff_ne,Bool.not_eq_true',Bool.not_eq_false',not_true_eq_false,false_imp_iff,true_imp_iff];exact ⟨⟨Bo.isRec4 n a b u v,Pt.isRec2 m p q⟩,λh=>h.symm,λ_=>trivial⟩
def DP:UV
 |[.agg [.x (.int .i64 c),.x (.int .i64 T),.x (.int .i64 lo),.x (.int .i64 hi),.lst 4 n fr,.lst 2 m ft,.x (.int .i64 pl),.x (.int .i64 ph),.x (.int .i64 dl),.x (.int .i64 dh)]]=>some ([UD 4 n fr,UD 2 m ft],i (rdE c T lo hi n (col 0 fr) (col 1 fr) (col 2 fr) (col 3 fr) m (Pt.col 0 ft) (Pt.col 1 ft) pl ph dl dh))
 |_=>none
theorem qO:VO VN 184 DP:=by
 refine ⟨(UF Tryz.func184),?_⟩;intro avs ns res h hn;unfold DP at h;split at h
 ·cases h;have hr:UD 4 _ _:=hn _ GD;have ht:UD 2 _ _:=hn _ (HN _ GD);exact (vW _ _ _ _ _ _ _ _ _ _ _ _ _ _ _ _).same (.cons (LT.same (.cons (.refl _) (.cons (.refl _) (.cons (.refl _) (.cons (.refl _) (.cons (.lst 4 _ _ _ hr) (.cons (.lst 2 _ _ _ ht) (.cons (.refl _) (.cons (.refl _) (.cons (.refl _) (.cons (.refl _) .nil))))))))))) .nil)
 ·cases h
abbrev ZB(c:Int)(T:Int)(lo:Int)(hi:Int)(n:Nat)(a:Nat->Int)(b:Nat->Int)(u:Nat->Int)(v:Nat->Int)(m:Nat)(p:Nat->Int)(q:Nat->Int)(pl:Int)(ph:Int)(dl:Int)(dh:Int):AV:=roI [iI c,iI T,iI lo,iI hi,QR n a b u v,QY m p q] 26 (λa_1=>wkA c T lo hi n a b u v m p q pl ph dl dh a_1) 0
theorem Wt4(c T lo hi:Int)(n:Nat)(a b u v:Nat->Int)(m:Nat)(p q:Nat->Int)(pl ph dl dh:Int)(u0 u1 wi day:Int):UM VN 96 [.agg [i c,i T,i lo,i hi,rds n a b u v,Pt.scs m p q,i pl,i ph,i dl,i dh],.agg [i u0,i u1,i wi],i day] (.branch (decide (asE c T lo hi n a b u v m p q pl ph dl dh u0 u1 wi day=0)) (.leaf (.tup [.roI [i c,i T,i lo,i hi,rds n a b u v,Pt.scs m p q] 26 (wkA c T lo hi n a b u v m p q pl ph dl dh) 0,i 0])) (.leaf (.tup [.top,i (asE c T lo hi n a b u v m p q pl ph dl dh u0 u1 wi day)]))):=by
 refine GQ (L:=[]) (VJ.cons Zb1 (VJ.cons RH (VJ.nil _))) (VV.ofC (VP.nil _) (VM.nil _) (U9.cons wX (U9.nil _))) VY Tryz.func96 (US Tryz.f96) G4 (t:=let z0:=rdE c T lo hi n a b u v m p q pl ph dl dh;let z1:=ZB c T lo hi n a b u v m p q pl ph dl dh;(need [UD 4 n λk=>[Bo.i (a k),Bo.i (b k),Bo.i (u k),Bo.i (v k)],UD 2 m λk=>[Pt.i (p k),Pt.i (q k)]] (branch (decide (z0=0)) (branch ((0:Int)==0) (need [UD 4 n λk=>[Bo.i (a k),Bo.i (b k),Bo.i (u k),Bo.i (v k)],UD 2 m λk=>[Pt.i (p k),Pt.i (q k)]] (branch (!usB c u0 u1 wi) (leaf (tup [z1,iI 2])) (branch (!bt (0:Int) day (10000:Int)) (leaf (tup [z1,iI 2])) (leaf (tup [z1,iI 0]))))) (leaf (tup [z1,iI 0]))) (branch (z0==0) (need [UD 4 n λk=>[Bo.i (a k),Bo.i (b k),Bo.i (u k),Bo.i (v k)],UD 2 m λk=>[Pt.i (p k),Pt.i (q k)]] (branch (!usB c u0 u1 wi) (leaf (tup [Z2,iI 2])) (branch (!bt (0:Int) day (10000:Int)) (leaf (tup [Z2,iI 2])) (leaf (tup [Z2,iI (z0)]))))) (leaf (tup [Z2,iI (z0)])))))) VS ?_
 intro Q hQ;simp only [VL.sat,UA,UZ,GI,UC,UG,H9,RF,beq_iff_eq,beq_eq_false_iff_ne,Bool.not_eq_true',Bool.not_eq_false',not_true_eq_false,false_imp_iff,true_imp_iff] at hQ ⊢;have hr:rdE c T lo hi n a b u v m p q pl ph dl dh≠0->asE c T lo hi n a b u v m p q pl ph dl dh u0 u1 wi day=rdE c T lo hi n a b u v m p q pl ph dl dh:=λh=>if_neg h
 have h2:rdE c T lo hi n a b u v m p q pl ph dl dh=0->(usB c u0 u1 wi=false\/bt 0 day 10000=false)->asE c T lo hi n a b u v m p q pl ph dl dh u0 u1 wi day=2:=λh h'=>by
  unfold asE;rw [if_pos h,if_neg (by rcases h' with h'|h'<;>simp [h'])]
 have h0:rdE c T lo hi n a b u v m p q pl ph dl dh=0->usB c u0 u1 wi=true->bt 0 day 10000=true->asE c T lo hi n a b u v m p q pl ph dl dh u0 u1 wi day=0:=λh h' h''=>by
  unfold asE;rw [if_pos h,h',h''];rfl
 have bad: ∀(x:AV) (k:Int),asE c T lo hi n a b u v m p q pl ph dl dh u0 u1 wi day=k->k≠0-> ∃r',F5 (.tup [x,i k]) r'/\Q r':=λx k he hk=>by
  rw [he] at hQ;exact ⟨.tup [.top,i k],⟨by cases x<;>trivial,⟨rfl,rfl⟩,True.intro⟩,hQ.2 hk⟩
 refine ⟨⟨Bo.isRec4 n a b u v,Pt.isRec2 m p q⟩,λh=>⟨⟨Bo.isRec4 n a b u v,Pt.isRec2 m p q⟩,λg=>bad _ 2 (h2 h (.inl g)) VI,λg=>⟨λg'=>bad _ 2 (h2 h (.inr g')) VI,λg'=>?_⟩⟩,λh=>⟨λh'=>absurd h' h,λ_=>?_⟩⟩
 ·exact ⟨.tup [.roI [i c,i T,i lo,i hi,rds n a b u v,Pt.scs m p q] 26 (wkA c T lo hi n a b u v m p q pl ph dl dh) 0,i 0],⟨⟨rfl,rfl,λ_ _=>rfl,rfl⟩,⟨rfl,rfl⟩,True.intro⟩,hQ.1 (h0 h g g')⟩
 ·exact bad _ _ (hr h) h
def Qi3:D7:=λl=>match l with
 |[.agg [.x (.int .i64 c),.x (.int .i64 T),.x (.int .i64 lo),.x (.int .i64 hi),.lst 4 n fr,.lst 2 m ft,.x (.int .i64 pl),.x (.int .i64 ph),.x (.int .i64 dl),.x (.int .i64 dh)],.agg [.x (.int .i64 u0),.x (.int .i64 u1),.x (.int .i64 wi)],.x (.int .i64 day)]=>some (.need [UD 4 n fr,UD 2 m ft] (.branch (decide (asE c T lo hi n (col 0 fr) (col 1 fr) (col 2 fr) (col 3 fr) m (Pt.col 0 ft) (Pt.col 1 ft) pl ph dl dh u0 u1 wi day=0)) (.leaf (.tup [.roI [i c,i T,i lo,i hi,rds n (col 0 fr) (col 1 fr) (col 2 fr) (col 3 fr),Pt.scs m (Pt.col 0 ft) (Pt.col 1 ft)] 26 (wkA c T lo hi n (col 0 fr) (col 1 fr) (col 2 fr) (col 3 fr) m (Pt.col 0 ft) (Pt.col 1 ft) pl ph dl dh) 0,i 0])) (.leaf (.tup [.top,i (asE c T lo hi n (col 0 fr) (col 1 fr) (col 2 fr) (col 3 fr) m (Pt.col 0 ft) (Pt.col 1 ft) pl ph dl dh u0 u1 wi day)]))))
 |_=>none
theorem Qr6:Sx.Enters Tryz.prog 96/\ ∀avs t,Qi3 avs=some t->UM VN 96 avs t:=by
 refine ⟨(UF Tryz.func96),?_⟩;intro avs t h;unfold Qi3 at h;split at h
 ·cases h;intro Q hQ;have hr:UD 4 _ _:=GB hQ.1 _ GD;have ht:UD 2 _ _:=GB hQ.1 _ (HN _ GD);exact UM.same (Wt4 _ _ _ _ _ _ _ _ _ _ _ _ _ _ _ _ _ _ _ _) (.cons (LT.same (.cons (.refl _) (.cons (.refl _) (.cons (.refl _) (.cons (.refl _) (.cons (.lst 4 _ _ _ hr) (.cons (.lst 2 _ _ _ ht) (.cons (.refl _) (.cons (.refl _) (.cons (.refl _) (.cons (.refl _) .nil))))))))))) (.cons (.refl _) (.cons (.refl _) .nil))) Q hQ.2
 ·cases h
def kpB(c T lo hi:Int)(n:Nat)(a b u v:Nat->Int)(m:Nat)(p q:Nat->Int)(pl ph dl dh:Int)(u0 u1 wi day:Int):Bool:=decide (asE c T lo hi n a b u v m p q pl ph dl dh u0 u1 wi day=0)&&keB c (wkA c T lo hi n a b u v m p q pl ph dl dh) u0 u1 wi day
theorem Jh6{c T lo hi:Int}{n:Nat}{a b u v:Nat->Int}{m:Nat}{p q:Nat->Int}{pl ph dl dh u0 u1 wi day:Int}(h:asE c T lo hi n a b u v m p q pl ph dl dh u0 u1 wi day=0):rdE c T lo hi n a b u v m p q pl ph dl dh=0/\usB c u0 u1 wi=true/\0<=day/\day<=10000:=by
 unfold asE at h;split at h
 ·rename_i h1;split at h
  ·rename_i h2;rw [H2] at h2;exact ⟨h1,h2.1,(bt_iff _ _ _).1 h2.2⟩
  ·cases h
 ·rename_i h1;exact absurd h h1
theorem Xm1(c T lo hi:Int)(n:Nat)(a b u v:Nat->Int)(m:Nat)(p q:Nat->Int)(pl ph dl dh:Int)(u0 u1 wi day:Int):VW VN 71 [.agg [i c,i T,i lo,i hi,rds n a b u v,Pt.scs m p q,i pl,i ph,i dl,i dh],.agg [i u0,i u1,i wi],i day] (.tup [bl (kpB c T lo hi n a b u v m p q pl ph dl dh u0 u1 wi day),i (asE c T lo hi n a b u v m p q pl ph dl dh u0 u1 wi day)]):=by
 refine GA (L:=[]) (VJ.cons Xe5 (VJ.nil _)) (VV.ofC (VP.nil _) (VM.nil _) (U9.cons Qr6 (U9.nil _))) VY Tryz.func71 (US Tryz.f71) G4 (t:=let z0:=asE c T lo hi n a b u v m p q pl ph dl dh u0 u1 wi day;let z1:=(wkA c T lo hi n a b u v m p q pl ph dl dh);(need [UD 4 n λk=>[Bo.i (a k),Bo.i (b k),Bo.i (u k),Bo.i (v k)],UD 2 m λk=>[Pt.i (p k),Pt.i (q k)]] (branch (decide (z0=0)) (branch ((0:Int)==0) (need [drB z1,bdB z1,(1:Int)<=c/\c<=10,(0:Int)<=u0/\u0<=u1/\u1<=10,(0:Int)<=wi/\wi<=1000000,(0:Int)<=day/\day<=100000] (leaf (RV.tup [RV.x (.bool (keB c z1 u0 u1 wi day)),RV.x (KQ)]))) (leaf (RV.tup [RV.x (KY),RV.x (KQ)]))) (branch (z0==0) VL.fail (leaf (RV.tup [RV.x (KY),RV.x (.int .i64 (z0))])))))) VS ?_
 simp only [VL.sat,UA,UZ,GI,UC,UG,H9,RF,beq_iff_eq,beq_eq_false_iff_ne,Bool.not_eq_true',Bool.not_eq_false',not_true_eq_false,false_imp_iff,true_imp_iff];refine ⟨⟨Bo.isRec4 n a b u v,Pt.isRec2 m p q⟩,λh=>?_,λh=>⟨λh'=>absurd h' h,λ_=>?_⟩⟩
 ·obtain ⟨h1,h2,h3⟩:=Jh6 h;have hw:=bI h1;have hu:=Xb6.1 h2;refine ⟨⟨hw.1,hw.2.1,hw.2.2.1,VI,VI,VI⟩,?_,h.symm⟩;unfold kpB;rw [h];rfl
 ·unfold kpB;rw [decide_eq_false h];rfl
def aU:UV
 |[.agg [.x (.int .i64 c),.x (.int .i64 T),.x (.int .i64 lo),.x (.int .i64 hi),.lst 4 n fr,.lst 2 m ft,.x (.int .i64 pl),.x (.int .i64 ph),.x (.int .i64 dl),.x (.int .i64 dh)],.agg [.x (.int .i64 u0),.x (.int .i64 u1),.x (.int .i64 wi)],.x (.int .i64 day)]=>some ([UD 4 n fr,UD 2 m ft],.tup [bl (kpB c T lo hi n (col 0 fr) (col 1 fr) (col 2 fr) (col 3 fr) m (Pt.col 0 ft) (Pt.col 1 ft) pl ph dl dh u0 u1 wi day),i (asE c T lo hi n (col 0 fr) (col 1 fr) (col 2 fr) (col 3 fr) m (Pt.col 0 ft) (Pt.col 1 ft) pl ph dl dh u0 u1 wi day)])
 |_=>none
theorem Qh8:VO VN 71 aU:=by
 refine ⟨(UF Tryz.func71),?_⟩;intro avs ns res h hn;unfold aU at h;split at h
 ·cases h;have hr:UD 4 _ _:=hn _ GD;have ht:UD 2 _ _:=hn _ (HN _ GD);exact (Xm1 _ _ _ _ _ _ _ _ _ _ _ _ _ _ _ _ _ _ _ _).same (.cons (LT.same (.cons (.refl _) (.cons (.refl _) (.cons (.refl _) (.cons (.refl _) (.cons (.lst 4 _ _ _ hr) (.cons (.lst 2 _ _ _ ht) (.cons (.refl _) (.cons (.refl _) (.cons (.refl _) (.cons (.refl _) .nil))))))))))) (.cons (.refl _) (.cons (.refl _) .nil)))
 ·cases h
def hdN(c T lo hi:Int)(n:Nat)(a b u v:Nat->Int)(m:Nat)(p q:Nat->Int)(pl ph dl dh:Int)(day:Int):Nat:=if hdE c T lo hi n a b u v m p q pl ph dl dh day=0 then c.toNat+1 else 0
theorem PW{P:Program}{c:Code}{ps:List Prop}{sp:UH}(h:UA ps->HO P c sp):HO P c (FO ps sp):=λcx hf=>wK (λhp=>h hp cx hf)
theorem Zm1{g h:Nat->Int}{k j:Nat}{x y:Int}(hx:x=g k)(hy:y=h k)(hj:j<k+1):GG k (λk=>[i (g k),i (h k)]) (U4 2 [i x,i y]) j=[i (g j),i (h j)]:=by
 subst hx;subst hy;show H6 (decide (j<k)) [i (g j),i (h j)] (U4 2 [i (g k),i (h k)] (j-k))=_;rw [show j-k=0 by omega]
 by_cases hj:j<k
 ·rw [decide_eq_true hj];rfl
 ·obtain rfl:j=k:=VI;rw [decide_eq_false hj];rfl
section
variable (c T lo hi:Int)(n:Nat)(a b u v:Nat->Int)(m:Nat)(p q:Nat->Int)(pl ph dl dh:Int)(day:Int)
def Jm6:St:={σ:=mkS 37 [(0,.agg [i c,i T,i lo,i hi,rds n a b u v,Pt.scs m p q,i pl,i ph,i dl,i dh]),(1,i day),(2,.fn (.func 76) [] []),(3,.ptr 0 0),(4,.ptr 1 0),(5,.ptr 2 0),(6,.x (.slice none 0 0)),(7,i 0),(8,.ptr 10 0),(9,i 0),(10,.ptr 18 0),(26,.fn (.func 137) [] [.ro [i 0],.ro [i c]])],m:=[(901,.row 124 2 0 (λk=>[i (onL (wkA c T lo hi n a b u v m p q pl ph dl dh) k day),i (onH (wkA c T lo hi n a b u v m p q pl ph dl dh) k day)])),(18,.cells 118 [.row 901]),(10,.cells 167 [.roI [i c,i T,i lo,i hi,rds n a b u v,Pt.scs m p q] 26 (wkA c T lo hi n a b u v m p q pl ph dl dh) 0]),(2,.cells 165 [.fn (.func 76) [] []]),(1,.cells 3 [i day]),(0,.cells 126 [i c,i T,i lo,i hi,rds n a b u v,Pt.scs m p q,i pl,i ph,i dl,i dh])],nx:=902}
noncomputable def Jq6:Code:=SP (VQ (U6 Tryz.f75) 0)
noncomputable def Jp6:Code:=SO (VQ (U6 Tryz.f75) 0)
def oQ(k:Nat):St:={σ:=H3 [] (Jm6 c T lo hi n a b u v m p q pl ph dl dh day).σ,m:=[(901,.row 124 2 k (λk=>[i (onL (wkA c T lo hi n a b u v m p q pl ph dl dh) k day),i (onH (wkA c T lo hi n a b u v m p q pl ph dl dh) k day)])),(18,.cells 118 [.row 901]),(10,.cells 167 [.roI [i c,i T,i lo,i hi,rds n a b u v,Pt.scs m p q] 26 (wkA c T lo hi n a b u v m p q pl ph dl dh) 0]),(2,.cells 165 [.fn (.func 76) [] []]),(1,.cells 3 [i day]),(0,.cells 126 [i c,i T,i lo,i hi,rds n a b u v,Pt.scs m p q,i pl,i ph,i dl,i dh])],nx:=902}
def nW(k:Nat):G6->Option St
 | .normal=>some {σ:=H3 [] (Jm6 c T lo hi n a b u v m p q pl ph dl dh day).σ,m:=[(901,.row 124 2 ((c-0+1).toNat) (λk=>[i (onL (wkA c T lo hi n a b u v m p q pl ph dl dh) k day),i (onH (wkA c T lo hi n a b u v m p q pl ph dl dh) k day)])),(18,.cells 118 [.row 901]),(10,.cells 167 [.roI [i c,i T,i lo,i hi,rds n a b u v,Pt.scs m p q] 26 (wkA c T lo hi n a b u v m p q pl ph dl dh) 0]),(2,.cells 165 [.fn (.func 76) [] []]),(1,.cells 3 [i day]),(0,.cells 126 [i c,i T,i lo,i hi,rds n a b u v,Pt.scs m p q,i pl,i ph,i dl,i dh])],nx:=902}
 |_=>none
def T_eO:CT:= .leaf (.normal,oQ c T lo hi n a b u v m p q pl ph dl dh day ((c-0+1).toNat))
def Xx0:UH:=GJ [(.cell 18 0,901,124,2)] (HF (oQ c T lo hi n a b u v m p q pl ph dl dh day (0)) (T_eO c T lo hi n a b u v m p q pl ph dl dh day))
end
abbrev ZT(c:Int):AV:=AV.fn (Fn.func 137) [] [AV.ro [iI 0],AV.ro [iI c]]
abbrev J0:Prop:=AV.fn (Fn.func 76) [] []=AV.fn (Fn.func 76) [] []
abbrev KU:Ext:={R:=[(103,aP)],H:=[],C:=[(101,fC)] }
section
variable (c T lo hi:Int)(n:Nat)(a b u v:Nat->Int)(m:Nat)(p q:Nat->Int)(pl ph dl dh:Int)(day:Int)
theorem Jg0(VR:rdE c T lo hi n a b u v m p q pl ph dl dh=0)(UE:0<=day/\day<=10000)(HP:drB (wkA c T lo hi n a b u v m p q pl ph dl dh)/\bdB (wkA c T lo hi n a b u v m p q pl ph dl dh)/\1<=c/\c<=10):HO VN (.rangeFunc (rfF (VQ (U6 Tryz.f75) 0)) (jG (VQ (U6 Tryz.f75) 0)) Jq6 Jp6) (Xx0 c T lo hi n a b u v m p q pl ph dl dh day):=by
 refine P9 [(.cell 18 0,901,124,2)] (L:=[]) (VJ.cons RH (VJ.cons Wd0 (VJ.nil _))) (VV.ofC (VP.cons dC (VP.nil _)) (VM.nil _) (U9.cons wX (U9.nil _))) VY U2 (V:=Nat) (oQ c T lo hi n a b u v m p q pl ph dl dh day) (λk=>k<=((c-0+1).toNat)) (λk=>k) (nW c T lo hi n a b u v m p q pl ph dl dh day) (x0:=0) VU rfl ?_ ?_ ?_ ?_ (g:=137) (caps:=[.ro [i 0],.ro [i c]]) VS VS (ED 0 c VI VI) (λ_=>rfl) ?_
 ·rintro k;kernel_rfl
 ·rintro k y E h;unfold nW at h;split at h
  ·cases h;kernel_rfl
  ·cases h
 ·rintro k;rfl
 ·rintro k y E h;unfold nW at h;split at h
  ·cases h;rfl
  ·cases h
 ·rintro Q hQ k hx;refine ⟨λhlt=>⟨(k+1),rfl,?_⟩,λPJ=>?_⟩
  ·(with_reducible refine DF (t:=let z0:=(wkA c T lo hi n a b u v m p q pl ph dl dh);let z1:=((0:Int)+(k:Int)).toNat;(need [drB z0,bdB z0,(0:Int)<=0+(k:Int)/\(0:Int)+(k:Int)<=10,(0:Int)<=day/\day<=100000] (need [(k+1)*16<=140737488355328,RS 1 (U4 2 [iI (onL z0 z1 day),iI (onH z0 z1 day)])] (need [X3 c T lo hi n a b u v m p q pl ph dl dh,day=day,J0,KI,VX (ptr 1 0),VX (ptr 2 0),Z8=Z8,K5,VX (ptr 10 0),K5,Y2,ZT c=ZT c,k+1=k+1,GT (k+1) (GG k (λk=>[iI (onL z0 k day),iI (onH z0 k day)]) (U4 2 [iI (onL z0 z1 day),iI (onH z0 z1 day)])) (λi=>[iI (onL z0 i day),iI (onH z0 i day)]),VX (AV.row 901),VX (ZB c T lo hi n a b u v m p q pl ph dl dh),J0,day=day,c=c,T=T,lo=lo,hi=hi,YN n a b u v,YR m p q,pl=pl,ph=ph,dl=dl,dh=dh] (leaf G6.normal))))) VS ?_)
   simp only [VL.sat,UA,UG]
   have ek:((0:Int)+(k:Int)).toNat=k:=VI;refine ⟨⟨HP.1,HP.2.1,VI,VI⟩,⟨VI,λj hj a ha=>FN ha (by simp [AV.one,Value.oneCell'])⟩,λj hj=>?_,VI⟩
   rw [ek];exact Zm1 rfl rfl hj
  ·subst PJ;exact hQ
abbrev YQ:Value:=Value.slice none 0 0
theorem Wq6:VW VN 75 [.agg [i c,i T,i lo,i hi,rds n a b u v,Pt.scs m p q,i pl,i ph,i dl,i dh],i day,.fn (.func 76) [] []] (.tup [.lst 2 (hdN c T lo hi n a b u v m p q pl ph dl dh day) (λk=>[i (onL (wkA c T lo hi n a b u v m p q pl ph dl dh) k day),i (onH (wkA c T lo hi n a b u v m p q pl ph dl dh) k day)]),i (hdE c T lo hi n a b u v m p q pl ph dl dh day)]):=by
 refine GA (L:=[FO [rdE c T lo hi n a b u v m p q pl ph dl dh=0,0<=day/\day<=10000,drB (wkA c T lo hi n a b u v m p q pl ph dl dh)/\bdB (wkA c T lo hi n a b u v m p q pl ph dl dh)/\1<=c/\c<=10] (Xx0 c T lo hi n a b u v m p q pl ph dl dh day)]) (VJ.cons RH (VJ.cons Wd0 (VJ.nil _))) (VV.ofC (VP.cons dC (VP.nil _)) (VM.nil _) (U9.cons wX (U9.nil _))) VY Tryz.func75 (US Tryz.f75) (G0 (lpE (b:= .rangeFunc (rfF (VQ (U6 Tryz.f75) 0)) (jG (VQ (U6 Tryz.f75) 0)) Jq6 Jp6) VS<|PW (λh=>Jg0 c T lo hi n a b u v m p q pl ph dl dh day h.1 h.2.1 h.2.2))) (t:=let z0:=wkA c T lo hi n a b u v m p q pl ph dl dh;let z1:=rdE c T lo hi n a b u v m p q pl ph dl dh;let z2:=(leaf (RV.tup [RV.lst 2 (c-0+1).toNat λk=>[iI (onL (z0) k day),iI (onH (z0) k day)],RV.x (KQ)]));let z3:=(leaf (RV.tup [RV.x (YQ),RV.x (.int .i64 (2:Int))]));(need [UD 4 n λk=>[Bo.i (a k),Bo.i (b k),Bo.i (u k),Bo.i (v k)],UD 2 m λk=>[Pt.i (p k),Pt.i (q k)]] (branch (decide (z1=0)) (branch ((0:Int) != 0) (leaf (RV.tup [RV.x (YQ),RV.x (KQ)])) (branch (!bt (0:Int) day (10000:Int)) z3 (need [z1=0,(0:Int)<=day/\day<=10000,drB (z0)/\bdB (z0)/\(1:Int)<=c/\c<=10] (need [X3 c T lo hi n a b u v m p q pl ph dl dh,day=day,J0,KI,VX (ptr 1 0),VX (ptr 2 0),Z8=Z8,K5,VX (ptr 10 0),K5,Y2,ZT c=ZT c,0=0,∀(i:Nat),i<0->[]=[iI (onL (z0) i day),iI (onH (z0) i day)],VX (AV.row 901),VX (ZB c T lo hi n a b u v m p q pl ph dl dh),J0,day=day,c=c,T=T,lo=lo,hi=hi,YN n a b u v,YR m p q,pl=pl,ph=ph,dl=dl,dh=dh] z2)))) (branch (z1 != 0) (leaf (RV.tup [RV.x (YQ),RV.x (.int .i64 (z1))])) (branch (!bt (0:Int) day (10000:Int)) z3 (need [z1=0,(0:Int)<=day/\day<=10000,drB (z0)/\bdB (z0)/\(1:Int)<=c/\c<=10] (need [X3 c T lo hi n a b u v m p q pl ph dl dh,day=day,J0,KI,VX (ptr 1 0),VX (ptr 2 0),Z8=Z8,K5,VX (ptr 10 0),z1=0,Y2,ZT c=ZT c,0=0,∀(i:Nat),i<0->[]=[iI (onL (z0) i day),iI (onH (z0) i day)],VX (AV.row 901),AV.x (.pointer none)=roI [iI c,iI T,iI lo,iI hi,QR n a b u v,QY m p q] 26 (λa_1=>z0 a_1) 0,J0,day=day,c=c,T=T,lo=lo,hi=hi,YN n a b u v,YR m p q,pl=pl,ph=ph,dl=dl,dh=dh] z2))))))) VS ?_
 simp only [VL.sat,UA,UZ,GI,UC,UG,H9,RF,beq_iff_eq,beq_eq_false_iff_ne,Bool.not_eq_true',Bool.not_eq_false',not_true_eq_false,false_imp_iff,true_imp_iff];have e2:rdE c T lo hi n a b u v m p q pl ph dl dh=0->bt 0 day 10000=false->hdE c T lo hi n a b u v m p q pl ph dl dh day=2:=λh h'=>by
  unfold hdE;rw [if_pos h,h'];rfl
 have e0:rdE c T lo hi n a b u v m p q pl ph dl dh=0->bt 0 day 10000=true->hdE c T lo hi n a b u v m p q pl ph dl dh day=0:=λh h'=>by
  unfold hdE;rw [if_pos h,h'];rfl
 have er: ¬rdE c T lo hi n a b u v m p q pl ph dl dh=0->hdE c T lo hi n a b u v m p q pl ph dl dh day=rdE c T lo hi n a b u v m p q pl ph dl dh:=λh=>if_neg h
 have eN: ∀k:Int,hdE c T lo hi n a b u v m p q pl ph dl dh day=k->k≠0->(eR (YQ)/\hdN c T lo hi n a b u v m p q pl ph dl dh day=0)/\k=hdE c T lo hi n a b u v m p q pl ph dl dh day:=λk h hk=>⟨⟨by trivial,if_neg (by rw [h];exact hk)⟩,h.symm⟩
 have eP:rdE c T lo hi n a b u v m p q pl ph dl dh=0->bt 0 day 10000=true->hdN c T lo hi n a b u v m p q pl ph dl dh day=c.toNat+1:=λh h'=>if_pos (e0 h h')
 refine ⟨⟨Bo.isRec4 n a b u v,Pt.isRec2 m p q⟩,λh=>⟨λh'=>eN 2 (e2 h h') (by decide),λh'=>?_⟩,λh=>⟨λ_=>eN _ (er h) h,λh''=>absurd h'' h⟩⟩
 have hw:=bI h;have hb:=(bt_iff _ _ _).1 h';refine ⟨⟨h,hb,hw.1,hw.2.1,hw.2.2.1⟩,λj hj=>absurd hj (Nat.not_lt_zero _),⟨?_,λj _ x hx=>?_⟩,(e0 h h').symm⟩
 ·rw [eP h h'];omega
 ·simp only [GK,DQ,or_false] at hx;rcases hx with rfl|rfl<;>exact True.intro
end
def Qf2:UV
 |[.agg [.x (.int .i64 c),.x (.int .i64 T),.x (.int .i64 lo),.x (.int .i64 hi),.lst 4 n fr,.lst 2 m ft,.x (.int .i64 pl),.x (.int .i64 ph),.x (.int .i64 dl),.x (.int .i64 dh)],.x (.int .i64 day),.fn (.func 76) [] []]=>some ([UD 4 n fr,UD 2 m ft],.tup [.lst 2 (hdN c T lo hi n (col 0 fr) (col 1 fr) (col 2 fr) (col 3 fr) m (Pt.col 0 ft) (Pt.col 1 ft) pl ph dl dh day) (λk=>[i (onL (wkA c T lo hi n (col 0 fr) (col 1 fr) (col 2 fr) (col 3 fr) m (Pt.col 0 ft) (Pt.col 1 ft) pl ph dl dh) k day),i (onH (wkA c T lo hi n (col 0 fr) (col 1 fr) (col 2 fr) (col 3 fr) m (Pt.col 0 ft) (Pt.col 1 ft) pl ph dl dh) k day)]),i (hdE c T lo hi n (col 0 fr) (col 1 fr) (col 2 fr) (col 3 fr) m (Pt.col 0 ft) (Pt.col 1 ft) pl ph dl dh day)])
 |_=>none
theorem Wq5:VO VN 75 Qf2:=by
 refine ⟨(UF Tryz.func75),?_⟩;intro avs ns res h hn;unfold Qf2 at h;split at h
 ·cases h;have hr:UD 4 _ _:=hn _ GD;have ht:UD 2 _ _:=hn _ (HN _ GD);exact (Wq6 _ _ _ _ _ _ _ _ _ _ _ _ _ _ _ _ _).same (.cons (LT.same (.cons (.refl _) (.cons (.refl _) (.cons (.refl _) (.cons (.refl _) (.cons (.lst 4 _ _ _ hr) (.cons (.lst 2 _ _ _ ht) (.cons (.refl _) (.cons (.refl _) (.cons (.refl _) (.cons (.refl _) .nil))))))))))) (.cons (.refl _) (.cons (.refl _) .nil)))
 ·cases h
theorem vV(c T lo hi:Int)(n:Nat)(a b u v:Nat->Int)(m:Nat)(p q:Nat->Int)(pl ph dl dh:Int)(day:Int):FB VN 44 [.agg [i c,i T,i lo,i hi,rds n a b u v,Pt.scs m p q,i pl,i ph,i dl,i dh],i day] (.tup [.lst 2 (hdN c T lo hi n a b u v m p q pl ph dl dh day) (λk=>[i (onL (wkA c T lo hi n a b u v m p q pl ph dl dh) k day),i (onH (wkA c T lo hi n a b u v m p q pl ph dl dh) k day)]),i (hdE c T lo hi n a b u v m p q pl ph dl dh day)]):=by
 refine HU (L:=[]) (VJ.cons Wq5 (VJ.nil _)) (VV.of (VP.nil _) (VM.nil _)) VY Tryz.func44 (US Tryz.f44) G4 (t:=need [UD 4 n λk=>[Bo.i (a k),Bo.i (b k),Bo.i (u k),Bo.i (v k)],UD 2 m λk=>[Pt.i (p k),Pt.i (q k)]] (leaf (tup [lst 2 (hdN c T lo hi n a b u v m p q pl ph dl dh day) λk=>[iI (onL (wkA c T lo hi n a b u v m p q pl ph dl dh) k day),iI (onH (wkA c T lo hi n a b u v m p q pl ph dl dh) k day)],iI (hdE c T lo hi n a b u v m p q pl ph dl dh day)]))) VS ?_
 simp only [VL.sat,UA,UG];exact ⟨⟨Bo.isRec4 n a b u v,Pt.isRec2 m p q⟩,⟨rfl,rfl,λ_ _=>rfl⟩,⟨rfl,rfl⟩,True.intro⟩
end Go.Proofs.YtlclobclmfhlmaaGreatDoor
namespace Go.Proofs.YtlclobclmfhlmaaGreatDoor.Hd
open Go Go.Sx Go.RowKit Bo
open Go.Sx.VL (need branch leaf)
open Go.Sx.AV (lst ptr agg roI tup top)
def S5:UV
 |[.x (.int .i64 n),.x (.int .i64 lo),.x (.int .i64 hi)]=>some ([],bl (bt lo n hi))
 |_=>none
abbrev WM:Value:=Value.bool false
theorem V8{p:Prop}(h:p:=by
 simp only [VL.sat,UA,UZ,GI,UC,UG];all_goals (simp+contextual [bt,insB,Bo.bt,Bo.insB,Bool.and_assoc]);all_goals omega):p:=h
theorem pU(n lo hi:Int):VW VN 118 [i n,i lo,i hi] (bl (bt lo n hi)):=by
 refine GU Tryz.func118 (t:=branch (decide (lo<=n)) (leaf (RV.x (.bool (decide (n<=hi))))) (leaf (RV.x (WM)))) VS ?_;exact V8
theorem zO:VO VN 118 S5:=by
 refine ⟨(UF Tryz.func118),?_⟩;intro avs ns res h hn;unfold S5 at h;split at h
 ·cases h;exact pU _ _ _
 ·cases h
def S7:UV
 |[.agg [.x (.int .i64 a),.x (.int .i64 b)],.x (.int .i64 lo),.x (.int .i64 hi)]=>some ([],bl (insB lo a b hi))
 |_=>none
theorem pZ(a b lo hi:Int):VW VN 157 [.agg [i a,i b],i lo,i hi] (bl (insB lo a b hi)):=by
 refine GU Tryz.func157 (t:=branch (decide (lo<=a)) (branch (decide (a<=b)) (leaf (RV.x (.bool (decide (b<=hi))))) (leaf (RV.x (WM)))) (leaf (RV.x (WM)))) VS ?_;exact V8
theorem IQ:VO VN 157 S7:=by
 refine ⟨(UF Tryz.func157),?_⟩;intro avs ns res h hn;unfold S7 at h;split at h
 ·cases h;exact pZ _ _ _ _
 ·cases h
def S6:UV
 |[.agg [.x (.int .i64 a),.x (.int .i64 b)]]=>some ([],bl (insB (-100) a b 100))
 |_=>none
theorem pY(a b:Int):VW VN 117 [.agg [i a,i b]] (bl (insB (-100) a b 100)):=by
 refine U0 (L:=[]) (VJ.cons IQ (VJ.nil _)) VY Tryz.func117 (US Tryz.f117) U2 (t:=leaf (RV.x (.bool (insB (-100:Int) a b (100:Int))))) VS ?_;exact YZ
theorem pX:VO VN 117 S6:=by
 refine ⟨(UF Tryz.func117),?_⟩;intro avs ns res h hn;unfold S6 at h;split at h
 ·cases h;exact pY _ _
 ·cases h
def Qf6:UV
 |[.agg [.x (.int .i64 a),.x (.int .i64 b)]]=>some ([],bl (insB 0 a b 1000))
 |_=>none
theorem Ws5(a b:Int):VW VN 161 [.agg [i a,i b]] (bl (insB 0 a b 1000)):=by
 refine U0 (L:=[]) (VJ.cons IQ (VJ.nil _)) VY Tryz.func161 (US Tryz.f161) U2 (t:=leaf (RV.x (.bool (insB (0:Int) a b (1000:Int))))) VS ?_;exact YZ
theorem lH:VO VN 161 Qf6:=by
 refine ⟨(UF Tryz.func161),?_⟩;intro avs ns res h hn;unfold Qf6 at h;split at h
 ·cases h;exact Ws5 _ _
 ·cases h
def aQ:UV
 |[.x (.int .i64 n)]=>some ([0<=n/\n<=1000],i (1+n))
 |_=>none
theorem Wr8(n:Int)(VR:0<=n/\n<=1000):VW VN 70 [i n] (i (1+n)):=by
 refine GU Tryz.func70 (t:=need [VK ((1:Int)+n)] (leaf (RV.x (.int .i64 ((1:Int)+n))))) VS ?_;simp only [VL.sat,UA,UZ,GI,UC,VK,UG];all_goals first|omega|grind
theorem RG:VO VN 70 aQ:=by
 refine ⟨(UF Tryz.func70),?_⟩;intro avs ns res h hn;unfold aQ at h;split at h
 ·cases h;exact Wr8 _ (hn _ VU)
 ·cases h
def aT:UV
 |[.x (.int .i64 n)]=>some ([0<=n/\n<=1000],i (7+n))
 |_=>none
theorem Ws0(n:Int)(VR:0<=n/\n<=1000):VW VN 123 [i n] (i (7+n)):=by
 refine GU Tryz.func123 (t:=need [VK ((7:Int)+n)] (leaf (RV.x (.int .i64 ((7:Int)+n))))) VS ?_;exact VB
theorem LS:VO VN 123 aT:=by
 refine ⟨(UF Tryz.func123),?_⟩;intro avs ns res h hn;unfold aT at h;split at h
 ·cases h;exact Ws0 _ (hn _ VU)
 ·cases h
def kH:UV:=kF
theorem Qq9(a b:Int):VW VN 124 [.lst 1 2 (λk=>[i (if k=0 then a else b)])] (i (min a b)):=by
 refine U0 (L:=[]) (VJ.cons SN (VJ.nil _)) VY Tryz.func124 (US Tryz.f124) U2 (t:=leaf (RV.x (.int .i64 (min (if 0=0 then a else b) (if 1=0 then a else b))))) VS ?_
 simp [VL.sat,UZ,UC]
theorem FX:VO VN 124 kH:=by
 refine ⟨(UF Tryz.func124),?_⟩;intro avs ns res h hn;unfold kH kF at h;split at h
 ·rename_i f;split at h
  ·rename_i a b h0 h1;cases h;refine (Qq9 a b).same (.cons (.lst 1 2 _ _ ?_) .nil);intro k hk;rcases (show k=0\/k=1 by omega) with rfl|rfl
   ·exact h0
   ·exact h1
  ·cases h
 ·cases h
def m6:UV
 |[.agg [.lst 2 3 f,.x (.int .i64 er),.lst 3 N bf],.x (.int .i64 n)]=>some ([],bl (bt 0 n 2))
 |_=>none
theorem Qr0(f:Nat->List AV)(er:Int)(N:Nat)(bf:Nat->List AV)(n:Int):VW VN 160 [.agg [.lst 2 3 f,i er,.lst 3 N bf],i n] (bl (bt 0 n 2)):=by
 refine U0 (L:=[]) (VJ.cons zO (VJ.nil _)) VY Tryz.func160 (US Tryz.f160) U2 (t:=need [VK ((↑(3:Nat):Int)-1)] (leaf (RV.x (.bool (bt (0:Int) n ((↑(3:Nat):Int)-1)))))) VS ?_;simp [VL.sat,UA,UZ,UC,VK]
theorem OO:VO VN 160 m6:=by
 refine ⟨(UF Tryz.func160),?_⟩;intro avs ns res h hn;unfold m6 at h;split at h
 ·cases h;exact Qr0 _ _ _ _ _
 ·cases h
def snB(r:Nat->Int):Nat->Int->Bool
 | 0,_=>false
 |k+1,q=>snB r k q||(r k==q)
theorem tF(r:Nat->Int)(q:Int): ∀k,snB r k q=true↔ ∃j,j<k/\r j=q
 | 0=>by simp [snB]
 |k+1=>by
  simp only [snB,Bool.or_eq_true,tF r q k,beq_iff_eq];constructor
  ·rintro (⟨j,h1,h2⟩|h)
   ·exact ⟨j,VI,h2⟩
   ·exact ⟨k,VI,h⟩
  ·rintro ⟨j,h1,h2⟩;rcases (show j<k\/j=k by omega) with h|rfl
   ·exact .inl ⟨j,h,h2⟩
   ·exact .inr h2
abbrev bts(m:Nat)(r v:Nat->Int):AV:= .lst 2 m (λj=>[i (r j),i (v j)])
abbrev WD(f:Nat->List AV):AV:=lst 2 3 λa=>f a
abbrev X9(m:Nat)(r:Nat->Int)(v:Nat->Int):AV:=lst 2 m λj=>[iI (r j),iI (v j)]
abbrev K1(N:Nat)(bf:Nat->List AV):AV:=lst 3 N λa=>bf a
section
variable (f:Nat->List AV)(er:Int)(N:Nat)(bf:Nat->List AV)(lo hi:Int)(m:Nat)(r v:Nat->Int)
def Zr0:St:={σ:=[agg [WD f,iI er,K1 N bf],agg [iI lo,iI hi,X9 m r v],ptr 0 0,ptr 1 0,top,ptr 3 0,top,top,top,X9 m r v,iI (m:Int)]++HG 28 [],m:=[(3,GM.cells 264 [AV.x (WM),AV.x (WM),AV.x (WM),AV.x (WM),AV.x (WM),AV.x (WM)]),(1,GM.cells 75 [iI lo,iI hi,X9 m r v]),(0,GM.cells 103 [WD f,iI er,K1 N bf])],nx:=8}
noncomputable def Jp9:Code:=U8 (VQ (U6 Tryz.f120) 0)
def Wj2(k:Nat):St:=(upE [(11,i k)] [(3,.cells 264 [bl (snB r (k) 0),bl (snB r (k) 1),bl (snB r (k) 2),bl (snB r (k) 3),bl (snB r (k) 4),bl (snB r (k) 5)]),(1,.cells 75 [i lo,i hi,bts m r v]),(0,.cells 103 [.lst 2 3 f,i er,.lst 3 N bf])] (Zr0 f er N bf lo hi m r v))
def E1(k:Nat):G6->Option St
 | .exit 0=>some (upE [] [(3,.cells 264 [bl (snB r (m) 0),bl (snB r (m) 1),bl (snB r (m) 2),bl (snB r (m) 3),bl (snB r (m) 4),bl (snB r (m) 5)]),(1,.cells 75 [i lo,i hi,bts m r v]),(0,.cells 103 [.lst 2 3 f,i er,.lst 3 N bf])] (Zr0 f er N bf lo hi m r v))
 |_=>none
def Jl7:CT:= .leaf (.exit 0,(E1 f er N bf lo hi m r v 0 (.exit 0)).getD (Zr0 f er N bf lo hi m r v))
def Xx3:UH:=(HF (Wj2 f er N bf lo hi m r v (0)) (Jl7 f er N bf lo hi m r v))
end
abbrev QO:Prop:=ptr 0 0=ptr 0 0
abbrev XV:Prop:=ptr 1 0=ptr 1 0
abbrev ZG:Prop:=ptr 3 0=ptr 3 0
theorem YY{p:Prop}(h:p:=by
 (with_reducible repeat' first|apply And.intro|intro _)
 all_goals first|exact True.intro|omega|with_reducible rfl|(rename_i E hE;cases hE;exact hQ)|rfl):p:=h
section
variable (f:Nat->List AV)(er:Int)(N:Nat)(bf:Nat->List AV)(lo hi:Int)(m:Nat)(r v:Nat->Int)
theorem Jh3(VR:m<=1000)(UE: ∀j,j<m->0<=r j/\r j<=2/\ -1000<=v j/\v j<=2000)(HP: ∀j k,j<k->k<m->r j≠r k)(DZ:insB 0 lo hi 1000=true):G7 VN (.loop Jp9) (Xx3 f er N bf lo hi m r v):=by
 refine HE (L:=[]) (VJ.cons OO (VJ.cons zO (VJ.cons lH (VJ.nil _)))) VY U2 (X:=Nat) (Wj2 f er N bf lo hi m r v) (λk=>k<=m) (λk=>m-k) (E1 f er N bf lo hi m r v) (x0:=0) VU ?_ ?_ ?_
 ·rintro k;kernel_rfl
 ·rintro k y E h;unfold E1 at h;split at h
  ·cases h;kernel_rfl
  ·cases h
 ·rintro Q hQ k hx;refine ⟨(k+1),?_⟩;(with_reducible refine DF (t:=branch (decide ((k:Int)<(m:Int))) (need [UI k m] (branch (!bt (0:Int) (r k) (2:Int)) VL.fail (need [UI (r k) 6] (need [0+(r k).toNat*1<List.length [snB r k (0:Int),snB r k (1:Int),snB r k (2:Int),snB r k (3:Int),snB r k (4:Int),snB r k (5:Int)]] (branch (match [snB r k (0:Int),snB r k (1:Int),snB r k (2:Int),snB r k (3:Int),snB r k (4:Int),snB r k (5:Int)][0+(r k).toNat*1]? with|some x=>x|none=>false) VL.fail (branch (!bt (-1000:Int) (v k) (2000:Int)) VL.fail (need [UI (r k) 6] (need [0+(r k).toNat*1<List.length [snB r k (0:Int),snB r k (1:Int),snB r k (2:Int),snB r k (3:Int),snB r k (4:Int),snB r k (5:Int)]] (need [VK ((k:Int)+1)] (need [VX (agg [WD f,iI er,K1 N bf]),VX (agg [iI lo,iI hi,X9 m r v]),QO,XV,ZG,VX (X9 m r v),VX (m:Int),(k:Int)+1=(↑(k+1):Int),(if 0=0+(r k).toNat*1 then true else snB r k (0:Int))=snB r (k+1) (0:Int),(if 1=0+(r k).toNat*1 then true else snB r k (1:Int))=snB r (k+1) (1:Int),(if 2=0+(r k).toNat*1 then true else snB r k (2:Int))=snB r (k+1) (2:Int),(if 3=0+(r k).toNat*1 then true else snB r k (3:Int))=snB r (k+1) (3:Int),(if 4=0+(r k).toNat*1 then true else snB r k (4:Int))=snB r (k+1) (4:Int),(if 5=0+(r k).toNat*1 then true else snB r k (5:Int))=snB r (k+1) (5:Int),lo=lo,hi=hi,VX (X9 m r v),WD f=WD f,er=er,VX (K1 N bf)] (leaf G6.normal))))))))))) (need [VX (agg [WD f,iI er,K1 N bf]),VX (agg [iI lo,iI hi,X9 m r v]),QO,XV,ZG,VX (X9 m r v),VX (m:Int),snB r k (0:Int)=snB r m (0:Int),snB r k (1:Int)=snB r m (1:Int),snB r k (2:Int)=snB r m (2:Int),snB r k (3:Int)=snB r m (3:Int),snB r k (4:Int)=snB r m (4:Int),snB r k (5:Int)=snB r m (5:Int),lo=lo,hi=hi,VX (X9 m r v),WD f=WD f,er=er,VX (K1 N bf)] (leaf (G6.exit 0)))) VS ?_)
  simp only [Jl7,E1,VL.sat,GS] at hQ;simp only [VL.sat,UA,UZ,GI,UC,VK,UG,H9,R0,RF,L1,GL,E1]
  refine ⟨λh=>?_,λh=>?_⟩
  ·obtain ⟨h0,h1,h2,h3⟩:=UE k VI;have hno:snB r k (r k)=false:=by
    rw [←Bool.not_eq_true,tF];rintro ⟨j,hj,he⟩;exact HP j k hj VI he
   have hb1:bt 0 (r k) 2=true:=(bt_iff _ _ _).2 VI;have hb2:bt (-1000) (v k) 2000=true:=(bt_iff _ _ _).2 VI;rcases (show r k=0\/r k=1\/r k=2 by omega) with hr|hr|hr
   all_goals
    rw [hr] at hno hb1;simp [hr,hno,hb1,hb2,snB];exact YY
  ·obtain rfl:k=m:=VI;exact YY
theorem Ws8(VR:m<=1000)(UE: ∀j,j<m->0<=r j/\r j<=2/\ -1000<=v j/\v j<=2000)(HP: ∀j k,j<k->k<m->r j≠r k)(DZ:insB 0 lo hi 1000=true):VW VN 120 [.agg [.lst 2 3 f,i er,.lst 3 N bf],.agg [i lo,i hi,bts m r v]] (bl true):=by
 refine U0 (L:=[Xx3 f er N bf lo hi m r v]) (VJ.cons OO (VJ.cons zO (VJ.cons lH (VJ.nil _)))) VY Tryz.func120 (US Tryz.f120) (G0 (lpE (b:= .loop Jp9) VS<|Jh3 f er N bf lo hi m r v VR UE HP DZ)) (t:=need [VX (agg [WD f,iI er,K1 N bf]),VX (agg [iI lo,iI hi,X9 m r v]),QO,XV,ZG,VX (X9 m r v),VX (m:Int),(0:Int)=(↑(0:Nat):Int),false=snB r 0 (0:Int),false=snB r 0 (1:Int),false=snB r 0 (2:Int),false=snB r 0 (3:Int),false=snB r 0 (4:Int),false=snB r 0 (5:Int),lo=lo,hi=hi,VX (X9 m r v),WD f=WD f,er=er,VX (K1 N bf)] (leaf (RV.x (.bool (insB (0:Int) lo hi (1000:Int)))))) VS ?_
 exact YZ
end
def Qk1(m:Nat)(r v:Nat->Int):Prop:=m<=1000/\(∀j,j<m->0<=r j/\r j<=2/\ -1000<=v j/\v j<=2000)/\ ∀j k,j<k->k<m->r j≠r k
section
variable (N:Nat)(lo hi:Nat->Int)(m:Nat->Nat)(g:Nat->Nat->List AV)
abbrev bgs:AV:= .lst 3 N (λk=>[i (lo k),i (hi k),.lst 2 (m k) (g k)])
def Qq6:Prop:= ∀k,k<N->UD 2 (m k) (g k)/\Qk1 (m k) (col 0 (g k)) (col 1 (g k))/\insB 0 (lo k) (hi k) 1000=true
end
def vB(N:Nat)(bf:Nat->List AV):Prop:=N<=6/\ ∃(lo hi:Nat->Int) (m:Nat->Nat) (g:Nat->Nat->List AV),(∀k,k<N->bf k=[i (lo k),i (hi k),.lst 2 (m k) (g k)])/\Qq6 N lo hi m g
def Qf7:UV
 |[.agg [.lst 2 3 f,.x (.int .i64 er),.lst 3 N bf],.agg [.x (.int .i64 lo),.x (.int .i64 hi),.lst 2 m g]]=>some ([UD 2 m g,Qk1 m (col 0 g) (col 1 g),insB 0 lo hi 1000=true],bl true)
 |_=>none
theorem Ws7:VO VN 120 Qf7:=by
 refine ⟨(UF Tryz.func120),?_⟩;intro avs ns res h hn;unfold Qf7 at h;split at h
 ·cases h;have hr:_:=hn _ (GD);have hr1:_:=hn _ (HN _ (GD));have hr2:_:=hn _ (HN _ (HN _ (GD)));exact (Ws8 _ _ _ _ _ _ _ (col 0 _) (col 1 _) hr1.1 hr1.2.1 hr1.2.2 hr2).same (.cons (.refl _) (.cons (LT.same (.cons (.refl _) (.cons (.refl _) (.cons (.lst 2 _ _ _ hr) .nil)))) .nil))
 ·cases h
def m8:UV
 |[.agg [.x (.int .i64 lo),.x (.int .i64 hi),.lst 2 m g],.ro [.fn (.func 120) [.agg [.lst 2 3 f,.x (.int .i64 er),.lst 3 N bf]] []]]=>some ([UD 2 m g,Qk1 m (col 0 g) (col 1 g),insB 0 lo hi 1000=true],bl false)
 |_=>none
theorem Qr2(lo hi:Int)(m:Nat)(g:Nat->List AV)(f:Nat->List AV)(er:Int)(N:Nat)(bf:Nat->List AV)(VR:UD 2 m g)(UE:Qk1 m (col 0 g) (col 1 g))(HP:insB 0 lo hi 1000=true):VW VN 159 [.agg [i lo,i hi,.lst 2 m g],.ro [.fn (.func 120) [.agg [.lst 2 3 f,i er,.lst 3 N bf]] []]] (bl false):=by
 refine U0 (L:=[]) (VJ.cons Ws7 (VJ.nil _)) VY Tryz.func159 (US Tryz.f159) U2 (t:=need [UD 2 m g,Qk1 m (col 0 g) (col 1 g),insB (0:Int) lo hi (1000:Int)=true] (leaf (RV.x (.bool !true)))) VS ?_;exact YZ
theorem OQ:VO VN 159 m8:=by
 refine ⟨(UF Tryz.func159),?_⟩;intro avs ns res h hn;unfold m8 at h;split at h
 ·cases h;exact Qr2 _ _ _ _ _ _ _ _ (hn _ VU) (hn _ VU) (hn _ VU)
 ·cases h
abbrev XK(f:Nat->List AV)(er:Int)(N1:Nat)(bf:Nat->List AV):AV:=AV.fn (Fn.func 159) [] [AV.ro [AV.fn (Fn.func 120) [agg [WD f,iI er,lst 3 N1 λa=>bf a]] []]]
section
variable (N:Nat)
abbrev J2(lo:Nat->Int)(hi:Nat->Int)(m:Nat->Nat)(g:Nat->Nat->List AV):AV:=lst 3 N λk=>[iI (lo k),iI (hi k),lst 2 (m k) λa=>g k a]
def aZ(lo hi:Nat->Int)(m:Nat->Nat)(g:Nat->Nat->List AV)(f:Nat->List AV)(er:Int)(N1:Nat)(bf:Nat->List AV):St:={σ:=[J2 N lo hi m g,XK f er N1 bf]++HG 5 [iI (N:Int)]++HG 11 [],m:=[],nx:=4}
noncomputable def Qi7:Code:=U8 (VQ (U6 Tryz.f196) 0)
def NZ(lo hi:Nat->Int)(m:Nat->Nat)(g:Nat->Nat->List AV)(f:Nat->List AV)(er:Int)(N1:Nat)(bf:Nat->List AV)(k:Nat):St:=(upM [(8,i k)] (aZ N lo hi m g f er N1 bf))
def x7(lo hi:Nat->Int)(m:Nat->Nat)(g:Nat->Nat->List AV)(f:Nat->List AV)(er:Int)(N1:Nat)(bf:Nat->List AV)(k:Nat):G6->Option St
 | .exit 0=>some (upM [] (aZ N lo hi m g f er N1 bf))
 |_=>none
def Qe0(lo hi:Nat->Int)(m:Nat->Nat)(g:Nat->Nat->List AV)(f:Nat->List AV)(er:Int)(N1:Nat)(bf:Nat->List AV):CT:= .leaf (.exit 0,(x7 N lo hi m g f er N1 bf 0 (.exit 0)).getD (aZ N lo hi m g f er N1 bf))
def mG(lo hi:Nat->Int)(m:Nat->Nat)(g:Nat->Nat->List AV)(f:Nat->List AV)(er:Int)(N1:Nat)(bf:Nat->List AV):UH:=(HF (NZ N lo hi m g f er N1 bf (0)) (Qe0 N lo hi m g f er N1 bf))
end
theorem VF{p:Prop}(h:p:=by
 (with_reducible repeat' first|apply And.intro|intro _)
 all_goals first|exact True.intro|(rename_i E hE;cases hE;exact hQ)|omega|rfl|assumption):p:=h
section
variable (N:Nat)(lo hi:Nat->Int)(m:Nat->Nat)(g:Nat->Nat->List AV)(f:Nat->List AV)(er:Int)(N1:Nat)(bf:Nat->List AV)
theorem Qt3(VR:N<=6)(UE:Qq6 N lo hi m g):G7 VN (.loop Qi7) (mG N lo hi m g f er N1 bf):=by
 refine HE (L:=[]) (VJ.cons OQ (VJ.nil _)) VY U2 (X:=Nat) (NZ N lo hi m g f er N1 bf) (λk=>k<=N) (λk=>N-k) (x7 N lo hi m g f er N1 bf) (x0:=0) VU ?_ ?_ ?_
 ·rintro k;kernel_rfl
 ·rintro k y E h;unfold x7 at h;split at h
  ·cases h;kernel_rfl
  ·cases h
 ·rintro Q hQ k hx;refine ⟨(k+1),?_⟩;(with_reducible refine DF (t:=branch (decide ((k:Int)<(N:Int))) (need [UI k N] (need [UD 2 (m k) λa=>g k a,Qk1 (m k) (col 0 λa=>g k a) (col 1 λa=>g k a),insB (0:Int) (lo k) (hi k) (1000:Int)=true] (branch false VL.fail (need [VK ((k:Int)+1)] (need [VX (J2 N lo hi m g),VX (XK f er N1 bf),VX (N:Int),(k:Int)+1=(↑(k+1):Int)] (leaf G6.normal)))))) (need [VX (J2 N lo hi m g),VX (XK f er N1 bf),VX (N:Int)] (leaf (G6.exit 0)))) VS ?_)
  simp only [Qe0,x7,VL.sat,GS] at hQ;simp only [VL.sat,UA,UG,H9,VK,x7,F9]
  refine ⟨λh=>?_,λh=>?_⟩
  ·have hk:k<N:=VI;obtain ⟨h1,h2,h3⟩:=UE k hk;all_goals exact V5
  ·obtain rfl:k=N:=VI;exact VF
abbrev KH:Value:=Value.int IntKind.i64 (-1:Int)
theorem Xj2(VR:N<=6)(UE:Qq6 N lo hi m g):VW VN 196 [bgs N lo hi m g,.fn (.func 159) [] [.ro [.fn (.func 120) [.agg [.lst 2 3 f,i er,.lst 3 N1 bf]] []]]] (i (-1)):=by
 refine U0 (L:=[mG N lo hi m g f er N1 bf]) (VJ.cons OQ (VJ.nil _)) VY Tryz.func196 (US Tryz.f196) (G0 (lpE (b:= .loop Qi7) VS<|Qt3 N lo hi m g f er N1 bf VR UE)) (t:=need [VX (J2 N lo hi m g),VX (XK f er N1 bf),VX (N:Int),(0:Int)=(↑(0:Nat):Int)] (leaf (RV.x (KH)))) VS ?_
 exact YZ
end
def Wv2:UV
 |[.lst 3 N b,.fn (.func 159) [] [.ro [.fn (.func 120) [.agg [.lst 2 3 f,.x (.int .i64 er),.lst 3 N1 bf]] []]]]=>some ([vB N b],i (-1))
 |_=>none
theorem Xj1:VO VN 196 Wv2:=by
 refine ⟨(UF Tryz.func196),?_⟩;intro avs ns res h hn;unfold Wv2 at h;split at h
 ·cases h;obtain ⟨h0,lo,hi,m,g,he,hb⟩:vB _ _:=hn _ GD;exact (Xj2 _ lo hi m g _ _ _ _ h0 hb).same (.cons (.lst 3 _ _ _ he) (.cons (.refl _) .nil))
 ·cases h
theorem Qw9{N:Nat}{lo hi:Nat->Int}{m:Nat->Nat}{g:Nat->Nat->List AV}(h0:N<=6)(hb:Qq6 N lo hi m g):vB N (λk=>[i (lo k),i (hi k),.lst 2 (m k) (g k)]):=⟨h0,lo,hi,m,g,λ_ _=>rfl,hb⟩
theorem Xk1(N:Nat)(lo hi:Nat->Int)(m:Nat->Nat)(g:Nat->Nat->List AV)(f:Nat->List AV)(er:Int)(N1:Nat)(bf:Nat->List AV)(VR:N<=6)(UE:Qq6 N lo hi m g):VW VN 158 [bgs N lo hi m g,.fn (.func 159) [] [.ro [.fn (.func 120) [.agg [.lst 2 3 f,i er,.lst 3 N1 bf]] []]]] (bl false):=by
 refine U0 (L:=[]) (VJ.cons Xj1 (VJ.nil _)) VY Tryz.func158 (US Tryz.f158) U2 (t:=need [vB N λk=>[i (lo k),i (hi k),lst 2 (m k) (g k)]] (leaf (RV.x (.bool (decide ((-1:Int)>=(0:Int))))))) VS ?_
 simp only [VL.sat,UA,UZ,GI,UC,UG,F9];exact ⟨Qw9 VR UE,rfl⟩
def Wv6:UV
 |[.lst 3 N b,.fn (.func 159) [] [.ro [.fn (.func 120) [.agg [.lst 2 3 f,.x (.int .i64 er),.lst 3 N1 bf]] []]]]=>some ([vB N b],bl false)
 |_=>none
theorem Xk0:VO VN 158 Wv6:=by
 refine ⟨(UF Tryz.func158),?_⟩;intro avs ns res h hn;unfold Wv6 at h;split at h
 ·cases h;obtain ⟨h0,lo,hi,m,g,he,hb⟩:vB _ _:=hn _ GD;exact (Xk1 _ lo hi m g _ _ _ _ h0 hb).same (.cons (.lst 3 _ _ _ he) (.cons (.refl _) .nil))
 ·cases h
theorem Wt2(N:Nat)(lo hi:Nat->Int)(m:Nat->Nat)(g:Nat->Nat->List AV)(f:Nat->List AV)(er:Int)(N1:Nat)(bf:Nat->List AV)(VR:N<=6)(UE:Qq6 N lo hi m g):VW VN 119 [bgs N lo hi m g,.fn (.func 120) [.agg [.lst 2 3 f,i er,.lst 3 N1 bf]] []] (bl true):=by
 refine U0 (L:=[]) (VJ.cons Xk0 (VJ.nil _)) VY Tryz.func119 (US Tryz.f119) U2 (t:=need [vB N λk=>[i (lo k),i (hi k),lst 2 (m k) (g k)]] (leaf (RV.x (.bool !false)))) VS ?_
 simp only [VL.sat,UA,UZ,GI,UC,UG,F9];exact ⟨Qw9 VR UE,rfl⟩
def Qf9:UV
 |[.lst 3 N b,.fn (.func 120) [.agg [.lst 2 3 f,.x (.int .i64 er),.lst 3 N1 bf]] []]=>some ([vB N b],bl true)
 |_=>none
theorem Wt1:VO VN 119 Qf9:=by
 refine ⟨(UF Tryz.func119),?_⟩;intro avs ns res h hn;unfold Qf9 at h;split at h
 ·cases h;obtain ⟨h0,lo,hi,m,g,he,hb⟩:vB _ _:=hn _ GD;exact (Wt2 _ lo hi m g _ _ _ _ h0 hb).same (.cons (.lst 3 _ _ _ he) (.cons (.refl _) .nil))
 ·cases h
def oL(k:Nat):Int:=if k=0 then 0 else -9
def oH(k:Nat):Int:=if k=0 then 0 else 9
def ofB(f:Nat->List AV):Prop:= ∀k,k<3->f k=[i (oL k),i (oH k)]
abbrev ofs:AV:= .lst 2 3 (λk=>[i (oL k),i (oH k)])
def HB(m:Nat->Nat):Nat->Nat
 | 0=>0
 |b+1=>HB m b+m b
def GC(m:Nat->Nat):Nat->Nat->Nat×Nat
 | 0,q=>(0,q)
 |N+1,q=>if q<HB m N then GC m N q else (N,q-HB m N)
def Wa9(m:Nat->Nat)(N:Nat)(r v:Nat->Nat->Int)(q:Nat):List Value:=
 [.agg #[.int .i64 (GC m N q).1,.int .i64 (GC m N q).2],.agg #[.int .i64 (r (GC m N q).1 (GC m N q).2),.int .i64 (v (GC m N q).1 (GC m N q).2)]]
abbrev bds(N:Nat)(lo hi:Nat->Int)(m:Nat->Nat)(r v:Nat->Nat->Int):AV:= .lst 3 N (λk=>[i (lo k),i (hi k),bts (m k) (r k) (v k)])
theorem aD{P:Program}{ro:Option Nat}{cx:Cx}{c:Code}{t:Nat}{F:Nat->UH}(h: ∀k,HH P ro cx c (F k)):HH P ro cx c (BF t F):=by
 intro n s tr ht Q hQ a w r;unfold BF at ht;split at ht
 ·exact h _ n s tr ht Q hQ a w r
 ·cases ht
theorem NM(m:Nat->Nat){b c:Nat}(h:b<=c):HB m b<=HB m c:=by
 induction h with
 |refl=>exact Nat.le_refl _
 |step _ ih=>exact Nat.le_trans ih (Nat.le_add_right _ _)
theorem Qa0(m:Nat->Nat): ∀(N b n:Nat),b<N->n<m b->GC m N (HB m b+n)=(b,n)
 | 0,_,_,h,_=>VI
 |N+1,b,n,h,hn=>by
  unfold GC;rcases (show b<N\/b=N by omega) with hb|rfl
  ·have:=NM m (show b+1<=N by omega)
   simp only [HB] at this;rw [if_pos VI,Qa0 m N b n hb hn]
  ·rw [if_neg VI];simp
theorem TL(m:Nat->Nat): ∀(N q:Nat),q<HB m N->(GC m N q).1<N/\(GC m N q).2<m (GC m N q).1
 | 0,_,h=>by simp [HB] at h
 |N+1,q,h=>by
  simp only [HB] at h;unfold GC;split
  ·rename_i hq;obtain ⟨h1,h2⟩:=TL m N q hq;exact ⟨VI,h2⟩
  ·exact ⟨VU,by simp;omega⟩
def m7:UV
 |[.agg [.x (.int .i64 a),.x (.int .i64 b)],.ro [.fn (.func 117) [] []]]=>some ([],bl (!insB (-100) a b 100))
 |_=>none
theorem Qr1(a b:Int):VW VN 156 [.agg [i a,i b],.ro [.fn (.func 117) [] []]] (bl (!insB (-100) a b 100)):=by
 refine U0 (L:=[]) (VJ.cons pX (VJ.nil _)) VY Tryz.func156 (US Tryz.f156) U2 (t:=leaf (RV.x (.bool !insB (-100:Int) a b (100:Int)))) VS ?_;exact YZ
theorem OP:VO VN 156 m7:=by
 refine ⟨(UF Tryz.func156),?_⟩;intro avs ns res h hn;unfold m7 at h;split at h
 ·cases h;exact Qr1 _ _
 ·cases h
abbrev ZC:AV:=AV.fn (Fn.func 156) [] [AV.ro [AV.fn (Fn.func 117) [] []]]
def aY:St:={σ:=[lst 2 3 λk=>[iI (oL k),iI (oH k)],ZC]++HG 5 [iI (↑(3:Nat):Int)]++HG 11 [],m:=[],nx:=4}
noncomputable def Qi6:Code:=U8 (VQ (U6 Tryz.f195) 0)
def NY(k:Nat):St:=(upM [(8,i k)] (aY))
def x6(k:Nat):G6->Option St
 | .exit 0=>some (upM [] (aY))
 |_=>none
def Qd9:CT:= .leaf (.exit 0,(x6 0 (.exit 0)).getD (aY))
def mF:UH:=(HF (NY (0)) (Qd9))
theorem Qt2:G7 VN (.loop Qi6) (mF):=by
 refine HE (L:=[]) (VJ.cons OP (VJ.nil _)) VY U2 (X:=Nat) (NY) (λk=>k<=3) (λk=>3-k) (x6) (x0:=0) VU ?_ ?_ ?_
 ·rintro k;kernel_rfl
 ·rintro k y E h;unfold x6 at h;split at h
  ·cases h;kernel_rfl
  ·cases h
 ·rintro Q hQ k hx;refine ⟨(k+1),?_⟩;(with_reducible refine DF (t:=branch (decide ((k:Int)<(↑(3:Nat):Int))) (need [UI k 3] (branch (!insB (-100:Int) (oL k) (oH k) (100:Int)) VL.fail (need [VK ((k:Int)+1)] (need [VX (lst 2 3 λk=>[iI (oL k),iI (oH k)]),ZC=ZC,VX (↑(3:Nat):Int),(k:Int)+1=(↑(k+1):Int)] (leaf G6.normal))))) (need [VX (lst 2 3 λk=>[iI (oL k),iI (oH k)]),ZC=ZC,VX (↑(3:Nat):Int)] (leaf (G6.exit 0)))) VS ?_)
  simp only [Qd9,x6,VL.sat,GS] at hQ;simp only [VL.sat,UA,UG,H9,VK,x6,F9]
  refine ⟨λh=>?_,λh=>?_⟩
  ·have hk:k<3:=VI;rcases (show k=0\/k=1\/k=2 by omega) with rfl|rfl|rfl<;>simp [oL,oH,insB,Bo.insB]
   all_goals exact V5
  ·obtain rfl:k=3:=VI;exact VF
theorem Xj0:VW VN 195 [ofs,.fn (.func 156) [] [.ro [.fn (.func 117) [] []]]] (i (-1)):=by
 refine U0 (L:=[mF]) (VJ.cons OP (VJ.nil _)) VY Tryz.func195 (US Tryz.f195) (G0 (lpE (b:= .loop Qi6) VS<|Qt2)) (t:=need [VX (lst 2 3 λk=>[iI (oL k),iI (oH k)]),ZC=ZC,VX (↑(3:Nat):Int),(0:Int)=(↑(0:Nat):Int)] (leaf (RV.x (KH)))) VS ?_
 exact YZ
def Wv1:UV
 |[.lst 2 3 f,.fn (.func 156) [] [.ro [.fn (.func 117) [] []]]]=>some ([ofB f],i (-1))
 |_=>none
theorem Xi9:VO VN 195 Wv1:=by
 refine ⟨(UF Tryz.func195),?_⟩;intro avs ns res h hn;unfold Wv1 at h;split at h
 ·cases h;have hr:_:=hn _ (GD);exact (Xj0).same (.cons (.lst 2 3 _ _ hr) (.cons (.refl _) .nil))
 ·cases h
theorem Xj9:VW VN 155 [ofs,.fn (.func 156) [] [.ro [.fn (.func 117) [] []]]] (bl false):=by
 refine U0 (L:=[]) (VJ.cons Xi9 (VJ.nil _)) VY Tryz.func155 (US Tryz.f155) U2 (t:=need [ofB λk=>[i (oL k),i (oH k)]] (leaf (RV.x (.bool (decide ((-1:Int)>=(0:Int))))))) VS ?_
 simp only [VL.sat,UA,UZ,GI,UC,UG,F9];exact ⟨λ_ _=>rfl,rfl⟩
def Wv5:UV
 |[.lst 2 3 f,.fn (.func 156) [] [.ro [.fn (.func 117) [] []]]]=>some ([ofB f],bl false)
 |_=>none
theorem Xj8:VO VN 155 Wv5:=by
 refine ⟨(UF Tryz.func155),?_⟩;intro avs ns res h hn;unfold Wv5 at h;split at h
 ·cases h;have hr:_:=hn _ (GD);exact (Xj9).same (.cons (.lst 2 3 _ _ hr) (.cons (.refl _) .nil))
 ·cases h
theorem Wt0:VW VN 116 [ofs,.fn (.func 117) [] []] (bl true):=by
 refine U0 (L:=[]) (VJ.cons Xj8 (VJ.nil _)) VY Tryz.func116 (US Tryz.f116) U2 (t:=need [ofB λk=>[i (oL k),i (oH k)]] (leaf (RV.x (.bool !false)))) VS ?_
 simp only [VL.sat,UA,UZ,GI,UC,UG,F9];exact ⟨λ_ _=>rfl,rfl⟩
def Qf8:UV
 |[.lst 2 3 f,.fn (.func 117) [] []]=>some ([ofB f],bl true)
 |_=>none
theorem Ws9:VO VN 116 Qf8:=by
 refine ⟨(UF Tryz.func116),?_⟩;intro avs ns res h hn;unfold Qf8 at h;split at h
 ·cases h;have hr:_:=hn _ (GD);exact (Wt0).same (.cons (.lst 2 3 _ _ hr) (.cons (.refl _) .nil))
 ·cases h
def m9:UV
 |[.agg [.lst 2 3 f,.x (.int .i64 1),.lst 3 N bf]]=>some ([ofB f,vB N bf],i 0)
 |_=>none
abbrev X0:Value:=Value.int IntKind.i64 (0:Int)
abbrev JU:Value:=Value.int IntKind.i64 (1:Int)
abbrev KJ:Value:=Value.int IntKind.i64 (3:Int)
theorem Qr4(f:Nat->List AV)(N:Nat)(bf:Nat->List AV)(VR:ofB f)(UE:vB N bf):VW VN 91 [.agg [.lst 2 3 f,i 1,.lst 3 N bf]] (i 0):=by
 refine U0 (L:=[]) (VJ.cons Ws9 (VJ.cons Wt1 (VJ.cons zO (VJ.nil _)))) VY Tryz.func91 (US Tryz.f91) U2 (t:=branch (decide ((↑(3:Nat):Int)>6)) (leaf (RV.x (KJ))) (branch (decide ((N:Int)>6)) (leaf (RV.x (KJ))) (branch ((↑(3:Nat):Int)==0) (leaf (RV.x (JU))) (need [ofB f] (branch (!true) (leaf (RV.x (JU))) (branch (!bt (0:Int) (1:Int) (20:Int)) (leaf (RV.x (JU))) (need [vB N bf] (branch (!true) (leaf (RV.x (JU))) (leaf (RV.x (X0))))))))))) VS ?_;simp only [VL.sat,UA,UZ,GI,UC,UG,F9];have h6:=UE.1;simp [bt,Bo.bt,VR,UE];omega
theorem Qr3:VO VN 91 m9:=by
 refine ⟨(UF Tryz.func91),?_⟩;intro avs ns res h hn;unfold m9 at h;split at h
 ·cases h;exact Qr4 _ _ _ (hn _ VU) (hn _ VU)
 ·cases h
def M4:UV
 |[.agg [.lst 2 3 f,.x (.int .i64 er),.lst 3 N bf]]=>some ([],.fn (.func 162) [] [.ro [.lst 2 3 f,i er,.lst 3 N bf]])
 |_=>none
abbrev WE:Ext:={}
theorem Qq7(f:Nat->List AV)(er:Int)(N:Nat)(bf:Nat->List AV):FB VN 121 [.agg [.lst 2 3 f,i er,.lst 3 N bf]] (.fn (.func 162) [] [.ro [.lst 2 3 f,i er,.lst 3 N bf]]):=by
 refine HU (L:=[]) (VJ.nil _) (VV.of (VP.nil _) (VM.nil _)) VY Tryz.func121 (US Tryz.f121) G4 (t:=leaf (AV.fn (Fn.func 162) [] [AV.ro [WD f,iI er,K1 N bf]])) VS ?_;exact rfl
theorem IN:LZ VN 121 M4:=by
 refine ⟨(UF Tryz.func121),?_⟩;intro avs ns res h hn;unfold M4 at h;split at h
 ·cases h;exact Qq7 _ _ _ _
 ·cases h
abbrev Q1(N:Nat)(lo:Nat->Int)(hi:Nat->Int)(m:Nat->Nat)(r:Nat->Nat->Int)(v:Nat->Nat->Int):AV:=lst 3 N λk=>[iI (lo k),iI (hi k),lst 2 (m k) λj=>[iI (r k j),iI (v k j)]]
section
variable (l:Nat)(f:Nat->List AV)(er:Int)(N:Nat)(lo hi:Nat->Int)(m:Nat->Nat)(r v:Nat->Nat->Int)
def mR:St:={σ:=[AV.fn (Fn.yield l) [] [],AV.ro [WD f,iI er,Q1 N lo hi m r v]]++HG 6 [Q1 N lo hi m r v,iI (N:Int)]++HG 22 [],m:=[],nx:=4,gh:=some 0}
noncomputable def mT:Code:=U8 (VQ (U6 Tryz.f162) 0)
def A0(b:Nat):St:={σ:=H3 [(3,.top),(4,.top),(5,.top),(6,.top),(10,i b)] (mR l f er N lo hi m r v).σ,m:=[],nx:=0,gh:=some (HB m b) }
def qU(b:Nat):G6->Option St
 | .exit 0=>some {σ:=H3 [(3,.top),(4,.top),(5,.top),(6,.top),(10,i N)] (mR l f er N lo hi m r v).σ,m:=[],nx:=0,gh:=some (HB m N) }
 | .ret=>some {σ:=H3 [(3,.top),(4,.top),(5,.top),(6,.top)] (mR l f er N lo hi m r v).σ,m:=[],nx:=0,gh:=none}
 |_=>none
def Xs1:CT:= .may True (.leaf (.exit 0,(qU l f er N lo hi m r v 0 (.exit 0)).getD (mR l f er N lo hi m r v))) (.leaf (.ret,(qU l f er N lo hi m r v 0 .ret).getD (mR l f er N lo hi m r v)))
def Wx9:UH:=GJ [] (HF (A0 l f er N lo hi m r v (0)) (Xs1 l f er N lo hi m r v))
end
abbrev JS(m:Nat->Nat)(b:Nat)(r:Nat->Nat->Int)(v:Nat->Nat->Int):AV:=lst 2 (m b) λj=>[iI (r b j),iI (v b j)]
section
variable (l:Nat)(f:Nat->List AV)(er:Int)(N:Nat)(lo hi:Nat->Int)(m:Nat->Nat)(r v:Nat->Nat->Int)(b:Nat)
def mS:St:={σ:=[AV.fn (Fn.yield l) [] [],AV.ro [WD f,iI er,Q1 N lo hi m r v],top,iI (b:Int),ptr 4 0,top,top,top,Q1 N lo hi m r v,iI (N:Int),iI (b:Int)]++HG 5 [JS m b r v,iI (↑(m b):Int)]++HG 14 [],m:=[(4,GM.cells 75 [iI (lo b),iI (hi b),JS m b r v])],nx:=11,gh:=some (HB m b) }
noncomputable def Xa6:Code:=U8 (VQ mT 0)
def A1(n:Nat):St:={σ:=H3 [(4,.top),(5,.top),(6,.top),(18,i n)] (mS l f er N lo hi m r v b).σ,m:=[],nx:=0,gh:=some (HB m b+n) }
def qV(n:Nat):G6->Option St
 | .exit 2=>some {σ:=H3 [(3,.top),(4,.top),(5,.top),(6,.top),(18,i (m b))] (mS l f er N lo hi m r v b).σ,m:=[],nx:=0,gh:=some (HB m (b+1)) }
 | .ret=>some {σ:=H3 [(3,.top),(4,.top),(5,.top),(6,.top)] (mS l f er N lo hi m r v b).σ,m:=[],nx:=0,gh:=none}
 |_=>none
def Xs2:CT:= .may True (.leaf (.exit 2,(qV l f er N lo hi m r v b 0 (.exit 2)).getD (mS l f er N lo hi m r v b))) (.leaf (.ret,(qV l f er N lo hi m r v b 0 .ret).getD (mS l f er N lo hi m r v b)))
def sN:UH:=GJ [] (HF (A1 l f er N lo hi m r v b (0)) (Xs2 l f er N lo hi m r v b))
end
abbrev WS(N:Nat)(lo:Nat->Int)(hi:Nat->Int)(m:Nat->Nat)(r:Nat->Nat->Int)(v:Nat->Nat->Int):Prop:=(Q1 N lo hi m r v)=Q1 N lo hi m r v
abbrev XG(l:Nat):Prop:=AV.fn (Fn.yield l) [] []=AV.fn (Fn.yield l) [] []
abbrev ZZ(f:Nat->List AV)(er:Int)(N:Nat)(lo:Nat->Int)(hi:Nat->Int)(m:Nat->Nat)(r:Nat->Nat->Int)(v:Nat->Nat->Int):Prop:=AV.ro [WD f,iI er,Q1 N lo hi m r v]=AV.ro [WD f,iI er,Q1 N lo hi m r v]
section
variable (l:Nat)(f:Nat->List AV)(er:Int)(N:Nat)(lo hi:Nat->Int)(m:Nat->Nat)(r v:Nat->Nat->Int)
theorem Zf1(b:Nat)(VR:N<=1000)(UE: ∀b,b<N->m b<=1000)(HP:b<N){cx:Cx}(hX:VV VN {Y:=some (l,(HB m N),(Wa9 m N r v)) } cx):HH VN none cx (.loop Xa6) (sN l f er N lo hi m r v b):=by
 refine FI [] (L:=[]) (VJ.nil _) hX VY G4 (V:=Nat) (A1 l f er N lo hi m r v b) (λn=>n<=m b) (λn=>m b-n) (qV l f er N lo hi m r v b) (x0:=0) VU ?_ ?_ ?_
 ·rintro n;kernel_rfl
 ·rintro n y E h;unfold qV at h;split at h
  ·cases h;kernel_rfl
  ·cases h;kernel_rfl
  ·cases h
 ·rintro Q hQ n hx;refine ⟨(n+1),?_⟩;have e:HV VN [] {Y:=some (l,(HB m N),(Wa9 m N r v)) } [] [] Xa6 (A1 l f er N lo hi m r v b n) (A1 l f er N lo hi m r v b ((n+1))) (qV l f er N lo hi m r v b n)=(let z0:=(GC m N (HB m b+n));(branch (decide ((n:Int)<(↑(m b):Int))) (need [UI n (↑(m b):Int)] (need [l=l,HB m b+n<HB m N,[Value.agg {toList:=[Value.int IntKind.i64 (b:Int),Value.int IntKind.i64 (n:Int)] },Value.agg {toList:=[Value.int IntKind.i64 (r b n),Value.int IntKind.i64 (v b n)] }]=[Value.agg {toList:=[Value.int IntKind.i64 (↑(Prod.fst z0):Int),Value.int IntKind.i64 (↑(Prod.snd z0):Int)] },Value.agg {toList:=[Value.int IntKind.i64 (r (Prod.fst z0) (Prod.snd z0)),Value.int IntKind.i64 (v (Prod.fst z0) (Prod.snd z0))] }]] (VL.may True (need [VK ((n:Int)+1)] (need [XG l,ZZ f er N lo hi m r v,VX (b:Int),WS N lo hi m r v,VX (N:Int),VX (b:Int),VX (JS m b r v),VX (↑(m b):Int),(n:Int)+1=(↑(n+1):Int),HB m b+n+1=HB m b+(n+1)] (leaf G6.normal))) (need [XG l,ZZ f er N lo hi m r v,WS N lo hi m r v,VX (N:Int),VX (b:Int),VX (JS m b r v),VX (↑(m b):Int)] (leaf G6.ret))))) (need [XG l,ZZ f er N lo hi m r v,WS N lo hi m r v,VX (N:Int),VX (b:Int),VX (JS m b r v),VX (↑(m b):Int),(n:Int)=(↑(m b):Int),HB m b+n=HB m (b+1)] (leaf (G6.exit 2))))):=VS;rw [e];simp only [Xs2,qV,VL.sat,GS] at hQ;have hQ1: ∀E,qV l f er N lo hi m r v b n (.exit 2)=some E->Q (.exit 2,E):=λE hE=>by cases hE;exact hQ.1 trivial
  have hQ2: ∀E,qV l f er N lo hi m r v b n .ret=some E->Q (.ret,E):=λE hE=>by cases hE;exact hQ.2
  simp only [VL.sat,UA,UG,H9,VK,F9];clear e hQ;have h3:=UE b HP;refine ⟨λh=>?_,λh=>?_⟩
  ·have hk:n<m b:=VI;have h1:=NM m (show b+1<=N by omega)
   simp only [HB] at h1;rw [Qa0 m N b n HP hk];all_goals exact V5
  ·obtain rfl:n=m b:=VI;all_goals exact V5
theorem Zf0(VR:N<=1000)(UE: ∀b,b<N->m b<=1000){cx:Cx}(hX:VV VN {Y:=some (l,(HB m N),(Wa9 m N r v)) } cx):HH VN none cx (.loop mT) (Wx9 l f er N lo hi m r v):=by
 refine FI [] (L:=[BF 10 (λb=>FO [b<N] (sN l f er N lo hi m r v b))]) (VJ.nil _) hX VY (G0 (λcj hcj=>by
  have e:VQ mT 0=some (.loop Xa6):=VS;rw [e] at hcj;cases hcj;exact aD (λb=>wK (λh=>Zf1 l f er N lo hi m r v b VR UE h hX)))) (V:=Nat) (A0 l f er N lo hi m r v) (λb=>b<=N) (λb=>N-b) (qU l f er N lo hi m r v) (x0:=0) VU ?_ ?_ ?_
 ·rintro b;kernel_rfl
 ·rintro b y E h;unfold qU at h;split at h
  ·cases h;kernel_rfl
  ·cases h;kernel_rfl
  ·cases h
 ·rintro Q hQ b hx;refine ⟨(b+1),?_⟩;have e:HV VN [] {Y:=some (l,(HB m N),(Wa9 m N r v)) } [BF 10 (λb=>FO [b<N] (sN l f er N lo hi m r v b))] [] mT (A0 l f er N lo hi m r v b) (A0 l f er N lo hi m r v ((b+1))) (qU l f er N lo hi m r v b)=(let z0:=ZZ f er N lo hi m r v;(branch (decide ((b:Int)<(N:Int))) (need [UI b N] (need [b<N] (need [XG l,z0,VX (b:Int),WS N lo hi m r v,VX (N:Int),VX (b:Int),VX (lst 2 (m b) λj=>[iI (r b j),iI (v b j)]),VX (↑(m b):Int),(0:Int)=(↑(0:Nat):Int),HB m b=HB m b+0] (VL.may True (need [VK ((b:Int)+1)] (need [XG l,z0,WS N lo hi m r v,VX (N:Int),(b:Int)+1=(↑(b+1):Int),VX (HB m (b+1))] (leaf G6.normal))) (need [XG l,z0,WS N lo hi m r v,VX (N:Int)] (leaf G6.ret)))))) (need [XG l,z0,WS N lo hi m r v,VX (N:Int),(b:Int)=(N:Int),HB m b=HB m N] (leaf (G6.exit 0))))):=VS
  rw [e];simp only [Xs1,qU,VL.sat,GS] at hQ;have hQ1: ∀E,qU l f er N lo hi m r v b (.exit 0)=some E->Q (.exit 0,E):=λE hE=>by cases hE;exact hQ.1 trivial
  have hQ2: ∀E,qU l f er N lo hi m r v b .ret=some E->Q (.ret,E):=λE hE=>by cases hE;exact hQ.2
  simp only [VL.sat,UA,UG,H9,VK,F9];clear e hQ;refine ⟨λh=>?_,λh=>?_⟩
  ·have h3:=UE b VI;all_goals exact V5
  ·obtain rfl:b=N:=VI;all_goals exact V5
end
theorem lG(f:Nat->List AV)(er:Int)(N:Nat)(lo hi:Nat->Int)(m:Nat->Nat)(r v:Nat->Nat->Int)(VR:N<=1000)(UE: ∀b,b<N->m b<=1000):B6 Tryz.prog 162 [.ro [.lst 2 3 f,i er,bds N lo hi m r v]] ((HB m N)) (Wa9 m N r v):=by
 refine BI (L:=λl=>[Wx9 l f er N lo hi m r v]) (VJ.nil _) VY (UF Tryz.func162) Tryz.func162 (US Tryz.f162) VS (λl cx hX=>G0 (lpE (b:= .loop mT) VS<|Zf0 l f er N lo hi m r v VR UE hX)) (t:=λl=>(need [VX (AV.fn (Fn.yield l) [] []),ZZ f er N lo hi m r v,WS N lo hi m r v,VX (N:Int),(0:Int)=(↑(0:Nat):Int),0=HB m 0] (VL.may True (need [VX (HB m N)] (leaf PUnit.unit)) (leaf PUnit.unit)))) (λl=>VS) ?_
 intro l;simp only [VL.sat,UA,UZ,GI,UC,VK,UG,H9,R0];all_goals exact V5
def plF(m:Nat->Nat)(N:Nat)(q:Nat):List AV:=[i (GC m N q).1,i (GC m N q).2]
theorem TD(m:Nat->Nat){K:Nat}: ∀(N:Nat),(∀b,b<N->m b<=K)->HB m N<=N*K
 | 0,_=>by simp [HB]
 |N+1,h=>by
  have:=TD m N (λb hb=>h b VI)
  have:=h N VI;simp only [HB,Nat.succ_mul];omega
abbrev QE:AV:=AV.x (.pointer none)
def Jm3(f:Nat->List AV)(er:Int)(N:Nat)(lo hi:Nat->Int)(m:Nat->Nat)(r v:Nat->Nat->Int):St:={σ:=[agg [WD f,iI er,Q1 N lo hi m r v],ptr 0 0,QE,ptr 6 0]++HG 6 [AV.fn (Fn.func 162) [] [AV.ro [WD f,iI er,Q1 N lo hi m r v]]]++HG 13 [],m:=[(901,GM.row 234 2 0 λx=>[]),(6,GM.cells 186 [ptr 5 0]),(5,GM.cells 229 [WD f,iI er,Q1 N lo hi m r v,AV.row 901,AV.mp 3]),(3,GM.memo (λx=>False) λv=>v),(0,GM.cells 103 [WD f,iI er,Q1 N lo hi m r v])],nx:=902}
def rfF:Option Code->Operand
 |some (.rangeFunc f _ _ _)=>f
 |_=> .const .nilFunc
def jG:Option Code->Array Nat
 |some (.rangeFunc _ ps _ _)=>ps
 |_=>#[]
def SP:Option Code->Code
 |some (.rangeFunc _ _ a _)=>a
 |_=> .skip
def SO:Option Code->Code
 |some (.rangeFunc _ _ _ b)=>b
 |_=> .skip
noncomputable def Jq2:Code:=SP (VQ (U6 Tryz.f92) 0)
noncomputable def Jm9:Code:=SO (VQ (U6 Tryz.f92) 0)
section
variable (f:Nat->List AV)(er:Int)(N:Nat)(lo hi:Nat->Int)(m:Nat->Nat)(r v:Nat->Nat->Int)
def oN(k:Nat):St:={σ:=H3 [] (Jm3 f er N lo hi m r v).σ,m:=[(901,.row 234 2 (k) (plF m N)),(6,.cells 186 [.ptr 5 0]),(5,.cells 229 [.lst 2 3 f,i er,bds N lo hi m r v,.row 901,.mp 3]),(3,.memo (λ_=>False) (λx=>x)),(0,.cells 103 [.lst 2 3 f,i er,bds N lo hi m r v])],nx:=902}
def nT(k:Nat):G6->Option St
 | .normal=>some {σ:=H3 [] (Jm3 f er N lo hi m r v).σ,m:=[(901,.row 234 2 ((HB m N)) (plF m N)),(6,.cells 186 [.ptr 5 0]),(5,.cells 229 [.lst 2 3 f,i er,bds N lo hi m r v,.row 901,.mp 3]),(3,.memo (λ_=>False) (λx=>x)),(0,.cells 103 [.lst 2 3 f,i er,bds N lo hi m r v])],nx:=902}
 |_=>none
def T_wr:CT:= .leaf (.normal,oN f er N lo hi m r v (HB m N))
def Xt3:UH:=GJ [(.cell 5 3,901,234,2)] (HF (oN f er N lo hi m r v (0)) (T_wr f er N lo hi m r v))
abbrev WG:Prop:=AV.row 901=AV.row 901
abbrev ZM:Prop:=ptr 5 0=ptr 5 0
abbrev YO:Prop:=ptr 6 0=ptr 6 0
abbrev YT:Ext:={R:=[(121,M4)],H:=[] }
theorem Zs4(VR:N<=1000)(UE: ∀b,b<N->m b<=1000):HO VN (.rangeFunc (rfF (VQ (U6 Tryz.f92) 0)) (jG (VQ (U6 Tryz.f92) 0)) Jq2 Jm9) (Xt3 f er N lo hi m r v):=by
 refine P9 [(.cell 5 3,901,234,2)] (L:=[]) (VJ.nil _) (VV.of (VP.cons IN (VP.nil _)) (VM.nil _)) VY U2 (V:=Nat) (oN f er N lo hi m r v) (λk=>k<=(HB m N)) (λk=>k) (nT f er N lo hi m r v) (x0:=0) VU rfl ?_ ?_ ?_ ?_ (g:=162) (caps:=[.ro [.lst 2 3 f,i er,bds N lo hi m r v]]) VS VS (lG f er N lo hi m r v VR UE) (λ_=>rfl) ?_
 ·rintro k;kernel_rfl
 ·rintro k y E h;unfold nT at h;split at h
  ·cases h;kernel_rfl
  ·cases h
 ·rintro k;rfl
 ·rintro k y E h;unfold nT at h;split at h
  ·cases h;rfl
  ·cases h
 ·rintro Q hQ k hx;refine ⟨λhlt=>⟨(k+1),rfl,?_⟩,λPJ=>?_⟩
  ·(with_reducible refine DF (t:=need [(k+1)*16<=140737488355328,RS 1 (U4 2 [iI (↑(Prod.fst (GC m N k)):Int),iI (↑(Prod.snd (GC m N k)):Int)])] (need [VX (agg [WD f,iI er,Q1 N lo hi m r v]),QO,QE=QE,YO,VX (AV.fn (Fn.func 162) [] [AV.ro [WD f,iI er,Q1 N lo hi m r v]]),k+1=k+1,GT (k+1) (GG k (plF m N) (U4 2 [iI (↑(Prod.fst (GC m N k)):Int),iI (↑(Prod.snd (GC m N k)):Int)])) (plF m N),ZM,WD f=WD f,er=er,WS N lo hi m r v,WG,VX (AV.mp 3),∀(k:Value),False->False/\k=k,WD f=WD f,er=er,WS N lo hi m r v] (leaf G6.normal))) VS ?_);have hb:=TD m N UE;have hb2:=BC 1000 VR;simp only [VL.sat,UA,UG]
   (with_reducible repeat' first|apply And.intro|intro _)
   all_goals first|exact True.intro|rfl|omega|exact FN (by assumption) (by simp [AV.one,Value.oneCell'])|exact Zm1 rfl rfl (by assumption)|contradiction
  ·subst PJ;exact hQ
end
abbrev Q2(m:Nat->Nat)(N:Nat):AV:=lst 2 (HB m N) λq=>[iI (↑(Prod.fst (GC m N q)):Int),iI (↑(Prod.snd (GC m N q)):Int)]
theorem Wr7(f:Nat->List AV)(er:Int)(N:Nat)(lo hi:Nat->Int)(m:Nat->Nat)(r v:Nat->Nat->Int)(VR:N<=1000)(UE: ∀b,b<N->m b<=1000):FB VN 92 [.agg [.lst 2 3 f,i er,bds N lo hi m r v]] (.ro [.lst 2 3 f,i er,bds N lo hi m r v,.lst 2 (HB m N) (plF m N),.top]):=by
 refine HU (L:=[Xt3 f er N lo hi m r v]) (VJ.nil _) (VV.of (VP.cons IN (VP.nil _)) (VM.nil _)) VY Tryz.func92 (US Tryz.f92) (G0 (lpE (b:= .rangeFunc (rfF (VQ (U6 Tryz.f92) 0)) (jG (VQ (U6 Tryz.f92) 0)) Jq2 Jm9) VS<|Zs4 f er N lo hi m r v VR UE)) (t:=need [VX (agg [WD f,iI er,Q1 N lo hi m r v]),QO,QE=QE,YO,VX (AV.fn (Fn.func 162) [] [AV.ro [WD f,iI er,Q1 N lo hi m r v]]),0=0,GT 0 (λi=>[]) (plF m N),ZM,WD f=WD f,er=er,WS N lo hi m r v,WG,VX (AV.mp 3),∀(k:Value),False->False/\k=k,WD f=WD f,er=er,WS N lo hi m r v] (leaf (AV.ro [WD f,iI er,Q1 N lo hi m r v,Q2 m N,top]))) VS ?_
 simp only [VL.sat,UA,UZ,GI,UC,VK,UG,H9,R0];all_goals exact V5
noncomputable def Qi0:HY:=rO Tryz.prog [(124,kH)] {} [] Tryz.f122 (U6 Tryz.f122)
theorem RK:G9 VN 122 Qi0:=
 RJ (G:=[(124,kH)]) (X:=WE) (L:=[]) (VJ.cons FX (VJ.nil _)) (VV.of (VP.nil _) (VM.nil _)) VY (UF Tryz.func122) Tryz.func122 (US Tryz.f122) U2
def UY(M:Nat->Nat->Int)(k:Nat):Int:=M (k / 13) (k%13)
def LR(k j:Nat):Nat->Nat->Int:=λx y=>if ((x<k/\y<=12)\/(x=k/\y<j))/\x≠y then 8000 else 0
def spn(M:Nat->Nat->Int)(a b:Nat)(lo hi:Int):Nat->Nat->Int:=bnd (bnd M a b hi) b a (-lo)
def ofM:Nat->Nat->Nat->Int
 | 0=>LR 13 0
 |k+1=>spn (ofM k) 0 (1+k) (-oH k) (-oL k)
def btM(lo hi:Nat->Int):Nat->Nat->Nat->Int
 | 0=>ofM 3
 |k+1=>spn (btM lo hi k) 0 (7+k) (lo k) (hi k)
def rdM1(N:Nat)(m:Nat->Nat)(r v:Nat->Nat->Int)(M:Nat->Nat->Int)(q:Nat):Nat->Nat->Int:=
 spn M (1+(r (GC m N q).1 (GC m N q).2).toNat) (7+(GC m N q).1) (v (GC m N q).1 (GC m N q).2-1) (v (GC m N q).1 (GC m N q).2+1)
def rF(N:Nat)(lo hi:Nat->Int)(m:Nat->Nat)(r v:Nat->Nat->Int):Nat->Nat->Nat->Int
 | 0=>btM lo hi N
 |q+1=>rdM1 N m r v (rF N lo hi m r v q) q
def bOK(N:Nat)(lo hi:Nat->Int)(m:Nat->Nat)(r v:Nat->Nat->Int):Prop:=N<=6/\ ∀b,b<N->m b<=10/\0<=lo b/\lo b<=hi b/\hi b<=1000/\ ∀j,j<m b->0<=r b j/\r b j<=2/\ -1000<=v b j/\v b j<=2000
theorem Xh9: ∀k,U7 (List.replicate 169 0) k=UY (LR 0 0) k:=by
 intro k;rw [gM (by decide)]
 simp [UY,LR]
theorem kY(M:Nat->Nat->Int){a b q:Nat}(hq:q=a*13+b)(hb:b<13):UY M q=M a b:=by
 unfold UY;rw [show q / 13=a by omega,show q%13=b by omega]
theorem dO{M M':Nat->Nat->Int}(h: ∀x y,x<13->y<13->M x y=M' x y){k:Nat}(hk:k<169):UY M k=UY M' k:=h _ _ VI VI
theorem Qb9(M:Nat->Nat->Int){a b q:Nat}(hq:q=a*13+b)(hb:b<13)(v:Int):UO q v (UY M)=UY (wU M a b v):=by
 funext k;unfold UO UY wU;by_cases hk:k=q
 ·rw [if_pos hk,if_pos VI]
 ·rw [if_neg hk,if_neg VI]
theorem zL{M:Nat->Nat->Int}{a b q:Nat}{v:Int}(hq:q=a*13+b)(hb:b<13):UO q (min (UY M q) v) (UY M)=UY (bnd M a b v):=by
 rw [kY M hq hb,Qb9 M hq hb];rfl
theorem Qm9(k j:Nat)(hj:j<=12)(h:k≠j)(x y:Nat):wU (LR k j) k j 8000 x y=LR k (j+1) x y:=by
 unfold wU LR;split
 ·rename_i hxy;rw [if_pos ⟨.inr VI,VI⟩]
 ·rename_i hxy;by_cases h1:((x<k/\y<=12)\/(x=k/\y<j))/\x≠y
  ·rw [if_pos h1,if_pos VI]
  ·rw [if_neg h1,if_neg VI]
theorem Qn0(k:Nat)(x y:Nat):LR k k x y=LR k (k+1) x y:=by
 unfold LR;by_cases h1:((x<k/\y<=12)\/(x=k/\y<k))/\x≠y
 ·rw [if_pos h1,if_pos VI]
 ·rw [if_neg h1,if_neg VI]
theorem Wj9(k:Nat)(x y:Nat):LR k 13 x y=LR (k+1) 0 x y:=by
 unfold LR;by_cases h1:((x<k/\y<=12)\/(x=k/\y<13))/\x≠y
 ·rw [if_pos h1,if_pos VI]
 ·rw [if_neg h1,if_neg VI]
abbrev QD:List AV:=[AV.x (.int IntKind.u64 (0:Int))]
abbrev QL:List Int:=([(0:Int)]++bC 168)
abbrev KX:GM:=GM.cells 191 QD
section
variable (N:Nat)(lo hi:Nat->Int)(m:Nat->Nat)(r v:Nat->Nat->Int)
def Zq7:St:={σ:=[AV.ro [lst 2 3 λk=>[iI (oL k),iI (oH k)],iI 1,Q1 N lo hi m r v,Q2 m N,top],agg QD,top,ptr 0 0,QE,AV.lit false,ptr 4 0]++HG 184 [],m:=[(4,GM.ints 237 [] 169 λa=>U7 QL a),(0,KX)],nx:=7}
noncomputable def Zr9:Code:=U8 (VQ (U6 Tryz.f93) 0)
def Wi9(k:Nat):St:=(upE [(22,i k)] [(4,.ints 237 [] 169 (UY (LR k 0))),(0,.cells 191 [.x (.int .u64 0)])] (Zq7 N lo hi m r v))
def CY(k:Nat):G6->Option St
 | .exit 0=>some (upE [(22,i 13)] [(4,.ints 237 [] 169 (UY (LR 13 0))),(0,.cells 191 [.x (.int .u64 0)])] (Zq7 N lo hi m r v))
 |_=>none
def Jl4:CT:= .leaf (.exit 0,(CY N lo hi m r v 0 (.exit 0)).getD (Zq7 N lo hi m r v))
def Xw9:UH:=GJ [] (HF (Wi9 N lo hi m r v (0)) (Jl4 N lo hi m r v))
def Zq6(k:Nat):St:={σ:=[AV.ro [lst 2 3 λk=>[iI (oL k),iI (oH k)],iI 1,Q1 N lo hi m r v,Q2 m N,top],agg QD,top,ptr 0 0,QE,AV.lit false,ptr 4 0,iI (k:Int)]++HG 14 [iI (k:Int)]++HG 168 [],m:=[(4,GM.ints 237 [] 169 λk_1=>UY (LR k 0) k_1),(0,KX)],nx:=11}
noncomputable def Jp5:Code:=(U8 (VQ (U8 (VQ (U6 Tryz.f93) 0)) 0))
def Wi8(k:Nat)(j:Nat):St:=(upE [(25,i j)] [(4,.ints 237 [] 169 (UY (LR k j))),(0,.cells 191 [.x (.int .u64 0)])] (Zq6 N lo hi m r v k))
def CX(k:Nat)(j:Nat):G6->Option St
 | .exit 2=>some (upE [(25,i 13)] [(4,.ints 237 [] 169 (UY (LR k 13))),(0,.cells 191 [.x (.int .u64 0)])] (Zq6 N lo hi m r v k))
 |_=>none
def Jl3(k:Nat):CT:= .leaf (.exit 2,(CX N lo hi m r v k 0 (.exit 2)).getD (Zq6 N lo hi m r v k))
def Xw8(k:Nat):UH:=GJ [] (HF (Wi8 N lo hi m r v k (0)) (Jl3 N lo hi m r v k))
abbrev QT:Prop:=(0:Int)=0
abbrev W5:Prop:=ptr 4 0=ptr 4 0
abbrev WJ:List (Nat×UV):=[(70,aQ),(123,aT),(124,kH)]
abbrev WK:Prop:=AV.lit false=AV.lit false
noncomputable abbrev X1:Ext:={R:=[],H:=[(122,Qi0)] }
theorem Jf8(k:Nat)(VR:k<=12):G7 VN (.loop Jp5) (Xw8 N lo hi m r v k):=by
 refine UX [] (L:=[]) (VJ.cons RG (VJ.cons LS (VJ.cons FX (VJ.nil _)))) (VV.of (VP.nil _) (VM.cons RK (VM.nil _))) VY U2 (X:=Nat) (Wi8 N lo hi m r v k) (λj=>j<=13) (λj=>13-j) (CX N lo hi m r v k) (x0:=0) VU ?_ ?_ ?_
 ·rintro j;kernel_rfl
 ·rintro j y E h;unfold CX at h;split at h
  ·cases h;kernel_rfl
  ·cases h
 ·rintro Q hQ j hx;refine ⟨(j+1),?_⟩;(with_reducible refine DF (t:=let z0:=(VX (AV.ro [lst 2 3 λk=>[iI (oL k),iI (oH k)],iI 1,Q1 N lo hi m r v,Q2 m N,top]));(branch (decide ((j:Int)<13)) (branch ((k:Int) != (j:Int)) (need [UI k 13] (need [UI j 13] (need [j*1+(k*13+0)+1<=169] (need [VK ((j:Int)+1)] (need [z0,VX (agg QD),QO,QE=QE,WK,W5,VX (k:Int),VX (k:Int),(j:Int)+1=(↑(j+1):Int),169=169,GT 169 (UO (j*1+(k*13+0)) (8000:Int) (UY (LR k j))) (UY (LR k (j+1))),QT] (leaf G6.normal)))))) (need [VK ((j:Int)+1)] (need [z0,VX (agg QD),QO,QE=QE,WK,W5,VX (k:Int),VX (k:Int),(j:Int)+1=(↑(j+1):Int),169=169,GT 169 (UY (LR k j)) (UY (LR k (j+1))),QT] (leaf G6.normal)))) (need [z0,VX (agg QD),QO,QE=QE,WK,W5,VX (k:Int),VX (k:Int),(j:Int)=13,169=169,GT 169 (UY (LR k j)) (UY (LR k 13)),QT] (leaf (G6.exit 2))))) VS ?_)
  simp only [Jl3,CX,VL.sat,GS] at hQ;simp only [VL.sat,UA,UZ,GI,UC,VK,UG,H9,R0,RF,L1,GL,CX]
  refine ⟨λh=>⟨λhne=>?_,λheq=>?_⟩,λh=>?_⟩
  ·have h3: ∀M w,UO (j*1+(k*13+0)) w (UY M)=UY (wU M k j w):=λM w=>Qb9 M VI VI w
   simp only [h3]
   (with_reducible repeat' first|apply And.intro|intro _)
   all_goals first|exact P7|(exact dO (λx y _ _=>Qm9 k j VI VI x y) (by assumption))
  ·obtain rfl:k=j:=VI
   (with_reducible repeat' first|apply And.intro|intro _)
   all_goals first|exact P7|(exact dO (λx y _ _=>Qn0 k x y) (by assumption))
  ·obtain rfl:j=13:=VI;exact YY
theorem Jf9:G7 VN (.loop Zr9) (Xw9 N lo hi m r v):=by
 refine UX [] (L:=[BF 22 (λk=>FO [k<=12] (Xw8 N lo hi m r v k))]) (VJ.cons RG (VJ.cons LS (VJ.cons FX (VJ.nil _)))) (VV.of (VP.nil _) (VM.cons RK (VM.nil _))) VY (G0 (λcj hcj=>by
  have e:VQ Zr9 0=some (.loop Jp5):=VS;rw [e] at hcj;cases hcj;exact P2 (λk=>D0 (λh=>Jf8 N lo hi m r v k h)))) (X:=Nat) (Wi9 N lo hi m r v) (λk=>k<=13) (λk=>13-k) (CY N lo hi m r v) (x0:=0) VU ?_ ?_ ?_
 ·rintro k;kernel_rfl
 ·rintro k y E h;unfold CY at h;split at h
  ·cases h;kernel_rfl
  ·cases h
 ·rintro Q hQ k hx;refine ⟨(k+1),?_⟩;(with_reducible refine DF (t:=let z0:=(VX (AV.ro [lst 2 3 λk=>[iI (oL k),iI (oH k)],iI 1,Q1 N lo hi m r v,Q2 m N,top]));(branch (decide ((k:Int)<13)) (need [k<=12] (need [z0,VX (agg QD),QO,QE=QE,WK,W5,VX (k:Int),VX (k:Int),(0:Int)=(↑(0:Nat):Int),169=169,GN 169 (UY (LR k 0)),QT] (need [VK ((k:Int)+1)] (need [z0,VX (agg QD),QO,QE=QE,WK,W5,(k:Int)+1=(↑(k+1):Int),169=169,GT 169 (UY (LR k 13)) (UY (LR (k+1) 0)),QT] (leaf G6.normal))))) (need [z0,VX (agg QD),QO,QE=QE,WK,W5,(k:Int)=13,169=169,GT 169 (UY (LR k 0)) (UY (LR 13 0)),QT] (leaf (G6.exit 0))))) VS ?_)
  simp only [Jl4,CY,VL.sat,GS] at hQ;simp only [VL.sat,UA,UZ,GI,UC,VK,UG,H9,R0,RF,L1,GL,CY]
  refine ⟨λh=>?_,λh=>?_⟩
  ·(with_reducible repeat' first|apply And.intro|intro _)
   all_goals first|exact P7|(exact dO (λx y _ _=>Wj9 k x y) (by assumption))
  ·obtain rfl:k=13:=VI;exact YY
def Zq5:St:={σ:=[AV.ro [lst 2 3 λk=>[iI (oL k),iI (oH k)],iI 1,Q1 N lo hi m r v,Q2 m N,top],agg QD,top,ptr 0 0,QE,AV.lit false,ptr 4 0]++HG 15 [iI 13]++HG 20 [lst 2 3 λk=>[iI (oL k),iI (oH k)],iI (↑(3:Nat):Int)]++HG 146 [],m:=[(4,GM.ints 237 [] 169 λk=>UY (LR 13 0) k),(0,KX)],nx:=14}
noncomputable def Jp4:Code:=U8 (VQ (U6 Tryz.f93) 1)
def Wi7(k:Nat):St:=(upE [(45,i k)] [(4,.ints 237 [] 169 (UY (ofM k))),(0,.cells 191 [.x (.int .u64 0)])] (Zq5 N lo hi m r v))
def CW(k:Nat):G6->Option St
 | .exit 4=>some (upE [(45,i 3)] [(4,.ints 237 [] 169 (UY (ofM 3))),(0,.cells 191 [.x (.int .u64 0)])] (Zq5 N lo hi m r v))
 |_=>none
def Jl2:CT:= .leaf (.exit 4,(CW N lo hi m r v 0 (.exit 4)).getD (Zq5 N lo hi m r v))
def Xw7:UH:=GJ [] (HF (Wi7 N lo hi m r v (0)) (Jl2 N lo hi m r v))
abbrev XA:Prop:=(13:Int)=13
theorem Jf7:G7 VN (.loop Jp4) (Xw7 N lo hi m r v):=by
 refine UX [] (L:=[]) (VJ.cons RG (VJ.cons LS (VJ.cons FX (VJ.nil _)))) (VV.of (VP.nil _) (VM.cons RK (VM.nil _))) VY U2 (X:=Nat) (Wi7 N lo hi m r v) (λk=>k<=3) (λk=>3-k) (CW N lo hi m r v) (x0:=0) VU ?_ ?_ ?_
 ·rintro k;kernel_rfl
 ·rintro k y E h;unfold CW at h;split at h
  ·cases h;kernel_rfl
  ·cases h
 ·rintro Q hQ k hx;refine ⟨(k+1),?_⟩;(with_reducible refine DF (t:=let z1:=(UY (ofM k) (((1:Int)+(k:Int)).toNat*1+0));let z0:=(UO (((1:Int)+(k:Int)).toNat*1+0) (min z1 (-oL k)) (UY (ofM k)) (0+(((1:Int)+(k:Int)).toNat*13+0)));let z2:=(VX (AV.ro [lst 2 3 λk=>[iI (oL k),iI (oH k)],iI 1,Q1 N lo hi m r v,Q2 m N,top]));(branch (decide ((k:Int)<(↑(3:Nat):Int))) (need [UI k 3] (need [(0:Int)<=(k:Int)/\(k:Int)<=1000] (need [VK (-oH k)] (need [VK (-oL k)] (need [UI 0 13] (need [(0:Int)<=1+(k:Int)/\(1:Int)+(k:Int)<(↑(13:Nat):Int)] (need [((1:Int)+(k:Int)).toNat*1+0<169] (need [UI 0 13] (need [(0:Int)<=1+(k:Int)/\(1:Int)+(k:Int)<(↑(13:Nat):Int)] (need [((1:Int)+(k:Int)).toNat*1+0+List.length [min z1 (-oL k)]<=169] (need [(0:Int)<=1+(k:Int)/\(1:Int)+(k:Int)<(↑(13:Nat):Int)] (need [UI 0 13] (need [0+(((1:Int)+(k:Int)).toNat*13+0)<169] (need [VK (- -oH k)] (need [(0:Int)<=1+(k:Int)/\(1:Int)+(k:Int)<(↑(13:Nat):Int)] (need [UI 0 13] (need [0+(((1:Int)+(k:Int)).toNat*13+0)+List.length [min z0 (- -oH k)]<=169] (need [VK ((k:Int)+1)] (need [z2,VX (agg QD),QO,QE=QE,WK,W5,XA,VX (lst 2 3 λk=>[iI (oL k),iI (oH k)]),VX (↑(3:Nat):Int),(k:Int)+1=(↑(k+1):Int),169=169,GT 169 (UO (0+(((1:Int)+(k:Int)).toNat*13+0)) (min z0 (- -oH k)) (j5 (((1:Int)+(k:Int)).toNat*1+0) [min z1 (-oL k)] (UY (ofM k)))) (UY (ofM (k+1))),QT] (leaf G6.normal)))))))))))))))))))) (need [z2,VX (agg QD),QO,QE=QE,WK,W5,XA,VX (lst 2 3 λk=>[iI (oL k),iI (oH k)]),VX (↑(3:Nat):Int),(k:Int)=3,169=169,GT 169 (UY (ofM k)) (UY (ofM 3)),QT] (leaf (G6.exit 4))))) VS ?_)
  simp only [Jl2,CW,VL.sat,GS] at hQ;simp only [VL.sat,UA,UZ,GI,UC,VK,UG,H9,R0,RF,L1,GL,CW]
  have hL: -9<=oL k/\oL k<=0:=by unfold oL;split<;>omega
  have hH:0<=oH k/\oH k<=9:=by unfold oH;split<;>omega
  refine ⟨λh=>?_,λh=>?_⟩
  ·have h1: ∀M w,UO ((1+(k:Int)).toNat*1+0) (min (UY M ((1+(k:Int)).toNat*1+0)) w) (UY M)=UY (bnd M 0 (1+k) w):=λM w=>zL VI VI
   have h2: ∀M w,UO (0+((1+(k:Int)).toNat*13+0)) (min (UY M (0+((1+(k:Int)).toNat*13+0))) w) (UY M)=UY (bnd M (1+k) 0 w):=λM w=>zL VI VI
   simp only [h1,h2];exact YY
  ·obtain rfl:k=3:=VI;exact YY
def Zq4:St:={σ:=[AV.ro [lst 2 3 λk=>[iI (oL k),iI (oH k)],iI 1,Q1 N lo hi m r v,Q2 m N,top],agg QD,top,ptr 0 0,QE,AV.lit false,ptr 4 0]++HG 15 [iI 13]++HG 20 [lst 2 3 λk=>[iI (oL k),iI (oH k)],iI (↑(3:Nat):Int),iI 3]++HG 20 [Q1 N lo hi m r v,iI (N:Int)]++HG 123 [],m:=[(4,GM.ints 237 [] 169 λk=>UY (ofM 3) k),(0,KX)],nx:=21}
noncomputable def Jp3:Code:=U8 (VQ (U6 Tryz.f93) 2)
def Wi6(k:Nat):St:=(upE [(68,i k)] [(4,.ints 237 [] 169 (UY (btM lo hi k))),(0,.cells 191 [.x (.int .u64 0)])] (Zq4 N lo hi m r v))
def CV(k:Nat):G6->Option St
 | .exit 6=>some (upE [(68,i N)] [(4,.ints 237 [] 169 (UY (btM lo hi N))),(0,.cells 191 [.x (.int .u64 0)])] (Zq4 N lo hi m r v))
 |_=>none
def Jl1:CT:= .leaf (.exit 6,(CV N lo hi m r v 0 (.exit 6)).getD (Zq4 N lo hi m r v))
def Xw6:UH:=GJ [] (HF (Wi6 N lo hi m r v (0)) (Jl1 N lo hi m r v))
abbrev XE:Prop:=(3:Int)=3
theorem Jf6(VR:bOK N lo hi m r v):G7 VN (.loop Jp3) (Xw6 N lo hi m r v):=by
 refine UX [] (L:=[]) (VJ.cons RG (VJ.cons LS (VJ.cons FX (VJ.nil _)))) (VV.of (VP.nil _) (VM.cons RK (VM.nil _))) VY U2 (X:=Nat) (Wi6 N lo hi m r v) (λk=>k<=N) (λk=>N-k) (CV N lo hi m r v) (x0:=0) VU ?_ ?_ ?_
 ·rintro k;kernel_rfl
 ·rintro k y E h;unfold CV at h;split at h
  ·cases h;kernel_rfl
  ·cases h
 ·rintro Q hQ k hx;refine ⟨(k+1),?_⟩;(with_reducible refine DF (t:=let z1:=(UY (btM lo hi k) (((7:Int)+(k:Int)).toNat*1+0));let z0:=(UO (((7:Int)+(k:Int)).toNat*1+0) (min z1 (hi k)) (UY (btM lo hi k)) (0+(((7:Int)+(k:Int)).toNat*13+0)));let z2:=(VX (AV.ro [lst 2 3 λk=>[iI (oL k),iI (oH k)],iI 1,Q1 N lo hi m r v,Q2 m N,top]));(branch (decide ((k:Int)<(N:Int))) (need [UI k N] (need [(0:Int)<=(k:Int)/\(k:Int)<=1000] (need [UI 0 13] (need [(0:Int)<=7+(k:Int)/\(7:Int)+(k:Int)<(↑(13:Nat):Int)] (need [((7:Int)+(k:Int)).toNat*1+0<169] (need [UI 0 13] (need [(0:Int)<=7+(k:Int)/\(7:Int)+(k:Int)<(↑(13:Nat):Int)] (need [((7:Int)+(k:Int)).toNat*1+0+List.length [min z1 (hi k)]<=169] (need [(0:Int)<=7+(k:Int)/\(7:Int)+(k:Int)<(↑(13:Nat):Int)] (need [UI 0 13] (need [0+(((7:Int)+(k:Int)).toNat*13+0)<169] (need [VK (-lo k)] (need [(0:Int)<=7+(k:Int)/\(7:Int)+(k:Int)<(↑(13:Nat):Int)] (need [UI 0 13] (need [0+(((7:Int)+(k:Int)).toNat*13+0)+List.length [min z0 (-lo k)]<=169] (need [VK ((k:Int)+1)] (need [z2,VX (agg QD),QO,QE=QE,WK,W5,XA,VX (lst 2 3 λk=>[iI (oL k),iI (oH k)]),VX (↑(3:Nat):Int),XE,WS N lo hi m r v,VX (N:Int),(k:Int)+1=(↑(k+1):Int),169=169,GT 169 (UO (0+(((7:Int)+(k:Int)).toNat*13+0)) (min z0 (-lo k)) (j5 (((7:Int)+(k:Int)).toNat*1+0) [min z1 (hi k)] (UY (btM lo hi k)))) (UY (btM lo hi (k+1))),QT] (leaf G6.normal)))))))))))))))))) (need [z2,VX (agg QD),QO,QE=QE,WK,W5,XA,VX (lst 2 3 λk=>[iI (oL k),iI (oH k)]),VX (↑(3:Nat):Int),XE,WS N lo hi m r v,VX (N:Int),(k:Int)=(N:Int),169=169,GT 169 (UY (btM lo hi k)) (UY (btM lo hi N)),QT] (leaf (G6.exit 6))))) VS ?_)
  simp only [Jl1,CV,VL.sat,GS] at hQ;simp only [VL.sat,UA,UZ,GI,UC,VK,UG,H9,R0,RF,L1,GL,CV]
  have h6:=VR.1;refine ⟨λh=>?_,λh=>?_⟩
  ·obtain ⟨_,q1,q2,q3,_⟩:=VR.2 k VI;have h1: ∀M w,UO ((7+(k:Int)).toNat*1+0) (min (UY M ((7+(k:Int)).toNat*1+0)) w) (UY M)=UY (bnd M 0 (7+k) w):=λM w=>zL VI VI
   have h2: ∀M w,UO (0+((7+(k:Int)).toNat*13+0)) (min (UY M (0+((7+(k:Int)).toNat*13+0))) w) (UY M)=UY (bnd M (7+k) 0 w):=λM w=>zL VI VI
   simp only [h1,h2];exact YY
  ·obtain rfl:k=N:=VI;exact YY
def Zq3:St:={σ:=[AV.ro [lst 2 3 λk=>[iI (oL k),iI (oH k)],iI 1,Q1 N lo hi m r v,Q2 m N,top],agg QD,top,ptr 0 0,QE,AV.lit false,ptr 4 0]++HG 15 [iI 13]++HG 20 [lst 2 3 λk=>[iI (oL k),iI (oH k)],iI (↑(3:Nat):Int),iI 3]++HG 20 [Q1 N lo hi m r v,iI (N:Int),iI (N:Int)]++HG 14 [Q2 m N,iI (↑(HB m N):Int)]++HG 106 [],m:=[(4,GM.ints 237 [] 169 λk=>UY (btM lo hi N) k),(0,KX)],nx:=27}
noncomputable def Jp2:Code:=U8 (VQ (U6 Tryz.f93) 3)
def Wi5(k:Nat):St:=(upE [(85,i k)] [(4,.ints 237 [] 169 (UY (rF N lo hi m r v k))),(0,.cells 191 [.x (.int .u64 0)])] (Zq3 N lo hi m r v))
def CU(k:Nat):G6->Option St
 | .exit 8=>some (upE [(85,i (HB m N))] [(4,.ints 237 [] 169 (UY (rF N lo hi m r v (HB m N)))),(0,.cells 191 [.x (.int .u64 0)])] (Zq3 N lo hi m r v))
 |_=>none
def Jl0:CT:= .leaf (.exit 8,(CU N lo hi m r v 0 (.exit 8)).getD (Zq3 N lo hi m r v))
def Xw5:UH:=GJ [] (HF (Wi5 N lo hi m r v (0)) (Jl0 N lo hi m r v))
theorem Jf5(VR:bOK N lo hi m r v):G7 VN (.loop Jp2) (Xw5 N lo hi m r v):=by
 refine UX [] (L:=[]) (VJ.cons RG (VJ.cons LS (VJ.cons FX (VJ.nil _)))) (VV.of (VP.nil _) (VM.cons RK (VM.nil _))) VY U2 (X:=Nat) (Wi5 N lo hi m r v) (λk=>k<=HB m N) (λk=>HB m N-k) (CU N lo hi m r v) (x0:=0) VU ?_ ?_ ?_
 ·rintro k;kernel_rfl
 ·rintro k y E h;unfold CU at h;split at h
  ·cases h;kernel_rfl
  ·cases h
 ·rintro Q hQ k hx;refine ⟨(k+1),?_⟩
  (with_reducible refine DF (t:=let z4:=rF N lo hi m r v k;let z1:=(UY (z4) (((7:Int)+(↑(Prod.fst (GC m N k)):Int)).toNat*1+(((1:Int)+r (Prod.fst (GC m N k)) (Prod.snd (GC m N k))).toNat*13+0)));let z0:=(UO (((7:Int)+(↑(Prod.fst (GC m N k)):Int)).toNat*1+(((1:Int)+r (Prod.fst (GC m N k)) (Prod.snd (GC m N k))).toNat*13+0)) (min z1 (v (Prod.fst (GC m N k)) (Prod.snd (GC m N k))+1)) (UY (z4)) (((1:Int)+r (Prod.fst (GC m N k)) (Prod.snd (GC m N k))).toNat*1+(((7:Int)+(↑(Prod.fst (GC m N k)):Int)).toNat*13+0)));let z2:=(VX (AV.ro [lst 2 3 λk=>[iI (oL k),iI (oH k)],iI 1,Q1 N lo hi m r v,Q2 m N,top]));let z3:=(VX (lst 2 3 λk=>[iI (oL k),iI (oH k)]));(branch (decide ((k:Int)<(↑(HB m N):Int))) (need [UI k (↑(HB m N):Int)] (need [(0:Int)<=(k:Int)/\(k:Int)<=64] (branch (IntKind.wrap IntKind.u64 (↑(BitVec.toNat (BitVec.ofInt (IntKind.bits IntKind.u64) ((0:Int) / (2:Int)^k) &&& BitVec.ofInt (IntKind.bits IntKind.u64) (1:Int))):Int)==0) (need [UI (↑(Prod.fst (GC m N k)):Int) N] (need [UI (↑(Prod.snd (GC m N k)):Int) ((↑(m (Prod.fst (GC m N k))):Int))] (need [(0:Int)<=r (Prod.fst (GC m N k)) (Prod.snd (GC m N k))/\r (Prod.fst (GC m N k)) (Prod.snd (GC m N k))<=1000] (need [(0:Int)<=(↑(Prod.fst (GC m N k)):Int)/\(↑(Prod.fst (GC m N k)):Int)<=1000] (need [VK (v (Prod.fst (GC m N k)) (Prod.snd (GC m N k))-1)] (need [VK (v (Prod.fst (GC m N k)) (Prod.snd (GC m N k))+1)] (need [(0:Int)<=1+r (Prod.fst (GC m N k)) (Prod.snd (GC m N k))/\(1:Int)+r (Prod.fst (GC m N k)) (Prod.snd (GC m N k))<(↑(13:Nat):Int)] (need [(0:Int)<=7+(↑(Prod.fst (GC m N k)):Int)/\(7:Int)+(↑(Prod.fst (GC m N k)):Int)<(↑(13:Nat):Int)] (need [((7:Int)+(↑(Prod.fst (GC m N k)):Int)).toNat*1+(((1:Int)+r (Prod.fst (GC m N k)) (Prod.snd (GC m N k))).toNat*13+0)<169] (need [(0:Int)<=1+r (Prod.fst (GC m N k)) (Prod.snd (GC m N k))/\(1:Int)+r (Prod.fst (GC m N k)) (Prod.snd (GC m N k))<(↑(13:Nat):Int)] (need [(0:Int)<=7+(↑(Prod.fst (GC m N k)):Int)/\(7:Int)+(↑(Prod.fst (GC m N k)):Int)<(↑(13:Nat):Int)] (need [((7:Int)+(↑(Prod.fst (GC m N k)):Int)).toNat*1+(((1:Int)+r (Prod.fst (GC m N k)) (Prod.snd (GC m N k))).toNat*13+0)+List.length [min z1 (v (Prod.fst (GC m N k)) (Prod.snd (GC m N k))+1)]<=169] (need [(0:Int)<=7+(↑(Prod.fst (GC m N k)):Int)/\(7:Int)+(↑(Prod.fst (GC m N k)):Int)<(↑(13:Nat):Int)] (need [(0:Int)<=1+r (Prod.fst (GC m N k)) (Prod.snd (GC m N k))/\(1:Int)+r (Prod.fst (GC m N k)) (Prod.snd (GC m N k))<(↑(13:Nat):Int)] (need [((1:Int)+r (Prod.fst (GC m N k)) (Prod.snd (GC m N k))).toNat*1+(((7:Int)+(↑(Prod.fst (GC m N k)):Int)).toNat*13+0)<169] (need [VK (-(v (Prod.fst (GC m N k)) (Prod.snd (GC m N k))-1))] (need [(0:Int)<=7+(↑(Prod.fst (GC m N k)):Int)/\(7:Int)+(↑(Prod.fst (GC m N k)):Int)<(↑(13:Nat):Int)] (need [(0:Int)<=1+r (Prod.fst (GC m N k)) (Prod.snd (GC m N k))/\(1:Int)+r (Prod.fst (GC m N k)) (Prod.snd (GC m N k))<(↑(13:Nat):Int)] (need [((1:Int)+r (Prod.fst (GC m N k)) (Prod.snd (GC m N k))).toNat*1+(((7:Int)+(↑(Prod.fst (GC m N k)):Int)).toNat*13+0)+List.length [min z0 (-(v (Prod.fst (GC m N k)) (Prod.snd (GC m N k))-1))]<=169] (need [VK ((k:Int)+1)] (need [z2,VX (agg QD),QO,QE=QE,WK,W5,XA,z3,VX (↑(3:Nat):Int),XE,WS N lo hi m r v,VX (N:Int),VX (N:Int),VX (Q2 m N),VX (↑(HB m N):Int),(k:Int)+1=(↑(k+1):Int),169=169,GT 169 (UO (((1:Int)+r (Prod.fst (GC m N k)) (Prod.snd (GC m N k))).toNat*1+(((7:Int)+(↑(Prod.fst (GC m N k)):Int)).toNat*13+0)) (min z0 (-(v (Prod.fst (GC m N k)) (Prod.snd (GC m N k))-1))) (j5 (((7:Int)+(↑(Prod.fst (GC m N k)):Int)).toNat*1+(((1:Int)+r (Prod.fst (GC m N k)) (Prod.snd (GC m N k))).toNat*13+0)) [min z1 (v (Prod.fst (GC m N k)) (Prod.snd (GC m N k))+1)] (UY (z4)))) (UY (rF N lo hi m r v (k+1))),QT] (leaf G6.normal)))))))))))))))))))))) (need [VK ((k:Int)+1)] (need [z2,VX (agg QD),QO,QE=QE,WK,W5,XA,z3,VX (↑(3:Nat):Int),XE,WS N lo hi m r v,VX (N:Int),VX (N:Int),VX (Q2 m N),VX (↑(HB m N):Int),(k:Int)+1=(↑(k+1):Int),169=169,GT 169 (UY (z4)) (UY (rF N lo hi m r v (k+1))),QT] (leaf G6.normal)))))) (need [z2,VX (agg QD),QO,QE=QE,WK,W5,XA,z3,VX (↑(3:Nat):Int),XE,WS N lo hi m r v,VX (N:Int),VX (N:Int),VX (Q2 m N),VX (↑(HB m N):Int),(k:Int)=(↑(HB m N):Int),169=169,GT 169 (UY (z4)) (UY (rF N lo hi m r v (HB m N))),QT] (leaf (G6.exit 8))))) VS ?_)
  simp only [Jl0,CU,VL.sat,GS] at hQ;simp only [VL.sat,UA,UZ,GI,UC,VK,UG,H9,R0,RF,L1,GL,CU]
  have h6:=VR.1;have hb:=TD m (K:=10) N (λb hb=>(VR.2 b hb).1)
  have hz:(IntKind.u64.wrap ((BitVec.ofInt IntKind.u64.bits (0 / 2^k) &&& BitVec.ofInt IntKind.u64.bits 1).toNat:Int)==0)=true:=by
   rw [Int.zero_ediv];decide
  simp only [hz,true_imp_iff,Bool.true_eq_false,false_imp_iff,and_true];refine ⟨λh=>?_,λh=>?_⟩
  ·obtain ⟨hl1,hl2⟩:=TL m N k VI;obtain ⟨_,_,_,_,q4⟩:=VR.2 _ hl1;obtain ⟨q5,q6,q7,q8⟩:=q4 _ hl2;have e1:((1+r (GC m N k).1 (GC m N k).2).toNat)=1+(r (GC m N k).1 (GC m N k).2).toNat:=VI;have e2:((7+((GC m N k).1:Int)).toNat)=7+(GC m N k).1:=VI;rw [e1,e2];have h1: ∀M w,UO ((7+(GC m N k).1)*1+((1+(r (GC m N k).1 (GC m N k).2).toNat)*13+0)) (min (UY M ((7+(GC m N k).1)*1+((1+(r (GC m N k).1 (GC m N k).2).toNat)*13+0))) w) (UY M)=UY (bnd M (1+(r (GC m N k).1 (GC m N k).2).toNat) (7+(GC m N k).1) w):=λM w=>zL VI VI
   have h2: ∀M w,UO ((1+(r (GC m N k).1 (GC m N k).2).toNat)*1+((7+(GC m N k).1)*13+0)) (min (UY M ((1+(r (GC m N k).1 (GC m N k).2).toNat)*1+((7+(GC m N k).1)*13+0))) w) (UY M)=UY (bnd M (7+(GC m N k).1) (1+(r (GC m N k).1 (GC m N k).2).toNat) w):=λM w=>zL VI VI
   simp only [h1,h2];exact YY
  ·obtain rfl:k=HB m N:=VI;exact YY
end
def LB8(B:Int)(M:Nat->Nat->Int):Prop:= ∀x y,-B<=M x y/\M x y<=8000
def JB8(B:Int)(o f t:Nat)(M:Nat->Nat->Int):Prop:= ∀x y,M x y<=8000/\ -(6*B)<=M x y/\(x=o-> -(3*B)<=M x y)/\(y=o-> -(3*B)<=M x y)/\(x=o->y=o-> -(2*B)<=M x y)/\(¬(x<f\/(x=f/\y<t))-> -B<=M x y)
theorem Qs4{B:Int}{o:Nat}{M:Nat->Nat->Int}(hB:0<=B)(h:LB8 B M):JB8 B o 0 0 M:=by
 intro x y;have:=h x y;refine ⟨VI,VI,λ_=>VI,λ_=>VI,λ_ _=>VI,λ_=>VI⟩
theorem Wy2{B:Int}{o f t:Nat}{M:Nat->Nat->Int}(hB:0<=B)(h:JB8 B o f t M):JB8 B o f (t+1) (fwS M o f t):=by
 have hft:=h f t;have hfo:=h f o;have hot:=h o t;have hoo:=h o o;have hn:=hft.2.2.2.2.2 VI;intro x y;have hxy:=h x y;unfold fwS bnd wU;by_cases hc:x=f/\y=t
 ·exact V1
 ·rw [if_neg hc];exact ⟨hxy.1,hxy.2.1,hxy.2.2.1,hxy.2.2.2.1,hxy.2.2.2.2.1,λhv=>hxy.2.2.2.2.2 VI⟩
theorem Wy3{B:Int}{o f:Nat}{M:Nat->Nat->Int}(hB:0<=B)(h:JB8 B o f 0 M): ∀t,JB8 B o f t (fwT M o f t)
 | 0=>h
 |t+1=>Wy2 hB (Wy3 hB h t)
theorem Xm3{B:Int}{o f t:Nat}{M:Nat->Nat->Int}(h:JB8 B o f t M):JB8 B o (f+1) 0 M:=by
 intro x y;have hxy:=h x y;exact ⟨hxy.1,hxy.2.1,hxy.2.2.1,hxy.2.2.2.1,hxy.2.2.2.2.1,λhv=>hxy.2.2.2.2.2 VI⟩
theorem Wy4{B:Int}{c o:Nat}{M:Nat->Nat->Int}(hB:0<=B)(h:LB8 B M): ∀f,JB8 B o f 0 (fwF c M o f)
 | 0=>Qs4 hB h
 |f+1=>Xm3 (Wy3 hB (Wy4 hB h f) (c+1))
theorem Wy0{c:Nat}{M:Nat->Nat->Int}(h:LB8 8001 M): ∀o,LB8 (8001*6^o) (fwO c M o)
 | 0=>by
  rw [show (8001:Int)*6^0=8001 by decide]
  exact h
 |o+1=>by
  have ih:=Wy0 (c:=c) h o;have hp:(0:Int)<=8001*6^o:=Int.mul_nonneg VI (Int.pow_nonneg VI);have hj:=Wy4 (c:=c) (o:=o) hp ih (c+1);intro x y;have:=hj x y;have e:(8001:Int)*6^(o+1)=6*(8001*6^o):=by rw [Int.pow_succ];omega
  rw [e];exact ⟨this.2.1,this.1⟩
theorem Zz4: ∀o:Nat,o<=12->(6:Int)^o<=2176782336:=by
 intro o ho;rcases (show o=0\/o=1\/o=2\/o=3\/o=4\/o=5\/o=6\/o=7\/o=8\/o=9\/o=10\/o=11\/o=12 by omega) with rfl|rfl|rfl|rfl|rfl|rfl|rfl|rfl|rfl|rfl|rfl|rfl|rfl<;>decide
theorem Zk7{c:Nat}{M:Nat->Nat->Int}(h:LB8 8001 M){o f t:Nat}(ho:o<=12)(x y:Nat): -105000000000000<=fwT (fwF c (fwO c M o) o f) o f t x y/\fwT (fwF c (fwO c M o) o f) o f t x y<=8000:=by
 have ih:=Wy0 (c:=c) h o;have hp:(0:Int)<=8001*6^o:=Int.mul_nonneg VI (Int.pow_nonneg VI);have hj:=Wy3 hp (Wy4 (c:=c) (o:=o) hp ih f) t x y;have:=Zz4 o ho;omega
theorem y5{B:Int}{M:Nat->Nat->Int}(h:LB8 B M){a b:Nat}{v:Int}(hv: -B<=v):LB8 B (bnd M a b v):=by
 intro x y;have h1:=h a b;have h2:=h x y;unfold bnd wU;split<;>omega
theorem oLH(k:Nat):(-9<=oL k/\oL k<=0)/\0<=oH k/\oH k<=9:=by
 unfold oL oH;constructor<;>split<;>omega
theorem Wd1: ∀k,LB8 8001 (ofM k)
 | 0=>by
  intro x y;unfold ofM LR;split<;>omega
 |k+1=>by
  have h:=oLH k;exact y5 (y5 (Wd1 k) VI) VI
theorem Wr9{N:Nat}{lo hi:Nat->Int}{m:Nat->Nat}{r v:Nat->Nat->Int}(h:bOK N lo hi m r v): ∀k,k<=N->LB8 8001 (btM lo hi k)
 | 0,_=>Wd1 3
 |k+1,hk=>by
  have q:=h.2 k VI;exact y5 (y5 (Wr9 h k VI) VI) VI
theorem ST{N:Nat}{lo hi:Nat->Int}{m:Nat->Nat}{r v:Nat->Nat->Int}(h:bOK N lo hi m r v): ∀q,q<=HB m N->LB8 8001 (rF N lo hi m r v q)
 | 0,_=>Wr9 h N (Nat.le_refl _)
 |q+1,hq=>by
  obtain ⟨hl1,hl2⟩:=TL m N q VI;have q4:=(h.2 _ hl1).2.2.2.2 _ hl2;exact y5 (y5 (ST h q VI) VI) VI
section
variable (N:Nat)(lo hi:Nat->Int)(m:Nat->Nat)(r v:Nat->Nat->Int)
def r0M:Nat->Nat->Int:=rF N lo hi m r v (HB m N)
def PE:Nat->Nat->Int:=fwO 12 (r0M N lo hi m r v) 13
def xF:Bool:=D4 (λk=>decide (0<=PE N lo hi m r v k k)) 13
def Zq2:St:={σ:=[AV.ro [lst 2 3 λk=>[iI (oL k),iI (oH k)],iI 1,Q1 N lo hi m r v,Q2 m N,top],agg QD,top,ptr 0 0,QE,AV.lit false,ptr 4 0]++HG 15 [iI 13]++HG 20 [lst 2 3 λk=>[iI (oL k),iI (oH k)],iI (↑(3:Nat):Int),iI 3]++HG 20 [Q1 N lo hi m r v,iI (N:Int),iI (N:Int)]++HG 14 [Q2 m N,iI (↑(HB m N):Int),iI (↑(HB m N):Int)]++HG 105 [],m:=[(4,GM.ints 237 [] 169 λk=>UY (rF N lo hi m r v (HB m N)) k),(0,KX)],nx:=28}
noncomputable def Zr8:Code:=U8 (VQ (U6 Tryz.f93) 4)
def Wi4(o:Nat):St:=(upE [(136,i o)] [(4,.ints 237 [] 169 (UY (fwO 12 (r0M N lo hi m r v) o))),(0,.cells 191 [.x (.int .u64 0)])] (Zq2 N lo hi m r v))
def CS(o:Nat):G6->Option St
 | .exit 10=>some (upE [(136,i 13)] [(4,.ints 237 [] 169 (UY (fwO 12 (r0M N lo hi m r v) 13))),(0,.cells 191 [.x (.int .u64 0)])] (Zq2 N lo hi m r v))
 |_=>none
def Jk9:CT:= .leaf (.exit 10,(CS N lo hi m r v 0 (.exit 10)).getD (Zq2 N lo hi m r v))
def Xw4:UH:=GJ [] (HF (Wi4 N lo hi m r v (0)) (Jk9 N lo hi m r v))
def Zq1(o:Nat):St:={σ:=[AV.ro [lst 2 3 λk=>[iI (oL k),iI (oH k)],iI 1,Q1 N lo hi m r v,Q2 m N,top],agg QD,top,ptr 0 0,QE,AV.lit false,ptr 4 0]++HG 9 [iI (o:Int)]++HG 5 [iI 13]++HG 20 [lst 2 3 λk=>[iI (oL k),iI (oH k)],iI (↑(3:Nat):Int),iI 3]++HG 20 [Q1 N lo hi m r v,iI (N:Int),iI (N:Int)]++HG 14 [Q2 m N,iI (↑(HB m N):Int),iI (↑(HB m N):Int)]++HG 50 [iI (o:Int)]++HG 54 [],m:=[(4,GM.ints 237 [] 169 λk=>UY (fwO 12 (r0M N lo hi m r v) o) k),(0,KX)],nx:=32}
noncomputable def Zr7:Code:=(U8 (VQ (U8 (VQ (U6 Tryz.f93) 4)) 0))
def Wi3(o:Nat)(f:Nat):St:=(upE [(139,i f)] [(4,.ints 237 [] 169 (UY (fwF 12 (fwO 12 (r0M N lo hi m r v) o) o f))),(0,.cells 191 [.x (.int .u64 0)])] (Zq1 N lo hi m r v o))
def CR(o:Nat)(f:Nat):G6->Option St
 | .exit 12=>some (upE [(139,i 13)] [(4,.ints 237 [] 169 (UY (fwF 12 (fwO 12 (r0M N lo hi m r v) o) o 13))),(0,.cells 191 [.x (.int .u64 0)])] (Zq1 N lo hi m r v o))
 |_=>none
def Jk8(o:Nat):CT:= .leaf (.exit 12,(CR N lo hi m r v o 0 (.exit 12)).getD (Zq1 N lo hi m r v o))
def Xw3(o:Nat):UH:=GJ [] (HF (Wi3 N lo hi m r v o (0)) (Jk8 N lo hi m r v o))
def Zq0(o:Nat)(f:Nat):St:={σ:=[AV.ro [lst 2 3 λk=>[iI (oL k),iI (oH k)],iI 1,Q1 N lo hi m r v,Q2 m N,top],agg QD,top,ptr 0 0,QE,AV.lit false,ptr 4 0]++HG 9 [iI (o:Int),iI (f:Int),top,top,top,top,iI 13]++HG 20 [lst 2 3 λk=>[iI (oL k),iI (oH k)],iI (↑(3:Nat):Int),iI 3]++HG 20 [Q1 N lo hi m r v,iI (N:Int),iI (N:Int)]++HG 14 [Q2 m N,iI (↑(HB m N):Int),iI (↑(HB m N):Int)]++HG 50 [iI (o:Int),top,top,iI (f:Int)]++HG 51 [],m:=[(4,GM.ints 237 [] 169 λk=>UY (fwF 12 (fwO 12 (r0M N lo hi m r v) o) o f) k),(0,KX)],nx:=36}
noncomputable def Jp1:Code:=(U8 (VQ (U8 (VQ (U8 (VQ (U6 Tryz.f93) 4)) 0)) 0))
def Wi2(o:Nat)(f:Nat)(t:Nat):St:=(upE [(142,i t)] [(4,.ints 237 [] 169 (UY (fwT (fwF 12 (fwO 12 (r0M N lo hi m r v) o) o f) o f t))),(0,.cells 191 [.x (.int .u64 0)])] (Zq0 N lo hi m r v o f))
def CQ(o:Nat)(f:Nat)(t:Nat):G6->Option St
 | .exit 14=>some (upE [(142,i 13)] [(4,.ints 237 [] 169 (UY (fwT (fwF 12 (fwO 12 (r0M N lo hi m r v) o) o f) o f 13))),(0,.cells 191 [.x (.int .u64 0)])] (Zq0 N lo hi m r v o f))
 |_=>none
def Jk7(o:Nat)(f:Nat):CT:= .leaf (.exit 14,(CQ N lo hi m r v o f 0 (.exit 14)).getD (Zq0 N lo hi m r v o f))
def Xw2(o:Nat)(f:Nat):UH:=GJ [] (HF (Wi2 N lo hi m r v o f (0)) (Jk7 N lo hi m r v o f))
theorem Jf2(o:Nat)(f:Nat)(VR:bOK N lo hi m r v)(UE:o<=12)(HP:f<=12):G7 VN (.loop Jp1) (Xw2 N lo hi m r v o f):=by
 refine UX [] (L:=[]) (VJ.cons RG (VJ.cons LS (VJ.cons FX (VJ.nil _)))) (VV.of (VP.nil _) (VM.cons RK (VM.nil _))) VY U2 (X:=Nat) (Wi2 N lo hi m r v o f) (λt=>t<=13) (λt=>13-t) (CQ N lo hi m r v o f) (x0:=0) VU ?_ ?_ ?_
 ·rintro t;kernel_rfl
 ·rintro t y E h;unfold CQ at h;split at h
  ·cases h;kernel_rfl
  ·cases h
 ·rintro Q hQ t hx;refine ⟨(t+1),?_⟩;(with_reducible refine DF (t:=let z2:=(fwF 12 (fwO 12 (r0M N lo hi m r v) o) o f);let z0:=(fwT z2 o f t);let z1:=(VX (AV.ro [lst 2 3 λk=>[iI (oL k),iI (oH k)],iI 1,Q1 N lo hi m r v,Q2 m N,top]));let z3:=(VX (↑(HB m N):Int));(branch (decide ((t:Int)<13)) (need [UI f 13] (need [UI t 13] (need [t*1+(f*13+0)<169] (need [UI f 13] (need [UI o 13] (need [o*1+(f*13+0)<169] (need [UI o 13] (need [UI t 13] (need [t*1+(o*13+0)<169] (need [VK (UY z0 (o*1+(f*13+0))+UY z0 (t*1+(o*13+0)))] (need [UI f 13] (need [UI t 13] (need [t*1+(f*13+0)+List.length [min (UY z0 (t*1+(f*13+0))) (UY z0 (o*1+(f*13+0))+UY z0 (t*1+(o*13+0)))]<=169] (need [VK ((t:Int)+1)] (need [z1,VX (agg QD),QO,QE=QE,WK,W5,VX (o:Int),VX (f:Int),XA,VX (lst 2 3 λk=>[iI (oL k),iI (oH k)]),VX (↑(3:Nat):Int),XE,WS N lo hi m r v,VX (N:Int),VX (N:Int),VX (Q2 m N),z3,z3,VX (o:Int),VX (f:Int),(t:Int)+1=(↑(t+1):Int),169=169,GT 169 (UO (t*1+(f*13+0)) (min (UY z0 (t*1+(f*13+0))) (UY z0 (o*1+(f*13+0))+UY z0 (t*1+(o*13+0)))) (UY z0)) (UY (fwT z2 o f (t+1))),QT] (leaf G6.normal)))))))))))))))) (need [z1,VX (agg QD),QO,QE=QE,WK,W5,VX (o:Int),VX (f:Int),XA,VX (lst 2 3 λk=>[iI (oL k),iI (oH k)]),VX (↑(3:Nat):Int),XE,WS N lo hi m r v,VX (N:Int),VX (N:Int),VX (Q2 m N),z3,z3,VX (o:Int),VX (f:Int),(t:Int)=13,169=169,GT 169 (UY z0) (UY (fwT z2 o f 13)),QT] (leaf (G6.exit 14))))) VS ?_)
  simp only [Jk7,CQ,VL.sat,GS] at hQ;simp only [VL.sat,UA,UZ,GI,UC,VK,UG,H9,R0,RF,L1,GL,CQ]
  have hl:=λx y=>Zk7 (c:=12) (ST VR (HB m N) (Nat.le_refl _)) (o:=o) (f:=f) (t:=t) VI x y
  have hfo:=hl f o;have hot:=hl o t;refine ⟨λh=>?_,λh=>?_⟩
  ·have h1: ∀M,UY M (o*1+(f*13+0))=M f o:=λM=>kY _ VI VI
   have h2: ∀M,UY M (t*1+(o*13+0))=M o t:=λM=>kY _ VI VI
   have h3: ∀M w,UO (t*1+(f*13+0)) (min (UY M (t*1+(f*13+0))) w) (UY M)=UY (bnd M f t w):=λM w=>zL VI VI
   simp only [h3];simp only [h1,h2];unfold r0M;exact YY
  ·obtain rfl:t=13:=VI;exact YY
theorem Jf3(o:Nat)(VR:bOK N lo hi m r v)(UE:o<=12):G7 VN (.loop Zr7) (Xw3 N lo hi m r v o):=by
 refine UX [] (L:=[BF 17 (λk=>FO [k<=12] (Xw2 N lo hi m r v o k))]) (VJ.cons RG (VJ.cons LS (VJ.cons FX (VJ.nil _)))) (VV.of (VP.nil _) (VM.cons RK (VM.nil _))) VY (G0 (λcj hcj=>by
  have e:VQ Zr7 0=some (.loop Jp1):=VS;rw [e] at hcj;cases hcj;exact P2 (λk=>D0 (λh=>Jf2 N lo hi m r v o k VR UE h)))) (X:=Nat) (Wi3 N lo hi m r v o) (λf=>f<=13) (λf=>13-f) (CR N lo hi m r v o) (x0:=0) VU ?_ ?_ ?_
 ·rintro f;kernel_rfl
 ·rintro f y E h;unfold CR at h;split at h
  ·cases h;kernel_rfl
  ·cases h
 ·rintro Q hQ f hx;refine ⟨(f+1),?_⟩;(with_reducible refine DF (t:=let z0:=(VX (AV.ro [lst 2 3 λk=>[iI (oL k),iI (oH k)],iI 1,Q1 N lo hi m r v,Q2 m N,top]));let z1:=(fwO 12 (r0M N lo hi m r v) o);let z2:=(VX (↑(HB m N):Int));let z3:=(VX (lst 2 3 λk=>[iI (oL k),iI (oH k)]));(branch (decide ((f:Int)<13)) (need [f<=12] (need [z0,VX (agg QD),QO,QE=QE,WK,W5,VX (o:Int),VX (f:Int),XA,z3,VX (↑(3:Nat):Int),XE,WS N lo hi m r v,VX (N:Int),VX (N:Int),VX (Q2 m N),z2,z2,VX (o:Int),VX (f:Int),(0:Int)=(↑(0:Nat):Int),169=169,GT 169 (UY (fwF 12 z1 o f)) (UY (fwT (fwF 12 z1 o f) o f 0)),QT] (need [VK ((f:Int)+1)] (need [z0,VX (agg QD),QO,QE=QE,WK,W5,VX (o:Int),XA,z3,VX (↑(3:Nat):Int),XE,WS N lo hi m r v,VX (N:Int),VX (N:Int),VX (Q2 m N),z2,z2,VX (o:Int),(f:Int)+1=(↑(f+1):Int),169=169,GT 169 (UY (fwT (fwF 12 z1 o f) o f 13)) (UY (fwF 12 z1 o (f+1))),QT] (leaf G6.normal))))) (need [z0,VX (agg QD),QO,QE=QE,WK,W5,VX (o:Int),XA,z3,VX (↑(3:Nat):Int),XE,WS N lo hi m r v,VX (N:Int),VX (N:Int),VX (Q2 m N),z2,z2,VX (o:Int),(f:Int)=13,169=169,GT 169 (UY (fwF 12 z1 o f)) (UY (fwF 12 z1 o 13)),QT] (leaf (G6.exit 12))))) VS ?_)
  simp only [Jk8,CR,VL.sat,GS] at hQ;simp only [VL.sat,UA,UZ,GI,UC,VK,UG,H9,R0,RF,L1,GL,CR]
  refine ⟨λh=>?_,λh=>?_⟩
  ·exact YY
  ·obtain rfl:f=13:=VI;exact YY
theorem Jf4(VR:bOK N lo hi m r v):G7 VN (.loop Zr8) (Xw4 N lo hi m r v):=by
 refine UX [] (L:=[BF 16 (λk=>FO [k<=12] (Xw3 N lo hi m r v k))]) (VJ.cons RG (VJ.cons LS (VJ.cons FX (VJ.nil _)))) (VV.of (VP.nil _) (VM.cons RK (VM.nil _))) VY (G0 (λcj hcj=>by
  have e:VQ Zr8 0=some (.loop Zr7):=VS;rw [e] at hcj;cases hcj;exact P2 (λk=>D0 (λh=>Jf3 N lo hi m r v k VR h)))) (X:=Nat) (Wi4 N lo hi m r v) (λo=>o<=13) (λo=>13-o) (CS N lo hi m r v) (x0:=0) VU ?_ ?_ ?_
 ·rintro o;kernel_rfl
 ·rintro o y E h;unfold CS at h;split at h
  ·cases h;kernel_rfl
  ·cases h
 ·rintro Q hQ o hx;refine ⟨(o+1),?_⟩;(with_reducible refine DF (t:=let z0:=(VX (AV.ro [lst 2 3 λk=>[iI (oL k),iI (oH k)],iI 1,Q1 N lo hi m r v,Q2 m N,top]));let z1:=(VX (↑(HB m N):Int));let z2:=(VX (lst 2 3 λk=>[iI (oL k),iI (oH k)]));let z3:=(fwO 12 (r0M N lo hi m r v) o);(branch (decide ((o:Int)<13)) (need [o<=12] (need [z0,VX (agg QD),QO,QE=QE,WK,W5,VX (o:Int),XA,z2,VX (↑(3:Nat):Int),XE,WS N lo hi m r v,VX (N:Int),VX (N:Int),VX (Q2 m N),z1,z1,VX (o:Int),(0:Int)=(↑(0:Nat):Int),169=169,GT 169 (UY z3) (UY (fwF 12 z3 o 0)),QT] (need [VK ((o:Int)+1)] (need [z0,VX (agg QD),QO,QE=QE,WK,W5,XA,z2,VX (↑(3:Nat):Int),XE,WS N lo hi m r v,VX (N:Int),VX (N:Int),VX (Q2 m N),z1,z1,(o:Int)+1=(↑(o+1):Int),169=169,GT 169 (UY (fwF 12 z3 o 13)) (UY (fwO 12 (r0M N lo hi m r v) (o+1))),QT] (leaf G6.normal))))) (need [z0,VX (agg QD),QO,QE=QE,WK,W5,XA,z2,VX (↑(3:Nat):Int),XE,WS N lo hi m r v,VX (N:Int),VX (N:Int),VX (Q2 m N),z1,z1,(o:Int)=13,169=169,GT 169 (UY z3) (UY (fwO 12 (r0M N lo hi m r v) 13)),QT] (leaf (G6.exit 10))))) VS ?_)
  simp only [Jk9,CS,VL.sat,GS] at hQ;simp only [VL.sat,UA,UZ,GI,UC,VK,UG,H9,R0,RF,L1,GL,CS]
  refine ⟨λh=>?_,λh=>?_⟩
  ·exact YY
  ·obtain rfl:o=13:=VI;exact YY
end
end Go.Proofs.YtlclobclmfhlmaaGreatDoor.Hd
