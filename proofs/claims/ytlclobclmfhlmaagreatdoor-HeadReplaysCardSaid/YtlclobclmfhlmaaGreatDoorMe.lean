/- Contracts, put together. Conditions: those of each. -/
import Derived.Test.YtlclobclmfhlmaaGreatDoorMd
import Derived.Lib.Walk
import Derived.Lib.SliceRun
import Derived.Lib.AppendZerosOnto
set_option linter.unusedSimpArgs false
set_option linter.unusedVariables false
set_option maxRecDepth 100000
namespace Go.Proofs.YtlclobclmfhlmaaGreatDoor.Bo
open Go Go.Sx Go.RowKit
open Go.Sx.VN (need branch leaf)
open Go.Sx.AV (lst ptr agg roI tup top)
end Go.Proofs.YtlclobclmfhlmaaGreatDoor.Bo
namespace Go.Proofs.YtlclobclmfhlmaaGreatDoor
open Go Go.Sx Go.RowKit Bo
open Go.Sx.VN (need branch leaf)
open Go.Sx.AV (lst ptr agg roI tup top)
theorem VZ:Tryz.prog.follows .mixedOrders=true:=VU
abbrev i(n:Int):AV:= .x (.int .i64 n)
abbrev iI(n:Int):AV:= .x (.int .i64 n)
abbrev bl(b:Bool):AV:= .x (.bool b)
abbrev bt:=Bo.bt
abbrev insB:=Bo.insB
def dnI(n d:Int):Int:=n.tdiv d
def upI(n d:Int):Int:=(n+d-1).tdiv d
theorem bt_iff(lo n hi:Int):bt lo n hi=true↔lo<=n/\n<=hi:=Bo.bt_iff lo n hi
theorem insB_iff(lo a b hi:Int):insB lo a b hi=true↔lo<=a/\a<=b/\b<=hi:=Bo.insB_iff lo a b hi
theorem gG{n d:Int}(hn:0<=n)(hd:1<=d):dnI n d*d<=n/\n<dnI n d*d+d/\0<=dnI n d/\dnI n d<=n:=by
 unfold dnI;rw [Int.tdiv_eq_ediv_of_nonneg hn];have h1:=Int.mul_ediv_add_emod n d;have h2:=Int.emod_nonneg n (show d≠0 by omega)
 have h3:=Int.emod_lt_of_pos n (show 0<d by omega)
 have h4:=Int.ediv_nonneg hn (show 0<=d by omega)
 have h5:=Int.ediv_le_self d hn;rw [Int.mul_comm] at h1;omega
theorem SC{n d:Int}(hn:0<=n)(hd:1<=d):upI n d*d-d<n/\n<=upI n d*d/\0<=upI n d/\upI n d<=n:=by
 have h:=gG (n:=n+d-1) VK hd;have e:upI n d=dnI (n+d-1) d:=rfl;rw [e];refine ⟨VK,VK,h.2.2.1,?_⟩;rcases Int.lt_or_le n (dnI (n+d-1) d) with h1|h1
 ·have h2:=Int.mul_le_mul_of_nonneg_right (show n+1<=dnI (n+d-1) d by omega) (show 0<=d by omega)
  rw [Int.add_mul,Int.one_mul] at h2;have h3:=Int.mul_nonneg hn (show 0<=d-1 by omega)
  rw [Int.mul_sub,Int.mul_one] at h3;omega
 ·exact h1
def B9:UZ
 |[.x (.int .i64 n),.x (.int .i64 lo),.x (.int .i64 hi)]=>some ([],bl (bt lo n hi))
 |_=>none
abbrev KY:Value:=Value.bool false
theorem wN(n lo hi:Int):VY VP 102 [i n,i lo,i hi] (bl (bt lo n hi)):=by
 refine GW Tryz.func102 (t:=branch (decide (lo<=n)) (leaf (RV.x (.bool (decide (n<=hi))))) (leaf (RV.x (KY)))) VU ?_;simp only [VN.sat,UB,UY,GL,UE,UJ];all_goals (simp+contextual [bt,insB,Bo.bt,Bo.insB,Bool.and_assoc]);all_goals omega
theorem RJ:VQ VP 102 B9:=by
 refine ⟨(UK Tryz.func102),?_⟩;intro avs ns res h hn;unfold B9 at h;split at h
 ·cases h;exact wN _ _ _
 ·cases h
def BA:UZ
 |[.agg [.x (.int .i64 a),.x (.int .i64 b)],.x (.int .i64 lo),.x (.int .i64 hi)]=>some ([],bl (insB lo a b hi))
 |_=>none
theorem x8(a b lo hi:Int):VY VP 130 [.agg [i a,i b],i lo,i hi] (bl (insB lo a b hi)):=by
 refine GW Tryz.func130 (t:=branch (decide (lo<=a)) (branch (decide (a<=b)) (leaf (RV.x (.bool (decide (b<=hi))))) (leaf (RV.x (KY)))) (leaf (RV.x (KY)))) VU ?_;simp only [VN.sat,UB,UY,GL,UE,UJ];all_goals (simp+contextual [bt,insB,Bo.bt,Bo.insB,Bool.and_assoc]);all_goals omega
theorem PQ:VQ VP 130 BA:=by
 refine ⟨(UK Tryz.func130),?_⟩;intro avs ns res h hn;unfold BA at h;split at h
 ·cases h;exact x8 _ _ _ _
 ·cases h
def sA:UZ
 |[.x (.int .i64 n),.x (.int .i64 d)]=>some ([1<=d/\d<=100000,0<=n/\n<=1000000000000],i (dnI n d))
 |_=>none
theorem Xi8(n d:Int)(VT:1<=d/\d<=100000)(UI:0<=n/\n<=1000000000000):VY VP 135 [i n,i d] (i (dnI n d)):=by
 refine GW Tryz.func135 (t:=need [d≠0,VM (Int.tdiv n d)] (leaf (RV.x (.int .i64 (Int.tdiv n d))))) VU ?_;have h:=gG UI.1 VT.1;unfold dnI at h ⊢;exact VD
theorem a9:VQ VP 135 sA:=by
 refine ⟨(UK Tryz.func135),?_⟩;intro avs ns res h hn;unfold sA at h;split at h
 ·cases h;exact Xi8 _ _ (hn _ VW) (hn _ VW)
 ·cases h
def Zn3:UZ
 |[.x (.int .i64 n),.x (.int .i64 d)]=>some ([1<=d/\d<=100000,0<=n/\n<=1000000000000],i (upI n d))
 |_=>none
theorem Zv8(n d:Int)(VT:1<=d/\d<=100000)(UI:0<=n/\n<=1000000000000):VY VP 136 [i n,i d] (i (upI n d)):=by
 refine GW Tryz.func136 (t:=need [VM (n+d)] (need [VM (n+d-1)] (need [d≠0,VM (Int.tdiv (n+d-1) d)] (leaf (RV.x (.int .i64 (Int.tdiv (n+d-1) d))))))) VU ?_;have h:=SC UI.1 VT.1;unfold upI at h ⊢;exact VD
theorem Qx1:VQ VP 136 Zn3:=by
 refine ⟨(UK Tryz.func136),?_⟩;intro avs ns res h hn;unfold Zn3 at h;split at h
 ·cases h;exact Zv8 _ _ (hn _ VW) (hn _ VW)
 ·cases h
theorem Qc0{a day:Int}(ha:0<=a/\a<=100)(hd:0<=day/\day<=100000):0<=a*day/\a*day<=10000000:=by
 have h1:=Int.mul_nonneg ha.1 hd.1;have h2:=Bo.mul_bd (x:=a) (y:=day) (X:=100) (Y:=100000) VK VK;omega
def Qe0:UZ
 |[.agg [.x (.int .i64 a),.x (.int .i64 b)],.x (.int .i64 day)]=>some ([0<=a/\a<=100,0<=b/\b<=100,0<=day/\day<=100000],.agg [i (dnI (a*day) 100),i (upI (b*day) 100)])
 |_=>none
theorem Qz5(a b day:Int)(VT:0<=a/\a<=100)(UI:0<=b/\b<=100)(HR:0<=day/\day<=100000):VY VP 138 [.agg [i a,i b],i day] (.agg [i (dnI (a*day) 100),i (upI (b*day) 100)]):=by
 refine U2 (L:=[]) (VL.cons a9 (VL.cons Qx1 (VL.nil _))) VZ Tryz.func138 (UV Tryz.f138) U3 (t:=need [VM (a*day)] (need [(1:Int)<=100/\(100:Int)<=100000,(0:Int)<=a*day/\a*day<=1000000000000] (need [VM (b*day)] (need [(1:Int)<=100/\(100:Int)<=100000,(0:Int)<=b*day/\b*day<=1000000000000] (leaf (RV.agg [RV.x (.int .i64 (dnI (a*day) (100:Int))),RV.x (.int .i64 (upI (b*day) (100:Int)))])))))) VU ?_;have h1:=Qc0 VT HR;have h2:=Qc0 UI HR;exact VD
theorem cA:VQ VP 138 Qe0:=by
 refine ⟨(UK Tryz.func138),?_⟩;intro avs ns res h hn;unfold Qe0 at h;split at h
 ·cases h;exact Qz5 _ _ _ (hn _ VW) (hn _ VW) (hn _ VW)
 ·cases h
section
variable (f:Nat->Int)(k:Nat)(day:Int)
def onL:Int:=f (4+2*k)-upI (f 3*day) 100
def onH:Int:=f (5+2*k)-dnI (f 2*day) 100
end
def teM(c:Int)(k:Nat):Int:=dnI (1000*k) c
def drB(f:Nat->Int):Prop:=(0<=f 2/\f 2<=100)/\(0<=f 3/\f 3<=100)
def bdB(f:Nat->Int):Prop:= ∀j,j<22-> -100000000000<=f (4+j)/\f (4+j)<=100000000000
theorem Qz6{f:Nat->Int}{day:Int}(h:drB f)(hd:0<=day/\day<=100000):(0<=upI (f 3*day) 100/\upI (f 3*day) 100<=10000000)/\0<=dnI (f 2*day) 100/\dnI (f 2*day) 100<=10000000:=by
 have h1:=Qc0 h.1 hd;have h2:=Qc0 h.2 hd;have h3:=gG h1.1 (show (1:Int)<=100 by omega)
 have h4:=SC h2.1 (show (1:Int)<=100 by omega)
 omega
theorem o2(c T lo hi:Int)(A B:AV)(f:Nat->Int)(k:Nat)(day:Int)(VT:drB f)(UI:bdB f)(HR:k<=10)(F1:0<=day/\day<=100000):VY VP 104 [.roI [i c,i T,i lo,i hi,A,B] 26 f 0,i k,i day] (i (onL f k day)):=by
 refine U2 (L:=[]) (VL.cons cA (VL.nil _)) VZ Tryz.func104 (UV Tryz.f104) U3 (t:=need [UH k 11] (need [k*2+10+0-1-1-1-1-1-1<26] (need [2+2<=26] (need [(0:Int)<=f (2+nat_lit 0)/\f (2+nat_lit 0)<=100,(0:Int)<=f (2+nat_lit 1)/\f (2+nat_lit 1)<=100,(0:Int)<=day/\day<=100000] (need [VM (f (k*2+10+0-1-1-1-1-1-1)-upI (f (2+nat_lit 1)*day) (100:Int))] (leaf (RV.x (.int .i64 (f (k*2+10+0-1-1-1-1-1-1)-upI (f (2+nat_lit 1)*day) (100:Int)))))))))) VU ?_;have h0:=Qz6 VT F1;have h1:=UI (2*k) VK;have h2:=UI (2*k+1) VK;rw [show 4+(2*k+1)=5+2*k by omega] at h2
 have d1:=VT.1;have d2:=VT.2
 have hi6:VM (f (4+2*k)-upI (f 3*day) 100):=by
  simp only [VM];omega
 simp only [VN.sat,UB,UY,GL,UE,UJ];rw [show k*2+10+0-1-1-1-1-1-1=4+2*k by omega]
 exact ⟨VK,VK,VK,⟨d1,d2,F1⟩,hi6,rfl⟩
def lN:UZ
 |[.roI [.x (.int .i64 c),.x (.int .i64 T),.x (.int .i64 lo),.x (.int .i64 hi),A,B] 26 f 0,.x (.int .i64 k),.x (.int .i64 day)]=>some ([drB f,bdB f,0<=k/\k<=10,0<=day/\day<=100000],i (onL f k.toNat day))
 |_=>none
theorem o1:VQ VP 104 lN:=by
 refine ⟨(UK Tryz.func104),?_⟩;intro avs ns res h hn;unfold lN at h;split at h
 ·rename_i c T lo hi A B f k day;cases h;have hk:0<=k/\k<=10:=hn _ VW;have e:((k.toNat:Nat):Int)=k:=VK;have h0:=o2 c T lo hi A B f k.toNat day (hn _ VW) (hn _ VW) VK (hn _ VW);rw [e] at h0;exact h0
 ·cases h
theorem TQ(c T lo hi:Int)(A B:AV)(f:Nat->Int)(k:Nat)(day:Int)(VT:drB f)(UI:bdB f)(HR:k<=10)(F1:0<=day/\day<=100000):VY VP 105 [.roI [i c,i T,i lo,i hi,A,B] 26 f 0,i k,i day] (i (onH f k day)):=by
 refine U2 (L:=[]) (VL.cons cA (VL.nil _)) VZ Tryz.func105 (UV Tryz.f105) U3 (t:=need [UH k 11] (need [k*2+10+1-1-1-1-1-1-1<26] (need [2+2<=26] (need [(0:Int)<=f (2+nat_lit 0)/\f (2+nat_lit 0)<=100,(0:Int)<=f (2+nat_lit 1)/\f (2+nat_lit 1)<=100,(0:Int)<=day/\day<=100000] (need [VM (f (k*2+10+1-1-1-1-1-1-1)-dnI (f (2+nat_lit 0)*day) (100:Int))] (leaf (RV.x (.int .i64 (f (k*2+10+1-1-1-1-1-1-1)-dnI (f (2+nat_lit 0)*day) (100:Int)))))))))) VU ?_;have h0:=Qz6 VT F1;have h1:=UI (2*k) VK;have h2:=UI (2*k+1) VK;rw [show 4+(2*k+1)=5+2*k by omega] at h2
 have d1:=VT.1;have d2:=VT.2
 have hi6:VM (f (5+2*k)-dnI (f 2*day) 100):=by
  simp only [VM];omega
 simp only [VN.sat,UB,UY,GL,UE,UJ];rw [show k*2+10+1-1-1-1-1-1-1=5+2*k by omega]
 exact ⟨VK,VK,VK,⟨d1,d2,F1⟩,hi6,rfl⟩
def IX:UZ
 |[.roI [.x (.int .i64 c),.x (.int .i64 T),.x (.int .i64 lo),.x (.int .i64 hi),A,B] 26 f 0,.x (.int .i64 k),.x (.int .i64 day)]=>some ([drB f,bdB f,0<=k/\k<=10,0<=day/\day<=100000],i (onH f k.toNat day))
 |_=>none
theorem TP:VQ VP 105 IX:=by
 refine ⟨(UK Tryz.func105),?_⟩;intro avs ns res h hn;unfold IX at h;split at h
 ·rename_i c T lo hi A B f k day;cases h;have hk:0<=k/\k<=10:=hn _ VW;have e:((k.toNat:Nat):Int)=k:=VK;have h0:=TQ c T lo hi A B f k.toNat day (hn _ VW) (hn _ VW) VK (hn _ VW);rw [e] at h0;exact h0
 ·cases h
theorem Ja5(c T lo hi:Int)(A B:AV)(f:Nat->Int)(k:Nat)(day:Int)(VT:drB f)(UI:bdB f)(HR:k<=10)(F1:0<=day/\day<=100000):VY VP 76 [.roI [i c,i T,i lo,i hi,A,B] 26 f 0,i k,i day] (.agg [i (onL f k day),i (onH f k day)]):=by
 refine U2 (L:=[]) (VL.cons o1 (VL.cons TP (VL.nil _))) VZ Tryz.func76 (UV Tryz.f76) U3 (t:=need [drB f,bdB f,(0:Int)<=(k:Int)/\(k:Int)<=10,(0:Int)<=day/\day<=100000] (need [drB f,bdB f,(0:Int)<=(k:Int)/\(k:Int)<=10,(0:Int)<=day/\day<=100000] (leaf (RV.agg [RV.x (.int .i64 (onL f k day)),RV.x (.int .i64 (onH f k day))])))) VU ?_;simp only [VN.sat,UB,UY,GL,UE,UJ,FA];exact ⟨⟨VT,UI,VK,F1⟩,⟨VT,UI,VK,F1⟩⟩
def Jn4:UZ
 |[.roI [.x (.int .i64 c),.x (.int .i64 T),.x (.int .i64 lo),.x (.int .i64 hi),A,B] 26 f 0,.x (.int .i64 k),.x (.int .i64 day)]=>some ([drB f,bdB f,0<=k/\k<=10,0<=day/\day<=100000],.agg [i (onL f k.toNat day),i (onH f k.toNat day)])
 |_=>none
theorem Wc4:VQ VP 76 Jn4:=by
 refine ⟨(UK Tryz.func76),?_⟩;intro avs ns res h hn;unfold Jn4 at h;split at h
 ·rename_i c T lo hi A B f k day;cases h;have hk:0<=k/\k<=10:=hn _ VW;have e:((k.toNat:Nat):Int)=k:=VK;have h0:=Ja5 c T lo hi A B f k.toNat day (hn _ VW) (hn _ VW) VK (hn _ VW);rw [e] at h0;exact h0
 ·cases h
theorem Xq1{c:Int}{k:Nat}(hc:1<=c/\c<=10)(hk:k<=10):0<=teM c k/\teM c k<=10000:=by
 have:=gG (n:=1000*k) VK hc.1;unfold teM;omega
theorem Qx5(c T lo hi:Int)(A B:AV)(f:Nat->Int)(k:Nat)(VT:1<=c/\c<=10)(UI:k<=10):VY VP 166 [.roI [i c,i T,i lo,i hi,A,B] 26 f 0,i k] (i (teM c k)):=by
 refine GW Tryz.func166 (t:=need [VM ((1000:Int)*(k:Int))] (need [c≠0,VM (Int.tdiv ((1000:Int)*(k:Int)) c)] (leaf (RV.x (.int .i64 (Int.tdiv ((1000:Int)*(k:Int)) c)))))) VU ?_;have h:=Xq1 VT UI;unfold teM dnI at h ⊢;exact VD
def Qd8:UZ
 |[.roI [.x (.int .i64 c),.x (.int .i64 T),.x (.int .i64 lo),.x (.int .i64 hi),A,B] 26 f 0,.x (.int .i64 k)]=>some ([1<=c/\c<=10,0<=k/\k<=10],i (teM c k.toNat))
 |_=>none
theorem Qx4:VQ VP 166 Qd8:=by
 refine ⟨(UK Tryz.func166),?_⟩;intro avs ns res h hn;unfold Qd8 at h;split at h
 ·rename_i c T lo hi A B f k;cases h;have hk:0<=k/\k<=10:=hn _ VW;have e:((k.toNat:Nat):Int)=k:=VK;have h0:=Qx5 c T lo hi A B f k.toNat (hn _ VW) VK;rw [e] at h0;exact h0
 ·cases h
theorem MS(c T lo hi:Int)(A B:AV)(f:Nat->Int)(k:Nat)(day:Int)(VT:drB f)(UI:bdB f)(HR:k<=10)(F1:0<=day/\day<=100000)(BM:1<=c/\c<=10):VY VP 129 [.roI [i c,i T,i lo,i hi,A,B] 26 f 0,i k,i day] (.agg [i (onL f k day-teM c k),i (onH f k day-teM c k)]):=by
 refine U2 (L:=[]) (VL.cons Wc4 (VL.cons Qx4 (VL.nil _))) VZ Tryz.func129 (UV Tryz.f129) U3 (t:=need [drB f,bdB f,(0:Int)<=(k:Int)/\(k:Int)<=10,(0:Int)<=day/\day<=100000] (need [(1:Int)<=c/\c<=10,(0:Int)<=(k:Int)/\(k:Int)<=10] (need [VM (onL f k day-teM c k)] (need [(1:Int)<=c/\c<=10,(0:Int)<=(k:Int)/\(k:Int)<=10] (need [VM (onH f k day-teM c k)] (leaf (RV.agg [RV.x (.int .i64 (onL f k day-teM c k)),RV.x (.int .i64 (onH f k day-teM c k))]))))))) VU ?_;have h0:=Qz6 VT F1;have h1:=UI (2*k) VK;have h2:=UI (2*k+1) VK;rw [show 4+(2*k+1)=5+2*k by omega] at h2
 have d1:=VT.1;have d2:=VT.2
 have h5:=Xq1 BM HR;unfold onL onH;simp only [VN.sat,UB,UY,GL,UE,VM,UJ,FA,onL,onH];refine ⟨⟨VT,UI,VK,F1⟩,⟨BM,VK⟩,VK,⟨BM,VK⟩,VK⟩
def gN:UZ
 |[.roI [.x (.int .i64 c),.x (.int .i64 T),.x (.int .i64 lo),.x (.int .i64 hi),A,B] 26 f 0,.x (.int .i64 k),.x (.int .i64 day)]=>some ([drB f,bdB f,0<=k/\k<=10,0<=day/\day<=100000,1<=c/\c<=10],.agg [i (onL f k.toNat day-teM c k.toNat),i (onH f k.toNat day-teM c k.toNat)])
 |_=>none
theorem MR:VQ VP 129 gN:=by
 refine ⟨(UK Tryz.func129),?_⟩;intro avs ns res h hn;unfold gN at h;split at h
 ·rename_i c T lo hi A B f k day;cases h;have hk:0<=k/\k<=10:=hn _ VW;have e:((k.toNat:Nat):Int)=k:=VK;have h0:=MS c T lo hi A B f k.toNat day (hn _ VW) (hn _ VW) VK (hn _ VW) (hn _ VW);rw [e] at h0;exact h0
 ·cases h
def keP(c:Int)(f:Nat->Int)(wi day x:Int):Bool:=insB (-wi) (onL f x.toNat day-teM c x.toNat) (onH f x.toNat day-teM c x.toNat) wi
def mkV(p:Int)(j:Nat):List Value:=[.int .i64 (p+j)]
def Qe5:UZ
 |[.x (.int .i64 x),.ro [.roI [.x (.int .i64 c),.x (.int .i64 T),.x (.int .i64 lo),.x (.int .i64 hi),A,B] 26 f 0],.ro [.x (.int .i64 day)],.ro [.x (.int .i64 u0),.x (.int .i64 u1),.x (.int .i64 wi)]]=>some ([drB f,bdB f,1<=c/\c<=10,0<=day/\day<=100000,0<=wi/\wi<=1000000,0<=x/\x<=10],bl (keP c f wi day x))
 |_=>none
section
variable (x:Int)(c T lo hi:Int)(A B:AV)(f:Nat->Int)(day u0 u1 wi:Int)
theorem Wf1(VT:drB f)(UI:bdB f)(HR:1<=c/\c<=10)(F1:0<=day/\day<=100000)(BM:0<=wi/\wi<=1000000)(xY:0<=x/\x<=10):VY VP 128 [i x,.ro [.roI [i c,i T,i lo,i hi,A,B] 26 f 0],.ro [i day],.ro [i u0,i u1,i wi]] (bl (keP c f wi day x)):=by
 refine U2 (L:=[]) (VL.cons MR (VL.cons PQ (VL.nil _))) VZ Tryz.func128 (UV Tryz.f128) U3 (t:=need [drB f,bdB f,(0:Int)<=x/\x<=10,(0:Int)<=day/\day<=100000,(1:Int)<=c/\c<=10] (need [VM (-wi)] (leaf (RV.x (.bool (insB (-wi) (onL f (Int.toNat x) day-teM c (Int.toNat x)) (onH f (Int.toNat x) day-teM c (Int.toNat x)) wi)))))) VU ?_;simp only [VN.sat,UB,UY,GL,UE,VM,UJ,keP];exact ⟨⟨VT,UI,xY,F1,HR⟩,VK⟩
theorem Wf0:VQ VP 128 Qe5:=by
 refine ⟨(UK Tryz.func128),?_⟩;intro avs ns res h hn;unfold Qe5 at h;split at h
 ·cases h;exact Wf1 _ _ _ _ _ _ _ _ _ _ _ _ (hn _ VW) (hn _ VW) (hn _ VW) (hn _ VW) (hn _ VW) (hn _ VW)
 ·cases h
theorem Wu0(VT:drB f)(UI:bdB f)(HR:1<=c/\c<=10)(F1:0<=day/\day<=100000)(BM:0<=wi/\wi<=1000000)(xY:0<=x/\x<=10):VY VP 164 [i x,.ro [.fn (.func 128) [] [.ro [.roI [i c,i T,i lo,i hi,A,B] 26 f 0],.ro [i day],.ro [i u0,i u1,i wi]]]] (bl (!(keP c f wi day x))):=by
 refine U2 (L:=[]) (VL.cons Wf0 (VL.nil _)) VZ Tryz.func164 (UV Tryz.f164) U3 (t:=need [drB f,bdB f,(1:Int)<=c/\c<=10,(0:Int)<=day/\day<=100000,(0:Int)<=wi/\wi<=1000000,(0:Int)<=x/\x<=10] (leaf (RV.x (.bool !keP c f wi day x)))) VU ?_;simp only [VN.sat,UB,UY,GL,UE,UJ];exact ⟨VT,UI,HR,F1,BM,xY⟩
end
def Qf7:UZ
 |[.x (.int .i64 x),.ro [.fn (.func 128) [] [.ro [.roI [.x (.int .i64 c),.x (.int .i64 T),.x (.int .i64 lo),.x (.int .i64 hi),A,B] 26 f 0],.ro [.x (.int .i64 day)],.ro [.x (.int .i64 u0),.x (.int .i64 u1),.x (.int .i64 wi)]]]]=>some ([drB f,bdB f,1<=c/\c<=10,0<=day/\day<=100000,0<=wi/\wi<=1000000,0<=x/\x<=10],bl (!(keP c f wi day x)))
 |_=>none
theorem lH:VQ VP 164 Qf7:=by
 refine ⟨(UK Tryz.func164),?_⟩;intro avs ns res h hn;unfold Qf7 at h;split at h
 ·cases h;exact Wu0 _ _ _ _ _ _ _ _ _ _ _ _ (hn _ VW) (hn _ VW) (hn _ VW) (hn _ VW) (hn _ VW) (hn _ VW)
 ·cases h
abbrev WF(c:Int)(T:Int)(lo:Int)(hi:Int)(A:AV)(B:AV)(f:Nat->Int)(day:Int)(u0:Int)(u1:Int)(wi:Int):AV:=AV.fn (Fn.func 164) [] [AV.ro [AV.fn (Fn.func 128) [] [AV.ro [roI [iI c,iI T,iI lo,iI hi,A,B] 26 (λa=>f a) 0],AV.ro [iI day],AV.ro [iI u0,iI u1,iI wi]]]]
section
variable (n:Nat)(g:Nat->Int)
abbrev KA:AV:=lst 1 n λk=>[iI (g k)]
def Wz3(c T lo hi:Int)(A B:AV)(f:Nat->Int)(day u0 u1 wi:Int):St:={σ:=[KA n g,WF c T lo hi A B f day u0 u1 wi]++HI 5 [iI (n:Int)]++HI 11 [],m:=[],nx:=4}
noncomputable def Jo2:Code:=U9 (VS (U8 Tryz.f197) 0)
def Wf3(c T lo hi:Int)(A B:AV)(f:Nat->Int)(day u0 u1 wi:Int)(k:Nat):St:=(upM [(8,i k)] (Wz3 n g c T lo hi A B f day u0 u1 wi))
def hZ(c T lo hi:Int)(A B:AV)(f:Nat->Int)(day u0 u1 wi:Int)(k:Nat):G6->Option St
 | .ret=>some (upM [(4,i (GX ((λk=> !(keP c f wi day (g k)))) n))] (Wz3 n g c T lo hi A B f day u0 u1 wi))
 | .exit 0=>some (upM [] (Wz3 n g c T lo hi A B f day u0 u1 wi))
 |_=>none
def Jj1(c T lo hi:Int)(A B:AV)(f:Nat->Int)(day u0 u1 wi:Int):CT:= .branch (decide (GX ((λk=> !(keP c f wi day (g k)))) n<n)) (.leaf (.ret,(hZ n g c T lo hi A B f day u0 u1 wi 0 .ret).getD (Wz3 n g c T lo hi A B f day u0 u1 wi))) (.leaf (.exit 0,(hZ n g c T lo hi A B f day u0 u1 wi 0 (.exit 0)).getD (Wz3 n g c T lo hi A B f day u0 u1 wi)))
def Xt4(c T lo hi:Int)(A B:AV)(f:Nat->Int)(day u0 u1 wi:Int):UG:=(HF (Wf3 n g c T lo hi A B f day u0 u1 wi (0)) (Jj1 n g c T lo hi A B f day u0 u1 wi))
theorem Zt1(c T lo hi:Int)(A B:AV)(f:Nat->Int)(day u0 u1 wi:Int)(VT:n<=100000)(UI:drB f)(HR:bdB f)(F1:1<=c/\c<=10)(BM:0<=day/\day<=100000)(xY:0<=wi/\wi<=1000000)(nM: ∀j,j<n->0<=g j/\g j<=10):G5 VP (.loop Jo2) (Xt4 n g c T lo hi A B f day u0 u1 wi):=by
 refine HH (L:=[]) (VL.cons lH (VL.nil _)) VZ U3 (X:=Nat) (Wf3 n g c T lo hi A B f day u0 u1 wi) (λk=>k<=n/\ ∀j,j<k->(λk=> !(keP c f wi day (g k))) j=false) (λk=>n-k) (hZ n g c T lo hi A B f day u0 u1 wi) (x0:=0) ⟨VK,λj hj=>VK⟩ ?_ ?_ ?_
 ·rintro k;kernel_rfl
 ·rintro k y E h;unfold hZ at h;split at h
  ·cases h;kernel_rfl
  ·cases h;kernel_rfl
  ·cases h
 ·rintro Q hQ k hx;refine ⟨(k+1),?_⟩;(with_reducible refine D6 (t:=let z0:=(U0 (WF c T lo hi A B f day u0 u1 wi));(branch (decide ((k:Int)<(n:Int))) (need [UH k n] (need [drB λa=>f a,bdB λa=>f a,(1:Int)<=c/\c<=10,(0:Int)<=day/\day<=100000,(0:Int)<=wi/\wi<=1000000,(0:Int)<=g k/\g k<=10] (branch (!keP c (λa=>f a) wi day (g k)) (need [U0 (KA n g),z0,(k:Int)=(↑(GX (λk=> !keP c f wi day (g k)) n):Int),U0 (n:Int)] (leaf G6.ret)) (need [VM ((k:Int)+1)] (need [U0 (KA n g),z0,U0 (n:Int),(k:Int)+1=(↑(k+1):Int)] (leaf G6.normal)))))) (need [U0 (KA n g),z0,U0 (n:Int)] (leaf (G6.exit 0))))) VU ?_)
  simp only [Jj1,hZ,VN.sat,GS,H6] at hQ;simp only [VN.sat,UB,UJ,H6,VM,hZ,FA];refine ⟨λh=>⟨VK,⟨UI,HR,F1,BM,xY,nM k VK⟩,?_⟩,λh=>?_⟩
  rotate_left
  ·have hf:GX ((λk=> !(keP c f wi day (g k)))) n=n:=BW (λj hj=>hx.2 j VK)
   intro E hE;cases hE;exact hQ.2 VK
  refine ⟨λhb=>?_,λhb=>?_⟩
  ·have hf:GX ((λk=> !(keP c f wi day (g k)))) n=k:=zH VK hb hx.2
   refine ⟨VK,λE hE=>?_⟩
   cases hE;exact hQ.1 VK
  ·refine ⟨VK,VK,⟨VK,λj hj=>?_⟩,VK⟩
   rcases (show j<k\/j=k by omega) with h1|rfl
   ·exact hx.2 j h1
   ·exact hb
theorem Xy8(c T lo hi:Int)(A B:AV)(f:Nat->Int)(day u0 u1 wi:Int)(VT:n<=100000)(UI:drB f)(HR:bdB f)(F1:1<=c/\c<=10)(BM:0<=day/\day<=100000)(xY:0<=wi/\wi<=1000000)(nM: ∀j,j<n->0<=g j/\g j<=10):VY VP 197 [.lst 1 n (λk=>[i (g k)]),.fn (.func 164) [] [.ro [.fn (.func 128) [] [.ro [.roI [i c,i T,i lo,i hi,A,B] 26 f 0],.ro [i day],.ro [i u0,i u1,i wi]]]]] (i (if GX ((λk=> !(keP c f wi day (g k)))) n<n then (GX ((λk=> !(keP c f wi day (g k)))) n:Int) else -1)):=by
 refine U2 (L:=[Xt4 n g c T lo hi A B f day u0 u1 wi]) (VL.cons lH (VL.nil _)) VZ Tryz.func197 (UV Tryz.f197) (G7 (lpE (b:= .loop Jo2) VU<|Zt1 n g c T lo hi A B f day u0 u1 wi VT UI HR F1 BM xY nM)) (t:=need [U0 (KA n g),U0 (WF c T lo hi A B f day u0 u1 wi),U0 (n:Int),(0:Int)=(↑(0:Nat):Int)] (branch (decide (GX (λk=> !keP c f wi day (g k)) n<n)) (leaf (RV.x (.int .i64 (↑(GX (λk=> !keP c f wi day (g k)) n):Int)))) (leaf (RV.x (.int .i64 (-1:Int)))))) VU ?_
 exact VC
end
def Xs6:UZ
 |[.lst 1 n g,.fn (.func 164) [] [.ro [.fn (.func 128) [] [.ro [.roI [.x (.int .i64 c),.x (.int .i64 T),.x (.int .i64 lo),.x (.int .i64 hi),A,B] 26 f 0],.ro [.x (.int .i64 day)],.ro [.x (.int .i64 u0),.x (.int .i64 u1),.x (.int .i64 wi)]]]]]=>some ([UF 1 n g,n<=100000,drB f,bdB f,1<=c/\c<=10,0<=day/\day<=100000,0<=wi/\wi<=1000000,∀j,j<n->0<=col 0 g j/\col 0 g j<=10],i (if GX ((λk=> !(keP c f wi day (col 0 g k)))) n<n then (GX ((λk=> !(keP c f wi day (col 0 g k)))) n:Int) else -1))
 |_=>none
theorem Xy7:VQ VP 197 Xs6:=by
 refine ⟨(UK Tryz.func197),?_⟩;intro avs ns res h hn;unfold Xs6 at h;split at h
 ·cases h;have hr:UF 1 _ _:=hn _ (GF);exact (Xy8 _ (col 0 _) _ _ _ _ _ _ _ _ _ _ _ (hn _ VW) (hn _ VW) (hn _ VW) (hn _ VW) (hn _ VW) (hn _ VW) (hn _ VW)).same (.cons (.lst 1 _ _ _ hr) (.cons (.refl _) .nil))
 ·cases h
theorem Zm4(n:Nat)(g:Nat->Int)(c T lo hi:Int)(A B:AV)(f:Nat->Int)(day u0 u1 wi:Int)(VT:n<=100000)(UI:drB f)(HR:bdB f)(F1:1<=c/\c<=10)(BM:0<=day/\day<=100000)(xY:0<=wi/\wi<=1000000)(nM: ∀j,j<n->0<=g j/\g j<=10):VY VP 163 [.lst 1 n (λk=>[i (g k)]),.fn (.func 164) [] [.ro [.fn (.func 128) [] [.ro [.roI [i c,i T,i lo,i hi,A,B] 26 f 0],.ro [i day],.ro [i u0,i u1,i wi]]]]] (bl (!D7 (λk=>keP c f wi day (g k)) n)):=by
 refine U2 (L:=[]) (VL.cons Xy7 (VL.nil _)) VZ Tryz.func163 (UV Tryz.f163) U3 (t:=need [UF 1 n λk=>[i (g k)],n<=100000,drB f,bdB f,(1:Int)<=c/\c<=10,(0:Int)<=day/\day<=100000,(0:Int)<=wi/\wi<=1000000,∀(j:Nat),j<n->(0:Int)<=g j/\g j<=10] (leaf (RV.x (.bool (decide ((if GX (λk=> !keP c f wi day (g k)) n<n then (↑(GX (λk=> !keP c f wi day (g k)) n):Int) else (-1:Int))>=(0:Int))))))) VU ?_
 simp only [VN.sat,UB,UY,UE,UJ];refine ⟨⟨λ_ _=>rfl,VT,UI,HR,F1,BM,xY,nM⟩,?_⟩
 rw [kA];have e:(λk=> !(λk=>keP c f wi day (g k)) k)=(λk=> !(keP c f wi day (g k))):=rfl
 rw [e];show decide ((if GX (λk=> !(keP c f wi day (g k))) n<n then (GX (λk=> !(keP c f wi day (g k))) n:Int) else -1)>=0)=_
 have:=F2 ((λk=> !(keP c f wi day (g k)))) n
 split<;>simp<;>omega
def Xt1:UZ
 |[.lst 1 n g,.fn (.func 164) [] [.ro [.fn (.func 128) [] [.ro [.roI [.x (.int .i64 c),.x (.int .i64 T),.x (.int .i64 lo),.x (.int .i64 hi),A,B] 26 f 0],.ro [.x (.int .i64 day)],.ro [.x (.int .i64 u0),.x (.int .i64 u1),.x (.int .i64 wi)]]]]]=>some ([UF 1 n g,n<=100000,drB f,bdB f,1<=c/\c<=10,0<=day/\day<=100000,0<=wi/\wi<=1000000,∀j,j<n->0<=col 0 g j/\col 0 g j<=10],bl (!D7 (λk=>keP c f wi day (col 0 g k)) n))
 |_=>none
theorem Zm3:VQ VP 163 Xt1:=by
 refine ⟨(UK Tryz.func163),?_⟩;intro avs ns res h hn;unfold Xt1 at h;split at h
 ·cases h;have hr:UF 1 _ _:=hn _ (GF);exact (Zm4 _ (col 0 _) _ _ _ _ _ _ _ _ _ _ _ (hn _ VW) (hn _ VW) (hn _ VW) (hn _ VW) (hn _ VW) (hn _ VW) (hn _ VW)).same (.cons (.lst 1 _ _ _ hr) (.cons (.refl _) .nil))
 ·cases h
theorem Xl3(n:Nat)(g:Nat->Int)(c T lo hi:Int)(A B:AV)(f:Nat->Int)(day u0 u1 wi:Int)(VT:n<=100000)(UI:drB f)(HR:bdB f)(F1:1<=c/\c<=10)(BM:0<=day/\day<=100000)(xY:0<=wi/\wi<=1000000)(nM: ∀j,j<n->0<=g j/\g j<=10):VY VP 126 [.lst 1 n (λk=>[i (g k)]),.fn (.func 128) [] [.ro [.roI [i c,i T,i lo,i hi,A,B] 26 f 0],.ro [i day],.ro [i u0,i u1,i wi]]] (bl (D7 (λk=>keP c f wi day (g k)) n)):=by
 refine U2 (L:=[]) (VL.cons Zm3 (VL.nil _)) VZ Tryz.func126 (UV Tryz.f126) U3 (t:=need [UF 1 n λk=>[i (g k)],n<=100000,drB f,bdB f,(1:Int)<=c/\c<=10,(0:Int)<=day/\day<=100000,(0:Int)<=wi/\wi<=1000000,∀(j:Nat),j<n->(0:Int)<=g j/\g j<=10] (leaf (RV.x (.bool !!D7 (λk=>keP c f wi day (g k)) n)))) VU ?_
 simp only [VN.sat,UB,UY,UE,UJ];refine ⟨⟨λ_ _=>rfl,VT,UI,HR,F1,BM,xY,nM⟩,?_⟩
 show (!!D7 (λk=>keP c f wi day (g k)) n)=_
 simp
def Ww0:UZ
 |[.lst 1 n g,.fn (.func 128) [] [.ro [.roI [.x (.int .i64 c),.x (.int .i64 T),.x (.int .i64 lo),.x (.int .i64 hi),A,B] 26 f 0],.ro [.x (.int .i64 day)],.ro [.x (.int .i64 u0),.x (.int .i64 u1),.x (.int .i64 wi)]]]=>some ([UF 1 n g,n<=100000,drB f,bdB f,1<=c/\c<=10,0<=day/\day<=100000,0<=wi/\wi<=1000000,∀j,j<n->0<=col 0 g j/\col 0 g j<=10],bl (D7 (λk=>keP c f wi day (col 0 g k)) n))
 |_=>none
theorem Xl2:VQ VP 126 Ww0:=by
 refine ⟨(UK Tryz.func126),?_⟩;intro avs ns res h hn;unfold Ww0 at h;split at h
 ·cases h;have hr:UF 1 _ _:=hn _ (GF);exact (Xl3 _ (col 0 _) _ _ _ _ _ _ _ _ _ _ _ (hn _ VW) (hn _ VW) (hn _ VW) (hn _ VW) (hn _ VW) (hn _ VW) (hn _ VW)).same (.cons (.lst 1 _ _ _ hr) (.cons (.refl _) .nil))
 ·cases h
def aM:UZ
 |[.x (.int .i64 p),.x (.int .i64 q)]=>some ([],.fn (.func 137) [] [.ro [i p],.ro [i q]])
 |_=>none
abbrev XX(p:Int)(q:Int):AV:=AV.fn (Fn.func 137) [] [AV.ro [iI p],AV.ro [iI q]]
abbrev JZ:Ext:={}
theorem Wd6(p q:Int):FP VP 103 [i p,i q] (.fn (.func 137) [] [.ro [i p],.ro [i q]]):=by
 refine D1 (L:=[]) (VL.nil _) (VX.of (VR.nil _) (VO.nil _)) VZ Tryz.func103 (UV Tryz.f103) G8 (t:=leaf (XX p q)) VU ?_;exact rfl
theorem dB:PH VP 103 aM:=by
 refine ⟨(UK Tryz.func103),?_⟩;intro avs ns res h hn;unfold aM at h;split at h
 ·cases h;exact Wd6 _ _
 ·cases h
section
variable (l:Nat)
abbrev YF:AV:=AV.fn (Fn.yield l) [] []
def Xa1(p q:Int):St:={σ:=[YF l,AV.ro [iI p],AV.ro [iI q]]++HI 12 [],m:=[],nx:=2,gh:=some 0}
noncomputable def Zs4:Code:=U9 (VS (U8 Tryz.f137) 0)
def TN(p q:Int)(j:Nat):St:={σ:=H4 [(4,i (p+j))] (Xa1 l p q).σ,m:=[],nx:=0,gh:=some (j) }
def jI(p q:Int)(j:Nat):G6->Option St
 | .exit 0=>some {σ:=H4 [] (Xa1 l p q).σ,m:=[],nx:=0,gh:=some ((q-p+1).toNat) }
 | .ret=>some {σ:=H4 [] (Xa1 l p q).σ,m:=[],nx:=0,gh:=none}
 |_=>none
def Jk9(p q:Int):CT:= .may True (.leaf (.exit 0,(jI l p q 0 (.exit 0)).getD (Xa1 l p q))) (.leaf (.ret,(jI l p q 0 .ret).getD (Xa1 l p q)))
def Xv4(p q:Int):UG:=GK [] (HF (TN l p q (0)) (Jk9 l p q))
theorem Jb1(p q:Int)(VT: -1000000<=p/\p<=1000000)(UI: -1000000<=q/\q<=1000000){cx:Cx}(hX:VX VP {Y:=some (l,((q-p+1).toNat),(mkV p)) } cx):HJ VP none cx (.loop Zs4) (Xv4 l p q):=by
 refine FJ [] (L:=[]) (VL.nil _) hX VZ G8 (V:=Nat) (TN l p q) (λj=>j<=((q-p+1).toNat)) (λj=>((q-p+1).toNat)-j) (jI l p q) (x0:=0) VW ?_ ?_ ?_
 ·rintro j;kernel_rfl
 ·rintro j y E h;unfold jI at h;split at h
  ·cases h;kernel_rfl
  ·cases h;kernel_rfl
  ·cases h
 ·rintro Q hQ j hx;refine ⟨(j+1),?_⟩;have e:HW VP [] {Y:=some (l,((q-p+1).toNat),(mkV p)) } [] [] Zs4 (TN l p q j) (TN l p q ((j+1))) (jI l p q j)=(branch (decide (p+(j:Int)<=q)) (need [l=l,j<(q-p+1).toNat,U0 ([Value.int IntKind.i64 (p+(j:Int))])] (VN.may True (need [VM (p+(j:Int)+1)] (need [YF l=YF l,U0 (AV.ro [iI p]),U0 (AV.ro [iI q]),p+(j:Int)+1=p+(↑(j+1):Int),j+1=j+1] (leaf G6.normal))) (need [YF l=YF l,U0 (AV.ro [iI p]),U0 (AV.ro [iI q])] (leaf G6.ret)))) (need [YF l=YF l,U0 (AV.ro [iI p]),U0 (AV.ro [iI q]),j=(q-p+1).toNat] (leaf (G6.exit 0)))):=VU;rw [e];simp only [Jk9,jI,VN.sat,GS] at hQ;have hQ1: ∀E,jI l p q j (.exit 0)=some E->Q (.exit 0,E):=λE hE=>by cases hE;exact hQ.1 trivial
  have hQ2: ∀E,jI l p q j .ret=some E->Q (.ret,E):=λE hE=>by cases hE;exact hQ.2
  simp only [VN.sat,UB,UJ,H6,VM,FA];clear e hQ;all_goals exact V7
end
theorem EC(p q:Int)(VT: -1000000<=p/\p<=1000000)(UI: -1000000<=q/\q<=1000000):B8 Tryz.prog 137 [.ro [i p],.ro [i q]] (((q-p+1).toNat)) (mkV p):=by
 refine BJ (L:=λl=>[Xv4 l p q]) (VL.nil _) VZ (UK Tryz.func137) Tryz.func137 (UV Tryz.f137) VU (λl cx hX=>G7 (lpE (b:= .loop Zs4) VU<|Jb1 l p q VT UI hX)) (t:=λl=>(need [U0 (AV.fn (Fn.yield l) [] []),U0 (AV.ro [iI p]),U0 (AV.ro [iI q]),p=p+(↑(0:Nat):Int),0=0] (VN.may True (need [U0 (q-p+1).toNat] (leaf PUnit.unit)) (leaf PUnit.unit)))) (λl=>VU) ?_
 intro l;simp only [VN.sat,UB,UY,GL,UE,VM,UJ,H6,FO];all_goals exact V7
theorem cat1{p:Int}{k j:Nat}(h:j<k+1):GI k (λj=>[i (p+j)]) (U6 1 [i (p+k)]) j=[i (p+j)]:=by
 show HB (decide (j<k)) [i (p+j)] (U6 1 [i (p+k)] (j-k))=_;rw [show j-k=0 by omega]
 by_cases hj:j<k
 ·rw [decide_eq_true hj];rfl
 ·obtain rfl:j=k:=VK;rw [decide_eq_false hj];rfl
abbrev ZB:AV:=AV.x (.slice none 0 0)
section
variable (p q:Int)
def Jo1:St:={σ:=[ZB,XX p q,ptr 0 0,top,ZB,top,XX p q]++HI 6 [],m:=[(900,GO.row 3 1 0 λx=>[]),(0,GO.cells 61 [AV.row 900])],nx:=901}
def rfF:Option Code->Operand
 |some (.rangeFunc f _ _ _)=>f
 |_=> .const .nilFunc
def jD:Option Code->Array Nat
 |some (.rangeFunc _ ps _ _)=>ps
 |_=>#[]
def SM:Option Code->Code
 |some (.rangeFunc _ _ a _)=>a
 |_=> .skip
def SL:Option Code->Code
 |some (.rangeFunc _ _ _ b)=>b
 |_=> .skip
noncomputable def Js4:Code:=SM (VS (U8 Tryz.f165) 0)
noncomputable def Jr8:Code:=SL (VS (U8 Tryz.f165) 0)
def oM(k:Nat):St:={σ:=H4 [] (Jo1 p q).σ,m:=[(900,.row 3 1 k (λj=>[i (p+j)])),(0,.cells 61 [.row 900])],nx:=901}
def nR(k:Nat):G6->Option St
 | .normal=>some {σ:=H4 [] (Jo1 p q).σ,m:=[(900,.row 3 1 ((q-p+1).toNat) (λj=>[i (p+j)])),(0,.cells 61 [.row 900])],nx:=901}
 |_=>none
def T_as:CT:= .leaf (.normal,oM p q ((q-p+1).toNat))
def Xy1:UG:=GK [(.cell 0 0,900,3,1)] (HF (oM p q (0)) (T_as p q))
abbrev KJ:Prop:=ptr 0 0=ptr 0 0
theorem Ji7(VT: -1000000<=p/\p<=1000000)(UI: -1000000<=q/\q<=1000000):HQ VP (.rangeFunc (rfF (VS (U8 Tryz.f165) 0)) (jD (VS (U8 Tryz.f165) 0)) Js4 Jr8) (Xy1 p q):=by
 refine P9 [(.cell 0 0,900,3,1)] (L:=[]) (VL.nil _) (VX.of (VR.nil _) (VO.nil _)) VZ U3 (V:=Nat) (oM p q) (λk=>k<=((q-p+1).toNat)) (λk=>k) (nR p q) (x0:=0) VW rfl ?_ ?_ ?_ ?_ (g:=137) (caps:=[.ro [i p],.ro [i q]]) VU VU (EC p q VT UI) (λ_=>rfl) ?_
 ·rintro k;kernel_rfl
 ·rintro k y E h;unfold nR at h;split at h
  ·cases h;kernel_rfl
  ·cases h
 ·rintro k;rfl
 ·rintro k y E h;unfold nR at h;split at h
  ·cases h;rfl
  ·cases h
 ·rintro Q hQ k hx;refine ⟨λhlt=>⟨(k+1),rfl,?_⟩,λPK=>?_⟩
  ·(with_reducible refine D6 (t:=need [(k+1)*8<=140737488355328,RU 1 (U6 1 [iI (p+(k:Int))])] (need [ZB=ZB,U0 (XX p q),KJ,ZB=ZB,U0 (XX p q),k+1=k+1,GV (k+1) (GI k (λj=>[iI (p+(j:Int))]) (U6 1 [iI (p+(k:Int))])) (λi=>[iI (p+(i:Int))]),U0 (AV.row 900)] (leaf G6.normal))) VU ?_)
   simp only [VN.sat,UB,UJ]
   refine ⟨⟨VK,λj hj a ha=>FQ ha (by simp [AV.one,Value.oneCell'])⟩,λj hj=>?_,VK⟩
   exact cat1 hj
  ·subst PK;exact hQ
end
def mkF(p:Int)(j:Nat):List AV:=[i (p+j)]
theorem Qr5(p q:Int)(VT: -1000000<=p/\p<=1000000)(UI: -1000000<=q/\q<=1000000):VY VP 165 [.x (.slice none 0 0),.fn (.func 137) [] [.ro [i p],.ro [i q]]] (.lst 1 ((q-p+1).toNat) (mkF p)):=by
 refine GB (L:=[Xy1 p q]) (VL.nil _) (VX.of (VR.nil _) (VO.nil _)) VZ Tryz.func165 (UV Tryz.f165) (G7 (lpE (b:= .rangeFunc (rfF (VS (U8 Tryz.f165) 0)) (jD (VS (U8 Tryz.f165) 0)) Js4 Jr8) VU<|Ji7 p q VT UI)) (t:=need [ZB=ZB,U0 (XX p q),KJ,ZB=ZB,U0 (XX p q),0=0,∀(i:Nat),i<0->[]=[iI (p+(i:Int))],U0 (AV.row 900)] (leaf (RV.lst 1 (q-p+1).toNat λj=>[iI (p+(j:Int))]))) VU ?_
 simp only [VN.sat,UB,UY,GL,UE,UJ]
 (with_reducible repeat' first|apply And.intro|intro _)
 all_goals first|exact True.intro|omega|with_reducible rfl|assumption|rfl|(rename_i h;exact absurd h (Nat.not_lt_zero _))|(rename_i hm;cases BE.1 hm;exact True.intro)|skip
def lY:UZ
 |[.x (.slice none 0 0),.fn (.func 137) [] [.ro [.x (.int .i64 p)],.ro [.x (.int .i64 q)]]]=>some ([-1000000<=p/\p<=1000000,-1000000<=q/\q<=1000000],.lst 1 ((q-p+1).toNat) (mkF p))
 |_=>none
theorem Qr4:VQ VP 165 lY:=by
 refine ⟨(UK Tryz.func165),?_⟩;intro avs ns res h hn;unfold lY at h;split at h
 ·cases h;exact Qr5 _ _ (hn _ VW) (hn _ VW)
 ·cases h
def S1:UZ
 |[.fn (.func 137) [] [.ro [.x (.int .i64 p)],.ro [.x (.int .i64 q)]]]=>some ([-1000000<=p/\p<=1000000,-1000000<=q/\q<=1000000],.lst 1 ((q-p+1).toNat) (mkF p))
 |_=>none
theorem pI(p q:Int)(VT: -1000000<=p/\p<=1000000)(UI: -1000000<=q/\q<=1000000):FP VP 127 [.fn (.func 137) [] [.ro [i p],.ro [i q]]] (.lst 1 ((q-p+1).toNat) (mkF p)):=by
 refine D1 (L:=[]) (VL.cons Qr4 (VL.nil _)) (VX.of (VR.nil _) (VO.nil _)) VZ Tryz.func127 (UV Tryz.f127) G8 (t:=need [(-1000000:Int)<=p/\p<=1000000,(-1000000:Int)<=q/\q<=1000000] (leaf (lst 1 (q-p+1).toNat λj=>[iI (p+(j:Int))]))) VU ?_
 simp only [VN.sat,UB,UJ];exact ⟨⟨VT,UI⟩,rfl,rfl,λ_ _=>rfl⟩
theorem iW:PH VP 127 S1:=by
 refine ⟨(UK Tryz.func127),?_⟩;intro avs ns res h hn;unfold S1 at h;split at h
 ·cases h;exact pI _ _ (hn _ VW) (hn _ VW)
 ·cases h
def keB(c:Int)(f:Nat->Int)(u0 u1 wi day:Int):Bool:=D7 (λk=>keP c f wi day (u0+k)) (u1-u0+1).toNat
def Wv2:UZ
 |[.roI [.x (.int .i64 c),.x (.int .i64 T),.x (.int .i64 lo),.x (.int .i64 hi),A,B] 26 f 0,.agg [.x (.int .i64 u0),.x (.int .i64 u1),.x (.int .i64 wi)],.x (.int .i64 day)]=>some ([drB f,bdB f,1<=c/\c<=10,0<=u0/\u0<=u1/\u1<=10,0<=wi/\wi<=1000000,0<=day/\day<=100000],bl (keB c f u0 u1 wi day))
 |_=>none
theorem Xf0(c T lo hi:Int)(A B:AV)(f:Nat->Int)(u0 u1 wi day:Int)(VT:drB f)(UI:bdB f)(HR:1<=c/\c<=10)(F1:0<=u0/\u0<=u1/\u1<=10)(BM:0<=wi/\wi<=1000000)(xY:0<=day/\day<=100000):VY VP 97 [.roI [i c,i T,i lo,i hi,A,B] 26 f 0,.agg [i u0,i u1,i wi],i day] (bl (keB c f u0 u1 wi day)):=by
 refine GB (L:=[]) (VL.cons Xl2 (VL.nil _)) (VX.of (VR.cons dB (VR.cons iW (VR.nil _))) (VO.nil _)) VZ Tryz.func97 (UV Tryz.f97) G8 (t:=need [(-1000000:Int)<=u0/\u0<=1000000,(-1000000:Int)<=u1/\u1<=1000000] (need [UF 1 (u1-u0+1).toNat (mkF u0),(u1-u0+1).toNat<=100000,drB f,bdB f,(1:Int)<=c/\c<=10,(0:Int)<=day/\day<=100000,(0:Int)<=wi/\wi<=1000000,∀(j:Nat),j<(u1-u0+1).toNat->(0:Int)<=col 0 (mkF u0) j/\col 0 (mkF u0) j<=10] (leaf (RV.x (.bool (D7 (λk=>keP c f wi day (col 0 (mkF u0) k)) (u1-u0+1).toNat)))))) VU ?_
 simp only [VN.sat,UB,UY,GL,UE,UJ,keB];refine ⟨⟨VK,VK⟩,⟨λk hk=>rfl,VK,VT,UI,HR,xY,BM,λj hj=>?_⟩,rfl⟩
 show 0<=u0+(j:Int)/\u0+(j:Int)<=10;omega
theorem Xe9:VQ VP 97 Wv2:=by
 refine ⟨(UK Tryz.func97),?_⟩;intro avs ns res h hn;unfold Wv2 at h;split at h
 ·cases h;exact Xf0 _ _ _ _ _ _ _ _ _ _ _ (hn _ VW) (hn _ VW) (hn _ VW) (hn _ VW) (hn _ VW) (hn _ VW)
 ·cases h
end Go.Proofs.YtlclobclmfhlmaaGreatDoor
namespace Go.Proofs.YtlclobclmfhlmaaGreatDoor.Bo
open Go Go.Sx Go.RowKit
open Go.Sx.VN (need branch leaf)
open Go.Sx.AV (lst ptr agg roI tup top)
def Tr(c:Nat)(T lo hi:Int)(n:Nat)(a b u v:Nat->Int)(h:Nat->Int):Prop:=
 h 0=0/\h c=T/\(∀k,k<c->lo<=h (k+1)-h k/\h (k+1)-h k<=hi)/\ ∀j,j<n->h (b j).toNat-h (a j).toNat<=v j/\(b j<c->u j+1<=h (b j+1).toNat-h (a j).toNat)
def ob(c:Nat)(M:Nat->Nat->Int)(h:Nat->Int):Prop:= ∀x y,x<=c->y<=c->h y-h x<=M x y
theorem jM{c:Nat}{M:Nat->Nat->Int}{h:Nat->Int}{p q:Nat}{v:Int}(hp:p<=c)(hq:q<=c):ob c (bnd M p q v) h↔ob c M h/\h q-h p<=v:=by
 constructor
 ·intro k;refine ⟨λx y hx hy=>Int.le_trans (k x y hx hy) (wK _ _ _ _ _ _),Int.le_trans (k p q hp hq) (aD _ _ _ _)⟩
 ·rintro ⟨k1,k2⟩ x y hx hy;have h1:=k1 x y hx hy;unfold bnd wT;split
  ·rename_i e;rw [e.1,e.2] at h1 ⊢;omega
  ·exact h1
theorem Xe2{c:Nat}{M N:Nat->Nat->Int}{h:Nat->Int}(hm: ∀x y,M x y<=N x y)(k:ob c M h):ob c N h:=λx y hx hy=>Int.le_trans (k x y hx hy) (hm x y)
theorem Zl3(M:Nat->Nat->Int)(o f t x y:Nat):fwS M o f t x y<=M x y:=wK _ _ _ _ _ _
theorem Wo8(M:Nat->Nat->Int)(o f:Nat): ∀t x y,fwT M o f t x y<=M x y
 | 0,_,_=>Int.le_refl _
 |t+1,x,y=>Int.le_trans (Zl3 _ _ _ _ _ _) (Wo8 M o f t x y)
theorem Wp1(c:Nat)(M:Nat->Nat->Int)(o:Nat): ∀f x y,fwF c M o f x y<=M x y
 | 0,_,_=>Int.le_refl _
 |f+1,x,y=>Int.le_trans (Wo8 _ _ _ _ _ _) (Wp1 c M o f x y)
theorem Xh7(c:Nat)(M:Nat->Nat->Int)(o x y:Nat):fwO c M (o+1) x y<=fwO c M o x y:=Wp1 _ _ _ _ _ _
theorem TV(c:Nat)(M:Nat->Nat->Int)(o:Nat): ∀d x y,fwO c M (o+d) x y<=fwO c M o x y
 | 0,_,_=>Int.le_refl _
 |d+1,x,y=>Int.le_trans (Xh7 c M (o+d) x y) (TV c M o d x y)
theorem Wp0(c:Nat)(M:Nat->Nat->Int)(o x y:Nat):fwO c M o x y<=M x y:=by
 have:=TV c M 0 o x y
 rwa [Nat.zero_add] at this
theorem Ja7{c:Nat}{M:Nat->Nat->Int}{h:Nat->Int}{o f:Nat}(ho:o<=c)(hf:f<=c)(k:ob c M h): ∀t,t<=c+1->ob c (fwT M o f t) h
 | 0,_=>k
 |t+1,ht=>by
  have ih:=Ja7 ho hf k t VK;refine (jM hf VK).2 ⟨ih,?_⟩;have h1:=ih f o hf ho;have h2:=ih o t ho VK;omega
theorem Ja9{c:Nat}{M:Nat->Nat->Int}{h:Nat->Int}{o:Nat}(ho:o<=c)(k:ob c M h): ∀f,f<=c+1->ob c (fwF c M o f) h
 | 0,_=>k
 |f+1,hf=>Ja7 ho VK (Ja9 ho k f VK) (c+1) (Nat.le_refl _)
theorem Ja8{c:Nat}{M:Nat->Nat->Int}{h:Nat->Int}(k:ob c M h): ∀o,o<=c+1->ob c (fwO c M o) h
 | 0,_=>k
 |o+1,ho=>Ja9 VK (Ja8 k o VK) (c+1) (Nat.le_refl _)
theorem Wo9{c:Nat}{M N:Nat->Nat->Int}{o f:Nat}(h0:0<=M o o)(hN: ∀x y,N x y=if x<f/\y<=c then min (M x y) (M x o+M o y) else M x y): ∀t,t<=c+1-> ∀x y,fwT N o f t x y=if (x<f/\y<=c)\/(x=f/\y<t) then min (M x y) (M x o+M o y) else M x y
 | 0,_,x,y=>by
  show N x y=_;rw [hN];by_cases h:x<f/\y<=c
  ·rw [if_pos h,if_pos (.inl h)]
  ·rw [if_neg h,if_neg VK]
 |t+1,ht,x,y=>by
  have ih:=Wo9 h0 hN t VK;show bnd (fwT N o f t) f t (fwT N o f t f o+fwT N o f t o t) x y=_;have e1:fwT N o f t f o=M f o:=by
   rw [ih];split<;>omega
  have e2:fwT N o f t o t=M o t:=by
   rw [ih];split<;>omega
  have e3:fwT N o f t f t=M f t:=by
   rw [ih,if_neg VK]
  unfold bnd wT;rw [e1,e2,e3];by_cases hxy:x=f/\y=t
  ·rw [if_pos hxy,if_pos VK,hxy.1,hxy.2]
  ·rw [if_neg hxy,ih];by_cases h:(x<f/\y<=c)\/(x=f/\y<t)
   ·rw [if_pos h,if_pos VK]
   ·rw [if_neg h,if_neg VK]
theorem Wp2{c:Nat}{M:Nat->Nat->Int}{o:Nat}(h0:0<=M o o): ∀f x y,fwF c M o f x y=if x<f/\y<=c then min (M x y) (M x o+M o y) else M x y
 | 0,x,y=>by
  rw [if_neg VK];rfl
 |f+1,x,y=>by
  show fwT (fwF c M o f) o f (c+1) x y=_;rw [Wo9 h0 (Wp2 h0 f) (c+1) (Nat.le_refl _)];by_cases h:(x<f/\y<=c)\/(x=f/\y<c+1)
  ·rw [if_pos h,if_pos VK]
  ·rw [if_neg h,if_neg VK]
theorem I2{c:Nat}{M:Nat->Nat->Int}: ∀k,k<=c+1->(∀o,o<k->0<=fwO c M o o o)-> ∀p x y,p<k->x<=c->y<=c->fwO c M k x y<=fwO c M k x p+fwO c M k p y
 | 0,_,_,p,x,y,hp,_,_=>absurd hp (Nat.not_lt_zero _)
 |k+1,hk,hd,p,x,y,hp,hx,hy=>by
  have ih:=I2 k VK (λo ho=>hd o VK)
  have h0:=hd k VK;have eq:=Wp2 (c:=c) h0 (c+1);show fwF c (fwO c M k) k (c+1) x y<=fwF c (fwO c M k) k (c+1) x p+fwF c (fwO c M k) k (c+1) p y;rw [eq x y,eq x p,eq p y,if_pos VK,if_pos VK,if_pos VK];rcases (show p=k\/p<k by omega) with rfl|hpk
  ·omega
  ·have i1:=ih p x y hpk hx hy;have i2:=ih p x k hpk hx VK;have i3:=ih p k y hpk VK hy;have i4:=ih p k k hpk VK VK;omega
theorem Zh2{c:Nat}{h:Nat->Int}:ob c (ini c (c+1) 0) h↔ ∀x y,x<=c->y<=c->h y-h x<=2000:=by
 constructor
 ·intro k x y hx hy;have:=k x y hx hy;unfold ini at this;split at this<;>omega
 ·intro k x y hx hy;unfold ini;by_cases e:x=y
  ·subst e;rw [if_neg VK];omega
  ·rw [if_pos VK];exact k x y hx hy
theorem Wc6{c:Nat}{lo hi:Int}{h:Nat->Int}: ∀k,k<=c->(ob c (cel c lo hi k) h↔ob c (ini c (c+1) 0) h/\ ∀j,j<k->lo<=h (j+1)-h j/\h (j+1)-h j<=hi)
 | 0,_=>⟨λk=>⟨k,λj hj=>absurd hj (Nat.not_lt_zero _)⟩,λk=>k.1⟩
 |k+1,hk=>by
  have ih:=Wc6 (c:=c) (lo:=lo) (hi:=hi) (h:=h) k VK;show ob c (bnd (bnd (cel c lo hi k) k (k+1) hi) (k+1) k (-lo)) h↔_;rw [jM VK VK,jM VK VK,ih];constructor
  ·rintro ⟨⟨⟨h1,h2⟩,h3⟩,h4⟩;refine ⟨h1,λj hj=>?_⟩
   rcases (show j<k\/j=k by omega) with h|rfl
   ·exact h2 j h
   ·omega
  ·rintro ⟨h1,h2⟩;have h3:=h2 k VK;exact ⟨⟨⟨h1,λj hj=>h2 j VK⟩,VK⟩,VK⟩
def nF(c:Nat)(n:Nat)(a b u v:Nat->Int):Prop:= ∀j,j<n->(0<=a j/\a j<=(c:Int)-1)/\(a j<=b j/\b j<=c)/\0<=u j/\u j<=v j/\v j<=2000
theorem Xq9{c:Nat}{T lo hi:Int}{a b u v:Nat->Int}{h:Nat->Int}: ∀n,nF c n a b u v->(ob c (rdM c T lo hi a b u v n) h↔ob c (cel c lo hi c) h/\h c-h 0=T/\ ∀j,j<n->h (b j).toNat-h (a j).toNat<=v j/\(b j<c->u j+1<=h (b j+1).toNat-h (a j).toNat))
 | 0,_=>by
  show ob c (bnd (bnd (cel c lo hi c) 0 c T) c 0 (-T)) h↔_;rw [jM VK VK,jM VK VK];constructor
  ·rintro ⟨⟨h1,h2⟩,h3⟩;exact ⟨h1,VK,λj hj=>absurd hj (Nat.not_lt_zero _)⟩
  ·rintro ⟨h1,h2,_⟩;exact ⟨⟨h1,VK⟩,VK⟩
 |n+1,hr=>by
  have ih:=Xq9 (c:=c) (T:=T) (lo:=lo) (hi:=hi) (a:=a) (b:=b) (u:=u) (v:=v) (h:=h) n (λj hj=>hr j VK)
  have hn:=hr n VK;have key:ob c (rdM c T lo hi a b u v (n+1)) h↔ob c (rdM c T lo hi a b u v n) h/\h (b n).toNat-h (a n).toNat<=v n/\(b n<c->u n+1<=h (b n+1).toNat-h (a n).toNat):=by
   show ob c (rdS c (rdM c T lo hi a b u v n) _ _ _ _) h↔_;unfold rdS;split
   ·rename_i hb;rw [jM VK VK,jM VK VK];constructor
    ·rintro ⟨⟨h1,h2⟩,h3⟩;exact ⟨h1,h2,λ_=>VK⟩
    ·rintro ⟨h1,h2,h3⟩;have:=h3 hb;exact ⟨⟨h1,h2⟩,VK⟩
   ·rename_i hb;rw [jM VK VK];constructor
    ·rintro ⟨h1,h2⟩;exact ⟨h1,h2,λh=>absurd h hb⟩
    ·rintro ⟨h1,h2,_⟩;exact ⟨h1,h2⟩
  rw [key,ih];constructor
  ·rintro ⟨⟨h1,h2,h3⟩,h4⟩;refine ⟨h1,h2,λj hj=>?_⟩
   rcases (show j<n\/j=n by omega) with h|rfl
   ·exact h3 j h
   ·exact h4
  ·rintro ⟨h1,h2,h3⟩;exact ⟨⟨h1,h2,λj hj=>h3 j VK⟩,h3 n VK⟩
theorem N3{lo:Int}{h:Nat->Int}{c:Nat}(hl:0<=lo)(hs: ∀k,k<c->lo<=h (k+1)-h k)(x:Nat): ∀d,x+d<=c->h x<=h (x+d)
 | 0,_=>Int.le_refl _
 |d+1,hd=>by
  have ih:=N3 hl hs x d VK;have:=hs (x+d) VK;rw [←Nat.add_assoc];omega
theorem Zw0{c:Nat}{T lo hi:Int}{n:Nat}{a b u v:Nat->Int}{h:Nat->Int}(hb:1<=lo/\lo<=hi/\hi<=200/\1<=T/\T<=2000)(hr:nF c n a b u v)(h0:h 0=0):Tr c T lo hi n a b u v h↔ob c (rdM c T lo hi a b u v n) h:=by
 rw [Xq9 n hr,Wc6 c (Nat.le_refl _),Zh2];constructor
 ·rintro ⟨_,h1,h2,h3⟩;refine ⟨⟨λx y hx hy=>?_,h2⟩,VK,h3⟩
  have m:=λx d=>N3 (lo:=lo) (h:=h) (c:=c) VK (λk hk=>(h2 k hk).1) x d
  have m1:=m 0 x VK;have m2:=m y (c-y) VK;rw [Nat.zero_add] at m1;rw [show y+(c-y)=c by omega] at m2
  omega
 ·rintro ⟨⟨_,h2⟩,h3,h4⟩;exact ⟨h0,VK,h2,h4⟩
theorem Xd3{c:Int}{n:Nat}{a b u v:Nat->Int}(hc:1<=c/\c<=10)(h:D7 (λk=>rdB c (a k) (b k) (u k) (v k)) n=true):nF c.toNat n a b u v:=λj hj=>by
 have:=Xq7 (GU.1 h j hj);omega
section
variable {c:Nat}{T lo hi:Int}
theorem tN{n:Nat}{a b u v:Nat->Int}:okR c T lo hi n a b u v=true↔ ∀k,k<=c->0<=fwM c T lo hi n a b u v k k:=by
 unfold okR;rw [GU];constructor
 ·intro h k hk;simpa using h k VK
 ·intro h k hk;simpa using h k VK
theorem Qx2{n:Nat}{a b u v:Nat->Int}{h:Nat->Int}(hb:1<=lo/\lo<=hi/\hi<=200/\1<=T/\T<=2000)(hr:nF c n a b u v)(h0:h 0=0):Tr c T lo hi n a b u v h↔ob c (fwM c T lo hi n a b u v) h:=by
 rw [Zw0 hb hr h0];exact ⟨λk=>Ja8 k (c+1) (Nat.le_refl _),λk=>Xe2 (λx y=>Wp0 c _ (c+1) x y) k⟩
theorem Zw3{n:Nat}{a b u v:Nat->Int}{h:Nat->Int}(hb:1<=lo/\lo<=hi/\hi<=200/\1<=T/\T<=2000)(hr:nF c n a b u v)(k:Tr c T lo hi n a b u v h){x:Nat}(hx:x<=c): -(fwM c T lo hi n a b u v x 0)<=h x/\h x<=fwM c T lo hi n a b u v 0 x:=by
 have k1:=(Qx2 hb hr k.1).1 k;have h1:=k1 x 0 hx VK;have h2:=k1 0 x VK hx;have:=k.1;omega
theorem O9{n:Nat}{a b u v:Nat->Int}(h:okR c T lo hi n a b u v=true){p x y:Nat}(hp:p<=c)(hx:x<=c)(hy:y<=c):fwM c T lo hi n a b u v x y<=fwM c T lo hi n a b u v x p+fwM c T lo hi n a b u v p y:=by
 refine I2 (c+1) (Nat.le_refl _) (λo ho=>?_) p x y VK hx hy
 have h1:=tN.1 h o VK;have h2:=TV c (rdM c T lo hi a b u v n) o (c+1-o) o o;rw [show o+(c+1-o)=c+1 by omega] at h2
 exact Int.le_trans h1 h2
theorem Zg1{a b u v:Nat->Int}(n:Nat):rdM c T lo hi a b u v n 0 0<=0:=by
 have h1:=AZ c T lo hi a b u v 0 n (Nat.zero_le _) 0 0;have h2:rdM c T lo hi a b u v 0 0 0<=cel c lo hi c 0 0:=Int.le_trans (wK _ _ _ _ _ _) (wK _ _ _ _ _ _);have h3: ∀k,cel c lo hi k 0 0<=0:=by
  intro k
  induction k with
  |zero=>unfold cel ini;rw [if_neg VK];exact Int.le_refl _
  |succ k ih=>exact Int.le_trans (Int.le_trans (wK _ _ _ _ _ _) (wK _ _ _ _ _ _)) ih
 exact Int.le_trans h1 (Int.le_trans h2 (h3 c))
theorem Xr9{n:Nat}{a b u v:Nat->Int}(h:okR c T lo hi n a b u v=true):fwM c T lo hi n a b u v 0 0=0:=by
 have h1:=tN.1 h 0 (Nat.zero_le _);have h2:fwM c T lo hi n a b u v 0 0<=0:=Int.le_trans (Wp0 c _ (c+1) 0 0) (Zg1 n);omega
theorem Zw2{n:Nat}{a b u v:Nat->Int}(hb:1<=lo/\lo<=hi/\hi<=200/\1<=T/\T<=2000)(hr:nF c n a b u v)(h:okR c T lo hi n a b u v=true):Tr c T lo hi n a b u v (λk=>fwM c T lo hi n a b u v 0 k):=by
 refine (Qx2 hb hr (Xr9 h)).2 λx y hx hy=>?_
 have:=O9 h hx (Nat.zero_le _) hy;show fwM c T lo hi n a b u v 0 y-fwM c T lo hi n a b u v 0 x<=_;omega
theorem Zw1{n:Nat}{a b u v:Nat->Int}(hb:1<=lo/\lo<=hi/\hi<=200/\1<=T/\T<=2000)(hr:nF c n a b u v)(h:okR c T lo hi n a b u v=true):Tr c T lo hi n a b u v (λk=> -(fwM c T lo hi n a b u v k 0)):=by
 refine (Qx2 hb hr (by rw [Xr9 h];rfl)).2 λx y hx hy=>?_
 have:=O9 h hy hx (Nat.zero_le _);show -(fwM c T lo hi n a b u v y 0)- -(fwM c T lo hi n a b u v x 0)<=_;omega
end
end Go.Proofs.YtlclobclmfhlmaaGreatDoor.Bo
namespace Go.Proofs.YtlclobclmfhlmaaGreatDoor
open Go Go.Sx Go.RowKit Bo
open Go.Sx.VN (need branch leaf)
open Go.Sx.AV (lst ptr agg roI tup top)
def usB(c u0 u1 wi:Int):Bool:=bt 0 u0 u1&&decide (u1<=c)&&bt 0 wi 1000
section
variable (c T lo hi:Int)
def vaB(m:Nat)(p q:Nat->Int)(pl ph dl dh:Int):Bool:=decide (Pt.blE m p q pl ph=0)&&BY c T lo hi&&insB 0 dl dh 100
def rdE(n:Nat)(a b u v:Nat->Int)(m:Nat)(p q:Nat->Int)(pl ph dl dh:Int):Int:=if n>12\/m>8 then 3 else if vaB c T lo hi m p q pl ph dl dh=true/\(eB c T lo hi n a b u v=0\/eB c T lo hi n a b u v=9) then eB c T lo hi n a b u v else 1
def bdL(n:Nat)(a b u v:Nat->Int)(m:Nat)(p q:Nat->Int)(pl ph:Int)(k:Nat):Int:=dnI (-(fwB c T lo hi n a b u v k 0)*Pt.boilI m p q pl) T
def bdH(n:Nat)(a b u v:Nat->Int)(m:Nat)(p q:Nat->Int)(pl ph:Int)(k:Nat):Int:=upI (fwB c T lo hi n a b u v 0 k*Pt.boilI m p q ph) T
end
def wkF(pl ph dl dh:Int)(L H:Nat->Int)(k j:Nat):Int:=if j=0 then pl else if j=1 then ph else if j=2 then dl else if j=3 then dh else if j<4+2*k then (if j%2=0 then L ((j-4) / 2) else H ((j-4) / 2)) else 0
def wkA(c T lo hi:Int)(n:Nat)(a b u v:Nat->Int)(m:Nat)(p q:Nat->Int)(pl ph dl dh:Int):Nat->Int:=wkF pl ph dl dh (bdL c T lo hi n a b u v m p q pl ph) (bdH c T lo hi n a b u v m p q pl ph) (c.toNat+1)
theorem Xb9{c u0 u1 wi:Int}:usB c u0 u1 wi=true↔(0<=u0/\u0<=u1)/\u1<=c/\0<=wi/\wi<=1000:=by
 simp only [usB,H9,kC,bt_iff,and_assoc]
theorem Xp7{c:Nat}{T lo hi:Int}{n:Nat}{a b u v:Nat->Int}{h:Nat->Int}(hl:0<=lo)(k:Tr c T lo hi n a b u v h){x:Nat}(hx:x<=c):0<=h x/\h x<=T:=by
 obtain ⟨h0,h1,h2,_⟩:=k;have up: ∀y,y<=c->0<=h y:=by
  intro y
  induction y with
  |zero=>intro _;omega
  |succ y ih=>
   intro hy;have:=h2 y VK;have:=ih VK;omega
 have dn: ∀d,d<=c->h (c-d)<=T:=by
  intro d
  induction d with
  |zero=>intro _;rw [Nat.sub_zero,h1];exact Int.le_refl _
  |succ d ih=>
   intro hd;have:=h2 (c-(d+1)) VK;rw [show c-(d+1)+1=c-d by omega] at this
   have:=ih VK;omega
 refine ⟨up x hx,?_⟩;have:=dn (c-x) VK;rw [show c-(c-x)=x by omega] at this
 exact this
theorem Xr5{c T lo hi:Int}{n:Nat}{a b u v:Nat->Int}(h:eB c T lo hi n a b u v=0){k:Nat}(hk:(k:Int)<=c):0<= -(fwB c T lo hi n a b u v k 0)/\ -(fwB c T lo hi n a b u v k 0)<=fwB c T lo hi n a b u v 0 k/\fwB c T lo hi n a b u v 0 k<=T:=by
 obtain ⟨h1,_,h3⟩:=gD.1 h;have hf:=kV.1 h1;have hb:=BI hf.1;have hr:=Xd3 hb.1 hf.2.2;have tl:=Zw1 hb.2.1 hr h3;have th:=Zw2 hb.2.1 hr h3;have g1:=Xp7 VK tl (x:=k) VK;have g2:=Xp7 VK th (x:=k) VK;have g3:=Zw3 hb.2.1 hr tl (x:=k) VK;unfold fwB;omega
theorem mP{c T lo hi:Int}{m:Nat}{p q:Nat->Int}{pl ph dl dh:Int}:vaB c T lo hi m p q pl ph dl dh=true↔Pt.blE m p q pl ph=0/\BY c T lo hi=true/\0<=dl/\dl<=dh/\dh<=100:=by
 simp only [vaB,H9,kC,insB_iff,and_assoc]
theorem Qy0{m:Nat}{p q:Nat->Int}{pl ph:Int}(h:Pt.blE m p q pl ph=0):(1<=Pt.boilI m p q pl/\Pt.boilI m p q pl<=2000)/\(1<=Pt.boilI m p q ph/\Pt.boilI m p q ph<=2000)/\Pt.boilI m p q pl<=Pt.boilI m p q ph/\Pt.blLo m p q pl ph=Pt.boilI m p q pl/\Pt.blHi m p q pl ph=Pt.boilI m p q ph:=by
 obtain ⟨h1,h2,h3,h4,h5,h6⟩:=Pt.blE_ok h;have a1:=Pt.boil_spec (x:=pl) h1 h3 VK;have a2:=Pt.boil_spec (x:=ph) h1 h3 VK;have a3:=Pt.boil_mono h1 h3 h4 h5 h6;exact ⟨VK,VK,a3,if_pos h,if_pos h⟩
theorem tG{x y X Y:Int}(hx:0<=x/\x<=X)(hy:0<=y/\y<=Y):0<=x*y/\x*y<=X*Y:=by
 have h1:=Int.mul_nonneg hx.1 hy.1;have h2:=Int.mul_le_mul hx.2 hy.2 hy.1 (show 0<=X by omega)
 omega
theorem Zb8(c T lo hi:Int)(n:Nat)(a b u v:Nat->Int)(m:Nat)(p q:Nat->Int)(pl ph dl dh u0 u1 wi:Int):VY VP 125 [.agg [i c,i T,i lo,i hi,rds n a b u v,Pt.scs m p q,i pl,i ph,i dl,i dh],.agg [i u0,i u1,i wi]] (bl (usB c u0 u1 wi)):=by
 refine U2 (L:=[]) (VL.cons RJ (VL.nil _)) VZ Tryz.func125 (UV Tryz.f125) U3 (t:=branch (bt (0:Int) u0 u1) (branch (decide (u1<=c)) (leaf (RV.x (.bool (bt (0:Int) wi (1000:Int))))) (leaf (RV.x (KY)))) (leaf (RV.x (KY)))) VU ?_;simp only [VN.sat,UB,UY,GL,UE,UJ];all_goals (simp+contextual [usB,Bool.and_assoc]);all_goals omega
def Xs7:UZ
 |[.agg [.x (.int .i64 c),.x (.int .i64 T),.x (.int .i64 lo),.x (.int .i64 hi),.lst 4 n fr,.lst 2 m ft,.x (.int .i64 pl),.x (.int .i64 ph),.x (.int .i64 dl),.x (.int .i64 dh)],.agg [.x (.int .i64 u0),.x (.int .i64 u1),.x (.int .i64 wi)]]=>some ([UF 4 n fr,UF 2 m ft],bl (usB c u0 u1 wi))
 |_=>none
theorem Zb7:VQ VP 125 Xs7:=by
 refine ⟨(UK Tryz.func125),?_⟩;intro avs ns res h hn;unfold Xs7 at h;split at h
 ·cases h;have hr:UF 4 _ _:=hn _ GF;have ht:UF 2 _ _:=hn _ (HP _ GF);exact (Zb8 _ _ _ _ _ _ _ _ _ _ _ _ _ _ _ _ _ _ _).same (.cons (LV.same (.cons (.refl _) (.cons (.refl _) (.cons (.refl _) (.cons (.refl _) (.cons (.lst 4 _ _ _ hr) (.cons (.lst 2 _ _ _ ht) (.cons (.refl _) (.cons (.refl _) (.cons (.refl _) (.cons (.refl _) .nil))))))))))) (.cons (.refl _) .nil))
 ·cases h
theorem Qw6(c T lo hi:Int)(n:Nat)(a b u v:Nat->Int)(m:Nat)(p q:Nat->Int)(pl ph dl dh:Int)(VT:m<=100000):VY VP 133 [.agg [i c,i T,i lo,i hi,rds n a b u v,Pt.scs m p q,i pl,i ph,i dl,i dh]] (.tup [.agg [i (Pt.blLo m p q pl ph),i (Pt.blHi m p q pl ph)],bl (vaB c T lo hi m p q pl ph dl dh)]):=by
 refine GB (L:=[]) (VL.cons Pt.Boils_ok (VL.cons Bo.CheckTube_ok (VL.cons PQ (VL.nil _)))) (VX.of (VR.nil _) (VO.nil _)) VZ Tryz.func133 (UV Tryz.f133) G8 (t:=let z0:=(leaf (RV.tup [RV.agg [RV.x (.int .i64 (Pt.blLo m p q pl ph)),RV.x (.int .i64 (Pt.blHi m p q pl ph))],RV.x (KY)]));(need [UF 2 m λk=>[Pt.i (p k),Pt.i (q k)],m<=100000] (branch (Pt.blE m p q pl ph==0) (branch ((if BY c T lo hi=true then (0:Int) else (1:Int))==0) (leaf (RV.tup [RV.agg [RV.x (.int .i64 (Pt.blLo m p q pl ph)),RV.x (.int .i64 (Pt.blHi m p q pl ph))],RV.x (.bool (insB (0:Int) dl dh (100:Int)))])) z0) z0))) VU ?_
 simp only [VN.sat,UB,UY,GL,UE,UJ,beq_iff_eq,beq_eq_false_iff_ne];refine ⟨⟨Pt.isRec2 m p q,VT⟩,λh1=>⟨λh2=>?_,λh2=>?_⟩,λh1=>?_⟩
 ·cases ht:BY c T lo hi
  ·rw [ht] at h2;simp at h2
  ·simp [vaB,h1,ht]
 ·cases ht:BY c T lo hi
  ·simp [vaB,ht]
  ·rw [ht] at h2;simp at h2
 ·simp [vaB,h1]
def aK:UZ
 |[.agg [.x (.int .i64 c),.x (.int .i64 T),.x (.int .i64 lo),.x (.int .i64 hi),.lst 4 n fr,.lst 2 m ft,.x (.int .i64 pl),.x (.int .i64 ph),.x (.int .i64 dl),.x (.int .i64 dh)]]=>some ([UF 4 n fr,UF 2 m ft,m<=100000],.tup [.agg [i (Pt.blLo m (Pt.col 0 ft) (Pt.col 1 ft) pl ph),i (Pt.blHi m (Pt.col 0 ft) (Pt.col 1 ft) pl ph)],bl (vaB c T lo hi m (Pt.col 0 ft) (Pt.col 1 ft) pl ph dl dh)])
 |_=>none
theorem bH:VQ VP 133 aK:=by
 refine ⟨(UK Tryz.func133),?_⟩;intro avs ns res h hn;unfold aK at h;split at h
 ·cases h;have hr:UF 4 _ _:=hn _ GF;have ht:UF 2 _ _:=hn _ (HP _ GF);exact (Qw6 _ _ _ _ _ _ _ _ _ _ _ _ _ _ _ _ (hn _ VW)).same (.cons (LV.same (.cons (.refl _) (.cons (.refl _) (.cons (.refl _) (.cons (.refl _) (.cons (.lst 4 _ _ _ hr) (.cons (.lst 2 _ _ _ ht) (.cons (.refl _) (.cons (.refl _) (.cons (.refl _) (.cons (.refl _) .nil))))))))))) .nil)
 ·cases h
section
variable {pl ph dl dh:Int}{L H:Nat->Int}
theorem Xb2{k j:Nat}:zZ (4+2*k) [L k,H k] (wkF pl ph dl dh L H k) j=wkF pl ph dl dh L H (k+1) j:=by
 simp only [zZ,UT];unfold wkF;by_cases h1:j=4+2*k+1
 ·rw [if_pos h1,if_neg VK,if_neg VK,if_neg VK,if_neg VK,if_pos VK,if_neg VK,show (j-4) / 2=k by omega]
 ·rw [if_neg h1];by_cases h2:j=4+2*k
  ·rw [if_pos h2,if_neg VK,if_neg VK,if_neg VK,if_neg VK,if_pos VK,if_pos VK,show (j-4) / 2=k by omega]
  ·rw [if_neg h2];by_cases h3:j<4+2*k
   ·rw [if_pos h3,if_pos (show j<4+2*(k+1) by omega)]
   ·rw [if_neg h3,if_neg (show ¬j<4+2*(k+1) by omega)]
theorem Xb1{j:Nat}(hj:j<26):UA ([pl,ph,dl,dh]++b9 22) j=wkF pl ph dl dh L H 0 j:=by
 rcases (show j=0\/j=1\/j=2\/j=3\/j=4\/j=5\/j=6\/j=7\/j=8\/j=9\/j=10\/j=11\/j=12\/j=13\/j=14\/j=15\/j=16\/j=17\/j=18\/j=19\/j=20\/j=21\/j=22\/j=23\/j=24\/j=25 by omega) with rfl|rfl|rfl|rfl|rfl|rfl|rfl|rfl|rfl|rfl|rfl|rfl|rfl|rfl|rfl|rfl|rfl|rfl|rfl|rfl|rfl|rfl|rfl|rfl|rfl|rfl<;>rfl
end
abbrev QR(n:Nat)(a:Nat->Int)(b:Nat->Int)(u:Nat->Int)(v:Nat->Int):AV:=lst 4 n λk=>[iI (a k),iI (b k),iI (u k),iI (v k)]
abbrev QX(c:Int)(T:Int)(lo:Int)(hi:Int)(n:Nat)(a:Nat->Int)(b:Nat->Int)(u:Nat->Int)(v:Nat->Int):AV:=lst 2 (rK c T lo hi n a b u v) λk=>[iI (-fwB c T lo hi n a b u v k 0),iI (fwB c T lo hi n a b u v 0 k)]
abbrev W2(m:Nat)(p:Nat->Int)(q:Nat->Int):AV:=lst 2 m λk=>[iI (p k),iI (q k)]
abbrev Z5:AV:=AV.x (.pointer none)
section
variable (c T lo hi:Int)(n:Nat)(a b u v:Nat->Int)(m:Nat)(p q:Nat->Int)(pl ph dl dh:Int)
def Zp0:St:={σ:=[agg [iI c,iI T,iI lo,iI hi,QR n a b u v,W2 m p q,iI pl,iI ph,iI dl,iI dh],ptr 0 0,Z5,iI 0,ptr 18 0,AV.x (.bool (vaB c T lo hi m p q pl ph dl dh)),QX c T lo hi n a b u v,iI (eB c T lo hi n a b u v),ptr 45 0]++HI 43 [QX c T lo hi n a b u v,iI (↑(rK c T lo hi n a b u v):Int)]++HI 31 [],m:=[(45,GO.ints 252 [iI c,iI T,iI lo,iI hi,QR n a b u v,W2 m p q] 26 λa=>UA ([pl,ph,dl,dh]++b9 22) a),(18,GO.cells 27 [iI (Pt.blLo m p q pl ph),iI (Pt.blHi m p q pl ph)]),(0,GO.cells 126 [iI c,iI T,iI lo,iI hi,QR n a b u v,W2 m p q,iI pl,iI ph,iI dl,iI dh])],nx:=50}
noncomputable def Jo9:Code:=U9 (VS (U8 Tryz.f101) 0)
def Wf9(k:Nat):St:=(upE [(54,i k)] [(45,.ints 252 [i c,i T,i lo,i hi,rds n a b u v,Pt.scs m p q] 26 (wkF pl ph dl dh (bdL c T lo hi n a b u v m p q pl ph) (bdH c T lo hi n a b u v m p q pl ph) k)),(18,.cells 27 [i (Pt.boilI m p q pl),i (Pt.boilI m p q ph)]),(0,.cells 126 [i c,i T,i lo,i hi,rds n a b u v,Pt.scs m p q,i pl,i ph,i dl,i dh])] (Zp0 c T lo hi n a b u v m p q pl ph dl dh))
def SU(k:Nat):G6->Option St
 | .exit 1=>some (upE [(54,i ((c.toNat+1:Nat):Int))] [(45,.ints 252 [i c,i T,i lo,i hi,rds n a b u v,Pt.scs m p q] 26 (wkF pl ph dl dh (bdL c T lo hi n a b u v m p q pl ph) (bdH c T lo hi n a b u v m p q pl ph) (c.toNat+1))),(18,.cells 27 [i (Pt.boilI m p q pl),i (Pt.boilI m p q ph)]),(0,.cells 126 [i c,i T,i lo,i hi,rds n a b u v,Pt.scs m p q,i pl,i ph,i dl,i dh])] (Zp0 c T lo hi n a b u v m p q pl ph dl dh))
 |_=>none
def Jj8:CT:= .leaf (.exit 1,(SU c T lo hi n a b u v m p q pl ph dl dh 0 (.exit 1)).getD (Zp0 c T lo hi n a b u v m p q pl ph dl dh))
def Xu2:UG:=GK [] (HF (Wf9 c T lo hi n a b u v m p q pl ph dl dh (0)) (Jj8 c T lo hi n a b u v m p q pl ph dl dh))
end
abbrev XA(c:Int)(T:Int)(lo:Int)(hi:Int)(n:Nat)(a:Nat->Int)(b:Nat->Int)(u:Nat->Int)(v:Nat->Int)(m:Nat)(p:Nat->Int)(q:Nat->Int)(pl:Int)(ph:Int)(dl:Int)(dh:Int):Prop:=agg [iI c,iI T,iI lo,iI hi,QR n a b u v,W2 m p q,iI pl,iI ph,iI dl,iI dh]=agg [iI c,iI T,iI lo,iI hi,QR n a b u v,W2 m p q,iI pl,iI ph,iI dl,iI dh]
abbrev K6:Prop:=(0:Int)=0
abbrev KR:List (Nat×UZ):=[(133,aK),(134,Bo.S_Heights),(135,sA),(136,Zn3)]
abbrev Y2:Prop:=ptr 18 0=ptr 18 0
abbrev YO(n:Nat)(a:Nat->Int)(b:Nat->Int)(u:Nat->Int)(v:Nat->Int):Prop:=(QR n a b u v)=QR n a b u v
abbrev YS(m:Nat)(p:Nat->Int)(q:Nat->Int):Prop:=(W2 m p q)=W2 m p q
abbrev YV(c:Int)(T:Int)(lo:Int)(hi:Int)(n:Nat)(a:Nat->Int)(b:Nat->Int)(u:Nat->Int)(v:Nat->Int):Prop:=(QX c T lo hi n a b u v)=QX c T lo hi n a b u v
section
variable (c T lo hi:Int)(n:Nat)(a b u v:Nat->Int)(m:Nat)(p q:Nat->Int)(pl ph dl dh:Int)
theorem Zy9(VT:n<=12)(UI:m<=8)(HR:vaB c T lo hi m p q pl ph dl dh=true)(F1:eB c T lo hi n a b u v=0):G5 VP (.loop Jo9) (Xu2 c T lo hi n a b u v m p q pl ph dl dh):=by
 refine US [] (L:=[]) (VL.cons bH (VL.cons Bo.Heights_ok (VL.cons a9 (VL.cons Qx1 (VL.nil _))))) (VX.of (VR.nil _) (VO.nil _)) VZ U3 (X:=Nat) (Wf9 c T lo hi n a b u v m p q pl ph dl dh) (λk=>k<=c.toNat+1) (λk=>c.toNat+1-k) (SU c T lo hi n a b u v m p q pl ph dl dh) (x0:=0) VW ?_ ?_ ?_
 ·rintro k;kernel_rfl
 ·rintro k y E h;unfold SU at h;split at h
  ·cases h;kernel_rfl
  ·cases h
 ·rintro Q hQ k hx;refine ⟨(k+1),?_⟩;(with_reducible refine D6 (t:=let z0:=(bdL c T lo hi n a b u v m p q pl ph);let z1:=(bdH c T lo hi n a b u v m p q pl ph);let z5:=fwB c T lo hi n a b u v;let z2:=z5 k;let z3:=Pt.boilI m p q pl;let z4:=Pt.boilI m p q ph;let z6:=(rK c T lo hi n a b u v);let z7:=YV c T lo hi n a b u v;(branch (decide ((k:Int)<(z6:Int))) (need [UH k z6] (need [VM (-z2 0*z3)] (need [(1:Int)<=T/\T<=100000,(0:Int)<= -z2 0*z3/\ -z2 0*z3<=1000000000000] (need [VM (z5 0 k*z4)] (need [(1:Int)<=T/\T<=100000,(0:Int)<=z5 0 k*z4/\z5 0 k*z4<=1000000000000] (need [UH k 11] (need [k*2+10-1-1-1-1-1-1+List.length [dnI (-z2 0*z3) T,upI (z5 0 k*z4) T]<=26] (need [VM ((k:Int)+1)] (need [XA c T lo hi n a b u v m p q pl ph dl dh,KJ,Z5=Z5,K6,Y2,U0 (vaB c T lo hi m p q pl ph dl dh),z7,U0 (eB c T lo hi n a b u v),U0 (ptr 45 0),z7,U0 (z6:Int),(k:Int)+1=(↑(k+1):Int),c=c,T=T,lo=lo,hi=hi,YO n a b u v,YS m p q,26=26,GV 26 (UT (k*2+10-1-1-1-1-1-1+1) (upI (z5 0 k*z4) T) (UT (k*2+10-1-1-1-1-1-1) (dnI (-z2 0*z3) T) (wkF pl ph dl dh z0 z1 k))) (wkF pl ph dl dh z0 z1 (k+1)),U0 (z3),U0 (z4),c=c,T=T,lo=lo,hi=hi,YO n a b u v,YS m p q,pl=pl,ph=ph,dl=dl,dh=dh] (leaf G6.normal)))))))))) (need [XA c T lo hi n a b u v m p q pl ph dl dh,KJ,Z5=Z5,K6,Y2,U0 (vaB c T lo hi m p q pl ph dl dh),z7,U0 (eB c T lo hi n a b u v),U0 (ptr 45 0),z7,U0 (z6:Int),(k:Int)=(↑(Int.toNat c+1):Int),c=c,T=T,lo=lo,hi=hi,YO n a b u v,YS m p q,26=26,GV 26 (wkF pl ph dl dh z0 z1 k) (wkF pl ph dl dh z0 z1 (Int.toNat c+1)),U0 (z3),U0 (z4),c=c,T=T,lo=lo,hi=hi,YO n a b u v,YS m p q,pl=pl,ph=ph,dl=dl,dh=dh] (leaf (G6.exit 1))))) VU ?_);simp only [Jj8,SU,VN.sat,GS] at hQ;have hv:=mP.1 HR;have hb:=BI hv.2.1;have hs:=Qy0 hv.1;have hl:rK c T lo hi n a b u v=c.toNat+1:=if_pos F1;simp only [VN.sat,UB,UY,GL,UE,VM,UJ,H6,FA,RH,hl]
  refine ⟨λh=>?_,λh=>?_⟩
  ·have hk:=Xr5 F1 (k:=k) VK;have m1:=tG (x:= -(fwB c T lo hi n a b u v k 0)) (y:=Pt.boilI m p q pl) (X:=2000) (Y:=2000) VK VK;have m2:=tG (x:=fwB c T lo hi n a b u v 0 k) (y:=Pt.boilI m p q ph) (X:=2000) (Y:=2000) VK VK;have e6:k*2+10-1-1-1-1-1-1=4+2*k:=VK;rw [e6]
   (with_reducible repeat' first|apply And.intro|intro _)
   all_goals first|exact True.intro|omega|with_reducible rfl|exact Xb2
  ·obtain rfl:k=c.toNat+1:=VK
   (with_reducible repeat' first|apply And.intro|intro _)
   all_goals first|exact True.intro|omega|with_reducible rfl|(rename_i E hE;cases hE;exact hQ)
theorem SP:UO VP 101 [.agg [i c,i T,i lo,i hi,rds n a b u v,Pt.scs m p q,i pl,i ph,i dl,i dh]] (.branch (decide (rdE c T lo hi n a b u v m p q pl ph dl dh=0)) (.leaf (.tup [.roI [i c,i T,i lo,i hi,rds n a b u v,Pt.scs m p q] 26 (wkA c T lo hi n a b u v m p q pl ph dl dh) 0,i 0])) (.leaf (.tup [.x (.pointer none),i (rdE c T lo hi n a b u v m p q pl ph dl dh)]))):=by
 refine GT (L:=[FR [n<=12,m<=8,vaB c T lo hi m p q pl ph dl dh=true,eB c T lo hi n a b u v=0] (Xu2 c T lo hi n a b u v m p q pl ph dl dh)]) (VL.cons bH (VL.cons Bo.Heights_ok (VL.cons a9 (VL.cons Qx1 (VL.nil _))))) (VX.of (VR.nil _) (VO.nil _)) VZ Tryz.func101 (UV Tryz.f101) (G7 (lpE (b:= .loop Jo9) VU<|(D2 (ps:=[n<=12,m<=8,vaB c T lo hi m p q pl ph dl dh=true,eB c T lo hi n a b u v=0]) (λh=>Zy9 c T lo hi n a b u v m p q pl ph dl dh h.1 h.2.1 h.2.2.1 h.2.2.2)).N)) (t:=let z0:=(leaf (tup [roI [iI c,iI T,iI lo,iI hi,QR n a b u v,W2 m p q] 26 (λj=>wkF pl ph dl dh (bdL c T lo hi n a b u v m p q pl ph) (bdH c T lo hi n a b u v m p q pl ph) (Int.toNat c+1) j) 0,iI 0]));let z1:=eB c T lo hi n a b u v;let z2:=vaB c T lo hi m p q pl ph dl dh;let z3:=YV c T lo hi n a b u v;(branch (decide ((n:Int)>12)) (leaf (tup [Z5,iI 3])) (branch (decide ((m:Int)>8)) (leaf (tup [Z5,iI 3])) (need [UF 4 n λk=>[Bo.i (a k),Bo.i (b k),Bo.i (u k),Bo.i (v k)],UF 2 m λk=>[Pt.i (p k),Pt.i (q k)],m<=100000] (need [UF 4 n λk=>[Bo.i (a k),Bo.i (b k),Bo.i (u k),Bo.i (v k)]] (branch (!z2) (leaf (tup [Z5,iI 1])) (branch (z1 != 0) (branch (z1 != 9) (leaf (tup [Z5,iI 1])) (branch (z1 != 0) (leaf (tup [Z5,iI (z1)])) (need [n<=12,m<=8,z2=true,z1=0] (need [XA c T lo hi n a b u v m p q pl ph dl dh,KJ,Z5=Z5,K6,Y2,U0 (z2),z3,U0 (z1),ptr 47 0=ptr 45 0,z3,U0 (↑(rK c T lo hi n a b u v):Int),(0:Int)=(↑(0:Nat):Int),False,Pt.blLo m p q pl ph=Pt.boilI m p q pl,Pt.blHi m p q pl ph=Pt.boilI m p q ph,c=c,T=T,lo=lo,hi=hi,YO n a b u v,YS m p q,pl=pl,ph=ph,dl=dl,dh=dh] z0)))) (branch (z1 != 0) (leaf (tup [Z5,iI (z1)])) (need [n<=12,m<=8,z2=true,z1=0] (need [XA c T lo hi n a b u v m p q pl ph dl dh,KJ,Z5=Z5,K6,Y2,U0 (z2),z3,U0 (z1),U0 (ptr 45 0),z3,U0 (↑(rK c T lo hi n a b u v):Int),(0:Int)=(↑(0:Nat):Int),c=c,T=T,lo=lo,hi=hi,YO n a b u v,YS m p q,List.length ([pl,ph,dl,dh]++b9 22)=26,GV 26 (UA ([pl,ph,dl,dh]++b9 22)) (wkF pl ph dl dh (bdL c T lo hi n a b u v m p q pl ph) (bdH c T lo hi n a b u v m p q pl ph) 0),Pt.blLo m p q pl ph=Pt.boilI m p q pl,Pt.blHi m p q pl ph=Pt.boilI m p q ph,c=c,T=T,lo=lo,hi=hi,YO n a b u v,YS m p q,pl=pl,ph=ph,dl=dl,dh=dh] z0)))))))))) VU ?_
 intro Q hQ;have e3:(n>12\/m>8)->rdE c T lo hi n a b u v m p q pl ph dl dh=3:=λh=>if_pos h
 have e1: ¬(n>12\/m>8)-> ¬(vaB c T lo hi m p q pl ph dl dh=true/\(eB c T lo hi n a b u v=0\/eB c T lo hi n a b u v=9))->rdE c T lo hi n a b u v m p q pl ph dl dh=1:=λh h'=>by
  unfold rdE;rw [if_neg h,if_neg h']
 have e0: ¬(n>12\/m>8)->vaB c T lo hi m p q pl ph dl dh=true->(eB c T lo hi n a b u v=0\/eB c T lo hi n a b u v=9)->rdE c T lo hi n a b u v m p q pl ph dl dh=eB c T lo hi n a b u v:=λh h' h''=>by
  unfold rdE;rw [if_neg h,if_pos ⟨h',h''⟩]
 simp only [VN.sat,UB,UJ,H6,FT,Bool.not_eq_true',Bool.not_eq_false'] at hQ ⊢;have bad: ∀k:Int,k≠0->rdE c T lo hi n a b u v m p q pl ph dl dh=k-> ∃r',FF (.tup [.x (.pointer none),i k]) r'/\Q r':=λk hk he=>by
  rw [he] at hQ;exact ⟨.tup [.x (.pointer none),i k],⟨rfl,⟨rfl,rfl⟩,True.intro⟩,hQ.2 hk⟩
 refine ⟨λh1=>bad 3 VK (e3 VK),λh1=>⟨λh2=>bad 3 VK (e3 VK),λh2=>⟨⟨Bo.isRec4 n a b u v,Pt.isRec2 m p q,VK⟩,Bo.isRec4 n a b u v,λh3=>bad 1 VK (e1 VK (by rw [h3];simp)),λh3=>⟨λh4=>⟨λh5=>bad 1 VK (e1 VK VK),λh5=>⟨λh6=>bad _ h4 (e0 VK h3 (.inr h5)),λh6=>absurd h6 h4⟩⟩,λh4=>⟨λh5=>absurd h4 h5,λ_=>?_⟩⟩⟩⟩⟩
 have hv:=mP.1 h3;have hs:=Qy0 hv.1;refine ⟨⟨VK,VK,h3,h4⟩,⟨rfl,rfl,λj hj=>Xb1 hj,hs.2.2.2.1,hs.2.2.2.2⟩,.tup [.roI [i c,i T,i lo,i hi,rds n a b u v,Pt.scs m p q] 26 (wkA c T lo hi n a b u v m p q pl ph dl dh) 0,i 0],⟨⟨rfl,rfl,λ_ _=>rfl,rfl⟩,⟨rfl,rfl⟩,True.intro⟩,hQ.1 ((e0 VK h3 (.inl h4)).trans h4)⟩
end
def fC:DG:=λl=>match l with
 |[.agg [.x (.int .i64 c),.x (.int .i64 T),.x (.int .i64 lo),.x (.int .i64 hi),.lst 4 n fr,.lst 2 m ft,.x (.int .i64 pl),.x (.int .i64 ph),.x (.int .i64 dl),.x (.int .i64 dh)]]=>some (.need [UF 4 n fr,UF 2 m ft] (.branch (decide (rdE c T lo hi n (col 0 fr) (col 1 fr) (col 2 fr) (col 3 fr) m (Pt.col 0 ft) (Pt.col 1 ft) pl ph dl dh=0)) (.leaf (.tup [.roI [i c,i T,i lo,i hi,rds n (col 0 fr) (col 1 fr) (col 2 fr) (col 3 fr),Pt.scs m (Pt.col 0 ft) (Pt.col 1 ft)] 26 (wkA c T lo hi n (col 0 fr) (col 1 fr) (col 2 fr) (col 3 fr) m (Pt.col 0 ft) (Pt.col 1 ft) pl ph dl dh) 0,i 0])) (.leaf (.tup [.x (.pointer none),i (rdE c T lo hi n (col 0 fr) (col 1 fr) (col 2 fr) (col 3 fr) m (Pt.col 0 ft) (Pt.col 1 ft) pl ph dl dh)]))))
 |_=>none
theorem wW:Sx.Enters Tryz.prog 101/\ ∀avs t,fC avs=some t->UO VP 101 avs t:=by
 refine ⟨(UK Tryz.func101),?_⟩;intro avs t h;unfold fC at h;split at h
 ·cases h;intro Q hQ;have hr:UF 4 _ _:=GD hQ.1 _ GF;have ht:UF 2 _ _:=GD hQ.1 _ (HP _ GF);exact UO.same (SP _ _ _ _ _ _ _ _ _ _ _ _ _ _ _ _) (.cons (LV.same (.cons (.refl _) (.cons (.refl _) (.cons (.refl _) (.cons (.refl _) (.cons (.lst 4 _ _ _ hr) (.cons (.lst 2 _ _ _ ht) (.cons (.refl _) (.cons (.refl _) (.cons (.refl _) (.cons (.refl _) .nil))))))))))) .nil) Q hQ.2
 ·cases h
section
variable (c T lo hi:Int)(n:Nat)(a b u v:Nat->Int)(m:Nat)(p q:Nat->Int)(pl ph dl dh:Int)
def asE(u0 u1 wi day:Int):Int:=if rdE c T lo hi n a b u v m p q pl ph dl dh=0 then (if usB c u0 u1 wi&&bt 0 day 10000 then 0 else 2) else rdE c T lo hi n a b u v m p q pl ph dl dh
def hdE(day:Int):Int:=if rdE c T lo hi n a b u v m p q pl ph dl dh=0 then (if bt 0 day 10000 then 0 else 2) else rdE c T lo hi n a b u v m p q pl ph dl dh
end
theorem Zz6{c T lo hi:Int}{n:Nat}{a b u v:Nat->Int}{m:Nat}{p q:Nat->Int}{pl ph dl dh:Int}(h:rdE c T lo hi n a b u v m p q pl ph dl dh=0):n<=12/\m<=8/\vaB c T lo hi m p q pl ph dl dh=true/\eB c T lo hi n a b u v=0:=by
 unfold rdE at h;split at h
 ·cases h
 ·rename_i h1;split at h
  ·rename_i h2;exact ⟨VK,VK,h2.1,h⟩
  ·cases h
section
variable {pl ph dl dh:Int}{L H:Nat->Int}{k j:Nat}
theorem wk_L(h:j<k):wkF pl ph dl dh L H k (4+2*j)=L j:=by
 unfold wkF;rw [if_neg VK,if_neg VK,if_neg VK,if_neg VK,if_pos VK,if_pos VK,show (4+2*j-4) / 2=j by omega]
theorem wk_H(h:j<k):wkF pl ph dl dh L H k (5+2*j)=H j:=by
 unfold wkF;rw [if_neg VK,if_neg VK,if_neg VK,if_neg VK,if_pos VK,if_neg VK,show (5+2*j-4) / 2=j by omega]
end
theorem bF{c T lo hi:Int}{n:Nat}{a b u v:Nat->Int}{m:Nat}{p q:Nat->Int}{pl ph dl dh:Int}(h:rdE c T lo hi n a b u v m p q pl ph dl dh=0):drB (wkA c T lo hi n a b u v m p q pl ph dl dh)/\bdB (wkA c T lo hi n a b u v m p q pl ph dl dh)/\(1<=c/\c<=10)/\ ∀k:Nat,(k:Int)<=c->0<=bdL c T lo hi n a b u v m p q pl ph k/\bdL c T lo hi n a b u v m p q pl ph k<=4000000/\0<=bdH c T lo hi n a b u v m p q pl ph k/\bdH c T lo hi n a b u v m p q pl ph k<=4000000:=by
 obtain ⟨h1,h2,h3,h4⟩:=Zz6 h;have hv:=mP.1 h3;have hb:=BI hv.2.1;have hs:=Qy0 hv.1;have key: ∀k:Nat,(k:Int)<=c->0<=bdL c T lo hi n a b u v m p q pl ph k/\bdL c T lo hi n a b u v m p q pl ph k<=4000000/\0<=bdH c T lo hi n a b u v m p q pl ph k/\bdH c T lo hi n a b u v m p q pl ph k<=4000000:=by
  intro k hk;have hk:=Xr5 h4 hk;have m1:=tG (x:= -(fwB c T lo hi n a b u v k 0)) (y:=Pt.boilI m p q pl) (X:=2000) (Y:=2000) VK VK;have m2:=tG (x:=fwB c T lo hi n a b u v 0 k) (y:=Pt.boilI m p q ph) (X:=2000) (Y:=2000) VK VK;have d1:=gG m1.1 (show 1<=T by omega)
  have d2:=SC m2.1 (show 1<=T by omega)
  unfold bdL bdH;omega
 refine ⟨⟨?_,?_⟩,λj hj=>?_,hb.1,key⟩
 ·show 0<=dl/\dl<=100;omega
 ·show 0<=dh/\dh<=100;omega
 ·by_cases hk:j / 2<c.toNat+1
  ·have:=key (j / 2) VK;rcases Nat.mod_two_eq_zero_or_one j with h0|h0
   ·have e:wkA c T lo hi n a b u v m p q pl ph dl dh (4+j)=bdL c T lo hi n a b u v m p q pl ph (j / 2):=by
     have:=wk_L (pl:=pl) (ph:=ph) (dl:=dl) (dh:=dh) (L:=bdL c T lo hi n a b u v m p q pl ph) (H:=bdH c T lo hi n a b u v m p q pl ph) hk;rw [show 4+2*(j / 2)=4+j by omega] at this
     exact this
    rw [e];omega
   ·have e:wkA c T lo hi n a b u v m p q pl ph dl dh (4+j)=bdH c T lo hi n a b u v m p q pl ph (j / 2):=by
     have:=wk_H (pl:=pl) (ph:=ph) (dl:=dl) (dh:=dh) (L:=bdL c T lo hi n a b u v m p q pl ph) (H:=bdH c T lo hi n a b u v m p q pl ph) hk;rw [show 5+2*(j / 2)=4+j by omega] at this
     exact this
    rw [e];omega
  ·have e:wkA c T lo hi n a b u v m p q pl ph dl dh (4+j)=0:=by
    unfold wkA wkF;rw [if_neg VK,if_neg VK,if_neg VK,if_neg VK,if_neg VK]
   rw [e];omega
abbrev KQ:Value:=Value.int IntKind.i64 (0:Int)
theorem vV(c T lo hi:Int)(n:Nat)(a b u v:Nat->Int)(m:Nat)(p q:Nat->Int)(pl ph dl dh:Int):VY VP 184 [.agg [i c,i T,i lo,i hi,rds n a b u v,Pt.scs m p q,i pl,i ph,i dl,i dh]] (i (rdE c T lo hi n a b u v m p q pl ph dl dh)):=by
 refine GB (L:=[]) (VL.nil _) (VX.ofC (VR.nil _) (VO.nil _) (UC.cons wW (UC.nil _))) VZ Tryz.func184 (UV Tryz.f184) G8 (t:=need [UF 4 n λk=>[Bo.i (a k),Bo.i (b k),Bo.i (u k),Bo.i (v k)],UF 2 m λk=>[Pt.i (p k),Pt.i (q k)]] (branch (decide (rdE c T lo hi n a b u v m p q pl ph dl dh=0)) (leaf (RV.x (KQ))) (leaf (RV.x (.int .i64 (rdE c T lo hi n a b u v m p q pl ph dl dh)))))) VU ?_
 simp only [VN.sat,UB,UY,GL,UE,UJ,H6,FT,beq_iff_eq,beq_eq_false_iff_ne,Bool.not_eq_true',Bool.not_eq_false',not_true_eq_false,false_imp_iff,true_imp_iff];exact ⟨⟨Bo.isRec4 n a b u v,Pt.isRec2 m p q⟩,λh=>h.symm,λ_=>trivial⟩
def DS:UZ
 |[.agg [.x (.int .i64 c),.x (.int .i64 T),.x (.int .i64 lo),.x (.int .i64 hi),.lst 4 n fr,.lst 2 m ft,.x (.int .i64 pl),.x (.int .i64 ph),.x (.int .i64 dl),.x (.int .i64 dh)]]=>some ([UF 4 n fr,UF 2 m ft],i (rdE c T lo hi n (col 0 fr) (col 1 fr) (col 2 fr) (col 3 fr) m (Pt.col 0 ft) (Pt.col 1 ft) pl ph dl dh))
 |_=>none
theorem qM:VQ VP 184 DS:=by
 refine ⟨(UK Tryz.func184),?_⟩;intro avs ns res h hn;unfold DS at h;split at h
 ·cases h;have hr:UF 4 _ _:=hn _ GF;have ht:UF 2 _ _:=hn _ (HP _ GF);exact (vV _ _ _ _ _ _ _ _ _ _ _ _ _ _ _ _).same (.cons (LV.same (.cons (.refl _) (.cons (.refl _) (.cons (.refl _) (.cons (.refl _) (.cons (.lst 4 _ _ _ hr) (.cons (.lst 2 _ _ _ ht) (.cons (.refl _) (.cons (.refl _) (.cons (.refl _) (.cons (.refl _) .nil))))))))))) .nil)
 ·cases h
abbrev ZE(c:Int)(T:Int)(lo:Int)(hi:Int)(n:Nat)(a:Nat->Int)(b:Nat->Int)(u:Nat->Int)(v:Nat->Int)(m:Nat)(p:Nat->Int)(q:Nat->Int)(pl:Int)(ph:Int)(dl:Int)(dh:Int):AV:=roI [iI c,iI T,iI lo,iI hi,QR n a b u v,W2 m p q] 26 (λa_1=>wkA c T lo hi n a b u v m p q pl ph dl dh a_1) 0
theorem Wt6(c T lo hi:Int)(n:Nat)(a b u v:Nat->Int)(m:Nat)(p q:Nat->Int)(pl ph dl dh:Int)(u0 u1 wi day:Int):UO VP 96 [.agg [i c,i T,i lo,i hi,rds n a b u v,Pt.scs m p q,i pl,i ph,i dl,i dh],.agg [i u0,i u1,i wi],i day] (.branch (decide (asE c T lo hi n a b u v m p q pl ph dl dh u0 u1 wi day=0)) (.leaf (.tup [.roI [i c,i T,i lo,i hi,rds n a b u v,Pt.scs m p q] 26 (wkA c T lo hi n a b u v m p q pl ph dl dh) 0,i 0])) (.leaf (.tup [.top,i (asE c T lo hi n a b u v m p q pl ph dl dh u0 u1 wi day)]))):=by
 refine GT (L:=[]) (VL.cons Zb7 (VL.cons RJ (VL.nil _))) (VX.ofC (VR.nil _) (VO.nil _) (UC.cons wW (UC.nil _))) VZ Tryz.func96 (UV Tryz.f96) G8 (t:=let z0:=rdE c T lo hi n a b u v m p q pl ph dl dh;let z1:=ZE c T lo hi n a b u v m p q pl ph dl dh;(need [UF 4 n λk=>[Bo.i (a k),Bo.i (b k),Bo.i (u k),Bo.i (v k)],UF 2 m λk=>[Pt.i (p k),Pt.i (q k)]] (branch (decide (z0=0)) (branch ((0:Int)==0) (need [UF 4 n λk=>[Bo.i (a k),Bo.i (b k),Bo.i (u k),Bo.i (v k)],UF 2 m λk=>[Pt.i (p k),Pt.i (q k)]] (branch (!usB c u0 u1 wi) (leaf (tup [z1,iI 2])) (branch (!bt (0:Int) day (10000:Int)) (leaf (tup [z1,iI 2])) (leaf (tup [z1,iI 0]))))) (leaf (tup [z1,iI 0]))) (branch (z0==0) (need [UF 4 n λk=>[Bo.i (a k),Bo.i (b k),Bo.i (u k),Bo.i (v k)],UF 2 m λk=>[Pt.i (p k),Pt.i (q k)]] (branch (!usB c u0 u1 wi) (leaf (tup [Z5,iI 2])) (branch (!bt (0:Int) day (10000:Int)) (leaf (tup [Z5,iI 2])) (leaf (tup [Z5,iI (z0)]))))) (leaf (tup [Z5,iI (z0)])))))) VU ?_
 intro Q hQ;simp only [VN.sat,UB,UY,GL,UE,UJ,H6,FT,beq_iff_eq,beq_eq_false_iff_ne,Bool.not_eq_true',Bool.not_eq_false',not_true_eq_false,false_imp_iff,true_imp_iff] at hQ ⊢;have hr:rdE c T lo hi n a b u v m p q pl ph dl dh≠0->asE c T lo hi n a b u v m p q pl ph dl dh u0 u1 wi day=rdE c T lo hi n a b u v m p q pl ph dl dh:=λh=>if_neg h
 have h2:rdE c T lo hi n a b u v m p q pl ph dl dh=0->(usB c u0 u1 wi=false\/bt 0 day 10000=false)->asE c T lo hi n a b u v m p q pl ph dl dh u0 u1 wi day=2:=λh h'=>by
  unfold asE;rw [if_pos h,if_neg (by rcases h' with h'|h'<;>simp [h'])]
 have h0:rdE c T lo hi n a b u v m p q pl ph dl dh=0->usB c u0 u1 wi=true->bt 0 day 10000=true->asE c T lo hi n a b u v m p q pl ph dl dh u0 u1 wi day=0:=λh h' h''=>by
  unfold asE;rw [if_pos h,h',h''];rfl
 have bad: ∀(x:AV) (k:Int),asE c T lo hi n a b u v m p q pl ph dl dh u0 u1 wi day=k->k≠0-> ∃r',FF (.tup [x,i k]) r'/\Q r':=λx k he hk=>by
  rw [he] at hQ;exact ⟨.tup [.top,i k],⟨by cases x<;>trivial,⟨rfl,rfl⟩,True.intro⟩,hQ.2 hk⟩
 refine ⟨⟨Bo.isRec4 n a b u v,Pt.isRec2 m p q⟩,λh=>⟨⟨Bo.isRec4 n a b u v,Pt.isRec2 m p q⟩,λg=>bad _ 2 (h2 h (.inl g)) VK,λg=>⟨λg'=>bad _ 2 (h2 h (.inr g')) VK,λg'=>?_⟩⟩,λh=>⟨λh'=>absurd h' h,λ_=>?_⟩⟩
 ·exact ⟨.tup [.roI [i c,i T,i lo,i hi,rds n a b u v,Pt.scs m p q] 26 (wkA c T lo hi n a b u v m p q pl ph dl dh) 0,i 0],⟨⟨rfl,rfl,λ_ _=>rfl,rfl⟩,⟨rfl,rfl⟩,True.intro⟩,hQ.1 (h0 h g g')⟩
 ·exact bad _ _ (hr h) h
def Qh9:DG:=λl=>match l with
 |[.agg [.x (.int .i64 c),.x (.int .i64 T),.x (.int .i64 lo),.x (.int .i64 hi),.lst 4 n fr,.lst 2 m ft,.x (.int .i64 pl),.x (.int .i64 ph),.x (.int .i64 dl),.x (.int .i64 dh)],.agg [.x (.int .i64 u0),.x (.int .i64 u1),.x (.int .i64 wi)],.x (.int .i64 day)]=>some (.need [UF 4 n fr,UF 2 m ft] (.branch (decide (asE c T lo hi n (col 0 fr) (col 1 fr) (col 2 fr) (col 3 fr) m (Pt.col 0 ft) (Pt.col 1 ft) pl ph dl dh u0 u1 wi day=0)) (.leaf (.tup [.roI [i c,i T,i lo,i hi,rds n (col 0 fr) (col 1 fr) (col 2 fr) (col 3 fr),Pt.scs m (Pt.col 0 ft) (Pt.col 1 ft)] 26 (wkA c T lo hi n (col 0 fr) (col 1 fr) (col 2 fr) (col 3 fr) m (Pt.col 0 ft) (Pt.col 1 ft) pl ph dl dh) 0,i 0])) (.leaf (.tup [.top,i (asE c T lo hi n (col 0 fr) (col 1 fr) (col 2 fr) (col 3 fr) m (Pt.col 0 ft) (Pt.col 1 ft) pl ph dl dh u0 u1 wi day)]))))
 |_=>none
theorem Qr3:Sx.Enters Tryz.prog 96/\ ∀avs t,Qh9 avs=some t->UO VP 96 avs t:=by
 refine ⟨(UK Tryz.func96),?_⟩;intro avs t h;unfold Qh9 at h;split at h
 ·cases h;intro Q hQ;have hr:UF 4 _ _:=GD hQ.1 _ GF;have ht:UF 2 _ _:=GD hQ.1 _ (HP _ GF);exact UO.same (Wt6 _ _ _ _ _ _ _ _ _ _ _ _ _ _ _ _ _ _ _ _) (.cons (LV.same (.cons (.refl _) (.cons (.refl _) (.cons (.refl _) (.cons (.refl _) (.cons (.lst 4 _ _ _ hr) (.cons (.lst 2 _ _ _ ht) (.cons (.refl _) (.cons (.refl _) (.cons (.refl _) (.cons (.refl _) .nil))))))))))) (.cons (.refl _) (.cons (.refl _) .nil))) Q hQ.2
 ·cases h
def kpB(c T lo hi:Int)(n:Nat)(a b u v:Nat->Int)(m:Nat)(p q:Nat->Int)(pl ph dl dh:Int)(u0 u1 wi day:Int):Bool:=decide (asE c T lo hi n a b u v m p q pl ph dl dh u0 u1 wi day=0)&&keB c (wkA c T lo hi n a b u v m p q pl ph dl dh) u0 u1 wi day
theorem Ji8{c T lo hi:Int}{n:Nat}{a b u v:Nat->Int}{m:Nat}{p q:Nat->Int}{pl ph dl dh u0 u1 wi day:Int}(h:asE c T lo hi n a b u v m p q pl ph dl dh u0 u1 wi day=0):rdE c T lo hi n a b u v m p q pl ph dl dh=0/\usB c u0 u1 wi=true/\0<=day/\day<=10000:=by
 unfold asE at h;split at h
 ·rename_i h1;split at h
  ·rename_i h2;rw [H9] at h2;exact ⟨h1,h2.1,(bt_iff _ _ _).1 h2.2⟩
  ·cases h
 ·rename_i h1;exact absurd h h1
theorem Xm5(c T lo hi:Int)(n:Nat)(a b u v:Nat->Int)(m:Nat)(p q:Nat->Int)(pl ph dl dh:Int)(u0 u1 wi day:Int):VY VP 71 [.agg [i c,i T,i lo,i hi,rds n a b u v,Pt.scs m p q,i pl,i ph,i dl,i dh],.agg [i u0,i u1,i wi],i day] (.tup [bl (kpB c T lo hi n a b u v m p q pl ph dl dh u0 u1 wi day),i (asE c T lo hi n a b u v m p q pl ph dl dh u0 u1 wi day)]):=by
 refine GB (L:=[]) (VL.cons Xe9 (VL.nil _)) (VX.ofC (VR.nil _) (VO.nil _) (UC.cons Qr3 (UC.nil _))) VZ Tryz.func71 (UV Tryz.f71) G8 (t:=let z0:=asE c T lo hi n a b u v m p q pl ph dl dh u0 u1 wi day;let z1:=(wkA c T lo hi n a b u v m p q pl ph dl dh);(need [UF 4 n λk=>[Bo.i (a k),Bo.i (b k),Bo.i (u k),Bo.i (v k)],UF 2 m λk=>[Pt.i (p k),Pt.i (q k)]] (branch (decide (z0=0)) (branch ((0:Int)==0) (need [drB z1,bdB z1,(1:Int)<=c/\c<=10,(0:Int)<=u0/\u0<=u1/\u1<=10,(0:Int)<=wi/\wi<=1000000,(0:Int)<=day/\day<=100000] (leaf (RV.tup [RV.x (.bool (keB c z1 u0 u1 wi day)),RV.x (KQ)]))) (leaf (RV.tup [RV.x (KY),RV.x (KQ)]))) (branch (z0==0) VN.fail (leaf (RV.tup [RV.x (KY),RV.x (.int .i64 (z0))])))))) VU ?_
 simp only [VN.sat,UB,UY,GL,UE,UJ,H6,FT,beq_iff_eq,beq_eq_false_iff_ne,Bool.not_eq_true',Bool.not_eq_false',not_true_eq_false,false_imp_iff,true_imp_iff];refine ⟨⟨Bo.isRec4 n a b u v,Pt.isRec2 m p q⟩,λh=>?_,λh=>⟨λh'=>absurd h' h,λ_=>?_⟩⟩
 ·obtain ⟨h1,h2,h3⟩:=Ji8 h;have hw:=bF h1;have hu:=Xb9.1 h2;refine ⟨⟨hw.1,hw.2.1,hw.2.2.1,VK,VK,VK⟩,?_,h.symm⟩;unfold kpB;rw [h];rfl
 ·unfold kpB;rw [decide_eq_false h];rfl
def aP:UZ
 |[.agg [.x (.int .i64 c),.x (.int .i64 T),.x (.int .i64 lo),.x (.int .i64 hi),.lst 4 n fr,.lst 2 m ft,.x (.int .i64 pl),.x (.int .i64 ph),.x (.int .i64 dl),.x (.int .i64 dh)],.agg [.x (.int .i64 u0),.x (.int .i64 u1),.x (.int .i64 wi)],.x (.int .i64 day)]=>some ([UF 4 n fr,UF 2 m ft],.tup [bl (kpB c T lo hi n (col 0 fr) (col 1 fr) (col 2 fr) (col 3 fr) m (Pt.col 0 ft) (Pt.col 1 ft) pl ph dl dh u0 u1 wi day),i (asE c T lo hi n (col 0 fr) (col 1 fr) (col 2 fr) (col 3 fr) m (Pt.col 0 ft) (Pt.col 1 ft) pl ph dl dh u0 u1 wi day)])
 |_=>none
theorem Qh4:VQ VP 71 aP:=by
 refine ⟨(UK Tryz.func71),?_⟩;intro avs ns res h hn;unfold aP at h;split at h
 ·cases h;have hr:UF 4 _ _:=hn _ GF;have ht:UF 2 _ _:=hn _ (HP _ GF);exact (Xm5 _ _ _ _ _ _ _ _ _ _ _ _ _ _ _ _ _ _ _ _).same (.cons (LV.same (.cons (.refl _) (.cons (.refl _) (.cons (.refl _) (.cons (.refl _) (.cons (.lst 4 _ _ _ hr) (.cons (.lst 2 _ _ _ ht) (.cons (.refl _) (.cons (.refl _) (.cons (.refl _) (.cons (.refl _) .nil))))))))))) (.cons (.refl _) (.cons (.refl _) .nil)))
 ·cases h
def hdN(c T lo hi:Int)(n:Nat)(a b u v:Nat->Int)(m:Nat)(p q:Nat->Int)(pl ph dl dh:Int)(day:Int):Nat:=if hdE c T lo hi n a b u v m p q pl ph dl dh day=0 then c.toNat+1 else 0
theorem PY{P:Program}{c:Code}{ps:List Prop}{sp:UG}(h:UB ps->HQ P c sp):HQ P c (FR ps sp):=λcx hf=>wJ (λhp=>h hp cx hf)
theorem Zm7{g h:Nat->Int}{k j:Nat}{x y:Int}(hx:x=g k)(hy:y=h k)(hj:j<k+1):GI k (λk=>[i (g k),i (h k)]) (U6 2 [i x,i y]) j=[i (g j),i (h j)]:=by
 subst hx;subst hy;show HB (decide (j<k)) [i (g j),i (h j)] (U6 2 [i (g k),i (h k)] (j-k))=_;rw [show j-k=0 by omega]
 by_cases hj:j<k
 ·rw [decide_eq_true hj];rfl
 ·obtain rfl:j=k:=VK;rw [decide_eq_false hj];rfl
section
variable (c T lo hi:Int)(n:Nat)(a b u v:Nat->Int)(m:Nat)(p q:Nat->Int)(pl ph dl dh:Int)(day:Int)
def Jo0:St:={σ:=mkS 37 [(0,.agg [i c,i T,i lo,i hi,rds n a b u v,Pt.scs m p q,i pl,i ph,i dl,i dh]),(1,i day),(2,.fn (.func 76) [] []),(3,.ptr 0 0),(4,.ptr 1 0),(5,.ptr 2 0),(6,.x (.slice none 0 0)),(7,i 0),(8,.ptr 10 0),(9,i 0),(10,.ptr 18 0),(26,.fn (.func 137) [] [.ro [i 0],.ro [i c]])],m:=[(901,.row 124 2 0 (λk=>[i (onL (wkA c T lo hi n a b u v m p q pl ph dl dh) k day),i (onH (wkA c T lo hi n a b u v m p q pl ph dl dh) k day)])),(18,.cells 118 [.row 901]),(10,.cells 167 [.roI [i c,i T,i lo,i hi,rds n a b u v,Pt.scs m p q] 26 (wkA c T lo hi n a b u v m p q pl ph dl dh) 0]),(2,.cells 165 [.fn (.func 76) [] []]),(1,.cells 3 [i day]),(0,.cells 126 [i c,i T,i lo,i hi,rds n a b u v,Pt.scs m p q,i pl,i ph,i dl,i dh])],nx:=902}
noncomputable def Js3:Code:=SM (VS (U8 Tryz.f75) 0)
noncomputable def Jr4:Code:=SL (VS (U8 Tryz.f75) 0)
def oK(k:Nat):St:={σ:=H4 [] (Jo0 c T lo hi n a b u v m p q pl ph dl dh day).σ,m:=[(901,.row 124 2 k (λk=>[i (onL (wkA c T lo hi n a b u v m p q pl ph dl dh) k day),i (onH (wkA c T lo hi n a b u v m p q pl ph dl dh) k day)])),(18,.cells 118 [.row 901]),(10,.cells 167 [.roI [i c,i T,i lo,i hi,rds n a b u v,Pt.scs m p q] 26 (wkA c T lo hi n a b u v m p q pl ph dl dh) 0]),(2,.cells 165 [.fn (.func 76) [] []]),(1,.cells 3 [i day]),(0,.cells 126 [i c,i T,i lo,i hi,rds n a b u v,Pt.scs m p q,i pl,i ph,i dl,i dh])],nx:=902}
def nQ(k:Nat):G6->Option St
 | .normal=>some {σ:=H4 [] (Jo0 c T lo hi n a b u v m p q pl ph dl dh day).σ,m:=[(901,.row 124 2 ((c-0+1).toNat) (λk=>[i (onL (wkA c T lo hi n a b u v m p q pl ph dl dh) k day),i (onH (wkA c T lo hi n a b u v m p q pl ph dl dh) k day)])),(18,.cells 118 [.row 901]),(10,.cells 167 [.roI [i c,i T,i lo,i hi,rds n a b u v,Pt.scs m p q] 26 (wkA c T lo hi n a b u v m p q pl ph dl dh) 0]),(2,.cells 165 [.fn (.func 76) [] []]),(1,.cells 3 [i day]),(0,.cells 126 [i c,i T,i lo,i hi,rds n a b u v,Pt.scs m p q,i pl,i ph,i dl,i dh])],nx:=902}
 |_=>none
def T_eO:CT:= .leaf (.normal,oK c T lo hi n a b u v m p q pl ph dl dh day ((c-0+1).toNat))
def Xx7:UG:=GK [(.cell 18 0,901,124,2)] (HF (oK c T lo hi n a b u v m p q pl ph dl dh day (0)) (T_eO c T lo hi n a b u v m p q pl ph dl dh day))
end
abbrev ZV(c:Int):AV:=AV.fn (Fn.func 137) [] [AV.ro [iI 0],AV.ro [iI c]]
abbrev J2:Prop:=AV.fn (Fn.func 76) [] []=AV.fn (Fn.func 76) [] []
abbrev KV:Ext:={R:=[(103,aM)],H:=[],C:=[(101,fC)] }
section
variable (c T lo hi:Int)(n:Nat)(a b u v:Nat->Int)(m:Nat)(p q:Nat->Int)(pl ph dl dh:Int)(day:Int)
theorem Jh3(VT:rdE c T lo hi n a b u v m p q pl ph dl dh=0)(UI:0<=day/\day<=10000)(HR:drB (wkA c T lo hi n a b u v m p q pl ph dl dh)/\bdB (wkA c T lo hi n a b u v m p q pl ph dl dh)/\1<=c/\c<=10):HQ VP (.rangeFunc (rfF (VS (U8 Tryz.f75) 0)) (jD (VS (U8 Tryz.f75) 0)) Js3 Jr4) (Xx7 c T lo hi n a b u v m p q pl ph dl dh day):=by
 refine P9 [(.cell 18 0,901,124,2)] (L:=[]) (VL.cons RJ (VL.cons Wc4 (VL.nil _))) (VX.ofC (VR.cons dB (VR.nil _)) (VO.nil _) (UC.cons wW (UC.nil _))) VZ U3 (V:=Nat) (oK c T lo hi n a b u v m p q pl ph dl dh day) (λk=>k<=((c-0+1).toNat)) (λk=>k) (nQ c T lo hi n a b u v m p q pl ph dl dh day) (x0:=0) VW rfl ?_ ?_ ?_ ?_ (g:=137) (caps:=[.ro [i 0],.ro [i c]]) VU VU (EC 0 c VK VK) (λ_=>rfl) ?_
 ·rintro k;kernel_rfl
 ·rintro k y E h;unfold nQ at h;split at h
  ·cases h;kernel_rfl
  ·cases h
 ·rintro k;rfl
 ·rintro k y E h;unfold nQ at h;split at h
  ·cases h;rfl
  ·cases h
 ·rintro Q hQ k hx;refine ⟨λhlt=>⟨(k+1),rfl,?_⟩,λPK=>?_⟩
  ·(with_reducible refine D6 (t:=let z0:=(wkA c T lo hi n a b u v m p q pl ph dl dh);let z1:=((0:Int)+(k:Int)).toNat;(need [drB z0,bdB z0,(0:Int)<=0+(k:Int)/\(0:Int)+(k:Int)<=10,(0:Int)<=day/\day<=100000] (need [(k+1)*16<=140737488355328,RU 1 (U6 2 [iI (onL z0 z1 day),iI (onH z0 z1 day)])] (need [XA c T lo hi n a b u v m p q pl ph dl dh,day=day,J2,KJ,U0 (ptr 1 0),U0 (ptr 2 0),ZB=ZB,K6,U0 (ptr 10 0),K6,Y2,ZV c=ZV c,k+1=k+1,GV (k+1) (GI k (λk=>[iI (onL z0 k day),iI (onH z0 k day)]) (U6 2 [iI (onL z0 z1 day),iI (onH z0 z1 day)])) (λi=>[iI (onL z0 i day),iI (onH z0 i day)]),U0 (AV.row 901),U0 (ZE c T lo hi n a b u v m p q pl ph dl dh),J2,day=day,c=c,T=T,lo=lo,hi=hi,YO n a b u v,YS m p q,pl=pl,ph=ph,dl=dl,dh=dh] (leaf G6.normal))))) VU ?_)
   simp only [VN.sat,UB,UJ]
   have ek:((0:Int)+(k:Int)).toNat=k:=VK;refine ⟨⟨HR.1,HR.2.1,VK,VK⟩,⟨VK,λj hj a ha=>FQ ha (by simp [AV.one,Value.oneCell'])⟩,λj hj=>?_,VK⟩
   rw [ek];exact Zm7 rfl rfl hj
  ·subst PK;exact hQ
abbrev YR:Value:=Value.slice none 0 0
theorem Wq8:VY VP 75 [.agg [i c,i T,i lo,i hi,rds n a b u v,Pt.scs m p q,i pl,i ph,i dl,i dh],i day,.fn (.func 76) [] []] (.tup [.lst 2 (hdN c T lo hi n a b u v m p q pl ph dl dh day) (λk=>[i (onL (wkA c T lo hi n a b u v m p q pl ph dl dh) k day),i (onH (wkA c T lo hi n a b u v m p q pl ph dl dh) k day)]),i (hdE c T lo hi n a b u v m p q pl ph dl dh day)]):=by
 refine GB (L:=[FR [rdE c T lo hi n a b u v m p q pl ph dl dh=0,0<=day/\day<=10000,drB (wkA c T lo hi n a b u v m p q pl ph dl dh)/\bdB (wkA c T lo hi n a b u v m p q pl ph dl dh)/\1<=c/\c<=10] (Xx7 c T lo hi n a b u v m p q pl ph dl dh day)]) (VL.cons RJ (VL.cons Wc4 (VL.nil _))) (VX.ofC (VR.cons dB (VR.nil _)) (VO.nil _) (UC.cons wW (UC.nil _))) VZ Tryz.func75 (UV Tryz.f75) (G7 (lpE (b:= .rangeFunc (rfF (VS (U8 Tryz.f75) 0)) (jD (VS (U8 Tryz.f75) 0)) Js3 Jr4) VU<|PY (λh=>Jh3 c T lo hi n a b u v m p q pl ph dl dh day h.1 h.2.1 h.2.2))) (t:=let z0:=wkA c T lo hi n a b u v m p q pl ph dl dh;let z1:=rdE c T lo hi n a b u v m p q pl ph dl dh;let z2:=(leaf (RV.tup [RV.lst 2 (c-0+1).toNat λk=>[iI (onL (z0) k day),iI (onH (z0) k day)],RV.x (KQ)]));let z3:=(leaf (RV.tup [RV.x (YR),RV.x (.int .i64 (2:Int))]));(need [UF 4 n λk=>[Bo.i (a k),Bo.i (b k),Bo.i (u k),Bo.i (v k)],UF 2 m λk=>[Pt.i (p k),Pt.i (q k)]] (branch (decide (z1=0)) (branch ((0:Int) != 0) (leaf (RV.tup [RV.x (YR),RV.x (KQ)])) (branch (!bt (0:Int) day (10000:Int)) z3 (need [z1=0,(0:Int)<=day/\day<=10000,drB (z0)/\bdB (z0)/\(1:Int)<=c/\c<=10] (need [XA c T lo hi n a b u v m p q pl ph dl dh,day=day,J2,KJ,U0 (ptr 1 0),U0 (ptr 2 0),ZB=ZB,K6,U0 (ptr 10 0),K6,Y2,ZV c=ZV c,0=0,∀(i:Nat),i<0->[]=[iI (onL (z0) i day),iI (onH (z0) i day)],U0 (AV.row 901),U0 (ZE c T lo hi n a b u v m p q pl ph dl dh),J2,day=day,c=c,T=T,lo=lo,hi=hi,YO n a b u v,YS m p q,pl=pl,ph=ph,dl=dl,dh=dh] z2)))) (branch (z1 != 0) (leaf (RV.tup [RV.x (YR),RV.x (.int .i64 (z1))])) (branch (!bt (0:Int) day (10000:Int)) z3 (need [z1=0,(0:Int)<=day/\day<=10000,drB (z0)/\bdB (z0)/\(1:Int)<=c/\c<=10] (need [XA c T lo hi n a b u v m p q pl ph dl dh,day=day,J2,KJ,U0 (ptr 1 0),U0 (ptr 2 0),ZB=ZB,K6,U0 (ptr 10 0),z1=0,Y2,ZV c=ZV c,0=0,∀(i:Nat),i<0->[]=[iI (onL (z0) i day),iI (onH (z0) i day)],U0 (AV.row 901),AV.x (.pointer none)=roI [iI c,iI T,iI lo,iI hi,QR n a b u v,W2 m p q] 26 (λa_1=>z0 a_1) 0,J2,day=day,c=c,T=T,lo=lo,hi=hi,YO n a b u v,YS m p q,pl=pl,ph=ph,dl=dl,dh=dh] z2))))))) VU ?_
 simp only [VN.sat,UB,UY,GL,UE,UJ,H6,FT,beq_iff_eq,beq_eq_false_iff_ne,Bool.not_eq_true',Bool.not_eq_false',not_true_eq_false,false_imp_iff,true_imp_iff];have e2:rdE c T lo hi n a b u v m p q pl ph dl dh=0->bt 0 day 10000=false->hdE c T lo hi n a b u v m p q pl ph dl dh day=2:=λh h'=>by
  unfold hdE;rw [if_pos h,h'];rfl
 have e0:rdE c T lo hi n a b u v m p q pl ph dl dh=0->bt 0 day 10000=true->hdE c T lo hi n a b u v m p q pl ph dl dh day=0:=λh h'=>by
  unfold hdE;rw [if_pos h,h'];rfl
 have er: ¬rdE c T lo hi n a b u v m p q pl ph dl dh=0->hdE c T lo hi n a b u v m p q pl ph dl dh day=rdE c T lo hi n a b u v m p q pl ph dl dh:=λh=>if_neg h
 have eN: ∀k:Int,hdE c T lo hi n a b u v m p q pl ph dl dh day=k->k≠0->(eI (YR)/\hdN c T lo hi n a b u v m p q pl ph dl dh day=0)/\k=hdE c T lo hi n a b u v m p q pl ph dl dh day:=λk h hk=>⟨⟨by trivial,if_neg (by rw [h];exact hk)⟩,h.symm⟩
 have eP:rdE c T lo hi n a b u v m p q pl ph dl dh=0->bt 0 day 10000=true->hdN c T lo hi n a b u v m p q pl ph dl dh day=c.toNat+1:=λh h'=>if_pos (e0 h h')
 refine ⟨⟨Bo.isRec4 n a b u v,Pt.isRec2 m p q⟩,λh=>⟨λh'=>eN 2 (e2 h h') (by decide),λh'=>?_⟩,λh=>⟨λ_=>eN _ (er h) h,λh''=>absurd h'' h⟩⟩
 have hw:=bF h;have hb:=(bt_iff _ _ _).1 h';refine ⟨⟨h,hb,hw.1,hw.2.1,hw.2.2.1⟩,λj hj=>absurd hj (Nat.not_lt_zero _),⟨?_,λj _ x hx=>?_⟩,(e0 h h').symm⟩
 ·rw [eP h h'];omega
 ·simp only [GN,DU,or_false] at hx;rcases hx with rfl|rfl<;>exact True.intro
end
def Qe8:UZ
 |[.agg [.x (.int .i64 c),.x (.int .i64 T),.x (.int .i64 lo),.x (.int .i64 hi),.lst 4 n fr,.lst 2 m ft,.x (.int .i64 pl),.x (.int .i64 ph),.x (.int .i64 dl),.x (.int .i64 dh)],.x (.int .i64 day),.fn (.func 76) [] []]=>some ([UF 4 n fr,UF 2 m ft],.tup [.lst 2 (hdN c T lo hi n (col 0 fr) (col 1 fr) (col 2 fr) (col 3 fr) m (Pt.col 0 ft) (Pt.col 1 ft) pl ph dl dh day) (λk=>[i (onL (wkA c T lo hi n (col 0 fr) (col 1 fr) (col 2 fr) (col 3 fr) m (Pt.col 0 ft) (Pt.col 1 ft) pl ph dl dh) k day),i (onH (wkA c T lo hi n (col 0 fr) (col 1 fr) (col 2 fr) (col 3 fr) m (Pt.col 0 ft) (Pt.col 1 ft) pl ph dl dh) k day)]),i (hdE c T lo hi n (col 0 fr) (col 1 fr) (col 2 fr) (col 3 fr) m (Pt.col 0 ft) (Pt.col 1 ft) pl ph dl dh day)])
 |_=>none
theorem Wq7:VQ VP 75 Qe8:=by
 refine ⟨(UK Tryz.func75),?_⟩;intro avs ns res h hn;unfold Qe8 at h;split at h
 ·cases h;have hr:UF 4 _ _:=hn _ GF;have ht:UF 2 _ _:=hn _ (HP _ GF);exact (Wq8 _ _ _ _ _ _ _ _ _ _ _ _ _ _ _ _ _).same (.cons (LV.same (.cons (.refl _) (.cons (.refl _) (.cons (.refl _) (.cons (.refl _) (.cons (.lst 4 _ _ _ hr) (.cons (.lst 2 _ _ _ ht) (.cons (.refl _) (.cons (.refl _) (.cons (.refl _) (.cons (.refl _) .nil))))))))))) (.cons (.refl _) (.cons (.refl _) .nil)))
 ·cases h
theorem vU(c T lo hi:Int)(n:Nat)(a b u v:Nat->Int)(m:Nat)(p q:Nat->Int)(pl ph dl dh:Int)(day:Int):FP VP 44 [.agg [i c,i T,i lo,i hi,rds n a b u v,Pt.scs m p q,i pl,i ph,i dl,i dh],i day] (.tup [.lst 2 (hdN c T lo hi n a b u v m p q pl ph dl dh day) (λk=>[i (onL (wkA c T lo hi n a b u v m p q pl ph dl dh) k day),i (onH (wkA c T lo hi n a b u v m p q pl ph dl dh) k day)]),i (hdE c T lo hi n a b u v m p q pl ph dl dh day)]):=by
 refine D1 (L:=[]) (VL.cons Wq7 (VL.nil _)) (VX.of (VR.nil _) (VO.nil _)) VZ Tryz.func44 (UV Tryz.f44) G8 (t:=need [UF 4 n λk=>[Bo.i (a k),Bo.i (b k),Bo.i (u k),Bo.i (v k)],UF 2 m λk=>[Pt.i (p k),Pt.i (q k)]] (leaf (tup [lst 2 (hdN c T lo hi n a b u v m p q pl ph dl dh day) λk=>[iI (onL (wkA c T lo hi n a b u v m p q pl ph dl dh) k day),iI (onH (wkA c T lo hi n a b u v m p q pl ph dl dh) k day)],iI (hdE c T lo hi n a b u v m p q pl ph dl dh day)]))) VU ?_
 simp only [VN.sat,UB,UJ];exact ⟨⟨Bo.isRec4 n a b u v,Pt.isRec2 m p q⟩,⟨rfl,rfl,λ_ _=>rfl⟩,⟨rfl,rfl⟩,True.intro⟩
end Go.Proofs.YtlclobclmfhlmaaGreatDoor
namespace Go.Proofs.YtlclobclmfhlmaaGreatDoor.Hd
open Go Go.Sx Go.RowKit Bo
open Go.Sx.VN (need branch leaf)
open Go.Sx.AV (lst ptr agg roI tup top)
def S2:UZ
 |[.x (.int .i64 n),.x (.int .i64 lo),.x (.int .i64 hi)]=>some ([],bl (bt lo n hi))
 |_=>none
abbrev WQ:Value:=Value.bool false
theorem VA{p:Prop}(h:p:=by
 simp only [VN.sat,UB,UY,GL,UE,UJ];all_goals (simp+contextual [bt,insB,Bo.bt,Bo.insB,Bool.and_assoc]);all_goals omega):p:=h
theorem pO(n lo hi:Int):VY VP 118 [i n,i lo,i hi] (bl (bt lo n hi)):=by
 refine GW Tryz.func118 (t:=branch (decide (lo<=n)) (leaf (RV.x (.bool (decide (n<=hi))))) (leaf (RV.x (WQ)))) VU ?_;exact VA
theorem zN:VQ VP 118 S2:=by
 refine ⟨(UK Tryz.func118),?_⟩;intro avs ns res h hn;unfold S2 at h;split at h
 ·cases h;exact pO _ _ _
 ·cases h
def S4:UZ
 |[.agg [.x (.int .i64 a),.x (.int .i64 b)],.x (.int .i64 lo),.x (.int .i64 hi)]=>some ([],bl (insB lo a b hi))
 |_=>none
theorem pT(a b lo hi:Int):VY VP 157 [.agg [i a,i b],i lo,i hi] (bl (insB lo a b hi)):=by
 refine GW Tryz.func157 (t:=branch (decide (lo<=a)) (branch (decide (a<=b)) (leaf (RV.x (.bool (decide (b<=hi))))) (leaf (RV.x (WQ)))) (leaf (RV.x (WQ)))) VU ?_;exact VA
theorem IN:VQ VP 157 S4:=by
 refine ⟨(UK Tryz.func157),?_⟩;intro avs ns res h hn;unfold S4 at h;split at h
 ·cases h;exact pT _ _ _ _
 ·cases h
def S3:UZ
 |[.agg [.x (.int .i64 a),.x (.int .i64 b)]]=>some ([],bl (insB (-100) a b 100))
 |_=>none
theorem pS(a b:Int):VY VP 117 [.agg [i a,i b]] (bl (insB (-100) a b 100)):=by
 refine U2 (L:=[]) (VL.cons IN (VL.nil _)) VZ Tryz.func117 (UV Tryz.f117) U3 (t:=leaf (RV.x (.bool (insB (-100:Int) a b (100:Int))))) VU ?_;exact V0
theorem pR:VQ VP 117 S3:=by
 refine ⟨(UK Tryz.func117),?_⟩;intro avs ns res h hn;unfold S3 at h;split at h
 ·cases h;exact pS _ _
 ·cases h
def Qf2:UZ
 |[.agg [.x (.int .i64 a),.x (.int .i64 b)]]=>some ([],bl (insB 0 a b 1000))
 |_=>none
theorem Ws7(a b:Int):VY VP 161 [.agg [i a,i b]] (bl (insB 0 a b 1000)):=by
 refine U2 (L:=[]) (VL.cons IN (VL.nil _)) VZ Tryz.func161 (UV Tryz.f161) U3 (t:=leaf (RV.x (.bool (insB (0:Int) a b (1000:Int))))) VU ?_;exact V0
theorem lC:VQ VP 161 Qf2:=by
 refine ⟨(UK Tryz.func161),?_⟩;intro avs ns res h hn;unfold Qf2 at h;split at h
 ·cases h;exact Ws7 _ _
 ·cases h
def aN:UZ
 |[.x (.int .i64 n)]=>some ([0<=n/\n<=1000],i (1+n))
 |_=>none
theorem Ws0(n:Int)(VT:0<=n/\n<=1000):VY VP 70 [i n] (i (1+n)):=by
 refine GW Tryz.func70 (t:=need [VM ((1:Int)+n)] (leaf (RV.x (.int .i64 ((1:Int)+n))))) VU ?_;simp only [VN.sat,UB,UY,GL,UE,VM,UJ];all_goals first|omega|grind
theorem RI:VQ VP 70 aN:=by
 refine ⟨(UK Tryz.func70),?_⟩;intro avs ns res h hn;unfold aN at h;split at h
 ·cases h;exact Ws0 _ (hn _ VW)
 ·cases h
def aO:UZ
 |[.x (.int .i64 n)]=>some ([0<=n/\n<=1000],i (7+n))
 |_=>none
theorem Ws2(n:Int)(VT:0<=n/\n<=1000):VY VP 123 [i n] (i (7+n)):=by
 refine GW Tryz.func123 (t:=need [VM ((7:Int)+n)] (leaf (RV.x (.int .i64 ((7:Int)+n))))) VU ?_;exact VD
theorem LU:VQ VP 123 aO:=by
 refine ⟨(UK Tryz.func123),?_⟩;intro avs ns res h hn;unfold aO at h;split at h
 ·cases h;exact Ws2 _ (hn _ VW)
 ·cases h
def kF:UZ:=kD
theorem Qq6(a b:Int):VY VP 124 [.lst 1 2 (λk=>[i (if k=0 then a else b)])] (i (min a b)):=by
 refine U2 (L:=[]) (VL.cons SJ (VL.nil _)) VZ Tryz.func124 (UV Tryz.f124) U3 (t:=leaf (RV.x (.int .i64 (min (if 0=0 then a else b) (if 1=0 then a else b))))) VU ?_
 simp [VN.sat,UY,UE]
theorem R9:VQ VP 124 kF:=by
 refine ⟨(UK Tryz.func124),?_⟩;intro avs ns res h hn;unfold kF kD at h;split at h
 ·rename_i f;split at h
  ·rename_i a b h0 h1;cases h;refine (Qq6 a b).same (.cons (.lst 1 2 _ _ ?_) .nil);intro k hk;rcases (show k=0\/k=1 by omega) with rfl|rfl
   ·exact h0
   ·exact h1
  ·cases h
 ·cases h
def lU:UZ
 |[.agg [.lst 2 3 f,.x (.int .i64 er),.lst 3 N bf],.x (.int .i64 n)]=>some ([],bl (bt 0 n 2))
 |_=>none
theorem Qq7(f:Nat->List AV)(er:Int)(N:Nat)(bf:Nat->List AV)(n:Int):VY VP 160 [.agg [.lst 2 3 f,i er,.lst 3 N bf],i n] (bl (bt 0 n 2)):=by
 refine U2 (L:=[]) (VL.cons zN (VL.nil _)) VZ Tryz.func160 (UV Tryz.f160) U3 (t:=need [VM ((↑(3:Nat):Int)-1)] (leaf (RV.x (.bool (bt (0:Int) n ((↑(3:Nat):Int)-1)))))) VU ?_;simp [VN.sat,UB,UY,UE,VM]
theorem OK:VQ VP 160 lU:=by
 refine ⟨(UK Tryz.func160),?_⟩;intro avs ns res h hn;unfold lU at h;split at h
 ·cases h;exact Qq7 _ _ _ _ _
 ·cases h
def snB(r:Nat->Int):Nat->Int->Bool
 | 0,_=>false
 |k+1,q=>snB r k q||(r k==q)
theorem sZ(r:Nat->Int)(q:Int): ∀k,snB r k q=true↔ ∃j,j<k/\r j=q
 | 0=>by simp [snB]
 |k+1=>by
  simp only [snB,Bool.or_eq_true,sZ r q k,beq_iff_eq];constructor
  ·rintro (⟨j,h1,h2⟩|h)
   ·exact ⟨j,VK,h2⟩
   ·exact ⟨k,VK,h⟩
  ·rintro ⟨j,h1,h2⟩;rcases (show j<k\/j=k by omega) with h|rfl
   ·exact .inl ⟨j,h,h2⟩
   ·exact .inr h2
abbrev bts(m:Nat)(r v:Nat->Int):AV:= .lst 2 m (λj=>[i (r j),i (v j)])
abbrev WI(f:Nat->List AV):AV:=lst 2 3 λa=>f a
abbrev XH(m:Nat)(r:Nat->Int)(v:Nat->Int):AV:=lst 2 m λj=>[iI (r j),iI (v j)]
abbrev K2(N:Nat)(bf:Nat->List AV):AV:=lst 3 N λa=>bf a
section
variable (f:Nat->List AV)(er:Int)(N:Nat)(bf:Nat->List AV)(lo hi:Int)(m:Nat)(r v:Nat->Int)
def Zr9:St:={σ:=[agg [WI f,iI er,K2 N bf],agg [iI lo,iI hi,XH m r v],ptr 0 0,ptr 1 0,top,ptr 3 0,top,top,top,XH m r v,iI (m:Int)]++HI 28 [],m:=[(3,GO.cells 264 [AV.x (WQ),AV.x (WQ),AV.x (WQ),AV.x (WQ),AV.x (WQ),AV.x (WQ)]),(1,GO.cells 75 [iI lo,iI hi,XH m r v]),(0,GO.cells 103 [WI f,iI er,K2 N bf])],nx:=8}
noncomputable def Jr7:Code:=U9 (VS (U8 Tryz.f120) 0)
def Wj3(k:Nat):St:=(upE [(11,i k)] [(3,.cells 264 [bl (snB r (k) 0),bl (snB r (k) 1),bl (snB r (k) 2),bl (snB r (k) 3),bl (snB r (k) 4),bl (snB r (k) 5)]),(1,.cells 75 [i lo,i hi,bts m r v]),(0,.cells 103 [.lst 2 3 f,i er,.lst 3 N bf])] (Zr9 f er N bf lo hi m r v))
def E1(k:Nat):G6->Option St
 | .exit 0=>some (upE [] [(3,.cells 264 [bl (snB r (m) 0),bl (snB r (m) 1),bl (snB r (m) 2),bl (snB r (m) 3),bl (snB r (m) 4),bl (snB r (m) 5)]),(1,.cells 75 [i lo,i hi,bts m r v]),(0,.cells 103 [.lst 2 3 f,i er,.lst 3 N bf])] (Zr9 f er N bf lo hi m r v))
 |_=>none
def Jn3:CT:= .leaf (.exit 0,(E1 f er N bf lo hi m r v 0 (.exit 0)).getD (Zr9 f er N bf lo hi m r v))
def Xy0:UG:=(HF (Wj3 f er N bf lo hi m r v (0)) (Jn3 f er N bf lo hi m r v))
end
abbrev QL:Prop:=ptr 0 0=ptr 0 0
abbrev WS:Prop:=ptr 1 0=ptr 1 0
abbrev ZI:Prop:=ptr 3 0=ptr 3 0
theorem YZ{p:Prop}(h:p:=by
 (with_reducible repeat' first|apply And.intro|intro _)
 all_goals first|exact True.intro|omega|with_reducible rfl|(rename_i E hE;cases hE;exact hQ)|rfl):p:=h
section
variable (f:Nat->List AV)(er:Int)(N:Nat)(bf:Nat->List AV)(lo hi:Int)(m:Nat)(r v:Nat->Int)
theorem Ji5(VT:m<=1000)(UI: ∀j,j<m->0<=r j/\r j<=2/\ -1000<=v j/\v j<=2000)(HR: ∀j k,j<k->k<m->r j≠r k)(F1:insB 0 lo hi 1000=true):G5 VP (.loop Jr7) (Xy0 f er N bf lo hi m r v):=by
 refine HH (L:=[]) (VL.cons OK (VL.cons zN (VL.cons lC (VL.nil _)))) VZ U3 (X:=Nat) (Wj3 f er N bf lo hi m r v) (λk=>k<=m) (λk=>m-k) (E1 f er N bf lo hi m r v) (x0:=0) VW ?_ ?_ ?_
 ·rintro k;kernel_rfl
 ·rintro k y E h;unfold E1 at h;split at h
  ·cases h;kernel_rfl
  ·cases h
 ·rintro Q hQ k hx;refine ⟨(k+1),?_⟩;(with_reducible refine D6 (t:=branch (decide ((k:Int)<(m:Int))) (need [UH k m] (branch (!bt (0:Int) (r k) (2:Int)) VN.fail (need [UH (r k) 6] (need [0+(r k).toNat*1<List.length [snB r k (0:Int),snB r k (1:Int),snB r k (2:Int),snB r k (3:Int),snB r k (4:Int),snB r k (5:Int)]] (branch (match [snB r k (0:Int),snB r k (1:Int),snB r k (2:Int),snB r k (3:Int),snB r k (4:Int),snB r k (5:Int)][0+(r k).toNat*1]? with|some x=>x|none=>false) VN.fail (branch (!bt (-1000:Int) (v k) (2000:Int)) VN.fail (need [UH (r k) 6] (need [0+(r k).toNat*1<List.length [snB r k (0:Int),snB r k (1:Int),snB r k (2:Int),snB r k (3:Int),snB r k (4:Int),snB r k (5:Int)]] (need [VM ((k:Int)+1)] (need [U0 (agg [WI f,iI er,K2 N bf]),U0 (agg [iI lo,iI hi,XH m r v]),QL,WS,ZI,U0 (XH m r v),U0 (m:Int),(k:Int)+1=(↑(k+1):Int),(if 0=0+(r k).toNat*1 then true else snB r k (0:Int))=snB r (k+1) (0:Int),(if 1=0+(r k).toNat*1 then true else snB r k (1:Int))=snB r (k+1) (1:Int),(if 2=0+(r k).toNat*1 then true else snB r k (2:Int))=snB r (k+1) (2:Int),(if 3=0+(r k).toNat*1 then true else snB r k (3:Int))=snB r (k+1) (3:Int),(if 4=0+(r k).toNat*1 then true else snB r k (4:Int))=snB r (k+1) (4:Int),(if 5=0+(r k).toNat*1 then true else snB r k (5:Int))=snB r (k+1) (5:Int),lo=lo,hi=hi,U0 (XH m r v),WI f=WI f,er=er,U0 (K2 N bf)] (leaf G6.normal))))))))))) (need [U0 (agg [WI f,iI er,K2 N bf]),U0 (agg [iI lo,iI hi,XH m r v]),QL,WS,ZI,U0 (XH m r v),U0 (m:Int),snB r k (0:Int)=snB r m (0:Int),snB r k (1:Int)=snB r m (1:Int),snB r k (2:Int)=snB r m (2:Int),snB r k (3:Int)=snB r m (3:Int),snB r k (4:Int)=snB r m (4:Int),snB r k (5:Int)=snB r m (5:Int),lo=lo,hi=hi,U0 (XH m r v),WI f=WI f,er=er,U0 (K2 N bf)] (leaf (G6.exit 0)))) VU ?_)
  simp only [Jn3,E1,VN.sat,GS] at hQ;simp only [VN.sat,UB,UY,GL,UE,VM,UJ,H6,FO,FT,RH,GJ,E1]
  refine ⟨λh=>?_,λh=>?_⟩
  ·obtain ⟨h0,h1,h2,h3⟩:=UI k VK;have hno:snB r k (r k)=false:=by
    rw [←Bool.not_eq_true,sZ];rintro ⟨j,hj,he⟩;exact HR j k hj VK he
   have hb1:bt 0 (r k) 2=true:=(bt_iff _ _ _).2 VK;have hb2:bt (-1000) (v k) 2000=true:=(bt_iff _ _ _).2 VK;rcases (show r k=0\/r k=1\/r k=2 by omega) with hr|hr|hr
   all_goals
    rw [hr] at hno hb1;simp [hr,hno,hb1,hb2,snB];exact YZ
  ·obtain rfl:k=m:=VK;exact YZ
theorem Wt0(VT:m<=1000)(UI: ∀j,j<m->0<=r j/\r j<=2/\ -1000<=v j/\v j<=2000)(HR: ∀j k,j<k->k<m->r j≠r k)(F1:insB 0 lo hi 1000=true):VY VP 120 [.agg [.lst 2 3 f,i er,.lst 3 N bf],.agg [i lo,i hi,bts m r v]] (bl true):=by
 refine U2 (L:=[Xy0 f er N bf lo hi m r v]) (VL.cons OK (VL.cons zN (VL.cons lC (VL.nil _)))) VZ Tryz.func120 (UV Tryz.f120) (G7 (lpE (b:= .loop Jr7) VU<|Ji5 f er N bf lo hi m r v VT UI HR F1)) (t:=need [U0 (agg [WI f,iI er,K2 N bf]),U0 (agg [iI lo,iI hi,XH m r v]),QL,WS,ZI,U0 (XH m r v),U0 (m:Int),(0:Int)=(↑(0:Nat):Int),false=snB r 0 (0:Int),false=snB r 0 (1:Int),false=snB r 0 (2:Int),false=snB r 0 (3:Int),false=snB r 0 (4:Int),false=snB r 0 (5:Int),lo=lo,hi=hi,U0 (XH m r v),WI f=WI f,er=er,U0 (K2 N bf)] (leaf (RV.x (.bool (insB (0:Int) lo hi (1000:Int)))))) VU ?_
 exact V0
end
def Qj7(m:Nat)(r v:Nat->Int):Prop:=m<=1000/\(∀j,j<m->0<=r j/\r j<=2/\ -1000<=v j/\v j<=2000)/\ ∀j k,j<k->k<m->r j≠r k
section
variable (N:Nat)(lo hi:Nat->Int)(m:Nat->Nat)(g:Nat->Nat->List AV)
abbrev bgs:AV:= .lst 3 N (λk=>[i (lo k),i (hi k),.lst 2 (m k) (g k)])
def Qq3:Prop:= ∀k,k<N->UF 2 (m k) (g k)/\Qj7 (m k) (col 0 (g k)) (col 1 (g k))/\insB 0 (lo k) (hi k) 1000=true
end
def vB(N:Nat)(bf:Nat->List AV):Prop:=N<=6/\ ∃(lo hi:Nat->Int) (m:Nat->Nat) (g:Nat->Nat->List AV),(∀k,k<N->bf k=[i (lo k),i (hi k),.lst 2 (m k) (g k)])/\Qq3 N lo hi m g
def Qf3:UZ
 |[.agg [.lst 2 3 f,.x (.int .i64 er),.lst 3 N bf],.agg [.x (.int .i64 lo),.x (.int .i64 hi),.lst 2 m g]]=>some ([UF 2 m g,Qj7 m (col 0 g) (col 1 g),insB 0 lo hi 1000=true],bl true)
 |_=>none
theorem Ws9:VQ VP 120 Qf3:=by
 refine ⟨(UK Tryz.func120),?_⟩;intro avs ns res h hn;unfold Qf3 at h;split at h
 ·cases h;have hr:_:=hn _ (GF);have hr1:_:=hn _ (HP _ (GF));have hr2:_:=hn _ (HP _ (HP _ (GF)));exact (Wt0 _ _ _ _ _ _ _ (col 0 _) (col 1 _) hr1.1 hr1.2.1 hr1.2.2 hr2).same (.cons (.refl _) (.cons (LV.same (.cons (.refl _) (.cons (.refl _) (.cons (.lst 2 _ _ _ hr) .nil)))) .nil))
 ·cases h
def lW:UZ
 |[.agg [.x (.int .i64 lo),.x (.int .i64 hi),.lst 2 m g],.ro [.fn (.func 120) [.agg [.lst 2 3 f,.x (.int .i64 er),.lst 3 N bf]] []]]=>some ([UF 2 m g,Qj7 m (col 0 g) (col 1 g),insB 0 lo hi 1000=true],bl false)
 |_=>none
theorem Qq9(lo hi:Int)(m:Nat)(g:Nat->List AV)(f:Nat->List AV)(er:Int)(N:Nat)(bf:Nat->List AV)(VT:UF 2 m g)(UI:Qj7 m (col 0 g) (col 1 g))(HR:insB 0 lo hi 1000=true):VY VP 159 [.agg [i lo,i hi,.lst 2 m g],.ro [.fn (.func 120) [.agg [.lst 2 3 f,i er,.lst 3 N bf]] []]] (bl false):=by
 refine U2 (L:=[]) (VL.cons Ws9 (VL.nil _)) VZ Tryz.func159 (UV Tryz.f159) U3 (t:=need [UF 2 m g,Qj7 m (col 0 g) (col 1 g),insB (0:Int) lo hi (1000:Int)=true] (leaf (RV.x (.bool !true)))) VU ?_;exact V0
theorem ON:VQ VP 159 lW:=by
 refine ⟨(UK Tryz.func159),?_⟩;intro avs ns res h hn;unfold lW at h;split at h
 ·cases h;exact Qq9 _ _ _ _ _ _ _ _ (hn _ VW) (hn _ VW) (hn _ VW)
 ·cases h
abbrev XR(f:Nat->List AV)(er:Int)(N1:Nat)(bf:Nat->List AV):AV:=AV.fn (Fn.func 159) [] [AV.ro [AV.fn (Fn.func 120) [agg [WI f,iI er,lst 3 N1 λa=>bf a]] []]]
section
variable (N:Nat)
abbrev J4(lo:Nat->Int)(hi:Nat->Int)(m:Nat->Nat)(g:Nat->Nat->List AV):AV:=lst 3 N λk=>[iI (lo k),iI (hi k),lst 2 (m k) λa=>g k a]
def aW(lo hi:Nat->Int)(m:Nat->Nat)(g:Nat->Nat->List AV)(f:Nat->List AV)(er:Int)(N1:Nat)(bf:Nat->List AV):St:={σ:=[J4 N lo hi m g,XR f er N1 bf]++HI 5 [iI (N:Int)]++HI 11 [],m:=[],nx:=4}
noncomputable def Qi3:Code:=U9 (VS (U8 Tryz.f196) 0)
def NW(lo hi:Nat->Int)(m:Nat->Nat)(g:Nat->Nat->List AV)(f:Nat->List AV)(er:Int)(N1:Nat)(bf:Nat->List AV)(k:Nat):St:=(upM [(8,i k)] (aW N lo hi m g f er N1 bf))
def x6(lo hi:Nat->Int)(m:Nat->Nat)(g:Nat->Nat->List AV)(f:Nat->List AV)(er:Int)(N1:Nat)(bf:Nat->List AV)(k:Nat):G6->Option St
 | .exit 0=>some (upM [] (aW N lo hi m g f er N1 bf))
 |_=>none
def Qd6(lo hi:Nat->Int)(m:Nat->Nat)(g:Nat->Nat->List AV)(f:Nat->List AV)(er:Int)(N1:Nat)(bf:Nat->List AV):CT:= .leaf (.exit 0,(x6 N lo hi m g f er N1 bf 0 (.exit 0)).getD (aW N lo hi m g f er N1 bf))
def mA(lo hi:Nat->Int)(m:Nat->Nat)(g:Nat->Nat->List AV)(f:Nat->List AV)(er:Int)(N1:Nat)(bf:Nat->List AV):UG:=(HF (NW N lo hi m g f er N1 bf (0)) (Qd6 N lo hi m g f er N1 bf))
end
theorem VH{p:Prop}(h:p:=by
 (with_reducible repeat' first|apply And.intro|intro _)
 all_goals first|exact True.intro|(rename_i E hE;cases hE;exact hQ)|omega|rfl|assumption):p:=h
section
variable (N:Nat)(lo hi:Nat->Int)(m:Nat->Nat)(g:Nat->Nat->List AV)(f:Nat->List AV)(er:Int)(N1:Nat)(bf:Nat->List AV)
theorem Qt0(VT:N<=6)(UI:Qq3 N lo hi m g):G5 VP (.loop Qi3) (mA N lo hi m g f er N1 bf):=by
 refine HH (L:=[]) (VL.cons ON (VL.nil _)) VZ U3 (X:=Nat) (NW N lo hi m g f er N1 bf) (λk=>k<=N) (λk=>N-k) (x6 N lo hi m g f er N1 bf) (x0:=0) VW ?_ ?_ ?_
 ·rintro k;kernel_rfl
 ·rintro k y E h;unfold x6 at h;split at h
  ·cases h;kernel_rfl
  ·cases h
 ·rintro Q hQ k hx;refine ⟨(k+1),?_⟩;(with_reducible refine D6 (t:=branch (decide ((k:Int)<(N:Int))) (need [UH k N] (need [UF 2 (m k) λa=>g k a,Qj7 (m k) (col 0 λa=>g k a) (col 1 λa=>g k a),insB (0:Int) (lo k) (hi k) (1000:Int)=true] (branch false VN.fail (need [VM ((k:Int)+1)] (need [U0 (J4 N lo hi m g),U0 (XR f er N1 bf),U0 (N:Int),(k:Int)+1=(↑(k+1):Int)] (leaf G6.normal)))))) (need [U0 (J4 N lo hi m g),U0 (XR f er N1 bf),U0 (N:Int)] (leaf (G6.exit 0)))) VU ?_)
  simp only [Qd6,x6,VN.sat,GS] at hQ;simp only [VN.sat,UB,UJ,H6,VM,x6,FA]
  refine ⟨λh=>?_,λh=>?_⟩
  ·have hk:k<N:=VK;obtain ⟨h1,h2,h3⟩:=UI k hk;all_goals exact V7
  ·obtain rfl:k=N:=VK;exact VH
abbrev KI:Value:=Value.int IntKind.i64 (-1:Int)
theorem Xj5(VT:N<=6)(UI:Qq3 N lo hi m g):VY VP 196 [bgs N lo hi m g,.fn (.func 159) [] [.ro [.fn (.func 120) [.agg [.lst 2 3 f,i er,.lst 3 N1 bf]] []]]] (i (-1)):=by
 refine U2 (L:=[mA N lo hi m g f er N1 bf]) (VL.cons ON (VL.nil _)) VZ Tryz.func196 (UV Tryz.f196) (G7 (lpE (b:= .loop Qi3) VU<|Qt0 N lo hi m g f er N1 bf VT UI)) (t:=need [U0 (J4 N lo hi m g),U0 (XR f er N1 bf),U0 (N:Int),(0:Int)=(↑(0:Nat):Int)] (leaf (RV.x (KI)))) VU ?_
 exact V0
end
def Wv4:UZ
 |[.lst 3 N b,.fn (.func 159) [] [.ro [.fn (.func 120) [.agg [.lst 2 3 f,.x (.int .i64 er),.lst 3 N1 bf]] []]]]=>some ([vB N b],i (-1))
 |_=>none
theorem Xj4:VQ VP 196 Wv4:=by
 refine ⟨(UK Tryz.func196),?_⟩;intro avs ns res h hn;unfold Wv4 at h;split at h
 ·cases h;obtain ⟨h0,lo,hi,m,g,he,hb⟩:vB _ _:=hn _ GF;exact (Xj5 _ lo hi m g _ _ _ _ h0 hb).same (.cons (.lst 3 _ _ _ he) (.cons (.refl _) .nil))
 ·cases h
theorem Qw7{N:Nat}{lo hi:Nat->Int}{m:Nat->Nat}{g:Nat->Nat->List AV}(h0:N<=6)(hb:Qq3 N lo hi m g):vB N (λk=>[i (lo k),i (hi k),.lst 2 (m k) (g k)]):=⟨h0,lo,hi,m,g,λ_ _=>rfl,hb⟩
theorem Xk4(N:Nat)(lo hi:Nat->Int)(m:Nat->Nat)(g:Nat->Nat->List AV)(f:Nat->List AV)(er:Int)(N1:Nat)(bf:Nat->List AV)(VT:N<=6)(UI:Qq3 N lo hi m g):VY VP 158 [bgs N lo hi m g,.fn (.func 159) [] [.ro [.fn (.func 120) [.agg [.lst 2 3 f,i er,.lst 3 N1 bf]] []]]] (bl false):=by
 refine U2 (L:=[]) (VL.cons Xj4 (VL.nil _)) VZ Tryz.func158 (UV Tryz.f158) U3 (t:=need [vB N λk=>[i (lo k),i (hi k),lst 2 (m k) (g k)]] (leaf (RV.x (.bool (decide ((-1:Int)>=(0:Int))))))) VU ?_
 simp only [VN.sat,UB,UY,GL,UE,UJ,FA];exact ⟨Qw7 VT UI,rfl⟩
def Wv8:UZ
 |[.lst 3 N b,.fn (.func 159) [] [.ro [.fn (.func 120) [.agg [.lst 2 3 f,.x (.int .i64 er),.lst 3 N1 bf]] []]]]=>some ([vB N b],bl false)
 |_=>none
theorem Xk3:VQ VP 158 Wv8:=by
 refine ⟨(UK Tryz.func158),?_⟩;intro avs ns res h hn;unfold Wv8 at h;split at h
 ·cases h;obtain ⟨h0,lo,hi,m,g,he,hb⟩:vB _ _:=hn _ GF;exact (Xk4 _ lo hi m g _ _ _ _ h0 hb).same (.cons (.lst 3 _ _ _ he) (.cons (.refl _) .nil))
 ·cases h
theorem Wt4(N:Nat)(lo hi:Nat->Int)(m:Nat->Nat)(g:Nat->Nat->List AV)(f:Nat->List AV)(er:Int)(N1:Nat)(bf:Nat->List AV)(VT:N<=6)(UI:Qq3 N lo hi m g):VY VP 119 [bgs N lo hi m g,.fn (.func 120) [.agg [.lst 2 3 f,i er,.lst 3 N1 bf]] []] (bl true):=by
 refine U2 (L:=[]) (VL.cons Xk3 (VL.nil _)) VZ Tryz.func119 (UV Tryz.f119) U3 (t:=need [vB N λk=>[i (lo k),i (hi k),lst 2 (m k) (g k)]] (leaf (RV.x (.bool !false)))) VU ?_
 simp only [VN.sat,UB,UY,GL,UE,UJ,FA];exact ⟨Qw7 VT UI,rfl⟩
def Qf5:UZ
 |[.lst 3 N b,.fn (.func 120) [.agg [.lst 2 3 f,.x (.int .i64 er),.lst 3 N1 bf]] []]=>some ([vB N b],bl true)
 |_=>none
theorem Wt3:VQ VP 119 Qf5:=by
 refine ⟨(UK Tryz.func119),?_⟩;intro avs ns res h hn;unfold Qf5 at h;split at h
 ·cases h;obtain ⟨h0,lo,hi,m,g,he,hb⟩:vB _ _:=hn _ GF;exact (Wt4 _ lo hi m g _ _ _ _ h0 hb).same (.cons (.lst 3 _ _ _ he) (.cons (.refl _) .nil))
 ·cases h
def oL(k:Nat):Int:=if k=0 then 0 else -9
def oH(k:Nat):Int:=if k=0 then 0 else 9
def ofB(f:Nat->List AV):Prop:= ∀k,k<3->f k=[i (oL k),i (oH k)]
abbrev ofs:AV:= .lst 2 3 (λk=>[i (oL k),i (oH k)])
def HD(m:Nat->Nat):Nat->Nat
 | 0=>0
 |b+1=>HD m b+m b
def GE(m:Nat->Nat):Nat->Nat->Nat×Nat
 | 0,q=>(0,q)
 |N+1,q=>if q<HD m N then GE m N q else (N,q-HD m N)
def Wa4(m:Nat->Nat)(N:Nat)(r v:Nat->Nat->Int)(q:Nat):List Value:=
 [.agg #[.int .i64 (GE m N q).1,.int .i64 (GE m N q).2],.agg #[.int .i64 (r (GE m N q).1 (GE m N q).2),.int .i64 (v (GE m N q).1 (GE m N q).2)]]
abbrev bds(N:Nat)(lo hi:Nat->Int)(m:Nat->Nat)(r v:Nat->Nat->Int):AV:= .lst 3 N (λk=>[i (lo k),i (hi k),bts (m k) (r k) (v k)])
theorem aA{P:Program}{ro:Option Nat}{cx:Cx}{c:Code}{t:Nat}{F:Nat->UG}(h: ∀k,HJ P ro cx c (F k)):HJ P ro cx c (B6 t F):=by
 intro n s tr ht Q hQ a w r;unfold B6 at ht;split at ht
 ·exact h _ n s tr ht Q hQ a w r
 ·cases ht
theorem NJ(m:Nat->Nat){b c:Nat}(h:b<=c):HD m b<=HD m c:=by
 induction h with
 |refl=>exact Nat.le_refl _
 |step _ ih=>exact Nat.le_trans ih (Nat.le_add_right _ _)
theorem tV(m:Nat->Nat): ∀(N b n:Nat),b<N->n<m b->GE m N (HD m b+n)=(b,n)
 | 0,_,_,h,_=>VK
 |N+1,b,n,h,hn=>by
  unfold GE;rcases (show b<N\/b=N by omega) with hb|rfl
  ·have:=NJ m (show b+1<=N by omega)
   simp only [HD] at this;rw [if_pos VK,tV m N b n hb hn]
  ·rw [if_neg VK];simp
theorem TI(m:Nat->Nat): ∀(N q:Nat),q<HD m N->(GE m N q).1<N/\(GE m N q).2<m (GE m N q).1
 | 0,_,h=>by simp [HD] at h
 |N+1,q,h=>by
  simp only [HD] at h;unfold GE;split
  ·rename_i hq;obtain ⟨h1,h2⟩:=TI m N q hq;exact ⟨VK,h2⟩
  ·exact ⟨VW,by simp;omega⟩
def lV:UZ
 |[.agg [.x (.int .i64 a),.x (.int .i64 b)],.ro [.fn (.func 117) [] []]]=>some ([],bl (!insB (-100) a b 100))
 |_=>none
theorem Qq8(a b:Int):VY VP 156 [.agg [i a,i b],.ro [.fn (.func 117) [] []]] (bl (!insB (-100) a b 100)):=by
 refine U2 (L:=[]) (VL.cons pR (VL.nil _)) VZ Tryz.func156 (UV Tryz.f156) U3 (t:=leaf (RV.x (.bool !insB (-100:Int) a b (100:Int)))) VU ?_;exact V0
theorem OL:VQ VP 156 lV:=by
 refine ⟨(UK Tryz.func156),?_⟩;intro avs ns res h hn;unfold lV at h;split at h
 ·cases h;exact Qq8 _ _
 ·cases h
abbrev ZF:AV:=AV.fn (Fn.func 156) [] [AV.ro [AV.fn (Fn.func 117) [] []]]
def aV:St:={σ:=[lst 2 3 λk=>[iI (oL k),iI (oH k)],ZF]++HI 5 [iI (↑(3:Nat):Int)]++HI 11 [],m:=[],nx:=4}
noncomputable def Qi2:Code:=U9 (VS (U8 Tryz.f195) 0)
def NV(k:Nat):St:=(upM [(8,i k)] (aV))
def wZ(k:Nat):G6->Option St
 | .exit 0=>some (upM [] (aV))
 |_=>none
def Qd5:CT:= .leaf (.exit 0,(wZ 0 (.exit 0)).getD (aV))
def m9:UG:=(HF (NV (0)) (Qd5))
theorem Qs9:G5 VP (.loop Qi2) (m9):=by
 refine HH (L:=[]) (VL.cons OL (VL.nil _)) VZ U3 (X:=Nat) (NV) (λk=>k<=3) (λk=>3-k) (wZ) (x0:=0) VW ?_ ?_ ?_
 ·rintro k;kernel_rfl
 ·rintro k y E h;unfold wZ at h;split at h
  ·cases h;kernel_rfl
  ·cases h
 ·rintro Q hQ k hx;refine ⟨(k+1),?_⟩;(with_reducible refine D6 (t:=branch (decide ((k:Int)<(↑(3:Nat):Int))) (need [UH k 3] (branch (!insB (-100:Int) (oL k) (oH k) (100:Int)) VN.fail (need [VM ((k:Int)+1)] (need [U0 (lst 2 3 λk=>[iI (oL k),iI (oH k)]),ZF=ZF,U0 (↑(3:Nat):Int),(k:Int)+1=(↑(k+1):Int)] (leaf G6.normal))))) (need [U0 (lst 2 3 λk=>[iI (oL k),iI (oH k)]),ZF=ZF,U0 (↑(3:Nat):Int)] (leaf (G6.exit 0)))) VU ?_)
  simp only [Qd5,wZ,VN.sat,GS] at hQ;simp only [VN.sat,UB,UJ,H6,VM,wZ,FA]
  refine ⟨λh=>?_,λh=>?_⟩
  ·have hk:k<3:=VK;rcases (show k=0\/k=1\/k=2 by omega) with rfl|rfl|rfl<;>simp [oL,oH,insB,Bo.insB]
   all_goals exact V7
  ·obtain rfl:k=3:=VK;exact VH
theorem Xj3:VY VP 195 [ofs,.fn (.func 156) [] [.ro [.fn (.func 117) [] []]]] (i (-1)):=by
 refine U2 (L:=[m9]) (VL.cons OL (VL.nil _)) VZ Tryz.func195 (UV Tryz.f195) (G7 (lpE (b:= .loop Qi2) VU<|Qs9)) (t:=need [U0 (lst 2 3 λk=>[iI (oL k),iI (oH k)]),ZF=ZF,U0 (↑(3:Nat):Int),(0:Int)=(↑(0:Nat):Int)] (leaf (RV.x (KI)))) VU ?_
 exact V0
def Wv3:UZ
 |[.lst 2 3 f,.fn (.func 156) [] [.ro [.fn (.func 117) [] []]]]=>some ([ofB f],i (-1))
 |_=>none
theorem Xj2:VQ VP 195 Wv3:=by
 refine ⟨(UK Tryz.func195),?_⟩;intro avs ns res h hn;unfold Wv3 at h;split at h
 ·cases h;have hr:_:=hn _ (GF);exact (Xj3).same (.cons (.lst 2 3 _ _ hr) (.cons (.refl _) .nil))
 ·cases h
theorem Xk2:VY VP 155 [ofs,.fn (.func 156) [] [.ro [.fn (.func 117) [] []]]] (bl false):=by
 refine U2 (L:=[]) (VL.cons Xj2 (VL.nil _)) VZ Tryz.func155 (UV Tryz.f155) U3 (t:=need [ofB λk=>[i (oL k),i (oH k)]] (leaf (RV.x (.bool (decide ((-1:Int)>=(0:Int))))))) VU ?_
 simp only [VN.sat,UB,UY,GL,UE,UJ,FA];exact ⟨λ_ _=>rfl,rfl⟩
def Wv7:UZ
 |[.lst 2 3 f,.fn (.func 156) [] [.ro [.fn (.func 117) [] []]]]=>some ([ofB f],bl false)
 |_=>none
theorem Xk1:VQ VP 155 Wv7:=by
 refine ⟨(UK Tryz.func155),?_⟩;intro avs ns res h hn;unfold Wv7 at h;split at h
 ·cases h;have hr:_:=hn _ (GF);exact (Xk2).same (.cons (.lst 2 3 _ _ hr) (.cons (.refl _) .nil))
 ·cases h
theorem Wt2:VY VP 116 [ofs,.fn (.func 117) [] []] (bl true):=by
 refine U2 (L:=[]) (VL.cons Xk1 (VL.nil _)) VZ Tryz.func116 (UV Tryz.f116) U3 (t:=need [ofB λk=>[i (oL k),i (oH k)]] (leaf (RV.x (.bool !false)))) VU ?_
 simp only [VN.sat,UB,UY,GL,UE,UJ,FA];exact ⟨λ_ _=>rfl,rfl⟩
def Qf4:UZ
 |[.lst 2 3 f,.fn (.func 117) [] []]=>some ([ofB f],bl true)
 |_=>none
theorem Wt1:VQ VP 116 Qf4:=by
 refine ⟨(UK Tryz.func116),?_⟩;intro avs ns res h hn;unfold Qf4 at h;split at h
 ·cases h;have hr:_:=hn _ (GF);exact (Wt2).same (.cons (.lst 2 3 _ _ hr) (.cons (.refl _) .nil))
 ·cases h
def lX:UZ
 |[.agg [.lst 2 3 f,.x (.int .i64 1),.lst 3 N bf]]=>some ([ofB f,vB N bf],i 0)
 |_=>none
abbrev X7:Value:=Value.int IntKind.i64 (0:Int)
abbrev JV:Value:=Value.int IntKind.i64 (1:Int)
abbrev KK:Value:=Value.int IntKind.i64 (3:Int)
theorem Qr1(f:Nat->List AV)(N:Nat)(bf:Nat->List AV)(VT:ofB f)(UI:vB N bf):VY VP 91 [.agg [.lst 2 3 f,i 1,.lst 3 N bf]] (i 0):=by
 refine U2 (L:=[]) (VL.cons Wt1 (VL.cons Wt3 (VL.cons zN (VL.nil _)))) VZ Tryz.func91 (UV Tryz.f91) U3 (t:=branch (decide ((↑(3:Nat):Int)>6)) (leaf (RV.x (KK))) (branch (decide ((N:Int)>6)) (leaf (RV.x (KK))) (branch ((↑(3:Nat):Int)==0) (leaf (RV.x (JV))) (need [ofB f] (branch (!true) (leaf (RV.x (JV))) (branch (!bt (0:Int) (1:Int) (20:Int)) (leaf (RV.x (JV))) (need [vB N bf] (branch (!true) (leaf (RV.x (JV))) (leaf (RV.x (X7))))))))))) VU ?_;simp only [VN.sat,UB,UY,GL,UE,UJ,FA];have h6:=UI.1;simp [bt,Bo.bt,VT,UI];omega
theorem Qr0:VQ VP 91 lX:=by
 refine ⟨(UK Tryz.func91),?_⟩;intro avs ns res h hn;unfold lX at h;split at h
 ·cases h;exact Qr1 _ _ _ (hn _ VW) (hn _ VW)
 ·cases h
def M1:UZ
 |[.agg [.lst 2 3 f,.x (.int .i64 er),.lst 3 N bf]]=>some ([],.fn (.func 162) [] [.ro [.lst 2 3 f,i er,.lst 3 N bf]])
 |_=>none
abbrev WA:Ext:={}
theorem Qq4(f:Nat->List AV)(er:Int)(N:Nat)(bf:Nat->List AV):FP VP 121 [.agg [.lst 2 3 f,i er,.lst 3 N bf]] (.fn (.func 162) [] [.ro [.lst 2 3 f,i er,.lst 3 N bf]]):=by
 refine D1 (L:=[]) (VL.nil _) (VX.of (VR.nil _) (VO.nil _)) VZ Tryz.func121 (UV Tryz.f121) G8 (t:=leaf (AV.fn (Fn.func 162) [] [AV.ro [WI f,iI er,K2 N bf]])) VU ?_;exact rfl
theorem IK:PH VP 121 M1:=by
 refine ⟨(UK Tryz.func121),?_⟩;intro avs ns res h hn;unfold M1 at h;split at h
 ·cases h;exact Qq4 _ _ _ _
 ·cases h
abbrev Q1(N:Nat)(lo:Nat->Int)(hi:Nat->Int)(m:Nat->Nat)(r:Nat->Nat->Int)(v:Nat->Nat->Int):AV:=lst 3 N λk=>[iI (lo k),iI (hi k),lst 2 (m k) λj=>[iI (r k j),iI (v k j)]]
section
variable (l:Nat)(f:Nat->List AV)(er:Int)(N:Nat)(lo hi:Nat->Int)(m:Nat->Nat)(r v:Nat->Nat->Int)
def mL:St:={σ:=[AV.fn (Fn.yield l) [] [],AV.ro [WI f,iI er,Q1 N lo hi m r v]]++HI 6 [Q1 N lo hi m r v,iI (N:Int)]++HI 22 [],m:=[],nx:=4,gh:=some 0}
noncomputable def mN:Code:=U9 (VS (U8 Tryz.f162) 0)
def rY(b:Nat):St:={σ:=H4 [(3,.top),(4,.top),(5,.top),(6,.top),(10,i b)] (mL l f er N lo hi m r v).σ,m:=[],nx:=0,gh:=some (HD m b) }
def qT(b:Nat):G6->Option St
 | .exit 0=>some {σ:=H4 [(3,.top),(4,.top),(5,.top),(6,.top),(10,i N)] (mL l f er N lo hi m r v).σ,m:=[],nx:=0,gh:=some (HD m N) }
 | .ret=>some {σ:=H4 [(3,.top),(4,.top),(5,.top),(6,.top)] (mL l f er N lo hi m r v).σ,m:=[],nx:=0,gh:=none}
 |_=>none
def Xs3:CT:= .may True (.leaf (.exit 0,(qT l f er N lo hi m r v 0 (.exit 0)).getD (mL l f er N lo hi m r v))) (.leaf (.ret,(qT l f er N lo hi m r v 0 .ret).getD (mL l f er N lo hi m r v)))
def Wy1:UG:=GK [] (HF (rY l f er N lo hi m r v (0)) (Xs3 l f er N lo hi m r v))
end
abbrev JS(m:Nat->Nat)(b:Nat)(r:Nat->Nat->Int)(v:Nat->Nat->Int):AV:=lst 2 (m b) λj=>[iI (r b j),iI (v b j)]
section
variable (l:Nat)(f:Nat->List AV)(er:Int)(N:Nat)(lo hi:Nat->Int)(m:Nat->Nat)(r v:Nat->Nat->Int)(b:Nat)
def mM:St:={σ:=[AV.fn (Fn.yield l) [] [],AV.ro [WI f,iI er,Q1 N lo hi m r v],top,iI (b:Int),ptr 4 0,top,top,top,Q1 N lo hi m r v,iI (N:Int),iI (b:Int)]++HI 5 [JS m b r v,iI (↑(m b):Int)]++HI 14 [],m:=[(4,GO.cells 75 [iI (lo b),iI (hi b),JS m b r v])],nx:=11,gh:=some (HD m b) }
noncomputable def Xa9:Code:=U9 (VS mN 0)
def rZ(n:Nat):St:={σ:=H4 [(4,.top),(5,.top),(6,.top),(18,i n)] (mM l f er N lo hi m r v b).σ,m:=[],nx:=0,gh:=some (HD m b+n) }
def qU(n:Nat):G6->Option St
 | .exit 2=>some {σ:=H4 [(3,.top),(4,.top),(5,.top),(6,.top),(18,i (m b))] (mM l f er N lo hi m r v b).σ,m:=[],nx:=0,gh:=some (HD m (b+1)) }
 | .ret=>some {σ:=H4 [(3,.top),(4,.top),(5,.top),(6,.top)] (mM l f er N lo hi m r v b).σ,m:=[],nx:=0,gh:=none}
 |_=>none
def Xs4:CT:= .may True (.leaf (.exit 2,(qU l f er N lo hi m r v b 0 (.exit 2)).getD (mM l f er N lo hi m r v b))) (.leaf (.ret,(qU l f er N lo hi m r v b 0 .ret).getD (mM l f er N lo hi m r v b)))
def sG:UG:=GK [] (HF (rZ l f er N lo hi m r v b (0)) (Xs4 l f er N lo hi m r v b))
end
abbrev WX(N:Nat)(lo:Nat->Int)(hi:Nat->Int)(m:Nat->Nat)(r:Nat->Nat->Int)(v:Nat->Nat->Int):Prop:=(Q1 N lo hi m r v)=Q1 N lo hi m r v
abbrev XO(l:Nat):Prop:=AV.fn (Fn.yield l) [] []=AV.fn (Fn.yield l) [] []
abbrev J1(f:Nat->List AV)(er:Int)(N:Nat)(lo:Nat->Int)(hi:Nat->Int)(m:Nat->Nat)(r:Nat->Nat->Int)(v:Nat->Nat->Int):Prop:=AV.ro [WI f,iI er,Q1 N lo hi m r v]=AV.ro [WI f,iI er,Q1 N lo hi m r v]
section
variable (l:Nat)(f:Nat->List AV)(er:Int)(N:Nat)(lo hi:Nat->Int)(m:Nat->Nat)(r v:Nat->Nat->Int)
theorem Zf7(b:Nat)(VT:N<=1000)(UI: ∀b,b<N->m b<=1000)(HR:b<N){cx:Cx}(hX:VX VP {Y:=some (l,(HD m N),(Wa4 m N r v)) } cx):HJ VP none cx (.loop Xa9) (sG l f er N lo hi m r v b):=by
 refine FJ [] (L:=[]) (VL.nil _) hX VZ G8 (V:=Nat) (rZ l f er N lo hi m r v b) (λn=>n<=m b) (λn=>m b-n) (qU l f er N lo hi m r v b) (x0:=0) VW ?_ ?_ ?_
 ·rintro n;kernel_rfl
 ·rintro n y E h;unfold qU at h;split at h
  ·cases h;kernel_rfl
  ·cases h;kernel_rfl
  ·cases h
 ·rintro Q hQ n hx;refine ⟨(n+1),?_⟩;have e:HW VP [] {Y:=some (l,(HD m N),(Wa4 m N r v)) } [] [] Xa9 (rZ l f er N lo hi m r v b n) (rZ l f er N lo hi m r v b ((n+1))) (qU l f er N lo hi m r v b n)=(let z0:=(GE m N (HD m b+n));(branch (decide ((n:Int)<(↑(m b):Int))) (need [UH n (↑(m b):Int)] (need [l=l,HD m b+n<HD m N,[Value.agg {toList:=[Value.int IntKind.i64 (b:Int),Value.int IntKind.i64 (n:Int)] },Value.agg {toList:=[Value.int IntKind.i64 (r b n),Value.int IntKind.i64 (v b n)] }]=[Value.agg {toList:=[Value.int IntKind.i64 (↑(Prod.fst z0):Int),Value.int IntKind.i64 (↑(Prod.snd z0):Int)] },Value.agg {toList:=[Value.int IntKind.i64 (r (Prod.fst z0) (Prod.snd z0)),Value.int IntKind.i64 (v (Prod.fst z0) (Prod.snd z0))] }]] (VN.may True (need [VM ((n:Int)+1)] (need [XO l,J1 f er N lo hi m r v,U0 (b:Int),WX N lo hi m r v,U0 (N:Int),U0 (b:Int),U0 (JS m b r v),U0 (↑(m b):Int),(n:Int)+1=(↑(n+1):Int),HD m b+n+1=HD m b+(n+1)] (leaf G6.normal))) (need [XO l,J1 f er N lo hi m r v,WX N lo hi m r v,U0 (N:Int),U0 (b:Int),U0 (JS m b r v),U0 (↑(m b):Int)] (leaf G6.ret))))) (need [XO l,J1 f er N lo hi m r v,WX N lo hi m r v,U0 (N:Int),U0 (b:Int),U0 (JS m b r v),U0 (↑(m b):Int),(n:Int)=(↑(m b):Int),HD m b+n=HD m (b+1)] (leaf (G6.exit 2))))):=VU;rw [e];simp only [Xs4,qU,VN.sat,GS] at hQ;have hQ1: ∀E,qU l f er N lo hi m r v b n (.exit 2)=some E->Q (.exit 2,E):=λE hE=>by cases hE;exact hQ.1 trivial
  have hQ2: ∀E,qU l f er N lo hi m r v b n .ret=some E->Q (.ret,E):=λE hE=>by cases hE;exact hQ.2
  simp only [VN.sat,UB,UJ,H6,VM,FA];clear e hQ;have h3:=UI b HR;refine ⟨λh=>?_,λh=>?_⟩
  ·have hk:n<m b:=VK;have h1:=NJ m (show b+1<=N by omega)
   simp only [HD] at h1;rw [tV m N b n HR hk];all_goals exact V7
  ·obtain rfl:n=m b:=VK;all_goals exact V7
theorem Zf6(VT:N<=1000)(UI: ∀b,b<N->m b<=1000){cx:Cx}(hX:VX VP {Y:=some (l,(HD m N),(Wa4 m N r v)) } cx):HJ VP none cx (.loop mN) (Wy1 l f er N lo hi m r v):=by
 refine FJ [] (L:=[B6 10 (λb=>FR [b<N] (sG l f er N lo hi m r v b))]) (VL.nil _) hX VZ (G7 (λcj hcj=>by
  have e:VS mN 0=some (.loop Xa9):=VU;rw [e] at hcj;cases hcj;exact aA (λb=>wJ (λh=>Zf7 l f er N lo hi m r v b VT UI h hX)))) (V:=Nat) (rY l f er N lo hi m r v) (λb=>b<=N) (λb=>N-b) (qT l f er N lo hi m r v) (x0:=0) VW ?_ ?_ ?_
 ·rintro b;kernel_rfl
 ·rintro b y E h;unfold qT at h;split at h
  ·cases h;kernel_rfl
  ·cases h;kernel_rfl
  ·cases h
 ·rintro Q hQ b hx;refine ⟨(b+1),?_⟩;have e:HW VP [] {Y:=some (l,(HD m N),(Wa4 m N r v)) } [B6 10 (λb=>FR [b<N] (sG l f er N lo hi m r v b))] [] mN (rY l f er N lo hi m r v b) (rY l f er N lo hi m r v ((b+1))) (qT l f er N lo hi m r v b)=(let z0:=J1 f er N lo hi m r v;(branch (decide ((b:Int)<(N:Int))) (need [UH b N] (need [b<N] (need [XO l,z0,U0 (b:Int),WX N lo hi m r v,U0 (N:Int),U0 (b:Int),U0 (lst 2 (m b) λj=>[iI (r b j),iI (v b j)]),U0 (↑(m b):Int),(0:Int)=(↑(0:Nat):Int),HD m b=HD m b+0] (VN.may True (need [VM ((b:Int)+1)] (need [XO l,z0,WX N lo hi m r v,U0 (N:Int),(b:Int)+1=(↑(b+1):Int),U0 (HD m (b+1))] (leaf G6.normal))) (need [XO l,z0,WX N lo hi m r v,U0 (N:Int)] (leaf G6.ret)))))) (need [XO l,z0,WX N lo hi m r v,U0 (N:Int),(b:Int)=(N:Int),HD m b=HD m N] (leaf (G6.exit 0))))):=VU
  rw [e];simp only [Xs3,qT,VN.sat,GS] at hQ;have hQ1: ∀E,qT l f er N lo hi m r v b (.exit 0)=some E->Q (.exit 0,E):=λE hE=>by cases hE;exact hQ.1 trivial
  have hQ2: ∀E,qT l f er N lo hi m r v b .ret=some E->Q (.ret,E):=λE hE=>by cases hE;exact hQ.2
  simp only [VN.sat,UB,UJ,H6,VM,FA];clear e hQ;refine ⟨λh=>?_,λh=>?_⟩
  ·have h3:=UI b VK;all_goals exact V7
  ·obtain rfl:b=N:=VK;all_goals exact V7
end
theorem lB(f:Nat->List AV)(er:Int)(N:Nat)(lo hi:Nat->Int)(m:Nat->Nat)(r v:Nat->Nat->Int)(VT:N<=1000)(UI: ∀b,b<N->m b<=1000):B8 Tryz.prog 162 [.ro [.lst 2 3 f,i er,bds N lo hi m r v]] ((HD m N)) (Wa4 m N r v):=by
 refine BJ (L:=λl=>[Wy1 l f er N lo hi m r v]) (VL.nil _) VZ (UK Tryz.func162) Tryz.func162 (UV Tryz.f162) VU (λl cx hX=>G7 (lpE (b:= .loop mN) VU<|Zf6 l f er N lo hi m r v VT UI hX)) (t:=λl=>(need [U0 (AV.fn (Fn.yield l) [] []),J1 f er N lo hi m r v,WX N lo hi m r v,U0 (N:Int),(0:Int)=(↑(0:Nat):Int),0=HD m 0] (VN.may True (need [U0 (HD m N)] (leaf PUnit.unit)) (leaf PUnit.unit)))) (λl=>VU) ?_
 intro l;simp only [VN.sat,UB,UY,GL,UE,VM,UJ,H6,FO];all_goals exact V7
def plF(m:Nat->Nat)(N:Nat)(q:Nat):List AV:=[i (GE m N q).1,i (GE m N q).2]
theorem TA(m:Nat->Nat){K:Nat}: ∀(N:Nat),(∀b,b<N->m b<=K)->HD m N<=N*K
 | 0,_=>by simp [HD]
 |N+1,h=>by
  have:=TA m N (λb hb=>h b VK)
  have:=h N VK;simp only [HD,Nat.succ_mul];omega
abbrev QE:AV:=AV.x (.pointer none)
def Jn7(f:Nat->List AV)(er:Int)(N:Nat)(lo hi:Nat->Int)(m:Nat->Nat)(r v:Nat->Nat->Int):St:={σ:=[agg [WI f,iI er,Q1 N lo hi m r v],ptr 0 0,QE,ptr 6 0]++HI 6 [AV.fn (Fn.func 162) [] [AV.ro [WI f,iI er,Q1 N lo hi m r v]]]++HI 13 [],m:=[(901,GO.row 234 2 0 λx=>[]),(6,GO.cells 186 [ptr 5 0]),(5,GO.cells 229 [WI f,iI er,Q1 N lo hi m r v,AV.row 901,AV.mp 3]),(3,GO.memo (λx=>False) λv=>v),(0,GO.cells 103 [WI f,iI er,Q1 N lo hi m r v])],nx:=902}
def rfF:Option Code->Operand
 |some (.rangeFunc f _ _ _)=>f
 |_=> .const .nilFunc
def jD:Option Code->Array Nat
 |some (.rangeFunc _ ps _ _)=>ps
 |_=>#[]
def SM:Option Code->Code
 |some (.rangeFunc _ _ a _)=>a
 |_=> .skip
def SL:Option Code->Code
 |some (.rangeFunc _ _ _ b)=>b
 |_=> .skip
noncomputable def Jr9:Code:=SM (VS (U8 Tryz.f92) 0)
noncomputable def Jo3:Code:=SL (VS (U8 Tryz.f92) 0)
section
variable (f:Nat->List AV)(er:Int)(N:Nat)(lo hi:Nat->Int)(m:Nat->Nat)(r v:Nat->Nat->Int)
def oG(k:Nat):St:={σ:=H4 [] (Jn7 f er N lo hi m r v).σ,m:=[(901,.row 234 2 (k) (plF m N)),(6,.cells 186 [.ptr 5 0]),(5,.cells 229 [.lst 2 3 f,i er,bds N lo hi m r v,.row 901,.mp 3]),(3,.memo (λ_=>False) (λx=>x)),(0,.cells 103 [.lst 2 3 f,i er,bds N lo hi m r v])],nx:=902}
def nN(k:Nat):G6->Option St
 | .normal=>some {σ:=H4 [] (Jn7 f er N lo hi m r v).σ,m:=[(901,.row 234 2 ((HD m N)) (plF m N)),(6,.cells 186 [.ptr 5 0]),(5,.cells 229 [.lst 2 3 f,i er,bds N lo hi m r v,.row 901,.mp 3]),(3,.memo (λ_=>False) (λx=>x)),(0,.cells 103 [.lst 2 3 f,i er,bds N lo hi m r v])],nx:=902}
 |_=>none
def T_wr:CT:= .leaf (.normal,oG f er N lo hi m r v (HD m N))
def Xt5:UG:=GK [(.cell 5 3,901,234,2)] (HF (oG f er N lo hi m r v (0)) (T_wr f er N lo hi m r v))
abbrev WK:Prop:=AV.row 901=AV.row 901
abbrev ZO:Prop:=ptr 5 0=ptr 5 0
abbrev YP:Prop:=ptr 6 0=ptr 6 0
abbrev YU:Ext:={R:=[(121,M1)],H:=[] }
theorem Zt2(VT:N<=1000)(UI: ∀b,b<N->m b<=1000):HQ VP (.rangeFunc (rfF (VS (U8 Tryz.f92) 0)) (jD (VS (U8 Tryz.f92) 0)) Jr9 Jo3) (Xt5 f er N lo hi m r v):=by
 refine P9 [(.cell 5 3,901,234,2)] (L:=[]) (VL.nil _) (VX.of (VR.cons IK (VR.nil _)) (VO.nil _)) VZ U3 (V:=Nat) (oG f er N lo hi m r v) (λk=>k<=(HD m N)) (λk=>k) (nN f er N lo hi m r v) (x0:=0) VW rfl ?_ ?_ ?_ ?_ (g:=162) (caps:=[.ro [.lst 2 3 f,i er,bds N lo hi m r v]]) VU VU (lB f er N lo hi m r v VT UI) (λ_=>rfl) ?_
 ·rintro k;kernel_rfl
 ·rintro k y E h;unfold nN at h;split at h
  ·cases h;kernel_rfl
  ·cases h
 ·rintro k;rfl
 ·rintro k y E h;unfold nN at h;split at h
  ·cases h;rfl
  ·cases h
 ·rintro Q hQ k hx;refine ⟨λhlt=>⟨(k+1),rfl,?_⟩,λPK=>?_⟩
  ·(with_reducible refine D6 (t:=need [(k+1)*16<=140737488355328,RU 1 (U6 2 [iI (↑(Prod.fst (GE m N k)):Int),iI (↑(Prod.snd (GE m N k)):Int)])] (need [U0 (agg [WI f,iI er,Q1 N lo hi m r v]),QL,QE=QE,YP,U0 (AV.fn (Fn.func 162) [] [AV.ro [WI f,iI er,Q1 N lo hi m r v]]),k+1=k+1,GV (k+1) (GI k (plF m N) (U6 2 [iI (↑(Prod.fst (GE m N k)):Int),iI (↑(Prod.snd (GE m N k)):Int)])) (plF m N),ZO,WI f=WI f,er=er,WX N lo hi m r v,WK,U0 (AV.mp 3),∀(k:Value),False->False/\k=k,WI f=WI f,er=er,WX N lo hi m r v] (leaf G6.normal))) VU ?_);have hb:=TA m N UI;have hb2:=BD 1000 VT;simp only [VN.sat,UB,UJ]
   (with_reducible repeat' first|apply And.intro|intro _)
   all_goals first|exact True.intro|rfl|omega|exact FQ (by assumption) (by simp [AV.one,Value.oneCell'])|exact Zm7 rfl rfl (by assumption)|contradiction
  ·subst PK;exact hQ
end
abbrev Q2(m:Nat->Nat)(N:Nat):AV:=lst 2 (HD m N) λq=>[iI (↑(Prod.fst (GE m N q)):Int),iI (↑(Prod.snd (GE m N q)):Int)]
theorem Wr9(f:Nat->List AV)(er:Int)(N:Nat)(lo hi:Nat->Int)(m:Nat->Nat)(r v:Nat->Nat->Int)(VT:N<=1000)(UI: ∀b,b<N->m b<=1000):FP VP 92 [.agg [.lst 2 3 f,i er,bds N lo hi m r v]] (.ro [.lst 2 3 f,i er,bds N lo hi m r v,.lst 2 (HD m N) (plF m N),.top]):=by
 refine D1 (L:=[Xt5 f er N lo hi m r v]) (VL.nil _) (VX.of (VR.cons IK (VR.nil _)) (VO.nil _)) VZ Tryz.func92 (UV Tryz.f92) (G7 (lpE (b:= .rangeFunc (rfF (VS (U8 Tryz.f92) 0)) (jD (VS (U8 Tryz.f92) 0)) Jr9 Jo3) VU<|Zt2 f er N lo hi m r v VT UI)) (t:=need [U0 (agg [WI f,iI er,Q1 N lo hi m r v]),QL,QE=QE,YP,U0 (AV.fn (Fn.func 162) [] [AV.ro [WI f,iI er,Q1 N lo hi m r v]]),0=0,GV 0 (λi=>[]) (plF m N),ZO,WI f=WI f,er=er,WX N lo hi m r v,WK,U0 (AV.mp 3),∀(k:Value),False->False/\k=k,WI f=WI f,er=er,WX N lo hi m r v] (leaf (AV.ro [WI f,iI er,Q1 N lo hi m r v,Q2 m N,top]))) VU ?_
 simp only [VN.sat,UB,UY,GL,UE,VM,UJ,H6,FO];all_goals exact V7
noncomputable def Qh6:HZ:=rN Tryz.prog [(124,kF)] {} [] Tryz.f122 (U8 Tryz.f122)
theorem RM:GC VP 122 Qh6:=
 RL (G:=[(124,kF)]) (X:=WA) (L:=[]) (VL.cons R9 (VL.nil _)) (VX.of (VR.nil _) (VO.nil _)) VZ (UK Tryz.func122) Tryz.func122 (UV Tryz.f122) U3
def G4(M:Nat->Nat->Int)(k:Nat):Int:=M (k / 13) (k%13)
def LT(k j:Nat):Nat->Nat->Int:=λx y=>if ((x<k/\y<=12)\/(x=k/\y<j))/\x≠y then 8000 else 0
def spn(M:Nat->Nat->Int)(a b:Nat)(lo hi:Int):Nat->Nat->Int:=bnd (bnd M a b hi) b a (-lo)
def ofM:Nat->Nat->Nat->Int
 | 0=>LT 13 0
 |k+1=>spn (ofM k) 0 (1+k) (-oH k) (-oL k)
def btM(lo hi:Nat->Int):Nat->Nat->Nat->Int
 | 0=>ofM 3
 |k+1=>spn (btM lo hi k) 0 (7+k) (lo k) (hi k)
def rdM1(N:Nat)(m:Nat->Nat)(r v:Nat->Nat->Int)(M:Nat->Nat->Int)(q:Nat):Nat->Nat->Int:=
 spn M (1+(r (GE m N q).1 (GE m N q).2).toNat) (7+(GE m N q).1) (v (GE m N q).1 (GE m N q).2-1) (v (GE m N q).1 (GE m N q).2+1)
def rE(N:Nat)(lo hi:Nat->Int)(m:Nat->Nat)(r v:Nat->Nat->Int):Nat->Nat->Nat->Int
 | 0=>btM lo hi N
 |q+1=>rdM1 N m r v (rE N lo hi m r v q) q
def bOK(N:Nat)(lo hi:Nat->Int)(m:Nat->Nat)(r v:Nat->Nat->Int):Prop:=N<=6/\ ∀b,b<N->m b<=10/\0<=lo b/\lo b<=hi b/\hi b<=1000/\ ∀j,j<m b->0<=r b j/\r b j<=2/\ -1000<=v b j/\v b j<=2000
theorem Xi2: ∀k,UA (List.replicate 169 0) k=G4 (LT 0 0) k:=by
 intro k;rw [gM (by decide)]
 simp [G4,LT]
theorem kW(M:Nat->Nat->Int){a b q:Nat}(hq:q=a*13+b)(hb:b<13):G4 M q=M a b:=by
 unfold G4;rw [show q / 13=a by omega,show q%13=b by omega]
theorem dN{M M':Nat->Nat->Int}(h: ∀x y,x<13->y<13->M x y=M' x y){k:Nat}(hk:k<169):G4 M k=G4 M' k:=h _ _ VK VK
theorem Qb5(M:Nat->Nat->Int){a b q:Nat}(hq:q=a*13+b)(hb:b<13)(v:Int):UT q v (G4 M)=G4 (wT M a b v):=by
 funext k;unfold UT G4 wT;by_cases hk:k=q
 ·rw [if_pos hk,if_pos VK]
 ·rw [if_neg hk,if_neg VK]
theorem zK{M:Nat->Nat->Int}{a b q:Nat}{v:Int}(hq:q=a*13+b)(hb:b<13):UT q (min (G4 M q) v) (G4 M)=G4 (bnd M a b v):=by
 rw [kW M hq hb,Qb5 M hq hb];rfl
theorem Qm6(k j:Nat)(hj:j<=12)(h:k≠j)(x y:Nat):wT (LT k j) k j 8000 x y=LT k (j+1) x y:=by
 unfold wT LT;split
 ·rename_i hxy;rw [if_pos ⟨.inr VK,VK⟩]
 ·rename_i hxy;by_cases h1:((x<k/\y<=12)\/(x=k/\y<j))/\x≠y
  ·rw [if_pos h1,if_pos VK]
  ·rw [if_neg h1,if_neg VK]
theorem Qm7(k:Nat)(x y:Nat):LT k k x y=LT k (k+1) x y:=by
 unfold LT;by_cases h1:((x<k/\y<=12)\/(x=k/\y<k))/\x≠y
 ·rw [if_pos h1,if_pos VK]
 ·rw [if_neg h1,if_neg VK]
theorem Wj9(k:Nat)(x y:Nat):LT k 13 x y=LT (k+1) 0 x y:=by
 unfold LT;by_cases h1:((x<k/\y<=12)\/(x=k/\y<13))/\x≠y
 ·rw [if_pos h1,if_pos VK]
 ·rw [if_neg h1,if_neg VK]
abbrev QD:List AV:=[AV.x (.int IntKind.u64 (0:Int))]
abbrev QM:List Int:=([(0:Int)]++b9 168)
abbrev KX:GO:=GO.cells 191 QD
section
variable (N:Nat)(lo hi:Nat->Int)(m:Nat->Nat)(r v:Nat->Nat->Int)
def Zr1:St:={σ:=[AV.ro [lst 2 3 λk=>[iI (oL k),iI (oH k)],iI 1,Q1 N lo hi m r v,Q2 m N,top],agg QD,top,ptr 0 0,QE,AV.lit false,ptr 4 0]++HI 184 [],m:=[(4,GO.ints 237 [] 169 λa=>UA QM a),(0,KX)],nx:=7}
noncomputable def Zs7:Code:=U9 (VS (U8 Tryz.f93) 0)
def Wi5(k:Nat):St:=(upE [(22,i k)] [(4,.ints 237 [] 169 (G4 (LT k 0))),(0,.cells 191 [.x (.int .u64 0)])] (Zr1 N lo hi m r v))
def CS(k:Nat):G6->Option St
 | .exit 0=>some (upE [(22,i 13)] [(4,.ints 237 [] 169 (G4 (LT 13 0))),(0,.cells 191 [.x (.int .u64 0)])] (Zr1 N lo hi m r v))
 |_=>none
def Jm5:CT:= .leaf (.exit 0,(CS N lo hi m r v 0 (.exit 0)).getD (Zr1 N lo hi m r v))
def Xx1:UG:=GK [] (HF (Wi5 N lo hi m r v (0)) (Jm5 N lo hi m r v))
def Zr0(k:Nat):St:={σ:=[AV.ro [lst 2 3 λk=>[iI (oL k),iI (oH k)],iI 1,Q1 N lo hi m r v,Q2 m N,top],agg QD,top,ptr 0 0,QE,AV.lit false,ptr 4 0,iI (k:Int)]++HI 14 [iI (k:Int)]++HI 168 [],m:=[(4,GO.ints 237 [] 169 λk_1=>G4 (LT k 0) k_1),(0,KX)],nx:=11}
noncomputable def Jq9:Code:=(U9 (VS (U9 (VS (U8 Tryz.f93) 0)) 0))
def Wi4(k:Nat)(j:Nat):St:=(upE [(25,i j)] [(4,.ints 237 [] 169 (G4 (LT k j))),(0,.cells 191 [.x (.int .u64 0)])] (Zr0 N lo hi m r v k))
def CR(k:Nat)(j:Nat):G6->Option St
 | .exit 2=>some (upE [(25,i 13)] [(4,.ints 237 [] 169 (G4 (LT k 13))),(0,.cells 191 [.x (.int .u64 0)])] (Zr0 N lo hi m r v k))
 |_=>none
def Jm4(k:Nat):CT:= .leaf (.exit 2,(CR N lo hi m r v k 0 (.exit 2)).getD (Zr0 N lo hi m r v k))
def Xx0(k:Nat):UG:=GK [] (HF (Wi4 N lo hi m r v k (0)) (Jm4 N lo hi m r v k))
abbrev QT:Prop:=(0:Int)=0
abbrev W9:Prop:=ptr 4 0=ptr 4 0
abbrev WN:List (Nat×UZ):=[(70,aN),(123,aO),(124,kF)]
abbrev WO:Prop:=AV.lit false=AV.lit false
noncomputable abbrev X8:Ext:={R:=[],H:=[(122,Qh6)] }
theorem Jg6(k:Nat)(VT:k<=12):G5 VP (.loop Jq9) (Xx0 N lo hi m r v k):=by
 refine US [] (L:=[]) (VL.cons RI (VL.cons LU (VL.cons R9 (VL.nil _)))) (VX.of (VR.nil _) (VO.cons RM (VO.nil _))) VZ U3 (X:=Nat) (Wi4 N lo hi m r v k) (λj=>j<=13) (λj=>13-j) (CR N lo hi m r v k) (x0:=0) VW ?_ ?_ ?_
 ·rintro j;kernel_rfl
 ·rintro j y E h;unfold CR at h;split at h
  ·cases h;kernel_rfl
  ·cases h
 ·rintro Q hQ j hx;refine ⟨(j+1),?_⟩;(with_reducible refine D6 (t:=let z0:=(U0 (AV.ro [lst 2 3 λk=>[iI (oL k),iI (oH k)],iI 1,Q1 N lo hi m r v,Q2 m N,top]));(branch (decide ((j:Int)<13)) (branch ((k:Int) != (j:Int)) (need [UH k 13] (need [UH j 13] (need [j*1+(k*13+0)+1<=169] (need [VM ((j:Int)+1)] (need [z0,U0 (agg QD),QL,QE=QE,WO,W9,U0 (k:Int),U0 (k:Int),(j:Int)+1=(↑(j+1):Int),169=169,GV 169 (UT (j*1+(k*13+0)) (8000:Int) (G4 (LT k j))) (G4 (LT k (j+1))),QT] (leaf G6.normal)))))) (need [VM ((j:Int)+1)] (need [z0,U0 (agg QD),QL,QE=QE,WO,W9,U0 (k:Int),U0 (k:Int),(j:Int)+1=(↑(j+1):Int),169=169,GV 169 (G4 (LT k j)) (G4 (LT k (j+1))),QT] (leaf G6.normal)))) (need [z0,U0 (agg QD),QL,QE=QE,WO,W9,U0 (k:Int),U0 (k:Int),(j:Int)=13,169=169,GV 169 (G4 (LT k j)) (G4 (LT k 13)),QT] (leaf (G6.exit 2))))) VU ?_)
  simp only [Jm4,CR,VN.sat,GS] at hQ;simp only [VN.sat,UB,UY,GL,UE,VM,UJ,H6,FO,FT,RH,GJ,CR]
  refine ⟨λh=>⟨λhne=>?_,λheq=>?_⟩,λh=>?_⟩
  ·have h3: ∀M w,UT (j*1+(k*13+0)) w (G4 M)=G4 (wT M k j w):=λM w=>Qb5 M VK VK w
   simp only [h3]
   (with_reducible repeat' first|apply And.intro|intro _)
   all_goals first|exact P6|(exact dN (λx y _ _=>Qm6 k j VK VK x y) (by assumption))
  ·obtain rfl:k=j:=VK
   (with_reducible repeat' first|apply And.intro|intro _)
   all_goals first|exact P6|(exact dN (λx y _ _=>Qm7 k x y) (by assumption))
  ·obtain rfl:j=13:=VK;exact YZ
theorem Jg7:G5 VP (.loop Zs7) (Xx1 N lo hi m r v):=by
 refine US [] (L:=[B6 22 (λk=>FR [k<=12] (Xx0 N lo hi m r v k))]) (VL.cons RI (VL.cons LU (VL.cons R9 (VL.nil _)))) (VX.of (VR.nil _) (VO.cons RM (VO.nil _))) VZ (G7 (λcj hcj=>by
  have e:VS Zs7 0=some (.loop Jq9):=VU;rw [e] at hcj;cases hcj;exact L2 (λk=>D2 (λh=>Jg6 N lo hi m r v k h)))) (X:=Nat) (Wi5 N lo hi m r v) (λk=>k<=13) (λk=>13-k) (CS N lo hi m r v) (x0:=0) VW ?_ ?_ ?_
 ·rintro k;kernel_rfl
 ·rintro k y E h;unfold CS at h;split at h
  ·cases h;kernel_rfl
  ·cases h
 ·rintro Q hQ k hx;refine ⟨(k+1),?_⟩;(with_reducible refine D6 (t:=let z0:=(U0 (AV.ro [lst 2 3 λk=>[iI (oL k),iI (oH k)],iI 1,Q1 N lo hi m r v,Q2 m N,top]));(branch (decide ((k:Int)<13)) (need [k<=12] (need [z0,U0 (agg QD),QL,QE=QE,WO,W9,U0 (k:Int),U0 (k:Int),(0:Int)=(↑(0:Nat):Int),169=169,GQ 169 (G4 (LT k 0)),QT] (need [VM ((k:Int)+1)] (need [z0,U0 (agg QD),QL,QE=QE,WO,W9,(k:Int)+1=(↑(k+1):Int),169=169,GV 169 (G4 (LT k 13)) (G4 (LT (k+1) 0)),QT] (leaf G6.normal))))) (need [z0,U0 (agg QD),QL,QE=QE,WO,W9,(k:Int)=13,169=169,GV 169 (G4 (LT k 0)) (G4 (LT 13 0)),QT] (leaf (G6.exit 0))))) VU ?_)
  simp only [Jm5,CS,VN.sat,GS] at hQ;simp only [VN.sat,UB,UY,GL,UE,VM,UJ,H6,FO,FT,RH,GJ,CS]
  refine ⟨λh=>?_,λh=>?_⟩
  ·(with_reducible repeat' first|apply And.intro|intro _)
   all_goals first|exact P6|(exact dN (λx y _ _=>Wj9 k x y) (by assumption))
  ·obtain rfl:k=13:=VK;exact YZ
def Zq9:St:={σ:=[AV.ro [lst 2 3 λk=>[iI (oL k),iI (oH k)],iI 1,Q1 N lo hi m r v,Q2 m N,top],agg QD,top,ptr 0 0,QE,AV.lit false,ptr 4 0]++HI 15 [iI 13]++HI 20 [lst 2 3 λk=>[iI (oL k),iI (oH k)],iI (↑(3:Nat):Int)]++HI 146 [],m:=[(4,GO.ints 237 [] 169 λk=>G4 (LT 13 0) k),(0,KX)],nx:=14}
noncomputable def Jq8:Code:=U9 (VS (U8 Tryz.f93) 1)
def Wi3(k:Nat):St:=(upE [(45,i k)] [(4,.ints 237 [] 169 (G4 (ofM k))),(0,.cells 191 [.x (.int .u64 0)])] (Zq9 N lo hi m r v))
def CQ(k:Nat):G6->Option St
 | .exit 4=>some (upE [(45,i 3)] [(4,.ints 237 [] 169 (G4 (ofM 3))),(0,.cells 191 [.x (.int .u64 0)])] (Zq9 N lo hi m r v))
 |_=>none
def Jm3:CT:= .leaf (.exit 4,(CQ N lo hi m r v 0 (.exit 4)).getD (Zq9 N lo hi m r v))
def Xw9:UG:=GK [] (HF (Wi3 N lo hi m r v (0)) (Jm3 N lo hi m r v))
abbrev XI:Prop:=(13:Int)=13
theorem Jg5:G5 VP (.loop Jq8) (Xw9 N lo hi m r v):=by
 refine US [] (L:=[]) (VL.cons RI (VL.cons LU (VL.cons R9 (VL.nil _)))) (VX.of (VR.nil _) (VO.cons RM (VO.nil _))) VZ U3 (X:=Nat) (Wi3 N lo hi m r v) (λk=>k<=3) (λk=>3-k) (CQ N lo hi m r v) (x0:=0) VW ?_ ?_ ?_
 ·rintro k;kernel_rfl
 ·rintro k y E h;unfold CQ at h;split at h
  ·cases h;kernel_rfl
  ·cases h
 ·rintro Q hQ k hx;refine ⟨(k+1),?_⟩;(with_reducible refine D6 (t:=let z1:=(G4 (ofM k) (((1:Int)+(k:Int)).toNat*1+0));let z0:=(UT (((1:Int)+(k:Int)).toNat*1+0) (min z1 (-oL k)) (G4 (ofM k)) (0+(((1:Int)+(k:Int)).toNat*13+0)));let z2:=(U0 (AV.ro [lst 2 3 λk=>[iI (oL k),iI (oH k)],iI 1,Q1 N lo hi m r v,Q2 m N,top]));(branch (decide ((k:Int)<(↑(3:Nat):Int))) (need [UH k 3] (need [(0:Int)<=(k:Int)/\(k:Int)<=1000] (need [VM (-oH k)] (need [VM (-oL k)] (need [UH 0 13] (need [(0:Int)<=1+(k:Int)/\(1:Int)+(k:Int)<(↑(13:Nat):Int)] (need [((1:Int)+(k:Int)).toNat*1+0<169] (need [UH 0 13] (need [(0:Int)<=1+(k:Int)/\(1:Int)+(k:Int)<(↑(13:Nat):Int)] (need [((1:Int)+(k:Int)).toNat*1+0+List.length [min z1 (-oL k)]<=169] (need [(0:Int)<=1+(k:Int)/\(1:Int)+(k:Int)<(↑(13:Nat):Int)] (need [UH 0 13] (need [0+(((1:Int)+(k:Int)).toNat*13+0)<169] (need [VM (- -oH k)] (need [(0:Int)<=1+(k:Int)/\(1:Int)+(k:Int)<(↑(13:Nat):Int)] (need [UH 0 13] (need [0+(((1:Int)+(k:Int)).toNat*13+0)+List.length [min z0 (- -oH k)]<=169] (need [VM ((k:Int)+1)] (need [z2,U0 (agg QD),QL,QE=QE,WO,W9,XI,U0 (lst 2 3 λk=>[iI (oL k),iI (oH k)]),U0 (↑(3:Nat):Int),(k:Int)+1=(↑(k+1):Int),169=169,GV 169 (UT (0+(((1:Int)+(k:Int)).toNat*13+0)) (min z0 (- -oH k)) (zZ (((1:Int)+(k:Int)).toNat*1+0) [min z1 (-oL k)] (G4 (ofM k)))) (G4 (ofM (k+1))),QT] (leaf G6.normal)))))))))))))))))))) (need [z2,U0 (agg QD),QL,QE=QE,WO,W9,XI,U0 (lst 2 3 λk=>[iI (oL k),iI (oH k)]),U0 (↑(3:Nat):Int),(k:Int)=3,169=169,GV 169 (G4 (ofM k)) (G4 (ofM 3)),QT] (leaf (G6.exit 4))))) VU ?_)
  simp only [Jm3,CQ,VN.sat,GS] at hQ;simp only [VN.sat,UB,UY,GL,UE,VM,UJ,H6,FO,FT,RH,GJ,CQ]
  have hL: -9<=oL k/\oL k<=0:=by unfold oL;split<;>omega
  have hH:0<=oH k/\oH k<=9:=by unfold oH;split<;>omega
  refine ⟨λh=>?_,λh=>?_⟩
  ·have h1: ∀M w,UT ((1+(k:Int)).toNat*1+0) (min (G4 M ((1+(k:Int)).toNat*1+0)) w) (G4 M)=G4 (bnd M 0 (1+k) w):=λM w=>zK VK VK
   have h2: ∀M w,UT (0+((1+(k:Int)).toNat*13+0)) (min (G4 M (0+((1+(k:Int)).toNat*13+0))) w) (G4 M)=G4 (bnd M (1+k) 0 w):=λM w=>zK VK VK
   simp only [h1,h2];exact YZ
  ·obtain rfl:k=3:=VK;exact YZ
def Zq8:St:={σ:=[AV.ro [lst 2 3 λk=>[iI (oL k),iI (oH k)],iI 1,Q1 N lo hi m r v,Q2 m N,top],agg QD,top,ptr 0 0,QE,AV.lit false,ptr 4 0]++HI 15 [iI 13]++HI 20 [lst 2 3 λk=>[iI (oL k),iI (oH k)],iI (↑(3:Nat):Int),iI 3]++HI 20 [Q1 N lo hi m r v,iI (N:Int)]++HI 123 [],m:=[(4,GO.ints 237 [] 169 λk=>G4 (ofM 3) k),(0,KX)],nx:=21}
noncomputable def Jq7:Code:=U9 (VS (U8 Tryz.f93) 2)
def Wi2(k:Nat):St:=(upE [(68,i k)] [(4,.ints 237 [] 169 (G4 (btM lo hi k))),(0,.cells 191 [.x (.int .u64 0)])] (Zq8 N lo hi m r v))
def CP(k:Nat):G6->Option St
 | .exit 6=>some (upE [(68,i N)] [(4,.ints 237 [] 169 (G4 (btM lo hi N))),(0,.cells 191 [.x (.int .u64 0)])] (Zq8 N lo hi m r v))
 |_=>none
def Jm2:CT:= .leaf (.exit 6,(CP N lo hi m r v 0 (.exit 6)).getD (Zq8 N lo hi m r v))
def Xw8:UG:=GK [] (HF (Wi2 N lo hi m r v (0)) (Jm2 N lo hi m r v))
abbrev XM:Prop:=(3:Int)=3
theorem Jg4(VT:bOK N lo hi m r v):G5 VP (.loop Jq7) (Xw8 N lo hi m r v):=by
 refine US [] (L:=[]) (VL.cons RI (VL.cons LU (VL.cons R9 (VL.nil _)))) (VX.of (VR.nil _) (VO.cons RM (VO.nil _))) VZ U3 (X:=Nat) (Wi2 N lo hi m r v) (λk=>k<=N) (λk=>N-k) (CP N lo hi m r v) (x0:=0) VW ?_ ?_ ?_
 ·rintro k;kernel_rfl
 ·rintro k y E h;unfold CP at h;split at h
  ·cases h;kernel_rfl
  ·cases h
 ·rintro Q hQ k hx;refine ⟨(k+1),?_⟩;(with_reducible refine D6 (t:=let z1:=(G4 (btM lo hi k) (((7:Int)+(k:Int)).toNat*1+0));let z0:=(UT (((7:Int)+(k:Int)).toNat*1+0) (min z1 (hi k)) (G4 (btM lo hi k)) (0+(((7:Int)+(k:Int)).toNat*13+0)));let z2:=(U0 (AV.ro [lst 2 3 λk=>[iI (oL k),iI (oH k)],iI 1,Q1 N lo hi m r v,Q2 m N,top]));(branch (decide ((k:Int)<(N:Int))) (need [UH k N] (need [(0:Int)<=(k:Int)/\(k:Int)<=1000] (need [UH 0 13] (need [(0:Int)<=7+(k:Int)/\(7:Int)+(k:Int)<(↑(13:Nat):Int)] (need [((7:Int)+(k:Int)).toNat*1+0<169] (need [UH 0 13] (need [(0:Int)<=7+(k:Int)/\(7:Int)+(k:Int)<(↑(13:Nat):Int)] (need [((7:Int)+(k:Int)).toNat*1+0+List.length [min z1 (hi k)]<=169] (need [(0:Int)<=7+(k:Int)/\(7:Int)+(k:Int)<(↑(13:Nat):Int)] (need [UH 0 13] (need [0+(((7:Int)+(k:Int)).toNat*13+0)<169] (need [VM (-lo k)] (need [(0:Int)<=7+(k:Int)/\(7:Int)+(k:Int)<(↑(13:Nat):Int)] (need [UH 0 13] (need [0+(((7:Int)+(k:Int)).toNat*13+0)+List.length [min z0 (-lo k)]<=169] (need [VM ((k:Int)+1)] (need [z2,U0 (agg QD),QL,QE=QE,WO,W9,XI,U0 (lst 2 3 λk=>[iI (oL k),iI (oH k)]),U0 (↑(3:Nat):Int),XM,WX N lo hi m r v,U0 (N:Int),(k:Int)+1=(↑(k+1):Int),169=169,GV 169 (UT (0+(((7:Int)+(k:Int)).toNat*13+0)) (min z0 (-lo k)) (zZ (((7:Int)+(k:Int)).toNat*1+0) [min z1 (hi k)] (G4 (btM lo hi k)))) (G4 (btM lo hi (k+1))),QT] (leaf G6.normal)))))))))))))))))) (need [z2,U0 (agg QD),QL,QE=QE,WO,W9,XI,U0 (lst 2 3 λk=>[iI (oL k),iI (oH k)]),U0 (↑(3:Nat):Int),XM,WX N lo hi m r v,U0 (N:Int),(k:Int)=(N:Int),169=169,GV 169 (G4 (btM lo hi k)) (G4 (btM lo hi N)),QT] (leaf (G6.exit 6))))) VU ?_)
  simp only [Jm2,CP,VN.sat,GS] at hQ;simp only [VN.sat,UB,UY,GL,UE,VM,UJ,H6,FO,FT,RH,GJ,CP]
  have h6:=VT.1;refine ⟨λh=>?_,λh=>?_⟩
  ·obtain ⟨_,q1,q2,q3,_⟩:=VT.2 k VK;have h1: ∀M w,UT ((7+(k:Int)).toNat*1+0) (min (G4 M ((7+(k:Int)).toNat*1+0)) w) (G4 M)=G4 (bnd M 0 (7+k) w):=λM w=>zK VK VK
   have h2: ∀M w,UT (0+((7+(k:Int)).toNat*13+0)) (min (G4 M (0+((7+(k:Int)).toNat*13+0))) w) (G4 M)=G4 (bnd M (7+k) 0 w):=λM w=>zK VK VK
   simp only [h1,h2];exact YZ
  ·obtain rfl:k=N:=VK;exact YZ
def Zq7:St:={σ:=[AV.ro [lst 2 3 λk=>[iI (oL k),iI (oH k)],iI 1,Q1 N lo hi m r v,Q2 m N,top],agg QD,top,ptr 0 0,QE,AV.lit false,ptr 4 0]++HI 15 [iI 13]++HI 20 [lst 2 3 λk=>[iI (oL k),iI (oH k)],iI (↑(3:Nat):Int),iI 3]++HI 20 [Q1 N lo hi m r v,iI (N:Int),iI (N:Int)]++HI 14 [Q2 m N,iI (↑(HD m N):Int)]++HI 106 [],m:=[(4,GO.ints 237 [] 169 λk=>G4 (btM lo hi N) k),(0,KX)],nx:=27}
noncomputable def Jq6:Code:=U9 (VS (U8 Tryz.f93) 3)
def Wi1(k:Nat):St:=(upE [(85,i k)] [(4,.ints 237 [] 169 (G4 (rE N lo hi m r v k))),(0,.cells 191 [.x (.int .u64 0)])] (Zq7 N lo hi m r v))
def CO(k:Nat):G6->Option St
 | .exit 8=>some (upE [(85,i (HD m N))] [(4,.ints 237 [] 169 (G4 (rE N lo hi m r v (HD m N)))),(0,.cells 191 [.x (.int .u64 0)])] (Zq7 N lo hi m r v))
 |_=>none
def Jm1:CT:= .leaf (.exit 8,(CO N lo hi m r v 0 (.exit 8)).getD (Zq7 N lo hi m r v))
def Xw7:UG:=GK [] (HF (Wi1 N lo hi m r v (0)) (Jm1 N lo hi m r v))
theorem Jg3(VT:bOK N lo hi m r v):G5 VP (.loop Jq6) (Xw7 N lo hi m r v):=by
 refine US [] (L:=[]) (VL.cons RI (VL.cons LU (VL.cons R9 (VL.nil _)))) (VX.of (VR.nil _) (VO.cons RM (VO.nil _))) VZ U3 (X:=Nat) (Wi1 N lo hi m r v) (λk=>k<=HD m N) (λk=>HD m N-k) (CO N lo hi m r v) (x0:=0) VW ?_ ?_ ?_
 ·rintro k;kernel_rfl
 ·rintro k y E h;unfold CO at h;split at h
  ·cases h;kernel_rfl
  ·cases h
 ·rintro Q hQ k hx;refine ⟨(k+1),?_⟩
  (with_reducible refine D6 (t:=let z4:=rE N lo hi m r v k;let z1:=(G4 (z4) (((7:Int)+(↑(Prod.fst (GE m N k)):Int)).toNat*1+(((1:Int)+r (Prod.fst (GE m N k)) (Prod.snd (GE m N k))).toNat*13+0)));let z0:=(UT (((7:Int)+(↑(Prod.fst (GE m N k)):Int)).toNat*1+(((1:Int)+r (Prod.fst (GE m N k)) (Prod.snd (GE m N k))).toNat*13+0)) (min z1 (v (Prod.fst (GE m N k)) (Prod.snd (GE m N k))+1)) (G4 (z4)) (((1:Int)+r (Prod.fst (GE m N k)) (Prod.snd (GE m N k))).toNat*1+(((7:Int)+(↑(Prod.fst (GE m N k)):Int)).toNat*13+0)));let z2:=(U0 (AV.ro [lst 2 3 λk=>[iI (oL k),iI (oH k)],iI 1,Q1 N lo hi m r v,Q2 m N,top]));let z3:=(U0 (lst 2 3 λk=>[iI (oL k),iI (oH k)]));(branch (decide ((k:Int)<(↑(HD m N):Int))) (need [UH k (↑(HD m N):Int)] (need [(0:Int)<=(k:Int)/\(k:Int)<=64] (branch (IntKind.wrap IntKind.u64 (↑(BitVec.toNat (BitVec.ofInt (IntKind.bits IntKind.u64) ((0:Int) / (2:Int)^k) &&& BitVec.ofInt (IntKind.bits IntKind.u64) (1:Int))):Int)==0) (need [UH (↑(Prod.fst (GE m N k)):Int) N] (need [UH (↑(Prod.snd (GE m N k)):Int) ((↑(m (Prod.fst (GE m N k))):Int))] (need [(0:Int)<=r (Prod.fst (GE m N k)) (Prod.snd (GE m N k))/\r (Prod.fst (GE m N k)) (Prod.snd (GE m N k))<=1000] (need [(0:Int)<=(↑(Prod.fst (GE m N k)):Int)/\(↑(Prod.fst (GE m N k)):Int)<=1000] (need [VM (v (Prod.fst (GE m N k)) (Prod.snd (GE m N k))-1)] (need [VM (v (Prod.fst (GE m N k)) (Prod.snd (GE m N k))+1)] (need [(0:Int)<=1+r (Prod.fst (GE m N k)) (Prod.snd (GE m N k))/\(1:Int)+r (Prod.fst (GE m N k)) (Prod.snd (GE m N k))<(↑(13:Nat):Int)] (need [(0:Int)<=7+(↑(Prod.fst (GE m N k)):Int)/\(7:Int)+(↑(Prod.fst (GE m N k)):Int)<(↑(13:Nat):Int)] (need [((7:Int)+(↑(Prod.fst (GE m N k)):Int)).toNat*1+(((1:Int)+r (Prod.fst (GE m N k)) (Prod.snd (GE m N k))).toNat*13+0)<169] (need [(0:Int)<=1+r (Prod.fst (GE m N k)) (Prod.snd (GE m N k))/\(1:Int)+r (Prod.fst (GE m N k)) (Prod.snd (GE m N k))<(↑(13:Nat):Int)] (need [(0:Int)<=7+(↑(Prod.fst (GE m N k)):Int)/\(7:Int)+(↑(Prod.fst (GE m N k)):Int)<(↑(13:Nat):Int)] (need [((7:Int)+(↑(Prod.fst (GE m N k)):Int)).toNat*1+(((1:Int)+r (Prod.fst (GE m N k)) (Prod.snd (GE m N k))).toNat*13+0)+List.length [min z1 (v (Prod.fst (GE m N k)) (Prod.snd (GE m N k))+1)]<=169] (need [(0:Int)<=7+(↑(Prod.fst (GE m N k)):Int)/\(7:Int)+(↑(Prod.fst (GE m N k)):Int)<(↑(13:Nat):Int)] (need [(0:Int)<=1+r (Prod.fst (GE m N k)) (Prod.snd (GE m N k))/\(1:Int)+r (Prod.fst (GE m N k)) (Prod.snd (GE m N k))<(↑(13:Nat):Int)] (need [((1:Int)+r (Prod.fst (GE m N k)) (Prod.snd (GE m N k))).toNat*1+(((7:Int)+(↑(Prod.fst (GE m N k)):Int)).toNat*13+0)<169] (need [VM (-(v (Prod.fst (GE m N k)) (Prod.snd (GE m N k))-1))] (need [(0:Int)<=7+(↑(Prod.fst (GE m N k)):Int)/\(7:Int)+(↑(Prod.fst (GE m N k)):Int)<(↑(13:Nat):Int)] (need [(0:Int)<=1+r (Prod.fst (GE m N k)) (Prod.snd (GE m N k))/\(1:Int)+r (Prod.fst (GE m N k)) (Prod.snd (GE m N k))<(↑(13:Nat):Int)] (need [((1:Int)+r (Prod.fst (GE m N k)) (Prod.snd (GE m N k))).toNat*1+(((7:Int)+(↑(Prod.fst (GE m N k)):Int)).toNat*13+0)+List.length [min z0 (-(v (Prod.fst (GE m N k)) (Prod.snd (GE m N k))-1))]<=169] (need [VM ((k:Int)+1)] (need [z2,U0 (agg QD),QL,QE=QE,WO,W9,XI,z3,U0 (↑(3:Nat):Int),XM,WX N lo hi m r v,U0 (N:Int),U0 (N:Int),U0 (Q2 m N),U0 (↑(HD m N):Int),(k:Int)+1=(↑(k+1):Int),169=169,GV 169 (UT (((1:Int)+r (Prod.fst (GE m N k)) (Prod.snd (GE m N k))).toNat*1+(((7:Int)+(↑(Prod.fst (GE m N k)):Int)).toNat*13+0)) (min z0 (-(v (Prod.fst (GE m N k)) (Prod.snd (GE m N k))-1))) (zZ (((7:Int)+(↑(Prod.fst (GE m N k)):Int)).toNat*1+(((1:Int)+r (Prod.fst (GE m N k)) (Prod.snd (GE m N k))).toNat*13+0)) [min z1 (v (Prod.fst (GE m N k)) (Prod.snd (GE m N k))+1)] (G4 (z4)))) (G4 (rE N lo hi m r v (k+1))),QT] (leaf G6.normal)))))))))))))))))))))) (need [VM ((k:Int)+1)] (need [z2,U0 (agg QD),QL,QE=QE,WO,W9,XI,z3,U0 (↑(3:Nat):Int),XM,WX N lo hi m r v,U0 (N:Int),U0 (N:Int),U0 (Q2 m N),U0 (↑(HD m N):Int),(k:Int)+1=(↑(k+1):Int),169=169,GV 169 (G4 (z4)) (G4 (rE N lo hi m r v (k+1))),QT] (leaf G6.normal)))))) (need [z2,U0 (agg QD),QL,QE=QE,WO,W9,XI,z3,U0 (↑(3:Nat):Int),XM,WX N lo hi m r v,U0 (N:Int),U0 (N:Int),U0 (Q2 m N),U0 (↑(HD m N):Int),(k:Int)=(↑(HD m N):Int),169=169,GV 169 (G4 (z4)) (G4 (rE N lo hi m r v (HD m N))),QT] (leaf (G6.exit 8))))) VU ?_)
  simp only [Jm1,CO,VN.sat,GS] at hQ;simp only [VN.sat,UB,UY,GL,UE,VM,UJ,H6,FO,FT,RH,GJ,CO]
  have h6:=VT.1;have hb:=TA m (K:=10) N (λb hb=>(VT.2 b hb).1)
  have hz:(IntKind.u64.wrap ((BitVec.ofInt IntKind.u64.bits (0 / 2^k) &&& BitVec.ofInt IntKind.u64.bits 1).toNat:Int)==0)=true:=by
   rw [Int.zero_ediv];decide
  simp only [hz,true_imp_iff,Bool.true_eq_false,false_imp_iff,and_true];refine ⟨λh=>?_,λh=>?_⟩
  ·obtain ⟨hl1,hl2⟩:=TI m N k VK;obtain ⟨_,_,_,_,q4⟩:=VT.2 _ hl1;obtain ⟨q5,q6,q7,q8⟩:=q4 _ hl2;have e1:((1+r (GE m N k).1 (GE m N k).2).toNat)=1+(r (GE m N k).1 (GE m N k).2).toNat:=VK;have e2:((7+((GE m N k).1:Int)).toNat)=7+(GE m N k).1:=VK;rw [e1,e2];have h1: ∀M w,UT ((7+(GE m N k).1)*1+((1+(r (GE m N k).1 (GE m N k).2).toNat)*13+0)) (min (G4 M ((7+(GE m N k).1)*1+((1+(r (GE m N k).1 (GE m N k).2).toNat)*13+0))) w) (G4 M)=G4 (bnd M (1+(r (GE m N k).1 (GE m N k).2).toNat) (7+(GE m N k).1) w):=λM w=>zK VK VK
   have h2: ∀M w,UT ((1+(r (GE m N k).1 (GE m N k).2).toNat)*1+((7+(GE m N k).1)*13+0)) (min (G4 M ((1+(r (GE m N k).1 (GE m N k).2).toNat)*1+((7+(GE m N k).1)*13+0))) w) (G4 M)=G4 (bnd M (7+(GE m N k).1) (1+(r (GE m N k).1 (GE m N k).2).toNat) w):=λM w=>zK VK VK
   simp only [h1,h2];exact YZ
  ·obtain rfl:k=HD m N:=VK;exact YZ
end
def LB8(B:Int)(M:Nat->Nat->Int):Prop:= ∀x y,-B<=M x y/\M x y<=8000
def JB8(B:Int)(o f t:Nat)(M:Nat->Nat->Int):Prop:= ∀x y,M x y<=8000/\ -(6*B)<=M x y/\(x=o-> -(3*B)<=M x y)/\(y=o-> -(3*B)<=M x y)/\(x=o->y=o-> -(2*B)<=M x y)/\(¬(x<f\/(x=f/\y<t))-> -B<=M x y)
theorem Qs1{B:Int}{o:Nat}{M:Nat->Nat->Int}(hB:0<=B)(h:LB8 B M):JB8 B o 0 0 M:=by
 intro x y;have:=h x y;refine ⟨VK,VK,λ_=>VK,λ_=>VK,λ_ _=>VK,λ_=>VK⟩
theorem Wy4{B:Int}{o f t:Nat}{M:Nat->Nat->Int}(hB:0<=B)(h:JB8 B o f t M):JB8 B o f (t+1) (fwS M o f t):=by
 have hft:=h f t;have hfo:=h f o;have hot:=h o t;have hoo:=h o o;have hn:=hft.2.2.2.2.2 VK;intro x y;have hxy:=h x y;unfold fwS bnd wT;by_cases hc:x=f/\y=t
 ·exact V2
 ·rw [if_neg hc];exact ⟨hxy.1,hxy.2.1,hxy.2.2.1,hxy.2.2.2.1,hxy.2.2.2.2.1,λhv=>hxy.2.2.2.2.2 VK⟩
theorem Wy5{B:Int}{o f:Nat}{M:Nat->Nat->Int}(hB:0<=B)(h:JB8 B o f 0 M): ∀t,JB8 B o f t (fwT M o f t)
 | 0=>h
 |t+1=>Wy4 hB (Wy5 hB h t)
theorem Xm7{B:Int}{o f t:Nat}{M:Nat->Nat->Int}(h:JB8 B o f t M):JB8 B o (f+1) 0 M:=by
 intro x y;have hxy:=h x y;exact ⟨hxy.1,hxy.2.1,hxy.2.2.1,hxy.2.2.2.1,hxy.2.2.2.2.1,λhv=>hxy.2.2.2.2.2 VK⟩
theorem Wy6{B:Int}{c o:Nat}{M:Nat->Nat->Int}(hB:0<=B)(h:LB8 B M): ∀f,JB8 B o f 0 (fwF c M o f)
 | 0=>Qs1 hB h
 |f+1=>Xm7 (Wy5 hB (Wy6 hB h f) (c+1))
theorem Wy2{c:Nat}{M:Nat->Nat->Int}(h:LB8 8001 M): ∀o,LB8 (8001*6^o) (fwO c M o)
 | 0=>by
  rw [show (8001:Int)*6^0=8001 by decide]
  exact h
 |o+1=>by
  have ih:=Wy2 (c:=c) h o;have hp:(0:Int)<=8001*6^o:=Int.mul_nonneg VK (Int.pow_nonneg VK);have hj:=Wy6 (c:=c) (o:=o) hp ih (c+1);intro x y;have:=hj x y;have e:(8001:Int)*6^(o+1)=6*(8001*6^o):=by rw [Int.pow_succ];omega
  rw [e];exact ⟨this.2.1,this.1⟩
theorem Ja1: ∀o:Nat,o<=12->(6:Int)^o<=2176782336:=by
 intro o ho;rcases (show o=0\/o=1\/o=2\/o=3\/o=4\/o=5\/o=6\/o=7\/o=8\/o=9\/o=10\/o=11\/o=12 by omega) with rfl|rfl|rfl|rfl|rfl|rfl|rfl|rfl|rfl|rfl|rfl|rfl|rfl<;>decide
theorem Zl4{c:Nat}{M:Nat->Nat->Int}(h:LB8 8001 M){o f t:Nat}(ho:o<=12)(x y:Nat): -105000000000000<=fwT (fwF c (fwO c M o) o f) o f t x y/\fwT (fwF c (fwO c M o) o f) o f t x y<=8000:=by
 have ih:=Wy2 (c:=c) h o;have hp:(0:Int)<=8001*6^o:=Int.mul_nonneg VK (Int.pow_nonneg VK);have hj:=Wy5 hp (Wy6 (c:=c) (o:=o) hp ih f) t x y;have:=Ja1 o ho;omega
theorem kY{B:Int}{M:Nat->Nat->Int}(h:LB8 B M){a b:Nat}{v:Int}(hv: -B<=v):LB8 B (bnd M a b v):=by
 intro x y;have h1:=h a b;have h2:=h x y;unfold bnd wT;split<;>omega
theorem oLH(k:Nat):(-9<=oL k/\oL k<=0)/\0<=oH k/\oH k<=9:=by
 unfold oL oH;constructor<;>split<;>omega
theorem Wc5: ∀k,LB8 8001 (ofM k)
 | 0=>by
  intro x y;unfold ofM LT;split<;>omega
 |k+1=>by
  have h:=oLH k;exact kY (kY (Wc5 k) VK) VK
theorem Ws1{N:Nat}{lo hi:Nat->Int}{m:Nat->Nat}{r v:Nat->Nat->Int}(h:bOK N lo hi m r v): ∀k,k<=N->LB8 8001 (btM lo hi k)
 | 0,_=>Wc5 3
 |k+1,hk=>by
  have q:=h.2 k VK;exact kY (kY (Ws1 h k VK) VK) VK
theorem SQ{N:Nat}{lo hi:Nat->Int}{m:Nat->Nat}{r v:Nat->Nat->Int}(h:bOK N lo hi m r v): ∀q,q<=HD m N->LB8 8001 (rE N lo hi m r v q)
 | 0,_=>Ws1 h N (Nat.le_refl _)
 |q+1,hq=>by
  obtain ⟨hl1,hl2⟩:=TI m N q VK;have q4:=(h.2 _ hl1).2.2.2.2 _ hl2;exact kY (kY (SQ h q VK) VK) VK
section
variable (N:Nat)(lo hi:Nat->Int)(m:Nat->Nat)(r v:Nat->Nat->Int)
def r0M:Nat->Nat->Int:=rE N lo hi m r v (HD m N)
def PE:Nat->Nat->Int:=fwO 12 (r0M N lo hi m r v) 13
def xE:Bool:=D7 (λk=>decide (0<=PE N lo hi m r v k k)) 13
def Zq6:St:={σ:=[AV.ro [lst 2 3 λk=>[iI (oL k),iI (oH k)],iI 1,Q1 N lo hi m r v,Q2 m N,top],agg QD,top,ptr 0 0,QE,AV.lit false,ptr 4 0]++HI 15 [iI 13]++HI 20 [lst 2 3 λk=>[iI (oL k),iI (oH k)],iI (↑(3:Nat):Int),iI 3]++HI 20 [Q1 N lo hi m r v,iI (N:Int),iI (N:Int)]++HI 14 [Q2 m N,iI (↑(HD m N):Int),iI (↑(HD m N):Int)]++HI 105 [],m:=[(4,GO.ints 237 [] 169 λk=>G4 (rE N lo hi m r v (HD m N)) k),(0,KX)],nx:=28}
noncomputable def Zs6:Code:=U9 (VS (U8 Tryz.f93) 4)
def Wi0(o:Nat):St:=(upE [(136,i o)] [(4,.ints 237 [] 169 (G4 (fwO 12 (r0M N lo hi m r v) o))),(0,.cells 191 [.x (.int .u64 0)])] (Zq6 N lo hi m r v))
def CN(o:Nat):G6->Option St
 | .exit 10=>some (upE [(136,i 13)] [(4,.ints 237 [] 169 (G4 (fwO 12 (r0M N lo hi m r v) 13))),(0,.cells 191 [.x (.int .u64 0)])] (Zq6 N lo hi m r v))
 |_=>none
def Jm0:CT:= .leaf (.exit 10,(CN N lo hi m r v 0 (.exit 10)).getD (Zq6 N lo hi m r v))
def Xw6:UG:=GK [] (HF (Wi0 N lo hi m r v (0)) (Jm0 N lo hi m r v))
def Zq5(o:Nat):St:={σ:=[AV.ro [lst 2 3 λk=>[iI (oL k),iI (oH k)],iI 1,Q1 N lo hi m r v,Q2 m N,top],agg QD,top,ptr 0 0,QE,AV.lit false,ptr 4 0]++HI 9 [iI (o:Int)]++HI 5 [iI 13]++HI 20 [lst 2 3 λk=>[iI (oL k),iI (oH k)],iI (↑(3:Nat):Int),iI 3]++HI 20 [Q1 N lo hi m r v,iI (N:Int),iI (N:Int)]++HI 14 [Q2 m N,iI (↑(HD m N):Int),iI (↑(HD m N):Int)]++HI 50 [iI (o:Int)]++HI 54 [],m:=[(4,GO.ints 237 [] 169 λk=>G4 (fwO 12 (r0M N lo hi m r v) o) k),(0,KX)],nx:=32}
noncomputable def Zs5:Code:=(U9 (VS (U9 (VS (U8 Tryz.f93) 4)) 0))
def Wh9(o:Nat)(f:Nat):St:=(upE [(139,i f)] [(4,.ints 237 [] 169 (G4 (fwF 12 (fwO 12 (r0M N lo hi m r v) o) o f))),(0,.cells 191 [.x (.int .u64 0)])] (Zq5 N lo hi m r v o))
def CM(o:Nat)(f:Nat):G6->Option St
 | .exit 12=>some (upE [(139,i 13)] [(4,.ints 237 [] 169 (G4 (fwF 12 (fwO 12 (r0M N lo hi m r v) o) o 13))),(0,.cells 191 [.x (.int .u64 0)])] (Zq5 N lo hi m r v o))
 |_=>none
def Jl9(o:Nat):CT:= .leaf (.exit 12,(CM N lo hi m r v o 0 (.exit 12)).getD (Zq5 N lo hi m r v o))
def Xw5(o:Nat):UG:=GK [] (HF (Wh9 N lo hi m r v o (0)) (Jl9 N lo hi m r v o))
def Zq4(o:Nat)(f:Nat):St:={σ:=[AV.ro [lst 2 3 λk=>[iI (oL k),iI (oH k)],iI 1,Q1 N lo hi m r v,Q2 m N,top],agg QD,top,ptr 0 0,QE,AV.lit false,ptr 4 0]++HI 9 [iI (o:Int),iI (f:Int),top,top,top,top,iI 13]++HI 20 [lst 2 3 λk=>[iI (oL k),iI (oH k)],iI (↑(3:Nat):Int),iI 3]++HI 20 [Q1 N lo hi m r v,iI (N:Int),iI (N:Int)]++HI 14 [Q2 m N,iI (↑(HD m N):Int),iI (↑(HD m N):Int)]++HI 50 [iI (o:Int),top,top,iI (f:Int)]++HI 51 [],m:=[(4,GO.ints 237 [] 169 λk=>G4 (fwF 12 (fwO 12 (r0M N lo hi m r v) o) o f) k),(0,KX)],nx:=36}
noncomputable def Jq5:Code:=(U9 (VS (U9 (VS (U9 (VS (U8 Tryz.f93) 4)) 0)) 0))
def Wh8(o:Nat)(f:Nat)(t:Nat):St:=(upE [(142,i t)] [(4,.ints 237 [] 169 (G4 (fwT (fwF 12 (fwO 12 (r0M N lo hi m r v) o) o f) o f t))),(0,.cells 191 [.x (.int .u64 0)])] (Zq4 N lo hi m r v o f))
def CL(o:Nat)(f:Nat)(t:Nat):G6->Option St
 | .exit 14=>some (upE [(142,i 13)] [(4,.ints 237 [] 169 (G4 (fwT (fwF 12 (fwO 12 (r0M N lo hi m r v) o) o f) o f 13))),(0,.cells 191 [.x (.int .u64 0)])] (Zq4 N lo hi m r v o f))
 |_=>none
def Jl8(o:Nat)(f:Nat):CT:= .leaf (.exit 14,(CL N lo hi m r v o f 0 (.exit 14)).getD (Zq4 N lo hi m r v o f))
def Xw4(o:Nat)(f:Nat):UG:=GK [] (HF (Wh8 N lo hi m r v o f (0)) (Jl8 N lo hi m r v o f))
theorem Jg0(o:Nat)(f:Nat)(VT:bOK N lo hi m r v)(UI:o<=12)(HR:f<=12):G5 VP (.loop Jq5) (Xw4 N lo hi m r v o f):=by
 refine US [] (L:=[]) (VL.cons RI (VL.cons LU (VL.cons R9 (VL.nil _)))) (VX.of (VR.nil _) (VO.cons RM (VO.nil _))) VZ U3 (X:=Nat) (Wh8 N lo hi m r v o f) (λt=>t<=13) (λt=>13-t) (CL N lo hi m r v o f) (x0:=0) VW ?_ ?_ ?_
 ·rintro t;kernel_rfl
 ·rintro t y E h;unfold CL at h;split at h
  ·cases h;kernel_rfl
  ·cases h
 ·rintro Q hQ t hx;refine ⟨(t+1),?_⟩;(with_reducible refine D6 (t:=let z2:=(fwF 12 (fwO 12 (r0M N lo hi m r v) o) o f);let z0:=(fwT z2 o f t);let z1:=(U0 (AV.ro [lst 2 3 λk=>[iI (oL k),iI (oH k)],iI 1,Q1 N lo hi m r v,Q2 m N,top]));let z3:=(U0 (↑(HD m N):Int));(branch (decide ((t:Int)<13)) (need [UH f 13] (need [UH t 13] (need [t*1+(f*13+0)<169] (need [UH f 13] (need [UH o 13] (need [o*1+(f*13+0)<169] (need [UH o 13] (need [UH t 13] (need [t*1+(o*13+0)<169] (need [VM (G4 z0 (o*1+(f*13+0))+G4 z0 (t*1+(o*13+0)))] (need [UH f 13] (need [UH t 13] (need [t*1+(f*13+0)+List.length [min (G4 z0 (t*1+(f*13+0))) (G4 z0 (o*1+(f*13+0))+G4 z0 (t*1+(o*13+0)))]<=169] (need [VM ((t:Int)+1)] (need [z1,U0 (agg QD),QL,QE=QE,WO,W9,U0 (o:Int),U0 (f:Int),XI,U0 (lst 2 3 λk=>[iI (oL k),iI (oH k)]),U0 (↑(3:Nat):Int),XM,WX N lo hi m r v,U0 (N:Int),U0 (N:Int),U0 (Q2 m N),z3,z3,U0 (o:Int),U0 (f:Int),(t:Int)+1=(↑(t+1):Int),169=169,GV 169 (UT (t*1+(f*13+0)) (min (G4 z0 (t*1+(f*13+0))) (G4 z0 (o*1+(f*13+0))+G4 z0 (t*1+(o*13+0)))) (G4 z0)) (G4 (fwT z2 o f (t+1))),QT] (leaf G6.normal)))))))))))))))) (need [z1,U0 (agg QD),QL,QE=QE,WO,W9,U0 (o:Int),U0 (f:Int),XI,U0 (lst 2 3 λk=>[iI (oL k),iI (oH k)]),U0 (↑(3:Nat):Int),XM,WX N lo hi m r v,U0 (N:Int),U0 (N:Int),U0 (Q2 m N),z3,z3,U0 (o:Int),U0 (f:Int),(t:Int)=13,169=169,GV 169 (G4 z0) (G4 (fwT z2 o f 13)),QT] (leaf (G6.exit 14))))) VU ?_)
  simp only [Jl8,CL,VN.sat,GS] at hQ;simp only [VN.sat,UB,UY,GL,UE,VM,UJ,H6,FO,FT,RH,GJ,CL]
  have hl:=λx y=>Zl4 (c:=12) (SQ VT (HD m N) (Nat.le_refl _)) (o:=o) (f:=f) (t:=t) VK x y
  have hfo:=hl f o;have hot:=hl o t;refine ⟨λh=>?_,λh=>?_⟩
  ·have h1: ∀M,G4 M (o*1+(f*13+0))=M f o:=λM=>kW _ VK VK
   have h2: ∀M,G4 M (t*1+(o*13+0))=M o t:=λM=>kW _ VK VK
   have h3: ∀M w,UT (t*1+(f*13+0)) (min (G4 M (t*1+(f*13+0))) w) (G4 M)=G4 (bnd M f t w):=λM w=>zK VK VK
   simp only [h3];simp only [h1,h2];unfold r0M;exact YZ
  ·obtain rfl:t=13:=VK;exact YZ
theorem Jg1(o:Nat)(VT:bOK N lo hi m r v)(UI:o<=12):G5 VP (.loop Zs5) (Xw5 N lo hi m r v o):=by
 refine US [] (L:=[B6 17 (λk=>FR [k<=12] (Xw4 N lo hi m r v o k))]) (VL.cons RI (VL.cons LU (VL.cons R9 (VL.nil _)))) (VX.of (VR.nil _) (VO.cons RM (VO.nil _))) VZ (G7 (λcj hcj=>by
  have e:VS Zs5 0=some (.loop Jq5):=VU;rw [e] at hcj;cases hcj;exact L2 (λk=>D2 (λh=>Jg0 N lo hi m r v o k VT UI h)))) (X:=Nat) (Wh9 N lo hi m r v o) (λf=>f<=13) (λf=>13-f) (CM N lo hi m r v o) (x0:=0) VW ?_ ?_ ?_
 ·rintro f;kernel_rfl
 ·rintro f y E h;unfold CM at h;split at h
  ·cases h;kernel_rfl
  ·cases h
 ·rintro Q hQ f hx;refine ⟨(f+1),?_⟩;(with_reducible refine D6 (t:=let z0:=(U0 (AV.ro [lst 2 3 λk=>[iI (oL k),iI (oH k)],iI 1,Q1 N lo hi m r v,Q2 m N,top]));let z1:=(fwO 12 (r0M N lo hi m r v) o);let z2:=(U0 (↑(HD m N):Int));let z3:=(U0 (lst 2 3 λk=>[iI (oL k),iI (oH k)]));(branch (decide ((f:Int)<13)) (need [f<=12] (need [z0,U0 (agg QD),QL,QE=QE,WO,W9,U0 (o:Int),U0 (f:Int),XI,z3,U0 (↑(3:Nat):Int),XM,WX N lo hi m r v,U0 (N:Int),U0 (N:Int),U0 (Q2 m N),z2,z2,U0 (o:Int),U0 (f:Int),(0:Int)=(↑(0:Nat):Int),169=169,GV 169 (G4 (fwF 12 z1 o f)) (G4 (fwT (fwF 12 z1 o f) o f 0)),QT] (need [VM ((f:Int)+1)] (need [z0,U0 (agg QD),QL,QE=QE,WO,W9,U0 (o:Int),XI,z3,U0 (↑(3:Nat):Int),XM,WX N lo hi m r v,U0 (N:Int),U0 (N:Int),U0 (Q2 m N),z2,z2,U0 (o:Int),(f:Int)+1=(↑(f+1):Int),169=169,GV 169 (G4 (fwT (fwF 12 z1 o f) o f 13)) (G4 (fwF 12 z1 o (f+1))),QT] (leaf G6.normal))))) (need [z0,U0 (agg QD),QL,QE=QE,WO,W9,U0 (o:Int),XI,z3,U0 (↑(3:Nat):Int),XM,WX N lo hi m r v,U0 (N:Int),U0 (N:Int),U0 (Q2 m N),z2,z2,U0 (o:Int),(f:Int)=13,169=169,GV 169 (G4 (fwF 12 z1 o f)) (G4 (fwF 12 z1 o 13)),QT] (leaf (G6.exit 12))))) VU ?_)
  simp only [Jl9,CM,VN.sat,GS] at hQ;simp only [VN.sat,UB,UY,GL,UE,VM,UJ,H6,FO,FT,RH,GJ,CM]
  refine ⟨λh=>?_,λh=>?_⟩
  ·exact YZ
  ·obtain rfl:f=13:=VK;exact YZ
theorem Jg2(VT:bOK N lo hi m r v):G5 VP (.loop Zs6) (Xw6 N lo hi m r v):=by
 refine US [] (L:=[B6 16 (λk=>FR [k<=12] (Xw5 N lo hi m r v k))]) (VL.cons RI (VL.cons LU (VL.cons R9 (VL.nil _)))) (VX.of (VR.nil _) (VO.cons RM (VO.nil _))) VZ (G7 (λcj hcj=>by
  have e:VS Zs6 0=some (.loop Zs5):=VU;rw [e] at hcj;cases hcj;exact L2 (λk=>D2 (λh=>Jg1 N lo hi m r v k VT h)))) (X:=Nat) (Wi0 N lo hi m r v) (λo=>o<=13) (λo=>13-o) (CN N lo hi m r v) (x0:=0) VW ?_ ?_ ?_
 ·rintro o;kernel_rfl
 ·rintro o y E h;unfold CN at h;split at h
  ·cases h;kernel_rfl
  ·cases h
 ·rintro Q hQ o hx;refine ⟨(o+1),?_⟩;(with_reducible refine D6 (t:=let z0:=(U0 (AV.ro [lst 2 3 λk=>[iI (oL k),iI (oH k)],iI 1,Q1 N lo hi m r v,Q2 m N,top]));let z1:=(U0 (↑(HD m N):Int));let z2:=(U0 (lst 2 3 λk=>[iI (oL k),iI (oH k)]));let z3:=(fwO 12 (r0M N lo hi m r v) o);(branch (decide ((o:Int)<13)) (need [o<=12] (need [z0,U0 (agg QD),QL,QE=QE,WO,W9,U0 (o:Int),XI,z2,U0 (↑(3:Nat):Int),XM,WX N lo hi m r v,U0 (N:Int),U0 (N:Int),U0 (Q2 m N),z1,z1,U0 (o:Int),(0:Int)=(↑(0:Nat):Int),169=169,GV 169 (G4 z3) (G4 (fwF 12 z3 o 0)),QT] (need [VM ((o:Int)+1)] (need [z0,U0 (agg QD),QL,QE=QE,WO,W9,XI,z2,U0 (↑(3:Nat):Int),XM,WX N lo hi m r v,U0 (N:Int),U0 (N:Int),U0 (Q2 m N),z1,z1,(o:Int)+1=(↑(o+1):Int),169=169,GV 169 (G4 (fwF 12 z3 o 13)) (G4 (fwO 12 (r0M N lo hi m r v) (o+1))),QT] (leaf G6.normal))))) (need [z0,U0 (agg QD),QL,QE=QE,WO,W9,XI,z2,U0 (↑(3:Nat):Int),XM,WX N lo hi m r v,U0 (N:Int),U0 (N:Int),U0 (Q2 m N),z1,z1,(o:Int)=13,169=169,GV 169 (G4 z3) (G4 (fwO 12 (r0M N lo hi m r v) 13)),QT] (leaf (G6.exit 10))))) VU ?_)
  simp only [Jm0,CN,VN.sat,GS] at hQ;simp only [VN.sat,UB,UY,GL,UE,VM,UJ,H6,FO,FT,RH,GJ,CN]
  refine ⟨λh=>?_,λh=>?_⟩
  ·exact YZ
  ·obtain rfl:o=13:=VK;exact YZ
end
end Go.Proofs.YtlclobclmfhlmaaGreatDoor.Hd
