/- Contracts, put together. Conditions: those of each. -/
import Derived.Test.YtakpdkmhclhlnaaGreatDoorMc
import Derived.Lib.Walk
import Derived.Lib.SliceRun
import Derived.Lib.AppendZerosOnto
set_option linter.unusedSimpArgs false
set_option linter.unusedVariables false
set_option maxRecDepth 100000
namespace Go.Proofs.YtakpdkmhclhlnaaGreatDoor.Bo
open Go Go.Sx Go.RowKit
open Go.Sx.VM (need branch leaf)
open Go.Sx.AV (lst ptr agg roI tup top)
end Go.Proofs.YtakpdkmhclhlnaaGreatDoor.Bo
namespace Go.Proofs.YtakpdkmhclhlnaaGreatDoor
open Go Go.Sx Go.RowKit Bo
open Go.Sx.VM (need branch leaf)
open Go.Sx.AV (lst ptr agg roI tup top)
theorem VZ:Tryz.prog.follows .mixedOrders=true:=VU
abbrev i(n:Int):AV:= .x (.int .i64 n)
abbrev iI(n:Int):AV:= .x (.int .i64 n)
abbrev bl(b:Bool):AV:= .x (.bool b)
abbrev bt:=Bo.bt
abbrev insB:=Bo.insB
def dnI(n d:Int):Int:=n.tdiv d
def upI(n d:Int):Int:=(n+d-1).tdiv d
theorem bt_iff(U n O:Int):bt U n O=true↔U<=n/\n<=O:=Bo.bt_iff U n O
theorem insB_iff(U a b O:Int):insB U a b O=true↔U<=a/\a<=b/\b<=O:=Bo.insB_iff U a b O
theorem gX{n d:Int}(I:0<=n)(hd:1<=d):dnI n d*d<=n/\n<dnI n d*d+d/\0<=dnI n d/\dnI n d<=n:=by
 unfold dnI;rw [Int.tdiv_eq_ediv_of_nonneg I];have h1:=Int.mul_ediv_add_emod n d;have h2:=Int.emod_nonneg n (show d≠0 by omega)
 have h3:=Int.emod_lt_of_pos n (show 0<d by omega)
 have h4:=Int.ediv_nonneg I (show 0<=d by omega)
 have h5:=Int.ediv_le_self d I;rw [Int.mul_comm] at h1;omega
theorem SR{n d:Int}(I:0<=n)(hd:1<=d):upI n d*d-d<n/\n<=upI n d*d/\0<=upI n d/\upI n d<=n:=by
 have h:=gX (n:=n+d-1) VJ hd;have e:upI n d=dnI (n+d-1) d:=rfl;rw [e];refine ⟨VJ,VJ,h.2.2.1,?_⟩;rcases Int.lt_or_le n (dnI (n+d-1) d) with h1|h1;have h2:=Int.mul_le_mul_of_nonneg_right (show n+1<=dnI (n+d-1) d by omega) (show 0<=d by omega)
 rw [Int.add_mul,Int.one_mul] at h2;have h3:=Bz I (show 0<=d-1 by omega)
 rw [Int.mul_sub,Int.mul_one] at h3;omega;exact h1
def BF:UX
 |[.x (.int .i64 n),.x (.int .i64 U),.x (.int .i64 O)]=>some ([],bl (bt U n O))
 |_=>none
abbrev Y0:Value:=Value.bool false
theorem wT(n U O:Int):VX VO 92 [i n,i U,i O] (bl (bt U n O)):=by
 refine GW Tryz.func92 (t:=branch (decide (U<=n)) (leaf (RV.x (.bool (decide (n<=O))))) (leaf (RV.x (Y0)))) VU ?_;simp only [VM.sat,UB,G0,GL,UD,UH];all_goals (simp+contextual [bt,insB,Bo.bt,Bo.insB,Bool.and_assoc]);all_goals omega
theorem RJ:VP VO 92 BF:=by
 refine ⟨(UJ Tryz.func92),?_⟩;intro avs ns res h I;unfold BF at h;split at h;cases h;exact wT _ _ _;cases h
def BG:UX
 |[.agg [.x (.int .i64 a),.x (.int .i64 b)],.x (.int .i64 U),.x (.int .i64 O)]=>some ([],bl (insB U a b O))
 |_=>none
theorem xF(a b U O:Int):VX VO 98 [.agg [i a,i b],i U,i O] (bl (insB U a b O)):=by
 refine GW Tryz.func98 (t:=branch (decide (U<=a)) (branch (decide (a<=b)) (leaf (RV.x (.bool (decide (b<=O))))) (leaf (RV.x (Y0)))) (leaf (RV.x (Y0)))) VU ?_;simp only [VM.sat,UB,G0,GL,UD,UH];all_goals (simp+contextual [bt,insB,Bo.bt,Bo.insB,Bool.and_assoc]);all_goals omega
theorem PU:VP VO 98 BG:=by
 refine ⟨(UJ Tryz.func98),?_⟩;intro avs ns res h I;unfold BG at h;split at h;cases h;exact xF _ _ _ _;cases h
def t8:UX
 |[.x (.int .i64 n),.x (.int .i64 d)]=>some ([1<=d/\d<=100000,0<=n/\n<=1000000000000],i (dnI n d))
 |_=>none
theorem Xm8(n d:Int)(VR:1<=d/\d<=100000)(UE:0<=n/\n<=1000000000000):VX VO 76 [i n,i d] (i (dnI n d)):=by
 refine GW Tryz.func76 (t:=need [d≠0,VL (Int.tdiv n d)] (leaf (RV.x (.int .i64 (Int.tdiv n d))))) VU ?_;have h:=gX UE.1 VR.1;unfold dnI at h ⊢;exact VD
theorem aU:VP VO 76 t8:=by
 refine ⟨(UJ Tryz.func76),?_⟩;intro avs ns res h I;unfold t8 at h;split at h;cases h;exact Xm8 _ _ (I _ VT) (I _ VT);cases h
def Zs2:UX
 |[.x (.int .i64 n),.x (.int .i64 d)]=>some ([1<=d/\d<=100000,0<=n/\n<=1000000000000],i (upI n d))
 |_=>none
theorem Ja8(n d:Int)(VR:1<=d/\d<=100000)(UE:0<=n/\n<=1000000000000):VX VO 77 [i n,i d] (i (upI n d)):=by
 refine GW Tryz.func77 (t:=need [VL (n+d)] (need [VL (n+d-1)] (need [d≠0,VL (Int.tdiv (n+d-1) d)] (leaf (RV.x (.int .i64 (Int.tdiv (n+d-1) d))))))) VU ?_;have h:=SR UE.1 VR.1;unfold upI at h ⊢;exact VD
theorem Wa0:VP VO 77 Zs2:=by
 refine ⟨(UJ Tryz.func77),?_⟩;intro avs ns res h I;unfold Zs2 at h;split at h;cases h;exact Ja8 _ _ (I _ VT) (I _ VT);cases h
theorem Qe9{a Z:Int}(ha:0<=a/\a<=100)(hd:0<=Z/\Z<=100000):0<=a*Z/\a*Z<=10000000:=by
 have h1:=Bz ha.1 hd.1;have h2:=Bo.mul_bd (x:=a) (y:=Z) (X:=100) (Y:=100000) VJ VJ;omega
def Qh1:UX
 |[.agg [.x (.int .i64 a),.x (.int .i64 b)],.x (.int .i64 Z)]=>some ([0<=a/\a<=100,0<=b/\b<=100,0<=Z/\Z<=100000],.agg [i (dnI (a*Z) 100),i (upI (b*Z) 100)])
 |_=>none
theorem Wc6(a b Z:Int)(VR:0<=a/\a<=100)(UE:0<=b/\b<=100)(HK:0<=Z/\Z<=100000):VX VO 151 [.agg [i a,i b],i Z] (.agg [i (dnI (a*Z) 100),i (upI (b*Z) 100)]):=by
 refine U1 (L:=[]) (Ae aU (Ae Wa0 Aa)) VZ Tryz.func151 (UU Tryz.f151) U2 (t:=need [VL (a*Z)] (need [(1:Int)<=100/\(100:Int)<=100000,(0:Int)<=a*Z/\a*Z<=1000000000000] (need [VL (b*Z)] (need [(1:Int)<=100/\(100:Int)<=100000,(0:Int)<=b*Z/\b*Z<=1000000000000] (leaf (RV.agg [RV.x (.int .i64 (dnI (a*Z) (100:Int))),RV.x (.int .i64 (upI (b*Z) (100:Int)))])))))) VU ?_;have h1:=Qe9 VR HK;have h2:=Qe9 UE HK;exact VD
theorem cV:VP VO 151 Qh1:=by
 refine ⟨(UJ Tryz.func151),?_⟩;intro avs ns res h I;unfold Qh1 at h;split at h;cases h;exact Wc6 _ _ _ (I _ VT) (I _ VT) (I _ VT);cases h
section
variable (f:Cg)(k:Nat)(Z:Int)
def onL:Int:=f (4+2*k)-upI (f 3*Z) 100
def onH:Int:=f (5+2*k)-dnI (f 2*Z) 100
end
def teM(c:Int)(k:Nat):Int:=dnI (1000*k) c
def drB(f:Cg):Prop:=(0<=f 2/\f 2<=100)/\(0<=f 3/\f 3<=100)
def bdB(f:Cg):Prop:= ∀j,j<22-> -100000000000<=f (4+j)/\f (4+j)<=100000000000
theorem Wc7{f:Cg}{Z:Int}(h:drB f)(hd:0<=Z/\Z<=100000):(0<=upI (f 3*Z) 100/\upI (f 3*Z) 100<=10000000)/\0<=dnI (f 2*Z) 100/\dnI (f 2*Z) 100<=10000000:=by
 have h1:=Qe9 h.1 hd;have h2:=Qe9 h.2 hd;have h3:=gX h1.1 (show (1:Int)<=100 by omega)
 have h4:=SR h2.1 (show (1:Int)<=100 by omega)
 omega
theorem oW(c T U O:Int)(A B:AV)(f:Cg)(k:Nat)(Z:Int)(VR:drB f)(UE:bdB f)(HK:k<=10)(F1:0<=Z/\Z<=100000):VX VO 114 [.roI [i c,i T,i U,i O,A,B] 26 f 0,i k,i Z] (i (onL f k Z)):=by
 refine U1 (L:=[]) (Ae cV Aa) VZ Tryz.func114 (UU Tryz.f114) U2 (t:=need [UI k 11] (need [k*2+10+0-1-1-1-1-1-1<26] (need [2+2<=26] (need [(0:Int)<=f (2+nat_lit 0)/\f (2+nat_lit 0)<=100,(0:Int)<=f (2+nat_lit 1)/\f (2+nat_lit 1)<=100,(0:Int)<=Z/\Z<=100000] (need [VL (f (k*2+10+0-1-1-1-1-1-1)-upI (f (2+nat_lit 1)*Z) (100:Int))] (leaf (RV.x (.int .i64 (f (k*2+10+0-1-1-1-1-1-1)-upI (f (2+nat_lit 1)*Z) (100:Int)))))))))) VU ?_;have h0:=Wc7 VR F1;have h1:=UE (2*k) VJ;have h2:=UE (2*k+1) VJ;rw [show 4+(2*k+1)=5+2*k by omega] at h2
 have d1:=VR.1;have d2:=VR.2
 have hi6:VL (f (4+2*k)-upI (f 3*Z) 100):=by
  simp only [VL];omega
 simp only [VM.sat,UB,G0,GL,UD,UH];rw [show k*2+10+0-1-1-1-1-1-1=4+2*k by omega]
 exact ⟨VJ,VJ,VJ,⟨d1,d2,F1⟩,hi6,rfl⟩
def mH:UX
 |[.roI [.x (.int .i64 c),.x (.int .i64 T),.x (.int .i64 U),.x (.int .i64 O),A,B] 26 f 0,.x (.int .i64 k),.x (.int .i64 Z)]=>some ([drB f,bdB f,0<=k/\k<=10,0<=Z/\Z<=100000],i (onL f k.toNat Z))
 |_=>none
theorem oV:VP VO 114 mH:=by
 refine ⟨(UJ Tryz.func114),?_⟩;intro avs ns res h I;unfold mH at h;split at h;rename_i c T U O A B f k Z;cases h;have hk:0<=k/\k<=10:=I _ VT;have e:((k.toNat:Nat):Int)=k:=VJ;have h0:=oW c T U O A B f k.toNat Z (I _ VT) (I _ VT) VJ (I _ VT);rw [e] at h0;exact h0;cases h
theorem aH(c T U O:Int)(A B:AV)(f:Cg)(k:Nat)(Z:Int)(VR:drB f)(UE:bdB f)(HK:k<=10)(F1:0<=Z/\Z<=100000):VX VO 115 [.roI [i c,i T,i U,i O,A,B] 26 f 0,i k,i Z] (i (onH f k Z)):=by
 refine U1 (L:=[]) (Ae cV Aa) VZ Tryz.func115 (UU Tryz.f115) U2 (t:=need [UI k 11] (need [k*2+10+1-1-1-1-1-1-1<26] (need [2+2<=26] (need [(0:Int)<=f (2+nat_lit 0)/\f (2+nat_lit 0)<=100,(0:Int)<=f (2+nat_lit 1)/\f (2+nat_lit 1)<=100,(0:Int)<=Z/\Z<=100000] (need [VL (f (k*2+10+1-1-1-1-1-1-1)-dnI (f (2+nat_lit 0)*Z) (100:Int))] (leaf (RV.x (.int .i64 (f (k*2+10+1-1-1-1-1-1-1)-dnI (f (2+nat_lit 0)*Z) (100:Int)))))))))) VU ?_;have h0:=Wc7 VR F1;have h1:=UE (2*k) VJ;have h2:=UE (2*k+1) VJ;rw [show 4+(2*k+1)=5+2*k by omega] at h2
 have d1:=VR.1;have d2:=VR.2
 have hi6:VL (f (5+2*k)-dnI (f 2*Z) 100):=by
  simp only [VL];omega
 simp only [VM.sat,UB,G0,GL,UD,UH];rw [show k*2+10+1-1-1-1-1-1-1=5+2*k by omega]
 exact ⟨VJ,VJ,VJ,⟨d1,d2,F1⟩,hi6,rfl⟩
def MA:UX
 |[.roI [.x (.int .i64 c),.x (.int .i64 T),.x (.int .i64 U),.x (.int .i64 O),A,B] 26 f 0,.x (.int .i64 k),.x (.int .i64 Z)]=>some ([drB f,bdB f,0<=k/\k<=10,0<=Z/\Z<=100000],i (onH f k.toNat Z))
 |_=>none
theorem aG:VP VO 115 MA:=by
 refine ⟨(UJ Tryz.func115),?_⟩;intro avs ns res h I;unfold MA at h;split at h;rename_i c T U O A B f k Z;cases h;have hk:0<=k/\k<=10:=I _ VT;have e:((k.toNat:Nat):Int)=k:=VJ;have h0:=aH c T U O A B f k.toNat Z (I _ VT) (I _ VT) VJ (I _ VT);rw [e] at h0;exact h0;cases h
theorem Jf6(c T U O:Int)(A B:AV)(f:Cg)(k:Nat)(Z:Int)(VR:drB f)(UE:bdB f)(HK:k<=10)(F1:0<=Z/\Z<=100000):VX VO 72 [.roI [i c,i T,i U,i O,A,B] 26 f 0,i k,i Z] (.agg [i (onL f k Z),i (onH f k Z)]):=by
 refine U1 (L:=[]) (Ae oV (Ae aG Aa)) VZ Tryz.func72 (UU Tryz.f72) U2 (t:=need [drB f,bdB f,(0:Int)<=(k:Int)/\(k:Int)<=10,(0:Int)<=Z/\Z<=100000] (need [drB f,bdB f,(0:Int)<=(k:Int)/\(k:Int)<=10,(0:Int)<=Z/\Z<=100000] (leaf (RV.agg [RV.x (.int .i64 (onL f k Z)),RV.x (.int .i64 (onH f k Z))])))) VU ?_;simp only [VM.sat,UB,G0,GL,UD,UH,F4];exact ⟨⟨VR,UE,VJ,F1⟩,⟨VR,UE,VJ,F1⟩⟩
def Js9:UX
 |[.roI [.x (.int .i64 c),.x (.int .i64 T),.x (.int .i64 U),.x (.int .i64 O),A,B] 26 f 0,.x (.int .i64 k),.x (.int .i64 Z)]=>some ([drB f,bdB f,0<=k/\k<=10,0<=Z/\Z<=100000],.agg [i (onL f k.toNat Z),i (onH f k.toNat Z)])
 |_=>none
theorem Wf6:VP VO 72 Js9:=by
 refine ⟨(UJ Tryz.func72),?_⟩;intro avs ns res h I;unfold Js9 at h;split at h;rename_i c T U O A B f k Z;cases h;have hk:0<=k/\k<=10:=I _ VT;have e:((k.toNat:Nat):Int)=k:=VJ;have h0:=Jf6 c T U O A B f k.toNat Z (I _ VT) (I _ VT) VJ (I _ VT);rw [e] at h0;exact h0;cases h
theorem Xu0{c:Int}{k:Nat}(hc:1<=c/\c<=10)(hk:k<=10):0<=teM c k/\teM c k<=10000:=by
 have:=gX (n:=1000*k) VJ hc.1;unfold teM;omega
theorem Wa5(c T U O:Int)(A B:AV)(f:Cg)(k:Nat)(VR:1<=c/\c<=10)(UE:k<=10):VX VO 141 [.roI [i c,i T,i U,i O,A,B] 26 f 0,i k] (i (teM c k)):=by
 refine GW Tryz.func141 (t:=need [VL ((1000:Int)*(k:Int))] (need [c≠0,VL (Int.tdiv ((1000:Int)*(k:Int)) c)] (leaf (RV.x (.int .i64 (Int.tdiv ((1000:Int)*(k:Int)) c)))))) VU ?_;have h:=Xu0 VR UE;unfold teM dnI at h ⊢;exact VD
def Qg9:UX
 |[.roI [.x (.int .i64 c),.x (.int .i64 T),.x (.int .i64 U),.x (.int .i64 O),A,B] 26 f 0,.x (.int .i64 k)]=>some ([1<=c/\c<=10,0<=k/\k<=10],i (teM c k.toNat))
 |_=>none
theorem Wa4:VP VO 141 Qg9:=by
 refine ⟨(UJ Tryz.func141),?_⟩;intro avs ns res h I;unfold Qg9 at h;split at h;rename_i c T U O A B f k;cases h;have hk:0<=k/\k<=10:=I _ VT;have e:((k.toNat:Nat):Int)=k:=VJ;have h0:=Wa5 c T U O A B f k.toNat (I _ VT) VJ;rw [e] at h0;exact h0;cases h
theorem N6(c T U O:Int)(A B:AV)(f:Cg)(k:Nat)(Z:Int)(VR:drB f)(UE:bdB f)(HK:k<=10)(F1:0<=Z/\Z<=100000)(BR:1<=c/\c<=10):VX VO 97 [.roI [i c,i T,i U,i O,A,B] 26 f 0,i k,i Z] (.agg [i (onL f k Z-teM c k),i (onH f k Z-teM c k)]):=by
 refine U1 (L:=[]) (Ae Wf6 (Ae Wa4 Aa)) VZ Tryz.func97 (UU Tryz.f97) U2 (t:=need [drB f,bdB f,(0:Int)<=(k:Int)/\(k:Int)<=10,(0:Int)<=Z/\Z<=100000] (need [(1:Int)<=c/\c<=10,(0:Int)<=(k:Int)/\(k:Int)<=10] (need [VL (onL f k Z-teM c k)] (need [(1:Int)<=c/\c<=10,(0:Int)<=(k:Int)/\(k:Int)<=10] (need [VL (onH f k Z-teM c k)] (leaf (RV.agg [RV.x (.int .i64 (onL f k Z-teM c k)),RV.x (.int .i64 (onH f k Z-teM c k))]))))))) VU ?_;have h0:=Wc7 VR F1;have h1:=UE (2*k) VJ;have h2:=UE (2*k+1) VJ;rw [show 4+(2*k+1)=5+2*k by omega] at h2
 have d1:=VR.1;have d2:=VR.2
 have h5:=Xu0 BR HK;unfold onL onH;simp only [VM.sat,UB,G0,GL,UD,VL,UH,F4,onL,onH];refine ⟨⟨VR,UE,VJ,F1⟩,⟨BR,VJ⟩,VJ,⟨BR,VJ⟩,VJ⟩
def d7:UX
 |[.roI [.x (.int .i64 c),.x (.int .i64 T),.x (.int .i64 U),.x (.int .i64 O),A,B] 26 f 0,.x (.int .i64 k),.x (.int .i64 Z)]=>some ([drB f,bdB f,0<=k/\k<=10,0<=Z/\Z<=100000,1<=c/\c<=10],.agg [i (onL f k.toNat Z-teM c k.toNat),i (onH f k.toNat Z-teM c k.toNat)])
 |_=>none
theorem N5:VP VO 97 d7:=by
 refine ⟨(UJ Tryz.func97),?_⟩;intro avs ns res h I;unfold d7 at h;split at h;rename_i c T U O A B f k Z;cases h;have hk:0<=k/\k<=10:=I _ VT;have e:((k.toNat:Nat):Int)=k:=VJ;have h0:=N6 c T U O A B f k.toNat Z (I _ VT) (I _ VT) VJ (I _ VT) (I _ VT);rw [e] at h0;exact h0;cases h
def keP(c:Int)(f:Cg)(wi Z x:Int):Bool:=insB (-wi) (onL f x.toNat Z-teM c x.toNat) (onH f x.toNat Z-teM c x.toNat) wi
def mkV(p:Int)(j:Nat):List Value:=[.int .i64 (p+j)]
def Qh6:UX
 |[.x (.int .i64 x),.ro [.roI [.x (.int .i64 c),.x (.int .i64 T),.x (.int .i64 U),.x (.int .i64 O),A,B] 26 f 0],.ro [.x (.int .i64 Z)],.ro [.x (.int .i64 S),.x (.int .i64 W),.x (.int .i64 wi)]]=>some ([drB f,bdB f,1<=c/\c<=10,0<=Z/\Z<=100000,0<=wi/\wi<=1000000,0<=x/\x<=10],bl (keP c f wi Z x))
 |_=>none
section
variable (x:Int)(c T U O:Int)(A B:AV)(f:Cg)(Z S W wi:Int)
theorem Wi6(VR:drB f)(UE:bdB f)(HK:1<=c/\c<=10)(F1:0<=Z/\Z<=100000)(BR:0<=wi/\wi<=1000000)(zD:0<=x/\x<=10):VX VO 96 [i x,.ro [.roI [i c,i T,i U,i O,A,B] 26 f 0],.ro [i Z],.ro [i S,i W,i wi]] (bl (keP c f wi Z x)):=by
 refine U1 (L:=[]) (Ae N5 (Ae PU Aa)) VZ Tryz.func96 (UU Tryz.f96) U2 (t:=need [drB f,bdB f,(0:Int)<=x/\x<=10,(0:Int)<=Z/\Z<=100000,(1:Int)<=c/\c<=10] (need [VL (-wi)] (leaf (RV.x (.bool (insB (-wi) (onL f (Int.toNat x) Z-teM c (Int.toNat x)) (onH f (Int.toNat x) Z-teM c (Int.toNat x)) wi)))))) VU ?_;simp only [VM.sat,UB,G0,GL,UD,VL,UH,keP];exact ⟨⟨VR,UE,zD,F1,HK⟩,VJ⟩
theorem Wi5:VP VO 96 Qh6:=by
 refine ⟨(UJ Tryz.func96),?_⟩;intro avs ns res h I;unfold Qh6 at h;split at h;cases h;exact Wi6 _ _ _ _ _ _ _ _ _ _ _ _ (I _ VT) (I _ VT) (I _ VT) (I _ VT) (I _ VT) (I _ VT);cases h
theorem Wx4(VR:drB f)(UE:bdB f)(HK:1<=c/\c<=10)(F1:0<=Z/\Z<=100000)(BR:0<=wi/\wi<=1000000)(zD:0<=x/\x<=10):VX VO 138 [i x,.ro [.fn (.func 96) [] [.ro [.roI [i c,i T,i U,i O,A,B] 26 f 0],.ro [i Z],.ro [i S,i W,i wi]]]] (bl (!(keP c f wi Z x))):=by
 refine U1 (L:=[]) (Ae Wi5 Aa) VZ Tryz.func138 (UU Tryz.f138) U2 (t:=need [drB f,bdB f,(1:Int)<=c/\c<=10,(0:Int)<=Z/\Z<=100000,(0:Int)<=wi/\wi<=1000000,(0:Int)<=x/\x<=10] (leaf (RV.x (.bool !keP c f wi Z x)))) VU ?_;simp only [VM.sat,UB,G0,GL,UD,UH];exact ⟨VR,UE,HK,F1,BR,zD⟩
end
def Qi8:UX
 |[.x (.int .i64 x),.ro [.fn (.func 96) [] [.ro [.roI [.x (.int .i64 c),.x (.int .i64 T),.x (.int .i64 U),.x (.int .i64 O),A,B] 26 f 0],.ro [.x (.int .i64 Z)],.ro [.x (.int .i64 S),.x (.int .i64 W),.x (.int .i64 wi)]]]]=>some ([drB f,bdB f,1<=c/\c<=10,0<=Z/\Z<=100000,0<=wi/\wi<=1000000,0<=x/\x<=10],bl (!(keP c f wi Z x)))
 |_=>none
theorem mB:VP VO 138 Qi8:=by
 refine ⟨(UJ Tryz.func138),?_⟩;intro avs ns res h I;unfold Qi8 at h;split at h;cases h;exact Wx4 _ _ _ _ _ _ _ _ _ _ _ _ (I _ VT) (I _ VT) (I _ VT) (I _ VT) (I _ VT) (I _ VT);cases h
abbrev WF(c:Int)(T:Int)(U:Int)(O:Int)(A:AV)(B:AV)(f:Cg)(Z:Int)(S:Int)(W:Int)(wi:Int):AV:=AV.fn (Fn.func 138) [] [AV.ro [AV.fn (Fn.func 96) [] [AV.ro [roI [iI c,iI T,iI U,iI O,A,B] 26 (λa=>f a) 0],AV.ro [iI Z],AV.ro [iI S,iI W,iI wi]]]]
section
variable (n:Nat)(g:Cg)
abbrev KD:AV:=lst 1 n λk=>[iI (g k)]
def Xc8(c T U O:Int)(A B:AV)(f:Cg)(Z S W wi:Int):St:={σ:=[KD n g,WF c T U O A B f Z S W wi]++HI 5 [iI (n:Int)]++HI 11 [],m:=[],nx:=4}
noncomputable def Jt7:Code:=U9 (VS (U7 Tryz.f172) 0)
def Wj0(c T U O:Int)(A B:AV)(f:Cg)(Z S W wi:Int)(k:Nat):St:=(upM [(8,i k)] (Xc8 n g c T U O A B f Z S W wi))
def dJ(c T U O:Int)(A B:AV)(f:Cg)(Z S W wi:Int)(k:Nat):G5->Option St
 | .ret=>some (upM [(4,i (GX ((λk=> !(keP c f wi Z (g k)))) n))] (Xc8 n g c T U O A B f Z S W wi))
 | .exit 0=>some (upM [] (Xc8 n g c T U O A B f Z S W wi))
 |_=>none
def Jo6(c T U O:Int)(A B:AV)(f:Cg)(Z S W wi:Int):CT:= .branch (decide (GX ((λk=> !(keP c f wi Z (g k)))) n<n)) (.leaf (.ret,(dJ n g c T U O A B f Z S W wi 0 .ret).getD (Xc8 n g c T U O A B f Z S W wi))) (.leaf (.exit 0,(dJ n g c T U O A B f Z S W wi 0 (.exit 0)).getD (Xc8 n g c T U O A B f Z S W wi)))
def Xx7(c T U O:Int)(A B:AV)(f:Cg)(Z S W wi:Int):UG:=(HF (Wj0 n g c T U O A B f Z S W wi (0)) (Jo6 n g c T U O A B f Z S W wi))
theorem Zx9(c T U O:Int)(A B:AV)(f:Cg)(Z S W wi:Int)(VR:n<=100000)(UE:drB f)(HK:bdB f)(F1:1<=c/\c<=10)(BR:0<=Z/\Z<=100000)(zD:0<=wi/\wi<=1000000)(oF: ∀j,j<n->0<=g j/\g j<=10):G6 VO (.loop Jt7) (Xx7 n g c T U O A B f Z S W wi):=by
 refine HH (L:=[]) (Ae mB Aa) VZ U2 (X:=Nat) (Wj0 n g c T U O A B f Z S W wi) (λk=>k<=n/\ ∀j,j<k->(λk=> !(keP c f wi Z (g k))) j=false) (λk=>n-k) (dJ n g c T U O A B f Z S W wi) (x0:=0) ⟨VJ,λj hj=>VJ⟩ ?_ ?_ ?_;rintro k;kernel_rfl;rintro k y E h;unfold dJ at h;split at h;cases h;kernel_rfl;cases h;kernel_rfl;cases h
 ·rintro Q hQ k hx;refine ⟨(k+1),?_⟩;(with_reducible refine D9 (t:=let z0:=(VY (WF c T U O A B f Z S W wi));(branch (decide ((k:Int)<(n:Int))) (need [UI k n] (need [drB λa=>f a,bdB λa=>f a,(1:Int)<=c/\c<=10,(0:Int)<=Z/\Z<=100000,(0:Int)<=wi/\wi<=1000000,(0:Int)<=g k/\g k<=10] (branch (!keP c (λa=>f a) wi Z (g k)) (need [VY (KD n g),z0,(k:Int)=(↑(GX (λk=> !keP c f wi Z (g k)) n):Int),VY (n:Int)] (leaf G5.ret)) (need [VL ((k:Int)+1)] (need [VY (KD n g),z0,VY (n:Int),(k:Int)+1=(↑(k+1):Int)] (leaf G5.normal)))))) (need [VY (KD n g),z0,VY (n:Int)] (leaf (G5.exit 0))))) VU ?_)
  simp only [Jo6,dJ,VM.sat,GS,HA] at hQ;simp only [VM.sat,UB,UH,HA,VL,dJ,F4];refine ⟨λh=>⟨VJ,⟨UE,HK,F1,BR,zD,oF k VJ⟩,?_⟩,λh=>?_⟩
  rotate_left
  have hf:GX ((λk=> !(keP c f wi Z (g k)))) n=n:=qB (λj hj=>hx.2 j VJ);intro E hE;cases hE;exact hQ.2 VJ;refine ⟨λhb=>?_,λhb=>?_⟩;have hf:GX ((λk=> !(keP c f wi Z (g k)))) n=k:=zQ VJ hb hx.2;refine ⟨VJ,λE hE=>?_⟩;cases hE;exact hQ.1 VJ;refine ⟨VJ,VJ,⟨VJ,λj hj=>?_⟩,VJ⟩;rcases (show j<k\/j=k by omega) with h1|rfl
  exact hx.2 j h1;exact hb
theorem Zd1(c T U O:Int)(A B:AV)(f:Cg)(Z S W wi:Int)(VR:n<=100000)(UE:drB f)(HK:bdB f)(F1:1<=c/\c<=10)(BR:0<=Z/\Z<=100000)(zD:0<=wi/\wi<=1000000)(oF: ∀j,j<n->0<=g j/\g j<=10):VX VO 172 [.lst 1 n (λk=>[i (g k)]),.fn (.func 138) [] [.ro [.fn (.func 96) [] [.ro [.roI [i c,i T,i U,i O,A,B] 26 f 0],.ro [i Z],.ro [i S,i W,i wi]]]]] (i (if GX ((λk=> !(keP c f wi Z (g k)))) n<n then (GX ((λk=> !(keP c f wi Z (g k)))) n:Int) else -1)):=by
 refine U1 (L:=[Xx7 n g c T U O A B f Z S W wi]) (Ae mB Aa) VZ Tryz.func172 (UU Tryz.f172) (G7 (lpE (b:= .loop Jt7) VU<|Zx9 n g c T U O A B f Z S W wi VR UE HK F1 BR zD oF)) (t:=need [VY (KD n g),VY (WF c T U O A B f Z S W wi),VY (n:Int),(0:Int)=((0:Nat):Int)] (branch (decide (GX (λk=> !keP c f wi Z (g k)) n<n)) (leaf (RV.x (.int .i64 (↑(GX (λk=> !keP c f wi Z (g k)) n):Int)))) (leaf (RV.x (.int .i64 (-1:Int)))))) VU ?_
 exact VC
end
def Xw9:UX
 |[.lst 1 n g,.fn (.func 138) [] [.ro [.fn (.func 96) [] [.ro [.roI [.x (.int .i64 c),.x (.int .i64 T),.x (.int .i64 U),.x (.int .i64 O),A,B] 26 f 0],.ro [.x (.int .i64 Z)],.ro [.x (.int .i64 S),.x (.int .i64 W),.x (.int .i64 wi)]]]]]=>some ([UF 1 n g,n<=100000,drB f,bdB f,1<=c/\c<=10,0<=Z/\Z<=100000,0<=wi/\wi<=1000000,∀j,j<n->0<=col 0 g j/\col 0 g j<=10],i (if GX ((λk=> !(keP c f wi Z (col 0 g k)))) n<n then (GX ((λk=> !(keP c f wi Z (col 0 g k)))) n:Int) else -1))
 |_=>none
theorem Zd0:VP VO 172 Xw9:=by
 refine ⟨(UJ Tryz.func172),?_⟩;intro avs ns res h I;unfold Xw9 at h;split at h;cases h;have hr:UF 1 _ _:=I _ (GD);exact (Zd1 _ (col 0 _) _ _ _ _ _ _ _ _ _ _ _ (I _ VT) (I _ VT) (I _ VT) (I _ VT) (I _ VT) (I _ VT) (I _ VT)).same (.cons (.lst 1 _ _ _ hr) (.cons (.refl _) .nil));cases h
theorem Zr2(n:Nat)(g:Cg)(c T U O:Int)(A B:AV)(f:Cg)(Z S W wi:Int)(VR:n<=100000)(UE:drB f)(HK:bdB f)(F1:1<=c/\c<=10)(BR:0<=Z/\Z<=100000)(zD:0<=wi/\wi<=1000000)(oF: ∀j,j<n->0<=g j/\g j<=10):VX VO 137 [.lst 1 n (λk=>[i (g k)]),.fn (.func 138) [] [.ro [.fn (.func 96) [] [.ro [.roI [i c,i T,i U,i O,A,B] 26 f 0],.ro [i Z],.ro [i S,i W,i wi]]]]] (bl (!D3 (λk=>keP c f wi Z (g k)) n)):=by
 refine U1 (L:=[]) (Ae Zd0 Aa) VZ Tryz.func137 (UU Tryz.f137) U2 (t:=need [UF 1 n λk=>[i (g k)],n<=100000,drB f,bdB f,(1:Int)<=c/\c<=10,(0:Int)<=Z/\Z<=100000,(0:Int)<=wi/\wi<=1000000,∀(j:Nat),j<n->(0:Int)<=g j/\g j<=10] (leaf (RV.x (.bool (decide ((if GX (λk=> !keP c f wi Z (g k)) n<n then (↑(GX (λk=> !keP c f wi Z (g k)) n):Int) else (-1:Int))>=(0:Int))))))) VU ?_
 simp only [VM.sat,UB,G0,UD,UH];refine ⟨⟨λ_ _=>rfl,VR,UE,HK,F1,BR,zD,oF⟩,?_⟩;rw [kM];have e:(λk=> !(λk=>keP c f wi Z (g k)) k)=(λk=> !(keP c f wi Z (g k))):=rfl;rw [e];show decide ((if GX (λk=> !(keP c f wi Z (g k))) n<n then (GX (λk=> !(keP c f wi Z (g k))) n:Int) else -1)>=0)=_
 have:=F6 ((λk=> !(keP c f wi Z (g k)))) n;split<;>simp<;>omega
def Xx4:UX
 |[.lst 1 n g,.fn (.func 138) [] [.ro [.fn (.func 96) [] [.ro [.roI [.x (.int .i64 c),.x (.int .i64 T),.x (.int .i64 U),.x (.int .i64 O),A,B] 26 f 0],.ro [.x (.int .i64 Z)],.ro [.x (.int .i64 S),.x (.int .i64 W),.x (.int .i64 wi)]]]]]=>some ([UF 1 n g,n<=100000,drB f,bdB f,1<=c/\c<=10,0<=Z/\Z<=100000,0<=wi/\wi<=1000000,∀j,j<n->0<=col 0 g j/\col 0 g j<=10],bl (!D3 (λk=>keP c f wi Z (col 0 g k)) n))
 |_=>none
theorem Zr1:VP VO 137 Xx4:=by
 refine ⟨(UJ Tryz.func137),?_⟩;intro avs ns res h I;unfold Xx4 at h;split at h;cases h;have hr:UF 1 _ _:=I _ (GD);exact (Zr2 _ (col 0 _) _ _ _ _ _ _ _ _ _ _ _ (I _ VT) (I _ VT) (I _ VT) (I _ VT) (I _ VT) (I _ VT) (I _ VT)).same (.cons (.lst 1 _ _ _ hr) (.cons (.refl _) .nil));cases h
theorem Xp3(n:Nat)(g:Cg)(c T U O:Int)(A B:AV)(f:Cg)(Z S W wi:Int)(VR:n<=100000)(UE:drB f)(HK:bdB f)(F1:1<=c/\c<=10)(BR:0<=Z/\Z<=100000)(zD:0<=wi/\wi<=1000000)(oF: ∀j,j<n->0<=g j/\g j<=10):VX VO 93 [.lst 1 n (λk=>[i (g k)]),.fn (.func 96) [] [.ro [.roI [i c,i T,i U,i O,A,B] 26 f 0],.ro [i Z],.ro [i S,i W,i wi]]] (bl (D3 (λk=>keP c f wi Z (g k)) n)):=by
 refine U1 (L:=[]) (Ae Zr1 Aa) VZ Tryz.func93 (UU Tryz.f93) U2 (t:=need [UF 1 n λk=>[i (g k)],n<=100000,drB f,bdB f,(1:Int)<=c/\c<=10,(0:Int)<=Z/\Z<=100000,(0:Int)<=wi/\wi<=1000000,∀(j:Nat),j<n->(0:Int)<=g j/\g j<=10] (leaf (RV.x (.bool !!D3 (λk=>keP c f wi Z (g k)) n)))) VU ?_;simp only [VM.sat,UB,G0,UD,UH];refine ⟨⟨λ_ _=>rfl,VR,UE,HK,F1,BR,zD,oF⟩,?_⟩;show (!!D3 (λk=>keP c f wi Z (g k)) n)=_
 simp
def Wz4:UX
 |[.lst 1 n g,.fn (.func 96) [] [.ro [.roI [.x (.int .i64 c),.x (.int .i64 T),.x (.int .i64 U),.x (.int .i64 O),A,B] 26 f 0],.ro [.x (.int .i64 Z)],.ro [.x (.int .i64 S),.x (.int .i64 W),.x (.int .i64 wi)]]]=>some ([UF 1 n g,n<=100000,drB f,bdB f,1<=c/\c<=10,0<=Z/\Z<=100000,0<=wi/\wi<=1000000,∀j,j<n->0<=col 0 g j/\col 0 g j<=10],bl (D3 (λk=>keP c f wi Z (col 0 g k)) n))
 |_=>none
theorem Xp2:VP VO 93 Wz4:=by
 refine ⟨(UJ Tryz.func93),?_⟩;intro avs ns res h I;unfold Wz4 at h;split at h;cases h;have hr:UF 1 _ _:=I _ (GD);exact (Xp3 _ (col 0 _) _ _ _ _ _ _ _ _ _ _ _ (I _ VT) (I _ VT) (I _ VT) (I _ VT) (I _ VT) (I _ VT) (I _ VT)).same (.cons (.lst 1 _ _ _ hr) (.cons (.refl _) .nil));cases h
def bE:UX
 |[.x (.int .i64 p),.x (.int .i64 q)]=>some ([],.fn (.func 140) [] [.ro [i p],.ro [i q]])
 |_=>none
abbrev XW(p:Int)(q:Int):AV:=AV.fn (Fn.func 140) [] [AV.ro [iI p],AV.ro [iI q]]
abbrev K4:Ext:={}
theorem Wh0(p q:Int):FQ VO 95 [i p,i q] (.fn (.func 140) [] [.ro [i p],.ro [i q]]):=by
 refine D5 (L:=[]) Aa Ad VZ Tryz.func95 (UU Tryz.f95) G8 (t:=leaf (XW p q)) VU ?_;exact rfl
theorem dR:PI VO 95 bE:=by
 refine ⟨(UJ Tryz.func95),?_⟩;intro avs ns res h I;unfold bE at h;split at h;cases h;exact Wh0 _ _;cases h
section
variable (l:Nat)
abbrev YF:AV:=AV.fn (Fn.yield l) [] []
def Xd7(p q:Int):St:={σ:=[YF l,AV.ro [iI p],AV.ro [iI q]]++HI 12 [],m:=[],nx:=2,gh:=some 0}
noncomputable def Zx2:Code:=U9 (VS (U7 Tryz.f140) 0)
def aC(p q:Int)(j:Nat):St:={σ:=GY [(4,i (p+j))] (Xd7 l p q).σ,m:=[],nx:=0,gh:=some (j) }
def jU(p q:Int)(j:Nat):G5->Option St
 | .exit 0=>some {σ:=GY [] (Xd7 l p q).σ,m:=[],nx:=0,gh:=some ((q-p+1).toNat) }
 | .ret=>some {σ:=GY [] (Xd7 l p q).σ,m:=[],nx:=0,gh:=none}
 |_=>none
def Jq5(p q:Int):CT:= .may True (.leaf (.exit 0,(jU l p q 0 (.exit 0)).getD (Xd7 l p q))) (.leaf (.ret,(jU l p q 0 .ret).getD (Xd7 l p q)))
def Xz8(p q:Int):UG:=GJ [] (HF (aC l p q (0)) (Jq5 l p q))
theorem Jg3(p q:Int)(VR: -1000000<=p/\p<=1000000)(UE: -1000000<=q/\q<=1000000){cx:Cx}(hX:VW VO {Y:=some (l,((q-p+1).toNat),(mkV p)) } cx):HN VO none cx (.loop Zx2) (Xz8 l p q):=by
 refine FM [] (L:=[]) Aa hX VZ G8 (V:=Nat) (aC l p q) (λj=>j<=((q-p+1).toNat)) (λj=>((q-p+1).toNat)-j) (jU l p q) (x0:=0) VT ?_ ?_ ?_;rintro j;kernel_rfl;rintro j y E h;unfold jU at h;split at h;cases h;kernel_rfl;cases h;kernel_rfl;cases h
 ·rintro Q hQ j hx;refine ⟨(j+1),?_⟩;have e:HY VO [] {Y:=some (l,((q-p+1).toNat),(mkV p)) } [] [] Zx2 (aC l p q j) (aC l p q ((j+1))) (jU l p q j)=(branch (decide (p+(j:Int)<=q)) (need [l=l,j<(q-p+1).toNat,VY ([Value.int IntKind.i64 (p+(j:Int))])] (VM.may True (need [VL (p+(j:Int)+1)] (need [YF l=YF l,VY (AV.ro [iI p]),VY (AV.ro [iI q]),p+(j:Int)+1=p+(↑(j+1):Int),j+1=j+1] (leaf G5.normal))) (need [YF l=YF l,VY (AV.ro [iI p]),VY (AV.ro [iI q])] (leaf G5.ret)))) (need [YF l=YF l,VY (AV.ro [iI p]),VY (AV.ro [iI q]),j=(q-p+1).toNat] (leaf (G5.exit 0)))):=VU;rw [e];simp only [Jq5,jU,VM.sat,GS] at hQ;have hQ1: ∀E,jU l p q j (.exit 0)=some E->Q (.exit 0,E):=λE hE=>by cases hE;exact hQ.1 trivial
  have hQ2: ∀E,jU l p q j .ret=some E->Q (.ret,E):=λE hE=>by cases hE;exact hQ.2
  simp only [VM.sat,UB,UH,HA,VL,F4];clear e hQ;all_goals exact V7
end
theorem EQ(p q:Int)(VR: -1000000<=p/\p<=1000000)(UE: -1000000<=q/\q<=1000000):BE Tryz.prog 140 [.ro [i p],.ro [i q]] (((q-p+1).toNat)) (mkV p):=by
 refine BN (L:=λl=>[Xz8 l p q]) Aa VZ (UJ Tryz.func140) Tryz.func140 (UU Tryz.f140) VU (λl cx hX=>G7 (lpE (b:= .loop Zx2) VU<|Jg3 l p q VR UE hX)) (t:=λl=>(need [VY (AV.fn (Fn.yield l) [] []),VY (AV.ro [iI p]),VY (AV.ro [iI q]),p=p+((0:Nat):Int),0=0] (VM.may True (need [VY (q-p+1).toNat] (leaf PUnit.unit)) (leaf PUnit.unit)))) (λl=>VU) ?_
 intro l;simp only [VM.sat,UB,G0,GL,UD,VL,UH,HA,FU];all_goals exact V7
theorem cat1{p:Int}{k j:Nat}(h:j<k+1):GI k (λj=>[i (p+j)]) (U4 1 [i (p+k)]) j=[i (p+j)]:=by
 show H6 (decide (j<k)) [i (p+j)] (U4 1 [i (p+k)] (j-k))=_;rw [show j-k=0 by omega]
 by_cases hj:j<k;rw [decide_eq_true hj];rfl;obtain rfl:j=k:=VJ;rw [decide_eq_false hj];rfl
abbrev ZE:AV:=AV.x (.slice none 0 0)
section
variable (p q:Int)
def Jt6:St:={σ:=[ZE,XW p q,ptr 0 0,top,ZE,top,XW p q]++HI 6 [],m:=[(900,GO.row 3 1 0 λx=>[]),(0,GO.cells 22 [AV.row 900])],nx:=901}
def rfF:Option Code->Operand
 |some (.rangeFunc f _ _ _)=>f
 |_=> .const .nilFunc
def jP:Option Code->Array Nat
 |some (.rangeFunc _ ps _ _)=>ps
 |_=>#[]
def T4:Option Code->Code
 |some (.rangeFunc _ _ a _)=>a
 |_=> .skip
def T3:Option Code->Code
 |some (.rangeFunc _ _ _ b)=>b
 |_=> .skip
noncomputable def Jx9:Code:=T4 (VS (U7 Tryz.f139) 0)
noncomputable def Jx3:Code:=T3 (VS (U7 Tryz.f139) 0)
def pG(k:Nat):St:={σ:=GY [] (Jt6 p q).σ,m:=[(900,.row 3 1 k (λj=>[i (p+j)])),(0,.cells 22 [.row 900])],nx:=901}
def oM(k:Nat):G5->Option St
 | .normal=>some {σ:=GY [] (Jt6 p q).σ,m:=[(900,.row 3 1 ((q-p+1).toNat) (λj=>[i (p+j)])),(0,.cells 22 [.row 900])],nx:=901}
 |_=>none
def T_as:CT:= .leaf (.normal,pG p q ((q-p+1).toNat))
def Zc4:UG:=GJ [(.cell 0 0,900,3,1)] (HF (pG p q (0)) (T_as p q))
abbrev KM:Prop:=ptr 0 0=ptr 0 0
theorem Jo2(VR: -1000000<=p/\p<=1000000)(UE: -1000000<=q/\q<=1000000):HT VO (.rangeFunc (rfF (VS (U7 Tryz.f139) 0)) (jP (VS (U7 Tryz.f139) 0)) Jx9 Jx3) (Zc4 p q):=by
 refine PA [(.cell 0 0,900,3,1)] (L:=[]) Aa Ad VZ U2 (V:=Nat) (pG p q) (λk=>k<=((q-p+1).toNat)) (λk=>k) (oM p q) (x0:=0) VT rfl ?_ ?_ ?_ ?_ (g:=140) (caps:=[.ro [i p],.ro [i q]]) VU VU (EQ p q VR UE) (λ_=>rfl) ?_;rintro k;kernel_rfl;rintro k y E h;unfold oM at h;split at h;cases h;kernel_rfl;cases h;rintro k;rfl;rintro k y E h;unfold oM at h;split at h;cases h;rfl;cases h;rintro Q hQ k hx;refine ⟨λhlt=>⟨(k+1),rfl,?_⟩,λPL=>?_⟩;(with_reducible refine D9 (t:=need [(k+1)*8<=140737488355328,RP 1 (U4 1 [iI (p+(k:Int))])] (need [ZE=ZE,VY (XW p q),KM,ZE=ZE,VY (XW p q),k+1=k+1,GV (k+1) (GI k (λj=>[iI (p+(j:Int))]) (U4 1 [iI (p+(k:Int))])) (λi=>[iI (p+(i:Int))]),VY (AV.row 900)] (leaf G5.normal))) VU ?_)
 simp only [VM.sat,UB,UH]
 refine ⟨⟨VJ,λj hj a ha=>FC ha (by simp [AV.one,Value.oneCell'])⟩,λj hj=>?_,VJ⟩
 exact cat1 hj;subst PL;exact hQ
end
def mkF(p:Int)(j:Nat):List AV:=[i (p+j)]
theorem Qu4(p q:Int)(VR: -1000000<=p/\p<=1000000)(UE: -1000000<=q/\q<=1000000):VX VO 139 [.x (.slice none 0 0),.fn (.func 140) [] [.ro [i p],.ro [i q]]] (.lst 1 ((q-p+1).toNat) (mkF p)):=by
 refine GA (L:=[Zc4 p q]) Aa Ad VZ Tryz.func139 (UU Tryz.f139) (G7 (lpE (b:= .rangeFunc (rfF (VS (U7 Tryz.f139) 0)) (jP (VS (U7 Tryz.f139) 0)) Jx9 Jx3) VU<|Jo2 p q VR UE)) (t:=need [ZE=ZE,VY (XW p q),KM,ZE=ZE,VY (XW p q),0=0,∀(i:Nat),i<0->[]=[iI (p+(i:Int))],VY (AV.row 900)] (leaf (RV.lst 1 (q-p+1).toNat λj=>[iI (p+(j:Int))]))) VU ?_
 simp only [VM.sat,UB,G0,GL,UD,UH]
 (with_reducible repeat' first|apply Al|intro _)
 all_goals first|exact Ak|omega|with_reducible rfl|assumption|rfl|(rename_i h;exact absurd h (Aq _))|(rename_i hm;cases PM.1 hm;exact Ak)|skip
def mR:UX
 |[.x (.slice none 0 0),.fn (.func 140) [] [.ro [.x (.int .i64 p)],.ro [.x (.int .i64 q)]]]=>some ([-1000000<=p/\p<=1000000,-1000000<=q/\q<=1000000],.lst 1 ((q-p+1).toNat) (mkF p))
 |_=>none
theorem Qu3:VP VO 139 mR:=by
 refine ⟨(UJ Tryz.func139),?_⟩;intro avs ns res h I;unfold mR at h;split at h;cases h;exact Qu4 _ _ (I _ VT) (I _ VT);cases h
def SC:UX
 |[.fn (.func 140) [] [.ro [.x (.int .i64 p)],.ro [.x (.int .i64 q)]]]=>some ([-1000000<=p/\p<=1000000,-1000000<=q/\q<=1000000],.lst 1 ((q-p+1).toNat) (mkF p))
 |_=>none
theorem s9(p q:Int)(VR: -1000000<=p/\p<=1000000)(UE: -1000000<=q/\q<=1000000):FQ VO 94 [.fn (.func 140) [] [.ro [i p],.ro [i q]]] (.lst 1 ((q-p+1).toNat) (mkF p)):=by
 refine D5 (L:=[]) (Ae Qu3 Aa) Ad VZ Tryz.func94 (UU Tryz.f94) G8 (t:=need [(-1000000:Int)<=p/\p<=1000000,(-1000000:Int)<=q/\q<=1000000] (leaf (lst 1 (q-p+1).toNat λj=>[iI (p+(j:Int))]))) VU ?_;simp only [VM.sat,UB,UH];exact ⟨⟨VR,UE⟩,rfl,rfl,λ_ _=>rfl⟩
theorem lP:PI VO 94 SC:=by
 refine ⟨(UJ Tryz.func94),?_⟩;intro avs ns res h I;unfold SC at h;split at h;cases h;exact s9 _ _ (I _ VT) (I _ VT);cases h
def keB(c:Int)(f:Cg)(S W wi Z:Int):Bool:=D3 (λk=>keP c f wi Z (S+k)) (W-S+1).toNat
def Wy6:UX
 |[.roI [.x (.int .i64 c),.x (.int .i64 T),.x (.int .i64 U),.x (.int .i64 O),A,B] 26 f 0,.agg [.x (.int .i64 S),.x (.int .i64 W),.x (.int .i64 wi)],.x (.int .i64 Z)]=>some ([drB f,bdB f,1<=c/\c<=10,0<=S/\S<=W/\W<=10,0<=wi/\wi<=1000000,0<=Z/\Z<=100000],bl (keB c f S W wi Z))
 |_=>none
theorem Xi8(c T U O:Int)(A B:AV)(f:Cg)(S W wi Z:Int)(VR:drB f)(UE:bdB f)(HK:1<=c/\c<=10)(F1:0<=S/\S<=W/\W<=10)(BR:0<=wi/\wi<=1000000)(zD:0<=Z/\Z<=100000):VX VO 59 [.roI [i c,i T,i U,i O,A,B] 26 f 0,.agg [i S,i W,i wi],i Z] (bl (keB c f S W wi Z)):=by
 refine GA (L:=[]) (Ae Xp2 Aa) (Ai (Af dR (Af lP Ab)) Ac) VZ Tryz.func59 (UU Tryz.f59) G8 (t:=need [(-1000000:Int)<=S/\S<=1000000,(-1000000:Int)<=W/\W<=1000000] (need [UF 1 (W-S+1).toNat (mkF S),(W-S+1).toNat<=100000,drB f,bdB f,(1:Int)<=c/\c<=10,(0:Int)<=Z/\Z<=100000,(0:Int)<=wi/\wi<=1000000,∀(j:Nat),j<(W-S+1).toNat->(0:Int)<=col 0 (mkF S) j/\col 0 (mkF S) j<=10] (leaf (RV.x (.bool (D3 (λk=>keP c f wi Z (col 0 (mkF S) k)) (W-S+1).toNat)))))) VU ?_;simp only [VM.sat,UB,G0,GL,UD,UH,keB];refine ⟨⟨VJ,VJ⟩,⟨λk hk=>rfl,VJ,VR,UE,HK,zD,BR,λj hj=>?_⟩,rfl⟩;show 0<=S+(j:Int)/\S+(j:Int)<=10;omega
theorem Xi7:VP VO 59 Wy6:=by
 refine ⟨(UJ Tryz.func59),?_⟩;intro avs ns res h I;unfold Wy6 at h;split at h;cases h;exact Xi8 _ _ _ _ _ _ _ _ _ _ _ (I _ VT) (I _ VT) (I _ VT) (I _ VT) (I _ VT) (I _ VT);cases h
end Go.Proofs.YtakpdkmhclhlnaaGreatDoor
namespace Go.Proofs.YtakpdkmhclhlnaaGreatDoor.Bo
open Go Go.Sx Go.RowKit
open Go.Sx.VM (need branch leaf)
open Go.Sx.AV (lst ptr agg roI tup top)
def Tr(c:Nat)(T U O:Int)(n:Nat)(a b u v:Cg)(h:Cg):Prop:=
 h 0=0/\h c=T/\(∀k,k<c->U<=h (k+1)-h k/\h (k+1)-h k<=O)/\ ∀j,j<n->h (b j).toNat-h (a j).toNat<=v j/\(b j<c->u j+1<=h (b j+1).toNat-h (a j).toNat)
def ob(c:Nat)(M:Nat->Cg)(h:Cg):Prop:= ∀x y,x<=c->y<=c->h y-h x<=M x y
theorem jY{c:Nat}{M:Nat->Cg}{h:Cg}{p q:Nat}{v:Int}(hp:p<=c)(hq:q<=c):ob c (bnd M p q v) h↔ob c M h/\h q-h p<=v:=by
 constructor;intro k;refine ⟨λx y hx hy=>Bx (k x y hx hy) (wQ _ _ _ _ _ _),Bx (k p q hp hq) (aY _ _ _ _)⟩;rintro ⟨k1,k2⟩ x y hx hy;have h1:=k1 x y hx hy;unfold bnd wZ;split;rename_i e;rw [e.1,e.2] at h1 ⊢;omega;exact h1
theorem Xi0{c:Nat}{M N:Nat->Cg}{h:Cg}(hm: ∀x y,M x y<=N x y)(k:ob c M h):ob c N h:=λx y hx hy=>Bx (k x y hx hy) (hm x y)
theorem Zq0(M:Nat->Cg)(o f t x y:Nat):fwS M o f t x y<=M x y:=wQ _ _ _ _ _ _
theorem Ws1(M:Nat->Cg)(o f:Nat): ∀t x y,fwT M o f t x y<=M x y
 | 0,_,_=>Int.le_refl _
 |t+1,x,y=>Bx (Zq0 _ _ _ _ _ _) (Ws1 M o f t x y)
theorem Ws4(c:Nat)(M:Nat->Cg)(o:Nat): ∀f x y,fwF c M o f x y<=M x y
 | 0,_,_=>Int.le_refl _
 |f+1,x,y=>Bx (Ws1 _ _ _ _ _ _) (Ws4 c M o f x y)
theorem Xl7(c:Nat)(M:Nat->Cg)(o x y:Nat):fwO c M (o+1) x y<=fwO c M o x y:=Ws4 _ _ _ _ _ _
theorem aK(c:Nat)(M:Nat->Cg)(o:Nat): ∀d x y,fwO c M (o+d) x y<=fwO c M o x y
 | 0,_,_=>Int.le_refl _
 |d+1,x,y=>Bx (Xl7 c M (o+d) x y) (aK c M o d x y)
theorem Ws3(c:Nat)(M:Nat->Cg)(o x y:Nat):fwO c M o x y<=M x y:=by
 have:=aK c M 0 o x y
 rwa [Ap] at this
theorem Jf8{c:Nat}{M:Nat->Cg}{h:Cg}{o f:Nat}(ho:o<=c)(hf:f<=c)(k:ob c M h): ∀t,t<=c+1->ob c (fwT M o f t) h
 | 0,_=>k
 |t+1,ht=>by
  have ih:=Jf8 ho hf k t VJ;refine (jY hf VJ).2 ⟨ih,?_⟩;have h1:=ih f o hf ho;have h2:=ih o t ho VJ;omega
theorem Jg0{c:Nat}{M:Nat->Cg}{h:Cg}{o:Nat}(ho:o<=c)(k:ob c M h): ∀f,f<=c+1->ob c (fwF c M o f) h
 | 0,_=>k
 |f+1,hf=>Jf8 ho VJ (Jg0 ho k f VJ) (c+1) (Am _)
theorem Jf9{c:Nat}{M:Nat->Cg}{h:Cg}(k:ob c M h): ∀o,o<=c+1->ob c (fwO c M o) h
 | 0,_=>k
 |o+1,ho=>Jg0 VJ (Jf9 k o VJ) (c+1) (Am _)
theorem Ws2{c:Nat}{M N:Nat->Cg}{o f:Nat}(h0:0<=M o o)(hN: ∀x y,N x y=if x<f/\y<=c then min (M x y) (M x o+M o y) else M x y): ∀t,t<=c+1-> ∀x y,fwT N o f t x y=if (x<f/\y<=c)\/(x=f/\y<t) then min (M x y) (M x o+M o y) else M x y
 | 0,_,x,y=>by
  show N x y=_;rw [hN];by_cases h:x<f/\y<=c;rw [if_pos h,if_pos (.inl h)];rw [if_neg h,if_neg VJ]
 |t+1,ht,x,y=>by
  have ih:=Ws2 h0 hN t VJ;show bnd (fwT N o f t) f t (fwT N o f t f o+fwT N o f t o t) x y=_;have e1:fwT N o f t f o=M f o:=by
   rw [ih];split<;>omega
  have e2:fwT N o f t o t=M o t:=by
   rw [ih];split<;>omega
  have e3:fwT N o f t f t=M f t:=by
   rw [ih,if_neg VJ]
  unfold bnd wZ;rw [e1,e2,e3];by_cases hxy:x=f/\y=t;rw [if_pos hxy,if_pos VJ,hxy.1,hxy.2];rw [if_neg hxy,ih];by_cases h:(x<f/\y<=c)\/(x=f/\y<t);rw [if_pos h,if_pos VJ];rw [if_neg h,if_neg VJ]
theorem Ws5{c:Nat}{M:Nat->Cg}{o:Nat}(h0:0<=M o o): ∀f x y,fwF c M o f x y=if x<f/\y<=c then min (M x y) (M x o+M o y) else M x y
 | 0,x,y=>by
  rw [if_neg VJ];rfl
 |f+1,x,y=>by
  show fwT (fwF c M o f) o f (c+1) x y=_;rw [Ws2 h0 (Ws5 h0 f) (c+1) (Am _)];by_cases h:(x<f/\y<=c)\/(x=f/\y<c+1);rw [if_pos h,if_pos VJ];rw [if_neg h,if_neg VJ]
theorem IE{c:Nat}{M:Nat->Cg}: ∀k,k<=c+1->(∀o,o<k->0<=fwO c M o o o)-> ∀p x y,p<k->x<=c->y<=c->fwO c M k x y<=fwO c M k x p+fwO c M k p y
 | 0,_,_,p,x,y,hp,_,_=>absurd hp (Aq _)
 |k+1,hk,hd,p,x,y,hp,hx,hy=>by
  have ih:=IE k VJ (λo ho=>hd o VJ);have h0:=hd k VJ;have eq:=Ws5 (c:=c) h0 (c+1);show fwF c (fwO c M k) k (c+1) x y<=fwF c (fwO c M k) k (c+1) x p+fwF c (fwO c M k) k (c+1) p y;rw [eq x y,eq x p,eq p y,if_pos VJ,if_pos VJ,if_pos VJ];rcases (show p=k\/p<k by omega) with rfl|hpk
  omega;have i1:=ih p x y hpk hx hy;have i2:=ih p x k hpk hx VJ;have i3:=ih p k y hpk VJ hy;have i4:=ih p k k hpk VJ VJ;omega
theorem Zl7{c:Nat}{h:Cg}:ob c (ini c (c+1) 0) h↔ ∀x y,x<=c->y<=c->h y-h x<=2000:=by
 constructor;intro k x y hx hy;have:=k x y hx hy;unfold ini at this;split at this<;>omega;intro k x y hx hy;unfold ini;by_cases e:x=y;subst e;rw [if_neg VJ];omega;rw [if_pos VJ];exact k x y hx hy
theorem Wf9{c:Nat}{U O:Int}{h:Cg}: ∀k,k<=c->(ob c (cel c U O k) h↔ob c (ini c (c+1) 0) h/\ ∀j,j<k->U<=h (j+1)-h j/\h (j+1)-h j<=O)
 | 0,_=>⟨λk=>⟨k,λj hj=>absurd hj (Aq _)⟩,λk=>k.1⟩
 |k+1,hk=>by
  have ih:=Wf9 (c:=c) (U:=U) (O:=O) (h:=h) k VJ;show ob c (bnd (bnd (cel c U O k) k (k+1) O) (k+1) k (-U)) h↔_;rw [jY VJ VJ,jY VJ VJ,ih];constructor;rintro ⟨⟨⟨h1,h2⟩,h3⟩,h4⟩;refine ⟨h1,λj hj=>?_⟩;rcases (show j<k\/j=k by omega) with h|rfl
  exact h2 j h;omega;rintro ⟨h1,h2⟩;have h3:=h2 k VJ;exact ⟨⟨⟨h1,λj hj=>h2 j VJ⟩,VJ⟩,VJ⟩
def e9(c:Nat)(n:Nat)(a b u v:Cg):Prop:= ∀j,j<n->(0<=a j/\a j<=(c:Int)-1)/\(a j<=b j/\b j<=c)/\0<=u j/\u j<=v j/\v j<=2000
theorem Xu9{c:Nat}{T U O:Int}{a b u v:Cg}{h:Cg}: ∀n,e9 c n a b u v->(ob c (rdM c T U O a b u v n) h↔ob c (cel c U O c) h/\h c-h 0=T/\ ∀j,j<n->h (b j).toNat-h (a j).toNat<=v j/\(b j<c->u j+1<=h (b j+1).toNat-h (a j).toNat))
 | 0,_=>by
  show ob c (bnd (bnd (cel c U O c) 0 c T) c 0 (-T)) h↔_;rw [jY VJ VJ,jY VJ VJ];constructor;rintro ⟨⟨h1,h2⟩,h3⟩;exact ⟨h1,VJ,λj hj=>absurd hj (Aq _)⟩;rintro ⟨h1,h2,_⟩;exact ⟨⟨h1,VJ⟩,VJ⟩
 |n+1,hr=>by
  have ih:=Xu9 (c:=c) (T:=T) (U:=U) (O:=O) (a:=a) (b:=b) (u:=u) (v:=v) (h:=h) n (λj hj=>hr j VJ);have I:=hr n VJ;have key:ob c (rdM c T U O a b u v (n+1)) h↔ob c (rdM c T U O a b u v n) h/\h (b n).toNat-h (a n).toNat<=v n/\(b n<c->u n+1<=h (b n+1).toNat-h (a n).toNat):=by
   show ob c (rdS c (rdM c T U O a b u v n) _ _ _ _) h↔_;unfold rdS;split;rename_i hb;rw [jY VJ VJ,jY VJ VJ];constructor;rintro ⟨⟨h1,h2⟩,h3⟩;exact ⟨h1,h2,λ_=>VJ⟩;rintro ⟨h1,h2,h3⟩;have:=h3 hb;exact ⟨⟨h1,h2⟩,VJ⟩;rename_i hb;rw [jY VJ VJ];constructor;rintro ⟨h1,h2⟩;exact ⟨h1,h2,λh=>absurd h hb⟩;rintro ⟨h1,h2,_⟩;exact ⟨h1,h2⟩
  rw [key,ih];constructor;rintro ⟨⟨h1,h2,h3⟩,h4⟩;refine ⟨h1,h2,λj hj=>?_⟩;rcases (show j<n\/j=n by omega) with h|rfl
  exact h3 j h;exact h4;rintro ⟨h1,h2,h3⟩;exact ⟨⟨h1,h2,λj hj=>h3 j VJ⟩,h3 n VJ⟩
theorem NG{U:Int}{h:Cg}{c:Nat}(hl:0<=U)(hs: ∀k,k<c->U<=h (k+1)-h k)(x:Nat): ∀d,x+d<=c->h x<=h (x+d)
 | 0,_=>Int.le_refl _
 |d+1,hd=>by
  have ih:=NG hl hs x d VJ;have:=hs (x+d) VJ;rw [←Ba];omega
theorem Jb0{c:Nat}{T U O:Int}{n:Nat}{a b u v:Cg}{h:Cg}(hb:1<=U/\U<=O/\O<=200/\1<=T/\T<=2000)(hr:e9 c n a b u v)(h0:h 0=0):Tr c T U O n a b u v h↔ob c (rdM c T U O a b u v n) h:=by
 rw [Xu9 n hr,Wf9 c (Am _),Zl7];constructor;rintro ⟨_,h1,h2,h3⟩;refine ⟨⟨λx y hx hy=>?_,h2⟩,VJ,h3⟩;have m:=λx d=>NG (U:=U) (h:=h) (c:=c) VJ (λk hk=>(h2 k hk).1) x d;have m1:=m 0 x VJ;have m2:=m y (c-y) VJ;rw [Ap] at m1;rw [show y+(c-y)=c by omega] at m2
 omega;rintro ⟨⟨_,h2⟩,h3,h4⟩;exact ⟨h0,VJ,h2,h4⟩
theorem uT{c:Int}{n:Nat}{a b u v:Cg}(hc:1<=c/\c<=10)(h:D3 (λk=>rdB c (a k) (b k) (u k) (v k)) n=true):e9 c.toNat n a b u v:=λj hj=>by
 have:=Xu7 (GC.1 h j hj);omega
section
variable {c:Nat}{T U O:Int}{n:Nat}{a b u v:Cg}
theorem TP:okR c T U O n a b u v=true↔ ∀k,k<=c->0<=fwM c T U O n a b u v k k:=by
 unfold okR;rw [GC];constructor;intro h k hk;simpa using h k VJ;intro h k hk;simpa using h k VJ
theorem tW{h:Cg}(hb:1<=U/\U<=O/\O<=200/\1<=T/\T<=2000)(hr:e9 c n a b u v)(h0:h 0=0):Tr c T U O n a b u v h↔ob c (fwM c T U O n a b u v) h:=by
 rw [Jb0 hb hr h0];exact ⟨λk=>Jf9 k (c+1) (Am _),λk=>Xi0 (λx y=>Ws3 c _ (c+1) x y) k⟩
theorem Wf7{h:Cg}(hb:1<=U/\U<=O/\O<=200/\1<=T/\T<=2000)(hr:e9 c n a b u v)(k:Tr c T U O n a b u v h):okR c T U O n a b u v=true:=by
 have k1:=(tW hb hr k.1).1 k;refine TP.2 λx hx=>?_;have:=k1 x x hx hx;omega
theorem Wa2{h:Cg}(hb:1<=U/\U<=O/\O<=200/\1<=T/\T<=2000)(hr:e9 c n a b u v)(k:Tr c T U O n a b u v h){x:Nat}(hx:x<=c): -(fwM c T U O n a b u v x 0)<=h x/\h x<=fwM c T U O n a b u v 0 x:=by
 have k1:=(tW hb hr k.1).1 k;have h1:=k1 x 0 hx VJ;have h2:=k1 0 x VJ hx;have:=k.1;omega
theorem OL(h:okR c T U O n a b u v=true){p x y:Nat}(hp:p<=c)(hx:x<=c)(hy:y<=c):fwM c T U O n a b u v x y<=fwM c T U O n a b u v x p+fwM c T U O n a b u v p y:=by
 refine IE (c+1) (Am _) (λo ho=>?_) p x y VJ hx hy;have h1:=TP.1 h o VJ;have h2:=aK c (rdM c T U O a b u v n) o (c+1-o) o o;rw [show o+(c+1-o)=c+1 by omega] at h2
 exact Bx h1 h2
end
section
variable {c:Nat}{T U O:Int}
theorem Zk5{a b u v:Cg}(n:Nat):rdM c T U O a b u v n 0 0<=0:=by
 have h1:=CE c T U O a b u v 0 n (Ao _) 0 0;have h2:rdM c T U O a b u v 0 0 0<=cel c U O c 0 0:=Bx (wQ _ _ _ _ _ _) (wQ _ _ _ _ _ _);have h3: ∀k,cel c U O k 0 0<=0:=by
  intro k
  induction k with
  |zero=>unfold cel ini;rw [if_neg VJ];exact Int.le_refl _
  |succ k ih=>exact Bx (Bx (wQ _ _ _ _ _ _) (wQ _ _ _ _ _ _)) ih
 exact Bx h1 (Bx h2 (h3 c))
theorem Xw1{n:Nat}{a b u v:Cg}(h:okR c T U O n a b u v=true):fwM c T U O n a b u v 0 0=0:=by
 have h1:=TP.1 h 0 (Ao _);have h2:fwM c T U O n a b u v 0 0<=0:=Bx (Ws3 c _ (c+1) 0 0) (Zk5 n);omega
theorem Wa1{n:Nat}{a b u v:Cg}(hb:1<=U/\U<=O/\O<=200/\1<=T/\T<=2000)(hr:e9 c n a b u v)(h:okR c T U O n a b u v=true):Tr c T U O n a b u v (λk=>fwM c T U O n a b u v 0 k):=by
 refine (tW hb hr (Xw1 h)).2 λx y hx hy=>?_;have:=OL h hx (Ao _) hy;show fwM c T U O n a b u v 0 y-fwM c T U O n a b u v 0 x<=_;omega
theorem Xt5{n:Nat}{a b u v:Cg}(hb:1<=U/\U<=O/\O<=200/\1<=T/\T<=2000)(hr:e9 c n a b u v)(h:okR c T U O n a b u v=true):Tr c T U O n a b u v (λk=> -(fwM c T U O n a b u v k 0)):=by
 refine (tW hb hr (by rw [Xw1 h];rfl)).2 λx y hx hy=>?_
 have:=OL h hy hx (Ao _);show -(fwM c T U O n a b u v y 0)- -(fwM c T U O n a b u v x 0)<=_;omega
end
end Go.Proofs.YtakpdkmhclhlnaaGreatDoor.Bo
namespace Go.Proofs.YtakpdkmhclhlnaaGreatDoor
open Go Go.Sx Go.RowKit Bo
open Go.Sx.VM (need branch leaf)
open Go.Sx.AV (lst ptr agg roI tup top)
def usB(c S W wi:Int):Bool:=bt 0 S W&&decide (W<=c)&&bt 0 wi 1000
section
variable (c T U O:Int)
def vaB(m:Nat)(p q:Cg)(pl ph dl dh:Int):Bool:=decide (Pt.blE m p q pl ph=0)&&qD c T U O&&insB 0 dl dh 100
def rdE(n:Nat)(a b u v:Cg)(m:Nat)(p q:Cg)(pl ph dl dh:Int):Int:=if n>12\/m>8 then 3 else if vaB c T U O m p q pl ph dl dh=true/\(eB c T U O n a b u v=0\/eB c T U O n a b u v=9) then eB c T U O n a b u v else 1
def bdL(n:Nat)(a b u v:Cg)(m:Nat)(p q:Cg)(pl ph:Int)(k:Nat):Int:=dnI (-(fwB c T U O n a b u v k 0)*Pt.boilI m p q pl) T
def bdH(n:Nat)(a b u v:Cg)(m:Nat)(p q:Cg)(pl ph:Int)(k:Nat):Int:=upI (fwB c T U O n a b u v 0 k*Pt.boilI m p q ph) T
end
def wkF(pl ph dl dh:Int)(L H:Cg)(k j:Nat):Int:=if j=0 then pl else if j=1 then ph else if j=2 then dl else if j=3 then dh else if j<4+2*k then (if j%2=0 then L ((j-4) / 2) else H ((j-4) / 2)) else 0
def wkA(c T U O:Int)(n:Nat)(a b u v:Cg)(m:Nat)(p q:Cg)(pl ph dl dh:Int):Cg:=wkF pl ph dl dh (bdL c T U O n a b u v m p q pl ph) (bdH c T U O n a b u v m p q pl ph) (c.toNat+1)
theorem tV{c S W wi:Int}:usB c S W wi=true↔(0<=S/\S<=W)/\W<=c/\0<=wi/\wi<=1000:=by
 simp only [usB,GU,qQ,bt_iff,and_assoc]
theorem Xt6{c:Nat}{T U O:Int}{n:Nat}{a b u v:Cg}{h:Cg}(hl:0<=U)(k:Tr c T U O n a b u v h){x:Nat}(hx:x<=c):0<=h x/\h x<=T:=by
 obtain ⟨h0,h1,h2,_⟩:=k;have up: ∀y,y<=c->0<=h y:=by
  intro y
  induction y with
  |zero=>intro _;omega
  |succ y ih=>
   intro hy;have:=h2 y VJ;have:=ih VJ;omega
 have dn: ∀d,d<=c->h (c-d)<=T:=by
  intro d
  induction d with
  |zero=>intro _;rw [Nat.sub_zero,h1];exact Int.le_refl _
  |succ d ih=>
   intro hd;have:=h2 (c-(d+1)) VJ;rw [show c-(d+1)+1=c-d by omega] at this
   have:=ih VJ;omega
 refine ⟨up x hx,?_⟩;have:=dn (c-x) VJ;rw [show c-(c-x)=x by omega] at this
 exact this
theorem Qd5{c T U O:Int}{n:Nat}{a b u v:Cg}(h:eB c T U O n a b u v=0){k:Nat}(hk:(k:Int)<=c):0<= -(fwB c T U O n a b u v k 0)/\ -(fwB c T U O n a b u v k 0)<=fwB c T U O n a b u v 0 k/\fwB c T U O n a b u v 0 k<=T:=by
 obtain ⟨h1,_,h3⟩:=BB.1 h;have hf:=B4.1 h1;have hb:=P0 hf.1;have hr:=uT hb.1 hf.2.2;have tl:=Xt5 hb.2.1 hr h3;have th:=Wa1 hb.2.1 hr h3;have g1:=Xt6 VJ tl (x:=k) VJ;have g2:=Xt6 VJ th (x:=k) VJ;have g3:=Wa2 hb.2.1 hr tl (x:=k) VJ;unfold fwB;omega
theorem SQ{c T U O:Int}{m:Nat}{p q:Cg}{pl ph dl dh:Int}:vaB c T U O m p q pl ph dl dh=true↔Pt.blE m p q pl ph=0/\qD c T U O=true/\0<=dl/\dl<=dh/\dh<=100:=by
 simp only [vaB,GU,qQ,insB_iff,and_assoc]
theorem Qa1{m:Nat}{p q:Cg}{pl ph:Int}(h:Pt.blE m p q pl ph=0):(1<=Pt.boilI m p q pl/\Pt.boilI m p q pl<=2000)/\(1<=Pt.boilI m p q ph/\Pt.boilI m p q ph<=2000)/\Pt.boilI m p q pl<=Pt.boilI m p q ph/\Pt.blLo m p q pl ph=Pt.boilI m p q pl/\Pt.blHi m p q pl ph=Pt.boilI m p q ph:=by
 obtain ⟨h1,h2,h3,h4,h5,h6⟩:=Pt.blE_ok h;have a1:=Pt.boil_spec (x:=pl) h1 h3 VJ;have a2:=Pt.boil_spec (x:=ph) h1 h3 VJ;have a3:=Pt.boil_mono h1 h3 h4 h5 h6;exact ⟨VJ,VJ,a3,if_pos h,if_pos h⟩
theorem Qb1{x y X Y:Int}(hx:0<=x/\x<=X)(hy:0<=y/\y<=Y):0<=x*y/\x*y<=X*Y:=by
 have h1:=Bz hx.1 hy.1;have h2:=Int.mul_le_mul hx.2 hy.2 hy.1 (show 0<=X by omega)
 omega
theorem Zg1(c T U O:Int)(n:Nat)(a b u v:Cg)(m:Nat)(p q:Cg)(pl ph dl dh S W wi:Int):VX VO 91 [.agg [i c,i T,i U,i O,rds n a b u v,Pt.scs m p q,i pl,i ph,i dl,i dh],.agg [i S,i W,i wi]] (bl (usB c S W wi)):=by
 refine U1 (L:=[]) (Ae RJ Aa) VZ Tryz.func91 (UU Tryz.f91) U2 (t:=branch (bt (0:Int) S W) (branch (decide (W<=c)) (leaf (RV.x (.bool (bt (0:Int) wi (1000:Int))))) (leaf (RV.x (Y0)))) (leaf (RV.x (Y0)))) VU ?_;simp only [VM.sat,UB,G0,GL,UD,UH];all_goals (simp+contextual [usB,Bool.and_assoc]);all_goals omega
def Xx0:UX
 |[.agg [.x (.int .i64 c),.x (.int .i64 T),.x (.int .i64 U),.x (.int .i64 O),.lst 4 n fr,.lst 2 m ft,.x (.int .i64 pl),.x (.int .i64 ph),.x (.int .i64 dl),.x (.int .i64 dh)],.agg [.x (.int .i64 S),.x (.int .i64 W),.x (.int .i64 wi)]]=>some ([UF 4 n fr,UF 2 m ft],bl (usB c S W wi))
 |_=>none
theorem Zg0:VP VO 91 Xx0:=by
 refine ⟨(UJ Tryz.func91),?_⟩;intro avs ns res h I;unfold Xx0 at h;split at h;cases h;have hr:UF 4 _ _:=I _ GD;have ht:UF 2 _ _:=I _ (HL _ GD);exact (Zg1 _ _ _ _ _ _ _ _ _ _ _ _ _ _ _ _ _ _ _).same (.cons (LX.same (.cons (.refl _) (.cons (.refl _) (.cons (.refl _) (.cons (.refl _) (.cons (.lst 4 _ _ _ hr) (.cons (.lst 2 _ _ _ ht) (.cons (.refl _) (.cons (.refl _) (.cons (.refl _) (.cons (.refl _) .nil))))))))))) (.cons (.refl _) .nil));cases h
theorem Qz5(c T U O:Int)(n:Nat)(a b u v:Cg)(m:Nat)(p q:Cg)(pl ph dl dh:Int)(VR:m<=100000):VX VO 74 [.agg [i c,i T,i U,i O,rds n a b u v,Pt.scs m p q,i pl,i ph,i dl,i dh]] (.tup [.agg [i (Pt.blLo m p q pl ph),i (Pt.blHi m p q pl ph)],bl (vaB c T U O m p q pl ph dl dh)]):=by
 refine GA (L:=[]) (Ae Pt.Boils_ok (Ae Bo.CheckTube_ok (Ae PU Aa))) Ad VZ Tryz.func74 (UU Tryz.f74) G8 (t:=let z0:=(leaf (RV.tup [RV.agg [RV.x (.int .i64 (Pt.blLo m p q pl ph)),RV.x (.int .i64 (Pt.blHi m p q pl ph))],RV.x (Y0)]));(need [UF 2 m λk=>[Pt.i (p k),Pt.i (q k)],m<=100000] (branch (Pt.blE m p q pl ph==0) (branch ((if qD c T U O=true then (0:Int) else (1:Int))==0) (leaf (RV.tup [RV.agg [RV.x (.int .i64 (Pt.blLo m p q pl ph)),RV.x (.int .i64 (Pt.blHi m p q pl ph))],RV.x (.bool (insB (0:Int) dl dh (100:Int)))])) z0) z0))) VU ?_
 simp only [VM.sat,UB,G0,GL,UD,UH,beq_iff_eq,beq_eq_false_iff_ne];refine ⟨⟨Pt.isRec2 m p q,VR⟩,λh1=>⟨λh2=>?_,λh2=>?_⟩,λh1=>?_⟩;cases ht:qD c T U O;rw [ht] at h2;simp at h2;simp [vaB,h1,ht];cases ht:qD c T U O;simp [vaB,ht];rw [ht] at h2;simp at h2;simp [vaB,h1]
def bC:UX
 |[.agg [.x (.int .i64 c),.x (.int .i64 T),.x (.int .i64 U),.x (.int .i64 O),.lst 4 n fr,.lst 2 m ft,.x (.int .i64 pl),.x (.int .i64 ph),.x (.int .i64 dl),.x (.int .i64 dh)]]=>some ([UF 4 n fr,UF 2 m ft,m<=100000],.tup [.agg [i (Pt.blLo m (Pt.col 0 ft) (Pt.col 1 ft) pl ph),i (Pt.blHi m (Pt.col 0 ft) (Pt.col 1 ft) pl ph)],bl (vaB c T U O m (Pt.col 0 ft) (Pt.col 1 ft) pl ph dl dh)])
 |_=>none
theorem c8:VP VO 74 bC:=by
 refine ⟨(UJ Tryz.func74),?_⟩;intro avs ns res h I;unfold bC at h;split at h;cases h;have hr:UF 4 _ _:=I _ GD;have ht:UF 2 _ _:=I _ (HL _ GD);exact (Qz5 _ _ _ _ _ _ _ _ _ _ _ _ _ _ _ _ (I _ VT)).same (.cons (LX.same (.cons (.refl _) (.cons (.refl _) (.cons (.refl _) (.cons (.refl _) (.cons (.lst 4 _ _ _ hr) (.cons (.lst 2 _ _ _ ht) (.cons (.refl _) (.cons (.refl _) (.cons (.refl _) (.cons (.refl _) .nil))))))))))) .nil);cases h
section
variable {pl ph dl dh:Int}{L H:Cg}
theorem Xf0{k j:Nat}:jE (4+2*k) [L k,H k] (wkF pl ph dl dh L H k) j=wkF pl ph dl dh L H (k+1) j:=by
 simp only [jE,US];unfold wkF;by_cases h1:j=4+2*k+1;rw [if_pos h1,if_neg VJ,if_neg VJ,if_neg VJ,if_neg VJ,if_pos VJ,if_neg VJ,show (j-4) / 2=k by omega]
 rw [if_neg h1];by_cases h2:j=4+2*k;rw [if_pos h2,if_neg VJ,if_neg VJ,if_neg VJ,if_neg VJ,if_pos VJ,if_pos VJ,show (j-4) / 2=k by omega]
 rw [if_neg h2];by_cases h3:j<4+2*k;rw [if_pos h3,if_pos (show j<4+2*(k+1) by omega)]
 rw [if_neg h3,if_neg (show ¬j<4+2*(k+1) by omega)]
theorem Xe9{j:Nat}(hj:j<26):UA ([pl,ph,dl,dh]++bS 22) j=wkF pl ph dl dh L H 0 j:=by
 rcases (show j=0\/j=1\/j=2\/j=3\/j=4\/j=5\/j=6\/j=7\/j=8\/j=9\/j=10\/j=11\/j=12\/j=13\/j=14\/j=15\/j=16\/j=17\/j=18\/j=19\/j=20\/j=21\/j=22\/j=23\/j=24\/j=25 by omega) with rfl|rfl|rfl|rfl|rfl|rfl|rfl|rfl|rfl|rfl|rfl|rfl|rfl|rfl|rfl|rfl|rfl|rfl|rfl|rfl|rfl|rfl|rfl|rfl|rfl|rfl<;>rfl
end
abbrev QR(n:Nat)(a:Cg)(b:Cg)(u:Cg)(v:Cg):AV:=lst 4 n λk=>[iI (a k),iI (b k),iI (u k),iI (v k)]
abbrev QW(c:Int)(T:Int)(U:Int)(O:Int)(n:Nat)(a:Cg)(b:Cg)(u:Cg)(v:Cg):AV:=lst 2 (rZ c T U O n a b u v) λk=>[iI (-fwB c T U O n a b u v k 0),iI (fwB c T U O n a b u v 0 k)]
abbrev QX(m:Nat)(p:Cg)(q:Cg):AV:=lst 2 m λk=>[iI (p k),iI (q k)]
abbrev Z7:AV:=AV.x (.pointer none)
section
variable (c T U O:Int)(n:Nat)(a b u v:Cg)(m:Nat)(p q:Cg)(pl ph dl dh:Int)
def Zu0:St:={σ:=[agg [iI c,iI T,iI U,iI O,QR n a b u v,QX m p q,iI pl,iI ph,iI dl,iI dh],ptr 0 0,Z7,iI 0,ptr 18 0,AV.x (.bool (vaB c T U O m p q pl ph dl dh)),QW c T U O n a b u v,iI (eB c T U O n a b u v),ptr 45 0]++HI 43 [QW c T U O n a b u v,iI (rZ c T U O n a b u v:Int)]++HI 31 [],m:=[(45,GO.ints 174 [iI c,iI T,iI U,iI O,QR n a b u v,QX m p q] 26 λa=>UA ([pl,ph,dl,dh]++bS 22) a),(18,GO.cells 38 [iI (Pt.blLo m p q pl ph),iI (Pt.blHi m p q pl ph)]),(0,GO.cells 53 [iI c,iI T,iI U,iI O,QR n a b u v,QX m p q,iI pl,iI ph,iI dl,iI dh])],nx:=50}
noncomputable def Ju4:Code:=U9 (VS (U7 Tryz.f51) 0)
def Wj6(k:Nat):St:=(upE [(54,i k)] [(45,.ints 174 [i c,i T,i U,i O,rds n a b u v,Pt.scs m p q] 26 (wkF pl ph dl dh (bdL c T U O n a b u v m p q pl ph) (bdH c T U O n a b u v m p q pl ph) k)),(18,.cells 38 [i (Pt.boilI m p q pl),i (Pt.boilI m p q ph)]),(0,.cells 53 [i c,i T,i U,i O,rds n a b u v,Pt.scs m p q,i pl,i ph,i dl,i dh])] (Zu0 c T U O n a b u v m p q pl ph dl dh))
def TC(k:Nat):G5->Option St
 | .exit 1=>some (upE [(54,i ((c.toNat+1:Nat):Int))] [(45,.ints 174 [i c,i T,i U,i O,rds n a b u v,Pt.scs m p q] 26 (wkF pl ph dl dh (bdL c T U O n a b u v m p q pl ph) (bdH c T U O n a b u v m p q pl ph) (c.toNat+1))),(18,.cells 38 [i (Pt.boilI m p q pl),i (Pt.boilI m p q ph)]),(0,.cells 53 [i c,i T,i U,i O,rds n a b u v,Pt.scs m p q,i pl,i ph,i dl,i dh])] (Zu0 c T U O n a b u v m p q pl ph dl dh))
 |_=>none
def Jp3:CT:= .leaf (.exit 1,(TC c T U O n a b u v m p q pl ph dl dh 0 (.exit 1)).getD (Zu0 c T U O n a b u v m p q pl ph dl dh))
def Xy5:UG:=GJ [] (HF (Wj6 c T U O n a b u v m p q pl ph dl dh (0)) (Jp3 c T U O n a b u v m p q pl ph dl dh))
end
abbrev X7(c:Int)(T:Int)(U:Int)(O:Int)(n:Nat)(a:Cg)(b:Cg)(u:Cg)(v:Cg)(m:Nat)(p:Cg)(q:Cg)(pl:Int)(ph:Int)(dl:Int)(dh:Int):Prop:=agg [iI c,iI T,iI U,iI O,QR n a b u v,QX m p q,iI pl,iI ph,iI dl,iI dh]=agg [iI c,iI T,iI U,iI O,QR n a b u v,QX m p q,iI pl,iI ph,iI dl,iI dh]
abbrev K9:Prop:=(0:Int)=0
abbrev Y3:List (Nat×UX):=[(74,bC),(75,Bo.S_Heights),(76,t8),(77,Zs2)]
abbrev Y6:Prop:=ptr 18 0=ptr 18 0
abbrev YP(n:Nat)(a:Cg)(b:Cg)(u:Cg)(v:Cg):Prop:=(QR n a b u v)=QR n a b u v
abbrev YT(m:Nat)(p:Cg)(q:Cg):Prop:=(QX m p q)=QX m p q
abbrev YW(c:Int)(T:Int)(U:Int)(O:Int)(n:Nat)(a:Cg)(b:Cg)(u:Cg)(v:Cg):Prop:=(QW c T U O n a b u v)=QW c T U O n a b u v
section
variable (c T U O:Int)(n:Nat)(a b u v:Cg)(m:Nat)(p q:Cg)(pl ph dl dh:Int)
theorem Jd7(VR:n<=12)(UE:m<=8)(HK:vaB c T U O m p q pl ph dl dh=true)(F1:eB c T U O n a b u v=0):G6 VO (.loop Ju4) (Xy5 c T U O n a b u v m p q pl ph dl dh):=by
 refine UR [] (L:=[]) (Ae c8 (Ae Bo.Heights_ok (Ae aU (Ae Wa0 Aa)))) Ad VZ U2 (X:=Nat) (Wj6 c T U O n a b u v m p q pl ph dl dh) (λk=>k<=c.toNat+1) (λk=>c.toNat+1-k) (TC c T U O n a b u v m p q pl ph dl dh) (x0:=0) VT ?_ ?_ ?_;rintro k;kernel_rfl;rintro k y E h;unfold TC at h;split at h;cases h;kernel_rfl;cases h;rintro Q hQ k hx;refine ⟨(k+1),?_⟩;(with_reducible refine D9 (t:=let z0:=(bdL c T U O n a b u v m p q pl ph);let z1:=(bdH c T U O n a b u v m p q pl ph);let z5:=fwB c T U O n a b u v;let z2:=z5 k;let z3:=Pt.boilI m p q pl;let z4:=Pt.boilI m p q ph;let z6:=(rZ c T U O n a b u v);let z7:=YW c T U O n a b u v;(branch (decide ((k:Int)<(z6:Int))) (need [UI k z6] (need [VL (-z2 0*z3)] (need [(1:Int)<=T/\T<=100000,(0:Int)<= -z2 0*z3/\ -z2 0*z3<=1000000000000] (need [VL (z5 0 k*z4)] (need [(1:Int)<=T/\T<=100000,(0:Int)<=z5 0 k*z4/\z5 0 k*z4<=1000000000000] (need [UI k 11] (need [k*2+10-1-1-1-1-1-1+List.length [dnI (-z2 0*z3) T,upI (z5 0 k*z4) T]<=26] (need [VL ((k:Int)+1)] (need [X7 c T U O n a b u v m p q pl ph dl dh,KM,Z7=Z7,K9,Y6,VY (vaB c T U O m p q pl ph dl dh),z7,VY (eB c T U O n a b u v),VY (ptr 45 0),z7,VY (z6:Int),(k:Int)+1=(↑(k+1):Int),c=c,T=T,U=U,O=O,YP n a b u v,YT m p q,26=26,GV 26 (US (k*2+10-1-1-1-1-1-1+1) (upI (z5 0 k*z4) T) (US (k*2+10-1-1-1-1-1-1) (dnI (-z2 0*z3) T) (wkF pl ph dl dh z0 z1 k))) (wkF pl ph dl dh z0 z1 (k+1)),VY (z3),VY (z4),c=c,T=T,U=U,O=O,YP n a b u v,YT m p q,pl=pl,ph=ph,dl=dl,dh=dh] (leaf G5.normal)))))))))) (need [X7 c T U O n a b u v m p q pl ph dl dh,KM,Z7=Z7,K9,Y6,VY (vaB c T U O m p q pl ph dl dh),z7,VY (eB c T U O n a b u v),VY (ptr 45 0),z7,VY (z6:Int),(k:Int)=(↑(Int.toNat c+1):Int),c=c,T=T,U=U,O=O,YP n a b u v,YT m p q,26=26,GV 26 (wkF pl ph dl dh z0 z1 k) (wkF pl ph dl dh z0 z1 (Int.toNat c+1)),VY (z3),VY (z4),c=c,T=T,U=U,O=O,YP n a b u v,YT m p q,pl=pl,ph=ph,dl=dl,dh=dh] (leaf (G5.exit 1))))) VU ?_);simp only [Jp3,TC,VM.sat,GS] at hQ;have hv:=SQ.1 HK;have hb:=P0 hv.2.1;have hs:=Qa1 hv.1;have hl:rZ c T U O n a b u v=c.toNat+1:=if_pos F1;simp only [VM.sat,UB,G0,GL,UD,VL,UH,HA,F4,RQ,hl]
 refine ⟨λh=>?_,λh=>?_⟩
 ·have hk:=Qd5 F1 (k:=k) VJ;have m1:=Qb1 (x:= -(fwB c T U O n a b u v k 0)) (y:=Pt.boilI m p q pl) (X:=2000) (Y:=2000) VJ VJ;have m2:=Qb1 (x:=fwB c T U O n a b u v 0 k) (y:=Pt.boilI m p q ph) (X:=2000) (Y:=2000) VJ VJ;have e6:k*2+10-1-1-1-1-1-1=4+2*k:=VJ;rw [e6]
  (with_reducible repeat' first|apply Al|intro _)
  all_goals first|exact Ak|omega|with_reducible rfl|exact Xf0
 ·obtain rfl:k=c.toNat+1:=VJ
  (with_reducible repeat' first|apply Al|intro _)
  all_goals first|exact Ak|omega|with_reducible rfl|(rename_i E hE;cases hE;exact hQ)
theorem T7:UN VO 51 [.agg [i c,i T,i U,i O,rds n a b u v,Pt.scs m p q,i pl,i ph,i dl,i dh]] (.branch (decide (rdE c T U O n a b u v m p q pl ph dl dh=0)) (.leaf (.tup [.roI [i c,i T,i U,i O,rds n a b u v,Pt.scs m p q] 26 (wkA c T U O n a b u v m p q pl ph dl dh) 0,i 0])) (.leaf (.tup [.x (.pointer none),i (rdE c T U O n a b u v m p q pl ph dl dh)]))):=by
 refine GT (L:=[F2 [n<=12,m<=8,vaB c T U O m p q pl ph dl dh=true,eB c T U O n a b u v=0] (Xy5 c T U O n a b u v m p q pl ph dl dh)]) (Ae c8 (Ae Bo.Heights_ok (Ae aU (Ae Wa0 Aa)))) Ad VZ Tryz.func51 (UU Tryz.f51) (G7 (lpE (b:= .loop Ju4) VU<|(HJ (ps:=[n<=12,m<=8,vaB c T U O m p q pl ph dl dh=true,eB c T U O n a b u v=0]) (λh=>Jd7 c T U O n a b u v m p q pl ph dl dh h.1 h.2.1 h.2.2.1 h.2.2.2)).N)) (t:=let z0:=(leaf (tup [roI [iI c,iI T,iI U,iI O,QR n a b u v,QX m p q] 26 (λj=>wkF pl ph dl dh (bdL c T U O n a b u v m p q pl ph) (bdH c T U O n a b u v m p q pl ph) (Int.toNat c+1) j) 0,iI 0]));let z1:=eB c T U O n a b u v;let z2:=vaB c T U O m p q pl ph dl dh;let z3:=YW c T U O n a b u v;(branch (decide ((n:Int)>12)) (leaf (tup [Z7,iI 3])) (branch (decide ((m:Int)>8)) (leaf (tup [Z7,iI 3])) (need [UF 4 n λk=>[Bo.i (a k),Bo.i (b k),Bo.i (u k),Bo.i (v k)],UF 2 m λk=>[Pt.i (p k),Pt.i (q k)],m<=100000] (need [UF 4 n λk=>[Bo.i (a k),Bo.i (b k),Bo.i (u k),Bo.i (v k)]] (branch (!z2) (leaf (tup [Z7,iI 1])) (branch (z1 != 0) (branch (z1 != 9) (leaf (tup [Z7,iI 1])) (branch (z1 != 0) (leaf (tup [Z7,iI (z1)])) (need [n<=12,m<=8,z2=true,z1=0] (need [X7 c T U O n a b u v m p q pl ph dl dh,KM,Z7=Z7,K9,Y6,VY (z2),z3,VY (z1),ptr 47 0=ptr 45 0,z3,VY (rZ c T U O n a b u v:Int),(0:Int)=((0:Nat):Int),False,Pt.blLo m p q pl ph=Pt.boilI m p q pl,Pt.blHi m p q pl ph=Pt.boilI m p q ph,c=c,T=T,U=U,O=O,YP n a b u v,YT m p q,pl=pl,ph=ph,dl=dl,dh=dh] z0)))) (branch (z1 != 0) (leaf (tup [Z7,iI (z1)])) (need [n<=12,m<=8,z2=true,z1=0] (need [X7 c T U O n a b u v m p q pl ph dl dh,KM,Z7=Z7,K9,Y6,VY (z2),z3,VY (z1),VY (ptr 45 0),z3,VY (rZ c T U O n a b u v:Int),(0:Int)=((0:Nat):Int),c=c,T=T,U=U,O=O,YP n a b u v,YT m p q,List.length ([pl,ph,dl,dh]++bS 22)=26,GV 26 (UA ([pl,ph,dl,dh]++bS 22)) (wkF pl ph dl dh (bdL c T U O n a b u v m p q pl ph) (bdH c T U O n a b u v m p q pl ph) 0),Pt.blLo m p q pl ph=Pt.boilI m p q pl,Pt.blHi m p q pl ph=Pt.boilI m p q ph,c=c,T=T,U=U,O=O,YP n a b u v,YT m p q,pl=pl,ph=ph,dl=dl,dh=dh] z0)))))))))) VU ?_
 intro Q hQ;have e3:(n>12\/m>8)->rdE c T U O n a b u v m p q pl ph dl dh=3:=λh=>if_pos h;have e1: ¬(n>12\/m>8)-> ¬(vaB c T U O m p q pl ph dl dh=true/\(eB c T U O n a b u v=0\/eB c T U O n a b u v=9))->rdE c T U O n a b u v m p q pl ph dl dh=1:=λh h'=>by
  unfold rdE;rw [if_neg h,if_neg h']
 have e0: ¬(n>12\/m>8)->vaB c T U O m p q pl ph dl dh=true->(eB c T U O n a b u v=0\/eB c T U O n a b u v=9)->rdE c T U O n a b u v m p q pl ph dl dh=eB c T U O n a b u v:=λh h' h''=>by
  unfold rdE;rw [if_neg h,if_pos ⟨h',h''⟩]
 simp only [VM.sat,UB,UH,HA,R9,Ax,Bool.not_eq_false'] at hQ ⊢;have bad: ∀k:Int,k≠0->rdE c T U O n a b u v m p q pl ph dl dh=k-> ∃r',DX (.tup [.x (.pointer none),i k]) r'/\Q r':=λk hk he=>by
  rw [he] at hQ;exact ⟨.tup [.x (.pointer none),i k],⟨rfl,⟨rfl,rfl⟩,Ak⟩,hQ.2 hk⟩
 refine ⟨λh1=>bad 3 VJ (e3 VJ),λh1=>⟨λh2=>bad 3 VJ (e3 VJ),λh2=>⟨⟨Bo.isRec4 n a b u v,Pt.isRec2 m p q,VJ⟩,Bo.isRec4 n a b u v,λh3=>bad 1 VJ (e1 VJ (by rw [h3];simp)),λh3=>⟨λh4=>⟨λh5=>bad 1 VJ (e1 VJ VJ),λh5=>⟨λh6=>bad _ h4 (e0 VJ h3 (.inr h5)),λh6=>absurd h6 h4⟩⟩,λh4=>⟨λh5=>absurd h4 h5,λ_=>?_⟩⟩⟩⟩⟩
 have hv:=SQ.1 h3;have hs:=Qa1 hv.1;refine ⟨⟨VJ,VJ,h3,h4⟩,⟨rfl,rfl,λj hj=>Xe9 hj,hs.2.2.2.1,hs.2.2.2.2⟩,.tup [.roI [i c,i T,i U,i O,rds n a b u v,Pt.scs m p q] 26 (wkA c T U O n a b u v m p q pl ph dl dh) 0,i 0],⟨⟨rfl,rfl,λ_ _=>rfl,rfl⟩,⟨rfl,rfl⟩,Ak⟩,hQ.1 ((e0 VJ h3 (.inl h4)).trans h4)⟩
end
def fQ:DD:=λl=>match l with
 |[.agg [.x (.int .i64 c),.x (.int .i64 T),.x (.int .i64 U),.x (.int .i64 O),.lst 4 n fr,.lst 2 m ft,.x (.int .i64 pl),.x (.int .i64 ph),.x (.int .i64 dl),.x (.int .i64 dh)]]=>some (.need [UF 4 n fr,UF 2 m ft] (.branch (decide (rdE c T U O n (col 0 fr) (col 1 fr) (col 2 fr) (col 3 fr) m (Pt.col 0 ft) (Pt.col 1 ft) pl ph dl dh=0)) (.leaf (.tup [.roI [i c,i T,i U,i O,rds n (col 0 fr) (col 1 fr) (col 2 fr) (col 3 fr),Pt.scs m (Pt.col 0 ft) (Pt.col 1 ft)] 26 (wkA c T U O n (col 0 fr) (col 1 fr) (col 2 fr) (col 3 fr) m (Pt.col 0 ft) (Pt.col 1 ft) pl ph dl dh) 0,i 0])) (.leaf (.tup [.x (.pointer none),i (rdE c T U O n (col 0 fr) (col 1 fr) (col 2 fr) (col 3 fr) m (Pt.col 0 ft) (Pt.col 1 ft) pl ph dl dh)]))))
 |_=>none
theorem x9:Sx.Enters Tryz.prog 51/\ ∀avs t,fQ avs=some t->UN VO 51 avs t:=by
 refine ⟨(UJ Tryz.func51),?_⟩;intro avs t h;unfold fQ at h;split at h;cases h;intro Q hQ;have hr:UF 4 _ _:=GE hQ.1 _ GD;have ht:UF 2 _ _:=GE hQ.1 _ (HL _ GD);exact UN.same (T7 _ _ _ _ _ _ _ _ _ _ _ _ _ _ _ _) (.cons (LX.same (.cons (.refl _) (.cons (.refl _) (.cons (.refl _) (.cons (.refl _) (.cons (.lst 4 _ _ _ hr) (.cons (.lst 2 _ _ _ ht) (.cons (.refl _) (.cons (.refl _) (.cons (.refl _) (.cons (.refl _) .nil))))))))))) .nil) Q hQ.2;cases h
section
variable (c T U O:Int)(n:Nat)(a b u v:Cg)(m:Nat)(p q:Cg)(pl ph dl dh:Int)
def asE(S W wi Z:Int):Int:=if rdE c T U O n a b u v m p q pl ph dl dh=0 then (if usB c S W wi&&bt 0 Z 10000 then 0 else 2) else rdE c T U O n a b u v m p q pl ph dl dh
def hdE(Z:Int):Int:=if rdE c T U O n a b u v m p q pl ph dl dh=0 then (if bt 0 Z 10000 then 0 else 2) else rdE c T U O n a b u v m p q pl ph dl dh
end
section
variable {c T U O:Int}{n:Nat}{a b u v:Cg}{m:Nat}{p q:Cg}{pl ph dl dh:Int}
theorem Qa9(h:rdE c T U O n a b u v m p q pl ph dl dh=0):n<=12/\m<=8/\vaB c T U O m p q pl ph dl dh=true/\eB c T U O n a b u v=0:=by
 unfold rdE at h;split at h;cases h;rename_i h1;split at h;rename_i h2;exact ⟨VJ,VJ,h2.1,h⟩;cases h
theorem Zk6(h1:n<=12)(h2:m<=8)(h3:vaB c T U O m p q pl ph dl dh=true)(h4:eB c T U O n a b u v=0):rdE c T U O n a b u v m p q pl ph dl dh=0:=by
 unfold rdE;rw [if_neg VJ,if_pos ⟨h3,.inl h4⟩,h4]
end
section
variable {pl ph dl dh:Int}{L H:Cg}{k j:Nat}
theorem Ja5(h:j<k):wkF pl ph dl dh L H k (4+2*j)=L j:=by
 unfold wkF;rw [if_neg VJ,if_neg VJ,if_neg VJ,if_neg VJ,if_pos VJ,if_pos VJ,show (4+2*j-4) / 2=j by omega]
theorem Ja6(h:j<k):wkF pl ph dl dh L H k (5+2*j)=H j:=by
 unfold wkF;rw [if_neg VJ,if_neg VJ,if_neg VJ,if_neg VJ,if_pos VJ,if_neg VJ,show (5+2*j-4) / 2=j by omega]
end
theorem bZ{c T U O:Int}{n:Nat}{a b u v:Cg}{m:Nat}{p q:Cg}{pl ph dl dh:Int}(h:rdE c T U O n a b u v m p q pl ph dl dh=0):drB (wkA c T U O n a b u v m p q pl ph dl dh)/\bdB (wkA c T U O n a b u v m p q pl ph dl dh)/\(1<=c/\c<=10)/\ ∀k:Nat,(k:Int)<=c->0<=bdL c T U O n a b u v m p q pl ph k/\bdL c T U O n a b u v m p q pl ph k<=4000000/\0<=bdH c T U O n a b u v m p q pl ph k/\bdH c T U O n a b u v m p q pl ph k<=4000000:=by
 obtain ⟨h1,h2,h3,h4⟩:=Qa9 h;have hv:=SQ.1 h3;have hb:=P0 hv.2.1;have hs:=Qa1 hv.1;have key: ∀k:Nat,(k:Int)<=c->0<=bdL c T U O n a b u v m p q pl ph k/\bdL c T U O n a b u v m p q pl ph k<=4000000/\0<=bdH c T U O n a b u v m p q pl ph k/\bdH c T U O n a b u v m p q pl ph k<=4000000:=by
  intro k hk;have hk:=Qd5 h4 hk;have m1:=Qb1 (x:= -(fwB c T U O n a b u v k 0)) (y:=Pt.boilI m p q pl) (X:=2000) (Y:=2000) VJ VJ;have m2:=Qb1 (x:=fwB c T U O n a b u v 0 k) (y:=Pt.boilI m p q ph) (X:=2000) (Y:=2000) VJ VJ;have d1:=gX m1.1 (show 1<=T by omega)
  have d2:=SR m2.1 (show 1<=T by omega)
  unfold bdL bdH;omega
 refine ⟨⟨?_,?_⟩,λj hj=>?_,hb.1,key⟩;show 0<=dl/\dl<=100;omega;show 0<=dh/\dh<=100;omega;by_cases hk:j / 2<c.toNat+1;have:=key (j / 2) VJ;rcases Nat.mod_two_eq_zero_or_one j with h0|h0;have e:wkA c T U O n a b u v m p q pl ph dl dh (4+j)=bdL c T U O n a b u v m p q pl ph (j / 2):=by
  have:=Ja5 (pl:=pl) (ph:=ph) (dl:=dl) (dh:=dh) (L:=bdL c T U O n a b u v m p q pl ph) (H:=bdH c T U O n a b u v m p q pl ph) hk;rw [show 4+2*(j / 2)=4+j by omega] at this
  exact this
 rw [e];omega;have e:wkA c T U O n a b u v m p q pl ph dl dh (4+j)=bdH c T U O n a b u v m p q pl ph (j / 2):=by
  have:=Ja6 (pl:=pl) (ph:=ph) (dl:=dl) (dh:=dh) (L:=bdL c T U O n a b u v m p q pl ph) (H:=bdH c T U O n a b u v m p q pl ph) hk;rw [show 5+2*(j / 2)=4+j by omega] at this
  exact this
 rw [e];omega;have e:wkA c T U O n a b u v m p q pl ph dl dh (4+j)=0:=by
  unfold wkA wkF;rw [if_neg VJ,if_neg VJ,if_neg VJ,if_neg VJ,if_neg VJ]
 rw [e];omega
abbrev KQ:Value:=Value.int IntKind.i64 (0:Int)
theorem uD(c T U O:Int)(n:Nat)(a b u v:Cg)(m:Nat)(p q:Cg)(pl ph dl dh:Int):VX VO 17 [.agg [i c,i T,i U,i O,rds n a b u v,Pt.scs m p q,i pl,i ph,i dl,i dh]] (i (rdE c T U O n a b u v m p q pl ph dl dh)):=by
 refine GA (L:=[]) Aa (Aj Ab Ac (Ah x9 (U8.nil _))) VZ Tryz.func17 (UU Tryz.f17) G8 (t:=need [UF 4 n λk=>[Bo.i (a k),Bo.i (b k),Bo.i (u k),Bo.i (v k)],UF 2 m λk=>[Pt.i (p k),Pt.i (q k)]] (branch (decide (rdE c T U O n a b u v m p q pl ph dl dh=0)) (leaf (RV.x (KQ))) (leaf (RV.x (.int .i64 (rdE c T U O n a b u v m p q pl ph dl dh)))))) VU ?_;simp only [VM.sat,UB,G0,GL,UD,UH,HA,R9,beq_iff_eq,beq_eq_false_iff_ne,Ax,Bool.not_eq_false',not_true_eq_false,false_imp_iff,true_imp_iff];exact ⟨⟨Bo.isRec4 n a b u v,Pt.isRec2 m p q⟩,λh=>h.symm,λ_=>trivial⟩
def DW:UX
 |[.agg [.x (.int .i64 c),.x (.int .i64 T),.x (.int .i64 U),.x (.int .i64 O),.lst 4 n fr,.lst 2 m ft,.x (.int .i64 pl),.x (.int .i64 ph),.x (.int .i64 dl),.x (.int .i64 dh)]]=>some ([UF 4 n fr,UF 2 m ft],i (rdE c T U O n (col 0 fr) (col 1 fr) (col 2 fr) (col 3 fr) m (Pt.col 0 ft) (Pt.col 1 ft) pl ph dl dh))
 |_=>none
theorem qS:VP VO 17 DW:=by
 refine ⟨(UJ Tryz.func17),?_⟩;intro avs ns res h I;unfold DW at h;split at h;cases h;have hr:UF 4 _ _:=I _ GD;have ht:UF 2 _ _:=I _ (HL _ GD);exact (uD _ _ _ _ _ _ _ _ _ _ _ _ _ _ _ _).same (.cons (LX.same (.cons (.refl _) (.cons (.refl _) (.cons (.refl _) (.cons (.refl _) (.cons (.lst 4 _ _ _ hr) (.cons (.lst 2 _ _ _ ht) (.cons (.refl _) (.cons (.refl _) (.cons (.refl _) (.cons (.refl _) .nil))))))))))) .nil);cases h
abbrev ZH(c:Int)(T:Int)(U:Int)(O:Int)(n:Nat)(a:Cg)(b:Cg)(u:Cg)(v:Cg)(m:Nat)(p:Cg)(q:Cg)(pl:Int)(ph:Int)(dl:Int)(dh:Int):AV:=roI [iI c,iI T,iI U,iI O,QR n a b u v,QX m p q] 26 (λa_1=>wkA c T U O n a b u v m p q pl ph dl dh a_1) 0
theorem Wx0(c T U O:Int)(n:Nat)(a b u v:Cg)(m:Nat)(p q:Cg)(pl ph dl dh:Int)(S W wi Z:Int):UN VO 58 [.agg [i c,i T,i U,i O,rds n a b u v,Pt.scs m p q,i pl,i ph,i dl,i dh],.agg [i S,i W,i wi],i Z] (.branch (decide (asE c T U O n a b u v m p q pl ph dl dh S W wi Z=0)) (.leaf (.tup [.roI [i c,i T,i U,i O,rds n a b u v,Pt.scs m p q] 26 (wkA c T U O n a b u v m p q pl ph dl dh) 0,i 0])) (.leaf (.tup [.top,i (asE c T U O n a b u v m p q pl ph dl dh S W wi Z)]))):=by
 refine GT (L:=[]) (Ae Zg0 (Ae RJ Aa)) (Aj Ab Ac (Ah x9 (U8.nil _))) VZ Tryz.func58 (UU Tryz.f58) G8 (t:=let z0:=rdE c T U O n a b u v m p q pl ph dl dh;let z1:=ZH c T U O n a b u v m p q pl ph dl dh;(need [UF 4 n λk=>[Bo.i (a k),Bo.i (b k),Bo.i (u k),Bo.i (v k)],UF 2 m λk=>[Pt.i (p k),Pt.i (q k)]] (branch (decide (z0=0)) (branch ((0:Int)==0) (need [UF 4 n λk=>[Bo.i (a k),Bo.i (b k),Bo.i (u k),Bo.i (v k)],UF 2 m λk=>[Pt.i (p k),Pt.i (q k)]] (branch (!usB c S W wi) (leaf (tup [z1,iI 2])) (branch (!bt (0:Int) Z (10000:Int)) (leaf (tup [z1,iI 2])) (leaf (tup [z1,iI 0]))))) (leaf (tup [z1,iI 0]))) (branch (z0==0) (need [UF 4 n λk=>[Bo.i (a k),Bo.i (b k),Bo.i (u k),Bo.i (v k)],UF 2 m λk=>[Pt.i (p k),Pt.i (q k)]] (branch (!usB c S W wi) (leaf (tup [Z7,iI 2])) (branch (!bt (0:Int) Z (10000:Int)) (leaf (tup [Z7,iI 2])) (leaf (tup [Z7,iI (z0)]))))) (leaf (tup [Z7,iI (z0)])))))) VU ?_;intro Q hQ;simp only [VM.sat,UB,G0,GL,UD,UH,HA,R9,beq_iff_eq,beq_eq_false_iff_ne,Ax,Bool.not_eq_false',not_true_eq_false,false_imp_iff,true_imp_iff] at hQ ⊢;have hr:rdE c T U O n a b u v m p q pl ph dl dh≠0->asE c T U O n a b u v m p q pl ph dl dh S W wi Z=rdE c T U O n a b u v m p q pl ph dl dh:=λh=>if_neg h;have h2:rdE c T U O n a b u v m p q pl ph dl dh=0->(usB c S W wi=false\/bt 0 Z 10000=false)->asE c T U O n a b u v m p q pl ph dl dh S W wi Z=2:=λh h'=>by
  unfold asE;rw [if_pos h,if_neg (by rcases h' with h'|h'<;>simp [h'])]
 have h0:rdE c T U O n a b u v m p q pl ph dl dh=0->usB c S W wi=true->bt 0 Z 10000=true->asE c T U O n a b u v m p q pl ph dl dh S W wi Z=0:=λh h' h''=>by
  unfold asE;rw [if_pos h,h',h''];rfl
 have bad: ∀(x:AV) (k:Int),asE c T U O n a b u v m p q pl ph dl dh S W wi Z=k->k≠0-> ∃r',DX (.tup [x,i k]) r'/\Q r':=λx k he hk=>by
  rw [he] at hQ;exact ⟨.tup [.top,i k],⟨by cases x<;>trivial,⟨rfl,rfl⟩,Ak⟩,hQ.2 hk⟩
 refine ⟨⟨Bo.isRec4 n a b u v,Pt.isRec2 m p q⟩,λh=>⟨⟨Bo.isRec4 n a b u v,Pt.isRec2 m p q⟩,λg=>bad _ 2 (h2 h (.inl g)) VJ,λg=>⟨λg'=>bad _ 2 (h2 h (.inr g')) VJ,λg'=>?_⟩⟩,λh=>⟨λh'=>absurd h' h,λ_=>?_⟩⟩;exact ⟨.tup [.roI [i c,i T,i U,i O,rds n a b u v,Pt.scs m p q] 26 (wkA c T U O n a b u v m p q pl ph dl dh) 0,i 0],⟨⟨rfl,rfl,λ_ _=>rfl,rfl⟩,⟨rfl,rfl⟩,Ak⟩,hQ.1 (h0 h g g')⟩;exact bad _ _ (hr h) h
def Ql0:DD:=λl=>match l with
 |[.agg [.x (.int .i64 c),.x (.int .i64 T),.x (.int .i64 U),.x (.int .i64 O),.lst 4 n fr,.lst 2 m ft,.x (.int .i64 pl),.x (.int .i64 ph),.x (.int .i64 dl),.x (.int .i64 dh)],.agg [.x (.int .i64 S),.x (.int .i64 W),.x (.int .i64 wi)],.x (.int .i64 Z)]=>some (.need [UF 4 n fr,UF 2 m ft] (.branch (decide (asE c T U O n (col 0 fr) (col 1 fr) (col 2 fr) (col 3 fr) m (Pt.col 0 ft) (Pt.col 1 ft) pl ph dl dh S W wi Z=0)) (.leaf (.tup [.roI [i c,i T,i U,i O,rds n (col 0 fr) (col 1 fr) (col 2 fr) (col 3 fr),Pt.scs m (Pt.col 0 ft) (Pt.col 1 ft)] 26 (wkA c T U O n (col 0 fr) (col 1 fr) (col 2 fr) (col 3 fr) m (Pt.col 0 ft) (Pt.col 1 ft) pl ph dl dh) 0,i 0])) (.leaf (.tup [.top,i (asE c T U O n (col 0 fr) (col 1 fr) (col 2 fr) (col 3 fr) m (Pt.col 0 ft) (Pt.col 1 ft) pl ph dl dh S W wi Z)]))))
 |_=>none
theorem Qu2:Sx.Enters Tryz.prog 58/\ ∀avs t,Ql0 avs=some t->UN VO 58 avs t:=by
 refine ⟨(UJ Tryz.func58),?_⟩;intro avs t h;unfold Ql0 at h;split at h;cases h;intro Q hQ;have hr:UF 4 _ _:=GE hQ.1 _ GD;have ht:UF 2 _ _:=GE hQ.1 _ (HL _ GD);exact UN.same (Wx0 _ _ _ _ _ _ _ _ _ _ _ _ _ _ _ _ _ _ _ _) (.cons (LX.same (.cons (.refl _) (.cons (.refl _) (.cons (.refl _) (.cons (.refl _) (.cons (.lst 4 _ _ _ hr) (.cons (.lst 2 _ _ _ ht) (.cons (.refl _) (.cons (.refl _) (.cons (.refl _) (.cons (.refl _) .nil))))))))))) (.cons (.refl _) (.cons (.refl _) .nil))) Q hQ.2;cases h
def kpB(c T U O:Int)(n:Nat)(a b u v:Cg)(m:Nat)(p q:Cg)(pl ph dl dh:Int)(S W wi Z:Int):Bool:=decide (asE c T U O n a b u v m p q pl ph dl dh S W wi Z=0)&&keB c (wkA c T U O n a b u v m p q pl ph dl dh) S W wi Z
section
variable {c T U O:Int}{n:Nat}{a b u v:Cg}{m:Nat}{p q:Cg}{pl ph dl dh S W wi Z:Int}
theorem Jo3(h:asE c T U O n a b u v m p q pl ph dl dh S W wi Z=0):rdE c T U O n a b u v m p q pl ph dl dh=0/\usB c S W wi=true/\0<=Z/\Z<=10000:=by
 unfold asE at h;split at h;rename_i h1;split at h;rename_i h2;rw [GU] at h2;exact ⟨h1,h2.1,(bt_iff _ _ _).1 h2.2⟩;cases h;rename_i h1;exact absurd h h1
theorem Zr8(h:rdE c T U O n a b u v m p q pl ph dl dh=0)(h1:usB c S W wi=true)(h2:0<=Z/\Z<=10000):asE c T U O n a b u v m p q pl ph dl dh S W wi Z=0:=by
 unfold asE;rw [if_pos h,h1,(bt_iff _ _ _).2 h2];rfl
end
theorem Xq3(c T U O:Int)(n:Nat)(a b u v:Cg)(m:Nat)(p q:Cg)(pl ph dl dh:Int)(S W wi Z:Int):VX VO 26 [.agg [i c,i T,i U,i O,rds n a b u v,Pt.scs m p q,i pl,i ph,i dl,i dh],.agg [i S,i W,i wi],i Z] (.tup [bl (kpB c T U O n a b u v m p q pl ph dl dh S W wi Z),i (asE c T U O n a b u v m p q pl ph dl dh S W wi Z)]):=by
 refine GA (L:=[]) (Ae Xi7 Aa) (Aj Ab Ac (Ah Qu2 (U8.nil _))) VZ Tryz.func26 (UU Tryz.f26) G8 (t:=let z0:=asE c T U O n a b u v m p q pl ph dl dh S W wi Z;let z1:=(wkA c T U O n a b u v m p q pl ph dl dh);(need [UF 4 n λk=>[Bo.i (a k),Bo.i (b k),Bo.i (u k),Bo.i (v k)],UF 2 m λk=>[Pt.i (p k),Pt.i (q k)]] (branch (decide (z0=0)) (branch ((0:Int)==0) (need [drB z1,bdB z1,(1:Int)<=c/\c<=10,(0:Int)<=S/\S<=W/\W<=10,(0:Int)<=wi/\wi<=1000000,(0:Int)<=Z/\Z<=100000] (leaf (RV.tup [RV.x (.bool (keB c z1 S W wi Z)),RV.x (KQ)]))) (leaf (RV.tup [RV.x (Y0),RV.x (KQ)]))) (branch (z0==0) VM.fail (leaf (RV.tup [RV.x (Y0),RV.x (.int .i64 (z0))])))))) VU ?_;simp only [VM.sat,UB,G0,GL,UD,UH,HA,R9,beq_iff_eq,beq_eq_false_iff_ne,Ax,Bool.not_eq_false',not_true_eq_false,false_imp_iff,true_imp_iff];refine ⟨⟨Bo.isRec4 n a b u v,Pt.isRec2 m p q⟩,λh=>?_,λh=>⟨λh'=>absurd h' h,λ_=>?_⟩⟩;obtain ⟨h1,h2,h3⟩:=Jo3 h;have hw:=bZ h1;have hu:=tV.1 h2;refine ⟨⟨hw.1,hw.2.1,hw.2.2.1,VJ,VJ,VJ⟩,?_,h.symm⟩;unfold kpB;rw [h];rfl;unfold kpB;rw [decide_eq_false h];rfl
def bH:UX
 |[.agg [.x (.int .i64 c),.x (.int .i64 T),.x (.int .i64 U),.x (.int .i64 O),.lst 4 n fr,.lst 2 m ft,.x (.int .i64 pl),.x (.int .i64 ph),.x (.int .i64 dl),.x (.int .i64 dh)],.agg [.x (.int .i64 S),.x (.int .i64 W),.x (.int .i64 wi)],.x (.int .i64 Z)]=>some ([UF 4 n fr,UF 2 m ft],.tup [bl (kpB c T U O n (col 0 fr) (col 1 fr) (col 2 fr) (col 3 fr) m (Pt.col 0 ft) (Pt.col 1 ft) pl ph dl dh S W wi Z),i (asE c T U O n (col 0 fr) (col 1 fr) (col 2 fr) (col 3 fr) m (Pt.col 0 ft) (Pt.col 1 ft) pl ph dl dh S W wi Z)])
 |_=>none
theorem Qk5:VP VO 26 bH:=by
 refine ⟨(UJ Tryz.func26),?_⟩;intro avs ns res h I;unfold bH at h;split at h;cases h;have hr:UF 4 _ _:=I _ GD;have ht:UF 2 _ _:=I _ (HL _ GD);exact (Xq3 _ _ _ _ _ _ _ _ _ _ _ _ _ _ _ _ _ _ _ _).same (.cons (LX.same (.cons (.refl _) (.cons (.refl _) (.cons (.refl _) (.cons (.refl _) (.cons (.lst 4 _ _ _ hr) (.cons (.lst 2 _ _ _ ht) (.cons (.refl _) (.cons (.refl _) (.cons (.refl _) (.cons (.refl _) .nil))))))))))) (.cons (.refl _) (.cons (.refl _) .nil)));cases h
def hdN(c T U O:Int)(n:Nat)(a b u v:Cg)(m:Nat)(p q:Cg)(pl ph dl dh:Int)(Z:Int):Nat:=if hdE c T U O n a b u v m p q pl ph dl dh Z=0 then c.toNat+1 else 0
theorem B2{P:Program}{c:Code}{ps:List Prop}{sp:UG}(h:UB ps->HT P c sp):HT P c (F2 ps sp):=λcx hf=>wP (λhp=>h hp cx hf)
theorem Zr5{g h:Cg}{k j:Nat}{x y:Int}(hx:x=g k)(hy:y=h k)(hj:j<k+1):GI k (λk=>[i (g k),i (h k)]) (U4 2 [i x,i y]) j=[i (g j),i (h j)]:=by
 subst hx;subst hy;show H6 (decide (j<k)) [i (g j),i (h j)] (U4 2 [i (g k),i (h k)] (j-k))=_;rw [show j-k=0 by omega]
 by_cases hj:j<k;rw [decide_eq_true hj];rfl;obtain rfl:j=k:=VJ;rw [decide_eq_false hj];rfl
section
variable (c T U O:Int)(n:Nat)(a b u v:Cg)(m:Nat)(p q:Cg)(pl ph dl dh:Int)(Z:Int)
def Jt5:St:={σ:=mkS 37 [(0,.agg [i c,i T,i U,i O,rds n a b u v,Pt.scs m p q,i pl,i ph,i dl,i dh]),(1,i Z),(2,.fn (.func 72) [] []),(3,.ptr 0 0),(4,.ptr 1 0),(5,.ptr 2 0),(6,.x (.slice none 0 0)),(7,i 0),(8,.ptr 10 0),(9,i 0),(10,.ptr 18 0),(26,.fn (.func 140) [] [.ro [i 0],.ro [i c]])],m:=[(901,.row 51 2 0 (λk=>[i (onL (wkA c T U O n a b u v m p q pl ph dl dh) k Z),i (onH (wkA c T U O n a b u v m p q pl ph dl dh) k Z)])),(18,.cells 112 [.row 901]),(10,.cells 124 [.roI [i c,i T,i U,i O,rds n a b u v,Pt.scs m p q] 26 (wkA c T U O n a b u v m p q pl ph dl dh) 0]),(2,.cells 163 [.fn (.func 72) [] []]),(1,.cells 3 [i Z]),(0,.cells 53 [i c,i T,i U,i O,rds n a b u v,Pt.scs m p q,i pl,i ph,i dl,i dh])],nx:=902}
noncomputable def Jx8:Code:=T4 (VS (U7 Tryz.f71) 0)
noncomputable def Jw9:Code:=T3 (VS (U7 Tryz.f71) 0)
def pF(k:Nat):St:={σ:=GY [] (Jt5 c T U O n a b u v m p q pl ph dl dh Z).σ,m:=[(901,.row 51 2 k (λk=>[i (onL (wkA c T U O n a b u v m p q pl ph dl dh) k Z),i (onH (wkA c T U O n a b u v m p q pl ph dl dh) k Z)])),(18,.cells 112 [.row 901]),(10,.cells 124 [.roI [i c,i T,i U,i O,rds n a b u v,Pt.scs m p q] 26 (wkA c T U O n a b u v m p q pl ph dl dh) 0]),(2,.cells 163 [.fn (.func 72) [] []]),(1,.cells 3 [i Z]),(0,.cells 53 [i c,i T,i U,i O,rds n a b u v,Pt.scs m p q,i pl,i ph,i dl,i dh])],nx:=902}
def oK(k:Nat):G5->Option St
 | .normal=>some {σ:=GY [] (Jt5 c T U O n a b u v m p q pl ph dl dh Z).σ,m:=[(901,.row 51 2 ((c-0+1).toNat) (λk=>[i (onL (wkA c T U O n a b u v m p q pl ph dl dh) k Z),i (onH (wkA c T U O n a b u v m p q pl ph dl dh) k Z)])),(18,.cells 112 [.row 901]),(10,.cells 124 [.roI [i c,i T,i U,i O,rds n a b u v,Pt.scs m p q] 26 (wkA c T U O n a b u v m p q pl ph dl dh) 0]),(2,.cells 163 [.fn (.func 72) [] []]),(1,.cells 3 [i Z]),(0,.cells 53 [i c,i T,i U,i O,rds n a b u v,Pt.scs m p q,i pl,i ph,i dl,i dh])],nx:=902}
 |_=>none
def T_eO:CT:= .leaf (.normal,pF c T U O n a b u v m p q pl ph dl dh Z ((c-0+1).toNat))
def Zc0:UG:=GJ [(.cell 18 0,901,51,2)] (HF (pF c T U O n a b u v m p q pl ph dl dh Z (0)) (T_eO c T U O n a b u v m p q pl ph dl dh Z))
end
abbrev J0(c:Int):AV:=AV.fn (Fn.func 140) [] [AV.ro [iI 0],AV.ro [iI c]]
abbrev J7:Prop:=AV.fn (Fn.func 72) [] []=AV.fn (Fn.func 72) [] []
abbrev Y1:Ext:={R:=[(95,bE)],H:=[],C:=[(51,fQ)] }
section
variable (c T U O:Int)(n:Nat)(a b u v:Cg)(m:Nat)(p q:Cg)(pl ph dl dh:Int)(Z:Int)
theorem Jm5(VR:rdE c T U O n a b u v m p q pl ph dl dh=0)(UE:0<=Z/\Z<=10000)(HK:drB (wkA c T U O n a b u v m p q pl ph dl dh)/\bdB (wkA c T U O n a b u v m p q pl ph dl dh)/\1<=c/\c<=10):HT VO (.rangeFunc (rfF (VS (U7 Tryz.f71) 0)) (jP (VS (U7 Tryz.f71) 0)) Jx8 Jw9) (Zc0 c T U O n a b u v m p q pl ph dl dh Z):=by
 refine PA [(.cell 18 0,901,51,2)] (L:=[]) (Ae RJ (Ae Wf6 Aa)) (Aj (Af dR Ab) Ac (Ah x9 (U8.nil _))) VZ U2 (V:=Nat) (pF c T U O n a b u v m p q pl ph dl dh Z) (λk=>k<=((c-0+1).toNat)) (λk=>k) (oK c T U O n a b u v m p q pl ph dl dh Z) (x0:=0) VT rfl ?_ ?_ ?_ ?_ (g:=140) (caps:=[.ro [i 0],.ro [i c]]) VU VU (EQ 0 c VJ VJ) (λ_=>rfl) ?_;rintro k;kernel_rfl;rintro k y E h;unfold oK at h;split at h;cases h;kernel_rfl;cases h;rintro k;rfl;rintro k y E h;unfold oK at h;split at h;cases h;rfl;cases h;rintro Q hQ k hx;refine ⟨λhlt=>⟨(k+1),rfl,?_⟩,λPL=>?_⟩;(with_reducible refine D9 (t:=let z0:=(wkA c T U O n a b u v m p q pl ph dl dh);let z1:=((0:Int)+(k:Int)).toNat;(need [drB z0,bdB z0,(0:Int)<=0+(k:Int)/\(0:Int)+(k:Int)<=10,(0:Int)<=Z/\Z<=100000] (need [(k+1)*16<=140737488355328,RP 1 (U4 2 [iI (onL z0 z1 Z),iI (onH z0 z1 Z)])] (need [X7 c T U O n a b u v m p q pl ph dl dh,Z=Z,J7,KM,VY (ptr 1 0),VY (ptr 2 0),ZE=ZE,K9,VY (ptr 10 0),K9,Y6,J0 c=J0 c,k+1=k+1,GV (k+1) (GI k (λk=>[iI (onL z0 k Z),iI (onH z0 k Z)]) (U4 2 [iI (onL z0 z1 Z),iI (onH z0 z1 Z)])) (λi=>[iI (onL z0 i Z),iI (onH z0 i Z)]),VY (AV.row 901),VY (ZH c T U O n a b u v m p q pl ph dl dh),J7,Z=Z,c=c,T=T,U=U,O=O,YP n a b u v,YT m p q,pl=pl,ph=ph,dl=dl,dh=dh] (leaf G5.normal))))) VU ?_)
 simp only [VM.sat,UB,UH]
 have ek:((0:Int)+(k:Int)).toNat=k:=VJ;refine ⟨⟨HK.1,HK.2.1,VJ,VJ⟩,⟨VJ,λj hj a ha=>FC ha (by simp [AV.one,Value.oneCell'])⟩,λj hj=>?_,VJ⟩
 rw [ek];exact Zr5 rfl rfl hj;subst PL;exact hQ
abbrev YS:Value:=Value.slice none 0 0
theorem Wu1:VX VO 71 [.agg [i c,i T,i U,i O,rds n a b u v,Pt.scs m p q,i pl,i ph,i dl,i dh],i Z,.fn (.func 72) [] []] (.tup [.lst 2 (hdN c T U O n a b u v m p q pl ph dl dh Z) (λk=>[i (onL (wkA c T U O n a b u v m p q pl ph dl dh) k Z),i (onH (wkA c T U O n a b u v m p q pl ph dl dh) k Z)]),i (hdE c T U O n a b u v m p q pl ph dl dh Z)]):=by
 refine GA (L:=[F2 [rdE c T U O n a b u v m p q pl ph dl dh=0,0<=Z/\Z<=10000,drB (wkA c T U O n a b u v m p q pl ph dl dh)/\bdB (wkA c T U O n a b u v m p q pl ph dl dh)/\1<=c/\c<=10] (Zc0 c T U O n a b u v m p q pl ph dl dh Z)]) (Ae RJ (Ae Wf6 Aa)) (Aj (Af dR Ab) Ac (Ah x9 (U8.nil _))) VZ Tryz.func71 (UU Tryz.f71) (G7 (lpE (b:= .rangeFunc (rfF (VS (U7 Tryz.f71) 0)) (jP (VS (U7 Tryz.f71) 0)) Jx8 Jw9) VU<|B2 (λh=>Jm5 c T U O n a b u v m p q pl ph dl dh Z h.1 h.2.1 h.2.2))) (t:=let z0:=wkA c T U O n a b u v m p q pl ph dl dh;let z1:=rdE c T U O n a b u v m p q pl ph dl dh;let z2:=(leaf (RV.tup [RV.lst 2 (c-0+1).toNat λk=>[iI (onL (z0) k Z),iI (onH (z0) k Z)],RV.x (KQ)]));let z3:=(leaf (RV.tup [RV.x (YS),RV.x (.int .i64 (2:Int))]));(need [UF 4 n λk=>[Bo.i (a k),Bo.i (b k),Bo.i (u k),Bo.i (v k)],UF 2 m λk=>[Pt.i (p k),Pt.i (q k)]] (branch (decide (z1=0)) (branch ((0:Int) != 0) (leaf (RV.tup [RV.x (YS),RV.x (KQ)])) (branch (!bt (0:Int) Z (10000:Int)) z3 (need [z1=0,(0:Int)<=Z/\Z<=10000,drB (z0)/\bdB (z0)/\(1:Int)<=c/\c<=10] (need [X7 c T U O n a b u v m p q pl ph dl dh,Z=Z,J7,KM,VY (ptr 1 0),VY (ptr 2 0),ZE=ZE,K9,VY (ptr 10 0),K9,Y6,J0 c=J0 c,0=0,∀(i:Nat),i<0->[]=[iI (onL (z0) i Z),iI (onH (z0) i Z)],VY (AV.row 901),VY (ZH c T U O n a b u v m p q pl ph dl dh),J7,Z=Z,c=c,T=T,U=U,O=O,YP n a b u v,YT m p q,pl=pl,ph=ph,dl=dl,dh=dh] z2)))) (branch (z1 != 0) (leaf (RV.tup [RV.x (YS),RV.x (.int .i64 (z1))])) (branch (!bt (0:Int) Z (10000:Int)) z3 (need [z1=0,(0:Int)<=Z/\Z<=10000,drB (z0)/\bdB (z0)/\(1:Int)<=c/\c<=10] (need [X7 c T U O n a b u v m p q pl ph dl dh,Z=Z,J7,KM,VY (ptr 1 0),VY (ptr 2 0),ZE=ZE,K9,VY (ptr 10 0),z1=0,Y6,J0 c=J0 c,0=0,∀(i:Nat),i<0->[]=[iI (onL (z0) i Z),iI (onH (z0) i Z)],VY (AV.row 901),AV.x (.pointer none)=roI [iI c,iI T,iI U,iI O,QR n a b u v,QX m p q] 26 (λa_1=>z0 a_1) 0,J7,Z=Z,c=c,T=T,U=U,O=O,YP n a b u v,YT m p q,pl=pl,ph=ph,dl=dl,dh=dh] z2))))))) VU ?_
 simp only [VM.sat,UB,G0,GL,UD,UH,HA,R9,beq_iff_eq,beq_eq_false_iff_ne,Ax,Bool.not_eq_false',not_true_eq_false,false_imp_iff,true_imp_iff];have e2:rdE c T U O n a b u v m p q pl ph dl dh=0->bt 0 Z 10000=false->hdE c T U O n a b u v m p q pl ph dl dh Z=2:=λh h'=>by
  unfold hdE;rw [if_pos h,h'];rfl
 have e0:rdE c T U O n a b u v m p q pl ph dl dh=0->bt 0 Z 10000=true->hdE c T U O n a b u v m p q pl ph dl dh Z=0:=λh h'=>by
  unfold hdE;rw [if_pos h,h'];rfl
 have er: ¬rdE c T U O n a b u v m p q pl ph dl dh=0->hdE c T U O n a b u v m p q pl ph dl dh Z=rdE c T U O n a b u v m p q pl ph dl dh:=λh=>if_neg h;have eN: ∀k:Int,hdE c T U O n a b u v m p q pl ph dl dh Z=k->k≠0->(iF (YS)/\hdN c T U O n a b u v m p q pl ph dl dh Z=0)/\k=hdE c T U O n a b u v m p q pl ph dl dh Z:=λk h hk=>⟨⟨by trivial,if_neg (by rw [h];exact hk)⟩,h.symm⟩
 have eP:rdE c T U O n a b u v m p q pl ph dl dh=0->bt 0 Z 10000=true->hdN c T U O n a b u v m p q pl ph dl dh Z=c.toNat+1:=λh h'=>if_pos (e0 h h');refine ⟨⟨Bo.isRec4 n a b u v,Pt.isRec2 m p q⟩,λh=>⟨λh'=>eN 2 (e2 h h') (by decide),λh'=>?_⟩,λh=>⟨λ_=>eN _ (er h) h,λh''=>absurd h'' h⟩⟩
 have hw:=bZ h;have hb:=(bt_iff _ _ _).1 h';refine ⟨⟨h,hb,hw.1,hw.2.1,hw.2.2.1⟩,λj hj=>absurd hj (Aq _),⟨?_,λj _ x hx=>?_⟩,(e0 h h').symm⟩;rw [eP h h'];omega;simp only [GM,DL,or_false] at hx;rcases hx with rfl|rfl<;>exact Ak
end
def Qh9:UX
 |[.agg [.x (.int .i64 c),.x (.int .i64 T),.x (.int .i64 U),.x (.int .i64 O),.lst 4 n fr,.lst 2 m ft,.x (.int .i64 pl),.x (.int .i64 ph),.x (.int .i64 dl),.x (.int .i64 dh)],.x (.int .i64 Z),.fn (.func 72) [] []]=>some ([UF 4 n fr,UF 2 m ft],.tup [.lst 2 (hdN c T U O n (col 0 fr) (col 1 fr) (col 2 fr) (col 3 fr) m (Pt.col 0 ft) (Pt.col 1 ft) pl ph dl dh Z) (λk=>[i (onL (wkA c T U O n (col 0 fr) (col 1 fr) (col 2 fr) (col 3 fr) m (Pt.col 0 ft) (Pt.col 1 ft) pl ph dl dh) k Z),i (onH (wkA c T U O n (col 0 fr) (col 1 fr) (col 2 fr) (col 3 fr) m (Pt.col 0 ft) (Pt.col 1 ft) pl ph dl dh) k Z)]),i (hdE c T U O n (col 0 fr) (col 1 fr) (col 2 fr) (col 3 fr) m (Pt.col 0 ft) (Pt.col 1 ft) pl ph dl dh Z)])
 |_=>none
theorem Wu0:VP VO 71 Qh9:=by
 refine ⟨(UJ Tryz.func71),?_⟩;intro avs ns res h I;unfold Qh9 at h;split at h;cases h;have hr:UF 4 _ _:=I _ GD;have ht:UF 2 _ _:=I _ (HL _ GD);exact (Wu1 _ _ _ _ _ _ _ _ _ _ _ _ _ _ _ _ _).same (.cons (LX.same (.cons (.refl _) (.cons (.refl _) (.cons (.refl _) (.cons (.refl _) (.cons (.lst 4 _ _ _ hr) (.cons (.lst 2 _ _ _ ht) (.cons (.refl _) (.cons (.refl _) (.cons (.refl _) (.cons (.refl _) .nil))))))))))) (.cons (.refl _) (.cons (.refl _) .nil)));cases h
theorem uC(c T U O:Int)(n:Nat)(a b u v:Cg)(m:Nat)(p q:Cg)(pl ph dl dh:Int)(Z:Int):FQ VO 43 [.agg [i c,i T,i U,i O,rds n a b u v,Pt.scs m p q,i pl,i ph,i dl,i dh],i Z] (.tup [.lst 2 (hdN c T U O n a b u v m p q pl ph dl dh Z) (λk=>[i (onL (wkA c T U O n a b u v m p q pl ph dl dh) k Z),i (onH (wkA c T U O n a b u v m p q pl ph dl dh) k Z)]),i (hdE c T U O n a b u v m p q pl ph dl dh Z)]):=by
 refine D5 (L:=[]) (Ae Wu0 Aa) Ad VZ Tryz.func43 (UU Tryz.f43) G8 (t:=need [UF 4 n λk=>[Bo.i (a k),Bo.i (b k),Bo.i (u k),Bo.i (v k)],UF 2 m λk=>[Pt.i (p k),Pt.i (q k)]] (leaf (tup [lst 2 (hdN c T U O n a b u v m p q pl ph dl dh Z) λk=>[iI (onL (wkA c T U O n a b u v m p q pl ph dl dh) k Z),iI (onH (wkA c T U O n a b u v m p q pl ph dl dh) k Z)],iI (hdE c T U O n a b u v m p q pl ph dl dh Z)]))) VU ?_;simp only [VM.sat,UB,UH];exact ⟨⟨Bo.isRec4 n a b u v,Pt.isRec2 m p q⟩,⟨rfl,rfl,λ_ _=>rfl⟩,⟨rfl,rfl⟩,Ak⟩
end Go.Proofs.YtakpdkmhclhlnaaGreatDoor
namespace Go.Proofs.YtakpdkmhclhlnaaGreatDoor.Hd
open Go Go.Sx Go.RowKit Bo
open Go.Sx.VM (need branch leaf)
open Go.Sx.AV (lst ptr agg roI tup top)
def SD:UX
 |[.x (.int .i64 n),.x (.int .i64 U),.x (.int .i64 O)]=>some ([],bl (bt U n O))
 |_=>none
abbrev W6:Value:=Value.bool false
theorem VA{p:Prop}(h:p:=by
 simp only [VM.sat,UB,G0,GL,UD,UH];all_goals (simp+contextual [bt,insB,Bo.bt,Bo.insB,Bool.and_assoc]);all_goals omega):p:=h
theorem sF(n U O:Int):VX VO 122 [i n,i U,i O] (bl (bt U n O)):=by
 refine GW Tryz.func122 (t:=branch (decide (U<=n)) (leaf (RV.x (.bool (decide (n<=O))))) (leaf (RV.x (W6)))) VU ?_;exact VA
theorem zW:VP VO 122 SD:=by
 refine ⟨(UJ Tryz.func122),?_⟩;intro avs ns res h I;unfold SD at h;split at h;cases h;exact sF _ _ _;cases h
def SF:UX
 |[.agg [.x (.int .i64 a),.x (.int .i64 b)],.x (.int .i64 U),.x (.int .i64 O)]=>some ([],bl (insB U a b O))
 |_=>none
theorem sM(a b U O:Int):VX VO 163 [.agg [i a,i b],i U,i O] (bl (insB U a b O)):=by
 refine GW Tryz.func163 (t:=branch (decide (U<=a)) (branch (decide (a<=b)) (leaf (RV.x (.bool (decide (b<=O))))) (leaf (RV.x (W6)))) (leaf (RV.x (W6)))) VU ?_;exact VA
theorem M0:VP VO 163 SF:=by
 refine ⟨(UJ Tryz.func163),?_⟩;intro avs ns res h I;unfold SF at h;split at h;cases h;exact sM _ _ _ _;cases h
def SE:UX
 |[.agg [.x (.int .i64 a),.x (.int .i64 b)]]=>some ([],bl (insB (-100) a b 100))
 |_=>none
theorem sL(a b:Int):VX VO 121 [.agg [i a,i b]] (bl (insB (-100) a b 100)):=by
 refine U1 (L:=[]) (Ae M0 Aa) VZ Tryz.func121 (UU Tryz.f121) U2 (t:=leaf (RV.x (.bool (insB (-100:Int) a b (100:Int))))) VU ?_;exact V1
theorem sJ:VP VO 121 SE:=by
 refine ⟨(UJ Tryz.func121),?_⟩;intro avs ns res h I;unfold SE at h;split at h;cases h;exact sL _ _;cases h
def Qi3:UX
 |[.agg [.x (.int .i64 a),.x (.int .i64 b)]]=>some ([],bl (insB 0 a b 1000))
 |_=>none
theorem Ww1(a b:Int):VX VO 167 [.agg [i a,i b]] (bl (insB 0 a b 1000)):=by
 refine U1 (L:=[]) (Ae M0 Aa) VZ Tryz.func167 (UU Tryz.f167) U2 (t:=leaf (RV.x (.bool (insB (0:Int) a b (1000:Int))))) VU ?_;exact V1
theorem m6:VP VO 167 Qi3:=by
 refine ⟨(UJ Tryz.func167),?_⟩;intro avs ns res h I;unfold Qi3 at h;split at h;cases h;exact Ww1 _ _;cases h
def bF:UX
 |[.x (.int .i64 n)]=>some ([0<=n/\n<=1000],i (1+n))
 |_=>none
theorem Wv4(n:Int)(VR:0<=n/\n<=1000):VX VO 54 [i n] (i (1+n)):=by
 refine GW Tryz.func54 (t:=need [VL ((1:Int)+n)] (leaf (RV.x (.int .i64 ((1:Int)+n))))) VU ?_;simp only [VM.sat,UB,G0,GL,UD,VL,UH];all_goals first|omega|grind
theorem RI:VP VO 54 bF:=by
 refine ⟨(UJ Tryz.func54),?_⟩;intro avs ns res h I;unfold bF at h;split at h;cases h;exact Wv4 _ (I _ VT);cases h
def bG:UX
 |[.x (.int .i64 n)]=>some ([0<=n/\n<=1000],i (7+n))
 |_=>none
theorem Wv6(n:Int)(VR:0<=n/\n<=1000):VX VO 127 [i n] (i (7+n)):=by
 refine GW Tryz.func127 (t:=need [VL ((7:Int)+n)] (leaf (RV.x (.int .i64 ((7:Int)+n))))) VU ?_;exact VD
theorem LW:VP VO 127 bG:=by
 refine ⟨(UJ Tryz.func127),?_⟩;intro avs ns res h I;unfold bG at h;split at h;cases h;exact Wv6 _ (I _ VT);cases h
def kQ:UX:=kO
theorem Qt5(a b:Int):VX VO 128 [.lst 1 2 (λk=>[i (if k=0 then a else b)])] (i (min a b)):=by
 refine U1 (L:=[]) (Ae SZ Aa) VZ Tryz.func128 (UU Tryz.f128) U2 (t:=leaf (RV.x (.int .i64 (min (if 0=0 then a else b) (if 1=0 then a else b))))) VU ?_
 simp [VM.sat,G0,UD]
theorem RA:VP VO 128 kQ:=by
 refine ⟨(UJ Tryz.func128),?_⟩;intro avs ns res h I;unfold kQ kO at h;split at h;rename_i f;split at h;rename_i a b h0 h1;cases h;refine (Qt5 a b).same (.cons (.lst 1 2 _ _ ?_) .nil);intro k hk;rcases (show k=0\/k=1 by omega) with rfl|rfl
 exact h0;exact h1;cases h;cases h
def mM:UX
 |[.agg [.lst 2 3 f,.x (.int .i64 er),.lst 3 N bf],.x (.int .i64 n)]=>some ([],bl (bt 0 n 2))
 |_=>none
theorem Qt6(f:Ci)(er:Int)(N:Nat)(bf:Ci)(n:Int):VX VO 166 [.agg [.lst 2 3 f,i er,.lst 3 N bf],i n] (bl (bt 0 n 2)):=by
 refine U1 (L:=[]) (Ae zW Aa) VZ Tryz.func166 (UU Tryz.f166) U2 (t:=need [VL (((3:Nat):Int)-1)] (leaf (RV.x (.bool (bt (0:Int) n (((3:Nat):Int)-1)))))) VU ?_;simp [VM.sat,UB,G0,UD,VL]
theorem OY:VP VO 166 mM:=by
 refine ⟨(UJ Tryz.func166),?_⟩;intro avs ns res h I;unfold mM at h;split at h;cases h;exact Qt6 _ _ _ _ _;cases h
def snB(r:Cg):Nat->Int->Bool
 | 0,_=>false
 |k+1,q=>snB r k q||(r k==q)
theorem Qa2(r:Cg)(q:Int): ∀k,snB r k q=true↔ ∃j,j<k/\r j=q
 | 0=>by simp [snB]
 |k+1=>by
  simp only [snB,Bl,Qa2 r q k,beq_iff_eq];constructor;rintro (⟨j,h1,h2⟩|h);exact ⟨j,VJ,h2⟩;exact ⟨k,VJ,h⟩;rintro ⟨j,h1,h2⟩;rcases (show j<k\/j=k by omega) with h|rfl
  exact .inl ⟨j,h,h2⟩;exact .inr h2
abbrev bts(m:Nat)(r v:Cg):AV:= .lst 2 m (λj=>[i (r j),i (v j)])
abbrev WI(f:Ci):AV:=lst 2 3 λa=>f a
abbrev XD(m:Nat)(r:Cg)(v:Cg):AV:=lst 2 m λj=>[iI (r j),iI (v j)]
abbrev K6(N:Nat)(bf:Ci):AV:=lst 3 N λa=>bf a
section
variable (f:Ci)(er:Int)(N:Nat)(bf:Ci)(U O:Int)(m:Nat)(r v:Cg)
def Zw7:St:={σ:=[agg [WI f,iI er,K6 N bf],agg [iI U,iI O,XD m r v],ptr 0 0,ptr 1 0,top,ptr 3 0,top,top,top,XD m r v,iI (m:Int)]++HI 28 [],m:=[(3,GO.cells 278 [AV.x (W6),AV.x (W6),AV.x (W6),AV.x (W6),AV.x (W6),AV.x (W6)]),(1,GO.cells 148 [iI U,iI O,XD m r v]),(0,GO.cells 59 [WI f,iI er,K6 N bf])],nx:=8}
noncomputable def Jx2:Code:=U9 (VS (U7 Tryz.f124) 0)
def Wn0(k:Nat):St:=(upE [(11,i k)] [(3,.cells 278 [bl (snB r (k) 0),bl (snB r (k) 1),bl (snB r (k) 2),bl (snB r (k) 3),bl (snB r (k) 4),bl (snB r (k) 5)]),(1,.cells 148 [i U,i O,bts m r v]),(0,.cells 59 [.lst 2 3 f,i er,.lst 3 N bf])] (Zw7 f er N bf U O m r v))
def EE(k:Nat):G5->Option St
 | .exit 0=>some (upE [] [(3,.cells 278 [bl (snB r (m) 0),bl (snB r (m) 1),bl (snB r (m) 2),bl (snB r (m) 3),bl (snB r (m) 4),bl (snB r (m) 5)]),(1,.cells 148 [i U,i O,bts m r v]),(0,.cells 59 [.lst 2 3 f,i er,.lst 3 N bf])] (Zw7 f er N bf U O m r v))
 |_=>none
def Js8:CT:= .leaf (.exit 0,(EE f er N bf U O m r v 0 (.exit 0)).getD (Zw7 f er N bf U O m r v))
def Zc3:UG:=(HF (Wn0 f er N bf U O m r v (0)) (Js8 f er N bf U O m r v))
end
abbrev QO:Prop:=ptr 0 0=ptr 0 0
abbrev WR:Prop:=ptr 1 0=ptr 1 0
abbrev ZL:Prop:=ptr 3 0=ptr 3 0
theorem V0{p:Prop}(h:p:=by
 (with_reducible repeat' first|apply Al|intro _)
 all_goals first|exact Ak|omega|with_reducible rfl|(rename_i E hE;cases hE;exact hQ)|rfl):p:=h
section
variable (f:Ci)(er:Int)(N:Nat)(bf:Ci)(U O:Int)(m:Nat)(r v:Cg)
theorem Jo0(VR:m<=1000)(UE: ∀j,j<m->0<=r j/\r j<=2/\ -1000<=v j/\v j<=2000)(HK: ∀j k,j<k->k<m->r j≠r k)(F1:insB 0 U O 1000=true):G6 VO (.loop Jx2) (Zc3 f er N bf U O m r v):=by
 refine HH (L:=[]) (Ae OY (Ae zW (Ae m6 Aa))) VZ U2 (X:=Nat) (Wn0 f er N bf U O m r v) (λk=>k<=m) (λk=>m-k) (EE f er N bf U O m r v) (x0:=0) VT ?_ ?_ ?_;rintro k;kernel_rfl;rintro k y E h;unfold EE at h;split at h;cases h;kernel_rfl;cases h;rintro Q hQ k hx;refine ⟨(k+1),?_⟩;(with_reducible refine D9 (t:=branch (decide ((k:Int)<(m:Int))) (need [UI k m] (branch (!bt (0:Int) (r k) (2:Int)) VM.fail (need [UI (r k) 6] (need [0+(r k).toNat*1<List.length [snB r k (0:Int),snB r k (1:Int),snB r k (2:Int),snB r k (3:Int),snB r k (4:Int),snB r k (5:Int)]] (branch (match [snB r k (0:Int),snB r k (1:Int),snB r k (2:Int),snB r k (3:Int),snB r k (4:Int),snB r k (5:Int)][0+(r k).toNat*1]? with|some x=>x|none=>false) VM.fail (branch (!bt (-1000:Int) (v k) (2000:Int)) VM.fail (need [UI (r k) 6] (need [0+(r k).toNat*1<List.length [snB r k (0:Int),snB r k (1:Int),snB r k (2:Int),snB r k (3:Int),snB r k (4:Int),snB r k (5:Int)]] (need [VL ((k:Int)+1)] (need [VY (agg [WI f,iI er,K6 N bf]),VY (agg [iI U,iI O,XD m r v]),QO,WR,ZL,VY (XD m r v),VY (m:Int),(k:Int)+1=(↑(k+1):Int),(if 0=0+(r k).toNat*1 then true else snB r k (0:Int))=snB r (k+1) (0:Int),(if 1=0+(r k).toNat*1 then true else snB r k (1:Int))=snB r (k+1) (1:Int),(if 2=0+(r k).toNat*1 then true else snB r k (2:Int))=snB r (k+1) (2:Int),(if 3=0+(r k).toNat*1 then true else snB r k (3:Int))=snB r (k+1) (3:Int),(if 4=0+(r k).toNat*1 then true else snB r k (4:Int))=snB r (k+1) (4:Int),(if 5=0+(r k).toNat*1 then true else snB r k (5:Int))=snB r (k+1) (5:Int),U=U,O=O,VY (XD m r v),WI f=WI f,er=er,VY (K6 N bf)] (leaf G5.normal))))))))))) (need [VY (agg [WI f,iI er,K6 N bf]),VY (agg [iI U,iI O,XD m r v]),QO,WR,ZL,VY (XD m r v),VY (m:Int),snB r k (0:Int)=snB r m (0:Int),snB r k (1:Int)=snB r m (1:Int),snB r k (2:Int)=snB r m (2:Int),snB r k (3:Int)=snB r m (3:Int),snB r k (4:Int)=snB r m (4:Int),snB r k (5:Int)=snB r m (5:Int),U=U,O=O,VY (XD m r v),WI f=WI f,er=er,VY (K6 N bf)] (leaf (G5.exit 0)))) VU ?_)
 simp only [Js8,EE,VM.sat,GS] at hQ;simp only [VM.sat,UB,G0,GL,UD,VL,UH,HA,FU,R9,RQ,GN,EE]
 refine ⟨λh=>?_,λh=>?_⟩
 ·obtain ⟨h0,h1,h2,h3⟩:=UE k VJ;have hno:snB r k (r k)=false:=by
   rw [←Bool.not_eq_true,Qa2];rintro ⟨j,hj,he⟩;exact HK j k hj VJ he
  have hb1:bt 0 (r k) 2=true:=(bt_iff _ _ _).2 VJ;have hb2:bt (-1000) (v k) 2000=true:=(bt_iff _ _ _).2 VJ;rcases (show r k=0\/r k=1\/r k=2 by omega) with hr|hr|hr
  all_goals
   rw [hr] at hno hb1;simp [hr,hno,hb1,hb2,snB];exact V0
 obtain rfl:k=m:=VJ;exact V0
theorem Ww4(VR:m<=1000)(UE: ∀j,j<m->0<=r j/\r j<=2/\ -1000<=v j/\v j<=2000)(HK: ∀j k,j<k->k<m->r j≠r k)(F1:insB 0 U O 1000=true):VX VO 124 [.agg [.lst 2 3 f,i er,.lst 3 N bf],.agg [i U,i O,bts m r v]] (bl true):=by
 refine U1 (L:=[Zc3 f er N bf U O m r v]) (Ae OY (Ae zW (Ae m6 Aa))) VZ Tryz.func124 (UU Tryz.f124) (G7 (lpE (b:= .loop Jx2) VU<|Jo0 f er N bf U O m r v VR UE HK F1)) (t:=need [VY (agg [WI f,iI er,K6 N bf]),VY (agg [iI U,iI O,XD m r v]),QO,WR,ZL,VY (XD m r v),VY (m:Int),(0:Int)=((0:Nat):Int),false=snB r 0 (0:Int),false=snB r 0 (1:Int),false=snB r 0 (2:Int),false=snB r 0 (3:Int),false=snB r 0 (4:Int),false=snB r 0 (5:Int),U=U,O=O,VY (XD m r v),WI f=WI f,er=er,VY (K6 N bf)] (leaf (RV.x (.bool (insB (0:Int) U O (1000:Int)))))) VU ?_
 exact V1
end
def Qm8(m:Nat)(r v:Cg):Prop:=m<=1000/\(∀j,j<m->0<=r j/\r j<=2/\ -1000<=v j/\v j<=2000)/\ ∀j k,j<k->k<m->r j≠r k
section
variable (N:Nat)(U O:Cg)(m:Ch)(g:Nat->Ci)
abbrev bgs:AV:= .lst 3 N (λk=>[i (U k),i (O k),.lst 2 (m k) (g k)])
def Qt2:Prop:= ∀k,k<N->UF 2 (m k) (g k)/\Qm8 (m k) (col 0 (g k)) (col 1 (g k))/\insB 0 (U k) (O k) 1000=true
end
def vB(N:Nat)(bf:Ci):Prop:=N<=6/\ ∃(U O:Cg) (m:Ch) (g:Nat->Ci),(∀k,k<N->bf k=[i (U k),i (O k),.lst 2 (m k) (g k)])/\Qt2 N U O m g
def Qi4:UX
 |[.agg [.lst 2 3 f,.x (.int .i64 er),.lst 3 N bf],.agg [.x (.int .i64 U),.x (.int .i64 O),.lst 2 m g]]=>some ([UF 2 m g,Qm8 m (col 0 g) (col 1 g),insB 0 U O 1000=true],bl true)
 |_=>none
theorem Ww3:VP VO 124 Qi4:=by
 refine ⟨(UJ Tryz.func124),?_⟩;intro avs ns res h I;unfold Qi4 at h;split at h;cases h;have hr:_:=I _ (GD);have hr1:_:=I _ (HL _ (GD));have hr2:_:=I _ (HL _ (HL _ (GD)));exact (Ww4 _ _ _ _ _ _ _ (col 0 _) (col 1 _) hr1.1 hr1.2.1 hr1.2.2 hr2).same (.cons (.refl _) (.cons (LX.same (.cons (.refl _) (.cons (.refl _) (.cons (.lst 2 _ _ _ hr) .nil)))) .nil));cases h
def mP:UX
 |[.agg [.x (.int .i64 U),.x (.int .i64 O),.lst 2 m g],.ro [.fn (.func 124) [.agg [.lst 2 3 f,.x (.int .i64 er),.lst 3 N bf]] []]]=>some ([UF 2 m g,Qm8 m (col 0 g) (col 1 g),insB 0 U O 1000=true],bl false)
 |_=>none
theorem Qt8(U O:Int)(m:Nat)(g:Ci)(f:Ci)(er:Int)(N:Nat)(bf:Ci)(VR:UF 2 m g)(UE:Qm8 m (col 0 g) (col 1 g))(HK:insB 0 U O 1000=true):VX VO 165 [.agg [i U,i O,.lst 2 m g],.ro [.fn (.func 124) [.agg [.lst 2 3 f,i er,.lst 3 N bf]] []]] (bl false):=by
 refine U1 (L:=[]) (Ae Ww3 Aa) VZ Tryz.func165 (UU Tryz.f165) U2 (t:=need [UF 2 m g,Qm8 m (col 0 g) (col 1 g),insB (0:Int) U O (1000:Int)=true] (leaf (RV.x (.bool !true)))) VU ?_;exact V1
theorem S0:VP VO 165 mP:=by
 refine ⟨(UJ Tryz.func165),?_⟩;intro avs ns res h I;unfold mP at h;split at h;cases h;exact Qt8 _ _ _ _ _ _ _ _ (I _ VT) (I _ VT) (I _ VT);cases h
abbrev XO(f:Ci)(er:Int)(N1:Nat)(bf:Ci):AV:=AV.fn (Fn.func 165) [] [AV.ro [AV.fn (Fn.func 124) [agg [WI f,iI er,lst 3 N1 λa=>bf a]] []]]
section
variable (N:Nat)
abbrev J9(U:Cg)(O:Cg)(m:Ch)(g:Nat->Ci):AV:=lst 3 N λk=>[iI (U k),iI (O k),lst 2 (m k) λa=>g k a]
def bM(U O:Cg)(m:Ch)(g:Nat->Ci)(f:Ci)(er:Int)(N1:Nat)(bf:Ci):St:={σ:=[J9 N U O m g,XO f er N1 bf]++HI 5 [iI (N:Int)]++HI 11 [],m:=[],nx:=4}
noncomputable def Ql4:Code:=U9 (VS (U7 Tryz.f198) 0)
def OC(U O:Cg)(m:Ch)(g:Nat->Ci)(f:Ci)(er:Int)(N1:Nat)(bf:Ci)(k:Nat):St:=(upM [(8,i k)] (bM N U O m g f er N1 bf))
def xD(U O:Cg)(m:Ch)(g:Nat->Ci)(f:Ci)(er:Int)(N1:Nat)(bf:Ci)(k:Nat):G5->Option St
 | .exit 0=>some (upM [] (bM N U O m g f er N1 bf))
 |_=>none
def Qg7(U O:Cg)(m:Ch)(g:Nat->Ci)(f:Ci)(er:Int)(N1:Nat)(bf:Ci):CT:= .leaf (.exit 0,(xD N U O m g f er N1 bf 0 (.exit 0)).getD (bM N U O m g f er N1 bf))
def mY(U O:Cg)(m:Ch)(g:Nat->Ci)(f:Ci)(er:Int)(N1:Nat)(bf:Ci):UG:=(HF (OC N U O m g f er N1 bf (0)) (Qg7 N U O m g f er N1 bf))
end
theorem VG{p:Prop}(h:p:=by
 (with_reducible repeat' first|apply Al|intro _)
 all_goals first|exact Ak|(rename_i E hE;cases hE;exact hQ)|omega|rfl|assumption):p:=h
section
variable (N:Nat)(U O:Cg)(m:Ch)(g:Nat->Ci)(f:Ci)(er:Int)(N1:Nat)(bf:Ci)
theorem Qw0(VR:N<=6)(UE:Qt2 N U O m g):G6 VO (.loop Ql4) (mY N U O m g f er N1 bf):=by
 refine HH (L:=[]) (Ae S0 Aa) VZ U2 (X:=Nat) (OC N U O m g f er N1 bf) (λk=>k<=N) (λk=>N-k) (xD N U O m g f er N1 bf) (x0:=0) VT ?_ ?_ ?_;rintro k;kernel_rfl;rintro k y E h;unfold xD at h;split at h;cases h;kernel_rfl;cases h;rintro Q hQ k hx;refine ⟨(k+1),?_⟩;(with_reducible refine D9 (t:=branch (decide ((k:Int)<(N:Int))) (need [UI k N] (need [UF 2 (m k) λa=>g k a,Qm8 (m k) (col 0 λa=>g k a) (col 1 λa=>g k a),insB (0:Int) (U k) (O k) (1000:Int)=true] (branch false VM.fail (need [VL ((k:Int)+1)] (need [VY (J9 N U O m g),VY (XO f er N1 bf),VY (N:Int),(k:Int)+1=(↑(k+1):Int)] (leaf G5.normal)))))) (need [VY (J9 N U O m g),VY (XO f er N1 bf),VY (N:Int)] (leaf (G5.exit 0)))) VU ?_)
 simp only [Qg7,xD,VM.sat,GS] at hQ;simp only [VM.sat,UB,UH,HA,VL,xD,F4]
 refine ⟨λh=>?_,λh=>?_⟩
 ·have hk:k<N:=VJ;obtain ⟨h1,h2,h3⟩:=UE k hk;all_goals exact V7
 obtain rfl:k=N:=VJ;exact VG
abbrev KL:Value:=Value.int IntKind.i64 (-1:Int)
theorem Xn5(VR:N<=6)(UE:Qt2 N U O m g):VX VO 198 [bgs N U O m g,.fn (.func 165) [] [.ro [.fn (.func 124) [.agg [.lst 2 3 f,i er,.lst 3 N1 bf]] []]]] (i (-1)):=by
 refine U1 (L:=[mY N U O m g f er N1 bf]) (Ae S0 Aa) VZ Tryz.func198 (UU Tryz.f198) (G7 (lpE (b:= .loop Ql4) VU<|Qw0 N U O m g f er N1 bf VR UE)) (t:=need [VY (J9 N U O m g),VY (XO f er N1 bf),VY (N:Int),(0:Int)=((0:Nat):Int)] (leaf (RV.x (KL)))) VU ?_
 exact V1
end
def Wy8:UX
 |[.lst 3 N b,.fn (.func 165) [] [.ro [.fn (.func 124) [.agg [.lst 2 3 f,.x (.int .i64 er),.lst 3 N1 bf]] []]]]=>some ([vB N b],i (-1))
 |_=>none
theorem Xn4:VP VO 198 Wy8:=by
 refine ⟨(UJ Tryz.func198),?_⟩;intro avs ns res h I;unfold Wy8 at h;split at h;cases h;obtain ⟨h0,U,O,m,g,he,hb⟩:vB _ _:=I _ GD;exact (Xn5 _ U O m g _ _ _ _ h0 hb).same (.cons (.lst 3 _ _ _ he) (.cons (.refl _) .nil));cases h
theorem Qz6{N:Nat}{U O:Cg}{m:Ch}{g:Nat->Ci}(h0:N<=6)(hb:Qt2 N U O m g):vB N (λk=>[i (U k),i (O k),.lst 2 (m k) (g k)]):=⟨h0,U,O,m,g,λ_ _=>rfl,hb⟩
theorem Xo4(N:Nat)(U O:Cg)(m:Ch)(g:Nat->Ci)(f:Ci)(er:Int)(N1:Nat)(bf:Ci)(VR:N<=6)(UE:Qt2 N U O m g):VX VO 164 [bgs N U O m g,.fn (.func 165) [] [.ro [.fn (.func 124) [.agg [.lst 2 3 f,i er,.lst 3 N1 bf]] []]]] (bl false):=by
 refine U1 (L:=[]) (Ae Xn4 Aa) VZ Tryz.func164 (UU Tryz.f164) U2 (t:=need [vB N λk=>[i (U k),i (O k),lst 2 (m k) (g k)]] (leaf (RV.x (.bool (decide ((-1:Int)>=(0:Int))))))) VU ?_;simp only [VM.sat,UB,G0,GL,UD,UH,F4];exact ⟨Qz6 VR UE,rfl⟩
def Wz2:UX
 |[.lst 3 N b,.fn (.func 165) [] [.ro [.fn (.func 124) [.agg [.lst 2 3 f,.x (.int .i64 er),.lst 3 N1 bf]] []]]]=>some ([vB N b],bl false)
 |_=>none
theorem Xo3:VP VO 164 Wz2:=by
 refine ⟨(UJ Tryz.func164),?_⟩;intro avs ns res h I;unfold Wz2 at h;split at h;cases h;obtain ⟨h0,U,O,m,g,he,hb⟩:vB _ _:=I _ GD;exact (Xo4 _ U O m g _ _ _ _ h0 hb).same (.cons (.lst 3 _ _ _ he) (.cons (.refl _) .nil));cases h
theorem Ww8(N:Nat)(U O:Cg)(m:Ch)(g:Nat->Ci)(f:Ci)(er:Int)(N1:Nat)(bf:Ci)(VR:N<=6)(UE:Qt2 N U O m g):VX VO 123 [bgs N U O m g,.fn (.func 124) [.agg [.lst 2 3 f,i er,.lst 3 N1 bf]] []] (bl true):=by
 refine U1 (L:=[]) (Ae Xo3 Aa) VZ Tryz.func123 (UU Tryz.f123) U2 (t:=need [vB N λk=>[i (U k),i (O k),lst 2 (m k) (g k)]] (leaf (RV.x (.bool !false)))) VU ?_;simp only [VM.sat,UB,G0,GL,UD,UH,F4];exact ⟨Qz6 VR UE,rfl⟩
def Qi6:UX
 |[.lst 3 N b,.fn (.func 124) [.agg [.lst 2 3 f,.x (.int .i64 er),.lst 3 N1 bf]] []]=>some ([vB N b],bl true)
 |_=>none
theorem Ww7:VP VO 123 Qi6:=by
 refine ⟨(UJ Tryz.func123),?_⟩;intro avs ns res h I;unfold Qi6 at h;split at h;cases h;obtain ⟨h0,U,O,m,g,he,hb⟩:vB _ _:=I _ GD;exact (Ww8 _ U O m g _ _ _ _ h0 hb).same (.cons (.lst 3 _ _ _ he) (.cons (.refl _) .nil));cases h
def oL(k:Nat):Int:=if k=0 then 0 else -9
def oH(k:Nat):Int:=if k=0 then 0 else 9
def ofB(f:Ci):Prop:= ∀k,k<3->f k=[i (oL k),i (oH k)]
abbrev ofs:AV:= .lst 2 3 (λk=>[i (oL k),i (oH k)])
def HD(m:Ch):Nat->Nat
 | 0=>0
 |b+1=>HD m b+m b
def GF(m:Ch):Nat->Nat->Nat×Nat
 | 0,q=>(0,q)
 |N+1,q=>if q<HD m N then GF m N q else (N,q-HD m N)
def Wd5(m:Ch)(N:Nat)(r v:Nat->Cg)(q:Nat):List Value:=
 [.agg #[.int .i64 (GF m N q).1,.int .i64 (GF m N q).2],.agg #[.int .i64 (r (GF m N q).1 (GF m N q).2),.int .i64 (v (GF m N q).1 (GF m N q).2)]]
abbrev bds(N:Nat)(U O:Cg)(m:Ch)(r v:Nat->Cg):AV:= .lst 3 N (λk=>[i (U k),i (O k),bts (m k) (r k) (v k)])
theorem aV{P:Program}{ro:Option Nat}{cx:Cx}{c:Code}{t:Nat}{F:Nat->UG}(h: ∀k,HN P ro cx c (F k)):HN P ro cx c (BC t F):=by
 intro n s tr ht Q hQ a w r;unfold BC at ht;split at ht;exact h _ n s tr ht Q hQ a w r;cases ht
theorem NW(m:Ch){b c:Nat}(h:b<=c):HD m b<=HD m c:=by
 induction h with
 |refl=>exact Am _
 |step _ ih=>exact Ar ih (Nat.le_add_right _ _)
theorem Qc3(m:Ch): ∀(N b n:Nat),b<N->n<m b->GF m N (HD m b+n)=(b,n)
 | 0,_,_,h,_=>VJ
 |N+1,b,n,h,I=>by
  unfold GF;rcases (show b<N\/b=N by omega) with hb|rfl
  have:=NW m (show b+1<=N by omega)
  simp only [HD] at this;rw [if_pos VJ,Qc3 m N b n hb I];rw [if_neg VJ];simp
theorem a6(m:Ch): ∀(N q:Nat),q<HD m N->(GF m N q).1<N/\(GF m N q).2<m (GF m N q).1
 | 0,_,h=>by simp [HD] at h
 |N+1,q,h=>by
  simp only [HD] at h;unfold GF;split;rename_i hq;obtain ⟨h1,h2⟩:=a6 m N q hq;exact ⟨VJ,h2⟩;exact ⟨VT,by simp;omega⟩
def mO:UX
 |[.agg [.x (.int .i64 a),.x (.int .i64 b)],.ro [.fn (.func 121) [] []]]=>some ([],bl (!insB (-100) a b 100))
 |_=>none
theorem Qt7(a b:Int):VX VO 162 [.agg [i a,i b],.ro [.fn (.func 121) [] []]] (bl (!insB (-100) a b 100)):=by
 refine U1 (L:=[]) (Ae sJ Aa) VZ Tryz.func162 (UU Tryz.f162) U2 (t:=leaf (RV.x (.bool !insB (-100:Int) a b (100:Int)))) VU ?_;exact V1
theorem OZ:VP VO 162 mO:=by
 refine ⟨(UJ Tryz.func162),?_⟩;intro avs ns res h I;unfold mO at h;split at h;cases h;exact Qt7 _ _;cases h
abbrev ZI:AV:=AV.fn (Fn.func 162) [] [AV.ro [AV.fn (Fn.func 121) [] []]]
def bL:St:={σ:=[lst 2 3 λk=>[iI (oL k),iI (oH k)],ZI]++HI 5 [iI ((3:Nat):Int)]++HI 11 [],m:=[],nx:=4}
noncomputable def Ql3:Code:=U9 (VS (U7 Tryz.f197) 0)
def OB(k:Nat):St:=(upM [(8,i k)] (bL))
def xC(k:Nat):G5->Option St
 | .exit 0=>some (upM [] (bL))
 |_=>none
def Qg6:CT:= .leaf (.exit 0,(xC 0 (.exit 0)).getD (bL))
def mX:UG:=(HF (OB (0)) (Qg6))
theorem Qv9:G6 VO (.loop Ql3) (mX):=by
 refine HH (L:=[]) (Ae OZ Aa) VZ U2 (X:=Nat) (OB) (λk=>k<=3) (λk=>3-k) (xC) (x0:=0) VT ?_ ?_ ?_;rintro k;kernel_rfl;rintro k y E h;unfold xC at h;split at h;cases h;kernel_rfl;cases h;rintro Q hQ k hx;refine ⟨(k+1),?_⟩;(with_reducible refine D9 (t:=branch (decide ((k:Int)<((3:Nat):Int))) (need [UI k 3] (branch (!insB (-100:Int) (oL k) (oH k) (100:Int)) VM.fail (need [VL ((k:Int)+1)] (need [VY (lst 2 3 λk=>[iI (oL k),iI (oH k)]),ZI=ZI,VY ((3:Nat):Int),(k:Int)+1=(↑(k+1):Int)] (leaf G5.normal))))) (need [VY (lst 2 3 λk=>[iI (oL k),iI (oH k)]),ZI=ZI,VY ((3:Nat):Int)] (leaf (G5.exit 0)))) VU ?_)
 simp only [Qg6,xC,VM.sat,GS] at hQ;simp only [VM.sat,UB,UH,HA,VL,xC,F4]
 refine ⟨λh=>?_,λh=>?_⟩
 ·have hk:k<3:=VJ;rcases (show k=0\/k=1\/k=2 by omega) with rfl|rfl|rfl<;>simp [oL,oH,insB,Bo.insB]
  all_goals exact V7
 obtain rfl:k=3:=VJ;exact VG
theorem Xn3:VX VO 197 [ofs,.fn (.func 162) [] [.ro [.fn (.func 121) [] []]]] (i (-1)):=by
 refine U1 (L:=[mX]) (Ae OZ Aa) VZ Tryz.func197 (UU Tryz.f197) (G7 (lpE (b:= .loop Ql3) VU<|Qv9)) (t:=need [VY (lst 2 3 λk=>[iI (oL k),iI (oH k)]),ZI=ZI,VY ((3:Nat):Int),(0:Int)=((0:Nat):Int)] (leaf (RV.x (KL)))) VU ?_
 exact V1
def Wy7:UX
 |[.lst 2 3 f,.fn (.func 162) [] [.ro [.fn (.func 121) [] []]]]=>some ([ofB f],i (-1))
 |_=>none
theorem Xn2:VP VO 197 Wy7:=by
 refine ⟨(UJ Tryz.func197),?_⟩;intro avs ns res h I;unfold Wy7 at h;split at h;cases h;have hr:_:=I _ (GD);exact (Xn3).same (.cons (.lst 2 3 _ _ hr) (.cons (.refl _) .nil));cases h
theorem Xo2:VX VO 161 [ofs,.fn (.func 162) [] [.ro [.fn (.func 121) [] []]]] (bl false):=by
 refine U1 (L:=[]) (Ae Xn2 Aa) VZ Tryz.func161 (UU Tryz.f161) U2 (t:=need [ofB λk=>[i (oL k),i (oH k)]] (leaf (RV.x (.bool (decide ((-1:Int)>=(0:Int))))))) VU ?_;simp only [VM.sat,UB,G0,GL,UD,UH,F4];exact ⟨λ_ _=>rfl,rfl⟩
def Wz1:UX
 |[.lst 2 3 f,.fn (.func 162) [] [.ro [.fn (.func 121) [] []]]]=>some ([ofB f],bl false)
 |_=>none
theorem Xo1:VP VO 161 Wz1:=by
 refine ⟨(UJ Tryz.func161),?_⟩;intro avs ns res h I;unfold Wz1 at h;split at h;cases h;have hr:_:=I _ (GD);exact (Xo2).same (.cons (.lst 2 3 _ _ hr) (.cons (.refl _) .nil));cases h
theorem Ww6:VX VO 120 [ofs,.fn (.func 121) [] []] (bl true):=by
 refine U1 (L:=[]) (Ae Xo1 Aa) VZ Tryz.func120 (UU Tryz.f120) U2 (t:=need [ofB λk=>[i (oL k),i (oH k)]] (leaf (RV.x (.bool !false)))) VU ?_;simp only [VM.sat,UB,G0,GL,UD,UH,F4];exact ⟨λ_ _=>rfl,rfl⟩
def Qi5:UX
 |[.lst 2 3 f,.fn (.func 121) [] []]=>some ([ofB f],bl true)
 |_=>none
theorem Ww5:VP VO 120 Qi5:=by
 refine ⟨(UJ Tryz.func120),?_⟩;intro avs ns res h I;unfold Qi5 at h;split at h;cases h;have hr:_:=I _ (GD);exact (Ww6).same (.cons (.lst 2 3 _ _ hr) (.cons (.refl _) .nil));cases h
def mQ:UX
 |[.agg [.lst 2 3 f,.x (.int .i64 1),.lst 3 N bf]]=>some ([ofB f,vB N bf],i 0)
 |_=>none
abbrev WC:Value:=Value.int IntKind.i64 (0:Int)
abbrev JY:Value:=Value.int IntKind.i64 (1:Int)
abbrev KN:Value:=Value.int IntKind.i64 (3:Int)
theorem Qu0(f:Ci)(N:Nat)(bf:Ci)(VR:ofB f)(UE:vB N bf):VX VO 78 [.agg [.lst 2 3 f,i 1,.lst 3 N bf]] (i 0):=by
 refine U1 (L:=[]) (Ae Ww5 (Ae Ww7 (Ae zW Aa))) VZ Tryz.func78 (UU Tryz.f78) U2 (t:=branch (decide (((3:Nat):Int)>6)) (leaf (RV.x (KN))) (branch (decide ((N:Int)>6)) (leaf (RV.x (KN))) (branch (((3:Nat):Int)==0) (leaf (RV.x (JY))) (need [ofB f] (branch (!true) (leaf (RV.x (JY))) (branch (!bt (0:Int) (1:Int) (20:Int)) (leaf (RV.x (JY))) (need [vB N bf] (branch (!true) (leaf (RV.x (JY))) (leaf (RV.x (WC))))))))))) VU ?_;simp only [VM.sat,UB,G0,GL,UD,UH,F4];have h6:=UE.1;simp [bt,Bo.bt,VR,UE];omega
theorem Qt9:VP VO 78 mQ:=by
 refine ⟨(UJ Tryz.func78),?_⟩;intro avs ns res h I;unfold mQ at h;split at h;cases h;exact Qu0 _ _ _ (I _ VT) (I _ VT);cases h
def ME:UX
 |[.agg [.lst 2 3 f,.x (.int .i64 er),.lst 3 N bf]]=>some ([],.fn (.func 168) [] [.ro [.lst 2 3 f,i er,.lst 3 N bf]])
 |_=>none
abbrev WA:Ext:={}
theorem Qt3(f:Ci)(er:Int)(N:Nat)(bf:Ci):FQ VO 125 [.agg [.lst 2 3 f,i er,.lst 3 N bf]] (.fn (.func 168) [] [.ro [.lst 2 3 f,i er,.lst 3 N bf]]):=by
 refine D5 (L:=[]) Aa Ad VZ Tryz.func125 (UU Tryz.f125) G8 (t:=leaf (AV.fn (Fn.func 168) [] [AV.ro [WI f,iI er,K6 N bf]])) VU ?_;exact rfl
theorem IX:PI VO 125 ME:=by
 refine ⟨(UJ Tryz.func125),?_⟩;intro avs ns res h I;unfold ME at h;split at h;cases h;exact Qt3 _ _ _ _;cases h
abbrev Q1(N:Nat)(U:Cg)(O:Cg)(m:Ch)(r:Nat->Cg)(v:Nat->Cg):AV:=lst 3 N λk=>[iI (U k),iI (O k),lst 2 (m k) λj=>[iI (r k j),iI (v k j)]]
section
variable (l:Nat)(f:Ci)(er:Int)(N:Nat)(U O:Cg)(m:Ch)(r v:Nat->Cg)
def nJ:St:={σ:=[AV.fn (Fn.yield l) [] [],AV.ro [WI f,iI er,Q1 N U O m r v]]++HI 6 [Q1 N U O m r v,iI (N:Int)]++HI 22 [],m:=[],nx:=4,gh:=some 0}
noncomputable def nL:Code:=U9 (VS (U7 Tryz.f168) 0)
def AD(b:Nat):St:={σ:=GY [(3,.top),(4,.top),(5,.top),(6,.top),(10,i b)] (nJ l f er N U O m r v).σ,m:=[],nx:=0,gh:=some (HD m b) }
def qZ(b:Nat):G5->Option St
 | .exit 0=>some {σ:=GY [(3,.top),(4,.top),(5,.top),(6,.top),(10,i N)] (nJ l f er N U O m r v).σ,m:=[],nx:=0,gh:=some (HD m N) }
 | .ret=>some {σ:=GY [(3,.top),(4,.top),(5,.top),(6,.top)] (nJ l f er N U O m r v).σ,m:=[],nx:=0,gh:=none}
 |_=>none
def Xw6:CT:= .may True (.leaf (.exit 0,(qZ l f er N U O m r v 0 (.exit 0)).getD (nJ l f er N U O m r v))) (.leaf (.ret,(qZ l f er N U O m r v 0 .ret).getD (nJ l f er N U O m r v)))
def Xb7:UG:=GJ [] (HF (AD l f er N U O m r v (0)) (Xw6 l f er N U O m r v))
end
abbrev JW(m:Ch)(b:Nat)(r:Nat->Cg)(v:Nat->Cg):AV:=lst 2 (m b) λj=>[iI (r b j),iI (v b j)]
section
variable (l:Nat)(f:Ci)(er:Int)(N:Nat)(U O:Cg)(m:Ch)(r v:Nat->Cg)(b:Nat)
def nK:St:={σ:=[AV.fn (Fn.yield l) [] [],AV.ro [WI f,iI er,Q1 N U O m r v],top,iI (b:Int),ptr 4 0,top,top,top,Q1 N U O m r v,iI (N:Int),iI (b:Int)]++HI 5 [JW m b r v,iI (m b:Int)]++HI 14 [],m:=[(4,GO.cells 148 [iI (U b),iI (O b),JW m b r v])],nx:=11,gh:=some (HD m b) }
noncomputable def Xe6:Code:=U9 (VS nL 0)
def AE(n:Nat):St:={σ:=GY [(4,.top),(5,.top),(6,.top),(18,i n)] (nK l f er N U O m r v b).σ,m:=[],nx:=0,gh:=some (HD m b+n) }
def w5(n:Nat):G5->Option St
 | .exit 2=>some {σ:=GY [(3,.top),(4,.top),(5,.top),(6,.top),(18,i (m b))] (nK l f er N U O m r v b).σ,m:=[],nx:=0,gh:=some (HD m (b+1)) }
 | .ret=>some {σ:=GY [(3,.top),(4,.top),(5,.top),(6,.top)] (nK l f er N U O m r v b).σ,m:=[],nx:=0,gh:=none}
 |_=>none
def Xw7:CT:= .may True (.leaf (.exit 2,(w5 l f er N U O m r v b 0 (.exit 2)).getD (nK l f er N U O m r v b))) (.leaf (.ret,(w5 l f er N U O m r v b 0 .ret).getD (nK l f er N U O m r v b)))
def tF:UG:=GJ [] (HF (AE l f er N U O m r v b (0)) (Xw7 l f er N U O m r v b))
end
abbrev WW(N:Nat)(U:Cg)(O:Cg)(m:Ch)(r:Nat->Cg)(v:Nat->Cg):Prop:=(Q1 N U O m r v)=Q1 N U O m r v
abbrev XK(l:Nat):Prop:=AV.fn (Fn.yield l) [] []=AV.fn (Fn.yield l) [] []
abbrev J6(f:Ci)(er:Int)(N:Nat)(U:Cg)(O:Cg)(m:Ch)(r:Nat->Cg)(v:Nat->Cg):Prop:=AV.ro [WI f,iI er,Q1 N U O m r v]=AV.ro [WI f,iI er,Q1 N U O m r v]
section
variable (l:Nat)(f:Ci)(er:Int)(N:Nat)(U O:Cg)(m:Ch)(r v:Nat->Cg)
theorem Zk1(b:Nat)(VR:N<=1000)(UE: ∀b,b<N->m b<=1000)(HK:b<N){cx:Cx}(hX:VW VO {Y:=some (l,(HD m N),(Wd5 m N r v)) } cx):HN VO none cx (.loop Xe6) (tF l f er N U O m r v b):=by
 refine FM [] (L:=[]) Aa hX VZ G8 (V:=Nat) (AE l f er N U O m r v b) (λn=>n<=m b) (λn=>m b-n) (w5 l f er N U O m r v b) (x0:=0) VT ?_ ?_ ?_;rintro n;kernel_rfl;rintro n y E h;unfold w5 at h;split at h;cases h;kernel_rfl;cases h;kernel_rfl;cases h;rintro Q hQ n hx;refine ⟨(n+1),?_⟩;have e:HY VO [] {Y:=some (l,(HD m N),(Wd5 m N r v)) } [] [] Xe6 (AE l f er N U O m r v b n) (AE l f er N U O m r v b ((n+1))) (w5 l f er N U O m r v b n)=(let z0:=(GF m N (HD m b+n));(branch (decide ((n:Int)<(m b:Int))) (need [UI n (m b:Int)] (need [l=l,HD m b+n<HD m N,[Value.agg {toList:=[Value.int IntKind.i64 (b:Int),Value.int IntKind.i64 (n:Int)] },Value.agg {toList:=[Value.int IntKind.i64 (r b n),Value.int IntKind.i64 (v b n)] }]=[Value.agg {toList:=[Value.int IntKind.i64 (↑(Prod.fst z0):Int),Value.int IntKind.i64 (↑(Prod.snd z0):Int)] },Value.agg {toList:=[Value.int IntKind.i64 (r (Prod.fst z0) (Prod.snd z0)),Value.int IntKind.i64 (v (Prod.fst z0) (Prod.snd z0))] }]] (VM.may True (need [VL ((n:Int)+1)] (need [XK l,J6 f er N U O m r v,VY (b:Int),WW N U O m r v,VY (N:Int),VY (b:Int),VY (JW m b r v),VY (m b:Int),(n:Int)+1=(↑(n+1):Int),HD m b+n+1=HD m b+(n+1)] (leaf G5.normal))) (need [XK l,J6 f er N U O m r v,WW N U O m r v,VY (N:Int),VY (b:Int),VY (JW m b r v),VY (m b:Int)] (leaf G5.ret))))) (need [XK l,J6 f er N U O m r v,WW N U O m r v,VY (N:Int),VY (b:Int),VY (JW m b r v),VY (m b:Int),(n:Int)=(m b:Int),HD m b+n=HD m (b+1)] (leaf (G5.exit 2))))):=VU;rw [e];simp only [Xw7,w5,VM.sat,GS] at hQ;have hQ1: ∀E,w5 l f er N U O m r v b n (.exit 2)=some E->Q (.exit 2,E):=λE hE=>by cases hE;exact hQ.1 trivial
 have hQ2: ∀E,w5 l f er N U O m r v b n .ret=some E->Q (.ret,E):=λE hE=>by cases hE;exact hQ.2
 simp only [VM.sat,UB,UH,HA,VL,F4];clear e hQ;have h3:=UE b HK;refine ⟨λh=>?_,λh=>?_⟩
 ·have hk:n<m b:=VJ;have h1:=NW m (show b+1<=N by omega)
  simp only [HD] at h1;rw [Qc3 m N b n HK hk];all_goals exact V7
 ·obtain rfl:n=m b:=VJ;all_goals exact V7
theorem Zk0(VR:N<=1000)(UE: ∀b,b<N->m b<=1000){cx:Cx}(hX:VW VO {Y:=some (l,(HD m N),(Wd5 m N r v)) } cx):HN VO none cx (.loop nL) (Xb7 l f er N U O m r v):=by
 refine FM [] (L:=[BC 10 (λb=>F2 [b<N] (tF l f er N U O m r v b))]) Aa hX VZ (G7 (λcj hcj=>by
  have e:VS nL 0=some (.loop Xe6):=VU;rw [e] at hcj;cases hcj;exact aV (λb=>wP (λh=>Zk1 l f er N U O m r v b VR UE h hX)))) (V:=Nat) (AD l f er N U O m r v) (λb=>b<=N) (λb=>N-b) (qZ l f er N U O m r v) (x0:=0) VT ?_ ?_ ?_
 rintro b;kernel_rfl;rintro b y E h;unfold qZ at h;split at h;cases h;kernel_rfl;cases h;kernel_rfl;cases h;rintro Q hQ b hx;refine ⟨(b+1),?_⟩;have e:HY VO [] {Y:=some (l,(HD m N),(Wd5 m N r v)) } [BC 10 (λb=>F2 [b<N] (tF l f er N U O m r v b))] [] nL (AD l f er N U O m r v b) (AD l f er N U O m r v ((b+1))) (qZ l f er N U O m r v b)=(let z0:=J6 f er N U O m r v;(branch (decide ((b:Int)<(N:Int))) (need [UI b N] (need [b<N] (need [XK l,z0,VY (b:Int),WW N U O m r v,VY (N:Int),VY (b:Int),VY (lst 2 (m b) λj=>[iI (r b j),iI (v b j)]),VY (m b:Int),(0:Int)=((0:Nat):Int),HD m b=HD m b+0] (VM.may True (need [VL ((b:Int)+1)] (need [XK l,z0,WW N U O m r v,VY (N:Int),(b:Int)+1=(↑(b+1):Int),VY (HD m (b+1))] (leaf G5.normal))) (need [XK l,z0,WW N U O m r v,VY (N:Int)] (leaf G5.ret)))))) (need [XK l,z0,WW N U O m r v,VY (N:Int),(b:Int)=(N:Int),HD m b=HD m N] (leaf (G5.exit 0))))):=VU;rw [e];simp only [Xw6,qZ,VM.sat,GS] at hQ;have hQ1: ∀E,qZ l f er N U O m r v b (.exit 0)=some E->Q (.exit 0,E):=λE hE=>by cases hE;exact hQ.1 trivial
 have hQ2: ∀E,qZ l f er N U O m r v b .ret=some E->Q (.ret,E):=λE hE=>by cases hE;exact hQ.2
 simp only [VM.sat,UB,UH,HA,VL,F4];clear e hQ;refine ⟨λh=>?_,λh=>?_⟩
 ·have h3:=UE b VJ;all_goals exact V7
 ·obtain rfl:b=N:=VJ;all_goals exact V7
end
theorem lZ(f:Ci)(er:Int)(N:Nat)(U O:Cg)(m:Ch)(r v:Nat->Cg)(VR:N<=1000)(UE: ∀b,b<N->m b<=1000):BE Tryz.prog 168 [.ro [.lst 2 3 f,i er,bds N U O m r v]] ((HD m N)) (Wd5 m N r v):=by
 refine BN (L:=λl=>[Xb7 l f er N U O m r v]) Aa VZ (UJ Tryz.func168) Tryz.func168 (UU Tryz.f168) VU (λl cx hX=>G7 (lpE (b:= .loop nL) VU<|Zk0 l f er N U O m r v VR UE hX)) (t:=λl=>(need [VY (AV.fn (Fn.yield l) [] []),J6 f er N U O m r v,WW N U O m r v,VY (N:Int),(0:Int)=((0:Nat):Int),0=HD m 0] (VM.may True (need [VY (HD m N)] (leaf PUnit.unit)) (leaf PUnit.unit)))) (λl=>VU) ?_
 intro l;simp only [VM.sat,UB,G0,GL,UD,VL,UH,HA,FU];all_goals exact V7
def plF(m:Ch)(N:Nat)(q:Nat):List AV:=[i (GF m N q).1,i (GF m N q).2]
theorem TQ(m:Ch){K:Nat}: ∀(N:Nat),(∀b,b<N->m b<=K)->HD m N<=N*K
 | 0,_=>by simp [HD]
 |N+1,h=>by
  have:=TQ m N (λb hb=>h b VJ);have:=h N VJ;simp only [HD,Bq];omega
abbrev QD:AV:=AV.x (.pointer none)
def Jt2(f:Ci)(er:Int)(N:Nat)(U O:Cg)(m:Ch)(r v:Nat->Cg):St:={σ:=[agg [WI f,iI er,Q1 N U O m r v],ptr 0 0,QD,ptr 6 0]++HI 6 [AV.fn (Fn.func 168) [] [AV.ro [WI f,iI er,Q1 N U O m r v]]]++HI 13 [],m:=[(901,GO.row 241 2 0 λx=>[]),(6,GO.cells 178 [ptr 5 0]),(5,GO.cells 236 [WI f,iI er,Q1 N U O m r v,AV.row 901,AV.mp 3]),(3,GO.memo (λx=>False) λv=>v),(0,GO.cells 59 [WI f,iI er,Q1 N U O m r v])],nx:=902}
def rfF:Option Code->Operand
 |some (.rangeFunc f _ _ _)=>f
 |_=> .const .nilFunc
def jP:Option Code->Array Nat
 |some (.rangeFunc _ ps _ _)=>ps
 |_=>#[]
def T4:Option Code->Code
 |some (.rangeFunc _ _ a _)=>a
 |_=> .skip
def T3:Option Code->Code
 |some (.rangeFunc _ _ _ b)=>b
 |_=> .skip
noncomputable def Jx4:Code:=T4 (VS (U7 Tryz.f79) 0)
noncomputable def Jt8:Code:=T3 (VS (U7 Tryz.f79) 0)
section
variable (f:Ci)(er:Int)(N:Nat)(U O:Cg)(m:Ch)(r v:Nat->Cg)
def pC(k:Nat):St:={σ:=GY [] (Jt2 f er N U O m r v).σ,m:=[(901,.row 241 2 (k) (plF m N)),(6,.cells 178 [.ptr 5 0]),(5,.cells 236 [.lst 2 3 f,i er,bds N U O m r v,.row 901,.mp 3]),(3,.memo (λ_=>False) (λx=>x)),(0,.cells 59 [.lst 2 3 f,i er,bds N U O m r v])],nx:=902}
def oG(k:Nat):G5->Option St
 | .normal=>some {σ:=GY [] (Jt2 f er N U O m r v).σ,m:=[(901,.row 241 2 ((HD m N)) (plF m N)),(6,.cells 178 [.ptr 5 0]),(5,.cells 236 [.lst 2 3 f,i er,bds N U O m r v,.row 901,.mp 3]),(3,.memo (λ_=>False) (λx=>x)),(0,.cells 59 [.lst 2 3 f,i er,bds N U O m r v])],nx:=902}
 |_=>none
def T_wr:CT:= .leaf (.normal,pC f er N U O m r v (HD m N))
def Xx8:UG:=GJ [(.cell 5 3,901,241,2)] (HF (pC f er N U O m r v (0)) (T_wr f er N U O m r v))
abbrev W2:Prop:=AV.row 901=AV.row 901
abbrev ZR:Prop:=ptr 5 0=ptr 5 0
abbrev YQ:Prop:=ptr 6 0=ptr 6 0
abbrev YV:Ext:={R:=[(125,ME)],H:=[] }
theorem Zy0(VR:N<=1000)(UE: ∀b,b<N->m b<=1000):HT VO (.rangeFunc (rfF (VS (U7 Tryz.f79) 0)) (jP (VS (U7 Tryz.f79) 0)) Jx4 Jt8) (Xx8 f er N U O m r v):=by
 refine PA [(.cell 5 3,901,241,2)] (L:=[]) Aa (Ai (Af IX Ab) Ac) VZ U2 (V:=Nat) (pC f er N U O m r v) (λk=>k<=(HD m N)) (λk=>k) (oG f er N U O m r v) (x0:=0) VT rfl ?_ ?_ ?_ ?_ (g:=168) (caps:=[.ro [.lst 2 3 f,i er,bds N U O m r v]]) VU VU (lZ f er N U O m r v VR UE) (λ_=>rfl) ?_;rintro k;kernel_rfl;rintro k y E h;unfold oG at h;split at h;cases h;kernel_rfl;cases h;rintro k;rfl;rintro k y E h;unfold oG at h;split at h;cases h;rfl;cases h
 ·rintro Q hQ k hx;refine ⟨λhlt=>⟨(k+1),rfl,?_⟩,λPL=>?_⟩
  ·(with_reducible refine D9 (t:=need [(k+1)*16<=140737488355328,RP 1 (U4 2 [iI (↑(Prod.fst (GF m N k)):Int),iI (↑(Prod.snd (GF m N k)):Int)])] (need [VY (agg [WI f,iI er,Q1 N U O m r v]),QO,QD=QD,YQ,VY (AV.fn (Fn.func 168) [] [AV.ro [WI f,iI er,Q1 N U O m r v]]),k+1=k+1,GV (k+1) (GI k (plF m N) (U4 2 [iI (↑(Prod.fst (GF m N k)):Int),iI (↑(Prod.snd (GF m N k)):Int)])) (plF m N),ZR,WI f=WI f,er=er,WW N U O m r v,W2,VY (AV.mp 3),∀(k:Value),False->False/\k=k,WI f=WI f,er=er,WW N U O m r v] (leaf G5.normal))) VU ?_);have hb:=TQ m N UE;have hb2:=BJ 1000 VR;simp only [VM.sat,UB,UH]
   (with_reducible repeat' first|apply Al|intro _)
   all_goals first|exact Ak|rfl|omega|exact FC (by assumption) (by simp [AV.one,Value.oneCell'])|exact Zr5 rfl rfl (by assumption)|contradiction
  subst PL;exact hQ
end
abbrev Q2(m:Ch)(N:Nat):AV:=lst 2 (HD m N) λq=>[iI (↑(Prod.fst (GF m N q)):Int),iI (↑(Prod.snd (GF m N q)):Int)]
theorem Wv3(f:Ci)(er:Int)(N:Nat)(U O:Cg)(m:Ch)(r v:Nat->Cg)(VR:N<=1000)(UE: ∀b,b<N->m b<=1000):FQ VO 79 [.agg [.lst 2 3 f,i er,bds N U O m r v]] (.ro [.lst 2 3 f,i er,bds N U O m r v,.lst 2 (HD m N) (plF m N),.top]):=by
 refine D5 (L:=[Xx8 f er N U O m r v]) Aa (Ai (Af IX Ab) Ac) VZ Tryz.func79 (UU Tryz.f79) (G7 (lpE (b:= .rangeFunc (rfF (VS (U7 Tryz.f79) 0)) (jP (VS (U7 Tryz.f79) 0)) Jx4 Jt8) VU<|Zy0 f er N U O m r v VR UE)) (t:=need [VY (agg [WI f,iI er,Q1 N U O m r v]),QO,QD=QD,YQ,VY (AV.fn (Fn.func 168) [] [AV.ro [WI f,iI er,Q1 N U O m r v]]),0=0,GV 0 (λi=>[]) (plF m N),ZR,WI f=WI f,er=er,WW N U O m r v,W2,VY (AV.mp 3),∀(k:Value),False->False/\k=k,WI f=WI f,er=er,WW N U O m r v] (leaf (AV.ro [WI f,iI er,Q1 N U O m r v,Q2 m N,top]))) VU ?_
 simp only [VM.sat,UB,G0,GL,UD,VL,UH,HA,FU];all_goals exact V7
noncomputable def Qk7:D2:=A2 Tryz.prog [(128,kQ)] {} [] Tryz.f126 (U7 Tryz.f126)
theorem RM:GB VO 126 Qk7:=
 RL (G:=[(128,kQ)]) (X:=WA) (L:=[]) (Ae RA Aa) Ad VZ (UJ Tryz.func126) Tryz.func126 (UU Tryz.f126) U2
def UZ(M:Nat->Cg)(k:Nat):Int:=M (k / 13) (k%13)
def LV(k j:Nat):Nat->Cg:=λx y=>if ((x<k/\y<=12)\/(x=k/\y<j))/\x≠y then 8000 else 0
def spn(M:Nat->Cg)(a b:Nat)(U O:Int):Nat->Cg:=bnd (bnd M a b O) b a (-U)
def ofM:Nat->Nat->Nat->Int
 | 0=>LV 13 0
 |k+1=>spn (ofM k) 0 (1+k) (-oH k) (-oL k)
def btM(U O:Cg):Nat->Nat->Nat->Int
 | 0=>ofM 3
 |k+1=>spn (btM U O k) 0 (7+k) (U k) (O k)
def rdM1(N:Nat)(m:Ch)(r v:Nat->Cg)(M:Nat->Cg)(q:Nat):Nat->Cg:=
 spn M (1+(r (GF m N q).1 (GF m N q).2).toNat) (7+(GF m N q).1) (v (GF m N q).1 (GF m N q).2-1) (v (GF m N q).1 (GF m N q).2+1)
def rS(N:Nat)(U O:Cg)(m:Ch)(r v:Nat->Cg):Nat->Nat->Nat->Int
 | 0=>btM U O N
 |q+1=>rdM1 N m r v (rS N U O m r v q) q
def bOK(N:Nat)(U O:Cg)(m:Ch)(r v:Nat->Cg):Prop:=N<=6/\ ∀b,b<N->m b<=10/\0<=U b/\U b<=O b/\O b<=1000/\ ∀j,j<m b->0<=r b j/\r b j<=2/\ -1000<=v b j/\v b j<=2000
theorem Xm2: ∀k,UA (List.replicate 169 0) k=UZ (LV 0 0) k:=by
 intro k;rw [d6 (by decide)]
 simp [UZ,LV]
theorem yB(M:Nat->Cg){a b q:Nat}(hq:q=a*13+b)(hb:b<13):UZ M q=M a b:=by
 unfold UZ;rw [show q / 13=a by omega,show q%13=b by omega]
theorem fB{M M':Nat->Cg}(h: ∀x y,x<13->y<13->M x y=M' x y){k:Nat}(hk:k<169):UZ M k=UZ M' k:=h _ _ VJ VJ
theorem Qe4(M:Nat->Cg){a b q:Nat}(hq:q=a*13+b)(hb:b<13)(v:Int):US q v (UZ M)=UZ (wZ M a b v):=by
 funext k;unfold US UZ wZ;by_cases hk:k=q;rw [if_pos hk,if_pos VJ];rw [if_neg hk,if_neg VJ]
theorem zT{M:Nat->Cg}{a b q:Nat}{v:Int}(hq:q=a*13+b)(hb:b<13):US q (min (UZ M q) v) (UZ M)=UZ (bnd M a b v):=by
 rw [yB M hq hb,Qe4 M hq hb];rfl
theorem Qp5(k j:Nat)(hj:j<=12)(h:k≠j)(x y:Nat):wZ (LV k j) k j 8000 x y=LV k (j+1) x y:=by
 unfold wZ LV;split;rename_i hxy;rw [if_pos ⟨.inr VJ,VJ⟩];rename_i hxy;by_cases h1:((x<k/\y<=12)\/(x=k/\y<j))/\x≠y;rw [if_pos h1,if_pos VJ];rw [if_neg h1,if_neg VJ]
theorem Qp6(k:Nat)(x y:Nat):LV k k x y=LV k (k+1) x y:=by
 unfold LV;by_cases h1:((x<k/\y<=12)\/(x=k/\y<k))/\x≠y;rw [if_pos h1,if_pos VJ];rw [if_neg h1,if_neg VJ]
theorem Wn6(k:Nat)(x y:Nat):LV k 13 x y=LV (k+1) 0 x y:=by
 unfold LV;by_cases h1:((x<k/\y<=12)\/(x=k/\y<13))/\x≠y;rw [if_pos h1,if_pos VJ];rw [if_neg h1,if_neg VJ]
abbrev QC:List AV:=[AV.x (.int IntKind.u64 (0:Int))]
abbrev QK:List Int:=([(0:Int)]++bS 168)
abbrev KZ:GO:=GO.cells 183 QC
section
variable (N:Nat)(U O:Cg)(m:Ch)(r v:Nat->Cg)
def Zw4:St:={σ:=[AV.ro [lst 2 3 λk=>[iI (oL k),iI (oH k)],iI 1,Q1 N U O m r v,Q2 m N,top],agg QC,top,ptr 0 0,QD,AV.lit false,ptr 4 0]++HI 184 [],m:=[(4,GO.ints 244 [] 169 λa=>UA QK a),(0,KZ)],nx:=7}
noncomputable def Zx5:Code:=U9 (VS (U7 Tryz.f80) 0)
def Wm7(k:Nat):St:=(upE [(22,i k)] [(4,.ints 244 [] 169 (UZ (LV k 0))),(0,.cells 183 [.x (.int .u64 0)])] (Zw4 N U O m r v))
def EB(k:Nat):G5->Option St
 | .exit 0=>some (upE [(22,i 13)] [(4,.ints 244 [] 169 (UZ (LV 13 0))),(0,.cells 183 [.x (.int .u64 0)])] (Zw4 N U O m r v))
 |_=>none
def Js5:CT:= .leaf (.exit 0,(EB N U O m r v 0 (.exit 0)).getD (Zw4 N U O m r v))
def Zb9:UG:=GJ [] (HF (Wm7 N U O m r v (0)) (Js5 N U O m r v))
def Zw3(k:Nat):St:={σ:=[AV.ro [lst 2 3 λk=>[iI (oL k),iI (oH k)],iI 1,Q1 N U O m r v,Q2 m N,top],agg QC,top,ptr 0 0,QD,AV.lit false,ptr 4 0,iI (k:Int)]++HI 14 [iI (k:Int)]++HI 168 [],m:=[(4,GO.ints 244 [] 169 λk_1=>UZ (LV k 0) k_1),(0,KZ)],nx:=11}
noncomputable def Jw8:Code:=(U9 (VS (U9 (VS (U7 Tryz.f80) 0)) 0))
def Wm6(k:Nat)(j:Nat):St:=(upE [(25,i j)] [(4,.ints 244 [] 169 (UZ (LV k j))),(0,.cells 183 [.x (.int .u64 0)])] (Zw3 N U O m r v k))
def EA(k:Nat)(j:Nat):G5->Option St
 | .exit 2=>some (upE [(25,i 13)] [(4,.ints 244 [] 169 (UZ (LV k 13))),(0,.cells 183 [.x (.int .u64 0)])] (Zw3 N U O m r v k))
 |_=>none
def Js4(k:Nat):CT:= .leaf (.exit 2,(EA N U O m r v k 0 (.exit 2)).getD (Zw3 N U O m r v k))
def Zb8(k:Nat):UG:=GJ [] (HF (Wm6 N U O m r v k (0)) (Js4 N U O m r v k))
abbrev QN:Prop:=(0:Int)=0
abbrev W7:Prop:=ptr 4 0=ptr 4 0
abbrev WL:Prop:=AV.lit false=AV.lit false
abbrev WM:List (Nat×UX):=[(54,bF),(127,bG),(128,kQ)]
noncomputable abbrev X4:Ext:={R:=[],H:=[(126,Qk7)] }
theorem Jm3(k:Nat)(VR:k<=12):G6 VO (.loop Jw8) (Zb8 N U O m r v k):=by
 refine UR [] (L:=[]) (Ae RI (Ae LW (Ae RA Aa))) (Ai Ab (Ag RM Ac)) VZ U2 (X:=Nat) (Wm6 N U O m r v k) (λj=>j<=13) (λj=>13-j) (EA N U O m r v k) (x0:=0) VT ?_ ?_ ?_;rintro j;kernel_rfl;rintro j y E h;unfold EA at h;split at h;cases h;kernel_rfl;cases h;rintro Q hQ j hx;refine ⟨(j+1),?_⟩;(with_reducible refine D9 (t:=let z0:=(VY (AV.ro [lst 2 3 λk=>[iI (oL k),iI (oH k)],iI 1,Q1 N U O m r v,Q2 m N,top]));(branch (decide ((j:Int)<13)) (branch ((k:Int) != (j:Int)) (need [UI k 13] (need [UI j 13] (need [j*1+(k*13+0)+1<=169] (need [VL ((j:Int)+1)] (need [z0,VY (agg QC),QO,QD=QD,WL,W7,VY (k:Int),VY (k:Int),(j:Int)+1=(↑(j+1):Int),169=169,GV 169 (US (j*1+(k*13+0)) (8000:Int) (UZ (LV k j))) (UZ (LV k (j+1))),QN] (leaf G5.normal)))))) (need [VL ((j:Int)+1)] (need [z0,VY (agg QC),QO,QD=QD,WL,W7,VY (k:Int),VY (k:Int),(j:Int)+1=(↑(j+1):Int),169=169,GV 169 (UZ (LV k j)) (UZ (LV k (j+1))),QN] (leaf G5.normal)))) (need [z0,VY (agg QC),QO,QD=QD,WL,W7,VY (k:Int),VY (k:Int),(j:Int)=13,169=169,GV 169 (UZ (LV k j)) (UZ (LV k 13)),QN] (leaf (G5.exit 2))))) VU ?_)
 simp only [Js4,EA,VM.sat,GS] at hQ;simp only [VM.sat,UB,G0,GL,UD,VL,UH,HA,FU,R9,RQ,GN,EA]
 refine ⟨λh=>⟨λhne=>?_,λheq=>?_⟩,λh=>?_⟩
 ·have h3: ∀M w,US (j*1+(k*13+0)) w (UZ M)=UZ (wZ M k j w):=λM w=>Qe4 M VJ VJ w;simp only [h3]
  (with_reducible repeat' first|apply Al|intro _)
  all_goals first|exact PO|(exact fB (λx y _ _=>Qp5 k j VJ VJ x y) (by assumption))
 ·obtain rfl:k=j:=VJ
  (with_reducible repeat' first|apply Al|intro _)
  all_goals first|exact PO|(exact fB (λx y _ _=>Qp6 k x y) (by assumption))
 obtain rfl:j=13:=VJ;exact V0
theorem Jm4:G6 VO (.loop Zx5) (Zb9 N U O m r v):=by
 refine UR [] (L:=[BC 22 (λk=>F2 [k<=12] (Zb8 N U O m r v k))]) (Ae RI (Ae LW (Ae RA Aa))) (Ai Ab (Ag RM Ac)) VZ (G7 (λcj hcj=>by
  have e:VS Zx5 0=some (.loop Jw8):=VU;rw [e] at hcj;cases hcj;exact L5 (λk=>HJ (λh=>Jm3 N U O m r v k h)))) (X:=Nat) (Wm7 N U O m r v) (λk=>k<=13) (λk=>13-k) (EB N U O m r v) (x0:=0) VT ?_ ?_ ?_
 rintro k;kernel_rfl;rintro k y E h;unfold EB at h;split at h;cases h;kernel_rfl;cases h;rintro Q hQ k hx;refine ⟨(k+1),?_⟩;(with_reducible refine D9 (t:=let z0:=(VY (AV.ro [lst 2 3 λk=>[iI (oL k),iI (oH k)],iI 1,Q1 N U O m r v,Q2 m N,top]));(branch (decide ((k:Int)<13)) (need [k<=12] (need [z0,VY (agg QC),QO,QD=QD,WL,W7,VY (k:Int),VY (k:Int),(0:Int)=((0:Nat):Int),169=169,GQ 169 (UZ (LV k 0)),QN] (need [VL ((k:Int)+1)] (need [z0,VY (agg QC),QO,QD=QD,WL,W7,(k:Int)+1=(↑(k+1):Int),169=169,GV 169 (UZ (LV k 13)) (UZ (LV (k+1) 0)),QN] (leaf G5.normal))))) (need [z0,VY (agg QC),QO,QD=QD,WL,W7,(k:Int)=13,169=169,GV 169 (UZ (LV k 0)) (UZ (LV 13 0)),QN] (leaf (G5.exit 0))))) VU ?_)
 simp only [Js5,EB,VM.sat,GS] at hQ;simp only [VM.sat,UB,G0,GL,UD,VL,UH,HA,FU,R9,RQ,GN,EB]
 refine ⟨λh=>?_,λh=>?_⟩
 ·(with_reducible repeat' first|apply Al|intro _)
  all_goals first|exact PO|(exact fB (λx y _ _=>Wn6 k x y) (by assumption))
 obtain rfl:k=13:=VJ;exact V0
def Zw2:St:={σ:=[AV.ro [lst 2 3 λk=>[iI (oL k),iI (oH k)],iI 1,Q1 N U O m r v,Q2 m N,top],agg QC,top,ptr 0 0,QD,AV.lit false,ptr 4 0]++HI 15 [iI 13]++HI 20 [lst 2 3 λk=>[iI (oL k),iI (oH k)],iI ((3:Nat):Int)]++HI 146 [],m:=[(4,GO.ints 244 [] 169 λk=>UZ (LV 13 0) k),(0,KZ)],nx:=14}
noncomputable def Jw7:Code:=U9 (VS (U7 Tryz.f80) 1)
def Wm5(k:Nat):St:=(upE [(45,i k)] [(4,.ints 244 [] 169 (UZ (ofM k))),(0,.cells 183 [.x (.int .u64 0)])] (Zw2 N U O m r v))
def E9(k:Nat):G5->Option St
 | .exit 4=>some (upE [(45,i 3)] [(4,.ints 244 [] 169 (UZ (ofM 3))),(0,.cells 183 [.x (.int .u64 0)])] (Zw2 N U O m r v))
 |_=>none
def Js3:CT:= .leaf (.exit 4,(E9 N U O m r v 0 (.exit 4)).getD (Zw2 N U O m r v))
def Zb7:UG:=GJ [] (HF (Wm5 N U O m r v (0)) (Js3 N U O m r v))
abbrev XE:Prop:=(13:Int)=13
theorem Jm2:G6 VO (.loop Jw7) (Zb7 N U O m r v):=by
 refine UR [] (L:=[]) (Ae RI (Ae LW (Ae RA Aa))) (Ai Ab (Ag RM Ac)) VZ U2 (X:=Nat) (Wm5 N U O m r v) (λk=>k<=3) (λk=>3-k) (E9 N U O m r v) (x0:=0) VT ?_ ?_ ?_;rintro k;kernel_rfl;rintro k y E h;unfold E9 at h;split at h;cases h;kernel_rfl;cases h;rintro Q hQ k hx;refine ⟨(k+1),?_⟩;(with_reducible refine D9 (t:=let z1:=(UZ (ofM k) (((1:Int)+(k:Int)).toNat*1+0));let z0:=(US (((1:Int)+(k:Int)).toNat*1+0) (min z1 (-oL k)) (UZ (ofM k)) (0+(((1:Int)+(k:Int)).toNat*13+0)));let z2:=(VY (AV.ro [lst 2 3 λk=>[iI (oL k),iI (oH k)],iI 1,Q1 N U O m r v,Q2 m N,top]));(branch (decide ((k:Int)<((3:Nat):Int))) (need [UI k 3] (need [(0:Int)<=(k:Int)/\(k:Int)<=1000] (need [VL (-oH k)] (need [VL (-oL k)] (need [UI 0 13] (need [(0:Int)<=1+(k:Int)/\(1:Int)+(k:Int)<((13:Nat):Int)] (need [((1:Int)+(k:Int)).toNat*1+0<169] (need [UI 0 13] (need [(0:Int)<=1+(k:Int)/\(1:Int)+(k:Int)<((13:Nat):Int)] (need [((1:Int)+(k:Int)).toNat*1+0+List.length [min z1 (-oL k)]<=169] (need [(0:Int)<=1+(k:Int)/\(1:Int)+(k:Int)<((13:Nat):Int)] (need [UI 0 13] (need [0+(((1:Int)+(k:Int)).toNat*13+0)<169] (need [VL (- -oH k)] (need [(0:Int)<=1+(k:Int)/\(1:Int)+(k:Int)<((13:Nat):Int)] (need [UI 0 13] (need [0+(((1:Int)+(k:Int)).toNat*13+0)+List.length [min z0 (- -oH k)]<=169] (need [VL ((k:Int)+1)] (need [z2,VY (agg QC),QO,QD=QD,WL,W7,XE,VY (lst 2 3 λk=>[iI (oL k),iI (oH k)]),VY ((3:Nat):Int),(k:Int)+1=(↑(k+1):Int),169=169,GV 169 (US (0+(((1:Int)+(k:Int)).toNat*13+0)) (min z0 (- -oH k)) (jE (((1:Int)+(k:Int)).toNat*1+0) [min z1 (-oL k)] (UZ (ofM k)))) (UZ (ofM (k+1))),QN] (leaf G5.normal)))))))))))))))))))) (need [z2,VY (agg QC),QO,QD=QD,WL,W7,XE,VY (lst 2 3 λk=>[iI (oL k),iI (oH k)]),VY ((3:Nat):Int),(k:Int)=3,169=169,GV 169 (UZ (ofM k)) (UZ (ofM 3)),QN] (leaf (G5.exit 4))))) VU ?_)
 simp only [Js3,E9,VM.sat,GS] at hQ;simp only [VM.sat,UB,G0,GL,UD,VL,UH,HA,FU,R9,RQ,GN,E9]
 have hL: -9<=oL k/\oL k<=0:=by unfold oL;split<;>omega
 have hH:0<=oH k/\oH k<=9:=by unfold oH;split<;>omega
 refine ⟨λh=>?_,λh=>?_⟩;have h1: ∀M w,US ((1+(k:Int)).toNat*1+0) (min (UZ M ((1+(k:Int)).toNat*1+0)) w) (UZ M)=UZ (bnd M 0 (1+k) w):=λM w=>zT VJ VJ;have h2: ∀M w,US (0+((1+(k:Int)).toNat*13+0)) (min (UZ M (0+((1+(k:Int)).toNat*13+0))) w) (UZ M)=UZ (bnd M (1+k) 0 w):=λM w=>zT VJ VJ;simp only [h1,h2];exact V0;obtain rfl:k=3:=VJ;exact V0
def Zw1:St:={σ:=[AV.ro [lst 2 3 λk=>[iI (oL k),iI (oH k)],iI 1,Q1 N U O m r v,Q2 m N,top],agg QC,top,ptr 0 0,QD,AV.lit false,ptr 4 0]++HI 15 [iI 13]++HI 20 [lst 2 3 λk=>[iI (oL k),iI (oH k)],iI ((3:Nat):Int),iI 3]++HI 20 [Q1 N U O m r v,iI (N:Int)]++HI 123 [],m:=[(4,GO.ints 244 [] 169 λk=>UZ (ofM 3) k),(0,KZ)],nx:=21}
noncomputable def Jw6:Code:=U9 (VS (U7 Tryz.f80) 2)
def Wm4(k:Nat):St:=(upE [(68,i k)] [(4,.ints 244 [] 169 (UZ (btM U O k))),(0,.cells 183 [.x (.int .u64 0)])] (Zw1 N U O m r v))
def E8(k:Nat):G5->Option St
 | .exit 6=>some (upE [(68,i N)] [(4,.ints 244 [] 169 (UZ (btM U O N))),(0,.cells 183 [.x (.int .u64 0)])] (Zw1 N U O m r v))
 |_=>none
def Js2:CT:= .leaf (.exit 6,(E8 N U O m r v 0 (.exit 6)).getD (Zw1 N U O m r v))
def Zb6:UG:=GJ [] (HF (Wm4 N U O m r v (0)) (Js2 N U O m r v))
abbrev XI:Prop:=(3:Int)=3
theorem Jm1(VR:bOK N U O m r v):G6 VO (.loop Jw6) (Zb6 N U O m r v):=by
 refine UR [] (L:=[]) (Ae RI (Ae LW (Ae RA Aa))) (Ai Ab (Ag RM Ac)) VZ U2 (X:=Nat) (Wm4 N U O m r v) (λk=>k<=N) (λk=>N-k) (E8 N U O m r v) (x0:=0) VT ?_ ?_ ?_;rintro k;kernel_rfl;rintro k y E h;unfold E8 at h;split at h;cases h;kernel_rfl;cases h;rintro Q hQ k hx;refine ⟨(k+1),?_⟩;(with_reducible refine D9 (t:=let z1:=(UZ (btM U O k) (((7:Int)+(k:Int)).toNat*1+0));let z0:=(US (((7:Int)+(k:Int)).toNat*1+0) (min z1 (O k)) (UZ (btM U O k)) (0+(((7:Int)+(k:Int)).toNat*13+0)));let z2:=(VY (AV.ro [lst 2 3 λk=>[iI (oL k),iI (oH k)],iI 1,Q1 N U O m r v,Q2 m N,top]));(branch (decide ((k:Int)<(N:Int))) (need [UI k N] (need [(0:Int)<=(k:Int)/\(k:Int)<=1000] (need [UI 0 13] (need [(0:Int)<=7+(k:Int)/\(7:Int)+(k:Int)<((13:Nat):Int)] (need [((7:Int)+(k:Int)).toNat*1+0<169] (need [UI 0 13] (need [(0:Int)<=7+(k:Int)/\(7:Int)+(k:Int)<((13:Nat):Int)] (need [((7:Int)+(k:Int)).toNat*1+0+List.length [min z1 (O k)]<=169] (need [(0:Int)<=7+(k:Int)/\(7:Int)+(k:Int)<((13:Nat):Int)] (need [UI 0 13] (need [0+(((7:Int)+(k:Int)).toNat*13+0)<169] (need [VL (-U k)] (need [(0:Int)<=7+(k:Int)/\(7:Int)+(k:Int)<((13:Nat):Int)] (need [UI 0 13] (need [0+(((7:Int)+(k:Int)).toNat*13+0)+List.length [min z0 (-U k)]<=169] (need [VL ((k:Int)+1)] (need [z2,VY (agg QC),QO,QD=QD,WL,W7,XE,VY (lst 2 3 λk=>[iI (oL k),iI (oH k)]),VY ((3:Nat):Int),XI,WW N U O m r v,VY (N:Int),(k:Int)+1=(↑(k+1):Int),169=169,GV 169 (US (0+(((7:Int)+(k:Int)).toNat*13+0)) (min z0 (-U k)) (jE (((7:Int)+(k:Int)).toNat*1+0) [min z1 (O k)] (UZ (btM U O k)))) (UZ (btM U O (k+1))),QN] (leaf G5.normal)))))))))))))))))) (need [z2,VY (agg QC),QO,QD=QD,WL,W7,XE,VY (lst 2 3 λk=>[iI (oL k),iI (oH k)]),VY ((3:Nat):Int),XI,WW N U O m r v,VY (N:Int),(k:Int)=(N:Int),169=169,GV 169 (UZ (btM U O k)) (UZ (btM U O N)),QN] (leaf (G5.exit 6))))) VU ?_)
 simp only [Js2,E8,VM.sat,GS] at hQ;simp only [VM.sat,UB,G0,GL,UD,VL,UH,HA,FU,R9,RQ,GN,E8]
 have h6:=VR.1;refine ⟨λh=>?_,λh=>?_⟩;obtain ⟨_,q1,q2,q3,_⟩:=VR.2 k VJ;have h1: ∀M w,US ((7+(k:Int)).toNat*1+0) (min (UZ M ((7+(k:Int)).toNat*1+0)) w) (UZ M)=UZ (bnd M 0 (7+k) w):=λM w=>zT VJ VJ;have h2: ∀M w,US (0+((7+(k:Int)).toNat*13+0)) (min (UZ M (0+((7+(k:Int)).toNat*13+0))) w) (UZ M)=UZ (bnd M (7+k) 0 w):=λM w=>zT VJ VJ;simp only [h1,h2];exact V0;obtain rfl:k=N:=VJ;exact V0
def Zw0:St:={σ:=[AV.ro [lst 2 3 λk=>[iI (oL k),iI (oH k)],iI 1,Q1 N U O m r v,Q2 m N,top],agg QC,top,ptr 0 0,QD,AV.lit false,ptr 4 0]++HI 15 [iI 13]++HI 20 [lst 2 3 λk=>[iI (oL k),iI (oH k)],iI ((3:Nat):Int),iI 3]++HI 20 [Q1 N U O m r v,iI (N:Int),iI (N:Int)]++HI 14 [Q2 m N,iI (HD m N:Int)]++HI 106 [],m:=[(4,GO.ints 244 [] 169 λk=>UZ (btM U O N) k),(0,KZ)],nx:=27}
noncomputable def Jw5:Code:=U9 (VS (U7 Tryz.f80) 3)
def Wm3(k:Nat):St:=(upE [(85,i k)] [(4,.ints 244 [] 169 (UZ (rS N U O m r v k))),(0,.cells 183 [.x (.int .u64 0)])] (Zw0 N U O m r v))
def E7(k:Nat):G5->Option St
 | .exit 8=>some (upE [(85,i (HD m N))] [(4,.ints 244 [] 169 (UZ (rS N U O m r v (HD m N)))),(0,.cells 183 [.x (.int .u64 0)])] (Zw0 N U O m r v))
 |_=>none
def Js1:CT:= .leaf (.exit 8,(E7 N U O m r v 0 (.exit 8)).getD (Zw0 N U O m r v))
def Zb5:UG:=GJ [] (HF (Wm3 N U O m r v (0)) (Js1 N U O m r v))
theorem Jm0(VR:bOK N U O m r v):G6 VO (.loop Jw5) (Zb5 N U O m r v):=by
 refine UR [] (L:=[]) (Ae RI (Ae LW (Ae RA Aa))) (Ai Ab (Ag RM Ac)) VZ U2 (X:=Nat) (Wm3 N U O m r v) (λk=>k<=HD m N) (λk=>HD m N-k) (E7 N U O m r v) (x0:=0) VT ?_ ?_ ?_;rintro k;kernel_rfl;rintro k y E h;unfold E7 at h;split at h;cases h;kernel_rfl;cases h;rintro Q hQ k hx;refine ⟨(k+1),?_⟩
 (with_reducible refine D9 (t:=let z4:=rS N U O m r v k;let z1:=(UZ (z4) (((7:Int)+(↑(Prod.fst (GF m N k)):Int)).toNat*1+(((1:Int)+r (Prod.fst (GF m N k)) (Prod.snd (GF m N k))).toNat*13+0)));let z0:=(US (((7:Int)+(↑(Prod.fst (GF m N k)):Int)).toNat*1+(((1:Int)+r (Prod.fst (GF m N k)) (Prod.snd (GF m N k))).toNat*13+0)) (min z1 (v (Prod.fst (GF m N k)) (Prod.snd (GF m N k))+1)) (UZ (z4)) (((1:Int)+r (Prod.fst (GF m N k)) (Prod.snd (GF m N k))).toNat*1+(((7:Int)+(↑(Prod.fst (GF m N k)):Int)).toNat*13+0)));let z2:=(VY (AV.ro [lst 2 3 λk=>[iI (oL k),iI (oH k)],iI 1,Q1 N U O m r v,Q2 m N,top]));let z3:=(VY (lst 2 3 λk=>[iI (oL k),iI (oH k)]));(branch (decide ((k:Int)<(HD m N:Int))) (need [UI k (HD m N:Int)] (need [(0:Int)<=(k:Int)/\(k:Int)<=64] (branch (IntKind.wrap IntKind.u64 (↑(BitVec.toNat (BitVec.ofInt (IntKind.bits IntKind.u64) ((0:Int) / (2:Int)^k) &&& BitVec.ofInt (IntKind.bits IntKind.u64) (1:Int))):Int)==0) (need [UI (↑(Prod.fst (GF m N k)):Int) N] (need [UI (↑(Prod.snd (GF m N k)):Int) ((↑(m (Prod.fst (GF m N k))):Int))] (need [(0:Int)<=r (Prod.fst (GF m N k)) (Prod.snd (GF m N k))/\r (Prod.fst (GF m N k)) (Prod.snd (GF m N k))<=1000] (need [(0:Int)<=(↑(Prod.fst (GF m N k)):Int)/\(↑(Prod.fst (GF m N k)):Int)<=1000] (need [VL (v (Prod.fst (GF m N k)) (Prod.snd (GF m N k))-1)] (need [VL (v (Prod.fst (GF m N k)) (Prod.snd (GF m N k))+1)] (need [(0:Int)<=1+r (Prod.fst (GF m N k)) (Prod.snd (GF m N k))/\(1:Int)+r (Prod.fst (GF m N k)) (Prod.snd (GF m N k))<((13:Nat):Int)] (need [(0:Int)<=7+(↑(Prod.fst (GF m N k)):Int)/\(7:Int)+(↑(Prod.fst (GF m N k)):Int)<((13:Nat):Int)] (need [((7:Int)+(↑(Prod.fst (GF m N k)):Int)).toNat*1+(((1:Int)+r (Prod.fst (GF m N k)) (Prod.snd (GF m N k))).toNat*13+0)<169] (need [(0:Int)<=1+r (Prod.fst (GF m N k)) (Prod.snd (GF m N k))/\(1:Int)+r (Prod.fst (GF m N k)) (Prod.snd (GF m N k))<((13:Nat):Int)] (need [(0:Int)<=7+(↑(Prod.fst (GF m N k)):Int)/\(7:Int)+(↑(Prod.fst (GF m N k)):Int)<((13:Nat):Int)] (need [((7:Int)+(↑(Prod.fst (GF m N k)):Int)).toNat*1+(((1:Int)+r (Prod.fst (GF m N k)) (Prod.snd (GF m N k))).toNat*13+0)+List.length [min z1 (v (Prod.fst (GF m N k)) (Prod.snd (GF m N k))+1)]<=169] (need [(0:Int)<=7+(↑(Prod.fst (GF m N k)):Int)/\(7:Int)+(↑(Prod.fst (GF m N k)):Int)<((13:Nat):Int)] (need [(0:Int)<=1+r (Prod.fst (GF m N k)) (Prod.snd (GF m N k))/\(1:Int)+r (Prod.fst (GF m N k)) (Prod.snd (GF m N k))<((13:Nat):Int)] (need [((1:Int)+r (Prod.fst (GF m N k)) (Prod.snd (GF m N k))).toNat*1+(((7:Int)+(↑(Prod.fst (GF m N k)):Int)).toNat*13+0)<169] (need [VL (-(v (Prod.fst (GF m N k)) (Prod.snd (GF m N k))-1))] (need [(0:Int)<=7+(↑(Prod.fst (GF m N k)):Int)/\(7:Int)+(↑(Prod.fst (GF m N k)):Int)<((13:Nat):Int)] (need [(0:Int)<=1+r (Prod.fst (GF m N k)) (Prod.snd (GF m N k))/\(1:Int)+r (Prod.fst (GF m N k)) (Prod.snd (GF m N k))<((13:Nat):Int)] (need [((1:Int)+r (Prod.fst (GF m N k)) (Prod.snd (GF m N k))).toNat*1+(((7:Int)+(↑(Prod.fst (GF m N k)):Int)).toNat*13+0)+List.length [min z0 (-(v (Prod.fst (GF m N k)) (Prod.snd (GF m N k))-1))]<=169] (need [VL ((k:Int)+1)] (need [z2,VY (agg QC),QO,QD=QD,WL,W7,XE,z3,VY ((3:Nat):Int),XI,WW N U O m r v,VY (N:Int),VY (N:Int),VY (Q2 m N),VY (HD m N:Int),(k:Int)+1=(↑(k+1):Int),169=169,GV 169 (US (((1:Int)+r (Prod.fst (GF m N k)) (Prod.snd (GF m N k))).toNat*1+(((7:Int)+(↑(Prod.fst (GF m N k)):Int)).toNat*13+0)) (min z0 (-(v (Prod.fst (GF m N k)) (Prod.snd (GF m N k))-1))) (jE (((7:Int)+(↑(Prod.fst (GF m N k)):Int)).toNat*1+(((1:Int)+r (Prod.fst (GF m N k)) (Prod.snd (GF m N k))).toNat*13+0)) [min z1 (v (Prod.fst (GF m N k)) (Prod.snd (GF m N k))+1)] (UZ (z4)))) (UZ (rS N U O m r v (k+1))),QN] (leaf G5.normal)))))))))))))))))))))) (need [VL ((k:Int)+1)] (need [z2,VY (agg QC),QO,QD=QD,WL,W7,XE,z3,VY ((3:Nat):Int),XI,WW N U O m r v,VY (N:Int),VY (N:Int),VY (Q2 m N),VY (HD m N:Int),(k:Int)+1=(↑(k+1):Int),169=169,GV 169 (UZ (z4)) (UZ (rS N U O m r v (k+1))),QN] (leaf G5.normal)))))) (need [z2,VY (agg QC),QO,QD=QD,WL,W7,XE,z3,VY ((3:Nat):Int),XI,WW N U O m r v,VY (N:Int),VY (N:Int),VY (Q2 m N),VY (HD m N:Int),(k:Int)=(HD m N:Int),169=169,GV 169 (UZ (z4)) (UZ (rS N U O m r v (HD m N))),QN] (leaf (G5.exit 8))))) VU ?_)
 simp only [Js1,E7,VM.sat,GS] at hQ;simp only [VM.sat,UB,G0,GL,UD,VL,UH,HA,FU,R9,RQ,GN,E7]
 have h6:=VR.1;have hb:=TQ m (K:=10) N (λb hb=>(VR.2 b hb).1);have hz:(IntKind.u64.wrap ((BitVec.ofInt IntKind.u64.bits (0 / 2^k) &&& BitVec.ofInt IntKind.u64.bits 1).toNat:Int)==0)=true:=by
  rw [Int.zero_ediv];decide
 simp only [hz,true_imp_iff,Bool.true_eq_false,false_imp_iff,and_true];refine ⟨λh=>?_,λh=>?_⟩;obtain ⟨hl1,hl2⟩:=a6 m N k VJ;obtain ⟨_,_,_,_,q4⟩:=VR.2 _ hl1;obtain ⟨q5,q6,q7,q8⟩:=q4 _ hl2;have e1:((1+r (GF m N k).1 (GF m N k).2).toNat)=1+(r (GF m N k).1 (GF m N k).2).toNat:=VJ;have e2:((7+((GF m N k).1:Int)).toNat)=7+(GF m N k).1:=VJ;rw [e1,e2];have h1: ∀M w,US ((7+(GF m N k).1)*1+((1+(r (GF m N k).1 (GF m N k).2).toNat)*13+0)) (min (UZ M ((7+(GF m N k).1)*1+((1+(r (GF m N k).1 (GF m N k).2).toNat)*13+0))) w) (UZ M)=UZ (bnd M (1+(r (GF m N k).1 (GF m N k).2).toNat) (7+(GF m N k).1) w):=λM w=>zT VJ VJ;have h2: ∀M w,US ((1+(r (GF m N k).1 (GF m N k).2).toNat)*1+((7+(GF m N k).1)*13+0)) (min (UZ M ((1+(r (GF m N k).1 (GF m N k).2).toNat)*1+((7+(GF m N k).1)*13+0))) w) (UZ M)=UZ (bnd M (7+(GF m N k).1) (1+(r (GF m N k).1 (GF m N k).2).toNat) w):=λM w=>zT VJ VJ;simp only [h1,h2];exact V0;obtain rfl:k=HD m N:=VJ;exact V0
end
def LB8(B:Int)(M:Nat->Cg):Prop:= ∀x y,-B<=M x y/\M x y<=8000
def JB8(B:Int)(o f t:Nat)(M:Nat->Cg):Prop:= ∀x y,M x y<=8000/\ -(6*B)<=M x y/\(x=o-> -(3*B)<=M x y)/\(y=o-> -(3*B)<=M x y)/\(x=o->y=o-> -(2*B)<=M x y)/\(¬(x<f\/(x=f/\y<t))-> -B<=M x y)
theorem Qv1{B:Int}{o:Nat}{M:Nat->Cg}(hB:0<=B)(h:LB8 B M):JB8 B o 0 0 M:=by
 intro x y;have:=h x y;refine ⟨VJ,VJ,λ_=>VJ,λ_=>VJ,λ_ _=>VJ,λ_=>VJ⟩
theorem Xc0{B:Int}{o f t:Nat}{M:Nat->Cg}(hB:0<=B)(h:JB8 B o f t M):JB8 B o f (t+1) (fwS M o f t):=by
 have hft:=h f t;have hfo:=h f o;have hot:=h o t;have hoo:=h o o;have I:=hft.2.2.2.2.2 VJ;intro x y;have hxy:=h x y;unfold fwS bnd wZ;by_cases hc:x=f/\y=t;exact V3;rw [if_neg hc];exact ⟨hxy.1,hxy.2.1,hxy.2.2.1,hxy.2.2.2.1,hxy.2.2.2.2.1,λhv=>hxy.2.2.2.2.2 VJ⟩
theorem Xc1{B:Int}{o f:Nat}{M:Nat->Cg}(hB:0<=B)(h:JB8 B o f 0 M): ∀t,JB8 B o f t (fwT M o f t)
 | 0=>h
 |t+1=>Xc0 hB (Xc1 hB h t)
theorem Xq5{B:Int}{o f t:Nat}{M:Nat->Cg}(h:JB8 B o f t M):JB8 B o (f+1) 0 M:=by
 intro x y;have hxy:=h x y;exact ⟨hxy.1,hxy.2.1,hxy.2.2.1,hxy.2.2.2.1,hxy.2.2.2.2.1,λhv=>hxy.2.2.2.2.2 VJ⟩
theorem Xc2{B:Int}{c o:Nat}{M:Nat->Cg}(hB:0<=B)(h:LB8 B M): ∀f,JB8 B o f 0 (fwF c M o f)
 | 0=>Qv1 hB h
 |f+1=>Xq5 (Xc1 hB (Xc2 hB h f) (c+1))
theorem Xb8{c:Nat}{M:Nat->Cg}(h:LB8 8001 M): ∀o,LB8 (8001*6^o) (fwO c M o)
 | 0=>by
  rw [show (8001:Int)*6^0=8001 by decide]
  exact h
 |o+1=>by
  have ih:=Xb8 (c:=c) h o;have hp:(0:Int)<=8001*6^o:=Bz VJ (Int.pow_nonneg VJ);have hj:=Xc2 (c:=c) (o:=o) hp ih (c+1);intro x y;have:=hj x y;have e:(8001:Int)*6^(o+1)=6*(8001*6^o):=by rw [Int.pow_succ];omega
  rw [e];exact ⟨this.2.1,this.1⟩
theorem Jf2: ∀o:Nat,o<=12->(6:Int)^o<=2176782336:=by
 intro o ho;rcases (show o=0\/o=1\/o=2\/o=3\/o=4\/o=5\/o=6\/o=7\/o=8\/o=9\/o=10\/o=11\/o=12 by omega) with rfl|rfl|rfl|rfl|rfl|rfl|rfl|rfl|rfl|rfl|rfl|rfl|rfl<;>decide
theorem Zq1{c:Nat}{M:Nat->Cg}(h:LB8 8001 M){o f t:Nat}(ho:o<=12)(x y:Nat): -105000000000000<=fwT (fwF c (fwO c M o) o f) o f t x y/\fwT (fwF c (fwO c M o) o f) o f t x y<=8000:=by
 have ih:=Xb8 (c:=c) h o;have hp:(0:Int)<=8001*6^o:=Bz VJ (Int.pow_nonneg VJ);have hj:=Xc1 hp (Xc2 (c:=c) (o:=o) hp ih f) t x y;have:=Jf2 o ho;omega
theorem yD{B:Int}{M:Nat->Cg}(h:LB8 B M){a b:Nat}{v:Int}(hv: -B<=v):LB8 B (bnd M a b v):=by
 intro x y;have h1:=h a b;have h2:=h x y;unfold bnd wZ;split<;>omega
theorem oLH(k:Nat):(-9<=oL k/\oL k<=0)/\0<=oH k/\oH k<=9:=by
 unfold oL oH;constructor<;>split<;>omega
theorem Wf8: ∀k,LB8 8001 (ofM k)
 | 0=>by
  intro x y;unfold ofM LV;split<;>omega
 |k+1=>by
  have h:=oLH k;exact yD (yD (Wf8 k) VJ) VJ
theorem Wv5{N:Nat}{U O:Cg}{m:Ch}{r v:Nat->Cg}(h:bOK N U O m r v): ∀k,k<=N->LB8 8001 (btM U O k)
 | 0,_=>Wf8 3
 |k+1,hk=>by
  have q:=h.2 k VJ;exact yD (yD (Wv5 h k VJ) VJ) VJ
theorem T8{N:Nat}{U O:Cg}{m:Ch}{r v:Nat->Cg}(h:bOK N U O m r v): ∀q,q<=HD m N->LB8 8001 (rS N U O m r v q)
 | 0,_=>Wv5 h N (Am _)
 |q+1,hq=>by
  obtain ⟨hl1,hl2⟩:=a6 m N q VJ;have q4:=(h.2 _ hl1).2.2.2.2 _ hl2;exact yD (yD (T8 h q VJ) VJ) VJ
section
variable (N:Nat)(U O:Cg)(m:Ch)(r v:Nat->Cg)
def r0M:Nat->Cg:=rS N U O m r v (HD m N)
def PF:Nat->Cg:=fwO 12 (r0M N U O m r v) 13
def xL:Bool:=D3 (λk=>decide (0<=PF N U O m r v k k)) 13
def Zv9:St:={σ:=[AV.ro [lst 2 3 λk=>[iI (oL k),iI (oH k)],iI 1,Q1 N U O m r v,Q2 m N,top],agg QC,top,ptr 0 0,QD,AV.lit false,ptr 4 0]++HI 15 [iI 13]++HI 20 [lst 2 3 λk=>[iI (oL k),iI (oH k)],iI ((3:Nat):Int),iI 3]++HI 20 [Q1 N U O m r v,iI (N:Int),iI (N:Int)]++HI 14 [Q2 m N,iI (HD m N:Int),iI (HD m N:Int)]++HI 105 [],m:=[(4,GO.ints 244 [] 169 λk=>UZ (rS N U O m r v (HD m N)) k),(0,KZ)],nx:=28}
noncomputable def Zx4:Code:=U9 (VS (U7 Tryz.f80) 4)
def Wm2(o:Nat):St:=(upE [(136,i o)] [(4,.ints 244 [] 169 (UZ (fwO 12 (r0M N U O m r v) o))),(0,.cells 183 [.x (.int .u64 0)])] (Zv9 N U O m r v))
def E6(o:Nat):G5->Option St
 | .exit 10=>some (upE [(136,i 13)] [(4,.ints 244 [] 169 (UZ (fwO 12 (r0M N U O m r v) 13))),(0,.cells 183 [.x (.int .u64 0)])] (Zv9 N U O m r v))
 |_=>none
def Js0:CT:= .leaf (.exit 10,(E6 N U O m r v 0 (.exit 10)).getD (Zv9 N U O m r v))
def Zb4:UG:=GJ [] (HF (Wm2 N U O m r v (0)) (Js0 N U O m r v))
def Zv8(o:Nat):St:={σ:=[AV.ro [lst 2 3 λk=>[iI (oL k),iI (oH k)],iI 1,Q1 N U O m r v,Q2 m N,top],agg QC,top,ptr 0 0,QD,AV.lit false,ptr 4 0]++HI 9 [iI (o:Int)]++HI 5 [iI 13]++HI 20 [lst 2 3 λk=>[iI (oL k),iI (oH k)],iI ((3:Nat):Int),iI 3]++HI 20 [Q1 N U O m r v,iI (N:Int),iI (N:Int)]++HI 14 [Q2 m N,iI (HD m N:Int),iI (HD m N:Int)]++HI 50 [iI (o:Int)]++HI 54 [],m:=[(4,GO.ints 244 [] 169 λk=>UZ (fwO 12 (r0M N U O m r v) o) k),(0,KZ)],nx:=32}
noncomputable def Zx3:Code:=(U9 (VS (U9 (VS (U7 Tryz.f80) 4)) 0))
def Wm1(o:Nat)(f:Nat):St:=(upE [(139,i f)] [(4,.ints 244 [] 169 (UZ (fwF 12 (fwO 12 (r0M N U O m r v) o) o f))),(0,.cells 183 [.x (.int .u64 0)])] (Zv8 N U O m r v o))
def E5(o:Nat)(f:Nat):G5->Option St
 | .exit 12=>some (upE [(139,i 13)] [(4,.ints 244 [] 169 (UZ (fwF 12 (fwO 12 (r0M N U O m r v) o) o 13))),(0,.cells 183 [.x (.int .u64 0)])] (Zv8 N U O m r v o))
 |_=>none
def Jr9(o:Nat):CT:= .leaf (.exit 12,(E5 N U O m r v o 0 (.exit 12)).getD (Zv8 N U O m r v o))
def Zb3(o:Nat):UG:=GJ [] (HF (Wm1 N U O m r v o (0)) (Jr9 N U O m r v o))
def Zv7(o:Nat)(f:Nat):St:={σ:=[AV.ro [lst 2 3 λk=>[iI (oL k),iI (oH k)],iI 1,Q1 N U O m r v,Q2 m N,top],agg QC,top,ptr 0 0,QD,AV.lit false,ptr 4 0]++HI 9 [iI (o:Int),iI (f:Int),top,top,top,top,iI 13]++HI 20 [lst 2 3 λk=>[iI (oL k),iI (oH k)],iI ((3:Nat):Int),iI 3]++HI 20 [Q1 N U O m r v,iI (N:Int),iI (N:Int)]++HI 14 [Q2 m N,iI (HD m N:Int),iI (HD m N:Int)]++HI 50 [iI (o:Int),top,top,iI (f:Int)]++HI 51 [],m:=[(4,GO.ints 244 [] 169 λk=>UZ (fwF 12 (fwO 12 (r0M N U O m r v) o) o f) k),(0,KZ)],nx:=36}
noncomputable def Jw4:Code:=(U9 (VS (U9 (VS (U9 (VS (U7 Tryz.f80) 4)) 0)) 0))
def Wm0(o:Nat)(f:Nat)(t:Nat):St:=(upE [(142,i t)] [(4,.ints 244 [] 169 (UZ (fwT (fwF 12 (fwO 12 (r0M N U O m r v) o) o f) o f t))),(0,.cells 183 [.x (.int .u64 0)])] (Zv7 N U O m r v o f))
def E4(o:Nat)(f:Nat)(t:Nat):G5->Option St
 | .exit 14=>some (upE [(142,i 13)] [(4,.ints 244 [] 169 (UZ (fwT (fwF 12 (fwO 12 (r0M N U O m r v) o) o f) o f 13))),(0,.cells 183 [.x (.int .u64 0)])] (Zv7 N U O m r v o f))
 |_=>none
def Jr8(o:Nat)(f:Nat):CT:= .leaf (.exit 14,(E4 N U O m r v o f 0 (.exit 14)).getD (Zv7 N U O m r v o f))
def Zb2(o:Nat)(f:Nat):UG:=GJ [] (HF (Wm0 N U O m r v o f (0)) (Jr8 N U O m r v o f))
theorem Jl7(o:Nat)(f:Nat)(VR:bOK N U O m r v)(UE:o<=12)(HK:f<=12):G6 VO (.loop Jw4) (Zb2 N U O m r v o f):=by
 refine UR [] (L:=[]) (Ae RI (Ae LW (Ae RA Aa))) (Ai Ab (Ag RM Ac)) VZ U2 (X:=Nat) (Wm0 N U O m r v o f) (λt=>t<=13) (λt=>13-t) (E4 N U O m r v o f) (x0:=0) VT ?_ ?_ ?_;rintro t;kernel_rfl;rintro t y E h;unfold E4 at h;split at h;cases h;kernel_rfl;cases h;rintro Q hQ t hx;refine ⟨(t+1),?_⟩;(with_reducible refine D9 (t:=let z2:=(fwF 12 (fwO 12 (r0M N U O m r v) o) o f);let z0:=(fwT z2 o f t);let z1:=(VY (AV.ro [lst 2 3 λk=>[iI (oL k),iI (oH k)],iI 1,Q1 N U O m r v,Q2 m N,top]));let z3:=(VY (HD m N:Int));(branch (decide ((t:Int)<13)) (need [UI f 13] (need [UI t 13] (need [t*1+(f*13+0)<169] (need [UI f 13] (need [UI o 13] (need [o*1+(f*13+0)<169] (need [UI o 13] (need [UI t 13] (need [t*1+(o*13+0)<169] (need [VL (UZ z0 (o*1+(f*13+0))+UZ z0 (t*1+(o*13+0)))] (need [UI f 13] (need [UI t 13] (need [t*1+(f*13+0)+List.length [min (UZ z0 (t*1+(f*13+0))) (UZ z0 (o*1+(f*13+0))+UZ z0 (t*1+(o*13+0)))]<=169] (need [VL ((t:Int)+1)] (need [z1,VY (agg QC),QO,QD=QD,WL,W7,VY (o:Int),VY (f:Int),XE,VY (lst 2 3 λk=>[iI (oL k),iI (oH k)]),VY ((3:Nat):Int),XI,WW N U O m r v,VY (N:Int),VY (N:Int),VY (Q2 m N),z3,z3,VY (o:Int),VY (f:Int),(t:Int)+1=(↑(t+1):Int),169=169,GV 169 (US (t*1+(f*13+0)) (min (UZ z0 (t*1+(f*13+0))) (UZ z0 (o*1+(f*13+0))+UZ z0 (t*1+(o*13+0)))) (UZ z0)) (UZ (fwT z2 o f (t+1))),QN] (leaf G5.normal)))))))))))))))) (need [z1,VY (agg QC),QO,QD=QD,WL,W7,VY (o:Int),VY (f:Int),XE,VY (lst 2 3 λk=>[iI (oL k),iI (oH k)]),VY ((3:Nat):Int),XI,WW N U O m r v,VY (N:Int),VY (N:Int),VY (Q2 m N),z3,z3,VY (o:Int),VY (f:Int),(t:Int)=13,169=169,GV 169 (UZ z0) (UZ (fwT z2 o f 13)),QN] (leaf (G5.exit 14))))) VU ?_)
 simp only [Jr8,E4,VM.sat,GS] at hQ;simp only [VM.sat,UB,G0,GL,UD,VL,UH,HA,FU,R9,RQ,GN,E4]
 have hl:=λx y=>Zq1 (c:=12) (T8 VR (HD m N) (Am _)) (o:=o) (f:=f) (t:=t) VJ x y;have hfo:=hl f o;have hot:=hl o t;refine ⟨λh=>?_,λh=>?_⟩;have h1: ∀M,UZ M (o*1+(f*13+0))=M f o:=λM=>yB _ VJ VJ;have h2: ∀M,UZ M (t*1+(o*13+0))=M o t:=λM=>yB _ VJ VJ;have h3: ∀M w,US (t*1+(f*13+0)) (min (UZ M (t*1+(f*13+0))) w) (UZ M)=UZ (bnd M f t w):=λM w=>zT VJ VJ;simp only [h3];simp only [h1,h2];unfold r0M;exact V0;obtain rfl:t=13:=VJ;exact V0
theorem Jl8(o:Nat)(VR:bOK N U O m r v)(UE:o<=12):G6 VO (.loop Zx3) (Zb3 N U O m r v o):=by
 refine UR [] (L:=[BC 17 (λk=>F2 [k<=12] (Zb2 N U O m r v o k))]) (Ae RI (Ae LW (Ae RA Aa))) (Ai Ab (Ag RM Ac)) VZ (G7 (λcj hcj=>by
  have e:VS Zx3 0=some (.loop Jw4):=VU;rw [e] at hcj;cases hcj;exact L5 (λk=>HJ (λh=>Jl7 N U O m r v o k VR UE h)))) (X:=Nat) (Wm1 N U O m r v o) (λf=>f<=13) (λf=>13-f) (E5 N U O m r v o) (x0:=0) VT ?_ ?_ ?_
 rintro f;kernel_rfl;rintro f y E h;unfold E5 at h;split at h;cases h;kernel_rfl;cases h;rintro Q hQ f hx;refine ⟨(f+1),?_⟩;(with_reducible refine D9 (t:=let z0:=(VY (AV.ro [lst 2 3 λk=>[iI (oL k),iI (oH k)],iI 1,Q1 N U O m r v,Q2 m N,top]));let z1:=(fwO 12 (r0M N U O m r v) o);let z2:=(VY (HD m N:Int));let z3:=(VY (lst 2 3 λk=>[iI (oL k),iI (oH k)]));(branch (decide ((f:Int)<13)) (need [f<=12] (need [z0,VY (agg QC),QO,QD=QD,WL,W7,VY (o:Int),VY (f:Int),XE,z3,VY ((3:Nat):Int),XI,WW N U O m r v,VY (N:Int),VY (N:Int),VY (Q2 m N),z2,z2,VY (o:Int),VY (f:Int),(0:Int)=((0:Nat):Int),169=169,GV 169 (UZ (fwF 12 z1 o f)) (UZ (fwT (fwF 12 z1 o f) o f 0)),QN] (need [VL ((f:Int)+1)] (need [z0,VY (agg QC),QO,QD=QD,WL,W7,VY (o:Int),XE,z3,VY ((3:Nat):Int),XI,WW N U O m r v,VY (N:Int),VY (N:Int),VY (Q2 m N),z2,z2,VY (o:Int),(f:Int)+1=(↑(f+1):Int),169=169,GV 169 (UZ (fwT (fwF 12 z1 o f) o f 13)) (UZ (fwF 12 z1 o (f+1))),QN] (leaf G5.normal))))) (need [z0,VY (agg QC),QO,QD=QD,WL,W7,VY (o:Int),XE,z3,VY ((3:Nat):Int),XI,WW N U O m r v,VY (N:Int),VY (N:Int),VY (Q2 m N),z2,z2,VY (o:Int),(f:Int)=13,169=169,GV 169 (UZ (fwF 12 z1 o f)) (UZ (fwF 12 z1 o 13)),QN] (leaf (G5.exit 12))))) VU ?_)
 simp only [Jr9,E5,VM.sat,GS] at hQ;simp only [VM.sat,UB,G0,GL,UD,VL,UH,HA,FU,R9,RQ,GN,E5]
 refine ⟨λh=>?_,λh=>?_⟩;exact V0;obtain rfl:f=13:=VJ;exact V0
theorem Jl9(VR:bOK N U O m r v):G6 VO (.loop Zx4) (Zb4 N U O m r v):=by
 refine UR [] (L:=[BC 16 (λk=>F2 [k<=12] (Zb3 N U O m r v k))]) (Ae RI (Ae LW (Ae RA Aa))) (Ai Ab (Ag RM Ac)) VZ (G7 (λcj hcj=>by
  have e:VS Zx4 0=some (.loop Zx3):=VU;rw [e] at hcj;cases hcj;exact L5 (λk=>HJ (λh=>Jl8 N U O m r v k VR h)))) (X:=Nat) (Wm2 N U O m r v) (λo=>o<=13) (λo=>13-o) (E6 N U O m r v) (x0:=0) VT ?_ ?_ ?_
 rintro o;kernel_rfl;rintro o y E h;unfold E6 at h;split at h;cases h;kernel_rfl;cases h;rintro Q hQ o hx;refine ⟨(o+1),?_⟩;(with_reducible refine D9 (t:=let z0:=(VY (AV.ro [lst 2 3 λk=>[iI (oL k),iI (oH k)],iI 1,Q1 N U O m r v,Q2 m N,top]));let z1:=(VY (HD m N:Int));let z2:=(VY (lst 2 3 λk=>[iI (oL k),iI (oH k)]));let z3:=(fwO 12 (r0M N U O m r v) o);(branch (decide ((o:Int)<13)) (need [o<=12] (need [z0,VY (agg QC),QO,QD=QD,WL,W7,VY (o:Int),XE,z2,VY ((3:Nat):Int),XI,WW N U O m r v,VY (N:Int),VY (N:Int),VY (Q2 m N),z1,z1,VY (o:Int),(0:Int)=((0:Nat):Int),169=169,GV 169 (UZ z3) (UZ (fwF 12 z3 o 0)),QN] (need [VL ((o:Int)+1)] (need [z0,VY (agg QC),QO,QD=QD,WL,W7,XE,z2,VY ((3:Nat):Int),XI,WW N U O m r v,VY (N:Int),VY (N:Int),VY (Q2 m N),z1,z1,(o:Int)+1=(↑(o+1):Int),169=169,GV 169 (UZ (fwF 12 z3 o 13)) (UZ (fwO 12 (r0M N U O m r v) (o+1))),QN] (leaf G5.normal))))) (need [z0,VY (agg QC),QO,QD=QD,WL,W7,XE,z2,VY ((3:Nat):Int),XI,WW N U O m r v,VY (N:Int),VY (N:Int),VY (Q2 m N),z1,z1,(o:Int)=13,169=169,GV 169 (UZ z3) (UZ (fwO 12 (r0M N U O m r v) 13)),QN] (leaf (G5.exit 10))))) VU ?_)
 simp only [Js0,E6,VM.sat,GS] at hQ;simp only [VM.sat,UB,G0,GL,UD,VL,UH,HA,FU,R9,RQ,GN,E6]
 refine ⟨λh=>?_,λh=>?_⟩;exact V0;obtain rfl:o=13:=VJ;exact V0
end
section
variable (N:Nat)(U O:Cg)(m:Ch)(r v:Nat->Cg)
def Xe0:St:={σ:=[AV.ro [lst 2 3 λk=>[iI (oL k),iI (oH k)],iI 1,Q1 N U O m r v,Q2 m N,top],agg QC,top,ptr 0 0,top,top,ptr 4 0]++HI 15 [iI 13]++HI 20 [lst 2 3 λk=>[iI (oL k),iI (oH k)],iI ((3:Nat):Int),iI 3]++HI 20 [Q1 N U O m r v,iI (N:Int),iI (N:Int)]++HI 14 [Q2 m N,iI (HD m N:Int),iI (HD m N:Int)]++HI 50 [iI 13]++HI 54 [],m:=[(4,GO.ints 244 [] 169 λk=>UZ (fwO 12 (r0M N U O m r v) 13) k),(0,KZ)],nx:=29}
noncomputable def Jw3:Code:=U9 (VS (U7 Tryz.f80) 5)
def Wl9(k:Nat):St:=(upE [(178,i k)] [(4,.ints 244 [] 169 (UZ (PF N U O m r v))),(0,.cells 183 [.x (.int .u64 0)])] (Xe0 N U O m r v))
def dN(k:Nat):G5->Option St
 | .ret=>some (upE [(4,.x (.pointer none)),(5,.lit false),(178,.top)] [(4,.ints 244 [] 169 (UZ (PF N U O m r v))),(0,.cells 183 [.x (.int .u64 0)])] (Xe0 N U O m r v))
 | .exit 16=>some (upE [(178,.top)] [(4,.ints 244 [] 169 (UZ (PF N U O m r v))),(0,.cells 183 [.x (.int .u64 0)])] (Xe0 N U O m r v))
 |_=>none
def Jr7:CT:= .branch (xL N U O m r v) (.leaf (.exit 16,(dN N U O m r v 0 (.exit 16)).getD (Xe0 N U O m r v))) (.leaf (.ret,(dN N U O m r v 0 .ret).getD (Xe0 N U O m r v)))
def Zb1:UG:=GJ [] (HF (Wl9 N U O m r v (0)) (Jr7 N U O m r v))
theorem Jl6(VR:bOK N U O m r v):G6 VO (.loop Jw3) (Zb1 N U O m r v):=by
 refine UR [] (L:=[]) (Ae RI (Ae LW (Ae RA Aa))) (Ai Ab (Ag RM Ac)) VZ U2 (X:=Nat) (Wl9 N U O m r v) (λk=>k<=13/\ ∀j,j<k->0<=PF N U O m r v j j) (λk=>13-k) (dN N U O m r v) (x0:=0) VT ?_ ?_ ?_;rintro k;kernel_rfl;rintro k y E h;unfold dN at h;split at h;cases h;kernel_rfl;cases h;kernel_rfl;cases h;rintro Q hQ k hx;refine ⟨(k+1),?_⟩;(with_reducible refine D9 (t:=let W:=(VY (AV.ro [lst 2 3 λk=>[iI (oL k),iI (oH k)],iI 1,Q1 N U O m r v,Q2 m N,top]));let z1:=(VY (HD m N:Int));let z2:=PF N U O m r v;let z3:=(VY (lst 2 3 λk=>[iI (oL k),iI (oH k)]));(branch (decide ((k:Int)<13)) (need [UI k 13] (need [UI k 13] (need [k*1+(k*13+0)<169] (branch (decide (UZ (z2) (k*1+(k*13+0))<0)) (need [W,VY (agg QC),QO,QD=QD,WL,W7,XE,z3,VY ((3:Nat):Int),XI,WW N U O m r v,VY (N:Int),VY (N:Int),VY (Q2 m N),z1,z1,XE,169=169,GQ 169 (UZ (z2)),QN] (leaf G5.ret)) (need [VL ((k:Int)+1)] (need [W,VY (agg QC),QO,W7,XE,z3,VY ((3:Nat):Int),XI,WW N U O m r v,VY (N:Int),VY (N:Int),VY (Q2 m N),z1,z1,XE,(k:Int)+1=(↑(k+1):Int),169=169,GQ 169 (UZ (z2)),QN] (leaf G5.normal))))))) (need [W,VY (agg QC),QO,W7,XE,z3,VY ((3:Nat):Int),XI,WW N U O m r v,VY (N:Int),VY (N:Int),VY (Q2 m N),z1,z1,XE,169=169,GQ 169 (UZ (z2)),QN] (leaf (G5.exit 16))))) VU ?_)
 simp only [Jr7,dN,VM.sat,GS] at hQ;simp only [VM.sat,UB,G0,GL,UD,VL,UH,HA,FU,R9,RQ,GN,dN]
 have h1:UZ (PF N U O m r v) (k*1+(k*13+0))=PF N U O m r v k k\/13<=k:=by
  rcases An k 13 with h|h;exact .inl (yB _ VJ h);exact .inr h
 refine ⟨λh=>?_,λh=>?_⟩;have h2:=h1.resolve_right VJ;rw [h2];refine ⟨VJ,VJ,VJ,λhneg=>?_,λiR=>?_⟩
 ·have hno:xL N U O m r v=false:=by
   cases ho:xL N U O m r v;rfl;have:=GC.1 ho k VJ;simp at this;omega
  (with_reducible repeat' first|apply Al|intro _)
  all_goals first|exact PO|(rename_i E hE;cases hE;exact hQ.2 hno)
 exact VF
 ·obtain ⟨hx1,hx2⟩:=hx;obtain rfl:k=13:=VJ;have iJ:xL N U O m r v=true:=GC.2 (λj hj=>by simpa using hx2 j hj)
  (with_reducible repeat' first|apply Al|intro _)
  all_goals first|exact PO|(rename_i E hE;cases hE;exact hQ.1 iJ)
end
theorem Qm1{S:Code->UG->Prop}{c:Code}{s0 s1 s2 s3 s4 s5:UG}(h0: ∀cj,VS c 0=some cj->S cj s0)(h1: ∀cj,VS c 1=some cj->S cj s1)(h2: ∀cj,VS c 2=some cj->S cj s2)(h3: ∀cj,VS c 3=some cj->S cj s3)(h4: ∀cj,VS c 4=some cj->S cj s4)(h5: ∀cj,VS c 5=some cj->S cj s5):
  ∀j cj,VS c j=some cj-> ∀sp,[s0,s1,s2,s3,s4,s5][j]? =some sp->S cj sp:=by
 intro j cj hj sp hsp
 match j with
 | 0=>simp at hsp;subst hsp;exact h0 cj hj
 | 1=>simp at hsp;subst hsp;exact h1 cj hj
 | 2=>simp at hsp;subst hsp;exact h2 cj hj
 | 3=>simp at hsp;subst hsp;exact h3 cj hj
 | 4=>simp at hsp;subst hsp;exact h4 cj hj
 | 5=>simp at hsp;subst hsp;exact h5 cj hj
 |j+6=>simp at hsp
section
variable (N:Nat)
abbrev KG(U:Cg)(O:Cg)(m:Ch)(r:Nat->Cg)(v:Nat->Cg):AV:=roI [] 169 (λk=>UZ (PF N U O m r v) k) 0
theorem Xo0(U O:Cg)(m:Ch)(r v:Nat->Cg)(VR:bOK N U O m r v):UN VO 80 [.ro [ofs,i 1,bds N U O m r v,.lst 2 (HD m N) (plF m N),.top],.agg [.x (.int .u64 0)]] (.branch (xL N U O m r v) (.leaf (.tup [.roI [] 169 (UZ (PF N U O m r v)) 0,.lit true])) (.leaf (.tup [Bo.nilP,.lit false]))):=by
 refine GT (L:=[Zb9 N U O m r v,Zb7 N U O m r v,Zb6 N U O m r v,Zb5 N U O m r v,Zb4 N U O m r v,Zb1 N U O m r v]) (Ae RI (Ae LW (Ae RA Aa))) (Ai Ab (Ag RM Ac)) VZ Tryz.func80 (UU Tryz.f80) (Qm1 (lpE (b:= .loop Zx5) VU<|(Jm4 N U O m r v).N) (lpE (b:= .loop Jw7) VU<|(Jm2 N U O m r v).N) (lpE (b:= .loop Jw6) VU<|(Jm1 N U O m r v VR).N) (lpE (b:= .loop Jw5) VU<|(Jm0 N U O m r v VR).N) (lpE (b:= .loop Zx4) VU<|(Jl9 N U O m r v VR).N) (lpE (b:= .loop Jw3) VU<|(Jl6 N U O m r v VR).N)) (t:=let W:=(VY (AV.ro [lst 2 3 λk=>[iI (oL k),iI (oH k)],iI 1,Q1 N U O m r v,Q2 m N,top]));let z1:=(VY (lst 2 3 λk=>[iI (oL k),iI (oH k)]));let z2:=(VY (HD m N:Int));let z3:=(VY ((3:Nat):Int));(need [W,VY (agg QC),QO,QD=QD,WL,W7,(0:Int)=((0:Nat):Int),169=169,GV 169 (UA QK) (UZ (LV 0 0)),QN] (need [W,VY (agg QC),QO,QD=QD,WL,W7,XE,z1,z3,(0:Int)=((0:Nat):Int),169=169,GV 169 (UZ (LV 13 0)) (UZ (ofM 0)),QN] (need [W,VY (agg QC),QO,QD=QD,WL,W7,XE,z1,z3,XI,WW N U O m r v,VY (N:Int),(0:Int)=((0:Nat):Int),169=169,GV 169 (UZ (ofM 3)) (UZ (btM U O 0)),QN] (need [W,VY (agg QC),QO,QD=QD,WL,W7,XE,z1,z3,XI,WW N U O m r v,VY (N:Int),VY (N:Int),VY (Q2 m N),z2,(0:Int)=((0:Nat):Int),169=169,GV 169 (UZ (btM U O N)) (UZ (rS N U O m r v 0)),QN] (need [W,VY (agg QC),QO,QD=QD,WL,W7,XE,z1,z3,XI,WW N U O m r v,VY (N:Int),VY (N:Int),VY (Q2 m N),z2,z2,(0:Int)=((0:Nat):Int),169=169,GV 169 (UZ (rS N U O m r v (HD m N))) (UZ (fwO 12 (r0M N U O m r v) 0)),QN] (need [W,VY (agg QC),QO,W7,XE,z1,z3,XI,WW N U O m r v,VY (N:Int),VY (N:Int),VY (Q2 m N),z2,z2,XE,(0:Int)=((0:Nat):Int),169=169,GV 169 (UZ (fwO 12 (r0M N U O m r v) 13)) (UZ (PF N U O m r v)),QN] (branch (xL N U O m r v) (leaf (tup [KG N U O m r v,AV.lit true])) (leaf (tup [QD,AV.lit false])))))))))) VU ?_
 intro Q hQ;simp only [VM.sat,UB,UH,VL,RQ,GN] at hQ ⊢
 (with_reducible repeat' first|apply Al|intro _)
 all_goals first|exact Ak|omega|with_reducible rfl|rfl|exact Xm2 _|(rename_i h;exact h.elim)|(rename_i h;exact ⟨.tup [.roI [] 169 (UZ (PF N U O m r v)) 0,.lit true],⟨⟨rfl,rfl,λ_ _=>rfl,rfl⟩,rfl,Ak⟩,hQ.1 h⟩)|(rename_i h;exact ⟨.tup [Bo.nilP,.lit false],⟨rfl,rfl,Ak⟩,hQ.2 h⟩)
def Zt2(U O:Cg)(m:Ch)(r v:Nat->Cg):DD:=λl=>some (.need [l=[.ro [ofs,i 1,bds N U O m r v,.lst 2 (HD m N) (plF m N),.top],.agg [.x (.int .u64 0)]]] (.branch (xL N U O m r v) (.leaf (.tup [.roI [] 169 (UZ (PF N U O m r v)) 0,.lit true])) (.leaf (.tup [Bo.nilP,.lit false]))))
theorem Ww2(U O:Cg)(m:Ch)(r v:Nat->Cg)(VR:bOK N U O m r v):Sx.Enters Tryz.prog 80/\ ∀avs t,Zt2 N U O m r v avs=some t->UN VO 80 avs t:=by
 refine ⟨(UJ Tryz.func80),?_⟩;intro avs t h;cases h;intro Q hQ;have e:=hQ.1
 dsimp only [UB] at e
 subst e;exact Xo0 N U O m r v VR Q hQ.2
def bV(U O:Cg)(m:Ch)(r v:Nat->Cg):Prop:=bOK N U O m r v/\ ∀b,b<N-> ∀j k,j<k->k<m b->r b j≠r b k
end
section
variable {N:Nat}{U O:Cg}{m:Ch}{r v:Nat->Cg}
theorem Ja7(h:bV N U O m r v):vB N (λk=>[i (U k),i (O k),bts (m k) (r k) (v k)]):=by
 refine ⟨h.1.1,U,O,m,λk j=>[i (r k j),i (v k j)],λ_ _=>rfl,λk hk=>⟨λ_ _=>rfl,⟨?_,λj hj=>?_,λj q hj hq=>?_⟩,?_⟩⟩;have:=(h.1.2 k hk).1;omega;obtain ⟨h1,h2,h3,h4,h5⟩:=h.1.2 k hk;exact h5 j hj;exact h.2 k hk j q hj hq;obtain ⟨h1,h2,h3,h4,h5⟩:=h.1.2 k hk;exact (insB_iff _ _ _ _).2 ⟨h2,h3,h4⟩
theorem Ww9(h:bV N U O m r v):N<=1000/\ ∀b,b<N->m b<=1000:=⟨by have:=h.1.1;omega,λb hb=>by have:=(h.1.2 b hb).1;omega⟩
end
section
variable (f:Ci)(er:Int)(N:Nat)(U O:Cg)(m:Ch)(r v:Nat->Cg)
def Xq2:UX:=λl=>some ([l=[.agg [.lst 2 3 f,i er,bds N U O m r v]]],.ro [.lst 2 3 f,i er,bds N U O m r v,.lst 2 (HD m N) (plF m N),.top])
theorem Qt0(VR:N<=1000)(UE: ∀b,b<N->m b<=1000):PI VO 79 (Xq2 f er N U O m r v):=by
 refine ⟨(UJ Tryz.func79),?_⟩;intro avs ns res h hn;cases h;have e:=hn _ GD;subst e;exact Wv3 f er N U O m r v VR UE
end
section
variable (N:Nat)(U O:Cg)(m:Ch)(r v:Nat->Cg)
theorem Qt1(VR:bV N U O m r v):UN VO 52 [.agg [ofs,i 1,bds N U O m r v],.lit true] (.branch (xL N U O m r v) (.leaf (.tup [.roI [] 169 (UZ (PF N U O m r v)) 0,i 0])) (.leaf (.tup [Bo.nilP,i 9]))):=by
 refine GT (L:=[]) (Ae Qt9 Aa) (Aj (Af (Qt0 (λk=>[i (oL k),i (oH k)]) 1 N U O m r v (Ww9 VR).1 (Ww9 VR).2) Ab) Ac (Ah (Ww2 N U O m r v VR.1) (U8.nil _))) VZ Tryz.func52 (UU Tryz.f52) G8 (t:=need [ofB λk=>[i (oL k),i (oH k)],vB N λk=>[i (U k),i (O k),bts (m k) (r k) (v k)]] (branch ((0:Int) != 0) (leaf (tup [QD,iI 0])) (need [VY ([agg [lst 2 3 λk=>[iI (oL k),iI (oH k)],iI 1,Q1 N U O m r v]])] (need [VY ([AV.ro [lst 2 3 λk=>[iI (oL k),iI (oH k)],iI 1,Q1 N U O m r v,Q2 m N,top],agg QC])] (branch (xL N U O m r v) (leaf (tup [KG N U O m r v,iI 0])) (leaf (tup [QD,iI 9]))))))) VU ?_;intro Q hQ;simp only [VM.sat,UB,UH] at hQ ⊢;refine ⟨⟨λ_ _=>rfl,Ja7 VR⟩,λh=>by simp at h,λ_=>⟨λh=>⟨.tup [.roI [] 169 (UZ (PF N U O m r v)) 0,i 0],⟨⟨rfl,rfl,λ_ _=>rfl,rfl⟩,⟨rfl,rfl⟩,Ak⟩,hQ.1 h⟩,λh=>⟨.tup [Bo.nilP,i 9],⟨rfl,⟨rfl,rfl⟩,Ak⟩,hQ.2 h⟩⟩⟩
def Xa9:DD:=λl=>some (.need [l=[.agg [ofs,i 1,bds N U O m r v],.lit true]] (.branch (xL N U O m r v) (.leaf (.tup [.roI [] 169 (UZ (PF N U O m r v)) 0,i 0])) (.leaf (.tup [Bo.nilP,i 9]))))
theorem IW(VR:bV N U O m r v):Sx.Enters Tryz.prog 52/\ ∀avs t,Xa9 N U O m r v avs=some t->UN VO 52 avs t:=by
 refine ⟨(UJ Tryz.func52),?_⟩;intro avs t h;cases h;intro Q hQ;have e:=hQ.1
 dsimp only [UB] at e
 subst e;exact Qt1 N U O m r v VR Q hQ.2
end
def Wz0:UX
 |[.roI [] 169 F 0,.x (.int .i64 a),.x (.int .i64 b)]=>some ([0<=a/\a<=12,0<=b/\b<=12,-1000000000000000<=F (b.toNat*13+a.toNat)/\F (b.toNat*13+a.toNat)<=1000000000000000],i (-(F (b.toNat*13+a.toNat))))
 |_=>none
theorem Xn9(F:Cg)(a b:Int)(VR:0<=a/\a<=12)(UE:0<=b/\b<=12)(HK: -1000000000000000<=F (b.toNat*13+a.toNat)/\F (b.toNat*13+a.toNat)<=1000000000000000):VX VO 81 [.roI [] 169 F 0,i a,i b] (i (-(F (b.toNat*13+a.toNat)))):=by
 refine GW Tryz.func81 (t:=need [UI b 13] (need [UI a 13] (need [Int.toNat a*1+(Int.toNat b*13+0)<169] (need [VL (-F (Int.toNat a*1+(Int.toNat b*13+0)))] (leaf (RV.x (.int .i64 (-F (Int.toNat a*1+(Int.toNat b*13+0)))))))))) VU ?_;simp only [VM.sat,UB,G0,GL,UD,UH,F4];rw [show a.toNat*1+(b.toNat*13+0)=b.toNat*13+a.toNat by omega]
 simp only [VL];simp;omega
theorem Xn8:VP VO 81 Wz0:=by
 refine ⟨(UJ Tryz.func81),?_⟩;intro avs ns res h hn;unfold Wz0 at h;split at h;cases h;exact Xn9 _ _ _ (hn _ VT) (hn _ VT) (hn _ VT);cases h
def Qi2:UX
 |[.roI [] 169 F 0,.x (.int .i64 a),.x (.int .i64 b)]=>some ([0<=a/\a<=12,0<=b/\b<=12,-1000000000000000<=F (a.toNat*13+b.toNat)/\F (a.toNat*13+b.toNat)<=1000000000000000],i (F (a.toNat*13+b.toNat)))
 |_=>none
theorem Ww0(F:Cg)(a b:Int)(VR:0<=a/\a<=12)(UE:0<=b/\b<=12)(HK: -1000000000000000<=F (a.toNat*13+b.toNat)/\F (a.toNat*13+b.toNat)<=1000000000000000):VX VO 82 [.roI [] 169 F 0,i a,i b] (i (F (a.toNat*13+b.toNat))):=by
 refine GW Tryz.func82 (t:=need [UI a 13] (need [UI b 13] (need [Int.toNat b*1+(Int.toNat a*13+0)<169] (leaf (RV.x (.int .i64 (F (Int.toNat b*1+(Int.toNat a*13+0))))))))) VU ?_;simp only [VM.sat,UB,G0,GL,UD,UH,F4];rw [show b.toNat*1+(a.toNat*13+0)=a.toNat*13+b.toNat by omega]
 simp only [VL];simp;omega
theorem Wv9:VP VO 82 Qi2:=by
 refine ⟨(UJ Tryz.func82),?_⟩;intro avs ns res h hn;unfold Qi2 at h;split at h;cases h;exact Ww0 _ _ _ (hn _ VT) (hn _ VT) (hn _ VT);cases h
def MF:UX
 |[.roI [] 169 F 0,.x (.int .i64 a),.x (.int .i64 b)]=>some ([0<=a/\a<=12,0<=b/\b<=12,-1000000000000000<=F (b.toNat*13+a.toNat)/\F (b.toNat*13+a.toNat)<=1000000000000000,-1000000000000000<=F (a.toNat*13+b.toNat)/\F (a.toNat*13+b.toNat)<=1000000000000000],.agg [i (-(F (b.toNat*13+a.toNat))),i (F (a.toNat*13+b.toNat))])
 |_=>none
theorem m7(F:Cg)(a b:Int)(VR:0<=a/\a<=12)(UE:0<=b/\b<=12)(HK: -1000000000000000<=F (b.toNat*13+a.toNat)/\F (b.toNat*13+a.toNat)<=1000000000000000)(F1: -1000000000000000<=F (a.toNat*13+b.toNat)/\F (a.toNat*13+b.toNat)<=1000000000000000):VX VO 53 [.roI [] 169 F 0,i a,i b] (.agg [i (-(F (b.toNat*13+a.toNat))),i (F (a.toNat*13+b.toNat))]):=by
 refine U1 (L:=[]) (Ae Xn8 (Ae Wv9 Aa)) VZ Tryz.func53 (UU Tryz.f53) U2 (t:=need [(0:Int)<=a/\a<=12,(0:Int)<=b/\b<=12,(-1000000000000000:Int)<=F (Int.toNat b*13+Int.toNat a)/\F (Int.toNat b*13+Int.toNat a)<=1000000000000000] (need [(0:Int)<=a/\a<=12,(0:Int)<=b/\b<=12,(-1000000000000000:Int)<=F (Int.toNat a*13+Int.toNat b)/\F (Int.toNat a*13+Int.toNat b)<=1000000000000000] (leaf (RV.agg [RV.x (.int .i64 (-F (Int.toNat b*13+Int.toNat a))),RV.x (.int .i64 (F (Int.toNat a*13+Int.toNat b)))])))) VU ?_;exact V1
theorem rN:VP VO 53 MF:=by
 refine ⟨(UJ Tryz.func53),?_⟩;intro avs ns res h hn;unfold MF at h;split at h;cases h;exact m7 _ _ _ (hn _ VT) (hn _ VT) (hn _ VT) (hn _ VT);cases h
theorem Xm3{N:Nat}{U O:Cg}{m:Ch}{r v:Nat->Cg}(h:bOK N U O m r v)(x y:Nat): -1000000000000000<=PF N U O m r v x y/\PF N U O m r v x y<=1000000000000000:=by
 have:=Xb8 (c:=12) (T8 h (HD m N) (Am _)) 13 x y;rw [show (8001:Int)*6^13=104498612822016 by decide] at this
 unfold PF r0M;omega
section
variable (N:Nat)(U O:Cg)(m:Ch)(r v:Nat->Cg)
def boE:Int:=if xL N U O m r v=true then 0 else 9
def boN:Nat:=if xL N U O m r v=true then 3 else 0
def boL(k:Nat):Int:= -(PF N U O m r v 0 (1+k))
def boH(k:Nat):Int:=PF N U O m r v (1+k) 0
abbrev Q9:AV:=AV.x (.slice none 0 0)
def tQ:St:={σ:=[agg [lst 2 3 λk=>[iI (oL k),iI (oH k)],iI 1,Q1 N U O m r v],ptr 0 0,Q9,iI 0,QD,iI 9]++HI 12 [iI ((3:Nat):Int)]++HI 12 [],m:=[(901,GO.row 68 2 0 λx=>[]),(0,GO.cells 59 [lst 2 3 λk=>[iI (oL k),iI (oH k)],iI 1,Q1 N U O m r v])],nx:=902}
noncomputable def Qv4:Code:=U9 (VS (U7 Tryz.f19) 0)
def vP(k:Nat):St:={σ:=GY [(19,i k),(6,.row 901),(4,.roI [] 169 (UZ (PF N U O m r v)) 0),(5,i 0)] (tQ N U O m r v).σ,m:=[(901,.row 68 2 k (λk=>[i (boL N U O m r v k),i (boH N U O m r v k)])),(0,.cells 59 [ofs,i 1,bds N U O m r v])],nx:=902}
def PR(k:Nat):G5->Option St
 | .exit 0=>some {σ:=GY [(19,i 3),(6,.row 901),(4,.roI [] 169 (UZ (PF N U O m r v)) 0),(5,i 0)] (tQ N U O m r v).σ,m:=[(901,.row 68 2 3 (λk=>[i (boL N U O m r v k),i (boH N U O m r v k)])),(0,.cells 59 [ofs,i 1,bds N U O m r v])],nx:=902}
 |_=>none
def Wy2:CT:= .leaf (.exit 0,(PR N U O m r v 0 (.exit 0)).getD (tQ N U O m r v))
def nB:UG:=GJ [(.slot 6,901,68,2)] (HF (vP N U O m r v (0)) (Wy2 N U O m r v))
abbrev KV:Prop:=(1:Int)=1
theorem Jn8(VR:bV N U O m r v):G6 VO (.loop Qv4) (nB N U O m r v):=by
 refine UR [(.slot 6,901,68,2)] (L:=[]) (Ae RI (Ae rN Aa)) (Aj Ab Ac (Ah (IW N U O m r v VR) (U8.nil _))) VZ U2 (X:=Nat) (vP N U O m r v) (λk=>k<=3) (λk=>3-k) (PR N U O m r v) (x0:=0) VT ?_ ?_ ?_;rintro k;kernel_rfl;rintro k y E h;unfold PR at h;split at h;cases h;kernel_rfl;cases h;rintro Q hQ k hx;refine ⟨(k+1),?_⟩;(with_reducible refine D9 (t:=let W:=PF N U O m r v;let z1:=(VY (agg [lst 2 3 λk=>[iI (oL k),iI (oH k)],iI 1,Q1 N U O m r v]));let z2:=(UZ (W) (((1:Int)+(k:Int)).toNat*13+(0:Int).toNat));(branch (decide ((k:Int)<((3:Nat):Int))) (need [(0:Int)<=(k:Int)/\(k:Int)<=1000] (need [(0:Int)<=1+(k:Int)/\(1:Int)+(k:Int)<=12,(0:Int)<=0/\(0:Int)<=12,(-1000000000000000:Int)<=UZ (W) (0+((1:Int)+(k:Int)).toNat)/\UZ (W) (0+((1:Int)+(k:Int)).toNat)<=1000000000000000,(-1000000000000000:Int)<=UZ (W) (((1:Int)+(k:Int)).toNat*13+(0:Int).toNat)/\UZ (W) (((1:Int)+(k:Int)).toNat*13+(0:Int).toNat)<=1000000000000000] (need [(k+1)*16<=140737488355328,RP 1 (U4 2 [iI (-UZ (W) (0+((1:Int)+(k:Int)).toNat)),iI z2])] (need [VL ((k:Int)+1)] (need [z1,QO,Q9=Q9,QN,VY (KG N U O m r v),QN,W2,VY ((3:Nat):Int),(k:Int)+1=(↑(k+1):Int),k+1=k+1,GV (k+1) (GI k (λk=>[iI (boL N U O m r v k),iI (boH N U O m r v k)]) (U4 2 [iI (-UZ (W) (0+((1:Int)+(k:Int)).toNat)),iI z2])) (λi=>[iI (boL N U O m r v i),iI (boH N U O m r v i)]),VY (lst 2 3 λk=>[iI (oL k),iI (oH k)]),KV,WW N U O m r v] (leaf G5.normal)))))) (need [z1,QO,Q9=Q9,QN,VY (KG N U O m r v),QN,W2,VY ((3:Nat):Int),(k:Int)=3,k=3,∀(i:Nat),i<3->[iI (boL N U O m r v i),iI (boH N U O m r v i)]=[iI (boL N U O m r v i),iI (boH N U O m r v i)],VY (lst 2 3 λk=>[iI (oL k),iI (oH k)]),KV,WW N U O m r v] (leaf (G5.exit 0))))) VU ?_)
 simp only [Wy2,PR,VM.sat,GS] at hQ;simp only [VM.sat,UB,G0,GL,UD,VL,UH,HA,FU,R9,RQ,GN,PR]
 have hb:=λx y=>Xm3 VR.1 x y;have e1:(1+(k:Int)).toNat=1+k:=VJ;have g1:k<3->UZ (PF N U O m r v) (0*13+(1+k))=PF N U O m r v 0 (1+k):=λ_=>yB _ VJ VJ;have g2:k<3->UZ (PF N U O m r v) ((1+k)*13+0)=PF N U O m r v (1+k) 0:=λ_=>yB _ VJ VJ;have b1:=hb 0 (1+k);have b2:=hb (1+k) 0;refine ⟨λh=>?_,λh=>?_⟩
 ·have hk:k<3:=VJ;have f1:=g1 hk;have f2:=g2 hk;rw [e1];simp only [Int.toNat_zero,f1,f2]
  (with_reducible repeat' first|apply Al|intro _)
  all_goals first|exact Ak|omega|rfl|exact FC (by assumption) (by simp [AV.one,Value.oneCell'])|exact Zr5 rfl rfl (by assumption)
 obtain rfl:k=3:=VJ;exact V0
abbrev JA:Value:=Value.slice none 0 0
abbrev YA:Value:=Value.pointer none
theorem kL(VR:bV N U O m r v):VX VO 19 [.agg [ofs,i 1,bds N U O m r v]] (.tup [.lst 2 (boN N U O m r v) (λk=>[i (boL N U O m r v k),i (boH N U O m r v k)]),i (boE N U O m r v)]):=by
 refine GA (L:=[nB N U O m r v]) (Ae RI (Ae rN Aa)) (Aj Ab Ac (Ah (IW N U O m r v VR) (U8.nil _))) VZ Tryz.func19 (UU Tryz.f19) (G7 (lpE (b:= .loop Qv4) VU<|(Jn8 N U O m r v VR).N)) (t:=let W:=([lst 2 3 λk=>[iI (oL k),iI (oH k)],iI 1,Q1 N U O m r v]);let z1:=(leaf (RV.tup [RV.lst 2 3 λk=>[iI (boL N U O m r v k),iI (boH N U O m r v k)],RV.x (WC)]));(need [VY ([agg W,AV.lit true])] (branch (xL N U O m r v) (branch ((0:Int) != 0) (leaf (RV.tup [RV.x (JA),RV.x (WC)])) (need [VY (agg W),QO,Q9=Q9,QN,VY (KG N U O m r v),QN,W2,VY ((3:Nat):Int),(0:Int)=((0:Nat):Int),0=0,∀(i:Nat),i<0->[]=[iI (boL N U O m r v i),iI (boH N U O m r v i)],VY (lst 2 3 λk=>[iI (oL k),iI (oH k)]),KV,WW N U O m r v] z1)) (branch ((9:Int) != 0) (leaf (RV.tup [RV.x (JA),RV.x (.int .i64 (9:Int))])) (need [VY (agg W),QO,Q9=Q9,QN,AV.x (YA)=roI [] 169 (λk=>UZ (PF N U O m r v) k) 0,(9:Int)=0,W2,VY ((3:Nat):Int),(0:Int)=((0:Nat):Int),0=0,∀(i:Nat),i<0->[]=[iI (boL N U O m r v i),iI (boH N U O m r v i)],VY (lst 2 3 λk=>[iI (oL k),iI (oH k)]),KV,WW N U O m r v] z1))))) VU ?_
 simp only [VM.sat,UB,G0,GL,UD,UH];refine ⟨λhok=>⟨λh=>by simp at h,λ_=>?_⟩,λhno=>⟨λ_=>?_,λh=>by simp at h⟩⟩
 ·unfold boN boE;rw [if_pos hok,if_pos hok]
  (with_reducible repeat' first|apply Al|intro _)
  all_goals first|exact Ak|omega|rfl|(rename_i hm;simp only [GM,DL,or_false] at hm;rcases hm with rfl|rfl<;>exact Ak)
 unfold boN boE;rw [if_neg (by simp [hno]),if_neg (by simp [hno])]
 exact ⟨⟨Ak,rfl⟩,rfl⟩
def tE:UX:=λl=>some ([l=[.agg [ofs,i 1,bds N U O m r v]]],.tup [.lst 2 (boN N U O m r v) (λk=>[i (boL N U O m r v k),i (boH N U O m r v k)]),i (boE N U O m r v)])
theorem aZ(VR:bV N U O m r v):VP VO 19 (tE N U O m r v):=by
 refine ⟨(UJ Tryz.func19),?_⟩;intro avs ns res h hn;cases h;have e:=hn _ GD;subst e;exact kL N U O m r v VR
end
def S7:UX
 |[.x (.int .i64 n),.x (.int .i64 U),.x (.int .i64 O)]=>some ([],bl (bt U n O))
 |_=>none
theorem oA(n U O:Int):VX VO 73 [i n,i U,i O] (bl (bt U n O)):=by
 refine GW Tryz.func73 (t:=branch (decide (U<=n)) (leaf (RV.x (.bool (decide (n<=O))))) (leaf (RV.x (W6)))) VU ?_;exact VA
theorem zC:VP VO 73 S7:=by
 refine ⟨(UJ Tryz.func73),?_⟩;intro avs ns res h hn;unfold S7 at h;split at h;cases h;exact oA _ _ _;cases h
def Wy4:UX
 |[.x (.int .i64 n)]=>some ([],bl (bt 0 n 100))
 |_=>none
theorem Xh3(n:Int):VX VO 56 [i n] (bl (bt 0 n 100)):=by
 refine U1 (L:=[]) (Ae zC Aa) VZ Tryz.func56 (UU Tryz.f56) U2 (t:=leaf (RV.x (.bool (bt (0:Int) n (100:Int))))) VU ?_;exact V1
theorem A9:VP VO 56 Wy4:=by
 refine ⟨(UJ Tryz.func56),?_⟩;intro avs ns res h hn;unfold Wy4 at h;split at h;cases h;exact Xh3 _;cases h
def M9:UX:=kO
theorem Qn1(a b:Int):VX VO 89 [.lst 1 2 (λk=>[i (if k=0 then a else b)])] (i (min a b)):=by
 refine U1 (L:=[]) (Ae SZ Aa) VZ Tryz.func89 (UU Tryz.f89) U2 (t:=leaf (RV.x (.int .i64 (min (if 0=0 then a else b) (if 1=0 then a else b))))) VU ?_
 simp [VM.sat,G0,UD]
theorem PP:VP VO 89 M9:=by
 refine ⟨(UJ Tryz.func89),?_⟩;intro avs ns res h hn;unfold M9 kO at h;split at h;rename_i f;split at h;rename_i a b h0 h1;cases h;refine (Qn1 a b).same (.cons (.lst 1 2 _ _ ?_) .nil);intro k hk;rcases (show k=0\/k=1 by omega) with rfl|rfl
 exact h0;exact h1;cases h;cases h
def kP:UX:=fH
theorem T9(a b:Int):VX VO 90 [.lst 1 2 (λk=>[i (if k=0 then a else b)])] (i (max a b)):=by
 refine U1 (L:=[]) (Ae Qa6 Aa) VZ Tryz.func90 (UU Tryz.f90) U2 (t:=leaf (RV.x (.int .i64 (max (if 0=0 then a else b) (if 1=0 then a else b))))) VU ?_
 simp [VM.sat,G0,UD]
theorem F0:VP VO 90 kP:=by
 refine ⟨(UJ Tryz.func90),?_⟩;intro avs ns res h hn;unfold kP fH at h;split at h;rename_i f;split at h;rename_i a b h0 h1;cases h;refine (T9 a b).same (.cons (.lst 1 2 _ _ ?_) .nil);intro k hk;rcases (show k=0\/k=1 by omega) with rfl|rfl
 exact h0;exact h1;cases h;cases h
def saB(f t q U O:Int):Bool:=bt 0 f 3&&bt 0 t 3&&(f != t)&&bt 1 q 1000&&bt 0 U 100&&bt 0 O 100&&decide (U<=O)
abbrev sls(n:Nat)(f t q U O:Cg):AV:= .lst 5 n (λk=>[i (f k),i (t k),i (q k),i (U k),i (O k)])
def N4(d:Int)(n:Nat):Bool:=Xo9 (d / 2^n) 1==1
theorem Xg2{f t q U O:Int}:saB f t q U O=true↔(0<=f/\f<=3)/\(0<=t/\t<=3)/\f≠t/\(1<=q/\q<=1000)/\(0<=U/\U<=100)/\(0<=O/\O<=100)/\U<=O:=by
 simp [saB,bt_iff,and_assoc]
theorem bY{q:Nat}(h:q<2^40):IntKind.i64.wrap (q:Int)=q:=by
 have e:IntKind.i64.wrap (q:Int)=if (true&&decide ((q:Int)%2^64>=2^63))=true then (q:Int)%2^64-2^64 else (q:Int)%2^64:=rfl
 have e2:(q:Int)%2^64=q:=Int.emod_eq_of_lt VJ VJ;rw [e,e2,if_neg];rw [Bool.true_and,qQ];omega
theorem sH{z:Nat}(hz:z<8192):(BitVec.ofInt 64 (z:Int)).toNat=z:=by
 rw [BitVec.toNat_ofInt];omega
theorem Xh9{x y:Nat}(hx:x<8192)(hy:y<8192):orI x y=((x ||| y:Nat):Int):=by
 unfold orI;rw [BitVec.toNat_or,sH hx,sH hy];have hlt:x ||| y<2^13:=Nat.or_lt_two_pow VJ VJ
 exact bY VJ
theorem Wx2{x:Nat}(hx:x<8192):Xo9 x 1=((x%2:Nat):Int):=by
 unfold Xo9;rw [BitVec.toNat_and,sH hx,show (BitVec.ofInt 64 1).toNat=1 from rfl,Nat.and_one_is_mod];exact bY VJ
theorem Zq6(d n:Nat):((d:Int) / 2^n)=((d / 2^n:Nat):Int):=by
 rw [Int.natCast_ediv,Int.natCast_pow];rfl
theorem Wq7{d n:Nat}(hd:d<8192):N4 d n=d.testBit n:=by
 unfold N4;rw [Zq6,Wx2 (Nat.lt_of_le_of_lt (Nat.div_le_self _ _) hd),Nat.testBit_eq_decide_div_mod_eq,Bool.eq_iff_iff,beq_iff_eq,qQ];omega
def sU:UX
 |[.x (.int .i64 d),.x (.int .i64 n)]=>some ([0<=n/\n<=64],bl (N4 d n.toNat))
 |_=>none
theorem Xh2(d n:Int)(VR:0<=n/\n<=64):VX VO 133 [i d,i n] (bl (N4 d n.toNat)):=by
 refine GW Tryz.func133 (t:=need [(0:Int)<=n/\n<=64] (leaf (RV.x (.bool (IntKind.wrap IntKind.i64 (↑(BitVec.toNat (BitVec.ofInt 64 (d / (2:Int)^Int.toNat n) &&& BitVec.ofInt 64 (1:Int))):Int)==1))))) VU ?_;exact V1
theorem A8:VP VO 133 sU:=by
 refine ⟨(UJ Tryz.func133),?_⟩;intro avs ns res h hn;unfold sU at h;split at h;cases h;exact Xh2 _ _ (hn _ VT);cases h
def Qh3:UX
 |[.agg [.x (.int .i64 4),.x (.int .i64 10),.lst 5 n f],.agg [.x (.int .i64 a),.x (.int .i64 b),.x (.int .i64 c),.x (.int .i64 U),.x (.int .i64 O)]]=>some ([],bl (saB a b c U O))
 |_=>none
theorem Wd9(f:Ci)(n:Nat)(a b c U O:Int):VX VO 129 [.agg [i 4,i 10,.lst 5 n f],.agg [i a,i b,i c,i U,i O]] (bl (saB a b c U O)):=by
 refine U1 (L:=[]) (Ae zC (Ae A9 Aa)) VZ Tryz.func129 (UU Tryz.f129) U2 (t:=need [VL ((4:Int)-1)] (branch (bt (0:Int) a ((4:Int)-1)) (need [VL ((4:Int)-1)] (branch (bt (0:Int) b ((4:Int)-1)) (branch (a != b) (branch (bt (1:Int) c (1000:Int)) (branch (bt (0:Int) U (100:Int)) (branch (bt (0:Int) O (100:Int)) (leaf (RV.x (.bool (decide (U<=O))))) (leaf (RV.x (W6)))) (leaf (RV.x (W6)))) (leaf (RV.x (W6)))) (leaf (RV.x (W6)))) (leaf (RV.x (W6))))) (leaf (RV.x (W6))))) VU ?_;simp only [VM.sat,UB,G0,GL,UD,UH,VL,saB];refine ⟨VJ,?_⟩;cases h1:bt 0 a 3<;>cases h2:bt 0 b 3<;>cases h3:(a != b)<;>cases h4:bt 1 c 1000<;>cases h5:bt 0 U 100<;>cases h6:bt 0 O 100<;>simp [h1,h2,h3,h4,h5,h6]
theorem Wd8:VP VO 129 Qh3:=by
 refine ⟨(UJ Tryz.func129),?_⟩;intro avs ns res h hn;unfold Qh3 at h;split at h;cases h;exact Wd9 _ _ _ _ _ _ _;cases h
def Qh4:UX
 |[.agg [.x (.int .i64 a),.x (.int .i64 b),.x (.int .i64 c),.x (.int .i64 U),.x (.int .i64 O)],.ro [.fn (.func 129) [.agg [.x (.int .i64 4),.x (.int .i64 10),.lst 5 n f]] []]]=>some ([],bl (!saB a b c U O))
 |_=>none
theorem We3(f:Ci)(n:Nat)(a b c U O:Int):VX VO 170 [.agg [i a,i b,i c,i U,i O],.ro [.fn (.func 129) [.agg [i 4,i 10,.lst 5 n f]] []]] (bl (!saB a b c U O)):=by
 refine U1 (L:=[]) (Ae Wd8 Aa) VZ Tryz.func170 (UU Tryz.f170) U2 (t:=leaf (RV.x (.bool !saB a b c U O))) VU ?_;exact V1
theorem eF:VP VO 170 Qh4:=by
 refine ⟨(UJ Tryz.func170),?_⟩;intro avs ns res h hn;unfold Qh4 at h;split at h;cases h;exact We3 _ _ _ _ _ _ _;cases h
def nsB(a b c U O:Cg)(j:Nat):Bool:= !saB (a j) (b j) (c j) (U j) (O j)
def j7(n:Nat)(a b c U O:Cg):Bool:=D3 (λj=>saB (a j) (b j) (c j) (U j) (O j)) n
abbrev Q0(n:Nat)(a:Cg)(b:Cg)(c:Cg)(U:Cg)(O:Cg):AV:=lst 5 n λk=>[iI (a k),iI (b k),iI (c k),iI (U k),iI (O k)]
abbrev WK(n1:Nat)(f:Ci):AV:=AV.fn (Fn.func 170) [] [AV.ro [AV.fn (Fn.func 129) [agg [iI 4,iI 10,lst 5 n1 λa=>f a]] []]]
section
variable (n:Nat)(a b c U O:Cg)(f:Ci)(n1:Nat)
def MJ:St:={σ:=[Q0 n a b c U O,WK n1 f]++HI 5 [iI (n:Int)]++HI 11 [],m:=[],nx:=4}
noncomputable def Xe4:Code:=U9 (VS (U7 Tryz.f199) 0)
def iG(k:Nat):St:=(upM [(8,i k)] (MJ n a b c U O f n1))
def xB(k:Nat):G5->Option St
 | .ret=>some (upM [(4,i (GX ((nsB a b c U O)) n))] (MJ n a b c U O f n1))
 | .exit 0=>some (upM [] (MJ n a b c U O f n1))
 |_=>none
def Wx8:CT:= .branch (decide (GX ((nsB a b c U O)) n<n)) (.leaf (.ret,(xB n a b c U O f n1 0 .ret).getD (MJ n a b c U O f n1))) (.leaf (.exit 0,(xB n a b c U O f n1 0 (.exit 0)).getD (MJ n a b c U O f n1)))
def Qk4:UG:=(HF (iG n a b c U O f n1 (0)) (Wx8 n a b c U O f n1))
end
abbrev W0(n:Nat)(a:Cg)(b:Cg)(c:Cg)(U:Cg)(O:Cg):Prop:=(Q0 n a b c U O)=Q0 n a b c U O
theorem VE{p:Prop}(h:p:=by
 refine ⟨by have:=Xk8 hk hb;omega,λE hE=>?_⟩
 cases hE;exact hQ.1 (by rw [Xk8 hk hb];exact hk)):p:=h
section
variable (n:Nat)(a b c U O:Cg)(f:Ci)(n1:Nat)
theorem Xe8(VR:n<=100000):G6 VO (.loop Xe4) (Qk4 n a b c U O f n1):=by
 refine HH (L:=[]) (Ae eF Aa) VZ U2 (X:=Nat) (iG n a b c U O f n1) (λk=>k<=n/\ ∀j,j<k->(nsB a b c U O) j=false) (λk=>n-k) (xB n a b c U O f n1) (x0:=0) ⟨VJ,λj hj=>VJ⟩ ?_ ?_ ?_;rintro k;kernel_rfl;rintro k y E h;unfold xB at h;split at h;cases h;kernel_rfl;cases h;kernel_rfl;cases h
 ·rintro Q hQ k hx;refine ⟨(k+1),?_⟩;(with_reducible refine D9 (t:=branch (decide ((k:Int)<(n:Int))) (need [UI k n] (branch (!saB (a k) (b k) (c k) (U k) (O k)) (need [W0 n a b c U O,VY (WK n1 f),(k:Int)=(↑(GX (nsB a b c U O) n):Int),VY (n:Int)] (leaf G5.ret)) (need [VL ((k:Int)+1)] (need [W0 n a b c U O,VY (WK n1 f),VY (n:Int),(k:Int)+1=(↑(k+1):Int)] (leaf G5.normal))))) (need [W0 n a b c U O,VY (WK n1 f),VY (n:Int)] (leaf (G5.exit 0)))) VU ?_);simp only [Wx8,xB,VM.sat,GS,HA] at hQ;simp only [VM.sat,UB,UH,HA,VL,xB,F4];have Xk8:k<n->((nsB a b c U O)) k=true->GX ((nsB a b c U O)) n=k:=λh hb=>zQ h hb hx.2;have PL: ¬k<n->GX ((nsB a b c U O)) n=n:=λh=>qB (λj hj=>hx.2 j VJ);have hgo:((nsB a b c U O)) k=false-> ∀j,j<k+1->((nsB a b c U O)) j=false:=by
   intro hb j hj;rcases (show j<k\/j=k by omega) with h1|rfl
   exact hx.2 j h1;exact hb
  refine ⟨λh=>⟨VJ,?_⟩,λh=>?_⟩
  rotate_left
  intro E hE;cases hE;exact hQ.2 (by rw [PL VJ];omega)
  have hk:k<n:=VJ;refine ⟨λhb=>?_,λhb=>?_⟩;exact VE;exact ⟨VJ,VJ,⟨VJ,hgo hb⟩,VJ⟩
theorem Zk8(VR:n<=100000):VX VO 199 [sls n a b c U O,.fn (.func 170) [] [.ro [.fn (.func 129) [.agg [i 4,i 10,.lst 5 n1 f]] []]]] (i (if GX ((nsB a b c U O)) n<n then (GX ((nsB a b c U O)) n:Int) else -1)):=by
 refine U1 (L:=[Qk4 n a b c U O f n1]) (Ae eF Aa) VZ Tryz.func199 (UU Tryz.f199) (G7 (lpE (b:= .loop Xe4) VU<|Xe8 n a b c U O f n1 VR)) (t:=need [W0 n a b c U O,VY (WK n1 f),VY (n:Int),(0:Int)=((0:Nat):Int)] (branch (decide (GX (nsB a b c U O) n<n)) (leaf (RV.x (.int .i64 (↑(GX (nsB a b c U O) n):Int)))) (leaf (RV.x (KL))))) VU ?_
 exact VC
end
def Xx1:UX
 |[.lst 5 n f,.fn (.func 170) [] [.ro [.fn (.func 129) [.agg [.x (.int .i64 4),.x (.int .i64 10),.lst 5 n1 f1]] []]]]=>some ([UF 5 n f,n<=100000],i (if GX (nsB (col 0 f) (col 1 f) (col 2 f) (col 3 f) (col 4 f)) n<n then (GX (nsB (col 0 f) (col 1 f) (col 2 f) (col 3 f) (col 4 f)) n:Int) else -1))
 |_=>none
theorem Zk7:VP VO 199 Xx1:=by
 refine ⟨(UJ Tryz.func199),?_⟩;intro avs ns res h hn;unfold Xx1 at h;split at h;cases h;have hr:_:=hn _ (GD);have hr1:_:=hn _ (HL _ (GD));exact (Zk8 _ (col 0 _) (col 1 _) (col 2 _) (col 3 _) (col 4 _) _ _ hr1).same (.cons (.lst 5 _ _ _ hr) (.cons (.refl _) .nil));cases h
theorem Zl0(n:Nat)(a b c U O:Cg)(f:Ci)(n1:Nat)(VR:n<=100000):VX VO 169 [sls n a b c U O,.fn (.func 170) [] [.ro [.fn (.func 129) [.agg [i 4,i 10,.lst 5 n1 f]] []]]] (bl (!j7 n a b c U O)):=by
 refine U1 (L:=[]) (Ae Zk7 Aa) VZ Tryz.func169 (UU Tryz.f169) U2 (t:=need [UF 5 n λk=>[i (a k),i (b k),i (c k),i (U k),i (O k)],n<=100000] (leaf (RV.x (.bool (decide ((if GX (nsB a b c U O) n<n then (↑(GX (nsB a b c U O) n):Int) else (-1:Int))>=(0:Int))))))) VU ?_
 simp only [VM.sat,UB,G0,UD,UH];refine ⟨⟨λ_ _=>rfl,VR⟩,?_⟩;unfold j7;rw [kM];have:=F6 (nsB a b c U O) n;have e:(λk=> !(λk=>saB (a k) (b k) (c k) (U k) (O k)) k)=nsB a b c U O:=rfl;rw [e];show decide ((if GX (nsB a b c U O) n<n then (GX (nsB a b c U O) n:Int) else -1)>=0)=_
 split<;>simp<;>omega
def Xx2:UX
 |[.lst 5 n f,.fn (.func 170) [] [.ro [.fn (.func 129) [.agg [.x (.int .i64 4),.x (.int .i64 10),.lst 5 n1 f1]] []]]]=>some ([UF 5 n f,n<=100000],bl (!j7 n (col 0 f) (col 1 f) (col 2 f) (col 3 f) (col 4 f)))
 |_=>none
theorem Zk9:VP VO 169 Xx2:=by
 refine ⟨(UJ Tryz.func169),?_⟩;intro avs ns res h hn;unfold Xx2 at h;split at h;cases h;have hr:_:=hn _ (GD);have hr1:_:=hn _ (HL _ (GD));exact (Zl0 _ (col 0 _) (col 1 _) (col 2 _) (col 3 _) (col 4 _) _ _ hr1).same (.cons (.lst 5 _ _ _ hr) (.cons (.refl _) .nil));cases h
theorem Xh5(n:Nat)(a b c U O:Cg)(f:Ci)(n1:Nat)(VR:n<=100000):VX VO 130 [sls n a b c U O,.fn (.func 129) [.agg [i 4,i 10,.lst 5 n1 f]] []] (bl (j7 n a b c U O)):=by
 refine U1 (L:=[]) (Ae Zk9 Aa) VZ Tryz.func130 (UU Tryz.f130) U2 (t:=need [UF 5 n λk=>[i (a k),i (b k),i (c k),i (U k),i (O k)],n<=100000] (leaf (RV.x (.bool !!j7 n a b c U O)))) VU ?_;simp only [VM.sat,UB,G0,UD,UH];refine ⟨⟨λ_ _=>rfl,VR⟩,?_⟩;show (!!j7 n a b c U O)=_;simp
def Wy5:UX
 |[.lst 5 n f,.fn (.func 129) [.agg [.x (.int .i64 4),.x (.int .i64 10),.lst 5 n1 f1]] []]=>some ([UF 5 n f,n<=100000],bl (j7 n (col 0 f) (col 1 f) (col 2 f) (col 3 f) (col 4 f)))
 |_=>none
theorem Xh4:VP VO 130 Wy5:=by
 refine ⟨(UJ Tryz.func130),?_⟩;intro avs ns res h hn;unfold Wy5 at h;split at h;cases h;have hr:_:=hn _ (GD);have hr1:_:=hn _ (HL _ (GD));exact (Xh5 _ (col 0 _) (col 1 _) (col 2 _) (col 3 _) (col 4 _) _ _ hr1).same (.cons (.lst 5 _ _ _ hr) (.cons (.refl _) .nil));cases h
theorem NR(n:Nat)(a b c U O:Cg)(VR:n<=8):VX VO 83 [.agg [i 4,i 10,sls n a b c U O]] (i (if j7 n a b c U O then 0 else 1)):=by
 refine U1 (L:=[]) (Ae Xh4 (Ae zC Aa)) VZ Tryz.func83 (UU Tryz.f83) U2 (t:=branch (decide ((n:Int)>8)) (leaf (RV.x (KN))) (branch (!bt (1:Int) (4:Int) (6:Int)) (leaf (RV.x (JY))) (branch (!bt (0:Int) (10:Int) (1000:Int)) (leaf (RV.x (JY))) (need [UF 5 n λk=>[i (a k),i (b k),i (c k),i (U k),i (O k)],n<=100000] (branch (!j7 n a b c U O) (leaf (RV.x (JY))) (leaf (RV.x (WC)))))))) VU ?_;simp only [VM.sat,UB,G0,UD,UH];have h1:(!bt 1 4 6)=false:=by decide
 have h2:(!bt 0 10 1000)=false:=by decide
 rw [h1,h2];refine ⟨λh=>absurd h (by simp;omega),λ_=>⟨λh=>(Bool.noConfusion h),λ_=>⟨λh=>(Bool.noConfusion h),λ_=>⟨⟨λ_ _=>rfl,VJ⟩,λh=>?_,λh=>?_⟩⟩⟩⟩
 rw [Ax] at h;rw [h];rfl;rw [Bool.not_eq_false'] at h;rw [h];rfl
def sg0(k:Nat):Int:=if k=0 then 10 else 0
def sld(F:Cg)(a b c:Int)(k:Nat):Int:=if (k:Int)=b then (if (k:Int)=a then F k-c else F k)+c else if (k:Int)=a then F k-c else F k
abbrev sgs(F:Cg):AV:= .agg [i (F 0),i (F 1),i (F 2),i (F 3),i (F 4),i (F 5)]
def mF:UX
 |[.agg [.x (.int .i64 4),.x (.int .i64 10),.lst 5 n f]]=>some ([],.agg [i 10,i 0,i 0,i 0,i 0,i 0])
 |_=>none
abbrev Q3:List Int:=[(0:Int),0,0,0,0,0]
theorem Qn3(f:Ci)(n:Nat):VX VO 132 [.agg [i 4,i 10,.lst 5 n f]] (.agg [i 10,i 0,i 0,i 0,i 0,i 0]):=by
 refine GW Tryz.func132 (t:=let W:=(US 4 (US 0 (10:Int) (BL Q3) 4) (US 3 (US 0 (10:Int) (BL Q3) 3) (US 2 (US 0 (10:Int) (BL Q3) 2) (US 1 (US 0 (10:Int) (BL Q3) 1) (US 0 (US 0 (10:Int) (BL Q3) 0) (jE 0 [(10:Int)] (BL Q3)))))));let z1:=(US 0 (10:Int) (BL Q3) 5);(need [UI 0 6] (need [1<=6] (need [6<=6] (need [6<=6] (leaf (RV.agg [RV.x (.int .i64 (US 5 z1 W 0)),RV.x (.int .i64 (US 5 z1 W 1)),RV.x (.int .i64 (US 5 z1 W 2)),RV.x (.int .i64 (US 5 z1 W 3)),RV.x (.int .i64 (US 5 z1 W 4)),RV.x (.int .i64 (US 5 z1 W 5))]))))))) VU ?_;exact V1
theorem NQ:VP VO 132 mF:=by
 refine ⟨(UJ Tryz.func132),?_⟩;intro avs ns res h hn;unfold mF at h;split at h;cases h;exact Qn3 _ _;cases h
theorem Wd7(F:Cg)(a b c U O:Int)(VR: ∀k,k<6-> -1000000<=F k/\F k<=1000000)(UE:0<=a/\a<=3)(HK:0<=b/\b<=3)(F1:a≠b)(BR:1<=c/\c<=1000):VX VO 134 [sgs F,.agg [i a,i b,i c,i U,i O]] (sgs (sld F a b c)):=by
 refine GW Tryz.func134 (t:=let z1:=(jE (Int.toNat a*1+0) [UA [F 0,F 1,F 2,F 3,F 4,F 5] (Int.toNat a*1+0)-c] (UA [F 0,F 1,F 2,F 3,F 4,F 5]));let W:=(US 4 (US (Int.toNat b*1+0) (US (Int.toNat a*1+0) (UA [F 0,F 1,F 2,F 3,F 4,F 5] (Int.toNat a*1+0)-c) (UA [F 0,F 1,F 2,F 3,F 4,F 5]) (Int.toNat b*1+0)+c) z1 4) (US 3 (US (Int.toNat b*1+0) (US (Int.toNat a*1+0) (UA [F 0,F 1,F 2,F 3,F 4,F 5] (Int.toNat a*1+0)-c) (UA [F 0,F 1,F 2,F 3,F 4,F 5]) (Int.toNat b*1+0)+c) z1 3) (US 2 (US (Int.toNat b*1+0) (US (Int.toNat a*1+0) (UA [F 0,F 1,F 2,F 3,F 4,F 5] (Int.toNat a*1+0)-c) (UA [F 0,F 1,F 2,F 3,F 4,F 5]) (Int.toNat b*1+0)+c) z1 2) (US 1 (US (Int.toNat b*1+0) (US (Int.toNat a*1+0) (UA [F 0,F 1,F 2,F 3,F 4,F 5] (Int.toNat a*1+0)-c) (UA [F 0,F 1,F 2,F 3,F 4,F 5]) (Int.toNat b*1+0)+c) z1 1) (US 0 (US (Int.toNat b*1+0) (US (Int.toNat a*1+0) (UA [F 0,F 1,F 2,F 3,F 4,F 5] (Int.toNat a*1+0)-c) (UA [F 0,F 1,F 2,F 3,F 4,F 5]) (Int.toNat b*1+0)+c) z1 0) (BL Q3))))));let z2:=(US (Int.toNat b*1+0) (US (Int.toNat a*1+0) (UA [F 0,F 1,F 2,F 3,F 4,F 5] (Int.toNat a*1+0)-c) (UA [F 0,F 1,F 2,F 3,F 4,F 5]) (Int.toNat b*1+0)+c) z1 5);(need [UI a 6] (need [Int.toNat a*1+0<List.length [F 0,F 1,F 2,F 3,F 4,F 5]] (need [VL (UA [F 0,F 1,F 2,F 3,F 4,F 5] (Int.toNat a*1+0)-c)] (need [UI a 6] (need [Int.toNat a*1+0+List.length [UA [F 0,F 1,F 2,F 3,F 4,F 5] (Int.toNat a*1+0)-c]<=List.length [F 0,F 1,F 2,F 3,F 4,F 5]] (need [UI b 6] (need [Int.toNat b*1+0<List.length [F 0,F 1,F 2,F 3,F 4,F 5]] (need [VL (US (Int.toNat a*1+0) (UA [F 0,F 1,F 2,F 3,F 4,F 5] (Int.toNat a*1+0)-c) (UA [F 0,F 1,F 2,F 3,F 4,F 5]) (Int.toNat b*1+0)+c)] (need [UI b 6] (need [Int.toNat b*1+0+List.length [US (Int.toNat a*1+0) (UA [F 0,F 1,F 2,F 3,F 4,F 5] (Int.toNat a*1+0)-c) (UA [F 0,F 1,F 2,F 3,F 4,F 5]) (Int.toNat b*1+0)+c]<=List.length [F 0,F 1,F 2,F 3,F 4,F 5]] (need [6<=List.length [F 0,F 1,F 2,F 3,F 4,F 5]] (need [0+List.length [US (Int.toNat b*1+0) (US (Int.toNat a*1+0) (UA [F 0,F 1,F 2,F 3,F 4,F 5] (Int.toNat a*1+0)-c) (UA [F 0,F 1,F 2,F 3,F 4,F 5]) (Int.toNat b*1+0)+c) z1 0,US (Int.toNat b*1+0) (US (Int.toNat a*1+0) (UA [F 0,F 1,F 2,F 3,F 4,F 5] (Int.toNat a*1+0)-c) (UA [F 0,F 1,F 2,F 3,F 4,F 5]) (Int.toNat b*1+0)+c) z1 1,US (Int.toNat b*1+0) (US (Int.toNat a*1+0) (UA [F 0,F 1,F 2,F 3,F 4,F 5] (Int.toNat a*1+0)-c) (UA [F 0,F 1,F 2,F 3,F 4,F 5]) (Int.toNat b*1+0)+c) z1 2,US (Int.toNat b*1+0) (US (Int.toNat a*1+0) (UA [F 0,F 1,F 2,F 3,F 4,F 5] (Int.toNat a*1+0)-c) (UA [F 0,F 1,F 2,F 3,F 4,F 5]) (Int.toNat b*1+0)+c) z1 3,US (Int.toNat b*1+0) (US (Int.toNat a*1+0) (UA [F 0,F 1,F 2,F 3,F 4,F 5] (Int.toNat a*1+0)-c) (UA [F 0,F 1,F 2,F 3,F 4,F 5]) (Int.toNat b*1+0)+c) z1 4,US (Int.toNat b*1+0) (US (Int.toNat a*1+0) (UA [F 0,F 1,F 2,F 3,F 4,F 5] (Int.toNat a*1+0)-c) (UA [F 0,F 1,F 2,F 3,F 4,F 5]) (Int.toNat b*1+0)+c) z1 5]<=6] (leaf (RV.agg [RV.x (.int .i64 (US 5 z2 W 0)),RV.x (.int .i64 (US 5 z2 W 1)),RV.x (.int .i64 (US 5 z2 W 2)),RV.x (.int .i64 (US 5 z2 W 3)),RV.x (.int .i64 (US 5 z2 W 4)),RV.x (.int .i64 (US 5 z2 W 5))]))))))))))))))) VU ?_;simp only [VM.sat,UB,G0,GL,UD,UH,VL];obtain ⟨A,rfl⟩: ∃A:Nat,a=A:=⟨a.toNat,VJ⟩;obtain ⟨B,rfl⟩: ∃B:Nat,b=B:=⟨b.toNat,VJ⟩;have h0:=VR 0 VJ;have h1:=VR 1 VJ;have h2:=VR 2 VJ;have h3:=VR 3 VJ
 have h4:=VR 4 VJ;have h5:=VR 5 VJ;rcases (show A=0\/A=1\/A=2\/A=3 by omega) with rfl|rfl|rfl|rfl<;>rcases (show B=0\/B=1\/B=2\/B=3 by omega) with rfl|rfl|rfl|rfl<;>first|(exfalso;omega)|(simp [GN,US,UA,sld];omega)
def Qh2:UX
 |[.agg [.x (.int .i64 s0),.x (.int .i64 s1),.x (.int .i64 s2),.x (.int .i64 s3),.x (.int .i64 s4),.x (.int .i64 s5)],.agg [.x (.int .i64 a),.x (.int .i64 b),.x (.int .i64 c),.x (.int .i64 U),.x (.int .i64 O)]]=>some ([-1000000<=s0/\s0<=1000000,-1000000<=s1/\s1<=1000000,-1000000<=s2/\s2<=1000000,-1000000<=s3/\s3<=1000000,-1000000<=s4/\s4<=1000000,-1000000<=s5/\s5<=1000000,0<=a/\a<=3,0<=b/\b<=3,a≠b,1<=c/\c<=1000],sgs (sld (UA [s0,s1,s2,s3,s4,s5]) a b c))
 |_=>none
def sV(n:Nat)(a b c U O:Cg):Prop:=n<=8/\ ∀k,k<n->saB (a k) (b k) (c k) (U k) (O k)=true
def stF(a b c:Cg)(d:Int):Nat->Nat->Int
 | 0=>sg0
 |k+1=>if N4 d k then sld (stF a b c d k) (a k) (b k) (c k) else stF a b c d k
theorem eC:VP VO 134 Qh2:=by
 refine ⟨(UJ Tryz.func134),?_⟩;intro avs ns res h hn;unfold Qh2 at h;split at h;cases h;rename_i s0 s1 s2 s3 s4 s5 a b c U O;refine Wd7 (UA [s0,s1,s2,s3,s4,s5]) a b c U O ?_ (hn _ VT) (hn _ VT) (hn _ VT) (hn _ VT);intro k hk
 match k,hk with
 | 0,_=>exact hn (-1000000<=s0/\s0<=1000000) VT
 | 1,_=>exact hn (-1000000<=s1/\s1<=1000000) VT
 | 2,_=>exact hn (-1000000<=s2/\s2<=1000000) VT
 | 3,_=>exact hn (-1000000<=s3/\s3<=1000000) VT
 | 4,_=>exact hn (-1000000<=s4/\s4<=1000000) VT
 | 5,_=>exact hn (-1000000<=s5/\s5<=1000000) VT
 cases h
theorem upd6(F:Cg)(a b c:Int)(q:Nat)(hq:q<6):
  US 5 (sld (UA [F 0,F 1,F 2,F 3,F 4,F 5]) a b c 5) (US 4 (sld (UA [F 0,F 1,F 2,F 3,F 4,F 5]) a b c 4) (US 3 (sld (UA [F 0,F 1,F 2,F 3,F 4,F 5]) a b c 3)
   (US 2 (sld (UA [F 0,F 1,F 2,F 3,F 4,F 5]) a b c 2) (US 1 (sld (UA [F 0,F 1,F 2,F 3,F 4,F 5]) a b c 1) (US 0 (sld (UA [F 0,F 1,F 2,F 3,F 4,F 5]) a b c 0) F))))) q=sld F a b c q:=by
 match q,hq with
 | 0,_=>rfl
 | 1,_=>rfl
 | 2,_=>rfl
 | 3,_=>rfl
 | 4,_=>rfl
 | 5,_=>rfl
theorem Xt4(F:Cg)(x0 x1 x2 x3 x4 x5:Int)(q:Nat)(hq:q<6):
  US 5 x5 (US 4 x4 (US 3 x3 (US 2 x2 (US 1 x1 (US 0 x0 F))))) q=UA [x0,x1,x2,x3,x4,x5] q:=by
 match q,hq with
 | 0,_=>rfl
 | 1,_=>rfl
 | 2,_=>rfl
 | 3,_=>rfl
 | 4,_=>rfl
 | 5,_=>rfl
theorem Qa5{n:Nat}{a b c U O:Cg}(h:sV n a b c U O){k:Nat}(hk:k<n):(0<=a k/\a k<=3)/\(0<=b k/\b k<=3)/\a k≠b k/\(1<=c k/\c k<=1000)/\(0<=U k/\U k<=100)/\(0<=O k/\O k<=100)/\U k<=O k:=Xg2.1 (h.2 k hk)
theorem Wb0{n:Nat}{a b c U O:Cg}(h:sV n a b c U O)(d:Int): ∀k,k<=n-> ∀j,-(1000*k:Int)<=stF a b c d k j/\stF a b c d k j<=10+1000*k
 | 0,_,j=>by
  simp only [stF,sg0];split<;>omega
 |k+1,hk,j=>by
  obtain ⟨_,_,h3,h4,_⟩:=Qa5 h (show k<n by omega)
  have ih:=Wb0 h d k VJ j;simp only [stF];split
  ·unfold sld
   repeat' split
   all_goals omega
  omega
theorem Zg5{n:Nat}{a b c U O:Cg}(h:sV n a b c U O)(d:Int){k:Nat}(hk:k<=n)(j:Nat): -1000000<=stF a b c d k j/\stF a b c d k j<=1000000:=by
 have:=Wb0 h d k hk j;have:=h.1;omega
abbrev QQ(n:Nat)(a:Cg)(b:Cg)(c:Cg)(U:Cg)(O:Cg)(ea:AV)(la:AV):AV:=AV.ro [iI 4,iI 10,Q0 n a b c U O,ea,la]
section
variable (ea la:AV)(n:Nat)(a b c U O:Cg)(d:Int)
def Zt8:St:={σ:=[QQ n a b c U O ea la,iI d,top,top,ptr 0 0,ptr 6 0]++HI 11 [Q0 n a b c U O,iI (n:Int)]++HI 13 [],m:=[(6,GO.ints 193 [] 6 λa=>US 5 (0:Int) (US 4 (0:Int) (US 3 (0:Int) (US 2 (0:Int) (US 1 (0:Int) (US 0 (10:Int) (BL Q3)))))) a),(0,GO.ints 193 [] 6 λa=>(0:Int))],nx:=15}
noncomputable def Ju2:Code:=U9 (VS (U7 Tryz.f88) 0)
def Wj4(k:Nat):St:={σ:=GY [(6,.top),(7,.top),(19,i k)] (Zt8 ea la n a b c U O d).σ,m:=[(6,.ints 193 [] 6 (stF a b c d (k))),(0,.ints 193 [] 6 (λ_=>0))],nx:=15}
def CL(k:Nat):G5->Option St
 | .exit 0=>some {σ:=GY [(6,.top),(7,.top),(19,i n)] (Zt8 ea la n a b c U O d).σ,m:=[(6,.ints 193 [] 6 (stF a b c d (n))),(0,.ints 193 [] 6 (λ_=>0))],nx:=15}
 |_=>none
def Jp0:CT:= .leaf (.exit 0,(CL ea la n a b c U O d 0 (.exit 0)).getD (Zt8 ea la n a b c U O d))
def Xy2:UG:=(HF (Wj4 ea la n a b c U O d (0)) (Jp0 ea la n a b c U O d))
end
abbrev ZS(n:Nat)(a:Cg)(b:Cg)(c:Cg)(U:Cg)(O:Cg)(ea:AV)(la:AV):Prop:=QQ n a b c U O ea la=QQ n a b c U O ea la
section
variable (ea la:AV)(n:Nat)(a b c U O:Cg)(d:Int)
theorem Jb7(VR:sV n a b c U O)(UE:0<=d/\d<256):G6 VO (.loop Ju2) (Xy2 ea la n a b c U O d):=by
 refine HH (L:=[]) (Ae A8 (Ae eC (Ae NQ Aa))) VZ U2 (X:=Nat) (Wj4 ea la n a b c U O d) (λk=>k<=n) (λk=>n-k) (CL ea la n a b c U O d) (x0:=0) VJ ?_ ?_ ?_;rintro k;kernel_rfl;rintro k y E h;unfold CL at h;split at h;cases h;kernel_rfl;cases h;rintro Q hQ k hx;refine ⟨(k+1),?_⟩;(with_reducible refine D9 (t:=let z1:=stF a b c d k;let W:=(UA [z1 0,z1 1,z1 2,z1 3,z1 4,z1 5]);(branch (decide ((k:Int)<(n:Int))) (need [UI k n] (need [(0:Int)<=(k:Int)/\(k:Int)<=64] (branch (N4 d k) (need [6<=6] (need [(-1000000:Int)<=z1 0/\z1 0<=1000000,(-1000000:Int)<=z1 1/\z1 1<=1000000,(-1000000:Int)<=z1 2/\z1 2<=1000000,(-1000000:Int)<=z1 3/\z1 3<=1000000,(-1000000:Int)<=z1 4/\z1 4<=1000000,(-1000000:Int)<=z1 5/\z1 5<=1000000,(0:Int)<=a k/\a k<=3,(0:Int)<=b k/\b k<=3,a k≠b k,(1:Int)<=c k/\c k<=1000] (need [0+List.length [sld W (a k) (b k) (c k) 0,sld W (a k) (b k) (c k) 1,sld W (a k) (b k) (c k) 2,sld W (a k) (b k) (c k) 3,sld W (a k) (b k) (c k) 4,sld W (a k) (b k) (c k) 5]<=6] (need [VL ((k:Int)+1)] (need [ZS n a b c U O ea la,d=d,QO,YQ,W0 n a b c U O,VY (n:Int),(k:Int)+1=(↑(k+1):Int),6=6,GV 6 (US 5 (sld W (a k) (b k) (c k) 5) (US 4 (sld W (a k) (b k) (c k) 4) (US 3 (sld W (a k) (b k) (c k) 3) (US 2 (sld W (a k) (b k) (c k) 2) (US 1 (sld W (a k) (b k) (c k) 1) (US 0 (sld W (a k) (b k) (c k) 0) (z1))))))) (stF a b c d (k+1)),6=6,∀(k:Nat),k<6->(0:Int)=0] (leaf G5.normal)))))) (need [VL ((k:Int)+1)] (need [ZS n a b c U O ea la,d=d,QO,YQ,W0 n a b c U O,VY (n:Int),(k:Int)+1=(↑(k+1):Int),6=6,GV 6 z1 (stF a b c d (k+1)),6=6,∀(k:Nat),k<6->(0:Int)=0] (leaf G5.normal)))))) (need [ZS n a b c U O ea la,d=d,QO,YQ,W0 n a b c U O,VY (n:Int),(k:Int)=(n:Int),6=6,GV 6 z1 (stF a b c d n),6=6,∀(k:Nat),k<6->(0:Int)=0] (leaf (G5.exit 0))))) VU ?_);simp only [Jp0,CL,VM.sat,GS] at hQ;simp only [VM.sat,UB,G0,GL,UD,VL,UH,HA,FU,R9,RQ,GN,CL]
 have h8:=VR.1;refine ⟨λh=>?_,λh=>?_⟩;have hs:=Qa5 VR (show k<n by omega)
 have hl:=Zg5 VR d (show k<=n by omega)
 cases hb:N4 d k
 ·(with_reducible repeat' first|apply Al|intro _)
  all_goals first|exact PO|(first|contradiction|(simp [stF,hb]))
 ·(with_reducible repeat' first|apply Al|intro _)
  all_goals first|exact PO|(first|contradiction|exact (hl _).1|exact (hl _).2|(simp only [stF,hb,if_true];exact upd6 _ _ _ _ _ (by assumption)))
 obtain rfl:k=n:=VJ;exact V0
theorem oB(VR:sV n a b c U O)(UE:0<=d/\d<256):VX VO 88 [.ro [i 4,i 10,sls n a b c U O,ea,la],i d] (sgs (stF a b c d n)):=by
 refine U1 (L:=[Xy2 ea la n a b c U O d]) (Ae A8 (Ae eC (Ae NQ Aa))) VZ Tryz.func88 (UU Tryz.f88) (G7 (lpE (b:= .loop Ju2) VU<|Jb7 ea la n a b c U O d VR UE)) (t:=let z1:=stF a b c d n;let W:=(US 4 (z1 4) (US 3 (z1 3) (US 2 (z1 2) (US 1 (z1 1) (US 0 (z1 0) λx=>(0:Int))))));(need [6<=6] (need [ZS n a b c U O ea la,d=d,QO,YQ,W0 n a b c U O,VY (n:Int),(0:Int)=((0:Nat):Int),6=6,GV 6 (US 5 (0:Int) (US 4 (0:Int) (US 3 (0:Int) (US 2 (0:Int) (US 1 (0:Int) (US 0 (10:Int) (BL Q3))))))) (stF a b c d 0),6=6,∀(k:Nat),k<6->(0:Int)=0] (need [6<=6] (need [0+List.length [z1 0,z1 1,z1 2,z1 3,z1 4,z1 5]<=6] (leaf (RV.agg [RV.x (.int .i64 (US 5 (z1 5) W 0)),RV.x (.int .i64 (US 5 (z1 5) W 1)),RV.x (.int .i64 (US 5 (z1 5) W 2)),RV.x (.int .i64 (US 5 (z1 5) W 3)),RV.x (.int .i64 (US 5 (z1 5) W 4)),RV.x (.int .i64 (US 5 (z1 5) W 5))]))))))) VU ?_
 simp only [VM.sat,UB,G0,GL,UD,UH]
 (with_reducible repeat' first|apply Al|intro _)
 all_goals first|exact Ak|omega|with_reducible rfl|rfl|(simp;done)|skip
 rename_i q hq;rw [Xt4 _ _ _ _ _ _ _ q hq]
 match q,hq with
 | 0,_=>rfl
 | 1,_=>rfl
 | 2,_=>rfl
 | 3,_=>rfl
 | 4,_=>rfl
 | 5,_=>rfl
end
section
variable (n:Nat)(a b c U O:Cg)
def fL:UX
 |[.ro [.x (.int .i64 4),.x (.int .i64 10),.lst 5 n1 f1,ea,la],.x (.int .i64 d)]=>some ([lst 5 n1 f1=sls n a b c U O,0<=d/\d<256],sgs (stF a b c d n))
 |_=>none
theorem qY(VR:sV n a b c U O):VP VO 88 (fL n a b c U O):=by
 refine ⟨(UJ Tryz.func88),?_⟩;intro avs ns res h hn;unfold fL at h;split at h;cases h;rename_i n1 f1 ea la d;have e:=hn _ GD;rw [e];exact oB ea la n a b c U O d VR (hn _ VT);cases h
end
theorem uV{n:Nat}(h:n<=8):(1:Int)<=2^n/\(2:Int)^n<=256:=by
 rcases (show n=0\/n=1\/n=2\/n=3\/n=4\/n=5\/n=6\/n=7\/n=8 by omega) with rfl|rfl|rfl|rfl|rfl|rfl|rfl|rfl|rfl<;>decide
def M8:UX
 |[.ro [.x (.int .i64 4),.x (.int .i64 10),.lst 5 n f,ea,la]]=>some ([n<=8],i (2^n-1))
 |_=>none
theorem Qm9(ea la:AV)(n:Nat)(f:Ci)(VR:n<=8):VX VO 86 [.ro [i 4,i 10,.lst 5 n f,ea,la]] (i (2^n-1)):=by
 refine GW Tryz.func86 (t:=need [(0:Int)<=(n:Int)/\(n:Int)<=64,VL ((1:Int)*2^n)] (need [VL ((1:Int)*2^n-1)] (leaf (RV.x (.int .i64 ((1:Int)*2^n-1)))))) VU ?_;simp only [VM.sat,UB,G0,GL,UD,UH,Int.one_mul,VL];have h:=uV VR;omega
theorem LF:VP VO 86 M8:=by
 refine ⟨(UJ Tryz.func86),?_⟩;intro avs ns res h hn;unfold M8 at h;split at h;cases h;exact Qm9 _ _ _ _ (hn _ VT);cases h
def G4(p:Nat->Bool):Nat->Nat
 | 0=>0
 |k+1=>G4 p k+(match p k with|true=>1|false=>0)
def UP(p:Nat->Bool)(n q:Nat):Nat:=GX (λj=>p j&&Nat.beq (G4 p j) q) n
def st6(F:Cg):Cg:=US 5 (F 5) (US 4 (F 4) (US 3 (F 3) (US 2 (F 2) (US 1 (F 1) (US 0 (F 0) (BL [0,0,0,0,0,0]))))))
def quB(n:Nat)(a b c:Cg)(d:Int)(j:Nat):Bool:= !N4 d j&&decide (stF a b c d n (a j).toNat>=c j)
def saV(a b c U O:Cg)(j:Nat):List Value:=[.int .i64 j,.agg #[.int .i64 (a j),.int .i64 (b j),.int .i64 (c j),.int .i64 (U j),.int .i64 (O j)]]
def quV(n:Nat)(a b c U O:Cg)(d:Int)(q:Nat):List Value:=saV a b c U O (UP (quB n a b c d) n q)
def quN(n:Nat)(a b c:Cg)(d:Int):Nat:=G4 (quB n a b c d) n
theorem Zg6(F:Cg){q:Nat}(hq:q<6):st6 F q=F q:=by
 unfold st6;rw [Xt4 _ _ _ _ _ _ _ q hq]
 match q,hq with
 | 0,_=>rfl
 | 1,_=>rfl
 | 2,_=>rfl
 | 3,_=>rfl
 | 4,_=>rfl
 | 5,_=>rfl
theorem fC(p:Nat->Bool){b c:Nat}(h:b<=c):G4 p b<=G4 p c:=by
 induction h with
 |refl=>exact Am _
 |step _ ih=>exact Ar ih (Nat.le_add_right _ _)
section
variable {p:Nat->Bool}
theorem FE{k:Nat}(h:p k=true):G4 p (k+1)=G4 p k+1:=by
 simp only [G4,h]
theorem RU{k:Nat}(h:p k=false):G4 p (k+1)=G4 p k:=by
 simp only [G4,h,Bg]
theorem BP{n k:Nat}(hk:k<n)(h:p k=true):UP p n (G4 p k)=k:=by
 refine zQ hk ?_ λj hj=>?_;simp [h];cases hp:p j;rfl;have h1:=FE hp;have h2:=fC p (show j+1<=k by omega)
 simp only [Bool.true_and];cases hb:Nat.beq (G4 p j) (G4 p k);rfl;have:=GZ hb;omega
end
theorem AH(p:Nat->Bool): ∀k,G4 p k<=k
 | 0=>Am 0
 |k+1=>by
  have:=AH p k;unfold G4;split<;>omega
theorem lU{p:Nat->Bool}: ∀{k q:Nat},q<G4 p k-> ∃j,j<k/\p j=true/\G4 p j=q
 | 0,q,h=>absurd h (by simp [G4])
 |k+1,q,h=>by
  rcases An q (G4 p k) with h1|h1;obtain ⟨j,hj,h2⟩:=lU h1;exact ⟨j,VJ,h2⟩;cases hp:p k;rw [RU hp] at h;omega;rw [FE hp] at h;exact ⟨k,VJ,hp,VJ⟩
theorem uM{p:Nat->Bool}{n q:Nat}(h:q<G4 p n):UP p n q<n/\p (UP p n q)=true:=by
 obtain ⟨j,hj,hp,hc⟩:=lU h;rw [←hc,BP hj hp];exact ⟨hj,hp⟩
def AI:UX
 |[.ro [.x (.int .i64 4),.x (.int .i64 10),.lst 5 n f,ea,la],.x (.int .i64 d)]=>some ([],.fn (.func 171) [] [.ro [.ro [i 4,i 10,.lst 5 n f,ea,la]],.ro [i d]])
 |_=>none
theorem We0(ea la:AV)(n:Nat)(f:Ci)(d:Int):FQ VO 131 [.ro [i 4,i 10,.lst 5 n f,ea,la],i d] (.fn (.func 171) [] [.ro [.ro [i 4,i 10,.lst 5 n f,ea,la]],.ro [i d]]):=by
 refine D5 (L:=[]) Aa Ad VZ Tryz.func131 (UU Tryz.f131) G8 (t:=leaf (AV.fn (Fn.func 171) [] [AV.ro [AV.ro [iI 4,iI 10,lst 5 n λa=>f a,ea,la]],AV.ro [iI d]])) VU ?_;exact rfl
theorem NP:PI VO 131 AI:=by
 refine ⟨(UJ Tryz.func131),?_⟩;intro avs ns res h hn;unfold AI at h;split at h;cases h;exact We0 _ _ _ _ _;cases h
section
variable (l:Nat)(ea la:AV)(n:Nat)(a b c U O:Cg)(d:Int)
def Xd3:St:={σ:=[AV.fn (Fn.yield l) [] [],AV.ro [QQ n a b c U O ea la],AV.ro [iI d],top,ptr 3 0]++HI 9 [Q0 n a b c U O,iI (n:Int)]++HI 26 [],m:=[(3,GO.ints 193 [] 6 λa_1=>US 5 (stF a b c d n 5) (US 4 (stF a b c d n 4) (US 3 (stF a b c d n 3) (US 2 (stF a b c d n 2) (US 1 (stF a b c d n 1) (US 0 (stF a b c d n 0) (BL Q3)))))) a_1)],nx:=12,gh:=some 0}
noncomputable def Zx1:Code:=U9 (VS (U7 Tryz.f171) 0)
def aB(k:Nat):St:={σ:=GY [(4,.roI [] 6 (st6 (stF a b c d n)) 0),(5,.top),(6,.top),(16,i k)] (Xd3 l ea la n a b c U O d).σ,m:=[],nx:=12,gh:=some (G4 (quB n a b c d) k) }
def jT(k:Nat):G5->Option St
 | .exit 0=>some {σ:=GY [(4,.roI [] 6 (st6 (stF a b c d n)) 0),(5,.top),(6,.top),(16,i n)] (Xd3 l ea la n a b c U O d).σ,m:=[],nx:=12,gh:=some (quN n a b c d) }
 | .ret=>some {σ:=GY [(4,.roI [] 6 (st6 (stF a b c d n)) 0),(5,.top),(6,.top),(16,.top)] (Xd3 l ea la n a b c U O d).σ,m:=[],nx:=12,gh:=none}
 |_=>none
def Jq0:CT:= .may True (.leaf (.exit 0,(jT l ea la n a b c U O d 0 (.exit 0)).getD (Xd3 l ea la n a b c U O d))) (.leaf (.ret,(jT l ea la n a b c U O d 0 .ret).getD (Xd3 l ea la n a b c U O d)))
def Xz2:UG:=GJ [(.slot 4,3,193,1)] (HF (aB l ea la n a b c U O d (0)) (Jq0 l ea la n a b c U O d))
end
abbrev ZY(a:Cg)(b:Cg)(c:Cg)(d:Int)(n:Nat):Prop:=roI [] 6 (λa_1=>st6 (stF a b c d n) a_1) 0=roI [] 6 (λa_1=>st6 (stF a b c d n) a_1) 0
abbrev Y4(d:Int):Prop:=AV.ro [iI d]=AV.ro [iI d]
abbrev YC(n:Nat)(a:Cg)(b:Cg)(c:Cg)(U:Cg)(O:Cg)(ea:AV)(la:AV):Prop:=AV.ro [QQ n a b c U O ea la]=AV.ro [QQ n a b c U O ea la]
theorem Je8(l:Nat)(ea la:AV)(n:Nat)(a b c U O:Cg)(d:Int)(VR:sV n a b c U O)(UE:0<=d/\d<256){cx:Cx}(hX:VW VO {Y:=some (l,(quN n a b c d),(quV n a b c U O d)) } cx):HN VO none cx (.loop Zx1) (Xz2 l ea la n a b c U O d):=by
 refine FM [(.slot 4,3,193,1)] (L:=[]) (Ae A8 (Ae (qY n a b c U O VR) Aa)) hX VZ G8 (V:=Nat) (aB l ea la n a b c U O d) (λk=>k<=n) (λk=>n-k) (jT l ea la n a b c U O d) (x0:=0) VT ?_ ?_ ?_;rintro k;kernel_rfl;rintro k y E h;unfold jT at h;split at h;cases h;kernel_rfl;cases h;kernel_rfl;cases h;rintro Q hQ k hx;refine ⟨(k+1),?_⟩;have e:HY VO [(133,sU),(88,(fL n a b c U O))] {Y:=some (l,(quN n a b c d),(quV n a b c U O d)) } [] [(.slot 4,3,193,1)] Zx1 (aB l ea la n a b c U O d k) (aB l ea la n a b c U O d ((k+1))) (jT l ea la n a b c U O d k)=(let z3:=YC n a b c U O ea la;let z2:=quB n a b c d;let W:=(need [VL ((k:Int)+1)] (need [XK l,z3,Y4 d,ZY a b c d n,W0 n a b c U O,VY (n:Int),(k:Int)+1=(↑(k+1):Int),G4 (z2) k=G4 (z2) (k+1)] (leaf G5.normal)));let z1:=(UP (z2) n (G4 (z2) k));(branch (decide ((k:Int)<(n:Int))) (need [UI k n] (need [(0:Int)<=(k:Int)/\(k:Int)<=64] (branch (!N4 d k) (need [UI (a k) 6] (need [(a k).toNat*1+0<6] (branch (decide (st6 (stF a b c d n) ((a k).toNat*1+0)>=c k)) (need [l=l,G4 (z2) k<quN n a b c d,[Value.int IntKind.i64 (k:Int),Value.agg {toList:=[Value.int IntKind.i64 (a k),Value.int IntKind.i64 (b k),Value.int IntKind.i64 (c k),Value.int IntKind.i64 (U k),Value.int IntKind.i64 (O k)] }]=[Value.int IntKind.i64 (z1:Int),Value.agg {toList:=[Value.int IntKind.i64 (a z1),Value.int IntKind.i64 (b z1),Value.int IntKind.i64 (c z1),Value.int IntKind.i64 (U z1),Value.int IntKind.i64 (O z1)] }]] (VM.may True (need [VL ((k:Int)+1)] (need [XK l,z3,Y4 d,ZY a b c d n,W0 n a b c U O,VY (n:Int),(k:Int)+1=(↑(k+1):Int),G4 (z2) k+1=G4 (z2) (k+1)] (leaf G5.normal))) (need [XK l,z3,Y4 d,ZY a b c d n,W0 n a b c U O,VY (n:Int)] (leaf G5.ret)))) W))) W))) (need [XK l,z3,Y4 d,ZY a b c d n,W0 n a b c U O,VY (n:Int),(k:Int)=(n:Int),G4 (z2) k=quN n a b c d] (leaf (G5.exit 0))))):=VU;rw [e];simp only [Jq0,jT,VM.sat,GS] at hQ;have hQ1: ∀E,jT l ea la n a b c U O d k (.exit 0)=some E->Q (.exit 0,E):=λE hE=>by cases hE;exact hQ.1 trivial
 have hQ2: ∀E,jT l ea la n a b c U O d k .ret=some E->Q (.ret,E):=λE hE=>by cases hE;exact hQ.2
 simp only [VM.sat,UB,UH,HA,VL,F4];clear e hQ;have h8:=VR.1;have hX:(a k).toNat*1+0=(a k).toNat:=VJ;rw [hX];refine ⟨λh=>?_,λh=>?_⟩;have hk:k<n:=VJ;have hs:=Qa5 VR hk;have hno:quB n a b c d k=false->G4 (quB n a b c d) k=G4 (quB n a b c d) (k+1):=λh=>(RU h).symm;rw [Zg6 _ (show (a k).toNat<6 by omega)]
 refine ⟨VJ,VJ,λh1=>⟨VJ,VJ,λh2=>?_,λh2=>?_⟩,λh1=>?_⟩
 ·have hq:quB n a b c d k=true:=by
   unfold quB;rw [h1,decide_eq_true h2];rfl
  have hy:=FE hq;have hm:=fC (quB n a b c d) (show k+1<=n by omega)
  rw [BP hk hq]
  (with_reducible repeat' first|apply Al|intro _)
  all_goals first|exact Ak|(simp only [quN];omega)|omega|rfl|exact hQ1 _ (by assumption)|exact hQ2 _ (by assumption)
 ·have hq:quB n a b c d k=false:=by
   unfold quB;rw [decide_eq_false h2,Bool.and_false]
  have hy:=RU hq;all_goals exact V7
 ·have hq:quB n a b c d k=false:=by
   unfold quB;rw [h1];rfl
  have hy:=RU hq;all_goals exact V7
 ·obtain rfl:k=n:=VJ;all_goals exact V7
theorem vD(ea la:AV)(n:Nat)(a b c U O:Cg)(d:Int)(VR:sV n a b c U O)(UE:0<=d/\d<256):BE Tryz.prog 171 [.ro [.ro [i 4,i 10,sls n a b c U O,ea,la]],.ro [i d]] ((quN n a b c d)) (quV n a b c U O d):=by
 refine BN (L:=λl=>[Xz2 l ea la n a b c U O d]) (Ae A8 (Ae (qY n a b c U O VR) Aa)) VZ (UJ Tryz.func171) Tryz.func171 (UU Tryz.f171) VU (λl cx hX=>G7 (lpE (b:= .loop Zx1) VU<|Je8 l ea la n a b c U O d VR UE hX)) (t:=λl=>(let W:=stF a b c d n;(need [W0 n a b c U O,(0:Int)<=d/\d<256] (need [0+List.length [W 0,W 1,W 2,W 3,W 4,W 5]<=6] (need [VY (AV.fn (Fn.yield l) [] []),YC n a b c U O ea la,Y4 d,roI [] 6 (λa_1=>US 5 (W 5) (US 4 (W 4) (US 3 (W 3) (US 2 (W 2) (US 1 (W 1) (US 0 (W 0) (BL Q3)))))) a_1) 0=roI [] 6 (λa_1=>st6 (W) a_1) 0,W0 n a b c U O,VY (n:Int),(0:Int)=((0:Nat):Int),0=G4 (quB n a b c d) 0] (VM.may True (need [VY (quN n a b c d)] (leaf PUnit.unit)) (leaf PUnit.unit))))))) (λl=>VU) ?_
 intro l;simp only [VM.sat,UB,G0,GL,UD,UH];exact ⟨UE,VT,⟨rfl,rfl,rfl⟩,λ_=>trivial⟩
noncomputable def Qk6:D2:=A2 Tryz.prog [] {} [] Tryz.f131 (U7 Tryz.f131)
theorem dG:GB VO 131 Qk6:=
 RL (G:=[]) (X:=WA) (L:=[]) Aa Ad VZ (UJ Tryz.func131) Tryz.func131 (UU Tryz.f131) U2
section
variable (n:Nat)
abbrev ZK:AV:=iI ((2:Int)^n-1+1)
abbrev ZZ(a:Cg)(b:Cg)(c:Cg)(U:Cg)(O:Cg):List AV:=[iI 4,iI 10,Q0 n a b c U O]
abbrev KO:GO:=GO.row 3 1 0 λx=>[]
abbrev KU(a:Cg)(b:Cg)(c:Cg)(U:Cg)(O:Cg):List AV:=[iI 4,iI 10,Q0 n a b c U O,AV.row 901,AV.row 902]
abbrev YJ:GO:=GO.cells 134 [ptr 4 0]
def Zv0(a b c U O:Cg):St:={σ:=[agg (ZZ n a b c U O),ptr 0 0,QD,ptr 5 0]++HI 14 [ZK n]++HI 140 [],m:=[(902,KO),(901,KO),(5,YJ),(4,GO.cells 249 (KU n a b c U O)),(0,GO.cells 65 (ZZ n a b c U O))],nx:=903}
noncomputable def Jv6:Code:=U9 (VS (U7 Tryz.f84) 0)
def Wl1(a b c U O:Cg)(k:Nat):St:={σ:=GY [(19,i k)] (Zv0 n a b c U O).σ,m:=[(902,.row 3 1 (k) (λz=>[i ((λ_=> -1) z)])),(901,.row 3 1 (k) (λz=>[i ((λ_=>101) z)])),(5,.cells 134 [.ptr 4 0]),(4,.cells 249 [i 4,i 10,sls n a b c U O,.row 901,.row 902]),(0,.cells 65 [i 4,i 10,sls n a b c U O])],nx:=903}
def CX(a b c U O:Cg)(k:Nat):G5->Option St
 | .exit 0=>some {σ:=GY [(19,i (2^n))] (Zv0 n a b c U O).σ,m:=[(902,.row 3 1 (2^n) (λz=>[i ((λ_=> -1) z)])),(901,.row 3 1 (2^n) (λz=>[i ((λ_=>101) z)])),(5,.cells 134 [.ptr 4 0]),(4,.cells 249 [i 4,i 10,sls n a b c U O,.row 901,.row 902]),(0,.cells 65 [i 4,i 10,sls n a b c U O])],nx:=903}
 |_=>none
def Jq9(a b c U O:Cg):CT:= .leaf (.exit 0,(CX n a b c U O 0 (.exit 0)).getD (Zv0 n a b c U O))
abbrev K7:List (Pl×Nat×TypeId×Nat):=[(.cell 4 3,0,0,1),(.cell 4 4,0,0,1),(.cell 4 3,901,3,1),(.cell 4 4,902,3,1)]
def Za3(a b c U O:Cg):UG:=GJ K7 (HF (Wl1 n a b c U O (0)) (Jq9 n a b c U O))
abbrev QG:Prop:=(2:Int)^n-1+1=2^n-1+1
abbrev QP(a:Cg)(b:Cg)(c:Cg)(U:Cg)(O:Cg):Prop:=agg (ZZ n a b c U O)=agg (ZZ n a b c U O)
abbrev QY:Prop:=(4:Int)=4
abbrev W8:Prop:=AV.row 902=AV.row 902
abbrev WE:Prop:=(10:Int)=10
abbrev J3:List AV:=[iI 101]
abbrev YO:Ci:=λz=>[iI (-1:Int)]
theorem Jh4(a b c U O:Cg)(VR:sV n a b c U O):G6 VO (.loop Jv6) (Za3 n a b c U O):=by
 refine zK K7 (L:=[]) (Ae LF Aa) VZ U2 (X:=Nat) (Wl1 n a b c U O) (λk=>k<=2^n) (λk=>2^n-k) (CX n a b c U O) (x0:=0) VT ?_ ?_ ?_;rintro k;kernel_rfl;rintro k y E h;unfold CX at h;split at h;cases h;kernel_rfl;cases h;rintro Q hQ k hx;refine ⟨(k+1),?_⟩;(with_reducible refine D9 (t:=let W:=(need [VL ((k:Int)+1)] (need [QP n a b c U O,QO,QD=QD,ZR,QG n,(k:Int)+1=(↑(k+1):Int),k+1=k+1,GV (k+1) (GI k (YO) (U4 1 [iI (-1:Int)])) (λi=>[iI (-1:Int)]),k+1=k+1,GV (k+1) (GI k (λz=>J3) (U4 1 J3)) (λi=>J3),W7,QY,WE,W0 n a b c U O,W2,W8,QY,WE,W0 n a b c U O] (leaf G5.normal)));(branch (decide ((k:Int)<2^n-1+1)) (need [(k+1)*8<=140737488355328,∀(i:Nat),i<1-> ∀(a:AV),a∈U4 1 J3 i->AV.one a=true] (need [(k+1)*8<=140737488355328,RP 1 (U4 1 [iI (-1:Int)])] (VM.may True W (VM.may True W (VM.may True W (VM.may True W W)))))) (need [QP n a b c U O,QO,QD=QD,ZR,QG n,(k:Int)=2^n,k=2^n,∀(i:Nat),i<2^n->[iI (-1:Int)]=[iI (-1:Int)],k=2^n,∀(i:Nat),i<2^n->J3=J3,W7,QY,WE,W0 n a b c U O,W2,W8,QY,WE,W0 n a b c U O] (leaf (G5.exit 0))))) VU ?_)
 simp only [Jq9,CX,VM.sat,GS] at hQ;simp only [VM.sat,UB,G0,GL,UD,VL,UH,HA,FU,R9,RQ,GN,CX]
 have h8:=VR.1;have hp:=uV h8;have hpn:((2^n:Nat):Int)=2^n:=VT;refine ⟨λh=>?_,λh=>?_⟩
 ·have hk:k<2^n:=VJ
  (with_reducible repeat' first|apply Al|intro _)
  all_goals first|exact PO|(first|exact FC (by assumption) (by simp [AV.one,Value.oneCell'])|exact Pt.catF1 (a:=λ_=>101) (by assumption) rfl|exact Pt.catF1 (a:=λ_=> -1) (by assumption) rfl)
 obtain rfl:k=2^n:=VJ;exact V0
end
def eQ(p:Nat->Bool)(n:Nat)(U O:Cg)(d:Nat)(E:Cg):Nat->Nat->Int
 | 0=>E
 |q+1=>if max (eQ p n U O d E q d) (U (UP p n q))<=O (UP p n q) then US (d ||| 2^UP p n q) (min (eQ p n U O d E q (d ||| 2^UP p n q)) (max (eQ p n U O d E q d) (U (UP p n q)))) (eQ p n U O d E q) else eQ p n U O d E q
def eD(n:Nat)(a b c U O:Cg):Nat->Nat->Int
 | 0=>λk=>if k=0 then 0 else 101
 |d+1=>if eD n a b c U O d d=101 then eD n a b c U O d else eQ (quB n a b c d) n U O d (eD n a b c U O d) (quN n a b c d)
section
variable (n:Nat)(a b c U O:Cg)
noncomputable def Zu9:St:={σ:=[agg (ZZ n a b c U O),ptr 0 0,QD,ptr 5 0]++HI 14 [ZK n,iI ((2:Int)^n)]++HI 27 [ZK n]++HI 111 [],m:=[(902,GO.row 3 1 (2^n) λz=>[iI (-1:Int)]),(901,GO.row 3 1 (2^n) λk=>iI (if decide (k=(0:Int).toNat)=true then (0:Int) else (101:Int))::Bool.rec ([]) ([]) (decide (k=(0:Int).toNat))),(5,YJ),(4,GO.keep 249 (KU n a b c U O)),(0,GO.cells 65 (ZZ n a b c U O))],nx:=913}
noncomputable def bR:Code:=U9 (VS (U7 Tryz.f84) 1)
noncomputable def Wl0(d:Nat):St:={σ:=GY [(4,.top),(48,i d),(5,.top),(6,.top),(7,.top),(8,.top)] (Zu9 n a b c U O).σ,m:=[(902,.row 3 1 (2^n) (λz=>[i ((λ_=> -1) z)])),(901,.row 3 1 (2^n) (λz=>[i ((eD n a b c U O (d)) z)])),(5,.cells 134 [.ptr 4 0]),(4,.keep 249 [i 4,i 10,sls n a b c U O,.row 901,.row 902]),(0,.cells 65 [i 4,i 10,sls n a b c U O])],nx:=903}
noncomputable def CW(d:Nat):G5->Option St
 | .exit 2=>some {σ:=GY [(4,.top),(48,i (2^n)),(5,.top),(6,.top),(7,.top),(8,.top)] (Zu9 n a b c U O).σ,m:=[(902,.row 3 1 (2^n) (λz=>[i ((λ_=> -1) z)])),(901,.row 3 1 (2^n) (λz=>[i ((eD n a b c U O (2^n)) z)])),(5,.cells 134 [.ptr 4 0]),(4,.keep 249 [i 4,i 10,sls n a b c U O,.row 901,.row 902]),(0,.cells 65 [i 4,i 10,sls n a b c U O])],nx:=903}
 |_=>none
noncomputable def Jq8:CT:= .leaf (.exit 2,(CW n a b c U O 0 (.exit 2)).getD (Zu9 n a b c U O))
noncomputable def Za2:UG:=GJ [(.cell 5 0,0,0,0)] (HF (Wl0 n a b c U O (0)) (Jq8 n a b c U O))
end
theorem qC{n d:Nat}(h8:n<=8)(h:d<2^n):(0:Int)<=d/\(d:Int)<256:=by
 have hp:=uV h8;have hpn:((2^n:Nat):Int)=2^n:=VT;omega
theorem Qb6{n d s:Nat}(h:d<2^n)(hs:s<n):d ||| 2^s<2^n:=Nat.or_lt_two_pow h (Nat.pow_lt_pow_right (by decide) hs)
theorem We8{n d s:Nat}(h8:n<=8)(h:d<2^n)(hs:s<n):IntKind.i64.wrap ((BitVec.ofInt 64 (d:Int) ||| BitVec.ofInt 64 (1*2^s)).toNat:Int)=((d ||| 2^s:Nat):Int):=by
 have h2:=qC h8 h;have h3:2^s<2^n:=Nat.pow_lt_pow_right (by decide) hs
 have h4:=qC h8 h3;have e:(1*2^s:Int)=((2^s:Nat):Int):=by rw [Int.one_mul];simp
 rw [e];exact Xh9 VJ VJ
theorem uQ{F:Cg}{v:Int}{q j:Nat}:H6 (decide (j=q)) [i v] [i (F j)]=[i (US q v F j)]:=by
 unfold US;by_cases h:j=q;rw [decide_eq_true h,if_pos h];rfl;rw [decide_eq_false h,if_neg h];rfl
abbrev J4:AV:=AV.fn (Fn.func 171) [] [ptr 917 0,ptr 918 0]
section
variable (n:Nat)(a b c U O:Cg)(d:Nat)
def Jt4:St:={σ:=[agg (ZZ n a b c U O),ptr 0 0,QD,ptr 5 0,ptr 905 0]++HI 13 [ZK n,iI ((2:Int)^n)]++HI 27 [ZK n,iI (d:Int)]++HI 12 [J4]++HI 97 [],m:=[(918,GO.keep 189 [iI (d:Int)]),(917,GO.keep 134 [ptr 4 0]),(905,GO.cells 189 [iI (d:Int)]),(902,GO.row 3 1 (2^n) λz=>[iI (-1:Int)]),(901,GO.row 3 1 (2^n) λz=>[iI (eD n a b c U O d z)]),(5,YJ),(4,GO.keep 249 (KU n a b c U O)),(0,GO.cells 65 (ZZ n a b c U O))],nx:=922}
noncomputable def Jx7:Code:=T4 (VS bR 0)
noncomputable def Jv5:Code:=T3 (VS bR 0)
def pE(k:Nat):St:={σ:=GY [(5,.top),(6,.top),(7,.top),(8,.top)] (Jt4 n a b c U O d).σ,m:=[(918,.keep 189 [i d]),(917,.keep 134 [.ptr 4 0]),(905,.cells 189 [i d]),(902,.row 3 1 (2^n) (λz=>[i ((λ_=> -1) z)])),(901,.row 3 1 (2^n) (λz=>[i ((eQ (quB n a b c d) n U O d (eD n a b c U O d) (k)) z)])),(5,.cells 134 [.ptr 4 0]),(4,.keep 249 [i 4,i 10,sls n a b c U O,.row 901,.row 902]),(0,.cells 65 [i 4,i 10,sls n a b c U O])],nx:=922}
def oJ(k:Nat):G5->Option St
 | .normal=>some {σ:=GY [(5,.top),(6,.top),(7,.top),(8,.top)] (Jt4 n a b c U O d).σ,m:=[(918,.keep 189 [i d]),(917,.keep 134 [.ptr 4 0]),(905,.cells 189 [i d]),(902,.row 3 1 (2^n) (λz=>[i ((λ_=> -1) z)])),(901,.row 3 1 (2^n) (λz=>[i ((eQ (quB n a b c d) n U O d (eD n a b c U O d) ((quN n a b c d))) z)])),(5,.cells 134 [.ptr 4 0]),(4,.keep 249 [i 4,i 10,sls n a b c U O,.row 901,.row 902]),(0,.cells 65 [i 4,i 10,sls n a b c U O])],nx:=922}
 |_=>none
def T_kc:CT:= .leaf (.normal,pE n a b c U O d (quN n a b c d))
def Za1:UG:=GJ [(.slot 61,0,0,0)] (HF (pE n a b c U O d (0)) (T_kc n a b c U O d))
end
abbrev XX(n:Nat):Prop:=(2:Int)^n=2^n
theorem Jh2(n:Nat)(a b c U O:Cg)(d:Nat)(VR:sV n a b c U O)(UE:d<2^n):HT VO (.rangeFunc (rfF (VS bR 0)) (jP (VS bR 0)) Jx7 Jv5) (Za1 n a b c U O d):=by
 refine yP [(.slot 61,0,0,0)] (L:=[]) (Ae F0 (Ae PP Aa)) Ad VZ U2 (V:=Nat) (pE n a b c U O d) (λk=>k<=(quN n a b c d)) (λk=>k) (oJ n a b c U O d) (x0:=0) VT rfl ?_ ?_ ?_ ?_ (g:=171) (caps:=[.ro [.ro [i 4,i 10,sls n a b c U O,.top,.top]],.ro [i d]]) (caps0:=[.ptr 917 0,.ptr 918 0]) VU VU (vD .top .top n a b c U O d VR (qC VR.1 UE)) (λ_=>rfl) ?_;rintro k;kernel_rfl;rintro k y E h;unfold oJ at h;split at h;cases h;kernel_rfl;cases h;rintro k;rfl;rintro k y E h;unfold oJ at h;split at h;cases h;rfl;cases h;rintro Q hQ k hx;refine ⟨λhlt=>⟨(k+1),rfl,?_⟩,λPL=>?_⟩;(with_reducible refine D9 (t:=let z1:=(quB n a b c (d:Int));let W:=(BitVec.toNat (BitVec.ofInt 64 (d:Int) ||| BitVec.ofInt 64 ((1:Int)*2^UP z1 n k)));let z2:=(IntKind.wrap IntKind.i64 (W:Int));let z3:=eD n a b c U O d;let z4:=eQ z1 n U O d;(need [UI d (↑(2^n):Int)] (need [d<2^n] (branch (decide (max (z4 (z3) k d) (U (UP z1 n k))<=O (UP z1 n k))) (need [(0:Int)<=(UP z1 n k:Int)/\(UP z1 n k:Int)<=64,VL ((1:Int)*2^UP z1 n k)] (need [UI (IntKind.wrap IntKind.i64 (W:Int)) (↑(2^n):Int)] (need [Int.toNat z2<2^n] (need [UI (IntKind.wrap IntKind.i64 (W:Int)) (↑(2^n):Int)] (need [Int.toNat z2<2^n] (need [QP n a b c U O,QO,QD=QD,ZR,VY (ptr 905 0),QG n,XX n,QG n,VY (d:Int),J4=J4,VY (d:Int),W7,VY (d:Int),2^n=2^n,∀(i:Nat),i<2^n->[iI (-1:Int)]=[iI (-1:Int)],2^n=2^n,∀(i:Nat),i<2^n->H6 (decide (i=Int.toNat z2)) [iI (min (z4 (z3) k (Int.toNat z2)) (max (z4 (z3) k d) (U (UP z1 n k))))] [iI (z4 (z3) k i)]=[iI (z4 (z3) (k+1) i)],W7,QY,WE,W0 n a b c U O,W2,W8,QY,WE,W0 n a b c U O] (leaf G5.normal))))))) (need [QP n a b c U O,QO,QD=QD,ZR,VY (ptr 905 0),QG n,XX n,QG n,VY (d:Int),J4=J4,VY (d:Int),W7,VY (d:Int),2^n=2^n,∀(i:Nat),i<2^n->[iI (-1:Int)]=[iI (-1:Int)],2^n=2^n,∀(i:Nat),i<2^n->[iI (z4 (z3) k i)]=[iI (z4 (z3) (k+1) i)],W7,QY,WE,W0 n a b c U O,W2,W8,QY,WE,W0 n a b c U O] (leaf G5.normal)))))) VU ?_)
 have h8:=VR.1;have hd:=qC h8 UE;have hpn:((2^n:Nat):Int)=2^n:=VT;have hs:=uM hlt;have hor:=We8 h8 UE hs.1;have hol:=Qb6 UE hs.1;simp only [VM.sat,UB,UH,hor,F4,HA]
 have hd2:(d:Int)<2^n:=by
  have h:(d:Int)<((2^n:Nat):Int):=Int.ofNat_lt.2 UE
  rwa [hpn] at h
 have Qq3:((d ||| 2^UP (quB n a b c d) n k:Nat):Int)<2^n:=by
  have h:((d ||| 2^UP (quB n a b c d) n k:Nat):Int)<((2^n:Nat):Int):=Int.ofNat_lt.2 hol
  rwa [hpn] at h
 have hk1:k+1<=quN n a b c d:=hlt;have h2s:(1:Int)<=2^UP (quB n a b c d) n k/\(2:Int)^UP (quB n a b c d) n k<=256:=uV VJ;have h64:=hs.1;refine ⟨⟨VJ,hd2⟩,UE,λh=>?_,λh=>?_⟩;refine ⟨⟨⟨VJ,VJ⟩,by simp only [VL,Int.one_mul];omega⟩,⟨VJ,Qq3⟩,hol,⟨VJ,Qq3⟩,hol,⟨λ_ _=>trivial,λj hj=>?_⟩,hk1⟩
 simp only [eQ,if_pos h];exact uQ;refine ⟨⟨λ_ _=>trivial,λj hj=>?_⟩,hk1⟩;simp only [eQ,if_neg h];have hk:k=quN n a b c d:=VJ;subst hk;exact hQ
theorem gD{P:Program}{G:List (Nat×UX)}{E:Ext}{L:List UG}(N:List (Pl×Nat×TypeId×Nat))(hG:VK P G)(hX: ∀cx,VW P E cx)(GR:P.follows .mixedOrders=true){body:Code}(hL: ∀j cj,VS body j=some cj-> ∀sp,L[j]? =some sp->HT P cj sp)
  {X:Type}(inv:X->St)(I:X->Prop)(μ:X->Nat)(out:X->G5->Option St){t:CT}{x0:X}(h0:I x0)
  (hok: ∀x,Go.Sx.okB (inv x)=true)(qT: ∀x y E,out x y=some E->Go.Sx.okB E=true)
  (round: ∀(Q:G5×St->Prop),t.sat Q-> ∀x,I x-> ∃x',(HY P G E L N body (inv x) (inv x') (out x)).sat (λy=>match y with
   | .normal=>I x'/\μ x'<μ x
   |y=> ∀E,out x y=some E->Q (y,E))):HT P (.loop body) (GJ N (HF (inv x0) t)):=
 λcx hf=>FM N hG (hX cx) GR (λj cj hj sp hsp=>hL j cj hj sp hsp cx hf) inv I μ out h0 hok qT round
theorem gZ{P:Program}{c:Code}{t:Nat}{F:Nat->UG}(h: ∀k,HT P c (F k)):HT P c (BC t F):=by
 intro cx hf n s tr ht Q hQ a w r;unfold BC at ht;split at ht;exact h _ cx hf n s tr ht Q hQ a w r;cases ht
abbrev JR:List (Nat×UX):=[(86,M8),(90,kP),(89,M9)]
noncomputable abbrev KH:Ext:={R:=[],H:=[(131,Qk6)] }
theorem Jh3(n:Nat)(a b c U O:Cg)(VR:sV n a b c U O):HT VO (.loop bR) (Za2 n a b c U O):=by
 refine gD [(.cell 5 0,0,0,0)] (L:=[BC 48 (λd=>F2 [d<2^n] (Za1 n a b c U O d))]) (Ae LF (Ae F0 (Ae PP Aa))) (Ai Ab (Ag dG Ac)) VZ (G7 (λcj hcj=>by
  have e:VS bR 0=some (.rangeFunc (rfF (VS bR 0)) (jP (VS bR 0)) Jx7 Jv5):=VU;rw [e] at hcj;cases hcj;exact gZ (λd=>B2 (λh=>Jh2 n a b c U O d VR h)))) (X:=Nat) (Wl0 n a b c U O) (λd=>d<=2^n) (λd=>2^n-d) (CW n a b c U O) (x0:=0) VT ?_ ?_ ?_
 rintro d;kernel_rfl;rintro d y E h;unfold CW at h;split at h;cases h;kernel_rfl;cases h;rintro Q hQ d hx;refine ⟨(d+1),?_⟩;(with_reducible refine D9 (t:=let W:=W0 n a b c U O;let z1:=eD n a b c U O d;(branch (decide ((d:Int)<2^n-1+1)) (need [UI d (↑(2^n):Int)] (need [d<2^n] (branch (z1 d==101) (need [VL ((d:Int)+1)] (need [QP n a b c U O,QO,QD=QD,ZR,QG n,XX n,QG n,(d:Int)+1=(↑(d+1):Int),2^n=2^n,∀(i:Nat),i<2^n->[iI (-1:Int)]=[iI (-1:Int)],2^n=2^n,∀(i:Nat),i<2^n->[iI (z1 i)]=[iI (eD n a b c U O (d+1) i)],W7,QY,WE,W,W2,W8,QY,WE,W] (leaf G5.normal))) (need [d<2^n] (need [QP n a b c U O,QO,QD=QD,ZR,VY (ptr 905 0),QG n,XX n,QG n,VY (d:Int),J4=J4,VY (d:Int),W7,VY (d:Int),2^n=2^n,∀(i:Nat),i<2^n->[iI (-1:Int)]=[iI (-1:Int)],2^n=2^n,∀(i:Nat),i<2^n->[iI (z1 i)]=[iI (eQ (quB n a b c (d:Int)) n U O d (z1) 0 i)],W7,QY,WE,W,W2,W8,QY,WE,W] (need [VL ((d:Int)+1)] (need [QP n a b c U O,QO,QD=QD,ZR,QG n,XX n,QG n,(d:Int)+1=(↑(d+1):Int),2^n=2^n,∀(i:Nat),i<2^n->[iI (-1:Int)]=[iI (-1:Int)],2^n=2^n,∀(i:Nat),i<2^n->[iI (eQ (quB n a b c (d:Int)) n U O d (z1) (quN n a b c (d:Int)) i)]=[iI (eD n a b c U O (d+1) i)],W7,QY,WE,W,W2,W8,QY,WE,W] (leaf G5.normal)))))))) (need [QP n a b c U O,QO,QD=QD,ZR,QG n,XX n,QG n,(d:Int)=2^n,2^n=2^n,∀(i:Nat),i<2^n->[iI (-1:Int)]=[iI (-1:Int)],2^n=2^n,∀(i:Nat),i<2^n->[iI (z1 i)]=[iI (eD n a b c U O (2^n) i)],W7,QY,WE,W,W2,W8,QY,WE,W] (leaf (G5.exit 2))))) VU ?_);simp only [Jq8,CW,VM.sat,GS] at hQ;simp only [VM.sat,UB,G0,GL,UD,VL,UH,HA,FU,R9,RQ,GN,CW]
 have h8:=VR.1;have hp:=uV h8;have hpn:((2^n:Nat):Int)=2^n:=VT;refine ⟨λh=>?_,λh=>?_⟩;have hd3:(d:Int)<2^n:=VJ;have hd:d<2^n:=by
  have h':(d:Int)<((2^n:Nat):Int):=by rw [hpn];exact hd3
  exact Int.ofNat_lt.1 h'
 have hd2:=qC h8 hd;refine ⟨⟨VJ,hd3⟩,hd,λhb=>?_,λhb=>?_⟩;rw [beq_iff_eq] at hb;refine ⟨VJ,⟨VJ,λ_ _=>trivial,λj hj=>by simp only [eD,if_pos hb]⟩,hd,VJ⟩
 rw [beq_eq_false_iff_ne] at hb;refine ⟨hd,⟨λ_ _=>trivial,λj hj=>rfl⟩,VJ,⟨VJ,λ_ _=>trivial,λj hj=>by simp only [eD,if_neg hb]⟩,hd,VJ⟩
 have hd:d=2^n:=by
  have h': ¬(d:Int)<((2^n:Nat):Int):=by rw [hpn];omega
  omega
 subst hd;exact ⟨⟨hpn,λ_ _=>trivial,λj hj=>rfl⟩,λE hE=>by cases hE;exact hQ⟩
def pm(n:Nat):Nat:=2^n-1
def lQ(p:Nat->Bool)(n:Nat)(U O:Cg)(d:Nat)(F:Cg):Nat->Nat->Int
 | 0=>F
 |q+1=>if min (lQ p n U O d F q (d ||| 2^UP p n q)) (O (UP p n q))>=U (UP p n q) then US d (max (lQ p n U O d F q d) (min (lQ p n U O d F q (d ||| 2^UP p n q)) (O (UP p n q)))) (lQ p n U O d F q) else lQ p n U O d F q
def lS(n:Nat)(a b c U O:Cg):Nat->Nat->Int
 | 0=>US (2^n-1) 101 (λ_=> -1)
 |s+1=>lQ (quB n a b c ((2^n-2-s:Nat):Int)) n U O (2^n-2-s) (lS n a b c U O s) (quN n a b c ((2^n-2-s:Nat):Int))
section
variable (n:Nat)(a b c U O:Cg)
noncomputable def Zu8:St:={σ:=[agg (ZZ n a b c U O),ptr 0 0,QD,ptr 5 0]++HI 14 [ZK n,iI ((2:Int)^n)]++HI 27 [ZK n,iI ((2:Int)^n)]++HI 110 [],m:=[(903,GO.cells 189 [iI ((2:Int)^n-1-1)]),(902,GO.row 3 1 (2^n) λk=>iI (if decide (k=((2:Int)^n-1).toNat)=true then (101:Int) else (-1:Int))::Bool.rec ([]) ([]) (decide (k=((2:Int)^n-1).toNat))),(901,GO.row 3 1 (2^n) λz=>[iI (eD n a b c U O (2^n) z)]),(5,YJ),(4,GO.keep 249 (KU n a b c U O)),(0,GO.cells 65 (ZZ n a b c U O))],nx:=916}
noncomputable def bQ:Code:=U9 (VS (U7 Tryz.f84) 2)
noncomputable def Wk9(d:Nat):St:={σ:=GY [(9,.ptr 903 0),(10,.top),(11,.top),(12,.top)] (Zu8 n a b c U O).σ,m:=[(903,.cells 189 [i (((d:Nat):Int)-1)]),(902,.row 3 1 (2^n) (λz=>[i ((lS n a b c U O (2^n-1-(d))) z)])),(901,.row 3 1 (2^n) (λz=>[i ((eD n a b c U O (2^n)) z)])),(5,.cells 134 [.ptr 4 0]),(4,.keep 249 [i 4,i 10,sls n a b c U O,.row 901,.row 902]),(0,.cells 65 [i 4,i 10,sls n a b c U O])],nx:=904}
noncomputable def CV(d:Nat):G5->Option St
 | .exit 6=>some {σ:=GY [(9,.ptr 903 0),(10,.top),(11,.top),(12,.top)] (Zu8 n a b c U O).σ,m:=[(903,.cells 189 [i (((0:Nat):Int)-1)]),(902,.row 3 1 (2^n) (λz=>[i ((lS n a b c U O (2^n-1-(0))) z)])),(901,.row 3 1 (2^n) (λz=>[i ((eD n a b c U O (2^n)) z)])),(5,.cells 134 [.ptr 4 0]),(4,.keep 249 [i 4,i 10,sls n a b c U O,.row 901,.row 902]),(0,.cells 65 [i 4,i 10,sls n a b c U O])],nx:=904}
 |_=>none
noncomputable def Jq7:CT:= .leaf (.exit 6,(CV n a b c U O (pm n) (.exit 6)).getD (Zu8 n a b c U O))
noncomputable def Za0:UG:=GJ [(.slot 9,903,189,2),(.cell 5 0,0,0,0)] (HF (Wk9 n a b c U O (pm n)) (Jq7 n a b c U O))
abbrev J5:AV:=AV.fn (Fn.func 171) [] [ptr 908 0,ptr 909 0]
def Jt3(d:Nat):St:={σ:=[agg (ZZ n a b c U O),ptr 0 0,QD,ptr 5 0]++HI 5 [ptr 903 0]++HI 8 [ZK n,iI ((2:Int)^n)]++HI 27 [ZK n,iI ((2:Int)^n)]++HI 69 [J5]++HI 40 [],m:=[(909,GO.keep 189 [iI ((d:Int)-1)]),(908,GO.keep 134 [ptr 4 0]),(903,GO.cells 189 [iI ((d:Int)-1)]),(902,GO.row 3 1 (2^n) λz=>[iI (lS n a b c U O (2^n-1-d) z)]),(901,GO.row 3 1 (2^n) λz=>[iI (eD n a b c U O (2^n) z)]),(5,YJ),(4,GO.keep 249 (KU n a b c U O)),(0,GO.cells 65 (ZZ n a b c U O))],nx:=913}
noncomputable def Jx6:Code:=T4 (VS bQ 0)
noncomputable def Jv4:Code:=T3 (VS bQ 0)
def pD(d:Nat)(k:Nat):St:={σ:=GY [(10,.top),(11,.top),(12,.top)] (Jt3 n a b c U O d).σ,m:=[(909,.keep 189 [i ((d:Int)-1)]),(908,.keep 134 [.ptr 4 0]),(903,.cells 189 [i (((d:Nat):Int)-1)]),(902,.row 3 1 (2^n) (λz=>[i ((lQ (quB n a b c ((d:Int)-1)) n U O (d-1) (lS n a b c U O (2^n-1-d)) (k)) z)])),(901,.row 3 1 (2^n) (λz=>[i ((eD n a b c U O (2^n)) z)])),(5,.cells 134 [.ptr 4 0]),(4,.keep 249 [i 4,i 10,sls n a b c U O,.row 901,.row 902]),(0,.cells 65 [i 4,i 10,sls n a b c U O])],nx:=913}
def oI(d:Nat)(k:Nat):G5->Option St
 | .normal=>some {σ:=GY [(10,.top),(11,.top),(12,.top)] (Jt3 n a b c U O d).σ,m:=[(909,.keep 189 [i ((d:Int)-1)]),(908,.keep 134 [.ptr 4 0]),(903,.cells 189 [i (((d:Nat):Int)-1)]),(902,.row 3 1 (2^n) (λz=>[i ((lQ (quB n a b c ((d:Int)-1)) n U O (d-1) (lS n a b c U O (2^n-1-d)) ((quN n a b c ((d:Int)-1)))) z)])),(901,.row 3 1 (2^n) (λz=>[i ((eD n a b c U O (2^n)) z)])),(5,.cells 134 [.ptr 4 0]),(4,.keep 249 [i 4,i 10,sls n a b c U O,.row 901,.row 902]),(0,.cells 65 [i 4,i 10,sls n a b c U O])],nx:=913}
 |_=>none
def T_ke(d:Nat):CT:= .leaf (.normal,pD n a b c U O d (quN n a b c ((d:Int)-1)))
def Xz9(d:Nat):UG:=GJ [(.slot 118,0,0,0)] (HF (pD n a b c U O d (0)) (T_ke n a b c U O d))
abbrev ZX:Prop:=ptr 903 0=ptr 903 0
theorem Jh0(d:Nat)(VR:sV n a b c U O)(UE:1<=d)(HK:d<2^n):HT VO (.rangeFunc (rfF (VS bQ 0)) (jP (VS bQ 0)) Jx6 Jv4) (Xz9 n a b c U O d):=by
 refine yP [(.slot 118,0,0,0)] (L:=[]) (Ae F0 (Ae PP Aa)) Ad VZ U2 (V:=Nat) (pD n a b c U O d) (λk=>k<=(quN n a b c ((d:Int)-1))) (λk=>k) (oI n a b c U O d) (x0:=0) VT rfl ?_ ?_ ?_ ?_ (g:=171) (caps:=[.ro [.ro [i 4,i 10,sls n a b c U O,.top,.top]],.ro [i ((d:Int)-1)]]) (caps0:=[.ptr 908 0,.ptr 909 0]) VU VU (vD .top .top n a b c U O ((d:Int)-1) VR (by have:=qC VR.1 HK;omega)) (λ_=>rfl) ?_
 rintro k;kernel_rfl;rintro k y E h;unfold oI at h;split at h;cases h;kernel_rfl;cases h;rintro k;rfl;rintro k y E h;unfold oI at h;split at h;cases h;rfl;cases h;rintro Q hQ k hx;refine ⟨λhlt=>⟨(k+1),rfl,?_⟩,λPL=>?_⟩;(with_reducible refine D9 (t:=let W:=(quB n a b c ((d:Int)-1));let z1:=(BitVec.toNat (BitVec.ofInt 64 ((d:Int)-1) ||| BitVec.ofInt 64 ((1:Int)*2^UP W n k)));let z2:=(lS n a b c U O (2^n-1-d));let z3:=(VY ((d:Int)-1));let z5:=lQ W n U O;let z4:=(z5 (d-1) z2 k (IntKind.wrap IntKind.i64 (z1:Int)).toNat);(need [(0:Int)<=(UP W n k:Int)/\(UP W n k:Int)<=64,VL ((1:Int)*2^UP W n k)] (need [UI (IntKind.wrap IntKind.i64 (z1:Int)) (↑(2^n):Int)] (need [(IntKind.wrap IntKind.i64 (z1:Int)).toNat<2^n] (branch (decide (min z4 (O (UP W n k))>=U (UP W n k))) (need [UI ((d:Int)-1) (↑(2^n):Int)] (need [((d:Int)-1).toNat<2^n] (need [UI ((d:Int)-1) (↑(2^n):Int)] (need [((d:Int)-1).toNat<2^n] (need [QP n a b c U O,QO,QD=QD,ZR,ZX,QG n,XX n,QG n,XX n,J5=J5,z3,W7,z3,2^n=2^n,∀(i:Nat),i<2^n->H6 (decide (i=((d:Int)-1).toNat)) [iI (max (z5 (d-1) z2 k ((d:Int)-1).toNat) (min z4 (O (UP W n k))))] [iI (z5 (d-1) z2 k i)]=[iI (z5 (d-1) z2 (k+1) i)],2^n=2^n,∀(i:Nat),i<2^n->[iI (eD n a b c U O (2^n) i)]=[iI (eD n a b c U O (2^n) i)],W7,QY,WE,W0 n a b c U O,W2,W8,QY,WE,W0 n a b c U O] (leaf G5.normal)))))) (need [QP n a b c U O,QO,QD=QD,ZR,ZX,QG n,XX n,QG n,XX n,J5=J5,z3,W7,z3,2^n=2^n,∀(i:Nat),i<2^n->[iI (z5 (d-1) z2 k i)]=[iI (z5 (d-1) z2 (k+1) i)],2^n=2^n,∀(i:Nat),i<2^n->[iI (eD n a b c U O (2^n) i)]=[iI (eD n a b c U O (2^n) i)],W7,QY,WE,W0 n a b c U O,W2,W8,QY,WE,W0 n a b c U O] (leaf G5.normal))))))) VU ?_)
 have h8:=VR.1;obtain ⟨D,rfl⟩: ∃D,d=D+1:=⟨d-1,VJ⟩;have hD:(((D+1:Nat):Int)-1)=(D:Int):=VJ;have hd:D<2^n:=VJ;have hdi:=qC h8 hd;have hpn:((2^n:Nat):Int)=2^n:=VT;simp only [hD] at*;have hs:=uM hlt;have hor:=We8 h8 hd hs.1;have hol:=Qb6 hd hs.1;simp only [VM.sat,UB,UH,hor,F4,HA,Bi]
 have hd2:(D:Int)<2^n:=by
  have h:(D:Int)<((2^n:Nat):Int):=Int.ofNat_lt.2 hd
  rwa [hpn] at h
 have Qq3:((D ||| 2^UP (quB n a b c D) n k:Nat):Int)<2^n:=by
  have h:((D ||| 2^UP (quB n a b c D) n k:Nat):Int)<((2^n:Nat):Int):=Int.ofNat_lt.2 hol
  rwa [hpn] at h
 have hk1:k+1<=quN n a b c D:=hlt;have h2s:(1:Int)<=2^UP (quB n a b c D) n k/\(2:Int)^UP (quB n a b c D) n k<=256:=uV VJ;have h64:=hs.1;refine ⟨⟨⟨VJ,VJ⟩,by simp only [VL,Int.one_mul];omega⟩,⟨VJ,Qq3⟩,hol,λh=>?_,λh=>?_⟩
 refine ⟨⟨VJ,hd2⟩,hd,⟨VJ,hd2⟩,hd,⟨λj hj=>?_,λ_ _=>trivial⟩,hk1⟩;simp only [lQ,if_pos h];exact uQ;refine ⟨⟨λj hj=>?_,λ_ _=>trivial⟩,hk1⟩;simp only [lQ,if_neg h];have hk:k=quN n a b c ((d:Int)-1):=VJ;subst hk;exact hQ
theorem Jh1(VR:sV n a b c U O):HT VO (.loop bQ) (Za0 n a b c U O):=by
 refine gD [(.slot 9,903,189,2),(.cell 5 0,0,0,0)] (L:=[BC 117 (λd=>F2 [d+1<2^n] (Xz9 n a b c U O (d+1)))]) (Ae LF (Ae F0 (Ae PP Aa))) (Ai Ab (Ag dG Ac)) VZ (G7 (λcj hcj=>by
  have e:VS bQ 0=some (.rangeFunc (rfF (VS bQ 0)) (jP (VS bQ 0)) Jx6 Jv4):=VU;rw [e] at hcj;cases hcj;exact gZ (λd=>B2 (λh=>Jh0 n a b c U O (d+1) VR (Nat.succ_le_succ (Ao _)) h)))) (X:=Nat) (Wk9 n a b c U O) (λd=>d<=pm n) (λd=>d) (CV n a b c U O) (x0:=pm n) (Am _) ?_ ?_ ?_
 rintro d;kernel_rfl;rintro d y E h;unfold CV at h;split at h;cases h;kernel_rfl;cases h;rintro Q hQ d hx;refine ⟨(d-1),?_⟩;(with_reducible refine D9 (t:=let W:=(quB n a b c ((↑(((d:Int)-1).toNat+1):Int)-1));let z4:=lS n a b c U O;let z1:=(z4 (2^n-1-(((d:Int)-1).toNat+1)));let z2:=eD n a b c U O;let z3:=W0 n a b c U O;(branch (decide ((d:Int)-1>=(0:Int))) (need [((d:Int)-1).toNat+1<2^n] (need [QP n a b c U O,QO,QD=QD,ZR,ZX,QG n,XX n,QG n,XX n,J5=J5,(d:Int)-1=(↑(((d:Int)-1).toNat+1):Int)-1,W7,(d:Int)-1=(↑(((d:Int)-1).toNat+1):Int)-1,2^n=2^n,∀(i:Nat),i<2^n->[iI (z4 (2^n-1-d) i)]=[iI (lQ W n U O (((d:Int)-1).toNat+1-1) z1 0 i)],2^n=2^n,∀(i:Nat),i<2^n->[iI (z2 (2^n) i)]=[iI (z2 (2^n) i)],W7,QY,WE,z3,W2,W8,QY,WE,z3] (need [VL ((↑(((d:Int)-1).toNat+1):Int)-1-1)] (need [QP n a b c U O,QO,QD=QD,ZR,ZX,QG n,XX n,QG n,XX n,(↑(((d:Int)-1).toNat+1):Int)-1-1=(↑(d-1):Int)-1,2^n=2^n,∀(i:Nat),i<2^n->[iI (lQ W n U O (((d:Int)-1).toNat+1-1) z1 (quN n a b c ((↑(((d:Int)-1).toNat+1):Int)-1)) i)]=[iI (z4 (2^n-1-(d-1)) i)],2^n=2^n,∀(i:Nat),i<2^n->[iI (z2 (2^n) i)]=[iI (z2 (2^n) i)],W7,QY,WE,z3,W2,W8,QY,WE,z3] (leaf G5.normal))))) (need [QP n a b c U O,QO,QD=QD,ZR,ZX,QG n,XX n,QG n,XX n,(d:Int)-1=((0:Nat):Int)-1,2^n=2^n,∀(i:Nat),i<2^n->[iI (z4 (2^n-1-d) i)]=[iI (z4 (2^n-1-0) i)],2^n=2^n,∀(i:Nat),i<2^n->[iI (z2 (2^n) i)]=[iI (z2 (2^n) i)],W7,QY,WE,z3,W2,W8,QY,WE,z3] (leaf (G5.exit 6))))) VU ?_);simp only [Jq7,CV,VM.sat,GS] at hQ;simp only [VM.sat,UB,G0,GL,UD,VL,UH,HA,FU,R9,RQ,GN,CV]
 have h8:=VR.1;have hpm:pm n=2^n-1:=rfl;rw [hpm] at hx ⊢;have hp:=uV h8;have hpn:((2^n:Nat):Int)=2^n:=VT;refine ⟨λh=>?_,λh=>?_⟩;obtain ⟨D,rfl⟩: ∃D,d=D+1:=⟨d-1,VJ⟩;have e1:(((D+1:Nat):Int)-1).toNat=D:=VJ;have e2:(((D+1:Nat):Int)-1)=(D:Int):=VJ;have hd:D+1<2^n:=VJ;have hdi:=qC h8 hd;simp only [e2,F4,Bi,true_and];have hst:lQ (quB n a b c D) n U O D (lS n a b c U O (2^n-1-(D+1))) (quN n a b c D)=lS n a b c U O (2^n-1-D):=by
  have h1:2^n-1-D=(2^n-1-(D+1))+1:=VJ;have h2:2^n-2-(2^n-1-(D+1))=D:=VJ;rw [h1];simp only [lS,h2]
 refine ⟨hd,⟨λj hj=>rfl,λ_ _=>trivial⟩,VJ,⟨λj hj=>by rw [hst],λ_ _=>trivial⟩,VJ,VJ⟩
 obtain rfl:d=0:=VJ;exact ⟨⟨rfl,λj hj=>rfl,λ_ _=>trivial⟩,λE hE=>by cases hE;exact hQ⟩
end
theorem sI{S:Code->UG->Prop}{c:Code}{s0 s1 s2:UG}(h0: ∀cj,VS c 0=some cj->S cj s0)(h1: ∀cj,VS c 1=some cj->S cj s1)(h2: ∀cj,VS c 2=some cj->S cj s2):
  ∀j cj,VS c j=some cj-> ∀sp,[s0,s1,s2][j]? =some sp->S cj sp:=by
 intro j cj hj sp hsp
 match j with
 | 0=>simp at hsp;subst hsp;exact h0 cj hj
 | 1=>simp at hsp;subst hsp;exact h1 cj hj
 | 2=>simp at hsp;subst hsp;exact h2 cj hj
 |j+3=>simp at hsp
section
variable (n:Nat)(a b c U O:Cg)
theorem We2(VR:sV n a b c U O):FQ VO 84 [.agg [i 4,i 10,sls n a b c U O]] (.ro [i 4,i 10,sls n a b c U O,.lst 1 (2^n) (λz=>[i (eD n a b c U O (2^n) z)]),.lst 1 (2^n) (λz=>[i (lS n a b c U O (2^n-1) z)])]):=by
 refine D5 (L:=[Za3 n a b c U O,Za2 n a b c U O,Za0 n a b c U O]) (Ae LF (Ae F0 (Ae PP Aa))) (Ai Ab (Ag dG Ac)) VZ Tryz.func84 (UU Tryz.f84) (sI (lpE (b:= .loop Jv6) VU<|(Jh4 n a b c U O VR).N) (lpE (b:= .loop bR) VU<|Jh3 n a b c U O VR) (lpE (b:= .loop bQ) VU<|Jh1 n a b c U O VR)) (t:=let W:=W0 n a b c U O;(need [n<=8] (need [VL ((2:Int)^n-1+1)] (need [QP n a b c U O,QO,QD=QD,ZR,QG n,(0:Int)=((0:Nat):Int),0=0,∀(i:Nat),i<0->[]=[iI (-1:Int)],0=0,∀(i:Nat),i<0->[]=J3,W7,QY,WE,W,W2,W8,QY,WE,W] (need [UI 0 (↑(2^n):Int)] (need [(0:Int).toNat<2^n] (need [n<=8] (need [VL ((2:Int)^n-1+1)] (need [QP n a b c U O,QO,QD=QD,ZR,QG n,XX n,QG n,(0:Int)=((0:Nat):Int),2^n=2^n,∀(i:Nat),i<2^n->[iI (-1:Int)]=[iI (-1:Int)],2^n=2^n,∀(i:Nat),i<2^n->H6 (decide (i=(0:Int).toNat)) [iI 0] J3=[iI (eD n a b c U O 0 i)],W7,QY,WE,W,W2,W8,QY,WE,W] (need [n<=8] (need [(0:Int)<=2^n-1/\(2:Int)^n-1<(↑(2^n):Int)] (need [((2:Int)^n-1).toNat<2^n] (need [n<=8] (need [VL ((2:Int)^n-1-1)] (need [QP n a b c U O,QO,QD=QD,ZR,ZX,QG n,XX n,QG n,XX n,(2:Int)^n-1-1=(pm n:Int)-1,2^n=2^n,∀(i:Nat),i<2^n->H6 (decide (i=((2:Int)^n-1).toNat)) J3 [iI (-1:Int)]=[iI (lS n a b c U O (2^n-1-pm n) i)],2^n=2^n,∀(i:Nat),i<2^n->[iI (eD n a b c U O (2^n) i)]=[iI (eD n a b c U O (2^n) i)],W7,QY,WE,W,W2,W8,QY,WE,W] (leaf (AV.ro [iI 4,iI 10,Q0 n a b c U O,lst 1 (2^n) λz=>[iI (eD n a b c U O (2^n) z)],lst 1 (2^n) λz=>[iI (lS n a b c U O (2^n-1-0) z)]]))))))))))))))))) VU ?_
 have h8:=VR.1;have hp:=uV h8;have hpn:((2^n:Nat):Int)=2^n:=VT;have hp1:1<=2^n:=Cc;have hpt:((2:Int)^n-1).toNat=2^n-1:=VJ;simp only [VM.sat,UB,UH,VL,hpt,Int.toNat_zero]
 (with_reducible repeat' first|apply Al|intro _)
 all_goals first|exact Ak|omega|with_reducible rfl|rfl|skip
 rename_i q hq;exact uQ (F:=λ_=>101);have h1:((pm n:Nat):Int)=((2^n:Nat):Int)-1:=by
  unfold pm;omega
 rw [h1,hpn];rename_i q hq;rw [show 2^n-1-pm n=0 from Bs _];exact uQ (F:=λ_=> -1)
def Xp9:UX:=λl=>some ([l=[.agg [i 4,i 10,sls n a b c U O]]],.ro [i 4,i 10,sls n a b c U O,.lst 1 (2^n) (λz=>[i (eD n a b c U O (2^n) z)]),.lst 1 (2^n) (λz=>[i (lS n a b c U O (2^n-1) z)])])
theorem dI(VR:sV n a b c U O):PI VO 84 (Xp9 n a b c U O):=by
 refine ⟨(UJ Tryz.func84),?_⟩;intro avs ns res h hn;cases h;have e:=hn _ GD;subst e;exact We2 n a b c U O VR
def Xa0:UX:=λl=>some ([l=[.agg [i 4,i 10,sls n a b c U O]]],i (if j7 n a b c U O then 0 else 1))
theorem vF(VR:n<=8):VP VO 83 (Xa0 n a b c U O):=by
 refine ⟨(UJ Tryz.func83),?_⟩;intro avs ns res h hn;cases h;have e:=hn _ GD;subst e;exact NR n a b c U O VR
theorem We1(E F:Cg)(VR:n<=8):VX VO 85 [.ro [i 4,i 10,sls n a b c U O,.lst 1 (2^n) (λz=>[i (E z)]),.lst 1 (2^n) (λz=>[i (F z)])]] (bl (E (2^n-1) != 101)):=by
 refine U1 (L:=[]) (Ae LF Aa) VZ Tryz.func85 (UU Tryz.f85) U2 (t:=need [n<=8] (need [(0:Int)<=2^n-1/\(2:Int)^n-1<(↑(2^n):Int)] (leaf (RV.x (.bool (E ((2:Int)^n-1).toNat != 101)))))) VU ?_;have hp:=uV VR;have hpn:((2^n:Nat):Int)=2^n:=VT;have hp1:1<=2^n:=Cc;have hpt:((2:Int)^n-1).toNat=2^n-1:=VJ;simp only [VM.sat,UB,G0,GL,UD,UH,hpt]
 (with_reducible repeat' first|apply Al|intro _)
 all_goals first|exact VR|omega|rfl|trivial
def Xp8(E F:Cg):UX:=λl=>some ([l=[.ro [i 4,i 10,sls n a b c U O,.lst 1 (2^n) (λz=>[i (E z)]),.lst 1 (2^n) (λz=>[i (F z)])]]],bl (E (2^n-1) != 101))
theorem dH(E F:Cg)(VR:n<=8):VP VO 85 (Xp8 n a b c U O E F):=by
 refine ⟨(UJ Tryz.func85),?_⟩;intro avs ns res h hn;cases h;have e:=hn _ GD;subst e;exact We1 n a b c U O E F VR
theorem eE(E F:Cg)(d Z:Int)(VR:0<=d/\d<2^n):VX VO 87 [.ro [i 4,i 10,sls n a b c U O,.lst 1 (2^n) (λz=>[i (E z)]),.lst 1 (2^n) (λz=>[i (F z)])],i d,i Z] (bl (decide (E d.toNat<=Z)&&decide (F d.toNat>Z))):=by
 refine GW Tryz.func87 (t:=need [UI d (↑(2^n):Int)] (branch (decide (E (Int.toNat d)<=Z)) (need [UI d (↑(2^n):Int)] (leaf (RV.x (.bool (decide (F (Int.toNat d)>Z)))))) (leaf (RV.x (W6))))) VU ?_;have hpn:((2^n:Nat):Int)=2^n:=VT;simp only [VM.sat,UB,G0,GL,UD,UH];have hd:d.toNat<2^n:=VJ
 (with_reducible repeat' first|apply Al|intro _)
 all_goals first|omega|(rename_i h;rw [h];rfl)
def MH(E F:Cg):UX
 |[bk,.x (.int .i64 d),.x (.int .i64 Z)]=>some ([bk= .ro [i 4,i 10,sls n a b c U O,.lst 1 (2^n) (λz=>[i (E z)]),.lst 1 (2^n) (λz=>[i (F z)])],0<=d/\d<2^n],bl (decide (E d.toNat<=Z)&&decide (F d.toNat>Z)))
 |_=>none
theorem uU(E F:Cg):VP VO 87 (MH n a b c U O E F):=by
 refine ⟨(UJ Tryz.func87),?_⟩;intro avs ns res h hn;unfold MH at h;split at h;cases h;rename_i bk d Z;have e:=hn _ GD;rw [e];exact eE n a b c U O E F d Z (hn _ VT);cases h
end
def hoF(n:Nat)(a b c:Cg)(E F:Cg)(ow Z:Int):Nat->Int×Int
 | 0=>(1001,-1)
 |d+1=>match decide (E d<=Z)&&decide (F d>Z) with
  |true=>(min (hoF n a b c E F ow Z d).1 (stF a b c d n ow.toNat),max (hoF n a b c E F ow Z d).2 (stF a b c d n ow.toNat))
  |false=>hoF n a b c E F ow Z d
theorem nth6(F:Cg){q:Nat}(hq:q<6):UA [F 0,F 1,F 2,F 3,F 4,F 5] q=F q:=by
 match q,hq with
 | 0,_=>rfl
 | 1,_=>rfl
 | 2,_=>rfl
 | 3,_=>rfl
 | 4,_=>rfl
 | 5,_=>rfl
section
variable (n:Nat)
abbrev WH(a:Cg)(b:Cg)(c:Cg)(U:Cg)(O:Cg)(E:Cg)(F:Cg):AV:=AV.ro [iI 4,iI 10,Q0 n a b c U O,lst 1 (2^n) λz=>[iI (E z)],lst 1 (2^n) λz=>[iI (F z)]]
abbrev JT:List AV:=[iI 0,iI 0]
def Zv5(a b c U O:Cg)(E F:Cg)(ow Z:Int):St:={σ:=[WH n a b c U O E F,iI ow,iI Z,top,top,top,ptr 0 0,ptr 2 0]++HI 5 [ZK n]++HI 25 [],m:=[(2,GO.cells 118 [iI 1001,iI (-1:Int)]),(0,GO.cells 118 JT)],nx:=8}
noncomputable def Jw0:Code:=U9 (VS (U7 Tryz.f57) 0)
def Wl6(a b c U O:Cg)(E F:Cg)(ow Z:Int)(d:Nat):St:={σ:=GY [(8,.top),(9,.top),(14,i d)] (Zv5 n a b c U O E F ow Z).σ,m:=[(2,.cells 118 [i (hoF n a b c E F ow Z (d)).1,i (hoF n a b c E F ow Z (d)).2]),(0,.cells 118 [i 0,i 0])],nx:=8}
def E2(a b c U O:Cg)(E F:Cg)(ow Z:Int)(d:Nat):G5->Option St
 | .exit 0=>some {σ:=GY [(8,.top),(9,.top),(14,i (2^n))] (Zv5 n a b c U O E F ow Z).σ,m:=[(2,.cells 118 [i (hoF n a b c E F ow Z (2^n)).1,i (hoF n a b c E F ow Z (2^n)).2]),(0,.cells 118 [i 0,i 0])],nx:=8}
 |_=>none
def Jr4(a b c U O:Cg)(E F:Cg)(ow Z:Int):CT:= .leaf (.exit 0,(E2 n a b c U O E F ow Z 0 (.exit 0)).getD (Zv5 n a b c U O E F ow Z))
def Za8(a b c U O:Cg)(E F:Cg)(ow Z:Int):UG:=(HF (Wl6 n a b c U O E F ow Z (0)) (Jr4 n a b c U O E F ow Z))
abbrev ZG:Prop:=ptr 2 0=ptr 2 0
theorem Jj6(a b c U O:Cg)(E F:Cg)(ow Z:Int)(VR:sV n a b c U O)(UE:0<=ow/\ow<4):G6 VO (.loop Jw0) (Za8 n a b c U O E F ow Z):=by
 refine HH (L:=[]) (Ae PP (Ae F0 (Ae LF (Ae (uU n a b c U O E F) (Ae (qY n a b c U O VR) Aa))))) VZ U2 (X:=Nat) (Wl6 n a b c U O E F ow Z) (λd=>d<=2^n) (λd=>2^n-d) (E2 n a b c U O E F ow Z) (x0:=0) VT ?_ ?_ ?_;rintro d;kernel_rfl;rintro d y E h;unfold E2 at h;split at h;cases h;kernel_rfl;cases h;rintro Q hQ d hx;refine ⟨(d+1),?_⟩;(with_reducible refine D9 (t:=let W:=(UA [stF a b c (d:Int) n 0,stF a b c (d:Int) n 1,stF a b c (d:Int) n 2,stF a b c (d:Int) n 3,stF a b c (d:Int) n 4,stF a b c (d:Int) n 5] (Int.toNat ow));let z2:=hoF n a b c E F ow Z;let z1:=(z2 d);let z3:=(VY (WH n a b c U O E F));(branch (decide ((d:Int)<2^n-1+1)) (need [z3,(0:Int)<=(d:Int)/\(d:Int)<2^n] (branch (decide (E d<=Z)&&decide (F d>Z)) (need [W0 n a b c U O,(0:Int)<=(d:Int)/\(d:Int)<256] (need [UI ow 6] (need [VL ((d:Int)+1)] (need [z3,ow=ow,Z=Z,QO,ZG,QG n,(d:Int)+1=(↑(d+1):Int),min (Prod.fst z1) W=Prod.fst (z2 (d+1)),max (Prod.snd z1) W=Prod.snd (z2 (d+1)),QN,QN] (leaf G5.normal))))) (need [VL ((d:Int)+1)] (need [z3,ow=ow,Z=Z,QO,ZG,QG n,(d:Int)+1=(↑(d+1):Int),Prod.fst z1=Prod.fst (z2 (d+1)),Prod.snd z1=Prod.snd (z2 (d+1)),QN,QN] (leaf G5.normal))))) (need [z3,ow=ow,Z=Z,QO,ZG,QG n,(d:Int)=2^n,Prod.fst z1=Prod.fst (z2 (2^n)),Prod.snd z1=Prod.snd (z2 (2^n)),QN,QN] (leaf (G5.exit 0))))) VU ?_);simp only [Jr4,E2,VM.sat,GS] at hQ;simp only [VM.sat,UB,G0,GL,UD,VL,UH,HA,FU,R9,RQ,GN,E2]
 have h8:=VR.1;have hp:=uV h8;have hpn:((2^n:Nat):Int)=2^n:=VT;refine ⟨λh=>?_,λh=>?_⟩;have hd3:(d:Int)<2^n:=VJ;have hd:d<2^n:=by
  have h':(d:Int)<((2^n:Nat):Int):=by rw [hpn];exact hd3
  exact Int.ofNat_lt.1 h'
 have hd2:=qC h8 hd;have h6:=nth6 (stF a b c d n) (show ow.toNat<6 by omega)
 refine ⟨⟨VJ,hd3⟩,λhb=>?_,λhb=>?_⟩;refine ⟨hd2,⟨VJ,VJ⟩,VJ,⟨VJ,?_,?_⟩,hd,VJ⟩;simp only [hoF,hb];rw [h6];simp only [hoF,hb];rw [h6];refine ⟨VJ,⟨VJ,?_,?_⟩,hd,VJ⟩;simp only [hoF,hb];simp only [hoF,hb];have hd:d=2^n:=by
  have h': ¬(d:Int)<((2^n:Nat):Int):=by rw [hpn];omega
  omega
 subst hd;exact ⟨⟨hpn,rfl,rfl⟩,λE hE=>by cases hE;exact hQ⟩
theorem Qn2(a b c U O:Cg)(E F:Cg)(ow Z:Int)(VR:sV n a b c U O)(UE:0<=ow/\ow<4):VX VO 57 [.ro [i 4,i 10,sls n a b c U O,.lst 1 (2^n) (λz=>[i (E z)]),.lst 1 (2^n) (λz=>[i (F z)])],i ow,i Z] (.agg [i (hoF n a b c E F ow Z (2^n)).1,i (hoF n a b c E F ow Z (2^n)).2]):=by
 refine U1 (L:=[Za8 n a b c U O E F ow Z]) (Ae PP (Ae F0 (Ae LF (Ae (uU n a b c U O E F) (Ae (qY n a b c U O VR) Aa))))) VZ Tryz.func57 (UU Tryz.f57) (G7 (lpE (b:= .loop Jw0) VU<|Jj6 n a b c U O E F ow Z VR UE)) (t:=let W:=hoF n a b c E F ow Z;(need [n<=8] (need [VL ((2:Int)^n-1+1)] (need [VY (WH n a b c U O E F),ow=ow,Z=Z,QO,ZG,QG n,(0:Int)=((0:Nat):Int),(1001:Int)=Prod.fst (W 0),(-1:Int)=Prod.snd (W 0),QN,QN] (leaf (RV.agg [RV.x (.int .i64 (Prod.fst (W (2^n)))),RV.x (.int .i64 (Prod.snd (W (2^n))))])))))) VU ?_
 have h8:=VR.1;have hp:=uV h8;have hpn:((2^n:Nat):Int)=2^n:=VT;simp only [VM.sat,UB,G0,GL,UD,UH,VL,Prod.fst,Prod.snd]
 (with_reducible repeat' first|apply Al|intro _)
 all_goals first|exact Ak|exact h8|omega|rfl
def mT(a b c U O:Cg)(E F:Cg):UX
 |[bk,.x (.int .i64 ow),.x (.int .i64 Z)]=>some ([bk= .ro [i 4,i 10,sls n a b c U O,.lst 1 (2^n) (λz=>[i (E z)]),.lst 1 (2^n) (λz=>[i (F z)])],0<=ow/\ow<4],.agg [i (hoF n a b c E F ow Z (2^n)).1,i (hoF n a b c E F ow Z (2^n)).2])
 |_=>none
theorem vE(a b c U O:Cg)(E F:Cg)(VR:sV n a b c U O):VP VO 57 (mT n a b c U O E F):=by
 refine ⟨(UJ Tryz.func57),?_⟩;intro avs ns res h hn;unfold mT at h;split at h;cases h;rename_i bk ow Z;have e:=hn _ GD;rw [e];exact Qn2 n a b c U O E F ow Z VR (hn _ VT);cases h
def zS(a b c U O:Cg):Bool:=eD n a b c U O (2^n) (2^n-1) != 101
end
theorem bA{n:Nat}{a b c U O:Cg}(h:sV n a b c U O):j7 n a b c U O=true:=GC.2 h.2
section
variable (n:Nat)
abbrev X8(a:Cg)(b:Cg)(c:Cg)(U:Cg)(O:Cg):List AV:=[agg [iI 4,iI 10,Q0 n a b c U O]]
theorem Qn0(a b c U O:Cg)(rt:Bool)(VR:sV n a b c U O):UN VO 55 [.agg [i 4,i 10,sls n a b c U O],bl rt] (.branch (!rt) (.leaf (.tup [Bo.nilP,i 2])) (.branch (!zS n a b c U O) (.leaf (.tup [Bo.nilP,i 9])) (.leaf (.tup [.ro [i 4,i 10,sls n a b c U O,.lst 1 (2^n) (λz=>[i (eD n a b c U O (2^n) z)]),.lst 1 (2^n) (λz=>[i (lS n a b c U O (2^n-1) z)])],i 0])))):=by
 refine GT (L:=[]) (Ae (vF n a b c U O VR.1) (Ae (dH n a b c U O (eD n a b c U O (2^n)) (lS n a b c U O (2^n-1)) VR.1) Aa)) (Ai (Af (dI n a b c U O VR) Ab) Ac) VZ Tryz.func55 (UU Tryz.f55) G8 (t:=let W:=(AV.ro [iI 4,iI 10,Q0 n a b c U O,lst 1 (2^n) λz=>[iI (eD n a b c U O (2^n) z)],lst 1 (2^n) λz=>[iI (lS n a b c U O (2^n-1) z)]]);(need [VY (X8 n a b c U O)] (branch ((if j7 n a b c U O=true then (0:Int) else (1:Int)) != 0) (leaf (tup [QD,iI (if j7 n a b c U O=true then (0:Int) else (1:Int))])) (branch (!rt) (leaf (tup [QD,iI 2])) (need [VY (X8 n a b c U O)] (need [VY ([W])] (branch (!eD n a b c U O (2^n) (2^n-1) != 101) (leaf (tup [QD,iI 9])) (leaf (tup [W,iI 0]))))))))) VU ?_
 intro Q hQ;simp only [VM.sat,UB,UH] at hQ ⊢;rw [bA VR];refine ⟨λh=>by simp at h,λ_=>⟨λh=>⟨.tup [Bo.nilP,i 2],⟨rfl,⟨rfl,rfl⟩,Ak⟩,hQ.1 h⟩,λh=>⟨λh2=>⟨.tup [Bo.nilP,i 9],⟨rfl,⟨rfl,rfl⟩,Ak⟩,(hQ.2 h).1 h2⟩,λh2=>⟨.tup [.ro [i 4,i 10,sls n a b c U O,.lst 1 (2^n) (λz=>[i (eD n a b c U O (2^n) z)]),.lst 1 (2^n) (λz=>[i (lS n a b c U O (2^n-1) z)])],i 0],⟨rfl,⟨rfl,rfl⟩,Ak⟩,(hQ.2 h).2 h2⟩⟩⟩⟩
theorem CG(a b c U O:Cg)(VR:sV n a b c U O):UN VO 55 [.agg [i 4,i 10,sls n a b c U O],.lit true] (.branch (!true) (.leaf (.tup [Bo.nilP,i 2])) (.branch (!zS n a b c U O) (.leaf (.tup [Bo.nilP,i 9])) (.leaf (.tup [.ro [i 4,i 10,sls n a b c U O,.lst 1 (2^n) (λz=>[i (eD n a b c U O (2^n) z)]),.lst 1 (2^n) (λz=>[i (lS n a b c U O (2^n-1) z)])],i 0])))):=by
 refine GT (L:=[]) (Ae (vF n a b c U O VR.1) (Ae (dH n a b c U O (eD n a b c U O (2^n)) (lS n a b c U O (2^n-1)) VR.1) Aa)) (Ai (Af (dI n a b c U O VR) Ab) Ac) VZ Tryz.func55 (UU Tryz.f55) G8 (t:=let W:=(AV.ro [iI 4,iI 10,Q0 n a b c U O,lst 1 (2^n) λz=>[iI (eD n a b c U O (2^n) z)],lst 1 (2^n) λz=>[iI (lS n a b c U O (2^n-1) z)]]);(need [VY (X8 n a b c U O)] (branch ((if j7 n a b c U O=true then (0:Int) else (1:Int)) != 0) (leaf (tup [QD,iI (if j7 n a b c U O=true then (0:Int) else (1:Int))])) (need [VY (X8 n a b c U O)] (need [VY ([W])] (branch (!eD n a b c U O (2^n) (2^n-1) != 101) (leaf (tup [QD,iI 9])) (leaf (tup [W,iI 0])))))))) VU ?_
 intro Q hQ;simp only [VM.sat,UB,UH] at hQ ⊢;rw [bA VR]
 replace hQ:=hQ.2 rfl
 refine ⟨λh=>by simp at h,λ_=>⟨λh2=>⟨.tup [Bo.nilP,i 9],⟨rfl,⟨rfl,rfl⟩,Ak⟩,hQ.1 h2⟩,λh2=>⟨.tup [.ro [i 4,i 10,sls n a b c U O,.lst 1 (2^n) (λz=>[i (eD n a b c U O (2^n) z)]),.lst 1 (2^n) (λz=>[i (lS n a b c U O (2^n-1) z)])],i 0],⟨rfl,⟨rfl,rfl⟩,Ak⟩,hQ.2 h2⟩⟩⟩
theorem rT(a b c U O:Cg)(VR:sV n a b c U O):UN VO 55 [.agg [i 4,i 10,sls n a b c U O],.lit false] (.branch (!false) (.leaf (.tup [Bo.nilP,i 2])) (.branch (!zS n a b c U O) (.leaf (.tup [Bo.nilP,i 9])) (.leaf (.tup [.ro [i 4,i 10,sls n a b c U O,.lst 1 (2^n) (λz=>[i (eD n a b c U O (2^n) z)]),.lst 1 (2^n) (λz=>[i (lS n a b c U O (2^n-1) z)])],i 0])))):=by
 refine GT (L:=[]) (Ae (vF n a b c U O VR.1) (Ae (dH n a b c U O (eD n a b c U O (2^n)) (lS n a b c U O (2^n-1)) VR.1) Aa)) (Ai (Af (dI n a b c U O VR) Ab) Ac) VZ Tryz.func55 (UU Tryz.f55) G8 (t:=need [VY (X8 n a b c U O)] (branch ((if j7 n a b c U O=true then (0:Int) else (1:Int)) != 0) (leaf (tup [QD,iI (if j7 n a b c U O=true then (0:Int) else (1:Int))])) (leaf (tup [QD,iI 2])))) VU ?_
 intro Q hQ;simp only [VM.sat,UB,UH] at hQ ⊢;rw [bA VR];exact ⟨λh=>by simp at h,λ_=>⟨.tup [Bo.nilP,i 2],⟨rfl,⟨rfl,rfl⟩,Ak⟩,hQ.1 rfl⟩⟩
def MG(a b c U O:Cg):DD:=λl=>match l with
 |[bt,.x (.bool rt)]=>some (.need [bt= .agg [i 4,i 10,sls n a b c U O]] (.branch (!rt) (.leaf (.tup [Bo.nilP,i 2])) (.branch (!zS n a b c U O) (.leaf (.tup [Bo.nilP,i 9])) (.leaf (.tup [.ro [i 4,i 10,sls n a b c U O,.lst 1 (2^n) (λz=>[i (eD n a b c U O (2^n) z)]),.lst 1 (2^n) (λz=>[i (lS n a b c U O (2^n-1) z)])],i 0])))))
 |[bt,.lit rt]=>some (.need [bt= .agg [i 4,i 10,sls n a b c U O]] (.branch (!rt) (.leaf (.tup [Bo.nilP,i 2])) (.branch (!zS n a b c U O) (.leaf (.tup [Bo.nilP,i 9])) (.leaf (.tup [.ro [i 4,i 10,sls n a b c U O,.lst 1 (2^n) (λz=>[i (eD n a b c U O (2^n) z)]),.lst 1 (2^n) (λz=>[i (lS n a b c U O (2^n-1) z)])],i 0])))))
 |_=>none
theorem vC(a b c U O:Cg)(VR:sV n a b c U O):Sx.Enters Tryz.prog 55/\ ∀avs t,MG n a b c U O avs=some t->UN VO 55 avs t:=by
 refine ⟨(UJ Tryz.func55),?_⟩;intro avs t h;unfold MG at h;split at h;cases h;intro Q hQ;have e:=hQ.1
 dsimp only [UB] at e
 subst e;exact Qn0 n a b c U O _ VR Q hQ.2;cases h;intro Q hQ;have e:=hQ.1
 dsimp only [UB] at e
 subst e;rename_i rt;cases rt;exact rT n a b c U O VR Q hQ.2;exact CG n a b c U O VR Q hQ.2;cases h
def f8{α:Type}(f:Nat->Option α):Nat->Nat->Option α
 |_,0=>none
 |s,k+1=>match f s with
  |some r=>some r
  |none=>f8 f (s+1) k
def orQ(a b c U O:Cg)(g:Nat->Int->Option (List (Nat×Int)))(d:Nat)(Z:Int)(q:Nat):Option (List (Nat×Int)):=
 if max Z (U (UP (quB n a b c d) n q))>O (UP (quB n a b c d) n q) then none else
  match g (d ||| 2^UP (quB n a b c d) n q) (max Z (U (UP (quB n a b c d) n q))) with
  |some l=>some (l++[(UP (quB n a b c d) n q,max Z (U (UP (quB n a b c d) n q)))])
  |none=>none
end
def orF(n:Nat)(a b c U O:Cg):Nat->Nat->Int->Option (List (Nat×Int))
 | 0,_,_=>none
 |N+1,d,Z=>if d=2^n-1 then some [] else f8 (orQ n a b c U O (orF n a b c U O N) d Z) 0 (quN n a b c d)
def orS(n:Nat)(a b c U O:Cg)(d:Nat)(Z:Int):Option (List (Nat×Int)):=orF n a b c U O (2^n) d Z
def orL(l:List (Nat×Int)):List Int:=l.map λp=>(p.1:Int)
def dyU:List (Nat×Int)->(Cg)->Nat->Int
 |[],f=>f
 |p::t,f=>dyU t (US p.1 p.2 f)
section
variable (n:Nat)(a b c U O:Cg)
def orG(d:Nat)(Z:Int):List (Nat×Int):=(orS n a b c U O d Z).getD []
def orH(x:Value):Prop:= ∃(d:Nat) (Z:Int),x= .agg #[.int .i64 d,.int .i64 Z]/\d<2^n/\orS n a b c U O d Z=none
end
def orV:Value->Value:=λ_=> .bool true
def stK(x:Value):Prop:= ∃(d Z:Int),x= .agg #[.int .i64 d,.int .i64 Z]
theorem Wg2(l m:List Int): ∀k,UA (l++m) k=if k<l.length then UA l k else UA m (k-l.length):=by
 induction l with
 |nil=>intro k;simp
 |cons x l ih=>
  intro k;cases k with
  |zero=>simp [UA]
  |succ k=>
   show UA (l++m) k=_;rw [ih];simp only [Bj,Nat.add_lt_add_iff_right,Nat.add_sub_add_right];rfl
theorem EM: ∀{l:List Int} {k:Nat} (h:k<l.length),UA l k=l[k]
 |x::l,0,h=>rfl
 |x::l,k+1,h=>EM (l:=l) (k:=k) (by simpa using h)
theorem f7{α:Type}{f:Nat->Option α}: ∀{k s:Nat},f8 f s k=none↔ ∀j,s<=j->j<s+k->f j=none
 | 0,s=>⟨λ_ j h1 h2=>VJ,λ_=>rfl⟩
 |k+1,s=>by
  unfold f8;cases h:f s with
  |some r=>exact ⟨λh1=>(by cases h1),λh1=>(by rw [h1 s (Am _) VJ] at h;cases h)⟩
  |none=>
   simp only;rw [f7];refine ⟨λh1 j h2 h3=>?_,λh1 j h2 h3=>h1 j VJ VJ⟩;rcases (show j=s\/s+1<=j by omega) with rfl|h4
   exact h;exact h1 j h4 VJ
theorem ON{α:Type}{f:Nat->Option α}{r:α}{q:Nat}(hq:f q=some r): ∀{k s:Nat},s<=q->q<s+k->(∀j,s<=j->j<q->f j=none)->f8 f s k=some r
 | 0,s,h1,h2,_=>VJ
 |k+1,s,h1,h2,h3=>by
  unfold f8;rcases (show s=q\/s<q by omega) with rfl|h4
  rw [hq];rw [h3 s (Am _) h4];exact ON hq h4 VJ (λj h5 h6=>h3 j VJ h6)
theorem IG{α:Type}{f g:Nat->Option α}: ∀{k s:Nat},(∀j,s<=j->j<s+k->f j=g j)->f8 f s k=f8 g s k
 | 0,_,_=>rfl
 |k+1,s,h=>by
  unfold f8;rw [h s (Am _) VJ,IG (λj h1 h2=>h j VJ VJ)]
theorem A6{n:Nat}(h:n<=8):2^n<=256:=by
 have:=uV h;have hpn:((2^n:Nat):Int)=2^n:=VT;omega
theorem Xu8{n:Nat}{a b c:Cg}{d q:Nat}(h8:n<=8)(hd:d<2^n)(hq:q<quN n a b c d):d<d ||| 2^UP (quB n a b c d) n q:=by
 have hs:=uM hq;have h2:=A6 h8;have hb:N4 d (UP (quB n a b c d) n q)=false:=by
  have:=hs.2;unfold quB at this;rw [GU] at this;have h1:=this.1;unfold quB;simpa using h1
 rw [Wq7 VJ] at hb;have hle:d<=d ||| 2^UP (quB n a b c d) n q:=Nat.left_le_or
 rcases Nat.lt_or_eq_of_le hle with h|h;exact h;exfalso;have:(d ||| 2^UP (quB n a b c d) n q).testBit (UP (quB n a b c d) n q)=true:=by
  rw [Nat.testBit_or,Nat.testBit_two_pow_self,Bool.or_true]
 rw [←h,hb] at this;cases this
theorem eL{n:Nat}{a b c U O:Cg}(h8:n<=8): ∀(N N' d:Nat) (Z:Int),d<2^n->2^n-d<=N->2^n-d<=N'->orF n a b c U O N d Z=orF n a b c U O N' d Z
 | 0,_,d,_,h1,h2,_=>VJ
 |N+1,0,d,_,h1,_,h3=>VJ
 |N+1,N'+1,d,Z,h1,h2,h3=>by
  simp only [orF];split;rfl;refine IG λq _ hq=>?_;have hq:q<quN n a b c d:=VJ;have hg:=Xu8 h8 h1 hq;have hl:=Qb6 h1 (uM hq).1;unfold orQ;rw [eL h8 N N' _ _ hl VJ VJ]
section
variable {n:Nat}{a b c U O:Cg}
theorem oN(h8:n<=8){d:Nat}(Z:Int)(hd:d<2^n):orS n a b c U O d Z=if d=2^n-1 then some [] else f8 (orQ n a b c U O (orS n a b c U O) d Z) 0 (quN n a b c d):=by
 have h:orS n a b c U O d Z=orF n a b c U O (2^n+1) d Z:=eL h8 _ _ _ _ hd VJ VJ;rw [h];rfl
theorem Wf0(h8:n<=8)(Z:Int):orS n a b c U O (2^n-1) Z=some []:=by
 have:=A6 h8;have:0<2^n:=Nat.two_pow_pos n;rw [oN h8 Z VJ,if_pos rfl]
end
theorem Xh8(l:List (Nat×Int))(p:Nat×Int):orL (l++[p])=orL l++[(p.1:Int)]:=by simp [orL]
theorem Qe8: ∀(l:List (Nat×Int)) (p:Nat×Int) (f:Cg),dyU (l++[p]) f=US p.1 p.2 (dyU l f)
 |[],_,_=>rfl
 |_::t,p,f=>Qe8 t p _
theorem Qb8{n:Nat}{a b c U O:Cg}: ∀(N d:Nat) (Z:Int) (l:List (Nat×Int)),orF n a b c U O N d Z=some l->l.length<=N
 | 0,_,_,_,h=>by simp [orF] at h
 |N+1,d,Z,l,h=>by
  simp only [orF] at h;split at h;cases h;exact Ao _;obtain ⟨q,hq⟩: ∃q,orQ n a b c U O (orF n a b c U O N) d Z q=some l:=by
   refine Classical.byContradiction λhno=>?_;rw [f7.2 (λj _ _=>?_)] at h;cases h;cases hj:orQ n a b c U O (orF n a b c U O N) d Z j with
   |none=>rfl
   |some r=>
    exfalso;have: ∀(f:Nat->Option (List (Nat×Int))) (k s:Nat) (r:List (Nat×Int)),f8 f s k=some r-> ∃q,f q=some r:=by
     intro f k
     induction k with
     |zero=>intro s r h;cases h
     |succ k ih=>
      intro s r h;unfold f8 at h;cases hf:f s with
      |some r'=>rw [hf] at h;cases h;exact ⟨s,hf⟩
      |none=>rw [hf] at h;exact ih _ _ h
    exact hno (this _ _ _ _ h)
  unfold orQ at hq;split at hq;cases hq;split at hq;rename_i l' hl';cases hq;have:=Qb8 N _ _ _ hl';rw [Be];simp;omega;cases hq
theorem Qb7(n:Nat)(a b c U O:Cg)(d:Nat)(Z:Int):(orG n a b c U O d Z).length<=2^n:=by
 unfold orG;cases h:orS n a b c U O d Z with
 |none=>exact Ao _
 |some l=>exact Qb8 _ _ _ _ h
theorem NZ(d Z:Int):FG Tryz.prog 340 stK (.agg #[.int .i64 d,.int .i64 Z]) (.bool false):=by
 refine ⟨⟨343,4,(match Tryz.prog.underlying 343 with|some (.struct fs)=>fs|_=>#[]),VU,VU,?_,?_,?_⟩,by simp [Instr.sameBits]⟩
 intro b' w;kernel_rfl;rintro k' ⟨d',day',rfl⟩ w;refine ⟨d==d'&&(Z==day'&&true),xM (P:=Tryz.prog) (e:=PE w w) Op.maxDepth 343 (.agg [i d,i Z]) (.agg [i d',i day']) _ _ _ VU (Rep.aggL (U3.cons (.x _) (U3.one (.x _)))) (Rep.aggL (U3.cons (.x _) (U3.one (.x _)))),λh=>?_⟩;simp only [Bool.and_true,GU,beq_iff_eq] at h;obtain ⟨rfl,rfl⟩:=h;rfl;intro w;kernel_rfl
theorem Wf1{n:Nat}{a b c U O:Cg}{x:Value}(h:orH n a b c U O x):stK x:=by
 obtain ⟨d,Z,h,_⟩:=h;exact ⟨_,_,h⟩
section
variable (n:Nat)(a b c U O:Cg)(ea la:AV)
def OM(d:Nat)(Z:Int)(ord:List Int)(dy:Cg)(oa:Option Addr)(ol oc:Nat)(da:Option Addr)(dl dc:Nat):H2:=[(3,.cells 22 [.row 900]),(3,.cells 22 [.x (.slice oa ol oc)]),(900,.row 3 1 ord.length (λj=>[i (UA ord j)])),(5,.memo (orH n a b c U O) orV),(7,.row 3 1 n (λj=>[i (dy j)])),(0,.keep 134 [.ro [i 4,i 10,sls n a b c U O,ea,la]]),(1,.keep 340 [.mp 5]),(2,.keep 341 [.fn (.func 237) [] [.ptr 0 0,.ptr 1 0,.ptr 2 0,.ptr 3 0,.ptr 4 0]]),(4,.cells 22 [.row 7]),(4,.cells 22 [.x (.slice da dl dc)])]
def OT_(d:Nat)(Z:Int)(ord:List Int)(dy:Cg)(oa:Option Addr)(ol oc:Nat)(da:Option Addr)(dl dc:Nat)(l:List (Nat×Int)):St:={σ:=[],m:=[(3,.cells 22 [.row 900]),(900,.row 3 1 (ord++orL l).length (λj=>[i (UA (ord++orL l) j)])),(5,.memo (orH n a b c U O) orV),(7,.row 3 1 n (λj=>[i ((dyU l dy) j)])),(0,.keep 134 [.ro [i 4,i 10,sls n a b c U O,ea,la]]),(1,.keep 340 [.mp 5]),(2,.keep 341 [.fn (.func 237) [] [.ptr 0 0,.ptr 1 0,.ptr 2 0,.ptr 3 0,.ptr 4 0]]),(4,.cells 22 [.row 7]),(4,.cells 22 [.x (.slice da dl dc)])],nx:=901,sv:=[[.ptr 0 0,.ptr 1 0,.ptr 2 0,.ptr 3 0,.ptr 4 0]] }
def OF_(d:Nat)(Z:Int)(ord:List Int)(dy:Cg)(oa:Option Addr)(ol oc:Nat)(da:Option Addr)(dl dc:Nat):St:={σ:=[],m:=[(3,.cells 22 [.row 900]),(3,.cells 22 [.x (.slice oa ol oc)]),(900,.row 3 1 ord.length (λj=>[i (UA ord j)])),(5,.memo (orH n a b c U O) orV),(7,.row 3 1 n (λj=>[i (dy j)])),(0,.keep 134 [.ro [i 4,i 10,sls n a b c U O,ea,la]]),(1,.keep 340 [.mp 5]),(2,.keep 341 [.fn (.func 237) [] [.ptr 0 0,.ptr 1 0,.ptr 2 0,.ptr 3 0,.ptr 4 0]]),(4,.cells 22 [.row 7]),(4,.cells 22 [.x (.slice da dl dc)])],nx:=901,sv:=[[.ptr 0 0,.ptr 1 0,.ptr 2 0,.ptr 3 0,.ptr 4 0]] }
end
def NX:List (Nat×Nat)->Bool
 |[]=>true
 |(x,y)::t=>match Nat.beq x y with
  |true=>NX t
  |false=>false
def Xj4:GO->Bool
 | .aka _ _ _ _ _=>true
 |_=>false
def oS:H2->H2
 |[]=>[]
 |(k,r)::t=>match Xj4 r with
  |true=>oS t
  |false=>(k,r)::oS t
def xE(k:Nat)(g:Ci):List Int:=(List.range k).map (col 0 g)
def nG(n:Nat)(a b c U O:Cg)(N:Nat):D2:=λavs m nx sv=>match avs with
 |[.agg [.x (.int .i64 d),.x (.int .i64 Z)],.ptr k W,.ptr g z1,.ptr f z2,.ptr o z3,.ptr dd z4]=>match DG m k,DG m g,DG m f,DG m o,DG m dd with
  |some (.keep Tk [.ro [c1,c2,sl,ea,la]]),some (.keep Tg [.mp mg]),some (.keep Tf [.fn (.func fg) [] [.ptr k' y0,.ptr g' y1,.ptr f' y2,.ptr o' y3,.ptr d' y4]]),some (.cells To [.row q]),some (.cells Td [.row r])=>match DG m mg,DG m q,DG m r with
   |some (.memo h ff),some (.row T1 s1 k1 g1),some (.row T2 s2 k2 g2)=>
    match NX [(W,0),(z1,0),(z2,0),(z3,0),(z4,0),(y0,0),(y1,0),(y2,0),(y3,0),(y4,0),(Tk,134),(Tg,340),(Tf,341),(To,22),(Td,22),(fg,237),(k,k'),(g,g'),(f,f'),(o,o'),(dd,d'),(T1,3),(s1,1),(T2,3),(s2,1)]&&(!Nat.beq q r&& !Nat.beq o dd) with
    |true=>some (.needT [c1=i 4,c2=i 10,sl=sls n a b c U O,∀x,h x->orH n a b c U O x/\ff x=orV x,UF 1 k1 g1,UF 1 k2 g2,k2=n,0<=d/\d<2^n,2^n-d.toNat<=N,0<=Z/\Z<=100,k1<=1000]
      (.branch (orS n a b c U O d.toNat Z).isSome
       (.leaf (.lit true,(nx,.row 3 1 (xE k1 g1++orL (orG n a b c U O d.toNat Z)).length (λj=>[i (UA (xE k1 g1++orL (orG n a b c U O d.toNat Z)) j)]))::qG (qG (qG (jF (oS m) q) o (.cells 22 [.row nx])) r (.row 3 1 n (λj=>[i (dyU (orG n a b c U O d.toNat Z) (col 0 g2) j)]))) mg (.memo (orH n a b c U O) orV),nx+1,sv))
       (.leaf (.lit false,qG (qG (qG (oS m) q (.row 3 1 k1 g1)) r (.row 3 1 n g2)) mg (.memo (orH n a b c U O) orV),nx,sv))))
    |false=>none
   |_,_,_=>none
  |_,_,_,_,_=>none
 |_=>none
theorem Jn6{l:List Int}{x:Int}{j:Nat}(h:j<l.length+1):GI l.length (λj=>[i (UA l j)]) (U4 1 [i x]) j=[i (UA (l++[x]) j)]:=by
 rw [Wg2];show H6 (decide (j<l.length)) _ (U4 1 [i x] (j-l.length))=_;rw [show j-l.length=0 by omega]
 by_cases hj:j<l.length;rw [decide_eq_true hj,if_pos hj];rfl;rw [decide_eq_false hj,if_neg hj];rfl
theorem nZ(n:Nat)(f:Cg):UF 1 n (λj=>[i (f j)]):=λj _=>rfl
theorem TE(l:List Int):xE l.length (λj=>[i (UA l j)])=l:=by
 unfold xE;apply List.ext_getElem?;intro j;rcases An j l.length with hj|hj;rw [Bn,List.getElem?_range hj,D0 VJ];simp only [Bt,HE];unfold col;show UA l j=l[j];exact EM VJ;rw [Br (by simp;omega),Br VJ]
abbrev QL:AV:=AV.fn (Fn.func 237) [] [ptr 0 0,ptr 1 0,ptr 2 0,ptr 3 0,ptr 4 0]
section
variable (n:Nat)(a b c U O:Cg)(ea la:AV)(d:Nat)(Z:Int)(ord:List Int)(dy:Cg)(oa:Option Addr)(ol oc:Nat)(da:Option Addr)(dl dc:Nat)
def Xd5(N:Nat):St:={σ:=[agg [iI (d:Int),iI Z],ptr 0 0,ptr 1 0,ptr 2 0,ptr 3 0,ptr 4 0,ptr 901 0,ptr 902 0]++HI 14 [AV.fn (Fn.func 171) [] [AV.ro [QQ n a b c U O ea la],AV.ro [iI (d:Int)]]]++HI 33 [],m:=[(902,GO.cells 4 [AV.x (W6)]),(901,GO.cells 343 [iI (d:Int),iI Z]),(3,GO.cells 22 [AV.row 900]),(3,GO.cells 22 [AV.x (.slice oa ol oc)]),(900,GO.row 3 1 (List.length ord) λj=>[iI (UA ord j)]),(5,GO.memo (λx=>orH n a b c U O x) λa=>Value.bool true),(7,GO.row 3 1 n λj=>[iI (dy j)]),(0,GO.keep 134 [QQ n a b c U O ea la]),(1,GO.keep 340 [AV.mp 5]),(2,GO.keep 341 [QL]),(4,GO.cells 22 [AV.row 7]),(4,GO.cells 22 [AV.x (.slice da dl dc)])],nx:=915,sv:=[[ptr 0 0,ptr 1 0,ptr 2 0,ptr 3 0,ptr 4 0]] }
noncomputable def Jx5:Code:=T4 (VS (U7 Tryz.f237) 0)
noncomputable def Jv2:Code:=T3 (VS (U7 Tryz.f237) 0)
def Wk6(N:Nat)(k:Nat):St:={σ:=GY [(8,.top),(9,.top),(10,.top)] (Xd5 n a b c U O ea la d Z ord dy oa ol oc da dl dc N).σ,m:=[(902,.cells 4 [.x (.bool false)]),(901,.cells 343 [i d,i Z]),(3,.cells 22 [.row 900]),(3,.cells 22 [.x (.slice oa ol oc)]),(900,.row 3 1 ord.length (λj=>[i (UA ord j)])),(5,.memo (orH n a b c U O) orV),(7,.row 3 1 n (λj=>[i (dy j)])),(0,.keep 134 [.ro [i 4,i 10,sls n a b c U O,ea,la]]),(1,.keep 340 [.mp 5]),(2,.keep 341 [.fn (.func 237) [] [.ptr 0 0,.ptr 1 0,.ptr 2 0,.ptr 3 0,.ptr 4 0]]),(4,.cells 22 [.row 7]),(4,.cells 22 [.x (.slice da dl dc)])],nx:=920,sv:=[[.ptr 0 0,.ptr 1 0,.ptr 2 0,.ptr 3 0,.ptr 4 0]] }
def vI(N:Nat)(k:Nat):G5->Option St
 | .normal=>some {σ:=GY [(8,.top),(9,.top),(10,.top)] (Xd5 n a b c U O ea la d Z ord dy oa ol oc da dl dc N).σ,m:=[(902,.cells 4 [.x (.bool false)]),(901,.cells 343 [i d,i Z]),(3,.cells 22 [.row 900]),(3,.cells 22 [.x (.slice oa ol oc)]),(900,.row 3 1 ord.length (λj=>[i (UA ord j)])),(5,.memo (orH n a b c U O) orV),(7,.row 3 1 n (λj=>[i (dy j)])),(0,.keep 134 [.ro [i 4,i 10,sls n a b c U O,ea,la]]),(1,.keep 340 [.mp 5]),(2,.keep 341 [.fn (.func 237) [] [.ptr 0 0,.ptr 1 0,.ptr 2 0,.ptr 3 0,.ptr 4 0]]),(4,.cells 22 [.row 7]),(4,.cells 22 [.x (.slice da dl dc)])],nx:=920,sv:=[[.ptr 0 0,.ptr 1 0,.ptr 2 0,.ptr 3 0,.ptr 4 0]] }
 | .ret=>some {σ:=GY [(8,.top),(9,.top),(10,.top)] (Xd5 n a b c U O ea la d Z ord dy oa ol oc da dl dc N).σ,m:=[(902,.cells 4 [.lit true]),(901,.cells 343 [i d,i Z]),(3,.cells 22 [.row 900]),(900,.row 3 1 (ord++orL (orG n a b c U O d Z)).length (λj=>[i (UA (ord++orL (orG n a b c U O d Z)) j)])),(5,.memo (orH n a b c U O) orV),(7,.row 3 1 n (λj=>[i ((dyU (orG n a b c U O d Z) dy) j)])),(0,.keep 134 [.ro [i 4,i 10,sls n a b c U O,ea,la]]),(1,.keep 340 [.mp 5]),(2,.keep 341 [.fn (.func 237) [] [.ptr 0 0,.ptr 1 0,.ptr 2 0,.ptr 3 0,.ptr 4 0]]),(4,.cells 22 [.row 7]),(4,.cells 22 [.x (.slice da dl dc)])],nx:=920,sv:=[[.ptr 0 0,.ptr 1 0,.ptr 2 0,.ptr 3 0,.ptr 4 0]] }
 |_=>none
def Zs0(N:Nat):CT:= .branch (orS n a b c U O d Z).isSome (.leaf (.ret,(vI n a b c U O ea la d Z ord dy oa ol oc da dl dc N 0 .ret).getD (Xd5 n a b c U O ea la d Z ord dy oa ol oc da dl dc N))) (.leaf (.normal,(vI n a b c U O ea la d Z ord dy oa ol oc da dl dc N 0 .normal).getD (Xd5 n a b c U O ea la d Z ord dy oa ol oc da dl dc N)))
def Xz6(N:Nat):UG:=GJ [(.cell 3 0,900,3,1)] (HF (Wk6 n a b c U O ea la d Z ord dy oa ol oc da dl dc N (0)) (Zs0 n a b c U O ea la d Z ord dy oa ol oc da dl dc N))
end
abbrev J2:Prop:=AV.row 900=AV.row 900
abbrev JF:Prop:=AV.row 7=AV.row 7
abbrev JO:Prop:=AV.mp 5=AV.mp 5
abbrev JZ(ord:List Int):Prop:=List.length ord=List.length ord
abbrev KW:Prop:=ptr 901 0=ptr 901 0
abbrev KX:Prop:=ptr 902 0=ptr 902 0
theorem Jf7(n:Nat)(a b c U O:Cg)(ea la:AV)(d:Nat)(Z:Int)(ord:List Int)(dy:Cg)(oa:Option Addr)(ol oc:Nat)(da:Option Addr)(dl dc:Nat)(N:Nat)(VR:sV n a b c U O)(UE:d<2^n/\d≠2^n-1)(HK:2^n-d<=N+1)(F1:0<=Z/\Z<=100)(BR:ord.length<=1000)(zD:GB VO 237 (nG n a b c U O N)):HT VO (.rangeFunc (rfF (VS (U7 Tryz.f237) 0)) (jP (VS (U7 Tryz.f237) 0)) Jx5 Jv2) (Xz6 n a b c U O ea la d Z ord dy oa ol oc da dl dc N):=by
 refine PA [(.cell 3 0,900,3,1)] (X:={R:=[(131,AI)],H:=[(237,(nG n a b c U O N))] }) (L:=[]) (Ae F0 (Ae LF Aa)) (Ai (Af NP Ab) (Ag zD Ac)) VZ U2 (V:=Nat) (Wk6 n a b c U O ea la d Z ord dy oa ol oc da dl dc N) (λk=>k<=(quN n a b c d)/\ ∀j,j<k->orQ n a b c U O (orS n a b c U O) d Z j=none) (λk=>k) (vI n a b c U O ea la d Z ord dy oa ol oc da dl dc N) (x0:=0) ⟨Ao _,λj h=>absurd h (Aq _)⟩ rfl ?_ ?_ ?_ ?_ (g:=171) (caps:=[.ro [.ro [i 4,i 10,sls n a b c U O,ea,la]],.ro [i d]]) VU VU (vD ea la n a b c U O d VR (qC VR.1 UE.1)) (λ_=>rfl) ?_;rintro k;kernel_rfl;rintro k y E h;unfold vI at h;split at h;cases h;kernel_rfl;cases h;kernel_rfl;cases h;rintro k;rfl;rintro k y E h;unfold vI at h;split at h;cases h;rfl;cases h;rfl;cases h;rintro Q hQ k hx;refine ⟨λhlt=>⟨(k+1),rfl,?_⟩,λPL=>?_⟩;(with_reducible refine D9 (t:=let z5:=(quB n a b c (d:Int));let z3:=(UP z5 n k);let z6:=(VY (AV.fn (Fn.func 171) [] [AV.ro [QQ n a b c U O ea la],AV.ro [iI (d:Int)]]));let z10:=(xE (List.length ord) λj=>[i (UA ord j)]);let z1:=(BitVec.toNat (BitVec.ofInt 64 (d:Int) ||| BitVec.ofInt 64 ((1:Int)*2^UP z5 n k)));let z8:=(IntKind.wrap IntKind.i64 (z1:Int));let z4:=(orG n a b c U O (Int.toNat z8) (max Z (U z3)));let z9:=(orG n a b c U O d Z);let z7:=orH n a b c U O;let W:=(need [UI z3 n] (need [UP z5 n k<n] (need [VY (agg [iI (d:Int),iI Z]),QO,WR,ZG,ZL,W7,KW,KX,z6,VY (AV.lit true),VY (d:Int),Z=Z,J2,List.length (z10++orL z4)+1=List.length (ord++orL z9),∀(i:Nat),i<List.length (ord++orL z9)->GI (List.length ((xE (List.length ord) λj=>[iI (UA ord j)])++orL z4)) (λj=>[iI (UA ((xE (List.length ord) λj=>[iI (UA ord j)])++orL z4) j)]) (U4 1 [iI (z3:Int)]) i=[iI (UA (ord++orL z9) i)],∀(k:Value),z7 k->z7 k/\orV k=orV k,n=n,∀(i:Nat),i<n->H6 (decide (i=UP z5 n k)) [iI (max Z (U z3))] [iI (dyU z4 dy i)]=[iI (dyU z9 dy i)],ZS n a b c U O ea la,JO,QL=QL,JF,VY (AV.x (.slice da dl dc)),QO,WR,ZG,ZL,W7] (leaf G5.ret))));let z2:=(need [VY (agg [iI (d:Int),iI Z]),QO,WR,ZG,ZL,W7,KW,KX,z6,false=false,VY (d:Int),Z=Z,J2,VY (AV.x (.slice oa ol oc)),JZ ord,∀(i:Nat),i<List.length ord->[iI (UA ord i)]=[iI (UA ord i)],∀(k:Value),z7 k->z7 k/\orV k=orV k,n=n,∀(i:Nat),i<n->[iI (dy i)]=[iI (dy i)],ZS n a b c U O ea la,JO,QL=QL,JF,VY (AV.x (.slice da dl dc)),QO,WR,ZG,ZL,W7] (leaf G5.normal));(branch (decide (max Z (U z3)>O z3)) z2 (need [(0:Int)<=(z3:Int)/\(z3:Int)<=64,VL ((1:Int)*2^UP z5 n k)] (need [VY (iI 4),VY (iI 10),W0 n a b c U O,∀(x:Value),z7 x->z7 x/\orV x=orV x,UF 1 (List.length ord) λj=>[i (UA ord j)],UF 1 n λj=>[i (dy j)],n=n,(0:Int)<=IntKind.wrap IntKind.i64 (z1:Int)/\IntKind.wrap IntKind.i64 (z1:Int)<2^n,2^n-Int.toNat z8<=N,(0:Int)<=max Z (U z3)/\max Z (U z3)<=100,List.length ord<=1000] (branch (Option.isSome (orS n a b c U O (Int.toNat z8) (max Z (U z3)))) (need [(List.length (z10++orL z4)+1)*8<=140737488355328,RP 1 (U4 1 [iI (z3:Int)])] (VM.may True W (VM.may True W W))) z2))))) VU ?_)
 simp only [Zs0,vI,VM.sat,GS] at hQ;obtain ⟨x1,x2⟩:=hx;have h8:=VR.1;have hd:=UE.1;have hd2:=qC h8 hd;have hpn:((2^n:Nat):Int)=2^n:=VT;have h256:=A6 h8;have hs:=uM hlt;have hor:=We8 h8 hd hs.1;have hol:=Qb6 hd hs.1;have hgt:=Xu8 h8 hd hlt;have hsv:=Qa5 VR hs.1;have h2s:(1:Int)<=2^UP (quB n a b c d) n k/\(2:Int)^UP (quB n a b c d) n k<=256:=uV VJ;have BW:orS n a b c U O d Z=f8 (orQ n a b c U O (orS n a b c U O) d Z) 0 (quN n a b c d):=by
  rw [oN h8 Z hd,if_neg UE.2]
 simp only [VM.sat,UB,UH,hor,F4,HA,TE]
 have Qq3:((d ||| 2^UP (quB n a b c d) n k:Nat):Int)<2^n:=by
  have h:((d ||| 2^UP (quB n a b c d) n k:Nat):Int)<((2^n:Nat):Int):=Int.ofNat_lt.2 hol
  rwa [hpn] at h
 have Xv7:orQ n a b c U O (orS n a b c U O) d Z k=none-> ∀j,j<k+1->orQ n a b c U O (orS n a b c U O) d Z j=none:=by
  intro h1 j h2;rcases (show j=k\/j<k by omega) with rfl|h3
  exact h1;exact x2 j h3
 have hQe:orQ n a b c U O (orS n a b c U O) d Z k=(if max Z (U (UP (quB n a b c d) n k))>O (UP (quB n a b c d) n k) then none else match orS n a b c U O (d ||| 2^UP (quB n a b c d) n k) (max Z (U (UP (quB n a b c d) n k))) with
   |some l=>some (l++[(UP (quB n a b c d) n k,max Z (U (UP (quB n a b c d) n k)))])
   |none=>none):=rfl
 have gP: ¬max Z (U (UP (quB n a b c d) n k))>O (UP (quB n a b c d) n k)->(orS n a b c U O (d ||| 2^UP (quB n a b c d) n k) (max Z (U (UP (quB n a b c d) n k)))).isSome=true->
   (orS n a b c U O d Z).isSome=true/\orG n a b c U O d Z=orG n a b c U O (d ||| 2^UP (quB n a b c d) n k) (max Z (U (UP (quB n a b c d) n k)))++[(UP (quB n a b c d) n k,max Z (U (UP (quB n a b c d) n k)))]:=by
  intro h1 h2;obtain ⟨l,hl⟩:=Option.isSome_iff_exists.1 h2;rw [if_neg h1,hl] at hQe;have h3:orS n a b c U O d Z=some (l++[(UP (quB n a b c d) n k,max Z (U (UP (quB n a b c d) n k)))]):=by
   rw [BW];exact ON (q:=k) hQe (Ao _) VJ (λj _ h4=>x2 j h4)
  unfold orG;rw [h3,hl];exact ⟨rfl,rfl⟩
 have hk1:k+1<=quN n a b c d:=hlt;have hc1: ∀x:Int,∀(j:Nat),j<1-> ∀y,y∈U4 1 [iI x] j->AV.one y=true:=λx j _ y hy=>FC hy (by simp [AV.one,Value.oneCell'])
 have hGl:=Qb7 n a b c U O (d ||| 2^UP (quB n a b c d) n k) (max Z (U (UP (quB n a b c d) n k)))
 have hoL: ∀l:List (Nat×Int),(orL l).length=l.length:=λl=>by simp [orL]
 refine ⟨λh=>?_,λh=>?_⟩;have hno:orQ n a b c U O (orS n a b c U O) d Z k=none:=by
  rw [hQe,if_pos h]
 exact ⟨⟨λ_ _=>trivial,λ_ h=>h,λ_ _=>trivial⟩,hk1,Xv7 hno⟩;refine ⟨⟨⟨VJ,VJ⟩,by simp only [VL,Int.one_mul];omega⟩,⟨λ_ h=>h,nZ _ _,nZ _ _,⟨VJ,Qq3⟩,VJ,⟨VJ,VJ⟩,BR⟩,λh2=>?_,λh2=>?_⟩
 ·obtain ⟨g1,g2⟩:=gP VJ h2;rw [g2];have hln:(ord++orL (orG n a b c U O (d ||| 2^UP (quB n a b c d) n k) (max Z (U (UP (quB n a b c d) n k))))).length<=2000:=by
   rw [Be,hoL];omega
  have hap:ord++orL (orG n a b c U O (d ||| 2^UP (quB n a b c d) n k) (max Z (U (UP (quB n a b c d) n k)))++[(UP (quB n a b c d) n k,max Z (U (UP (quB n a b c d) n k)))])=(ord++orL (orG n a b c U O (d ||| 2^UP (quB n a b c d) n k) (max Z (U (UP (quB n a b c d) n k)))))++[((UP (quB n a b c d) n k:Nat):Int)]:=by
   rw [Xh8,List.append_assoc]
  have hdy:dyU (orG n a b c U O (d ||| 2^UP (quB n a b c d) n k) (max Z (U (UP (quB n a b c d) n k)))++[(UP (quB n a b c d) n k,max Z (U (UP (quB n a b c d) n k)))]) dy=US (UP (quB n a b c d) n k) (max Z (U (UP (quB n a b c d) n k))) (dyU (orG n a b c U O (d ||| 2^UP (quB n a b c d) n k) (max Z (U (UP (quB n a b c d) n k)))) dy):=Qe8 _ _ _
  rw [hap,hdy];refine ⟨⟨VJ,hc1 _⟩,?_⟩;have hin:(0<=((UP (quB n a b c d) n k:Nat):Int)/\((UP (quB n a b c d) n k:Nat):Int)<n):=⟨VJ,by have:=hs.1;omega⟩
  have hrw: ∀j,j<((ord++orL (orG n a b c U O (d ||| 2^UP (quB n a b c d) n k) (max Z (U (UP (quB n a b c d) n k)))))++[((UP (quB n a b c d) n k:Nat):Int)]).length->j<(ord++orL (orG n a b c U O (d ||| 2^UP (quB n a b c d) n k) (max Z (U (UP (quB n a b c d) n k))))).length+1:=λj hj=>by
   rw [Be] at hj;simpa using hj
  (with_reducible repeat' first|apply Al|intro _)
  all_goals first|exact Ak|exact hin.1|exact hin.2|exact hs.1|(rename_i E hE;cases hE;exact hQ.1 g1)|rfl|exact Jn6 (hrw _ (by assumption))|exact uQ|(rw [Be (bs:=[_])];rfl)|assumption
 have hno:orQ n a b c U O (orS n a b c U O) d Z k=none:=by
  rw [hQe,if_neg VJ];cases ho:orS n a b c U O (d ||| 2^UP (quB n a b c d) n k) (max Z (U (UP (quB n a b c d) n k))) with
  |none=>rfl
  |some l=>rw [ho] at h2;cases h2
 exact ⟨⟨λ_ _=>trivial,λ_ h=>h,λ_ _=>trivial⟩,hk1,Xv7 hno⟩;have hk:k=quN n a b c d:=VJ;subst hk;simp only [Zs0,vI,VM.sat,GS] at hQ;refine hQ.2 ?_;rw [oN VR.1 Z UE.1,if_neg UE.2,f7.2 (λj _ hj=>hx.2 j VJ)];rfl
theorem EL{x y:Nat}{t:List (Nat×Nat)}:NX ((x,y)::t)=true↔x=y/\NX t=true:=by
 show (match Nat.beq x y with|true=>NX t|false=>false)=true↔_
 cases h:Nat.beq x y with
 |true=>simp [GZ h]
 |false=>
  simp only [Bw,false_iff,not_and];intro he;rw [he,Nat.beq_refl] at h;cases h
theorem EO{m:H2}{p:Nat×GO}(h:p∈oS m):p∈m/\Xj4 p.2=false:=by
 induction m with
 |nil=>cases h
 |cons q t ih=>
  obtain ⟨k,r⟩:=q;unfold oS at h;split at h;exact ⟨HL _ (ih h).1,(ih h).2⟩;rename_i hb;rcases GM.1 h with rfl|h;exact ⟨GD,hb⟩;exact ⟨HL _ (ih h).1,(ih h).2⟩
theorem L6{m:H2}{id:Nat}{p:Nat×GO}(h:p∈jF m id):p∈m/\p.1≠id:=by
 induction m with
 |nil=>cases h
 |cons q t ih=>
  obtain ⟨k,r⟩:=q;unfold jF at h;split at h;exact ⟨HL _ (ih h).1,(ih h).2⟩;rename_i hb;rcases GM.1 h with rfl|h;refine ⟨GD,?_⟩;rintro rfl;simp at hb;exact ⟨HL _ (ih h).1,(ih h).2⟩
theorem Qm4{e:UL}{w:World}{id o n:Nat}{f:Ci}(h:Jt0 e w id o 3 1 n f)(hr:UF 1 n f):w.ownsRow 0 3 1 (e.val id) n ((xE n f).map (Value.int .i64)):=by
 obtain ⟨h2,hf,xs,h3,h4⟩:=h;have hx:xs=(xE n f).map (Value.int .i64):=by
  apply List.ext_getElem?;intro j;unfold xE;have hl:xs.length=n*1:=h3.1;rcases An j n with hj|hj;have hx:xs[j]? =some xs[j]:=D0 VJ;have e1:(f j)[0]? =some (iI (col 0 f j)):=by
   rw [hr j hj];rfl
  have:=h4 j 0 _ xs[j] hj e1 (by rw [show j*1+0=j by omega];exact hx)
  rw [hx,this.x_inv];simp [hj];rw [Br VJ,Br (by simp;omega)]
 subst hx;exact h3
theorem qH{e:UL}{w:World}{id n:Nat}{f:Ci}(h:GH e w id (.row 3 1 n f))(hr:UF 1 n f):w.ownsRow 0 3 1 (e.val id) n ((xE n f).map (Value.int .i64)):=Qm4 (o:=id) h.2 hr
theorem Qb5(n:Nat)(f:Cg):xE n (λj=>[i (f j)])=(List.range n).map f:=rfl
theorem xJ{e:UL}{w:World}{id n:Nat}{f:Cg}{ov:Value}{l:List Int}(hl:e.live id)(hv:e.val id=ov)(hob: ∀x,ov.ownBlock=some x->e.own x=some id)(HX:l.length=n)(hf: ∀j,j<n->l[j]? =some (f j))(ho:w.ownsRow 0 3 1 ov n (l.map (Value.int .i64))):GH e w id (.row 3 1 n (λj=>[i (f j)])):=by
 subst hv;refine ⟨hl,hob,λi O=>⟨rfl,λa ha=>by rw [PM.1 ha];exact .x _⟩,_,ho,λi j a v O ha hv=>?_⟩
 cases j with
 |zero=>
  simp only [List.getElem?_cons_zero,HE] at ha;subst ha;rw [show i*1+0=i by omega,Bn,hf i O] at hv
  simp only [Bt,HE] at hv;rw [←hv];exact .x _
 |succ j=>simp at ha
theorem Qb9{l:List Int}{j:Nat}(h:j<l.length):l[j]? =some (UA l j):=by
 rw [EM h,D0 h]
theorem CF{n:Nat}{f:Cg}{j:Nat}(h:j<n):((List.range n).map f)[j]? =some (f j):=by
 rw [Bn,List.getElem?_range h];rfl
abbrev LS(b:Nat):Value:= .pointer (some ⟨b,0,none⟩)
abbrev Zl5(bk bg bf bo bd:Nat):Value:= .func (.func 237) #[] #[LS bk,LS bg,LS bf,LS bo,LS bd]
def Qk3(n:Nat)(a b c U O:Cg)(N:Nat):Prop:= ∀(ea la:AV) (d:Nat) (Z:Int) (ord:List Int) (dy:Cg) (oa:Option Addr) (ol oc:Nat) (da:Option Addr) (dl dc:Nat),d<2^n->2^n-d<=N->(0<=Z/\Z<=100)->ord.length<=1000->
 Xc6 VO 237 [.agg [i d,i Z],.ptr 0 0,.ptr 1 0,.ptr 2 0,.ptr 3 0,.ptr 4 0] (OM n a b c U O ea la d Z ord dy oa ol oc da dl dc) 901 [[.ptr 0 0,.ptr 1 0,.ptr 2 0,.ptr 3 0,.ptr 4 0]] (OT_ n a b c U O ea la d Z ord dy oa ol oc da dl dc (orG n a b c U O d Z)) (OF_ n a b c U O ea la d Z ord dy oa ol oc da dl dc) (orS n a b c U O d Z).isSome
theorem Qa7{w:World}{ov:Value}{n:Nat}{xs:List Value}(h:w.ownsRow 0 3 1 ov n xs){b:Nat}(hb:ov.ownBlock=some b):b<w.heap.size:=(h.lt b hb).2
theorem We7{n:Nat}{a b c U O:Cg}{N:Nat}(hs:Qk3 n a b c U O N){d:Nat}{Z:Int}{ord:List Int}{dy:Cg}(h1:d<2^n)(h2:2^n-d<=N)(h3:0<=Z/\Z<=100)(h4:ord.length<=1000)
  {w:World}{bk bg bf bo bd bm:Nat}{rb dv ov:Value}{ea la:AV}{R:UL}{es:Array MapEntry}{cn:Nat}(hgl:DH R w)
  (hk:w.heap[bk]? =some (.cells #[rb] 134 (0,0)))(hg:w.heap[bg]? =some (.cells #[.map (some bm)] 340 (0,0)))(hf:w.heap[bf]? =some (.cells #[Zl5 bk bg bf bo bd] 341 (0,0)))(hdb:w.heap[bd]? =some (.cells #[dv] 22 (0,0)))
  (ho:w.heap[bo]? =some (.cells #[ov] 22 (0,0)))(hm:w.heap[bm]? =some (.map es cn))(hes: ∀x∈es.toList,orH n a b c U O x.key/\x.val=orV x.key)
  (I5:w.ownsRow 0 3 1 ov ord.length (ord.map (Value.int .i64)))(Xv8:w.ownsRow 0 3 1 dv n (((List.range n).map dy).map (Value.int .i64)))(hov: ∃p q r,ov= .slice p q r)(hdv: ∃p q r,dv= .slice p q r)
  (hobm:bo≠bm)(hobd:bo≠bd)(hmbd:bm≠bd)(hoo: ∀x,ov.ownBlock=some x->x≠bo/\x≠bm/\x≠bd/\dv.ownBlock≠some x)(hdo: ∀x,dv.ownBlock=some x->x≠bo/\x≠bm/\x≠bd)
  (hR:Rep R w (.ro [i 4,i 10,sls n a b c U O,ea,la]) rb)(hro: ∀x,R.ro x->x<w.heap.size/\x≠bo/\x≠bm/\x≠bd/\ov.ownBlock≠some x/\dv.ownBlock≠some x)(rk:R.ro bk)(rg:R.ro bg)(rf:R.ro bf):
  Calls Tryz.prog 237 #[.agg #[.int .i64 d,.int .i64 Z],LS bk,LS bg,LS bf,LS bo,LS bd] w λen w1=>en= .returned (.bool (orS n a b c U O d Z).isSome)/\w.heap.size<=w1.heap.size/\w1.os=w.os/\w1.tape=w.tape/\w1.output=w.output/\
   (∀x,x<w.heap.size->x≠bo->x≠bm->ov.ownBlock≠some x->dv.ownBlock≠some x->w1.heap[x]? =w.heap[x]?)/\(∃(es':Array MapEntry) (c':Nat),w1.heap[bm]? =some (.map es' c')/\ ∀x∈es'.toList,orH n a b c U O x.key/\x.val=orV x.key)/\
   ((orS n a b c U O d Z).isSome=false->w1.heap[bo]? =some (.cells #[ov] 22 (0,0))/\w1.ownsRow 0 3 1 ov ord.length (ord.map (Value.int .i64))/\w1.ownsRow 0 3 1 dv n (((List.range n).map dy).map (Value.int .i64)))/\
   ((orS n a b c U O d Z).isSome=true-> ∃y',w1.heap[bo]? =some (.cells #[y'] 22 (0,0))/\(∃p q r,y'= .slice p q r)/\w1.ownsRow 0 3 1 y' (ord++orL (orG n a b c U O d Z)).length ((ord++orL (orG n a b c U O d Z)).map (Value.int .i64))/\
    (∀x,y'.ownBlock=some x->w.heap.size<=x\/ov.ownBlock=some x)/\w1.ownsRow 0 3 1 dv n (((List.range n).map (dyU (orG n a b c U O d Z) dy)).map (Value.int .i64))):=by
 have hob:=(P7.1 ho).1;have hmb:=(P7.1 hm).1;have hbb:=(P7.1 hdb).1;obtain ⟨oa,ol,oc,hov⟩:=hov;obtain ⟨da,dl,dc,hdv⟩:=hdv
 let e0:UL:={ro:=λx=>x<w.heap.size/\x≠bo/\x≠bm/\x≠bd/\ov.ownBlock≠some x/\dv.ownBlock≠some x,own:=λx=>if x=bo then some 3 else if x=bm then some 5 else if x=bd then some 4 else if ov.ownBlock=some x then some 900 else if dv.ownBlock=some x then some 7 else none,live:=λk=>k<901,blk:=λk=>if k=0 then bk else if k=1 then bg else if k=2 then bf else if k=3 then bo else if k=4 then bd else bm,val:=λk=>if k=7 then dv else ov}
 let c0:Cx:={M:=λ_=>False,Φ:=λ_ _ _=>True,K:=λx o=>e0.ro x/\w.heap[x]? =some o,saved:=[[LS bk,LS bg,LS bf,LS bo,LS bd]],sz:=w.heap.size}
 let w00:World:={w with heap:=#[] }
 have Wo7: ∀x,R.ro x->e0.ro x:=λx hx=>hro x hx;have o3:e0.own bo=some 3:=if_pos rfl;have o5:e0.own bm=some 5:=by simp [e0,Ne.symm hobm]
 have o4:e0.own bd=some 4:=by simp [e0,Ne.symm hobd,Ne.symm hmbd]
 have o9: ∀x,ov.ownBlock=some x->e0.own x=some 900:=by
  intro x hx;obtain ⟨q1,q2,q2',q3⟩:=hoo x hx;simp [e0,q1,q2,q2',hx]
 have o7: ∀x,dv.ownBlock=some x->e0.own x=some 7:=by
  intro x hx;obtain ⟨q1,q2,q2'⟩:=hdo x hx;have q3:ov.ownBlock≠some x:=λh=>(hoo x h).2.2.2 hx;simp [e0,q1,q2,q2',q3,hx]
 have hE:UY e0 w00.heap.size w:=by
  refine ⟨λx hx=>?_,λx k hk=>⟨Ao _,?_⟩,λq p hp=>?_⟩;obtain ⟨q0,q1,q2,q2',q3,q4⟩:=hx;exact ⟨by simp [e0,q1,q2,q2',q3,q4],q0⟩
  have hk:(if x=bo then some 3 else if x=bm then some 5 else if x=bd then some 4 else if ov.ownBlock=some x then some 900 else if dv.ownBlock=some x then some 7 else none)=some k:=hk
  split at hk;rename_i h;rw [h];exact hob;split at hk;rename_i h;rw [h];exact hmb;split at hk;rename_i h;rw [h];exact hbb;split at hk;rename_i h;exact Qa7 I5 h;split at hk;rename_i h;exact Qa7 Xv8 h;cases hk;obtain ⟨q1,q2⟩:=hgl q p hp;exact ⟨Wo7 _ q1,q2⟩
 have p0:Rep e0 w (.ptr 0 0) (LS bk):= .ptr 0 0 (show 0<901 by omega)
 have p1:Rep e0 w (.ptr 1 0) (LS bg):= .ptr 1 0 (show 1<901 by omega)
 have p2:Rep e0 w (.ptr 2 0) (LS bf):= .ptr 2 0 (show 2<901 by omega)
 have p3:Rep e0 w (.ptr 3 0) (LS bo):= .ptr 3 0 (show 3<901 by omega)
 have p4:Rep e0 w (.ptr 4 0) (LS bd):= .ptr 4 0 (show 4<901 by omega)
 have p9:Rep e0 w (.row 900) ov:=by
  rw [hov];exact .row 900 _ _ _ (show 900<901 by omega) hov
 have p7:Rep e0 w (.row 7) dv:=by
  rw [hdv];exact .row 7 _ _ _ (show 7<901 by omega) hdv
 have p5:Rep e0 w (.mp 5) (.map (some bm)):= .mp 5 (show 5<901 by omega)
 have yW:U3 e0 w [.ptr 0 0,.ptr 1 0,.ptr 2 0,.ptr 3 0,.ptr 4 0] [LS bk,LS bg,LS bf,LS bo,LS bd]:= .cons p0 (.cons p1 (.cons p2 (.cons p3 (.cons p4 (.nil _ _)))));have hfn:Rep e0 w (.fn (.func 237) [] [.ptr 0 0,.ptr 1 0,.ptr 2 0,.ptr 3 0,.ptr 4 0]) (Zl5 bk bg bf bo bd):= .fn _ [] _ [] _ rfl (λi a v h=>by simp at h) yW.1 yW.2
 have hrb:Rep e0 w (.ro [i 4,i 10,sls n a b c U O,ea,la]) rb:=by
  refine Rep.idf (e:=R) (e':=e0) Wo7 hR ?_;cases hR with
  |ro l vs b' o' g1 g2 g3 g4 g5 g6=>exact .ro _ g3
 have hM:UV e0 (OM n a b c U O ea la d Z ord dy oa ol oc da dl dc) w:=by
  intro p hp;unfold OM at hp;simp only [GM,DL,or_false] at hp;rcases hp with rfl|rfl|rfl|rfl|rfl|rfl|rfl|rfl|rfl|rfl;exact ⟨show 3<901 by omega,o3,[ov],ho,.cons p9 (.nil _ _)⟩
  exact ⟨show 3<901 by omega,o3,[ov],ho,.cons (by rw [hov];exact .x _) (.nil _ _)⟩
  exact xJ (show 900<901 by omega) rfl o9 rfl (λj hj=>Qb9 hj) I5
  exact ⟨show 5<901 by omega,o5,es,cn,hm,hes⟩
  exact xJ (show 7<901 by omega) rfl o7 VT (λj hj=>CF hj) Xv8
  exact ⟨show 0<901 by omega,Wo7 _ rk,(hro _ rk).1,[rb],hk,.cons hrb (.nil _ _)⟩
  exact ⟨show 1<901 by omega,Wo7 _ rg,(hro _ rg).1,[.map (some bm)],hg,.cons p5 (.nil _ _)⟩
  exact ⟨show 2<901 by omega,Wo7 _ rf,(hro _ rf).1,[Zl5 bk bg bf bo bd],hf,.cons hfn (.nil _ _)⟩
  exact ⟨show 4<901 by omega,o4,[dv],hdb,.cons p7 (.nil _ _)⟩
  exact ⟨show 4<901 by omega,o4,[dv],hdb,.cons (by rw [hdv];exact .x _) (.nil _ _)⟩
 have hX:Xt c0 e0 [[.ptr 0 0,.ptr 1 0,.ptr 2 0,.ptr 3 0,.ptr 4 0]] [] w:=
  ⟨⟨λd hd=>(by cases hd),By⟩,λx o hk=>⟨hk.1,hk.1.1,hk.2⟩,L9.cons yW ⟨rfl,λi a v h=>by simp at h⟩,Am _⟩
 have hA:U3 e0 w [.agg [i d,i Z],.ptr 0 0,.ptr 1 0,.ptr 2 0,.ptr 3 0,.ptr 4 0] [.agg #[.int .i64 d,.int .i64 Z],LS bk,LS bg,LS bf,LS bo,LS bd]:= .cons (Rep.aggL (.cons (.x _) (.cons (.x _) (.nil _ _)))) yW;have FJ:=hs ea la d Z ord dy oa ol oc da dl dc h1 h2 h3 h4 c0 w00 (λ_=>False) e0 _ w hE ⟨rfl,rfl,rfl,Ao _,λk hk=>absurd hk (Aq _)⟩ hM (λk hk=>hk) (λ_ h=>h.elim) hX rfl hA;refine FJ.mono ?_;rintro en w1 ⟨hen,e1,g1,g2,g3,g4,_,g6⟩;have hsz:w.heap.size<=w1.heap.size:=g6.size;have OG: ∀x,x<w.heap.size->x≠bo->x≠bm->x≠bd->ov.ownBlock≠some x->dv.ownBlock≠some x->e1.ro x/\w1.heap[x]? =w.heap[x]? :=by
  intro x hx n1 n2 n2' n3 n4;have hk:=g6.kept x w.heap[x] ⟨⟨hx,n1,n2,n2',n3,n4⟩,by simp [hx]⟩
  exact ⟨hk.1,by rw [hk.2.2];simp [hx]⟩
 have keptR: ∀x,R.ro x->w1.heap[x]? =w.heap[x]? :=λx hx=>(OG x (hro x hx).1 (hro x hx).2.1 (hro x hx).2.2.1 (hro x hx).2.2.2.1 (hro x hx).2.2.2.2.1 (hro x hx).2.2.2.2.2).2;have hsv:(cond (orS n a b c U O d Z).isSome (OT_ n a b c U O ea la d Z ord dy oa ol oc da dl dc (orG n a b c U O d Z)) (OF_ n a b c U O ea la d Z ord dy oa ol oc da dl dc)).sv=[[.ptr 0 0,.ptr 1 0,.ptr 2 0,.ptr 3 0,.ptr 4 0]]:=by
  cases (orS n a b c U O d Z).isSome<;>rfl
 have hsd:=g6.saved;rw [hsv] at hsd;have hs1:=hsd.2 0 _ _ rfl rfl;obtain ⟨v0,l0,q,r0,hs1⟩:=hs1.cons_inv;obtain ⟨rfl,rfl⟩:=List.cons.inj q;obtain ⟨v1,l1,q,r1,hs1⟩:=hs1.cons_inv;obtain ⟨rfl,rfl⟩:=List.cons.inj q;obtain ⟨v2,l2,q,r2,hs1⟩:=hs1.cons_inv;obtain ⟨rfl,rfl⟩:=List.cons.inj q;obtain ⟨v3,l3,q,r3,hs1⟩:=hs1.cons_inv;obtain ⟨rfl,rfl⟩:=List.cons.inj q;obtain ⟨v4,l4,q,r4,_⟩:=hs1.cons_inv;obtain ⟨rfl,rfl⟩:=List.cons.inj q;have ptr_inv: ∀{k x:Nat},Rep e1 w1 (.ptr k 0) (LS x)->e1.blk k=x:=by
  intro k x h;cases h;rfl
 have b1:=ptr_inv r1;have b3:=ptr_inv r3;have b4:=ptr_inv r4;have gO: ∀p,(p∈(OT_ n a b c U O ea la d Z ord dy oa ol oc da dl dc (orG n a b c U O d Z)).m/\p∈(OF_ n a b c U O ea la d Z ord dy oa ol oc da dl dc).m)->GH e1 w1 p.1 p.2:=by
  intro p hp;refine g3 p ?_;cases (orS n a b c U O d Z).isSome;exact hp.2;exact hp.1
 have hbd:w1.heap[bd]? =some (.cells #[dv] 22 (0,0)):=by
  obtain ⟨_,_,vs,q1,q2⟩:=gO (4,.cells 22 [.x (.slice da dl dc)]) ⟨by simp [OT_],by simp [OF_]⟩
  obtain ⟨x,xs,rfl,t1,q2⟩:=q2.cons_inv;obtain rfl:=q2.nil_inv;rw [b4,t1.x_inv,←hdv] at q1;exact q1
 have b7:e1.val 7=dv:=by
  obtain ⟨_,_,vs,q1,q2⟩:=gO (4,.cells 22 [.row 7]) ⟨by simp [OT_],by simp [OF_]⟩
  obtain ⟨x,xs,rfl,t1,q2⟩:=q2.cons_inv;obtain rfl:=q2.nil_inv;rw [b4,hbd] at q1;simp only [HE,Obj.cells.injEq] at q1;have:dv=x:=by simpa using q1.1
  subst this;clear q1 hbd;generalize dv=z at t1;cases t1 with
  |row _ a n c _ hv=>exact hv
 have hsm: ∀x,x<w.heap.size->x≠bo->x≠bm->ov.ownBlock≠some x->dv.ownBlock≠some x->w1.heap[x]? =w.heap[x]? :=by
  intro x hx n1 n2 n3 n4;rcases Classical.em (x=bd) with rfl|n5;rw [hbd,hdb];exact (OG x hx n1 n2 n5 n3 n4).2
 have b5:e1.blk 5=bm:=by
  obtain ⟨_,_,_,vs,q1,q2⟩:=gO (1,.keep 340 [.mp 5]) ⟨by simp [OT_],by simp [OF_]⟩
  obtain ⟨x,xs,rfl,t1,q2⟩:=q2.cons_inv;obtain rfl:=q2.nil_inv;rw [b1,keptR _ rg,hg] at q1;simp only [HE,Obj.cells.injEq] at q1;have:Value.map (some bm)=x:=by simpa using q1.1
  subst this;cases t1;rfl
 have Jk0: ∃(es':Array MapEntry) (c':Nat),w1.heap[bm]? =some (.map es' c')/\ ∀x∈es'.toList,orH n a b c U O x.key/\x.val=orV x.key:=by
  obtain ⟨_,_,es',c',q1,q2⟩:=gO (5,.memo (orH n a b c U O) orV) ⟨by simp [OT_],by simp [OF_]⟩
  rw [b5] at q1;exact ⟨es',c',q1,q2⟩
 refine ⟨hen,hsz,g2.os,g2.tape,g2.output,hsm,Jk0,λhb=>?_,λhb=>?_⟩;rw [hb] at g3;have k3:=g3 (3,.cells 22 [.row 900]) (by simp [OF_])
 have k3':=g3 (3,.cells 22 [.x (.slice oa ol oc)]) (by simp [OF_])
 have k9:=g3 (900,.row 3 1 ord.length (λj=>[i (UA ord j)])) (by simp [OF_])
 have k7:=g3 (7,.row 3 1 n (λj=>[i (dy j)])) (by simp [OF_])
 obtain ⟨_,_,vs,q1,q2⟩:=k3';obtain ⟨x,xs,rfl,t1,q2⟩:=q2.cons_inv;obtain rfl:=q2.nil_inv;have hx:x=ov:=by rw [hov];exact t1.x_inv
 subst hx;have q1':w1.heap[e1.blk 3]? =some (.cells #[x] 22 (0,0)):=q1;rw [b3] at q1';have h9:e1.val 900=x:=by
  obtain ⟨_,_,vs,u1,u2⟩:=k3;obtain ⟨y,ys,rfl,t2,u2⟩:=u2.cons_inv;obtain rfl:=u2.nil_inv;have u1':w1.heap[e1.blk 3]? =some (.cells #[y] 22 (0,0)):=u1;rw [b3,q1'] at u1';simp only [HE,Obj.cells.injEq] at u1';have:x=y:=by simpa using u1'.1
  subst this;clear q1' u1' q1 u1 t1;generalize x=z at t2;cases t2 with
  |row _ a n c _ hv=>exact hv
 have r9:=qH k9 (nZ _ _);have r7:=qH k7 (nZ _ _);rw [h9,TE] at r9;rw [b7,Qb5] at r7;exact ⟨q1',r9,r7⟩;rw [hb] at g3;have k3:=g3 (3,.cells 22 [.row 900]) (by simp [OT_])
 have k9:=g3 (900,.row 3 1 (ord++orL (orG n a b c U O d Z)).length (λj=>[i (UA (ord++orL (orG n a b c U O d Z)) j)])) (by simp [OT_])
 have k7:=g3 (7,.row 3 1 n (λj=>[i (dyU (orG n a b c U O d Z) dy j)])) (by simp [OT_])
 have k5:=g3 (5,.memo (orH n a b c U O) orV) (by simp [OT_])
 have o3':=k3.2.1;rw [b3] at o3';have o5':=k5.2.1;rw [b5] at o5';obtain ⟨_,_,vs,q1,q2⟩:=k3;obtain ⟨y,ys,rfl,t1,q2⟩:=q2.cons_inv;obtain rfl:=q2.nil_inv;have q1':w1.heap[e1.blk 3]? =some (.cells #[y] 22 (0,0)):=q1;rw [b3] at q1';have hy:(∃p q r,y= .slice p q r)/\e1.val 900=y:=by
  cases t1 with
  |row _ a n c _ hv=>exact ⟨⟨a,n,c,rfl⟩,hv⟩
 have r9:=qH k9 (nZ _ _);have r7:=qH k7 (nZ _ _);rw [hy.2,TE] at r9;rw [b7,Qb5] at r7;refine ⟨y,q1',hy.1,r9,λz hz=>?_,r7⟩;rcases An z w.heap.size with hlt|hge;refine .inr ?_;have hoz:e1.own z=some 900:=k9.2.1 z (by show (e1.val 900).ownBlock=some z;rw [hy.2];exact hz)
 refine Classical.byContradiction λn3=>?_;have n1:z≠bo:=by
  rintro rfl;rw [o3'] at hoz;cases hoz
 have n2:z≠bm:=by
  rintro rfl;rw [o5'] at hoz;cases hoz
 have n4:dv.ownBlock≠some z:=by
  intro h;have:=k7.2.1 z (by show (e1.val 7).ownBlock=some z;rw [b7];exact h)
  rw [this] at hoz;cases hoz
 have n5:z≠bd:=by
  rintro rfl;have:=(g3 (4,.cells 22 [.row 7]) (by simp [OT_])).2.1
  rw [b4] at this;rw [this] at hoz;cases hoz
 have hk:=OG z hlt n1 n2 n5 n3 n4;rw [(g1.apart z hk.1).1] at hoz;cases hoz;exact .inl hge
theorem LK{e e':UL}{w w1:World}{id:Nat}{r:GO}(st:Step e e' w w1)(H9: ∀x,e.own x=some id->e'.own x=some id/\w1.heap[x]? =w.heap[x]?)(hna:Xj4 r=false)(h:GH e w id r):GH e' w1 id r:=by
 cases r with
 |cells T l=>
  obtain ⟨h1,h2,vs,h3,h4⟩:=h;obtain ⟨l1,l2,l3⟩:=st.live id h1;obtain ⟨k1,k2⟩:=H9 _ h2;exact ⟨l1,by rw [l2];exact k1,vs,by rw [l2,k2];exact h3,h4.step st⟩
 |ints T pre n f=>
  obtain ⟨h1,h2,vs,h3,h4⟩:=h;obtain ⟨l1,l2,l3⟩:=st.live id h1;obtain ⟨k1,k2⟩:=H9 _ h2;exact ⟨l1,by rw [l2];exact k1,vs,by rw [l2,k2];exact h3,h4.step st⟩
 |memo g f=>
  obtain ⟨h1,h2,es,c,h3,h4⟩:=h;obtain ⟨l1,l2,l3⟩:=st.live id h1;obtain ⟨k1,k2⟩:=H9 _ h2;exact ⟨l1,by rw [l2];exact k1,es,c,by rw [l2,k2];exact h3,h4⟩
 |keep T l=>exact LH st h
 |aka _ _ _ _ _=>cases hna
 |row T sz n f=>
  obtain ⟨h1,h2,hf,ys,h3,h4⟩:=h;obtain ⟨l1,l2,l3⟩:=st.live id h1;refine ⟨l1,λx hx=>(H9 _ (h2 x (by rw [←l3];exact hx))).1,hf,ys,?_,λi j a v O ha hv=>(h4 i j a v O ha hv).step st⟩
  rw [l3];refine ⟨h3.1,h3.2.imp (λh=>h) ?_⟩;rintro ⟨g',cap',cur',hv,hg,hh,rest⟩;exact ⟨g',cap',cur',hv,hg,(H9 g' (h2 g' (by rw [hv];rfl))).2.trans hh,rest⟩
theorem IA{e:UL}{w:World}{id n:Nat}{g:Ci}{ov:Value}(hr:UF 1 n g)(hl:e.live id)(hv:e.val id=ov)(hob: ∀x,ov.ownBlock=some x->e.own x=some id)(ho:w.ownsRow 0 3 1 ov n (((List.range n).map (col 0 g)).map (Value.int .i64))):GH e w id (.row 3 1 n g):=by
 have h:=xJ (f:=col 0 g) hl hv hob VT (λj hj=>CF hj) ho;obtain ⟨h1,h2,h3,xs,h4,h5⟩:=h;refine ⟨h1,h2,λj hj=>?_,xs,h4,λi j a v O ha hv=>?_⟩;rw [hr j hj];exact h3 j hj;rw [hr i O] at ha;exact h5 i j a v O ha hv
theorem eJ{n:Nat}{a b c U O:Cg}{N:Nat}(hs:Qk3 n a b c U O N):GB VO 237 (nG n a b c U O N):=by
 refine ⟨(UJ Tryz.func237),?_⟩;intro avs m nx sv tr ht Q hQ cx w0 TT e ds args w hE hB hm hlv LQ hxt hr;unfold nG at ht;split at ht;rename_i d Z k W g z1 f z2 o z3 dd z4;split at ht;rename_i Tk c1 c2 sl ea la Tg mg Tf fg k' y0 g' y1 f' y2 o' y3 d' y4 To q Td r h1 h2 h3 h4 h5;split at ht;rename_i hh ff T1 s1 k1 g1 T2 s2 k2 g2 h6 h7 h8;split at ht;rename_i hb;rw [GU] at hb;obtain ⟨hb1,hb2⟩:=hb;simp only [EL] at hb1;obtain ⟨rfl,rfl,rfl,rfl,rfl,rfl,rfl,rfl,rfl,rfl,rfl,rfl,rfl,rfl,rfl,rfl,rfl,rfl,rfl,rfl,rfl,rfl,rfl,rfl,rfl,_⟩:=hb1;rw [GU] at hb2;have hqr:q≠r:=by
  rintro rfl;simp at hb2
 have hod:o≠dd:=by
  rintro rfl;simp at hb2
 cases ht;obtain ⟨hn,hq⟩:=VM.sat_needT hQ;have hn:=GE hn;have n1:c1=i 4:=hn _ VT;have n2:c2=i 10:=hn _ VT;have n3:sl=sls n a b c U O:=hn _ VT;have n4: ∀x,hh x->orH n a b c U O x/\ff x=orV x:=hn _ VT;have n6:UF 1 k1 g1:=hn _ VT;have n7:UF 1 k2 g2:=hn _ VT;have n8:k2=n:=hn _ VT;have n9:0<=d/\d<2^n:=hn _ VT;have n10:2^n-d.toNat<=N:=hn _ VT;have n11:0<=Z/\Z<=100:=hn _ VT;have n12:k1<=1000:=hn _ VT;clear hn hQ;subst n1 n2 n3 n8;obtain ⟨d,rfl⟩: ∃d':Nat,d=d':=⟨d.toNat,VJ⟩;simp only [F4] at hq n10;have hpn:((2^k2:Nat):Int)=2^k2:=VT;have hdn:d<2^k2:=by
  have h:=n9.2;rw [←hpn] at h;exact Int.ofNat_lt.1 h
 obtain ⟨v0,l1,rfl,r1,hr⟩:=hr.cons_inv;obtain ⟨v1,l1,rfl,r2,hr⟩:=hr.cons_inv;obtain ⟨v2,l2,rfl,r3,hr⟩:=hr.cons_inv;obtain ⟨v3,l3,rfl,r4,hr⟩:=hr.cons_inv;obtain ⟨v4,l4,rfl,r5,hr⟩:=hr.cons_inv;obtain ⟨v5,l5,rfl,r6,hr⟩:=hr.cons_inv;obtain rfl:=hr.nil_inv;obtain ⟨us,rfl,ru⟩:=r1.agg_inv;obtain ⟨u1,us1,rfl,q1,ru⟩:=ru.cons_inv;obtain ⟨u2,us2,rfl,q2,ru⟩:=ru.cons_inv;obtain rfl:=ru.nil_inv;obtain rfl:=q1.x_inv;obtain rfl:=q2.x_inv;have z: ∀{k:Nat} {x:Value},Rep e w (.ptr k 0) x->x=LS (e.blk k):=by
  intro k x h;cases h;rfl
 obtain rfl:=z r2;obtain rfl:=z r3;obtain rfl:=z r4;obtain rfl:=z r5;obtain rfl:=z r6;have m4:=UW h4;obtain ⟨_,ro1,_,vs1,hp1,e1⟩:=hm _ (UW h1);obtain ⟨rb,xs,rfl,t1,e1⟩:=e1.cons_inv;obtain rfl:=e1.nil_inv;obtain ⟨_,ro2,_,vs2,hp2,e2⟩:=hm _ (UW h2);obtain ⟨mv,xs,rfl,t2,e2⟩:=e2.cons_inv;obtain rfl:=e2.nil_inv;have hmv:mv= .map (some (e.blk mg)):=by
  cases t2;rfl
 subst hmv;obtain ⟨_,ro3,_,vs3,hp3,e3⟩:=hm _ (UW h3);obtain ⟨fv,xs,rfl,t3,e3⟩:=e3.cons_inv;obtain rfl:=e3.nil_inv;obtain ⟨us,us',rfl,t6,t7⟩:=t3.fn_inv;obtain rfl:=t6.nil_inv;obtain ⟨x1,xs,rfl,s1,t7⟩:=t7.cons_inv;obtain ⟨x2,xs,rfl,s2,t7⟩:=t7.cons_inv;obtain ⟨x3,xs,rfl,s3,t7⟩:=t7.cons_inv;obtain ⟨x4,xs,rfl,s4,t7⟩:=t7.cons_inv;obtain ⟨x5,xs,rfl,s5,t7⟩:=t7.cons_inv;obtain rfl:=t7.nil_inv;obtain rfl:=z s1;obtain rfl:=z s2;obtain rfl:=z s3;obtain rfl:=z s4;obtain rfl:=z s5;obtain ⟨live4,own4,vs4,hp4,e4⟩:=hm _ m4;obtain ⟨ov,xs,rfl,t4,e4⟩:=e4.cons_inv;obtain rfl:=e4.nil_inv;obtain ⟨_,own5,vs5,hp5,e5⟩:=hm _ (UW h5);obtain ⟨dv,xs,rfl,t5,e5⟩:=e5.cons_inv;obtain rfl:=e5.nil_inv;have hov:(∃p q r,ov= .slice p q r)/\e.val q=ov:=by
  cases t4 with
  |row _ a n c _ hv=>exact ⟨⟨a,n,c,rfl⟩,hv⟩
 have hdv:(∃p q r,dv= .slice p q r)/\e.val r=dv:=by
  cases t5 with
  |row _ a n c _ hv=>exact ⟨⟨a,n,c,rfl⟩,hv⟩
 obtain ⟨live6,own6,es,cn,hp6,hes0⟩:=hm _ (UW h6);have hes: ∀x∈es.toList,orH k2 a b c U O x.key/\x.val=orV x.key:=λx hx=>by
  obtain ⟨g1,g2⟩:=hes0 x hx;exact ⟨(n4 _ g1).1,by rw [g2,(n4 _ g1).2]⟩
 have H7:=hm _ (UW h7);have H8:=hm _ (UW h8);have R7:=qH H7 n6;have R8:=qH H8 n7;simp only at hp1 hp2 hp3 hp4 hp5 hp6 own4 own6 live4 live6 R7 R8 ro1 ro2 ro3 own5;rw [hov.2] at R7;rw [hdv.2] at R8;have own7: ∀x,ov.ownBlock=some x->e.own x=some q:=λx hx=>H7.2.1 x (by show (e.val q).ownBlock=some x;rw [hov.2];exact hx)
 have own8: ∀x,dv.ownBlock=some x->e.own x=some r:=λx hx=>H8.2.1 x (by show (e.val r).ownBlock=some x;rw [hdv.2];exact hx)
 have live7:e.live q:=H7.1;have live8:e.live r:=H8.1;have ho_q:o≠q:=by
  rintro rfl;rw [h7] at h4;cases h4
 have ho_r:o≠r:=by
  rintro rfl;rw [h8] at h4;cases h4
 have ho_m:o≠mg:=by
  rintro rfl;rw [h6] at h4;cases h4
 have hm_q:mg≠q:=by
  rintro rfl;rw [h7] at h6;cases h6
 have hm_r:mg≠r:=by
  rintro rfl;rw [h8] at h6;cases h6
 have hd_q:dd≠q:=by
  rintro rfl;rw [h7] at h5;cases h5
 have hd_r:dd≠r:=by
  rintro rfl;rw [h8] at h5;cases h5
 have hd_m:dd≠mg:=by
  rintro rfl;rw [h6] at h5;cases h5
 have dne: ∀{x y j j':Nat},e.own x=some j->e.own y=some j'->j≠j'->x≠y:=by
  rintro x y j j' hx hy hj rfl;rw [hx] at hy;exact hj (Bb hy)
 have HX:(xE k1 g1).length=k1:=by simp [xE]
 have hro: ∀x,e.ro x->x<w.heap.size/\x≠e.blk o/\x≠e.blk mg/\x≠e.blk dd/\ov.ownBlock≠some x/\dv.ownBlock≠some x:=by
  intro x hx;obtain ⟨hx1,hx2⟩:=hE.apart x hx;have nx_: ∀{y j:Nat},e.own y=some j->x≠y:=by
   rintro y j hy rfl;rw [hx1] at hy;cases hy
  exact ⟨hx2,nx_ own4,nx_ own6,nx_ own5,λh=>(nx_ (own7 x h)) rfl,λh=>(nx_ (own8 x h)) rfl⟩
 have FJ:=We7 hs (ord:=xE k1 g1) (dy:=col 0 g2) hdn n10 n11 (by rw [HX];exact n12) (w:=w) (bk:=e.blk k) (bg:=e.blk g) (bf:=e.blk f) (bo:=e.blk o) (bd:=e.blk dd) (bm:=e.blk mg) (R:=e) hE.glob
  hp1 hp2 hp3 hp5 hp4 hp6 hes (by rw [HX];exact R7) R8 hov.1 hdv.1 (dne own4 own6 ho_m) (dne own4 own5 hod) (dne own6 own5 (Ne.symm hd_m)) (λx hx=>⟨dne (own7 x hx) own4 (Ne.symm ho_q),dne (own7 x hx) own6 (Ne.symm hm_q),dne (own7 x hx) own5 (Ne.symm hd_q),λh=>dne (own7 x hx) (own8 x h) hqr rfl⟩)
  (λx hx=>⟨dne (own8 x hx) own4 (Ne.symm ho_r),dne (own8 x hx) own6 (Ne.symm hm_r),dne (own8 x hx) own5 (Ne.symm hd_r)⟩) t1 hro ro1 ro2 ro3
 refine FJ.mono ?_;rintro en w1 ⟨rfl,hsz,q1,q2,q3,jA,⟨es',c',hmp,hes'⟩,hF,hT⟩;rw [HX] at hF;have hlt: ∀{x j:Nat},e.own x=some j->w0.heap.size<=x:=λh=>(hE.owned _ _ h).1;have hBel:Below w0.heap.size w0 w1:=by
  refine ⟨q1.trans hB.os,q2.trans hB.tape,q3.trans hB.output,Ar hB.size hsz,λx hx=>?_⟩;have ne_: ∀{y j:Nat},e.own y=some j->x≠y:=λh he=>by have:=hlt h;omega
  rw [jA x (xV hx hB.size) (ne_ own4) (ne_ own6) (λh=>ne_ (own7 x h) rfl) (λh=>ne_ (own8 x h) rfl)];exact hB.block x hx
 have Xk6: ∀x,x<w.heap.size->e.ro x->w1.heap[x]? =w.heap[x]? :=λx hx hx2=>jA x hx (hro x hx2).2.1 (hro x hx2).2.2.1 (hro x hx2).2.2.2.2.1 (hro x hx2).2.2.2.2.2;cases hb:(orS k2 a b c U O d Z).isSome with
 |false=>
  have hq:=hq.2 hb;obtain ⟨f1,f2,f3⟩:=hF hb;have st:Step e e w w1:=⟨λx hx hx2=>⟨hx2,Xk6 x hx hx2⟩,λ_ h=>⟨h,rfl,rfl⟩,hsz⟩;refine ⟨_,_,_,_,_,e,rfl,hq,⟨λx hx=>⟨(hE.apart x hx).1,xV (hE.apart x hx).2 hsz⟩,λx j hx=>⟨(hE.owned x j hx).1,xV (hE.owned x j hx).2 hsz⟩,hE.glob.step st⟩,hBel,?_,hlv,LQ,hxt.step st,.lit false⟩;intro p hp;rcases FX hp with rfl|⟨hp,Zp2,_⟩;exact ⟨live6,own6,es',c',hmp,hes'⟩;rcases FX hp with rfl|⟨hp,vU,_⟩;exact IA n7 live8 hdv.2 own8 f3;rcases FX hp with rfl|⟨hp,Zp1,_⟩;exact IA n6 live7 hov.2 own7 f2;obtain ⟨hpm,hna⟩:=EO hp;refine LK st (λx hx=>⟨hx,?_⟩) hna (hm p hpm);rcases Classical.em (x=e.blk o) with rfl|hxo;rw [f1,hp4];exact jA x (hE.owned x _ hx).2 hxo (dne hx own6 Zp2) (λh=>dne hx (own7 x h) Zp1 rfl) (λh=>dne hx (own8 x h) vU rfl)
 |true=>
  have hq:=hq.1 hb;obtain ⟨y',t1,⟨ya,yn,yc,hy0⟩,t2,t3,t4⟩:=hT hb;have hid: ¬e.live nx:=λh=>Bf _ (hlv _ h);have hfr: ∀x j,e.own x=some j->j≠q->y'.ownBlock≠some x:=by
   intro x j hx hj h;rcases t3 x h with h|h;have:=(hE.owned x j hx).2;omega;exact dne hx (own7 x h) hj rfl
  have hfr2: ∀x,e.ro x->y'.ownBlock≠some x:=by
   intro x hx h;rcases t3 x h with h|h;have:=(hro x hx).1;omega;exact (hro x hx).2.2.2.2.1 h
  have H9: ∀x j,e.own x=some j->j≠q->(e.app nx y').own x=some j:=by
   intro x j hx hj;simp only [UL.app];rw [if_neg (hfr x j hx hj)];exact hx
  have st:Step e (e.app nx y') w w1:=⟨λx hx hx2=>⟨hx2,Xk6 x hx hx2⟩,λj hj=>⟨.inr hj,rfl,by
   have:j≠nx:=λh=>hid (h▸hj);simp [UL.app,this]⟩,hsz⟩
  have vne: ∀{j:Nat},e.live j->(e.app nx y').val j=e.val j:=λ{j} hj=>by
   have:j≠nx:=λh=>hid (h▸hj);simp [UL.app,this]
  refine ⟨_,_,_,_,_,e.app nx y',rfl,hq,⟨λx hx=>⟨?_,xV (hE.apart x hx).2 hsz⟩,λx j hx=>?_,hE.glob.step st⟩,hBel,?_,?_,LQ,hxt.step st,.lit true⟩;simp only [UL.app];rw [if_neg (hfr2 x hx)];exact (hE.apart x hx).1;simp only [UL.app] at hx;split at hx;rename_i hxb;refine ⟨?_,(t2.lt x hxb).2⟩;rcases t3 x hxb with h|h;exact Ar hB.size h;exact hlt (own7 x h);exact ⟨(hE.owned x j hx).1,xV (hE.owned x j hx).2 hsz⟩;intro p hp;rcases GM.1 hp with rfl|hp;exact xJ (ov:=y') (.inl rfl) (by simp [UL.app]) (λx hx=>by simp [UL.app,hx]) rfl (λj hj=>Qb9 hj) t2
  rcases FX hp with rfl|⟨hp,Zp2,_⟩;exact ⟨.inr live6,H9 _ _ own6 hm_q,es',c',hmp,hes'⟩;rcases FX hp with rfl|⟨hp,vU,_⟩;exact xJ (ov:=dv) (.inr live8) (by rw [vne live8];exact hdv.2) (λx hx=>H9 _ _ (own8 x hx) (Ne.symm hqr)) VT (λj hj=>CF hj) t4
  rcases FX hp with rfl|⟨hp,Zp1,_⟩;refine ⟨.inr live4,H9 _ _ own4 ho_q,[y'],t1,.cons ?_ (.nil _ _)⟩;rw [hy0];exact .row nx _ _ _ (.inl rfl) (by simp [UL.app])
  obtain ⟨hp,Jj8⟩:=L6 hp;obtain ⟨hpm,hna⟩:=EO hp;refine LK st (λx hx=>⟨H9 _ _ hx Jj8,?_⟩) hna (hm p hpm);exact jA x (hE.owned x _ hx).2 (dne hx own4 Zp1) (dne hx own6 Zp2) (λh=>dne hx (own7 x h) Jj8 rfl) (λh=>dne hx (own8 x h) vU rfl);rintro j (rfl|hj);exact Bk _;exact Nat.lt_succ_of_lt (hlv j hj)
 cases ht;cases ht;cases ht;cases ht
