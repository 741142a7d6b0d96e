/- Contracts, put together. Conditions: those of each. -/
import Derived.Test.YtakpdkmhclhlnaaGreatDoorMc
import Derived.Lib.Walk
import Derived.Lib.SliceRun
import Derived.Lib.AppendZerosOnto
set_option linter.unusedSimpArgs false
set_option linter.unusedVariables false
set_option maxRecDepth 100000
namespace Go.Proofs.YtakpdkmhclhlnaaGreatDoor.Bo
open Go Go.Sx Go.RowKit
open Go.Sx.U6 (need branch leaf)
open Go.Sx.AV (lst ptr agg roI tup top)
def sz2(m n:Nat)(k:Nat):Nat:=if k=0 then 0 else if k=1 then m else m+n
end Go.Proofs.YtakpdkmhclhlnaaGreatDoor.Bo
namespace Go.Proofs.YtakpdkmhclhlnaaGreatDoor
open Go Go.Sx Go.RowKit Bo
open Go.Sx.U6 (need branch leaf)
open Go.Sx.AV (lst ptr agg roI tup top)
theorem UI:Tryz.prog.follows .mixedOrders=true:=UD
abbrev i(n:Int):AV:= .x (.int .i64 n)
abbrev iI(n:Int):AV:= .x (.int .i64 n)
abbrev bl(b:Bool):AV:= .x (.bool b)
abbrev bt:=Bo.bt
abbrev insB:=Bo.insB
def dnI(n d:Int):Int:=n.tdiv d
def upI(n d:Int):Int:=(n+d-1).tdiv d
theorem bt_iff(U n O:Int):bt U n O=true↔U<=n/\n<=O:=Bo.bt_iff U n O
theorem insB_iff(U a b O:Int):insB U a b O=true↔U<=a/\a<=b/\b<=O:=Bo.insB_iff U a b O
theorem fB{n d:Int}(S:0<=n)(hd:1<=d):dnI n d*d<=n/\n<dnI n d*d+d/\0<=dnI n d/\dnI n d<=n:=by
 unfold dnI;rw [Int.tdiv_eq_ediv_of_nonneg S];have h1:=Int.mul_ediv_add_emod n d;have h2:=Int.emod_nonneg n (show d≠0 by omega)
 have h3:=Int.emod_lt_of_pos n (show 0<d by omega)
 have h4:=Int.ediv_nonneg S (show 0<=d by omega)
 have h5:=Int.ediv_le_self d S;rw [Int.mul_comm] at h1;omega
theorem a8{n d:Int}(S:0<=n)(hd:1<=d):upI n d*d-d<n/\n<=upI n d*d/\0<=upI n d/\upI n d<=n:=by
 have h:=fB (n:=n+d-1) U3 hd;have e:upI n d=dnI (n+d-1) d:=rfl;rw [e];refine ⟨U3,U3,h.2.2.1,?_⟩;rcases Int.lt_or_le n (dnI (n+d-1) d) with h1|h1;have h2:=Int.mul_le_mul_of_nonneg_right (show n+1<=dnI (n+d-1) d by omega) (show 0<=d by omega)
 rw [Int.add_mul,Int.one_mul] at h2;have h3:=Bz S (show 0<=d-1 by omega)
 rw [Int.mul_sub,Int.mul_one] at h3;omega;exact h1
def qE:GM
 |[.x (.int .i64 n),.x (.int .i64 U),.x (.int .i64 O)]=>some ([],bl (bt U n O))
 |_=>none
abbrev Y5:Value:=Value.bool false
theorem xX(n U O:Int):UH U8 92 [i n,i U,i O] (bl (bt U n O)):=by
 refine HL Tryz.func92 (t:=branch (decide (U<=n)) (leaf (RV.x (.bool (decide (n<=O))))) (leaf (RV.x (Y5)))) UD ?_;simp only [U6.sat,UU,GS,H6,UX,G4];all_goals (simp+contextual [bt,insB,Bo.bt,Bo.insB,Bool.and_assoc]);all_goals omega
theorem LA:UA U8 92 qE:=by
 refine ⟨(UZ Tryz.func92),?_⟩;intro avs ns res h S;unfold qE at h;split at h;cases h;exact xX _ _ _;cases h
def qF:GM
 |[.agg [.x (.int .i64 a),.x (.int .i64 b)],.x (.int .i64 U),.x (.int .i64 O)]=>some ([],bl (insB U a b O))
 |_=>none
theorem zJ(a b U O:Int):UH U8 98 [.agg [i a,i b],i U,i O] (bl (insB U a b O)):=by
 refine HL Tryz.func98 (t:=branch (decide (U<=a)) (branch (decide (a<=b)) (leaf (RV.x (.bool (decide (b<=O))))) (leaf (RV.x (Y5)))) (leaf (RV.x (Y5)))) UD ?_;simp only [U6.sat,UU,GS,H6,UX,G4];all_goals (simp+contextual [bt,insB,Bo.bt,Bo.insB,Bool.and_assoc]);all_goals omega
theorem BQ:UA U8 98 qF:=by
 refine ⟨(UZ Tryz.func98),?_⟩;intro avs ns res h S;unfold qF at h;split at h;cases h;exact zJ _ _ _ _;cases h
def Qd3:GM
 |[.x (.int .i64 n),.x (.int .i64 d)]=>some ([1<=d/\d<=100000,0<=n/\n<=1000000000000],i (dnI n d))
 |_=>none
theorem Xs7(n d:Int)(UB:1<=d/\d<=100000)(UY:0<=n/\n<=1000000000000):UH U8 76 [i n,i d] (i (dnI n d)):=by
 refine HL Tryz.func76 (t:=need [d≠0,U5 (Int.tdiv n d)] (leaf (RV.x (.int .i64 (Int.tdiv n d))))) UD ?_;have h:=fB UY.1 UB.1;unfold dnI at h ⊢;exact VU
theorem cF:UA U8 76 Qd3:=by
 refine ⟨(UZ Tryz.func76),?_⟩;intro avs ns res h S;unfold Qd3 at h;split at h;cases h;exact Xs7 _ _ (S _ UE) (S _ UE);cases h
def Zx8:GM
 |[.x (.int .i64 n),.x (.int .i64 d)]=>some ([1<=d/\d<=100000,0<=n/\n<=1000000000000],i (upI n d))
 |_=>none
theorem Jf7(n d:Int)(UB:1<=d/\d<=100000)(UY:0<=n/\n<=1000000000000):UH U8 77 [i n,i d] (i (upI n d)):=by
 refine HL Tryz.func77 (t:=need [U5 (n+d)] (need [U5 (n+d-1)] (need [d≠0,U5 (Int.tdiv (n+d-1) d)] (leaf (RV.x (.int .i64 (Int.tdiv (n+d-1) d))))))) UD ?_;have h:=a8 UY.1 UB.1;unfold upI at h ⊢;exact VU
theorem Wg0:UA U8 77 Zx8:=by
 refine ⟨(UZ Tryz.func77),?_⟩;intro avs ns res h S;unfold Zx8 at h;split at h;cases h;exact Jf7 _ _ (S _ UE) (S _ UE);cases h
theorem Qk7{a I:Int}(ha:0<=a/\a<=100)(hd:0<=I/\I<=100000):0<=a*I/\a*I<=10000000:=by
 have h1:=Bz ha.1 hd.1;have h2:=Bo.mul_bd (x:=a) (y:=I) (X:=100) (Y:=100000) U3 U3;omega
def Qm9:GM
 |[.agg [.x (.int .i64 a),.x (.int .i64 b)],.x (.int .i64 I)]=>some ([0<=a/\a<=100,0<=b/\b<=100,0<=I/\I<=100000],.agg [i (dnI (a*I) 100),i (upI (b*I) 100)])
 |_=>none
theorem Wi6(a b I:Int)(UB:0<=a/\a<=100)(UY:0<=b/\b<=100)(DF:0<=I/\I<=100000):UH U8 151 [.agg [i a,i b],i I] (.agg [i (dnI (a*I) 100),i (upI (b*I) 100)]):=by
 refine UL (L:=[]) (Ae cF (Ae Wg0 Aa)) UI Tryz.func151 (GF Tryz.f151) UN (t:=need [U5 (a*I)] (need [(1:Int)<=100/\(100:Int)<=100000,(0:Int)<=a*I/\a*I<=1000000000000] (need [U5 (b*I)] (need [(1:Int)<=100/\(100:Int)<=100000,(0:Int)<=b*I/\b*I<=1000000000000] (leaf (RV.agg [RV.x (.int .i64 (dnI (a*I) (100:Int))),RV.x (.int .i64 (upI (b*I) (100:Int)))])))))) UD ?_;have h1:=Qk7 UB DF;have h2:=Qk7 UY DF;exact VU
theorem iS:UA U8 151 Qm9:=by
 refine ⟨(UZ Tryz.func151),?_⟩;intro avs ns res h S;unfold Qm9 at h;split at h;cases h;exact Wi6 _ _ _ (S _ UE) (S _ UE) (S _ UE);cases h
section
variable (f:Cg)(k:Nat)(I:Int)
def onL:Int:=f (4+2*k)-upI (f 3*I) 100
def onH:Int:=f (5+2*k)-dnI (f 2*I) 100
end
def teM(c:Int)(k:Nat):Int:=dnI (1000*k) c
def drB(f:Cg):Prop:=(0<=f 2/\f 2<=100)/\(0<=f 3/\f 3<=100)
def bdB(f:Cg):Prop:= ∀j,j<22-> -100000000000<=f (4+j)/\f (4+j)<=100000000000
theorem Wi7{f:Cg}{I:Int}(h:drB f)(hd:0<=I/\I<=100000):(0<=upI (f 3*I) 100/\upI (f 3*I) 100<=10000000)/\0<=dnI (f 2*I) 100/\dnI (f 2*I) 100<=10000000:=by
 have h1:=Qk7 h.1 hd;have h2:=Qk7 h.2 hd;have h3:=fB h1.1 (show (1:Int)<=100 by omega)
 have h4:=a8 h2.1 (show (1:Int)<=100 by omega)
 omega
theorem sY(c T U O:Int)(A B:AV)(f:Cg)(k:Nat)(I:Int)(UB:drB f)(UY:bdB f)(DF:k<=10)(FS:0<=I/\I<=100000):UH U8 114 [.roI [i c,i T,i U,i O,A,B] 26 f 0,i k,i I] (i (onL f k I)):=by
 refine UL (L:=[]) (Ae iS Aa) UI Tryz.func114 (GF Tryz.f114) UN (t:=need [G7 k 11] (need [k*2+10+0-1-1-1-1-1-1<26] (need [2+2<=26] (need [(0:Int)<=f (2+nat_lit 0)/\f (2+nat_lit 0)<=100,(0:Int)<=f (2+nat_lit 1)/\f (2+nat_lit 1)<=100,(0:Int)<=I/\I<=100000] (need [U5 (f (k*2+10+0-1-1-1-1-1-1)-upI (f (2+nat_lit 1)*I) (100:Int))] (leaf (RV.x (.int .i64 (f (k*2+10+0-1-1-1-1-1-1)-upI (f (2+nat_lit 1)*I) (100:Int)))))))))) UD ?_;have h0:=Wi7 UB FS;have h1:=UY (2*k) U3;have h2:=UY (2*k+1) U3;rw [show 4+(2*k+1)=5+2*k by omega] at h2
 have d1:=UB.1;have d2:=UB.2
 have hi6:U5 (f (4+2*k)-upI (f 3*I) 100):=by
  simp only [U5];omega
 simp only [U6.sat,UU,GS,H6,UX,G4];rw [show k*2+10+0-1-1-1-1-1-1=4+2*k by omega]
 exact ⟨U3,U3,U3,⟨d1,d2,FS⟩,hi6,rfl⟩
def o2:GM
 |[.roI [.x (.int .i64 c),.x (.int .i64 T),.x (.int .i64 U),.x (.int .i64 O),A,B] 26 f 0,.x (.int .i64 k),.x (.int .i64 I)]=>some ([drB f,bdB f,0<=k/\k<=10,0<=I/\I<=100000],i (onL f k.toNat I))
 |_=>none
theorem sX:UA U8 114 o2:=by
 refine ⟨(UZ Tryz.func114),?_⟩;intro avs ns res h S;unfold o2 at h;split at h;rename_i c T U O A B f k I;cases h;have hk:0<=k/\k<=10:=S _ UE;have e:((k.toNat:Nat):Int)=k:=U3;have h0:=sY c T U O A B f k.toNat I (S _ UE) (S _ UE) U3 (S _ UE);rw [e] at h0;exact h0;cases h
theorem bW(c T U O:Int)(A B:AV)(f:Cg)(k:Nat)(I:Int)(UB:drB f)(UY:bdB f)(DF:k<=10)(FS:0<=I/\I<=100000):UH U8 115 [.roI [i c,i T,i U,i O,A,B] 26 f 0,i k,i I] (i (onH f k I)):=by
 refine UL (L:=[]) (Ae iS Aa) UI Tryz.func115 (GF Tryz.f115) UN (t:=need [G7 k 11] (need [k*2+10+1-1-1-1-1-1-1<26] (need [2+2<=26] (need [(0:Int)<=f (2+nat_lit 0)/\f (2+nat_lit 0)<=100,(0:Int)<=f (2+nat_lit 1)/\f (2+nat_lit 1)<=100,(0:Int)<=I/\I<=100000] (need [U5 (f (k*2+10+1-1-1-1-1-1-1)-dnI (f (2+nat_lit 0)*I) (100:Int))] (leaf (RV.x (.int .i64 (f (k*2+10+1-1-1-1-1-1-1)-dnI (f (2+nat_lit 0)*I) (100:Int)))))))))) UD ?_;have h0:=Wi7 UB FS;have h1:=UY (2*k) U3;have h2:=UY (2*k+1) U3;rw [show 4+(2*k+1)=5+2*k by omega] at h2
 have d1:=UB.1;have d2:=UB.2
 have hi6:U5 (f (5+2*k)-dnI (f 2*I) 100):=by
  simp only [U5];omega
 simp only [U6.sat,UU,GS,H6,UX,G4];rw [show k*2+10+1-1-1-1-1-1-1=5+2*k by omega]
 exact ⟨U3,U3,U3,⟨d1,d2,FS⟩,hi6,rfl⟩
def NG:GM
 |[.roI [.x (.int .i64 c),.x (.int .i64 T),.x (.int .i64 U),.x (.int .i64 O),A,B] 26 f 0,.x (.int .i64 k),.x (.int .i64 I)]=>some ([drB f,bdB f,0<=k/\k<=10,0<=I/\I<=100000],i (onH f k.toNat I))
 |_=>none
theorem bU:UA U8 115 NG:=by
 refine ⟨(UZ Tryz.func115),?_⟩;intro avs ns res h S;unfold NG at h;split at h;rename_i c T U O A B f k I;cases h;have hk:0<=k/\k<=10:=S _ UE;have e:((k.toNat:Nat):Int)=k:=U3;have h0:=bW c T U O A B f k.toNat I (S _ UE) (S _ UE) U3 (S _ UE);rw [e] at h0;exact h0;cases h
theorem Jl3(c T U O:Int)(A B:AV)(f:Cg)(k:Nat)(I:Int)(UB:drB f)(UY:bdB f)(DF:k<=10)(FS:0<=I/\I<=100000):UH U8 72 [.roI [i c,i T,i U,i O,A,B] 26 f 0,i k,i I] (.agg [i (onL f k I),i (onH f k I)]):=by
 refine UL (L:=[]) (Ae sX (Ae bU Aa)) UI Tryz.func72 (GF Tryz.f72) UN (t:=need [drB f,bdB f,(0:Int)<=(k:Int)/\(k:Int)<=10,(0:Int)<=I/\I<=100000] (need [drB f,bdB f,(0:Int)<=(k:Int)/\(k:Int)<=10,(0:Int)<=I/\I<=100000] (leaf (RV.agg [RV.x (.int .i64 (onL f k I)),RV.x (.int .i64 (onH f k I))])))) UD ?_;simp only [U6.sat,UU,GS,H6,UX,G4,FA];exact ⟨⟨UB,UY,U3,FS⟩,⟨UB,UY,U3,FS⟩⟩
def Jx5:GM
 |[.roI [.x (.int .i64 c),.x (.int .i64 T),.x (.int .i64 U),.x (.int .i64 O),A,B] 26 f 0,.x (.int .i64 k),.x (.int .i64 I)]=>some ([drB f,bdB f,0<=k/\k<=10,0<=I/\I<=100000],.agg [i (onL f k.toNat I),i (onH f k.toNat I)])
 |_=>none
theorem Wl6:UA U8 72 Jx5:=by
 refine ⟨(UZ Tryz.func72),?_⟩;intro avs ns res h S;unfold Jx5 at h;split at h;rename_i c T U O A B f k I;cases h;have hk:0<=k/\k<=10:=S _ UE;have e:((k.toNat:Nat):Int)=k:=U3;have h0:=Jl3 c T U O A B f k.toNat I (S _ UE) (S _ UE) U3 (S _ UE);rw [e] at h0;exact h0;cases h
theorem Xz9{c:Int}{k:Nat}(hc:1<=c/\c<=10)(hk:k<=10):0<=teM c k/\teM c k<=10000:=by
 have:=fB (n:=1000*k) U3 hc.1;unfold teM;omega
theorem Wg4(c T U O:Int)(A B:AV)(f:Cg)(k:Nat)(UB:1<=c/\c<=10)(UY:k<=10):UH U8 141 [.roI [i c,i T,i U,i O,A,B] 26 f 0,i k] (i (teM c k)):=by
 refine HL Tryz.func141 (t:=need [U5 ((1000:Int)*(k:Int))] (need [c≠0,U5 (Int.tdiv ((1000:Int)*(k:Int)) c)] (leaf (RV.x (.int .i64 (Int.tdiv ((1000:Int)*(k:Int)) c)))))) UD ?_;have h:=Xz9 UB UY;unfold teM dnI at h ⊢;exact VU
def Qm7:GM
 |[.roI [.x (.int .i64 c),.x (.int .i64 T),.x (.int .i64 U),.x (.int .i64 O),A,B] 26 f 0,.x (.int .i64 k)]=>some ([1<=c/\c<=10,0<=k/\k<=10],i (teM c k.toNat))
 |_=>none
theorem Wg3:UA U8 141 Qm7:=by
 refine ⟨(UZ Tryz.func141),?_⟩;intro avs ns res h S;unfold Qm7 at h;split at h;rename_i c T U O A B f k;cases h;have hk:0<=k/\k<=10:=S _ UE;have e:((k.toNat:Nat):Int)=k:=U3;have h0:=Wg4 c T U O A B f k.toNat (S _ UE) U3;rw [e] at h0;exact h0;cases h
theorem OF(c T U O:Int)(A B:AV)(f:Cg)(k:Nat)(I:Int)(UB:drB f)(UY:bdB f)(DF:k<=10)(FS:0<=I/\I<=100000)(qQ:1<=c/\c<=10):UH U8 97 [.roI [i c,i T,i U,i O,A,B] 26 f 0,i k,i I] (.agg [i (onL f k I-teM c k),i (onH f k I-teM c k)]):=by
 refine UL (L:=[]) (Ae Wl6 (Ae Wg3 Aa)) UI Tryz.func97 (GF Tryz.f97) UN (t:=need [drB f,bdB f,(0:Int)<=(k:Int)/\(k:Int)<=10,(0:Int)<=I/\I<=100000] (need [(1:Int)<=c/\c<=10,(0:Int)<=(k:Int)/\(k:Int)<=10] (need [U5 (onL f k I-teM c k)] (need [(1:Int)<=c/\c<=10,(0:Int)<=(k:Int)/\(k:Int)<=10] (need [U5 (onH f k I-teM c k)] (leaf (RV.agg [RV.x (.int .i64 (onL f k I-teM c k)),RV.x (.int .i64 (onH f k I-teM c k))]))))))) UD ?_;have h0:=Wi7 UB FS;have h1:=UY (2*k) U3;have h2:=UY (2*k+1) U3;rw [show 4+(2*k+1)=5+2*k by omega] at h2
 have d1:=UB.1;have d2:=UB.2
 have h5:=Xz9 qQ DF;unfold onL onH;simp only [U6.sat,UU,GS,H6,UX,U5,G4,FA,onL,onH];refine ⟨⟨UB,UY,U3,FS⟩,⟨qQ,U3⟩,U3,⟨qQ,U3⟩,U3⟩
def fK:GM
 |[.roI [.x (.int .i64 c),.x (.int .i64 T),.x (.int .i64 U),.x (.int .i64 O),A,B] 26 f 0,.x (.int .i64 k),.x (.int .i64 I)]=>some ([drB f,bdB f,0<=k/\k<=10,0<=I/\I<=100000,1<=c/\c<=10],.agg [i (onL f k.toNat I-teM c k.toNat),i (onH f k.toNat I-teM c k.toNat)])
 |_=>none
theorem OE:UA U8 97 fK:=by
 refine ⟨(UZ Tryz.func97),?_⟩;intro avs ns res h S;unfold fK at h;split at h;rename_i c T U O A B f k I;cases h;have hk:0<=k/\k<=10:=S _ UE;have e:((k.toNat:Nat):Int)=k:=U3;have h0:=OF c T U O A B f k.toNat I (S _ UE) (S _ UE) U3 (S _ UE) (S _ UE);rw [e] at h0;exact h0;cases h
def keP(c:Int)(f:Cg)(wi I x:Int):Bool:=insB (-wi) (onL f x.toNat I-teM c x.toNat) (onH f x.toNat I-teM c x.toNat) wi
def mkV(p:Int)(j:Nat):List Value:=[.int .i64 (p+j)]
def Qn4:GM
 |[.x (.int .i64 x),.ro [.roI [.x (.int .i64 c),.x (.int .i64 T),.x (.int .i64 U),.x (.int .i64 O),A,B] 26 f 0],.ro [.x (.int .i64 I)],.ro [.x (.int .i64 W),.x (.int .i64 u1),.x (.int .i64 wi)]]=>some ([drB f,bdB f,1<=c/\c<=10,0<=I/\I<=100000,0<=wi/\wi<=1000000,0<=x/\x<=10],bl (keP c f wi I x))
 |_=>none
section
variable (x:Int)(c T U O:Int)(A B:AV)(f:Cg)(I W u1 wi:Int)
theorem Wo6(UB:drB f)(UY:bdB f)(DF:1<=c/\c<=10)(FS:0<=I/\I<=100000)(qQ:0<=wi/\wi<=1000000)(jF:0<=x/\x<=10):UH U8 96 [i x,.ro [.roI [i c,i T,i U,i O,A,B] 26 f 0],.ro [i I],.ro [i W,i u1,i wi]] (bl (keP c f wi I x)):=by
 refine UL (L:=[]) (Ae OE (Ae BQ Aa)) UI Tryz.func96 (GF Tryz.f96) UN (t:=need [drB f,bdB f,(0:Int)<=x/\x<=10,(0:Int)<=I/\I<=100000,(1:Int)<=c/\c<=10] (need [U5 (-wi)] (leaf (RV.x (.bool (insB (-wi) (onL f (Int.toNat x) I-teM c (Int.toNat x)) (onH f (Int.toNat x) I-teM c (Int.toNat x)) wi)))))) UD ?_;simp only [U6.sat,UU,GS,H6,UX,U5,G4,keP];exact ⟨⟨UB,UY,jF,FS,DF⟩,U3⟩
theorem Wo5:UA U8 96 Qn4:=by
 refine ⟨(UZ Tryz.func96),?_⟩;intro avs ns res h S;unfold Qn4 at h;split at h;cases h;exact Wo6 _ _ _ _ _ _ _ _ _ _ _ _ (S _ UE) (S _ UE) (S _ UE) (S _ UE) (S _ UE) (S _ UE);cases h
theorem Xd0(UB:drB f)(UY:bdB f)(DF:1<=c/\c<=10)(FS:0<=I/\I<=100000)(qQ:0<=wi/\wi<=1000000)(jF:0<=x/\x<=10):UH U8 138 [i x,.ro [.fn (.func 96) [] [.ro [.roI [i c,i T,i U,i O,A,B] 26 f 0],.ro [i I],.ro [i W,i u1,i wi]]]] (bl (!(keP c f wi I x))):=by
 refine UL (L:=[]) (Ae Wo5 Aa) UI Tryz.func138 (GF Tryz.f138) UN (t:=need [drB f,bdB f,(1:Int)<=c/\c<=10,(0:Int)<=I/\I<=100000,(0:Int)<=wi/\wi<=1000000,(0:Int)<=x/\x<=10] (leaf (RV.x (.bool !keP c f wi I x)))) UD ?_;simp only [U6.sat,UU,GS,H6,UX,G4];exact ⟨UB,UY,DF,FS,qQ,jF⟩
end
def Qo6:GM
 |[.x (.int .i64 x),.ro [.fn (.func 96) [] [.ro [.roI [.x (.int .i64 c),.x (.int .i64 T),.x (.int .i64 U),.x (.int .i64 O),A,B] 26 f 0],.ro [.x (.int .i64 I)],.ro [.x (.int .i64 W),.x (.int .i64 u1),.x (.int .i64 wi)]]]]=>some ([drB f,bdB f,1<=c/\c<=10,0<=I/\I<=100000,0<=wi/\wi<=1000000,0<=x/\x<=10],bl (!(keP c f wi I x)))
 |_=>none
theorem nV:UA U8 138 Qo6:=by
 refine ⟨(UZ Tryz.func138),?_⟩;intro avs ns res h S;unfold Qo6 at h;split at h;cases h;exact Xd0 _ _ _ _ _ _ _ _ _ _ _ _ (S _ UE) (S _ UE) (S _ UE) (S _ UE) (S _ UE) (S _ UE);cases h
abbrev WE(c:Int)(T:Int)(U:Int)(O:Int)(A:AV)(B:AV)(f:Cg)(I:Int)(W:Int)(u1:Int)(wi:Int):AV:=AV.fn (Fn.func 138) [] [AV.ro [AV.fn (Fn.func 96) [] [AV.ro [roI [iI c,iI T,iI U,iI O,A,B] 26 (λa=>f a) 0],AV.ro [iI I],AV.ro [iI W,iI u1,iI wi]]]]
section
variable (n:Nat)(g:Cg)
abbrev KI:AV:=lst 1 n λk=>[iI (g k)]
def Xi4(c T U O:Int)(A B:AV)(f:Cg)(I W u1 wi:Int):St:={σ:=[KI n g,WE c T U O A B f I W u1 wi]++D6 5 [iI (n:Int)]++D6 11 [],m:=[],nx:=4}
noncomputable def Jy5:Code:=UT (UC (UP Tryz.f172) 0)
def Wo8(c T U O:Int)(A B:AV)(f:Cg)(I W u1 wi:Int)(k:Nat):St:=(upM [(8,i k)] (Xi4 n g c T U O A B f I W u1 wi))
def fZ(c T U O:Int)(A B:AV)(f:Cg)(I W u1 wi:Int)(k:Nat):GR->Option St
 | .ret=>some (upM [(4,i (HJ ((λk=> !(keP c f wi I (g k)))) n))] (Xi4 n g c T U O A B f I W u1 wi))
 | .exit 0=>some (upM [] (Xi4 n g c T U O A B f I W u1 wi))
 |_=>none
def Jt7(c T U O:Int)(A B:AV)(f:Cg)(I W u1 wi:Int):CT:= .branch (decide (HJ ((λk=> !(keP c f wi I (g k)))) n<n)) (.leaf (.ret,(fZ n g c T U O A B f I W u1 wi 0 .ret).getD (Xi4 n g c T U O A B f I W u1 wi))) (.leaf (.exit 0,(fZ n g c T U O A B f I W u1 wi 0 (.exit 0)).getD (Xi4 n g c T U O A B f I W u1 wi)))
def Zd5(c T U O:Int)(A B:AV)(f:Cg)(I W u1 wi:Int):G5:=(D1 (Wo8 n g c T U O A B f I W u1 wi (0)) (Jt7 n g c T U O A B f I W u1 wi))
theorem Jd0(c T U O:Int)(A B:AV)(f:Cg)(I W u1 wi:Int)(UB:n<=100000)(UY:drB f)(DF:bdB f)(FS:1<=c/\c<=10)(qQ:0<=I/\I<=100000)(jF:0<=wi/\wi<=1000000)(sC: ∀j,j<n->0<=g j/\g j<=10):GU U8 (.loop Jy5) (Zd5 n g c T U O A B f I W u1 wi):=by
 refine D4 (L:=[]) (Ae nV Aa) UI UN (X:=Nat) (Wo8 n g c T U O A B f I W u1 wi) (λk=>k<=n/\ ∀j,j<k->(λk=> !(keP c f wi I (g k))) j=false) (λk=>n-k) (fZ n g c T U O A B f I W u1 wi) (x0:=0) ⟨U3,λj hj=>U3⟩ ?_ ?_ ?_;rintro k;kernel_rfl;rintro k y E h;unfold fZ at h;split at h;cases h;kernel_rfl;cases h;kernel_rfl;cases h
 ·rintro Q hQ k hx;refine ⟨(k+1),?_⟩;(with_reducible refine F4 (t:=let z0:=(UJ (WE c T U O A B f I W u1 wi));(branch (decide ((k:Int)<(n:Int))) (need [G7 k n] (need [drB λa=>f a,bdB λa=>f a,(1:Int)<=c/\c<=10,(0:Int)<=I/\I<=100000,(0:Int)<=wi/\wi<=1000000,(0:Int)<=g k/\g k<=10] (branch (!keP c (λa=>f a) wi I (g k)) (need [UJ (KI n g),z0,(k:Int)=(↑(HJ (λk=> !keP c f wi I (g k)) n):Int),UJ (n:Int)] (leaf GR.ret)) (need [U5 ((k:Int)+1)] (need [UJ (KI n g),z0,UJ (n:Int),(k:Int)+1=(↑(k+1):Int)] (leaf GR.normal)))))) (need [UJ (KI n g),z0,UJ (n:Int)] (leaf (GR.exit 0))))) UD ?_)
  simp only [Jt7,fZ,U6.sat,HF,HU] at hQ;simp only [U6.sat,UU,G4,HU,U5,fZ,FA];refine ⟨λh=>⟨U3,⟨UY,DF,FS,qQ,jF,sC k U3⟩,?_⟩,λh=>?_⟩
  rotate_left
  have hf:HJ ((λk=> !(keP c f wi I (g k)))) n=n:=wA (λj hj=>hx.2 j U3);intro E hE;cases hE;exact hQ.2 U3;refine ⟨λhb=>?_,λhb=>?_⟩;have hf:HJ ((λk=> !(keP c f wi I (g k)))) n=k:=jT U3 hb hx.2;refine ⟨U3,λE hE=>?_⟩;cases hE;exact hQ.1 U3;refine ⟨U3,U3,⟨U3,λj hj=>?_⟩,U3⟩;rcases (show j<k\/j=k by omega) with h1|rfl
  exact hx.2 j h1;exact hb
theorem Zi9(c T U O:Int)(A B:AV)(f:Cg)(I W u1 wi:Int)(UB:n<=100000)(UY:drB f)(DF:bdB f)(FS:1<=c/\c<=10)(qQ:0<=I/\I<=100000)(jF:0<=wi/\wi<=1000000)(sC: ∀j,j<n->0<=g j/\g j<=10):UH U8 172 [.lst 1 n (λk=>[i (g k)]),.fn (.func 138) [] [.ro [.fn (.func 96) [] [.ro [.roI [i c,i T,i U,i O,A,B] 26 f 0],.ro [i I],.ro [i W,i u1,i wi]]]]] (i (if HJ ((λk=> !(keP c f wi I (g k)))) n<n then (HJ ((λk=> !(keP c f wi I (g k)))) n:Int) else -1)):=by
 refine UL (L:=[Zd5 n g c T U O A B f I W u1 wi]) (Ae nV Aa) UI Tryz.func172 (GF Tryz.f172) (GJ (lpE (b:= .loop Jy5) UD<|Jd0 n g c T U O A B f I W u1 wi UB UY DF FS qQ jF sC)) (t:=need [UJ (KI n g),UJ (WE c T U O A B f I W u1 wi),UJ (n:Int),(0:Int)=((0:Nat):Int)] (branch (decide (HJ (λk=> !keP c f wi I (g k)) n<n)) (leaf (RV.x (.int .i64 (↑(HJ (λk=> !keP c f wi I (g k)) n):Int)))) (leaf (RV.x (.int .i64 (-1:Int)))))) UD ?_
 exact VT
end
def Zc6:GM
 |[.lst 1 n g,.fn (.func 138) [] [.ro [.fn (.func 96) [] [.ro [.roI [.x (.int .i64 c),.x (.int .i64 T),.x (.int .i64 U),.x (.int .i64 O),A,B] 26 f 0],.ro [.x (.int .i64 I)],.ro [.x (.int .i64 W),.x (.int .i64 u1),.x (.int .i64 wi)]]]]]=>some ([G0 1 n g,n<=100000,drB f,bdB f,1<=c/\c<=10,0<=I/\I<=100000,0<=wi/\wi<=1000000,∀j,j<n->0<=col 0 g j/\col 0 g j<=10],i (if HJ ((λk=> !(keP c f wi I (col 0 g k)))) n<n then (HJ ((λk=> !(keP c f wi I (col 0 g k)))) n:Int) else -1))
 |_=>none
theorem Zi8:UA U8 172 Zc6:=by
 refine ⟨(UZ Tryz.func172),?_⟩;intro avs ns res h S;unfold Zc6 at h;split at h;cases h;have hr:G0 1 _ _:=S _ (H0);exact (Zi9 _ (col 0 _) _ _ _ _ _ _ _ _ _ _ _ (S _ UE) (S _ UE) (S _ UE) (S _ UE) (S _ UE) (S _ UE) (S _ UE)).same (.cons (.lst 1 _ _ _ hr) (.cons (.refl _) .nil));cases h
theorem Zw9(n:Nat)(g:Cg)(c T U O:Int)(A B:AV)(f:Cg)(I W u1 wi:Int)(UB:n<=100000)(UY:drB f)(DF:bdB f)(FS:1<=c/\c<=10)(qQ:0<=I/\I<=100000)(jF:0<=wi/\wi<=1000000)(sC: ∀j,j<n->0<=g j/\g j<=10):UH U8 137 [.lst 1 n (λk=>[i (g k)]),.fn (.func 138) [] [.ro [.fn (.func 96) [] [.ro [.roI [i c,i T,i U,i O,A,B] 26 f 0],.ro [i I],.ro [i W,i u1,i wi]]]]] (bl (!F1 (λk=>keP c f wi I (g k)) n)):=by
 refine UL (L:=[]) (Ae Zi8 Aa) UI Tryz.func137 (GF Tryz.f137) UN (t:=need [G0 1 n λk=>[i (g k)],n<=100000,drB f,bdB f,(1:Int)<=c/\c<=10,(0:Int)<=I/\I<=100000,(0:Int)<=wi/\wi<=1000000,∀(j:Nat),j<n->(0:Int)<=g j/\g j<=10] (leaf (RV.x (.bool (decide ((if HJ (λk=> !keP c f wi I (g k)) n<n then (↑(HJ (λk=> !keP c f wi I (g k)) n):Int) else (-1:Int))>=(0:Int))))))) UD ?_
 simp only [U6.sat,UU,GS,UX,G4];refine ⟨⟨λ_ _=>rfl,UB,UY,DF,FS,qQ,jF,sC⟩,?_⟩;rw [yL];have e:(λk=> !(λk=>keP c f wi I (g k)) k)=(λk=> !(keP c f wi I (g k))):=rfl;rw [e];show decide ((if HJ (λk=> !(keP c f wi I (g k))) n<n then (HJ (λk=> !(keP c f wi I (g k))) n:Int) else -1)>=0)=_
 have:=FI ((λk=> !(keP c f wi I (g k)))) n;split<;>simp<;>omega
def Zd2:GM
 |[.lst 1 n g,.fn (.func 138) [] [.ro [.fn (.func 96) [] [.ro [.roI [.x (.int .i64 c),.x (.int .i64 T),.x (.int .i64 U),.x (.int .i64 O),A,B] 26 f 0],.ro [.x (.int .i64 I)],.ro [.x (.int .i64 W),.x (.int .i64 u1),.x (.int .i64 wi)]]]]]=>some ([G0 1 n g,n<=100000,drB f,bdB f,1<=c/\c<=10,0<=I/\I<=100000,0<=wi/\wi<=1000000,∀j,j<n->0<=col 0 g j/\col 0 g j<=10],bl (!F1 (λk=>keP c f wi I (col 0 g k)) n))
 |_=>none
theorem Zw8:UA U8 137 Zd2:=by
 refine ⟨(UZ Tryz.func137),?_⟩;intro avs ns res h S;unfold Zd2 at h;split at h;cases h;have hr:G0 1 _ _:=S _ (H0);exact (Zw9 _ (col 0 _) _ _ _ _ _ _ _ _ _ _ _ (S _ UE) (S _ UE) (S _ UE) (S _ UE) (S _ UE) (S _ UE) (S _ UE)).same (.cons (.lst 1 _ _ _ hr) (.cons (.refl _) .nil));cases h
theorem Xv2(n:Nat)(g:Cg)(c T U O:Int)(A B:AV)(f:Cg)(I W u1 wi:Int)(UB:n<=100000)(UY:drB f)(DF:bdB f)(FS:1<=c/\c<=10)(qQ:0<=I/\I<=100000)(jF:0<=wi/\wi<=1000000)(sC: ∀j,j<n->0<=g j/\g j<=10):UH U8 93 [.lst 1 n (λk=>[i (g k)]),.fn (.func 96) [] [.ro [.roI [i c,i T,i U,i O,A,B] 26 f 0],.ro [i I],.ro [i W,i u1,i wi]]] (bl (F1 (λk=>keP c f wi I (g k)) n)):=by
 refine UL (L:=[]) (Ae Zw8 Aa) UI Tryz.func93 (GF Tryz.f93) UN (t:=need [G0 1 n λk=>[i (g k)],n<=100000,drB f,bdB f,(1:Int)<=c/\c<=10,(0:Int)<=I/\I<=100000,(0:Int)<=wi/\wi<=1000000,∀(j:Nat),j<n->(0:Int)<=g j/\g j<=10] (leaf (RV.x (.bool !!F1 (λk=>keP c f wi I (g k)) n)))) UD ?_;simp only [U6.sat,UU,GS,UX,G4];refine ⟨⟨λ_ _=>rfl,UB,UY,DF,FS,qQ,jF,sC⟩,?_⟩;show (!!F1 (λk=>keP c f wi I (g k)) n)=_
 simp
def Xf0:GM
 |[.lst 1 n g,.fn (.func 96) [] [.ro [.roI [.x (.int .i64 c),.x (.int .i64 T),.x (.int .i64 U),.x (.int .i64 O),A,B] 26 f 0],.ro [.x (.int .i64 I)],.ro [.x (.int .i64 W),.x (.int .i64 u1),.x (.int .i64 wi)]]]=>some ([G0 1 n g,n<=100000,drB f,bdB f,1<=c/\c<=10,0<=I/\I<=100000,0<=wi/\wi<=1000000,∀j,j<n->0<=col 0 g j/\col 0 g j<=10],bl (F1 (λk=>keP c f wi I (col 0 g k)) n))
 |_=>none
theorem Xv1:UA U8 93 Xf0:=by
 refine ⟨(UZ Tryz.func93),?_⟩;intro avs ns res h S;unfold Xf0 at h;split at h;cases h;have hr:G0 1 _ _:=S _ (H0);exact (Xv2 _ (col 0 _) _ _ _ _ _ _ _ _ _ _ _ (S _ UE) (S _ UE) (S _ UE) (S _ UE) (S _ UE) (S _ UE) (S _ UE)).same (.cons (.lst 1 _ _ _ hr) (.cons (.refl _) .nil));cases h
def cV:GM
 |[.x (.int .i64 p),.x (.int .i64 q)]=>some ([],.fn (.func 140) [] [.ro [i p],.ro [i q]])
 |_=>none
abbrev XW(p:Int)(q:Int):AV:=AV.fn (Fn.func 140) [] [AV.ro [iI p],AV.ro [iI q]]
abbrev KA:Ext:={}
theorem Wn1(p q:Int):RB U8 95 [i p,i q] (.fn (.func 140) [] [.ro [i p],.ro [i q]]):=by
 refine DL (L:=[]) Aa Ad UI Tryz.func95 (GF Tryz.f95) GN (t:=leaf (XW p q)) UD ?_;exact rfl
theorem rE:PS U8 95 cV:=by
 refine ⟨(UZ Tryz.func95),?_⟩;intro avs ns res h S;unfold cV at h;split at h;cases h;exact Wn1 _ _;cases h
section
variable (l:Nat)
abbrev YG:AV:=AV.fn (Fn.yield l) [] []
def Xj4(p q:Int):St:={σ:=[YG l,AV.ro [iI p],AV.ro [iI q]]++D6 12 [],m:=[],nx:=2,gh:=some 0}
noncomputable def Jc3:Code:=UT (UC (UP Tryz.f140) 0)
def bS(p q:Int)(j:Nat):St:={σ:=HI [(4,i (p+j))] (Xj4 l p q).σ,m:=[],nx:=0,gh:=some (j) }
def kX(p q:Int)(j:Nat):GR->Option St
 | .exit 0=>some {σ:=HI [] (Xj4 l p q).σ,m:=[],nx:=0,gh:=some ((q-p+1).toNat) }
 | .ret=>some {σ:=HI [] (Xj4 l p q).σ,m:=[],nx:=0,gh:=none}
 |_=>none
def Jv5(p q:Int):CT:= .may True (.leaf (.exit 0,(kX l p q 0 (.exit 0)).getD (Xj4 l p q))) (.leaf (.ret,(kX l p q 0 .ret).getD (Xj4 l p q)))
def Zf5(p q:Int):G5:=H4 [] (D1 (bS l p q (0)) (Jv5 l p q))
theorem Jl9(p q:Int)(UB: -1000000<=p/\p<=1000000)(UY: -1000000<=q/\q<=1000000){cx:Cx}(hX:UG U8 {Y:=some (l,((q-p+1).toNat),(mkV p)) } cx):D7 U8 none cx (.loop Jc3) (Zf5 l p q):=by
 refine FQ [] (L:=[]) Aa hX UI GN (V:=Nat) (bS l p q) (λj=>j<=((q-p+1).toNat)) (λj=>((q-p+1).toNat)-j) (kX l p q) (x0:=0) UE ?_ ?_ ?_;rintro j;kernel_rfl;rintro j y E h;unfold kX at h;split at h;cases h;kernel_rfl;cases h;kernel_rfl;cases h
 ·rintro Q hQ j hx;refine ⟨(j+1),?_⟩;have e:DA U8 [] {Y:=some (l,((q-p+1).toNat),(mkV p)) } [] [] Jc3 (bS l p q j) (bS l p q ((j+1))) (kX l p q j)=(branch (decide (p+(j:Int)<=q)) (need [l=l,j<(q-p+1).toNat,UJ ([Value.int IntKind.i64 (p+(j:Int))])] (U6.may True (need [U5 (p+(j:Int)+1)] (need [YG l=YG l,UJ (AV.ro [iI p]),UJ (AV.ro [iI q]),p+(j:Int)+1=p+(↑(j+1):Int),j+1=j+1] (leaf GR.normal))) (need [YG l=YG l,UJ (AV.ro [iI p]),UJ (AV.ro [iI q])] (leaf GR.ret)))) (need [YG l=YG l,UJ (AV.ro [iI p]),UJ (AV.ro [iI q]),j=(q-p+1).toNat] (leaf (GR.exit 0)))):=UD;rw [e];simp only [Jv5,kX,U6.sat,HF] at hQ;have hQ1: ∀E,kX l p q j (.exit 0)=some E->Q (.exit 0,E):=λE hE=>by cases hE;exact hQ.1 trivial
  have hQ2: ∀E,kX l p q j .ret=some E->Q (.ret,E):=λE hE=>by cases hE;exact hQ.2
  simp only [U6.sat,UU,G4,HU,U5,FA];clear e hQ;all_goals exact VM
end
theorem IU(p q:Int)(UB: -1000000<=p/\p<=1000000)(UY: -1000000<=q/\q<=1000000):BF Tryz.prog 140 [.ro [i p],.ro [i q]] (((q-p+1).toNat)) (mkV p):=by
 refine B5 (L:=λl=>[Zf5 l p q]) Aa UI (UZ Tryz.func140) Tryz.func140 (GF Tryz.f140) UD (λl cx hX=>GJ (lpE (b:= .loop Jc3) UD<|Jl9 l p q UB UY hX)) (t:=λl=>(need [UJ (AV.fn (Fn.yield l) [] []),UJ (AV.ro [iI p]),UJ (AV.ro [iI q]),p=p+((0:Nat):Int),0=0] (U6.may True (need [UJ (q-p+1).toNat] (leaf PUnit.unit)) (leaf PUnit.unit)))) (λl=>UD) ?_
 intro l;simp only [U6.sat,UU,GS,H6,UX,U5,G4,HU,RW];all_goals exact VM
theorem cat1{p:Int}{k j:Nat}(h:j<k+1):GX k (λj=>[i (p+j)]) (UO 1 [i (p+k)]) j=[i (p+j)]:=by
 show HX (decide (j<k)) [i (p+j)] (UO 1 [i (p+k)] (j-k))=_;rw [show j-k=0 by omega]
 by_cases hj:j<k;rw [decide_eq_true hj];rfl;obtain rfl:j=k:=U3;rw [decide_eq_false hj];rfl
abbrev ZB:AV:=AV.x (.slice none 0 0)
section
variable (p q:Int)
def Jy4:St:={σ:=[ZB,XW p q,ptr 0 0,top,ZB,top,XW p q]++D6 6 [],m:=[(900,H9.row 3 1 0 λx=>[]),(0,H9.cells 22 [AV.row 900])],nx:=901}
def rfF:Option Code->Operand
 |some (.rangeFunc f _ _ _)=>f
 |_=> .const .nilFunc
def xP:Option Code->Array Nat
 |some (.rangeFunc _ ps _ _)=>ps
 |_=>#[]
def EE:Option Code->Code
 |some (.rangeFunc _ _ a _)=>a
 |_=> .skip
def ED:Option Code->Code
 |some (.rangeFunc _ _ _ b)=>b
 |_=> .skip
noncomputable def Kc4:Code:=EE (UC (UP Tryz.f139) 0)
noncomputable def Kb7:Code:=ED (UC (UP Tryz.f139) 0)
def tK(k:Nat):St:={σ:=HI [] (Jy4 p q).σ,m:=[(900,.row 3 1 k (λj=>[i (p+j)])),(0,.cells 22 [.row 900])],nx:=901}
def sJ(k:Nat):GR->Option St
 | .normal=>some {σ:=HI [] (Jy4 p q).σ,m:=[(900,.row 3 1 ((q-p+1).toNat) (λj=>[i (p+j)])),(0,.cells 22 [.row 900])],nx:=901}
 |_=>none
def T_as:CT:= .leaf (.normal,tK p q ((q-p+1).toNat))
def Zh7:G5:=H4 [(.cell 0 0,900,3,1)] (D1 (tK p q (0)) (T_as p q))
abbrev KS:Prop:=ptr 0 0=ptr 0 0
theorem Jt2(UB: -1000000<=p/\p<=1000000)(UY: -1000000<=q/\q<=1000000):D3 U8 (.rangeFunc (rfF (UC (UP Tryz.f139) 0)) (xP (UC (UP Tryz.f139) 0)) Kc4 Kb7) (Zh7 p q):=by
 refine L4 [(.cell 0 0,900,3,1)] (L:=[]) Aa Ad UI UN (V:=Nat) (tK p q) (λk=>k<=((q-p+1).toNat)) (λk=>k) (sJ p q) (x0:=0) UE rfl ?_ ?_ ?_ ?_ (g:=140) (caps:=[.ro [i p],.ro [i q]]) UD UD (IU p q UB UY) (λ_=>rfl) ?_;rintro k;kernel_rfl;rintro k y E h;unfold sJ at h;split at h;cases h;kernel_rfl;cases h;rintro k;rfl;rintro k y E h;unfold sJ at h;split at h;cases h;rfl;cases h;rintro Q hQ k hx;refine ⟨λhlt=>⟨(k+1),rfl,?_⟩,λB0=>?_⟩;(with_reducible refine F4 (t:=need [(k+1)*8<=140737488355328,L0 1 (UO 1 [iI (p+(k:Int))])] (need [ZB=ZB,UJ (XW p q),KS,ZB=ZB,UJ (XW p q),k+1=k+1,HH (k+1) (GX k (λj=>[iI (p+(j:Int))]) (UO 1 [iI (p+(k:Int))])) (λi=>[iI (p+(i:Int))]),UJ (AV.row 900)] (leaf GR.normal))) UD ?_)
 simp only [U6.sat,UU,G4]
 refine ⟨⟨U3,λj hj a ha=>FK ha (by simp [AV.one,Value.oneCell'])⟩,λj hj=>?_,U3⟩
 exact cat1 hj;subst B0;exact hQ
end
def mkF(p:Int)(j:Nat):List AV:=[i (p+j)]
theorem Wa3(p q:Int)(UB: -1000000<=p/\p<=1000000)(UY: -1000000<=q/\q<=1000000):UH U8 139 [.x (.slice none 0 0),.fn (.func 140) [] [.ro [i p],.ro [i q]]] (.lst 1 ((q-p+1).toNat) (mkF p)):=by
 refine GW (L:=[Zh7 p q]) Aa Ad UI Tryz.func139 (GF Tryz.f139) (GJ (lpE (b:= .rangeFunc (rfF (UC (UP Tryz.f139) 0)) (xP (UC (UP Tryz.f139) 0)) Kc4 Kb7) UD<|Jt2 p q UB UY)) (t:=need [ZB=ZB,UJ (XW p q),KS,ZB=ZB,UJ (XW p q),0=0,∀(i:Nat),i<0->[]=[iI (p+(i:Int))],UJ (AV.row 900)] (leaf (RV.lst 1 (q-p+1).toNat λj=>[iI (p+(j:Int))]))) UD ?_
 simp only [U6.sat,UU,GS,H6,UX,G4]
 (with_reducible repeat' first|apply Al|intro _)
 all_goals first|exact Ak|omega|with_reducible rfl|assumption|rfl|(rename_i h;exact absurd h (Aq _))|(rename_i hm;cases BE.1 hm;exact Ak)|skip
def oJ:GM
 |[.x (.slice none 0 0),.fn (.func 140) [] [.ro [.x (.int .i64 p)],.ro [.x (.int .i64 q)]]]=>some ([-1000000<=p/\p<=1000000,-1000000<=q/\q<=1000000],.lst 1 ((q-p+1).toNat) (mkF p))
 |_=>none
theorem Wa2:UA U8 139 oJ:=by
 refine ⟨(UZ Tryz.func139),?_⟩;intro avs ns res h S;unfold oJ at h;split at h;cases h;exact Wa3 _ _ (S _ UE) (S _ UE);cases h
def TQ:GM
 |[.fn (.func 140) [] [.ro [.x (.int .i64 p)],.ro [.x (.int .i64 q)]]]=>some ([-1000000<=p/\p<=1000000,-1000000<=q/\q<=1000000],.lst 1 ((q-p+1).toNat) (mkF p))
 |_=>none
theorem Qb1(p q:Int)(UB: -1000000<=p/\p<=1000000)(UY: -1000000<=q/\q<=1000000):RB U8 94 [.fn (.func 140) [] [.ro [i p],.ro [i q]]] (.lst 1 ((q-p+1).toNat) (mkF p)):=by
 refine DL (L:=[]) (Ae Wa2 Aa) Ad UI Tryz.func94 (GF Tryz.f94) GN (t:=need [(-1000000:Int)<=p/\p<=1000000,(-1000000:Int)<=q/\q<=1000000] (leaf (lst 1 (q-p+1).toNat λj=>[iI (p+(j:Int))]))) UD ?_;simp only [U6.sat,UU,G4];exact ⟨⟨UB,UY⟩,rfl,rfl,λ_ _=>rfl⟩
theorem nG:PS U8 94 TQ:=by
 refine ⟨(UZ Tryz.func94),?_⟩;intro avs ns res h S;unfold TQ at h;split at h;cases h;exact Qb1 _ _ (S _ UE) (S _ UE);cases h
def keB(c:Int)(f:Cg)(W u1 wi I:Int):Bool:=F1 (λk=>keP c f wi I (W+k)) (u1-W+1).toNat
def Xe2:GM
 |[.roI [.x (.int .i64 c),.x (.int .i64 T),.x (.int .i64 U),.x (.int .i64 O),A,B] 26 f 0,.agg [.x (.int .i64 W),.x (.int .i64 u1),.x (.int .i64 wi)],.x (.int .i64 I)]=>some ([drB f,bdB f,1<=c/\c<=10,0<=W/\W<=u1/\u1<=10,0<=wi/\wi<=1000000,0<=I/\I<=100000],bl (keB c f W u1 wi I))
 |_=>none
theorem Xo8(c T U O:Int)(A B:AV)(f:Cg)(W u1 wi I:Int)(UB:drB f)(UY:bdB f)(DF:1<=c/\c<=10)(FS:0<=W/\W<=u1/\u1<=10)(qQ:0<=wi/\wi<=1000000)(jF:0<=I/\I<=100000):UH U8 59 [.roI [i c,i T,i U,i O,A,B] 26 f 0,.agg [i W,i u1,i wi],i I] (bl (keB c f W u1 wi I)):=by
 refine GW (L:=[]) (Ae Xv1 Aa) (Ai (Af rE (Af nG Ab)) Ac) UI Tryz.func59 (GF Tryz.f59) GN (t:=need [(-1000000:Int)<=W/\W<=1000000,(-1000000:Int)<=u1/\u1<=1000000] (need [G0 1 (u1-W+1).toNat (mkF W),(u1-W+1).toNat<=100000,drB f,bdB f,(1:Int)<=c/\c<=10,(0:Int)<=I/\I<=100000,(0:Int)<=wi/\wi<=1000000,∀(j:Nat),j<(u1-W+1).toNat->(0:Int)<=col 0 (mkF W) j/\col 0 (mkF W) j<=10] (leaf (RV.x (.bool (F1 (λk=>keP c f wi I (col 0 (mkF W) k)) (u1-W+1).toNat)))))) UD ?_;simp only [U6.sat,UU,GS,H6,UX,G4,keB];refine ⟨⟨U3,U3⟩,⟨λk hk=>rfl,U3,UB,UY,DF,jF,qQ,λj hj=>?_⟩,rfl⟩;show 0<=W+(j:Int)/\W+(j:Int)<=10;omega
theorem Xo7:UA U8 59 Xe2:=by
 refine ⟨(UZ Tryz.func59),?_⟩;intro avs ns res h S;unfold Xe2 at h;split at h;cases h;exact Xo8 _ _ _ _ _ _ _ _ _ _ _ (S _ UE) (S _ UE) (S _ UE) (S _ UE) (S _ UE) (S _ UE);cases h
end Go.Proofs.YtakpdkmhclhlnaaGreatDoor
namespace Go.Proofs.YtakpdkmhclhlnaaGreatDoor.Bo
open Go Go.Sx Go.RowKit
open Go.Sx.U6 (need branch leaf)
open Go.Sx.AV (lst ptr agg roI tup top)
def Tr(c:Nat)(T U O:Int)(n:Nat)(a b u v:Cg)(h:Cg):Prop:=
 h 0=0/\h c=T/\(∀k,k<c->U<=h (k+1)-h k/\h (k+1)-h k<=O)/\ ∀j,j<n->h (b j).toNat-h (a j).toNat<=v j/\(b j<c->u j+1<=h (b j+1).toNat-h (a j).toNat)
def ob(c:Nat)(M:Nat->Cg)(h:Cg):Prop:= ∀x y,x<=c->y<=c->h y-h x<=M x y
theorem y6{c:Nat}{M:Nat->Cg}{h:Cg}{p q:Nat}{v:Int}(hp:p<=c)(hq:q<=c):ob c (bnd M p q v) h↔ob c M h/\h q-h p<=v:=by
 constructor;intro k;refine ⟨λx y hx hy=>Bx (k x y hx hy) (xT _ _ _ _ _ _),Bx (k p q hp hq) (cK _ _ _ _)⟩;rintro ⟨k1,k2⟩ x y hx hy;have h1:=k1 x y hx hy;unfold bnd z9;split;rename_i e;rw [e.1,e.2] at h1 ⊢;omega;exact h1
theorem Xo0{c:Nat}{M N:Nat->Cg}{h:Cg}(hm: ∀x y,M x y<=N x y)(k:ob c M h):ob c N h:=λx y hx hy=>Bx (k x y hx hy) (hm x y)
theorem Zv8(M:Nat->Cg)(o f t x y:Nat):fwS M o f t x y<=M x y:=xT _ _ _ _ _ _
theorem Wx7(M:Nat->Cg)(o f:Nat): ∀t x y,fwT M o f t x y<=M x y
 | 0,_,_=>Int.le_refl _
 |t+1,x,y=>Bx (Zv8 _ _ _ _ _ _) (Wx7 M o f t x y)
theorem Wy0(c:Nat)(M:Nat->Cg)(o:Nat): ∀f x y,fwF c M o f x y<=M x y
 | 0,_,_=>Int.le_refl _
 |f+1,x,y=>Bx (Wx7 _ _ _ _ _ _) (Wy0 c M o f x y)
theorem Xr6(c:Nat)(M:Nat->Cg)(o x y:Nat):fwO c M (o+1) x y<=fwO c M o x y:=Wy0 _ _ _ _ _ _
theorem bZ(c:Nat)(M:Nat->Cg)(o:Nat): ∀d x y,fwO c M (o+d) x y<=fwO c M o x y
 | 0,_,_=>Int.le_refl _
 |d+1,x,y=>Bx (Xr6 c M (o+d) x y) (bZ c M o d x y)
theorem Wx9(c:Nat)(M:Nat->Cg)(o x y:Nat):fwO c M o x y<=M x y:=by
 have:=bZ c M 0 o x y
 rwa [Ap] at this
theorem Jl5{c:Nat}{M:Nat->Cg}{h:Cg}{o f:Nat}(ho:o<=c)(hf:f<=c)(k:ob c M h): ∀t,t<=c+1->ob c (fwT M o f t) h
 | 0,_=>k
 |t+1,ht=>by
  have ih:=Jl5 ho hf k t U3;refine (y6 hf U3).2 ⟨ih,?_⟩;have h1:=ih f o hf ho;have h2:=ih o t ho U3;omega
theorem Jl7{c:Nat}{M:Nat->Cg}{h:Cg}{o:Nat}(ho:o<=c)(k:ob c M h): ∀f,f<=c+1->ob c (fwF c M o f) h
 | 0,_=>k
 |f+1,hf=>Jl5 ho U3 (Jl7 ho k f U3) (c+1) (Am _)
theorem Jl6{c:Nat}{M:Nat->Cg}{h:Cg}(k:ob c M h): ∀o,o<=c+1->ob c (fwO c M o) h
 | 0,_=>k
 |o+1,ho=>Jl7 U3 (Jl6 k o U3) (c+1) (Am _)
theorem Wx8{c:Nat}{M N:Nat->Cg}{o f:Nat}(h0:0<=M o o)(hN: ∀x y,N x y=if x<f/\y<=c then min (M x y) (M x o+M o y) else M x y): ∀t,t<=c+1-> ∀x y,fwT N o f t x y=if (x<f/\y<=c)\/(x=f/\y<t) then min (M x y) (M x o+M o y) else M x y
 | 0,_,x,y=>by
  show N x y=_;rw [hN];by_cases h:x<f/\y<=c;rw [if_pos h,if_pos (.inl h)];rw [if_neg h,if_neg U3]
 |t+1,ht,x,y=>by
  have ih:=Wx8 h0 hN t U3;show bnd (fwT N o f t) f t (fwT N o f t f o+fwT N o f t o t) x y=_;have e1:fwT N o f t f o=M f o:=by
   rw [ih];split<;>omega
  have e2:fwT N o f t o t=M o t:=by
   rw [ih];split<;>omega
  have e3:fwT N o f t f t=M f t:=by
   rw [ih,if_neg U3]
  unfold bnd z9;rw [e1,e2,e3];by_cases hxy:x=f/\y=t;rw [if_pos hxy,if_pos U3,hxy.1,hxy.2];rw [if_neg hxy,ih];by_cases h:(x<f/\y<=c)\/(x=f/\y<t);rw [if_pos h,if_pos U3];rw [if_neg h,if_neg U3]
theorem Wy1{c:Nat}{M:Nat->Cg}{o:Nat}(h0:0<=M o o): ∀f x y,fwF c M o f x y=if x<f/\y<=c then min (M x y) (M x o+M o y) else M x y
 | 0,x,y=>by
  rw [if_neg U3];rfl
 |f+1,x,y=>by
  show fwT (fwF c M o f) o f (c+1) x y=_;rw [Wx8 h0 (Wy1 h0 f) (c+1) (Am _)];by_cases h:(x<f/\y<=c)\/(x=f/\y<c+1);rw [if_pos h,if_pos U3];rw [if_neg h,if_neg U3]
theorem MH{c:Nat}{M:Nat->Cg}: ∀k,k<=c+1->(∀o,o<k->0<=fwO c M o o o)-> ∀p x y,p<k->x<=c->y<=c->fwO c M k x y<=fwO c M k x p+fwO c M k p y
 | 0,_,_,p,x,y,hp,_,_=>absurd hp (Aq _)
 |k+1,hk,hd,p,x,y,hp,hx,hy=>by
  have ih:=MH k U3 (λo ho=>hd o U3);have h0:=hd k U3;have eq:=Wy1 (c:=c) h0 (c+1);show fwF c (fwO c M k) k (c+1) x y<=fwF c (fwO c M k) k (c+1) x p+fwF c (fwO c M k) k (c+1) p y;rw [eq x y,eq x p,eq p y,if_pos U3,if_pos U3,if_pos U3];rcases (show p=k\/p<k by omega) with rfl|hpk
  omega;have i1:=ih p x y hpk hx hy;have i2:=ih p x k hpk hx U3;have i3:=ih p k y hpk U3 hy;have i4:=ih p k k hpk U3 U3;omega
theorem Zr8{c:Nat}{h:Cg}:ob c (ini c (c+1) 0) h↔ ∀x y,x<=c->y<=c->h y-h x<=2000:=by
 constructor;intro k x y hx hy;have:=k x y hx hy;unfold ini at this;split at this<;>omega;intro k x y hx hy;unfold ini;by_cases e:x=y;subst e;rw [if_neg U3];omega;rw [if_pos U3];exact k x y hx hy
theorem Wl8{c:Nat}{U O:Int}{h:Cg}: ∀k,k<=c->(ob c (cel c U O k) h↔ob c (ini c (c+1) 0) h/\ ∀j,j<k->U<=h (j+1)-h j/\h (j+1)-h j<=O)
 | 0,_=>⟨λk=>⟨k,λj hj=>absurd hj (Aq _)⟩,λk=>k.1⟩
 |k+1,hk=>by
  have ih:=Wl8 (c:=c) (U:=U) (O:=O) (h:=h) k U3;show ob c (bnd (bnd (cel c U O k) k (k+1) O) (k+1) k (-U)) h↔_;rw [y6 U3 U3,y6 U3 U3,ih];constructor;rintro ⟨⟨⟨h1,h2⟩,h3⟩,h4⟩;refine ⟨h1,λj hj=>?_⟩;rcases (show j<k\/j=k by omega) with h|rfl
  exact h2 j h;omega;rintro ⟨h1,h2⟩;have h3:=h2 k U3;exact ⟨⟨⟨h1,λj hj=>h2 j U3⟩,U3⟩,U3⟩
def pZ(c:Nat)(n:Nat)(a b u v:Cg):Prop:= ∀j,j<n->(0<=a j/\a j<=(c:Int)-1)/\(a j<=b j/\b j<=c)/\0<=u j/\u j<=v j/\v j<=2000
theorem Za8{c:Nat}{T U O:Int}{a b u v:Cg}{h:Cg}: ∀n,pZ c n a b u v->(ob c (rdM c T U O a b u v n) h↔ob c (cel c U O c) h/\h c-h 0=T/\ ∀j,j<n->h (b j).toNat-h (a j).toNat<=v j/\(b j<c->u j+1<=h (b j+1).toNat-h (a j).toNat))
 | 0,_=>by
  show ob c (bnd (bnd (cel c U O c) 0 c T) c 0 (-T)) h↔_;rw [y6 U3 U3,y6 U3 U3];constructor;rintro ⟨⟨h1,h2⟩,h3⟩;exact ⟨h1,U3,λj hj=>absurd hj (Aq _)⟩;rintro ⟨h1,h2,_⟩;exact ⟨⟨h1,U3⟩,U3⟩
 |n+1,hr=>by
  have ih:=Za8 (c:=c) (T:=T) (U:=U) (O:=O) (a:=a) (b:=b) (u:=u) (v:=v) (h:=h) n (λj hj=>hr j U3);have S:=hr n U3;have key:ob c (rdM c T U O a b u v (n+1)) h↔ob c (rdM c T U O a b u v n) h/\h (b n).toNat-h (a n).toNat<=v n/\(b n<c->u n+1<=h (b n+1).toNat-h (a n).toNat):=by
   show ob c (rdS c (rdM c T U O a b u v n) _ _ _ _) h↔_;unfold rdS;split;rename_i hb;rw [y6 U3 U3,y6 U3 U3];constructor;rintro ⟨⟨h1,h2⟩,h3⟩;exact ⟨h1,h2,λ_=>U3⟩;rintro ⟨h1,h2,h3⟩;have:=h3 hb;exact ⟨⟨h1,h2⟩,U3⟩;rename_i hb;rw [y6 U3 U3];constructor;rintro ⟨h1,h2⟩;exact ⟨h1,h2,λh=>absurd h hb⟩;rintro ⟨h1,h2,_⟩;exact ⟨h1,h2⟩
  rw [key,ih];constructor;rintro ⟨⟨h1,h2,h3⟩,h4⟩;refine ⟨h1,h2,λj hj=>?_⟩;rcases (show j<n\/j=n by omega) with h|rfl
  exact h3 j h;exact h4;rintro ⟨h1,h2,h3⟩;exact ⟨⟨h1,h2,λj hj=>h3 j U3⟩,h3 n U3⟩
theorem OQ{U:Int}{h:Cg}{c:Nat}(hl:0<=U)(hs: ∀k,k<c->U<=h (k+1)-h k)(x:Nat): ∀d,x+d<=c->h x<=h (x+d)
 | 0,_=>Int.le_refl _
 |d+1,hd=>by
  have ih:=OQ hl hs x d U3;have:=hs (x+d) U3;rw [←Ba];omega
theorem Jf9{c:Nat}{T U O:Int}{n:Nat}{a b u v:Cg}{h:Cg}(hb:1<=U/\U<=O/\O<=200/\1<=T/\T<=2000)(hr:pZ c n a b u v)(h0:h 0=0):Tr c T U O n a b u v h↔ob c (rdM c T U O a b u v n) h:=by
 rw [Za8 n hr,Wl8 c (Am _),Zr8];constructor;rintro ⟨_,h1,h2,h3⟩;refine ⟨⟨λx y hx hy=>?_,h2⟩,U3,h3⟩;have m:=λx d=>OQ (U:=U) (h:=h) (c:=c) U3 (λk hk=>(h2 k hk).1) x d;have m1:=m 0 x U3;have m2:=m y (c-y) U3;rw [Ap] at m1;rw [show y+(c-y)=c by omega] at m2
 omega;rintro ⟨⟨_,h2⟩,h3,h4⟩;exact ⟨h0,U3,h2,h4⟩
theorem Xn1{c:Int}{n:Nat}{a b u v:Cg}(hc:1<=c/\c<=10)(h:F1 (λk=>rdB c (a k) (b k) (u k) (v k)) n=true):pZ c.toNat n a b u v:=λj hj=>by
 have:=Za6 (HG.1 h j hj);omega
section
variable {c:Nat}{T U O:Int}
theorem Qh2{n:Nat}{a b u v:Cg}:okR c T U O n a b u v=true↔ ∀k,k<=c->0<=fwM c T U O n a b u v k k:=by
 unfold okR;rw [HG];constructor;intro h k hk;simpa using h k U3;intro h k hk;simpa using h k U3
theorem Wg1{n:Nat}{a b u v:Cg}{h:Cg}(hb:1<=U/\U<=O/\O<=200/\1<=T/\T<=2000)(hr:pZ c n a b u v)(h0:h 0=0):Tr c T U O n a b u v h↔ob c (fwM c T U O n a b u v) h:=by
 rw [Jf9 hb hr h0];exact ⟨λk=>Jl6 k (c+1) (Am _),λk=>Xo0 (λx y=>Wx9 c _ (c+1) x y) k⟩
theorem Jg2{n:Nat}{a b u v:Cg}{h:Cg}(hb:1<=U/\U<=O/\O<=200/\1<=T/\T<=2000)(hr:pZ c n a b u v)(k:Tr c T U O n a b u v h){x:Nat}(hx:x<=c): -(fwM c T U O n a b u v x 0)<=h x/\h x<=fwM c T U O n a b u v 0 x:=by
 have k1:=(Wg1 hb hr k.1).1 k;have h1:=k1 x 0 hx U3;have h2:=k1 0 x U3 hx;have:=k.1;omega
theorem SZ{n:Nat}{a b u v:Cg}(h:okR c T U O n a b u v=true){p x y:Nat}(hp:p<=c)(hx:x<=c)(hy:y<=c):fwM c T U O n a b u v x y<=fwM c T U O n a b u v x p+fwM c T U O n a b u v p y:=by
 refine MH (c+1) (Am _) (λo ho=>?_) p x y U3 hx hy;have h1:=Qh2.1 h o U3;have h2:=bZ c (rdM c T U O a b u v n) o (c+1-o) o o;rw [show o+(c+1-o)=c+1 by omega] at h2
 exact Bx h1 h2
theorem Zq5{a b u v:Cg}(n:Nat):rdM c T U O a b u v n 0 0<=0:=by
 have h1:=EL c T U O a b u v 0 n (Ao _) 0 0;have h2:rdM c T U O a b u v 0 0 0<=cel c U O c 0 0:=Bx (xT _ _ _ _ _ _) (xT _ _ _ _ _ _);have h3: ∀k,cel c U O k 0 0<=0:=by
  intro k
  induction k with
  |zero=>unfold cel ini;rw [if_neg U3];exact Int.le_refl _
  |succ k ih=>exact Bx (Bx (xT _ _ _ _ _ _) (xT _ _ _ _ _ _)) ih
 exact Bx h1 (Bx h2 (h3 c))
theorem Zb8{n:Nat}{a b u v:Cg}(h:okR c T U O n a b u v=true):fwM c T U O n a b u v 0 0=0:=by
 have h1:=Qh2.1 h 0 (Ao _);have h2:fwM c T U O n a b u v 0 0<=0:=Bx (Wx9 c _ (c+1) 0 0) (Zq5 n);omega
theorem Jg1{n:Nat}{a b u v:Cg}(hb:1<=U/\U<=O/\O<=200/\1<=T/\T<=2000)(hr:pZ c n a b u v)(h:okR c T U O n a b u v=true):Tr c T U O n a b u v (λk=>fwM c T U O n a b u v 0 k):=by
 refine (Wg1 hb hr (Zb8 h)).2 λx y hx hy=>?_;have:=SZ h hx (Ao _) hy;show fwM c T U O n a b u v 0 y-fwM c T U O n a b u v 0 x<=_;omega
theorem Jg0{n:Nat}{a b u v:Cg}(hb:1<=U/\U<=O/\O<=200/\1<=T/\T<=2000)(hr:pZ c n a b u v)(h:okR c T U O n a b u v=true):Tr c T U O n a b u v (λk=> -(fwM c T U O n a b u v k 0)):=by
 refine (Wg1 hb hr (by rw [Zb8 h];rfl)).2 λx y hx hy=>?_
 have:=SZ h hy hx (Ao _);show -(fwM c T U O n a b u v y 0)- -(fwM c T U O n a b u v x 0)<=_;omega
end
end Go.Proofs.YtakpdkmhclhlnaaGreatDoor.Bo
namespace Go.Proofs.YtakpdkmhclhlnaaGreatDoor
open Go Go.Sx Go.RowKit Bo
open Go.Sx.U6 (need branch leaf)
open Go.Sx.AV (lst ptr agg roI tup top)
def usB(c W u1 wi:Int):Bool:=bt 0 W u1&&decide (u1<=c)&&bt 0 wi 1000
section
variable (c T U O:Int)
def vaB(m:Nat)(p q:Cg)(pl ph dl dh:Int):Bool:=decide (Pt.blE m p q pl ph=0)&&wC c T U O&&insB 0 dl dh 100
def rdE(n:Nat)(a b u v:Cg)(m:Nat)(p q:Cg)(pl ph dl dh:Int):Int:=if n>12\/m>8 then 3 else if vaB c T U O m p q pl ph dl dh=true/\(eB c T U O n a b u v=0\/eB c T U O n a b u v=9) then eB c T U O n a b u v else 1
def bdL(n:Nat)(a b u v:Cg)(m:Nat)(p q:Cg)(pl ph:Int)(k:Nat):Int:=dnI (-(fwB c T U O n a b u v k 0)*Pt.boilI m p q pl) T
def bdH(n:Nat)(a b u v:Cg)(m:Nat)(p q:Cg)(pl ph:Int)(k:Nat):Int:=upI (fwB c T U O n a b u v 0 k*Pt.boilI m p q ph) T
end
def wkF(pl ph dl dh:Int)(L H:Cg)(k j:Nat):Int:=if j=0 then pl else if j=1 then ph else if j=2 then dl else if j=3 then dh else if j<4+2*k then (if j%2=0 then L ((j-4) / 2) else H ((j-4) / 2)) else 0
def wkA(c T U O:Int)(n:Nat)(a b u v:Cg)(m:Nat)(p q:Cg)(pl ph dl dh:Int):Cg:=wkF pl ph dl dh (bdL c T U O n a b u v m p q pl ph) (bdH c T U O n a b u v m p q pl ph) (c.toNat+1)
theorem Xl4{c W u1 wi:Int}:usB c W u1 wi=true↔(0<=W/\W<=u1)/\u1<=c/\0<=wi/\wi<=1000:=by
 simp only [usB,HV,yN,bt_iff,and_assoc]
theorem Xz5{c:Nat}{T U O:Int}{n:Nat}{a b u v:Cg}{h:Cg}(hl:0<=U)(k:Tr c T U O n a b u v h){x:Nat}(hx:x<=c):0<=h x/\h x<=T:=by
 obtain ⟨h0,h1,h2,_⟩:=k;have up: ∀y,y<=c->0<=h y:=by
  intro y
  induction y with
  |zero=>intro _;omega
  |succ y ih=>
   intro hy;have:=h2 y U3;have:=ih U3;omega
 have dn: ∀d,d<=c->h (c-d)<=T:=by
  intro d
  induction d with
  |zero=>intro _;rw [Nat.sub_zero,h1];exact Int.le_refl _
  |succ d ih=>
   intro hd;have:=h2 (c-(d+1)) U3;rw [show c-(d+1)+1=c-d by omega] at this
   have:=ih U3;omega
 refine ⟨up x hx,?_⟩;have:=dn (c-x) U3;rw [show c-(c-x)=x by omega] at this
 exact this
theorem Zb4{c T U O:Int}{n:Nat}{a b u v:Cg}(h:eB c T U O n a b u v=0){k:Nat}(hk:(k:Int)<=c):0<= -(fwB c T U O n a b u v k 0)/\ -(fwB c T U O n a b u v k 0)<=fwB c T U O n a b u v 0 k/\fwB c T U O n a b u v 0 k<=T:=by
 obtain ⟨h1,_,h3⟩:=dX.1 h;have hf:=vG.1 h1;have hb:=qO hf.1;have hr:=Xn1 hb.1 hf.2.2;have tl:=Jg0 hb.2.1 hr h3;have th:=Jg1 hb.2.1 hr h3;have g1:=Xz5 U3 tl (x:=k) U3;have g2:=Xz5 U3 th (x:=k) U3;have g3:=Jg2 hb.2.1 hr tl (x:=k) U3;unfold fwB;omega
theorem pG{c T U O:Int}{m:Nat}{p q:Cg}{pl ph dl dh:Int}:vaB c T U O m p q pl ph dl dh=true↔Pt.blE m p q pl ph=0/\wC c T U O=true/\0<=dl/\dl<=dh/\dh<=100:=by
 simp only [vaB,HV,yN,insB_iff,and_assoc]
theorem Wg9{m:Nat}{p q:Cg}{pl ph:Int}(h:Pt.blE m p q pl ph=0):(1<=Pt.boilI m p q pl/\Pt.boilI m p q pl<=2000)/\(1<=Pt.boilI m p q ph/\Pt.boilI m p q ph<=2000)/\Pt.boilI m p q pl<=Pt.boilI m p q ph/\Pt.blLo m p q pl ph=Pt.boilI m p q pl/\Pt.blHi m p q pl ph=Pt.boilI m p q ph:=by
 obtain ⟨h1,h2,h3,h4,h5,h6⟩:=Pt.blE_ok h;have a1:=Pt.boil_spec (x:=pl) h1 h3 U3;have a2:=Pt.boil_spec (x:=ph) h1 h3 U3;have a3:=Pt.boil_mono h1 h3 h4 h5 h6;exact ⟨U3,U3,a3,if_pos h,if_pos h⟩
theorem Qg4{x y X Y:Int}(hx:0<=x/\x<=X)(hy:0<=y/\y<=Y):0<=x*y/\x*y<=X*Y:=by
 have h1:=Bz hx.1 hy.1;have h2:=Int.mul_le_mul hx.2 hy.2 hy.1 (show 0<=X by omega)
 omega
theorem Zm0(c T U O:Int)(n:Nat)(a b u v:Cg)(m:Nat)(p q:Cg)(pl ph dl dh W u1 wi:Int):UH U8 91 [.agg [i c,i T,i U,i O,rds n a b u v,Pt.scs m p q,i pl,i ph,i dl,i dh],.agg [i W,i u1,i wi]] (bl (usB c W u1 wi)):=by
 refine UL (L:=[]) (Ae LA Aa) UI Tryz.func91 (GF Tryz.f91) UN (t:=branch (bt (0:Int) W u1) (branch (decide (u1<=c)) (leaf (RV.x (.bool (bt (0:Int) wi (1000:Int))))) (leaf (RV.x (Y5)))) (leaf (RV.x (Y5)))) UD ?_;simp only [U6.sat,UU,GS,H6,UX,G4];all_goals (simp+contextual [usB,Bool.and_assoc]);all_goals omega
def Zc7:GM
 |[.agg [.x (.int .i64 c),.x (.int .i64 T),.x (.int .i64 U),.x (.int .i64 O),.lst 4 n fr,.lst 2 m ft,.x (.int .i64 pl),.x (.int .i64 ph),.x (.int .i64 dl),.x (.int .i64 dh)],.agg [.x (.int .i64 W),.x (.int .i64 u1),.x (.int .i64 wi)]]=>some ([G0 4 n fr,G0 2 m ft],bl (usB c W u1 wi))
 |_=>none
theorem Zl9:UA U8 91 Zc7:=by
 refine ⟨(UZ Tryz.func91),?_⟩;intro avs ns res h S;unfold Zc7 at h;split at h;cases h;have hr:G0 4 _ _:=S _ H0;have ht:G0 2 _ _:=S _ (DB _ H0);exact (Zm0 _ _ _ _ _ _ _ _ _ _ _ _ _ _ _ _ _ _ _).same (.cons (PM.same (.cons (.refl _) (.cons (.refl _) (.cons (.refl _) (.cons (.refl _) (.cons (.lst 4 _ _ _ hr) (.cons (.lst 2 _ _ _ ht) (.cons (.refl _) (.cons (.refl _) (.cons (.refl _) (.cons (.refl _) .nil))))))))))) (.cons (.refl _) .nil));cases h
theorem Wf5(c T U O:Int)(n:Nat)(a b u v:Cg)(m:Nat)(p q:Cg)(pl ph dl dh:Int)(UB:m<=100000):UH U8 74 [.agg [i c,i T,i U,i O,rds n a b u v,Pt.scs m p q,i pl,i ph,i dl,i dh]] (.tup [.agg [i (Pt.blLo m p q pl ph),i (Pt.blHi m p q pl ph)],bl (vaB c T U O m p q pl ph dl dh)]):=by
 refine GW (L:=[]) (Ae Pt.Boils_ok (Ae Bo.CheckTube_ok (Ae BQ Aa))) Ad UI Tryz.func74 (GF Tryz.f74) GN (t:=let z0:=(leaf (RV.tup [RV.agg [RV.x (.int .i64 (Pt.blLo m p q pl ph)),RV.x (.int .i64 (Pt.blHi m p q pl ph))],RV.x (Y5)]));(need [G0 2 m λk=>[Pt.i (p k),Pt.i (q k)],m<=100000] (branch (Pt.blE m p q pl ph==0) (branch ((if wC c T U O=true then (0:Int) else (1:Int))==0) (leaf (RV.tup [RV.agg [RV.x (.int .i64 (Pt.blLo m p q pl ph)),RV.x (.int .i64 (Pt.blHi m p q pl ph))],RV.x (.bool (insB (0:Int) dl dh (100:Int)))])) z0) z0))) UD ?_
 simp only [U6.sat,UU,GS,H6,UX,G4,beq_iff_eq,beq_eq_false_iff_ne];refine ⟨⟨Pt.isRec2 m p q,UB⟩,λh1=>⟨λh2=>?_,λh2=>?_⟩,λh1=>?_⟩;cases ht:wC c T U O;rw [ht] at h2;simp at h2;simp [vaB,h1,ht];cases ht:wC c T U O;simp [vaB,ht];rw [ht] at h2;simp at h2;simp [vaB,h1]
def cT:GM
 |[.agg [.x (.int .i64 c),.x (.int .i64 T),.x (.int .i64 U),.x (.int .i64 O),.lst 4 n fr,.lst 2 m ft,.x (.int .i64 pl),.x (.int .i64 ph),.x (.int .i64 dl),.x (.int .i64 dh)]]=>some ([G0 4 n fr,G0 2 m ft,m<=100000],.tup [.agg [i (Pt.blLo m (Pt.col 0 ft) (Pt.col 1 ft) pl ph),i (Pt.blHi m (Pt.col 0 ft) (Pt.col 1 ft) pl ph)],bl (vaB c T U O m (Pt.col 0 ft) (Pt.col 1 ft) pl ph dl dh)])
 |_=>none
theorem eX:UA U8 74 cT:=by
 refine ⟨(UZ Tryz.func74),?_⟩;intro avs ns res h S;unfold cT at h;split at h;cases h;have hr:G0 4 _ _:=S _ H0;have ht:G0 2 _ _:=S _ (DB _ H0);exact (Wf5 _ _ _ _ _ _ _ _ _ _ _ _ _ _ _ _ (S _ UE)).same (.cons (PM.same (.cons (.refl _) (.cons (.refl _) (.cons (.refl _) (.cons (.refl _) (.cons (.lst 4 _ _ _ hr) (.cons (.lst 2 _ _ _ ht) (.cons (.refl _) (.cons (.refl _) (.cons (.refl _) (.cons (.refl _) .nil))))))))))) .nil);cases h
section
variable {pl ph dl dh:Int}{L H:Cg}
theorem Xk7{k j:Nat}:kJ (4+2*k) [L k,H k] (wkF pl ph dl dh L H k) j=wkF pl ph dl dh L H (k+1) j:=by
 simp only [kJ,GE];unfold wkF;by_cases h1:j=4+2*k+1;rw [if_pos h1,if_neg U3,if_neg U3,if_neg U3,if_neg U3,if_pos U3,if_neg U3,show (j-4) / 2=k by omega]
 rw [if_neg h1];by_cases h2:j=4+2*k;rw [if_pos h2,if_neg U3,if_neg U3,if_neg U3,if_neg U3,if_pos U3,if_pos U3,show (j-4) / 2=k by omega]
 rw [if_neg h2];by_cases h3:j<4+2*k;rw [if_pos h3,if_pos (show j<4+2*(k+1) by omega)]
 rw [if_neg h3,if_neg (show ¬j<4+2*(k+1) by omega)]
theorem Xk6{j:Nat}(hj:j<26):US ([pl,ph,dl,dh]++eM 22) j=wkF pl ph dl dh L H 0 j:=by
 rcases (show j=0\/j=1\/j=2\/j=3\/j=4\/j=5\/j=6\/j=7\/j=8\/j=9\/j=10\/j=11\/j=12\/j=13\/j=14\/j=15\/j=16\/j=17\/j=18\/j=19\/j=20\/j=21\/j=22\/j=23\/j=24\/j=25 by omega) with rfl|rfl|rfl|rfl|rfl|rfl|rfl|rfl|rfl|rfl|rfl|rfl|rfl|rfl|rfl|rfl|rfl|rfl|rfl|rfl|rfl|rfl|rfl|rfl|rfl|rfl<;>rfl
end
abbrev QR(n:Nat)(a:Cg)(b:Cg)(u:Cg)(v:Cg):AV:=lst 4 n λk=>[iI (a k),iI (b k),iI (u k),iI (v k)]
abbrev QZ(c:Int)(T:Int)(U:Int)(O:Int)(n:Nat)(a:Cg)(b:Cg)(u:Cg)(v:Cg):AV:=lst 2 (C3 c T U O n a b u v) λk=>[iI (-fwB c T U O n a b u v k 0),iI (fwB c T U O n a b u v 0 k)]
abbrev W2(m:Nat)(p:Cg)(q:Cg):AV:=lst 2 m λk=>[iI (p k),iI (q k)]
abbrev Z5:AV:=AV.x (.pointer none)
section
variable (c T U O:Int)(n:Nat)(a b u v:Cg)(m:Nat)(p q:Cg)(pl ph dl dh:Int)
def Zz5:St:={σ:=[agg [iI c,iI T,iI U,iI O,QR n a b u v,W2 m p q,iI pl,iI ph,iI dl,iI dh],ptr 0 0,Z5,iI 0,ptr 18 0,AV.x (.bool (vaB c T U O m p q pl ph dl dh)),QZ c T U O n a b u v,iI (eB c T U O n a b u v),ptr 45 0]++D6 43 [QZ c T U O n a b u v,iI (C3 c T U O n a b u v:Int)]++D6 31 [],m:=[(45,H9.ints 174 [iI c,iI T,iI U,iI O,QR n a b u v,W2 m p q] 26 λa=>US ([pl,ph,dl,dh]++eM 22) a),(18,H9.cells 38 [iI (Pt.blLo m p q pl ph),iI (Pt.blHi m p q pl ph)]),(0,H9.cells 53 [iI c,iI T,iI U,iI O,QR n a b u v,W2 m p q,iI pl,iI ph,iI dl,iI dh])],nx:=50}
noncomputable def Jz3:Code:=UT (UC (UP Tryz.f51) 0)
def Wp4(k:Nat):St:=(upE [(54,i k)] [(45,.ints 174 [i c,i T,i U,i O,rds n a b u v,Pt.scs m p q] 26 (wkF pl ph dl dh (bdL c T U O n a b u v m p q pl ph) (bdH c T U O n a b u v m p q pl ph) k)),(18,.cells 38 [i (Pt.boilI m p q pl),i (Pt.boilI m p q ph)]),(0,.cells 53 [i c,i T,i U,i O,rds n a b u v,Pt.scs m p q,i pl,i ph,i dl,i dh])] (Zz5 c T U O n a b u v m p q pl ph dl dh))
def aU(k:Nat):GR->Option St
 | .exit 1=>some (upE [(54,i ((c.toNat+1:Nat):Int))] [(45,.ints 174 [i c,i T,i U,i O,rds n a b u v,Pt.scs m p q] 26 (wkF pl ph dl dh (bdL c T U O n a b u v m p q pl ph) (bdH c T U O n a b u v m p q pl ph) (c.toNat+1))),(18,.cells 38 [i (Pt.boilI m p q pl),i (Pt.boilI m p q ph)]),(0,.cells 53 [i c,i T,i U,i O,rds n a b u v,Pt.scs m p q,i pl,i ph,i dl,i dh])] (Zz5 c T U O n a b u v m p q pl ph dl dh))
 |_=>none
def Ju5:CT:= .leaf (.exit 1,(aU c T U O n a b u v m p q pl ph dl dh 0 (.exit 1)).getD (Zz5 c T U O n a b u v m p q pl ph dl dh))
def Ze4:G5:=H4 [] (D1 (Wp4 c T U O n a b u v m p q pl ph dl dh (0)) (Ju5 c T U O n a b u v m p q pl ph dl dh))
end
abbrev X7(c:Int)(T:Int)(U:Int)(O:Int)(n:Nat)(a:Cg)(b:Cg)(u:Cg)(v:Cg)(m:Nat)(p:Cg)(q:Cg)(pl:Int)(ph:Int)(dl:Int)(dh:Int):Prop:=agg [iI c,iI T,iI U,iI O,QR n a b u v,W2 m p q,iI pl,iI ph,iI dl,iI dh]=agg [iI c,iI T,iI U,iI O,QR n a b u v,W2 m p q,iI pl,iI ph,iI dl,iI dh]
abbrev KF:Prop:=(0:Int)=0
abbrev Y9:List (Nat×GM):=[(74,cT),(75,Bo.S_Heights),(76,Qd3),(77,Zx8)]
abbrev YC:Prop:=ptr 18 0=ptr 18 0
abbrev V3(n:Nat)(a:Cg)(b:Cg)(u:Cg)(v:Cg):Prop:=(QR n a b u v)=QR n a b u v
abbrev V7(m:Nat)(p:Cg)(q:Cg):Prop:=(W2 m p q)=W2 m p q
abbrev VA(c:Int)(T:Int)(U:Int)(O:Int)(n:Nat)(a:Cg)(b:Cg)(u:Cg)(v:Cg):Prop:=(QZ c T U O n a b u v)=QZ c T U O n a b u v
section
variable (c T U O:Int)(n:Nat)(a b u v:Cg)(m:Nat)(p q:Cg)(pl ph dl dh:Int)
theorem Jj2(UB:n<=12)(UY:m<=8)(DF:vaB c T U O m p q pl ph dl dh=true)(FS:eB c T U O n a b u v=0):GU U8 (.loop Jz3) (Ze4 c T U O n a b u v m p q pl ph dl dh):=by
 refine GL [] (L:=[]) (Ae eX (Ae Bo.Heights_ok (Ae cF (Ae Wg0 Aa)))) Ad UI UN (X:=Nat) (Wp4 c T U O n a b u v m p q pl ph dl dh) (λk=>k<=c.toNat+1) (λk=>c.toNat+1-k) (aU c T U O n a b u v m p q pl ph dl dh) (x0:=0) UE ?_ ?_ ?_;rintro k;kernel_rfl;rintro k y E h;unfold aU at h;split at h;cases h;kernel_rfl;cases h;rintro Q hQ k hx;refine ⟨(k+1),?_⟩;(with_reducible refine F4 (t:=let z0:=(bdL c T U O n a b u v m p q pl ph);let z1:=(bdH c T U O n a b u v m p q pl ph);let z5:=fwB c T U O n a b u v;let z2:=z5 k;let z3:=Pt.boilI m p q pl;let z4:=Pt.boilI m p q ph;let z6:=(C3 c T U O n a b u v);let z7:=VA c T U O n a b u v;(branch (decide ((k:Int)<(z6:Int))) (need [G7 k z6] (need [U5 (-z2 0*z3)] (need [(1:Int)<=T/\T<=100000,(0:Int)<= -z2 0*z3/\ -z2 0*z3<=1000000000000] (need [U5 (z5 0 k*z4)] (need [(1:Int)<=T/\T<=100000,(0:Int)<=z5 0 k*z4/\z5 0 k*z4<=1000000000000] (need [G7 k 11] (need [k*2+10-1-1-1-1-1-1+List.length [dnI (-z2 0*z3) T,upI (z5 0 k*z4) T]<=26] (need [U5 ((k:Int)+1)] (need [X7 c T U O n a b u v m p q pl ph dl dh,KS,Z5=Z5,KF,YC,UJ (vaB c T U O m p q pl ph dl dh),z7,UJ (eB c T U O n a b u v),UJ (ptr 45 0),z7,UJ (z6:Int),(k:Int)+1=(↑(k+1):Int),c=c,T=T,U=U,O=O,V3 n a b u v,V7 m p q,26=26,HH 26 (GE (k*2+10-1-1-1-1-1-1+1) (upI (z5 0 k*z4) T) (GE (k*2+10-1-1-1-1-1-1) (dnI (-z2 0*z3) T) (wkF pl ph dl dh z0 z1 k))) (wkF pl ph dl dh z0 z1 (k+1)),UJ (z3),UJ (z4),c=c,T=T,U=U,O=O,V3 n a b u v,V7 m p q,pl=pl,ph=ph,dl=dl,dh=dh] (leaf GR.normal)))))))))) (need [X7 c T U O n a b u v m p q pl ph dl dh,KS,Z5=Z5,KF,YC,UJ (vaB c T U O m p q pl ph dl dh),z7,UJ (eB c T U O n a b u v),UJ (ptr 45 0),z7,UJ (z6:Int),(k:Int)=(↑(Int.toNat c+1):Int),c=c,T=T,U=U,O=O,V3 n a b u v,V7 m p q,26=26,HH 26 (wkF pl ph dl dh z0 z1 k) (wkF pl ph dl dh z0 z1 (Int.toNat c+1)),UJ (z3),UJ (z4),c=c,T=T,U=U,O=O,V3 n a b u v,V7 m p q,pl=pl,ph=ph,dl=dl,dh=dh] (leaf (GR.exit 1))))) UD ?_);simp only [Ju5,aU,U6.sat,HF] at hQ;have hv:=pG.1 DF;have hb:=qO hv.2.1;have hs:=Wg9 hv.1;have hl:C3 c T U O n a b u v=c.toNat+1:=if_pos FS;simp only [U6.sat,UU,GS,H6,UX,U5,G4,HU,FA,LP,hl]
 refine ⟨λh=>?_,λh=>?_⟩
 ·have hk:=Zb4 FS (k:=k) U3;have m1:=Qg4 (x:= -(fwB c T U O n a b u v k 0)) (y:=Pt.boilI m p q pl) (X:=2000) (Y:=2000) U3 U3;have m2:=Qg4 (x:=fwB c T U O n a b u v 0 k) (y:=Pt.boilI m p q ph) (X:=2000) (Y:=2000) U3 U3;have e6:k*2+10-1-1-1-1-1-1=4+2*k:=U3;rw [e6]
  (with_reducible repeat' first|apply Al|intro _)
  all_goals first|exact Ak|omega|with_reducible rfl|exact Xk7
 ·obtain rfl:k=c.toNat+1:=U3
  (with_reducible repeat' first|apply Al|intro _)
  all_goals first|exact Ak|omega|with_reducible rfl|(rename_i E hE;cases hE;exact hQ)
theorem aL:G6 U8 51 [.agg [i c,i T,i U,i O,rds n a b u v,Pt.scs m p q,i pl,i ph,i dl,i dh]] (.branch (decide (rdE c T U O n a b u v m p q pl ph dl dh=0)) (.leaf (.tup [.roI [i c,i T,i U,i O,rds n a b u v,Pt.scs m p q] 26 (wkA c T U O n a b u v m p q pl ph dl dh) 0,i 0])) (.leaf (.tup [.x (.pointer none),i (rdE c T U O n a b u v m p q pl ph dl dh)]))):=by
 refine HD (L:=[RH [n<=12,m<=8,vaB c T U O m p q pl ph dl dh=true,eB c T U O n a b u v=0] (Ze4 c T U O n a b u v m p q pl ph dl dh)]) (Ae eX (Ae Bo.Heights_ok (Ae cF (Ae Wg0 Aa)))) Ad UI Tryz.func51 (GF Tryz.f51) (GJ (lpE (b:= .loop Jz3) UD<|(DU (ps:=[n<=12,m<=8,vaB c T U O m p q pl ph dl dh=true,eB c T U O n a b u v=0]) (λh=>Jj2 c T U O n a b u v m p q pl ph dl dh h.1 h.2.1 h.2.2.1 h.2.2.2)).N)) (t:=let z0:=(leaf (tup [roI [iI c,iI T,iI U,iI O,QR n a b u v,W2 m p q] 26 (λj=>wkF pl ph dl dh (bdL c T U O n a b u v m p q pl ph) (bdH c T U O n a b u v m p q pl ph) (Int.toNat c+1) j) 0,iI 0]));let z1:=eB c T U O n a b u v;let z2:=vaB c T U O m p q pl ph dl dh;let z3:=VA c T U O n a b u v;(branch (decide ((n:Int)>12)) (leaf (tup [Z5,iI 3])) (branch (decide ((m:Int)>8)) (leaf (tup [Z5,iI 3])) (need [G0 4 n λk=>[Bo.i (a k),Bo.i (b k),Bo.i (u k),Bo.i (v k)],G0 2 m λk=>[Pt.i (p k),Pt.i (q k)],m<=100000] (need [G0 4 n λk=>[Bo.i (a k),Bo.i (b k),Bo.i (u k),Bo.i (v k)]] (branch (!z2) (leaf (tup [Z5,iI 1])) (branch (z1 != 0) (branch (z1 != 9) (leaf (tup [Z5,iI 1])) (branch (z1 != 0) (leaf (tup [Z5,iI (z1)])) (need [n<=12,m<=8,z2=true,z1=0] (need [X7 c T U O n a b u v m p q pl ph dl dh,KS,Z5=Z5,KF,YC,UJ (z2),z3,UJ (z1),ptr 47 0=ptr 45 0,z3,UJ (C3 c T U O n a b u v:Int),(0:Int)=((0:Nat):Int),False,Pt.blLo m p q pl ph=Pt.boilI m p q pl,Pt.blHi m p q pl ph=Pt.boilI m p q ph,c=c,T=T,U=U,O=O,V3 n a b u v,V7 m p q,pl=pl,ph=ph,dl=dl,dh=dh] z0)))) (branch (z1 != 0) (leaf (tup [Z5,iI (z1)])) (need [n<=12,m<=8,z2=true,z1=0] (need [X7 c T U O n a b u v m p q pl ph dl dh,KS,Z5=Z5,KF,YC,UJ (z2),z3,UJ (z1),UJ (ptr 45 0),z3,UJ (C3 c T U O n a b u v:Int),(0:Int)=((0:Nat):Int),c=c,T=T,U=U,O=O,V3 n a b u v,V7 m p q,List.length ([pl,ph,dl,dh]++eM 22)=26,HH 26 (US ([pl,ph,dl,dh]++eM 22)) (wkF pl ph dl dh (bdL c T U O n a b u v m p q pl ph) (bdH c T U O n a b u v m p q pl ph) 0),Pt.blLo m p q pl ph=Pt.boilI m p q pl,Pt.blHi m p q pl ph=Pt.boilI m p q ph,c=c,T=T,U=U,O=O,V3 n a b u v,V7 m p q,pl=pl,ph=ph,dl=dl,dh=dh] z0)))))))))) UD ?_
 intro Q hQ;have e3:(n>12\/m>8)->rdE c T U O n a b u v m p q pl ph dl dh=3:=λh=>if_pos h;have e1: ¬(n>12\/m>8)-> ¬(vaB c T U O m p q pl ph dl dh=true/\(eB c T U O n a b u v=0\/eB c T U O n a b u v=9))->rdE c T U O n a b u v m p q pl ph dl dh=1:=λh h'=>by
  unfold rdE;rw [if_neg h,if_neg h']
 have e0: ¬(n>12\/m>8)->vaB c T U O m p q pl ph dl dh=true->(eB c T U O n a b u v=0\/eB c T U O n a b u v=9)->rdE c T U O n a b u v m p q pl ph dl dh=eB c T U O n a b u v:=λh h' h''=>by
  unfold rdE;rw [if_neg h,if_pos ⟨h',h''⟩]
 simp only [U6.sat,UU,G4,HU,L1,Ax,Bool.not_eq_false'] at hQ ⊢;have bad: ∀k:Int,k≠0->rdE c T U O n a b u v m p q pl ph dl dh=k-> ∃r',FR (.tup [.x (.pointer none),i k]) r'/\Q r':=λk hk he=>by
  rw [he] at hQ;exact ⟨.tup [.x (.pointer none),i k],⟨rfl,⟨rfl,rfl⟩,Ak⟩,hQ.2 hk⟩
 refine ⟨λh1=>bad 3 U3 (e3 U3),λh1=>⟨λh2=>bad 3 U3 (e3 U3),λh2=>⟨⟨Bo.isRec4 n a b u v,Pt.isRec2 m p q,U3⟩,Bo.isRec4 n a b u v,λh3=>bad 1 U3 (e1 U3 (by rw [h3];simp)),λh3=>⟨λh4=>⟨λh5=>bad 1 U3 (e1 U3 U3),λh5=>⟨λh6=>bad _ h4 (e0 U3 h3 (.inr h5)),λh6=>absurd h6 h4⟩⟩,λh4=>⟨λh5=>absurd h4 h5,λ_=>?_⟩⟩⟩⟩⟩
 have hv:=pG.1 h3;have hs:=Wg9 hv.1;refine ⟨⟨U3,U3,h3,h4⟩,⟨rfl,rfl,λj hj=>Xk6 hj,hs.2.2.2.1,hs.2.2.2.2⟩,.tup [.roI [i c,i T,i U,i O,rds n a b u v,Pt.scs m p q] 26 (wkA c T U O n a b u v m p q pl ph dl dh) 0,i 0],⟨⟨rfl,rfl,λ_ _=>rfl,rfl⟩,⟨rfl,rfl⟩,Ak⟩,hQ.1 ((e0 U3 h3 (.inl h4)).trans h4)⟩
end
def A6:DX:=λl=>match l with
 |[.agg [.x (.int .i64 c),.x (.int .i64 T),.x (.int .i64 U),.x (.int .i64 O),.lst 4 n fr,.lst 2 m ft,.x (.int .i64 pl),.x (.int .i64 ph),.x (.int .i64 dl),.x (.int .i64 dh)]]=>some (.need [G0 4 n fr,G0 2 m ft] (.branch (decide (rdE c T U O n (col 0 fr) (col 1 fr) (col 2 fr) (col 3 fr) m (Pt.col 0 ft) (Pt.col 1 ft) pl ph dl dh=0)) (.leaf (.tup [.roI [i c,i T,i U,i O,rds n (col 0 fr) (col 1 fr) (col 2 fr) (col 3 fr),Pt.scs m (Pt.col 0 ft) (Pt.col 1 ft)] 26 (wkA c T U O n (col 0 fr) (col 1 fr) (col 2 fr) (col 3 fr) m (Pt.col 0 ft) (Pt.col 1 ft) pl ph dl dh) 0,i 0])) (.leaf (.tup [.x (.pointer none),i (rdE c T U O n (col 0 fr) (col 1 fr) (col 2 fr) (col 3 fr) m (Pt.col 0 ft) (Pt.col 1 ft) pl ph dl dh)]))))
 |_=>none
theorem zD:Sx.Enters Tryz.prog 51/\ ∀avs t,A6 avs=some t->G6 U8 51 avs t:=by
 refine ⟨(UZ Tryz.func51),?_⟩;intro avs t h;unfold A6 at h;split at h;cases h;intro Q hQ;have hr:G0 4 _ _:=GY hQ.1 _ H0;have ht:G0 2 _ _:=GY hQ.1 _ (DB _ H0);exact G6.same (aL _ _ _ _ _ _ _ _ _ _ _ _ _ _ _ _) (.cons (PM.same (.cons (.refl _) (.cons (.refl _) (.cons (.refl _) (.cons (.refl _) (.cons (.lst 4 _ _ _ hr) (.cons (.lst 2 _ _ _ ht) (.cons (.refl _) (.cons (.refl _) (.cons (.refl _) (.cons (.refl _) .nil))))))))))) .nil) Q hQ.2;cases h
section
variable (c T U O:Int)(n:Nat)(a b u v:Cg)(m:Nat)(p q:Cg)(pl ph dl dh:Int)
def asE(W u1 wi I:Int):Int:=if rdE c T U O n a b u v m p q pl ph dl dh=0 then (if usB c W u1 wi&&bt 0 I 10000 then 0 else 2) else rdE c T U O n a b u v m p q pl ph dl dh
def hdE(I:Int):Int:=if rdE c T U O n a b u v m p q pl ph dl dh=0 then (if bt 0 I 10000 then 0 else 2) else rdE c T U O n a b u v m p q pl ph dl dh
end
theorem Jk1{c T U O:Int}{n:Nat}{a b u v:Cg}{m:Nat}{p q:Cg}{pl ph dl dh:Int}(h:rdE c T U O n a b u v m p q pl ph dl dh=0):n<=12/\m<=8/\vaB c T U O m p q pl ph dl dh=true/\eB c T U O n a b u v=0:=by
 unfold rdE at h;split at h;cases h;rename_i h1;split at h;rename_i h2;exact ⟨U3,U3,h2.1,h⟩;cases h
section
variable {pl ph dl dh:Int}{L H:Cg}{k j:Nat}
theorem wk_L(h:j<k):wkF pl ph dl dh L H k (4+2*j)=L j:=by
 unfold wkF;rw [if_neg U3,if_neg U3,if_neg U3,if_neg U3,if_pos U3,if_pos U3,show (4+2*j-4) / 2=j by omega]
theorem wk_H(h:j<k):wkF pl ph dl dh L H k (5+2*j)=H j:=by
 unfold wkF;rw [if_neg U3,if_neg U3,if_neg U3,if_neg U3,if_pos U3,if_neg U3,show (5+2*j-4) / 2=j by omega]
end
theorem eV{c T U O:Int}{n:Nat}{a b u v:Cg}{m:Nat}{p q:Cg}{pl ph dl dh:Int}(h:rdE c T U O n a b u v m p q pl ph dl dh=0):drB (wkA c T U O n a b u v m p q pl ph dl dh)/\bdB (wkA c T U O n a b u v m p q pl ph dl dh)/\(1<=c/\c<=10)/\ ∀k:Nat,(k:Int)<=c->0<=bdL c T U O n a b u v m p q pl ph k/\bdL c T U O n a b u v m p q pl ph k<=4000000/\0<=bdH c T U O n a b u v m p q pl ph k/\bdH c T U O n a b u v m p q pl ph k<=4000000:=by
 obtain ⟨h1,h2,h3,h4⟩:=Jk1 h;have hv:=pG.1 h3;have hb:=qO hv.2.1;have hs:=Wg9 hv.1;have key: ∀k:Nat,(k:Int)<=c->0<=bdL c T U O n a b u v m p q pl ph k/\bdL c T U O n a b u v m p q pl ph k<=4000000/\0<=bdH c T U O n a b u v m p q pl ph k/\bdH c T U O n a b u v m p q pl ph k<=4000000:=by
  intro k hk;have hk:=Zb4 h4 hk;have m1:=Qg4 (x:= -(fwB c T U O n a b u v k 0)) (y:=Pt.boilI m p q pl) (X:=2000) (Y:=2000) U3 U3;have m2:=Qg4 (x:=fwB c T U O n a b u v 0 k) (y:=Pt.boilI m p q ph) (X:=2000) (Y:=2000) U3 U3;have d1:=fB m1.1 (show 1<=T by omega)
  have d2:=a8 m2.1 (show 1<=T by omega)
  unfold bdL bdH;omega
 refine ⟨⟨?_,?_⟩,λj hj=>?_,hb.1,key⟩;show 0<=dl/\dl<=100;omega;show 0<=dh/\dh<=100;omega;by_cases hk:j / 2<c.toNat+1;have:=key (j / 2) U3;rcases Nat.mod_two_eq_zero_or_one j with h0|h0;have e:wkA c T U O n a b u v m p q pl ph dl dh (4+j)=bdL c T U O n a b u v m p q pl ph (j / 2):=by
  have:=wk_L (pl:=pl) (ph:=ph) (dl:=dl) (dh:=dh) (L:=bdL c T U O n a b u v m p q pl ph) (H:=bdH c T U O n a b u v m p q pl ph) hk;rw [show 4+2*(j / 2)=4+j by omega] at this
  exact this
 rw [e];omega;have e:wkA c T U O n a b u v m p q pl ph dl dh (4+j)=bdH c T U O n a b u v m p q pl ph (j / 2):=by
  have:=wk_H (pl:=pl) (ph:=ph) (dl:=dl) (dh:=dh) (L:=bdL c T U O n a b u v m p q pl ph) (H:=bdH c T U O n a b u v m p q pl ph) hk;rw [show 5+2*(j / 2)=4+j by omega] at this
  exact this
 rw [e];omega;have e:wkA c T U O n a b u v m p q pl ph dl dh (4+j)=0:=by
  unfold wkA wkF;rw [if_neg U3,if_neg U3,if_neg U3,if_neg U3,if_neg U3]
 rw [e];omega
abbrev YF:Value:=Value.int IntKind.i64 (0:Int)
theorem gN(c T U O:Int)(n:Nat)(a b u v:Cg)(m:Nat)(p q:Cg)(pl ph dl dh:Int):UH U8 17 [.agg [i c,i T,i U,i O,rds n a b u v,Pt.scs m p q,i pl,i ph,i dl,i dh]] (i (rdE c T U O n a b u v m p q pl ph dl dh)):=by
 refine GW (L:=[]) Aa (Aj Ab Ac (Ah zD (UV.nil _))) UI Tryz.func17 (GF Tryz.f17) GN (t:=need [G0 4 n λk=>[Bo.i (a k),Bo.i (b k),Bo.i (u k),Bo.i (v k)],G0 2 m λk=>[Pt.i (p k),Pt.i (q k)]] (branch (decide (rdE c T U O n a b u v m p q pl ph dl dh=0)) (leaf (RV.x (YF))) (leaf (RV.x (.int .i64 (rdE c T U O n a b u v m p q pl ph dl dh)))))) UD ?_;simp only [U6.sat,UU,GS,H6,UX,G4,HU,L1,beq_iff_eq,beq_eq_false_iff_ne,Ax,Bool.not_eq_false',not_true_eq_false,false_imp_iff,true_imp_iff];exact ⟨⟨Bo.isRec4 n a b u v,Pt.isRec2 m p q⟩,λh=>h.symm,λ_=>trivial⟩
def FJ:GM
 |[.agg [.x (.int .i64 c),.x (.int .i64 T),.x (.int .i64 U),.x (.int .i64 O),.lst 4 n fr,.lst 2 m ft,.x (.int .i64 pl),.x (.int .i64 ph),.x (.int .i64 dl),.x (.int .i64 dh)]]=>some ([G0 4 n fr,G0 2 m ft],i (rdE c T U O n (col 0 fr) (col 1 fr) (col 2 fr) (col 3 fr) m (Pt.col 0 ft) (Pt.col 1 ft) pl ph dl dh))
 |_=>none
theorem wQ:UA U8 17 FJ:=by
 refine ⟨(UZ Tryz.func17),?_⟩;intro avs ns res h S;unfold FJ at h;split at h;cases h;have hr:G0 4 _ _:=S _ H0;have ht:G0 2 _ _:=S _ (DB _ H0);exact (gN _ _ _ _ _ _ _ _ _ _ _ _ _ _ _ _).same (.cons (PM.same (.cons (.refl _) (.cons (.refl _) (.cons (.refl _) (.cons (.refl _) (.cons (.lst 4 _ _ _ hr) (.cons (.lst 2 _ _ _ ht) (.cons (.refl _) (.cons (.refl _) (.cons (.refl _) (.cons (.refl _) .nil))))))))))) .nil);cases h
abbrev ZE(c:Int)(T:Int)(U:Int)(O:Int)(n:Nat)(a:Cg)(b:Cg)(u:Cg)(v:Cg)(m:Nat)(p:Cg)(q:Cg)(pl:Int)(ph:Int)(dl:Int)(dh:Int):AV:=roI [iI c,iI T,iI U,iI O,QR n a b u v,W2 m p q] 26 (λa_1=>wkA c T U O n a b u v m p q pl ph dl dh a_1) 0
theorem Xc6(c T U O:Int)(n:Nat)(a b u v:Cg)(m:Nat)(p q:Cg)(pl ph dl dh:Int)(W u1 wi I:Int):G6 U8 58 [.agg [i c,i T,i U,i O,rds n a b u v,Pt.scs m p q,i pl,i ph,i dl,i dh],.agg [i W,i u1,i wi],i I] (.branch (decide (asE c T U O n a b u v m p q pl ph dl dh W u1 wi I=0)) (.leaf (.tup [.roI [i c,i T,i U,i O,rds n a b u v,Pt.scs m p q] 26 (wkA c T U O n a b u v m p q pl ph dl dh) 0,i 0])) (.leaf (.tup [.top,i (asE c T U O n a b u v m p q pl ph dl dh W u1 wi I)]))):=by
 refine HD (L:=[]) (Ae Zl9 (Ae LA Aa)) (Aj Ab Ac (Ah zD (UV.nil _))) UI Tryz.func58 (GF Tryz.f58) GN (t:=let z0:=rdE c T U O n a b u v m p q pl ph dl dh;let z1:=ZE c T U O n a b u v m p q pl ph dl dh;(need [G0 4 n λk=>[Bo.i (a k),Bo.i (b k),Bo.i (u k),Bo.i (v k)],G0 2 m λk=>[Pt.i (p k),Pt.i (q k)]] (branch (decide (z0=0)) (branch ((0:Int)==0) (need [G0 4 n λk=>[Bo.i (a k),Bo.i (b k),Bo.i (u k),Bo.i (v k)],G0 2 m λk=>[Pt.i (p k),Pt.i (q k)]] (branch (!usB c W u1 wi) (leaf (tup [z1,iI 2])) (branch (!bt (0:Int) I (10000:Int)) (leaf (tup [z1,iI 2])) (leaf (tup [z1,iI 0]))))) (leaf (tup [z1,iI 0]))) (branch (z0==0) (need [G0 4 n λk=>[Bo.i (a k),Bo.i (b k),Bo.i (u k),Bo.i (v k)],G0 2 m λk=>[Pt.i (p k),Pt.i (q k)]] (branch (!usB c W u1 wi) (leaf (tup [Z5,iI 2])) (branch (!bt (0:Int) I (10000:Int)) (leaf (tup [Z5,iI 2])) (leaf (tup [Z5,iI (z0)]))))) (leaf (tup [Z5,iI (z0)])))))) UD ?_;intro Q hQ;simp only [U6.sat,UU,GS,H6,UX,G4,HU,L1,beq_iff_eq,beq_eq_false_iff_ne,Ax,Bool.not_eq_false',not_true_eq_false,false_imp_iff,true_imp_iff] at hQ ⊢;have hr:rdE c T U O n a b u v m p q pl ph dl dh≠0->asE c T U O n a b u v m p q pl ph dl dh W u1 wi I=rdE c T U O n a b u v m p q pl ph dl dh:=λh=>if_neg h;have h2:rdE c T U O n a b u v m p q pl ph dl dh=0->(usB c W u1 wi=false\/bt 0 I 10000=false)->asE c T U O n a b u v m p q pl ph dl dh W u1 wi I=2:=λh h'=>by
  unfold asE;rw [if_pos h,if_neg (by rcases h' with h'|h'<;>simp [h'])]
 have h0:rdE c T U O n a b u v m p q pl ph dl dh=0->usB c W u1 wi=true->bt 0 I 10000=true->asE c T U O n a b u v m p q pl ph dl dh W u1 wi I=0:=λh h' h''=>by
  unfold asE;rw [if_pos h,h',h''];rfl
 have bad: ∀(x:AV) (k:Int),asE c T U O n a b u v m p q pl ph dl dh W u1 wi I=k->k≠0-> ∃r',FR (.tup [x,i k]) r'/\Q r':=λx k he hk=>by
  rw [he] at hQ;exact ⟨.tup [.top,i k],⟨by cases x<;>trivial,⟨rfl,rfl⟩,Ak⟩,hQ.2 hk⟩
 refine ⟨⟨Bo.isRec4 n a b u v,Pt.isRec2 m p q⟩,λh=>⟨⟨Bo.isRec4 n a b u v,Pt.isRec2 m p q⟩,λg=>bad _ 2 (h2 h (.inl g)) U3,λg=>⟨λg'=>bad _ 2 (h2 h (.inr g')) U3,λg'=>?_⟩⟩,λh=>⟨λh'=>absurd h' h,λ_=>?_⟩⟩;exact ⟨.tup [.roI [i c,i T,i U,i O,rds n a b u v,Pt.scs m p q] 26 (wkA c T U O n a b u v m p q pl ph dl dh) 0,i 0],⟨⟨rfl,rfl,λ_ _=>rfl,rfl⟩,⟨rfl,rfl⟩,Ak⟩,hQ.1 (h0 h g g')⟩;exact bad _ _ (hr h) h
def Qq8:DX:=λl=>match l with
 |[.agg [.x (.int .i64 c),.x (.int .i64 T),.x (.int .i64 U),.x (.int .i64 O),.lst 4 n fr,.lst 2 m ft,.x (.int .i64 pl),.x (.int .i64 ph),.x (.int .i64 dl),.x (.int .i64 dh)],.agg [.x (.int .i64 W),.x (.int .i64 u1),.x (.int .i64 wi)],.x (.int .i64 I)]=>some (.need [G0 4 n fr,G0 2 m ft] (.branch (decide (asE c T U O n (col 0 fr) (col 1 fr) (col 2 fr) (col 3 fr) m (Pt.col 0 ft) (Pt.col 1 ft) pl ph dl dh W u1 wi I=0)) (.leaf (.tup [.roI [i c,i T,i U,i O,rds n (col 0 fr) (col 1 fr) (col 2 fr) (col 3 fr),Pt.scs m (Pt.col 0 ft) (Pt.col 1 ft)] 26 (wkA c T U O n (col 0 fr) (col 1 fr) (col 2 fr) (col 3 fr) m (Pt.col 0 ft) (Pt.col 1 ft) pl ph dl dh) 0,i 0])) (.leaf (.tup [.top,i (asE c T U O n (col 0 fr) (col 1 fr) (col 2 fr) (col 3 fr) m (Pt.col 0 ft) (Pt.col 1 ft) pl ph dl dh W u1 wi I)]))))
 |_=>none
theorem Wa1:Sx.Enters Tryz.prog 58/\ ∀avs t,Qq8 avs=some t->G6 U8 58 avs t:=by
 refine ⟨(UZ Tryz.func58),?_⟩;intro avs t h;unfold Qq8 at h;split at h;cases h;intro Q hQ;have hr:G0 4 _ _:=GY hQ.1 _ H0;have ht:G0 2 _ _:=GY hQ.1 _ (DB _ H0);exact G6.same (Xc6 _ _ _ _ _ _ _ _ _ _ _ _ _ _ _ _ _ _ _ _) (.cons (PM.same (.cons (.refl _) (.cons (.refl _) (.cons (.refl _) (.cons (.refl _) (.cons (.lst 4 _ _ _ hr) (.cons (.lst 2 _ _ _ ht) (.cons (.refl _) (.cons (.refl _) (.cons (.refl _) (.cons (.refl _) .nil))))))))))) (.cons (.refl _) (.cons (.refl _) .nil))) Q hQ.2;cases h
def kpB(c T U O:Int)(n:Nat)(a b u v:Cg)(m:Nat)(p q:Cg)(pl ph dl dh:Int)(W u1 wi I:Int):Bool:=decide (asE c T U O n a b u v m p q pl ph dl dh W u1 wi I=0)&&keB c (wkA c T U O n a b u v m p q pl ph dl dh) W u1 wi I
theorem Jt3{c T U O:Int}{n:Nat}{a b u v:Cg}{m:Nat}{p q:Cg}{pl ph dl dh W u1 wi I:Int}(h:asE c T U O n a b u v m p q pl ph dl dh W u1 wi I=0):rdE c T U O n a b u v m p q pl ph dl dh=0/\usB c W u1 wi=true/\0<=I/\I<=10000:=by
 unfold asE at h;split at h;rename_i h1;split at h;rename_i h2;rw [HV] at h2;exact ⟨h1,h2.1,(bt_iff _ _ _).1 h2.2⟩;cases h;rename_i h1;exact absurd h h1
theorem Xw3(c T U O:Int)(n:Nat)(a b u v:Cg)(m:Nat)(p q:Cg)(pl ph dl dh:Int)(W u1 wi I:Int):UH U8 26 [.agg [i c,i T,i U,i O,rds n a b u v,Pt.scs m p q,i pl,i ph,i dl,i dh],.agg [i W,i u1,i wi],i I] (.tup [bl (kpB c T U O n a b u v m p q pl ph dl dh W u1 wi I),i (asE c T U O n a b u v m p q pl ph dl dh W u1 wi I)]):=by
 refine GW (L:=[]) (Ae Xo7 Aa) (Aj Ab Ac (Ah Wa1 (UV.nil _))) UI Tryz.func26 (GF Tryz.f26) GN (t:=let z0:=asE c T U O n a b u v m p q pl ph dl dh W u1 wi I;let z1:=(wkA c T U O n a b u v m p q pl ph dl dh);(need [G0 4 n λk=>[Bo.i (a k),Bo.i (b k),Bo.i (u k),Bo.i (v k)],G0 2 m λk=>[Pt.i (p k),Pt.i (q k)]] (branch (decide (z0=0)) (branch ((0:Int)==0) (need [drB z1,bdB z1,(1:Int)<=c/\c<=10,(0:Int)<=W/\W<=u1/\u1<=10,(0:Int)<=wi/\wi<=1000000,(0:Int)<=I/\I<=100000] (leaf (RV.tup [RV.x (.bool (keB c z1 W u1 wi I)),RV.x (YF)]))) (leaf (RV.tup [RV.x (Y5),RV.x (YF)]))) (branch (z0==0) U6.fail (leaf (RV.tup [RV.x (Y5),RV.x (.int .i64 (z0))])))))) UD ?_;simp only [U6.sat,UU,GS,H6,UX,G4,HU,L1,beq_iff_eq,beq_eq_false_iff_ne,Ax,Bool.not_eq_false',not_true_eq_false,false_imp_iff,true_imp_iff];refine ⟨⟨Bo.isRec4 n a b u v,Pt.isRec2 m p q⟩,λh=>?_,λh=>⟨λh'=>absurd h' h,λ_=>?_⟩⟩;obtain ⟨h1,h2,h3⟩:=Jt3 h;have hw:=eV h1;have hu:=Xl4.1 h2;refine ⟨⟨hw.1,hw.2.1,hw.2.2.1,U3,U3,U3⟩,?_,h.symm⟩;unfold kpB;rw [h];rfl;unfold kpB;rw [decide_eq_false h];rfl
def cZ:GM
 |[.agg [.x (.int .i64 c),.x (.int .i64 T),.x (.int .i64 U),.x (.int .i64 O),.lst 4 n fr,.lst 2 m ft,.x (.int .i64 pl),.x (.int .i64 ph),.x (.int .i64 dl),.x (.int .i64 dh)],.agg [.x (.int .i64 W),.x (.int .i64 u1),.x (.int .i64 wi)],.x (.int .i64 I)]=>some ([G0 4 n fr,G0 2 m ft],.tup [bl (kpB c T U O n (col 0 fr) (col 1 fr) (col 2 fr) (col 3 fr) m (Pt.col 0 ft) (Pt.col 1 ft) pl ph dl dh W u1 wi I),i (asE c T U O n (col 0 fr) (col 1 fr) (col 2 fr) (col 3 fr) m (Pt.col 0 ft) (Pt.col 1 ft) pl ph dl dh W u1 wi I)])
 |_=>none
theorem Qq3:UA U8 26 cZ:=by
 refine ⟨(UZ Tryz.func26),?_⟩;intro avs ns res h S;unfold cZ at h;split at h;cases h;have hr:G0 4 _ _:=S _ H0;have ht:G0 2 _ _:=S _ (DB _ H0);exact (Xw3 _ _ _ _ _ _ _ _ _ _ _ _ _ _ _ _ _ _ _ _).same (.cons (PM.same (.cons (.refl _) (.cons (.refl _) (.cons (.refl _) (.cons (.refl _) (.cons (.lst 4 _ _ _ hr) (.cons (.lst 2 _ _ _ ht) (.cons (.refl _) (.cons (.refl _) (.cons (.refl _) (.cons (.refl _) .nil))))))))))) (.cons (.refl _) (.cons (.refl _) .nil)));cases h
def hdN(c T U O:Int)(n:Nat)(a b u v:Cg)(m:Nat)(p q:Cg)(pl ph dl dh:Int)(I:Int):Nat:=if hdE c T U O n a b u v m p q pl ph dl dh I=0 then c.toNat+1 else 0
theorem BV{P:Program}{c:Code}{ps:List Prop}{sp:G5}(h:UU ps->D3 P c sp):D3 P c (RH ps sp):=λcx hf=>xS (λhp=>h hp cx hf)
theorem Zx2{g h:Cg}{k j:Nat}{x y:Int}(hx:x=g k)(hy:y=h k)(hj:j<k+1):GX k (λk=>[i (g k),i (h k)]) (UO 2 [i x,i y]) j=[i (g j),i (h j)]:=by
 subst hx;subst hy;show HX (decide (j<k)) [i (g j),i (h j)] (UO 2 [i (g k),i (h k)] (j-k))=_;rw [show j-k=0 by omega]
 by_cases hj:j<k;rw [decide_eq_true hj];rfl;obtain rfl:j=k:=U3;rw [decide_eq_false hj];rfl
section
variable (c T U O:Int)(n:Nat)(a b u v:Cg)(m:Nat)(p q:Cg)(pl ph dl dh:Int)(I:Int)
def Jy3:St:={σ:=mkS 37 [(0,.agg [i c,i T,i U,i O,rds n a b u v,Pt.scs m p q,i pl,i ph,i dl,i dh]),(1,i I),(2,.fn (.func 72) [] []),(3,.ptr 0 0),(4,.ptr 1 0),(5,.ptr 2 0),(6,.x (.slice none 0 0)),(7,i 0),(8,.ptr 10 0),(9,i 0),(10,.ptr 18 0),(26,.fn (.func 140) [] [.ro [i 0],.ro [i c]])],m:=[(901,.row 51 2 0 (λk=>[i (onL (wkA c T U O n a b u v m p q pl ph dl dh) k I),i (onH (wkA c T U O n a b u v m p q pl ph dl dh) k I)])),(18,.cells 112 [.row 901]),(10,.cells 124 [.roI [i c,i T,i U,i O,rds n a b u v,Pt.scs m p q] 26 (wkA c T U O n a b u v m p q pl ph dl dh) 0]),(2,.cells 163 [.fn (.func 72) [] []]),(1,.cells 3 [i I]),(0,.cells 53 [i c,i T,i U,i O,rds n a b u v,Pt.scs m p q,i pl,i ph,i dl,i dh])],nx:=902}
noncomputable def Kc3:Code:=EE (UC (UP Tryz.f71) 0)
noncomputable def Kb3:Code:=ED (UC (UP Tryz.f71) 0)
def tJ(k:Nat):St:={σ:=HI [] (Jy3 c T U O n a b u v m p q pl ph dl dh I).σ,m:=[(901,.row 51 2 k (λk=>[i (onL (wkA c T U O n a b u v m p q pl ph dl dh) k I),i (onH (wkA c T U O n a b u v m p q pl ph dl dh) k I)])),(18,.cells 112 [.row 901]),(10,.cells 124 [.roI [i c,i T,i U,i O,rds n a b u v,Pt.scs m p q] 26 (wkA c T U O n a b u v m p q pl ph dl dh) 0]),(2,.cells 163 [.fn (.func 72) [] []]),(1,.cells 3 [i I]),(0,.cells 53 [i c,i T,i U,i O,rds n a b u v,Pt.scs m p q,i pl,i ph,i dl,i dh])],nx:=902}
def sI(k:Nat):GR->Option St
 | .normal=>some {σ:=HI [] (Jy3 c T U O n a b u v m p q pl ph dl dh I).σ,m:=[(901,.row 51 2 ((c-0+1).toNat) (λk=>[i (onL (wkA c T U O n a b u v m p q pl ph dl dh) k I),i (onH (wkA c T U O n a b u v m p q pl ph dl dh) k I)])),(18,.cells 112 [.row 901]),(10,.cells 124 [.roI [i c,i T,i U,i O,rds n a b u v,Pt.scs m p q] 26 (wkA c T U O n a b u v m p q pl ph dl dh) 0]),(2,.cells 163 [.fn (.func 72) [] []]),(1,.cells 3 [i I]),(0,.cells 53 [i c,i T,i U,i O,rds n a b u v,Pt.scs m p q,i pl,i ph,i dl,i dh])],nx:=902}
 |_=>none
def T_eO:CT:= .leaf (.normal,tJ c T U O n a b u v m p q pl ph dl dh I ((c-0+1).toNat))
def Zh3:G5:=H4 [(.cell 18 0,901,51,2)] (D1 (tJ c T U O n a b u v m p q pl ph dl dh I (0)) (T_eO c T U O n a b u v m p q pl ph dl dh I))
end
abbrev ZX(c:Int):AV:=AV.fn (Fn.func 140) [] [AV.ro [iI 0],AV.ro [iI c]]
abbrev J4:Prop:=AV.fn (Fn.func 72) [] []=AV.fn (Fn.func 72) [] []
abbrev Y6:Ext:={R:=[(95,cV)],H:=[],C:=[(51,A6)] }
section
variable (c T U O:Int)(n:Nat)(a b u v:Cg)(m:Nat)(p q:Cg)(pl ph dl dh:Int)(I:Int)
theorem Jr7(UB:rdE c T U O n a b u v m p q pl ph dl dh=0)(UY:0<=I/\I<=10000)(DF:drB (wkA c T U O n a b u v m p q pl ph dl dh)/\bdB (wkA c T U O n a b u v m p q pl ph dl dh)/\1<=c/\c<=10):D3 U8 (.rangeFunc (rfF (UC (UP Tryz.f71) 0)) (xP (UC (UP Tryz.f71) 0)) Kc3 Kb3) (Zh3 c T U O n a b u v m p q pl ph dl dh I):=by
 refine L4 [(.cell 18 0,901,51,2)] (L:=[]) (Ae LA (Ae Wl6 Aa)) (Aj (Af rE Ab) Ac (Ah zD (UV.nil _))) UI UN (V:=Nat) (tJ c T U O n a b u v m p q pl ph dl dh I) (λk=>k<=((c-0+1).toNat)) (λk=>k) (sI c T U O n a b u v m p q pl ph dl dh I) (x0:=0) UE rfl ?_ ?_ ?_ ?_ (g:=140) (caps:=[.ro [i 0],.ro [i c]]) UD UD (IU 0 c U3 U3) (λ_=>rfl) ?_;rintro k;kernel_rfl;rintro k y E h;unfold sI at h;split at h;cases h;kernel_rfl;cases h;rintro k;rfl;rintro k y E h;unfold sI at h;split at h;cases h;rfl;cases h;rintro Q hQ k hx;refine ⟨λhlt=>⟨(k+1),rfl,?_⟩,λB0=>?_⟩;(with_reducible refine F4 (t:=let z0:=(wkA c T U O n a b u v m p q pl ph dl dh);let z1:=((0:Int)+(k:Int)).toNat;(need [drB z0,bdB z0,(0:Int)<=0+(k:Int)/\(0:Int)+(k:Int)<=10,(0:Int)<=I/\I<=100000] (need [(k+1)*16<=140737488355328,L0 1 (UO 2 [iI (onL z0 z1 I),iI (onH z0 z1 I)])] (need [X7 c T U O n a b u v m p q pl ph dl dh,I=I,J4,KS,UJ (ptr 1 0),UJ (ptr 2 0),ZB=ZB,KF,UJ (ptr 10 0),KF,YC,ZX c=ZX c,k+1=k+1,HH (k+1) (GX k (λk=>[iI (onL z0 k I),iI (onH z0 k I)]) (UO 2 [iI (onL z0 z1 I),iI (onH z0 z1 I)])) (λi=>[iI (onL z0 i I),iI (onH z0 i I)]),UJ (AV.row 901),UJ (ZE c T U O n a b u v m p q pl ph dl dh),J4,I=I,c=c,T=T,U=U,O=O,V3 n a b u v,V7 m p q,pl=pl,ph=ph,dl=dl,dh=dh] (leaf GR.normal))))) UD ?_)
 simp only [U6.sat,UU,G4]
 have ek:((0:Int)+(k:Int)).toNat=k:=U3;refine ⟨⟨DF.1,DF.2.1,U3,U3⟩,⟨U3,λj hj a ha=>FK ha (by simp [AV.one,Value.oneCell'])⟩,λj hj=>?_,U3⟩
 rw [ek];exact Zx2 rfl rfl hj;subst B0;exact hQ
abbrev V6:Value:=Value.slice none 0 0
theorem Wz8:UH U8 71 [.agg [i c,i T,i U,i O,rds n a b u v,Pt.scs m p q,i pl,i ph,i dl,i dh],i I,.fn (.func 72) [] []] (.tup [.lst 2 (hdN c T U O n a b u v m p q pl ph dl dh I) (λk=>[i (onL (wkA c T U O n a b u v m p q pl ph dl dh) k I),i (onH (wkA c T U O n a b u v m p q pl ph dl dh) k I)]),i (hdE c T U O n a b u v m p q pl ph dl dh I)]):=by
 refine GW (L:=[RH [rdE c T U O n a b u v m p q pl ph dl dh=0,0<=I/\I<=10000,drB (wkA c T U O n a b u v m p q pl ph dl dh)/\bdB (wkA c T U O n a b u v m p q pl ph dl dh)/\1<=c/\c<=10] (Zh3 c T U O n a b u v m p q pl ph dl dh I)]) (Ae LA (Ae Wl6 Aa)) (Aj (Af rE Ab) Ac (Ah zD (UV.nil _))) UI Tryz.func71 (GF Tryz.f71) (GJ (lpE (b:= .rangeFunc (rfF (UC (UP Tryz.f71) 0)) (xP (UC (UP Tryz.f71) 0)) Kc3 Kb3) UD<|BV (λh=>Jr7 c T U O n a b u v m p q pl ph dl dh I h.1 h.2.1 h.2.2))) (t:=let z0:=wkA c T U O n a b u v m p q pl ph dl dh;let z1:=rdE c T U O n a b u v m p q pl ph dl dh;let z2:=(leaf (RV.tup [RV.lst 2 (c-0+1).toNat λk=>[iI (onL (z0) k I),iI (onH (z0) k I)],RV.x (YF)]));let z3:=(leaf (RV.tup [RV.x (V6),RV.x (.int .i64 (2:Int))]));(need [G0 4 n λk=>[Bo.i (a k),Bo.i (b k),Bo.i (u k),Bo.i (v k)],G0 2 m λk=>[Pt.i (p k),Pt.i (q k)]] (branch (decide (z1=0)) (branch ((0:Int) != 0) (leaf (RV.tup [RV.x (V6),RV.x (YF)])) (branch (!bt (0:Int) I (10000:Int)) z3 (need [z1=0,(0:Int)<=I/\I<=10000,drB (z0)/\bdB (z0)/\(1:Int)<=c/\c<=10] (need [X7 c T U O n a b u v m p q pl ph dl dh,I=I,J4,KS,UJ (ptr 1 0),UJ (ptr 2 0),ZB=ZB,KF,UJ (ptr 10 0),KF,YC,ZX c=ZX c,0=0,∀(i:Nat),i<0->[]=[iI (onL (z0) i I),iI (onH (z0) i I)],UJ (AV.row 901),UJ (ZE c T U O n a b u v m p q pl ph dl dh),J4,I=I,c=c,T=T,U=U,O=O,V3 n a b u v,V7 m p q,pl=pl,ph=ph,dl=dl,dh=dh] z2)))) (branch (z1 != 0) (leaf (RV.tup [RV.x (V6),RV.x (.int .i64 (z1))])) (branch (!bt (0:Int) I (10000:Int)) z3 (need [z1=0,(0:Int)<=I/\I<=10000,drB (z0)/\bdB (z0)/\(1:Int)<=c/\c<=10] (need [X7 c T U O n a b u v m p q pl ph dl dh,I=I,J4,KS,UJ (ptr 1 0),UJ (ptr 2 0),ZB=ZB,KF,UJ (ptr 10 0),z1=0,YC,ZX c=ZX c,0=0,∀(i:Nat),i<0->[]=[iI (onL (z0) i I),iI (onH (z0) i I)],UJ (AV.row 901),AV.x (.pointer none)=roI [iI c,iI T,iI U,iI O,QR n a b u v,W2 m p q] 26 (λa_1=>z0 a_1) 0,J4,I=I,c=c,T=T,U=U,O=O,V3 n a b u v,V7 m p q,pl=pl,ph=ph,dl=dl,dh=dh] z2))))))) UD ?_
 simp only [U6.sat,UU,GS,H6,UX,G4,HU,L1,beq_iff_eq,beq_eq_false_iff_ne,Ax,Bool.not_eq_false',not_true_eq_false,false_imp_iff,true_imp_iff];have e2:rdE c T U O n a b u v m p q pl ph dl dh=0->bt 0 I 10000=false->hdE c T U O n a b u v m p q pl ph dl dh I=2:=λh h'=>by
  unfold hdE;rw [if_pos h,h'];rfl
 have e0:rdE c T U O n a b u v m p q pl ph dl dh=0->bt 0 I 10000=true->hdE c T U O n a b u v m p q pl ph dl dh I=0:=λh h'=>by
  unfold hdE;rw [if_pos h,h'];rfl
 have er: ¬rdE c T U O n a b u v m p q pl ph dl dh=0->hdE c T U O n a b u v m p q pl ph dl dh I=rdE c T U O n a b u v m p q pl ph dl dh:=λh=>if_neg h;have eN: ∀k:Int,hdE c T U O n a b u v m p q pl ph dl dh I=k->k≠0->(m6 (V6)/\hdN c T U O n a b u v m p q pl ph dl dh I=0)/\k=hdE c T U O n a b u v m p q pl ph dl dh I:=λk h hk=>⟨⟨by trivial,if_neg (by rw [h];exact hk)⟩,h.symm⟩
 have eP:rdE c T U O n a b u v m p q pl ph dl dh=0->bt 0 I 10000=true->hdN c T U O n a b u v m p q pl ph dl dh I=c.toNat+1:=λh h'=>if_pos (e0 h h');refine ⟨⟨Bo.isRec4 n a b u v,Pt.isRec2 m p q⟩,λh=>⟨λh'=>eN 2 (e2 h h') (by decide),λh'=>?_⟩,λh=>⟨λ_=>eN _ (er h) h,λh''=>absurd h'' h⟩⟩
 have hw:=eV h;have hb:=(bt_iff _ _ _).1 h';refine ⟨⟨h,hb,hw.1,hw.2.1,hw.2.2.1⟩,λj hj=>absurd hj (Aq _),⟨?_,λj _ x hx=>?_⟩,(e0 h h').symm⟩;rw [eP h h'];omega;simp only [HA,F8,or_false] at hx;rcases hx with rfl|rfl<;>exact Ak
end
def Qn7:GM
 |[.agg [.x (.int .i64 c),.x (.int .i64 T),.x (.int .i64 U),.x (.int .i64 O),.lst 4 n fr,.lst 2 m ft,.x (.int .i64 pl),.x (.int .i64 ph),.x (.int .i64 dl),.x (.int .i64 dh)],.x (.int .i64 I),.fn (.func 72) [] []]=>some ([G0 4 n fr,G0 2 m ft],.tup [.lst 2 (hdN c T U O n (col 0 fr) (col 1 fr) (col 2 fr) (col 3 fr) m (Pt.col 0 ft) (Pt.col 1 ft) pl ph dl dh I) (λk=>[i (onL (wkA c T U O n (col 0 fr) (col 1 fr) (col 2 fr) (col 3 fr) m (Pt.col 0 ft) (Pt.col 1 ft) pl ph dl dh) k I),i (onH (wkA c T U O n (col 0 fr) (col 1 fr) (col 2 fr) (col 3 fr) m (Pt.col 0 ft) (Pt.col 1 ft) pl ph dl dh) k I)]),i (hdE c T U O n (col 0 fr) (col 1 fr) (col 2 fr) (col 3 fr) m (Pt.col 0 ft) (Pt.col 1 ft) pl ph dl dh I)])
 |_=>none
theorem Wz7:UA U8 71 Qn7:=by
 refine ⟨(UZ Tryz.func71),?_⟩;intro avs ns res h S;unfold Qn7 at h;split at h;cases h;have hr:G0 4 _ _:=S _ H0;have ht:G0 2 _ _:=S _ (DB _ H0);exact (Wz8 _ _ _ _ _ _ _ _ _ _ _ _ _ _ _ _ _).same (.cons (PM.same (.cons (.refl _) (.cons (.refl _) (.cons (.refl _) (.cons (.refl _) (.cons (.lst 4 _ _ _ hr) (.cons (.lst 2 _ _ _ ht) (.cons (.refl _) (.cons (.refl _) (.cons (.refl _) (.cons (.refl _) .nil))))))))))) (.cons (.refl _) (.cons (.refl _) .nil)));cases h
theorem gM(c T U O:Int)(n:Nat)(a b u v:Cg)(m:Nat)(p q:Cg)(pl ph dl dh:Int)(I:Int):RB U8 43 [.agg [i c,i T,i U,i O,rds n a b u v,Pt.scs m p q,i pl,i ph,i dl,i dh],i I] (.tup [.lst 2 (hdN c T U O n a b u v m p q pl ph dl dh I) (λk=>[i (onL (wkA c T U O n a b u v m p q pl ph dl dh) k I),i (onH (wkA c T U O n a b u v m p q pl ph dl dh) k I)]),i (hdE c T U O n a b u v m p q pl ph dl dh I)]):=by
 refine DL (L:=[]) (Ae Wz7 Aa) Ad UI Tryz.func43 (GF Tryz.f43) GN (t:=need [G0 4 n λk=>[Bo.i (a k),Bo.i (b k),Bo.i (u k),Bo.i (v k)],G0 2 m λk=>[Pt.i (p k),Pt.i (q k)]] (leaf (tup [lst 2 (hdN c T U O n a b u v m p q pl ph dl dh I) λk=>[iI (onL (wkA c T U O n a b u v m p q pl ph dl dh) k I),iI (onH (wkA c T U O n a b u v m p q pl ph dl dh) k I)],iI (hdE c T U O n a b u v m p q pl ph dl dh I)]))) UD ?_;simp only [U6.sat,UU,G4];exact ⟨⟨Bo.isRec4 n a b u v,Pt.isRec2 m p q⟩,⟨rfl,rfl,λ_ _=>rfl⟩,⟨rfl,rfl⟩,Ak⟩
end Go.Proofs.YtakpdkmhclhlnaaGreatDoor
namespace Go.Proofs.YtakpdkmhclhlnaaGreatDoor.Hd
open Go Go.Sx Go.RowKit Bo
open Go.Sx.U6 (need branch leaf)
open Go.Sx.AV (lst ptr agg roI tup top)
def TR:GM
 |[.x (.int .i64 n),.x (.int .i64 U),.x (.int .i64 O)]=>some ([],bl (bt U n O))
 |_=>none
abbrev WP:Value:=Value.bool false
theorem VP{p:Prop}(h:p:=by
 simp only [U6.sat,UU,GS,H6,UX,G4];all_goals (simp+contextual [bt,insB,Bo.bt,Bo.insB,Bool.and_assoc]);all_goals omega):p:=h
theorem Qb7(n U O:Int):UH U8 122 [i n,i U,i O] (bl (bt U n O)):=by
 refine HL Tryz.func122 (t:=branch (decide (U<=n)) (leaf (RV.x (.bool (decide (n<=O))))) (leaf (RV.x (WP)))) UD ?_;exact VP
theorem jZ:UA U8 122 TR:=by
 refine ⟨(UZ Tryz.func122),?_⟩;intro avs ns res h S;unfold TR at h;split at h;cases h;exact Qb7 _ _ _;cases h
def TU:GM
 |[.agg [.x (.int .i64 a),.x (.int .i64 b)],.x (.int .i64 U),.x (.int .i64 O)]=>some ([],bl (insB U a b O))
 |_=>none
theorem Qc2(a b U O:Int):UH U8 163 [.agg [i a,i b],i U,i O] (bl (insB U a b O)):=by
 refine HL Tryz.func163 (t:=branch (decide (U<=a)) (branch (decide (a<=b)) (leaf (RV.x (.bool (decide (b<=O))))) (leaf (RV.x (WP)))) (leaf (RV.x (WP)))) UD ?_;exact VP
theorem N5:UA U8 163 TU:=by
 refine ⟨(UZ Tryz.func163),?_⟩;intro avs ns res h S;unfold TU at h;split at h;cases h;exact Qc2 _ _ _ _;cases h
def TS:GM
 |[.agg [.x (.int .i64 a),.x (.int .i64 b)]]=>some ([],bl (insB (-100) a b 100))
 |_=>none
theorem Qc1(a b:Int):UH U8 121 [.agg [i a,i b]] (bl (insB (-100) a b 100)):=by
 refine UL (L:=[]) (Ae N5 Aa) UI Tryz.func121 (GF Tryz.f121) UN (t:=leaf (RV.x (.bool (insB (-100:Int) a b (100:Int))))) UD ?_;exact VG
theorem Qc0:UA U8 121 TS:=by
 refine ⟨(UZ Tryz.func121),?_⟩;intro avs ns res h S;unfold TS at h;split at h;cases h;exact Qc1 _ _;cases h
def Qo1:GM
 |[.agg [.x (.int .i64 a),.x (.int .i64 b)]]=>some ([],bl (insB 0 a b 1000))
 |_=>none
theorem Xb7(a b:Int):UH U8 167 [.agg [i a,i b]] (bl (insB 0 a b 1000)):=by
 refine UL (L:=[]) (Ae N5 Aa) UI Tryz.func167 (GF Tryz.f167) UN (t:=leaf (RV.x (.bool (insB (0:Int) a b (1000:Int))))) UD ?_;exact VG
theorem nO:UA U8 167 Qo1:=by
 refine ⟨(UZ Tryz.func167),?_⟩;intro avs ns res h S;unfold Qo1 at h;split at h;cases h;exact Xb7 _ _;cases h
def cX:GM
 |[.x (.int .i64 n)]=>some ([0<=n/\n<=1000],i (1+n))
 |_=>none
theorem Xb0(n:Int)(UB:0<=n/\n<=1000):UH U8 54 [i n] (i (1+n)):=by
 refine HL Tryz.func54 (t:=need [U5 ((1:Int)+n)] (leaf (RV.x (.int .i64 ((1:Int)+n))))) UD ?_;simp only [U6.sat,UU,GS,H6,UX,U5,G4];all_goals first|omega|grind
theorem L9:UA U8 54 cX:=by
 refine ⟨(UZ Tryz.func54),?_⟩;intro avs ns res h S;unfold cX at h;split at h;cases h;exact Xb0 _ (S _ UE);cases h
def cY:GM
 |[.x (.int .i64 n)]=>some ([0<=n/\n<=1000],i (7+n))
 |_=>none
theorem Xb2(n:Int)(UB:0<=n/\n<=1000):UH U8 127 [i n] (i (7+n)):=by
 refine HL Tryz.func127 (t:=need [U5 ((7:Int)+n)] (leaf (RV.x (.int .i64 ((7:Int)+n))))) UD ?_;exact VU
theorem PL:UA U8 127 cY:=by
 refine ⟨(UZ Tryz.func127),?_⟩;intro avs ns res h S;unfold cY at h;split at h;cases h;exact Xb2 _ (S _ UE);cases h
def yQ:GM:=yO
theorem Qz4(a b:Int):UH U8 128 [.lst 1 2 (λk=>[i (if k=0 then a else b)])] (i (min a b)):=by
 refine UL (L:=[]) (Ae aI Aa) UI Tryz.func128 (GF Tryz.f128) UN (t:=leaf (RV.x (.int .i64 (min (if 0=0 then a else b) (if 1=0 then a else b))))) UD ?_
 simp [U6.sat,GS,UX]
theorem RX:UA U8 128 yQ:=by
 refine ⟨(UZ Tryz.func128),?_⟩;intro avs ns res h S;unfold yQ yO at h;split at h;rename_i f;split at h;rename_i a b h0 h1;cases h;refine (Qz4 a b).same (.cons (.lst 1 2 _ _ ?_) .nil);intro k hk;rcases (show k=0\/k=1 by omega) with rfl|rfl
 exact h0;exact h1;cases h;cases h
def oE:GM
 |[.agg [.lst 2 3 f,.x (.int .i64 er),.lst 3 N bf],.x (.int .i64 n)]=>some ([],bl (bt 0 n 2))
 |_=>none
theorem Qz5(f:Ci)(er:Int)(N:Nat)(bf:Ci)(n:Int):UH U8 166 [.agg [.lst 2 3 f,i er,.lst 3 N bf],i n] (bl (bt 0 n 2)):=by
 refine UL (L:=[]) (Ae jZ Aa) UI Tryz.func166 (GF Tryz.f166) UN (t:=need [U5 (((3:Nat):Int)-1)] (leaf (RV.x (.bool (bt (0:Int) n (((3:Nat):Int)-1)))))) UD ?_;simp [U6.sat,UU,GS,UX,U5]
theorem TD:UA U8 166 oE:=by
 refine ⟨(UZ Tryz.func166),?_⟩;intro avs ns res h S;unfold oE at h;split at h;cases h;exact Qz5 _ _ _ _ _;cases h
def snB(r:Cg):Nat->Int->Bool
 | 0,_=>false
 |k+1,q=>snB r k q||(r k==q)
theorem Qf5(r:Cg)(q:Int): ∀k,snB r k q=true↔ ∃j,j<k/\r j=q
 | 0=>by simp [snB]
 |k+1=>by
  simp only [snB,Bl,Qf5 r q k,beq_iff_eq];constructor;rintro (⟨j,h1,h2⟩|h);exact ⟨j,U3,h2⟩;exact ⟨k,U3,h⟩;rintro ⟨j,h1,h2⟩;rcases (show j<k\/j=k by omega) with h|rfl
  exact .inl ⟨j,h,h2⟩;exact .inr h2
abbrev bts(m:Nat)(r v:Cg):AV:= .lst 2 m (λj=>[i (r j),i (v j)])
abbrev WH(f:Ci):AV:=lst 2 3 λa=>f a
abbrev XD(m:Nat)(r:Cg)(v:Cg):AV:=lst 2 m λj=>[iI (r j),iI (v j)]
abbrev KC(N:Nat)(bf:Ci):AV:=lst 3 N λa=>bf a
section
variable (f:Ci)(er:Int)(N:Nat)(bf:Ci)(U O:Int)(m:Nat)(r v:Cg)
def Jb8:St:={σ:=[agg [WH f,iI er,KC N bf],agg [iI U,iI O,XD m r v],ptr 0 0,ptr 1 0,top,ptr 3 0,top,top,top,XD m r v,iI (m:Int)]++D6 28 [],m:=[(3,H9.cells 278 [AV.x (WP),AV.x (WP),AV.x (WP),AV.x (WP),AV.x (WP),AV.x (WP)]),(1,H9.cells 148 [iI U,iI O,XD m r v]),(0,H9.cells 59 [WH f,iI er,KC N bf])],nx:=8}
noncomputable def Kb6:Code:=UT (UC (UP Tryz.f124) 0)
def Ws2(k:Nat):St:=(upE [(11,i k)] [(3,.cells 278 [bl (snB r (k) 0),bl (snB r (k) 1),bl (snB r (k) 2),bl (snB r (k) 3),bl (snB r (k) 4),bl (snB r (k) 5)]),(1,.cells 148 [i U,i O,bts m r v]),(0,.cells 59 [.lst 2 3 f,i er,.lst 3 N bf])] (Jb8 f er N bf U O m r v))
def IJ(k:Nat):GR->Option St
 | .exit 0=>some (upE [] [(3,.cells 278 [bl (snB r (m) 0),bl (snB r (m) 1),bl (snB r (m) 2),bl (snB r (m) 3),bl (snB r (m) 4),bl (snB r (m) 5)]),(1,.cells 148 [i U,i O,bts m r v]),(0,.cells 59 [.lst 2 3 f,i er,.lst 3 N bf])] (Jb8 f er N bf U O m r v))
 |_=>none
def Jx4:CT:= .leaf (.exit 0,(IJ f er N bf U O m r v 0 (.exit 0)).getD (Jb8 f er N bf U O m r v))
def Zh6:G5:=(D1 (Ws2 f er N bf U O m r v (0)) (Jx4 f er N bf U O m r v))
end
abbrev QO:Prop:=ptr 0 0=ptr 0 0
abbrev XN:Prop:=ptr 1 0=ptr 1 0
abbrev ZI:Prop:=ptr 3 0=ptr 3 0
theorem VF{p:Prop}(h:p:=by
 (with_reducible repeat' first|apply Al|intro _)
 all_goals first|exact Ak|omega|with_reducible rfl|(rename_i E hE;cases hE;exact hQ)|rfl):p:=h
section
variable (f:Ci)(er:Int)(N:Nat)(bf:Ci)(U O:Int)(m:Nat)(r v:Cg)
theorem Jt0(UB:m<=1000)(UY: ∀j,j<m->0<=r j/\r j<=2/\ -1000<=v j/\v j<=2000)(DF: ∀j k,j<k->k<m->r j≠r k)(FS:insB 0 U O 1000=true):GU U8 (.loop Kb6) (Zh6 f er N bf U O m r v):=by
 refine D4 (L:=[]) (Ae TD (Ae jZ (Ae nO Aa))) UI UN (X:=Nat) (Ws2 f er N bf U O m r v) (λk=>k<=m) (λk=>m-k) (IJ f er N bf U O m r v) (x0:=0) UE ?_ ?_ ?_;rintro k;kernel_rfl;rintro k y E h;unfold IJ at h;split at h;cases h;kernel_rfl;cases h;rintro Q hQ k hx;refine ⟨(k+1),?_⟩;(with_reducible refine F4 (t:=branch (decide ((k:Int)<(m:Int))) (need [G7 k m] (branch (!bt (0:Int) (r k) (2:Int)) U6.fail (need [G7 (r k) 6] (need [0+(r k).toNat*1<List.length [snB r k (0:Int),snB r k (1:Int),snB r k (2:Int),snB r k (3:Int),snB r k (4:Int),snB r k (5:Int)]] (branch (match [snB r k (0:Int),snB r k (1:Int),snB r k (2:Int),snB r k (3:Int),snB r k (4:Int),snB r k (5:Int)][0+(r k).toNat*1]? with|some x=>x|none=>false) U6.fail (branch (!bt (-1000:Int) (v k) (2000:Int)) U6.fail (need [G7 (r k) 6] (need [0+(r k).toNat*1<List.length [snB r k (0:Int),snB r k (1:Int),snB r k (2:Int),snB r k (3:Int),snB r k (4:Int),snB r k (5:Int)]] (need [U5 ((k:Int)+1)] (need [UJ (agg [WH f,iI er,KC N bf]),UJ (agg [iI U,iI O,XD m r v]),QO,XN,ZI,UJ (XD m r v),UJ (m:Int),(k:Int)+1=(↑(k+1):Int),(if 0=0+(r k).toNat*1 then true else snB r k (0:Int))=snB r (k+1) (0:Int),(if 1=0+(r k).toNat*1 then true else snB r k (1:Int))=snB r (k+1) (1:Int),(if 2=0+(r k).toNat*1 then true else snB r k (2:Int))=snB r (k+1) (2:Int),(if 3=0+(r k).toNat*1 then true else snB r k (3:Int))=snB r (k+1) (3:Int),(if 4=0+(r k).toNat*1 then true else snB r k (4:Int))=snB r (k+1) (4:Int),(if 5=0+(r k).toNat*1 then true else snB r k (5:Int))=snB r (k+1) (5:Int),U=U,O=O,UJ (XD m r v),WH f=WH f,er=er,UJ (KC N bf)] (leaf GR.normal))))))))))) (need [UJ (agg [WH f,iI er,KC N bf]),UJ (agg [iI U,iI O,XD m r v]),QO,XN,ZI,UJ (XD m r v),UJ (m:Int),snB r k (0:Int)=snB r m (0:Int),snB r k (1:Int)=snB r m (1:Int),snB r k (2:Int)=snB r m (2:Int),snB r k (3:Int)=snB r m (3:Int),snB r k (4:Int)=snB r m (4:Int),snB r k (5:Int)=snB r m (5:Int),U=U,O=O,UJ (XD m r v),WH f=WH f,er=er,UJ (KC N bf)] (leaf (GR.exit 0)))) UD ?_)
 simp only [Jx4,IJ,U6.sat,HF] at hQ;simp only [U6.sat,UU,GS,H6,UX,U5,G4,HU,RW,L1,LP,HC,IJ]
 refine ⟨λh=>?_,λh=>?_⟩
 ·obtain ⟨h0,h1,h2,h3⟩:=UY k U3;have hno:snB r k (r k)=false:=by
   rw [←Bool.not_eq_true,Qf5];rintro ⟨j,hj,he⟩;exact DF j k hj U3 he
  have hb1:bt 0 (r k) 2=true:=(bt_iff _ _ _).2 U3;have hb2:bt (-1000) (v k) 2000=true:=(bt_iff _ _ _).2 U3;rcases (show r k=0\/r k=1\/r k=2 by omega) with hr|hr|hr
  all_goals
   rw [hr] at hno hb1;simp [hr,hno,hb1,hb2,snB];exact VF
 obtain rfl:k=m:=U3;exact VF
theorem Xc0(UB:m<=1000)(UY: ∀j,j<m->0<=r j/\r j<=2/\ -1000<=v j/\v j<=2000)(DF: ∀j k,j<k->k<m->r j≠r k)(FS:insB 0 U O 1000=true):UH U8 124 [.agg [.lst 2 3 f,i er,.lst 3 N bf],.agg [i U,i O,bts m r v]] (bl true):=by
 refine UL (L:=[Zh6 f er N bf U O m r v]) (Ae TD (Ae jZ (Ae nO Aa))) UI Tryz.func124 (GF Tryz.f124) (GJ (lpE (b:= .loop Kb6) UD<|Jt0 f er N bf U O m r v UB UY DF FS)) (t:=need [UJ (agg [WH f,iI er,KC N bf]),UJ (agg [iI U,iI O,XD m r v]),QO,XN,ZI,UJ (XD m r v),UJ (m:Int),(0:Int)=((0:Nat):Int),false=snB r 0 (0:Int),false=snB r 0 (1:Int),false=snB r 0 (2:Int),false=snB r 0 (3:Int),false=snB r 0 (4:Int),false=snB r 0 (5:Int),U=U,O=O,UJ (XD m r v),WH f=WH f,er=er,UJ (KC N bf)] (leaf (RV.x (.bool (insB (0:Int) U O (1000:Int)))))) UD ?_
 exact VG
end
def Qs7(m:Nat)(r v:Cg):Prop:=m<=1000/\(∀j,j<m->0<=r j/\r j<=2/\ -1000<=v j/\v j<=2000)/\ ∀j k,j<k->k<m->r j≠r k
section
variable (N:Nat)(U O:Cg)(m:Ch)(g:Nat->Ci)
abbrev bgs:AV:= .lst 3 N (λk=>[i (U k),i (O k),.lst 2 (m k) (g k)])
def Qz1:Prop:= ∀k,k<N->G0 2 (m k) (g k)/\Qs7 (m k) (col 0 (g k)) (col 1 (g k))/\insB 0 (U k) (O k) 1000=true
end
def vB(N:Nat)(bf:Ci):Prop:=N<=6/\ ∃(U O:Cg) (m:Ch) (g:Nat->Ci),(∀k,k<N->bf k=[i (U k),i (O k),.lst 2 (m k) (g k)])/\Qz1 N U O m g
def Qo2:GM
 |[.agg [.lst 2 3 f,.x (.int .i64 er),.lst 3 N bf],.agg [.x (.int .i64 U),.x (.int .i64 O),.lst 2 m g]]=>some ([G0 2 m g,Qs7 m (col 0 g) (col 1 g),insB 0 U O 1000=true],bl true)
 |_=>none
theorem Xb9:UA U8 124 Qo2:=by
 refine ⟨(UZ Tryz.func124),?_⟩;intro avs ns res h S;unfold Qo2 at h;split at h;cases h;have hr:_:=S _ (H0);have hr1:_:=S _ (DB _ (H0));have hr2:_:=S _ (DB _ (DB _ (H0)));exact (Xc0 _ _ _ _ _ _ _ (col 0 _) (col 1 _) hr1.1 hr1.2.1 hr1.2.2 hr2).same (.cons (.refl _) (.cons (PM.same (.cons (.refl _) (.cons (.refl _) (.cons (.lst 2 _ _ _ hr) .nil)))) .nil));cases h
def oG:GM
 |[.agg [.x (.int .i64 U),.x (.int .i64 O),.lst 2 m g],.ro [.fn (.func 124) [.agg [.lst 2 3 f,.x (.int .i64 er),.lst 3 N bf]] []]]=>some ([G0 2 m g,Qs7 m (col 0 g) (col 1 g),insB 0 U O 1000=true],bl false)
 |_=>none
theorem Qz7(U O:Int)(m:Nat)(g:Ci)(f:Ci)(er:Int)(N:Nat)(bf:Ci)(UB:G0 2 m g)(UY:Qs7 m (col 0 g) (col 1 g))(DF:insB 0 U O 1000=true):UH U8 165 [.agg [i U,i O,.lst 2 m g],.ro [.fn (.func 124) [.agg [.lst 2 3 f,i er,.lst 3 N bf]] []]] (bl false):=by
 refine UL (L:=[]) (Ae Xb9 Aa) UI Tryz.func165 (GF Tryz.f165) UN (t:=need [G0 2 m g,Qs7 m (col 0 g) (col 1 g),insB (0:Int) U O (1000:Int)=true] (leaf (RV.x (.bool !true)))) UD ?_;exact VG
theorem TF:UA U8 165 oG:=by
 refine ⟨(UZ Tryz.func165),?_⟩;intro avs ns res h S;unfold oG at h;split at h;cases h;exact Qz7 _ _ _ _ _ _ _ _ (S _ UE) (S _ UE) (S _ UE);cases h
abbrev XO(f:Ci)(er:Int)(N1:Nat)(bf:Ci):AV:=AV.fn (Fn.func 165) [] [AV.ro [AV.fn (Fn.func 124) [agg [WH f,iI er,lst 3 N1 λa=>bf a]] []]]
section
variable (N:Nat)
abbrev J7(U:Cg)(O:Cg)(m:Ch)(g:Nat->Ci):AV:=lst 3 N λk=>[iI (U k),iI (O k),lst 2 (m k) λa=>g k a]
def eE(U O:Cg)(m:Ch)(g:Nat->Ci)(f:Ci)(er:Int)(N1:Nat)(bf:Ci):St:={σ:=[J7 N U O m g,XO f er N1 bf]++D6 5 [iI (N:Int)]++D6 11 [],m:=[],nx:=4}
noncomputable def Qr2:Code:=UT (UC (UP Tryz.f198) 0)
def SM(U O:Cg)(m:Ch)(g:Nat->Ci)(f:Ci)(er:Int)(N1:Nat)(bf:Ci)(k:Nat):St:=(upM [(8,i k)] (eE N U O m g f er N1 bf))
def zH(U O:Cg)(m:Ch)(g:Nat->Ci)(f:Ci)(er:Int)(N1:Nat)(bf:Ci)(k:Nat):GR->Option St
 | .exit 0=>some (upM [] (eE N U O m g f er N1 bf))
 |_=>none
def Qm5(U O:Cg)(m:Ch)(g:Nat->Ci)(f:Ci)(er:Int)(N1:Nat)(bf:Ci):CT:= .leaf (.exit 0,(zH N U O m g f er N1 bf 0 (.exit 0)).getD (eE N U O m g f er N1 bf))
def oQ(U O:Cg)(m:Ch)(g:Nat->Ci)(f:Ci)(er:Int)(N1:Nat)(bf:Ci):G5:=(D1 (SM N U O m g f er N1 bf (0)) (Qm5 N U O m g f er N1 bf))
end
theorem U0{p:Prop}(h:p:=by
 (with_reducible repeat' first|apply Al|intro _)
 all_goals first|exact Ak|(rename_i E hE;cases hE;exact hQ)|omega|rfl|assumption):p:=h
section
variable (N:Nat)(U O:Cg)(m:Ch)(g:Nat->Ci)(f:Ci)(er:Int)(N1:Nat)(bf:Ci)
theorem Wb9(UB:N<=6)(UY:Qz1 N U O m g):GU U8 (.loop Qr2) (oQ N U O m g f er N1 bf):=by
 refine D4 (L:=[]) (Ae TF Aa) UI UN (X:=Nat) (SM N U O m g f er N1 bf) (λk=>k<=N) (λk=>N-k) (zH N U O m g f er N1 bf) (x0:=0) UE ?_ ?_ ?_;rintro k;kernel_rfl;rintro k y E h;unfold zH at h;split at h;cases h;kernel_rfl;cases h;rintro Q hQ k hx;refine ⟨(k+1),?_⟩;(with_reducible refine F4 (t:=branch (decide ((k:Int)<(N:Int))) (need [G7 k N] (need [G0 2 (m k) λa=>g k a,Qs7 (m k) (col 0 λa=>g k a) (col 1 λa=>g k a),insB (0:Int) (U k) (O k) (1000:Int)=true] (branch false U6.fail (need [U5 ((k:Int)+1)] (need [UJ (J7 N U O m g),UJ (XO f er N1 bf),UJ (N:Int),(k:Int)+1=(↑(k+1):Int)] (leaf GR.normal)))))) (need [UJ (J7 N U O m g),UJ (XO f er N1 bf),UJ (N:Int)] (leaf (GR.exit 0)))) UD ?_)
 simp only [Qm5,zH,U6.sat,HF] at hQ;simp only [U6.sat,UU,G4,HU,U5,zH,FA]
 refine ⟨λh=>?_,λh=>?_⟩
 ·have hk:k<N:=U3;obtain ⟨h1,h2,h3⟩:=UY k hk;all_goals exact VM
 obtain rfl:k=N:=U3;exact U0
abbrev KR:Value:=Value.int IntKind.i64 (-1:Int)
theorem Xt4(UB:N<=6)(UY:Qz1 N U O m g):UH U8 198 [bgs N U O m g,.fn (.func 165) [] [.ro [.fn (.func 124) [.agg [.lst 2 3 f,i er,.lst 3 N1 bf]] []]]] (i (-1)):=by
 refine UL (L:=[oQ N U O m g f er N1 bf]) (Ae TF Aa) UI Tryz.func198 (GF Tryz.f198) (GJ (lpE (b:= .loop Qr2) UD<|Wb9 N U O m g f er N1 bf UB UY)) (t:=need [UJ (J7 N U O m g),UJ (XO f er N1 bf),UJ (N:Int),(0:Int)=((0:Nat):Int)] (leaf (RV.x (KR)))) UD ?_
 exact VG
end
def Xe4:GM
 |[.lst 3 N b,.fn (.func 165) [] [.ro [.fn (.func 124) [.agg [.lst 2 3 f,.x (.int .i64 er),.lst 3 N1 bf]] []]]]=>some ([vB N b],i (-1))
 |_=>none
theorem Xt3:UA U8 198 Xe4:=by
 refine ⟨(UZ Tryz.func198),?_⟩;intro avs ns res h S;unfold Xe4 at h;split at h;cases h;obtain ⟨h0,U,O,m,g,he,hb⟩:vB _ _:=S _ H0;exact (Xt4 _ U O m g _ _ _ _ h0 hb).same (.cons (.lst 3 _ _ _ he) (.cons (.refl _) .nil));cases h
theorem Wf6{N:Nat}{U O:Cg}{m:Ch}{g:Nat->Ci}(h0:N<=6)(hb:Qz1 N U O m g):vB N (λk=>[i (U k),i (O k),.lst 2 (m k) (g k)]):=⟨h0,U,O,m,g,λ_ _=>rfl,hb⟩
theorem Xu3(N:Nat)(U O:Cg)(m:Ch)(g:Nat->Ci)(f:Ci)(er:Int)(N1:Nat)(bf:Ci)(UB:N<=6)(UY:Qz1 N U O m g):UH U8 164 [bgs N U O m g,.fn (.func 165) [] [.ro [.fn (.func 124) [.agg [.lst 2 3 f,i er,.lst 3 N1 bf]] []]]] (bl false):=by
 refine UL (L:=[]) (Ae Xt3 Aa) UI Tryz.func164 (GF Tryz.f164) UN (t:=need [vB N λk=>[i (U k),i (O k),lst 2 (m k) (g k)]] (leaf (RV.x (.bool (decide ((-1:Int)>=(0:Int))))))) UD ?_;simp only [U6.sat,UU,GS,H6,UX,G4,FA];exact ⟨Wf6 UB UY,rfl⟩
def Xe8:GM
 |[.lst 3 N b,.fn (.func 165) [] [.ro [.fn (.func 124) [.agg [.lst 2 3 f,.x (.int .i64 er),.lst 3 N1 bf]] []]]]=>some ([vB N b],bl false)
 |_=>none
theorem Xu2:UA U8 164 Xe8:=by
 refine ⟨(UZ Tryz.func164),?_⟩;intro avs ns res h S;unfold Xe8 at h;split at h;cases h;obtain ⟨h0,U,O,m,g,he,hb⟩:vB _ _:=S _ H0;exact (Xu3 _ U O m g _ _ _ _ h0 hb).same (.cons (.lst 3 _ _ _ he) (.cons (.refl _) .nil));cases h
theorem Xc4(N:Nat)(U O:Cg)(m:Ch)(g:Nat->Ci)(f:Ci)(er:Int)(N1:Nat)(bf:Ci)(UB:N<=6)(UY:Qz1 N U O m g):UH U8 123 [bgs N U O m g,.fn (.func 124) [.agg [.lst 2 3 f,i er,.lst 3 N1 bf]] []] (bl true):=by
 refine UL (L:=[]) (Ae Xu2 Aa) UI Tryz.func123 (GF Tryz.f123) UN (t:=need [vB N λk=>[i (U k),i (O k),lst 2 (m k) (g k)]] (leaf (RV.x (.bool !false)))) UD ?_;simp only [U6.sat,UU,GS,H6,UX,G4,FA];exact ⟨Wf6 UB UY,rfl⟩
def Qo4:GM
 |[.lst 3 N b,.fn (.func 124) [.agg [.lst 2 3 f,.x (.int .i64 er),.lst 3 N1 bf]] []]=>some ([vB N b],bl true)
 |_=>none
theorem Xc3:UA U8 123 Qo4:=by
 refine ⟨(UZ Tryz.func123),?_⟩;intro avs ns res h S;unfold Qo4 at h;split at h;cases h;obtain ⟨h0,U,O,m,g,he,hb⟩:vB _ _:=S _ H0;exact (Xc4 _ U O m g _ _ _ _ h0 hb).same (.cons (.lst 3 _ _ _ he) (.cons (.refl _) .nil));cases h
def oL(k:Nat):Int:=if k=0 then 0 else -9
def oH(k:Nat):Int:=if k=0 then 0 else 9
def ofB(f:Ci):Prop:= ∀k,k<3->f k=[i (oL k),i (oH k)]
abbrev ofs:AV:= .lst 2 3 (λk=>[i (oL k),i (oH k)])
def HZ(m:Ch):Nat->Nat
 | 0=>0
 |b+1=>HZ m b+m b
def GZ(m:Ch):Nat->Nat->Nat×Nat
 | 0,q=>(0,q)
 |N+1,q=>if q<HZ m N then GZ m N q else (N,q-HZ m N)
def Wj5(m:Ch)(N:Nat)(r v:Nat->Cg)(q:Nat):List Value:=
 [.agg #[.int .i64 (GZ m N q).1,.int .i64 (GZ m N q).2],.agg #[.int .i64 (r (GZ m N q).1 (GZ m N q).2),.int .i64 (v (GZ m N q).1 (GZ m N q).2)]]
abbrev bds(N:Nat)(U O:Cg)(m:Ch)(r v:Nat->Cg):AV:= .lst 3 N (λk=>[i (U k),i (O k),bts (m k) (r k) (v k)])
theorem cG{P:Program}{ro:Option Nat}{cx:Cx}{c:Code}{t:Nat}{F:Nat->G5}(h: ∀k,D7 P ro cx c (F k)):D7 P ro cx c (qM t F):=by
 intro n s tr ht Q hQ a w r;unfold qM at ht;split at ht;exact h _ n s tr ht Q hQ a w r;cases ht
theorem S7(m:Ch){b c:Nat}(h:b<=c):HZ m b<=HZ m c:=by
 induction h with
 |refl=>exact Am _
 |step _ ih=>exact Ar ih (Nat.le_add_right _ _)
theorem Qh8(m:Ch): ∀(N b n:Nat),b<N->n<m b->GZ m N (HZ m b+n)=(b,n)
 | 0,_,_,h,_=>U3
 |N+1,b,n,h,S=>by
  unfold GZ;rcases (show b<N\/b=N by omega) with hb|rfl
  have:=S7 m (show b+1<=N by omega)
  simp only [HZ] at this;rw [if_pos U3,Qh8 m N b n hb S];rw [if_neg U3];simp
theorem bM(m:Ch): ∀(N q:Nat),q<HZ m N->(GZ m N q).1<N/\(GZ m N q).2<m (GZ m N q).1
 | 0,_,h=>by simp [HZ] at h
 |N+1,q,h=>by
  simp only [HZ] at h;unfold GZ;split;rename_i hq;obtain ⟨h1,h2⟩:=bM m N q hq;exact ⟨U3,h2⟩;exact ⟨UE,by simp;omega⟩
def oF:GM
 |[.agg [.x (.int .i64 a),.x (.int .i64 b)],.ro [.fn (.func 121) [] []]]=>some ([],bl (!insB (-100) a b 100))
 |_=>none
theorem Qz6(a b:Int):UH U8 162 [.agg [i a,i b],.ro [.fn (.func 121) [] []]] (bl (!insB (-100) a b 100)):=by
 refine UL (L:=[]) (Ae Qc0 Aa) UI Tryz.func162 (GF Tryz.f162) UN (t:=leaf (RV.x (.bool !insB (-100:Int) a b (100:Int)))) UD ?_;exact VG
theorem TE:UA U8 162 oF:=by
 refine ⟨(UZ Tryz.func162),?_⟩;intro avs ns res h S;unfold oF at h;split at h;cases h;exact Qz6 _ _;cases h
abbrev ZF:AV:=AV.fn (Fn.func 162) [] [AV.ro [AV.fn (Fn.func 121) [] []]]
def eC:St:={σ:=[lst 2 3 λk=>[iI (oL k),iI (oH k)],ZF]++D6 5 [iI ((3:Nat):Int)]++D6 11 [],m:=[],nx:=4}
noncomputable def Qr1:Code:=UT (UC (UP Tryz.f197) 0)
def SL(k:Nat):St:=(upM [(8,i k)] (eC))
def zG(k:Nat):GR->Option St
 | .exit 0=>some (upM [] (eC))
 |_=>none
def Qm4:CT:= .leaf (.exit 0,(zG 0 (.exit 0)).getD (eC))
def oP:G5:=(D1 (SL (0)) (Qm4))
theorem Wb8:GU U8 (.loop Qr1) (oP):=by
 refine D4 (L:=[]) (Ae TE Aa) UI UN (X:=Nat) (SL) (λk=>k<=3) (λk=>3-k) (zG) (x0:=0) UE ?_ ?_ ?_;rintro k;kernel_rfl;rintro k y E h;unfold zG at h;split at h;cases h;kernel_rfl;cases h;rintro Q hQ k hx;refine ⟨(k+1),?_⟩;(with_reducible refine F4 (t:=branch (decide ((k:Int)<((3:Nat):Int))) (need [G7 k 3] (branch (!insB (-100:Int) (oL k) (oH k) (100:Int)) U6.fail (need [U5 ((k:Int)+1)] (need [UJ (lst 2 3 λk=>[iI (oL k),iI (oH k)]),ZF=ZF,UJ ((3:Nat):Int),(k:Int)+1=(↑(k+1):Int)] (leaf GR.normal))))) (need [UJ (lst 2 3 λk=>[iI (oL k),iI (oH k)]),ZF=ZF,UJ ((3:Nat):Int)] (leaf (GR.exit 0)))) UD ?_)
 simp only [Qm4,zG,U6.sat,HF] at hQ;simp only [U6.sat,UU,G4,HU,U5,zG,FA]
 refine ⟨λh=>?_,λh=>?_⟩
 ·have hk:k<3:=U3;rcases (show k=0\/k=1\/k=2 by omega) with rfl|rfl|rfl<;>simp [oL,oH,insB,Bo.insB]
  all_goals exact VM
 obtain rfl:k=3:=U3;exact U0
theorem Xt2:UH U8 197 [ofs,.fn (.func 162) [] [.ro [.fn (.func 121) [] []]]] (i (-1)):=by
 refine UL (L:=[oP]) (Ae TE Aa) UI Tryz.func197 (GF Tryz.f197) (GJ (lpE (b:= .loop Qr1) UD<|Wb8)) (t:=need [UJ (lst 2 3 λk=>[iI (oL k),iI (oH k)]),ZF=ZF,UJ ((3:Nat):Int),(0:Int)=((0:Nat):Int)] (leaf (RV.x (KR)))) UD ?_
 exact VG
def Xe3:GM
 |[.lst 2 3 f,.fn (.func 162) [] [.ro [.fn (.func 121) [] []]]]=>some ([ofB f],i (-1))
 |_=>none
theorem Xt1:UA U8 197 Xe3:=by
 refine ⟨(UZ Tryz.func197),?_⟩;intro avs ns res h S;unfold Xe3 at h;split at h;cases h;have hr:_:=S _ (H0);exact (Xt2).same (.cons (.lst 2 3 _ _ hr) (.cons (.refl _) .nil));cases h
theorem Xu1:UH U8 161 [ofs,.fn (.func 162) [] [.ro [.fn (.func 121) [] []]]] (bl false):=by
 refine UL (L:=[]) (Ae Xt1 Aa) UI Tryz.func161 (GF Tryz.f161) UN (t:=need [ofB λk=>[i (oL k),i (oH k)]] (leaf (RV.x (.bool (decide ((-1:Int)>=(0:Int))))))) UD ?_;simp only [U6.sat,UU,GS,H6,UX,G4,FA];exact ⟨λ_ _=>rfl,rfl⟩
def Xe7:GM
 |[.lst 2 3 f,.fn (.func 162) [] [.ro [.fn (.func 121) [] []]]]=>some ([ofB f],bl false)
 |_=>none
theorem Xu0:UA U8 161 Xe7:=by
 refine ⟨(UZ Tryz.func161),?_⟩;intro avs ns res h S;unfold Xe7 at h;split at h;cases h;have hr:_:=S _ (H0);exact (Xu1).same (.cons (.lst 2 3 _ _ hr) (.cons (.refl _) .nil));cases h
theorem Xc2:UH U8 120 [ofs,.fn (.func 121) [] []] (bl true):=by
 refine UL (L:=[]) (Ae Xu0 Aa) UI Tryz.func120 (GF Tryz.f120) UN (t:=need [ofB λk=>[i (oL k),i (oH k)]] (leaf (RV.x (.bool !false)))) UD ?_;simp only [U6.sat,UU,GS,H6,UX,G4,FA];exact ⟨λ_ _=>rfl,rfl⟩
def Qo3:GM
 |[.lst 2 3 f,.fn (.func 121) [] []]=>some ([ofB f],bl true)
 |_=>none
theorem Xc1:UA U8 120 Qo3:=by
 refine ⟨(UZ Tryz.func120),?_⟩;intro avs ns res h S;unfold Qo3 at h;split at h;cases h;have hr:_:=S _ (H0);exact (Xc2).same (.cons (.lst 2 3 _ _ hr) (.cons (.refl _) .nil));cases h
def oI:GM
 |[.agg [.lst 2 3 f,.x (.int .i64 1),.lst 3 N bf]]=>some ([ofB f,vB N bf],i 0)
 |_=>none
abbrev X3:Value:=Value.int IntKind.i64 (0:Int)
abbrev K5:Value:=Value.int IntKind.i64 (1:Int)
abbrev KT:Value:=Value.int IntKind.i64 (3:Int)
theorem Qz9(f:Ci)(N:Nat)(bf:Ci)(UB:ofB f)(UY:vB N bf):UH U8 78 [.agg [.lst 2 3 f,i 1,.lst 3 N bf]] (i 0):=by
 refine UL (L:=[]) (Ae Xc1 (Ae Xc3 (Ae jZ Aa))) UI Tryz.func78 (GF Tryz.f78) UN (t:=branch (decide (((3:Nat):Int)>6)) (leaf (RV.x (KT))) (branch (decide ((N:Int)>6)) (leaf (RV.x (KT))) (branch (((3:Nat):Int)==0) (leaf (RV.x (K5))) (need [ofB f] (branch (!true) (leaf (RV.x (K5))) (branch (!bt (0:Int) (1:Int) (20:Int)) (leaf (RV.x (K5))) (need [vB N bf] (branch (!true) (leaf (RV.x (K5))) (leaf (RV.x (X3))))))))))) UD ?_;simp only [U6.sat,UU,GS,H6,UX,G4,FA];have h6:=UY.1;simp [bt,Bo.bt,UB,UY];omega
theorem Qz8:UA U8 78 oI:=by
 refine ⟨(UZ Tryz.func78),?_⟩;intro avs ns res h S;unfold oI at h;split at h;cases h;exact Qz9 _ _ _ (S _ UE) (S _ UE);cases h
def NK:GM
 |[.agg [.lst 2 3 f,.x (.int .i64 er),.lst 3 N bf]]=>some ([],.fn (.func 168) [] [.ro [.lst 2 3 f,i er,.lst 3 N bf]])
 |_=>none
abbrev WI:Ext:={}
theorem Qz2(f:Ci)(er:Int)(N:Nat)(bf:Ci):RB U8 125 [.agg [.lst 2 3 f,i er,.lst 3 N bf]] (.fn (.func 168) [] [.ro [.lst 2 3 f,i er,.lst 3 N bf]]):=by
 refine DL (L:=[]) Aa Ad UI Tryz.func125 (GF Tryz.f125) GN (t:=leaf (AV.fn (Fn.func 168) [] [AV.ro [WH f,iI er,KC N bf]])) UD ?_;exact rfl
theorem N0:PS U8 125 NK:=by
 refine ⟨(UZ Tryz.func125),?_⟩;intro avs ns res h S;unfold NK at h;split at h;cases h;exact Qz2 _ _ _ _;cases h
abbrev Q1(N:Nat)(U:Cg)(O:Cg)(m:Ch)(r:Nat->Cg)(v:Nat->Cg):AV:=lst 3 N λk=>[iI (U k),iI (O k),lst 2 (m k) λj=>[iI (r k j),iI (v k j)]]
section
variable (l:Nat)(f:Ci)(er:Int)(N:Nat)(U O:Cg)(m:Ch)(r v:Nat->Cg)
def pB:St:={σ:=[AV.fn (Fn.yield l) [] [],AV.ro [WH f,iI er,Q1 N U O m r v]]++D6 6 [Q1 N U O m r v,iI (N:Int)]++D6 22 [],m:=[],nx:=4,gh:=some 0}
noncomputable def pD:Code:=UT (UC (UP Tryz.f168) 0)
def CD(b:Nat):St:={σ:=HI [(3,.top),(4,.top),(5,.top),(6,.top),(10,i b)] (pB l f er N U O m r v).σ,m:=[],nx:=0,gh:=some (HZ m b) }
def wX(b:Nat):GR->Option St
 | .exit 0=>some {σ:=HI [(3,.top),(4,.top),(5,.top),(6,.top),(10,i N)] (pB l f er N U O m r v).σ,m:=[],nx:=0,gh:=some (HZ m N) }
 | .ret=>some {σ:=HI [(3,.top),(4,.top),(5,.top),(6,.top)] (pB l f er N U O m r v).σ,m:=[],nx:=0,gh:=none}
 |_=>none
def Zc2:CT:= .may True (.leaf (.exit 0,(wX l f er N U O m r v 0 (.exit 0)).getD (pB l f er N U O m r v))) (.leaf (.ret,(wX l f er N U O m r v 0 .ret).getD (pB l f er N U O m r v)))
def Xh2:G5:=H4 [] (D1 (CD l f er N U O m r v (0)) (Zc2 l f er N U O m r v))
end
abbrev K2(m:Ch)(b:Nat)(r:Nat->Cg)(v:Nat->Cg):AV:=lst 2 (m b) λj=>[iI (r b j),iI (v b j)]
section
variable (l:Nat)(f:Ci)(er:Int)(N:Nat)(U O:Cg)(m:Ch)(r v:Nat->Cg)(b:Nat)
def pC:St:={σ:=[AV.fn (Fn.yield l) [] [],AV.ro [WH f,iI er,Q1 N U O m r v],top,iI (b:Int),ptr 4 0,top,top,top,Q1 N U O m r v,iI (N:Int),iI (b:Int)]++D6 5 [K2 m b r v,iI (m b:Int)]++D6 14 [],m:=[(4,H9.cells 148 [iI (U b),iI (O b),K2 m b r v])],nx:=11,gh:=some (HZ m b) }
noncomputable def Xk3:Code:=UT (UC pD 0)
def CE(n:Nat):St:={σ:=HI [(4,.top),(5,.top),(6,.top),(18,i n)] (pC l f er N U O m r v b).σ,m:=[],nx:=0,gh:=some (HZ m b+n) }
def wY(n:Nat):GR->Option St
 | .exit 2=>some {σ:=HI [(3,.top),(4,.top),(5,.top),(6,.top),(18,i (m b))] (pC l f er N U O m r v b).σ,m:=[],nx:=0,gh:=some (HZ m (b+1)) }
 | .ret=>some {σ:=HI [(3,.top),(4,.top),(5,.top),(6,.top)] (pC l f er N U O m r v b).σ,m:=[],nx:=0,gh:=none}
 |_=>none
def Zc3:CT:= .may True (.leaf (.exit 2,(wY l f er N U O m r v b 0 (.exit 2)).getD (pC l f er N U O m r v b))) (.leaf (.ret,(wY l f er N U O m r v b 0 .ret).getD (pC l f er N U O m r v b)))
def Qe1:G5:=H4 [] (D1 (CE l f er N U O m r v b (0)) (Zc3 l f er N U O m r v b))
end
abbrev W8(l:Nat):Prop:=AV.fn (Fn.yield l) [] []=AV.fn (Fn.yield l) [] []
abbrev WV(N:Nat)(U:Cg)(O:Cg)(m:Ch)(r:Nat->Cg)(v:Nat->Cg):Prop:=(Q1 N U O m r v)=Q1 N U O m r v
abbrev J3(f:Ci)(er:Int)(N:Nat)(U:Cg)(O:Cg)(m:Ch)(r:Nat->Cg)(v:Nat->Cg):Prop:=AV.ro [WH f,iI er,Q1 N U O m r v]=AV.ro [WH f,iI er,Q1 N U O m r v]
section
variable (l:Nat)(f:Ci)(er:Int)(N:Nat)(U O:Cg)(m:Ch)(r v:Nat->Cg)
theorem Zq1(b:Nat)(UB:N<=1000)(UY: ∀b,b<N->m b<=1000)(DF:b<N){cx:Cx}(hX:UG U8 {Y:=some (l,(HZ m N),(Wj5 m N r v)) } cx):D7 U8 none cx (.loop Xk3) (Qe1 l f er N U O m r v b):=by
 refine FQ [] (L:=[]) Aa hX UI GN (V:=Nat) (CE l f er N U O m r v b) (λn=>n<=m b) (λn=>m b-n) (wY l f er N U O m r v b) (x0:=0) UE ?_ ?_ ?_;rintro n;kernel_rfl;rintro n y E h;unfold wY at h;split at h;cases h;kernel_rfl;cases h;kernel_rfl;cases h;rintro Q hQ n hx;refine ⟨(n+1),?_⟩;have e:DA U8 [] {Y:=some (l,(HZ m N),(Wj5 m N r v)) } [] [] Xk3 (CE l f er N U O m r v b n) (CE l f er N U O m r v b ((n+1))) (wY l f er N U O m r v b n)=(let z0:=(GZ m N (HZ m b+n));(branch (decide ((n:Int)<(m b:Int))) (need [G7 n (m b:Int)] (need [l=l,HZ m b+n<HZ m N,[Value.agg {toList:=[Value.int IntKind.i64 (b:Int),Value.int IntKind.i64 (n:Int)] },Value.agg {toList:=[Value.int IntKind.i64 (r b n),Value.int IntKind.i64 (v b n)] }]=[Value.agg {toList:=[Value.int IntKind.i64 (↑(Prod.fst z0):Int),Value.int IntKind.i64 (↑(Prod.snd z0):Int)] },Value.agg {toList:=[Value.int IntKind.i64 (r (Prod.fst z0) (Prod.snd z0)),Value.int IntKind.i64 (v (Prod.fst z0) (Prod.snd z0))] }]] (U6.may True (need [U5 ((n:Int)+1)] (need [W8 l,J3 f er N U O m r v,UJ (b:Int),WV N U O m r v,UJ (N:Int),UJ (b:Int),UJ (K2 m b r v),UJ (m b:Int),(n:Int)+1=(↑(n+1):Int),HZ m b+n+1=HZ m b+(n+1)] (leaf GR.normal))) (need [W8 l,J3 f er N U O m r v,WV N U O m r v,UJ (N:Int),UJ (b:Int),UJ (K2 m b r v),UJ (m b:Int)] (leaf GR.ret))))) (need [W8 l,J3 f er N U O m r v,WV N U O m r v,UJ (N:Int),UJ (b:Int),UJ (K2 m b r v),UJ (m b:Int),(n:Int)=(m b:Int),HZ m b+n=HZ m (b+1)] (leaf (GR.exit 2))))):=UD;rw [e];simp only [Zc3,wY,U6.sat,HF] at hQ;have hQ1: ∀E,wY l f er N U O m r v b n (.exit 2)=some E->Q (.exit 2,E):=λE hE=>by cases hE;exact hQ.1 trivial
 have hQ2: ∀E,wY l f er N U O m r v b n .ret=some E->Q (.ret,E):=λE hE=>by cases hE;exact hQ.2
 simp only [U6.sat,UU,G4,HU,U5,FA];clear e hQ;have h3:=UY b DF;refine ⟨λh=>?_,λh=>?_⟩
 ·have hk:n<m b:=U3;have h1:=S7 m (show b+1<=N by omega)
  simp only [HZ] at h1;rw [Qh8 m N b n DF hk];all_goals exact VM
 ·obtain rfl:n=m b:=U3;all_goals exact VM
theorem Zq0(UB:N<=1000)(UY: ∀b,b<N->m b<=1000){cx:Cx}(hX:UG U8 {Y:=some (l,(HZ m N),(Wj5 m N r v)) } cx):D7 U8 none cx (.loop pD) (Xh2 l f er N U O m r v):=by
 refine FQ [] (L:=[qM 10 (λb=>RH [b<N] (Qe1 l f er N U O m r v b))]) Aa hX UI (GJ (λcj hcj=>by
  have e:UC pD 0=some (.loop Xk3):=UD;rw [e] at hcj;cases hcj;exact cG (λb=>xS (λh=>Zq1 l f er N U O m r v b UB UY h hX)))) (V:=Nat) (CD l f er N U O m r v) (λb=>b<=N) (λb=>N-b) (wX l f er N U O m r v) (x0:=0) UE ?_ ?_ ?_
 rintro b;kernel_rfl;rintro b y E h;unfold wX at h;split at h;cases h;kernel_rfl;cases h;kernel_rfl;cases h;rintro Q hQ b hx;refine ⟨(b+1),?_⟩;have e:DA U8 [] {Y:=some (l,(HZ m N),(Wj5 m N r v)) } [qM 10 (λb=>RH [b<N] (Qe1 l f er N U O m r v b))] [] pD (CD l f er N U O m r v b) (CD l f er N U O m r v ((b+1))) (wX l f er N U O m r v b)=(let z0:=J3 f er N U O m r v;(branch (decide ((b:Int)<(N:Int))) (need [G7 b N] (need [b<N] (need [W8 l,z0,UJ (b:Int),WV N U O m r v,UJ (N:Int),UJ (b:Int),UJ (lst 2 (m b) λj=>[iI (r b j),iI (v b j)]),UJ (m b:Int),(0:Int)=((0:Nat):Int),HZ m b=HZ m b+0] (U6.may True (need [U5 ((b:Int)+1)] (need [W8 l,z0,WV N U O m r v,UJ (N:Int),(b:Int)+1=(↑(b+1):Int),UJ (HZ m (b+1))] (leaf GR.normal))) (need [W8 l,z0,WV N U O m r v,UJ (N:Int)] (leaf GR.ret)))))) (need [W8 l,z0,WV N U O m r v,UJ (N:Int),(b:Int)=(N:Int),HZ m b=HZ m N] (leaf (GR.exit 0))))):=UD;rw [e];simp only [Zc2,wX,U6.sat,HF] at hQ;have hQ1: ∀E,wX l f er N U O m r v b (.exit 0)=some E->Q (.exit 0,E):=λE hE=>by cases hE;exact hQ.1 trivial
 have hQ2: ∀E,wX l f er N U O m r v b .ret=some E->Q (.ret,E):=λE hE=>by cases hE;exact hQ.2
 simp only [U6.sat,UU,G4,HU,U5,FA];clear e hQ;refine ⟨λh=>?_,λh=>?_⟩
 ·have h3:=UY b U3;all_goals exact VM
 ·obtain rfl:b=N:=U3;all_goals exact VM
end
theorem nN(f:Ci)(er:Int)(N:Nat)(U O:Cg)(m:Ch)(r v:Nat->Cg)(UB:N<=1000)(UY: ∀b,b<N->m b<=1000):BF Tryz.prog 168 [.ro [.lst 2 3 f,i er,bds N U O m r v]] ((HZ m N)) (Wj5 m N r v):=by
 refine B5 (L:=λl=>[Xh2 l f er N U O m r v]) Aa UI (UZ Tryz.func168) Tryz.func168 (GF Tryz.f168) UD (λl cx hX=>GJ (lpE (b:= .loop pD) UD<|Zq0 l f er N U O m r v UB UY hX)) (t:=λl=>(need [UJ (AV.fn (Fn.yield l) [] []),J3 f er N U O m r v,WV N U O m r v,UJ (N:Int),(0:Int)=((0:Nat):Int),0=HZ m 0] (U6.may True (need [UJ (HZ m N)] (leaf PUnit.unit)) (leaf PUnit.unit)))) (λl=>UD) ?_
 intro l;simp only [U6.sat,UU,GS,H6,UX,U5,G4,HU,RW];all_goals exact VM
def plF(m:Ch)(N:Nat)(q:Nat):List AV:=[i (GZ m N q).1,i (GZ m N q).2]
theorem bE(m:Ch){K:Nat}: ∀(N:Nat),(∀b,b<N->m b<=K)->HZ m N<=N*K
 | 0,_=>by simp [HZ]
 |N+1,h=>by
  have:=bE m N (λb hb=>h b U3);have:=h N U3;simp only [HZ,Bq];omega
abbrev QD:AV:=AV.x (.pointer none)
def Jx9(f:Ci)(er:Int)(N:Nat)(U O:Cg)(m:Ch)(r v:Nat->Cg):St:={σ:=[agg [WH f,iI er,Q1 N U O m r v],ptr 0 0,QD,ptr 6 0]++D6 6 [AV.fn (Fn.func 168) [] [AV.ro [WH f,iI er,Q1 N U O m r v]]]++D6 13 [],m:=[(901,H9.row 241 2 0 λx=>[]),(6,H9.cells 178 [ptr 5 0]),(5,H9.cells 236 [WH f,iI er,Q1 N U O m r v,AV.row 901,AV.mp 3]),(3,H9.memo (λx=>False) λv=>v),(0,H9.cells 59 [WH f,iI er,Q1 N U O m r v])],nx:=902}
def rfF:Option Code->Operand
 |some (.rangeFunc f _ _ _)=>f
 |_=> .const .nilFunc
def xP:Option Code->Array Nat
 |some (.rangeFunc _ ps _ _)=>ps
 |_=>#[]
def EE:Option Code->Code
 |some (.rangeFunc _ _ a _)=>a
 |_=> .skip
def ED:Option Code->Code
 |some (.rangeFunc _ _ _ b)=>b
 |_=> .skip
noncomputable def Kb8:Code:=EE (UC (UP Tryz.f79) 0)
noncomputable def Jy6:Code:=ED (UC (UP Tryz.f79) 0)
section
variable (f:Ci)(er:Int)(N:Nat)(U O:Cg)(m:Ch)(r v:Nat->Cg)
def tF(k:Nat):St:={σ:=HI [] (Jx9 f er N U O m r v).σ,m:=[(901,.row 241 2 (k) (plF m N)),(6,.cells 178 [.ptr 5 0]),(5,.cells 236 [.lst 2 3 f,i er,bds N U O m r v,.row 901,.mp 3]),(3,.memo (λ_=>False) (λx=>x)),(0,.cells 59 [.lst 2 3 f,i er,bds N U O m r v])],nx:=902}
def sD(k:Nat):GR->Option St
 | .normal=>some {σ:=HI [] (Jx9 f er N U O m r v).σ,m:=[(901,.row 241 2 ((HZ m N)) (plF m N)),(6,.cells 178 [.ptr 5 0]),(5,.cells 236 [.lst 2 3 f,i er,bds N U O m r v,.row 901,.mp 3]),(3,.memo (λ_=>False) (λx=>x)),(0,.cells 59 [.lst 2 3 f,i er,bds N U O m r v])],nx:=902}
 |_=>none
def T_wr:CT:= .leaf (.normal,tF f er N U O m r v (HZ m N))
def Zd6:G5:=H4 [(.cell 5 3,901,241,2)] (D1 (tF f er N U O m r v (0)) (T_wr f er N U O m r v))
abbrev WK:Prop:=AV.row 901=AV.row 901
abbrev ZO:Prop:=ptr 5 0=ptr 5 0
abbrev V4:Prop:=ptr 6 0=ptr 6 0
abbrev V9:Ext:={R:=[(125,NK)],H:=[] }
theorem Jd1(UB:N<=1000)(UY: ∀b,b<N->m b<=1000):D3 U8 (.rangeFunc (rfF (UC (UP Tryz.f79) 0)) (xP (UC (UP Tryz.f79) 0)) Kb8 Jy6) (Zd6 f er N U O m r v):=by
 refine L4 [(.cell 5 3,901,241,2)] (L:=[]) Aa (Ai (Af N0 Ab) Ac) UI UN (V:=Nat) (tF f er N U O m r v) (λk=>k<=(HZ m N)) (λk=>k) (sD f er N U O m r v) (x0:=0) UE rfl ?_ ?_ ?_ ?_ (g:=168) (caps:=[.ro [.lst 2 3 f,i er,bds N U O m r v]]) UD UD (nN f er N U O m r v UB UY) (λ_=>rfl) ?_;rintro k;kernel_rfl;rintro k y E h;unfold sD at h;split at h;cases h;kernel_rfl;cases h;rintro k;rfl;rintro k y E h;unfold sD at h;split at h;cases h;rfl;cases h
 ·rintro Q hQ k hx;refine ⟨λhlt=>⟨(k+1),rfl,?_⟩,λB0=>?_⟩
  ·(with_reducible refine F4 (t:=need [(k+1)*16<=140737488355328,L0 1 (UO 2 [iI (↑(Prod.fst (GZ m N k)):Int),iI (↑(Prod.snd (GZ m N k)):Int)])] (need [UJ (agg [WH f,iI er,Q1 N U O m r v]),QO,QD=QD,V4,UJ (AV.fn (Fn.func 168) [] [AV.ro [WH f,iI er,Q1 N U O m r v]]),k+1=k+1,HH (k+1) (GX k (plF m N) (UO 2 [iI (↑(Prod.fst (GZ m N k)):Int),iI (↑(Prod.snd (GZ m N k)):Int)])) (plF m N),ZO,WH f=WH f,er=er,WV N U O m r v,WK,UJ (AV.mp 3),∀(k:Value),False->False/\k=k,WH f=WH f,er=er,WV N U O m r v] (leaf GR.normal))) UD ?_);have hb:=bE m N UY;have hb2:=qJ 1000 UB;simp only [U6.sat,UU,G4]
   (with_reducible repeat' first|apply Al|intro _)
   all_goals first|exact Ak|rfl|omega|exact FK (by assumption) (by simp [AV.one,Value.oneCell'])|exact Zx2 rfl rfl (by assumption)|contradiction
  subst B0;exact hQ
end
abbrev Q2(m:Ch)(N:Nat):AV:=lst 2 (HZ m N) λq=>[iI (↑(Prod.fst (GZ m N q)):Int),iI (↑(Prod.snd (GZ m N q)):Int)]
theorem Xa9(f:Ci)(er:Int)(N:Nat)(U O:Cg)(m:Ch)(r v:Nat->Cg)(UB:N<=1000)(UY: ∀b,b<N->m b<=1000):RB U8 79 [.agg [.lst 2 3 f,i er,bds N U O m r v]] (.ro [.lst 2 3 f,i er,bds N U O m r v,.lst 2 (HZ m N) (plF m N),.top]):=by
 refine DL (L:=[Zd6 f er N U O m r v]) Aa (Ai (Af N0 Ab) Ac) UI Tryz.func79 (GF Tryz.f79) (GJ (lpE (b:= .rangeFunc (rfF (UC (UP Tryz.f79) 0)) (xP (UC (UP Tryz.f79) 0)) Kb8 Jy6) UD<|Jd1 f er N U O m r v UB UY)) (t:=need [UJ (agg [WH f,iI er,Q1 N U O m r v]),QO,QD=QD,V4,UJ (AV.fn (Fn.func 168) [] [AV.ro [WH f,iI er,Q1 N U O m r v]]),0=0,HH 0 (λi=>[]) (plF m N),ZO,WH f=WH f,er=er,WV N U O m r v,WK,UJ (AV.mp 3),∀(k:Value),False->False/\k=k,WH f=WH f,er=er,WV N U O m r v] (leaf (AV.ro [WH f,iI er,Q1 N U O m r v,Q2 m N,top]))) UD ?_
 simp only [U6.sat,UU,GS,H6,UX,U5,G4,HU,RW];all_goals exact VM
noncomputable def Qq5:DK:=vP Tryz.prog [(128,yQ)] {} [] Tryz.f126 (UP Tryz.f126)
theorem LD:GT U8 126 Qq5:=
 RT (G:=[(128,yQ)]) (X:=WI) (L:=[]) (Ae RX Aa) Ad UI (UZ Tryz.func126) Tryz.func126 (GF Tryz.f126) UN
def GO(M:Nat->Cg)(k:Nat):Int:=M (k / 13) (k%13)
def PK(k j:Nat):Nat->Cg:=λx y=>if ((x<k/\y<=12)\/(x=k/\y<j))/\x≠y then 8000 else 0
def spn(M:Nat->Cg)(a b:Nat)(U O:Int):Nat->Cg:=bnd (bnd M a b O) b a (-U)
def ofM:Nat->Nat->Nat->Int
 | 0=>PK 13 0
 |k+1=>spn (ofM k) 0 (1+k) (-oH k) (-oL k)
def btM(U O:Cg):Nat->Nat->Nat->Int
 | 0=>ofM 3
 |k+1=>spn (btM U O k) 0 (7+k) (U k) (O k)
def rdM1(N:Nat)(m:Ch)(r v:Nat->Cg)(M:Nat->Cg)(q:Nat):Nat->Cg:=
 spn M (1+(r (GZ m N q).1 (GZ m N q).2).toNat) (7+(GZ m N q).1) (v (GZ m N q).1 (GZ m N q).2-1) (v (GZ m N q).1 (GZ m N q).2+1)
def AX(N:Nat)(U O:Cg)(m:Ch)(r v:Nat->Cg):Nat->Nat->Nat->Int
 | 0=>btM U O N
 |q+1=>rdM1 N m r v (AX N U O m r v q) q
def bOK(N:Nat)(U O:Cg)(m:Ch)(r v:Nat->Cg):Prop:=N<=6/\ ∀b,b<N->m b<=10/\0<=U b/\U b<=O b/\O b<=1000/\ ∀j,j<m b->0<=r b j/\r b j<=2/\ -1000<=v b j/\v b j<=2000
theorem Xs1: ∀k,US (List.replicate 169 0) k=GO (PK 0 0) k:=by
 intro k;rw [fI (by decide)]
 simp [GO,PK]
theorem vH(M:Nat->Cg){a b q:Nat}(hq:q=a*13+b)(hb:b<13):GO M q=M a b:=by
 unfold GO;rw [show q / 13=a by omega,show q%13=b by omega]
theorem rS{M M':Nat->Cg}(h: ∀x y,x<13->y<13->M x y=M' x y){k:Nat}(hk:k<169):GO M k=GO M' k:=h _ _ U3 U3
theorem Qk2(M:Nat->Cg){a b q:Nat}(hq:q=a*13+b)(hb:b<13)(v:Int):GE q v (GO M)=GO (z9 M a b v):=by
 funext k;unfold GE GO z9;by_cases hk:k=q;rw [if_pos hk,if_pos U3];rw [if_neg hk,if_neg U3]
theorem jW{M:Nat->Cg}{a b q:Nat}{v:Int}(hq:q=a*13+b)(hb:b<13):GE q (min (GO M q) v) (GO M)=GO (bnd M a b v):=by
 rw [vH M hq hb,Qk2 M hq hb];rfl
theorem Qv6(k j:Nat)(hj:j<=12)(h:k≠j)(x y:Nat):z9 (PK k j) k j 8000 x y=PK k (j+1) x y:=by
 unfold z9 PK;split;rename_i hxy;rw [if_pos ⟨.inr U3,U3⟩];rename_i hxy;by_cases h1:((x<k/\y<=12)\/(x=k/\y<j))/\x≠y;rw [if_pos h1,if_pos U3];rw [if_neg h1,if_neg U3]
theorem Qv7(k:Nat)(x y:Nat):PK k k x y=PK k (k+1) x y:=by
 unfold PK;by_cases h1:((x<k/\y<=12)\/(x=k/\y<k))/\x≠y;rw [if_pos h1,if_pos U3];rw [if_neg h1,if_neg U3]
theorem Ws8(k:Nat)(x y:Nat):PK k 13 x y=PK (k+1) 0 x y:=by
 unfold PK;by_cases h1:((x<k/\y<=12)\/(x=k/\y<13))/\x≠y;rw [if_pos h1,if_pos U3];rw [if_neg h1,if_neg U3]
abbrev QE:List AV:=[AV.x (.int IntKind.u64 (0:Int))]
abbrev QM:List Int:=([(0:Int)]++eM 168)
abbrev Y4:H9:=H9.cells 183 QE
section
variable (N:Nat)(U O:Cg)(m:Ch)(r v:Nat->Cg)
def Jb5:St:={σ:=[AV.ro [lst 2 3 λk=>[iI (oL k),iI (oH k)],iI 1,Q1 N U O m r v,Q2 m N,top],agg QE,top,ptr 0 0,QD,AV.lit false,ptr 4 0]++D6 184 [],m:=[(4,H9.ints 244 [] 169 λa=>US QM a),(0,Y4)],nx:=7}
noncomputable def Jc6:Code:=UT (UC (UP Tryz.f80) 0)
def Wr9(k:Nat):St:=(upE [(22,i k)] [(4,.ints 244 [] 169 (GO (PK k 0))),(0,.cells 183 [.x (.int .u64 0)])] (Jb5 N U O m r v))
def IG(k:Nat):GR->Option St
 | .exit 0=>some (upE [(22,i 13)] [(4,.ints 244 [] 169 (GO (PK 13 0))),(0,.cells 183 [.x (.int .u64 0)])] (Jb5 N U O m r v))
 |_=>none
def Jx1:CT:= .leaf (.exit 0,(IG N U O m r v 0 (.exit 0)).getD (Jb5 N U O m r v))
def Zh2:G5:=H4 [] (D1 (Wr9 N U O m r v (0)) (Jx1 N U O m r v))
def Jb4(k:Nat):St:={σ:=[AV.ro [lst 2 3 λk=>[iI (oL k),iI (oH k)],iI 1,Q1 N U O m r v,Q2 m N,top],agg QE,top,ptr 0 0,QD,AV.lit false,ptr 4 0,iI (k:Int)]++D6 14 [iI (k:Int)]++D6 168 [],m:=[(4,H9.ints 244 [] 169 λk_1=>GO (PK k 0) k_1),(0,Y4)],nx:=11}
noncomputable def Kb2:Code:=(UT (UC (UT (UC (UP Tryz.f80) 0)) 0))
def Wr8(k:Nat)(j:Nat):St:=(upE [(25,i j)] [(4,.ints 244 [] 169 (GO (PK k j))),(0,.cells 183 [.x (.int .u64 0)])] (Jb4 N U O m r v k))
def IF(k:Nat)(j:Nat):GR->Option St
 | .exit 2=>some (upE [(25,i 13)] [(4,.ints 244 [] 169 (GO (PK k 13))),(0,.cells 183 [.x (.int .u64 0)])] (Jb4 N U O m r v k))
 |_=>none
def Jx0(k:Nat):CT:= .leaf (.exit 2,(IF N U O m r v k 0 (.exit 2)).getD (Jb4 N U O m r v k))
def Zh1(k:Nat):G5:=H4 [] (D1 (Wr8 N U O m r v k (0)) (Jx0 N U O m r v k))
abbrev QV:Prop:=(0:Int)=0
abbrev W9:Prop:=ptr 4 0=ptr 4 0
abbrev WM:List (Nat×GM):=[(54,cX),(127,cY),(128,yQ)]
abbrev WN:Prop:=AV.lit false=AV.lit false
noncomputable abbrev X4:Ext:={R:=[],H:=[(126,Qq5)] }
theorem Jr5(k:Nat)(UB:k<=12):GU U8 (.loop Kb2) (Zh1 N U O m r v k):=by
 refine GL [] (L:=[]) (Ae L9 (Ae PL (Ae RX Aa))) (Ai Ab (Ag LD Ac)) UI UN (X:=Nat) (Wr8 N U O m r v k) (λj=>j<=13) (λj=>13-j) (IF N U O m r v k) (x0:=0) UE ?_ ?_ ?_;rintro j;kernel_rfl;rintro j y E h;unfold IF at h;split at h;cases h;kernel_rfl;cases h;rintro Q hQ j hx;refine ⟨(j+1),?_⟩;(with_reducible refine F4 (t:=let z0:=(UJ (AV.ro [lst 2 3 λk=>[iI (oL k),iI (oH k)],iI 1,Q1 N U O m r v,Q2 m N,top]));(branch (decide ((j:Int)<13)) (branch ((k:Int) != (j:Int)) (need [G7 k 13] (need [G7 j 13] (need [j*1+(k*13+0)+1<=169] (need [U5 ((j:Int)+1)] (need [z0,UJ (agg QE),QO,QD=QD,WN,W9,UJ (k:Int),UJ (k:Int),(j:Int)+1=(↑(j+1):Int),169=169,HH 169 (GE (j*1+(k*13+0)) (8000:Int) (GO (PK k j))) (GO (PK k (j+1))),QV] (leaf GR.normal)))))) (need [U5 ((j:Int)+1)] (need [z0,UJ (agg QE),QO,QD=QD,WN,W9,UJ (k:Int),UJ (k:Int),(j:Int)+1=(↑(j+1):Int),169=169,HH 169 (GO (PK k j)) (GO (PK k (j+1))),QV] (leaf GR.normal)))) (need [z0,UJ (agg QE),QO,QD=QD,WN,W9,UJ (k:Int),UJ (k:Int),(j:Int)=13,169=169,HH 169 (GO (PK k j)) (GO (PK k 13)),QV] (leaf (GR.exit 2))))) UD ?_)
 simp only [Jx0,IF,U6.sat,HF] at hQ;simp only [U6.sat,UU,GS,H6,UX,U5,G4,HU,RW,L1,LP,HC,IF]
 refine ⟨λh=>⟨λhne=>?_,λheq=>?_⟩,λh=>?_⟩
 ·have h3: ∀M w,GE (j*1+(k*13+0)) w (GO M)=GO (z9 M k j w):=λM w=>Qk2 M U3 U3 w;simp only [h3]
  (with_reducible repeat' first|apply Al|intro _)
  all_goals first|exact B4|(exact rS (λx y _ _=>Qv6 k j U3 U3 x y) (by assumption))
 ·obtain rfl:k=j:=U3
  (with_reducible repeat' first|apply Al|intro _)
  all_goals first|exact B4|(exact rS (λx y _ _=>Qv7 k x y) (by assumption))
 obtain rfl:j=13:=U3;exact VF
theorem Jr6:GU U8 (.loop Jc6) (Zh2 N U O m r v):=by
 refine GL [] (L:=[qM 22 (λk=>RH [k<=12] (Zh1 N U O m r v k))]) (Ae L9 (Ae PL (Ae RX Aa))) (Ai Ab (Ag LD Ac)) UI (GJ (λcj hcj=>by
  have e:UC Jc6 0=some (.loop Kb2):=UD;rw [e] at hcj;cases hcj;exact PW (λk=>DU (λh=>Jr5 N U O m r v k h)))) (X:=Nat) (Wr9 N U O m r v) (λk=>k<=13) (λk=>13-k) (IG N U O m r v) (x0:=0) UE ?_ ?_ ?_
 rintro k;kernel_rfl;rintro k y E h;unfold IG at h;split at h;cases h;kernel_rfl;cases h;rintro Q hQ k hx;refine ⟨(k+1),?_⟩;(with_reducible refine F4 (t:=let z0:=(UJ (AV.ro [lst 2 3 λk=>[iI (oL k),iI (oH k)],iI 1,Q1 N U O m r v,Q2 m N,top]));(branch (decide ((k:Int)<13)) (need [k<=12] (need [z0,UJ (agg QE),QO,QD=QD,WN,W9,UJ (k:Int),UJ (k:Int),(0:Int)=((0:Nat):Int),169=169,HB 169 (GO (PK k 0)),QV] (need [U5 ((k:Int)+1)] (need [z0,UJ (agg QE),QO,QD=QD,WN,W9,(k:Int)+1=(↑(k+1):Int),169=169,HH 169 (GO (PK k 13)) (GO (PK (k+1) 0)),QV] (leaf GR.normal))))) (need [z0,UJ (agg QE),QO,QD=QD,WN,W9,(k:Int)=13,169=169,HH 169 (GO (PK k 0)) (GO (PK 13 0)),QV] (leaf (GR.exit 0))))) UD ?_)
 simp only [Jx1,IG,U6.sat,HF] at hQ;simp only [U6.sat,UU,GS,H6,UX,U5,G4,HU,RW,L1,LP,HC,IG]
 refine ⟨λh=>?_,λh=>?_⟩
 ·(with_reducible repeat' first|apply Al|intro _)
  all_goals first|exact B4|(exact rS (λx y _ _=>Ws8 k x y) (by assumption))
 obtain rfl:k=13:=U3;exact VF
def Jb3:St:={σ:=[AV.ro [lst 2 3 λk=>[iI (oL k),iI (oH k)],iI 1,Q1 N U O m r v,Q2 m N,top],agg QE,top,ptr 0 0,QD,AV.lit false,ptr 4 0]++D6 15 [iI 13]++D6 20 [lst 2 3 λk=>[iI (oL k),iI (oH k)],iI ((3:Nat):Int)]++D6 146 [],m:=[(4,H9.ints 244 [] 169 λk=>GO (PK 13 0) k),(0,Y4)],nx:=14}
noncomputable def Kb1:Code:=UT (UC (UP Tryz.f80) 1)
def Wr7(k:Nat):St:=(upE [(45,i k)] [(4,.ints 244 [] 169 (GO (ofM k))),(0,.cells 183 [.x (.int .u64 0)])] (Jb3 N U O m r v))
def IE(k:Nat):GR->Option St
 | .exit 4=>some (upE [(45,i 3)] [(4,.ints 244 [] 169 (GO (ofM 3))),(0,.cells 183 [.x (.int .u64 0)])] (Jb3 N U O m r v))
 |_=>none
def Jw9:CT:= .leaf (.exit 4,(IE N U O m r v 0 (.exit 4)).getD (Jb3 N U O m r v))
def Zh0:G5:=H4 [] (D1 (Wr7 N U O m r v (0)) (Jw9 N U O m r v))
abbrev XE:Prop:=(13:Int)=13
theorem Jr4:GU U8 (.loop Kb1) (Zh0 N U O m r v):=by
 refine GL [] (L:=[]) (Ae L9 (Ae PL (Ae RX Aa))) (Ai Ab (Ag LD Ac)) UI UN (X:=Nat) (Wr7 N U O m r v) (λk=>k<=3) (λk=>3-k) (IE N U O m r v) (x0:=0) UE ?_ ?_ ?_;rintro k;kernel_rfl;rintro k y E h;unfold IE at h;split at h;cases h;kernel_rfl;cases h;rintro Q hQ k hx;refine ⟨(k+1),?_⟩;(with_reducible refine F4 (t:=let z1:=(GO (ofM k) (((1:Int)+(k:Int)).toNat*1+0));let z0:=(GE (((1:Int)+(k:Int)).toNat*1+0) (min z1 (-oL k)) (GO (ofM k)) (0+(((1:Int)+(k:Int)).toNat*13+0)));let z2:=(UJ (AV.ro [lst 2 3 λk=>[iI (oL k),iI (oH k)],iI 1,Q1 N U O m r v,Q2 m N,top]));(branch (decide ((k:Int)<((3:Nat):Int))) (need [G7 k 3] (need [(0:Int)<=(k:Int)/\(k:Int)<=1000] (need [U5 (-oH k)] (need [U5 (-oL k)] (need [G7 0 13] (need [(0:Int)<=1+(k:Int)/\(1:Int)+(k:Int)<((13:Nat):Int)] (need [((1:Int)+(k:Int)).toNat*1+0<169] (need [G7 0 13] (need [(0:Int)<=1+(k:Int)/\(1:Int)+(k:Int)<((13:Nat):Int)] (need [((1:Int)+(k:Int)).toNat*1+0+List.length [min z1 (-oL k)]<=169] (need [(0:Int)<=1+(k:Int)/\(1:Int)+(k:Int)<((13:Nat):Int)] (need [G7 0 13] (need [0+(((1:Int)+(k:Int)).toNat*13+0)<169] (need [U5 (- -oH k)] (need [(0:Int)<=1+(k:Int)/\(1:Int)+(k:Int)<((13:Nat):Int)] (need [G7 0 13] (need [0+(((1:Int)+(k:Int)).toNat*13+0)+List.length [min z0 (- -oH k)]<=169] (need [U5 ((k:Int)+1)] (need [z2,UJ (agg QE),QO,QD=QD,WN,W9,XE,UJ (lst 2 3 λk=>[iI (oL k),iI (oH k)]),UJ ((3:Nat):Int),(k:Int)+1=(↑(k+1):Int),169=169,HH 169 (GE (0+(((1:Int)+(k:Int)).toNat*13+0)) (min z0 (- -oH k)) (kJ (((1:Int)+(k:Int)).toNat*1+0) [min z1 (-oL k)] (GO (ofM k)))) (GO (ofM (k+1))),QV] (leaf GR.normal)))))))))))))))))))) (need [z2,UJ (agg QE),QO,QD=QD,WN,W9,XE,UJ (lst 2 3 λk=>[iI (oL k),iI (oH k)]),UJ ((3:Nat):Int),(k:Int)=3,169=169,HH 169 (GO (ofM k)) (GO (ofM 3)),QV] (leaf (GR.exit 4))))) UD ?_)
 simp only [Jw9,IE,U6.sat,HF] at hQ;simp only [U6.sat,UU,GS,H6,UX,U5,G4,HU,RW,L1,LP,HC,IE]
 have hL: -9<=oL k/\oL k<=0:=by unfold oL;split<;>omega
 have hH:0<=oH k/\oH k<=9:=by unfold oH;split<;>omega
 refine ⟨λh=>?_,λh=>?_⟩;have h1: ∀M w,GE ((1+(k:Int)).toNat*1+0) (min (GO M ((1+(k:Int)).toNat*1+0)) w) (GO M)=GO (bnd M 0 (1+k) w):=λM w=>jW U3 U3;have h2: ∀M w,GE (0+((1+(k:Int)).toNat*13+0)) (min (GO M (0+((1+(k:Int)).toNat*13+0))) w) (GO M)=GO (bnd M (1+k) 0 w):=λM w=>jW U3 U3;simp only [h1,h2];exact VF;obtain rfl:k=3:=U3;exact VF
def Jb2:St:={σ:=[AV.ro [lst 2 3 λk=>[iI (oL k),iI (oH k)],iI 1,Q1 N U O m r v,Q2 m N,top],agg QE,top,ptr 0 0,QD,AV.lit false,ptr 4 0]++D6 15 [iI 13]++D6 20 [lst 2 3 λk=>[iI (oL k),iI (oH k)],iI ((3:Nat):Int),iI 3]++D6 20 [Q1 N U O m r v,iI (N:Int)]++D6 123 [],m:=[(4,H9.ints 244 [] 169 λk=>GO (ofM 3) k),(0,Y4)],nx:=21}
noncomputable def Kb0:Code:=UT (UC (UP Tryz.f80) 2)
def Wr6(k:Nat):St:=(upE [(68,i k)] [(4,.ints 244 [] 169 (GO (btM U O k))),(0,.cells 183 [.x (.int .u64 0)])] (Jb2 N U O m r v))
def ID(k:Nat):GR->Option St
 | .exit 6=>some (upE [(68,i N)] [(4,.ints 244 [] 169 (GO (btM U O N))),(0,.cells 183 [.x (.int .u64 0)])] (Jb2 N U O m r v))
 |_=>none
def Jw8:CT:= .leaf (.exit 6,(ID N U O m r v 0 (.exit 6)).getD (Jb2 N U O m r v))
def Zg9:G5:=H4 [] (D1 (Wr6 N U O m r v (0)) (Jw8 N U O m r v))
abbrev XI:Prop:=(3:Int)=3
theorem Jr3(UB:bOK N U O m r v):GU U8 (.loop Kb0) (Zg9 N U O m r v):=by
 refine GL [] (L:=[]) (Ae L9 (Ae PL (Ae RX Aa))) (Ai Ab (Ag LD Ac)) UI UN (X:=Nat) (Wr6 N U O m r v) (λk=>k<=N) (λk=>N-k) (ID N U O m r v) (x0:=0) UE ?_ ?_ ?_;rintro k;kernel_rfl;rintro k y E h;unfold ID at h;split at h;cases h;kernel_rfl;cases h;rintro Q hQ k hx;refine ⟨(k+1),?_⟩;(with_reducible refine F4 (t:=let z1:=(GO (btM U O k) (((7:Int)+(k:Int)).toNat*1+0));let z0:=(GE (((7:Int)+(k:Int)).toNat*1+0) (min z1 (O k)) (GO (btM U O k)) (0+(((7:Int)+(k:Int)).toNat*13+0)));let z2:=(UJ (AV.ro [lst 2 3 λk=>[iI (oL k),iI (oH k)],iI 1,Q1 N U O m r v,Q2 m N,top]));(branch (decide ((k:Int)<(N:Int))) (need [G7 k N] (need [(0:Int)<=(k:Int)/\(k:Int)<=1000] (need [G7 0 13] (need [(0:Int)<=7+(k:Int)/\(7:Int)+(k:Int)<((13:Nat):Int)] (need [((7:Int)+(k:Int)).toNat*1+0<169] (need [G7 0 13] (need [(0:Int)<=7+(k:Int)/\(7:Int)+(k:Int)<((13:Nat):Int)] (need [((7:Int)+(k:Int)).toNat*1+0+List.length [min z1 (O k)]<=169] (need [(0:Int)<=7+(k:Int)/\(7:Int)+(k:Int)<((13:Nat):Int)] (need [G7 0 13] (need [0+(((7:Int)+(k:Int)).toNat*13+0)<169] (need [U5 (-U k)] (need [(0:Int)<=7+(k:Int)/\(7:Int)+(k:Int)<((13:Nat):Int)] (need [G7 0 13] (need [0+(((7:Int)+(k:Int)).toNat*13+0)+List.length [min z0 (-U k)]<=169] (need [U5 ((k:Int)+1)] (need [z2,UJ (agg QE),QO,QD=QD,WN,W9,XE,UJ (lst 2 3 λk=>[iI (oL k),iI (oH k)]),UJ ((3:Nat):Int),XI,WV N U O m r v,UJ (N:Int),(k:Int)+1=(↑(k+1):Int),169=169,HH 169 (GE (0+(((7:Int)+(k:Int)).toNat*13+0)) (min z0 (-U k)) (kJ (((7:Int)+(k:Int)).toNat*1+0) [min z1 (O k)] (GO (btM U O k)))) (GO (btM U O (k+1))),QV] (leaf GR.normal)))))))))))))))))) (need [z2,UJ (agg QE),QO,QD=QD,WN,W9,XE,UJ (lst 2 3 λk=>[iI (oL k),iI (oH k)]),UJ ((3:Nat):Int),XI,WV N U O m r v,UJ (N:Int),(k:Int)=(N:Int),169=169,HH 169 (GO (btM U O k)) (GO (btM U O N)),QV] (leaf (GR.exit 6))))) UD ?_)
 simp only [Jw8,ID,U6.sat,HF] at hQ;simp only [U6.sat,UU,GS,H6,UX,U5,G4,HU,RW,L1,LP,HC,ID]
 have h6:=UB.1;refine ⟨λh=>?_,λh=>?_⟩;obtain ⟨_,q1,q2,q3,_⟩:=UB.2 k U3;have h1: ∀M w,GE ((7+(k:Int)).toNat*1+0) (min (GO M ((7+(k:Int)).toNat*1+0)) w) (GO M)=GO (bnd M 0 (7+k) w):=λM w=>jW U3 U3;have h2: ∀M w,GE (0+((7+(k:Int)).toNat*13+0)) (min (GO M (0+((7+(k:Int)).toNat*13+0))) w) (GO M)=GO (bnd M (7+k) 0 w):=λM w=>jW U3 U3;simp only [h1,h2];exact VF;obtain rfl:k=N:=U3;exact VF
def Jb1:St:={σ:=[AV.ro [lst 2 3 λk=>[iI (oL k),iI (oH k)],iI 1,Q1 N U O m r v,Q2 m N,top],agg QE,top,ptr 0 0,QD,AV.lit false,ptr 4 0]++D6 15 [iI 13]++D6 20 [lst 2 3 λk=>[iI (oL k),iI (oH k)],iI ((3:Nat):Int),iI 3]++D6 20 [Q1 N U O m r v,iI (N:Int),iI (N:Int)]++D6 14 [Q2 m N,iI (HZ m N:Int)]++D6 106 [],m:=[(4,H9.ints 244 [] 169 λk=>GO (btM U O N) k),(0,Y4)],nx:=27}
noncomputable def Ka9:Code:=UT (UC (UP Tryz.f80) 3)
def Wr5(k:Nat):St:=(upE [(85,i k)] [(4,.ints 244 [] 169 (GO (AX N U O m r v k))),(0,.cells 183 [.x (.int .u64 0)])] (Jb1 N U O m r v))
def IC(k:Nat):GR->Option St
 | .exit 8=>some (upE [(85,i (HZ m N))] [(4,.ints 244 [] 169 (GO (AX N U O m r v (HZ m N)))),(0,.cells 183 [.x (.int .u64 0)])] (Jb1 N U O m r v))
 |_=>none
def Jw7:CT:= .leaf (.exit 8,(IC N U O m r v 0 (.exit 8)).getD (Jb1 N U O m r v))
def Zg8:G5:=H4 [] (D1 (Wr5 N U O m r v (0)) (Jw7 N U O m r v))
theorem Jr2(UB:bOK N U O m r v):GU U8 (.loop Ka9) (Zg8 N U O m r v):=by
 refine GL [] (L:=[]) (Ae L9 (Ae PL (Ae RX Aa))) (Ai Ab (Ag LD Ac)) UI UN (X:=Nat) (Wr5 N U O m r v) (λk=>k<=HZ m N) (λk=>HZ m N-k) (IC N U O m r v) (x0:=0) UE ?_ ?_ ?_;rintro k;kernel_rfl;rintro k y E h;unfold IC at h;split at h;cases h;kernel_rfl;cases h;rintro Q hQ k hx;refine ⟨(k+1),?_⟩
 (with_reducible refine F4 (t:=let z4:=AX N U O m r v k;let z1:=(GO (z4) (((7:Int)+(↑(Prod.fst (GZ m N k)):Int)).toNat*1+(((1:Int)+r (Prod.fst (GZ m N k)) (Prod.snd (GZ m N k))).toNat*13+0)));let z0:=(GE (((7:Int)+(↑(Prod.fst (GZ m N k)):Int)).toNat*1+(((1:Int)+r (Prod.fst (GZ m N k)) (Prod.snd (GZ m N k))).toNat*13+0)) (min z1 (v (Prod.fst (GZ m N k)) (Prod.snd (GZ m N k))+1)) (GO (z4)) (((1:Int)+r (Prod.fst (GZ m N k)) (Prod.snd (GZ m N k))).toNat*1+(((7:Int)+(↑(Prod.fst (GZ m N k)):Int)).toNat*13+0)));let z2:=(UJ (AV.ro [lst 2 3 λk=>[iI (oL k),iI (oH k)],iI 1,Q1 N U O m r v,Q2 m N,top]));let z3:=(UJ (lst 2 3 λk=>[iI (oL k),iI (oH k)]));(branch (decide ((k:Int)<(HZ m N:Int))) (need [G7 k (HZ m N:Int)] (need [(0:Int)<=(k:Int)/\(k:Int)<=64] (branch (IntKind.wrap IntKind.u64 (↑(BitVec.toNat (BitVec.ofInt (IntKind.bits IntKind.u64) ((0:Int) / (2:Int)^k) &&& BitVec.ofInt (IntKind.bits IntKind.u64) (1:Int))):Int)==0) (need [G7 (↑(Prod.fst (GZ m N k)):Int) N] (need [G7 (↑(Prod.snd (GZ m N k)):Int) ((↑(m (Prod.fst (GZ m N k))):Int))] (need [(0:Int)<=r (Prod.fst (GZ m N k)) (Prod.snd (GZ m N k))/\r (Prod.fst (GZ m N k)) (Prod.snd (GZ m N k))<=1000] (need [(0:Int)<=(↑(Prod.fst (GZ m N k)):Int)/\(↑(Prod.fst (GZ m N k)):Int)<=1000] (need [U5 (v (Prod.fst (GZ m N k)) (Prod.snd (GZ m N k))-1)] (need [U5 (v (Prod.fst (GZ m N k)) (Prod.snd (GZ m N k))+1)] (need [(0:Int)<=1+r (Prod.fst (GZ m N k)) (Prod.snd (GZ m N k))/\(1:Int)+r (Prod.fst (GZ m N k)) (Prod.snd (GZ m N k))<((13:Nat):Int)] (need [(0:Int)<=7+(↑(Prod.fst (GZ m N k)):Int)/\(7:Int)+(↑(Prod.fst (GZ m N k)):Int)<((13:Nat):Int)] (need [((7:Int)+(↑(Prod.fst (GZ m N k)):Int)).toNat*1+(((1:Int)+r (Prod.fst (GZ m N k)) (Prod.snd (GZ m N k))).toNat*13+0)<169] (need [(0:Int)<=1+r (Prod.fst (GZ m N k)) (Prod.snd (GZ m N k))/\(1:Int)+r (Prod.fst (GZ m N k)) (Prod.snd (GZ m N k))<((13:Nat):Int)] (need [(0:Int)<=7+(↑(Prod.fst (GZ m N k)):Int)/\(7:Int)+(↑(Prod.fst (GZ m N k)):Int)<((13:Nat):Int)] (need [((7:Int)+(↑(Prod.fst (GZ m N k)):Int)).toNat*1+(((1:Int)+r (Prod.fst (GZ m N k)) (Prod.snd (GZ m N k))).toNat*13+0)+List.length [min z1 (v (Prod.fst (GZ m N k)) (Prod.snd (GZ m N k))+1)]<=169] (need [(0:Int)<=7+(↑(Prod.fst (GZ m N k)):Int)/\(7:Int)+(↑(Prod.fst (GZ m N k)):Int)<((13:Nat):Int)] (need [(0:Int)<=1+r (Prod.fst (GZ m N k)) (Prod.snd (GZ m N k))/\(1:Int)+r (Prod.fst (GZ m N k)) (Prod.snd (GZ m N k))<((13:Nat):Int)] (need [((1:Int)+r (Prod.fst (GZ m N k)) (Prod.snd (GZ m N k))).toNat*1+(((7:Int)+(↑(Prod.fst (GZ m N k)):Int)).toNat*13+0)<169] (need [U5 (-(v (Prod.fst (GZ m N k)) (Prod.snd (GZ m N k))-1))] (need [(0:Int)<=7+(↑(Prod.fst (GZ m N k)):Int)/\(7:Int)+(↑(Prod.fst (GZ m N k)):Int)<((13:Nat):Int)] (need [(0:Int)<=1+r (Prod.fst (GZ m N k)) (Prod.snd (GZ m N k))/\(1:Int)+r (Prod.fst (GZ m N k)) (Prod.snd (GZ m N k))<((13:Nat):Int)] (need [((1:Int)+r (Prod.fst (GZ m N k)) (Prod.snd (GZ m N k))).toNat*1+(((7:Int)+(↑(Prod.fst (GZ m N k)):Int)).toNat*13+0)+List.length [min z0 (-(v (Prod.fst (GZ m N k)) (Prod.snd (GZ m N k))-1))]<=169] (need [U5 ((k:Int)+1)] (need [z2,UJ (agg QE),QO,QD=QD,WN,W9,XE,z3,UJ ((3:Nat):Int),XI,WV N U O m r v,UJ (N:Int),UJ (N:Int),UJ (Q2 m N),UJ (HZ m N:Int),(k:Int)+1=(↑(k+1):Int),169=169,HH 169 (GE (((1:Int)+r (Prod.fst (GZ m N k)) (Prod.snd (GZ m N k))).toNat*1+(((7:Int)+(↑(Prod.fst (GZ m N k)):Int)).toNat*13+0)) (min z0 (-(v (Prod.fst (GZ m N k)) (Prod.snd (GZ m N k))-1))) (kJ (((7:Int)+(↑(Prod.fst (GZ m N k)):Int)).toNat*1+(((1:Int)+r (Prod.fst (GZ m N k)) (Prod.snd (GZ m N k))).toNat*13+0)) [min z1 (v (Prod.fst (GZ m N k)) (Prod.snd (GZ m N k))+1)] (GO (z4)))) (GO (AX N U O m r v (k+1))),QV] (leaf GR.normal)))))))))))))))))))))) (need [U5 ((k:Int)+1)] (need [z2,UJ (agg QE),QO,QD=QD,WN,W9,XE,z3,UJ ((3:Nat):Int),XI,WV N U O m r v,UJ (N:Int),UJ (N:Int),UJ (Q2 m N),UJ (HZ m N:Int),(k:Int)+1=(↑(k+1):Int),169=169,HH 169 (GO (z4)) (GO (AX N U O m r v (k+1))),QV] (leaf GR.normal)))))) (need [z2,UJ (agg QE),QO,QD=QD,WN,W9,XE,z3,UJ ((3:Nat):Int),XI,WV N U O m r v,UJ (N:Int),UJ (N:Int),UJ (Q2 m N),UJ (HZ m N:Int),(k:Int)=(HZ m N:Int),169=169,HH 169 (GO (z4)) (GO (AX N U O m r v (HZ m N))),QV] (leaf (GR.exit 8))))) UD ?_)
 simp only [Jw7,IC,U6.sat,HF] at hQ;simp only [U6.sat,UU,GS,H6,UX,U5,G4,HU,RW,L1,LP,HC,IC]
 have h6:=UB.1;have hb:=bE m (K:=10) N (λb hb=>(UB.2 b hb).1);have hz:(IntKind.u64.wrap ((BitVec.ofInt IntKind.u64.bits (0 / 2^k) &&& BitVec.ofInt IntKind.u64.bits 1).toNat:Int)==0)=true:=by
  rw [Int.zero_ediv];decide
 simp only [hz,true_imp_iff,Bool.true_eq_false,false_imp_iff,and_true];refine ⟨λh=>?_,λh=>?_⟩;obtain ⟨hl1,hl2⟩:=bM m N k U3;obtain ⟨_,_,_,_,q4⟩:=UB.2 _ hl1;obtain ⟨q5,q6,q7,q8⟩:=q4 _ hl2;have e1:((1+r (GZ m N k).1 (GZ m N k).2).toNat)=1+(r (GZ m N k).1 (GZ m N k).2).toNat:=U3;have e2:((7+((GZ m N k).1:Int)).toNat)=7+(GZ m N k).1:=U3;rw [e1,e2];have h1: ∀M w,GE ((7+(GZ m N k).1)*1+((1+(r (GZ m N k).1 (GZ m N k).2).toNat)*13+0)) (min (GO M ((7+(GZ m N k).1)*1+((1+(r (GZ m N k).1 (GZ m N k).2).toNat)*13+0))) w) (GO M)=GO (bnd M (1+(r (GZ m N k).1 (GZ m N k).2).toNat) (7+(GZ m N k).1) w):=λM w=>jW U3 U3;have h2: ∀M w,GE ((1+(r (GZ m N k).1 (GZ m N k).2).toNat)*1+((7+(GZ m N k).1)*13+0)) (min (GO M ((1+(r (GZ m N k).1 (GZ m N k).2).toNat)*1+((7+(GZ m N k).1)*13+0))) w) (GO M)=GO (bnd M (7+(GZ m N k).1) (1+(r (GZ m N k).1 (GZ m N k).2).toNat) w):=λM w=>jW U3 U3;simp only [h1,h2];exact VF;obtain rfl:k=HZ m N:=U3;exact VF
end
def LB8(B:Int)(M:Nat->Cg):Prop:= ∀x y,-B<=M x y/\M x y<=8000
def JB8(B:Int)(o f t:Nat)(M:Nat->Cg):Prop:= ∀x y,M x y<=8000/\ -(6*B)<=M x y/\(x=o-> -(3*B)<=M x y)/\(y=o-> -(3*B)<=M x y)/\(x=o->y=o-> -(2*B)<=M x y)/\(¬(x<f\/(x=f/\y<t))-> -B<=M x y)
theorem Wb0{B:Int}{o:Nat}{M:Nat->Cg}(hB:0<=B)(h:LB8 B M):JB8 B o 0 0 M:=by
 intro x y;have:=h x y;refine ⟨U3,U3,λ_=>U3,λ_=>U3,λ_ _=>U3,λ_=>U3⟩
theorem Xh5{B:Int}{o f t:Nat}{M:Nat->Cg}(hB:0<=B)(h:JB8 B o f t M):JB8 B o f (t+1) (fwS M o f t):=by
 have hft:=h f t;have hfo:=h f o;have hot:=h o t;have hoo:=h o o;have S:=hft.2.2.2.2.2 U3;intro x y;have hxy:=h x y;unfold fwS bnd z9;by_cases hc:x=f/\y=t;exact VI;rw [if_neg hc];exact ⟨hxy.1,hxy.2.1,hxy.2.2.1,hxy.2.2.2.1,hxy.2.2.2.2.1,λhv=>hxy.2.2.2.2.2 U3⟩
theorem Xh6{B:Int}{o f:Nat}{M:Nat->Cg}(hB:0<=B)(h:JB8 B o f 0 M): ∀t,JB8 B o f t (fwT M o f t)
 | 0=>h
 |t+1=>Xh5 hB (Xh6 hB h t)
theorem Xw5{B:Int}{o f t:Nat}{M:Nat->Cg}(h:JB8 B o f t M):JB8 B o (f+1) 0 M:=by
 intro x y;have hxy:=h x y;exact ⟨hxy.1,hxy.2.1,hxy.2.2.1,hxy.2.2.2.1,hxy.2.2.2.2.1,λhv=>hxy.2.2.2.2.2 U3⟩
theorem Xh7{B:Int}{c o:Nat}{M:Nat->Cg}(hB:0<=B)(h:LB8 B M): ∀f,JB8 B o f 0 (fwF c M o f)
 | 0=>Wb0 hB h
 |f+1=>Xw5 (Xh6 hB (Xh7 hB h f) (c+1))
theorem Xh3{c:Nat}{M:Nat->Cg}(h:LB8 8001 M): ∀o,LB8 (8001*6^o) (fwO c M o)
 | 0=>by
  rw [show (8001:Int)*6^0=8001 by decide]
  exact h
 |o+1=>by
  have ih:=Xh3 (c:=c) h o;have hp:(0:Int)<=8001*6^o:=Bz U3 (Int.pow_nonneg U3);have hj:=Xh7 (c:=c) (o:=o) hp ih (c+1);intro x y;have:=hj x y;have e:(8001:Int)*6^(o+1)=6*(8001*6^o):=by rw [Int.pow_succ];omega
  rw [e];exact ⟨this.2.1,this.1⟩
theorem Jk9: ∀o:Nat,o<=12->(6:Int)^o<=2176782336:=by
 intro o ho;rcases (show o=0\/o=1\/o=2\/o=3\/o=4\/o=5\/o=6\/o=7\/o=8\/o=9\/o=10\/o=11\/o=12 by omega) with rfl|rfl|rfl|rfl|rfl|rfl|rfl|rfl|rfl|rfl|rfl|rfl|rfl<;>decide
theorem Zv9{c:Nat}{M:Nat->Cg}(h:LB8 8001 M){o f t:Nat}(ho:o<=12)(x y:Nat): -105000000000000<=fwT (fwF c (fwO c M o) o f) o f t x y/\fwT (fwF c (fwO c M o) o f) o f t x y<=8000:=by
 have ih:=Xh3 (c:=c) h o;have hp:(0:Int)<=8001*6^o:=Bz U3 (Int.pow_nonneg U3);have hj:=Xh6 hp (Xh7 (c:=c) (o:=o) hp ih f) t x y;have:=Jk9 o ho;omega
theorem vK{B:Int}{M:Nat->Cg}(h:LB8 B M){a b:Nat}{v:Int}(hv: -B<=v):LB8 B (bnd M a b v):=by
 intro x y;have h1:=h a b;have h2:=h x y;unfold bnd z9;split<;>omega
theorem oLH(k:Nat):(-9<=oL k/\oL k<=0)/\0<=oH k/\oH k<=9:=by
 unfold oL oH;constructor<;>split<;>omega
theorem Wl7: ∀k,LB8 8001 (ofM k)
 | 0=>by
  intro x y;unfold ofM PK;split<;>omega
 |k+1=>by
  have h:=oLH k;exact vK (vK (Wl7 k) U3) U3
theorem Xb1{N:Nat}{U O:Cg}{m:Ch}{r v:Nat->Cg}(h:bOK N U O m r v): ∀k,k<=N->LB8 8001 (btM U O k)
 | 0,_=>Wl7 3
 |k+1,hk=>by
  have q:=h.2 k U3;exact vK (vK (Xb1 h k U3) U3) U3
theorem aN{N:Nat}{U O:Cg}{m:Ch}{r v:Nat->Cg}(h:bOK N U O m r v): ∀q,q<=HZ m N->LB8 8001 (AX N U O m r v q)
 | 0,_=>Xb1 h N (Am _)
 |q+1,hq=>by
  obtain ⟨hl1,hl2⟩:=bM m N q U3;have q4:=(h.2 _ hl1).2.2.2.2 _ hl2;exact vK (vK (aN h q U3) U3) U3
section
variable (N:Nat)(U O:Cg)(m:Ch)(r v:Nat->Cg)
def r0M:Nat->Cg:=AX N U O m r v (HZ m N)
def BB:Nat->Cg:=fwO 12 (r0M N U O m r v) 13
def zP:Bool:=F1 (λk=>decide (0<=BB N U O m r v k k)) 13
def Jb0:St:={σ:=[AV.ro [lst 2 3 λk=>[iI (oL k),iI (oH k)],iI 1,Q1 N U O m r v,Q2 m N,top],agg QE,top,ptr 0 0,QD,AV.lit false,ptr 4 0]++D6 15 [iI 13]++D6 20 [lst 2 3 λk=>[iI (oL k),iI (oH k)],iI ((3:Nat):Int),iI 3]++D6 20 [Q1 N U O m r v,iI (N:Int),iI (N:Int)]++D6 14 [Q2 m N,iI (HZ m N:Int),iI (HZ m N:Int)]++D6 105 [],m:=[(4,H9.ints 244 [] 169 λk=>GO (AX N U O m r v (HZ m N)) k),(0,Y4)],nx:=28}
noncomputable def Jc5:Code:=UT (UC (UP Tryz.f80) 4)
def Wr4(o:Nat):St:=(upE [(136,i o)] [(4,.ints 244 [] 169 (GO (fwO 12 (r0M N U O m r v) o))),(0,.cells 183 [.x (.int .u64 0)])] (Jb0 N U O m r v))
def IB(o:Nat):GR->Option St
 | .exit 10=>some (upE [(136,i 13)] [(4,.ints 244 [] 169 (GO (fwO 12 (r0M N U O m r v) 13))),(0,.cells 183 [.x (.int .u64 0)])] (Jb0 N U O m r v))
 |_=>none
def Jw6:CT:= .leaf (.exit 10,(IB N U O m r v 0 (.exit 10)).getD (Jb0 N U O m r v))
def Zg7:G5:=H4 [] (D1 (Wr4 N U O m r v (0)) (Jw6 N U O m r v))
def Ja9(o:Nat):St:={σ:=[AV.ro [lst 2 3 λk=>[iI (oL k),iI (oH k)],iI 1,Q1 N U O m r v,Q2 m N,top],agg QE,top,ptr 0 0,QD,AV.lit false,ptr 4 0]++D6 9 [iI (o:Int)]++D6 5 [iI 13]++D6 20 [lst 2 3 λk=>[iI (oL k),iI (oH k)],iI ((3:Nat):Int),iI 3]++D6 20 [Q1 N U O m r v,iI (N:Int),iI (N:Int)]++D6 14 [Q2 m N,iI (HZ m N:Int),iI (HZ m N:Int)]++D6 50 [iI (o:Int)]++D6 54 [],m:=[(4,H9.ints 244 [] 169 λk=>GO (fwO 12 (r0M N U O m r v) o) k),(0,Y4)],nx:=32}
noncomputable def Jc4:Code:=(UT (UC (UT (UC (UP Tryz.f80) 4)) 0))
def Wr3(o:Nat)(f:Nat):St:=(upE [(139,i f)] [(4,.ints 244 [] 169 (GO (fwF 12 (fwO 12 (r0M N U O m r v) o) o f))),(0,.cells 183 [.x (.int .u64 0)])] (Ja9 N U O m r v o))
def IA(o:Nat)(f:Nat):GR->Option St
 | .exit 12=>some (upE [(139,i 13)] [(4,.ints 244 [] 169 (GO (fwF 12 (fwO 12 (r0M N U O m r v) o) o 13))),(0,.cells 183 [.x (.int .u64 0)])] (Ja9 N U O m r v o))
 |_=>none
def Jw5(o:Nat):CT:= .leaf (.exit 12,(IA N U O m r v o 0 (.exit 12)).getD (Ja9 N U O m r v o))
def Zg6(o:Nat):G5:=H4 [] (D1 (Wr3 N U O m r v o (0)) (Jw5 N U O m r v o))
def Ja8(o:Nat)(f:Nat):St:={σ:=[AV.ro [lst 2 3 λk=>[iI (oL k),iI (oH k)],iI 1,Q1 N U O m r v,Q2 m N,top],agg QE,top,ptr 0 0,QD,AV.lit false,ptr 4 0]++D6 9 [iI (o:Int),iI (f:Int),top,top,top,top,iI 13]++D6 20 [lst 2 3 λk=>[iI (oL k),iI (oH k)],iI ((3:Nat):Int),iI 3]++D6 20 [Q1 N U O m r v,iI (N:Int),iI (N:Int)]++D6 14 [Q2 m N,iI (HZ m N:Int),iI (HZ m N:Int)]++D6 50 [iI (o:Int),top,top,iI (f:Int)]++D6 51 [],m:=[(4,H9.ints 244 [] 169 λk=>GO (fwF 12 (fwO 12 (r0M N U O m r v) o) o f) k),(0,Y4)],nx:=36}
noncomputable def Ka8:Code:=(UT (UC (UT (UC (UT (UC (UP Tryz.f80) 4)) 0)) 0))
def Wr2(o:Nat)(f:Nat)(t:Nat):St:=(upE [(142,i t)] [(4,.ints 244 [] 169 (GO (fwT (fwF 12 (fwO 12 (r0M N U O m r v) o) o f) o f t))),(0,.cells 183 [.x (.int .u64 0)])] (Ja8 N U O m r v o f))
def I9(o:Nat)(f:Nat)(t:Nat):GR->Option St
 | .exit 14=>some (upE [(142,i 13)] [(4,.ints 244 [] 169 (GO (fwT (fwF 12 (fwO 12 (r0M N U O m r v) o) o f) o f 13))),(0,.cells 183 [.x (.int .u64 0)])] (Ja8 N U O m r v o f))
 |_=>none
def Jw4(o:Nat)(f:Nat):CT:= .leaf (.exit 14,(I9 N U O m r v o f 0 (.exit 14)).getD (Ja8 N U O m r v o f))
def Zg5(o:Nat)(f:Nat):G5:=H4 [] (D1 (Wr2 N U O m r v o f (0)) (Jw4 N U O m r v o f))
theorem Jq9(o:Nat)(f:Nat)(UB:bOK N U O m r v)(UY:o<=12)(DF:f<=12):GU U8 (.loop Ka8) (Zg5 N U O m r v o f):=by
 refine GL [] (L:=[]) (Ae L9 (Ae PL (Ae RX Aa))) (Ai Ab (Ag LD Ac)) UI UN (X:=Nat) (Wr2 N U O m r v o f) (λt=>t<=13) (λt=>13-t) (I9 N U O m r v o f) (x0:=0) UE ?_ ?_ ?_;rintro t;kernel_rfl;rintro t y E h;unfold I9 at h;split at h;cases h;kernel_rfl;cases h;rintro Q hQ t hx;refine ⟨(t+1),?_⟩;(with_reducible refine F4 (t:=let z2:=(fwF 12 (fwO 12 (r0M N U O m r v) o) o f);let z0:=(fwT z2 o f t);let z1:=(UJ (AV.ro [lst 2 3 λk=>[iI (oL k),iI (oH k)],iI 1,Q1 N U O m r v,Q2 m N,top]));let z3:=(UJ (HZ m N:Int));(branch (decide ((t:Int)<13)) (need [G7 f 13] (need [G7 t 13] (need [t*1+(f*13+0)<169] (need [G7 f 13] (need [G7 o 13] (need [o*1+(f*13+0)<169] (need [G7 o 13] (need [G7 t 13] (need [t*1+(o*13+0)<169] (need [U5 (GO z0 (o*1+(f*13+0))+GO z0 (t*1+(o*13+0)))] (need [G7 f 13] (need [G7 t 13] (need [t*1+(f*13+0)+List.length [min (GO z0 (t*1+(f*13+0))) (GO z0 (o*1+(f*13+0))+GO z0 (t*1+(o*13+0)))]<=169] (need [U5 ((t:Int)+1)] (need [z1,UJ (agg QE),QO,QD=QD,WN,W9,UJ (o:Int),UJ (f:Int),XE,UJ (lst 2 3 λk=>[iI (oL k),iI (oH k)]),UJ ((3:Nat):Int),XI,WV N U O m r v,UJ (N:Int),UJ (N:Int),UJ (Q2 m N),z3,z3,UJ (o:Int),UJ (f:Int),(t:Int)+1=(↑(t+1):Int),169=169,HH 169 (GE (t*1+(f*13+0)) (min (GO z0 (t*1+(f*13+0))) (GO z0 (o*1+(f*13+0))+GO z0 (t*1+(o*13+0)))) (GO z0)) (GO (fwT z2 o f (t+1))),QV] (leaf GR.normal)))))))))))))))) (need [z1,UJ (agg QE),QO,QD=QD,WN,W9,UJ (o:Int),UJ (f:Int),XE,UJ (lst 2 3 λk=>[iI (oL k),iI (oH k)]),UJ ((3:Nat):Int),XI,WV N U O m r v,UJ (N:Int),UJ (N:Int),UJ (Q2 m N),z3,z3,UJ (o:Int),UJ (f:Int),(t:Int)=13,169=169,HH 169 (GO z0) (GO (fwT z2 o f 13)),QV] (leaf (GR.exit 14))))) UD ?_)
 simp only [Jw4,I9,U6.sat,HF] at hQ;simp only [U6.sat,UU,GS,H6,UX,U5,G4,HU,RW,L1,LP,HC,I9]
 have hl:=λx y=>Zv9 (c:=12) (aN UB (HZ m N) (Am _)) (o:=o) (f:=f) (t:=t) U3 x y;have hfo:=hl f o;have hot:=hl o t;refine ⟨λh=>?_,λh=>?_⟩;have h1: ∀M,GO M (o*1+(f*13+0))=M f o:=λM=>vH _ U3 U3;have h2: ∀M,GO M (t*1+(o*13+0))=M o t:=λM=>vH _ U3 U3;have h3: ∀M w,GE (t*1+(f*13+0)) (min (GO M (t*1+(f*13+0))) w) (GO M)=GO (bnd M f t w):=λM w=>jW U3 U3;simp only [h3];simp only [h1,h2];unfold r0M;exact VF;obtain rfl:t=13:=U3;exact VF
theorem Jr0(o:Nat)(UB:bOK N U O m r v)(UY:o<=12):GU U8 (.loop Jc4) (Zg6 N U O m r v o):=by
 refine GL [] (L:=[qM 17 (λk=>RH [k<=12] (Zg5 N U O m r v o k))]) (Ae L9 (Ae PL (Ae RX Aa))) (Ai Ab (Ag LD Ac)) UI (GJ (λcj hcj=>by
  have e:UC Jc4 0=some (.loop Ka8):=UD;rw [e] at hcj;cases hcj;exact PW (λk=>DU (λh=>Jq9 N U O m r v o k UB UY h)))) (X:=Nat) (Wr3 N U O m r v o) (λf=>f<=13) (λf=>13-f) (IA N U O m r v o) (x0:=0) UE ?_ ?_ ?_
 rintro f;kernel_rfl;rintro f y E h;unfold IA at h;split at h;cases h;kernel_rfl;cases h;rintro Q hQ f hx;refine ⟨(f+1),?_⟩;(with_reducible refine F4 (t:=let z0:=(UJ (AV.ro [lst 2 3 λk=>[iI (oL k),iI (oH k)],iI 1,Q1 N U O m r v,Q2 m N,top]));let z1:=(fwO 12 (r0M N U O m r v) o);let z2:=(UJ (HZ m N:Int));let z3:=(UJ (lst 2 3 λk=>[iI (oL k),iI (oH k)]));(branch (decide ((f:Int)<13)) (need [f<=12] (need [z0,UJ (agg QE),QO,QD=QD,WN,W9,UJ (o:Int),UJ (f:Int),XE,z3,UJ ((3:Nat):Int),XI,WV N U O m r v,UJ (N:Int),UJ (N:Int),UJ (Q2 m N),z2,z2,UJ (o:Int),UJ (f:Int),(0:Int)=((0:Nat):Int),169=169,HH 169 (GO (fwF 12 z1 o f)) (GO (fwT (fwF 12 z1 o f) o f 0)),QV] (need [U5 ((f:Int)+1)] (need [z0,UJ (agg QE),QO,QD=QD,WN,W9,UJ (o:Int),XE,z3,UJ ((3:Nat):Int),XI,WV N U O m r v,UJ (N:Int),UJ (N:Int),UJ (Q2 m N),z2,z2,UJ (o:Int),(f:Int)+1=(↑(f+1):Int),169=169,HH 169 (GO (fwT (fwF 12 z1 o f) o f 13)) (GO (fwF 12 z1 o (f+1))),QV] (leaf GR.normal))))) (need [z0,UJ (agg QE),QO,QD=QD,WN,W9,UJ (o:Int),XE,z3,UJ ((3:Nat):Int),XI,WV N U O m r v,UJ (N:Int),UJ (N:Int),UJ (Q2 m N),z2,z2,UJ (o:Int),(f:Int)=13,169=169,HH 169 (GO (fwF 12 z1 o f)) (GO (fwF 12 z1 o 13)),QV] (leaf (GR.exit 12))))) UD ?_)
 simp only [Jw5,IA,U6.sat,HF] at hQ;simp only [U6.sat,UU,GS,H6,UX,U5,G4,HU,RW,L1,LP,HC,IA]
 refine ⟨λh=>?_,λh=>?_⟩;exact VF;obtain rfl:f=13:=U3;exact VF
theorem Jr1(UB:bOK N U O m r v):GU U8 (.loop Jc5) (Zg7 N U O m r v):=by
 refine GL [] (L:=[qM 16 (λk=>RH [k<=12] (Zg6 N U O m r v k))]) (Ae L9 (Ae PL (Ae RX Aa))) (Ai Ab (Ag LD Ac)) UI (GJ (λcj hcj=>by
  have e:UC Jc5 0=some (.loop Jc4):=UD;rw [e] at hcj;cases hcj;exact PW (λk=>DU (λh=>Jr0 N U O m r v k UB h)))) (X:=Nat) (Wr4 N U O m r v) (λo=>o<=13) (λo=>13-o) (IB N U O m r v) (x0:=0) UE ?_ ?_ ?_
 rintro o;kernel_rfl;rintro o y E h;unfold IB at h;split at h;cases h;kernel_rfl;cases h;rintro Q hQ o hx;refine ⟨(o+1),?_⟩;(with_reducible refine F4 (t:=let z0:=(UJ (AV.ro [lst 2 3 λk=>[iI (oL k),iI (oH k)],iI 1,Q1 N U O m r v,Q2 m N,top]));let z1:=(UJ (HZ m N:Int));let z2:=(UJ (lst 2 3 λk=>[iI (oL k),iI (oH k)]));let z3:=(fwO 12 (r0M N U O m r v) o);(branch (decide ((o:Int)<13)) (need [o<=12] (need [z0,UJ (agg QE),QO,QD=QD,WN,W9,UJ (o:Int),XE,z2,UJ ((3:Nat):Int),XI,WV N U O m r v,UJ (N:Int),UJ (N:Int),UJ (Q2 m N),z1,z1,UJ (o:Int),(0:Int)=((0:Nat):Int),169=169,HH 169 (GO z3) (GO (fwF 12 z3 o 0)),QV] (need [U5 ((o:Int)+1)] (need [z0,UJ (agg QE),QO,QD=QD,WN,W9,XE,z2,UJ ((3:Nat):Int),XI,WV N U O m r v,UJ (N:Int),UJ (N:Int),UJ (Q2 m N),z1,z1,(o:Int)+1=(↑(o+1):Int),169=169,HH 169 (GO (fwF 12 z3 o 13)) (GO (fwO 12 (r0M N U O m r v) (o+1))),QV] (leaf GR.normal))))) (need [z0,UJ (agg QE),QO,QD=QD,WN,W9,XE,z2,UJ ((3:Nat):Int),XI,WV N U O m r v,UJ (N:Int),UJ (N:Int),UJ (Q2 m N),z1,z1,(o:Int)=13,169=169,HH 169 (GO z3) (GO (fwO 12 (r0M N U O m r v) 13)),QV] (leaf (GR.exit 10))))) UD ?_)
 simp only [Jw6,IB,U6.sat,HF] at hQ;simp only [U6.sat,UU,GS,H6,UX,U5,G4,HU,RW,L1,LP,HC,IB]
 refine ⟨λh=>?_,λh=>?_⟩;exact VF;obtain rfl:o=13:=U3;exact VF
end
section
variable (N:Nat)(U O:Cg)(m:Ch)(r v:Nat->Cg)
def Xj6:St:={σ:=[AV.ro [lst 2 3 λk=>[iI (oL k),iI (oH k)],iI 1,Q1 N U O m r v,Q2 m N,top],agg QE,top,ptr 0 0,top,top,ptr 4 0]++D6 15 [iI 13]++D6 20 [lst 2 3 λk=>[iI (oL k),iI (oH k)],iI ((3:Nat):Int),iI 3]++D6 20 [Q1 N U O m r v,iI (N:Int),iI (N:Int)]++D6 14 [Q2 m N,iI (HZ m N:Int),iI (HZ m N:Int)]++D6 50 [iI 13]++D6 54 [],m:=[(4,H9.ints 244 [] 169 λk=>GO (fwO 12 (r0M N U O m r v) 13) k),(0,Y4)],nx:=29}
noncomputable def Ka7:Code:=UT (UC (UP Tryz.f80) 5)
def Wr1(k:Nat):St:=(upE [(178,i k)] [(4,.ints 244 [] 169 (GO (BB N U O m r v))),(0,.cells 183 [.x (.int .u64 0)])] (Xj6 N U O m r v))
def rA(k:Nat):GR->Option St
 | .ret=>some (upE [(4,.x (.pointer none)),(5,.lit false),(178,.top)] [(4,.ints 244 [] 169 (GO (BB N U O m r v))),(0,.cells 183 [.x (.int .u64 0)])] (Xj6 N U O m r v))
 | .exit 16=>some (upE [(178,.top)] [(4,.ints 244 [] 169 (GO (BB N U O m r v))),(0,.cells 183 [.x (.int .u64 0)])] (Xj6 N U O m r v))
 |_=>none
def Jw3:CT:= .branch (zP N U O m r v) (.leaf (.exit 16,(rA N U O m r v 0 (.exit 16)).getD (Xj6 N U O m r v))) (.leaf (.ret,(rA N U O m r v 0 .ret).getD (Xj6 N U O m r v)))
def Zg4:G5:=H4 [] (D1 (Wr1 N U O m r v (0)) (Jw3 N U O m r v))
theorem Jq8(UB:bOK N U O m r v):GU U8 (.loop Ka7) (Zg4 N U O m r v):=by
 refine GL [] (L:=[]) (Ae L9 (Ae PL (Ae RX Aa))) (Ai Ab (Ag LD Ac)) UI UN (X:=Nat) (Wr1 N U O m r v) (λk=>k<=13/\ ∀j,j<k->0<=BB N U O m r v j j) (λk=>13-k) (rA N U O m r v) (x0:=0) UE ?_ ?_ ?_;rintro k;kernel_rfl;rintro k y E h;unfold rA at h;split at h;cases h;kernel_rfl;cases h;kernel_rfl;cases h;rintro Q hQ k hx;refine ⟨(k+1),?_⟩;(with_reducible refine F4 (t:=let z0:=(UJ (AV.ro [lst 2 3 λk=>[iI (oL k),iI (oH k)],iI 1,Q1 N U O m r v,Q2 m N,top]));let z1:=(UJ (HZ m N:Int));let z2:=BB N U O m r v;let z3:=(UJ (lst 2 3 λk=>[iI (oL k),iI (oH k)]));(branch (decide ((k:Int)<13)) (need [G7 k 13] (need [G7 k 13] (need [k*1+(k*13+0)<169] (branch (decide (GO (z2) (k*1+(k*13+0))<0)) (need [z0,UJ (agg QE),QO,QD=QD,WN,W9,XE,z3,UJ ((3:Nat):Int),XI,WV N U O m r v,UJ (N:Int),UJ (N:Int),UJ (Q2 m N),z1,z1,XE,169=169,HB 169 (GO (z2)),QV] (leaf GR.ret)) (need [U5 ((k:Int)+1)] (need [z0,UJ (agg QE),QO,W9,XE,z3,UJ ((3:Nat):Int),XI,WV N U O m r v,UJ (N:Int),UJ (N:Int),UJ (Q2 m N),z1,z1,XE,(k:Int)+1=(↑(k+1):Int),169=169,HB 169 (GO (z2)),QV] (leaf GR.normal))))))) (need [z0,UJ (agg QE),QO,W9,XE,z3,UJ ((3:Nat):Int),XI,WV N U O m r v,UJ (N:Int),UJ (N:Int),UJ (Q2 m N),z1,z1,XE,169=169,HB 169 (GO (z2)),QV] (leaf (GR.exit 16))))) UD ?_)
 simp only [Jw3,rA,U6.sat,HF] at hQ;simp only [U6.sat,UU,GS,H6,UX,U5,G4,HU,RW,L1,LP,HC,rA]
 have h1:GO (BB N U O m r v) (k*1+(k*13+0))=BB N U O m r v k k\/13<=k:=by
  rcases An k 13 with h|h;exact .inl (vH _ U3 h);exact .inr h
 refine ⟨λh=>?_,λh=>?_⟩;have h2:=h1.resolve_right U3;rw [h2];refine ⟨U3,U3,U3,λhneg=>?_,λWu3=>?_⟩
 ·have hno:zP N U O m r v=false:=by
   cases ho:zP N U O m r v;rfl;have:=HG.1 ho k U3;simp at this;omega
  (with_reducible repeat' first|apply Al|intro _)
  all_goals first|exact B4|(rename_i E hE;cases hE;exact hQ.2 hno)
 exact VY
 ·obtain ⟨hx1,hx2⟩:=hx;obtain rfl:k=13:=U3;have Wt0:zP N U O m r v=true:=HG.2 (λj hj=>by simpa using hx2 j hj)
  (with_reducible repeat' first|apply Al|intro _)
  all_goals first|exact B4|(rename_i E hE;cases hE;exact hQ.1 Wt0)
end
theorem Qs0{S:Code->G5->Prop}{c:Code}{s0 s1 s2 s3 s4 s5:G5}(h0: ∀cj,UC c 0=some cj->S cj s0)(h1: ∀cj,UC c 1=some cj->S cj s1)(h2: ∀cj,UC c 2=some cj->S cj s2)(h3: ∀cj,UC c 3=some cj->S cj s3)(h4: ∀cj,UC c 4=some cj->S cj s4)(h5: ∀cj,UC c 5=some cj->S cj s5):
  ∀j cj,UC c j=some cj-> ∀sp,[s0,s1,s2,s3,s4,s5][j]? =some sp->S cj sp:=by
 intro j cj hj sp hsp
 match j with
 | 0=>simp at hsp;subst hsp;exact h0 cj hj
 | 1=>simp at hsp;subst hsp;exact h1 cj hj
 | 2=>simp at hsp;subst hsp;exact h2 cj hj
 | 3=>simp at hsp;subst hsp;exact h3 cj hj
 | 4=>simp at hsp;subst hsp;exact h4 cj hj
 | 5=>simp at hsp;subst hsp;exact h5 cj hj
 |j+6=>simp at hsp
section
variable (N:Nat)
abbrev KL(U:Cg)(O:Cg)(m:Ch)(r:Nat->Cg)(v:Nat->Cg):AV:=roI [] 169 (λk=>GO (BB N U O m r v) k) 0
theorem Xt9(U O:Cg)(m:Ch)(r v:Nat->Cg)(UB:bOK N U O m r v):G6 U8 80 [.ro [ofs,i 1,bds N U O m r v,.lst 2 (HZ m N) (plF m N),.top],.agg [.x (.int .u64 0)]] (.branch (zP N U O m r v) (.leaf (.tup [.roI [] 169 (GO (BB N U O m r v)) 0,.lit true])) (.leaf (.tup [Bo.nilP,.lit false]))):=by
 refine HD (L:=[Zh2 N U O m r v,Zh0 N U O m r v,Zg9 N U O m r v,Zg8 N U O m r v,Zg7 N U O m r v,Zg4 N U O m r v]) (Ae L9 (Ae PL (Ae RX Aa))) (Ai Ab (Ag LD Ac)) UI Tryz.func80 (GF Tryz.f80) (Qs0 (lpE (b:= .loop Jc6) UD<|(Jr6 N U O m r v).N) (lpE (b:= .loop Kb1) UD<|(Jr4 N U O m r v).N) (lpE (b:= .loop Kb0) UD<|(Jr3 N U O m r v UB).N) (lpE (b:= .loop Ka9) UD<|(Jr2 N U O m r v UB).N) (lpE (b:= .loop Jc5) UD<|(Jr1 N U O m r v UB).N) (lpE (b:= .loop Ka7) UD<|(Jq8 N U O m r v UB).N)) (t:=let z0:=(UJ (AV.ro [lst 2 3 λk=>[iI (oL k),iI (oH k)],iI 1,Q1 N U O m r v,Q2 m N,top]));let z1:=(UJ (lst 2 3 λk=>[iI (oL k),iI (oH k)]));let z2:=(UJ (HZ m N:Int));let z3:=(UJ ((3:Nat):Int));(need [z0,UJ (agg QE),QO,QD=QD,WN,W9,(0:Int)=((0:Nat):Int),169=169,HH 169 (US QM) (GO (PK 0 0)),QV] (need [z0,UJ (agg QE),QO,QD=QD,WN,W9,XE,z1,z3,(0:Int)=((0:Nat):Int),169=169,HH 169 (GO (PK 13 0)) (GO (ofM 0)),QV] (need [z0,UJ (agg QE),QO,QD=QD,WN,W9,XE,z1,z3,XI,WV N U O m r v,UJ (N:Int),(0:Int)=((0:Nat):Int),169=169,HH 169 (GO (ofM 3)) (GO (btM U O 0)),QV] (need [z0,UJ (agg QE),QO,QD=QD,WN,W9,XE,z1,z3,XI,WV N U O m r v,UJ (N:Int),UJ (N:Int),UJ (Q2 m N),z2,(0:Int)=((0:Nat):Int),169=169,HH 169 (GO (btM U O N)) (GO (AX N U O m r v 0)),QV] (need [z0,UJ (agg QE),QO,QD=QD,WN,W9,XE,z1,z3,XI,WV N U O m r v,UJ (N:Int),UJ (N:Int),UJ (Q2 m N),z2,z2,(0:Int)=((0:Nat):Int),169=169,HH 169 (GO (AX N U O m r v (HZ m N))) (GO (fwO 12 (r0M N U O m r v) 0)),QV] (need [z0,UJ (agg QE),QO,W9,XE,z1,z3,XI,WV N U O m r v,UJ (N:Int),UJ (N:Int),UJ (Q2 m N),z2,z2,XE,(0:Int)=((0:Nat):Int),169=169,HH 169 (GO (fwO 12 (r0M N U O m r v) 13)) (GO (BB N U O m r v)),QV] (branch (zP N U O m r v) (leaf (tup [KL N U O m r v,AV.lit true])) (leaf (tup [QD,AV.lit false])))))))))) UD ?_
 intro Q hQ;simp only [U6.sat,UU,G4,U5,LP,HC] at hQ ⊢
 (with_reducible repeat' first|apply Al|intro _)
 all_goals first|exact Ak|omega|with_reducible rfl|rfl|exact Xs1 _|(rename_i h;exact h.elim)|(rename_i h;exact ⟨.tup [.roI [] 169 (GO (BB N U O m r v)) 0,.lit true],⟨⟨rfl,rfl,λ_ _=>rfl,rfl⟩,rfl,Ak⟩,hQ.1 h⟩)|(rename_i h;exact ⟨.tup [Bo.nilP,.lit false],⟨rfl,rfl,Ak⟩,hQ.2 h⟩)
def Zy7(U O:Cg)(m:Ch)(r v:Nat->Cg):DX:=λl=>some (.need [l=[.ro [ofs,i 1,bds N U O m r v,.lst 2 (HZ m N) (plF m N),.top],.agg [.x (.int .u64 0)]]] (.branch (zP N U O m r v) (.leaf (.tup [.roI [] 169 (GO (BB N U O m r v)) 0,.lit true])) (.leaf (.tup [Bo.nilP,.lit false]))))
theorem Xb8(U O:Cg)(m:Ch)(r v:Nat->Cg)(UB:bOK N U O m r v):Sx.Enters Tryz.prog 80/\ ∀avs t,Zy7 N U O m r v avs=some t->G6 U8 80 avs t:=by
 refine ⟨(UZ Tryz.func80),?_⟩;intro avs t h;cases h;intro Q hQ;have e:=hQ.1
 dsimp only [UU] at e
 subst e;exact Xt9 N U O m r v UB Q hQ.2
def bV(U O:Cg)(m:Ch)(r v:Nat->Cg):Prop:=bOK N U O m r v/\ ∀b,b<N-> ∀j k,j<k->k<m b->r b j≠r b k
end
section
variable {N:Nat}{U O:Cg}{m:Ch}{r v:Nat->Cg}
theorem Jf6(h:bV N U O m r v):vB N (λk=>[i (U k),i (O k),bts (m k) (r k) (v k)]):=by
 refine ⟨h.1.1,U,O,m,λk j=>[i (r k j),i (v k j)],λ_ _=>rfl,λk hk=>⟨λ_ _=>rfl,⟨?_,λj hj=>?_,λj q hj hq=>?_⟩,?_⟩⟩;have:=(h.1.2 k hk).1;omega;obtain ⟨h1,h2,h3,h4,h5⟩:=h.1.2 k hk;exact h5 j hj;exact h.2 k hk j q hj hq;obtain ⟨h1,h2,h3,h4,h5⟩:=h.1.2 k hk;exact (insB_iff _ _ _ _).2 ⟨h2,h3,h4⟩
theorem Xc5(h:bV N U O m r v):N<=1000/\ ∀b,b<N->m b<=1000:=⟨by have:=h.1.1;omega,λb hb=>by have:=(h.1.2 b hb).1;omega⟩
end
section
variable (f:Ci)(er:Int)(N:Nat)(U O:Cg)(m:Ch)(r v:Nat->Cg)
def Xw2:GM:=λl=>some ([l=[.agg [.lst 2 3 f,i er,bds N U O m r v]]],.ro [.lst 2 3 f,i er,bds N U O m r v,.lst 2 (HZ m N) (plF m N),.top])
theorem Qy9(UB:N<=1000)(UY: ∀b,b<N->m b<=1000):PS U8 79 (Xw2 f er N U O m r v):=by
 refine ⟨(UZ Tryz.func79),?_⟩;intro avs ns res h hn;cases h;have e:=hn _ H0;subst e;exact Xa9 f er N U O m r v UB UY
end
section
variable (N:Nat)(U O:Cg)(m:Ch)(r v:Nat->Cg)
theorem Qz0(UB:bV N U O m r v):G6 U8 52 [.agg [ofs,i 1,bds N U O m r v],.lit true] (.branch (zP N U O m r v) (.leaf (.tup [.roI [] 169 (GO (BB N U O m r v)) 0,i 0])) (.leaf (.tup [Bo.nilP,i 9]))):=by
 refine HD (L:=[]) (Ae Qz8 Aa) (Aj (Af (Qy9 (λk=>[i (oL k),i (oH k)]) 1 N U O m r v (Xc5 UB).1 (Xc5 UB).2) Ab) Ac (Ah (Xb8 N U O m r v UB.1) (UV.nil _))) UI Tryz.func52 (GF Tryz.f52) GN (t:=need [ofB λk=>[i (oL k),i (oH k)],vB N λk=>[i (U k),i (O k),bts (m k) (r k) (v k)]] (branch ((0:Int) != 0) (leaf (tup [QD,iI 0])) (need [UJ ([agg [lst 2 3 λk=>[iI (oL k),iI (oH k)],iI 1,Q1 N U O m r v]])] (need [UJ ([AV.ro [lst 2 3 λk=>[iI (oL k),iI (oH k)],iI 1,Q1 N U O m r v,Q2 m N,top],agg QE])] (branch (zP N U O m r v) (leaf (tup [KL N U O m r v,iI 0])) (leaf (tup [QD,iI 9]))))))) UD ?_;intro Q hQ;simp only [U6.sat,UU,G4] at hQ ⊢;refine ⟨⟨λ_ _=>rfl,Jf6 UB⟩,λh=>by simp at h,λ_=>⟨λh=>⟨.tup [.roI [] 169 (GO (BB N U O m r v)) 0,i 0],⟨⟨rfl,rfl,λ_ _=>rfl,rfl⟩,⟨rfl,rfl⟩,Ak⟩,hQ.1 h⟩,λh=>⟨.tup [Bo.nilP,i 9],⟨rfl,⟨rfl,rfl⟩,Ak⟩,hQ.2 h⟩⟩⟩
def Xg4:DX:=λl=>some (.need [l=[.agg [ofs,i 1,bds N U O m r v],.lit true]] (.branch (zP N U O m r v) (.leaf (.tup [.roI [] 169 (GO (BB N U O m r v)) 0,i 0])) (.leaf (.tup [Bo.nilP,i 9]))))
theorem MZ(UB:bV N U O m r v):Sx.Enters Tryz.prog 52/\ ∀avs t,Xg4 N U O m r v avs=some t->G6 U8 52 avs t:=by
 refine ⟨(UZ Tryz.func52),?_⟩;intro avs t h;cases h;intro Q hQ;have e:=hQ.1
 dsimp only [UU] at e
 subst e;exact Qz0 N U O m r v UB Q hQ.2
end
def Xe6:GM
 |[.roI [] 169 F 0,.x (.int .i64 a),.x (.int .i64 b)]=>some ([0<=a/\a<=12,0<=b/\b<=12,-1000000000000000<=F (b.toNat*13+a.toNat)/\F (b.toNat*13+a.toNat)<=1000000000000000],i (-(F (b.toNat*13+a.toNat))))
 |_=>none
theorem Xt8(F:Cg)(a b:Int)(UB:0<=a/\a<=12)(UY:0<=b/\b<=12)(DF: -1000000000000000<=F (b.toNat*13+a.toNat)/\F (b.toNat*13+a.toNat)<=1000000000000000):UH U8 81 [.roI [] 169 F 0,i a,i b] (i (-(F (b.toNat*13+a.toNat)))):=by
 refine HL Tryz.func81 (t:=need [G7 b 13] (need [G7 a 13] (need [Int.toNat a*1+(Int.toNat b*13+0)<169] (need [U5 (-F (Int.toNat a*1+(Int.toNat b*13+0)))] (leaf (RV.x (.int .i64 (-F (Int.toNat a*1+(Int.toNat b*13+0)))))))))) UD ?_;simp only [U6.sat,UU,GS,H6,UX,G4,FA];rw [show a.toNat*1+(b.toNat*13+0)=b.toNat*13+a.toNat by omega]
 simp only [U5];simp;omega
theorem Xt7:UA U8 81 Xe6:=by
 refine ⟨(UZ Tryz.func81),?_⟩;intro avs ns res h hn;unfold Xe6 at h;split at h;cases h;exact Xt8 _ _ _ (hn _ UE) (hn _ UE) (hn _ UE);cases h
def Qo0:GM
 |[.roI [] 169 F 0,.x (.int .i64 a),.x (.int .i64 b)]=>some ([0<=a/\a<=12,0<=b/\b<=12,-1000000000000000<=F (a.toNat*13+b.toNat)/\F (a.toNat*13+b.toNat)<=1000000000000000],i (F (a.toNat*13+b.toNat)))
 |_=>none
theorem Xb6(F:Cg)(a b:Int)(UB:0<=a/\a<=12)(UY:0<=b/\b<=12)(DF: -1000000000000000<=F (a.toNat*13+b.toNat)/\F (a.toNat*13+b.toNat)<=1000000000000000):UH U8 82 [.roI [] 169 F 0,i a,i b] (i (F (a.toNat*13+b.toNat))):=by
 refine HL Tryz.func82 (t:=need [G7 a 13] (need [G7 b 13] (need [Int.toNat b*1+(Int.toNat a*13+0)<169] (leaf (RV.x (.int .i64 (F (Int.toNat b*1+(Int.toNat a*13+0))))))))) UD ?_;simp only [U6.sat,UU,GS,H6,UX,G4,FA];rw [show b.toNat*1+(a.toNat*13+0)=a.toNat*13+b.toNat by omega]
 simp only [U5];simp;omega
theorem Xb5:UA U8 82 Qo0:=by
 refine ⟨(UZ Tryz.func82),?_⟩;intro avs ns res h hn;unfold Qo0 at h;split at h;cases h;exact Xb6 _ _ _ (hn _ UE) (hn _ UE) (hn _ UE);cases h
def NL:GM
 |[.roI [] 169 F 0,.x (.int .i64 a),.x (.int .i64 b)]=>some ([0<=a/\a<=12,0<=b/\b<=12,-1000000000000000<=F (b.toNat*13+a.toNat)/\F (b.toNat*13+a.toNat)<=1000000000000000,-1000000000000000<=F (a.toNat*13+b.toNat)/\F (a.toNat*13+b.toNat)<=1000000000000000],.agg [i (-(F (b.toNat*13+a.toNat))),i (F (a.toNat*13+b.toNat))])
 |_=>none
theorem nP(F:Cg)(a b:Int)(UB:0<=a/\a<=12)(UY:0<=b/\b<=12)(DF: -1000000000000000<=F (b.toNat*13+a.toNat)/\F (b.toNat*13+a.toNat)<=1000000000000000)(FS: -1000000000000000<=F (a.toNat*13+b.toNat)/\F (a.toNat*13+b.toNat)<=1000000000000000):UH U8 53 [.roI [] 169 F 0,i a,i b] (.agg [i (-(F (b.toNat*13+a.toNat))),i (F (a.toNat*13+b.toNat))]):=by
 refine UL (L:=[]) (Ae Xt7 (Ae Xb5 Aa)) UI Tryz.func53 (GF Tryz.f53) UN (t:=need [(0:Int)<=a/\a<=12,(0:Int)<=b/\b<=12,(-1000000000000000:Int)<=F (Int.toNat b*13+Int.toNat a)/\F (Int.toNat b*13+Int.toNat a)<=1000000000000000] (need [(0:Int)<=a/\a<=12,(0:Int)<=b/\b<=12,(-1000000000000000:Int)<=F (Int.toNat a*13+Int.toNat b)/\F (Int.toNat a*13+Int.toNat b)<=1000000000000000] (leaf (RV.agg [RV.x (.int .i64 (-F (Int.toNat b*13+Int.toNat a))),RV.x (.int .i64 (F (Int.toNat a*13+Int.toNat b)))])))) UD ?_;exact VG
theorem AR:UA U8 53 NL:=by
 refine ⟨(UZ Tryz.func53),?_⟩;intro avs ns res h hn;unfold NL at h;split at h;cases h;exact nP _ _ _ (hn _ UE) (hn _ UE) (hn _ UE) (hn _ UE);cases h
theorem Xs2{N:Nat}{U O:Cg}{m:Ch}{r v:Nat->Cg}(h:bOK N U O m r v)(x y:Nat): -1000000000000000<=BB N U O m r v x y/\BB N U O m r v x y<=1000000000000000:=by
 have:=Xh3 (c:=12) (aN h (HZ m N) (Am _)) 13 x y;rw [show (8001:Int)*6^13=104498612822016 by decide] at this
 unfold BB r0M;omega
section
variable (N:Nat)(U O:Cg)(m:Ch)(r v:Nat->Cg)
def boE:Int:=if zP N U O m r v=true then 0 else 9
def boN:Nat:=if zP N U O m r v=true then 3 else 0
def boL(k:Nat):Int:= -(BB N U O m r v 0 (1+k))
def boH(k:Nat):Int:=BB N U O m r v (1+k) 0
abbrev Q9:AV:=AV.x (.slice none 0 0)
def Qf2:St:={σ:=[agg [lst 2 3 λk=>[iI (oL k),iI (oH k)],iI 1,Q1 N U O m r v],ptr 0 0,Q9,iI 0,QD,iI 9]++D6 12 [iI ((3:Nat):Int)]++D6 12 [],m:=[(901,H9.row 68 2 0 λx=>[]),(0,H9.cells 59 [lst 2 3 λk=>[iI (oL k),iI (oH k)],iI 1,Q1 N U O m r v])],nx:=902}
noncomputable def Wb3:Code:=UT (UC (UP Tryz.f19) 0)
def uZ(k:Nat):St:={σ:=HI [(19,i k),(6,.row 901),(4,.roI [] 169 (GO (BB N U O m r v)) 0),(5,i 0)] (Qf2 N U O m r v).σ,m:=[(901,.row 68 2 k (λk=>[i (boL N U O m r v k),i (boH N U O m r v k)])),(0,.cells 59 [ofs,i 1,bds N U O m r v])],nx:=902}
def BN(k:Nat):GR->Option St
 | .exit 0=>some {σ:=HI [(19,i 3),(6,.row 901),(4,.roI [] 169 (GO (BB N U O m r v)) 0),(5,i 0)] (Qf2 N U O m r v).σ,m:=[(901,.row 68 2 3 (λk=>[i (boL N U O m r v k),i (boH N U O m r v k)])),(0,.cells 59 [ofs,i 1,bds N U O m r v])],nx:=902}
 |_=>none
def Xd8:CT:= .leaf (.exit 0,(BN N U O m r v 0 (.exit 0)).getD (Qf2 N U O m r v))
def oU:G5:=H4 [(.slot 6,901,68,2)] (D1 (uZ N U O m r v (0)) (Xd8 N U O m r v))
abbrev KY:Prop:=(1:Int)=1
theorem Js8(UB:bV N U O m r v):GU U8 (.loop Wb3) (oU N U O m r v):=by
 refine GL [(.slot 6,901,68,2)] (L:=[]) (Ae L9 (Ae AR Aa)) (Aj Ab Ac (Ah (MZ N U O m r v UB) (UV.nil _))) UI UN (X:=Nat) (uZ N U O m r v) (λk=>k<=3) (λk=>3-k) (BN N U O m r v) (x0:=0) UE ?_ ?_ ?_;rintro k;kernel_rfl;rintro k y E h;unfold BN at h;split at h;cases h;kernel_rfl;cases h;rintro Q hQ k hx;refine ⟨(k+1),?_⟩;(with_reducible refine F4 (t:=let z0:=BB N U O m r v;let z1:=(UJ (agg [lst 2 3 λk=>[iI (oL k),iI (oH k)],iI 1,Q1 N U O m r v]));let z2:=(GO (z0) (((1:Int)+(k:Int)).toNat*13+(0:Int).toNat));(branch (decide ((k:Int)<((3:Nat):Int))) (need [(0:Int)<=(k:Int)/\(k:Int)<=1000] (need [(0:Int)<=1+(k:Int)/\(1:Int)+(k:Int)<=12,(0:Int)<=0/\(0:Int)<=12,(-1000000000000000:Int)<=GO (z0) (0+((1:Int)+(k:Int)).toNat)/\GO (z0) (0+((1:Int)+(k:Int)).toNat)<=1000000000000000,(-1000000000000000:Int)<=GO (z0) (((1:Int)+(k:Int)).toNat*13+(0:Int).toNat)/\GO (z0) (((1:Int)+(k:Int)).toNat*13+(0:Int).toNat)<=1000000000000000] (need [(k+1)*16<=140737488355328,L0 1 (UO 2 [iI (-GO (z0) (0+((1:Int)+(k:Int)).toNat)),iI z2])] (need [U5 ((k:Int)+1)] (need [z1,QO,Q9=Q9,QV,UJ (KL N U O m r v),QV,WK,UJ ((3:Nat):Int),(k:Int)+1=(↑(k+1):Int),k+1=k+1,HH (k+1) (GX k (λk=>[iI (boL N U O m r v k),iI (boH N U O m r v k)]) (UO 2 [iI (-GO (z0) (0+((1:Int)+(k:Int)).toNat)),iI z2])) (λi=>[iI (boL N U O m r v i),iI (boH N U O m r v i)]),UJ (lst 2 3 λk=>[iI (oL k),iI (oH k)]),KY,WV N U O m r v] (leaf GR.normal)))))) (need [z1,QO,Q9=Q9,QV,UJ (KL N U O m r v),QV,WK,UJ ((3:Nat):Int),(k:Int)=3,k=3,∀(i:Nat),i<3->[iI (boL N U O m r v i),iI (boH N U O m r v i)]=[iI (boL N U O m r v i),iI (boH N U O m r v i)],UJ (lst 2 3 λk=>[iI (oL k),iI (oH k)]),KY,WV N U O m r v] (leaf (GR.exit 0))))) UD ?_)
 simp only [Xd8,BN,U6.sat,HF] at hQ;simp only [U6.sat,UU,GS,H6,UX,U5,G4,HU,RW,L1,LP,HC,BN]
 have hb:=λx y=>Xs2 UB.1 x y;have e1:(1+(k:Int)).toNat=1+k:=U3;have g1:k<3->GO (BB N U O m r v) (0*13+(1+k))=BB N U O m r v 0 (1+k):=λ_=>vH _ U3 U3;have g2:k<3->GO (BB N U O m r v) ((1+k)*13+0)=BB N U O m r v (1+k) 0:=λ_=>vH _ U3 U3;have b1:=hb 0 (1+k);have b2:=hb (1+k) 0;refine ⟨λh=>?_,λh=>?_⟩
 ·have hk:k<3:=U3;have f1:=g1 hk;have f2:=g2 hk;rw [e1];simp only [Int.toNat_zero,f1,f2]
  (with_reducible repeat' first|apply Al|intro _)
  all_goals first|exact Ak|omega|rfl|exact FK (by assumption) (by simp [AV.one,Value.oneCell'])|exact Zx2 rfl rfl (by assumption)
 obtain rfl:k=3:=U3;exact VF
abbrev J8:Value:=Value.slice none 0 0
abbrev YJ:Value:=Value.pointer none
theorem yK(UB:bV N U O m r v):UH U8 19 [.agg [ofs,i 1,bds N U O m r v]] (.tup [.lst 2 (boN N U O m r v) (λk=>[i (boL N U O m r v k),i (boH N U O m r v k)]),i (boE N U O m r v)]):=by
 refine GW (L:=[oU N U O m r v]) (Ae L9 (Ae AR Aa)) (Aj Ab Ac (Ah (MZ N U O m r v UB) (UV.nil _))) UI Tryz.func19 (GF Tryz.f19) (GJ (lpE (b:= .loop Wb3) UD<|(Js8 N U O m r v UB).N)) (t:=let z0:=([lst 2 3 λk=>[iI (oL k),iI (oH k)],iI 1,Q1 N U O m r v]);let z1:=(leaf (RV.tup [RV.lst 2 3 λk=>[iI (boL N U O m r v k),iI (boH N U O m r v k)],RV.x (X3)]));(need [UJ ([agg z0,AV.lit true])] (branch (zP N U O m r v) (branch ((0:Int) != 0) (leaf (RV.tup [RV.x (J8),RV.x (X3)])) (need [UJ (agg z0),QO,Q9=Q9,QV,UJ (KL N U O m r v),QV,WK,UJ ((3:Nat):Int),(0:Int)=((0:Nat):Int),0=0,∀(i:Nat),i<0->[]=[iI (boL N U O m r v i),iI (boH N U O m r v i)],UJ (lst 2 3 λk=>[iI (oL k),iI (oH k)]),KY,WV N U O m r v] z1)) (branch ((9:Int) != 0) (leaf (RV.tup [RV.x (J8),RV.x (.int .i64 (9:Int))])) (need [UJ (agg z0),QO,Q9=Q9,QV,AV.x (YJ)=roI [] 169 (λk=>GO (BB N U O m r v) k) 0,(9:Int)=0,WK,UJ ((3:Nat):Int),(0:Int)=((0:Nat):Int),0=0,∀(i:Nat),i<0->[]=[iI (boL N U O m r v i),iI (boH N U O m r v i)],UJ (lst 2 3 λk=>[iI (oL k),iI (oH k)]),KY,WV N U O m r v] z1))))) UD ?_
 simp only [U6.sat,UU,GS,H6,UX,G4];refine ⟨λhok=>⟨λh=>by simp at h,λ_=>?_⟩,λhno=>⟨λ_=>?_,λh=>by simp at h⟩⟩
 ·unfold boN boE;rw [if_pos hok,if_pos hok]
  (with_reducible repeat' first|apply Al|intro _)
  all_goals first|exact Ak|omega|rfl|(rename_i hm;simp only [HA,F8,or_false] at hm;rcases hm with rfl|rfl<;>exact Ak)
 unfold boN boE;rw [if_neg (by simp [hno]),if_neg (by simp [hno])]
 exact ⟨⟨Ak,rfl⟩,rfl⟩
def Qd8:GM:=λl=>some ([l=[.agg [ofs,i 1,bds N U O m r v]]],.tup [.lst 2 (boN N U O m r v) (λk=>[i (boL N U O m r v k),i (boH N U O m r v k)]),i (boE N U O m r v)])
theorem cL(UB:bV N U O m r v):UA U8 19 (Qd8 N U O m r v):=by
 refine ⟨(UZ Tryz.func19),?_⟩;intro avs ns res h hn;cases h;have e:=hn _ H0;subst e;exact yK N U O m r v UB
end
def TM:GM
 |[.x (.int .i64 n),.x (.int .i64 U),.x (.int .i64 O)]=>some ([],bl (bt U n O))
 |_=>none
theorem s7(n U O:Int):UH U8 73 [i n,i U,i O] (bl (bt U n O)):=by
 refine HL Tryz.func73 (t:=branch (decide (U<=n)) (leaf (RV.x (.bool (decide (n<=O))))) (leaf (RV.x (WP)))) UD ?_;exact VP
theorem jE:UA U8 73 TM:=by
 refine ⟨(UZ Tryz.func73),?_⟩;intro avs ns res h hn;unfold TM at h;split at h;cases h;exact s7 _ _ _;cases h
def Xe0:GM
 |[.x (.int .i64 n)]=>some ([],bl (bt 0 n 100))
 |_=>none
theorem Xn3(n:Int):UH U8 56 [i n] (bl (bt 0 n 100)):=by
 refine UL (L:=[]) (Ae jE Aa) UI Tryz.func56 (GF Tryz.f56) UN (t:=leaf (RV.x (.bool (bt (0:Int) n (100:Int))))) UD ?_;exact VG
theorem CA:UA U8 56 Xe0:=by
 refine ⟨(UZ Tryz.func56),?_⟩;intro avs ns res h hn;unfold Xe0 at h;split at h;cases h;exact Xn3 _;cases h
def NF:GM:=yO
theorem Qt0(a b:Int):UH U8 89 [.lst 1 2 (λk=>[i (if k=0 then a else b)])] (i (min a b)):=by
 refine UL (L:=[]) (Ae aI Aa) UI Tryz.func89 (GF Tryz.f89) UN (t:=leaf (RV.x (.int .i64 (min (if 0=0 then a else b) (if 1=0 then a else b))))) UD ?_
 simp [U6.sat,GS,UX]
theorem BL:UA U8 89 NF:=by
 refine ⟨(UZ Tryz.func89),?_⟩;intro avs ns res h hn;unfold NF yO at h;split at h;rename_i f;split at h;rename_i a b h0 h1;cases h;refine (Qt0 a b).same (.cons (.lst 1 2 _ _ ?_) .nil);intro k hk;rcases (show k=0\/k=1 by omega) with rfl|rfl
 exact h0;exact h1;cases h;cases h
def yP:GM:=rY
theorem aO(a b:Int):UH U8 90 [.lst 1 2 (λk=>[i (if k=0 then a else b)])] (i (max a b)):=by
 refine UL (L:=[]) (Ae Qf9 Aa) UI Tryz.func90 (GF Tryz.f90) UN (t:=leaf (RV.x (.int .i64 (max (if 0=0 then a else b) (if 1=0 then a else b))))) UD ?_
 simp [U6.sat,GS,UX]
theorem FP:UA U8 90 yP:=by
 refine ⟨(UZ Tryz.func90),?_⟩;intro avs ns res h hn;unfold yP rY at h;split at h;rename_i f;split at h;rename_i a b h0 h1;cases h;refine (aO a b).same (.cons (.lst 1 2 _ _ ?_) .nil);intro k hk;rcases (show k=0\/k=1 by omega) with rfl|rfl
 exact h0;exact h1;cases h;cases h
def saB(f t q U O:Int):Bool:=bt 0 f 3&&bt 0 t 3&&(f != t)&&bt 1 q 1000&&bt 0 U 100&&bt 0 O 100&&decide (U<=O)
abbrev sls(n:Nat)(f t q U O:Cg):AV:= .lst 5 n (λk=>[i (f k),i (t k),i (q k),i (U k),i (O k)])
def OD(d:Int)(n:Nat):Bool:=Xu8 (d / 2^n) 1==1
theorem Xl7{f t q U O:Int}:saB f t q U O=true↔(0<=f/\f<=3)/\(0<=t/\t<=3)/\f≠t/\(1<=q/\q<=1000)/\(0<=U/\U<=100)/\(0<=O/\O<=100)/\U<=O:=by
 simp [saB,bt_iff,and_assoc]
theorem eU{q:Nat}(h:q<2^40):IntKind.i64.wrap (q:Int)=q:=by
 have e:IntKind.i64.wrap (q:Int)=if (true&&decide ((q:Int)%2^64>=2^63))=true then (q:Int)%2^64-2^64 else (q:Int)%2^64:=rfl
 have e2:(q:Int)%2^64=q:=Int.emod_eq_of_lt U3 U3;rw [e,e2,if_neg];rw [Bool.true_and,yN];omega
theorem Qb8{z:Nat}(hz:z<8192):(BitVec.ofInt 64 (z:Int)).toNat=z:=by
 rw [BitVec.toNat_ofInt];omega
theorem Xn9{x y:Nat}(hx:x<8192)(hy:y<8192):orI x y=((x ||| y:Nat):Int):=by
 unfold orI;rw [BitVec.toNat_or,Qb8 hx,Qb8 hy];have hlt:x ||| y<2^13:=Nat.or_lt_two_pow U3 U3
 exact eU U3
theorem Xc8{x:Nat}(hx:x<8192):Xu8 x 1=((x%2:Nat):Int):=by
 unfold Xu8;rw [BitVec.toNat_and,Qb8 hx,show (BitVec.ofInt 64 1).toNat=1 from rfl,Nat.and_one_is_mod];exact eU U3
theorem Zw3(d n:Nat):((d:Int) / 2^n)=((d / 2^n:Nat):Int):=by
 rw [Int.natCast_ediv,Int.natCast_pow];rfl
theorem Ww3{d n:Nat}(hd:d<8192):OD d n=d.testBit n:=by
 unfold OD;rw [Zw3,Xc8 (Nat.lt_of_le_of_lt (Nat.div_le_self _ _) hd),Nat.testBit_eq_decide_div_mod_eq,Bool.eq_iff_iff,beq_iff_eq,yN];omega
def Qc8:GM
 |[.x (.int .i64 d),.x (.int .i64 n)]=>some ([0<=n/\n<=64],bl (OD d n.toNat))
 |_=>none
theorem Xn2(d n:Int)(UB:0<=n/\n<=64):UH U8 133 [i d,i n] (bl (OD d n.toNat)):=by
 refine HL Tryz.func133 (t:=need [(0:Int)<=n/\n<=64] (leaf (RV.x (.bool (IntKind.wrap IntKind.i64 (↑(BitVec.toNat (BitVec.ofInt 64 (d / (2:Int)^Int.toNat n) &&& BitVec.ofInt 64 (1:Int))):Int)==1))))) UD ?_;exact VG
theorem C9:UA U8 133 Qc8:=by
 refine ⟨(UZ Tryz.func133),?_⟩;intro avs ns res h hn;unfold Qc8 at h;split at h;cases h;exact Xn2 _ _ (hn _ UE);cases h
def Qn1:GM
 |[.agg [.x (.int .i64 4),.x (.int .i64 10),.lst 5 n f],.agg [.x (.int .i64 a),.x (.int .i64 b),.x (.int .i64 c),.x (.int .i64 U),.x (.int .i64 O)]]=>some ([],bl (saB a b c U O))
 |_=>none
theorem Wk0(f:Ci)(n:Nat)(a b c U O:Int):UH U8 129 [.agg [i 4,i 10,.lst 5 n f],.agg [i a,i b,i c,i U,i O]] (bl (saB a b c U O)):=by
 refine UL (L:=[]) (Ae jE (Ae CA Aa)) UI Tryz.func129 (GF Tryz.f129) UN (t:=need [U5 ((4:Int)-1)] (branch (bt (0:Int) a ((4:Int)-1)) (need [U5 ((4:Int)-1)] (branch (bt (0:Int) b ((4:Int)-1)) (branch (a != b) (branch (bt (1:Int) c (1000:Int)) (branch (bt (0:Int) U (100:Int)) (branch (bt (0:Int) O (100:Int)) (leaf (RV.x (.bool (decide (U<=O))))) (leaf (RV.x (WP)))) (leaf (RV.x (WP)))) (leaf (RV.x (WP)))) (leaf (RV.x (WP)))) (leaf (RV.x (WP))))) (leaf (RV.x (WP))))) UD ?_;simp only [U6.sat,UU,GS,H6,UX,G4,U5,saB];refine ⟨U3,?_⟩;cases h1:bt 0 a 3<;>cases h2:bt 0 b 3<;>cases h3:(a != b)<;>cases h4:bt 1 c 1000<;>cases h5:bt 0 U 100<;>cases h6:bt 0 O 100<;>simp [h1,h2,h3,h4,h5,h6]
theorem Wj9:UA U8 129 Qn1:=by
 refine ⟨(UZ Tryz.func129),?_⟩;intro avs ns res h hn;unfold Qn1 at h;split at h;cases h;exact Wk0 _ _ _ _ _ _ _;cases h
def Qn2:GM
 |[.agg [.x (.int .i64 a),.x (.int .i64 b),.x (.int .i64 c),.x (.int .i64 U),.x (.int .i64 O)],.ro [.fn (.func 129) [.agg [.x (.int .i64 4),.x (.int .i64 10),.lst 5 n f]] []]]=>some ([],bl (!saB a b c U O))
 |_=>none
theorem Wk4(f:Ci)(n:Nat)(a b c U O:Int):UH U8 170 [.agg [i a,i b,i c,i U,i O],.ro [.fn (.func 129) [.agg [i 4,i 10,.lst 5 n f]] []]] (bl (!saB a b c U O)):=by
 refine UL (L:=[]) (Ae Wj9 Aa) UI Tryz.func170 (GF Tryz.f170) UN (t:=leaf (RV.x (.bool !saB a b c U O))) UD ?_;exact VG
theorem l9:UA U8 170 Qn2:=by
 refine ⟨(UZ Tryz.func170),?_⟩;intro avs ns res h hn;unfold Qn2 at h;split at h;cases h;exact Wk4 _ _ _ _ _ _ _;cases h
def nsB(a b c U O:Cg)(j:Nat):Bool:= !saB (a j) (b j) (c j) (U j) (O j)
def kC(n:Nat)(a b c U O:Cg):Bool:=F1 (λj=>saB (a j) (b j) (c j) (U j) (O j)) n
abbrev Q0(n:Nat)(a:Cg)(b:Cg)(c:Cg)(U:Cg)(O:Cg):AV:=lst 5 n λk=>[iI (a k),iI (b k),iI (c k),iI (U k),iI (O k)]
abbrev WL(n1:Nat)(f:Ci):AV:=AV.fn (Fn.func 170) [] [AV.ro [AV.fn (Fn.func 129) [agg [iI 4,iI 10,lst 5 n1 λa=>f a]] []]]
section
variable (n:Nat)(a b c U O:Cg)(f:Ci)(n1:Nat)
def NP:St:={σ:=[Q0 n a b c U O,WL n1 f]++D6 5 [iI (n:Int)]++D6 11 [],m:=[],nx:=4}
noncomputable def Xk0:Code:=UT (UC (UP Tryz.f199) 0)
def m7(k:Nat):St:=(upM [(8,i k)] (NP n a b c U O f n1))
def zF(k:Nat):GR->Option St
 | .ret=>some (upM [(4,i (HJ ((nsB a b c U O)) n))] (NP n a b c U O f n1))
 | .exit 0=>some (upM [] (NP n a b c U O f n1))
 |_=>none
def Xd4:CT:= .branch (decide (HJ ((nsB a b c U O)) n<n)) (.leaf (.ret,(zF n a b c U O f n1 0 .ret).getD (NP n a b c U O f n1))) (.leaf (.exit 0,(zF n a b c U O f n1 0 (.exit 0)).getD (NP n a b c U O f n1)))
def Qq2:G5:=(D1 (m7 n a b c U O f n1 (0)) (Xd4 n a b c U O f n1))
end
abbrev W7(n:Nat)(a:Cg)(b:Cg)(c:Cg)(U:Cg)(O:Cg):Prop:=(Q0 n a b c U O)=Q0 n a b c U O
theorem VW{p:Prop}(h:p:=by
 refine ⟨by have:=Xq6 hk hb;omega,λE hE=>?_⟩
 cases hE;exact hQ.1 (by rw [Xq6 hk hb];exact hk)):p:=h
section
variable (n:Nat)(a b c U O:Cg)(f:Ci)(n1:Nat)
theorem Xk5(UB:n<=100000):GU U8 (.loop Xk0) (Qq2 n a b c U O f n1):=by
 refine D4 (L:=[]) (Ae l9 Aa) UI UN (X:=Nat) (m7 n a b c U O f n1) (λk=>k<=n/\ ∀j,j<k->(nsB a b c U O) j=false) (λk=>n-k) (zF n a b c U O f n1) (x0:=0) ⟨U3,λj hj=>U3⟩ ?_ ?_ ?_;rintro k;kernel_rfl;rintro k y E h;unfold zF at h;split at h;cases h;kernel_rfl;cases h;kernel_rfl;cases h
 ·rintro Q hQ k hx;refine ⟨(k+1),?_⟩;(with_reducible refine F4 (t:=branch (decide ((k:Int)<(n:Int))) (need [G7 k n] (branch (!saB (a k) (b k) (c k) (U k) (O k)) (need [W7 n a b c U O,UJ (WL n1 f),(k:Int)=(↑(HJ (nsB a b c U O) n):Int),UJ (n:Int)] (leaf GR.ret)) (need [U5 ((k:Int)+1)] (need [W7 n a b c U O,UJ (WL n1 f),UJ (n:Int),(k:Int)+1=(↑(k+1):Int)] (leaf GR.normal))))) (need [W7 n a b c U O,UJ (WL n1 f),UJ (n:Int)] (leaf (GR.exit 0)))) UD ?_);simp only [Xd4,zF,U6.sat,HF,HU] at hQ;simp only [U6.sat,UU,G4,HU,U5,zF,FA];have Xq6:k<n->((nsB a b c U O)) k=true->HJ ((nsB a b c U O)) n=k:=λh hb=>jT h hb hx.2;have B0: ¬k<n->HJ ((nsB a b c U O)) n=n:=λh=>wA (λj hj=>hx.2 j U3);have hgo:((nsB a b c U O)) k=false-> ∀j,j<k+1->((nsB a b c U O)) j=false:=by
   intro hb j hj;rcases (show j<k\/j=k by omega) with h1|rfl
   exact hx.2 j h1;exact hb
  refine ⟨λh=>⟨U3,?_⟩,λh=>?_⟩
  rotate_left
  intro E hE;cases hE;exact hQ.2 (by rw [B0 U3];omega)
  have hk:k<n:=U3;refine ⟨λhb=>?_,λhb=>?_⟩;exact VW;exact ⟨U3,U3,⟨U3,hgo hb⟩,U3⟩
theorem Zq8(UB:n<=100000):UH U8 199 [sls n a b c U O,.fn (.func 170) [] [.ro [.fn (.func 129) [.agg [i 4,i 10,.lst 5 n1 f]] []]]] (i (if HJ ((nsB a b c U O)) n<n then (HJ ((nsB a b c U O)) n:Int) else -1)):=by
 refine UL (L:=[Qq2 n a b c U O f n1]) (Ae l9 Aa) UI Tryz.func199 (GF Tryz.f199) (GJ (lpE (b:= .loop Xk0) UD<|Xk5 n a b c U O f n1 UB)) (t:=need [W7 n a b c U O,UJ (WL n1 f),UJ (n:Int),(0:Int)=((0:Nat):Int)] (branch (decide (HJ (nsB a b c U O) n<n)) (leaf (RV.x (.int .i64 (↑(HJ (nsB a b c U O) n):Int)))) (leaf (RV.x (KR))))) UD ?_
 exact VT
end
def Zc8:GM
 |[.lst 5 n f,.fn (.func 170) [] [.ro [.fn (.func 129) [.agg [.x (.int .i64 4),.x (.int .i64 10),.lst 5 n1 f1]] []]]]=>some ([G0 5 n f,n<=100000],i (if HJ (nsB (col 0 f) (col 1 f) (col 2 f) (col 3 f) (col 4 f)) n<n then (HJ (nsB (col 0 f) (col 1 f) (col 2 f) (col 3 f) (col 4 f)) n:Int) else -1))
 |_=>none
theorem Zq7:UA U8 199 Zc8:=by
 refine ⟨(UZ Tryz.func199),?_⟩;intro avs ns res h hn;unfold Zc8 at h;split at h;cases h;have hr:_:=hn _ (H0);have hr1:_:=hn _ (DB _ (H0));exact (Zq8 _ (col 0 _) (col 1 _) (col 2 _) (col 3 _) (col 4 _) _ _ hr1).same (.cons (.lst 5 _ _ _ hr) (.cons (.refl _) .nil));cases h
theorem Zr0(n:Nat)(a b c U O:Cg)(f:Ci)(n1:Nat)(UB:n<=100000):UH U8 169 [sls n a b c U O,.fn (.func 170) [] [.ro [.fn (.func 129) [.agg [i 4,i 10,.lst 5 n1 f]] []]]] (bl (!kC n a b c U O)):=by
 refine UL (L:=[]) (Ae Zq7 Aa) UI Tryz.func169 (GF Tryz.f169) UN (t:=need [G0 5 n λk=>[i (a k),i (b k),i (c k),i (U k),i (O k)],n<=100000] (leaf (RV.x (.bool (decide ((if HJ (nsB a b c U O) n<n then (↑(HJ (nsB a b c U O) n):Int) else (-1:Int))>=(0:Int))))))) UD ?_
 simp only [U6.sat,UU,GS,UX,G4];refine ⟨⟨λ_ _=>rfl,UB⟩,?_⟩;unfold kC;rw [yL];have:=FI (nsB a b c U O) n;have e:(λk=> !(λk=>saB (a k) (b k) (c k) (U k) (O k)) k)=nsB a b c U O:=rfl;rw [e];show decide ((if HJ (nsB a b c U O) n<n then (HJ (nsB a b c U O) n:Int) else -1)>=0)=_
 split<;>simp<;>omega
def Zc9:GM
 |[.lst 5 n f,.fn (.func 170) [] [.ro [.fn (.func 129) [.agg [.x (.int .i64 4),.x (.int .i64 10),.lst 5 n1 f1]] []]]]=>some ([G0 5 n f,n<=100000],bl (!kC n (col 0 f) (col 1 f) (col 2 f) (col 3 f) (col 4 f)))
 |_=>none
theorem Zq9:UA U8 169 Zc9:=by
 refine ⟨(UZ Tryz.func169),?_⟩;intro avs ns res h hn;unfold Zc9 at h;split at h;cases h;have hr:_:=hn _ (H0);have hr1:_:=hn _ (DB _ (H0));exact (Zr0 _ (col 0 _) (col 1 _) (col 2 _) (col 3 _) (col 4 _) _ _ hr1).same (.cons (.lst 5 _ _ _ hr) (.cons (.refl _) .nil));cases h
theorem Xn5(n:Nat)(a b c U O:Cg)(f:Ci)(n1:Nat)(UB:n<=100000):UH U8 130 [sls n a b c U O,.fn (.func 129) [.agg [i 4,i 10,.lst 5 n1 f]] []] (bl (kC n a b c U O)):=by
 refine UL (L:=[]) (Ae Zq9 Aa) UI Tryz.func130 (GF Tryz.f130) UN (t:=need [G0 5 n λk=>[i (a k),i (b k),i (c k),i (U k),i (O k)],n<=100000] (leaf (RV.x (.bool !!kC n a b c U O)))) UD ?_;simp only [U6.sat,UU,GS,UX,G4];refine ⟨⟨λ_ _=>rfl,UB⟩,?_⟩;show (!!kC n a b c U O)=_;simp
def Xe1:GM
 |[.lst 5 n f,.fn (.func 129) [.agg [.x (.int .i64 4),.x (.int .i64 10),.lst 5 n1 f1]] []]=>some ([G0 5 n f,n<=100000],bl (kC n (col 0 f) (col 1 f) (col 2 f) (col 3 f) (col 4 f)))
 |_=>none
theorem Xn4:UA U8 130 Xe1:=by
 refine ⟨(UZ Tryz.func130),?_⟩;intro avs ns res h hn;unfold Xe1 at h;split at h;cases h;have hr:_:=hn _ (H0);have hr1:_:=hn _ (DB _ (H0));exact (Xn5 _ (col 0 _) (col 1 _) (col 2 _) (col 3 _) (col 4 _) _ _ hr1).same (.cons (.lst 5 _ _ _ hr) (.cons (.refl _) .nil));cases h
theorem S2(n:Nat)(a b c U O:Cg)(UB:n<=8):UH U8 83 [.agg [i 4,i 10,sls n a b c U O]] (i (if kC n a b c U O then 0 else 1)):=by
 refine UL (L:=[]) (Ae Xn4 (Ae jE Aa)) UI Tryz.func83 (GF Tryz.f83) UN (t:=branch (decide ((n:Int)>8)) (leaf (RV.x (KT))) (branch (!bt (1:Int) (4:Int) (6:Int)) (leaf (RV.x (K5))) (branch (!bt (0:Int) (10:Int) (1000:Int)) (leaf (RV.x (K5))) (need [G0 5 n λk=>[i (a k),i (b k),i (c k),i (U k),i (O k)],n<=100000] (branch (!kC n a b c U O) (leaf (RV.x (K5))) (leaf (RV.x (X3)))))))) UD ?_;simp only [U6.sat,UU,GS,UX,G4];have h1:(!bt 1 4 6)=false:=by decide
 have h2:(!bt 0 10 1000)=false:=by decide
 rw [h1,h2];refine ⟨λh=>absurd h (by simp;omega),λ_=>⟨λh=>(Bool.noConfusion h),λ_=>⟨λh=>(Bool.noConfusion h),λ_=>⟨⟨λ_ _=>rfl,U3⟩,λh=>?_,λh=>?_⟩⟩⟩⟩
 rw [Ax] at h;rw [h];rfl;rw [Bool.not_eq_false'] at h;rw [h];rfl
def sg0(k:Nat):Int:=if k=0 then 10 else 0
def sld(F:Cg)(a b c:Int)(k:Nat):Int:=if (k:Int)=b then (if (k:Int)=a then F k-c else F k)+c else if (k:Int)=a then F k-c else F k
abbrev sgs(F:Cg):AV:= .agg [i (F 0),i (F 1),i (F 2),i (F 3),i (F 4),i (F 5)]
def nZ:GM
 |[.agg [.x (.int .i64 4),.x (.int .i64 10),.lst 5 n f]]=>some ([],.agg [i 10,i 0,i 0,i 0,i 0,i 0])
 |_=>none
abbrev Q3:List Int:=[(0:Int),0,0,0,0,0]
theorem Qt2(f:Ci)(n:Nat):UH U8 132 [.agg [i 4,i 10,.lst 5 n f]] (.agg [i 10,i 0,i 0,i 0,i 0,i 0]):=by
 refine HL Tryz.func132 (t:=let z0:=(GE 4 (GE 0 (10:Int) (qL Q3) 4) (GE 3 (GE 0 (10:Int) (qL Q3) 3) (GE 2 (GE 0 (10:Int) (qL Q3) 2) (GE 1 (GE 0 (10:Int) (qL Q3) 1) (GE 0 (GE 0 (10:Int) (qL Q3) 0) (kJ 0 [(10:Int)] (qL Q3)))))));let z1:=(GE 0 (10:Int) (qL Q3) 5);(need [G7 0 6] (need [1<=6] (need [6<=6] (need [6<=6] (leaf (RV.agg [RV.x (.int .i64 (GE 5 z1 z0 0)),RV.x (.int .i64 (GE 5 z1 z0 1)),RV.x (.int .i64 (GE 5 z1 z0 2)),RV.x (.int .i64 (GE 5 z1 z0 3)),RV.x (.int .i64 (GE 5 z1 z0 4)),RV.x (.int .i64 (GE 5 z1 z0 5))]))))))) UD ?_;exact VG
theorem S1:UA U8 132 nZ:=by
 refine ⟨(UZ Tryz.func132),?_⟩;intro avs ns res h hn;unfold nZ at h;split at h;cases h;exact Qt2 _ _;cases h
theorem Wj8(F:Cg)(a b c U O:Int)(UB: ∀k,k<6-> -1000000<=F k/\F k<=1000000)(UY:0<=a/\a<=3)(DF:0<=b/\b<=3)(FS:a≠b)(qQ:1<=c/\c<=1000):UH U8 134 [sgs F,.agg [i a,i b,i c,i U,i O]] (sgs (sld F a b c)):=by
 refine HL Tryz.func134 (t:=let z1:=(kJ (Int.toNat a*1+0) [US [F 0,F 1,F 2,F 3,F 4,F 5] (Int.toNat a*1+0)-c] (US [F 0,F 1,F 2,F 3,F 4,F 5]));let z0:=(GE 4 (GE (Int.toNat b*1+0) (GE (Int.toNat a*1+0) (US [F 0,F 1,F 2,F 3,F 4,F 5] (Int.toNat a*1+0)-c) (US [F 0,F 1,F 2,F 3,F 4,F 5]) (Int.toNat b*1+0)+c) z1 4) (GE 3 (GE (Int.toNat b*1+0) (GE (Int.toNat a*1+0) (US [F 0,F 1,F 2,F 3,F 4,F 5] (Int.toNat a*1+0)-c) (US [F 0,F 1,F 2,F 3,F 4,F 5]) (Int.toNat b*1+0)+c) z1 3) (GE 2 (GE (Int.toNat b*1+0) (GE (Int.toNat a*1+0) (US [F 0,F 1,F 2,F 3,F 4,F 5] (Int.toNat a*1+0)-c) (US [F 0,F 1,F 2,F 3,F 4,F 5]) (Int.toNat b*1+0)+c) z1 2) (GE 1 (GE (Int.toNat b*1+0) (GE (Int.toNat a*1+0) (US [F 0,F 1,F 2,F 3,F 4,F 5] (Int.toNat a*1+0)-c) (US [F 0,F 1,F 2,F 3,F 4,F 5]) (Int.toNat b*1+0)+c) z1 1) (GE 0 (GE (Int.toNat b*1+0) (GE (Int.toNat a*1+0) (US [F 0,F 1,F 2,F 3,F 4,F 5] (Int.toNat a*1+0)-c) (US [F 0,F 1,F 2,F 3,F 4,F 5]) (Int.toNat b*1+0)+c) z1 0) (qL Q3))))));let z2:=(GE (Int.toNat b*1+0) (GE (Int.toNat a*1+0) (US [F 0,F 1,F 2,F 3,F 4,F 5] (Int.toNat a*1+0)-c) (US [F 0,F 1,F 2,F 3,F 4,F 5]) (Int.toNat b*1+0)+c) z1 5);(need [G7 a 6] (need [Int.toNat a*1+0<List.length [F 0,F 1,F 2,F 3,F 4,F 5]] (need [U5 (US [F 0,F 1,F 2,F 3,F 4,F 5] (Int.toNat a*1+0)-c)] (need [G7 a 6] (need [Int.toNat a*1+0+List.length [US [F 0,F 1,F 2,F 3,F 4,F 5] (Int.toNat a*1+0)-c]<=List.length [F 0,F 1,F 2,F 3,F 4,F 5]] (need [G7 b 6] (need [Int.toNat b*1+0<List.length [F 0,F 1,F 2,F 3,F 4,F 5]] (need [U5 (GE (Int.toNat a*1+0) (US [F 0,F 1,F 2,F 3,F 4,F 5] (Int.toNat a*1+0)-c) (US [F 0,F 1,F 2,F 3,F 4,F 5]) (Int.toNat b*1+0)+c)] (need [G7 b 6] (need [Int.toNat b*1+0+List.length [GE (Int.toNat a*1+0) (US [F 0,F 1,F 2,F 3,F 4,F 5] (Int.toNat a*1+0)-c) (US [F 0,F 1,F 2,F 3,F 4,F 5]) (Int.toNat b*1+0)+c]<=List.length [F 0,F 1,F 2,F 3,F 4,F 5]] (need [6<=List.length [F 0,F 1,F 2,F 3,F 4,F 5]] (need [0+List.length [GE (Int.toNat b*1+0) (GE (Int.toNat a*1+0) (US [F 0,F 1,F 2,F 3,F 4,F 5] (Int.toNat a*1+0)-c) (US [F 0,F 1,F 2,F 3,F 4,F 5]) (Int.toNat b*1+0)+c) z1 0,GE (Int.toNat b*1+0) (GE (Int.toNat a*1+0) (US [F 0,F 1,F 2,F 3,F 4,F 5] (Int.toNat a*1+0)-c) (US [F 0,F 1,F 2,F 3,F 4,F 5]) (Int.toNat b*1+0)+c) z1 1,GE (Int.toNat b*1+0) (GE (Int.toNat a*1+0) (US [F 0,F 1,F 2,F 3,F 4,F 5] (Int.toNat a*1+0)-c) (US [F 0,F 1,F 2,F 3,F 4,F 5]) (Int.toNat b*1+0)+c) z1 2,GE (Int.toNat b*1+0) (GE (Int.toNat a*1+0) (US [F 0,F 1,F 2,F 3,F 4,F 5] (Int.toNat a*1+0)-c) (US [F 0,F 1,F 2,F 3,F 4,F 5]) (Int.toNat b*1+0)+c) z1 3,GE (Int.toNat b*1+0) (GE (Int.toNat a*1+0) (US [F 0,F 1,F 2,F 3,F 4,F 5] (Int.toNat a*1+0)-c) (US [F 0,F 1,F 2,F 3,F 4,F 5]) (Int.toNat b*1+0)+c) z1 4,GE (Int.toNat b*1+0) (GE (Int.toNat a*1+0) (US [F 0,F 1,F 2,F 3,F 4,F 5] (Int.toNat a*1+0)-c) (US [F 0,F 1,F 2,F 3,F 4,F 5]) (Int.toNat b*1+0)+c) z1 5]<=6] (leaf (RV.agg [RV.x (.int .i64 (GE 5 z2 z0 0)),RV.x (.int .i64 (GE 5 z2 z0 1)),RV.x (.int .i64 (GE 5 z2 z0 2)),RV.x (.int .i64 (GE 5 z2 z0 3)),RV.x (.int .i64 (GE 5 z2 z0 4)),RV.x (.int .i64 (GE 5 z2 z0 5))]))))))))))))))) UD ?_;simp only [U6.sat,UU,GS,H6,UX,G4,U5];obtain ⟨A,rfl⟩: ∃A:Nat,a=A:=⟨a.toNat,U3⟩;obtain ⟨B,rfl⟩: ∃B:Nat,b=B:=⟨b.toNat,U3⟩;have h0:=UB 0 U3;have h1:=UB 1 U3;have h2:=UB 2 U3;have h3:=UB 3 U3
 have h4:=UB 4 U3;have h5:=UB 5 U3;rcases (show A=0\/A=1\/A=2\/A=3 by omega) with rfl|rfl|rfl|rfl<;>rcases (show B=0\/B=1\/B=2\/B=3 by omega) with rfl|rfl|rfl|rfl<;>first|(exfalso;omega)|(simp [HC,GE,US,sld];omega)
def Qn0:GM
 |[.agg [.x (.int .i64 s0),.x (.int .i64 s1),.x (.int .i64 s2),.x (.int .i64 s3),.x (.int .i64 s4),.x (.int .i64 s5)],.agg [.x (.int .i64 a),.x (.int .i64 b),.x (.int .i64 c),.x (.int .i64 U),.x (.int .i64 O)]]=>some ([-1000000<=s0/\s0<=1000000,-1000000<=s1/\s1<=1000000,-1000000<=s2/\s2<=1000000,-1000000<=s3/\s3<=1000000,-1000000<=s4/\s4<=1000000,-1000000<=s5/\s5<=1000000,0<=a/\a<=3,0<=b/\b<=3,a≠b,1<=c/\c<=1000],sgs (sld (US [s0,s1,s2,s3,s4,s5]) a b c))
 |_=>none
def sV(n:Nat)(a b c U O:Cg):Prop:=n<=8/\ ∀k,k<n->saB (a k) (b k) (c k) (U k) (O k)=true
def stF(a b c:Cg)(d:Int):Nat->Nat->Int
 | 0=>sg0
 |k+1=>if OD d k then sld (stF a b c d k) (a k) (b k) (c k) else stF a b c d k
theorem l7:UA U8 134 Qn0:=by
 refine ⟨(UZ Tryz.func134),?_⟩;intro avs ns res h hn;unfold Qn0 at h;split at h;cases h;rename_i s0 s1 s2 s3 s4 s5 a b c U O;refine Wj8 (US [s0,s1,s2,s3,s4,s5]) a b c U O ?_ (hn _ UE) (hn _ UE) (hn _ UE) (hn _ UE);intro k hk
 match k,hk with
 | 0,_=>exact hn (-1000000<=s0/\s0<=1000000) UE
 | 1,_=>exact hn (-1000000<=s1/\s1<=1000000) UE
 | 2,_=>exact hn (-1000000<=s2/\s2<=1000000) UE
 | 3,_=>exact hn (-1000000<=s3/\s3<=1000000) UE
 | 4,_=>exact hn (-1000000<=s4/\s4<=1000000) UE
 | 5,_=>exact hn (-1000000<=s5/\s5<=1000000) UE
 cases h
theorem upd6(F:Cg)(a b c:Int)(q:Nat)(hq:q<6):
  GE 5 (sld (US [F 0,F 1,F 2,F 3,F 4,F 5]) a b c 5) (GE 4 (sld (US [F 0,F 1,F 2,F 3,F 4,F 5]) a b c 4) (GE 3 (sld (US [F 0,F 1,F 2,F 3,F 4,F 5]) a b c 3)
   (GE 2 (sld (US [F 0,F 1,F 2,F 3,F 4,F 5]) a b c 2) (GE 1 (sld (US [F 0,F 1,F 2,F 3,F 4,F 5]) a b c 1) (GE 0 (sld (US [F 0,F 1,F 2,F 3,F 4,F 5]) a b c 0) F))))) q=sld F a b c q:=by
 match q,hq with
 | 0,_=>rfl
 | 1,_=>rfl
 | 2,_=>rfl
 | 3,_=>rfl
 | 4,_=>rfl
 | 5,_=>rfl
theorem Xz4(F:Cg)(x0 x1 x2 x3 x4 x5:Int)(q:Nat)(hq:q<6):
  GE 5 x5 (GE 4 x4 (GE 3 x3 (GE 2 x2 (GE 1 x1 (GE 0 x0 F))))) q=US [x0,x1,x2,x3,x4,x5] q:=by
 match q,hq with
 | 0,_=>rfl
 | 1,_=>rfl
 | 2,_=>rfl
 | 3,_=>rfl
 | 4,_=>rfl
 | 5,_=>rfl
theorem Qf8{n:Nat}{a b c U O:Cg}(h:sV n a b c U O){k:Nat}(hk:k<n):(0<=a k/\a k<=3)/\(0<=b k/\b k<=3)/\a k≠b k/\(1<=c k/\c k<=1000)/\(0<=U k/\U k<=100)/\(0<=O k/\O k<=100)/\U k<=O k:=Xl7.1 (h.2 k hk)
theorem Wh0{n:Nat}{a b c U O:Cg}(h:sV n a b c U O)(d:Int): ∀k,k<=n-> ∀j,-(1000*k:Int)<=stF a b c d k j/\stF a b c d k j<=10+1000*k
 | 0,_,j=>by
  simp only [stF,sg0];split<;>omega
 |k+1,hk,j=>by
  obtain ⟨_,_,h3,h4,_⟩:=Qf8 h (show k<n by omega)
  have ih:=Wh0 h d k U3 j;simp only [stF];split
  ·unfold sld
   repeat' split
   all_goals omega
  omega
theorem Zm3{n:Nat}{a b c U O:Cg}(h:sV n a b c U O)(d:Int){k:Nat}(hk:k<=n)(j:Nat): -1000000<=stF a b c d k j/\stF a b c d k j<=1000000:=by
 have:=Wh0 h d k hk j;have:=h.1;omega
abbrev QQ(n:Nat)(a:Cg)(b:Cg)(c:Cg)(U:Cg)(O:Cg)(ea:AV)(la:AV):AV:=AV.ro [iI 4,iI 10,Q0 n a b c U O,ea,la]
section
variable (ea la:AV)(n:Nat)(a b c U O:Cg)(d:Int)
def Zz3:St:={σ:=[QQ n a b c U O ea la,iI d,top,top,ptr 0 0,ptr 6 0]++D6 11 [Q0 n a b c U O,iI (n:Int)]++D6 13 [],m:=[(6,H9.ints 193 [] 6 λa=>GE 5 (0:Int) (GE 4 (0:Int) (GE 3 (0:Int) (GE 2 (0:Int) (GE 1 (0:Int) (GE 0 (10:Int) (qL Q3)))))) a),(0,H9.ints 193 [] 6 λa=>(0:Int))],nx:=15}
noncomputable def Jz0:Code:=UT (UC (UP Tryz.f88) 0)
def Wp2(k:Nat):St:={σ:=HI [(6,.top),(7,.top),(19,i k)] (Zz3 ea la n a b c U O d).σ,m:=[(6,.ints 193 [] 6 (stF a b c d (k))),(0,.ints 193 [] 6 (λ_=>0))],nx:=15}
def EV(k:Nat):GR->Option St
 | .exit 0=>some {σ:=HI [(6,.top),(7,.top),(19,i n)] (Zz3 ea la n a b c U O d).σ,m:=[(6,.ints 193 [] 6 (stF a b c d (n))),(0,.ints 193 [] 6 (λ_=>0))],nx:=15}
 |_=>none
def Ju1:CT:= .leaf (.exit 0,(EV ea la n a b c U O d 0 (.exit 0)).getD (Zz3 ea la n a b c U O d))
def Ze0:G5:=(D1 (Wp2 ea la n a b c U O d (0)) (Ju1 ea la n a b c U O d))
end
abbrev ZP(n:Nat)(a:Cg)(b:Cg)(c:Cg)(U:Cg)(O:Cg)(ea:AV)(la:AV):Prop:=QQ n a b c U O ea la=QQ n a b c U O ea la
section
variable (ea la:AV)(n:Nat)(a b c U O:Cg)(d:Int)
theorem Jg8(UB:sV n a b c U O)(UY:0<=d/\d<256):GU U8 (.loop Jz0) (Ze0 ea la n a b c U O d):=by
 refine D4 (L:=[]) (Ae C9 (Ae l7 (Ae S1 Aa))) UI UN (X:=Nat) (Wp2 ea la n a b c U O d) (λk=>k<=n) (λk=>n-k) (EV ea la n a b c U O d) (x0:=0) U3 ?_ ?_ ?_;rintro k;kernel_rfl;rintro k y E h;unfold EV at h;split at h;cases h;kernel_rfl;cases h;rintro Q hQ k hx;refine ⟨(k+1),?_⟩;(with_reducible refine F4 (t:=let z1:=stF a b c d k;let z0:=(US [z1 0,z1 1,z1 2,z1 3,z1 4,z1 5]);(branch (decide ((k:Int)<(n:Int))) (need [G7 k n] (need [(0:Int)<=(k:Int)/\(k:Int)<=64] (branch (OD d k) (need [6<=6] (need [(-1000000:Int)<=z1 0/\z1 0<=1000000,(-1000000:Int)<=z1 1/\z1 1<=1000000,(-1000000:Int)<=z1 2/\z1 2<=1000000,(-1000000:Int)<=z1 3/\z1 3<=1000000,(-1000000:Int)<=z1 4/\z1 4<=1000000,(-1000000:Int)<=z1 5/\z1 5<=1000000,(0:Int)<=a k/\a k<=3,(0:Int)<=b k/\b k<=3,a k≠b k,(1:Int)<=c k/\c k<=1000] (need [0+List.length [sld z0 (a k) (b k) (c k) 0,sld z0 (a k) (b k) (c k) 1,sld z0 (a k) (b k) (c k) 2,sld z0 (a k) (b k) (c k) 3,sld z0 (a k) (b k) (c k) 4,sld z0 (a k) (b k) (c k) 5]<=6] (need [U5 ((k:Int)+1)] (need [ZP n a b c U O ea la,d=d,QO,V4,W7 n a b c U O,UJ (n:Int),(k:Int)+1=(↑(k+1):Int),6=6,HH 6 (GE 5 (sld z0 (a k) (b k) (c k) 5) (GE 4 (sld z0 (a k) (b k) (c k) 4) (GE 3 (sld z0 (a k) (b k) (c k) 3) (GE 2 (sld z0 (a k) (b k) (c k) 2) (GE 1 (sld z0 (a k) (b k) (c k) 1) (GE 0 (sld z0 (a k) (b k) (c k) 0) (z1))))))) (stF a b c d (k+1)),6=6,∀(k:Nat),k<6->(0:Int)=0] (leaf GR.normal)))))) (need [U5 ((k:Int)+1)] (need [ZP n a b c U O ea la,d=d,QO,V4,W7 n a b c U O,UJ (n:Int),(k:Int)+1=(↑(k+1):Int),6=6,HH 6 z1 (stF a b c d (k+1)),6=6,∀(k:Nat),k<6->(0:Int)=0] (leaf GR.normal)))))) (need [ZP n a b c U O ea la,d=d,QO,V4,W7 n a b c U O,UJ (n:Int),(k:Int)=(n:Int),6=6,HH 6 z1 (stF a b c d n),6=6,∀(k:Nat),k<6->(0:Int)=0] (leaf (GR.exit 0))))) UD ?_);simp only [Ju1,EV,U6.sat,HF] at hQ;simp only [U6.sat,UU,GS,H6,UX,U5,G4,HU,RW,L1,LP,HC,EV]
 have h8:=UB.1;refine ⟨λh=>?_,λh=>?_⟩;have hs:=Qf8 UB (show k<n by omega)
 have hl:=Zm3 UB d (show k<=n by omega)
 cases hb:OD d k
 ·(with_reducible repeat' first|apply Al|intro _)
  all_goals first|exact B4|(first|contradiction|(simp [stF,hb]))
 ·(with_reducible repeat' first|apply Al|intro _)
  all_goals first|exact B4|(first|contradiction|exact (hl _).1|exact (hl _).2|(simp only [stF,hb,if_true];exact upd6 _ _ _ _ _ (by assumption)))
 obtain rfl:k=n:=U3;exact VF
theorem s8(UB:sV n a b c U O)(UY:0<=d/\d<256):UH U8 88 [.ro [i 4,i 10,sls n a b c U O,ea,la],i d] (sgs (stF a b c d n)):=by
 refine UL (L:=[Ze0 ea la n a b c U O d]) (Ae C9 (Ae l7 (Ae S1 Aa))) UI Tryz.func88 (GF Tryz.f88) (GJ (lpE (b:= .loop Jz0) UD<|Jg8 ea la n a b c U O d UB UY)) (t:=let z1:=stF a b c d n;let z0:=(GE 4 (z1 4) (GE 3 (z1 3) (GE 2 (z1 2) (GE 1 (z1 1) (GE 0 (z1 0) λx=>(0:Int))))));(need [6<=6] (need [ZP n a b c U O ea la,d=d,QO,V4,W7 n a b c U O,UJ (n:Int),(0:Int)=((0:Nat):Int),6=6,HH 6 (GE 5 (0:Int) (GE 4 (0:Int) (GE 3 (0:Int) (GE 2 (0:Int) (GE 1 (0:Int) (GE 0 (10:Int) (qL Q3))))))) (stF a b c d 0),6=6,∀(k:Nat),k<6->(0:Int)=0] (need [6<=6] (need [0+List.length [z1 0,z1 1,z1 2,z1 3,z1 4,z1 5]<=6] (leaf (RV.agg [RV.x (.int .i64 (GE 5 (z1 5) z0 0)),RV.x (.int .i64 (GE 5 (z1 5) z0 1)),RV.x (.int .i64 (GE 5 (z1 5) z0 2)),RV.x (.int .i64 (GE 5 (z1 5) z0 3)),RV.x (.int .i64 (GE 5 (z1 5) z0 4)),RV.x (.int .i64 (GE 5 (z1 5) z0 5))]))))))) UD ?_
 simp only [U6.sat,UU,GS,H6,UX,G4]
 (with_reducible repeat' first|apply Al|intro _)
 all_goals first|exact Ak|omega|with_reducible rfl|rfl|(simp;done)|skip
 rename_i q hq;rw [Xz4 _ _ _ _ _ _ _ q hq]
 match q,hq with
 | 0,_=>rfl
 | 1,_=>rfl
 | 2,_=>rfl
 | 3,_=>rfl
 | 4,_=>rfl
 | 5,_=>rfl
end
section
variable (n:Nat)(a b c U O:Cg)
def A2:GM
 |[.ro [.x (.int .i64 4),.x (.int .i64 10),.lst 5 n1 f1,ea,la],.x (.int .i64 d)]=>some ([lst 5 n1 f1=sls n a b c U O,0<=d/\d<256],sgs (stF a b c d n))
 |_=>none
theorem wW(UB:sV n a b c U O):UA U8 88 (A2 n a b c U O):=by
 refine ⟨(UZ Tryz.func88),?_⟩;intro avs ns res h hn;unfold A2 at h;split at h;cases h;rename_i n1 f1 ea la d;have e:=hn _ H0;rw [e];exact s8 ea la n a b c U O d UB (hn _ UE);cases h
end
theorem d9{n:Nat}(h:n<=8):(1:Int)<=2^n/\(2:Int)^n<=256:=by
 rcases (show n=0\/n=1\/n=2\/n=3\/n=4\/n=5\/n=6\/n=7\/n=8 by omega) with rfl|rfl|rfl|rfl|rfl|rfl|rfl|rfl|rfl<;>decide
def NE:GM
 |[.ro [.x (.int .i64 4),.x (.int .i64 10),.lst 5 n f,ea,la]]=>some ([n<=8],i (2^n-1))
 |_=>none
theorem Qs8(ea la:AV)(n:Nat)(f:Ci)(UB:n<=8):UH U8 86 [.ro [i 4,i 10,.lst 5 n f,ea,la]] (i (2^n-1)):=by
 refine HL Tryz.func86 (t:=need [(0:Int)<=(n:Int)/\(n:Int)<=64,U5 ((1:Int)*2^n)] (need [U5 ((1:Int)*2^n-1)] (leaf (RV.x (.int .i64 ((1:Int)*2^n-1)))))) UD ?_;simp only [U6.sat,UU,GS,H6,UX,G4,Int.one_mul,U5];have h:=d9 UB;omega
theorem P4:UA U8 86 NE:=by
 refine ⟨(UZ Tryz.func86),?_⟩;intro avs ns res h hn;unfold NE at h;split at h;cases h;exact Qs8 _ _ _ _ (hn _ UE);cases h
def GQ(p:Nat->Bool):Nat->Nat
 | 0=>0
 |k+1=>GQ p k+(match p k with|true=>1|false=>0)
def GD(p:Nat->Bool)(n q:Nat):Nat:=HJ (λj=>p j&&Nat.beq (GQ p j) q) n
def st6(F:Cg):Cg:=GE 5 (F 5) (GE 4 (F 4) (GE 3 (F 3) (GE 2 (F 2) (GE 1 (F 1) (GE 0 (F 0) (qL [0,0,0,0,0,0]))))))
def quB(n:Nat)(a b c:Cg)(d:Int)(j:Nat):Bool:= !OD d j&&decide (stF a b c d n (a j).toNat>=c j)
def saV(a b c U O:Cg)(j:Nat):List Value:=[.int .i64 j,.agg #[.int .i64 (a j),.int .i64 (b j),.int .i64 (c j),.int .i64 (U j),.int .i64 (O j)]]
def quV(n:Nat)(a b c U O:Cg)(d:Int)(q:Nat):List Value:=saV a b c U O (GD (quB n a b c d) n q)
def quN(n:Nat)(a b c:Cg)(d:Int):Nat:=GQ (quB n a b c d) n
theorem Zm4(F:Cg){q:Nat}(hq:q<6):st6 F q=F q:=by
 unfold st6;rw [Xz4 _ _ _ _ _ _ _ q hq]
 match q,hq with
 | 0,_=>rfl
 | 1,_=>rfl
 | 2,_=>rfl
 | 3,_=>rfl
 | 4,_=>rfl
 | 5,_=>rfl
theorem T9(p:Nat->Bool){b c:Nat}(h:b<=c):GQ p b<=GQ p c:=by
 induction h with
 |refl=>exact Am _
 |step _ ih=>exact Ar ih (Nat.le_add_right _ _)
section
variable {p:Nat->Bool}
theorem DV{k:Nat}(h:p k=true):GQ p (k+1)=GQ p k+1:=by
 simp only [GQ,h]
theorem RF{k:Nat}(h:p k=false):GQ p (k+1)=GQ p k:=by
 simp only [GQ,h,Bg]
theorem P2{n k:Nat}(hk:k<n)(h:p k=true):GD p n (GQ p k)=k:=by
 refine jT hk ?_ λj hj=>?_;simp [h];cases hp:p j;rfl;have h1:=DV hp;have h2:=T9 p (show j+1<=k by omega)
 simp only [Bool.true_and];cases hb:Nat.beq (GQ p j) (GQ p k);rfl;have:=HK hb;omega
end
theorem vI(p:Nat->Bool): ∀k,GQ p k<=k
 | 0=>Am 0
 |k+1=>by
  have:=vI p k;unfold GQ;split<;>omega
theorem nJ{p:Nat->Bool}: ∀{k q:Nat},q<GQ p k-> ∃j,j<k/\p j=true/\GQ p j=q
 | 0,q,h=>absurd h (by simp [GQ])
 |k+1,q,h=>by
  rcases An q (GQ p k) with h1|h1;obtain ⟨j,hj,h2⟩:=nJ h1;exact ⟨j,U3,h2⟩;cases hp:p k;rw [RF hp] at h;omega;rw [DV hp] at h;exact ⟨k,U3,hp,U3⟩
theorem yW{p:Nat->Bool}{n q:Nat}(h:q<GQ p n):GD p n q<n/\p (GD p n q)=true:=by
 obtain ⟨j,hj,hp,hc⟩:=nJ h;rw [←hc,P2 hj hp];exact ⟨hj,hp⟩
def CL:GM
 |[.ro [.x (.int .i64 4),.x (.int .i64 10),.lst 5 n f,ea,la],.x (.int .i64 d)]=>some ([],.fn (.func 171) [] [.ro [.ro [i 4,i 10,.lst 5 n f,ea,la]],.ro [i d]])
 |_=>none
theorem Wk1(ea la:AV)(n:Nat)(f:Ci)(d:Int):RB U8 131 [.ro [i 4,i 10,.lst 5 n f,ea,la],i d] (.fn (.func 171) [] [.ro [.ro [i 4,i 10,.lst 5 n f,ea,la]],.ro [i d]]):=by
 refine DL (L:=[]) Aa Ad UI Tryz.func131 (GF Tryz.f131) GN (t:=leaf (AV.fn (Fn.func 171) [] [AV.ro [AV.ro [iI 4,iI 10,lst 5 n λa=>f a,ea,la]],AV.ro [iI d]])) UD ?_;exact rfl
theorem S0:PS U8 131 CL:=by
 refine ⟨(UZ Tryz.func131),?_⟩;intro avs ns res h hn;unfold CL at h;split at h;cases h;exact Wk1 _ _ _ _ _;cases h
section
variable (l:Nat)(ea la:AV)(n:Nat)(a b c U O:Cg)(d:Int)
def Xj0:St:={σ:=[AV.fn (Fn.yield l) [] [],AV.ro [QQ n a b c U O ea la],AV.ro [iI d],top,ptr 3 0]++D6 9 [Q0 n a b c U O,iI (n:Int)]++D6 26 [],m:=[(3,H9.ints 193 [] 6 λa_1=>GE 5 (stF a b c d n 5) (GE 4 (stF a b c d n 4) (GE 3 (stF a b c d n 3) (GE 2 (stF a b c d n 2) (GE 1 (stF a b c d n 1) (GE 0 (stF a b c d n 0) (qL Q3)))))) a_1)],nx:=12,gh:=some 0}
noncomputable def Jc2:Code:=UT (UC (UP Tryz.f171) 0)
def bR(k:Nat):St:={σ:=HI [(4,.roI [] 6 (st6 (stF a b c d n)) 0),(5,.top),(6,.top),(16,i k)] (Xj0 l ea la n a b c U O d).σ,m:=[],nx:=12,gh:=some (GQ (quB n a b c d) k) }
def kW(k:Nat):GR->Option St
 | .exit 0=>some {σ:=HI [(4,.roI [] 6 (st6 (stF a b c d n)) 0),(5,.top),(6,.top),(16,i n)] (Xj0 l ea la n a b c U O d).σ,m:=[],nx:=12,gh:=some (quN n a b c d) }
 | .ret=>some {σ:=HI [(4,.roI [] 6 (st6 (stF a b c d n)) 0),(5,.top),(6,.top),(16,.top)] (Xj0 l ea la n a b c U O d).σ,m:=[],nx:=12,gh:=none}
 |_=>none
def Jv1:CT:= .may True (.leaf (.exit 0,(kW l ea la n a b c U O d 0 (.exit 0)).getD (Xj0 l ea la n a b c U O d))) (.leaf (.ret,(kW l ea la n a b c U O d 0 .ret).getD (Xj0 l ea la n a b c U O d)))
def Zf0:G5:=H4 [(.slot 4,3,193,1)] (D1 (bR l ea la n a b c U O d (0)) (Jv1 l ea la n a b c U O d))
end
abbrev ZU(a:Cg)(b:Cg)(c:Cg)(d:Int)(n:Nat):Prop:=roI [] 6 (λa_1=>st6 (stF a b c d n) a_1) 0=roI [] 6 (λa_1=>st6 (stF a b c d n) a_1) 0
abbrev YA(d:Int):Prop:=AV.ro [iI d]=AV.ro [iI d]
abbrev YN(n:Nat)(a:Cg)(b:Cg)(c:Cg)(U:Cg)(O:Cg)(ea:AV)(la:AV):Prop:=AV.ro [QQ n a b c U O ea la]=AV.ro [QQ n a b c U O ea la]
theorem Jk8(l:Nat)(ea la:AV)(n:Nat)(a b c U O:Cg)(d:Int)(UB:sV n a b c U O)(UY:0<=d/\d<256){cx:Cx}(hX:UG U8 {Y:=some (l,(quN n a b c d),(quV n a b c U O d)) } cx):D7 U8 none cx (.loop Jc2) (Zf0 l ea la n a b c U O d):=by
 refine FQ [(.slot 4,3,193,1)] (L:=[]) (Ae C9 (Ae (wW n a b c U O UB) Aa)) hX UI GN (V:=Nat) (bR l ea la n a b c U O d) (λk=>k<=n) (λk=>n-k) (kW l ea la n a b c U O d) (x0:=0) UE ?_ ?_ ?_;rintro k;kernel_rfl;rintro k y E h;unfold kW at h;split at h;cases h;kernel_rfl;cases h;kernel_rfl;cases h;rintro Q hQ k hx;refine ⟨(k+1),?_⟩;have e:DA U8 [(133,Qc8),(88,(A2 n a b c U O))] {Y:=some (l,(quN n a b c d),(quV n a b c U O d)) } [] [(.slot 4,3,193,1)] Jc2 (bR l ea la n a b c U O d k) (bR l ea la n a b c U O d ((k+1))) (kW l ea la n a b c U O d k)=(let z3:=YN n a b c U O ea la;let z2:=quB n a b c d;let z0:=(need [U5 ((k:Int)+1)] (need [W8 l,z3,YA d,ZU a b c d n,W7 n a b c U O,UJ (n:Int),(k:Int)+1=(↑(k+1):Int),GQ (z2) k=GQ (z2) (k+1)] (leaf GR.normal)));let z1:=(GD (z2) n (GQ (z2) k));(branch (decide ((k:Int)<(n:Int))) (need [G7 k n] (need [(0:Int)<=(k:Int)/\(k:Int)<=64] (branch (!OD d k) (need [G7 (a k) 6] (need [(a k).toNat*1+0<6] (branch (decide (st6 (stF a b c d n) ((a k).toNat*1+0)>=c k)) (need [l=l,GQ (z2) k<quN n a b c d,[Value.int IntKind.i64 (k:Int),Value.agg {toList:=[Value.int IntKind.i64 (a k),Value.int IntKind.i64 (b k),Value.int IntKind.i64 (c k),Value.int IntKind.i64 (U k),Value.int IntKind.i64 (O k)] }]=[Value.int IntKind.i64 (z1:Int),Value.agg {toList:=[Value.int IntKind.i64 (a z1),Value.int IntKind.i64 (b z1),Value.int IntKind.i64 (c z1),Value.int IntKind.i64 (U z1),Value.int IntKind.i64 (O z1)] }]] (U6.may True (need [U5 ((k:Int)+1)] (need [W8 l,z3,YA d,ZU a b c d n,W7 n a b c U O,UJ (n:Int),(k:Int)+1=(↑(k+1):Int),GQ (z2) k+1=GQ (z2) (k+1)] (leaf GR.normal))) (need [W8 l,z3,YA d,ZU a b c d n,W7 n a b c U O,UJ (n:Int)] (leaf GR.ret)))) z0))) z0))) (need [W8 l,z3,YA d,ZU a b c d n,W7 n a b c U O,UJ (n:Int),(k:Int)=(n:Int),GQ (z2) k=quN n a b c d] (leaf (GR.exit 0))))):=UD;rw [e];simp only [Jv1,kW,U6.sat,HF] at hQ;have hQ1: ∀E,kW l ea la n a b c U O d k (.exit 0)=some E->Q (.exit 0,E):=λE hE=>by cases hE;exact hQ.1 trivial
 have hQ2: ∀E,kW l ea la n a b c U O d k .ret=some E->Q (.ret,E):=λE hE=>by cases hE;exact hQ.2
 simp only [U6.sat,UU,G4,HU,U5,FA];clear e hQ;have h8:=UB.1;have hX:(a k).toNat*1+0=(a k).toNat:=U3;rw [hX];refine ⟨λh=>?_,λh=>?_⟩;have hk:k<n:=U3;have hs:=Qf8 UB hk;have hno:quB n a b c d k=false->GQ (quB n a b c d) k=GQ (quB n a b c d) (k+1):=λh=>(RF h).symm;rw [Zm4 _ (show (a k).toNat<6 by omega)]
 refine ⟨U3,U3,λh1=>⟨U3,U3,λh2=>?_,λh2=>?_⟩,λh1=>?_⟩
 ·have hq:quB n a b c d k=true:=by
   unfold quB;rw [h1,decide_eq_true h2];rfl
  have hy:=DV hq;have hm:=T9 (quB n a b c d) (show k+1<=n by omega)
  rw [P2 hk hq]
  (with_reducible repeat' first|apply Al|intro _)
  all_goals first|exact Ak|(simp only [quN];omega)|omega|rfl|exact hQ1 _ (by assumption)|exact hQ2 _ (by assumption)
 ·have hq:quB n a b c d k=false:=by
   unfold quB;rw [decide_eq_false h2,Bool.and_false]
  have hy:=RF hq;all_goals exact VM
 ·have hq:quB n a b c d k=false:=by
   unfold quB;rw [h1];rfl
  have hy:=RF hq;all_goals exact VM
 ·obtain rfl:k=n:=U3;all_goals exact VM
theorem uN(ea la:AV)(n:Nat)(a b c U O:Cg)(d:Int)(UB:sV n a b c U O)(UY:0<=d/\d<256):BF Tryz.prog 171 [.ro [.ro [i 4,i 10,sls n a b c U O,ea,la]],.ro [i d]] ((quN n a b c d)) (quV n a b c U O d):=by
 refine B5 (L:=λl=>[Zf0 l ea la n a b c U O d]) (Ae C9 (Ae (wW n a b c U O UB) Aa)) UI (UZ Tryz.func171) Tryz.func171 (GF Tryz.f171) UD (λl cx hX=>GJ (lpE (b:= .loop Jc2) UD<|Jk8 l ea la n a b c U O d UB UY hX)) (t:=λl=>(let z0:=stF a b c d n;(need [W7 n a b c U O,(0:Int)<=d/\d<256] (need [0+List.length [z0 0,z0 1,z0 2,z0 3,z0 4,z0 5]<=6] (need [UJ (AV.fn (Fn.yield l) [] []),YN n a b c U O ea la,YA d,roI [] 6 (λa_1=>GE 5 (z0 5) (GE 4 (z0 4) (GE 3 (z0 3) (GE 2 (z0 2) (GE 1 (z0 1) (GE 0 (z0 0) (qL Q3)))))) a_1) 0=roI [] 6 (λa_1=>st6 (z0) a_1) 0,W7 n a b c U O,UJ (n:Int),(0:Int)=((0:Nat):Int),0=GQ (quB n a b c d) 0] (U6.may True (need [UJ (quN n a b c d)] (leaf PUnit.unit)) (leaf PUnit.unit))))))) (λl=>UD) ?_
 intro l;simp only [U6.sat,UU,GS,H6,UX,G4];exact ⟨UY,UE,⟨rfl,rfl,rfl⟩,λ_=>trivial⟩
noncomputable def Qq4:DK:=vP Tryz.prog [] {} [] Tryz.f131 (UP Tryz.f131)
theorem fW:GT U8 131 Qq4:=
 RT (G:=[]) (X:=WI) (L:=[]) Aa Ad UI (UZ Tryz.func131) Tryz.func131 (GF Tryz.f131) UN
section
variable (n:Nat)
abbrev ZH:AV:=iI ((2:Int)^n-1+1)
abbrev ZV(a:Cg)(b:Cg)(c:Cg)(U:Cg)(O:Cg):List AV:=[iI 4,iI 10,Q0 n a b c U O]
abbrev KX(a:Cg)(b:Cg)(c:Cg)(U:Cg)(O:Cg):List AV:=[iI 4,iI 10,Q0 n a b c U O,AV.row 901,AV.row 902]
abbrev YK:H9:=H9.row 3 1 0 λx=>[]
abbrev YU:H9:=H9.cells 134 [ptr 4 0]
def Ja4(a b c U O:Cg):St:={σ:=[agg (ZV n a b c U O),ptr 0 0,QD,ptr 5 0]++D6 14 [ZH n]++D6 140 [],m:=[(902,YK),(901,YK),(5,YU),(4,H9.cells 249 (KX n a b c U O)),(0,H9.cells 65 (ZV n a b c U O))],nx:=903}
noncomputable def Ka3:Code:=UT (UC (UP Tryz.f84) 0)
def Wq7(a b c U O:Cg)(k:Nat):St:={σ:=HI [(19,i k)] (Ja4 n a b c U O).σ,m:=[(902,.row 3 1 (k) (λz=>[i ((λ_=> -1) z)])),(901,.row 3 1 (k) (λz=>[i ((λ_=>101) z)])),(5,.cells 134 [.ptr 4 0]),(4,.cells 249 [i 4,i 10,sls n a b c U O,.row 901,.row 902]),(0,.cells 65 [i 4,i 10,sls n a b c U O])],nx:=903}
def I5(a b c U O:Cg)(k:Nat):GR->Option St
 | .exit 0=>some {σ:=HI [(19,i (2^n))] (Ja4 n a b c U O).σ,m:=[(902,.row 3 1 (2^n) (λz=>[i ((λ_=> -1) z)])),(901,.row 3 1 (2^n) (λz=>[i ((λ_=>101) z)])),(5,.cells 134 [.ptr 4 0]),(4,.cells 249 [i 4,i 10,sls n a b c U O,.row 901,.row 902]),(0,.cells 65 [i 4,i 10,sls n a b c U O])],nx:=903}
 |_=>none
def Jv9(a b c U O:Cg):CT:= .leaf (.exit 0,(I5 n a b c U O 0 (.exit 0)).getD (Ja4 n a b c U O))
abbrev KD:List (Pl×Nat×TypeId×Nat):=[(.cell 4 3,0,0,1),(.cell 4 4,0,0,1),(.cell 4 3,901,3,1),(.cell 4 4,902,3,1)]
def Zg0(a b c U O:Cg):G5:=H4 KD (D1 (Wq7 n a b c U O (0)) (Jv9 n a b c U O))
abbrev QH:Prop:=(2:Int)^n-1+1=2^n-1+1
abbrev QP(a:Cg)(b:Cg)(c:Cg)(U:Cg)(O:Cg):Prop:=agg (ZV n a b c U O)=agg (ZV n a b c U O)
abbrev W0:Prop:=AV.row 902=AV.row 902
abbrev W5:Prop:=(4:Int)=4
abbrev WD:Prop:=(10:Int)=10
abbrev J0:List AV:=[iI 101]
abbrev V2:Ci:=λz=>[iI (-1:Int)]
theorem Jm9(a b c U O:Cg)(UB:sV n a b c U O):GU U8 (.loop Ka3) (Zg0 n a b c U O):=by
 refine jM KD (L:=[]) (Ae P4 Aa) UI UN (X:=Nat) (Wq7 n a b c U O) (λk=>k<=2^n) (λk=>2^n-k) (I5 n a b c U O) (x0:=0) UE ?_ ?_ ?_;rintro k;kernel_rfl;rintro k y E h;unfold I5 at h;split at h;cases h;kernel_rfl;cases h;rintro Q hQ k hx;refine ⟨(k+1),?_⟩;(with_reducible refine F4 (t:=let z0:=(need [U5 ((k:Int)+1)] (need [QP n a b c U O,QO,QD=QD,ZO,QH n,(k:Int)+1=(↑(k+1):Int),k+1=k+1,HH (k+1) (GX k (V2) (UO 1 [iI (-1:Int)])) (λi=>[iI (-1:Int)]),k+1=k+1,HH (k+1) (GX k (λz=>J0) (UO 1 J0)) (λi=>J0),W9,W5,WD,W7 n a b c U O,WK,W0,W5,WD,W7 n a b c U O] (leaf GR.normal)));(branch (decide ((k:Int)<2^n-1+1)) (need [(k+1)*8<=140737488355328,∀(i:Nat),i<1-> ∀(a:AV),a∈UO 1 J0 i->AV.one a=true] (need [(k+1)*8<=140737488355328,L0 1 (UO 1 [iI (-1:Int)])] (U6.may True z0 (U6.may True z0 (U6.may True z0 (U6.may True z0 z0)))))) (need [QP n a b c U O,QO,QD=QD,ZO,QH n,(k:Int)=2^n,k=2^n,∀(i:Nat),i<2^n->[iI (-1:Int)]=[iI (-1:Int)],k=2^n,∀(i:Nat),i<2^n->J0=J0,W9,W5,WD,W7 n a b c U O,WK,W0,W5,WD,W7 n a b c U O] (leaf (GR.exit 0))))) UD ?_)
 simp only [Jv9,I5,U6.sat,HF] at hQ;simp only [U6.sat,UU,GS,H6,UX,U5,G4,HU,RW,L1,LP,HC,I5]
 have h8:=UB.1;have hp:=d9 h8;have hpn:((2^n:Nat):Int)=2^n:=UE;refine ⟨λh=>?_,λh=>?_⟩
 ·have hk:k<2^n:=U3
  (with_reducible repeat' first|apply Al|intro _)
  all_goals first|exact B4|(first|exact FK (by assumption) (by simp [AV.one,Value.oneCell'])|exact Pt.catF1 (a:=λ_=>101) (by assumption) rfl|exact Pt.catF1 (a:=λ_=> -1) (by assumption) rfl)
 obtain rfl:k=2^n:=U3;exact VF
end
def eQ(p:Nat->Bool)(n:Nat)(U O:Cg)(d:Nat)(E:Cg):Nat->Nat->Int
 | 0=>E
 |q+1=>if max (eQ p n U O d E q d) (U (GD p n q))<=O (GD p n q) then GE (d ||| 2^GD p n q) (min (eQ p n U O d E q (d ||| 2^GD p n q)) (max (eQ p n U O d E q d) (U (GD p n q)))) (eQ p n U O d E q) else eQ p n U O d E q
def eD(n:Nat)(a b c U O:Cg):Nat->Nat->Int
 | 0=>λk=>if k=0 then 0 else 101
 |d+1=>if eD n a b c U O d d=101 then eD n a b c U O d else eQ (quB n a b c d) n U O d (eD n a b c U O d) (quN n a b c d)
section
variable (n:Nat)(a b c U O:Cg)
noncomputable def Ja3:St:={σ:=[agg (ZV n a b c U O),ptr 0 0,QD,ptr 5 0]++D6 14 [ZH n,iI ((2:Int)^n)]++D6 27 [ZH n]++D6 111 [],m:=[(902,H9.row 3 1 (2^n) λz=>[iI (-1:Int)]),(901,H9.row 3 1 (2^n) λk=>iI (if decide (k=(0:Int).toNat)=true then (0:Int) else (101:Int))::Bool.rec ([]) ([]) (decide (k=(0:Int).toNat))),(5,YU),(4,H9.keep 249 (KX n a b c U O)),(0,H9.cells 65 (ZV n a b c U O))],nx:=913}
noncomputable def eL:Code:=UT (UC (UP Tryz.f84) 1)
noncomputable def Wq6(d:Nat):St:={σ:=HI [(4,.top),(48,i d),(5,.top),(6,.top),(7,.top),(8,.top)] (Ja3 n a b c U O).σ,m:=[(902,.row 3 1 (2^n) (λz=>[i ((λ_=> -1) z)])),(901,.row 3 1 (2^n) (λz=>[i ((eD n a b c U O (d)) z)])),(5,.cells 134 [.ptr 4 0]),(4,.keep 249 [i 4,i 10,sls n a b c U O,.row 901,.row 902]),(0,.cells 65 [i 4,i 10,sls n a b c U O])],nx:=903}
noncomputable def I4(d:Nat):GR->Option St
 | .exit 2=>some {σ:=HI [(4,.top),(48,i (2^n)),(5,.top),(6,.top),(7,.top),(8,.top)] (Ja3 n a b c U O).σ,m:=[(902,.row 3 1 (2^n) (λz=>[i ((λ_=> -1) z)])),(901,.row 3 1 (2^n) (λz=>[i ((eD n a b c U O (2^n)) z)])),(5,.cells 134 [.ptr 4 0]),(4,.keep 249 [i 4,i 10,sls n a b c U O,.row 901,.row 902]),(0,.cells 65 [i 4,i 10,sls n a b c U O])],nx:=903}
 |_=>none
noncomputable def Jv8:CT:= .leaf (.exit 2,(I4 n a b c U O 0 (.exit 2)).getD (Ja3 n a b c U O))
noncomputable def Zf9:G5:=H4 [(.cell 5 0,0,0,0)] (D1 (Wq6 n a b c U O (0)) (Jv8 n a b c U O))
end
theorem wB{n d:Nat}(h8:n<=8)(h:d<2^n):(0:Int)<=d/\(d:Int)<256:=by
 have hp:=d9 h8;have hpn:((2^n:Nat):Int)=2^n:=UE;omega
theorem Qg9{n d s:Nat}(h:d<2^n)(hs:s<n):d ||| 2^s<2^n:=Nat.or_lt_two_pow h (Nat.pow_lt_pow_right (by decide) hs)
theorem Wk8{n d s:Nat}(h8:n<=8)(h:d<2^n)(hs:s<n):IntKind.i64.wrap ((BitVec.ofInt 64 (d:Int) ||| BitVec.ofInt 64 (1*2^s)).toNat:Int)=((d ||| 2^s:Nat):Int):=by
 have h2:=wB h8 h;have h3:2^s<2^n:=Nat.pow_lt_pow_right (by decide) hs
 have h4:=wB h8 h3;have e:(1*2^s:Int)=((2^s:Nat):Int):=by rw [Int.one_mul];simp
 rw [e];exact Xn9 U3 U3
theorem hU{F:Cg}{v:Int}{q j:Nat}:HX (decide (j=q)) [i v] [i (F j)]=[i (GE q v F j)]:=by
 unfold GE;by_cases h:j=q;rw [decide_eq_true h,if_pos h];rfl;rw [decide_eq_false h,if_neg h];rfl
abbrev J1:AV:=AV.fn (Fn.func 171) [] [ptr 917 0,ptr 918 0]
section
variable (n:Nat)(a b c U O:Cg)(d:Nat)
def Jy2:St:={σ:=[agg (ZV n a b c U O),ptr 0 0,QD,ptr 5 0,ptr 905 0]++D6 13 [ZH n,iI ((2:Int)^n)]++D6 27 [ZH n,iI (d:Int)]++D6 12 [J1]++D6 97 [],m:=[(918,H9.keep 189 [iI (d:Int)]),(917,H9.keep 134 [ptr 4 0]),(905,H9.cells 189 [iI (d:Int)]),(902,H9.row 3 1 (2^n) λz=>[iI (-1:Int)]),(901,H9.row 3 1 (2^n) λz=>[iI (eD n a b c U O d z)]),(5,YU),(4,H9.keep 249 (KX n a b c U O)),(0,H9.cells 65 (ZV n a b c U O))],nx:=922}
noncomputable def Kc2:Code:=EE (UC eL 0)
noncomputable def Ka2:Code:=ED (UC eL 0)
def tI(k:Nat):St:={σ:=HI [(5,.top),(6,.top),(7,.top),(8,.top)] (Jy2 n a b c U O d).σ,m:=[(918,.keep 189 [i d]),(917,.keep 134 [.ptr 4 0]),(905,.cells 189 [i d]),(902,.row 3 1 (2^n) (λz=>[i ((λ_=> -1) z)])),(901,.row 3 1 (2^n) (λz=>[i ((eQ (quB n a b c d) n U O d (eD n a b c U O d) (k)) z)])),(5,.cells 134 [.ptr 4 0]),(4,.keep 249 [i 4,i 10,sls n a b c U O,.row 901,.row 902]),(0,.cells 65 [i 4,i 10,sls n a b c U O])],nx:=922}
def sH(k:Nat):GR->Option St
 | .normal=>some {σ:=HI [(5,.top),(6,.top),(7,.top),(8,.top)] (Jy2 n a b c U O d).σ,m:=[(918,.keep 189 [i d]),(917,.keep 134 [.ptr 4 0]),(905,.cells 189 [i d]),(902,.row 3 1 (2^n) (λz=>[i ((λ_=> -1) z)])),(901,.row 3 1 (2^n) (λz=>[i ((eQ (quB n a b c d) n U O d (eD n a b c U O d) ((quN n a b c d))) z)])),(5,.cells 134 [.ptr 4 0]),(4,.keep 249 [i 4,i 10,sls n a b c U O,.row 901,.row 902]),(0,.cells 65 [i 4,i 10,sls n a b c U O])],nx:=922}
 |_=>none
def T_kc:CT:= .leaf (.normal,tI n a b c U O d (quN n a b c d))
def Zf8:G5:=H4 [(.slot 61,0,0,0)] (D1 (tI n a b c U O d (0)) (T_kc n a b c U O d))
end
abbrev XX(n:Nat):Prop:=(2:Int)^n=2^n
theorem Jm7(n:Nat)(a b c U O:Cg)(d:Nat)(UB:sV n a b c U O)(UY:d<2^n):D3 U8 (.rangeFunc (rfF (UC eL 0)) (xP (UC eL 0)) Kc2 Ka2) (Zf8 n a b c U O d):=by
 refine vZ [(.slot 61,0,0,0)] (L:=[]) (Ae FP (Ae BL Aa)) Ad UI UN (V:=Nat) (tI n a b c U O d) (λk=>k<=(quN n a b c d)) (λk=>k) (sH n a b c U O d) (x0:=0) UE rfl ?_ ?_ ?_ ?_ (g:=171) (caps:=[.ro [.ro [i 4,i 10,sls n a b c U O,.top,.top]],.ro [i d]]) (caps0:=[.ptr 917 0,.ptr 918 0]) UD UD (uN .top .top n a b c U O d UB (wB UB.1 UY)) (λ_=>rfl) ?_;rintro k;kernel_rfl;rintro k y E h;unfold sH at h;split at h;cases h;kernel_rfl;cases h;rintro k;rfl;rintro k y E h;unfold sH at h;split at h;cases h;rfl;cases h;rintro Q hQ k hx;refine ⟨λhlt=>⟨(k+1),rfl,?_⟩,λB0=>?_⟩;(with_reducible refine F4 (t:=let z1:=(quB n a b c (d:Int));let z0:=(BitVec.toNat (BitVec.ofInt 64 (d:Int) ||| BitVec.ofInt 64 ((1:Int)*2^GD z1 n k)));let z2:=(IntKind.wrap IntKind.i64 (z0:Int));let z3:=eD n a b c U O d;let z4:=eQ z1 n U O d;(need [G7 d (↑(2^n):Int)] (need [d<2^n] (branch (decide (max (z4 (z3) k d) (U (GD z1 n k))<=O (GD z1 n k))) (need [(0:Int)<=(GD z1 n k:Int)/\(GD z1 n k:Int)<=64,U5 ((1:Int)*2^GD z1 n k)] (need [G7 (IntKind.wrap IntKind.i64 (z0:Int)) (↑(2^n):Int)] (need [Int.toNat z2<2^n] (need [G7 (IntKind.wrap IntKind.i64 (z0:Int)) (↑(2^n):Int)] (need [Int.toNat z2<2^n] (need [QP n a b c U O,QO,QD=QD,ZO,UJ (ptr 905 0),QH n,XX n,QH n,UJ (d:Int),J1=J1,UJ (d:Int),W9,UJ (d:Int),2^n=2^n,∀(i:Nat),i<2^n->[iI (-1:Int)]=[iI (-1:Int)],2^n=2^n,∀(i:Nat),i<2^n->HX (decide (i=Int.toNat z2)) [iI (min (z4 (z3) k (Int.toNat z2)) (max (z4 (z3) k d) (U (GD z1 n k))))] [iI (z4 (z3) k i)]=[iI (z4 (z3) (k+1) i)],W9,W5,WD,W7 n a b c U O,WK,W0,W5,WD,W7 n a b c U O] (leaf GR.normal))))))) (need [QP n a b c U O,QO,QD=QD,ZO,UJ (ptr 905 0),QH n,XX n,QH n,UJ (d:Int),J1=J1,UJ (d:Int),W9,UJ (d:Int),2^n=2^n,∀(i:Nat),i<2^n->[iI (-1:Int)]=[iI (-1:Int)],2^n=2^n,∀(i:Nat),i<2^n->[iI (z4 (z3) k i)]=[iI (z4 (z3) (k+1) i)],W9,W5,WD,W7 n a b c U O,WK,W0,W5,WD,W7 n a b c U O] (leaf GR.normal)))))) UD ?_)
 have h8:=UB.1;have hd:=wB h8 UY;have hpn:((2^n:Nat):Int)=2^n:=UE;have hs:=yW hlt;have hor:=Wk8 h8 UY hs.1;have hol:=Qg9 UY hs.1;simp only [U6.sat,UU,G4,hor,FA,HU]
 have hd2:(d:Int)<2^n:=by
  have h:(d:Int)<((2^n:Nat):Int):=Int.ofNat_lt.2 UY
  rwa [hpn] at h
 have Qw4:((d ||| 2^GD (quB n a b c d) n k:Nat):Int)<2^n:=by
  have h:((d ||| 2^GD (quB n a b c d) n k:Nat):Int)<((2^n:Nat):Int):=Int.ofNat_lt.2 hol
  rwa [hpn] at h
 have hk1:k+1<=quN n a b c d:=hlt;have h2s:(1:Int)<=2^GD (quB n a b c d) n k/\(2:Int)^GD (quB n a b c d) n k<=256:=d9 U3;have h64:=hs.1;refine ⟨⟨U3,hd2⟩,UY,λh=>?_,λh=>?_⟩;refine ⟨⟨⟨U3,U3⟩,by simp only [U5,Int.one_mul];omega⟩,⟨U3,Qw4⟩,hol,⟨U3,Qw4⟩,hol,⟨λ_ _=>trivial,λj hj=>?_⟩,hk1⟩
 simp only [eQ,if_pos h];exact hU;refine ⟨⟨λ_ _=>trivial,λj hj=>?_⟩,hk1⟩;simp only [eQ,if_neg h];have hk:k=quN n a b c d:=U3;subst hk;exact hQ
theorem dK{P:Program}{G:List (Nat×GM)}{E:Ext}{L:List G5}(N:List (Pl×Nat×TypeId×Nat))(hG:U4 P G)(hX: ∀cx,UG P E cx)(HE:P.follows .mixedOrders=true){body:Code}(hL: ∀j cj,UC body j=some cj-> ∀sp,L[j]? =some sp->D3 P cj sp)
  {X:Type}(inv:X->St)(I:X->Prop)(μ:X->Nat)(out:X->GR->Option St){t:CT}{x0:X}(h0:I x0)
  (hok: ∀x,Go.Sx.okB (inv x)=true)(wR: ∀x y E,out x y=some E->Go.Sx.okB E=true)
  (round: ∀(Q:GR×St->Prop),t.sat Q-> ∀x,I x-> ∃x',(DA P G E L N body (inv x) (inv x') (out x)).sat (λy=>match y with
   | .normal=>I x'/\μ x'<μ x
   |y=> ∀E,out x y=some E->Q (y,E))):D3 P (.loop body) (H4 N (D1 (inv x0) t)):=
 λcx hf=>FQ N hG (hX cx) HE (λj cj hj sp hsp=>hL j cj hj sp hsp cx hf) inv I μ out h0 hok wR round
theorem fD{P:Program}{c:Code}{t:Nat}{F:Nat->G5}(h: ∀k,D3 P c (F k)):D3 P c (qM t F):=by
 intro cx hf n s tr ht Q hQ a w r;unfold qM at ht;split at ht;exact h _ cx hf n s tr ht Q hQ a w r;cases ht
abbrev JW:List (Nat×GM):=[(86,NE),(90,yP),(89,NF)]
noncomputable abbrev KM:Ext:={R:=[],H:=[(131,Qq4)] }
theorem Jm8(n:Nat)(a b c U O:Cg)(UB:sV n a b c U O):D3 U8 (.loop eL) (Zf9 n a b c U O):=by
 refine dK [(.cell 5 0,0,0,0)] (L:=[qM 48 (λd=>RH [d<2^n] (Zf8 n a b c U O d))]) (Ae P4 (Ae FP (Ae BL Aa))) (Ai Ab (Ag fW Ac)) UI (GJ (λcj hcj=>by
  have e:UC eL 0=some (.rangeFunc (rfF (UC eL 0)) (xP (UC eL 0)) Kc2 Ka2):=UD;rw [e] at hcj;cases hcj;exact fD (λd=>BV (λh=>Jm7 n a b c U O d UB h)))) (X:=Nat) (Wq6 n a b c U O) (λd=>d<=2^n) (λd=>2^n-d) (I4 n a b c U O) (x0:=0) UE ?_ ?_ ?_
 rintro d;kernel_rfl;rintro d y E h;unfold I4 at h;split at h;cases h;kernel_rfl;cases h;rintro Q hQ d hx;refine ⟨(d+1),?_⟩;(with_reducible refine F4 (t:=let z0:=W7 n a b c U O;let z1:=eD n a b c U O d;(branch (decide ((d:Int)<2^n-1+1)) (need [G7 d (↑(2^n):Int)] (need [d<2^n] (branch (z1 d==101) (need [U5 ((d:Int)+1)] (need [QP n a b c U O,QO,QD=QD,ZO,QH n,XX n,QH n,(d:Int)+1=(↑(d+1):Int),2^n=2^n,∀(i:Nat),i<2^n->[iI (-1:Int)]=[iI (-1:Int)],2^n=2^n,∀(i:Nat),i<2^n->[iI (z1 i)]=[iI (eD n a b c U O (d+1) i)],W9,W5,WD,z0,WK,W0,W5,WD,z0] (leaf GR.normal))) (need [d<2^n] (need [QP n a b c U O,QO,QD=QD,ZO,UJ (ptr 905 0),QH n,XX n,QH n,UJ (d:Int),J1=J1,UJ (d:Int),W9,UJ (d:Int),2^n=2^n,∀(i:Nat),i<2^n->[iI (-1:Int)]=[iI (-1:Int)],2^n=2^n,∀(i:Nat),i<2^n->[iI (z1 i)]=[iI (eQ (quB n a b c (d:Int)) n U O d (z1) 0 i)],W9,W5,WD,z0,WK,W0,W5,WD,z0] (need [U5 ((d:Int)+1)] (need [QP n a b c U O,QO,QD=QD,ZO,QH n,XX n,QH n,(d:Int)+1=(↑(d+1):Int),2^n=2^n,∀(i:Nat),i<2^n->[iI (-1:Int)]=[iI (-1:Int)],2^n=2^n,∀(i:Nat),i<2^n->[iI (eQ (quB n a b c (d:Int)) n U O d (z1) (quN n a b c (d:Int)) i)]=[iI (eD n a b c U O (d+1) i)],W9,W5,WD,z0,WK,W0,W5,WD,z0] (leaf GR.normal)))))))) (need [QP n a b c U O,QO,QD=QD,ZO,QH n,XX n,QH n,(d:Int)=2^n,2^n=2^n,∀(i:Nat),i<2^n->[iI (-1:Int)]=[iI (-1:Int)],2^n=2^n,∀(i:Nat),i<2^n->[iI (z1 i)]=[iI (eD n a b c U O (2^n) i)],W9,W5,WD,z0,WK,W0,W5,WD,z0] (leaf (GR.exit 2))))) UD ?_);simp only [Jv8,I4,U6.sat,HF] at hQ;simp only [U6.sat,UU,GS,H6,UX,U5,G4,HU,RW,L1,LP,HC,I4]
 have h8:=UB.1;have hp:=d9 h8;have hpn:((2^n:Nat):Int)=2^n:=UE;refine ⟨λh=>?_,λh=>?_⟩;have hd3:(d:Int)<2^n:=U3;have hd:d<2^n:=by
  have h':(d:Int)<((2^n:Nat):Int):=by rw [hpn];exact hd3
  exact Int.ofNat_lt.1 h'
 have hd2:=wB h8 hd;refine ⟨⟨U3,hd3⟩,hd,λhb=>?_,λhb=>?_⟩;rw [beq_iff_eq] at hb;refine ⟨U3,⟨U3,λ_ _=>trivial,λj hj=>by simp only [eD,if_pos hb]⟩,hd,U3⟩
 rw [beq_eq_false_iff_ne] at hb;refine ⟨hd,⟨λ_ _=>trivial,λj hj=>rfl⟩,U3,⟨U3,λ_ _=>trivial,λj hj=>by simp only [eD,if_neg hb]⟩,hd,U3⟩
 have hd:d=2^n:=by
  have h': ¬(d:Int)<((2^n:Nat):Int):=by rw [hpn];omega
  omega
 subst hd;exact ⟨⟨hpn,λ_ _=>trivial,λj hj=>rfl⟩,λE hE=>by cases hE;exact hQ⟩
def pm(n:Nat):Nat:=2^n-1
def lQ(p:Nat->Bool)(n:Nat)(U O:Cg)(d:Nat)(F:Cg):Nat->Nat->Int
 | 0=>F
 |q+1=>if min (lQ p n U O d F q (d ||| 2^GD p n q)) (O (GD p n q))>=U (GD p n q) then GE d (max (lQ p n U O d F q d) (min (lQ p n U O d F q (d ||| 2^GD p n q)) (O (GD p n q)))) (lQ p n U O d F q) else lQ p n U O d F q
def lS(n:Nat)(a b c U O:Cg):Nat->Nat->Int
 | 0=>GE (2^n-1) 101 (λ_=> -1)
 |s+1=>lQ (quB n a b c ((2^n-2-s:Nat):Int)) n U O (2^n-2-s) (lS n a b c U O s) (quN n a b c ((2^n-2-s:Nat):Int))
section
variable (n:Nat)(a b c U O:Cg)
noncomputable def Ja2:St:={σ:=[agg (ZV n a b c U O),ptr 0 0,QD,ptr 5 0]++D6 14 [ZH n,iI ((2:Int)^n)]++D6 27 [ZH n,iI ((2:Int)^n)]++D6 110 [],m:=[(903,H9.cells 189 [iI ((2:Int)^n-1-1)]),(902,H9.row 3 1 (2^n) λk=>iI (if decide (k=((2:Int)^n-1).toNat)=true then (101:Int) else (-1:Int))::Bool.rec ([]) ([]) (decide (k=((2:Int)^n-1).toNat))),(901,H9.row 3 1 (2^n) λz=>[iI (eD n a b c U O (2^n) z)]),(5,YU),(4,H9.keep 249 (KX n a b c U O)),(0,H9.cells 65 (ZV n a b c U O))],nx:=916}
noncomputable def eJ:Code:=UT (UC (UP Tryz.f84) 2)
noncomputable def Wq5(d:Nat):St:={σ:=HI [(9,.ptr 903 0),(10,.top),(11,.top),(12,.top)] (Ja2 n a b c U O).σ,m:=[(903,.cells 189 [i (((d:Nat):Int)-1)]),(902,.row 3 1 (2^n) (λz=>[i ((lS n a b c U O (2^n-1-(d))) z)])),(901,.row 3 1 (2^n) (λz=>[i ((eD n a b c U O (2^n)) z)])),(5,.cells 134 [.ptr 4 0]),(4,.keep 249 [i 4,i 10,sls n a b c U O,.row 901,.row 902]),(0,.cells 65 [i 4,i 10,sls n a b c U O])],nx:=904}
noncomputable def I3(d:Nat):GR->Option St
 | .exit 6=>some {σ:=HI [(9,.ptr 903 0),(10,.top),(11,.top),(12,.top)] (Ja2 n a b c U O).σ,m:=[(903,.cells 189 [i (((0:Nat):Int)-1)]),(902,.row 3 1 (2^n) (λz=>[i ((lS n a b c U O (2^n-1-(0))) z)])),(901,.row 3 1 (2^n) (λz=>[i ((eD n a b c U O (2^n)) z)])),(5,.cells 134 [.ptr 4 0]),(4,.keep 249 [i 4,i 10,sls n a b c U O,.row 901,.row 902]),(0,.cells 65 [i 4,i 10,sls n a b c U O])],nx:=904}
 |_=>none
noncomputable def Jv7:CT:= .leaf (.exit 6,(I3 n a b c U O (pm n) (.exit 6)).getD (Ja2 n a b c U O))
noncomputable def Zf7:G5:=H4 [(.slot 9,903,189,2),(.cell 5 0,0,0,0)] (D1 (Wq5 n a b c U O (pm n)) (Jv7 n a b c U O))
abbrev J2:AV:=AV.fn (Fn.func 171) [] [ptr 908 0,ptr 909 0]
def Jy1(d:Nat):St:={σ:=[agg (ZV n a b c U O),ptr 0 0,QD,ptr 5 0]++D6 5 [ptr 903 0]++D6 8 [ZH n,iI ((2:Int)^n)]++D6 27 [ZH n,iI ((2:Int)^n)]++D6 69 [J2]++D6 40 [],m:=[(909,H9.keep 189 [iI ((d:Int)-1)]),(908,H9.keep 134 [ptr 4 0]),(903,H9.cells 189 [iI ((d:Int)-1)]),(902,H9.row 3 1 (2^n) λz=>[iI (lS n a b c U O (2^n-1-d) z)]),(901,H9.row 3 1 (2^n) λz=>[iI (eD n a b c U O (2^n) z)]),(5,YU),(4,H9.keep 249 (KX n a b c U O)),(0,H9.cells 65 (ZV n a b c U O))],nx:=913}
noncomputable def Kc1:Code:=EE (UC eJ 0)
noncomputable def Ka1:Code:=ED (UC eJ 0)
def tH(d:Nat)(k:Nat):St:={σ:=HI [(10,.top),(11,.top),(12,.top)] (Jy1 n a b c U O d).σ,m:=[(909,.keep 189 [i ((d:Int)-1)]),(908,.keep 134 [.ptr 4 0]),(903,.cells 189 [i (((d:Nat):Int)-1)]),(902,.row 3 1 (2^n) (λz=>[i ((lQ (quB n a b c ((d:Int)-1)) n U O (d-1) (lS n a b c U O (2^n-1-d)) (k)) z)])),(901,.row 3 1 (2^n) (λz=>[i ((eD n a b c U O (2^n)) z)])),(5,.cells 134 [.ptr 4 0]),(4,.keep 249 [i 4,i 10,sls n a b c U O,.row 901,.row 902]),(0,.cells 65 [i 4,i 10,sls n a b c U O])],nx:=913}
def sG(d:Nat)(k:Nat):GR->Option St
 | .normal=>some {σ:=HI [(10,.top),(11,.top),(12,.top)] (Jy1 n a b c U O d).σ,m:=[(909,.keep 189 [i ((d:Int)-1)]),(908,.keep 134 [.ptr 4 0]),(903,.cells 189 [i (((d:Nat):Int)-1)]),(902,.row 3 1 (2^n) (λz=>[i ((lQ (quB n a b c ((d:Int)-1)) n U O (d-1) (lS n a b c U O (2^n-1-d)) ((quN n a b c ((d:Int)-1)))) z)])),(901,.row 3 1 (2^n) (λz=>[i ((eD n a b c U O (2^n)) z)])),(5,.cells 134 [.ptr 4 0]),(4,.keep 249 [i 4,i 10,sls n a b c U O,.row 901,.row 902]),(0,.cells 65 [i 4,i 10,sls n a b c U O])],nx:=913}
 |_=>none
def T_ke(d:Nat):CT:= .leaf (.normal,tH n a b c U O d (quN n a b c ((d:Int)-1)))
def Zf6(d:Nat):G5:=H4 [(.slot 118,0,0,0)] (D1 (tH n a b c U O d (0)) (T_ke n a b c U O d))
abbrev ZT:Prop:=ptr 903 0=ptr 903 0
theorem Jm5(d:Nat)(UB:sV n a b c U O)(UY:1<=d)(DF:d<2^n):D3 U8 (.rangeFunc (rfF (UC eJ 0)) (xP (UC eJ 0)) Kc1 Ka1) (Zf6 n a b c U O d):=by
 refine vZ [(.slot 118,0,0,0)] (L:=[]) (Ae FP (Ae BL Aa)) Ad UI UN (V:=Nat) (tH n a b c U O d) (λk=>k<=(quN n a b c ((d:Int)-1))) (λk=>k) (sG n a b c U O d) (x0:=0) UE rfl ?_ ?_ ?_ ?_ (g:=171) (caps:=[.ro [.ro [i 4,i 10,sls n a b c U O,.top,.top]],.ro [i ((d:Int)-1)]]) (caps0:=[.ptr 908 0,.ptr 909 0]) UD UD (uN .top .top n a b c U O ((d:Int)-1) UB (by have:=wB UB.1 DF;omega)) (λ_=>rfl) ?_
 rintro k;kernel_rfl;rintro k y E h;unfold sG at h;split at h;cases h;kernel_rfl;cases h;rintro k;rfl;rintro k y E h;unfold sG at h;split at h;cases h;rfl;cases h;rintro Q hQ k hx;refine ⟨λhlt=>⟨(k+1),rfl,?_⟩,λB0=>?_⟩;(with_reducible refine F4 (t:=let z0:=(quB n a b c ((d:Int)-1));let z1:=(BitVec.toNat (BitVec.ofInt 64 ((d:Int)-1) ||| BitVec.ofInt 64 ((1:Int)*2^GD z0 n k)));let z2:=(lS n a b c U O (2^n-1-d));let z3:=(UJ ((d:Int)-1));let z5:=lQ z0 n U O;let z4:=(z5 (d-1) z2 k (IntKind.wrap IntKind.i64 (z1:Int)).toNat);(need [(0:Int)<=(GD z0 n k:Int)/\(GD z0 n k:Int)<=64,U5 ((1:Int)*2^GD z0 n k)] (need [G7 (IntKind.wrap IntKind.i64 (z1:Int)) (↑(2^n):Int)] (need [(IntKind.wrap IntKind.i64 (z1:Int)).toNat<2^n] (branch (decide (min z4 (O (GD z0 n k))>=U (GD z0 n k))) (need [G7 ((d:Int)-1) (↑(2^n):Int)] (need [((d:Int)-1).toNat<2^n] (need [G7 ((d:Int)-1) (↑(2^n):Int)] (need [((d:Int)-1).toNat<2^n] (need [QP n a b c U O,QO,QD=QD,ZO,ZT,QH n,XX n,QH n,XX n,J2=J2,z3,W9,z3,2^n=2^n,∀(i:Nat),i<2^n->HX (decide (i=((d:Int)-1).toNat)) [iI (max (z5 (d-1) z2 k ((d:Int)-1).toNat) (min z4 (O (GD z0 n k))))] [iI (z5 (d-1) z2 k i)]=[iI (z5 (d-1) z2 (k+1) i)],2^n=2^n,∀(i:Nat),i<2^n->[iI (eD n a b c U O (2^n) i)]=[iI (eD n a b c U O (2^n) i)],W9,W5,WD,W7 n a b c U O,WK,W0,W5,WD,W7 n a b c U O] (leaf GR.normal)))))) (need [QP n a b c U O,QO,QD=QD,ZO,ZT,QH n,XX n,QH n,XX n,J2=J2,z3,W9,z3,2^n=2^n,∀(i:Nat),i<2^n->[iI (z5 (d-1) z2 k i)]=[iI (z5 (d-1) z2 (k+1) i)],2^n=2^n,∀(i:Nat),i<2^n->[iI (eD n a b c U O (2^n) i)]=[iI (eD n a b c U O (2^n) i)],W9,W5,WD,W7 n a b c U O,WK,W0,W5,WD,W7 n a b c U O] (leaf GR.normal))))))) UD ?_)
 have h8:=UB.1;obtain ⟨D,rfl⟩: ∃D,d=D+1:=⟨d-1,U3⟩;have hD:(((D+1:Nat):Int)-1)=(D:Int):=U3;have hd:D<2^n:=U3;have hdi:=wB h8 hd;have hpn:((2^n:Nat):Int)=2^n:=UE;simp only [hD] at*;have hs:=yW hlt;have hor:=Wk8 h8 hd hs.1;have hol:=Qg9 hd hs.1;simp only [U6.sat,UU,G4,hor,FA,HU,Bi]
 have hd2:(D:Int)<2^n:=by
  have h:(D:Int)<((2^n:Nat):Int):=Int.ofNat_lt.2 hd
  rwa [hpn] at h
 have Qw4:((D ||| 2^GD (quB n a b c D) n k:Nat):Int)<2^n:=by
  have h:((D ||| 2^GD (quB n a b c D) n k:Nat):Int)<((2^n:Nat):Int):=Int.ofNat_lt.2 hol
  rwa [hpn] at h
 have hk1:k+1<=quN n a b c D:=hlt;have h2s:(1:Int)<=2^GD (quB n a b c D) n k/\(2:Int)^GD (quB n a b c D) n k<=256:=d9 U3;have h64:=hs.1;refine ⟨⟨⟨U3,U3⟩,by simp only [U5,Int.one_mul];omega⟩,⟨U3,Qw4⟩,hol,λh=>?_,λh=>?_⟩
 refine ⟨⟨U3,hd2⟩,hd,⟨U3,hd2⟩,hd,⟨λj hj=>?_,λ_ _=>trivial⟩,hk1⟩;simp only [lQ,if_pos h];exact hU;refine ⟨⟨λj hj=>?_,λ_ _=>trivial⟩,hk1⟩;simp only [lQ,if_neg h];have hk:k=quN n a b c ((d:Int)-1):=U3;subst hk;exact hQ
theorem Jm6(UB:sV n a b c U O):D3 U8 (.loop eJ) (Zf7 n a b c U O):=by
 refine dK [(.slot 9,903,189,2),(.cell 5 0,0,0,0)] (L:=[qM 117 (λd=>RH [d+1<2^n] (Zf6 n a b c U O (d+1)))]) (Ae P4 (Ae FP (Ae BL Aa))) (Ai Ab (Ag fW Ac)) UI (GJ (λcj hcj=>by
  have e:UC eJ 0=some (.rangeFunc (rfF (UC eJ 0)) (xP (UC eJ 0)) Kc1 Ka1):=UD;rw [e] at hcj;cases hcj;exact fD (λd=>BV (λh=>Jm5 n a b c U O (d+1) UB (Nat.succ_le_succ (Ao _)) h)))) (X:=Nat) (Wq5 n a b c U O) (λd=>d<=pm n) (λd=>d) (I3 n a b c U O) (x0:=pm n) (Am _) ?_ ?_ ?_
 rintro d;kernel_rfl;rintro d y E h;unfold I3 at h;split at h;cases h;kernel_rfl;cases h;rintro Q hQ d hx;refine ⟨(d-1),?_⟩;(with_reducible refine F4 (t:=let z0:=(quB n a b c ((↑(((d:Int)-1).toNat+1):Int)-1));let z4:=lS n a b c U O;let z1:=(z4 (2^n-1-(((d:Int)-1).toNat+1)));let z2:=eD n a b c U O;let z3:=W7 n a b c U O;(branch (decide ((d:Int)-1>=(0:Int))) (need [((d:Int)-1).toNat+1<2^n] (need [QP n a b c U O,QO,QD=QD,ZO,ZT,QH n,XX n,QH n,XX n,J2=J2,(d:Int)-1=(↑(((d:Int)-1).toNat+1):Int)-1,W9,(d:Int)-1=(↑(((d:Int)-1).toNat+1):Int)-1,2^n=2^n,∀(i:Nat),i<2^n->[iI (z4 (2^n-1-d) i)]=[iI (lQ z0 n U O (((d:Int)-1).toNat+1-1) z1 0 i)],2^n=2^n,∀(i:Nat),i<2^n->[iI (z2 (2^n) i)]=[iI (z2 (2^n) i)],W9,W5,WD,z3,WK,W0,W5,WD,z3] (need [U5 ((↑(((d:Int)-1).toNat+1):Int)-1-1)] (need [QP n a b c U O,QO,QD=QD,ZO,ZT,QH n,XX n,QH n,XX n,(↑(((d:Int)-1).toNat+1):Int)-1-1=(↑(d-1):Int)-1,2^n=2^n,∀(i:Nat),i<2^n->[iI (lQ z0 n U O (((d:Int)-1).toNat+1-1) z1 (quN n a b c ((↑(((d:Int)-1).toNat+1):Int)-1)) i)]=[iI (z4 (2^n-1-(d-1)) i)],2^n=2^n,∀(i:Nat),i<2^n->[iI (z2 (2^n) i)]=[iI (z2 (2^n) i)],W9,W5,WD,z3,WK,W0,W5,WD,z3] (leaf GR.normal))))) (need [QP n a b c U O,QO,QD=QD,ZO,ZT,QH n,XX n,QH n,XX n,(d:Int)-1=((0:Nat):Int)-1,2^n=2^n,∀(i:Nat),i<2^n->[iI (z4 (2^n-1-d) i)]=[iI (z4 (2^n-1-0) i)],2^n=2^n,∀(i:Nat),i<2^n->[iI (z2 (2^n) i)]=[iI (z2 (2^n) i)],W9,W5,WD,z3,WK,W0,W5,WD,z3] (leaf (GR.exit 6))))) UD ?_);simp only [Jv7,I3,U6.sat,HF] at hQ;simp only [U6.sat,UU,GS,H6,UX,U5,G4,HU,RW,L1,LP,HC,I3]
 have h8:=UB.1;have hpm:pm n=2^n-1:=rfl;rw [hpm] at hx ⊢;have hp:=d9 h8;have hpn:((2^n:Nat):Int)=2^n:=UE;refine ⟨λh=>?_,λh=>?_⟩;obtain ⟨D,rfl⟩: ∃D,d=D+1:=⟨d-1,U3⟩;have e1:(((D+1:Nat):Int)-1).toNat=D:=U3;have e2:(((D+1:Nat):Int)-1)=(D:Int):=U3;have hd:D+1<2^n:=U3;have hdi:=wB h8 hd;simp only [e2,FA,Bi,true_and];have hst:lQ (quB n a b c D) n U O D (lS n a b c U O (2^n-1-(D+1))) (quN n a b c D)=lS n a b c U O (2^n-1-D):=by
  have h1:2^n-1-D=(2^n-1-(D+1))+1:=U3;have h2:2^n-2-(2^n-1-(D+1))=D:=U3;rw [h1];simp only [lS,h2]
 refine ⟨hd,⟨λj hj=>rfl,λ_ _=>trivial⟩,U3,⟨λj hj=>by rw [hst],λ_ _=>trivial⟩,U3,U3⟩
 obtain rfl:d=0:=U3;exact ⟨⟨rfl,λj hj=>rfl,λ_ _=>trivial⟩,λE hE=>by cases hE;exact hQ⟩
end
theorem Qb9{S:Code->G5->Prop}{c:Code}{s0 s1 s2:G5}(h0: ∀cj,UC c 0=some cj->S cj s0)(h1: ∀cj,UC c 1=some cj->S cj s1)(h2: ∀cj,UC c 2=some cj->S cj s2):
  ∀j cj,UC c j=some cj-> ∀sp,[s0,s1,s2][j]? =some sp->S cj sp:=by
 intro j cj hj sp hsp
 match j with
 | 0=>simp at hsp;subst hsp;exact h0 cj hj
 | 1=>simp at hsp;subst hsp;exact h1 cj hj
 | 2=>simp at hsp;subst hsp;exact h2 cj hj
 |j+3=>simp at hsp
section
variable (n:Nat)(a b c U O:Cg)
theorem Wk3(UB:sV n a b c U O):RB U8 84 [.agg [i 4,i 10,sls n a b c U O]] (.ro [i 4,i 10,sls n a b c U O,.lst 1 (2^n) (λz=>[i (eD n a b c U O (2^n) z)]),.lst 1 (2^n) (λz=>[i (lS n a b c U O (2^n-1) z)])]):=by
 refine DL (L:=[Zg0 n a b c U O,Zf9 n a b c U O,Zf7 n a b c U O]) (Ae P4 (Ae FP (Ae BL Aa))) (Ai Ab (Ag fW Ac)) UI Tryz.func84 (GF Tryz.f84) (Qb9 (lpE (b:= .loop Ka3) UD<|(Jm9 n a b c U O UB).N) (lpE (b:= .loop eL) UD<|Jm8 n a b c U O UB) (lpE (b:= .loop eJ) UD<|Jm6 n a b c U O UB)) (t:=let z0:=W7 n a b c U O;(need [n<=8] (need [U5 ((2:Int)^n-1+1)] (need [QP n a b c U O,QO,QD=QD,ZO,QH n,(0:Int)=((0:Nat):Int),0=0,∀(i:Nat),i<0->[]=[iI (-1:Int)],0=0,∀(i:Nat),i<0->[]=J0,W9,W5,WD,z0,WK,W0,W5,WD,z0] (need [G7 0 (↑(2^n):Int)] (need [(0:Int).toNat<2^n] (need [n<=8] (need [U5 ((2:Int)^n-1+1)] (need [QP n a b c U O,QO,QD=QD,ZO,QH n,XX n,QH n,(0:Int)=((0:Nat):Int),2^n=2^n,∀(i:Nat),i<2^n->[iI (-1:Int)]=[iI (-1:Int)],2^n=2^n,∀(i:Nat),i<2^n->HX (decide (i=(0:Int).toNat)) [iI 0] J0=[iI (eD n a b c U O 0 i)],W9,W5,WD,z0,WK,W0,W5,WD,z0] (need [n<=8] (need [(0:Int)<=2^n-1/\(2:Int)^n-1<(↑(2^n):Int)] (need [((2:Int)^n-1).toNat<2^n] (need [n<=8] (need [U5 ((2:Int)^n-1-1)] (need [QP n a b c U O,QO,QD=QD,ZO,ZT,QH n,XX n,QH n,XX n,(2:Int)^n-1-1=(pm n:Int)-1,2^n=2^n,∀(i:Nat),i<2^n->HX (decide (i=((2:Int)^n-1).toNat)) J0 [iI (-1:Int)]=[iI (lS n a b c U O (2^n-1-pm n) i)],2^n=2^n,∀(i:Nat),i<2^n->[iI (eD n a b c U O (2^n) i)]=[iI (eD n a b c U O (2^n) i)],W9,W5,WD,z0,WK,W0,W5,WD,z0] (leaf (AV.ro [iI 4,iI 10,Q0 n a b c U O,lst 1 (2^n) λz=>[iI (eD n a b c U O (2^n) z)],lst 1 (2^n) λz=>[iI (lS n a b c U O (2^n-1-0) z)]]))))))))))))))))) UD ?_
 have h8:=UB.1;have hp:=d9 h8;have hpn:((2^n:Nat):Int)=2^n:=UE;have hp1:1<=2^n:=Cc;have hpt:((2:Int)^n-1).toNat=2^n-1:=U3;simp only [U6.sat,UU,G4,U5,hpt,Int.toNat_zero]
 (with_reducible repeat' first|apply Al|intro _)
 all_goals first|exact Ak|omega|with_reducible rfl|rfl|skip
 rename_i q hq;exact hU (F:=λ_=>101);have h1:((pm n:Nat):Int)=((2^n:Nat):Int)-1:=by
  unfold pm;omega
 rw [h1,hpn];rename_i q hq;rw [show 2^n-1-pm n=0 from Bs _];exact hU (F:=λ_=> -1)
def Xv8:GM:=λl=>some ([l=[.agg [i 4,i 10,sls n a b c U O]]],.ro [i 4,i 10,sls n a b c U O,.lst 1 (2^n) (λz=>[i (eD n a b c U O (2^n) z)]),.lst 1 (2^n) (λz=>[i (lS n a b c U O (2^n-1) z)])])
theorem fY(UB:sV n a b c U O):PS U8 84 (Xv8 n a b c U O):=by
 refine ⟨(UZ Tryz.func84),?_⟩;intro avs ns res h hn;cases h;have e:=hn _ H0;subst e;exact Wk3 n a b c U O UB
def Xf6:GM:=λl=>some ([l=[.agg [i 4,i 10,sls n a b c U O]]],i (if kC n a b c U O then 0 else 1))
theorem uP(UB:n<=8):UA U8 83 (Xf6 n a b c U O):=by
 refine ⟨(UZ Tryz.func83),?_⟩;intro avs ns res h hn;cases h;have e:=hn _ H0;subst e;exact S2 n a b c U O UB
theorem Wk2(E F:Cg)(UB:n<=8):UH U8 85 [.ro [i 4,i 10,sls n a b c U O,.lst 1 (2^n) (λz=>[i (E z)]),.lst 1 (2^n) (λz=>[i (F z)])]] (bl (E (2^n-1) != 101)):=by
 refine UL (L:=[]) (Ae P4 Aa) UI Tryz.func85 (GF Tryz.f85) UN (t:=need [n<=8] (need [(0:Int)<=2^n-1/\(2:Int)^n-1<(↑(2^n):Int)] (leaf (RV.x (.bool (E ((2:Int)^n-1).toNat != 101)))))) UD ?_;have hp:=d9 UB;have hpn:((2^n:Nat):Int)=2^n:=UE;have hp1:1<=2^n:=Cc;have hpt:((2:Int)^n-1).toNat=2^n-1:=U3;simp only [U6.sat,UU,GS,H6,UX,G4,hpt]
 (with_reducible repeat' first|apply Al|intro _)
 all_goals first|exact UB|omega|rfl|trivial
def Xv7(E F:Cg):GM:=λl=>some ([l=[.ro [i 4,i 10,sls n a b c U O,.lst 1 (2^n) (λz=>[i (E z)]),.lst 1 (2^n) (λz=>[i (F z)])]]],bl (E (2^n-1) != 101))
theorem fX(E F:Cg)(UB:n<=8):UA U8 85 (Xv7 n a b c U O E F):=by
 refine ⟨(UZ Tryz.func85),?_⟩;intro avs ns res h hn;cases h;have e:=hn _ H0;subst e;exact Wk2 n a b c U O E F UB
theorem l8(E F:Cg)(d W:Int)(UB:0<=d/\d<2^n):UH U8 87 [.ro [i 4,i 10,sls n a b c U O,.lst 1 (2^n) (λz=>[i (E z)]),.lst 1 (2^n) (λz=>[i (F z)])],i d,i W] (bl (decide (E d.toNat<=W)&&decide (F d.toNat>W))):=by
 refine HL Tryz.func87 (t:=need [G7 d (↑(2^n):Int)] (branch (decide (E (Int.toNat d)<=W)) (need [G7 d (↑(2^n):Int)] (leaf (RV.x (.bool (decide (F (Int.toNat d)>W)))))) (leaf (RV.x (WP))))) UD ?_;have hpn:((2^n:Nat):Int)=2^n:=UE;simp only [U6.sat,UU,GS,H6,UX,G4];have hd:d.toNat<2^n:=U3
 (with_reducible repeat' first|apply Al|intro _)
 all_goals first|omega|(rename_i h;rw [h];rfl)
def NN(E F:Cg):GM
 |[bk,.x (.int .i64 d),.x (.int .i64 W)]=>some ([bk= .ro [i 4,i 10,sls n a b c U O,.lst 1 (2^n) (λz=>[i (E z)]),.lst 1 (2^n) (λz=>[i (F z)])],0<=d/\d<2^n],bl (decide (E d.toNat<=W)&&decide (F d.toNat>W)))
 |_=>none
theorem d8(E F:Cg):UA U8 87 (NN n a b c U O E F):=by
 refine ⟨(UZ Tryz.func87),?_⟩;intro avs ns res h hn;unfold NN at h;split at h;cases h;rename_i bk d W;have e:=hn _ H0;rw [e];exact l8 n a b c U O E F d W (hn _ UE);cases h
end
def hoF(n:Nat)(a b c:Cg)(E F:Cg)(ow W:Int):Nat->Int×Int
 | 0=>(1001,-1)
 |d+1=>match decide (E d<=W)&&decide (F d>W) with
  |true=>(min (hoF n a b c E F ow W d).1 (stF a b c d n ow.toNat),max (hoF n a b c E F ow W d).2 (stF a b c d n ow.toNat))
  |false=>hoF n a b c E F ow W d
theorem nth6(F:Cg){q:Nat}(hq:q<6):US [F 0,F 1,F 2,F 3,F 4,F 5] q=F q:=by
 match q,hq with
 | 0,_=>rfl
 | 1,_=>rfl
 | 2,_=>rfl
 | 3,_=>rfl
 | 4,_=>rfl
 | 5,_=>rfl
section
variable (n:Nat)
abbrev WG(a:Cg)(b:Cg)(c:Cg)(U:Cg)(O:Cg)(E:Cg)(F:Cg):AV:=AV.ro [iI 4,iI 10,Q0 n a b c U O,lst 1 (2^n) λz=>[iI (E z)],lst 1 (2^n) λz=>[iI (F z)]]
abbrev JY:List AV:=[iI 0,iI 0]
def Ja6(a b c U O:Cg)(E F:Cg)(ow W:Int):St:={σ:=[WG n a b c U O E F,iI ow,iI W,top,top,top,ptr 0 0,ptr 2 0]++D6 5 [ZH n]++D6 25 [],m:=[(2,H9.cells 118 [iI 1001,iI (-1:Int)]),(0,H9.cells 118 JY)],nx:=8}
noncomputable def Ka5:Code:=UT (UC (UP Tryz.f57) 0)
def Wq9(a b c U O:Cg)(E F:Cg)(ow W:Int)(d:Nat):St:={σ:=HI [(8,.top),(9,.top),(14,i d)] (Ja6 n a b c U O E F ow W).σ,m:=[(2,.cells 118 [i (hoF n a b c E F ow W (d)).1,i (hoF n a b c E F ow W (d)).2]),(0,.cells 118 [i 0,i 0])],nx:=8}
def I7(a b c U O:Cg)(E F:Cg)(ow W:Int)(d:Nat):GR->Option St
 | .exit 0=>some {σ:=HI [(8,.top),(9,.top),(14,i (2^n))] (Ja6 n a b c U O E F ow W).σ,m:=[(2,.cells 118 [i (hoF n a b c E F ow W (2^n)).1,i (hoF n a b c E F ow W (2^n)).2]),(0,.cells 118 [i 0,i 0])],nx:=8}
 |_=>none
def Jw1(a b c U O:Cg)(E F:Cg)(ow W:Int):CT:= .leaf (.exit 0,(I7 n a b c U O E F ow W 0 (.exit 0)).getD (Ja6 n a b c U O E F ow W))
def Zg2(a b c U O:Cg)(E F:Cg)(ow W:Int):G5:=(D1 (Wq9 n a b c U O E F ow W (0)) (Jw1 n a b c U O E F ow W))
abbrev ZD:Prop:=ptr 2 0=ptr 2 0
theorem Jo8(a b c U O:Cg)(E F:Cg)(ow W:Int)(UB:sV n a b c U O)(UY:0<=ow/\ow<4):GU U8 (.loop Ka5) (Zg2 n a b c U O E F ow W):=by
 refine D4 (L:=[]) (Ae BL (Ae FP (Ae P4 (Ae (d8 n a b c U O E F) (Ae (wW n a b c U O UB) Aa))))) UI UN (X:=Nat) (Wq9 n a b c U O E F ow W) (λd=>d<=2^n) (λd=>2^n-d) (I7 n a b c U O E F ow W) (x0:=0) UE ?_ ?_ ?_;rintro d;kernel_rfl;rintro d y E h;unfold I7 at h;split at h;cases h;kernel_rfl;cases h;rintro Q hQ d hx;refine ⟨(d+1),?_⟩;(with_reducible refine F4 (t:=let z0:=(US [stF a b c (d:Int) n 0,stF a b c (d:Int) n 1,stF a b c (d:Int) n 2,stF a b c (d:Int) n 3,stF a b c (d:Int) n 4,stF a b c (d:Int) n 5] (Int.toNat ow));let z2:=hoF n a b c E F ow W;let z1:=(z2 d);let z3:=(UJ (WG n a b c U O E F));(branch (decide ((d:Int)<2^n-1+1)) (need [z3,(0:Int)<=(d:Int)/\(d:Int)<2^n] (branch (decide (E d<=W)&&decide (F d>W)) (need [W7 n a b c U O,(0:Int)<=(d:Int)/\(d:Int)<256] (need [G7 ow 6] (need [U5 ((d:Int)+1)] (need [z3,ow=ow,W=W,QO,ZD,QH n,(d:Int)+1=(↑(d+1):Int),min (Prod.fst z1) z0=Prod.fst (z2 (d+1)),max (Prod.snd z1) z0=Prod.snd (z2 (d+1)),QV,QV] (leaf GR.normal))))) (need [U5 ((d:Int)+1)] (need [z3,ow=ow,W=W,QO,ZD,QH n,(d:Int)+1=(↑(d+1):Int),Prod.fst z1=Prod.fst (z2 (d+1)),Prod.snd z1=Prod.snd (z2 (d+1)),QV,QV] (leaf GR.normal))))) (need [z3,ow=ow,W=W,QO,ZD,QH n,(d:Int)=2^n,Prod.fst z1=Prod.fst (z2 (2^n)),Prod.snd z1=Prod.snd (z2 (2^n)),QV,QV] (leaf (GR.exit 0))))) UD ?_);simp only [Jw1,I7,U6.sat,HF] at hQ;simp only [U6.sat,UU,GS,H6,UX,U5,G4,HU,RW,L1,LP,HC,I7]
 have h8:=UB.1;have hp:=d9 h8;have hpn:((2^n:Nat):Int)=2^n:=UE;refine ⟨λh=>?_,λh=>?_⟩;have hd3:(d:Int)<2^n:=U3;have hd:d<2^n:=by
  have h':(d:Int)<((2^n:Nat):Int):=by rw [hpn];exact hd3
  exact Int.ofNat_lt.1 h'
 have hd2:=wB h8 hd;have h6:=nth6 (stF a b c d n) (show ow.toNat<6 by omega)
 refine ⟨⟨U3,hd3⟩,λhb=>?_,λhb=>?_⟩;refine ⟨hd2,⟨U3,U3⟩,U3,⟨U3,?_,?_⟩,hd,U3⟩;simp only [hoF,hb];rw [h6];simp only [hoF,hb];rw [h6];refine ⟨U3,⟨U3,?_,?_⟩,hd,U3⟩;simp only [hoF,hb];simp only [hoF,hb];have hd:d=2^n:=by
  have h': ¬(d:Int)<((2^n:Nat):Int):=by rw [hpn];omega
  omega
 subst hd;exact ⟨⟨hpn,rfl,rfl⟩,λE hE=>by cases hE;exact hQ⟩
theorem Qt1(a b c U O:Cg)(E F:Cg)(ow W:Int)(UB:sV n a b c U O)(UY:0<=ow/\ow<4):UH U8 57 [.ro [i 4,i 10,sls n a b c U O,.lst 1 (2^n) (λz=>[i (E z)]),.lst 1 (2^n) (λz=>[i (F z)])],i ow,i W] (.agg [i (hoF n a b c E F ow W (2^n)).1,i (hoF n a b c E F ow W (2^n)).2]):=by
 refine UL (L:=[Zg2 n a b c U O E F ow W]) (Ae BL (Ae FP (Ae P4 (Ae (d8 n a b c U O E F) (Ae (wW n a b c U O UB) Aa))))) UI Tryz.func57 (GF Tryz.f57) (GJ (lpE (b:= .loop Ka5) UD<|Jo8 n a b c U O E F ow W UB UY)) (t:=let z0:=hoF n a b c E F ow W;(need [n<=8] (need [U5 ((2:Int)^n-1+1)] (need [UJ (WG n a b c U O E F),ow=ow,W=W,QO,ZD,QH n,(0:Int)=((0:Nat):Int),(1001:Int)=Prod.fst (z0 0),(-1:Int)=Prod.snd (z0 0),QV,QV] (leaf (RV.agg [RV.x (.int .i64 (Prod.fst (z0 (2^n)))),RV.x (.int .i64 (Prod.snd (z0 (2^n))))])))))) UD ?_
 have h8:=UB.1;have hp:=d9 h8;have hpn:((2^n:Nat):Int)=2^n:=UE;simp only [U6.sat,UU,GS,H6,UX,G4,U5,Prod.fst,Prod.snd]
 (with_reducible repeat' first|apply Al|intro _)
 all_goals first|exact Ak|exact h8|omega|rfl
def oK(a b c U O:Cg)(E F:Cg):GM
 |[bk,.x (.int .i64 ow),.x (.int .i64 W)]=>some ([bk= .ro [i 4,i 10,sls n a b c U O,.lst 1 (2^n) (λz=>[i (E z)]),.lst 1 (2^n) (λz=>[i (F z)])],0<=ow/\ow<4],.agg [i (hoF n a b c E F ow W (2^n)).1,i (hoF n a b c E F ow W (2^n)).2])
 |_=>none
theorem uO(a b c U O:Cg)(E F:Cg)(UB:sV n a b c U O):UA U8 57 (oK n a b c U O E F):=by
 refine ⟨(UZ Tryz.func57),?_⟩;intro avs ns res h hn;unfold oK at h;split at h;cases h;rename_i bk ow W;have e:=hn _ H0;rw [e];exact Qt1 n a b c U O E F ow W UB (hn _ UE);cases h
def jV(a b c U O:Cg):Bool:=eD n a b c U O (2^n) (2^n-1) != 101
end
theorem cQ{n:Nat}{a b c U O:Cg}(h:sV n a b c U O):kC n a b c U O=true:=HG.2 h.2
section
variable (n:Nat)
abbrev X8(a:Cg)(b:Cg)(c:Cg)(U:Cg)(O:Cg):List AV:=[agg [iI 4,iI 10,Q0 n a b c U O]]
theorem Qs9(a b c U O:Cg)(rt:Bool)(UB:sV n a b c U O):G6 U8 55 [.agg [i 4,i 10,sls n a b c U O],bl rt] (.branch (!rt) (.leaf (.tup [Bo.nilP,i 2])) (.branch (!jV n a b c U O) (.leaf (.tup [Bo.nilP,i 9])) (.leaf (.tup [.ro [i 4,i 10,sls n a b c U O,.lst 1 (2^n) (λz=>[i (eD n a b c U O (2^n) z)]),.lst 1 (2^n) (λz=>[i (lS n a b c U O (2^n-1) z)])],i 0])))):=by
 refine HD (L:=[]) (Ae (uP n a b c U O UB.1) (Ae (fX n a b c U O (eD n a b c U O (2^n)) (lS n a b c U O (2^n-1)) UB.1) Aa)) (Ai (Af (fY n a b c U O UB) Ab) Ac) UI Tryz.func55 (GF Tryz.f55) GN (t:=let z0:=(AV.ro [iI 4,iI 10,Q0 n a b c U O,lst 1 (2^n) λz=>[iI (eD n a b c U O (2^n) z)],lst 1 (2^n) λz=>[iI (lS n a b c U O (2^n-1) z)]]);(need [UJ (X8 n a b c U O)] (branch ((if kC n a b c U O=true then (0:Int) else (1:Int)) != 0) (leaf (tup [QD,iI (if kC n a b c U O=true then (0:Int) else (1:Int))])) (branch (!rt) (leaf (tup [QD,iI 2])) (need [UJ (X8 n a b c U O)] (need [UJ ([z0])] (branch (!eD n a b c U O (2^n) (2^n-1) != 101) (leaf (tup [QD,iI 9])) (leaf (tup [z0,iI 0]))))))))) UD ?_
 intro Q hQ;simp only [U6.sat,UU,G4] at hQ ⊢;rw [cQ UB];refine ⟨λh=>by simp at h,λ_=>⟨λh=>⟨.tup [Bo.nilP,i 2],⟨rfl,⟨rfl,rfl⟩,Ak⟩,hQ.1 h⟩,λh=>⟨λh2=>⟨.tup [Bo.nilP,i 9],⟨rfl,⟨rfl,rfl⟩,Ak⟩,(hQ.2 h).1 h2⟩,λh2=>⟨.tup [.ro [i 4,i 10,sls n a b c U O,.lst 1 (2^n) (λz=>[i (eD n a b c U O (2^n) z)]),.lst 1 (2^n) (λz=>[i (lS n a b c U O (2^n-1) z)])],i 0],⟨rfl,⟨rfl,rfl⟩,Ak⟩,(hQ.2 h).2 h2⟩⟩⟩⟩
theorem EP(a b c U O:Cg)(UB:sV n a b c U O):G6 U8 55 [.agg [i 4,i 10,sls n a b c U O],.lit true] (.branch (!true) (.leaf (.tup [Bo.nilP,i 2])) (.branch (!jV n a b c U O) (.leaf (.tup [Bo.nilP,i 9])) (.leaf (.tup [.ro [i 4,i 10,sls n a b c U O,.lst 1 (2^n) (λz=>[i (eD n a b c U O (2^n) z)]),.lst 1 (2^n) (λz=>[i (lS n a b c U O (2^n-1) z)])],i 0])))):=by
 refine HD (L:=[]) (Ae (uP n a b c U O UB.1) (Ae (fX n a b c U O (eD n a b c U O (2^n)) (lS n a b c U O (2^n-1)) UB.1) Aa)) (Ai (Af (fY n a b c U O UB) Ab) Ac) UI Tryz.func55 (GF Tryz.f55) GN (t:=let z0:=(AV.ro [iI 4,iI 10,Q0 n a b c U O,lst 1 (2^n) λz=>[iI (eD n a b c U O (2^n) z)],lst 1 (2^n) λz=>[iI (lS n a b c U O (2^n-1) z)]]);(need [UJ (X8 n a b c U O)] (branch ((if kC n a b c U O=true then (0:Int) else (1:Int)) != 0) (leaf (tup [QD,iI (if kC n a b c U O=true then (0:Int) else (1:Int))])) (need [UJ (X8 n a b c U O)] (need [UJ ([z0])] (branch (!eD n a b c U O (2^n) (2^n-1) != 101) (leaf (tup [QD,iI 9])) (leaf (tup [z0,iI 0])))))))) UD ?_
 intro Q hQ;simp only [U6.sat,UU,G4] at hQ ⊢;rw [cQ UB]
 replace hQ:=hQ.2 rfl
 refine ⟨λh=>by simp at h,λ_=>⟨λh2=>⟨.tup [Bo.nilP,i 9],⟨rfl,⟨rfl,rfl⟩,Ak⟩,hQ.1 h2⟩,λh2=>⟨.tup [.ro [i 4,i 10,sls n a b c U O,.lst 1 (2^n) (λz=>[i (eD n a b c U O (2^n) z)]),.lst 1 (2^n) (λz=>[i (lS n a b c U O (2^n-1) z)])],i 0],⟨rfl,⟨rfl,rfl⟩,Ak⟩,hQ.2 h2⟩⟩⟩
theorem AY(a b c U O:Cg)(UB:sV n a b c U O):G6 U8 55 [.agg [i 4,i 10,sls n a b c U O],.lit false] (.branch (!false) (.leaf (.tup [Bo.nilP,i 2])) (.branch (!jV n a b c U O) (.leaf (.tup [Bo.nilP,i 9])) (.leaf (.tup [.ro [i 4,i 10,sls n a b c U O,.lst 1 (2^n) (λz=>[i (eD n a b c U O (2^n) z)]),.lst 1 (2^n) (λz=>[i (lS n a b c U O (2^n-1) z)])],i 0])))):=by
 refine HD (L:=[]) (Ae (uP n a b c U O UB.1) (Ae (fX n a b c U O (eD n a b c U O (2^n)) (lS n a b c U O (2^n-1)) UB.1) Aa)) (Ai (Af (fY n a b c U O UB) Ab) Ac) UI Tryz.func55 (GF Tryz.f55) GN (t:=need [UJ (X8 n a b c U O)] (branch ((if kC n a b c U O=true then (0:Int) else (1:Int)) != 0) (leaf (tup [QD,iI (if kC n a b c U O=true then (0:Int) else (1:Int))])) (leaf (tup [QD,iI 2])))) UD ?_
 intro Q hQ;simp only [U6.sat,UU,G4] at hQ ⊢;rw [cQ UB];exact ⟨λh=>by simp at h,λ_=>⟨.tup [Bo.nilP,i 2],⟨rfl,⟨rfl,rfl⟩,Ak⟩,hQ.1 rfl⟩⟩
def NM(a b c U O:Cg):DX:=λl=>match l with
 |[bt,.x (.bool rt)]=>some (.need [bt= .agg [i 4,i 10,sls n a b c U O]] (.branch (!rt) (.leaf (.tup [Bo.nilP,i 2])) (.branch (!jV n a b c U O) (.leaf (.tup [Bo.nilP,i 9])) (.leaf (.tup [.ro [i 4,i 10,sls n a b c U O,.lst 1 (2^n) (λz=>[i (eD n a b c U O (2^n) z)]),.lst 1 (2^n) (λz=>[i (lS n a b c U O (2^n-1) z)])],i 0])))))
 |[bt,.lit rt]=>some (.need [bt= .agg [i 4,i 10,sls n a b c U O]] (.branch (!rt) (.leaf (.tup [Bo.nilP,i 2])) (.branch (!jV n a b c U O) (.leaf (.tup [Bo.nilP,i 9])) (.leaf (.tup [.ro [i 4,i 10,sls n a b c U O,.lst 1 (2^n) (λz=>[i (eD n a b c U O (2^n) z)]),.lst 1 (2^n) (λz=>[i (lS n a b c U O (2^n-1) z)])],i 0])))))
 |_=>none
theorem uM(a b c U O:Cg)(UB:sV n a b c U O):Sx.Enters Tryz.prog 55/\ ∀avs t,NM n a b c U O avs=some t->G6 U8 55 avs t:=by
 refine ⟨(UZ Tryz.func55),?_⟩;intro avs t h;unfold NM at h;split at h;cases h;intro Q hQ;have e:=hQ.1
 dsimp only [UU] at e
 subst e;exact Qs9 n a b c U O _ UB Q hQ.2;cases h;intro Q hQ;have e:=hQ.1
 dsimp only [UU] at e
 subst e;rename_i rt;cases rt;exact AY n a b c U O UB Q hQ.2;exact EP n a b c U O UB Q hQ.2;cases h
def rP{α:Type}(f:Nat->Option α):Nat->Nat->Option α
 |_,0=>none
 |s,k+1=>match f s with
  |some r=>some r
  |none=>rP f (s+1) k
def orQ(a b c U O:Cg)(g:Nat->Int->Option (List (Nat×Int)))(d:Nat)(W:Int)(q:Nat):Option (List (Nat×Int)):=
 if max W (U (GD (quB n a b c d) n q))>O (GD (quB n a b c d) n q) then none else
  match g (d ||| 2^GD (quB n a b c d) n q) (max W (U (GD (quB n a b c d) n q))) with
  |some l=>some (l++[(GD (quB n a b c d) n q,max W (U (GD (quB n a b c d) n q)))])
  |none=>none
end
def orF(n:Nat)(a b c U O:Cg):Nat->Nat->Int->Option (List (Nat×Int))
 | 0,_,_=>none
 |N+1,d,W=>if d=2^n-1 then some [] else rP (orQ n a b c U O (orF n a b c U O N) d W) 0 (quN n a b c d)
def orS(n:Nat)(a b c U O:Cg)(d:Nat)(W:Int):Option (List (Nat×Int)):=orF n a b c U O (2^n) d W
def orL(l:List (Nat×Int)):List Int:=l.map λp=>(p.1:Int)
def dyU:List (Nat×Int)->(Cg)->Nat->Int
 |[],f=>f
 |p::t,f=>dyU t (GE p.1 p.2 f)
section
variable (n:Nat)(a b c U O:Cg)
def orG(d:Nat)(W:Int):List (Nat×Int):=(orS n a b c U O d W).getD []
def orH(x:Value):Prop:= ∃(d:Nat) (W:Int),x= .agg #[.int .i64 d,.int .i64 W]/\d<2^n/\orS n a b c U O d W=none
end
def orV:Value->Value:=λ_=> .bool true
def stK(x:Value):Prop:= ∃(d W:Int),x= .agg #[.int .i64 d,.int .i64 W]
theorem Wm2(l m:List Int): ∀k,US (l++m) k=if k<l.length then US l k else US m (k-l.length):=by
 induction l with
 |nil=>intro k;simp
 |cons x l ih=>
  intro k;cases k with
  |zero=>simp [US]
  |succ k=>
   show US (l++m) k=_;rw [ih];simp only [Bj,Nat.add_lt_add_iff_right,Nat.add_sub_add_right];rfl
theorem IQ: ∀{l:List Int} {k:Nat} (h:k<l.length),US l k=l[k]
 |x::l,0,h=>rfl
 |x::l,k+1,h=>IQ (l:=l) (k:=k) (by simpa using h)
theorem rO{α:Type}{f:Nat->Option α}: ∀{k s:Nat},rP f s k=none↔ ∀j,s<=j->j<s+k->f j=none
 | 0,s=>⟨λ_ j h1 h2=>U3,λ_=>rfl⟩
 |k+1,s=>by
  unfold rP;cases h:f s with
  |some r=>exact ⟨λh1=>(by cases h1),λh1=>(by rw [h1 s (Am _) U3] at h;cases h)⟩
  |none=>
   simp only;rw [rO];refine ⟨λh1 j h2 h3=>?_,λh1 j h2 h3=>h1 j U3 U3⟩;rcases (show j=s\/s+1<=j by omega) with rfl|h4
   exact h;exact h1 j h4 U3
theorem T3{α:Type}{f:Nat->Option α}{r:α}{q:Nat}(hq:f q=some r): ∀{k s:Nat},s<=q->q<s+k->(∀j,s<=j->j<q->f j=none)->rP f s k=some r
 | 0,s,h1,h2,_=>U3
 |k+1,s,h1,h2,h3=>by
  unfold rP;rcases (show s=q\/s<q by omega) with rfl|h4
  rw [hq];rw [h3 s (Am _) h4];exact T3 hq h4 U3 (λj h5 h6=>h3 j U3 h6)
theorem MJ{α:Type}{f g:Nat->Option α}: ∀{k s:Nat},(∀j,s<=j->j<s+k->f j=g j)->rP f s k=rP g s k
 | 0,_,_=>rfl
 |k+1,s,h=>by
  unfold rP;rw [h s (Am _) U3,MJ (λj h1 h2=>h j U3 U3)]
theorem C8{n:Nat}(h:n<=8):2^n<=256:=by
 have:=d9 h;have hpn:((2^n:Nat):Int)=2^n:=UE;omega
theorem Za7{n:Nat}{a b c:Cg}{d q:Nat}(h8:n<=8)(hd:d<2^n)(hq:q<quN n a b c d):d<d ||| 2^GD (quB n a b c d) n q:=by
 have hs:=yW hq;have h2:=C8 h8;have hb:OD d (GD (quB n a b c d) n q)=false:=by
  have:=hs.2;unfold quB at this;rw [HV] at this;have h1:=this.1;unfold quB;simpa using h1
 rw [Ww3 U3] at hb;have hle:d<=d ||| 2^GD (quB n a b c d) n q:=Nat.left_le_or
 rcases Nat.lt_or_eq_of_le hle with h|h;exact h;exfalso;have:(d ||| 2^GD (quB n a b c d) n q).testBit (GD (quB n a b c d) n q)=true:=by
  rw [Nat.testBit_or,Nat.testBit_two_pow_self,Bool.or_true]
 rw [←h,hb] at this;cases this
theorem lE{n:Nat}{a b c U O:Cg}(h8:n<=8): ∀(N N' d:Nat) (W:Int),d<2^n->2^n-d<=N->2^n-d<=N'->orF n a b c U O N d W=orF n a b c U O N' d W
 | 0,_,d,_,h1,h2,_=>U3
 |N+1,0,d,_,h1,_,h3=>U3
 |N+1,N'+1,d,W,h1,h2,h3=>by
  simp only [orF];split;rfl;refine MJ λq _ hq=>?_;have hq:q<quN n a b c d:=U3;have hg:=Za7 h8 h1 hq;have hl:=Qg9 h1 (yW hq).1;unfold orQ;rw [lE h8 N N' _ _ hl U3 U3]
section
variable {n:Nat}{a b c U O:Cg}
theorem sL(h8:n<=8){d:Nat}(W:Int)(hd:d<2^n):orS n a b c U O d W=if d=2^n-1 then some [] else rP (orQ n a b c U O (orS n a b c U O) d W) 0 (quN n a b c d):=by
 have h:orS n a b c U O d W=orF n a b c U O (2^n+1) d W:=lE h8 _ _ _ _ hd U3 U3;rw [h];rfl
theorem Wl0(h8:n<=8)(W:Int):orS n a b c U O (2^n-1) W=some []:=by
 have:=C8 h8;have:0<2^n:=Nat.two_pow_pos n;rw [sL h8 W U3,if_pos rfl]
end
theorem Xn8(l:List (Nat×Int))(p:Nat×Int):orL (l++[p])=orL l++[(p.1:Int)]:=by simp [orL]
theorem Qk6: ∀(l:List (Nat×Int)) (p:Nat×Int) (f:Cg),dyU (l++[p]) f=GE p.1 p.2 (dyU l f)
 |[],_,_=>rfl
 |_::t,p,f=>Qk6 t p _
theorem Qh1{n:Nat}{a b c U O:Cg}: ∀(N d:Nat) (W:Int) (l:List (Nat×Int)),orF n a b c U O N d W=some l->l.length<=N
 | 0,_,_,_,h=>by simp [orF] at h
 |N+1,d,W,l,h=>by
  simp only [orF] at h;split at h;cases h;exact Ao _;obtain ⟨q,hq⟩: ∃q,orQ n a b c U O (orF n a b c U O N) d W q=some l:=by
   refine Classical.byContradiction λhno=>?_;rw [rO.2 (λj _ _=>?_)] at h;cases h;cases hj:orQ n a b c U O (orF n a b c U O N) d W j with
   |none=>rfl
   |some r=>
    exfalso;have: ∀(f:Nat->Option (List (Nat×Int))) (k s:Nat) (r:List (Nat×Int)),rP f s k=some r-> ∃q,f q=some r:=by
     intro f k
     induction k with
     |zero=>intro s r h;cases h
     |succ k ih=>
      intro s r h;unfold rP at h;cases hf:f s with
      |some r'=>rw [hf] at h;cases h;exact ⟨s,hf⟩
      |none=>rw [hf] at h;exact ih _ _ h
    exact hno (this _ _ _ _ h)
  unfold orQ at hq;split at hq;cases hq;split at hq;rename_i l' hl';cases hq;have:=Qh1 N _ _ _ hl';rw [Be];simp;omega;cases hq
theorem Qh0(n:Nat)(a b c U O:Cg)(d:Nat)(W:Int):(orG n a b c U O d W).length<=2^n:=by
 unfold orG;cases h:orS n a b c U O d W with
 |none=>exact Ao _
 |some l=>exact Qh1 _ _ _ _ h
theorem SA(d W:Int):RC Tryz.prog 340 stK (.agg #[.int .i64 d,.int .i64 W]) (.bool false):=by
 refine ⟨⟨343,4,(match Tryz.prog.underlying 343 with|some (.struct fs)=>fs|_=>#[]),UD,UD,?_,?_,?_⟩,by simp [Instr.sameBits]⟩
 intro b' w;kernel_rfl;rintro k' ⟨d',day',rfl⟩ w;refine ⟨d==d'&&(W==day'&&true),zQ (P:=Tryz.prog) (e:=BA w w) Op.maxDepth 343 (.agg [i d,i W]) (.agg [i d',i day']) _ _ _ UD (Rep.aggL (UM.cons (.x _) (UM.one (.x _)))) (Rep.aggL (UM.cons (.x _) (UM.one (.x _)))),λh=>?_⟩;simp only [Bool.and_true,HV,beq_iff_eq] at h;obtain ⟨rfl,rfl⟩:=h;rfl;intro w;kernel_rfl
theorem Wl1{n:Nat}{a b c U O:Cg}{x:Value}(h:orH n a b c U O x):stK x:=by
 obtain ⟨d,W,h,_⟩:=h;exact ⟨_,_,h⟩
section
variable (n:Nat)(a b c U O:Cg)(ea la:AV)
def OM(d:Nat)(W:Int)(ord:List Int)(dy:Cg)(oa:Option Addr)(ol oc:Nat)(da:Option Addr)(dl dc:Nat):HO:=[(3,.cells 22 [.row 900]),(3,.cells 22 [.x (.slice oa ol oc)]),(900,.row 3 1 ord.length (λj=>[i (US ord j)])),(5,.memo (orH n a b c U O) orV),(7,.row 3 1 n (λj=>[i (dy j)])),(0,.keep 134 [.ro [i 4,i 10,sls n a b c U O,ea,la]]),(1,.keep 340 [.mp 5]),(2,.keep 341 [.fn (.func 237) [] [.ptr 0 0,.ptr 1 0,.ptr 2 0,.ptr 3 0,.ptr 4 0]]),(4,.cells 22 [.row 7]),(4,.cells 22 [.x (.slice da dl dc)])]
def OT_(d:Nat)(W:Int)(ord:List Int)(dy:Cg)(oa:Option Addr)(ol oc:Nat)(da:Option Addr)(dl dc:Nat)(l:List (Nat×Int)):St:={σ:=[],m:=[(3,.cells 22 [.row 900]),(900,.row 3 1 (ord++orL l).length (λj=>[i (US (ord++orL l) j)])),(5,.memo (orH n a b c U O) orV),(7,.row 3 1 n (λj=>[i ((dyU l dy) j)])),(0,.keep 134 [.ro [i 4,i 10,sls n a b c U O,ea,la]]),(1,.keep 340 [.mp 5]),(2,.keep 341 [.fn (.func 237) [] [.ptr 0 0,.ptr 1 0,.ptr 2 0,.ptr 3 0,.ptr 4 0]]),(4,.cells 22 [.row 7]),(4,.cells 22 [.x (.slice da dl dc)])],nx:=901,sv:=[[.ptr 0 0,.ptr 1 0,.ptr 2 0,.ptr 3 0,.ptr 4 0]] }
def OF_(d:Nat)(W:Int)(ord:List Int)(dy:Cg)(oa:Option Addr)(ol oc:Nat)(da:Option Addr)(dl dc:Nat):St:={σ:=[],m:=[(3,.cells 22 [.row 900]),(3,.cells 22 [.x (.slice oa ol oc)]),(900,.row 3 1 ord.length (λj=>[i (US ord j)])),(5,.memo (orH n a b c U O) orV),(7,.row 3 1 n (λj=>[i (dy j)])),(0,.keep 134 [.ro [i 4,i 10,sls n a b c U O,ea,la]]),(1,.keep 340 [.mp 5]),(2,.keep 341 [.fn (.func 237) [] [.ptr 0 0,.ptr 1 0,.ptr 2 0,.ptr 3 0,.ptr 4 0]]),(4,.cells 22 [.row 7]),(4,.cells 22 [.x (.slice da dl dc)])],nx:=901,sv:=[[.ptr 0 0,.ptr 1 0,.ptr 2 0,.ptr 3 0,.ptr 4 0]] }
end
def S8:List (Nat×Nat)->Bool
 |[]=>true
 |(x,y)::t=>match Nat.beq x y with
  |true=>S8 t
  |false=>false
def Xp2:H9->Bool
 | .aka _ _ _ _ _=>true
 |_=>false
def sT:HO->HO
 |[]=>[]
 |(k,r)::t=>match Xp2 r with
  |true=>sT t
  |false=>(k,r)::sT t
def zI(k:Nat)(g:Ci):List Int:=(List.range k).map (col 0 g)
def oZ(n:Nat)(a b c U O:Cg)(N:Nat):DK:=λavs m nx sv=>match avs with
 |[.agg [.x (.int .i64 d),.x (.int .i64 W)],.ptr k z0,.ptr g z1,.ptr f z2,.ptr o z3,.ptr dd z4]=>match DY m k,DY m g,DY m f,DY m o,DY m dd with
  |some (.keep Tk [.ro [c1,c2,sl,ea,la]]),some (.keep Tg [.mp mg]),some (.keep Tf [.fn (.func fg) [] [.ptr k' y0,.ptr g' y1,.ptr f' y2,.ptr o' y3,.ptr d' y4]]),some (.cells To [.row q]),some (.cells Td [.row r])=>match DY m mg,DY m q,DY m r with
   |some (.memo h ff),some (.row T1 s1 k1 g1),some (.row T2 s2 k2 g2)=>
    match S8 [(z0,0),(z1,0),(z2,0),(z3,0),(z4,0),(y0,0),(y1,0),(y2,0),(y3,0),(y4,0),(Tk,134),(Tg,340),(Tf,341),(To,22),(Td,22),(fg,237),(k,k'),(g,g'),(f,f'),(o,o'),(dd,d'),(T1,3),(s1,1),(T2,3),(s2,1)]&&(!Nat.beq q r&& !Nat.beq o dd) with
    |true=>some (.needT [c1=i 4,c2=i 10,sl=sls n a b c U O,∀x,h x->orH n a b c U O x/\ff x=orV x,G0 1 k1 g1,G0 1 k2 g2,k2=n,0<=d/\d<2^n,2^n-d.toNat<=N,0<=W/\W<=100,k1<=1000]
      (.branch (orS n a b c U O d.toNat W).isSome
       (.leaf (.lit true,(nx,.row 3 1 (zI k1 g1++orL (orG n a b c U O d.toNat W)).length (λj=>[i (US (zI k1 g1++orL (orG n a b c U O d.toNat W)) j)]))::wG (wG (wG (kL (sT m) q) o (.cells 22 [.row nx])) r (.row 3 1 n (λj=>[i (dyU (orG n a b c U O d.toNat W) (col 0 g2) j)]))) mg (.memo (orH n a b c U O) orV),nx+1,sv))
       (.leaf (.lit false,wG (wG (wG (sT m) q (.row 3 1 k1 g1)) r (.row 3 1 n g2)) mg (.memo (orH n a b c U O) orV),nx,sv))))
    |false=>none
   |_,_,_=>none
  |_,_,_,_,_=>none
 |_=>none
theorem Js5{l:List Int}{x:Int}{j:Nat}(h:j<l.length+1):GX l.length (λj=>[i (US l j)]) (UO 1 [i x]) j=[i (US (l++[x]) j)]:=by
 rw [Wm2];show HX (decide (j<l.length)) _ (UO 1 [i x] (j-l.length))=_;rw [show j-l.length=0 by omega]
 by_cases hj:j<l.length;rw [decide_eq_true hj,if_pos hj];rfl;rw [decide_eq_false hj,if_neg hj];rfl
theorem pV(n:Nat)(f:Cg):G0 1 n (λj=>[i (f j)]):=λj _=>rfl
theorem aW(l:List Int):zI l.length (λj=>[i (US l j)])=l:=by
 unfold zI;apply List.ext_getElem?;intro j;rcases An j l.length with hj|hj;rw [Bn,List.getElem?_range hj,DP U3];simp only [Bt,D0];unfold col;show US l j=l[j];exact IQ U3;rw [Br (by simp;omega),Br U3]
abbrev QN:AV:=AV.fn (Fn.func 237) [] [ptr 0 0,ptr 1 0,ptr 2 0,ptr 3 0,ptr 4 0]
section
variable (n:Nat)(a b c U O:Cg)(ea la:AV)(d:Nat)(W:Int)(ord:List Int)(dy:Cg)(oa:Option Addr)(ol oc:Nat)(da:Option Addr)(dl dc:Nat)
def Xj2(N:Nat):St:={σ:=[agg [iI (d:Int),iI W],ptr 0 0,ptr 1 0,ptr 2 0,ptr 3 0,ptr 4 0,ptr 901 0,ptr 902 0]++D6 14 [AV.fn (Fn.func 171) [] [AV.ro [QQ n a b c U O ea la],AV.ro [iI (d:Int)]]]++D6 33 [],m:=[(902,H9.cells 4 [AV.x (WP)]),(901,H9.cells 343 [iI (d:Int),iI W]),(3,H9.cells 22 [AV.row 900]),(3,H9.cells 22 [AV.x (.slice oa ol oc)]),(900,H9.row 3 1 (List.length ord) λj=>[iI (US ord j)]),(5,H9.memo (λx=>orH n a b c U O x) λa=>Value.bool true),(7,H9.row 3 1 n λj=>[iI (dy j)]),(0,H9.keep 134 [QQ n a b c U O ea la]),(1,H9.keep 340 [AV.mp 5]),(2,H9.keep 341 [QN]),(4,H9.cells 22 [AV.row 7]),(4,H9.cells 22 [AV.x (.slice da dl dc)])],nx:=915,sv:=[[ptr 0 0,ptr 1 0,ptr 2 0,ptr 3 0,ptr 4 0]] }
noncomputable def Kc0:Code:=EE (UC (UP Tryz.f237) 0)
noncomputable def Jz9:Code:=ED (UC (UP Tryz.f237) 0)
def Wq2(N:Nat)(k:Nat):St:={σ:=HI [(8,.top),(9,.top),(10,.top)] (Xj2 n a b c U O ea la d W ord dy oa ol oc da dl dc N).σ,m:=[(902,.cells 4 [.x (.bool false)]),(901,.cells 343 [i d,i W]),(3,.cells 22 [.row 900]),(3,.cells 22 [.x (.slice oa ol oc)]),(900,.row 3 1 ord.length (λj=>[i (US ord j)])),(5,.memo (orH n a b c U O) orV),(7,.row 3 1 n (λj=>[i (dy j)])),(0,.keep 134 [.ro [i 4,i 10,sls n a b c U O,ea,la]]),(1,.keep 340 [.mp 5]),(2,.keep 341 [.fn (.func 237) [] [.ptr 0 0,.ptr 1 0,.ptr 2 0,.ptr 3 0,.ptr 4 0]]),(4,.cells 22 [.row 7]),(4,.cells 22 [.x (.slice da dl dc)])],nx:=920,sv:=[[.ptr 0 0,.ptr 1 0,.ptr 2 0,.ptr 3 0,.ptr 4 0]] }
def uS(N:Nat)(k:Nat):GR->Option St
 | .normal=>some {σ:=HI [(8,.top),(9,.top),(10,.top)] (Xj2 n a b c U O ea la d W ord dy oa ol oc da dl dc N).σ,m:=[(902,.cells 4 [.x (.bool false)]),(901,.cells 343 [i d,i W]),(3,.cells 22 [.row 900]),(3,.cells 22 [.x (.slice oa ol oc)]),(900,.row 3 1 ord.length (λj=>[i (US ord j)])),(5,.memo (orH n a b c U O) orV),(7,.row 3 1 n (λj=>[i (dy j)])),(0,.keep 134 [.ro [i 4,i 10,sls n a b c U O,ea,la]]),(1,.keep 340 [.mp 5]),(2,.keep 341 [.fn (.func 237) [] [.ptr 0 0,.ptr 1 0,.ptr 2 0,.ptr 3 0,.ptr 4 0]]),(4,.cells 22 [.row 7]),(4,.cells 22 [.x (.slice da dl dc)])],nx:=920,sv:=[[.ptr 0 0,.ptr 1 0,.ptr 2 0,.ptr 3 0,.ptr 4 0]] }
 | .ret=>some {σ:=HI [(8,.top),(9,.top),(10,.top)] (Xj2 n a b c U O ea la d W ord dy oa ol oc da dl dc N).σ,m:=[(902,.cells 4 [.lit true]),(901,.cells 343 [i d,i W]),(3,.cells 22 [.row 900]),(900,.row 3 1 (ord++orL (orG n a b c U O d W)).length (λj=>[i (US (ord++orL (orG n a b c U O d W)) j)])),(5,.memo (orH n a b c U O) orV),(7,.row 3 1 n (λj=>[i ((dyU (orG n a b c U O d W) dy) j)])),(0,.keep 134 [.ro [i 4,i 10,sls n a b c U O,ea,la]]),(1,.keep 340 [.mp 5]),(2,.keep 341 [.fn (.func 237) [] [.ptr 0 0,.ptr 1 0,.ptr 2 0,.ptr 3 0,.ptr 4 0]]),(4,.cells 22 [.row 7]),(4,.cells 22 [.x (.slice da dl dc)])],nx:=920,sv:=[[.ptr 0 0,.ptr 1 0,.ptr 2 0,.ptr 3 0,.ptr 4 0]] }
 |_=>none
def Zx6(N:Nat):CT:= .branch (orS n a b c U O d W).isSome (.leaf (.ret,(uS n a b c U O ea la d W ord dy oa ol oc da dl dc N 0 .ret).getD (Xj2 n a b c U O ea la d W ord dy oa ol oc da dl dc N))) (.leaf (.normal,(uS n a b c U O ea la d W ord dy oa ol oc da dl dc N 0 .normal).getD (Xj2 n a b c U O ea la d W ord dy oa ol oc da dl dc N)))
def Zf3(N:Nat):G5:=H4 [(.cell 3 0,900,3,1)] (D1 (Wq2 n a b c U O ea la d W ord dy oa ol oc da dl dc N (0)) (Zx6 n a b c U O ea la d W ord dy oa ol oc da dl dc N))
end
abbrev ZZ:Prop:=AV.row 900=AV.row 900
abbrev JC:Prop:=AV.row 7=AV.row 7
abbrev JR:Prop:=AV.mp 5=AV.mp 5
abbrev K6(ord:List Int):Prop:=List.length ord=List.length ord
abbrev KZ:Prop:=ptr 901 0=ptr 901 0
abbrev Y0:Prop:=ptr 902 0=ptr 902 0
theorem Jl4(n:Nat)(a b c U O:Cg)(ea la:AV)(d:Nat)(W:Int)(ord:List Int)(dy:Cg)(oa:Option Addr)(ol oc:Nat)(da:Option Addr)(dl dc:Nat)(N:Nat)(UB:sV n a b c U O)(UY:d<2^n/\d≠2^n-1)(DF:2^n-d<=N+1)(FS:0<=W/\W<=100)(qQ:ord.length<=1000)(jF:GT U8 237 (oZ n a b c U O N)):D3 U8 (.rangeFunc (rfF (UC (UP Tryz.f237) 0)) (xP (UC (UP Tryz.f237) 0)) Kc0 Jz9) (Zf3 n a b c U O ea la d W ord dy oa ol oc da dl dc N):=by
 refine L4 [(.cell 3 0,900,3,1)] (X:={R:=[(131,CL)],H:=[(237,(oZ n a b c U O N))] }) (L:=[]) (Ae FP (Ae P4 Aa)) (Ai (Af S0 Ab) (Ag jF Ac)) UI UN (V:=Nat) (Wq2 n a b c U O ea la d W ord dy oa ol oc da dl dc N) (λk=>k<=(quN n a b c d)/\ ∀j,j<k->orQ n a b c U O (orS n a b c U O) d W j=none) (λk=>k) (uS n a b c U O ea la d W ord dy oa ol oc da dl dc N) (x0:=0) ⟨Ao _,λj h=>absurd h (Aq _)⟩ rfl ?_ ?_ ?_ ?_ (g:=171) (caps:=[.ro [.ro [i 4,i 10,sls n a b c U O,ea,la]],.ro [i d]]) UD UD (uN ea la n a b c U O d UB (wB UB.1 UY.1)) (λ_=>rfl) ?_;rintro k;kernel_rfl;rintro k y E h;unfold uS at h;split at h;cases h;kernel_rfl;cases h;kernel_rfl;cases h;rintro k;rfl;rintro k y E h;unfold uS at h;split at h;cases h;rfl;cases h;rfl;cases h;rintro Q hQ k hx;refine ⟨λhlt=>⟨(k+1),rfl,?_⟩,λB0=>?_⟩;(with_reducible refine F4 (t:=let z5:=(quB n a b c (d:Int));let z3:=(GD z5 n k);let z6:=(UJ (AV.fn (Fn.func 171) [] [AV.ro [QQ n a b c U O ea la],AV.ro [iI (d:Int)]]));let z10:=(zI (List.length ord) λj=>[i (US ord j)]);let z1:=(BitVec.toNat (BitVec.ofInt 64 (d:Int) ||| BitVec.ofInt 64 ((1:Int)*2^GD z5 n k)));let z8:=(IntKind.wrap IntKind.i64 (z1:Int));let z4:=(orG n a b c U O (Int.toNat z8) (max W (U z3)));let z9:=(orG n a b c U O d W);let z7:=orH n a b c U O;let z0:=(need [G7 z3 n] (need [GD z5 n k<n] (need [UJ (agg [iI (d:Int),iI W]),QO,XN,ZD,ZI,W9,KZ,Y0,z6,UJ (AV.lit true),UJ (d:Int),W=W,ZZ,List.length (z10++orL z4)+1=List.length (ord++orL z9),∀(i:Nat),i<List.length (ord++orL z9)->GX (List.length ((zI (List.length ord) λj=>[iI (US ord j)])++orL z4)) (λj=>[iI (US ((zI (List.length ord) λj=>[iI (US ord j)])++orL z4) j)]) (UO 1 [iI (z3:Int)]) i=[iI (US (ord++orL z9) i)],∀(k:Value),z7 k->z7 k/\orV k=orV k,n=n,∀(i:Nat),i<n->HX (decide (i=GD z5 n k)) [iI (max W (U z3))] [iI (dyU z4 dy i)]=[iI (dyU z9 dy i)],ZP n a b c U O ea la,JR,QN=QN,JC,UJ (AV.x (.slice da dl dc)),QO,XN,ZD,ZI,W9] (leaf GR.ret))));let z2:=(need [UJ (agg [iI (d:Int),iI W]),QO,XN,ZD,ZI,W9,KZ,Y0,z6,false=false,UJ (d:Int),W=W,ZZ,UJ (AV.x (.slice oa ol oc)),K6 ord,∀(i:Nat),i<List.length ord->[iI (US ord i)]=[iI (US ord i)],∀(k:Value),z7 k->z7 k/\orV k=orV k,n=n,∀(i:Nat),i<n->[iI (dy i)]=[iI (dy i)],ZP n a b c U O ea la,JR,QN=QN,JC,UJ (AV.x (.slice da dl dc)),QO,XN,ZD,ZI,W9] (leaf GR.normal));(branch (decide (max W (U z3)>O z3)) z2 (need [(0:Int)<=(z3:Int)/\(z3:Int)<=64,U5 ((1:Int)*2^GD z5 n k)] (need [UJ (iI 4),UJ (iI 10),W7 n a b c U O,∀(x:Value),z7 x->z7 x/\orV x=orV x,G0 1 (List.length ord) λj=>[i (US ord j)],G0 1 n λj=>[i (dy j)],n=n,(0:Int)<=IntKind.wrap IntKind.i64 (z1:Int)/\IntKind.wrap IntKind.i64 (z1:Int)<2^n,2^n-Int.toNat z8<=N,(0:Int)<=max W (U z3)/\max W (U z3)<=100,List.length ord<=1000] (branch (Option.isSome (orS n a b c U O (Int.toNat z8) (max W (U z3)))) (need [(List.length (z10++orL z4)+1)*8<=140737488355328,L0 1 (UO 1 [iI (z3:Int)])] (U6.may True z0 (U6.may True z0 z0))) z2))))) UD ?_)
 simp only [Zx6,uS,U6.sat,HF] at hQ;obtain ⟨x1,x2⟩:=hx;have h8:=UB.1;have hd:=UY.1;have hd2:=wB h8 hd;have hpn:((2^n:Nat):Int)=2^n:=UE;have h256:=C8 h8;have hs:=yW hlt;have hor:=Wk8 h8 hd hs.1;have hol:=Qg9 hd hs.1;have hgt:=Za7 h8 hd hlt;have hsv:=Qf8 UB hs.1;have h2s:(1:Int)<=2^GD (quB n a b c d) n k/\(2:Int)^GD (quB n a b c d) n k<=256:=d9 U3;have qW:orS n a b c U O d W=rP (orQ n a b c U O (orS n a b c U O) d W) 0 (quN n a b c d):=by
  rw [sL h8 W hd,if_neg UY.2]
 simp only [U6.sat,UU,G4,hor,FA,HU,aW]
 have Qw4:((d ||| 2^GD (quB n a b c d) n k:Nat):Int)<2^n:=by
  have h:((d ||| 2^GD (quB n a b c d) n k:Nat):Int)<((2^n:Nat):Int):=Int.ofNat_lt.2 hol
  rwa [hpn] at h
 have Zb5:orQ n a b c U O (orS n a b c U O) d W k=none-> ∀j,j<k+1->orQ n a b c U O (orS n a b c U O) d W j=none:=by
  intro h1 j h2;rcases (show j=k\/j<k by omega) with rfl|h3
  exact h1;exact x2 j h3
 have hQe:orQ n a b c U O (orS n a b c U O) d W k=(if max W (U (GD (quB n a b c d) n k))>O (GD (quB n a b c d) n k) then none else match orS n a b c U O (d ||| 2^GD (quB n a b c d) n k) (max W (U (GD (quB n a b c d) n k))) with
   |some l=>some (l++[(GD (quB n a b c d) n k,max W (U (GD (quB n a b c d) n k)))])
   |none=>none):=rfl
 have dV: ¬max W (U (GD (quB n a b c d) n k))>O (GD (quB n a b c d) n k)->(orS n a b c U O (d ||| 2^GD (quB n a b c d) n k) (max W (U (GD (quB n a b c d) n k)))).isSome=true->
   (orS n a b c U O d W).isSome=true/\orG n a b c U O d W=orG n a b c U O (d ||| 2^GD (quB n a b c d) n k) (max W (U (GD (quB n a b c d) n k)))++[(GD (quB n a b c d) n k,max W (U (GD (quB n a b c d) n k)))]:=by
  intro h1 h2;obtain ⟨l,hl⟩:=Option.isSome_iff_exists.1 h2;rw [if_neg h1,hl] at hQe;have h3:orS n a b c U O d W=some (l++[(GD (quB n a b c d) n k,max W (U (GD (quB n a b c d) n k)))]):=by
   rw [qW];exact T3 (q:=k) hQe (Ao _) U3 (λj _ h4=>x2 j h4)
  unfold orG;rw [h3,hl];exact ⟨rfl,rfl⟩
 have hk1:k+1<=quN n a b c d:=hlt;have hc1: ∀x:Int,∀(j:Nat),j<1-> ∀y,y∈UO 1 [iI x] j->AV.one y=true:=λx j _ y hy=>FK hy (by simp [AV.one,Value.oneCell'])
 have hGl:=Qh0 n a b c U O (d ||| 2^GD (quB n a b c d) n k) (max W (U (GD (quB n a b c d) n k)))
 have hoL: ∀l:List (Nat×Int),(orL l).length=l.length:=λl=>by simp [orL]
 refine ⟨λh=>?_,λh=>?_⟩;have hno:orQ n a b c U O (orS n a b c U O) d W k=none:=by
  rw [hQe,if_pos h]
 exact ⟨⟨λ_ _=>trivial,λ_ h=>h,λ_ _=>trivial⟩,hk1,Zb5 hno⟩;refine ⟨⟨⟨U3,U3⟩,by simp only [U5,Int.one_mul];omega⟩,⟨λ_ h=>h,pV _ _,pV _ _,⟨U3,Qw4⟩,U3,⟨U3,U3⟩,qQ⟩,λh2=>?_,λh2=>?_⟩
 ·obtain ⟨g1,g2⟩:=dV U3 h2;rw [g2];have hln:(ord++orL (orG n a b c U O (d ||| 2^GD (quB n a b c d) n k) (max W (U (GD (quB n a b c d) n k))))).length<=2000:=by
   rw [Be,hoL];omega
  have hap:ord++orL (orG n a b c U O (d ||| 2^GD (quB n a b c d) n k) (max W (U (GD (quB n a b c d) n k)))++[(GD (quB n a b c d) n k,max W (U (GD (quB n a b c d) n k)))])=(ord++orL (orG n a b c U O (d ||| 2^GD (quB n a b c d) n k) (max W (U (GD (quB n a b c d) n k)))))++[((GD (quB n a b c d) n k:Nat):Int)]:=by
   rw [Xn8,List.append_assoc]
  have hdy:dyU (orG n a b c U O (d ||| 2^GD (quB n a b c d) n k) (max W (U (GD (quB n a b c d) n k)))++[(GD (quB n a b c d) n k,max W (U (GD (quB n a b c d) n k)))]) dy=GE (GD (quB n a b c d) n k) (max W (U (GD (quB n a b c d) n k))) (dyU (orG n a b c U O (d ||| 2^GD (quB n a b c d) n k) (max W (U (GD (quB n a b c d) n k)))) dy):=Qk6 _ _ _
  rw [hap,hdy];refine ⟨⟨U3,hc1 _⟩,?_⟩;have hin:(0<=((GD (quB n a b c d) n k:Nat):Int)/\((GD (quB n a b c d) n k:Nat):Int)<n):=⟨U3,by have:=hs.1;omega⟩
  have hrw: ∀j,j<((ord++orL (orG n a b c U O (d ||| 2^GD (quB n a b c d) n k) (max W (U (GD (quB n a b c d) n k)))))++[((GD (quB n a b c d) n k:Nat):Int)]).length->j<(ord++orL (orG n a b c U O (d ||| 2^GD (quB n a b c d) n k) (max W (U (GD (quB n a b c d) n k))))).length+1:=λj hj=>by
   rw [Be] at hj;simpa using hj
  (with_reducible repeat' first|apply Al|intro _)
  all_goals first|exact Ak|exact hin.1|exact hin.2|exact hs.1|(rename_i E hE;cases hE;exact hQ.1 g1)|rfl|exact Js5 (hrw _ (by assumption))|exact hU|(rw [Be (bs:=[_])];rfl)|assumption
 have hno:orQ n a b c U O (orS n a b c U O) d W k=none:=by
  rw [hQe,if_neg U3];cases ho:orS n a b c U O (d ||| 2^GD (quB n a b c d) n k) (max W (U (GD (quB n a b c d) n k))) with
  |none=>rfl
  |some l=>rw [ho] at h2;cases h2
 exact ⟨⟨λ_ _=>trivial,λ_ h=>h,λ_ _=>trivial⟩,hk1,Zb5 hno⟩;have hk:k=quN n a b c d:=U3;subst hk;simp only [Zx6,uS,U6.sat,HF] at hQ;refine hQ.2 ?_;rw [sL UB.1 W UY.1,if_neg UY.2,rO.2 (λj _ hj=>hx.2 j U3)];rfl
theorem IP{x y:Nat}{t:List (Nat×Nat)}:S8 ((x,y)::t)=true↔x=y/\S8 t=true:=by
 show (match Nat.beq x y with|true=>S8 t|false=>false)=true↔_
 cases h:Nat.beq x y with
 |true=>simp [HK h]
 |false=>
  simp only [Bw,false_iff,not_and];intro he;rw [he,Nat.beq_refl] at h;cases h
theorem IS{m:HO}{p:Nat×H9}(h:p∈sT m):p∈m/\Xp2 p.2=false:=by
 induction m with
 |nil=>cases h
 |cons q t ih=>
  obtain ⟨k,r⟩:=q;unfold sT at h;split at h;exact ⟨DB _ (ih h).1,(ih h).2⟩;rename_i hb;rcases HA.1 h with rfl|h;exact ⟨H0,hb⟩;exact ⟨DB _ (ih h).1,(ih h).2⟩
theorem LV{m:HO}{id:Nat}{p:Nat×H9}(h:p∈kL m id):p∈m/\p.1≠id:=by
 induction m with
 |nil=>cases h
 |cons q t ih=>
  obtain ⟨k,r⟩:=q;unfold kL at h;split at h;exact ⟨DB _ (ih h).1,(ih h).2⟩;rename_i hb;rcases HA.1 h with rfl|h;refine ⟨H0,?_⟩;rintro rfl;simp at hb;exact ⟨DB _ (ih h).1,(ih h).2⟩
theorem Qs3{e:G8}{w:World}{id o n:Nat}{f:Ci}(h:Jx6 e w id o 3 1 n f)(hr:G0 1 n f):w.ownsRow 0 3 1 (e.val id) n ((zI n f).map (Value.int .i64)):=by
 obtain ⟨h2,hf,xs,h3,h4⟩:=h;have hx:xs=(zI n f).map (Value.int .i64):=by
  apply List.ext_getElem?;intro j;unfold zI;have hl:xs.length=n*1:=h3.1;rcases An j n with hj|hj;have hx:xs[j]? =some xs[j]:=DP U3;have e1:(f j)[0]? =some (iI (col 0 f j)):=by
   rw [hr j hj];rfl
  have:=h4 j 0 _ xs[j] hj e1 (by rw [show j*1+0=j by omega];exact hx)
  rw [hx,this.x_inv];simp [hj];rw [Br U3,Br (by simp;omega)]
 subst hx;exact h3
theorem wH{e:G8}{w:World}{id n:Nat}{f:Ci}(h:H2 e w id (.row 3 1 n f))(hr:G0 1 n f):w.ownsRow 0 3 1 (e.val id) n ((zI n f).map (Value.int .i64)):=Qs3 (o:=id) h.2 hr
theorem Qg8(n:Nat)(f:Cg):zI n (λj=>[i (f j)])=(List.range n).map f:=rfl
theorem zN{e:G8}{w:World}{id n:Nat}{f:Cg}{ov:Value}{l:List Int}(hl:e.live id)(hv:e.val id=ov)(hob: ∀x,ov.ownBlock=some x->e.own x=some id)(DJ:l.length=n)(hf: ∀j,j<n->l[j]? =some (f j))(ho:w.ownsRow 0 3 1 ov n (l.map (Value.int .i64))):H2 e w id (.row 3 1 n (λj=>[i (f j)])):=by
 subst hv;refine ⟨hl,hob,λi O=>⟨rfl,λa ha=>by rw [BE.1 ha];exact .x _⟩,_,ho,λi j a v O ha hv=>?_⟩
 cases j with
 |zero=>
  simp only [List.getElem?_cons_zero,D0] at ha;subst ha;rw [show i*1+0=i by omega,Bn,hf i O] at hv
  simp only [Bt,D0] at hv;rw [←hv];exact .x _
 |succ j=>simp at ha
theorem Qh4{l:List Int}{j:Nat}(h:j<l.length):l[j]? =some (US l j):=by
 rw [IQ h,DP h]
theorem EO{n:Nat}{f:Cg}{j:Nat}(h:j<n):((List.range n).map f)[j]? =some (f j):=by
 rw [Bn,List.getElem?_range h];rfl
abbrev PH(b:Nat):Value:= .pointer (some ⟨b,0,none⟩)
abbrev Zr6(bk bg bf bo bd:Nat):Value:= .func (.func 237) #[] #[PH bk,PH bg,PH bf,PH bo,PH bd]
def Qq1(n:Nat)(a b c U O:Cg)(N:Nat):Prop:= ∀(ea la:AV) (d:Nat) (W:Int) (ord:List Int) (dy:Cg) (oa:Option Addr) (ol oc:Nat) (da:Option Addr) (dl dc:Nat),d<2^n->2^n-d<=N->(0<=W/\W<=100)->ord.length<=1000->
 Xi2 U8 237 [.agg [i d,i W],.ptr 0 0,.ptr 1 0,.ptr 2 0,.ptr 3 0,.ptr 4 0] (OM n a b c U O ea la d W ord dy oa ol oc da dl dc) 901 [[.ptr 0 0,.ptr 1 0,.ptr 2 0,.ptr 3 0,.ptr 4 0]] (OT_ n a b c U O ea la d W ord dy oa ol oc da dl dc (orG n a b c U O d W)) (OF_ n a b c U O ea la d W ord dy oa ol oc da dl dc) (orS n a b c U O d W).isSome
theorem Qg0{w:World}{ov:Value}{n:Nat}{xs:List Value}(h:w.ownsRow 0 3 1 ov n xs){b:Nat}(hb:ov.ownBlock=some b):b<w.heap.size:=(h.lt b hb).2
theorem Wk7{n:Nat}{a b c U O:Cg}{N:Nat}(hs:Qq1 n a b c U O N){d:Nat}{W:Int}{ord:List Int}{dy:Cg}(h1:d<2^n)(h2:2^n-d<=N)(h3:0<=W/\W<=100)(h4:ord.length<=1000)
  {w:World}{bk bg bf bo bd bm:Nat}{rb dv ov:Value}{ea la:AV}{R:G8}{es:Array MapEntry}{cn:Nat}(hgl:DQ R w)
  (hk:w.heap[bk]? =some (.cells #[rb] 134 (0,0)))(hg:w.heap[bg]? =some (.cells #[.map (some bm)] 340 (0,0)))(hf:w.heap[bf]? =some (.cells #[Zr6 bk bg bf bo bd] 341 (0,0)))(hdb:w.heap[bd]? =some (.cells #[dv] 22 (0,0)))
  (ho:w.heap[bo]? =some (.cells #[ov] 22 (0,0)))(hm:w.heap[bm]? =some (.map es cn))(hes: ∀x∈es.toList,orH n a b c U O x.key/\x.val=orV x.key)
  (M7:w.ownsRow 0 3 1 ov ord.length (ord.map (Value.int .i64)))(Zb6:w.ownsRow 0 3 1 dv n (((List.range n).map dy).map (Value.int .i64)))(hov: ∃p q r,ov= .slice p q r)(hdv: ∃p q r,dv= .slice p q r)
  (hobm:bo≠bm)(hobd:bo≠bd)(hmbd:bm≠bd)(hoo: ∀x,ov.ownBlock=some x->x≠bo/\x≠bm/\x≠bd/\dv.ownBlock≠some x)(hdo: ∀x,dv.ownBlock=some x->x≠bo/\x≠bm/\x≠bd)
  (hR:Rep R w (.ro [i 4,i 10,sls n a b c U O,ea,la]) rb)(hro: ∀x,R.ro x->x<w.heap.size/\x≠bo/\x≠bm/\x≠bd/\ov.ownBlock≠some x/\dv.ownBlock≠some x)(rk:R.ro bk)(rg:R.ro bg)(rf:R.ro bf):
  Calls Tryz.prog 237 #[.agg #[.int .i64 d,.int .i64 W],PH bk,PH bg,PH bf,PH bo,PH bd] w λen w1=>en= .returned (.bool (orS n a b c U O d W).isSome)/\w.heap.size<=w1.heap.size/\w1.os=w.os/\w1.tape=w.tape/\w1.output=w.output/\
   (∀x,x<w.heap.size->x≠bo->x≠bm->ov.ownBlock≠some x->dv.ownBlock≠some x->w1.heap[x]? =w.heap[x]?)/\(∃(es':Array MapEntry) (c':Nat),w1.heap[bm]? =some (.map es' c')/\ ∀x∈es'.toList,orH n a b c U O x.key/\x.val=orV x.key)/\
   ((orS n a b c U O d W).isSome=false->w1.heap[bo]? =some (.cells #[ov] 22 (0,0))/\w1.ownsRow 0 3 1 ov ord.length (ord.map (Value.int .i64))/\w1.ownsRow 0 3 1 dv n (((List.range n).map dy).map (Value.int .i64)))/\
   ((orS n a b c U O d W).isSome=true-> ∃y',w1.heap[bo]? =some (.cells #[y'] 22 (0,0))/\(∃p q r,y'= .slice p q r)/\w1.ownsRow 0 3 1 y' (ord++orL (orG n a b c U O d W)).length ((ord++orL (orG n a b c U O d W)).map (Value.int .i64))/\
    (∀x,y'.ownBlock=some x->w.heap.size<=x\/ov.ownBlock=some x)/\w1.ownsRow 0 3 1 dv n (((List.range n).map (dyU (orG n a b c U O d W) dy)).map (Value.int .i64))):=by
 have hob:=(B1.1 ho).1;have hmb:=(B1.1 hm).1;have hbb:=(B1.1 hdb).1;obtain ⟨oa,ol,oc,hov⟩:=hov;obtain ⟨da,dl,dc,hdv⟩:=hdv
 let e0:G8:={ro:=λx=>x<w.heap.size/\x≠bo/\x≠bm/\x≠bd/\ov.ownBlock≠some x/\dv.ownBlock≠some x,own:=λx=>if x=bo then some 3 else if x=bm then some 5 else if x=bd then some 4 else if ov.ownBlock=some x then some 900 else if dv.ownBlock=some x then some 7 else none,live:=λk=>k<901,blk:=λk=>if k=0 then bk else if k=1 then bg else if k=2 then bf else if k=3 then bo else if k=4 then bd else bm,val:=λk=>if k=7 then dv else ov}
 let c0:Cx:={M:=λ_=>False,Φ:=λ_ _ _=>True,K:=λx o=>e0.ro x/\w.heap[x]? =some o,saved:=[[PH bk,PH bg,PH bf,PH bo,PH bd]],sz:=w.heap.size}
 let w00:World:={w with heap:=#[] }
 have Wt9: ∀x,R.ro x->e0.ro x:=λx hx=>hro x hx;have o3:e0.own bo=some 3:=if_pos rfl;have o5:e0.own bm=some 5:=by simp [e0,Ne.symm hobm]
 have o4:e0.own bd=some 4:=by simp [e0,Ne.symm hobd,Ne.symm hmbd]
 have o9: ∀x,ov.ownBlock=some x->e0.own x=some 900:=by
  intro x hx;obtain ⟨q1,q2,q2',q3⟩:=hoo x hx;simp [e0,q1,q2,q2',hx]
 have o7: ∀x,dv.ownBlock=some x->e0.own x=some 7:=by
  intro x hx;obtain ⟨q1,q2,q2'⟩:=hdo x hx;have q3:ov.ownBlock≠some x:=λh=>(hoo x h).2.2.2 hx;simp [e0,q1,q2,q2',q3,hx]
 have hE:GK e0 w00.heap.size w:=by
  refine ⟨λx hx=>?_,λx k hk=>⟨Ao _,?_⟩,λq p hp=>?_⟩;obtain ⟨q0,q1,q2,q2',q3,q4⟩:=hx;exact ⟨by simp [e0,q1,q2,q2',q3,q4],q0⟩
  have hk:(if x=bo then some 3 else if x=bm then some 5 else if x=bd then some 4 else if ov.ownBlock=some x then some 900 else if dv.ownBlock=some x then some 7 else none)=some k:=hk
  split at hk;rename_i h;rw [h];exact hob;split at hk;rename_i h;rw [h];exact hmb;split at hk;rename_i h;rw [h];exact hbb;split at hk;rename_i h;exact Qg0 M7 h;split at hk;rename_i h;exact Qg0 Zb6 h;cases hk;obtain ⟨q1,q2⟩:=hgl q p hp;exact ⟨Wt9 _ q1,q2⟩
 have p0:Rep e0 w (.ptr 0 0) (PH bk):= .ptr 0 0 (show 0<901 by omega)
 have p1:Rep e0 w (.ptr 1 0) (PH bg):= .ptr 1 0 (show 1<901 by omega)
 have p2:Rep e0 w (.ptr 2 0) (PH bf):= .ptr 2 0 (show 2<901 by omega)
 have p3:Rep e0 w (.ptr 3 0) (PH bo):= .ptr 3 0 (show 3<901 by omega)
 have p4:Rep e0 w (.ptr 4 0) (PH bd):= .ptr 4 0 (show 4<901 by omega)
 have p9:Rep e0 w (.row 900) ov:=by
  rw [hov];exact .row 900 _ _ _ (show 900<901 by omega) hov
 have p7:Rep e0 w (.row 7) dv:=by
  rw [hdv];exact .row 7 _ _ _ (show 7<901 by omega) hdv
 have p5:Rep e0 w (.mp 5) (.map (some bm)):= .mp 5 (show 5<901 by omega)
 have uE:UM e0 w [.ptr 0 0,.ptr 1 0,.ptr 2 0,.ptr 3 0,.ptr 4 0] [PH bk,PH bg,PH bf,PH bo,PH bd]:= .cons p0 (.cons p1 (.cons p2 (.cons p3 (.cons p4 (.nil _ _)))));have hfn:Rep e0 w (.fn (.func 237) [] [.ptr 0 0,.ptr 1 0,.ptr 2 0,.ptr 3 0,.ptr 4 0]) (Zr6 bk bg bf bo bd):= .fn _ [] _ [] _ rfl (λi a v h=>by simp at h) uE.1 uE.2
 have hrb:Rep e0 w (.ro [i 4,i 10,sls n a b c U O,ea,la]) rb:=by
  refine Rep.idf (e:=R) (e':=e0) Wt9 hR ?_;cases hR with
  |ro l vs b' o' g1 g2 g3 g4 g5 g6=>exact .ro _ g3
 have hM:GH e0 (OM n a b c U O ea la d W ord dy oa ol oc da dl dc) w:=by
  intro p hp;unfold OM at hp;simp only [HA,F8,or_false] at hp;rcases hp with rfl|rfl|rfl|rfl|rfl|rfl|rfl|rfl|rfl|rfl;exact ⟨show 3<901 by omega,o3,[ov],ho,.cons p9 (.nil _ _)⟩
  exact ⟨show 3<901 by omega,o3,[ov],ho,.cons (by rw [hov];exact .x _) (.nil _ _)⟩
  exact zN (show 900<901 by omega) rfl o9 rfl (λj hj=>Qh4 hj) M7
  exact ⟨show 5<901 by omega,o5,es,cn,hm,hes⟩
  exact zN (show 7<901 by omega) rfl o7 UE (λj hj=>EO hj) Zb6
  exact ⟨show 0<901 by omega,Wt9 _ rk,(hro _ rk).1,[rb],hk,.cons hrb (.nil _ _)⟩
  exact ⟨show 1<901 by omega,Wt9 _ rg,(hro _ rg).1,[.map (some bm)],hg,.cons p5 (.nil _ _)⟩
  exact ⟨show 2<901 by omega,Wt9 _ rf,(hro _ rf).1,[Zr6 bk bg bf bo bd],hf,.cons hfn (.nil _ _)⟩
  exact ⟨show 4<901 by omega,o4,[dv],hdb,.cons p7 (.nil _ _)⟩
  exact ⟨show 4<901 by omega,o4,[dv],hdb,.cons (by rw [hdv];exact .x _) (.nil _ _)⟩
 have hX:Xt c0 e0 [[.ptr 0 0,.ptr 1 0,.ptr 2 0,.ptr 3 0,.ptr 4 0]] [] w:=
  ⟨⟨λd hd=>(by cases hd),By⟩,λx o hk=>⟨hk.1,hk.1.1,hk.2⟩,LM.cons uE ⟨rfl,λi a v h=>by simp at h⟩,Am _⟩
 have hA:UM e0 w [.agg [i d,i W],.ptr 0 0,.ptr 1 0,.ptr 2 0,.ptr 3 0,.ptr 4 0] [.agg #[.int .i64 d,.int .i64 W],PH bk,PH bg,PH bf,PH bo,PH bd]:= .cons (Rep.aggL (.cons (.x _) (.cons (.x _) (.nil _ _)))) uE;have RG:=hs ea la d W ord dy oa ol oc da dl dc h1 h2 h3 h4 c0 w00 (λ_=>False) e0 _ w hE ⟨rfl,rfl,rfl,Ao _,λk hk=>absurd hk (Aq _)⟩ hM (λk hk=>hk) (λ_ h=>h.elim) hX rfl hA;refine RG.mono ?_;rintro en w1 ⟨hen,e1,g1,g2,g3,g4,_,g6⟩;have hsz:w.heap.size<=w1.heap.size:=g6.size;have SQ: ∀x,x<w.heap.size->x≠bo->x≠bm->x≠bd->ov.ownBlock≠some x->dv.ownBlock≠some x->e1.ro x/\w1.heap[x]? =w.heap[x]? :=by
  intro x hx n1 n2 n2' n3 n4;have hk:=g6.kept x w.heap[x] ⟨⟨hx,n1,n2,n2',n3,n4⟩,by simp [hx]⟩
  exact ⟨hk.1,by rw [hk.2.2];simp [hx]⟩
 have keptR: ∀x,R.ro x->w1.heap[x]? =w.heap[x]? :=λx hx=>(SQ x (hro x hx).1 (hro x hx).2.1 (hro x hx).2.2.1 (hro x hx).2.2.2.1 (hro x hx).2.2.2.2.1 (hro x hx).2.2.2.2.2).2;have hsv:(cond (orS n a b c U O d W).isSome (OT_ n a b c U O ea la d W ord dy oa ol oc da dl dc (orG n a b c U O d W)) (OF_ n a b c U O ea la d W ord dy oa ol oc da dl dc)).sv=[[.ptr 0 0,.ptr 1 0,.ptr 2 0,.ptr 3 0,.ptr 4 0]]:=by
  cases (orS n a b c U O d W).isSome<;>rfl
 have hsd:=g6.saved;rw [hsv] at hsd;have hs1:=hsd.2 0 _ _ rfl rfl;obtain ⟨v0,l0,q,r0,hs1⟩:=hs1.cons_inv;obtain ⟨rfl,rfl⟩:=List.cons.inj q;obtain ⟨v1,l1,q,r1,hs1⟩:=hs1.cons_inv;obtain ⟨rfl,rfl⟩:=List.cons.inj q;obtain ⟨v2,l2,q,r2,hs1⟩:=hs1.cons_inv;obtain ⟨rfl,rfl⟩:=List.cons.inj q;obtain ⟨v3,l3,q,r3,hs1⟩:=hs1.cons_inv;obtain ⟨rfl,rfl⟩:=List.cons.inj q;obtain ⟨v4,l4,q,r4,_⟩:=hs1.cons_inv;obtain ⟨rfl,rfl⟩:=List.cons.inj q;have ptr_inv: ∀{k x:Nat},Rep e1 w1 (.ptr k 0) (PH x)->e1.blk k=x:=by
  intro k x h;cases h;rfl
 have b1:=ptr_inv r1;have b3:=ptr_inv r3;have b4:=ptr_inv r4;have dU: ∀p,(p∈(OT_ n a b c U O ea la d W ord dy oa ol oc da dl dc (orG n a b c U O d W)).m/\p∈(OF_ n a b c U O ea la d W ord dy oa ol oc da dl dc).m)->H2 e1 w1 p.1 p.2:=by
  intro p hp;refine g3 p ?_;cases (orS n a b c U O d W).isSome;exact hp.2;exact hp.1
 have hbd:w1.heap[bd]? =some (.cells #[dv] 22 (0,0)):=by
  obtain ⟨_,_,vs,q1,q2⟩:=dU (4,.cells 22 [.x (.slice da dl dc)]) ⟨by simp [OT_],by simp [OF_]⟩
  obtain ⟨x,xs,rfl,t1,q2⟩:=q2.cons_inv;obtain rfl:=q2.nil_inv;rw [b4,t1.x_inv,←hdv] at q1;exact q1
 have b7:e1.val 7=dv:=by
  obtain ⟨_,_,vs,q1,q2⟩:=dU (4,.cells 22 [.row 7]) ⟨by simp [OT_],by simp [OF_]⟩
  obtain ⟨x,xs,rfl,t1,q2⟩:=q2.cons_inv;obtain rfl:=q2.nil_inv;rw [b4,hbd] at q1;simp only [D0,Obj.cells.injEq] at q1;have:dv=x:=by simpa using q1.1
  subst this;clear q1 hbd;generalize dv=z at t1;cases t1 with
  |row _ a n c _ hv=>exact hv
 have hsm: ∀x,x<w.heap.size->x≠bo->x≠bm->ov.ownBlock≠some x->dv.ownBlock≠some x->w1.heap[x]? =w.heap[x]? :=by
  intro x hx n1 n2 n3 n4;rcases Classical.em (x=bd) with rfl|n5;rw [hbd,hdb];exact (SQ x hx n1 n2 n5 n3 n4).2
 have b5:e1.blk 5=bm:=by
  obtain ⟨_,_,_,vs,q1,q2⟩:=dU (1,.keep 340 [.mp 5]) ⟨by simp [OT_],by simp [OF_]⟩
  obtain ⟨x,xs,rfl,t1,q2⟩:=q2.cons_inv;obtain rfl:=q2.nil_inv;rw [b1,keptR _ rg,hg] at q1;simp only [D0,Obj.cells.injEq] at q1;have:Value.map (some bm)=x:=by simpa using q1.1
  subst this;cases t1;rfl
 have Jp2: ∃(es':Array MapEntry) (c':Nat),w1.heap[bm]? =some (.map es' c')/\ ∀x∈es'.toList,orH n a b c U O x.key/\x.val=orV x.key:=by
  obtain ⟨_,_,es',c',q1,q2⟩:=dU (5,.memo (orH n a b c U O) orV) ⟨by simp [OT_],by simp [OF_]⟩
  rw [b5] at q1;exact ⟨es',c',q1,q2⟩
 refine ⟨hen,hsz,g2.os,g2.tape,g2.output,hsm,Jp2,λhb=>?_,λhb=>?_⟩;rw [hb] at g3;have k3:=g3 (3,.cells 22 [.row 900]) (by simp [OF_])
 have k3':=g3 (3,.cells 22 [.x (.slice oa ol oc)]) (by simp [OF_])
 have k9:=g3 (900,.row 3 1 ord.length (λj=>[i (US ord j)])) (by simp [OF_])
 have k7:=g3 (7,.row 3 1 n (λj=>[i (dy j)])) (by simp [OF_])
 obtain ⟨_,_,vs,q1,q2⟩:=k3';obtain ⟨x,xs,rfl,t1,q2⟩:=q2.cons_inv;obtain rfl:=q2.nil_inv;have hx:x=ov:=by rw [hov];exact t1.x_inv
 subst hx;have q1':w1.heap[e1.blk 3]? =some (.cells #[x] 22 (0,0)):=q1;rw [b3] at q1';have h9:e1.val 900=x:=by
  obtain ⟨_,_,vs,u1,u2⟩:=k3;obtain ⟨y,ys,rfl,t2,u2⟩:=u2.cons_inv;obtain rfl:=u2.nil_inv;have u1':w1.heap[e1.blk 3]? =some (.cells #[y] 22 (0,0)):=u1;rw [b3,q1'] at u1';simp only [D0,Obj.cells.injEq] at u1';have:x=y:=by simpa using u1'.1
  subst this;clear q1' u1' q1 u1 t1;generalize x=z at t2;cases t2 with
  |row _ a n c _ hv=>exact hv
 have r9:=wH k9 (pV _ _);have r7:=wH k7 (pV _ _);rw [h9,aW] at r9;rw [b7,Qg8] at r7;exact ⟨q1',r9,r7⟩;rw [hb] at g3;have k3:=g3 (3,.cells 22 [.row 900]) (by simp [OT_])
 have k9:=g3 (900,.row 3 1 (ord++orL (orG n a b c U O d W)).length (λj=>[i (US (ord++orL (orG n a b c U O d W)) j)])) (by simp [OT_])
 have k7:=g3 (7,.row 3 1 n (λj=>[i (dyU (orG n a b c U O d W) dy j)])) (by simp [OT_])
 have k5:=g3 (5,.memo (orH n a b c U O) orV) (by simp [OT_])
 have o3':=k3.2.1;rw [b3] at o3';have o5':=k5.2.1;rw [b5] at o5';obtain ⟨_,_,vs,q1,q2⟩:=k3;obtain ⟨y,ys,rfl,t1,q2⟩:=q2.cons_inv;obtain rfl:=q2.nil_inv;have q1':w1.heap[e1.blk 3]? =some (.cells #[y] 22 (0,0)):=q1;rw [b3] at q1';have hy:(∃p q r,y= .slice p q r)/\e1.val 900=y:=by
  cases t1 with
  |row _ a n c _ hv=>exact ⟨⟨a,n,c,rfl⟩,hv⟩
 have r9:=wH k9 (pV _ _);have r7:=wH k7 (pV _ _);rw [hy.2,aW] at r9;rw [b7,Qg8] at r7;refine ⟨y,q1',hy.1,r9,λz hz=>?_,r7⟩;rcases An z w.heap.size with hlt|hge;refine .inr ?_;have hoz:e1.own z=some 900:=k9.2.1 z (by show (e1.val 900).ownBlock=some z;rw [hy.2];exact hz)
 refine Classical.byContradiction λn3=>?_;have n1:z≠bo:=by
  rintro rfl;rw [o3'] at hoz;cases hoz
 have n2:z≠bm:=by
  rintro rfl;rw [o5'] at hoz;cases hoz
 have n4:dv.ownBlock≠some z:=by
  intro h;have:=k7.2.1 z (by show (e1.val 7).ownBlock=some z;rw [b7];exact h)
  rw [this] at hoz;cases hoz
 have n5:z≠bd:=by
  rintro rfl;have:=(g3 (4,.cells 22 [.row 7]) (by simp [OT_])).2.1
  rw [b4] at this;rw [this] at hoz;cases hoz
 have hk:=SQ z hlt n1 n2 n5 n3 n4;rw [(g1.apart z hk.1).1] at hoz;cases hoz;exact .inl hge
theorem P9{e e':G8}{w w1:World}{id:Nat}{r:H9}(st:Step e e' w w1)(HQ: ∀x,e.own x=some id->e'.own x=some id/\w1.heap[x]? =w.heap[x]?)(hna:Xp2 r=false)(h:H2 e w id r):H2 e' w1 id r:=by
 cases r with
 |cells T l=>
  obtain ⟨h1,h2,vs,h3,h4⟩:=h;obtain ⟨l1,l2,l3⟩:=st.live id h1;obtain ⟨k1,k2⟩:=HQ _ h2;exact ⟨l1,by rw [l2];exact k1,vs,by rw [l2,k2];exact h3,h4.step st⟩
 |ints T pre n f=>
  obtain ⟨h1,h2,vs,h3,h4⟩:=h;obtain ⟨l1,l2,l3⟩:=st.live id h1;obtain ⟨k1,k2⟩:=HQ _ h2;exact ⟨l1,by rw [l2];exact k1,vs,by rw [l2,k2];exact h3,h4.step st⟩
 |memo g f=>
  obtain ⟨h1,h2,es,c,h3,h4⟩:=h;obtain ⟨l1,l2,l3⟩:=st.live id h1;obtain ⟨k1,k2⟩:=HQ _ h2;exact ⟨l1,by rw [l2];exact k1,es,c,by rw [l2,k2];exact h3,h4⟩
 |keep T l=>exact P6 st h
 |aka _ _ _ _ _=>cases hna
 |row T sz n f=>
  obtain ⟨h1,h2,hf,ys,h3,h4⟩:=h;obtain ⟨l1,l2,l3⟩:=st.live id h1;refine ⟨l1,λx hx=>(HQ _ (h2 x (by rw [←l3];exact hx))).1,hf,ys,?_,λi j a v O ha hv=>(h4 i j a v O ha hv).step st⟩
  rw [l3];refine ⟨h3.1,h3.2.imp (λh=>h) ?_⟩;rintro ⟨g',cap',cur',hv,hg,hh,rest⟩;exact ⟨g',cap',cur',hv,hg,(HQ g' (h2 g' (by rw [hv];rfl))).2.trans hh,rest⟩
theorem MD{e:G8}{w:World}{id n:Nat}{g:Ci}{ov:Value}(hr:G0 1 n g)(hl:e.live id)(hv:e.val id=ov)(hob: ∀x,ov.ownBlock=some x->e.own x=some id)(ho:w.ownsRow 0 3 1 ov n (((List.range n).map (col 0 g)).map (Value.int .i64))):H2 e w id (.row 3 1 n g):=by
 have h:=zN (f:=col 0 g) hl hv hob UE (λj hj=>EO hj) ho;obtain ⟨h1,h2,h3,xs,h4,h5⟩:=h;refine ⟨h1,h2,λj hj=>?_,xs,h4,λi j a v O ha hv=>?_⟩;rw [hr j hj];exact h3 j hj;rw [hr i O] at ha;exact h5 i j a v O ha hv
theorem lD{n:Nat}{a b c U O:Cg}{N:Nat}(hs:Qq1 n a b c U O N):GT U8 237 (oZ n a b c U O N):=by
 refine ⟨(UZ Tryz.func237),?_⟩;intro avs m nx sv tr ht Q hQ cx w0 TT e ds args w hE hB hm hlv L8 hxt hr;unfold oZ at ht;split at ht;rename_i d W k z0 g z1 f z2 o z3 dd z4;split at ht;rename_i Tk c1 c2 sl ea la Tg mg Tf fg k' y0 g' y1 f' y2 o' y3 d' y4 To q Td r h1 h2 h3 h4 h5;split at ht;rename_i hh ff T1 s1 k1 g1 T2 s2 k2 g2 h6 h7 h8;split at ht;rename_i hb;rw [HV] at hb;obtain ⟨hb1,hb2⟩:=hb;simp only [IP] at hb1;obtain ⟨rfl,rfl,rfl,rfl,rfl,rfl,rfl,rfl,rfl,rfl,rfl,rfl,rfl,rfl,rfl,rfl,rfl,rfl,rfl,rfl,rfl,rfl,rfl,rfl,rfl,_⟩:=hb1;rw [HV] at hb2;have hqr:q≠r:=by
  rintro rfl;simp at hb2
 have hod:o≠dd:=by
  rintro rfl;simp at hb2
 cases ht;obtain ⟨hn,hq⟩:=U6.sat_needT hQ;have hn:=GY hn;have n1:c1=i 4:=hn _ UE;have n2:c2=i 10:=hn _ UE;have n3:sl=sls n a b c U O:=hn _ UE;have n4: ∀x,hh x->orH n a b c U O x/\ff x=orV x:=hn _ UE;have n6:G0 1 k1 g1:=hn _ UE;have n7:G0 1 k2 g2:=hn _ UE;have n8:k2=n:=hn _ UE;have n9:0<=d/\d<2^n:=hn _ UE;have n10:2^n-d.toNat<=N:=hn _ UE;have n11:0<=W/\W<=100:=hn _ UE;have n12:k1<=1000:=hn _ UE;clear hn hQ;subst n1 n2 n3 n8;obtain ⟨d,rfl⟩: ∃d':Nat,d=d':=⟨d.toNat,U3⟩;simp only [FA] at hq n10;have hpn:((2^k2:Nat):Int)=2^k2:=UE;have hdn:d<2^k2:=by
  have h:=n9.2;rw [←hpn] at h;exact Int.ofNat_lt.1 h
 obtain ⟨v0,l1,rfl,r1,hr⟩:=hr.cons_inv;obtain ⟨v1,l1,rfl,r2,hr⟩:=hr.cons_inv;obtain ⟨v2,l2,rfl,r3,hr⟩:=hr.cons_inv;obtain ⟨v3,l3,rfl,r4,hr⟩:=hr.cons_inv;obtain ⟨v4,l4,rfl,r5,hr⟩:=hr.cons_inv;obtain ⟨v5,l5,rfl,r6,hr⟩:=hr.cons_inv;obtain rfl:=hr.nil_inv;obtain ⟨us,rfl,ru⟩:=r1.agg_inv;obtain ⟨u1,us1,rfl,q1,ru⟩:=ru.cons_inv;obtain ⟨u2,us2,rfl,q2,ru⟩:=ru.cons_inv;obtain rfl:=ru.nil_inv;obtain rfl:=q1.x_inv;obtain rfl:=q2.x_inv;have z: ∀{k:Nat} {x:Value},Rep e w (.ptr k 0) x->x=PH (e.blk k):=by
  intro k x h;cases h;rfl
 obtain rfl:=z r2;obtain rfl:=z r3;obtain rfl:=z r4;obtain rfl:=z r5;obtain rfl:=z r6;have m4:=GI h4;obtain ⟨_,ro1,_,vs1,hp1,e1⟩:=hm _ (GI h1);obtain ⟨rb,xs,rfl,t1,e1⟩:=e1.cons_inv;obtain rfl:=e1.nil_inv;obtain ⟨_,ro2,_,vs2,hp2,e2⟩:=hm _ (GI h2);obtain ⟨mv,xs,rfl,t2,e2⟩:=e2.cons_inv;obtain rfl:=e2.nil_inv;have hmv:mv= .map (some (e.blk mg)):=by
  cases t2;rfl
 subst hmv;obtain ⟨_,ro3,_,vs3,hp3,e3⟩:=hm _ (GI h3);obtain ⟨fv,xs,rfl,t3,e3⟩:=e3.cons_inv;obtain rfl:=e3.nil_inv;obtain ⟨us,us',rfl,t6,t7⟩:=t3.fn_inv;obtain rfl:=t6.nil_inv;obtain ⟨x1,xs,rfl,s1,t7⟩:=t7.cons_inv;obtain ⟨x2,xs,rfl,s2,t7⟩:=t7.cons_inv;obtain ⟨x3,xs,rfl,s3,t7⟩:=t7.cons_inv;obtain ⟨x4,xs,rfl,s4,t7⟩:=t7.cons_inv;obtain ⟨x5,xs,rfl,s5,t7⟩:=t7.cons_inv;obtain rfl:=t7.nil_inv;obtain rfl:=z s1;obtain rfl:=z s2;obtain rfl:=z s3;obtain rfl:=z s4;obtain rfl:=z s5;obtain ⟨live4,own4,vs4,hp4,e4⟩:=hm _ m4;obtain ⟨ov,xs,rfl,t4,e4⟩:=e4.cons_inv;obtain rfl:=e4.nil_inv;obtain ⟨_,own5,vs5,hp5,e5⟩:=hm _ (GI h5);obtain ⟨dv,xs,rfl,t5,e5⟩:=e5.cons_inv;obtain rfl:=e5.nil_inv;have hov:(∃p q r,ov= .slice p q r)/\e.val q=ov:=by
  cases t4 with
  |row _ a n c _ hv=>exact ⟨⟨a,n,c,rfl⟩,hv⟩
 have hdv:(∃p q r,dv= .slice p q r)/\e.val r=dv:=by
  cases t5 with
  |row _ a n c _ hv=>exact ⟨⟨a,n,c,rfl⟩,hv⟩
 obtain ⟨live6,own6,es,cn,hp6,hes0⟩:=hm _ (GI h6);have hes: ∀x∈es.toList,orH k2 a b c U O x.key/\x.val=orV x.key:=λx hx=>by
  obtain ⟨g1,g2⟩:=hes0 x hx;exact ⟨(n4 _ g1).1,by rw [g2,(n4 _ g1).2]⟩
 have H7:=hm _ (GI h7);have H8:=hm _ (GI h8);have R7:=wH H7 n6;have R8:=wH H8 n7;simp only at hp1 hp2 hp3 hp4 hp5 hp6 own4 own6 live4 live6 R7 R8 ro1 ro2 ro3 own5;rw [hov.2] at R7;rw [hdv.2] at R8;have own7: ∀x,ov.ownBlock=some x->e.own x=some q:=λx hx=>H7.2.1 x (by show (e.val q).ownBlock=some x;rw [hov.2];exact hx)
 have own8: ∀x,dv.ownBlock=some x->e.own x=some r:=λx hx=>H8.2.1 x (by show (e.val r).ownBlock=some x;rw [hdv.2];exact hx)
 have live7:e.live q:=H7.1;have live8:e.live r:=H8.1;have ho_q:o≠q:=by
  rintro rfl;rw [h7] at h4;cases h4
 have ho_r:o≠r:=by
  rintro rfl;rw [h8] at h4;cases h4
 have ho_m:o≠mg:=by
  rintro rfl;rw [h6] at h4;cases h4
 have hm_q:mg≠q:=by
  rintro rfl;rw [h7] at h6;cases h6
 have hm_r:mg≠r:=by
  rintro rfl;rw [h8] at h6;cases h6
 have hd_q:dd≠q:=by
  rintro rfl;rw [h7] at h5;cases h5
 have hd_r:dd≠r:=by
  rintro rfl;rw [h8] at h5;cases h5
 have hd_m:dd≠mg:=by
  rintro rfl;rw [h6] at h5;cases h5
 have dne: ∀{x y j j':Nat},e.own x=some j->e.own y=some j'->j≠j'->x≠y:=by
  rintro x y j j' hx hy hj rfl;rw [hx] at hy;exact hj (Bb hy)
 have DJ:(zI k1 g1).length=k1:=by simp [zI]
 have hro: ∀x,e.ro x->x<w.heap.size/\x≠e.blk o/\x≠e.blk mg/\x≠e.blk dd/\ov.ownBlock≠some x/\dv.ownBlock≠some x:=by
  intro x hx;obtain ⟨hx1,hx2⟩:=hE.apart x hx;have nx_: ∀{y j:Nat},e.own y=some j->x≠y:=by
   rintro y j hy rfl;rw [hx1] at hy;cases hy
  exact ⟨hx2,nx_ own4,nx_ own6,nx_ own5,λh=>(nx_ (own7 x h)) rfl,λh=>(nx_ (own8 x h)) rfl⟩
 have RG:=Wk7 hs (ord:=zI k1 g1) (dy:=col 0 g2) hdn n10 n11 (by rw [DJ];exact n12) (w:=w) (bk:=e.blk k) (bg:=e.blk g) (bf:=e.blk f) (bo:=e.blk o) (bd:=e.blk dd) (bm:=e.blk mg) (R:=e) hE.glob
  hp1 hp2 hp3 hp5 hp4 hp6 hes (by rw [DJ];exact R7) R8 hov.1 hdv.1 (dne own4 own6 ho_m) (dne own4 own5 hod) (dne own6 own5 (Ne.symm hd_m)) (λx hx=>⟨dne (own7 x hx) own4 (Ne.symm ho_q),dne (own7 x hx) own6 (Ne.symm hm_q),dne (own7 x hx) own5 (Ne.symm hd_q),λh=>dne (own7 x hx) (own8 x h) hqr rfl⟩)
  (λx hx=>⟨dne (own8 x hx) own4 (Ne.symm ho_r),dne (own8 x hx) own6 (Ne.symm hm_r),dne (own8 x hx) own5 (Ne.symm hd_r)⟩) t1 hro ro1 ro2 ro3
 refine RG.mono ?_;rintro en w1 ⟨rfl,hsz,q1,q2,q3,kF,⟨es',c',hmp,hes'⟩,hF,hT⟩;rw [DJ] at hF;have hlt: ∀{x j:Nat},e.own x=some j->w0.heap.size<=x:=λh=>(hE.owned _ _ h).1;have hBel:Below w0.heap.size w0 w1:=by
  refine ⟨q1.trans hB.os,q2.trans hB.tape,q3.trans hB.output,Ar hB.size hsz,λx hx=>?_⟩;have ne_: ∀{y j:Nat},e.own y=some j->x≠y:=λh he=>by have:=hlt h;omega
  rw [kF x (qY hx hB.size) (ne_ own4) (ne_ own6) (λh=>ne_ (own7 x h) rfl) (λh=>ne_ (own8 x h) rfl)];exact hB.block x hx
 have Xq4: ∀x,x<w.heap.size->e.ro x->w1.heap[x]? =w.heap[x]? :=λx hx hx2=>kF x hx (hro x hx2).2.1 (hro x hx2).2.2.1 (hro x hx2).2.2.2.2.1 (hro x hx2).2.2.2.2.2;cases hb:(orS k2 a b c U O d W).isSome with
 |false=>
  have hq:=hq.2 hb;obtain ⟨f1,f2,f3⟩:=hF hb;have st:Step e e w w1:=⟨λx hx hx2=>⟨hx2,Xq4 x hx hx2⟩,λ_ h=>⟨h,rfl,rfl⟩,hsz⟩;refine ⟨_,_,_,_,_,e,rfl,hq,⟨λx hx=>⟨(hE.apart x hx).1,qY (hE.apart x hx).2 hsz⟩,λx j hx=>⟨(hE.owned x j hx).1,qY (hE.owned x j hx).2 hsz⟩,hE.glob.step st⟩,hBel,?_,hlv,L8,hxt.step st,.lit false⟩;intro p hp;rcases RQ hp with rfl|⟨hp,Zu9,_⟩;exact ⟨live6,own6,es',c',hmp,hes'⟩;rcases RQ hp with rfl|⟨hp,gC,_⟩;exact MD n7 live8 hdv.2 own8 f3;rcases RQ hp with rfl|⟨hp,Zu8,_⟩;exact MD n6 live7 hov.2 own7 f2;obtain ⟨hpm,hna⟩:=IS hp;refine P9 st (λx hx=>⟨hx,?_⟩) hna (hm p hpm);rcases Classical.em (x=e.blk o) with rfl|hxo;rw [f1,hp4];exact kF x (hE.owned x _ hx).2 hxo (dne hx own6 Zu9) (λh=>dne hx (own7 x h) Zu8 rfl) (λh=>dne hx (own8 x h) gC rfl)
 |true=>
  have hq:=hq.1 hb;obtain ⟨y',t1,⟨ya,yn,yc,hy0⟩,t2,t3,t4⟩:=hT hb;have hid: ¬e.live nx:=λh=>Bf _ (hlv _ h);have hfr: ∀x j,e.own x=some j->j≠q->y'.ownBlock≠some x:=by
   intro x j hx hj h;rcases t3 x h with h|h;have:=(hE.owned x j hx).2;omega;exact dne hx (own7 x h) hj rfl
  have hfr2: ∀x,e.ro x->y'.ownBlock≠some x:=by
   intro x hx h;rcases t3 x h with h|h;have:=(hro x hx).1;omega;exact (hro x hx).2.2.2.2.1 h
  have HQ: ∀x j,e.own x=some j->j≠q->(e.app nx y').own x=some j:=by
   intro x j hx hj;simp only [G8.app];rw [if_neg (hfr x j hx hj)];exact hx
  have st:Step e (e.app nx y') w w1:=⟨λx hx hx2=>⟨hx2,Xq4 x hx hx2⟩,λj hj=>⟨.inr hj,rfl,by
   have:j≠nx:=λh=>hid (h▸hj);simp [G8.app,this]⟩,hsz⟩
  have vne: ∀{j:Nat},e.live j->(e.app nx y').val j=e.val j:=λ{j} hj=>by
   have:j≠nx:=λh=>hid (h▸hj);simp [G8.app,this]
  refine ⟨_,_,_,_,_,e.app nx y',rfl,hq,⟨λx hx=>⟨?_,qY (hE.apart x hx).2 hsz⟩,λx j hx=>?_,hE.glob.step st⟩,hBel,?_,?_,L8,hxt.step st,.lit true⟩;simp only [G8.app];rw [if_neg (hfr2 x hx)];exact (hE.apart x hx).1;simp only [G8.app] at hx;split at hx;rename_i hxb;refine ⟨?_,(t2.lt x hxb).2⟩;rcases t3 x hxb with h|h;exact Ar hB.size h;exact hlt (own7 x h);exact ⟨(hE.owned x j hx).1,qY (hE.owned x j hx).2 hsz⟩;intro p hp;rcases HA.1 hp with rfl|hp;exact zN (ov:=y') (.inl rfl) (by simp [G8.app]) (λx hx=>by simp [G8.app,hx]) rfl (λj hj=>Qh4 hj) t2
  rcases RQ hp with rfl|⟨hp,Zu9,_⟩;exact ⟨.inr live6,HQ _ _ own6 hm_q,es',c',hmp,hes'⟩;rcases RQ hp with rfl|⟨hp,gC,_⟩;exact zN (ov:=dv) (.inr live8) (by rw [vne live8];exact hdv.2) (λx hx=>HQ _ _ (own8 x hx) (Ne.symm hqr)) UE (λj hj=>EO hj) t4
  rcases RQ hp with rfl|⟨hp,Zu8,_⟩;refine ⟨.inr live4,HQ _ _ own4 ho_q,[y'],t1,.cons ?_ (.nil _ _)⟩;rw [hy0];exact .row nx _ _ _ (.inl rfl) (by simp [G8.app])
  obtain ⟨hp,Jp0⟩:=LV hp;obtain ⟨hpm,hna⟩:=IS hp;refine P9 st (λx hx=>⟨HQ _ _ hx Jp0,?_⟩) hna (hm p hpm);exact kF x (hE.owned x _ hx).2 (dne hx own4 Zu8) (dne hx own6 Zu9) (λh=>dne hx (own7 x h) Jp0 rfl) (λh=>dne hx (own8 x h) gC rfl);rintro j (rfl|hj);exact Bk _;exact Nat.lt_succ_of_lt (hlv j hj)
 cases ht;cases ht;cases ht;cases ht
