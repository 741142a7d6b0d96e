/- Contracts, put together. Conditions: those of each. -/
import Derived.Test.YtakpdkmhclhlnaaGreatDoorMe
import Derived.Shelf.Strings.Builder1
import Derived.Shelf.Strings.Builder2
import Derived.Shelf.Strings.OnBuilder
import Derived.Lib.AtoiAllCases
import Derived.Deep.RegionHeld3
import Derived.Lib.SplitLaws
set_option linter.unusedSimpArgs false
set_option linter.unusedVariables false
set_option maxRecDepth 100000
namespace Go.Proofs.YtakpdkmhclhlnaaGreatDoor.Hd
open Go Go.Shelf Go.Sx Go.RowKit
def oK:Go.Shelf.Ren:=⟨λ| 169=>48|n=>n,λ| 70=>102| 72=>104| 37=>87| 127=>165|n=>n,λn=>n⟩
theorem Zn8:Go.Proofs.Lays.n169 Tryz.prog oK:=by
 constructor<;>first|(intro _;kernel_rfl)|kernel_rfl|(constructor<;>first|(intro _;kernel_rfl)|kernel_rfl|(constructor<;>first|(intro _;kernel_rfl)|kernel_rfl))
def fP:Go.Shelf.Ren:=⟨λ| 156=>70| 165=>113| 166=>41| 169=>48| 240=>68| 241=>150| 276=>111| 277=>189|n=>n,λ| 31=>26| 72=>104| 76=>108| 70=>102| 37=>87| 75=>107| 127=>165| 164=>216| 80=>122|n=>n,λn=>n⟩
theorem uW:Go.Proofs.Lays.n156 Tryz.prog fP:=by
 constructor<;>first|(intro _;kernel_rfl)|kernel_rfl|(constructor<;>first|(intro _;kernel_rfl)|kernel_rfl|(constructor<;>first|(intro _;kernel_rfl)|kernel_rfl))
theorem bI:Builder.Extra Tryz.prog fP where
 sizeBuilder:=VT
 liesBuilder:=VT
 t5:=by first|exact Tryz.underlying5|kernel_rfl
 a5:=by first|exact Tryz.isAgg5|kernel_rfl
 z5:=by first|exact Tryz.sizeOf5|(intros;rfl)
 v5:=by first|exact Tryz.zeroValue5|(intros;rfl)
 infoByte:=VT
 cellsByte:=VT
 sizeByte:=VT
 neB5:=by decide
def stO:List AV->ByteArray
 |[.x (.string s)]=>s
 |_=>ByteArray.empty
section
variable (n:Nat)(f:Ci)
def jT:Prop:= ∀k,k<n->f k=[.x (.string (stO (f k)))]
def jnB(sep:ByteArray):ByteArray:=⟨(Lib.join (((List.range n).map λk=>stO (f k)).map (·.data.toList)) sep.data.toList).toArray⟩
theorem Xj1(sep:ByteArray)(h0:n<=100000)(h1:jT n f)(h2:(jnB n f sep).size<=140737488355328):VW VN 70 [.lst 1 n f,.x (.string sep)] (.x (.string (jnB n f sep))):=by
 intro e w args hro hgl FO hr;obtain ⟨u,us,rfl,r1,hr⟩:=hr.cons_inv;obtain ⟨u2,us2,rfl,r2,hr⟩:=hr.cons_inv;obtain rfl:=hr.nil_inv;obtain rfl:=r2.x_inv;cases r1 with
 |lstNil=>
  refine Calls.mono (Any.strings_Join_none uW bI none 0 sep w) ?_;rintro en w' ⟨rfl,rfl⟩;exact ⟨_,rfl,Below.refl _ _,.x _⟩
 |lst _ _ _ b o cap g g1 g2 g3 g4 g5 g6 g7 g8 ad had=>
  have hl:((List.range n).map λk=>stO (f k)).length=n:=VS;rcases Nat.eq_zero_or_pos n with rfl|W;refine Calls.mono (Any.strings_Join_none uW bI (some ad) cap sep w) ?_;rintro en w' ⟨rfl,rfl⟩;exact ⟨_,rfl,Below.refl _ _,.x _⟩;rw [had W];have h:=Any.strings_Join uW bI b o cap ((List.range n).map λk=>stO (f k)) sep w (λj x hj=>by
   have hj1:=(FT.1 hj).1;have hj2:j<n:=VI;rw [Bn,List.getElem?_range hj2] at hj;simp only [Bt,HD] at hj;have k1:=g6 j 0 hj2 VI;have k2:=(g8 j 0 (.x (.string (stO (f j)))) hj2 (by rw [h1 j hj2];rfl)).x_inv
   have e0:o+(j*1+0)=o+j:=VI;rw [e0,k2,hj] at k1;exact k1) (g2 W) (by rw [hl];omega) (by rw [hl];exact g4) (by
    have e:(Lib.join (((List.range n).map λk=>stO (f k)).map (·.data.toList)) sep.data.toList).length=(jnB n f sep).size:=rfl;rw [e];exact h2)
  rw [hl] at h;refine Calls.mono h ?_;rintro en w' ⟨rfl,hb⟩;exact ⟨_,rfl,hb,.x _⟩
end
def dZ:UX
 |[.lst 1 n f,.x (.string sep)]=>some ([n<=100000,jT n f,(jnB n f sep).size<=140737488355328],.x (.string (jnB n f sep)))
 |_=>none
theorem Qb6:VO VN 70 dZ:=by
 refine ⟨(UI Tryz.func70),?_⟩;intro avs ns res h W;unfold dZ at h;split at h;cases h;exact Xj1 _ _ _ (W _ VS) (W _ VS) (W _ VS);cases h
def Xq7:HY:=λavs m nx sv=>match avs with
 |[.ptr q 0]=>match DH m q with
  |some (.cells T l)=>match l with
   |[.x (.pointer none),c]=>match Nat.beq T 104 with
    |true=>some (.leaf (.tup [],qD m q (.cells T [.ptr q 0,c]),nx,sv))
    |false=>none
   |[.ptr q' 0,c]=>match Nat.beq T 104&&Nat.beq q q' with
    |true=>some (.leaf (.tup [],m,nx,sv))
    |false=>none
   |_=>none
  |_=>none
 |_=>none
theorem Zr9:GA VN 68 Xq7:=by
 refine ⟨(UI Tryz.func68),?_⟩;intro avs m nx sv tr ht Q hQ cx w0 TT e ds args w hE hB hm hlv LO hxt hr;unfold Xq7 at ht;split at ht;rename_i q;obtain ⟨v0,l1,rfl,r1,hr⟩:=hr.cons_inv;obtain rfl:=hr.nil_inv;have hv0:v0= .pointer (some ⟨e.blk q,0,none⟩):=by cases r1;rfl
 subst hv0;split at ht;rename_i T l hg;split at ht;rename_i c;split at ht;rename_i hb;obtain rfl:=GX hb;cases ht;obtain ⟨h1,h2,vs,h3,h4⟩:=hm _ (UZ hg);obtain ⟨p,us,rfl,t1,h4⟩:=h4.cons_inv;obtain ⟨v,us,rfl,t2,h4⟩:=h4.cons_inv;obtain rfl:=h4.nil_inv;obtain rfl:=t1.x_inv
 dsimp only at h1 h2 h3
 have hc0:w.cell? ⟨e.blk q,0,none⟩=some (.pointer none):=by simp [World.cell?,h3]
 refine Calls.mono (Any.Builder_copyCheck_fresh {uW with} bI.toX72 (e.blk q) w hc0 (by simp [World.shape?,h3];rfl) (by simp [World.frozen?,h3])) ?_
 rintro en w' ⟨rfl,rfl⟩;have RX: ∀b,b≠e.blk q->(w.setCell ⟨e.blk q,0,none⟩ (.pointer (some ⟨e.blk q,0,none⟩))).heap[b]? =w.heap[b]? :=λb hb=>heap_setCell_other _ _ _ _ hb;have hsz:(w.setCell ⟨e.blk q,0,none⟩ (.pointer (some ⟨e.blk q,0,none⟩))).heap.size=w.heap.size:=VS;have st:=F4 hE h2 hsz RX;have dM:Below w0.heap.size w0 (w.setCell ⟨e.blk q,0,none⟩ (.pointer (some ⟨e.blk q,0,none⟩))):=hB.setCell (p:=⟨e.blk q,0,none⟩) (hE.owned _ _ h2).1 _;refine ⟨_,_,_,_,_,e,rfl,hQ,L2 hE hsz st,dM,?_,hlv,LO,hxt.step st,Rep.tupL (U2.nil _ _)⟩;intro p hp;rcases FW hp with rfl|⟨hp,hne⟩;refine ⟨h1,h2,[.pointer (some ⟨e.blk q,0,none⟩),v],?_,.cons (.ptr q 0 h1) (.cons (t2.step st) (.nil _ _))⟩;rw [heap_setCell_same w _ 0 _ _ _ h3];rfl;exact P1 hE h2 hsz RX hne (hm p hp);cases ht;rename_i q' c;split at ht;rename_i hb;rw [GT] at hb;obtain rfl:=GX hb.1;obtain rfl:=GX hb.2;cases ht;obtain ⟨h1,h2,vs,h3,h4⟩:=hm _ (UZ hg);obtain ⟨p,us,rfl,t1,h4⟩:=h4.cons_inv;obtain ⟨v,us,rfl,t2,h4⟩:=h4.cons_inv;obtain rfl:=h4.nil_inv
 dsimp only at h1 h2 h3
 have hp:p= .pointer (some ⟨e.blk q,0,none⟩):=by cases t1;rfl
 subst hp;have hc0:w.cell? ⟨e.blk q,0,none⟩=some (.pointer (some ⟨e.blk q,0,none⟩)):=by simp [World.cell?,h3]
 refine Calls.mono (Any.Builder_copyCheck_used {uW with} bI.toX72 (e.blk q) w hc0) ?_
 rintro en w' ⟨rfl,rfl⟩;exact ⟨_,_,_,_,_,e,rfl,hQ,hE,hB,hm,hlv,LO,hxt,Rep.tupL (U2.nil _ _)⟩;cases ht;cases ht;cases ht;cases ht
set_option maxHeartbeats 1000000 in
theorem Qk8(b g cap:Nat)(p:Value)(cur:Array Value)(l:List UInt8)(w:World)(hbk:w.heap[b]? =some (.cells #[p,.slice (some ⟨g,0,none⟩) l.length cap] 104 (0,0)))(hg:w.heap[g]? =some (.cells cur 5 (0,0)))(h0:l≠[])(hnc:l.length<=cap)(hcm:cap<=maxLen)(hcs:cur.size=cap)
  (gG: ∀j x,l[j]? =some x->w.cell? ⟨g,j,none⟩=some (.int .u8 x.toNat)):
  Calls Tryz.prog 48 #[.pointer (some ⟨b,0,none⟩)] w λe w'=>e= .returned (.string ⟨l.toArray⟩)/\w'=w.drew.freeze ⟨g,0,none⟩ l.length:=by
 have c1:w.drew.cell? ⟨b,1,none⟩=some (.slice (some ⟨g,0,none⟩) l.length cap):=by
  have:w.drew.heap[b]? =some (.cells #[p,.slice (some ⟨g,0,none⟩) l.length cap] 104 (0,0)):=hbk;simp [World.cell?,this]
 have hl0:l.length≠0:=by simpa using h0
 have hSD:(Builtin.unsafeSliceData_ #[87] 165 #[.slice (some ⟨g,0,none⟩) l.length cap]).run Tryz.prog w.drew= .ok (.pointer (some ⟨g,0,none⟩)) w.drew:=
  Lib.run_unsafeSliceData_row _ _ _ _ _ _ VI
 have hUS:(Builtin.unsafeString_ #[165,3] 9 #[.pointer (some ⟨g,0,none⟩),.int .i64 l.length]).run Tryz.prog w.drew= .ok (.string ⟨l.toArray⟩) (w.drew.freeze ⟨g,0,none⟩ l.length):=by
  refine Lib.run_unsafeString_row w.drew 165 3 9 5 Zn8.t127 VT g cur.size (by have hg':w.drew.heap[g]? =some (.cells cur 5 (0,0)):=hg;simp [World.shape?,hg']) l h0 VI (by unfold maxLen at hcm;omega) ?_
  intro j x hx;have e:(⟨g,0,none⟩:Addr).add j=⟨g,j,none⟩:=by rw [DA,Ap]
  rw [e];exact gG j x hx
 have GQ:Tryz.prog.follows .mixedOrders=true:=VX
 go_enter Tryz.func48,Tryz.ntmps48
 go_wp2
 go_region_o
 all_goals (go_wp2;go_ret;exact ⟨rfl,rfl⟩)
def Xc5:HY:=λavs m nx sv=>match avs with
 |[.ptr q 0]=>match DH m q with
  |some (.cells T l)=>match l with
   |[_,.row r]=>match DH m r with
    |some (.row T1 sz n f)=>match Nat.beq T 104&&Nat.beq T1 5&&Nat.beq sz 1 with
     |true=>some (.needT [uX n f,0<n] (.leaf (.x (.string (bsO n f)),[],nx,sv)))
     |false=>none
    |_=>none
   |_=>none
  |_=>none
 |_=>none
theorem a9(w:World)(g n x:Nat)(h:x≠g):(w.freeze ⟨g,0,none⟩ n).heap[x]? =w.heap[x]? :=by
 unfold World.freeze;split;rfl;show (w.heap.modify g _)[x]? =_;rw [Array.getElem?_modify];rw [if_neg (λe=>h e.symm)]
theorem iX(w:World)(g n:Nat):(w.freeze ⟨g,0,none⟩ n).heap.size=w.heap.size:=by
 unfold World.freeze;split;rfl;show (w.heap.modify g _).size=_;simp
theorem Qr5(w:World)(g n:Nat):(w.freeze ⟨g,0,none⟩ n).os=w.os/\(w.freeze ⟨g,0,none⟩ n).tape=w.tape/\(w.freeze ⟨g,0,none⟩ n).output=w.output:=by
 unfold World.freeze;split<;>exact ⟨rfl,rfl,rfl⟩
theorem kL:GA VN 48 Xc5:=by
 refine ⟨(UI Tryz.func48),?_⟩;intro avs m nx sv tr ht Q hQ cx w0 TT e ds args w hE hB hm hlv LO hxt hr;unfold Xc5 at ht;split at ht;rename_i q;obtain ⟨v0,l1,rfl,r1,hr⟩:=hr.cons_inv;obtain rfl:=hr.nil_inv;have hv0:v0= .pointer (some ⟨e.blk q,0,none⟩):=by cases r1;rfl
 subst hv0;split at ht;rename_i T l hg;split at ht;rename_i a r;split at ht;rename_i T1 sz n f hg2;split at ht;rename_i hb;rw [GT,GT] at hb;obtain ⟨⟨hb1,hb2⟩,hb3⟩:=hb;obtain rfl:=GX hb1;obtain rfl:=GX hb2;obtain rfl:=GX hb3;cases ht;obtain ⟨W,hq⟩:=VL.sat_needT hQ;have W:=GC W;have n1:uX n f:=W _ VS;have n2:0<n:=W _ VS;obtain ⟨h1,h2,vs,h3,h4⟩:=hm _ (UZ hg);obtain ⟨p,us,rfl,t1,h4⟩:=h4.cons_inv;obtain ⟨v,us,rfl,t2,h4⟩:=h4.cons_inv;obtain rfl:=h4.nil_inv
 dsimp only at h1 h2 h3
 obtain ⟨k1,k2,k3,xs,k4,k5⟩:=hm _ (UZ hg2)
 dsimp only at k1 k2 k3 k4 k5
 have hv:e.val r=v:=by
  cases t2 with
  |row _ a n c _ hv=>exact hv
 rw [hv] at k2 k4;rcases k4.2 with ⟨_,hz⟩|⟨g,cap,cur,rfl,hbg,hgg,hnc,hcm,hcs,jV⟩;omega;have H6:e.own g=some r:=k2 g rfl;have HT:((List.range n).map λj=>UInt8.ofNat (byO (f j))).length=n:=VS;have h0:((List.range n).map λj=>UInt8.ofNat (byO (f j)))≠[]:=by
  intro h;rw [h] at HT;simp at HT;omega
 have gG: ∀j x,((List.range n).map λj=>UInt8.ofNat (byO (f j)))[j]? =some x->w.cell? ⟨g,j,none⟩=some (.int .u8 x.toNat):=by
  intro j x hj;have hj1:j<n:=by have:=(FT.1 hj).1;omega
  rw [Bn,List.getElem?_range hj1] at hj;simp only [Bt,HD] at hj;have hxl:xs.length=n:=by have:=k4.1;omega
  have hc1:=k4.cells (g:=g) rfl j xs[j] (HZ VI);have e1:(⟨g,0,none⟩:Addr).add j=⟨g,j,none⟩:=by rw [DA,Ap]
  rw [e1] at hc1;have hc2:=(k5 j 0 (.x (.int .u8 (byO (f j):Int))) xs[j] hj1 (by rw [(n1 j hj1).2];rfl) (by rw [show j*1+0=j by omega];exact HZ VI)).x_inv
  rw [hc1,hc2,←hj,UInt8.toNat_ofNat_of_lt' (n1 j hj1).1]
 have FF:=Qk8 (e.blk q) g cap p cur ((List.range n).map λj=>UInt8.ofNat (byO (f j))) w (by rw [HT];exact h3) hgg h0 (by rw [HT];exact hnc) hcm (by simpa using hcs) gG
 refine FF.mono ?_;rintro en w' ⟨rfl,rfl⟩;rw [HT];have RX: ∀x,x≠g->(w.drew.freeze ⟨g,0,none⟩ n).heap[x]? =w.heap[x]? :=λx hx=>a9 w.drew g n x hx;have hsz:(w.drew.freeze ⟨g,0,none⟩ n).heap.size=w.heap.size:=iX w.drew g n;have hos:=Qr5 w.drew g n;have st:=F4 hE H6 hsz RX;refine ⟨_,_,_,_,_,e,rfl,hq,L2 hE hsz st,⟨hos.1.trans hB.os,hos.2.1.trans hB.tape,hos.2.2.trans hB.output,by rw [hsz];exact hB.size,λx hx=>?_⟩,λp hp=>(by cases hp),hlv,LO,hxt.step st,.x _⟩
 rw [RX x (by have:=(hE.owned _ _ H6).1;omega)]
 exact hB.block x hx;cases ht;cases ht;cases ht;cases ht;cases ht
open Go Go.Sx Go.RowKit Bo
open Go.Sx.VL (need branch leaf)
open Go.Sx.AV (lst ptr agg roI tup top)
def U5:List ByteArray:=[⟨#[116,104,114,101,97,100,32,48,32,49,32,52,48,32,52,48]⟩,⟨#[116,104,114,101,97,100,32,50,32,51,32,52,56,32,53,48]⟩,⟨#[105,115,115,117,101,32,48,32,52,32,57,48,32,48]⟩,⟨#[98,97,116,104,32,49,48,48,32,51,48,48]⟩,⟨#[115,101,101,32,48,32,50,48,48]⟩,⟨#[115,101,101,32,49,32,50,48,51]⟩,⟨#[98,97,116,104,32,49,48,48,32,51,48,48]⟩,⟨#[115,101,101,32,49,32,50,53,50]⟩,⟨#[115,101,101,32,50,32,50,53,48]⟩,⟨#[115,101,108,108,32,48,32,49,32,54,32,49,32,51]⟩,⟨#[115,101,108,108,32,49,32,50,32,52,32,50,32,50]⟩]
def G9:List ByteArray:=[⟨#[116,104,114,101,97,100,32,48,32,50,32,52,48,32,52,48]⟩,⟨#[105,115,115,117,101,32,48,32,52,32,56,48,32,48]⟩,⟨#[115,101,101,32,48,32,49,48,48]⟩,⟨#[115,116,114,105,107,101,32,49]⟩,⟨#[118,111,105,100,32,48]⟩]
def UM(l:List ByteArray)(k:Nat):ByteArray:=l.getD k ByteArray.empty
def wk1:HS:=thS hs0 0 1 40 40
def wk2:HS:=thS wk1 2 3 48 50
def wk3:HS:=isS wk2 0 4 90 0
def wk4:HS:=btS wk3 100 300
def wk5:HS:=seS wk4 0 200
def wk6:HS:=seS wk5 1 203
def wk7:HS:=btS wk6 100 300
def wk8:HS:=seS wk7 1 252
def wk9:HS:=seS wk8 2 250
def Qk5:HS:=slS wk9 0 1 6 1 3
def VU:HS:=slS Qk5 1 2 4 2 2
theorem Qx9:lnE (UM U5 0) hs0=0:=by decide+kernel
theorem Xt0:DD (lnW (UM U5 0)) hs0=wk1:=VT
theorem Qx8:lnE (UM U5 1) wk1=0:=by decide+kernel
theorem Xs9:DD (lnW (UM U5 1)) wk1=wk2:=VT
theorem Qx7:lnE (UM U5 2) wk2=0:=by decide+kernel
theorem Xs8:DD (lnW (UM U5 2)) wk2=wk3:=VT
theorem Qx6:lnE (UM U5 3) wk3=0:=by decide+kernel
theorem Xs7:DD (lnW (UM U5 3)) wk3=wk4:=VT
theorem Qx5:lnE (UM U5 4) wk4=0:=by decide+kernel
theorem Xs6:DD (lnW (UM U5 4)) wk4=wk5:=VT
theorem Qx4:lnE (UM U5 5) wk5=0:=by decide+kernel
theorem Xs5:DD (lnW (UM U5 5)) wk5=wk6:=VT
theorem Qx3:lnE (UM U5 6) wk6=0:=by decide+kernel
theorem Xs4:DD (lnW (UM U5 6)) wk6=wk7:=VT
theorem Qx2:lnE (UM U5 7) wk7=0:=by decide+kernel
theorem Xs3:DD (lnW (UM U5 7)) wk7=wk8:=VT
theorem Qx1:lnE (UM U5 8) wk8=0:=by decide+kernel
theorem Xs2:DD (lnW (UM U5 8)) wk8=wk9:=VT
theorem Qx0:lnE (UM U5 9) wk9=0:=by decide+kernel
theorem Xs1:DD (lnW (UM U5 9)) wk9=Qk5:=VT
theorem mY:lnE (UM U5 10) Qk5=0:=by decide+kernel
theorem Qw2:DD (lnW (UM U5 10)) Qk5=VU:=VT
theorem Xt2:boE VU.nb VU.ql VU.qh VU.qm VU.qr VU.qv=0:=by decide+kernel
theorem Xt1:boN VU.nb VU.ql VU.qh VU.qm VU.qr VU.qv=3:=by decide+kernel
theorem Qw5:boL VU.nb VU.ql VU.qh VU.qm VU.qr VU.qv 0=0:=by decide+kernel
theorem Qw8:boH VU.nb VU.ql VU.qh VU.qm VU.qr VU.qv 0=0:=by decide+kernel
theorem Qw4:boL VU.nb VU.ql VU.qh VU.qm VU.qr VU.qv 1=1:=by decide+kernel
theorem Qw7:boH VU.nb VU.ql VU.qh VU.qm VU.qr VU.qv 1=5:=by decide+kernel
theorem Qw3:boL VU.nb VU.ql VU.qh VU.qm VU.qr VU.qv 2= -3:=by decide+kernel
theorem Qw6:boH VU.nb VU.ql VU.qh VU.qm VU.qr VU.qv 2=5:=by decide+kernel
theorem Qw1:stP VU 0 0=true:=by decide+kernel
theorem Qw9:zL VU.ns VU.sa VU.sb VU.sc VU.sl VU.sh=true:=by decide+kernel
theorem Qy1:caB VU.ns VU.sa VU.sb VU.sc VU.sl VU.sh 1 0=true:=by decide+kernel
theorem Qy0:caB VU.ns VU.sa VU.sb VU.sc VU.sl VU.sh 1 1=true:=by decide+kernel
theorem Zg1:caB VU.ns VU.sa VU.sb VU.sc VU.sl VU.sh 1 2=false:=by decide+kernel
theorem Zg0:caB VU.ns VU.sa VU.sb VU.sc VU.sl VU.sh 1 3=false:=by decide+kernel
theorem Qw0:suB VU.ns VU.sa VU.sb VU.sc VU.sl VU.sh 1 0=true:=by decide+kernel
theorem Ze4:suB VU.ns VU.sa VU.sb VU.sc VU.sl VU.sh 1 1=false:=by decide+kernel
theorem Ze3:suB VU.ns VU.sa VU.sb VU.sc VU.sl VU.sh 1 2=false:=by decide+kernel
theorem Ze2:suB VU.ns VU.sa VU.sb VU.sc VU.sl VU.sh 1 3=false:=by decide+kernel
theorem Jb3:hdN 4 100 20 30 VU.nr VU.ra VU.rb VU.ru VU.rv 3 tbP tbQ VU.pl VU.ph 1 3 0=5:=by decide+kernel
theorem Zf4:onL (wkA 4 100 20 30 VU.nr VU.ra VU.rb VU.ru VU.rv 3 tbP tbQ VU.pl VU.ph 1 3) 0 0=0:=by decide+kernel
theorem Zf9:onH (wkA 4 100 20 30 VU.nr VU.ra VU.rb VU.ru VU.rv 3 tbP tbQ VU.pl VU.ph 1 3) 0 0=0:=by decide+kernel
theorem Zf3:onL (wkA 4 100 20 30 VU.nr VU.ra VU.rb VU.ru VU.rv 3 tbP tbQ VU.pl VU.ph 1 3) 1 0=200:=by decide+kernel
theorem Zf8:onH (wkA 4 100 20 30 VU.nr VU.ra VU.rb VU.ru VU.rv 3 tbP tbQ VU.pl VU.ph 1 3) 1 0=300:=by decide+kernel
theorem Zf2:onL (wkA 4 100 20 30 VU.nr VU.ra VU.rb VU.ru VU.rv 3 tbP tbQ VU.pl VU.ph 1 3) 2 0=410:=by decide+kernel
theorem Zf7:onH (wkA 4 100 20 30 VU.nr VU.ra VU.rb VU.ru VU.rv 3 tbP tbQ VU.pl VU.ph 1 3) 2 0=510:=by decide+kernel
theorem Zf1:onL (wkA 4 100 20 30 VU.nr VU.ra VU.rb VU.ru VU.rv 3 tbP tbQ VU.pl VU.ph 1 3) 3 0=700:=by decide+kernel
theorem Zf6:onH (wkA 4 100 20 30 VU.nr VU.ra VU.rb VU.ru VU.rv 3 tbP tbQ VU.pl VU.ph 1 3) 3 0=800:=by decide+kernel
theorem Zf0:onL (wkA 4 100 20 30 VU.nr VU.ra VU.rb VU.ru VU.rv 3 tbP tbQ VU.pl VU.ph 1 3) 4 0=1000:=by decide+kernel
theorem Zf5:onH (wkA 4 100 20 30 VU.nr VU.ra VU.rb VU.ru VU.rv 3 tbP tbQ VU.pl VU.ph 1 3) 4 0=1000:=by decide+kernel
theorem Ze9:(hoS VU.ns VU.sa VU.sb VU.sc VU.sl VU.sh 0 100).1=4:=by decide+kernel
theorem Ze8:(hoS VU.ns VU.sa VU.sb VU.sc VU.sl VU.sh 1 100).1=2:=by decide+kernel
theorem Ze7:(hoS VU.ns VU.sa VU.sb VU.sc VU.sl VU.sh 2 100).1=4:=by decide+kernel
theorem Ze6:(hoS VU.ns VU.sa VU.sb VU.sc VU.sl VU.sh 3 100).1=0:=by decide+kernel
def PG{α:Type}:VL α->VL α
 | .fail=> .fail
 | .leaf a=> .leaf a
 | .branch b t f=>match b with
  |true=>PG t
  |false=>PG f
 | .need ps t=> .need ps (PG t)
 | .may p t f=> .may p (PG t) (PG f)
def Xm9(sp:UF):UF:=λs=>match sp s with
 |some t=>some (PG t)
 |none=>none
section
variable (n:Nat)(f:Ci)
def byB:Bool:=D4 (λj=>match f j with
 |[.x (.int .u8 c)]=>decide (0<=c)&&decide (c<256)
 |_=>false) n
def Jc9:Bool:=D4 (λj=>match f j with
 |[.x (.string _)]=>true
 |_=>false) n
end
theorem H0{α:Type}{Q:α->Prop}: ∀{t:VL α},(PG t).sat Q->t.sat Q
 | .fail,h=>h
 | .leaf _,h=>h
 | .branch true _ _,h=>⟨λ_=>H0 h,λe=>Bool.noConfusion e⟩
 | .branch false _ _,h=>⟨λe=>Bool.noConfusion e,λ_=>H0 h⟩
 | .need _ _,h=>⟨h.1,H0 h.2⟩
 | .may _ _ _,h=>⟨λp=>H0 (h.1 p),H0 h.2⟩
theorem Zr3{P:Program}{ro:Option Nat}{cx:Cx}{c:Code}{sp:UF}(h:HK P ro cx c sp):HK P ro cx c (Xm9 sp):=by
 intro n s t ht Q hQ a w r;unfold Xm9 at ht;split at ht;rename_i t0 h0;cases ht;exact h n s t0 h0 Q (H0 hQ) a w r;cases ht
section
variable {n:Nat}{f:Ci}
theorem pW(h:byB n f=true):uX n f:=by
 intro j hj;have h1:=GK.1 h j hj;split at h1;rename_i c hc;rw [GT,kG,kG] at h1;rw [hc];have e:byO [.x (.int .u8 c)]=c.toNat:=rfl;rw [e];refine ⟨VI,?_⟩;rw [show ((c.toNat:Nat):Int)=c by omega]
 cases h1
theorem bR(h:Jc9 n f=true):jT n f:=by
 intro j hj;have h1:=GK.1 h j hj;split at h1;rename_i s hc;rw [hc];rfl;cases h1
end
noncomputable def Xc7:HY:=dJ Tryz.prog [] {R:=[],H:=[(68,Xq7)] } [] Tryz.f41 (U6 Tryz.f41)
theorem Xo5:GA VN 41 Xc7:=
 FZ (G:=[]) (X:={R:=[],H:=[(68,Xq7)] }) (L:=[]) Aa (Ai Ab (Ag Zr9 Ac)) VX (UI Tryz.func41) Tryz.func41 (US Tryz.f41) U1
noncomputable def fB:HY:=dJ Tryz.prog [(69,f7),(70,dZ)] W8 [(Xm9 (λs=>some (kK Tryz.prog [(69,f7),(70,dZ)] W8 [] (U7 (VQ (U6 Tryz.f42) 0)) 10 s)))] Tryz.f42 (U6 Tryz.f42)
theorem iK:GA VN 42 fB:=
 FZ (G:=[(69,f7),(70,dZ)]) (X:=W8) (L:=[(Xm9 (λs=>some (kK Tryz.prog [(69,f7),(70,dZ)] W8 [] (U7 (VQ (U6 Tryz.f42) 0)) 10 s)))]) (Ae TR (Ae Qb6 Aa)) Ad VX (UI Tryz.func42) Tryz.func42 (US Tryz.f42) (UY (lpE (b:= .loop (U7 (VQ (U6 Tryz.f42) 0))) VT<|λro cx=>Zr3 (yG (Ae TR (Ae Qb6 Aa)) (Ad cx) VX (λj Z hj sp I=>by simp at I) 10)))
noncomputable def Xc6:HY:=dJ Tryz.prog [] {R:=[],H:=[(42,fB),(41,Xc7)] } [] Tryz.f40 (U6 Tryz.f40)
theorem xB:GA VN 40 Xc6:=
 FZ (G:=[]) (X:={R:=[],H:=[(42,fB),(41,Xc7)] }) (L:=[]) Aa (Ai Ab (Ag iK (Ag Xo5 Ac))) VX (UI Tryz.func40) Tryz.func40 (US Tryz.f40) U1
def A8:UX
 |[.x (.int .i64 a),.x (.int .i64 b)]=>some ([0<=a/\a<=1000\/ -1000<=a/\a<=1000,-1000<=b/\b<=1000,((⟨(Lib.itoa a).toArray⟩:ByteArray)++⟨#[46,46]⟩).size+(⟨(Lib.itoa b).toArray⟩:ByteArray).size<=100],.x (.string ((⟨(Lib.itoa a).toArray⟩++⟨#[46,46]⟩)++⟨(Lib.itoa b).toArray⟩)))
 |_=>none
theorem Wn3(a b:Int)(VR:0<=a/\a<=1000\/ -1000<=a/\a<=1000)(UD: -1000<=b/\b<=1000)(HF:((⟨(Lib.itoa a).toArray⟩:ByteArray)++⟨#[46,46]⟩).size+(⟨(Lib.itoa b).toArray⟩:ByteArray).size<=100):VW VN 45 [i a,i b] (.x (.string ((⟨(Lib.itoa a).toArray⟩++⟨#[46,46]⟩)++⟨(Lib.itoa b).toArray⟩))):=by
 refine U0 (L:=[]) (Ae TR Aa) VX Tryz.func45 (US Tryz.f45) U1 (t:=need [VK a] (need [(↑(ByteArray.size {data:=List.toArray (Lib.itoa a) }+ByteArray.size {data:=#[46,46] }):Int)<=9223372036854775807] (need [VK b] (need [(↑(ByteArray.size ({data:=List.toArray (Lib.itoa a) }++{data:=#[46,46] })+ByteArray.size {data:=List.toArray (Lib.itoa b) }):Int)<=9223372036854775807] (leaf (RV.x (.string ({data:=List.toArray (Lib.itoa a) }++{data:=#[46,46] }++{data:=List.toArray (Lib.itoa b) })))))))) VT ?_;rw [Av] at HF;simp only [VL.sat,U9,UV,UB,UG,VK,Av];all_goals exact V4
theorem xA:VO VN 45 A8:=by
 refine ⟨(UI Tryz.func45),?_⟩;intro avs ns res h W;unfold A8 at h;split at h;cases h;exact Wn3 _ _ (W _ VS) (W _ VS) (W _ VS);cases h
def Zk5:ByteArray:=⟨#[114,101,97,100,105,110,103,115,32,50,32,98,97,116,104,115,32,50,32,99,101,114,116,105,102,105,99,97,116,101,115,32,49,32,115,97,108,101,115,32,50,10,109,97,114,107,115,32,48,46,46,48,32,50,48,48,46,46,51,48,48,32,52,49,48,46,46,53,49,48,32,55,48,48,46,46,56,48,48,32,49,48,48,48,46,46,49,48,48,48,10,111,102,102,115,101,116,115,32,48,46,46,48,32,49,46,46,53,32,45,51,46,46,53,10,115,116,97,110,100,32,48,10,104,111,108,100,32,52,32,50,32,52,32,48,10]⟩
def sP:UX:=λl=>some ([l=[lns 11 (UM U5)]],i 0)
def Qi0:D9:=λl=>some (.need [l=[lns 11 (UM U5)]] (.leaf (.tup [.ro (hsL VU),.lst 1 11 (exG (UM U5))])))
def Xa6:UX:=λl=>some ([l=[.agg [i 4,i 100,i 20,i 30,hsR VU,.lst 2 3 (λk=>[i (tbP k),i (tbQ k)]),i VU.pl,i VU.ph,i 1,i 3],i 0]],.tup [.lst 2 5 (λk=>[i (U8 [0,200,410,700,1000] k),i (U8 [0,300,510,800,1000] k)]),i 0])
def sN:UX:=λl=>some ([l=[.agg [ofs,i 1,hsB VU]]],.tup [.lst 2 3 (λk=>[i (U8 [0,1,-3] k),i (U8 [0,5,5] k)]),i 0])
def sM:UX:=λl=>some ([l=[.agg (hsL VU),.agg [i (VU.ca 0),i (VU.cb 0),i (VU.cc 0),i (VU.cd 0),bl (VU.cv 0)],i (VU.cd 0)]],bl true)
def Xa5:D9:=λl=>match l with
 |[b,.x (.int .i64 ow),d]=>some (.need [b= .agg [i 4,i 10,hsS VU],d=i 100,0<=ow/\ow<=3] (.leaf (.tup [.agg [i (U8 [4,2,4,0] ow.toNat),i (hoS VU.ns VU.sa VU.sb VU.sc VU.sl VU.sh ow 100).2],i 0])))
 |_=>none
theorem Jb2:sK (UM U5) 0=hs0:=rfl
theorem Jb1:sK (UM U5) 1=wk1:=by
 show lnS (UM U5 0) (sK (UM U5) 0)=_;rw [Jb2];unfold lnS;rw [if_pos Qx9];exact Xt0
theorem Jb0:sK (UM U5) 2=wk2:=by
 show lnS (UM U5 1) (sK (UM U5) 1)=_;rw [Jb1];unfold lnS;rw [if_pos Qx8];exact Xs9
theorem Ja9:sK (UM U5) 3=wk3:=by
 show lnS (UM U5 2) (sK (UM U5) 2)=_;rw [Jb0];unfold lnS;rw [if_pos Qx7];exact Xs8
theorem Ja8:sK (UM U5) 4=wk4:=by
 show lnS (UM U5 3) (sK (UM U5) 3)=_;rw [Ja9];unfold lnS;rw [if_pos Qx6];exact Xs7
theorem Ja7:sK (UM U5) 5=wk5:=by
 show lnS (UM U5 4) (sK (UM U5) 4)=_;rw [Ja8];unfold lnS;rw [if_pos Qx5];exact Xs6
theorem Ja6:sK (UM U5) 6=wk6:=by
 show lnS (UM U5 5) (sK (UM U5) 5)=_;rw [Ja7];unfold lnS;rw [if_pos Qx4];exact Xs5
theorem Ja5:sK (UM U5) 7=wk7:=by
 show lnS (UM U5 6) (sK (UM U5) 6)=_;rw [Ja6];unfold lnS;rw [if_pos Qx3];exact Xs4
theorem Ja4:sK (UM U5) 8=wk8:=by
 show lnS (UM U5 7) (sK (UM U5) 7)=_;rw [Ja5];unfold lnS;rw [if_pos Qx2];exact Xs3
theorem Ja3:sK (UM U5) 9=wk9:=by
 show lnS (UM U5 8) (sK (UM U5) 8)=_;rw [Ja4];unfold lnS;rw [if_pos Qx1];exact Xs2
theorem Ze5:sK (UM U5) 10=Qk5:=by
 show lnS (UM U5 9) (sK (UM U5) 9)=_;rw [Ja3];unfold lnS;rw [if_pos Qx0];exact Xs1
theorem AD:sK (UM U5) 11=VU:=by
 show lnS (UM U5 10) (sK (UM U5) 10)=_;rw [Ze5];unfold lnS;rw [if_pos mY];exact Qw2
theorem bL:ckE 11 (UM U5)=0:=by decide+kernel
theorem y7:VO VN 35 sP:=by
 refine ⟨(UI Tryz.func35),?_⟩;intro avs ns res h W;cases h;have e:avs=[lns 11 (UM U5)]:=W _ GB;subst e;have h1:=OA 11 (UM U5) VI;rw [bL] at h1;exact h1
theorem wY:Sx.Enters Tryz.prog 37/\ ∀avs t,Qi0 avs=some t->UK VN 37 avs t:=by
 refine ⟨(UI Tryz.func37),?_⟩;intro avs t h;cases h;intro Q hQ;have e:avs=[lns 11 (UM U5)]:=hQ.1;subst e;have hk:=kB bL;have h1:=iE 11 (UM U5) hk.1 (λk h=>by have:=hk.2 k h;omega) Q
 rw [AD] at h1;exact h1 hQ.2
theorem kZ:PH VN 43 Xa6:=by
 refine ⟨(UI Tryz.func43),?_⟩;intro avs ns res h W;cases h;have e:avs=[.agg [i 4,i 100,i 20,i 30,hsR VU,.lst 2 3 (λk=>[i (tbP k),i (tbQ k)]),i VU.pl,i VU.ph,i 1,i 3],i 0]:=W _ GB;subst e;intro e w args q1 q2 q3 q4;refine (vY 4 100 20 30 VU.nr VU.ra VU.rb VU.ru VU.rv 3 tbP tbQ VU.pl VU.ph 1 3 0 e w args q1 q2 q3 q4).mono ?_;rintro en w' ⟨v,rfl,g1,g2⟩;refine ⟨v,rfl,g1,RZ ?_ g2⟩;rw [show hdE 4 100 20 30 VU.nr VU.ra VU.rb VU.ru VU.rv 3 tbP tbQ VU.pl VU.ph 1 3 0=0 by decide+kernel]
 refine ⟨⟨rfl,Jb3,λk hk=>?_⟩,⟨rfl,rfl⟩,Ak⟩;rcases (show k=0\/k=1\/k=2\/k=3\/k=4 by omega) with rfl|rfl|rfl|rfl|rfl
 show [i _,i _]=_;rw [Zf4,Zf9];rfl;show [i _,i _]=_;rw [Zf3,Zf8];rfl;show [i _,i _]=_;rw [Zf2,Zf7];rfl;show [i _,i _]=_;rw [Zf1,Zf6];rfl;show [i _,i _]=_;rw [Zf0,Zf5];rfl
theorem bK:fD VU:=by
 have h:=wU (UM U5) 11;rw [AD] at h;exact h
theorem kV:VO VN 19 sN:=by
 refine ⟨(UI Tryz.func19),?_⟩;intro avs ns res h W;cases h;have e:avs=[.agg [ofs,i 1,hsB VU]]:=W _ GB;subst e;intro e w args q1 q2 q3 q4;refine (kD VU.nb VU.ql VU.qh VU.qm VU.qr VU.qv bK.bV e w args q1 q2 q3 q4).mono ?_;rintro en w' ⟨v,rfl,g1,g2⟩;refine ⟨v,rfl,g1,RZ ?_ g2⟩;rw [Xt2];refine ⟨⟨rfl,Xt1,λk hk=>?_⟩,⟨rfl,rfl⟩,Ak⟩;rcases (show k=0\/k=1\/k=2 by omega) with rfl|rfl|rfl
 show [i _,i _]=_;rw [Qw5,Qw8];rfl;show [i _,i _]=_;rw [Qw4,Qw7];rfl;show [i _,i _]=_;rw [Qw3,Qw6];rfl
theorem kM:VO VN 38 sM:=by
 refine ⟨(UI Tryz.func38),?_⟩;intro avs ns res h W;cases h;have e:avs=[.agg (hsL VU),.agg [i (VU.ca 0),i (VU.cb 0),i (VU.cc 0),i (VU.cd 0),bl (VU.cv 0)],i (VU.cd 0)]:=W _ GB;subst e;have h1:=EV VU (VU.ca 0) (VU.cb 0) (VU.cc 0) (VU.cd 0) (VU.cv 0) (VU.cd 0);have h2:stB VU (VU.ca 0) (VU.cb 0) (VU.cc 0) (VU.cd 0) (VU.cv 0) (VU.cd 0)=true:=by
  have h3:VU.cd 0=0:=VT;have h4:=Qw1;unfold stP at h4;rw [h3] at h4 ⊢;exact h4
 rw [h2] at h1;exact h1
theorem dK:Sx.Enters Tryz.prog 47/\ ∀avs t,Xa5 avs=some t->UK VN 47 avs t:=by
 refine ⟨(UI Tryz.func47),?_⟩;intro avs t h;unfold Xa5 at h;split at h;rename_i b ow d;cases h;intro Q hQ;obtain ⟨⟨e1,e2,e3,_⟩,hq⟩:=hQ;subst e1 e2;refine Qm5 VU.ns VU.sa VU.sb VU.sc VU.sl VU.sh ow 100 bK.sV Q ?_;have hb:(bt 0 ow 3&&bt 0 100 100)=true:=by
  rw [GT,Bo.bt_iff,Bo.bt_iff];omega
 refine ⟨λ_=>⟨λh=>?_,λ_=>?_⟩,λh=>Bool.noConfusion (hb.symm.trans h)⟩;rw [Qw9] at h;exact Bool.noConfusion h;have ho:(hoS VU.ns VU.sa VU.sb VU.sc VU.sl VU.sh ow 100).1=U8 [4,2,4,0] ow.toNat:=by
  rcases (show ow=0\/ow=1\/ow=2\/ow=3 by omega) with rfl|rfl|rfl|rfl
  exact Ze9;exact Ze8;exact Ze7;exact Ze6
 show Q _;rw [ho];exact hq;cases h
def wvS(s:ByteArray):AV:= .x (.iface 9 (.string s))
def wvI(n:Int):AV:= .x (.iface 3 (.int .i64 n))
def GZ(l:List AV)(k:Nat):List AV:=[l.getD k .top]
def wl0:List AV:=[wvS ⟨#[109,97,114,107,115]⟩,wvS ⟨#[48,46,46,48]⟩,wvS ⟨#[50,48,48,46,46,51,48,48]⟩,wvS ⟨#[52,49,48,46,46,53,49,48]⟩,wvS ⟨#[55,48,48,46,46,56,48,48]⟩,wvS ⟨#[49,48,48,48,46,46,49,48,48,48]⟩]
def wl1:List AV:=[wvS ⟨#[111,102,102,115,101,116,115]⟩,wvS ⟨#[48,46,46,48]⟩,wvS ⟨#[49,46,46,53]⟩,wvS ⟨#[45,51,46,46,53]⟩]
def wl2:List AV:=[wvS ⟨#[115,116,97,110,100]⟩,wvI 0]
def wl3:List AV:=[wvS ⟨#[104,111,108,100]⟩,wvI 4,wvI 2,wvI 4,wvI 0]
def rp0:ByteArray:=⟨#[114,101,97,100,105,110,103,115,32,50,32,98,97,116,104,115,32,50,32,99,101,114,116,105,102,105,99,97,116,101,115,32,49,32,115,97,108,101,115,32,50,10]⟩
def rp1:ByteArray:=⟨#[114,101,97,100,105,110,103,115,32,50,32,98,97,116,104,115,32,50,32,99,101,114,116,105,102,105,99,97,116,101,115,32,49,32,115,97,108,101,115,32,50,10,109,97,114,107,115,32,48,46,46,48,32,50,48,48,46,46,51,48,48,32,52,49,48,46,46,53,49,48,32,55,48,48,46,46,56,48,48,32,49,48,48,48,46,46,49,48,48,48,10]⟩
def rp2:ByteArray:=⟨#[114,101,97,100,105,110,103,115,32,50,32,98,97,116,104,115,32,50,32,99,101,114,116,105,102,105,99,97,116,101,115,32,49,32,115,97,108,101,115,32,50,10,109,97,114,107,115,32,48,46,46,48,32,50,48,48,46,46,51,48,48,32,52,49,48,46,46,53,49,48,32,55,48,48,46,46,56,48,48,32,49,48,48,48,46,46,49,48,48,48,10,111,102,102,115,101,116,115,32,48,46,46,48,32,49,46,46,53,32,45,51,46,46,53,10]⟩
def rp3:ByteArray:=⟨#[114,101,97,100,105,110,103,115,32,50,32,98,97,116,104,115,32,50,32,99,101,114,116,105,102,105,99,97,116,101,115,32,49,32,115,97,108,101,115,32,50,10,109,97,114,107,115,32,48,46,46,48,32,50,48,48,46,46,51,48,48,32,52,49,48,46,46,53,49,48,32,55,48,48,46,46,56,48,48,32,49,48,48,48,46,46,49,48,48,48,10,111,102,102,115,101,116,115,32,48,46,46,48,32,49,46,46,53,32,45,51,46,46,53,10,115,116,97,110,100,32,48,10]⟩
def rp4:ByteArray:=⟨#[114,101,97,100,105,110,103,115,32,50,32,98,97,116,104,115,32,50,32,99,101,114,116,105,102,105,99,97,116,101,115,32,49,32,115,97,108,101,115,32,50,10,109,97,114,107,115,32,48,46,46,48,32,50,48,48,46,46,51,48,48,32,52,49,48,46,46,53,49,48,32,55,48,48,46,46,56,48,48,32,49,48,48,48,46,46,49,48,48,48,10,111,102,102,115,101,116,115,32,48,46,46,48,32,49,46,46,53,32,45,51,46,46,53,10,115,116,97,110,100,32,48,10,104,111,108,100,32,52,32,50,32,52,32,48,10]⟩
def eqBy(n:Nat)(F:Ci)(B:ByteArray):Bool:=D4 (λj=>match F j with
 |[.x (.int .u8 c)]=>decide (c=byN B j)
 |_=>false) n
theorem Qd0{n:Nat}{F:Ci}{B:ByteArray}(h:eqBy n F B=true): ∀i,i<n->F i=DO B i:=by
 intro j hj;have h1:=GK.1 h j hj;split at h1;rename_i c hc;rw [hc,qL h1];rfl;cases h1
theorem ltM{n:Nat}{f g:Ci}(h:(List.range n).map f=(List.range n).map g): ∀i,i<n->f i=g i:=λi O=>by
 have e:=congrArg (λl=>l[i]?) h;simpa [O] using e
abbrev JH:GY:=[(920,.row 20 1 1 (GZ wl0)),(921,.row 20 1 1 (GZ wl1)),(922,.row 20 1 1 (GZ wl2)),(923,.row 20 1 1 (GZ wl3)),(911,.row 5 1 42 (DO rp0)),(14,.cells 104 [.ptr 14 0,.row 911])]
def rD(z:Nat):St:=((some {σ:=mkS 198 [(0,.top),(5,.ro (hsL VU)),(7,.ptr 14 0),(8,.fn (.func 40) [] [.ptr 14 0]),(9,.row 920),(10,.row 921),(11,.row 922),(12,.row 923),(91,.lst 2 5 (λk=>[i (U8 [0,200,410,700,1000] k),i (U8 [0,300,510,800,1000] k)])),(92,i 5),(93,i 0)],m:=JH,nx:=930}:Option St):Option St).getD {σ:=[],m:=[],nx:=0}
noncomputable def rF:Code:=U7 (VQ (U6 Tryz.f12) 0)
abbrev X1:GY:=[(920,.row 20 1 6 (GZ wl0)),(921,.row 20 1 1 (GZ wl1)),(922,.row 20 1 1 (GZ wl2)),(923,.row 20 1 1 (GZ wl3)),(911,.row 5 1 42 (DO rp0)),(14,.cells 104 [.ptr 14 0,.row 911])]
section
variable (z:Nat)
def DQ:Nat->St
 | 0=>{σ:=H5 [(91,.lst 2 5 (λk=>[i (U8 [0,200,410,700,1000] k),i (U8 [0,300,510,800,1000] k)])),(92,i 5),(93,i 0)] (rD z).σ,m:=JH,nx:=930}
 | 1=>{σ:=H5 [(91,.lst 2 5 (λk=>[i (U8 [0,200,410,700,1000] k),i (U8 [0,300,510,800,1000] k)])),(92,i 5),(93,i 1)] (rD z).σ,m:=[(920,.row 20 1 2 (GZ wl0)),(921,.row 20 1 1 (GZ wl1)),(922,.row 20 1 1 (GZ wl2)),(923,.row 20 1 1 (GZ wl3)),(911,.row 5 1 42 (DO rp0)),(14,.cells 104 [.ptr 14 0,.row 911])],nx:=930}
 | 2=>{σ:=H5 [(91,.lst 2 5 (λk=>[i (U8 [0,200,410,700,1000] k),i (U8 [0,300,510,800,1000] k)])),(92,i 5),(93,i 2)] (rD z).σ,m:=[(920,.row 20 1 3 (GZ wl0)),(921,.row 20 1 1 (GZ wl1)),(922,.row 20 1 1 (GZ wl2)),(923,.row 20 1 1 (GZ wl3)),(911,.row 5 1 42 (DO rp0)),(14,.cells 104 [.ptr 14 0,.row 911])],nx:=930}
 | 3=>{σ:=H5 [(91,.lst 2 5 (λk=>[i (U8 [0,200,410,700,1000] k),i (U8 [0,300,510,800,1000] k)])),(92,i 5),(93,i 3)] (rD z).σ,m:=[(920,.row 20 1 4 (GZ wl0)),(921,.row 20 1 1 (GZ wl1)),(922,.row 20 1 1 (GZ wl2)),(923,.row 20 1 1 (GZ wl3)),(911,.row 5 1 42 (DO rp0)),(14,.cells 104 [.ptr 14 0,.row 911])],nx:=930}
 | 4=>{σ:=H5 [(91,.lst 2 5 (λk=>[i (U8 [0,200,410,700,1000] k),i (U8 [0,300,510,800,1000] k)])),(92,i 5),(93,i 4)] (rD z).σ,m:=[(920,.row 20 1 5 (GZ wl0)),(921,.row 20 1 1 (GZ wl1)),(922,.row 20 1 1 (GZ wl2)),(923,.row 20 1 1 (GZ wl3)),(911,.row 5 1 42 (DO rp0)),(14,.cells 104 [.ptr 14 0,.row 911])],nx:=930}
 |_=>{σ:=H5 [(91,.lst 2 5 (λk=>[i (U8 [0,200,410,700,1000] k),i (U8 [0,300,510,800,1000] k)])),(92,i 5),(93,i 5)] (rD z).σ,m:=X1,nx:=930}
def DJ:G6->Option St
 | .exit 0=>some {σ:=H5 [(91,.lst 2 5 (λk=>[i (U8 [0,200,410,700,1000] k),i (U8 [0,300,510,800,1000] k)])),(92,i 5),(93,i 5)] (rD z).σ,m:=X1,nx:=930}
 |_=>none
def M1:CT:= .leaf (.exit 0,(DJ z (.exit 0)).getD (rD z))
abbrev QE:List (Pl×Nat×TypeId×Nat):=[(.slot 9,920,20,1),(.slot 10,921,20,1),(.slot 11,922,20,1),(.slot 12,923,20,1),(.cell 14 1,911,5,1)]
def Xb7:UF:=GI QE (HB (DQ z 0) (M1 z))
abbrev Q6:Prop:=AV.ro [hR 2 VU,iI VU.pl,iI VU.ph,hY 2 VU,hC 1 VU,hT 2 VU]=AV.ro [hR 2 VU,iI VU.pl,iI VU.ph,hY 2 VU,hC 1 VU,hT 2 VU]
noncomputable abbrev Q8:Ext:={R:=[(43,Xa6),(44,L5),(46,xQ),(39,M5)],H:=[(40,Xc6),(48,Xc5)],C:=[(37,Qi0),(47,Xa5)] }
abbrev QF:List Int:=[(0:Int),200,410,700,1000]
abbrev QI:List Int:=[(0:Int),300,510,800,1000]
abbrev QN:Prop:=AV.fn (Fn.func 40) [] [ptr 14 0]=AV.fn (Fn.func 40) [] [ptr 14 0]
abbrev QV:List (Nat×UX):=[(35,sP),(19,sN),(38,sM),(45,A8)]
abbrev WF:Prop:=ptr 14 0=ptr 14 0
abbrev WV:AV:=lst 2 5 λk=>[iI (U8 QF k),iI (U8 QI k)]
abbrev X4:Prop:=AV.row 911=AV.row 911
abbrev Z0:Prop:=AV.row 920=AV.row 920
abbrev Z1:Prop:=AV.row 921=AV.row 921
abbrev Z2:Prop:=AV.row 922=AV.row 922
abbrev Z3:Prop:=AV.row 923=AV.row 923
theorem Zk3:PG (HW VN QV Q8 [] QE rF (DQ z 0) (DQ z 1) (DJ z))=(let A:=([AV.x (.iface 9 (.string ({data:=List.toArray (Lib.itoa (U8 QF (0:Int).toNat)) }++{data:=#[46,46] }++{data:=List.toArray (Lib.itoa (U8 QI (0:Int).toNat)) })))]);(need [UE 0 5] (need [(0:Int)<=U8 QF (0:Int).toNat/\U8 QF (0:Int).toNat<=1000\/(-1000:Int)<=U8 QF (0:Int).toNat/\U8 QF (0:Int).toNat<=1000,(-1000:Int)<=U8 QI (0:Int).toNat/\U8 QI (0:Int).toNat<=1000,4<=100] (need [32<=140737488355328,∀(i:Nat),i<1-> ∀(a:AV),a∈U3 1 A i->AV.one a=true] (need [VK ((0:Int)+1)] (need [Q6,WF,QN,Z0,Z1,Z2,Z3,WV=WV,J7,(0:Int)+1=1,2=2,GU 2 (GD 1 (GZ wl0) (U3 1 A)) (GZ wl0),1=1,GO 1 (GZ wl1),1=1,GO 1 (GZ wl2),1=1,GO 1 (GZ wl3),42=42,GO 42 (DO rp0),WF,X4] (leaf G6.normal))))))):=by
 kernel_rfl
theorem Zk2:PG (HW VN QV Q8 [] QE rF (DQ z 1) (DQ z 2) (DJ z))=(let A:=([AV.x (.iface 9 (.string ({data:=List.toArray (Lib.itoa (U8 QF (1:Int).toNat)) }++{data:=#[46,46] }++{data:=List.toArray (Lib.itoa (U8 QI (1:Int).toNat)) })))]);(need [UE 1 5] (need [(0:Int)<=U8 QF (1:Int).toNat/\U8 QF (1:Int).toNat<=1000\/(-1000:Int)<=U8 QF (1:Int).toNat/\U8 QF (1:Int).toNat<=1000,(-1000:Int)<=U8 QI (1:Int).toNat/\U8 QI (1:Int).toNat<=1000,8<=100] (need [48<=140737488355328,∀(i:Nat),i<1-> ∀(a:AV),a∈U3 1 A i->AV.one a=true] (need [VK ((1:Int)+1)] (need [Q6,WF,QN,Z0,Z1,Z2,Z3,WV=WV,J7,(1:Int)+1=2,3=3,GU 3 (GD 2 (GZ wl0) (U3 1 A)) (GZ wl0),1=1,GO 1 (GZ wl1),1=1,GO 1 (GZ wl2),1=1,GO 1 (GZ wl3),42=42,GO 42 (DO rp0),WF,X4] (leaf G6.normal))))))):=by
 kernel_rfl
theorem Zk1:PG (HW VN QV Q8 [] QE rF (DQ z 2) (DQ z 3) (DJ z))=(let A:=([AV.x (.iface 9 (.string ({data:=List.toArray (Lib.itoa (U8 QF (2:Int).toNat)) }++{data:=#[46,46] }++{data:=List.toArray (Lib.itoa (U8 QI (2:Int).toNat)) })))]);(need [UE 2 5] (need [(0:Int)<=U8 QF (2:Int).toNat/\U8 QF (2:Int).toNat<=1000\/(-1000:Int)<=U8 QF (2:Int).toNat/\U8 QF (2:Int).toNat<=1000,(-1000:Int)<=U8 QI (2:Int).toNat/\U8 QI (2:Int).toNat<=1000,8<=100] (need [64<=140737488355328,∀(i:Nat),i<1-> ∀(a:AV),a∈U3 1 A i->AV.one a=true] (need [VK ((2:Int)+1)] (need [Q6,WF,QN,Z0,Z1,Z2,Z3,WV=WV,J7,(2:Int)+1=3,4=4,GU 4 (GD 3 (GZ wl0) (U3 1 A)) (GZ wl0),1=1,GO 1 (GZ wl1),1=1,GO 1 (GZ wl2),1=1,GO 1 (GZ wl3),42=42,GO 42 (DO rp0),WF,X4] (leaf G6.normal))))))):=by
 kernel_rfl
theorem Zk0:PG (HW VN QV Q8 [] QE rF (DQ z 3) (DQ z 4) (DJ z))=(let A:=([AV.x (.iface 9 (.string ({data:=List.toArray (Lib.itoa (U8 QF (3:Int).toNat)) }++{data:=#[46,46] }++{data:=List.toArray (Lib.itoa (U8 QI (3:Int).toNat)) })))]);(need [UE 3 5] (need [(0:Int)<=U8 QF (3:Int).toNat/\U8 QF (3:Int).toNat<=1000\/(-1000:Int)<=U8 QF (3:Int).toNat/\U8 QF (3:Int).toNat<=1000,(-1000:Int)<=U8 QI (3:Int).toNat/\U8 QI (3:Int).toNat<=1000,8<=100] (need [80<=140737488355328,∀(i:Nat),i<1-> ∀(a:AV),a∈U3 1 A i->AV.one a=true] (need [VK ((3:Int)+1)] (need [Q6,WF,QN,Z0,Z1,Z2,Z3,WV=WV,J7,(3:Int)+1=4,5=5,GU 5 (GD 4 (GZ wl0) (U3 1 A)) (GZ wl0),1=1,GO 1 (GZ wl1),1=1,GO 1 (GZ wl2),1=1,GO 1 (GZ wl3),42=42,GO 42 (DO rp0),WF,X4] (leaf G6.normal))))))):=by
 kernel_rfl
theorem Zj9:PG (HW VN QV Q8 [] QE rF (DQ z 4) (DQ z 5) (DJ z))=(let A:=([AV.x (.iface 9 (.string ({data:=List.toArray (Lib.itoa (U8 QF (4:Int).toNat)) }++{data:=#[46,46] }++{data:=List.toArray (Lib.itoa (U8 QI (4:Int).toNat)) })))]);(need [UE 4 5] (need [(0:Int)<=U8 QF (4:Int).toNat/\U8 QF (4:Int).toNat<=1000\/(-1000:Int)<=U8 QF (4:Int).toNat/\U8 QF (4:Int).toNat<=1000,(-1000:Int)<=U8 QI (4:Int).toNat/\U8 QI (4:Int).toNat<=1000,10<=100] (need [96<=140737488355328,∀(i:Nat),i<1-> ∀(a:AV),a∈U3 1 A i->AV.one a=true] (need [VK ((4:Int)+1)] (need [Q6,WF,QN,Z0,Z1,Z2,Z3,WV=WV,J7,(4:Int)+1=5,6=6,GU 6 (GD 5 (GZ wl0) (U3 1 A)) (GZ wl0),1=1,GO 1 (GZ wl1),1=1,GO 1 (GZ wl2),1=1,GO 1 (GZ wl3),42=42,GO 42 (DO rp0),WF,X4] (leaf G6.normal))))))):=by
 kernel_rfl
theorem Zj8:PG (HW VN QV Q8 [] QE rF (DQ z 5) (DQ z 5) (DJ z))=(need [Q6,WF,QN,Z0,Z1,Z2,Z3,WV=WV,J7,J7,6=6,GO 6 (GZ wl0),1=1,GO 1 (GZ wl1),1=1,GO 1 (GZ wl2),1=1,GO 1 (GZ wl3),42=42,GO 42 (DO rp0),WF,X4] (leaf (G6.exit 0))):=by
 kernel_rfl
end
theorem YV{p:Prop}(h:p:=by
 (with_reducible repeat' first|apply Al|intro _)
 all_goals first|exact Ak|(rename_i E hE;cases hE;exact hQ)|contradiction|omega|exact FG (by assumption) (by simp [AV.one,Value.oneCell'])|(rename_i i O;exact Qd0 (by decide+kernel) i O)|(rename_i i O;exact ltM VT i O)|exact bR (by decide+kernel)|exact pW (by decide+kernel)|decide+kernel|with_reducible rfl|rfl):p:=h
theorem Zk4(z:Nat):G0 VN (.loop rF) (Xb7 z):=by
 refine UP QE (L:=[]) (Ae y7 (Ae kV (Ae kM (Ae xA Aa)))) (Aj (Af kZ (Af F8 (Af RD (Af LZ Ab)))) (Ag xB (Ag kL Ac)) (Ah wY (Ah dK (UA.nil _)))) VX U1 (X:=Nat) (DQ z) (λk=>k<=5) (λk=>6-k) (λ_=>DJ z) (x0:=0) (Ao _) ?_ ?_ ?_;intro k
 match k with
 | 0=>
  show Sx.okB (DQ z 0)=true;kernel_rfl
 | 1=>
  show Sx.okB (DQ z 1)=true;kernel_rfl
 | 2=>
  show Sx.okB (DQ z 2)=true;kernel_rfl
 | 3=>
  show Sx.okB (DQ z 3)=true;kernel_rfl
 | 4=>
  show Sx.okB (DQ z 4)=true;kernel_rfl
 |k+5=>
  show Sx.okB (DQ z 5)=true;kernel_rfl
 intro k y E h;unfold DJ at h;split at h;cases h;kernel_rfl;cases h;intro Q hQ k hx
 match k with
 | 0=>
  refine ⟨1,?_⟩
  with_reducible refine H0 ?_
  rw [Zk3];simp only [M1,DJ,VL.sat,GR] at hQ;simp only [VL.sat,U9,UG,VK,DJ];exact YV
 | 1=>
  refine ⟨2,?_⟩
  with_reducible refine H0 ?_
  rw [Zk2];simp only [M1,DJ,VL.sat,GR] at hQ;simp only [VL.sat,U9,UG,VK,DJ];exact YV
 | 2=>
  refine ⟨3,?_⟩
  with_reducible refine H0 ?_
  rw [Zk1];simp only [M1,DJ,VL.sat,GR] at hQ;simp only [VL.sat,U9,UG,VK,DJ];exact YV
 | 3=>
  refine ⟨4,?_⟩
  with_reducible refine H0 ?_
  rw [Zk0];simp only [M1,DJ,VL.sat,GR] at hQ;simp only [VL.sat,U9,UG,VK,DJ];exact YV
 | 4=>
  refine ⟨5,?_⟩
  with_reducible refine H0 ?_
  rw [Zj9];simp only [M1,DJ,VL.sat,GR] at hQ;simp only [VL.sat,U9,UG,VK,DJ];exact YV
 | 5=>
  refine ⟨5,?_⟩
  with_reducible refine H0 ?_
  rw [Zj8];simp only [M1,DJ,VL.sat,GR] at hQ;simp only [VL.sat,U9,UG,VK,DJ];exact YV
 |k+6=>omega
def SC(z:Nat):St:=((some {σ:=mkS 198 [(0,.top),(5,.ro (hsL VU)),(7,.ptr 14 0),(8,.fn (.func 40) [] [.ptr 14 0]),(9,.row 920),(10,.row 921),(11,.row 922),(12,.row 923),(116,.lst 2 3 (λk=>[i (U8 [0,1,-3] k),i (U8 [0,5,5] k)])),(117,i 3),(118,i 0)],m:=X1,nx:=930}:Option St):Option St).getD {σ:=[],m:=[],nx:=0}
noncomputable def SE:Code:=U7 (VQ (U6 Tryz.f12) 1)
abbrev X2:GY:=[(920,.row 20 1 6 (GZ wl0)),(921,.row 20 1 4 (GZ wl1)),(922,.row 20 1 1 (GZ wl2)),(923,.row 20 1 1 (GZ wl3)),(911,.row 5 1 42 (DO rp0)),(14,.cells 104 [.ptr 14 0,.row 911])]
section
variable (z:Nat)
def RU:Nat->St
 | 0=>{σ:=H5 [(116,.lst 2 3 (λk=>[i (U8 [0,1,-3] k),i (U8 [0,5,5] k)])),(117,i 3),(118,i 0)] (SC z).σ,m:=X1,nx:=930}
 | 1=>{σ:=H5 [(116,.lst 2 3 (λk=>[i (U8 [0,1,-3] k),i (U8 [0,5,5] k)])),(117,i 3),(118,i 1)] (SC z).σ,m:=[(920,.row 20 1 6 (GZ wl0)),(921,.row 20 1 2 (GZ wl1)),(922,.row 20 1 1 (GZ wl2)),(923,.row 20 1 1 (GZ wl3)),(911,.row 5 1 42 (DO rp0)),(14,.cells 104 [.ptr 14 0,.row 911])],nx:=930}
 | 2=>{σ:=H5 [(116,.lst 2 3 (λk=>[i (U8 [0,1,-3] k),i (U8 [0,5,5] k)])),(117,i 3),(118,i 2)] (SC z).σ,m:=[(920,.row 20 1 6 (GZ wl0)),(921,.row 20 1 3 (GZ wl1)),(922,.row 20 1 1 (GZ wl2)),(923,.row 20 1 1 (GZ wl3)),(911,.row 5 1 42 (DO rp0)),(14,.cells 104 [.ptr 14 0,.row 911])],nx:=930}
 |_=>{σ:=H5 [(116,.lst 2 3 (λk=>[i (U8 [0,1,-3] k),i (U8 [0,5,5] k)])),(117,i 3),(118,i 3)] (SC z).σ,m:=X2,nx:=930}
def RG:G6->Option St
 | .exit 2=>some {σ:=H5 [(116,.lst 2 3 (λk=>[i (U8 [0,1,-3] k),i (U8 [0,5,5] k)])),(117,i 3),(118,i 3)] (SC z).σ,m:=X2,nx:=930}
 |_=>none
def lW:CT:= .leaf (.exit 2,(RG z (.exit 2)).getD (SC z))
def Xb6:UF:=GI QE (HB (RU z 0) (lW z))
abbrev WB:AV:=lst 2 3 λk=>[iI (U8 [(0:Int),1,-3] k),iI (U8 [(0:Int),5,5] k)]
abbrev WY:List Int:=[(0:Int),1,-3]
abbrev Z8:List Int:=[(0:Int),5,5]
theorem Zj6:PG (HW VN QV Q8 [] QE SE (RU z 0) (RU z 1) (RG z))=(let A:=([AV.x (.iface 9 (.string ({data:=List.toArray (Lib.itoa (U8 WY (0:Int).toNat)) }++{data:=#[46,46] }++{data:=List.toArray (Lib.itoa (U8 Z8 (0:Int).toNat)) })))]);(need [UE 0 3] (need [(0:Int)<=U8 WY (0:Int).toNat/\U8 WY (0:Int).toNat<=1000\/(-1000:Int)<=U8 WY (0:Int).toNat/\U8 WY (0:Int).toNat<=1000,(-1000:Int)<=U8 Z8 (0:Int).toNat/\U8 Z8 (0:Int).toNat<=1000,4<=100] (need [32<=140737488355328,∀(i:Nat),i<1-> ∀(a:AV),a∈U3 1 A i->AV.one a=true] (need [VK ((0:Int)+1)] (need [Q6,WF,QN,Z0,Z1,Z2,Z3,WB=WB,XL,(0:Int)+1=1,6=6,GO 6 (GZ wl0),2=2,GU 2 (GD 1 (GZ wl1) (U3 1 A)) (GZ wl1),1=1,GO 1 (GZ wl2),1=1,GO 1 (GZ wl3),42=42,GO 42 (DO rp0),WF,X4] (leaf G6.normal))))))):=by
 kernel_rfl
theorem Zj5:PG (HW VN QV Q8 [] QE SE (RU z 1) (RU z 2) (RG z))=(let A:=([AV.x (.iface 9 (.string ({data:=List.toArray (Lib.itoa (U8 WY (1:Int).toNat)) }++{data:=#[46,46] }++{data:=List.toArray (Lib.itoa (U8 Z8 (1:Int).toNat)) })))]);(need [UE 1 3] (need [(0:Int)<=U8 WY (1:Int).toNat/\U8 WY (1:Int).toNat<=1000\/(-1000:Int)<=U8 WY (1:Int).toNat/\U8 WY (1:Int).toNat<=1000,(-1000:Int)<=U8 Z8 (1:Int).toNat/\U8 Z8 (1:Int).toNat<=1000,4<=100] (need [48<=140737488355328,∀(i:Nat),i<1-> ∀(a:AV),a∈U3 1 A i->AV.one a=true] (need [VK ((1:Int)+1)] (need [Q6,WF,QN,Z0,Z1,Z2,Z3,WB=WB,XL,(1:Int)+1=2,6=6,GO 6 (GZ wl0),3=3,GU 3 (GD 2 (GZ wl1) (U3 1 A)) (GZ wl1),1=1,GO 1 (GZ wl2),1=1,GO 1 (GZ wl3),42=42,GO 42 (DO rp0),WF,X4] (leaf G6.normal))))))):=by
 kernel_rfl
theorem Zj4:PG (HW VN QV Q8 [] QE SE (RU z 2) (RU z 3) (RG z))=(let A:=([AV.x (.iface 9 (.string ({data:=List.toArray (Lib.itoa (U8 WY (2:Int).toNat)) }++{data:=#[46,46] }++{data:=List.toArray (Lib.itoa (U8 Z8 (2:Int).toNat)) })))]);(need [UE 2 3] (need [(0:Int)<=U8 WY (2:Int).toNat/\U8 WY (2:Int).toNat<=1000\/(-1000:Int)<=U8 WY (2:Int).toNat/\U8 WY (2:Int).toNat<=1000,(-1000:Int)<=U8 Z8 (2:Int).toNat/\U8 Z8 (2:Int).toNat<=1000,5<=100] (need [64<=140737488355328,∀(i:Nat),i<1-> ∀(a:AV),a∈U3 1 A i->AV.one a=true] (need [VK ((2:Int)+1)] (need [Q6,WF,QN,Z0,Z1,Z2,Z3,WB=WB,XL,(2:Int)+1=3,6=6,GO 6 (GZ wl0),4=4,GU 4 (GD 3 (GZ wl1) (U3 1 A)) (GZ wl1),1=1,GO 1 (GZ wl2),1=1,GO 1 (GZ wl3),42=42,GO 42 (DO rp0),WF,X4] (leaf G6.normal))))))):=by
 kernel_rfl
theorem Zj3:PG (HW VN QV Q8 [] QE SE (RU z 3) (RU z 3) (RG z))=(need [Q6,WF,QN,Z0,Z1,Z2,Z3,WB=WB,XL,XL,6=6,GO 6 (GZ wl0),4=4,GO 4 (GZ wl1),1=1,GO 1 (GZ wl2),1=1,GO 1 (GZ wl3),42=42,GO 42 (DO rp0),WF,X4] (leaf (G6.exit 2))):=by
 kernel_rfl
theorem Zj7:G0 VN (.loop SE) (Xb6 z):=by
 refine UP QE (L:=[]) (Ae y7 (Ae kV (Ae kM (Ae xA Aa)))) (Aj (Af kZ (Af F8 (Af RD (Af LZ Ab)))) (Ag xB (Ag kL Ac)) (Ah wY (Ah dK (UA.nil _)))) VX U1 (X:=Nat) (RU z) (λk=>k<=3) (λk=>4-k) (λ_=>RG z) (x0:=0) (Ao _) ?_ ?_ ?_;intro k
 match k with
 | 0=>
  show Sx.okB (RU z 0)=true;kernel_rfl
 | 1=>
  show Sx.okB (RU z 1)=true;kernel_rfl
 | 2=>
  show Sx.okB (RU z 2)=true;kernel_rfl
 |k+3=>
  show Sx.okB (RU z 3)=true;kernel_rfl
 intro k y E h;unfold RG at h;split at h;cases h;kernel_rfl;cases h;intro Q hQ k hx
 match k with
 | 0=>
  refine ⟨1,?_⟩
  with_reducible refine H0 ?_
  rw [Zj6];simp only [lW,RG,VL.sat,GR] at hQ;simp only [VL.sat,U9,UG,VK,RG];exact YV
 | 1=>
  refine ⟨2,?_⟩
  with_reducible refine H0 ?_
  rw [Zj5];simp only [lW,RG,VL.sat,GR] at hQ;simp only [VL.sat,U9,UG,VK,RG];exact YV
 | 2=>
  refine ⟨3,?_⟩
  with_reducible refine H0 ?_
  rw [Zj4];simp only [lW,RG,VL.sat,GR] at hQ;simp only [VL.sat,U9,UG,VK,RG];exact YV
 | 3=>
  refine ⟨3,?_⟩
  with_reducible refine H0 ?_
  rw [Zj3];simp only [lW,RG,VL.sat,GR] at hQ;simp only [VL.sat,U9,UG,VK,RG];exact YV
 |k+4=>omega
end
def Qj8(z:Nat):St:=((some {σ:=mkS 198 [(0,.top),(5,.ro (hsL VU)),(7,.ptr 14 0),(8,.fn (.func 40) [] [.ptr 14 0]),(9,.row 920),(10,.row 921),(11,.row 922),(12,.row 923),(136,hsC VU),(137,i 1),(138,i 0)],m:=X2,nx:=930}:Option St):Option St).getD {σ:=[],m:=[],nx:=0}
noncomputable def Qk4:Code:=U7 (VQ (U6 Tryz.f12) 2)
abbrev X3:GY:=[(920,.row 20 1 6 (GZ wl0)),(921,.row 20 1 4 (GZ wl1)),(922,.row 20 1 2 (GZ wl2)),(923,.row 20 1 1 (GZ wl3)),(911,.row 5 1 42 (DO rp0)),(14,.cells 104 [.ptr 14 0,.row 911])]
section
variable (z:Nat)
def qY:Nat->St
 | 0=>{σ:=H5 [(136,hsC VU),(137,i 1),(138,i 0)] (Qj8 z).σ,m:=X2,nx:=930}
 |_=>{σ:=H5 [(136,hsC VU),(137,i 1),(138,i 1)] (Qj8 z).σ,m:=X3,nx:=930}
def BP:G6->Option St
 | .exit 4=>some {σ:=H5 [(136,hsC VU),(137,i 1),(138,i 1)] (Qj8 z).σ,m:=X3,nx:=930}
 |_=>none
def Wx9:CT:= .leaf (.exit 4,(BP z (.exit 4)).getD (Qj8 z))
def Xb5:UF:=GI QE (HB (qY z 0) (Wx9 z))
abbrev YH:AV:=agg [hR 2 VU,iI VU.pl,iI VU.ph,hY 2 VU,hC 1 VU,hT 2 VU]
theorem Zj1:PG (HW VN QV Q8 [] QE Qk4 (qY z 0) (qY z 1) (BP z))=(need [UE 0 VU.nc] (need [[YH,agg [iI (VU.ca (0:Int).toNat),iI (VU.cb (0:Int).toNat),iI (VU.cc (0:Int).toNat),iI (VU.cd (0:Int).toNat),AV.x (.bool (VU.cv (0:Int).toNat))],iI (VU.cd (0:Int).toNat)]=[YH,agg [iI (VU.ca 0),iI (VU.cb 0),iI (VU.cc 0),iI (VU.cd 0),AV.x (.bool (VU.cv 0))],iI (VU.cd 0)]] (need [32<=140737488355328,RH 1 (U3 1 [AV.x (.iface 3 (X5))])] (need [VK ((0:Int)+1)] (need [Q6,WF,QN,Z0,Z1,Z2,Z3,VY (hC 1 VU),KO,(0:Int)+1=1,6=6,GO 6 (GZ wl0),4=4,GO 4 (GZ wl1),2=2,GU 2 (GD 1 (GZ wl2) (U3 1 [AV.x (.iface 3 (X5))])) (GZ wl2),1=1,GO 1 (GZ wl3),42=42,GO 42 (DO rp0),WF,X4] (leaf G6.normal)))))):=by
 kernel_rfl
theorem Zj0:PG (HW VN QV Q8 [] QE Qk4 (qY z 1) (qY z 1) (BP z))=(need [Q6,WF,QN,Z0,Z1,Z2,Z3,VY (hC 1 VU),KO,KO,6=6,GO 6 (GZ wl0),4=4,GO 4 (GZ wl1),2=2,GO 2 (GZ wl2),1=1,GO 1 (GZ wl3),42=42,GO 42 (DO rp0),WF,X4] (leaf (G6.exit 4))):=by
 kernel_rfl
theorem Zj2:G0 VN (.loop Qk4) (Xb5 z):=by
 refine UP QE (L:=[]) (Ae y7 (Ae kV (Ae kM (Ae xA Aa)))) (Aj (Af kZ (Af F8 (Af RD (Af LZ Ab)))) (Ag xB (Ag kL Ac)) (Ah wY (Ah dK (UA.nil _)))) VX U1 (X:=Nat) (qY z) (λk=>k<=1) (λk=>2-k) (λ_=>BP z) (x0:=0) (Ao _) ?_ ?_ ?_;intro k
 match k with
 | 0=>
  show Sx.okB (qY z 0)=true;kernel_rfl
 |k+1=>
  show Sx.okB (qY z 1)=true;kernel_rfl
 intro k y E h;unfold BP at h;split at h;cases h;kernel_rfl;cases h;intro Q hQ k hx
 match k with
 | 0=>
  refine ⟨1,?_⟩
  with_reducible refine H0 ?_
  rw [Zj1];simp only [Wx9,BP,VL.sat,GR] at hQ;simp only [VL.sat,U9,UG,VK,BP];exact YV
 | 1=>
  refine ⟨1,?_⟩
  with_reducible refine H0 ?_
  rw [Zj0];simp only [Wx9,BP,VL.sat,GR] at hQ;simp only [VL.sat,U9,UG,VK,BP];exact YV
 |k+2=>omega
end
def MF(z:Nat):St:=((some {σ:=mkS 198 [(0,.top),(5,.ro (hsL VU)),(7,.ptr 14 0),(8,.fn (.func 40) [] [.ptr 14 0]),(9,.row 920),(10,.row 921),(11,.row 922),(12,.row 923),(162,i 4),(163,i 0)],m:=X3,nx:=930}:Option St):Option St).getD {σ:=[],m:=[],nx:=0}
noncomputable def MH:Code:=U7 (VQ (U6 Tryz.f12) 3)
abbrev JI:GY:=[(920,.row 20 1 6 (GZ wl0)),(921,.row 20 1 4 (GZ wl1)),(922,.row 20 1 2 (GZ wl2)),(923,.row 20 1 5 (GZ wl3)),(911,.row 5 1 42 (DO rp0)),(14,.cells 104 [.ptr 14 0,.row 911])]
section
variable (z:Nat)
def FN:Nat->St
 | 0=>{σ:=H5 [(162,i 4),(163,i 0)] (MF z).σ,m:=X3,nx:=930}
 | 1=>{σ:=H5 [(162,i 4),(163,i 1)] (MF z).σ,m:=[(920,.row 20 1 6 (GZ wl0)),(921,.row 20 1 4 (GZ wl1)),(922,.row 20 1 2 (GZ wl2)),(923,.row 20 1 2 (GZ wl3)),(911,.row 5 1 42 (DO rp0)),(14,.cells 104 [.ptr 14 0,.row 911])],nx:=930}
 | 2=>{σ:=H5 [(162,i 4),(163,i 2)] (MF z).σ,m:=[(920,.row 20 1 6 (GZ wl0)),(921,.row 20 1 4 (GZ wl1)),(922,.row 20 1 2 (GZ wl2)),(923,.row 20 1 3 (GZ wl3)),(911,.row 5 1 42 (DO rp0)),(14,.cells 104 [.ptr 14 0,.row 911])],nx:=930}
 | 3=>{σ:=H5 [(162,i 4),(163,i 3)] (MF z).σ,m:=[(920,.row 20 1 6 (GZ wl0)),(921,.row 20 1 4 (GZ wl1)),(922,.row 20 1 2 (GZ wl2)),(923,.row 20 1 4 (GZ wl3)),(911,.row 5 1 42 (DO rp0)),(14,.cells 104 [.ptr 14 0,.row 911])],nx:=930}
 |_=>{σ:=H5 [(162,i 4),(163,i 4)] (MF z).σ,m:=JI,nx:=930}
def FC:G6->Option St
 | .exit 6=>some {σ:=H5 [(162,i 4),(163,i 4)] (MF z).σ,m:=JI,nx:=930}
 |_=>none
def OZ:CT:= .leaf (.exit 6,(FC z (.exit 6)).getD (MF z))
def Xb4:UF:=GI QE (HB (FN z 0) (OZ z))
abbrev ZP:AV:=agg [iI 4,iI 10,hT 2 VU]
abbrev ZS:List Int:=[(4:Int),2,4,0]
abbrev Y8:Prop:=iI 100=iI 100
theorem Zi8:PG (HW VN QV Q8 [] QE MH (FN z 0) (FN z 1) (FC z))=(let A:=([AV.x (.iface 3 (.int .i64 (U8 ZS (0:Int).toNat)))]);(need [ZP=ZP,Y8,(0:Int)<=0/\(0:Int)<=3] (need [32<=140737488355328,∀(i:Nat),i<1-> ∀(a:AV),a∈U3 1 A i->AV.one a=true] (need [VK ((0:Int)+1)] (need [Q6,WF,QN,Z0,Z1,Z2,Z3,W5,(0:Int)+1=1,6=6,GO 6 (GZ wl0),4=4,GO 4 (GZ wl1),2=2,GO 2 (GZ wl2),2=2,GU 2 (GD 1 (GZ wl3) (U3 1 A)) (GZ wl3),42=42,GO 42 (DO rp0),WF,X4] (leaf G6.normal)))))):=by
 kernel_rfl
theorem Zi7:PG (HW VN QV Q8 [] QE MH (FN z 1) (FN z 2) (FC z))=(let A:=([AV.x (.iface 3 (.int .i64 (U8 ZS (1:Int).toNat)))]);(need [ZP=ZP,Y8,(0:Int)<=1/\(1:Int)<=3] (need [48<=140737488355328,∀(i:Nat),i<1-> ∀(a:AV),a∈U3 1 A i->AV.one a=true] (need [VK ((1:Int)+1)] (need [Q6,WF,QN,Z0,Z1,Z2,Z3,W5,(1:Int)+1=2,6=6,GO 6 (GZ wl0),4=4,GO 4 (GZ wl1),2=2,GO 2 (GZ wl2),3=3,GU 3 (GD 2 (GZ wl3) (U3 1 A)) (GZ wl3),42=42,GO 42 (DO rp0),WF,X4] (leaf G6.normal)))))):=by
 kernel_rfl
theorem Zi6:PG (HW VN QV Q8 [] QE MH (FN z 2) (FN z 3) (FC z))=(let A:=([AV.x (.iface 3 (.int .i64 (U8 ZS (2:Int).toNat)))]);(need [ZP=ZP,Y8,(0:Int)<=2/\(2:Int)<=3] (need [64<=140737488355328,∀(i:Nat),i<1-> ∀(a:AV),a∈U3 1 A i->AV.one a=true] (need [VK ((2:Int)+1)] (need [Q6,WF,QN,Z0,Z1,Z2,Z3,W5,(2:Int)+1=3,6=6,GO 6 (GZ wl0),4=4,GO 4 (GZ wl1),2=2,GO 2 (GZ wl2),4=4,GU 4 (GD 3 (GZ wl3) (U3 1 A)) (GZ wl3),42=42,GO 42 (DO rp0),WF,X4] (leaf G6.normal)))))):=by
 kernel_rfl
theorem Zi5:PG (HW VN QV Q8 [] QE MH (FN z 3) (FN z 4) (FC z))=(let A:=([AV.x (.iface 3 (.int .i64 (U8 ZS (3:Int).toNat)))]);(need [ZP=ZP,Y8,(0:Int)<=3/\(3:Int)<=3] (need [80<=140737488355328,∀(i:Nat),i<1-> ∀(a:AV),a∈U3 1 A i->AV.one a=true] (need [VK ((3:Int)+1)] (need [Q6,WF,QN,Z0,Z1,Z2,Z3,W5,(3:Int)+1=4,6=6,GO 6 (GZ wl0),4=4,GO 4 (GZ wl1),2=2,GO 2 (GZ wl2),5=5,GU 5 (GD 4 (GZ wl3) (U3 1 A)) (GZ wl3),42=42,GO 42 (DO rp0),WF,X4] (leaf G6.normal)))))):=by
 kernel_rfl
theorem Zi4:PG (HW VN QV Q8 [] QE MH (FN z 4) (FN z 4) (FC z))=(need [Q6,WF,QN,Z0,Z1,Z2,Z3,W5,W5,6=6,GO 6 (GZ wl0),4=4,GO 4 (GZ wl1),2=2,GO 2 (GZ wl2),5=5,GO 5 (GZ wl3),42=42,GO 42 (DO rp0),WF,X4] (leaf (G6.exit 6))):=by
 kernel_rfl
theorem Zi9:G0 VN (.loop MH) (Xb4 z):=by
 refine UP QE (L:=[]) (Ae y7 (Ae kV (Ae kM (Ae xA Aa)))) (Aj (Af kZ (Af F8 (Af RD (Af LZ Ab)))) (Ag xB (Ag kL Ac)) (Ah wY (Ah dK (UA.nil _)))) VX U1 (X:=Nat) (FN z) (λk=>k<=4) (λk=>5-k) (λ_=>FC z) (x0:=0) (Ao _) ?_ ?_ ?_;intro k
 match k with
 | 0=>
  show Sx.okB (FN z 0)=true;kernel_rfl
 | 1=>
  show Sx.okB (FN z 1)=true;kernel_rfl
 | 2=>
  show Sx.okB (FN z 2)=true;kernel_rfl
 | 3=>
  show Sx.okB (FN z 3)=true;kernel_rfl
 |k+4=>
  show Sx.okB (FN z 4)=true;kernel_rfl
 intro k y E h;unfold FC at h;split at h;cases h;kernel_rfl;cases h;intro Q hQ k hx
 match k with
 | 0=>
  refine ⟨1,?_⟩
  with_reducible refine H0 ?_
  rw [Zi8];simp only [OZ,FC,VL.sat,GR] at hQ;simp only [VL.sat,U9,UG,VK,FC];exact YV
 | 1=>
  refine ⟨2,?_⟩
  with_reducible refine H0 ?_
  rw [Zi7];simp only [OZ,FC,VL.sat,GR] at hQ;simp only [VL.sat,U9,UG,VK,FC];exact YV
 | 2=>
  refine ⟨3,?_⟩
  with_reducible refine H0 ?_
  rw [Zi6];simp only [OZ,FC,VL.sat,GR] at hQ;simp only [VL.sat,U9,UG,VK,FC];exact YV
 | 3=>
  refine ⟨4,?_⟩
  with_reducible refine H0 ?_
  rw [Zi5];simp only [OZ,FC,VL.sat,GR] at hQ;simp only [VL.sat,U9,UG,VK,FC];exact YV
 | 4=>
  refine ⟨4,?_⟩
  with_reducible refine H0 ?_
  rw [Zi4];simp only [OZ,FC,VL.sat,GR] at hQ;simp only [VL.sat,U9,UG,VK,FC];exact YV
 |k+5=>omega
end
abbrev JL:GY:=[(925,.row 105 1 4 (U3 1 [.lst 1 6 (GZ wl0),.lst 1 4 (GZ wl1),.lst 1 2 (GZ wl2),.lst 1 5 (GZ wl3)])),(911,.row 5 1 42 (DO rp0)),(14,.cells 104 [.ptr 14 0,.row 911])]
def ME(z:Nat):St:=((some {σ:=mkS 198 [(0,.top),(5,.ro (hsL VU)),(7,.ptr 14 0),(8,.fn (.func 40) [] [.ptr 14 0]),(187,.row 925),(188,i 4),(189,i 0)],m:=JL,nx:=930}:Option St):Option St).getD {σ:=[],m:=[],nx:=0}
noncomputable def MG:Code:=U7 (VQ (U6 Tryz.f12) 4)
abbrev JK:GY:=[(925,.row 105 1 4 (U3 1 [.lst 1 6 (GZ wl0),.lst 1 4 (GZ wl1),.lst 1 2 (GZ wl2),.lst 1 5 (GZ wl3)])),(911,.row 5 1 136 (DO rp4)),(14,.cells 104 [.ptr 14 0,.row 911])]
section
variable (z:Nat)
def FM:Nat->St
 | 0=>{σ:=H5 [(187,.row 925),(188,i 4),(189,i 0)] (ME z).σ,m:=JL,nx:=930}
 | 1=>{σ:=H5 [(187,.row 925),(188,i 4),(189,i 1)] (ME z).σ,m:=[(925,.row 105 1 4 (U3 1 [.lst 1 6 (GZ wl0),.lst 1 4 (GZ wl1),.lst 1 2 (GZ wl2),.lst 1 5 (GZ wl3)])),(911,.row 5 1 91 (DO rp1)),(14,.cells 104 [.ptr 14 0,.row 911])],nx:=930}
 | 2=>{σ:=H5 [(187,.row 925),(188,i 4),(189,i 2)] (ME z).σ,m:=[(925,.row 105 1 4 (U3 1 [.lst 1 6 (GZ wl0),.lst 1 4 (GZ wl1),.lst 1 2 (GZ wl2),.lst 1 5 (GZ wl3)])),(911,.row 5 1 115 (DO rp2)),(14,.cells 104 [.ptr 14 0,.row 911])],nx:=930}
 | 3=>{σ:=H5 [(187,.row 925),(188,i 4),(189,i 3)] (ME z).σ,m:=[(925,.row 105 1 4 (U3 1 [.lst 1 6 (GZ wl0),.lst 1 4 (GZ wl1),.lst 1 2 (GZ wl2),.lst 1 5 (GZ wl3)])),(911,.row 5 1 123 (DO rp3)),(14,.cells 104 [.ptr 14 0,.row 911])],nx:=930}
 |_=>{σ:=H5 [(187,.row 925),(188,i 4),(189,i 4)] (ME z).σ,m:=JK,nx:=930}
def FB:G6->Option St
 | .exit 8=>some {σ:=H5 [(187,.row 925),(188,i 4),(189,i 4)] (ME z).σ,m:=JK,nx:=930}
 |_=>none
def OY:CT:= .leaf (.exit 8,(FB z (.exit 8)).getD (ME z))
def Xb3:UF:=GI [(.slot 187,925,105,1),(.cell 14 1,911,5,1)] (HB (FM z 0) (OY z))
abbrev WT:List AV:=[AV.x (.string {data:=#[(48:UInt8),(46:UInt8),(46:UInt8),(48:UInt8)] })]
abbrev XJ:List AV:=[AV.x (.string {data:=#[(49:UInt8),(48:UInt8),(48:UInt8),(48:UInt8),(46:UInt8),(46:UInt8),(49:UInt8),(48:UInt8),(48:UInt8),(48:UInt8)] })]
abbrev XT:List AV:=[AV.x (.string {data:=#[(50:UInt8),(48:UInt8),(48:UInt8),(46:UInt8),(46:UInt8),(51:UInt8),(48:UInt8),(48:UInt8)] })]
abbrev XU:List AV:=[AV.x (.string {data:=#[(52:UInt8),(49:UInt8),(48:UInt8),(46:UInt8),(46:UInt8),(53:UInt8),(49:UInt8),(48:UInt8)] })]
abbrev XV:List AV:=[AV.x (.string {data:=#[(55:UInt8),(48:UInt8),(48:UInt8),(46:UInt8),(46:UInt8),(56:UInt8),(48:UInt8),(48:UInt8)] })]
abbrev Z6:Value:=Value.string {data:=#[(109:UInt8),(97:UInt8),(114:UInt8),(107:UInt8),(115:UInt8)] }
abbrev J8:List (Pl×Nat×TypeId×Nat):=[(.slot 187,925,105,1),(.cell 14 1,911,5,1)]
abbrev KZ:Prop:=AV.row 925=AV.row 925
theorem Zi2:PG (HW VN QV Q8 [] J8 MG (FM z 0) (FM z 1) (FB z))=(let A:=([lst 1 6 λk=>[Option.rec (top) (λval=>(λval=>(λx=>x) val) val) wl0[k]?],lst 1 4 λk=>[Option.rec (top) (λval=>(λval=>(λx=>x) val) val) wl1[k]?],lst 1 2 λk=>[Option.rec (top) (λval=>(λval=>(λx=>x) val) val) wl2[k]?],lst 1 5 λk=>[Option.rec (top) (λval=>(λval=>(λx=>x) val) val) wl3[k]?]]);let z1:=(GD 5 (GD 4 (GD 3 (GD 2 (GD 1 (GD 0 (λx=>[]) (U3 1 [AV.x (Z6)])) (U3 1 WT)) (U3 1 XT)) (U3 1 XU)) (U3 1 XV)) (U3 1 XJ));(need [UE 0 4] (need [(0:Int).toNat<4] (need [UE 0 6] (need [16<=140737488355328,RH 1 (U3 1 [AV.x (Z6)])] (need [VK ((0:Int)+1)] (need [(0:Int)<=0+1/\(0:Int)+1<((6:Nat):Int)] (need [32<=140737488355328,∀(i:Nat),i<1-> ∀(a:AV),a∈U3 1 WT i->AV.one a=true] (need [VK ((0:Int)+1+1)] (need [(0:Int)<=0+1+1/\(0:Int)+1+1<((6:Nat):Int)] (need [48<=140737488355328,∀(i:Nat),i<1-> ∀(a:AV),a∈U3 1 XT i->AV.one a=true] (need [VK ((0:Int)+1+1+1)] (need [(0:Int)<=0+1+1+1/\(0:Int)+1+1+1<((6:Nat):Int)] (need [64<=140737488355328,∀(i:Nat),i<1-> ∀(a:AV),a∈U3 1 XU i->AV.one a=true] (need [VK ((0:Int)+1+1+1+1)] (need [(0:Int)<=0+1+1+1+1/\(0:Int)+1+1+1+1<((6:Nat):Int)] (need [80<=140737488355328,∀(i:Nat),i<1-> ∀(a:AV),a∈U3 1 XV i->AV.one a=true] (need [VK ((0:Int)+1+1+1+1+1)] (need [(0:Int)<=0+1+1+1+1+1/\(0:Int)+1+1+1+1+1<((6:Nat):Int)] (need [96<=140737488355328,∀(i:Nat),i<1-> ∀(a:AV),a∈U3 1 XJ i->AV.one a=true] (need [VK ((0:Int)+1+1+1+1+1+1)] (need [6<=100000,jT 6 z1,ByteArray.size (jnB 6 z1 {data:=#[32] })<=140737488355328] (need [((49:Nat):Int)<=9223372036854775807] (need [91<=140737488355328] (need [VK ((0:Int)+1)] (need [Q6,WF,QN,KZ,W5,(0:Int)+1=1,4=4,GO 4 (U3 1 A),91=91,GU 91 (GD 42 (DO rp0) (DO (jnB 6 z1 {data:=#[32] }++{data:=#[10] }))) (DO rp1),WF,X4] (leaf G6.normal))))))))))))))))))))))))))):=by
 kernel_rfl
abbrev XK:Value:=Value.string {data:=#[(111:UInt8),(102:UInt8),(102:UInt8),(115:UInt8),(101:UInt8),(116:UInt8),(115:UInt8)] }
abbrev ZL:List AV:=[AV.x (.string {data:=#[(45:UInt8),(51:UInt8),(46:UInt8),(46:UInt8),(53:UInt8)] })]
abbrev ZX:List AV:=[AV.x (.string {data:=#[(49:UInt8),(46:UInt8),(46:UInt8),(53:UInt8)] })]
theorem Zi1:PG (HW VN QV Q8 [] J8 MG (FM z 1) (FM z 2) (FB z))=(let A:=([lst 1 6 λk=>[Option.rec (top) (λval=>(λval=>(λx=>x) val) val) wl0[k]?],lst 1 4 λk=>[Option.rec (top) (λval=>(λval=>(λx=>x) val) val) wl1[k]?],lst 1 2 λk=>[Option.rec (top) (λval=>(λval=>(λx=>x) val) val) wl2[k]?],lst 1 5 λk=>[Option.rec (top) (λval=>(λval=>(λx=>x) val) val) wl3[k]?]]);let z1:=(GD 3 (GD 2 (GD 1 (GD 0 (λx=>[]) (U3 1 [AV.x (XK)])) (U3 1 WT)) (U3 1 ZX)) (U3 1 ZL));(need [UE 1 4] (need [(1:Int).toNat<4] (need [UE 0 4] (need [16<=140737488355328,RH 1 (U3 1 [AV.x (XK)])] (need [VK ((0:Int)+1)] (need [(0:Int)<=0+1/\(0:Int)+1<((4:Nat):Int)] (need [32<=140737488355328,∀(i:Nat),i<1-> ∀(a:AV),a∈U3 1 WT i->AV.one a=true] (need [VK ((0:Int)+1+1)] (need [(0:Int)<=0+1+1/\(0:Int)+1+1<((4:Nat):Int)] (need [48<=140737488355328,∀(i:Nat),i<1-> ∀(a:AV),a∈U3 1 ZX i->AV.one a=true] (need [VK ((0:Int)+1+1+1)] (need [(0:Int)<=0+1+1+1/\(0:Int)+1+1+1<((4:Nat):Int)] (need [64<=140737488355328,∀(i:Nat),i<1-> ∀(a:AV),a∈U3 1 ZL i->AV.one a=true] (need [VK ((0:Int)+1+1+1+1)] (need [4<=100000,jT 4 z1,ByteArray.size (jnB 4 z1 {data:=#[32] })<=140737488355328] (need [((24:Nat):Int)<=9223372036854775807] (need [115<=140737488355328] (need [VK ((1:Int)+1)] (need [Q6,WF,QN,KZ,W5,(1:Int)+1=2,4=4,GO 4 (U3 1 A),115=115,GU 115 (GD 91 (DO rp1) (DO (jnB 4 z1 {data:=#[32] }++{data:=#[10] }))) (DO rp2),WF,X4] (leaf G6.normal))))))))))))))))))))):=by
 kernel_rfl
abbrev XR:List AV:=[AV.x (.string {data:=List.toArray (Lib.itoa (0:Int)) })]
abbrev Z7:Value:=Value.string {data:=#[(115:UInt8),(116:UInt8),(97:UInt8),(110:UInt8),(100:UInt8)] }
theorem Zi0:PG (HW VN QV Q8 [] J8 MG (FM z 2) (FM z 3) (FB z))=(let A:=([lst 1 6 λk=>[Option.rec (top) (λval=>(λval=>(λx=>x) val) val) wl0[k]?],lst 1 4 λk=>[Option.rec (top) (λval=>(λval=>(λx=>x) val) val) wl1[k]?],lst 1 2 λk=>[Option.rec (top) (λval=>(λval=>(λx=>x) val) val) wl2[k]?],lst 1 5 λk=>[Option.rec (top) (λval=>(λval=>(λx=>x) val) val) wl3[k]?]]);let z1:=(GD 1 (GD 0 (λx=>[]) (U3 1 [AV.x (Z7)])) (U3 1 XR));(need [UE 2 4] (need [(2:Int).toNat<4] (need [UE 0 2] (need [16<=140737488355328,RH 1 (U3 1 [AV.x (Z7)])] (need [VK ((0:Int)+1)] (need [(0:Int)<=0+1/\(0:Int)+1<((2:Nat):Int)] (need [VK (0:Int)] (need [32<=140737488355328,∀(i:Nat),i<1-> ∀(a:AV),a∈U3 1 XR i->AV.one a=true] (need [VK ((0:Int)+1+1)] (need [2<=100000,jT 2 z1,ByteArray.size (jnB 2 z1 {data:=#[32] })<=140737488355328] (need [((8:Nat):Int)<=9223372036854775807] (need [123<=140737488355328] (need [VK ((2:Int)+1)] (need [Q6,WF,QN,KZ,W5,(2:Int)+1=3,4=4,GO 4 (U3 1 A),123=123,GU 123 (GD 115 (DO rp2) (DO (jnB 2 z1 {data:=#[32] }++{data:=#[10] }))) (DO rp3),WF,X4] (leaf G6.normal)))))))))))))))):=by
 kernel_rfl
abbrev XS:List AV:=[AV.x (.string {data:=List.toArray (Lib.itoa (4:Int)) })]
abbrev ZF:Value:=Value.string {data:=#[(104:UInt8),(111:UInt8),(108:UInt8),(100:UInt8)] }
abbrev JF:List AV:=[AV.x (.string {data:=List.toArray (Lib.itoa (2:Int)) })]
theorem Zh9:PG (HW VN QV Q8 [] J8 MG (FM z 3) (FM z 4) (FB z))=(let A:=([lst 1 6 λk=>[Option.rec (top) (λval=>(λval=>(λx=>x) val) val) wl0[k]?],lst 1 4 λk=>[Option.rec (top) (λval=>(λval=>(λx=>x) val) val) wl1[k]?],lst 1 2 λk=>[Option.rec (top) (λval=>(λval=>(λx=>x) val) val) wl2[k]?],lst 1 5 λk=>[Option.rec (top) (λval=>(λval=>(λx=>x) val) val) wl3[k]?]]);let z1:=(GD 4 (GD 3 (GD 2 (GD 1 (GD 0 (λx=>[]) (U3 1 [AV.x (ZF)])) (U3 1 XS)) (U3 1 JF)) (U3 1 XS)) (U3 1 XR));(need [UE 3 4] (need [(3:Int).toNat<4] (need [UE 0 5] (need [16<=140737488355328,RH 1 (U3 1 [AV.x (ZF)])] (need [VK ((0:Int)+1)] (need [(0:Int)<=0+1/\(0:Int)+1<((5:Nat):Int)] (need [VK (4:Int)] (need [32<=140737488355328,∀(i:Nat),i<1-> ∀(a:AV),a∈U3 1 XS i->AV.one a=true] (need [VK ((0:Int)+1+1)] (need [(0:Int)<=0+1+1/\(0:Int)+1+1<((5:Nat):Int)] (need [VK (2:Int)] (need [48<=140737488355328,∀(i:Nat),i<1-> ∀(a:AV),a∈U3 1 JF i->AV.one a=true] (need [VK ((0:Int)+1+1+1)] (need [(0:Int)<=0+1+1+1/\(0:Int)+1+1+1<((5:Nat):Int)] (need [VK (4:Int)] (need [64<=140737488355328,∀(i:Nat),i<1-> ∀(a:AV),a∈U3 1 XS i->AV.one a=true] (need [VK ((0:Int)+1+1+1+1)] (need [(0:Int)<=0+1+1+1+1/\(0:Int)+1+1+1+1<((5:Nat):Int)] (need [VK (0:Int)] (need [80<=140737488355328,∀(i:Nat),i<1-> ∀(a:AV),a∈U3 1 XR i->AV.one a=true] (need [VK ((0:Int)+1+1+1+1+1)] (need [5<=100000,jT 5 z1,ByteArray.size (jnB 5 z1 {data:=#[32] })<=140737488355328] (need [((13:Nat):Int)<=9223372036854775807] (need [136<=140737488355328] (need [VK ((3:Int)+1)] (need [Q6,WF,QN,KZ,W5,(3:Int)+1=4,4=4,GO 4 (U3 1 A),136=136,GU 136 (GD 123 (DO rp3) (DO (jnB 5 z1 {data:=#[32] }++{data:=#[10] }))) (DO rp4),WF,X4] (leaf G6.normal)))))))))))))))))))))))))))):=by
 kernel_rfl
theorem Zh8:PG (HW VN QV Q8 [] J8 MG (FM z 4) (FM z 4) (FB z))=(let A:=([lst 1 6 λk=>[Option.rec (top) (λval=>(λval=>(λx=>x) val) val) wl0[k]?],lst 1 4 λk=>[Option.rec (top) (λval=>(λval=>(λx=>x) val) val) wl1[k]?],lst 1 2 λk=>[Option.rec (top) (λval=>(λval=>(λx=>x) val) val) wl2[k]?],lst 1 5 λk=>[Option.rec (top) (λval=>(λval=>(λx=>x) val) val) wl3[k]?]]);(need [Q6,WF,QN,KZ,W5,W5,4=4,GO 4 (U3 1 A),136=136,GO 136 (DO rp4),WF,X4] (leaf (G6.exit 8)))):=by
 kernel_rfl
theorem Zi3:G0 VN (.loop MG) (Xb3 z):=by
 refine UP J8 (L:=[]) (Ae y7 (Ae kV (Ae kM (Ae xA Aa)))) (Aj (Af kZ (Af F8 (Af RD (Af LZ Ab)))) (Ag xB (Ag kL Ac)) (Ah wY (Ah dK (UA.nil _)))) VX U1 (X:=Nat) (FM z) (λk=>k<=4) (λk=>5-k) (λ_=>FB z) (x0:=0) (Ao _) ?_ ?_ ?_;intro k
 match k with
 | 0=>
  show Sx.okB (FM z 0)=true;kernel_rfl
 | 1=>
  show Sx.okB (FM z 1)=true;kernel_rfl
 | 2=>
  show Sx.okB (FM z 2)=true;kernel_rfl
 | 3=>
  show Sx.okB (FM z 3)=true;kernel_rfl
 |k+4=>
  show Sx.okB (FM z 4)=true;kernel_rfl
 intro k y E h;unfold FB at h;split at h;cases h;kernel_rfl;cases h;intro Q hQ k hx
 match k with
 | 0=>
  refine ⟨1,?_⟩
  with_reducible refine H0 ?_
  rw [Zi2];simp only [OY,FB,VL.sat,GR] at hQ;simp only [VL.sat,U9,UG,VK,FB];exact YV
 | 1=>
  refine ⟨2,?_⟩
  with_reducible refine H0 ?_
  rw [Zi1];simp only [OY,FB,VL.sat,GR] at hQ;simp only [VL.sat,U9,UG,VK,FB];exact YV
 | 2=>
  refine ⟨3,?_⟩
  with_reducible refine H0 ?_
  rw [Zi0];simp only [OY,FB,VL.sat,GR] at hQ;simp only [VL.sat,U9,UG,VK,FB];exact YV
 | 3=>
  refine ⟨4,?_⟩
  with_reducible refine H0 ?_
  rw [Zh9];simp only [OY,FB,VL.sat,GR] at hQ;simp only [VL.sat,U9,UG,VK,FB];exact YV
 | 4=>
  refine ⟨4,?_⟩
  with_reducible refine H0 ?_
  rw [Zh8];simp only [OY,FB,VL.sat,GR] at hQ;simp only [VL.sat,U9,UG,VK,FB];exact YV
 |k+5=>omega
end
theorem vP{S:Code->UF->Prop}{c:Code}{s0 s1 s2 s3 s4:UF}(h0: ∀Z,VQ c 0=some Z->S Z s0)(h1: ∀Z,VQ c 1=some Z->S Z s1)(h2: ∀Z,VQ c 2=some Z->S Z s2)(h3: ∀Z,VQ c 3=some Z->S Z s3)(h4: ∀Z,VQ c 4=some Z->S Z s4):
  ∀j Z,VQ c j=some Z-> ∀sp,[s0,s1,s2,s3,s4][j]? =some sp->S Z sp:=by
 intro j Z hj sp I
 match j with
 | 0=>simp at I;subst I;exact h0 Z hj
 | 1=>simp at I;subst I;exact h1 Z hj
 | 2=>simp at I;subst I;exact h2 Z hj
 | 3=>simp at I;subst I;exact h3 Z hj
 | 4=>simp at I;subst I;exact h4 Z hj
 |j+5=>simp at I
theorem Zs2(B:ByteArray):bsO B.size (DO B)=B:=by
 unfold bsO;apply ByteArray.ext;apply Array.ext;show ((List.range B.size).map _).toArray.size=B.data.size;rw [List.size_toArray,Bm,List.length_range];rfl;intro j h1 h2;have h3:j<B.data.size:=h2;simp [DO,byO,byN,LV,Array.getElem?_eq_getElem h3]
abbrev YN:GY:=[(911,.row 5 1 42 (DO rp0)),(14,.cells 104 [.ptr 14 0,.row 911])]
def mO:St:={σ:=mkS 198 [(5,.ro (hsL VU)),(7,.ptr 14 0),(8,.fn (.func 40) [] [.ptr 14 0]),(9,.lst 1 6 (GZ wl0)),(10,.lst 1 4 (GZ wl1)),(11,.lst 1 2 (GZ wl2)),(12,.lst 1 5 (GZ wl3))],m:=YN,nx:=930}
def mP:St:={σ:=mkS 198 [(0,.top),(5,.ro (hsL VU)),(7,.ptr 14 0),(8,.fn (.func 40) [] [.ptr 14 0])],m:=YN,nx:=930}
abbrev WP:List AV:=[lst 1 11 λk=>[HV (UM U5 k)]]
abbrev WS:List AV:=[AV.x (.string {data:=#[(99:UInt8),(101:UInt8),(114:UInt8),(116:UInt8),(105:UInt8),(102:UInt8),(105:UInt8),(99:UInt8),(97:UInt8),(116:UInt8),(101:UInt8),(115:UInt8)] })]
abbrev WZ:List AV:=[agg [iI 4,iI 100,iI 20,iI 30,hR 2 VU,lst 2 3 λk=>[iI (tbP k),iI (tbQ k)],iI VU.pl,iI VU.ph,iI 1,iI 3],iI 0]
abbrev XP:List AV:=[AV.x (.string {data:=#[(114:UInt8),(101:UInt8),(97:UInt8),(100:UInt8),(105:UInt8),(110:UInt8),(103:UInt8),(115:UInt8)] })]
abbrev ZJ:List AV:=[AV.x (.string {data:=#[(115:UInt8),(97:UInt8),(108:UInt8),(101:UInt8),(115:UInt8)] })]
abbrev ZK:List AV:=[AV.x (.string {data:=#[(98:UInt8),(97:UInt8),(116:UInt8),(104:UInt8),(115:UInt8)] })]
theorem iQ:VW VN 12 [lns 11 (UM U5)] (.tup [.x (.string Zk5),i 0]):=by
 have hG:VJ VN [(35,sP),(19,sN),(38,sM),(45,A8)]:=(Ae y7 (Ae kV (Ae kM (Ae xA Aa))));have hX: ∀cx,VV VN Q8 cx:=(Aj (Af kZ (Af F8 (Af RD (Af LZ Ab)))) (Ag xB (Ag kL Ac)) (Ah wY (Ah dK (UA.nil _))));have GQ:Tryz.prog.follows .mixedOrders=true:=VX
 refine SM (L:=[Xb7 0,Xb6 0,Xb5 0,Xb4 0,Xb3 0]) Tryz.func12 (US Tryz.f12) (λcx=>(gO (N:=[(.cell 14 1,911,5,1)]) (s2:=mP) hG (hX cx) GQ (gO (N:=[(.slot 9,0,0,0),(.slot 10,0,0,0),(.slot 11,0,0,0),(.slot 12,0,0,0)]) (s2:=mO) hG (hX cx) GQ (lE hG (hX cx) GQ) VT 7) VT 6)) (vP (lpE (b:= .loop rF) VT<|(Zk4 0).N) (lpE (b:= .loop SE) VT<|(Zj7 0).N) (lpE (b:= .loop Qk4) VT<|(Zj2 0).N) (lpE (b:= .loop MH) VT<|(Zi9 0).N) (lpE (b:= .loop MG) VT<|(Zi3 0).N)) (t:=let z2:=([AV.x (.string {data:=List.toArray (Lib.itoa (↑VU.nr:Int)) })]);let z3:=([AV.x (.string {data:=List.toArray (Lib.itoa (↑VU.nb:Int)) })]);let z4:=([AV.x (.string {data:=List.toArray (Lib.itoa (↑VU.nc:Int)) })]);let z5:=([AV.x (.string {data:=List.toArray (Lib.itoa (↑VU.ns:Int)) })]);let A:=(GD 7 (GD 6 (GD 5 (GD 4 (GD 3 (GD 2 (GD 1 (GD 0 (λx=>[]) (U3 1 XP)) (U3 1 z2)) (U3 1 ZK)) (U3 1 z3)) (U3 1 WS)) (U3 1 z4)) (U3 1 ZJ)) (U3 1 z5));let z1:=([lst 1 6 λk=>[Option.rec (top) (λval=>(λval=>(λx=>x) val) val) wl0[k]?],lst 1 4 λk=>[Option.rec (top) (λval=>(λval=>(λx=>x) val) val) wl1[k]?],lst 1 2 λk=>[Option.rec (top) (λval=>(λval=>(λx=>x) val) val) wl2[k]?],lst 1 5 λk=>[Option.rec (top) (λval=>(λval=>(λx=>x) val) val) wl3[k]?]]);(need [WP=WP] (branch ((0:Int) != 0) (leaf (RV.tup [RV.x (.string {data:=#[] }),RV.x (X5)])) (need [WP=WP] (need [UE 0 8] (need [(0:Int).toNat<8] (need [16<=140737488355328,∀(i:Nat),i<1-> ∀(a:AV),a∈U3 1 XP i->AV.one a=true] (need [VK ((0:Int)+1)] (need [(0:Int)<=0+1/\(0:Int)+1<((8:Nat):Int)] (need [((0:Int)+1).toNat<8] (need [VK (↑VU.nr:Int)] (need [32<=140737488355328,∀(i:Nat),i<1-> ∀(a:AV),a∈U3 1 z2 i->AV.one a=true] (need [VK ((0:Int)+1+1)] (need [(0:Int)<=0+1+1/\(0:Int)+1+1<((8:Nat):Int)] (need [((0:Int)+1+1).toNat<8] (need [48<=140737488355328,∀(i:Nat),i<1-> ∀(a:AV),a∈U3 1 ZK i->AV.one a=true] (need [VK ((0:Int)+1+1+1)] (need [(0:Int)<=0+1+1+1/\(0:Int)+1+1+1<((8:Nat):Int)] (need [((0:Int)+1+1+1).toNat<8] (need [VK (↑VU.nb:Int)] (need [64<=140737488355328,∀(i:Nat),i<1-> ∀(a:AV),a∈U3 1 z3 i->AV.one a=true] (need [VK ((0:Int)+1+1+1+1)] (need [(0:Int)<=0+1+1+1+1/\(0:Int)+1+1+1+1<((8:Nat):Int)] (need [((0:Int)+1+1+1+1).toNat<8] (need [80<=140737488355328,∀(i:Nat),i<1-> ∀(a:AV),a∈U3 1 WS i->AV.one a=true] (need [VK ((0:Int)+1+1+1+1+1)] (need [(0:Int)<=0+1+1+1+1+1/\(0:Int)+1+1+1+1+1<((8:Nat):Int)] (need [((0:Int)+1+1+1+1+1).toNat<8] (need [VK (↑VU.nc:Int)] (need [96<=140737488355328,∀(i:Nat),i<1-> ∀(a:AV),a∈U3 1 z4 i->AV.one a=true] (need [VK ((0:Int)+1+1+1+1+1+1)] (need [(0:Int)<=0+1+1+1+1+1+1/\(0:Int)+1+1+1+1+1+1<((8:Nat):Int)] (need [((0:Int)+1+1+1+1+1+1).toNat<8] (need [112<=140737488355328,∀(i:Nat),i<1-> ∀(a:AV),a∈U3 1 ZJ i->AV.one a=true] (need [VK ((0:Int)+1+1+1+1+1+1+1)] (need [(0:Int)<=0+1+1+1+1+1+1+1/\(0:Int)+1+1+1+1+1+1+1<((8:Nat):Int)] (need [((0:Int)+1+1+1+1+1+1+1).toNat<8] (need [VK (↑VU.ns:Int)] (need [128<=140737488355328,∀(i:Nat),i<1-> ∀(a:AV),a∈U3 1 z5 i->AV.one a=true] (need [VK ((0:Int)+1+1+1+1+1+1+1+1)] (need [8<=100000,jT 8 A,ByteArray.size (jnB 8 A {data:=#[32] })<=140737488355328] (need [((42:Nat):Int)<=9223372036854775807] (need [42<=140737488355328] (need [Q6,WF,QN,42=42,GU 42 (GD 0 (λx=>[]) (DO (jnB 8 A {data:=#[32] }++{data:=#[10] }))) (DO rp0),WF,X4] (need [WZ=WZ] (need [Q6,WF,QN,Z0,Z1,Z2,Z3,WV=WV,((5:Nat):Int)=5,QS,1=1,GU 1 (U3 1 [AV.x (.iface 9 (Z6))]) (GZ wl0),1=1,GU 1 (U3 1 [AV.x (.iface 9 (XK))]) (GZ wl1),1=1,GU 1 (U3 1 [AV.x (.iface 9 (Z7))]) (GZ wl2),1=1,GU 1 (U3 1 [AV.x (.iface 9 (ZF))]) (GZ wl3),42=42,GO 42 (DO rp0),WF,X4] (need [VY ([agg [lst 2 3 λk=>[iI (oL k),iI (oH k)],iI 1,hY 2 VU]])] (need [Q6,WF,QN,Z0,Z1,Z2,Z3,WB=WB,((3:Nat):Int)=3,QS,6=6,GO 6 (GZ wl0),1=1,GO 1 (GZ wl1),1=1,GO 1 (GZ wl2),1=1,GO 1 (GZ wl3),42=42,GO 42 (DO rp0),WF,X4] (need [Q6,WF,QN,Z0,Z1,Z2,Z3,VY (hC 1 VU),(↑VU.nc:Int)=1,QS,6=6,GO 6 (GZ wl0),4=4,GO 4 (GZ wl1),1=1,GO 1 (GZ wl2),1=1,GO 1 (GZ wl3),42=42,GO 42 (DO rp0),WF,X4] (need [Q6,WF,QN,Z0,Z1,Z2,Z3,W5,QS,6=6,GO 6 (GZ wl0),4=4,GO 4 (GZ wl1),2=2,GO 2 (GZ wl2),1=1,GO 1 (GZ wl3),42=42,GO 42 (DO rp0),WF,X4] (need [Q6,WF,QN,VY (lst 1 6 λk=>[Option.rec (top) (λval=>(λval=>(λx=>x) val) val) wl0[k]?]),VY (lst 1 4 λk=>[Option.rec (top) (λval=>(λval=>(λx=>x) val) val) wl1[k]?]),VY (lst 1 2 λk=>[Option.rec (top) (λval=>(λval=>(λx=>x) val) val) wl2[k]?]),VY (lst 1 5 λk=>[Option.rec (top) (λval=>(λval=>(λx=>x) val) val) wl3[k]?]),42=42,GO 42 (DO rp0),WF,X4] (need [Q6,WF,QN,KZ,((4:Nat):Int)=4,QS,4=4,GO 4 (U3 1 z1),42=42,GO 42 (DO rp0),WF,X4] (need [uX 136 (DO rp4),0<136] (leaf (RV.tup [RV.x (.string (bsO 136 (DO rp4))),RV.x (X5)]))))))))))))))))))))))))))))))))))))))))))))))))))))))) VT ?_
 simp only [VL.sat,U9,UV,GJ,UB,UG,VK,DX]
 (with_reducible repeat' first|apply Al|intro _)
 all_goals first|exact Ak|contradiction|omega|exact FG (by assumption) (by simp [AV.one,Value.oneCell'])|(rename_i i O;exact Qd0 (by decide+kernel) i O)|(rename_i i O;exact ltM VT i O)|exact bR (by decide+kernel)|exact pW (by decide+kernel)|decide+kernel|with_reducible rfl|rfl|trace_state
def Zg2:HS:=stS VU 1
theorem Xt6:lnE (UM G9 0) VU=9:=by decide+kernel
theorem Xt5:lnE (UM G9 1) VU=10:=by decide+kernel
theorem Xt4:lnE (UM G9 2) VU=9:=by decide+kernel
theorem Xt3:lnE (UM G9 3) VU=0:=by decide+kernel
theorem Ja2:lnE (UM G9 4) Zg2=0:=by decide+kernel
theorem Ja1:DD (lnW (UM G9 3)) VU=Zg2:=VT
abbrev K8(n:Nat)(a:Cg):AV:=lst 1 n λk=>[iI (a k)]
abbrev K9(m:Nat)(b:Cg):AV:=lst 1 m λk=>[iI (b k)]
section
variable (n m:Nat)(a b:Cg)
def Xd7:St:={σ:=[K8 n a,K9 m b]++HH 24 [],m:=[],nx:=7}
noncomputable def Jw8:Code:=U7 (VQ (U6 Tryz.f25) 0)
def Wj6(k:Nat):St:=(upM [(5,i k)] (Xd7 n m a b))
def vD(k:Nat):G6->Option St
 | .exit 0=>some (upM [] (Xd7 n m a b))
 | .ret=>some (upM [(4,.lit false)] (Xd7 n m a b))
 |_=>none
def Jr6:CT:= .branch (D4 ((λk=>a k==b k)) n) (.leaf (.exit 0,(vD n m a b 0 (.exit 0)).getD (Xd7 n m a b))) (.leaf (.ret,(vD n m a b 0 .ret).getD (Xd7 n m a b)))
def Xz9:UF:=(HB (Wj6 n m a b (0)) (Jr6 n m a b))
theorem Jh3(VR:n<=100000)(UD:n=m):G0 VN (.loop Jw8) (Xz9 n m a b):=by
 refine HG (L:=[]) Aa VX U1 (X:=Nat) (Wj6 n m a b) (λk=>k<=n/\ ∀j,j<k->((λk=>a k==b k)) j=true) (λk=>n-k) (vD n m a b) (x0:=0) ⟨VI,λj hj=>VI⟩ ?_ ?_ ?_;rintro k;kernel_rfl;rintro k y E h;unfold vD at h;split at h;cases h;kernel_rfl;cases h;kernel_rfl;cases h
 ·rintro Q hQ k hx;refine ⟨(k+1),?_⟩;(with_reducible refine D2 (t:=branch (decide ((k:Int)<(n:Int))) (need [UE k n] (need [UE k m] (branch (a k != b k) (need [VY (K8 n a),VY (K9 m b),WO] (leaf G6.ret)) (need [VK ((k:Int)+1)] (need [VY (K8 n a),VY (K9 m b),(k:Int)+1=(↑(k+1):Int)] (leaf G6.normal)))))) (need [VY (K8 n a),VY (K9 m b)] (leaf (G6.exit 0)))) VT ?_);simp only [Jr6,vD,VL.sat,GR] at hQ;have Wq1:k<n->((λk=>a k==b k)) k=false->D4 ((λk=>a k==b k)) n=false:=by
   intro h1 h2;rw [←Bool.not_eq_true];intro h3;have:=GK.1 h3 k h1;exact Bool.noConfusion (h2.symm.trans this)
  have gE:((λk=>a k==b k)) k=true-> ∀j,j<k+1->((λk=>a k==b k)) j=true:=by
   intro h1 j hj;rcases (show j<k\/j=k by omega) with h|rfl
   exact hx.2 j h;exact h1
  have PL: ¬k<n->D4 ((λk=>a k==b k)) n=true:=λh=>GK.2 (λj hj=>hx.2 j VI);have hQ1: ∀E,vD n m a b k .ret=some E->D4 ((λk=>a k==b k)) n=false->Q (.ret,E):=by
   intro E hE hf;cases hE;exact hQ.2 hf
  have hQ2: ∀E,vD n m a b k (.exit 0)=some E->D4 ((λk=>a k==b k)) n=true->Q (.exit 0,E):=by
   intro E hE hf;cases hE;exact hQ.1 hf
  simp only [VL.sat,U9,UG,H4,VK,DX]
  all_goals exact V4
theorem Wg5(VR:n<=100000):VW VN 25 [.lst 1 n (λk=>[i (a k)]),.lst 1 m (λk=>[i (b k)])] (bl (decide (n=m)&&D4 (λk=>a k==b k) n)):=by
 refine U0 (L:=[FH [n<=100000,n=m] (Xz9 n m a b)]) Aa VX Tryz.func25 (US Tryz.f25) (UY (lpE (b:= .loop Jw8) VT<|HU (λh=>Jh3 n m a b h.1 h.2))) (t:=branch ((n:Int) != (m:Int)) (leaf (RV.x (WK))) (need [n<=100000,n=m] (need [VY (K8 n a),VY (K9 m b),(0:Int)=((0:Nat):Int)] (branch (D4 (λk=>a k==b k) n) (leaf (RV.x (.bool true))) (leaf (RV.x (WK))))))) VT ?_
 simp only [VL.sat,U9,UV,GJ,UB,VK,UG,H4,FE,bne_iff_ne,ne_eq];refine ⟨λh=>?_,λh=>?_⟩;have:n≠m:=by intro h';subst h';simp at h
 simp [this];have e:n=m:=by
  rw [bne_eq_false_iff_eq] at h;omega
 subst e;refine ⟨⟨VI,rfl⟩,λh2=>?_,λh2=>?_⟩;simp [h2];simp [h2]
end
def Qg0:UX
 |[.lst 1 n f,.lst 1 m g]=>some ([UH 1 n f,UH 1 m g,n<=100000],bl (decide (n=m)&&D4 (λk=>col 0 f k==col 0 g k) n))
 |_=>none
theorem Wg4:VO VN 25 Qg0:=by
 refine ⟨(UI Tryz.func25),?_⟩;intro avs ns res h W;unfold Qg0 at h;split at h;rename_i n f m g;cases h;have hr0:UH 1 n f:=W _ VS;have hr1:UH 1 m g:=W _ VS;exact (Wg5 n m (col 0 f) (col 0 g) (W _ VS)).same (.cons (.lst 1 n _ _ hr0) (.cons (.lst 1 m _ _ hr1) .nil));cases h
def Wy3:UX
 |[.x (.slice none 0 0)]=>some ([],lns 11 (UM U5))
 |[.lst 1 n f]=>some ([n=5,∀k,k<n->f k=[.x (.string (UM G9 k))]],lns 16 (UM (U5++G9)))
 |_=>none
theorem Jh5{P:Nat->Prop}(h0:P 0)(h1:P 1)(h2:P 2)(h3:P 3)(h4:P 4)(h5:P 5)(h6:P 6)(h7:P 7)(h8:P 8)(h9:P 9)(h10:P 10): ∀i,i<11->P i:=by
 intro i O
 match i,O with
 | 0,_=>exact h0
 | 1,_=>exact h1
 | 2,_=>exact h2
 | 3,_=>exact h3
 | 4,_=>exact h4
 | 5,_=>exact h5
 | 6,_=>exact h6
 | 7,_=>exact h7
 | 8,_=>exact h8
 | 9,_=>exact h9
 | 10,_=>exact h10
 |i+11,h=>exact absurd h VI
theorem Xv5{P:Nat->Prop}(h0:P 0)(h1:P 1)(h2:P 2)(h3:P 3)(h4:P 4)(h5:P 5)(h6:P 6)(h7:P 7)(h8:P 8)(h9:P 9)(h10:P 10)(h11:P 11)(h12:P 12)(h13:P 13)(h14:P 14)(h15:P 15): ∀i,i<16->P i:=by
 intro i O
 match i,O with
 | 0,_=>exact h0
 | 1,_=>exact h1
 | 2,_=>exact h2
 | 3,_=>exact h3
 | 4,_=>exact h4
 | 5,_=>exact h5
 | 6,_=>exact h6
 | 7,_=>exact h7
 | 8,_=>exact h8
 | 9,_=>exact h9
 | 10,_=>exact h10
 | 11,_=>exact h11
 | 12,_=>exact h12
 | 13,_=>exact h13
 | 14,_=>exact h14
 | 15,_=>exact h15
 |i+16,h=>exact absurd h VI
abbrev JC:AV:=AV.x (.string {data:=#[(98:UInt8),(97:UInt8),(116:UInt8),(104:UInt8),(32:UInt8),(49:UInt8),(48:UInt8),(48:UInt8),(32:UInt8),(51:UInt8),(48:UInt8),(48:UInt8)] })
abbrev QH:List AV:=[AV.x (.string {data:=#[(116:UInt8),(104:UInt8),(114:UInt8),(101:UInt8),(97:UInt8),(100:UInt8),(32:UInt8),(48:UInt8),(32:UInt8),(49:UInt8),(32:UInt8),(52:UInt8),(48:UInt8),(32:UInt8),(52:UInt8),(48:UInt8)] }),AV.x (.string {data:=#[(116:UInt8),(104:UInt8),(114:UInt8),(101:UInt8),(97:UInt8),(100:UInt8),(32:UInt8),(50:UInt8),(32:UInt8),(51:UInt8),(32:UInt8),(52:UInt8),(56:UInt8),(32:UInt8),(53:UInt8),(48:UInt8)] }),AV.x (.string {data:=#[(105:UInt8),(115:UInt8),(115:UInt8),(117:UInt8),(101:UInt8),(32:UInt8),(48:UInt8),(32:UInt8),(52:UInt8),(32:UInt8),(57:UInt8),(48:UInt8),(32:UInt8),(48:UInt8)] }),JC,AV.x (.string {data:=#[(115:UInt8),(101:UInt8),(101:UInt8),(32:UInt8),(48:UInt8),(32:UInt8),(50:UInt8),(48:UInt8),(48:UInt8)] }),AV.x (.string {data:=#[(115:UInt8),(101:UInt8),(101:UInt8),(32:UInt8),(49:UInt8),(32:UInt8),(50:UInt8),(48:UInt8),(51:UInt8)] }),JC,AV.x (.string {data:=#[(115:UInt8),(101:UInt8),(101:UInt8),(32:UInt8),(49:UInt8),(32:UInt8),(50:UInt8),(53:UInt8),(50:UInt8)] }),AV.x (.string {data:=#[(115:UInt8),(101:UInt8),(101:UInt8),(32:UInt8),(50:UInt8),(32:UInt8),(50:UInt8),(53:UInt8),(48:UInt8)] }),AV.x (.string {data:=#[(115:UInt8),(101:UInt8),(108:UInt8),(108:UInt8),(32:UInt8),(48:UInt8),(32:UInt8),(49:UInt8),(32:UInt8),(54:UInt8),(32:UInt8),(49:UInt8),(32:UInt8),(51:UInt8)] }),AV.x (.string {data:=#[(115:UInt8),(101:UInt8),(108:UInt8),(108:UInt8),(32:UInt8),(49:UInt8),(32:UInt8),(50:UInt8),(32:UInt8),(52:UInt8),(32:UInt8),(50:UInt8),(32:UInt8),(50:UInt8)] })]
theorem Qy3:VW VN 10 [.x (.slice none 0 0)] (lns 11 (UM U5)):=by
 refine GV Tryz.func10 (t:=need [176<=140737488355328,∀(i:Nat),i<0-> ∀(a:AV),a∈[]->AV.one a=true] (leaf (RV.lst 1 11 (GD 11 (U3 1 QH) λx=>[])))) VT ?_;simp only [VL.sat,U9,UV,GJ,UB,UG]
 (with_reducible repeat' first|apply Al|intro _)
 all_goals first|exact Ak|contradiction|omega|exact FG (by assumption) (by simp [AV.one,Value.oneCell'])|(rename_i ha;rw [PM.1 ha];first|exact Ak|rfl)|(rename_i i O;revert i;refine Jh5 ?_ ?_ ?_ ?_ ?_ ?_ ?_ ?_ ?_ ?_ ?_<;>(show _=_;kernel_rfl))|decide|rfl|trace_state
theorem Qy2:VW VN 10 [.lst 1 5 (λk=>[.x (.string (UM G9 k))])] (lns 16 (UM (U5++G9))):=by
 refine GV Tryz.func10 (t:=need [256<=140737488355328,∀(i:Nat),i<5-> ∀(a:AV),a∈[HV (UM G9 i)]->AV.one a=true] (leaf (RV.lst 1 16 (GD 11 (U3 1 QH) λk=>[HV (UM G9 k)])))) VT ?_;simp only [VL.sat,U9,UV,GJ,UB,UG]
 (with_reducible repeat' first|apply Al|intro _)
 all_goals first|exact Ak|contradiction|omega|exact FG (by assumption) (by simp [AV.one,Value.oneCell'])|(rename_i ha;rw [PM.1 ha];first|exact Ak|rfl)|(rename_i i O;revert i;refine Xv5 ?_ ?_ ?_ ?_ ?_ ?_ ?_ ?_ ?_ ?_ ?_ ?_ ?_ ?_ ?_ ?_<;>(show _=_;kernel_rfl))|decide|rfl|trace_state
theorem Xf0:VO VN 10 Wy3:=by
 refine ⟨(UI Tryz.func10),?_⟩;intro avs ns res h W;unfold Wy3 at h;split at h;cases h;exact Qy3;rename_i n f;cases h;obtain rfl:n=5:=W _ VS;have h2: ∀k,k<5->f k=[.x (.string (UM G9 k))]:=W (∀k,k<5->f k=[.x (.string (UM G9 k))]) VS;exact Qy2.same (.cons (.lst 1 5 f _ h2) .nil);cases h
theorem Xs0:sK (UM (U5++G9)) 0=hs0:=rfl
theorem Xr9:sK (UM (U5++G9)) 1=wk1:=by
 show lnS (UM U5 0) (sK (UM (U5++G9)) 0)=_;rw [Xs0];unfold lnS;rw [if_pos Qx9];exact Xt0
theorem Xr8:sK (UM (U5++G9)) 2=wk2:=by
 show lnS (UM U5 1) (sK (UM (U5++G9)) 1)=_;rw [Xr9];unfold lnS;rw [if_pos Qx8];exact Xs9
theorem Xr7:sK (UM (U5++G9)) 3=wk3:=by
 show lnS (UM U5 2) (sK (UM (U5++G9)) 2)=_;rw [Xr8];unfold lnS;rw [if_pos Qx7];exact Xs8
theorem Xr6:sK (UM (U5++G9)) 4=wk4:=by
 show lnS (UM U5 3) (sK (UM (U5++G9)) 3)=_;rw [Xr7];unfold lnS;rw [if_pos Qx6];exact Xs7
theorem Xr5:sK (UM (U5++G9)) 5=wk5:=by
 show lnS (UM U5 4) (sK (UM (U5++G9)) 4)=_;rw [Xr6];unfold lnS;rw [if_pos Qx5];exact Xs6
theorem Xr4:sK (UM (U5++G9)) 6=wk6:=by
 show lnS (UM U5 5) (sK (UM (U5++G9)) 5)=_;rw [Xr5];unfold lnS;rw [if_pos Qx4];exact Xs5
theorem Xr3:sK (UM (U5++G9)) 7=wk7:=by
 show lnS (UM U5 6) (sK (UM (U5++G9)) 6)=_;rw [Xr4];unfold lnS;rw [if_pos Qx3];exact Xs4
theorem Xr2:sK (UM (U5++G9)) 8=wk8:=by
 show lnS (UM U5 7) (sK (UM (U5++G9)) 7)=_;rw [Xr3];unfold lnS;rw [if_pos Qx2];exact Xs3
theorem Xr1:sK (UM (U5++G9)) 9=wk9:=by
 show lnS (UM U5 8) (sK (UM (U5++G9)) 8)=_;rw [Xr2];unfold lnS;rw [if_pos Qx1];exact Xs2
theorem Qv9:sK (UM (U5++G9)) 10=Qk5:=by
 show lnS (UM U5 9) (sK (UM (U5++G9)) 9)=_;rw [Xr1];unfold lnS;rw [if_pos Qx0];exact Xs1
theorem Qv8:sK (UM (U5++G9)) 11=VU:=by
 show lnS (UM U5 10) (sK (UM (U5++G9)) 10)=_;rw [Qv9];unfold lnS;rw [if_pos mY];exact Qw2
theorem Qv7:sK (UM (U5++G9)) 12=VU:=by
 show lnS (UM G9 0) (sK (UM (U5++G9)) 11)=_;rw [Qv8];unfold lnS;rw [if_neg (by rw [Xt6];decide)]
theorem Qv6:sK (UM (U5++G9)) 13=VU:=by
 show lnS (UM G9 1) (sK (UM (U5++G9)) 12)=_;rw [Qv7];unfold lnS;rw [if_neg (by rw [Xt5];decide)]
theorem Qv5:sK (UM (U5++G9)) 14=VU:=by
 show lnS (UM G9 2) (sK (UM (U5++G9)) 13)=_;rw [Qv6];unfold lnS;rw [if_neg (by rw [Xt4];decide)]
theorem Zd5:sK (UM (U5++G9)) 15=Zg2:=by
 show lnS (UM G9 3) (sK (UM (U5++G9)) 14)=_;rw [Qv5];unfold lnS;rw [if_pos Xt3];exact Ja1
theorem Zz9:eK (UM (U5++G9)) 0=0:=by
 show lnE (UM U5 0) (sK (UM (U5++G9)) 0)=_;rw [Xs0];exact Qx9
theorem Zz8:eK (UM (U5++G9)) 1=0:=by
 show lnE (UM U5 1) (sK (UM (U5++G9)) 1)=_;rw [Xr9];exact Qx8
theorem Zz7:eK (UM (U5++G9)) 2=0:=by
 show lnE (UM U5 2) (sK (UM (U5++G9)) 2)=_;rw [Xr8];exact Qx7
theorem Zz6:eK (UM (U5++G9)) 3=0:=by
 show lnE (UM U5 3) (sK (UM (U5++G9)) 3)=_;rw [Xr7];exact Qx6
theorem Zz5:eK (UM (U5++G9)) 4=0:=by
 show lnE (UM U5 4) (sK (UM (U5++G9)) 4)=_;rw [Xr6];exact Qx5
theorem Zz4:eK (UM (U5++G9)) 5=0:=by
 show lnE (UM U5 5) (sK (UM (U5++G9)) 5)=_;rw [Xr5];exact Qx4
theorem Zz3:eK (UM (U5++G9)) 6=0:=by
 show lnE (UM U5 6) (sK (UM (U5++G9)) 6)=_;rw [Xr4];exact Qx3
theorem Zz2:eK (UM (U5++G9)) 7=0:=by
 show lnE (UM U5 7) (sK (UM (U5++G9)) 7)=_;rw [Xr3];exact Qx2
theorem Zz1:eK (UM (U5++G9)) 8=0:=by
 show lnE (UM U5 8) (sK (UM (U5++G9)) 8)=_;rw [Xr2];exact Qx1
theorem Zz0:eK (UM (U5++G9)) 9=0:=by
 show lnE (UM U5 9) (sK (UM (U5++G9)) 9)=_;rw [Xr1];exact Qx0
theorem Ze1:eK (UM (U5++G9)) 10=0:=by
 show lnE (UM U5 10) (sK (UM (U5++G9)) 10)=_;rw [Qv9];exact mY
theorem Ze0:eK (UM (U5++G9)) 11=9:=by
 show lnE (UM G9 0) (sK (UM (U5++G9)) 11)=_;rw [Qv8];exact Xt6
theorem Zd9:eK (UM (U5++G9)) 12=10:=by
 show lnE (UM G9 1) (sK (UM (U5++G9)) 12)=_;rw [Qv7];exact Xt5
theorem Zd8:eK (UM (U5++G9)) 13=9:=by
 show lnE (UM G9 2) (sK (UM (U5++G9)) 13)=_;rw [Qv6];exact Xt4
theorem Zd7:eK (UM (U5++G9)) 14=0:=by
 show lnE (UM G9 3) (sK (UM (U5++G9)) 14)=_;rw [Qv5];exact Xt3
theorem Zd6:eK (UM (U5++G9)) 15=0:=by
 show lnE (UM G9 4) (sK (UM (U5++G9)) 15)=_;rw [Zd5];exact Ja2
def wrB:ByteArray:=⟨#[91,48,48,49,58,48,48,50,50,51,93,97,10]⟩
def lnA(_:Nat):ByteArray:=⟨#[97]⟩
def Xp7(s:HS):D9:=λl=>some (.need [l=[lns 16 (UM (U5++G9))]] (.leaf (.tup [.agg (hsL s),.lst 1 16 (λj=>[i (U8 [0,0,0,0,0,0,0,0,0,0,0,9,10,9,0,0] j)]),i 0])))
def Zt2:D9:=λl=>some (.need [l=[lns 11 (UM U5)]] (.leaf (.tup [.lst 2 3 (λk=>[i (U8 [0,1,-3] k),i (U8 [0,5,5] k)]),i 0])))
def Zs9:D9:=λl=>some (.need [l=[lns 11 (UM U5),i 0]] (.leaf (.tup [.lst 1 1 (λk=>[i (U8 [0] k)]),i 0])))
def Zt1:D9:=λl=>some (.need [l=[lns 11 (UM U5),i 1]] (.leaf (.tup [.lst 1 2 (λk=>[i (U8 [0,1] k)]),.lst 1 1 (λk=>[i (U8 [0] k)]),i 0])))
def Zt0:UX:=λl=>some ([l=[lns 11 (UM U5)]],.tup [.x (.string Zk5),i 0])
def Wz7:D9:=λl=>match l with
 |[.lst 1 n f]=>some (.need [n=1,f 0=[.x (.string (lnA 0))]] (.leaf (.tup [.lst 1 13 (DO wrB),i 0])))
 |_=>none
theorem qQ{P:Program}{f:FuncId}{avs:List AV}{t sp:VL AV}(h:UK P f avs t)(hm: ∀Q:AV->Prop,sp.sat Q->t.sat (λr=> ∃r',FD r r'/\Q r')):UK P f avs sp:=by
 intro Q hQ e w args q1 q2 q3 q4;refine (h _ (hm Q hQ) e w args q1 q2 q3 q4).mono ?_;rintro en w' ⟨v,r,rfl,⟨r',g1,g2⟩,g3,g4⟩;exact ⟨v,r',rfl,g2,g3,RZ g1 g4⟩
theorem Ja0:ckE 16 (UM (U5++G9))=0:=by decide+kernel
theorem Qy5(s:HS)(hs:s=sK (UM (U5++G9)) 16):Sx.Enters Tryz.prog 27/\ ∀avs t,Xp7 s avs=some t->UK VN 27 avs t:=by
 refine ⟨(UI Tryz.func27),?_⟩;intro avs t h;cases h;intro Q hQ;have e:avs=[lns 16 (UM (U5++G9))]:=hQ.1;subst e;have h1:=I5 16 (UM (U5++G9)) VI;refine qQ h1 (sp:= .leaf (.tup [.agg (hsL s),.lst 1 16 (λj=>[i (U8 [0,0,0,0,0,0,0,0,0,0,0,9,10,9,0,0] j)]),i 0])) (λQ hq=>⟨λh=>?_,λ_=>?_⟩) Q hQ.2;rw [Ja0] at h;exact absurd h (by decide)
 refine ⟨.tup [.agg (hsL s),.lst 1 16 (λj=>[i (U8 [0,0,0,0,0,0,0,0,0,0,0,9,10,9,0,0] j)]),i 0],⟨?_,⟨rfl,rfl,λk hk=>?_⟩,⟨rfl,rfl⟩,Ak⟩,hq⟩;rw [hs];exact A1 _;revert k;refine Xv5 (congrArg (λz=>[i z]) Zz9) (congrArg (λz=>[i z]) Zz8) (congrArg (λz=>[i z]) Zz7) (congrArg (λz=>[i z]) Zz6) (congrArg (λz=>[i z]) Zz5) (congrArg (λz=>[i z]) Zz4) (congrArg (λz=>[i z]) Zz3) (congrArg (λz=>[i z]) Zz2) (congrArg (λz=>[i z]) Zz1) (congrArg (λz=>[i z]) Zz0) (congrArg (λz=>[i z]) Ze1) (congrArg (λz=>[i z]) Ze0) (congrArg (λz=>[i z]) Zd9) (congrArg (λz=>[i z]) Zd8) (congrArg (λz=>[i z]) Zd7) (congrArg (λz=>[i z]) Zd6)
theorem Xf5:Sx.Enters Tryz.prog 21/\ ∀avs t,Zt2 avs=some t->UK VN 21 avs t:=by
 refine ⟨(UI Tryz.func21),?_⟩;intro avs t h;cases h;intro Q hQ;have e:avs=[lns 11 (UM U5)]:=hQ.1;subst e;have h1:=iR 11 (UM U5) VI;rw [AD] at h1;refine qQ h1 (sp:= .leaf (.tup [.lst 2 3 (λk=>[i (U8 [0,1,-3] k),i (U8 [0,5,5] k)]),i 0])) (λQ hq=>⟨λh=>?_,λ_=>?_⟩) Q hQ.2;rw [bL] at h;exact absurd h (by decide)
 refine ⟨.tup [.lst 2 3 (λk=>[i (U8 [0,1,-3] k),i (U8 [0,5,5] k)]),i 0],⟨⟨rfl,Xt1,λk hk=>?_⟩,(show FD (i _) (i 0) by rw [Xt2];exact ⟨rfl,rfl⟩),Ak⟩,hq⟩
 rcases (show k=0\/k=1\/k=2 by omega) with rfl|rfl|rfl
 show [i _,i _]=_;rw [Qw5,Qw8];rfl;show [i _,i _]=_;rw [Qw4,Qw7];rfl;show [i _,i _]=_;rw [Qw3,Qw6];rfl
theorem Xf2:Sx.Enters Tryz.prog 9/\ ∀avs t,Zs9 avs=some t->UK VN 9 avs t:=by
 refine ⟨(UI Tryz.func9),?_⟩;intro avs t h;cases h;intro Q hQ;have e:avs=[lns 11 (UM U5),i 0]:=hQ.1;subst e;have h1:=gI 11 (UM U5) 0 VI;rw [AD] at h1;have W:VU.nc=1:=VT;have hc:UW (stP VU 0) 1=1:=by rw [DW Qw1];rfl
 refine qQ h1 (sp:= .leaf (.tup [.lst 1 1 (λk=>[i (U8 [0] k)]),i 0])) (λQ hq=>⟨λh=>?_,λ_=>⟨λh=>absurd h (by decide),λ_=>?_⟩⟩) Q hQ.2
 rw [bL] at h;exact absurd h (by decide)
 refine ⟨.tup [.lst 1 1 (λk=>[i (U8 [0] k)]),i 0],⟨⟨rfl,by rw [W];exact hc,λk hk=>?_⟩,⟨rfl,rfl⟩,Ak⟩,hq⟩
 obtain rfl:k=0:=VI;have h2:=B1 (show 0<VU.nc by rw [W];omega) Qw1
 have h3:UW (stP VU 0) 0=0:=rfl;rw [h3] at h2;show [i _]=_;rw [h2];rfl
theorem Xf4:Sx.Enters Tryz.prog 11/\ ∀avs t,Zt1 avs=some t->UK VN 11 avs t:=by
 refine ⟨(UI Tryz.func11),?_⟩;intro avs t h;cases h;intro Q hQ;have e:avs=[lns 11 (UM U5),i 1]:=hQ.1;subst e;have h1:=Qr0 11 (UM U5) 1 VI;rw [AD] at h1;have c0:UW (caB VU.ns VU.sa VU.sb VU.sc VU.sl VU.sh 1) 0=0:=rfl;have c1:UW (caB VU.ns VU.sa VU.sb VU.sc VU.sl VU.sh 1) 1=1:=by rw [DW Qy1,c0]
 have c2:UW (caB VU.ns VU.sa VU.sb VU.sc VU.sl VU.sh 1) 2=2:=by rw [DW Qy0,c1]
 have c3:UW (caB VU.ns VU.sa VU.sb VU.sc VU.sl VU.sh 1) 3=2:=by rw [RJ Zg1,c2]
 have c4:UW (caB VU.ns VU.sa VU.sb VU.sc VU.sl VU.sh 1) 4=2:=by rw [RJ Zg0,c3]
 have d0:UW (suB VU.ns VU.sa VU.sb VU.sc VU.sl VU.sh 1) 0=0:=rfl;have d1:UW (suB VU.ns VU.sa VU.sb VU.sc VU.sl VU.sh 1) 1=1:=by rw [DW Qw0,d0]
 have d2:UW (suB VU.ns VU.sa VU.sb VU.sc VU.sl VU.sh 1) 2=1:=by rw [RJ Ze4,d1]
 have d3:UW (suB VU.ns VU.sa VU.sb VU.sc VU.sl VU.sh 1) 3=1:=by rw [RJ Ze3,d2]
 have d4:UW (suB VU.ns VU.sa VU.sb VU.sc VU.sl VU.sh 1) 4=1:=by rw [RJ Ze2,d3]
 have e0:=B1 (show 0<4 by omega) Qy1
 have e1:=B1 (show 1<4 by omega) Qy0
 have f0:=B1 (show 0<4 by omega) Qw0
 rw [c0] at e0;rw [c1] at e1;rw [d0] at f0;refine qQ h1 (sp:= .leaf (.tup [.lst 1 2 (λk=>[i (U8 [0,1] k)]),.lst 1 1 (λk=>[i (U8 [0] k)]),i 0])) (λQ hq=>⟨λh=>?_,λ_=>⟨λh=>absurd h (by decide),λ_=>⟨λh=>?_,λ_=>?_⟩⟩⟩) Q hQ.2
 rw [bL] at h;exact absurd h (by decide)
 rw [Qw9] at h;exact Bool.noConfusion h;refine ⟨.tup [.lst 1 2 (λk=>[i (U8 [0,1] k)]),.lst 1 1 (λk=>[i (U8 [0] k)]),i 0],⟨⟨rfl,c4,λk hk=>?_⟩,⟨rfl,d4,λk hk=>?_⟩,⟨rfl,rfl⟩,Ak⟩,hq⟩;rcases (show k=0\/k=1 by omega) with rfl|rfl
 show [i _]=_;rw [e0];rfl;show [i _]=_;rw [e1];rfl;obtain rfl:k=0:=VI;show [i _]=_;rw [f0];rfl
theorem Xf3:VO VN 12 Zt0:=by
 refine ⟨(UI Tryz.func12),?_⟩;intro avs ns res h W;cases h;have e:avs=[lns 11 (UM U5)]:=W _ GB;subst e;exact iQ
theorem Xf1:Sx.Enters Tryz.prog 32/\ ∀avs t,Wz7 avs=some t->UK VN 32 avs t:=by
 refine ⟨(UI Tryz.func32),?_⟩;intro avs t h;unfold Wz7 at h;split at h;rename_i n f;cases h;intro Q hQ;obtain rfl:n=1:=hQ.1.1;have h2:f 0=[.x (.string (lnA 0))]:=hQ.1.2;have h1:=Qq9 1 lnA VI;have hb:flB lnA 1=wrB:=by decide+kernel
 rw [hb] at h1;have h3:UK VN 32 [.lst 1 1 f] (.leaf (.tup [.lst 1 13 (DO wrB),i 0])):=by
  intro Q hq e w args q1 q2 q3 q4;refine h1 Q ⟨λh=>?_,λ_=>hq⟩ e w args q1 q2 ?_ ?_;rw [show ckE 1 lnA=0 by decide+kernel] at h
  exact absurd h (by decide)
  intro a ha;rw [PM.1 ha];exact .lst _ _ _ λk _ x hx=>by rw [PM.1 hx];exact .x _
  obtain ⟨u,us,rfl,r1,r2⟩:=q4.cons_inv;refine .cons (RZ (a:= .lst 1 1 f) ⟨rfl,rfl,λk hk=>?_⟩ r1) r2;obtain rfl:k=0:=VI;exact h2
 exact h3 Q hQ.2;cases h
theorem Zn1{a b:ByteArray}(h:(a.toList==b.toList)=false)(e:a=b):False:=by
 subst e;simp at h
abbrev WI:List Int:=[(0:Int),0,0,0,0,0,0,0,0,0,0,(9:Int),(10:Int),(9:Int),(0:Int),(0:Int)]
abbrev JD:List AV:=[lst 1 11 λk=>[HV (UM U5 k)],iI 0]
abbrev JE:List AV:=[lst 1 11 λk=>[HV (UM U5 k)],iI 1]
abbrev JG:List AV:=[lst 1 16 λk=>[HV (UM (U5++G9) k)]]
theorem Qk7(s:HS)(VR:s=sK (UM (U5++G9)) 16):VW VN 14 [] (bl true):=by
 refine G8 (L:=[]) (Ae Xf0 (Ae Wg4 (Ae Xf3 Aa))) (Aj Ab Ac (Ah (Qy5 s VR) (Ah Xf5 (Ah Xf2 (Ah Xf4 (Ah Xf1 (UA.nil _))))))) VX Tryz.func14 (US Tryz.f14) G7 (t:=let A:=(U3 1 [iI 0,iI 1]);let z1:=(U3 1 [iI 0]);(need [5=5,GU 5 (U3 1 [AV.x (.string {data:=#[116,104,114,101,97,100,32,48,32,50,32,52,48,32,52,48] }),AV.x (.string {data:=#[105,115,115,117,101,32,48,32,52,32,56,48,32,48] }),AV.x (.string {data:=#[115,101,101,32,48,32,49,48,48] }),AV.x (.string {data:=#[115,116,114,105,107,101,32,49] }),AV.x (.string {data:=#[118,111,105,100,32,48] })]) (λk=>[HV (UM G9 k)])] (need [JG=JG] (need [WP=WP] (need [JD=JD] (need [JE=JE] (need [WP=WP] (need [1=1,[AV.x (.string {data:=#[97] })]=[HV (lnA 0)]] (branch ((0:Int)==0) (branch (((16:Nat):Int)==16) (need [UE 10 16] (branch (U8 WI (10:Int).toNat==0) (need [UE 11 16] (branch (U8 WI (11:Int).toNat==9) (need [UE 12 16] (branch (U8 WI (12:Int).toNat==10) (need [UE 13 16] (branch (U8 WI (13:Int).toNat==9) (need [UE 14 16] (branch (U8 WI (14:Int).toNat==0) (need [UE 15 16] (branch (U8 WI (15:Int).toNat==0) (branch ((0:Int)==0) (branch (((3:Nat):Int)==3) (need [UE 1 3] (branch (U8 WY (1:Int).toNat==1&&(U8 Z8 (1:Int).toNat==5&&true)) (need [UE 2 3] (branch (U8 WY (2:Int).toNat==(-3:Int)&&(U8 Z8 (2:Int).toNat==5&&true)) (branch ((0:Int)==0) (need [UH 1 1 λk=>[i (U8 [(0:Int)] k)],UH 1 1 z1,1<=100000] (branch (decide (1=1)&&(true&&U8 [(0:Int)] (nat_lit 0)==col 0 z1 (nat_lit 0))) (branch ((0:Int)==0) (need [UH 1 2 λk=>[i (U8 [(0:Int),1] k)],UH 1 2 A,2<=100000] (branch (decide (2=2)&&(true&&U8 [(0:Int),1] (nat_lit 0)==col 0 A (nat_lit 0)&&U8 [(0:Int),1] (nat_lit 1)==col 0 A (nat_lit 1))) (need [UH 1 1 λk=>[i (U8 [(0:Int)] k)],UH 1 1 z1,1<=100000] (branch (decide (1=1)&&(true&&U8 [(0:Int)] (nat_lit 0)==col 0 z1 (nat_lit 0))) (branch ((0:Int)==0) (branch (ByteArray.toList Zk5==ByteArray.toList {data:=List.toArray (List.append (List.append [(114:UInt8),(101:UInt8),(97:UInt8),(100:UInt8),(105:UInt8),(110:UInt8),(103:UInt8),(115:UInt8),(32:UInt8),(50:UInt8),(32:UInt8),(98:UInt8),(97:UInt8),(116:UInt8),(104:UInt8),(115:UInt8),(32:UInt8),(50:UInt8),(32:UInt8),(99:UInt8),(101:UInt8),(114:UInt8),(116:UInt8),(105:UInt8),(102:UInt8),(105:UInt8),(99:UInt8),(97:UInt8),(116:UInt8),(101:UInt8),(115:UInt8),(32:UInt8),(49:UInt8),(32:UInt8)] [(115:UInt8),(97:UInt8),(108:UInt8),(101:UInt8),(115:UInt8),(32:UInt8),(50:UInt8),(10:UInt8),(109:UInt8),(97:UInt8),(114:UInt8),(107:UInt8),(115:UInt8),(32:UInt8),(48:UInt8),(46:UInt8),(46:UInt8),(48:UInt8),(32:UInt8),(50:UInt8),(48:UInt8),(48:UInt8),(46:UInt8),(46:UInt8),(51:UInt8),(48:UInt8),(48:UInt8),(32:UInt8),(52:UInt8),(49:UInt8),(48:UInt8),(46:UInt8),(46:UInt8),(53:UInt8)]) (List.append [(49:UInt8),(48:UInt8),(32:UInt8),(55:UInt8),(48:UInt8),(48:UInt8),(46:UInt8),(46:UInt8),(56:UInt8),(48:UInt8),(48:UInt8),(32:UInt8),(49:UInt8),(48:UInt8),(48:UInt8),(48:UInt8),(46:UInt8),(46:UInt8),(49:UInt8),(48:UInt8),(48:UInt8),(48:UInt8),(10:UInt8),(111:UInt8),(102:UInt8),(102:UInt8),(115:UInt8),(101:UInt8),(116:UInt8),(115:UInt8),(32:UInt8),(48:UInt8),(46:UInt8),(46:UInt8)] [(48:UInt8),(32:UInt8),(49:UInt8),(46:UInt8),(46:UInt8),(53:UInt8),(32:UInt8),(45:UInt8),(51:UInt8),(46:UInt8),(46:UInt8),(53:UInt8),(10:UInt8),(115:UInt8),(116:UInt8),(97:UInt8),(110:UInt8),(100:UInt8),(32:UInt8),(48:UInt8),(10:UInt8),(104:UInt8),(111:UInt8),(108:UInt8),(100:UInt8),(32:UInt8),(52:UInt8),(32:UInt8),(50:UInt8),(32:UInt8),(52:UInt8),(32:UInt8),(48:UInt8),(10:UInt8)])) }) (branch ((0:Int)==0) (need [uX 13 (DO wrB)] (leaf (RV.x (.bool (ByteArray.toList (bsO 13 (DO wrB))==ByteArray.toList {data:=#[91,48,48,49,58,48,48,50,50,51,93,97,10] }))))) (leaf (RV.x (WK)))) (leaf (RV.x (WK)))) (leaf (RV.x (WK)))) (leaf (RV.x (WK))))) (leaf (RV.x (WK))))) (leaf (RV.x (WK)))) (leaf (RV.x (WK))))) (leaf (RV.x (WK)))) (leaf (RV.x (WK))))) (leaf (RV.x (WK))))) (leaf (RV.x (WK)))) (leaf (RV.x (WK)))) (leaf (RV.x (WK))))) (leaf (RV.x (WK))))) (leaf (RV.x (WK))))) (leaf (RV.x (WK))))) (leaf (RV.x (WK))))) (leaf (RV.x (WK))))) (leaf (RV.x (WK)))) (leaf (RV.x (WK)))))))))))) VT ?_
 have hw:bsO 13 (DO wrB)=wrB:=Zs2 wrB;simp only [VL.sat,U9,UV,GJ,UB,UG,VK,hw]
 (with_reducible repeat' first|apply Al|intro _)
 all_goals first|exact Ak|contradiction|(rename_i h;exact (Zn1 h VT).elim)|omega|exact pW (by decide+kernel)|(intro k hk;exact ltM VT k hk)|(rename_i k hk;exact ltM VT k hk)|(rename_i k hk;revert k;refine ltM ?_;kernel_rfl)|(intro k hk;revert k;refine ltM ?_;kernel_rfl)|decide|decide+kernel|rfl
def Qf3:UX
 |[]=>some ([],bl true)
 |_=>none
theorem Qy4:VO VN 14 Qf3:=by
 refine ⟨(UI Tryz.func14),?_⟩;intro avs ns res h W;unfold Qf3 at h;split at h;cases h;exact Qk7 _ rfl;cases h
section
variable (n:Nat)(L:Cf)
def thA:Bool:=D4 (λk=>decide (((L k).size:Int)<=210)) (min n 56)
def thB:Bool:=thA n L&&decide ((n:Int)<=55)
def rgB:Bool:=D4 (λk=>decide (((L k).size:Int)<=200)) n&&decide ((n:Int)<=50)
def rdB(most:Int):Bool:=thB n L&&(rgB n L&&decide ((n:Int)<=most))
def Xd1:St:={σ:=[Q7 n L]++HH 22 [],m:=[],nx:=2}
noncomputable def Jv5:Code:=U7 (VQ (U6 Tryz.f49) 0)
def Wi1(k:Nat):St:=(upM [(3,i k)] (Xd1 n L))
def v9(k:Nat):G6->Option St
 | .exit 0=>some (upM [] (Xd1 n L))
 | .ret=>some (upM [(2,.lit false)] (Xd1 n L))
 |_=>none
def Jq0:CT:= .branch (D4 ((λk=>decide (((L k).size:Int)<=210))) (min n 56)) (.leaf (.exit 0,(v9 n L 0 (.exit 0)).getD (Xd1 n L))) (.leaf (.ret,(v9 n L 0 .ret).getD (Xd1 n L)))
def Xy2:UF:=(HB (Wi1 n L (0)) (Jq0 n L))
theorem Jc4(VR:(min n 56)<=100000):G0 VN (.loop Jv5) (Xy2 n L):=by
 refine HG (L:=[]) Aa VX U1 (X:=Nat) (Wi1 n L) (λk=>k<=(min n 56)/\ ∀j,j<k->((λk=>decide (((L k).size:Int)<=210))) j=true) (λk=>(min n 56)-k) (v9 n L) (x0:=0) ⟨VI,λj hj=>VI⟩ ?_ ?_ ?_;rintro k;kernel_rfl;rintro k y E h;unfold v9 at h;split at h;cases h;kernel_rfl;cases h;kernel_rfl;cases h
 ·rintro Q hQ k hx;refine ⟨(k+1),?_⟩;(with_reducible refine D2 (t:=let A:=(need [VY (Q7 n L)] (leaf (G6.exit 0)));(branch (decide ((k:Int)<(n:Int))) (branch (decide ((k:Int)<56)) (need [UE k n] (branch (decide ((↑(ByteArray.size (L k)):Int)>210)) (need [VY (Q7 n L),WO] (leaf G6.ret)) (need [VK ((k:Int)+1)] (need [VY (Q7 n L),(k:Int)+1=(↑(k+1):Int)] (leaf G6.normal))))) A) A)) VT ?_);simp only [Jq0,v9,VL.sat,GR] at hQ;have Wq1:k<(min n 56)->((λk=>decide (((L k).size:Int)<=210))) k=false->D4 ((λk=>decide (((L k).size:Int)<=210))) (min n 56)=false:=by
   intro h1 h2;rw [←Bool.not_eq_true];intro h3;have:=GK.1 h3 k h1;exact Bool.noConfusion (h2.symm.trans this)
  have gE:((λk=>decide (((L k).size:Int)<=210))) k=true-> ∀j,j<k+1->((λk=>decide (((L k).size:Int)<=210))) j=true:=by
   intro h1 j hj;rcases (show j<k\/j=k by omega) with h|rfl
   exact hx.2 j h;exact h1
  have PL: ¬k<(min n 56)->D4 ((λk=>decide (((L k).size:Int)<=210))) (min n 56)=true:=λh=>GK.2 (λj hj=>hx.2 j VI);have hQ1: ∀E,v9 n L k .ret=some E->D4 ((λk=>decide (((L k).size:Int)<=210))) (min n 56)=false->Q (.ret,E):=by
   intro E hE hf;cases hE;exact hQ.2 hf
  have hQ2: ∀E,v9 n L k (.exit 0)=some E->D4 ((λk=>decide (((L k).size:Int)<=210))) (min n 56)=true->Q (.exit 0,E):=by
   intro E hE hf;cases hE;exact hQ.1 hf
  simp only [VL.sat,U9,UG,H4,VK,DX]
  all_goals exact V4
theorem Wh1:VW VN 49 [lns n L] (bl (thB n L)):=by
 refine U0 (L:=[FH [min n 56<=100000] (Xy2 n L)]) Aa VX Tryz.func49 (US Tryz.f49) (UY (lpE (b:= .loop Jv5) VT<|HU (λh=>Jc4 n L h))) (t:=need [min n 56<=100000] (need [VY (Q7 n L),(0:Int)=((0:Nat):Int)] (branch (D4 (λk=>decide ((↑(ByteArray.size (L k)):Int)<=210)) (min n 56)) (leaf (RV.x (.bool (decide ((n:Int)<=55))))) (leaf (RV.x (WK)))))) VT ?_
 simp only [VL.sat,U9,UV,GJ,UB,VK,UG,H4,FE];unfold thB thA;refine ⟨VI,λh=>?_,λh=>?_⟩;simp [h];simp [h]
def Xq0:UX:=λl=>some ([l=[lns n L]],bl (thB n L))
theorem Qn9:VO VN 49 (Xq0 n L):=by
 refine ⟨(UI Tryz.func49),?_⟩;intro avs ns res h W;cases h;have e:=W _ GB;subst e;exact Wh1 n L
def b9:St:={σ:=[Q7 n L]++HH 18 [],m:=[],nx:=2}
noncomputable def Xe5:Code:=U7 (VQ (U6 Tryz.f50) 0)
def EO(k:Nat):St:=(upM [(3,i k)] (b9 n L))
def PR(k:Nat):G6->Option St
 | .exit 0=>some (upM [] (b9 n L))
 | .ret=>some (upM [(2,.lit false)] (b9 n L))
 |_=>none
def Wy0:CT:= .branch (D4 ((λk=>decide (((L k).size:Int)<=200))) n) (.leaf (.exit 0,(PR n L 0 (.exit 0)).getD (b9 n L))) (.leaf (.ret,(PR n L 0 .ret).getD (b9 n L)))
def mL:UF:=(HB (EO n L (0)) (Wy0 n L))
theorem Wc1(VR:n<=100000):G0 VN (.loop Xe5) (mL n L):=by
 refine HG (L:=[]) Aa VX U1 (X:=Nat) (EO n L) (λk=>k<=n/\ ∀j,j<k->((λk=>decide (((L k).size:Int)<=200))) j=true) (λk=>n-k) (PR n L) (x0:=0) ⟨VI,λj hj=>VI⟩ ?_ ?_ ?_;rintro k;kernel_rfl;rintro k y E h;unfold PR at h;split at h;cases h;kernel_rfl;cases h;kernel_rfl;cases h
 ·rintro Q hQ k hx;refine ⟨(k+1),?_⟩;(with_reducible refine D2 (t:=branch (decide ((k:Int)<(n:Int))) (need [UE k n] (branch (decide ((↑(ByteArray.size (L k)):Int)>200)) (need [VY (Q7 n L),WO] (leaf G6.ret)) (need [VK ((k:Int)+1)] (need [VY (Q7 n L),(k:Int)+1=(↑(k+1):Int)] (leaf G6.normal))))) (need [VY (Q7 n L)] (leaf (G6.exit 0)))) VT ?_);simp only [Wy0,PR,VL.sat,GR] at hQ;have Wq1:k<n->((λk=>decide (((L k).size:Int)<=200))) k=false->D4 ((λk=>decide (((L k).size:Int)<=200))) n=false:=by
   intro h1 h2;rw [←Bool.not_eq_true];intro h3;have:=GK.1 h3 k h1;exact Bool.noConfusion (h2.symm.trans this)
  have gE:((λk=>decide (((L k).size:Int)<=200))) k=true-> ∀j,j<k+1->((λk=>decide (((L k).size:Int)<=200))) j=true:=by
   intro h1 j hj;rcases (show j<k\/j=k by omega) with h|rfl
   exact hx.2 j h;exact h1
  have PL: ¬k<n->D4 ((λk=>decide (((L k).size:Int)<=200))) n=true:=λh=>GK.2 (λj hj=>hx.2 j VI);have hQ1: ∀E,PR n L k .ret=some E->D4 ((λk=>decide (((L k).size:Int)<=200))) n=false->Q (.ret,E):=by
   intro E hE hf;cases hE;exact hQ.2 hf
  have hQ2: ∀E,PR n L k (.exit 0)=some E->D4 ((λk=>decide (((L k).size:Int)<=200))) n=true->Q (.exit 0,E):=by
   intro E hE hf;cases hE;exact hQ.1 hf
  simp only [VL.sat,U9,UG,H4,VK,DX]
  all_goals exact V4
theorem Qo0(VR:n<=100000):VW VN 50 [lns n L] (bl (rgB n L)):=by
 refine U0 (L:=[FH [n<=100000] (mL n L)]) Aa VX Tryz.func50 (US Tryz.f50) (UY (lpE (b:= .loop Xe5) VT<|HU (λh=>Wc1 n L h))) (t:=need [n<=100000] (need [VY (Q7 n L),(0:Int)=((0:Nat):Int)] (branch (D4 (λk=>decide ((↑(ByteArray.size (L k)):Int)<=200)) n) (leaf (RV.x (.bool (decide ((n:Int)<=50))))) (leaf (RV.x (WK)))))) VT ?_
 simp only [VL.sat,U9,UV,GJ,UB,VK,UG,H4,FE];unfold rgB;refine ⟨VI,λh=>?_,λh=>?_⟩;simp [h];simp [h]
def Qu2:UX:=λl=>some ([l=[lns n L],n<=100000],bl (rgB n L))
theorem oN:VO VN 50 (Qu2 n L):=by
 refine ⟨(UI Tryz.func50),?_⟩;intro avs ns res h W;cases h;have e:avs=[lns n L]:=W _ VS;have h0:n<=100000:=W _ VS;subst e;exact Qo0 n L h0
theorem Qo1(most:Int):VW VN 15 [lns n L,i most] (bl (rdB n L most)):=by
 refine U0 (L:=[]) (Ae (Qn9 n L) (Ae (oN n L) Aa)) VX Tryz.func15 (US Tryz.f15) U1 (t:=need [(KF n L)] (branch (thB n L) (need [(KF n L),n<=100000] (branch (rgB n L) (leaf (RV.x (.bool (decide ((n:Int)<=most))))) (leaf (RV.x (WK))))) (leaf (RV.x (WK))))) VT ?_;simp only [VL.sat,U9,UV,UB,UG];have W:thB n L=true->n<=55:=λh=>by
  unfold thB at h;rw [GT,kG] at h;omega
 unfold rdB
 (with_reducible repeat' first|apply Al|intro _)
 all_goals first|(have:=W (by assumption);omega)|simp_all
def Xa1(most:Int):UX:=λl=>some ([l=[lns n L,i most]],bl (rdB n L most))
theorem oO(most:Int):VO VN 15 (Xa1 n L most):=by
 refine ⟨(UI Tryz.func15),?_⟩;intro avs ns res h W;cases h;have e:=W _ GB;subst e;exact Qo1 n L most
theorem Wh3(VR:n<=100000):VW VN 22 [lns n L] (lns n L):=by
 refine G8 (L:=[]) Aa Ad VX Tryz.func22 (US Tryz.f22) G7 (t:=need [(0+n)*16<=140737488355328,∀(i:Nat),i<n-> ∀(a:AV),a∈[HV (L i)]->AV.one a=true] (leaf (RV.lst 1 (0+n) (GD 0 (λx=>[]) λk=>[HV (L k)])))) VT ?_;simp only [VL.sat,U9,UV,true_and]
 (with_reducible repeat' first|apply Al|intro _)
 all_goals first|exact Ak|omega|(rename_i ha;rw [PM.1 ha];first|exact Ak|rfl)|exact IM _ _|rfl|trace_state
def Xq1:UX:=λl=>some ([l=[lns n L]],lns n L)
theorem NW(VR:n<=100000):VO VN 22 (Xq1 n L):=by
 refine ⟨(UI Tryz.func22),?_⟩;intro avs ns res h W;cases h;have e:=W _ GB;subst e;exact Wh3 n L VR
end
section
variable (s:HS)
abbrev JQ:GY:=[(1,GN.cells 43 (hL s)),(0,GN.cells 43 (hL s))]
def Zx3:St:={σ:=[agg (hL s),agg (hL s),ptr 0 0,ptr 1 0]++HH 168 [],m:=(JQ s),nx:=45}
noncomputable def Jy4:Code:=U7 (VQ (U6 Tryz.f31) 0)
def Wl7(k:Nat):St:=(upM [(5,i k)] (Zx3 s))
def E3(k:Nat):G6->Option St
 | .exit 0=>some (upM [(5,i (s.nr:Nat))] (Zx3 s))
 |_=>none
def Jt8:CT:= .leaf (.exit 0,(E3 s 0 (.exit 0)).getD (Zx3 s))
def Zc2:UF:=GI [] (HB (Wl7 s (0)) (Jt8 s))
theorem Jn4(VR:hsN s):G0 VN (.loop Jy4) (Zc2 s):=by
 refine UP [] (L:=[]) Aa Ad VX U1 (X:=Nat) (Wl7 s) (λk=>k<=s.nr) (λk=>s.nr-k) (E3 s) (x0:=0) VS ?_ ?_ ?_;rintro k;kernel_rfl;rintro k y E h;unfold E3 at h;split at h;cases h;kernel_rfl;cases h;rintro Q hQ k hx;refine ⟨(k+1),?_⟩;(with_reducible refine D2 (t:=branch (decide ((k:Int)<(↑s.nr:Int))) (need [UE k s.nr] (need [UE k s.nr] (branch (!(s.ra k==s.ra k&&(s.rb k==s.rb k&&(s.ru k==s.ru k&&(s.rv k==s.rv k&&true)&&true)))) VL.fail (need [VK ((k:Int)+1)] (need [X0 s,X0 s,QK,WR,(k:Int)+1=(↑(k+1):Int),QX s,XD s,XE s,W2 s,QY s,QZ s,QX s,XD s,XE s,W2 s,QY s,QZ s] (leaf G6.normal)))))) (need [X0 s,X0 s,QK,WR,(k:Int)=(↑s.nr:Int),QX s,XD s,XE s,W2 s,QY s,QZ s,QX s,XD s,XE s,W2 s,QY s,QZ s] (leaf (G6.exit 0)))) VT ?_);simp only [Jt8,E3,VL.sat,GR] at hQ;simp only [VL.sat,U9,UV,GJ,UB,VK,UG,H4,FE,FJ,FR,GH,E3]
 obtain ⟨g1,g2,g3,g4,g5⟩:=VR;refine ⟨λh=>?_,λh=>?_⟩;have hk:k<s.nr:=VI;exact V2;obtain rfl:k=s.nr:=VI;exact YW
def Zx2:St:={σ:=[agg (hL s),agg (hL s),ptr 0 0,ptr 1 0,top,iI (↑s.nr:Int)]++HH 166 [],m:=(JQ s),nx:=46}
noncomputable def Xr0:Code:=U7 (VQ (U6 Tryz.f31) 1)
def Wl6(b:Nat):St:=(upM [(6,i b),(7,.top)] (Zx2 s))
def E2(b:Nat):G6->Option St
 | .exit 2=>some (upM [(6,i (s.nb:Nat)),(7,.top)] (Zx2 s))
 |_=>none
def Jt7:CT:= .leaf (.exit 2,(E2 s 0 (.exit 2)).getD (Zx2 s))
def Zc1:UF:=GI [] (HB (Wl6 s (0)) (Jt7 s))
def Zx1(b:Nat):St:={σ:=[agg (hL s),agg (hL s),ptr 0 0,ptr 1 0,top,iI (↑s.nr:Int),iI (b:Int)]++HH 165 [],m:=(JQ s),nx:=82}
noncomputable def Jy3:Code:=U7 (VQ Xr0 0)
def Wl5(b:Nat)(k:Nat):St:=(upM [(7,i k)] (Zx1 s b))
def E1(b:Nat)(k:Nat):G6->Option St
 | .exit 4=>some (upM [(7,i (s.qm b:Nat))] (Zx1 s b))
 |_=>none
def Jt6(b:Nat):CT:= .leaf (.exit 4,(E1 s b 0 (.exit 4)).getD (Zx1 s b))
def Zc0(b:Nat):UF:=GI [] (HB (Wl5 s b (0)) (Jt6 s b))
theorem Jn2(b:Nat)(VR:hsN s)(UD:b<s.nb):G0 VN (.loop Jy3) (Zc0 s b):=by
 refine UP [] (L:=[]) Aa Ad VX U1 (X:=Nat) (Wl5 s b) (λk=>k<=s.qm b) (λk=>s.qm b-k) (E1 s b) (x0:=0) VS ?_ ?_ ?_;rintro k;kernel_rfl;rintro k y E h;unfold E1 at h;split at h;cases h;kernel_rfl;cases h;rintro Q hQ k hx;refine ⟨(k+1),?_⟩;(with_reducible refine D2 (t:=need [UE b s.nb] (branch (decide ((k:Int)<(s.qm b:Int))) (need [UE b s.nb] (need [UE k (s.qm b)] (need [UE b s.nb] (need [UE k (s.qm b)] (branch (!(s.qr b k==s.qr b k&&(s.qv b k==s.qv b k&&true))) VL.fail (need [VK ((k:Int)+1)] (need [X0 s,X0 s,QK,WR,VY (↑s.nr:Int),VY (b:Int),(k:Int)+1=(↑(k+1):Int),QX s,XD s,XE s,W2 s,QY s,QZ s,QX s,XD s,XE s,W2 s,QY s,QZ s] (leaf G6.normal)))))))) (need [X0 s,X0 s,QK,WR,VY (↑s.nr:Int),VY (b:Int),(k:Int)=(s.qm b:Int),QX s,XD s,XE s,W2 s,QY s,QZ s,QX s,XD s,XE s,W2 s,QY s,QZ s] (leaf (G6.exit 4))))) VT ?_);simp only [Jt6,E1,VL.sat,GR] at hQ;simp only [VL.sat,U9,UV,GJ,UB,VK,UG,H4,FE,FJ,FR,GH,E1]
 obtain ⟨g1,g2,g3,g4,g5⟩:=VR;have g6:=g5 b UD;refine ⟨VI,⟨λh=>?_,λh=>?_⟩⟩;have hk:k<s.qm b:=VI;exact V2;obtain rfl:k=s.qm b:=VI;exact YW
theorem Jn3(VR:hsN s):G0 VN (.loop Xr0) (Zc1 s):=by
 refine UP [] (L:=[PP 6 (λb=>FH [b<s.nb] (Zc0 s b))]) Aa Ad VX (UY (λZ hcj=>by
  have e:VQ Xr0 0=some (.loop Jy3):=VT;rw [e] at hcj;cases hcj;exact RE (λb=>HU (λh=>Jn2 s b VR h)))) (X:=Nat) (Wl6 s) (λb=>b<=s.nb) (λb=>s.nb-b) (E2 s) (x0:=0) VS ?_ ?_ ?_
 rintro b;kernel_rfl;rintro b y E h;unfold E2 at h;split at h;cases h;kernel_rfl;cases h;rintro Q hQ b hx;refine ⟨(b+1),?_⟩;(with_reducible refine D2 (t:=branch (decide ((b:Int)<(↑s.nb:Int))) (need [UE b s.nb] (need [UE b s.nb] (branch (!(s.ql b==s.ql b&&(s.qh b==s.qh b&&true))) VL.fail (need [UE b s.nb] (need [UE b s.nb] (branch ((s.qm b:Int) != (s.qm b:Int)) VL.fail (need [b<s.nb] (need [X0 s,X0 s,QK,WR,VY (↑s.nr:Int),VY (b:Int),(0:Int)=((0:Nat):Int),QX s,XD s,XE s,W2 s,QY s,QZ s,QX s,XD s,XE s,W2 s,QY s,QZ s] (need [VK ((b:Int)+1)] (need [X0 s,X0 s,QK,WR,VY (↑s.nr:Int),(b:Int)+1=(↑(b+1):Int),QX s,XD s,XE s,W2 s,QY s,QZ s,QX s,XD s,XE s,W2 s,QY s,QZ s] (leaf G6.normal))))))))))) (need [X0 s,X0 s,QK,WR,VY (↑s.nr:Int),(b:Int)=(↑s.nb:Int),QX s,XD s,XE s,W2 s,QY s,QZ s,QX s,XD s,XE s,W2 s,QY s,QZ s] (leaf (G6.exit 2)))) VT ?_);simp only [Jt7,E2,VL.sat,GR] at hQ;simp only [VL.sat,U9,UV,GJ,UB,VK,UG,H4,FE,FJ,FR,GH,E2]
 obtain ⟨g1,g2,g3,g4,g5⟩:=VR;refine ⟨λh=>?_,λh=>?_⟩;have hk:b<s.nb:=VI;exact V2;obtain rfl:b=s.nb:=VI;exact YW
def Zx0:St:={σ:=[agg (hL s),agg (hL s),ptr 0 0,ptr 1 0,top,iI (↑s.nr:Int),iI (↑s.nb:Int)]++HH 165 [],m:=(JQ s),nx:=47}
noncomputable def Jy2:Code:=U7 (VQ (U6 Tryz.f31) 2)
def Wl4(k:Nat):St:=(upM [(8,i k)] (Zx0 s))
def E0(k:Nat):G6->Option St
 | .exit 6=>some (upM [(8,i (s.nc:Nat))] (Zx0 s))
 |_=>none
def Jt5:CT:= .leaf (.exit 6,(E0 s 0 (.exit 6)).getD (Zx0 s))
def Zb9:UF:=GI [] (HB (Wl4 s (0)) (Jt5 s))
theorem Jn1(VR:hsN s):G0 VN (.loop Jy2) (Zb9 s):=by
 refine UP [] (L:=[]) Aa Ad VX U1 (X:=Nat) (Wl4 s) (λk=>k<=s.nc) (λk=>s.nc-k) (E0 s) (x0:=0) VS ?_ ?_ ?_;rintro k;kernel_rfl;rintro k y E h;unfold E0 at h;split at h;cases h;kernel_rfl;cases h;rintro Q hQ k hx;refine ⟨(k+1),?_⟩;(with_reducible refine D2 (t:=branch (decide ((k:Int)<(↑s.nc:Int))) (need [UE k s.nc] (need [UE k s.nc] (branch (!(s.ca k==s.ca k&&(s.cb k==s.cb k&&(s.cc k==s.cc k&&true))&&(s.cd k==s.cd k&&(s.cv k==s.cv k&&true)))) VL.fail (need [VK ((k:Int)+1)] (need [X0 s,X0 s,QK,WR,VY (↑s.nr:Int),VY (↑s.nb:Int),(k:Int)+1=(↑(k+1):Int),QX s,XD s,XE s,W2 s,QY s,QZ s,QX s,XD s,XE s,W2 s,QY s,QZ s] (leaf G6.normal)))))) (need [X0 s,X0 s,QK,WR,VY (↑s.nr:Int),VY (↑s.nb:Int),(k:Int)=(↑s.nc:Int),QX s,XD s,XE s,W2 s,QY s,QZ s,QX s,XD s,XE s,W2 s,QY s,QZ s] (leaf (G6.exit 6)))) VT ?_);simp only [Jt5,E0,VL.sat,GR] at hQ;simp only [VL.sat,U9,UV,GJ,UB,VK,UG,H4,FE,FJ,FR,GH,E0]
 obtain ⟨g1,g2,g3,g4,g5⟩:=VR;refine ⟨λh=>?_,λh=>?_⟩;have hk:k<s.nc:=VI;exact V2;obtain rfl:k=s.nc:=VI;exact YW
def Zw9:St:={σ:=[agg (hL s),agg (hL s),ptr 0 0,ptr 1 0,top,iI (↑s.nr:Int),iI (↑s.nb:Int),top,iI (↑s.nc:Int)]++HH 163 [],m:=(JQ s),nx:=48}
noncomputable def Jy1:Code:=U7 (VQ (U6 Tryz.f31) 3)
def Wl3(k:Nat):St:=(upM [(9,i k)] (Zw9 s))
def CZ(k:Nat):G6->Option St
 | .exit 8=>some (upM [(9,i (s.ns:Nat))] (Zw9 s))
 |_=>none
def Jt4:CT:= .leaf (.exit 8,(CZ s 0 (.exit 8)).getD (Zw9 s))
def Zb8:UF:=GI [] (HB (Wl3 s (0)) (Jt4 s))
theorem Jn0(VR:hsN s):G0 VN (.loop Jy1) (Zb8 s):=by
 refine UP [] (L:=[]) Aa Ad VX U1 (X:=Nat) (Wl3 s) (λk=>k<=s.ns) (λk=>s.ns-k) (CZ s) (x0:=0) VS ?_ ?_ ?_;rintro k;kernel_rfl;rintro k y E h;unfold CZ at h;split at h;cases h;kernel_rfl;cases h;rintro Q hQ k hx;refine ⟨(k+1),?_⟩;(with_reducible refine D2 (t:=branch (decide ((k:Int)<(↑s.ns:Int))) (need [UE k s.ns] (need [UE k s.ns] (branch (!(s.sa k==s.sa k&&(s.sb k==s.sb k&&(s.sc k==s.sc k&&(s.sl k==s.sl k&&(s.sh k==s.sh k&&true)&&true))))) VL.fail (need [VK ((k:Int)+1)] (need [X0 s,X0 s,QK,WR,VY (↑s.nr:Int),VY (↑s.nb:Int),VY (↑s.nc:Int),(k:Int)+1=(↑(k+1):Int),QX s,XD s,XE s,W2 s,QY s,QZ s,QX s,XD s,XE s,W2 s,QY s,QZ s] (leaf G6.normal)))))) (need [X0 s,X0 s,QK,WR,VY (↑s.nr:Int),VY (↑s.nb:Int),VY (↑s.nc:Int),(k:Int)=(↑s.ns:Int),QX s,XD s,XE s,W2 s,QY s,QZ s,QX s,XD s,XE s,W2 s,QY s,QZ s] (leaf (G6.exit 8)))) VT ?_);simp only [Jt4,CZ,VL.sat,GR] at hQ;simp only [VL.sat,U9,UV,GJ,UB,VK,UG,H4,FE,FJ,FR,GH,CZ]
 obtain ⟨g1,g2,g3,g4,g5⟩:=VR;refine ⟨λh=>?_,λh=>?_⟩;have hk:k<s.ns:=VI;exact V2;obtain rfl:k=s.ns:=VI;exact YW
end
theorem iY{S:Code->UF->Prop}{c:Code}{s0 s1 s2 s3:UF}(h0: ∀Z,VQ c 0=some Z->S Z s0)(h1: ∀Z,VQ c 1=some Z->S Z s1)(h2: ∀Z,VQ c 2=some Z->S Z s2)(h3: ∀Z,VQ c 3=some Z->S Z s3):
  ∀j Z,VQ c j=some Z-> ∀sp,[s0,s1,s2,s3][j]? =some sp->S Z sp:=by
 intro j Z hj sp I
 match j with
 | 0=>simp at I;subst I;exact h0 Z hj
 | 1=>simp at I;subst I;exact h1 Z hj
 | 2=>simp at I;subst I;exact h2 Z hj
 | 3=>simp at I;subst I;exact h3 Z hj
 |j+4=>simp at I
theorem Wh2(s:HS)(VR:hsN s):VW VN 31 [.agg (hsL s),.agg (hsL s)] (bl true):=by
 refine G8 (L:=[Zc2 s,Zc1 s,Zb9 s,Zb8 s]) Aa Ad VX Tryz.func31 (US Tryz.f31) (iY (lpE (b:= .loop Jy4) VT<|(Jn4 s VR).N) (lpE (b:= .loop Xr0) VT<|(Jn3 s VR).N) (lpE (b:= .loop Jy2) VT<|(Jn1 s VR).N) (lpE (b:= .loop Jy1) VT<|(Jn0 s VR).N)) (t:=branch (!(s.pl==s.pl&&(s.ph==s.ph&&true))) (leaf (RV.x (WK))) (branch ((↑s.nr:Int) != (↑s.nr:Int)) (leaf (RV.x (WK))) (branch ((↑s.nb:Int) != (↑s.nb:Int)) (leaf (RV.x (WK))) (branch ((↑s.nc:Int) != (↑s.nc:Int)) (leaf (RV.x (WK))) (branch ((↑s.ns:Int) != (↑s.ns:Int)) (leaf (RV.x (WK))) (need [X0 s,X0 s,QK,WR,(0:Int)=((0:Nat):Int),QX s,XD s,XE s,W2 s,QY s,QZ s,QX s,XD s,XE s,W2 s,QY s,QZ s] (need [X0 s,X0 s,QK,WR,VY (↑s.nr:Int),(0:Int)=((0:Nat):Int),QX s,XD s,XE s,W2 s,QY s,QZ s,QX s,XD s,XE s,W2 s,QY s,QZ s] (need [X0 s,X0 s,QK,WR,VY (↑s.nr:Int),VY (↑s.nb:Int),(0:Int)=((0:Nat):Int),QX s,XD s,XE s,W2 s,QY s,QZ s,QX s,XD s,XE s,W2 s,QY s,QZ s] (need [X0 s,X0 s,QK,WR,VY (↑s.nr:Int),VY (↑s.nb:Int),VY (↑s.nc:Int),(0:Int)=((0:Nat):Int),QX s,XD s,XE s,W2 s,QY s,QZ s,QX s,XD s,XE s,W2 s,QY s,QZ s] (leaf (RV.x (.bool true)))))))))))) VT ?_
 obtain ⟨g1,g2,g3,g4,g5⟩:=VR;simp only [VL.sat,U9,UV,GJ,UB,UG,VK,DX]
 (with_reducible repeat' first|apply Al|intro _)
 all_goals first|exact Ak|omega|rfl|(exfalso;rename_i h9;simp at h9;done)|decide
section
variable (L:Cf)
def acB(k:Nat):Bool:=eK L k==0
def kpN(n:Nat):Nat:=UW (acB L) n
def kpF(n:Nat)(j:Nat):ByteArray:=L (UO (acB L) n j)
end
section
variable (n:Nat)(L:Cf)
def Xa9:D9:=λl=>some (.need [l=[lns n L]] (.leaf (.tup [.agg (hsL (sK L n)),.lst 1 n (exG L),i 0])))
theorem OE(h0:ckE n L=0):Sx.Enters Tryz.prog 27/\ ∀avs t,Xa9 n L avs=some t->UK VN 27 avs t:=by
 refine ⟨(UI Tryz.func27),?_⟩;intro avs t h;cases h;intro Q hQ;have e:avs=[lns n L]:=hQ.1;subst e;have hk:=kB h0;refine I5 n L VI Q ⟨λh=>?_,λ_=>hQ.2⟩;rw [h0] at h;exact absurd h (by decide)
end
theorem catS{a:Cf}{k j:Nat}{x:ByteArray}(h:j<k+1)(hx:x=a k):GD k (λz=>[.x (.string (a z))]) (U3 1 [.x (.string x)]) j=[.x (.string (a j))]:=by
 subst hx;rcases (show j<k\/j=k by omega) with h1|rfl
 show H3 (decide (j<k)) _ (U3 _ _ (j-k))=_;rw [decide_eq_true h1,show j-k=0 by omega]
 rfl;show H3 (decide (j<j)) _ (U3 _ _ (j-j))=_;rw [show decide (j<j)=false by simp,Bs]
 rfl
section
variable (n:Nat)(L:Cf)
def Zv4:St:={σ:=[Q7 n L,top,ptr 0 0,Q9,AV.lit false,ptr 1 0,lst 1 n λj=>[iI (eK L j)],iI 0]++HH 39 [],m:=[(905,GN.row 9 1 0 λx=>[]),(1,GN.cells 43 (hL (sK L n))),(0,GN.cells 43 YJ)],nx:=906}
noncomputable def Jw6:Code:=U7 (VQ (U6 Tryz.f16) 0)
def Wj4(k:Nat):St:={σ:=H5 [(8,.row 905),(9,i k)] (Zv4 n L).σ,m:=[(905,.row 9 1 (kpN L k) (λz=>[.x (.string (kpF L n z))])),(1,.cells 43 (hsL (sK L n))),(0,.cells 43 [.x (.slice none 0 0),i 0,i 0,.x (.slice none 0 0),.x (.slice none 0 0),.x (.slice none 0 0)])],nx:=906}
def CJ(k:Nat):G6->Option St
 | .exit 0=>some {σ:=H5 [(8,.row 905),(9,i n)] (Zv4 n L).σ,m:=[(905,.row 9 1 (kpN L n) (λz=>[.x (.string (kpF L n z))])),(1,.cells 43 (hsL (sK L n))),(0,.cells 43 [.x (.slice none 0 0),i 0,i 0,.x (.slice none 0 0),.x (.slice none 0 0),.x (.slice none 0 0)])],nx:=906}
 |_=>none
def Jr5:CT:= .leaf (.exit 0,(CJ n L 0 (.exit 0)).getD (Zv4 n L))
def Xz7:UF:=GI [(.slot 2,0,0,2),(.slot 5,1,0,2),(.slot 8,905,9,1)] (HB (Wj4 n L (0)) (Jr5 n L))
theorem Jg7(VR:ckE n L=0):G0 VN (.loop Jw6) (Xz7 n L):=by
 refine UP [(.slot 2,0,0,2),(.slot 5,1,0,2),(.slot 8,905,9,1)] (L:=[]) (Ae (NW n L (by have:=kB VR;omega)) Aa) (Aj Ab Ac (Ah (OE n L VR) (UA.nil _))) VX U1 (X:=Nat) (Wj4 n L) (λk=>k<=n) (λk=>n-k) (CJ n L) (x0:=0) VS ?_ ?_ ?_
 rintro k;kernel_rfl;rintro k y E h;unfold CJ at h;split at h;cases h;kernel_rfl;cases h;rintro Q hQ k hx;refine ⟨(k+1),?_⟩;(with_reducible refine D2 (t:=let z0:=(VY (lst 1 n λj=>[iI (eK L j)]));let z1:=(VY (hR ((sK L n).nr) (sK L n)));let z2:=(VY (hY ((sK L n).nb) (sK L n)));let z3:=(VY (hC ((sK L n).nc) (sK L n)));let z4:=(VY (hT ((sK L n).ns) (sK L n)));(branch (decide ((k:Int)<(n:Int))) (need [UE k n] (branch (eK L k==0) (need [UE k n] (need [(kpN L k+1)*16<=140737488355328,RH 1 (U3 1 [HV (L k)])] (need [VK ((k:Int)+1)] (need [VY (Q7 n L),QK,Q9=Q9,WO,WR,z0,QS,VY (AV.row 905),(k:Int)+1=(↑(k+1):Int),kpN L k+1=kpN L (k+1),∀(i:Nat),i<kpN L (k+1)->GD (kpN L k) (λz=>[HV (kpF L n z)]) (U3 1 [HV (L k)]) i=[HV (kpF L n i)],z1,VY ((sK L n).pl),VY ((sK L n).ph),z2,z3,z4,Q9=Q9,QS,QS,Q9=Q9,Q9=Q9,Q9=Q9] (leaf G6.normal))))) (need [VK ((k:Int)+1)] (need [VY (Q7 n L),QK,Q9=Q9,WO,WR,z0,QS,VY (AV.row 905),(k:Int)+1=(↑(k+1):Int),kpN L k=kpN L (k+1),∀(i:Nat),i<kpN L (k+1)->[HV (kpF L n i)]=[HV (kpF L n i)],z1,VY ((sK L n).pl),VY ((sK L n).ph),z2,z3,z4,Q9=Q9,QS,QS,Q9=Q9,Q9=Q9,Q9=Q9] (leaf G6.normal))))) (need [VY (Q7 n L),QK,Q9=Q9,WO,WR,z0,QS,VY (AV.row 905),(k:Int)=(n:Int),kpN L k=kpN L n,∀(i:Nat),i<kpN L n->[HV (kpF L n i)]=[HV (kpF L n i)],z1,VY ((sK L n).pl),VY ((sK L n).ph),z2,z3,z4,Q9=Q9,QS,QS,Q9=Q9,Q9=Q9,Q9=Q9] (leaf (G6.exit 0))))) VT ?_)
 simp only [Jr5,CJ,VL.sat,GR] at hQ;simp only [VL.sat,U9,UV,GJ,UB,VK,UG,H4,FE,FJ,FR,GH,CJ]
 have b1:=y6 (p:=acB L) (k:=k);have b0:=kB VR;have e0:kpN L k=UW (acB L) k:=rfl;have e00:kpN L (k+1)=UW (acB L) (k+1):=rfl;refine ⟨λh=>?_,λh=>?_⟩;have hk:k<n:=VI;cases hc:acB L k;have e1:=RJ hc;have hc': ¬((eK L k==0)=true):=λh=>Bool.noConfusion (hc.symm.trans h);exact VD
 ·have e1:=DW hc;have hc': ¬((eK L k==0)=false):=λh=>Bool.noConfusion (hc.symm.trans h);have hq: ∀j,j<kpN L (k+1)->GD (kpN L k) (λz=>[.x (.string (kpF L n z))]) (U3 1 [.x (.string (L k))]) j=[.x (.string (kpF L n j))]:=by
   intro j hj;rw [e00,e1] at hj;refine catS (a:=kpF L n) hj ?_;show L k=L (UO (acB L) n (UW (acB L) k));rw [B1 hk hc]
  (with_reducible repeat' first|apply Al|intro _)
  all_goals first|exact P4|(first|exact absurd (by assumption) hc'|exact hq _ (by assumption)|exact FG (by assumption) (by simp [AV.one,Value.oneCell']))
 obtain rfl:k=n:=VI;exact YW
theorem oP(VR:ckE n L=0):UK VN 16 [lns n L] (.leaf (.tup [.agg (hsL (sK L n)),.lst 1 (kpN L n) (λz=>[.x (.string (kpF L n z))]),bl true])):=by
 refine GS (L:=[Xz7 n L]) (Ae (NW n L (by have:=kB VR;omega)) Aa) (Aj Ab Ac (Ah (OE n L VR) (UA.nil _))) VX Tryz.func16 (US Tryz.f16) (UY (lpE (b:= .loop Jw6) VT<|(Jg7 n L VR).N)) (t:=let z0:=(leaf (tup [agg (hL (sK L n)),Q9,AV.lit false]));(need [(KF n L)] (need [(KF n L)] (branch ((0:Int) != 0) z0 (branch ((n:Int) != (n:Int)) z0 (need [VY (Q7 n L),QK,Q9=Q9,WO,WR,VY (lst 1 n λj=>[iI (eK L j)]),QS,VY (AV.row 905),(0:Int)=((0:Nat):Int),0=kpN L 0,∀(i:Nat),i<kpN L 0->[]=[HV (kpF L n i)],VY (hR ((sK L n).nr) (sK L n)),VY ((sK L n).pl),VY ((sK L n).ph),VY (hY ((sK L n).nb) (sK L n)),VY (hC ((sK L n).nc) (sK L n)),VY (hT ((sK L n).ns) (sK L n)),Q9=Q9,QS,QS,Q9=Q9,Q9=Q9,Q9=Q9] (leaf (tup [agg (hL (sK L n)),lst 1 (kpN L n) λz=>[HV (kpF L n z)],AV.lit true])))))))) VT ?_
 intro Q hQ;simp only [VL.sat,U9,UG,VK,DX] at hQ ⊢;have b0:=kB VR
 (with_reducible repeat' first|apply Al|intro _)
 all_goals first|exact Ak|contradiction|(exfalso;rename_i h9;simp at h9;done)|omega|rfl|(rename_i h;exact absurd h (Aq _))|exact ⟨.tup [.agg (hsL (sK L n)),.lst 1 (kpN L n) (λz=>[.x (.string (kpF L n z))]),bl true],⟨A1 _,⟨rfl,rfl,λ_ _=>rfl⟩,rfl,Ak⟩,hQ⟩|exact ⟨.tup [.agg (hsL (sK L n)),.lst 1 (kpN L n) (λz=>[.x (.string (kpF L n z))]),bl true],⟨A1 _,⟨rfl,rfl,λ_ _=>rfl⟩,⟨rfl,rfl⟩,Ak⟩,hQ⟩|trace_state
end
def lnF(f:Ci)(k:Nat):ByteArray:=stO (f k)
section
variable {n:Nat}{L:Cf}
theorem Qd8(h1:n<=50)(h2: ∀k,k<n->(L k).size<=200):ckE n L=0:=by
 unfold ckE;rw [if_pos ⟨h1,GK.2 λk hk=>decide_eq_true (by have:=h2 k hk;omega)⟩]
theorem Jf9{most:Int}(h:rdB n L most=true):ckE n L=0/\(n:Int)<=most:=by
 unfold rdB at h;rw [GT,GT,kG] at h;obtain ⟨_,h2,h3⟩:=h;unfold rgB at h2;rw [GT,kG] at h2;refine ⟨Qd8 VI λk hk=>?_,h3⟩;have:=qL (GK.1 h2.1 k hk);omega
end
theorem nA{c:Nat}{T U O:Int}{n A:Nat}{a b u v a' b' S I:Cg}{h:Cg}(g:Ch)(hg: ∀j,j<n->g j<A/\a j=a' (g j)/\b j=b' (g j)/\u j=S (g j)/\v j=I (g j))(k:Tr c T U O A a' b' S I h):Tr c T U O n a b u v h:=by
 refine ⟨k.1,k.2.1,k.2.2.1,λj hj=>?_⟩;obtain ⟨e0,e1,e2,e3,e4⟩:=hg j hj;have h1:=k.2.2.2 (g j) e0;rw [e1,e2,e3,e4];exact h1
theorem Zr1{c T U O:Int}{n A:Nat}{a b u v a' b' S I:Cg}(g:Ch)(hg: ∀j,j<n->g j<A/\a j=a' (g j)/\b j=b' (g j)/\u j=S (g j)/\v j=I (g j))(hn:n<=A)(h:eB c T U O A a' b' S I=0):eB c T U O n a b u v=0:=by
 obtain ⟨h1,_,h3⟩:=BA.1 h;have hf:=flt_iff.1 h1;have hb:=LY hf.1;have ha:D4 (λk=>Bo.rdB c (a k) (b k) (u k) (v k)) n=true:=GK.2 λj hj=>by
  obtain ⟨e0,e1,e2,e3,e4⟩:=hg j hj;have h5:=GK.1 hf.2.2 (g j) e0;rw [e1,e2,e3,e4];exact h5
 have h2:flt c T U O n a b u v=0:=flt_iff.2 ⟨hf.1,VI,ha⟩;exact BA.2 ⟨h2,rfl,We8 hb.2.1 (uJ hb.1 ha) (nA g hg (Qz4 hb.2.1 (uJ hb.1 hf.2.2) h3))⟩
theorem Zo3{s:HS}{x:Int}(h:inE s=0)(hx:bt 0 x ((s.nr:Int)-1)=true):inE (stS s x)=0:=by
 obtain ⟨h1,h2,h3,h4⟩:=tX h;have hx:=(bt_iff _ _ _).1 hx;refine Zl3 (show s.nr-1<=12 by omega) h2 h3 (Zr1 (λj=>if j<x.toNat then j else j+1) (λj hj=>?_) (Nat.sub_le _ _) h4)
 have hj:j<s.nr-1:=hj;show (if j<x.toNat then j else j+1)<s.nr/\skF x s.ra j=s.ra (if j<x.toNat then j else j+1)/\skF x s.rb j=s.rb (if j<x.toNat then j else j+1)/\skF x s.ru j=s.ru (if j<x.toNat then j else j+1)/\skF x s.rv j=s.rv (if j<x.toNat then j else j+1)
 unfold skF;by_cases e:j<x.toNat;simp only [if_pos e,and_true];omega;simp only [if_neg e,and_true];omega
theorem Jp2{c T U O:Int}{n:Nat}{a b u v:Cg}{m:Nat}{p q:Cg}{pl ph dl dh u0 u1 wi Z:Int}(h:asE c T U O n a b u v m p q pl ph dl dh u0 u1 wi Z=0):rdE c T U O n a b u v m p q pl ph dl dh=0/\usB c u0 u1 wi=true/\bt 0 Z 10000=true:=by
 unfold asE at h;split at h;rename_i h1;split at h;rename_i h2;rw [GT] at h2;exact ⟨h1,h2⟩;exact absurd h (by decide)
 rename_i h1;exact absurd h h1
structure HSr (s:HS):Prop where
 rd:inE s=0
 us: ∀k,k<s.nc->usB 4 (s.ca k) (s.cb k) (s.cc k)=true
theorem Xg0{W:Cf}{n:Nat}{s:HS}(ht:HSr s)(h0:RK W n s=0):HSr (DD W s):=by
 unfold RK at h0;unfold DD;split at h0;have h:=fm0 h0;unfold thE at h;split at h;split at h;split at h;rename_i h1;exact ⟨h1,ht.us⟩;exact absurd h (by decide)
 exact absurd h (by decide)
 exact absurd h (by decide)
 have h:=fm0 h0;unfold stE at h;split at h;rename_i h1;exact ⟨Zo3 ht.rd h1,ht.us⟩;exact absurd h (by decide)
 have h:=fm0 h0;unfold baE at h;split at h;rename_i h1;exact ⟨h1,ht.us⟩;exact absurd h (by decide)
 exact ⟨ht.rd,ht.us⟩;exact ⟨ht.rd,ht.us⟩;have h:=fm0 h0;unfold isE at h;split at h;rename_i h1;refine ⟨ht.rd,λk hk=>?_⟩;have hk:k<s.nc+1:=hk;show usB 4 (H9 s.nc s.ca _ k) (H9 s.nc s.cb _ k) (H9 s.nc s.cc _ k)=true;unfold H9;by_cases e:k<s.nc;rw [if_pos e,if_pos e,if_pos e];exact ht.us k e;rw [if_neg e,if_neg e,if_neg e];exact (Jp2 h1).2.1;exact absurd h (by decide)
 exact ⟨ht.rd,ht.us⟩;exact ⟨ht.rd,ht.us⟩;exact absurd h0 (by decide)
theorem Wb2(L:Cf): ∀k,HSr (sK L k)
 | 0=>⟨VT,λk hk=>absurd hk (Aq k)⟩
 |k+1=>by
  show HSr (lnS (L k) (sK L k));unfold lnS;split;rename_i h0;exact Xg0 (Wb2 L k) h0;exact Wb2 L k
theorem dnMo{x y d:Int}(h:x<=y)(hd:1<=d):dnI x d<=dnI y d:=Int.tdiv_le_tdiv VI h
theorem upMo{x y d:Int}(h:x<=y)(hd:1<=d):upI x d<=upI y d:=Int.tdiv_le_tdiv VI VI
theorem Jn6{x y d:Int}(h:x<=y)(hd:1<=d):dnI x d<=upI y d:=Int.tdiv_le_tdiv VI VI
section
variable {c T U O:Int}{n:Nat}{a b u v:Cg}{m:Nat}{p q:Cg}{pl ph dl dh Z:Int}{k:Nat}
theorem onLk(hk:(k:Int)<=c):onL (wkA c T U O n a b u v m p q pl ph dl dh) k Z=bdL c T U O n a b u v m p q pl ph k-upI (dh*Z) 100:=by
 unfold onL;rw [show wkA c T U O n a b u v m p q pl ph dl dh (4+2*k)=bdL c T U O n a b u v m p q pl ph k from Jb4 VI];rfl
theorem onHk(hk:(k:Int)<=c):onH (wkA c T U O n a b u v m p q pl ph dl dh) k Z=bdH c T U O n a b u v m p q pl ph k-dnI (dl*Z) 100:=by
 unfold onH;rw [show wkA c T U O n a b u v m p q pl ph dl dh (5+2*k)=bdH c T U O n a b u v m p q pl ph k from Jb5 VI];rfl
end
section
variable {c T U O:Int}{n A:Nat}{a b u v a' b' S I:Cg}
theorem Zg8(g:Ch)(hg: ∀j,j<n->g j<A/\a j=a' (g j)/\b j=b' (g j)/\u j=S (g j)/\v j=I (g j))(h:eB c T U O n a b u v=0)(h':eB c T U O A a' b' S I=0){k:Nat}(hk:(k:Int)<=c): -fwB c T U O n a b u v k 0<= -fwB c T U O A a' b' S I k 0/\fwB c T U O A a' b' S I 0 k<=fwB c T U O n a b u v 0 k:=by
 obtain ⟨h1,_,h3⟩:=BA.1 h;obtain ⟨h1',_,h3'⟩:=BA.1 h';have hf:=flt_iff.1 h1;have hf':=flt_iff.1 h1';have hb:=LY hf.1;have hr:=uJ hb.1 hf.2.2;have hr':=uJ hb.1 hf'.2.2;have b1:=Qz5 hb.2.1 hr (nA g hg (Xt8 hb.2.1 hr' h3')) (x:=k) VI;have b2:=Qz5 hb.2.1 hr (nA g hg (Qz4 hb.2.1 hr' h3')) (x:=k) VI;exact ⟨b1.1,b2.2⟩
theorem Zn9{m:Nat}{p q:Cg}{pl ph dl dh u0 u1 wi Z:Int}(g:Ch)(hg: ∀j,j<n->g j<A/\a j=a' (g j)/\b j=b' (g j)/\u j=S (g j)/\v j=I (g j))(h:rdE c T U O n a b u v m p q pl ph dl dh=0)(h':rdE c T U O A a' b' S I m p q pl ph dl dh=0)(hu:usB c u0 u1 wi=true)(hd:0<=Z/\Z<=10000)
  (hk:keB c (wkA c T U O n a b u v m p q pl ph dl dh) u0 u1 wi Z=true):keB c (wkA c T U O A a' b' S I m p q pl ph dl dh) u0 u1 wi Z=true:=by
 have hu:=tF.1 hu;unfold keB at hk ⊢;rw [GK] at hk ⊢;intro j hj;have h1:=hk j hj;obtain ⟨k,e⟩: ∃k:Nat,(u0+(j:Int)).toNat=k:=⟨_,rfl⟩;have hc:(k:Int)<=c:=VI;unfold keP at h1 ⊢;rw [e,onLk hc,onHk hc,Bo.insB_iff] at h1 ⊢;obtain ⟨_,_,q3,q4⟩:=tX h;obtain ⟨_,_,_,q4'⟩:=tX h';have hv:=SH.1 q3;have tb:=LY hv.2.1;have hs:=tL hv.1;have t:=Qc1 q4 hc;have t':=Qc1 q4' hc;have h2:=Zg8 g hg q4 q4' hc;have e1:bdL c T U O n a b u v m p q pl ph k<=bdL c T U O A a' b' S I m p q pl ph k:=dnMo (Int.mul_le_mul_of_nonneg_right h2.1 VI) VI;have e2:bdH c T U O A a' b' S I m p q pl ph k<=bdH c T U O n a b u v m p q pl ph k:=upMo (Int.mul_le_mul_of_nonneg_right h2.2 VI) VI;have e3:bdL c T U O A a' b' S I m p q pl ph k<=bdH c T U O A a' b' S I m p q pl ph k:=Jn6 (Int.mul_le_mul t'.2.1 hs.2.2.1 VI VI) VI;have e4:dnI (dl*Z) 100<=upI (dh*Z) 100:=Jn6 (Int.mul_le_mul_of_nonneg_right hv.2.2.2.1 hd.1) VI;omega
end
theorem Jd0{s:HS}{x0 x1 x2 x3 Z:Int}{k:Nat}(hs:HSr s)(h':inE (thS s x0 x1 x2 x3)=0)(hk:k<s.nc)(hd:0<=Z/\Z<=10000)(h:stP s Z k=true):stP (thS s x0 x1 x2 x3) Z k=true:=by
 unfold stP stB at h ⊢;rw [GT,GT,GT] at h ⊢;obtain ⟨hv,hda,ha,hkp⟩:=h;have hu:=hs.us k hk;have ha':=Zs4 h' hu hd;refine ⟨hv,hda,beq_iff_eq.2 ha',?_⟩;unfold kpB at hkp ⊢;rw [GT] at hkp ⊢;refine ⟨decide_eq_true ha',Zn9 id (λj hj=>?_) hs.rd h' hu hd hkp.2⟩;show j<s.nr+1/\s.ra j=H9 s.nr s.ra x0 j/\s.rb j=H9 s.nr s.rb x1 j/\s.ru j=H9 s.nr s.ru x2 j/\s.rv j=H9 s.nr s.rv x3 j;unfold H9;simp only [if_pos hj,and_true];omega
open Go Go.Sx Go.RowKit
theorem sz1(x:UInt8):(⟨#[x]⟩:ByteArray).size=1:=rfl
theorem Wu2{w:World}{b o n A:Nat}{s:ByteArray}(hs:s.size=n)(h: ∀j,j<n->w.cell? ⟨b,o+j,none⟩=some (.int .u8 (byN s j))):
  (convert 87 9 (.slice (some ⟨b,o,none⟩) n A)).run Tryz.prog w= .ok (.string s) w:=by
 have hk:=run_convert_bytes_back (P:=Tryz.prog) w 87 9 5 ⟨b,o,none⟩ A s.data.toList VT VT VT (λj hj=>by
  have hj':j<s.data.size:=by simpa using hj
  have h2:=h j (by have:s.data.size=s.size:=rfl;omega)
  rw [DA,h2];unfold byN;rw [LV,Array.getElem?_eq_getElem hj'];simp)
 have e1:s.data.toList.length=n:=by
  rw [Array.length_toList];exact hs
 rw [e1] at hk;exact hk
set_option maxHeartbeats 4000000 in
theorem lA{n:Int}(h:0<=n/\n<=9){s:ByteArray}(hs:s.size=1)(hb:byN s 0=48+n)(w:World):Calls Tryz.prog 29 #[.int .i64 n] w λen w'=>en= .returned (.string s)/\Below w.heap.size w w':=by
 have h1:decide (n<0)=false:=decide_eq_false VI;have h2:decide (n<10)=true:=decide_eq_true VI;have h3: ¬n<0:=VI;have h4:n<10:=VI;have hc:(convert 87 9 (.slice (some ⟨w.heap.size,0,none⟩) 1 1)).run Tryz.prog (w.alloc (Obj.cells #[.int .u8 (48+n)] 5))= .ok (.string s) (w.alloc (Obj.cells #[.int .u8 (48+n)] 5)):=by
  refine Wu2 hs λj hj=>?_;obtain rfl:j=0:=VI;have hh:(w.alloc (Obj.cells #[.int .u8 (48+n)] 5)).heap[w.heap.size]? =some (Obj.cells #[.int .u8 (48+n)] 5):=heap_alloc_new w _;rw [hb];simp only [World.cell?,hh];rfl
 have hB:Below w.heap.size w (w.alloc (Obj.cells #[.int .u8 (48+n)] 5)):=(Below.refl _ _).alloc (Am _) _
 go_enter Tryz.func29,Tryz.ntmps29
 go_wp2
 try rw [hc]
 try go_wp2
 go_ret
 exact ⟨rfl,hB⟩
def Wz6:UX
 |[.x (.int .i64 n)]=>some ([0<=n/\n<=9],.x (.string ⟨#[UInt8.ofNat (48+n.toNat)]⟩))
 |_=>none
theorem A5:VO VN 29 Wz6:=by
 refine ⟨(UI Tryz.func29),?_⟩;intro avs ns I h hn;unfold Wz6 at h;split at h;rename_i n;cases h;have h1:0<=n/\n<=9:=hn _ VS;intro e w args q1 q2 q3 Z;obtain ⟨u,us,rfl,W,S⟩:=Z.cons_inv;cases S.nil_inv;cases W.x_inv;refine (lA (s:=⟨#[UInt8.ofNat (48+n.toNat)]⟩) h1 rfl (by
  show ((UInt8.ofNat (48+n.toNat)).toNat:Int)=_;rw [UInt8.toNat_ofNat_of_lt' (by show _<256;omega)]
  omega) w).mono ?_
 rintro en w1 ⟨rfl,hb⟩;exact ⟨_,rfl,hb,.x _⟩;cases h
def jnL:List (List UInt8)->List UInt8
 |[]=>[]
 |[w]=>w
 |w::v::r=>w++32::jnL (v::r)
theorem Xw0: ∀{w:List UInt8},(∀x∈w,x≠32)->Lib.index w [32]= -1
 |[],_=>rfl
 |b::l,h=>by
  have h1:=Xw0 (w:=l) λx hx=>h x (HI _ hx);have h2:=h b GB;rw [Lib.index_one] at h1 ⊢;unfold Lib.indexByte;rw [h1,if_neg (by simpa using h2)]
  rfl
theorem Wh6: ∀{w r:List UInt8},(∀x∈w,x≠32)->Lib.index (w++32::r) [32]=(w.length:Nat)
 |[],r,_=>by
  rw [Lib.index_one];rfl
 |b::l,r,h=>by
  have h1:=Wh6 (w:=l) (r:=r) λx hx=>h x (HI _ hx);have h2:=h b GB;rw [Lib.index_one] at h1 ⊢;rw [List.cons_append];unfold Lib.indexByte;rw [h1,if_neg (by simpa using h2),if_neg VS,Bj]
  omega
theorem Jo0{w:List UInt8}(h: ∀x∈w,x≠32):Lib.count w [32]=0:=Lib.count_miss (Xw0 h)
theorem Jo1{w r:List UInt8}(h: ∀x∈w,x≠32):Lib.count (w++32::r) [32]=1+Lib.count r [32]:=by
 rw [Lib.count_hit VS (Wh6 h)];simp
theorem Xu8: ∀{l:List (List UInt8)},l≠[]->(∀w∈l,∀x∈w,x≠32)->Lib.count (jnL l) [32]+1=l.length/\Lib.splitK [32] 0 (Lib.count (jnL l) [32]) (jnL l)=l
 |[],h,_=>absurd rfl h
 |[w],_,h=>by
  have h1:=h w GB;show Lib.count w [32]+1=1/\Lib.splitK [32] 0 (Lib.count w [32]) w=[w];rw [Jo0 h1];exact ⟨rfl,rfl⟩
 |w::v::r,_,h=>by
  have h1:=h w GB;obtain ⟨i1,i2⟩:=Xu8 (l:=v::r) VS λw hw=>h w (HI _ hw);show Lib.count (w++32::jnL (v::r)) [32]+1=(v::r).length+1/\Lib.splitK [32] 0 (Lib.count (w++32::jnL (v::r)) [32]) (w++32::jnL (v::r))=w::v::r;rw [Jo1 h1];refine ⟨VI,?_⟩;rw [Bh];unfold Lib.splitK;rw [Wh6 h1,if_neg VS];have e1:(w++32::jnL (v::r)).take (((w.length:Nat):Int).toNat+0)=w:=VS;have e2:(w++32::jnL (v::r)).drop (((w.length:Nat):Int).toNat+[(32:UInt8)].length)=jnL (v::r):=VS;rw [e1,e2,i2]
theorem Xv8{s:ByteArray}{l:List (List UInt8)}(hs:s.data.toList=jnL l)(h0:l≠[])(h: ∀w∈l,∀x∈w,x≠32):lnN s=l.length/\ ∀k,lnW s k=⟨(l.getD k []).toArray⟩:=by
 obtain ⟨h1,h2⟩:=Xu8 h0 h;have e:(spl s ⟨#[32]⟩).map (·.data.toList)=l:=by
  unfold spl;rw [Lib.splitB_data];show Lib.splitK [32] 0 (Lib.count s.data.toList [32]) s.data.toList=l;rw [hs,h2]
 refine ⟨?_,λk=>?_⟩;show Lib.count s.data.toList [32]+1=_;rw [hs,h1];unfold lnW;rw [List.getD_eq_getElem?_getD,List.getD_eq_getElem?_getD,←e,Bn];cases (spl s ⟨#[32]⟩)[k]? with
 |none=>rfl
 |some x=>rfl
def dgL(n:Nat):List UInt8:=if n<10 then [UInt8.ofNat (48+n)] else if n<100 then [UInt8.ofNat (48+n / 10),UInt8.ofNat (48+n%10)] else [UInt8.ofNat (48+n / 100),UInt8.ofNat (48+n / 10%10),UInt8.ofNat (48+n%10)]
def dgT(n:Nat):Bool:=jP ⟨(dgL n).toArray⟩&&(VZ ⟨(dgL n).toArray⟩==(n:Int)&&((dgL n).all (λx=>x != 32)&&(Nat.ble (dgL n).length 3&&(Nat.blt n 10||eqU (dgL (n / 10)++dgL (n%10)) (dgL n)))))
theorem Xm8:D4 dgT 130=true:=by decide+kernel
theorem RL{n:Nat}(h:n<130):jP ⟨(dgL n).toArray⟩=true/\VZ ⟨(dgL n).toArray⟩=n/\(∀x∈dgL n,x≠32)/\(dgL n).length<=3/\(10<=n->dgL (n / 10)++dgL (n%10)=dgL n):=by
 have h1:=GK.1 Xm8 n h;unfold dgT at h1;rw [GT,GT,GT,GT] at h1;obtain ⟨q1,q2,q3,q4,q5⟩:=h1;refine ⟨q1,beq_iff_eq.1 q2,λx hx=>by simpa using PN.1 q3 x hx,BK q4,λh10=>?_⟩
 rw [Bl] at q5;rcases q5 with q5|q5;have:=BK q5;omega;exact A4.1 q5
def thL(a b u v:Nat):List (List UInt8):=[[116,104,114,101,97,100],dgL a,dgL b,dgL u,dgL v]
def skL(k:Nat):List (List UInt8):=[[115,116,114,105,107,101],dgL k]
theorem Xf9{s:ByteArray}{a b u v:Nat}(hs:s.data.toList=jnL (thL a b u v))(S:a<130)(hb:b<130)(hu:u<130)(hv:v<130)(x:HS):lnE s x=thE x a b u v/\DD (lnW s) x=thS x a b u v:=by
 have fa:=RL S;have fb:=RL hb;have fu:=RL hu;have fv:=RL hv;obtain ⟨h1,h2⟩:=Xv8 hs (by simp [thL]) (λw hw=>by
  simp only [thL,GM,D7,or_false] at hw;rcases hw with rfl|rfl|rfl|rfl|rfl;decide;exact fa.2.2.1;exact fb.2.2.1;exact fu.2.2.1;exact fv.2.2.1)
 have w0:wdK (lnW s 0)=0:=by
  rw [h2];rfl
 have w1:lnW s 1=⟨(dgL a).toArray⟩:=h2 1;have w2:lnW s 2=⟨(dgL b).toArray⟩:=h2 2;have w3:lnW s 3=⟨(dgL u).toArray⟩:=h2 3;have w4:lnW s 4=⟨(dgL v).toArray⟩:=h2 4;have I:nuB (lnW s) 5=true:=GK.2 λj hj=>by
  rcases (show j=0\/j=1\/j=2\/j=3 by omega) with rfl|rfl|rfl|rfl
  show jP (lnW s 1)=true;rw [w1];exact fa.1;show jP (lnW s 2)=true;rw [w2];exact fb.1;show jP (lnW s 3)=true;rw [w3];exact fu.1;show jP (lnW s 4)=true;rw [w4];exact fv.1
 constructor;unfold lnE RK;rw [w0];show fmE (lnW s) (lnN s) 4 (thE x (VZ (lnW s 1)) (VZ (lnW s 2)) (VZ (lnW s 3)) (VZ (lnW s 4)))=_;unfold fmE;rw [if_pos ⟨h1,by rw [h1];exact I⟩,w1,w2,w3,w4,fa.2.1,fb.2.1,fu.2.1,fv.2.1]
 unfold DD;rw [w0];show thS x (VZ (lnW s 1)) (VZ (lnW s 2)) (VZ (lnW s 3)) (VZ (lnW s 4))=_;rw [w1,w2,w3,w4,fa.2.1,fb.2.1,fu.2.1,fv.2.1]
theorem Xg3{s:ByteArray}{k:Nat}(hs:s.data.toList=jnL (skL k))(hk:k<130)(x:HS):lnE s x=stE x k/\DD (lnW s) x=stS x k:=by
 have fa:=RL hk;obtain ⟨h1,h2⟩:=Xv8 hs (by simp [skL]) (λw hw=>by
  simp only [skL,GM,D7,or_false] at hw;rcases hw with rfl|rfl;decide;exact fa.2.2.1)
 have w0:wdK (lnW s 0)=1:=by
  rw [h2];rfl
 have w1:lnW s 1=⟨(dgL k).toArray⟩:=h2 1;have I:nuB (lnW s) 2=true:=GK.2 λj hj=>by
  obtain rfl:j=0:=VI;show jP (lnW s 1)=true;rw [w1];exact fa.1
 constructor;unfold lnE RK;rw [w0];show fmE (lnW s) (lnN s) 1 (stE x (VZ (lnW s 1)))=_;unfold fmE;rw [if_pos ⟨h1,by rw [h1];exact I⟩,w1,fa.2.1]
 unfold DD;rw [w0];show stS x (VZ (lnW s 1))=_;rw [w1,fa.2.1]
theorem dg1{n:Nat}(h:n<10):(⟨#[UInt8.ofNat (48+n)]⟩:ByteArray)=⟨(dgL n).toArray⟩:=by
 unfold dgL;rw [if_pos h]
theorem Wu0{n:Nat}(h:n<130)(h10:10<=n):(⟨(dgL (n / 10)).toArray⟩:ByteArray)++⟨(dgL (n%10)).toArray⟩=⟨(dgL n).toArray⟩:=by
 rw [←(RL h).2.2.2.2 h10];refine BC.2 ?_;simp [ByteArray.toList_data_append]
theorem u9{n:Nat}(h:n<130):(⟨(dgL n).toArray⟩:ByteArray).size<=3:=(RL h).2.2.2.1
theorem Xf7{n:Int}(h:0<=n):(n.tdiv 10).toNat=n.toNat / 10/\(n.tmod 10).toNat=n.toNat%10/\0<=n.tdiv 10/\n.tdiv 10<=n/\0<=n.tmod 10/\n.tmod 10<=9:=by
 obtain ⟨k,rfl⟩: ∃k:Nat,n=k:=⟨n.toNat,VI⟩;rw [Int.tdiv_eq_ediv_of_nonneg VI,Int.tmod_eq_emod_of_nonneg VI];omega
def Qh6:UX
 |[.x (.int .i64 n)]=>some ([0<=n/\n<=99],.x (.string ⟨(dgL n.toNat).toArray⟩))
 |_=>none
def Qh5:UX
 |[.x (.int .i64 n)]=>some ([0<=n/\n<=129],.x (.string ⟨(dgL n.toNat).toArray⟩))
 |_=>none
theorem Wx7(n:Int)(VR:10<=n/\n<=99):VW VN 29 [i n] (.x (.string ((⟨#[UInt8.ofNat (48+(n.tdiv 10).toNat)]⟩:ByteArray)++⟨#[UInt8.ofNat (48+(n.tmod 10).toNat)]⟩))):=by
 refine U0 (L:=[]) (Ae A5 Aa) VX Tryz.func29 (US Tryz.f29) U1 (t:=branch (decide (n<0)) (need [VK (-n)] (need [(0:Int)<= -n/\ -n<=9] (need [(↑(ByteArray.size {data:=#[45] }+ByteArray.size {data:=#[UInt8.ofNat (48+(-n).toNat)] }):Int)<=9223372036854775807] (leaf (RV.x (.string ({data:=#[45] }++{data:=#[UInt8.ofNat (48+(-n).toNat)] }))))))) (branch (decide (n<10)) (need [VK ((48:Int)+n)] VL.fail) (need [(10:Int)≠0,VK (Int.tdiv n (10:Int))] (need [(0:Int)<=Int.tdiv n (10:Int)/\Int.tdiv n (10:Int)<=9] (need [(10:Int)≠0] (need [(0:Int)<=Int.tmod n (10:Int)/\Int.tmod n (10:Int)<=9] (need [(↑(ByteArray.size {data:=#[UInt8.ofNat (48+(Int.tdiv n (10:Int)).toNat)] }+ByteArray.size {data:=#[UInt8.ofNat (48+(Int.tmod n (10:Int)).toNat)] }):Int)<=9223372036854775807] (leaf (RV.x (.string ({data:=#[UInt8.ofNat (48+(Int.tdiv n (10:Int)).toNat)] }++{data:=#[UInt8.ofNat (48+(Int.tmod n (10:Int)).toNat)] }))))))))))) VT ?_;have ht:=Xf7 (n:=n) VI;have A:=u9 (n:=(n.tdiv 10).toNat) VI;have z2:=u9 (n:=(n.tmod 10).toNat) VI;exact V9
theorem lV:VO VN 29 Qh6:=by
 refine ⟨A5.1,?_⟩;intro avs ns res h I;unfold Qh6 at h;split at h;rename_i n;cases h;have h1:0<=n/\n<=99:=I _ VS;by_cases h2:n<=9;have h3:=A5.2 [.x (.int .i64 n)] _ _ rfl (λp hp=>by
  simp only [GM,D7,or_false] at hp;subst hp;exact ⟨h1.1,h2⟩)
 rw [dg1 VI] at h3;exact h3;have h3:=Wx7 n VI;obtain ⟨t1,t2,_⟩:=Xf7 h1.1;rw [dg1 VI,dg1 VI,t1,t2,Wu0 VI VI] at h3;exact h3;cases h
theorem Wx6(n:Int)(VR:10<=n/\n<=129):VW VN 29 [i n] (.x (.string ((⟨(dgL (n.tdiv 10).toNat).toArray⟩:ByteArray)++⟨(dgL (n.tmod 10).toNat).toArray⟩))):=by
 refine U0 (L:=[]) (Ae lV Aa) VX Tryz.func29 (US Tryz.f29) U1 (t:=branch (decide (n<0)) (need [VK (-n)] (need [(0:Int)<= -n/\ -n<=99] (need [(↑(ByteArray.size {data:=#[45] }+ByteArray.size {data:=List.toArray (dgL (-n).toNat) }):Int)<=9223372036854775807] (leaf (RV.x (.string ({data:=#[45] }++{data:=List.toArray (dgL (-n).toNat) }))))))) (branch (decide (n<10)) (need [VK ((48:Int)+n)] VL.fail) (need [(10:Int)≠0,VK (Int.tdiv n (10:Int))] (need [(0:Int)<=Int.tdiv n (10:Int)/\Int.tdiv n (10:Int)<=99] (need [(10:Int)≠0] (need [(0:Int)<=Int.tmod n (10:Int)/\Int.tmod n (10:Int)<=99] (need [(↑(ByteArray.size {data:=List.toArray (dgL (Int.tdiv n (10:Int)).toNat) }+ByteArray.size {data:=List.toArray (dgL (Int.tmod n (10:Int)).toNat) }):Int)<=9223372036854775807] (leaf (RV.x (.string ({data:=List.toArray (dgL (Int.tdiv n (10:Int)).toNat) }++{data:=List.toArray (dgL (Int.tmod n (10:Int)).toNat) }))))))))))) VT ?_;have ht:=Xf7 (n:=n) VI;have A:=u9 (n:=(n.tdiv 10).toNat) VI;have z2:=u9 (n:=(n.tmod 10).toNat) VI;exact V9
theorem Wx5:VO VN 29 Qh5:=by
 refine ⟨A5.1,?_⟩;intro avs ns res h I;unfold Qh5 at h;split at h;rename_i n;cases h;have h1:0<=n/\n<=129:=I _ VS;by_cases h2:n<=9;exact lV.2 [.x (.int .i64 n)] _ _ rfl (λp hp=>by
  simp only [GM,D7,or_false] at hp;subst hp;exact ⟨h1.1,VI⟩)
 have h3:=Wx6 n VI;obtain ⟨t1,t2,_⟩:=Xf7 h1.1;rw [t1,t2,Wu0 VI VI] at h3;exact h3;cases h
def xN(p:Nat->Bool):Nat->Bool
 | 0=>false
 |k+1=>xN p k||p k
theorem Qe7{p:Nat->Bool}{j:Nat}(h:p j=true): ∀{n:Nat},j<n->xN p n=true
 | 0,hj=>absurd hj (Aq j)
 |n+1,hj=>by
  show (xN p n||p n)=true
  rcases (show j<n\/j=n by omega) with h1|rfl
  rw [Qe7 h h1];rfl;rw [h,Bool.or_true]
section
variable (n m:Nat)(F G:Cg)
def Zu3:St:={σ:=[lst 1 n λj=>[iI (F j)],lst 1 m λj=>[iI (G j)]]++HH 32 [],m:=[],nx:=2}
noncomputable def Xq9:Code:=U7 (VQ (U6 Tryz.f30) 0)
def Wi0(q:Nat):St:=(upM [(5,i q),(6,.top),(7,.top)] (Zu3 n m F G))
def C9(q:Nat):G6->Option St
 | .exit 0=>some (upM [(5,i n),(6,.top),(7,.top)] (Zu3 n m F G))
 |_=>none
def Jp9:CT:= .leaf (.exit 0,(C9 n m F G 0 (.exit 0)).getD (Zu3 n m F G))
def Xy1:UF:=GI [] (HB (Wi0 n m F G (0)) (Jp9 n m F G))
def Zu2(q:Nat):St:={σ:=[lst 1 n λj=>[iI (F j)],lst 1 m λj=>[iI (G j)],top,top,top,iI (q:Int)]++HH 28 [],m:=[],nx:=8}
noncomputable def Jv4:Code:=U7 (VQ Xq9 0)
def Wh9(q:Nat)(z:Nat):St:=(upM [(6,bl (xN (λj=>G j==F q) z)),(7,i z)] (Zu2 n m F G q))
def C8(q:Nat)(z:Nat):G6->Option St
 | .exit 2=>some (upM [(6,bl (xN (λj=>G j==F q) m)),(7,i m)] (Zu2 n m F G q))
 |_=>none
def Jp8(q:Nat):CT:= .leaf (.exit 2,(C8 n m F G q 0 (.exit 2)).getD (Zu2 n m F G q))
def Xy0(q:Nat):UF:=GI [] (HB (Wh9 n m F G q (0)) (Jp8 n m F G q))
end
abbrev ZQ(n:Nat)(F:Cg):Prop:=(lst 1 n λj=>[iI (F j)])=lst 1 n λj=>[iI (F j)]
abbrev ZR(m:Nat)(G:Cg):Prop:=(lst 1 m λj=>[iI (G j)])=lst 1 m λj=>[iI (G j)]
section
variable (n m:Nat)(F G:Cg)
theorem Jb6(q:Nat)(VR:n<=100000)(UD:m<=100000)(HF: ∀q,q<n->xN (λj=>G j==F q) m=true)(DM:q<n):G0 VN (.loop Jv4) (Xy0 n m F G q):=by
 refine UP [] (L:=[]) Aa Ad VX U1 (X:=Nat) (Wh9 n m F G q) (λz=>z<=m) (λz=>m-z) (C8 n m F G q) (x0:=0) VS ?_ ?_ ?_;rintro z;kernel_rfl;rintro z y E h;unfold C8 at h;split at h;cases h;kernel_rfl;cases h;rintro Q hQ z hx;refine ⟨(z+1),?_⟩;(with_reducible refine D2 (t:=branch (decide ((z:Int)<(m:Int))) (branch (xN (λj=>G j==F q) z) (need [VK ((z:Int)+1)] (need [ZQ n F,ZR m G,VY (q:Int),true=xN (λj=>G j==F q) (z+1),(z:Int)+1=(↑(z+1):Int)] (leaf G6.normal))) (need [UE z m] (need [UE q n] (need [VK ((z:Int)+1)] (need [ZQ n F,ZR m G,VY (q:Int),(G z==F q)=xN (λj=>G j==F q) (z+1),(z:Int)+1=(↑(z+1):Int)] (leaf G6.normal)))))) (need [ZQ n F,ZR m G,VY (q:Int),xN (λj=>G j==F q) z=xN (λj=>G j==F q) m,(z:Int)=(m:Int)] (leaf (G6.exit 2)))) VT ?_)
 simp only [Jp8,C8,VL.sat,GR] at hQ;simp only [VL.sat,U9,UV,GJ,UB,VK,UG,H4,FE,FJ,FR,GH,C8]
 refine ⟨λh=>?_,λh=>?_⟩;have hk:z<m:=VI;have e1:xN (λj=>G j==F q) (z+1)=(xN (λj=>G j==F q) z||(G z==F q)):=rfl
 refine ⟨λh2=>⟨VI,⟨by rw [e1,h2];rfl,VI⟩,VI,VI⟩,λh2=>⟨VI,VI,VI,⟨by rw [e1,h2];rfl,VI⟩,VI,VI⟩⟩
 obtain rfl:z=m:=VI;exact YW
theorem Jb7(VR:n<=100000)(UD:m<=100000)(HF: ∀q,q<n->xN (λj=>G j==F q) m=true):G0 VN (.loop Xq9) (Xy1 n m F G):=by
 refine UP [] (L:=[PP 5 (λq=>FH [q<n] (Xy0 n m F G q))]) Aa Ad VX (UY (λcj hcj=>by
  have e:VQ Xq9 0=some (.loop Jv4):=VT;rw [e] at hcj;cases hcj;exact RE (λq=>HU (ps:=[q<n]) (λh=>Jb6 n m F G q VR UD HF h)))) (X:=Nat) (Wi0 n m F G) (λq=>q<=n) (λq=>n-q) (C9 n m F G) (x0:=0) VS ?_ ?_ ?_
 rintro q;kernel_rfl;rintro q y E h;unfold C9 at h;split at h;cases h;kernel_rfl;cases h;rintro Q hQ q hx;refine ⟨(q+1),?_⟩;(with_reducible refine D2 (t:=branch (decide ((q:Int)<(n:Int))) (need [q<n] (need [ZQ n F,ZR m G,VY (q:Int),false=xN (λj=>G j==F q) 0,(0:Int)=((0:Nat):Int)] (branch (!xN (λj=>G j==F q) m) VL.fail (need [VK ((q:Int)+1)] (need [ZQ n F,ZR m G,(q:Int)+1=(↑(q+1):Int)] (leaf G6.normal)))))) (need [ZQ n F,ZR m G,(q:Int)=(n:Int)] (leaf (G6.exit 0)))) VT ?_)
 simp only [Jp9,C9,VL.sat,GR] at hQ;simp only [VL.sat,U9,UV,GJ,UB,VK,UG,H4,FE,FJ,FR,GH,C9]
 refine ⟨λh=>?_,λh=>?_⟩
 ·have hk:q<n:=VI;have e2:=HF q hk
  (with_reducible repeat' first|apply Al|intro _)
  all_goals first|exact P4|((exfalso;rename_i h9;rw [e2] at h9;simp at h9;done))
 obtain rfl:q=n:=VI;exact YW
theorem eS(VR:n<=100000)(UD:m<=100000)(HF: ∀q,q<n->xN (λj=>G j==F q) m=true):VW VN 30 [.lst 1 n (λj=>[i (F j)]),.lst 1 m (λj=>[i (G j)])] (bl true):=by
 refine G8 (L:=[Xy1 n m F G]) Aa Ad VX Tryz.func30 (US Tryz.f30) (UY (lpE (b:= .loop Xq9) VT<|(Jb7 n m F G VR UD HF).N)) (t:=need [ZQ n F,ZR m G,(0:Int)=((0:Nat):Int)] (leaf (RV.x (.bool true)))) VT ?_
 simp only [VL.sat,U9,UV,GJ,UB,UG,VK,DX]
 (with_reducible repeat' first|apply Al|intro _)
 all_goals first|exact Ak|omega|rfl|trace_state
end
theorem Qo4(n:Nat)(L:Cf)(VR:n<=100000):D6 VN 22 [lns n L] 9 1 (n) (λk=>[.x (.string (L k))]):=by
 refine P7 (L:=[]) Aa Ad VX Tryz.func22 (US Tryz.f22) G7 (t:=need [(0+n)*16<=140737488355328,∀(i:Nat),i<n-> ∀(a:AV),a∈[HV (L i)]->AV.one a=true] (leaf (some (9,1,0+n,GD 0 (λx=>[]) λk=>[HV (L k)])))) VT ?_ (λ_ _=>rfl);simp only [VL.sat,U9,Ws4,true_and];exact ⟨⟨VI,λk hk a S=>by rw [PM.1 S];rfl⟩,VI,λk hk=>⟨IM _ k,λa S=>by rw [PM.1 S];exact Ak⟩⟩
def sG(n:Nat)(f g:Ci):Prop:= ∀k,k<n->f k=g k
section
variable (n:Nat)(L:Cf)
def Qj7:BG:=λl=>some ([l=[lns n L],n<=100000],9,1,n,λk=>[.x (.string (L k))])
def thK(a b u v:Nat)(j:Nat):ByteArray:=if j<n then L j else if j=n then ⟨(jnL (thL a b u v)).toArray⟩ else ⟨(jnL (skL (sK L n).nr)).toArray⟩
end
def tnA(f:Int):Nat:=(f.tmod 4).toNat
def tnB(f g:Int):Nat:=(f.tmod 4+g.tmod (5-f.tmod 4)).toNat
def tnU(x:Int):Nat:=(x.tmod 120).toNat
def tnV(x z:Int):Nat:=(x.tmod 120+z.tmod 9).toNat
def Xx6(n:Nat)(L:Cf):D9:=λl=>some (.need [l=[lns n L],ckE n L=0] (.leaf (.tup [.agg (hsL (sK L n)),.lst 1 (kpN L n) (λz=>[.x (.string (kpF L n z))]),bl true])))
def Xa4(K:Cf):D9:=λl=>match l with
 |[.lst 1 N f]=>some (.need [sG N f (λj=>[.x (.string (K j))]),ckE N K=0] (.leaf (.tup [.agg (hsL (sK K N)),.lst 1 N (exG K),i 0])))
 |_=>none
def Wz8(K:Cf):D9:=λl=>match l with
 |[.lst 1 N f,.x (.int .i64 y)]=>some (.need [sG N f (λj=>[.x (.string (K j))]),ckE N K=0,0<=y/\y<=10000] (.leaf (.tup [.lst 1 (UW (stP (sK K N) y) (sK K N).nc) (λz=>[i (UO (stP (sK K N) y) (sK K N).nc z)]),i 0])))
 |_=>none
def Xq8(s t:HS):Prop:=t.nr=s.nr/\(∀k,k<s.nr->t.ra k=s.ra k/\t.rb k=s.rb k/\t.ru k=s.ru k/\t.rv k=s.rv k)/\t.pl=s.pl/\t.ph=s.ph/\hsB t=hsB s/\hsC t=hsC s/\hsS t=hsS s
def Ju5(s t:HS):UX:=λl=>some ([l=[.agg (hsL s),.agg (hsL t)],hsN s,Xq8 s t],bl true)
def Ju4(F G:Cg)(p q:Nat):UX:=λl=>some ([l=[.lst 1 p (λz=>[i (F z)]),.lst 1 q (λz=>[i (G z)])],p<=100000,q<=100000,∀x,x<p->xN (λj=>G j==F x) q=true],bl true)
section
variable (n:Nat)(L:Cf)
theorem Qo3:Sx.Enters Tryz.prog 22/\ ∀avs ns T sz m g,Qj7 n L avs=some (ns,T,sz,m,g)->(∀q∈ns,q)->D6 VN 22 avs T sz m g:=by
 refine ⟨(UI Tryz.func22),?_⟩;intro avs ns T sz m g h I;cases h;have e:avs=[lns n L]:=I _ VS;subst e;exact Qo4 n L (I _ VS)
theorem Zl9:Sx.Enters Tryz.prog 16/\ ∀avs t,Xx6 n L avs=some t->UK VN 16 avs t:=by
 refine ⟨(UI Tryz.func16),?_⟩;intro avs t h;cases h;intro Q hQ;have e:avs=[lns n L]:=hQ.1.1;have h0:ckE n L=0:=hQ.1.2;subst e;exact oP n L h0 Q hQ.2
end
theorem Wg2{N:Nat}{f:Ci}{K:Cf}{e:UL}{w:World}{u:Value}(h:sG N f (λj=>[.x (.string (K j))]))(hr:Rep e w (.lst 1 N f) u):Rep e w (lns N K) u:=RZ (a:= .lst 1 N f) ⟨rfl,rfl,h⟩ hr
theorem Zp6(K:Cf):Sx.Enters Tryz.prog 27/\ ∀avs t,Xa4 K avs=some t->UK VN 27 avs t:=by
 refine ⟨(UI Tryz.func27),?_⟩;intro avs t h;unfold Xa4 at h;split at h;rename_i N f;cases h;intro Q hQ;have h2:sG N f (λj=>[.x (.string (K j))]):=hQ.1.1;have h0:ckE N K=0:=hQ.1.2;have hk:=kB h0;intro e w args q1 q2 q3 q4;refine I5 N K VI Q ⟨λh=>?_,λ_=>hQ.2⟩ e w args q1 q2 ?_ ?_;rw [h0] at h;exact absurd h (by decide)
 intro a S;simp only [GM,D7,or_false] at S;subst S;exact .lst _ _ _ λk _ x hx=>by rw [PM.1 hx];exact .x _
 obtain ⟨u,us,rfl,r1,r2⟩:=q4.cons_inv;exact .cons (Wg2 h2 r1) r2;cases h
theorem Zh5(K:Cf):Sx.Enters Tryz.prog 9/\ ∀avs t,Wz8 K avs=some t->UK VN 9 avs t:=by
 refine ⟨(UI Tryz.func9),?_⟩;intro avs t h;unfold Wz8 at h;split at h;rename_i N f y;cases h;intro Q hQ;have h2:sG N f (λj=>[.x (.string (K j))]):=hQ.1.1;have h0:ckE N K=0:=hQ.1.2.1;have h3:0<=y/\y<=10000:=hQ.1.2.2;have hk:=kB h0;have hb:bt 0 y 10000=true:=(bt_iff _ _ _).2 h3;intro e w args q1 q2 q3 q4;refine gI N K y VI Q ⟨λh=>?_,λ_=>⟨λh=>?_,λ_=>hQ.2⟩⟩ e w args q1 q2 ?_ ?_;rw [h0] at h;exact absurd h (by decide)
 rw [hb] at h;exact absurd h (by decide)
 intro a S;simp only [GM,D7,or_false] at S;rcases S with rfl|rfl;exact .lst _ _ _ λk _ x hx=>by rw [PM.1 hx];exact .x _
 exact .x _;obtain ⟨u,us,rfl,r1,r2⟩:=q4.cons_inv;exact .cons (Wg2 h2 r1) r2;cases h
theorem Zh2(s t:HS):VO VN 31 (Ju5 s t):=by
 refine ⟨(UI Tryz.func31),?_⟩;intro avs ns res h I;cases h;have e:avs=[.agg (hsL s),.agg (hsL t)]:=I _ VS;have h1:hsN s:=I _ VS;have h2:Xq8 s t:=I _ VS;subst e;obtain ⟨e1,e2,e3,e4,e5,e6,e7⟩:=h2;have hR:hsR t= .lst 4 s.nr (λk=>[i (t.ra k),i (t.rb k),i (t.ru k),i (t.rv k)]):=by
  show lst 4 t.nr _=_;rw [e1]
 show VW VN _ [.agg (hsL s),.agg [hsR t,i t.pl,i t.ph,hsB t,hsC t,hsS t]] _;rw [hR,e3,e4,e5,e6,e7];refine (Wh2 s h1).same (.cons (.refl _) (.cons (LK.same (.cons (.lst 4 s.nr _ _ λk hk=>?_) (.cons (.refl _) (.cons (.refl _) (.cons (.refl _) (.cons (.refl _) (.cons (.refl _) .nil))))))) .nil));obtain ⟨g1,g2,g3,g4⟩:=e2 k hk;rw [g1,g2,g3,g4]
theorem Zg3(F G:Cg)(p q:Nat):VO VN 30 (Ju4 F G p q):=by
 refine ⟨(UI Tryz.func30),?_⟩;intro avs ns res h I;cases h;have e:avs=[.lst 1 p (λz=>[i (F z)]),.lst 1 q (λz=>[i (G z)])]:=I _ VS;subst e;exact eS p q F G (I _ VS) (I _ VS) (I _ VS)
theorem tU{L L':Cf}: ∀n,(∀k,k<n->L k=L' k)->sK L n=sK L' n
 | 0,_=>rfl
 |n+1,h=>by
  show lnS (L n) (sK L n)=lnS (L' n) (sK L' n);rw [tU n λk hk=>h k VI,h n VI]
theorem Zg6{n:Nat}{L:Cf}{a b u v:Nat}(h0:ckE n L=0)(I:n<=48)(S:a<=3)(hb:a<=b/\b<=4)(hu:u<=v/\v<=127):
  sK (thK n L a b u v) n=sK L n/\ckE n (thK n L a b u v)=0/\ckE (n+1) (thK n L a b u v)=0/\ckE (n+2) (thK n L a b u v)=0/\
  (eK (thK n L a b u v) n=0\/eK (thK n L a b u v) n=3\/eK (thK n L a b u v) n=9)/\
  (eK (thK n L a b u v) n=0->sK (thK n L a b u v) (n+1)=thS (sK L n) a b u v/\inE (thS (sK L n) a b u v)=0/\eK (thK n L a b u v) (n+1)=0/\sK (thK n L a b u v) (n+2)=stS (thS (sK L n) a b u v) ((sK L n).nr:Nat)):=by
 have e0:sK (thK n L a b u v) n=sK L n:=tU n λk hk=>if_pos hk;have kn:thK n L a b u v n=⟨(jnL (thL a b u v)).toArray⟩:=by
  unfold thK;rw [if_neg VI,if_pos rfl]
 have kn1:thK n L a b u v (n+1)=⟨(jnL (skL (sK L n).nr)).toArray⟩:=by
  unfold thK;rw [if_neg VI,if_neg VI]
 have hnr:=(wU L n).nr;have l1:=Xf9 (s:=thK n L a b u v n) (a:=a) (b:=b) (u:=u) (v:=v) (by rw [kn]) VI VI VI VI (sK (thK n L a b u v) n)
 have l2:=λx=>Xg3 (s:=thK n L a b u v (n+1)) (k:=(sK L n).nr) (by rw [kn1]) VI x
 have hsz: ∀k,k<n+2->(thK n L a b u v k).size<=200:=λk hk=>by
  rcases (show k<n\/k=n\/k=n+1 by omega) with h1|rfl|rfl
  show (if k<n then L k else _).size<=200
  rw [if_pos h1];exact (kB h0).2 k h1;rw [kn];have q1:=(RL (n:=a) VI).2.2.2.1;have q2:=(RL (n:=b) VI).2.2.2.1;have q3:=(RL (n:=u) VI).2.2.2.1;have q4:=(RL (n:=v) VI).2.2.2.1;show (jnL (thL a b u v)).length<=200;simp only [thL,jnL,Be,FR];omega;rw [kn1];have q1:=(RL (n:=(sK L n).nr) VI).2.2.2.1;show (jnL (skL (sK L n).nr)).length<=200;simp only [skL,jnL,Be,FR];omega
 have eE:eK (thK n L a b u v) n=thE (sK L n) a b u v:=by
  show lnE (thK n L a b u v n) (sK (thK n L a b u v) n)=_;rw [l1.1,e0]
 have hD:thD a b u v=0\/thD a b u v=9:=by
  have hf:Bo.flt 4 100 20 30 1 (λ_=>(a:Int)) (λ_=>(b:Int)) (λ_=>(u:Int)) (λ_=>(v:Int))=0:=by
   refine Bo.flt_iff.2 ⟨by decide,VI,GK.2 λj _=>?_⟩
   unfold Bo.rdB;rw [GT,GT,Bo.bt_iff,Bo.bt_iff,Bo.insB_iff];omega
  unfold thD Bo.eB Bo.fltB;rw [if_pos hf,if_pos rfl];split;exact .inl rfl;exact .inr rfl
 refine ⟨e0,Qd8 VI λk hk=>hsz k VI,Qd8 VI λk hk=>hsz k VI,Qd8 VI hsz,?_,λh=>?_⟩;rw [eE];unfold thE;have hb:(thD a b u v==0||thD a b u v==9)=true:=by
  rcases hD with h|h<;>rw [h]<;>rfl
 rw [if_pos hb];split;split;exact .inl rfl;exact .inr (.inr rfl);exact .inr (.inl rfl);have h9:thE (sK L n) a b u v=0:=eE.symm.trans h;have O:inE (thS (sK L n) a b u v)=0:=by
  unfold thE at h9;split at h9;split at h9;split at h9;assumption;exact absurd h9 (by decide)
  exact absurd h9 (by decide)
  exact absurd h9 (by decide)
 have s1:sK (thK n L a b u v) (n+1)=thS (sK L n) a b u v:=by
  show lnS (thK n L a b u v n) (sK (thK n L a b u v) n)=_;unfold lnS;rw [l1.1,e0,if_pos h9,←e0,l1.2,e0]
 have s2:stE (thS (sK L n) a b u v) ((sK L n).nr:Nat)=0:=by
  unfold stE;refine if_pos ((bt_iff _ _ _).2 ?_);show 0<=(((sK L n).nr:Nat):Int)/\(((sK L n).nr:Nat):Int)<=(((sK L n).nr+1:Nat):Int)-1;omega
 have l3:=l2 (thS (sK L n) a b u v);refine ⟨s1,O,?_,?_⟩;show lnE (thK n L a b u v (n+1)) (sK (thK n L a b u v) (n+1))=0;rw [s1,l3.1,s2];show lnS (thK n L a b u v (n+1)) (sK (thK n L a b u v) (n+1))=_;unfold lnS;rw [s1,l3.1,if_pos s2,l3.2]
theorem Xf8(s:HS)(a b u v:Int):Xq8 s (stS (thS s a b u v) (s.nr:Nat)):=by
 refine ⟨rfl,λk hk=>?_,rfl,rfl,rfl,rfl,rfl⟩;show skF _ (H9 s.nr s.ra a) k=s.ra k/\skF _ (H9 s.nr s.rb b) k=s.rb k/\skF _ (H9 s.nr s.ru u) k=s.ru k/\skF _ (H9 s.nr s.rv v) k=s.rv k;unfold skF H9;rw [DX];simp only [if_pos hk,and_self]
abbrev tsB(f g x z:Int):ByteArray:=⟨#[116,104,114,101,97,100,32]⟩++⟨(dgL (f.tmod 4).toNat).toArray⟩++⟨#[32]⟩++⟨(dgL (f.tmod 4+g.tmod (5-f.tmod 4)).toNat).toArray⟩++⟨#[32]⟩++⟨(dgL (x.tmod 120).toNat).toArray⟩++⟨#[32]⟩++⟨(dgL (x.tmod 120+z.tmod 9).toNat).toArray⟩
abbrev ssB(k:Nat):ByteArray:=⟨#[115,116,114,105,107,101,32]⟩++⟨(dgL k).toArray⟩
theorem mgT(b:ByteArray)(l:List AV):H3 true [.x (.string b)] l=[.x (.string b)]:=by
 cases l with
 |nil=>rfl
 |cons b l=>cases l<;>rfl
section
variable {n a b u v:Nat}{L:Cf}
theorem Xu1:sG n (λk=>[.x (.string (L k))]) (λj=>[.x (.string (thK n L a b u v j))]):=λj hj=>by
 show [HV (L j)]=[.x (.string (thK n L a b u v j))];unfold thK;rw [if_pos hj]
theorem Xu0:sG (n+1) (GD n (λk=>[.x (.string (L k))]) (U3 1 [.x (.string ⟨(jnL (thL a b u v)).toArray⟩)])) (λj=>[.x (.string (thK n L a b u v j))]):=λj hj=>by
 show H3 (decide (j<n)) [HV (L j)] (U3 1 _ (j-n))=[.x (.string (thK n L a b u v j))];unfold thK;rcases (show j<n\/j=n by omega) with h|rfl
 rw [if_pos h,decide_eq_true h,mgT];rw [if_neg VI,if_pos rfl,decide_eq_false (show ¬j<j by omega),Bs]
 rfl
theorem Jc5:sG (n+2) (GD n (λk=>[.x (.string (L k))]) (U3 1 [.x (.string ⟨(jnL (thL a b u v)).toArray⟩),.x (.string ⟨(jnL (skL (sK L n).nr)).toArray⟩)])) (λj=>[.x (.string (thK n L a b u v j))]):=λj hj=>by
 show H3 (decide (j<n)) [HV (L j)] (U3 1 _ (j-n))=[.x (.string (thK n L a b u v j))];unfold thK;rcases (show j<n\/j=n\/j=n+1 by omega) with h|rfl|rfl
 rw [if_pos h,decide_eq_true h,mgT];rw [if_neg VI,if_pos rfl,decide_eq_false (show ¬j<j by omega),Bs]
 rfl;rw [if_neg VI,if_neg VI,decide_eq_false (show ¬n+1<n by omega),show n+1-n=1 by omega]
 rfl
end
theorem ch1{l:List AV}(h: ∀a∈l,AV.one a=true)(q:Nat): ∀a∈U3 1 l q,AV.one a=true:=λ_ S=>FG S h
theorem st1(b:ByteArray): ∀a∈[HV b],AV.one a=true:=λa S=>by rw [PM.1 S];rfl
theorem st2(b c:ByteArray): ∀a∈[HV b,HV c],AV.one a=true:=λa S=>by
 simp only [GM,D7,or_false] at S;rcases S with rfl|rfl<;>rfl
theorem Jc3{n a b u v:Nat}{L:Cf}{Z:Int}(e0:sK (thK n L a b u v) n=sK L n)(e1:sK (thK n L a b u v) (n+1)=thS (sK L n) a b u v)(O:inE (thS (sK L n) a b u v)=0)(hd:0<=Z/\Z<=10000):
  ∀x,x<UW (stP (sK (thK n L a b u v) n) Z) (sK (thK n L a b u v) n).nc->xN (λj=>((UO (stP (sK (thK n L a b u v) (n+1)) Z) (sK (thK n L a b u v) (n+1)).nc j:Nat):Int)==((UO (stP (sK (thK n L a b u v) n) Z) (sK (thK n L a b u v) n).nc x:Nat):Int)) (UW (stP (sK (thK n L a b u v) (n+1)) Z) (sK (thK n L a b u v) (n+1)).nc)=true:=by
 rw [e0,e1];intro x hx;obtain ⟨h1,h2⟩:=kP hx;have h3:=Jd0 (Wb2 L n) O h1 hd h2;have h4:=dS (stP (thS (sK L n) a b u v) Z) (show UO (stP (sK L n) Z) (sK L n).nc x+1<=(thS (sK L n) a b u v).nc from h1);have h5:=DW h3;refine Qe7 (j:=UW (stP (thS (sK L n) a b u v) Z) (UO (stP (sK L n) Z) (sK L n).nc x)) ?_ VI;rw [B1 (n:=(thS (sK L n) a b u v).nc) h1 h3];exact beq_self_eq_true _
theorem Jc1(f g x z:Int):tsB f g x z=⟨(jnL (thL (tnA f) (tnB f g) (tnU x) (tnV x z))).toArray⟩:=by
 refine BC.2 ?_;simp [ByteArray.toList_data_append,thL,jnL,tnA,tnB,tnU,tnV]
theorem Jd2(k:Nat):ssB k=⟨(jnL (skL k)).toArray⟩:=by
 refine BC.2 ?_;simp [ByteArray.toList_data_append,skL,jnL]
theorem tH{f g x z:Int}(hf:0<=f/\f<=255)(hg:0<=g/\g<=255)(hx:0<=x/\x<=255)(hz:0<=z/\z<=255):(0<=f.tmod 4/\f.tmod 4<=3)/\(0<=g.tmod (5-f.tmod 4)/\g.tmod (5-f.tmod 4)<=4-f.tmod 4)/\(0<=x.tmod 120/\x.tmod 120<=119)/\0<=z.tmod 9/\z.tmod 9<=8:=by
 rw [Int.tmod_eq_emod_of_nonneg hf.1,Int.tmod_eq_emod_of_nonneg hg.1,Int.tmod_eq_emod_of_nonneg hx.1,Int.tmod_eq_emod_of_nonneg hz.1];have h1:=Int.emod_nonneg g (show 5-f%4≠0 by omega)
 have h2:=Int.emod_lt_of_pos g (show 0<5-f%4 by omega)
 omega
theorem Xf6{f g x z:Int}(hf:0<=f/\f<=255)(hg:0<=g/\g<=255)(hx:0<=x/\x<=255)(hz:0<=z/\z<=255):(⟨(dgL (f.tmod 4).toNat).toArray⟩:ByteArray).size<=3/\(⟨(dgL (f.tmod 4+g.tmod (5-f.tmod 4)).toNat).toArray⟩:ByteArray).size<=3/\(⟨(dgL (x.tmod 120).toNat).toArray⟩:ByteArray).size<=3/\(⟨(dgL (x.tmod 120+z.tmod 9).toNat).toArray⟩:ByteArray).size<=3:=by
 have h:=tH hf hg hx hz;exact ⟨u9 VI,u9 VI,u9 VI,u9 VI⟩
noncomputable def Qj4:HY:=dJ Tryz.prog [] {} [] Tryz.f22 (U6 Tryz.f22)
theorem Qo2:GA VN 22 Qj4:=
 FZ (G:=[]) (X:=W8) (L:=[]) Aa Ad VX (UI Tryz.func22) Tryz.func22 (US Tryz.f22) U1
theorem Xc4(n:Nat)(L:Cf)(f g x z y:Int)(VR:0<=f/\f<=255)(UD:0<=g/\g<=255)(HF:0<=x/\x<=255)(DM:0<=z/\z<=255)(B6:0<=y/\y<=65535):VW VN 6 [lns n L,.x (.int .u8 f),.x (.int .u8 g),.x (.int .u8 x),.x (.int .u8 z),.x (.int .u16 y)] (bl true):=by
 refine G8 (X:={R:=[],H:=[(22,Qj4)],C:=[(16,(Xx6 n L)),(27,(Xa4 (thK n L (tnA f) (tnB f g) (tnU x) (tnV x z)))),(9,(Wz8 (thK n L (tnA f) (tnB f g) (tnU x) (tnV x z))))],F:=[(22,(Qj7 n L))],D:=[] }) (L:=[]) (Ae (oO n L 48) (Ae Qy4 (Ae Wx5 (Ae (Zg3 (λq=>((UO (stP (sK (thK n L (tnA f) (tnB f g) (tnU x) (tnV x z)) n) (y.tmod 10001)) (sK (thK n L (tnA f) (tnB f g) (tnU x) (tnV x z)) n).nc q:Nat):Int)) (λq=>((UO (stP (sK (thK n L (tnA f) (tnB f g) (tnU x) (tnV x z)) (n+1)) (y.tmod 10001)) (sK (thK n L (tnA f) (tnB f g) (tnU x) (tnV x z)) (n+1)).nc q:Nat):Int)) (UW (stP (sK (thK n L (tnA f) (tnB f g) (tnU x) (tnV x z)) n) (y.tmod 10001)) (sK (thK n L (tnA f) (tnB f g) (tnU x) (tnV x z)) n).nc) (UW (stP (sK (thK n L (tnA f) (tnB f g) (tnU x) (tnV x z)) (n+1)) (y.tmod 10001)) (sK (thK n L (tnA f) (tnB f g) (tnU x) (tnV x z)) (n+1)).nc)) (Ae (Zh2 (sK L n) (sK (thK n L (tnA f) (tnB f g) (tnU x) (tnV x z)) (n+2))) Aa))))) (VV.ofF Ab (Ag Qo2 Ac) (Ah (Zl9 n L) (Ah (Zp6 (thK n L (tnA f) (tnB f g) (tnU x) (tnV x z))) (Ah (Zh5 (thK n L (tnA f) (tnB f g) (tnU x) (tnV x z))) (UA.nil _)))) (FV.cons (Qo3 n L) (FV.nil _)) (PI.nil _)) VX Tryz.func6 (US Tryz.f6) G7 (t:=let z4:=(dgL (Int.tmod f (4:Int)).toNat);let z2:=(dgL (Int.tmod f (4:Int)+Int.tmod g ((5:Int)-Int.tmod f (4:Int))).toNat);let z5:=(dgL (Int.tmod x (120:Int)).toNat);let z10:=(dgL (Int.tmod x (120:Int)+Int.tmod z (9:Int)).toNat);let z0:=(HV ({data:=#[116,104,114,101,97,100,32] }++{data:=List.toArray z4}++{data:=#[32] }++{data:=List.toArray z2}++{data:=#[32] }++{data:=List.toArray z5}++{data:=#[32] }++{data:=List.toArray z10}));let A:=(thK n L (tnA f) (tnB f g) (tnU x) (tnV x z));let W:=(Int.tmod y (10001:Int));let z6:=(AV.x (.string ({data:=#[115,116,114,105,107,101,32] }++{data:=List.toArray (dgL ((sK L n).nr)) })));let z7:=(GD 0 (λx=>[]) λk=>[HV (L k)]);let z8:=(leaf (RV.x (.bool true)));let z9:=(stP (sK A (n+1)) W);(need [VY ([Q7 n L,iI 48])] (branch (!rdB n L (48:Int)) z8 (need [(KF n L),ckE n L=0] (branch (!true) (leaf (RV.x (WK))) (need [VK f] (need [(4:Int)≠0] (need [(0:Int)<=Int.tmod f (4:Int)/\Int.tmod f (4:Int)<=129] (need [(↑(ByteArray.size {data:=#[116,104,114,101,97,100,32] }+ByteArray.size {data:=List.toArray z4}):Int)<=9223372036854775807] (need [(↑(ByteArray.size ({data:=#[116,104,114,101,97,100,32] }++{data:=List.toArray z4})+ByteArray.size {data:=#[32] }):Int)<=9223372036854775807] (need [VK g] (need [VK ((5:Int)-Int.tmod f (4:Int))] (need [(5:Int)-Int.tmod f (4:Int)≠0] (need [VK (Int.tmod f (4:Int)+Int.tmod g ((5:Int)-Int.tmod f (4:Int)))] (need [(0:Int)<=Int.tmod f (4:Int)+Int.tmod g ((5:Int)-Int.tmod f (4:Int))/\Int.tmod f (4:Int)+Int.tmod g ((5:Int)-Int.tmod f (4:Int))<=129] (need [(↑(ByteArray.size ({data:=#[116,104,114,101,97,100,32] }++{data:=List.toArray z4}++{data:=#[32] })+ByteArray.size {data:=List.toArray z2}):Int)<=9223372036854775807] (need [(↑(ByteArray.size ({data:=#[116,104,114,101,97,100,32] }++{data:=List.toArray z4}++{data:=#[32] }++{data:=List.toArray z2})+ByteArray.size {data:=#[32] }):Int)<=9223372036854775807] (need [VK x] (need [(120:Int)≠0] (need [(0:Int)<=Int.tmod x (120:Int)/\Int.tmod x (120:Int)<=129] (need [(↑(ByteArray.size ({data:=#[116,104,114,101,97,100,32] }++{data:=List.toArray z4}++{data:=#[32] }++{data:=List.toArray z2}++{data:=#[32] })+ByteArray.size {data:=List.toArray z5}):Int)<=9223372036854775807] (need [(↑(ByteArray.size ({data:=#[116,104,114,101,97,100,32] }++{data:=List.toArray z4}++{data:=#[32] }++{data:=List.toArray z2}++{data:=#[32] }++{data:=List.toArray z5})+ByteArray.size {data:=#[32] }):Int)<=9223372036854775807] (need [VK x] (need [(120:Int)≠0] (need [VK z] (need [(9:Int)≠0] (need [VK (Int.tmod x (120:Int)+Int.tmod z (9:Int))] (need [(0:Int)<=Int.tmod x (120:Int)+Int.tmod z (9:Int)/\Int.tmod x (120:Int)+Int.tmod z (9:Int)<=129] (need [(↑(ByteArray.size ({data:=#[116,104,114,101,97,100,32] }++{data:=List.toArray z4}++{data:=#[32] }++{data:=List.toArray z2}++{data:=#[32] }++{data:=List.toArray z5}++{data:=#[32] })+ByteArray.size {data:=List.toArray z10}):Int)<=9223372036854775807] (need [(0+n)*16<=140737488355328,∀(i:Nat),i<n-> ∀(a:AV),a∈[HV (L i)]->AV.one a=true] (need [(0+n+1)*16<=140737488355328,RH 1 (U3 1 [z0])] (need [sG (0+n+1) (GD (0+n) z7 (U3 1 [z0])) λj=>[HV (thK n L (tnA f) (tnB f g) (tnU x) (tnV x z) j)],ckE (0+n+1) A=0] (branch ((0:Int) != 0) (leaf (RV.x (WK))) (need [VK ((n:Int)+1)] (branch ((↑(0+n+1):Int) != (n:Int)+1) (leaf (RV.x (WK))) (need [UE n (↑(0+n+1):Int)] (branch (eK A n != 0) (branch (eK A n==9) z8 (branch (eK A n==3) z8 (leaf (RV.x (WK))))) (need [VK y] (need [(10001:Int)≠0] (need [(0+n)*16<=140737488355328,∀(i:Nat),i<n-> ∀(a:AV),a∈[HV (L i)]->AV.one a=true] (need [sG (0+n) z7 λj=>[HV (thK n L (tnA f) (tnB f g) (tnU x) (tnV x z) j)],ckE (0+n) A=0,(0:Int)<=Int.tmod y (10001:Int)/\Int.tmod y (10001:Int)<=10000] (need [(0+n)*16<=140737488355328,∀(i:Nat),i<n-> ∀(a:AV),a∈[HV (L i)]->AV.one a=true] (need [(0+n+1)*16<=140737488355328,RH 1 (U3 1 [z0])] (need [sG (0+n+1) (GD (0+n) z7 (U3 1 [z0])) λj=>[HV (thK n L (tnA f) (tnB f g) (tnU x) (tnV x z) j)],ckE (0+n+1) A=0,(0:Int)<=Int.tmod y (10001:Int)/\Int.tmod y (10001:Int)<=10000] (need [(KF n L),n<=100000] (need [(0:Int)<=(↑((sK L n).nr):Int)/\(↑((sK L n).nr):Int)<=129] (need [(↑(ByteArray.size {data:=#[115,116,114,105,107,101,32] }+ByteArray.size {data:=List.toArray (dgL ((sK L n).nr)) }):Int)<=9223372036854775807] (need [(n+2)*16<=140737488355328,RH 2 (U3 1 [z0,z6])] (need [sG (n+2) (GD n (λk=>[HV (L k)]) (U3 1 [z0,z6])) λj=>[HV (thK n L (tnA f) (tnB f g) (tnU x) (tnV x z) j)],ckE (n+2) A=0] (branch ((0:Int)==0) (branch ((0:Int)==0) (need [[lst 1 (UW (stP (sK A (0+n)) W) ((sK A (0+n)).nc)) λz_1=>[iI (↑(UO (stP (sK A (0+n)) W) ((sK A (0+n)).nc) z_1):Int)],lst 1 (UW (stP (sK A (0+n+1)) W) ((sK A (0+n+1)).nc)) λz_1=>[iI (↑(UO (stP (sK A (0+n+1)) W) ((sK A (0+n+1)).nc) z_1):Int)]]=[lst 1 (UW (stP (sK A n) W) ((sK A n).nc)) λz_1=>[iI (↑(UO (stP (sK A n) W) ((sK A n).nc) z_1):Int)],lst 1 (UW z9 ((sK A (n+1)).nc)) λz_1=>[iI (↑(UO z9 ((sK A (n+1)).nc) z_1):Int)]],UW (stP (sK A n) W) ((sK A n).nc)<=100000,UW z9 ((sK A (n+1)).nc)<=100000,∀(x_1:Nat),x_1<UW (stP (sK A n) W) ((sK A n).nc)->xN (λj=>(↑(UO z9 ((sK A (n+1)).nc) j):Int)==(↑(UO (stP (sK A n) W) ((sK A n).nc) x_1):Int)) (UW z9 ((sK A (n+1)).nc))=true] (branch true (branch ((0:Int)==0) (need [VK ((n:Int)+2)] (branch ((↑(n+2):Int)==(n:Int)+2) (need [VK ((n:Int)+1)] (need [UE ((n:Int)+1) (↑(n+2):Int)] (branch (eK A ((n:Int)+1).toNat==0) (need [VY ([agg (hL (sK L n)),agg (hL (sK A (n+2)))]),hsN (sK L n),Xq8 (sK L n) (sK A (n+2))] (branch true z8 (leaf (RV.x (WK))))) (leaf (RV.x (WK)))))) (leaf (RV.x (WK))))) (leaf (RV.x (WK)))) (leaf (RV.x (WK))))) (leaf (RV.x (WK)))) (leaf (RV.x (WK))))))))))))))))))))))))))))))))))))))))))))))))))))) VT ?_
 have e0:0+n=n:=Ap n;have Wq0:GD 0 (λ_=>[]) (λk=>[HV (L k)])=λk=>[HV (L k)]:=funext λk=>IM _ k;have hts:=Jc1 f g x z;have hss:=Jd2 (sK L n).nr;have hns:=Xf6 VR UD HF DM;have hnm:=tH VR UD HF DM;have hl1:(⟨#[116,104,114,101,97,100,32]⟩:ByteArray).size=7:=rfl;have hl2:(⟨#[32]⟩:ByteArray).size=1:=rfl;have hl3:(⟨#[115,116,114,105,107,101,32]⟩:ByteArray).size=7:=rfl;simp only [VL.sat,U9,UV,GJ,UB,UG,VK,DX,Av,hl1,hl2,hl3];simp only [e0,Wq0,hts,hss];clear hts hss;rcases Bool.eq_false_or_eq_true (rdB n L 48) with hr|hr
 rotate_left
 simp only [hr,Bool.not_false,true_imp_iff,reduceCtorEq,false_imp_iff,and_self];obtain ⟨h0,I⟩:=Jf9 hr;have I:n<=48:=VI;obtain ⟨t0,t1,t2,t3,t4,t5⟩:=Zg6 (a:=tnA f) (b:=tnB f g) (u:=tnU x) (v:=tnV x z) h0 I (by unfold tnA;omega) (by unfold tnA tnB;omega) (by unfold tnU tnV;omega)
 have hnr:=(wU L n).nr;have hnz:=u9 (n:=(sK L n).nr) VI;have hy:0<=y.tmod 10001/\y.tmod 10001<=10000:=by
  rw [Int.tmod_eq_emod_of_nonneg B6.1];omega
 have z0:((0:Int) != 0)=false:=rfl;have A:((0:Int)==0)=true:=rfl;have q0:((n:Int)+1).toNat=n+1:=VI;have q1:(((n+1:Nat):Int) != (n:Int)+1)=false:=VS;have q2:(((n+2:Nat):Int)==(n:Int)+2)=true:=VS;rcases t4 with h|h
 ·have b1:(eK (thK n L (tnA f) (tnB f g) (tnU x) (tnV x z)) n != 0)=false:=by
   rw [h];rfl
  obtain ⟨s1,s2,s3,s4⟩:=t5 h;have hw:=Jc3 t0 s1 s2 hy;have c1:=y6 (p:=(stP (sK (thK n L (tnA f) (tnB f g) (tnU x) (tnV x z)) n) (y.tmod 10001))) (k:=(sK (thK n L (tnA f) (tnB f g) (tnU x) (tnV x z)) n).nc);have c2:=y6 (p:=(stP (sK (thK n L (tnA f) (tnB f g) (tnU x) (tnV x z)) (n+1)) (y.tmod 10001))) (k:=(sK (thK n L (tnA f) (tnB f g) (tnU x) (tnV x z)) (n+1)).nc);have c3:=(wU (thK n L (tnA f) (tnB f g) (tnU x) (tnV x z)) n).nc;have c4:=(wU (thK n L (tnA f) (tnB f g) (tnU x) (tnV x z)) (n+1)).nc;have hsm:=Xf8 (sK L n) (tnA f) (tnB f g) (tnU x) (tnV x z);rw [←s4] at hsm;have hsn:=Wn8 (wU L n);simp only [hr,b1,z0,A,q0,q1,q2,s3,Bool.not_true,true_imp_iff,reduceCtorEq,false_imp_iff,UG]
  set_option pp.maxSteps 1000000 in
  set_option pp.deepTerms true in
  (with_reducible repeat' first|apply Al|intro _)
  all_goals first|exact Ak|omega|exact h0|exact t1|exact t2|exact t3|exact Xu1|exact Xu0|exact Jc5|exact st1 _ _ (by assumption)|exact ch1 (st1 _) _ _ (by assumption)|exact ch1 (st2 _ _) _ _ (by assumption)|exact hw _ (by assumption)|exact hsm|exact hsn|rfl|trace_state
 ·have b1:(eK (thK n L (tnA f) (tnB f g) (tnU x) (tnV x z)) n != 0)=true:=by
   rcases h with h|h<;>rw [h]<;>rfl
  simp only [hr,b1,z0,A,q1,Bool.not_true,true_imp_iff,reduceCtorEq,false_imp_iff,UG,implies_true]
  (with_reducible repeat' first|apply Al|intro _)
  all_goals first|exact Ak|omega|exact h0|exact t1|exact t2|exact t3|exact Xu1|exact Xu0|exact st1 _ _ (by assumption)|exact ch1 (st1 _) _ _ (by assumption)|(rename_i w1 w2;rcases h with h|h<;>rw [h] at w1 w2<;>first|exact Bool.noConfusion w1|exact Bool.noConfusion w2)|trace_state
