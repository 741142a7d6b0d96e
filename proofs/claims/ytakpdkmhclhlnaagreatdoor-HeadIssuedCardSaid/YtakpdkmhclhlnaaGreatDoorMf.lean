/- Contracts, put together. Conditions: those of each. -/
import Derived.Test.YtakpdkmhclhlnaaGreatDoorMe
import Derived.Shelf.Strings.Builder1
import Derived.Shelf.Strings.Builder2
import Derived.Shelf.Strings.OnBuilder
import Derived.Lib.AtoiAllCases
import Derived.Deep.RegionHeld3
import Derived.Lib.SplitLaws
set_option linter.unusedSimpArgs false
set_option linter.unusedVariables false
set_option maxRecDepth 100000
namespace Go.Proofs.YtakpdkmhclhlnaaGreatDoor.Hd
open Go Go.Shelf Go.Sx Go.RowKit
def oZ:Go.Shelf.Ren:=⟨λ| 169=>48|n=>n,λ| 70=>102| 72=>104| 37=>87| 127=>165|n=>n,λn=>n⟩
theorem Zn1:Go.Proofs.Lays.n169 Tryz.prog oZ:=by
 constructor<;>first|(intro _;kernel_rfl)|kernel_rfl|(constructor<;>first|(intro _;kernel_rfl)|kernel_rfl|(constructor<;>first|(intro _;kernel_rfl)|kernel_rfl))
def rD:Go.Shelf.Ren:=⟨λ| 156=>70| 165=>113| 166=>41| 169=>48| 240=>68| 241=>150| 276=>111| 277=>189|n=>n,λ| 31=>26| 72=>104| 76=>108| 70=>102| 37=>87| 75=>107| 127=>165| 164=>216| 80=>122|n=>n,λn=>n⟩
theorem gH:Go.Proofs.Lays.n156 Tryz.prog rD:=by
 constructor<;>first|(intro _;kernel_rfl)|kernel_rfl|(constructor<;>first|(intro _;kernel_rfl)|kernel_rfl|(constructor<;>first|(intro _;kernel_rfl)|kernel_rfl))
theorem bX:Builder.Extra Tryz.prog rD where
 sizeBuilder:=VU
 liesBuilder:=VU
 t5:=by first|exact Tryz.underlying5|kernel_rfl
 a5:=by first|exact Tryz.isAgg5|kernel_rfl
 z5:=by first|exact Tryz.sizeOf5|(intros;rfl)
 v5:=by first|exact Tryz.zeroValue5|(intros;rfl)
 infoByte:=VU
 cellsByte:=VU
 sizeByte:=VU
 neB5:=by decide
def stO:List AV->ByteArray
 |[.x (.string s)]=>s
 |_=>ByteArray.empty
section
variable (n:Nat)(f:Ci)
def kA:Prop:= ∀k,k<n->f k=[.x (.string (stO (f k)))]
def jnB(sep:ByteArray):ByteArray:=⟨(Lib.join (((List.range n).map λk=>stO (f k)).map (·.data.toList)) sep.data.toList).toArray⟩
theorem Xi9(sep:ByteArray)(h0:n<=100000)(h1:kA n f)(h2:(jnB n f sep).size<=140737488355328):VX VO 70 [.lst 1 n f,.x (.string sep)] (.x (.string (jnB n f sep))):=by
 intro e w args hro hgl FP hr;obtain ⟨u,us,rfl,r1,hr⟩:=hr.cons_inv;obtain ⟨u2,us2,rfl,r2,hr⟩:=hr.cons_inv;obtain rfl:=hr.nil_inv;obtain rfl:=r2.x_inv;cases r1 with
 |lstNil=>
  refine Calls.mono (Any.strings_Join_none gH bX none 0 sep w) ?_;rintro en w' ⟨rfl,rfl⟩;exact ⟨_,rfl,Below.refl _ _,.x _⟩
 |lst _ _ _ b o cap g g1 g2 g3 g4 g5 g6 g7 g8 ad had=>
  have hl:((List.range n).map λk=>stO (f k)).length=n:=VT;rcases Nat.eq_zero_or_pos n with rfl|hn;refine Calls.mono (Any.strings_Join_none gH bX (some ad) cap sep w) ?_;rintro en w' ⟨rfl,rfl⟩;exact ⟨_,rfl,Below.refl _ _,.x _⟩;rw [had hn];have h:=Any.strings_Join gH bX b o cap ((List.range n).map λk=>stO (f k)) sep w (λj x hj=>by
   have hj1:=(FV.1 hj).1;have hj2:j<n:=VJ;rw [Bn,List.getElem?_range hj2] at hj;simp only [Bt,HE] at hj;have k1:=g6 j 0 hj2 VJ;have k2:=(g8 j 0 (.x (.string (stO (f j)))) hj2 (by rw [h1 j hj2];rfl)).x_inv
   have e0:o+(j*1+0)=o+j:=VJ;rw [e0,k2,hj] at k1;exact k1) (g2 hn) (by rw [hl];omega) (by rw [hl];exact g4) (by
    have e:(Lib.join (((List.range n).map λk=>stO (f k)).map (·.data.toList)) sep.data.toList).length=(jnB n f sep).size:=rfl;rw [e];exact h2)
  rw [hl] at h;refine Calls.mono h ?_;rintro en w' ⟨rfl,hb⟩;exact ⟨_,rfl,hb,.x _⟩
end
def fJ:UX
 |[.lst 1 n f,.x (.string sep)]=>some ([n<=100000,kA n f,(jnB n f sep).size<=140737488355328],.x (.string (jnB n f sep)))
 |_=>none
theorem Qd0:VP VO 70 fJ:=by
 refine ⟨(UJ Tryz.func70),?_⟩;intro avs ns res h hn;unfold fJ at h;split at h;cases h;exact Xi9 _ _ _ (hn _ VT) (hn _ VT) (hn _ VT);cases h
def Xq6:D2:=λavs m nx sv=>match avs with
 |[.ptr q 0]=>match DG m q with
  |some (.cells T l)=>match l with
   |[.x (.pointer none),c]=>match Nat.beq T 104 with
    |true=>some (.leaf (.tup [],qG m q (.cells T [.ptr q 0,c]),nx,sv))
    |false=>none
   |[.ptr q' 0,c]=>match Nat.beq T 104&&Nat.beq q q' with
    |true=>some (.leaf (.tup [],m,nx,sv))
    |false=>none
   |_=>none
  |_=>none
 |_=>none
theorem Zr3:GB VO 68 Xq6:=by
 refine ⟨(UJ Tryz.func68),?_⟩;intro avs m nx sv tr I Q hQ cx w0 TT e ds args w hE hB hm hlv LQ hxt hr;unfold Xq6 at I;split at I;rename_i q;obtain ⟨v0,l1,rfl,r1,hr⟩:=hr.cons_inv;obtain rfl:=hr.nil_inv;have hv0:v0= .pointer (some ⟨e.blk q,0,none⟩):=by cases r1;rfl
 subst hv0;split at I;rename_i T l hg;split at I;rename_i c;split at I;rename_i hb;obtain rfl:=GZ hb;cases I;obtain ⟨h1,h2,vs,h3,h4⟩:=hm _ (UW hg);obtain ⟨p,us,rfl,t1,h4⟩:=h4.cons_inv;obtain ⟨v,us,rfl,t2,h4⟩:=h4.cons_inv;obtain rfl:=h4.nil_inv;obtain rfl:=t1.x_inv
 dsimp only at h1 h2 h3
 have hc0:w.cell? ⟨e.blk q,0,none⟩=some (.pointer none):=by simp [World.cell?,h3]
 refine Calls.mono (Any.Builder_copyCheck_fresh {gH with} bX.toX72 (e.blk q) w hc0 (by simp [World.shape?,h3];rfl) (by simp [World.frozen?,h3])) ?_
 rintro en w' ⟨rfl,rfl⟩;have RY: ∀b,b≠e.blk q->(w.setCell ⟨e.blk q,0,none⟩ (.pointer (some ⟨e.blk q,0,none⟩))).heap[b]? =w.heap[b]? :=λb hb=>heap_setCell_other _ _ _ _ hb;have hsz:(w.setCell ⟨e.blk q,0,none⟩ (.pointer (some ⟨e.blk q,0,none⟩))).heap.size=w.heap.size:=VT;have st:=F8 hE h2 hsz RY;have dY:Below w0.heap.size w0 (w.setCell ⟨e.blk q,0,none⟩ (.pointer (some ⟨e.blk q,0,none⟩))):=hB.setCell (p:=⟨e.blk q,0,none⟩) (hE.owned _ _ h2).1 _;refine ⟨_,_,_,_,_,e,rfl,hQ,L4 hE hsz st,dY,?_,hlv,LQ,hxt.step st,Rep.tupL (U3.nil _ _)⟩;intro p hp;rcases FX hp with rfl|⟨hp,hne⟩;refine ⟨h1,h2,[.pointer (some ⟨e.blk q,0,none⟩),v],?_,.cons (.ptr q 0 h1) (.cons (t2.step st) (.nil _ _))⟩;rw [heap_setCell_same w _ 0 _ _ _ h3];rfl;exact P4 hE h2 hsz RY hne (hm p hp);cases I;rename_i q' c;split at I;rename_i hb;rw [GU] at hb;obtain rfl:=GZ hb.1;obtain rfl:=GZ hb.2;cases I;obtain ⟨h1,h2,vs,h3,h4⟩:=hm _ (UW hg);obtain ⟨p,us,rfl,t1,h4⟩:=h4.cons_inv;obtain ⟨v,us,rfl,t2,h4⟩:=h4.cons_inv;obtain rfl:=h4.nil_inv
 dsimp only at h1 h2 h3
 have hp:p= .pointer (some ⟨e.blk q,0,none⟩):=by cases t1;rfl
 subst hp;have hc0:w.cell? ⟨e.blk q,0,none⟩=some (.pointer (some ⟨e.blk q,0,none⟩)):=by simp [World.cell?,h3]
 refine Calls.mono (Any.Builder_copyCheck_used {gH with} bX.toX72 (e.blk q) w hc0) ?_
 rintro en w' ⟨rfl,rfl⟩;exact ⟨_,_,_,_,_,e,rfl,hQ,hE,hB,hm,hlv,LQ,hxt,Rep.tupL (U3.nil _ _)⟩;cases I;cases I;cases I;cases I
set_option maxHeartbeats 1000000 in
theorem Ql9(b g cap:Nat)(p:Value)(cur:Array Value)(l:List UInt8)(w:World)(hbk:w.heap[b]? =some (.cells #[p,.slice (some ⟨g,0,none⟩) l.length cap] 104 (0,0)))(hg:w.heap[g]? =some (.cells cur 5 (0,0)))(h0:l≠[])(hnc:l.length<=cap)(hcm:cap<=maxLen)(hcs:cur.size=cap)
  (gQ: ∀j x,l[j]? =some x->w.cell? ⟨g,j,none⟩=some (.int .u8 x.toNat)):
  Calls Tryz.prog 48 #[.pointer (some ⟨b,0,none⟩)] w λe w'=>e= .returned (.string ⟨l.toArray⟩)/\w'=w.drew.freeze ⟨g,0,none⟩ l.length:=by
 have c1:w.drew.cell? ⟨b,1,none⟩=some (.slice (some ⟨g,0,none⟩) l.length cap):=by
  have:w.drew.heap[b]? =some (.cells #[p,.slice (some ⟨g,0,none⟩) l.length cap] 104 (0,0)):=hbk;simp [World.cell?,this]
 have hl0:l.length≠0:=by simpa using h0
 have hSD:(Builtin.unsafeSliceData_ #[87] 165 #[.slice (some ⟨g,0,none⟩) l.length cap]).run Tryz.prog w.drew= .ok (.pointer (some ⟨g,0,none⟩)) w.drew:=
  Lib.run_unsafeSliceData_row _ _ _ _ _ _ VJ
 have hUS:(Builtin.unsafeString_ #[165,3] 9 #[.pointer (some ⟨g,0,none⟩),.int .i64 l.length]).run Tryz.prog w.drew= .ok (.string ⟨l.toArray⟩) (w.drew.freeze ⟨g,0,none⟩ l.length):=by
  refine Lib.run_unsafeString_row w.drew 165 3 9 5 Zn1.t127 VU g cur.size (by have hg':w.drew.heap[g]? =some (.cells cur 5 (0,0)):=hg;simp [World.shape?,hg']) l h0 VJ (by unfold maxLen at hcm;omega) ?_
  intro j x hx;have e:(⟨g,0,none⟩:Addr).add j=⟨g,j,none⟩:=by rw [DK,Ap]
  rw [e];exact gQ j x hx
 have GR:Tryz.prog.follows .mixedOrders=true:=VZ
 go_enter Tryz.func48,Tryz.ntmps48
 go_wp2
 go_region_o
 all_goals (go_wp2;go_ret;exact ⟨rfl,rfl⟩)
def Xc3:D2:=λavs m nx sv=>match avs with
 |[.ptr q 0]=>match DG m q with
  |some (.cells T l)=>match l with
   |[_,.row r]=>match DG m r with
    |some (.row T1 sz n f)=>match Nat.beq T 104&&Nat.beq T1 5&&Nat.beq sz 1 with
     |true=>some (.needT [gI n f,0<n] (.leaf (.x (.string (bsO n f)),[],nx,sv)))
     |false=>none
    |_=>none
   |_=>none
  |_=>none
 |_=>none
theorem aM(w:World)(g n x:Nat)(h:x≠g):(w.freeze ⟨g,0,none⟩ n).heap[x]? =w.heap[x]? :=by
 unfold World.freeze;split;rfl;show (w.heap.modify g _)[x]? =_;rw [Array.getElem?_modify];rw [if_neg (λe=>h e.symm)]
theorem lI(w:World)(g n:Nat):(w.freeze ⟨g,0,none⟩ n).heap.size=w.heap.size:=by
 unfold World.freeze;split;rfl;show (w.heap.modify g _).size=_;simp
theorem Qs2(w:World)(g n:Nat):(w.freeze ⟨g,0,none⟩ n).os=w.os/\(w.freeze ⟨g,0,none⟩ n).tape=w.tape/\(w.freeze ⟨g,0,none⟩ n).output=w.output:=by
 unfold World.freeze;split<;>exact ⟨rfl,rfl,rfl⟩
theorem kS:GB VO 48 Xc3:=by
 refine ⟨(UJ Tryz.func48),?_⟩;intro avs m nx sv tr I Q hQ cx w0 TT e ds args w hE hB hm hlv LQ hxt hr;unfold Xc3 at I;split at I;rename_i q;obtain ⟨v0,l1,rfl,r1,hr⟩:=hr.cons_inv;obtain rfl:=hr.nil_inv;have hv0:v0= .pointer (some ⟨e.blk q,0,none⟩):=by cases r1;rfl
 subst hv0;split at I;rename_i T l hg;split at I;rename_i a r;split at I;rename_i T1 sz n f hg2;split at I;rename_i hb;rw [GU,GU] at hb;obtain ⟨⟨hb1,hb2⟩,hb3⟩:=hb;obtain rfl:=GZ hb1;obtain rfl:=GZ hb2;obtain rfl:=GZ hb3;cases I;obtain ⟨hn,hq⟩:=VM.sat_needT hQ;have hn:=GE hn;have n1:gI n f:=hn _ VT;have n2:0<n:=hn _ VT;obtain ⟨h1,h2,vs,h3,h4⟩:=hm _ (UW hg);obtain ⟨p,us,rfl,t1,h4⟩:=h4.cons_inv;obtain ⟨v,us,rfl,t2,h4⟩:=h4.cons_inv;obtain rfl:=h4.nil_inv
 dsimp only at h1 h2 h3
 obtain ⟨k1,k2,k3,xs,k4,k5⟩:=hm _ (UW hg2)
 dsimp only at k1 k2 k3 k4 k5
 have hv:e.val r=v:=by
  cases t2 with
  |row _ a n c _ hv=>exact hv
 rw [hv] at k2 k4;rcases k4.2 with ⟨_,hz⟩|⟨g,cap,cur,rfl,hbg,hgg,hnc,hcm,hcs,kC⟩;omega;have H9:e.own g=some r:=k2 g rfl;have HX:((List.range n).map λj=>UInt8.ofNat (byO (f j))).length=n:=VT;have h0:((List.range n).map λj=>UInt8.ofNat (byO (f j)))≠[]:=by
  intro h;rw [h] at HX;simp at HX;omega
 have gQ: ∀j x,((List.range n).map λj=>UInt8.ofNat (byO (f j)))[j]? =some x->w.cell? ⟨g,j,none⟩=some (.int .u8 x.toNat):=by
  intro j x hj;have hj1:j<n:=by have:=(FV.1 hj).1;omega
  rw [Bn,List.getElem?_range hj1] at hj;simp only [Bt,HE] at hj;have hxl:xs.length=n:=by have:=k4.1;omega
  have hc1:=k4.cells (g:=g) rfl j xs[j] (D0 VJ);have e1:(⟨g,0,none⟩:Addr).add j=⟨g,j,none⟩:=by rw [DK,Ap]
  rw [e1] at hc1;have hc2:=(k5 j 0 (.x (.int .u8 (byO (f j):Int))) xs[j] hj1 (by rw [(n1 j hj1).2];rfl) (by rw [show j*1+0=j by omega];exact D0 VJ)).x_inv
  rw [hc1,hc2,←hj,UInt8.toNat_ofNat_of_lt' (n1 j hj1).1]
 have FJ:=Ql9 (e.blk q) g cap p cur ((List.range n).map λj=>UInt8.ofNat (byO (f j))) w (by rw [HX];exact h3) hgg h0 (by rw [HX];exact hnc) hcm (by simpa using hcs) gQ
 refine FJ.mono ?_;rintro en w' ⟨rfl,rfl⟩;rw [HX];have RY: ∀x,x≠g->(w.drew.freeze ⟨g,0,none⟩ n).heap[x]? =w.heap[x]? :=λx hx=>aM w.drew g n x hx;have hsz:(w.drew.freeze ⟨g,0,none⟩ n).heap.size=w.heap.size:=lI w.drew g n;have hos:=Qs2 w.drew g n;have st:=F8 hE H9 hsz RY;refine ⟨_,_,_,_,_,e,rfl,hq,L4 hE hsz st,⟨hos.1.trans hB.os,hos.2.1.trans hB.tape,hos.2.2.trans hB.output,by rw [hsz];exact hB.size,λx hx=>?_⟩,λp hp=>(by cases hp),hlv,LQ,hxt.step st,.x _⟩
 rw [RY x (by have:=(hE.owned _ _ H9).1;omega)]
 exact hB.block x hx;cases I;cases I;cases I;cases I;cases I
open Go Go.Sx Go.RowKit Bo
open Go.Sx.VM (need branch leaf)
open Go.Sx.AV (lst ptr agg roI tup top)
def U6:List ByteArray:=[⟨#[116,104,114,101,97,100,32,48,32,49,32,52,48,32,52,48]⟩,⟨#[116,104,114,101,97,100,32,50,32,51,32,52,56,32,53,48]⟩,⟨#[105,115,115,117,101,32,48,32,52,32,57,48,32,48]⟩,⟨#[98,97,116,104,32,49,48,48,32,51,48,48]⟩,⟨#[115,101,101,32,48,32,50,48,48]⟩,⟨#[115,101,101,32,49,32,50,48,51]⟩,⟨#[98,97,116,104,32,49,48,48,32,51,48,48]⟩,⟨#[115,101,101,32,49,32,50,53,50]⟩,⟨#[115,101,101,32,50,32,50,53,48]⟩,⟨#[115,101,108,108,32,48,32,49,32,54,32,49,32,51]⟩,⟨#[115,101,108,108,32,49,32,50,32,52,32,50,32,50]⟩]
def G9:List ByteArray:=[⟨#[116,104,114,101,97,100,32,48,32,50,32,52,48,32,52,48]⟩,⟨#[105,115,115,117,101,32,48,32,52,32,56,48,32,48]⟩,⟨#[115,101,101,32,48,32,49,48,48]⟩,⟨#[115,116,114,105,107,101,32,49]⟩,⟨#[118,111,105,100,32,48]⟩]
def UM(l:List ByteArray)(k:Nat):ByteArray:=l.getD k ByteArray.empty
def wk1:HS:=thS hs0 0 1 40 40
def wk2:HS:=thS wk1 2 3 48 50
def wk3:HS:=isS wk2 0 4 90 0
def wk4:HS:=btS wk3 100 300
def wk5:HS:=seS wk4 0 200
def wk6:HS:=seS wk5 1 203
def wk7:HS:=btS wk6 100 300
def wk8:HS:=seS wk7 1 252
def wk9:HS:=seS wk8 2 250
def Ql6:HS:=slS wk9 0 1 6 1 3
def VV:HS:=slS Ql6 1 2 4 2 2
theorem Qy7:lnE (UM U6 0) hs0=0:=by decide+kernel
theorem Xs7:D1 (HW (UM U6 0)) hs0=wk1:=VU
theorem Qy6:lnE (UM U6 1) wk1=0:=by decide+kernel
theorem Xs6:D1 (HW (UM U6 1)) wk1=wk2:=VU
theorem Qy5:lnE (UM U6 2) wk2=0:=by decide+kernel
theorem Xs5:D1 (HW (UM U6 2)) wk2=wk3:=VU
theorem Qy4:lnE (UM U6 3) wk3=0:=by decide+kernel
theorem Xs4:D1 (HW (UM U6 3)) wk3=wk4:=VU
theorem Qy3:lnE (UM U6 4) wk4=0:=by decide+kernel
theorem Xs3:D1 (HW (UM U6 4)) wk4=wk5:=VU
theorem Qy2:lnE (UM U6 5) wk5=0:=by decide+kernel
theorem Xs2:D1 (HW (UM U6 5)) wk5=wk6:=VU
theorem Qy1:lnE (UM U6 6) wk6=0:=by decide+kernel
theorem Xs1:D1 (HW (UM U6 6)) wk6=wk7:=VU
theorem Qy0:lnE (UM U6 7) wk7=0:=by decide+kernel
theorem Xs0:D1 (HW (UM U6 7)) wk7=wk8:=VU
theorem Qx9:lnE (UM U6 8) wk8=0:=by decide+kernel
theorem Xr9:D1 (HW (UM U6 8)) wk8=wk9:=VU
theorem Qx8:lnE (UM U6 9) wk9=0:=by decide+kernel
theorem Xr8:D1 (HW (UM U6 9)) wk9=Ql6:=VU
theorem nM:lnE (UM U6 10) Ql6=0:=by decide+kernel
theorem Qx0:D1 (HW (UM U6 10)) Ql6=VV:=VU
theorem Xs9:boE VV.nb VV.ql VV.qh VV.qm VV.qr VV.qv=0:=by decide+kernel
theorem Xs8:boN VV.nb VV.ql VV.qh VV.qm VV.qr VV.qv=3:=by decide+kernel
theorem Qx3:boL VV.nb VV.ql VV.qh VV.qm VV.qr VV.qv 0=0:=by decide+kernel
theorem Qx6:boH VV.nb VV.ql VV.qh VV.qm VV.qr VV.qv 0=0:=by decide+kernel
theorem Qx2:boL VV.nb VV.ql VV.qh VV.qm VV.qr VV.qv 1=1:=by decide+kernel
theorem Qx5:boH VV.nb VV.ql VV.qh VV.qm VV.qr VV.qv 1=5:=by decide+kernel
theorem Qx1:boL VV.nb VV.ql VV.qh VV.qm VV.qr VV.qv 2= -3:=by decide+kernel
theorem Qx4:boH VV.nb VV.ql VV.qh VV.qm VV.qr VV.qv 2=5:=by decide+kernel
theorem Qw9:stP VV 0 0=true:=by decide+kernel
theorem Qx7:zS VV.ns VV.sa VV.sb VV.sc VV.sl VV.sh=true:=by decide+kernel
theorem Qy9:caB VV.ns VV.sa VV.sb VV.sc VV.sl VV.sh 1 0=true:=by decide+kernel
theorem Qy8:caB VV.ns VV.sa VV.sb VV.sc VV.sl VV.sh 1 1=true:=by decide+kernel
theorem Zf8:caB VV.ns VV.sa VV.sb VV.sc VV.sl VV.sh 1 2=false:=by decide+kernel
theorem Zf7:caB VV.ns VV.sa VV.sb VV.sc VV.sl VV.sh 1 3=false:=by decide+kernel
theorem Qw8:suB VV.ns VV.sa VV.sb VV.sc VV.sl VV.sh 1 0=true:=by decide+kernel
theorem Ze1:suB VV.ns VV.sa VV.sb VV.sc VV.sl VV.sh 1 1=false:=by decide+kernel
theorem Ze0:suB VV.ns VV.sa VV.sb VV.sc VV.sl VV.sh 1 2=false:=by decide+kernel
theorem Zd9:suB VV.ns VV.sa VV.sb VV.sc VV.sl VV.sh 1 3=false:=by decide+kernel
theorem Ja4:hdN 4 100 20 30 VV.nr VV.ra VV.rb VV.ru VV.rv 3 tbP tbQ VV.pl VV.ph 1 3 0=5:=by decide+kernel
theorem Zf1:onL (wkA 4 100 20 30 VV.nr VV.ra VV.rb VV.ru VV.rv 3 tbP tbQ VV.pl VV.ph 1 3) 0 0=0:=by decide+kernel
theorem Zf6:onH (wkA 4 100 20 30 VV.nr VV.ra VV.rb VV.ru VV.rv 3 tbP tbQ VV.pl VV.ph 1 3) 0 0=0:=by decide+kernel
theorem Zf0:onL (wkA 4 100 20 30 VV.nr VV.ra VV.rb VV.ru VV.rv 3 tbP tbQ VV.pl VV.ph 1 3) 1 0=200:=by decide+kernel
theorem Zf5:onH (wkA 4 100 20 30 VV.nr VV.ra VV.rb VV.ru VV.rv 3 tbP tbQ VV.pl VV.ph 1 3) 1 0=300:=by decide+kernel
theorem Ze9:onL (wkA 4 100 20 30 VV.nr VV.ra VV.rb VV.ru VV.rv 3 tbP tbQ VV.pl VV.ph 1 3) 2 0=410:=by decide+kernel
theorem Zf4:onH (wkA 4 100 20 30 VV.nr VV.ra VV.rb VV.ru VV.rv 3 tbP tbQ VV.pl VV.ph 1 3) 2 0=510:=by decide+kernel
theorem Ze8:onL (wkA 4 100 20 30 VV.nr VV.ra VV.rb VV.ru VV.rv 3 tbP tbQ VV.pl VV.ph 1 3) 3 0=700:=by decide+kernel
theorem Zf3:onH (wkA 4 100 20 30 VV.nr VV.ra VV.rb VV.ru VV.rv 3 tbP tbQ VV.pl VV.ph 1 3) 3 0=800:=by decide+kernel
theorem Ze7:onL (wkA 4 100 20 30 VV.nr VV.ra VV.rb VV.ru VV.rv 3 tbP tbQ VV.pl VV.ph 1 3) 4 0=1000:=by decide+kernel
theorem Zf2:onH (wkA 4 100 20 30 VV.nr VV.ra VV.rb VV.ru VV.rv 3 tbP tbQ VV.pl VV.ph 1 3) 4 0=1000:=by decide+kernel
theorem Ze6:(hoS VV.ns VV.sa VV.sb VV.sc VV.sl VV.sh 0 100).1=4:=by decide+kernel
theorem Ze5:(hoS VV.ns VV.sa VV.sb VV.sc VV.sl VV.sh 1 100).1=2:=by decide+kernel
theorem Ze4:(hoS VV.ns VV.sa VV.sb VV.sc VV.sl VV.sh 2 100).1=4:=by decide+kernel
theorem Ze3:(hoS VV.ns VV.sa VV.sb VV.sc VV.sl VV.sh 3 100).1=0:=by decide+kernel
def PH{α:Type}:VM α->VM α
 | .fail=> .fail
 | .leaf a=> .leaf a
 | .branch b t f=>match b with
  |true=>PH t
  |false=>PH f
 | .need ps t=> .need ps (PH t)
 | .may p t f=> .may p (PH t) (PH f)
def Xm9(sp:UG):UG:=λs=>match sp s with
 |some t=>some (PH t)
 |none=>none
section
variable (n:Nat)(f:Ci)
def byB:Bool:=D3 (λj=>match f j with
 |[.x (.int .u8 c)]=>decide (0<=c)&&decide (c<256)
 |_=>false) n
def Jb5:Bool:=D3 (λj=>match f j with
 |[.x (.string _)]=>true
 |_=>false) n
end
theorem H3{α:Type}{Q:α->Prop}: ∀{t:VM α},(PH t).sat Q->t.sat Q
 | .fail,h=>h
 | .leaf _,h=>h
 | .branch true _ _,h=>⟨λ_=>H3 h,λe=>Bool.noConfusion e⟩
 | .branch false _ _,h=>⟨λe=>Bool.noConfusion e,λ_=>H3 h⟩
 | .need _ _,h=>⟨h.1,H3 h.2⟩
 | .may _ _ _,h=>⟨λp=>H3 (h.1 p),H3 h.2⟩
theorem Zq7{P:Program}{ro:Option Nat}{cx:Cx}{c:Code}{sp:UG}(h:HN P ro cx c sp):HN P ro cx c (Xm9 sp):=by
 intro n s t I Q hQ a w r;unfold Xm9 at I;split at I;rename_i t0 h0;cases I;exact h n s t0 h0 Q (H3 hQ) a w r;cases I
section
variable {n:Nat}{f:Ci}
theorem sE(h:byB n f=true):gI n f:=by
 intro j hj;have h1:=GC.1 h j hj;split at h1;rename_i c hc;rw [GU,qQ,qQ] at h1;rw [hc];have e:byO [.x (.int .u8 c)]=c.toNat:=rfl;rw [e];refine ⟨VJ,?_⟩;rw [show ((c.toNat:Nat):Int)=c by omega]
 cases h1
theorem cD(h:Jb5 n f=true):kA n f:=by
 intro j hj;have h1:=GC.1 h j hj;split at h1;rename_i s hc;rw [hc];rfl;cases h1
end
noncomputable def Xc5:D2:=A2 Tryz.prog [] {R:=[],H:=[(68,Xq6)] } [] Tryz.f41 (U7 Tryz.f41)
theorem Xo5:GB VO 41 Xc5:=
 RL (G:=[]) (X:={R:=[],H:=[(68,Xq6)] }) (L:=[]) Aa (Ai Ab (Ag Zr3 Ac)) VZ (UJ Tryz.func41) Tryz.func41 (UU Tryz.f41) U2
noncomputable def fN:D2:=A2 Tryz.prog [(69,fK),(70,fJ)] WA [(Xm9 (λs=>some (kR Tryz.prog [(69,fK),(70,fJ)] WA [] (U9 (VS (U7 Tryz.f42) 0)) 10 s)))] Tryz.f42 (U7 Tryz.f42)
theorem iX:GB VO 42 fN:=
 RL (G:=[(69,fK),(70,fJ)]) (X:=WA) (L:=[(Xm9 (λs=>some (kR Tryz.prog [(69,fK),(70,fJ)] WA [] (U9 (VS (U7 Tryz.f42) 0)) 10 s)))]) (Ae a9 (Ae Qd0 Aa)) Ad VZ (UJ Tryz.func42) Tryz.func42 (UU Tryz.f42) (G7 (lpE (b:= .loop (U9 (VS (U7 Tryz.f42) 0))) VU<|λro cx=>Zq7 (yL (Ae a9 (Ae Qd0 Aa)) (Ad cx) VZ (λj cj hj sp hsp=>by simp at hsp) 10)))
noncomputable def Xc4:D2:=A2 Tryz.prog [] {R:=[],H:=[(42,fN),(41,Xc5)] } [] Tryz.f40 (U7 Tryz.f40)
theorem xH:GB VO 40 Xc4:=
 RL (G:=[]) (X:={R:=[],H:=[(42,fN),(41,Xc5)] }) (L:=[]) Aa (Ai Ab (Ag iX (Ag Xo5 Ac))) VZ (UJ Tryz.func40) Tryz.func40 (UU Tryz.f40) U2
def AK:UX
 |[.x (.int .i64 a),.x (.int .i64 b)]=>some ([0<=a/\a<=1000\/ -1000<=a/\a<=1000,-1000<=b/\b<=1000,((⟨(Lib.itoa a).toArray⟩:ByteArray)++⟨#[46,46]⟩).size+(⟨(Lib.itoa b).toArray⟩:ByteArray).size<=100],.x (.string ((⟨(Lib.itoa a).toArray⟩++⟨#[46,46]⟩)++⟨(Lib.itoa b).toArray⟩)))
 |_=>none
theorem Wo2(a b:Int)(VR:0<=a/\a<=1000\/ -1000<=a/\a<=1000)(UE: -1000<=b/\b<=1000)(HK:((⟨(Lib.itoa a).toArray⟩:ByteArray)++⟨#[46,46]⟩).size+(⟨(Lib.itoa b).toArray⟩:ByteArray).size<=100):VX VO 45 [i a,i b] (.x (.string ((⟨(Lib.itoa a).toArray⟩++⟨#[46,46]⟩)++⟨(Lib.itoa b).toArray⟩))):=by
 refine U1 (L:=[]) (Ae a9 Aa) VZ Tryz.func45 (UU Tryz.f45) U2 (t:=need [VL a] (need [(↑(ByteArray.size {data:=List.toArray (Lib.itoa a) }+ByteArray.size {data:=#[46,46] }):Int)<=9223372036854775807] (need [VL b] (need [(↑(ByteArray.size ({data:=List.toArray (Lib.itoa a) }++{data:=#[46,46] })+ByteArray.size {data:=List.toArray (Lib.itoa b) }):Int)<=9223372036854775807] (leaf (RV.x (.string ({data:=List.toArray (Lib.itoa a) }++{data:=#[46,46] }++{data:=List.toArray (Lib.itoa b) })))))))) VU ?_;rw [Av] at HK;simp only [VM.sat,UB,G0,UD,UH,VL,Av];all_goals exact V7
theorem xG:VP VO 45 AK:=by
 refine ⟨(UJ Tryz.func45),?_⟩;intro avs ns res h hn;unfold AK at h;split at h;cases h;exact Wo2 _ _ (hn _ VT) (hn _ VT) (hn _ VT);cases h
def Zj8:ByteArray:=⟨#[114,101,97,100,105,110,103,115,32,50,32,98,97,116,104,115,32,50,32,99,101,114,116,105,102,105,99,97,116,101,115,32,49,32,115,97,108,101,115,32,50,10,109,97,114,107,115,32,48,46,46,48,32,50,48,48,46,46,51,48,48,32,52,49,48,46,46,53,49,48,32,55,48,48,46,46,56,48,48,32,49,48,48,48,46,46,49,48,48,48,10,111,102,102,115,101,116,115,32,48,46,46,48,32,49,46,46,53,32,45,51,46,46,53,10,115,116,97,110,100,32,48,10,104,111,108,100,32,52,32,50,32,52,32,48,10]⟩
def tD:UX:=λl=>some ([l=[lns 11 (UM U6)]],i 0)
def Qj3:DD:=λl=>some (.need [l=[lns 11 (UM U6)]] (.leaf (.tup [.ro (hsL VV),.lst 1 11 (exG (UM U6))])))
def Xa6:UX:=λl=>some ([l=[.agg [i 4,i 100,i 20,i 30,hsR VV,.lst 2 3 (λk=>[i (tbP k),i (tbQ k)]),i VV.pl,i VV.ph,i 1,i 3],i 0]],.tup [.lst 2 5 (λk=>[i (UA [0,200,410,700,1000] k),i (UA [0,300,510,800,1000] k)]),i 0])
def tA:UX:=λl=>some ([l=[.agg [ofs,i 1,hsB VV]]],.tup [.lst 2 3 (λk=>[i (UA [0,1,-3] k),i (UA [0,5,5] k)]),i 0])
def t9:UX:=λl=>some ([l=[.agg (hsL VV),.agg [i (VV.ca 0),i (VV.cb 0),i (VV.cc 0),i (VV.cd 0),bl (VV.cv 0)],i (VV.cd 0)]],bl true)
def Xa5:DD:=λl=>match l with
 |[b,.x (.int .i64 ow),d]=>some (.need [b= .agg [i 4,i 10,hsS VV],d=i 100,0<=ow/\ow<=3] (.leaf (.tup [.agg [i (UA [4,2,4,0] ow.toNat),i (hoS VV.ns VV.sa VV.sb VV.sc VV.sl VV.sh ow 100).2],i 0])))
 |_=>none
theorem Ja3:sK (UM U6) 0=hs0:=rfl
theorem Ja2:sK (UM U6) 1=wk1:=by
 show lnS (UM U6 0) (sK (UM U6) 0)=_;rw [Ja3];unfold lnS;rw [if_pos Qy7];exact Xs7
theorem Ja1:sK (UM U6) 2=wk2:=by
 show lnS (UM U6 1) (sK (UM U6) 1)=_;rw [Ja2];unfold lnS;rw [if_pos Qy6];exact Xs6
theorem Ja0:sK (UM U6) 3=wk3:=by
 show lnS (UM U6 2) (sK (UM U6) 2)=_;rw [Ja1];unfold lnS;rw [if_pos Qy5];exact Xs5
theorem Zz9:sK (UM U6) 4=wk4:=by
 show lnS (UM U6 3) (sK (UM U6) 3)=_;rw [Ja0];unfold lnS;rw [if_pos Qy4];exact Xs4
theorem Zz8:sK (UM U6) 5=wk5:=by
 show lnS (UM U6 4) (sK (UM U6) 4)=_;rw [Zz9];unfold lnS;rw [if_pos Qy3];exact Xs3
theorem Zz7:sK (UM U6) 6=wk6:=by
 show lnS (UM U6 5) (sK (UM U6) 5)=_;rw [Zz8];unfold lnS;rw [if_pos Qy2];exact Xs2
theorem Zz6:sK (UM U6) 7=wk7:=by
 show lnS (UM U6 6) (sK (UM U6) 6)=_;rw [Zz7];unfold lnS;rw [if_pos Qy1];exact Xs1
theorem Zz5:sK (UM U6) 8=wk8:=by
 show lnS (UM U6 7) (sK (UM U6) 7)=_;rw [Zz6];unfold lnS;rw [if_pos Qy0];exact Xs0
theorem Zz4:sK (UM U6) 9=wk9:=by
 show lnS (UM U6 8) (sK (UM U6) 8)=_;rw [Zz5];unfold lnS;rw [if_pos Qx9];exact Xr9
theorem Ze2:sK (UM U6) 10=Ql6:=by
 show lnS (UM U6 9) (sK (UM U6) 9)=_;rw [Zz4];unfold lnS;rw [if_pos Qx8];exact Xr8
theorem AP:sK (UM U6) 11=VV:=by
 show lnS (UM U6 10) (sK (UM U6) 10)=_;rw [Ze2];unfold lnS;rw [if_pos nM];exact Qx0
theorem c7:ckE 11 (UM U6)=0:=by decide+kernel
theorem yC:VP VO 35 tD:=by
 refine ⟨(UJ Tryz.func35),?_⟩;intro avs ns res h hn;cases h;have e:avs=[lns 11 (UM U6)]:=hn _ GD;subst e;have h1:=OH 11 (UM U6) VJ;rw [c7] at h1;exact h1
theorem xA:Sx.Enters Tryz.prog 37/\ ∀avs t,Qj3 avs=some t->UN VO 37 avs t:=by
 refine ⟨(UJ Tryz.func37),?_⟩;intro avs t h;cases h;intro Q hQ;have e:avs=[lns 11 (UM U6)]:=hQ.1;subst e;have hk:=hZ c7;have h1:=iS 11 (UM U6) hk.1 (λk h=>by have:=hk.2 k h;omega) Q
 rw [AP] at h1;exact h1 hQ.2
theorem yA:PI VO 43 Xa6:=by
 refine ⟨(UJ Tryz.func43),?_⟩;intro avs ns res h hn;cases h;have e:avs=[.agg [i 4,i 100,i 20,i 30,hsR VV,.lst 2 3 (λk=>[i (tbP k),i (tbQ k)]),i VV.pl,i VV.ph,i 1,i 3],i 0]:=hn _ GD;subst e;intro e w args q1 q2 q3 q4;refine (uC 4 100 20 30 VV.nr VV.ra VV.rb VV.ru VV.rv 3 tbP tbQ VV.pl VV.ph 1 3 0 e w args q1 q2 q3 q4).mono ?_;rintro en w' ⟨v,rfl,g1,g2⟩;refine ⟨v,rfl,g1,L1 ?_ g2⟩;rw [show hdE 4 100 20 30 VV.nr VV.ra VV.rb VV.ru VV.rv 3 tbP tbQ VV.pl VV.ph 1 3 0=0 by decide+kernel]
 refine ⟨⟨rfl,Ja4,λk hk=>?_⟩,⟨rfl,rfl⟩,Ak⟩;rcases (show k=0\/k=1\/k=2\/k=3\/k=4 by omega) with rfl|rfl|rfl|rfl|rfl
 show [i _,i _]=_;rw [Zf1,Zf6];rfl;show [i _,i _]=_;rw [Zf0,Zf5];rfl;show [i _,i _]=_;rw [Ze9,Zf4];rfl;show [i _,i _]=_;rw [Ze8,Zf3];rfl;show [i _,i _]=_;rw [Ze7,Zf2];rfl
theorem bZ:fP VV:=by
 have h:=jN (UM U6) 11;rw [AP] at h;exact h
theorem y6:VP VO 19 tA:=by
 refine ⟨(UJ Tryz.func19),?_⟩;intro avs ns res h hn;cases h;have e:avs=[.agg [ofs,i 1,hsB VV]]:=hn _ GD;subst e;intro e w args q1 q2 q3 q4;refine (kL VV.nb VV.ql VV.qh VV.qm VV.qr VV.qv bZ.bV e w args q1 q2 q3 q4).mono ?_;rintro en w' ⟨v,rfl,g1,g2⟩;refine ⟨v,rfl,g1,L1 ?_ g2⟩;rw [Xs9];refine ⟨⟨rfl,Xs8,λk hk=>?_⟩,⟨rfl,rfl⟩,Ak⟩;rcases (show k=0\/k=1\/k=2 by omega) with rfl|rfl|rfl
 show [i _,i _]=_;rw [Qx3,Qx6];rfl;show [i _,i _]=_;rw [Qx2,Qx5];rfl;show [i _,i _]=_;rw [Qx1,Qx4];rfl
theorem kT:VP VO 38 t9:=by
 refine ⟨(UJ Tryz.func38),?_⟩;intro avs ns res h hn;cases h;have e:avs=[.agg (hsL VV),.agg [i (VV.ca 0),i (VV.cb 0),i (VV.cc 0),i (VV.cd 0),bl (VV.cv 0)],i (VV.cd 0)]:=hn _ GD;subst e;have h1:=I3 VV (VV.ca 0) (VV.cb 0) (VV.cc 0) (VV.cd 0) (VV.cv 0) (VV.cd 0);have h2:stB VV (VV.ca 0) (VV.cb 0) (VV.cc 0) (VV.cd 0) (VV.cv 0) (VV.cd 0)=true:=by
  have h3:VV.cd 0=0:=VU;have h4:=Qw9;unfold stP at h4;rw [h3] at h4 ⊢;exact h4
 rw [h2] at h1;exact h1
theorem dW:Sx.Enters Tryz.prog 47/\ ∀avs t,Xa5 avs=some t->UN VO 47 avs t:=by
 refine ⟨(UJ Tryz.func47),?_⟩;intro avs t h;unfold Xa5 at h;split at h;rename_i b ow d;cases h;intro Q hQ;obtain ⟨⟨e1,e2,e3,_⟩,hq⟩:=hQ;subst e1 e2;refine Qn6 VV.ns VV.sa VV.sb VV.sc VV.sl VV.sh ow 100 bZ.sV Q ?_;have hb:(bt 0 ow 3&&bt 0 100 100)=true:=by
  rw [GU,Bo.bt_iff,Bo.bt_iff];omega
 refine ⟨λ_=>⟨λh=>?_,λ_=>?_⟩,λh=>Bool.noConfusion (hb.symm.trans h)⟩;rw [Qx7] at h;exact Bool.noConfusion h;have ho:(hoS VV.ns VV.sa VV.sb VV.sc VV.sl VV.sh ow 100).1=UA [4,2,4,0] ow.toNat:=by
  rcases (show ow=0\/ow=1\/ow=2\/ow=3 by omega) with rfl|rfl|rfl|rfl
  exact Ze6;exact Ze5;exact Ze4;exact Ze3
 show Q _;rw [ho];exact hq;cases h
def wvS(s:ByteArray):AV:= .x (.iface 9 (.string s))
def wvI(n:Int):AV:= .x (.iface 3 (.int .i64 n))
def H0(l:List AV)(k:Nat):List AV:=[l.getD k .top]
def wl0:List AV:=[wvS ⟨#[109,97,114,107,115]⟩,wvS ⟨#[48,46,46,48]⟩,wvS ⟨#[50,48,48,46,46,51,48,48]⟩,wvS ⟨#[52,49,48,46,46,53,49,48]⟩,wvS ⟨#[55,48,48,46,46,56,48,48]⟩,wvS ⟨#[49,48,48,48,46,46,49,48,48,48]⟩]
def wl1:List AV:=[wvS ⟨#[111,102,102,115,101,116,115]⟩,wvS ⟨#[48,46,46,48]⟩,wvS ⟨#[49,46,46,53]⟩,wvS ⟨#[45,51,46,46,53]⟩]
def wl2:List AV:=[wvS ⟨#[115,116,97,110,100]⟩,wvI 0]
def wl3:List AV:=[wvS ⟨#[104,111,108,100]⟩,wvI 4,wvI 2,wvI 4,wvI 0]
def rp0:ByteArray:=⟨#[114,101,97,100,105,110,103,115,32,50,32,98,97,116,104,115,32,50,32,99,101,114,116,105,102,105,99,97,116,101,115,32,49,32,115,97,108,101,115,32,50,10]⟩
def rp1:ByteArray:=⟨#[114,101,97,100,105,110,103,115,32,50,32,98,97,116,104,115,32,50,32,99,101,114,116,105,102,105,99,97,116,101,115,32,49,32,115,97,108,101,115,32,50,10,109,97,114,107,115,32,48,46,46,48,32,50,48,48,46,46,51,48,48,32,52,49,48,46,46,53,49,48,32,55,48,48,46,46,56,48,48,32,49,48,48,48,46,46,49,48,48,48,10]⟩
def rp2:ByteArray:=⟨#[114,101,97,100,105,110,103,115,32,50,32,98,97,116,104,115,32,50,32,99,101,114,116,105,102,105,99,97,116,101,115,32,49,32,115,97,108,101,115,32,50,10,109,97,114,107,115,32,48,46,46,48,32,50,48,48,46,46,51,48,48,32,52,49,48,46,46,53,49,48,32,55,48,48,46,46,56,48,48,32,49,48,48,48,46,46,49,48,48,48,10,111,102,102,115,101,116,115,32,48,46,46,48,32,49,46,46,53,32,45,51,46,46,53,10]⟩
def rp3:ByteArray:=⟨#[114,101,97,100,105,110,103,115,32,50,32,98,97,116,104,115,32,50,32,99,101,114,116,105,102,105,99,97,116,101,115,32,49,32,115,97,108,101,115,32,50,10,109,97,114,107,115,32,48,46,46,48,32,50,48,48,46,46,51,48,48,32,52,49,48,46,46,53,49,48,32,55,48,48,46,46,56,48,48,32,49,48,48,48,46,46,49,48,48,48,10,111,102,102,115,101,116,115,32,48,46,46,48,32,49,46,46,53,32,45,51,46,46,53,10,115,116,97,110,100,32,48,10]⟩
def rp4:ByteArray:=⟨#[114,101,97,100,105,110,103,115,32,50,32,98,97,116,104,115,32,50,32,99,101,114,116,105,102,105,99,97,116,101,115,32,49,32,115,97,108,101,115,32,50,10,109,97,114,107,115,32,48,46,46,48,32,50,48,48,46,46,51,48,48,32,52,49,48,46,46,53,49,48,32,55,48,48,46,46,56,48,48,32,49,48,48,48,46,46,49,48,48,48,10,111,102,102,115,101,116,115,32,48,46,46,48,32,49,46,46,53,32,45,51,46,46,53,10,115,116,97,110,100,32,48,10,104,111,108,100,32,52,32,50,32,52,32,48,10]⟩
def eqBy(n:Nat)(F:Ci)(B:ByteArray):Bool:=D3 (λj=>match F j with
 |[.x (.int .u8 c)]=>decide (c=byN B j)
 |_=>false) n
theorem Qe5{n:Nat}{F:Ci}{B:ByteArray}(h:eqBy n F B=true): ∀i,i<n->F i=DQ B i:=by
 intro j hj;have h1:=GC.1 h j hj;split at h1;rename_i c hc;rw [hc,B0 h1];rfl;cases h1
theorem ltM{n:Nat}{f g:Ci}(h:(List.range n).map f=(List.range n).map g): ∀i,i<n->f i=g i:=λi O=>by
 have e:=congrArg (λl=>l[i]?) h;simpa [O] using e
abbrev JM:H2:=[(920,.row 20 1 1 (H0 wl0)),(921,.row 20 1 1 (H0 wl1)),(922,.row 20 1 1 (H0 wl2)),(923,.row 20 1 1 (H0 wl3)),(911,.row 5 1 42 (DQ rp0)),(14,.cells 104 [.ptr 14 0,.row 911])]
def rP(z:Nat):St:=((some {σ:=mkS 198 [(0,.top),(5,.ro (hsL VV)),(7,.ptr 14 0),(8,.fn (.func 40) [] [.ptr 14 0]),(9,.row 920),(10,.row 921),(11,.row 922),(12,.row 923),(91,.lst 2 5 (λk=>[i (UA [0,200,410,700,1000] k),i (UA [0,300,510,800,1000] k)])),(92,i 5),(93,i 0)],m:=JM,nx:=930}:Option St):Option St).getD {σ:=[],m:=[],nx:=0}
noncomputable def rR:Code:=U9 (VS (U7 Tryz.f12) 0)
abbrev X0:H2:=[(920,.row 20 1 6 (H0 wl0)),(921,.row 20 1 1 (H0 wl1)),(922,.row 20 1 1 (H0 wl2)),(923,.row 20 1 1 (H0 wl3)),(911,.row 5 1 42 (DQ rp0)),(14,.cells 104 [.ptr 14 0,.row 911])]
section
variable (z:Nat)
def DS:Nat->St
 | 0=>{σ:=GY [(91,.lst 2 5 (λk=>[i (UA [0,200,410,700,1000] k),i (UA [0,300,510,800,1000] k)])),(92,i 5),(93,i 0)] (rP z).σ,m:=JM,nx:=930}
 | 1=>{σ:=GY [(91,.lst 2 5 (λk=>[i (UA [0,200,410,700,1000] k),i (UA [0,300,510,800,1000] k)])),(92,i 5),(93,i 1)] (rP z).σ,m:=[(920,.row 20 1 2 (H0 wl0)),(921,.row 20 1 1 (H0 wl1)),(922,.row 20 1 1 (H0 wl2)),(923,.row 20 1 1 (H0 wl3)),(911,.row 5 1 42 (DQ rp0)),(14,.cells 104 [.ptr 14 0,.row 911])],nx:=930}
 | 2=>{σ:=GY [(91,.lst 2 5 (λk=>[i (UA [0,200,410,700,1000] k),i (UA [0,300,510,800,1000] k)])),(92,i 5),(93,i 2)] (rP z).σ,m:=[(920,.row 20 1 3 (H0 wl0)),(921,.row 20 1 1 (H0 wl1)),(922,.row 20 1 1 (H0 wl2)),(923,.row 20 1 1 (H0 wl3)),(911,.row 5 1 42 (DQ rp0)),(14,.cells 104 [.ptr 14 0,.row 911])],nx:=930}
 | 3=>{σ:=GY [(91,.lst 2 5 (λk=>[i (UA [0,200,410,700,1000] k),i (UA [0,300,510,800,1000] k)])),(92,i 5),(93,i 3)] (rP z).σ,m:=[(920,.row 20 1 4 (H0 wl0)),(921,.row 20 1 1 (H0 wl1)),(922,.row 20 1 1 (H0 wl2)),(923,.row 20 1 1 (H0 wl3)),(911,.row 5 1 42 (DQ rp0)),(14,.cells 104 [.ptr 14 0,.row 911])],nx:=930}
 | 4=>{σ:=GY [(91,.lst 2 5 (λk=>[i (UA [0,200,410,700,1000] k),i (UA [0,300,510,800,1000] k)])),(92,i 5),(93,i 4)] (rP z).σ,m:=[(920,.row 20 1 5 (H0 wl0)),(921,.row 20 1 1 (H0 wl1)),(922,.row 20 1 1 (H0 wl2)),(923,.row 20 1 1 (H0 wl3)),(911,.row 5 1 42 (DQ rp0)),(14,.cells 104 [.ptr 14 0,.row 911])],nx:=930}
 |_=>{σ:=GY [(91,.lst 2 5 (λk=>[i (UA [0,200,410,700,1000] k),i (UA [0,300,510,800,1000] k)])),(92,i 5),(93,i 5)] (rP z).σ,m:=X0,nx:=930}
def DJ:G5->Option St
 | .exit 0=>some {σ:=GY [(91,.lst 2 5 (λk=>[i (UA [0,200,410,700,1000] k),i (UA [0,300,510,800,1000] k)])),(92,i 5),(93,i 5)] (rP z).σ,m:=X0,nx:=930}
 |_=>none
def M7:CT:= .leaf (.exit 0,(DJ z (.exit 0)).getD (rP z))
abbrev QE:List (Pl×Nat×TypeId×Nat):=[(.slot 9,920,20,1),(.slot 10,921,20,1),(.slot 11,922,20,1),(.slot 12,923,20,1),(.cell 14 1,911,5,1)]
def Xb6:UG:=GJ QE (HF (DS z 0) (M7 z))
abbrev Q7:Prop:=AV.ro [hR 2 VV,iI VV.pl,iI VV.ph,hY 2 VV,hC 1 VV,hT 2 VV]=AV.ro [hR 2 VV,iI VV.pl,iI VV.ph,hY 2 VV,hC 1 VV,hT 2 VV]
noncomputable abbrev Q8:Ext:={R:=[(43,Xa6),(44,L8),(46,xW),(39,MB)],H:=[(40,Xc4),(48,Xc3)],C:=[(37,Qj3),(47,Xa5)] }
abbrev QF:List Int:=[(0:Int),200,410,700,1000]
abbrev QI:List Int:=[(0:Int),300,510,800,1000]
abbrev QM:Prop:=AV.fn (Fn.func 40) [] [ptr 14 0]=AV.fn (Fn.func 40) [] [ptr 14 0]
abbrev QV:List (Nat×UX):=[(35,tD),(19,tA),(38,t9),(45,AK)]
abbrev WG:Prop:=ptr 14 0=ptr 14 0
abbrev WV:AV:=lst 2 5 λk=>[iI (UA QF k),iI (UA QI k)]
abbrev X3:Prop:=AV.row 911=AV.row 911
abbrev Z2:Prop:=AV.row 920=AV.row 920
abbrev Z3:Prop:=AV.row 921=AV.row 921
abbrev Z4:Prop:=AV.row 922=AV.row 922
abbrev Z5:Prop:=AV.row 923=AV.row 923
theorem Zj6:PH (HY VO QV Q8 [] QE rR (DS z 0) (DS z 1) (DJ z))=(let A:=([AV.x (.iface 9 (.string ({data:=List.toArray (Lib.itoa (UA QF (0:Int).toNat)) }++{data:=#[46,46] }++{data:=List.toArray (Lib.itoa (UA QI (0:Int).toNat)) })))]);(need [UI 0 5] (need [(0:Int)<=UA QF (0:Int).toNat/\UA QF (0:Int).toNat<=1000\/(-1000:Int)<=UA QF (0:Int).toNat/\UA QF (0:Int).toNat<=1000,(-1000:Int)<=UA QI (0:Int).toNat/\UA QI (0:Int).toNat<=1000,4<=100] (need [32<=140737488355328,∀(i:Nat),i<1-> ∀(a:AV),a∈U4 1 A i->AV.one a=true] (need [VL ((0:Int)+1)] (need [Q7,WG,QM,Z2,Z3,Z4,Z5,WV=WV,JC,(0:Int)+1=1,2=2,GV 2 (GI 1 (H0 wl0) (U4 1 A)) (H0 wl0),1=1,GQ 1 (H0 wl1),1=1,GQ 1 (H0 wl2),1=1,GQ 1 (H0 wl3),42=42,GQ 42 (DQ rp0),WG,X3] (leaf G5.normal))))))):=by
 kernel_rfl
theorem Zj5:PH (HY VO QV Q8 [] QE rR (DS z 1) (DS z 2) (DJ z))=(let A:=([AV.x (.iface 9 (.string ({data:=List.toArray (Lib.itoa (UA QF (1:Int).toNat)) }++{data:=#[46,46] }++{data:=List.toArray (Lib.itoa (UA QI (1:Int).toNat)) })))]);(need [UI 1 5] (need [(0:Int)<=UA QF (1:Int).toNat/\UA QF (1:Int).toNat<=1000\/(-1000:Int)<=UA QF (1:Int).toNat/\UA QF (1:Int).toNat<=1000,(-1000:Int)<=UA QI (1:Int).toNat/\UA QI (1:Int).toNat<=1000,8<=100] (need [48<=140737488355328,∀(i:Nat),i<1-> ∀(a:AV),a∈U4 1 A i->AV.one a=true] (need [VL ((1:Int)+1)] (need [Q7,WG,QM,Z2,Z3,Z4,Z5,WV=WV,JC,(1:Int)+1=2,3=3,GV 3 (GI 2 (H0 wl0) (U4 1 A)) (H0 wl0),1=1,GQ 1 (H0 wl1),1=1,GQ 1 (H0 wl2),1=1,GQ 1 (H0 wl3),42=42,GQ 42 (DQ rp0),WG,X3] (leaf G5.normal))))))):=by
 kernel_rfl
theorem Zj4:PH (HY VO QV Q8 [] QE rR (DS z 2) (DS z 3) (DJ z))=(let A:=([AV.x (.iface 9 (.string ({data:=List.toArray (Lib.itoa (UA QF (2:Int).toNat)) }++{data:=#[46,46] }++{data:=List.toArray (Lib.itoa (UA QI (2:Int).toNat)) })))]);(need [UI 2 5] (need [(0:Int)<=UA QF (2:Int).toNat/\UA QF (2:Int).toNat<=1000\/(-1000:Int)<=UA QF (2:Int).toNat/\UA QF (2:Int).toNat<=1000,(-1000:Int)<=UA QI (2:Int).toNat/\UA QI (2:Int).toNat<=1000,8<=100] (need [64<=140737488355328,∀(i:Nat),i<1-> ∀(a:AV),a∈U4 1 A i->AV.one a=true] (need [VL ((2:Int)+1)] (need [Q7,WG,QM,Z2,Z3,Z4,Z5,WV=WV,JC,(2:Int)+1=3,4=4,GV 4 (GI 3 (H0 wl0) (U4 1 A)) (H0 wl0),1=1,GQ 1 (H0 wl1),1=1,GQ 1 (H0 wl2),1=1,GQ 1 (H0 wl3),42=42,GQ 42 (DQ rp0),WG,X3] (leaf G5.normal))))))):=by
 kernel_rfl
theorem Zj3:PH (HY VO QV Q8 [] QE rR (DS z 3) (DS z 4) (DJ z))=(let A:=([AV.x (.iface 9 (.string ({data:=List.toArray (Lib.itoa (UA QF (3:Int).toNat)) }++{data:=#[46,46] }++{data:=List.toArray (Lib.itoa (UA QI (3:Int).toNat)) })))]);(need [UI 3 5] (need [(0:Int)<=UA QF (3:Int).toNat/\UA QF (3:Int).toNat<=1000\/(-1000:Int)<=UA QF (3:Int).toNat/\UA QF (3:Int).toNat<=1000,(-1000:Int)<=UA QI (3:Int).toNat/\UA QI (3:Int).toNat<=1000,8<=100] (need [80<=140737488355328,∀(i:Nat),i<1-> ∀(a:AV),a∈U4 1 A i->AV.one a=true] (need [VL ((3:Int)+1)] (need [Q7,WG,QM,Z2,Z3,Z4,Z5,WV=WV,JC,(3:Int)+1=4,5=5,GV 5 (GI 4 (H0 wl0) (U4 1 A)) (H0 wl0),1=1,GQ 1 (H0 wl1),1=1,GQ 1 (H0 wl2),1=1,GQ 1 (H0 wl3),42=42,GQ 42 (DQ rp0),WG,X3] (leaf G5.normal))))))):=by
 kernel_rfl
theorem Zj2:PH (HY VO QV Q8 [] QE rR (DS z 4) (DS z 5) (DJ z))=(let A:=([AV.x (.iface 9 (.string ({data:=List.toArray (Lib.itoa (UA QF (4:Int).toNat)) }++{data:=#[46,46] }++{data:=List.toArray (Lib.itoa (UA QI (4:Int).toNat)) })))]);(need [UI 4 5] (need [(0:Int)<=UA QF (4:Int).toNat/\UA QF (4:Int).toNat<=1000\/(-1000:Int)<=UA QF (4:Int).toNat/\UA QF (4:Int).toNat<=1000,(-1000:Int)<=UA QI (4:Int).toNat/\UA QI (4:Int).toNat<=1000,10<=100] (need [96<=140737488355328,∀(i:Nat),i<1-> ∀(a:AV),a∈U4 1 A i->AV.one a=true] (need [VL ((4:Int)+1)] (need [Q7,WG,QM,Z2,Z3,Z4,Z5,WV=WV,JC,(4:Int)+1=5,6=6,GV 6 (GI 5 (H0 wl0) (U4 1 A)) (H0 wl0),1=1,GQ 1 (H0 wl1),1=1,GQ 1 (H0 wl2),1=1,GQ 1 (H0 wl3),42=42,GQ 42 (DQ rp0),WG,X3] (leaf G5.normal))))))):=by
 kernel_rfl
theorem Zj1:PH (HY VO QV Q8 [] QE rR (DS z 5) (DS z 5) (DJ z))=(need [Q7,WG,QM,Z2,Z3,Z4,Z5,WV=WV,JC,JC,6=6,GQ 6 (H0 wl0),1=1,GQ 1 (H0 wl1),1=1,GQ 1 (H0 wl2),1=1,GQ 1 (H0 wl3),42=42,GQ 42 (DQ rp0),WG,X3] (leaf (G5.exit 0))):=by
 kernel_rfl
end
theorem YZ{p:Prop}(h:p:=by
 (with_reducible repeat' first|apply Al|intro _)
 all_goals first|exact Ak|(rename_i E hE;cases hE;exact hQ)|contradiction|omega|exact FC (by assumption) (by simp [AV.one,Value.oneCell'])|(rename_i i O;exact Qe5 (by decide+kernel) i O)|(rename_i i O;exact ltM VU i O)|exact cD (by decide+kernel)|exact sE (by decide+kernel)|decide+kernel|with_reducible rfl|rfl):p:=h
theorem Zj7(z:Nat):G6 VO (.loop rR) (Xb6 z):=by
 refine UR QE (L:=[]) (Ae yC (Ae y6 (Ae kT (Ae xG Aa)))) (Aj (Af yA (Af FD (Af RE (Af P1 Ab)))) (Ag xH (Ag kS Ac)) (Ah xA (Ah dW (U8.nil _)))) VZ U2 (X:=Nat) (DS z) (λk=>k<=5) (λk=>6-k) (λ_=>DJ z) (x0:=0) (Ao _) ?_ ?_ ?_;intro k
 match k with
 | 0=>
  show Sx.okB (DS z 0)=true;kernel_rfl
 | 1=>
  show Sx.okB (DS z 1)=true;kernel_rfl
 | 2=>
  show Sx.okB (DS z 2)=true;kernel_rfl
 | 3=>
  show Sx.okB (DS z 3)=true;kernel_rfl
 | 4=>
  show Sx.okB (DS z 4)=true;kernel_rfl
 |k+5=>
  show Sx.okB (DS z 5)=true;kernel_rfl
 intro k y E h;unfold DJ at h;split at h;cases h;kernel_rfl;cases h;intro Q hQ k hx
 match k with
 | 0=>
  refine ⟨1,?_⟩
  with_reducible refine H3 ?_
  rw [Zj6];simp only [M7,DJ,VM.sat,GS] at hQ;simp only [VM.sat,UB,UH,VL,DJ];exact YZ
 | 1=>
  refine ⟨2,?_⟩
  with_reducible refine H3 ?_
  rw [Zj5];simp only [M7,DJ,VM.sat,GS] at hQ;simp only [VM.sat,UB,UH,VL,DJ];exact YZ
 | 2=>
  refine ⟨3,?_⟩
  with_reducible refine H3 ?_
  rw [Zj4];simp only [M7,DJ,VM.sat,GS] at hQ;simp only [VM.sat,UB,UH,VL,DJ];exact YZ
 | 3=>
  refine ⟨4,?_⟩
  with_reducible refine H3 ?_
  rw [Zj3];simp only [M7,DJ,VM.sat,GS] at hQ;simp only [VM.sat,UB,UH,VL,DJ];exact YZ
 | 4=>
  refine ⟨5,?_⟩
  with_reducible refine H3 ?_
  rw [Zj2];simp only [M7,DJ,VM.sat,GS] at hQ;simp only [VM.sat,UB,UH,VL,DJ];exact YZ
 | 5=>
  refine ⟨5,?_⟩
  with_reducible refine H3 ?_
  rw [Zj1];simp only [M7,DJ,VM.sat,GS] at hQ;simp only [VM.sat,UB,UH,VL,DJ];exact YZ
 |k+6=>omega
def SJ(z:Nat):St:=((some {σ:=mkS 198 [(0,.top),(5,.ro (hsL VV)),(7,.ptr 14 0),(8,.fn (.func 40) [] [.ptr 14 0]),(9,.row 920),(10,.row 921),(11,.row 922),(12,.row 923),(116,.lst 2 3 (λk=>[i (UA [0,1,-3] k),i (UA [0,5,5] k)])),(117,i 3),(118,i 0)],m:=X0,nx:=930}:Option St):Option St).getD {σ:=[],m:=[],nx:=0}
noncomputable def SM:Code:=U9 (VS (U7 Tryz.f12) 1)
abbrev X1:H2:=[(920,.row 20 1 6 (H0 wl0)),(921,.row 20 1 4 (H0 wl1)),(922,.row 20 1 1 (H0 wl2)),(923,.row 20 1 1 (H0 wl3)),(911,.row 5 1 42 (DQ rp0)),(14,.cells 104 [.ptr 14 0,.row 911])]
section
variable (z:Nat)
def RT:Nat->St
 | 0=>{σ:=GY [(116,.lst 2 3 (λk=>[i (UA [0,1,-3] k),i (UA [0,5,5] k)])),(117,i 3),(118,i 0)] (SJ z).σ,m:=X0,nx:=930}
 | 1=>{σ:=GY [(116,.lst 2 3 (λk=>[i (UA [0,1,-3] k),i (UA [0,5,5] k)])),(117,i 3),(118,i 1)] (SJ z).σ,m:=[(920,.row 20 1 6 (H0 wl0)),(921,.row 20 1 2 (H0 wl1)),(922,.row 20 1 1 (H0 wl2)),(923,.row 20 1 1 (H0 wl3)),(911,.row 5 1 42 (DQ rp0)),(14,.cells 104 [.ptr 14 0,.row 911])],nx:=930}
 | 2=>{σ:=GY [(116,.lst 2 3 (λk=>[i (UA [0,1,-3] k),i (UA [0,5,5] k)])),(117,i 3),(118,i 2)] (SJ z).σ,m:=[(920,.row 20 1 6 (H0 wl0)),(921,.row 20 1 3 (H0 wl1)),(922,.row 20 1 1 (H0 wl2)),(923,.row 20 1 1 (H0 wl3)),(911,.row 5 1 42 (DQ rp0)),(14,.cells 104 [.ptr 14 0,.row 911])],nx:=930}
 |_=>{σ:=GY [(116,.lst 2 3 (λk=>[i (UA [0,1,-3] k),i (UA [0,5,5] k)])),(117,i 3),(118,i 3)] (SJ z).σ,m:=X1,nx:=930}
def RG:G5->Option St
 | .exit 2=>some {σ:=GY [(116,.lst 2 3 (λk=>[i (UA [0,1,-3] k),i (UA [0,5,5] k)])),(117,i 3),(118,i 3)] (SJ z).σ,m:=X1,nx:=930}
 |_=>none
def mE:CT:= .leaf (.exit 2,(RG z (.exit 2)).getD (SJ z))
def Xb5:UG:=GJ QE (HF (RT z 0) (mE z))
abbrev WB:AV:=lst 2 3 λk=>[iI (UA [(0:Int),1,-3] k),iI (UA [(0:Int),5,5] k)]
abbrev WY:List Int:=[(0:Int),1,-3]
abbrev ZB:List Int:=[(0:Int),5,5]
theorem Zi9:PH (HY VO QV Q8 [] QE SM (RT z 0) (RT z 1) (RG z))=(let A:=([AV.x (.iface 9 (.string ({data:=List.toArray (Lib.itoa (UA WY (0:Int).toNat)) }++{data:=#[46,46] }++{data:=List.toArray (Lib.itoa (UA ZB (0:Int).toNat)) })))]);(need [UI 0 3] (need [(0:Int)<=UA WY (0:Int).toNat/\UA WY (0:Int).toNat<=1000\/(-1000:Int)<=UA WY (0:Int).toNat/\UA WY (0:Int).toNat<=1000,(-1000:Int)<=UA ZB (0:Int).toNat/\UA ZB (0:Int).toNat<=1000,4<=100] (need [32<=140737488355328,∀(i:Nat),i<1-> ∀(a:AV),a∈U4 1 A i->AV.one a=true] (need [VL ((0:Int)+1)] (need [Q7,WG,QM,Z2,Z3,Z4,Z5,WB=WB,XI,(0:Int)+1=1,6=6,GQ 6 (H0 wl0),2=2,GV 2 (GI 1 (H0 wl1) (U4 1 A)) (H0 wl1),1=1,GQ 1 (H0 wl2),1=1,GQ 1 (H0 wl3),42=42,GQ 42 (DQ rp0),WG,X3] (leaf G5.normal))))))):=by
 kernel_rfl
theorem Zi8:PH (HY VO QV Q8 [] QE SM (RT z 1) (RT z 2) (RG z))=(let A:=([AV.x (.iface 9 (.string ({data:=List.toArray (Lib.itoa (UA WY (1:Int).toNat)) }++{data:=#[46,46] }++{data:=List.toArray (Lib.itoa (UA ZB (1:Int).toNat)) })))]);(need [UI 1 3] (need [(0:Int)<=UA WY (1:Int).toNat/\UA WY (1:Int).toNat<=1000\/(-1000:Int)<=UA WY (1:Int).toNat/\UA WY (1:Int).toNat<=1000,(-1000:Int)<=UA ZB (1:Int).toNat/\UA ZB (1:Int).toNat<=1000,4<=100] (need [48<=140737488355328,∀(i:Nat),i<1-> ∀(a:AV),a∈U4 1 A i->AV.one a=true] (need [VL ((1:Int)+1)] (need [Q7,WG,QM,Z2,Z3,Z4,Z5,WB=WB,XI,(1:Int)+1=2,6=6,GQ 6 (H0 wl0),3=3,GV 3 (GI 2 (H0 wl1) (U4 1 A)) (H0 wl1),1=1,GQ 1 (H0 wl2),1=1,GQ 1 (H0 wl3),42=42,GQ 42 (DQ rp0),WG,X3] (leaf G5.normal))))))):=by
 kernel_rfl
theorem Zi7:PH (HY VO QV Q8 [] QE SM (RT z 2) (RT z 3) (RG z))=(let A:=([AV.x (.iface 9 (.string ({data:=List.toArray (Lib.itoa (UA WY (2:Int).toNat)) }++{data:=#[46,46] }++{data:=List.toArray (Lib.itoa (UA ZB (2:Int).toNat)) })))]);(need [UI 2 3] (need [(0:Int)<=UA WY (2:Int).toNat/\UA WY (2:Int).toNat<=1000\/(-1000:Int)<=UA WY (2:Int).toNat/\UA WY (2:Int).toNat<=1000,(-1000:Int)<=UA ZB (2:Int).toNat/\UA ZB (2:Int).toNat<=1000,5<=100] (need [64<=140737488355328,∀(i:Nat),i<1-> ∀(a:AV),a∈U4 1 A i->AV.one a=true] (need [VL ((2:Int)+1)] (need [Q7,WG,QM,Z2,Z3,Z4,Z5,WB=WB,XI,(2:Int)+1=3,6=6,GQ 6 (H0 wl0),4=4,GV 4 (GI 3 (H0 wl1) (U4 1 A)) (H0 wl1),1=1,GQ 1 (H0 wl2),1=1,GQ 1 (H0 wl3),42=42,GQ 42 (DQ rp0),WG,X3] (leaf G5.normal))))))):=by
 kernel_rfl
theorem Zi6:PH (HY VO QV Q8 [] QE SM (RT z 3) (RT z 3) (RG z))=(need [Q7,WG,QM,Z2,Z3,Z4,Z5,WB=WB,XI,XI,6=6,GQ 6 (H0 wl0),4=4,GQ 4 (H0 wl1),1=1,GQ 1 (H0 wl2),1=1,GQ 1 (H0 wl3),42=42,GQ 42 (DQ rp0),WG,X3] (leaf (G5.exit 2))):=by
 kernel_rfl
theorem Zj0:G6 VO (.loop SM) (Xb5 z):=by
 refine UR QE (L:=[]) (Ae yC (Ae y6 (Ae kT (Ae xG Aa)))) (Aj (Af yA (Af FD (Af RE (Af P1 Ab)))) (Ag xH (Ag kS Ac)) (Ah xA (Ah dW (U8.nil _)))) VZ U2 (X:=Nat) (RT z) (λk=>k<=3) (λk=>4-k) (λ_=>RG z) (x0:=0) (Ao _) ?_ ?_ ?_;intro k
 match k with
 | 0=>
  show Sx.okB (RT z 0)=true;kernel_rfl
 | 1=>
  show Sx.okB (RT z 1)=true;kernel_rfl
 | 2=>
  show Sx.okB (RT z 2)=true;kernel_rfl
 |k+3=>
  show Sx.okB (RT z 3)=true;kernel_rfl
 intro k y E h;unfold RG at h;split at h;cases h;kernel_rfl;cases h;intro Q hQ k hx
 match k with
 | 0=>
  refine ⟨1,?_⟩
  with_reducible refine H3 ?_
  rw [Zi9];simp only [mE,RG,VM.sat,GS] at hQ;simp only [VM.sat,UB,UH,VL,RG];exact YZ
 | 1=>
  refine ⟨2,?_⟩
  with_reducible refine H3 ?_
  rw [Zi8];simp only [mE,RG,VM.sat,GS] at hQ;simp only [VM.sat,UB,UH,VL,RG];exact YZ
 | 2=>
  refine ⟨3,?_⟩
  with_reducible refine H3 ?_
  rw [Zi7];simp only [mE,RG,VM.sat,GS] at hQ;simp only [VM.sat,UB,UH,VL,RG];exact YZ
 | 3=>
  refine ⟨3,?_⟩
  with_reducible refine H3 ?_
  rw [Zi6];simp only [mE,RG,VM.sat,GS] at hQ;simp only [VM.sat,UB,UH,VL,RG];exact YZ
 |k+4=>omega
end
def Qk9(z:Nat):St:=((some {σ:=mkS 198 [(0,.top),(5,.ro (hsL VV)),(7,.ptr 14 0),(8,.fn (.func 40) [] [.ptr 14 0]),(9,.row 920),(10,.row 921),(11,.row 922),(12,.row 923),(136,hsC VV),(137,i 1),(138,i 0)],m:=X1,nx:=930}:Option St):Option St).getD {σ:=[],m:=[],nx:=0}
noncomputable def Ql5:Code:=U9 (VS (U7 Tryz.f12) 2)
abbrev X2:H2:=[(920,.row 20 1 6 (H0 wl0)),(921,.row 20 1 4 (H0 wl1)),(922,.row 20 1 2 (H0 wl2)),(923,.row 20 1 1 (H0 wl3)),(911,.row 5 1 42 (DQ rp0)),(14,.cells 104 [.ptr 14 0,.row 911])]
section
variable (z:Nat)
def w9:Nat->St
 | 0=>{σ:=GY [(136,hsC VV),(137,i 1),(138,i 0)] (Qk9 z).σ,m:=X1,nx:=930}
 |_=>{σ:=GY [(136,hsC VV),(137,i 1),(138,i 1)] (Qk9 z).σ,m:=X2,nx:=930}
def BS:G5->Option St
 | .exit 4=>some {σ:=GY [(136,hsC VV),(137,i 1),(138,i 1)] (Qk9 z).σ,m:=X2,nx:=930}
 |_=>none
def Wx9:CT:= .leaf (.exit 4,(BS z (.exit 4)).getD (Qk9 z))
def Xb4:UG:=GJ QE (HF (w9 z 0) (Wx9 z))
abbrev YL:AV:=agg [hR 2 VV,iI VV.pl,iI VV.ph,hY 2 VV,hC 1 VV,hT 2 VV]
theorem Zi4:PH (HY VO QV Q8 [] QE Ql5 (w9 z 0) (w9 z 1) (BS z))=(need [UI 0 VV.nc] (need [[YL,agg [iI (VV.ca (0:Int).toNat),iI (VV.cb (0:Int).toNat),iI (VV.cc (0:Int).toNat),iI (VV.cd (0:Int).toNat),AV.x (.bool (VV.cv (0:Int).toNat))],iI (VV.cd (0:Int).toNat)]=[YL,agg [iI (VV.ca 0),iI (VV.cb 0),iI (VV.cc 0),iI (VV.cd 0),AV.x (.bool (VV.cv 0))],iI (VV.cd 0)]] (need [32<=140737488355328,RP 1 (U4 1 [AV.x (.iface 3 (WC))])] (need [VL ((0:Int)+1)] (need [Q7,WG,QM,Z2,Z3,Z4,Z5,VY (hC 1 VV),KV,(0:Int)+1=1,6=6,GQ 6 (H0 wl0),4=4,GQ 4 (H0 wl1),2=2,GV 2 (GI 1 (H0 wl2) (U4 1 [AV.x (.iface 3 (WC))])) (H0 wl2),1=1,GQ 1 (H0 wl3),42=42,GQ 42 (DQ rp0),WG,X3] (leaf G5.normal)))))):=by
 kernel_rfl
theorem Zi3:PH (HY VO QV Q8 [] QE Ql5 (w9 z 1) (w9 z 1) (BS z))=(need [Q7,WG,QM,Z2,Z3,Z4,Z5,VY (hC 1 VV),KV,KV,6=6,GQ 6 (H0 wl0),4=4,GQ 4 (H0 wl1),2=2,GQ 2 (H0 wl2),1=1,GQ 1 (H0 wl3),42=42,GQ 42 (DQ rp0),WG,X3] (leaf (G5.exit 4))):=by
 kernel_rfl
theorem Zi5:G6 VO (.loop Ql5) (Xb4 z):=by
 refine UR QE (L:=[]) (Ae yC (Ae y6 (Ae kT (Ae xG Aa)))) (Aj (Af yA (Af FD (Af RE (Af P1 Ab)))) (Ag xH (Ag kS Ac)) (Ah xA (Ah dW (U8.nil _)))) VZ U2 (X:=Nat) (w9 z) (λk=>k<=1) (λk=>2-k) (λ_=>BS z) (x0:=0) (Ao _) ?_ ?_ ?_;intro k
 match k with
 | 0=>
  show Sx.okB (w9 z 0)=true;kernel_rfl
 |k+1=>
  show Sx.okB (w9 z 1)=true;kernel_rfl
 intro k y E h;unfold BS at h;split at h;cases h;kernel_rfl;cases h;intro Q hQ k hx
 match k with
 | 0=>
  refine ⟨1,?_⟩
  with_reducible refine H3 ?_
  rw [Zi4];simp only [Wx9,BS,VM.sat,GS] at hQ;simp only [VM.sat,UB,UH,VL,BS];exact YZ
 | 1=>
  refine ⟨1,?_⟩
  with_reducible refine H3 ?_
  rw [Zi3];simp only [Wx9,BS,VM.sat,GS] at hQ;simp only [VM.sat,UB,UH,VL,BS];exact YZ
 |k+2=>omega
end
def MM(z:Nat):St:=((some {σ:=mkS 198 [(0,.top),(5,.ro (hsL VV)),(7,.ptr 14 0),(8,.fn (.func 40) [] [.ptr 14 0]),(9,.row 920),(10,.row 921),(11,.row 922),(12,.row 923),(162,i 4),(163,i 0)],m:=X2,nx:=930}:Option St):Option St).getD {σ:=[],m:=[],nx:=0}
noncomputable def MO:Code:=U9 (VS (U7 Tryz.f12) 3)
abbrev JN:H2:=[(920,.row 20 1 6 (H0 wl0)),(921,.row 20 1 4 (H0 wl1)),(922,.row 20 1 2 (H0 wl2)),(923,.row 20 1 5 (H0 wl3)),(911,.row 5 1 42 (DQ rp0)),(14,.cells 104 [.ptr 14 0,.row 911])]
section
variable (z:Nat)
def FO:Nat->St
 | 0=>{σ:=GY [(162,i 4),(163,i 0)] (MM z).σ,m:=X2,nx:=930}
 | 1=>{σ:=GY [(162,i 4),(163,i 1)] (MM z).σ,m:=[(920,.row 20 1 6 (H0 wl0)),(921,.row 20 1 4 (H0 wl1)),(922,.row 20 1 2 (H0 wl2)),(923,.row 20 1 2 (H0 wl3)),(911,.row 5 1 42 (DQ rp0)),(14,.cells 104 [.ptr 14 0,.row 911])],nx:=930}
 | 2=>{σ:=GY [(162,i 4),(163,i 2)] (MM z).σ,m:=[(920,.row 20 1 6 (H0 wl0)),(921,.row 20 1 4 (H0 wl1)),(922,.row 20 1 2 (H0 wl2)),(923,.row 20 1 3 (H0 wl3)),(911,.row 5 1 42 (DQ rp0)),(14,.cells 104 [.ptr 14 0,.row 911])],nx:=930}
 | 3=>{σ:=GY [(162,i 4),(163,i 3)] (MM z).σ,m:=[(920,.row 20 1 6 (H0 wl0)),(921,.row 20 1 4 (H0 wl1)),(922,.row 20 1 2 (H0 wl2)),(923,.row 20 1 4 (H0 wl3)),(911,.row 5 1 42 (DQ rp0)),(14,.cells 104 [.ptr 14 0,.row 911])],nx:=930}
 |_=>{σ:=GY [(162,i 4),(163,i 4)] (MM z).σ,m:=JN,nx:=930}
def FI:G5->Option St
 | .exit 6=>some {σ:=GY [(162,i 4),(163,i 4)] (MM z).σ,m:=JN,nx:=930}
 |_=>none
def S5:CT:= .leaf (.exit 6,(FI z (.exit 6)).getD (MM z))
def Xb3:UG:=GJ QE (HF (FO z 0) (S5 z))
abbrev ZT:AV:=agg [iI 4,iI 10,hT 2 VV]
abbrev ZU:List Int:=[(4:Int),2,4,0]
abbrev YD:Prop:=iI 100=iI 100
theorem Zi1:PH (HY VO QV Q8 [] QE MO (FO z 0) (FO z 1) (FI z))=(let A:=([AV.x (.iface 3 (.int .i64 (UA ZU (0:Int).toNat)))]);(need [ZT=ZT,YD,(0:Int)<=0/\(0:Int)<=3] (need [32<=140737488355328,∀(i:Nat),i<1-> ∀(a:AV),a∈U4 1 A i->AV.one a=true] (need [VL ((0:Int)+1)] (need [Q7,WG,QM,Z2,Z3,Z4,Z5,QY,(0:Int)+1=1,6=6,GQ 6 (H0 wl0),4=4,GQ 4 (H0 wl1),2=2,GQ 2 (H0 wl2),2=2,GV 2 (GI 1 (H0 wl3) (U4 1 A)) (H0 wl3),42=42,GQ 42 (DQ rp0),WG,X3] (leaf G5.normal)))))):=by
 kernel_rfl
theorem Zi0:PH (HY VO QV Q8 [] QE MO (FO z 1) (FO z 2) (FI z))=(let A:=([AV.x (.iface 3 (.int .i64 (UA ZU (1:Int).toNat)))]);(need [ZT=ZT,YD,(0:Int)<=1/\(1:Int)<=3] (need [48<=140737488355328,∀(i:Nat),i<1-> ∀(a:AV),a∈U4 1 A i->AV.one a=true] (need [VL ((1:Int)+1)] (need [Q7,WG,QM,Z2,Z3,Z4,Z5,QY,(1:Int)+1=2,6=6,GQ 6 (H0 wl0),4=4,GQ 4 (H0 wl1),2=2,GQ 2 (H0 wl2),3=3,GV 3 (GI 2 (H0 wl3) (U4 1 A)) (H0 wl3),42=42,GQ 42 (DQ rp0),WG,X3] (leaf G5.normal)))))):=by
 kernel_rfl
theorem Zh9:PH (HY VO QV Q8 [] QE MO (FO z 2) (FO z 3) (FI z))=(let A:=([AV.x (.iface 3 (.int .i64 (UA ZU (2:Int).toNat)))]);(need [ZT=ZT,YD,(0:Int)<=2/\(2:Int)<=3] (need [64<=140737488355328,∀(i:Nat),i<1-> ∀(a:AV),a∈U4 1 A i->AV.one a=true] (need [VL ((2:Int)+1)] (need [Q7,WG,QM,Z2,Z3,Z4,Z5,QY,(2:Int)+1=3,6=6,GQ 6 (H0 wl0),4=4,GQ 4 (H0 wl1),2=2,GQ 2 (H0 wl2),4=4,GV 4 (GI 3 (H0 wl3) (U4 1 A)) (H0 wl3),42=42,GQ 42 (DQ rp0),WG,X3] (leaf G5.normal)))))):=by
 kernel_rfl
theorem Zh8:PH (HY VO QV Q8 [] QE MO (FO z 3) (FO z 4) (FI z))=(let A:=([AV.x (.iface 3 (.int .i64 (UA ZU (3:Int).toNat)))]);(need [ZT=ZT,YD,(0:Int)<=3/\(3:Int)<=3] (need [80<=140737488355328,∀(i:Nat),i<1-> ∀(a:AV),a∈U4 1 A i->AV.one a=true] (need [VL ((3:Int)+1)] (need [Q7,WG,QM,Z2,Z3,Z4,Z5,QY,(3:Int)+1=4,6=6,GQ 6 (H0 wl0),4=4,GQ 4 (H0 wl1),2=2,GQ 2 (H0 wl2),5=5,GV 5 (GI 4 (H0 wl3) (U4 1 A)) (H0 wl3),42=42,GQ 42 (DQ rp0),WG,X3] (leaf G5.normal)))))):=by
 kernel_rfl
theorem Zh7:PH (HY VO QV Q8 [] QE MO (FO z 4) (FO z 4) (FI z))=(need [Q7,WG,QM,Z2,Z3,Z4,Z5,QY,QY,6=6,GQ 6 (H0 wl0),4=4,GQ 4 (H0 wl1),2=2,GQ 2 (H0 wl2),5=5,GQ 5 (H0 wl3),42=42,GQ 42 (DQ rp0),WG,X3] (leaf (G5.exit 6))):=by
 kernel_rfl
theorem Zi2:G6 VO (.loop MO) (Xb3 z):=by
 refine UR QE (L:=[]) (Ae yC (Ae y6 (Ae kT (Ae xG Aa)))) (Aj (Af yA (Af FD (Af RE (Af P1 Ab)))) (Ag xH (Ag kS Ac)) (Ah xA (Ah dW (U8.nil _)))) VZ U2 (X:=Nat) (FO z) (λk=>k<=4) (λk=>5-k) (λ_=>FI z) (x0:=0) (Ao _) ?_ ?_ ?_;intro k
 match k with
 | 0=>
  show Sx.okB (FO z 0)=true;kernel_rfl
 | 1=>
  show Sx.okB (FO z 1)=true;kernel_rfl
 | 2=>
  show Sx.okB (FO z 2)=true;kernel_rfl
 | 3=>
  show Sx.okB (FO z 3)=true;kernel_rfl
 |k+4=>
  show Sx.okB (FO z 4)=true;kernel_rfl
 intro k y E h;unfold FI at h;split at h;cases h;kernel_rfl;cases h;intro Q hQ k hx
 match k with
 | 0=>
  refine ⟨1,?_⟩
  with_reducible refine H3 ?_
  rw [Zi1];simp only [S5,FI,VM.sat,GS] at hQ;simp only [VM.sat,UB,UH,VL,FI];exact YZ
 | 1=>
  refine ⟨2,?_⟩
  with_reducible refine H3 ?_
  rw [Zi0];simp only [S5,FI,VM.sat,GS] at hQ;simp only [VM.sat,UB,UH,VL,FI];exact YZ
 | 2=>
  refine ⟨3,?_⟩
  with_reducible refine H3 ?_
  rw [Zh9];simp only [S5,FI,VM.sat,GS] at hQ;simp only [VM.sat,UB,UH,VL,FI];exact YZ
 | 3=>
  refine ⟨4,?_⟩
  with_reducible refine H3 ?_
  rw [Zh8];simp only [S5,FI,VM.sat,GS] at hQ;simp only [VM.sat,UB,UH,VL,FI];exact YZ
 | 4=>
  refine ⟨4,?_⟩
  with_reducible refine H3 ?_
  rw [Zh7];simp only [S5,FI,VM.sat,GS] at hQ;simp only [VM.sat,UB,UH,VL,FI];exact YZ
 |k+5=>omega
end
abbrev JQ:H2:=[(925,.row 105 1 4 (U4 1 [.lst 1 6 (H0 wl0),.lst 1 4 (H0 wl1),.lst 1 2 (H0 wl2),.lst 1 5 (H0 wl3)])),(911,.row 5 1 42 (DQ rp0)),(14,.cells 104 [.ptr 14 0,.row 911])]
def ML(z:Nat):St:=((some {σ:=mkS 198 [(0,.top),(5,.ro (hsL VV)),(7,.ptr 14 0),(8,.fn (.func 40) [] [.ptr 14 0]),(187,.row 925),(188,i 4),(189,i 0)],m:=JQ,nx:=930}:Option St):Option St).getD {σ:=[],m:=[],nx:=0}
noncomputable def MN:Code:=U9 (VS (U7 Tryz.f12) 4)
abbrev JP:H2:=[(925,.row 105 1 4 (U4 1 [.lst 1 6 (H0 wl0),.lst 1 4 (H0 wl1),.lst 1 2 (H0 wl2),.lst 1 5 (H0 wl3)])),(911,.row 5 1 136 (DQ rp4)),(14,.cells 104 [.ptr 14 0,.row 911])]
section
variable (z:Nat)
def FN:Nat->St
 | 0=>{σ:=GY [(187,.row 925),(188,i 4),(189,i 0)] (ML z).σ,m:=JQ,nx:=930}
 | 1=>{σ:=GY [(187,.row 925),(188,i 4),(189,i 1)] (ML z).σ,m:=[(925,.row 105 1 4 (U4 1 [.lst 1 6 (H0 wl0),.lst 1 4 (H0 wl1),.lst 1 2 (H0 wl2),.lst 1 5 (H0 wl3)])),(911,.row 5 1 91 (DQ rp1)),(14,.cells 104 [.ptr 14 0,.row 911])],nx:=930}
 | 2=>{σ:=GY [(187,.row 925),(188,i 4),(189,i 2)] (ML z).σ,m:=[(925,.row 105 1 4 (U4 1 [.lst 1 6 (H0 wl0),.lst 1 4 (H0 wl1),.lst 1 2 (H0 wl2),.lst 1 5 (H0 wl3)])),(911,.row 5 1 115 (DQ rp2)),(14,.cells 104 [.ptr 14 0,.row 911])],nx:=930}
 | 3=>{σ:=GY [(187,.row 925),(188,i 4),(189,i 3)] (ML z).σ,m:=[(925,.row 105 1 4 (U4 1 [.lst 1 6 (H0 wl0),.lst 1 4 (H0 wl1),.lst 1 2 (H0 wl2),.lst 1 5 (H0 wl3)])),(911,.row 5 1 123 (DQ rp3)),(14,.cells 104 [.ptr 14 0,.row 911])],nx:=930}
 |_=>{σ:=GY [(187,.row 925),(188,i 4),(189,i 4)] (ML z).σ,m:=JP,nx:=930}
def FH:G5->Option St
 | .exit 8=>some {σ:=GY [(187,.row 925),(188,i 4),(189,i 4)] (ML z).σ,m:=JP,nx:=930}
 |_=>none
def S4:CT:= .leaf (.exit 8,(FH z (.exit 8)).getD (ML z))
def Xb2:UG:=GJ [(.slot 187,925,105,1),(.cell 14 1,911,5,1)] (HF (FN z 0) (S4 z))
abbrev WT:List AV:=[AV.x (.string {data:=#[(48:UInt8),(46:UInt8),(46:UInt8),(48:UInt8)] })]
abbrev XG:List AV:=[AV.x (.string {data:=#[(49:UInt8),(48:UInt8),(48:UInt8),(48:UInt8),(46:UInt8),(46:UInt8),(49:UInt8),(48:UInt8),(48:UInt8),(48:UInt8)] })]
abbrev XT:List AV:=[AV.x (.string {data:=#[(50:UInt8),(48:UInt8),(48:UInt8),(46:UInt8),(46:UInt8),(51:UInt8),(48:UInt8),(48:UInt8)] })]
abbrev XU:List AV:=[AV.x (.string {data:=#[(52:UInt8),(49:UInt8),(48:UInt8),(46:UInt8),(46:UInt8),(53:UInt8),(49:UInt8),(48:UInt8)] })]
abbrev XV:List AV:=[AV.x (.string {data:=#[(55:UInt8),(48:UInt8),(48:UInt8),(46:UInt8),(46:UInt8),(56:UInt8),(48:UInt8),(48:UInt8)] })]
abbrev Z9:Value:=Value.string {data:=#[(109:UInt8),(97:UInt8),(114:UInt8),(107:UInt8),(115:UInt8)] }
abbrev JD:List (Pl×Nat×TypeId×Nat):=[(.slot 187,925,105,1),(.cell 14 1,911,5,1)]
abbrev Y5:Prop:=AV.row 925=AV.row 925
theorem Zh5:PH (HY VO QV Q8 [] JD MN (FN z 0) (FN z 1) (FH z))=(let A:=([lst 1 6 λk=>[Option.rec (top) (λval=>(λval=>(λx=>x) val) val) wl0[k]?],lst 1 4 λk=>[Option.rec (top) (λval=>(λval=>(λx=>x) val) val) wl1[k]?],lst 1 2 λk=>[Option.rec (top) (λval=>(λval=>(λx=>x) val) val) wl2[k]?],lst 1 5 λk=>[Option.rec (top) (λval=>(λval=>(λx=>x) val) val) wl3[k]?]]);let z1:=(GI 5 (GI 4 (GI 3 (GI 2 (GI 1 (GI 0 (λx=>[]) (U4 1 [AV.x (Z9)])) (U4 1 WT)) (U4 1 XT)) (U4 1 XU)) (U4 1 XV)) (U4 1 XG));(need [UI 0 4] (need [(0:Int).toNat<4] (need [UI 0 6] (need [16<=140737488355328,RP 1 (U4 1 [AV.x (Z9)])] (need [VL ((0:Int)+1)] (need [(0:Int)<=0+1/\(0:Int)+1<((6:Nat):Int)] (need [32<=140737488355328,∀(i:Nat),i<1-> ∀(a:AV),a∈U4 1 WT i->AV.one a=true] (need [VL ((0:Int)+1+1)] (need [(0:Int)<=0+1+1/\(0:Int)+1+1<((6:Nat):Int)] (need [48<=140737488355328,∀(i:Nat),i<1-> ∀(a:AV),a∈U4 1 XT i->AV.one a=true] (need [VL ((0:Int)+1+1+1)] (need [(0:Int)<=0+1+1+1/\(0:Int)+1+1+1<((6:Nat):Int)] (need [64<=140737488355328,∀(i:Nat),i<1-> ∀(a:AV),a∈U4 1 XU i->AV.one a=true] (need [VL ((0:Int)+1+1+1+1)] (need [(0:Int)<=0+1+1+1+1/\(0:Int)+1+1+1+1<((6:Nat):Int)] (need [80<=140737488355328,∀(i:Nat),i<1-> ∀(a:AV),a∈U4 1 XV i->AV.one a=true] (need [VL ((0:Int)+1+1+1+1+1)] (need [(0:Int)<=0+1+1+1+1+1/\(0:Int)+1+1+1+1+1<((6:Nat):Int)] (need [96<=140737488355328,∀(i:Nat),i<1-> ∀(a:AV),a∈U4 1 XG i->AV.one a=true] (need [VL ((0:Int)+1+1+1+1+1+1)] (need [6<=100000,kA 6 z1,ByteArray.size (jnB 6 z1 {data:=#[32] })<=140737488355328] (need [((49:Nat):Int)<=9223372036854775807] (need [91<=140737488355328] (need [VL ((0:Int)+1)] (need [Q7,WG,QM,Y5,QY,(0:Int)+1=1,4=4,GQ 4 (U4 1 A),91=91,GV 91 (GI 42 (DQ rp0) (DQ (jnB 6 z1 {data:=#[32] }++{data:=#[10] }))) (DQ rp1),WG,X3] (leaf G5.normal))))))))))))))))))))))))))):=by
 kernel_rfl
abbrev XH:Value:=Value.string {data:=#[(111:UInt8),(102:UInt8),(102:UInt8),(115:UInt8),(101:UInt8),(116:UInt8),(115:UInt8)] }
abbrev ZP:List AV:=[AV.x (.string {data:=#[(45:UInt8),(51:UInt8),(46:UInt8),(46:UInt8),(53:UInt8)] })]
abbrev J1:List AV:=[AV.x (.string {data:=#[(49:UInt8),(46:UInt8),(46:UInt8),(53:UInt8)] })]
theorem Zh4:PH (HY VO QV Q8 [] JD MN (FN z 1) (FN z 2) (FH z))=(let A:=([lst 1 6 λk=>[Option.rec (top) (λval=>(λval=>(λx=>x) val) val) wl0[k]?],lst 1 4 λk=>[Option.rec (top) (λval=>(λval=>(λx=>x) val) val) wl1[k]?],lst 1 2 λk=>[Option.rec (top) (λval=>(λval=>(λx=>x) val) val) wl2[k]?],lst 1 5 λk=>[Option.rec (top) (λval=>(λval=>(λx=>x) val) val) wl3[k]?]]);let z1:=(GI 3 (GI 2 (GI 1 (GI 0 (λx=>[]) (U4 1 [AV.x (XH)])) (U4 1 WT)) (U4 1 J1)) (U4 1 ZP));(need [UI 1 4] (need [(1:Int).toNat<4] (need [UI 0 4] (need [16<=140737488355328,RP 1 (U4 1 [AV.x (XH)])] (need [VL ((0:Int)+1)] (need [(0:Int)<=0+1/\(0:Int)+1<((4:Nat):Int)] (need [32<=140737488355328,∀(i:Nat),i<1-> ∀(a:AV),a∈U4 1 WT i->AV.one a=true] (need [VL ((0:Int)+1+1)] (need [(0:Int)<=0+1+1/\(0:Int)+1+1<((4:Nat):Int)] (need [48<=140737488355328,∀(i:Nat),i<1-> ∀(a:AV),a∈U4 1 J1 i->AV.one a=true] (need [VL ((0:Int)+1+1+1)] (need [(0:Int)<=0+1+1+1/\(0:Int)+1+1+1<((4:Nat):Int)] (need [64<=140737488355328,∀(i:Nat),i<1-> ∀(a:AV),a∈U4 1 ZP i->AV.one a=true] (need [VL ((0:Int)+1+1+1+1)] (need [4<=100000,kA 4 z1,ByteArray.size (jnB 4 z1 {data:=#[32] })<=140737488355328] (need [((24:Nat):Int)<=9223372036854775807] (need [115<=140737488355328] (need [VL ((1:Int)+1)] (need [Q7,WG,QM,Y5,QY,(1:Int)+1=2,4=4,GQ 4 (U4 1 A),115=115,GV 115 (GI 91 (DQ rp1) (DQ (jnB 4 z1 {data:=#[32] }++{data:=#[10] }))) (DQ rp2),WG,X3] (leaf G5.normal))))))))))))))))))))):=by
 kernel_rfl
abbrev XP:List AV:=[AV.x (.string {data:=List.toArray (Lib.itoa (0:Int)) })]
abbrev ZA:Value:=Value.string {data:=#[(115:UInt8),(116:UInt8),(97:UInt8),(110:UInt8),(100:UInt8)] }
theorem Zh3:PH (HY VO QV Q8 [] JD MN (FN z 2) (FN z 3) (FH z))=(let A:=([lst 1 6 λk=>[Option.rec (top) (λval=>(λval=>(λx=>x) val) val) wl0[k]?],lst 1 4 λk=>[Option.rec (top) (λval=>(λval=>(λx=>x) val) val) wl1[k]?],lst 1 2 λk=>[Option.rec (top) (λval=>(λval=>(λx=>x) val) val) wl2[k]?],lst 1 5 λk=>[Option.rec (top) (λval=>(λval=>(λx=>x) val) val) wl3[k]?]]);let z1:=(GI 1 (GI 0 (λx=>[]) (U4 1 [AV.x (ZA)])) (U4 1 XP));(need [UI 2 4] (need [(2:Int).toNat<4] (need [UI 0 2] (need [16<=140737488355328,RP 1 (U4 1 [AV.x (ZA)])] (need [VL ((0:Int)+1)] (need [(0:Int)<=0+1/\(0:Int)+1<((2:Nat):Int)] (need [VL (0:Int)] (need [32<=140737488355328,∀(i:Nat),i<1-> ∀(a:AV),a∈U4 1 XP i->AV.one a=true] (need [VL ((0:Int)+1+1)] (need [2<=100000,kA 2 z1,ByteArray.size (jnB 2 z1 {data:=#[32] })<=140737488355328] (need [((8:Nat):Int)<=9223372036854775807] (need [123<=140737488355328] (need [VL ((2:Int)+1)] (need [Q7,WG,QM,Y5,QY,(2:Int)+1=3,4=4,GQ 4 (U4 1 A),123=123,GV 123 (GI 115 (DQ rp2) (DQ (jnB 2 z1 {data:=#[32] }++{data:=#[10] }))) (DQ rp3),WG,X3] (leaf G5.normal)))))))))))))))):=by
 kernel_rfl
abbrev XQ:List AV:=[AV.x (.string {data:=List.toArray (Lib.itoa (4:Int)) })]
abbrev ZJ:Value:=Value.string {data:=#[(104:UInt8),(111:UInt8),(108:UInt8),(100:UInt8)] }
abbrev JK:List AV:=[AV.x (.string {data:=List.toArray (Lib.itoa (2:Int)) })]
theorem Zh2:PH (HY VO QV Q8 [] JD MN (FN z 3) (FN z 4) (FH z))=(let A:=([lst 1 6 λk=>[Option.rec (top) (λval=>(λval=>(λx=>x) val) val) wl0[k]?],lst 1 4 λk=>[Option.rec (top) (λval=>(λval=>(λx=>x) val) val) wl1[k]?],lst 1 2 λk=>[Option.rec (top) (λval=>(λval=>(λx=>x) val) val) wl2[k]?],lst 1 5 λk=>[Option.rec (top) (λval=>(λval=>(λx=>x) val) val) wl3[k]?]]);let z1:=(GI 4 (GI 3 (GI 2 (GI 1 (GI 0 (λx=>[]) (U4 1 [AV.x (ZJ)])) (U4 1 XQ)) (U4 1 JK)) (U4 1 XQ)) (U4 1 XP));(need [UI 3 4] (need [(3:Int).toNat<4] (need [UI 0 5] (need [16<=140737488355328,RP 1 (U4 1 [AV.x (ZJ)])] (need [VL ((0:Int)+1)] (need [(0:Int)<=0+1/\(0:Int)+1<((5:Nat):Int)] (need [VL (4:Int)] (need [32<=140737488355328,∀(i:Nat),i<1-> ∀(a:AV),a∈U4 1 XQ i->AV.one a=true] (need [VL ((0:Int)+1+1)] (need [(0:Int)<=0+1+1/\(0:Int)+1+1<((5:Nat):Int)] (need [VL (2:Int)] (need [48<=140737488355328,∀(i:Nat),i<1-> ∀(a:AV),a∈U4 1 JK i->AV.one a=true] (need [VL ((0:Int)+1+1+1)] (need [(0:Int)<=0+1+1+1/\(0:Int)+1+1+1<((5:Nat):Int)] (need [VL (4:Int)] (need [64<=140737488355328,∀(i:Nat),i<1-> ∀(a:AV),a∈U4 1 XQ i->AV.one a=true] (need [VL ((0:Int)+1+1+1+1)] (need [(0:Int)<=0+1+1+1+1/\(0:Int)+1+1+1+1<((5:Nat):Int)] (need [VL (0:Int)] (need [80<=140737488355328,∀(i:Nat),i<1-> ∀(a:AV),a∈U4 1 XP i->AV.one a=true] (need [VL ((0:Int)+1+1+1+1+1)] (need [5<=100000,kA 5 z1,ByteArray.size (jnB 5 z1 {data:=#[32] })<=140737488355328] (need [((13:Nat):Int)<=9223372036854775807] (need [136<=140737488355328] (need [VL ((3:Int)+1)] (need [Q7,WG,QM,Y5,QY,(3:Int)+1=4,4=4,GQ 4 (U4 1 A),136=136,GV 136 (GI 123 (DQ rp3) (DQ (jnB 5 z1 {data:=#[32] }++{data:=#[10] }))) (DQ rp4),WG,X3] (leaf G5.normal)))))))))))))))))))))))))))):=by
 kernel_rfl
theorem Zh1:PH (HY VO QV Q8 [] JD MN (FN z 4) (FN z 4) (FH z))=(let A:=([lst 1 6 λk=>[Option.rec (top) (λval=>(λval=>(λx=>x) val) val) wl0[k]?],lst 1 4 λk=>[Option.rec (top) (λval=>(λval=>(λx=>x) val) val) wl1[k]?],lst 1 2 λk=>[Option.rec (top) (λval=>(λval=>(λx=>x) val) val) wl2[k]?],lst 1 5 λk=>[Option.rec (top) (λval=>(λval=>(λx=>x) val) val) wl3[k]?]]);(need [Q7,WG,QM,Y5,QY,QY,4=4,GQ 4 (U4 1 A),136=136,GQ 136 (DQ rp4),WG,X3] (leaf (G5.exit 8)))):=by
 kernel_rfl
theorem Zh6:G6 VO (.loop MN) (Xb2 z):=by
 refine UR JD (L:=[]) (Ae yC (Ae y6 (Ae kT (Ae xG Aa)))) (Aj (Af yA (Af FD (Af RE (Af P1 Ab)))) (Ag xH (Ag kS Ac)) (Ah xA (Ah dW (U8.nil _)))) VZ U2 (X:=Nat) (FN z) (λk=>k<=4) (λk=>5-k) (λ_=>FH z) (x0:=0) (Ao _) ?_ ?_ ?_;intro k
 match k with
 | 0=>
  show Sx.okB (FN z 0)=true;kernel_rfl
 | 1=>
  show Sx.okB (FN z 1)=true;kernel_rfl
 | 2=>
  show Sx.okB (FN z 2)=true;kernel_rfl
 | 3=>
  show Sx.okB (FN z 3)=true;kernel_rfl
 |k+4=>
  show Sx.okB (FN z 4)=true;kernel_rfl
 intro k y E h;unfold FH at h;split at h;cases h;kernel_rfl;cases h;intro Q hQ k hx
 match k with
 | 0=>
  refine ⟨1,?_⟩
  with_reducible refine H3 ?_
  rw [Zh5];simp only [S4,FH,VM.sat,GS] at hQ;simp only [VM.sat,UB,UH,VL,FH];exact YZ
 | 1=>
  refine ⟨2,?_⟩
  with_reducible refine H3 ?_
  rw [Zh4];simp only [S4,FH,VM.sat,GS] at hQ;simp only [VM.sat,UB,UH,VL,FH];exact YZ
 | 2=>
  refine ⟨3,?_⟩
  with_reducible refine H3 ?_
  rw [Zh3];simp only [S4,FH,VM.sat,GS] at hQ;simp only [VM.sat,UB,UH,VL,FH];exact YZ
 | 3=>
  refine ⟨4,?_⟩
  with_reducible refine H3 ?_
  rw [Zh2];simp only [S4,FH,VM.sat,GS] at hQ;simp only [VM.sat,UB,UH,VL,FH];exact YZ
 | 4=>
  refine ⟨4,?_⟩
  with_reducible refine H3 ?_
  rw [Zh1];simp only [S4,FH,VM.sat,GS] at hQ;simp only [VM.sat,UB,UH,VL,FH];exact YZ
 |k+5=>omega
end
theorem vY{S:Code->UG->Prop}{c:Code}{s0 s1 s2 s3 s4:UG}(h0: ∀cj,VS c 0=some cj->S cj s0)(h1: ∀cj,VS c 1=some cj->S cj s1)(h2: ∀cj,VS c 2=some cj->S cj s2)(h3: ∀cj,VS c 3=some cj->S cj s3)(h4: ∀cj,VS c 4=some cj->S cj s4):
  ∀j cj,VS c j=some cj-> ∀sp,[s0,s1,s2,s3,s4][j]? =some sp->S cj sp:=by
 intro j cj hj sp hsp
 match j with
 | 0=>simp at hsp;subst hsp;exact h0 cj hj
 | 1=>simp at hsp;subst hsp;exact h1 cj hj
 | 2=>simp at hsp;subst hsp;exact h2 cj hj
 | 3=>simp at hsp;subst hsp;exact h3 cj hj
 | 4=>simp at hsp;subst hsp;exact h4 cj hj
 |j+5=>simp at hsp
theorem Zr6(B:ByteArray):bsO B.size (DQ B)=B:=by
 unfold bsO;apply ByteArray.ext;apply Array.ext;show ((List.range B.size).map _).toArray.size=B.data.size;rw [List.size_toArray,Bm,List.length_range];rfl;intro j h1 h2;have h3:j<B.data.size:=h2;simp [DQ,byO,byN,P2,Array.getElem?_eq_getElem h3]
abbrev YR:H2:=[(911,.row 5 1 42 (DQ rp0)),(14,.cells 104 [.ptr 14 0,.row 911])]
def nC:St:={σ:=mkS 198 [(5,.ro (hsL VV)),(7,.ptr 14 0),(8,.fn (.func 40) [] [.ptr 14 0]),(9,.lst 1 6 (H0 wl0)),(10,.lst 1 4 (H0 wl1)),(11,.lst 1 2 (H0 wl2)),(12,.lst 1 5 (H0 wl3))],m:=YR,nx:=930}
def nD:St:={σ:=mkS 198 [(0,.top),(5,.ro (hsL VV)),(7,.ptr 14 0),(8,.fn (.func 40) [] [.ptr 14 0])],m:=YR,nx:=930}
abbrev WN:List AV:=[lst 1 11 λk=>[HB (UM U6 k)]]
abbrev WS:List AV:=[AV.x (.string {data:=#[(99:UInt8),(101:UInt8),(114:UInt8),(116:UInt8),(105:UInt8),(102:UInt8),(105:UInt8),(99:UInt8),(97:UInt8),(116:UInt8),(101:UInt8),(115:UInt8)] })]
abbrev WZ:List AV:=[agg [iI 4,iI 100,iI 20,iI 30,hR 2 VV,lst 2 3 λk=>[iI (tbP k),iI (tbQ k)],iI VV.pl,iI VV.ph,iI 1,iI 3],iI 0]
abbrev XN:List AV:=[AV.x (.string {data:=#[(114:UInt8),(101:UInt8),(97:UInt8),(100:UInt8),(105:UInt8),(110:UInt8),(103:UInt8),(115:UInt8)] })]
abbrev ZN:List AV:=[AV.x (.string {data:=#[(115:UInt8),(97:UInt8),(108:UInt8),(101:UInt8),(115:UInt8)] })]
abbrev ZO:List AV:=[AV.x (.string {data:=#[(98:UInt8),(97:UInt8),(116:UInt8),(104:UInt8),(115:UInt8)] })]
theorem lA:VX VO 12 [lns 11 (UM U6)] (.tup [.x (.string Zj8),i 0]):=by
 have hG:VK VO [(35,tD),(19,tA),(38,t9),(45,AK)]:=(Ae yC (Ae y6 (Ae kT (Ae xG Aa))));have hX: ∀cx,VW VO Q8 cx:=(Aj (Af yA (Af FD (Af RE (Af P1 Ab)))) (Ag xH (Ag kS Ac)) (Ah xA (Ah dW (U8.nil _))));have GR:Tryz.prog.follows .mixedOrders=true:=VZ
 refine SU (L:=[Xb6 0,Xb5 0,Xb4 0,Xb3 0,Xb2 0]) Tryz.func12 (UU Tryz.f12) (λcx=>(hU (N:=[(.cell 14 1,911,5,1)]) (s2:=nD) hG (hX cx) GR (hU (N:=[(.slot 9,0,0,0),(.slot 10,0,0,0),(.slot 11,0,0,0),(.slot 12,0,0,0)]) (s2:=nC) hG (hX cx) GR (lR hG (hX cx) GR) VU 7) VU 6)) (vY (lpE (b:= .loop rR) VU<|(Zj7 0).N) (lpE (b:= .loop SM) VU<|(Zj0 0).N) (lpE (b:= .loop Ql5) VU<|(Zi5 0).N) (lpE (b:= .loop MO) VU<|(Zi2 0).N) (lpE (b:= .loop MN) VU<|(Zh6 0).N)) (t:=let z2:=([AV.x (.string {data:=List.toArray (Lib.itoa (↑VV.nr:Int)) })]);let z3:=([AV.x (.string {data:=List.toArray (Lib.itoa (↑VV.nb:Int)) })]);let z4:=([AV.x (.string {data:=List.toArray (Lib.itoa (↑VV.nc:Int)) })]);let z5:=([AV.x (.string {data:=List.toArray (Lib.itoa (↑VV.ns:Int)) })]);let A:=(GI 7 (GI 6 (GI 5 (GI 4 (GI 3 (GI 2 (GI 1 (GI 0 (λx=>[]) (U4 1 XN)) (U4 1 z2)) (U4 1 ZO)) (U4 1 z3)) (U4 1 WS)) (U4 1 z4)) (U4 1 ZN)) (U4 1 z5));let z1:=([lst 1 6 λk=>[Option.rec (top) (λval=>(λval=>(λx=>x) val) val) wl0[k]?],lst 1 4 λk=>[Option.rec (top) (λval=>(λval=>(λx=>x) val) val) wl1[k]?],lst 1 2 λk=>[Option.rec (top) (λval=>(λval=>(λx=>x) val) val) wl2[k]?],lst 1 5 λk=>[Option.rec (top) (λval=>(λval=>(λx=>x) val) val) wl3[k]?]]);(need [WN=WN] (branch ((0:Int) != 0) (leaf (RV.tup [RV.x (.string {data:=#[] }),RV.x (WC)])) (need [WN=WN] (need [UI 0 8] (need [(0:Int).toNat<8] (need [16<=140737488355328,∀(i:Nat),i<1-> ∀(a:AV),a∈U4 1 XN i->AV.one a=true] (need [VL ((0:Int)+1)] (need [(0:Int)<=0+1/\(0:Int)+1<((8:Nat):Int)] (need [((0:Int)+1).toNat<8] (need [VL (↑VV.nr:Int)] (need [32<=140737488355328,∀(i:Nat),i<1-> ∀(a:AV),a∈U4 1 z2 i->AV.one a=true] (need [VL ((0:Int)+1+1)] (need [(0:Int)<=0+1+1/\(0:Int)+1+1<((8:Nat):Int)] (need [((0:Int)+1+1).toNat<8] (need [48<=140737488355328,∀(i:Nat),i<1-> ∀(a:AV),a∈U4 1 ZO i->AV.one a=true] (need [VL ((0:Int)+1+1+1)] (need [(0:Int)<=0+1+1+1/\(0:Int)+1+1+1<((8:Nat):Int)] (need [((0:Int)+1+1+1).toNat<8] (need [VL (↑VV.nb:Int)] (need [64<=140737488355328,∀(i:Nat),i<1-> ∀(a:AV),a∈U4 1 z3 i->AV.one a=true] (need [VL ((0:Int)+1+1+1+1)] (need [(0:Int)<=0+1+1+1+1/\(0:Int)+1+1+1+1<((8:Nat):Int)] (need [((0:Int)+1+1+1+1).toNat<8] (need [80<=140737488355328,∀(i:Nat),i<1-> ∀(a:AV),a∈U4 1 WS i->AV.one a=true] (need [VL ((0:Int)+1+1+1+1+1)] (need [(0:Int)<=0+1+1+1+1+1/\(0:Int)+1+1+1+1+1<((8:Nat):Int)] (need [((0:Int)+1+1+1+1+1).toNat<8] (need [VL (↑VV.nc:Int)] (need [96<=140737488355328,∀(i:Nat),i<1-> ∀(a:AV),a∈U4 1 z4 i->AV.one a=true] (need [VL ((0:Int)+1+1+1+1+1+1)] (need [(0:Int)<=0+1+1+1+1+1+1/\(0:Int)+1+1+1+1+1+1<((8:Nat):Int)] (need [((0:Int)+1+1+1+1+1+1).toNat<8] (need [112<=140737488355328,∀(i:Nat),i<1-> ∀(a:AV),a∈U4 1 ZN i->AV.one a=true] (need [VL ((0:Int)+1+1+1+1+1+1+1)] (need [(0:Int)<=0+1+1+1+1+1+1+1/\(0:Int)+1+1+1+1+1+1+1<((8:Nat):Int)] (need [((0:Int)+1+1+1+1+1+1+1).toNat<8] (need [VL (↑VV.ns:Int)] (need [128<=140737488355328,∀(i:Nat),i<1-> ∀(a:AV),a∈U4 1 z5 i->AV.one a=true] (need [VL ((0:Int)+1+1+1+1+1+1+1+1)] (need [8<=100000,kA 8 A,ByteArray.size (jnB 8 A {data:=#[32] })<=140737488355328] (need [((42:Nat):Int)<=9223372036854775807] (need [42<=140737488355328] (need [Q7,WG,QM,42=42,GV 42 (GI 0 (λx=>[]) (DQ (jnB 8 A {data:=#[32] }++{data:=#[10] }))) (DQ rp0),WG,X3] (need [WZ=WZ] (need [Q7,WG,QM,Z2,Z3,Z4,Z5,WV=WV,((5:Nat):Int)=5,QN,1=1,GV 1 (U4 1 [AV.x (.iface 9 (Z9))]) (H0 wl0),1=1,GV 1 (U4 1 [AV.x (.iface 9 (XH))]) (H0 wl1),1=1,GV 1 (U4 1 [AV.x (.iface 9 (ZA))]) (H0 wl2),1=1,GV 1 (U4 1 [AV.x (.iface 9 (ZJ))]) (H0 wl3),42=42,GQ 42 (DQ rp0),WG,X3] (need [VY ([agg [lst 2 3 λk=>[iI (oL k),iI (oH k)],iI 1,hY 2 VV]])] (need [Q7,WG,QM,Z2,Z3,Z4,Z5,WB=WB,((3:Nat):Int)=3,QN,6=6,GQ 6 (H0 wl0),1=1,GQ 1 (H0 wl1),1=1,GQ 1 (H0 wl2),1=1,GQ 1 (H0 wl3),42=42,GQ 42 (DQ rp0),WG,X3] (need [Q7,WG,QM,Z2,Z3,Z4,Z5,VY (hC 1 VV),(↑VV.nc:Int)=1,QN,6=6,GQ 6 (H0 wl0),4=4,GQ 4 (H0 wl1),1=1,GQ 1 (H0 wl2),1=1,GQ 1 (H0 wl3),42=42,GQ 42 (DQ rp0),WG,X3] (need [Q7,WG,QM,Z2,Z3,Z4,Z5,QY,QN,6=6,GQ 6 (H0 wl0),4=4,GQ 4 (H0 wl1),2=2,GQ 2 (H0 wl2),1=1,GQ 1 (H0 wl3),42=42,GQ 42 (DQ rp0),WG,X3] (need [Q7,WG,QM,VY (lst 1 6 λk=>[Option.rec (top) (λval=>(λval=>(λx=>x) val) val) wl0[k]?]),VY (lst 1 4 λk=>[Option.rec (top) (λval=>(λval=>(λx=>x) val) val) wl1[k]?]),VY (lst 1 2 λk=>[Option.rec (top) (λval=>(λval=>(λx=>x) val) val) wl2[k]?]),VY (lst 1 5 λk=>[Option.rec (top) (λval=>(λval=>(λx=>x) val) val) wl3[k]?]),42=42,GQ 42 (DQ rp0),WG,X3] (need [Q7,WG,QM,Y5,((4:Nat):Int)=4,QN,4=4,GQ 4 (U4 1 z1),42=42,GQ 42 (DQ rp0),WG,X3] (need [gI 136 (DQ rp4),0<136] (leaf (RV.tup [RV.x (.string (bsO 136 (DQ rp4))),RV.x (WC)]))))))))))))))))))))))))))))))))))))))))))))))))))))))) VU ?_
 simp only [VM.sat,UB,G0,GL,UD,UH,VL,F4]
 (with_reducible repeat' first|apply Al|intro _)
 all_goals first|exact Ak|contradiction|omega|exact FC (by assumption) (by simp [AV.one,Value.oneCell'])|(rename_i i O;exact Qe5 (by decide+kernel) i O)|(rename_i i O;exact ltM VU i O)|exact cD (by decide+kernel)|exact sE (by decide+kernel)|decide+kernel|with_reducible rfl|rfl|trace_state
def Zf9:HS:=stS VV 1
theorem Xt3:lnE (UM G9 0) VV=9:=by decide+kernel
theorem Xt2:lnE (UM G9 1) VV=10:=by decide+kernel
theorem Xt1:lnE (UM G9 2) VV=9:=by decide+kernel
theorem Xt0:lnE (UM G9 3) VV=0:=by decide+kernel
theorem Zz3:lnE (UM G9 4) Zf9=0:=by decide+kernel
theorem Zz2:D1 (HW (UM G9 3)) VV=Zf9:=VU
abbrev KE(n:Nat)(a:Cg):AV:=lst 1 n λk=>[iI (a k)]
abbrev KF(m:Nat)(b:Cg):AV:=lst 1 m λk=>[iI (b k)]
section
variable (n m:Nat)(a b:Cg)
def Xd6:St:={σ:=[KE n a,KF m b]++HI 24 [],m:=[],nx:=7}
noncomputable def Jv3:Code:=U9 (VS (U7 Tryz.f25) 0)
def Wk7(k:Nat):St:=(upM [(5,i k)] (Xd6 n m a b))
def vJ(k:Nat):G5->Option St
 | .exit 0=>some (upM [] (Xd6 n m a b))
 | .ret=>some (upM [(4,.lit false)] (Xd6 n m a b))
 |_=>none
def Jq4:CT:= .branch (D3 ((λk=>a k==b k)) n) (.leaf (.exit 0,(vJ n m a b 0 (.exit 0)).getD (Xd6 n m a b))) (.leaf (.ret,(vJ n m a b 0 .ret).getD (Xd6 n m a b)))
def Xz7:UG:=(HF (Wk7 n m a b (0)) (Jq4 n m a b))
theorem Jg2(VR:n<=100000)(UE:n=m):G6 VO (.loop Jv3) (Xz7 n m a b):=by
 refine HH (L:=[]) Aa VZ U2 (X:=Nat) (Wk7 n m a b) (λk=>k<=n/\ ∀j,j<k->((λk=>a k==b k)) j=true) (λk=>n-k) (vJ n m a b) (x0:=0) ⟨VJ,λj hj=>VJ⟩ ?_ ?_ ?_;rintro k;kernel_rfl;rintro k y E h;unfold vJ at h;split at h;cases h;kernel_rfl;cases h;kernel_rfl;cases h
 ·rintro Q hQ k hx;refine ⟨(k+1),?_⟩;(with_reducible refine D9 (t:=branch (decide ((k:Int)<(n:Int))) (need [UI k n] (need [UI k m] (branch (a k != b k) (need [VY (KE n a),VY (KF m b),WL] (leaf G5.ret)) (need [VL ((k:Int)+1)] (need [VY (KE n a),VY (KF m b),(k:Int)+1=(↑(k+1):Int)] (leaf G5.normal)))))) (need [VY (KE n a),VY (KF m b)] (leaf (G5.exit 0)))) VU ?_);simp only [Jq4,vJ,VM.sat,GS] at hQ;have N3:k<n->((λk=>a k==b k)) k=false->D3 ((λk=>a k==b k)) n=false:=by
   intro h1 h2;rw [←Bool.not_eq_true];intro h3;have:=GC.1 h3 k h1;exact Bool.noConfusion (h2.symm.trans this)
  have gP:((λk=>a k==b k)) k=true-> ∀j,j<k+1->((λk=>a k==b k)) j=true:=by
   intro h1 j hj;rcases (show j<k\/j=k by omega) with h|rfl
   exact hx.2 j h;exact h1
  have PL: ¬k<n->D3 ((λk=>a k==b k)) n=true:=λh=>GC.2 (λj hj=>hx.2 j VJ);have hQ1: ∀E,vJ n m a b k .ret=some E->D3 ((λk=>a k==b k)) n=false->Q (.ret,E):=by
   intro E hE hf;cases hE;exact hQ.2 hf
  have hQ2: ∀E,vJ n m a b k (.exit 0)=some E->D3 ((λk=>a k==b k)) n=true->Q (.exit 0,E):=by
   intro E hE hf;cases hE;exact hQ.1 hf
  simp only [VM.sat,UB,UH,HA,VL,F4]
  all_goals exact V7
theorem Wh7(VR:n<=100000):VX VO 25 [.lst 1 n (λk=>[i (a k)]),.lst 1 m (λk=>[i (b k)])] (bl (decide (n=m)&&D3 (λk=>a k==b k) n)):=by
 refine U1 (L:=[F2 [n<=100000,n=m] (Xz7 n m a b)]) Aa VZ Tryz.func25 (UU Tryz.f25) (G7 (lpE (b:= .loop Jv3) VU<|HJ (λh=>Jg2 n m a b h.1 h.2))) (t:=branch ((n:Int) != (m:Int)) (leaf (RV.x (W6))) (need [n<=100000,n=m] (need [VY (KE n a),VY (KF m b),(0:Int)=((0:Nat):Int)] (branch (D3 (λk=>a k==b k) n) (leaf (RV.x (.bool true))) (leaf (RV.x (W6))))))) VU ?_
 simp only [VM.sat,UB,G0,GL,UD,VL,UH,HA,FU,bne_iff_ne,ne_eq];refine ⟨λh=>?_,λh=>?_⟩;have:n≠m:=by intro h';subst h';simp at h
 simp [this];have e:n=m:=by
  rw [bne_eq_false_iff_eq] at h;omega
 subst e;refine ⟨⟨VJ,rfl⟩,λh2=>?_,λh2=>?_⟩;simp [h2];simp [h2]
end
def Qh5:UX
 |[.lst 1 n f,.lst 1 m g]=>some ([UF 1 n f,UF 1 m g,n<=100000],bl (decide (n=m)&&D3 (λk=>col 0 f k==col 0 g k) n))
 |_=>none
theorem Wh6:VP VO 25 Qh5:=by
 refine ⟨(UJ Tryz.func25),?_⟩;intro avs ns res h hn;unfold Qh5 at h;split at h;rename_i n f m g;cases h;have hr0:UF 1 n f:=hn _ VT;have hr1:UF 1 m g:=hn _ VT;exact (Wh7 n m (col 0 f) (col 0 g) (hn _ VT)).same (.cons (.lst 1 n _ _ hr0) (.cons (.lst 1 m _ _ hr1) .nil));cases h
def Wy3:UX
 |[.x (.slice none 0 0)]=>some ([],lns 11 (UM U6))
 |[.lst 1 n f]=>some ([n=5,∀k,k<n->f k=[.x (.string (UM G9 k))]],lns 16 (UM (U6++G9)))
 |_=>none
theorem Jg4{P:Nat->Prop}(h0:P 0)(h1:P 1)(h2:P 2)(h3:P 3)(h4:P 4)(h5:P 5)(h6:P 6)(h7:P 7)(h8:P 8)(h9:P 9)(h10:P 10): ∀i,i<11->P i:=by
 intro i O
 match i,O with
 | 0,_=>exact h0
 | 1,_=>exact h1
 | 2,_=>exact h2
 | 3,_=>exact h3
 | 4,_=>exact h4
 | 5,_=>exact h5
 | 6,_=>exact h6
 | 7,_=>exact h7
 | 8,_=>exact h8
 | 9,_=>exact h9
 | 10,_=>exact h10
 |i+11,h=>exact absurd h VJ
theorem Xv1{P:Nat->Prop}(h0:P 0)(h1:P 1)(h2:P 2)(h3:P 3)(h4:P 4)(h5:P 5)(h6:P 6)(h7:P 7)(h8:P 8)(h9:P 9)(h10:P 10)(h11:P 11)(h12:P 12)(h13:P 13)(h14:P 14)(h15:P 15): ∀i,i<16->P i:=by
 intro i O
 match i,O with
 | 0,_=>exact h0
 | 1,_=>exact h1
 | 2,_=>exact h2
 | 3,_=>exact h3
 | 4,_=>exact h4
 | 5,_=>exact h5
 | 6,_=>exact h6
 | 7,_=>exact h7
 | 8,_=>exact h8
 | 9,_=>exact h9
 | 10,_=>exact h10
 | 11,_=>exact h11
 | 12,_=>exact h12
 | 13,_=>exact h13
 | 14,_=>exact h14
 | 15,_=>exact h15
 |i+16,h=>exact absurd h VJ
abbrev JH:AV:=AV.x (.string {data:=#[(98:UInt8),(97:UInt8),(116:UInt8),(104:UInt8),(32:UInt8),(49:UInt8),(48:UInt8),(48:UInt8),(32:UInt8),(51:UInt8),(48:UInt8),(48:UInt8)] })
abbrev QH:List AV:=[AV.x (.string {data:=#[(116:UInt8),(104:UInt8),(114:UInt8),(101:UInt8),(97:UInt8),(100:UInt8),(32:UInt8),(48:UInt8),(32:UInt8),(49:UInt8),(32:UInt8),(52:UInt8),(48:UInt8),(32:UInt8),(52:UInt8),(48:UInt8)] }),AV.x (.string {data:=#[(116:UInt8),(104:UInt8),(114:UInt8),(101:UInt8),(97:UInt8),(100:UInt8),(32:UInt8),(50:UInt8),(32:UInt8),(51:UInt8),(32:UInt8),(52:UInt8),(56:UInt8),(32:UInt8),(53:UInt8),(48:UInt8)] }),AV.x (.string {data:=#[(105:UInt8),(115:UInt8),(115:UInt8),(117:UInt8),(101:UInt8),(32:UInt8),(48:UInt8),(32:UInt8),(52:UInt8),(32:UInt8),(57:UInt8),(48:UInt8),(32:UInt8),(48:UInt8)] }),JH,AV.x (.string {data:=#[(115:UInt8),(101:UInt8),(101:UInt8),(32:UInt8),(48:UInt8),(32:UInt8),(50:UInt8),(48:UInt8),(48:UInt8)] }),AV.x (.string {data:=#[(115:UInt8),(101:UInt8),(101:UInt8),(32:UInt8),(49:UInt8),(32:UInt8),(50:UInt8),(48:UInt8),(51:UInt8)] }),JH,AV.x (.string {data:=#[(115:UInt8),(101:UInt8),(101:UInt8),(32:UInt8),(49:UInt8),(32:UInt8),(50:UInt8),(53:UInt8),(50:UInt8)] }),AV.x (.string {data:=#[(115:UInt8),(101:UInt8),(101:UInt8),(32:UInt8),(50:UInt8),(32:UInt8),(50:UInt8),(53:UInt8),(48:UInt8)] }),AV.x (.string {data:=#[(115:UInt8),(101:UInt8),(108:UInt8),(108:UInt8),(32:UInt8),(48:UInt8),(32:UInt8),(49:UInt8),(32:UInt8),(54:UInt8),(32:UInt8),(49:UInt8),(32:UInt8),(51:UInt8)] }),AV.x (.string {data:=#[(115:UInt8),(101:UInt8),(108:UInt8),(108:UInt8),(32:UInt8),(49:UInt8),(32:UInt8),(50:UInt8),(32:UInt8),(52:UInt8),(32:UInt8),(50:UInt8),(32:UInt8),(50:UInt8)] })]
theorem Qz1:VX VO 10 [.x (.slice none 0 0)] (lns 11 (UM U6)):=by
 refine GW Tryz.func10 (t:=need [176<=140737488355328,∀(i:Nat),i<0-> ∀(a:AV),a∈[]->AV.one a=true] (leaf (RV.lst 1 11 (GI 11 (U4 1 QH) λx=>[])))) VU ?_;simp only [VM.sat,UB,G0,GL,UD,UH]
 (with_reducible repeat' first|apply Al|intro _)
 all_goals first|exact Ak|contradiction|omega|exact FC (by assumption) (by simp [AV.one,Value.oneCell'])|(rename_i ha;rw [PM.1 ha];first|exact Ak|rfl)|(rename_i i O;revert i;refine Jg4 ?_ ?_ ?_ ?_ ?_ ?_ ?_ ?_ ?_ ?_ ?_<;>(show _=_;kernel_rfl))|decide|rfl|trace_state
theorem Qz0:VX VO 10 [.lst 1 5 (λk=>[.x (.string (UM G9 k))])] (lns 16 (UM (U6++G9))):=by
 refine GW Tryz.func10 (t:=need [256<=140737488355328,∀(i:Nat),i<5-> ∀(a:AV),a∈[HB (UM G9 i)]->AV.one a=true] (leaf (RV.lst 1 16 (GI 11 (U4 1 QH) λk=>[HB (UM G9 k)])))) VU ?_;simp only [VM.sat,UB,G0,GL,UD,UH]
 (with_reducible repeat' first|apply Al|intro _)
 all_goals first|exact Ak|contradiction|omega|exact FC (by assumption) (by simp [AV.one,Value.oneCell'])|(rename_i ha;rw [PM.1 ha];first|exact Ak|rfl)|(rename_i i O;revert i;refine Xv1 ?_ ?_ ?_ ?_ ?_ ?_ ?_ ?_ ?_ ?_ ?_ ?_ ?_ ?_ ?_ ?_<;>(show _=_;kernel_rfl))|decide|rfl|trace_state
theorem Xf1:VP VO 10 Wy3:=by
 refine ⟨(UJ Tryz.func10),?_⟩;intro avs ns res h hn;unfold Wy3 at h;split at h;cases h;exact Qz1;rename_i n f;cases h;obtain rfl:n=5:=hn _ VT;have h2: ∀k,k<5->f k=[.x (.string (UM G9 k))]:=hn (∀k,k<5->f k=[.x (.string (UM G9 k))]) VT;exact Qz0.same (.cons (.lst 1 5 f _ h2) .nil);cases h
theorem Xr7:sK (UM (U6++G9)) 0=hs0:=rfl
theorem Xr6:sK (UM (U6++G9)) 1=wk1:=by
 show lnS (UM U6 0) (sK (UM (U6++G9)) 0)=_;rw [Xr7];unfold lnS;rw [if_pos Qy7];exact Xs7
theorem Xr5:sK (UM (U6++G9)) 2=wk2:=by
 show lnS (UM U6 1) (sK (UM (U6++G9)) 1)=_;rw [Xr6];unfold lnS;rw [if_pos Qy6];exact Xs6
theorem Xr4:sK (UM (U6++G9)) 3=wk3:=by
 show lnS (UM U6 2) (sK (UM (U6++G9)) 2)=_;rw [Xr5];unfold lnS;rw [if_pos Qy5];exact Xs5
theorem Xr3:sK (UM (U6++G9)) 4=wk4:=by
 show lnS (UM U6 3) (sK (UM (U6++G9)) 3)=_;rw [Xr4];unfold lnS;rw [if_pos Qy4];exact Xs4
theorem Xr2:sK (UM (U6++G9)) 5=wk5:=by
 show lnS (UM U6 4) (sK (UM (U6++G9)) 4)=_;rw [Xr3];unfold lnS;rw [if_pos Qy3];exact Xs3
theorem Xr1:sK (UM (U6++G9)) 6=wk6:=by
 show lnS (UM U6 5) (sK (UM (U6++G9)) 5)=_;rw [Xr2];unfold lnS;rw [if_pos Qy2];exact Xs2
theorem Xr0:sK (UM (U6++G9)) 7=wk7:=by
 show lnS (UM U6 6) (sK (UM (U6++G9)) 6)=_;rw [Xr1];unfold lnS;rw [if_pos Qy1];exact Xs1
theorem Xq9:sK (UM (U6++G9)) 8=wk8:=by
 show lnS (UM U6 7) (sK (UM (U6++G9)) 7)=_;rw [Xr0];unfold lnS;rw [if_pos Qy0];exact Xs0
theorem Xq8:sK (UM (U6++G9)) 9=wk9:=by
 show lnS (UM U6 8) (sK (UM (U6++G9)) 8)=_;rw [Xq9];unfold lnS;rw [if_pos Qx9];exact Xr9
theorem Qw7:sK (UM (U6++G9)) 10=Ql6:=by
 show lnS (UM U6 9) (sK (UM (U6++G9)) 9)=_;rw [Xq8];unfold lnS;rw [if_pos Qx8];exact Xr8
theorem Qw6:sK (UM (U6++G9)) 11=VV:=by
 show lnS (UM U6 10) (sK (UM (U6++G9)) 10)=_;rw [Qw7];unfold lnS;rw [if_pos nM];exact Qx0
theorem Qw5:sK (UM (U6++G9)) 12=VV:=by
 show lnS (UM G9 0) (sK (UM (U6++G9)) 11)=_;rw [Qw6];unfold lnS;rw [if_neg (by rw [Xt3];decide)]
theorem Qw4:sK (UM (U6++G9)) 13=VV:=by
 show lnS (UM G9 1) (sK (UM (U6++G9)) 12)=_;rw [Qw5];unfold lnS;rw [if_neg (by rw [Xt2];decide)]
theorem Qw3:sK (UM (U6++G9)) 14=VV:=by
 show lnS (UM G9 2) (sK (UM (U6++G9)) 13)=_;rw [Qw4];unfold lnS;rw [if_neg (by rw [Xt1];decide)]
theorem Zd2:sK (UM (U6++G9)) 15=Zf9:=by
 show lnS (UM G9 3) (sK (UM (U6++G9)) 14)=_;rw [Qw3];unfold lnS;rw [if_pos Xt0];exact Zz2
theorem Zz0:eK (UM (U6++G9)) 0=0:=by
 show lnE (UM U6 0) (sK (UM (U6++G9)) 0)=_;rw [Xr7];exact Qy7
theorem Zy9:eK (UM (U6++G9)) 1=0:=by
 show lnE (UM U6 1) (sK (UM (U6++G9)) 1)=_;rw [Xr6];exact Qy6
theorem Zy8:eK (UM (U6++G9)) 2=0:=by
 show lnE (UM U6 2) (sK (UM (U6++G9)) 2)=_;rw [Xr5];exact Qy5
theorem Zy7:eK (UM (U6++G9)) 3=0:=by
 show lnE (UM U6 3) (sK (UM (U6++G9)) 3)=_;rw [Xr4];exact Qy4
theorem Zy6:eK (UM (U6++G9)) 4=0:=by
 show lnE (UM U6 4) (sK (UM (U6++G9)) 4)=_;rw [Xr3];exact Qy3
theorem Zy5:eK (UM (U6++G9)) 5=0:=by
 show lnE (UM U6 5) (sK (UM (U6++G9)) 5)=_;rw [Xr2];exact Qy2
theorem Zy4:eK (UM (U6++G9)) 6=0:=by
 show lnE (UM U6 6) (sK (UM (U6++G9)) 6)=_;rw [Xr1];exact Qy1
theorem Zy3:eK (UM (U6++G9)) 7=0:=by
 show lnE (UM U6 7) (sK (UM (U6++G9)) 7)=_;rw [Xr0];exact Qy0
theorem Zy2:eK (UM (U6++G9)) 8=0:=by
 show lnE (UM U6 8) (sK (UM (U6++G9)) 8)=_;rw [Xq9];exact Qx9
theorem Zy1:eK (UM (U6++G9)) 9=0:=by
 show lnE (UM U6 9) (sK (UM (U6++G9)) 9)=_;rw [Xq8];exact Qx8
theorem Zd8:eK (UM (U6++G9)) 10=0:=by
 show lnE (UM U6 10) (sK (UM (U6++G9)) 10)=_;rw [Qw7];exact nM
theorem Zd7:eK (UM (U6++G9)) 11=9:=by
 show lnE (UM G9 0) (sK (UM (U6++G9)) 11)=_;rw [Qw6];exact Xt3
theorem Zd6:eK (UM (U6++G9)) 12=10:=by
 show lnE (UM G9 1) (sK (UM (U6++G9)) 12)=_;rw [Qw5];exact Xt2
theorem Zd5:eK (UM (U6++G9)) 13=9:=by
 show lnE (UM G9 2) (sK (UM (U6++G9)) 13)=_;rw [Qw4];exact Xt1
theorem Zd4:eK (UM (U6++G9)) 14=0:=by
 show lnE (UM G9 3) (sK (UM (U6++G9)) 14)=_;rw [Qw3];exact Xt0
theorem Zd3:eK (UM (U6++G9)) 15=0:=by
 show lnE (UM G9 4) (sK (UM (U6++G9)) 15)=_;rw [Zd2];exact Zz3
def wrB:ByteArray:=⟨#[91,48,48,49,58,48,48,50,50,51,93,97,10]⟩
def lnA(_:Nat):ByteArray:=⟨#[97]⟩
def Xp7(s:HS):DD:=λl=>some (.need [l=[lns 16 (UM (U6++G9))]] (.leaf (.tup [.agg (hsL s),.lst 1 16 (λj=>[i (UA [0,0,0,0,0,0,0,0,0,0,0,9,10,9,0,0] j)]),i 0])))
def Zs6:DD:=λl=>some (.need [l=[lns 11 (UM U6)]] (.leaf (.tup [.lst 2 3 (λk=>[i (UA [0,1,-3] k),i (UA [0,5,5] k)]),i 0])))
def Zs3:DD:=λl=>some (.need [l=[lns 11 (UM U6),i 0]] (.leaf (.tup [.lst 1 1 (λk=>[i (UA [0] k)]),i 0])))
def Zs5:DD:=λl=>some (.need [l=[lns 11 (UM U6),i 1]] (.leaf (.tup [.lst 1 2 (λk=>[i (UA [0,1] k)]),.lst 1 1 (λk=>[i (UA [0] k)]),i 0])))
def Zs4:UX:=λl=>some ([l=[lns 11 (UM U6)]],.tup [.x (.string Zj8),i 0])
def Wz7:DD:=λl=>match l with
 |[.lst 1 n f]=>some (.need [n=1,f 0=[.x (.string (lnA 0))]] (.leaf (.tup [.lst 1 13 (DQ wrB),i 0])))
 |_=>none
theorem qW{P:Program}{f:FuncId}{avs:List AV}{t sp:VM AV}(h:UN P f avs t)(hm: ∀Q:AV->Prop,sp.sat Q->t.sat (λr=> ∃r',DX r r'/\Q r')):UN P f avs sp:=by
 intro Q hQ e w args q1 q2 q3 q4;refine (h _ (hm Q hQ) e w args q1 q2 q3 q4).mono ?_;rintro en w' ⟨v,r,rfl,⟨r',g1,g2⟩,g3,g4⟩;exact ⟨v,r',rfl,g2,g3,L1 g1 g4⟩
theorem Zz1:ckE 16 (UM (U6++G9))=0:=by decide+kernel
theorem Qz2(s:HS)(hs:s=sK (UM (U6++G9)) 16):Sx.Enters Tryz.prog 27/\ ∀avs t,Xp7 s avs=some t->UN VO 27 avs t:=by
 refine ⟨(UJ Tryz.func27),?_⟩;intro avs t h;cases h;intro Q hQ;have e:avs=[lns 16 (UM (U6++G9))]:=hQ.1;subst e;have h1:=lB 16 (UM (U6++G9)) VJ;refine qW h1 (sp:= .leaf (.tup [.agg (hsL s),.lst 1 16 (λj=>[i (UA [0,0,0,0,0,0,0,0,0,0,0,9,10,9,0,0] j)]),i 0])) (λQ hq=>⟨λh=>?_,λ_=>?_⟩) Q hQ.2;rw [Zz1] at h;exact absurd h (by decide)
 refine ⟨.tup [.agg (hsL s),.lst 1 16 (λj=>[i (UA [0,0,0,0,0,0,0,0,0,0,0,9,10,9,0,0] j)]),i 0],⟨?_,⟨rfl,rfl,λk hk=>?_⟩,⟨rfl,rfl⟩,Ak⟩,hq⟩;rw [hs];exact Qd6 _;revert k;refine Xv1 (congrArg (λz=>[i z]) Zz0) (congrArg (λz=>[i z]) Zy9) (congrArg (λz=>[i z]) Zy8) (congrArg (λz=>[i z]) Zy7) (congrArg (λz=>[i z]) Zy6) (congrArg (λz=>[i z]) Zy5) (congrArg (λz=>[i z]) Zy4) (congrArg (λz=>[i z]) Zy3) (congrArg (λz=>[i z]) Zy2) (congrArg (λz=>[i z]) Zy1) (congrArg (λz=>[i z]) Zd8) (congrArg (λz=>[i z]) Zd7) (congrArg (λz=>[i z]) Zd6) (congrArg (λz=>[i z]) Zd5) (congrArg (λz=>[i z]) Zd4) (congrArg (λz=>[i z]) Zd3)
theorem Xf6:Sx.Enters Tryz.prog 21/\ ∀avs t,Zs6 avs=some t->UN VO 21 avs t:=by
 refine ⟨(UJ Tryz.func21),?_⟩;intro avs t h;cases h;intro Q hQ;have e:avs=[lns 11 (UM U6)]:=hQ.1;subst e;have h1:=lC 11 (UM U6) VJ;rw [AP] at h1;refine qW h1 (sp:= .leaf (.tup [.lst 2 3 (λk=>[i (UA [0,1,-3] k),i (UA [0,5,5] k)]),i 0])) (λQ hq=>⟨λh=>?_,λ_=>?_⟩) Q hQ.2;rw [c7] at h;exact absurd h (by decide)
 refine ⟨.tup [.lst 2 3 (λk=>[i (UA [0,1,-3] k),i (UA [0,5,5] k)]),i 0],⟨⟨rfl,Xs8,λk hk=>?_⟩,(show DX (i _) (i 0) by rw [Xs9];exact ⟨rfl,rfl⟩),Ak⟩,hq⟩
 rcases (show k=0\/k=1\/k=2 by omega) with rfl|rfl|rfl
 show [i _,i _]=_;rw [Qx3,Qx6];rfl;show [i _,i _]=_;rw [Qx2,Qx5];rfl;show [i _,i _]=_;rw [Qx1,Qx4];rfl
theorem Xf3:Sx.Enters Tryz.prog 9/\ ∀avs t,Zs3 avs=some t->UN VO 9 avs t:=by
 refine ⟨(UJ Tryz.func9),?_⟩;intro avs t h;cases h;intro Q hQ;have e:avs=[lns 11 (UM U6),i 0]:=hQ.1;subst e;have h1:=gV 11 (UM U6) 0 VJ;rw [AP] at h1;have hn:VV.nc=1:=VU;have hc:G4 (stP VV 0) 1=1:=by rw [FE Qw9];rfl
 refine qW h1 (sp:= .leaf (.tup [.lst 1 1 (λk=>[i (UA [0] k)]),i 0])) (λQ hq=>⟨λh=>?_,λ_=>⟨λh=>absurd h (by decide),λ_=>?_⟩⟩) Q hQ.2
 rw [c7] at h;exact absurd h (by decide)
 refine ⟨.tup [.lst 1 1 (λk=>[i (UA [0] k)]),i 0],⟨⟨rfl,by rw [hn];exact hc,λk hk=>?_⟩,⟨rfl,rfl⟩,Ak⟩,hq⟩
 obtain rfl:k=0:=VJ;have h2:=BP (show 0<VV.nc by rw [hn];omega) Qw9
 have h3:G4 (stP VV 0) 0=0:=rfl;rw [h3] at h2;show [i _]=_;rw [h2];rfl
theorem Xf5:Sx.Enters Tryz.prog 11/\ ∀avs t,Zs5 avs=some t->UN VO 11 avs t:=by
 refine ⟨(UJ Tryz.func11),?_⟩;intro avs t h;cases h;intro Q hQ;have e:avs=[lns 11 (UM U6),i 1]:=hQ.1;subst e;have h1:=Qr7 11 (UM U6) 1 VJ;rw [AP] at h1;have c0:G4 (caB VV.ns VV.sa VV.sb VV.sc VV.sl VV.sh 1) 0=0:=rfl;have c1:G4 (caB VV.ns VV.sa VV.sb VV.sc VV.sl VV.sh 1) 1=1:=by rw [FE Qy9,c0]
 have c2:G4 (caB VV.ns VV.sa VV.sb VV.sc VV.sl VV.sh 1) 2=2:=by rw [FE Qy8,c1]
 have c3:G4 (caB VV.ns VV.sa VV.sb VV.sc VV.sl VV.sh 1) 3=2:=by rw [RU Zf8,c2]
 have c4:G4 (caB VV.ns VV.sa VV.sb VV.sc VV.sl VV.sh 1) 4=2:=by rw [RU Zf7,c3]
 have d0:G4 (suB VV.ns VV.sa VV.sb VV.sc VV.sl VV.sh 1) 0=0:=rfl;have d1:G4 (suB VV.ns VV.sa VV.sb VV.sc VV.sl VV.sh 1) 1=1:=by rw [FE Qw8,d0]
 have d2:G4 (suB VV.ns VV.sa VV.sb VV.sc VV.sl VV.sh 1) 2=1:=by rw [RU Ze1,d1]
 have d3:G4 (suB VV.ns VV.sa VV.sb VV.sc VV.sl VV.sh 1) 3=1:=by rw [RU Ze0,d2]
 have d4:G4 (suB VV.ns VV.sa VV.sb VV.sc VV.sl VV.sh 1) 4=1:=by rw [RU Zd9,d3]
 have e0:=BP (show 0<4 by omega) Qy9
 have e1:=BP (show 1<4 by omega) Qy8
 have f0:=BP (show 0<4 by omega) Qw8
 rw [c0] at e0;rw [c1] at e1;rw [d0] at f0;refine qW h1 (sp:= .leaf (.tup [.lst 1 2 (λk=>[i (UA [0,1] k)]),.lst 1 1 (λk=>[i (UA [0] k)]),i 0])) (λQ hq=>⟨λh=>?_,λ_=>⟨λh=>absurd h (by decide),λ_=>⟨λh=>?_,λ_=>?_⟩⟩⟩) Q hQ.2
 rw [c7] at h;exact absurd h (by decide)
 rw [Qx7] at h;exact Bool.noConfusion h;refine ⟨.tup [.lst 1 2 (λk=>[i (UA [0,1] k)]),.lst 1 1 (λk=>[i (UA [0] k)]),i 0],⟨⟨rfl,c4,λk hk=>?_⟩,⟨rfl,d4,λk hk=>?_⟩,⟨rfl,rfl⟩,Ak⟩,hq⟩;rcases (show k=0\/k=1 by omega) with rfl|rfl
 show [i _]=_;rw [e0];rfl;show [i _]=_;rw [e1];rfl;obtain rfl:k=0:=VJ;show [i _]=_;rw [f0];rfl
theorem Xf4:VP VO 12 Zs4:=by
 refine ⟨(UJ Tryz.func12),?_⟩;intro avs ns res h hn;cases h;have e:avs=[lns 11 (UM U6)]:=hn _ GD;subst e;exact lA
theorem Xf2:Sx.Enters Tryz.prog 32/\ ∀avs t,Wz7 avs=some t->UN VO 32 avs t:=by
 refine ⟨(UJ Tryz.func32),?_⟩;intro avs t h;unfold Wz7 at h;split at h;rename_i n f;cases h;intro Q hQ;obtain rfl:n=1:=hQ.1.1;have h2:f 0=[.x (.string (lnA 0))]:=hQ.1.2;have h1:=Qr6 1 lnA VJ;have hb:flB lnA 1=wrB:=by decide+kernel
 rw [hb] at h1;have h3:UN VO 32 [.lst 1 1 f] (.leaf (.tup [.lst 1 13 (DQ wrB),i 0])):=by
  intro Q hq e w args q1 q2 q3 q4;refine h1 Q ⟨λh=>?_,λ_=>hq⟩ e w args q1 q2 ?_ ?_;rw [show ckE 1 lnA=0 by decide+kernel] at h
  exact absurd h (by decide)
  intro a ha;rw [PM.1 ha];exact .lst _ _ _ λk _ x hx=>by rw [PM.1 hx];exact .x _
  obtain ⟨u,us,rfl,r1,r2⟩:=q4.cons_inv;refine .cons (L1 (a:= .lst 1 1 f) ⟨rfl,rfl,λk hk=>?_⟩ r1) r2;obtain rfl:k=0:=VJ;exact h2
 exact h3 Q hQ.2;cases h
theorem Zm4{a b:ByteArray}(h:(a.toList==b.toList)=false)(e:a=b):False:=by
 subst e;simp at h
abbrev WJ:List Int:=[(0:Int),0,0,0,0,0,0,0,0,0,0,(9:Int),(10:Int),(9:Int),(0:Int),(0:Int)]
abbrev JI:List AV:=[lst 1 11 λk=>[HB (UM U6 k)],iI 0]
abbrev JJ:List AV:=[lst 1 11 λk=>[HB (UM U6 k)],iI 1]
abbrev JL:List AV:=[lst 1 16 λk=>[HB (UM (U6++G9) k)]]
theorem Ql8(s:HS)(VR:s=sK (UM (U6++G9)) 16):VX VO 14 [] (bl true):=by
 refine GA (L:=[]) (Ae Xf1 (Ae Wh6 (Ae Xf4 Aa))) (Aj Ab Ac (Ah (Qz2 s VR) (Ah Xf6 (Ah Xf3 (Ah Xf5 (Ah Xf2 (U8.nil _))))))) VZ Tryz.func14 (UU Tryz.f14) G8 (t:=let A:=(U4 1 [iI 0,iI 1]);let z1:=(U4 1 [iI 0]);(need [5=5,GV 5 (U4 1 [AV.x (.string {data:=#[116,104,114,101,97,100,32,48,32,50,32,52,48,32,52,48] }),AV.x (.string {data:=#[105,115,115,117,101,32,48,32,52,32,56,48,32,48] }),AV.x (.string {data:=#[115,101,101,32,48,32,49,48,48] }),AV.x (.string {data:=#[115,116,114,105,107,101,32,49] }),AV.x (.string {data:=#[118,111,105,100,32,48] })]) (λk=>[HB (UM G9 k)])] (need [JL=JL] (need [WN=WN] (need [JI=JI] (need [JJ=JJ] (need [WN=WN] (need [1=1,[AV.x (.string {data:=#[97] })]=[HB (lnA 0)]] (branch ((0:Int)==0) (branch (((16:Nat):Int)==16) (need [UI 10 16] (branch (UA WJ (10:Int).toNat==0) (need [UI 11 16] (branch (UA WJ (11:Int).toNat==9) (need [UI 12 16] (branch (UA WJ (12:Int).toNat==10) (need [UI 13 16] (branch (UA WJ (13:Int).toNat==9) (need [UI 14 16] (branch (UA WJ (14:Int).toNat==0) (need [UI 15 16] (branch (UA WJ (15:Int).toNat==0) (branch ((0:Int)==0) (branch (((3:Nat):Int)==3) (need [UI 1 3] (branch (UA WY (1:Int).toNat==1&&(UA ZB (1:Int).toNat==5&&true)) (need [UI 2 3] (branch (UA WY (2:Int).toNat==(-3:Int)&&(UA ZB (2:Int).toNat==5&&true)) (branch ((0:Int)==0) (need [UF 1 1 λk=>[i (UA [(0:Int)] k)],UF 1 1 z1,1<=100000] (branch (decide (1=1)&&(true&&UA [(0:Int)] (nat_lit 0)==col 0 z1 (nat_lit 0))) (branch ((0:Int)==0) (need [UF 1 2 λk=>[i (UA [(0:Int),1] k)],UF 1 2 A,2<=100000] (branch (decide (2=2)&&(true&&UA [(0:Int),1] (nat_lit 0)==col 0 A (nat_lit 0)&&UA [(0:Int),1] (nat_lit 1)==col 0 A (nat_lit 1))) (need [UF 1 1 λk=>[i (UA [(0:Int)] k)],UF 1 1 z1,1<=100000] (branch (decide (1=1)&&(true&&UA [(0:Int)] (nat_lit 0)==col 0 z1 (nat_lit 0))) (branch ((0:Int)==0) (branch (ByteArray.toList Zj8==ByteArray.toList {data:=List.toArray (List.append (List.append [(114:UInt8),(101:UInt8),(97:UInt8),(100:UInt8),(105:UInt8),(110:UInt8),(103:UInt8),(115:UInt8),(32:UInt8),(50:UInt8),(32:UInt8),(98:UInt8),(97:UInt8),(116:UInt8),(104:UInt8),(115:UInt8),(32:UInt8),(50:UInt8),(32:UInt8),(99:UInt8),(101:UInt8),(114:UInt8),(116:UInt8),(105:UInt8),(102:UInt8),(105:UInt8),(99:UInt8),(97:UInt8),(116:UInt8),(101:UInt8),(115:UInt8),(32:UInt8),(49:UInt8),(32:UInt8)] [(115:UInt8),(97:UInt8),(108:UInt8),(101:UInt8),(115:UInt8),(32:UInt8),(50:UInt8),(10:UInt8),(109:UInt8),(97:UInt8),(114:UInt8),(107:UInt8),(115:UInt8),(32:UInt8),(48:UInt8),(46:UInt8),(46:UInt8),(48:UInt8),(32:UInt8),(50:UInt8),(48:UInt8),(48:UInt8),(46:UInt8),(46:UInt8),(51:UInt8),(48:UInt8),(48:UInt8),(32:UInt8),(52:UInt8),(49:UInt8),(48:UInt8),(46:UInt8),(46:UInt8),(53:UInt8)]) (List.append [(49:UInt8),(48:UInt8),(32:UInt8),(55:UInt8),(48:UInt8),(48:UInt8),(46:UInt8),(46:UInt8),(56:UInt8),(48:UInt8),(48:UInt8),(32:UInt8),(49:UInt8),(48:UInt8),(48:UInt8),(48:UInt8),(46:UInt8),(46:UInt8),(49:UInt8),(48:UInt8),(48:UInt8),(48:UInt8),(10:UInt8),(111:UInt8),(102:UInt8),(102:UInt8),(115:UInt8),(101:UInt8),(116:UInt8),(115:UInt8),(32:UInt8),(48:UInt8),(46:UInt8),(46:UInt8)] [(48:UInt8),(32:UInt8),(49:UInt8),(46:UInt8),(46:UInt8),(53:UInt8),(32:UInt8),(45:UInt8),(51:UInt8),(46:UInt8),(46:UInt8),(53:UInt8),(10:UInt8),(115:UInt8),(116:UInt8),(97:UInt8),(110:UInt8),(100:UInt8),(32:UInt8),(48:UInt8),(10:UInt8),(104:UInt8),(111:UInt8),(108:UInt8),(100:UInt8),(32:UInt8),(52:UInt8),(32:UInt8),(50:UInt8),(32:UInt8),(52:UInt8),(32:UInt8),(48:UInt8),(10:UInt8)])) }) (branch ((0:Int)==0) (need [gI 13 (DQ wrB)] (leaf (RV.x (.bool (ByteArray.toList (bsO 13 (DQ wrB))==ByteArray.toList {data:=#[91,48,48,49,58,48,48,50,50,51,93,97,10] }))))) (leaf (RV.x (W6)))) (leaf (RV.x (W6)))) (leaf (RV.x (W6)))) (leaf (RV.x (W6))))) (leaf (RV.x (W6))))) (leaf (RV.x (W6)))) (leaf (RV.x (W6))))) (leaf (RV.x (W6)))) (leaf (RV.x (W6))))) (leaf (RV.x (W6))))) (leaf (RV.x (W6)))) (leaf (RV.x (W6)))) (leaf (RV.x (W6))))) (leaf (RV.x (W6))))) (leaf (RV.x (W6))))) (leaf (RV.x (W6))))) (leaf (RV.x (W6))))) (leaf (RV.x (W6))))) (leaf (RV.x (W6)))) (leaf (RV.x (W6)))))))))))) VU ?_
 have hw:bsO 13 (DQ wrB)=wrB:=Zr6 wrB;simp only [VM.sat,UB,G0,GL,UD,UH,VL,hw]
 (with_reducible repeat' first|apply Al|intro _)
 all_goals first|exact Ak|contradiction|(rename_i h;exact (Zm4 h VU).elim)|omega|exact sE (by decide+kernel)|(intro k hk;exact ltM VU k hk)|(rename_i k hk;exact ltM VU k hk)|(rename_i k hk;revert k;refine ltM ?_;kernel_rfl)|(intro k hk;revert k;refine ltM ?_;kernel_rfl)|decide|decide+kernel|rfl
def Qg8:UX
 |[]=>some ([],bl true)
 |_=>none
theorem uH:VP VO 14 Qg8:=by
 refine ⟨(UJ Tryz.func14),?_⟩;intro avs ns res h hn;unfold Qg8 at h;split at h;cases h;exact Ql8 _ rfl;cases h
section
variable (n:Nat)(L:Cf)
def thA:Bool:=D3 (λk=>decide (((L k).size:Int)<=210)) (min n 56)
def thB:Bool:=thA n L&&decide ((n:Int)<=55)
def rgB:Bool:=D3 (λk=>decide (((L k).size:Int)<=200)) n&&decide ((n:Int)<=50)
def rdB(most:Int):Bool:=thB n L&&(rgB n L&&decide ((n:Int)<=most))
def Xc9:St:={σ:=[Q6 n L]++HI 22 [],m:=[],nx:=2}
noncomputable def Jt9:Code:=U9 (VS (U7 Tryz.f49) 0)
def Wj1(k:Nat):St:=(upM [(3,i k)] (Xc9 n L))
def vG(k:Nat):G5->Option St
 | .exit 0=>some (upM [] (Xc9 n L))
 | .ret=>some (upM [(2,.lit false)] (Xc9 n L))
 |_=>none
def Jo7:CT:= .branch (D3 ((λk=>decide (((L k).size:Int)<=210))) (min n 56)) (.leaf (.exit 0,(vG n L 0 (.exit 0)).getD (Xc9 n L))) (.leaf (.ret,(vG n L 0 .ret).getD (Xc9 n L)))
def Xx9:UG:=(HF (Wj1 n L (0)) (Jo7 n L))
theorem Jb1(VR:(min n 56)<=100000):G6 VO (.loop Jt9) (Xx9 n L):=by
 refine HH (L:=[]) Aa VZ U2 (X:=Nat) (Wj1 n L) (λk=>k<=(min n 56)/\ ∀j,j<k->((λk=>decide (((L k).size:Int)<=210))) j=true) (λk=>(min n 56)-k) (vG n L) (x0:=0) ⟨VJ,λj hj=>VJ⟩ ?_ ?_ ?_;rintro k;kernel_rfl;rintro k y E h;unfold vG at h;split at h;cases h;kernel_rfl;cases h;kernel_rfl;cases h
 ·rintro Q hQ k hx;refine ⟨(k+1),?_⟩;(with_reducible refine D9 (t:=let A:=(need [VY (Q6 n L)] (leaf (G5.exit 0)));(branch (decide ((k:Int)<(n:Int))) (branch (decide ((k:Int)<56)) (need [UI k n] (branch (decide ((↑(ByteArray.size (L k)):Int)>210)) (need [VY (Q6 n L),WL] (leaf G5.ret)) (need [VL ((k:Int)+1)] (need [VY (Q6 n L),(k:Int)+1=(↑(k+1):Int)] (leaf G5.normal))))) A) A)) VU ?_);simp only [Jo7,vG,VM.sat,GS] at hQ;have N3:k<(min n 56)->((λk=>decide (((L k).size:Int)<=210))) k=false->D3 ((λk=>decide (((L k).size:Int)<=210))) (min n 56)=false:=by
   intro h1 h2;rw [←Bool.not_eq_true];intro h3;have:=GC.1 h3 k h1;exact Bool.noConfusion (h2.symm.trans this)
  have gP:((λk=>decide (((L k).size:Int)<=210))) k=true-> ∀j,j<k+1->((λk=>decide (((L k).size:Int)<=210))) j=true:=by
   intro h1 j hj;rcases (show j<k\/j=k by omega) with h|rfl
   exact hx.2 j h;exact h1
  have PL: ¬k<(min n 56)->D3 ((λk=>decide (((L k).size:Int)<=210))) (min n 56)=true:=λh=>GC.2 (λj hj=>hx.2 j VJ);have hQ1: ∀E,vG n L k .ret=some E->D3 ((λk=>decide (((L k).size:Int)<=210))) (min n 56)=false->Q (.ret,E):=by
   intro E hE hf;cases hE;exact hQ.2 hf
  have hQ2: ∀E,vG n L k (.exit 0)=some E->D3 ((λk=>decide (((L k).size:Int)<=210))) (min n 56)=true->Q (.exit 0,E):=by
   intro E hE hf;cases hE;exact hQ.1 hf
  simp only [VM.sat,UB,UH,HA,VL,F4]
  all_goals exact V7
theorem Wi3:VX VO 49 [lns n L] (bl (thB n L)):=by
 refine U1 (L:=[F2 [min n 56<=100000] (Xx9 n L)]) Aa VZ Tryz.func49 (UU Tryz.f49) (G7 (lpE (b:= .loop Jt9) VU<|HJ (λh=>Jb1 n L h))) (t:=need [min n 56<=100000] (need [VY (Q6 n L),(0:Int)=((0:Nat):Int)] (branch (D3 (λk=>decide ((↑(ByteArray.size (L k)):Int)<=210)) (min n 56)) (leaf (RV.x (.bool (decide ((n:Int)<=55))))) (leaf (RV.x (W6)))))) VU ?_
 simp only [VM.sat,UB,G0,GL,UD,VL,UH,HA,FU];unfold thB thA;refine ⟨VJ,λh=>?_,λh=>?_⟩;simp [h];simp [h]
def Xq0:UX:=λl=>some ([l=[lns n L]],bl (thB n L))
theorem Qp0:VP VO 49 (Xq0 n L):=by
 refine ⟨(UJ Tryz.func49),?_⟩;intro avs ns res h hn;cases h;have e:=hn _ GD;subst e;exact Wi3 n L
def bN:St:={σ:=[Q6 n L]++HI 18 [],m:=[],nx:=2}
noncomputable def Xe5:Code:=U9 (VS (U7 Tryz.f50) 0)
def EX(k:Nat):St:=(upM [(3,i k)] (bN n L))
def PQ(k:Nat):G5->Option St
 | .exit 0=>some (upM [] (bN n L))
 | .ret=>some (upM [(2,.lit false)] (bN n L))
 |_=>none
def Wy0:CT:= .branch (D3 ((λk=>decide (((L k).size:Int)<=200))) n) (.leaf (.exit 0,(PQ n L 0 (.exit 0)).getD (bN n L))) (.leaf (.ret,(PQ n L 0 .ret).getD (bN n L)))
def mZ:UG:=(HF (EX n L (0)) (Wy0 n L))
theorem Wc9(VR:n<=100000):G6 VO (.loop Xe5) (mZ n L):=by
 refine HH (L:=[]) Aa VZ U2 (X:=Nat) (EX n L) (λk=>k<=n/\ ∀j,j<k->((λk=>decide (((L k).size:Int)<=200))) j=true) (λk=>n-k) (PQ n L) (x0:=0) ⟨VJ,λj hj=>VJ⟩ ?_ ?_ ?_;rintro k;kernel_rfl;rintro k y E h;unfold PQ at h;split at h;cases h;kernel_rfl;cases h;kernel_rfl;cases h
 ·rintro Q hQ k hx;refine ⟨(k+1),?_⟩;(with_reducible refine D9 (t:=branch (decide ((k:Int)<(n:Int))) (need [UI k n] (branch (decide ((↑(ByteArray.size (L k)):Int)>200)) (need [VY (Q6 n L),WL] (leaf G5.ret)) (need [VL ((k:Int)+1)] (need [VY (Q6 n L),(k:Int)+1=(↑(k+1):Int)] (leaf G5.normal))))) (need [VY (Q6 n L)] (leaf (G5.exit 0)))) VU ?_);simp only [Wy0,PQ,VM.sat,GS] at hQ;have N3:k<n->((λk=>decide (((L k).size:Int)<=200))) k=false->D3 ((λk=>decide (((L k).size:Int)<=200))) n=false:=by
   intro h1 h2;rw [←Bool.not_eq_true];intro h3;have:=GC.1 h3 k h1;exact Bool.noConfusion (h2.symm.trans this)
  have gP:((λk=>decide (((L k).size:Int)<=200))) k=true-> ∀j,j<k+1->((λk=>decide (((L k).size:Int)<=200))) j=true:=by
   intro h1 j hj;rcases (show j<k\/j=k by omega) with h|rfl
   exact hx.2 j h;exact h1
  have PL: ¬k<n->D3 ((λk=>decide (((L k).size:Int)<=200))) n=true:=λh=>GC.2 (λj hj=>hx.2 j VJ);have hQ1: ∀E,PQ n L k .ret=some E->D3 ((λk=>decide (((L k).size:Int)<=200))) n=false->Q (.ret,E):=by
   intro E hE hf;cases hE;exact hQ.2 hf
  have hQ2: ∀E,PQ n L k (.exit 0)=some E->D3 ((λk=>decide (((L k).size:Int)<=200))) n=true->Q (.exit 0,E):=by
   intro E hE hf;cases hE;exact hQ.1 hf
  simp only [VM.sat,UB,UH,HA,VL,F4]
  all_goals exact V7
theorem Qp1(VR:n<=100000):VX VO 50 [lns n L] (bl (rgB n L)):=by
 refine U1 (L:=[F2 [n<=100000] (mZ n L)]) Aa VZ Tryz.func50 (UU Tryz.f50) (G7 (lpE (b:= .loop Xe5) VU<|HJ (λh=>Wc9 n L h))) (t:=need [n<=100000] (need [VY (Q6 n L),(0:Int)=((0:Nat):Int)] (branch (D3 (λk=>decide ((↑(ByteArray.size (L k)):Int)<=200)) n) (leaf (RV.x (.bool (decide ((n:Int)<=50))))) (leaf (RV.x (W6)))))) VU ?_
 simp only [VM.sat,UB,G0,GL,UD,VL,UH,HA,FU];unfold rgB;refine ⟨VJ,λh=>?_,λh=>?_⟩;simp [h];simp [h]
def Qu9:UX:=λl=>some ([l=[lns n L],n<=100000],bl (rgB n L))
theorem pA:VP VO 50 (Qu9 n L):=by
 refine ⟨(UJ Tryz.func50),?_⟩;intro avs ns res h hn;cases h;have e:avs=[lns n L]:=hn _ VT;have h0:n<=100000:=hn _ VT;subst e;exact Qp1 n L h0
theorem Qp2(most:Int):VX VO 15 [lns n L,i most] (bl (rdB n L most)):=by
 refine U1 (L:=[]) (Ae (Qp0 n L) (Ae (pA n L) Aa)) VZ Tryz.func15 (UU Tryz.f15) U2 (t:=need [(YN n L)] (branch (thB n L) (need [(YN n L),n<=100000] (branch (rgB n L) (leaf (RV.x (.bool (decide ((n:Int)<=most))))) (leaf (RV.x (W6))))) (leaf (RV.x (W6))))) VU ?_;simp only [VM.sat,UB,G0,UD,UH];have hn:thB n L=true->n<=55:=λh=>by
  unfold thB at h;rw [GU,qQ] at h;omega
 unfold rdB
 (with_reducible repeat' first|apply Al|intro _)
 all_goals first|(have:=hn (by assumption);omega)|simp_all
def Xa1(most:Int):UX:=λl=>some ([l=[lns n L,i most]],bl (rdB n L most))
theorem zM(most:Int):VP VO 15 (Xa1 n L most):=by
 refine ⟨(UJ Tryz.func15),?_⟩;intro avs ns res h hn;cases h;have e:=hn _ GD;subst e;exact Qp2 n L most
theorem Wi4(VR:n<=100000):VX VO 22 [lns n L] (lns n L):=by
 refine GA (L:=[]) Aa Ad VZ Tryz.func22 (UU Tryz.f22) G8 (t:=need [(0+n)*16<=140737488355328,∀(i:Nat),i<n-> ∀(a:AV),a∈[HB (L i)]->AV.one a=true] (leaf (RV.lst 1 (0+n) (GI 0 (λx=>[]) λk=>[HB (L k)])))) VU ?_;simp only [VM.sat,UB,G0,true_and]
 (with_reducible repeat' first|apply Al|intro _)
 all_goals first|exact Ak|omega|(rename_i ha;rw [PM.1 ha];first|exact Ak|rfl)|exact lV _ _|rfl|trace_state
end
theorem catS{a:Cf}{k j:Nat}{x:ByteArray}(h:j<k+1)(hx:x=a k):GI k (λz=>[.x (.string (a z))]) (U4 1 [.x (.string x)]) j=[.x (.string (a j))]:=by
 subst hx;rcases (show j<k\/j=k by omega) with h1|rfl
 show H6 (decide (j<k)) _ (U4 _ _ (j-k))=_;rw [decide_eq_true h1,show j-k=0 by omega]
 rfl;show H6 (decide (j<j)) _ (U4 _ _ (j-j))=_;rw [show decide (j<j)=false by simp,Bs]
 rfl
def lnF(f:Ci)(k:Nat):ByteArray:=stO (f k)
section
variable {n:Nat}{L:Cf}
theorem Xw2(h1:n<=50)(h2: ∀k,k<n->(L k).size<=200):ckE n L=0:=by
 unfold ckE;rw [if_pos ⟨h1,GC.2 λk hk=>decide_eq_true (by have:=h2 k hk;omega)⟩]
theorem Je4{most:Int}(h:rdB n L most=true):ckE n L=0/\(n:Int)<=most:=by
 unfold rdB at h;rw [GU,GU,qQ] at h;obtain ⟨_,h2,h3⟩:=h;unfold rgB at h2;rw [GU,qQ] at h2;refine ⟨Xw2 VJ λk hk=>?_,h3⟩;have:=B0 (GC.1 h2.1 k hk);omega
end
theorem nN{c:Nat}{T U O:Int}{n n':Nat}{a b u v a' b' u' v':Cg}{h:Cg}(g:Ch)(hg: ∀j,j<n->g j<n'/\a j=a' (g j)/\b j=b' (g j)/\u j=u' (g j)/\v j=v' (g j))(k:Tr c T U O n' a' b' u' v' h):Tr c T U O n a b u v h:=by
 refine ⟨k.1,k.2.1,k.2.2.1,λj hj=>?_⟩;obtain ⟨e0,e1,e2,e3,e4⟩:=hg j hj;have h1:=k.2.2.2 (g j) e0;rw [e1,e2,e3,e4];exact h1
theorem Zq5{c T U O:Int}{n n':Nat}{a b u v a' b' u' v':Cg}(g:Ch)(hg: ∀j,j<n->g j<n'/\a j=a' (g j)/\b j=b' (g j)/\u j=u' (g j)/\v j=v' (g j))(hn:n<=n')(h:eB c T U O n' a' b' u' v'=0):eB c T U O n a b u v=0:=by
 obtain ⟨h1,_,h3⟩:=BB.1 h;have hf:=B4.1 h1;have hb:=P0 hf.1;have ha:D3 (λk=>Bo.rdB c (a k) (b k) (u k) (v k)) n=true:=GC.2 λj hj=>by
  obtain ⟨e0,e1,e2,e3,e4⟩:=hg j hj;have h5:=GC.1 hf.2.2 (g j) e0;rw [e1,e2,e3,e4];exact h5
 have h2:flt c T U O n a b u v=0:=B4.2 ⟨hf.1,VJ,ha⟩;exact BB.2 ⟨h2,rfl,Wf7 hb.2.1 (uT hb.1 ha) (nN g hg (Wa1 hb.2.1 (uT hb.1 hf.2.2) h3))⟩
theorem Zn6{s:HS}{x:Int}(h:inE s=0)(hx:bt 0 x ((s.nr:Int)-1)=true):inE (stS s x)=0:=by
 obtain ⟨h1,h2,h3,h4⟩:=Qa9 h;have hx:=(bt_iff _ _ _).1 hx;refine Zk6 (show s.nr-1<=12 by omega) h2 h3 (Zq5 (λj=>if j<x.toNat then j else j+1) (λj hj=>?_) (Nat.sub_le _ _) h4)
 have hj:j<s.nr-1:=hj;show (if j<x.toNat then j else j+1)<s.nr/\skF x s.ra j=s.ra (if j<x.toNat then j else j+1)/\skF x s.rb j=s.rb (if j<x.toNat then j else j+1)/\skF x s.ru j=s.ru (if j<x.toNat then j else j+1)/\skF x s.rv j=s.rv (if j<x.toNat then j else j+1)
 unfold skF;by_cases e:j<x.toNat;simp only [if_pos e,and_true];omega;simp only [if_neg e,and_true];omega
theorem Xw4{c T U O:Int}{n:Nat}{a b u v:Cg}{m:Nat}{p q:Cg}{pl ph dl dh u0 u1 wi Z:Int}(h:asE c T U O n a b u v m p q pl ph dl dh u0 u1 wi Z=0):rdE c T U O n a b u v m p q pl ph dl dh=0/\usB c u0 u1 wi=true/\bt 0 Z 10000=true:=by
 unfold asE at h;split at h;rename_i h1;split at h;rename_i h2;rw [GU] at h2;exact ⟨h1,h2⟩;exact absurd h (by decide)
 rename_i h1;exact absurd h h1
structure HSr (s:HS):Prop where
 rd:inE s=0
 us: ∀k,k<s.nc->usB 4 (s.ca k) (s.cb k) (s.cc k)=true
theorem Xf7{W:Cf}{n:Nat}{s:HS}(I:HSr s)(h0:FT W n s=0):HSr (D1 W s):=by
 unfold FT at h0;unfold D1;split at h0;have h:=fm0 h0;unfold thE at h;split at h;split at h;split at h;rename_i h1;exact ⟨h1,I.us⟩;exact absurd h (by decide)
 exact absurd h (by decide)
 exact absurd h (by decide)
 have h:=fm0 h0;unfold stE at h;split at h;rename_i h1;exact ⟨Zn6 I.rd h1,I.us⟩;exact absurd h (by decide)
 have h:=fm0 h0;unfold baE at h;split at h;rename_i h1;exact ⟨h1,I.us⟩;exact absurd h (by decide)
 exact ⟨I.rd,I.us⟩;exact ⟨I.rd,I.us⟩;have h:=fm0 h0;unfold isE at h;split at h;rename_i h1;refine ⟨I.rd,λk hk=>?_⟩;have hk:k<s.nc+1:=hk;show usB 4 (H4 s.nc s.ca _ k) (H4 s.nc s.cb _ k) (H4 s.nc s.cc _ k)=true;unfold H4;by_cases e:k<s.nc;rw [if_pos e,if_pos e,if_pos e];exact I.us k e;rw [if_neg e,if_neg e,if_neg e];exact (Xw4 h1).2.1;exact absurd h (by decide)
 exact ⟨I.rd,I.us⟩;exact ⟨I.rd,I.us⟩;exact absurd h0 (by decide)
theorem Wc0(L:Cf): ∀k,HSr (sK L k)
 | 0=>⟨VU,λk hk=>absurd hk (Aq k)⟩
 |k+1=>by
  show HSr (lnS (L k) (sK L k));unfold lnS;split;rename_i h0;exact Xf7 (Wc0 L k) h0;exact Wc0 L k
theorem dnMo{x y d:Int}(h:x<=y)(hd:1<=d):dnI x d<=dnI y d:=Int.tdiv_le_tdiv VJ h
theorem upMo{x y d:Int}(h:x<=y)(hd:1<=d):upI x d<=upI y d:=Int.tdiv_le_tdiv VJ VJ
theorem Jm6{x y d:Int}(h:x<=y)(hd:1<=d):dnI x d<=upI y d:=Int.tdiv_le_tdiv VJ VJ
section
variable {c T U O:Int}{n:Nat}{a b u v:Cg}{m:Nat}{p q:Cg}{pl ph dl dh Z:Int}{k:Nat}
theorem onLk(hk:(k:Int)<=c):onL (wkA c T U O n a b u v m p q pl ph dl dh) k Z=bdL c T U O n a b u v m p q pl ph k-upI (dh*Z) 100:=by
 unfold onL;rw [show wkA c T U O n a b u v m p q pl ph dl dh (4+2*k)=bdL c T U O n a b u v m p q pl ph k from Ja5 VJ];rfl
theorem onHk(hk:(k:Int)<=c):onH (wkA c T U O n a b u v m p q pl ph dl dh) k Z=bdH c T U O n a b u v m p q pl ph k-dnI (dl*Z) 100:=by
 unfold onH;rw [show wkA c T U O n a b u v m p q pl ph dl dh (5+2*k)=bdH c T U O n a b u v m p q pl ph k from Ja6 VJ];rfl
end
section
variable {c T U O:Int}{n n':Nat}{a b u v a' b' u' v':Cg}
theorem Zg3(g:Ch)(hg: ∀j,j<n->g j<n'/\a j=a' (g j)/\b j=b' (g j)/\u j=u' (g j)/\v j=v' (g j))(h:eB c T U O n a b u v=0)(h':eB c T U O n' a' b' u' v'=0){k:Nat}(hk:(k:Int)<=c): -fwB c T U O n a b u v k 0<= -fwB c T U O n' a' b' u' v' k 0/\fwB c T U O n' a' b' u' v' 0 k<=fwB c T U O n a b u v 0 k:=by
 obtain ⟨h1,_,h3⟩:=BB.1 h;obtain ⟨h1',_,h3'⟩:=BB.1 h';have hf:=B4.1 h1;have hf':=B4.1 h1';have hb:=P0 hf.1;have hr:=uT hb.1 hf.2.2;have hr':=uT hb.1 hf'.2.2;have b1:=Wa2 hb.2.1 hr (nN g hg (Xt5 hb.2.1 hr' h3')) (x:=k) VJ;have b2:=Wa2 hb.2.1 hr (nN g hg (Wa1 hb.2.1 hr' h3')) (x:=k) VJ;exact ⟨b1.1,b2.2⟩
theorem Zn2{m:Nat}{p q:Cg}{pl ph dl dh u0 u1 wi Z:Int}(g:Ch)(hg: ∀j,j<n->g j<n'/\a j=a' (g j)/\b j=b' (g j)/\u j=u' (g j)/\v j=v' (g j))(h:rdE c T U O n a b u v m p q pl ph dl dh=0)(h':rdE c T U O n' a' b' u' v' m p q pl ph dl dh=0)(hu:usB c u0 u1 wi=true)(hd:0<=Z/\Z<=10000)
  (hk:keB c (wkA c T U O n a b u v m p q pl ph dl dh) u0 u1 wi Z=true):keB c (wkA c T U O n' a' b' u' v' m p q pl ph dl dh) u0 u1 wi Z=true:=by
 have hu:=tV.1 hu;unfold keB at hk ⊢;rw [GC] at hk ⊢;intro j hj;have h1:=hk j hj;obtain ⟨k,e⟩: ∃k:Nat,(u0+(j:Int)).toNat=k:=⟨_,rfl⟩;have hc:(k:Int)<=c:=VJ;unfold keP at h1 ⊢;rw [e,onLk hc,onHk hc,Bo.insB_iff] at h1 ⊢;obtain ⟨_,_,q3,q4⟩:=Qa9 h;obtain ⟨_,_,_,q4'⟩:=Qa9 h';have hv:=SQ.1 q3;have tb:=P0 hv.2.1;have hs:=Qa1 hv.1;have t:=Qd5 q4 hc;have t':=Qd5 q4' hc;have h2:=Zg3 g hg q4 q4' hc;have e1:bdL c T U O n a b u v m p q pl ph k<=bdL c T U O n' a' b' u' v' m p q pl ph k:=dnMo (Int.mul_le_mul_of_nonneg_right h2.1 VJ) VJ;have e2:bdH c T U O n' a' b' u' v' m p q pl ph k<=bdH c T U O n a b u v m p q pl ph k:=upMo (Int.mul_le_mul_of_nonneg_right h2.2 VJ) VJ;have e3:bdL c T U O n' a' b' u' v' m p q pl ph k<=bdH c T U O n' a' b' u' v' m p q pl ph k:=Jm6 (Int.mul_le_mul t'.2.1 hs.2.2.1 VJ VJ) VJ;have e4:dnI (dl*Z) 100<=upI (dh*Z) 100:=Jm6 (Int.mul_le_mul_of_nonneg_right hv.2.2.2.1 hd.1) VJ;omega
end
theorem Jb6{s:HS}{x0 x1 x2 x3 Z:Int}{k:Nat}(hs:HSr s)(h':inE (thS s x0 x1 x2 x3)=0)(hk:k<s.nc)(hd:0<=Z/\Z<=10000)(h:stP s Z k=true):stP (thS s x0 x1 x2 x3) Z k=true:=by
 unfold stP stB at h ⊢;rw [GU,GU,GU] at h ⊢;obtain ⟨hv,hda,ha,hkp⟩:=h;have hu:=hs.us k hk;have ha':=Zr8 h' hu hd;refine ⟨hv,hda,beq_iff_eq.2 ha',?_⟩;unfold kpB at hkp ⊢;rw [GU] at hkp ⊢;refine ⟨decide_eq_true ha',Zn2 id (λj hj=>?_) hs.rd h' hu hd hkp.2⟩;show j<s.nr+1/\s.ra j=H4 s.nr s.ra x0 j/\s.rb j=H4 s.nr s.rb x1 j/\s.ru j=H4 s.nr s.ru x2 j/\s.rv j=H4 s.nr s.rv x3 j;unfold H4;simp only [if_pos hj,and_true];omega
open Go Go.Sx Go.RowKit
theorem sz1(x:UInt8):(⟨#[x]⟩:ByteArray).size=1:=rfl
def jnL:List (List UInt8)->List UInt8
 |[]=>[]
 |[w]=>w
 |w::v::r=>w++32::jnL (v::r)
theorem Xv5: ∀{w:List UInt8},(∀x∈w,x≠32)->Lib.index w [32]= -1
 |[],_=>rfl
 |b::l,h=>by
  have h1:=Xv5 (w:=l) λx hx=>h x (HL _ hx);have h2:=h b GD;rw [Lib.index_one] at h1 ⊢;unfold Lib.indexByte;rw [h1,if_neg (by simpa using h2)]
  rfl
theorem Wi8: ∀{w r:List UInt8},(∀x∈w,x≠32)->Lib.index (w++32::r) [32]=(w.length:Nat)
 |[],r,_=>by
  rw [Lib.index_one];rfl
 |b::l,r,h=>by
  have h1:=Wi8 (w:=l) (r:=r) λx hx=>h x (HL _ hx);have h2:=h b GD;rw [Lib.index_one] at h1 ⊢;rw [List.cons_append];unfold Lib.indexByte;rw [h1,if_neg (by simpa using h2),if_neg VT,Bj]
  omega
theorem Jn0{w:List UInt8}(h: ∀x∈w,x≠32):Lib.count w [32]=0:=Lib.count_miss (Xv5 h)
theorem Jn1{w r:List UInt8}(h: ∀x∈w,x≠32):Lib.count (w++32::r) [32]=1+Lib.count r [32]:=by
 rw [Lib.count_hit VT (Wi8 h)];simp
theorem Xu4: ∀{l:List (List UInt8)},l≠[]->(∀w∈l,∀x∈w,x≠32)->Lib.count (jnL l) [32]+1=l.length/\Lib.splitK [32] 0 (Lib.count (jnL l) [32]) (jnL l)=l
 |[],h,_=>absurd rfl h
 |[w],_,h=>by
  have h1:=h w GD;show Lib.count w [32]+1=1/\Lib.splitK [32] 0 (Lib.count w [32]) w=[w];rw [Jn0 h1];exact ⟨rfl,rfl⟩
 |w::v::r,_,h=>by
  have h1:=h w GD;obtain ⟨i1,i2⟩:=Xu4 (l:=v::r) VT λw A=>h w (HL _ A);show Lib.count (w++32::jnL (v::r)) [32]+1=(v::r).length+1/\Lib.splitK [32] 0 (Lib.count (w++32::jnL (v::r)) [32]) (w++32::jnL (v::r))=w::v::r;rw [Jn1 h1];refine ⟨VJ,?_⟩;rw [Bh];unfold Lib.splitK;rw [Wi8 h1,if_neg VT];have e1:(w++32::jnL (v::r)).take (((w.length:Nat):Int).toNat+0)=w:=VT;have e2:(w++32::jnL (v::r)).drop (((w.length:Nat):Int).toNat+[(32:UInt8)].length)=jnL (v::r):=VT;rw [e1,e2,i2]
theorem Jg6{s:ByteArray}{l:List (List UInt8)}(hs:s.data.toList=jnL l)(h0:l≠[])(h: ∀w∈l,∀x∈w,x≠32):lnN s=l.length/\ ∀k,HW s k=⟨(l.getD k []).toArray⟩:=by
 obtain ⟨h1,h2⟩:=Xu4 h0 h;have e:(spl s ⟨#[32]⟩).map (·.data.toList)=l:=by
  unfold spl;rw [Lib.splitB_data];show Lib.splitK [32] 0 (Lib.count s.data.toList [32]) s.data.toList=l;rw [hs,h2]
 refine ⟨?_,λk=>?_⟩;show Lib.count s.data.toList [32]+1=_;rw [hs,h1];unfold HW;rw [List.getD_eq_getElem?_getD,List.getD_eq_getElem?_getD,←e,Bn];cases (spl s ⟨#[32]⟩)[k]? with
 |none=>rfl
 |some x=>rfl
def u7(p:Nat->Bool):Nat->Bool
 | 0=>false
 |k+1=>u7 p k||p k
theorem Qg2{p:Nat->Bool}{j:Nat}(h:p j=true): ∀{n:Nat},j<n->u7 p n=true
 | 0,hj=>absurd hj (Aq j)
 |n+1,hj=>by
  show (u7 p n||p n)=true
  rcases (show j<n\/j=n by omega) with h1|rfl
  rw [Qg2 h h1];rfl;rw [h,Bool.or_true]
def sG(n:Nat)(f g:Ci):Prop:= ∀k,k<n->f k=g k
def Xa4(K:Cf):DD:=λl=>match l with
 |[.lst 1 N f]=>some (.need [sG N f (λj=>[.x (.string (K j))]),ckE N K=0] (.leaf (.tup [.agg (hsL (sK K N)),.lst 1 N (exG K),i 0])))
 |_=>none
def Wz8(K:Cf):DD:=λl=>match l with
 |[.lst 1 N f,.x (.int .i64 y)]=>some (.need [sG N f (λj=>[.x (.string (K j))]),ckE N K=0,0<=y/\y<=10000] (.leaf (.tup [.lst 1 (G4 (stP (sK K N) y) (sK K N).nc) (λz=>[i (UP (stP (sK K N) y) (sK K N).nc z)]),i 0])))
 |_=>none
theorem Wh3{N:Nat}{f:Ci}{K:Cf}{e:UL}{w:World}{u:Value}(h:sG N f (λj=>[.x (.string (K j))]))(hr:Rep e w (.lst 1 N f) u):Rep e w (lns N K) u:=L1 (a:= .lst 1 N f) ⟨rfl,rfl,h⟩ hr
theorem aE(K:Cf):Sx.Enters Tryz.prog 27/\ ∀avs t,Xa4 K avs=some t->UN VO 27 avs t:=by
 refine ⟨(UJ Tryz.func27),?_⟩;intro avs t h;unfold Xa4 at h;split at h;rename_i N f;cases h;intro Q hQ;have h2:sG N f (λj=>[.x (.string (K j))]):=hQ.1.1;have h0:ckE N K=0:=hQ.1.2;have hk:=hZ h0;intro e w args q1 q2 q3 q4;refine lB N K VJ Q ⟨λh=>?_,λ_=>hQ.2⟩ e w args q1 q2 ?_ ?_;rw [h0] at h;exact absurd h (by decide)
 intro a ha;simp only [GM,DL,or_false] at ha;subst ha;exact .lst _ _ _ λk _ x hx=>by rw [PM.1 hx];exact .x _
 obtain ⟨u,us,rfl,r1,r2⟩:=q4.cons_inv;exact .cons (Wh3 h2 r1) r2;cases h
theorem SY(K:Cf):Sx.Enters Tryz.prog 9/\ ∀avs t,Wz8 K avs=some t->UN VO 9 avs t:=by
 refine ⟨(UJ Tryz.func9),?_⟩;intro avs t h;unfold Wz8 at h;split at h;rename_i N f y;cases h;intro Q hQ;have h2:sG N f (λj=>[.x (.string (K j))]):=hQ.1.1;have h0:ckE N K=0:=hQ.1.2.1;have h3:0<=y/\y<=10000:=hQ.1.2.2;have hk:=hZ h0;have hb:bt 0 y 10000=true:=(bt_iff _ _ _).2 h3;intro e w args q1 q2 q3 q4;refine gV N K y VJ Q ⟨λh=>?_,λ_=>⟨λh=>?_,λ_=>hQ.2⟩⟩ e w args q1 q2 ?_ ?_;rw [h0] at h;exact absurd h (by decide)
 rw [hb] at h;exact absurd h (by decide)
 intro a ha;simp only [GM,DL,or_false] at ha;rcases ha with rfl|rfl;exact .lst _ _ _ λk _ x hx=>by rw [PM.1 hx];exact .x _
 exact .x _;obtain ⟨u,us,rfl,r1,r2⟩:=q4.cons_inv;exact .cons (Wh3 h2 r1) r2;cases h
def ngB(s:ByteArray):Bool:=decide (0<s.size)&&(DI s 0==45)
def n0N(s:ByteArray):Nat:=match ngB s with
 |true=>1
 |false=>0
def dvI(s:ByteArray)(a:Nat):Nat->Int
 | 0=>0
 |k+1=>10*dvI s a k+(DI s (a+k)-48)
section
variable (s:ByteArray)
def dgQ(a k:Nat):Bool:=bt 48 (DI s (a+k)) 57
def nuP:Bool:=decide (n0N s<s.size)&&(decide (s.size<=n0N s+9)&& !(DI s (n0N s)==48&&decide (1<s.size)))
def nuA:Bool:=D3 (dgQ s (n0N s)) (s.size-n0N s)
def nuG:Bool:=nuP s&&nuA s
def nvG:Int:=if nuG s=true then (if ngB s=true then -dvI s (n0N s) (s.size-n0N s) else dvI s (n0N s) (s.size-n0N s)) else 0
end
theorem Wu2{s:ByteArray}{a:Nat}: ∀{k:Nat},(∀j,j<k->dgQ s a j=true)->0<=dvI s a k/\dvI s a k+1<=10^k
 | 0,_=>⟨Int.le_refl _,Int.le_refl _⟩
 |k+1,h=>by
  have ih:=Wu2 (k:=k) λj hj=>h j VJ;have h1:=(bt_iff _ _ _).1 (h k VJ);show 0<=10*dvI s a k+(DI s (a+k)-48)/\10*dvI s a k+(DI s (a+k)-48)+1<=10^(k+1);rw [Int.pow_succ];omega
theorem Jg1{s:ByteArray}(h:nuP s=true):n0N s+0<=s.size:=by
 unfold nuP at h;rw [GU,qQ] at h;omega
theorem p10{k:Nat}(h:k<=9):(10:Int)^k<=1000000000:=by
 have h1:(10:Nat)^k<=10^9:=Nat.pow_le_pow_right (by decide) h
 have h2:((10^k:Nat):Int)<=((10^9:Nat):Int):=VJ;rw [Int.natCast_pow] at h2;exact h2
section
variable (s:ByteArray)
def Xd9:St:={σ:=[HB s,top,top,top,AV.lit false]++HI 60 [],m:=[],nx:=29}
noncomputable def Jw1:Code:=U9 (VS (U7 Tryz.f61) 0)
def Wl7(k:Nat):St:=(upM [(4,bl (ngB s)),(5,i ((n0N s+k:Nat))),(6,i (dvI s (n0N s) k))] (Xd9 s))
def dM(k:Nat):G5->Option St
 | .exit 0=>some (upM [(4,bl (ngB s)),(5,i ((n0N s+(s.size-n0N s):Nat))),(6,i (dvI s (n0N s) (s.size-n0N s)))] (Xd9 s))
 | .ret=>some (upM [(2,i 0),(3,bl false),(4,.top),(5,.top),(6,.top)] (Xd9 s))
 |_=>none
def Jr5:CT:= .branch (nuA s) (.leaf (.exit 0,(dM s 0 (.exit 0)).getD (Xd9 s))) (.leaf (.ret,(dM s 0 .ret).getD (Xd9 s)))
def Za9:UG:=GJ [] (HF (Wl7 s (0)) (Jr5 s))
theorem Jk7(VR:nuP s=true)(UE:s.size<=100000):G6 VO (.loop Jw1) (Za9 s):=by
 refine UR [] (L:=[]) Aa Ad VZ U2 (X:=Nat) (Wl7 s) (λk=>n0N s+k<=s.size/\ ∀j,j<k->dgQ s (n0N s) j=true) (λk=>s.size-n0N s-k) (dM s) (x0:=0) ⟨Jg1 VR,λj hj=>VJ⟩ ?_ ?_ ?_;rintro k;kernel_rfl;rintro k y E h;unfold dM at h;split at h;cases h;kernel_rfl;cases h;kernel_rfl;cases h;rintro Q hQ k hx;refine ⟨(k+1),?_⟩;(with_reducible refine D9 (t:=let I:=(need [W5 s,QN,false=false] (leaf G5.ret));(branch (decide ((↑(n0N s+k):Int)<(ByteArray.size s:Int))) (need [(0:Int)<=(↑(n0N s+k):Int)/\n0N s+k<ByteArray.size s] (branch (decide ((match s[n0N s+k]? with|some b=>(UInt8.toNat b:Int)|none=>(0:Int))<48)) I (need [(0:Int)<=(↑(n0N s+k):Int)/\n0N s+k<ByteArray.size s] (branch (decide ((match s[n0N s+k]? with|some b=>(UInt8.toNat b:Int)|none=>(0:Int))>57)) I (need [VL ((10:Int)*dvI s (n0N s) k)] (need [(0:Int)<=(↑(n0N s+k):Int)/\n0N s+k<ByteArray.size s] (need [VY IntKind.u8,(0:Int)<=(match s[n0N s+k]? with|some b=>(UInt8.toNat b:Int)|none=>(0:Int))-48/\(match s[n0N s+k]? with|some b=>(UInt8.toNat b:Int)|none=>(0:Int))-48<=255] (need [VL ((match s[n0N s+k]? with|some b=>(UInt8.toNat b:Int)|none=>(0:Int))-48)] (need [VL ((10:Int)*dvI s (n0N s) k+((match s[n0N s+k]? with|some b=>(UInt8.toNat b:Int)|none=>(0:Int))-48))] (need [VL ((↑(n0N s+k):Int)+1)] (need [W5 s,ngB s=ngB s,(↑(n0N s+k):Int)+1=(↑(n0N s+(k+1)):Int),(10:Int)*dvI s (n0N s) k+((match s[n0N s+k]? with|some b=>(UInt8.toNat b:Int)|none=>(0:Int))-48)=dvI s (n0N s) (k+1)] (leaf G5.normal)))))))))))) (need [W5 s,ngB s=ngB s,(↑(n0N s+k):Int)=(↑(n0N s+(ByteArray.size s-n0N s)):Int),dvI s (n0N s) k=dvI s (n0N s) (ByteArray.size s-n0N s)] (leaf (G5.exit 0))))) VU ?_)
 simp only [Jr5,dM,VM.sat,GS] at hQ;simp only [VM.sat,UB,UH,HA,VL,dM,F4];obtain ⟨b,hb⟩: ∃b,b=DI s (n0N s+k):=⟨_,rfl⟩;have hd:dgQ s (n0N s) k=bt 48 b 57:=by
  rw [hb];rfl
 have hst:dvI s (n0N s) (k+1)=10*dvI s (n0N s) k+(b-48):=by
  rw [hb];rfl
 have hb2:(match s[n0N s+k]? with|some b=>(UInt8.toNat b:Int)|none=>(0:Int))=b:=hb.symm
 simp only [hb2];obtain ⟨hx1,hx2⟩:=hx;have hbd:=Wu2 hx2;have h9:s.size<=n0N s+9:=by
  unfold nuP at VR;rw [GU,GU,qQ,qQ] at VR;exact VR.2.1
 have hp:=p10 (k:=k) VJ;have N3:dgQ s (n0N s) k=false->n0N s+k<s.size->nuA s=false:=λh1 h2=>by
  cases ha:nuA s;rfl;exact Bool.noConfusion (h1.symm.trans (GC.1 ha k VJ))
 refine ⟨λh=>⟨⟨VJ,VJ⟩,λh1 E hE=>?_,λh1=>⟨⟨VJ,VJ⟩,λh2 E hE=>?_,λh2=>?_⟩⟩,λh=>?_⟩;cases hE;refine hQ.2 (N3 ?_ VJ);rw [hd,←Bool.not_eq_true,bt_iff];omega;cases hE;refine hQ.2 (N3 ?_ VJ);rw [hd,←Bool.not_eq_true,bt_iff];omega;have hdk:dgQ s (n0N s) k=true:=by
  rw [hd,bt_iff];omega
 refine ⟨VJ,⟨VJ,VJ⟩,VJ,VJ,VJ,VJ,⟨VJ,hst.symm⟩,⟨VJ,λj hj=>?_⟩,VJ⟩;rcases (show j<k\/j=k by omega) with h3|rfl
 exact hx2 j h3;exact hdk;obtain rfl:k=s.size-n0N s:=VJ;refine ⟨⟨rfl,rfl⟩,λE hE=>?_⟩;cases hE;exact hQ.1 (GC.2 hx2)
abbrev ZV:Value:=Value.int IntKind.i64 (-dvI s (n0N s) (ByteArray.size s-n0N s))
abbrev ZW:Value:=Value.int IntKind.i64 (dvI s (n0N s) (ByteArray.size s-n0N s))
theorem Qv0(VR:s.size<=100000):VX VO 61 [.x (.string s)] (.tup [i (nvG s),bl (nuG s)]):=by
 refine GA (L:=[F2 [nuP s=true] (Za9 s)]) Aa Ad VZ Tryz.func61 (UU Tryz.f61) (G7 (lpE (b:= .loop Jw1) VU<|(HJ (ps:=[nuP s=true]) (λh=>Jk7 s h VR)).N)) (t:=let S:=(leaf (RV.tup [RV.x (WC),RV.x (W6)]));let Z:=(branch (nuA s) (branch (ngB s) (need [VL (-dvI s (n0N s) (ByteArray.size s-n0N s))] (leaf (RV.tup [RV.x (ZV s),RV.x (.bool true)]))) (leaf (RV.tup [RV.x (ZW s),RV.x (.bool true)]))) S);let z3:=(need [nuP s=true] (need [W5 s,false=ngB s,(0:Int)=(↑(n0N s+0):Int),(0:Int)=dvI s (n0N s) 0] Z));let I:=(branch ((ByteArray.size s:Int)==0) S (need [VL ((ByteArray.size s:Int)-0)] (branch (decide ((ByteArray.size s:Int)-0>9)) S (need [(0:Int)<=0/\(0:Int).toNat<ByteArray.size s] (branch ((match s[(0:Int).toNat]? with|some b=>(UInt8.toNat b:Int)|none=>(0:Int))==48) (branch (decide ((ByteArray.size s:Int)>1)) S z3) z3)))));let z4:=(need [nuP s=true] (need [W5 s,true=ngB s,(1:Int)=(↑(n0N s+0):Int),(0:Int)=dvI s (n0N s) 0] Z));(branch (decide ((ByteArray.size s:Int)>0)) (need [(0:Int)<=0/\(0:Int).toNat<ByteArray.size s] (branch ((match s[(0:Int).toNat]? with|some b=>(UInt8.toNat b:Int)|none=>(0:Int))==45) (branch ((ByteArray.size s:Int)==1) S (need [VL ((ByteArray.size s:Int)-1)] (branch (decide ((ByteArray.size s:Int)-1>9)) S (need [(0:Int)<=1/\(1:Int).toNat<ByteArray.size s] (branch ((match s[(1:Int).toNat]? with|some b=>(UInt8.toNat b:Int)|none=>(0:Int))==48) (branch (decide ((ByteArray.size s:Int)>1)) S z4) z4))))) I)) I)) VU ?_
 simp only [VM.sat,UB,G0,GL,UD,UH,VL,F4];have hb: ∀j:Nat,(match s[j]? with|some b=>(UInt8.toNat b:Int)|none=>(0:Int))=DI s j:=λ_=>rfl
 simp only [hb,show Int.toNat 0=0 from rfl,show Int.toNat 1=1 from rfl];clear hb;have hG:nuG s=false->0=nvG s/\false=nuG s:=λh=>by
  unfold nvG;rw [h];exact ⟨rfl,rfl⟩
 have hF:nuP s=false->0=nvG s/\false=nuG s:=λh=>hG (by
  unfold nuG;rw [h];rfl)
 have tail:nuP s=true->(nuA s=true->(ngB s=true->(-9223372036854775808<= -dvI s (n0N s) (s.size-n0N s)/\ -dvI s (n0N s) (s.size-n0N s)<=9223372036854775807)/\ -dvI s (n0N s) (s.size-n0N s)=nvG s/\true=nuG s)/\(ngB s=false->dvI s (n0N s) (s.size-n0N s)=nvG s/\true=nuG s))/\(nuA s=false->0=nvG s/\false=nuG s):=λh=>by
  refine ⟨λh1=>?_,λh1=>hG (by unfold nuG;rw [h,h1];rfl)⟩
  have hg:nuG s=true:=by
   unfold nuG;rw [h,h1];rfl
  have h9:s.size<=n0N s+9:=by
   unfold nuP at h;rw [GU,GU,qQ,qQ] at h;exact h.2.1
  have hbd:=Wu2 (GC.1 h1);have hp:=p10 (k:=s.size-n0N s) VJ;unfold nvG;rw [hg,if_pos rfl];exact ⟨λh2=>⟨VJ,by rw [if_pos h2],rfl⟩,λh2=>⟨by rw [h2,if_neg (by decide)],rfl⟩⟩
 rcases Nat.eq_zero_or_pos s.size with h0|hs;have hP:nuP s=false:=by
  unfold nuP;rw [decide_eq_false (show ¬n0N s<s.size by omega)]
  rfl
 refine ⟨λh=>absurd (B0 h) VJ,λ_=>⟨λ_=>hF hP,λh=>?_⟩⟩;rw [h0] at h;exact absurd h (by decide)
 refine ⟨λ_=>⟨⟨VJ,VJ⟩,λh1=>?_,λh1=>?_⟩,λh=>absurd (of_decide_eq_false h) VJ⟩;have ng:ngB s=true:=by
  unfold ngB;rw [decide_eq_true hs,h1];rfl
 have hn:n0N s=1:=by
  unfold n0N;rw [ng]
 have hP:nuP s=(decide (1<s.size)&&(decide (s.size<=1+9)&& !(DI s 1==48&&decide (1<s.size)))):=by
  unfold nuP;rw [hn]
 have hx:true=ngB s/\(1:Int)=((n0N s+0:Nat):Int)/\0=dvI s (n0N s) 0:=⟨ng.symm,by rw [hn];rfl,rfl⟩
 refine ⟨λh2=>hF ?_,λh2=>⟨VJ,λh3=>hF ?_,λh3=>?_⟩⟩;have h2:=eq_of_beq h2;rw [hP,decide_eq_false (show ¬1<s.size by omega)]
 rfl;have h3:=B0 h3;rw [hP,decide_eq_false (show ¬s.size<=1+9 by omega),Bool.false_and,Bool.and_false]
 have h2:=ne_of_beq_false h2;have h3:=of_decide_eq_false h3;refine ⟨⟨VJ,show 1<s.size by omega⟩,λh4=>⟨λh5=>hF ?_,λh5=>absurd (of_decide_eq_false h5) VJ⟩,λh4=>?_⟩
 rw [hP,h4,decide_eq_true (show 1<s.size by omega)]
 simp;have hp:nuP s=true:=by
  rw [hP,h4,decide_eq_true (show 1<s.size by omega),decide_eq_true (show s.size<=1+9 by omega)]
  rfl
 exact ⟨hp,hx,tail hp⟩;have ng:ngB s=false:=by
  unfold ngB;rw [h1,Bool.and_false]
 have hn:n0N s=0:=by
  unfold n0N;rw [ng]
 have hP:nuP s=(decide (0<s.size)&&(decide (s.size<=0+9)&& !(DI s 0==48&&decide (1<s.size)))):=by
  unfold nuP;rw [hn]
 have hx:false=ngB s/\(0:Int)=((n0N s+0:Nat):Int)/\0=dvI s (n0N s) 0:=⟨ng.symm,by rw [hn];rfl,rfl⟩
 refine ⟨λh2=>absurd (eq_of_beq h2) VJ,λh2=>⟨VJ,λh3=>hF ?_,λh3=>?_⟩⟩;have h3:=B0 h3;rw [hP,decide_eq_false (show ¬s.size<=0+9 by omega),Bool.false_and,Bool.and_false]
 have h3:=of_decide_eq_false h3;have hp:(DI s 0==48&&decide (1<s.size))=false->nuP s=true:=λh=>by
  rw [hP,h,decide_eq_true hs,decide_eq_true (show s.size<=0+9 by omega)]
  rfl
 refine ⟨⟨VJ,VJ⟩,λh4=>⟨λh5=>hF ?_,λh5=>?_⟩,λh4=>?_⟩;have h5:=B0 h5;rw [hP,h4,decide_eq_true (show 1<s.size by omega)]
 simp;have h5:=of_decide_eq_false h5;have q:=hp (by rw [decide_eq_false (show ¬1<s.size by omega),Bool.and_false])
 exact ⟨q,hx,tail q⟩;have q:=hp (by rw [h4];rfl)
 exact ⟨q,hx,tail q⟩
end
theorem xS(s:ByteArray)(j:Nat):DI s j=((s.data.toList.getD j 0).toNat:Int):=by
 unfold DI;rcases An j s.size with h|h;have h1:s[j]? =some s[j]:=getElem?_pos s j h;rw [h1,List.getD_eq_getElem?_getD];have h2:s.data.toList[j]? =some s[j]:=by
  rw [Array.getElem?_toList];exact Array.getElem?_eq_getElem h
 rw [h2];rfl;have h1:s[j]? =none:=getElem?_neg s j VJ;have h2:s.data.toList[j]? =none:=by
  rw [Array.getElem?_toList];exact Array.getElem?_eq_none h
 rw [h1,List.getD_eq_getElem?_getD,h2];rfl
theorem Qf1(s:ByteArray)(a:Nat): ∀(u:Nat),(∀j,j<(Lib.decDigits u).length->DI s (a+j)=(((Lib.decDigits u).getD j 0).toNat:Int))->dvI s a (Lib.decDigits u).length=u/\(∀j,j<(Lib.decDigits u).length->dgQ s a j=true)/\(1<=u->DI s a≠48)/\1<=(Lib.decDigits u).length/\(2<=(Lib.decDigits u).length->10<=u):=by
 intro u
 induction u using Nat.strongRecOn with
 |ind u ih=>
  intro h;rcases An u 10 with hu|hu;have e:=Lib.decDigits_one hu;rw [e] at h ⊢;have h0:=h 0 VT;have e0:(([UInt8.ofNat (48+u)]:List UInt8).getD 0 0).toNat=48+u:=by
   show (UInt8.ofNat (48+u)).toNat=_;rw [UInt8.toNat_ofNat_of_lt' (by show _<256;omega)]
  rw [e0,Bg] at h0;have hd:dgQ s a 0=true:=by
   unfold dgQ;rw [Bg,h0,bt_iff];omega
  refine ⟨?_,λj hj=>?_,λh1=>by rw [h0];omega,VT,λh2=>absurd h2 VT⟩
  show 10*0+(DI s (a+0)-48)=(u:Int);rw [Bg,h0];omega;have hj:j<1:=hj;obtain rfl:j=0:=VJ;exact hd;have e:Lib.decDigits u=Lib.decDigits (u / 10)++[UInt8.ofNat (48+u%10)]:=by
   rw [Lib.decDigits,dif_neg VJ]
  rw [e] at h ⊢;have hl:(Lib.decDigits (u / 10)++[UInt8.ofNat (48+u%10)]).length=(Lib.decDigits (u / 10)).length+1:=VT;rw [hl] at h ⊢;have i1:=ih (u / 10) VJ λj hj=>by
   rw [h j VJ,List.getD_eq_getElem?_getD,List.getElem?_append_left hj,←List.getD_eq_getElem?_getD]
  obtain ⟨i1,i2,i3,i4,i5⟩:=i1;have h0:=h (Lib.decDigits (u / 10)).length VJ;rw [List.getD_eq_getElem?_getD,List.getElem?_append_right (Am _),Bs,←List.getD_eq_getElem?_getD] at h0;have e0:(([UInt8.ofNat (48+u%10)]:List UInt8).getD 0 0).toNat=48+u%10:=by
   show (UInt8.ofNat (48+u%10)).toNat=_;rw [UInt8.toNat_ofNat_of_lt' (by show _<256;omega)]
  rw [e0] at h0;refine ⟨?_,λj hj=>?_,λ_=>i3 VJ,VJ,λ_=>hu⟩;show 10*dvI s a (Lib.decDigits (u / 10)).length+(DI s (a+(Lib.decDigits (u / 10)).length)-48)=(u:Int);rw [i1,h0];omega;rcases (show j<(Lib.decDigits (u / 10)).length\/j=(Lib.decDigits (u / 10)).length by omega) with h1|rfl
  exact i2 j h1;unfold dgQ;rw [h0,bt_iff];omega
theorem Wg1{s:ByteArray}(h:rY s=true):nuG s=true/\nvG s=U0 s:=by
 unfold rY at h;unfold U0;cases ha:Lib.atoiAll s.data.toList with
 |«syntax»=>rw [ha] at h;cases h
 |range=>rw [ha] at h;cases h
 |ok v=>
  rw [ha] at h;simp only [GU,qQ] at h;obtain ⟨h1,h2⟩:=h;have hz:s.size=s.data.toList.length:=Lib.size_eq s;show nuG s=true/\nvG s=v;rcases Int.lt_or_le v 0 with hv|hv;have e:s.data.toList=45::Lib.decDigits v.natAbs:=by
   rw [←h1];unfold Lib.itoa;rw [if_pos hv]
  have hb: ∀j,j<(Lib.decDigits v.natAbs).length->DI s (1+j)=(((Lib.decDigits v.natAbs).getD j 0).toNat:Int):=λj _=>by
   rw [xS,e,Bh];rfl
  obtain ⟨d1,d2,d3,d4,_⟩:=Qf1 s 1 v.natAbs hb;have hl:(Lib.decDigits v.natAbs).length<=9:=by
   rw [e] at h2;simpa [Lib.trimPrefix,Lib.hasPrefix] using h2
  rw [e,Bj] at hz;have ng:ngB s=true:=by
   unfold ngB;rw [decide_eq_true (show 0<s.size by omega),xS,e]
   rfl
  have hn:n0N s=1:=by
   unfold n0N;rw [ng]
  have hP:nuP s=true:=by
   unfold nuP;rw [hn,decide_eq_true (show 1<s.size by omega),decide_eq_true (show s.size<=1+9 by omega)]
   have:=d3 VJ;simp [this]
  have hk:s.size-1=(Lib.decDigits v.natAbs).length:=VJ;have hA:nuA s=true:=by
   unfold nuA;rw [hn,hk];exact GC.2 d2
  have hG:nuG s=true:=by
   unfold nuG;rw [hP,hA];rfl
  refine ⟨hG,?_⟩;unfold nvG;rw [if_pos hG,if_pos ng,hn,hk,d1];omega;have e:s.data.toList=Lib.decDigits v.toNat:=by
   rw [←h1];unfold Lib.itoa;rw [if_neg VJ]
  have hb: ∀j,j<(Lib.decDigits v.toNat).length->DI s (0+j)=(((Lib.decDigits v.toNat).getD j 0).toNat:Int):=λj _=>by
   rw [xS,e,Ap]
  obtain ⟨d1,d2,d3,d4,d5⟩:=Qf1 s 0 v.toNat hb;rw [e] at hz;have h0:=(bt_iff _ _ _).1 (show bt 48 (DI s (0+0)) 57=true from d2 0 VJ);rw [Bg] at h0;have hl:(Lib.decDigits v.toNat).length<=9:=by
   rw [e] at h2;have hp:Lib.hasPrefix (Lib.decDigits v.toNat) [45]=false:=by
    have hb0:=xS s 0;rw [e] at hb0;cases hd:Lib.decDigits v.toNat with
    |nil=>rfl
    |cons c l=>
     rw [hd] at hb0;have hc:c.toNat≠45:=λh=>by
      have:DI s 0=(c.toNat:Int):=hb0;omega
     have:((45:UInt8)==c)=false:=by
      rw [beq_eq_false_iff_ne];rintro rfl;exact hc rfl
     simp [Lib.hasPrefix,List.isPrefixOf,this]
   unfold Lib.trimPrefix at h2;rw [hp] at h2;exact h2
  have ng:ngB s=false:=by
   unfold ngB;have:(DI s 0==45)=false:=by
    rw [beq_eq_false_iff_ne];omega
   rw [this,Bool.and_false]
  have hn:n0N s=0:=by
   unfold n0N;rw [ng]
  have hP:nuP s=true:=by
   unfold nuP;rw [hn,decide_eq_true (show 0<s.size by omega),decide_eq_true (show s.size<=0+9 by omega)]
   have:(DI s 0==48&&decide (1<s.size))=false:=by
    rcases An 1 s.size with h3|h3;have h4:=d3 (by have:=d5 VJ;omega)
    rw [beq_eq_false_iff_ne.2 h4,Bool.false_and];rw [decide_eq_false (show ¬1<s.size by omega),Bool.and_false]
   rw [this];rfl
  have hk:s.size-0=(Lib.decDigits v.toNat).length:=VJ;have hA:nuA s=true:=by
   unfold nuA;rw [hn,hk];exact GC.2 d2
  have hG:nuG s=true:=by
   unfold nuG;rw [hP,hA];rfl
  refine ⟨hG,?_⟩;unfold nvG;rw [if_pos hG,ng,if_neg (by decide),hn,hk,d1]
  omega
def RZ:List UInt8->List (List UInt8)
 |[]=>[[]]
 |c::l=>if c=32 then []::RZ l else (c::(RZ l).headD [])::(RZ l).tail
theorem uG: ∀l,RZ l≠[]
 |[]=>by simp [RZ]
 |c::l=>by
  unfold RZ;split<;>simp
theorem Xv9{l:List (List UInt8)}(h:l≠[]):l.headD []::l.tail=l:=by
 cases l with
 |nil=>exact absurd rfl h
 |cons a l=>rfl
theorem SP: ∀l,∀w∈RZ l,∀x∈w,x≠32
 |[],w,A,x,hx=>by
  simp only [RZ,GM,DL,or_false] at A;subst A;cases hx
 |c::l,w,A,x,hx=>by
  have ih:=SP l;unfold RZ at A;split at A;rcases GM.1 A with rfl|A;cases hx;exact ih w A x hx;rename_i hc;have e:=Xv9 (uG l);rcases GM.1 A with rfl|A;rcases GM.1 hx with rfl|hx;exact hc;exact ih _ (by rw [←e];exact GD) x hx
  exact ih w (by rw [←e];exact HL _ A) x hx
theorem Xj1{w:List UInt8}{l:List (List UInt8)}(h:l≠[]):jnL (w::l)=w++32::jnL l:=by
 cases l with
 |nil=>exact absurd rfl h
 |cons a l=>rfl
theorem Xj0(c:UInt8)(w:List UInt8): ∀l,jnL ((c::w)::l)=c::jnL (w::l)
 |[]=>rfl
 |_::_=>rfl
theorem a8: ∀l,jnL (RZ l)=l
 |[]=>rfl
 |c::l=>by
  have ih:=a8 l;unfold RZ;split;rename_i hc;rw [Xj1 (uG l),ih,hc];rfl;rw [Xj0,Xv9 (uG l),ih]
def stW(ws:List (List UInt8)):Nat->Nat
 | 0=>0
 |c+1=>stW ws c+(ws.getD c []).length+1
theorem Qa0(w:List UInt8)(ws:List (List UInt8)): ∀c,stW (w::ws) (c+1)=w.length+1+stW ws c
 | 0=>by
  show 0+w.length+1=w.length+1+0;omega
 |c+1=>by
  show stW (w::ws) (c+1)+(ws.getD c []).length+1=w.length+1+(stW ws c+(ws.getD c []).length+1);rw [Qa0 w ws c];omega
theorem Wi7: ∀(ws:List (List UInt8)) (c:Nat),c<ws.length->(∀t,t<(ws.getD c []).length->(jnL ws)[stW ws c+t]? =(ws.getD c [])[t]?)/\(c+1<ws.length->(jnL ws)[stW ws c+(ws.getD c []).length]? =some 32)/\stW ws c+(ws.getD c []).length<=(jnL ws).length/\(c+1=ws.length->stW ws c+(ws.getD c []).length=(jnL ws).length)/\((jnL ws).drop (stW ws c)).take (ws.getD c []).length=ws.getD c []
 |[],c,h=>absurd h (Aq c)
 |[w],c,h=>by
  have h:c<1:=h;obtain rfl:c=0:=VJ;show (∀t,t<w.length->w[0+t]? =w[t]?)/\(0+1<1->w[0+w.length]? =some 32)/\0+w.length<=w.length/\(0+1=1->0+w.length=w.length)/\(w.drop 0).take w.length=w;exact ⟨λt _=>by rw [Ap],λh=>absurd h VJ,VJ,λ_=>VJ,VT⟩
 |w::v::r,0,_=>by
  show (∀t,t<w.length->(w++32::jnL (v::r))[0+t]? =w[t]?)/\(0+1<r.length+1+1->(w++32::jnL (v::r))[0+w.length]? =some 32)/\0+w.length<=(w++32::jnL (v::r)).length/\(0+1=r.length+1+1->0+w.length=(w++32::jnL (v::r)).length)/\((w++32::jnL (v::r)).drop 0).take w.length=w;refine ⟨λt ht=>by rw [Ap,List.getElem?_append_left ht],λ_=>?_,VT,λh=>absurd h VJ,VT⟩
  rw [Ap,List.getElem?_append_right (Am _),Bs];rfl
 |w::v::r,c+1,h=>by
  have h:c+1<(v::r).length+1:=h;obtain ⟨i1,i2,i3,i4,i5⟩:=Wi7 (v::r) c VJ;have e: ∀x,(w++32::jnL (v::r))[w.length+1+x]? =(jnL (v::r))[x]? :=λx=>by
   rw [List.getElem?_append_right VJ,show w.length+1+x-w.length=x+1 by omega]
   rfl
  have hl:(w++32::jnL (v::r)).length=w.length+1+(jnL (v::r)).length:=by
   rw [Be,Bj];omega
  rw [Qa0];show (∀t,t<((v::r).getD c []).length->(w++32::jnL (v::r))[w.length+1+stW (v::r) c+t]? =((v::r).getD c [])[t]?)/\(c+1+1<(v::r).length+1->(w++32::jnL (v::r))[w.length+1+stW (v::r) c+((v::r).getD c []).length]? =some 32)/\w.length+1+stW (v::r) c+((v::r).getD c []).length<=(w++32::jnL (v::r)).length/\(c+1+1=(v::r).length+1->w.length+1+stW (v::r) c+((v::r).getD c []).length=(w++32::jnL (v::r)).length)/\((w++32::jnL (v::r)).drop (w.length+1+stW (v::r) c)).take ((v::r).getD c []).length=(v::r).getD c [];refine ⟨λt ht=>by rw [Ba (w.length+1),e,i1 t ht],λh1=>by rw [Ba (w.length+1),e,i2 VJ],VJ,λh1=>by have:=i4 VJ;omega,?_⟩
  have hd:(w++32::jnL (v::r)).drop (w.length+1+stW (v::r) c)=(jnL (v::r)).drop (stW (v::r) c):=by
   rw [List.drop_append,show w.length+1+stW (v::r) c-w.length=stW (v::r) c+1 by omega,List.drop_eq_nil_of_le VJ]
   rfl
  rw [hd,i5]
theorem Wh4(s:ByteArray):lnN s=(RZ s.data.toList).length/\ ∀k,HW s k=⟨((RZ s.data.toList).getD k []).toArray⟩:=Jg6 (a8 _).symm (uG _) (SP _)
def scC(s:ByteArray):Nat->Nat
 | 0=>0
 |i+1=>if DI s i=32 then scC s i+1 else scC s i
def scF(s:ByteArray):Nat->Nat
 | 0=>0
 |i+1=>if DI s i=32 then i+1 else scF s i
theorem by32{s:ByteArray}{i:Nat}:DI s i=32↔s.data.toList.getD i 0=32:=by
 rw [xS];constructor;intro h;exact UInt8.toNat_inj.1 (show (s.data.toList.getD i 0).toNat=(32:UInt8).toNat by show _=32;omega)
 intro h;rw [h];rfl
theorem C6(s:ByteArray): ∀i,i<=s.size->scC s i<(RZ s.data.toList).length/\scF s i=stW (RZ s.data.toList) (scC s i)/\scF s i<=i/\i<=scF s i+((RZ s.data.toList).getD (scC s i) []).length
 | 0,_=>⟨List.length_pos_iff.2 (uG _),rfl,Am _,Ao _⟩
 |i+1,O=>by
  obtain ⟨h1,h2,h3,h4⟩:=C6 s i VJ;have hz:s.size=s.data.toList.length:=Lib.size_eq s;obtain ⟨j1,j2,j3,j4,j5⟩:=Wi7 (RZ s.data.toList) (scC s i) h1;rw [a8] at j1 j2 j3 j4;have key:DI s i=32↔i=scF s i+((RZ s.data.toList).getD (scC s i) []).length:=by
   rw [by32];constructor;intro h;rcases An i (scF s i+((RZ s.data.toList).getD (scC s i) []).length) with h5|h5;exfalso;have h6:=j1 (i-scF s i) VJ;rw [←h2,show scF s i+(i-scF s i)=i by omega] at h6
   have h7:((RZ s.data.toList).getD (scC s i) [])[i-scF s i]? =some ((RZ s.data.toList).getD (scC s i) [])[i-scF s i]:=D0 VJ;rw [List.getD_eq_getElem?_getD,h6,h7] at h;refine SP s.data.toList _ ?_ _ (List.getElem_mem (by omega:i-scF s i<((RZ s.data.toList).getD (scC s i) []).length)) h
   rw [List.getD_eq_getElem?_getD,D0 h1];exact List.getElem_mem h1;omega;intro h;have h5:scC s i+1<(RZ s.data.toList).length:=by
    rcases An (scC s i+1) (RZ s.data.toList).length with h6|h6;exact h6;have:=j4 VJ;omega
   have h6:=j2 h5;rw [←h2,←h] at h6;rw [List.getD_eq_getElem?_getD,h6];rfl
  by_cases hb:DI s i=32;have e:=key.1 hb;have h5:scC s i+1<(RZ s.data.toList).length:=by
   rcases An (scC s i+1) (RZ s.data.toList).length with h6|h6;exact h6;have:=j4 VJ;omega
  have e1:scC s (i+1)=scC s i+1:=if_pos hb;have e2:scF s (i+1)=i+1:=if_pos hb;rw [e1,e2];refine ⟨h5,?_,Am _,VJ⟩;show i+1=stW (RZ s.data.toList) (scC s i)+((RZ s.data.toList).getD (scC s i) []).length+1;omega;have e1:scC s (i+1)=scC s i:=if_neg hb;have e2:scF s (i+1)=scF s i:=if_neg hb;rw [e1,e2];have:i≠scF s i+((RZ s.data.toList).getD (scC s i) []).length:=λh=>hb (key.2 h);exact ⟨h1,h2,VJ,VJ⟩
theorem Xg1{s:ByteArray}{i:Nat}(O:i<=s.size)(h:i=s.size\/DI s i=32):s.extract (scF s i) i=HW s (scC s i)/\scC s i+1<=lnN s/\(i=s.size->scC s i+1=lnN s):=by
 obtain ⟨h1,h2,h3,h4⟩:=C6 s i O;have hz:s.size=s.data.toList.length:=Lib.size_eq s;obtain ⟨j1,j2,j3,j4,j5⟩:=Wi7 (RZ s.data.toList) (scC s i) h1;rw [a8] at j1 j2 j3 j4 j5;have e:i=scF s i+((RZ s.data.toList).getD (scC s i) []).length:=by
  rcases h with h|h;omega;rcases An i s.size with hs|hs;have h5:=C6 s (i+1) hs;have e1:scC s (i+1)=scC s i+1:=if_pos h;have e2:scF s (i+1)=i+1:=if_pos h;rw [e1,e2] at h5;have h6:i+1=stW (RZ s.data.toList) (scC s i)+((RZ s.data.toList).getD (scC s i) []).length+1:=h5.2.1;omega;omega
 obtain ⟨w1,w2⟩:=Wh4 s;refine ⟨?_,VJ,λhs=>?_⟩;rw [w2];refine (qO.2 ?_).symm;have hx:(s.extract (scF s i) i).data.toList=(s.data.toList.drop (scF s i)).take (i-scF s i):=Lib.extract_data _ _ _;rw [hx,show i-scF s i=((RZ s.data.toList).getD (scC s i) []).length by omega,h2,j5]
 rw [w1];rcases An (scC s i+1) (RZ s.data.toList).length with h6|h6;have h7:=j2 h6;rw [←h2,←e,Br VJ] at h7;cases h7;omega
section
variable (s:ByteArray)
def pcN(i:Nat):Nat:=if i<=s.size then scC s i else lnN s
def pfN(i:Nat):Nat:=if i<=s.size then scF s i else s.size+1
def paA:Bool:=D3 (λj=>nuG (HW s (1+j))) (lnN s-1)
end
def mS:UX
 |[.x (.string s)]=>some ([s.size<=100000],.tup [.x (.int .i64 (nvG s)),bl (nuG s)])
 |_=>none
theorem SI:VP VO 61 mS:=by
 refine ⟨(UJ Tryz.func61),?_⟩;intro avs ns res h hn;unfold mS at h;split at h;cases h;exact Qv0 _ (hn _ VT);cases h
theorem Xu1{a b:ByteArray}(h:(a.toList==b.toList)=true):a=b:=by
 have h1:a.toList=b.toList:=eq_of_beq h;rw [ByteArray.toList_eq,ByteArray.toList_eq] at h1;have h2:=qO.2 h1;rw [←h2]
theorem uI{a b:ByteArray}(h:(a.toList==b.toList)=false)(e:a=b):False:=by
 subst e;simp at h
theorem Zl1{s:ByteArray}{k:Nat}(hk:k<=s.size)(h:k=s.size\/DI s k=32):pfN s k<=k/\s.extract (pfN s k) k=HW s (pcN s k)/\pcN s (k+1)=pcN s k+1/\pfN s (k+1)=k+1:=by
 have e1:pcN s k=scC s k:=if_pos hk;have e2:pfN s k=scF s k:=if_pos hk;obtain ⟨h1,h2,h3⟩:=Xg1 hk h;have h4:=(C6 s k hk).2.2.1;rw [e1,e2];refine ⟨h4,h1,?_,?_⟩;unfold pcN;rcases An k s.size with hs|hs;rw [if_pos (show k+1<=s.size by omega)]
 exact if_pos (h.resolve_left VJ);rw [if_neg (show ¬k+1<=s.size by omega)]
 exact (h3 VJ).symm;unfold pfN;rcases An k s.size with hs|hs;rw [if_pos (show k+1<=s.size by omega)]
 exact if_pos (h.resolve_left VJ);rw [if_neg (show ¬k+1<=s.size by omega)]
 omega
theorem Jf0{s:ByteArray}{k:Nat}(hk:k<s.size)(h:DI s k≠32):pcN s (k+1)=pcN s k/\pfN s (k+1)=pfN s k:=by
 unfold pcN pfN;rw [if_pos (show k+1<=s.size by omega),if_pos (show k+1<=s.size by omega),if_pos (show k<=s.size by omega),if_pos (show k<=s.size by omega)]
 exact ⟨if_neg h,if_neg h⟩
section
variable (s:ByteArray)
theorem Jf5(k:Nat):pcN s k<=lnN s:=by
 unfold pcN;split;rename_i h;have:=(C6 s k h).1;have:=(Wh4 s).1;omega;exact Am _
theorem oY:lnN s<=s.size+1:=by
 have:=Lib.countB_le ⟨#[32]⟩ (by decide) s.size s (Am _)
 unfold lnN;omega
theorem Qc4:1<=lnN s:=Nat.le_add_left _ _
abbrev WO:AV:=AV.x (.string {data:=#[] })
def Zu6:St:={σ:=[HB s,top,WO,Q9,AV.lit false]++HI 77 [],m:=[(901,GO.row 9 1 0 λx=>[])],nx:=902}
noncomputable def Jv0:Code:=U9 (VS (U7 Tryz.f28) 0)
def Wk4(k:Nat):St:={σ:=GY [(5,.row 901),(6,i (pfN s k)),(7,i (k:Nat))] (Zu6 s).σ,m:=[(901,.row 9 1 (pcN s k) (λj=>[.x (.string (HW s j))]))],nx:=902}
def CS(k:Nat):G5->Option St
 | .exit 0=>some {σ:=GY [(5,.row 901),(6,i (pfN s (s.size+1))),(7,i ((s.size+1):Nat))] (Zu6 s).σ,m:=[(901,.row 9 1 (pcN s (s.size+1)) (λj=>[.x (.string (HW s j))]))],nx:=902}
 |_=>none
def Jq2:CT:= .leaf (.exit 0,(CS s 0 (.exit 0)).getD (Zu6 s))
def Xz4:UG:=GJ [(.slot 5,901,9,1)] (HF (Wk4 s (0)) (Jq2 s))
theorem Jf1(VR:s.size<100000):G6 VO (.loop Jv0) (Xz4 s):=by
 refine UR [(.slot 5,901,9,1)] (L:=[]) Aa Ad VZ U2 (X:=Nat) (Wk4 s) (λk=>k<=s.size+1) (λk=>s.size+1-k) (CS s) (x0:=0) VT ?_ ?_ ?_;rintro k;kernel_rfl;rintro k y E h;unfold CS at h;split at h;cases h;kernel_rfl;cases h;rintro Q hQ k hx;refine ⟨(k+1),?_⟩;(with_reducible refine D9 (t:=let Z:=([HB (ByteArray.extract s (pfN s k) k)]);let I:=(need [(0:Int)<=(pfN s k:Int)/\(pfN s k:Int)<=(k:Int)/\(k:Int)<=(ByteArray.size s:Int)] (need [(pcN s k+1)*16<=140737488355328,∀(i:Nat),i<1-> ∀(a:AV),a∈U4 1 Z i->AV.one a=true] (need [VL ((k:Int)+1)] (need [VL ((k:Int)+1)] (need [W5 s,WO=WO,Q9=Q9,WL,W2,(k:Int)+1=(↑(pfN s (k+1)):Int),(k:Int)+1=(↑(k+1):Int),pcN s k+1=pcN s (k+1),∀(i:Nat),i<pcN s (k+1)->GI (pcN s k) (λj=>[HB (HW s j)]) (U4 1 Z) i=[HB (HW s i)]] (leaf G5.normal))))));(branch (decide ((k:Int)<=(ByteArray.size s:Int))) (branch ((k:Int)==(ByteArray.size s:Int)) I (need [(0:Int)<=(k:Int)/\k<ByteArray.size s] (branch ((match s[k]? with|some b=>(UInt8.toNat b:Int)|none=>(0:Int))==32) I (need [VL ((k:Int)+1)] (need [W5 s,WO=WO,Q9=Q9,WL,W2,(pfN s k:Int)=(↑(pfN s (k+1)):Int),(k:Int)+1=(↑(k+1):Int),pcN s k=pcN s (k+1),∀(i:Nat),i<pcN s (k+1)->[HB (HW s i)]=[HB (HW s i)]] (leaf G5.normal)))))) (need [W5 s,WO=WO,Q9=Q9,WL,W2,(pfN s k:Int)=(↑(pfN s (ByteArray.size s+1)):Int),(k:Int)=(↑(ByteArray.size s+1):Int),pcN s k=pcN s (ByteArray.size s+1),∀(i:Nat),i<pcN s (ByteArray.size s+1)->[HB (HW s i)]=[HB (HW s i)]] (leaf (G5.exit 0))))) VU ?_)
 simp only [Jq2,CS,VM.sat,GS] at hQ;simp only [VM.sat,UB,G0,GL,UD,VL,UH,HA,FU,R9,RQ,GN,CS]
 have hb:(match s[k]? with|some b=>(UInt8.toNat b:Int)|none=>(0:Int))=DI s k:=rfl
 simp only [hb];have hl:=oY s;have hc:=Jf5 s k;have iJ:(k=s.size\/DI s k=32)->k<=s.size->(0<=((pfN s k:Nat):Int)/\((pfN s k:Nat):Int)<=k/\(k:Int)<=s.size)/\((pcN s k+1)*16<=140737488355328/\ ∀(i:Nat),i<1-> ∀(a:AV),a∈U4 1 [HB (s.extract (pfN s k) k)] i->a.one=true)/\(-9223372036854775808<=(k:Int)+1/\(k:Int)+1<=9223372036854775807)/\(-9223372036854775808<=(k:Int)+1/\(k:Int)+1<=9223372036854775807)/\((k:Int)+1=((pfN s (k+1):Nat):Int)/\(k:Int)+1=((k+1:Nat):Int)/\pcN s k+1=pcN s (k+1)/\ ∀(i:Nat),i<pcN s (k+1)->GI (pcN s k) (λj=>[HB (HW s j)]) (U4 1 [HB (s.extract (pfN s k) k)]) i=[HB (HW s i)])/\k+1<=s.size+1/\s.size+1-(k+1)<s.size+1-k:=λh1 h2=>by
  obtain ⟨g1,g2,g3,g4⟩:=Zl1 h2 h1;refine ⟨VJ,⟨VJ,λi _ a ha=>FC ha (λa ha=>by rw [PM.1 ha];rfl)⟩,VJ,VJ,⟨VJ,VJ,g3.symm,λi O=>?_⟩,VJ,VJ⟩
  rw [g3] at O;exact catS (a:=HW s) O g2
 refine ⟨λh=>⟨λh1=>iJ (.inl (by have:=eq_of_beq h1;omega)) VJ,λh1=>⟨by have:=ne_of_beq_false h1;omega,λh2=>iJ (.inr (eq_of_beq h2)) VJ,λh2=>?_⟩⟩,λh=>?_⟩
 have h1:=ne_of_beq_false h1;obtain ⟨g1,g2⟩:=Jf0 (s:=s) (k:=k) VJ (ne_of_beq_false h2);exact ⟨VJ,⟨by rw [g2],VJ,g1.symm,λ_ _=>Ak⟩,VJ,VJ⟩
 obtain rfl:k=s.size+1:=VJ;exact ⟨⟨rfl,rfl,rfl,λ_ _=>Ak⟩,λE hE=>by cases hE;exact hQ⟩
def Xd4:St:={σ:=[HB s,top,top,top,top,AV.row 901,iI (↑(pfN s (ByteArray.size s+1)):Int),iI (↑(ByteArray.size s+1):Int),iI (-1:Int)]++HI 31 [HB (HW s (0:Int).toNat),AV.lit false,top,top,AV.lit false,top,top,top,AV.lit false]++HI 33 [],m:=[(902,KO),(901,GO.row 9 1 (pcN s (ByteArray.size s+1)) λj=>[HB (HW s j)])],nx:=929}
noncomputable def Ju9:Code:=U9 (VS (U7 Tryz.f28) 1)
def Wk3(k:Nat):St:={σ:=GY [(8,.top),(9,.row 902),(10,i ((1+k:Nat))),(11,.top),(12,.top),(41,.top),(44,.top),(48,.top),(51,.top)] (Xd4 s).σ,m:=[(902,.row 3 1 k (λj=>[i (nvG (HW s (1+j)))])),(901,.row 9 1 (lnN s) (λj=>[.x (.string (HW s j))]))],nx:=903}
def dL(k:Nat):G5->Option St
 | .exit 3=>some {σ:=GY [(8,.top),(9,.row 902),(10,i ((1+(lnN s-1):Nat))),(11,.top),(12,.top),(41,.top),(44,.top),(48,.top),(51,.top)] (Xd4 s).σ,m:=[(902,.row 3 1 (lnN s-1) (λj=>[i (nvG (HW s (1+j)))])),(901,.row 9 1 (lnN s) (λj=>[.x (.string (HW s j))]))],nx:=903}
 | .ret=>some {σ:=GY [(2,.x (.string ByteArray.empty)),(3,.x (.slice none 0 0)),(4,bl false),(8,.top),(9,.top),(10,.top),(11,.top),(12,.top),(41,.top),(44,.top),(48,.top),(51,.top)] (Xd4 s).σ,m:=[],nx:=903}
 |_=>none
def Jq1:CT:= .branch (paA s) (.leaf (.exit 3,(dL s 0 (.exit 3)).getD (Xd4 s))) (.leaf (.ret,(dL s 0 .ret).getD (Xd4 s)))
def Xz3:UG:=GJ [(.slot 9,902,3,1)] (HF (Wk3 s (0)) (Jq1 s))
theorem Je9(VR:s.size<100000):G6 VO (.loop Ju9) (Xz3 s):=by
 refine UR [(.slot 9,902,3,1)] (L:=[]) (Ae SI Aa) Ad VZ U2 (X:=Nat) (Wk3 s) (λk=>k<=lnN s-1/\ ∀j,j<k->nuG (HW s (1+j))=true) (λk=>lnN s-1-k) (dL s) (x0:=0) ⟨Ao _,λj hj=>absurd hj (Aq j)⟩ ?_ ?_ ?_;rintro k;kernel_rfl;rintro k y E h;unfold dL at h;split at h;cases h;kernel_rfl;cases h;kernel_rfl;cases h;rintro Q hQ k hx;refine ⟨(k+1),?_⟩;(with_reducible refine D9 (t:=let I:=(VY (HB (HW s (0:Int).toNat)));let Z:=(VY (↑(pfN s (ByteArray.size s+1)):Int));let S:=(VY (↑(ByteArray.size s+1):Int));(branch (decide ((↑(1+k):Int)<(lnN s:Int))) (need [UI (↑(1+k):Int) (lnN s:Int)] (need [1+k<lnN s] (need [ByteArray.size (HW s (1+k))<=100000] (branch (!nuG (HW s (1+k))) (need [W5 s,AV.x (.string {data:=#[] })=HB ByteArray.empty,Q9=Q9,false=false,W2,Z,S,I] (leaf G5.ret)) (need [(k+1)*8<=140737488355328,RP 1 (U4 1 [iI (nvG (HW s (1+k)))])] (need [VL ((↑(1+k):Int)+1)] (need [W5 s,W2,Z,S,W8,(↑(1+k):Int)+1=(↑(1+(k+1)):Int),I,k+1=k+1,GV (k+1) (GI k (λj=>[iI (nvG (HW s (1+j)))]) (U4 1 [iI (nvG (HW s (1+k)))])) (λi=>[iI (nvG (HW s (1+i)))]),lnN s=lnN s,∀(i:Nat),i<lnN s->[HB (HW s i)]=[HB (HW s i)]] (leaf G5.normal)))))))) (need [W5 s,W2,Z,S,W8,(↑(1+k):Int)=(↑(1+(lnN s-1)):Int),I,k=lnN s-1,∀(i:Nat),i<lnN s-1->[iI (nvG (HW s (1+i)))]=[iI (nvG (HW s (1+i)))],lnN s=lnN s,∀(i:Nat),i<lnN s->[HB (HW s i)]=[HB (HW s i)]] (leaf (G5.exit 3))))) VU ?_)
 simp only [Jq1,dL,VM.sat,GS] at hQ;simp only [VM.sat,UB,UH,HA,VL,dL,F4];have hl:=oY s;have hp:=Qc4 s;have hz:(HW s (1+k)).size<=100000:=(O7 s VR).2.2.2 _;have N3:nuG (HW s (1+k))=false->1+k<lnN s->paA s=false:=λh1 h2=>by
  cases ha:paA s;rfl;exact Bool.noConfusion (h1.symm.trans (GC.1 ha k VJ))
 obtain ⟨hx1,hx2⟩:=hx
 refine ⟨λh=>⟨VJ,VJ,hz,λh1=>⟨rfl,λE hE=>?_⟩,λh1=>?_⟩,λh=>?_⟩;cases hE;exact hQ.2 (N3 (by simpa using h1) VJ)
 refine ⟨⟨VJ,λq _ a ha=>FC ha (λa ha=>by rw [PM.1 ha];simp [AV.one,Value.oneCell'])⟩,VJ,⟨VJ,λq hq=>Pt.catF1 (a:=λj=>nvG (HW s (1+j))) hq rfl,λ_ _=>Ak⟩,⟨VJ,λj hj=>?_⟩,VJ⟩
 rcases (show j<k\/j=k by omega) with h3|rfl
 exact hx2 j h3;simpa using h1;obtain rfl:k=lnN s-1:=VJ;refine ⟨⟨rfl,rfl,λ_ _=>Ak,λ_ _=>Ak⟩,λE hE=>?_⟩;cases hE;exact hQ.1 (GC.2 hx2)
end
def paM(w:ByteArray):Int:=match wdK w with
 | 0=>4
 | 1=>1
 | 2=>2
 | 3=>2
 | 4=>2
 | 5=>4
 | 6=>1
 | 7=>5
 |_=> -1
section
variable (s:ByteArray)
def paB:Bool:=decide ((lnN s:Int)=paM (HW s 0)+1)&&paA s
abbrev XB:AV:=tup [HB ByteArray.empty,Q9,AV.x (W6)]
abbrev XZ:AV:=lst 1 (lnN s-1) λj=>[iI (nvG (HW s (1+j)))]
abbrev JE:AV:=tup [WO,Q9,AV.lit false]
theorem Wz6(VR:s.size<100000):UN VO 28 [.x (.string s)] (.branch (paB s) (.leaf (.tup [.x (.string (HW s 0)),.lst 1 (lnN s-1) (λj=>[i (nvG (HW s (1+j)))]),bl true])) (.leaf (.tup [.x (.string ByteArray.empty),.x (.slice none 0 0),bl false]))):=by
 refine GT (L:=[Xz4 s,Xz3 s]) (Ae SI Aa) Ad VZ Tryz.func28 (UU Tryz.f28) (yZ (lpE (b:= .loop Jv0) VU<|(Jf1 s VR).N) (lpE (b:= .loop Ju9) VU<|(Je9 s VR).N)) (t:=let S:=(HW s (0:Int).toNat);let I:=(need [W5 s,W2,VY (↑(pfN s (ByteArray.size s+1)):Int),VY (↑(ByteArray.size s+1):Int),W8,(1:Int)=((1:Nat):Int),VY (HB S),0=0,∀(i:Nat),i<0->[]=[iI (nvG (HW s (1+i)))],pcN s (ByteArray.size s+1)=lnN s,∀(i:Nat),i<lnN s->[HB (HW s i)]=[HB (HW s i)]] (branch (paA s) (need [UI 0 (lnN s:Int)] (need [(0:Int).toNat<lnN s] (leaf (tup [HB S,XZ s,AV.lit true])))) (leaf (XB))));let z3:=(pcN s (ByteArray.size s+1));let Z:=(need [VL ((2:Int)+1)] (branch ((z3:Int) != 2+1) (leaf (JE)) I));let z4:=(need [VL ((1:Int)+1)] (branch ((z3:Int) != 1+1) (leaf (JE)) I));let z5:=(need [VL ((4:Int)+1)] (branch ((z3:Int) != 4+1) (leaf (JE)) I));(need [W5 s,WO=WO,Q9=Q9,WL,W2,(0:Int)=(pfN s 0:Int),(0:Int)=((0:Nat):Int),0=pcN s 0,∀(i:Nat),i<pcN s 0->[]=[HB (HW s i)]] (need [UI 0 z3] (need [(0:Int).toNat<pcN s (ByteArray.size s+1)] (branch (ByteArray.toList S==ByteArray.toList {data:=#[115,116,114,105,107,101] }) z4 (branch (ByteArray.toList S==ByteArray.toList {data:=#[118,111,105,100] }) z4 (branch (ByteArray.toList S==ByteArray.toList {data:=#[98,97,114,111] }) Z (branch (ByteArray.toList S==ByteArray.toList {data:=#[98,97,116,104] }) Z (branch (ByteArray.toList S==ByteArray.toList {data:=#[115,101,101] }) Z (branch (ByteArray.toList S==ByteArray.toList {data:=#[116,104,114,101,97,100] }) z5 (branch (ByteArray.toList S==ByteArray.toList {data:=#[105,115,115,117,101] }) z5 (branch (ByteArray.toList S==ByteArray.toList {data:=#[115,101,108,108] }) (need [VL ((5:Int)+1)] (branch ((z3:Int) != 5+1) (leaf (JE)) I)) (need [VL ((-1:Int)+1)] (branch ((z3:Int) != (-1:Int)+1) (leaf (JE)) I)))))))))))))) VU ?_
 intro Q hQ;simp only [VM.sat,UB,UH,VL,F4] at hQ ⊢;have hc:pcN s (s.size+1)=lnN s:=if_neg VJ;have hf0:pfN s 0=0:=if_pos (Ao _);have hc0:pcN s 0=0:=if_pos (Ao _);have hp:=Qc4 s;have hl:=oY s;have I:Int.toNat 0=0:=rfl;simp only [hc,hf0,hc0,I,true_and];have blk: ∀m:Int,paM (HW s 0)=m-> -1<=m->m<=5->(-9223372036854775808<=m+1/\m+1<=9223372036854775807)/\((((lnN s:Nat):Int) != m+1)=true-> ∃r',DX (JE) r'/\Q r')/\((((lnN s:Nat):Int) != m+1)=false->((1:Int)=((1:Nat):Int)/\(∀(q:Nat),q<0->[]=[i (nvG (HW s (1+q)))])/\ ∀(q:Nat),q<lnN s->True)/\(paA s=true->((0:Int)<=0/\(0:Int)<((lnN s:Nat):Int))/\0<lnN s/\ ∃r',DX (tup [HB (HW s 0),XZ s,AV.lit true]) r'/\Q r')/\(paA s=false-> ∃r',DX (XB) r'/\Q r')):=λm hm h1 h2=>by
  have hno:paB s=false-> ∃r',DX (tup [WO,Q9,AV.lit false]) r'/\Q r':=λh=>⟨.tup [.x (.string ByteArray.empty),.x (.slice none 0 0),bl false],⟨rfl,rfl,rfl,Ak⟩,hQ.2 h⟩;have hno':paB s=false-> ∃r',DX (XB) r'/\Q r':=λh=>⟨.tup [.x (.string ByteArray.empty),.x (.slice none 0 0),bl false],⟨rfl,rfl,rfl,Ak⟩,hQ.2 h⟩;have hpb:paB s=(decide ((lnN s:Int)=m+1)&&paA s):=by
   unfold paB;rw [hm]
  refine ⟨VJ,λh=>hno ?_,λh=>⟨⟨rfl,λq hq=>absurd hq (Aq q),λ_ _=>Ak⟩,λh3=>⟨VJ,VJ,?_⟩,λh3=>hno' ?_⟩⟩;have h4: ¬(lnN s:Int)=m+1:=by simpa using h
  rw [hpb,decide_eq_false h4];rfl;have h4:(lnN s:Int)=m+1:=by simpa using h
  exact ⟨.tup [.x (.string (HW s 0)),.lst 1 (lnN s-1) (λj=>[i (nvG (HW s (1+j)))]),bl true],⟨rfl,⟨rfl,rfl,λ_ _=>rfl⟩,rfl,Ak⟩,hQ.1 (by rw [hpb,decide_eq_true h4,h3];rfl)⟩
  rw [hpb,h3,Bool.and_false]
 have tr: ∀{q:ByteArray} {m:Int},((HW s 0).toList==q.toList)=true->paM q=m->paM (HW s 0)=m:=λh h2=>by
  rw [Xu1 h];exact h2
 refine ⟨?_,VJ,VJ,λh=>blk 1 (tr h rfl) (by decide) (by decide),λh1=>⟨λh=>blk 1 (tr h rfl) (by decide) (by decide),λh2=>⟨λh=>blk 2 (tr h rfl) (by decide) (by decide),λh3=>⟨λh=>blk 2 (tr h rfl) (by decide) (by decide),λh4=>⟨λh=>blk 2 (tr h rfl) (by decide) (by decide),λh5=>⟨λh=>blk 4 (tr h rfl) (by decide) (by decide),λh6=>⟨λh=>blk 4 (tr h rfl) (by decide) (by decide),λh7=>⟨λh=>blk 5 (tr h rfl) (by decide) (by decide),λh8=>blk (-1) ?_ (by decide) (by decide)⟩⟩⟩⟩⟩⟩⟩⟩
 ·(with_reducible repeat' first|apply Al|intro _)
  all_goals first|exact Ak|rfl|(rename_i hq;exact absurd hq (Aq _))
 rcases jI (HW s 0) with ⟨g1,g2⟩|⟨g1,_⟩;exfalso;rcases (show wdK (HW s 0)=0\/wdK (HW s 0)=1\/wdK (HW s 0)=2\/wdK (HW s 0)=3\/wdK (HW s 0)=4\/wdK (HW s 0)=5\/wdK (HW s 0)=6\/wdK (HW s 0)=7 by omega) with h|h|h|h|h|h|h|h<;>rw [h] at g2<;>have g3:=(Bb g2).symm
 exact uI h6 g3;exact uI h1 g3;exact uI h3 g3;exact uI h4 g3;exact uI h5 g3;exact uI h7 g3;exact uI h2 g3;exact uI h8 g3;unfold paM;rw [g1];rfl
end
def sdW(s:HS)(W:Cf)(f:Nat->Bool):Nat->Bool:=match wdK (W 0) with
 | 5=>λj=>if j<s.nc then f j else true
 | 6=>λj=>if (j:Int)=U0 (W 1) then false else f j
 | 1=>λ_=>false
 | 2=>λ_=>false
 |_=>f
def sdF(L:Cf):Nat->Nat->Bool
 | 0=>λ_=>false
 |i+1=>if eK L i=0 then sdW (sK L i) (HW (L i)) (sdF L i) else sdF L i
structure HSd (s:HS) (f:Nat->Bool):Prop where
 dd: ∀k,k<s.nc->0<=s.cd k/\s.cd k<=10000
 st: ∀k,k<s.nc->f k=true->stP s (s.cd k) k=true
theorem Xg0{W:Cf}{n:Nat}{s:HS}{f:Nat->Bool}(ht:HSr s)(hd:HSd s f)(h0:FT W n s=0):HSd (D1 W s) (sdW s W f):=by
 unfold FT at h0;have es: ∀(c:Nat) (g:Nat->Bool),wdK (W 0)=c->(match c with| 5=>λj=>if j<s.nc then f j else true| 6=>λj=>if (j:Int)=U0 (W 1) then false else f j| 1=>λ_=>false| 2=>λ_=>false|_=>f)=g->sdW s W f=g:=λc g h1 h2=>by
  unfold sdW;rw [h1];exact h2
 unfold D1;split at h0;rename_i A;rw [es _ _ A rfl];have h:=fm0 h0;have O:inE (thS s (U0 (W 1)) (U0 (W 2)) (U0 (W 3)) (U0 (W 4)))=0:=by
  unfold thE at h;split at h;split at h;split at h;assumption;exact absurd h (by decide)
  exact absurd h (by decide)
  exact absurd h (by decide)
 exact ⟨hd.dd,λk hk hf=>Jb6 ht O hk (hd.dd k hk) (hd.st k hk hf)⟩;rename_i A;rw [es _ _ A rfl];exact ⟨hd.dd,λk hk hf=>Bool.noConfusion hf⟩;rename_i A;rw [es _ _ A rfl];exact ⟨hd.dd,λk hk hf=>Bool.noConfusion hf⟩;rename_i A;rw [es _ _ A rfl];exact ⟨hd.dd,hd.st⟩;rename_i A;rw [es _ _ A rfl];exact ⟨hd.dd,hd.st⟩;rename_i A;rw [es _ _ A rfl];have h:=fm0 h0;unfold isE at h;split at h;rename_i h1;split at h;split at h;rename_i h3;refine ⟨λk hk=>?_,λk hk hf=>?_⟩;have hk:k<s.nc+1:=hk;show 0<=H4 s.nc s.cd _ k/\H4 s.nc s.cd _ k<=10000;unfold H4;by_cases e:k<s.nc;rw [if_pos e];exact hd.dd k e;rw [if_neg e];exact (bt_iff _ _ _).1 (Xw4 h1).2.2;have hk:k<s.nc+1:=hk;have hf:(if k<s.nc then f k else true)=true:=hf
 show stB s (H4 s.nc s.ca _ k) (H4 s.nc s.cb _ k) (H4 s.nc s.cc _ k) (H4 s.nc s.cd _ k) (apB s.nc s.cv false k) (H4 s.nc s.cd _ k)=true;unfold H4 apB;by_cases e:k<s.nc;rw [if_pos e] at hf;simp only [if_pos e];exact hd.st k e hf;simp only [if_neg e];unfold stB;rw [h1,h3];simp;exact absurd h (by decide)
 exact absurd h (by decide)
 exact absurd h (by decide)
 rename_i A;rw [es _ _ A rfl];refine ⟨hd.dd,λk hk hf=>?_⟩;have hf:(if (k:Int)=U0 (W 1) then false else f k)=true:=hf
 by_cases e:(k:Int)=U0 (W 1);rw [if_pos e] at hf;cases hf;rw [if_neg e] at hf;have h1:=hd.st k hk hf;show stB s (s.ca k) (s.cb k) (s.cc k) (s.cd k) (if (k:Int)=U0 (W 1) then true else s.cv k) (s.cd k)=true
 rw [if_neg e];exact h1;rename_i A;rw [es _ _ A rfl];exact ⟨hd.dd,hd.st⟩;exact absurd h0 (by decide)
theorem Wb9(L:Cf): ∀i,HSd (sK L i) (sdF L i)
 | 0=>⟨λk hk=>absurd hk (Aq k),λk hk=>absurd hk (Aq k)⟩
 |i+1=>by
  have ih:=Wb9 L i;show HSd (lnS (L i) (sK L i)) (if lnE (L i) (sK L i)=0 then sdW (sK L i) (HW (L i)) (sdF L i) else sdF L i)
  unfold lnS;by_cases h0:lnE (L i) (sK L i)=0;rw [if_pos h0,if_pos h0];exact Xg0 (Wc0 L i) ih h0;rw [if_neg h0,if_neg h0];exact ih
theorem We5{s:ByteArray}{x:HS}(h:lnE s x=0):paB s=true/\wdK (HW s 0)<8/\ ∀j,j+1<lnN s->nvG (HW s (1+j))=U0 (HW s (1+j)):=by
 have key: ∀(m:Nat) (e:Int),fmE (HW s) (lnN s) m e=0->lnN s=m+1/\nuB (HW s) (lnN s)=true:=λm e h=>by
  unfold fmE at h;split at h;assumption;exact absurd h (by decide)
 have fin: ∀(m:Nat),paM (HW s 0)=m->(lnN s=m+1/\nuB (HW s) (lnN s)=true)->paB s=true/\ ∀j,j+1<lnN s->nvG (HW s (1+j))=U0 (HW s (1+j)):=λm hm ⟨h1,h2⟩=>by
  have h3:=GC.1 h2;refine ⟨?_,λj hj=>(Wg1 (h3 j VJ)).2⟩;unfold paB;rw [hm,decide_eq_true (show (lnN s:Int)=(m:Int)+1 by omega),Bool.true_and]
  exact GC.2 λj hj=>(Wg1 (h3 j hj)).1
 unfold lnE FT at h;split at h;all_goals first
  |exact absurd h (by decide)
  |(rename_i A
    have k:=key _ _ h;have g:=fin _ (by unfold paM;rw [A];rfl) k
    exact ⟨g.1,by rw [A];decide,g.2⟩)
def Zs7:DD:=λl=>match l with
 |[.x (.string s)]=>some (.need [s.size<100000] (.branch (paB s) (.leaf (.tup [.x (.string (HW s 0)),.lst 1 (lnN s-1) (λj=>[i (nvG (HW s (1+j)))]),bl true])) (.leaf (.tup [.x (.string ByteArray.empty),.x (.slice none 0 0),bl false]))))
 |_=>none
def Xx5(L:Cf):UX
 |[.lst 1 N f]=>some ([N<=100000,sG N f (λj=>[.x (.string (L j))])],lns N L)
 |_=>none
def mN(n:Nat)(d:Int):Nat:=(1+d.tmod (n:Nat)).toNat
theorem Qb3:Sx.Enters Tryz.prog 28/\ ∀avs t,Zs7 avs=some t->UN VO 28 avs t:=by
 refine ⟨(UJ Tryz.func28),?_⟩;intro avs t h;unfold Zs7 at h;split at h;cases h;intro Q hQ;exact Wz6 _ hQ.1 Q hQ.2;cases h
theorem TW(L:Cf):VP VO 22 (Xx5 L):=by
 refine ⟨(UJ Tryz.func22),?_⟩;intro avs ns res h hn;unfold Xx5 at h;split at h;rename_i N f;cases h;have h1:sG N f (λj=>[.x (.string (L j))]):=hn _ VT;exact (Wi4 N L (hn _ VT)).same (.cons (.lst 1 N _ _ h1) .nil);cases h
theorem Wh1{n:Nat}{d:Int}(h:0<n)(hd:0<=d):(1+d.tmod (n:Nat):Int)=mN n d/\1<=mN n d/\mN n d<=n:=by
 have h1:d.tmod (n:Nat)=d%(n:Nat):=Int.tmod_eq_emod_of_nonneg hd;have h2:=Int.emod_nonneg d (show ((n:Nat):Int)≠0 by omega)
 have h3:=Int.emod_lt_of_pos d (show (0:Int)<(n:Nat) by omega)
 unfold mN;omega
section
variable {L:Cf}{k:Nat}
theorem Ji2(h: ¬eK L k=0):sK L (k+1)=sK L k/\sdF L (k+1)=sdF L k:=⟨if_neg h,if_neg h⟩
theorem aD(h:eK L k=0):sK L (k+1)=D1 (HW (L k)) (sK L k)/\sdF L (k+1)=sdW (sK L k) (HW (L k)) (sdF L k):=⟨if_pos h,if_pos h⟩
theorem ia_5(h:eK L k=0)(A:wdK (HW (L k) 0)=5):(sK L k).nc+1=(sK L (k+1)).nc/\ ∀j,sdF L (k+1) j=if j<(sK L k).nc then sdF L k j else true:=by
 obtain ⟨e1,e2⟩:=aD h;rw [e1,e2];unfold D1 sdW;rw [A];exact ⟨rfl,λ_=>rfl⟩
theorem ia_6(h:eK L k=0)(A:wdK (HW (L k) 0)=6):(sK L k).nc=(sK L (k+1)).nc/\(∀j:Nat,sdF L (k+1) j=if (j:Int)=U0 (HW (L k) 1) then false else sdF L k j)/\lnN (L k)=2/\0<=U0 (HW (L k) 1)/\U0 (HW (L k) 1)<(sK L k).nc:=by
 obtain ⟨e1,e2⟩:=aD h;rw [e1,e2];have h1:FT (HW (L k)) (lnN (L k)) (sK L k)=0:=h;unfold FT at h1;rw [A] at h1;have h2:fmE (HW (L k)) (lnN (L k)) 1 (voE (sK L k) (U0 (HW (L k) 1)))=0:=h1;have h3:=fm0 h2;unfold fmE at h2;split at h2;rename_i h4;unfold voE at h3;split at h3;rename_i h5;have h6:=(bt_iff _ _ _).1 h5.1;unfold D1 sdW;rw [A];exact ⟨rfl,λ_=>rfl,h4.1,h6.1,VJ⟩;exact absurd h3 (by decide)
 exact absurd h2 (by decide)
theorem Xv6(h:eK L k=0)(A:wdK (HW (L k) 0)=1\/wdK (HW (L k) 0)=2):(sK L k).nc=(sK L (k+1)).nc/\ ∀j,sdF L (k+1) j=false:=by
 obtain ⟨e1,e2⟩:=aD h;rw [e1,e2];unfold D1 sdW;rcases A with A|A<;>rw [A]<;>exact ⟨rfl,λ_=>rfl⟩
theorem ia_r(h:eK L k=0)(A:wdK (HW (L k) 0)=0\/wdK (HW (L k) 0)=3\/wdK (HW (L k) 0)=4\/wdK (HW (L k) 0)=7):(sK L k).nc=(sK L (k+1)).nc/\ ∀j,sdF L (k+1) j=sdF L k j:=by
 obtain ⟨e1,e2⟩:=aD h;rw [e1,e2];unfold D1 sdW;rcases A with A|A|A|A<;>rw [A]<;>exact ⟨rfl,λ_=>rfl⟩
end
theorem mgK{a b:Bool}{q:Nat}:H6 true [bl a] (U4 1 [.lit b] q)=[bl a]:=by
 rcases q with _|q;rfl;have e:U4 1 [AV.lit b] (q+1)=[]:=by
  unfold U4;rw [List.drop_eq_nil_of_le VT];rfl
 rw [e];rfl
theorem tU{w q:ByteArray}{c:Nat}(h:(w.toList==q.toList)=true)(hq:wdK q=c):wdK w=c:=by
 rw [Xu1 h];exact hq
theorem Wu7{n m:Nat}{L:Cf}(h:ckE n L=0)(hm:m<=n):ckE m L=0:=Xw2 (by have:=(hZ h).1;omega) λk hk=>(hZ h).2 k VJ
section
variable (n:Nat)(L:Cf)(d:Int)
def Zv3:St:={σ:=[Q6 n L,AV.x (.int IntKind.u8 d),top,top,top,lst 1 (((1:Int)+Int.tmod d (n:Int)).toNat-(0:Int).toNat) λi=>[AV.x (.string (L ((0:Int).toNat+i)))],ptr 1 0,lst 1 (((1:Int)+Int.tmod d (n:Int)).toNat-(0:Int).toNat) λj=>[iI (eK L j)],iI 0]++HI 148 [],m:=[(905,GO.row 4 1 0 λx=>[]),(1,GO.cells 43 (hL (sK L (((1:Int)+Int.tmod d (n:Int)).toNat-(0:Int).toNat))))],nx:=906}
noncomputable def Jv8:Code:=U9 (VS (U7 Tryz.f5) 0)
def Wl4(k:Nat):St:={σ:=GY [(5,lns (mN n d) L),(7,.lst 1 (mN n d) (exG L)),(9,.row 905),(10,i (k:Nat)),(11,.top),(12,.top),(13,.top),(58,.top),(74,.top),(75,.top),(80,.top),(99,.top)] (Zv3 n L d).σ,m:=[(905,.row 4 1 (sK L k).nc (λj=>[bl (sdF L k j)])),(1,.cells 43 (hsL (sK L (mN n d))))],nx:=906}
def E0(k:Nat):G5->Option St
 | .exit 0=>some {σ:=GY [(5,lns (mN n d) L),(7,.lst 1 (mN n d) (exG L)),(9,.row 905),(10,i ((mN n d):Nat)),(11,.top),(12,.top),(13,.top),(58,.top),(74,.top),(75,.top),(80,.top),(99,.top)] (Zv3 n L d).σ,m:=[(905,.row 4 1 (sK L (mN n d)).nc (λj=>[bl (sdF L (mN n d) j)])),(1,.cells 43 (hsL (sK L (mN n d))))],nx:=906}
 |_=>none
def Jr2:CT:= .leaf (.exit 0,(E0 n L d 0 (.exit 0)).getD (Zv3 n L d))
def Za6:UG:=GJ [(.slot 6,1,0,2),(.slot 9,905,4,1)] (HF (Wl4 n L d (0)) (Jr2 n L d))
end
abbrev WP(L:Cf):Ci:=λk=>[HB (L k)]
abbrev Z6:Prop:=AV.row 905=AV.row 905
abbrev ZD(L:Cf):Ext:={R:=[],H:=[],C:=[(28,Zs7),(27,(Xa4 L)),(9,(Wz8 L))] }
section
variable (n:Nat)(L:Cf)(d:Int)
theorem Ji3(VR:ckE n L=0)(UE:0<=d/\d<=255)(HK:0<n):G6 VO (.loop Jv8) (Za6 n L d):=by
 refine UR [(.slot 6,1,0,2),(.slot 9,905,4,1)] (L:=[]) (Ae (zM n L 50) (Ae uH (Ae (TW L) Aa))) (Aj Ab Ac (Ah Qb3 (Ah (aE L) (Ah (SY L) (U8.nil _))))) VZ U2 (X:=Nat) (Wl4 n L d) (λk=>k<=mN n d) (λk=>mN n d-k) (E0 n L d) (x0:=0) VT ?_ ?_ ?_;rintro k;kernel_rfl;rintro k y E h;unfold E0 at h;split at h;cases h;kernel_rfl;cases h;rintro Q hQ k hx;refine ⟨(k+1),?_⟩
 (with_reducible refine D9 (t:=let z7:=(VY (lst 1 (mN n d) λj=>[iI (eK L j)]));let z3:=(VY (hR ((sK L (mN n d)).nr) (sK L (mN n d))));let z8:=(VY ((sK L (mN n d)).pl));let z9:=(VY ((sK L (mN n d)).ph));let z4:=(VY (hY ((sK L (mN n d)).nb) (sK L (mN n d))));let z5:=(VY (hC ((sK L (mN n d)).nc) (sK L (mN n d))));let z6:=(VY (hT ((sK L (mN n d)).ns) (sK L (mN n d))));let I:=(need [(0:Int)<=(↑((sK L k).nc):Int)/\(↑((sK L k).nc):Int)<=1000000,VY (↑((sK L k).nc):Int)] (need [VL ((k:Int)+1)] (need [VY (Q6 n L),d=d,(lst 1 (mN n d) (WP L))=lst 1 (mN n d) λk=>[HB (L k)],WR,z7,QN,Z6,(k:Int)+1=(↑(k+1):Int),(sK L k).nc=(sK L (k+1)).nc,∀(i:Nat),i<(sK L (k+1)).nc->List.map AV.x (Array.toList (Value.cells (W6)))=[bl (sdF L (k+1) i)],z3,z8,z9,z4,z5,z6] (leaf G5.normal))));let Z:=(need [VL ((k:Int)+1)] (need [VY (Q6 n L),d=d,(lst 1 (mN n d) (WP L))=lst 1 (mN n d) λk=>[HB (L k)],WR,z7,QN,Z6,(k:Int)+1=(↑(k+1):Int),(sK L k).nc=(sK L (k+1)).nc,∀(i:Nat),i<(sK L (k+1)).nc->[bl (sdF L k i)]=[bl (sdF L (k+1) i)],z3,z8,z9,z4,z5,z6] (leaf G5.normal)));let S:=(need [((sK L k).nc+1)*1<=140737488355328,RP 1 (U4 1 [AV.lit true])] (need [VL ((k:Int)+1)] (need [VY (Q6 n L),d=d,(lst 1 (mN n d) (WP L))=lst 1 (mN n d) λk=>[HB (L k)],WR,z7,QN,Z6,(k:Int)+1=(↑(k+1):Int),(sK L k).nc+1=(sK L (k+1)).nc,∀(i:Nat),i<(sK L (k+1)).nc->GI ((sK L k).nc) (λj=>[bl (sdF L k j)]) (U4 1 [AV.lit true]) i=[bl (sdF L (k+1) i)],z3,z8,z9,z4,z5,z6] (leaf G5.normal))));(branch (decide ((k:Int)<(mN n d:Int))) (need [UI k (mN n d:Int)] (need [ByteArray.size (L k)<100000] (branch (paB (L k)) (need [UI k (mN n d:Int)] (branch (eK L k != 0) Z (branch (!true) VM.fail (branch (ByteArray.toList (HW (L k) 0)==ByteArray.toList {data:=#[105,115,115,117,101] }) S (branch (ByteArray.toList (HW (L k) 0)==ByteArray.toList {data:=#[118,111,105,100] }) (need [UI 0 (↑(lnN (L k)-1):Int)] (branch (decide (nvG (HW (L k) 1)<0)) VM.fail (need [UI 0 (↑(lnN (L k)-1):Int)] (branch (decide (nvG (HW (L k) 1)>=(↑((sK L k).nc):Int))) VM.fail (need [UI 0 (↑(lnN (L k)-1):Int)] (need [UI (nvG (HW (L k) 1)) ((sK L k).nc)] (need [(nvG (HW (L k) 1)).toNat<(sK L k).nc] (need [VL ((k:Int)+1)] (need [VY (Q6 n L),d=d,(lst 1 (mN n d) (WP L))=lst 1 (mN n d) λk=>[HB (L k)],WR,z7,QN,Z6,(k:Int)+1=(↑(k+1):Int),(sK L k).nc=(sK L (k+1)).nc,∀(i:Nat),i<(sK L (k+1)).nc->H6 (decide (i=(nvG (HW (L k) 1)).toNat)) [AV.lit false] [bl (sdF L k i)]=[bl (sdF L (k+1) i)],z3,z8,z9,z4,z5,z6] (leaf G5.normal)))))))))) (branch (ByteArray.toList (HW (L k) 0)==ByteArray.toList {data:=#[115,116,114,105,107,101] }) I (branch (ByteArray.toList (HW (L k) 0)==ByteArray.toList {data:=#[98,97,114,111] }) I Z))))))) (need [UI k (mN n d:Int)] (branch (eK L k != 0) Z (branch (!false) VM.fail (branch (ByteArray.toList ByteArray.empty==ByteArray.toList {data:=#[105,115,115,117,101] }) S (branch (ByteArray.toList ByteArray.empty==ByteArray.toList {data:=#[118,111,105,100] }) VM.fail (branch (ByteArray.toList ByteArray.empty==ByteArray.toList {data:=#[115,116,114,105,107,101] }) I (branch (ByteArray.toList ByteArray.empty==ByteArray.toList {data:=#[98,97,114,111] }) I Z)))))))))) (need [VY (Q6 n L),d=d,(lst 1 (mN n d) (WP L))=lst 1 (mN n d) λk=>[HB (L k)],WR,z7,QN,Z6,(k:Int)=(mN n d:Int),(sK L k).nc=(sK L (mN n d)).nc,∀(i:Nat),i<(sK L (mN n d)).nc->[bl (sdF L k i)]=[bl (sdF L (mN n d) i)],z3,z8,z9,z4,z5,z6] (leaf (G5.exit 0))))) VU ?_)
 simp only [Jr2,E0,VM.sat,GS] at hQ;simp only [VM.sat,UB,G0,GL,UD,VL,UH,HA,FU,R9,RQ,GN,E0]
 have hmb:=Wh1 HK UE.1;have hck:=hZ VR;have hnc:=(jN L k).nc;have hs0: ∀j,j<(sK L (k+1)).nc->(sK L k).nc=(sK L (k+1)).nc->(∀j,sdF L (k+1) j=sdF L k j)->[bl (sdF L k j)]=[bl (sdF L (k+1) j)]:=λj _ _ h=>by rw [h]
 have hno: ¬eK L k=0->k<mN n d->(-9223372036854775808<=(k:Int)+1/\(k:Int)+1<=9223372036854775807)/\((k:Int)+1=((k+1:Nat):Int)/\(sK L k).nc=(sK L (k+1)).nc/\ ∀(i:Nat),i<(sK L (k+1)).nc->[bl (sdF L k i)]=[bl (sdF L (k+1) i)])/\k+1<=mN n d/\mN n d-(k+1)<mN n d-k:=λh1 h2=>by
  obtain ⟨e1,e2⟩:=Ji2 h1;rw [e1,e2];exact ⟨VJ,⟨VJ,rfl,λ_ _=>rfl⟩,VJ,VJ⟩
 refine ⟨λh=>?_,λh=>?_⟩;have hk:k<mN n d:=VJ;have hsz:=hck.2 k VJ;refine ⟨VJ,VJ,λhpa=>⟨VJ,λh0=>hno h0 hk,λh0=>?_⟩,λhpa=>⟨VJ,λh0=>hno h0 hk,λh0=>Bool.noConfusion (hpa.symm.trans (We5 h0).1)⟩⟩;obtain ⟨_,g8,gv⟩:=We5 h0;refine ⟨λh=>Bool.noConfusion h,λ_=>⟨λh5=>?_,λn5=>⟨λh6=>?_,λn6=>⟨λh1=>?_,λn1=>⟨λh2=>?_,λn2=>?_⟩⟩⟩⟩⟩;obtain ⟨e1,e2⟩:=ia_5 h0 (tU h5 rfl);refine ⟨⟨VJ,λq _ a ha=>FC ha (λa ha=>by rw [PM.1 ha];rfl)⟩,VJ,⟨VJ,e1,λj hj=>?_⟩,VJ,VJ⟩
 rw [←e1] at hj;rw [e2];show H6 (decide (j<(sK L k).nc)) [bl (sdF L k j)] (U4 1 [AV.lit true] (j-(sK L k).nc))=_;by_cases h7:j<(sK L k).nc;rw [decide_eq_true h7,if_pos h7,mgK];rw [decide_eq_false h7,if_neg h7,show j-(sK L k).nc=0 by omega]
 rfl;obtain ⟨e1,e2,e3,e4,e5⟩:=ia_6 h0 (tU h6 rfl);have ev:nvG (HW (L k) 1)=U0 (HW (L k) 1):=gv 0 VJ;rw [ev];refine ⟨VJ,λh=>VJ,λ_=>⟨VJ,λh=>VJ,λ_=>⟨VJ,VJ,VJ,VJ,⟨VJ,e1,λj hj=>?_⟩,VJ,VJ⟩⟩⟩;rw [e2];by_cases h7:j=(U0 (HW (L k) 1)).toNat;rw [decide_eq_true h7,if_pos (show (j:Int)=U0 (HW (L k) 1) by omega)]
 rfl;rw [decide_eq_false h7,if_neg (show ¬(j:Int)=U0 (HW (L k) 1) by omega)]
 rfl;obtain ⟨e1,e2⟩:=Xv6 h0 (.inl (tU h1 rfl));exact ⟨VJ,VJ,⟨VJ,e1,λj hj=>by rw [e2];rfl⟩,VJ,VJ⟩
 obtain ⟨e1,e2⟩:=Xv6 h0 (.inr (tU h2 rfl));exact ⟨VJ,VJ,⟨VJ,e1,λj hj=>by rw [e2];rfl⟩,VJ,VJ⟩
 have A:wdK (HW (L k) 0)=0\/wdK (HW (L k) 0)=3\/wdK (HW (L k) 0)=4\/wdK (HW (L k) 0)=7:=by
  have hx: ∀(q:ByteArray) (c:Nat),wdL[c]? =some q->((HW (L k) 0).toList==q.toList)=false->wdK (HW (L k) 0)≠c:=λq c hq hf he=>by
   rcases jI (HW (L k) 0) with ⟨_,h9⟩|⟨h9,_⟩;rw [he,hq] at h9;exact uI hf (Bb h9).symm;omega
  have x5:=hx _ 5 rfl n5;have x6:=hx _ 6 rfl n6;have x1:=hx _ 1 rfl n1;have x2:=hx _ 2 rfl n2;omega
 obtain ⟨e1,e2⟩:=ia_r h0 A;exact ⟨VJ,⟨VJ,e1,λj hj=>by rw [e2]⟩,VJ,VJ⟩
 obtain rfl:k=mN n d:=VJ;refine ⟨⟨rfl,rfl,λ_ _=>rfl⟩,λE hE=>?_⟩;cases hE;exact hQ
def Zv2:St:={σ:=[Q6 n L,AV.x (.int IntKind.u8 d),top,top,top,lst 1 (mN n d) (WP L),ptr 1 0,lst 1 (mN n d) λj=>[iI (eK L j)],iI 0,AV.row 905,iI (mN n d:Int)]++HI 146 [],m:=[(905,GO.row 4 1 ((sK L (mN n d)).nc) λj=>[AV.x (.bool (sdF L (mN n d) j))]),(1,GO.cells 43 (hL (sK L (mN n d))))],nx:=913}
noncomputable def Xq7:Code:=U9 (VS (U7 Tryz.f5) 1)
def Wl3(k:Nat):St:={σ:=GY [(5,lns (mN n d) L),(7,.lst 1 (mN n d) (exG L)),(9,.row 905),(10,i ((mN n d:Nat))),(11,.top),(12,.top),(13,.top),(58,.top),(74,.top),(75,.top),(80,.top),(99,.top),(14,i (k:Nat)),(15,.top),(16,.top),(17,.top),(18,.top),(117,.top)] (Zv2 n L d).σ,m:=[(905,.row 4 1 (sK L (mN n d)).nc (λj=>[bl (sdF L (mN n d) j)])),(1,.cells 43 (hsL (sK L (mN n d))))],nx:=906}
def CZ(k:Nat):G5->Option St
 | .exit 3=>some {σ:=GY [(5,lns (mN n d) L),(7,.lst 1 (mN n d) (exG L)),(9,.row 905),(10,i ((mN n d:Nat))),(11,.top),(12,.top),(13,.top),(58,.top),(74,.top),(75,.top),(80,.top),(99,.top),(14,i ((sK L (mN n d)).nc:Nat)),(15,.top),(16,.top),(17,.top),(18,.top),(117,.top)] (Zv2 n L d).σ,m:=[(905,.row 4 1 (sK L (mN n d)).nc (λj=>[bl (sdF L (mN n d) j)])),(1,.cells 43 (hsL (sK L (mN n d))))],nx:=906}
 |_=>none
def Jr1:CT:= .leaf (.exit 3,(CZ n L d 0 (.exit 3)).getD (Zv2 n L d))
def Za5:UG:=GJ [] (HF (Wl3 n L d (0)) (Jr1 n L d))
def Zv1(k:Nat):St:={σ:=[Q6 n L,AV.x (.int IntKind.u8 d),top,top,top,lst 1 (mN n d) (WP L),ptr 1 0,lst 1 (mN n d) λj=>[iI (eK L j)],iI 0,AV.row 905,iI (mN n d:Int),top,top,top,iI (k:Int),lst 1 (G4 (stP (sK L (mN n d)) ((sK L (mN n d)).cd k)) ((sK L (mN n d)).nc)) λz=>[iI (↑(UP (stP (sK L (mN n d)) ((sK L (mN n d)).cd k)) ((sK L (mN n d)).nc) z):Int)],iI 0]++HI 140 [],m:=[(905,GO.row 4 1 ((sK L (mN n d)).nc) λj=>[AV.x (.bool (sdF L (mN n d) j))]),(1,GO.cells 43 (hL (sK L (mN n d))))],nx:=926}
noncomputable def Jv7:Code:=U9 (VS Xq7 0)
def Wl2(k:Nat)(z:Nat):St:=(upM [(17,bl (u7 (λq=>((UP (stP (sK L (mN n d)) ((sK L (mN n d)).cd k)) (sK L (mN n d)).nc q:Nat):Int)==(k:Int)) z)),(18,i (z:Nat))] (Zv1 n L d k))
def CY(k:Nat)(z:Nat):G5->Option St
 | .exit 5=>some (upM [(17,bl (u7 (λq=>((UP (stP (sK L (mN n d)) ((sK L (mN n d)).cd k)) (sK L (mN n d)).nc q:Nat):Int)==(k:Int)) (G4 (stP (sK L (mN n d)) ((sK L (mN n d)).cd k)) (sK L (mN n d)).nc))),(18,i ((G4 (stP (sK L (mN n d)) ((sK L (mN n d)).cd k)) (sK L (mN n d)).nc):Nat))] (Zv1 n L d k))
 |_=>none
def Jr0(k:Nat):CT:= .leaf (.exit 5,(CY n L d k 0 (.exit 5)).getD (Zv1 n L d k))
def Za4(k:Nat):UG:=GJ [] (HF (Wl2 n L d k (0)) (Jr0 n L d k))
theorem Ji0(k:Nat)(VR:ckE n L=0)(UE:0<=d/\d<=255)(HK:0<n)(F1:k<(sK L (mN n d)).nc):G6 VO (.loop Jv7) (Za4 n L d k):=by
 refine UR [] (L:=[]) (Ae (zM n L 50) (Ae uH (Ae (TW L) Aa))) (Aj Ab Ac (Ah Qb3 (Ah (aE L) (Ah (SY L) (U8.nil _))))) VZ U2 (X:=Nat) (Wl2 n L d k) (λz=>z<=(G4 (stP (sK L (mN n d)) ((sK L (mN n d)).cd k)) (sK L (mN n d)).nc)) (λz=>(G4 (stP (sK L (mN n d)) ((sK L (mN n d)).cd k)) (sK L (mN n d)).nc)-z) (CY n L d k) (x0:=0) VT ?_ ?_ ?_;rintro z;kernel_rfl;rintro z y E h;unfold CY at h;split at h;cases h;kernel_rfl;cases h;rintro Q hQ z hx;refine ⟨(z+1),?_⟩;(with_reducible refine D9 (t:=let Z:=(stP (sK L (mN n d)) ((sK L (mN n d)).cd k));let S:=(G4 Z ((sK L (mN n d)).nc));let I:=(VY (lst 1 S λz=>[iI (↑(UP Z ((sK L (mN n d)).nc) z):Int)]));let z3:=(VY (hR ((sK L (mN n d)).nr) (sK L (mN n d))));let z4:=(VY (hY ((sK L (mN n d)).nb) (sK L (mN n d))));let z5:=(VY (hC ((sK L (mN n d)).nc) (sK L (mN n d))));let z6:=(VY (hT ((sK L (mN n d)).ns) (sK L (mN n d))));let z7:=(VY (lst 1 (mN n d) λj=>[iI (eK L j)]));let z8:=(VY ((sK L (mN n d)).nc));let z9:=(VY ((sK L (mN n d)).pl));let z10:=(VY ((sK L (mN n d)).ph));(branch (decide ((z:Int)<(S:Int))) (branch (u7 (λq=>(↑(UP Z ((sK L (mN n d)).nc) q):Int)==(k:Int)) z) (need [VL ((z:Int)+1)] (need [VY (Q6 n L),d=d,(lst 1 (mN n d) (WP L))=lst 1 (mN n d) λk=>[HB (L k)],WR,z7,QN,Z6,VY (mN n d:Int),VY (k:Int),I,QN,true=u7 (λq=>(↑(UP Z ((sK L (mN n d)).nc) q):Int)==(k:Int)) (z+1),(z:Int)+1=(↑(z+1):Int),z8,∀(i:Nat),i<(sK L (mN n d)).nc->[AV.x (.bool (sdF L (mN n d) i))]=[AV.x (.bool (sdF L (mN n d) i))],z3,z9,z10,z4,z5,z6] (leaf G5.normal))) (need [UI z S] (need [VL ((z:Int)+1)] (need [VY (Q6 n L),d=d,(lst 1 (mN n d) (WP L))=lst 1 (mN n d) λk=>[HB (L k)],WR,z7,QN,Z6,VY (mN n d:Int),VY (k:Int),I,QN,((↑(UP Z ((sK L (mN n d)).nc) z):Int)==(k:Int))=u7 (λq=>(↑(UP Z ((sK L (mN n d)).nc) q):Int)==(k:Int)) (z+1),(z:Int)+1=(↑(z+1):Int),z8,∀(i:Nat),i<(sK L (mN n d)).nc->[AV.x (.bool (sdF L (mN n d) i))]=[AV.x (.bool (sdF L (mN n d) i))],z3,z9,z10,z4,z5,z6] (leaf G5.normal))))) (need [VY (Q6 n L),d=d,(lst 1 (mN n d) (WP L))=lst 1 (mN n d) λk=>[HB (L k)],WR,z7,QN,Z6,VY (mN n d:Int),VY (k:Int),I,QN,u7 (λq=>(↑(UP Z ((sK L (mN n d)).nc) q):Int)==(k:Int)) z=u7 (λq=>(↑(UP Z ((sK L (mN n d)).nc) q):Int)==(k:Int)) S,(z:Int)=(S:Int),z8,∀(i:Nat),i<(sK L (mN n d)).nc->[AV.x (.bool (sdF L (mN n d) i))]=[AV.x (.bool (sdF L (mN n d) i))],z3,z9,z10,z4,z5,z6] (leaf (G5.exit 5))))) VU ?_)
 simp only [Jr0,CY,VM.sat,GS] at hQ;simp only [VM.sat,UB,G0,GL,UD,VL,UH,HA,FU,R9,RQ,GN,CY]
 have hle:=AH (p:=(stP (sK L (mN n d)) ((sK L (mN n d)).cd k))) (k:=(sK L (mN n d)).nc);have hnc:=(jN L (mN n d)).nc;have e1:u7 (λq=>((UP (stP (sK L (mN n d)) ((sK L (mN n d)).cd k)) (sK L (mN n d)).nc q:Nat):Int)==(k:Int)) (z+1)=(u7 (λq=>((UP (stP (sK L (mN n d)) ((sK L (mN n d)).cd k)) (sK L (mN n d)).nc q:Nat):Int)==(k:Int)) z||(((UP (stP (sK L (mN n d)) ((sK L (mN n d)).cd k)) (sK L (mN n d)).nc z:Nat):Int)==(k:Int))):=rfl
 refine ⟨λh=>⟨λh2=>⟨VJ,⟨by rw [e1,h2];rfl,VJ,λ_ _=>Ak⟩,VJ,VJ⟩,λh2=>⟨VJ,VJ,⟨by rw [e1,h2];rfl,VJ,λ_ _=>Ak⟩,VJ,VJ⟩⟩,λh=>?_⟩
 obtain rfl:z=G4 (stP (sK L (mN n d)) ((sK L (mN n d)).cd k)) (sK L (mN n d)).nc:=VJ;refine ⟨⟨rfl,rfl,λ_ _=>Ak⟩,λE hE=>?_⟩;cases hE;exact hQ
end
set_option maxHeartbeats 4000000 in
theorem Ji1(n:Nat)(L:Cf)(d:Int)(VR:ckE n L=0)(UE:0<=d/\d<=255)(HK:0<n):G6 VO (.loop Xq7) (Za5 n L d):=by
 refine UR [] (L:=[BC 14 (λk=>F2 [k<(sK L (mN n d)).nc] (Za4 n L d k))]) (Ae (zM n L 50) (Ae uH (Ae (TW L) Aa))) (Aj Ab Ac (Ah Qb3 (Ah (aE L) (Ah (SY L) (U8.nil _))))) VZ (G7 (λcj hcj=>by
  have e:VS Xq7 0=some (.loop Jv7):=VU;rw [e] at hcj;cases hcj;exact L5 (λk=>HJ (ps:=[k<(sK L (mN n d)).nc]) (λh=>Ji0 n L d k VR UE HK h)))) (X:=Nat) (Wl3 n L d) (λk=>k<=(sK L (mN n d)).nc) (λk=>(sK L (mN n d)).nc-k) (CZ n L d) (x0:=0) VT ?_ ?_ ?_
 rintro k;kernel_rfl;rintro k y E h;unfold CZ at h;split at h;cases h;kernel_rfl;cases h;rintro Q hQ k hx;refine ⟨(k+1),?_⟩;(with_reducible refine D9 (t:=let z5:=(VY (lst 1 (mN n d) λj=>[iI (eK L j)]));let z6:=(VY ((sK L (mN n d)).nc));let Z:=(VY (hR ((sK L (mN n d)).nr) (sK L (mN n d))));let z7:=(VY ((sK L (mN n d)).pl));let z8:=(VY ((sK L (mN n d)).ph));let S:=(VY (hY ((sK L (mN n d)).nb) (sK L (mN n d))));let z3:=(VY (hC ((sK L (mN n d)).nc) (sK L (mN n d))));let z4:=(VY (hT ((sK L (mN n d)).ns) (sK L (mN n d))));let I:=(need [VL ((k:Int)+1)] (need [VY (Q6 n L),d=d,(lst 1 (mN n d) (WP L))=lst 1 (mN n d) λk=>[HB (L k)],WR,z5,QN,Z6,VY (mN n d:Int),(k:Int)+1=(↑(k+1):Int),z6,∀(i:Nat),i<(sK L (mN n d)).nc->[AV.x (.bool (sdF L (mN n d) i))]=[bl (sdF L (mN n d) i)],Z,z7,z8,S,z3,z4] (leaf G5.normal)));(branch (decide ((k:Int)<(↑((sK L (mN n d)).nc):Int))) (need [mN n d<=100000,sG (mN n d) ((WP L)) λj=>[HB (L j)]] (need [UI k ((↑((sK L (mN n d)).nc):Int))] (need [sG (mN n d) ((WP L)) λj=>[HB (L j)],ckE (mN n d) L=0,(0:Int)<=(sK L (mN n d)).cd k/\(sK L (mN n d)).cd k<=10000] (need [k<(sK L (mN n d)).nc] (need [VY (Q6 n L),d=d,(lst 1 (mN n d) (WP L))=lst 1 (mN n d) λk=>[HB (L k)],WR,z5,QN,Z6,VY (mN n d:Int),VY (k:Int),VY (lst 1 (G4 (stP (sK L (mN n d)) ((sK L (mN n d)).cd k)) ((sK L (mN n d)).nc)) λz=>[iI (↑(UP (stP (sK L (mN n d)) ((sK L (mN n d)).cd k)) ((sK L (mN n d)).nc) z):Int)]),QN,false=u7 (λq=>(↑(UP (stP (sK L (mN n d)) ((sK L (mN n d)).cd k)) ((sK L (mN n d)).nc) q):Int)==(k:Int)) 0,(0:Int)=((0:Nat):Int),z6,∀(i:Nat),i<(sK L (mN n d)).nc->[bl (sdF L (mN n d) i)]=[AV.x (.bool (sdF L (mN n d) i))],Z,z7,z8,S,z3,z4] (branch ((0:Int) != 0) VM.fail (need [UI k ((↑((sK L (mN n d)).nc):Int))] (need [k<(sK L (mN n d)).nc] (branch (sdF L (mN n d) k) (branch (!u7 (λq=>(↑(UP (stP (sK L (mN n d)) ((sK L (mN n d)).cd k)) ((sK L (mN n d)).nc) q):Int)==(k:Int)) (G4 (stP (sK L (mN n d)) ((sK L (mN n d)).cd k)) ((sK L (mN n d)).nc))) VM.fail I) I))))))))) (need [VY (Q6 n L),d=d,(lst 1 (mN n d) (WP L))=lst 1 (mN n d) λk=>[HB (L k)],WR,z5,QN,Z6,VY (mN n d:Int),(k:Int)=(↑((sK L (mN n d)).nc):Int),z6,∀(i:Nat),i<(sK L (mN n d)).nc->[bl (sdF L (mN n d) i)]=[bl (sdF L (mN n d) i)],Z,z7,z8,S,z3,z4] (leaf (G5.exit 3))))) VU ?_)
 simp only [Jr1,CZ,VM.sat,GS] at hQ;simp only [VM.sat,UB,G0,GL,UD,VL,UH,HA,FU,R9,RQ,GN,CZ]
 have hd:=Wb9 L (mN n d);have hmb:=Wh1 HK UE.1;have hck:=Wu7 VR hmb.2.2;have hn:=(hZ VR).1;have hnc:=(jN L (mN n d)).nc;refine ⟨λh=>?_,λh=>?_⟩;have hk:k<(sK L (mN n d)).nc:=VJ;have nx:(-9223372036854775808<=(k:Int)+1/\(k:Int)+1<=9223372036854775807)/\((k:Int)+1=((k+1:Nat):Int)/\ ∀(i:Nat),i<(sK L (mN n d)).nc->True)/\k+1<=(sK L (mN n d)).nc/\(sK L (mN n d)).nc-(k+1)<(sK L (mN n d)).nc-k:=⟨VJ,⟨VJ,λ_ _=>Ak⟩,VJ,VJ⟩;refine ⟨⟨VJ,λ_ _=>rfl⟩,VJ,⟨λ_ _=>rfl,hck,hd.dd k hk⟩,hk,⟨rfl,λ_ _=>Ak⟩,λh=>h Ak,λ_=>⟨VJ,hk,λhf=>⟨λh9=>?_,λ_=>nx⟩,λ_=>nx⟩⟩;have h3:=hd.st k hk hf;have h4:=fC (stP (sK L (mN n d)) ((sK L (mN n d)).cd k)) (show k+1<=(sK L (mN n d)).nc from hk);have h5:=FE h3;have h6:u7 (λq=>((UP (stP (sK L (mN n d)) ((sK L (mN n d)).cd k)) (sK L (mN n d)).nc q:Nat):Int)==(k:Int)) (G4 (stP (sK L (mN n d)) ((sK L (mN n d)).cd k)) (sK L (mN n d)).nc)=true:=Qg2 (j:=G4 (stP (sK L (mN n d)) ((sK L (mN n d)).cd k)) k) (by
  rw [BP hk h3];exact beq_self_eq_true _) VJ
 rw [h6] at h9;exact Bool.noConfusion h9;obtain rfl:k=(sK L (mN n d)).nc:=VJ;refine ⟨⟨rfl,λ_ _=>Ak⟩,λE hE=>?_⟩;cases hE;exact hQ
theorem Xe7(n:Nat)(L:Cf)(d:Int)(VR:0<=d/\d<=255):VX VO 5 [lns n L,.x (.int .u8 d)] (bl true):=by
 refine GA (L:=[F2 [ckE n L=0,0<n] (Za6 n L d),F2 [ckE n L=0,0<n] (Za5 n L d)]) (Ae (zM n L 50) (Ae uH (Ae (TW L) Aa))) (Aj Ab Ac (Ah Qb3 (Ah (aE L) (Ah (SY L) (U8.nil _))))) VZ Tryz.func5 (UU Tryz.f5) (yZ (lpE (b:= .loop Jv8) VU<|(HJ (ps:=[ckE n L=0,0<n]) (λh0=>Ji3 n L d h0.1 VR h0.2)).N) (lpE (b:= .loop Xq7) VU<|(HJ (ps:=[ckE n L=0,0<n]) (λh0=>Ji1 n L d h0.1 VR h0.2)).N)) (t:=let I:=(sK L (((1:Int)+Int.tmod d (n:Int)).toNat-(0:Int).toNat));let Z:=(leaf (RV.x (.bool true)));(need [VY ([Q6 n L,iI 50])] (branch (!rdB n L (50:Int)) Z (branch ((n:Int)==0) Z (need [VL d] (need [(n:Int)≠0] (need [VL ((1:Int)+Int.tmod d (n:Int))] (need [(0:Int)<=0/\(0:Int)<=1+Int.tmod d (n:Int)/\(1:Int)+Int.tmod d (n:Int)<=(n:Int)] (need [((1:Int)+Int.tmod d (n:Int)).toNat-(0:Int).toNat<=100000,sG (((1:Int)+Int.tmod d (n:Int)).toNat-(0:Int).toNat) (λi=>[AV.x (.string (L ((0:Int).toNat+i)))]) λj=>[HB (L j)]] (need [sG (((1:Int)+Int.tmod d (n:Int)).toNat-(0:Int).toNat) ((WP L)) λj=>[HB (L j)],ckE (((1:Int)+Int.tmod d (n:Int)).toNat-(0:Int).toNat) L=0] (branch ((0:Int) != 0) (leaf (RV.x (W6))) (branch ((↑(((1:Int)+Int.tmod d (n:Int)).toNat-(0:Int).toNat):Int) != (↑(((1:Int)+Int.tmod d (n:Int)).toNat-(0:Int).toNat):Int)) (leaf (RV.x (W6))) (need [ckE n L=0,0<n] (need [VY (Q6 n L),d=d,(lst 1 (((1:Int)+Int.tmod d (n:Int)).toNat-(0:Int).toNat) λi=>[AV.x (.string (L ((0:Int).toNat+i)))])=lst 1 (mN n d) λk=>[HB (L k)],WR,(lst 1 (((1:Int)+Int.tmod d (n:Int)).toNat-(0:Int).toNat) λj=>[iI (eK L j)])=lst 1 (mN n d) λj=>[iI (eK L j)],QN,Z6,(0:Int)=((0:Nat):Int),0=(sK L 0).nc,∀(i:Nat),i<(sK L 0).nc->[]=[bl (sdF L 0 i)],(hR I.nr I)=hR ((sK L (mN n d)).nr) (sK L (mN n d)),I.pl=(sK L (mN n d)).pl,I.ph=(sK L (mN n d)).ph,(hY I.nb I)=hY ((sK L (mN n d)).nb) (sK L (mN n d)),(hC I.nc I)=hC ((sK L (mN n d)).nc) (sK L (mN n d)),(hT I.ns I)=hT ((sK L (mN n d)).ns) (sK L (mN n d))] (branch ((↑((sK L (mN n d)).nc):Int) != (↑((sK L (mN n d)).nc):Int)) (leaf (RV.x (W6))) (need [ckE n L=0,0<n] (need [VY (Q6 n L),d=d,(lst 1 (mN n d) (WP L))=lst 1 (mN n d) λk=>[HB (L k)],WR,VY (lst 1 (mN n d) λj=>[iI (eK L j)]),QN,Z6,VY (mN n d:Int),(0:Int)=((0:Nat):Int),VY ((sK L (mN n d)).nc),∀(i:Nat),i<(sK L (mN n d)).nc->[bl (sdF L (mN n d) i)]=[bl (sdF L (mN n d) i)],VY (hR ((sK L (mN n d)).nr) (sK L (mN n d))),VY ((sK L (mN n d)).pl),VY ((sK L (mN n d)).ph),VY (hY ((sK L (mN n d)).nb) (sK L (mN n d))),VY (hC ((sK L (mN n d)).nc) (sK L (mN n d))),VY (hT ((sK L (mN n d)).ns) (sK L (mN n d)))] Z))))))))))))))))) VU ?_
 simp only [VM.sat,UB,G0,GL,UD,UH,VL,F4];have hm:(1+d.tmod (n:Nat)).toNat-Int.toNat 0=mN n d:=rfl;simp only [hm];simp only [show Int.toNat 0=0 from rfl,Ap];rcases Bool.eq_false_or_eq_true (rdB n L 50) with hr|hr
 rotate_left
 simp only [hr,Bool.not_false,true_imp_iff,reduceCtorEq,false_imp_iff,and_self];obtain ⟨h0,hn⟩:=Je4 hr;have hn:n<=50:=VJ;refine ⟨λ_=>Ak,λ_=>⟨λ_=>Ak,λhz=>?_⟩⟩;have iR:0<n:=by
  have:=ne_of_beq_false hz;omega
 have hmb:=Wh1 (n:=n) (d:=d) iR VR.1;have hck:=Wu7 h0 hmb.2.2
 (with_reducible repeat' first|apply Al|intro _)
 all_goals first|exact Ak|omega|exact h0|exact hck|exact iR|exact λ_ _=>rfl|rfl|(rename_i hq;exact absurd hq (Aq _))|(rename_i hq;simp at hq;done)|trace_state
