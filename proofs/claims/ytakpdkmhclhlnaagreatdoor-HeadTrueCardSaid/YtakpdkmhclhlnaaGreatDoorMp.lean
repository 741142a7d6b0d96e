/- Contracts, put together. Conditions: those of each. -/
import Derived.Test.YtakpdkmhclhlnaaGreatDoorMo
import Derived.Shelf.Strings.Builder1
import Derived.Shelf.Strings.Builder2
import Derived.Shelf.Strings.OnBuilder
set_option linter.unusedSimpArgs false
set_option linter.unusedVariables false
set_option maxRecDepth 100000
namespace Go.Proofs.YtakpdkmhclhlnaaGreatDoor.Hd
open Go Go.Shelf Go.Sx Go.RowKit
def oV:Go.Shelf.Ren:=⟨λ| 169=>48|n=>n,λ| 70=>102| 72=>104| 37=>87| 127=>165|n=>n,λn=>n⟩
theorem Zj5:Go.Proofs.Lays.n169 Tryz.prog oV:=by
 constructor<;>first|(intro _;kernel_rfl)|kernel_rfl|(constructor<;>first|(intro _;kernel_rfl)|kernel_rfl|(constructor<;>first|(intro _;kernel_rfl)|kernel_rfl))
def r8:Go.Shelf.Ren:=⟨λ| 156=>70| 165=>113| 166=>41| 169=>48| 240=>68| 241=>150| 276=>111| 277=>189|n=>n,λ| 31=>26| 72=>104| 76=>108| 70=>102| 37=>87| 75=>107| 127=>165| 164=>216| 80=>122|n=>n,λn=>n⟩
theorem gB:Go.Proofs.Lays.n156 Tryz.prog r8:=by
 constructor<;>first|(intro _;kernel_rfl)|kernel_rfl|(constructor<;>first|(intro _;kernel_rfl)|kernel_rfl|(constructor<;>first|(intro _;kernel_rfl)|kernel_rfl))
theorem bN:Builder.Extra Tryz.prog r8 where
 sizeBuilder:=VQ
 liesBuilder:=VQ
 t5:=by first|exact Tryz.underlying5|kernel_rfl
 a5:=by first|exact Tryz.isAgg5|kernel_rfl
 z5:=by first|exact Tryz.sizeOf5|(intros;rfl)
 v5:=by first|exact Tryz.zeroValue5|(intros;rfl)
 infoByte:=VQ
 cellsByte:=VQ
 sizeByte:=VQ
 neB5:=by decide
def stO:List AV->ByteArray
 |[.x (.string s)]=>s
 |_=>ByteArray.empty
section
variable (n:Nat)(f:Nat->List AV)
def jX:Prop:= ∀k,k<n->f k=[.x (.string (stO (f k)))]
def jnB(sep:ByteArray):ByteArray:=⟨(Lib.join (((List.range n).map λk=>stO (f k)).map (·.data.toList)) sep.data.toList).toArray⟩
theorem Xg2(sep:ByteArray)(h0:n<=100000)(h1:jX n f)(h2:(jnB n f sep).size<=140737488355328):VV VL 70 [.lst 1 n f,.x (.string sep)] (.x (.string (jnB n f sep))):=by
 intro e w args hro hgl FK hr;obtain ⟨u,us,rfl,r1,hr⟩:=hr.cons_inv;obtain ⟨u2,us2,rfl,r2,hr⟩:=hr.cons_inv;obtain rfl:=hr.nil_inv;obtain rfl:=r2.x_inv;cases r1 with
 |lstNil=>
  refine Calls.mono (Any.strings_Join_none gB bN none 0 sep w) ?_;rintro en w' ⟨rfl,rfl⟩;exact ⟨_,rfl,Below.refl _ _,.x _⟩
 |lst _ _ _ b o cap g g1 g2 g3 g4 g5 g6 g7 g8 ad had=>
  have hl:((List.range n).map λk=>stO (f k)).length=n:=VS;rcases Nat.eq_zero_or_pos n with rfl|hn;refine Calls.mono (Any.strings_Join_none gB bN (some ad) cap sep w) ?_;rintro en w' ⟨rfl,rfl⟩;exact ⟨_,rfl,Below.refl _ _,.x _⟩;rw [had hn];have h:=Any.strings_Join gB bN b o cap ((List.range n).map λk=>stO (f k)) sep w (λj x hj=>by
   have hj1:=(FP.1 hj).1;have hj2:j<n:=VG;rw [Bn,List.getElem?_range hj2] at hj;simp only [Bt,HA] at hj;have k1:=g6 j 0 hj2 VG;have k2:=(g8 j 0 (.x (.string (stO (f j)))) hj2 (by rw [h1 j hj2];rfl)).x_inv
   have e0:o+(j*1+0)=o+j:=VG;rw [e0,k2,hj] at k1;exact k1) (g2 hn) (by rw [hl];omega) (by rw [hl];exact g4) (by
    have e:(Lib.join (((List.range n).map λk=>stO (f k)).map (·.data.toList)) sep.data.toList).length=(jnB n f sep).size:=rfl;rw [e];exact h2)
  rw [hl] at h;refine Calls.mono h ?_;rintro en w' ⟨rfl,hb⟩;exact ⟨_,rfl,hb,.x _⟩
end
def fG:UU
 |[.lst 1 n f,.x (.string sep)]=>some ([n<=100000,jX n f,(jnB n f sep).size<=140737488355328],.x (.string (jnB n f sep)))
 |_=>none
theorem Qc2:VM VL 70 fG:=by
 refine ⟨(UC Tryz.func70),?_⟩;intro avs ns res h hn;unfold fG at h;split at h;cases h;exact Xg2 _ _ _ (hn _ VS) (hn _ VS) (hn _ VS);cases h
def Xn8:HY:=λavs m nx sv=>match avs with
 |[.ptr q 0]=>match D8 m q with
  |some (.cells T l)=>match l with
   |[.x (.pointer none),c]=>match Nat.beq T 104 with
    |true=>some (.leaf (.tup [],qC m q (.cells T [.ptr q 0,c]),nx,sv))
    |false=>none
   |[.ptr q' 0,c]=>match Nat.beq T 104&&Nat.beq q q' with
    |true=>some (.leaf (.tup [],m,nx,sv))
    |false=>none
   |_=>none
  |_=>none
 |_=>none
theorem Zn7:G8 VL 68 Xn8:=by
 refine ⟨(UC Tryz.func68),?_⟩;intro avs m nx sv tr I Q hQ cx w0 TT e ds args w hE hB hm hlv LL hxt hr;unfold Xn8 at I;split at I;rename_i q;obtain ⟨v0,l1,rfl,r1,hr⟩:=hr.cons_inv;obtain rfl:=hr.nil_inv;have hv0:v0= .pointer (some ⟨e.blk q,0,none⟩):=by cases r1;rfl
 subst hv0;split at I;rename_i T l hg;split at I;rename_i c;split at I;rename_i hb;obtain rfl:=GU hb;cases I;obtain ⟨h1,h2,vs,h3,h4⟩:=hm _ (UW hg);obtain ⟨p,us,rfl,t1,h4⟩:=h4.cons_inv;obtain ⟨v,us,rfl,t2,h4⟩:=h4.cons_inv;obtain rfl:=h4.nil_inv;obtain rfl:=t1.x_inv
 dsimp only at h1 h2 h3
 have hc0:w.cell? ⟨e.blk q,0,none⟩=some (.pointer none):=by simp [World.cell?,h3]
 refine Calls.mono (Any.Builder_copyCheck_fresh {gB with} bN.toX72 (e.blk q) w hc0 (by simp [World.shape?,h3];rfl) (by simp [World.frozen?,h3])) ?_
 rintro en w' ⟨rfl,rfl⟩;have RS: ∀b,b≠e.blk q->(w.setCell ⟨e.blk q,0,none⟩ (.pointer (some ⟨e.blk q,0,none⟩))).heap[b]? =w.heap[b]? :=λb hb=>heap_setCell_other _ _ _ _ hb;have hsz:(w.setCell ⟨e.blk q,0,none⟩ (.pointer (some ⟨e.blk q,0,none⟩))).heap.size=w.heap.size:=VS;have st:=F2 hE h2 hsz RS;have dV:Below w0.heap.size w0 (w.setCell ⟨e.blk q,0,none⟩ (.pointer (some ⟨e.blk q,0,none⟩))):=hB.setCell (p:=⟨e.blk q,0,none⟩) (hE.owned _ _ h2).1 _;refine ⟨_,_,_,_,_,e,rfl,hQ,RZ hE hsz st,dV,?_,hlv,LL,hxt.step st,Rep.tupL (VZ.nil _ _)⟩;intro p hp;rcases FS hp with rfl|⟨hp,hne⟩;refine ⟨h1,h2,[.pointer (some ⟨e.blk q,0,none⟩),v],?_,.cons (.ptr q 0 h1) (.cons (t2.step st) (.nil _ _))⟩;rw [heap_setCell_same w _ 0 _ _ _ h3];rfl;exact LY hE h2 hsz RS hne (hm p hp);cases I;rename_i q' c;split at I;rename_i hb;rw [GZ] at hb;obtain rfl:=GU hb.1;obtain rfl:=GU hb.2;cases I;obtain ⟨h1,h2,vs,h3,h4⟩:=hm _ (UW hg);obtain ⟨p,us,rfl,t1,h4⟩:=h4.cons_inv;obtain ⟨v,us,rfl,t2,h4⟩:=h4.cons_inv;obtain rfl:=h4.nil_inv
 dsimp only at h1 h2 h3
 have hp:p= .pointer (some ⟨e.blk q,0,none⟩):=by cases t1;rfl
 subst hp;have hc0:w.cell? ⟨e.blk q,0,none⟩=some (.pointer (some ⟨e.blk q,0,none⟩)):=by simp [World.cell?,h3]
 refine Calls.mono (Any.Builder_copyCheck_used {gB with} bN.toX72 (e.blk q) w hc0) ?_
 rintro en w' ⟨rfl,rfl⟩;exact ⟨_,_,_,_,_,e,rfl,hQ,hE,hB,hm,hlv,LL,hxt,Rep.tupL (VZ.nil _ _)⟩;cases I;cases I;cases I;cases I
set_option maxHeartbeats 1000000 in
theorem Qk7(b g cap:Nat)(p:Value)(cur:Array Value)(l:List UInt8)(w:World)(hbk:w.heap[b]? =some (.cells #[p,.slice (some ⟨g,0,none⟩) l.length cap] 104 (0,0)))(hg:w.heap[g]? =some (.cells cur 5 (0,0)))(h0:l≠[])(hnc:l.length<=cap)(hcm:cap<=maxLen)(hcs:cur.size=cap)
  (gL: ∀j x,l[j]? =some x->w.cell? ⟨g,j,none⟩=some (.int .u8 x.toNat)):
  Calls Tryz.prog 48 #[.pointer (some ⟨b,0,none⟩)] w λe w'=>e= .returned (.string ⟨l.toArray⟩)/\w'=w.drew.freeze ⟨g,0,none⟩ l.length:=by
 have c1:w.drew.cell? ⟨b,1,none⟩=some (.slice (some ⟨g,0,none⟩) l.length cap):=by
  have:w.drew.heap[b]? =some (.cells #[p,.slice (some ⟨g,0,none⟩) l.length cap] 104 (0,0)):=hbk;simp [World.cell?,this]
 have hl0:l.length≠0:=by simpa using h0
 have hSD:(Builtin.unsafeSliceData_ #[87] 165 #[.slice (some ⟨g,0,none⟩) l.length cap]).run Tryz.prog w.drew= .ok (.pointer (some ⟨g,0,none⟩)) w.drew:=
  Lib.run_unsafeSliceData_row _ _ _ _ _ _ VG
 have hUS:(Builtin.unsafeString_ #[165,3] 9 #[.pointer (some ⟨g,0,none⟩),.int .i64 l.length]).run Tryz.prog w.drew= .ok (.string ⟨l.toArray⟩) (w.drew.freeze ⟨g,0,none⟩ l.length):=by
  refine Lib.run_unsafeString_row w.drew 165 3 9 5 Zj5.t127 VQ g cur.size (by have hg':w.drew.heap[g]? =some (.cells cur 5 (0,0)):=hg;simp [World.shape?,hg']) l h0 VG (by unfold maxLen at hcm;omega) ?_
  intro j x hx;have e:(⟨g,0,none⟩:Addr).add j=⟨g,j,none⟩:=by rw [DD,Ap]
  rw [e];exact gL j x hx
 have GN:Tryz.prog.follows .mixedOrders=true:=VW
 go_enter Tryz.func48,Tryz.ntmps48
 go_wp2
 go_region_o
 all_goals (go_wp2;go_ret;exact ⟨rfl,rfl⟩)
def Xa0:HY:=λavs m nx sv=>match avs with
 |[.ptr q 0]=>match D8 m q with
  |some (.cells T l)=>match l with
   |[_,.row r]=>match D8 m r with
    |some (.row T1 sz n f)=>match Nat.beq T 104&&Nat.beq T1 5&&Nat.beq sz 1 with
     |true=>some (.needT [gC n f,0<n] (.leaf (.x (.string (bsO n f)),[],nx,sv)))
     |false=>none
    |_=>none
   |_=>none
  |_=>none
 |_=>none
theorem aD(w:World)(g n x:Nat)(h:x≠g):(w.freeze ⟨g,0,none⟩ n).heap[x]? =w.heap[x]? :=by
 unfold World.freeze;split;rfl;show (w.heap.modify g _)[x]? =_;rw [Array.getElem?_modify];rw [if_neg (λe=>h e.symm)]
theorem l7(w:World)(g n:Nat):(w.freeze ⟨g,0,none⟩ n).heap.size=w.heap.size:=by
 unfold World.freeze;split;rfl;show (w.heap.modify g _).size=_;simp
theorem Qr0(w:World)(g n:Nat):(w.freeze ⟨g,0,none⟩ n).os=w.os/\(w.freeze ⟨g,0,none⟩ n).tape=w.tape/\(w.freeze ⟨g,0,none⟩ n).output=w.output:=by
 unfold World.freeze;split<;>exact ⟨rfl,rfl,rfl⟩
theorem kO:G8 VL 48 Xa0:=by
 refine ⟨(UC Tryz.func48),?_⟩;intro avs m nx sv tr I Q hQ cx w0 TT e ds args w hE hB hm hlv LL hxt hr;unfold Xa0 at I;split at I;rename_i q;obtain ⟨v0,l1,rfl,r1,hr⟩:=hr.cons_inv;obtain rfl:=hr.nil_inv;have hv0:v0= .pointer (some ⟨e.blk q,0,none⟩):=by cases r1;rfl
 subst hv0;split at I;rename_i T l hg;split at I;rename_i a r;split at I;rename_i T1 sz n f hg2;split at I;rename_i hb;rw [GZ,GZ] at hb;obtain ⟨⟨hb1,hb2⟩,hb3⟩:=hb;obtain rfl:=GU hb1;obtain rfl:=GU hb2;obtain rfl:=GU hb3;cases I;obtain ⟨hn,hq⟩:=VJ.sat_needT hQ;have hn:=GA hn;have n1:gC n f:=hn _ VS;have n2:0<n:=hn _ VS;obtain ⟨h1,h2,vs,h3,h4⟩:=hm _ (UW hg);obtain ⟨p,us,rfl,t1,h4⟩:=h4.cons_inv;obtain ⟨v,us,rfl,t2,h4⟩:=h4.cons_inv;obtain rfl:=h4.nil_inv
 dsimp only at h1 h2 h3
 obtain ⟨k1,k2,k3,xs,k4,k5⟩:=hm _ (UW hg2)
 dsimp only at k1 k2 k3 k4 k5
 have hv:e.val r=v:=by
  cases t2 with
  |row _ a n c _ hv=>exact hv
 rw [hv] at k2 k4;rcases k4.2 with ⟨_,hz⟩|⟨g,cap,cur,rfl,hbg,hgg,hnc,hcm,hcs,jZ⟩;omega;have H2:e.own g=some r:=k2 g rfl;have HR:((List.range n).map λj=>UInt8.ofNat (byO (f j))).length=n:=VS;have h0:((List.range n).map λj=>UInt8.ofNat (byO (f j)))≠[]:=by
  intro h;rw [h] at HR;simp at HR;omega
 have gL: ∀j x,((List.range n).map λj=>UInt8.ofNat (byO (f j)))[j]? =some x->w.cell? ⟨g,j,none⟩=some (.int .u8 x.toNat):=by
  intro j x hj;have hj1:j<n:=by have:=(FP.1 hj).1;omega
  rw [Bn,List.getElem?_range hj1] at hj;simp only [Bt,HA] at hj;have hxl:xs.length=n:=by have:=k4.1;omega
  have hc1:=k4.cells (g:=g) rfl j xs[j] (HX VG);have e1:(⟨g,0,none⟩:Addr).add j=⟨g,j,none⟩:=by rw [DD,Ap]
  rw [e1] at hc1;have hc2:=(k5 j 0 (.x (.int .u8 (byO (f j):Int))) xs[j] hj1 (by rw [(n1 j hj1).2];rfl) (by rw [show j*1+0=j by omega];exact HX VG)).x_inv
  rw [hc1,hc2,←hj,UInt8.toNat_ofNat_of_lt' (n1 j hj1).1]
 have FD:=Qk7 (e.blk q) g cap p cur ((List.range n).map λj=>UInt8.ofNat (byO (f j))) w (by rw [HR];exact h3) hgg h0 (by rw [HR];exact hnc) hcm (by simpa using hcs) gL
 refine FD.mono ?_;rintro en w' ⟨rfl,rfl⟩;rw [HR];have RS: ∀x,x≠g->(w.drew.freeze ⟨g,0,none⟩ n).heap[x]? =w.heap[x]? :=λx hx=>aD w.drew g n x hx;have hsz:(w.drew.freeze ⟨g,0,none⟩ n).heap.size=w.heap.size:=l7 w.drew g n;have hos:=Qr0 w.drew g n;have st:=F2 hE H2 hsz RS;refine ⟨_,_,_,_,_,e,rfl,hq,RZ hE hsz st,⟨hos.1.trans hB.os,hos.2.1.trans hB.tape,hos.2.2.trans hB.output,by rw [hsz];exact hB.size,λx hx=>?_⟩,λp hp=>(by cases hp),hlv,LL,hxt.step st,.x _⟩
 rw [RS x (by have:=(hE.owned _ _ H2).1;omega)]
 exact hB.block x hx;cases I;cases I;cases I;cases I;cases I
end Go.Proofs.YtakpdkmhclhlnaaGreatDoor.Hd
namespace Go.Proofs.YtakpdkmhclhlnaaGreatDoor.Hd
open Go Go.Sx Go.RowKit Bo
open Go.Sx.VJ (need branch leaf)
open Go.Sx.AV (lst ptr agg roI tup top)
def U4:List ByteArray:=[⟨#[116,104,114,101,97,100,32,48,32,49,32,52,48,32,52,48]⟩,⟨#[116,104,114,101,97,100,32,50,32,51,32,52,56,32,53,48]⟩,⟨#[105,115,115,117,101,32,48,32,52,32,57,48,32,48]⟩,⟨#[98,97,116,104,32,49,48,48,32,51,48,48]⟩,⟨#[115,101,101,32,48,32,50,48,48]⟩,⟨#[115,101,101,32,49,32,50,48,51]⟩,⟨#[98,97,116,104,32,49,48,48,32,51,48,48]⟩,⟨#[115,101,101,32,49,32,50,53,50]⟩,⟨#[115,101,101,32,50,32,50,53,48]⟩,⟨#[115,101,108,108,32,48,32,49,32,54,32,49,32,51]⟩,⟨#[115,101,108,108,32,49,32,50,32,52,32,50,32,50]⟩]
def G6:List ByteArray:=[⟨#[116,104,114,101,97,100,32,48,32,50,32,52,48,32,52,48]⟩,⟨#[105,115,115,117,101,32,48,32,52,32,56,48,32,48]⟩,⟨#[115,101,101,32,48,32,49,48,48]⟩,⟨#[115,116,114,105,107,101,32,49]⟩,⟨#[118,111,105,100,32,48]⟩]
def UL(l:List ByteArray)(k:Nat):ByteArray:=l.getD k ByteArray.empty
def wk1:HS:=thS hs0 0 1 40 40
def wk2:HS:=thS wk1 2 3 48 50
def wk3:HS:=isS wk2 0 4 90 0
def wk4:HS:=btS wk3 100 300
def wk5:HS:=seS wk4 0 200
def wk6:HS:=seS wk5 1 203
def wk7:HS:=btS wk6 100 300
def wk8:HS:=seS wk7 1 252
def wk9:HS:=seS wk8 2 250
def Qk4:HS:=slS wk9 0 1 6 1 3
def VR:HS:=slS Qk4 1 2 4 2 2
theorem Qx4:lnE (UL U4 0) hs0=0:=by decide+kernel
theorem Xp8:DQ (lnW (UL U4 0)) hs0=wk1:=VQ
theorem Qx3:lnE (UL U4 1) wk1=0:=by decide+kernel
theorem Xp7:DQ (lnW (UL U4 1)) wk1=wk2:=VQ
theorem Qx2:lnE (UL U4 2) wk2=0:=by decide+kernel
theorem Xp6:DQ (lnW (UL U4 2)) wk2=wk3:=VQ
theorem Qx1:lnE (UL U4 3) wk3=0:=by decide+kernel
theorem Xp5:DQ (lnW (UL U4 3)) wk3=wk4:=VQ
theorem Qx0:lnE (UL U4 4) wk4=0:=by decide+kernel
theorem Xp4:DQ (lnW (UL U4 4)) wk4=wk5:=VQ
theorem Qw9:lnE (UL U4 5) wk5=0:=by decide+kernel
theorem Xp3:DQ (lnW (UL U4 5)) wk5=wk6:=VQ
theorem Qw8:lnE (UL U4 6) wk6=0:=by decide+kernel
theorem Xp2:DQ (lnW (UL U4 6)) wk6=wk7:=VQ
theorem Qw7:lnE (UL U4 7) wk7=0:=by decide+kernel
theorem Xp1:DQ (lnW (UL U4 7)) wk7=wk8:=VQ
theorem Qw6:lnE (UL U4 8) wk8=0:=by decide+kernel
theorem Xp0:DQ (lnW (UL U4 8)) wk8=wk9:=VQ
theorem Qw5:lnE (UL U4 9) wk9=0:=by decide+kernel
theorem Xo9:DQ (lnW (UL U4 9)) wk9=Qk4:=VQ
theorem nB:lnE (UL U4 10) Qk4=0:=by decide+kernel
theorem Qv7:DQ (lnW (UL U4 10)) Qk4=VR:=VQ
theorem Xq0:boE VR.nb VR.ql VR.qh VR.qm VR.qr VR.qv=0:=by decide+kernel
theorem Xp9:boN VR.nb VR.ql VR.qh VR.qm VR.qr VR.qv=3:=by decide+kernel
theorem Qw0:boL VR.nb VR.ql VR.qh VR.qm VR.qr VR.qv 0=0:=by decide+kernel
theorem Qw3:boH VR.nb VR.ql VR.qh VR.qm VR.qr VR.qv 0=0:=by decide+kernel
theorem Qv9:boL VR.nb VR.ql VR.qh VR.qm VR.qr VR.qv 1=1:=by decide+kernel
theorem Qw2:boH VR.nb VR.ql VR.qh VR.qm VR.qr VR.qv 1=5:=by decide+kernel
theorem Qv8:boL VR.nb VR.ql VR.qh VR.qm VR.qr VR.qv 2= -3:=by decide+kernel
theorem Qw1:boH VR.nb VR.ql VR.qh VR.qm VR.qr VR.qv 2=5:=by decide+kernel
theorem Qv6:stP VR 0 0=true:=by decide+kernel
theorem Qw4:xI VR.ns VR.sa VR.sb VR.sc VR.sl VR.sh=true:=by decide+kernel
theorem Qx6:caB VR.ns VR.sa VR.sb VR.sc VR.sl VR.sh 1 0=true:=by decide+kernel
theorem Qx5:caB VR.ns VR.sa VR.sb VR.sc VR.sl VR.sh 1 1=true:=by decide+kernel
theorem Zc2:caB VR.ns VR.sa VR.sb VR.sc VR.sl VR.sh 1 2=false:=by decide+kernel
theorem Zc1:caB VR.ns VR.sa VR.sb VR.sc VR.sl VR.sh 1 3=false:=by decide+kernel
theorem Qv5:suB VR.ns VR.sa VR.sb VR.sc VR.sl VR.sh 1 0=true:=by decide+kernel
theorem Za5:suB VR.ns VR.sa VR.sb VR.sc VR.sl VR.sh 1 1=false:=by decide+kernel
theorem Za4:suB VR.ns VR.sa VR.sb VR.sc VR.sl VR.sh 1 2=false:=by decide+kernel
theorem Za3:suB VR.ns VR.sa VR.sb VR.sc VR.sl VR.sh 1 3=false:=by decide+kernel
theorem Zw5:hdN 4 100 20 30 VR.nr VR.ra VR.rb VR.ru VR.rv 3 tbP tbQ VR.pl VR.ph 1 3 0=5:=by decide+kernel
theorem Zb5:onL (wkA 4 100 20 30 VR.nr VR.ra VR.rb VR.ru VR.rv 3 tbP tbQ VR.pl VR.ph 1 3) 0 0=0:=by decide+kernel
theorem Zc0:onH (wkA 4 100 20 30 VR.nr VR.ra VR.rb VR.ru VR.rv 3 tbP tbQ VR.pl VR.ph 1 3) 0 0=0:=by decide+kernel
theorem Zb4:onL (wkA 4 100 20 30 VR.nr VR.ra VR.rb VR.ru VR.rv 3 tbP tbQ VR.pl VR.ph 1 3) 1 0=200:=by decide+kernel
theorem Zb9:onH (wkA 4 100 20 30 VR.nr VR.ra VR.rb VR.ru VR.rv 3 tbP tbQ VR.pl VR.ph 1 3) 1 0=300:=by decide+kernel
theorem Zb3:onL (wkA 4 100 20 30 VR.nr VR.ra VR.rb VR.ru VR.rv 3 tbP tbQ VR.pl VR.ph 1 3) 2 0=410:=by decide+kernel
theorem Zb8:onH (wkA 4 100 20 30 VR.nr VR.ra VR.rb VR.ru VR.rv 3 tbP tbQ VR.pl VR.ph 1 3) 2 0=510:=by decide+kernel
theorem Zb2:onL (wkA 4 100 20 30 VR.nr VR.ra VR.rb VR.ru VR.rv 3 tbP tbQ VR.pl VR.ph 1 3) 3 0=700:=by decide+kernel
theorem Zb7:onH (wkA 4 100 20 30 VR.nr VR.ra VR.rb VR.ru VR.rv 3 tbP tbQ VR.pl VR.ph 1 3) 3 0=800:=by decide+kernel
theorem Zb1:onL (wkA 4 100 20 30 VR.nr VR.ra VR.rb VR.ru VR.rv 3 tbP tbQ VR.pl VR.ph 1 3) 4 0=1000:=by decide+kernel
theorem Zb6:onH (wkA 4 100 20 30 VR.nr VR.ra VR.rb VR.ru VR.rv 3 tbP tbQ VR.pl VR.ph 1 3) 4 0=1000:=by decide+kernel
theorem Zb0:(hoS VR.ns VR.sa VR.sb VR.sc VR.sl VR.sh 0 100).1=4:=by decide+kernel
theorem Za9:(hoS VR.ns VR.sa VR.sb VR.sc VR.sl VR.sh 1 100).1=2:=by decide+kernel
theorem Za8:(hoS VR.ns VR.sa VR.sb VR.sc VR.sl VR.sh 2 100).1=4:=by decide+kernel
theorem Za7:(hoS VR.ns VR.sa VR.sb VR.sc VR.sl VR.sh 3 100).1=0:=by decide+kernel
def PD{α:Type}:VJ α->VJ α
 | .fail=> .fail
 | .leaf a=> .leaf a
 | .branch b t f=>match b with
  |true=>PD t
  |false=>PD f
 | .need ps t=> .need ps (PD t)
 | .may p t f=> .may p (PD t) (PD f)
def Xk0(sp:UF):UF:=λs=>match sp s with
 |some t=>some (PD t)
 |none=>none
section
variable (n:Nat)(f:Nat->List AV)
def byB:Bool:=HW (λj=>match f j with
 |[.x (.int .u8 c)]=>decide (0<=c)&&decide (c<256)
 |_=>false) n
def Zx6:Bool:=HW (λj=>match f j with
 |[.x (.string _)]=>true
 |_=>false) n
end
theorem GX{α:Type}{Q:α->Prop}: ∀{t:VJ α},(PD t).sat Q->t.sat Q
 | .fail,h=>h
 | .leaf _,h=>h
 | .branch true _ _,h=>⟨λ_=>GX h,λe=>Bool.noConfusion e⟩
 | .branch false _ _,h=>⟨λe=>Bool.noConfusion e,λ_=>GX h⟩
 | .need _ _,h=>⟨h.1,GX h.2⟩
 | .may _ _ _,h=>⟨λp=>GX (h.1 p),GX h.2⟩
theorem Zn1{P:Program}{ro:Option Nat}{cx:Cx}{c:Code}{sp:UF}(h:HH P ro cx c sp):HH P ro cx c (Xk0 sp):=by
 intro n s t I Q hQ a w r;unfold Xk0 at I;split at I;rename_i t0 h0;cases I;exact h n s t0 h0 Q (GX hQ) a w r;cases I
section
variable {n:Nat}{f:Nat->List AV}
theorem sD(h:byB n f=true):gC n f:=by
 intro j hj;have h1:=GI.1 h j hj;split at h1;rename_i c hc;rw [GZ,kJ,kJ] at h1;rw [hc];have e:byO [.x (.int .u8 c)]=c.toNat:=rfl;rw [e];refine ⟨VG,?_⟩;rw [show ((c.toNat:Nat):Int)=c by omega]
 cases h1
theorem bX(h:Zx6 n f=true):jX n f:=by
 intro j hj;have h1:=GI.1 h j hj;split at h1;rename_i s hc;rw [hc];rfl;cases h1
end
noncomputable def Xa2:HY:=rX Tryz.prog [] {R:=[],H:=[(68,Xn8)] } [] Tryz.f41 (U5 Tryz.f41)
theorem Xl6:G8 VL 41 Xa2:=
 RH (G:=[]) (X:={R:=[],H:=[(68,Xn8)] }) (L:=[]) Aa (Ai Ab (Ag Zn7 Ac)) VW (UC Tryz.func41) Tryz.func41 (UR Tryz.f41) U0
noncomputable def fK:HY:=rX Tryz.prog [(69,fH),(70,fG)] WC [(Xk0 (λs=>some (kN Tryz.prog [(69,fH),(70,fG)] WC [] (U7 (VP (U5 Tryz.f42) 0)) 10 s)))] Tryz.f42 (U5 Tryz.f42)
theorem iN:G8 VL 42 fK:=
 RH (G:=[(69,fH),(70,fG)]) (X:=WC) (L:=[(Xk0 (λs=>some (kN Tryz.prog [(69,fH),(70,fG)] WC [] (U7 (VP (U5 Tryz.f42) 0)) 10 s)))]) (Ae TX (Ae Qc2 Aa)) Ad VW (UC Tryz.func42) Tryz.func42 (UR Tryz.f42) (G0 (lpE (b:= .loop (U7 (VP (U5 Tryz.f42) 0))) VQ<|λro cx=>Zn1 (yH (Ae TX (Ae Qc2 Aa)) (Ad cx) VW (λj cj hj sp hsp=>by simp at hsp) 10)))
noncomputable def Xa1:HY:=rX Tryz.prog [] {R:=[],H:=[(42,fK),(41,Xa2)] } [] Tryz.f40 (U5 Tryz.f40)
theorem xD:G8 VL 40 Xa1:=
 RH (G:=[]) (X:={R:=[],H:=[(42,fK),(41,Xa2)] }) (L:=[]) Aa (Ai Ab (Ag iN (Ag Xl6 Ac))) VW (UC Tryz.func40) Tryz.func40 (UR Tryz.f40) U0
def AG:UU
 |[.x (.int .i64 a),.x (.int .i64 b)]=>some ([0<=a/\a<=1000\/ -1000<=a/\a<=1000,-1000<=b/\b<=1000,((⟨(Lib.itoa a).toArray⟩:ByteArray)++⟨#[46,46]⟩).size+(⟨(Lib.itoa b).toArray⟩:ByteArray).size<=100],.x (.string ((⟨(Lib.itoa a).toArray⟩++⟨#[46,46]⟩)++⟨(Lib.itoa b).toArray⟩)))
 |_=>none
theorem Wl7(a b:Int)(VO:0<=a/\a<=1000\/ -1000<=a/\a<=1000)(UD: -1000<=b/\b<=1000)(HO:((⟨(Lib.itoa a).toArray⟩:ByteArray)++⟨#[46,46]⟩).size+(⟨(Lib.itoa b).toArray⟩:ByteArray).size<=100):VV VL 45 [i a,i b] (.x (.string ((⟨(Lib.itoa a).toArray⟩++⟨#[46,46]⟩)++⟨(Lib.itoa b).toArray⟩))):=by
 refine VY (L:=[]) (Ae TX Aa) VW Tryz.func45 (UR Tryz.f45) U0 (t:=need [VI a] (need [(↑(ByteArray.size {data:=List.toArray (Lib.itoa a) }+ByteArray.size {data:=#[46,46] }):Int)<=9223372036854775807] (need [VI b] (need [(↑(ByteArray.size ({data:=List.toArray (Lib.itoa a) }++{data:=#[46,46] })+ByteArray.size {data:=List.toArray (Lib.itoa b) }):Int)<=9223372036854775807] (leaf (RV.x (.string ({data:=List.toArray (Lib.itoa a) }++{data:=#[46,46] }++{data:=List.toArray (Lib.itoa b) })))))))) VQ ?_;rw [Av] at HO;simp only [VJ.sat,U8,UZ,UB,UE,VI,Av];all_goals exact V3
theorem xC:VM VL 45 AG:=by
 refine ⟨(UC Tryz.func45),?_⟩;intro avs ns res h hn;unfold AG at h;split at h;cases h;exact Wl7 _ _ (hn _ VS) (hn _ VS) (hn _ VS);cases h
def Zg2:ByteArray:=⟨#[114,101,97,100,105,110,103,115,32,50,32,98,97,116,104,115,32,50,32,99,101,114,116,105,102,105,99,97,116,101,115,32,49,32,115,97,108,101,115,32,50,10,109,97,114,107,115,32,48,46,46,48,32,50,48,48,46,46,51,48,48,32,52,49,48,46,46,53,49,48,32,55,48,48,46,46,56,48,48,32,49,48,48,48,46,46,49,48,48,48,10,111,102,102,115,101,116,115,32,48,46,46,48,32,49,46,46,53,32,45,51,46,46,53,10,115,116,97,110,100,32,48,10,104,111,108,100,32,52,32,50,32,52,32,48,10]⟩
def tB:UU:=λl=>some ([l=[lns 11 (UL U4)]],i 0)
def Qi2:HZ:=λl=>some (.need [l=[lns 11 (UL U4)]] (.leaf (.tup [.ro (hsL VR),.lst 1 11 (exG (UL U4))])))
def Wy2:UU:=λl=>some ([l=[.agg [i 4,i 100,i 20,i 30,hsR VR,.lst 2 3 (λk=>[i (tbP k),i (tbQ k)]),i VR.pl,i VR.ph,i 1,i 3],i 0]],.tup [.lst 2 5 (λk=>[i (U6 [0,200,410,700,1000] k),i (U6 [0,300,510,800,1000] k)]),i 0])
def t9:UU:=λl=>some ([l=[.agg [ofs,i 1,hsB VR]]],.tup [.lst 2 3 (λk=>[i (U6 [0,1,-3] k),i (U6 [0,5,5] k)]),i 0])
def t8:UU:=λl=>some ([l=[.agg (hsL VR),.agg [i (VR.ca 0),i (VR.cb 0),i (VR.cc 0),i (VR.cd 0),bl (VR.cv 0)],i (VR.cd 0)]],bl true)
def Wy1:HZ:=λl=>match l with
 |[b,.x (.int .i64 ow),d]=>some (.need [b= .agg [i 4,i 10,hsS VR],d=i 100,0<=ow/\ow<=3] (.leaf (.tup [.agg [i (U6 [4,2,4,0] ow.toNat),i (hoS VR.ns VR.sa VR.sb VR.sc VR.sl VR.sh ow 100).2],i 0])))
 |_=>none
theorem Zw4:sK (UL U4) 0=hs0:=rfl
theorem Zw3:sK (UL U4) 1=wk1:=by
 show lnS (UL U4 0) (sK (UL U4) 0)=_;rw [Zw4];unfold lnS;rw [if_pos Qx4];exact Xp8
theorem Zw2:sK (UL U4) 2=wk2:=by
 show lnS (UL U4 1) (sK (UL U4) 1)=_;rw [Zw3];unfold lnS;rw [if_pos Qx3];exact Xp7
theorem Zw1:sK (UL U4) 3=wk3:=by
 show lnS (UL U4 2) (sK (UL U4) 2)=_;rw [Zw2];unfold lnS;rw [if_pos Qx2];exact Xp6
theorem Zw0:sK (UL U4) 4=wk4:=by
 show lnS (UL U4 3) (sK (UL U4) 3)=_;rw [Zw1];unfold lnS;rw [if_pos Qx1];exact Xp5
theorem Zv9:sK (UL U4) 5=wk5:=by
 show lnS (UL U4 4) (sK (UL U4) 4)=_;rw [Zw0];unfold lnS;rw [if_pos Qx0];exact Xp4
theorem Zv8:sK (UL U4) 6=wk6:=by
 show lnS (UL U4 5) (sK (UL U4) 5)=_;rw [Zv9];unfold lnS;rw [if_pos Qw9];exact Xp3
theorem Zv7:sK (UL U4) 7=wk7:=by
 show lnS (UL U4 6) (sK (UL U4) 6)=_;rw [Zv8];unfold lnS;rw [if_pos Qw8];exact Xp2
theorem Zv6:sK (UL U4) 8=wk8:=by
 show lnS (UL U4 7) (sK (UL U4) 7)=_;rw [Zv7];unfold lnS;rw [if_pos Qw7];exact Xp1
theorem Zv5:sK (UL U4) 9=wk9:=by
 show lnS (UL U4 8) (sK (UL U4) 8)=_;rw [Zv6];unfold lnS;rw [if_pos Qw6];exact Xp0
theorem Za6:sK (UL U4) 10=Qk4:=by
 show lnS (UL U4 9) (sK (UL U4) 9)=_;rw [Zv5];unfold lnS;rw [if_pos Qw5];exact Xo9
theorem AL:sK (UL U4) 11=VR:=by
 show lnS (UL U4 10) (sK (UL U4) 10)=_;rw [Za6];unfold lnS;rw [if_pos nB];exact Qv7
theorem bQ:ckE 11 (UL U4)=0:=by decide+kernel
theorem y8:VM VL 35 tB:=by
 refine ⟨(UC Tryz.func35),?_⟩;intro avs ns res h hn;cases h;have e:avs=[lns 11 (UL U4)]:=hn _ GB;subst e;have h1:=OD 11 (UL U4) VG;rw [bQ] at h1;exact h1
theorem x6:Sx.Enters Tryz.prog 37/\ ∀avs t,Qi2 avs=some t->UH VL 37 avs t:=by
 refine ⟨(UC Tryz.func37),?_⟩;intro avs t h;cases h;intro Q hQ;have e:avs=[lns 11 (UL U4)]:=hQ.1;subst e;have hk:=j9 bQ;have h1:=iH 11 (UL U4) hk.1 (λk h=>by have:=hk.2 k h;omega) Q
 rw [AL] at h1;exact h1 hQ.2
theorem y6:L2 VL 43 Wy2:=by
 refine ⟨(UC Tryz.func43),?_⟩;intro avs ns res h hn;cases h;have e:avs=[.agg [i 4,i 100,i 20,i 30,hsR VR,.lst 2 3 (λk=>[i (tbP k),i (tbQ k)]),i VR.pl,i VR.ph,i 1,i 3],i 0]:=hn _ GB;subst e;intro e w args q1 q2 q3 q4;refine (u7 4 100 20 30 VR.nr VR.ra VR.rb VR.ru VR.rv 3 tbP tbQ VR.pl VR.ph 1 3 0 e w args q1 q2 q3 q4).mono ?_;rintro en w' ⟨v,rfl,g1,g2⟩;refine ⟨v,rfl,g1,LN ?_ g2⟩;rw [show hdE 4 100 20 30 VR.nr VR.ra VR.rb VR.ru VR.rv 3 tbP tbQ VR.pl VR.ph 1 3 0=0 by decide+kernel]
 refine ⟨⟨rfl,Zw5,λk hk=>?_⟩,⟨rfl,rfl⟩,Ak⟩;rcases (show k=0\/k=1\/k=2\/k=3\/k=4 by omega) with rfl|rfl|rfl|rfl|rfl
 show [i _,i _]=_;rw [Zb5,Zc0];rfl;show [i _,i _]=_;rw [Zb4,Zb9];rfl;show [i _,i _]=_;rw [Zb3,Zb8];rfl;show [i _,i _]=_;rw [Zb2,Zb7];rfl;show [i _,i _]=_;rw [Zb1,Zb6];rfl
theorem bP:hZ VR:=by
 have h:=BE (UL U4) 11;rw [AL] at h;exact h
theorem kX:VM VL 19 t9:=by
 refine ⟨(UC Tryz.func19),?_⟩;intro avs ns res h hn;cases h;have e:avs=[.agg [ofs,i 1,hsB VR]]:=hn _ GB;subst e;intro e w args q1 q2 q3 q4;refine (wC VR.nb VR.ql VR.qh VR.qm VR.qr VR.qv bP.bV e w args q1 q2 q3 q4).mono ?_;rintro en w' ⟨v,rfl,g1,g2⟩;refine ⟨v,rfl,g1,LN ?_ g2⟩;rw [Xq0];refine ⟨⟨rfl,Xp9,λk hk=>?_⟩,⟨rfl,rfl⟩,Ak⟩;rcases (show k=0\/k=1\/k=2 by omega) with rfl|rfl|rfl
 show [i _,i _]=_;rw [Qw0,Qw3];rfl;show [i _,i _]=_;rw [Qv9,Qw2];rfl;show [i _,i _]=_;rw [Qv8,Qw1];rfl
theorem kP:VM VL 38 t8:=by
 refine ⟨(UC Tryz.func38),?_⟩;intro avs ns res h hn;cases h;have e:avs=[.agg (hsL VR),.agg [i (VR.ca 0),i (VR.cb 0),i (VR.cc 0),i (VR.cd 0),bl (VR.cv 0)],i (VR.cd 0)]:=hn _ GB;subst e;have h1:=I0 VR (VR.ca 0) (VR.cb 0) (VR.cc 0) (VR.cd 0) (VR.cv 0) (VR.cd 0);have h2:stB VR (VR.ca 0) (VR.cb 0) (VR.cc 0) (VR.cd 0) (VR.cv 0) (VR.cd 0)=true:=by
  have h3:VR.cd 0=0:=VQ;have h4:=Qv6;unfold stP at h4;rw [h3] at h4 ⊢;exact h4
 rw [h2] at h1;exact h1
theorem dT:Sx.Enters Tryz.prog 47/\ ∀avs t,Wy1 avs=some t->UH VL 47 avs t:=by
 refine ⟨(UC Tryz.func47),?_⟩;intro avs t h;unfold Wy1 at h;split at h;rename_i b ow d;cases h;intro Q hQ;obtain ⟨⟨e1,e2,e3,_⟩,hq⟩:=hQ;subst e1 e2;refine Qm3 VR.ns VR.sa VR.sb VR.sc VR.sl VR.sh ow 100 bP.sV Q ?_;have hb:(bt 0 ow 3&&bt 0 100 100)=true:=by
  rw [GZ,Bo.bt_iff,Bo.bt_iff];omega
 refine ⟨λ_=>⟨λh=>?_,λ_=>?_⟩,λh=>Bool.noConfusion (hb.symm.trans h)⟩;rw [Qw4] at h;exact Bool.noConfusion h;have ho:(hoS VR.ns VR.sa VR.sb VR.sc VR.sl VR.sh ow 100).1=U6 [4,2,4,0] ow.toNat:=by
  rcases (show ow=0\/ow=1\/ow=2\/ow=3 by omega) with rfl|rfl|rfl|rfl
  exact Zb0;exact Za9;exact Za8;exact Za7
 show Q _;rw [ho];exact hq;cases h
def wvS(s:ByteArray):AV:= .x (.iface 9 (.string s))
def wvI(n:Int):AV:= .x (.iface 3 (.int .i64 n))
def GV(l:List AV)(k:Nat):List AV:=[l.getD k .top]
def wl0:List AV:=[wvS ⟨#[109,97,114,107,115]⟩,wvS ⟨#[48,46,46,48]⟩,wvS ⟨#[50,48,48,46,46,51,48,48]⟩,wvS ⟨#[52,49,48,46,46,53,49,48]⟩,wvS ⟨#[55,48,48,46,46,56,48,48]⟩,wvS ⟨#[49,48,48,48,46,46,49,48,48,48]⟩]
def wl1:List AV:=[wvS ⟨#[111,102,102,115,101,116,115]⟩,wvS ⟨#[48,46,46,48]⟩,wvS ⟨#[49,46,46,53]⟩,wvS ⟨#[45,51,46,46,53]⟩]
def wl2:List AV:=[wvS ⟨#[115,116,97,110,100]⟩,wvI 0]
def wl3:List AV:=[wvS ⟨#[104,111,108,100]⟩,wvI 4,wvI 2,wvI 4,wvI 0]
def rp0:ByteArray:=⟨#[114,101,97,100,105,110,103,115,32,50,32,98,97,116,104,115,32,50,32,99,101,114,116,105,102,105,99,97,116,101,115,32,49,32,115,97,108,101,115,32,50,10]⟩
def rp1:ByteArray:=⟨#[114,101,97,100,105,110,103,115,32,50,32,98,97,116,104,115,32,50,32,99,101,114,116,105,102,105,99,97,116,101,115,32,49,32,115,97,108,101,115,32,50,10,109,97,114,107,115,32,48,46,46,48,32,50,48,48,46,46,51,48,48,32,52,49,48,46,46,53,49,48,32,55,48,48,46,46,56,48,48,32,49,48,48,48,46,46,49,48,48,48,10]⟩
def rp2:ByteArray:=⟨#[114,101,97,100,105,110,103,115,32,50,32,98,97,116,104,115,32,50,32,99,101,114,116,105,102,105,99,97,116,101,115,32,49,32,115,97,108,101,115,32,50,10,109,97,114,107,115,32,48,46,46,48,32,50,48,48,46,46,51,48,48,32,52,49,48,46,46,53,49,48,32,55,48,48,46,46,56,48,48,32,49,48,48,48,46,46,49,48,48,48,10,111,102,102,115,101,116,115,32,48,46,46,48,32,49,46,46,53,32,45,51,46,46,53,10]⟩
def rp3:ByteArray:=⟨#[114,101,97,100,105,110,103,115,32,50,32,98,97,116,104,115,32,50,32,99,101,114,116,105,102,105,99,97,116,101,115,32,49,32,115,97,108,101,115,32,50,10,109,97,114,107,115,32,48,46,46,48,32,50,48,48,46,46,51,48,48,32,52,49,48,46,46,53,49,48,32,55,48,48,46,46,56,48,48,32,49,48,48,48,46,46,49,48,48,48,10,111,102,102,115,101,116,115,32,48,46,46,48,32,49,46,46,53,32,45,51,46,46,53,10,115,116,97,110,100,32,48,10]⟩
def rp4:ByteArray:=⟨#[114,101,97,100,105,110,103,115,32,50,32,98,97,116,104,115,32,50,32,99,101,114,116,105,102,105,99,97,116,101,115,32,49,32,115,97,108,101,115,32,50,10,109,97,114,107,115,32,48,46,46,48,32,50,48,48,46,46,51,48,48,32,52,49,48,46,46,53,49,48,32,55,48,48,46,46,56,48,48,32,49,48,48,48,46,46,49,48,48,48,10,111,102,102,115,101,116,115,32,48,46,46,48,32,49,46,46,53,32,45,51,46,46,53,10,115,116,97,110,100,32,48,10,104,111,108,100,32,52,32,50,32,52,32,48,10]⟩
def eqBy(n:Nat)(F:Nat->List AV)(B:ByteArray):Bool:=HW (λj=>match F j with
 |[.x (.int .u8 c)]=>decide (c=byN B j)
 |_=>false) n
theorem Qd6{n:Nat}{F:Nat->List AV}{B:ByteArray}(h:eqBy n F B=true): ∀i,i<n->F i=DJ B i:=by
 intro j hj;have h1:=GI.1 h j hj;split at h1;rename_i c hc;rw [hc,BT h1];rfl;cases h1
theorem ltM{n:Nat}{f g:Nat->List AV}(h:(List.range n).map f=(List.range n).map g): ∀i,i<n->f i=g i:=λi O=>by
 have e:=congrArg (λl=>l[i]?) h;simpa [O] using e
abbrev JF:GW:=[(920,.row 20 1 1 (GV wl0)),(921,.row 20 1 1 (GV wl1)),(922,.row 20 1 1 (GV wl2)),(923,.row 20 1 1 (GV wl3)),(911,.row 5 1 42 (DJ rp0)),(14,.cells 104 [.ptr 14 0,.row 911])]
def rM(z:Nat):St:=((some {σ:=mkS 198 [(0,.top),(5,.ro (hsL VR)),(7,.ptr 14 0),(8,.fn (.func 40) [] [.ptr 14 0]),(9,.row 920),(10,.row 921),(11,.row 922),(12,.row 923),(91,.lst 2 5 (λk=>[i (U6 [0,200,410,700,1000] k),i (U6 [0,300,510,800,1000] k)])),(92,i 5),(93,i 0)],m:=JF,nx:=930}:Option St):Option St).getD {σ:=[],m:=[],nx:=0}
noncomputable def rO:Code:=U7 (VP (U5 Tryz.f12) 0)
abbrev WW:GW:=[(920,.row 20 1 6 (GV wl0)),(921,.row 20 1 1 (GV wl1)),(922,.row 20 1 1 (GV wl2)),(923,.row 20 1 1 (GV wl3)),(911,.row 5 1 42 (DJ rp0)),(14,.cells 104 [.ptr 14 0,.row 911])]
section
variable (z:Nat)
def DL:Nat->St
 | 0=>{σ:=H0 [(91,.lst 2 5 (λk=>[i (U6 [0,200,410,700,1000] k),i (U6 [0,300,510,800,1000] k)])),(92,i 5),(93,i 0)] (rM z).σ,m:=JF,nx:=930}
 | 1=>{σ:=H0 [(91,.lst 2 5 (λk=>[i (U6 [0,200,410,700,1000] k),i (U6 [0,300,510,800,1000] k)])),(92,i 5),(93,i 1)] (rM z).σ,m:=[(920,.row 20 1 2 (GV wl0)),(921,.row 20 1 1 (GV wl1)),(922,.row 20 1 1 (GV wl2)),(923,.row 20 1 1 (GV wl3)),(911,.row 5 1 42 (DJ rp0)),(14,.cells 104 [.ptr 14 0,.row 911])],nx:=930}
 | 2=>{σ:=H0 [(91,.lst 2 5 (λk=>[i (U6 [0,200,410,700,1000] k),i (U6 [0,300,510,800,1000] k)])),(92,i 5),(93,i 2)] (rM z).σ,m:=[(920,.row 20 1 3 (GV wl0)),(921,.row 20 1 1 (GV wl1)),(922,.row 20 1 1 (GV wl2)),(923,.row 20 1 1 (GV wl3)),(911,.row 5 1 42 (DJ rp0)),(14,.cells 104 [.ptr 14 0,.row 911])],nx:=930}
 | 3=>{σ:=H0 [(91,.lst 2 5 (λk=>[i (U6 [0,200,410,700,1000] k),i (U6 [0,300,510,800,1000] k)])),(92,i 5),(93,i 3)] (rM z).σ,m:=[(920,.row 20 1 4 (GV wl0)),(921,.row 20 1 1 (GV wl1)),(922,.row 20 1 1 (GV wl2)),(923,.row 20 1 1 (GV wl3)),(911,.row 5 1 42 (DJ rp0)),(14,.cells 104 [.ptr 14 0,.row 911])],nx:=930}
 | 4=>{σ:=H0 [(91,.lst 2 5 (λk=>[i (U6 [0,200,410,700,1000] k),i (U6 [0,300,510,800,1000] k)])),(92,i 5),(93,i 4)] (rM z).σ,m:=[(920,.row 20 1 5 (GV wl0)),(921,.row 20 1 1 (GV wl1)),(922,.row 20 1 1 (GV wl2)),(923,.row 20 1 1 (GV wl3)),(911,.row 5 1 42 (DJ rp0)),(14,.cells 104 [.ptr 14 0,.row 911])],nx:=930}
 |_=>{σ:=H0 [(91,.lst 2 5 (λk=>[i (U6 [0,200,410,700,1000] k),i (U6 [0,300,510,800,1000] k)])),(92,i 5),(93,i 5)] (rM z).σ,m:=WW,nx:=930}
def DB:G4->Option St
 | .exit 0=>some {σ:=H0 [(91,.lst 2 5 (λk=>[i (U6 [0,200,410,700,1000] k),i (U6 [0,300,510,800,1000] k)])),(92,i 5),(93,i 5)] (rM z).σ,m:=WW,nx:=930}
 |_=>none
def M3:CT:= .leaf (.exit 0,(DB z (.exit 0)).getD (rM z))
abbrev QE:List (Pl×Nat×TypeId×Nat):=[(.slot 9,920,20,1),(.slot 10,921,20,1),(.slot 11,922,20,1),(.slot 12,923,20,1),(.cell 14 1,911,5,1)]
def Wz3:UF:=GG QE (HD (DL z 0) (M3 z))
abbrev Q7:Prop:=AV.ro [hR 2 VR,iI VR.pl,iI VR.ph,hY 2 VR,hC 1 VR,hT 2 VR]=AV.ro [hR 2 VR,iI VR.pl,iI VR.ph,hY 2 VR,hC 1 VR,hT 2 VR]
noncomputable abbrev Q8:Ext:={R:=[(43,Wy2),(44,L3),(46,xT),(39,M7)],H:=[(40,Xa1),(48,Xa0)],C:=[(37,Qi2),(47,Wy1)] }
abbrev QF:List Int:=[(0:Int),200,410,700,1000]
abbrev QJ:List Int:=[(0:Int),300,510,800,1000]
abbrev QN:Prop:=AV.fn (Fn.func 40) [] [ptr 14 0]=AV.fn (Fn.func 40) [] [ptr 14 0]
abbrev QV:List (Nat×UU):=[(35,tB),(19,t9),(38,t8),(45,AG)]
abbrev WB:Prop:=ptr 14 0=ptr 14 0
abbrev WR:AV:=lst 2 5 λk=>[iI (U6 QF k),iI (U6 QJ k)]
abbrev WZ:Prop:=AV.row 911=AV.row 911
abbrev XY:Prop:=AV.row 920=AV.row 920
abbrev XZ:Prop:=AV.row 921=AV.row 921
abbrev Z0:Prop:=AV.row 922=AV.row 922
abbrev Z1:Prop:=AV.row 923=AV.row 923
theorem Zg0:PD (HU VL QV Q8 [] QE rO (DL z 0) (DL z 1) (DB z))=(let A:=([AV.x (.iface 9 (.string ({data:=List.toArray (Lib.itoa (U6 QF (0:Int).toNat)) }++{data:=#[46,46] }++{data:=List.toArray (Lib.itoa (U6 QJ (0:Int).toNat)) })))]);(need [UG 0 5] (need [(0:Int)<=U6 QF (0:Int).toNat/\U6 QF (0:Int).toNat<=1000\/(-1000:Int)<=U6 QF (0:Int).toNat/\U6 QF (0:Int).toNat<=1000,(-1000:Int)<=U6 QJ (0:Int).toNat/\U6 QJ (0:Int).toNat<=1000,4<=100] (need [32<=140737488355328,∀(i:Nat),i<1-> ∀(a:AV),a∈U3 1 A i->AV.one a=true] (need [VI ((0:Int)+1)] (need [Q7,WB,QN,XY,XZ,Z0,Z1,WR=WR,J4,(0:Int)+1=1,2=2,GR 2 (GE 1 (GV wl0) (U3 1 A)) (GV wl0),1=1,GM 1 (GV wl1),1=1,GM 1 (GV wl2),1=1,GM 1 (GV wl3),42=42,GM 42 (DJ rp0),WB,WZ] (leaf G4.normal))))))):=by
 kernel_rfl
theorem Zf9:PD (HU VL QV Q8 [] QE rO (DL z 1) (DL z 2) (DB z))=(let A:=([AV.x (.iface 9 (.string ({data:=List.toArray (Lib.itoa (U6 QF (1:Int).toNat)) }++{data:=#[46,46] }++{data:=List.toArray (Lib.itoa (U6 QJ (1:Int).toNat)) })))]);(need [UG 1 5] (need [(0:Int)<=U6 QF (1:Int).toNat/\U6 QF (1:Int).toNat<=1000\/(-1000:Int)<=U6 QF (1:Int).toNat/\U6 QF (1:Int).toNat<=1000,(-1000:Int)<=U6 QJ (1:Int).toNat/\U6 QJ (1:Int).toNat<=1000,8<=100] (need [48<=140737488355328,∀(i:Nat),i<1-> ∀(a:AV),a∈U3 1 A i->AV.one a=true] (need [VI ((1:Int)+1)] (need [Q7,WB,QN,XY,XZ,Z0,Z1,WR=WR,J4,(1:Int)+1=2,3=3,GR 3 (GE 2 (GV wl0) (U3 1 A)) (GV wl0),1=1,GM 1 (GV wl1),1=1,GM 1 (GV wl2),1=1,GM 1 (GV wl3),42=42,GM 42 (DJ rp0),WB,WZ] (leaf G4.normal))))))):=by
 kernel_rfl
theorem Zf8:PD (HU VL QV Q8 [] QE rO (DL z 2) (DL z 3) (DB z))=(let A:=([AV.x (.iface 9 (.string ({data:=List.toArray (Lib.itoa (U6 QF (2:Int).toNat)) }++{data:=#[46,46] }++{data:=List.toArray (Lib.itoa (U6 QJ (2:Int).toNat)) })))]);(need [UG 2 5] (need [(0:Int)<=U6 QF (2:Int).toNat/\U6 QF (2:Int).toNat<=1000\/(-1000:Int)<=U6 QF (2:Int).toNat/\U6 QF (2:Int).toNat<=1000,(-1000:Int)<=U6 QJ (2:Int).toNat/\U6 QJ (2:Int).toNat<=1000,8<=100] (need [64<=140737488355328,∀(i:Nat),i<1-> ∀(a:AV),a∈U3 1 A i->AV.one a=true] (need [VI ((2:Int)+1)] (need [Q7,WB,QN,XY,XZ,Z0,Z1,WR=WR,J4,(2:Int)+1=3,4=4,GR 4 (GE 3 (GV wl0) (U3 1 A)) (GV wl0),1=1,GM 1 (GV wl1),1=1,GM 1 (GV wl2),1=1,GM 1 (GV wl3),42=42,GM 42 (DJ rp0),WB,WZ] (leaf G4.normal))))))):=by
 kernel_rfl
theorem Zf7:PD (HU VL QV Q8 [] QE rO (DL z 3) (DL z 4) (DB z))=(let A:=([AV.x (.iface 9 (.string ({data:=List.toArray (Lib.itoa (U6 QF (3:Int).toNat)) }++{data:=#[46,46] }++{data:=List.toArray (Lib.itoa (U6 QJ (3:Int).toNat)) })))]);(need [UG 3 5] (need [(0:Int)<=U6 QF (3:Int).toNat/\U6 QF (3:Int).toNat<=1000\/(-1000:Int)<=U6 QF (3:Int).toNat/\U6 QF (3:Int).toNat<=1000,(-1000:Int)<=U6 QJ (3:Int).toNat/\U6 QJ (3:Int).toNat<=1000,8<=100] (need [80<=140737488355328,∀(i:Nat),i<1-> ∀(a:AV),a∈U3 1 A i->AV.one a=true] (need [VI ((3:Int)+1)] (need [Q7,WB,QN,XY,XZ,Z0,Z1,WR=WR,J4,(3:Int)+1=4,5=5,GR 5 (GE 4 (GV wl0) (U3 1 A)) (GV wl0),1=1,GM 1 (GV wl1),1=1,GM 1 (GV wl2),1=1,GM 1 (GV wl3),42=42,GM 42 (DJ rp0),WB,WZ] (leaf G4.normal))))))):=by
 kernel_rfl
theorem Zf6:PD (HU VL QV Q8 [] QE rO (DL z 4) (DL z 5) (DB z))=(let A:=([AV.x (.iface 9 (.string ({data:=List.toArray (Lib.itoa (U6 QF (4:Int).toNat)) }++{data:=#[46,46] }++{data:=List.toArray (Lib.itoa (U6 QJ (4:Int).toNat)) })))]);(need [UG 4 5] (need [(0:Int)<=U6 QF (4:Int).toNat/\U6 QF (4:Int).toNat<=1000\/(-1000:Int)<=U6 QF (4:Int).toNat/\U6 QF (4:Int).toNat<=1000,(-1000:Int)<=U6 QJ (4:Int).toNat/\U6 QJ (4:Int).toNat<=1000,10<=100] (need [96<=140737488355328,∀(i:Nat),i<1-> ∀(a:AV),a∈U3 1 A i->AV.one a=true] (need [VI ((4:Int)+1)] (need [Q7,WB,QN,XY,XZ,Z0,Z1,WR=WR,J4,(4:Int)+1=5,6=6,GR 6 (GE 5 (GV wl0) (U3 1 A)) (GV wl0),1=1,GM 1 (GV wl1),1=1,GM 1 (GV wl2),1=1,GM 1 (GV wl3),42=42,GM 42 (DJ rp0),WB,WZ] (leaf G4.normal))))))):=by
 kernel_rfl
theorem Zf5:PD (HU VL QV Q8 [] QE rO (DL z 5) (DL z 5) (DB z))=(need [Q7,WB,QN,XY,XZ,Z0,Z1,WR=WR,J4,J4,6=6,GM 6 (GV wl0),1=1,GM 1 (GV wl1),1=1,GM 1 (GV wl2),1=1,GM 1 (GV wl3),42=42,GM 42 (DJ rp0),WB,WZ] (leaf (G4.exit 0))):=by
 kernel_rfl
end
theorem YV{p:Prop}(h:p:=by
 (with_reducible repeat' first|apply Al|intro _)
 all_goals first|exact Ak|(rename_i E hE;cases hE;exact hQ)|contradiction|omega|exact FM (by assumption) (by simp [AV.one,Value.oneCell'])|(rename_i i O;exact Qd6 (by decide+kernel) i O)|(rename_i i O;exact ltM VQ i O)|exact bX (by decide+kernel)|exact sD (by decide+kernel)|decide+kernel|with_reducible rfl|rfl):p:=h
theorem Zg1(z:Nat):G5 VL (.loop rO) (Wz3 z):=by
 refine UT QE (L:=[]) (Ae y8 (Ae kX (Ae kP (Ae xC Aa)))) (Aj (Af y6 (Af F6 (Af RA (Af LV Ab)))) (Ag xD (Ag kO Ac)) (Ah x6 (Ah dT (U1.nil _)))) VW U0 (X:=Nat) (DL z) (λk=>k<=5) (λk=>6-k) (λ_=>DB z) (x0:=0) (Ao _) ?_ ?_ ?_;intro k
 match k with
 | 0=>
  show Sx.okB (DL z 0)=true;kernel_rfl
 | 1=>
  show Sx.okB (DL z 1)=true;kernel_rfl
 | 2=>
  show Sx.okB (DL z 2)=true;kernel_rfl
 | 3=>
  show Sx.okB (DL z 3)=true;kernel_rfl
 | 4=>
  show Sx.okB (DL z 4)=true;kernel_rfl
 |k+5=>
  show Sx.okB (DL z 5)=true;kernel_rfl
 intro k y E h;unfold DB at h;split at h;cases h;kernel_rfl;cases h;intro Q hQ k hx
 match k with
 | 0=>
  refine ⟨1,?_⟩
  with_reducible refine GX ?_
  rw [Zg0];simp only [M3,DB,VJ.sat,GQ] at hQ;simp only [VJ.sat,U8,UE,VI,DB];exact YV
 | 1=>
  refine ⟨2,?_⟩
  with_reducible refine GX ?_
  rw [Zf9];simp only [M3,DB,VJ.sat,GQ] at hQ;simp only [VJ.sat,U8,UE,VI,DB];exact YV
 | 2=>
  refine ⟨3,?_⟩
  with_reducible refine GX ?_
  rw [Zf8];simp only [M3,DB,VJ.sat,GQ] at hQ;simp only [VJ.sat,U8,UE,VI,DB];exact YV
 | 3=>
  refine ⟨4,?_⟩
  with_reducible refine GX ?_
  rw [Zf7];simp only [M3,DB,VJ.sat,GQ] at hQ;simp only [VJ.sat,U8,UE,VI,DB];exact YV
 | 4=>
  refine ⟨5,?_⟩
  with_reducible refine GX ?_
  rw [Zf6];simp only [M3,DB,VJ.sat,GQ] at hQ;simp only [VJ.sat,U8,UE,VI,DB];exact YV
 | 5=>
  refine ⟨5,?_⟩
  with_reducible refine GX ?_
  rw [Zf5];simp only [M3,DB,VJ.sat,GQ] at hQ;simp only [VJ.sat,U8,UE,VI,DB];exact YV
 |k+6=>omega
def SH(z:Nat):St:=((some {σ:=mkS 198 [(0,.top),(5,.ro (hsL VR)),(7,.ptr 14 0),(8,.fn (.func 40) [] [.ptr 14 0]),(9,.row 920),(10,.row 921),(11,.row 922),(12,.row 923),(116,.lst 2 3 (λk=>[i (U6 [0,1,-3] k),i (U6 [0,5,5] k)])),(117,i 3),(118,i 0)],m:=WW,nx:=930}:Option St):Option St).getD {σ:=[],m:=[],nx:=0}
noncomputable def SJ:Code:=U7 (VP (U5 Tryz.f12) 1)
abbrev WX:GW:=[(920,.row 20 1 6 (GV wl0)),(921,.row 20 1 4 (GV wl1)),(922,.row 20 1 1 (GV wl2)),(923,.row 20 1 1 (GV wl3)),(911,.row 5 1 42 (DJ rp0)),(14,.cells 104 [.ptr 14 0,.row 911])]
section
variable (z:Nat)
def RN:Nat->St
 | 0=>{σ:=H0 [(116,.lst 2 3 (λk=>[i (U6 [0,1,-3] k),i (U6 [0,5,5] k)])),(117,i 3),(118,i 0)] (SH z).σ,m:=WW,nx:=930}
 | 1=>{σ:=H0 [(116,.lst 2 3 (λk=>[i (U6 [0,1,-3] k),i (U6 [0,5,5] k)])),(117,i 3),(118,i 1)] (SH z).σ,m:=[(920,.row 20 1 6 (GV wl0)),(921,.row 20 1 2 (GV wl1)),(922,.row 20 1 1 (GV wl2)),(923,.row 20 1 1 (GV wl3)),(911,.row 5 1 42 (DJ rp0)),(14,.cells 104 [.ptr 14 0,.row 911])],nx:=930}
 | 2=>{σ:=H0 [(116,.lst 2 3 (λk=>[i (U6 [0,1,-3] k),i (U6 [0,5,5] k)])),(117,i 3),(118,i 2)] (SH z).σ,m:=[(920,.row 20 1 6 (GV wl0)),(921,.row 20 1 3 (GV wl1)),(922,.row 20 1 1 (GV wl2)),(923,.row 20 1 1 (GV wl3)),(911,.row 5 1 42 (DJ rp0)),(14,.cells 104 [.ptr 14 0,.row 911])],nx:=930}
 |_=>{σ:=H0 [(116,.lst 2 3 (λk=>[i (U6 [0,1,-3] k),i (U6 [0,5,5] k)])),(117,i 3),(118,i 3)] (SH z).σ,m:=WX,nx:=930}
def RC:G4->Option St
 | .exit 2=>some {σ:=H0 [(116,.lst 2 3 (λk=>[i (U6 [0,1,-3] k),i (U6 [0,5,5] k)])),(117,i 3),(118,i 3)] (SH z).σ,m:=WX,nx:=930}
 |_=>none
def lX:CT:= .leaf (.exit 2,(RC z (.exit 2)).getD (SH z))
def Wz2:UF:=GG QE (HD (RN z 0) (lX z))
abbrev W7:AV:=lst 2 3 λk=>[iI (U6 [(0:Int),1,-3] k),iI (U6 [(0:Int),5,5] k)]
abbrev WU:List Int:=[(0:Int),1,-3]
abbrev Z6:List Int:=[(0:Int),5,5]
theorem Zf3:PD (HU VL QV Q8 [] QE SJ (RN z 0) (RN z 1) (RC z))=(let A:=([AV.x (.iface 9 (.string ({data:=List.toArray (Lib.itoa (U6 WU (0:Int).toNat)) }++{data:=#[46,46] }++{data:=List.toArray (Lib.itoa (U6 Z6 (0:Int).toNat)) })))]);(need [UG 0 3] (need [(0:Int)<=U6 WU (0:Int).toNat/\U6 WU (0:Int).toNat<=1000\/(-1000:Int)<=U6 WU (0:Int).toNat/\U6 WU (0:Int).toNat<=1000,(-1000:Int)<=U6 Z6 (0:Int).toNat/\U6 Z6 (0:Int).toNat<=1000,4<=100] (need [32<=140737488355328,∀(i:Nat),i<1-> ∀(a:AV),a∈U3 1 A i->AV.one a=true] (need [VI ((0:Int)+1)] (need [Q7,WB,QN,XY,XZ,Z0,Z1,W7=W7,XE,(0:Int)+1=1,6=6,GM 6 (GV wl0),2=2,GR 2 (GE 1 (GV wl1) (U3 1 A)) (GV wl1),1=1,GM 1 (GV wl2),1=1,GM 1 (GV wl3),42=42,GM 42 (DJ rp0),WB,WZ] (leaf G4.normal))))))):=by
 kernel_rfl
theorem Zf2:PD (HU VL QV Q8 [] QE SJ (RN z 1) (RN z 2) (RC z))=(let A:=([AV.x (.iface 9 (.string ({data:=List.toArray (Lib.itoa (U6 WU (1:Int).toNat)) }++{data:=#[46,46] }++{data:=List.toArray (Lib.itoa (U6 Z6 (1:Int).toNat)) })))]);(need [UG 1 3] (need [(0:Int)<=U6 WU (1:Int).toNat/\U6 WU (1:Int).toNat<=1000\/(-1000:Int)<=U6 WU (1:Int).toNat/\U6 WU (1:Int).toNat<=1000,(-1000:Int)<=U6 Z6 (1:Int).toNat/\U6 Z6 (1:Int).toNat<=1000,4<=100] (need [48<=140737488355328,∀(i:Nat),i<1-> ∀(a:AV),a∈U3 1 A i->AV.one a=true] (need [VI ((1:Int)+1)] (need [Q7,WB,QN,XY,XZ,Z0,Z1,W7=W7,XE,(1:Int)+1=2,6=6,GM 6 (GV wl0),3=3,GR 3 (GE 2 (GV wl1) (U3 1 A)) (GV wl1),1=1,GM 1 (GV wl2),1=1,GM 1 (GV wl3),42=42,GM 42 (DJ rp0),WB,WZ] (leaf G4.normal))))))):=by
 kernel_rfl
theorem Zf1:PD (HU VL QV Q8 [] QE SJ (RN z 2) (RN z 3) (RC z))=(let A:=([AV.x (.iface 9 (.string ({data:=List.toArray (Lib.itoa (U6 WU (2:Int).toNat)) }++{data:=#[46,46] }++{data:=List.toArray (Lib.itoa (U6 Z6 (2:Int).toNat)) })))]);(need [UG 2 3] (need [(0:Int)<=U6 WU (2:Int).toNat/\U6 WU (2:Int).toNat<=1000\/(-1000:Int)<=U6 WU (2:Int).toNat/\U6 WU (2:Int).toNat<=1000,(-1000:Int)<=U6 Z6 (2:Int).toNat/\U6 Z6 (2:Int).toNat<=1000,5<=100] (need [64<=140737488355328,∀(i:Nat),i<1-> ∀(a:AV),a∈U3 1 A i->AV.one a=true] (need [VI ((2:Int)+1)] (need [Q7,WB,QN,XY,XZ,Z0,Z1,W7=W7,XE,(2:Int)+1=3,6=6,GM 6 (GV wl0),4=4,GR 4 (GE 3 (GV wl1) (U3 1 A)) (GV wl1),1=1,GM 1 (GV wl2),1=1,GM 1 (GV wl3),42=42,GM 42 (DJ rp0),WB,WZ] (leaf G4.normal))))))):=by
 kernel_rfl
theorem Zf0:PD (HU VL QV Q8 [] QE SJ (RN z 3) (RN z 3) (RC z))=(need [Q7,WB,QN,XY,XZ,Z0,Z1,W7=W7,XE,XE,6=6,GM 6 (GV wl0),4=4,GM 4 (GV wl1),1=1,GM 1 (GV wl2),1=1,GM 1 (GV wl3),42=42,GM 42 (DJ rp0),WB,WZ] (leaf (G4.exit 2))):=by
 kernel_rfl
theorem Zf4:G5 VL (.loop SJ) (Wz2 z):=by
 refine UT QE (L:=[]) (Ae y8 (Ae kX (Ae kP (Ae xC Aa)))) (Aj (Af y6 (Af F6 (Af RA (Af LV Ab)))) (Ag xD (Ag kO Ac)) (Ah x6 (Ah dT (U1.nil _)))) VW U0 (X:=Nat) (RN z) (λk=>k<=3) (λk=>4-k) (λ_=>RC z) (x0:=0) (Ao _) ?_ ?_ ?_;intro k
 match k with
 | 0=>
  show Sx.okB (RN z 0)=true;kernel_rfl
 | 1=>
  show Sx.okB (RN z 1)=true;kernel_rfl
 | 2=>
  show Sx.okB (RN z 2)=true;kernel_rfl
 |k+3=>
  show Sx.okB (RN z 3)=true;kernel_rfl
 intro k y E h;unfold RC at h;split at h;cases h;kernel_rfl;cases h;intro Q hQ k hx
 match k with
 | 0=>
  refine ⟨1,?_⟩
  with_reducible refine GX ?_
  rw [Zf3];simp only [lX,RC,VJ.sat,GQ] at hQ;simp only [VJ.sat,U8,UE,VI,RC];exact YV
 | 1=>
  refine ⟨2,?_⟩
  with_reducible refine GX ?_
  rw [Zf2];simp only [lX,RC,VJ.sat,GQ] at hQ;simp only [VJ.sat,U8,UE,VI,RC];exact YV
 | 2=>
  refine ⟨3,?_⟩
  with_reducible refine GX ?_
  rw [Zf1];simp only [lX,RC,VJ.sat,GQ] at hQ;simp only [VJ.sat,U8,UE,VI,RC];exact YV
 | 3=>
  refine ⟨3,?_⟩
  with_reducible refine GX ?_
  rw [Zf0];simp only [lX,RC,VJ.sat,GQ] at hQ;simp only [VJ.sat,U8,UE,VI,RC];exact YV
 |k+4=>omega
end
def Qj7(z:Nat):St:=((some {σ:=mkS 198 [(0,.top),(5,.ro (hsL VR)),(7,.ptr 14 0),(8,.fn (.func 40) [] [.ptr 14 0]),(9,.row 920),(10,.row 921),(11,.row 922),(12,.row 923),(136,hsC VR),(137,i 1),(138,i 0)],m:=WX,nx:=930}:Option St):Option St).getD {σ:=[],m:=[],nx:=0}
noncomputable def Qk3:Code:=U7 (VP (U5 Tryz.f12) 2)
abbrev WY:GW:=[(920,.row 20 1 6 (GV wl0)),(921,.row 20 1 4 (GV wl1)),(922,.row 20 1 2 (GV wl2)),(923,.row 20 1 1 (GV wl3)),(911,.row 5 1 42 (DJ rp0)),(14,.cells 104 [.ptr 14 0,.row 911])]
section
variable (z:Nat)
def qX:Nat->St
 | 0=>{σ:=H0 [(136,hsC VR),(137,i 1),(138,i 0)] (Qj7 z).σ,m:=WX,nx:=930}
 |_=>{σ:=H0 [(136,hsC VR),(137,i 1),(138,i 1)] (Qj7 z).σ,m:=WY,nx:=930}
def BN:G4->Option St
 | .exit 4=>some {σ:=H0 [(136,hsC VR),(137,i 1),(138,i 1)] (Qj7 z).σ,m:=WY,nx:=930}
 |_=>none
def Wv8:CT:= .leaf (.exit 4,(BN z (.exit 4)).getD (Qj7 z))
def Wz1:UF:=GG QE (HD (qX z 0) (Wv8 z))
abbrev YH:AV:=agg [hR 2 VR,iI VR.pl,iI VR.ph,hY 2 VR,hC 1 VR,hT 2 VR]
theorem Ze8:PD (HU VL QV Q8 [] QE Qk3 (qX z 0) (qX z 1) (BN z))=(need [UG 0 VR.nc] (need [[YH,agg [iI (VR.ca (0:Int).toNat),iI (VR.cb (0:Int).toNat),iI (VR.cc (0:Int).toNat),iI (VR.cd (0:Int).toNat),AV.x (.bool (VR.cv (0:Int).toNat))],iI (VR.cd (0:Int).toNat)]=[YH,agg [iI (VR.ca 0),iI (VR.cb 0),iI (VR.cc 0),iI (VR.cd 0),AV.x (.bool (VR.cv 0))],iI (VR.cd 0)]] (need [32<=140737488355328,RQ 1 (U3 1 [AV.x (.iface 3 (X0))])] (need [VI ((0:Int)+1)] (need [Q7,WB,QN,XY,XZ,Z0,Z1,VU (hC 1 VR),KP,(0:Int)+1=1,6=6,GM 6 (GV wl0),4=4,GM 4 (GV wl1),2=2,GR 2 (GE 1 (GV wl2) (U3 1 [AV.x (.iface 3 (X0))])) (GV wl2),1=1,GM 1 (GV wl3),42=42,GM 42 (DJ rp0),WB,WZ] (leaf G4.normal)))))):=by
 kernel_rfl
theorem Ze7:PD (HU VL QV Q8 [] QE Qk3 (qX z 1) (qX z 1) (BN z))=(need [Q7,WB,QN,XY,XZ,Z0,Z1,VU (hC 1 VR),KP,KP,6=6,GM 6 (GV wl0),4=4,GM 4 (GV wl1),2=2,GM 2 (GV wl2),1=1,GM 1 (GV wl3),42=42,GM 42 (DJ rp0),WB,WZ] (leaf (G4.exit 4))):=by
 kernel_rfl
theorem Ze9:G5 VL (.loop Qk3) (Wz1 z):=by
 refine UT QE (L:=[]) (Ae y8 (Ae kX (Ae kP (Ae xC Aa)))) (Aj (Af y6 (Af F6 (Af RA (Af LV Ab)))) (Ag xD (Ag kO Ac)) (Ah x6 (Ah dT (U1.nil _)))) VW U0 (X:=Nat) (qX z) (λk=>k<=1) (λk=>2-k) (λ_=>BN z) (x0:=0) (Ao _) ?_ ?_ ?_;intro k
 match k with
 | 0=>
  show Sx.okB (qX z 0)=true;kernel_rfl
 |k+1=>
  show Sx.okB (qX z 1)=true;kernel_rfl
 intro k y E h;unfold BN at h;split at h;cases h;kernel_rfl;cases h;intro Q hQ k hx
 match k with
 | 0=>
  refine ⟨1,?_⟩
  with_reducible refine GX ?_
  rw [Ze8];simp only [Wv8,BN,VJ.sat,GQ] at hQ;simp only [VJ.sat,U8,UE,VI,BN];exact YV
 | 1=>
  refine ⟨1,?_⟩
  with_reducible refine GX ?_
  rw [Ze7];simp only [Wv8,BN,VJ.sat,GQ] at hQ;simp only [VJ.sat,U8,UE,VI,BN];exact YV
 |k+2=>omega
end
def MH(z:Nat):St:=((some {σ:=mkS 198 [(0,.top),(5,.ro (hsL VR)),(7,.ptr 14 0),(8,.fn (.func 40) [] [.ptr 14 0]),(9,.row 920),(10,.row 921),(11,.row 922),(12,.row 923),(162,i 4),(163,i 0)],m:=WY,nx:=930}:Option St):Option St).getD {σ:=[],m:=[],nx:=0}
noncomputable def MJ:Code:=U7 (VP (U5 Tryz.f12) 3)
abbrev JG:GW:=[(920,.row 20 1 6 (GV wl0)),(921,.row 20 1 4 (GV wl1)),(922,.row 20 1 2 (GV wl2)),(923,.row 20 1 5 (GV wl3)),(911,.row 5 1 42 (DJ rp0)),(14,.cells 104 [.ptr 14 0,.row 911])]
section
variable (z:Nat)
def FJ:Nat->St
 | 0=>{σ:=H0 [(162,i 4),(163,i 0)] (MH z).σ,m:=WY,nx:=930}
 | 1=>{σ:=H0 [(162,i 4),(163,i 1)] (MH z).σ,m:=[(920,.row 20 1 6 (GV wl0)),(921,.row 20 1 4 (GV wl1)),(922,.row 20 1 2 (GV wl2)),(923,.row 20 1 2 (GV wl3)),(911,.row 5 1 42 (DJ rp0)),(14,.cells 104 [.ptr 14 0,.row 911])],nx:=930}
 | 2=>{σ:=H0 [(162,i 4),(163,i 2)] (MH z).σ,m:=[(920,.row 20 1 6 (GV wl0)),(921,.row 20 1 4 (GV wl1)),(922,.row 20 1 2 (GV wl2)),(923,.row 20 1 3 (GV wl3)),(911,.row 5 1 42 (DJ rp0)),(14,.cells 104 [.ptr 14 0,.row 911])],nx:=930}
 | 3=>{σ:=H0 [(162,i 4),(163,i 3)] (MH z).σ,m:=[(920,.row 20 1 6 (GV wl0)),(921,.row 20 1 4 (GV wl1)),(922,.row 20 1 2 (GV wl2)),(923,.row 20 1 4 (GV wl3)),(911,.row 5 1 42 (DJ rp0)),(14,.cells 104 [.ptr 14 0,.row 911])],nx:=930}
 |_=>{σ:=H0 [(162,i 4),(163,i 4)] (MH z).σ,m:=JG,nx:=930}
def FB:G4->Option St
 | .exit 6=>some {σ:=H0 [(162,i 4),(163,i 4)] (MH z).σ,m:=JG,nx:=930}
 |_=>none
def S3:CT:= .leaf (.exit 6,(FB z (.exit 6)).getD (MH z))
def Wz0:UF:=GG QE (HD (FJ z 0) (S3 z))
abbrev ZN:AV:=agg [iI 4,iI 10,hT 2 VR]
abbrev ZO:List Int:=[(4:Int),2,4,0]
abbrev Y8:Prop:=iI 100=iI 100
theorem Ze5:PD (HU VL QV Q8 [] QE MJ (FJ z 0) (FJ z 1) (FB z))=(let A:=([AV.x (.iface 3 (.int .i64 (U6 ZO (0:Int).toNat)))]);(need [ZN=ZN,Y8,(0:Int)<=0/\(0:Int)<=3] (need [32<=140737488355328,∀(i:Nat),i<1-> ∀(a:AV),a∈U3 1 A i->AV.one a=true] (need [VI ((0:Int)+1)] (need [Q7,WB,QN,XY,XZ,Z0,Z1,QY,(0:Int)+1=1,6=6,GM 6 (GV wl0),4=4,GM 4 (GV wl1),2=2,GM 2 (GV wl2),2=2,GR 2 (GE 1 (GV wl3) (U3 1 A)) (GV wl3),42=42,GM 42 (DJ rp0),WB,WZ] (leaf G4.normal)))))):=by
 kernel_rfl
theorem Ze4:PD (HU VL QV Q8 [] QE MJ (FJ z 1) (FJ z 2) (FB z))=(let A:=([AV.x (.iface 3 (.int .i64 (U6 ZO (1:Int).toNat)))]);(need [ZN=ZN,Y8,(0:Int)<=1/\(1:Int)<=3] (need [48<=140737488355328,∀(i:Nat),i<1-> ∀(a:AV),a∈U3 1 A i->AV.one a=true] (need [VI ((1:Int)+1)] (need [Q7,WB,QN,XY,XZ,Z0,Z1,QY,(1:Int)+1=2,6=6,GM 6 (GV wl0),4=4,GM 4 (GV wl1),2=2,GM 2 (GV wl2),3=3,GR 3 (GE 2 (GV wl3) (U3 1 A)) (GV wl3),42=42,GM 42 (DJ rp0),WB,WZ] (leaf G4.normal)))))):=by
 kernel_rfl
theorem Ze3:PD (HU VL QV Q8 [] QE MJ (FJ z 2) (FJ z 3) (FB z))=(let A:=([AV.x (.iface 3 (.int .i64 (U6 ZO (2:Int).toNat)))]);(need [ZN=ZN,Y8,(0:Int)<=2/\(2:Int)<=3] (need [64<=140737488355328,∀(i:Nat),i<1-> ∀(a:AV),a∈U3 1 A i->AV.one a=true] (need [VI ((2:Int)+1)] (need [Q7,WB,QN,XY,XZ,Z0,Z1,QY,(2:Int)+1=3,6=6,GM 6 (GV wl0),4=4,GM 4 (GV wl1),2=2,GM 2 (GV wl2),4=4,GR 4 (GE 3 (GV wl3) (U3 1 A)) (GV wl3),42=42,GM 42 (DJ rp0),WB,WZ] (leaf G4.normal)))))):=by
 kernel_rfl
theorem Ze2:PD (HU VL QV Q8 [] QE MJ (FJ z 3) (FJ z 4) (FB z))=(let A:=([AV.x (.iface 3 (.int .i64 (U6 ZO (3:Int).toNat)))]);(need [ZN=ZN,Y8,(0:Int)<=3/\(3:Int)<=3] (need [80<=140737488355328,∀(i:Nat),i<1-> ∀(a:AV),a∈U3 1 A i->AV.one a=true] (need [VI ((3:Int)+1)] (need [Q7,WB,QN,XY,XZ,Z0,Z1,QY,(3:Int)+1=4,6=6,GM 6 (GV wl0),4=4,GM 4 (GV wl1),2=2,GM 2 (GV wl2),5=5,GR 5 (GE 4 (GV wl3) (U3 1 A)) (GV wl3),42=42,GM 42 (DJ rp0),WB,WZ] (leaf G4.normal)))))):=by
 kernel_rfl
theorem Ze1:PD (HU VL QV Q8 [] QE MJ (FJ z 4) (FJ z 4) (FB z))=(need [Q7,WB,QN,XY,XZ,Z0,Z1,QY,QY,6=6,GM 6 (GV wl0),4=4,GM 4 (GV wl1),2=2,GM 2 (GV wl2),5=5,GM 5 (GV wl3),42=42,GM 42 (DJ rp0),WB,WZ] (leaf (G4.exit 6))):=by
 kernel_rfl
theorem Ze6:G5 VL (.loop MJ) (Wz0 z):=by
 refine UT QE (L:=[]) (Ae y8 (Ae kX (Ae kP (Ae xC Aa)))) (Aj (Af y6 (Af F6 (Af RA (Af LV Ab)))) (Ag xD (Ag kO Ac)) (Ah x6 (Ah dT (U1.nil _)))) VW U0 (X:=Nat) (FJ z) (λk=>k<=4) (λk=>5-k) (λ_=>FB z) (x0:=0) (Ao _) ?_ ?_ ?_;intro k
 match k with
 | 0=>
  show Sx.okB (FJ z 0)=true;kernel_rfl
 | 1=>
  show Sx.okB (FJ z 1)=true;kernel_rfl
 | 2=>
  show Sx.okB (FJ z 2)=true;kernel_rfl
 | 3=>
  show Sx.okB (FJ z 3)=true;kernel_rfl
 |k+4=>
  show Sx.okB (FJ z 4)=true;kernel_rfl
 intro k y E h;unfold FB at h;split at h;cases h;kernel_rfl;cases h;intro Q hQ k hx
 match k with
 | 0=>
  refine ⟨1,?_⟩
  with_reducible refine GX ?_
  rw [Ze5];simp only [S3,FB,VJ.sat,GQ] at hQ;simp only [VJ.sat,U8,UE,VI,FB];exact YV
 | 1=>
  refine ⟨2,?_⟩
  with_reducible refine GX ?_
  rw [Ze4];simp only [S3,FB,VJ.sat,GQ] at hQ;simp only [VJ.sat,U8,UE,VI,FB];exact YV
 | 2=>
  refine ⟨3,?_⟩
  with_reducible refine GX ?_
  rw [Ze3];simp only [S3,FB,VJ.sat,GQ] at hQ;simp only [VJ.sat,U8,UE,VI,FB];exact YV
 | 3=>
  refine ⟨4,?_⟩
  with_reducible refine GX ?_
  rw [Ze2];simp only [S3,FB,VJ.sat,GQ] at hQ;simp only [VJ.sat,U8,UE,VI,FB];exact YV
 | 4=>
  refine ⟨4,?_⟩
  with_reducible refine GX ?_
  rw [Ze1];simp only [S3,FB,VJ.sat,GQ] at hQ;simp only [VJ.sat,U8,UE,VI,FB];exact YV
 |k+5=>omega
end
abbrev JJ:GW:=[(925,.row 105 1 4 (U3 1 [.lst 1 6 (GV wl0),.lst 1 4 (GV wl1),.lst 1 2 (GV wl2),.lst 1 5 (GV wl3)])),(911,.row 5 1 42 (DJ rp0)),(14,.cells 104 [.ptr 14 0,.row 911])]
def MG(z:Nat):St:=((some {σ:=mkS 198 [(0,.top),(5,.ro (hsL VR)),(7,.ptr 14 0),(8,.fn (.func 40) [] [.ptr 14 0]),(187,.row 925),(188,i 4),(189,i 0)],m:=JJ,nx:=930}:Option St):Option St).getD {σ:=[],m:=[],nx:=0}
noncomputable def MI:Code:=U7 (VP (U5 Tryz.f12) 4)
abbrev JI:GW:=[(925,.row 105 1 4 (U3 1 [.lst 1 6 (GV wl0),.lst 1 4 (GV wl1),.lst 1 2 (GV wl2),.lst 1 5 (GV wl3)])),(911,.row 5 1 136 (DJ rp4)),(14,.cells 104 [.ptr 14 0,.row 911])]
section
variable (z:Nat)
def FI:Nat->St
 | 0=>{σ:=H0 [(187,.row 925),(188,i 4),(189,i 0)] (MG z).σ,m:=JJ,nx:=930}
 | 1=>{σ:=H0 [(187,.row 925),(188,i 4),(189,i 1)] (MG z).σ,m:=[(925,.row 105 1 4 (U3 1 [.lst 1 6 (GV wl0),.lst 1 4 (GV wl1),.lst 1 2 (GV wl2),.lst 1 5 (GV wl3)])),(911,.row 5 1 91 (DJ rp1)),(14,.cells 104 [.ptr 14 0,.row 911])],nx:=930}
 | 2=>{σ:=H0 [(187,.row 925),(188,i 4),(189,i 2)] (MG z).σ,m:=[(925,.row 105 1 4 (U3 1 [.lst 1 6 (GV wl0),.lst 1 4 (GV wl1),.lst 1 2 (GV wl2),.lst 1 5 (GV wl3)])),(911,.row 5 1 115 (DJ rp2)),(14,.cells 104 [.ptr 14 0,.row 911])],nx:=930}
 | 3=>{σ:=H0 [(187,.row 925),(188,i 4),(189,i 3)] (MG z).σ,m:=[(925,.row 105 1 4 (U3 1 [.lst 1 6 (GV wl0),.lst 1 4 (GV wl1),.lst 1 2 (GV wl2),.lst 1 5 (GV wl3)])),(911,.row 5 1 123 (DJ rp3)),(14,.cells 104 [.ptr 14 0,.row 911])],nx:=930}
 |_=>{σ:=H0 [(187,.row 925),(188,i 4),(189,i 4)] (MG z).σ,m:=JI,nx:=930}
def FA:G4->Option St
 | .exit 8=>some {σ:=H0 [(187,.row 925),(188,i 4),(189,i 4)] (MG z).σ,m:=JI,nx:=930}
 |_=>none
def S2:CT:= .leaf (.exit 8,(FA z (.exit 8)).getD (MG z))
def Wy9:UF:=GG [(.slot 187,925,105,1),(.cell 14 1,911,5,1)] (HD (FI z 0) (S2 z))
abbrev WP:List AV:=[AV.x (.string {data:=#[(48:UInt8),(46:UInt8),(46:UInt8),(48:UInt8)] })]
abbrev XC:List AV:=[AV.x (.string {data:=#[(49:UInt8),(48:UInt8),(48:UInt8),(48:UInt8),(46:UInt8),(46:UInt8),(49:UInt8),(48:UInt8),(48:UInt8),(48:UInt8)] })]
abbrev XP:List AV:=[AV.x (.string {data:=#[(50:UInt8),(48:UInt8),(48:UInt8),(46:UInt8),(46:UInt8),(51:UInt8),(48:UInt8),(48:UInt8)] })]
abbrev XQ:List AV:=[AV.x (.string {data:=#[(52:UInt8),(49:UInt8),(48:UInt8),(46:UInt8),(46:UInt8),(53:UInt8),(49:UInt8),(48:UInt8)] })]
abbrev XR:List AV:=[AV.x (.string {data:=#[(55:UInt8),(48:UInt8),(48:UInt8),(46:UInt8),(46:UInt8),(56:UInt8),(48:UInt8),(48:UInt8)] })]
abbrev Z4:Value:=Value.string {data:=#[(109:UInt8),(97:UInt8),(114:UInt8),(107:UInt8),(115:UInt8)] }
abbrev J5:List (Pl×Nat×TypeId×Nat):=[(.slot 187,925,105,1),(.cell 14 1,911,5,1)]
abbrev KZ:Prop:=AV.row 925=AV.row 925
theorem Zd9:PD (HU VL QV Q8 [] J5 MI (FI z 0) (FI z 1) (FA z))=(let A:=([lst 1 6 λk=>[Option.rec (top) (λval=>(λval=>(λx=>x) val) val) wl0[k]?],lst 1 4 λk=>[Option.rec (top) (λval=>(λval=>(λx=>x) val) val) wl1[k]?],lst 1 2 λk=>[Option.rec (top) (λval=>(λval=>(λx=>x) val) val) wl2[k]?],lst 1 5 λk=>[Option.rec (top) (λval=>(λval=>(λx=>x) val) val) wl3[k]?]]);let z1:=(GE 5 (GE 4 (GE 3 (GE 2 (GE 1 (GE 0 (λx=>[]) (U3 1 [AV.x (Z4)])) (U3 1 WP)) (U3 1 XP)) (U3 1 XQ)) (U3 1 XR)) (U3 1 XC));(need [UG 0 4] (need [(0:Int).toNat<4] (need [UG 0 6] (need [16<=140737488355328,RQ 1 (U3 1 [AV.x (Z4)])] (need [VI ((0:Int)+1)] (need [(0:Int)<=0+1/\(0:Int)+1<(↑(6:Nat):Int)] (need [32<=140737488355328,∀(i:Nat),i<1-> ∀(a:AV),a∈U3 1 WP i->AV.one a=true] (need [VI ((0:Int)+1+1)] (need [(0:Int)<=0+1+1/\(0:Int)+1+1<(↑(6:Nat):Int)] (need [48<=140737488355328,∀(i:Nat),i<1-> ∀(a:AV),a∈U3 1 XP i->AV.one a=true] (need [VI ((0:Int)+1+1+1)] (need [(0:Int)<=0+1+1+1/\(0:Int)+1+1+1<(↑(6:Nat):Int)] (need [64<=140737488355328,∀(i:Nat),i<1-> ∀(a:AV),a∈U3 1 XQ i->AV.one a=true] (need [VI ((0:Int)+1+1+1+1)] (need [(0:Int)<=0+1+1+1+1/\(0:Int)+1+1+1+1<(↑(6:Nat):Int)] (need [80<=140737488355328,∀(i:Nat),i<1-> ∀(a:AV),a∈U3 1 XR i->AV.one a=true] (need [VI ((0:Int)+1+1+1+1+1)] (need [(0:Int)<=0+1+1+1+1+1/\(0:Int)+1+1+1+1+1<(↑(6:Nat):Int)] (need [96<=140737488355328,∀(i:Nat),i<1-> ∀(a:AV),a∈U3 1 XC i->AV.one a=true] (need [VI ((0:Int)+1+1+1+1+1+1)] (need [6<=100000,jX 6 z1,ByteArray.size (jnB 6 z1 {data:=#[32] })<=140737488355328] (need [(↑(49:Nat):Int)<=9223372036854775807] (need [91<=140737488355328] (need [VI ((0:Int)+1)] (need [Q7,WB,QN,KZ,QY,(0:Int)+1=1,4=4,GM 4 (U3 1 A),91=91,GR 91 (GE 42 (DJ rp0) (DJ (jnB 6 z1 {data:=#[32] }++{data:=#[10] }))) (DJ rp1),WB,WZ] (leaf G4.normal))))))))))))))))))))))))))):=by
 kernel_rfl
abbrev XD:Value:=Value.string {data:=#[(111:UInt8),(102:UInt8),(102:UInt8),(115:UInt8),(101:UInt8),(116:UInt8),(115:UInt8)] }
abbrev ZJ:List AV:=[AV.x (.string {data:=#[(45:UInt8),(51:UInt8),(46:UInt8),(46:UInt8),(53:UInt8)] })]
abbrev ZT:List AV:=[AV.x (.string {data:=#[(49:UInt8),(46:UInt8),(46:UInt8),(53:UInt8)] })]
theorem Zd8:PD (HU VL QV Q8 [] J5 MI (FI z 1) (FI z 2) (FA z))=(let A:=([lst 1 6 λk=>[Option.rec (top) (λval=>(λval=>(λx=>x) val) val) wl0[k]?],lst 1 4 λk=>[Option.rec (top) (λval=>(λval=>(λx=>x) val) val) wl1[k]?],lst 1 2 λk=>[Option.rec (top) (λval=>(λval=>(λx=>x) val) val) wl2[k]?],lst 1 5 λk=>[Option.rec (top) (λval=>(λval=>(λx=>x) val) val) wl3[k]?]]);let z1:=(GE 3 (GE 2 (GE 1 (GE 0 (λx=>[]) (U3 1 [AV.x (XD)])) (U3 1 WP)) (U3 1 ZT)) (U3 1 ZJ));(need [UG 1 4] (need [(1:Int).toNat<4] (need [UG 0 4] (need [16<=140737488355328,RQ 1 (U3 1 [AV.x (XD)])] (need [VI ((0:Int)+1)] (need [(0:Int)<=0+1/\(0:Int)+1<(↑(4:Nat):Int)] (need [32<=140737488355328,∀(i:Nat),i<1-> ∀(a:AV),a∈U3 1 WP i->AV.one a=true] (need [VI ((0:Int)+1+1)] (need [(0:Int)<=0+1+1/\(0:Int)+1+1<(↑(4:Nat):Int)] (need [48<=140737488355328,∀(i:Nat),i<1-> ∀(a:AV),a∈U3 1 ZT i->AV.one a=true] (need [VI ((0:Int)+1+1+1)] (need [(0:Int)<=0+1+1+1/\(0:Int)+1+1+1<(↑(4:Nat):Int)] (need [64<=140737488355328,∀(i:Nat),i<1-> ∀(a:AV),a∈U3 1 ZJ i->AV.one a=true] (need [VI ((0:Int)+1+1+1+1)] (need [4<=100000,jX 4 z1,ByteArray.size (jnB 4 z1 {data:=#[32] })<=140737488355328] (need [(↑(24:Nat):Int)<=9223372036854775807] (need [115<=140737488355328] (need [VI ((1:Int)+1)] (need [Q7,WB,QN,KZ,QY,(1:Int)+1=2,4=4,GM 4 (U3 1 A),115=115,GR 115 (GE 91 (DJ rp1) (DJ (jnB 4 z1 {data:=#[32] }++{data:=#[10] }))) (DJ rp2),WB,WZ] (leaf G4.normal))))))))))))))))))))):=by
 kernel_rfl
abbrev XL:List AV:=[AV.x (.string {data:=List.toArray (Lib.itoa (0:Int)) })]
abbrev Z5:Value:=Value.string {data:=#[(115:UInt8),(116:UInt8),(97:UInt8),(110:UInt8),(100:UInt8)] }
theorem Zd7:PD (HU VL QV Q8 [] J5 MI (FI z 2) (FI z 3) (FA z))=(let A:=([lst 1 6 λk=>[Option.rec (top) (λval=>(λval=>(λx=>x) val) val) wl0[k]?],lst 1 4 λk=>[Option.rec (top) (λval=>(λval=>(λx=>x) val) val) wl1[k]?],lst 1 2 λk=>[Option.rec (top) (λval=>(λval=>(λx=>x) val) val) wl2[k]?],lst 1 5 λk=>[Option.rec (top) (λval=>(λval=>(λx=>x) val) val) wl3[k]?]]);let z1:=(GE 1 (GE 0 (λx=>[]) (U3 1 [AV.x (Z5)])) (U3 1 XL));(need [UG 2 4] (need [(2:Int).toNat<4] (need [UG 0 2] (need [16<=140737488355328,RQ 1 (U3 1 [AV.x (Z5)])] (need [VI ((0:Int)+1)] (need [(0:Int)<=0+1/\(0:Int)+1<(↑(2:Nat):Int)] (need [VI (0:Int)] (need [32<=140737488355328,∀(i:Nat),i<1-> ∀(a:AV),a∈U3 1 XL i->AV.one a=true] (need [VI ((0:Int)+1+1)] (need [2<=100000,jX 2 z1,ByteArray.size (jnB 2 z1 {data:=#[32] })<=140737488355328] (need [(↑(8:Nat):Int)<=9223372036854775807] (need [123<=140737488355328] (need [VI ((2:Int)+1)] (need [Q7,WB,QN,KZ,QY,(2:Int)+1=3,4=4,GM 4 (U3 1 A),123=123,GR 123 (GE 115 (DJ rp2) (DJ (jnB 2 z1 {data:=#[32] }++{data:=#[10] }))) (DJ rp3),WB,WZ] (leaf G4.normal)))))))))))))))):=by
 kernel_rfl
abbrev XM:List AV:=[AV.x (.string {data:=List.toArray (Lib.itoa (4:Int)) })]
abbrev ZD:Value:=Value.string {data:=#[(104:UInt8),(111:UInt8),(108:UInt8),(100:UInt8)] }
abbrev JD:List AV:=[AV.x (.string {data:=List.toArray (Lib.itoa (2:Int)) })]
theorem Zd6:PD (HU VL QV Q8 [] J5 MI (FI z 3) (FI z 4) (FA z))=(let A:=([lst 1 6 λk=>[Option.rec (top) (λval=>(λval=>(λx=>x) val) val) wl0[k]?],lst 1 4 λk=>[Option.rec (top) (λval=>(λval=>(λx=>x) val) val) wl1[k]?],lst 1 2 λk=>[Option.rec (top) (λval=>(λval=>(λx=>x) val) val) wl2[k]?],lst 1 5 λk=>[Option.rec (top) (λval=>(λval=>(λx=>x) val) val) wl3[k]?]]);let z1:=(GE 4 (GE 3 (GE 2 (GE 1 (GE 0 (λx=>[]) (U3 1 [AV.x (ZD)])) (U3 1 XM)) (U3 1 JD)) (U3 1 XM)) (U3 1 XL));(need [UG 3 4] (need [(3:Int).toNat<4] (need [UG 0 5] (need [16<=140737488355328,RQ 1 (U3 1 [AV.x (ZD)])] (need [VI ((0:Int)+1)] (need [(0:Int)<=0+1/\(0:Int)+1<(↑(5:Nat):Int)] (need [VI (4:Int)] (need [32<=140737488355328,∀(i:Nat),i<1-> ∀(a:AV),a∈U3 1 XM i->AV.one a=true] (need [VI ((0:Int)+1+1)] (need [(0:Int)<=0+1+1/\(0:Int)+1+1<(↑(5:Nat):Int)] (need [VI (2:Int)] (need [48<=140737488355328,∀(i:Nat),i<1-> ∀(a:AV),a∈U3 1 JD i->AV.one a=true] (need [VI ((0:Int)+1+1+1)] (need [(0:Int)<=0+1+1+1/\(0:Int)+1+1+1<(↑(5:Nat):Int)] (need [VI (4:Int)] (need [64<=140737488355328,∀(i:Nat),i<1-> ∀(a:AV),a∈U3 1 XM i->AV.one a=true] (need [VI ((0:Int)+1+1+1+1)] (need [(0:Int)<=0+1+1+1+1/\(0:Int)+1+1+1+1<(↑(5:Nat):Int)] (need [VI (0:Int)] (need [80<=140737488355328,∀(i:Nat),i<1-> ∀(a:AV),a∈U3 1 XL i->AV.one a=true] (need [VI ((0:Int)+1+1+1+1+1)] (need [5<=100000,jX 5 z1,ByteArray.size (jnB 5 z1 {data:=#[32] })<=140737488355328] (need [(↑(13:Nat):Int)<=9223372036854775807] (need [136<=140737488355328] (need [VI ((3:Int)+1)] (need [Q7,WB,QN,KZ,QY,(3:Int)+1=4,4=4,GM 4 (U3 1 A),136=136,GR 136 (GE 123 (DJ rp3) (DJ (jnB 5 z1 {data:=#[32] }++{data:=#[10] }))) (DJ rp4),WB,WZ] (leaf G4.normal)))))))))))))))))))))))))))):=by
 kernel_rfl
theorem Zd5:PD (HU VL QV Q8 [] J5 MI (FI z 4) (FI z 4) (FA z))=(let A:=([lst 1 6 λk=>[Option.rec (top) (λval=>(λval=>(λx=>x) val) val) wl0[k]?],lst 1 4 λk=>[Option.rec (top) (λval=>(λval=>(λx=>x) val) val) wl1[k]?],lst 1 2 λk=>[Option.rec (top) (λval=>(λval=>(λx=>x) val) val) wl2[k]?],lst 1 5 λk=>[Option.rec (top) (λval=>(λval=>(λx=>x) val) val) wl3[k]?]]);(need [Q7,WB,QN,KZ,QY,QY,4=4,GM 4 (U3 1 A),136=136,GM 136 (DJ rp4),WB,WZ] (leaf (G4.exit 8)))):=by
 kernel_rfl
theorem Ze0:G5 VL (.loop MI) (Wy9 z):=by
 refine UT J5 (L:=[]) (Ae y8 (Ae kX (Ae kP (Ae xC Aa)))) (Aj (Af y6 (Af F6 (Af RA (Af LV Ab)))) (Ag xD (Ag kO Ac)) (Ah x6 (Ah dT (U1.nil _)))) VW U0 (X:=Nat) (FI z) (λk=>k<=4) (λk=>5-k) (λ_=>FA z) (x0:=0) (Ao _) ?_ ?_ ?_;intro k
 match k with
 | 0=>
  show Sx.okB (FI z 0)=true;kernel_rfl
 | 1=>
  show Sx.okB (FI z 1)=true;kernel_rfl
 | 2=>
  show Sx.okB (FI z 2)=true;kernel_rfl
 | 3=>
  show Sx.okB (FI z 3)=true;kernel_rfl
 |k+4=>
  show Sx.okB (FI z 4)=true;kernel_rfl
 intro k y E h;unfold FA at h;split at h;cases h;kernel_rfl;cases h;intro Q hQ k hx
 match k with
 | 0=>
  refine ⟨1,?_⟩
  with_reducible refine GX ?_
  rw [Zd9];simp only [S2,FA,VJ.sat,GQ] at hQ;simp only [VJ.sat,U8,UE,VI,FA];exact YV
 | 1=>
  refine ⟨2,?_⟩
  with_reducible refine GX ?_
  rw [Zd8];simp only [S2,FA,VJ.sat,GQ] at hQ;simp only [VJ.sat,U8,UE,VI,FA];exact YV
 | 2=>
  refine ⟨3,?_⟩
  with_reducible refine GX ?_
  rw [Zd7];simp only [S2,FA,VJ.sat,GQ] at hQ;simp only [VJ.sat,U8,UE,VI,FA];exact YV
 | 3=>
  refine ⟨4,?_⟩
  with_reducible refine GX ?_
  rw [Zd6];simp only [S2,FA,VJ.sat,GQ] at hQ;simp only [VJ.sat,U8,UE,VI,FA];exact YV
 | 4=>
  refine ⟨4,?_⟩
  with_reducible refine GX ?_
  rw [Zd5];simp only [S2,FA,VJ.sat,GQ] at hQ;simp only [VJ.sat,U8,UE,VI,FA];exact YV
 |k+5=>omega
end
theorem vV{S:Code->UF->Prop}{c:Code}{s0 s1 s2 s3 s4:UF}(h0: ∀cj,VP c 0=some cj->S cj s0)(h1: ∀cj,VP c 1=some cj->S cj s1)(h2: ∀cj,VP c 2=some cj->S cj s2)(h3: ∀cj,VP c 3=some cj->S cj s3)(h4: ∀cj,VP c 4=some cj->S cj s4):
  ∀j cj,VP c j=some cj-> ∀sp,[s0,s1,s2,s3,s4][j]? =some sp->S cj sp:=by
 intro j cj hj sp hsp
 match j with
 | 0=>simp at hsp;subst hsp;exact h0 cj hj
 | 1=>simp at hsp;subst hsp;exact h1 cj hj
 | 2=>simp at hsp;subst hsp;exact h2 cj hj
 | 3=>simp at hsp;subst hsp;exact h3 cj hj
 | 4=>simp at hsp;subst hsp;exact h4 cj hj
 |j+5=>simp at hsp
theorem Zo0(B:ByteArray):bsO B.size (DJ B)=B:=by
 unfold bsO;apply ByteArray.ext;apply Array.ext;show ((List.range B.size).map _).toArray.size=B.data.size;rw [List.size_toArray,Bm,List.length_range];rfl;intro j h1 h2;have h3:j<B.data.size:=h2;simp [DJ,byO,byN,LW,Array.getElem?_eq_getElem h3]
abbrev YN:GW:=[(911,.row 5 1 42 (DJ rp0)),(14,.cells 104 [.ptr 14 0,.row 911])]
def mR:St:={σ:=mkS 198 [(5,.ro (hsL VR)),(7,.ptr 14 0),(8,.fn (.func 40) [] [.ptr 14 0]),(9,.lst 1 6 (GV wl0)),(10,.lst 1 4 (GV wl1)),(11,.lst 1 2 (GV wl2)),(12,.lst 1 5 (GV wl3))],m:=YN,nx:=930}
def mS:St:={σ:=mkS 198 [(0,.top),(5,.ro (hsL VR)),(7,.ptr 14 0),(8,.fn (.func 40) [] [.ptr 14 0])],m:=YN,nx:=930}
abbrev WM:List AV:=[lst 1 11 λk=>[FL (UL U4 k)]]
abbrev WO:List AV:=[AV.x (.string {data:=#[(99:UInt8),(101:UInt8),(114:UInt8),(116:UInt8),(105:UInt8),(102:UInt8),(105:UInt8),(99:UInt8),(97:UInt8),(116:UInt8),(101:UInt8),(115:UInt8)] })]
abbrev WV:List AV:=[agg [iI 4,iI 100,iI 20,iI 30,hR 2 VR,lst 2 3 λk=>[iI (tbP k),iI (tbQ k)],iI VR.pl,iI VR.ph,iI 1,iI 3],iI 0]
abbrev XJ:List AV:=[AV.x (.string {data:=#[(114:UInt8),(101:UInt8),(97:UInt8),(100:UInt8),(105:UInt8),(110:UInt8),(103:UInt8),(115:UInt8)] })]
abbrev ZH:List AV:=[AV.x (.string {data:=#[(115:UInt8),(97:UInt8),(108:UInt8),(101:UInt8),(115:UInt8)] })]
abbrev ZI:List AV:=[AV.x (.string {data:=#[(98:UInt8),(97:UInt8),(116:UInt8),(104:UInt8),(115:UInt8)] })]
theorem iT:VV VL 12 [lns 11 (UL U4)] (.tup [.x (.string Zg2),i 0]):=by
 have hG:VH VL [(35,tB),(19,t9),(38,t8),(45,AG)]:=(Ae y8 (Ae kX (Ae kP (Ae xC Aa))));have hX: ∀cx,VT VL Q8 cx:=(Aj (Af y6 (Af F6 (Af RA (Af LV Ab)))) (Ag xD (Ag kO Ac)) (Ah x6 (Ah dT (U1.nil _))));have GN:Tryz.prog.follows .mixedOrders=true:=VW
 refine SQ (L:=[Wz3 0,Wz2 0,Wz1 0,Wz0 0,Wy9 0]) Tryz.func12 (UR Tryz.f12) (λcx=>(gW (N:=[(.cell 14 1,911,5,1)]) (s2:=mS) hG (hX cx) GN (gW (N:=[(.slot 9,0,0,0),(.slot 10,0,0,0),(.slot 11,0,0,0),(.slot 12,0,0,0)]) (s2:=mR) hG (hX cx) GN (lF hG (hX cx) GN) VQ 7) VQ 6)) (vV (lpE (b:= .loop rO) VQ<|(Zg1 0).N) (lpE (b:= .loop SJ) VQ<|(Zf4 0).N) (lpE (b:= .loop Qk3) VQ<|(Ze9 0).N) (lpE (b:= .loop MJ) VQ<|(Ze6 0).N) (lpE (b:= .loop MI) VQ<|(Ze0 0).N)) (t:=let z2:=([AV.x (.string {data:=List.toArray (Lib.itoa (↑VR.nr:Int)) })]);let z3:=([AV.x (.string {data:=List.toArray (Lib.itoa (↑VR.nb:Int)) })]);let z4:=([AV.x (.string {data:=List.toArray (Lib.itoa (↑VR.nc:Int)) })]);let z5:=([AV.x (.string {data:=List.toArray (Lib.itoa (↑VR.ns:Int)) })]);let A:=(GE 7 (GE 6 (GE 5 (GE 4 (GE 3 (GE 2 (GE 1 (GE 0 (λx=>[]) (U3 1 XJ)) (U3 1 z2)) (U3 1 ZI)) (U3 1 z3)) (U3 1 WO)) (U3 1 z4)) (U3 1 ZH)) (U3 1 z5));let z1:=([lst 1 6 λk=>[Option.rec (top) (λval=>(λval=>(λx=>x) val) val) wl0[k]?],lst 1 4 λk=>[Option.rec (top) (λval=>(λval=>(λx=>x) val) val) wl1[k]?],lst 1 2 λk=>[Option.rec (top) (λval=>(λval=>(λx=>x) val) val) wl2[k]?],lst 1 5 λk=>[Option.rec (top) (λval=>(λval=>(λx=>x) val) val) wl3[k]?]]);(need [WM=WM] (branch ((0:Int) != 0) (leaf (RV.tup [RV.x (.string {data:=#[] }),RV.x (X0)])) (need [WM=WM] (need [UG 0 8] (need [(0:Int).toNat<8] (need [16<=140737488355328,∀(i:Nat),i<1-> ∀(a:AV),a∈U3 1 XJ i->AV.one a=true] (need [VI ((0:Int)+1)] (need [(0:Int)<=0+1/\(0:Int)+1<(↑(8:Nat):Int)] (need [((0:Int)+1).toNat<8] (need [VI (↑VR.nr:Int)] (need [32<=140737488355328,∀(i:Nat),i<1-> ∀(a:AV),a∈U3 1 z2 i->AV.one a=true] (need [VI ((0:Int)+1+1)] (need [(0:Int)<=0+1+1/\(0:Int)+1+1<(↑(8:Nat):Int)] (need [((0:Int)+1+1).toNat<8] (need [48<=140737488355328,∀(i:Nat),i<1-> ∀(a:AV),a∈U3 1 ZI i->AV.one a=true] (need [VI ((0:Int)+1+1+1)] (need [(0:Int)<=0+1+1+1/\(0:Int)+1+1+1<(↑(8:Nat):Int)] (need [((0:Int)+1+1+1).toNat<8] (need [VI (↑VR.nb:Int)] (need [64<=140737488355328,∀(i:Nat),i<1-> ∀(a:AV),a∈U3 1 z3 i->AV.one a=true] (need [VI ((0:Int)+1+1+1+1)] (need [(0:Int)<=0+1+1+1+1/\(0:Int)+1+1+1+1<(↑(8:Nat):Int)] (need [((0:Int)+1+1+1+1).toNat<8] (need [80<=140737488355328,∀(i:Nat),i<1-> ∀(a:AV),a∈U3 1 WO i->AV.one a=true] (need [VI ((0:Int)+1+1+1+1+1)] (need [(0:Int)<=0+1+1+1+1+1/\(0:Int)+1+1+1+1+1<(↑(8:Nat):Int)] (need [((0:Int)+1+1+1+1+1).toNat<8] (need [VI (↑VR.nc:Int)] (need [96<=140737488355328,∀(i:Nat),i<1-> ∀(a:AV),a∈U3 1 z4 i->AV.one a=true] (need [VI ((0:Int)+1+1+1+1+1+1)] (need [(0:Int)<=0+1+1+1+1+1+1/\(0:Int)+1+1+1+1+1+1<(↑(8:Nat):Int)] (need [((0:Int)+1+1+1+1+1+1).toNat<8] (need [112<=140737488355328,∀(i:Nat),i<1-> ∀(a:AV),a∈U3 1 ZH i->AV.one a=true] (need [VI ((0:Int)+1+1+1+1+1+1+1)] (need [(0:Int)<=0+1+1+1+1+1+1+1/\(0:Int)+1+1+1+1+1+1+1<(↑(8:Nat):Int)] (need [((0:Int)+1+1+1+1+1+1+1).toNat<8] (need [VI (↑VR.ns:Int)] (need [128<=140737488355328,∀(i:Nat),i<1-> ∀(a:AV),a∈U3 1 z5 i->AV.one a=true] (need [VI ((0:Int)+1+1+1+1+1+1+1+1)] (need [8<=100000,jX 8 A,ByteArray.size (jnB 8 A {data:=#[32] })<=140737488355328] (need [(↑(42:Nat):Int)<=9223372036854775807] (need [42<=140737488355328] (need [Q7,WB,QN,42=42,GR 42 (GE 0 (λx=>[]) (DJ (jnB 8 A {data:=#[32] }++{data:=#[10] }))) (DJ rp0),WB,WZ] (need [WV=WV] (need [Q7,WB,QN,XY,XZ,Z0,Z1,WR=WR,(↑(5:Nat):Int)=5,QI,1=1,GR 1 (U3 1 [AV.x (.iface 9 (Z4))]) (GV wl0),1=1,GR 1 (U3 1 [AV.x (.iface 9 (XD))]) (GV wl1),1=1,GR 1 (U3 1 [AV.x (.iface 9 (Z5))]) (GV wl2),1=1,GR 1 (U3 1 [AV.x (.iface 9 (ZD))]) (GV wl3),42=42,GM 42 (DJ rp0),WB,WZ] (need [VU ([agg [lst 2 3 λk=>[iI (oL k),iI (oH k)],iI 1,hY 2 VR]])] (need [Q7,WB,QN,XY,XZ,Z0,Z1,W7=W7,(↑(3:Nat):Int)=3,QI,6=6,GM 6 (GV wl0),1=1,GM 1 (GV wl1),1=1,GM 1 (GV wl2),1=1,GM 1 (GV wl3),42=42,GM 42 (DJ rp0),WB,WZ] (need [Q7,WB,QN,XY,XZ,Z0,Z1,VU (hC 1 VR),(↑VR.nc:Int)=1,QI,6=6,GM 6 (GV wl0),4=4,GM 4 (GV wl1),1=1,GM 1 (GV wl2),1=1,GM 1 (GV wl3),42=42,GM 42 (DJ rp0),WB,WZ] (need [Q7,WB,QN,XY,XZ,Z0,Z1,QY,QI,6=6,GM 6 (GV wl0),4=4,GM 4 (GV wl1),2=2,GM 2 (GV wl2),1=1,GM 1 (GV wl3),42=42,GM 42 (DJ rp0),WB,WZ] (need [Q7,WB,QN,VU (lst 1 6 λk=>[Option.rec (top) (λval=>(λval=>(λx=>x) val) val) wl0[k]?]),VU (lst 1 4 λk=>[Option.rec (top) (λval=>(λval=>(λx=>x) val) val) wl1[k]?]),VU (lst 1 2 λk=>[Option.rec (top) (λval=>(λval=>(λx=>x) val) val) wl2[k]?]),VU (lst 1 5 λk=>[Option.rec (top) (λval=>(λval=>(λx=>x) val) val) wl3[k]?]),42=42,GM 42 (DJ rp0),WB,WZ] (need [Q7,WB,QN,KZ,(↑(4:Nat):Int)=4,QI,4=4,GM 4 (U3 1 z1),42=42,GM 42 (DJ rp0),WB,WZ] (need [gC 136 (DJ rp4),0<136] (leaf (RV.tup [RV.x (.string (bsO 136 (DJ rp4))),RV.x (X0)]))))))))))))))))))))))))))))))))))))))))))))))))))))))) VQ ?_
 simp only [VJ.sat,U8,UZ,GH,UB,UE,VI,FC]
 (with_reducible repeat' first|apply Al|intro _)
 all_goals first|exact Ak|contradiction|omega|exact FM (by assumption) (by simp [AV.one,Value.oneCell'])|(rename_i i O;exact Qd6 (by decide+kernel) i O)|(rename_i i O;exact ltM VQ i O)|exact bX (by decide+kernel)|exact sD (by decide+kernel)|decide+kernel|with_reducible rfl|rfl|trace_state
def Zc3:HS:=stS VR 1
theorem Xq4:lnE (UL G6 0) VR=9:=by decide+kernel
theorem Xq3:lnE (UL G6 1) VR=10:=by decide+kernel
theorem Xq2:lnE (UL G6 2) VR=9:=by decide+kernel
theorem Xq1:lnE (UL G6 3) VR=0:=by decide+kernel
theorem Zv4:lnE (UL G6 4) Zc3=0:=by decide+kernel
theorem Zv3:DQ (lnW (UL G6 3)) VR=Zc3:=VQ
abbrev K9(n:Nat)(a:Nat->Int):AV:=lst 1 n λk=>[iI (a k)]
abbrev KA(m:Nat)(b:Nat->Int):AV:=lst 1 m λk=>[iI (b k)]
section
variable (n m:Nat)(a b:Nat->Int)
def Xb1:St:={σ:=[K9 n a,KA m b]++HF 24 [],m:=[],nx:=7}
noncomputable def Jq4:Code:=U7 (VP (U5 Tryz.f25) 0)
def Wi5(k:Nat):St:=(upM [(5,i k)] (Xb1 n m a b))
def vD(k:Nat):G4->Option St
 | .exit 0=>some (upM [] (Xb1 n m a b))
 | .ret=>some (upM [(4,.lit false)] (Xb1 n m a b))
 |_=>none
def Jl3:CT:= .branch (HW ((λk=>a k==b k)) n) (.leaf (.exit 0,(vD n m a b 0 (.exit 0)).getD (Xb1 n m a b))) (.leaf (.ret,(vD n m a b 0 .ret).getD (Xb1 n m a b)))
def Xw4:UF:=(HD (Wi5 n m a b (0)) (Jl3 n m a b))
theorem Jb7(VO:n<=100000)(UD:n=m):G5 VL (.loop Jq4) (Xw4 n m a b):=by
 refine HC (L:=[]) Aa VW U0 (X:=Nat) (Wi5 n m a b) (λk=>k<=n/\ ∀j,j<k->((λk=>a k==b k)) j=true) (λk=>n-k) (vD n m a b) (x0:=0) ⟨VG,λj hj=>VG⟩ ?_ ?_ ?_;rintro k;kernel_rfl;rintro k y E h;unfold vD at h;split at h;cases h;kernel_rfl;cases h;kernel_rfl;cases h
 ·rintro Q hQ k hx;refine ⟨(k+1),?_⟩;(with_reducible refine DA (t:=branch (decide ((k:Int)<(n:Int))) (need [UG k n] (need [UG k m] (branch (a k != b k) (need [VU (K9 n a),VU (KA m b),WL] (leaf G4.ret)) (need [VI ((k:Int)+1)] (need [VU (K9 n a),VU (KA m b),(k:Int)+1=(↑(k+1):Int)] (leaf G4.normal)))))) (need [VU (K9 n a),VU (KA m b)] (leaf (G4.exit 0)))) VQ ?_);simp only [Jl3,vD,VJ.sat,GQ] at hQ;have Wo3:k<n->((λk=>a k==b k)) k=false->HW ((λk=>a k==b k)) n=false:=by
   intro h1 h2;rw [←Bool.not_eq_true];intro h3;have:=GI.1 h3 k h1;exact Bool.noConfusion (h2.symm.trans this)
  have gK:((λk=>a k==b k)) k=true-> ∀j,j<k+1->((λk=>a k==b k)) j=true:=by
   intro h1 j hj;rcases (show j<k\/j=k by omega) with h|rfl
   exact hx.2 j h;exact h1
  have PG: ¬k<n->HW ((λk=>a k==b k)) n=true:=λh=>GI.2 (λj hj=>hx.2 j VG);have hQ1: ∀E,vD n m a b k .ret=some E->HW ((λk=>a k==b k)) n=false->Q (.ret,E):=by
   intro E hE hf;cases hE;exact hQ.2 hf
  have hQ2: ∀E,vD n m a b k (.exit 0)=some E->HW ((λk=>a k==b k)) n=true->Q (.exit 0,E):=by
   intro E hE hf;cases hE;exact hQ.1 hf
  simp only [VJ.sat,U8,UE,H6,VI,FC]
  all_goals exact V3
theorem Wf8(VO:n<=100000):VV VL 25 [.lst 1 n (λk=>[i (a k)]),.lst 1 m (λk=>[i (b k)])] (bl (decide (n=m)&&HW (λk=>a k==b k) n)):=by
 refine VY (L:=[FE [n<=100000,n=m] (Xw4 n m a b)]) Aa VW Tryz.func25 (UR Tryz.f25) (G0 (lpE (b:= .loop Jq4) VQ<|HT (λh=>Jb7 n m a b h.1 h.2))) (t:=branch ((n:Int) != (m:Int)) (leaf (RV.x (WK))) (need [n<=100000,n=m] (need [VU (K9 n a),VU (KA m b),(0:Int)=(↑(0:Nat):Int)] (branch (HW (λk=>a k==b k) n) (leaf (RV.x (.bool true))) (leaf (RV.x (WK))))))) VQ ?_
 simp only [VJ.sat,U8,UZ,GH,UB,VI,UE,H6,FW,bne_iff_ne,ne_eq];refine ⟨λh=>?_,λh=>?_⟩;have:n≠m:=by intro h';subst h';simp at h
 simp [this];have e:n=m:=by
  rw [bne_eq_false_iff_eq] at h;omega
 subst e;refine ⟨⟨VG,rfl⟩,λh2=>?_,λh2=>?_⟩;simp [h2];simp [h2]
end
def Qg3:UU
 |[.lst 1 n f,.lst 1 m g]=>some ([U9 1 n f,U9 1 m g,n<=100000],bl (decide (n=m)&&HW (λk=>col 0 f k==col 0 g k) n))
 |_=>none
theorem uY:VM VL 25 Qg3:=by
 refine ⟨(UC Tryz.func25),?_⟩;intro avs ns res h hn;unfold Qg3 at h;split at h;rename_i n f m g;cases h;have hr0:U9 1 n f:=hn _ VS;have hr1:U9 1 m g:=hn _ VS;exact (Wf8 n m (col 0 f) (col 0 g) (hn _ VS)).same (.cons (.lst 1 n _ _ hr0) (.cons (.lst 1 m _ _ hr1) .nil));cases h
def Ww2:UU
 |[.x (.slice none 0 0)]=>some ([],lns 11 (UL U4))
 |[.lst 1 n f]=>some ([n=5,∀k,k<n->f k=[.x (.string (UL G6 k))]],lns 16 (UL (U4++G6)))
 |_=>none
theorem Jb9{P:Nat->Prop}(h0:P 0)(h1:P 1)(h2:P 2)(h3:P 3)(h4:P 4)(h5:P 5)(h6:P 6)(h7:P 7)(h8:P 8)(h9:P 9)(h10:P 10): ∀i,i<11->P i:=by
 intro i O
 match i,O with
 | 0,_=>exact h0
 | 1,_=>exact h1
 | 2,_=>exact h2
 | 3,_=>exact h3
 | 4,_=>exact h4
 | 5,_=>exact h5
 | 6,_=>exact h6
 | 7,_=>exact h7
 | 8,_=>exact h8
 | 9,_=>exact h9
 | 10,_=>exact h10
 |i+11,h=>exact absurd h VG
theorem Xs4{P:Nat->Prop}(h0:P 0)(h1:P 1)(h2:P 2)(h3:P 3)(h4:P 4)(h5:P 5)(h6:P 6)(h7:P 7)(h8:P 8)(h9:P 9)(h10:P 10)(h11:P 11)(h12:P 12)(h13:P 13)(h14:P 14)(h15:P 15): ∀i,i<16->P i:=by
 intro i O
 match i,O with
 | 0,_=>exact h0
 | 1,_=>exact h1
 | 2,_=>exact h2
 | 3,_=>exact h3
 | 4,_=>exact h4
 | 5,_=>exact h5
 | 6,_=>exact h6
 | 7,_=>exact h7
 | 8,_=>exact h8
 | 9,_=>exact h9
 | 10,_=>exact h10
 | 11,_=>exact h11
 | 12,_=>exact h12
 | 13,_=>exact h13
 | 14,_=>exact h14
 | 15,_=>exact h15
 |i+16,h=>exact absurd h VG
abbrev J9:AV:=AV.x (.string {data:=#[(98:UInt8),(97:UInt8),(116:UInt8),(104:UInt8),(32:UInt8),(49:UInt8),(48:UInt8),(48:UInt8),(32:UInt8),(51:UInt8),(48:UInt8),(48:UInt8)] })
abbrev QH:List AV:=[AV.x (.string {data:=#[(116:UInt8),(104:UInt8),(114:UInt8),(101:UInt8),(97:UInt8),(100:UInt8),(32:UInt8),(48:UInt8),(32:UInt8),(49:UInt8),(32:UInt8),(52:UInt8),(48:UInt8),(32:UInt8),(52:UInt8),(48:UInt8)] }),AV.x (.string {data:=#[(116:UInt8),(104:UInt8),(114:UInt8),(101:UInt8),(97:UInt8),(100:UInt8),(32:UInt8),(50:UInt8),(32:UInt8),(51:UInt8),(32:UInt8),(52:UInt8),(56:UInt8),(32:UInt8),(53:UInt8),(48:UInt8)] }),AV.x (.string {data:=#[(105:UInt8),(115:UInt8),(115:UInt8),(117:UInt8),(101:UInt8),(32:UInt8),(48:UInt8),(32:UInt8),(52:UInt8),(32:UInt8),(57:UInt8),(48:UInt8),(32:UInt8),(48:UInt8)] }),J9,AV.x (.string {data:=#[(115:UInt8),(101:UInt8),(101:UInt8),(32:UInt8),(48:UInt8),(32:UInt8),(50:UInt8),(48:UInt8),(48:UInt8)] }),AV.x (.string {data:=#[(115:UInt8),(101:UInt8),(101:UInt8),(32:UInt8),(49:UInt8),(32:UInt8),(50:UInt8),(48:UInt8),(51:UInt8)] }),J9,AV.x (.string {data:=#[(115:UInt8),(101:UInt8),(101:UInt8),(32:UInt8),(49:UInt8),(32:UInt8),(50:UInt8),(53:UInt8),(50:UInt8)] }),AV.x (.string {data:=#[(115:UInt8),(101:UInt8),(101:UInt8),(32:UInt8),(50:UInt8),(32:UInt8),(50:UInt8),(53:UInt8),(48:UInt8)] }),AV.x (.string {data:=#[(115:UInt8),(101:UInt8),(108:UInt8),(108:UInt8),(32:UInt8),(48:UInt8),(32:UInt8),(49:UInt8),(32:UInt8),(54:UInt8),(32:UInt8),(49:UInt8),(32:UInt8),(51:UInt8)] }),AV.x (.string {data:=#[(115:UInt8),(101:UInt8),(108:UInt8),(108:UInt8),(32:UInt8),(49:UInt8),(32:UInt8),(50:UInt8),(32:UInt8),(52:UInt8),(32:UInt8),(50:UInt8),(32:UInt8),(50:UInt8)] })]
theorem Qx8:VV VL 10 [.x (.slice none 0 0)] (lns 11 (UL U4)):=by
 refine GS Tryz.func10 (t:=need [176<=140737488355328,∀(i:Nat),i<0-> ∀(a:AV),a∈[]->AV.one a=true] (leaf (RV.lst 1 11 (GE 11 (U3 1 QH) λx=>[])))) VQ ?_;simp only [VJ.sat,U8,UZ,GH,UB,UE]
 (with_reducible repeat' first|apply Al|intro _)
 all_goals first|exact Ak|contradiction|omega|exact FM (by assumption) (by simp [AV.one,Value.oneCell'])|(rename_i ha;rw [qL.1 ha];first|exact Ak|rfl)|(rename_i i O;revert i;refine Jb9 ?_ ?_ ?_ ?_ ?_ ?_ ?_ ?_ ?_ ?_ ?_<;>(show _=_;kernel_rfl))|decide|rfl|trace_state
theorem Qx7:VV VL 10 [.lst 1 5 (λk=>[.x (.string (UL G6 k))])] (lns 16 (UL (U4++G6))):=by
 refine GS Tryz.func10 (t:=need [256<=140737488355328,∀(i:Nat),i<5-> ∀(a:AV),a∈[FL (UL G6 i)]->AV.one a=true] (leaf (RV.lst 1 16 (GE 11 (U3 1 QH) λk=>[FL (UL G6 k)])))) VQ ?_;simp only [VJ.sat,U8,UZ,GH,UB,UE]
 (with_reducible repeat' first|apply Al|intro _)
 all_goals first|exact Ak|contradiction|omega|exact FM (by assumption) (by simp [AV.one,Value.oneCell'])|(rename_i ha;rw [qL.1 ha];first|exact Ak|rfl)|(rename_i i O;revert i;refine Xs4 ?_ ?_ ?_ ?_ ?_ ?_ ?_ ?_ ?_ ?_ ?_ ?_ ?_ ?_ ?_ ?_<;>(show _=_;kernel_rfl))|decide|rfl|trace_state
theorem Xc5:VM VL 10 Ww2:=by
 refine ⟨(UC Tryz.func10),?_⟩;intro avs ns res h hn;unfold Ww2 at h;split at h;cases h;exact Qx8;rename_i n f;cases h;obtain rfl:n=5:=hn _ VS;have h2: ∀k,k<5->f k=[.x (.string (UL G6 k))]:=hn (∀k,k<5->f k=[.x (.string (UL G6 k))]) VS;exact Qx7.same (.cons (.lst 1 5 f _ h2) .nil);cases h
theorem Xo8:sK (UL (U4++G6)) 0=hs0:=rfl
theorem Xo7:sK (UL (U4++G6)) 1=wk1:=by
 show lnS (UL U4 0) (sK (UL (U4++G6)) 0)=_;rw [Xo8];unfold lnS;rw [if_pos Qx4];exact Xp8
theorem Xo6:sK (UL (U4++G6)) 2=wk2:=by
 show lnS (UL U4 1) (sK (UL (U4++G6)) 1)=_;rw [Xo7];unfold lnS;rw [if_pos Qx3];exact Xp7
theorem Xo5:sK (UL (U4++G6)) 3=wk3:=by
 show lnS (UL U4 2) (sK (UL (U4++G6)) 2)=_;rw [Xo6];unfold lnS;rw [if_pos Qx2];exact Xp6
theorem Xo4:sK (UL (U4++G6)) 4=wk4:=by
 show lnS (UL U4 3) (sK (UL (U4++G6)) 3)=_;rw [Xo5];unfold lnS;rw [if_pos Qx1];exact Xp5
theorem Xo3:sK (UL (U4++G6)) 5=wk5:=by
 show lnS (UL U4 4) (sK (UL (U4++G6)) 4)=_;rw [Xo4];unfold lnS;rw [if_pos Qx0];exact Xp4
theorem Xo2:sK (UL (U4++G6)) 6=wk6:=by
 show lnS (UL U4 5) (sK (UL (U4++G6)) 5)=_;rw [Xo3];unfold lnS;rw [if_pos Qw9];exact Xp3
theorem Xo1:sK (UL (U4++G6)) 7=wk7:=by
 show lnS (UL U4 6) (sK (UL (U4++G6)) 6)=_;rw [Xo2];unfold lnS;rw [if_pos Qw8];exact Xp2
theorem Xo0:sK (UL (U4++G6)) 8=wk8:=by
 show lnS (UL U4 7) (sK (UL (U4++G6)) 7)=_;rw [Xo1];unfold lnS;rw [if_pos Qw7];exact Xp1
theorem Xn9:sK (UL (U4++G6)) 9=wk9:=by
 show lnS (UL U4 8) (sK (UL (U4++G6)) 8)=_;rw [Xo0];unfold lnS;rw [if_pos Qw6];exact Xp0
theorem Qv4:sK (UL (U4++G6)) 10=Qk4:=by
 show lnS (UL U4 9) (sK (UL (U4++G6)) 9)=_;rw [Xn9];unfold lnS;rw [if_pos Qw5];exact Xo9
theorem Qv3:sK (UL (U4++G6)) 11=VR:=by
 show lnS (UL U4 10) (sK (UL (U4++G6)) 10)=_;rw [Qv4];unfold lnS;rw [if_pos nB];exact Qv7
theorem Qv2:sK (UL (U4++G6)) 12=VR:=by
 show lnS (UL G6 0) (sK (UL (U4++G6)) 11)=_;rw [Qv3];unfold lnS;rw [if_neg (by rw [Xq4];decide)]
theorem Qv1:sK (UL (U4++G6)) 13=VR:=by
 show lnS (UL G6 1) (sK (UL (U4++G6)) 12)=_;rw [Qv2];unfold lnS;rw [if_neg (by rw [Xq3];decide)]
theorem Qv0:sK (UL (U4++G6)) 14=VR:=by
 show lnS (UL G6 2) (sK (UL (U4++G6)) 13)=_;rw [Qv1];unfold lnS;rw [if_neg (by rw [Xq2];decide)]
theorem Xz6:sK (UL (U4++G6)) 15=Zc3:=by
 show lnS (UL G6 3) (sK (UL (U4++G6)) 14)=_;rw [Qv0];unfold lnS;rw [if_pos Xq1];exact Zv3
theorem Zv1:eK (UL (U4++G6)) 0=0:=by
 show lnE (UL U4 0) (sK (UL (U4++G6)) 0)=_;rw [Xo8];exact Qx4
theorem Zv0:eK (UL (U4++G6)) 1=0:=by
 show lnE (UL U4 1) (sK (UL (U4++G6)) 1)=_;rw [Xo7];exact Qx3
theorem Zu9:eK (UL (U4++G6)) 2=0:=by
 show lnE (UL U4 2) (sK (UL (U4++G6)) 2)=_;rw [Xo6];exact Qx2
theorem Zu8:eK (UL (U4++G6)) 3=0:=by
 show lnE (UL U4 3) (sK (UL (U4++G6)) 3)=_;rw [Xo5];exact Qx1
theorem Zu7:eK (UL (U4++G6)) 4=0:=by
 show lnE (UL U4 4) (sK (UL (U4++G6)) 4)=_;rw [Xo4];exact Qx0
theorem Zu6:eK (UL (U4++G6)) 5=0:=by
 show lnE (UL U4 5) (sK (UL (U4++G6)) 5)=_;rw [Xo3];exact Qw9
theorem Zu5:eK (UL (U4++G6)) 6=0:=by
 show lnE (UL U4 6) (sK (UL (U4++G6)) 6)=_;rw [Xo2];exact Qw8
theorem Zu4:eK (UL (U4++G6)) 7=0:=by
 show lnE (UL U4 7) (sK (UL (U4++G6)) 7)=_;rw [Xo1];exact Qw7
theorem Zu3:eK (UL (U4++G6)) 8=0:=by
 show lnE (UL U4 8) (sK (UL (U4++G6)) 8)=_;rw [Xo0];exact Qw6
theorem Zu2:eK (UL (U4++G6)) 9=0:=by
 show lnE (UL U4 9) (sK (UL (U4++G6)) 9)=_;rw [Xn9];exact Qw5
theorem Za2:eK (UL (U4++G6)) 10=0:=by
 show lnE (UL U4 10) (sK (UL (U4++G6)) 10)=_;rw [Qv4];exact nB
theorem Za1:eK (UL (U4++G6)) 11=9:=by
 show lnE (UL G6 0) (sK (UL (U4++G6)) 11)=_;rw [Qv3];exact Xq4
theorem Za0:eK (UL (U4++G6)) 12=10:=by
 show lnE (UL G6 1) (sK (UL (U4++G6)) 12)=_;rw [Qv2];exact Xq3
theorem Xz9:eK (UL (U4++G6)) 13=9:=by
 show lnE (UL G6 2) (sK (UL (U4++G6)) 13)=_;rw [Qv1];exact Xq2
theorem Xz8:eK (UL (U4++G6)) 14=0:=by
 show lnE (UL G6 3) (sK (UL (U4++G6)) 14)=_;rw [Qv0];exact Xq1
theorem Xz7:eK (UL (U4++G6)) 15=0:=by
 show lnE (UL G6 4) (sK (UL (U4++G6)) 15)=_;rw [Xz6];exact Zv4
def wrB:ByteArray:=⟨#[91,48,48,49,58,48,48,50,50,51,93,97,10]⟩
def lnA(_:Nat):ByteArray:=⟨#[97]⟩
def Xm8(s:HS):HZ:=λl=>some (.need [l=[lns 16 (UL (U4++G6))]] (.leaf (.tup [.agg (hsL s),.lst 1 16 (λj=>[i (U6 [0,0,0,0,0,0,0,0,0,0,0,9,10,9,0,0] j)]),i 0])))
def Zp0:HZ:=λl=>some (.need [l=[lns 11 (UL U4)]] (.leaf (.tup [.lst 2 3 (λk=>[i (U6 [0,1,-3] k),i (U6 [0,5,5] k)]),i 0])))
def Zo7:HZ:=λl=>some (.need [l=[lns 11 (UL U4),i 0]] (.leaf (.tup [.lst 1 1 (λk=>[i (U6 [0] k)]),i 0])))
def Zo9:HZ:=λl=>some (.need [l=[lns 11 (UL U4),i 1]] (.leaf (.tup [.lst 1 2 (λk=>[i (U6 [0,1] k)]),.lst 1 1 (λk=>[i (U6 [0] k)]),i 0])))
def Zo8:UU:=λl=>some ([l=[lns 11 (UL U4)]],.tup [.x (.string Zg2),i 0])
def Wx5:HZ:=λl=>match l with
 |[.lst 1 n f]=>some (.need [n=1,f 0=[.x (.string (lnA 0))]] (.leaf (.tup [.lst 1 13 (DJ wrB),i 0])))
 |_=>none
theorem qQ{P:Program}{f:FuncId}{avs:List AV}{t sp:VJ AV}(h:UH P f avs t)(hm: ∀Q:AV->Prop,sp.sat Q->t.sat (λr=> ∃r',DV r r'/\Q r')):UH P f avs sp:=by
 intro Q hQ e w args q1 q2 q3 q4;refine (h _ (hm Q hQ) e w args q1 q2 q3 q4).mono ?_;rintro en w' ⟨v,r,rfl,⟨r',g1,g2⟩,g3,g4⟩;exact ⟨v,r',rfl,g2,g3,LN g1 g4⟩
theorem Zv2:ckE 16 (UL (U4++G6))=0:=by decide+kernel
theorem Qx9(s:HS)(hs:s=sK (UL (U4++G6)) 16):Sx.Enters Tryz.prog 27/\ ∀avs t,Xm8 s avs=some t->UH VL 27 avs t:=by
 refine ⟨(UC Tryz.func27),?_⟩;intro avs t h;cases h;intro Q hQ;have e:avs=[lns 16 (UL (U4++G6))]:=hQ.1;subst e;have h1:=iU 16 (UL (U4++G6)) VG;refine qQ h1 (sp:= .leaf (.tup [.agg (hsL s),.lst 1 16 (λj=>[i (U6 [0,0,0,0,0,0,0,0,0,0,0,9,10,9,0,0] j)]),i 0])) (λQ hq=>⟨λh=>?_,λ_=>?_⟩) Q hQ.2;rw [Zv2] at h;exact absurd h (by decide)
 refine ⟨.tup [.agg (hsL s),.lst 1 16 (λj=>[i (U6 [0,0,0,0,0,0,0,0,0,0,0,9,10,9,0,0] j)]),i 0],⟨?_,⟨rfl,rfl,λk hk=>?_⟩,⟨rfl,rfl⟩,Ak⟩,hq⟩;rw [hs];exact AA _;revert k;refine Xs4 (congrArg (λz=>[i z]) Zv1) (congrArg (λz=>[i z]) Zv0) (congrArg (λz=>[i z]) Zu9) (congrArg (λz=>[i z]) Zu8) (congrArg (λz=>[i z]) Zu7) (congrArg (λz=>[i z]) Zu6) (congrArg (λz=>[i z]) Zu5) (congrArg (λz=>[i z]) Zu4) (congrArg (λz=>[i z]) Zu3) (congrArg (λz=>[i z]) Zu2) (congrArg (λz=>[i z]) Za2) (congrArg (λz=>[i z]) Za1) (congrArg (λz=>[i z]) Za0) (congrArg (λz=>[i z]) Xz9) (congrArg (λz=>[i z]) Xz8) (congrArg (λz=>[i z]) Xz7)
theorem Xd0:Sx.Enters Tryz.prog 21/\ ∀avs t,Zp0 avs=some t->UH VL 21 avs t:=by
 refine ⟨(UC Tryz.func21),?_⟩;intro avs t h;cases h;intro Q hQ;have e:avs=[lns 11 (UL U4)]:=hQ.1;subst e;have h1:=rC 11 (UL U4) VG;rw [AL] at h1;refine qQ h1 (sp:= .leaf (.tup [.lst 2 3 (λk=>[i (U6 [0,1,-3] k),i (U6 [0,5,5] k)]),i 0])) (λQ hq=>⟨λh=>?_,λ_=>?_⟩) Q hQ.2;rw [bQ] at h;exact absurd h (by decide)
 refine ⟨.tup [.lst 2 3 (λk=>[i (U6 [0,1,-3] k),i (U6 [0,5,5] k)]),i 0],⟨⟨rfl,Xp9,λk hk=>?_⟩,(show DV (i _) (i 0) by rw [Xq0];exact ⟨rfl,rfl⟩),Ak⟩,hq⟩
 rcases (show k=0\/k=1\/k=2 by omega) with rfl|rfl|rfl
 show [i _,i _]=_;rw [Qw0,Qw3];rfl;show [i _,i _]=_;rw [Qv9,Qw2];rfl;show [i _,i _]=_;rw [Qv8,Qw1];rfl
theorem Xc7:Sx.Enters Tryz.prog 9/\ ∀avs t,Zo7 avs=some t->UH VL 9 avs t:=by
 refine ⟨(UC Tryz.func9),?_⟩;intro avs t h;cases h;intro Q hQ;have e:avs=[lns 11 (UL U4),i 0]:=hQ.1;subst e;have h1:=gN 11 (UL U4) 0 VG;rw [AL] at h1;have hn:VR.nc=1:=VQ;have hc:UN (stP VR 0) 1=1:=by rw [DS Qv6];rfl
 refine qQ h1 (sp:= .leaf (.tup [.lst 1 1 (λk=>[i (U6 [0] k)]),i 0])) (λQ hq=>⟨λh=>?_,λ_=>⟨λh=>absurd h (by decide),λ_=>?_⟩⟩) Q hQ.2
 rw [bQ] at h;exact absurd h (by decide)
 refine ⟨.tup [.lst 1 1 (λk=>[i (U6 [0] k)]),i 0],⟨⟨rfl,by rw [hn];exact hc,λk hk=>?_⟩,⟨rfl,rfl⟩,Ak⟩,hq⟩
 obtain rfl:k=0:=VG;have h2:=PV (show 0<VR.nc by rw [hn];omega) Qv6
 have h3:UN (stP VR 0) 0=0:=rfl;rw [h3] at h2;show [i _]=_;rw [h2];rfl
theorem Xc9:Sx.Enters Tryz.prog 11/\ ∀avs t,Zo9 avs=some t->UH VL 11 avs t:=by
 refine ⟨(UC Tryz.func11),?_⟩;intro avs t h;cases h;intro Q hQ;have e:avs=[lns 11 (UL U4),i 1]:=hQ.1;subst e;have h1:=OH 11 (UL U4) 1 VG;rw [AL] at h1;have c0:UN (caB VR.ns VR.sa VR.sb VR.sc VR.sl VR.sh 1) 0=0:=rfl;have c1:UN (caB VR.ns VR.sa VR.sb VR.sc VR.sl VR.sh 1) 1=1:=by rw [DS Qx6,c0]
 have c2:UN (caB VR.ns VR.sa VR.sb VR.sc VR.sl VR.sh 1) 2=2:=by rw [DS Qx5,c1]
 have c3:UN (caB VR.ns VR.sa VR.sb VR.sc VR.sl VR.sh 1) 3=2:=by rw [FR Zc2,c2]
 have c4:UN (caB VR.ns VR.sa VR.sb VR.sc VR.sl VR.sh 1) 4=2:=by rw [FR Zc1,c3]
 have d0:UN (suB VR.ns VR.sa VR.sb VR.sc VR.sl VR.sh 1) 0=0:=rfl;have d1:UN (suB VR.ns VR.sa VR.sb VR.sc VR.sl VR.sh 1) 1=1:=by rw [DS Qv5,d0]
 have d2:UN (suB VR.ns VR.sa VR.sb VR.sc VR.sl VR.sh 1) 2=1:=by rw [FR Za5,d1]
 have d3:UN (suB VR.ns VR.sa VR.sb VR.sc VR.sl VR.sh 1) 3=1:=by rw [FR Za4,d2]
 have d4:UN (suB VR.ns VR.sa VR.sb VR.sc VR.sl VR.sh 1) 4=1:=by rw [FR Za3,d3]
 have e0:=PV (show 0<4 by omega) Qx6
 have e1:=PV (show 1<4 by omega) Qx5
 have f0:=PV (show 0<4 by omega) Qv5
 rw [c0] at e0;rw [c1] at e1;rw [d0] at f0;refine qQ h1 (sp:= .leaf (.tup [.lst 1 2 (λk=>[i (U6 [0,1] k)]),.lst 1 1 (λk=>[i (U6 [0] k)]),i 0])) (λQ hq=>⟨λh=>?_,λ_=>⟨λh=>absurd h (by decide),λ_=>⟨λh=>?_,λ_=>?_⟩⟩⟩) Q hQ.2
 rw [bQ] at h;exact absurd h (by decide)
 rw [Qw4] at h;exact Bool.noConfusion h;refine ⟨.tup [.lst 1 2 (λk=>[i (U6 [0,1] k)]),.lst 1 1 (λk=>[i (U6 [0] k)]),i 0],⟨⟨rfl,c4,λk hk=>?_⟩,⟨rfl,d4,λk hk=>?_⟩,⟨rfl,rfl⟩,Ak⟩,hq⟩;rcases (show k=0\/k=1 by omega) with rfl|rfl
 show [i _]=_;rw [e0];rfl;show [i _]=_;rw [e1];rfl;obtain rfl:k=0:=VG;show [i _]=_;rw [f0];rfl
theorem Xc8:VM VL 12 Zo8:=by
 refine ⟨(UC Tryz.func12),?_⟩;intro avs ns res h hn;cases h;have e:avs=[lns 11 (UL U4)]:=hn _ GB;subst e;exact iT
theorem Xc6:Sx.Enters Tryz.prog 32/\ ∀avs t,Wx5 avs=some t->UH VL 32 avs t:=by
 refine ⟨(UC Tryz.func32),?_⟩;intro avs t h;unfold Wx5 at h;split at h;rename_i n f;cases h;intro Q hQ;obtain rfl:n=1:=hQ.1.1;have h2:f 0=[.x (.string (lnA 0))]:=hQ.1.2;have h1:=Qq5 1 lnA VG;have hb:flB lnA 1=wrB:=by decide+kernel
 rw [hb] at h1;have h3:UH VL 32 [.lst 1 1 f] (.leaf (.tup [.lst 1 13 (DJ wrB),i 0])):=by
  intro Q hq e w args q1 q2 q3 q4;refine h1 Q ⟨λh=>?_,λ_=>hq⟩ e w args q1 q2 ?_ ?_;rw [show ckE 1 lnA=0 by decide+kernel] at h
  exact absurd h (by decide)
  intro a ha;rw [qL.1 ha];exact .lst _ _ _ λk _ x hx=>by rw [qL.1 hx];exact .x _
  obtain ⟨u,us,rfl,r1,r2⟩:=q4.cons_inv;refine .cons (LN (a:= .lst 1 1 f) ⟨rfl,rfl,λk hk=>?_⟩ r1) r2;obtain rfl:k=0:=VG;exact h2
 exact h3 Q hQ.2;cases h
theorem Zi8{a b:ByteArray}(h:(a.toList==b.toList)=false)(e:a=b):False:=by
 subst e;simp at h
abbrev WF:List Int:=[(0:Int),0,0,0,0,0,0,0,0,0,0,(9:Int),(10:Int),(9:Int),(0:Int),(0:Int)]
abbrev JA:List AV:=[lst 1 11 λk=>[FL (UL U4 k)],iI 0]
abbrev JC:List AV:=[lst 1 11 λk=>[FL (UL U4 k)],iI 1]
abbrev JE:List AV:=[lst 1 16 λk=>[FL (UL (U4++G6) k)]]
theorem Qk6(s:HS)(VO:s=sK (UL (U4++G6)) 16):VV VL 14 [] (bl true):=by
 refine G9 (L:=[]) (Ae Xc5 (Ae uY (Ae Xc8 Aa))) (Aj Ab Ac (Ah (Qx9 s VO) (Ah Xd0 (Ah Xc7 (Ah Xc9 (Ah Xc6 (U1.nil _))))))) VW Tryz.func14 (UR Tryz.f14) UV (t:=let A:=(U3 1 [iI 0,iI 1]);let z1:=(U3 1 [iI 0]);(need [5=5,GR 5 (U3 1 [AV.x (.string {data:=#[116,104,114,101,97,100,32,48,32,50,32,52,48,32,52,48] }),AV.x (.string {data:=#[105,115,115,117,101,32,48,32,52,32,56,48,32,48] }),AV.x (.string {data:=#[115,101,101,32,48,32,49,48,48] }),AV.x (.string {data:=#[115,116,114,105,107,101,32,49] }),AV.x (.string {data:=#[118,111,105,100,32,48] })]) (λk=>[FL (UL G6 k)])] (need [JE=JE] (need [WM=WM] (need [JA=JA] (need [JC=JC] (need [WM=WM] (need [1=1,[AV.x (.string {data:=#[97] })]=[FL (lnA 0)]] (branch ((0:Int)==0) (branch ((↑(16:Nat):Int)==16) (need [UG 10 16] (branch (U6 WF (10:Int).toNat==0) (need [UG 11 16] (branch (U6 WF (11:Int).toNat==9) (need [UG 12 16] (branch (U6 WF (12:Int).toNat==10) (need [UG 13 16] (branch (U6 WF (13:Int).toNat==9) (need [UG 14 16] (branch (U6 WF (14:Int).toNat==0) (need [UG 15 16] (branch (U6 WF (15:Int).toNat==0) (branch ((0:Int)==0) (branch ((↑(3:Nat):Int)==3) (need [UG 1 3] (branch (U6 WU (1:Int).toNat==1&&(U6 Z6 (1:Int).toNat==5&&true)) (need [UG 2 3] (branch (U6 WU (2:Int).toNat==(-3:Int)&&(U6 Z6 (2:Int).toNat==5&&true)) (branch ((0:Int)==0) (need [U9 1 1 λk=>[i (U6 [(0:Int)] k)],U9 1 1 z1,1<=100000] (branch (decide (1=1)&&(true&&U6 [(0:Int)] (nat_lit 0)==col 0 z1 (nat_lit 0))) (branch ((0:Int)==0) (need [U9 1 2 λk=>[i (U6 [(0:Int),1] k)],U9 1 2 A,2<=100000] (branch (decide (2=2)&&(true&&U6 [(0:Int),1] (nat_lit 0)==col 0 A (nat_lit 0)&&U6 [(0:Int),1] (nat_lit 1)==col 0 A (nat_lit 1))) (need [U9 1 1 λk=>[i (U6 [(0:Int)] k)],U9 1 1 z1,1<=100000] (branch (decide (1=1)&&(true&&U6 [(0:Int)] (nat_lit 0)==col 0 z1 (nat_lit 0))) (branch ((0:Int)==0) (branch (ByteArray.toList Zg2==ByteArray.toList {data:=List.toArray (List.append (List.append [(114:UInt8),(101:UInt8),(97:UInt8),(100:UInt8),(105:UInt8),(110:UInt8),(103:UInt8),(115:UInt8),(32:UInt8),(50:UInt8),(32:UInt8),(98:UInt8),(97:UInt8),(116:UInt8),(104:UInt8),(115:UInt8),(32:UInt8),(50:UInt8),(32:UInt8),(99:UInt8),(101:UInt8),(114:UInt8),(116:UInt8),(105:UInt8),(102:UInt8),(105:UInt8),(99:UInt8),(97:UInt8),(116:UInt8),(101:UInt8),(115:UInt8),(32:UInt8),(49:UInt8),(32:UInt8)] [(115:UInt8),(97:UInt8),(108:UInt8),(101:UInt8),(115:UInt8),(32:UInt8),(50:UInt8),(10:UInt8),(109:UInt8),(97:UInt8),(114:UInt8),(107:UInt8),(115:UInt8),(32:UInt8),(48:UInt8),(46:UInt8),(46:UInt8),(48:UInt8),(32:UInt8),(50:UInt8),(48:UInt8),(48:UInt8),(46:UInt8),(46:UInt8),(51:UInt8),(48:UInt8),(48:UInt8),(32:UInt8),(52:UInt8),(49:UInt8),(48:UInt8),(46:UInt8),(46:UInt8),(53:UInt8)]) (List.append [(49:UInt8),(48:UInt8),(32:UInt8),(55:UInt8),(48:UInt8),(48:UInt8),(46:UInt8),(46:UInt8),(56:UInt8),(48:UInt8),(48:UInt8),(32:UInt8),(49:UInt8),(48:UInt8),(48:UInt8),(48:UInt8),(46:UInt8),(46:UInt8),(49:UInt8),(48:UInt8),(48:UInt8),(48:UInt8),(10:UInt8),(111:UInt8),(102:UInt8),(102:UInt8),(115:UInt8),(101:UInt8),(116:UInt8),(115:UInt8),(32:UInt8),(48:UInt8),(46:UInt8),(46:UInt8)] [(48:UInt8),(32:UInt8),(49:UInt8),(46:UInt8),(46:UInt8),(53:UInt8),(32:UInt8),(45:UInt8),(51:UInt8),(46:UInt8),(46:UInt8),(53:UInt8),(10:UInt8),(115:UInt8),(116:UInt8),(97:UInt8),(110:UInt8),(100:UInt8),(32:UInt8),(48:UInt8),(10:UInt8),(104:UInt8),(111:UInt8),(108:UInt8),(100:UInt8),(32:UInt8),(52:UInt8),(32:UInt8),(50:UInt8),(32:UInt8),(52:UInt8),(32:UInt8),(48:UInt8),(10:UInt8)])) }) (branch ((0:Int)==0) (need [gC 13 (DJ wrB)] (leaf (RV.x (.bool (ByteArray.toList (bsO 13 (DJ wrB))==ByteArray.toList {data:=#[91,48,48,49,58,48,48,50,50,51,93,97,10] }))))) (leaf (RV.x (WK)))) (leaf (RV.x (WK)))) (leaf (RV.x (WK)))) (leaf (RV.x (WK))))) (leaf (RV.x (WK))))) (leaf (RV.x (WK)))) (leaf (RV.x (WK))))) (leaf (RV.x (WK)))) (leaf (RV.x (WK))))) (leaf (RV.x (WK))))) (leaf (RV.x (WK)))) (leaf (RV.x (WK)))) (leaf (RV.x (WK))))) (leaf (RV.x (WK))))) (leaf (RV.x (WK))))) (leaf (RV.x (WK))))) (leaf (RV.x (WK))))) (leaf (RV.x (WK))))) (leaf (RV.x (WK)))) (leaf (RV.x (WK)))))))))))) VQ ?_
 have hw:bsO 13 (DJ wrB)=wrB:=Zo0 wrB;simp only [VJ.sat,U8,UZ,GH,UB,UE,VI,hw]
 (with_reducible repeat' first|apply Al|intro _)
 all_goals first|exact Ak|contradiction|(rename_i h;exact (Zi8 h VQ).elim)|omega|exact sD (by decide+kernel)|(intro k hk;exact ltM VQ k hk)|(rename_i k hk;exact ltM VQ k hk)|(rename_i k hk;revert k;refine ltM ?_;kernel_rfl)|(intro k hk;revert k;refine ltM ?_;kernel_rfl)|decide|decide+kernel|rfl
def Qf6:UU
 |[]=>some ([],bl true)
 |_=>none
theorem AN:VM VL 14 Qf6:=by
 refine ⟨(UC Tryz.func14),?_⟩;intro avs ns res h hn;unfold Qf6 at h;split at h;cases h;exact Qk6 _ rfl;cases h
section
variable (n:Nat)(L:Nat->ByteArray)
def thA:Bool:=HW (λk=>decide (((L k).size:Int)<=210)) (min n 56)
def thB:Bool:=thA n L&&decide ((n:Int)<=55)
def rgB:Bool:=HW (λk=>decide (((L k).size:Int)<=200)) n&&decide ((n:Int)<=50)
def rdB(most:Int):Bool:=thB n L&&(rgB n L&&decide ((n:Int)<=most))
def Xa6:St:={σ:=[Q6 n L]++HF 22 [],m:=[],nx:=2}
noncomputable def Jp1:Code:=U7 (VP (U5 Tryz.f49) 0)
def Wh0(k:Nat):St:=(upM [(3,i k)] (Xa6 n L))
def vA(k:Nat):G4->Option St
 | .exit 0=>some (upM [] (Xa6 n L))
 | .ret=>some (upM [(2,.lit false)] (Xa6 n L))
 |_=>none
def Jj7:CT:= .branch (HW ((λk=>decide (((L k).size:Int)<=210))) (min n 56)) (.leaf (.exit 0,(vA n L 0 (.exit 0)).getD (Xa6 n L))) (.leaf (.ret,(vA n L 0 .ret).getD (Xa6 n L)))
def Xu7:UF:=(HD (Wh0 n L (0)) (Jj7 n L))
theorem Zx2(VO:(min n 56)<=100000):G5 VL (.loop Jp1) (Xu7 n L):=by
 refine HC (L:=[]) Aa VW U0 (X:=Nat) (Wh0 n L) (λk=>k<=(min n 56)/\ ∀j,j<k->((λk=>decide (((L k).size:Int)<=210))) j=true) (λk=>(min n 56)-k) (vA n L) (x0:=0) ⟨VG,λj hj=>VG⟩ ?_ ?_ ?_;rintro k;kernel_rfl;rintro k y E h;unfold vA at h;split at h;cases h;kernel_rfl;cases h;kernel_rfl;cases h
 ·rintro Q hQ k hx;refine ⟨(k+1),?_⟩;(with_reducible refine DA (t:=let A:=(need [VU (Q6 n L)] (leaf (G4.exit 0)));(branch (decide ((k:Int)<(n:Int))) (branch (decide ((k:Int)<56)) (need [UG k n] (branch (decide ((↑(ByteArray.size (L k)):Int)>210)) (need [VU (Q6 n L),WL] (leaf G4.ret)) (need [VI ((k:Int)+1)] (need [VU (Q6 n L),(k:Int)+1=(↑(k+1):Int)] (leaf G4.normal))))) A) A)) VQ ?_);simp only [Jj7,vA,VJ.sat,GQ] at hQ;have Wo3:k<(min n 56)->((λk=>decide (((L k).size:Int)<=210))) k=false->HW ((λk=>decide (((L k).size:Int)<=210))) (min n 56)=false:=by
   intro h1 h2;rw [←Bool.not_eq_true];intro h3;have:=GI.1 h3 k h1;exact Bool.noConfusion (h2.symm.trans this)
  have gK:((λk=>decide (((L k).size:Int)<=210))) k=true-> ∀j,j<k+1->((λk=>decide (((L k).size:Int)<=210))) j=true:=by
   intro h1 j hj;rcases (show j<k\/j=k by omega) with h|rfl
   exact hx.2 j h;exact h1
  have PG: ¬k<(min n 56)->HW ((λk=>decide (((L k).size:Int)<=210))) (min n 56)=true:=λh=>GI.2 (λj hj=>hx.2 j VG);have hQ1: ∀E,vA n L k .ret=some E->HW ((λk=>decide (((L k).size:Int)<=210))) (min n 56)=false->Q (.ret,E):=by
   intro E hE hf;cases hE;exact hQ.2 hf
  have hQ2: ∀E,vA n L k (.exit 0)=some E->HW ((λk=>decide (((L k).size:Int)<=210))) (min n 56)=true->Q (.exit 0,E):=by
   intro E hE hf;cases hE;exact hQ.1 hf
  simp only [VJ.sat,U8,UE,H6,VI,FC]
  all_goals exact V3
theorem Wg4:VV VL 49 [lns n L] (bl (thB n L)):=by
 refine VY (L:=[FE [min n 56<=100000] (Xu7 n L)]) Aa VW Tryz.func49 (UR Tryz.f49) (G0 (lpE (b:= .loop Jp1) VQ<|HT (λh=>Zx2 n L h))) (t:=need [min n 56<=100000] (need [VU (Q6 n L),(0:Int)=(↑(0:Nat):Int)] (branch (HW (λk=>decide ((↑(ByteArray.size (L k)):Int)<=210)) (min n 56)) (leaf (RV.x (.bool (decide ((n:Int)<=55))))) (leaf (RV.x (WK)))))) VQ ?_
 simp only [VJ.sat,U8,UZ,GH,UB,VI,UE,H6,FW];unfold thB thA;refine ⟨VG,λh=>?_,λh=>?_⟩;simp [h];simp [h]
def Xn1:UU:=λl=>some ([l=[lns n L]],bl (thB n L))
theorem Qn7:VM VL 49 (Xn1 n L):=by
 refine ⟨(UC Tryz.func49),?_⟩;intro avs ns res h hn;cases h;have e:=hn _ GB;subst e;exact Wg4 n L
def bE:St:={σ:=[Q6 n L]++HF 18 [],m:=[],nx:=2}
noncomputable def Xc0:Code:=U7 (VP (U5 Tryz.f50) 0)
def EU(k:Nat):St:=(upM [(3,i k)] (bE n L))
def PK(k:Nat):G4->Option St
 | .exit 0=>some (upM [] (bE n L))
 | .ret=>some (upM [(2,.lit false)] (bE n L))
 |_=>none
def Wv9:CT:= .branch (HW ((λk=>decide (((L k).size:Int)<=200))) n) (.leaf (.exit 0,(PK n L 0 (.exit 0)).getD (bE n L))) (.leaf (.ret,(PK n L 0 .ret).getD (bE n L)))
def mO:UF:=(HD (EU n L (0)) (Wv9 n L))
theorem Wb4(VO:n<=100000):G5 VL (.loop Xc0) (mO n L):=by
 refine HC (L:=[]) Aa VW U0 (X:=Nat) (EU n L) (λk=>k<=n/\ ∀j,j<k->((λk=>decide (((L k).size:Int)<=200))) j=true) (λk=>n-k) (PK n L) (x0:=0) ⟨VG,λj hj=>VG⟩ ?_ ?_ ?_;rintro k;kernel_rfl;rintro k y E h;unfold PK at h;split at h;cases h;kernel_rfl;cases h;kernel_rfl;cases h
 ·rintro Q hQ k hx;refine ⟨(k+1),?_⟩;(with_reducible refine DA (t:=branch (decide ((k:Int)<(n:Int))) (need [UG k n] (branch (decide ((↑(ByteArray.size (L k)):Int)>200)) (need [VU (Q6 n L),WL] (leaf G4.ret)) (need [VI ((k:Int)+1)] (need [VU (Q6 n L),(k:Int)+1=(↑(k+1):Int)] (leaf G4.normal))))) (need [VU (Q6 n L)] (leaf (G4.exit 0)))) VQ ?_);simp only [Wv9,PK,VJ.sat,GQ] at hQ;have Wo3:k<n->((λk=>decide (((L k).size:Int)<=200))) k=false->HW ((λk=>decide (((L k).size:Int)<=200))) n=false:=by
   intro h1 h2;rw [←Bool.not_eq_true];intro h3;have:=GI.1 h3 k h1;exact Bool.noConfusion (h2.symm.trans this)
  have gK:((λk=>decide (((L k).size:Int)<=200))) k=true-> ∀j,j<k+1->((λk=>decide (((L k).size:Int)<=200))) j=true:=by
   intro h1 j hj;rcases (show j<k\/j=k by omega) with h|rfl
   exact hx.2 j h;exact h1
  have PG: ¬k<n->HW ((λk=>decide (((L k).size:Int)<=200))) n=true:=λh=>GI.2 (λj hj=>hx.2 j VG);have hQ1: ∀E,PK n L k .ret=some E->HW ((λk=>decide (((L k).size:Int)<=200))) n=false->Q (.ret,E):=by
   intro E hE hf;cases hE;exact hQ.2 hf
  have hQ2: ∀E,PK n L k (.exit 0)=some E->HW ((λk=>decide (((L k).size:Int)<=200))) n=true->Q (.exit 0,E):=by
   intro E hE hf;cases hE;exact hQ.1 hf
  simp only [VJ.sat,U8,UE,H6,VI,FC]
  all_goals exact V3
theorem Qn8(VO:n<=100000):VV VL 50 [lns n L] (bl (rgB n L)):=by
 refine VY (L:=[FE [n<=100000] (mO n L)]) Aa VW Tryz.func50 (UR Tryz.f50) (G0 (lpE (b:= .loop Xc0) VQ<|HT (λh=>Wb4 n L h))) (t:=need [n<=100000] (need [VU (Q6 n L),(0:Int)=(↑(0:Nat):Int)] (branch (HW (λk=>decide ((↑(ByteArray.size (L k)):Int)<=200)) n) (leaf (RV.x (.bool (decide ((n:Int)<=50))))) (leaf (RV.x (WK)))))) VQ ?_
 simp only [VJ.sat,U8,UZ,GH,UB,VI,UE,H6,FW];unfold rgB;refine ⟨VG,λh=>?_,λh=>?_⟩;simp [h];simp [h]
def Qt7:UU:=λl=>some ([l=[lns n L],n<=100000],bl (rgB n L))
theorem oY:VM VL 50 (Qt7 n L):=by
 refine ⟨(UC Tryz.func50),?_⟩;intro avs ns res h hn;cases h;have e:avs=[lns n L]:=hn _ VS;have h0:n<=100000:=hn _ VS;subst e;exact Qn8 n L h0
theorem Qn9(most:Int):VV VL 15 [lns n L,i most] (bl (rdB n L most)):=by
 refine VY (L:=[]) (Ae (Qn7 n L) (Ae (oY n L) Aa)) VW Tryz.func15 (UR Tryz.f15) U0 (t:=need [(K2 n L)] (branch (thB n L) (need [(K2 n L),n<=100000] (branch (rgB n L) (leaf (RV.x (.bool (decide ((n:Int)<=most))))) (leaf (RV.x (WK))))) (leaf (RV.x (WK))))) VQ ?_;simp only [VJ.sat,U8,UZ,UB,UE];have hn:thB n L=true->n<=55:=λh=>by
  unfold thB at h;rw [GZ,kJ] at h;omega
 unfold rdB
 (with_reducible repeat' first|apply Al|intro _)
 all_goals first|(have:=hn (by assumption);omega)|simp_all
def Wx8(most:Int):UU:=λl=>some ([l=[lns n L,i most]],bl (rdB n L most))
theorem vH(most:Int):VM VL 15 (Wx8 n L most):=by
 refine ⟨(UC Tryz.func15),?_⟩;intro avs ns res h hn;cases h;have e:=hn _ GB;subst e;exact Qn9 n L most
theorem eV(VO:n<=100000):VV VL 22 [lns n L] (lns n L):=by
 refine G9 (L:=[]) Aa Ad VW Tryz.func22 (UR Tryz.f22) UV (t:=need [(0+n)*16<=140737488355328,∀(i:Nat),i<n-> ∀(a:AV),a∈[FL (L i)]->AV.one a=true] (leaf (RV.lst 1 (0+n) (GE 0 (λx=>[]) λk=>[FL (L k)])))) VQ ?_;simp only [VJ.sat,U8,UZ,true_and]
 (with_reducible repeat' first|apply Al|intro _)
 all_goals first|exact Ak|omega|(rename_i ha;rw [qL.1 ha];first|exact Ak|rfl)|exact lI _ _|rfl|trace_state
def Xn2:UU:=λl=>some ([l=[lns n L]],lns n L)
theorem NZ(VO:n<=100000):VM VL 22 (Xn2 n L):=by
 refine ⟨(UC Tryz.func22),?_⟩;intro avs ns res h hn;cases h;have e:=hn _ GB;subst e;exact eV n L VO
end
section
variable (L:Nat->ByteArray)
def acB(k:Nat):Bool:=eK L k==0
def kpN(n:Nat):Nat:=UN (acB L) n
def kpF(n:Nat)(j:Nat):ByteArray:=L (UI (acB L) n j)
end
section
variable (n:Nat)(L:Nat->ByteArray)
def Wy5:HZ:=λl=>some (.need [l=[lns n L]] (.leaf (.tup [.agg (hsL (sK L n)),.lst 1 n (exG L),i 0])))
theorem OI(h0:ckE n L=0):Sx.Enters Tryz.prog 27/\ ∀avs t,Wy5 n L avs=some t->UH VL 27 avs t:=by
 refine ⟨(UC Tryz.func27),?_⟩;intro avs t h;cases h;intro Q hQ;have e:avs=[lns n L]:=hQ.1;subst e;have hk:=j9 h0;refine iU n L VG Q ⟨λh=>?_,λ_=>hQ.2⟩;rw [h0] at h;exact absurd h (by decide)
end
theorem catS{a:Nat->ByteArray}{k j:Nat}{x:ByteArray}(h:j<k+1)(hx:x=a k):GE k (λz=>[.x (.string (a z))]) (U3 1 [.x (.string x)]) j=[.x (.string (a j))]:=by
 subst hx;rcases (show j<k\/j=k by omega) with h1|rfl
 show H9 (decide (j<k)) _ (U3 _ _ (j-k))=_;rw [decide_eq_true h1,show j-k=0 by omega]
 rfl;show H9 (decide (j<j)) _ (U3 _ _ (j-j))=_;rw [show decide (j<j)=false by simp,Bs]
 rfl
section
variable (n:Nat)(L:Nat->ByteArray)
def Zr1:St:={σ:=[Q6 n L,top,ptr 0 0,Q9,AV.lit false,ptr 1 0,lst 1 n λj=>[iI (eK L j)],iI 0]++HF 39 [],m:=[(905,GL.row 9 1 0 λx=>[]),(1,GL.cells 43 (hL (sK L n))),(0,GL.cells 43 YJ)],nx:=906}
noncomputable def Jq2:Code:=U7 (VP (U5 Tryz.f16) 0)
def Wi3(k:Nat):St:={σ:=H0 [(8,.row 905),(9,i k)] (Zr1 n L).σ,m:=[(905,.row 9 1 (kpN L k) (λz=>[.x (.string (kpF L n z))])),(1,.cells 43 (hsL (sK L n))),(0,.cells 43 [.x (.slice none 0 0),i 0,i 0,.x (.slice none 0 0),.x (.slice none 0 0),.x (.slice none 0 0)])],nx:=906}
def CS(k:Nat):G4->Option St
 | .exit 0=>some {σ:=H0 [(8,.row 905),(9,i n)] (Zr1 n L).σ,m:=[(905,.row 9 1 (kpN L n) (λz=>[.x (.string (kpF L n z))])),(1,.cells 43 (hsL (sK L n))),(0,.cells 43 [.x (.slice none 0 0),i 0,i 0,.x (.slice none 0 0),.x (.slice none 0 0),.x (.slice none 0 0)])],nx:=906}
 |_=>none
def Jl2:CT:= .leaf (.exit 0,(CS n L 0 (.exit 0)).getD (Zr1 n L))
def Xw2:UF:=GG [(.slot 2,0,0,2),(.slot 5,1,0,2),(.slot 8,905,9,1)] (HD (Wi3 n L (0)) (Jl2 n L))
theorem Jb2(VO:ckE n L=0):G5 VL (.loop Jq2) (Xw2 n L):=by
 refine UT [(.slot 2,0,0,2),(.slot 5,1,0,2),(.slot 8,905,9,1)] (L:=[]) (Ae (NZ n L (by have:=j9 VO;omega)) Aa) (Aj Ab Ac (Ah (OI n L VO) (U1.nil _))) VW U0 (X:=Nat) (Wi3 n L) (λk=>k<=n) (λk=>n-k) (CS n L) (x0:=0) VS ?_ ?_ ?_
 rintro k;kernel_rfl;rintro k y E h;unfold CS at h;split at h;cases h;kernel_rfl;cases h;rintro Q hQ k hx;refine ⟨(k+1),?_⟩;(with_reducible refine DA (t:=let A:=(VU (lst 1 n λj=>[iI (eK L j)]));let z1:=(VU (hR ((sK L n).nr) (sK L n)));let z2:=(VU (hY ((sK L n).nb) (sK L n)));let z3:=(VU (hC ((sK L n).nc) (sK L n)));let z4:=(VU (hT ((sK L n).ns) (sK L n)));(branch (decide ((k:Int)<(n:Int))) (need [UG k n] (branch (eK L k==0) (need [UG k n] (need [(kpN L k+1)*16<=140737488355328,RQ 1 (U3 1 [FL (L k)])] (need [VI ((k:Int)+1)] (need [VU (Q6 n L),QO,Q9=Q9,WL,XV,A,QI,VU (AV.row 905),(k:Int)+1=(↑(k+1):Int),kpN L k+1=kpN L (k+1),∀(i:Nat),i<kpN L (k+1)->GE (kpN L k) (λz=>[FL (kpF L n z)]) (U3 1 [FL (L k)]) i=[FL (kpF L n i)],z1,VU ((sK L n).pl),VU ((sK L n).ph),z2,z3,z4,Q9=Q9,QI,QI,Q9=Q9,Q9=Q9,Q9=Q9] (leaf G4.normal))))) (need [VI ((k:Int)+1)] (need [VU (Q6 n L),QO,Q9=Q9,WL,XV,A,QI,VU (AV.row 905),(k:Int)+1=(↑(k+1):Int),kpN L k=kpN L (k+1),∀(i:Nat),i<kpN L (k+1)->[FL (kpF L n i)]=[FL (kpF L n i)],z1,VU ((sK L n).pl),VU ((sK L n).ph),z2,z3,z4,Q9=Q9,QI,QI,Q9=Q9,Q9=Q9,Q9=Q9] (leaf G4.normal))))) (need [VU (Q6 n L),QO,Q9=Q9,WL,XV,A,QI,VU (AV.row 905),(k:Int)=(n:Int),kpN L k=kpN L n,∀(i:Nat),i<kpN L n->[FL (kpF L n i)]=[FL (kpF L n i)],z1,VU ((sK L n).pl),VU ((sK L n).ph),z2,z3,z4,Q9=Q9,QI,QI,Q9=Q9,Q9=Q9,Q9=Q9] (leaf (G4.exit 0))))) VQ ?_)
 simp only [Jl2,CS,VJ.sat,GQ] at hQ;simp only [VJ.sat,U8,UZ,GH,UB,VI,UE,H6,FW,R0,RT,GJ,CS]
 have b1:=zQ (p:=acB L) (k:=k);have b0:=j9 VO;have e0:kpN L k=UN (acB L) k:=rfl;have e00:kpN L (k+1)=UN (acB L) (k+1):=rfl;refine ⟨λh=>?_,λh=>?_⟩;have hk:k<n:=VG;cases hc:acB L k;have e1:=FR hc;have hc': ¬((eK L k==0)=true):=λh=>Bool.noConfusion (hc.symm.trans h);exact VB
 ·have e1:=DS hc;have hc': ¬((eK L k==0)=false):=λh=>Bool.noConfusion (hc.symm.trans h);have hq: ∀j,j<kpN L (k+1)->GE (kpN L k) (λz=>[.x (.string (kpF L n z))]) (U3 1 [.x (.string (L k))]) j=[.x (.string (kpF L n j))]:=by
   intro j hj;rw [e00,e1] at hj;refine catS (a:=kpF L n) hj ?_;show L k=L (UI (acB L) n (UN (acB L) k));rw [PV hk hc]
  (with_reducible repeat' first|apply Al|intro _)
  all_goals first|exact P4|(first|exact absurd (by assumption) hc'|exact hq _ (by assumption)|exact FM (by assumption) (by simp [AV.one,Value.oneCell']))
 obtain rfl:k=n:=VG;exact YW
end
abbrev W6(L:Nat->ByteArray)(n:Nat):AV:=lst 1 (kpN L n) λz=>[FL (kpF L n z)]
theorem oZ(n:Nat)(L:Nat->ByteArray)(VO:ckE n L=0):UH VL 16 [lns n L] (.leaf (.tup [.agg (hsL (sK L n)),.lst 1 (kpN L n) (λz=>[.x (.string (kpF L n z))]),bl true])):=by
 refine GO (L:=[Xw2 n L]) (Ae (NZ n L (by have:=j9 VO;omega)) Aa) (Aj Ab Ac (Ah (OI n L VO) (U1.nil _))) VW Tryz.func16 (UR Tryz.f16) (G0 (lpE (b:= .loop Jq2) VQ<|(Jb2 n L VO).N)) (t:=let A:=(leaf (tup [agg (hL (sK L n)),Q9,AV.lit false]));(need [(K2 n L)] (need [(K2 n L)] (branch ((0:Int) != 0) A (branch ((n:Int) != (n:Int)) A (need [VU (Q6 n L),QO,Q9=Q9,WL,XV,VU (lst 1 n λj=>[iI (eK L j)]),QI,VU (AV.row 905),(0:Int)=(↑(0:Nat):Int),0=kpN L 0,∀(i:Nat),i<kpN L 0->[]=[FL (kpF L n i)],VU (hR ((sK L n).nr) (sK L n)),VU ((sK L n).pl),VU ((sK L n).ph),VU (hY ((sK L n).nb) (sK L n)),VU (hC ((sK L n).nc) (sK L n)),VU (hT ((sK L n).ns) (sK L n)),Q9=Q9,QI,QI,Q9=Q9,Q9=Q9,Q9=Q9] (leaf (tup [agg (hL (sK L n)),W6 L n,AV.lit true])))))))) VQ ?_
 intro Q hQ;simp only [VJ.sat,U8,UE,VI,FC] at hQ ⊢;have b0:=j9 VO
 (with_reducible repeat' first|apply Al|intro _)
 all_goals first|exact Ak|contradiction|(exfalso;rename_i h9;simp at h9;done)|omega|rfl|(rename_i h;exact absurd h (Aq _))|exact ⟨.tup [.agg (hsL (sK L n)),.lst 1 (kpN L n) (λz=>[.x (.string (kpF L n z))]),bl true],⟨AA _,⟨rfl,rfl,λ_ _=>rfl⟩,rfl,Ak⟩,hQ⟩|exact ⟨.tup [.agg (hsL (sK L n)),.lst 1 (kpN L n) (λz=>[.x (.string (kpF L n z))]),bl true],⟨AA _,⟨rfl,rfl,λ_ _=>rfl⟩,⟨rfl,rfl⟩,Ak⟩,hQ⟩|trace_state
def lnF(f:Nat->List AV)(k:Nat):ByteArray:=stO (f k)
section
variable {n:Nat}{L:Nat->ByteArray}
theorem Ji2(h1:n<=50)(h2: ∀k,k<n->(L k).size<=200):ckE n L=0:=by
 unfold ckE;rw [if_pos ⟨h1,GI.2 λk hk=>decide_eq_true (by have:=h2 k hk;omega)⟩]
theorem Ja4{most:Int}(h:rdB n L most=true):ckE n L=0/\(n:Int)<=most:=by
 unfold rdB at h;rw [GZ,GZ,kJ] at h;obtain ⟨_,h2,h3⟩:=h;unfold rgB at h2;rw [GZ,kJ] at h2;refine ⟨Ji2 VG λk hk=>?_,h3⟩;have:=BT (GI.1 h2.1 k hk);omega
end
theorem Zc6{c:Nat}{T U O:Int}{n n':Nat}{a b u v a' b' u' v':Nat->Int}{h:Nat->Int}(g:Nat->Nat)(hg: ∀j,j<n->g j<n'/\a j=a' (g j)/\b j=b' (g j)/\u j=u' (g j)/\v j=v' (g j))(k:Tr c T U O n' a' b' u' v' h):Tr c T U O n a b u v h:=by
 refine ⟨k.1,k.2.1,k.2.2.1,λj hj=>?_⟩;obtain ⟨e0,e1,e2,e3,e4⟩:=hg j hj;have h1:=k.2.2.2 (g j) e0;rw [e1,e2,e3,e4];exact h1
theorem Zm9{c T U O:Int}{n n':Nat}{a b u v a' b' u' v':Nat->Int}(g:Nat->Nat)(hg: ∀j,j<n->g j<n'/\a j=a' (g j)/\b j=b' (g j)/\u j=u' (g j)/\v j=v' (g j))(hn:n<=n')(h:eB c T U O n' a' b' u' v'=0):eB c T U O n a b u v=0:=by
 obtain ⟨h1,_,h3⟩:=xH.1 h;have hf:=w6.1 h1;have hb:=PU hf.1;have ha:HW (λk=>Bo.rdB c (a k) (b k) (u k) (v k)) n=true:=GI.2 λj hj=>by
  obtain ⟨e0,e1,e2,e3,e4⟩:=hg j hj;have h5:=GI.1 hf.2.2 (g j) e0;rw [e1,e2,e3,e4];exact h5
 have h2:flt c T U O n a b u v=0:=w6.2 ⟨hf.1,VG,ha⟩;exact xH.2 ⟨h2,rfl,We2 hb.2.1 (T3 hb.1 ha) (Zc6 g hg (Xq7 hb.2.1 (T3 hb.1 hf.2.2) h3))⟩
theorem Zj9{s:HS}{x:Int}(h:inE s=0)(hx:bt 0 x ((s.nr:Int)-1)=true):inE (stS s x)=0:=by
 obtain ⟨h1,h2,h3,h4⟩:=Xr6 h;have hx:=(bt_iff _ _ _).1 hx;refine Zh0 (show s.nr-1<=12 by omega) h2 h3 (Zm9 (λj=>if j<x.toNat then j else j+1) (λj hj=>?_) (Nat.sub_le _ _) h4)
 have hj:j<s.nr-1:=hj;show (if j<x.toNat then j else j+1)<s.nr/\skF x s.ra j=s.ra (if j<x.toNat then j else j+1)/\skF x s.rb j=s.rb (if j<x.toNat then j else j+1)/\skF x s.ru j=s.ru (if j<x.toNat then j else j+1)/\skF x s.rv j=s.rv (if j<x.toNat then j else j+1)
 unfold skF;by_cases e:j<x.toNat;simp only [if_pos e,and_true];omega;simp only [if_neg e,and_true];omega
def BH(N:Nat)(U O:Nat->Int)(m:Nat->Nat)(r v:Nat->Nat->Int)(h:Nat->Int):Prop:=
 (∀x y,x<=12->y<=12->x≠y->h y-h x<=8000)/\(∀j,j<3-> -oH j<=h (1+j)-h 0/\h (1+j)-h 0<= -oL j)/\(∀b,b<N->U b<=h (7+b)-h 0/\h (7+b)-h 0<=O b)/\
 ∀b,b<N-> ∀j,j<m b->v b j-1<=h (7+b)-h (1+(r b j).toNat)/\h (7+b)-h (1+(r b j).toNat)<=v b j+1
theorem oM{c:Nat}{M:Nat->Nat->Int}{h:Nat->Int}{a b:Nat}{U O:Int}(ha:a<=c)(hb:b<=c):ob c (spn M a b U O) h↔ob c M h/\U<=h b-h a/\h b-h a<=O:=by
 unfold spn;rw [wK hb ha,wK ha hb];exact ⟨λ⟨⟨k1,k2⟩,k3⟩=>⟨k1,VG,k2⟩,λ⟨k1,k2,k3⟩=>⟨⟨k1,k3⟩,VG⟩⟩
theorem Xs1{h:Nat->Int}: ∀k,k<=3->(ob 12 (ofM k) h↔ob 12 (RR 13 0) h/\ ∀j,j<k-> -oH j<=h (1+j)-h 0/\h (1+j)-h 0<= -oL j)
 | 0,_=>⟨λk=>⟨k,λj hj=>absurd hj (Aq j)⟩,λk=>k.1⟩
 |k+1,hk=>by
  show ob 12 (spn (ofM k) 0 (1+k) (-oH k) (-oL k)) h↔_;rw [oM VG VG,Xs1 k VG];refine ⟨λ⟨⟨k1,k2⟩,k3⟩=>⟨k1,λj hj=>?_⟩,λ⟨k1,k2⟩=>⟨⟨k1,λj hj=>k2 j VG⟩,k2 k VG⟩⟩;rcases (show j<k\/j=k by omega) with h1|rfl
  exact k2 j h1;exact k3
theorem Xs2{U O:Nat->Int}{h:Nat->Int}: ∀k,k<=6->(ob 12 (btM U O k) h↔ob 12 (ofM 3) h/\ ∀b,b<k->U b<=h (7+b)-h 0/\h (7+b)-h 0<=O b)
 | 0,_=>⟨λk=>⟨k,λj hj=>absurd hj (Aq j)⟩,λk=>k.1⟩
 |k+1,hk=>by
  show ob 12 (spn (btM U O k) 0 (7+k) (U k) (O k)) h↔_;rw [oM VG VG,Xs2 k VG];refine ⟨λ⟨⟨k1,k2⟩,k3⟩=>⟨k1,λj hj=>?_⟩,λ⟨k1,k2⟩=>⟨⟨k1,λj hj=>k2 j VG⟩,k2 k VG⟩⟩;rcases (show j<k\/j=k by omega) with h1|rfl
  exact k2 j h1;exact k3
theorem We4{N:Nat}{U O:Nat->Int}{m:Nat->Nat}{r v:Nat->Nat->Int}{h:Nat->Int}(hb:bOK N U O m r v): ∀q,q<=H4 m N->(ob 12 (uM N U O m r v q) h↔ob 12 (btM U O N) h/\ ∀p,p<q->v (G7 m N p).1 (G7 m N p).2-1<=h (7+(G7 m N p).1)-h (1+(r (G7 m N p).1 (G7 m N p).2).toNat)/\h (7+(G7 m N p).1)-h (1+(r (G7 m N p).1 (G7 m N p).2).toNat)<=v (G7 m N p).1 (G7 m N p).2+1)
 | 0,_=>⟨λk=>⟨k,λj hj=>absurd hj (Aq j)⟩,λk=>k.1⟩
 |q+1,hq=>by
  obtain ⟨hl1,hl2⟩:=uX m N q VG;have q4:=(hb.2 _ hl1).2.2.2.2 _ hl2;have hN:=hb.1;show ob 12 (spn (uM N U O m r v q) _ _ _ _) h↔_;rw [oM VG VG,We4 hb q VG];refine ⟨λ⟨⟨k1,k2⟩,k3⟩=>⟨k1,λj hj=>?_⟩,λ⟨k1,k2⟩=>⟨⟨k1,λj hj=>k2 j VG⟩,k2 q VG⟩⟩;rcases (show j<q\/j=q by omega) with h1|rfl
  exact k2 j h1;exact k3
theorem Xf3{h:Nat->Int}:ob 12 (RR 13 0) h↔ ∀x y,x<=12->y<=12->x≠y->h y-h x<=8000:=by
 constructor;intro k x y hx hy hn;have h1:=k x y hx hy;unfold RR at h1;rw [if_pos ⟨.inl ⟨VG,hy⟩,hn⟩] at h1;exact h1;intro k x y hx hy;unfold RR;by_cases e:x=y;subst e;rw [if_neg (λh=>h.2 rfl)];omega;rw [if_pos ⟨.inl ⟨VG,hy⟩,e⟩];exact k x y hx hy e
section
variable {N:Nat}{U O:Nat->Int}{m:Nat->Nat}{r v:Nat->Nat->Int}
theorem Xs0{h:Nat->Int}(hb:bOK N U O m r v):ob 12 (r0M N U O m r v) h↔BH N U O m r v h:=by
 unfold r0M;rw [We4 hb _ (Am _),Xs2 N hb.1,Xs1 3 (Am _),Xf3];constructor;rintro ⟨⟨⟨k1,k2⟩,k3⟩,k4⟩;refine ⟨k1,k2,k3,λb hb' j hj=>?_⟩;have e:=TV m N b j hb' hj;have hm:=dK m (show b+1<=N by omega)
 simp only [H4] at hm;have h1:=k4 (H4 m b+j) VG;rw [e] at h1;exact h1;rintro ⟨k1,k2,k3,k4⟩;refine ⟨⟨⟨k1,k2⟩,k3⟩,λp hp=>?_⟩;obtain ⟨h1,h2⟩:=uX m N p hp;exact k4 _ h1 _ h2
theorem Qd5(hb:bOK N U O m r v):boE N U O m r v=0↔ ∃h,BH N U O m r v h:=by
 have e0:boE N U O m r v=0↔w9 N U O m r v=true:=by
  unfold boE;split<;>simp_all
 rw [e0];constructor;intro h;have hd: ∀o,o<13->0<=fwO 12 (r0M N U O m r v) o o o:=λo ho=>by
  have h1:=BT (GI.1 h o ho);have h2:=AD 12 (r0M N U O m r v) o (13-o) o o;rw [show o+(13-o)=13 by omega] at h2
  exact Bx h1 h2
 refine ⟨λk=>fwO 12 (r0M N U O m r v) 13 0 k,(Xs0 hb).1 λx y hx hy=>?_⟩;have h1:=vQ 13 (Am _) hd x 0 y VG VG hy;have h2:=pV 12 (r0M N U O m r v) 13 x y;show fwO 12 (r0M N U O m r v) 13 0 y-fwO 12 (r0M N U O m r v) 13 0 x<=_;omega;rintro ⟨g,k⟩;refine GI.2 λx hx=>decide_eq_true ?_;have h1:=Zi1 ((Xs0 hb).2 k) 13 VG x x VG VG;show 0<=fwO 12 (r0M N U O m r v) 13 x x;omega
end
theorem oB(k:Nat): -9<=oL k/\oL k<=0/\0<=oH k/\oH k<=9:=by
 unfold oL oH;split<;>omega
theorem Ji8{s:HS}{x0 x1:Int}(hb:bV s.nb s.ql s.qh s.qm s.qr s.qv)(hb':bV (s.nb+1) (H3 s.nb s.ql x0) (H3 s.nb s.qh x1) (λk=>if k<s.nb then s.qm k else 0) s.qr s.qv)(h0:boE s.nb s.ql s.qh s.qm s.qr s.qv=0):boE (s.nb+1) (H3 s.nb s.ql x0) (H3 s.nb s.qh x1) (λk=>if k<s.nb then s.qm k else 0) s.qr s.qv=0:=by
 obtain ⟨h,k1,k2,k3,k4⟩:=(Qd5 hb.1).1 h0;have hN:=hb'.1.1;have hx:=(hb'.1.2 s.nb VG).2;have ex0:H3 s.nb s.ql x0 s.nb=x0:=if_neg VG;have ex1:H3 s.nb s.qh x1 s.nb=x1:=if_neg VG;rw [ex0,ex1] at hx;refine (Qd5 hb'.1).2 ⟨λk=>if k<=3\/(7<=k/\k<7+s.nb) then h k else if k=7+s.nb then h 0+x0 else h 0,?_,?_,?_,?_⟩
 have key: ∀x,0-9<=(if x<=3\/(7<=x/\x<7+s.nb) then h x else if x=7+s.nb then h 0+x0 else h 0)-h 0/\(if x<=3\/(7<=x/\x<7+s.nb) then h x else if x=7+s.nb then h 0+x0 else h 0)-h 0<=1000:=by
  intro x;by_cases e1:x<=3\/(7<=x/\x<7+s.nb);rw [if_pos e1];by_cases e0:x=0;subst e0;omega;rcases e1 with e1|⟨e1,e2⟩;have a1:=k2 (x-1) VG;have a2:=oB (x-1);rw [show 1+(x-1)=x by omega] at a1
  omega;have a1:=k3 (x-7) VG;have a2:=(hb.1.2 (x-7) VG).2;rw [show 7+(x-7)=x by omega] at a1
  omega;rw [if_neg e1];split<;>omega
 intro x y _ _ _;have a1:=key x;have a2:=key y;show (if y<=3\/(7<=y/\y<7+s.nb) then h y else if y=7+s.nb then h 0+x0 else h 0)-(if x<=3\/(7<=x/\x<7+s.nb) then h x else if x=7+s.nb then h 0+x0 else h 0)<=8000
 omega;intro j hj;simp only [if_pos (show 1+j<=3\/(7<=1+j/\1+j<7+s.nb) by omega),if_pos (show 0<=3\/(7<=0/\0<7+s.nb) by omega)]
 exact k2 j hj;intro b hb2;simp only [if_pos (show 0<=3\/(7<=0/\0<7+s.nb) by omega)]
 rcases (show b<s.nb\/b=s.nb by omega) with e|rfl
 rw [if_pos (show 7+b<=3\/(7<=7+b/\7+b<7+s.nb) by omega),show H3 s.nb s.ql x0 b=s.ql b from if_pos e,show H3 s.nb s.qh x1 b=s.qh b from if_pos e]
 exact k3 b e;rw [if_neg (show ¬(7+s.nb<=3\/(7<=7+s.nb/\7+s.nb<7+s.nb)) by omega),if_pos rfl,ex0,ex1]
 omega;intro b hb2 j hj;have hj:j<(if b<s.nb then s.qm b else 0):=hj
 by_cases e:b<s.nb;rw [if_pos e] at hj;have a1:=(hb.1.2 b e).2.2.2.2 j hj;simp only [if_pos (show 7+b<=3\/(7<=7+b/\7+b<7+s.nb) by omega),if_pos (show 1+(s.qr b j).toNat<=3\/(7<=1+(s.qr b j).toNat/\1+(s.qr b j).toNat<7+s.nb) by omega)]
 exact k4 b e j hj;rw [if_neg e] at hj;omega
structure HSt (s:HS):Prop where
 rd:inE s=0
 bo:boE s.nb s.ql s.qh s.qm s.qr s.qv=0
 sf:orE s.ns s.sa s.sb s.sc s.sl s.sh=0
 us: ∀k,k<s.nc->usB 4 (s.ca k) (s.cb k) (s.cc k)=true
theorem Zl0:HSt hs0:=⟨VQ,VQ,VQ,λk hk=>absurd hk (Aq k)⟩
theorem Jj1{c T U O:Int}{n:Nat}{a b u v:Nat->Int}{m:Nat}{p q:Nat->Int}{pl ph dl dh u0 u1 wi Z:Int}(h:asE c T U O n a b u v m p q pl ph dl dh u0 u1 wi Z=0):rdE c T U O n a b u v m p q pl ph dl dh=0/\usB c u0 u1 wi=true/\bt 0 Z 10000=true:=by
 unfold asE at h;split at h;rename_i h1;split at h;rename_i h2;rw [GZ] at h2;exact ⟨h1,h2⟩;exact absurd h (by decide)
 rename_i h1;exact absurd h h1
theorem Xd2{W:Nat->ByteArray}{n:Nat}{s:HS}(hs:hZ s)(I:HSt s)(h0:RW W n s=0):HSt (DQ W s):=by
 have hok:=tW hs h0;unfold RW at h0;unfold DQ at hok ⊢;revert hok;split at h0<;>intro hok;have h:=fm0 h0;unfold thE at h;split at h;split at h;split at h;rename_i h1;exact ⟨h1,I.bo,I.sf,I.us⟩;exact absurd h (by decide)
 exact absurd h (by decide)
 exact absurd h (by decide)
 have h:=fm0 h0;unfold stE at h;split at h;rename_i h1;exact ⟨Zj9 I.rd h1,I.bo,I.sf,I.us⟩;exact absurd h (by decide)
 have h:=fm0 h0;unfold baE at h;split at h;rename_i h1;exact ⟨h1,I.bo,I.sf,I.us⟩;exact absurd h (by decide)
 exact ⟨I.rd,Ji8 hs.bV hok.bV I.bo,I.sf,I.us⟩;have h:=fm0 h0;unfold seE at h;split at h;split at h;split at h;split at h;split at h;rename_i g5;exact ⟨I.rd,g5,I.sf,I.us⟩;exact absurd h (by decide)
 exact absurd h (by decide)
 exact absurd h (by decide)
 exact absurd h (by decide)
 exact absurd h (by decide)
 have h:=fm0 h0;unfold isE at h;split at h;rename_i h1;refine ⟨I.rd,I.bo,I.sf,λk hk=>?_⟩;have hk:k<s.nc+1:=hk;show usB 4 (H3 s.nc s.ca _ k) (H3 s.nc s.cb _ k) (H3 s.nc s.cc _ k)=true;unfold H3;by_cases e:k<s.nc;rw [if_pos e,if_pos e,if_pos e];exact I.us k e;rw [if_neg e,if_neg e,if_neg e];exact (Jj1 h1).2.1;exact absurd h (by decide)
 exact ⟨I.rd,I.bo,I.sf,I.us⟩;have h:=fm0 h0;unfold slE at h;split at h;split at h;split at h;rename_i g3;exact ⟨I.rd,I.bo,g3,I.us⟩;exact absurd h (by decide)
 exact absurd h (by decide)
 exact absurd h (by decide)
 exact absurd h0 (by decide)
theorem zZ(L:Nat->ByteArray): ∀k,HSt (sK L k)
 | 0=>Zl0
 |k+1=>by
  show HSt (lnS (L k) (sK L k));unfold lnS;split;rename_i h0;exact Xd2 (BE L k) (zZ L k) h0;exact zZ L k
end Go.Proofs.YtakpdkmhclhlnaaGreatDoor.Hd
