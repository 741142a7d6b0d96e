/- Contracts, put together. Conditions: those of each. -/
import Derived.Test.YtakpdkmhclhlnaaGreatDoorMo
import Derived.Shelf.Strings.Builder1
import Derived.Shelf.Strings.Builder2
import Derived.Shelf.Strings.OnBuilder
set_option linter.unusedSimpArgs false
set_option linter.unusedVariables false
set_option maxRecDepth 100000
namespace Go.Proofs.YtakpdkmhclhlnaaGreatDoor.Hd
open Go Go.Shelf Go.Sx Go.RowKit
def nZ:Go.Shelf.Ren:=⟨λ| 169=>48|n=>n,λ| 70=>102| 72=>104| 37=>87| 127=>165|n=>n,λn=>n⟩
theorem Zi8:Go.Proofs.Lays.n169 Tryz.prog nZ:=by
 constructor<;>first|(intro _;kernel_rfl)|kernel_rfl|(constructor<;>first|(intro _;kernel_rfl)|kernel_rfl|(constructor<;>first|(intro _;kernel_rfl)|kernel_rfl))
def fN:Go.Shelf.Ren:=⟨λ| 156=>70| 165=>113| 166=>41| 169=>48| 240=>68| 241=>150| 276=>111| 277=>189|n=>n,λ| 31=>26| 72=>104| 76=>108| 70=>102| 37=>87| 75=>107| 127=>165| 164=>216| 80=>122|n=>n,λn=>n⟩
theorem uR:Go.Proofs.Lays.n156 Tryz.prog fN:=by
 constructor<;>first|(intro _;kernel_rfl)|kernel_rfl|(constructor<;>first|(intro _;kernel_rfl)|kernel_rfl|(constructor<;>first|(intro _;kernel_rfl)|kernel_rfl))
theorem b9:Builder.Extra Tryz.prog fN where
 sizeBuilder:=VT
 liesBuilder:=VT
 t5:=by first|exact Tryz.underlying5|kernel_rfl
 a5:=by first|exact Tryz.isAgg5|kernel_rfl
 z5:=by first|exact Tryz.sizeOf5|(intros;rfl)
 v5:=by first|exact Tryz.zeroValue5|(intros;rfl)
 infoByte:=VT
 cellsByte:=VT
 sizeByte:=VT
 neB5:=by decide
def stO:List AV->ByteArray
 |[.x (.string s)]=>s
 |_=>ByteArray.empty
section
variable (n:Nat)(f:Nat->List AV)
def jQ:Prop:= ∀k,k<n->f k=[.x (.string (stO (f k)))]
def jnB(sep:ByteArray):ByteArray:=⟨(Lib.join (((List.range n).map λk=>stO (f k)).map (·.data.toList)) sep.data.toList).toArray⟩
theorem Xe9(sep:ByteArray)(h0:n<=100000)(h1:jQ n f)(h2:(jnB n f sep).size<=140737488355328):VX VO 70 [.lst 1 n f,.x (.string sep)] (.x (.string (jnB n f sep))):=by
 intro e w args hro hgl FM hr;obtain ⟨u,us,rfl,r1,hr⟩:=hr.cons_inv;obtain ⟨u2,us2,rfl,r2,hr⟩:=hr.cons_inv;obtain rfl:=hr.nil_inv;obtain rfl:=r2.x_inv;cases r1 with
 |lstNil=>
  refine Calls.mono (Any.strings_Join_none uR b9 none 0 sep w) ?_;rintro en w' ⟨rfl,rfl⟩;exact ⟨_,rfl,Below.refl _ _,.x _⟩
 |lst _ _ _ b o cap g g1 g2 g3 g4 g5 g6 g7 g8 ad had=>
  have hl:((List.range n).map λk=>stO (f k)).length=n:=VV
  rcases Nat.eq_zero_or_pos n with rfl|I
  ·refine Calls.mono (Any.strings_Join_none uR b9 (some ad) cap sep w) ?_;rintro en w' ⟨rfl,rfl⟩;exact ⟨_,rfl,Below.refl _ _,.x _⟩
  ·rw [had I];have h:=Any.strings_Join uR b9 b o cap ((List.range n).map λk=>stO (f k)) sep w (λj x hj=>by
    have hj1:=(FR.1 hj).1;have hj2:j<n:=VJ;rw [Bn,List.getElem?_range hj2] at hj;simp only [Bt,HD] at hj;have k1:=g6 j 0 hj2 VJ;have k2:=(g8 j 0 (.x (.string (stO (f j)))) hj2 (by rw [h1 j hj2];rfl)).x_inv
    have e0:o+(j*1+0)=o+j:=VJ;rw [e0,k2,hj] at k1;exact k1) (g2 I) (by rw [hl];omega) (by rw [hl];exact g4) (by
     have e:(Lib.join (((List.range n).map λk=>stO (f k)).map (·.data.toList)) sep.data.toList).length=(jnB n f sep).size:=rfl
     rw [e];exact h2)
   rw [hl] at h;refine Calls.mono h ?_;rintro en w' ⟨rfl,hb⟩;exact ⟨_,rfl,hb,.x _⟩
end
def dW:UW
 |[.lst 1 n f,.x (.string sep)]=>some ([n<=100000,jQ n f,(jnB n f sep).size<=140737488355328],.x (.string (jnB n f sep)))
 |_=>none
theorem tZ:VP VO 70 dW:=by
 refine ⟨(UG Tryz.func70),?_⟩;intro avs ns res h I;unfold dW at h;split at h
 ·cases h;exact Xe9 _ _ _ (I _ VV) (I _ VV) (I _ VV)
 ·cases h
def Xm7:HX:=λavs m nx sv=>match avs with
 |[.ptr q 0]=>match DE m q with
  |some (.cells T l)=>match l with
   |[.x (.pointer none),c]=>match Nat.beq T 104 with
    |true=>some (.leaf (.tup [],qA m q (.cells T [.ptr q 0,c]),nx,sv))
    |false=>none
   |[.ptr q' 0,c]=>match Nat.beq T 104&&Nat.beq q q' with
    |true=>some (.leaf (.tup [],m,nx,sv))
    |false=>none
   |_=>none
  |_=>none
 |_=>none
theorem Zm8:GB VO 68 Xm7:=by
 refine ⟨(UG Tryz.func68),?_⟩;intro avs m nx sv tr Z Q hQ cx w0 TT e ds args w hE hB hm hlv LN hxt hr;unfold Xm7 at Z;split at Z
 ·rename_i q;obtain ⟨v0,l1,rfl,r1,hr⟩:=hr.cons_inv;obtain rfl:=hr.nil_inv;have hv0:v0= .pointer (some ⟨e.blk q,0,none⟩):=by cases r1;rfl
  subst hv0;split at Z
  ·rename_i T l hg;split at Z
   ·rename_i c;split at Z
    ·rename_i hb;obtain rfl:=GX hb;cases Z;obtain ⟨h1,h2,vs,h3,h4⟩:=hm _ (UX hg);obtain ⟨p,us,rfl,t1,h4⟩:=h4.cons_inv;obtain ⟨v,us,rfl,t2,h4⟩:=h4.cons_inv;obtain rfl:=h4.nil_inv;obtain rfl:=t1.x_inv
     dsimp only at h1 h2 h3
     have hc0:w.cell? ⟨e.blk q,0,none⟩=some (.pointer none):=by simp [World.cell?,h3]
     refine Calls.mono (Any.Builder_copyCheck_fresh {uR with} b9.toX72 (e.blk q) w hc0 (by simp [World.shape?,h3];rfl) (by simp [World.frozen?,h3])) ?_
     rintro en w' ⟨rfl,rfl⟩;have RU: ∀b,b≠e.blk q->(w.setCell ⟨e.blk q,0,none⟩ (.pointer (some ⟨e.blk q,0,none⟩))).heap[b]? =w.heap[b]? :=λb hb=>heap_setCell_other _ _ _ _ hb
     have hsz:(w.setCell ⟨e.blk q,0,none⟩ (.pointer (some ⟨e.blk q,0,none⟩))).heap.size=w.heap.size:=VV;have st:=F4 hE h2 hsz RU;have dJ:Below w0.heap.size w0 (w.setCell ⟨e.blk q,0,none⟩ (.pointer (some ⟨e.blk q,0,none⟩))):=hB.setCell (p:=⟨e.blk q,0,none⟩) (hE.owned _ _ h2).1 _;refine ⟨_,_,_,_,_,e,rfl,hQ,L1 hE hsz st,dJ,?_,hlv,LN,hxt.step st,Rep.tupL (U2.nil _ _)⟩;intro p hp;rcases FT hp with rfl|⟨hp,hne⟩
     ·refine ⟨h1,h2,[.pointer (some ⟨e.blk q,0,none⟩),v],?_,.cons (.ptr q 0 h1) (.cons (t2.step st) (.nil _ _))⟩;rw [heap_setCell_same w _ 0 _ _ _ h3];rfl
     ·exact P0 hE h2 hsz RU hne (hm p hp)
    ·cases Z
   ·rename_i q' c;split at Z
    ·rename_i hb;rw [H6] at hb;obtain rfl:=GX hb.1;obtain rfl:=GX hb.2;cases Z;obtain ⟨h1,h2,vs,h3,h4⟩:=hm _ (UX hg);obtain ⟨p,us,rfl,t1,h4⟩:=h4.cons_inv;obtain ⟨v,us,rfl,t2,h4⟩:=h4.cons_inv;obtain rfl:=h4.nil_inv
     dsimp only at h1 h2 h3
     have hp:p= .pointer (some ⟨e.blk q,0,none⟩):=by cases t1;rfl
     subst hp;have hc0:w.cell? ⟨e.blk q,0,none⟩=some (.pointer (some ⟨e.blk q,0,none⟩)):=by simp [World.cell?,h3]
     refine Calls.mono (Any.Builder_copyCheck_used {uR with} b9.toX72 (e.blk q) w hc0) ?_
     rintro en w' ⟨rfl,rfl⟩;exact ⟨_,_,_,_,_,e,rfl,hQ,hE,hB,hm,hlv,LN,hxt,Rep.tupL (U2.nil _ _)⟩
    ·cases Z
   ·cases Z
  ·cases Z
 ·cases Z
set_option maxHeartbeats 1000000 in
theorem Qi5(b g cap:Nat)(p:Value)(cur:Array Value)(l:List UInt8)(w:World)(hbk:w.heap[b]? =some (.cells #[p,.slice (some ⟨g,0,none⟩) l.length cap] 104 (0,0)))(hg:w.heap[g]? =some (.cells cur 5 (0,0)))(h0:l≠[])(hnc:l.length<=cap)(hcm:cap<=maxLen)(hcs:cur.size=cap)
  (gA: ∀j x,l[j]? =some x->w.cell? ⟨g,j,none⟩=some (.int .u8 x.toNat)):
  Calls Tryz.prog 48 #[.pointer (some ⟨b,0,none⟩)] w λe w'=>e= .returned (.string ⟨l.toArray⟩)/\w'=w.drew.freeze ⟨g,0,none⟩ l.length:=by
 have c1:w.drew.cell? ⟨b,1,none⟩=some (.slice (some ⟨g,0,none⟩) l.length cap):=by
  have:w.drew.heap[b]? =some (.cells #[p,.slice (some ⟨g,0,none⟩) l.length cap] 104 (0,0)):=hbk;simp [World.cell?,this]
 have hl0:l.length≠0:=by simpa using h0
 have hSD:(Builtin.unsafeSliceData_ #[87] 165 #[.slice (some ⟨g,0,none⟩) l.length cap]).run Tryz.prog w.drew= .ok (.pointer (some ⟨g,0,none⟩)) w.drew:=
  Lib.run_unsafeSliceData_row _ _ _ _ _ _ VJ
 have hUS:(Builtin.unsafeString_ #[165,3] 9 #[.pointer (some ⟨g,0,none⟩),.int .i64 l.length]).run Tryz.prog w.drew= .ok (.string ⟨l.toArray⟩) (w.drew.freeze ⟨g,0,none⟩ l.length):=by
  refine Lib.run_unsafeString_row w.drew 165 3 9 5 Zi8.t127 VT g cur.size (by have hg':w.drew.heap[g]? =some (.cells cur 5 (0,0)):=hg;simp [World.shape?,hg']) l h0 VJ (by unfold maxLen at hcm;omega) ?_
  intro j x hx;have e:(⟨g,0,none⟩:Addr).add j=⟨g,j,none⟩:=by rw [D7,Ap]
  rw [e];exact gA j x hx
 have GQ:Tryz.prog.follows .mixedOrders=true:=VY
 go_enter Tryz.func48,Tryz.ntmps48
 go_wp2
 go_region_o
 all_goals (go_wp2;go_ret;exact ⟨rfl,rfl⟩)
def Wy1:HX:=λavs m nx sv=>match avs with
 |[.ptr q 0]=>match DE m q with
  |some (.cells T l)=>match l with
   |[_,.row r]=>match DE m r with
    |some (.row T1 sz n f)=>match Nat.beq T 104&&Nat.beq T1 5&&Nat.beq sz 1 with
     |true=>some (.needT [uS n f,0<n] (.leaf (.x (.string (bsO n f)),[],nx,sv)))
     |false=>none
    |_=>none
   |_=>none
  |_=>none
 |_=>none
theorem TS(w:World)(g n x:Nat)(h:x≠g):(w.freeze ⟨g,0,none⟩ n).heap[x]? =w.heap[x]? :=by
 unfold World.freeze;split
 ·rfl
 ·show (w.heap.modify g _)[x]? =_;rw [Array.getElem?_modify];rw [if_neg (λe=>h e.symm)]
theorem iL(w:World)(g n:Nat):(w.freeze ⟨g,0,none⟩ n).heap.size=w.heap.size:=by
 unfold World.freeze;split
 ·rfl
 ·show (w.heap.modify g _).size=_;simp
theorem Qp0(w:World)(g n:Nat):(w.freeze ⟨g,0,none⟩ n).os=w.os/\(w.freeze ⟨g,0,none⟩ n).tape=w.tape/\(w.freeze ⟨g,0,none⟩ n).output=w.output:=by
 unfold World.freeze;split<;>exact ⟨rfl,rfl,rfl⟩
theorem kI:GB VO 48 Wy1:=by
 refine ⟨(UG Tryz.func48),?_⟩;intro avs m nx sv tr Z Q hQ cx w0 TT e ds args w hE hB hm hlv LN hxt hr;unfold Wy1 at Z;split at Z
 ·rename_i q;obtain ⟨v0,l1,rfl,r1,hr⟩:=hr.cons_inv;obtain rfl:=hr.nil_inv;have hv0:v0= .pointer (some ⟨e.blk q,0,none⟩):=by cases r1;rfl
  subst hv0;split at Z
  ·rename_i T l hg;split at Z
   ·rename_i a r;split at Z
    ·rename_i T1 sz n f hg2;split at Z
     ·rename_i hb;rw [H6,H6] at hb;obtain ⟨⟨hb1,hb2⟩,hb3⟩:=hb;obtain rfl:=GX hb1;obtain rfl:=GX hb2;obtain rfl:=GX hb3;cases Z;obtain ⟨I,hq⟩:=VM.sat_needT hQ;have I:=GC I;have n1:uS n f:=I _ VV;have n2:0<n:=I _ VV;obtain ⟨h1,h2,vs,h3,h4⟩:=hm _ (UX hg);obtain ⟨p,us,rfl,t1,h4⟩:=h4.cons_inv;obtain ⟨v,us,rfl,t2,h4⟩:=h4.cons_inv;obtain rfl:=h4.nil_inv
      dsimp only at h1 h2 h3
      obtain ⟨k1,k2,k3,xs,k4,k5⟩:=hm _ (UX hg2)
      dsimp only at k1 k2 k3 k4 k5
      have hv:e.val r=v:=by
       cases t2 with
       |row _ a n c _ hv=>exact hv
      rw [hv] at k2 k4;rcases k4.2 with ⟨_,hz⟩|⟨g,cap,cur,rfl,hbg,hgg,hnc,hcm,hcs,jS⟩
      ·omega
      ·have H5:e.own g=some r:=k2 g rfl;have HU:((List.range n).map λj=>UInt8.ofNat (byO (f j))).length=n:=VV
       have h0:((List.range n).map λj=>UInt8.ofNat (byO (f j)))≠[]:=by
        intro h;rw [h] at HU;simp at HU;omega
       have gA: ∀j x,((List.range n).map λj=>UInt8.ofNat (byO (f j)))[j]? =some x->w.cell? ⟨g,j,none⟩=some (.int .u8 x.toNat):=by
        intro j x hj;have hj1:j<n:=by have:=(FR.1 hj).1;omega
        rw [Bn,List.getElem?_range hj1] at hj;simp only [Bt,HD] at hj;have hxl:xs.length=n:=by have:=k4.1;omega
        have hc1:=k4.cells (g:=g) rfl j xs[j] (HY VJ);have e1:(⟨g,0,none⟩:Addr).add j=⟨g,j,none⟩:=by rw [D7,Ap]
        rw [e1] at hc1;have hc2:=(k5 j 0 (.x (.int .u8 (byO (f j):Int))) xs[j] hj1 (by rw [(n1 j hj1).2];rfl) (by rw [show j*1+0=j by omega];exact HY VJ)).x_inv
        rw [hc1,hc2,←hj,UInt8.toNat_ofNat_of_lt' (n1 j hj1).1]
       have FF:=Qi5 (e.blk q) g cap p cur ((List.range n).map λj=>UInt8.ofNat (byO (f j))) w (by rw [HU];exact h3) hgg h0 (by rw [HU];exact hnc) hcm (by simpa using hcs) gA
       refine FF.mono ?_;rintro en w' ⟨rfl,rfl⟩;rw [HU];have RU: ∀x,x≠g->(w.drew.freeze ⟨g,0,none⟩ n).heap[x]? =w.heap[x]? :=λx hx=>TS w.drew g n x hx
       have hsz:(w.drew.freeze ⟨g,0,none⟩ n).heap.size=w.heap.size:=iL w.drew g n;have hos:=Qp0 w.drew g n;have st:=F4 hE H5 hsz RU;refine ⟨_,_,_,_,_,e,rfl,hq,L1 hE hsz st,⟨hos.1.trans hB.os,hos.2.1.trans hB.tape,hos.2.2.trans hB.output,by rw [hsz];exact hB.size,λx hx=>?_⟩,λp hp=>(by cases hp),hlv,LN,hxt.step st,.x _⟩
       rw [RU x (by have:=(hE.owned _ _ H5).1;omega)]
       exact hB.block x hx
     ·cases Z
    ·cases Z
   ·cases Z
  ·cases Z
 ·cases Z
end Go.Proofs.YtakpdkmhclhlnaaGreatDoor.Hd
namespace Go.Proofs.YtakpdkmhclhlnaaGreatDoor.Hd
open Go Go.Sx Go.RowKit Bo
open Go.Sx.VM (need branch leaf)
open Go.Sx.AV (lst ptr agg roI tup top)
def U6:List ByteArray:=[⟨#[116,104,114,101,97,100,32,48,32,49,32,52,48,32,52,48]⟩,⟨#[116,104,114,101,97,100,32,50,32,51,32,52,56,32,53,48]⟩,⟨#[105,115,115,117,101,32,48,32,52,32,57,48,32,48]⟩,⟨#[98,97,116,104,32,49,48,48,32,51,48,48]⟩,⟨#[115,101,101,32,48,32,50,48,48]⟩,⟨#[115,101,101,32,49,32,50,48,51]⟩,⟨#[98,97,116,104,32,49,48,48,32,51,48,48]⟩,⟨#[115,101,101,32,49,32,50,53,50]⟩,⟨#[115,101,101,32,50,32,50,53,48]⟩,⟨#[115,101,108,108,32,48,32,49,32,54,32,49,32,51]⟩,⟨#[115,101,108,108,32,49,32,50,32,52,32,50,32,50]⟩]
def G9:List ByteArray:=[⟨#[116,104,114,101,97,100,32,48,32,50,32,52,48,32,52,48]⟩,⟨#[105,115,115,117,101,32,48,32,52,32,56,48,32,48]⟩,⟨#[115,101,101,32,48,32,49,48,48]⟩,⟨#[115,116,114,105,107,101,32,49]⟩,⟨#[118,111,105,100,32,48]⟩]
def UM(l:List ByteArray)(k:Nat):ByteArray:=l.getD k ByteArray.empty
def wk1:HS:=thS hs0 0 1 40 40
def wk2:HS:=thS wk1 2 3 48 50
def wk3:HS:=isS wk2 0 4 90 0
def wk4:HS:=btS wk3 100 300
def wk5:HS:=seS wk4 0 200
def wk6:HS:=seS wk5 1 203
def wk7:HS:=btS wk6 100 300
def wk8:HS:=seS wk7 1 252
def wk9:HS:=seS wk8 2 250
def Qi2:HS:=slS wk9 0 1 6 1 3
def VU:HS:=slS Qi2 1 2 4 2 2
theorem Qv4:lnE (UM U6 0) hs0=0:=by decide+kernel
theorem Xo8:DG (lnW (UM U6 0)) hs0=wk1:=VT
theorem Qv3:lnE (UM U6 1) wk1=0:=by decide+kernel
theorem Xo7:DG (lnW (UM U6 1)) wk1=wk2:=VT
theorem Qv2:lnE (UM U6 2) wk2=0:=by decide+kernel
theorem Xo6:DG (lnW (UM U6 2)) wk2=wk3:=VT
theorem Qv1:lnE (UM U6 3) wk3=0:=by decide+kernel
theorem Xo5:DG (lnW (UM U6 3)) wk3=wk4:=VT
theorem Qv0:lnE (UM U6 4) wk4=0:=by decide+kernel
theorem Xo4:DG (lnW (UM U6 4)) wk4=wk5:=VT
theorem Qu9:lnE (UM U6 5) wk5=0:=by decide+kernel
theorem Xo3:DG (lnW (UM U6 5)) wk5=wk6:=VT
theorem Qu8:lnE (UM U6 6) wk6=0:=by decide+kernel
theorem Xo2:DG (lnW (UM U6 6)) wk6=wk7:=VT
theorem Qu7:lnE (UM U6 7) wk7=0:=by decide+kernel
theorem Xo1:DG (lnW (UM U6 7)) wk7=wk8:=VT
theorem Qu6:lnE (UM U6 8) wk8=0:=by decide+kernel
theorem Xo0:DG (lnW (UM U6 8)) wk8=wk9:=VT
theorem Qu5:lnE (UM U6 9) wk9=0:=by decide+kernel
theorem Xn9:DG (lnW (UM U6 9)) wk9=Qi2:=VT
theorem mK:lnE (UM U6 10) Qi2=0:=by decide+kernel
theorem Qt7:DG (lnW (UM U6 10)) Qi2=VU:=VT
theorem Xp0:boE VU.nb VU.ql VU.qh VU.qm VU.qr VU.qv=0:=by decide+kernel
theorem Xo9:boN VU.nb VU.ql VU.qh VU.qm VU.qr VU.qv=3:=by decide+kernel
theorem Qu0:boL VU.nb VU.ql VU.qh VU.qm VU.qr VU.qv 0=0:=by decide+kernel
theorem Qu3:boH VU.nb VU.ql VU.qh VU.qm VU.qr VU.qv 0=0:=by decide+kernel
theorem Qt9:boL VU.nb VU.ql VU.qh VU.qm VU.qr VU.qv 1=1:=by decide+kernel
theorem Qu2:boH VU.nb VU.ql VU.qh VU.qm VU.qr VU.qv 1=5:=by decide+kernel
theorem Qt8:boL VU.nb VU.ql VU.qh VU.qm VU.qr VU.qv 2= -3:=by decide+kernel
theorem Qu1:boH VU.nb VU.ql VU.qh VU.qm VU.qr VU.qv 2=5:=by decide+kernel
theorem Qt6:stP VU 0 0=true:=by decide+kernel
theorem Qu4:zI VU.ns VU.sa VU.sb VU.sc VU.sl VU.sh=true:=by decide+kernel
theorem Qv6:caB VU.ns VU.sa VU.sb VU.sc VU.sl VU.sh 1 0=true:=by decide+kernel
theorem Qv5:caB VU.ns VU.sa VU.sb VU.sc VU.sl VU.sh 1 1=true:=by decide+kernel
theorem Zb3:caB VU.ns VU.sa VU.sb VU.sc VU.sl VU.sh 1 2=false:=by decide+kernel
theorem Zb2:caB VU.ns VU.sa VU.sb VU.sc VU.sl VU.sh 1 3=false:=by decide+kernel
theorem Qt5:suB VU.ns VU.sa VU.sb VU.sc VU.sl VU.sh 1 0=true:=by decide+kernel
theorem Xz6:suB VU.ns VU.sa VU.sb VU.sc VU.sl VU.sh 1 1=false:=by decide+kernel
theorem Xz5:suB VU.ns VU.sa VU.sb VU.sc VU.sl VU.sh 1 2=false:=by decide+kernel
theorem Xz4:suB VU.ns VU.sa VU.sb VU.sc VU.sl VU.sh 1 3=false:=by decide+kernel
theorem Zv6:hdN 4 100 20 30 VU.nr VU.ra VU.rb VU.ru VU.rv 3 tbP tbQ VU.pl VU.ph 1 3 0=5:=by decide+kernel
theorem Za6:onL (wkA 4 100 20 30 VU.nr VU.ra VU.rb VU.ru VU.rv 3 tbP tbQ VU.pl VU.ph 1 3) 0 0=0:=by decide+kernel
theorem Zb1:onH (wkA 4 100 20 30 VU.nr VU.ra VU.rb VU.ru VU.rv 3 tbP tbQ VU.pl VU.ph 1 3) 0 0=0:=by decide+kernel
theorem Za5:onL (wkA 4 100 20 30 VU.nr VU.ra VU.rb VU.ru VU.rv 3 tbP tbQ VU.pl VU.ph 1 3) 1 0=200:=by decide+kernel
theorem Zb0:onH (wkA 4 100 20 30 VU.nr VU.ra VU.rb VU.ru VU.rv 3 tbP tbQ VU.pl VU.ph 1 3) 1 0=300:=by decide+kernel
theorem Za4:onL (wkA 4 100 20 30 VU.nr VU.ra VU.rb VU.ru VU.rv 3 tbP tbQ VU.pl VU.ph 1 3) 2 0=410:=by decide+kernel
theorem Za9:onH (wkA 4 100 20 30 VU.nr VU.ra VU.rb VU.ru VU.rv 3 tbP tbQ VU.pl VU.ph 1 3) 2 0=510:=by decide+kernel
theorem Za3:onL (wkA 4 100 20 30 VU.nr VU.ra VU.rb VU.ru VU.rv 3 tbP tbQ VU.pl VU.ph 1 3) 3 0=700:=by decide+kernel
theorem Za8:onH (wkA 4 100 20 30 VU.nr VU.ra VU.rb VU.ru VU.rv 3 tbP tbQ VU.pl VU.ph 1 3) 3 0=800:=by decide+kernel
theorem Za2:onL (wkA 4 100 20 30 VU.nr VU.ra VU.rb VU.ru VU.rv 3 tbP tbQ VU.pl VU.ph 1 3) 4 0=1000:=by decide+kernel
theorem Za7:onH (wkA 4 100 20 30 VU.nr VU.ra VU.rb VU.ru VU.rv 3 tbP tbQ VU.pl VU.ph 1 3) 4 0=1000:=by decide+kernel
theorem Za1:(hoS VU.ns VU.sa VU.sb VU.sc VU.sl VU.sh 0 100).1=4:=by decide+kernel
theorem Za0:(hoS VU.ns VU.sa VU.sb VU.sc VU.sl VU.sh 1 100).1=2:=by decide+kernel
theorem Xz9:(hoS VU.ns VU.sa VU.sb VU.sc VU.sl VU.sh 2 100).1=4:=by decide+kernel
theorem Xz8:(hoS VU.ns VU.sa VU.sb VU.sc VU.sl VU.sh 3 100).1=0:=by decide+kernel
def PE{α:Type}:VM α->VM α
 | .fail=> .fail
 | .leaf a=> .leaf a
 | .branch b t f=>match b with
  |true=>PE t
  |false=>PE f
 | .need ps t=> .need ps (PE t)
 | .may p t f=> .may p (PE t) (PE f)
def Xi7(sp:UI):UI:=λs=>match sp s with
 |some t=>some (PE t)
 |none=>none
section
variable (n:Nat)(f:Nat->List AV)
def byB:Bool:=D5 (λj=>match f j with
 |[.x (.int .u8 c)]=>decide (0<=c)&&decide (c<256)
 |_=>false) n
def Zx2:Bool:=D5 (λj=>match f j with
 |[.x (.string _)]=>true
 |_=>false) n
end
theorem H2{α:Type}{Q:α->Prop}: ∀{t:VM α},(PE t).sat Q->t.sat Q
 | .fail,h=>h
 | .leaf _,h=>h
 | .branch true _ _,h=>⟨λ_=>H2 h,λe=>Bool.noConfusion e⟩
 | .branch false _ _,h=>⟨λe=>Bool.noConfusion e,λ_=>H2 h⟩
 | .need _ _,h=>⟨h.1,H2 h.2⟩
 | .may _ _ _,h=>⟨λp=>H2 (h.1 p),H2 h.2⟩
theorem Zm2{P:Program}{ro:Option Nat}{cx:Cx}{c:Code}{sp:UI}(h:HI P ro cx c sp):HI P ro cx c (Xi7 sp):=by
 intro n s t Z Q hQ a w r;unfold Xi7 at Z;split at Z
 ·rename_i t0 h0;cases Z;exact h n s t0 h0 Q (H2 hQ) a w r
 ·cases Z
section
variable {n:Nat}{f:Nat->List AV}
theorem pK(h:byB n f=true):uS n f:=by
 intro j hj;have h1:=GR.1 h j hj;split at h1
 ·rename_i c hc;rw [H6,kD,kD] at h1;rw [hc];have e:byO [.x (.int .u8 c)]=c.toNat:=rfl;rw [e];refine ⟨VJ,?_⟩;rw [show ((c.toNat:Nat):Int)=c by omega]
 ·cases h1
theorem bI(h:Zx2 n f=true):jQ n f:=by
 intro j hj;have h1:=GR.1 h j hj;split at h1
 ·rename_i s hc;rw [hc];rfl
 ·cases h1
end
noncomputable def Wy3:HX:=dG Tryz.prog [] {R:=[],H:=[(68,Xm7)] } [] Tryz.f41 (U7 Tryz.f41)
theorem Xk3:GB VO 41 Wy3:=
 FW (G:=[]) (X:={R:=[],H:=[(68,Xm7)] }) (L:=[]) Aa (Ai Ab (Ag Zm8 Ac)) VY (UG Tryz.func41) Tryz.func41 (UT Tryz.f41) U3
noncomputable def f8:HX:=dG Tryz.prog [(69,dX),(70,dW)] WA [(Xi7 (λs=>some (kH Tryz.prog [(69,dX),(70,dW)] WA [] (U9 (VS (U7 Tryz.f42) 0)) 10 s)))] Tryz.f42 (U7 Tryz.f42)
theorem eX:GB VO 42 f8:=
 FW (G:=[(69,dX),(70,dW)]) (X:=WA) (L:=[(Xi7 (λs=>some (kH Tryz.prog [(69,dX),(70,dW)] WA [] (U9 (VS (U7 Tryz.f42) 0)) 10 s)))]) (Ae TH (Ae tZ Aa)) Ad VY (UG Tryz.func42) Tryz.func42 (UT Tryz.f42) (G0 (lpE (b:= .loop (U9 (VS (U7 Tryz.f42) 0))) VT<|λro cx=>Zm2 (yD (Ae TH (Ae tZ Aa)) (Ad cx) VY (λj cj hj sp hsp=>by simp at hsp) 10)))
noncomputable def Wy2:HX:=dG Tryz.prog [] {R:=[],H:=[(42,f8),(41,Wy3)] } [] Tryz.f40 (U7 Tryz.f40)
theorem x9:GB VO 40 Wy2:=
 FW (G:=[]) (X:={R:=[],H:=[(42,f8),(41,Wy3)] }) (L:=[]) Aa (Ai Ab (Ag eX (Ag Xk3 Ac))) VY (UG Tryz.func40) Tryz.func40 (UT Tryz.f40) U3
def A4:UW
 |[.x (.int .i64 a),.x (.int .i64 b)]=>some ([0<=a/\a<=1000\/ -1000<=a/\a<=1000,-1000<=b/\b<=1000,((⟨(Lib.itoa a).toArray⟩:ByteArray)++⟨#[46,46]⟩).size+(⟨(Lib.itoa b).toArray⟩:ByteArray).size<=100],.x (.string ((⟨(Lib.itoa a).toArray⟩++⟨#[46,46]⟩)++⟨(Lib.itoa b).toArray⟩)))
 |_=>none
theorem Wj9(a b:Int)(VR:0<=a/\a<=1000\/ -1000<=a/\a<=1000)(UE: -1000<=b/\b<=1000)(HQ:((⟨(Lib.itoa a).toArray⟩:ByteArray)++⟨#[46,46]⟩).size+(⟨(Lib.itoa b).toArray⟩:ByteArray).size<=100):VX VO 45 [i a,i b] (.x (.string ((⟨(Lib.itoa a).toArray⟩++⟨#[46,46]⟩)++⟨(Lib.itoa b).toArray⟩))):=by
 refine U1 (L:=[]) (Ae TH Aa) VY Tryz.func45 (UT Tryz.f45) U3 (t:=need [VL a] (need [(↑(ByteArray.size {data:=List.toArray (Lib.itoa a) }+ByteArray.size {data:=#[46,46] }):Int)<=9223372036854775807] (need [VL b] (need [(↑(ByteArray.size ({data:=List.toArray (Lib.itoa a) }++{data:=#[46,46] })+ByteArray.size {data:=List.toArray (Lib.itoa b) }):Int)<=9223372036854775807] (leaf (RV.x (.string ({data:=List.toArray (Lib.itoa a) }++{data:=#[46,46] }++{data:=List.toArray (Lib.itoa b) })))))))) VT ?_;rw [Av] at HQ;simp only [VM.sat,UB,G4,UD,UH,VL,Av];all_goals exact V6
theorem x8:VP VO 45 A4:=by
 refine ⟨(UG Tryz.func45),?_⟩;intro avs ns res h I;unfold A4 at h;split at h
 ·cases h;exact Wj9 _ _ (I _ VV) (I _ VV) (I _ VV)
 ·cases h
def Zf6:ByteArray:=⟨#[114,101,97,100,105,110,103,115,32,50,32,98,97,116,104,115,32,50,32,99,101,114,116,105,102,105,99,97,116,101,115,32,49,32,115,97,108,101,115,32,50,10,109,97,114,107,115,32,48,46,46,48,32,50,48,48,46,46,51,48,48,32,52,49,48,46,46,53,49,48,32,55,48,48,46,46,56,48,48,32,49,48,48,48,46,46,49,48,48,48,10,111,102,102,115,101,116,115,32,48,46,46,48,32,49,46,46,53,32,45,51,46,46,53,10,115,116,97,110,100,32,48,10,104,111,108,100,32,52,32,50,32,52,32,48,10]⟩
def sB:UW:=λl=>some ([l=[lns 11 (UM U6)]],i 0)
def Qf9:DA:=λl=>some (.need [l=[lns 11 (UM U6)]] (.leaf (.tup [.ro (hsL VU),.lst 1 11 (exG (UM U6))])))
def Ww3:UW:=λl=>some ([l=[.agg [i 4,i 100,i 20,i 30,hsR VU,.lst 2 3 (λk=>[i (tbP k),i (tbQ k)]),i VU.pl,i VU.ph,i 1,i 3],i 0]],.tup [.lst 2 5 (λk=>[i (U8 [0,200,410,700,1000] k),i (U8 [0,300,510,800,1000] k)]),i 0])
def s9:UW:=λl=>some ([l=[.agg [ofs,i 1,hsB VU]]],.tup [.lst 2 3 (λk=>[i (U8 [0,1,-3] k),i (U8 [0,5,5] k)]),i 0])
def s8:UW:=λl=>some ([l=[.agg (hsL VU),.agg [i (VU.ca 0),i (VU.cb 0),i (VU.cc 0),i (VU.cd 0),bl (VU.cv 0)],i (VU.cd 0)]],bl true)
def Ww2:DA:=λl=>match l with
 |[b,.x (.int .i64 ow),d]=>some (.need [b= .agg [i 4,i 10,hsS VU],d=i 100,0<=ow/\ow<=3] (.leaf (.tup [.agg [i (U8 [4,2,4,0] ow.toNat),i (hoS VU.ns VU.sa VU.sb VU.sc VU.sl VU.sh ow 100).2],i 0])))
 |_=>none
theorem Zv5:sK (UM U6) 0=hs0:=rfl
theorem Zv4:sK (UM U6) 1=wk1:=by
 show lnS (UM U6 0) (sK (UM U6) 0)=_;rw [Zv5];unfold lnS;rw [if_pos Qv4];exact Xo8
theorem Zv3:sK (UM U6) 2=wk2:=by
 show lnS (UM U6 1) (sK (UM U6) 1)=_;rw [Zv4];unfold lnS;rw [if_pos Qv3];exact Xo7
theorem Zv2:sK (UM U6) 3=wk3:=by
 show lnS (UM U6 2) (sK (UM U6) 2)=_;rw [Zv3];unfold lnS;rw [if_pos Qv2];exact Xo6
theorem Zv1:sK (UM U6) 4=wk4:=by
 show lnS (UM U6 3) (sK (UM U6) 3)=_;rw [Zv2];unfold lnS;rw [if_pos Qv1];exact Xo5
theorem Zv0:sK (UM U6) 5=wk5:=by
 show lnS (UM U6 4) (sK (UM U6) 4)=_;rw [Zv1];unfold lnS;rw [if_pos Qv0];exact Xo4
theorem Zu9:sK (UM U6) 6=wk6:=by
 show lnS (UM U6 5) (sK (UM U6) 5)=_;rw [Zv0];unfold lnS;rw [if_pos Qu9];exact Xo3
theorem Zu8:sK (UM U6) 7=wk7:=by
 show lnS (UM U6 6) (sK (UM U6) 6)=_;rw [Zu9];unfold lnS;rw [if_pos Qu8];exact Xo2
theorem Zu7:sK (UM U6) 8=wk8:=by
 show lnS (UM U6 7) (sK (UM U6) 7)=_;rw [Zu8];unfold lnS;rw [if_pos Qu7];exact Xo1
theorem Zu6:sK (UM U6) 9=wk9:=by
 show lnS (UM U6 8) (sK (UM U6) 8)=_;rw [Zu7];unfold lnS;rw [if_pos Qu6];exact Xo0
theorem Xz7:sK (UM U6) 10=Qi2:=by
 show lnS (UM U6 9) (sK (UM U6) 9)=_;rw [Zu6];unfold lnS;rw [if_pos Qu5];exact Xn9
theorem A9:sK (UM U6) 11=VU:=by
 show lnS (UM U6 10) (sK (UM U6) 10)=_;rw [Xz7];unfold lnS;rw [if_pos mK];exact Qt7
theorem bC:ckE 11 (UM U6)=0:=by decide+kernel
theorem kZ:VP VO 35 sB:=by
 refine ⟨(UG Tryz.func35),?_⟩;intro avs ns res h I;cases h;have e:avs=[lns 11 (UM U6)]:=I _ GG;subst e;have h1:=NW 11 (UM U6) VJ;rw [bC] at h1;exact h1
theorem wW:Sx.Enters Tryz.prog 37/\ ∀avs t,Qf9 avs=some t->UN VO 37 avs t:=by
 refine ⟨(UG Tryz.func37),?_⟩;intro avs t h;cases h;intro Q hQ;have e:avs=[lns 11 (UM U6)]:=hQ.1;subst e;have hk:=jZ bC;have h1:=eS 11 (UM U6) hk.1 (λk h=>by have:=hk.2 k h;omega) Q
 rw [A9] at h1;exact h1 hQ.2
theorem kW:PF VO 43 Ww3:=by
 refine ⟨(UG Tryz.func43),?_⟩;intro avs ns res h I;cases h;have e:avs=[.agg [i 4,i 100,i 20,i 30,hsR VU,.lst 2 3 (λk=>[i (tbP k),i (tbQ k)]),i VU.pl,i VU.ph,i 1,i 3],i 0]:=I _ GG
 subst e;intro e w args q1 q2 q3 q4;refine (vV 4 100 20 30 VU.nr VU.ra VU.rb VU.ru VU.rv 3 tbP tbQ VU.pl VU.ph 1 3 0 e w args q1 q2 q3 q4).mono ?_;rintro en w' ⟨v,rfl,g1,g2⟩;refine ⟨v,rfl,g1,RY ?_ g2⟩;rw [show hdE 4 100 20 30 VU.nr VU.ra VU.rb VU.ru VU.rv 3 tbP tbQ VU.pl VU.ph 1 3 0=0 by decide+kernel]
 refine ⟨⟨rfl,Zv6,λk hk=>?_⟩,⟨rfl,rfl⟩,Ak⟩
 rcases (show k=0\/k=1\/k=2\/k=3\/k=4 by omega) with rfl|rfl|rfl|rfl|rfl
 ·show [i _,i _]=_;rw [Za6,Zb1];rfl
 ·show [i _,i _]=_;rw [Za5,Zb0];rfl
 ·show [i _,i _]=_;rw [Za4,Za9];rfl
 ·show [i _,i _]=_;rw [Za3,Za8];rfl
 ·show [i _,i _]=_;rw [Za2,Za7];rfl
theorem bB:fB VU:=by
 have h:=jB (UM U6) 11;rw [A9] at h;exact h
theorem kS:VP VO 19 s9:=by
 refine ⟨(UG Tryz.func19),?_⟩;intro avs ns res h I;cases h;have e:avs=[.agg [ofs,i 1,hsB VU]]:=I _ GG;subst e;intro e w args q1 q2 q3 q4;refine (kA VU.nb VU.ql VU.qh VU.qm VU.qr VU.qv bB.bV e w args q1 q2 q3 q4).mono ?_;rintro en w' ⟨v,rfl,g1,g2⟩;refine ⟨v,rfl,g1,RY ?_ g2⟩;rw [Xp0];refine ⟨⟨rfl,Xo9,λk hk=>?_⟩,⟨rfl,rfl⟩,Ak⟩
 rcases (show k=0\/k=1\/k=2 by omega) with rfl|rfl|rfl
 ·show [i _,i _]=_;rw [Qu0,Qu3];rfl
 ·show [i _,i _]=_;rw [Qt9,Qu2];rfl
 ·show [i _,i _]=_;rw [Qt8,Qu1];rfl
theorem kJ:VP VO 38 s8:=by
 refine ⟨(UG Tryz.func38),?_⟩;intro avs ns res h I;cases h;have e:avs=[.agg (hsL VU),.agg [i (VU.ca 0),i (VU.cb 0),i (VU.cc 0),i (VU.cd 0),bl (VU.cv 0)],i (VU.cd 0)]:=I _ GG;subst e;have h1:=EL VU (VU.ca 0) (VU.cb 0) (VU.cc 0) (VU.cd 0) (VU.cv 0) (VU.cd 0);have h2:stB VU (VU.ca 0) (VU.cb 0) (VU.cc 0) (VU.cd 0) (VU.cv 0) (VU.cd 0)=true:=by
  have h3:VU.cd 0=0:=VT;have h4:=Qt6;unfold stP at h4;rw [h3] at h4 ⊢;exact h4
 rw [h2] at h1;exact h1
theorem dH:Sx.Enters Tryz.prog 47/\ ∀avs t,Ww2 avs=some t->UN VO 47 avs t:=by
 refine ⟨(UG Tryz.func47),?_⟩;intro avs t h;unfold Ww2 at h;split at h
 ·rename_i b ow d;cases h;intro Q hQ;obtain ⟨⟨e1,e2,e3,_⟩,hq⟩:=hQ;subst e1 e2;refine Qk2 VU.ns VU.sa VU.sb VU.sc VU.sl VU.sh ow 100 bB.sV Q ?_;have hb:(bt 0 ow 3&&bt 0 100 100)=true:=by
   rw [H6,Bo.bt_iff,Bo.bt_iff];omega
  refine ⟨λ_=>⟨λh=>?_,λ_=>?_⟩,λh=>Bool.noConfusion (hb.symm.trans h)⟩
  ·rw [Qu4] at h;exact Bool.noConfusion h
  ·have ho:(hoS VU.ns VU.sa VU.sb VU.sc VU.sl VU.sh ow 100).1=U8 [4,2,4,0] ow.toNat:=by
    rcases (show ow=0\/ow=1\/ow=2\/ow=3 by omega) with rfl|rfl|rfl|rfl
    ·exact Za1
    ·exact Za0
    ·exact Xz9
    ·exact Xz8
   show Q _;rw [ho];exact hq
 ·cases h
def wvS(s:ByteArray):AV:= .x (.iface 9 (.string s))
def wvI(n:Int):AV:= .x (.iface 3 (.int .i64 n))
def GY(l:List AV)(k:Nat):List AV:=[l.getD k .top]
def wl0:List AV:=[wvS ⟨#[109,97,114,107,115]⟩,wvS ⟨#[48,46,46,48]⟩,wvS ⟨#[50,48,48,46,46,51,48,48]⟩,wvS ⟨#[52,49,48,46,46,53,49,48]⟩,wvS ⟨#[55,48,48,46,46,56,48,48]⟩,wvS ⟨#[49,48,48,48,46,46,49,48,48,48]⟩]
def wl1:List AV:=[wvS ⟨#[111,102,102,115,101,116,115]⟩,wvS ⟨#[48,46,46,48]⟩,wvS ⟨#[49,46,46,53]⟩,wvS ⟨#[45,51,46,46,53]⟩]
def wl2:List AV:=[wvS ⟨#[115,116,97,110,100]⟩,wvI 0]
def wl3:List AV:=[wvS ⟨#[104,111,108,100]⟩,wvI 4,wvI 2,wvI 4,wvI 0]
def rp0:ByteArray:=⟨#[114,101,97,100,105,110,103,115,32,50,32,98,97,116,104,115,32,50,32,99,101,114,116,105,102,105,99,97,116,101,115,32,49,32,115,97,108,101,115,32,50,10]⟩
def rp1:ByteArray:=⟨#[114,101,97,100,105,110,103,115,32,50,32,98,97,116,104,115,32,50,32,99,101,114,116,105,102,105,99,97,116,101,115,32,49,32,115,97,108,101,115,32,50,10,109,97,114,107,115,32,48,46,46,48,32,50,48,48,46,46,51,48,48,32,52,49,48,46,46,53,49,48,32,55,48,48,46,46,56,48,48,32,49,48,48,48,46,46,49,48,48,48,10]⟩
def rp2:ByteArray:=⟨#[114,101,97,100,105,110,103,115,32,50,32,98,97,116,104,115,32,50,32,99,101,114,116,105,102,105,99,97,116,101,115,32,49,32,115,97,108,101,115,32,50,10,109,97,114,107,115,32,48,46,46,48,32,50,48,48,46,46,51,48,48,32,52,49,48,46,46,53,49,48,32,55,48,48,46,46,56,48,48,32,49,48,48,48,46,46,49,48,48,48,10,111,102,102,115,101,116,115,32,48,46,46,48,32,49,46,46,53,32,45,51,46,46,53,10]⟩
def rp3:ByteArray:=⟨#[114,101,97,100,105,110,103,115,32,50,32,98,97,116,104,115,32,50,32,99,101,114,116,105,102,105,99,97,116,101,115,32,49,32,115,97,108,101,115,32,50,10,109,97,114,107,115,32,48,46,46,48,32,50,48,48,46,46,51,48,48,32,52,49,48,46,46,53,49,48,32,55,48,48,46,46,56,48,48,32,49,48,48,48,46,46,49,48,48,48,10,111,102,102,115,101,116,115,32,48,46,46,48,32,49,46,46,53,32,45,51,46,46,53,10,115,116,97,110,100,32,48,10]⟩
def rp4:ByteArray:=⟨#[114,101,97,100,105,110,103,115,32,50,32,98,97,116,104,115,32,50,32,99,101,114,116,105,102,105,99,97,116,101,115,32,49,32,115,97,108,101,115,32,50,10,109,97,114,107,115,32,48,46,46,48,32,50,48,48,46,46,51,48,48,32,52,49,48,46,46,53,49,48,32,55,48,48,46,46,56,48,48,32,49,48,48,48,46,46,49,48,48,48,10,111,102,102,115,101,116,115,32,48,46,46,48,32,49,46,46,53,32,45,51,46,46,53,10,115,116,97,110,100,32,48,10,104,111,108,100,32,52,32,50,32,52,32,48,10]⟩
def eqBy(n:Nat)(F:Nat->List AV)(B:ByteArray):Bool:=D5 (λj=>match F j with
 |[.x (.int .u8 c)]=>decide (c=byN B j)
 |_=>false) n
theorem Qb3{n:Nat}{F:Nat->List AV}{B:ByteArray}(h:eqBy n F B=true): ∀i,i<n->F i=DN B i:=by
 intro j hj;have h1:=GR.1 h j hj;split at h1
 ·rename_i c hc;rw [hc,qJ h1];rfl
 ·cases h1
theorem ltM{n:Nat}{f g:Nat->List AV}(h:(List.range n).map f=(List.range n).map g): ∀i,i<n->f i=g i:=λi O=>by
 have e:=congrArg (λl=>l[i]?) h
 simpa [O] using e
abbrev JJ:GZ:=[(920,.row 20 1 1 (GY wl0)),(921,.row 20 1 1 (GY wl1)),(922,.row 20 1 1 (GY wl2)),(923,.row 20 1 1 (GY wl3)),(911,.row 5 1 42 (DN rp0)),(14,.cells 104 [.ptr 14 0,.row 911])]
def rB(z:Nat):St:=((some {σ:=mkS 198 [(0,.top),(5,.ro (hsL VU)),(7,.ptr 14 0),(8,.fn (.func 40) [] [.ptr 14 0]),(9,.row 920),(10,.row 921),(11,.row 922),(12,.row 923),(91,.lst 2 5 (λk=>[i (U8 [0,200,410,700,1000] k),i (U8 [0,300,510,800,1000] k)])),(92,i 5),(93,i 0)],m:=JJ,nx:=930}:Option St):Option St).getD {σ:=[],m:=[],nx:=0}
noncomputable def rD:Code:=U9 (VS (U7 Tryz.f12) 0)
abbrev WW:GZ:=[(920,.row 20 1 6 (GY wl0)),(921,.row 20 1 1 (GY wl1)),(922,.row 20 1 1 (GY wl2)),(923,.row 20 1 1 (GY wl3)),(911,.row 5 1 42 (DN rp0)),(14,.cells 104 [.ptr 14 0,.row 911])]
section
variable (z:Nat)
def DQ:Nat->St
 | 0=>{σ:=H4 [(91,.lst 2 5 (λk=>[i (U8 [0,200,410,700,1000] k),i (U8 [0,300,510,800,1000] k)])),(92,i 5),(93,i 0)] (rB z).σ,m:=JJ,nx:=930}
 | 1=>{σ:=H4 [(91,.lst 2 5 (λk=>[i (U8 [0,200,410,700,1000] k),i (U8 [0,300,510,800,1000] k)])),(92,i 5),(93,i 1)] (rB z).σ,m:=[(920,.row 20 1 2 (GY wl0)),(921,.row 20 1 1 (GY wl1)),(922,.row 20 1 1 (GY wl2)),(923,.row 20 1 1 (GY wl3)),(911,.row 5 1 42 (DN rp0)),(14,.cells 104 [.ptr 14 0,.row 911])],nx:=930}
 | 2=>{σ:=H4 [(91,.lst 2 5 (λk=>[i (U8 [0,200,410,700,1000] k),i (U8 [0,300,510,800,1000] k)])),(92,i 5),(93,i 2)] (rB z).σ,m:=[(920,.row 20 1 3 (GY wl0)),(921,.row 20 1 1 (GY wl1)),(922,.row 20 1 1 (GY wl2)),(923,.row 20 1 1 (GY wl3)),(911,.row 5 1 42 (DN rp0)),(14,.cells 104 [.ptr 14 0,.row 911])],nx:=930}
 | 3=>{σ:=H4 [(91,.lst 2 5 (λk=>[i (U8 [0,200,410,700,1000] k),i (U8 [0,300,510,800,1000] k)])),(92,i 5),(93,i 3)] (rB z).σ,m:=[(920,.row 20 1 4 (GY wl0)),(921,.row 20 1 1 (GY wl1)),(922,.row 20 1 1 (GY wl2)),(923,.row 20 1 1 (GY wl3)),(911,.row 5 1 42 (DN rp0)),(14,.cells 104 [.ptr 14 0,.row 911])],nx:=930}
 | 4=>{σ:=H4 [(91,.lst 2 5 (λk=>[i (U8 [0,200,410,700,1000] k),i (U8 [0,300,510,800,1000] k)])),(92,i 5),(93,i 4)] (rB z).σ,m:=[(920,.row 20 1 5 (GY wl0)),(921,.row 20 1 1 (GY wl1)),(922,.row 20 1 1 (GY wl2)),(923,.row 20 1 1 (GY wl3)),(911,.row 5 1 42 (DN rp0)),(14,.cells 104 [.ptr 14 0,.row 911])],nx:=930}
 |_=>{σ:=H4 [(91,.lst 2 5 (λk=>[i (U8 [0,200,410,700,1000] k),i (U8 [0,300,510,800,1000] k)])),(92,i 5),(93,i 5)] (rB z).σ,m:=WW,nx:=930}
def DI:G7->Option St
 | .exit 0=>some {σ:=H4 [(91,.lst 2 5 (λk=>[i (U8 [0,200,410,700,1000] k),i (U8 [0,300,510,800,1000] k)])),(92,i 5),(93,i 5)] (rB z).σ,m:=WW,nx:=930}
 |_=>none
def IP:CT:= .leaf (.exit 0,(DI z (.exit 0)).getD (rB z))
abbrev QF:List (Pl×Nat×TypeId×Nat):=[(.slot 9,920,20,1),(.slot 10,921,20,1),(.slot 11,922,20,1),(.slot 12,923,20,1),(.cell 14 1,911,5,1)]
def Wx4:UI:=GK QF (HG (DQ z 0) (IP z))
abbrev Q6:Prop:=AV.ro [hR 2 VU,iI VU.pl,iI VU.ph,hY 2 VU,hC 1 VU,hT 2 VU]=AV.ro [hR 2 VU,iI VU.pl,iI VU.ph,hY 2 VU,hC 1 VU,hT 2 VU]
noncomputable abbrev Q9:Ext:={R:=[(43,Ww3),(44,L5),(46,xN),(39,IT)],H:=[(40,Wy2),(48,Wy1)],C:=[(37,Qf9),(47,Ww2)] }
abbrev QG:List Int:=[(0:Int),200,410,700,1000]
abbrev QJ:List Int:=[(0:Int),300,510,800,1000]
abbrev QN:Prop:=AV.fn (Fn.func 40) [] [ptr 14 0]=AV.fn (Fn.func 40) [] [ptr 14 0]
abbrev QW:List (Nat×UW):=[(35,sB),(19,s9),(38,s8),(45,A4)]
abbrev WC:Prop:=ptr 14 0=ptr 14 0
abbrev WR:AV:=lst 2 5 λk=>[iI (U8 QG k),iI (U8 QJ k)]
abbrev WZ:Prop:=AV.row 911=AV.row 911
abbrev XY:Prop:=AV.row 920=AV.row 920
abbrev XZ:Prop:=AV.row 921=AV.row 921
abbrev Z0:Prop:=AV.row 922=AV.row 922
abbrev Z1:Prop:=AV.row 923=AV.row 923
theorem Zf4:PE (HV VO QW Q9 [] QF rD (DQ z 0) (DQ z 1) (DI z))=(let A:=([AV.x (.iface 9 (.string ({data:=List.toArray (Lib.itoa (U8 QG (0:Int).toNat)) }++{data:=#[46,46] }++{data:=List.toArray (Lib.itoa (U8 QJ (0:Int).toNat)) })))]);(need [UJ 0 5] (need [(0:Int)<=U8 QG (0:Int).toNat/\U8 QG (0:Int).toNat<=1000\/(-1000:Int)<=U8 QG (0:Int).toNat/\U8 QG (0:Int).toNat<=1000,(-1000:Int)<=U8 QJ (0:Int).toNat/\U8 QJ (0:Int).toNat<=1000,4<=100] (need [32<=140737488355328,∀(i:Nat),i<1-> ∀(a:AV),a∈U4 1 A i->AV.one a=true] (need [VL ((0:Int)+1)] (need [Q6,WC,QN,XY,XZ,Z0,Z1,WR=WR,J5,(0:Int)+1=1,2=2,GU 2 (GE 1 (GY wl0) (U4 1 A)) (GY wl0),1=1,GO 1 (GY wl1),1=1,GO 1 (GY wl2),1=1,GO 1 (GY wl3),42=42,GO 42 (DN rp0),WC,WZ] (leaf G7.normal))))))):=by
 kernel_rfl
theorem Zf3:PE (HV VO QW Q9 [] QF rD (DQ z 1) (DQ z 2) (DI z))=(let A:=([AV.x (.iface 9 (.string ({data:=List.toArray (Lib.itoa (U8 QG (1:Int).toNat)) }++{data:=#[46,46] }++{data:=List.toArray (Lib.itoa (U8 QJ (1:Int).toNat)) })))]);(need [UJ 1 5] (need [(0:Int)<=U8 QG (1:Int).toNat/\U8 QG (1:Int).toNat<=1000\/(-1000:Int)<=U8 QG (1:Int).toNat/\U8 QG (1:Int).toNat<=1000,(-1000:Int)<=U8 QJ (1:Int).toNat/\U8 QJ (1:Int).toNat<=1000,8<=100] (need [48<=140737488355328,∀(i:Nat),i<1-> ∀(a:AV),a∈U4 1 A i->AV.one a=true] (need [VL ((1:Int)+1)] (need [Q6,WC,QN,XY,XZ,Z0,Z1,WR=WR,J5,(1:Int)+1=2,3=3,GU 3 (GE 2 (GY wl0) (U4 1 A)) (GY wl0),1=1,GO 1 (GY wl1),1=1,GO 1 (GY wl2),1=1,GO 1 (GY wl3),42=42,GO 42 (DN rp0),WC,WZ] (leaf G7.normal))))))):=by
 kernel_rfl
theorem Zf2:PE (HV VO QW Q9 [] QF rD (DQ z 2) (DQ z 3) (DI z))=(let A:=([AV.x (.iface 9 (.string ({data:=List.toArray (Lib.itoa (U8 QG (2:Int).toNat)) }++{data:=#[46,46] }++{data:=List.toArray (Lib.itoa (U8 QJ (2:Int).toNat)) })))]);(need [UJ 2 5] (need [(0:Int)<=U8 QG (2:Int).toNat/\U8 QG (2:Int).toNat<=1000\/(-1000:Int)<=U8 QG (2:Int).toNat/\U8 QG (2:Int).toNat<=1000,(-1000:Int)<=U8 QJ (2:Int).toNat/\U8 QJ (2:Int).toNat<=1000,8<=100] (need [64<=140737488355328,∀(i:Nat),i<1-> ∀(a:AV),a∈U4 1 A i->AV.one a=true] (need [VL ((2:Int)+1)] (need [Q6,WC,QN,XY,XZ,Z0,Z1,WR=WR,J5,(2:Int)+1=3,4=4,GU 4 (GE 3 (GY wl0) (U4 1 A)) (GY wl0),1=1,GO 1 (GY wl1),1=1,GO 1 (GY wl2),1=1,GO 1 (GY wl3),42=42,GO 42 (DN rp0),WC,WZ] (leaf G7.normal))))))):=by
 kernel_rfl
theorem Zf1:PE (HV VO QW Q9 [] QF rD (DQ z 3) (DQ z 4) (DI z))=(let A:=([AV.x (.iface 9 (.string ({data:=List.toArray (Lib.itoa (U8 QG (3:Int).toNat)) }++{data:=#[46,46] }++{data:=List.toArray (Lib.itoa (U8 QJ (3:Int).toNat)) })))]);(need [UJ 3 5] (need [(0:Int)<=U8 QG (3:Int).toNat/\U8 QG (3:Int).toNat<=1000\/(-1000:Int)<=U8 QG (3:Int).toNat/\U8 QG (3:Int).toNat<=1000,(-1000:Int)<=U8 QJ (3:Int).toNat/\U8 QJ (3:Int).toNat<=1000,8<=100] (need [80<=140737488355328,∀(i:Nat),i<1-> ∀(a:AV),a∈U4 1 A i->AV.one a=true] (need [VL ((3:Int)+1)] (need [Q6,WC,QN,XY,XZ,Z0,Z1,WR=WR,J5,(3:Int)+1=4,5=5,GU 5 (GE 4 (GY wl0) (U4 1 A)) (GY wl0),1=1,GO 1 (GY wl1),1=1,GO 1 (GY wl2),1=1,GO 1 (GY wl3),42=42,GO 42 (DN rp0),WC,WZ] (leaf G7.normal))))))):=by
 kernel_rfl
theorem Zf0:PE (HV VO QW Q9 [] QF rD (DQ z 4) (DQ z 5) (DI z))=(let A:=([AV.x (.iface 9 (.string ({data:=List.toArray (Lib.itoa (U8 QG (4:Int).toNat)) }++{data:=#[46,46] }++{data:=List.toArray (Lib.itoa (U8 QJ (4:Int).toNat)) })))]);(need [UJ 4 5] (need [(0:Int)<=U8 QG (4:Int).toNat/\U8 QG (4:Int).toNat<=1000\/(-1000:Int)<=U8 QG (4:Int).toNat/\U8 QG (4:Int).toNat<=1000,(-1000:Int)<=U8 QJ (4:Int).toNat/\U8 QJ (4:Int).toNat<=1000,10<=100] (need [96<=140737488355328,∀(i:Nat),i<1-> ∀(a:AV),a∈U4 1 A i->AV.one a=true] (need [VL ((4:Int)+1)] (need [Q6,WC,QN,XY,XZ,Z0,Z1,WR=WR,J5,(4:Int)+1=5,6=6,GU 6 (GE 5 (GY wl0) (U4 1 A)) (GY wl0),1=1,GO 1 (GY wl1),1=1,GO 1 (GY wl2),1=1,GO 1 (GY wl3),42=42,GO 42 (DN rp0),WC,WZ] (leaf G7.normal))))))):=by
 kernel_rfl
theorem Ze9:PE (HV VO QW Q9 [] QF rD (DQ z 5) (DQ z 5) (DI z))=(need [Q6,WC,QN,XY,XZ,Z0,Z1,WR=WR,J5,J5,6=6,GO 6 (GY wl0),1=1,GO 1 (GY wl1),1=1,GO 1 (GY wl2),1=1,GO 1 (GY wl3),42=42,GO 42 (DN rp0),WC,WZ] (leaf (G7.exit 0))):=by
 kernel_rfl
end
theorem YY{p:Prop}(h:p:=by
 (with_reducible repeat' first|apply Al|intro _)
 all_goals first|exact Ak|(rename_i E hE;cases hE;exact hQ)|contradiction|omega|exact FG (by assumption) (by simp [AV.one,Value.oneCell'])|(rename_i i O;exact Qb3 (by decide+kernel) i O)|(rename_i i O;exact ltM VT i O)|exact bI (by decide+kernel)|exact pK (by decide+kernel)|decide+kernel|with_reducible rfl|rfl):p:=h
theorem Zf5(z:Nat):G8 VO (.loop rD) (Wx4 z):=by
 refine UV QF (L:=[]) (Ae kZ (Ae kS (Ae kJ (Ae x8 Aa)))) (Aj (Af kW (Af F8 (Af RC (Af LY Ab)))) (Ag x9 (Ag kI Ac)) (Ah wW (Ah dH (UA.nil _)))) VY U3 (X:=Nat) (DQ z) (λk=>k<=5) (λk=>6-k) (λ_=>DI z) (x0:=0) (Ao _) ?_ ?_ ?_
 ·intro k
  match k with
  | 0=>
   show Sx.okB (DQ z 0)=true;kernel_rfl
  | 1=>
   show Sx.okB (DQ z 1)=true;kernel_rfl
  | 2=>
   show Sx.okB (DQ z 2)=true;kernel_rfl
  | 3=>
   show Sx.okB (DQ z 3)=true;kernel_rfl
  | 4=>
   show Sx.okB (DQ z 4)=true;kernel_rfl
  |k+5=>
   show Sx.okB (DQ z 5)=true;kernel_rfl
 ·intro k y E h;unfold DI at h;split at h
  ·cases h;kernel_rfl
  ·cases h
 ·intro Q hQ k hx
  match k with
  | 0=>
   refine ⟨1,?_⟩
   with_reducible refine H2 ?_
   rw [Zf4];simp only [IP,DI,VM.sat,GT] at hQ;simp only [VM.sat,UB,UH,VL,DI];exact YY
  | 1=>
   refine ⟨2,?_⟩
   with_reducible refine H2 ?_
   rw [Zf3];simp only [IP,DI,VM.sat,GT] at hQ;simp only [VM.sat,UB,UH,VL,DI];exact YY
  | 2=>
   refine ⟨3,?_⟩
   with_reducible refine H2 ?_
   rw [Zf2];simp only [IP,DI,VM.sat,GT] at hQ;simp only [VM.sat,UB,UH,VL,DI];exact YY
  | 3=>
   refine ⟨4,?_⟩
   with_reducible refine H2 ?_
   rw [Zf1];simp only [IP,DI,VM.sat,GT] at hQ;simp only [VM.sat,UB,UH,VL,DI];exact YY
  | 4=>
   refine ⟨5,?_⟩
   with_reducible refine H2 ?_
   rw [Zf0];simp only [IP,DI,VM.sat,GT] at hQ;simp only [VM.sat,UB,UH,VL,DI];exact YY
  | 5=>
   refine ⟨5,?_⟩
   with_reducible refine H2 ?_
   rw [Ze9];simp only [IP,DI,VM.sat,GT] at hQ;simp only [VM.sat,UB,UH,VL,DI];exact YY
  |k+6=>omega
def S4(z:Nat):St:=((some {σ:=mkS 198 [(0,.top),(5,.ro (hsL VU)),(7,.ptr 14 0),(8,.fn (.func 40) [] [.ptr 14 0]),(9,.row 920),(10,.row 921),(11,.row 922),(12,.row 923),(116,.lst 2 3 (λk=>[i (U8 [0,1,-3] k),i (U8 [0,5,5] k)])),(117,i 3),(118,i 0)],m:=WW,nx:=930}:Option St):Option St).getD {σ:=[],m:=[],nx:=0}
noncomputable def S6:Code:=U9 (VS (U7 Tryz.f12) 1)
abbrev WX:GZ:=[(920,.row 20 1 6 (GY wl0)),(921,.row 20 1 4 (GY wl1)),(922,.row 20 1 1 (GY wl2)),(923,.row 20 1 1 (GY wl3)),(911,.row 5 1 42 (DN rp0)),(14,.cells 104 [.ptr 14 0,.row 911])]
section
variable (z:Nat)
def RQ:Nat->St
 | 0=>{σ:=H4 [(116,.lst 2 3 (λk=>[i (U8 [0,1,-3] k),i (U8 [0,5,5] k)])),(117,i 3),(118,i 0)] (S4 z).σ,m:=WW,nx:=930}
 | 1=>{σ:=H4 [(116,.lst 2 3 (λk=>[i (U8 [0,1,-3] k),i (U8 [0,5,5] k)])),(117,i 3),(118,i 1)] (S4 z).σ,m:=[(920,.row 20 1 6 (GY wl0)),(921,.row 20 1 2 (GY wl1)),(922,.row 20 1 1 (GY wl2)),(923,.row 20 1 1 (GY wl3)),(911,.row 5 1 42 (DN rp0)),(14,.cells 104 [.ptr 14 0,.row 911])],nx:=930}
 | 2=>{σ:=H4 [(116,.lst 2 3 (λk=>[i (U8 [0,1,-3] k),i (U8 [0,5,5] k)])),(117,i 3),(118,i 2)] (S4 z).σ,m:=[(920,.row 20 1 6 (GY wl0)),(921,.row 20 1 3 (GY wl1)),(922,.row 20 1 1 (GY wl2)),(923,.row 20 1 1 (GY wl3)),(911,.row 5 1 42 (DN rp0)),(14,.cells 104 [.ptr 14 0,.row 911])],nx:=930}
 |_=>{σ:=H4 [(116,.lst 2 3 (λk=>[i (U8 [0,1,-3] k),i (U8 [0,5,5] k)])),(117,i 3),(118,i 3)] (S4 z).σ,m:=WX,nx:=930}
def RE:G7->Option St
 | .exit 2=>some {σ:=H4 [(116,.lst 2 3 (λk=>[i (U8 [0,1,-3] k),i (U8 [0,5,5] k)])),(117,i 3),(118,i 3)] (S4 z).σ,m:=WX,nx:=930}
 |_=>none
def lG:CT:= .leaf (.exit 2,(RE z (.exit 2)).getD (S4 z))
def Wx3:UI:=GK QF (HG (RQ z 0) (lG z))
abbrev W7:AV:=lst 2 3 λk=>[iI (U8 [(0:Int),1,-3] k),iI (U8 [(0:Int),5,5] k)]
abbrev WU:List Int:=[(0:Int),1,-3]
abbrev Z6:List Int:=[(0:Int),5,5]
theorem Ze7:PE (HV VO QW Q9 [] QF S6 (RQ z 0) (RQ z 1) (RE z))=(let A:=([AV.x (.iface 9 (.string ({data:=List.toArray (Lib.itoa (U8 WU (0:Int).toNat)) }++{data:=#[46,46] }++{data:=List.toArray (Lib.itoa (U8 Z6 (0:Int).toNat)) })))]);(need [UJ 0 3] (need [(0:Int)<=U8 WU (0:Int).toNat/\U8 WU (0:Int).toNat<=1000\/(-1000:Int)<=U8 WU (0:Int).toNat/\U8 WU (0:Int).toNat<=1000,(-1000:Int)<=U8 Z6 (0:Int).toNat/\U8 Z6 (0:Int).toNat<=1000,4<=100] (need [32<=140737488355328,∀(i:Nat),i<1-> ∀(a:AV),a∈U4 1 A i->AV.one a=true] (need [VL ((0:Int)+1)] (need [Q6,WC,QN,XY,XZ,Z0,Z1,W7=W7,XE,(0:Int)+1=1,6=6,GO 6 (GY wl0),2=2,GU 2 (GE 1 (GY wl1) (U4 1 A)) (GY wl1),1=1,GO 1 (GY wl2),1=1,GO 1 (GY wl3),42=42,GO 42 (DN rp0),WC,WZ] (leaf G7.normal))))))):=by
 kernel_rfl
theorem Ze6:PE (HV VO QW Q9 [] QF S6 (RQ z 1) (RQ z 2) (RE z))=(let A:=([AV.x (.iface 9 (.string ({data:=List.toArray (Lib.itoa (U8 WU (1:Int).toNat)) }++{data:=#[46,46] }++{data:=List.toArray (Lib.itoa (U8 Z6 (1:Int).toNat)) })))]);(need [UJ 1 3] (need [(0:Int)<=U8 WU (1:Int).toNat/\U8 WU (1:Int).toNat<=1000\/(-1000:Int)<=U8 WU (1:Int).toNat/\U8 WU (1:Int).toNat<=1000,(-1000:Int)<=U8 Z6 (1:Int).toNat/\U8 Z6 (1:Int).toNat<=1000,4<=100] (need [48<=140737488355328,∀(i:Nat),i<1-> ∀(a:AV),a∈U4 1 A i->AV.one a=true] (need [VL ((1:Int)+1)] (need [Q6,WC,QN,XY,XZ,Z0,Z1,W7=W7,XE,(1:Int)+1=2,6=6,GO 6 (GY wl0),3=3,GU 3 (GE 2 (GY wl1) (U4 1 A)) (GY wl1),1=1,GO 1 (GY wl2),1=1,GO 1 (GY wl3),42=42,GO 42 (DN rp0),WC,WZ] (leaf G7.normal))))))):=by
 kernel_rfl
theorem Ze5:PE (HV VO QW Q9 [] QF S6 (RQ z 2) (RQ z 3) (RE z))=(let A:=([AV.x (.iface 9 (.string ({data:=List.toArray (Lib.itoa (U8 WU (2:Int).toNat)) }++{data:=#[46,46] }++{data:=List.toArray (Lib.itoa (U8 Z6 (2:Int).toNat)) })))]);(need [UJ 2 3] (need [(0:Int)<=U8 WU (2:Int).toNat/\U8 WU (2:Int).toNat<=1000\/(-1000:Int)<=U8 WU (2:Int).toNat/\U8 WU (2:Int).toNat<=1000,(-1000:Int)<=U8 Z6 (2:Int).toNat/\U8 Z6 (2:Int).toNat<=1000,5<=100] (need [64<=140737488355328,∀(i:Nat),i<1-> ∀(a:AV),a∈U4 1 A i->AV.one a=true] (need [VL ((2:Int)+1)] (need [Q6,WC,QN,XY,XZ,Z0,Z1,W7=W7,XE,(2:Int)+1=3,6=6,GO 6 (GY wl0),4=4,GU 4 (GE 3 (GY wl1) (U4 1 A)) (GY wl1),1=1,GO 1 (GY wl2),1=1,GO 1 (GY wl3),42=42,GO 42 (DN rp0),WC,WZ] (leaf G7.normal))))))):=by
 kernel_rfl
theorem Ze4:PE (HV VO QW Q9 [] QF S6 (RQ z 3) (RQ z 3) (RE z))=(need [Q6,WC,QN,XY,XZ,Z0,Z1,W7=W7,XE,XE,6=6,GO 6 (GY wl0),4=4,GO 4 (GY wl1),1=1,GO 1 (GY wl2),1=1,GO 1 (GY wl3),42=42,GO 42 (DN rp0),WC,WZ] (leaf (G7.exit 2))):=by
 kernel_rfl
theorem Ze8:G8 VO (.loop S6) (Wx3 z):=by
 refine UV QF (L:=[]) (Ae kZ (Ae kS (Ae kJ (Ae x8 Aa)))) (Aj (Af kW (Af F8 (Af RC (Af LY Ab)))) (Ag x9 (Ag kI Ac)) (Ah wW (Ah dH (UA.nil _)))) VY U3 (X:=Nat) (RQ z) (λk=>k<=3) (λk=>4-k) (λ_=>RE z) (x0:=0) (Ao _) ?_ ?_ ?_
 ·intro k
  match k with
  | 0=>
   show Sx.okB (RQ z 0)=true;kernel_rfl
  | 1=>
   show Sx.okB (RQ z 1)=true;kernel_rfl
  | 2=>
   show Sx.okB (RQ z 2)=true;kernel_rfl
  |k+3=>
   show Sx.okB (RQ z 3)=true;kernel_rfl
 ·intro k y E h;unfold RE at h;split at h
  ·cases h;kernel_rfl
  ·cases h
 ·intro Q hQ k hx
  match k with
  | 0=>
   refine ⟨1,?_⟩
   with_reducible refine H2 ?_
   rw [Ze7];simp only [lG,RE,VM.sat,GT] at hQ;simp only [VM.sat,UB,UH,VL,RE];exact YY
  | 1=>
   refine ⟨2,?_⟩
   with_reducible refine H2 ?_
   rw [Ze6];simp only [lG,RE,VM.sat,GT] at hQ;simp only [VM.sat,UB,UH,VL,RE];exact YY
  | 2=>
   refine ⟨3,?_⟩
   with_reducible refine H2 ?_
   rw [Ze5];simp only [lG,RE,VM.sat,GT] at hQ;simp only [VM.sat,UB,UH,VL,RE];exact YY
  | 3=>
   refine ⟨3,?_⟩
   with_reducible refine H2 ?_
   rw [Ze4];simp only [lG,RE,VM.sat,GT] at hQ;simp only [VM.sat,UB,UH,VL,RE];exact YY
  |k+4=>omega
end
def Qh5(z:Nat):St:=((some {σ:=mkS 198 [(0,.top),(5,.ro (hsL VU)),(7,.ptr 14 0),(8,.fn (.func 40) [] [.ptr 14 0]),(9,.row 920),(10,.row 921),(11,.row 922),(12,.row 923),(136,hsC VU),(137,i 1),(138,i 0)],m:=WX,nx:=930}:Option St):Option St).getD {σ:=[],m:=[],nx:=0}
noncomputable def Qi1:Code:=U9 (VS (U7 Tryz.f12) 2)
abbrev WY:GZ:=[(920,.row 20 1 6 (GY wl0)),(921,.row 20 1 4 (GY wl1)),(922,.row 20 1 2 (GY wl2)),(923,.row 20 1 1 (GY wl3)),(911,.row 5 1 42 (DN rp0)),(14,.cells 104 [.ptr 14 0,.row 911])]
section
variable (z:Nat)
def qX:Nat->St
 | 0=>{σ:=H4 [(136,hsC VU),(137,i 1),(138,i 0)] (Qh5 z).σ,m:=WX,nx:=930}
 |_=>{σ:=H4 [(136,hsC VU),(137,i 1),(138,i 1)] (Qh5 z).σ,m:=WY,nx:=930}
def BM:G7->Option St
 | .exit 4=>some {σ:=H4 [(136,hsC VU),(137,i 1),(138,i 1)] (Qh5 z).σ,m:=WY,nx:=930}
 |_=>none
def Wt9:CT:= .leaf (.exit 4,(BM z (.exit 4)).getD (Qh5 z))
def Wx2:UI:=GK QF (HG (qX z 0) (Wt9 z))
abbrev YK:AV:=agg [hR 2 VU,iI VU.pl,iI VU.ph,hY 2 VU,hC 1 VU,hT 2 VU]
theorem Ze2:PE (HV VO QW Q9 [] QF Qi1 (qX z 0) (qX z 1) (BM z))=(need [UJ 0 VU.nc] (need [[YK,agg [iI (VU.ca (0:Int).toNat),iI (VU.cb (0:Int).toNat),iI (VU.cc (0:Int).toNat),iI (VU.cd (0:Int).toNat),AV.x (.bool (VU.cv (0:Int).toNat))],iI (VU.cd (0:Int).toNat)]=[YK,agg [iI (VU.ca 0),iI (VU.cb 0),iI (VU.cc 0),iI (VU.cd 0),AV.x (.bool (VU.cv 0))],iI (VU.cd 0)]] (need [32<=140737488355328,RT 1 (U4 1 [AV.x (.iface 3 (X0))])] (need [VL ((0:Int)+1)] (need [Q6,WC,QN,XY,XZ,Z0,Z1,VZ (hC 1 VU),KR,(0:Int)+1=1,6=6,GO 6 (GY wl0),4=4,GO 4 (GY wl1),2=2,GU 2 (GE 1 (GY wl2) (U4 1 [AV.x (.iface 3 (X0))])) (GY wl2),1=1,GO 1 (GY wl3),42=42,GO 42 (DN rp0),WC,WZ] (leaf G7.normal)))))):=by
 kernel_rfl
theorem Ze1:PE (HV VO QW Q9 [] QF Qi1 (qX z 1) (qX z 1) (BM z))=(need [Q6,WC,QN,XY,XZ,Z0,Z1,VZ (hC 1 VU),KR,KR,6=6,GO 6 (GY wl0),4=4,GO 4 (GY wl1),2=2,GO 2 (GY wl2),1=1,GO 1 (GY wl3),42=42,GO 42 (DN rp0),WC,WZ] (leaf (G7.exit 4))):=by
 kernel_rfl
theorem Ze3:G8 VO (.loop Qi1) (Wx2 z):=by
 refine UV QF (L:=[]) (Ae kZ (Ae kS (Ae kJ (Ae x8 Aa)))) (Aj (Af kW (Af F8 (Af RC (Af LY Ab)))) (Ag x9 (Ag kI Ac)) (Ah wW (Ah dH (UA.nil _)))) VY U3 (X:=Nat) (qX z) (λk=>k<=1) (λk=>2-k) (λ_=>BM z) (x0:=0) (Ao _) ?_ ?_ ?_
 ·intro k
  match k with
  | 0=>
   show Sx.okB (qX z 0)=true;kernel_rfl
  |k+1=>
   show Sx.okB (qX z 1)=true;kernel_rfl
 ·intro k y E h;unfold BM at h;split at h
  ·cases h;kernel_rfl
  ·cases h
 ·intro Q hQ k hx
  match k with
  | 0=>
   refine ⟨1,?_⟩
   with_reducible refine H2 ?_
   rw [Ze2];simp only [Wt9,BM,VM.sat,GT] at hQ;simp only [VM.sat,UB,UH,VL,BM];exact YY
  | 1=>
   refine ⟨1,?_⟩
   with_reducible refine H2 ?_
   rw [Ze1];simp only [Wt9,BM,VM.sat,GT] at hQ;simp only [VM.sat,UB,UH,VL,BM];exact YY
  |k+2=>omega
end
def M3(z:Nat):St:=((some {σ:=mkS 198 [(0,.top),(5,.ro (hsL VU)),(7,.ptr 14 0),(8,.fn (.func 40) [] [.ptr 14 0]),(9,.row 920),(10,.row 921),(11,.row 922),(12,.row 923),(162,i 4),(163,i 0)],m:=WY,nx:=930}:Option St):Option St).getD {σ:=[],m:=[],nx:=0}
noncomputable def M5:Code:=U9 (VS (U7 Tryz.f12) 3)
abbrev JK:GZ:=[(920,.row 20 1 6 (GY wl0)),(921,.row 20 1 4 (GY wl1)),(922,.row 20 1 2 (GY wl2)),(923,.row 20 1 5 (GY wl3)),(911,.row 5 1 42 (DN rp0)),(14,.cells 104 [.ptr 14 0,.row 911])]
section
variable (z:Nat)
def FL:Nat->St
 | 0=>{σ:=H4 [(162,i 4),(163,i 0)] (M3 z).σ,m:=WY,nx:=930}
 | 1=>{σ:=H4 [(162,i 4),(163,i 1)] (M3 z).σ,m:=[(920,.row 20 1 6 (GY wl0)),(921,.row 20 1 4 (GY wl1)),(922,.row 20 1 2 (GY wl2)),(923,.row 20 1 2 (GY wl3)),(911,.row 5 1 42 (DN rp0)),(14,.cells 104 [.ptr 14 0,.row 911])],nx:=930}
 | 2=>{σ:=H4 [(162,i 4),(163,i 2)] (M3 z).σ,m:=[(920,.row 20 1 6 (GY wl0)),(921,.row 20 1 4 (GY wl1)),(922,.row 20 1 2 (GY wl2)),(923,.row 20 1 3 (GY wl3)),(911,.row 5 1 42 (DN rp0)),(14,.cells 104 [.ptr 14 0,.row 911])],nx:=930}
 | 3=>{σ:=H4 [(162,i 4),(163,i 3)] (M3 z).σ,m:=[(920,.row 20 1 6 (GY wl0)),(921,.row 20 1 4 (GY wl1)),(922,.row 20 1 2 (GY wl2)),(923,.row 20 1 4 (GY wl3)),(911,.row 5 1 42 (DN rp0)),(14,.cells 104 [.ptr 14 0,.row 911])],nx:=930}
 |_=>{σ:=H4 [(162,i 4),(163,i 4)] (M3 z).σ,m:=JK,nx:=930}
def FD:G7->Option St
 | .exit 6=>some {σ:=H4 [(162,i 4),(163,i 4)] (M3 z).σ,m:=JK,nx:=930}
 |_=>none
def OO:CT:= .leaf (.exit 6,(FD z (.exit 6)).getD (M3 z))
def Wx1:UI:=GK QF (HG (FL z 0) (OO z))
abbrev ZN:AV:=agg [iI 4,iI 10,hT 2 VU]
abbrev ZP:List Int:=[(4:Int),2,4,0]
abbrev YB:Prop:=iI 100=iI 100
theorem Zd9:PE (HV VO QW Q9 [] QF M5 (FL z 0) (FL z 1) (FD z))=(let A:=([AV.x (.iface 3 (.int .i64 (U8 ZP (0:Int).toNat)))]);(need [ZN=ZN,YB,(0:Int)<=0/\(0:Int)<=3] (need [32<=140737488355328,∀(i:Nat),i<1-> ∀(a:AV),a∈U4 1 A i->AV.one a=true] (need [VL ((0:Int)+1)] (need [Q6,WC,QN,XY,XZ,Z0,Z1,QZ,(0:Int)+1=1,6=6,GO 6 (GY wl0),4=4,GO 4 (GY wl1),2=2,GO 2 (GY wl2),2=2,GU 2 (GE 1 (GY wl3) (U4 1 A)) (GY wl3),42=42,GO 42 (DN rp0),WC,WZ] (leaf G7.normal)))))):=by
 kernel_rfl
theorem Zd8:PE (HV VO QW Q9 [] QF M5 (FL z 1) (FL z 2) (FD z))=(let A:=([AV.x (.iface 3 (.int .i64 (U8 ZP (1:Int).toNat)))]);(need [ZN=ZN,YB,(0:Int)<=1/\(1:Int)<=3] (need [48<=140737488355328,∀(i:Nat),i<1-> ∀(a:AV),a∈U4 1 A i->AV.one a=true] (need [VL ((1:Int)+1)] (need [Q6,WC,QN,XY,XZ,Z0,Z1,QZ,(1:Int)+1=2,6=6,GO 6 (GY wl0),4=4,GO 4 (GY wl1),2=2,GO 2 (GY wl2),3=3,GU 3 (GE 2 (GY wl3) (U4 1 A)) (GY wl3),42=42,GO 42 (DN rp0),WC,WZ] (leaf G7.normal)))))):=by
 kernel_rfl
theorem Zd7:PE (HV VO QW Q9 [] QF M5 (FL z 2) (FL z 3) (FD z))=(let A:=([AV.x (.iface 3 (.int .i64 (U8 ZP (2:Int).toNat)))]);(need [ZN=ZN,YB,(0:Int)<=2/\(2:Int)<=3] (need [64<=140737488355328,∀(i:Nat),i<1-> ∀(a:AV),a∈U4 1 A i->AV.one a=true] (need [VL ((2:Int)+1)] (need [Q6,WC,QN,XY,XZ,Z0,Z1,QZ,(2:Int)+1=3,6=6,GO 6 (GY wl0),4=4,GO 4 (GY wl1),2=2,GO 2 (GY wl2),4=4,GU 4 (GE 3 (GY wl3) (U4 1 A)) (GY wl3),42=42,GO 42 (DN rp0),WC,WZ] (leaf G7.normal)))))):=by
 kernel_rfl
theorem Zd6:PE (HV VO QW Q9 [] QF M5 (FL z 3) (FL z 4) (FD z))=(let A:=([AV.x (.iface 3 (.int .i64 (U8 ZP (3:Int).toNat)))]);(need [ZN=ZN,YB,(0:Int)<=3/\(3:Int)<=3] (need [80<=140737488355328,∀(i:Nat),i<1-> ∀(a:AV),a∈U4 1 A i->AV.one a=true] (need [VL ((3:Int)+1)] (need [Q6,WC,QN,XY,XZ,Z0,Z1,QZ,(3:Int)+1=4,6=6,GO 6 (GY wl0),4=4,GO 4 (GY wl1),2=2,GO 2 (GY wl2),5=5,GU 5 (GE 4 (GY wl3) (U4 1 A)) (GY wl3),42=42,GO 42 (DN rp0),WC,WZ] (leaf G7.normal)))))):=by
 kernel_rfl
theorem Zd5:PE (HV VO QW Q9 [] QF M5 (FL z 4) (FL z 4) (FD z))=(need [Q6,WC,QN,XY,XZ,Z0,Z1,QZ,QZ,6=6,GO 6 (GY wl0),4=4,GO 4 (GY wl1),2=2,GO 2 (GY wl2),5=5,GO 5 (GY wl3),42=42,GO 42 (DN rp0),WC,WZ] (leaf (G7.exit 6))):=by
 kernel_rfl
theorem Ze0:G8 VO (.loop M5) (Wx1 z):=by
 refine UV QF (L:=[]) (Ae kZ (Ae kS (Ae kJ (Ae x8 Aa)))) (Aj (Af kW (Af F8 (Af RC (Af LY Ab)))) (Ag x9 (Ag kI Ac)) (Ah wW (Ah dH (UA.nil _)))) VY U3 (X:=Nat) (FL z) (λk=>k<=4) (λk=>5-k) (λ_=>FD z) (x0:=0) (Ao _) ?_ ?_ ?_
 ·intro k
  match k with
  | 0=>
   show Sx.okB (FL z 0)=true;kernel_rfl
  | 1=>
   show Sx.okB (FL z 1)=true;kernel_rfl
  | 2=>
   show Sx.okB (FL z 2)=true;kernel_rfl
  | 3=>
   show Sx.okB (FL z 3)=true;kernel_rfl
  |k+4=>
   show Sx.okB (FL z 4)=true;kernel_rfl
 ·intro k y E h;unfold FD at h;split at h
  ·cases h;kernel_rfl
  ·cases h
 ·intro Q hQ k hx
  match k with
  | 0=>
   refine ⟨1,?_⟩
   with_reducible refine H2 ?_
   rw [Zd9];simp only [OO,FD,VM.sat,GT] at hQ;simp only [VM.sat,UB,UH,VL,FD];exact YY
  | 1=>
   refine ⟨2,?_⟩
   with_reducible refine H2 ?_
   rw [Zd8];simp only [OO,FD,VM.sat,GT] at hQ;simp only [VM.sat,UB,UH,VL,FD];exact YY
  | 2=>
   refine ⟨3,?_⟩
   with_reducible refine H2 ?_
   rw [Zd7];simp only [OO,FD,VM.sat,GT] at hQ;simp only [VM.sat,UB,UH,VL,FD];exact YY
  | 3=>
   refine ⟨4,?_⟩
   with_reducible refine H2 ?_
   rw [Zd6];simp only [OO,FD,VM.sat,GT] at hQ;simp only [VM.sat,UB,UH,VL,FD];exact YY
  | 4=>
   refine ⟨4,?_⟩
   with_reducible refine H2 ?_
   rw [Zd5];simp only [OO,FD,VM.sat,GT] at hQ;simp only [VM.sat,UB,UH,VL,FD];exact YY
  |k+5=>omega
end
abbrev JN:GZ:=[(925,.row 105 1 4 (U4 1 [.lst 1 6 (GY wl0),.lst 1 4 (GY wl1),.lst 1 2 (GY wl2),.lst 1 5 (GY wl3)])),(911,.row 5 1 42 (DN rp0)),(14,.cells 104 [.ptr 14 0,.row 911])]
def M2(z:Nat):St:=((some {σ:=mkS 198 [(0,.top),(5,.ro (hsL VU)),(7,.ptr 14 0),(8,.fn (.func 40) [] [.ptr 14 0]),(187,.row 925),(188,i 4),(189,i 0)],m:=JN,nx:=930}:Option St):Option St).getD {σ:=[],m:=[],nx:=0}
noncomputable def M4:Code:=U9 (VS (U7 Tryz.f12) 4)
abbrev JM:GZ:=[(925,.row 105 1 4 (U4 1 [.lst 1 6 (GY wl0),.lst 1 4 (GY wl1),.lst 1 2 (GY wl2),.lst 1 5 (GY wl3)])),(911,.row 5 1 136 (DN rp4)),(14,.cells 104 [.ptr 14 0,.row 911])]
section
variable (z:Nat)
def FK:Nat->St
 | 0=>{σ:=H4 [(187,.row 925),(188,i 4),(189,i 0)] (M2 z).σ,m:=JN,nx:=930}
 | 1=>{σ:=H4 [(187,.row 925),(188,i 4),(189,i 1)] (M2 z).σ,m:=[(925,.row 105 1 4 (U4 1 [.lst 1 6 (GY wl0),.lst 1 4 (GY wl1),.lst 1 2 (GY wl2),.lst 1 5 (GY wl3)])),(911,.row 5 1 91 (DN rp1)),(14,.cells 104 [.ptr 14 0,.row 911])],nx:=930}
 | 2=>{σ:=H4 [(187,.row 925),(188,i 4),(189,i 2)] (M2 z).σ,m:=[(925,.row 105 1 4 (U4 1 [.lst 1 6 (GY wl0),.lst 1 4 (GY wl1),.lst 1 2 (GY wl2),.lst 1 5 (GY wl3)])),(911,.row 5 1 115 (DN rp2)),(14,.cells 104 [.ptr 14 0,.row 911])],nx:=930}
 | 3=>{σ:=H4 [(187,.row 925),(188,i 4),(189,i 3)] (M2 z).σ,m:=[(925,.row 105 1 4 (U4 1 [.lst 1 6 (GY wl0),.lst 1 4 (GY wl1),.lst 1 2 (GY wl2),.lst 1 5 (GY wl3)])),(911,.row 5 1 123 (DN rp3)),(14,.cells 104 [.ptr 14 0,.row 911])],nx:=930}
 |_=>{σ:=H4 [(187,.row 925),(188,i 4),(189,i 4)] (M2 z).σ,m:=JM,nx:=930}
def FC:G7->Option St
 | .exit 8=>some {σ:=H4 [(187,.row 925),(188,i 4),(189,i 4)] (M2 z).σ,m:=JM,nx:=930}
 |_=>none
def ON:CT:= .leaf (.exit 8,(FC z (.exit 8)).getD (M2 z))
def Wx0:UI:=GK [(.slot 187,925,105,1),(.cell 14 1,911,5,1)] (HG (FK z 0) (ON z))
noncomputable abbrev J9:AV:=lst 1 6 λk=>[Option.rec (top) (λval=>(λval=>(λx=>x) val) val) wl0[k]?]
noncomputable abbrev JA:AV:=lst 1 4 λk=>[Option.rec (top) (λval=>(λval=>(λx=>x) val) val) wl1[k]?]
noncomputable abbrev JC:AV:=lst 1 2 λk=>[Option.rec (top) (λval=>(λval=>(λx=>x) val) val) wl2[k]?]
noncomputable abbrev JD:AV:=lst 1 5 λk=>[Option.rec (top) (λval=>(λval=>(λx=>x) val) val) wl3[k]?]
noncomputable abbrev Q7:List AV:=[J9,JA,JC,JD]
abbrev WP:List AV:=[AV.x (.string {data:=#[(48:UInt8),(46:UInt8),(46:UInt8),(48:UInt8)] })]
abbrev XC:List AV:=[AV.x (.string {data:=#[(49:UInt8),(48:UInt8),(48:UInt8),(48:UInt8),(46:UInt8),(46:UInt8),(49:UInt8),(48:UInt8),(48:UInt8),(48:UInt8)] })]
abbrev XP:List AV:=[AV.x (.string {data:=#[(50:UInt8),(48:UInt8),(48:UInt8),(46:UInt8),(46:UInt8),(51:UInt8),(48:UInt8),(48:UInt8)] })]
abbrev XQ:List AV:=[AV.x (.string {data:=#[(52:UInt8),(49:UInt8),(48:UInt8),(46:UInt8),(46:UInt8),(53:UInt8),(49:UInt8),(48:UInt8)] })]
abbrev XR:List AV:=[AV.x (.string {data:=#[(55:UInt8),(48:UInt8),(48:UInt8),(46:UInt8),(46:UInt8),(56:UInt8),(48:UInt8),(48:UInt8)] })]
abbrev Z4:Value:=Value.string {data:=#[(109:UInt8),(97:UInt8),(114:UInt8),(107:UInt8),(115:UInt8)] }
abbrev J6:List (Pl×Nat×TypeId×Nat):=[(.slot 187,925,105,1),(.cell 14 1,911,5,1)]
abbrev Y2:Prop:=AV.row 925=AV.row 925
theorem Zd3:PE (HV VO QW Q9 [] J6 M4 (FK z 0) (FK z 1) (FC z))=(let A:=(GE 5 (GE 4 (GE 3 (GE 2 (GE 1 (GE 0 (λx=>[]) (U4 1 [AV.x (Z4)])) (U4 1 WP)) (U4 1 XP)) (U4 1 XQ)) (U4 1 XR)) (U4 1 XC));(need [UJ 0 4] (need [(0:Int).toNat<4] (need [UJ 0 6] (need [16<=140737488355328,RT 1 (U4 1 [AV.x (Z4)])] (need [VL ((0:Int)+1)] (need [(0:Int)<=0+1/\(0:Int)+1<(↑(6:Nat):Int)] (need [32<=140737488355328,∀(i:Nat),i<1-> ∀(a:AV),a∈U4 1 WP i->AV.one a=true] (need [VL ((0:Int)+1+1)] (need [(0:Int)<=0+1+1/\(0:Int)+1+1<(↑(6:Nat):Int)] (need [48<=140737488355328,∀(i:Nat),i<1-> ∀(a:AV),a∈U4 1 XP i->AV.one a=true] (need [VL ((0:Int)+1+1+1)] (need [(0:Int)<=0+1+1+1/\(0:Int)+1+1+1<(↑(6:Nat):Int)] (need [64<=140737488355328,∀(i:Nat),i<1-> ∀(a:AV),a∈U4 1 XQ i->AV.one a=true] (need [VL ((0:Int)+1+1+1+1)] (need [(0:Int)<=0+1+1+1+1/\(0:Int)+1+1+1+1<(↑(6:Nat):Int)] (need [80<=140737488355328,∀(i:Nat),i<1-> ∀(a:AV),a∈U4 1 XR i->AV.one a=true] (need [VL ((0:Int)+1+1+1+1+1)] (need [(0:Int)<=0+1+1+1+1+1/\(0:Int)+1+1+1+1+1<(↑(6:Nat):Int)] (need [96<=140737488355328,∀(i:Nat),i<1-> ∀(a:AV),a∈U4 1 XC i->AV.one a=true] (need [VL ((0:Int)+1+1+1+1+1+1)] (need [6<=100000,jQ 6 A,ByteArray.size (jnB 6 A {data:=#[32] })<=140737488355328] (need [(↑(49:Nat):Int)<=9223372036854775807] (need [91<=140737488355328] (need [VL ((0:Int)+1)] (need [Q6,WC,QN,Y2,QZ,(0:Int)+1=1,4=4,GO 4 (U4 1 Q7),91=91,GU 91 (GE 42 (DN rp0) (DN (jnB 6 A {data:=#[32] }++{data:=#[10] }))) (DN rp1),WC,WZ] (leaf G7.normal))))))))))))))))))))))))))):=by
 kernel_rfl
abbrev XD:Value:=Value.string {data:=#[(111:UInt8),(102:UInt8),(102:UInt8),(115:UInt8),(101:UInt8),(116:UInt8),(115:UInt8)] }
abbrev ZJ:List AV:=[AV.x (.string {data:=#[(45:UInt8),(51:UInt8),(46:UInt8),(46:UInt8),(53:UInt8)] })]
abbrev ZV:List AV:=[AV.x (.string {data:=#[(49:UInt8),(46:UInt8),(46:UInt8),(53:UInt8)] })]
theorem Zd2:PE (HV VO QW Q9 [] J6 M4 (FK z 1) (FK z 2) (FC z))=(let A:=(GE 3 (GE 2 (GE 1 (GE 0 (λx=>[]) (U4 1 [AV.x (XD)])) (U4 1 WP)) (U4 1 ZV)) (U4 1 ZJ));(need [UJ 1 4] (need [(1:Int).toNat<4] (need [UJ 0 4] (need [16<=140737488355328,RT 1 (U4 1 [AV.x (XD)])] (need [VL ((0:Int)+1)] (need [(0:Int)<=0+1/\(0:Int)+1<(↑(4:Nat):Int)] (need [32<=140737488355328,∀(i:Nat),i<1-> ∀(a:AV),a∈U4 1 WP i->AV.one a=true] (need [VL ((0:Int)+1+1)] (need [(0:Int)<=0+1+1/\(0:Int)+1+1<(↑(4:Nat):Int)] (need [48<=140737488355328,∀(i:Nat),i<1-> ∀(a:AV),a∈U4 1 ZV i->AV.one a=true] (need [VL ((0:Int)+1+1+1)] (need [(0:Int)<=0+1+1+1/\(0:Int)+1+1+1<(↑(4:Nat):Int)] (need [64<=140737488355328,∀(i:Nat),i<1-> ∀(a:AV),a∈U4 1 ZJ i->AV.one a=true] (need [VL ((0:Int)+1+1+1+1)] (need [4<=100000,jQ 4 A,ByteArray.size (jnB 4 A {data:=#[32] })<=140737488355328] (need [(↑(24:Nat):Int)<=9223372036854775807] (need [115<=140737488355328] (need [VL ((1:Int)+1)] (need [Q6,WC,QN,Y2,QZ,(1:Int)+1=2,4=4,GO 4 (U4 1 Q7),115=115,GU 115 (GE 91 (DN rp1) (DN (jnB 4 A {data:=#[32] }++{data:=#[10] }))) (DN rp2),WC,WZ] (leaf G7.normal))))))))))))))))))))):=by
 kernel_rfl
abbrev XL:List AV:=[AV.x (.string {data:=List.toArray (Lib.itoa (0:Int)) })]
abbrev Z5:Value:=Value.string {data:=#[(115:UInt8),(116:UInt8),(97:UInt8),(110:UInt8),(100:UInt8)] }
theorem Zd1:PE (HV VO QW Q9 [] J6 M4 (FK z 2) (FK z 3) (FC z))=(let A:=(GE 1 (GE 0 (λx=>[]) (U4 1 [AV.x (Z5)])) (U4 1 XL));(need [UJ 2 4] (need [(2:Int).toNat<4] (need [UJ 0 2] (need [16<=140737488355328,RT 1 (U4 1 [AV.x (Z5)])] (need [VL ((0:Int)+1)] (need [(0:Int)<=0+1/\(0:Int)+1<(↑(2:Nat):Int)] (need [VL (0:Int)] (need [32<=140737488355328,∀(i:Nat),i<1-> ∀(a:AV),a∈U4 1 XL i->AV.one a=true] (need [VL ((0:Int)+1+1)] (need [2<=100000,jQ 2 A,ByteArray.size (jnB 2 A {data:=#[32] })<=140737488355328] (need [(↑(8:Nat):Int)<=9223372036854775807] (need [123<=140737488355328] (need [VL ((2:Int)+1)] (need [Q6,WC,QN,Y2,QZ,(2:Int)+1=3,4=4,GO 4 (U4 1 Q7),123=123,GU 123 (GE 115 (DN rp2) (DN (jnB 2 A {data:=#[32] }++{data:=#[10] }))) (DN rp3),WC,WZ] (leaf G7.normal)))))))))))))))):=by
 kernel_rfl
abbrev XM:List AV:=[AV.x (.string {data:=List.toArray (Lib.itoa (4:Int)) })]
abbrev ZD:Value:=Value.string {data:=#[(104:UInt8),(111:UInt8),(108:UInt8),(100:UInt8)] }
abbrev JH:List AV:=[AV.x (.string {data:=List.toArray (Lib.itoa (2:Int)) })]
theorem Zd0:PE (HV VO QW Q9 [] J6 M4 (FK z 3) (FK z 4) (FC z))=(let A:=(GE 4 (GE 3 (GE 2 (GE 1 (GE 0 (λx=>[]) (U4 1 [AV.x (ZD)])) (U4 1 XM)) (U4 1 JH)) (U4 1 XM)) (U4 1 XL));(need [UJ 3 4] (need [(3:Int).toNat<4] (need [UJ 0 5] (need [16<=140737488355328,RT 1 (U4 1 [AV.x (ZD)])] (need [VL ((0:Int)+1)] (need [(0:Int)<=0+1/\(0:Int)+1<(↑(5:Nat):Int)] (need [VL (4:Int)] (need [32<=140737488355328,∀(i:Nat),i<1-> ∀(a:AV),a∈U4 1 XM i->AV.one a=true] (need [VL ((0:Int)+1+1)] (need [(0:Int)<=0+1+1/\(0:Int)+1+1<(↑(5:Nat):Int)] (need [VL (2:Int)] (need [48<=140737488355328,∀(i:Nat),i<1-> ∀(a:AV),a∈U4 1 JH i->AV.one a=true] (need [VL ((0:Int)+1+1+1)] (need [(0:Int)<=0+1+1+1/\(0:Int)+1+1+1<(↑(5:Nat):Int)] (need [VL (4:Int)] (need [64<=140737488355328,∀(i:Nat),i<1-> ∀(a:AV),a∈U4 1 XM i->AV.one a=true] (need [VL ((0:Int)+1+1+1+1)] (need [(0:Int)<=0+1+1+1+1/\(0:Int)+1+1+1+1<(↑(5:Nat):Int)] (need [VL (0:Int)] (need [80<=140737488355328,∀(i:Nat),i<1-> ∀(a:AV),a∈U4 1 XL i->AV.one a=true] (need [VL ((0:Int)+1+1+1+1+1)] (need [5<=100000,jQ 5 A,ByteArray.size (jnB 5 A {data:=#[32] })<=140737488355328] (need [(↑(13:Nat):Int)<=9223372036854775807] (need [136<=140737488355328] (need [VL ((3:Int)+1)] (need [Q6,WC,QN,Y2,QZ,(3:Int)+1=4,4=4,GO 4 (U4 1 Q7),136=136,GU 136 (GE 123 (DN rp3) (DN (jnB 5 A {data:=#[32] }++{data:=#[10] }))) (DN rp4),WC,WZ] (leaf G7.normal)))))))))))))))))))))))))))):=by
 kernel_rfl
theorem Zc9:PE (HV VO QW Q9 [] J6 M4 (FK z 4) (FK z 4) (FC z))=(need [Q6,WC,QN,Y2,QZ,QZ,4=4,GO 4 (U4 1 Q7),136=136,GO 136 (DN rp4),WC,WZ] (leaf (G7.exit 8))):=by
 kernel_rfl
theorem Zd4:G8 VO (.loop M4) (Wx0 z):=by
 refine UV J6 (L:=[]) (Ae kZ (Ae kS (Ae kJ (Ae x8 Aa)))) (Aj (Af kW (Af F8 (Af RC (Af LY Ab)))) (Ag x9 (Ag kI Ac)) (Ah wW (Ah dH (UA.nil _)))) VY U3 (X:=Nat) (FK z) (λk=>k<=4) (λk=>5-k) (λ_=>FC z) (x0:=0) (Ao _) ?_ ?_ ?_
 ·intro k
  match k with
  | 0=>
   show Sx.okB (FK z 0)=true;kernel_rfl
  | 1=>
   show Sx.okB (FK z 1)=true;kernel_rfl
  | 2=>
   show Sx.okB (FK z 2)=true;kernel_rfl
  | 3=>
   show Sx.okB (FK z 3)=true;kernel_rfl
  |k+4=>
   show Sx.okB (FK z 4)=true;kernel_rfl
 ·intro k y E h;unfold FC at h;split at h
  ·cases h;kernel_rfl
  ·cases h
 ·intro Q hQ k hx
  match k with
  | 0=>
   refine ⟨1,?_⟩
   with_reducible refine H2 ?_
   rw [Zd3];simp only [ON,FC,VM.sat,GT] at hQ;simp only [VM.sat,UB,UH,VL,FC];exact YY
  | 1=>
   refine ⟨2,?_⟩
   with_reducible refine H2 ?_
   rw [Zd2];simp only [ON,FC,VM.sat,GT] at hQ;simp only [VM.sat,UB,UH,VL,FC];exact YY
  | 2=>
   refine ⟨3,?_⟩
   with_reducible refine H2 ?_
   rw [Zd1];simp only [ON,FC,VM.sat,GT] at hQ;simp only [VM.sat,UB,UH,VL,FC];exact YY
  | 3=>
   refine ⟨4,?_⟩
   with_reducible refine H2 ?_
   rw [Zd0];simp only [ON,FC,VM.sat,GT] at hQ;simp only [VM.sat,UB,UH,VL,FC];exact YY
  | 4=>
   refine ⟨4,?_⟩
   with_reducible refine H2 ?_
   rw [Zc9];simp only [ON,FC,VM.sat,GT] at hQ;simp only [VM.sat,UB,UH,VL,FC];exact YY
  |k+5=>omega
end
theorem vM{S:Code->UI->Prop}{c:Code}{s0 s1 s2 s3 s4:UI}(h0: ∀cj,VS c 0=some cj->S cj s0)(h1: ∀cj,VS c 1=some cj->S cj s1)(h2: ∀cj,VS c 2=some cj->S cj s2)(h3: ∀cj,VS c 3=some cj->S cj s3)(h4: ∀cj,VS c 4=some cj->S cj s4):
  ∀j cj,VS c j=some cj-> ∀sp,[s0,s1,s2,s3,s4][j]? =some sp->S cj sp:=by
 intro j cj hj sp hsp
 match j with
 | 0=>simp at hsp;subst hsp;exact h0 cj hj
 | 1=>simp at hsp;subst hsp;exact h1 cj hj
 | 2=>simp at hsp;subst hsp;exact h2 cj hj
 | 3=>simp at hsp;subst hsp;exact h3 cj hj
 | 4=>simp at hsp;subst hsp;exact h4 cj hj
 |j+5=>simp at hsp
theorem Zn1(B:ByteArray):bsO B.size (DN B)=B:=by
 unfold bsO;apply ByteArray.ext;apply Array.ext
 ·show ((List.range B.size).map _).toArray.size=B.data.size;rw [List.size_toArray,Bm,List.length_range];rfl
 ·intro j h1 h2;have h3:j<B.data.size:=h2;simp [DN,byO,byN,LU,Array.getElem?_eq_getElem h3]
abbrev YQ:GZ:=[(911,.row 5 1 42 (DN rp0)),(14,.cells 104 [.ptr 14 0,.row 911])]
def mA:St:={σ:=mkS 198 [(5,.ro (hsL VU)),(7,.ptr 14 0),(8,.fn (.func 40) [] [.ptr 14 0]),(9,.lst 1 6 (GY wl0)),(10,.lst 1 4 (GY wl1)),(11,.lst 1 2 (GY wl2)),(12,.lst 1 5 (GY wl3))],m:=YQ,nx:=930}
def mB:St:={σ:=mkS 198 [(0,.top),(5,.ro (hsL VU)),(7,.ptr 14 0),(8,.fn (.func 40) [] [.ptr 14 0])],m:=YQ,nx:=930}
abbrev WL:List AV:=[lst 1 11 λk=>[HZ (UM U6 k)]]
abbrev WO:List AV:=[AV.x (.string {data:=#[(99:UInt8),(101:UInt8),(114:UInt8),(116:UInt8),(105:UInt8),(102:UInt8),(105:UInt8),(99:UInt8),(97:UInt8),(116:UInt8),(101:UInt8),(115:UInt8)] })]
abbrev WV:List AV:=[agg [iI 4,iI 100,iI 20,iI 30,hR 2 VU,lst 2 3 λk=>[iI (tbP k),iI (tbQ k)],iI VU.pl,iI VU.ph,iI 1,iI 3],iI 0]
abbrev XJ:List AV:=[AV.x (.string {data:=#[(114:UInt8),(101:UInt8),(97:UInt8),(100:UInt8),(105:UInt8),(110:UInt8),(103:UInt8),(115:UInt8)] })]
abbrev ZH:List AV:=[AV.x (.string {data:=#[(115:UInt8),(97:UInt8),(108:UInt8),(101:UInt8),(115:UInt8)] })]
abbrev ZI:List AV:=[AV.x (.string {data:=#[(98:UInt8),(97:UInt8),(116:UInt8),(104:UInt8),(115:UInt8)] })]
theorem iC:VX VO 12 [lns 11 (UM U6)] (.tup [.x (.string Zf6),i 0]):=by
 have hG:VK VO [(35,sB),(19,s9),(38,s8),(45,A4)]:=(Ae kZ (Ae kS (Ae kJ (Ae x8 Aa))));have hX: ∀cx,VW VO Q9 cx:=(Aj (Af kW (Af F8 (Af RC (Af LY Ab)))) (Ag x9 (Ag kI Ac)) (Ah wW (Ah dH (UA.nil _))));have GQ:Tryz.prog.follows .mixedOrders=true:=VY
 refine SC (L:=[Wx4 0,Wx3 0,Wx2 0,Wx1 0,Wx0 0]) Tryz.func12 (UT Tryz.f12) (λcx=>(gK (N:=[(.cell 14 1,911,5,1)]) (s2:=mB) hG (hX cx) GQ (gK (N:=[(.slot 9,0,0,0),(.slot 10,0,0,0),(.slot 11,0,0,0),(.slot 12,0,0,0)]) (s2:=mA) hG (hX cx) GQ (iU hG (hX cx) GQ) VT 7) VT 6)) (vM (lpE (b:= .loop rD) VT<|(Zf5 0).N) (lpE (b:= .loop S6) VT<|(Ze8 0).N) (lpE (b:= .loop Qi1) VT<|(Ze3 0).N) (lpE (b:= .loop M5) VT<|(Ze0 0).N) (lpE (b:= .loop M4) VT<|(Zd4 0).N)) (t:=let z1:=([AV.x (.string {data:=List.toArray (Lib.itoa (↑VU.nr:Int)) })]);let z2:=([AV.x (.string {data:=List.toArray (Lib.itoa (↑VU.nb:Int)) })]);let z3:=([AV.x (.string {data:=List.toArray (Lib.itoa (↑VU.nc:Int)) })]);let z4:=([AV.x (.string {data:=List.toArray (Lib.itoa (↑VU.ns:Int)) })]);let A:=(GE 7 (GE 6 (GE 5 (GE 4 (GE 3 (GE 2 (GE 1 (GE 0 (λx=>[]) (U4 1 XJ)) (U4 1 z1)) (U4 1 ZI)) (U4 1 z2)) (U4 1 WO)) (U4 1 z3)) (U4 1 ZH)) (U4 1 z4));(need [WL=WL] (branch ((0:Int) != 0) (leaf (RV.tup [RV.x (.string {data:=#[] }),RV.x (X0)])) (need [WL=WL] (need [UJ 0 8] (need [(0:Int).toNat<8] (need [16<=140737488355328,∀(i:Nat),i<1-> ∀(a:AV),a∈U4 1 XJ i->AV.one a=true] (need [VL ((0:Int)+1)] (need [(0:Int)<=0+1/\(0:Int)+1<(↑(8:Nat):Int)] (need [((0:Int)+1).toNat<8] (need [VL (↑VU.nr:Int)] (need [32<=140737488355328,∀(i:Nat),i<1-> ∀(a:AV),a∈U4 1 z1 i->AV.one a=true] (need [VL ((0:Int)+1+1)] (need [(0:Int)<=0+1+1/\(0:Int)+1+1<(↑(8:Nat):Int)] (need [((0:Int)+1+1).toNat<8] (need [48<=140737488355328,∀(i:Nat),i<1-> ∀(a:AV),a∈U4 1 ZI i->AV.one a=true] (need [VL ((0:Int)+1+1+1)] (need [(0:Int)<=0+1+1+1/\(0:Int)+1+1+1<(↑(8:Nat):Int)] (need [((0:Int)+1+1+1).toNat<8] (need [VL (↑VU.nb:Int)] (need [64<=140737488355328,∀(i:Nat),i<1-> ∀(a:AV),a∈U4 1 z2 i->AV.one a=true] (need [VL ((0:Int)+1+1+1+1)] (need [(0:Int)<=0+1+1+1+1/\(0:Int)+1+1+1+1<(↑(8:Nat):Int)] (need [((0:Int)+1+1+1+1).toNat<8] (need [80<=140737488355328,∀(i:Nat),i<1-> ∀(a:AV),a∈U4 1 WO i->AV.one a=true] (need [VL ((0:Int)+1+1+1+1+1)] (need [(0:Int)<=0+1+1+1+1+1/\(0:Int)+1+1+1+1+1<(↑(8:Nat):Int)] (need [((0:Int)+1+1+1+1+1).toNat<8] (need [VL (↑VU.nc:Int)] (need [96<=140737488355328,∀(i:Nat),i<1-> ∀(a:AV),a∈U4 1 z3 i->AV.one a=true] (need [VL ((0:Int)+1+1+1+1+1+1)] (need [(0:Int)<=0+1+1+1+1+1+1/\(0:Int)+1+1+1+1+1+1<(↑(8:Nat):Int)] (need [((0:Int)+1+1+1+1+1+1).toNat<8] (need [112<=140737488355328,∀(i:Nat),i<1-> ∀(a:AV),a∈U4 1 ZH i->AV.one a=true] (need [VL ((0:Int)+1+1+1+1+1+1+1)] (need [(0:Int)<=0+1+1+1+1+1+1+1/\(0:Int)+1+1+1+1+1+1+1<(↑(8:Nat):Int)] (need [((0:Int)+1+1+1+1+1+1+1).toNat<8] (need [VL (↑VU.ns:Int)] (need [128<=140737488355328,∀(i:Nat),i<1-> ∀(a:AV),a∈U4 1 z4 i->AV.one a=true] (need [VL ((0:Int)+1+1+1+1+1+1+1+1)] (need [8<=100000,jQ 8 A,ByteArray.size (jnB 8 A {data:=#[32] })<=140737488355328] (need [(↑(42:Nat):Int)<=9223372036854775807] (need [42<=140737488355328] (need [Q6,WC,QN,42=42,GU 42 (GE 0 (λx=>[]) (DN (jnB 8 A {data:=#[32] }++{data:=#[10] }))) (DN rp0),WC,WZ] (need [WV=WV] (need [Q6,WC,QN,XY,XZ,Z0,Z1,WR=WR,(↑(5:Nat):Int)=5,QT,1=1,GU 1 (U4 1 [AV.x (.iface 9 (Z4))]) (GY wl0),1=1,GU 1 (U4 1 [AV.x (.iface 9 (XD))]) (GY wl1),1=1,GU 1 (U4 1 [AV.x (.iface 9 (Z5))]) (GY wl2),1=1,GU 1 (U4 1 [AV.x (.iface 9 (ZD))]) (GY wl3),42=42,GO 42 (DN rp0),WC,WZ] (need [VZ ([agg [lst 2 3 λk=>[iI (oL k),iI (oH k)],iI 1,hY 2 VU]])] (need [Q6,WC,QN,XY,XZ,Z0,Z1,W7=W7,(↑(3:Nat):Int)=3,QT,6=6,GO 6 (GY wl0),1=1,GO 1 (GY wl1),1=1,GO 1 (GY wl2),1=1,GO 1 (GY wl3),42=42,GO 42 (DN rp0),WC,WZ] (need [Q6,WC,QN,XY,XZ,Z0,Z1,VZ (hC 1 VU),(↑VU.nc:Int)=1,QT,6=6,GO 6 (GY wl0),4=4,GO 4 (GY wl1),1=1,GO 1 (GY wl2),1=1,GO 1 (GY wl3),42=42,GO 42 (DN rp0),WC,WZ] (need [Q6,WC,QN,XY,XZ,Z0,Z1,QZ,QT,6=6,GO 6 (GY wl0),4=4,GO 4 (GY wl1),2=2,GO 2 (GY wl2),1=1,GO 1 (GY wl3),42=42,GO 42 (DN rp0),WC,WZ] (need [Q6,WC,QN,J9=J9,JA=JA,JC=JC,JD=JD,42=42,GO 42 (DN rp0),WC,WZ] (need [Q6,WC,QN,Y2,(↑(4:Nat):Int)=4,QT,4=4,GO 4 (U4 1 Q7),42=42,GO 42 (DN rp0),WC,WZ] (need [uS 136 (DN rp4),0<136] (leaf (RV.tup [RV.x (.string (bsO 136 (DN rp4))),RV.x (X0)]))))))))))))))))))))))))))))))))))))))))))))))))))))))) VT ?_
 simp only [VM.sat,UB,G4,GJ,UD,UH,VL,DZ]
 (with_reducible repeat' first|apply Al|intro _)
 all_goals first|exact Ak|contradiction|omega|exact FG (by assumption) (by simp [AV.one,Value.oneCell'])|(rename_i i O;exact Qb3 (by decide+kernel) i O)|(rename_i i O;exact ltM VT i O)|exact bI (by decide+kernel)|exact pK (by decide+kernel)|decide+kernel|with_reducible rfl|rfl|trace_state
def Zb4:HS:=stS VU 1
theorem Xp4:lnE (UM G9 0) VU=9:=by decide+kernel
theorem Xp3:lnE (UM G9 1) VU=10:=by decide+kernel
theorem Xp2:lnE (UM G9 2) VU=9:=by decide+kernel
theorem Xp1:lnE (UM G9 3) VU=0:=by decide+kernel
theorem Zu5:lnE (UM G9 4) Zb4=0:=by decide+kernel
theorem Zu4:DG (lnW (UM G9 3)) VU=Zb4:=VT
abbrev KB(n:Nat)(a:Nat->Int):AV:=lst 1 n λk=>[iI (a k)]
abbrev KC(m:Nat)(b:Nat->Int):AV:=lst 1 m λk=>[iI (b k)]
section
variable (n m:Nat)(a b:Nat->Int)
def Wz3:St:={σ:=[KB n a,KC m b]++HH 24 [],m:=[],nx:=7}
noncomputable def Jp5:Code:=U9 (VS (U7 Tryz.f25) 0)
def Wg7(k:Nat):St:=(upM [(5,i k)] (Wz3 n m a b))
def v9(k:Nat):G7->Option St
 | .exit 0=>some (upM [] (Wz3 n m a b))
 | .ret=>some (upM [(4,.lit false)] (Wz3 n m a b))
 |_=>none
def Jk9:CT:= .branch (D5 ((λk=>a k==b k)) n) (.leaf (.exit 0,(v9 n m a b 0 (.exit 0)).getD (Wz3 n m a b))) (.leaf (.ret,(v9 n m a b 0 .ret).getD (Wz3 n m a b)))
def Xv5:UI:=(HG (Wg7 n m a b (0)) (Jk9 n m a b))
theorem Jb4(VR:n<=100000)(UE:n=m):G8 VO (.loop Jp5) (Xv5 n m a b):=by
 refine HF (L:=[]) Aa VY U3 (X:=Nat) (Wg7 n m a b) (λk=>k<=n/\ ∀j,j<k->((λk=>a k==b k)) j=true) (λk=>n-k) (v9 n m a b) (x0:=0) ⟨VJ,λj hj=>VJ⟩ ?_ ?_ ?_
 ·rintro k;kernel_rfl
 ·rintro k y E h;unfold v9 at h;split at h
  ·cases h;kernel_rfl
  ·cases h;kernel_rfl
  ·cases h
 ·rintro Q hQ k hx;refine ⟨(k+1),?_⟩;(with_reducible refine DH (t:=branch (decide ((k:Int)<(n:Int))) (need [UJ k n] (need [UJ k m] (branch (a k != b k) (need [VZ (KB n a),VZ (KC m b),WK] (leaf G7.ret)) (need [VL ((k:Int)+1)] (need [VZ (KB n a),VZ (KC m b),(k:Int)+1=(↑(k+1):Int)] (leaf G7.normal)))))) (need [VZ (KB n a),VZ (KC m b)] (leaf (G7.exit 0)))) VT ?_);simp only [Jk9,v9,VM.sat,GT] at hQ;have Wm6:k<n->((λk=>a k==b k)) k=false->D5 ((λk=>a k==b k)) n=false:=by
   intro h1 h2;rw [←Bool.not_eq_true];intro h3;have:=GR.1 h3 k h1;exact Bool.noConfusion (h2.symm.trans this)
  have uZ:((λk=>a k==b k)) k=true-> ∀j,j<k+1->((λk=>a k==b k)) j=true:=by
   intro h1 j hj;rcases (show j<k\/j=k by omega) with h|rfl
   ·exact hx.2 j h
   ·exact h1
  have PI: ¬k<n->D5 ((λk=>a k==b k)) n=true:=λh=>GR.2 (λj hj=>hx.2 j VJ)
  have hQ1: ∀E,v9 n m a b k .ret=some E->D5 ((λk=>a k==b k)) n=false->Q (.ret,E):=by
   intro E hE hf;cases hE;exact hQ.2 hf
  have hQ2: ∀E,v9 n m a b k (.exit 0)=some E->D5 ((λk=>a k==b k)) n=true->Q (.exit 0,E):=by
   intro E hE hf;cases hE;exact hQ.1 hf
  simp only [VM.sat,UB,UH,HA,VL,DZ]
  all_goals exact V6
theorem Wd8(VR:n<=100000):VX VO 25 [.lst 1 n (λk=>[i (a k)]),.lst 1 m (λk=>[i (b k)])] (bl (decide (n=m)&&D5 (λk=>a k==b k) n)):=by
 refine U1 (L:=[FO [n<=100000,n=m] (Xv5 n m a b)]) Aa VY Tryz.func25 (UT Tryz.f25) (G0 (lpE (b:= .loop Jp5) VT<|D2 (λh=>Jb4 n m a b h.1 h.2))) (t:=branch ((n:Int) != (m:Int)) (leaf (RV.x (WM))) (need [n<=100000,n=m] (need [VZ (KB n a),VZ (KC m b),(0:Int)=(↑(0:Nat):Int)] (branch (D5 (λk=>a k==b k) n) (leaf (RV.x (.bool true))) (leaf (RV.x (WM))))))) VT ?_
 simp only [VM.sat,UB,G4,GJ,UD,VL,UH,HA,FY,bne_iff_ne,ne_eq];refine ⟨λh=>?_,λh=>?_⟩
 ·have:n≠m:=by intro h';subst h';simp at h
  simp [this]
 ·have e:n=m:=by
   rw [bne_eq_false_iff_eq] at h;omega
  subst e;refine ⟨⟨VJ,rfl⟩,λh2=>?_,λh2=>?_⟩
  ·simp [h2]
  ·simp [h2]
end
def Qe1:UW
 |[.lst 1 n f,.lst 1 m g]=>some ([UF 1 n f,UF 1 m g,n<=100000],bl (decide (n=m)&&D5 (λk=>col 0 f k==col 0 g k) n))
 |_=>none
theorem Wd7:VP VO 25 Qe1:=by
 refine ⟨(UG Tryz.func25),?_⟩;intro avs ns res h I;unfold Qe1 at h;split at h
 ·rename_i n f m g;cases h;have hr0:UF 1 n f:=I _ VV;have hr1:UF 1 m g:=I _ VV;exact (Wd8 n m (col 0 f) (col 0 g) (I _ VV)).same (.cons (.lst 1 n _ _ hr0) (.cons (.lst 1 m _ _ hr1) .nil))
 ·cases h
def Wu3:UW
 |[.x (.slice none 0 0)]=>some ([],lns 11 (UM U6))
 |[.lst 1 n f]=>some ([n=5,∀k,k<n->f k=[.x (.string (UM G9 k))]],lns 16 (UM (U6++G9)))
 |_=>none
theorem Jb7{P:Nat->Prop}(h0:P 0)(h1:P 1)(h2:P 2)(h3:P 3)(h4:P 4)(h5:P 5)(h6:P 6)(h7:P 7)(h8:P 8)(h9:P 9)(h10:P 10): ∀i,i<11->P i:=by
 intro i O
 match i,O with
 | 0,_=>exact h0
 | 1,_=>exact h1
 | 2,_=>exact h2
 | 3,_=>exact h3
 | 4,_=>exact h4
 | 5,_=>exact h5
 | 6,_=>exact h6
 | 7,_=>exact h7
 | 8,_=>exact h8
 | 9,_=>exact h9
 | 10,_=>exact h10
 |i+11,h=>exact absurd h VJ
theorem Xr0{P:Nat->Prop}(h0:P 0)(h1:P 1)(h2:P 2)(h3:P 3)(h4:P 4)(h5:P 5)(h6:P 6)(h7:P 7)(h8:P 8)(h9:P 9)(h10:P 10)(h11:P 11)(h12:P 12)(h13:P 13)(h14:P 14)(h15:P 15): ∀i,i<16->P i:=by
 intro i O
 match i,O with
 | 0,_=>exact h0
 | 1,_=>exact h1
 | 2,_=>exact h2
 | 3,_=>exact h3
 | 4,_=>exact h4
 | 5,_=>exact h5
 | 6,_=>exact h6
 | 7,_=>exact h7
 | 8,_=>exact h8
 | 9,_=>exact h9
 | 10,_=>exact h10
 | 11,_=>exact h11
 | 12,_=>exact h12
 | 13,_=>exact h13
 | 14,_=>exact h14
 | 15,_=>exact h15
 |i+16,h=>exact absurd h VJ
abbrev JE:AV:=AV.x (.string {data:=#[(98:UInt8),(97:UInt8),(116:UInt8),(104:UInt8),(32:UInt8),(49:UInt8),(48:UInt8),(48:UInt8),(32:UInt8),(51:UInt8),(48:UInt8),(48:UInt8)] })
abbrev QI:List AV:=[AV.x (.string {data:=#[(116:UInt8),(104:UInt8),(114:UInt8),(101:UInt8),(97:UInt8),(100:UInt8),(32:UInt8),(48:UInt8),(32:UInt8),(49:UInt8),(32:UInt8),(52:UInt8),(48:UInt8),(32:UInt8),(52:UInt8),(48:UInt8)] }),AV.x (.string {data:=#[(116:UInt8),(104:UInt8),(114:UInt8),(101:UInt8),(97:UInt8),(100:UInt8),(32:UInt8),(50:UInt8),(32:UInt8),(51:UInt8),(32:UInt8),(52:UInt8),(56:UInt8),(32:UInt8),(53:UInt8),(48:UInt8)] }),AV.x (.string {data:=#[(105:UInt8),(115:UInt8),(115:UInt8),(117:UInt8),(101:UInt8),(32:UInt8),(48:UInt8),(32:UInt8),(52:UInt8),(32:UInt8),(57:UInt8),(48:UInt8),(32:UInt8),(48:UInt8)] }),JE,AV.x (.string {data:=#[(115:UInt8),(101:UInt8),(101:UInt8),(32:UInt8),(48:UInt8),(32:UInt8),(50:UInt8),(48:UInt8),(48:UInt8)] }),AV.x (.string {data:=#[(115:UInt8),(101:UInt8),(101:UInt8),(32:UInt8),(49:UInt8),(32:UInt8),(50:UInt8),(48:UInt8),(51:UInt8)] }),JE,AV.x (.string {data:=#[(115:UInt8),(101:UInt8),(101:UInt8),(32:UInt8),(49:UInt8),(32:UInt8),(50:UInt8),(53:UInt8),(50:UInt8)] }),AV.x (.string {data:=#[(115:UInt8),(101:UInt8),(101:UInt8),(32:UInt8),(50:UInt8),(32:UInt8),(50:UInt8),(53:UInt8),(48:UInt8)] }),AV.x (.string {data:=#[(115:UInt8),(101:UInt8),(108:UInt8),(108:UInt8),(32:UInt8),(48:UInt8),(32:UInt8),(49:UInt8),(32:UInt8),(54:UInt8),(32:UInt8),(49:UInt8),(32:UInt8),(51:UInt8)] }),AV.x (.string {data:=#[(115:UInt8),(101:UInt8),(108:UInt8),(108:UInt8),(32:UInt8),(49:UInt8),(32:UInt8),(50:UInt8),(32:UInt8),(52:UInt8),(32:UInt8),(50:UInt8),(32:UInt8),(50:UInt8)] })]
theorem Qv8:VX VO 10 [.x (.slice none 0 0)] (lns 11 (UM U6)):=by
 refine GV Tryz.func10 (t:=need [176<=140737488355328,∀(i:Nat),i<0-> ∀(a:AV),a∈[]->AV.one a=true] (leaf (RV.lst 1 11 (GE 11 (U4 1 QI) λx=>[])))) VT ?_
 simp only [VM.sat,UB,G4,GJ,UD,UH]
 (with_reducible repeat' first|apply Al|intro _)
 all_goals first|exact Ak|contradiction|omega|exact FG (by assumption) (by simp [AV.one,Value.oneCell'])|(rename_i ha;rw [BC.1 ha];first|exact Ak|rfl)|(rename_i i O;revert i;refine Jb7 ?_ ?_ ?_ ?_ ?_ ?_ ?_ ?_ ?_ ?_ ?_<;>(show _=_;kernel_rfl))|decide|rfl|trace_state
theorem Qv7:VX VO 10 [.lst 1 5 (λk=>[.x (.string (UM G9 k))])] (lns 16 (UM (U6++G9))):=by
 refine GV Tryz.func10 (t:=need [256<=140737488355328,∀(i:Nat),i<5-> ∀(a:AV),a∈[HZ (UM G9 i)]->AV.one a=true] (leaf (RV.lst 1 16 (GE 11 (U4 1 QI) λk=>[HZ (UM G9 k)])))) VT ?_
 simp only [VM.sat,UB,G4,GJ,UD,UH]
 (with_reducible repeat' first|apply Al|intro _)
 all_goals first|exact Ak|contradiction|omega|exact FG (by assumption) (by simp [AV.one,Value.oneCell'])|(rename_i ha;rw [BC.1 ha];first|exact Ak|rfl)|(rename_i i O;revert i;refine Xr0 ?_ ?_ ?_ ?_ ?_ ?_ ?_ ?_ ?_ ?_ ?_ ?_ ?_ ?_ ?_ ?_<;>(show _=_;kernel_rfl))|decide|rfl|trace_state
theorem Xa6:VP VO 10 Wu3:=by
 refine ⟨(UG Tryz.func10),?_⟩;intro avs ns res h I;unfold Wu3 at h;split at h
 ·cases h;exact Qv8
 ·rename_i n f;cases h;obtain rfl:n=5:=I _ VV;have h2: ∀k,k<5->f k=[.x (.string (UM G9 k))]:=I (∀k,k<5->f k=[.x (.string (UM G9 k))]) VV;exact Qv7.same (.cons (.lst 1 5 f _ h2) .nil)
 ·cases h
theorem Xn8:sK (UM (U6++G9)) 0=hs0:=rfl
theorem Xn7:sK (UM (U6++G9)) 1=wk1:=by
 show lnS (UM U6 0) (sK (UM (U6++G9)) 0)=_;rw [Xn8];unfold lnS;rw [if_pos Qv4];exact Xo8
theorem Xn6:sK (UM (U6++G9)) 2=wk2:=by
 show lnS (UM U6 1) (sK (UM (U6++G9)) 1)=_;rw [Xn7];unfold lnS;rw [if_pos Qv3];exact Xo7
theorem Xn5:sK (UM (U6++G9)) 3=wk3:=by
 show lnS (UM U6 2) (sK (UM (U6++G9)) 2)=_;rw [Xn6];unfold lnS;rw [if_pos Qv2];exact Xo6
theorem Xn4:sK (UM (U6++G9)) 4=wk4:=by
 show lnS (UM U6 3) (sK (UM (U6++G9)) 3)=_;rw [Xn5];unfold lnS;rw [if_pos Qv1];exact Xo5
theorem Xn3:sK (UM (U6++G9)) 5=wk5:=by
 show lnS (UM U6 4) (sK (UM (U6++G9)) 4)=_;rw [Xn4];unfold lnS;rw [if_pos Qv0];exact Xo4
theorem Xn2:sK (UM (U6++G9)) 6=wk6:=by
 show lnS (UM U6 5) (sK (UM (U6++G9)) 5)=_;rw [Xn3];unfold lnS;rw [if_pos Qu9];exact Xo3
theorem Xn1:sK (UM (U6++G9)) 7=wk7:=by
 show lnS (UM U6 6) (sK (UM (U6++G9)) 6)=_;rw [Xn2];unfold lnS;rw [if_pos Qu8];exact Xo2
theorem Xn0:sK (UM (U6++G9)) 8=wk8:=by
 show lnS (UM U6 7) (sK (UM (U6++G9)) 7)=_;rw [Xn1];unfold lnS;rw [if_pos Qu7];exact Xo1
theorem Xm9:sK (UM (U6++G9)) 9=wk9:=by
 show lnS (UM U6 8) (sK (UM (U6++G9)) 8)=_;rw [Xn0];unfold lnS;rw [if_pos Qu6];exact Xo0
theorem Qt4:sK (UM (U6++G9)) 10=Qi2:=by
 show lnS (UM U6 9) (sK (UM (U6++G9)) 9)=_;rw [Xm9];unfold lnS;rw [if_pos Qu5];exact Xn9
theorem Qt3:sK (UM (U6++G9)) 11=VU:=by
 show lnS (UM U6 10) (sK (UM (U6++G9)) 10)=_;rw [Qt4];unfold lnS;rw [if_pos mK];exact Qt7
theorem Qt2:sK (UM (U6++G9)) 12=VU:=by
 show lnS (UM G9 0) (sK (UM (U6++G9)) 11)=_;rw [Qt3];unfold lnS;rw [if_neg (by rw [Xp4];decide)]
theorem Qt1:sK (UM (U6++G9)) 13=VU:=by
 show lnS (UM G9 1) (sK (UM (U6++G9)) 12)=_;rw [Qt2];unfold lnS;rw [if_neg (by rw [Xp3];decide)]
theorem Qt0:sK (UM (U6++G9)) 14=VU:=by
 show lnS (UM G9 2) (sK (UM (U6++G9)) 13)=_;rw [Qt1];unfold lnS;rw [if_neg (by rw [Xp2];decide)]
theorem Xy7:sK (UM (U6++G9)) 15=Zb4:=by
 show lnS (UM G9 3) (sK (UM (U6++G9)) 14)=_;rw [Qt0];unfold lnS;rw [if_pos Xp1];exact Zu4
theorem Zu2:eK (UM (U6++G9)) 0=0:=by
 show lnE (UM U6 0) (sK (UM (U6++G9)) 0)=_;rw [Xn8];exact Qv4
theorem Zu1:eK (UM (U6++G9)) 1=0:=by
 show lnE (UM U6 1) (sK (UM (U6++G9)) 1)=_;rw [Xn7];exact Qv3
theorem Zu0:eK (UM (U6++G9)) 2=0:=by
 show lnE (UM U6 2) (sK (UM (U6++G9)) 2)=_;rw [Xn6];exact Qv2
theorem Zt9:eK (UM (U6++G9)) 3=0:=by
 show lnE (UM U6 3) (sK (UM (U6++G9)) 3)=_;rw [Xn5];exact Qv1
theorem Zt8:eK (UM (U6++G9)) 4=0:=by
 show lnE (UM U6 4) (sK (UM (U6++G9)) 4)=_;rw [Xn4];exact Qv0
theorem Zt7:eK (UM (U6++G9)) 5=0:=by
 show lnE (UM U6 5) (sK (UM (U6++G9)) 5)=_;rw [Xn3];exact Qu9
theorem Zt6:eK (UM (U6++G9)) 6=0:=by
 show lnE (UM U6 6) (sK (UM (U6++G9)) 6)=_;rw [Xn2];exact Qu8
theorem Zt5:eK (UM (U6++G9)) 7=0:=by
 show lnE (UM U6 7) (sK (UM (U6++G9)) 7)=_;rw [Xn1];exact Qu7
theorem Zt4:eK (UM (U6++G9)) 8=0:=by
 show lnE (UM U6 8) (sK (UM (U6++G9)) 8)=_;rw [Xn0];exact Qu6
theorem Zt3:eK (UM (U6++G9)) 9=0:=by
 show lnE (UM U6 9) (sK (UM (U6++G9)) 9)=_;rw [Xm9];exact Qu5
theorem Xz3:eK (UM (U6++G9)) 10=0:=by
 show lnE (UM U6 10) (sK (UM (U6++G9)) 10)=_;rw [Qt4];exact mK
theorem Xz2:eK (UM (U6++G9)) 11=9:=by
 show lnE (UM G9 0) (sK (UM (U6++G9)) 11)=_;rw [Qt3];exact Xp4
theorem Xz1:eK (UM (U6++G9)) 12=10:=by
 show lnE (UM G9 1) (sK (UM (U6++G9)) 12)=_;rw [Qt2];exact Xp3
theorem Xz0:eK (UM (U6++G9)) 13=9:=by
 show lnE (UM G9 2) (sK (UM (U6++G9)) 13)=_;rw [Qt1];exact Xp2
theorem Xy9:eK (UM (U6++G9)) 14=0:=by
 show lnE (UM G9 3) (sK (UM (U6++G9)) 14)=_;rw [Qt0];exact Xp1
theorem Xy8:eK (UM (U6++G9)) 15=0:=by
 show lnE (UM G9 4) (sK (UM (U6++G9)) 15)=_;rw [Xy7];exact Zu5
def wrB:ByteArray:=⟨#[91,48,48,49,58,48,48,50,50,51,93,97,10]⟩
def lnA(_:Nat):ByteArray:=⟨#[97]⟩
def Xl6(s:HS):DA:=λl=>some (.need [l=[lns 16 (UM (U6++G9))]] (.leaf (.tup [.agg (hsL s),.lst 1 16 (λj=>[i (U8 [0,0,0,0,0,0,0,0,0,0,0,9,10,9,0,0] j)]),i 0])))
def Zo0:DA:=λl=>some (.need [l=[lns 11 (UM U6)]] (.leaf (.tup [.lst 2 3 (λk=>[i (U8 [0,1,-3] k),i (U8 [0,5,5] k)]),i 0])))
def Zn7:DA:=λl=>some (.need [l=[lns 11 (UM U6),i 0]] (.leaf (.tup [.lst 1 1 (λk=>[i (U8 [0] k)]),i 0])))
def Zn9:DA:=λl=>some (.need [l=[lns 11 (UM U6),i 1]] (.leaf (.tup [.lst 1 2 (λk=>[i (U8 [0,1] k)]),.lst 1 1 (λk=>[i (U8 [0] k)]),i 0])))
def Zn8:UW:=λl=>some ([l=[lns 11 (UM U6)]],.tup [.x (.string Zf6),i 0])
def Wv7:DA:=λl=>match l with
 |[.lst 1 n f]=>some (.need [n=1,f 0=[.x (.string (lnA 0))]] (.leaf (.tup [.lst 1 13 (DN wrB),i 0])))
 |_=>none
theorem qP{P:Program}{f:FuncId}{avs:List AV}{t sp:VM AV}(h:UN P f avs t)(hm: ∀Q:AV->Prop,sp.sat Q->t.sat (λr=> ∃r',FE r r'/\Q r')):UN P f avs sp:=by
 intro Q hQ e w args q1 q2 q3 q4;refine (h _ (hm Q hQ) e w args q1 q2 q3 q4).mono ?_;rintro en w' ⟨v,r,rfl,⟨r',g1,g2⟩,g3,g4⟩;exact ⟨v,r',rfl,g2,g3,RY g1 g4⟩
theorem Zu3:ckE 16 (UM (U6++G9))=0:=by decide+kernel
theorem Qw0(s:HS)(hs:s=sK (UM (U6++G9)) 16):Sx.Enters Tryz.prog 27/\ ∀avs t,Xl6 s avs=some t->UN VO 27 avs t:=by
 refine ⟨(UG Tryz.func27),?_⟩;intro avs t h;cases h;intro Q hQ;have e:avs=[lns 16 (UM (U6++G9))]:=hQ.1;subst e;have h1:=iD 16 (UM (U6++G9)) VJ;refine qP h1 (sp:= .leaf (.tup [.agg (hsL s),.lst 1 16 (λj=>[i (U8 [0,0,0,0,0,0,0,0,0,0,0,9,10,9,0,0] j)]),i 0])) (λQ hq=>⟨λh=>?_,λ_=>?_⟩) Q hQ.2
 ·rw [Zu3] at h;exact absurd h (by decide)
 ·refine ⟨.tup [.agg (hsL s),.lst 1 16 (λj=>[i (U8 [0,0,0,0,0,0,0,0,0,0,0,9,10,9,0,0] j)]),i 0],⟨?_,⟨rfl,rfl,λk hk=>?_⟩,⟨rfl,rfl⟩,Ak⟩,hq⟩
  ·rw [hs];exact rZ _
  ·revert k;refine Xr0 (congrArg (λz=>[i z]) Zu2) (congrArg (λz=>[i z]) Zu1) (congrArg (λz=>[i z]) Zu0) (congrArg (λz=>[i z]) Zt9) (congrArg (λz=>[i z]) Zt8) (congrArg (λz=>[i z]) Zt7) (congrArg (λz=>[i z]) Zt6) (congrArg (λz=>[i z]) Zt5) (congrArg (λz=>[i z]) Zt4) (congrArg (λz=>[i z]) Zt3) (congrArg (λz=>[i z]) Xz3) (congrArg (λz=>[i z]) Xz2) (congrArg (λz=>[i z]) Xz1) (congrArg (λz=>[i z]) Xz0) (congrArg (λz=>[i z]) Xy9) (congrArg (λz=>[i z]) Xy8)
theorem Xb1:Sx.Enters Tryz.prog 21/\ ∀avs t,Zo0 avs=some t->UN VO 21 avs t:=by
 refine ⟨(UG Tryz.func21),?_⟩;intro avs t h;cases h;intro Q hQ;have e:avs=[lns 11 (UM U6)]:=hQ.1;subst e;have h1:=iE 11 (UM U6) VJ;rw [A9] at h1;refine qP h1 (sp:= .leaf (.tup [.lst 2 3 (λk=>[i (U8 [0,1,-3] k),i (U8 [0,5,5] k)]),i 0])) (λQ hq=>⟨λh=>?_,λ_=>?_⟩) Q hQ.2
 ·rw [bC] at h;exact absurd h (by decide)
 ·refine ⟨.tup [.lst 2 3 (λk=>[i (U8 [0,1,-3] k),i (U8 [0,5,5] k)]),i 0],⟨⟨rfl,Xo9,λk hk=>?_⟩,(show FE (i _) (i 0) by rw [Xp0];exact ⟨rfl,rfl⟩),Ak⟩,hq⟩
  rcases (show k=0\/k=1\/k=2 by omega) with rfl|rfl|rfl
  ·show [i _,i _]=_;rw [Qu0,Qu3];rfl
  ·show [i _,i _]=_;rw [Qt9,Qu2];rfl
  ·show [i _,i _]=_;rw [Qt8,Qu1];rfl
theorem Xa8:Sx.Enters Tryz.prog 9/\ ∀avs t,Zn7 avs=some t->UN VO 9 avs t:=by
 refine ⟨(UG Tryz.func9),?_⟩;intro avs t h;cases h;intro Q hQ;have e:avs=[lns 11 (UM U6),i 0]:=hQ.1;subst e;have h1:=gC 11 (UM U6) 0 VJ;rw [A9] at h1;have I:VU.nc=1:=VT;have hc:G6 (stP VU 0) 1=1:=by rw [F9 Qt6];rfl
 refine qP h1 (sp:= .leaf (.tup [.lst 1 1 (λk=>[i (U8 [0] k)]),i 0])) (λQ hq=>⟨λh=>?_,λ_=>⟨λh=>absurd h (by decide),λ_=>?_⟩⟩) Q hQ.2
 ·rw [bC] at h;exact absurd h (by decide)
 ·refine ⟨.tup [.lst 1 1 (λk=>[i (U8 [0] k)]),i 0],⟨⟨rfl,by rw [I];exact hc,λk hk=>?_⟩,⟨rfl,rfl⟩,Ak⟩,hq⟩
  obtain rfl:k=0:=VJ;have h2:=BJ (show 0<VU.nc by rw [I];omega) Qt6
  have h3:G6 (stP VU 0) 0=0:=rfl;rw [h3] at h2;show [i _]=_;rw [h2];rfl
theorem Xb0:Sx.Enters Tryz.prog 11/\ ∀avs t,Zn9 avs=some t->UN VO 11 avs t:=by
 refine ⟨(UG Tryz.func11),?_⟩;intro avs t h;cases h;intro Q hQ;have e:avs=[lns 11 (UM U6),i 1]:=hQ.1;subst e;have h1:=Qo5 11 (UM U6) 1 VJ;rw [A9] at h1;have c0:G6 (caB VU.ns VU.sa VU.sb VU.sc VU.sl VU.sh 1) 0=0:=rfl;have c1:G6 (caB VU.ns VU.sa VU.sb VU.sc VU.sl VU.sh 1) 1=1:=by rw [F9 Qv6,c0]
 have c2:G6 (caB VU.ns VU.sa VU.sb VU.sc VU.sl VU.sh 1) 2=2:=by rw [F9 Qv5,c1]
 have c3:G6 (caB VU.ns VU.sa VU.sb VU.sc VU.sl VU.sh 1) 3=2:=by rw [RG Zb3,c2]
 have c4:G6 (caB VU.ns VU.sa VU.sb VU.sc VU.sl VU.sh 1) 4=2:=by rw [RG Zb2,c3]
 have d0:G6 (suB VU.ns VU.sa VU.sb VU.sc VU.sl VU.sh 1) 0=0:=rfl;have d1:G6 (suB VU.ns VU.sa VU.sb VU.sc VU.sl VU.sh 1) 1=1:=by rw [F9 Qt5,d0]
 have d2:G6 (suB VU.ns VU.sa VU.sb VU.sc VU.sl VU.sh 1) 2=1:=by rw [RG Xz6,d1]
 have d3:G6 (suB VU.ns VU.sa VU.sb VU.sc VU.sl VU.sh 1) 3=1:=by rw [RG Xz5,d2]
 have d4:G6 (suB VU.ns VU.sa VU.sb VU.sc VU.sl VU.sh 1) 4=1:=by rw [RG Xz4,d3]
 have e0:=BJ (show 0<4 by omega) Qv6
 have e1:=BJ (show 1<4 by omega) Qv5
 have f0:=BJ (show 0<4 by omega) Qt5
 rw [c0] at e0;rw [c1] at e1;rw [d0] at f0;refine qP h1 (sp:= .leaf (.tup [.lst 1 2 (λk=>[i (U8 [0,1] k)]),.lst 1 1 (λk=>[i (U8 [0] k)]),i 0])) (λQ hq=>⟨λh=>?_,λ_=>⟨λh=>absurd h (by decide),λ_=>⟨λh=>?_,λ_=>?_⟩⟩⟩) Q hQ.2
 ·rw [bC] at h;exact absurd h (by decide)
 ·rw [Qu4] at h;exact Bool.noConfusion h
 ·refine ⟨.tup [.lst 1 2 (λk=>[i (U8 [0,1] k)]),.lst 1 1 (λk=>[i (U8 [0] k)]),i 0],⟨⟨rfl,c4,λk hk=>?_⟩,⟨rfl,d4,λk hk=>?_⟩,⟨rfl,rfl⟩,Ak⟩,hq⟩
  ·rcases (show k=0\/k=1 by omega) with rfl|rfl
   ·show [i _]=_;rw [e0];rfl
   ·show [i _]=_;rw [e1];rfl
  ·obtain rfl:k=0:=VJ;show [i _]=_;rw [f0];rfl
theorem Xa9:VP VO 12 Zn8:=by
 refine ⟨(UG Tryz.func12),?_⟩;intro avs ns res h I;cases h;have e:avs=[lns 11 (UM U6)]:=I _ GG;subst e;exact iC
theorem Xa7:Sx.Enters Tryz.prog 32/\ ∀avs t,Wv7 avs=some t->UN VO 32 avs t:=by
 refine ⟨(UG Tryz.func32),?_⟩;intro avs t h;unfold Wv7 at h;split at h
 ·rename_i n f;cases h;intro Q hQ;obtain rfl:n=1:=hQ.1.1;have h2:f 0=[.x (.string (lnA 0))]:=hQ.1.2;have h1:=Qo4 1 lnA VJ;have hb:flB lnA 1=wrB:=by decide+kernel
  rw [hb] at h1;have h3:UN VO 32 [.lst 1 1 f] (.leaf (.tup [.lst 1 13 (DN wrB),i 0])):=by
   intro Q hq e w args q1 q2 q3 q4;refine h1 Q ⟨λh=>?_,λ_=>hq⟩ e w args q1 q2 ?_ ?_
   ·rw [show ckE 1 lnA=0 by decide+kernel] at h
    exact absurd h (by decide)
   ·intro a ha;rw [BC.1 ha];exact .lst _ _ _ λk _ x hx=>by rw [BC.1 hx];exact .x _
   ·obtain ⟨u,us,rfl,r1,r2⟩:=q4.cons_inv;refine .cons (RY (a:= .lst 1 1 f) ⟨rfl,rfl,λk hk=>?_⟩ r1) r2
    obtain rfl:k=0:=VJ;exact h2
  exact h3 Q hQ.2
 ·cases h
theorem Zi1{a b:ByteArray}(h:(a.toList==b.toList)=false)(e:a=b):False:=by
 subst e;simp at h
abbrev WF:List Int:=[(0:Int),0,0,0,0,0,0,0,0,0,0,(9:Int),(10:Int),(9:Int),(0:Int),(0:Int)]
abbrev JF:List AV:=[lst 1 11 λk=>[HZ (UM U6 k)],iI 0]
abbrev JG:List AV:=[lst 1 11 λk=>[HZ (UM U6 k)],iI 1]
abbrev JI:List AV:=[lst 1 16 λk=>[HZ (UM (U6++G9) k)]]
theorem Qi4(s:HS)(VR:s=sK (UM (U6++G9)) 16):VX VO 14 [] (bl true):=by
 refine GA (L:=[]) (Ae Xa6 (Ae Wd7 (Ae Xa9 Aa))) (Aj Ab Ac (Ah (Qw0 s VR) (Ah Xb1 (Ah Xa8 (Ah Xb0 (Ah Xa7 (UA.nil _))))))) VY Tryz.func14 (UT Tryz.f14) G5 (t:=let A:=(U4 1 [iI 0,iI 1]);let z1:=(U4 1 [iI 0]);(need [5=5,GU 5 (U4 1 [AV.x (.string {data:=#[116,104,114,101,97,100,32,48,32,50,32,52,48,32,52,48] }),AV.x (.string {data:=#[105,115,115,117,101,32,48,32,52,32,56,48,32,48] }),AV.x (.string {data:=#[115,101,101,32,48,32,49,48,48] }),AV.x (.string {data:=#[115,116,114,105,107,101,32,49] }),AV.x (.string {data:=#[118,111,105,100,32,48] })]) (λk=>[HZ (UM G9 k)])] (need [JI=JI] (need [WL=WL] (need [JF=JF] (need [JG=JG] (need [WL=WL] (need [1=1,[AV.x (.string {data:=#[97] })]=[HZ (lnA 0)]] (branch ((0:Int)==0) (branch ((↑(16:Nat):Int)==16) (need [UJ 10 16] (branch (U8 WF (10:Int).toNat==0) (need [UJ 11 16] (branch (U8 WF (11:Int).toNat==9) (need [UJ 12 16] (branch (U8 WF (12:Int).toNat==10) (need [UJ 13 16] (branch (U8 WF (13:Int).toNat==9) (need [UJ 14 16] (branch (U8 WF (14:Int).toNat==0) (need [UJ 15 16] (branch (U8 WF (15:Int).toNat==0) (branch ((0:Int)==0) (branch ((↑(3:Nat):Int)==3) (need [UJ 1 3] (branch (U8 WU (1:Int).toNat==1&&(U8 Z6 (1:Int).toNat==5&&true)) (need [UJ 2 3] (branch (U8 WU (2:Int).toNat==(-3:Int)&&(U8 Z6 (2:Int).toNat==5&&true)) (branch ((0:Int)==0) (need [UF 1 1 λk=>[i (U8 [(0:Int)] k)],UF 1 1 z1,1<=100000] (branch (decide (1=1)&&(true&&U8 [(0:Int)] (nat_lit 0)==col 0 z1 (nat_lit 0))) (branch ((0:Int)==0) (need [UF 1 2 λk=>[i (U8 [(0:Int),1] k)],UF 1 2 A,2<=100000] (branch (decide (2=2)&&(true&&U8 [(0:Int),1] (nat_lit 0)==col 0 A (nat_lit 0)&&U8 [(0:Int),1] (nat_lit 1)==col 0 A (nat_lit 1))) (need [UF 1 1 λk=>[i (U8 [(0:Int)] k)],UF 1 1 z1,1<=100000] (branch (decide (1=1)&&(true&&U8 [(0:Int)] (nat_lit 0)==col 0 z1 (nat_lit 0))) (branch ((0:Int)==0) (branch (ByteArray.toList Zf6==ByteArray.toList {data:=List.toArray (List.append (List.append [(114:UInt8),(101:UInt8),(97:UInt8),(100:UInt8),(105:UInt8),(110:UInt8),(103:UInt8),(115:UInt8),(32:UInt8),(50:UInt8),(32:UInt8),(98:UInt8),(97:UInt8),(116:UInt8),(104:UInt8),(115:UInt8),(32:UInt8),(50:UInt8),(32:UInt8),(99:UInt8),(101:UInt8),(114:UInt8),(116:UInt8),(105:UInt8),(102:UInt8),(105:UInt8),(99:UInt8),(97:UInt8),(116:UInt8),(101:UInt8),(115:UInt8),(32:UInt8),(49:UInt8),(32:UInt8)] [(115:UInt8),(97:UInt8),(108:UInt8),(101:UInt8),(115:UInt8),(32:UInt8),(50:UInt8),(10:UInt8),(109:UInt8),(97:UInt8),(114:UInt8),(107:UInt8),(115:UInt8),(32:UInt8),(48:UInt8),(46:UInt8),(46:UInt8),(48:UInt8),(32:UInt8),(50:UInt8),(48:UInt8),(48:UInt8),(46:UInt8),(46:UInt8),(51:UInt8),(48:UInt8),(48:UInt8),(32:UInt8),(52:UInt8),(49:UInt8),(48:UInt8),(46:UInt8),(46:UInt8),(53:UInt8)]) (List.append [(49:UInt8),(48:UInt8),(32:UInt8),(55:UInt8),(48:UInt8),(48:UInt8),(46:UInt8),(46:UInt8),(56:UInt8),(48:UInt8),(48:UInt8),(32:UInt8),(49:UInt8),(48:UInt8),(48:UInt8),(48:UInt8),(46:UInt8),(46:UInt8),(49:UInt8),(48:UInt8),(48:UInt8),(48:UInt8),(10:UInt8),(111:UInt8),(102:UInt8),(102:UInt8),(115:UInt8),(101:UInt8),(116:UInt8),(115:UInt8),(32:UInt8),(48:UInt8),(46:UInt8),(46:UInt8)] [(48:UInt8),(32:UInt8),(49:UInt8),(46:UInt8),(46:UInt8),(53:UInt8),(32:UInt8),(45:UInt8),(51:UInt8),(46:UInt8),(46:UInt8),(53:UInt8),(10:UInt8),(115:UInt8),(116:UInt8),(97:UInt8),(110:UInt8),(100:UInt8),(32:UInt8),(48:UInt8),(10:UInt8),(104:UInt8),(111:UInt8),(108:UInt8),(100:UInt8),(32:UInt8),(52:UInt8),(32:UInt8),(50:UInt8),(32:UInt8),(52:UInt8),(32:UInt8),(48:UInt8),(10:UInt8)])) }) (branch ((0:Int)==0) (need [uS 13 (DN wrB)] (leaf (RV.x (.bool (ByteArray.toList (bsO 13 (DN wrB))==ByteArray.toList {data:=#[91,48,48,49,58,48,48,50,50,51,93,97,10] }))))) (leaf (RV.x (WM)))) (leaf (RV.x (WM)))) (leaf (RV.x (WM)))) (leaf (RV.x (WM))))) (leaf (RV.x (WM))))) (leaf (RV.x (WM)))) (leaf (RV.x (WM))))) (leaf (RV.x (WM)))) (leaf (RV.x (WM))))) (leaf (RV.x (WM))))) (leaf (RV.x (WM)))) (leaf (RV.x (WM)))) (leaf (RV.x (WM))))) (leaf (RV.x (WM))))) (leaf (RV.x (WM))))) (leaf (RV.x (WM))))) (leaf (RV.x (WM))))) (leaf (RV.x (WM))))) (leaf (RV.x (WM)))) (leaf (RV.x (WM)))))))))))) VT ?_
 have hw:bsO 13 (DN wrB)=wrB:=Zn1 wrB;simp only [VM.sat,UB,G4,GJ,UD,UH,VL,hw]
 (with_reducible repeat' first|apply Al|intro _)
 all_goals first|exact Ak|contradiction|(rename_i h;exact (Zi1 h VT).elim)|omega|exact pK (by decide+kernel)|(intro k hk;exact ltM VT k hk)|(rename_i k hk;exact ltM VT k hk)|(rename_i k hk;revert k;refine ltM ?_;kernel_rfl)|(intro k hk;revert k;refine ltM ?_;kernel_rfl)|decide|decide+kernel|rfl
def Qd4:UW
 |[]=>some ([],bl true)
 |_=>none
theorem Qv9:VP VO 14 Qd4:=by
 refine ⟨(UG Tryz.func14),?_⟩;intro avs ns res h I;unfold Qd4 at h;split at h
 ·cases h;exact Qi4 _ rfl
 ·cases h
section
variable (n:Nat)(L:Nat->ByteArray)
def thA:Bool:=D5 (λk=>decide (((L k).size:Int)<=210)) (min n 56)
def thB:Bool:=thA n L&&decide ((n:Int)<=55)
def rgB:Bool:=D5 (λk=>decide (((L k).size:Int)<=200)) n&&decide ((n:Int)<=50)
def rdB(most:Int):Bool:=thB n L&&(rgB n L&&decide ((n:Int)<=most))
def Wy7:St:={σ:=[Q8 n L]++HH 22 [],m:=[],nx:=2}
noncomputable def Jo2:Code:=U9 (VS (U7 Tryz.f49) 0)
def Wf2(k:Nat):St:=(upM [(3,i k)] (Wy7 n L))
def v6(k:Nat):G7->Option St
 | .exit 0=>some (upM [] (Wy7 n L))
 | .ret=>some (upM [(2,.lit false)] (Wy7 n L))
 |_=>none
def Jj3:CT:= .branch (D5 ((λk=>decide (((L k).size:Int)<=210))) (min n 56)) (.leaf (.exit 0,(v6 n L 0 (.exit 0)).getD (Wy7 n L))) (.leaf (.ret,(v6 n L 0 .ret).getD (Wy7 n L)))
def Xt8:UI:=(HG (Wf2 n L (0)) (Jj3 n L))
theorem Zw8(VR:(min n 56)<=100000):G8 VO (.loop Jo2) (Xt8 n L):=by
 refine HF (L:=[]) Aa VY U3 (X:=Nat) (Wf2 n L) (λk=>k<=(min n 56)/\ ∀j,j<k->((λk=>decide (((L k).size:Int)<=210))) j=true) (λk=>(min n 56)-k) (v6 n L) (x0:=0) ⟨VJ,λj hj=>VJ⟩ ?_ ?_ ?_
 ·rintro k;kernel_rfl
 ·rintro k y E h;unfold v6 at h;split at h
  ·cases h;kernel_rfl
  ·cases h;kernel_rfl
  ·cases h
 ·rintro Q hQ k hx;refine ⟨(k+1),?_⟩;(with_reducible refine DH (t:=let A:=(need [VZ (Q8 n L)] (leaf (G7.exit 0)));(branch (decide ((k:Int)<(n:Int))) (branch (decide ((k:Int)<56)) (need [UJ k n] (branch (decide ((↑(ByteArray.size (L k)):Int)>210)) (need [VZ (Q8 n L),WK] (leaf G7.ret)) (need [VL ((k:Int)+1)] (need [VZ (Q8 n L),(k:Int)+1=(↑(k+1):Int)] (leaf G7.normal))))) A) A)) VT ?_);simp only [Jj3,v6,VM.sat,GT] at hQ;have Wm6:k<(min n 56)->((λk=>decide (((L k).size:Int)<=210))) k=false->D5 ((λk=>decide (((L k).size:Int)<=210))) (min n 56)=false:=by
   intro h1 h2;rw [←Bool.not_eq_true];intro h3;have:=GR.1 h3 k h1;exact Bool.noConfusion (h2.symm.trans this)
  have uZ:((λk=>decide (((L k).size:Int)<=210))) k=true-> ∀j,j<k+1->((λk=>decide (((L k).size:Int)<=210))) j=true:=by
   intro h1 j hj;rcases (show j<k\/j=k by omega) with h|rfl
   ·exact hx.2 j h
   ·exact h1
  have PI: ¬k<(min n 56)->D5 ((λk=>decide (((L k).size:Int)<=210))) (min n 56)=true:=λh=>GR.2 (λj hj=>hx.2 j VJ)
  have hQ1: ∀E,v6 n L k .ret=some E->D5 ((λk=>decide (((L k).size:Int)<=210))) (min n 56)=false->Q (.ret,E):=by
   intro E hE hf;cases hE;exact hQ.2 hf
  have hQ2: ∀E,v6 n L k (.exit 0)=some E->D5 ((λk=>decide (((L k).size:Int)<=210))) (min n 56)=true->Q (.exit 0,E):=by
   intro E hE hf;cases hE;exact hQ.1 hf
  simp only [VM.sat,UB,UH,HA,VL,DZ]
  all_goals exact V6
theorem We4:VX VO 49 [lns n L] (bl (thB n L)):=by
 refine U1 (L:=[FO [min n 56<=100000] (Xt8 n L)]) Aa VY Tryz.func49 (UT Tryz.f49) (G0 (lpE (b:= .loop Jo2) VT<|D2 (λh=>Zw8 n L h))) (t:=need [min n 56<=100000] (need [VZ (Q8 n L),(0:Int)=(↑(0:Nat):Int)] (branch (D5 (λk=>decide ((↑(ByteArray.size (L k)):Int)<=210)) (min n 56)) (leaf (RV.x (.bool (decide ((n:Int)<=55))))) (leaf (RV.x (WM)))))) VT ?_
 simp only [VM.sat,UB,G4,GJ,UD,VL,UH,HA,FY];unfold thB thA;refine ⟨VJ,λh=>?_,λh=>?_⟩
 ·simp [h]
 ·simp [h]
def Xl9:UW:=λl=>some ([l=[lns n L]],bl (thB n L))
theorem Ql6:VP VO 49 (Xl9 n L):=by
 refine ⟨(UG Tryz.func49),?_⟩;intro avs ns res h I;cases h;have e:=I _ GG;subst e;exact We4 n L
def aT:St:={σ:=[Q8 n L]++HH 18 [],m:=[],nx:=2}
noncomputable def Xa1:Code:=U9 (VS (U7 Tryz.f50) 0)
def EE(k:Nat):St:=(upM [(3,i k)] (aT n L))
def PL(k:Nat):G7->Option St
 | .exit 0=>some (upM [] (aT n L))
 | .ret=>some (upM [(2,.lit false)] (aT n L))
 |_=>none
def Wu0:CT:= .branch (D5 ((λk=>decide (((L k).size:Int)<=200))) n) (.leaf (.exit 0,(PL n L 0 (.exit 0)).getD (aT n L))) (.leaf (.ret,(PL n L 0 .ret).getD (aT n L)))
def m7:UI:=(HG (EE n L (0)) (Wu0 n L))
theorem Qz6(VR:n<=100000):G8 VO (.loop Xa1) (m7 n L):=by
 refine HF (L:=[]) Aa VY U3 (X:=Nat) (EE n L) (λk=>k<=n/\ ∀j,j<k->((λk=>decide (((L k).size:Int)<=200))) j=true) (λk=>n-k) (PL n L) (x0:=0) ⟨VJ,λj hj=>VJ⟩ ?_ ?_ ?_
 ·rintro k;kernel_rfl
 ·rintro k y E h;unfold PL at h;split at h
  ·cases h;kernel_rfl
  ·cases h;kernel_rfl
  ·cases h
 ·rintro Q hQ k hx;refine ⟨(k+1),?_⟩;(with_reducible refine DH (t:=branch (decide ((k:Int)<(n:Int))) (need [UJ k n] (branch (decide ((↑(ByteArray.size (L k)):Int)>200)) (need [VZ (Q8 n L),WK] (leaf G7.ret)) (need [VL ((k:Int)+1)] (need [VZ (Q8 n L),(k:Int)+1=(↑(k+1):Int)] (leaf G7.normal))))) (need [VZ (Q8 n L)] (leaf (G7.exit 0)))) VT ?_);simp only [Wu0,PL,VM.sat,GT] at hQ;have Wm6:k<n->((λk=>decide (((L k).size:Int)<=200))) k=false->D5 ((λk=>decide (((L k).size:Int)<=200))) n=false:=by
   intro h1 h2;rw [←Bool.not_eq_true];intro h3;have:=GR.1 h3 k h1;exact Bool.noConfusion (h2.symm.trans this)
  have uZ:((λk=>decide (((L k).size:Int)<=200))) k=true-> ∀j,j<k+1->((λk=>decide (((L k).size:Int)<=200))) j=true:=by
   intro h1 j hj;rcases (show j<k\/j=k by omega) with h|rfl
   ·exact hx.2 j h
   ·exact h1
  have PI: ¬k<n->D5 ((λk=>decide (((L k).size:Int)<=200))) n=true:=λh=>GR.2 (λj hj=>hx.2 j VJ)
  have hQ1: ∀E,PL n L k .ret=some E->D5 ((λk=>decide (((L k).size:Int)<=200))) n=false->Q (.ret,E):=by
   intro E hE hf;cases hE;exact hQ.2 hf
  have hQ2: ∀E,PL n L k (.exit 0)=some E->D5 ((λk=>decide (((L k).size:Int)<=200))) n=true->Q (.exit 0,E):=by
   intro E hE hf;cases hE;exact hQ.1 hf
  simp only [VM.sat,UB,UH,HA,VL,DZ]
  all_goals exact V6
theorem Ql7(VR:n<=100000):VX VO 50 [lns n L] (bl (rgB n L)):=by
 refine U1 (L:=[FO [n<=100000] (m7 n L)]) Aa VY Tryz.func50 (UT Tryz.f50) (G0 (lpE (b:= .loop Xa1) VT<|D2 (λh=>Qz6 n L h))) (t:=need [n<=100000] (need [VZ (Q8 n L),(0:Int)=(↑(0:Nat):Int)] (branch (D5 (λk=>decide ((↑(ByteArray.size (L k)):Int)<=200)) n) (leaf (RV.x (.bool (decide ((n:Int)<=50))))) (leaf (RV.x (WM)))))) VT ?_
 simp only [VM.sat,UB,G4,GJ,UD,VL,UH,HA,FY];unfold rgB;refine ⟨VJ,λh=>?_,λh=>?_⟩
 ·simp [h]
 ·simp [h]
def Qr7:UW:=λl=>some ([l=[lns n L],n<=100000],bl (rgB n L))
theorem oA:VP VO 50 (Qr7 n L):=by
 refine ⟨(UG Tryz.func50),?_⟩;intro avs ns res h I;cases h;have e:avs=[lns n L]:=I _ VV;have h0:n<=100000:=I _ VV;subst e;exact Ql7 n L h0
theorem Ql8(most:Int):VX VO 15 [lns n L,i most] (bl (rdB n L most)):=by
 refine U1 (L:=[]) (Ae (Ql6 n L) (Ae (oA n L) Aa)) VY Tryz.func15 (UT Tryz.f15) U3 (t:=need [(KV n L)] (branch (thB n L) (need [(KV n L),n<=100000] (branch (rgB n L) (leaf (RV.x (.bool (decide ((n:Int)<=most))))) (leaf (RV.x (WM))))) (leaf (RV.x (WM))))) VT ?_;simp only [VM.sat,UB,G4,UD,UH];have I:thB n L=true->n<=55:=λh=>by
  unfold thB at h;rw [H6,kD] at h;omega
 unfold rdB
 (with_reducible repeat' first|apply Al|intro _)
 all_goals first|(have:=I (by assumption);omega)|simp_all
theorem We5(VR:n<=100000):VX VO 22 [lns n L] (lns n L):=by
 refine GA (L:=[]) Aa Ad VY Tryz.func22 (UT Tryz.f22) G5 (t:=need [(0+n)*16<=140737488355328,∀(i:Nat),i<n-> ∀(a:AV),a∈[HZ (L i)]->AV.one a=true] (leaf (RV.lst 1 (0+n) (GE 0 (λx=>[]) λk=>[HZ (L k)])))) VT ?_
 simp only [VM.sat,UB,G4,true_and]
 (with_reducible repeat' first|apply Al|intro _)
 all_goals first|exact Ak|omega|(rename_i ha;rw [BC.1 ha];first|exact Ak|rfl)|exact OC _ _|rfl|trace_state
def Xm0:UW:=λl=>some ([l=[lns n L]],lns n L)
theorem NL(VR:n<=100000):VP VO 22 (Xm0 n L):=by
 refine ⟨(UG Tryz.func22),?_⟩;intro avs ns res h I;cases h;have e:=I _ GG;subst e;exact We5 n L VR
end
section
variable (L:Nat->ByteArray)
def acB(k:Nat):Bool:=eK L k==0
def kpN(n:Nat):Nat:=G6 (acB L) n
def kpF(n:Nat)(j:Nat):ByteArray:=L (UP (acB L) n j)
end
section
variable (n:Nat)(L:Nat->ByteArray)
def Ww6:DA:=λl=>some (.need [l=[lns n L]] (.leaf (.tup [.agg (hsL (sK L n)),.lst 1 n (exG L),i 0])))
theorem O0(h0:ckE n L=0):Sx.Enters Tryz.prog 27/\ ∀avs t,Ww6 n L avs=some t->UN VO 27 avs t:=by
 refine ⟨(UG Tryz.func27),?_⟩;intro avs t h;cases h;intro Q hQ;have e:avs=[lns n L]:=hQ.1;subst e;have hk:=jZ h0;refine iD n L VJ Q ⟨λh=>?_,λ_=>hQ.2⟩
 rw [h0] at h;exact absurd h (by decide)
end
theorem catS{a:Nat->ByteArray}{k j:Nat}{x:ByteArray}(h:j<k+1)(hx:x=a k):GE k (λz=>[.x (.string (a z))]) (U4 1 [.x (.string x)]) j=[.x (.string (a j))]:=by
 subst hx;rcases (show j<k\/j=k by omega) with h1|rfl
 ·show H0 (decide (j<k)) _ (U4 _ _ (j-k))=_;rw [decide_eq_true h1,show j-k=0 by omega]
  rfl
 ·show H0 (decide (j<j)) _ (U4 _ _ (j-j))=_;rw [show decide (j<j)=false by simp,Bs]
  rfl
section
variable (n:Nat)(L:Nat->ByteArray)
def Zq2:St:={σ:=[Q8 n L,top,ptr 0 0,QA,AV.lit false,ptr 1 0,lst 1 n λj=>[iI (eK L j)],iI 0]++HH 39 [],m:=[(905,GN.row 9 1 0 λx=>[]),(1,GN.cells 43 (hL (sK L n))),(0,GN.cells 43 YM)],nx:=906}
noncomputable def Jp3:Code:=U9 (VS (U7 Tryz.f16) 0)
def Wg5(k:Nat):St:={σ:=H4 [(8,.row 905),(9,i k)] (Zq2 n L).σ,m:=[(905,.row 9 1 (kpN L k) (λz=>[.x (.string (kpF L n z))])),(1,.cells 43 (hsL (sK L n))),(0,.cells 43 [.x (.slice none 0 0),i 0,i 0,.x (.slice none 0 0),.x (.slice none 0 0),.x (.slice none 0 0)])],nx:=906}
def CF(k:Nat):G7->Option St
 | .exit 0=>some {σ:=H4 [(8,.row 905),(9,i n)] (Zq2 n L).σ,m:=[(905,.row 9 1 (kpN L n) (λz=>[.x (.string (kpF L n z))])),(1,.cells 43 (hsL (sK L n))),(0,.cells 43 [.x (.slice none 0 0),i 0,i 0,.x (.slice none 0 0),.x (.slice none 0 0),.x (.slice none 0 0)])],nx:=906}
 |_=>none
def Jk8:CT:= .leaf (.exit 0,(CF n L 0 (.exit 0)).getD (Zq2 n L))
def Xv3:UI:=GK [(.slot 2,0,0,2),(.slot 5,1,0,2),(.slot 8,905,9,1)] (HG (Wg5 n L (0)) (Jk8 n L))
theorem Ja8(VR:ckE n L=0):G8 VO (.loop Jp3) (Xv3 n L):=by
 refine UV [(.slot 2,0,0,2),(.slot 5,1,0,2),(.slot 8,905,9,1)] (L:=[]) (Ae (NL n L (by have:=jZ VR;omega)) Aa) (Aj Ab Ac (Ah (O0 n L VR) (UA.nil _))) VY U3 (X:=Nat) (Wg5 n L) (λk=>k<=n) (λk=>n-k) (CF n L) (x0:=0) VV ?_ ?_ ?_
 ·rintro k;kernel_rfl
 ·rintro k y E h;unfold CF at h;split at h
  ·cases h;kernel_rfl
  ·cases h
 ·rintro Q hQ k hx;refine ⟨(k+1),?_⟩;(with_reducible refine DH (t:=let A:=(VZ (lst 1 n λj=>[iI (eK L j)]));let z1:=(VZ (hR ((sK L n).nr) (sK L n)));let z2:=(VZ (hY ((sK L n).nb) (sK L n)));let z3:=(VZ (hC ((sK L n).nc) (sK L n)));let z4:=(VZ (hT ((sK L n).ns) (sK L n)));(branch (decide ((k:Int)<(n:Int))) (need [UJ k n] (branch (eK L k==0) (need [UJ k n] (need [(kpN L k+1)*16<=140737488355328,RT 1 (U4 1 [HZ (L k)])] (need [VL ((k:Int)+1)] (need [VZ (Q8 n L),QO,QA=QA,WK,XV,A,QT,VZ (AV.row 905),(k:Int)+1=(↑(k+1):Int),kpN L k+1=kpN L (k+1),∀(i:Nat),i<kpN L (k+1)->GE (kpN L k) (λz=>[HZ (kpF L n z)]) (U4 1 [HZ (L k)]) i=[HZ (kpF L n i)],z1,VZ ((sK L n).pl),VZ ((sK L n).ph),z2,z3,z4,QA=QA,QT,QT,QA=QA,QA=QA,QA=QA] (leaf G7.normal))))) (need [VL ((k:Int)+1)] (need [VZ (Q8 n L),QO,QA=QA,WK,XV,A,QT,VZ (AV.row 905),(k:Int)+1=(↑(k+1):Int),kpN L k=kpN L (k+1),∀(i:Nat),i<kpN L (k+1)->[HZ (kpF L n i)]=[HZ (kpF L n i)],z1,VZ ((sK L n).pl),VZ ((sK L n).ph),z2,z3,z4,QA=QA,QT,QT,QA=QA,QA=QA,QA=QA] (leaf G7.normal))))) (need [VZ (Q8 n L),QO,QA=QA,WK,XV,A,QT,VZ (AV.row 905),(k:Int)=(n:Int),kpN L k=kpN L n,∀(i:Nat),i<kpN L n->[HZ (kpF L n i)]=[HZ (kpF L n i)],z1,VZ ((sK L n).pl),VZ ((sK L n).ph),z2,z3,z4,QA=QA,QT,QT,QA=QA,QA=QA,QA=QA] (leaf (G7.exit 0))))) VT ?_)
  simp only [Jk8,CF,VM.sat,GT] at hQ;simp only [VM.sat,UB,G4,GJ,UD,VL,UH,HA,FY,RA,RW,GL,CF]
  have b1:=gL (p:=acB L) (k:=k);have b0:=jZ VR;have e0:kpN L k=G6 (acB L) k:=rfl;have e00:kpN L (k+1)=G6 (acB L) (k+1):=rfl;refine ⟨λh=>?_,λh=>?_⟩
  ·have hk:k<n:=VJ;cases hc:acB L k
   ·have e1:=RG hc;have hc': ¬((eK L k==0)=true):=λh=>Bool.noConfusion (hc.symm.trans h)
    exact VE
   ·have e1:=F9 hc;have hc': ¬((eK L k==0)=false):=λh=>Bool.noConfusion (hc.symm.trans h)
    have hq: ∀j,j<kpN L (k+1)->GE (kpN L k) (λz=>[.x (.string (kpF L n z))]) (U4 1 [.x (.string (L k))]) j=[.x (.string (kpF L n j))]:=by
     intro j hj;rw [e00,e1] at hj;refine catS (a:=kpF L n) hj ?_;show L k=L (UP (acB L) n (G6 (acB L) k));rw [BJ hk hc]
    (with_reducible repeat' first|apply Al|intro _)
    all_goals first|exact P3|(first|exact absurd (by assumption) hc'|exact hq _ (by assumption)|exact FG (by assumption) (by simp [AV.one,Value.oneCell']))
  ·obtain rfl:k=n:=VJ;exact YZ
theorem oB(VR:ckE n L=0):UN VO 16 [lns n L] (.leaf (.tup [.agg (hsL (sK L n)),.lst 1 (kpN L n) (λz=>[.x (.string (kpF L n z))]),bl true])):=by
 refine GS (L:=[Xv3 n L]) (Ae (NL n L (by have:=jZ VR;omega)) Aa) (Aj Ab Ac (Ah (O0 n L VR) (UA.nil _))) VY Tryz.func16 (UT Tryz.f16) (G0 (lpE (b:= .loop Jp3) VT<|(Ja8 n L VR).N)) (t:=let A:=(leaf (tup [agg (hL (sK L n)),QA,AV.lit false]));(need [(KV n L)] (need [(KV n L)] (branch ((0:Int) != 0) A (branch ((n:Int) != (n:Int)) A (need [VZ (Q8 n L),QO,QA=QA,WK,XV,VZ (lst 1 n λj=>[iI (eK L j)]),QT,VZ (AV.row 905),(0:Int)=(↑(0:Nat):Int),0=kpN L 0,∀(i:Nat),i<kpN L 0->[]=[HZ (kpF L n i)],VZ (hR ((sK L n).nr) (sK L n)),VZ ((sK L n).pl),VZ ((sK L n).ph),VZ (hY ((sK L n).nb) (sK L n)),VZ (hC ((sK L n).nc) (sK L n)),VZ (hT ((sK L n).ns) (sK L n)),QA=QA,QT,QT,QA=QA,QA=QA,QA=QA] (leaf (tup [agg (hL (sK L n)),lst 1 (kpN L n) λz=>[HZ (kpF L n z)],AV.lit true])))))))) VT ?_
 intro Q hQ;simp only [VM.sat,UB,UH,VL,DZ] at hQ ⊢;have b0:=jZ VR
 (with_reducible repeat' first|apply Al|intro _)
 all_goals first|exact Ak|contradiction|(exfalso;rename_i h9;simp at h9;done)|omega|rfl|(rename_i h;exact absurd h (Aq _))|exact ⟨.tup [.agg (hsL (sK L n)),.lst 1 (kpN L n) (λz=>[.x (.string (kpF L n z))]),bl true],⟨rZ _,⟨rfl,rfl,λ_ _=>rfl⟩,rfl,Ak⟩,hQ⟩|exact ⟨.tup [.agg (hsL (sK L n)),.lst 1 (kpN L n) (λz=>[.x (.string (kpF L n z))]),bl true],⟨rZ _,⟨rfl,rfl,λ_ _=>rfl⟩,⟨rfl,rfl⟩,Ak⟩,hQ⟩|trace_state
end
def lnF(f:Nat->List AV)(k:Nat):ByteArray:=stO (f k)
section
variable {n:Nat}{L:Nat->ByteArray}
theorem Xr9(h1:n<=50)(h2: ∀k,k<n->(L k).size<=200):ckE n L=0:=by
 unfold ckE;rw [if_pos ⟨h1,GR.2 λk hk=>decide_eq_true (by have:=h2 k hk;omega)⟩]
theorem Xq5{most:Int}(h:rdB n L most=true):ckE n L=0/\(n:Int)<=most:=by
 unfold rdB at h;rw [H6,H6,kD] at h;obtain ⟨_,h2,h3⟩:=h;unfold rgB at h2;rw [H6,kD] at h2;refine ⟨Xr9 VJ λk hk=>?_,h3⟩
 have:=qJ (GR.1 h2.1 k hk);omega
end
end Go.Proofs.YtakpdkmhclhlnaaGreatDoor.Hd
namespace Go.Proofs.YtakpdkmhclhlnaaGreatDoor.Hd
open Go Go.Sx Go.RowKit
open Go.Sx.VM (need branch leaf)
open Go.Sx.AV (lst ptr agg roI tup top)
theorem Xb2{W:Nat->ByteArray}{n:Nat}{s:HS}{k:Nat}(h0:RO W n s=0)(hk:k<s.nc)(hv:s.cv k=true):k<(DG W s).nc/\(DG W s).cv k=true:=by
 unfold RO at h0;unfold DG;split at h0
 ·exact ⟨hk,hv⟩
 ·exact ⟨hk,hv⟩
 ·exact ⟨hk,hv⟩
 ·exact ⟨hk,hv⟩
 ·exact ⟨hk,hv⟩
 ·refine ⟨by show k<s.nc+1;omega,?_⟩
  show (if k<s.nc then s.cv k else false)=true
  rw [if_pos hk];exact hv
 ·refine ⟨hk,?_⟩;show (if (k:Int)=_ then true else s.cv k)=true
  split
  ·rfl
  ·exact hv
 ·exact ⟨hk,hv⟩
 ·exact absurd h0 (by decide)
theorem Xb4(x:ByteArray){s:HS}{k:Nat}(hk:k<s.nc)(hv:s.cv k=true):k<(lnS x s).nc/\(lnS x s).cv k=true:=by
 unfold lnS;split
 ·rename_i h;exact Xb2 h hk hv
 ·exact ⟨hk,hv⟩
theorem Xb3(L:Nat->ByteArray){a k:Nat}(hk:k<(sK L a).nc)(hv:(sK L a).cv k=true): ∀b,a<=b->k<(sK L b).nc/\(sK L b).cv k=true:=by
 intro b hb
 induction hb with
 |refl=>exact ⟨hk,hv⟩
 | @step b _ ih=>exact Xb4 (L b) ih.1 ih.2
theorem bX{L L':Nat->ByteArray}: ∀n,(∀k,k<n->L k=L' k)->sK L n=sK L' n
 | 0,_=>rfl
 |n+1,h=>by
  show lnS (L n) (sK L n)=lnS (L' n) (sK L' n);rw [bX n λk hk=>h k VJ,h n VJ]
def vdB(k:Nat):ByteArray:=⟨#[118,111,105,100,32,UInt8.ofNat (48+k)]⟩
def vdT(k:Nat):Bool:=wdK (lnW (vdB k) 0)==6&&(lnN (vdB k)==2&&(nuB (lnW (vdB k)) 2&&U0 (lnW (vdB k) 1)==(k:Int)))
theorem Xb6:D5 vdT 10=true:=by decide+kernel
theorem Qw3{k:Nat}(h:k<10):wdK (lnW (vdB k) 0)=6/\lnN (vdB k)=2/\nuB (lnW (vdB k)) 2=true/\U0 (lnW (vdB k) 1)=k:=by
 have h1:=GR.1 Xb6 k h;unfold vdT at h1;simpa using h1
theorem Xb5{s:HS}{k:Nat}(hk:k<s.nc)(I:s.nc<=10):k<(lnS (vdB k) s).nc/\(lnS (vdB k) s).cv k=true:=by
 obtain ⟨f1,f2,f3,f4⟩:=Qw3 (show k<10 by omega)
 have hE:lnE (vdB k) s=voE s k:=by
  unfold lnE RO;rw [f1];show fmE (lnW (vdB k)) (lnN (vdB k)) 1 (voE s (U0 (lnW (vdB k) 1)))=_;unfold fmE;rw [f2,f4,if_pos ⟨rfl,f3⟩]
 have hS:DG (lnW (vdB k)) s=voS s k:=by
  unfold DG;rw [f1];show voS s (U0 (lnW (vdB k) 1))=_;rw [f4]
 unfold lnS;rw [hE,hS];split
 ·refine ⟨hk,?_⟩;show (if (k:Int)=(k:Int) then true else s.cv k)=true
  rw [if_pos rfl]
 ·rename_i h;refine ⟨hk,?_⟩;unfold voE at h;rw [DZ] at h;have hb:bt 0 (k:Int) ((s.nc:Int)-1)=true:=(bt_iff _ _ _).2 VJ;rw [hb] at h;cases hc:s.cv k
  ·rw [hc] at h;simp at h
  ·rfl
def vdL(n:Nat)(L:Nat->ByteArray)(k:Nat)(M:Nat->ByteArray)(j:Nat):ByteArray:=if j<n then L j else if j=n then vdB k else M (j-(n+1))
theorem Zb7{n m k:Nat}{L M:Nat->ByteArray}(hk:k<(sK L n).nc):k<(sK (vdL n L k M) (n+1+m)).nc/\(sK (vdL n L k M) (n+1+m)).cv k=true:=by
 have e0:sK (vdL n L k M) n=sK L n:=bX n λj hj=>by
  unfold vdL;rw [if_pos hj]
 have h1:k<(sK (vdL n L k M) (n+1)).nc/\(sK (vdL n L k M) (n+1)).cv k=true:=by
  have e1:sK (vdL n L k M) (n+1)=lnS (vdB k) (sK L n):=by
   show lnS (vdL n L k M n) (sK (vdL n L k M) n)=_;rw [e0];unfold vdL;rw [if_neg VJ,if_pos rfl]
  rw [e1];exact Xb5 hk (jB L n).nc
 exact Xb3 _ h1.1 h1.2 _ VJ
open Go Go.Sx Go.RowKit Bo
section
variable (n:Nat)(F:Nat->Int)(k:Int)
def Zp1:St:={σ:=[lst 1 1 λx=>[iI k],lst 1 n λj=>[iI (F j)]]++HH 32 [],m:=[],nx:=2}
noncomputable def Xm8:Code:=U9 (VS (U7 Tryz.f30) 0)
def Wf1(q:Nat):St:=(upM [(5,i q),(6,.top),(7,.top)] (Zp1 n F k))
def C5(q:Nat):G7->Option St
 | .ret=>some (upM [(5,.top),(6,.top),(7,.top),(4,bl false)] (Zp1 n F k))
 |_=>none
def Jj2:CT:= .leaf (.ret,(C5 n F k 0 .ret).getD (Zp1 n F k))
def Xt7:UI:=GK [] (HG (Wf1 n F k (0)) (Jj2 n F k))
def Zp0:St:={σ:=[lst 1 1 λx=>[iI k],lst 1 n λj=>[iI (F j)],top,top,top,iI (↑(0:Nat):Int)]++HH 28 [],m:=[],nx:=8}
noncomputable def Jo1:Code:=U9 (VS Xm8 0)
def Wf0(z:Nat):St:=(upM [(6,bl false),(7,i z)] (Zp0 n F k))
def C4(z:Nat):G7->Option St
 | .exit 2=>some (upM [(6,bl false),(7,i n)] (Zp0 n F k))
 |_=>none
def Jj1:CT:= .leaf (.exit 2,(C4 n F k 0 (.exit 2)).getD (Zp0 n F k))
def Xt6:UI:=GK [] (HG (Wf0 n F k (0)) (Jj1 n F k))
end
abbrev ZO(n:Nat)(F:Nat->Int):Prop:=(lst 1 n λj=>[iI (F j)])=lst 1 n λj=>[iI (F j)]
abbrev ZS(k:Int):Prop:=(lst 1 1 λx=>[iI k])=lst 1 1 λx=>[iI k]
section
variable (n:Nat)(F:Nat->Int)(k:Int)
theorem Zv7(VR:n<=100000)(UE: ∀j,j<n->F j≠k):G8 VO (.loop Jo1) (Xt6 n F k):=by
 refine UV [] (L:=[]) Aa Ad VY U3 (X:=Nat) (Wf0 n F k) (λz=>z<=n) (λz=>n-z) (C4 n F k) (x0:=0) VV ?_ ?_ ?_
 ·rintro z;kernel_rfl
 ·rintro z y E h;unfold C4 at h;split at h
  ·cases h;kernel_rfl
  ·cases h
 ·rintro Q hQ z hx;refine ⟨(z+1),?_⟩;(with_reducible refine DH (t:=branch (decide ((z:Int)<(n:Int))) (branch false (need [VL ((z:Int)+1)] (need [ZS k,ZO n F,VZ (↑(0:Nat):Int),true=false,(z:Int)+1=(↑(z+1):Int)] (leaf G7.normal))) (need [UJ z n] (need [UJ 0 1] (need [VL ((z:Int)+1)] (need [ZS k,ZO n F,VZ (↑(0:Nat):Int),(F z==k)=false,(z:Int)+1=(↑(z+1):Int)] (leaf G7.normal)))))) (need [ZS k,ZO n F,VZ (↑(0:Nat):Int),false=false,(z:Int)=(n:Int)] (leaf (G7.exit 2)))) VT ?_);simp only [Jj1,C4,VM.sat,GT] at hQ;simp only [VM.sat,UB,G4,GJ,UD,VL,UH,HA,FY,RA,RW,GL,C4]
  refine ⟨λh=>?_,λh=>?_⟩
  ·have hk:z<n:=VJ;have hne:=UE z hk;have hb:(F z==k)=false:=by simpa using hne
   (with_reducible repeat' first|apply Al|intro _)
   all_goals first|exact P3|(first|contradiction|exact hb|(rw [hb];done))
  ·obtain rfl:z=n:=VJ;exact YZ
theorem Zv8(VR:n<=100000)(UE: ∀j,j<n->F j≠k):G8 VO (.loop Xm8) (Xt7 n F k):=by
 refine UV [] (L:=[B4 5 (λq=>FO [q=0] (Xt6 n F k))]) Aa Ad VY (G0 (λcj hcj=>by
  have e:VS Xm8 0=some (.loop Jo1):=VT;rw [e] at hcj;cases hcj;exact L2 (λq=>D2 (ps:=[q=0]) (λh=>Zv7 n F k VR UE)))) (X:=Nat) (Wf1 n F k) (λq=>q=0) (λq=>0) (C5 n F k) (x0:=0) rfl ?_ ?_ ?_
 ·rintro q;kernel_rfl
 ·rintro q y E h;unfold C5 at h;split at h
  ·cases h;kernel_rfl
  ·cases h
 ·rintro Q hQ q hx;refine ⟨(q+1),?_⟩;(with_reducible refine DH (t:=branch (decide ((q:Int)<(↑(1:Nat):Int))) (need [q=0] (need [ZS k,ZO n F,(q:Int)=(↑(0:Nat):Int),false=false,(0:Int)=(↑(0:Nat):Int)] (branch (!false) (need [ZS k,ZO n F,false=false] (leaf G7.ret)) (need [VL ((↑(0:Nat):Int)+1)] (need [ZS k,ZO n F,(↑(0:Nat):Int)+1=(↑(q+1):Int)] (leaf G7.normal)))))) VM.fail) VT ?_);simp only [Jj2,C5,VM.sat,GT] at hQ;simp only [VM.sat,UB,G4,GJ,UD,VL,UH,HA,FY,RA,RW,GL,C5]
  obtain rfl:q=0:=hx
  (with_reducible repeat' first|apply Al|intro _)
  all_goals first|exact P3|((exfalso;rename_i h9;simp at h9;done))
theorem o8(VR:n<=100000)(UE: ∀j,j<n->F j≠k):VX VO 30 [.lst 1 1 (λ_=>[i k]),.lst 1 n (λj=>[i (F j)])] (bl false):=by
 refine GA (L:=[Xt7 n F k]) Aa Ad VY Tryz.func30 (UT Tryz.f30) (G0 (lpE (b:= .loop Xm8) VT<|(Zv8 n F k VR UE).N)) (t:=need [ZS k,ZO n F,(0:Int)=(↑(0:Nat):Int)] (leaf (RV.x (WM)))) VT ?_
 simp only [VM.sat,UB,G4,GJ,UD,UH,VL,DZ]
 (with_reducible repeat' first|apply Al|intro _)
 all_goals first|exact Ak|omega|rfl|trace_state
end
end Go.Proofs.YtakpdkmhclhlnaaGreatDoor.Hd
