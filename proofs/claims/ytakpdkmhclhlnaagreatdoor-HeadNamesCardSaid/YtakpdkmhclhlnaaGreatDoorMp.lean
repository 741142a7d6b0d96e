/- Contracts, put together. Conditions: those of each. -/
import Derived.Test.YtakpdkmhclhlnaaGreatDoorMo
import Derived.Shelf.Strings.Builder1
import Derived.Shelf.Strings.Builder2
import Derived.Shelf.Strings.OnBuilder
set_option linter.unusedSimpArgs false
set_option linter.unusedVariables false
set_option maxRecDepth 100000
namespace Go.Proofs.YtakpdkmhclhlnaaGreatDoor.Hd
open Go Go.Shelf Go.Sx Go.RowKit
def nR:Go.Shelf.Ren:=⟨λ| 169=>48|n=>n,λ| 70=>102| 72=>104| 37=>87| 127=>165|n=>n,λn=>n⟩
theorem Zf4:Go.Proofs.Lays.n169 Tryz.prog nR:=by
 constructor<;>first|(intro _;kernel_rfl)|kernel_rfl|(constructor<;>first|(intro _;kernel_rfl)|kernel_rfl|(constructor<;>first|(intro _;kernel_rfl)|kernel_rfl))
def fJ:Go.Shelf.Ren:=⟨λ| 156=>70| 165=>113| 166=>41| 169=>48| 240=>68| 241=>150| 276=>111| 277=>189|n=>n,λ| 31=>26| 72=>104| 76=>108| 70=>102| 37=>87| 75=>107| 127=>165| 164=>216| 80=>122|n=>n,λn=>n⟩
theorem uQ:Go.Proofs.Lays.n156 Tryz.prog fJ:=by
 constructor<;>first|(intro _;kernel_rfl)|kernel_rfl|(constructor<;>first|(intro _;kernel_rfl)|kernel_rfl|(constructor<;>first|(intro _;kernel_rfl)|kernel_rfl))
theorem aT:Builder.Extra Tryz.prog fJ where
 sizeBuilder:=VX
 liesBuilder:=VX
 t5:=by first|exact Tryz.underlying5|kernel_rfl
 a5:=by first|exact Tryz.isAgg5|kernel_rfl
 z5:=by first|exact Tryz.sizeOf5|(intros;rfl)
 v5:=by first|exact Tryz.zeroValue5|(intros;rfl)
 infoByte:=VX
 cellsByte:=VX
 sizeByte:=VX
 neB5:=by decide
def stO:List AV->ByteArray
 |[.x (.string s)]=>s
 |_=>ByteArray.empty
section
variable (n:Nat)(f:Nat->List AV)
def jR:Prop:= ∀k,k<n->f k=[.x (.string (stO (f k)))]
def jnB(sep:ByteArray):ByteArray:=⟨(Lib.join (((List.range n).map λk=>stO (f k)).map (·.data.toList)) sep.data.toList).toArray⟩
theorem Xc9(sep:ByteArray)(h0:n<=100000)(h1:jR n f)(h2:(jnB n f sep).size<=140737488355328):VZ VQ 70 [.lst 1 n f,.x (.string sep)] (.x (.string (jnB n f sep))):=by
 intro e w args hro hgl FL hr;obtain ⟨u,us,rfl,r1,hr⟩:=hr.cons_inv;obtain ⟨u2,us2,rfl,r2,hr⟩:=hr.cons_inv;obtain rfl:=hr.nil_inv;obtain rfl:=r2.x_inv;cases r1 with
 |lstNil=>
  refine Calls.mono (Any.strings_Join_none uQ aT none 0 sep w) ?_;rintro en w' ⟨rfl,rfl⟩;exact ⟨_,rfl,Below.refl _ _,.x _⟩
 |lst _ _ _ b o cap g g1 g2 g3 g4 g5 g6 g7 g8 ad had=>
  have hl:((List.range n).map λk=>stO (f k)).length=n:=VW
  rcases Nat.eq_zero_or_pos n with rfl|hn
  ·refine Calls.mono (Any.strings_Join_none uQ aT (some ad) cap sep w) ?_;rintro en w' ⟨rfl,rfl⟩;exact ⟨_,rfl,Below.refl _ _,.x _⟩
  ·rw [had hn];have h:=Any.strings_Join uQ aT b o cap ((List.range n).map λk=>stO (f k)) sep w (λj x hj=>by
    have hj1:=(FS.1 hj).1;have hj2:j<n:=VL;rw [Bn,List.getElem?_range hj2] at hj;simp only [Bs,HD] at hj;have k1:=g6 j 0 hj2 VL;have k2:=(g8 j 0 (.x (.string (stO (f j)))) hj2 (by rw [h1 j hj2];rfl)).x_inv
    have e0:o+(j*1+0)=o+j:=VL;rw [e0,k2,hj] at k1;exact k1) (g2 hn) (by rw [hl];omega) (by rw [hl];exact g4) (by
     have e:(Lib.join (((List.range n).map λk=>stO (f k)).map (·.data.toList)) sep.data.toList).length=(jnB n f sep).size:=rfl
     rw [e];exact h2)
   rw [hl] at h;refine Calls.mono h ?_;rintro en w' ⟨rfl,hb⟩;exact ⟨_,rfl,hb,.x _⟩
end
def dS:G0
 |[.lst 1 n f,.x (.string sep)]=>some ([n<=100000,jR n f,(jnB n f sep).size<=140737488355328],.x (.string (jnB n f sep)))
 |_=>none
theorem tO:VS VQ 70 dS:=by
 refine ⟨(UJ Tryz.func70),?_⟩;intro avs ns Z h hn;unfold dS at h;split at h
 ·cases h;exact Xc9 _ _ _ (hn _ VW) (hn _ VW) (hn _ VW)
 ·cases h
def Xk4:D0:=λavs m nx sv=>match avs with
 |[.ptr q 0]=>match DB m q with
  |some (.cells T l)=>match l with
   |[.x (.pointer none),c]=>match Nat.beq T 104 with
    |true=>some (.leaf (.tup [],qC m q (.cells T [.ptr q 0,c]),nx,sv))
    |false=>none
   |[.ptr q' 0,c]=>match Nat.beq T 104&&Nat.beq q q' with
    |true=>some (.leaf (.tup [],m,nx,sv))
    |false=>none
   |_=>none
  |_=>none
 |_=>none
theorem Zj4:GC VQ 68 Xk4:=by
 refine ⟨(UJ Tryz.func68),?_⟩;intro avs m nx sv tr I Q hQ cx w0 TT e ds args w hE hB hm hlv LN hxt hr;unfold Xk4 at I;split at I
 ·rename_i q;obtain ⟨v0,l1,rfl,r1,hr⟩:=hr.cons_inv;obtain rfl:=hr.nil_inv;have hv0:v0= .pointer (some ⟨e.blk q,0,none⟩):=by cases r1;rfl
  subst hv0;split at I
  ·rename_i T l hg;split at I
   ·rename_i c;split at I
    ·rename_i hb;obtain rfl:=GY hb;cases I;obtain ⟨h1,h2,vs,h3,h4⟩:=hm _ (UX hg);obtain ⟨p,us,rfl,t1,h4⟩:=h4.cons_inv;obtain ⟨v,us,rfl,t2,h4⟩:=h4.cons_inv;obtain rfl:=h4.nil_inv;obtain rfl:=t1.x_inv
     dsimp only at h1 h2 h3
     have hc0:w.cell? ⟨e.blk q,0,none⟩=some (.pointer none):=by simp [World.cell?,h3]
     refine Calls.mono (Any.Builder_copyCheck_fresh {uQ with} aT.toX72 (e.blk q) w hc0 (by simp [World.shape?,h3];rfl) (by simp [World.frozen?,h3])) ?_
     rintro en w' ⟨rfl,rfl⟩;have RW: ∀b,b≠e.blk q->(w.setCell ⟨e.blk q,0,none⟩ (.pointer (some ⟨e.blk q,0,none⟩))).heap[b]? =w.heap[b]? :=λb hb=>heap_setCell_other _ _ _ _ hb
     have hsz:(w.setCell ⟨e.blk q,0,none⟩ (.pointer (some ⟨e.blk q,0,none⟩))).heap.size=w.heap.size:=VW;have st:=F1 hE h2 hsz RW;have dF:Below w0.heap.size w0 (w.setCell ⟨e.blk q,0,none⟩ (.pointer (some ⟨e.blk q,0,none⟩))):=hB.setCell (p:=⟨e.blk q,0,none⟩) (hE.owned _ _ h2).1 _;refine ⟨_,_,_,_,_,e,rfl,hQ,L2 hE hsz st,dF,?_,hlv,LN,hxt.step st,Rep.tupL (U3.nil _ _)⟩;intro p hp;rcases FV hp with rfl|⟨hp,hne⟩
     ·refine ⟨h1,h2,[.pointer (some ⟨e.blk q,0,none⟩),v],?_,.cons (.ptr q 0 h1) (.cons (t2.step st) (.nil _ _))⟩;rw [heap_setCell_same w _ 0 _ _ _ h3];rfl
     ·exact P3 hE h2 hsz RW hne (hm p hp)
    ·cases I
   ·rename_i q' c;split at I
    ·rename_i hb;rw [HA] at hb;obtain rfl:=GY hb.1;obtain rfl:=GY hb.2;cases I;obtain ⟨h1,h2,vs,h3,h4⟩:=hm _ (UX hg);obtain ⟨p,us,rfl,t1,h4⟩:=h4.cons_inv;obtain ⟨v,us,rfl,t2,h4⟩:=h4.cons_inv;obtain rfl:=h4.nil_inv
     dsimp only at h1 h2 h3
     have hp:p= .pointer (some ⟨e.blk q,0,none⟩):=by cases t1;rfl
     subst hp;have hc0:w.cell? ⟨e.blk q,0,none⟩=some (.pointer (some ⟨e.blk q,0,none⟩)):=by simp [World.cell?,h3]
     refine Calls.mono (Any.Builder_copyCheck_used {uQ with} aT.toX72 (e.blk q) w hc0) ?_
     rintro en w' ⟨rfl,rfl⟩;exact ⟨_,_,_,_,_,e,rfl,hQ,hE,hB,hm,hlv,LN,hxt,Rep.tupL (U3.nil _ _)⟩
    ·cases I
   ·cases I
  ·cases I
 ·cases I
set_option maxHeartbeats 1000000 in
theorem Qi1(b g cap:Nat)(p:Value)(cur:Array Value)(l:List UInt8)(w:World)(hbk:w.heap[b]? =some (.cells #[p,.slice (some ⟨g,0,none⟩) l.length cap] 104 (0,0)))(hg:w.heap[g]? =some (.cells cur 5 (0,0)))(h0:l≠[])(hnc:l.length<=cap)(hcm:cap<=maxLen)(hcs:cur.size=cap)
  (uY: ∀j x,l[j]? =some x->w.cell? ⟨g,j,none⟩=some (.int .u8 x.toNat)):
  Calls Tryz.prog 48 #[.pointer (some ⟨b,0,none⟩)] w λe w'=>e= .returned (.string ⟨l.toArray⟩)/\w'=w.drew.freeze ⟨g,0,none⟩ l.length:=by
 have c1:w.drew.cell? ⟨b,1,none⟩=some (.slice (some ⟨g,0,none⟩) l.length cap):=by
  have:w.drew.heap[b]? =some (.cells #[p,.slice (some ⟨g,0,none⟩) l.length cap] 104 (0,0)):=hbk;simp [World.cell?,this]
 have hl0:l.length≠0:=by simpa using h0
 have hSD:(Builtin.unsafeSliceData_ #[87] 165 #[.slice (some ⟨g,0,none⟩) l.length cap]).run Tryz.prog w.drew= .ok (.pointer (some ⟨g,0,none⟩)) w.drew:=
  Lib.run_unsafeSliceData_row _ _ _ _ _ _ VL
 have hUS:(Builtin.unsafeString_ #[165,3] 9 #[.pointer (some ⟨g,0,none⟩),.int .i64 l.length]).run Tryz.prog w.drew= .ok (.string ⟨l.toArray⟩) (w.drew.freeze ⟨g,0,none⟩ l.length):=by
  refine Lib.run_unsafeString_row w.drew 165 3 9 5 Zf4.t127 VX g cur.size (by have hg':w.drew.heap[g]? =some (.cells cur 5 (0,0)):=hg;simp [World.shape?,hg']) l h0 VL (by unfold maxLen at hcm;omega) ?_
  intro j x hx;have e:(⟨g,0,none⟩:Addr).add j=⟨g,j,none⟩:=by rw [DF,Ap]
  rw [e];exact uY j x hx
 have GR:Tryz.prog.follows .mixedOrders=true:=U0
 go_enter Tryz.func48,Tryz.ntmps48
 go_wp2
 go_region_o
 all_goals (go_wp2;go_ret;exact ⟨rfl,rfl⟩)
def Ww6:D0:=λavs m nx sv=>match avs with
 |[.ptr q 0]=>match DB m q with
  |some (.cells T l)=>match l with
   |[_,.row r]=>match DB m r with
    |some (.row T1 sz n f)=>match Nat.beq T 104&&Nat.beq T1 5&&Nat.beq sz 1 with
     |true=>some (.needT [uR n f,0<n] (.leaf (.x (.string (bsO n f)),[],nx,sv)))
     |false=>none
    |_=>none
   |_=>none
  |_=>none
 |_=>none
theorem TJ(w:World)(g n x:Nat)(h:x≠g):(w.freeze ⟨g,0,none⟩ n).heap[x]? =w.heap[x]? :=by
 unfold World.freeze;split
 ·rfl
 ·show (w.heap.modify g _)[x]? =_;rw [Array.getElem?_modify];rw [if_neg (λe=>h e.symm)]
theorem iE(w:World)(g n:Nat):(w.freeze ⟨g,0,none⟩ n).heap.size=w.heap.size:=by
 unfold World.freeze;split
 ·rfl
 ·show (w.heap.modify g _).size=_;simp
theorem Qo1(w:World)(g n:Nat):(w.freeze ⟨g,0,none⟩ n).os=w.os/\(w.freeze ⟨g,0,none⟩ n).tape=w.tape/\(w.freeze ⟨g,0,none⟩ n).output=w.output:=by
 unfold World.freeze;split<;>exact ⟨rfl,rfl,rfl⟩
theorem kH:GC VQ 48 Ww6:=by
 refine ⟨(UJ Tryz.func48),?_⟩;intro avs m nx sv tr I Q hQ cx w0 TT e ds args w hE hB hm hlv LN hxt hr;unfold Ww6 at I;split at I
 ·rename_i q;obtain ⟨v0,l1,rfl,r1,hr⟩:=hr.cons_inv;obtain rfl:=hr.nil_inv;have hv0:v0= .pointer (some ⟨e.blk q,0,none⟩):=by cases r1;rfl
  subst hv0;split at I
  ·rename_i T l hg;split at I
   ·rename_i a r;split at I
    ·rename_i T1 sz n f hg2;split at I
     ·rename_i hb;rw [HA,HA] at hb;obtain ⟨⟨hb1,hb2⟩,hb3⟩:=hb;obtain rfl:=GY hb1;obtain rfl:=GY hb2;obtain rfl:=GY hb3;cases I;obtain ⟨hn,hq⟩:=VO.sat_needT hQ;have hn:=GE hn;have n1:uR n f:=hn _ VW;have n2:0<n:=hn _ VW;obtain ⟨h1,h2,vs,h3,h4⟩:=hm _ (UX hg);obtain ⟨p,us,rfl,t1,h4⟩:=h4.cons_inv;obtain ⟨v,us,rfl,t2,h4⟩:=h4.cons_inv;obtain rfl:=h4.nil_inv
      dsimp only at h1 h2 h3
      obtain ⟨k1,k2,k3,xs,k4,k5⟩:=hm _ (UX hg2)
      dsimp only at k1 k2 k3 k4 k5
      have hv:e.val r=v:=by
       cases t2 with
       |row _ a n c _ hv=>exact hv
      rw [hv] at k2 k4;rcases k4.2 with ⟨_,hz⟩|⟨g,cap,cur,rfl,hbg,hgg,hnc,hcm,hcs,jT⟩
      ·omega
      ·have H5:e.own g=some r:=k2 g rfl;have HW:((List.range n).map λj=>UInt8.ofNat (byO (f j))).length=n:=VW
       have h0:((List.range n).map λj=>UInt8.ofNat (byO (f j)))≠[]:=by
        intro h;rw [h] at HW;simp at HW;omega
       have uY: ∀j x,((List.range n).map λj=>UInt8.ofNat (byO (f j)))[j]? =some x->w.cell? ⟨g,j,none⟩=some (.int .u8 x.toNat):=by
        intro j x hj;have hj1:j<n:=by have:=(FS.1 hj).1;omega
        rw [Bn,List.getElem?_range hj1] at hj;simp only [Bs,HD] at hj;have hxl:xs.length=n:=by have:=k4.1;omega
        have hc1:=k4.cells (g:=g) rfl j xs[j] (HZ VL);have e1:(⟨g,0,none⟩:Addr).add j=⟨g,j,none⟩:=by rw [DF,Ap]
        rw [e1] at hc1;have hc2:=(k5 j 0 (.x (.int .u8 (byO (f j):Int))) xs[j] hj1 (by rw [(n1 j hj1).2];rfl) (by rw [show j*1+0=j by omega];exact HZ VL)).x_inv
        rw [hc1,hc2,←hj,UInt8.toNat_ofNat_of_lt' (n1 j hj1).1]
       have FC:=Qi1 (e.blk q) g cap p cur ((List.range n).map λj=>UInt8.ofNat (byO (f j))) w (by rw [HW];exact h3) hgg h0 (by rw [HW];exact hnc) hcm (by simpa using hcs) uY
       refine FC.mono ?_;rintro en w' ⟨rfl,rfl⟩;rw [HW];have RW: ∀x,x≠g->(w.drew.freeze ⟨g,0,none⟩ n).heap[x]? =w.heap[x]? :=λx hx=>TJ w.drew g n x hx
       have hsz:(w.drew.freeze ⟨g,0,none⟩ n).heap.size=w.heap.size:=iE w.drew g n;have hos:=Qo1 w.drew g n;have st:=F1 hE H5 hsz RW;refine ⟨_,_,_,_,_,e,rfl,hq,L2 hE hsz st,⟨hos.1.trans hB.os,hos.2.1.trans hB.tape,hos.2.2.trans hB.output,by rw [hsz];exact hB.size,λx hx=>?_⟩,λp hp=>(by cases hp),hlv,LN,hxt.step st,.x _⟩
       rw [RW x (by have:=(hE.owned _ _ H5).1;omega)]
       exact hB.block x hx
     ·cases I
    ·cases I
   ·cases I
  ·cases I
 ·cases I
end Go.Proofs.YtakpdkmhclhlnaaGreatDoor.Hd
namespace Go.Proofs.YtakpdkmhclhlnaaGreatDoor.Hd
open Go Go.Sx Go.RowKit Bo
open Go.Sx.VO (need branch leaf)
open Go.Sx.AV (lst ptr agg roI tup top)
def U5:List ByteArray:=[⟨#[116,104,114,101,97,100,32,48,32,49,32,52,48,32,52,48]⟩,⟨#[116,104,114,101,97,100,32,50,32,51,32,52,56,32,53,48]⟩,⟨#[105,115,115,117,101,32,48,32,52,32,57,48,32,48]⟩,⟨#[98,97,116,104,32,49,48,48,32,51,48,48]⟩,⟨#[115,101,101,32,48,32,50,48,48]⟩,⟨#[115,101,101,32,49,32,50,48,51]⟩,⟨#[98,97,116,104,32,49,48,48,32,51,48,48]⟩,⟨#[115,101,101,32,49,32,50,53,50]⟩,⟨#[115,101,101,32,50,32,50,53,48]⟩,⟨#[115,101,108,108,32,48,32,49,32,54,32,49,32,51]⟩,⟨#[115,101,108,108,32,49,32,50,32,52,32,50,32,50]⟩]
def G7:List ByteArray:=[⟨#[116,104,114,101,97,100,32,48,32,50,32,52,48,32,52,48]⟩,⟨#[105,115,115,117,101,32,48,32,52,32,56,48,32,48]⟩,⟨#[115,101,101,32,48,32,49,48,48]⟩,⟨#[115,116,114,105,107,101,32,49]⟩,⟨#[118,111,105,100,32,48]⟩]
def UF(l:List ByteArray)(k:Nat):ByteArray:=l.getD k ByteArray.empty
def wk1:HS:=thS hs0 0 1 40 40
def wk2:HS:=thS wk1 2 3 48 50
def wk3:HS:=isS wk2 0 4 90 0
def wk4:HS:=btS wk3 100 300
def wk5:HS:=seS wk4 0 200
def wk6:HS:=seS wk5 1 203
def wk7:HS:=btS wk6 100 300
def wk8:HS:=seS wk7 1 252
def wk9:HS:=seS wk8 2 250
def Qh7:HS:=slS wk9 0 1 6 1 3
def VR:HS:=slS Qh7 1 2 4 2 2
theorem Qu5:lnE (UF U5 0) hs0=0:=by decide+kernel
theorem Xm5:F2 (lnW (UF U5 0)) hs0=wk1:=VX
theorem Qu4:lnE (UF U5 1) wk1=0:=by decide+kernel
theorem Xm4:F2 (lnW (UF U5 1)) wk1=wk2:=VX
theorem Qu3:lnE (UF U5 2) wk2=0:=by decide+kernel
theorem Xm3:F2 (lnW (UF U5 2)) wk2=wk3:=VX
theorem Qu2:lnE (UF U5 3) wk3=0:=by decide+kernel
theorem Xm2:F2 (lnW (UF U5 3)) wk3=wk4:=VX
theorem Qu1:lnE (UF U5 4) wk4=0:=by decide+kernel
theorem Xm1:F2 (lnW (UF U5 4)) wk4=wk5:=VX
theorem Qu0:lnE (UF U5 5) wk5=0:=by decide+kernel
theorem Xm0:F2 (lnW (UF U5 5)) wk5=wk6:=VX
theorem Qt9:lnE (UF U5 6) wk6=0:=by decide+kernel
theorem Xl9:F2 (lnW (UF U5 6)) wk6=wk7:=VX
theorem Qt8:lnE (UF U5 7) wk7=0:=by decide+kernel
theorem Xl8:F2 (lnW (UF U5 7)) wk7=wk8:=VX
theorem Qt7:lnE (UF U5 8) wk8=0:=by decide+kernel
theorem Xl7:F2 (lnW (UF U5 8)) wk8=wk9:=VX
theorem Qt6:lnE (UF U5 9) wk9=0:=by decide+kernel
theorem Xl6:F2 (lnW (UF U5 9)) wk9=Qh7:=VX
theorem mC:lnE (UF U5 10) Qh7=0:=by decide+kernel
theorem Qs7:F2 (lnW (UF U5 10)) Qh7=VR:=VX
theorem Xm7:boE VR.nb VR.ql VR.qh VR.qm VR.qr VR.qv=0:=by decide+kernel
theorem Xm6:boN VR.nb VR.ql VR.qh VR.qm VR.qr VR.qv=3:=by decide+kernel
theorem Qt0:boL VR.nb VR.ql VR.qh VR.qm VR.qr VR.qv 0=0:=by decide+kernel
theorem Qt3:boH VR.nb VR.ql VR.qh VR.qm VR.qr VR.qv 0=0:=by decide+kernel
theorem Qs9:boL VR.nb VR.ql VR.qh VR.qm VR.qr VR.qv 1=1:=by decide+kernel
theorem Qt2:boH VR.nb VR.ql VR.qh VR.qm VR.qr VR.qv 1=5:=by decide+kernel
theorem Qs8:boL VR.nb VR.ql VR.qh VR.qm VR.qr VR.qv 2= -3:=by decide+kernel
theorem Qt1:boH VR.nb VR.ql VR.qh VR.qm VR.qr VR.qv 2=5:=by decide+kernel
theorem Qs6:stP VR 0 0=true:=by decide+kernel
theorem Qt5:zK VR.ns VR.sa VR.sb VR.sc VR.sl VR.sh=true:=by decide+kernel
theorem Qu8:caB VR.ns VR.sa VR.sb VR.sc VR.sl VR.sh 1 0=true:=by decide+kernel
theorem Qu7:caB VR.ns VR.sa VR.sb VR.sc VR.sl VR.sh 1 1=true:=by decide+kernel
theorem Xy2:caB VR.ns VR.sa VR.sb VR.sc VR.sl VR.sh 1 2=false:=by decide+kernel
theorem Xy1:caB VR.ns VR.sa VR.sb VR.sc VR.sl VR.sh 1 3=false:=by decide+kernel
theorem Qs5:suB VR.ns VR.sa VR.sb VR.sc VR.sl VR.sh 1 0=true:=by decide+kernel
theorem Xw5:suB VR.ns VR.sa VR.sb VR.sc VR.sl VR.sh 1 1=false:=by decide+kernel
theorem Xw4:suB VR.ns VR.sa VR.sb VR.sc VR.sl VR.sh 1 2=false:=by decide+kernel
theorem Xw3:suB VR.ns VR.sa VR.sb VR.sc VR.sl VR.sh 1 3=false:=by decide+kernel
theorem Zr9:hdN 4 100 20 30 VR.nr VR.ra VR.rb VR.ru VR.rv 3 tbP tbQ VR.pl VR.ph 1 3 0=5:=by decide+kernel
theorem Xx5:onL (wkA 4 100 20 30 VR.nr VR.ra VR.rb VR.ru VR.rv 3 tbP tbQ VR.pl VR.ph 1 3) 0 0=0:=by decide+kernel
theorem Xy0:onH (wkA 4 100 20 30 VR.nr VR.ra VR.rb VR.ru VR.rv 3 tbP tbQ VR.pl VR.ph 1 3) 0 0=0:=by decide+kernel
theorem Xx4:onL (wkA 4 100 20 30 VR.nr VR.ra VR.rb VR.ru VR.rv 3 tbP tbQ VR.pl VR.ph 1 3) 1 0=200:=by decide+kernel
theorem Xx9:onH (wkA 4 100 20 30 VR.nr VR.ra VR.rb VR.ru VR.rv 3 tbP tbQ VR.pl VR.ph 1 3) 1 0=300:=by decide+kernel
theorem Xx3:onL (wkA 4 100 20 30 VR.nr VR.ra VR.rb VR.ru VR.rv 3 tbP tbQ VR.pl VR.ph 1 3) 2 0=410:=by decide+kernel
theorem Xx8:onH (wkA 4 100 20 30 VR.nr VR.ra VR.rb VR.ru VR.rv 3 tbP tbQ VR.pl VR.ph 1 3) 2 0=510:=by decide+kernel
theorem Xx2:onL (wkA 4 100 20 30 VR.nr VR.ra VR.rb VR.ru VR.rv 3 tbP tbQ VR.pl VR.ph 1 3) 3 0=700:=by decide+kernel
theorem Xx7:onH (wkA 4 100 20 30 VR.nr VR.ra VR.rb VR.ru VR.rv 3 tbP tbQ VR.pl VR.ph 1 3) 3 0=800:=by decide+kernel
theorem Xx1:onL (wkA 4 100 20 30 VR.nr VR.ra VR.rb VR.ru VR.rv 3 tbP tbQ VR.pl VR.ph 1 3) 4 0=1000:=by decide+kernel
theorem Xx6:onH (wkA 4 100 20 30 VR.nr VR.ra VR.rb VR.ru VR.rv 3 tbP tbQ VR.pl VR.ph 1 3) 4 0=1000:=by decide+kernel
theorem Xx0:(hoS VR.ns VR.sa VR.sb VR.sc VR.sl VR.sh 0 100).1=4:=by decide+kernel
theorem Xw9:(hoS VR.ns VR.sa VR.sb VR.sc VR.sl VR.sh 1 100).1=2:=by decide+kernel
theorem Xw8:(hoS VR.ns VR.sa VR.sb VR.sc VR.sl VR.sh 2 100).1=4:=by decide+kernel
theorem Xw7:(hoS VR.ns VR.sa VR.sb VR.sc VR.sl VR.sh 3 100).1=0:=by decide+kernel
def PH{α:Type}:VO α->VO α
 | .fail=> .fail
 | .leaf a=> .leaf a
 | .branch b t f=>match b with
  |true=>PH t
  |false=>PH f
 | .need ps t=> .need ps (PH t)
 | .may p t f=> .may p (PH t) (PH f)
def Xg7(sp:UL):UL:=λs=>match sp s with
 |some t=>some (PH t)
 |none=>none
section
variable (n:Nat)(f:Nat->List AV)
def byB:Bool:=FN (λj=>match f j with
 |[.x (.int .u8 c)]=>decide (0<=c)&&decide (c<256)
 |_=>false) n
def Zt0:Bool:=FN (λj=>match f j with
 |[.x (.string _)]=>true
 |_=>false) n
end
theorem H2{α:Type}{Q:α->Prop}: ∀{t:VO α},(PH t).sat Q->t.sat Q
 | .fail,h=>h
 | .leaf _,h=>h
 | .branch true _ _,h=>⟨λ_=>H2 h,λe=>Bool.noConfusion e⟩
 | .branch false _ _,h=>⟨λe=>Bool.noConfusion e,λ_=>H2 h⟩
 | .need _ _,h=>⟨h.1,H2 h.2⟩
 | .may _ _ _,h=>⟨λp=>H2 (h.1 p),H2 h.2⟩
theorem Zi8{P:Program}{ro:Option Nat}{cx:Cx}{c:Code}{sp:UL}(h:HH P ro cx c sp):HH P ro cx c (Xg7 sp):=by
 intro n s t I Q hQ a w r;unfold Xg7 at I;split at I
 ·rename_i t0 h0;cases I;exact h n s t0 h0 Q (H2 hQ) a w r
 ·cases I
section
variable {n:Nat}{f:Nat->List AV}
theorem pA(h:byB n f=true):uR n f:=by
 intro j hj;have h1:=H3.1 h j hj;split at h1
 ·rename_i c hc;rw [HA,gJ,gJ] at h1;rw [hc];have e:byO [.x (.int .u8 c)]=c.toNat:=rfl;rw [e];refine ⟨VL,?_⟩;rw [show ((c.toNat:Nat):Int)=c by omega]
 ·cases h1
theorem bA(h:Zt0 n f=true):jR n f:=by
 intro j hj;have h1:=H3.1 h j hj;split at h1
 ·rename_i s hc;rw [hc];rfl
 ·cases h1
end
noncomputable def Ww8:D0:=rJ Tryz.prog [] {R:=[],H:=[(68,Xk4)] } [] Tryz.f41 (UA Tryz.f41)
theorem Xi3:GC VQ 41 Ww8:=
 RK (G:=[]) (X:={R:=[],H:=[(68,Xk4)] }) (L:=[]) Aa (Ai Ab (Ag Zj4 Ac)) U0 (UJ Tryz.func41) Tryz.func41 (UV Tryz.f41) U7
noncomputable def dW:D0:=rJ Tryz.prog [(69,dT),(70,dS)] WH [(Xg7 (λs=>some (kG Tryz.prog [(69,dT),(70,dS)] WH [] (UC (VU (UA Tryz.f42) 0)) 10 s)))] Tryz.f42 (UA Tryz.f42)
theorem eM:GC VQ 42 dW:=
 RK (G:=[(69,dT),(70,dS)]) (X:=WH) (L:=[(Xg7 (λs=>some (kG Tryz.prog [(69,dT),(70,dS)] WH [] (UC (VU (UA Tryz.f42) 0)) 10 s)))]) (Ae T8 (Ae tO Aa)) Ad U0 (UJ Tryz.func42) Tryz.func42 (UV Tryz.f42) (GA (lpE (b:= .loop (UC (VU (UA Tryz.f42) 0))) VX<|λro cx=>Zi8 (yB (Ae T8 (Ae tO Aa)) (Ad cx) U0 (λj cj hj sp W=>by simp at W) 10)))
noncomputable def Ww7:D0:=rJ Tryz.prog [] {R:=[],H:=[(42,dW),(41,Ww8)] } [] Tryz.f40 (UA Tryz.f40)
theorem xB:GC VQ 40 Ww7:=
 RK (G:=[]) (X:={R:=[],H:=[(42,dW),(41,Ww8)] }) (L:=[]) Aa (Ai Ab (Ag eM (Ag Xi3 Ac))) U0 (UJ Tryz.func40) Tryz.func40 (UV Tryz.f40) U7
def A0:G0
 |[.x (.int .i64 a),.x (.int .i64 b)]=>some ([0<=a/\a<=1000\/ -1000<=a/\a<=1000,-1000<=b/\b<=1000,((⟨(Lib.itoa a).toArray⟩:ByteArray)++⟨#[46,46]⟩).size+(⟨(Lib.itoa b).toArray⟩:ByteArray).size<=100],.x (.string ((⟨(Lib.itoa a).toArray⟩++⟨#[46,46]⟩)++⟨(Lib.itoa b).toArray⟩)))
 |_=>none
theorem Wi6(a b:Int)(VV:0<=a/\a<=1000\/ -1000<=a/\a<=1000)(UI: -1000<=b/\b<=1000)(HR:((⟨(Lib.itoa a).toArray⟩:ByteArray)++⟨#[46,46]⟩).size+(⟨(Lib.itoa b).toArray⟩:ByteArray).size<=100):VZ VQ 45 [i a,i b] (.x (.string ((⟨(Lib.itoa a).toArray⟩++⟨#[46,46]⟩)++⟨(Lib.itoa b).toArray⟩))):=by
 refine U4 (L:=[]) (Ae T8 Aa) U0 Tryz.func45 (UV Tryz.f45) U7 (t:=need [VN a] (need [(↑(ByteArray.size {data:=List.toArray (Lib.itoa a) }+ByteArray.size {data:=#[46,46] }):Int)<=9223372036854775807] (need [VN b] (need [(↑(ByteArray.size ({data:=List.toArray (Lib.itoa a) }++{data:=#[46,46] })+ByteArray.size {data:=List.toArray (Lib.itoa b) }):Int)<=9223372036854775807] (leaf (RV.x (.string ({data:=List.toArray (Lib.itoa a) }++{data:=#[46,46] }++{data:=List.toArray (Lib.itoa b) })))))))) VX ?_;rw [Av] at HR;simp only [VO.sat,UE,G5,UH,UK,VN,Av];all_goals exact V6
theorem xA:VS VQ 45 A0:=by
 refine ⟨(UJ Tryz.func45),?_⟩;intro avs ns Z h hn;unfold A0 at h;split at h
 ·cases h;exact Wi6 _ _ (hn _ VW) (hn _ VW) (hn _ VW)
 ·cases h
def Zc2:ByteArray:=⟨#[114,101,97,100,105,110,103,115,32,50,32,98,97,116,104,115,32,50,32,99,101,114,116,105,102,105,99,97,116,101,115,32,49,32,115,97,108,101,115,32,50,10,109,97,114,107,115,32,48,46,46,48,32,50,48,48,46,46,51,48,48,32,52,49,48,46,46,53,49,48,32,55,48,48,46,46,56,48,48,32,49,48,48,48,46,46,49,48,48,48,10,111,102,102,115,101,116,115,32,48,46,46,48,32,49,46,46,53,32,45,51,46,46,53,10,115,116,97,110,100,32,48,10,104,111,108,100,32,52,32,50,32,52,32,48,10]⟩
def pV:G0:=λl=>some ([l=[lns 11 (UF U5)]],i 0)
def Qf4:D8:=λl=>some (.need [l=[lns 11 (UF U5)]] (.leaf (.tup [.ro (hsL VR),.lst 1 11 (exG (UF U5))])))
def Wu9:G0:=λl=>some ([l=[.agg [i 4,i 100,i 20,i 30,hsR VR,.lst 2 3 (λk=>[i (tbP k),i (tbQ k)]),i VR.pl,i VR.ph,i 1,i 3],i 0]],.tup [.lst 2 5 (λk=>[i (U9 [0,200,410,700,1000] k),i (U9 [0,300,510,800,1000] k)]),i 0])
def pT:G0:=λl=>some ([l=[.agg [ofs,i 1,hsB VR]]],.tup [.lst 2 3 (λk=>[i (U9 [0,1,-3] k),i (U9 [0,5,5] k)]),i 0])
def pS:G0:=λl=>some ([l=[.agg (hsL VR),.agg [i (VR.ca 0),i (VR.cb 0),i (VR.cc 0),i (VR.cd 0),bl (VR.cv 0)],i (VR.cd 0)]],bl true)
def Wu8:D8:=λl=>match l with
 |[b,.x (.int .i64 ow),d]=>some (.need [b= .agg [i 4,i 10,hsS VR],d=i 100,0<=ow/\ow<=3] (.leaf (.tup [.agg [i (U9 [4,2,4,0] ow.toNat),i (hoS VR.ns VR.sa VR.sb VR.sc VR.sl VR.sh ow 100).2],i 0])))
 |_=>none
theorem Zr8:sK (UF U5) 0=hs0:=rfl
theorem Zr7:sK (UF U5) 1=wk1:=by
 show lnS (UF U5 0) (sK (UF U5) 0)=_;rw [Zr8];unfold lnS;rw [if_pos Qu5];exact Xm5
theorem Zr6:sK (UF U5) 2=wk2:=by
 show lnS (UF U5 1) (sK (UF U5) 1)=_;rw [Zr7];unfold lnS;rw [if_pos Qu4];exact Xm4
theorem Zr5:sK (UF U5) 3=wk3:=by
 show lnS (UF U5 2) (sK (UF U5) 2)=_;rw [Zr6];unfold lnS;rw [if_pos Qu3];exact Xm3
theorem Zr4:sK (UF U5) 4=wk4:=by
 show lnS (UF U5 3) (sK (UF U5) 3)=_;rw [Zr5];unfold lnS;rw [if_pos Qu2];exact Xm2
theorem Zr3:sK (UF U5) 5=wk5:=by
 show lnS (UF U5 4) (sK (UF U5) 4)=_;rw [Zr4];unfold lnS;rw [if_pos Qu1];exact Xm1
theorem Zr2:sK (UF U5) 6=wk6:=by
 show lnS (UF U5 5) (sK (UF U5) 5)=_;rw [Zr3];unfold lnS;rw [if_pos Qu0];exact Xm0
theorem Zr1:sK (UF U5) 7=wk7:=by
 show lnS (UF U5 6) (sK (UF U5) 6)=_;rw [Zr2];unfold lnS;rw [if_pos Qt9];exact Xl9
theorem Zr0:sK (UF U5) 8=wk8:=by
 show lnS (UF U5 7) (sK (UF U5) 7)=_;rw [Zr1];unfold lnS;rw [if_pos Qt8];exact Xl8
theorem Zq9:sK (UF U5) 9=wk9:=by
 show lnS (UF U5 8) (sK (UF U5) 8)=_;rw [Zr0];unfold lnS;rw [if_pos Qt7];exact Xl7
theorem Xw6:sK (UF U5) 10=Qh7:=by
 show lnS (UF U5 9) (sK (UF U5) 9)=_;rw [Zq9];unfold lnS;rw [if_pos Qt6];exact Xl6
theorem yP:sK (UF U5) 11=VR:=by
 show lnS (UF U5 10) (sK (UF U5) 10)=_;rw [Xw6];unfold lnS;rw [if_pos mC];exact Qs7
theorem Qu6:ckE 11 (UF U5)=0:=by decide+kernel
theorem kX:VS VQ 35 pV:=by
 refine ⟨(UJ Tryz.func35),?_⟩;intro avs ns Z h hn;cases h;have e:avs=[lns 11 (UF U5)]:=hn _ GI;subst e;have h1:=NN 11 (UF U5) VL;rw [Qu6] at h1;exact h1
theorem wY:Sx.Enters Tryz.prog 37/\ ∀avs t,Qf4 avs=some t->UP VQ 37 avs t:=by
 refine ⟨(UJ Tryz.func37),?_⟩;intro avs t h;cases h;intro Q hQ;have e:avs=[lns 11 (UF U5)]:=hQ.1;subst e;have hk:=Wp1 Qu6;have h1:=eG 11 (UF U5) hk.1 (λk h=>by have:=hk.2 k h;omega) Q
 rw [yP] at h1;exact h1 hQ.2
theorem kU:PI VQ 43 Wu9:=by
 refine ⟨(UJ Tryz.func43),?_⟩;intro avs ns Z h hn;cases h;have e:avs=[.agg [i 4,i 100,i 20,i 30,hsR VR,.lst 2 3 (λk=>[i (tbP k),i (tbQ k)]),i VR.pl,i VR.ph,i 1,i 3],i 0]:=hn _ GI
 subst e;intro e w args q1 q2 q3 q4;refine (vQ 4 100 20 30 VR.nr VR.ra VR.rb VR.ru VR.rv 3 tbP tbQ VR.pl VR.ph 1 3 0 e w args q1 q2 q3 q4).mono ?_;rintro en w' ⟨v,rfl,g1,g2⟩;refine ⟨v,rfl,g1,FW ?_ g2⟩;rw [show hdE 4 100 20 30 VR.nr VR.ra VR.rb VR.ru VR.rv 3 tbP tbQ VR.pl VR.ph 1 3 0=0 by decide+kernel]
 refine ⟨⟨rfl,Zr9,λk hk=>?_⟩,⟨rfl,rfl⟩,Ak⟩
 rcases (show k=0\/k=1\/k=2\/k=3\/k=4 by omega) with rfl|rfl|rfl|rfl|rfl
 ·show [i _,i _]=_;rw [Xx5,Xy0];rfl
 ·show [i _,i _]=_;rw [Xx4,Xx9];rfl
 ·show [i _,i _]=_;rw [Xx3,Xx8];rfl
 ·show [i _,i _]=_;rw [Xx2,Xx7];rfl
 ·show [i _,i _]=_;rw [Xx1,Xx6];rfl
theorem aV:dY VR:=by
 have h:=fF (UF U5) 11;rw [yP] at h;exact h
theorem kQ:VS VQ 19 pT:=by
 refine ⟨(UJ Tryz.func19),?_⟩;intro avs ns Z h hn;cases h;have e:avs=[.agg [ofs,i 1,hsB VR]]:=hn _ GI;subst e;intro e w args q1 q2 q3 q4;refine (kA VR.nb VR.ql VR.qh VR.qm VR.qr VR.qv aV.bV e w args q1 q2 q3 q4).mono ?_;rintro en w' ⟨v,rfl,g1,g2⟩;refine ⟨v,rfl,g1,FW ?_ g2⟩;rw [Xm7];refine ⟨⟨rfl,Xm6,λk hk=>?_⟩,⟨rfl,rfl⟩,Ak⟩
 rcases (show k=0\/k=1\/k=2 by omega) with rfl|rfl|rfl
 ·show [i _,i _]=_;rw [Qt0,Qt3];rfl
 ·show [i _,i _]=_;rw [Qs9,Qt2];rfl
 ·show [i _,i _]=_;rw [Qs8,Qt1];rfl
theorem kI:VS VQ 38 pS:=by
 refine ⟨(UJ Tryz.func38),?_⟩;intro avs ns Z h hn;cases h;have e:avs=[.agg (hsL VR),.agg [i (VR.ca 0),i (VR.cb 0),i (VR.cc 0),i (VR.cd 0),bl (VR.cv 0)],i (VR.cd 0)]:=hn _ GI;subst e;have h1:=EC VR (VR.ca 0) (VR.cb 0) (VR.cc 0) (VR.cd 0) (VR.cv 0) (VR.cd 0);have h2:stB VR (VR.ca 0) (VR.cb 0) (VR.cc 0) (VR.cd 0) (VR.cv 0) (VR.cd 0)=true:=by
  have h3:VR.cd 0=0:=VX;have h4:=Qs6;unfold stP at h4;rw [h3] at h4 ⊢;exact h4
 rw [h2] at h1;exact h1
theorem dD:Sx.Enters Tryz.prog 47/\ ∀avs t,Wu8 avs=some t->UP VQ 47 avs t:=by
 refine ⟨(UJ Tryz.func47),?_⟩;intro avs t h;unfold Wu8 at h;split at h
 ·rename_i b ow d;cases h;intro Q hQ;obtain ⟨⟨e1,e2,e3,_⟩,hq⟩:=hQ;subst e1 e2;refine Qj8 VR.ns VR.sa VR.sb VR.sc VR.sl VR.sh ow 100 aV.sV Q ?_;have hb:(bt 0 ow 3&&bt 0 100 100)=true:=by
   rw [HA,Bo.bt_iff,Bo.bt_iff];omega
  refine ⟨λ_=>⟨λh=>?_,λ_=>?_⟩,λh=>Bool.noConfusion (hb.symm.trans h)⟩
  ·rw [Qt5] at h;exact Bool.noConfusion h
  ·have ho:(hoS VR.ns VR.sa VR.sb VR.sc VR.sl VR.sh ow 100).1=U9 [4,2,4,0] ow.toNat:=by
    rcases (show ow=0\/ow=1\/ow=2\/ow=3 by omega) with rfl|rfl|rfl|rfl
    ·exact Xx0
    ·exact Xw9
    ·exact Xw8
    ·exact Xw7
   show Q _;rw [ho];exact hq
 ·cases h
def wvS(s:ByteArray):AV:= .x (.iface 9 (.string s))
def wvI(n:Int):AV:= .x (.iface 3 (.int .i64 n))
def GZ(l:List AV)(k:Nat):List AV:=[l.getD k .top]
def wl0:List AV:=[wvS ⟨#[109,97,114,107,115]⟩,wvS ⟨#[48,46,46,48]⟩,wvS ⟨#[50,48,48,46,46,51,48,48]⟩,wvS ⟨#[52,49,48,46,46,53,49,48]⟩,wvS ⟨#[55,48,48,46,46,56,48,48]⟩,wvS ⟨#[49,48,48,48,46,46,49,48,48,48]⟩]
def wl1:List AV:=[wvS ⟨#[111,102,102,115,101,116,115]⟩,wvS ⟨#[48,46,46,48]⟩,wvS ⟨#[49,46,46,53]⟩,wvS ⟨#[45,51,46,46,53]⟩]
def wl2:List AV:=[wvS ⟨#[115,116,97,110,100]⟩,wvI 0]
def wl3:List AV:=[wvS ⟨#[104,111,108,100]⟩,wvI 4,wvI 2,wvI 4,wvI 0]
def rp0:ByteArray:=⟨#[114,101,97,100,105,110,103,115,32,50,32,98,97,116,104,115,32,50,32,99,101,114,116,105,102,105,99,97,116,101,115,32,49,32,115,97,108,101,115,32,50,10]⟩
def rp1:ByteArray:=⟨#[114,101,97,100,105,110,103,115,32,50,32,98,97,116,104,115,32,50,32,99,101,114,116,105,102,105,99,97,116,101,115,32,49,32,115,97,108,101,115,32,50,10,109,97,114,107,115,32,48,46,46,48,32,50,48,48,46,46,51,48,48,32,52,49,48,46,46,53,49,48,32,55,48,48,46,46,56,48,48,32,49,48,48,48,46,46,49,48,48,48,10]⟩
def rp2:ByteArray:=⟨#[114,101,97,100,105,110,103,115,32,50,32,98,97,116,104,115,32,50,32,99,101,114,116,105,102,105,99,97,116,101,115,32,49,32,115,97,108,101,115,32,50,10,109,97,114,107,115,32,48,46,46,48,32,50,48,48,46,46,51,48,48,32,52,49,48,46,46,53,49,48,32,55,48,48,46,46,56,48,48,32,49,48,48,48,46,46,49,48,48,48,10,111,102,102,115,101,116,115,32,48,46,46,48,32,49,46,46,53,32,45,51,46,46,53,10]⟩
def rp3:ByteArray:=⟨#[114,101,97,100,105,110,103,115,32,50,32,98,97,116,104,115,32,50,32,99,101,114,116,105,102,105,99,97,116,101,115,32,49,32,115,97,108,101,115,32,50,10,109,97,114,107,115,32,48,46,46,48,32,50,48,48,46,46,51,48,48,32,52,49,48,46,46,53,49,48,32,55,48,48,46,46,56,48,48,32,49,48,48,48,46,46,49,48,48,48,10,111,102,102,115,101,116,115,32,48,46,46,48,32,49,46,46,53,32,45,51,46,46,53,10,115,116,97,110,100,32,48,10]⟩
def rp4:ByteArray:=⟨#[114,101,97,100,105,110,103,115,32,50,32,98,97,116,104,115,32,50,32,99,101,114,116,105,102,105,99,97,116,101,115,32,49,32,115,97,108,101,115,32,50,10,109,97,114,107,115,32,48,46,46,48,32,50,48,48,46,46,51,48,48,32,52,49,48,46,46,53,49,48,32,55,48,48,46,46,56,48,48,32,49,48,48,48,46,46,49,48,48,48,10,111,102,102,115,101,116,115,32,48,46,46,48,32,49,46,46,53,32,45,51,46,46,53,10,115,116,97,110,100,32,48,10,104,111,108,100,32,52,32,50,32,52,32,48,10]⟩
def eqBy(n:Nat)(F:Nat->List AV)(B:ByteArray):Bool:=FN (λj=>match F j with
 |[.x (.int .u8 c)]=>decide (c=byN B j)
 |_=>false) n
theorem Qa6{n:Nat}{F:Nat->List AV}{B:ByteArray}(h:eqBy n F B=true): ∀i,i<n->F i=DK B i:=by
 intro j hj;have h1:=H3.1 h j hj;split at h1
 ·rename_i c hc;rw [hc,wL h1];rfl
 ·cases h1
theorem ltM{n:Nat}{f g:Nat->List AV}(h:(List.range n).map f=(List.range n).map g): ∀i,i<n->f i=g i:=λi O=>by
 have e:=congrArg (λl=>l[i]?) h
 simpa [O] using e
abbrev JH:H0:=[(920,.row 20 1 1 (GZ wl0)),(921,.row 20 1 1 (GZ wl1)),(922,.row 20 1 1 (GZ wl2)),(923,.row 20 1 1 (GZ wl3)),(911,.row 5 1 42 (DK rp0)),(14,.cells 104 [.ptr 14 0,.row 911])]
def fY(z:Nat):St:=((some {σ:=mkS 198 [(0,.top),(5,.ro (hsL VR)),(7,.ptr 14 0),(8,.fn (.func 40) [] [.ptr 14 0]),(9,.row 920),(10,.row 921),(11,.row 922),(12,.row 923),(91,.lst 2 5 (λk=>[i (U9 [0,200,410,700,1000] k),i (U9 [0,300,510,800,1000] k)])),(92,i 5),(93,i 0)],m:=JH,nx:=930}:Option St):Option St).getD {σ:=[],m:=[],nx:=0}
noncomputable def r8:Code:=UC (VU (UA Tryz.f12) 0)
abbrev WW:H0:=[(920,.row 20 1 6 (GZ wl0)),(921,.row 20 1 1 (GZ wl1)),(922,.row 20 1 1 (GZ wl2)),(923,.row 20 1 1 (GZ wl3)),(911,.row 5 1 42 (DK rp0)),(14,.cells 104 [.ptr 14 0,.row 911])]
section
variable (z:Nat)
def DN:Nat->St
 | 0=>{σ:=H6 [(91,.lst 2 5 (λk=>[i (U9 [0,200,410,700,1000] k),i (U9 [0,300,510,800,1000] k)])),(92,i 5),(93,i 0)] (fY z).σ,m:=JH,nx:=930}
 | 1=>{σ:=H6 [(91,.lst 2 5 (λk=>[i (U9 [0,200,410,700,1000] k),i (U9 [0,300,510,800,1000] k)])),(92,i 5),(93,i 1)] (fY z).σ,m:=[(920,.row 20 1 2 (GZ wl0)),(921,.row 20 1 1 (GZ wl1)),(922,.row 20 1 1 (GZ wl2)),(923,.row 20 1 1 (GZ wl3)),(911,.row 5 1 42 (DK rp0)),(14,.cells 104 [.ptr 14 0,.row 911])],nx:=930}
 | 2=>{σ:=H6 [(91,.lst 2 5 (λk=>[i (U9 [0,200,410,700,1000] k),i (U9 [0,300,510,800,1000] k)])),(92,i 5),(93,i 2)] (fY z).σ,m:=[(920,.row 20 1 3 (GZ wl0)),(921,.row 20 1 1 (GZ wl1)),(922,.row 20 1 1 (GZ wl2)),(923,.row 20 1 1 (GZ wl3)),(911,.row 5 1 42 (DK rp0)),(14,.cells 104 [.ptr 14 0,.row 911])],nx:=930}
 | 3=>{σ:=H6 [(91,.lst 2 5 (λk=>[i (U9 [0,200,410,700,1000] k),i (U9 [0,300,510,800,1000] k)])),(92,i 5),(93,i 3)] (fY z).σ,m:=[(920,.row 20 1 4 (GZ wl0)),(921,.row 20 1 1 (GZ wl1)),(922,.row 20 1 1 (GZ wl2)),(923,.row 20 1 1 (GZ wl3)),(911,.row 5 1 42 (DK rp0)),(14,.cells 104 [.ptr 14 0,.row 911])],nx:=930}
 | 4=>{σ:=H6 [(91,.lst 2 5 (λk=>[i (U9 [0,200,410,700,1000] k),i (U9 [0,300,510,800,1000] k)])),(92,i 5),(93,i 4)] (fY z).σ,m:=[(920,.row 20 1 5 (GZ wl0)),(921,.row 20 1 1 (GZ wl1)),(922,.row 20 1 1 (GZ wl2)),(923,.row 20 1 1 (GZ wl3)),(911,.row 5 1 42 (DK rp0)),(14,.cells 104 [.ptr 14 0,.row 911])],nx:=930}
 |_=>{σ:=H6 [(91,.lst 2 5 (λk=>[i (U9 [0,200,410,700,1000] k),i (U9 [0,300,510,800,1000] k)])),(92,i 5),(93,i 5)] (fY z).σ,m:=WW,nx:=930}
def DE:GB->Option St
 | .exit 0=>some {σ:=H6 [(91,.lst 2 5 (λk=>[i (U9 [0,200,410,700,1000] k),i (U9 [0,300,510,800,1000] k)])),(92,i 5),(93,i 5)] (fY z).σ,m:=WW,nx:=930}
 |_=>none
def IH:CT:= .leaf (.exit 0,(DE z (.exit 0)).getD (fY z))
abbrev QE:List (Pl×Nat×TypeId×Nat):=[(.slot 9,920,20,1),(.slot 10,921,20,1),(.slot 11,922,20,1),(.slot 12,923,20,1),(.cell 14 1,911,5,1)]
def Wv9:UL:=GN QE (HM (DN z 0) (IH z))
abbrev Q6:Prop:=AV.ro [hR 2 VR,iI VR.pl,iI VR.ph,hY 2 VR,hC 1 VR,hT 2 VR]=AV.ro [hR 2 VR,iI VR.pl,iI VR.ph,hY 2 VR,hC 1 VR,hT 2 VR]
noncomputable abbrev Q9:Ext:={R:=[(43,Wu9),(44,L5),(46,xP),(39,IL)],H:=[(40,Ww7),(48,Ww6)],C:=[(37,Qf4),(47,Wu8)] }
abbrev QG:List Int:=[(0:Int),200,410,700,1000]
abbrev QJ:List Int:=[(0:Int),300,510,800,1000]
abbrev QN:Prop:=AV.fn (Fn.func 40) [] [ptr 14 0]=AV.fn (Fn.func 40) [] [ptr 14 0]
abbrev QV:List (Nat×G0):=[(35,pV),(19,pT),(38,pS),(45,A0)]
abbrev WC:Prop:=ptr 14 0=ptr 14 0
abbrev WR:AV:=lst 2 5 λk=>[iI (U9 QG k),iI (U9 QJ k)]
abbrev WZ:Prop:=AV.row 911=AV.row 911
abbrev XY:Prop:=AV.row 920=AV.row 920
abbrev XZ:Prop:=AV.row 921=AV.row 921
abbrev Z0:Prop:=AV.row 922=AV.row 922
abbrev Z1:Prop:=AV.row 923=AV.row 923
theorem Zc0:PH (HX VQ QV Q9 [] QE r8 (DN z 0) (DN z 1) (DE z))=(let A:=([AV.x (.iface 9 (.string ({data:=List.toArray (Lib.itoa (U9 QG (0:Int).toNat)) }++{data:=#[46,46] }++{data:=List.toArray (Lib.itoa (U9 QJ (0:Int).toNat)) })))]);(need [UN 0 5] (need [(0:Int)<=U9 QG (0:Int).toNat/\U9 QG (0:Int).toNat<=1000\/(-1000:Int)<=U9 QG (0:Int).toNat/\U9 QG (0:Int).toNat<=1000,(-1000:Int)<=U9 QJ (0:Int).toNat/\U9 QJ (0:Int).toNat<=1000,4<=100] (need [32<=140737488355328,∀(i:Nat),i<1-> ∀(a:AV),a∈U8 1 A i->AV.one a=true] (need [VN ((0:Int)+1)] (need [Q6,WC,QN,XY,XZ,Z0,Z1,WR=WR,J5,(0:Int)+1=1,2=2,GV 2 (GJ 1 (GZ wl0) (U8 1 A)) (GZ wl0),1=1,GO 1 (GZ wl1),1=1,GO 1 (GZ wl2),1=1,GO 1 (GZ wl3),42=42,GO 42 (DK rp0),WC,WZ] (leaf GB.normal))))))):=by
 kernel_rfl
theorem Zb9:PH (HX VQ QV Q9 [] QE r8 (DN z 1) (DN z 2) (DE z))=(let A:=([AV.x (.iface 9 (.string ({data:=List.toArray (Lib.itoa (U9 QG (1:Int).toNat)) }++{data:=#[46,46] }++{data:=List.toArray (Lib.itoa (U9 QJ (1:Int).toNat)) })))]);(need [UN 1 5] (need [(0:Int)<=U9 QG (1:Int).toNat/\U9 QG (1:Int).toNat<=1000\/(-1000:Int)<=U9 QG (1:Int).toNat/\U9 QG (1:Int).toNat<=1000,(-1000:Int)<=U9 QJ (1:Int).toNat/\U9 QJ (1:Int).toNat<=1000,8<=100] (need [48<=140737488355328,∀(i:Nat),i<1-> ∀(a:AV),a∈U8 1 A i->AV.one a=true] (need [VN ((1:Int)+1)] (need [Q6,WC,QN,XY,XZ,Z0,Z1,WR=WR,J5,(1:Int)+1=2,3=3,GV 3 (GJ 2 (GZ wl0) (U8 1 A)) (GZ wl0),1=1,GO 1 (GZ wl1),1=1,GO 1 (GZ wl2),1=1,GO 1 (GZ wl3),42=42,GO 42 (DK rp0),WC,WZ] (leaf GB.normal))))))):=by
 kernel_rfl
theorem Zb8:PH (HX VQ QV Q9 [] QE r8 (DN z 2) (DN z 3) (DE z))=(let A:=([AV.x (.iface 9 (.string ({data:=List.toArray (Lib.itoa (U9 QG (2:Int).toNat)) }++{data:=#[46,46] }++{data:=List.toArray (Lib.itoa (U9 QJ (2:Int).toNat)) })))]);(need [UN 2 5] (need [(0:Int)<=U9 QG (2:Int).toNat/\U9 QG (2:Int).toNat<=1000\/(-1000:Int)<=U9 QG (2:Int).toNat/\U9 QG (2:Int).toNat<=1000,(-1000:Int)<=U9 QJ (2:Int).toNat/\U9 QJ (2:Int).toNat<=1000,8<=100] (need [64<=140737488355328,∀(i:Nat),i<1-> ∀(a:AV),a∈U8 1 A i->AV.one a=true] (need [VN ((2:Int)+1)] (need [Q6,WC,QN,XY,XZ,Z0,Z1,WR=WR,J5,(2:Int)+1=3,4=4,GV 4 (GJ 3 (GZ wl0) (U8 1 A)) (GZ wl0),1=1,GO 1 (GZ wl1),1=1,GO 1 (GZ wl2),1=1,GO 1 (GZ wl3),42=42,GO 42 (DK rp0),WC,WZ] (leaf GB.normal))))))):=by
 kernel_rfl
theorem Zb7:PH (HX VQ QV Q9 [] QE r8 (DN z 3) (DN z 4) (DE z))=(let A:=([AV.x (.iface 9 (.string ({data:=List.toArray (Lib.itoa (U9 QG (3:Int).toNat)) }++{data:=#[46,46] }++{data:=List.toArray (Lib.itoa (U9 QJ (3:Int).toNat)) })))]);(need [UN 3 5] (need [(0:Int)<=U9 QG (3:Int).toNat/\U9 QG (3:Int).toNat<=1000\/(-1000:Int)<=U9 QG (3:Int).toNat/\U9 QG (3:Int).toNat<=1000,(-1000:Int)<=U9 QJ (3:Int).toNat/\U9 QJ (3:Int).toNat<=1000,8<=100] (need [80<=140737488355328,∀(i:Nat),i<1-> ∀(a:AV),a∈U8 1 A i->AV.one a=true] (need [VN ((3:Int)+1)] (need [Q6,WC,QN,XY,XZ,Z0,Z1,WR=WR,J5,(3:Int)+1=4,5=5,GV 5 (GJ 4 (GZ wl0) (U8 1 A)) (GZ wl0),1=1,GO 1 (GZ wl1),1=1,GO 1 (GZ wl2),1=1,GO 1 (GZ wl3),42=42,GO 42 (DK rp0),WC,WZ] (leaf GB.normal))))))):=by
 kernel_rfl
theorem Zb6:PH (HX VQ QV Q9 [] QE r8 (DN z 4) (DN z 5) (DE z))=(let A:=([AV.x (.iface 9 (.string ({data:=List.toArray (Lib.itoa (U9 QG (4:Int).toNat)) }++{data:=#[46,46] }++{data:=List.toArray (Lib.itoa (U9 QJ (4:Int).toNat)) })))]);(need [UN 4 5] (need [(0:Int)<=U9 QG (4:Int).toNat/\U9 QG (4:Int).toNat<=1000\/(-1000:Int)<=U9 QG (4:Int).toNat/\U9 QG (4:Int).toNat<=1000,(-1000:Int)<=U9 QJ (4:Int).toNat/\U9 QJ (4:Int).toNat<=1000,10<=100] (need [96<=140737488355328,∀(i:Nat),i<1-> ∀(a:AV),a∈U8 1 A i->AV.one a=true] (need [VN ((4:Int)+1)] (need [Q6,WC,QN,XY,XZ,Z0,Z1,WR=WR,J5,(4:Int)+1=5,6=6,GV 6 (GJ 5 (GZ wl0) (U8 1 A)) (GZ wl0),1=1,GO 1 (GZ wl1),1=1,GO 1 (GZ wl2),1=1,GO 1 (GZ wl3),42=42,GO 42 (DK rp0),WC,WZ] (leaf GB.normal))))))):=by
 kernel_rfl
theorem Zb5:PH (HX VQ QV Q9 [] QE r8 (DN z 5) (DN z 5) (DE z))=(need [Q6,WC,QN,XY,XZ,Z0,Z1,WR=WR,J5,J5,6=6,GO 6 (GZ wl0),1=1,GO 1 (GZ wl1),1=1,GO 1 (GZ wl2),1=1,GO 1 (GZ wl3),42=42,GO 42 (DK rp0),WC,WZ] (leaf (GB.exit 0))):=by
 kernel_rfl
end
theorem YX{p:Prop}(h:p:=by
 (with_reducible repeat' first|apply Al|intro _)
 all_goals first|exact Ak|(rename_i E hE;cases hE;exact hQ)|contradiction|omega|exact FD (by assumption) (by simp [AV.one,Value.oneCell'])|(rename_i i O;exact Qa6 (by decide+kernel) i O)|(rename_i i O;exact ltM VX i O)|exact bA (by decide+kernel)|exact pA (by decide+kernel)|decide+kernel|with_reducible rfl|rfl):p:=h
theorem Zc1(z:Nat):GD VQ (.loop r8) (Wv9 z):=by
 refine G6 QE (L:=[]) (Ae kX (Ae kQ (Ae kI (Ae xA Aa)))) (Aj (Af kU (Af F6 (Af RD (Af P0 Ab)))) (Ag xB (Ag kH Ac)) (Ah wY (Ah dD (UB.nil _)))) U0 U7 (X:=Nat) (DN z) (λk=>k<=5) (λk=>6-k) (λ_=>DE z) (x0:=0) (Ao _) ?_ ?_ ?_
 ·intro k
  match k with
  | 0=>
   show Sx.okB (DN z 0)=true;kernel_rfl
  | 1=>
   show Sx.okB (DN z 1)=true;kernel_rfl
  | 2=>
   show Sx.okB (DN z 2)=true;kernel_rfl
  | 3=>
   show Sx.okB (DN z 3)=true;kernel_rfl
  | 4=>
   show Sx.okB (DN z 4)=true;kernel_rfl
  |k+5=>
   show Sx.okB (DN z 5)=true;kernel_rfl
 ·intro k y E h;unfold DE at h;split at h
  ·cases h;kernel_rfl
  ·cases h
 ·intro Q hQ k hx
  match k with
  | 0=>
   refine ⟨1,?_⟩
   with_reducible refine H2 ?_
   rw [Zc0];simp only [IH,DE,VO.sat,GX] at hQ;simp only [VO.sat,UE,UK,VN,DE];exact YX
  | 1=>
   refine ⟨2,?_⟩
   with_reducible refine H2 ?_
   rw [Zb9];simp only [IH,DE,VO.sat,GX] at hQ;simp only [VO.sat,UE,UK,VN,DE];exact YX
  | 2=>
   refine ⟨3,?_⟩
   with_reducible refine H2 ?_
   rw [Zb8];simp only [IH,DE,VO.sat,GX] at hQ;simp only [VO.sat,UE,UK,VN,DE];exact YX
  | 3=>
   refine ⟨4,?_⟩
   with_reducible refine H2 ?_
   rw [Zb7];simp only [IH,DE,VO.sat,GX] at hQ;simp only [VO.sat,UE,UK,VN,DE];exact YX
  | 4=>
   refine ⟨5,?_⟩
   with_reducible refine H2 ?_
   rw [Zb6];simp only [IH,DE,VO.sat,GX] at hQ;simp only [VO.sat,UE,UK,VN,DE];exact YX
  | 5=>
   refine ⟨5,?_⟩
   with_reducible refine H2 ?_
   rw [Zb5];simp only [IH,DE,VO.sat,GX] at hQ;simp only [VO.sat,UE,UK,VN,DE];exact YX
  |k+6=>omega
def OT(z:Nat):St:=((some {σ:=mkS 198 [(0,.top),(5,.ro (hsL VR)),(7,.ptr 14 0),(8,.fn (.func 40) [] [.ptr 14 0]),(9,.row 920),(10,.row 921),(11,.row 922),(12,.row 923),(116,.lst 2 3 (λk=>[i (U9 [0,1,-3] k),i (U9 [0,5,5] k)])),(117,i 3),(118,i 0)],m:=WW,nx:=930}:Option St):Option St).getD {σ:=[],m:=[],nx:=0}
noncomputable def OV:Code:=UC (VU (UA Tryz.f12) 1)
abbrev WX:H0:=[(920,.row 20 1 6 (GZ wl0)),(921,.row 20 1 4 (GZ wl1)),(922,.row 20 1 1 (GZ wl2)),(923,.row 20 1 1 (GZ wl3)),(911,.row 5 1 42 (DK rp0)),(14,.cells 104 [.ptr 14 0,.row 911])]
section
variable (z:Nat)
def RS:Nat->St
 | 0=>{σ:=H6 [(116,.lst 2 3 (λk=>[i (U9 [0,1,-3] k),i (U9 [0,5,5] k)])),(117,i 3),(118,i 0)] (OT z).σ,m:=WW,nx:=930}
 | 1=>{σ:=H6 [(116,.lst 2 3 (λk=>[i (U9 [0,1,-3] k),i (U9 [0,5,5] k)])),(117,i 3),(118,i 1)] (OT z).σ,m:=[(920,.row 20 1 6 (GZ wl0)),(921,.row 20 1 2 (GZ wl1)),(922,.row 20 1 1 (GZ wl2)),(923,.row 20 1 1 (GZ wl3)),(911,.row 5 1 42 (DK rp0)),(14,.cells 104 [.ptr 14 0,.row 911])],nx:=930}
 | 2=>{σ:=H6 [(116,.lst 2 3 (λk=>[i (U9 [0,1,-3] k),i (U9 [0,5,5] k)])),(117,i 3),(118,i 2)] (OT z).σ,m:=[(920,.row 20 1 6 (GZ wl0)),(921,.row 20 1 3 (GZ wl1)),(922,.row 20 1 1 (GZ wl2)),(923,.row 20 1 1 (GZ wl3)),(911,.row 5 1 42 (DK rp0)),(14,.cells 104 [.ptr 14 0,.row 911])],nx:=930}
 |_=>{σ:=H6 [(116,.lst 2 3 (λk=>[i (U9 [0,1,-3] k),i (U9 [0,5,5] k)])),(117,i 3),(118,i 3)] (OT z).σ,m:=WX,nx:=930}
def RF:GB->Option St
 | .exit 2=>some {σ:=H6 [(116,.lst 2 3 (λk=>[i (U9 [0,1,-3] k),i (U9 [0,5,5] k)])),(117,i 3),(118,i 3)] (OT z).σ,m:=WX,nx:=930}
 |_=>none
def l9:CT:= .leaf (.exit 2,(RF z (.exit 2)).getD (OT z))
def Wv8:UL:=GN QE (HM (RS z 0) (l9 z))
abbrev W8:AV:=lst 2 3 λk=>[iI (U9 [(0:Int),1,-3] k),iI (U9 [(0:Int),5,5] k)]
abbrev WU:List Int:=[(0:Int),1,-3]
abbrev Z6:List Int:=[(0:Int),5,5]
theorem Zb3:PH (HX VQ QV Q9 [] QE OV (RS z 0) (RS z 1) (RF z))=(let A:=([AV.x (.iface 9 (.string ({data:=List.toArray (Lib.itoa (U9 WU (0:Int).toNat)) }++{data:=#[46,46] }++{data:=List.toArray (Lib.itoa (U9 Z6 (0:Int).toNat)) })))]);(need [UN 0 3] (need [(0:Int)<=U9 WU (0:Int).toNat/\U9 WU (0:Int).toNat<=1000\/(-1000:Int)<=U9 WU (0:Int).toNat/\U9 WU (0:Int).toNat<=1000,(-1000:Int)<=U9 Z6 (0:Int).toNat/\U9 Z6 (0:Int).toNat<=1000,4<=100] (need [32<=140737488355328,∀(i:Nat),i<1-> ∀(a:AV),a∈U8 1 A i->AV.one a=true] (need [VN ((0:Int)+1)] (need [Q6,WC,QN,XY,XZ,Z0,Z1,W8=W8,XE,(0:Int)+1=1,6=6,GO 6 (GZ wl0),2=2,GV 2 (GJ 1 (GZ wl1) (U8 1 A)) (GZ wl1),1=1,GO 1 (GZ wl2),1=1,GO 1 (GZ wl3),42=42,GO 42 (DK rp0),WC,WZ] (leaf GB.normal))))))):=by
 kernel_rfl
theorem Zb2:PH (HX VQ QV Q9 [] QE OV (RS z 1) (RS z 2) (RF z))=(let A:=([AV.x (.iface 9 (.string ({data:=List.toArray (Lib.itoa (U9 WU (1:Int).toNat)) }++{data:=#[46,46] }++{data:=List.toArray (Lib.itoa (U9 Z6 (1:Int).toNat)) })))]);(need [UN 1 3] (need [(0:Int)<=U9 WU (1:Int).toNat/\U9 WU (1:Int).toNat<=1000\/(-1000:Int)<=U9 WU (1:Int).toNat/\U9 WU (1:Int).toNat<=1000,(-1000:Int)<=U9 Z6 (1:Int).toNat/\U9 Z6 (1:Int).toNat<=1000,4<=100] (need [48<=140737488355328,∀(i:Nat),i<1-> ∀(a:AV),a∈U8 1 A i->AV.one a=true] (need [VN ((1:Int)+1)] (need [Q6,WC,QN,XY,XZ,Z0,Z1,W8=W8,XE,(1:Int)+1=2,6=6,GO 6 (GZ wl0),3=3,GV 3 (GJ 2 (GZ wl1) (U8 1 A)) (GZ wl1),1=1,GO 1 (GZ wl2),1=1,GO 1 (GZ wl3),42=42,GO 42 (DK rp0),WC,WZ] (leaf GB.normal))))))):=by
 kernel_rfl
theorem Zb1:PH (HX VQ QV Q9 [] QE OV (RS z 2) (RS z 3) (RF z))=(let A:=([AV.x (.iface 9 (.string ({data:=List.toArray (Lib.itoa (U9 WU (2:Int).toNat)) }++{data:=#[46,46] }++{data:=List.toArray (Lib.itoa (U9 Z6 (2:Int).toNat)) })))]);(need [UN 2 3] (need [(0:Int)<=U9 WU (2:Int).toNat/\U9 WU (2:Int).toNat<=1000\/(-1000:Int)<=U9 WU (2:Int).toNat/\U9 WU (2:Int).toNat<=1000,(-1000:Int)<=U9 Z6 (2:Int).toNat/\U9 Z6 (2:Int).toNat<=1000,5<=100] (need [64<=140737488355328,∀(i:Nat),i<1-> ∀(a:AV),a∈U8 1 A i->AV.one a=true] (need [VN ((2:Int)+1)] (need [Q6,WC,QN,XY,XZ,Z0,Z1,W8=W8,XE,(2:Int)+1=3,6=6,GO 6 (GZ wl0),4=4,GV 4 (GJ 3 (GZ wl1) (U8 1 A)) (GZ wl1),1=1,GO 1 (GZ wl2),1=1,GO 1 (GZ wl3),42=42,GO 42 (DK rp0),WC,WZ] (leaf GB.normal))))))):=by
 kernel_rfl
theorem Zb0:PH (HX VQ QV Q9 [] QE OV (RS z 3) (RS z 3) (RF z))=(need [Q6,WC,QN,XY,XZ,Z0,Z1,W8=W8,XE,XE,6=6,GO 6 (GZ wl0),4=4,GO 4 (GZ wl1),1=1,GO 1 (GZ wl2),1=1,GO 1 (GZ wl3),42=42,GO 42 (DK rp0),WC,WZ] (leaf (GB.exit 2))):=by
 kernel_rfl
theorem Zb4:GD VQ (.loop OV) (Wv8 z):=by
 refine G6 QE (L:=[]) (Ae kX (Ae kQ (Ae kI (Ae xA Aa)))) (Aj (Af kU (Af F6 (Af RD (Af P0 Ab)))) (Ag xB (Ag kH Ac)) (Ah wY (Ah dD (UB.nil _)))) U0 U7 (X:=Nat) (RS z) (λk=>k<=3) (λk=>4-k) (λ_=>RF z) (x0:=0) (Ao _) ?_ ?_ ?_
 ·intro k
  match k with
  | 0=>
   show Sx.okB (RS z 0)=true;kernel_rfl
  | 1=>
   show Sx.okB (RS z 1)=true;kernel_rfl
  | 2=>
   show Sx.okB (RS z 2)=true;kernel_rfl
  |k+3=>
   show Sx.okB (RS z 3)=true;kernel_rfl
 ·intro k y E h;unfold RF at h;split at h
  ·cases h;kernel_rfl
  ·cases h
 ·intro Q hQ k hx
  match k with
  | 0=>
   refine ⟨1,?_⟩
   with_reducible refine H2 ?_
   rw [Zb3];simp only [l9,RF,VO.sat,GX] at hQ;simp only [VO.sat,UE,UK,VN,RF];exact YX
  | 1=>
   refine ⟨2,?_⟩
   with_reducible refine H2 ?_
   rw [Zb2];simp only [l9,RF,VO.sat,GX] at hQ;simp only [VO.sat,UE,UK,VN,RF];exact YX
  | 2=>
   refine ⟨3,?_⟩
   with_reducible refine H2 ?_
   rw [Zb1];simp only [l9,RF,VO.sat,GX] at hQ;simp only [VO.sat,UE,UK,VN,RF];exact YX
  | 3=>
   refine ⟨3,?_⟩
   with_reducible refine H2 ?_
   rw [Zb0];simp only [l9,RF,VO.sat,GX] at hQ;simp only [VO.sat,UE,UK,VN,RF];exact YX
  |k+4=>omega
end
def Qh0(z:Nat):St:=((some {σ:=mkS 198 [(0,.top),(5,.ro (hsL VR)),(7,.ptr 14 0),(8,.fn (.func 40) [] [.ptr 14 0]),(9,.row 920),(10,.row 921),(11,.row 922),(12,.row 923),(136,hsC VR),(137,i 1),(138,i 0)],m:=WX,nx:=930}:Option St):Option St).getD {σ:=[],m:=[],nx:=0}
noncomputable def Qh6:Code:=UC (VU (UA Tryz.f12) 2)
abbrev WY:H0:=[(920,.row 20 1 6 (GZ wl0)),(921,.row 20 1 4 (GZ wl1)),(922,.row 20 1 2 (GZ wl2)),(923,.row 20 1 1 (GZ wl3)),(911,.row 5 1 42 (DK rp0)),(14,.cells 104 [.ptr 14 0,.row 911])]
section
variable (z:Nat)
def qY:Nat->St
 | 0=>{σ:=H6 [(136,hsC VR),(137,i 1),(138,i 0)] (Qh0 z).σ,m:=WX,nx:=930}
 |_=>{σ:=H6 [(136,hsC VR),(137,i 1),(138,i 1)] (Qh0 z).σ,m:=WY,nx:=930}
def BN:GB->Option St
 | .exit 4=>some {σ:=H6 [(136,hsC VR),(137,i 1),(138,i 1)] (Qh0 z).σ,m:=WY,nx:=930}
 |_=>none
def Ws4:CT:= .leaf (.exit 4,(BN z (.exit 4)).getD (Qh0 z))
def Wv7:UL:=GN QE (HM (qY z 0) (Ws4 z))
abbrev YH:AV:=agg [hR 2 VR,iI VR.pl,iI VR.ph,hY 2 VR,hC 1 VR,hT 2 VR]
theorem Za8:PH (HX VQ QV Q9 [] QE Qh6 (qY z 0) (qY z 1) (BN z))=(need [UN 0 VR.nc] (need [[YH,agg [iI (VR.ca (0:Int).toNat),iI (VR.cb (0:Int).toNat),iI (VR.cc (0:Int).toNat),iI (VR.cd (0:Int).toNat),AV.x (.bool (VR.cv (0:Int).toNat))],iI (VR.cd (0:Int).toNat)]=[YH,agg [iI (VR.ca 0),iI (VR.cb 0),iI (VR.cc 0),iI (VR.cd 0),AV.x (.bool (VR.cv 0))],iI (VR.cd 0)]] (need [32<=140737488355328,L0 1 (U8 1 [AV.x (.iface 3 (X0))])] (need [VN ((0:Int)+1)] (need [Q6,WC,QN,XY,XZ,Z0,Z1,U1 (hC 1 VR),KO,(0:Int)+1=1,6=6,GO 6 (GZ wl0),4=4,GO 4 (GZ wl1),2=2,GV 2 (GJ 1 (GZ wl2) (U8 1 [AV.x (.iface 3 (X0))])) (GZ wl2),1=1,GO 1 (GZ wl3),42=42,GO 42 (DK rp0),WC,WZ] (leaf GB.normal)))))):=by
 kernel_rfl
theorem Za7:PH (HX VQ QV Q9 [] QE Qh6 (qY z 1) (qY z 1) (BN z))=(need [Q6,WC,QN,XY,XZ,Z0,Z1,U1 (hC 1 VR),KO,KO,6=6,GO 6 (GZ wl0),4=4,GO 4 (GZ wl1),2=2,GO 2 (GZ wl2),1=1,GO 1 (GZ wl3),42=42,GO 42 (DK rp0),WC,WZ] (leaf (GB.exit 4))):=by
 kernel_rfl
theorem Za9:GD VQ (.loop Qh6) (Wv7 z):=by
 refine G6 QE (L:=[]) (Ae kX (Ae kQ (Ae kI (Ae xA Aa)))) (Aj (Af kU (Af F6 (Af RD (Af P0 Ab)))) (Ag xB (Ag kH Ac)) (Ah wY (Ah dD (UB.nil _)))) U0 U7 (X:=Nat) (qY z) (λk=>k<=1) (λk=>2-k) (λ_=>BN z) (x0:=0) (Ao _) ?_ ?_ ?_
 ·intro k
  match k with
  | 0=>
   show Sx.okB (qY z 0)=true;kernel_rfl
  |k+1=>
   show Sx.okB (qY z 1)=true;kernel_rfl
 ·intro k y E h;unfold BN at h;split at h
  ·cases h;kernel_rfl
  ·cases h
 ·intro Q hQ k hx
  match k with
  | 0=>
   refine ⟨1,?_⟩
   with_reducible refine H2 ?_
   rw [Za8];simp only [Ws4,BN,VO.sat,GX] at hQ;simp only [VO.sat,UE,UK,VN,BN];exact YX
  | 1=>
   refine ⟨1,?_⟩
   with_reducible refine H2 ?_
   rw [Za7];simp only [Ws4,BN,VO.sat,GX] at hQ;simp only [VO.sat,UE,UK,VN,BN];exact YX
  |k+2=>omega
end
def IV(z:Nat):St:=((some {σ:=mkS 198 [(0,.top),(5,.ro (hsL VR)),(7,.ptr 14 0),(8,.fn (.func 40) [] [.ptr 14 0]),(9,.row 920),(10,.row 921),(11,.row 922),(12,.row 923),(162,i 4),(163,i 0)],m:=WY,nx:=930}:Option St):Option St).getD {σ:=[],m:=[],nx:=0}
noncomputable def IX:Code:=UC (VU (UA Tryz.f12) 3)
abbrev JI:H0:=[(920,.row 20 1 6 (GZ wl0)),(921,.row 20 1 4 (GZ wl1)),(922,.row 20 1 2 (GZ wl2)),(923,.row 20 1 5 (GZ wl3)),(911,.row 5 1 42 (DK rp0)),(14,.cells 104 [.ptr 14 0,.row 911])]
section
variable (z:Nat)
def FK:Nat->St
 | 0=>{σ:=H6 [(162,i 4),(163,i 0)] (IV z).σ,m:=WY,nx:=930}
 | 1=>{σ:=H6 [(162,i 4),(163,i 1)] (IV z).σ,m:=[(920,.row 20 1 6 (GZ wl0)),(921,.row 20 1 4 (GZ wl1)),(922,.row 20 1 2 (GZ wl2)),(923,.row 20 1 2 (GZ wl3)),(911,.row 5 1 42 (DK rp0)),(14,.cells 104 [.ptr 14 0,.row 911])],nx:=930}
 | 2=>{σ:=H6 [(162,i 4),(163,i 2)] (IV z).σ,m:=[(920,.row 20 1 6 (GZ wl0)),(921,.row 20 1 4 (GZ wl1)),(922,.row 20 1 2 (GZ wl2)),(923,.row 20 1 3 (GZ wl3)),(911,.row 5 1 42 (DK rp0)),(14,.cells 104 [.ptr 14 0,.row 911])],nx:=930}
 | 3=>{σ:=H6 [(162,i 4),(163,i 3)] (IV z).σ,m:=[(920,.row 20 1 6 (GZ wl0)),(921,.row 20 1 4 (GZ wl1)),(922,.row 20 1 2 (GZ wl2)),(923,.row 20 1 4 (GZ wl3)),(911,.row 5 1 42 (DK rp0)),(14,.cells 104 [.ptr 14 0,.row 911])],nx:=930}
 |_=>{σ:=H6 [(162,i 4),(163,i 4)] (IV z).σ,m:=JI,nx:=930}
def FA:GB->Option St
 | .exit 6=>some {σ:=H6 [(162,i 4),(163,i 4)] (IV z).σ,m:=JI,nx:=930}
 |_=>none
def OD:CT:= .leaf (.exit 6,(FA z (.exit 6)).getD (IV z))
def Wv6:UL:=GN QE (HM (FK z 0) (OD z))
abbrev ZO:AV:=agg [iI 4,iI 10,hT 2 VR]
abbrev ZP:List Int:=[(4:Int),2,4,0]
abbrev Y8:Prop:=iI 100=iI 100
theorem Za5:PH (HX VQ QV Q9 [] QE IX (FK z 0) (FK z 1) (FA z))=(let A:=([AV.x (.iface 3 (.int .i64 (U9 ZP (0:Int).toNat)))]);(need [ZO=ZO,Y8,(0:Int)<=0/\(0:Int)<=3] (need [32<=140737488355328,∀(i:Nat),i<1-> ∀(a:AV),a∈U8 1 A i->AV.one a=true] (need [VN ((0:Int)+1)] (need [Q6,WC,QN,XY,XZ,Z0,Z1,QZ,(0:Int)+1=1,6=6,GO 6 (GZ wl0),4=4,GO 4 (GZ wl1),2=2,GO 2 (GZ wl2),2=2,GV 2 (GJ 1 (GZ wl3) (U8 1 A)) (GZ wl3),42=42,GO 42 (DK rp0),WC,WZ] (leaf GB.normal)))))):=by
 kernel_rfl
theorem Za4:PH (HX VQ QV Q9 [] QE IX (FK z 1) (FK z 2) (FA z))=(let A:=([AV.x (.iface 3 (.int .i64 (U9 ZP (1:Int).toNat)))]);(need [ZO=ZO,Y8,(0:Int)<=1/\(1:Int)<=3] (need [48<=140737488355328,∀(i:Nat),i<1-> ∀(a:AV),a∈U8 1 A i->AV.one a=true] (need [VN ((1:Int)+1)] (need [Q6,WC,QN,XY,XZ,Z0,Z1,QZ,(1:Int)+1=2,6=6,GO 6 (GZ wl0),4=4,GO 4 (GZ wl1),2=2,GO 2 (GZ wl2),3=3,GV 3 (GJ 2 (GZ wl3) (U8 1 A)) (GZ wl3),42=42,GO 42 (DK rp0),WC,WZ] (leaf GB.normal)))))):=by
 kernel_rfl
theorem Za3:PH (HX VQ QV Q9 [] QE IX (FK z 2) (FK z 3) (FA z))=(let A:=([AV.x (.iface 3 (.int .i64 (U9 ZP (2:Int).toNat)))]);(need [ZO=ZO,Y8,(0:Int)<=2/\(2:Int)<=3] (need [64<=140737488355328,∀(i:Nat),i<1-> ∀(a:AV),a∈U8 1 A i->AV.one a=true] (need [VN ((2:Int)+1)] (need [Q6,WC,QN,XY,XZ,Z0,Z1,QZ,(2:Int)+1=3,6=6,GO 6 (GZ wl0),4=4,GO 4 (GZ wl1),2=2,GO 2 (GZ wl2),4=4,GV 4 (GJ 3 (GZ wl3) (U8 1 A)) (GZ wl3),42=42,GO 42 (DK rp0),WC,WZ] (leaf GB.normal)))))):=by
 kernel_rfl
theorem Za2:PH (HX VQ QV Q9 [] QE IX (FK z 3) (FK z 4) (FA z))=(let A:=([AV.x (.iface 3 (.int .i64 (U9 ZP (3:Int).toNat)))]);(need [ZO=ZO,Y8,(0:Int)<=3/\(3:Int)<=3] (need [80<=140737488355328,∀(i:Nat),i<1-> ∀(a:AV),a∈U8 1 A i->AV.one a=true] (need [VN ((3:Int)+1)] (need [Q6,WC,QN,XY,XZ,Z0,Z1,QZ,(3:Int)+1=4,6=6,GO 6 (GZ wl0),4=4,GO 4 (GZ wl1),2=2,GO 2 (GZ wl2),5=5,GV 5 (GJ 4 (GZ wl3) (U8 1 A)) (GZ wl3),42=42,GO 42 (DK rp0),WC,WZ] (leaf GB.normal)))))):=by
 kernel_rfl
theorem Za1:PH (HX VQ QV Q9 [] QE IX (FK z 4) (FK z 4) (FA z))=(need [Q6,WC,QN,XY,XZ,Z0,Z1,QZ,QZ,6=6,GO 6 (GZ wl0),4=4,GO 4 (GZ wl1),2=2,GO 2 (GZ wl2),5=5,GO 5 (GZ wl3),42=42,GO 42 (DK rp0),WC,WZ] (leaf (GB.exit 6))):=by
 kernel_rfl
theorem Za6:GD VQ (.loop IX) (Wv6 z):=by
 refine G6 QE (L:=[]) (Ae kX (Ae kQ (Ae kI (Ae xA Aa)))) (Aj (Af kU (Af F6 (Af RD (Af P0 Ab)))) (Ag xB (Ag kH Ac)) (Ah wY (Ah dD (UB.nil _)))) U0 U7 (X:=Nat) (FK z) (λk=>k<=4) (λk=>5-k) (λ_=>FA z) (x0:=0) (Ao _) ?_ ?_ ?_
 ·intro k
  match k with
  | 0=>
   show Sx.okB (FK z 0)=true;kernel_rfl
  | 1=>
   show Sx.okB (FK z 1)=true;kernel_rfl
  | 2=>
   show Sx.okB (FK z 2)=true;kernel_rfl
  | 3=>
   show Sx.okB (FK z 3)=true;kernel_rfl
  |k+4=>
   show Sx.okB (FK z 4)=true;kernel_rfl
 ·intro k y E h;unfold FA at h;split at h
  ·cases h;kernel_rfl
  ·cases h
 ·intro Q hQ k hx
  match k with
  | 0=>
   refine ⟨1,?_⟩
   with_reducible refine H2 ?_
   rw [Za5];simp only [OD,FA,VO.sat,GX] at hQ;simp only [VO.sat,UE,UK,VN,FA];exact YX
  | 1=>
   refine ⟨2,?_⟩
   with_reducible refine H2 ?_
   rw [Za4];simp only [OD,FA,VO.sat,GX] at hQ;simp only [VO.sat,UE,UK,VN,FA];exact YX
  | 2=>
   refine ⟨3,?_⟩
   with_reducible refine H2 ?_
   rw [Za3];simp only [OD,FA,VO.sat,GX] at hQ;simp only [VO.sat,UE,UK,VN,FA];exact YX
  | 3=>
   refine ⟨4,?_⟩
   with_reducible refine H2 ?_
   rw [Za2];simp only [OD,FA,VO.sat,GX] at hQ;simp only [VO.sat,UE,UK,VN,FA];exact YX
  | 4=>
   refine ⟨4,?_⟩
   with_reducible refine H2 ?_
   rw [Za1];simp only [OD,FA,VO.sat,GX] at hQ;simp only [VO.sat,UE,UK,VN,FA];exact YX
  |k+5=>omega
end
abbrev JL:H0:=[(925,.row 105 1 4 (U8 1 [.lst 1 6 (GZ wl0),.lst 1 4 (GZ wl1),.lst 1 2 (GZ wl2),.lst 1 5 (GZ wl3)])),(911,.row 5 1 42 (DK rp0)),(14,.cells 104 [.ptr 14 0,.row 911])]
def IU(z:Nat):St:=((some {σ:=mkS 198 [(0,.top),(5,.ro (hsL VR)),(7,.ptr 14 0),(8,.fn (.func 40) [] [.ptr 14 0]),(187,.row 925),(188,i 4),(189,i 0)],m:=JL,nx:=930}:Option St):Option St).getD {σ:=[],m:=[],nx:=0}
noncomputable def IW:Code:=UC (VU (UA Tryz.f12) 4)
abbrev JK:H0:=[(925,.row 105 1 4 (U8 1 [.lst 1 6 (GZ wl0),.lst 1 4 (GZ wl1),.lst 1 2 (GZ wl2),.lst 1 5 (GZ wl3)])),(911,.row 5 1 136 (DK rp4)),(14,.cells 104 [.ptr 14 0,.row 911])]
section
variable (z:Nat)
def FJ:Nat->St
 | 0=>{σ:=H6 [(187,.row 925),(188,i 4),(189,i 0)] (IU z).σ,m:=JL,nx:=930}
 | 1=>{σ:=H6 [(187,.row 925),(188,i 4),(189,i 1)] (IU z).σ,m:=[(925,.row 105 1 4 (U8 1 [.lst 1 6 (GZ wl0),.lst 1 4 (GZ wl1),.lst 1 2 (GZ wl2),.lst 1 5 (GZ wl3)])),(911,.row 5 1 91 (DK rp1)),(14,.cells 104 [.ptr 14 0,.row 911])],nx:=930}
 | 2=>{σ:=H6 [(187,.row 925),(188,i 4),(189,i 2)] (IU z).σ,m:=[(925,.row 105 1 4 (U8 1 [.lst 1 6 (GZ wl0),.lst 1 4 (GZ wl1),.lst 1 2 (GZ wl2),.lst 1 5 (GZ wl3)])),(911,.row 5 1 115 (DK rp2)),(14,.cells 104 [.ptr 14 0,.row 911])],nx:=930}
 | 3=>{σ:=H6 [(187,.row 925),(188,i 4),(189,i 3)] (IU z).σ,m:=[(925,.row 105 1 4 (U8 1 [.lst 1 6 (GZ wl0),.lst 1 4 (GZ wl1),.lst 1 2 (GZ wl2),.lst 1 5 (GZ wl3)])),(911,.row 5 1 123 (DK rp3)),(14,.cells 104 [.ptr 14 0,.row 911])],nx:=930}
 |_=>{σ:=H6 [(187,.row 925),(188,i 4),(189,i 4)] (IU z).σ,m:=JK,nx:=930}
def F9:GB->Option St
 | .exit 8=>some {σ:=H6 [(187,.row 925),(188,i 4),(189,i 4)] (IU z).σ,m:=JK,nx:=930}
 |_=>none
def OC:CT:= .leaf (.exit 8,(F9 z (.exit 8)).getD (IU z))
def Wv5:UL:=GN [(.slot 187,925,105,1),(.cell 14 1,911,5,1)] (HM (FJ z 0) (OC z))
noncomputable abbrev J9:AV:=lst 1 6 λk=>[Option.rec (top) (λval=>(λval=>(λx=>x) val) val) wl0[k]?]
noncomputable abbrev JA:AV:=lst 1 4 λk=>[Option.rec (top) (λval=>(λval=>(λx=>x) val) val) wl1[k]?]
noncomputable abbrev JC:AV:=lst 1 2 λk=>[Option.rec (top) (λval=>(λval=>(λx=>x) val) val) wl2[k]?]
noncomputable abbrev JD:AV:=lst 1 5 λk=>[Option.rec (top) (λval=>(λval=>(λx=>x) val) val) wl3[k]?]
noncomputable abbrev Q7:List AV:=[J9,JA,JC,JD]
abbrev WP:List AV:=[AV.x (.string {data:=#[(48:UInt8),(46:UInt8),(46:UInt8),(48:UInt8)] })]
abbrev XC:List AV:=[AV.x (.string {data:=#[(49:UInt8),(48:UInt8),(48:UInt8),(48:UInt8),(46:UInt8),(46:UInt8),(49:UInt8),(48:UInt8),(48:UInt8),(48:UInt8)] })]
abbrev XQ:List AV:=[AV.x (.string {data:=#[(50:UInt8),(48:UInt8),(48:UInt8),(46:UInt8),(46:UInt8),(51:UInt8),(48:UInt8),(48:UInt8)] })]
abbrev XR:List AV:=[AV.x (.string {data:=#[(52:UInt8),(49:UInt8),(48:UInt8),(46:UInt8),(46:UInt8),(53:UInt8),(49:UInt8),(48:UInt8)] })]
abbrev XS:List AV:=[AV.x (.string {data:=#[(55:UInt8),(48:UInt8),(48:UInt8),(46:UInt8),(46:UInt8),(56:UInt8),(48:UInt8),(48:UInt8)] })]
abbrev Z4:Value:=Value.string {data:=#[(109:UInt8),(97:UInt8),(114:UInt8),(107:UInt8),(115:UInt8)] }
abbrev J6:List (Pl×Nat×TypeId×Nat):=[(.slot 187,925,105,1),(.cell 14 1,911,5,1)]
abbrev KZ:Prop:=AV.row 925=AV.row 925
theorem Xz9:PH (HX VQ QV Q9 [] J6 IW (FJ z 0) (FJ z 1) (F9 z))=(let A:=(GJ 5 (GJ 4 (GJ 3 (GJ 2 (GJ 1 (GJ 0 (λx=>[]) (U8 1 [AV.x (Z4)])) (U8 1 WP)) (U8 1 XQ)) (U8 1 XR)) (U8 1 XS)) (U8 1 XC));(need [UN 0 4] (need [(0:Int).toNat<4] (need [UN 0 6] (need [16<=140737488355328,L0 1 (U8 1 [AV.x (Z4)])] (need [VN ((0:Int)+1)] (need [(0:Int)<=0+1/\(0:Int)+1<(↑(6:Nat):Int)] (need [32<=140737488355328,∀(i:Nat),i<1-> ∀(a:AV),a∈U8 1 WP i->AV.one a=true] (need [VN ((0:Int)+1+1)] (need [(0:Int)<=0+1+1/\(0:Int)+1+1<(↑(6:Nat):Int)] (need [48<=140737488355328,∀(i:Nat),i<1-> ∀(a:AV),a∈U8 1 XQ i->AV.one a=true] (need [VN ((0:Int)+1+1+1)] (need [(0:Int)<=0+1+1+1/\(0:Int)+1+1+1<(↑(6:Nat):Int)] (need [64<=140737488355328,∀(i:Nat),i<1-> ∀(a:AV),a∈U8 1 XR i->AV.one a=true] (need [VN ((0:Int)+1+1+1+1)] (need [(0:Int)<=0+1+1+1+1/\(0:Int)+1+1+1+1<(↑(6:Nat):Int)] (need [80<=140737488355328,∀(i:Nat),i<1-> ∀(a:AV),a∈U8 1 XS i->AV.one a=true] (need [VN ((0:Int)+1+1+1+1+1)] (need [(0:Int)<=0+1+1+1+1+1/\(0:Int)+1+1+1+1+1<(↑(6:Nat):Int)] (need [96<=140737488355328,∀(i:Nat),i<1-> ∀(a:AV),a∈U8 1 XC i->AV.one a=true] (need [VN ((0:Int)+1+1+1+1+1+1)] (need [6<=100000,jR 6 A,ByteArray.size (jnB 6 A {data:=#[32] })<=140737488355328] (need [(↑(49:Nat):Int)<=9223372036854775807] (need [91<=140737488355328] (need [VN ((0:Int)+1)] (need [Q6,WC,QN,KZ,QZ,(0:Int)+1=1,4=4,GO 4 (U8 1 Q7),91=91,GV 91 (GJ 42 (DK rp0) (DK (jnB 6 A {data:=#[32] }++{data:=#[10] }))) (DK rp1),WC,WZ] (leaf GB.normal))))))))))))))))))))))))))):=by
 kernel_rfl
abbrev XD:Value:=Value.string {data:=#[(111:UInt8),(102:UInt8),(102:UInt8),(115:UInt8),(101:UInt8),(116:UInt8),(115:UInt8)] }
abbrev ZK:List AV:=[AV.x (.string {data:=#[(45:UInt8),(51:UInt8),(46:UInt8),(46:UInt8),(53:UInt8)] })]
abbrev ZU:List AV:=[AV.x (.string {data:=#[(49:UInt8),(46:UInt8),(46:UInt8),(53:UInt8)] })]
theorem Xz8:PH (HX VQ QV Q9 [] J6 IW (FJ z 1) (FJ z 2) (F9 z))=(let A:=(GJ 3 (GJ 2 (GJ 1 (GJ 0 (λx=>[]) (U8 1 [AV.x (XD)])) (U8 1 WP)) (U8 1 ZU)) (U8 1 ZK));(need [UN 1 4] (need [(1:Int).toNat<4] (need [UN 0 4] (need [16<=140737488355328,L0 1 (U8 1 [AV.x (XD)])] (need [VN ((0:Int)+1)] (need [(0:Int)<=0+1/\(0:Int)+1<(↑(4:Nat):Int)] (need [32<=140737488355328,∀(i:Nat),i<1-> ∀(a:AV),a∈U8 1 WP i->AV.one a=true] (need [VN ((0:Int)+1+1)] (need [(0:Int)<=0+1+1/\(0:Int)+1+1<(↑(4:Nat):Int)] (need [48<=140737488355328,∀(i:Nat),i<1-> ∀(a:AV),a∈U8 1 ZU i->AV.one a=true] (need [VN ((0:Int)+1+1+1)] (need [(0:Int)<=0+1+1+1/\(0:Int)+1+1+1<(↑(4:Nat):Int)] (need [64<=140737488355328,∀(i:Nat),i<1-> ∀(a:AV),a∈U8 1 ZK i->AV.one a=true] (need [VN ((0:Int)+1+1+1+1)] (need [4<=100000,jR 4 A,ByteArray.size (jnB 4 A {data:=#[32] })<=140737488355328] (need [(↑(24:Nat):Int)<=9223372036854775807] (need [115<=140737488355328] (need [VN ((1:Int)+1)] (need [Q6,WC,QN,KZ,QZ,(1:Int)+1=2,4=4,GO 4 (U8 1 Q7),115=115,GV 115 (GJ 91 (DK rp1) (DK (jnB 4 A {data:=#[32] }++{data:=#[10] }))) (DK rp2),WC,WZ] (leaf GB.normal))))))))))))))))))))):=by
 kernel_rfl
abbrev XM:List AV:=[AV.x (.string {data:=List.toArray (Lib.itoa (0:Int)) })]
abbrev Z5:Value:=Value.string {data:=#[(115:UInt8),(116:UInt8),(97:UInt8),(110:UInt8),(100:UInt8)] }
theorem Xz7:PH (HX VQ QV Q9 [] J6 IW (FJ z 2) (FJ z 3) (F9 z))=(let A:=(GJ 1 (GJ 0 (λx=>[]) (U8 1 [AV.x (Z5)])) (U8 1 XM));(need [UN 2 4] (need [(2:Int).toNat<4] (need [UN 0 2] (need [16<=140737488355328,L0 1 (U8 1 [AV.x (Z5)])] (need [VN ((0:Int)+1)] (need [(0:Int)<=0+1/\(0:Int)+1<(↑(2:Nat):Int)] (need [VN (0:Int)] (need [32<=140737488355328,∀(i:Nat),i<1-> ∀(a:AV),a∈U8 1 XM i->AV.one a=true] (need [VN ((0:Int)+1+1)] (need [2<=100000,jR 2 A,ByteArray.size (jnB 2 A {data:=#[32] })<=140737488355328] (need [(↑(8:Nat):Int)<=9223372036854775807] (need [123<=140737488355328] (need [VN ((2:Int)+1)] (need [Q6,WC,QN,KZ,QZ,(2:Int)+1=3,4=4,GO 4 (U8 1 Q7),123=123,GV 123 (GJ 115 (DK rp2) (DK (jnB 2 A {data:=#[32] }++{data:=#[10] }))) (DK rp3),WC,WZ] (leaf GB.normal)))))))))))))))):=by
 kernel_rfl
abbrev XN:List AV:=[AV.x (.string {data:=List.toArray (Lib.itoa (4:Int)) })]
abbrev ZE:Value:=Value.string {data:=#[(104:UInt8),(111:UInt8),(108:UInt8),(100:UInt8)] }
abbrev JF:List AV:=[AV.x (.string {data:=List.toArray (Lib.itoa (2:Int)) })]
theorem Xz6:PH (HX VQ QV Q9 [] J6 IW (FJ z 3) (FJ z 4) (F9 z))=(let A:=(GJ 4 (GJ 3 (GJ 2 (GJ 1 (GJ 0 (λx=>[]) (U8 1 [AV.x (ZE)])) (U8 1 XN)) (U8 1 JF)) (U8 1 XN)) (U8 1 XM));(need [UN 3 4] (need [(3:Int).toNat<4] (need [UN 0 5] (need [16<=140737488355328,L0 1 (U8 1 [AV.x (ZE)])] (need [VN ((0:Int)+1)] (need [(0:Int)<=0+1/\(0:Int)+1<(↑(5:Nat):Int)] (need [VN (4:Int)] (need [32<=140737488355328,∀(i:Nat),i<1-> ∀(a:AV),a∈U8 1 XN i->AV.one a=true] (need [VN ((0:Int)+1+1)] (need [(0:Int)<=0+1+1/\(0:Int)+1+1<(↑(5:Nat):Int)] (need [VN (2:Int)] (need [48<=140737488355328,∀(i:Nat),i<1-> ∀(a:AV),a∈U8 1 JF i->AV.one a=true] (need [VN ((0:Int)+1+1+1)] (need [(0:Int)<=0+1+1+1/\(0:Int)+1+1+1<(↑(5:Nat):Int)] (need [VN (4:Int)] (need [64<=140737488355328,∀(i:Nat),i<1-> ∀(a:AV),a∈U8 1 XN i->AV.one a=true] (need [VN ((0:Int)+1+1+1+1)] (need [(0:Int)<=0+1+1+1+1/\(0:Int)+1+1+1+1<(↑(5:Nat):Int)] (need [VN (0:Int)] (need [80<=140737488355328,∀(i:Nat),i<1-> ∀(a:AV),a∈U8 1 XM i->AV.one a=true] (need [VN ((0:Int)+1+1+1+1+1)] (need [5<=100000,jR 5 A,ByteArray.size (jnB 5 A {data:=#[32] })<=140737488355328] (need [(↑(13:Nat):Int)<=9223372036854775807] (need [136<=140737488355328] (need [VN ((3:Int)+1)] (need [Q6,WC,QN,KZ,QZ,(3:Int)+1=4,4=4,GO 4 (U8 1 Q7),136=136,GV 136 (GJ 123 (DK rp3) (DK (jnB 5 A {data:=#[32] }++{data:=#[10] }))) (DK rp4),WC,WZ] (leaf GB.normal)))))))))))))))))))))))))))):=by
 kernel_rfl
theorem Xz5:PH (HX VQ QV Q9 [] J6 IW (FJ z 4) (FJ z 4) (F9 z))=(need [Q6,WC,QN,KZ,QZ,QZ,4=4,GO 4 (U8 1 Q7),136=136,GO 136 (DK rp4),WC,WZ] (leaf (GB.exit 8))):=by
 kernel_rfl
theorem Za0:GD VQ (.loop IW) (Wv5 z):=by
 refine G6 J6 (L:=[]) (Ae kX (Ae kQ (Ae kI (Ae xA Aa)))) (Aj (Af kU (Af F6 (Af RD (Af P0 Ab)))) (Ag xB (Ag kH Ac)) (Ah wY (Ah dD (UB.nil _)))) U0 U7 (X:=Nat) (FJ z) (λk=>k<=4) (λk=>5-k) (λ_=>F9 z) (x0:=0) (Ao _) ?_ ?_ ?_
 ·intro k
  match k with
  | 0=>
   show Sx.okB (FJ z 0)=true;kernel_rfl
  | 1=>
   show Sx.okB (FJ z 1)=true;kernel_rfl
  | 2=>
   show Sx.okB (FJ z 2)=true;kernel_rfl
  | 3=>
   show Sx.okB (FJ z 3)=true;kernel_rfl
  |k+4=>
   show Sx.okB (FJ z 4)=true;kernel_rfl
 ·intro k y E h;unfold F9 at h;split at h
  ·cases h;kernel_rfl
  ·cases h
 ·intro Q hQ k hx
  match k with
  | 0=>
   refine ⟨1,?_⟩
   with_reducible refine H2 ?_
   rw [Xz9];simp only [OC,F9,VO.sat,GX] at hQ;simp only [VO.sat,UE,UK,VN,F9];exact YX
  | 1=>
   refine ⟨2,?_⟩
   with_reducible refine H2 ?_
   rw [Xz8];simp only [OC,F9,VO.sat,GX] at hQ;simp only [VO.sat,UE,UK,VN,F9];exact YX
  | 2=>
   refine ⟨3,?_⟩
   with_reducible refine H2 ?_
   rw [Xz7];simp only [OC,F9,VO.sat,GX] at hQ;simp only [VO.sat,UE,UK,VN,F9];exact YX
  | 3=>
   refine ⟨4,?_⟩
   with_reducible refine H2 ?_
   rw [Xz6];simp only [OC,F9,VO.sat,GX] at hQ;simp only [VO.sat,UE,UK,VN,F9];exact YX
  | 4=>
   refine ⟨4,?_⟩
   with_reducible refine H2 ?_
   rw [Xz5];simp only [OC,F9,VO.sat,GX] at hQ;simp only [VO.sat,UE,UK,VN,F9];exact YX
  |k+5=>omega
end
theorem vK{S:Code->UL->Prop}{c:Code}{s0 s1 s2 s3 s4:UL}(h0: ∀cj,VU c 0=some cj->S cj s0)(h1: ∀cj,VU c 1=some cj->S cj s1)(h2: ∀cj,VU c 2=some cj->S cj s2)(h3: ∀cj,VU c 3=some cj->S cj s3)(h4: ∀cj,VU c 4=some cj->S cj s4):
  ∀j cj,VU c j=some cj-> ∀sp,[s0,s1,s2,s3,s4][j]? =some sp->S cj sp:=by
 intro j cj hj sp W
 match j with
 | 0=>simp at W;subst W;exact h0 cj hj
 | 1=>simp at W;subst W;exact h1 cj hj
 | 2=>simp at W;subst W;exact h2 cj hj
 | 3=>simp at W;subst W;exact h3 cj hj
 | 4=>simp at W;subst W;exact h4 cj hj
 |j+5=>simp at W
theorem Zj7(B:ByteArray):bsO B.size (DK B)=B:=by
 unfold bsO;apply ByteArray.ext;apply Array.ext
 ·show ((List.range B.size).map _).toArray.size=B.data.size;rw [List.size_toArray,Bm,List.length_range];rfl
 ·intro j h1 h2;have h3:j<B.data.size:=h2;simp [DK,byO,byN,P1,Array.getElem?_eq_getElem h3]
abbrev YO:H0:=[(911,.row 5 1 42 (DK rp0)),(14,.cells 104 [.ptr 14 0,.row 911])]
def lW:St:={σ:=mkS 198 [(5,.ro (hsL VR)),(7,.ptr 14 0),(8,.fn (.func 40) [] [.ptr 14 0]),(9,.lst 1 6 (GZ wl0)),(10,.lst 1 4 (GZ wl1)),(11,.lst 1 2 (GZ wl2)),(12,.lst 1 5 (GZ wl3))],m:=YO,nx:=930}
def lX:St:={σ:=mkS 198 [(0,.top),(5,.ro (hsL VR)),(7,.ptr 14 0),(8,.fn (.func 40) [] [.ptr 14 0])],m:=YO,nx:=930}
abbrev WL:List AV:=[lst 1 11 λk=>[FR (UF U5 k)]]
abbrev WO:List AV:=[AV.x (.string {data:=#[(99:UInt8),(101:UInt8),(114:UInt8),(116:UInt8),(105:UInt8),(102:UInt8),(105:UInt8),(99:UInt8),(97:UInt8),(116:UInt8),(101:UInt8),(115:UInt8)] })]
abbrev WV:List AV:=[agg [iI 4,iI 100,iI 20,iI 30,hR 2 VR,lst 2 3 λk=>[iI (tbP k),iI (tbQ k)],iI VR.pl,iI VR.ph,iI 1,iI 3],iI 0]
abbrev XJ:List AV:=[AV.x (.string {data:=#[(114:UInt8),(101:UInt8),(97:UInt8),(100:UInt8),(105:UInt8),(110:UInt8),(103:UInt8),(115:UInt8)] })]
abbrev ZI:List AV:=[AV.x (.string {data:=#[(115:UInt8),(97:UInt8),(108:UInt8),(101:UInt8),(115:UInt8)] })]
abbrev ZJ:List AV:=[AV.x (.string {data:=#[(98:UInt8),(97:UInt8),(116:UInt8),(104:UInt8),(115:UInt8)] })]
theorem eW:VZ VQ 12 [lns 11 (UF U5)] (.tup [.x (.string Zc2),i 0]):=by
 have hG:VM VQ [(35,pV),(19,pT),(38,pS),(45,A0)]:=(Ae kX (Ae kQ (Ae kI (Ae xA Aa))));have hX: ∀cx,VY VQ Q9 cx:=(Aj (Af kU (Af F6 (Af RD (Af P0 Ab)))) (Ag xB (Ag kH Ac)) (Ah wY (Ah dD (UB.nil _))));have GR:Tryz.prog.follows .mixedOrders=true:=U0
 refine S3 (L:=[Wv9 0,Wv8 0,Wv7 0,Wv6 0,Wv5 0]) Tryz.func12 (UV Tryz.f12) (λcx=>(gH (N:=[(.cell 14 1,911,5,1)]) (s2:=lX) hG (hX cx) GR (gH (N:=[(.slot 9,0,0,0),(.slot 10,0,0,0),(.slot 11,0,0,0),(.slot 12,0,0,0)]) (s2:=lW) hG (hX cx) GR (iN hG (hX cx) GR) VX 7) VX 6)) (vK (lpE (b:= .loop r8) VX<|(Zc1 0).N) (lpE (b:= .loop OV) VX<|(Zb4 0).N) (lpE (b:= .loop Qh6) VX<|(Za9 0).N) (lpE (b:= .loop IX) VX<|(Za6 0).N) (lpE (b:= .loop IW) VX<|(Za0 0).N)) (t:=let z1:=([AV.x (.string {data:=List.toArray (Lib.itoa (↑VR.nr:Int)) })]);let z2:=([AV.x (.string {data:=List.toArray (Lib.itoa (↑VR.nb:Int)) })]);let z3:=([AV.x (.string {data:=List.toArray (Lib.itoa (↑VR.nc:Int)) })]);let z4:=([AV.x (.string {data:=List.toArray (Lib.itoa (↑VR.ns:Int)) })]);let A:=(GJ 7 (GJ 6 (GJ 5 (GJ 4 (GJ 3 (GJ 2 (GJ 1 (GJ 0 (λx=>[]) (U8 1 XJ)) (U8 1 z1)) (U8 1 ZJ)) (U8 1 z2)) (U8 1 WO)) (U8 1 z3)) (U8 1 ZI)) (U8 1 z4));(need [WL=WL] (branch ((0:Int) != 0) (leaf (RV.tup [RV.x (.string {data:=#[] }),RV.x (X0)])) (need [WL=WL] (need [UN 0 8] (need [(0:Int).toNat<8] (need [16<=140737488355328,∀(i:Nat),i<1-> ∀(a:AV),a∈U8 1 XJ i->AV.one a=true] (need [VN ((0:Int)+1)] (need [(0:Int)<=0+1/\(0:Int)+1<(↑(8:Nat):Int)] (need [((0:Int)+1).toNat<8] (need [VN (↑VR.nr:Int)] (need [32<=140737488355328,∀(i:Nat),i<1-> ∀(a:AV),a∈U8 1 z1 i->AV.one a=true] (need [VN ((0:Int)+1+1)] (need [(0:Int)<=0+1+1/\(0:Int)+1+1<(↑(8:Nat):Int)] (need [((0:Int)+1+1).toNat<8] (need [48<=140737488355328,∀(i:Nat),i<1-> ∀(a:AV),a∈U8 1 ZJ i->AV.one a=true] (need [VN ((0:Int)+1+1+1)] (need [(0:Int)<=0+1+1+1/\(0:Int)+1+1+1<(↑(8:Nat):Int)] (need [((0:Int)+1+1+1).toNat<8] (need [VN (↑VR.nb:Int)] (need [64<=140737488355328,∀(i:Nat),i<1-> ∀(a:AV),a∈U8 1 z2 i->AV.one a=true] (need [VN ((0:Int)+1+1+1+1)] (need [(0:Int)<=0+1+1+1+1/\(0:Int)+1+1+1+1<(↑(8:Nat):Int)] (need [((0:Int)+1+1+1+1).toNat<8] (need [80<=140737488355328,∀(i:Nat),i<1-> ∀(a:AV),a∈U8 1 WO i->AV.one a=true] (need [VN ((0:Int)+1+1+1+1+1)] (need [(0:Int)<=0+1+1+1+1+1/\(0:Int)+1+1+1+1+1<(↑(8:Nat):Int)] (need [((0:Int)+1+1+1+1+1).toNat<8] (need [VN (↑VR.nc:Int)] (need [96<=140737488355328,∀(i:Nat),i<1-> ∀(a:AV),a∈U8 1 z3 i->AV.one a=true] (need [VN ((0:Int)+1+1+1+1+1+1)] (need [(0:Int)<=0+1+1+1+1+1+1/\(0:Int)+1+1+1+1+1+1<(↑(8:Nat):Int)] (need [((0:Int)+1+1+1+1+1+1).toNat<8] (need [112<=140737488355328,∀(i:Nat),i<1-> ∀(a:AV),a∈U8 1 ZI i->AV.one a=true] (need [VN ((0:Int)+1+1+1+1+1+1+1)] (need [(0:Int)<=0+1+1+1+1+1+1+1/\(0:Int)+1+1+1+1+1+1+1<(↑(8:Nat):Int)] (need [((0:Int)+1+1+1+1+1+1+1).toNat<8] (need [VN (↑VR.ns:Int)] (need [128<=140737488355328,∀(i:Nat),i<1-> ∀(a:AV),a∈U8 1 z4 i->AV.one a=true] (need [VN ((0:Int)+1+1+1+1+1+1+1+1)] (need [8<=100000,jR 8 A,ByteArray.size (jnB 8 A {data:=#[32] })<=140737488355328] (need [(↑(42:Nat):Int)<=9223372036854775807] (need [42<=140737488355328] (need [Q6,WC,QN,42=42,GV 42 (GJ 0 (λx=>[]) (DK (jnB 8 A {data:=#[32] }++{data:=#[10] }))) (DK rp0),WC,WZ] (need [WV=WV] (need [Q6,WC,QN,XY,XZ,Z0,Z1,WR=WR,(↑(5:Nat):Int)=5,QX,1=1,GV 1 (U8 1 [AV.x (.iface 9 (Z4))]) (GZ wl0),1=1,GV 1 (U8 1 [AV.x (.iface 9 (XD))]) (GZ wl1),1=1,GV 1 (U8 1 [AV.x (.iface 9 (Z5))]) (GZ wl2),1=1,GV 1 (U8 1 [AV.x (.iface 9 (ZE))]) (GZ wl3),42=42,GO 42 (DK rp0),WC,WZ] (need [U1 ([agg [lst 2 3 λk=>[iI (oL k),iI (oH k)],iI 1,hY 2 VR]])] (need [Q6,WC,QN,XY,XZ,Z0,Z1,W8=W8,(↑(3:Nat):Int)=3,QX,6=6,GO 6 (GZ wl0),1=1,GO 1 (GZ wl1),1=1,GO 1 (GZ wl2),1=1,GO 1 (GZ wl3),42=42,GO 42 (DK rp0),WC,WZ] (need [Q6,WC,QN,XY,XZ,Z0,Z1,U1 (hC 1 VR),(↑VR.nc:Int)=1,QX,6=6,GO 6 (GZ wl0),4=4,GO 4 (GZ wl1),1=1,GO 1 (GZ wl2),1=1,GO 1 (GZ wl3),42=42,GO 42 (DK rp0),WC,WZ] (need [Q6,WC,QN,XY,XZ,Z0,Z1,QZ,QX,6=6,GO 6 (GZ wl0),4=4,GO 4 (GZ wl1),2=2,GO 2 (GZ wl2),1=1,GO 1 (GZ wl3),42=42,GO 42 (DK rp0),WC,WZ] (need [Q6,WC,QN,J9=J9,JA=JA,JC=JC,JD=JD,42=42,GO 42 (DK rp0),WC,WZ] (need [Q6,WC,QN,KZ,(↑(4:Nat):Int)=4,QX,4=4,GO 4 (U8 1 Q7),42=42,GO 42 (DK rp0),WC,WZ] (need [uR 136 (DK rp4),0<136] (leaf (RV.tup [RV.x (.string (bsO 136 (DK rp4))),RV.x (X0)]))))))))))))))))))))))))))))))))))))))))))))))))))))))) VX ?_
 simp only [VO.sat,UE,G5,GL,UH,UK,VN,FF]
 (with_reducible repeat' first|apply Al|intro _)
 all_goals first|exact Ak|contradiction|omega|exact FD (by assumption) (by simp [AV.one,Value.oneCell'])|(rename_i i O;exact Qa6 (by decide+kernel) i O)|(rename_i i O;exact ltM VX i O)|exact bA (by decide+kernel)|exact pA (by decide+kernel)|decide+kernel|with_reducible rfl|rfl|trace_state
def OZ:HS:=stS VR 1
theorem Xn0:lnE (UF G7 0) VR=9:=by decide+kernel
theorem Xm9:lnE (UF G7 1) VR=10:=by decide+kernel
theorem Xm8:lnE (UF G7 2) VR=9:=by decide+kernel
theorem Qt4:lnE (UF G7 3) VR=0:=by decide+kernel
theorem Zq8:lnE (UF G7 4) OZ=0:=by decide+kernel
theorem Xl5:F2 (lnW (UF G7 3)) VR=OZ:=VX
abbrev KA(n:Nat)(a:Nat->Int):AV:=lst 1 n λk=>[iI (a k)]
abbrev KB(m:Nat)(b:Nat->Int):AV:=lst 1 m λk=>[iI (b k)]
section
variable (n m:Nat)(a b:Nat->Int)
def Wx7:St:={σ:=[KA n a,KB m b]++HK 24 [],m:=[],nx:=7}
noncomputable def Jm5:Code:=UC (VU (UA Tryz.f25) 0)
def Wf4(k:Nat):St:=(upM [(5,i k)] (Wx7 n m a b))
def v7(k:Nat):GB->Option St
 | .exit 0=>some (upM [] (Wx7 n m a b))
 | .ret=>some (upM [(4,.lit false)] (Wx7 n m a b))
 |_=>none
def Ji2:CT:= .branch (FN ((λk=>a k==b k)) n) (.leaf (.exit 0,(v7 n m a b 0 (.exit 0)).getD (Wx7 n m a b))) (.leaf (.ret,(v7 n m a b 0 .ret).getD (Wx7 n m a b)))
def Xs5:UL:=(HM (Wf4 n m a b (0)) (Ji2 n m a b))
theorem Zx2(VV:n<=100000)(UI:n=m):GD VQ (.loop Jm5) (Xs5 n m a b):=by
 refine HT (L:=[]) Aa U0 U7 (X:=Nat) (Wf4 n m a b) (λk=>k<=n/\ ∀j,j<k->((λk=>a k==b k)) j=true) (λk=>n-k) (v7 n m a b) (x0:=0) ⟨VL,λj hj=>VL⟩ ?_ ?_ ?_
 ·rintro k;kernel_rfl
 ·rintro k y E h;unfold v7 at h;split at h
  ·cases h;kernel_rfl
  ·cases h;kernel_rfl
  ·cases h
 ·rintro Q hQ k hx;refine ⟨(k+1),?_⟩;(with_reducible refine DU (t:=branch (decide ((k:Int)<(n:Int))) (need [UN k n] (need [UN k m] (branch (a k != b k) (need [U1 (KA n a),U1 (KB m b),X6] (leaf GB.ret)) (need [VN ((k:Int)+1)] (need [U1 (KA n a),U1 (KB m b),(k:Int)+1=(↑(k+1):Int)] (leaf GB.normal)))))) (need [U1 (KA n a),U1 (KB m b)] (leaf (GB.exit 0)))) VX ?_);simp only [Ji2,v7,VO.sat,GX] at hQ;have Zh9:k<n->((λk=>a k==b k)) k=false->FN ((λk=>a k==b k)) n=false:=by
   intro h1 h2;rw [←Bool.not_eq_true];intro h3;have:=H3.1 h3 k h1;exact Bool.noConfusion (h2.symm.trans this)
  have eO:((λk=>a k==b k)) k=true-> ∀j,j<k+1->((λk=>a k==b k)) j=true:=by
   intro h1 j hj;rcases (show j<k\/j=k by omega) with h|rfl
   ·exact hx.2 j h
   ·exact h1
  have PS: ¬k<n->FN ((λk=>a k==b k)) n=true:=λh=>H3.2 (λj hj=>hx.2 j VL)
  have hQ1: ∀E,v7 n m a b k .ret=some E->FN ((λk=>a k==b k)) n=false->Q (.ret,E):=by
   intro E hE hf;cases hE;exact hQ.2 hf
  have hQ2: ∀E,v7 n m a b k (.exit 0)=some E->FN ((λk=>a k==b k)) n=true->Q (.exit 0,E):=by
   intro E hE hf;cases hE;exact hQ.1 hf
  simp only [VO.sat,UE,UK,HG,VN,FF]
  with_reducible repeat' first|apply Al|intro _
  all_goals first|exact Ak|omega|exact hQ1 _ (by assumption) (Zh9 VL (by simp_all))|exact hQ2 _ (by assumption) (PS VL)|exact eO (by simp_all) _ (by assumption)
theorem Wd0(VV:n<=100000):VZ VQ 25 [.lst 1 n (λk=>[i (a k)]),.lst 1 m (λk=>[i (b k)])] (bl (decide (n=m)&&FN (λk=>a k==b k) n)):=by
 refine U4 (L:=[RO [n<=100000,n=m] (Xs5 n m a b)]) Aa U0 Tryz.func25 (UV Tryz.f25) (GA (lpE (b:= .loop Jm5) VX<|FH (λh=>Zx2 n m a b h.1 h.2))) (t:=branch ((n:Int) != (m:Int)) (leaf (RV.x (W6))) (need [n<=100000,n=m] (need [U1 (KA n a),U1 (KB m b),(0:Int)=(↑(0:Nat):Int)] (branch (FN (λk=>a k==b k) n) (leaf (RV.x (.bool true))) (leaf (RV.x (W6))))))) VX ?_
 simp only [VO.sat,UE,G5,GL,UH,VN,UK,HG,RX,bne_iff_ne,ne_eq];refine ⟨λh=>?_,λh=>?_⟩
 ·have:n≠m:=by intro h';subst h';simp at h
  simp [this]
 ·have e:n=m:=by
   rw [bne_eq_false_iff_eq] at h;omega
  subst e;refine ⟨⟨VL,rfl⟩,λh2=>?_,λh2=>?_⟩
  ·simp [h2]
  ·simp [h2]
end
def Qd6:G0
 |[.lst 1 n f,.lst 1 m g]=>some ([UG 1 n f,UG 1 m g,n<=100000],bl (decide (n=m)&&FN (λk=>col 0 f k==col 0 g k) n))
 |_=>none
theorem Wc9:VS VQ 25 Qd6:=by
 refine ⟨(UJ Tryz.func25),?_⟩;intro avs ns Z h hn;unfold Qd6 at h;split at h
 ·rename_i n f m g;cases h;have hr0:UG 1 n f:=hn _ VW;have hr1:UG 1 m g:=hn _ VW;exact (Wd0 n m (col 0 f) (col 0 g) (hn _ VW)).same (.cons (.lst 1 n _ _ hr0) (.cons (.lst 1 m _ _ hr1) .nil))
 ·cases h
def Ws7:G0
 |[.x (.slice none 0 0)]=>some ([],lns 11 (UF U5))
 |[.lst 1 n f]=>some ([n=5,∀k,k<n->f k=[.x (.string (UF G7 k))]],lns 16 (UF (U5++G7)))
 |_=>none
theorem Zz2{P:Nat->Prop}(h0:P 0)(h1:P 1)(h2:P 2)(h3:P 3)(h4:P 4)(h5:P 5)(h6:P 6)(h7:P 7)(h8:P 8)(h9:P 9)(h10:P 10): ∀i,i<11->P i:=by
 intro i O
 match i,O with
 | 0,_=>exact h0
 | 1,_=>exact h1
 | 2,_=>exact h2
 | 3,_=>exact h3
 | 4,_=>exact h4
 | 5,_=>exact h5
 | 6,_=>exact h6
 | 7,_=>exact h7
 | 8,_=>exact h8
 | 9,_=>exact h9
 | 10,_=>exact h10
 |i+11,h=>exact absurd h VL
theorem Xo5{P:Nat->Prop}(h0:P 0)(h1:P 1)(h2:P 2)(h3:P 3)(h4:P 4)(h5:P 5)(h6:P 6)(h7:P 7)(h8:P 8)(h9:P 9)(h10:P 10)(h11:P 11)(h12:P 12)(h13:P 13)(h14:P 14)(h15:P 15): ∀i,i<16->P i:=by
 intro i O
 match i,O with
 | 0,_=>exact h0
 | 1,_=>exact h1
 | 2,_=>exact h2
 | 3,_=>exact h3
 | 4,_=>exact h4
 | 5,_=>exact h5
 | 6,_=>exact h6
 | 7,_=>exact h7
 | 8,_=>exact h8
 | 9,_=>exact h9
 | 10,_=>exact h10
 | 11,_=>exact h11
 | 12,_=>exact h12
 | 13,_=>exact h13
 | 14,_=>exact h14
 | 15,_=>exact h15
 |i+16,h=>exact absurd h VL
abbrev JE:AV:=AV.x (.string {data:=#[(98:UInt8),(97:UInt8),(116:UInt8),(104:UInt8),(32:UInt8),(49:UInt8),(48:UInt8),(48:UInt8),(32:UInt8),(51:UInt8),(48:UInt8),(48:UInt8)] })
abbrev Q8:List AV:=[AV.x (.string {data:=#[(116:UInt8),(104:UInt8),(114:UInt8),(101:UInt8),(97:UInt8),(100:UInt8),(32:UInt8),(48:UInt8),(32:UInt8),(49:UInt8),(32:UInt8),(52:UInt8),(48:UInt8),(32:UInt8),(52:UInt8),(48:UInt8)] }),AV.x (.string {data:=#[(116:UInt8),(104:UInt8),(114:UInt8),(101:UInt8),(97:UInt8),(100:UInt8),(32:UInt8),(50:UInt8),(32:UInt8),(51:UInt8),(32:UInt8),(52:UInt8),(56:UInt8),(32:UInt8),(53:UInt8),(48:UInt8)] }),AV.x (.string {data:=#[(105:UInt8),(115:UInt8),(115:UInt8),(117:UInt8),(101:UInt8),(32:UInt8),(48:UInt8),(32:UInt8),(52:UInt8),(32:UInt8),(57:UInt8),(48:UInt8),(32:UInt8),(48:UInt8)] }),JE,AV.x (.string {data:=#[(115:UInt8),(101:UInt8),(101:UInt8),(32:UInt8),(48:UInt8),(32:UInt8),(50:UInt8),(48:UInt8),(48:UInt8)] }),AV.x (.string {data:=#[(115:UInt8),(101:UInt8),(101:UInt8),(32:UInt8),(49:UInt8),(32:UInt8),(50:UInt8),(48:UInt8),(51:UInt8)] }),JE,AV.x (.string {data:=#[(115:UInt8),(101:UInt8),(101:UInt8),(32:UInt8),(49:UInt8),(32:UInt8),(50:UInt8),(53:UInt8),(50:UInt8)] }),AV.x (.string {data:=#[(115:UInt8),(101:UInt8),(101:UInt8),(32:UInt8),(50:UInt8),(32:UInt8),(50:UInt8),(53:UInt8),(48:UInt8)] }),AV.x (.string {data:=#[(115:UInt8),(101:UInt8),(108:UInt8),(108:UInt8),(32:UInt8),(48:UInt8),(32:UInt8),(49:UInt8),(32:UInt8),(54:UInt8),(32:UInt8),(49:UInt8),(32:UInt8),(51:UInt8)] }),AV.x (.string {data:=#[(115:UInt8),(101:UInt8),(108:UInt8),(108:UInt8),(32:UInt8),(49:UInt8),(32:UInt8),(50:UInt8),(32:UInt8),(52:UInt8),(32:UInt8),(50:UInt8),(32:UInt8),(50:UInt8)] })]
theorem aX:VZ VQ 10 [.x (.slice none 0 0)] (lns 11 (UF U5)):=by
 refine GT Tryz.func10 (t:=need [176<=140737488355328,∀(i:Nat),i<0-> ∀(a:AV),a∈[]->AV.one a=true] (leaf (RV.lst 1 11 (GJ 11 (U8 1 Q8) λx=>[])))) VX ?_
 simp only [VO.sat,UE,G5,GL,UH,UK]
 (with_reducible repeat' first|apply Al|intro _)
 all_goals first|exact Ak|contradiction|omega|exact FD (by assumption) (by simp [AV.one,Value.oneCell'])|(rename_i ha;rw [B7.1 ha];first|exact Ak|rfl)|(rename_i i O;revert i;refine Zz2 ?_ ?_ ?_ ?_ ?_ ?_ ?_ ?_ ?_ ?_ ?_<;>(show _=_;kernel_rfl))|decide|rfl|trace_state
theorem Qv1:VZ VQ 10 [.lst 1 5 (λk=>[.x (.string (UF G7 k))])] (lns 16 (UF (U5++G7))):=by
 refine GT Tryz.func10 (t:=need [256<=140737488355328,∀(i:Nat),i<5-> ∀(a:AV),a∈[FR (UF G7 i)]->AV.one a=true] (leaf (RV.lst 1 16 (GJ 11 (U8 1 Q8) λk=>[FR (UF G7 k)])))) VX ?_
 simp only [VO.sat,UE,G5,GL,UH,UK]
 (with_reducible repeat' first|apply Al|intro _)
 all_goals first|exact Ak|contradiction|omega|exact FD (by assumption) (by simp [AV.one,Value.oneCell'])|(rename_i ha;rw [B7.1 ha];first|exact Ak|rfl)|(rename_i i O;revert i;refine Xo5 ?_ ?_ ?_ ?_ ?_ ?_ ?_ ?_ ?_ ?_ ?_ ?_ ?_ ?_ ?_ ?_<;>(show _=_;kernel_rfl))|decide|rfl|trace_state
theorem Wy9:VS VQ 10 Ws7:=by
 refine ⟨(UJ Tryz.func10),?_⟩;intro avs ns Z h hn;unfold Ws7 at h;split at h
 ·cases h;exact aX
 ·rename_i n f;cases h;obtain rfl:n=5:=hn _ VW;have h2: ∀k,k<5->f k=[.x (.string (UF G7 k))]:=hn (∀k,k<5->f k=[.x (.string (UF G7 k))]) VW;exact Qv1.same (.cons (.lst 1 5 f _ h2) .nil)
 ·cases h
theorem Xl4:sK (UF (U5++G7)) 0=hs0:=rfl
theorem Xl3:sK (UF (U5++G7)) 1=wk1:=by
 show lnS (UF U5 0) (sK (UF (U5++G7)) 0)=_;rw [Xl4];unfold lnS;rw [if_pos Qu5];exact Xm5
theorem Xl2:sK (UF (U5++G7)) 2=wk2:=by
 show lnS (UF U5 1) (sK (UF (U5++G7)) 1)=_;rw [Xl3];unfold lnS;rw [if_pos Qu4];exact Xm4
theorem Xl1:sK (UF (U5++G7)) 3=wk3:=by
 show lnS (UF U5 2) (sK (UF (U5++G7)) 2)=_;rw [Xl2];unfold lnS;rw [if_pos Qu3];exact Xm3
theorem Xl0:sK (UF (U5++G7)) 4=wk4:=by
 show lnS (UF U5 3) (sK (UF (U5++G7)) 3)=_;rw [Xl1];unfold lnS;rw [if_pos Qu2];exact Xm2
theorem Xk9:sK (UF (U5++G7)) 5=wk5:=by
 show lnS (UF U5 4) (sK (UF (U5++G7)) 4)=_;rw [Xl0];unfold lnS;rw [if_pos Qu1];exact Xm1
theorem Xk8:sK (UF (U5++G7)) 6=wk6:=by
 show lnS (UF U5 5) (sK (UF (U5++G7)) 5)=_;rw [Xk9];unfold lnS;rw [if_pos Qu0];exact Xm0
theorem Xk7:sK (UF (U5++G7)) 7=wk7:=by
 show lnS (UF U5 6) (sK (UF (U5++G7)) 6)=_;rw [Xk8];unfold lnS;rw [if_pos Qt9];exact Xl9
theorem Xk6:sK (UF (U5++G7)) 8=wk8:=by
 show lnS (UF U5 7) (sK (UF (U5++G7)) 7)=_;rw [Xk7];unfold lnS;rw [if_pos Qt8];exact Xl8
theorem Xk5:sK (UF (U5++G7)) 9=wk9:=by
 show lnS (UF U5 8) (sK (UF (U5++G7)) 8)=_;rw [Xk6];unfold lnS;rw [if_pos Qt7];exact Xl7
theorem Qs4:sK (UF (U5++G7)) 10=Qh7:=by
 show lnS (UF U5 9) (sK (UF (U5++G7)) 9)=_;rw [Xk5];unfold lnS;rw [if_pos Qt6];exact Xl6
theorem Qs3:sK (UF (U5++G7)) 11=VR:=by
 show lnS (UF U5 10) (sK (UF (U5++G7)) 10)=_;rw [Qs4];unfold lnS;rw [if_pos mC];exact Qs7
theorem Qs2:sK (UF (U5++G7)) 12=VR:=by
 show lnS (UF G7 0) (sK (UF (U5++G7)) 11)=_;rw [Qs3];unfold lnS;rw [if_neg (by rw [Xn0];decide)]
theorem Qs1:sK (UF (U5++G7)) 13=VR:=by
 show lnS (UF G7 1) (sK (UF (U5++G7)) 12)=_;rw [Qs2];unfold lnS;rw [if_neg (by rw [Xm9];decide)]
theorem Qs0:sK (UF (U5++G7)) 14=VR:=by
 show lnS (UF G7 2) (sK (UF (U5++G7)) 13)=_;rw [Qs1];unfold lnS;rw [if_neg (by rw [Xm8];decide)]
theorem Xv6:sK (UF (U5++G7)) 15=OZ:=by
 show lnS (UF G7 3) (sK (UF (U5++G7)) 14)=_;rw [Qs0];unfold lnS;rw [if_pos Qt4];exact Xl5
theorem Zq6:eK (UF (U5++G7)) 0=0:=by
 show lnE (UF U5 0) (sK (UF (U5++G7)) 0)=_;rw [Xl4];exact Qu5
theorem Zq5:eK (UF (U5++G7)) 1=0:=by
 show lnE (UF U5 1) (sK (UF (U5++G7)) 1)=_;rw [Xl3];exact Qu4
theorem Zq4:eK (UF (U5++G7)) 2=0:=by
 show lnE (UF U5 2) (sK (UF (U5++G7)) 2)=_;rw [Xl2];exact Qu3
theorem Zq3:eK (UF (U5++G7)) 3=0:=by
 show lnE (UF U5 3) (sK (UF (U5++G7)) 3)=_;rw [Xl1];exact Qu2
theorem Zq2:eK (UF (U5++G7)) 4=0:=by
 show lnE (UF U5 4) (sK (UF (U5++G7)) 4)=_;rw [Xl0];exact Qu1
theorem Zq1:eK (UF (U5++G7)) 5=0:=by
 show lnE (UF U5 5) (sK (UF (U5++G7)) 5)=_;rw [Xk9];exact Qu0
theorem Zq0:eK (UF (U5++G7)) 6=0:=by
 show lnE (UF U5 6) (sK (UF (U5++G7)) 6)=_;rw [Xk8];exact Qt9
theorem Zp9:eK (UF (U5++G7)) 7=0:=by
 show lnE (UF U5 7) (sK (UF (U5++G7)) 7)=_;rw [Xk7];exact Qt8
theorem Zp8:eK (UF (U5++G7)) 8=0:=by
 show lnE (UF U5 8) (sK (UF (U5++G7)) 8)=_;rw [Xk6];exact Qt7
theorem Zp7:eK (UF (U5++G7)) 9=0:=by
 show lnE (UF U5 9) (sK (UF (U5++G7)) 9)=_;rw [Xk5];exact Qt6
theorem Xw2:eK (UF (U5++G7)) 10=0:=by
 show lnE (UF U5 10) (sK (UF (U5++G7)) 10)=_;rw [Qs4];exact mC
theorem Xw1:eK (UF (U5++G7)) 11=9:=by
 show lnE (UF G7 0) (sK (UF (U5++G7)) 11)=_;rw [Qs3];exact Xn0
theorem Xw0:eK (UF (U5++G7)) 12=10:=by
 show lnE (UF G7 1) (sK (UF (U5++G7)) 12)=_;rw [Qs2];exact Xm9
theorem Xv9:eK (UF (U5++G7)) 13=9:=by
 show lnE (UF G7 2) (sK (UF (U5++G7)) 13)=_;rw [Qs1];exact Xm8
theorem Xv8:eK (UF (U5++G7)) 14=0:=by
 show lnE (UF G7 3) (sK (UF (U5++G7)) 14)=_;rw [Qs0];exact Qt4
theorem Xv7:eK (UF (U5++G7)) 15=0:=by
 show lnE (UF G7 4) (sK (UF (U5++G7)) 15)=_;rw [Xv6];exact Zq8
def wrB:ByteArray:=⟨#[91,48,48,49,58,48,48,50,50,51,93,97,10]⟩
def lnA(_:Nat):ByteArray:=⟨#[97]⟩
def Xj5(s:HS):D8:=λl=>some (.need [l=[lns 16 (UF (U5++G7))]] (.leaf (.tup [.agg (hsL s),.lst 1 16 (λj=>[i (U9 [0,0,0,0,0,0,0,0,0,0,0,9,10,9,0,0] j)]),i 0])))
def Zk6:D8:=λl=>some (.need [l=[lns 11 (UF U5)]] (.leaf (.tup [.lst 2 3 (λk=>[i (U9 [0,1,-3] k),i (U9 [0,5,5] k)]),i 0])))
def Zk3:D8:=λl=>some (.need [l=[lns 11 (UF U5),i 0]] (.leaf (.tup [.lst 1 1 (λk=>[i (U9 [0] k)]),i 0])))
def Zk5:D8:=λl=>some (.need [l=[lns 11 (UF U5),i 1]] (.leaf (.tup [.lst 1 2 (λk=>[i (U9 [0,1] k)]),.lst 1 1 (λk=>[i (U9 [0] k)]),i 0])))
def Zk4:G0:=λl=>some ([l=[lns 11 (UF U5)]],.tup [.x (.string Zc2),i 0])
def Wu1:D8:=λl=>match l with
 |[.lst 1 n f]=>some (.need [n=1,f 0=[.x (.string (lnA 0))]] (.leaf (.tup [.lst 1 13 (DK wrB),i 0])))
 |_=>none
theorem RC{P:Program}{f:FuncId}{avs:List AV}{t sp:VO AV}(h:UP P f avs t)(hm: ∀Q:AV->Prop,sp.sat Q->t.sat (λr=> ∃r',FB r r'/\Q r')):UP P f avs sp:=by
 intro Q hQ e w args q1 q2 q3 q4;refine (h _ (hm Q hQ) e w args q1 q2 q3 q4).mono ?_;rintro en w' ⟨v,r,rfl,⟨r',g1,g2⟩,g3,g4⟩;exact ⟨v,r',rfl,g2,g3,FW g1 g4⟩
theorem Zq7:ckE 16 (UF (U5++G7))=0:=by decide+kernel
theorem Qv4(s:HS)(hs:s=sK (UF (U5++G7)) 16):Sx.Enters Tryz.prog 27/\ ∀avs t,Xj5 s avs=some t->UP VQ 27 avs t:=by
 refine ⟨(UJ Tryz.func27),?_⟩;intro avs t h;cases h;intro Q hQ;have e:avs=[lns 16 (UF (U5++G7))]:=hQ.1;subst e;have h1:=eY 16 (UF (U5++G7)) VL;refine RC h1 (sp:= .leaf (.tup [.agg (hsL s),.lst 1 16 (λj=>[i (U9 [0,0,0,0,0,0,0,0,0,0,0,9,10,9,0,0] j)]),i 0])) (λQ hq=>⟨λh=>?_,λ_=>?_⟩) Q hQ.2
 ·rw [Zq7] at h;exact absurd h (by decide)
 ·refine ⟨.tup [.agg (hsL s),.lst 1 16 (λj=>[i (U9 [0,0,0,0,0,0,0,0,0,0,0,9,10,9,0,0] j)]),i 0],⟨?_,⟨rfl,rfl,λk hk=>?_⟩,⟨rfl,rfl⟩,Ak⟩,hq⟩
  ·rw [hs];exact tX _
  ·revert k;refine Xo5 (congrArg (λz=>[i z]) Zq6) (congrArg (λz=>[i z]) Zq5) (congrArg (λz=>[i z]) Zq4) (congrArg (λz=>[i z]) Zq3) (congrArg (λz=>[i z]) Zq2) (congrArg (λz=>[i z]) Zq1) (congrArg (λz=>[i z]) Zq0) (congrArg (λz=>[i z]) Zp9) (congrArg (λz=>[i z]) Zp8) (congrArg (λz=>[i z]) Zp7) (congrArg (λz=>[i z]) Xw2) (congrArg (λz=>[i z]) Xw1) (congrArg (λz=>[i z]) Xw0) (congrArg (λz=>[i z]) Xv9) (congrArg (λz=>[i z]) Xv8) (congrArg (λz=>[i z]) Xv7)
theorem VG{p:Prop}(h:p:=by
 rw [Qu6] at h;exact absurd h (by decide)):p:=h
theorem Wz4:Sx.Enters Tryz.prog 21/\ ∀avs t,Zk6 avs=some t->UP VQ 21 avs t:=by
 refine ⟨(UJ Tryz.func21),?_⟩;intro avs t h;cases h;intro Q hQ;have e:avs=[lns 11 (UF U5)]:=hQ.1;subst e;have h1:=eZ 11 (UF U5) VL;rw [yP] at h1;refine RC h1 (sp:= .leaf (.tup [.lst 2 3 (λk=>[i (U9 [0,1,-3] k),i (U9 [0,5,5] k)]),i 0])) (λQ hq=>⟨λh=>?_,λ_=>?_⟩) Q hQ.2
 ·exact VG
 ·refine ⟨.tup [.lst 2 3 (λk=>[i (U9 [0,1,-3] k),i (U9 [0,5,5] k)]),i 0],⟨⟨rfl,Xm6,λk hk=>?_⟩,(show FB (i _) (i 0) by rw [Xm7];exact ⟨rfl,rfl⟩),Ak⟩,hq⟩
  rcases (show k=0\/k=1\/k=2 by omega) with rfl|rfl|rfl
  ·show [i _,i _]=_;rw [Qt0,Qt3];rfl
  ·show [i _,i _]=_;rw [Qs9,Qt2];rfl
  ·show [i _,i _]=_;rw [Qs8,Qt1];rfl
theorem Wz1:Sx.Enters Tryz.prog 9/\ ∀avs t,Zk3 avs=some t->UP VQ 9 avs t:=by
 refine ⟨(UJ Tryz.func9),?_⟩;intro avs t h;cases h;intro Q hQ;have e:avs=[lns 11 (UF U5),i 0]:=hQ.1;subst e;have h1:=BS 11 (UF U5) 0 VL;rw [yP] at h1;have hn:VR.nc=1:=VX;have hc:G8 (stP VR 0) 1=1:=by rw [FM Qs6];rfl
 refine RC h1 (sp:= .leaf (.tup [.lst 1 1 (λk=>[i (U9 [0] k)]),i 0])) (λQ hq=>⟨λh=>?_,λ_=>⟨λh=>absurd h (by decide),λ_=>?_⟩⟩) Q hQ.2
 ·exact VG
 ·refine ⟨.tup [.lst 1 1 (λk=>[i (U9 [0] k)]),i 0],⟨⟨rfl,by rw [hn];exact hc,λk hk=>?_⟩,⟨rfl,rfl⟩,Ak⟩,hq⟩
  obtain rfl:k=0:=VL;have h2:=qQ (show 0<VR.nc by rw [hn];omega) Qs6
  have h3:G8 (stP VR 0) 0=0:=rfl;rw [h3] at h2;show [i _]=_;rw [h2];rfl
theorem Wz3:Sx.Enters Tryz.prog 11/\ ∀avs t,Zk5 avs=some t->UP VQ 11 avs t:=by
 refine ⟨(UJ Tryz.func11),?_⟩;intro avs t h;cases h;intro Q hQ;have e:avs=[lns 11 (UF U5),i 1]:=hQ.1;subst e;have h1:=NR 11 (UF U5) 1 VL;rw [yP] at h1;have c0:G8 (caB VR.ns VR.sa VR.sb VR.sc VR.sl VR.sh 1) 0=0:=rfl;have c1:G8 (caB VR.ns VR.sa VR.sb VR.sc VR.sl VR.sh 1) 1=1:=by rw [FM Qu8,c0]
 have c2:G8 (caB VR.ns VR.sa VR.sb VR.sc VR.sl VR.sh 1) 2=2:=by rw [FM Qu7,c1]
 have c3:G8 (caB VR.ns VR.sa VR.sb VR.sc VR.sl VR.sh 1) 3=2:=by rw [FU Xy2,c2]
 have c4:G8 (caB VR.ns VR.sa VR.sb VR.sc VR.sl VR.sh 1) 4=2:=by rw [FU Xy1,c3]
 have d0:G8 (suB VR.ns VR.sa VR.sb VR.sc VR.sl VR.sh 1) 0=0:=rfl;have d1:G8 (suB VR.ns VR.sa VR.sb VR.sc VR.sl VR.sh 1) 1=1:=by rw [FM Qs5,d0]
 have d2:G8 (suB VR.ns VR.sa VR.sb VR.sc VR.sl VR.sh 1) 2=1:=by rw [FU Xw5,d1]
 have d3:G8 (suB VR.ns VR.sa VR.sb VR.sc VR.sl VR.sh 1) 3=1:=by rw [FU Xw4,d2]
 have d4:G8 (suB VR.ns VR.sa VR.sb VR.sc VR.sl VR.sh 1) 4=1:=by rw [FU Xw3,d3]
 have e0:=qQ (show 0<4 by omega) Qu8
 have e1:=qQ (show 1<4 by omega) Qu7
 have f0:=qQ (show 0<4 by omega) Qs5
 rw [c0] at e0;rw [c1] at e1;rw [d0] at f0;refine RC h1 (sp:= .leaf (.tup [.lst 1 2 (λk=>[i (U9 [0,1] k)]),.lst 1 1 (λk=>[i (U9 [0] k)]),i 0])) (λQ hq=>⟨λh=>?_,λ_=>⟨λh=>absurd h (by decide),λ_=>⟨λh=>?_,λ_=>?_⟩⟩⟩) Q hQ.2
 ·exact VG
 ·rw [Qt5] at h;exact Bool.noConfusion h
 ·refine ⟨.tup [.lst 1 2 (λk=>[i (U9 [0,1] k)]),.lst 1 1 (λk=>[i (U9 [0] k)]),i 0],⟨⟨rfl,c4,λk hk=>?_⟩,⟨rfl,d4,λk hk=>?_⟩,⟨rfl,rfl⟩,Ak⟩,hq⟩
  ·rcases (show k=0\/k=1 by omega) with rfl|rfl
   ·show [i _]=_;rw [e0];rfl
   ·show [i _]=_;rw [e1];rfl
  ·obtain rfl:k=0:=VL;show [i _]=_;rw [f0];rfl
theorem Wz2:VS VQ 12 Zk4:=by
 refine ⟨(UJ Tryz.func12),?_⟩;intro avs ns Z h hn;cases h;have e:avs=[lns 11 (UF U5)]:=hn _ GI;subst e;exact eW
theorem Wz0:Sx.Enters Tryz.prog 32/\ ∀avs t,Wu1 avs=some t->UP VQ 32 avs t:=by
 refine ⟨(UJ Tryz.func32),?_⟩;intro avs t h;unfold Wu1 at h;split at h
 ·rename_i n f;cases h;intro Q hQ;obtain rfl:n=1:=hQ.1.1;have h2:f 0=[.x (.string (lnA 0))]:=hQ.1.2;have h1:=Qn6 1 lnA VL;have hb:flB lnA 1=wrB:=by decide+kernel
  rw [hb] at h1;have h3:UP VQ 32 [.lst 1 1 f] (.leaf (.tup [.lst 1 13 (DK wrB),i 0])):=by
   intro Q hq e w args q1 q2 q3 q4;refine h1 Q ⟨λh=>?_,λ_=>hq⟩ e w args q1 q2 ?_ ?_
   ·rw [show ckE 1 lnA=0 by decide+kernel] at h
    exact absurd h (by decide)
   ·intro a ha;rw [B7.1 ha];exact .lst _ _ _ λk _ x hx=>by rw [B7.1 hx];exact .x _
   ·obtain ⟨u,us,rfl,r1,r2⟩:=q4.cons_inv;refine .cons (FW (a:= .lst 1 1 f) ⟨rfl,rfl,λk hk=>?_⟩ r1) r2
    obtain rfl:k=0:=VL;exact h2
  exact h3 Q hQ.2
 ·cases h
theorem Ze7{a b:ByteArray}(h:(a.toList==b.toList)=false)(e:a=b):False:=by
 subst e;simp at h
abbrev WF:List Int:=[(0:Int),0,0,0,0,0,0,0,0,0,0,(9:Int),(10:Int),(9:Int),(0:Int),(0:Int)]
abbrev XL:AV:=AV.x (.string {data:=#[(115:UInt8),(116:UInt8),(114:UInt8),(105:UInt8),(107:UInt8),(101:UInt8),(32:UInt8),(49:UInt8)] })
abbrev J0:Nat->List AV:=λk=>[FR (UF U5 k)]
abbrev JG:List AV:=[lst 1 16 λk=>[FR (UF (U5++G7) k)]]
abbrev YM:List AV:=[lst 1 11 J0,iI 0]
abbrev YN:List AV:=[lst 1 11 J0,iI 1]
theorem Qi0(s:HS)(VV:s=sK (UF (U5++G7)) 16):VZ VQ 14 [] (bl true):=by
 refine G9 (L:=[]) (Ae Wy9 (Ae Wc9 (Ae Wz2 Aa))) (Aj Ab Ac (Ah (Qv4 s VV) (Ah Wz4 (Ah Wz1 (Ah Wz3 (Ah Wz0 (UB.nil _))))))) U0 Tryz.func14 (UV Tryz.f14) G4 (t:=let A:=(U8 1 [iI 0,iI 1]);let z1:=(U8 1 [iI 0]);(need [5=5,GV 5 (U8 1 [AV.x (.string {data:=#[116,104,114,101,97,100,32,48,32,50,32,52,48,32,52,48] }),AV.x (.string {data:=#[105,115,115,117,101,32,48,32,52,32,56,48,32,48] }),AV.x (.string {data:=#[115,101,101,32,48,32,49,48,48] }),XL,AV.x (.string {data:=#[118,111,105,100,32,48] })]) (λk=>[FR (UF G7 k)])] (need [JG=JG] (need [WL=WL] (need [YM=YM] (need [YN=YN] (need [WL=WL] (need [1=1,[AV.x (.string {data:=#[97] })]=[FR (lnA 0)]] (branch ((0:Int)==0) (branch ((↑(16:Nat):Int)==16) (need [UN 10 16] (branch (U9 WF (10:Int).toNat==0) (need [UN 11 16] (branch (U9 WF (11:Int).toNat==9) (need [UN 12 16] (branch (U9 WF (12:Int).toNat==10) (need [UN 13 16] (branch (U9 WF (13:Int).toNat==9) (need [UN 14 16] (branch (U9 WF (14:Int).toNat==0) (need [UN 15 16] (branch (U9 WF (15:Int).toNat==0) (branch ((0:Int)==0) (branch ((↑(3:Nat):Int)==3) (need [UN 1 3] (branch (U9 WU (1:Int).toNat==1&&(U9 Z6 (1:Int).toNat==5&&true)) (need [UN 2 3] (branch (U9 WU (2:Int).toNat==(-3:Int)&&(U9 Z6 (2:Int).toNat==5&&true)) (branch ((0:Int)==0) (need [UG 1 1 λk=>[i (U9 [(0:Int)] k)],UG 1 1 z1,1<=100000] (branch (decide (1=1)&&(true&&U9 [(0:Int)] (nat_lit 0)==col 0 z1 (nat_lit 0))) (branch ((0:Int)==0) (need [UG 1 2 λk=>[i (U9 [(0:Int),1] k)],UG 1 2 A,2<=100000] (branch (decide (2=2)&&(true&&U9 [(0:Int),1] (nat_lit 0)==col 0 A (nat_lit 0)&&U9 [(0:Int),1] (nat_lit 1)==col 0 A (nat_lit 1))) (need [UG 1 1 λk=>[i (U9 [(0:Int)] k)],UG 1 1 z1,1<=100000] (branch (decide (1=1)&&(true&&U9 [(0:Int)] (nat_lit 0)==col 0 z1 (nat_lit 0))) (branch ((0:Int)==0) (branch (ByteArray.toList Zc2==ByteArray.toList {data:=List.toArray (List.append (List.append [(114:UInt8),(101:UInt8),(97:UInt8),(100:UInt8),(105:UInt8),(110:UInt8),(103:UInt8),(115:UInt8),(32:UInt8),(50:UInt8),(32:UInt8),(98:UInt8),(97:UInt8),(116:UInt8),(104:UInt8),(115:UInt8),(32:UInt8),(50:UInt8),(32:UInt8),(99:UInt8),(101:UInt8),(114:UInt8),(116:UInt8),(105:UInt8),(102:UInt8),(105:UInt8),(99:UInt8),(97:UInt8),(116:UInt8),(101:UInt8),(115:UInt8),(32:UInt8),(49:UInt8),(32:UInt8)] [(115:UInt8),(97:UInt8),(108:UInt8),(101:UInt8),(115:UInt8),(32:UInt8),(50:UInt8),(10:UInt8),(109:UInt8),(97:UInt8),(114:UInt8),(107:UInt8),(115:UInt8),(32:UInt8),(48:UInt8),(46:UInt8),(46:UInt8),(48:UInt8),(32:UInt8),(50:UInt8),(48:UInt8),(48:UInt8),(46:UInt8),(46:UInt8),(51:UInt8),(48:UInt8),(48:UInt8),(32:UInt8),(52:UInt8),(49:UInt8),(48:UInt8),(46:UInt8),(46:UInt8),(53:UInt8)]) (List.append [(49:UInt8),(48:UInt8),(32:UInt8),(55:UInt8),(48:UInt8),(48:UInt8),(46:UInt8),(46:UInt8),(56:UInt8),(48:UInt8),(48:UInt8),(32:UInt8),(49:UInt8),(48:UInt8),(48:UInt8),(48:UInt8),(46:UInt8),(46:UInt8),(49:UInt8),(48:UInt8),(48:UInt8),(48:UInt8),(10:UInt8),(111:UInt8),(102:UInt8),(102:UInt8),(115:UInt8),(101:UInt8),(116:UInt8),(115:UInt8),(32:UInt8),(48:UInt8),(46:UInt8),(46:UInt8)] [(48:UInt8),(32:UInt8),(49:UInt8),(46:UInt8),(46:UInt8),(53:UInt8),(32:UInt8),(45:UInt8),(51:UInt8),(46:UInt8),(46:UInt8),(53:UInt8),(10:UInt8),(115:UInt8),(116:UInt8),(97:UInt8),(110:UInt8),(100:UInt8),(32:UInt8),(48:UInt8),(10:UInt8),(104:UInt8),(111:UInt8),(108:UInt8),(100:UInt8),(32:UInt8),(52:UInt8),(32:UInt8),(50:UInt8),(32:UInt8),(52:UInt8),(32:UInt8),(48:UInt8),(10:UInt8)])) }) (branch ((0:Int)==0) (need [uR 13 (DK wrB)] (leaf (RV.x (.bool (ByteArray.toList (bsO 13 (DK wrB))==ByteArray.toList {data:=#[91,48,48,49,58,48,48,50,50,51,93,97,10] }))))) (leaf (RV.x (W6)))) (leaf (RV.x (W6)))) (leaf (RV.x (W6)))) (leaf (RV.x (W6))))) (leaf (RV.x (W6))))) (leaf (RV.x (W6)))) (leaf (RV.x (W6))))) (leaf (RV.x (W6)))) (leaf (RV.x (W6))))) (leaf (RV.x (W6))))) (leaf (RV.x (W6)))) (leaf (RV.x (W6)))) (leaf (RV.x (W6))))) (leaf (RV.x (W6))))) (leaf (RV.x (W6))))) (leaf (RV.x (W6))))) (leaf (RV.x (W6))))) (leaf (RV.x (W6))))) (leaf (RV.x (W6)))) (leaf (RV.x (W6)))))))))))) VX ?_
 have hw:bsO 13 (DK wrB)=wrB:=Zj7 wrB;simp only [VO.sat,UE,G5,GL,UH,UK,VN,hw]
 (with_reducible repeat' first|apply Al|intro _)
 all_goals first|exact Ak|contradiction|(rename_i h;exact (Ze7 h VX).elim)|omega|exact pA (by decide+kernel)|(intro k hk;exact ltM VX k hk)|(rename_i k hk;exact ltM VX k hk)|(rename_i k hk;revert k;refine ltM ?_;kernel_rfl)|(intro k hk;revert k;refine ltM ?_;kernel_rfl)|decide|decide+kernel|rfl
def Qc9:G0
 |[]=>some ([],bl true)
 |_=>none
theorem Qv3:VS VQ 14 Qc9:=by
 refine ⟨(UJ Tryz.func14),?_⟩;intro avs ns Z h hn;unfold Qc9 at h;split at h
 ·cases h;exact Qi0 _ rfl
 ·cases h
def lnF(f:Nat->List AV)(k:Nat):ByteArray:=stO (f k)
theorem Jf5{n:Nat}{L:Nat->ByteArray}(h1:n<=50)(h2: ∀k,k<n->(L k).size<=200):ckE n L=0:=by
 unfold ckE;rw [if_pos ⟨h1,H3.2 λk hk=>decide_eq_true (by have:=h2 k hk;omega)⟩]
def sF(n:Nat)(f g:Nat->List AV):Prop:= ∀k,k<n->f k=g k
def wkL(x:ByteArray):Nat->ByteArray:=UF (U5++[x])
theorem Zz1{P:Nat->Prop}(h0:P 0)(h1:P 1)(h2:P 2)(h3:P 3)(h4:P 4)(h5:P 5)(h6:P 6)(h7:P 7)(h8:P 8)(h9:P 9)(h10:P 10)(h11:P 11): ∀i,i<12->P i:=by
 intro i O
 match i,O with
 | 0,_=>exact h0
 | 1,_=>exact h1
 | 2,_=>exact h2
 | 3,_=>exact h3
 | 4,_=>exact h4
 | 5,_=>exact h5
 | 6,_=>exact h6
 | 7,_=>exact h7
 | 8,_=>exact h8
 | 9,_=>exact h9
 | 10,_=>exact h10
 | 11,_=>exact h11
 |i+12,h=>exact absurd h VL
theorem Qv2(x:ByteArray):VZ VQ 10 [.lst 1 1 (λ_=>[.x (.string x)])] (lns 12 (wkL x)):=by
 refine GT Tryz.func10 (t:=need [192<=140737488355328,∀(i:Nat),i<1-> ∀(a:AV),a∈[FR x]->AV.one a=true] (leaf (RV.lst 1 12 (GJ 11 (U8 1 Q8) λx_1=>[FR x])))) VX ?_
 simp only [VO.sat,UE,G5,UH,UK]
 (with_reducible repeat' first|apply Al|intro _)
 all_goals first|exact Ak|contradiction|omega|exact FD (by assumption) (by simp [AV.one,Value.oneCell'])|(rename_i ha;rw [B7.1 ha];first|exact Ak|rfl)|(rename_i i O;revert i;refine Zz1 ?_ ?_ ?_ ?_ ?_ ?_ ?_ ?_ ?_ ?_ ?_ ?_<;>(show _=_;kernel_rfl))|decide|rfl|trace_state
def Qc8:G0
 |[.x (.slice none 0 0)]=>some ([],lns 11 (UF U5))
 |[.lst 1 n f]=>some ([n=1,f 0=[.x (.string (lnF f 0))]],lns 12 (wkL (lnF f 0)))
 |_=>none
def Xq5(x:ByteArray):D8:=λl=>match l with
 |[.lst 1 N f]=>some (.need [N=12,sF 12 f (λk=>[.x (.string (wkL x k))]),x.size<=200] (.leaf (.tup [.agg (hsL (sK (wkL x) 12)),.lst 1 12 (exG (wkL x)),i 0])))
 |_=>none
theorem aW:VS VQ 10 Qc8:=by
 refine ⟨(UJ Tryz.func10),?_⟩;intro avs ns Z h hn;unfold Qc8 at h;split at h
 ·cases h;exact aX
 ·rename_i n f;cases h;obtain rfl:n=1:=hn _ VW;have h1:f 0=[.x (.string (lnF f 0))]:=hn (f 0=[.x (.string (lnF f 0))]) VW;refine (Qv2 (lnF f 0)).same (.cons (.lst 1 1 _ _ λk hk=>?_) .nil)
  obtain rfl:k=0:=VL;exact h1
 ·cases h
theorem Qh9: ∀k,k<11->(UF U5 k).size<=200:=by
 have h:FN (λk=>decide ((UF U5 k).size<=200)) 11=true:=by decide+kernel
 intro k hk;exact wL (H3.1 h k hk)
theorem sG(x:ByteArray){k:Nat}(h:k<11):wkL x k=UF U5 k:=by
 match k,h with
 | 0,_=>rfl
 | 1,_=>rfl
 | 2,_=>rfl
 | 3,_=>rfl
 | 4,_=>rfl
 | 5,_=>rfl
 | 6,_=>rfl
 | 7,_=>rfl
 | 8,_=>rfl
 | 9,_=>rfl
 | 10,_=>rfl
theorem Qv0{x:ByteArray}(h:x.size<=200):ckE 12 (wkL x)=0:=by
 refine Jf5 VL λk hk=>?_
 rcases (show k<11\/k=11 by omega) with h1|rfl
 ·rw [sG x h1];exact Qh9 k h1
 ·exact h
section
variable (x:ByteArray)
theorem Qu9:sK (wkL x) 11=VR:=by
 rw [←yP];have: ∀n,n<=11->sK (wkL x) n=sK (UF U5) n:=by
  intro n
  induction n with
  |zero=>intro _;rfl
  |succ n ih=>
   intro hn;show lnS (wkL x n) (sK (wkL x) n)=lnS (UF U5 n) (sK (UF U5) n);rw [ih VL,sG x VL]
 exact this 11 (Am _)
theorem Xy3:eK (wkL x) 11=lnE x VR:=by
 show lnE (wkL x 11) (sK (wkL x) 11)=_;rw [Qu9];rfl
theorem Zd5:Sx.Enters Tryz.prog 27/\ ∀avs t,Xq5 x avs=some t->UP VQ 27 avs t:=by
 refine ⟨(UJ Tryz.func27),?_⟩;intro avs t h;unfold Xq5 at h;split at h
 ·rename_i N f;cases h;intro Q hQ;obtain rfl:N=12:=hQ.1.1;have h2:sF 12 f (λk=>[.x (.string (wkL x k))]):=hQ.1.2.1
  have h3:x.size<=200:=hQ.1.2.2;have h0:=Qv0 h3;intro e w args q1 q2 q3 q4;refine eY 12 (wkL x) VL Q ⟨λh=>?_,λ_=>hQ.2⟩ e w args q1 q2 ?_ ?_
  ·rw [h0] at h;exact absurd h (by decide)
  ·intro a ha;rw [B7.1 ha];exact .lst _ _ _ λk _ x hx=>by rw [B7.1 hx];exact .x _
  ·obtain ⟨u,us,rfl,r1,r2⟩:=q4.cons_inv;exact .cons (FW (a:= .lst 1 12 f) ⟨rfl,rfl,h2⟩ r1) r2
 ·cases h
end
def OK:G0
 |[.x (.string x)]=>some ([x.size<=200],i (lnE x VR))
 |_=>none
theorem oS(x:ByteArray)(VV:x.size<=200):VZ VQ 13 [.x (.string x)] (i (lnE x VR)):=by
 refine G9 (L:=[]) (Ae aW Aa) (Aj Ab Ac (Ah (Zd5 x) (UB.nil _))) U0 Tryz.func13 (UV Tryz.f13) G4 (t:=need [1=1,[FR x]=[AV.x (.string (lnF (U8 1 [FR x]) 0))]] (need [12=12,sF 12 (λk=>[AV.x (.string (wkL (lnF (U8 1 [FR x]) 0) k))]) λk=>[FR (wkL x k)],ByteArray.size x<=200] (branch ((0:Int) != 0) (leaf (RV.x (JO))) (branch ((↑(12:Nat):Int) != 12) (leaf (RV.x (JO))) (need [UN 11 12] (leaf (RV.x (.int .i64 (eK (wkL x) (11:Int).toNat))))))))) VX ?_
 simp only [VO.sat,UE,G5,UH,UK,VN,FF];have he:=Xy3 x
 (with_reducible repeat' first|apply Al|intro _)
 all_goals first|exact Ak|contradiction|omega|exact VV|exact he|rfl|(intro j _;rfl)|exact FD (by assumption) (by simp [AV.one,Value.oneCell'])|(exfalso;rename_i h9;simp at h9;done)|trace_state
theorem oR:VS VQ 13 OK:=by
 refine ⟨(UJ Tryz.func13),?_⟩;intro avs ns Z h hn;unfold OK at h;split at h
 ·cases h;exact oS _ (hn _ VW)
 ·cases h
theorem nm_0:lnE ⟨#[116,104,114,101,97,100,32,52,32,52,32,49,32,49]⟩ VR=2:=by decide+kernel
theorem nm_1:lnE ⟨#[116,104,114,101,97,100,32,48,32,48,32,53,32,52]⟩ VR=2:=by decide+kernel
theorem nm_2:lnE ⟨#[115,116,114,105,107,101,32,50]⟩ VR=7:=by decide+kernel
theorem nm_3:lnE ⟨#[98,97,114,111,32,55,49,57,32,55,54,48]⟩ VR=2:=by decide+kernel
theorem nm_4:lnE ⟨#[98,97,114,111,32,55,54,48,32,55,53,57]⟩ VR=2:=by decide+kernel
theorem nm_5:lnE ⟨#[98,97,114,111,32,55,53,48,32,55,55,48]⟩ VR=0:=by decide+kernel
theorem nm_6:lnE ⟨#[98,97,116,104,32,53,32,52]⟩ VR=2:=by decide+kernel
theorem nm_7:lnE ⟨#[98,97,116,104,32,48,32,49,48,48,49]⟩ VR=2:=by decide+kernel
theorem nm_8:lnE ⟨#[115,101,101,32,51,32,49,48,48]⟩ VR=7:=by decide+kernel
theorem nm_9:lnE ⟨#[115,101,101,32,50,32,57,57,57,57]⟩ VR=6:=by decide+kernel
theorem Zy9:lnE ⟨#[115,101,101,32,48,32,50,48,48,49]⟩ VR=2:=by decide+kernel
theorem Zy8:lnE ⟨#[115,101,101,32,48,32,50,52,57]⟩ VR=0:=by decide+kernel
theorem Zy7:lnE ⟨#[105,115,115,117,101,32,48,32,53,32,57,48,32,48]⟩ VR=2:=by decide+kernel
theorem Zy6:lnE ⟨#[105,115,115,117,101,32,48,32,52,32,57,48,32,49,48,48,48,49]⟩ VR=2:=by decide+kernel
theorem Zy5:lnE ⟨#[105,115,115,117,101,32,48,32,52,32,57,48,32,49]⟩ VR=10:=by decide+kernel
theorem Zy4:lnE ⟨#[105,115,115,117,101,32,48,32,52,32,49,48,48,32,51,51,51]⟩ VR=0:=by decide+kernel
theorem Zy3:lnE ⟨#[118,111,105,100,32,49]⟩ VR=7:=by decide+kernel
theorem Zy2:lnE ⟨#[115,101,108,108,32,48,32,48,32,49,32,49,32,49]⟩ VR=2:=by decide+kernel
theorem Zy1:lnE ⟨#[115,101,108,108,32,48,32,52,32,49,32,49,32,49]⟩ VR=2:=by decide+kernel
theorem Zy0:lnE ⟨#[115,101,108,108,32,48,32,51,32,53,32,49,32,57]⟩ VR=9:=by decide+kernel
theorem Zx9:lnE ⟨#[115,101,108,108,32,48,32,51,32,52,32,49,32,57]⟩ VR=0:=by decide+kernel
theorem Zx8:lnE ⟨#[118,111,105,100,32,48,48]⟩ VR=4:=by decide+kernel
theorem Zx7:lnE ⟨#[118,111,105,100]⟩ VR=4:=by decide+kernel
theorem Zx6:lnE ⟨#[]⟩ VR=4:=by decide+kernel
theorem Zx5:lnE ⟨#[98,97,114,111,32,55,53,48,32,55,55,48,32,49]⟩ VR=4:=by decide+kernel
theorem Zx4:stP VR 1 0=false:=by decide+kernel
theorem Zx3:stP OZ 0 0=false:=by decide+kernel
theorem eX(n:Nat)(L:Nat->ByteArray)(VV:n<=100)(UI:ckE n L≠0):VZ VQ 12 [lns n L] (.tup [.x (.string ByteArray.empty),i (ckE n L)]):=by
 refine G9 (L:=[]) (Ae (LZ n L VL) Aa) Ad U0 Tryz.func12 (UV Tryz.f12) G4 (t:=need [(YR n L)] (branch (ckE n L != 0) (leaf (RV.tup [RV.x (.string {data:=#[] }),RV.x (.int .i64 (ckE n L))])) VO.fail)) VX ?_;simp only [VO.sat,UE,G5,GL,UH,UK,VN,FF]
 (with_reducible repeat' first|apply Al|intro _)
 all_goals first|exact Ak|omega|rfl|(exfalso;rename_i h9;exact UI (by simpa using h9))|trace_state
def bC:ByteArray:=⟨#[115,116,114,105,107,101,32,49]⟩
def noE(_:Nat):ByteArray:=ByteArray.empty
def Wu4:D8:=λl=>match l with
 |[.lst 1 11 f,.x (.int .i64 d)]=>if d=1 then some (.need [sF 11 f (λk=>[.x (.string ((UF U5) k))])] (.leaf (.tup [.lst 1 0 (λ_=>[]),i 0]))) else if d=10001 then some (.need [sF 11 f (λk=>[.x (.string ((UF U5) k))])] (.leaf (.tup [.x (.slice none 0 0),i 2]))) else none
 |[.lst 1 12 f,.x (.int .i64 d)]=>if d=0 then some (.need [sF 12 f (λk=>[.x (.string (wkL bC k))])] (.leaf (.tup [.lst 1 0 (λ_=>[]),i 0]))) else none
 |_=>none
def Wu5:D8:=λl=>match l with
 |[.lst 1 11 f,.x (.int .i64 d)]=>if d=101 then some (.need [sF 11 f (λk=>[.x (.string ((UF U5) k))])] (.leaf (.tup [.x (.slice none 0 0),.x (.slice none 0 0),i 2]))) else none
 |_=>none
def Wt0:G0
 |[.lst 1 51 f]=>some ([sF 51 f (λk=>[.x (.string (noE k))])],.tup [.x (.string ByteArray.empty),i 3])
 |_=>none
theorem tF:ckE 51 noE=3:=by decide+kernel
theorem Xb9:VS VQ 12 Wt0:=by
 refine ⟨(UJ Tryz.func12),?_⟩;intro avs ns Z h hn;unfold Wt0 at h;split at h
 ·rename_i f;cases h;have h1:sF 51 f (λk=>[.x (.string (noE k))]):=hn _ VW
  have h2:=eX 51 noE VL (by rw [tF];decide)
  rw [tF] at h2;exact h2.same (.cons (.lst 1 51 _ _ h1) .nil)
 ·cases h
theorem Xy7:sK (wkL bC) 12=OZ:=by
 show lnS (wkL bC 11) (sK (wkL bC) 11)=OZ;rw [Qu9];show lnS (UF G7 3) VR=OZ;unfold lnS;rw [if_pos Qt4];exact Xl5
theorem Xb8:Sx.Enters Tryz.prog 9/\ ∀avs t,Wu4 avs=some t->UP VQ 9 avs t:=by
 refine ⟨(UJ Tryz.func9),?_⟩;intro avs t h;unfold Wu4 at h;split at h
 ·rename_i f d;split at h
  ·rename_i hd;subst hd;cases h;intro Q hQ;have h2:sF 11 f (λk=>[.x (.string ((UF U5) k))]):=hQ.1
   intro e w args q1 q2 q3 q4;have h1:=BS 11 (UF U5) 1 VL;rw [yP] at h1;have hn:VR.nc=1:=VX;have hc:G8 (stP VR 1) 1=0:=by rw [FU Zx4];rfl
   refine RC h1 (sp:= .leaf (.tup [.lst 1 0 (λ_=>[]),i 0])) (λQ hq=>⟨λh=>?_,λ_=>⟨λh=>absurd h (by decide),λ_=>?_⟩⟩) Q hQ.2 e w args q1 q2 ?_ ?_
   ·exact VG
   ·exact VJ
   ·exact V8
   ·exact VD
  ·split at h
   ·rename_i hd;subst hd;cases h;intro Q hQ;have h2:sF 11 f (λk=>[.x (.string ((UF U5) k))]):=hQ.1
    intro e w args q1 q2 q3 q4;have h1:=BS 11 (UF U5) 10001 VL;refine RC h1 (sp:= .leaf (.tup [.x (.slice none 0 0),i 2])) (λQ hq=>⟨λh=>?_,λ_=>⟨λ_=>⟨.tup [.x (.slice none 0 0),i 2],⟨rfl,⟨rfl,rfl⟩,Ak⟩,hq⟩,λh=>absurd h (by decide)⟩⟩) Q hQ.2 e w args q1 q2 ?_ ?_
    ·exact VG
    ·exact V8
    ·exact VD
   ·cases h
 ·rename_i f d;split at h
  ·rename_i hd;subst hd;cases h;intro Q hQ;have h2:sF 12 f (λk=>[.x (.string (wkL bC k))]):=hQ.1
   intro e w args q1 q2 q3 q4;have h1:=BS 12 (wkL bC) 0 VL;rw [Xy7] at h1;have hn:OZ.nc=1:=VX;have hc:G8 (stP OZ 0) 1=0:=by rw [FU Zx3];rfl
   refine RC h1 (sp:= .leaf (.tup [.lst 1 0 (λ_=>[]),i 0])) (λQ hq=>⟨λh=>?_,λ_=>⟨λh=>absurd h (by decide),λ_=>?_⟩⟩) Q hQ.2 e w args q1 q2 ?_ ?_
   ·rw [Qv0 (show bC.size<=200 by decide)] at h
    exact absurd h (by decide)
   ·exact VJ
   ·exact V8
   ·obtain ⟨u,us,rfl,r1,r2⟩:=q4.cons_inv;exact .cons (FW (a:= .lst 1 12 f) ⟨rfl,rfl,h2⟩ r1) r2
  ·cases h
 ·cases h
theorem Xc0:Sx.Enters Tryz.prog 11/\ ∀avs t,Wu5 avs=some t->UP VQ 11 avs t:=by
 refine ⟨(UJ Tryz.func11),?_⟩;intro avs t h;unfold Wu5 at h;split at h
 ·rename_i f d;split at h
  ·rename_i hd;subst hd;cases h;intro Q hQ;have h2:sF 11 f (λk=>[.x (.string ((UF U5) k))]):=hQ.1
   intro e w args q1 q2 q3 q4;have h1:=NR 11 (UF U5) 101 VL;refine RC h1 (sp:= .leaf (.tup [.x (.slice none 0 0),.x (.slice none 0 0),i 2])) (λQ hq=>⟨λh=>?_,λ_=>⟨λ_=>⟨.tup [.x (.slice none 0 0),.x (.slice none 0 0),i 2],⟨rfl,rfl,⟨rfl,rfl⟩,Ak⟩,hq⟩,λh=>absurd h (by decide)⟩⟩) Q hQ.2 e w args q1 q2 ?_ ?_
   ·exact VG
   ·exact V8
   ·exact VD
  ·cases h
 ·cases h
theorem Xk3:VZ VQ 3 [] (bl true):=by
 refine G9 (L:=[]) (Ae aW (Ae Xb9 (Ae oR (Ae Qv3 Aa)))) (Aj Ab Ac (Ah Xb8 (Ah Xc0 (UB.nil _)))) U0 Tryz.func3 (UV Tryz.f3) G4 (t:=need [sF 11 (J0) λk=>[FR (UF U5 k)]] (need [1=1,[XL]=[FR (lnF (U8 1 [XL]) 0)]] (need [sF 12 (λk=>[AV.x (.string (wkL (lnF (U8 1 [XL]) 0) k))]) λk=>[FR (wkL bC k)]] (need [sF 11 (J0) λk=>[FR (UF U5 k)]] (need [sF 11 (J0) λk=>[FR (UF U5 k)]] (need [(0:Int)<=51/\(51:Int)<=1000000,U1 (51:Int)] (need [sF 51 (λx=>List.map AV.x (Array.toList (Value.cells (Value.string {data:=#[] })))) λk=>[FR (noE k)]] (branch ((0:Int) != 0) (leaf (RV.x (W6))) (branch ((↑(0:Nat):Int) != 0) (leaf (RV.x (W6))) (branch ((0:Int) != 0) (leaf (RV.x (W6))) (branch ((↑(0:Nat):Int) != 0) (leaf (RV.x (W6))) (branch ((2:Int) != 2) (leaf (RV.x (W6))) (branch ((2:Int) != 2) (leaf (RV.x (W6))) (branch ((3:Int) != 3) (leaf (RV.x (W6))) (need [ByteArray.size {data:=#[116,104,114,101,97,100,32,52,32,52,32,49,32,49] }<=200] (branch (lnE {data:=#[116,104,114,101,97,100,32,52,32,52,32,49,32,49] } VR==2) (need [ByteArray.size {data:=#[116,104,114,101,97,100,32,48,32,48,32,53,32,52] }<=200] (branch (lnE {data:=#[116,104,114,101,97,100,32,48,32,48,32,53,32,52] } VR==2) (need [ByteArray.size {data:=#[115,116,114,105,107,101,32,50] }<=200] (branch (lnE {data:=#[115,116,114,105,107,101,32,50] } VR==7) (need [ByteArray.size {data:=#[98,97,114,111,32,55,49,57,32,55,54,48] }<=200] (branch (lnE {data:=#[98,97,114,111,32,55,49,57,32,55,54,48] } VR==2) (need [ByteArray.size {data:=#[98,97,114,111,32,55,54,48,32,55,53,57] }<=200] (branch (lnE {data:=#[98,97,114,111,32,55,54,48,32,55,53,57] } VR==2) (need [ByteArray.size {data:=#[98,97,114,111,32,55,53,48,32,55,55,48] }<=200] (branch (lnE {data:=#[98,97,114,111,32,55,53,48,32,55,55,48] } VR==0) (need [ByteArray.size {data:=#[98,97,116,104,32,53,32,52] }<=200] (branch (lnE {data:=#[98,97,116,104,32,53,32,52] } VR==2) (need [ByteArray.size {data:=#[98,97,116,104,32,48,32,49,48,48,49] }<=200] (branch (lnE {data:=#[98,97,116,104,32,48,32,49,48,48,49] } VR==2) (need [ByteArray.size {data:=#[115,101,101,32,51,32,49,48,48] }<=200] (branch (lnE {data:=#[115,101,101,32,51,32,49,48,48] } VR==7) (need [ByteArray.size {data:=#[115,101,101,32,50,32,57,57,57,57] }<=200] (branch (lnE {data:=#[115,101,101,32,50,32,57,57,57,57] } VR==6) (need [ByteArray.size {data:=#[115,101,101,32,48,32,50,48,48,49] }<=200] (branch (lnE {data:=#[115,101,101,32,48,32,50,48,48,49] } VR==2) (need [ByteArray.size {data:=#[115,101,101,32,48,32,50,52,57] }<=200] (branch (lnE {data:=#[115,101,101,32,48,32,50,52,57] } VR==0) (need [ByteArray.size {data:=#[105,115,115,117,101,32,48,32,53,32,57,48,32,48] }<=200] (branch (lnE {data:=#[105,115,115,117,101,32,48,32,53,32,57,48,32,48] } VR==2) (need [ByteArray.size {data:=#[105,115,115,117,101,32,48,32,52,32,57,48,32,49,48,48,48,49] }<=200] (branch (lnE {data:=#[105,115,115,117,101,32,48,32,52,32,57,48,32,49,48,48,48,49] } VR==2) (need [ByteArray.size {data:=#[105,115,115,117,101,32,48,32,52,32,57,48,32,49] }<=200] (branch (lnE {data:=#[105,115,115,117,101,32,48,32,52,32,57,48,32,49] } VR==10) (need [ByteArray.size {data:=#[105,115,115,117,101,32,48,32,52,32,49,48,48,32,51,51,51] }<=200] (branch (lnE {data:=#[105,115,115,117,101,32,48,32,52,32,49,48,48,32,51,51,51] } VR==0) (need [ByteArray.size {data:=#[118,111,105,100,32,49] }<=200] (branch (lnE {data:=#[118,111,105,100,32,49] } VR==7) (need [ByteArray.size {data:=#[115,101,108,108,32,48,32,48,32,49,32,49,32,49] }<=200] (branch (lnE {data:=#[115,101,108,108,32,48,32,48,32,49,32,49,32,49] } VR==2) (need [ByteArray.size {data:=#[115,101,108,108,32,48,32,52,32,49,32,49,32,49] }<=200] (branch (lnE {data:=#[115,101,108,108,32,48,32,52,32,49,32,49,32,49] } VR==2) (need [ByteArray.size {data:=#[115,101,108,108,32,48,32,51,32,53,32,49,32,57] }<=200] (branch (lnE {data:=#[115,101,108,108,32,48,32,51,32,53,32,49,32,57] } VR==9) (need [ByteArray.size {data:=#[115,101,108,108,32,48,32,51,32,52,32,49,32,57] }<=200] (branch (lnE {data:=#[115,101,108,108,32,48,32,51,32,52,32,49,32,57] } VR==0) (need [ByteArray.size {data:=#[118,111,105,100,32,48,48] }<=200] (branch (lnE {data:=#[118,111,105,100,32,48,48] } VR==4) (need [ByteArray.size {data:=#[118,111,105,100] }<=200] (branch (lnE {data:=#[118,111,105,100] } VR==4) (need [ByteArray.size {data:=#[] }<=200] (branch (lnE {data:=#[] } VR==4) (need [ByteArray.size {data:=#[98,97,114,111,32,55,53,48,32,55,55,48,32,49] }<=200] (branch (lnE {data:=#[98,97,114,111,32,55,53,48,32,55,55,48,32,49] } VR==4) (leaf (RV.x (.bool true))) (leaf (RV.x (W6))))) (leaf (RV.x (W6))))) (leaf (RV.x (W6))))) (leaf (RV.x (W6))))) (leaf (RV.x (W6))))) (leaf (RV.x (W6))))) (leaf (RV.x (W6))))) (leaf (RV.x (W6))))) (leaf (RV.x (W6))))) (leaf (RV.x (W6))))) (leaf (RV.x (W6))))) (leaf (RV.x (W6))))) (leaf (RV.x (W6))))) (leaf (RV.x (W6))))) (leaf (RV.x (W6))))) (leaf (RV.x (W6))))) (leaf (RV.x (W6))))) (leaf (RV.x (W6))))) (leaf (RV.x (W6))))) (leaf (RV.x (W6))))) (leaf (RV.x (W6))))) (leaf (RV.x (W6))))) (leaf (RV.x (W6))))) (leaf (RV.x (W6))))) (leaf (RV.x (W6))))))))))))))))))) VX ?_
 simp only [VO.sat,UE,G5,GL,UH,UK,VN,FF,nm_0,nm_1,nm_2,nm_3,nm_4,nm_5,nm_6,nm_7,nm_8,nm_9,Zy9,Zy8,Zy7,Zy6,Zy5,Zy4,Zy3,Zy2,Zy1,Zy0,Zx9,Zx8,Zx7,Zx6,Zx5]
 (with_reducible repeat' first|apply Al|intro _)
 all_goals first|exact Ak|contradiction|omega|rfl|decide|(intro j _;rfl)|(exfalso;rename_i h9;simp at h9;done)|trace_state
end Go.Proofs.YtakpdkmhclhlnaaGreatDoor.Hd
