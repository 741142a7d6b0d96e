/- Contracts, put together. Conditions: those of each. -/
import Derived.Test.YtlclobclmfhlmaaGreatDoorMn
import Derived.Shelf.Strings.Builder1
import Derived.Shelf.Strings.Builder2
import Derived.Shelf.Strings.OnBuilder
set_option linter.unusedSimpArgs false
set_option linter.unusedVariables false
set_option maxRecDepth 100000
namespace Go.Proofs.YtlclobclmfhlmaaGreatDoor.Hd
open Go Go.Shelf Go.Sx Go.RowKit
def pN:Go.Shelf.Ren:=⟨λ| 169=>47|n=>n,λ| 70=>108| 72=>110| 37=>45| 127=>170|n=>n,λn=>n⟩
theorem Zm3:Go.Proofs.Lays.n169 Tryz.prog pN:=by
 constructor<;>first|(intro _;kernel_rfl)|kernel_rfl|(constructor<;>first|(intro _;kernel_rfl)|kernel_rfl|(constructor<;>first|(intro _;kernel_rfl)|kernel_rfl))
def rO:Go.Shelf.Ren:=⟨λ| 156=>74| 165=>100| 166=>42| 169=>47| 240=>72| 241=>132| 276=>98| 277=>171|n=>n,λ| 31=>22| 72=>110| 76=>114| 70=>108| 37=>45| 75=>113| 127=>170| 164=>199| 80=>130|n=>n,λn=>n⟩
theorem gV:Go.Proofs.Lays.n156 Tryz.prog rO:=by
 constructor<;>first|(intro _;kernel_rfl)|kernel_rfl|(constructor<;>first|(intro _;kernel_rfl)|kernel_rfl|(constructor<;>first|(intro _;kernel_rfl)|kernel_rfl))
theorem cG:Builder.Extra Tryz.prog rO where
 sizeBuilder:=VY
 liesBuilder:=VY
 t5:=by first|exact Tryz.underlying5|kernel_rfl
 a5:=by first|exact Tryz.isAgg5|kernel_rfl
 z5:=by first|exact Tryz.sizeOf5|(intros;rfl)
 v5:=by first|exact Tryz.zeroValue5|(intros;rfl)
 infoByte:=VY
 cellsByte:=VY
 sizeByte:=VY
 neB5:=by decide
def stO:List AV->ByteArray
 |[.x (.string s)]=>s
 |_=>ByteArray.empty
section
variable (n:Nat)(f:Nat->List AV)
def kN:Prop:= ∀k,k<n->f k=[.x (.string (stO (f k)))]
def jnB(sep:ByteArray):ByteArray:=⟨(Lib.join (((List.range n).map λk=>stO (f k)).map (·.data.toList)) sep.data.toList).toArray⟩
theorem Xj7(sep:ByteArray)(h0:n<=100000)(h1:kN n f)(h2:(jnB n f sep).size<=140737488355328):U2 VT 74 [.lst 1 n f,.x (.string sep)] (.x (.string (jnB n f sep))):=by
 intro e w args hro hgl FS hr;obtain ⟨u,us,rfl,r1,hr⟩:=hr.cons_inv;obtain ⟨u2,us2,rfl,r2,hr⟩:=hr.cons_inv;obtain rfl:=hr.nil_inv;obtain rfl:=r2.x_inv;cases r1 with
 |lstNil=>
  refine Calls.mono (Any.strings_Join_none gV cG none 0 sep w) ?_;rintro en w' ⟨rfl,rfl⟩;exact ⟨_,rfl,Below.refl _ _,.x _⟩
 |lst _ _ _ b o cap g g1 g2 g3 g4 g5 g6 g7 g8 ad had=>
  have hl:((List.range n).map λk=>stO (f k)).length=n:=VZ
  rcases Nat.eq_zero_or_pos n with rfl|I
  ·refine Calls.mono (Any.strings_Join_none gV cG (some ad) cap sep w) ?_;rintro en w' ⟨rfl,rfl⟩;exact ⟨_,rfl,Below.refl _ _,.x _⟩
  ·rw [had I];have h:=Any.strings_Join gV cG b o cap ((List.range n).map λk=>stO (f k)) sep w (λj x hj=>by
    have hj1:=(FY.1 hj).1;have hj2:j<n:=VO;rw [Bn,List.getElem?_range hj2] at hj;simp only [Bt,HJ] at hj;have k1:=g6 j 0 hj2 VO;have k2:=(g8 j 0 (.x (.string (stO (f j)))) hj2 (by rw [h1 j hj2];rfl)).x_inv
    have e0:o+(j*1+0)=o+j:=VO;rw [e0,k2,hj] at k1;exact k1) (g2 I) (by rw [hl];omega) (by rw [hl];exact g4) (by
     have e:(Lib.join (((List.range n).map λk=>stO (f k)).map (·.data.toList)) sep.data.toList).length=(jnB n f sep).size:=rfl
     rw [e];exact h2)
   rw [hl] at h;refine Calls.mono h ?_;rintro en w' ⟨rfl,hb⟩;exact ⟨_,rfl,hb,.x _⟩
end
def fW:G0
 |[.lst 1 n f,.x (.string sep)]=>some ([n<=100000,kN n f,(jnB n f sep).size<=140737488355328],.x (.string (jnB n f sep)))
 |_=>none
theorem Qe3:VU VT 74 fW:=by
 refine ⟨(UM Tryz.func74),?_⟩;intro avs ns res h I;unfold fW at h;split at h
 ·cases h;exact Xj7 _ _ _ (I _ VZ) (I _ VZ) (I _ VZ)
 ·cases h
def Xr3:D7:=λavs m nx sv=>match avs with
 |[.ptr q 0]=>match DL m q with
  |some (.cells T l)=>match l with
   |[.x (.pointer none),c]=>match Nat.beq T 110 with
    |true=>some (.leaf (.tup [],qP m q (.cells T [.ptr q 0,c]),nx,sv))
    |false=>none
   |[.ptr q' 0,c]=>match Nat.beq T 110&&Nat.beq q q' with
    |true=>some (.leaf (.tup [],m,nx,sv))
    |false=>none
   |_=>none
  |_=>none
 |_=>none
theorem Zq2:GG VT 72 Xr3:=by
 refine ⟨(UM Tryz.func72),?_⟩;intro avs m nx sv tr W Q hQ cx w0 TT e ds args w hE hB hm hlv LU hxt hr;unfold Xr3 at W;split at W
 ·rename_i q;obtain ⟨v0,l1,rfl,r1,hr⟩:=hr.cons_inv;obtain rfl:=hr.nil_inv;have hv0:v0= .pointer (some ⟨e.blk q,0,none⟩):=by cases r1;rfl
  subst hv0;split at W
  ·rename_i T l hg;split at W
   ·rename_i c;split at W
    ·rename_i hb;obtain rfl:=H4 hb;cases W;obtain ⟨h1,h2,vs,h3,h4⟩:=hm _ (G5 hg);obtain ⟨p,us,rfl,t1,h4⟩:=h4.cons_inv;obtain ⟨v,us,rfl,t2,h4⟩:=h4.cons_inv;obtain rfl:=h4.nil_inv;obtain rfl:=t1.x_inv
     dsimp only at h1 h2 h3
     have hc0:w.cell? ⟨e.blk q,0,none⟩=some (.pointer none):=by simp [World.cell?,h3]
     refine Calls.mono (Any.Builder_copyCheck_fresh {gV with} cG.toX72 (e.blk q) w hc0 (by simp [World.shape?,h3];rfl) (by simp [World.frozen?,h3])) ?_
     rintro en w' ⟨rfl,rfl⟩;have L2: ∀b,b≠e.blk q->(w.setCell ⟨e.blk q,0,none⟩ (.pointer (some ⟨e.blk q,0,none⟩))).heap[b]? =w.heap[b]? :=λb hb=>heap_setCell_other _ _ _ _ hb
     have hsz:(w.setCell ⟨e.blk q,0,none⟩ (.pointer (some ⟨e.blk q,0,none⟩))).heap.size=w.heap.size:=VZ;have st:=FA hE h2 hsz L2;have fG:Below w0.heap.size w0 (w.setCell ⟨e.blk q,0,none⟩ (.pointer (some ⟨e.blk q,0,none⟩))):=hB.setCell (p:=⟨e.blk q,0,none⟩) (hE.owned _ _ h2).1 _;refine ⟨_,_,_,_,_,e,rfl,hQ,L7 hE hsz st,fG,?_,hlv,LU,hxt.step st,Rep.tupL (U7.nil _ _)⟩;intro p hp;rcases R0 hp with rfl|⟨hp,hne⟩
     ·refine ⟨h1,h2,[.pointer (some ⟨e.blk q,0,none⟩),v],?_,.cons (.ptr q 0 h1) (.cons (t2.step st) (.nil _ _))⟩;rw [heap_setCell_same w _ 0 _ _ _ h3];rfl
     ·exact P9 hE h2 hsz L2 hne (hm p hp)
    ·cases W
   ·rename_i q' c;split at W
    ·rename_i hb;rw [HE] at hb;obtain rfl:=H4 hb.1;obtain rfl:=H4 hb.2;cases W;obtain ⟨h1,h2,vs,h3,h4⟩:=hm _ (G5 hg);obtain ⟨p,us,rfl,t1,h4⟩:=h4.cons_inv;obtain ⟨v,us,rfl,t2,h4⟩:=h4.cons_inv;obtain rfl:=h4.nil_inv
     dsimp only at h1 h2 h3
     have hp:p= .pointer (some ⟨e.blk q,0,none⟩):=by cases t1;rfl
     subst hp;have hc0:w.cell? ⟨e.blk q,0,none⟩=some (.pointer (some ⟨e.blk q,0,none⟩)):=by simp [World.cell?,h3]
     refine Calls.mono (Any.Builder_copyCheck_used {gV with} cG.toX72 (e.blk q) w hc0) ?_
     rintro en w' ⟨rfl,rfl⟩;exact ⟨_,_,_,_,_,e,rfl,hQ,hE,hB,hm,hlv,LU,hxt,Rep.tupL (U7.nil _ _)⟩
    ·cases W
   ·cases W
  ·cases W
 ·cases W
set_option maxHeartbeats 1000000 in
theorem Qn4(b g cap:Nat)(p:Value)(cur:Array Value)(l:List UInt8)(w:World)(hbk:w.heap[b]? =some (.cells #[p,.slice (some ⟨g,0,none⟩) l.length cap] 110 (0,0)))(hg:w.heap[g]? =some (.cells cur 5 (0,0)))(h0:l≠[])(hnc:l.length<=cap)(hcm:cap<=maxLen)(hcs:cur.size=cap)
  (PV: ∀j x,l[j]? =some x->w.cell? ⟨g,j,none⟩=some (.int .u8 x.toNat)):
  Calls Tryz.prog 47 #[.pointer (some ⟨b,0,none⟩)] w λe w'=>e= .returned (.string ⟨l.toArray⟩)/\w'=w.drew.freeze ⟨g,0,none⟩ l.length:=by
 have c1:w.drew.cell? ⟨b,1,none⟩=some (.slice (some ⟨g,0,none⟩) l.length cap):=by
  have:w.drew.heap[b]? =some (.cells #[p,.slice (some ⟨g,0,none⟩) l.length cap] 110 (0,0)):=hbk;simp [World.cell?,this]
 have hl0:l.length≠0:=by simpa using h0
 have hSD:(Builtin.unsafeSliceData_ #[45] 170 #[.slice (some ⟨g,0,none⟩) l.length cap]).run Tryz.prog w.drew= .ok (.pointer (some ⟨g,0,none⟩)) w.drew:=
  Lib.run_unsafeSliceData_row _ _ _ _ _ _ VO
 have hUS:(Builtin.unsafeString_ #[170,3] 9 #[.pointer (some ⟨g,0,none⟩),.int .i64 l.length]).run Tryz.prog w.drew= .ok (.string ⟨l.toArray⟩) (w.drew.freeze ⟨g,0,none⟩ l.length):=by
  refine Lib.run_unsafeString_row w.drew 170 3 9 5 Zm3.t127 VY g cur.size (by have hg':w.drew.heap[g]? =some (.cells cur 5 (0,0)):=hg;simp [World.shape?,hg']) l h0 VO (by unfold maxLen at hcm;omega) ?_
  intro j x hx;have e:(⟨g,0,none⟩:Addr).add j=⟨g,j,none⟩:=by rw [DG,Ap]
  rw [e];exact PV j x hx
 have GW:Tryz.prog.follows .mixedOrders=true:=U3
 go_enter Tryz.func47,Tryz.ntmps47
 go_wp2
 go_region_o
 all_goals (go_wp2;go_ret;exact ⟨rfl,rfl⟩)
def Xd5:D7:=λavs m nx sv=>match avs with
 |[.ptr q 0]=>match DL m q with
  |some (.cells T l)=>match l with
   |[_,.row r]=>match DL m r with
    |some (.row T1 sz n f)=>match Nat.beq T 110&&Nat.beq T1 5&&Nat.beq sz 1 with
     |true=>some (.needT [wO n f,0<n] (.leaf (.x (.string (bsO n f)),[],nx,sv)))
     |false=>none
    |_=>none
   |_=>none
  |_=>none
 |_=>none
theorem aU(w:World)(g n x:Nat)(h:x≠g):(w.freeze ⟨g,0,none⟩ n).heap[x]? =w.heap[x]? :=by
 unfold World.freeze;split
 ·rfl
 ·show (w.heap.modify g _)[x]? =_;rw [Array.getElem?_modify];rw [if_neg (λe=>h e.symm)]
theorem lT(w:World)(g n:Nat):(w.freeze ⟨g,0,none⟩ n).heap.size=w.heap.size:=by
 unfold World.freeze;split
 ·rfl
 ·show (w.heap.modify g _).size=_;simp
theorem Qu0(w:World)(g n:Nat):(w.freeze ⟨g,0,none⟩ n).os=w.os/\(w.freeze ⟨g,0,none⟩ n).tape=w.tape/\(w.freeze ⟨g,0,none⟩ n).output=w.output:=by
 unfold World.freeze;split<;>exact ⟨rfl,rfl,rfl⟩
theorem yB:GG VT 47 Xd5:=by
 refine ⟨(UM Tryz.func47),?_⟩;intro avs m nx sv tr W Q hQ cx w0 TT e ds args w hE hB hm hlv LU hxt hr;unfold Xd5 at W;split at W
 ·rename_i q;obtain ⟨v0,l1,rfl,r1,hr⟩:=hr.cons_inv;obtain rfl:=hr.nil_inv;have hv0:v0= .pointer (some ⟨e.blk q,0,none⟩):=by cases r1;rfl
  subst hv0;split at W
  ·rename_i T l hg;split at W
   ·rename_i a r;split at W
    ·rename_i T1 sz n f hg2;split at W
     ·rename_i hb;rw [HE,HE] at hb;obtain ⟨⟨hb1,hb2⟩,hb3⟩:=hb;obtain rfl:=H4 hb1;obtain rfl:=H4 hb2;obtain rfl:=H4 hb3;cases W;obtain ⟨I,hq⟩:=VR.sat_needT hQ;have I:=GH I;have n1:wO n f:=I _ VZ;have n2:0<n:=I _ VZ;obtain ⟨h1,h2,vs,h3,h4⟩:=hm _ (G5 hg);obtain ⟨p,us,rfl,t1,h4⟩:=h4.cons_inv;obtain ⟨v,us,rfl,t2,h4⟩:=h4.cons_inv;obtain rfl:=h4.nil_inv
      dsimp only at h1 h2 h3
      obtain ⟨k1,k2,k3,xs,k4,k5⟩:=hm _ (G5 hg2)
      dsimp only at k1 k2 k3 k4 k5
      have hv:e.val r=v:=by
       cases t2 with
       |row _ a n c _ hv=>exact hv
      rw [hv] at k2 k4;rcases k4.2 with ⟨_,hz⟩|⟨g,cap,cur,rfl,hbg,hgg,hnc,hcm,hcs,kP⟩
      ·omega
      ·have HC:e.own g=some r:=k2 g rfl;have D1:((List.range n).map λj=>UInt8.ofNat (byO (f j))).length=n:=VZ
       have h0:((List.range n).map λj=>UInt8.ofNat (byO (f j)))≠[]:=by
        intro h;rw [h] at D1;simp at D1;omega
       have PV: ∀j x,((List.range n).map λj=>UInt8.ofNat (byO (f j)))[j]? =some x->w.cell? ⟨g,j,none⟩=some (.int .u8 x.toNat):=by
        intro j x hj;have hj1:j<n:=by have:=(FY.1 hj).1;omega
        rw [Bn,List.getElem?_range hj1] at hj;simp only [Bt,HJ] at hj;have hxl:xs.length=n:=by have:=k4.1;omega
        have hc1:=k4.cells (g:=g) rfl j xs[j] (D5 VO);have e1:(⟨g,0,none⟩:Addr).add j=⟨g,j,none⟩:=by rw [DG,Ap]
        rw [e1] at hc1;have hc2:=(k5 j 0 (.x (.int .u8 (byO (f j):Int))) xs[j] hj1 (by rw [(n1 j hj1).2];rfl) (by rw [show j*1+0=j by omega];exact D5 VO)).x_inv
        rw [hc1,hc2,←hj,UInt8.toNat_ofNat_of_lt' (n1 j hj1).1]
       have FM:=Qn4 (e.blk q) g cap p cur ((List.range n).map λj=>UInt8.ofNat (byO (f j))) w (by rw [D1];exact h3) hgg h0 (by rw [D1];exact hnc) hcm (by simpa using hcs) PV
       refine FM.mono ?_;rintro en w' ⟨rfl,rfl⟩;rw [D1];have L2: ∀x,x≠g->(w.drew.freeze ⟨g,0,none⟩ n).heap[x]? =w.heap[x]? :=λx hx=>aU w.drew g n x hx
       have hsz:(w.drew.freeze ⟨g,0,none⟩ n).heap.size=w.heap.size:=lT w.drew g n;have hos:=Qu0 w.drew g n;have st:=FA hE HC hsz L2;refine ⟨_,_,_,_,_,e,rfl,hq,L7 hE hsz st,⟨hos.1.trans hB.os,hos.2.1.trans hB.tape,hos.2.2.trans hB.output,by rw [hsz];exact hB.size,λx hx=>?_⟩,λp hp=>(by cases hp),hlv,LU,hxt.step st,.x _⟩
       rw [L2 x (by have:=(hE.owned _ _ HC).1;omega)]
       exact hB.block x hx
     ·cases W
    ·cases W
   ·cases W
  ·cases W
 ·cases W
end Go.Proofs.YtlclobclmfhlmaaGreatDoor.Hd
namespace Go.Proofs.YtlclobclmfhlmaaGreatDoor.Hd
open Go Go.Sx Go.RowKit Bo
open Go.Sx.VR (need branch leaf)
open Go.Sx.AV (lst ptr agg roI tup top)
def UC:List ByteArray:=[⟨#[116,104,114,101,97,100,32,48,32,49,32,52,48,32,52,48]⟩,⟨#[116,104,114,101,97,100,32,50,32,51,32,52,56,32,53,48]⟩,⟨#[105,115,115,117,101,32,48,32,52,32,57,48,32,48]⟩,⟨#[98,97,116,104,32,49,48,48,32,51,48,48]⟩,⟨#[115,101,101,32,48,32,50,48,48]⟩,⟨#[115,101,101,32,49,32,50,48,51]⟩,⟨#[98,97,116,104,32,49,48,48,32,51,48,48]⟩,⟨#[115,101,101,32,49,32,50,53,50]⟩,⟨#[115,101,101,32,50,32,50,53,48]⟩,⟨#[115,101,108,108,32,48,32,49,32,54,32,49,32,51]⟩,⟨#[115,101,108,108,32,49,32,50,32,52,32,50,32,50]⟩]
def GD:List ByteArray:=[⟨#[116,104,114,101,97,100,32,48,32,50,32,52,48,32,52,48]⟩,⟨#[105,115,115,117,101,32,48,32,52,32,56,48,32,48]⟩,⟨#[115,101,101,32,48,32,49,48,48]⟩,⟨#[115,116,114,105,107,101,32,49]⟩,⟨#[118,111,105,100,32,48]⟩]
def UR(l:List ByteArray)(k:Nat):ByteArray:=l.getD k ByteArray.empty
def wk1:HS:=thS hs0 0 1 40 40
def wk2:HS:=thS wk1 2 3 48 50
def wk3:HS:=isS wk2 0 4 90 0
def wk4:HS:=btS wk3 100 300
def wk5:HS:=seS wk4 0 200
def wk6:HS:=seS wk5 1 203
def wk7:HS:=btS wk6 100 300
def wk8:HS:=seS wk7 1 252
def wk9:HS:=seS wk8 2 250
def Qn0:HS:=slS wk9 0 1 6 1 3
def U0:HS:=slS Qn0 1 2 4 2 2
theorem Wa7:lnE (UR UC 0) hs0=0:=by decide+kernel
theorem Xt3:FB (lnW (UR UC 0)) hs0=wk1:=VY
theorem Wa6:lnE (UR UC 1) wk1=0:=by decide+kernel
theorem Xt2:FB (lnW (UR UC 1)) wk1=wk2:=VY
theorem Wa5:lnE (UR UC 2) wk2=0:=by decide+kernel
theorem Xt1:FB (lnW (UR UC 2)) wk2=wk3:=VY
theorem Wa4:lnE (UR UC 3) wk3=0:=by decide+kernel
theorem Xt0:FB (lnW (UR UC 3)) wk3=wk4:=VY
theorem Wa3:lnE (UR UC 4) wk4=0:=by decide+kernel
theorem Xs9:FB (lnW (UR UC 4)) wk4=wk5:=VY
theorem Wa2:lnE (UR UC 5) wk5=0:=by decide+kernel
theorem Xs8:FB (lnW (UR UC 5)) wk5=wk6:=VY
theorem Wa1:lnE (UR UC 6) wk6=0:=by decide+kernel
theorem Xs7:FB (lnW (UR UC 6)) wk6=wk7:=VY
theorem Wa0:lnE (UR UC 7) wk7=0:=by decide+kernel
theorem Xs6:FB (lnW (UR UC 7)) wk7=wk8:=VY
theorem Qz9:lnE (UR UC 8) wk8=0:=by decide+kernel
theorem Xs5:FB (lnW (UR UC 8)) wk8=wk9:=VY
theorem Qz8:lnE (UR UC 9) wk9=0:=by decide+kernel
theorem Xs4:FB (lnW (UR UC 9)) wk9=Qn0:=VY
theorem nW:lnE (UR UC 10) Qn0=0:=by decide+kernel
theorem Qz0:FB (lnW (UR UC 10)) Qn0=U0:=VY
theorem Xt5:boE U0.nb U0.ql U0.qh U0.qm U0.qr U0.qv=0:=by decide+kernel
theorem Xt4:boN U0.nb U0.ql U0.qh U0.qm U0.qr U0.qv=3:=by decide+kernel
theorem Qz3:boL U0.nb U0.ql U0.qh U0.qm U0.qr U0.qv 0=0:=by decide+kernel
theorem Qz6:boH U0.nb U0.ql U0.qh U0.qm U0.qr U0.qv 0=0:=by decide+kernel
theorem Qz2:boL U0.nb U0.ql U0.qh U0.qm U0.qr U0.qv 1=1:=by decide+kernel
theorem Qz5:boH U0.nb U0.ql U0.qh U0.qm U0.qr U0.qv 1=5:=by decide+kernel
theorem Qz1:boL U0.nb U0.ql U0.qh U0.qm U0.qr U0.qv 2= -3:=by decide+kernel
theorem Qz4:boH U0.nb U0.ql U0.qh U0.qm U0.qr U0.qv 2=5:=by decide+kernel
theorem Qy9:stP U0 0 0=true:=by decide+kernel
theorem Qz7:jF U0.ns U0.sa U0.sb U0.sc U0.sl U0.sh=true:=by decide+kernel
theorem Wa9:caB U0.ns U0.sa U0.sb U0.sc U0.sl U0.sh 1 0=true:=by decide+kernel
theorem Wa8:caB U0.ns U0.sa U0.sb U0.sc U0.sl U0.sh 1 1=true:=by decide+kernel
theorem Zf2:caB U0.ns U0.sa U0.sb U0.sc U0.sl U0.sh 1 2=false:=by decide+kernel
theorem Zf1:caB U0.ns U0.sa U0.sb U0.sc U0.sl U0.sh 1 3=false:=by decide+kernel
theorem Qy8:suB U0.ns U0.sa U0.sb U0.sc U0.sl U0.sh 1 0=true:=by decide+kernel
theorem Zd5:suB U0.ns U0.sa U0.sb U0.sc U0.sl U0.sh 1 1=false:=by decide+kernel
theorem Zd4:suB U0.ns U0.sa U0.sb U0.sc U0.sl U0.sh 1 2=false:=by decide+kernel
theorem Zd3:suB U0.ns U0.sa U0.sb U0.sc U0.sl U0.sh 1 3=false:=by decide+kernel
theorem Zy6:hdN 4 100 20 30 U0.nr U0.ra U0.rb U0.ru U0.rv 3 tbP tbQ U0.pl U0.ph 1 3 0=5:=by decide+kernel
theorem Ze5:onL (wkA 4 100 20 30 U0.nr U0.ra U0.rb U0.ru U0.rv 3 tbP tbQ U0.pl U0.ph 1 3) 0 0=0:=by decide+kernel
theorem Zf0:onH (wkA 4 100 20 30 U0.nr U0.ra U0.rb U0.ru U0.rv 3 tbP tbQ U0.pl U0.ph 1 3) 0 0=0:=by decide+kernel
theorem Ze4:onL (wkA 4 100 20 30 U0.nr U0.ra U0.rb U0.ru U0.rv 3 tbP tbQ U0.pl U0.ph 1 3) 1 0=200:=by decide+kernel
theorem Ze9:onH (wkA 4 100 20 30 U0.nr U0.ra U0.rb U0.ru U0.rv 3 tbP tbQ U0.pl U0.ph 1 3) 1 0=300:=by decide+kernel
theorem Ze3:onL (wkA 4 100 20 30 U0.nr U0.ra U0.rb U0.ru U0.rv 3 tbP tbQ U0.pl U0.ph 1 3) 2 0=410:=by decide+kernel
theorem Ze8:onH (wkA 4 100 20 30 U0.nr U0.ra U0.rb U0.ru U0.rv 3 tbP tbQ U0.pl U0.ph 1 3) 2 0=510:=by decide+kernel
theorem Ze2:onL (wkA 4 100 20 30 U0.nr U0.ra U0.rb U0.ru U0.rv 3 tbP tbQ U0.pl U0.ph 1 3) 3 0=700:=by decide+kernel
theorem Ze7:onH (wkA 4 100 20 30 U0.nr U0.ra U0.rb U0.ru U0.rv 3 tbP tbQ U0.pl U0.ph 1 3) 3 0=800:=by decide+kernel
theorem Ze1:onL (wkA 4 100 20 30 U0.nr U0.ra U0.rb U0.ru U0.rv 3 tbP tbQ U0.pl U0.ph 1 3) 4 0=1000:=by decide+kernel
theorem Ze6:onH (wkA 4 100 20 30 U0.nr U0.ra U0.rb U0.ru U0.rv 3 tbP tbQ U0.pl U0.ph 1 3) 4 0=1000:=by decide+kernel
theorem Ze0:(hoS U0.ns U0.sa U0.sb U0.sc U0.sl U0.sh 0 100).1=4:=by decide+kernel
theorem Zd9:(hoS U0.ns U0.sa U0.sb U0.sc U0.sl U0.sh 1 100).1=2:=by decide+kernel
theorem Zd8:(hoS U0.ns U0.sa U0.sb U0.sc U0.sl U0.sh 2 100).1=4:=by decide+kernel
theorem Zd7:(hoS U0.ns U0.sa U0.sb U0.sc U0.sl U0.sh 3 100).1=0:=by decide+kernel
def PP{α:Type}:VR α->VR α
 | .fail=> .fail
 | .leaf a=> .leaf a
 | .branch b t f=>match b with
  |true=>PP t
  |false=>PP f
 | .need ps t=> .need ps (PP t)
 | .may p t f=> .may p (PP t) (PP f)
def Xn6(sp:UN):UN:=λs=>match sp s with
 |some t=>some (PP t)
 |none=>none
section
variable (n:Nat)(f:Nat->List AV)
def byB:Bool:=DF (λj=>match f j with
 |[.x (.int .u8 c)]=>decide (0<=c)&&decide (c<256)
 |_=>false) n
def Ja1:Bool:=DF (λj=>match f j with
 |[.x (.string _)]=>true
 |_=>false) n
end
theorem HA{α:Type}{Q:α->Prop}: ∀{t:VR α},(PP t).sat Q->t.sat Q
 | .fail,h=>h
 | .leaf _,h=>h
 | .branch true _ _,h=>⟨λ_=>HA h,λe=>Bool.noConfusion e⟩
 | .branch false _ _,h=>⟨λe=>Bool.noConfusion e,λ_=>HA h⟩
 | .need _ _,h=>⟨h.1,HA h.2⟩
 | .may _ _ _,h=>⟨λp=>HA (h.1 p),HA h.2⟩
theorem Zp6{P:Program}{ro:Option Nat}{cx:Cx}{c:Code}{sp:UN}(h:HN P ro cx c sp):HN P ro cx c (Xn6 sp):=by
 intro n s t W Q hQ a w r;unfold Xn6 at W;split at W
 ·rename_i t0 h0;cases W;exact h n s t0 h0 Q (HA hQ) a w r
 ·cases W
section
variable {n:Nat}{f:Nat->List AV}
theorem sZ(h:byB n f=true):wO n f:=by
 intro j hj;have h1:=GY.1 h j hj;split at h1
 ·rename_i c hc;rw [HE,y6,y6] at h1;rw [hc];have e:byO [.x (.int .u8 c)]=c.toNat:=rfl;rw [e];refine ⟨VO,?_⟩;rw [show ((c.toNat:Nat):Int)=c by omega]
 ·cases h1
theorem cQ(h:Ja1 n f=true):kN n f:=by
 intro j hj;have h1:=GY.1 h j hj;split at h1
 ·rename_i s hc;rw [hc];rfl
 ·cases h1
end
noncomputable def Xd7:D7:=AC Tryz.prog [] {R:=[],H:=[(72,Xr3)] } [] Tryz.f42 (UB Tryz.f42)
theorem Xp1:GG VT 42 Xd7:=
 RP (G:=[]) (X:={R:=[],H:=[(72,Xr3)] }) (L:=[]) Aa (Ai Ab (Ag Zq2 Ac)) U3 (UM Tryz.func42) Tryz.func42 (UY Tryz.f42) U8
noncomputable def r8:D7:=AC Tryz.prog [(73,fX),(74,fW)] WD [(Xn6 (λs=>some (yA Tryz.prog [(73,fX),(74,fW)] WD [] (UE (VX (UB Tryz.f43) 0)) 10 s)))] Tryz.f43 (UB Tryz.f43)
theorem lE:GG VT 43 r8:=
 RP (G:=[(73,fX),(74,fW)]) (X:=WD) (L:=[(Xn6 (λs=>some (yA Tryz.prog [(73,fX),(74,fW)] WD [] (UE (VX (UB Tryz.f43) 0)) 10 s)))]) (Ae aH (Ae Qe3 Aa)) Ad U3 (UM Tryz.func43) Tryz.func43 (UY Tryz.f43) (G4 (lpE (b:= .loop (UE (VX (UB Tryz.f43) 0))) VY<|λro cx=>Zp6 (v6 (Ae aH (Ae Qe3 Aa)) (Ad cx) U3 (λj cj hj sp Z=>by simp at Z) 10)))
noncomputable def Xd6:D7:=AC Tryz.prog [] {R:=[],H:=[(43,r8),(42,Xd7)] } [] Tryz.f41 (UB Tryz.f41)
theorem xY:GG VT 41 Xd6:=
 RP (G:=[]) (X:={R:=[],H:=[(43,r8),(42,Xd7)] }) (L:=[]) Aa (Ai Ab (Ag lE (Ag Xp1 Ac))) U3 (UM Tryz.func41) Tryz.func41 (UY Tryz.f41) U8
def AQ:G0
 |[.x (.int .i64 a),.x (.int .i64 b)]=>some ([0<=a/\a<=1000\/ -1000<=a/\a<=1000,-1000<=b/\b<=1000,((⟨(Lib.itoa a).toArray⟩:ByteArray)++⟨#[46,46]⟩).size+(⟨(Lib.itoa b).toArray⟩:ByteArray).size<=100],.x (.string ((⟨(Lib.itoa a).toArray⟩++⟨#[46,46]⟩)++⟨(Lib.itoa b).toArray⟩)))
 |_=>none
theorem Wo9(a b:Int)(VW:0<=a/\a<=1000\/ -1000<=a/\a<=1000)(UK: -1000<=b/\b<=1000)(HY:((⟨(Lib.itoa a).toArray⟩:ByteArray)++⟨#[46,46]⟩).size+(⟨(Lib.itoa b).toArray⟩:ByteArray).size<=100):U2 VT 46 [i a,i b] (.x (.string ((⟨(Lib.itoa a).toArray⟩++⟨#[46,46]⟩)++⟨(Lib.itoa b).toArray⟩))):=by
 refine U6 (L:=[]) (Ae aH Aa) U3 Tryz.func46 (UY Tryz.f46) U8 (t:=need [VQ a] (need [(↑(ByteArray.size {data:=List.toArray (Lib.itoa a) }+ByteArray.size {data:=#[46,46] }):Int)<=9223372036854775807] (need [VQ b] (need [(↑(ByteArray.size ({data:=List.toArray (Lib.itoa a) }++{data:=#[46,46] })+ByteArray.size {data:=List.toArray (Lib.itoa b) }):Int)<=9223372036854775807] (leaf (RV.x (.string ({data:=List.toArray (Lib.itoa a) }++{data:=#[46,46] }++{data:=List.toArray (Lib.itoa b) })))))))) VY ?_;rw [Av] at HY;simp only [VR.sat,UF,GA,UI,UL,VQ,Av];all_goals exact VB
theorem xX:VU VT 46 AQ:=by
 refine ⟨(UM Tryz.func46),?_⟩;intro avs ns res h I;unfold AQ at h;split at h
 ·cases h;exact Wo9 _ _ (I _ VZ) (I _ VZ) (I _ VZ)
 ·cases h
def Zj1:ByteArray:=⟨#[114,101,97,100,105,110,103,115,32,50,32,98,97,116,104,115,32,50,32,99,101,114,116,105,102,105,99,97,116,101,115,32,49,32,115,97,108,101,115,32,50,10,109,97,114,107,115,32,48,46,46,48,32,50,48,48,46,46,51,48,48,32,52,49,48,46,46,53,49,48,32,55,48,48,46,46,56,48,48,32,49,48,48,48,46,46,49,48,48,48,10,111,102,102,115,101,116,115,32,48,46,46,48,32,49,46,46,53,32,45,51,46,46,53,10,115,116,97,110,100,32,48,10,104,111,108,100,32,52,32,50,32,52,32,48,10]⟩
def tX:G0:=λl=>some ([l=[lns 11 (UR UC)]],i 0)
def Qk7:DM:=λl=>some (.need [l=[lns 11 (UR UC)]] (.leaf (.tup [.ro (hsL U0),.lst 1 11 (exG (UR UC))])))
def Xb8:G0:=λl=>some ([l=[.agg [i 4,i 100,i 20,i 30,hsR U0,.lst 2 3 (λk=>[i (tbP k),i (tbQ k)]),i U0.pl,i U0.ph,i 1,i 3],i 0]],.tup [.lst 2 5 (λk=>[i (UD [0,200,410,700,1000] k),i (UD [0,300,510,800,1000] k)]),i 0])
def tV:G0:=λl=>some ([l=[.agg [ofs,i 1,hsB U0]]],.tup [.lst 2 3 (λk=>[i (UD [0,1,-3] k),i (UD [0,5,5] k)]),i 0])
def tQ:G0:=λl=>some ([l=[.agg (hsL U0),.agg [i (U0.ca 0),i (U0.cb 0),i (U0.cc 0),i (U0.cd 0),bl (U0.cv 0)],i (U0.cd 0)]],bl true)
def Xb7:DM:=λl=>match l with
 |[b,.x (.int .i64 ow),d]=>some (.need [b= .agg [i 4,i 10,hsS U0],d=i 100,0<=ow/\ow<=3] (.leaf (.tup [.agg [i (UD [4,2,4,0] ow.toNat),i (hoS U0.ns U0.sa U0.sb U0.sc U0.sl U0.sh ow 100).2],i 0])))
 |_=>none
theorem Zy5:sK (UR UC) 0=hs0:=rfl
theorem Zy4:sK (UR UC) 1=wk1:=by
 show lnS (UR UC 0) (sK (UR UC) 0)=_;rw [Zy5];unfold lnS;rw [if_pos Wa7];exact Xt3
theorem Zy3:sK (UR UC) 2=wk2:=by
 show lnS (UR UC 1) (sK (UR UC) 1)=_;rw [Zy4];unfold lnS;rw [if_pos Wa6];exact Xt2
theorem Zy2:sK (UR UC) 3=wk3:=by
 show lnS (UR UC 2) (sK (UR UC) 2)=_;rw [Zy3];unfold lnS;rw [if_pos Wa5];exact Xt1
theorem Zy1:sK (UR UC) 4=wk4:=by
 show lnS (UR UC 3) (sK (UR UC) 3)=_;rw [Zy2];unfold lnS;rw [if_pos Wa4];exact Xt0
theorem Zy0:sK (UR UC) 5=wk5:=by
 show lnS (UR UC 4) (sK (UR UC) 4)=_;rw [Zy1];unfold lnS;rw [if_pos Wa3];exact Xs9
theorem Zx9:sK (UR UC) 6=wk6:=by
 show lnS (UR UC 5) (sK (UR UC) 5)=_;rw [Zy0];unfold lnS;rw [if_pos Wa2];exact Xs8
theorem Zx8:sK (UR UC) 7=wk7:=by
 show lnS (UR UC 6) (sK (UR UC) 6)=_;rw [Zx9];unfold lnS;rw [if_pos Wa1];exact Xs7
theorem Zx7:sK (UR UC) 8=wk8:=by
 show lnS (UR UC 7) (sK (UR UC) 7)=_;rw [Zx8];unfold lnS;rw [if_pos Wa0];exact Xs6
theorem Zx6:sK (UR UC) 9=wk9:=by
 show lnS (UR UC 8) (sK (UR UC) 8)=_;rw [Zx7];unfold lnS;rw [if_pos Qz9];exact Xs5
theorem Zd6:sK (UR UC) 10=Qn0:=by
 show lnS (UR UC 9) (sK (UR UC) 9)=_;rw [Zx6];unfold lnS;rw [if_pos Qz8];exact Xs4
theorem AW:sK (UR UC) 11=U0:=by
 show lnS (UR UC 10) (sK (UR UC) 10)=_;rw [Zd6];unfold lnS;rw [if_pos nW];exact Qz0
theorem cJ:ckE 11 (UR UC)=0:=by decide+kernel
theorem yR:VU VT 30 tX:=by
 refine ⟨(UM Tryz.func30),?_⟩;intro avs ns res h I;cases h;have e:avs=[lns 11 (UR UC)]:=I _ GK;subst e;have h1:=OV 11 (UR UC) VO;rw [cJ] at h1;exact h1
theorem xR:Sx.Enters Tryz.prog 33/\ ∀avs t,Qk7 avs=some t->US VT 33 avs t:=by
 refine ⟨(UM Tryz.func33),?_⟩;intro avs t h;cases h;intro Q hQ;have e:avs=[lns 11 (UR UC)]:=hQ.1;subst e;have hk:=IX cJ;have h1:=l9 11 (UR UC) hk.1 (λk h=>by have:=hk.2 k h;omega) Q
 rw [AW] at h1;exact h1 hQ.2
theorem yO:P7 VT 44 Xb8:=by
 refine ⟨(UM Tryz.func44),?_⟩;intro avs ns res h I;cases h;have e:avs=[.agg [i 4,i 100,i 20,i 30,hsR U0,.lst 2 3 (λk=>[i (tbP k),i (tbQ k)]),i U0.pl,i U0.ph,i 1,i 3],i 0]:=I _ GK
 subst e;intro e w args q1 q2 q3 q4;refine (uQ 4 100 20 30 U0.nr U0.ra U0.rb U0.ru U0.rv 3 tbP tbQ U0.pl U0.ph 1 3 0 e w args q1 q2 q3 q4).mono ?_;rintro en w' ⟨v,rfl,g1,g2⟩;refine ⟨v,rfl,g1,L4 ?_ g2⟩;rw [show hdE 4 100 20 30 U0.nr U0.ra U0.rb U0.ru U0.rv 3 tbP tbQ U0.pl U0.ph 1 3 0=0 by decide+kernel]
 refine ⟨⟨rfl,Zy6,λk hk=>?_⟩,⟨rfl,rfl⟩,Ak⟩
 rcases (show k=0\/k=1\/k=2\/k=3\/k=4 by omega) with rfl|rfl|rfl|rfl|rfl
 ·show [i _,i _]=_;rw [Ze5,Zf0];rfl
 ·show [i _,i _]=_;rw [Ze4,Ze9];rfl
 ·show [i _,i _]=_;rw [Ze3,Ze8];rfl
 ·show [i _,i _]=_;rw [Ze2,Ze7];rfl
 ·show [i _,i _]=_;rw [Ze1,Ze6];rfl
theorem cI:rB U0:=by
 have h:=rK (UR UC) 11;rw [AW] at h;exact h
theorem yK:VU VT 35 tV:=by
 refine ⟨(UM Tryz.func35),?_⟩;intro avs ns res h I;cases h;have e:avs=[.agg [ofs,i 1,hsB U0]]:=I _ GK;subst e;intro e w args q1 q2 q3 q4;refine (kY U0.nb U0.ql U0.qh U0.qm U0.qr U0.qv cI.bV e w args q1 q2 q3 q4).mono ?_;rintro en w' ⟨v,rfl,g1,g2⟩;refine ⟨v,rfl,g1,L4 ?_ g2⟩;rw [Xt5];refine ⟨⟨rfl,Xt4,λk hk=>?_⟩,⟨rfl,rfl⟩,Ak⟩
 rcases (show k=0\/k=1\/k=2 by omega) with rfl|rfl|rfl
 ·show [i _,i _]=_;rw [Qz3,Qz6];rfl
 ·show [i _,i _]=_;rw [Qz2,Qz5];rfl
 ·show [i _,i _]=_;rw [Qz1,Qz4];rfl
theorem yC:VU VT 38 tQ:=by
 refine ⟨(UM Tryz.func38),?_⟩;intro avs ns res h I;cases h;have e:avs=[.agg (hsL U0),.agg [i (U0.ca 0),i (U0.cb 0),i (U0.cc 0),i (U0.cd 0),bl (U0.cv 0)],i (U0.cd 0)]:=I _ GK;subst e;have h1:=I8 U0 (U0.ca 0) (U0.cb 0) (U0.cc 0) (U0.cd 0) (U0.cv 0) (U0.cd 0);have h2:stB U0 (U0.ca 0) (U0.cb 0) (U0.cc 0) (U0.cd 0) (U0.cv 0) (U0.cd 0)=true:=by
  have h3:U0.cd 0=0:=VY;have h4:=Qy9;unfold stP at h4;rw [h3] at h4 ⊢;exact h4
 rw [h2] at h1;exact h1
theorem fE:Sx.Enters Tryz.prog 11/\ ∀avs t,Xb7 avs=some t->US VT 11 avs t:=by
 refine ⟨(UM Tryz.func11),?_⟩;intro avs t h;unfold Xb7 at h;split at h
 ·rename_i b ow d;cases h;intro Q hQ;obtain ⟨⟨e1,e2,e3,_⟩,hq⟩:=hQ;subst e1 e2;refine Qp2 U0.ns U0.sa U0.sb U0.sc U0.sl U0.sh ow 100 cI.sV Q ?_;have hb:(bt 0 ow 3&&bt 0 100 100)=true:=by
   rw [HE,Bo.bt_iff,Bo.bt_iff];omega
  refine ⟨λ_=>⟨λh=>?_,λ_=>?_⟩,λh=>Bool.noConfusion (hb.symm.trans h)⟩
  ·rw [Qz7] at h;exact Bool.noConfusion h
  ·have ho:(hoS U0.ns U0.sa U0.sb U0.sc U0.sl U0.sh ow 100).1=UD [4,2,4,0] ow.toNat:=by
    rcases (show ow=0\/ow=1\/ow=2\/ow=3 by omega) with rfl|rfl|rfl|rfl
    ·exact Ze0
    ·exact Zd9
    ·exact Zd8
    ·exact Zd7
   show Q _;rw [ho];exact hq
 ·cases h
def wvS(s:ByteArray):AV:= .x (.iface 9 (.string s))
def wvI(n:Int):AV:= .x (.iface 3 (.int .i64 n))
def H5(l:List AV)(k:Nat):List AV:=[l.getD k .top]
def wl0:List AV:=[wvS ⟨#[109,97,114,107,115]⟩,wvS ⟨#[48,46,46,48]⟩,wvS ⟨#[50,48,48,46,46,51,48,48]⟩,wvS ⟨#[52,49,48,46,46,53,49,48]⟩,wvS ⟨#[55,48,48,46,46,56,48,48]⟩,wvS ⟨#[49,48,48,48,46,46,49,48,48,48]⟩]
def wl1:List AV:=[wvS ⟨#[111,102,102,115,101,116,115]⟩,wvS ⟨#[48,46,46,48]⟩,wvS ⟨#[49,46,46,53]⟩,wvS ⟨#[45,51,46,46,53]⟩]
def wl2:List AV:=[wvS ⟨#[115,116,97,110,100]⟩,wvI 0]
def wl3:List AV:=[wvS ⟨#[104,111,108,100]⟩,wvI 4,wvI 2,wvI 4,wvI 0]
def rp0:ByteArray:=⟨#[114,101,97,100,105,110,103,115,32,50,32,98,97,116,104,115,32,50,32,99,101,114,116,105,102,105,99,97,116,101,115,32,49,32,115,97,108,101,115,32,50,10]⟩
def rp1:ByteArray:=⟨#[114,101,97,100,105,110,103,115,32,50,32,98,97,116,104,115,32,50,32,99,101,114,116,105,102,105,99,97,116,101,115,32,49,32,115,97,108,101,115,32,50,10,109,97,114,107,115,32,48,46,46,48,32,50,48,48,46,46,51,48,48,32,52,49,48,46,46,53,49,48,32,55,48,48,46,46,56,48,48,32,49,48,48,48,46,46,49,48,48,48,10]⟩
def rp2:ByteArray:=⟨#[114,101,97,100,105,110,103,115,32,50,32,98,97,116,104,115,32,50,32,99,101,114,116,105,102,105,99,97,116,101,115,32,49,32,115,97,108,101,115,32,50,10,109,97,114,107,115,32,48,46,46,48,32,50,48,48,46,46,51,48,48,32,52,49,48,46,46,53,49,48,32,55,48,48,46,46,56,48,48,32,49,48,48,48,46,46,49,48,48,48,10,111,102,102,115,101,116,115,32,48,46,46,48,32,49,46,46,53,32,45,51,46,46,53,10]⟩
def rp3:ByteArray:=⟨#[114,101,97,100,105,110,103,115,32,50,32,98,97,116,104,115,32,50,32,99,101,114,116,105,102,105,99,97,116,101,115,32,49,32,115,97,108,101,115,32,50,10,109,97,114,107,115,32,48,46,46,48,32,50,48,48,46,46,51,48,48,32,52,49,48,46,46,53,49,48,32,55,48,48,46,46,56,48,48,32,49,48,48,48,46,46,49,48,48,48,10,111,102,102,115,101,116,115,32,48,46,46,48,32,49,46,46,53,32,45,51,46,46,53,10,115,116,97,110,100,32,48,10]⟩
def rp4:ByteArray:=⟨#[114,101,97,100,105,110,103,115,32,50,32,98,97,116,104,115,32,50,32,99,101,114,116,105,102,105,99,97,116,101,115,32,49,32,115,97,108,101,115,32,50,10,109,97,114,107,115,32,48,46,46,48,32,50,48,48,46,46,51,48,48,32,52,49,48,46,46,53,49,48,32,55,48,48,46,46,56,48,48,32,49,48,48,48,46,46,49,48,48,48,10,111,102,102,115,101,116,115,32,48,46,46,48,32,49,46,46,53,32,45,51,46,46,53,10,115,116,97,110,100,32,48,10,104,111,108,100,32,52,32,50,32,52,32,48,10]⟩
def eqBy(n:Nat)(F:Nat->List AV)(B:ByteArray):Bool:=DF (λj=>match F j with
 |[.x (.int .u8 c)]=>decide (c=DD B j)
 |_=>false) n
theorem Qf8{n:Nat}{F:Nat->List AV}{B:ByteArray}(h:eqBy n F B=true): ∀i,i<n->F i=D3 B i:=by
 intro j hj;have h1:=GY.1 h j hj;split at h1
 ·rename_i c hc;rw [hc,BO h1];rfl
 ·cases h1
theorem ltM{n:Nat}{f g:Nat->List AV}(h:(List.range n).map f=(List.range n).map g): ∀i,i<n->f i=g i:=λi O=>by
 have e:=congrArg (λl=>l[i]?) h
 simpa [O] using e
abbrev JL:H9:=[(920,.row 20 1 1 (H5 wl0)),(921,.row 20 1 1 (H5 wl1)),(922,.row 20 1 1 (H5 wl2)),(923,.row 20 1 1 (H5 wl3)),(911,.row 5 1 42 (D3 rp0)),(14,.cells 110 [.ptr 14 0,.row 911])]
def A0(z:Nat):St:=((some {σ:=mkS 198 [(0,.top),(5,.ro (hsL U0)),(7,.ptr 14 0),(8,.fn (.func 41) [] [.ptr 14 0]),(9,.row 920),(10,.row 921),(11,.row 922),(12,.row 923),(91,.lst 2 5 (λk=>[i (UD [0,200,410,700,1000] k),i (UD [0,300,510,800,1000] k)])),(92,i 5),(93,i 0)],m:=JL,nx:=930}:Option St):Option St).getD {σ:=[],m:=[],nx:=0}
noncomputable def A2:Code:=UE (VX (UB Tryz.f24) 0)
abbrev WY:H9:=[(920,.row 20 1 6 (H5 wl0)),(921,.row 20 1 1 (H5 wl1)),(922,.row 20 1 1 (H5 wl2)),(923,.row 20 1 1 (H5 wl3)),(911,.row 5 1 42 (D3 rp0)),(14,.cells 110 [.ptr 14 0,.row 911])]
section
variable (z:Nat)
def DX:Nat->St
 | 0=>{σ:=H6 [(91,.lst 2 5 (λk=>[i (UD [0,200,410,700,1000] k),i (UD [0,300,510,800,1000] k)])),(92,i 5),(93,i 0)] (A0 z).σ,m:=JL,nx:=930}
 | 1=>{σ:=H6 [(91,.lst 2 5 (λk=>[i (UD [0,200,410,700,1000] k),i (UD [0,300,510,800,1000] k)])),(92,i 5),(93,i 1)] (A0 z).σ,m:=[(920,.row 20 1 2 (H5 wl0)),(921,.row 20 1 1 (H5 wl1)),(922,.row 20 1 1 (H5 wl2)),(923,.row 20 1 1 (H5 wl3)),(911,.row 5 1 42 (D3 rp0)),(14,.cells 110 [.ptr 14 0,.row 911])],nx:=930}
 | 2=>{σ:=H6 [(91,.lst 2 5 (λk=>[i (UD [0,200,410,700,1000] k),i (UD [0,300,510,800,1000] k)])),(92,i 5),(93,i 2)] (A0 z).σ,m:=[(920,.row 20 1 3 (H5 wl0)),(921,.row 20 1 1 (H5 wl1)),(922,.row 20 1 1 (H5 wl2)),(923,.row 20 1 1 (H5 wl3)),(911,.row 5 1 42 (D3 rp0)),(14,.cells 110 [.ptr 14 0,.row 911])],nx:=930}
 | 3=>{σ:=H6 [(91,.lst 2 5 (λk=>[i (UD [0,200,410,700,1000] k),i (UD [0,300,510,800,1000] k)])),(92,i 5),(93,i 3)] (A0 z).σ,m:=[(920,.row 20 1 4 (H5 wl0)),(921,.row 20 1 1 (H5 wl1)),(922,.row 20 1 1 (H5 wl2)),(923,.row 20 1 1 (H5 wl3)),(911,.row 5 1 42 (D3 rp0)),(14,.cells 110 [.ptr 14 0,.row 911])],nx:=930}
 | 4=>{σ:=H6 [(91,.lst 2 5 (λk=>[i (UD [0,200,410,700,1000] k),i (UD [0,300,510,800,1000] k)])),(92,i 5),(93,i 4)] (A0 z).σ,m:=[(920,.row 20 1 5 (H5 wl0)),(921,.row 20 1 1 (H5 wl1)),(922,.row 20 1 1 (H5 wl2)),(923,.row 20 1 1 (H5 wl3)),(911,.row 5 1 42 (D3 rp0)),(14,.cells 110 [.ptr 14 0,.row 911])],nx:=930}
 |_=>{σ:=H6 [(91,.lst 2 5 (λk=>[i (UD [0,200,410,700,1000] k),i (UD [0,300,510,800,1000] k)])),(92,i 5),(93,i 5)] (A0 z).σ,m:=WY,nx:=930}
def DO:GB->Option St
 | .exit 0=>some {σ:=H6 [(91,.lst 2 5 (λk=>[i (UD [0,200,410,700,1000] k),i (UD [0,300,510,800,1000] k)])),(92,i 5),(93,i 5)] (A0 z).σ,m:=WY,nx:=930}
 |_=>none
def ME:CT:= .leaf (.exit 0,(DO z (.exit 0)).getD (A0 z))
abbrev QE:List (Pl×Nat×TypeId×Nat):=[(.slot 9,920,20,1),(.slot 10,921,20,1),(.slot 11,922,20,1),(.slot 12,923,20,1),(.cell 14 1,911,5,1)]
def Xc8:UN:=GO QE (HM (DX z 0) (ME z))
abbrev Q6:Prop:=AV.ro [hR 2 U0,iI U0.pl,iI U0.ph,hY 2 U0,hC 1 U0,hT 2 U0]=AV.ro [hR 2 U0,iI U0.pl,iI U0.ph,hY 2 U0,hC 1 U0,hT 2 U0]
noncomputable abbrev Q9:Ext:={R:=[(44,Xb8),(45,LC),(36,zK),(40,MI)],H:=[(41,Xd6),(47,Xd5)],C:=[(33,Qk7),(11,Xb7)] }
abbrev QF:List Int:=[(0:Int),200,410,700,1000]
abbrev QJ:List Int:=[(0:Int),300,510,800,1000]
abbrev QO:Prop:=AV.fn (Fn.func 41) [] [ptr 14 0]=AV.fn (Fn.func 41) [] [ptr 14 0]
abbrev QW:List (Nat×G0):=[(30,tX),(35,tV),(38,tQ),(46,AQ)]
abbrev WE:Prop:=ptr 14 0=ptr 14 0
abbrev WT:AV:=lst 2 5 λk=>[iI (UD QF k),iI (UD QJ k)]
abbrev X1:Prop:=AV.row 911=AV.row 911
abbrev Z0:Prop:=AV.row 920=AV.row 920
abbrev Z1:Prop:=AV.row 921=AV.row 921
abbrev Z2:Prop:=AV.row 922=AV.row 922
abbrev Z3:Prop:=AV.row 923=AV.row 923
theorem Zi9:PP (HR VT QW Q9 [] QE A2 (DX z 0) (DX z 1) (DO z))=(let A:=([AV.x (.iface 9 (.string ({data:=List.toArray (Lib.itoa (UD QF (0:Int).toNat)) }++{data:=#[46,46] }++{data:=List.toArray (Lib.itoa (UD QJ (0:Int).toNat)) })))]);(need [UO 0 5] (need [(0:Int)<=UD QF (0:Int).toNat/\UD QF (0:Int).toNat<=1000\/(-1000:Int)<=UD QF (0:Int).toNat/\UD QF (0:Int).toNat<=1000,(-1000:Int)<=UD QJ (0:Int).toNat/\UD QJ (0:Int).toNat<=1000,4<=100] (need [32<=140737488355328,∀(i:Nat),i<1-> ∀(a:AV),a∈UA 1 A i->AV.one a=true] (need [VQ ((0:Int)+1)] (need [Q6,WE,QO,Z0,Z1,Z2,Z3,WT=WT,J7,(0:Int)+1=1,2=2,H2 2 (GM 1 (H5 wl0) (UA 1 A)) (H5 wl0),1=1,GV 1 (H5 wl1),1=1,GV 1 (H5 wl2),1=1,GV 1 (H5 wl3),42=42,GV 42 (D3 rp0),WE,X1] (leaf GB.normal))))))):=by
 kernel_rfl
theorem Zi8:PP (HR VT QW Q9 [] QE A2 (DX z 1) (DX z 2) (DO z))=(let A:=([AV.x (.iface 9 (.string ({data:=List.toArray (Lib.itoa (UD QF (1:Int).toNat)) }++{data:=#[46,46] }++{data:=List.toArray (Lib.itoa (UD QJ (1:Int).toNat)) })))]);(need [UO 1 5] (need [(0:Int)<=UD QF (1:Int).toNat/\UD QF (1:Int).toNat<=1000\/(-1000:Int)<=UD QF (1:Int).toNat/\UD QF (1:Int).toNat<=1000,(-1000:Int)<=UD QJ (1:Int).toNat/\UD QJ (1:Int).toNat<=1000,8<=100] (need [48<=140737488355328,∀(i:Nat),i<1-> ∀(a:AV),a∈UA 1 A i->AV.one a=true] (need [VQ ((1:Int)+1)] (need [Q6,WE,QO,Z0,Z1,Z2,Z3,WT=WT,J7,(1:Int)+1=2,3=3,H2 3 (GM 2 (H5 wl0) (UA 1 A)) (H5 wl0),1=1,GV 1 (H5 wl1),1=1,GV 1 (H5 wl2),1=1,GV 1 (H5 wl3),42=42,GV 42 (D3 rp0),WE,X1] (leaf GB.normal))))))):=by
 kernel_rfl
theorem Zi7:PP (HR VT QW Q9 [] QE A2 (DX z 2) (DX z 3) (DO z))=(let A:=([AV.x (.iface 9 (.string ({data:=List.toArray (Lib.itoa (UD QF (2:Int).toNat)) }++{data:=#[46,46] }++{data:=List.toArray (Lib.itoa (UD QJ (2:Int).toNat)) })))]);(need [UO 2 5] (need [(0:Int)<=UD QF (2:Int).toNat/\UD QF (2:Int).toNat<=1000\/(-1000:Int)<=UD QF (2:Int).toNat/\UD QF (2:Int).toNat<=1000,(-1000:Int)<=UD QJ (2:Int).toNat/\UD QJ (2:Int).toNat<=1000,8<=100] (need [64<=140737488355328,∀(i:Nat),i<1-> ∀(a:AV),a∈UA 1 A i->AV.one a=true] (need [VQ ((2:Int)+1)] (need [Q6,WE,QO,Z0,Z1,Z2,Z3,WT=WT,J7,(2:Int)+1=3,4=4,H2 4 (GM 3 (H5 wl0) (UA 1 A)) (H5 wl0),1=1,GV 1 (H5 wl1),1=1,GV 1 (H5 wl2),1=1,GV 1 (H5 wl3),42=42,GV 42 (D3 rp0),WE,X1] (leaf GB.normal))))))):=by
 kernel_rfl
theorem Zi6:PP (HR VT QW Q9 [] QE A2 (DX z 3) (DX z 4) (DO z))=(let A:=([AV.x (.iface 9 (.string ({data:=List.toArray (Lib.itoa (UD QF (3:Int).toNat)) }++{data:=#[46,46] }++{data:=List.toArray (Lib.itoa (UD QJ (3:Int).toNat)) })))]);(need [UO 3 5] (need [(0:Int)<=UD QF (3:Int).toNat/\UD QF (3:Int).toNat<=1000\/(-1000:Int)<=UD QF (3:Int).toNat/\UD QF (3:Int).toNat<=1000,(-1000:Int)<=UD QJ (3:Int).toNat/\UD QJ (3:Int).toNat<=1000,8<=100] (need [80<=140737488355328,∀(i:Nat),i<1-> ∀(a:AV),a∈UA 1 A i->AV.one a=true] (need [VQ ((3:Int)+1)] (need [Q6,WE,QO,Z0,Z1,Z2,Z3,WT=WT,J7,(3:Int)+1=4,5=5,H2 5 (GM 4 (H5 wl0) (UA 1 A)) (H5 wl0),1=1,GV 1 (H5 wl1),1=1,GV 1 (H5 wl2),1=1,GV 1 (H5 wl3),42=42,GV 42 (D3 rp0),WE,X1] (leaf GB.normal))))))):=by
 kernel_rfl
theorem Zi5:PP (HR VT QW Q9 [] QE A2 (DX z 4) (DX z 5) (DO z))=(let A:=([AV.x (.iface 9 (.string ({data:=List.toArray (Lib.itoa (UD QF (4:Int).toNat)) }++{data:=#[46,46] }++{data:=List.toArray (Lib.itoa (UD QJ (4:Int).toNat)) })))]);(need [UO 4 5] (need [(0:Int)<=UD QF (4:Int).toNat/\UD QF (4:Int).toNat<=1000\/(-1000:Int)<=UD QF (4:Int).toNat/\UD QF (4:Int).toNat<=1000,(-1000:Int)<=UD QJ (4:Int).toNat/\UD QJ (4:Int).toNat<=1000,10<=100] (need [96<=140737488355328,∀(i:Nat),i<1-> ∀(a:AV),a∈UA 1 A i->AV.one a=true] (need [VQ ((4:Int)+1)] (need [Q6,WE,QO,Z0,Z1,Z2,Z3,WT=WT,J7,(4:Int)+1=5,6=6,H2 6 (GM 5 (H5 wl0) (UA 1 A)) (H5 wl0),1=1,GV 1 (H5 wl1),1=1,GV 1 (H5 wl2),1=1,GV 1 (H5 wl3),42=42,GV 42 (D3 rp0),WE,X1] (leaf GB.normal))))))):=by
 kernel_rfl
theorem Zi4:PP (HR VT QW Q9 [] QE A2 (DX z 5) (DX z 5) (DO z))=(need [Q6,WE,QO,Z0,Z1,Z2,Z3,WT=WT,J7,J7,6=6,GV 6 (H5 wl0),1=1,GV 1 (H5 wl1),1=1,GV 1 (H5 wl2),1=1,GV 1 (H5 wl3),42=42,GV 42 (D3 rp0),WE,X1] (leaf (GB.exit 0))):=by
 kernel_rfl
end
theorem V3{p:Prop}(h:p:=by
 (with_reducible repeat' first|apply Al|intro _)
 all_goals first|exact Ak|(rename_i E hE;cases hE;exact hQ)|contradiction|omega|exact FU (by assumption) (by simp [AV.one,Value.oneCell'])|(rename_i i O;exact Qf8 (by decide+kernel) i O)|(rename_i i O;exact ltM VY i O)|exact cQ (by decide+kernel)|exact sZ (by decide+kernel)|decide+kernel|with_reducible rfl|rfl):p:=h
theorem Zj0(z:Nat):GC VT (.loop A2) (Xc8 z):=by
 refine G7 QE (L:=[]) (Ae yR (Ae yK (Ae yC (Ae xX Aa)))) (Aj (Af yO (Af FF (Af RI (Af P6 Ab)))) (Ag xY (Ag yB Ac)) (Ah xR (Ah fE (UG.nil _)))) U3 U8 (X:=Nat) (DX z) (λk=>k<=5) (λk=>6-k) (λ_=>DO z) (x0:=0) (Ao _) ?_ ?_ ?_
 ·intro k
  match k with
  | 0=>
   show Sx.okB (DX z 0)=true;kernel_rfl
  | 1=>
   show Sx.okB (DX z 1)=true;kernel_rfl
  | 2=>
   show Sx.okB (DX z 2)=true;kernel_rfl
  | 3=>
   show Sx.okB (DX z 3)=true;kernel_rfl
  | 4=>
   show Sx.okB (DX z 4)=true;kernel_rfl
  |k+5=>
   show Sx.okB (DX z 5)=true;kernel_rfl
 ·intro k y E h;unfold DO at h;split at h
  ·cases h;kernel_rfl
  ·cases h
 ·intro Q hQ k hx
  match k with
  | 0=>
   refine ⟨1,?_⟩
   with_reducible refine HA ?_
   rw [Zi9];simp only [ME,DO,VR.sat,GZ] at hQ;simp only [VR.sat,UF,UL,VQ,DO];exact V3
  | 1=>
   refine ⟨2,?_⟩
   with_reducible refine HA ?_
   rw [Zi8];simp only [ME,DO,VR.sat,GZ] at hQ;simp only [VR.sat,UF,UL,VQ,DO];exact V3
  | 2=>
   refine ⟨3,?_⟩
   with_reducible refine HA ?_
   rw [Zi7];simp only [ME,DO,VR.sat,GZ] at hQ;simp only [VR.sat,UF,UL,VQ,DO];exact V3
  | 3=>
   refine ⟨4,?_⟩
   with_reducible refine HA ?_
   rw [Zi6];simp only [ME,DO,VR.sat,GZ] at hQ;simp only [VR.sat,UF,UL,VQ,DO];exact V3
  | 4=>
   refine ⟨5,?_⟩
   with_reducible refine HA ?_
   rw [Zi5];simp only [ME,DO,VR.sat,GZ] at hQ;simp only [VR.sat,UF,UL,VQ,DO];exact V3
  | 5=>
   refine ⟨5,?_⟩
   with_reducible refine HA ?_
   rw [Zi4];simp only [ME,DO,VR.sat,GZ] at hQ;simp only [VR.sat,UF,UL,VQ,DO];exact V3
  |k+6=>omega
def SX(z:Nat):St:=((some {σ:=mkS 198 [(0,.top),(5,.ro (hsL U0)),(7,.ptr 14 0),(8,.fn (.func 41) [] [.ptr 14 0]),(9,.row 920),(10,.row 921),(11,.row 922),(12,.row 923),(116,.lst 2 3 (λk=>[i (UD [0,1,-3] k),i (UD [0,5,5] k)])),(117,i 3),(118,i 0)],m:=WY,nx:=930}:Option St):Option St).getD {σ:=[],m:=[],nx:=0}
noncomputable def SZ:Code:=UE (VX (UB Tryz.f24) 1)
abbrev WZ:H9:=[(920,.row 20 1 6 (H5 wl0)),(921,.row 20 1 4 (H5 wl1)),(922,.row 20 1 1 (H5 wl2)),(923,.row 20 1 1 (H5 wl3)),(911,.row 5 1 42 (D3 rp0)),(14,.cells 110 [.ptr 14 0,.row 911])]
section
variable (z:Nat)
def RW:Nat->St
 | 0=>{σ:=H6 [(116,.lst 2 3 (λk=>[i (UD [0,1,-3] k),i (UD [0,5,5] k)])),(117,i 3),(118,i 0)] (SX z).σ,m:=WY,nx:=930}
 | 1=>{σ:=H6 [(116,.lst 2 3 (λk=>[i (UD [0,1,-3] k),i (UD [0,5,5] k)])),(117,i 3),(118,i 1)] (SX z).σ,m:=[(920,.row 20 1 6 (H5 wl0)),(921,.row 20 1 2 (H5 wl1)),(922,.row 20 1 1 (H5 wl2)),(923,.row 20 1 1 (H5 wl3)),(911,.row 5 1 42 (D3 rp0)),(14,.cells 110 [.ptr 14 0,.row 911])],nx:=930}
 | 2=>{σ:=H6 [(116,.lst 2 3 (λk=>[i (UD [0,1,-3] k),i (UD [0,5,5] k)])),(117,i 3),(118,i 2)] (SX z).σ,m:=[(920,.row 20 1 6 (H5 wl0)),(921,.row 20 1 3 (H5 wl1)),(922,.row 20 1 1 (H5 wl2)),(923,.row 20 1 1 (H5 wl3)),(911,.row 5 1 42 (D3 rp0)),(14,.cells 110 [.ptr 14 0,.row 911])],nx:=930}
 |_=>{σ:=H6 [(116,.lst 2 3 (λk=>[i (UD [0,1,-3] k),i (UD [0,5,5] k)])),(117,i 3),(118,i 3)] (SX z).σ,m:=WZ,nx:=930}
def RK:GB->Option St
 | .exit 2=>some {σ:=H6 [(116,.lst 2 3 (λk=>[i (UD [0,1,-3] k),i (UD [0,5,5] k)])),(117,i 3),(118,i 3)] (SX z).σ,m:=WZ,nx:=930}
 |_=>none
def mN:CT:= .leaf (.exit 2,(RK z (.exit 2)).getD (SX z))
def Xc7:UN:=GO QE (HM (RW z 0) (mN z))
abbrev W9:AV:=lst 2 3 λk=>[iI (UD [(0:Int),1,-3] k),iI (UD [(0:Int),5,5] k)]
abbrev WW:List Int:=[(0:Int),1,-3]
abbrev Z9:List Int:=[(0:Int),5,5]
theorem Zi2:PP (HR VT QW Q9 [] QE SZ (RW z 0) (RW z 1) (RK z))=(let A:=([AV.x (.iface 9 (.string ({data:=List.toArray (Lib.itoa (UD WW (0:Int).toNat)) }++{data:=#[46,46] }++{data:=List.toArray (Lib.itoa (UD Z9 (0:Int).toNat)) })))]);(need [UO 0 3] (need [(0:Int)<=UD WW (0:Int).toNat/\UD WW (0:Int).toNat<=1000\/(-1000:Int)<=UD WW (0:Int).toNat/\UD WW (0:Int).toNat<=1000,(-1000:Int)<=UD Z9 (0:Int).toNat/\UD Z9 (0:Int).toNat<=1000,4<=100] (need [32<=140737488355328,∀(i:Nat),i<1-> ∀(a:AV),a∈UA 1 A i->AV.one a=true] (need [VQ ((0:Int)+1)] (need [Q6,WE,QO,Z0,Z1,Z2,Z3,W9=W9,XG,(0:Int)+1=1,6=6,GV 6 (H5 wl0),2=2,H2 2 (GM 1 (H5 wl1) (UA 1 A)) (H5 wl1),1=1,GV 1 (H5 wl2),1=1,GV 1 (H5 wl3),42=42,GV 42 (D3 rp0),WE,X1] (leaf GB.normal))))))):=by
 kernel_rfl
theorem Zi1:PP (HR VT QW Q9 [] QE SZ (RW z 1) (RW z 2) (RK z))=(let A:=([AV.x (.iface 9 (.string ({data:=List.toArray (Lib.itoa (UD WW (1:Int).toNat)) }++{data:=#[46,46] }++{data:=List.toArray (Lib.itoa (UD Z9 (1:Int).toNat)) })))]);(need [UO 1 3] (need [(0:Int)<=UD WW (1:Int).toNat/\UD WW (1:Int).toNat<=1000\/(-1000:Int)<=UD WW (1:Int).toNat/\UD WW (1:Int).toNat<=1000,(-1000:Int)<=UD Z9 (1:Int).toNat/\UD Z9 (1:Int).toNat<=1000,4<=100] (need [48<=140737488355328,∀(i:Nat),i<1-> ∀(a:AV),a∈UA 1 A i->AV.one a=true] (need [VQ ((1:Int)+1)] (need [Q6,WE,QO,Z0,Z1,Z2,Z3,W9=W9,XG,(1:Int)+1=2,6=6,GV 6 (H5 wl0),3=3,H2 3 (GM 2 (H5 wl1) (UA 1 A)) (H5 wl1),1=1,GV 1 (H5 wl2),1=1,GV 1 (H5 wl3),42=42,GV 42 (D3 rp0),WE,X1] (leaf GB.normal))))))):=by
 kernel_rfl
theorem Zi0:PP (HR VT QW Q9 [] QE SZ (RW z 2) (RW z 3) (RK z))=(let A:=([AV.x (.iface 9 (.string ({data:=List.toArray (Lib.itoa (UD WW (2:Int).toNat)) }++{data:=#[46,46] }++{data:=List.toArray (Lib.itoa (UD Z9 (2:Int).toNat)) })))]);(need [UO 2 3] (need [(0:Int)<=UD WW (2:Int).toNat/\UD WW (2:Int).toNat<=1000\/(-1000:Int)<=UD WW (2:Int).toNat/\UD WW (2:Int).toNat<=1000,(-1000:Int)<=UD Z9 (2:Int).toNat/\UD Z9 (2:Int).toNat<=1000,5<=100] (need [64<=140737488355328,∀(i:Nat),i<1-> ∀(a:AV),a∈UA 1 A i->AV.one a=true] (need [VQ ((2:Int)+1)] (need [Q6,WE,QO,Z0,Z1,Z2,Z3,W9=W9,XG,(2:Int)+1=3,6=6,GV 6 (H5 wl0),4=4,H2 4 (GM 3 (H5 wl1) (UA 1 A)) (H5 wl1),1=1,GV 1 (H5 wl2),1=1,GV 1 (H5 wl3),42=42,GV 42 (D3 rp0),WE,X1] (leaf GB.normal))))))):=by
 kernel_rfl
theorem Zh9:PP (HR VT QW Q9 [] QE SZ (RW z 3) (RW z 3) (RK z))=(need [Q6,WE,QO,Z0,Z1,Z2,Z3,W9=W9,XG,XG,6=6,GV 6 (H5 wl0),4=4,GV 4 (H5 wl1),1=1,GV 1 (H5 wl2),1=1,GV 1 (H5 wl3),42=42,GV 42 (D3 rp0),WE,X1] (leaf (GB.exit 2))):=by
 kernel_rfl
theorem Zi3:GC VT (.loop SZ) (Xc7 z):=by
 refine G7 QE (L:=[]) (Ae yR (Ae yK (Ae yC (Ae xX Aa)))) (Aj (Af yO (Af FF (Af RI (Af P6 Ab)))) (Ag xY (Ag yB Ac)) (Ah xR (Ah fE (UG.nil _)))) U3 U8 (X:=Nat) (RW z) (λk=>k<=3) (λk=>4-k) (λ_=>RK z) (x0:=0) (Ao _) ?_ ?_ ?_
 ·intro k
  match k with
  | 0=>
   show Sx.okB (RW z 0)=true;kernel_rfl
  | 1=>
   show Sx.okB (RW z 1)=true;kernel_rfl
  | 2=>
   show Sx.okB (RW z 2)=true;kernel_rfl
  |k+3=>
   show Sx.okB (RW z 3)=true;kernel_rfl
 ·intro k y E h;unfold RK at h;split at h
  ·cases h;kernel_rfl
  ·cases h
 ·intro Q hQ k hx
  match k with
  | 0=>
   refine ⟨1,?_⟩
   with_reducible refine HA ?_
   rw [Zi2];simp only [mN,RK,VR.sat,GZ] at hQ;simp only [VR.sat,UF,UL,VQ,RK];exact V3
  | 1=>
   refine ⟨2,?_⟩
   with_reducible refine HA ?_
   rw [Zi1];simp only [mN,RK,VR.sat,GZ] at hQ;simp only [VR.sat,UF,UL,VQ,RK];exact V3
  | 2=>
   refine ⟨3,?_⟩
   with_reducible refine HA ?_
   rw [Zi0];simp only [mN,RK,VR.sat,GZ] at hQ;simp only [VR.sat,UF,UL,VQ,RK];exact V3
  | 3=>
   refine ⟨3,?_⟩
   with_reducible refine HA ?_
   rw [Zh9];simp only [mN,RK,VR.sat,GZ] at hQ;simp only [VR.sat,UF,UL,VQ,RK];exact V3
  |k+4=>omega
end
def Qm3(z:Nat):St:=((some {σ:=mkS 198 [(0,.top),(5,.ro (hsL U0)),(7,.ptr 14 0),(8,.fn (.func 41) [] [.ptr 14 0]),(9,.row 920),(10,.row 921),(11,.row 922),(12,.row 923),(136,hsC U0),(137,i 1),(138,i 0)],m:=WZ,nx:=930}:Option St):Option St).getD {σ:=[],m:=[],nx:=0}
noncomputable def Qm9:Code:=UE (VX (UB Tryz.f24) 2)
abbrev X0:H9:=[(920,.row 20 1 6 (H5 wl0)),(921,.row 20 1 4 (H5 wl1)),(922,.row 20 1 2 (H5 wl2)),(923,.row 20 1 1 (H5 wl3)),(911,.row 5 1 42 (D3 rp0)),(14,.cells 110 [.ptr 14 0,.row 911])]
section
variable (z:Nat)
def wP:Nat->St
 | 0=>{σ:=H6 [(136,hsC U0),(137,i 1),(138,i 0)] (Qm3 z).σ,m:=WZ,nx:=930}
 |_=>{σ:=H6 [(136,hsC U0),(137,i 1),(138,i 1)] (Qm3 z).σ,m:=X0,nx:=930}
def BY:GB->Option St
 | .exit 4=>some {σ:=H6 [(136,hsC U0),(137,i 1),(138,i 1)] (Qm3 z).σ,m:=X0,nx:=930}
 |_=>none
def Wz3:CT:= .leaf (.exit 4,(BY z (.exit 4)).getD (Qm3 z))
def Xc6:UN:=GO QE (HM (wP z 0) (Wz3 z))
abbrev YM:AV:=agg [hR 2 U0,iI U0.pl,iI U0.ph,hY 2 U0,hC 1 U0,hT 2 U0]
theorem Zh7:PP (HR VT QW Q9 [] QE Qm9 (wP z 0) (wP z 1) (BY z))=(need [UO 0 U0.nc] (need [[YM,agg [iI (U0.ca (0:Int).toNat),iI (U0.cb (0:Int).toNat),iI (U0.cc (0:Int).toNat),iI (U0.cd (0:Int).toNat),AV.x (.bool (U0.cv (0:Int).toNat))],iI (U0.cd (0:Int).toNat)]=[YM,agg [iI (U0.ca 0),iI (U0.cb 0),iI (U0.cc 0),iI (U0.cd 0),AV.x (.bool (U0.cv 0))],iI (U0.cd 0)]] (need [32<=140737488355328,L1 1 (UA 1 [AV.x (.iface 3 (X2))])] (need [VQ ((0:Int)+1)] (need [Q6,WE,QO,Z0,Z1,Z2,Z3,U4 (hC 1 U0),KV,(0:Int)+1=1,6=6,GV 6 (H5 wl0),4=4,GV 4 (H5 wl1),2=2,H2 2 (GM 1 (H5 wl2) (UA 1 [AV.x (.iface 3 (X2))])) (H5 wl2),1=1,GV 1 (H5 wl3),42=42,GV 42 (D3 rp0),WE,X1] (leaf GB.normal)))))):=by
 kernel_rfl
theorem Zh6:PP (HR VT QW Q9 [] QE Qm9 (wP z 1) (wP z 1) (BY z))=(need [Q6,WE,QO,Z0,Z1,Z2,Z3,U4 (hC 1 U0),KV,KV,6=6,GV 6 (H5 wl0),4=4,GV 4 (H5 wl1),2=2,GV 2 (H5 wl2),1=1,GV 1 (H5 wl3),42=42,GV 42 (D3 rp0),WE,X1] (leaf (GB.exit 4))):=by
 kernel_rfl
theorem Zh8:GC VT (.loop Qm9) (Xc6 z):=by
 refine G7 QE (L:=[]) (Ae yR (Ae yK (Ae yC (Ae xX Aa)))) (Aj (Af yO (Af FF (Af RI (Af P6 Ab)))) (Ag xY (Ag yB Ac)) (Ah xR (Ah fE (UG.nil _)))) U3 U8 (X:=Nat) (wP z) (λk=>k<=1) (λk=>2-k) (λ_=>BY z) (x0:=0) (Ao _) ?_ ?_ ?_
 ·intro k
  match k with
  | 0=>
   show Sx.okB (wP z 0)=true;kernel_rfl
  |k+1=>
   show Sx.okB (wP z 1)=true;kernel_rfl
 ·intro k y E h;unfold BY at h;split at h
  ·cases h;kernel_rfl
  ·cases h
 ·intro Q hQ k hx
  match k with
  | 0=>
   refine ⟨1,?_⟩
   with_reducible refine HA ?_
   rw [Zh7];simp only [Wz3,BY,VR.sat,GZ] at hQ;simp only [VR.sat,UF,UL,VQ,BY];exact V3
  | 1=>
   refine ⟨1,?_⟩
   with_reducible refine HA ?_
   rw [Zh6];simp only [Wz3,BY,VR.sat,GZ] at hQ;simp only [VR.sat,UF,UL,VQ,BY];exact V3
  |k+2=>omega
end
def MT(z:Nat):St:=((some {σ:=mkS 198 [(0,.top),(5,.ro (hsL U0)),(7,.ptr 14 0),(8,.fn (.func 41) [] [.ptr 14 0]),(9,.row 920),(10,.row 921),(11,.row 922),(12,.row 923),(162,i 4),(163,i 0)],m:=X0,nx:=930}:Option St):Option St).getD {σ:=[],m:=[],nx:=0}
noncomputable def MW:Code:=UE (VX (UB Tryz.f24) 3)
abbrev JM:H9:=[(920,.row 20 1 6 (H5 wl0)),(921,.row 20 1 4 (H5 wl1)),(922,.row 20 1 2 (H5 wl2)),(923,.row 20 1 5 (H5 wl3)),(911,.row 5 1 42 (D3 rp0)),(14,.cells 110 [.ptr 14 0,.row 911])]
section
variable (z:Nat)
def FR:Nat->St
 | 0=>{σ:=H6 [(162,i 4),(163,i 0)] (MT z).σ,m:=X0,nx:=930}
 | 1=>{σ:=H6 [(162,i 4),(163,i 1)] (MT z).σ,m:=[(920,.row 20 1 6 (H5 wl0)),(921,.row 20 1 4 (H5 wl1)),(922,.row 20 1 2 (H5 wl2)),(923,.row 20 1 2 (H5 wl3)),(911,.row 5 1 42 (D3 rp0)),(14,.cells 110 [.ptr 14 0,.row 911])],nx:=930}
 | 2=>{σ:=H6 [(162,i 4),(163,i 2)] (MT z).σ,m:=[(920,.row 20 1 6 (H5 wl0)),(921,.row 20 1 4 (H5 wl1)),(922,.row 20 1 2 (H5 wl2)),(923,.row 20 1 3 (H5 wl3)),(911,.row 5 1 42 (D3 rp0)),(14,.cells 110 [.ptr 14 0,.row 911])],nx:=930}
 | 3=>{σ:=H6 [(162,i 4),(163,i 3)] (MT z).σ,m:=[(920,.row 20 1 6 (H5 wl0)),(921,.row 20 1 4 (H5 wl1)),(922,.row 20 1 2 (H5 wl2)),(923,.row 20 1 4 (H5 wl3)),(911,.row 5 1 42 (D3 rp0)),(14,.cells 110 [.ptr 14 0,.row 911])],nx:=930}
 |_=>{σ:=H6 [(162,i 4),(163,i 4)] (MT z).σ,m:=JM,nx:=930}
def FK:GB->Option St
 | .exit 6=>some {σ:=H6 [(162,i 4),(163,i 4)] (MT z).σ,m:=JM,nx:=930}
 |_=>none
def SJ:CT:= .leaf (.exit 6,(FK z (.exit 6)).getD (MT z))
def Xc5:UN:=GO QE (HM (FR z 0) (SJ z))
abbrev ZQ:AV:=agg [iI 4,iI 10,hT 2 U0]
abbrev ZR:List Int:=[(4:Int),2,4,0]
abbrev YE:Prop:=iI 100=iI 100
theorem Zh4:PP (HR VT QW Q9 [] QE MW (FR z 0) (FR z 1) (FK z))=(let A:=([AV.x (.iface 3 (.int .i64 (UD ZR (0:Int).toNat)))]);(need [ZQ=ZQ,YE,(0:Int)<=0/\(0:Int)<=3] (need [32<=140737488355328,∀(i:Nat),i<1-> ∀(a:AV),a∈UA 1 A i->AV.one a=true] (need [VQ ((0:Int)+1)] (need [Q6,WE,QO,Z0,Z1,Z2,Z3,W0,(0:Int)+1=1,6=6,GV 6 (H5 wl0),4=4,GV 4 (H5 wl1),2=2,GV 2 (H5 wl2),2=2,H2 2 (GM 1 (H5 wl3) (UA 1 A)) (H5 wl3),42=42,GV 42 (D3 rp0),WE,X1] (leaf GB.normal)))))):=by
 kernel_rfl
theorem Zh3:PP (HR VT QW Q9 [] QE MW (FR z 1) (FR z 2) (FK z))=(let A:=([AV.x (.iface 3 (.int .i64 (UD ZR (1:Int).toNat)))]);(need [ZQ=ZQ,YE,(0:Int)<=1/\(1:Int)<=3] (need [48<=140737488355328,∀(i:Nat),i<1-> ∀(a:AV),a∈UA 1 A i->AV.one a=true] (need [VQ ((1:Int)+1)] (need [Q6,WE,QO,Z0,Z1,Z2,Z3,W0,(1:Int)+1=2,6=6,GV 6 (H5 wl0),4=4,GV 4 (H5 wl1),2=2,GV 2 (H5 wl2),3=3,H2 3 (GM 2 (H5 wl3) (UA 1 A)) (H5 wl3),42=42,GV 42 (D3 rp0),WE,X1] (leaf GB.normal)))))):=by
 kernel_rfl
theorem Zh2:PP (HR VT QW Q9 [] QE MW (FR z 2) (FR z 3) (FK z))=(let A:=([AV.x (.iface 3 (.int .i64 (UD ZR (2:Int).toNat)))]);(need [ZQ=ZQ,YE,(0:Int)<=2/\(2:Int)<=3] (need [64<=140737488355328,∀(i:Nat),i<1-> ∀(a:AV),a∈UA 1 A i->AV.one a=true] (need [VQ ((2:Int)+1)] (need [Q6,WE,QO,Z0,Z1,Z2,Z3,W0,(2:Int)+1=3,6=6,GV 6 (H5 wl0),4=4,GV 4 (H5 wl1),2=2,GV 2 (H5 wl2),4=4,H2 4 (GM 3 (H5 wl3) (UA 1 A)) (H5 wl3),42=42,GV 42 (D3 rp0),WE,X1] (leaf GB.normal)))))):=by
 kernel_rfl
theorem Zh1:PP (HR VT QW Q9 [] QE MW (FR z 3) (FR z 4) (FK z))=(let A:=([AV.x (.iface 3 (.int .i64 (UD ZR (3:Int).toNat)))]);(need [ZQ=ZQ,YE,(0:Int)<=3/\(3:Int)<=3] (need [80<=140737488355328,∀(i:Nat),i<1-> ∀(a:AV),a∈UA 1 A i->AV.one a=true] (need [VQ ((3:Int)+1)] (need [Q6,WE,QO,Z0,Z1,Z2,Z3,W0,(3:Int)+1=4,6=6,GV 6 (H5 wl0),4=4,GV 4 (H5 wl1),2=2,GV 2 (H5 wl2),5=5,H2 5 (GM 4 (H5 wl3) (UA 1 A)) (H5 wl3),42=42,GV 42 (D3 rp0),WE,X1] (leaf GB.normal)))))):=by
 kernel_rfl
theorem Zh0:PP (HR VT QW Q9 [] QE MW (FR z 4) (FR z 4) (FK z))=(need [Q6,WE,QO,Z0,Z1,Z2,Z3,W0,W0,6=6,GV 6 (H5 wl0),4=4,GV 4 (H5 wl1),2=2,GV 2 (H5 wl2),5=5,GV 5 (H5 wl3),42=42,GV 42 (D3 rp0),WE,X1] (leaf (GB.exit 6))):=by
 kernel_rfl
theorem Zh5:GC VT (.loop MW) (Xc5 z):=by
 refine G7 QE (L:=[]) (Ae yR (Ae yK (Ae yC (Ae xX Aa)))) (Aj (Af yO (Af FF (Af RI (Af P6 Ab)))) (Ag xY (Ag yB Ac)) (Ah xR (Ah fE (UG.nil _)))) U3 U8 (X:=Nat) (FR z) (λk=>k<=4) (λk=>5-k) (λ_=>FK z) (x0:=0) (Ao _) ?_ ?_ ?_
 ·intro k
  match k with
  | 0=>
   show Sx.okB (FR z 0)=true;kernel_rfl
  | 1=>
   show Sx.okB (FR z 1)=true;kernel_rfl
  | 2=>
   show Sx.okB (FR z 2)=true;kernel_rfl
  | 3=>
   show Sx.okB (FR z 3)=true;kernel_rfl
  |k+4=>
   show Sx.okB (FR z 4)=true;kernel_rfl
 ·intro k y E h;unfold FK at h;split at h
  ·cases h;kernel_rfl
  ·cases h
 ·intro Q hQ k hx
  match k with
  | 0=>
   refine ⟨1,?_⟩
   with_reducible refine HA ?_
   rw [Zh4];simp only [SJ,FK,VR.sat,GZ] at hQ;simp only [VR.sat,UF,UL,VQ,FK];exact V3
  | 1=>
   refine ⟨2,?_⟩
   with_reducible refine HA ?_
   rw [Zh3];simp only [SJ,FK,VR.sat,GZ] at hQ;simp only [VR.sat,UF,UL,VQ,FK];exact V3
  | 2=>
   refine ⟨3,?_⟩
   with_reducible refine HA ?_
   rw [Zh2];simp only [SJ,FK,VR.sat,GZ] at hQ;simp only [VR.sat,UF,UL,VQ,FK];exact V3
  | 3=>
   refine ⟨4,?_⟩
   with_reducible refine HA ?_
   rw [Zh1];simp only [SJ,FK,VR.sat,GZ] at hQ;simp only [VR.sat,UF,UL,VQ,FK];exact V3
  | 4=>
   refine ⟨4,?_⟩
   with_reducible refine HA ?_
   rw [Zh0];simp only [SJ,FK,VR.sat,GZ] at hQ;simp only [VR.sat,UF,UL,VQ,FK];exact V3
  |k+5=>omega
end
abbrev JP:H9:=[(925,.row 111 1 4 (UA 1 [.lst 1 6 (H5 wl0),.lst 1 4 (H5 wl1),.lst 1 2 (H5 wl2),.lst 1 5 (H5 wl3)])),(911,.row 5 1 42 (D3 rp0)),(14,.cells 110 [.ptr 14 0,.row 911])]
def MS(z:Nat):St:=((some {σ:=mkS 198 [(0,.top),(5,.ro (hsL U0)),(7,.ptr 14 0),(8,.fn (.func 41) [] [.ptr 14 0]),(187,.row 925),(188,i 4),(189,i 0)],m:=JP,nx:=930}:Option St):Option St).getD {σ:=[],m:=[],nx:=0}
noncomputable def MV:Code:=UE (VX (UB Tryz.f24) 4)
abbrev JO:H9:=[(925,.row 111 1 4 (UA 1 [.lst 1 6 (H5 wl0),.lst 1 4 (H5 wl1),.lst 1 2 (H5 wl2),.lst 1 5 (H5 wl3)])),(911,.row 5 1 136 (D3 rp4)),(14,.cells 110 [.ptr 14 0,.row 911])]
section
variable (z:Nat)
def FQ:Nat->St
 | 0=>{σ:=H6 [(187,.row 925),(188,i 4),(189,i 0)] (MS z).σ,m:=JP,nx:=930}
 | 1=>{σ:=H6 [(187,.row 925),(188,i 4),(189,i 1)] (MS z).σ,m:=[(925,.row 111 1 4 (UA 1 [.lst 1 6 (H5 wl0),.lst 1 4 (H5 wl1),.lst 1 2 (H5 wl2),.lst 1 5 (H5 wl3)])),(911,.row 5 1 91 (D3 rp1)),(14,.cells 110 [.ptr 14 0,.row 911])],nx:=930}
 | 2=>{σ:=H6 [(187,.row 925),(188,i 4),(189,i 2)] (MS z).σ,m:=[(925,.row 111 1 4 (UA 1 [.lst 1 6 (H5 wl0),.lst 1 4 (H5 wl1),.lst 1 2 (H5 wl2),.lst 1 5 (H5 wl3)])),(911,.row 5 1 115 (D3 rp2)),(14,.cells 110 [.ptr 14 0,.row 911])],nx:=930}
 | 3=>{σ:=H6 [(187,.row 925),(188,i 4),(189,i 3)] (MS z).σ,m:=[(925,.row 111 1 4 (UA 1 [.lst 1 6 (H5 wl0),.lst 1 4 (H5 wl1),.lst 1 2 (H5 wl2),.lst 1 5 (H5 wl3)])),(911,.row 5 1 123 (D3 rp3)),(14,.cells 110 [.ptr 14 0,.row 911])],nx:=930}
 |_=>{σ:=H6 [(187,.row 925),(188,i 4),(189,i 4)] (MS z).σ,m:=JO,nx:=930}
def FJ:GB->Option St
 | .exit 8=>some {σ:=H6 [(187,.row 925),(188,i 4),(189,i 4)] (MS z).σ,m:=JO,nx:=930}
 |_=>none
def SI:CT:= .leaf (.exit 8,(FJ z (.exit 8)).getD (MS z))
def Xc4:UN:=GO [(.slot 187,925,111,1),(.cell 14 1,911,5,1)] (HM (FQ z 0) (SI z))
noncomputable abbrev JC:AV:=lst 1 6 λk=>[Option.rec (top) (λval=>(λval=>(λx=>x) val) val) wl0[k]?]
noncomputable abbrev JD:AV:=lst 1 4 λk=>[Option.rec (top) (λval=>(λval=>(λx=>x) val) val) wl1[k]?]
noncomputable abbrev JE:AV:=lst 1 2 λk=>[Option.rec (top) (λval=>(λval=>(λx=>x) val) val) wl2[k]?]
noncomputable abbrev JF:AV:=lst 1 5 λk=>[Option.rec (top) (λval=>(λval=>(λx=>x) val) val) wl3[k]?]
noncomputable abbrev Q7:List AV:=[JC,JD,JE,JF]
abbrev WR:List AV:=[AV.x (.string {data:=#[(48:UInt8),(46:UInt8),(46:UInt8),(48:UInt8)] })]
abbrev XE:List AV:=[AV.x (.string {data:=#[(49:UInt8),(48:UInt8),(48:UInt8),(48:UInt8),(46:UInt8),(46:UInt8),(49:UInt8),(48:UInt8),(48:UInt8),(48:UInt8)] })]
abbrev XS:List AV:=[AV.x (.string {data:=#[(50:UInt8),(48:UInt8),(48:UInt8),(46:UInt8),(46:UInt8),(51:UInt8),(48:UInt8),(48:UInt8)] })]
abbrev XT:List AV:=[AV.x (.string {data:=#[(52:UInt8),(49:UInt8),(48:UInt8),(46:UInt8),(46:UInt8),(53:UInt8),(49:UInt8),(48:UInt8)] })]
abbrev XU:List AV:=[AV.x (.string {data:=#[(55:UInt8),(48:UInt8),(48:UInt8),(46:UInt8),(46:UInt8),(56:UInt8),(48:UInt8),(48:UInt8)] })]
abbrev Z7:Value:=Value.string {data:=#[(109:UInt8),(97:UInt8),(114:UInt8),(107:UInt8),(115:UInt8)] }
abbrev J8:List (Pl×Nat×TypeId×Nat):=[(.slot 187,925,111,1),(.cell 14 1,911,5,1)]
abbrev Y4:Prop:=AV.row 925=AV.row 925
theorem Zg8:PP (HR VT QW Q9 [] J8 MV (FQ z 0) (FQ z 1) (FJ z))=(let A:=(GM 5 (GM 4 (GM 3 (GM 2 (GM 1 (GM 0 (λx=>[]) (UA 1 [AV.x (Z7)])) (UA 1 WR)) (UA 1 XS)) (UA 1 XT)) (UA 1 XU)) (UA 1 XE));(need [UO 0 4] (need [(0:Int).toNat<4] (need [UO 0 6] (need [16<=140737488355328,L1 1 (UA 1 [AV.x (Z7)])] (need [VQ ((0:Int)+1)] (need [(0:Int)<=0+1/\(0:Int)+1<(↑(6:Nat):Int)] (need [32<=140737488355328,∀(i:Nat),i<1-> ∀(a:AV),a∈UA 1 WR i->AV.one a=true] (need [VQ ((0:Int)+1+1)] (need [(0:Int)<=0+1+1/\(0:Int)+1+1<(↑(6:Nat):Int)] (need [48<=140737488355328,∀(i:Nat),i<1-> ∀(a:AV),a∈UA 1 XS i->AV.one a=true] (need [VQ ((0:Int)+1+1+1)] (need [(0:Int)<=0+1+1+1/\(0:Int)+1+1+1<(↑(6:Nat):Int)] (need [64<=140737488355328,∀(i:Nat),i<1-> ∀(a:AV),a∈UA 1 XT i->AV.one a=true] (need [VQ ((0:Int)+1+1+1+1)] (need [(0:Int)<=0+1+1+1+1/\(0:Int)+1+1+1+1<(↑(6:Nat):Int)] (need [80<=140737488355328,∀(i:Nat),i<1-> ∀(a:AV),a∈UA 1 XU i->AV.one a=true] (need [VQ ((0:Int)+1+1+1+1+1)] (need [(0:Int)<=0+1+1+1+1+1/\(0:Int)+1+1+1+1+1<(↑(6:Nat):Int)] (need [96<=140737488355328,∀(i:Nat),i<1-> ∀(a:AV),a∈UA 1 XE i->AV.one a=true] (need [VQ ((0:Int)+1+1+1+1+1+1)] (need [6<=100000,kN 6 A,ByteArray.size (jnB 6 A {data:=#[32] })<=140737488355328] (need [(↑(49:Nat):Int)<=9223372036854775807] (need [91<=140737488355328] (need [VQ ((0:Int)+1)] (need [Q6,WE,QO,Y4,W0,(0:Int)+1=1,4=4,GV 4 (UA 1 Q7),91=91,H2 91 (GM 42 (D3 rp0) (D3 (jnB 6 A {data:=#[32] }++{data:=#[10] }))) (D3 rp1),WE,X1] (leaf GB.normal))))))))))))))))))))))))))):=by
 kernel_rfl
abbrev XF:Value:=Value.string {data:=#[(111:UInt8),(102:UInt8),(102:UInt8),(115:UInt8),(101:UInt8),(116:UInt8),(115:UInt8)] }
abbrev ZM:List AV:=[AV.x (.string {data:=#[(45:UInt8),(51:UInt8),(46:UInt8),(46:UInt8),(53:UInt8)] })]
abbrev ZW:List AV:=[AV.x (.string {data:=#[(49:UInt8),(46:UInt8),(46:UInt8),(53:UInt8)] })]
theorem Zg7:PP (HR VT QW Q9 [] J8 MV (FQ z 1) (FQ z 2) (FJ z))=(let A:=(GM 3 (GM 2 (GM 1 (GM 0 (λx=>[]) (UA 1 [AV.x (XF)])) (UA 1 WR)) (UA 1 ZW)) (UA 1 ZM));(need [UO 1 4] (need [(1:Int).toNat<4] (need [UO 0 4] (need [16<=140737488355328,L1 1 (UA 1 [AV.x (XF)])] (need [VQ ((0:Int)+1)] (need [(0:Int)<=0+1/\(0:Int)+1<(↑(4:Nat):Int)] (need [32<=140737488355328,∀(i:Nat),i<1-> ∀(a:AV),a∈UA 1 WR i->AV.one a=true] (need [VQ ((0:Int)+1+1)] (need [(0:Int)<=0+1+1/\(0:Int)+1+1<(↑(4:Nat):Int)] (need [48<=140737488355328,∀(i:Nat),i<1-> ∀(a:AV),a∈UA 1 ZW i->AV.one a=true] (need [VQ ((0:Int)+1+1+1)] (need [(0:Int)<=0+1+1+1/\(0:Int)+1+1+1<(↑(4:Nat):Int)] (need [64<=140737488355328,∀(i:Nat),i<1-> ∀(a:AV),a∈UA 1 ZM i->AV.one a=true] (need [VQ ((0:Int)+1+1+1+1)] (need [4<=100000,kN 4 A,ByteArray.size (jnB 4 A {data:=#[32] })<=140737488355328] (need [(↑(24:Nat):Int)<=9223372036854775807] (need [115<=140737488355328] (need [VQ ((1:Int)+1)] (need [Q6,WE,QO,Y4,W0,(1:Int)+1=2,4=4,GV 4 (UA 1 Q7),115=115,H2 115 (GM 91 (D3 rp1) (D3 (jnB 4 A {data:=#[32] }++{data:=#[10] }))) (D3 rp2),WE,X1] (leaf GB.normal))))))))))))))))))))):=by
 kernel_rfl
abbrev XN:List AV:=[AV.x (.string {data:=List.toArray (Lib.itoa (0:Int)) })]
abbrev Z8:Value:=Value.string {data:=#[(115:UInt8),(116:UInt8),(97:UInt8),(110:UInt8),(100:UInt8)] }
theorem Zg6:PP (HR VT QW Q9 [] J8 MV (FQ z 2) (FQ z 3) (FJ z))=(let A:=(GM 1 (GM 0 (λx=>[]) (UA 1 [AV.x (Z8)])) (UA 1 XN));(need [UO 2 4] (need [(2:Int).toNat<4] (need [UO 0 2] (need [16<=140737488355328,L1 1 (UA 1 [AV.x (Z8)])] (need [VQ ((0:Int)+1)] (need [(0:Int)<=0+1/\(0:Int)+1<(↑(2:Nat):Int)] (need [VQ (0:Int)] (need [32<=140737488355328,∀(i:Nat),i<1-> ∀(a:AV),a∈UA 1 XN i->AV.one a=true] (need [VQ ((0:Int)+1+1)] (need [2<=100000,kN 2 A,ByteArray.size (jnB 2 A {data:=#[32] })<=140737488355328] (need [(↑(8:Nat):Int)<=9223372036854775807] (need [123<=140737488355328] (need [VQ ((2:Int)+1)] (need [Q6,WE,QO,Y4,W0,(2:Int)+1=3,4=4,GV 4 (UA 1 Q7),123=123,H2 123 (GM 115 (D3 rp2) (D3 (jnB 2 A {data:=#[32] }++{data:=#[10] }))) (D3 rp3),WE,X1] (leaf GB.normal)))))))))))))))):=by
 kernel_rfl
abbrev XO:List AV:=[AV.x (.string {data:=List.toArray (Lib.itoa (4:Int)) })]
abbrev ZG:Value:=Value.string {data:=#[(104:UInt8),(111:UInt8),(108:UInt8),(100:UInt8)] }
abbrev JJ:List AV:=[AV.x (.string {data:=List.toArray (Lib.itoa (2:Int)) })]
theorem Zg5:PP (HR VT QW Q9 [] J8 MV (FQ z 3) (FQ z 4) (FJ z))=(let A:=(GM 4 (GM 3 (GM 2 (GM 1 (GM 0 (λx=>[]) (UA 1 [AV.x (ZG)])) (UA 1 XO)) (UA 1 JJ)) (UA 1 XO)) (UA 1 XN));(need [UO 3 4] (need [(3:Int).toNat<4] (need [UO 0 5] (need [16<=140737488355328,L1 1 (UA 1 [AV.x (ZG)])] (need [VQ ((0:Int)+1)] (need [(0:Int)<=0+1/\(0:Int)+1<(↑(5:Nat):Int)] (need [VQ (4:Int)] (need [32<=140737488355328,∀(i:Nat),i<1-> ∀(a:AV),a∈UA 1 XO i->AV.one a=true] (need [VQ ((0:Int)+1+1)] (need [(0:Int)<=0+1+1/\(0:Int)+1+1<(↑(5:Nat):Int)] (need [VQ (2:Int)] (need [48<=140737488355328,∀(i:Nat),i<1-> ∀(a:AV),a∈UA 1 JJ i->AV.one a=true] (need [VQ ((0:Int)+1+1+1)] (need [(0:Int)<=0+1+1+1/\(0:Int)+1+1+1<(↑(5:Nat):Int)] (need [VQ (4:Int)] (need [64<=140737488355328,∀(i:Nat),i<1-> ∀(a:AV),a∈UA 1 XO i->AV.one a=true] (need [VQ ((0:Int)+1+1+1+1)] (need [(0:Int)<=0+1+1+1+1/\(0:Int)+1+1+1+1<(↑(5:Nat):Int)] (need [VQ (0:Int)] (need [80<=140737488355328,∀(i:Nat),i<1-> ∀(a:AV),a∈UA 1 XN i->AV.one a=true] (need [VQ ((0:Int)+1+1+1+1+1)] (need [5<=100000,kN 5 A,ByteArray.size (jnB 5 A {data:=#[32] })<=140737488355328] (need [(↑(13:Nat):Int)<=9223372036854775807] (need [136<=140737488355328] (need [VQ ((3:Int)+1)] (need [Q6,WE,QO,Y4,W0,(3:Int)+1=4,4=4,GV 4 (UA 1 Q7),136=136,H2 136 (GM 123 (D3 rp3) (D3 (jnB 5 A {data:=#[32] }++{data:=#[10] }))) (D3 rp4),WE,X1] (leaf GB.normal)))))))))))))))))))))))))))):=by
 kernel_rfl
theorem Zg4:PP (HR VT QW Q9 [] J8 MV (FQ z 4) (FQ z 4) (FJ z))=(need [Q6,WE,QO,Y4,W0,W0,4=4,GV 4 (UA 1 Q7),136=136,GV 136 (D3 rp4),WE,X1] (leaf (GB.exit 8))):=by
 kernel_rfl
theorem Zg9:GC VT (.loop MV) (Xc4 z):=by
 refine G7 J8 (L:=[]) (Ae yR (Ae yK (Ae yC (Ae xX Aa)))) (Aj (Af yO (Af FF (Af RI (Af P6 Ab)))) (Ag xY (Ag yB Ac)) (Ah xR (Ah fE (UG.nil _)))) U3 U8 (X:=Nat) (FQ z) (λk=>k<=4) (λk=>5-k) (λ_=>FJ z) (x0:=0) (Ao _) ?_ ?_ ?_
 ·intro k
  match k with
  | 0=>
   show Sx.okB (FQ z 0)=true;kernel_rfl
  | 1=>
   show Sx.okB (FQ z 1)=true;kernel_rfl
  | 2=>
   show Sx.okB (FQ z 2)=true;kernel_rfl
  | 3=>
   show Sx.okB (FQ z 3)=true;kernel_rfl
  |k+4=>
   show Sx.okB (FQ z 4)=true;kernel_rfl
 ·intro k y E h;unfold FJ at h;split at h
  ·cases h;kernel_rfl
  ·cases h
 ·intro Q hQ k hx
  match k with
  | 0=>
   refine ⟨1,?_⟩
   with_reducible refine HA ?_
   rw [Zg8];simp only [SI,FJ,VR.sat,GZ] at hQ;simp only [VR.sat,UF,UL,VQ,FJ];exact V3
  | 1=>
   refine ⟨2,?_⟩
   with_reducible refine HA ?_
   rw [Zg7];simp only [SI,FJ,VR.sat,GZ] at hQ;simp only [VR.sat,UF,UL,VQ,FJ];exact V3
  | 2=>
   refine ⟨3,?_⟩
   with_reducible refine HA ?_
   rw [Zg6];simp only [SI,FJ,VR.sat,GZ] at hQ;simp only [VR.sat,UF,UL,VQ,FJ];exact V3
  | 3=>
   refine ⟨4,?_⟩
   with_reducible refine HA ?_
   rw [Zg5];simp only [SI,FJ,VR.sat,GZ] at hQ;simp only [VR.sat,UF,UL,VQ,FJ];exact V3
  | 4=>
   refine ⟨4,?_⟩
   with_reducible refine HA ?_
   rw [Zg4];simp only [SI,FJ,VR.sat,GZ] at hQ;simp only [VR.sat,UF,UL,VQ,FJ];exact V3
  |k+5=>omega
end
theorem uK{S:Code->UN->Prop}{c:Code}{s0 s1 s2 s3 s4:UN}(h0: ∀cj,VX c 0=some cj->S cj s0)(h1: ∀cj,VX c 1=some cj->S cj s1)(h2: ∀cj,VX c 2=some cj->S cj s2)(h3: ∀cj,VX c 3=some cj->S cj s3)(h4: ∀cj,VX c 4=some cj->S cj s4):
  ∀j cj,VX c j=some cj-> ∀sp,[s0,s1,s2,s3,s4][j]? =some sp->S cj sp:=by
 intro j cj hj sp Z
 match j with
 | 0=>simp at Z;subst Z;exact h0 cj hj
 | 1=>simp at Z;subst Z;exact h1 cj hj
 | 2=>simp at Z;subst Z;exact h2 cj hj
 | 3=>simp at Z;subst Z;exact h3 cj hj
 | 4=>simp at Z;subst Z;exact h4 cj hj
 |j+5=>simp at Z
theorem Zq5(B:ByteArray):bsO B.size (D3 B)=B:=by
 unfold bsO;apply ByteArray.ext;apply Array.ext
 ·show ((List.range B.size).map _).toArray.size=B.data.size;rw [List.size_toArray,Bm,List.length_range];rfl
 ·intro j h1 h2;have h3:j<B.data.size:=h2;simp [D3,byO,DD,LV,Array.getElem?_eq_getElem h3]
abbrev YU:H9:=[(911,.row 5 1 42 (D3 rp0)),(14,.cells 110 [.ptr 14 0,.row 911])]
def nM:St:={σ:=mkS 198 [(5,.ro (hsL U0)),(7,.ptr 14 0),(8,.fn (.func 41) [] [.ptr 14 0]),(9,.lst 1 6 (H5 wl0)),(10,.lst 1 4 (H5 wl1)),(11,.lst 1 2 (H5 wl2)),(12,.lst 1 5 (H5 wl3))],m:=YU,nx:=930}
def nN:St:={σ:=mkS 198 [(0,.top),(5,.ro (hsL U0)),(7,.ptr 14 0),(8,.fn (.func 41) [] [.ptr 14 0])],m:=YU,nx:=930}
abbrev WM:List AV:=[lst 1 11 λk=>[FO (UR UC k)]]
abbrev WQ:List AV:=[AV.x (.string {data:=#[(99:UInt8),(101:UInt8),(114:UInt8),(116:UInt8),(105:UInt8),(102:UInt8),(105:UInt8),(99:UInt8),(97:UInt8),(116:UInt8),(101:UInt8),(115:UInt8)] })]
abbrev WX:List AV:=[agg [iI 4,iI 100,iI 20,iI 30,hR 2 U0,lst 2 3 λk=>[iI (tbP k),iI (tbQ k)],iI U0.pl,iI U0.ph,iI 1,iI 3],iI 0]
abbrev XL:List AV:=[AV.x (.string {data:=#[(114:UInt8),(101:UInt8),(97:UInt8),(100:UInt8),(105:UInt8),(110:UInt8),(103:UInt8),(115:UInt8)] })]
abbrev ZK:List AV:=[AV.x (.string {data:=#[(115:UInt8),(97:UInt8),(108:UInt8),(101:UInt8),(115:UInt8)] })]
abbrev ZL:List AV:=[AV.x (.string {data:=#[(98:UInt8),(97:UInt8),(116:UInt8),(104:UInt8),(115:UInt8)] })]
theorem lK:U2 VT 24 [lns 11 (UR UC)] (.tup [.x (.string Zj1),i 0]):=by
 have hG:VP VT [(30,tX),(35,tV),(38,tQ),(46,AQ)]:=(Ae yR (Ae yK (Ae yC (Ae xX Aa))));have hX: ∀cx,U1 VT Q9 cx:=(Aj (Af yO (Af FF (Af RI (Af P6 Ab)))) (Ag xY (Ag yB Ac)) (Ah xR (Ah fE (UG.nil _))));have GW:Tryz.prog.follows .mixedOrders=true:=U3
 refine TB (L:=[Xc8 0,Xc7 0,Xc6 0,Xc5 0,Xc4 0]) Tryz.func24 (UY Tryz.f24) (λcx=>(dF (N:=[(.cell 14 1,911,5,1)]) (s2:=nN) hG (hX cx) GW (dF (N:=[(.slot 9,0,0,0),(.slot 10,0,0,0),(.slot 11,0,0,0),(.slot 12,0,0,0)]) (s2:=nM) hG (hX cx) GW (m6 hG (hX cx) GW) VY 7) VY 6)) (uK (lpE (b:= .loop A2) VY<|(Zj0 0).N) (lpE (b:= .loop SZ) VY<|(Zi3 0).N) (lpE (b:= .loop Qm9) VY<|(Zh8 0).N) (lpE (b:= .loop MW) VY<|(Zh5 0).N) (lpE (b:= .loop MV) VY<|(Zg9 0).N)) (t:=let z1:=([AV.x (.string {data:=List.toArray (Lib.itoa (↑U0.nr:Int)) })]);let z2:=([AV.x (.string {data:=List.toArray (Lib.itoa (↑U0.nb:Int)) })]);let z3:=([AV.x (.string {data:=List.toArray (Lib.itoa (↑U0.nc:Int)) })]);let z4:=([AV.x (.string {data:=List.toArray (Lib.itoa (↑U0.ns:Int)) })]);let A:=(GM 7 (GM 6 (GM 5 (GM 4 (GM 3 (GM 2 (GM 1 (GM 0 (λx=>[]) (UA 1 XL)) (UA 1 z1)) (UA 1 ZL)) (UA 1 z2)) (UA 1 WQ)) (UA 1 z3)) (UA 1 ZK)) (UA 1 z4));(need [WM=WM] (branch ((0:Int) != 0) (leaf (RV.tup [RV.x (.string {data:=#[] }),RV.x (X2)])) (need [WM=WM] (need [UO 0 8] (need [(0:Int).toNat<8] (need [16<=140737488355328,∀(i:Nat),i<1-> ∀(a:AV),a∈UA 1 XL i->AV.one a=true] (need [VQ ((0:Int)+1)] (need [(0:Int)<=0+1/\(0:Int)+1<(↑(8:Nat):Int)] (need [((0:Int)+1).toNat<8] (need [VQ (↑U0.nr:Int)] (need [32<=140737488355328,∀(i:Nat),i<1-> ∀(a:AV),a∈UA 1 z1 i->AV.one a=true] (need [VQ ((0:Int)+1+1)] (need [(0:Int)<=0+1+1/\(0:Int)+1+1<(↑(8:Nat):Int)] (need [((0:Int)+1+1).toNat<8] (need [48<=140737488355328,∀(i:Nat),i<1-> ∀(a:AV),a∈UA 1 ZL i->AV.one a=true] (need [VQ ((0:Int)+1+1+1)] (need [(0:Int)<=0+1+1+1/\(0:Int)+1+1+1<(↑(8:Nat):Int)] (need [((0:Int)+1+1+1).toNat<8] (need [VQ (↑U0.nb:Int)] (need [64<=140737488355328,∀(i:Nat),i<1-> ∀(a:AV),a∈UA 1 z2 i->AV.one a=true] (need [VQ ((0:Int)+1+1+1+1)] (need [(0:Int)<=0+1+1+1+1/\(0:Int)+1+1+1+1<(↑(8:Nat):Int)] (need [((0:Int)+1+1+1+1).toNat<8] (need [80<=140737488355328,∀(i:Nat),i<1-> ∀(a:AV),a∈UA 1 WQ i->AV.one a=true] (need [VQ ((0:Int)+1+1+1+1+1)] (need [(0:Int)<=0+1+1+1+1+1/\(0:Int)+1+1+1+1+1<(↑(8:Nat):Int)] (need [((0:Int)+1+1+1+1+1).toNat<8] (need [VQ (↑U0.nc:Int)] (need [96<=140737488355328,∀(i:Nat),i<1-> ∀(a:AV),a∈UA 1 z3 i->AV.one a=true] (need [VQ ((0:Int)+1+1+1+1+1+1)] (need [(0:Int)<=0+1+1+1+1+1+1/\(0:Int)+1+1+1+1+1+1<(↑(8:Nat):Int)] (need [((0:Int)+1+1+1+1+1+1).toNat<8] (need [112<=140737488355328,∀(i:Nat),i<1-> ∀(a:AV),a∈UA 1 ZK i->AV.one a=true] (need [VQ ((0:Int)+1+1+1+1+1+1+1)] (need [(0:Int)<=0+1+1+1+1+1+1+1/\(0:Int)+1+1+1+1+1+1+1<(↑(8:Nat):Int)] (need [((0:Int)+1+1+1+1+1+1+1).toNat<8] (need [VQ (↑U0.ns:Int)] (need [128<=140737488355328,∀(i:Nat),i<1-> ∀(a:AV),a∈UA 1 z4 i->AV.one a=true] (need [VQ ((0:Int)+1+1+1+1+1+1+1+1)] (need [8<=100000,kN 8 A,ByteArray.size (jnB 8 A {data:=#[32] })<=140737488355328] (need [(↑(42:Nat):Int)<=9223372036854775807] (need [42<=140737488355328] (need [Q6,WE,QO,42=42,H2 42 (GM 0 (λx=>[]) (D3 (jnB 8 A {data:=#[32] }++{data:=#[10] }))) (D3 rp0),WE,X1] (need [WX=WX] (need [Q6,WE,QO,Z0,Z1,Z2,Z3,WT=WT,(↑(5:Nat):Int)=5,QY,1=1,H2 1 (UA 1 [AV.x (.iface 9 (Z7))]) (H5 wl0),1=1,H2 1 (UA 1 [AV.x (.iface 9 (XF))]) (H5 wl1),1=1,H2 1 (UA 1 [AV.x (.iface 9 (Z8))]) (H5 wl2),1=1,H2 1 (UA 1 [AV.x (.iface 9 (ZG))]) (H5 wl3),42=42,GV 42 (D3 rp0),WE,X1] (need [U4 ([agg [lst 2 3 λk=>[iI (oL k),iI (oH k)],iI 1,hY 2 U0]])] (need [Q6,WE,QO,Z0,Z1,Z2,Z3,W9=W9,(↑(3:Nat):Int)=3,QY,6=6,GV 6 (H5 wl0),1=1,GV 1 (H5 wl1),1=1,GV 1 (H5 wl2),1=1,GV 1 (H5 wl3),42=42,GV 42 (D3 rp0),WE,X1] (need [Q6,WE,QO,Z0,Z1,Z2,Z3,U4 (hC 1 U0),(↑U0.nc:Int)=1,QY,6=6,GV 6 (H5 wl0),4=4,GV 4 (H5 wl1),1=1,GV 1 (H5 wl2),1=1,GV 1 (H5 wl3),42=42,GV 42 (D3 rp0),WE,X1] (need [Q6,WE,QO,Z0,Z1,Z2,Z3,W0,QY,6=6,GV 6 (H5 wl0),4=4,GV 4 (H5 wl1),2=2,GV 2 (H5 wl2),1=1,GV 1 (H5 wl3),42=42,GV 42 (D3 rp0),WE,X1] (need [Q6,WE,QO,JC=JC,JD=JD,JE=JE,JF=JF,42=42,GV 42 (D3 rp0),WE,X1] (need [Q6,WE,QO,Y4,(↑(4:Nat):Int)=4,QY,4=4,GV 4 (UA 1 Q7),42=42,GV 42 (D3 rp0),WE,X1] (need [wO 136 (D3 rp4),0<136] (leaf (RV.tup [RV.x (.string (bsO 136 (D3 rp4))),RV.x (X2)]))))))))))))))))))))))))))))))))))))))))))))))))))))))) VY ?_
 simp only [VR.sat,UF,GA,GR,UI,UL,VQ,DR]
 (with_reducible repeat' first|apply Al|intro _)
 all_goals first|exact Ak|contradiction|omega|exact FU (by assumption) (by simp [AV.one,Value.oneCell'])|(rename_i i O;exact Qf8 (by decide+kernel) i O)|(rename_i i O;exact ltM VY i O)|exact cQ (by decide+kernel)|exact sZ (by decide+kernel)|decide+kernel|with_reducible rfl|rfl|trace_state
def Zf3:HS:=stS U0 1
theorem Xt9:lnE (UR GD 0) U0=9:=by decide+kernel
theorem Xt8:lnE (UR GD 1) U0=10:=by decide+kernel
theorem Xt7:lnE (UR GD 2) U0=9:=by decide+kernel
theorem Xt6:lnE (UR GD 3) U0=0:=by decide+kernel
theorem Zx5:lnE (UR GD 4) Zf3=0:=by decide+kernel
theorem Zx4:FB (lnW (UR GD 3)) U0=Zf3:=VY
abbrev KE(n:Nat)(a:Nat->Int):AV:=lst 1 n λk=>[iI (a k)]
abbrev KF(m:Nat)(b:Nat->Int):AV:=lst 1 m λk=>[iI (b k)]
section
variable (n m:Nat)(a b:Nat->Int)
def Xe6:St:={σ:=[KE n a,KF m b]++HO 24 [],m:=[],nx:=7}
noncomputable def Js8:Code:=UE (VX (UB Tryz.f25) 0)
def Wl8(k:Nat):St:=(upM [(5,i k)] (Xe6 n m a b))
def u6(k:Nat):GB->Option St
 | .exit 0=>some (upM [] (Xe6 n m a b))
 | .ret=>some (upM [(4,.lit false)] (Xe6 n m a b))
 |_=>none
def Jo3:CT:= .branch (DF ((λk=>a k==b k)) n) (.leaf (.exit 0,(u6 n m a b 0 (.exit 0)).getD (Xe6 n m a b))) (.leaf (.ret,(u6 n m a b 0 .ret).getD (Xe6 n m a b)))
def Xz5:UN:=(HM (Wl8 n m a b (0)) (Jo3 n m a b))
theorem Je9(VW:n<=100000)(UK:n=m):GC VT (.loop Js8) (Xz5 n m a b):=by
 refine HL (L:=[]) Aa U3 U8 (X:=Nat) (Wl8 n m a b) (λk=>k<=n/\ ∀j,j<k->((λk=>a k==b k)) j=true) (λk=>n-k) (u6 n m a b) (x0:=0) ⟨VO,λj hj=>VO⟩ ?_ ?_ ?_
 ·rintro k;kernel_rfl
 ·rintro k y E h;unfold u6 at h;split at h
  ·cases h;kernel_rfl
  ·cases h;kernel_rfl
  ·cases h
 ·rintro Q hQ k hx;refine ⟨(k+1),?_⟩;(with_reducible refine DN (t:=branch (decide ((k:Int)<(n:Int))) (need [UO k n] (need [UO k m] (branch (a k != b k) (need [U4 (KE n a),U4 (KF m b),WO] (leaf GB.ret)) (need [VQ ((k:Int)+1)] (need [U4 (KE n a),U4 (KF m b),(k:Int)+1=(↑(k+1):Int)] (leaf GB.normal)))))) (need [U4 (KE n a),U4 (KF m b)] (leaf (GB.exit 0)))) VY ?_);simp only [Jo3,u6,VR.sat,GZ] at hQ;have Wr7:k<n->((λk=>a k==b k)) k=false->DF ((λk=>a k==b k)) n=false:=by
   intro h1 h2;rw [←Bool.not_eq_true];intro h3;have:=GY.1 h3 k h1;exact Bool.noConfusion (h2.symm.trans this)
  have d6:((λk=>a k==b k)) k=true-> ∀j,j<k+1->((λk=>a k==b k)) j=true:=by
   intro h1 j hj;rcases (show j<k\/j=k by omega) with h|rfl
   ·exact hx.2 j h
   ·exact h1
  have PL: ¬k<n->DF ((λk=>a k==b k)) n=true:=λh=>GY.2 (λj hj=>hx.2 j VO)
  have hQ1: ∀E,u6 n m a b k .ret=some E->DF ((λk=>a k==b k)) n=false->Q (.ret,E):=by
   intro E hE hf;cases hE;exact hQ.2 hf
  have hQ2: ∀E,u6 n m a b k (.exit 0)=some E->DF ((λk=>a k==b k)) n=true->Q (.exit 0,E):=by
   intro E hE hf;cases hE;exact hQ.1 hf
  simp only [VR.sat,UF,UL,HD,VQ,DR]
  all_goals exact VB
theorem Wj2(VW:n<=100000):U2 VT 25 [.lst 1 n (λk=>[i (a k)]),.lst 1 m (λk=>[i (b k)])] (bl (decide (n=m)&&DF (λk=>a k==b k) n)):=by
 refine U6 (L:=[FV [n<=100000,n=m] (Xz5 n m a b)]) Aa U3 Tryz.func25 (UY Tryz.f25) (G4 (lpE (b:= .loop Js8) VY<|D9 (λh=>Je9 n m a b h.1 h.2))) (t:=branch ((n:Int) != (m:Int)) (leaf (RV.x (WN))) (need [n<=100000,n=m] (need [U4 (KE n a),U4 (KF m b),(0:Int)=(↑(0:Nat):Int)] (branch (DF (λk=>a k==b k) n) (leaf (RV.x (.bool true))) (leaf (RV.x (WN))))))) VY ?_
 simp only [VR.sat,UF,GA,GR,UI,VQ,UL,HD,RF,bne_iff_ne,ne_eq];refine ⟨λh=>?_,λh=>?_⟩
 ·have:n≠m:=by intro h';subst h';simp at h
  simp [this]
 ·have e:n=m:=by
   rw [bne_eq_false_iff_eq] at h;omega
  subst e;refine ⟨⟨VO,rfl⟩,λh2=>?_,λh2=>?_⟩
  ·simp [h2]
  ·simp [h2]
end
def Qi8:G0
 |[.lst 1 n f,.lst 1 m g]=>some ([UJ 1 n f,UJ 1 m g,n<=100000],bl (decide (n=m)&&DF (λk=>col 0 f k==col 0 g k) n))
 |_=>none
theorem Wj1:VU VT 25 Qi8:=by
 refine ⟨(UM Tryz.func25),?_⟩;intro avs ns res h I;unfold Qi8 at h;split at h
 ·rename_i n f m g;cases h;have hr0:UJ 1 n f:=I _ VZ;have hr1:UJ 1 m g:=I _ VZ;exact (Wj2 n m (col 0 f) (col 0 g) (I _ VZ)).same (.cons (.lst 1 n _ _ hr0) (.cons (.lst 1 m _ _ hr1) .nil))
 ·cases h
def Wz7:G0
 |[.x (.slice none 0 0)]=>some ([],lns 11 (UR UC))
 |[.lst 1 n f]=>some ([n=5,∀k,k<n->f k=[.x (.string (UR GD k))]],lns 16 (UR (UC++GD)))
 |_=>none
theorem Jf1{P:Nat->Prop}(h0:P 0)(h1:P 1)(h2:P 2)(h3:P 3)(h4:P 4)(h5:P 5)(h6:P 6)(h7:P 7)(h8:P 8)(h9:P 9)(h10:P 10): ∀i,i<11->P i:=by
 intro i O
 match i,O with
 | 0,_=>exact h0
 | 1,_=>exact h1
 | 2,_=>exact h2
 | 3,_=>exact h3
 | 4,_=>exact h4
 | 5,_=>exact h5
 | 6,_=>exact h6
 | 7,_=>exact h7
 | 8,_=>exact h8
 | 9,_=>exact h9
 | 10,_=>exact h10
 |i+11,h=>exact absurd h VO
theorem Xv5{P:Nat->Prop}(h0:P 0)(h1:P 1)(h2:P 2)(h3:P 3)(h4:P 4)(h5:P 5)(h6:P 6)(h7:P 7)(h8:P 8)(h9:P 9)(h10:P 10)(h11:P 11)(h12:P 12)(h13:P 13)(h14:P 14)(h15:P 15): ∀i,i<16->P i:=by
 intro i O
 match i,O with
 | 0,_=>exact h0
 | 1,_=>exact h1
 | 2,_=>exact h2
 | 3,_=>exact h3
 | 4,_=>exact h4
 | 5,_=>exact h5
 | 6,_=>exact h6
 | 7,_=>exact h7
 | 8,_=>exact h8
 | 9,_=>exact h9
 | 10,_=>exact h10
 | 11,_=>exact h11
 | 12,_=>exact h12
 | 13,_=>exact h13
 | 14,_=>exact h14
 | 15,_=>exact h15
 |i+16,h=>exact absurd h VO
abbrev JG:AV:=AV.x (.string {data:=#[(98:UInt8),(97:UInt8),(116:UInt8),(104:UInt8),(32:UInt8),(49:UInt8),(48:UInt8),(48:UInt8),(32:UInt8),(51:UInt8),(48:UInt8),(48:UInt8)] })
abbrev QI:List AV:=[AV.x (.string {data:=#[(116:UInt8),(104:UInt8),(114:UInt8),(101:UInt8),(97:UInt8),(100:UInt8),(32:UInt8),(48:UInt8),(32:UInt8),(49:UInt8),(32:UInt8),(52:UInt8),(48:UInt8),(32:UInt8),(52:UInt8),(48:UInt8)] }),AV.x (.string {data:=#[(116:UInt8),(104:UInt8),(114:UInt8),(101:UInt8),(97:UInt8),(100:UInt8),(32:UInt8),(50:UInt8),(32:UInt8),(51:UInt8),(32:UInt8),(52:UInt8),(56:UInt8),(32:UInt8),(53:UInt8),(48:UInt8)] }),AV.x (.string {data:=#[(105:UInt8),(115:UInt8),(115:UInt8),(117:UInt8),(101:UInt8),(32:UInt8),(48:UInt8),(32:UInt8),(52:UInt8),(32:UInt8),(57:UInt8),(48:UInt8),(32:UInt8),(48:UInt8)] }),JG,AV.x (.string {data:=#[(115:UInt8),(101:UInt8),(101:UInt8),(32:UInt8),(48:UInt8),(32:UInt8),(50:UInt8),(48:UInt8),(48:UInt8)] }),AV.x (.string {data:=#[(115:UInt8),(101:UInt8),(101:UInt8),(32:UInt8),(49:UInt8),(32:UInt8),(50:UInt8),(48:UInt8),(51:UInt8)] }),JG,AV.x (.string {data:=#[(115:UInt8),(101:UInt8),(101:UInt8),(32:UInt8),(49:UInt8),(32:UInt8),(50:UInt8),(53:UInt8),(50:UInt8)] }),AV.x (.string {data:=#[(115:UInt8),(101:UInt8),(101:UInt8),(32:UInt8),(50:UInt8),(32:UInt8),(50:UInt8),(53:UInt8),(48:UInt8)] }),AV.x (.string {data:=#[(115:UInt8),(101:UInt8),(108:UInt8),(108:UInt8),(32:UInt8),(48:UInt8),(32:UInt8),(49:UInt8),(32:UInt8),(54:UInt8),(32:UInt8),(49:UInt8),(32:UInt8),(51:UInt8)] }),AV.x (.string {data:=#[(115:UInt8),(101:UInt8),(108:UInt8),(108:UInt8),(32:UInt8),(49:UInt8),(32:UInt8),(50:UInt8),(32:UInt8),(52:UInt8),(32:UInt8),(50:UInt8),(32:UInt8),(50:UInt8)] })]
theorem Wb1:U2 VT 20 [.x (.slice none 0 0)] (lns 11 (UR UC)):=by
 refine H3 Tryz.func20 (t:=need [176<=140737488355328,∀(i:Nat),i<0-> ∀(a:AV),a∈[]->AV.one a=true] (leaf (RV.lst 1 11 (GM 11 (UA 1 QI) λx=>[])))) VY ?_
 simp only [VR.sat,UF,GA,GR,UI,UL]
 (with_reducible repeat' first|apply Al|intro _)
 all_goals first|exact Ak|contradiction|omega|exact FU (by assumption) (by simp [AV.one,Value.oneCell'])|(rename_i ha;rw [B9.1 ha];first|exact Ak|rfl)|(rename_i i O;revert i;refine Jf1 ?_ ?_ ?_ ?_ ?_ ?_ ?_ ?_ ?_ ?_ ?_<;>(show _=_;kernel_rfl))|decide|rfl|trace_state
theorem Wb0:U2 VT 20 [.lst 1 5 (λk=>[.x (.string (UR GD k))])] (lns 16 (UR (UC++GD))):=by
 refine H3 Tryz.func20 (t:=need [256<=140737488355328,∀(i:Nat),i<5-> ∀(a:AV),a∈[FO (UR GD i)]->AV.one a=true] (leaf (RV.lst 1 16 (GM 11 (UA 1 QI) λk=>[FO (UR GD k)])))) VY ?_
 simp only [VR.sat,UF,GA,GR,UI,UL]
 (with_reducible repeat' first|apply Al|intro _)
 all_goals first|exact Ak|contradiction|omega|exact FU (by assumption) (by simp [AV.one,Value.oneCell'])|(rename_i ha;rw [B9.1 ha];first|exact Ak|rfl)|(rename_i i O;revert i;refine Xv5 ?_ ?_ ?_ ?_ ?_ ?_ ?_ ?_ ?_ ?_ ?_ ?_ ?_ ?_ ?_ ?_<;>(show _=_;kernel_rfl))|decide|rfl|trace_state
theorem Xf9:VU VT 20 Wz7:=by
 refine ⟨(UM Tryz.func20),?_⟩;intro avs ns res h I;unfold Wz7 at h;split at h
 ·cases h;exact Wb1
 ·rename_i n f;cases h;obtain rfl:n=5:=I _ VZ;have h2: ∀k,k<5->f k=[.x (.string (UR GD k))]:=I (∀k,k<5->f k=[.x (.string (UR GD k))]) VZ;exact Wb0.same (.cons (.lst 1 5 f _ h2) .nil)
 ·cases h
theorem Xs3:sK (UR (UC++GD)) 0=hs0:=rfl
theorem Xs2:sK (UR (UC++GD)) 1=wk1:=by
 show lnS (UR UC 0) (sK (UR (UC++GD)) 0)=_;rw [Xs3];unfold lnS;rw [if_pos Wa7];exact Xt3
theorem Xs1:sK (UR (UC++GD)) 2=wk2:=by
 show lnS (UR UC 1) (sK (UR (UC++GD)) 1)=_;rw [Xs2];unfold lnS;rw [if_pos Wa6];exact Xt2
theorem Xs0:sK (UR (UC++GD)) 3=wk3:=by
 show lnS (UR UC 2) (sK (UR (UC++GD)) 2)=_;rw [Xs1];unfold lnS;rw [if_pos Wa5];exact Xt1
theorem Xr9:sK (UR (UC++GD)) 4=wk4:=by
 show lnS (UR UC 3) (sK (UR (UC++GD)) 3)=_;rw [Xs0];unfold lnS;rw [if_pos Wa4];exact Xt0
theorem Xr8:sK (UR (UC++GD)) 5=wk5:=by
 show lnS (UR UC 4) (sK (UR (UC++GD)) 4)=_;rw [Xr9];unfold lnS;rw [if_pos Wa3];exact Xs9
theorem Xr7:sK (UR (UC++GD)) 6=wk6:=by
 show lnS (UR UC 5) (sK (UR (UC++GD)) 5)=_;rw [Xr8];unfold lnS;rw [if_pos Wa2];exact Xs8
theorem Xr6:sK (UR (UC++GD)) 7=wk7:=by
 show lnS (UR UC 6) (sK (UR (UC++GD)) 6)=_;rw [Xr7];unfold lnS;rw [if_pos Wa1];exact Xs7
theorem Xr5:sK (UR (UC++GD)) 8=wk8:=by
 show lnS (UR UC 7) (sK (UR (UC++GD)) 7)=_;rw [Xr6];unfold lnS;rw [if_pos Wa0];exact Xs6
theorem Xr4:sK (UR (UC++GD)) 9=wk9:=by
 show lnS (UR UC 8) (sK (UR (UC++GD)) 8)=_;rw [Xr5];unfold lnS;rw [if_pos Qz9];exact Xs5
theorem Qy7:sK (UR (UC++GD)) 10=Qn0:=by
 show lnS (UR UC 9) (sK (UR (UC++GD)) 9)=_;rw [Xr4];unfold lnS;rw [if_pos Qz8];exact Xs4
theorem Qy6:sK (UR (UC++GD)) 11=U0:=by
 show lnS (UR UC 10) (sK (UR (UC++GD)) 10)=_;rw [Qy7];unfold lnS;rw [if_pos nW];exact Qz0
theorem Qy5:sK (UR (UC++GD)) 12=U0:=by
 show lnS (UR GD 0) (sK (UR (UC++GD)) 11)=_;rw [Qy6];unfold lnS;rw [if_neg (by rw [Xt9];decide)]
theorem Qy4:sK (UR (UC++GD)) 13=U0:=by
 show lnS (UR GD 1) (sK (UR (UC++GD)) 12)=_;rw [Qy5];unfold lnS;rw [if_neg (by rw [Xt8];decide)]
theorem Qy3:sK (UR (UC++GD)) 14=U0:=by
 show lnS (UR GD 2) (sK (UR (UC++GD)) 13)=_;rw [Qy4];unfold lnS;rw [if_neg (by rw [Xt7];decide)]
theorem Zc6:sK (UR (UC++GD)) 15=Zf3:=by
 show lnS (UR GD 3) (sK (UR (UC++GD)) 14)=_;rw [Qy3];unfold lnS;rw [if_pos Xt6];exact Zx4
theorem Zx2:eK (UR (UC++GD)) 0=0:=by
 show lnE (UR UC 0) (sK (UR (UC++GD)) 0)=_;rw [Xs3];exact Wa7
theorem Zx1:eK (UR (UC++GD)) 1=0:=by
 show lnE (UR UC 1) (sK (UR (UC++GD)) 1)=_;rw [Xs2];exact Wa6
theorem Zx0:eK (UR (UC++GD)) 2=0:=by
 show lnE (UR UC 2) (sK (UR (UC++GD)) 2)=_;rw [Xs1];exact Wa5
theorem Zw9:eK (UR (UC++GD)) 3=0:=by
 show lnE (UR UC 3) (sK (UR (UC++GD)) 3)=_;rw [Xs0];exact Wa4
theorem Zw8:eK (UR (UC++GD)) 4=0:=by
 show lnE (UR UC 4) (sK (UR (UC++GD)) 4)=_;rw [Xr9];exact Wa3
theorem Zw7:eK (UR (UC++GD)) 5=0:=by
 show lnE (UR UC 5) (sK (UR (UC++GD)) 5)=_;rw [Xr8];exact Wa2
theorem Zw6:eK (UR (UC++GD)) 6=0:=by
 show lnE (UR UC 6) (sK (UR (UC++GD)) 6)=_;rw [Xr7];exact Wa1
theorem Zw5:eK (UR (UC++GD)) 7=0:=by
 show lnE (UR UC 7) (sK (UR (UC++GD)) 7)=_;rw [Xr6];exact Wa0
theorem Zw4:eK (UR (UC++GD)) 8=0:=by
 show lnE (UR UC 8) (sK (UR (UC++GD)) 8)=_;rw [Xr5];exact Qz9
theorem Zw3:eK (UR (UC++GD)) 9=0:=by
 show lnE (UR UC 9) (sK (UR (UC++GD)) 9)=_;rw [Xr4];exact Qz8
theorem Zd2:eK (UR (UC++GD)) 10=0:=by
 show lnE (UR UC 10) (sK (UR (UC++GD)) 10)=_;rw [Qy7];exact nW
theorem Zd1:eK (UR (UC++GD)) 11=9:=by
 show lnE (UR GD 0) (sK (UR (UC++GD)) 11)=_;rw [Qy6];exact Xt9
theorem Zd0:eK (UR (UC++GD)) 12=10:=by
 show lnE (UR GD 1) (sK (UR (UC++GD)) 12)=_;rw [Qy5];exact Xt8
theorem Zc9:eK (UR (UC++GD)) 13=9:=by
 show lnE (UR GD 2) (sK (UR (UC++GD)) 13)=_;rw [Qy4];exact Xt7
theorem Zc8:eK (UR (UC++GD)) 14=0:=by
 show lnE (UR GD 3) (sK (UR (UC++GD)) 14)=_;rw [Qy3];exact Xt6
theorem Zc7:eK (UR (UC++GD)) 15=0:=by
 show lnE (UR GD 4) (sK (UR (UC++GD)) 15)=_;rw [Zc6];exact Zx5
def wrB:ByteArray:=⟨#[91,48,48,49,58,48,48,50,50,51,93,97,10]⟩
def lnA(_:Nat):ByteArray:=⟨#[97]⟩
def Xq3(s:HS):DM:=λl=>some (.need [l=[lns 16 (UR (UC++GD))]] (.leaf (.tup [.agg (hsL s),.lst 1 16 (λj=>[i (UD [0,0,0,0,0,0,0,0,0,0,0,9,10,9,0,0] j)]),i 0])))
def Zr4:DM:=λl=>some (.need [l=[lns 11 (UR UC)]] (.leaf (.tup [.lst 2 3 (λk=>[i (UD [0,1,-3] k),i (UD [0,5,5] k)]),i 0])))
def Zr1:DM:=λl=>some (.need [l=[lns 11 (UR UC),i 0]] (.leaf (.tup [.lst 1 1 (λk=>[i (UD [0] k)]),i 0])))
def Zr3:DM:=λl=>some (.need [l=[lns 11 (UR UC),i 1]] (.leaf (.tup [.lst 1 2 (λk=>[i (UD [0,1] k)]),.lst 1 1 (λk=>[i (UD [0] k)]),i 0])))
def Zr2:G0:=λl=>some ([l=[lns 11 (UR UC)]],.tup [.x (.string Zj1),i 0])
def Xb0:DM:=λl=>match l with
 |[.lst 1 n f]=>some (.need [n=1,f 0=[.x (.string (lnA 0))]] (.leaf (.tup [.lst 1 13 (D3 wrB),i 0])))
 |_=>none
theorem wE{P:Program}{f:FuncId}{avs:List AV}{t sp:VR AV}(h:US P f avs t)(hm: ∀Q:AV->Prop,sp.sat Q->t.sat (λr=> ∃r',FL r r'/\Q r')):US P f avs sp:=by
 intro Q hQ e w args q1 q2 q3 q4;refine (h _ (hm Q hQ) e w args q1 q2 q3 q4).mono ?_;rintro en w' ⟨v,r,rfl,⟨r',g1,g2⟩,g3,g4⟩;exact ⟨v,r',rfl,g2,g3,L4 g1 g4⟩
theorem Zx3:ckE 16 (UR (UC++GD))=0:=by decide+kernel
theorem Wb2(s:HS)(hs:s=sK (UR (UC++GD)) 16):Sx.Enters Tryz.prog 19/\ ∀avs t,Xq3 s avs=some t->US VT 19 avs t:=by
 refine ⟨(UM Tryz.func19),?_⟩;intro avs t h;cases h;intro Q hQ;have e:avs=[lns 16 (UR (UC++GD))]:=hQ.1;subst e;have h1:=Ws1 16 (UR (UC++GD)) VO;refine wE h1 (sp:= .leaf (.tup [.agg (hsL s),.lst 1 16 (λj=>[i (UD [0,0,0,0,0,0,0,0,0,0,0,9,10,9,0,0] j)]),i 0])) (λQ hq=>⟨λh=>?_,λ_=>?_⟩) Q hQ.2
 ·rw [Zx3] at h;exact absurd h (by decide)
 ·refine ⟨.tup [.agg (hsL s),.lst 1 16 (λj=>[i (UD [0,0,0,0,0,0,0,0,0,0,0,9,10,9,0,0] j)]),i 0],⟨?_,⟨rfl,rfl,λk hk=>?_⟩,⟨rfl,rfl⟩,Ak⟩,hq⟩
  ·rw [hs];exact Qe9 _
  ·revert k;refine Xv5 (congrArg (λz=>[i z]) Zx2) (congrArg (λz=>[i z]) Zx1) (congrArg (λz=>[i z]) Zx0) (congrArg (λz=>[i z]) Zw9) (congrArg (λz=>[i z]) Zw8) (congrArg (λz=>[i z]) Zw7) (congrArg (λz=>[i z]) Zw6) (congrArg (λz=>[i z]) Zw5) (congrArg (λz=>[i z]) Zw4) (congrArg (λz=>[i z]) Zw3) (congrArg (λz=>[i z]) Zd2) (congrArg (λz=>[i z]) Zd1) (congrArg (λz=>[i z]) Zd0) (congrArg (λz=>[i z]) Zc9) (congrArg (λz=>[i z]) Zc8) (congrArg (λz=>[i z]) Zc7)
theorem Xg4:Sx.Enters Tryz.prog 21/\ ∀avs t,Zr4 avs=some t->US VT 21 avs t:=by
 refine ⟨(UM Tryz.func21),?_⟩;intro avs t h;cases h;intro Q hQ;have e:avs=[lns 11 (UR UC)]:=hQ.1;subst e;have h1:=lL 11 (UR UC) VO;rw [AW] at h1;refine wE h1 (sp:= .leaf (.tup [.lst 2 3 (λk=>[i (UD [0,1,-3] k),i (UD [0,5,5] k)]),i 0])) (λQ hq=>⟨λh=>?_,λ_=>?_⟩) Q hQ.2
 ·rw [cJ] at h;exact absurd h (by decide)
 ·refine ⟨.tup [.lst 2 3 (λk=>[i (UD [0,1,-3] k),i (UD [0,5,5] k)]),i 0],⟨⟨rfl,Xt4,λk hk=>?_⟩,(show FL (i _) (i 0) by rw [Xt5];exact ⟨rfl,rfl⟩),Ak⟩,hq⟩
  rcases (show k=0\/k=1\/k=2 by omega) with rfl|rfl|rfl
  ·show [i _,i _]=_;rw [Qz3,Qz6];rfl
  ·show [i _,i _]=_;rw [Qz2,Qz5];rfl
  ·show [i _,i _]=_;rw [Qz1,Qz4];rfl
theorem Xg1:Sx.Enters Tryz.prog 22/\ ∀avs t,Zr1 avs=some t->US VT 22 avs t:=by
 refine ⟨(UM Tryz.func22),?_⟩;intro avs t h;cases h;intro Q hQ;have e:avs=[lns 11 (UR UC),i 0]:=hQ.1;subst e;have h1:=aN 11 (UR UC) 0 VO;rw [AW] at h1;have I:U0.nc=1:=VY;have hc:GE (stP U0 0) 1=1:=by rw [FT Qy9];rfl
 refine wE h1 (sp:= .leaf (.tup [.lst 1 1 (λk=>[i (UD [0] k)]),i 0])) (λQ hq=>⟨λh=>?_,λ_=>⟨λh=>absurd h (by decide),λ_=>?_⟩⟩) Q hQ.2
 ·rw [cJ] at h;exact absurd h (by decide)
 ·refine ⟨.tup [.lst 1 1 (λk=>[i (UD [0] k)]),i 0],⟨⟨rfl,by rw [I];exact hc,λk hk=>?_⟩,⟨rfl,rfl⟩,Ak⟩,hq⟩
  obtain rfl:k=0:=VO;have h2:=wF (show 0<U0.nc by rw [I];omega) Qy9
  have h3:GE (stP U0 0) 0=0:=rfl;rw [h3] at h2;show [i _]=_;rw [h2];rfl
theorem Xg3:Sx.Enters Tryz.prog 23/\ ∀avs t,Zr3 avs=some t->US VT 23 avs t:=by
 refine ⟨(UM Tryz.func23),?_⟩;intro avs t h;cases h;intro Q hQ;have e:avs=[lns 11 (UR UC),i 1]:=hQ.1;subst e;have h1:=Qt5 11 (UR UC) 1 VO;rw [AW] at h1;have c0:GE (caB U0.ns U0.sa U0.sb U0.sc U0.sl U0.sh 1) 0=0:=rfl;have c1:GE (caB U0.ns U0.sa U0.sb U0.sc U0.sl U0.sh 1) 1=1:=by rw [FT Wa9,c0]
 have c2:GE (caB U0.ns U0.sa U0.sb U0.sc U0.sl U0.sh 1) 2=2:=by rw [FT Wa8,c1]
 have c3:GE (caB U0.ns U0.sa U0.sb U0.sc U0.sl U0.sh 1) 3=2:=by rw [RX Zf2,c2]
 have c4:GE (caB U0.ns U0.sa U0.sb U0.sc U0.sl U0.sh 1) 4=2:=by rw [RX Zf1,c3]
 have d0:GE (suB U0.ns U0.sa U0.sb U0.sc U0.sl U0.sh 1) 0=0:=rfl;have d1:GE (suB U0.ns U0.sa U0.sb U0.sc U0.sl U0.sh 1) 1=1:=by rw [FT Qy8,d0]
 have d2:GE (suB U0.ns U0.sa U0.sb U0.sc U0.sl U0.sh 1) 2=1:=by rw [RX Zd5,d1]
 have d3:GE (suB U0.ns U0.sa U0.sb U0.sc U0.sl U0.sh 1) 3=1:=by rw [RX Zd4,d2]
 have d4:GE (suB U0.ns U0.sa U0.sb U0.sc U0.sl U0.sh 1) 4=1:=by rw [RX Zd3,d3]
 have e0:=wF (show 0<4 by omega) Wa9
 have e1:=wF (show 1<4 by omega) Wa8
 have f0:=wF (show 0<4 by omega) Qy8
 rw [c0] at e0;rw [c1] at e1;rw [d0] at f0;refine wE h1 (sp:= .leaf (.tup [.lst 1 2 (λk=>[i (UD [0,1] k)]),.lst 1 1 (λk=>[i (UD [0] k)]),i 0])) (λQ hq=>⟨λh=>?_,λ_=>⟨λh=>absurd h (by decide),λ_=>⟨λh=>?_,λ_=>?_⟩⟩⟩) Q hQ.2
 ·rw [cJ] at h;exact absurd h (by decide)
 ·rw [Qz7] at h;exact Bool.noConfusion h
 ·refine ⟨.tup [.lst 1 2 (λk=>[i (UD [0,1] k)]),.lst 1 1 (λk=>[i (UD [0] k)]),i 0],⟨⟨rfl,c4,λk hk=>?_⟩,⟨rfl,d4,λk hk=>?_⟩,⟨rfl,rfl⟩,Ak⟩,hq⟩
  ·rcases (show k=0\/k=1 by omega) with rfl|rfl
   ·show [i _]=_;rw [e0];rfl
   ·show [i _]=_;rw [e1];rfl
  ·obtain rfl:k=0:=VO;show [i _]=_;rw [f0];rfl
theorem Xg2:VU VT 24 Zr2:=by
 refine ⟨(UM Tryz.func24),?_⟩;intro avs ns res h I;cases h;have e:avs=[lns 11 (UR UC)]:=I _ GK;subst e;exact lK
theorem Xg0:Sx.Enters Tryz.prog 13/\ ∀avs t,Xb0 avs=some t->US VT 13 avs t:=by
 refine ⟨(UM Tryz.func13),?_⟩;intro avs t h;unfold Xb0 at h;split at h
 ·rename_i n f;cases h;intro Q hQ;obtain rfl:n=1:=hQ.1.1;have h2:f 0=[.x (.string (lnA 0))]:=hQ.1.2;have h1:=S0 1 lnA VO;have hb:flB lnA 1=wrB:=by decide+kernel
  rw [hb] at h1;have h3:US VT 13 [.lst 1 1 f] (.leaf (.tup [.lst 1 13 (D3 wrB),i 0])):=by
   intro Q hq e w args q1 q2 q3 q4;refine h1 Q ⟨λh=>?_,λ_=>hq⟩ e w args q1 q2 ?_ ?_
   ·rw [show ckE 1 lnA=0 by decide+kernel] at h
    exact absurd h (by decide)
   ·intro a ha;rw [B9.1 ha];exact .lst _ _ _ λk _ x hx=>by rw [B9.1 hx];exact .x _
   ·obtain ⟨u,us,rfl,r1,r2⟩:=q4.cons_inv;refine .cons (L4 (a:= .lst 1 1 f) ⟨rfl,rfl,λk hk=>?_⟩ r1) r2
    obtain rfl:k=0:=VO;exact h2
  exact h3 Q hQ.2
 ·cases h
theorem Zl6{a b:ByteArray}(h:(a.toList==b.toList)=false)(e:a=b):False:=by
 subst e;simp at h
abbrev WH:List Int:=[(0:Int),0,0,0,0,0,0,0,0,0,0,(9:Int),(10:Int),(9:Int),(0:Int),(0:Int)]
abbrev JH:List AV:=[lst 1 11 λk=>[FO (UR UC k)],iI 0]
abbrev JI:List AV:=[lst 1 11 λk=>[FO (UR UC k)],iI 1]
abbrev JK:List AV:=[lst 1 16 λk=>[FO (UR (UC++GD) k)]]
theorem Qn2(s:HS)(VW:s=sK (UR (UC++GD)) 16):U2 VT 8 [] (bl true):=by
 refine GF (L:=[]) (Ae Xf9 (Ae Wj1 (Ae Xg2 Aa))) (Aj Ab Ac (Ah (Wb2 s VW) (Ah Xg4 (Ah Xg1 (Ah Xg3 (Ah Xg0 (UG.nil _))))))) U3 Tryz.func8 (UY Tryz.f8) G9 (t:=let A:=(UA 1 [iI 0,iI 1]);let z1:=(UA 1 [iI 0]);(need [5=5,H2 5 (UA 1 [AV.x (.string {data:=#[116,104,114,101,97,100,32,48,32,50,32,52,48,32,52,48] }),AV.x (.string {data:=#[105,115,115,117,101,32,48,32,52,32,56,48,32,48] }),AV.x (.string {data:=#[115,101,101,32,48,32,49,48,48] }),AV.x (.string {data:=#[115,116,114,105,107,101,32,49] }),AV.x (.string {data:=#[118,111,105,100,32,48] })]) (λk=>[FO (UR GD k)])] (need [JK=JK] (need [WM=WM] (need [JH=JH] (need [JI=JI] (need [WM=WM] (need [1=1,[AV.x (.string {data:=#[97] })]=[FO (lnA 0)]] (branch ((0:Int)==0) (branch ((↑(16:Nat):Int)==16) (need [UO 10 16] (branch (UD WH (10:Int).toNat==0) (need [UO 11 16] (branch (UD WH (11:Int).toNat==9) (need [UO 12 16] (branch (UD WH (12:Int).toNat==10) (need [UO 13 16] (branch (UD WH (13:Int).toNat==9) (need [UO 14 16] (branch (UD WH (14:Int).toNat==0) (need [UO 15 16] (branch (UD WH (15:Int).toNat==0) (branch ((0:Int)==0) (branch ((↑(3:Nat):Int)==3) (need [UO 1 3] (branch (UD WW (1:Int).toNat==1&&(UD Z9 (1:Int).toNat==5&&true)) (need [UO 2 3] (branch (UD WW (2:Int).toNat==(-3:Int)&&(UD Z9 (2:Int).toNat==5&&true)) (branch ((0:Int)==0) (need [UJ 1 1 λk=>[i (UD [(0:Int)] k)],UJ 1 1 z1,1<=100000] (branch (decide (1=1)&&(true&&UD [(0:Int)] (nat_lit 0)==col 0 z1 (nat_lit 0))) (branch ((0:Int)==0) (need [UJ 1 2 λk=>[i (UD [(0:Int),1] k)],UJ 1 2 A,2<=100000] (branch (decide (2=2)&&(true&&UD [(0:Int),1] (nat_lit 0)==col 0 A (nat_lit 0)&&UD [(0:Int),1] (nat_lit 1)==col 0 A (nat_lit 1))) (need [UJ 1 1 λk=>[i (UD [(0:Int)] k)],UJ 1 1 z1,1<=100000] (branch (decide (1=1)&&(true&&UD [(0:Int)] (nat_lit 0)==col 0 z1 (nat_lit 0))) (branch ((0:Int)==0) (branch (ByteArray.toList Zj1==ByteArray.toList {data:=List.toArray (List.append (List.append [(114:UInt8),(101:UInt8),(97:UInt8),(100:UInt8),(105:UInt8),(110:UInt8),(103:UInt8),(115:UInt8),(32:UInt8),(50:UInt8),(32:UInt8),(98:UInt8),(97:UInt8),(116:UInt8),(104:UInt8),(115:UInt8),(32:UInt8),(50:UInt8),(32:UInt8),(99:UInt8),(101:UInt8),(114:UInt8),(116:UInt8),(105:UInt8),(102:UInt8),(105:UInt8),(99:UInt8),(97:UInt8),(116:UInt8),(101:UInt8),(115:UInt8),(32:UInt8),(49:UInt8),(32:UInt8)] [(115:UInt8),(97:UInt8),(108:UInt8),(101:UInt8),(115:UInt8),(32:UInt8),(50:UInt8),(10:UInt8),(109:UInt8),(97:UInt8),(114:UInt8),(107:UInt8),(115:UInt8),(32:UInt8),(48:UInt8),(46:UInt8),(46:UInt8),(48:UInt8),(32:UInt8),(50:UInt8),(48:UInt8),(48:UInt8),(46:UInt8),(46:UInt8),(51:UInt8),(48:UInt8),(48:UInt8),(32:UInt8),(52:UInt8),(49:UInt8),(48:UInt8),(46:UInt8),(46:UInt8),(53:UInt8)]) (List.append [(49:UInt8),(48:UInt8),(32:UInt8),(55:UInt8),(48:UInt8),(48:UInt8),(46:UInt8),(46:UInt8),(56:UInt8),(48:UInt8),(48:UInt8),(32:UInt8),(49:UInt8),(48:UInt8),(48:UInt8),(48:UInt8),(46:UInt8),(46:UInt8),(49:UInt8),(48:UInt8),(48:UInt8),(48:UInt8),(10:UInt8),(111:UInt8),(102:UInt8),(102:UInt8),(115:UInt8),(101:UInt8),(116:UInt8),(115:UInt8),(32:UInt8),(48:UInt8),(46:UInt8),(46:UInt8)] [(48:UInt8),(32:UInt8),(49:UInt8),(46:UInt8),(46:UInt8),(53:UInt8),(32:UInt8),(45:UInt8),(51:UInt8),(46:UInt8),(46:UInt8),(53:UInt8),(10:UInt8),(115:UInt8),(116:UInt8),(97:UInt8),(110:UInt8),(100:UInt8),(32:UInt8),(48:UInt8),(10:UInt8),(104:UInt8),(111:UInt8),(108:UInt8),(100:UInt8),(32:UInt8),(52:UInt8),(32:UInt8),(50:UInt8),(32:UInt8),(52:UInt8),(32:UInt8),(48:UInt8),(10:UInt8)])) }) (branch ((0:Int)==0) (need [wO 13 (D3 wrB)] (leaf (RV.x (.bool (ByteArray.toList (bsO 13 (D3 wrB))==ByteArray.toList {data:=#[91,48,48,49,58,48,48,50,50,51,93,97,10] }))))) (leaf (RV.x (WN)))) (leaf (RV.x (WN)))) (leaf (RV.x (WN)))) (leaf (RV.x (WN))))) (leaf (RV.x (WN))))) (leaf (RV.x (WN)))) (leaf (RV.x (WN))))) (leaf (RV.x (WN)))) (leaf (RV.x (WN))))) (leaf (RV.x (WN))))) (leaf (RV.x (WN)))) (leaf (RV.x (WN)))) (leaf (RV.x (WN))))) (leaf (RV.x (WN))))) (leaf (RV.x (WN))))) (leaf (RV.x (WN))))) (leaf (RV.x (WN))))) (leaf (RV.x (WN))))) (leaf (RV.x (WN)))) (leaf (RV.x (WN)))))))))))) VY ?_
 have hw:bsO 13 (D3 wrB)=wrB:=Zq5 wrB;simp only [VR.sat,UF,GA,GR,UI,UL,VQ,hw]
 (with_reducible repeat' first|apply Al|intro _)
 all_goals first|exact Ak|contradiction|(rename_i h;exact (Zl6 h VY).elim)|omega|exact sZ (by decide+kernel)|(intro k hk;exact ltM VY k hk)|(rename_i k hk;exact ltM VY k hk)|(rename_i k hk;revert k;refine ltM ?_;kernel_rfl)|(intro k hk;revert k;refine ltM ?_;kernel_rfl)|decide|decide+kernel|rfl
def Qi1:G0
 |[]=>some ([],bl true)
 |_=>none
theorem cK:VU VT 8 Qi1:=by
 refine ⟨(UM Tryz.func8),?_⟩;intro avs ns res h I;unfold Qi1 at h;split at h
 ·cases h;exact Qn2 _ rfl
 ·cases h
section
variable (n:Nat)(L:Nat->ByteArray)
def thA:Bool:=DF (λk=>decide (((L k).size:Int)<=210)) (min n 56)
def thB:Bool:=thA n L&&decide ((n:Int)<=55)
def rgB:Bool:=DF (λk=>decide (((L k).size:Int)<=200)) n&&decide ((n:Int)<=50)
def rdB(most:Int):Bool:=thB n L&&(rgB n L&&decide ((n:Int)<=most))
def Xe1:St:={σ:=[Q8 n L]++HO 22 [],m:=[],nx:=2}
noncomputable def Jr6:Code:=UE (VX (UB Tryz.f17) 0)
def Wk5(k:Nat):St:=(upM [(3,i k)] (Xe1 n L))
def vX(k:Nat):GB->Option St
 | .exit 0=>some (upM [] (Xe1 n L))
 | .ret=>some (upM [(2,.lit false)] (Xe1 n L))
 |_=>none
def Jn0:CT:= .branch (DF ((λk=>decide (((L k).size:Int)<=210))) (min n 56)) (.leaf (.exit 0,(vX n L 0 (.exit 0)).getD (Xe1 n L))) (.leaf (.ret,(vX n L 0 .ret).getD (Xe1 n L)))
def Xy0:UN:=(HM (Wk5 n L (0)) (Jn0 n L))
theorem Zz7(VW:(min n 56)<=100000):GC VT (.loop Jr6) (Xy0 n L):=by
 refine HL (L:=[]) Aa U3 U8 (X:=Nat) (Wk5 n L) (λk=>k<=(min n 56)/\ ∀j,j<k->((λk=>decide (((L k).size:Int)<=210))) j=true) (λk=>(min n 56)-k) (vX n L) (x0:=0) ⟨VO,λj hj=>VO⟩ ?_ ?_ ?_
 ·rintro k;kernel_rfl
 ·rintro k y E h;unfold vX at h;split at h
  ·cases h;kernel_rfl
  ·cases h;kernel_rfl
  ·cases h
 ·rintro Q hQ k hx;refine ⟨(k+1),?_⟩;(with_reducible refine DN (t:=let A:=(need [U4 (Q8 n L)] (leaf (GB.exit 0)));(branch (decide ((k:Int)<(n:Int))) (branch (decide ((k:Int)<56)) (need [UO k n] (branch (decide ((↑(ByteArray.size (L k)):Int)>210)) (need [U4 (Q8 n L),WO] (leaf GB.ret)) (need [VQ ((k:Int)+1)] (need [U4 (Q8 n L),(k:Int)+1=(↑(k+1):Int)] (leaf GB.normal))))) A) A)) VY ?_);simp only [Jn0,vX,VR.sat,GZ] at hQ;have Wr7:k<(min n 56)->((λk=>decide (((L k).size:Int)<=210))) k=false->DF ((λk=>decide (((L k).size:Int)<=210))) (min n 56)=false:=by
   intro h1 h2;rw [←Bool.not_eq_true];intro h3;have:=GY.1 h3 k h1;exact Bool.noConfusion (h2.symm.trans this)
  have d6:((λk=>decide (((L k).size:Int)<=210))) k=true-> ∀j,j<k+1->((λk=>decide (((L k).size:Int)<=210))) j=true:=by
   intro h1 j hj;rcases (show j<k\/j=k by omega) with h|rfl
   ·exact hx.2 j h
   ·exact h1
  have PL: ¬k<(min n 56)->DF ((λk=>decide (((L k).size:Int)<=210))) (min n 56)=true:=λh=>GY.2 (λj hj=>hx.2 j VO)
  have hQ1: ∀E,vX n L k .ret=some E->DF ((λk=>decide (((L k).size:Int)<=210))) (min n 56)=false->Q (.ret,E):=by
   intro E hE hf;cases hE;exact hQ.2 hf
  have hQ2: ∀E,vX n L k (.exit 0)=some E->DF ((λk=>decide (((L k).size:Int)<=210))) (min n 56)=true->Q (.exit 0,E):=by
   intro E hE hf;cases hE;exact hQ.1 hf
  simp only [VR.sat,UF,UL,HD,VQ,DR]
  all_goals exact VB
theorem Wj8:U2 VT 17 [lns n L] (bl (thB n L)):=by
 refine U6 (L:=[FV [min n 56<=100000] (Xy0 n L)]) Aa U3 Tryz.func17 (UY Tryz.f17) (G4 (lpE (b:= .loop Jr6) VY<|D9 (λh=>Zz7 n L h))) (t:=need [min n 56<=100000] (need [U4 (Q8 n L),(0:Int)=(↑(0:Nat):Int)] (branch (DF (λk=>decide ((↑(ByteArray.size (L k)):Int)<=210)) (min n 56)) (leaf (RV.x (.bool (decide ((n:Int)<=55))))) (leaf (RV.x (WN)))))) VY ?_
 simp only [VR.sat,UF,GA,GR,UI,VQ,UL,HD,RF];unfold thB thA;refine ⟨VO,λh=>?_,λh=>?_⟩
 ·simp [h]
 ·simp [h]
def Xq6:G0:=λl=>some ([l=[lns n L]],bl (thB n L))
theorem Qq6:VU VT 17 (Xq6 n L):=by
 refine ⟨(UM Tryz.func17),?_⟩;intro avs ns res h I;cases h;have e:=I _ GK;subst e;exact Wj8 n L
def bZ:St:={σ:=[Q8 n L]++HO 18 [],m:=[],nx:=2}
noncomputable def Xf4:Code:=UE (VX (UB Tryz.f18) 0)
def I2(k:Nat):St:=(upM [(3,i k)] (bZ n L))
def PZ(k:Nat):GB->Option St
 | .exit 0=>some (upM [] (bZ n L))
 | .ret=>some (upM [(2,.lit false)] (bZ n L))
 |_=>none
def Wz4:CT:= .branch (DF ((λk=>decide (((L k).size:Int)<=200))) n) (.leaf (.exit 0,(PZ n L 0 (.exit 0)).getD (bZ n L))) (.leaf (.ret,(PZ n L 0 .ret).getD (bZ n L)))
def nI:UN:=(HM (I2 n L (0)) (Wz4 n L))
theorem We7(VW:n<=100000):GC VT (.loop Xf4) (nI n L):=by
 refine HL (L:=[]) Aa U3 U8 (X:=Nat) (I2 n L) (λk=>k<=n/\ ∀j,j<k->((λk=>decide (((L k).size:Int)<=200))) j=true) (λk=>n-k) (PZ n L) (x0:=0) ⟨VO,λj hj=>VO⟩ ?_ ?_ ?_
 ·rintro k;kernel_rfl
 ·rintro k y E h;unfold PZ at h;split at h
  ·cases h;kernel_rfl
  ·cases h;kernel_rfl
  ·cases h
 ·rintro Q hQ k hx;refine ⟨(k+1),?_⟩;(with_reducible refine DN (t:=branch (decide ((k:Int)<(n:Int))) (need [UO k n] (branch (decide ((↑(ByteArray.size (L k)):Int)>200)) (need [U4 (Q8 n L),WO] (leaf GB.ret)) (need [VQ ((k:Int)+1)] (need [U4 (Q8 n L),(k:Int)+1=(↑(k+1):Int)] (leaf GB.normal))))) (need [U4 (Q8 n L)] (leaf (GB.exit 0)))) VY ?_);simp only [Wz4,PZ,VR.sat,GZ] at hQ;have Wr7:k<n->((λk=>decide (((L k).size:Int)<=200))) k=false->DF ((λk=>decide (((L k).size:Int)<=200))) n=false:=by
   intro h1 h2;rw [←Bool.not_eq_true];intro h3;have:=GY.1 h3 k h1;exact Bool.noConfusion (h2.symm.trans this)
  have d6:((λk=>decide (((L k).size:Int)<=200))) k=true-> ∀j,j<k+1->((λk=>decide (((L k).size:Int)<=200))) j=true:=by
   intro h1 j hj;rcases (show j<k\/j=k by omega) with h|rfl
   ·exact hx.2 j h
   ·exact h1
  have PL: ¬k<n->DF ((λk=>decide (((L k).size:Int)<=200))) n=true:=λh=>GY.2 (λj hj=>hx.2 j VO)
  have hQ1: ∀E,PZ n L k .ret=some E->DF ((λk=>decide (((L k).size:Int)<=200))) n=false->Q (.ret,E):=by
   intro E hE hf;cases hE;exact hQ.2 hf
  have hQ2: ∀E,PZ n L k (.exit 0)=some E->DF ((λk=>decide (((L k).size:Int)<=200))) n=true->Q (.exit 0,E):=by
   intro E hE hf;cases hE;exact hQ.1 hf
  simp only [VR.sat,UF,UL,HD,VQ,DR]
  all_goals exact VB
theorem Qq8(VW:n<=100000):U2 VT 18 [lns n L] (bl (rgB n L)):=by
 refine U6 (L:=[FV [n<=100000] (nI n L)]) Aa U3 Tryz.func18 (UY Tryz.f18) (G4 (lpE (b:= .loop Xf4) VY<|D9 (λh=>We7 n L h))) (t:=need [n<=100000] (need [U4 (Q8 n L),(0:Int)=(↑(0:Nat):Int)] (branch (DF (λk=>decide ((↑(ByteArray.size (L k)):Int)<=200)) n) (leaf (RV.x (.bool (decide ((n:Int)<=50))))) (leaf (RV.x (WN)))))) VY ?_
 simp only [VR.sat,UF,GA,GR,UI,VQ,UL,HD,RF];unfold rgB;refine ⟨VO,λh=>?_,λh=>?_⟩
 ·simp [h]
 ·simp [h]
def Qw8:G0:=λl=>some ([l=[lns n L],n<=100000],bl (rgB n L))
theorem pP:VU VT 18 (Qw8 n L):=by
 refine ⟨(UM Tryz.func18),?_⟩;intro avs ns res h I;cases h;have e:avs=[lns n L]:=I _ VZ;have h0:n<=100000:=I _ VZ;subst e;exact Qq8 n L h0
theorem Qq9(most:Int):U2 VT 7 [lns n L,i most] (bl (rdB n L most)):=by
 refine U6 (L:=[]) (Ae (Qq6 n L) (Ae (pP n L) Aa)) U3 Tryz.func7 (UY Tryz.f7) U8 (t:=need [(Y6 n L)] (branch (thB n L) (need [(Y6 n L),n<=100000] (branch (rgB n L) (leaf (RV.x (.bool (decide ((n:Int)<=most))))) (leaf (RV.x (WN))))) (leaf (RV.x (WN))))) VY ?_;simp only [VR.sat,UF,GA,UI,UL];have I:thB n L=true->n<=55:=λh=>by
  unfold thB at h;rw [HE,y6] at h;omega
 unfold rdB
 (with_reducible repeat' first|apply Al|intro _)
 all_goals first|(have:=I (by assumption);omega)|simp_all
def Xb3(most:Int):G0:=λl=>some ([l=[lns n L,i most]],bl (rdB n L most))
theorem I0(most:Int):VU VT 7 (Xb3 n L most):=by
 refine ⟨(UM Tryz.func7),?_⟩;intro avs ns res h I;cases h;have e:=I _ GK;subst e;exact Qq9 n L most
theorem Wj9(VW:n<=100000):U2 VT 14 [lns n L] (lns n L):=by
 refine GF (L:=[]) Aa Ad U3 Tryz.func14 (UY Tryz.f14) G9 (t:=need [(0+n)*16<=140737488355328,∀(i:Nat),i<n-> ∀(a:AV),a∈[FO (L i)]->AV.one a=true] (leaf (RV.lst 1 (0+n) (GM 0 (λx=>[]) λk=>[FO (L k)])))) VY ?_
 simp only [VR.sat,UF,GA,true_and]
 (with_reducible repeat' first|apply Al|intro _)
 all_goals first|exact Ak|omega|(rename_i ha;rw [B9.1 ha];first|exact Ak|rfl)|exact IY _ _|rfl|trace_state
end
theorem catS{a:Nat->ByteArray}{k j:Nat}{x:ByteArray}(h:j<k+1)(hx:x=a k):GM k (λz=>[.x (.string (a z))]) (UA 1 [.x (.string x)]) j=[.x (.string (a j))]:=by
 subst hx;rcases (show j<k\/j=k by omega) with h1|rfl
 ·show HG (decide (j<k)) _ (UA _ _ (j-k))=_;rw [decide_eq_true h1,show j-k=0 by omega]
  rfl
 ·show HG (decide (j<j)) _ (UA _ _ (j-j))=_;rw [show decide (j<j)=false by simp,Bs]
  rfl
def lnF(f:Nat->List AV)(k:Nat):ByteArray:=stO (f k)
section
variable {n:Nat}{L:Nat->ByteArray}
theorem Jl6(h1:n<=50)(h2: ∀k,k<n->(L k).size<=200):ckE n L=0:=by
 unfold ckE;rw [if_pos ⟨h1,GY.2 λk hk=>decide_eq_true (by have:=h2 k hk;omega)⟩]
theorem Jd1{most:Int}(h:rdB n L most=true):ckE n L=0/\(n:Int)<=most:=by
 unfold rdB at h;rw [HE,HE,y6] at h;obtain ⟨_,h2,h3⟩:=h;unfold rgB at h2;rw [HE,y6] at h2;refine ⟨Jl6 VO λk hk=>?_,h3⟩
 have:=BO (GY.1 h2.1 k hk);omega
end
end Go.Proofs.YtlclobclmfhlmaaGreatDoor.Hd
