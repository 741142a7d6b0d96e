/- Contracts, put together. Conditions: those of each. -/
import Derived.Test.YtlclobclmfhlmaaGreatDoorMn
import Derived.Shelf.Strings.Builder1
import Derived.Shelf.Strings.Builder2
import Derived.Shelf.Strings.OnBuilder
set_option linter.unusedSimpArgs false
set_option linter.unusedVariables false
set_option maxRecDepth 100000
namespace Go.Proofs.YtlclobclmfhlmaaGreatDoor.Hd
open Go Go.Shelf Go.Sx Go.RowKit
def pL:Go.Shelf.Ren:=⟨λ| 169=>47|n=>n,λ| 70=>108| 72=>110| 37=>45| 127=>170|n=>n,λn=>n⟩
theorem Zm7:Go.Proofs.Lays.n169 Tryz.prog pL:=by
 constructor<;>first|(intro _;kernel_rfl)|kernel_rfl|(constructor<;>first|(intro _;kernel_rfl)|kernel_rfl|(constructor<;>first|(intro _;kernel_rfl)|kernel_rfl))
def rL:Go.Shelf.Ren:=⟨λ| 156=>74| 165=>100| 166=>42| 169=>47| 240=>72| 241=>132| 276=>98| 277=>171|n=>n,λ| 31=>22| 72=>110| 76=>114| 70=>108| 37=>45| 75=>113| 127=>170| 164=>199| 80=>130|n=>n,λn=>n⟩
theorem gP:Go.Proofs.Lays.n156 Tryz.prog rL:=by
 constructor<;>first|(intro _;kernel_rfl)|kernel_rfl|(constructor<;>first|(intro _;kernel_rfl)|kernel_rfl|(constructor<;>first|(intro _;kernel_rfl)|kernel_rfl))
theorem cE:Builder.Extra Tryz.prog rL where
 sizeBuilder:=VW
 liesBuilder:=VW
 t5:=by first|exact Tryz.underlying5|kernel_rfl
 a5:=by first|exact Tryz.isAgg5|kernel_rfl
 z5:=by first|exact Tryz.sizeOf5|(intros;rfl)
 v5:=by first|exact Tryz.zeroValue5|(intros;rfl)
 infoByte:=VW
 cellsByte:=VW
 sizeByte:=VW
 neB5:=by decide
def stO:List AV->ByteArray
 |[.x (.string s)]=>s
 |_=>ByteArray.empty
section
variable (n:Nat)(f:Nat->List AV)
def kM:Prop:= ∀k,k<n->f k=[.x (.string (stO (f k)))]
def jnB(sep:ByteArray):ByteArray:=⟨(Lib.join (((List.range n).map λk=>stO (f k)).map (·.data.toList)) sep.data.toList).toArray⟩
theorem Xj8(sep:ByteArray)(h0:n<=100000)(h1:kM n f)(h2:(jnB n f sep).size<=140737488355328):U0 VR 74 [.lst 1 n f,.x (.string sep)] (.x (.string (jnB n f sep))):=by
 intro e w args hro hgl FP hr;obtain ⟨u,us,rfl,r1,hr⟩:=hr.cons_inv;obtain ⟨u2,us2,rfl,r2,hr⟩:=hr.cons_inv;obtain rfl:=hr.nil_inv;obtain rfl:=r2.x_inv;cases r1 with
 |lstNil=>
  refine Calls.mono (Any.strings_Join_none gP cE none 0 sep w) ?_;rintro en w' ⟨rfl,rfl⟩;exact ⟨_,rfl,Below.refl _ _,.x _⟩
 |lst _ _ _ b o cap g g1 g2 g3 g4 g5 g6 g7 g8 ad had=>
  have hl:((List.range n).map λk=>stO (f k)).length=n:=VX
  rcases Nat.eq_zero_or_pos n with rfl|I
  ·refine Calls.mono (Any.strings_Join_none gP cE (some ad) cap sep w) ?_;rintro en w' ⟨rfl,rfl⟩;exact ⟨_,rfl,Below.refl _ _,.x _⟩
  ·rw [had I];have h:=Any.strings_Join gP cE b o cap ((List.range n).map λk=>stO (f k)) sep w (λj x hj=>by
    have hj1:=(FW.1 hj).1;have hj2:j<n:=VM;rw [Bn,List.getElem?_range hj2] at hj;simp only [Bt,HH] at hj;have k1:=g6 j 0 hj2 VM;have k2:=(g8 j 0 (.x (.string (stO (f j)))) hj2 (by rw [h1 j hj2];rfl)).x_inv
    have e0:o+(j*1+0)=o+j:=VM;rw [e0,k2,hj] at k1;exact k1) (g2 I) (by rw [hl];omega) (by rw [hl];exact g4) (by
     have e:(Lib.join (((List.range n).map λk=>stO (f k)).map (·.data.toList)) sep.data.toList).length=(jnB n f sep).size:=rfl
     rw [e];exact h2)
   rw [hl] at h;refine Calls.mono h ?_;rintro en w' ⟨rfl,hb⟩;exact ⟨_,rfl,hb,.x _⟩
end
def fQ:UY
 |[.lst 1 n f,.x (.string sep)]=>some ([n<=100000,kM n f,(jnB n f sep).size<=140737488355328],.x (.string (jnB n f sep)))
 |_=>none
theorem Qe2:VS VR 74 fQ:=by
 refine ⟨(UK Tryz.func74),?_⟩;intro avs ns res h I;unfold fQ at h;split at h
 ·cases h;exact Xj8 _ _ _ (I _ VX) (I _ VX) (I _ VX)
 ·cases h
def Xr6:D6:=λavs m nx sv=>match avs with
 |[.ptr q 0]=>match DJ m q with
  |some (.cells T l)=>match l with
   |[.x (.pointer none),c]=>match Nat.beq T 110 with
    |true=>some (.leaf (.tup [],qN m q (.cells T [.ptr q 0,c]),nx,sv))
    |false=>none
   |[.ptr q' 0,c]=>match Nat.beq T 110&&Nat.beq q q' with
    |true=>some (.leaf (.tup [],m,nx,sv))
    |false=>none
   |_=>none
  |_=>none
 |_=>none
theorem Zq7:GE VR 72 Xr6:=by
 refine ⟨(UK Tryz.func72),?_⟩;intro avs m nx sv tr W Q hQ cx w0 TT e ds args w hE hB hm hlv LT hxt hr;unfold Xr6 at W;split at W
 ·rename_i q;obtain ⟨v0,l1,rfl,r1,hr⟩:=hr.cons_inv;obtain rfl:=hr.nil_inv;have hv0:v0= .pointer (some ⟨e.blk q,0,none⟩):=by cases r1;rfl
  subst hv0;split at W
  ·rename_i T l hg;split at W
   ·rename_i c;split at W
    ·rename_i hb;obtain rfl:=H2 hb;cases W;obtain ⟨h1,h2,vs,h3,h4⟩:=hm _ (G0 hg);obtain ⟨p,us,rfl,t1,h4⟩:=h4.cons_inv;obtain ⟨v,us,rfl,t2,h4⟩:=h4.cons_inv;obtain rfl:=h4.nil_inv;obtain rfl:=t1.x_inv
     dsimp only at h1 h2 h3
     have hc0:w.cell? ⟨e.blk q,0,none⟩=some (.pointer none):=by simp [World.cell?,h3]
     refine Calls.mono (Any.Builder_copyCheck_fresh {gP with} cE.toX72 (e.blk q) w hc0 (by simp [World.shape?,h3];rfl) (by simp [World.frozen?,h3])) ?_
     rintro en w' ⟨rfl,rfl⟩;have L0: ∀b,b≠e.blk q->(w.setCell ⟨e.blk q,0,none⟩ (.pointer (some ⟨e.blk q,0,none⟩))).heap[b]? =w.heap[b]? :=λb hb=>heap_setCell_other _ _ _ _ hb
     have hsz:(w.setCell ⟨e.blk q,0,none⟩ (.pointer (some ⟨e.blk q,0,none⟩))).heap.size=w.heap.size:=VX;have st:=F8 hE h2 hsz L0;have fD:Below w0.heap.size w0 (w.setCell ⟨e.blk q,0,none⟩ (.pointer (some ⟨e.blk q,0,none⟩))):=hB.setCell (p:=⟨e.blk q,0,none⟩) (hE.owned _ _ h2).1 _;refine ⟨_,_,_,_,_,e,rfl,hQ,L5 hE hsz st,fD,?_,hlv,LT,hxt.step st,Rep.tupL (U5.nil _ _)⟩;intro p hp;rcases FZ hp with rfl|⟨hp,hne⟩
     ·refine ⟨h1,h2,[.pointer (some ⟨e.blk q,0,none⟩),v],?_,.cons (.ptr q 0 h1) (.cons (t2.step st) (.nil _ _))⟩;rw [heap_setCell_same w _ 0 _ _ _ h3];rfl
     ·exact P7 hE h2 hsz L0 hne (hm p hp)
    ·cases W
   ·rename_i q' c;split at W
    ·rename_i hb;rw [HC] at hb;obtain rfl:=H2 hb.1;obtain rfl:=H2 hb.2;cases W;obtain ⟨h1,h2,vs,h3,h4⟩:=hm _ (G0 hg);obtain ⟨p,us,rfl,t1,h4⟩:=h4.cons_inv;obtain ⟨v,us,rfl,t2,h4⟩:=h4.cons_inv;obtain rfl:=h4.nil_inv
     dsimp only at h1 h2 h3
     have hp:p= .pointer (some ⟨e.blk q,0,none⟩):=by cases t1;rfl
     subst hp;have hc0:w.cell? ⟨e.blk q,0,none⟩=some (.pointer (some ⟨e.blk q,0,none⟩)):=by simp [World.cell?,h3]
     refine Calls.mono (Any.Builder_copyCheck_used {gP with} cE.toX72 (e.blk q) w hc0) ?_
     rintro en w' ⟨rfl,rfl⟩;exact ⟨_,_,_,_,_,e,rfl,hQ,hE,hB,hm,hlv,LT,hxt,Rep.tupL (U5.nil _ _)⟩
    ·cases W
   ·cases W
  ·cases W
 ·cases W
set_option maxHeartbeats 1000000 in
theorem Qn3(b g cap:Nat)(p:Value)(cur:Array Value)(l:List UInt8)(w:World)(hbk:w.heap[b]? =some (.cells #[p,.slice (some ⟨g,0,none⟩) l.length cap] 110 (0,0)))(hg:w.heap[g]? =some (.cells cur 5 (0,0)))(h0:l≠[])(hnc:l.length<=cap)(hcm:cap<=maxLen)(hcs:cur.size=cap)
  (PR: ∀j x,l[j]? =some x->w.cell? ⟨g,j,none⟩=some (.int .u8 x.toNat)):
  Calls Tryz.prog 47 #[.pointer (some ⟨b,0,none⟩)] w λe w'=>e= .returned (.string ⟨l.toArray⟩)/\w'=w.drew.freeze ⟨g,0,none⟩ l.length:=by
 have c1:w.drew.cell? ⟨b,1,none⟩=some (.slice (some ⟨g,0,none⟩) l.length cap):=by
  have:w.drew.heap[b]? =some (.cells #[p,.slice (some ⟨g,0,none⟩) l.length cap] 110 (0,0)):=hbk;simp [World.cell?,this]
 have hl0:l.length≠0:=by simpa using h0
 have hSD:(Builtin.unsafeSliceData_ #[45] 170 #[.slice (some ⟨g,0,none⟩) l.length cap]).run Tryz.prog w.drew= .ok (.pointer (some ⟨g,0,none⟩)) w.drew:=
  Lib.run_unsafeSliceData_row _ _ _ _ _ _ VM
 have hUS:(Builtin.unsafeString_ #[170,3] 9 #[.pointer (some ⟨g,0,none⟩),.int .i64 l.length]).run Tryz.prog w.drew= .ok (.string ⟨l.toArray⟩) (w.drew.freeze ⟨g,0,none⟩ l.length):=by
  refine Lib.run_unsafeString_row w.drew 170 3 9 5 Zm7.t127 VW g cur.size (by have hg':w.drew.heap[g]? =some (.cells cur 5 (0,0)):=hg;simp [World.shape?,hg']) l h0 VM (by unfold maxLen at hcm;omega) ?_
  intro j x hx;have e:(⟨g,0,none⟩:Addr).add j=⟨g,j,none⟩:=by rw [DE,Ap]
  rw [e];exact PR j x hx
 have GU:Tryz.prog.follows .mixedOrders=true:=U1
 go_enter Tryz.func47,Tryz.ntmps47
 go_wp2
 go_region_o
 all_goals (go_wp2;go_ret;exact ⟨rfl,rfl⟩)
def Xd5:D6:=λavs m nx sv=>match avs with
 |[.ptr q 0]=>match DJ m q with
  |some (.cells T l)=>match l with
   |[_,.row r]=>match DJ m r with
    |some (.row T1 sz n f)=>match Nat.beq T 110&&Nat.beq T1 5&&Nat.beq sz 1 with
     |true=>some (.needT [wL n f,0<n] (.leaf (.x (.string (bsO n f)),[],nx,sv)))
     |false=>none
    |_=>none
   |_=>none
  |_=>none
 |_=>none
theorem aU(w:World)(g n x:Nat)(h:x≠g):(w.freeze ⟨g,0,none⟩ n).heap[x]? =w.heap[x]? :=by
 unfold World.freeze;split
 ·rfl
 ·show (w.heap.modify g _)[x]? =_;rw [Array.getElem?_modify];rw [if_neg (λe=>h e.symm)]
theorem lR(w:World)(g n:Nat):(w.freeze ⟨g,0,none⟩ n).heap.size=w.heap.size:=by
 unfold World.freeze;split
 ·rfl
 ·show (w.heap.modify g _).size=_;simp
theorem Qt9(w:World)(g n:Nat):(w.freeze ⟨g,0,none⟩ n).os=w.os/\(w.freeze ⟨g,0,none⟩ n).tape=w.tape/\(w.freeze ⟨g,0,none⟩ n).output=w.output:=by
 unfold World.freeze;split<;>exact ⟨rfl,rfl,rfl⟩
theorem yA:GE VR 47 Xd5:=by
 refine ⟨(UK Tryz.func47),?_⟩;intro avs m nx sv tr W Q hQ cx w0 TT e ds args w hE hB hm hlv LT hxt hr;unfold Xd5 at W;split at W
 ·rename_i q;obtain ⟨v0,l1,rfl,r1,hr⟩:=hr.cons_inv;obtain rfl:=hr.nil_inv;have hv0:v0= .pointer (some ⟨e.blk q,0,none⟩):=by cases r1;rfl
  subst hv0;split at W
  ·rename_i T l hg;split at W
   ·rename_i a r;split at W
    ·rename_i T1 sz n f hg2;split at W
     ·rename_i hb;rw [HC,HC] at hb;obtain ⟨⟨hb1,hb2⟩,hb3⟩:=hb;obtain rfl:=H2 hb1;obtain rfl:=H2 hb2;obtain rfl:=H2 hb3;cases W;obtain ⟨I,hq⟩:=VP.sat_needT hQ;have I:=GF I;have n1:wL n f:=I _ VX;have n2:0<n:=I _ VX;obtain ⟨h1,h2,vs,h3,h4⟩:=hm _ (G0 hg);obtain ⟨p,us,rfl,t1,h4⟩:=h4.cons_inv;obtain ⟨v,us,rfl,t2,h4⟩:=h4.cons_inv;obtain rfl:=h4.nil_inv
      dsimp only at h1 h2 h3
      obtain ⟨k1,k2,k3,xs,k4,k5⟩:=hm _ (G0 hg2)
      dsimp only at k1 k2 k3 k4 k5
      have hv:e.val r=v:=by
       cases t2 with
       |row _ a n c _ hv=>exact hv
      rw [hv] at k2 k4;rcases k4.2 with ⟨_,hz⟩|⟨g,cap,cur,rfl,hbg,hgg,hnc,hcm,hcs,kO⟩
      ·omega
      ·have HA:e.own g=some r:=k2 g rfl;have HZ:((List.range n).map λj=>UInt8.ofNat (byO (f j))).length=n:=VX
       have h0:((List.range n).map λj=>UInt8.ofNat (byO (f j)))≠[]:=by
        intro h;rw [h] at HZ;simp at HZ;omega
       have PR: ∀j x,((List.range n).map λj=>UInt8.ofNat (byO (f j)))[j]? =some x->w.cell? ⟨g,j,none⟩=some (.int .u8 x.toNat):=by
        intro j x hj;have hj1:j<n:=by have:=(FW.1 hj).1;omega
        rw [Bn,List.getElem?_range hj1] at hj;simp only [Bt,HH] at hj;have hxl:xs.length=n:=by have:=k4.1;omega
        have hc1:=k4.cells (g:=g) rfl j xs[j] (D4 VM);have e1:(⟨g,0,none⟩:Addr).add j=⟨g,j,none⟩:=by rw [DE,Ap]
        rw [e1] at hc1;have hc2:=(k5 j 0 (.x (.int .u8 (byO (f j):Int))) xs[j] hj1 (by rw [(n1 j hj1).2];rfl) (by rw [show j*1+0=j by omega];exact D4 VM)).x_inv
        rw [hc1,hc2,←hj,UInt8.toNat_ofNat_of_lt' (n1 j hj1).1]
       have FK:=Qn3 (e.blk q) g cap p cur ((List.range n).map λj=>UInt8.ofNat (byO (f j))) w (by rw [HZ];exact h3) hgg h0 (by rw [HZ];exact hnc) hcm (by simpa using hcs) PR
       refine FK.mono ?_;rintro en w' ⟨rfl,rfl⟩;rw [HZ];have L0: ∀x,x≠g->(w.drew.freeze ⟨g,0,none⟩ n).heap[x]? =w.heap[x]? :=λx hx=>aU w.drew g n x hx
       have hsz:(w.drew.freeze ⟨g,0,none⟩ n).heap.size=w.heap.size:=lR w.drew g n;have hos:=Qt9 w.drew g n;have st:=F8 hE HA hsz L0;refine ⟨_,_,_,_,_,e,rfl,hq,L5 hE hsz st,⟨hos.1.trans hB.os,hos.2.1.trans hB.tape,hos.2.2.trans hB.output,by rw [hsz];exact hB.size,λx hx=>?_⟩,λp hp=>(by cases hp),hlv,LT,hxt.step st,.x _⟩
       rw [L0 x (by have:=(hE.owned _ _ HA).1;omega)]
       exact hB.block x hx
     ·cases W
    ·cases W
   ·cases W
  ·cases W
 ·cases W
end Go.Proofs.YtlclobclmfhlmaaGreatDoor.Hd
namespace Go.Proofs.YtlclobclmfhlmaaGreatDoor.Hd
open Go Go.Sx Go.RowKit Bo
open Go.Sx.VP (need branch leaf)
open Go.Sx.AV (lst ptr agg roI tup top)
def UA:List ByteArray:=[⟨#[116,104,114,101,97,100,32,48,32,49,32,52,48,32,52,48]⟩,⟨#[116,104,114,101,97,100,32,50,32,51,32,52,56,32,53,48]⟩,⟨#[105,115,115,117,101,32,48,32,52,32,57,48,32,48]⟩,⟨#[98,97,116,104,32,49,48,48,32,51,48,48]⟩,⟨#[115,101,101,32,48,32,50,48,48]⟩,⟨#[115,101,101,32,49,32,50,48,51]⟩,⟨#[98,97,116,104,32,49,48,48,32,51,48,48]⟩,⟨#[115,101,101,32,49,32,50,53,50]⟩,⟨#[115,101,101,32,50,32,50,53,48]⟩,⟨#[115,101,108,108,32,48,32,49,32,54,32,49,32,51]⟩,⟨#[115,101,108,108,32,49,32,50,32,52,32,50,32,50]⟩]
def GB:List ByteArray:=[⟨#[116,104,114,101,97,100,32,48,32,50,32,52,48,32,52,48]⟩,⟨#[105,115,115,117,101,32,48,32,52,32,56,48,32,48]⟩,⟨#[115,101,101,32,48,32,49,48,48]⟩,⟨#[115,116,114,105,107,101,32,49]⟩,⟨#[118,111,105,100,32,48]⟩]
def UP(l:List ByteArray)(k:Nat):ByteArray:=l.getD k ByteArray.empty
def wk1:HS:=thS hs0 0 1 40 40
def wk2:HS:=thS wk1 2 3 48 50
def wk3:HS:=isS wk2 0 4 90 0
def wk4:HS:=btS wk3 100 300
def wk5:HS:=seS wk4 0 200
def wk6:HS:=seS wk5 1 203
def wk7:HS:=btS wk6 100 300
def wk8:HS:=seS wk7 1 252
def wk9:HS:=seS wk8 2 250
def Qm9:HS:=slS wk9 0 1 6 1 3
def VY:HS:=slS Qm9 1 2 4 2 2
theorem Wa5:lnE (UP UA 0) hs0=0:=by decide+kernel
theorem Xt6:F9 (lnW (UP UA 0)) hs0=wk1:=VW
theorem Wa4:lnE (UP UA 1) wk1=0:=by decide+kernel
theorem Xt5:F9 (lnW (UP UA 1)) wk1=wk2:=VW
theorem Wa3:lnE (UP UA 2) wk2=0:=by decide+kernel
theorem Xt4:F9 (lnW (UP UA 2)) wk2=wk3:=VW
theorem Wa2:lnE (UP UA 3) wk3=0:=by decide+kernel
theorem Xt3:F9 (lnW (UP UA 3)) wk3=wk4:=VW
theorem Wa1:lnE (UP UA 4) wk4=0:=by decide+kernel
theorem Xt2:F9 (lnW (UP UA 4)) wk4=wk5:=VW
theorem Wa0:lnE (UP UA 5) wk5=0:=by decide+kernel
theorem Xt1:F9 (lnW (UP UA 5)) wk5=wk6:=VW
theorem Qz9:lnE (UP UA 6) wk6=0:=by decide+kernel
theorem Xt0:F9 (lnW (UP UA 6)) wk6=wk7:=VW
theorem Qz8:lnE (UP UA 7) wk7=0:=by decide+kernel
theorem Xs9:F9 (lnW (UP UA 7)) wk7=wk8:=VW
theorem Qz7:lnE (UP UA 8) wk8=0:=by decide+kernel
theorem Xs8:F9 (lnW (UP UA 8)) wk8=wk9:=VW
theorem Qz6:lnE (UP UA 9) wk9=0:=by decide+kernel
theorem Xs7:F9 (lnW (UP UA 9)) wk9=Qm9:=VW
theorem nU:lnE (UP UA 10) Qm9=0:=by decide+kernel
theorem Qy8:F9 (lnW (UP UA 10)) Qm9=VY:=VW
theorem Xt8:boE VY.nb VY.ql VY.qh VY.qm VY.qr VY.qv=0:=by decide+kernel
theorem Xt7:boN VY.nb VY.ql VY.qh VY.qm VY.qr VY.qv=3:=by decide+kernel
theorem Qz1:boL VY.nb VY.ql VY.qh VY.qm VY.qr VY.qv 0=0:=by decide+kernel
theorem Qz4:boH VY.nb VY.ql VY.qh VY.qm VY.qr VY.qv 0=0:=by decide+kernel
theorem Qz0:boL VY.nb VY.ql VY.qh VY.qm VY.qr VY.qv 1=1:=by decide+kernel
theorem Qz3:boH VY.nb VY.ql VY.qh VY.qm VY.qr VY.qv 1=5:=by decide+kernel
theorem Qy9:boL VY.nb VY.ql VY.qh VY.qm VY.qr VY.qv 2= -3:=by decide+kernel
theorem Qz2:boH VY.nb VY.ql VY.qh VY.qm VY.qr VY.qv 2=5:=by decide+kernel
theorem Qy7:stP VY 0 0=true:=by decide+kernel
theorem Qz5:jD VY.ns VY.sa VY.sb VY.sc VY.sl VY.sh=true:=by decide+kernel
theorem Wa7:caB VY.ns VY.sa VY.sb VY.sc VY.sl VY.sh 1 0=true:=by decide+kernel
theorem Wa6:caB VY.ns VY.sa VY.sb VY.sc VY.sl VY.sh 1 1=true:=by decide+kernel
theorem Zf7:caB VY.ns VY.sa VY.sb VY.sc VY.sl VY.sh 1 2=false:=by decide+kernel
theorem Zf6:caB VY.ns VY.sa VY.sb VY.sc VY.sl VY.sh 1 3=false:=by decide+kernel
theorem Qy6:suB VY.ns VY.sa VY.sb VY.sc VY.sl VY.sh 1 0=true:=by decide+kernel
theorem Ze0:suB VY.ns VY.sa VY.sb VY.sc VY.sl VY.sh 1 1=false:=by decide+kernel
theorem Zd9:suB VY.ns VY.sa VY.sb VY.sc VY.sl VY.sh 1 2=false:=by decide+kernel
theorem Zd8:suB VY.ns VY.sa VY.sb VY.sc VY.sl VY.sh 1 3=false:=by decide+kernel
theorem Zz3:hdN 4 100 20 30 VY.nr VY.ra VY.rb VY.ru VY.rv 3 tbP tbQ VY.pl VY.ph 1 3 0=5:=by decide+kernel
theorem Zf0:onL (wkA 4 100 20 30 VY.nr VY.ra VY.rb VY.ru VY.rv 3 tbP tbQ VY.pl VY.ph 1 3) 0 0=0:=by decide+kernel
theorem Zf5:onH (wkA 4 100 20 30 VY.nr VY.ra VY.rb VY.ru VY.rv 3 tbP tbQ VY.pl VY.ph 1 3) 0 0=0:=by decide+kernel
theorem Ze9:onL (wkA 4 100 20 30 VY.nr VY.ra VY.rb VY.ru VY.rv 3 tbP tbQ VY.pl VY.ph 1 3) 1 0=200:=by decide+kernel
theorem Zf4:onH (wkA 4 100 20 30 VY.nr VY.ra VY.rb VY.ru VY.rv 3 tbP tbQ VY.pl VY.ph 1 3) 1 0=300:=by decide+kernel
theorem Ze8:onL (wkA 4 100 20 30 VY.nr VY.ra VY.rb VY.ru VY.rv 3 tbP tbQ VY.pl VY.ph 1 3) 2 0=410:=by decide+kernel
theorem Zf3:onH (wkA 4 100 20 30 VY.nr VY.ra VY.rb VY.ru VY.rv 3 tbP tbQ VY.pl VY.ph 1 3) 2 0=510:=by decide+kernel
theorem Ze7:onL (wkA 4 100 20 30 VY.nr VY.ra VY.rb VY.ru VY.rv 3 tbP tbQ VY.pl VY.ph 1 3) 3 0=700:=by decide+kernel
theorem Zf2:onH (wkA 4 100 20 30 VY.nr VY.ra VY.rb VY.ru VY.rv 3 tbP tbQ VY.pl VY.ph 1 3) 3 0=800:=by decide+kernel
theorem Ze6:onL (wkA 4 100 20 30 VY.nr VY.ra VY.rb VY.ru VY.rv 3 tbP tbQ VY.pl VY.ph 1 3) 4 0=1000:=by decide+kernel
theorem Zf1:onH (wkA 4 100 20 30 VY.nr VY.ra VY.rb VY.ru VY.rv 3 tbP tbQ VY.pl VY.ph 1 3) 4 0=1000:=by decide+kernel
theorem Ze5:(hoS VY.ns VY.sa VY.sb VY.sc VY.sl VY.sh 0 100).1=4:=by decide+kernel
theorem Ze4:(hoS VY.ns VY.sa VY.sb VY.sc VY.sl VY.sh 1 100).1=2:=by decide+kernel
theorem Ze3:(hoS VY.ns VY.sa VY.sb VY.sc VY.sl VY.sh 2 100).1=4:=by decide+kernel
theorem Ze2:(hoS VY.ns VY.sa VY.sb VY.sc VY.sl VY.sh 3 100).1=0:=by decide+kernel
def PM{α:Type}:VP α->VP α
 | .fail=> .fail
 | .leaf a=> .leaf a
 | .branch b t f=>match b with
  |true=>PM t
  |false=>PM f
 | .need ps t=> .need ps (PM t)
 | .may p t f=> .may p (PM t) (PM f)
def Xn7(sp:UL):UL:=λs=>match sp s with
 |some t=>some (PM t)
 |none=>none
section
variable (n:Nat)(f:Nat->List AV)
def byB:Bool:=DD (λj=>match f j with
 |[.x (.int .u8 c)]=>decide (0<=c)&&decide (c<256)
 |_=>false) n
def Ja6:Bool:=DD (λj=>match f j with
 |[.x (.string _)]=>true
 |_=>false) n
end
theorem H6{α:Type}{Q:α->Prop}: ∀{t:VP α},(PM t).sat Q->t.sat Q
 | .fail,h=>h
 | .leaf _,h=>h
 | .branch true _ _,h=>⟨λ_=>H6 h,λe=>Bool.noConfusion e⟩
 | .branch false _ _,h=>⟨λe=>Bool.noConfusion e,λ_=>H6 h⟩
 | .need _ _,h=>⟨h.1,H6 h.2⟩
 | .may _ _ _,h=>⟨λp=>H6 (h.1 p),H6 h.2⟩
theorem Zq0{P:Program}{ro:Option Nat}{cx:Cx}{c:Code}{sp:UL}(h:HL P ro cx c sp):HL P ro cx c (Xn7 sp):=by
 intro n s t W Q hQ a w r;unfold Xn7 at W;split at W
 ·rename_i t0 h0;cases W;exact h n s t0 h0 Q (H6 hQ) a w r
 ·cases W
section
variable {n:Nat}{f:Nat->List AV}
theorem sY(h:byB n f=true):wL n f:=by
 intro j hj;have h1:=GW.1 h j hj;split at h1
 ·rename_i c hc;rw [HC,y5,y5] at h1;rw [hc];have e:byO [.x (.int .u8 c)]=c.toNat:=rfl;rw [e];refine ⟨VM,?_⟩;rw [show ((c.toNat:Nat):Int)=c by omega]
 ·cases h1
theorem cP(h:Ja6 n f=true):kM n f:=by
 intro j hj;have h1:=GW.1 h j hj;split at h1
 ·rename_i s hc;rw [hc];rfl
 ·cases h1
end
noncomputable def Xd7:D6:=A9 Tryz.prog [] {R:=[],H:=[(72,Xr6)] } [] Tryz.f42 (U9 Tryz.f42)
theorem Xp4:GE VR 42 Xd7:=
 RO (G:=[]) (X:={R:=[],H:=[(72,Xr6)] }) (L:=[]) Aa (Ai Ab (Ag Zq7 Ac)) U1 (UK Tryz.func42) Tryz.func42 (UW Tryz.f42) U6
noncomputable def fX:D6:=A9 Tryz.prog [(73,fU),(74,fQ)] WD [(Xn7 (λs=>some (y9 Tryz.prog [(73,fU),(74,fQ)] WD [] (UC (VV (U9 Tryz.f43) 0)) 10 s)))] Tryz.f43 (U9 Tryz.f43)
theorem lD:GE VR 43 fX:=
 RO (G:=[(73,fU),(74,fQ)]) (X:=WD) (L:=[(Xn7 (λs=>some (y9 Tryz.prog [(73,fU),(74,fQ)] WD [] (UC (VV (U9 Tryz.f43) 0)) 10 s)))]) (Ae aG (Ae Qe2 Aa)) Ad U1 (UK Tryz.func43) Tryz.func43 (UW Tryz.f43) (UZ (lpE (b:= .loop (UC (VV (U9 Tryz.f43) 0))) VW<|λro cx=>Zq0 (yZ (Ae aG (Ae Qe2 Aa)) (Ad cx) U1 (λj cj hj sp Z=>by simp at Z) 10)))
noncomputable def Xd6:D6:=A9 Tryz.prog [] {R:=[],H:=[(43,fX),(42,Xd7)] } [] Tryz.f41 (U9 Tryz.f41)
theorem xV:GE VR 41 Xd6:=
 RO (G:=[]) (X:={R:=[],H:=[(43,fX),(42,Xd7)] }) (L:=[]) Aa (Ai Ab (Ag lD (Ag Xp4 Ac))) U1 (UK Tryz.func41) Tryz.func41 (UW Tryz.f41) U6
def AN:UY
 |[.x (.int .i64 a),.x (.int .i64 b)]=>some ([0<=a/\a<=1000\/ -1000<=a/\a<=1000,-1000<=b/\b<=1000,((⟨(Lib.itoa a).toArray⟩:ByteArray)++⟨#[46,46]⟩).size+(⟨(Lib.itoa b).toArray⟩:ByteArray).size<=100],.x (.string ((⟨(Lib.itoa a).toArray⟩++⟨#[46,46]⟩)++⟨(Lib.itoa b).toArray⟩)))
 |_=>none
theorem Wp1(a b:Int)(VU:0<=a/\a<=1000\/ -1000<=a/\a<=1000)(UI: -1000<=b/\b<=1000)(HU:((⟨(Lib.itoa a).toArray⟩:ByteArray)++⟨#[46,46]⟩).size+(⟨(Lib.itoa b).toArray⟩:ByteArray).size<=100):U0 VR 46 [i a,i b] (.x (.string ((⟨(Lib.itoa a).toArray⟩++⟨#[46,46]⟩)++⟨(Lib.itoa b).toArray⟩))):=by
 refine U4 (L:=[]) (Ae aG Aa) U1 Tryz.func46 (UW Tryz.f46) U6 (t:=need [VO a] (need [(↑(ByteArray.size {data:=List.toArray (Lib.itoa a) }+ByteArray.size {data:=#[46,46] }):Int)<=9223372036854775807] (need [VO b] (need [(↑(ByteArray.size ({data:=List.toArray (Lib.itoa a) }++{data:=#[46,46] })+ByteArray.size {data:=List.toArray (Lib.itoa b) }):Int)<=9223372036854775807] (leaf (RV.x (.string ({data:=List.toArray (Lib.itoa a) }++{data:=#[46,46] }++{data:=List.toArray (Lib.itoa b) })))))))) VW ?_;rw [Av] at HU;simp only [VP.sat,UD,G8,UG,UJ,VO,Av];all_goals exact VA
theorem xU:VS VR 46 AN:=by
 refine ⟨(UK Tryz.func46),?_⟩;intro avs ns res h I;unfold AN at h;split at h
 ·cases h;exact Wp1 _ _ (I _ VX) (I _ VX) (I _ VX)
 ·cases h
def Zj6:ByteArray:=⟨#[114,101,97,100,105,110,103,115,32,50,32,98,97,116,104,115,32,50,32,99,101,114,116,105,102,105,99,97,116,101,115,32,49,32,115,97,108,101,115,32,50,10,109,97,114,107,115,32,48,46,46,48,32,50,48,48,46,46,51,48,48,32,52,49,48,46,46,53,49,48,32,55,48,48,46,46,56,48,48,32,49,48,48,48,46,46,49,48,48,48,10,111,102,102,115,101,116,115,32,48,46,46,48,32,49,46,46,53,32,45,51,46,46,53,10,115,116,97,110,100,32,48,10,104,111,108,100,32,52,32,50,32,52,32,48,10]⟩
def tW:UY:=λl=>some ([l=[lns 11 (UP UA)]],i 0)
def Qk6:DK:=λl=>some (.need [l=[lns 11 (UP UA)]] (.leaf (.tup [.ro (hsL VY),.lst 1 11 (exG (UP UA))])))
def Xb8:UY:=λl=>some ([l=[.agg [i 4,i 100,i 20,i 30,hsR VY,.lst 2 3 (λk=>[i (tbP k),i (tbQ k)]),i VY.pl,i VY.ph,i 1,i 3],i 0]],.tup [.lst 2 5 (λk=>[i (UB [0,200,410,700,1000] k),i (UB [0,300,510,800,1000] k)]),i 0])
def tU:UY:=λl=>some ([l=[.agg [ofs,i 1,hsB VY]]],.tup [.lst 2 3 (λk=>[i (UB [0,1,-3] k),i (UB [0,5,5] k)]),i 0])
def tP:UY:=λl=>some ([l=[.agg (hsL VY),.agg [i (VY.ca 0),i (VY.cb 0),i (VY.cc 0),i (VY.cd 0),bl (VY.cv 0)],i (VY.cd 0)]],bl true)
def Xb7:DK:=λl=>match l with
 |[b,.x (.int .i64 ow),d]=>some (.need [b= .agg [i 4,i 10,hsS VY],d=i 100,0<=ow/\ow<=3] (.leaf (.tup [.agg [i (UB [4,2,4,0] ow.toNat),i (hoS VY.ns VY.sa VY.sb VY.sc VY.sl VY.sh ow 100).2],i 0])))
 |_=>none
theorem Zz2:sK (UP UA) 0=hs0:=rfl
theorem Zz1:sK (UP UA) 1=wk1:=by
 show lnS (UP UA 0) (sK (UP UA) 0)=_;rw [Zz2];unfold lnS;rw [if_pos Wa5];exact Xt6
theorem Zz0:sK (UP UA) 2=wk2:=by
 show lnS (UP UA 1) (sK (UP UA) 1)=_;rw [Zz1];unfold lnS;rw [if_pos Wa4];exact Xt5
theorem Zy9:sK (UP UA) 3=wk3:=by
 show lnS (UP UA 2) (sK (UP UA) 2)=_;rw [Zz0];unfold lnS;rw [if_pos Wa3];exact Xt4
theorem Zy8:sK (UP UA) 4=wk4:=by
 show lnS (UP UA 3) (sK (UP UA) 3)=_;rw [Zy9];unfold lnS;rw [if_pos Wa2];exact Xt3
theorem Zy7:sK (UP UA) 5=wk5:=by
 show lnS (UP UA 4) (sK (UP UA) 4)=_;rw [Zy8];unfold lnS;rw [if_pos Wa1];exact Xt2
theorem Zy6:sK (UP UA) 6=wk6:=by
 show lnS (UP UA 5) (sK (UP UA) 5)=_;rw [Zy7];unfold lnS;rw [if_pos Wa0];exact Xt1
theorem Zy5:sK (UP UA) 7=wk7:=by
 show lnS (UP UA 6) (sK (UP UA) 6)=_;rw [Zy6];unfold lnS;rw [if_pos Qz9];exact Xt0
theorem Zy4:sK (UP UA) 8=wk8:=by
 show lnS (UP UA 7) (sK (UP UA) 7)=_;rw [Zy5];unfold lnS;rw [if_pos Qz8];exact Xs9
theorem Zy3:sK (UP UA) 9=wk9:=by
 show lnS (UP UA 8) (sK (UP UA) 8)=_;rw [Zy4];unfold lnS;rw [if_pos Qz7];exact Xs8
theorem Ze1:sK (UP UA) 10=Qm9:=by
 show lnS (UP UA 9) (sK (UP UA) 9)=_;rw [Zy3];unfold lnS;rw [if_pos Qz6];exact Xs7
theorem AS:sK (UP UA) 11=VY:=by
 show lnS (UP UA 10) (sK (UP UA) 10)=_;rw [Ze1];unfold lnS;rw [if_pos nU];exact Qy8
theorem cH:ckE 11 (UP UA)=0:=by decide+kernel
theorem yQ:VS VR 30 tW:=by
 refine ⟨(UK Tryz.func30),?_⟩;intro avs ns res h I;cases h;have e:avs=[lns 11 (UP UA)]:=I _ GJ;subst e;have h1:=OT 11 (UP UA) VM;rw [cH] at h1;exact h1
theorem xO:Sx.Enters Tryz.prog 33/\ ∀avs t,Qk6 avs=some t->UQ VR 33 avs t:=by
 refine ⟨(UK Tryz.func33),?_⟩;intro avs t h;cases h;intro Q hQ;have e:avs=[lns 11 (UP UA)]:=hQ.1;subst e;have hk:=IW cH;have h1:=l8 11 (UP UA) hk.1 (λk h=>by have:=hk.2 k h;omega) Q
 rw [AS] at h1;exact h1 hQ.2
theorem yN:P5 VR 44 Xb8:=by
 refine ⟨(UK Tryz.func44),?_⟩;intro avs ns res h I;cases h;have e:avs=[.agg [i 4,i 100,i 20,i 30,hsR VY,.lst 2 3 (λk=>[i (tbP k),i (tbQ k)]),i VY.pl,i VY.ph,i 1,i 3],i 0]:=I _ GJ
 subst e;intro e w args q1 q2 q3 q4;refine (uO 4 100 20 30 VY.nr VY.ra VY.rb VY.ru VY.rv 3 tbP tbQ VY.pl VY.ph 1 3 0 e w args q1 q2 q3 q4).mono ?_;rintro en w' ⟨v,rfl,g1,g2⟩;refine ⟨v,rfl,g1,L2 ?_ g2⟩;rw [show hdE 4 100 20 30 VY.nr VY.ra VY.rb VY.ru VY.rv 3 tbP tbQ VY.pl VY.ph 1 3 0=0 by decide+kernel]
 refine ⟨⟨rfl,Zz3,λk hk=>?_⟩,⟨rfl,rfl⟩,Ak⟩
 rcases (show k=0\/k=1\/k=2\/k=3\/k=4 by omega) with rfl|rfl|rfl|rfl|rfl
 ·show [i _,i _]=_;rw [Zf0,Zf5];rfl
 ·show [i _,i _]=_;rw [Ze9,Zf4];rfl
 ·show [i _,i _]=_;rw [Ze8,Zf3];rfl
 ·show [i _,i _]=_;rw [Ze7,Zf2];rfl
 ·show [i _,i _]=_;rw [Ze6,Zf1];rfl
theorem cG:fZ VY:=by
 have h:=rH (UP UA) 11;rw [AS] at h;exact h
theorem yJ:VS VR 35 tU:=by
 refine ⟨(UK Tryz.func35),?_⟩;intro avs ns res h I;cases h;have e:avs=[.agg [ofs,i 1,hsB VY]]:=I _ GJ;subst e;intro e w args q1 q2 q3 q4;refine (kX VY.nb VY.ql VY.qh VY.qm VY.qr VY.qv cG.bV e w args q1 q2 q3 q4).mono ?_;rintro en w' ⟨v,rfl,g1,g2⟩;refine ⟨v,rfl,g1,L2 ?_ g2⟩;rw [Xt8];refine ⟨⟨rfl,Xt7,λk hk=>?_⟩,⟨rfl,rfl⟩,Ak⟩
 rcases (show k=0\/k=1\/k=2 by omega) with rfl|rfl|rfl
 ·show [i _,i _]=_;rw [Qz1,Qz4];rfl
 ·show [i _,i _]=_;rw [Qz0,Qz3];rfl
 ·show [i _,i _]=_;rw [Qy9,Qz2];rfl
theorem yB:VS VR 38 tP:=by
 refine ⟨(UK Tryz.func38),?_⟩;intro avs ns res h I;cases h;have e:avs=[.agg (hsL VY),.agg [i (VY.ca 0),i (VY.cb 0),i (VY.cc 0),i (VY.cd 0),bl (VY.cv 0)],i (VY.cd 0)]:=I _ GJ;subst e;have h1:=I5 VY (VY.ca 0) (VY.cb 0) (VY.cc 0) (VY.cd 0) (VY.cv 0) (VY.cd 0);have h2:stB VY (VY.ca 0) (VY.cb 0) (VY.cc 0) (VY.cd 0) (VY.cv 0) (VY.cd 0)=true:=by
  have h3:VY.cd 0=0:=VW;have h4:=Qy7;unfold stP at h4;rw [h3] at h4 ⊢;exact h4
 rw [h2] at h1;exact h1
theorem fB:Sx.Enters Tryz.prog 11/\ ∀avs t,Xb7 avs=some t->UQ VR 11 avs t:=by
 refine ⟨(UK Tryz.func11),?_⟩;intro avs t h;unfold Xb7 at h;split at h
 ·rename_i b ow d;cases h;intro Q hQ;obtain ⟨⟨e1,e2,e3,_⟩,hq⟩:=hQ;subst e1 e2;refine Qp1 VY.ns VY.sa VY.sb VY.sc VY.sl VY.sh ow 100 cG.sV Q ?_;have hb:(bt 0 ow 3&&bt 0 100 100)=true:=by
   rw [HC,Bo.bt_iff,Bo.bt_iff];omega
  refine ⟨λ_=>⟨λh=>?_,λ_=>?_⟩,λh=>Bool.noConfusion (hb.symm.trans h)⟩
  ·rw [Qz5] at h;exact Bool.noConfusion h
  ·have ho:(hoS VY.ns VY.sa VY.sb VY.sc VY.sl VY.sh ow 100).1=UB [4,2,4,0] ow.toNat:=by
    rcases (show ow=0\/ow=1\/ow=2\/ow=3 by omega) with rfl|rfl|rfl|rfl
    ·exact Ze5
    ·exact Ze4
    ·exact Ze3
    ·exact Ze2
   show Q _;rw [ho];exact hq
 ·cases h
def wvS(s:ByteArray):AV:= .x (.iface 9 (.string s))
def wvI(n:Int):AV:= .x (.iface 3 (.int .i64 n))
def H3(l:List AV)(k:Nat):List AV:=[l.getD k .top]
def wl0:List AV:=[wvS ⟨#[109,97,114,107,115]⟩,wvS ⟨#[48,46,46,48]⟩,wvS ⟨#[50,48,48,46,46,51,48,48]⟩,wvS ⟨#[52,49,48,46,46,53,49,48]⟩,wvS ⟨#[55,48,48,46,46,56,48,48]⟩,wvS ⟨#[49,48,48,48,46,46,49,48,48,48]⟩]
def wl1:List AV:=[wvS ⟨#[111,102,102,115,101,116,115]⟩,wvS ⟨#[48,46,46,48]⟩,wvS ⟨#[49,46,46,53]⟩,wvS ⟨#[45,51,46,46,53]⟩]
def wl2:List AV:=[wvS ⟨#[115,116,97,110,100]⟩,wvI 0]
def wl3:List AV:=[wvS ⟨#[104,111,108,100]⟩,wvI 4,wvI 2,wvI 4,wvI 0]
def rp0:ByteArray:=⟨#[114,101,97,100,105,110,103,115,32,50,32,98,97,116,104,115,32,50,32,99,101,114,116,105,102,105,99,97,116,101,115,32,49,32,115,97,108,101,115,32,50,10]⟩
def rp1:ByteArray:=⟨#[114,101,97,100,105,110,103,115,32,50,32,98,97,116,104,115,32,50,32,99,101,114,116,105,102,105,99,97,116,101,115,32,49,32,115,97,108,101,115,32,50,10,109,97,114,107,115,32,48,46,46,48,32,50,48,48,46,46,51,48,48,32,52,49,48,46,46,53,49,48,32,55,48,48,46,46,56,48,48,32,49,48,48,48,46,46,49,48,48,48,10]⟩
def rp2:ByteArray:=⟨#[114,101,97,100,105,110,103,115,32,50,32,98,97,116,104,115,32,50,32,99,101,114,116,105,102,105,99,97,116,101,115,32,49,32,115,97,108,101,115,32,50,10,109,97,114,107,115,32,48,46,46,48,32,50,48,48,46,46,51,48,48,32,52,49,48,46,46,53,49,48,32,55,48,48,46,46,56,48,48,32,49,48,48,48,46,46,49,48,48,48,10,111,102,102,115,101,116,115,32,48,46,46,48,32,49,46,46,53,32,45,51,46,46,53,10]⟩
def rp3:ByteArray:=⟨#[114,101,97,100,105,110,103,115,32,50,32,98,97,116,104,115,32,50,32,99,101,114,116,105,102,105,99,97,116,101,115,32,49,32,115,97,108,101,115,32,50,10,109,97,114,107,115,32,48,46,46,48,32,50,48,48,46,46,51,48,48,32,52,49,48,46,46,53,49,48,32,55,48,48,46,46,56,48,48,32,49,48,48,48,46,46,49,48,48,48,10,111,102,102,115,101,116,115,32,48,46,46,48,32,49,46,46,53,32,45,51,46,46,53,10,115,116,97,110,100,32,48,10]⟩
def rp4:ByteArray:=⟨#[114,101,97,100,105,110,103,115,32,50,32,98,97,116,104,115,32,50,32,99,101,114,116,105,102,105,99,97,116,101,115,32,49,32,115,97,108,101,115,32,50,10,109,97,114,107,115,32,48,46,46,48,32,50,48,48,46,46,51,48,48,32,52,49,48,46,46,53,49,48,32,55,48,48,46,46,56,48,48,32,49,48,48,48,46,46,49,48,48,48,10,111,102,102,115,101,116,115,32,48,46,46,48,32,49,46,46,53,32,45,51,46,46,53,10,115,116,97,110,100,32,48,10,104,111,108,100,32,52,32,50,32,52,32,48,10]⟩
def eqBy(n:Nat)(F:Nat->List AV)(B:ByteArray):Bool:=DD (λj=>match F j with
 |[.x (.int .u8 c)]=>decide (c=D1 B j)
 |_=>false) n
theorem Qf7{n:Nat}{F:Nat->List AV}{B:ByteArray}(h:eqBy n F B=true): ∀i,i<n->F i=D2 B i:=by
 intro j hj;have h1:=GW.1 h j hj;split at h1
 ·rename_i c hc;rw [hc,qC h1];rfl
 ·cases h1
theorem ltM{n:Nat}{f g:Nat->List AV}(h:(List.range n).map f=(List.range n).map g): ∀i,i<n->f i=g i:=λi O=>by
 have e:=congrArg (λl=>l[i]?) h
 simpa [O] using e
abbrev JJ:H5:=[(920,.row 20 1 1 (H3 wl0)),(921,.row 20 1 1 (H3 wl1)),(922,.row 20 1 1 (H3 wl2)),(923,.row 20 1 1 (H3 wl3)),(911,.row 5 1 42 (D2 rp0)),(14,.cells 110 [.ptr 14 0,.row 911])]
def rX(z:Nat):St:=((some {σ:=mkS 198 [(0,.top),(5,.ro (hsL VY)),(7,.ptr 14 0),(8,.fn (.func 41) [] [.ptr 14 0]),(9,.row 920),(10,.row 921),(11,.row 922),(12,.row 923),(91,.lst 2 5 (λk=>[i (UB [0,200,410,700,1000] k),i (UB [0,300,510,800,1000] k)])),(92,i 5),(93,i 0)],m:=JJ,nx:=930}:Option St):Option St).getD {σ:=[],m:=[],nx:=0}
noncomputable def rZ:Code:=UC (VV (U9 Tryz.f24) 0)
abbrev WY:H5:=[(920,.row 20 1 6 (H3 wl0)),(921,.row 20 1 1 (H3 wl1)),(922,.row 20 1 1 (H3 wl2)),(923,.row 20 1 1 (H3 wl3)),(911,.row 5 1 42 (D2 rp0)),(14,.cells 110 [.ptr 14 0,.row 911])]
section
variable (z:Nat)
def DV:Nat->St
 | 0=>{σ:=H4 [(91,.lst 2 5 (λk=>[i (UB [0,200,410,700,1000] k),i (UB [0,300,510,800,1000] k)])),(92,i 5),(93,i 0)] (rX z).σ,m:=JJ,nx:=930}
 | 1=>{σ:=H4 [(91,.lst 2 5 (λk=>[i (UB [0,200,410,700,1000] k),i (UB [0,300,510,800,1000] k)])),(92,i 5),(93,i 1)] (rX z).σ,m:=[(920,.row 20 1 2 (H3 wl0)),(921,.row 20 1 1 (H3 wl1)),(922,.row 20 1 1 (H3 wl2)),(923,.row 20 1 1 (H3 wl3)),(911,.row 5 1 42 (D2 rp0)),(14,.cells 110 [.ptr 14 0,.row 911])],nx:=930}
 | 2=>{σ:=H4 [(91,.lst 2 5 (λk=>[i (UB [0,200,410,700,1000] k),i (UB [0,300,510,800,1000] k)])),(92,i 5),(93,i 2)] (rX z).σ,m:=[(920,.row 20 1 3 (H3 wl0)),(921,.row 20 1 1 (H3 wl1)),(922,.row 20 1 1 (H3 wl2)),(923,.row 20 1 1 (H3 wl3)),(911,.row 5 1 42 (D2 rp0)),(14,.cells 110 [.ptr 14 0,.row 911])],nx:=930}
 | 3=>{σ:=H4 [(91,.lst 2 5 (λk=>[i (UB [0,200,410,700,1000] k),i (UB [0,300,510,800,1000] k)])),(92,i 5),(93,i 3)] (rX z).σ,m:=[(920,.row 20 1 4 (H3 wl0)),(921,.row 20 1 1 (H3 wl1)),(922,.row 20 1 1 (H3 wl2)),(923,.row 20 1 1 (H3 wl3)),(911,.row 5 1 42 (D2 rp0)),(14,.cells 110 [.ptr 14 0,.row 911])],nx:=930}
 | 4=>{σ:=H4 [(91,.lst 2 5 (λk=>[i (UB [0,200,410,700,1000] k),i (UB [0,300,510,800,1000] k)])),(92,i 5),(93,i 4)] (rX z).σ,m:=[(920,.row 20 1 5 (H3 wl0)),(921,.row 20 1 1 (H3 wl1)),(922,.row 20 1 1 (H3 wl2)),(923,.row 20 1 1 (H3 wl3)),(911,.row 5 1 42 (D2 rp0)),(14,.cells 110 [.ptr 14 0,.row 911])],nx:=930}
 |_=>{σ:=H4 [(91,.lst 2 5 (λk=>[i (UB [0,200,410,700,1000] k),i (UB [0,300,510,800,1000] k)])),(92,i 5),(93,i 5)] (rX z).σ,m:=WY,nx:=930}
def DM:G9->Option St
 | .exit 0=>some {σ:=H4 [(91,.lst 2 5 (λk=>[i (UB [0,200,410,700,1000] k),i (UB [0,300,510,800,1000] k)])),(92,i 5),(93,i 5)] (rX z).σ,m:=WY,nx:=930}
 |_=>none
def MC:CT:= .leaf (.exit 0,(DM z (.exit 0)).getD (rX z))
abbrev QE:List (Pl×Nat×TypeId×Nat):=[(.slot 9,920,20,1),(.slot 10,921,20,1),(.slot 11,922,20,1),(.slot 12,923,20,1),(.cell 14 1,911,5,1)]
def Xc8:UL:=GM QE (HK (DV z 0) (MC z))
abbrev Q6:Prop:=AV.ro [hR 2 VY,iI VY.pl,iI VY.ph,hY 2 VY,hC 1 VY,hT 2 VY]=AV.ro [hR 2 VY,iI VY.pl,iI VY.ph,hY 2 VY,hC 1 VY,hT 2 VY]
noncomputable abbrev Q9:Ext:={R:=[(44,Xb8),(45,LA),(36,zH),(40,MG)],H:=[(41,Xd6),(47,Xd5)],C:=[(33,Qk6),(11,Xb7)] }
abbrev QF:List Int:=[(0:Int),200,410,700,1000]
abbrev QJ:List Int:=[(0:Int),300,510,800,1000]
abbrev QO:Prop:=AV.fn (Fn.func 41) [] [ptr 14 0]=AV.fn (Fn.func 41) [] [ptr 14 0]
abbrev QW:List (Nat×UY):=[(30,tW),(35,tU),(38,tP),(46,AN)]
abbrev WE:Prop:=ptr 14 0=ptr 14 0
abbrev WT:AV:=lst 2 5 λk=>[iI (UB QF k),iI (UB QJ k)]
abbrev X1:Prop:=AV.row 911=AV.row 911
abbrev XY:Prop:=AV.row 920=AV.row 920
abbrev XZ:Prop:=AV.row 921=AV.row 921
abbrev Z0:Prop:=AV.row 922=AV.row 922
abbrev Z1:Prop:=AV.row 923=AV.row 923
theorem Zj4:PM (HP VR QW Q9 [] QE rZ (DV z 0) (DV z 1) (DM z))=(let A:=([AV.x (.iface 9 (.string ({data:=List.toArray (Lib.itoa (UB QF (0:Int).toNat)) }++{data:=#[46,46] }++{data:=List.toArray (Lib.itoa (UB QJ (0:Int).toNat)) })))]);(need [UM 0 5] (need [(0:Int)<=UB QF (0:Int).toNat/\UB QF (0:Int).toNat<=1000\/(-1000:Int)<=UB QF (0:Int).toNat/\UB QF (0:Int).toNat<=1000,(-1000:Int)<=UB QJ (0:Int).toNat/\UB QJ (0:Int).toNat<=1000,4<=100] (need [32<=140737488355328,∀(i:Nat),i<1-> ∀(a:AV),a∈U8 1 A i->AV.one a=true] (need [VO ((0:Int)+1)] (need [Q6,WE,QO,XY,XZ,Z0,Z1,WT=WT,J5,(0:Int)+1=1,2=2,GY 2 (GI 1 (H3 wl0) (U8 1 A)) (H3 wl0),1=1,GT 1 (H3 wl1),1=1,GT 1 (H3 wl2),1=1,GT 1 (H3 wl3),42=42,GT 42 (D2 rp0),WE,X1] (leaf G9.normal))))))):=by
 kernel_rfl
theorem Zj3:PM (HP VR QW Q9 [] QE rZ (DV z 1) (DV z 2) (DM z))=(let A:=([AV.x (.iface 9 (.string ({data:=List.toArray (Lib.itoa (UB QF (1:Int).toNat)) }++{data:=#[46,46] }++{data:=List.toArray (Lib.itoa (UB QJ (1:Int).toNat)) })))]);(need [UM 1 5] (need [(0:Int)<=UB QF (1:Int).toNat/\UB QF (1:Int).toNat<=1000\/(-1000:Int)<=UB QF (1:Int).toNat/\UB QF (1:Int).toNat<=1000,(-1000:Int)<=UB QJ (1:Int).toNat/\UB QJ (1:Int).toNat<=1000,8<=100] (need [48<=140737488355328,∀(i:Nat),i<1-> ∀(a:AV),a∈U8 1 A i->AV.one a=true] (need [VO ((1:Int)+1)] (need [Q6,WE,QO,XY,XZ,Z0,Z1,WT=WT,J5,(1:Int)+1=2,3=3,GY 3 (GI 2 (H3 wl0) (U8 1 A)) (H3 wl0),1=1,GT 1 (H3 wl1),1=1,GT 1 (H3 wl2),1=1,GT 1 (H3 wl3),42=42,GT 42 (D2 rp0),WE,X1] (leaf G9.normal))))))):=by
 kernel_rfl
theorem Zj2:PM (HP VR QW Q9 [] QE rZ (DV z 2) (DV z 3) (DM z))=(let A:=([AV.x (.iface 9 (.string ({data:=List.toArray (Lib.itoa (UB QF (2:Int).toNat)) }++{data:=#[46,46] }++{data:=List.toArray (Lib.itoa (UB QJ (2:Int).toNat)) })))]);(need [UM 2 5] (need [(0:Int)<=UB QF (2:Int).toNat/\UB QF (2:Int).toNat<=1000\/(-1000:Int)<=UB QF (2:Int).toNat/\UB QF (2:Int).toNat<=1000,(-1000:Int)<=UB QJ (2:Int).toNat/\UB QJ (2:Int).toNat<=1000,8<=100] (need [64<=140737488355328,∀(i:Nat),i<1-> ∀(a:AV),a∈U8 1 A i->AV.one a=true] (need [VO ((2:Int)+1)] (need [Q6,WE,QO,XY,XZ,Z0,Z1,WT=WT,J5,(2:Int)+1=3,4=4,GY 4 (GI 3 (H3 wl0) (U8 1 A)) (H3 wl0),1=1,GT 1 (H3 wl1),1=1,GT 1 (H3 wl2),1=1,GT 1 (H3 wl3),42=42,GT 42 (D2 rp0),WE,X1] (leaf G9.normal))))))):=by
 kernel_rfl
theorem Zj1:PM (HP VR QW Q9 [] QE rZ (DV z 3) (DV z 4) (DM z))=(let A:=([AV.x (.iface 9 (.string ({data:=List.toArray (Lib.itoa (UB QF (3:Int).toNat)) }++{data:=#[46,46] }++{data:=List.toArray (Lib.itoa (UB QJ (3:Int).toNat)) })))]);(need [UM 3 5] (need [(0:Int)<=UB QF (3:Int).toNat/\UB QF (3:Int).toNat<=1000\/(-1000:Int)<=UB QF (3:Int).toNat/\UB QF (3:Int).toNat<=1000,(-1000:Int)<=UB QJ (3:Int).toNat/\UB QJ (3:Int).toNat<=1000,8<=100] (need [80<=140737488355328,∀(i:Nat),i<1-> ∀(a:AV),a∈U8 1 A i->AV.one a=true] (need [VO ((3:Int)+1)] (need [Q6,WE,QO,XY,XZ,Z0,Z1,WT=WT,J5,(3:Int)+1=4,5=5,GY 5 (GI 4 (H3 wl0) (U8 1 A)) (H3 wl0),1=1,GT 1 (H3 wl1),1=1,GT 1 (H3 wl2),1=1,GT 1 (H3 wl3),42=42,GT 42 (D2 rp0),WE,X1] (leaf G9.normal))))))):=by
 kernel_rfl
theorem Zj0:PM (HP VR QW Q9 [] QE rZ (DV z 4) (DV z 5) (DM z))=(let A:=([AV.x (.iface 9 (.string ({data:=List.toArray (Lib.itoa (UB QF (4:Int).toNat)) }++{data:=#[46,46] }++{data:=List.toArray (Lib.itoa (UB QJ (4:Int).toNat)) })))]);(need [UM 4 5] (need [(0:Int)<=UB QF (4:Int).toNat/\UB QF (4:Int).toNat<=1000\/(-1000:Int)<=UB QF (4:Int).toNat/\UB QF (4:Int).toNat<=1000,(-1000:Int)<=UB QJ (4:Int).toNat/\UB QJ (4:Int).toNat<=1000,10<=100] (need [96<=140737488355328,∀(i:Nat),i<1-> ∀(a:AV),a∈U8 1 A i->AV.one a=true] (need [VO ((4:Int)+1)] (need [Q6,WE,QO,XY,XZ,Z0,Z1,WT=WT,J5,(4:Int)+1=5,6=6,GY 6 (GI 5 (H3 wl0) (U8 1 A)) (H3 wl0),1=1,GT 1 (H3 wl1),1=1,GT 1 (H3 wl2),1=1,GT 1 (H3 wl3),42=42,GT 42 (D2 rp0),WE,X1] (leaf G9.normal))))))):=by
 kernel_rfl
theorem Zi9:PM (HP VR QW Q9 [] QE rZ (DV z 5) (DV z 5) (DM z))=(need [Q6,WE,QO,XY,XZ,Z0,Z1,WT=WT,J5,J5,6=6,GT 6 (H3 wl0),1=1,GT 1 (H3 wl1),1=1,GT 1 (H3 wl2),1=1,GT 1 (H3 wl3),42=42,GT 42 (D2 rp0),WE,X1] (leaf (G9.exit 0))):=by
 kernel_rfl
end
theorem V2{p:Prop}(h:p:=by
 (with_reducible repeat' first|apply Al|intro _)
 all_goals first|exact Ak|(rename_i E hE;cases hE;exact hQ)|contradiction|omega|exact FS (by assumption) (by simp [AV.one,Value.oneCell'])|(rename_i i O;exact Qf7 (by decide+kernel) i O)|(rename_i i O;exact ltM VW i O)|exact cP (by decide+kernel)|exact sY (by decide+kernel)|decide+kernel|with_reducible rfl|rfl):p:=h
theorem Zj5(z:Nat):GA VR (.loop rZ) (Xc8 z):=by
 refine G5 QE (L:=[]) (Ae yQ (Ae yJ (Ae yB (Ae xU Aa)))) (Aj (Af yN (Af FD (Af RH (Af P4 Ab)))) (Ag xV (Ag yA Ac)) (Ah xO (Ah fB (UE.nil _)))) U1 U6 (X:=Nat) (DV z) (λk=>k<=5) (λk=>6-k) (λ_=>DM z) (x0:=0) (Ao _) ?_ ?_ ?_
 ·intro k
  match k with
  | 0=>
   show Sx.okB (DV z 0)=true;kernel_rfl
  | 1=>
   show Sx.okB (DV z 1)=true;kernel_rfl
  | 2=>
   show Sx.okB (DV z 2)=true;kernel_rfl
  | 3=>
   show Sx.okB (DV z 3)=true;kernel_rfl
  | 4=>
   show Sx.okB (DV z 4)=true;kernel_rfl
  |k+5=>
   show Sx.okB (DV z 5)=true;kernel_rfl
 ·intro k y E h;unfold DM at h;split at h
  ·cases h;kernel_rfl
  ·cases h
 ·intro Q hQ k hx
  match k with
  | 0=>
   refine ⟨1,?_⟩
   with_reducible refine H6 ?_
   rw [Zj4];simp only [MC,DM,VP.sat,GX] at hQ;simp only [VP.sat,UD,UJ,VO,DM];exact V2
  | 1=>
   refine ⟨2,?_⟩
   with_reducible refine H6 ?_
   rw [Zj3];simp only [MC,DM,VP.sat,GX] at hQ;simp only [VP.sat,UD,UJ,VO,DM];exact V2
  | 2=>
   refine ⟨3,?_⟩
   with_reducible refine H6 ?_
   rw [Zj2];simp only [MC,DM,VP.sat,GX] at hQ;simp only [VP.sat,UD,UJ,VO,DM];exact V2
  | 3=>
   refine ⟨4,?_⟩
   with_reducible refine H6 ?_
   rw [Zj1];simp only [MC,DM,VP.sat,GX] at hQ;simp only [VP.sat,UD,UJ,VO,DM];exact V2
  | 4=>
   refine ⟨5,?_⟩
   with_reducible refine H6 ?_
   rw [Zj0];simp only [MC,DM,VP.sat,GX] at hQ;simp only [VP.sat,UD,UJ,VO,DM];exact V2
  | 5=>
   refine ⟨5,?_⟩
   with_reducible refine H6 ?_
   rw [Zi9];simp only [MC,DM,VP.sat,GX] at hQ;simp only [VP.sat,UD,UJ,VO,DM];exact V2
  |k+6=>omega
def SW(z:Nat):St:=((some {σ:=mkS 198 [(0,.top),(5,.ro (hsL VY)),(7,.ptr 14 0),(8,.fn (.func 41) [] [.ptr 14 0]),(9,.row 920),(10,.row 921),(11,.row 922),(12,.row 923),(116,.lst 2 3 (λk=>[i (UB [0,1,-3] k),i (UB [0,5,5] k)])),(117,i 3),(118,i 0)],m:=WY,nx:=930}:Option St):Option St).getD {σ:=[],m:=[],nx:=0}
noncomputable def SY:Code:=UC (VV (U9 Tryz.f24) 1)
abbrev WZ:H5:=[(920,.row 20 1 6 (H3 wl0)),(921,.row 20 1 4 (H3 wl1)),(922,.row 20 1 1 (H3 wl2)),(923,.row 20 1 1 (H3 wl3)),(911,.row 5 1 42 (D2 rp0)),(14,.cells 110 [.ptr 14 0,.row 911])]
section
variable (z:Nat)
def RU:Nat->St
 | 0=>{σ:=H4 [(116,.lst 2 3 (λk=>[i (UB [0,1,-3] k),i (UB [0,5,5] k)])),(117,i 3),(118,i 0)] (SW z).σ,m:=WY,nx:=930}
 | 1=>{σ:=H4 [(116,.lst 2 3 (λk=>[i (UB [0,1,-3] k),i (UB [0,5,5] k)])),(117,i 3),(118,i 1)] (SW z).σ,m:=[(920,.row 20 1 6 (H3 wl0)),(921,.row 20 1 2 (H3 wl1)),(922,.row 20 1 1 (H3 wl2)),(923,.row 20 1 1 (H3 wl3)),(911,.row 5 1 42 (D2 rp0)),(14,.cells 110 [.ptr 14 0,.row 911])],nx:=930}
 | 2=>{σ:=H4 [(116,.lst 2 3 (λk=>[i (UB [0,1,-3] k),i (UB [0,5,5] k)])),(117,i 3),(118,i 2)] (SW z).σ,m:=[(920,.row 20 1 6 (H3 wl0)),(921,.row 20 1 3 (H3 wl1)),(922,.row 20 1 1 (H3 wl2)),(923,.row 20 1 1 (H3 wl3)),(911,.row 5 1 42 (D2 rp0)),(14,.cells 110 [.ptr 14 0,.row 911])],nx:=930}
 |_=>{σ:=H4 [(116,.lst 2 3 (λk=>[i (UB [0,1,-3] k),i (UB [0,5,5] k)])),(117,i 3),(118,i 3)] (SW z).σ,m:=WZ,nx:=930}
def RJ:G9->Option St
 | .exit 2=>some {σ:=H4 [(116,.lst 2 3 (λk=>[i (UB [0,1,-3] k),i (UB [0,5,5] k)])),(117,i 3),(118,i 3)] (SW z).σ,m:=WZ,nx:=930}
 |_=>none
def mM:CT:= .leaf (.exit 2,(RJ z (.exit 2)).getD (SW z))
def Xc7:UL:=GM QE (HK (RU z 0) (mM z))
abbrev W9:AV:=lst 2 3 λk=>[iI (UB [(0:Int),1,-3] k),iI (UB [(0:Int),5,5] k)]
abbrev WW:List Int:=[(0:Int),1,-3]
abbrev Z7:List Int:=[(0:Int),5,5]
theorem Zi7:PM (HP VR QW Q9 [] QE SY (RU z 0) (RU z 1) (RJ z))=(let A:=([AV.x (.iface 9 (.string ({data:=List.toArray (Lib.itoa (UB WW (0:Int).toNat)) }++{data:=#[46,46] }++{data:=List.toArray (Lib.itoa (UB Z7 (0:Int).toNat)) })))]);(need [UM 0 3] (need [(0:Int)<=UB WW (0:Int).toNat/\UB WW (0:Int).toNat<=1000\/(-1000:Int)<=UB WW (0:Int).toNat/\UB WW (0:Int).toNat<=1000,(-1000:Int)<=UB Z7 (0:Int).toNat/\UB Z7 (0:Int).toNat<=1000,4<=100] (need [32<=140737488355328,∀(i:Nat),i<1-> ∀(a:AV),a∈U8 1 A i->AV.one a=true] (need [VO ((0:Int)+1)] (need [Q6,WE,QO,XY,XZ,Z0,Z1,W9=W9,XG,(0:Int)+1=1,6=6,GT 6 (H3 wl0),2=2,GY 2 (GI 1 (H3 wl1) (U8 1 A)) (H3 wl1),1=1,GT 1 (H3 wl2),1=1,GT 1 (H3 wl3),42=42,GT 42 (D2 rp0),WE,X1] (leaf G9.normal))))))):=by
 kernel_rfl
theorem Zi6:PM (HP VR QW Q9 [] QE SY (RU z 1) (RU z 2) (RJ z))=(let A:=([AV.x (.iface 9 (.string ({data:=List.toArray (Lib.itoa (UB WW (1:Int).toNat)) }++{data:=#[46,46] }++{data:=List.toArray (Lib.itoa (UB Z7 (1:Int).toNat)) })))]);(need [UM 1 3] (need [(0:Int)<=UB WW (1:Int).toNat/\UB WW (1:Int).toNat<=1000\/(-1000:Int)<=UB WW (1:Int).toNat/\UB WW (1:Int).toNat<=1000,(-1000:Int)<=UB Z7 (1:Int).toNat/\UB Z7 (1:Int).toNat<=1000,4<=100] (need [48<=140737488355328,∀(i:Nat),i<1-> ∀(a:AV),a∈U8 1 A i->AV.one a=true] (need [VO ((1:Int)+1)] (need [Q6,WE,QO,XY,XZ,Z0,Z1,W9=W9,XG,(1:Int)+1=2,6=6,GT 6 (H3 wl0),3=3,GY 3 (GI 2 (H3 wl1) (U8 1 A)) (H3 wl1),1=1,GT 1 (H3 wl2),1=1,GT 1 (H3 wl3),42=42,GT 42 (D2 rp0),WE,X1] (leaf G9.normal))))))):=by
 kernel_rfl
theorem Zi5:PM (HP VR QW Q9 [] QE SY (RU z 2) (RU z 3) (RJ z))=(let A:=([AV.x (.iface 9 (.string ({data:=List.toArray (Lib.itoa (UB WW (2:Int).toNat)) }++{data:=#[46,46] }++{data:=List.toArray (Lib.itoa (UB Z7 (2:Int).toNat)) })))]);(need [UM 2 3] (need [(0:Int)<=UB WW (2:Int).toNat/\UB WW (2:Int).toNat<=1000\/(-1000:Int)<=UB WW (2:Int).toNat/\UB WW (2:Int).toNat<=1000,(-1000:Int)<=UB Z7 (2:Int).toNat/\UB Z7 (2:Int).toNat<=1000,5<=100] (need [64<=140737488355328,∀(i:Nat),i<1-> ∀(a:AV),a∈U8 1 A i->AV.one a=true] (need [VO ((2:Int)+1)] (need [Q6,WE,QO,XY,XZ,Z0,Z1,W9=W9,XG,(2:Int)+1=3,6=6,GT 6 (H3 wl0),4=4,GY 4 (GI 3 (H3 wl1) (U8 1 A)) (H3 wl1),1=1,GT 1 (H3 wl2),1=1,GT 1 (H3 wl3),42=42,GT 42 (D2 rp0),WE,X1] (leaf G9.normal))))))):=by
 kernel_rfl
theorem Zi4:PM (HP VR QW Q9 [] QE SY (RU z 3) (RU z 3) (RJ z))=(need [Q6,WE,QO,XY,XZ,Z0,Z1,W9=W9,XG,XG,6=6,GT 6 (H3 wl0),4=4,GT 4 (H3 wl1),1=1,GT 1 (H3 wl2),1=1,GT 1 (H3 wl3),42=42,GT 42 (D2 rp0),WE,X1] (leaf (G9.exit 2))):=by
 kernel_rfl
theorem Zi8:GA VR (.loop SY) (Xc7 z):=by
 refine G5 QE (L:=[]) (Ae yQ (Ae yJ (Ae yB (Ae xU Aa)))) (Aj (Af yN (Af FD (Af RH (Af P4 Ab)))) (Ag xV (Ag yA Ac)) (Ah xO (Ah fB (UE.nil _)))) U1 U6 (X:=Nat) (RU z) (λk=>k<=3) (λk=>4-k) (λ_=>RJ z) (x0:=0) (Ao _) ?_ ?_ ?_
 ·intro k
  match k with
  | 0=>
   show Sx.okB (RU z 0)=true;kernel_rfl
  | 1=>
   show Sx.okB (RU z 1)=true;kernel_rfl
  | 2=>
   show Sx.okB (RU z 2)=true;kernel_rfl
  |k+3=>
   show Sx.okB (RU z 3)=true;kernel_rfl
 ·intro k y E h;unfold RJ at h;split at h
  ·cases h;kernel_rfl
  ·cases h
 ·intro Q hQ k hx
  match k with
  | 0=>
   refine ⟨1,?_⟩
   with_reducible refine H6 ?_
   rw [Zi7];simp only [mM,RJ,VP.sat,GX] at hQ;simp only [VP.sat,UD,UJ,VO,RJ];exact V2
  | 1=>
   refine ⟨2,?_⟩
   with_reducible refine H6 ?_
   rw [Zi6];simp only [mM,RJ,VP.sat,GX] at hQ;simp only [VP.sat,UD,UJ,VO,RJ];exact V2
  | 2=>
   refine ⟨3,?_⟩
   with_reducible refine H6 ?_
   rw [Zi5];simp only [mM,RJ,VP.sat,GX] at hQ;simp only [VP.sat,UD,UJ,VO,RJ];exact V2
  | 3=>
   refine ⟨3,?_⟩
   with_reducible refine H6 ?_
   rw [Zi4];simp only [mM,RJ,VP.sat,GX] at hQ;simp only [VP.sat,UD,UJ,VO,RJ];exact V2
  |k+4=>omega
end
def Qm2(z:Nat):St:=((some {σ:=mkS 198 [(0,.top),(5,.ro (hsL VY)),(7,.ptr 14 0),(8,.fn (.func 41) [] [.ptr 14 0]),(9,.row 920),(10,.row 921),(11,.row 922),(12,.row 923),(136,hsC VY),(137,i 1),(138,i 0)],m:=WZ,nx:=930}:Option St):Option St).getD {σ:=[],m:=[],nx:=0}
noncomputable def Qm8:Code:=UC (VV (U9 Tryz.f24) 2)
abbrev X0:H5:=[(920,.row 20 1 6 (H3 wl0)),(921,.row 20 1 4 (H3 wl1)),(922,.row 20 1 2 (H3 wl2)),(923,.row 20 1 1 (H3 wl3)),(911,.row 5 1 42 (D2 rp0)),(14,.cells 110 [.ptr 14 0,.row 911])]
section
variable (z:Nat)
def wM:Nat->St
 | 0=>{σ:=H4 [(136,hsC VY),(137,i 1),(138,i 0)] (Qm2 z).σ,m:=WZ,nx:=930}
 |_=>{σ:=H4 [(136,hsC VY),(137,i 1),(138,i 1)] (Qm2 z).σ,m:=X0,nx:=930}
def BV:G9->Option St
 | .exit 4=>some {σ:=H4 [(136,hsC VY),(137,i 1),(138,i 1)] (Qm2 z).σ,m:=X0,nx:=930}
 |_=>none
def Wz3:CT:= .leaf (.exit 4,(BV z (.exit 4)).getD (Qm2 z))
def Xc6:UL:=GM QE (HK (wM z 0) (Wz3 z))
abbrev YL:AV:=agg [hR 2 VY,iI VY.pl,iI VY.ph,hY 2 VY,hC 1 VY,hT 2 VY]
theorem Zi2:PM (HP VR QW Q9 [] QE Qm8 (wM z 0) (wM z 1) (BV z))=(need [UM 0 VY.nc] (need [[YL,agg [iI (VY.ca (0:Int).toNat),iI (VY.cb (0:Int).toNat),iI (VY.cc (0:Int).toNat),iI (VY.cd (0:Int).toNat),AV.x (.bool (VY.cv (0:Int).toNat))],iI (VY.cd (0:Int).toNat)]=[YL,agg [iI (VY.ca 0),iI (VY.cb 0),iI (VY.cc 0),iI (VY.cd 0),AV.x (.bool (VY.cv 0))],iI (VY.cd 0)]] (need [32<=140737488355328,RZ 1 (U8 1 [AV.x (.iface 3 (X2))])] (need [VO ((0:Int)+1)] (need [Q6,WE,QO,XY,XZ,Z0,Z1,U2 (hC 1 VY),KU,(0:Int)+1=1,6=6,GT 6 (H3 wl0),4=4,GT 4 (H3 wl1),2=2,GY 2 (GI 1 (H3 wl2) (U8 1 [AV.x (.iface 3 (X2))])) (H3 wl2),1=1,GT 1 (H3 wl3),42=42,GT 42 (D2 rp0),WE,X1] (leaf G9.normal)))))):=by
 kernel_rfl
theorem Zi1:PM (HP VR QW Q9 [] QE Qm8 (wM z 1) (wM z 1) (BV z))=(need [Q6,WE,QO,XY,XZ,Z0,Z1,U2 (hC 1 VY),KU,KU,6=6,GT 6 (H3 wl0),4=4,GT 4 (H3 wl1),2=2,GT 2 (H3 wl2),1=1,GT 1 (H3 wl3),42=42,GT 42 (D2 rp0),WE,X1] (leaf (G9.exit 4))):=by
 kernel_rfl
theorem Zi3:GA VR (.loop Qm8) (Xc6 z):=by
 refine G5 QE (L:=[]) (Ae yQ (Ae yJ (Ae yB (Ae xU Aa)))) (Aj (Af yN (Af FD (Af RH (Af P4 Ab)))) (Ag xV (Ag yA Ac)) (Ah xO (Ah fB (UE.nil _)))) U1 U6 (X:=Nat) (wM z) (λk=>k<=1) (λk=>2-k) (λ_=>BV z) (x0:=0) (Ao _) ?_ ?_ ?_
 ·intro k
  match k with
  | 0=>
   show Sx.okB (wM z 0)=true;kernel_rfl
  |k+1=>
   show Sx.okB (wM z 1)=true;kernel_rfl
 ·intro k y E h;unfold BV at h;split at h
  ·cases h;kernel_rfl
  ·cases h
 ·intro Q hQ k hx
  match k with
  | 0=>
   refine ⟨1,?_⟩
   with_reducible refine H6 ?_
   rw [Zi2];simp only [Wz3,BV,VP.sat,GX] at hQ;simp only [VP.sat,UD,UJ,VO,BV];exact V2
  | 1=>
   refine ⟨1,?_⟩
   with_reducible refine H6 ?_
   rw [Zi1];simp only [Wz3,BV,VP.sat,GX] at hQ;simp only [VP.sat,UD,UJ,VO,BV];exact V2
  |k+2=>omega
end
def MR(z:Nat):St:=((some {σ:=mkS 198 [(0,.top),(5,.ro (hsL VY)),(7,.ptr 14 0),(8,.fn (.func 41) [] [.ptr 14 0]),(9,.row 920),(10,.row 921),(11,.row 922),(12,.row 923),(162,i 4),(163,i 0)],m:=X0,nx:=930}:Option St):Option St).getD {σ:=[],m:=[],nx:=0}
noncomputable def MU:Code:=UC (VV (U9 Tryz.f24) 3)
abbrev JK:H5:=[(920,.row 20 1 6 (H3 wl0)),(921,.row 20 1 4 (H3 wl1)),(922,.row 20 1 2 (H3 wl2)),(923,.row 20 1 5 (H3 wl3)),(911,.row 5 1 42 (D2 rp0)),(14,.cells 110 [.ptr 14 0,.row 911])]
section
variable (z:Nat)
def FO:Nat->St
 | 0=>{σ:=H4 [(162,i 4),(163,i 0)] (MR z).σ,m:=X0,nx:=930}
 | 1=>{σ:=H4 [(162,i 4),(163,i 1)] (MR z).σ,m:=[(920,.row 20 1 6 (H3 wl0)),(921,.row 20 1 4 (H3 wl1)),(922,.row 20 1 2 (H3 wl2)),(923,.row 20 1 2 (H3 wl3)),(911,.row 5 1 42 (D2 rp0)),(14,.cells 110 [.ptr 14 0,.row 911])],nx:=930}
 | 2=>{σ:=H4 [(162,i 4),(163,i 2)] (MR z).σ,m:=[(920,.row 20 1 6 (H3 wl0)),(921,.row 20 1 4 (H3 wl1)),(922,.row 20 1 2 (H3 wl2)),(923,.row 20 1 3 (H3 wl3)),(911,.row 5 1 42 (D2 rp0)),(14,.cells 110 [.ptr 14 0,.row 911])],nx:=930}
 | 3=>{σ:=H4 [(162,i 4),(163,i 3)] (MR z).σ,m:=[(920,.row 20 1 6 (H3 wl0)),(921,.row 20 1 4 (H3 wl1)),(922,.row 20 1 2 (H3 wl2)),(923,.row 20 1 4 (H3 wl3)),(911,.row 5 1 42 (D2 rp0)),(14,.cells 110 [.ptr 14 0,.row 911])],nx:=930}
 |_=>{σ:=H4 [(162,i 4),(163,i 4)] (MR z).σ,m:=JK,nx:=930}
def FI:G9->Option St
 | .exit 6=>some {σ:=H4 [(162,i 4),(163,i 4)] (MR z).σ,m:=JK,nx:=930}
 |_=>none
def SI:CT:= .leaf (.exit 6,(FI z (.exit 6)).getD (MR z))
def Xc5:UL:=GM QE (HK (FO z 0) (SI z))
abbrev ZP:AV:=agg [iI 4,iI 10,hT 2 VY]
abbrev ZQ:List Int:=[(4:Int),2,4,0]
abbrev YD:Prop:=iI 100=iI 100
theorem Zh9:PM (HP VR QW Q9 [] QE MU (FO z 0) (FO z 1) (FI z))=(let A:=([AV.x (.iface 3 (.int .i64 (UB ZQ (0:Int).toNat)))]);(need [ZP=ZP,YD,(0:Int)<=0/\(0:Int)<=3] (need [32<=140737488355328,∀(i:Nat),i<1-> ∀(a:AV),a∈U8 1 A i->AV.one a=true] (need [VO ((0:Int)+1)] (need [Q6,WE,QO,XY,XZ,Z0,Z1,W0,(0:Int)+1=1,6=6,GT 6 (H3 wl0),4=4,GT 4 (H3 wl1),2=2,GT 2 (H3 wl2),2=2,GY 2 (GI 1 (H3 wl3) (U8 1 A)) (H3 wl3),42=42,GT 42 (D2 rp0),WE,X1] (leaf G9.normal)))))):=by
 kernel_rfl
theorem Zh8:PM (HP VR QW Q9 [] QE MU (FO z 1) (FO z 2) (FI z))=(let A:=([AV.x (.iface 3 (.int .i64 (UB ZQ (1:Int).toNat)))]);(need [ZP=ZP,YD,(0:Int)<=1/\(1:Int)<=3] (need [48<=140737488355328,∀(i:Nat),i<1-> ∀(a:AV),a∈U8 1 A i->AV.one a=true] (need [VO ((1:Int)+1)] (need [Q6,WE,QO,XY,XZ,Z0,Z1,W0,(1:Int)+1=2,6=6,GT 6 (H3 wl0),4=4,GT 4 (H3 wl1),2=2,GT 2 (H3 wl2),3=3,GY 3 (GI 2 (H3 wl3) (U8 1 A)) (H3 wl3),42=42,GT 42 (D2 rp0),WE,X1] (leaf G9.normal)))))):=by
 kernel_rfl
theorem Zh7:PM (HP VR QW Q9 [] QE MU (FO z 2) (FO z 3) (FI z))=(let A:=([AV.x (.iface 3 (.int .i64 (UB ZQ (2:Int).toNat)))]);(need [ZP=ZP,YD,(0:Int)<=2/\(2:Int)<=3] (need [64<=140737488355328,∀(i:Nat),i<1-> ∀(a:AV),a∈U8 1 A i->AV.one a=true] (need [VO ((2:Int)+1)] (need [Q6,WE,QO,XY,XZ,Z0,Z1,W0,(2:Int)+1=3,6=6,GT 6 (H3 wl0),4=4,GT 4 (H3 wl1),2=2,GT 2 (H3 wl2),4=4,GY 4 (GI 3 (H3 wl3) (U8 1 A)) (H3 wl3),42=42,GT 42 (D2 rp0),WE,X1] (leaf G9.normal)))))):=by
 kernel_rfl
theorem Zh6:PM (HP VR QW Q9 [] QE MU (FO z 3) (FO z 4) (FI z))=(let A:=([AV.x (.iface 3 (.int .i64 (UB ZQ (3:Int).toNat)))]);(need [ZP=ZP,YD,(0:Int)<=3/\(3:Int)<=3] (need [80<=140737488355328,∀(i:Nat),i<1-> ∀(a:AV),a∈U8 1 A i->AV.one a=true] (need [VO ((3:Int)+1)] (need [Q6,WE,QO,XY,XZ,Z0,Z1,W0,(3:Int)+1=4,6=6,GT 6 (H3 wl0),4=4,GT 4 (H3 wl1),2=2,GT 2 (H3 wl2),5=5,GY 5 (GI 4 (H3 wl3) (U8 1 A)) (H3 wl3),42=42,GT 42 (D2 rp0),WE,X1] (leaf G9.normal)))))):=by
 kernel_rfl
theorem Zh5:PM (HP VR QW Q9 [] QE MU (FO z 4) (FO z 4) (FI z))=(need [Q6,WE,QO,XY,XZ,Z0,Z1,W0,W0,6=6,GT 6 (H3 wl0),4=4,GT 4 (H3 wl1),2=2,GT 2 (H3 wl2),5=5,GT 5 (H3 wl3),42=42,GT 42 (D2 rp0),WE,X1] (leaf (G9.exit 6))):=by
 kernel_rfl
theorem Zi0:GA VR (.loop MU) (Xc5 z):=by
 refine G5 QE (L:=[]) (Ae yQ (Ae yJ (Ae yB (Ae xU Aa)))) (Aj (Af yN (Af FD (Af RH (Af P4 Ab)))) (Ag xV (Ag yA Ac)) (Ah xO (Ah fB (UE.nil _)))) U1 U6 (X:=Nat) (FO z) (λk=>k<=4) (λk=>5-k) (λ_=>FI z) (x0:=0) (Ao _) ?_ ?_ ?_
 ·intro k
  match k with
  | 0=>
   show Sx.okB (FO z 0)=true;kernel_rfl
  | 1=>
   show Sx.okB (FO z 1)=true;kernel_rfl
  | 2=>
   show Sx.okB (FO z 2)=true;kernel_rfl
  | 3=>
   show Sx.okB (FO z 3)=true;kernel_rfl
  |k+4=>
   show Sx.okB (FO z 4)=true;kernel_rfl
 ·intro k y E h;unfold FI at h;split at h
  ·cases h;kernel_rfl
  ·cases h
 ·intro Q hQ k hx
  match k with
  | 0=>
   refine ⟨1,?_⟩
   with_reducible refine H6 ?_
   rw [Zh9];simp only [SI,FI,VP.sat,GX] at hQ;simp only [VP.sat,UD,UJ,VO,FI];exact V2
  | 1=>
   refine ⟨2,?_⟩
   with_reducible refine H6 ?_
   rw [Zh8];simp only [SI,FI,VP.sat,GX] at hQ;simp only [VP.sat,UD,UJ,VO,FI];exact V2
  | 2=>
   refine ⟨3,?_⟩
   with_reducible refine H6 ?_
   rw [Zh7];simp only [SI,FI,VP.sat,GX] at hQ;simp only [VP.sat,UD,UJ,VO,FI];exact V2
  | 3=>
   refine ⟨4,?_⟩
   with_reducible refine H6 ?_
   rw [Zh6];simp only [SI,FI,VP.sat,GX] at hQ;simp only [VP.sat,UD,UJ,VO,FI];exact V2
  | 4=>
   refine ⟨4,?_⟩
   with_reducible refine H6 ?_
   rw [Zh5];simp only [SI,FI,VP.sat,GX] at hQ;simp only [VP.sat,UD,UJ,VO,FI];exact V2
  |k+5=>omega
end
abbrev JN:H5:=[(925,.row 111 1 4 (U8 1 [.lst 1 6 (H3 wl0),.lst 1 4 (H3 wl1),.lst 1 2 (H3 wl2),.lst 1 5 (H3 wl3)])),(911,.row 5 1 42 (D2 rp0)),(14,.cells 110 [.ptr 14 0,.row 911])]
def MQ(z:Nat):St:=((some {σ:=mkS 198 [(0,.top),(5,.ro (hsL VY)),(7,.ptr 14 0),(8,.fn (.func 41) [] [.ptr 14 0]),(187,.row 925),(188,i 4),(189,i 0)],m:=JN,nx:=930}:Option St):Option St).getD {σ:=[],m:=[],nx:=0}
noncomputable def MT:Code:=UC (VV (U9 Tryz.f24) 4)
abbrev JM:H5:=[(925,.row 111 1 4 (U8 1 [.lst 1 6 (H3 wl0),.lst 1 4 (H3 wl1),.lst 1 2 (H3 wl2),.lst 1 5 (H3 wl3)])),(911,.row 5 1 136 (D2 rp4)),(14,.cells 110 [.ptr 14 0,.row 911])]
section
variable (z:Nat)
def FN:Nat->St
 | 0=>{σ:=H4 [(187,.row 925),(188,i 4),(189,i 0)] (MQ z).σ,m:=JN,nx:=930}
 | 1=>{σ:=H4 [(187,.row 925),(188,i 4),(189,i 1)] (MQ z).σ,m:=[(925,.row 111 1 4 (U8 1 [.lst 1 6 (H3 wl0),.lst 1 4 (H3 wl1),.lst 1 2 (H3 wl2),.lst 1 5 (H3 wl3)])),(911,.row 5 1 91 (D2 rp1)),(14,.cells 110 [.ptr 14 0,.row 911])],nx:=930}
 | 2=>{σ:=H4 [(187,.row 925),(188,i 4),(189,i 2)] (MQ z).σ,m:=[(925,.row 111 1 4 (U8 1 [.lst 1 6 (H3 wl0),.lst 1 4 (H3 wl1),.lst 1 2 (H3 wl2),.lst 1 5 (H3 wl3)])),(911,.row 5 1 115 (D2 rp2)),(14,.cells 110 [.ptr 14 0,.row 911])],nx:=930}
 | 3=>{σ:=H4 [(187,.row 925),(188,i 4),(189,i 3)] (MQ z).σ,m:=[(925,.row 111 1 4 (U8 1 [.lst 1 6 (H3 wl0),.lst 1 4 (H3 wl1),.lst 1 2 (H3 wl2),.lst 1 5 (H3 wl3)])),(911,.row 5 1 123 (D2 rp3)),(14,.cells 110 [.ptr 14 0,.row 911])],nx:=930}
 |_=>{σ:=H4 [(187,.row 925),(188,i 4),(189,i 4)] (MQ z).σ,m:=JM,nx:=930}
def FH:G9->Option St
 | .exit 8=>some {σ:=H4 [(187,.row 925),(188,i 4),(189,i 4)] (MQ z).σ,m:=JM,nx:=930}
 |_=>none
def SH:CT:= .leaf (.exit 8,(FH z (.exit 8)).getD (MQ z))
def Xc4:UL:=GM [(.slot 187,925,111,1),(.cell 14 1,911,5,1)] (HK (FN z 0) (SH z))
noncomputable abbrev J9:AV:=lst 1 6 λk=>[Option.rec (top) (λval=>(λval=>(λx=>x) val) val) wl0[k]?]
noncomputable abbrev JA:AV:=lst 1 4 λk=>[Option.rec (top) (λval=>(λval=>(λx=>x) val) val) wl1[k]?]
noncomputable abbrev JC:AV:=lst 1 2 λk=>[Option.rec (top) (λval=>(λval=>(λx=>x) val) val) wl2[k]?]
noncomputable abbrev JD:AV:=lst 1 5 λk=>[Option.rec (top) (λval=>(λval=>(λx=>x) val) val) wl3[k]?]
noncomputable abbrev Q7:List AV:=[J9,JA,JC,JD]
abbrev WR:List AV:=[AV.x (.string {data:=#[(48:UInt8),(46:UInt8),(46:UInt8),(48:UInt8)] })]
abbrev XE:List AV:=[AV.x (.string {data:=#[(49:UInt8),(48:UInt8),(48:UInt8),(48:UInt8),(46:UInt8),(46:UInt8),(49:UInt8),(48:UInt8),(48:UInt8),(48:UInt8)] })]
abbrev XQ:List AV:=[AV.x (.string {data:=#[(50:UInt8),(48:UInt8),(48:UInt8),(46:UInt8),(46:UInt8),(51:UInt8),(48:UInt8),(48:UInt8)] })]
abbrev XR:List AV:=[AV.x (.string {data:=#[(52:UInt8),(49:UInt8),(48:UInt8),(46:UInt8),(46:UInt8),(53:UInt8),(49:UInt8),(48:UInt8)] })]
abbrev XS:List AV:=[AV.x (.string {data:=#[(55:UInt8),(48:UInt8),(48:UInt8),(46:UInt8),(46:UInt8),(56:UInt8),(48:UInt8),(48:UInt8)] })]
abbrev Z5:Value:=Value.string {data:=#[(109:UInt8),(97:UInt8),(114:UInt8),(107:UInt8),(115:UInt8)] }
abbrev J6:List (Pl×Nat×TypeId×Nat):=[(.slot 187,925,111,1),(.cell 14 1,911,5,1)]
abbrev Y3:Prop:=AV.row 925=AV.row 925
theorem Zh3:PM (HP VR QW Q9 [] J6 MT (FN z 0) (FN z 1) (FH z))=(let A:=(GI 5 (GI 4 (GI 3 (GI 2 (GI 1 (GI 0 (λx=>[]) (U8 1 [AV.x (Z5)])) (U8 1 WR)) (U8 1 XQ)) (U8 1 XR)) (U8 1 XS)) (U8 1 XE));(need [UM 0 4] (need [(0:Int).toNat<4] (need [UM 0 6] (need [16<=140737488355328,RZ 1 (U8 1 [AV.x (Z5)])] (need [VO ((0:Int)+1)] (need [(0:Int)<=0+1/\(0:Int)+1<(↑(6:Nat):Int)] (need [32<=140737488355328,∀(i:Nat),i<1-> ∀(a:AV),a∈U8 1 WR i->AV.one a=true] (need [VO ((0:Int)+1+1)] (need [(0:Int)<=0+1+1/\(0:Int)+1+1<(↑(6:Nat):Int)] (need [48<=140737488355328,∀(i:Nat),i<1-> ∀(a:AV),a∈U8 1 XQ i->AV.one a=true] (need [VO ((0:Int)+1+1+1)] (need [(0:Int)<=0+1+1+1/\(0:Int)+1+1+1<(↑(6:Nat):Int)] (need [64<=140737488355328,∀(i:Nat),i<1-> ∀(a:AV),a∈U8 1 XR i->AV.one a=true] (need [VO ((0:Int)+1+1+1+1)] (need [(0:Int)<=0+1+1+1+1/\(0:Int)+1+1+1+1<(↑(6:Nat):Int)] (need [80<=140737488355328,∀(i:Nat),i<1-> ∀(a:AV),a∈U8 1 XS i->AV.one a=true] (need [VO ((0:Int)+1+1+1+1+1)] (need [(0:Int)<=0+1+1+1+1+1/\(0:Int)+1+1+1+1+1<(↑(6:Nat):Int)] (need [96<=140737488355328,∀(i:Nat),i<1-> ∀(a:AV),a∈U8 1 XE i->AV.one a=true] (need [VO ((0:Int)+1+1+1+1+1+1)] (need [6<=100000,kM 6 A,ByteArray.size (jnB 6 A {data:=#[32] })<=140737488355328] (need [(↑(49:Nat):Int)<=9223372036854775807] (need [91<=140737488355328] (need [VO ((0:Int)+1)] (need [Q6,WE,QO,Y3,W0,(0:Int)+1=1,4=4,GT 4 (U8 1 Q7),91=91,GY 91 (GI 42 (D2 rp0) (D2 (jnB 6 A {data:=#[32] }++{data:=#[10] }))) (D2 rp1),WE,X1] (leaf G9.normal))))))))))))))))))))))))))):=by
 kernel_rfl
abbrev XF:Value:=Value.string {data:=#[(111:UInt8),(102:UInt8),(102:UInt8),(115:UInt8),(101:UInt8),(116:UInt8),(115:UInt8)] }
abbrev ZL:List AV:=[AV.x (.string {data:=#[(45:UInt8),(51:UInt8),(46:UInt8),(46:UInt8),(53:UInt8)] })]
abbrev ZV:List AV:=[AV.x (.string {data:=#[(49:UInt8),(46:UInt8),(46:UInt8),(53:UInt8)] })]
theorem Zh2:PM (HP VR QW Q9 [] J6 MT (FN z 1) (FN z 2) (FH z))=(let A:=(GI 3 (GI 2 (GI 1 (GI 0 (λx=>[]) (U8 1 [AV.x (XF)])) (U8 1 WR)) (U8 1 ZV)) (U8 1 ZL));(need [UM 1 4] (need [(1:Int).toNat<4] (need [UM 0 4] (need [16<=140737488355328,RZ 1 (U8 1 [AV.x (XF)])] (need [VO ((0:Int)+1)] (need [(0:Int)<=0+1/\(0:Int)+1<(↑(4:Nat):Int)] (need [32<=140737488355328,∀(i:Nat),i<1-> ∀(a:AV),a∈U8 1 WR i->AV.one a=true] (need [VO ((0:Int)+1+1)] (need [(0:Int)<=0+1+1/\(0:Int)+1+1<(↑(4:Nat):Int)] (need [48<=140737488355328,∀(i:Nat),i<1-> ∀(a:AV),a∈U8 1 ZV i->AV.one a=true] (need [VO ((0:Int)+1+1+1)] (need [(0:Int)<=0+1+1+1/\(0:Int)+1+1+1<(↑(4:Nat):Int)] (need [64<=140737488355328,∀(i:Nat),i<1-> ∀(a:AV),a∈U8 1 ZL i->AV.one a=true] (need [VO ((0:Int)+1+1+1+1)] (need [4<=100000,kM 4 A,ByteArray.size (jnB 4 A {data:=#[32] })<=140737488355328] (need [(↑(24:Nat):Int)<=9223372036854775807] (need [115<=140737488355328] (need [VO ((1:Int)+1)] (need [Q6,WE,QO,Y3,W0,(1:Int)+1=2,4=4,GT 4 (U8 1 Q7),115=115,GY 115 (GI 91 (D2 rp1) (D2 (jnB 4 A {data:=#[32] }++{data:=#[10] }))) (D2 rp2),WE,X1] (leaf G9.normal))))))))))))))))))))):=by
 kernel_rfl
abbrev XM:List AV:=[AV.x (.string {data:=List.toArray (Lib.itoa (0:Int)) })]
abbrev Z6:Value:=Value.string {data:=#[(115:UInt8),(116:UInt8),(97:UInt8),(110:UInt8),(100:UInt8)] }
theorem Zh1:PM (HP VR QW Q9 [] J6 MT (FN z 2) (FN z 3) (FH z))=(let A:=(GI 1 (GI 0 (λx=>[]) (U8 1 [AV.x (Z6)])) (U8 1 XM));(need [UM 2 4] (need [(2:Int).toNat<4] (need [UM 0 2] (need [16<=140737488355328,RZ 1 (U8 1 [AV.x (Z6)])] (need [VO ((0:Int)+1)] (need [(0:Int)<=0+1/\(0:Int)+1<(↑(2:Nat):Int)] (need [VO (0:Int)] (need [32<=140737488355328,∀(i:Nat),i<1-> ∀(a:AV),a∈U8 1 XM i->AV.one a=true] (need [VO ((0:Int)+1+1)] (need [2<=100000,kM 2 A,ByteArray.size (jnB 2 A {data:=#[32] })<=140737488355328] (need [(↑(8:Nat):Int)<=9223372036854775807] (need [123<=140737488355328] (need [VO ((2:Int)+1)] (need [Q6,WE,QO,Y3,W0,(2:Int)+1=3,4=4,GT 4 (U8 1 Q7),123=123,GY 123 (GI 115 (D2 rp2) (D2 (jnB 2 A {data:=#[32] }++{data:=#[10] }))) (D2 rp3),WE,X1] (leaf G9.normal)))))))))))))))):=by
 kernel_rfl
abbrev XN:List AV:=[AV.x (.string {data:=List.toArray (Lib.itoa (4:Int)) })]
abbrev ZF:Value:=Value.string {data:=#[(104:UInt8),(111:UInt8),(108:UInt8),(100:UInt8)] }
abbrev JH:List AV:=[AV.x (.string {data:=List.toArray (Lib.itoa (2:Int)) })]
theorem Zh0:PM (HP VR QW Q9 [] J6 MT (FN z 3) (FN z 4) (FH z))=(let A:=(GI 4 (GI 3 (GI 2 (GI 1 (GI 0 (λx=>[]) (U8 1 [AV.x (ZF)])) (U8 1 XN)) (U8 1 JH)) (U8 1 XN)) (U8 1 XM));(need [UM 3 4] (need [(3:Int).toNat<4] (need [UM 0 5] (need [16<=140737488355328,RZ 1 (U8 1 [AV.x (ZF)])] (need [VO ((0:Int)+1)] (need [(0:Int)<=0+1/\(0:Int)+1<(↑(5:Nat):Int)] (need [VO (4:Int)] (need [32<=140737488355328,∀(i:Nat),i<1-> ∀(a:AV),a∈U8 1 XN i->AV.one a=true] (need [VO ((0:Int)+1+1)] (need [(0:Int)<=0+1+1/\(0:Int)+1+1<(↑(5:Nat):Int)] (need [VO (2:Int)] (need [48<=140737488355328,∀(i:Nat),i<1-> ∀(a:AV),a∈U8 1 JH i->AV.one a=true] (need [VO ((0:Int)+1+1+1)] (need [(0:Int)<=0+1+1+1/\(0:Int)+1+1+1<(↑(5:Nat):Int)] (need [VO (4:Int)] (need [64<=140737488355328,∀(i:Nat),i<1-> ∀(a:AV),a∈U8 1 XN i->AV.one a=true] (need [VO ((0:Int)+1+1+1+1)] (need [(0:Int)<=0+1+1+1+1/\(0:Int)+1+1+1+1<(↑(5:Nat):Int)] (need [VO (0:Int)] (need [80<=140737488355328,∀(i:Nat),i<1-> ∀(a:AV),a∈U8 1 XM i->AV.one a=true] (need [VO ((0:Int)+1+1+1+1+1)] (need [5<=100000,kM 5 A,ByteArray.size (jnB 5 A {data:=#[32] })<=140737488355328] (need [(↑(13:Nat):Int)<=9223372036854775807] (need [136<=140737488355328] (need [VO ((3:Int)+1)] (need [Q6,WE,QO,Y3,W0,(3:Int)+1=4,4=4,GT 4 (U8 1 Q7),136=136,GY 136 (GI 123 (D2 rp3) (D2 (jnB 5 A {data:=#[32] }++{data:=#[10] }))) (D2 rp4),WE,X1] (leaf G9.normal)))))))))))))))))))))))))))):=by
 kernel_rfl
theorem Zg9:PM (HP VR QW Q9 [] J6 MT (FN z 4) (FN z 4) (FH z))=(need [Q6,WE,QO,Y3,W0,W0,4=4,GT 4 (U8 1 Q7),136=136,GT 136 (D2 rp4),WE,X1] (leaf (G9.exit 8))):=by
 kernel_rfl
theorem Zh4:GA VR (.loop MT) (Xc4 z):=by
 refine G5 J6 (L:=[]) (Ae yQ (Ae yJ (Ae yB (Ae xU Aa)))) (Aj (Af yN (Af FD (Af RH (Af P4 Ab)))) (Ag xV (Ag yA Ac)) (Ah xO (Ah fB (UE.nil _)))) U1 U6 (X:=Nat) (FN z) (λk=>k<=4) (λk=>5-k) (λ_=>FH z) (x0:=0) (Ao _) ?_ ?_ ?_
 ·intro k
  match k with
  | 0=>
   show Sx.okB (FN z 0)=true;kernel_rfl
  | 1=>
   show Sx.okB (FN z 1)=true;kernel_rfl
  | 2=>
   show Sx.okB (FN z 2)=true;kernel_rfl
  | 3=>
   show Sx.okB (FN z 3)=true;kernel_rfl
  |k+4=>
   show Sx.okB (FN z 4)=true;kernel_rfl
 ·intro k y E h;unfold FH at h;split at h
  ·cases h;kernel_rfl
  ·cases h
 ·intro Q hQ k hx
  match k with
  | 0=>
   refine ⟨1,?_⟩
   with_reducible refine H6 ?_
   rw [Zh3];simp only [SH,FH,VP.sat,GX] at hQ;simp only [VP.sat,UD,UJ,VO,FH];exact V2
  | 1=>
   refine ⟨2,?_⟩
   with_reducible refine H6 ?_
   rw [Zh2];simp only [SH,FH,VP.sat,GX] at hQ;simp only [VP.sat,UD,UJ,VO,FH];exact V2
  | 2=>
   refine ⟨3,?_⟩
   with_reducible refine H6 ?_
   rw [Zh1];simp only [SH,FH,VP.sat,GX] at hQ;simp only [VP.sat,UD,UJ,VO,FH];exact V2
  | 3=>
   refine ⟨4,?_⟩
   with_reducible refine H6 ?_
   rw [Zh0];simp only [SH,FH,VP.sat,GX] at hQ;simp only [VP.sat,UD,UJ,VO,FH];exact V2
  | 4=>
   refine ⟨4,?_⟩
   with_reducible refine H6 ?_
   rw [Zg9];simp only [SH,FH,VP.sat,GX] at hQ;simp only [VP.sat,UD,UJ,VO,FH];exact V2
  |k+5=>omega
end
theorem uI{S:Code->UL->Prop}{c:Code}{s0 s1 s2 s3 s4:UL}(h0: ∀cj,VV c 0=some cj->S cj s0)(h1: ∀cj,VV c 1=some cj->S cj s1)(h2: ∀cj,VV c 2=some cj->S cj s2)(h3: ∀cj,VV c 3=some cj->S cj s3)(h4: ∀cj,VV c 4=some cj->S cj s4):
  ∀j cj,VV c j=some cj-> ∀sp,[s0,s1,s2,s3,s4][j]? =some sp->S cj sp:=by
 intro j cj hj sp Z
 match j with
 | 0=>simp at Z;subst Z;exact h0 cj hj
 | 1=>simp at Z;subst Z;exact h1 cj hj
 | 2=>simp at Z;subst Z;exact h2 cj hj
 | 3=>simp at Z;subst Z;exact h3 cj hj
 | 4=>simp at Z;subst Z;exact h4 cj hj
 |j+5=>simp at Z
theorem Zr0(B:ByteArray):bsO B.size (D2 B)=B:=by
 unfold bsO;apply ByteArray.ext;apply Array.ext
 ·show ((List.range B.size).map _).toArray.size=B.data.size;rw [List.size_toArray,Bm,List.length_range];rfl
 ·intro j h1 h2;have h3:j<B.data.size:=h2;simp [D2,byO,D1,L9,Array.getElem?_eq_getElem h3]
abbrev YT:H5:=[(911,.row 5 1 42 (D2 rp0)),(14,.cells 110 [.ptr 14 0,.row 911])]
def nK:St:={σ:=mkS 198 [(5,.ro (hsL VY)),(7,.ptr 14 0),(8,.fn (.func 41) [] [.ptr 14 0]),(9,.lst 1 6 (H3 wl0)),(10,.lst 1 4 (H3 wl1)),(11,.lst 1 2 (H3 wl2)),(12,.lst 1 5 (H3 wl3))],m:=YT,nx:=930}
def nL:St:={σ:=mkS 198 [(0,.top),(5,.ro (hsL VY)),(7,.ptr 14 0),(8,.fn (.func 41) [] [.ptr 14 0])],m:=YT,nx:=930}
abbrev WM:List AV:=[lst 1 11 λk=>[FY (UP UA k)]]
abbrev WQ:List AV:=[AV.x (.string {data:=#[(99:UInt8),(101:UInt8),(114:UInt8),(116:UInt8),(105:UInt8),(102:UInt8),(105:UInt8),(99:UInt8),(97:UInt8),(116:UInt8),(101:UInt8),(115:UInt8)] })]
abbrev WX:List AV:=[agg [iI 4,iI 100,iI 20,iI 30,hR 2 VY,lst 2 3 λk=>[iI (tbP k),iI (tbQ k)],iI VY.pl,iI VY.ph,iI 1,iI 3],iI 0]
abbrev XK:List AV:=[AV.x (.string {data:=#[(114:UInt8),(101:UInt8),(97:UInt8),(100:UInt8),(105:UInt8),(110:UInt8),(103:UInt8),(115:UInt8)] })]
abbrev ZJ:List AV:=[AV.x (.string {data:=#[(115:UInt8),(97:UInt8),(108:UInt8),(101:UInt8),(115:UInt8)] })]
abbrev ZK:List AV:=[AV.x (.string {data:=#[(98:UInt8),(97:UInt8),(116:UInt8),(104:UInt8),(115:UInt8)] })]
theorem lJ:U0 VR 24 [lns 11 (UP UA)] (.tup [.x (.string Zj6),i 0]):=by
 have hG:VN VR [(30,tW),(35,tU),(38,tP),(46,AN)]:=(Ae yQ (Ae yJ (Ae yB (Ae xU Aa))));have hX: ∀cx,VZ VR Q9 cx:=(Aj (Af yN (Af FD (Af RH (Af P4 Ab)))) (Ag xV (Ag yA Ac)) (Ah xO (Ah fB (UE.nil _))));have GU:Tryz.prog.follows .mixedOrders=true:=U1
 refine TA (L:=[Xc8 0,Xc7 0,Xc6 0,Xc5 0,Xc4 0]) Tryz.func24 (UW Tryz.f24) (λcx=>(dC (N:=[(.cell 14 1,911,5,1)]) (s2:=nL) hG (hX cx) GU (dC (N:=[(.slot 9,0,0,0),(.slot 10,0,0,0),(.slot 11,0,0,0),(.slot 12,0,0,0)]) (s2:=nK) hG (hX cx) GU (lZ hG (hX cx) GU) VW 7) VW 6)) (uI (lpE (b:= .loop rZ) VW<|(Zj5 0).N) (lpE (b:= .loop SY) VW<|(Zi8 0).N) (lpE (b:= .loop Qm8) VW<|(Zi3 0).N) (lpE (b:= .loop MU) VW<|(Zi0 0).N) (lpE (b:= .loop MT) VW<|(Zh4 0).N)) (t:=let z1:=([AV.x (.string {data:=List.toArray (Lib.itoa (↑VY.nr:Int)) })]);let z2:=([AV.x (.string {data:=List.toArray (Lib.itoa (↑VY.nb:Int)) })]);let z3:=([AV.x (.string {data:=List.toArray (Lib.itoa (↑VY.nc:Int)) })]);let z4:=([AV.x (.string {data:=List.toArray (Lib.itoa (↑VY.ns:Int)) })]);let A:=(GI 7 (GI 6 (GI 5 (GI 4 (GI 3 (GI 2 (GI 1 (GI 0 (λx=>[]) (U8 1 XK)) (U8 1 z1)) (U8 1 ZK)) (U8 1 z2)) (U8 1 WQ)) (U8 1 z3)) (U8 1 ZJ)) (U8 1 z4));(need [WM=WM] (branch ((0:Int) != 0) (leaf (RV.tup [RV.x (.string {data:=#[] }),RV.x (X2)])) (need [WM=WM] (need [UM 0 8] (need [(0:Int).toNat<8] (need [16<=140737488355328,∀(i:Nat),i<1-> ∀(a:AV),a∈U8 1 XK i->AV.one a=true] (need [VO ((0:Int)+1)] (need [(0:Int)<=0+1/\(0:Int)+1<(↑(8:Nat):Int)] (need [((0:Int)+1).toNat<8] (need [VO (↑VY.nr:Int)] (need [32<=140737488355328,∀(i:Nat),i<1-> ∀(a:AV),a∈U8 1 z1 i->AV.one a=true] (need [VO ((0:Int)+1+1)] (need [(0:Int)<=0+1+1/\(0:Int)+1+1<(↑(8:Nat):Int)] (need [((0:Int)+1+1).toNat<8] (need [48<=140737488355328,∀(i:Nat),i<1-> ∀(a:AV),a∈U8 1 ZK i->AV.one a=true] (need [VO ((0:Int)+1+1+1)] (need [(0:Int)<=0+1+1+1/\(0:Int)+1+1+1<(↑(8:Nat):Int)] (need [((0:Int)+1+1+1).toNat<8] (need [VO (↑VY.nb:Int)] (need [64<=140737488355328,∀(i:Nat),i<1-> ∀(a:AV),a∈U8 1 z2 i->AV.one a=true] (need [VO ((0:Int)+1+1+1+1)] (need [(0:Int)<=0+1+1+1+1/\(0:Int)+1+1+1+1<(↑(8:Nat):Int)] (need [((0:Int)+1+1+1+1).toNat<8] (need [80<=140737488355328,∀(i:Nat),i<1-> ∀(a:AV),a∈U8 1 WQ i->AV.one a=true] (need [VO ((0:Int)+1+1+1+1+1)] (need [(0:Int)<=0+1+1+1+1+1/\(0:Int)+1+1+1+1+1<(↑(8:Nat):Int)] (need [((0:Int)+1+1+1+1+1).toNat<8] (need [VO (↑VY.nc:Int)] (need [96<=140737488355328,∀(i:Nat),i<1-> ∀(a:AV),a∈U8 1 z3 i->AV.one a=true] (need [VO ((0:Int)+1+1+1+1+1+1)] (need [(0:Int)<=0+1+1+1+1+1+1/\(0:Int)+1+1+1+1+1+1<(↑(8:Nat):Int)] (need [((0:Int)+1+1+1+1+1+1).toNat<8] (need [112<=140737488355328,∀(i:Nat),i<1-> ∀(a:AV),a∈U8 1 ZJ i->AV.one a=true] (need [VO ((0:Int)+1+1+1+1+1+1+1)] (need [(0:Int)<=0+1+1+1+1+1+1+1/\(0:Int)+1+1+1+1+1+1+1<(↑(8:Nat):Int)] (need [((0:Int)+1+1+1+1+1+1+1).toNat<8] (need [VO (↑VY.ns:Int)] (need [128<=140737488355328,∀(i:Nat),i<1-> ∀(a:AV),a∈U8 1 z4 i->AV.one a=true] (need [VO ((0:Int)+1+1+1+1+1+1+1+1)] (need [8<=100000,kM 8 A,ByteArray.size (jnB 8 A {data:=#[32] })<=140737488355328] (need [(↑(42:Nat):Int)<=9223372036854775807] (need [42<=140737488355328] (need [Q6,WE,QO,42=42,GY 42 (GI 0 (λx=>[]) (D2 (jnB 8 A {data:=#[32] }++{data:=#[10] }))) (D2 rp0),WE,X1] (need [WX=WX] (need [Q6,WE,QO,XY,XZ,Z0,Z1,WT=WT,(↑(5:Nat):Int)=5,QY,1=1,GY 1 (U8 1 [AV.x (.iface 9 (Z5))]) (H3 wl0),1=1,GY 1 (U8 1 [AV.x (.iface 9 (XF))]) (H3 wl1),1=1,GY 1 (U8 1 [AV.x (.iface 9 (Z6))]) (H3 wl2),1=1,GY 1 (U8 1 [AV.x (.iface 9 (ZF))]) (H3 wl3),42=42,GT 42 (D2 rp0),WE,X1] (need [U2 ([agg [lst 2 3 λk=>[iI (oL k),iI (oH k)],iI 1,hY 2 VY]])] (need [Q6,WE,QO,XY,XZ,Z0,Z1,W9=W9,(↑(3:Nat):Int)=3,QY,6=6,GT 6 (H3 wl0),1=1,GT 1 (H3 wl1),1=1,GT 1 (H3 wl2),1=1,GT 1 (H3 wl3),42=42,GT 42 (D2 rp0),WE,X1] (need [Q6,WE,QO,XY,XZ,Z0,Z1,U2 (hC 1 VY),(↑VY.nc:Int)=1,QY,6=6,GT 6 (H3 wl0),4=4,GT 4 (H3 wl1),1=1,GT 1 (H3 wl2),1=1,GT 1 (H3 wl3),42=42,GT 42 (D2 rp0),WE,X1] (need [Q6,WE,QO,XY,XZ,Z0,Z1,W0,QY,6=6,GT 6 (H3 wl0),4=4,GT 4 (H3 wl1),2=2,GT 2 (H3 wl2),1=1,GT 1 (H3 wl3),42=42,GT 42 (D2 rp0),WE,X1] (need [Q6,WE,QO,J9=J9,JA=JA,JC=JC,JD=JD,42=42,GT 42 (D2 rp0),WE,X1] (need [Q6,WE,QO,Y3,(↑(4:Nat):Int)=4,QY,4=4,GT 4 (U8 1 Q7),42=42,GT 42 (D2 rp0),WE,X1] (need [wL 136 (D2 rp4),0<136] (leaf (RV.tup [RV.x (.string (bsO 136 (D2 rp4))),RV.x (X2)]))))))))))))))))))))))))))))))))))))))))))))))))))))))) VW ?_
 simp only [VP.sat,UD,G8,GO,UG,UJ,VO,DP]
 (with_reducible repeat' first|apply Al|intro _)
 all_goals first|exact Ak|contradiction|omega|exact FS (by assumption) (by simp [AV.one,Value.oneCell'])|(rename_i i O;exact Qf7 (by decide+kernel) i O)|(rename_i i O;exact ltM VW i O)|exact cP (by decide+kernel)|exact sY (by decide+kernel)|decide+kernel|with_reducible rfl|rfl|trace_state
def Zf8:HS:=stS VY 1
theorem Xu2:lnE (UP GB 0) VY=9:=by decide+kernel
theorem Xu1:lnE (UP GB 1) VY=10:=by decide+kernel
theorem Xu0:lnE (UP GB 2) VY=9:=by decide+kernel
theorem Xt9:lnE (UP GB 3) VY=0:=by decide+kernel
theorem Zy2:lnE (UP GB 4) Zf8=0:=by decide+kernel
theorem Zy1:F9 (lnW (UP GB 3)) VY=Zf8:=VW
abbrev KC(n:Nat)(a:Nat->Int):AV:=lst 1 n λk=>[iI (a k)]
abbrev KD(m:Nat)(b:Nat->Int):AV:=lst 1 m λk=>[iI (b k)]
section
variable (n m:Nat)(a b:Nat->Int)
def Xe7:St:={σ:=[KC n a,KD m b]++HM 24 [],m:=[],nx:=7}
noncomputable def Jt6:Code:=UC (VV (U9 Tryz.f25) 0)
def Wm0(k:Nat):St:=(upM [(5,i k)] (Xe7 n m a b))
def vZ(k:Nat):G9->Option St
 | .exit 0=>some (upM [] (Xe7 n m a b))
 | .ret=>some (upM [(4,.lit false)] (Xe7 n m a b))
 |_=>none
def Jp0:CT:= .branch (DD ((λk=>a k==b k)) n) (.leaf (.exit 0,(vZ n m a b 0 (.exit 0)).getD (Xe7 n m a b))) (.leaf (.ret,(vZ n m a b 0 .ret).getD (Xe7 n m a b)))
def Za0:UL:=(HK (Wm0 n m a b (0)) (Jp0 n m a b))
theorem Jf4(VU:n<=100000)(UI:n=m):GA VR (.loop Jt6) (Za0 n m a b):=by
 refine HJ (L:=[]) Aa U1 U6 (X:=Nat) (Wm0 n m a b) (λk=>k<=n/\ ∀j,j<k->((λk=>a k==b k)) j=true) (λk=>n-k) (vZ n m a b) (x0:=0) ⟨VM,λj hj=>VM⟩ ?_ ?_ ?_
 ·rintro k;kernel_rfl
 ·rintro k y E h;unfold vZ at h;split at h
  ·cases h;kernel_rfl
  ·cases h;kernel_rfl
  ·cases h
 ·rintro Q hQ k hx;refine ⟨(k+1),?_⟩;(with_reducible refine DL (t:=branch (decide ((k:Int)<(n:Int))) (need [UM k n] (need [UM k m] (branch (a k != b k) (need [U2 (KC n a),U2 (KD m b),WN] (leaf G9.ret)) (need [VO ((k:Int)+1)] (need [U2 (KC n a),U2 (KD m b),(k:Int)+1=(↑(k+1):Int)] (leaf G9.normal)))))) (need [U2 (KC n a),U2 (KD m b)] (leaf (G9.exit 0)))) VW ?_);simp only [Jp0,vZ,VP.sat,GX] at hQ;have Wr9:k<n->((λk=>a k==b k)) k=false->DD ((λk=>a k==b k)) n=false:=by
   intro h1 h2;rw [←Bool.not_eq_true];intro h3;have:=GW.1 h3 k h1;exact Bool.noConfusion (h2.symm.trans this)
  have hO:((λk=>a k==b k)) k=true-> ∀j,j<k+1->((λk=>a k==b k)) j=true:=by
   intro h1 j hj;rcases (show j<k\/j=k by omega) with h|rfl
   ·exact hx.2 j h
   ·exact h1
  have PI: ¬k<n->DD ((λk=>a k==b k)) n=true:=λh=>GW.2 (λj hj=>hx.2 j VM)
  have hQ1: ∀E,vZ n m a b k .ret=some E->DD ((λk=>a k==b k)) n=false->Q (.ret,E):=by
   intro E hE hf;cases hE;exact hQ.2 hf
  have hQ2: ∀E,vZ n m a b k (.exit 0)=some E->DD ((λk=>a k==b k)) n=true->Q (.exit 0,E):=by
   intro E hE hf;cases hE;exact hQ.1 hf
  simp only [VP.sat,UD,UJ,HB,VO,DP]
  all_goals exact VA
theorem Wj3(VU:n<=100000):U0 VR 25 [.lst 1 n (λk=>[i (a k)]),.lst 1 m (λk=>[i (b k)])] (bl (decide (n=m)&&DD (λk=>a k==b k) n)):=by
 refine U4 (L:=[FT [n<=100000,n=m] (Za0 n m a b)]) Aa U1 Tryz.func25 (UW Tryz.f25) (UZ (lpE (b:= .loop Jt6) VW<|D8 (λh=>Jf4 n m a b h.1 h.2))) (t:=branch ((n:Int) != (m:Int)) (leaf (RV.x (WO))) (need [n<=100000,n=m] (need [U2 (KC n a),U2 (KD m b),(0:Int)=(↑(0:Nat):Int)] (branch (DD (λk=>a k==b k) n) (leaf (RV.x (.bool true))) (leaf (RV.x (WO))))))) VW ?_
 simp only [VP.sat,UD,G8,GO,UG,VO,UJ,HB,RE,bne_iff_ne,ne_eq];refine ⟨λh=>?_,λh=>?_⟩
 ·have:n≠m:=by intro h';subst h';simp at h
  simp [this]
 ·have e:n=m:=by
   rw [bne_eq_false_iff_eq] at h;omega
  subst e;refine ⟨⟨VM,rfl⟩,λh2=>?_,λh2=>?_⟩
  ·simp [h2]
  ·simp [h2]
end
def Qi7:UY
 |[.lst 1 n f,.lst 1 m g]=>some ([UH 1 n f,UH 1 m g,n<=100000],bl (decide (n=m)&&DD (λk=>col 0 f k==col 0 g k) n))
 |_=>none
theorem Wj2:VS VR 25 Qi7:=by
 refine ⟨(UK Tryz.func25),?_⟩;intro avs ns res h I;unfold Qi7 at h;split at h
 ·rename_i n f m g;cases h;have hr0:UH 1 n f:=I _ VX;have hr1:UH 1 m g:=I _ VX;exact (Wj3 n m (col 0 f) (col 0 g) (I _ VX)).same (.cons (.lst 1 n _ _ hr0) (.cons (.lst 1 m _ _ hr1) .nil))
 ·cases h
def Wz7:UY
 |[.x (.slice none 0 0)]=>some ([],lns 11 (UP UA))
 |[.lst 1 n f]=>some ([n=5,∀k,k<n->f k=[.x (.string (UP GB k))]],lns 16 (UP (UA++GB)))
 |_=>none
theorem Jf6{P:Nat->Prop}(h0:P 0)(h1:P 1)(h2:P 2)(h3:P 3)(h4:P 4)(h5:P 5)(h6:P 6)(h7:P 7)(h8:P 8)(h9:P 9)(h10:P 10): ∀i,i<11->P i:=by
 intro i O
 match i,O with
 | 0,_=>exact h0
 | 1,_=>exact h1
 | 2,_=>exact h2
 | 3,_=>exact h3
 | 4,_=>exact h4
 | 5,_=>exact h5
 | 6,_=>exact h6
 | 7,_=>exact h7
 | 8,_=>exact h8
 | 9,_=>exact h9
 | 10,_=>exact h10
 |i+11,h=>exact absurd h VM
theorem Xv8{P:Nat->Prop}(h0:P 0)(h1:P 1)(h2:P 2)(h3:P 3)(h4:P 4)(h5:P 5)(h6:P 6)(h7:P 7)(h8:P 8)(h9:P 9)(h10:P 10)(h11:P 11)(h12:P 12)(h13:P 13)(h14:P 14)(h15:P 15): ∀i,i<16->P i:=by
 intro i O
 match i,O with
 | 0,_=>exact h0
 | 1,_=>exact h1
 | 2,_=>exact h2
 | 3,_=>exact h3
 | 4,_=>exact h4
 | 5,_=>exact h5
 | 6,_=>exact h6
 | 7,_=>exact h7
 | 8,_=>exact h8
 | 9,_=>exact h9
 | 10,_=>exact h10
 | 11,_=>exact h11
 | 12,_=>exact h12
 | 13,_=>exact h13
 | 14,_=>exact h14
 | 15,_=>exact h15
 |i+16,h=>exact absurd h VM
abbrev JE:AV:=AV.x (.string {data:=#[(98:UInt8),(97:UInt8),(116:UInt8),(104:UInt8),(32:UInt8),(49:UInt8),(48:UInt8),(48:UInt8),(32:UInt8),(51:UInt8),(48:UInt8),(48:UInt8)] })
abbrev QI:List AV:=[AV.x (.string {data:=#[(116:UInt8),(104:UInt8),(114:UInt8),(101:UInt8),(97:UInt8),(100:UInt8),(32:UInt8),(48:UInt8),(32:UInt8),(49:UInt8),(32:UInt8),(52:UInt8),(48:UInt8),(32:UInt8),(52:UInt8),(48:UInt8)] }),AV.x (.string {data:=#[(116:UInt8),(104:UInt8),(114:UInt8),(101:UInt8),(97:UInt8),(100:UInt8),(32:UInt8),(50:UInt8),(32:UInt8),(51:UInt8),(32:UInt8),(52:UInt8),(56:UInt8),(32:UInt8),(53:UInt8),(48:UInt8)] }),AV.x (.string {data:=#[(105:UInt8),(115:UInt8),(115:UInt8),(117:UInt8),(101:UInt8),(32:UInt8),(48:UInt8),(32:UInt8),(52:UInt8),(32:UInt8),(57:UInt8),(48:UInt8),(32:UInt8),(48:UInt8)] }),JE,AV.x (.string {data:=#[(115:UInt8),(101:UInt8),(101:UInt8),(32:UInt8),(48:UInt8),(32:UInt8),(50:UInt8),(48:UInt8),(48:UInt8)] }),AV.x (.string {data:=#[(115:UInt8),(101:UInt8),(101:UInt8),(32:UInt8),(49:UInt8),(32:UInt8),(50:UInt8),(48:UInt8),(51:UInt8)] }),JE,AV.x (.string {data:=#[(115:UInt8),(101:UInt8),(101:UInt8),(32:UInt8),(49:UInt8),(32:UInt8),(50:UInt8),(53:UInt8),(50:UInt8)] }),AV.x (.string {data:=#[(115:UInt8),(101:UInt8),(101:UInt8),(32:UInt8),(50:UInt8),(32:UInt8),(50:UInt8),(53:UInt8),(48:UInt8)] }),AV.x (.string {data:=#[(115:UInt8),(101:UInt8),(108:UInt8),(108:UInt8),(32:UInt8),(48:UInt8),(32:UInt8),(49:UInt8),(32:UInt8),(54:UInt8),(32:UInt8),(49:UInt8),(32:UInt8),(51:UInt8)] }),AV.x (.string {data:=#[(115:UInt8),(101:UInt8),(108:UInt8),(108:UInt8),(32:UInt8),(49:UInt8),(32:UInt8),(50:UInt8),(32:UInt8),(52:UInt8),(32:UInt8),(50:UInt8),(32:UInt8),(50:UInt8)] })]
theorem Wa9:U0 VR 20 [.x (.slice none 0 0)] (lns 11 (UP UA)):=by
 refine GZ Tryz.func20 (t:=need [176<=140737488355328,∀(i:Nat),i<0-> ∀(a:AV),a∈[]->AV.one a=true] (leaf (RV.lst 1 11 (GI 11 (U8 1 QI) λx=>[])))) VW ?_
 simp only [VP.sat,UD,G8,GO,UG,UJ]
 (with_reducible repeat' first|apply Al|intro _)
 all_goals first|exact Ak|contradiction|omega|exact FS (by assumption) (by simp [AV.one,Value.oneCell'])|(rename_i ha;rw [B6.1 ha];first|exact Ak|rfl)|(rename_i i O;revert i;refine Jf6 ?_ ?_ ?_ ?_ ?_ ?_ ?_ ?_ ?_ ?_ ?_<;>(show _=_;kernel_rfl))|decide|rfl|trace_state
theorem Wa8:U0 VR 20 [.lst 1 5 (λk=>[.x (.string (UP GB k))])] (lns 16 (UP (UA++GB))):=by
 refine GZ Tryz.func20 (t:=need [256<=140737488355328,∀(i:Nat),i<5-> ∀(a:AV),a∈[FY (UP GB i)]->AV.one a=true] (leaf (RV.lst 1 16 (GI 11 (U8 1 QI) λk=>[FY (UP GB k)])))) VW ?_
 simp only [VP.sat,UD,G8,GO,UG,UJ]
 (with_reducible repeat' first|apply Al|intro _)
 all_goals first|exact Ak|contradiction|omega|exact FS (by assumption) (by simp [AV.one,Value.oneCell'])|(rename_i ha;rw [B6.1 ha];first|exact Ak|rfl)|(rename_i i O;revert i;refine Xv8 ?_ ?_ ?_ ?_ ?_ ?_ ?_ ?_ ?_ ?_ ?_ ?_ ?_ ?_ ?_ ?_<;>(show _=_;kernel_rfl))|decide|rfl|trace_state
theorem Xg0:VS VR 20 Wz7:=by
 refine ⟨(UK Tryz.func20),?_⟩;intro avs ns res h I;unfold Wz7 at h;split at h
 ·cases h;exact Wa9
 ·rename_i n f;cases h;obtain rfl:n=5:=I _ VX;have h2: ∀k,k<5->f k=[.x (.string (UP GB k))]:=I (∀k,k<5->f k=[.x (.string (UP GB k))]) VX;exact Wa8.same (.cons (.lst 1 5 f _ h2) .nil)
 ·cases h
theorem Xs6:sK (UP (UA++GB)) 0=hs0:=rfl
theorem Xs5:sK (UP (UA++GB)) 1=wk1:=by
 show lnS (UP UA 0) (sK (UP (UA++GB)) 0)=_;rw [Xs6];unfold lnS;rw [if_pos Wa5];exact Xt6
theorem Xs4:sK (UP (UA++GB)) 2=wk2:=by
 show lnS (UP UA 1) (sK (UP (UA++GB)) 1)=_;rw [Xs5];unfold lnS;rw [if_pos Wa4];exact Xt5
theorem Xs3:sK (UP (UA++GB)) 3=wk3:=by
 show lnS (UP UA 2) (sK (UP (UA++GB)) 2)=_;rw [Xs4];unfold lnS;rw [if_pos Wa3];exact Xt4
theorem Xs2:sK (UP (UA++GB)) 4=wk4:=by
 show lnS (UP UA 3) (sK (UP (UA++GB)) 3)=_;rw [Xs3];unfold lnS;rw [if_pos Wa2];exact Xt3
theorem Xs1:sK (UP (UA++GB)) 5=wk5:=by
 show lnS (UP UA 4) (sK (UP (UA++GB)) 4)=_;rw [Xs2];unfold lnS;rw [if_pos Wa1];exact Xt2
theorem Xs0:sK (UP (UA++GB)) 6=wk6:=by
 show lnS (UP UA 5) (sK (UP (UA++GB)) 5)=_;rw [Xs1];unfold lnS;rw [if_pos Wa0];exact Xt1
theorem Xr9:sK (UP (UA++GB)) 7=wk7:=by
 show lnS (UP UA 6) (sK (UP (UA++GB)) 6)=_;rw [Xs0];unfold lnS;rw [if_pos Qz9];exact Xt0
theorem Xr8:sK (UP (UA++GB)) 8=wk8:=by
 show lnS (UP UA 7) (sK (UP (UA++GB)) 7)=_;rw [Xr9];unfold lnS;rw [if_pos Qz8];exact Xs9
theorem Xr7:sK (UP (UA++GB)) 9=wk9:=by
 show lnS (UP UA 8) (sK (UP (UA++GB)) 8)=_;rw [Xr8];unfold lnS;rw [if_pos Qz7];exact Xs8
theorem Qy5:sK (UP (UA++GB)) 10=Qm9:=by
 show lnS (UP UA 9) (sK (UP (UA++GB)) 9)=_;rw [Xr7];unfold lnS;rw [if_pos Qz6];exact Xs7
theorem Qy4:sK (UP (UA++GB)) 11=VY:=by
 show lnS (UP UA 10) (sK (UP (UA++GB)) 10)=_;rw [Qy5];unfold lnS;rw [if_pos nU];exact Qy8
theorem Qy3:sK (UP (UA++GB)) 12=VY:=by
 show lnS (UP GB 0) (sK (UP (UA++GB)) 11)=_;rw [Qy4];unfold lnS;rw [if_neg (by rw [Xu2];decide)]
theorem Qy2:sK (UP (UA++GB)) 13=VY:=by
 show lnS (UP GB 1) (sK (UP (UA++GB)) 12)=_;rw [Qy3];unfold lnS;rw [if_neg (by rw [Xu1];decide)]
theorem Qy1:sK (UP (UA++GB)) 14=VY:=by
 show lnS (UP GB 2) (sK (UP (UA++GB)) 13)=_;rw [Qy2];unfold lnS;rw [if_neg (by rw [Xu0];decide)]
theorem Zd1:sK (UP (UA++GB)) 15=Zf8:=by
 show lnS (UP GB 3) (sK (UP (UA++GB)) 14)=_;rw [Qy1];unfold lnS;rw [if_pos Xt9];exact Zy1
theorem Zx9:eK (UP (UA++GB)) 0=0:=by
 show lnE (UP UA 0) (sK (UP (UA++GB)) 0)=_;rw [Xs6];exact Wa5
theorem Zx8:eK (UP (UA++GB)) 1=0:=by
 show lnE (UP UA 1) (sK (UP (UA++GB)) 1)=_;rw [Xs5];exact Wa4
theorem Zx7:eK (UP (UA++GB)) 2=0:=by
 show lnE (UP UA 2) (sK (UP (UA++GB)) 2)=_;rw [Xs4];exact Wa3
theorem Zx6:eK (UP (UA++GB)) 3=0:=by
 show lnE (UP UA 3) (sK (UP (UA++GB)) 3)=_;rw [Xs3];exact Wa2
theorem Zx5:eK (UP (UA++GB)) 4=0:=by
 show lnE (UP UA 4) (sK (UP (UA++GB)) 4)=_;rw [Xs2];exact Wa1
theorem Zx4:eK (UP (UA++GB)) 5=0:=by
 show lnE (UP UA 5) (sK (UP (UA++GB)) 5)=_;rw [Xs1];exact Wa0
theorem Zx3:eK (UP (UA++GB)) 6=0:=by
 show lnE (UP UA 6) (sK (UP (UA++GB)) 6)=_;rw [Xs0];exact Qz9
theorem Zx2:eK (UP (UA++GB)) 7=0:=by
 show lnE (UP UA 7) (sK (UP (UA++GB)) 7)=_;rw [Xr9];exact Qz8
theorem Zx1:eK (UP (UA++GB)) 8=0:=by
 show lnE (UP UA 8) (sK (UP (UA++GB)) 8)=_;rw [Xr8];exact Qz7
theorem Zx0:eK (UP (UA++GB)) 9=0:=by
 show lnE (UP UA 9) (sK (UP (UA++GB)) 9)=_;rw [Xr7];exact Qz6
theorem Zd7:eK (UP (UA++GB)) 10=0:=by
 show lnE (UP UA 10) (sK (UP (UA++GB)) 10)=_;rw [Qy5];exact nU
theorem Zd6:eK (UP (UA++GB)) 11=9:=by
 show lnE (UP GB 0) (sK (UP (UA++GB)) 11)=_;rw [Qy4];exact Xu2
theorem Zd5:eK (UP (UA++GB)) 12=10:=by
 show lnE (UP GB 1) (sK (UP (UA++GB)) 12)=_;rw [Qy3];exact Xu1
theorem Zd4:eK (UP (UA++GB)) 13=9:=by
 show lnE (UP GB 2) (sK (UP (UA++GB)) 13)=_;rw [Qy2];exact Xu0
theorem Zd3:eK (UP (UA++GB)) 14=0:=by
 show lnE (UP GB 3) (sK (UP (UA++GB)) 14)=_;rw [Qy1];exact Xt9
theorem Zd2:eK (UP (UA++GB)) 15=0:=by
 show lnE (UP GB 4) (sK (UP (UA++GB)) 15)=_;rw [Zd1];exact Zy2
def wrB:ByteArray:=⟨#[91,48,48,49,58,48,48,50,50,51,93,97,10]⟩
def lnA(_:Nat):ByteArray:=⟨#[97]⟩
def Xq6(s:HS):DK:=λl=>some (.need [l=[lns 16 (UP (UA++GB))]] (.leaf (.tup [.agg (hsL s),.lst 1 16 (λj=>[i (UB [0,0,0,0,0,0,0,0,0,0,0,9,10,9,0,0] j)]),i 0])))
def Zr9:DK:=λl=>some (.need [l=[lns 11 (UP UA)]] (.leaf (.tup [.lst 2 3 (λk=>[i (UB [0,1,-3] k),i (UB [0,5,5] k)]),i 0])))
def Zr6:DK:=λl=>some (.need [l=[lns 11 (UP UA),i 0]] (.leaf (.tup [.lst 1 1 (λk=>[i (UB [0] k)]),i 0])))
def Zr8:DK:=λl=>some (.need [l=[lns 11 (UP UA),i 1]] (.leaf (.tup [.lst 1 2 (λk=>[i (UB [0,1] k)]),.lst 1 1 (λk=>[i (UB [0] k)]),i 0])))
def Zr7:UY:=λl=>some ([l=[lns 11 (UP UA)]],.tup [.x (.string Zj6),i 0])
def Xb0:DK:=λl=>match l with
 |[.lst 1 n f]=>some (.need [n=1,f 0=[.x (.string (lnA 0))]] (.leaf (.tup [.lst 1 13 (D2 wrB),i 0])))
 |_=>none
theorem wB{P:Program}{f:FuncId}{avs:List AV}{t sp:VP AV}(h:UQ P f avs t)(hm: ∀Q:AV->Prop,sp.sat Q->t.sat (λr=> ∃r',FJ r r'/\Q r')):UQ P f avs sp:=by
 intro Q hQ e w args q1 q2 q3 q4;refine (h _ (hm Q hQ) e w args q1 q2 q3 q4).mono ?_;rintro en w' ⟨v,r,rfl,⟨r',g1,g2⟩,g3,g4⟩;exact ⟨v,r',rfl,g2,g3,L2 g1 g4⟩
theorem Zy0:ckE 16 (UP (UA++GB))=0:=by decide+kernel
theorem Wb0(s:HS)(hs:s=sK (UP (UA++GB)) 16):Sx.Enters Tryz.prog 19/\ ∀avs t,Xq6 s avs=some t->UQ VR 19 avs t:=by
 refine ⟨(UK Tryz.func19),?_⟩;intro avs t h;cases h;intro Q hQ;have e:avs=[lns 16 (UP (UA++GB))]:=hQ.1;subst e;have h1:=Ws3 16 (UP (UA++GB)) VM;refine wB h1 (sp:= .leaf (.tup [.agg (hsL s),.lst 1 16 (λj=>[i (UB [0,0,0,0,0,0,0,0,0,0,0,9,10,9,0,0] j)]),i 0])) (λQ hq=>⟨λh=>?_,λ_=>?_⟩) Q hQ.2
 ·rw [Zy0] at h;exact absurd h (by decide)
 ·refine ⟨.tup [.agg (hsL s),.lst 1 16 (λj=>[i (UB [0,0,0,0,0,0,0,0,0,0,0,9,10,9,0,0] j)]),i 0],⟨?_,⟨rfl,rfl,λk hk=>?_⟩,⟨rfl,rfl⟩,Ak⟩,hq⟩
  ·rw [hs];exact Qe8 _
  ·revert k;refine Xv8 (congrArg (λz=>[i z]) Zx9) (congrArg (λz=>[i z]) Zx8) (congrArg (λz=>[i z]) Zx7) (congrArg (λz=>[i z]) Zx6) (congrArg (λz=>[i z]) Zx5) (congrArg (λz=>[i z]) Zx4) (congrArg (λz=>[i z]) Zx3) (congrArg (λz=>[i z]) Zx2) (congrArg (λz=>[i z]) Zx1) (congrArg (λz=>[i z]) Zx0) (congrArg (λz=>[i z]) Zd7) (congrArg (λz=>[i z]) Zd6) (congrArg (λz=>[i z]) Zd5) (congrArg (λz=>[i z]) Zd4) (congrArg (λz=>[i z]) Zd3) (congrArg (λz=>[i z]) Zd2)
theorem Xg5:Sx.Enters Tryz.prog 21/\ ∀avs t,Zr9 avs=some t->UQ VR 21 avs t:=by
 refine ⟨(UK Tryz.func21),?_⟩;intro avs t h;cases h;intro Q hQ;have e:avs=[lns 11 (UP UA)]:=hQ.1;subst e;have h1:=lK 11 (UP UA) VM;rw [AS] at h1;refine wB h1 (sp:= .leaf (.tup [.lst 2 3 (λk=>[i (UB [0,1,-3] k),i (UB [0,5,5] k)]),i 0])) (λQ hq=>⟨λh=>?_,λ_=>?_⟩) Q hQ.2
 ·rw [cH] at h;exact absurd h (by decide)
 ·refine ⟨.tup [.lst 2 3 (λk=>[i (UB [0,1,-3] k),i (UB [0,5,5] k)]),i 0],⟨⟨rfl,Xt7,λk hk=>?_⟩,(show FJ (i _) (i 0) by rw [Xt8];exact ⟨rfl,rfl⟩),Ak⟩,hq⟩
  rcases (show k=0\/k=1\/k=2 by omega) with rfl|rfl|rfl
  ·show [i _,i _]=_;rw [Qz1,Qz4];rfl
  ·show [i _,i _]=_;rw [Qz0,Qz3];rfl
  ·show [i _,i _]=_;rw [Qy9,Qz2];rfl
theorem Xg2:Sx.Enters Tryz.prog 22/\ ∀avs t,Zr6 avs=some t->UQ VR 22 avs t:=by
 refine ⟨(UK Tryz.func22),?_⟩;intro avs t h;cases h;intro Q hQ;have e:avs=[lns 11 (UP UA),i 0]:=hQ.1;subst e;have h1:=aN 11 (UP UA) 0 VM;rw [AS] at h1;have I:VY.nc=1:=VW;have hc:GC (stP VY 0) 1=1:=by rw [FQ Qy7];rfl
 refine wB h1 (sp:= .leaf (.tup [.lst 1 1 (λk=>[i (UB [0] k)]),i 0])) (λQ hq=>⟨λh=>?_,λ_=>⟨λh=>absurd h (by decide),λ_=>?_⟩⟩) Q hQ.2
 ·rw [cH] at h;exact absurd h (by decide)
 ·refine ⟨.tup [.lst 1 1 (λk=>[i (UB [0] k)]),i 0],⟨⟨rfl,by rw [I];exact hc,λk hk=>?_⟩,⟨rfl,rfl⟩,Ak⟩,hq⟩
  obtain rfl:k=0:=VM;have h2:=wC (show 0<VY.nc by rw [I];omega) Qy7
  have h3:GC (stP VY 0) 0=0:=rfl;rw [h3] at h2;show [i _]=_;rw [h2];rfl
theorem Xg4:Sx.Enters Tryz.prog 23/\ ∀avs t,Zr8 avs=some t->UQ VR 23 avs t:=by
 refine ⟨(UK Tryz.func23),?_⟩;intro avs t h;cases h;intro Q hQ;have e:avs=[lns 11 (UP UA),i 1]:=hQ.1;subst e;have h1:=Qt4 11 (UP UA) 1 VM;rw [AS] at h1;have c0:GC (caB VY.ns VY.sa VY.sb VY.sc VY.sl VY.sh 1) 0=0:=rfl;have c1:GC (caB VY.ns VY.sa VY.sb VY.sc VY.sl VY.sh 1) 1=1:=by rw [FQ Wa7,c0]
 have c2:GC (caB VY.ns VY.sa VY.sb VY.sc VY.sl VY.sh 1) 2=2:=by rw [FQ Wa6,c1]
 have c3:GC (caB VY.ns VY.sa VY.sb VY.sc VY.sl VY.sh 1) 3=2:=by rw [RW Zf7,c2]
 have c4:GC (caB VY.ns VY.sa VY.sb VY.sc VY.sl VY.sh 1) 4=2:=by rw [RW Zf6,c3]
 have d0:GC (suB VY.ns VY.sa VY.sb VY.sc VY.sl VY.sh 1) 0=0:=rfl;have d1:GC (suB VY.ns VY.sa VY.sb VY.sc VY.sl VY.sh 1) 1=1:=by rw [FQ Qy6,d0]
 have d2:GC (suB VY.ns VY.sa VY.sb VY.sc VY.sl VY.sh 1) 2=1:=by rw [RW Ze0,d1]
 have d3:GC (suB VY.ns VY.sa VY.sb VY.sc VY.sl VY.sh 1) 3=1:=by rw [RW Zd9,d2]
 have d4:GC (suB VY.ns VY.sa VY.sb VY.sc VY.sl VY.sh 1) 4=1:=by rw [RW Zd8,d3]
 have e0:=wC (show 0<4 by omega) Wa7
 have e1:=wC (show 1<4 by omega) Wa6
 have f0:=wC (show 0<4 by omega) Qy6
 rw [c0] at e0;rw [c1] at e1;rw [d0] at f0;refine wB h1 (sp:= .leaf (.tup [.lst 1 2 (λk=>[i (UB [0,1] k)]),.lst 1 1 (λk=>[i (UB [0] k)]),i 0])) (λQ hq=>⟨λh=>?_,λ_=>⟨λh=>absurd h (by decide),λ_=>⟨λh=>?_,λ_=>?_⟩⟩⟩) Q hQ.2
 ·rw [cH] at h;exact absurd h (by decide)
 ·rw [Qz5] at h;exact Bool.noConfusion h
 ·refine ⟨.tup [.lst 1 2 (λk=>[i (UB [0,1] k)]),.lst 1 1 (λk=>[i (UB [0] k)]),i 0],⟨⟨rfl,c4,λk hk=>?_⟩,⟨rfl,d4,λk hk=>?_⟩,⟨rfl,rfl⟩,Ak⟩,hq⟩
  ·rcases (show k=0\/k=1 by omega) with rfl|rfl
   ·show [i _]=_;rw [e0];rfl
   ·show [i _]=_;rw [e1];rfl
  ·obtain rfl:k=0:=VM;show [i _]=_;rw [f0];rfl
theorem Xg3:VS VR 24 Zr7:=by
 refine ⟨(UK Tryz.func24),?_⟩;intro avs ns res h I;cases h;have e:avs=[lns 11 (UP UA)]:=I _ GJ;subst e;exact lJ
theorem Xg1:Sx.Enters Tryz.prog 13/\ ∀avs t,Xb0 avs=some t->UQ VR 13 avs t:=by
 refine ⟨(UK Tryz.func13),?_⟩;intro avs t h;unfold Xb0 at h;split at h
 ·rename_i n f;cases h;intro Q hQ;obtain rfl:n=1:=hQ.1.1;have h2:f 0=[.x (.string (lnA 0))]:=hQ.1.2;have h1:=OY 1 lnA VM;have hb:flB lnA 1=wrB:=by decide+kernel
  rw [hb] at h1;have h3:UQ VR 13 [.lst 1 1 f] (.leaf (.tup [.lst 1 13 (D2 wrB),i 0])):=by
   intro Q hq e w args q1 q2 q3 q4;refine h1 Q ⟨λh=>?_,λ_=>hq⟩ e w args q1 q2 ?_ ?_
   ·rw [show ckE 1 lnA=0 by decide+kernel] at h
    exact absurd h (by decide)
   ·intro a ha;rw [B6.1 ha];exact .lst _ _ _ λk _ x hx=>by rw [B6.1 hx];exact .x _
   ·obtain ⟨u,us,rfl,r1,r2⟩:=q4.cons_inv;refine .cons (L2 (a:= .lst 1 1 f) ⟨rfl,rfl,λk hk=>?_⟩ r1) r2
    obtain rfl:k=0:=VM;exact h2
  exact h3 Q hQ.2
 ·cases h
theorem Zm0{a b:ByteArray}(h:(a.toList==b.toList)=false)(e:a=b):False:=by
 subst e;simp at h
abbrev WH:List Int:=[(0:Int),0,0,0,0,0,0,0,0,0,0,(9:Int),(10:Int),(9:Int),(0:Int),(0:Int)]
abbrev JF:List AV:=[lst 1 11 λk=>[FY (UP UA k)],iI 0]
abbrev JG:List AV:=[lst 1 11 λk=>[FY (UP UA k)],iI 1]
abbrev JI:List AV:=[lst 1 16 λk=>[FY (UP (UA++GB) k)]]
theorem Qn1(s:HS)(VU:s=sK (UP (UA++GB)) 16):U0 VR 8 [] (bl true):=by
 refine GD (L:=[]) (Ae Xg0 (Ae Wj2 (Ae Xg3 Aa))) (Aj Ab Ac (Ah (Wb0 s VU) (Ah Xg5 (Ah Xg2 (Ah Xg4 (Ah Xg1 (UE.nil _))))))) U1 Tryz.func8 (UW Tryz.f8) G7 (t:=let A:=(U8 1 [iI 0,iI 1]);let z1:=(U8 1 [iI 0]);(need [5=5,GY 5 (U8 1 [AV.x (.string {data:=#[116,104,114,101,97,100,32,48,32,50,32,52,48,32,52,48] }),AV.x (.string {data:=#[105,115,115,117,101,32,48,32,52,32,56,48,32,48] }),AV.x (.string {data:=#[115,101,101,32,48,32,49,48,48] }),AV.x (.string {data:=#[115,116,114,105,107,101,32,49] }),AV.x (.string {data:=#[118,111,105,100,32,48] })]) (λk=>[FY (UP GB k)])] (need [JI=JI] (need [WM=WM] (need [JF=JF] (need [JG=JG] (need [WM=WM] (need [1=1,[AV.x (.string {data:=#[97] })]=[FY (lnA 0)]] (branch ((0:Int)==0) (branch ((↑(16:Nat):Int)==16) (need [UM 10 16] (branch (UB WH (10:Int).toNat==0) (need [UM 11 16] (branch (UB WH (11:Int).toNat==9) (need [UM 12 16] (branch (UB WH (12:Int).toNat==10) (need [UM 13 16] (branch (UB WH (13:Int).toNat==9) (need [UM 14 16] (branch (UB WH (14:Int).toNat==0) (need [UM 15 16] (branch (UB WH (15:Int).toNat==0) (branch ((0:Int)==0) (branch ((↑(3:Nat):Int)==3) (need [UM 1 3] (branch (UB WW (1:Int).toNat==1&&(UB Z7 (1:Int).toNat==5&&true)) (need [UM 2 3] (branch (UB WW (2:Int).toNat==(-3:Int)&&(UB Z7 (2:Int).toNat==5&&true)) (branch ((0:Int)==0) (need [UH 1 1 λk=>[i (UB [(0:Int)] k)],UH 1 1 z1,1<=100000] (branch (decide (1=1)&&(true&&UB [(0:Int)] (nat_lit 0)==col 0 z1 (nat_lit 0))) (branch ((0:Int)==0) (need [UH 1 2 λk=>[i (UB [(0:Int),1] k)],UH 1 2 A,2<=100000] (branch (decide (2=2)&&(true&&UB [(0:Int),1] (nat_lit 0)==col 0 A (nat_lit 0)&&UB [(0:Int),1] (nat_lit 1)==col 0 A (nat_lit 1))) (need [UH 1 1 λk=>[i (UB [(0:Int)] k)],UH 1 1 z1,1<=100000] (branch (decide (1=1)&&(true&&UB [(0:Int)] (nat_lit 0)==col 0 z1 (nat_lit 0))) (branch ((0:Int)==0) (branch (ByteArray.toList Zj6==ByteArray.toList {data:=List.toArray (List.append (List.append [(114:UInt8),(101:UInt8),(97:UInt8),(100:UInt8),(105:UInt8),(110:UInt8),(103:UInt8),(115:UInt8),(32:UInt8),(50:UInt8),(32:UInt8),(98:UInt8),(97:UInt8),(116:UInt8),(104:UInt8),(115:UInt8),(32:UInt8),(50:UInt8),(32:UInt8),(99:UInt8),(101:UInt8),(114:UInt8),(116:UInt8),(105:UInt8),(102:UInt8),(105:UInt8),(99:UInt8),(97:UInt8),(116:UInt8),(101:UInt8),(115:UInt8),(32:UInt8),(49:UInt8),(32:UInt8)] [(115:UInt8),(97:UInt8),(108:UInt8),(101:UInt8),(115:UInt8),(32:UInt8),(50:UInt8),(10:UInt8),(109:UInt8),(97:UInt8),(114:UInt8),(107:UInt8),(115:UInt8),(32:UInt8),(48:UInt8),(46:UInt8),(46:UInt8),(48:UInt8),(32:UInt8),(50:UInt8),(48:UInt8),(48:UInt8),(46:UInt8),(46:UInt8),(51:UInt8),(48:UInt8),(48:UInt8),(32:UInt8),(52:UInt8),(49:UInt8),(48:UInt8),(46:UInt8),(46:UInt8),(53:UInt8)]) (List.append [(49:UInt8),(48:UInt8),(32:UInt8),(55:UInt8),(48:UInt8),(48:UInt8),(46:UInt8),(46:UInt8),(56:UInt8),(48:UInt8),(48:UInt8),(32:UInt8),(49:UInt8),(48:UInt8),(48:UInt8),(48:UInt8),(46:UInt8),(46:UInt8),(49:UInt8),(48:UInt8),(48:UInt8),(48:UInt8),(10:UInt8),(111:UInt8),(102:UInt8),(102:UInt8),(115:UInt8),(101:UInt8),(116:UInt8),(115:UInt8),(32:UInt8),(48:UInt8),(46:UInt8),(46:UInt8)] [(48:UInt8),(32:UInt8),(49:UInt8),(46:UInt8),(46:UInt8),(53:UInt8),(32:UInt8),(45:UInt8),(51:UInt8),(46:UInt8),(46:UInt8),(53:UInt8),(10:UInt8),(115:UInt8),(116:UInt8),(97:UInt8),(110:UInt8),(100:UInt8),(32:UInt8),(48:UInt8),(10:UInt8),(104:UInt8),(111:UInt8),(108:UInt8),(100:UInt8),(32:UInt8),(52:UInt8),(32:UInt8),(50:UInt8),(32:UInt8),(52:UInt8),(32:UInt8),(48:UInt8),(10:UInt8)])) }) (branch ((0:Int)==0) (need [wL 13 (D2 wrB)] (leaf (RV.x (.bool (ByteArray.toList (bsO 13 (D2 wrB))==ByteArray.toList {data:=#[91,48,48,49,58,48,48,50,50,51,93,97,10] }))))) (leaf (RV.x (WO)))) (leaf (RV.x (WO)))) (leaf (RV.x (WO)))) (leaf (RV.x (WO))))) (leaf (RV.x (WO))))) (leaf (RV.x (WO)))) (leaf (RV.x (WO))))) (leaf (RV.x (WO)))) (leaf (RV.x (WO))))) (leaf (RV.x (WO))))) (leaf (RV.x (WO)))) (leaf (RV.x (WO)))) (leaf (RV.x (WO))))) (leaf (RV.x (WO))))) (leaf (RV.x (WO))))) (leaf (RV.x (WO))))) (leaf (RV.x (WO))))) (leaf (RV.x (WO))))) (leaf (RV.x (WO)))) (leaf (RV.x (WO)))))))))))) VW ?_
 have hw:bsO 13 (D2 wrB)=wrB:=Zr0 wrB;simp only [VP.sat,UD,G8,GO,UG,UJ,VO,hw]
 (with_reducible repeat' first|apply Al|intro _)
 all_goals first|exact Ak|contradiction|(rename_i h;exact (Zm0 h VW).elim)|omega|exact sY (by decide+kernel)|(intro k hk;exact ltM VW k hk)|(rename_i k hk;exact ltM VW k hk)|(rename_i k hk;revert k;refine ltM ?_;kernel_rfl)|(intro k hk;revert k;refine ltM ?_;kernel_rfl)|decide|decide+kernel|rfl
def Qi0:UY
 |[]=>some ([],bl true)
 |_=>none
theorem cI:VS VR 8 Qi0:=by
 refine ⟨(UK Tryz.func8),?_⟩;intro avs ns res h I;unfold Qi0 at h;split at h
 ·cases h;exact Qn1 _ rfl
 ·cases h
section
variable (n:Nat)(L:Nat->ByteArray)
def thA:Bool:=DD (λk=>decide (((L k).size:Int)<=210)) (min n 56)
def thB:Bool:=thA n L&&decide ((n:Int)<=55)
def rgB:Bool:=DD (λk=>decide (((L k).size:Int)<=200)) n&&decide ((n:Int)<=50)
def rdB(most:Int):Bool:=thB n L&&(rgB n L&&decide ((n:Int)<=most))
def Xe1:St:={σ:=[Q8 n L]++HM 22 [],m:=[],nx:=2}
noncomputable def Js3:Code:=UC (VV (U9 Tryz.f17) 0)
def Wk6(k:Nat):St:=(upM [(3,i k)] (Xe1 n L))
def vW(k:Nat):G9->Option St
 | .exit 0=>some (upM [] (Xe1 n L))
 | .ret=>some (upM [(2,.lit false)] (Xe1 n L))
 |_=>none
def Jn5:CT:= .branch (DD ((λk=>decide (((L k).size:Int)<=210))) (min n 56)) (.leaf (.exit 0,(vW n L 0 (.exit 0)).getD (Xe1 n L))) (.leaf (.ret,(vW n L 0 .ret).getD (Xe1 n L)))
def Xy3:UL:=(HK (Wk6 n L (0)) (Jn5 n L))
theorem Ja2(VU:(min n 56)<=100000):GA VR (.loop Js3) (Xy3 n L):=by
 refine HJ (L:=[]) Aa U1 U6 (X:=Nat) (Wk6 n L) (λk=>k<=(min n 56)/\ ∀j,j<k->((λk=>decide (((L k).size:Int)<=210))) j=true) (λk=>(min n 56)-k) (vW n L) (x0:=0) ⟨VM,λj hj=>VM⟩ ?_ ?_ ?_
 ·rintro k;kernel_rfl
 ·rintro k y E h;unfold vW at h;split at h
  ·cases h;kernel_rfl
  ·cases h;kernel_rfl
  ·cases h
 ·rintro Q hQ k hx;refine ⟨(k+1),?_⟩;(with_reducible refine DL (t:=let A:=(need [U2 (Q8 n L)] (leaf (G9.exit 0)));(branch (decide ((k:Int)<(n:Int))) (branch (decide ((k:Int)<56)) (need [UM k n] (branch (decide ((↑(ByteArray.size (L k)):Int)>210)) (need [U2 (Q8 n L),WN] (leaf G9.ret)) (need [VO ((k:Int)+1)] (need [U2 (Q8 n L),(k:Int)+1=(↑(k+1):Int)] (leaf G9.normal))))) A) A)) VW ?_);simp only [Jn5,vW,VP.sat,GX] at hQ;have Wr9:k<(min n 56)->((λk=>decide (((L k).size:Int)<=210))) k=false->DD ((λk=>decide (((L k).size:Int)<=210))) (min n 56)=false:=by
   intro h1 h2;rw [←Bool.not_eq_true];intro h3;have:=GW.1 h3 k h1;exact Bool.noConfusion (h2.symm.trans this)
  have hO:((λk=>decide (((L k).size:Int)<=210))) k=true-> ∀j,j<k+1->((λk=>decide (((L k).size:Int)<=210))) j=true:=by
   intro h1 j hj;rcases (show j<k\/j=k by omega) with h|rfl
   ·exact hx.2 j h
   ·exact h1
  have PI: ¬k<(min n 56)->DD ((λk=>decide (((L k).size:Int)<=210))) (min n 56)=true:=λh=>GW.2 (λj hj=>hx.2 j VM)
  have hQ1: ∀E,vW n L k .ret=some E->DD ((λk=>decide (((L k).size:Int)<=210))) (min n 56)=false->Q (.ret,E):=by
   intro E hE hf;cases hE;exact hQ.2 hf
  have hQ2: ∀E,vW n L k (.exit 0)=some E->DD ((λk=>decide (((L k).size:Int)<=210))) (min n 56)=true->Q (.exit 0,E):=by
   intro E hE hf;cases hE;exact hQ.1 hf
  simp only [VP.sat,UD,UJ,HB,VO,DP]
  all_goals exact VA
theorem Wj9:U0 VR 17 [lns n L] (bl (thB n L)):=by
 refine U4 (L:=[FT [min n 56<=100000] (Xy3 n L)]) Aa U1 Tryz.func17 (UW Tryz.f17) (UZ (lpE (b:= .loop Js3) VW<|D8 (λh=>Ja2 n L h))) (t:=need [min n 56<=100000] (need [U2 (Q8 n L),(0:Int)=(↑(0:Nat):Int)] (branch (DD (λk=>decide ((↑(ByteArray.size (L k)):Int)<=210)) (min n 56)) (leaf (RV.x (.bool (decide ((n:Int)<=55))))) (leaf (RV.x (WO)))))) VW ?_
 simp only [VP.sat,UD,G8,GO,UG,VO,UJ,HB,RE];unfold thB thA;refine ⟨VM,λh=>?_,λh=>?_⟩
 ·simp [h]
 ·simp [h]
def Xq9:UY:=λl=>some ([l=[lns n L]],bl (thB n L))
theorem Qq5:VS VR 17 (Xq9 n L):=by
 refine ⟨(UK Tryz.func17),?_⟩;intro avs ns res h I;cases h;have e:=I _ GJ;subst e;exact Wj9 n L
def bX:St:={σ:=[Q8 n L]++HM 18 [],m:=[],nx:=2}
noncomputable def Xf5:Code:=UC (VV (U9 Tryz.f18) 0)
def EZ(k:Nat):St:=(upM [(3,i k)] (bX n L))
def PV(k:Nat):G9->Option St
 | .exit 0=>some (upM [] (bX n L))
 | .ret=>some (upM [(2,.lit false)] (bX n L))
 |_=>none
def Wz4:CT:= .branch (DD ((λk=>decide (((L k).size:Int)<=200))) n) (.leaf (.exit 0,(PV n L 0 (.exit 0)).getD (bX n L))) (.leaf (.ret,(PV n L 0 .ret).getD (bX n L)))
def nG:UL:=(HK (EZ n L (0)) (Wz4 n L))
theorem We6(VU:n<=100000):GA VR (.loop Xf5) (nG n L):=by
 refine HJ (L:=[]) Aa U1 U6 (X:=Nat) (EZ n L) (λk=>k<=n/\ ∀j,j<k->((λk=>decide (((L k).size:Int)<=200))) j=true) (λk=>n-k) (PV n L) (x0:=0) ⟨VM,λj hj=>VM⟩ ?_ ?_ ?_
 ·rintro k;kernel_rfl
 ·rintro k y E h;unfold PV at h;split at h
  ·cases h;kernel_rfl
  ·cases h;kernel_rfl
  ·cases h
 ·rintro Q hQ k hx;refine ⟨(k+1),?_⟩;(with_reducible refine DL (t:=branch (decide ((k:Int)<(n:Int))) (need [UM k n] (branch (decide ((↑(ByteArray.size (L k)):Int)>200)) (need [U2 (Q8 n L),WN] (leaf G9.ret)) (need [VO ((k:Int)+1)] (need [U2 (Q8 n L),(k:Int)+1=(↑(k+1):Int)] (leaf G9.normal))))) (need [U2 (Q8 n L)] (leaf (G9.exit 0)))) VW ?_);simp only [Wz4,PV,VP.sat,GX] at hQ;have Wr9:k<n->((λk=>decide (((L k).size:Int)<=200))) k=false->DD ((λk=>decide (((L k).size:Int)<=200))) n=false:=by
   intro h1 h2;rw [←Bool.not_eq_true];intro h3;have:=GW.1 h3 k h1;exact Bool.noConfusion (h2.symm.trans this)
  have hO:((λk=>decide (((L k).size:Int)<=200))) k=true-> ∀j,j<k+1->((λk=>decide (((L k).size:Int)<=200))) j=true:=by
   intro h1 j hj;rcases (show j<k\/j=k by omega) with h|rfl
   ·exact hx.2 j h
   ·exact h1
  have PI: ¬k<n->DD ((λk=>decide (((L k).size:Int)<=200))) n=true:=λh=>GW.2 (λj hj=>hx.2 j VM)
  have hQ1: ∀E,PV n L k .ret=some E->DD ((λk=>decide (((L k).size:Int)<=200))) n=false->Q (.ret,E):=by
   intro E hE hf;cases hE;exact hQ.2 hf
  have hQ2: ∀E,PV n L k (.exit 0)=some E->DD ((λk=>decide (((L k).size:Int)<=200))) n=true->Q (.exit 0,E):=by
   intro E hE hf;cases hE;exact hQ.1 hf
  simp only [VP.sat,UD,UJ,HB,VO,DP]
  all_goals exact VA
theorem Qq7(VU:n<=100000):U0 VR 18 [lns n L] (bl (rgB n L)):=by
 refine U4 (L:=[FT [n<=100000] (nG n L)]) Aa U1 Tryz.func18 (UW Tryz.f18) (UZ (lpE (b:= .loop Xf5) VW<|D8 (λh=>We6 n L h))) (t:=need [n<=100000] (need [U2 (Q8 n L),(0:Int)=(↑(0:Nat):Int)] (branch (DD (λk=>decide ((↑(ByteArray.size (L k)):Int)<=200)) n) (leaf (RV.x (.bool (decide ((n:Int)<=50))))) (leaf (RV.x (WO)))))) VW ?_
 simp only [VP.sat,UD,G8,GO,UG,VO,UJ,HB,RE];unfold rgB;refine ⟨VM,λh=>?_,λh=>?_⟩
 ·simp [h]
 ·simp [h]
def Qw7:UY:=λl=>some ([l=[lns n L],n<=100000],bl (rgB n L))
theorem pN:VS VR 18 (Qw7 n L):=by
 refine ⟨(UK Tryz.func18),?_⟩;intro avs ns res h I;cases h;have e:avs=[lns n L]:=I _ VX;have h0:n<=100000:=I _ VX;subst e;exact Qq7 n L h0
theorem Qq8(most:Int):U0 VR 7 [lns n L,i most] (bl (rdB n L most)):=by
 refine U4 (L:=[]) (Ae (Qq5 n L) (Ae (pN n L) Aa)) U1 Tryz.func7 (UW Tryz.f7) U6 (t:=need [(Y5 n L)] (branch (thB n L) (need [(Y5 n L),n<=100000] (branch (rgB n L) (leaf (RV.x (.bool (decide ((n:Int)<=most))))) (leaf (RV.x (WO))))) (leaf (RV.x (WO))))) VW ?_;simp only [VP.sat,UD,G8,UG,UJ];have I:thB n L=true->n<=55:=λh=>by
  unfold thB at h;rw [HC,y5] at h;omega
 unfold rdB
 (with_reducible repeat' first|apply Al|intro _)
 all_goals first|(have:=I (by assumption);omega)|simp_all
def Xb3(most:Int):UY:=λl=>some ([l=[lns n L,i most]],bl (rdB n L most))
theorem EX(most:Int):VS VR 7 (Xb3 n L most):=by
 refine ⟨(UK Tryz.func7),?_⟩;intro avs ns res h I;cases h;have e:=I _ GJ;subst e;exact Qq8 n L most
theorem Wk0(VU:n<=100000):U0 VR 14 [lns n L] (lns n L):=by
 refine GD (L:=[]) Aa Ad U1 Tryz.func14 (UW Tryz.f14) G7 (t:=need [(0+n)*16<=140737488355328,∀(i:Nat),i<n-> ∀(a:AV),a∈[FY (L i)]->AV.one a=true] (leaf (RV.lst 1 (0+n) (GI 0 (λx=>[]) λk=>[FY (L k)])))) VW ?_
 simp only [VP.sat,UD,G8,true_and]
 (with_reducible repeat' first|apply Al|intro _)
 all_goals first|exact Ak|omega|(rename_i ha;rw [B6.1 ha];first|exact Ak|rfl)|exact S7 _ _|rfl|trace_state
end
theorem catS{a:Nat->ByteArray}{k j:Nat}{x:ByteArray}(h:j<k+1)(hx:x=a k):GI k (λz=>[.x (.string (a z))]) (U8 1 [.x (.string x)]) j=[.x (.string (a j))]:=by
 subst hx;rcases (show j<k\/j=k by omega) with h1|rfl
 ·show HD (decide (j<k)) _ (U8 _ _ (j-k))=_;rw [decide_eq_true h1,show j-k=0 by omega]
  rfl
 ·show HD (decide (j<j)) _ (U8 _ _ (j-j))=_;rw [show decide (j<j)=false by simp,Bs]
  rfl
def lnF(f:Nat->List AV)(k:Nat):ByteArray:=stO (f k)
section
variable {n:Nat}{L:Nat->ByteArray}
theorem Jm1(h1:n<=50)(h2: ∀k,k<n->(L k).size<=200):ckE n L=0:=by
 unfold ckE;rw [if_pos ⟨h1,GW.2 λk hk=>decide_eq_true (by have:=h2 k hk;omega)⟩]
theorem Jd5{most:Int}(h:rdB n L most=true):ckE n L=0/\(n:Int)<=most:=by
 unfold rdB at h;rw [HC,HC,y5] at h;obtain ⟨_,h2,h3⟩:=h;unfold rgB at h2;rw [HC,y5] at h2;refine ⟨Jm1 VM λk hk=>?_,h3⟩
 have:=qC (GW.1 h2.1 k hk);omega
end
end Go.Proofs.YtlclobclmfhlmaaGreatDoor.Hd
