/- Contracts, put together. Conditions: those of each. -/
import Derived.Test.YtlclobclmfhlmaaGreatDoorMn
import Derived.Shelf.Strings.Builder1
import Derived.Shelf.Strings.Builder2
import Derived.Shelf.Strings.OnBuilder
set_option linter.unusedSimpArgs false
set_option linter.unusedVariables false
set_option maxRecDepth 100000
namespace Go.Proofs.YtlclobclmfhlmaaGreatDoor.Hd
open Go Go.Shelf Go.Sx Go.RowKit
def oA:Go.Shelf.Ren:=⟨λ| 169=>47|n=>n,λ| 70=>108| 72=>110| 37=>45| 127=>170|n=>n,λn=>n⟩
theorem Zi6:Go.Proofs.Lays.n169 Tryz.prog oA:=by
 constructor<;>first|(intro _;kernel_rfl)|kernel_rfl|(constructor<;>first|(intro _;kernel_rfl)|kernel_rfl|(constructor<;>first|(intro _;kernel_rfl)|kernel_rfl))
def fN:Go.Shelf.Ren:=⟨λ| 156=>74| 165=>100| 166=>42| 169=>47| 240=>72| 241=>132| 276=>98| 277=>171|n=>n,λ| 31=>22| 72=>110| 76=>114| 70=>108| 37=>45| 75=>113| 127=>170| 164=>199| 80=>130|n=>n,λn=>n⟩
theorem uS:Go.Proofs.Lays.n156 Tryz.prog fN:=by
 constructor<;>first|(intro _;kernel_rfl)|kernel_rfl|(constructor<;>first|(intro _;kernel_rfl)|kernel_rfl|(constructor<;>first|(intro _;kernel_rfl)|kernel_rfl))
theorem bD:Builder.Extra Tryz.prog fN where
 sizeBuilder:=VU
 liesBuilder:=VU
 t5:=by first|exact Tryz.underlying5|kernel_rfl
 a5:=by first|exact Tryz.isAgg5|kernel_rfl
 z5:=by first|exact Tryz.sizeOf5|(intros;rfl)
 v5:=by first|exact Tryz.zeroValue5|(intros;rfl)
 infoByte:=VU
 cellsByte:=VU
 sizeByte:=VU
 neB5:=by decide
def stO:List AV->ByteArray
 |[.x (.string s)]=>s
 |_=>ByteArray.empty
section
variable (n:Nat)(f:Nat->List AV)
def jQ:Prop:= ∀k,k<n->f k=[.x (.string (stO (f k)))]
def jnB(sep:ByteArray):ByteArray:=⟨(Lib.join (((List.range n).map λk=>stO (f k)).map (·.data.toList)) sep.data.toList).toArray⟩
theorem Xf1(sep:ByteArray)(h0:n<=100000)(h1:jQ n f)(h2:(jnB n f sep).size<=140737488355328):VY VP 74 [.lst 1 n f,.x (.string sep)] (.x (.string (jnB n f sep))):=by
 intro e w args hro hgl FM hr;obtain ⟨u,us,rfl,r1,hr⟩:=hr.cons_inv;obtain ⟨u2,us2,rfl,r2,hr⟩:=hr.cons_inv;obtain rfl:=hr.nil_inv;obtain rfl:=r2.x_inv;cases r1 with
 |lstNil=>
  refine Calls.mono (Any.strings_Join_none uS bD none 0 sep w) ?_;rintro en w' ⟨rfl,rfl⟩;exact ⟨_,rfl,Below.refl _ _,.x _⟩
 |lst _ _ _ b o cap g g1 g2 g3 g4 g5 g6 g7 g8 ad had=>
  have hl:((List.range n).map λk=>stO (f k)).length=n:=VW
  rcases Nat.eq_zero_or_pos n with rfl|hn
  ·refine Calls.mono (Any.strings_Join_none uS bD (some ad) cap sep w) ?_;rintro en w' ⟨rfl,rfl⟩;exact ⟨_,rfl,Below.refl _ _,.x _⟩
  ·rw [had hn];have h:=Any.strings_Join uS bD b o cap ((List.range n).map λk=>stO (f k)) sep w (λj x hj=>by
    have hj1:=(FV.1 hj).1;have hj2:j<n:=VK;rw [List.getElem?_map,List.getElem?_range hj2] at hj;simp only [Option.map_some,HE] at hj;have k1:=g6 j 0 hj2 VK;have k2:=(g8 j 0 (.x (.string (stO (f j)))) hj2 (by rw [h1 j hj2];rfl)).x_inv
    have e0:o+(j*1+0)=o+j:=VK;rw [e0,k2,hj] at k1;exact k1) (g2 hn) (by rw [hl];omega) (by rw [hl];exact g4) (by
     have e:(Lib.join (((List.range n).map λk=>stO (f k)).map (·.data.toList)) sep.data.toList).length=(jnB n f sep).size:=rfl
     rw [e];exact h2)
   rw [hl] at h;refine Calls.mono h ?_;rintro en w' ⟨rfl,hb⟩;exact ⟨_,rfl,hb,.x _⟩
end
def dV:UZ
 |[.lst 1 n f,.x (.string sep)]=>some ([n<=100000,jQ n f,(jnB n f sep).size<=140737488355328],.x (.string (jnB n f sep)))
 |_=>none
theorem Qa2:VQ VP 74 dV:=by
 refine ⟨(UK Tryz.func74),?_⟩;intro avs ns res h hn;unfold dV at h;split at h
 ·cases h;exact Xf1 _ _ _ (hn _ VW) (hn _ VW) (hn _ VW)
 ·cases h
def Xm8:HZ:=λavs m nx sv=>match avs with
 |[.ptr q 0]=>match DE m q with
  |some (.cells T l)=>match l with
   |[.x (.pointer none),c]=>match Nat.beq T 110 with
    |true=>some (.leaf (.tup [],qB m q (.cells T [.ptr q 0,c]),nx,sv))
    |false=>none
   |[.ptr q' 0,c]=>match Nat.beq T 110&&Nat.beq q q' with
    |true=>some (.leaf (.tup [],m,nx,sv))
    |false=>none
   |_=>none
  |_=>none
 |_=>none
theorem Zm5:GC VP 72 Xm8:=by
 refine ⟨(UK Tryz.func72),?_⟩;intro avs m nx sv tr ht Q hQ cx w0 TT e ds args w hE hB hm hlv LN hxt hr;unfold Xm8 at ht;split at ht
 ·rename_i q;obtain ⟨v0,l1,rfl,r1,hr⟩:=hr.cons_inv;obtain rfl:=hr.nil_inv;have hv0:v0= .pointer (some ⟨e.blk q,0,none⟩):=by cases r1;rfl
  subst hv0;split at ht
  ·rename_i T l hg;split at ht
   ·rename_i c;split at ht
    ·rename_i hb;obtain rfl:=GY hb;cases ht;obtain ⟨h1,h2,vs,h3,h4⟩:=hm _ (UX hg);obtain ⟨p,us,rfl,t1,h4⟩:=h4.cons_inv;obtain ⟨v,us,rfl,t2,h4⟩:=h4.cons_inv;obtain rfl:=h4.nil_inv;obtain rfl:=t1.x_inv
     dsimp only at h1 h2 h3
     have hc0:w.cell? ⟨e.blk q,0,none⟩=some (.pointer none):=by simp [World.cell?,h3]
     refine Calls.mono (Any.Builder_copyCheck_fresh {uS with} bD.toX72 (e.blk q) w hc0 (by simp [World.shape?,h3];rfl) (by simp [World.frozen?,h3])) ?_
     rintro en w' ⟨rfl,rfl⟩;have RW: ∀b,b≠e.blk q->(w.setCell ⟨e.blk q,0,none⟩ (.pointer (some ⟨e.blk q,0,none⟩))).heap[b]? =w.heap[b]? :=λb hb=>heap_setCell_other _ _ _ _ hb
     have hsz:(w.setCell ⟨e.blk q,0,none⟩ (.pointer (some ⟨e.blk q,0,none⟩))).heap.size=w.heap.size:=VW;have st:=F4 hE h2 hsz RW;have dI:Below w0.heap.size w0 (w.setCell ⟨e.blk q,0,none⟩ (.pointer (some ⟨e.blk q,0,none⟩))):=hB.setCell (p:=⟨e.blk q,0,none⟩) (hE.owned _ _ h2).1 _;refine ⟨_,_,_,_,_,e,rfl,hQ,L1 hE hsz st,dI,?_,hlv,LN,hxt.step st,Rep.tupL (U4.nil _ _)⟩;intro p hp;rcases FX hp with rfl|⟨hp,hne⟩
     ·refine ⟨h1,h2,[.pointer (some ⟨e.blk q,0,none⟩),v],?_,.cons (.ptr q 0 h1) (.cons (t2.step st) (.nil _ _))⟩;rw [heap_setCell_same w _ 0 _ _ _ h3];rfl
     ·exact P1 hE h2 hsz RW hne (hm p hp)
    ·cases ht
   ·rename_i q' c;split at ht
    ·rename_i hb;rw [H9] at hb;obtain rfl:=GY hb.1;obtain rfl:=GY hb.2;cases ht;obtain ⟨h1,h2,vs,h3,h4⟩:=hm _ (UX hg);obtain ⟨p,us,rfl,t1,h4⟩:=h4.cons_inv;obtain ⟨v,us,rfl,t2,h4⟩:=h4.cons_inv;obtain rfl:=h4.nil_inv
     dsimp only at h1 h2 h3
     have hp:p= .pointer (some ⟨e.blk q,0,none⟩):=by cases t1;rfl
     subst hp;have hc0:w.cell? ⟨e.blk q,0,none⟩=some (.pointer (some ⟨e.blk q,0,none⟩)):=by simp [World.cell?,h3]
     refine Calls.mono (Any.Builder_copyCheck_used {uS with} bD.toX72 (e.blk q) w hc0) ?_
     rintro en w' ⟨rfl,rfl⟩;exact ⟨_,_,_,_,_,e,rfl,hQ,hE,hB,hm,hlv,LN,hxt,Rep.tupL (U4.nil _ _)⟩
    ·cases ht
   ·cases ht
  ·cases ht
 ·cases ht
set_option maxHeartbeats 1000000 in
theorem Qi8(b g cap:Nat)(p:Value)(cur:Array Value)(l:List UInt8)(w:World)(hbk:w.heap[b]? =some (.cells #[p,.slice (some ⟨g,0,none⟩) l.length cap] 110 (0,0)))(hg:w.heap[g]? =some (.cells cur 5 (0,0)))(h0:l≠[])(hnc:l.length<=cap)(hcm:cap<=maxLen)(hcs:cur.size=cap)
  (gB: ∀j x,l[j]? =some x->w.cell? ⟨g,j,none⟩=some (.int .u8 x.toNat)):
  Calls Tryz.prog 47 #[.pointer (some ⟨b,0,none⟩)] w λe w'=>e= .returned (.string ⟨l.toArray⟩)/\w'=w.drew.freeze ⟨g,0,none⟩ l.length:=by
 have c1:w.drew.cell? ⟨b,1,none⟩=some (.slice (some ⟨g,0,none⟩) l.length cap):=by
  have:w.drew.heap[b]? =some (.cells #[p,.slice (some ⟨g,0,none⟩) l.length cap] 110 (0,0)):=hbk;simp [World.cell?,this]
 have hl0:l.length≠0:=by simpa using h0
 have hSD:(Builtin.unsafeSliceData_ #[45] 170 #[.slice (some ⟨g,0,none⟩) l.length cap]).run Tryz.prog w.drew= .ok (.pointer (some ⟨g,0,none⟩)) w.drew:=
  Lib.run_unsafeSliceData_row _ _ _ _ _ _ VK
 have hUS:(Builtin.unsafeString_ #[170,3] 9 #[.pointer (some ⟨g,0,none⟩),.int .i64 l.length]).run Tryz.prog w.drew= .ok (.string ⟨l.toArray⟩) (w.drew.freeze ⟨g,0,none⟩ l.length):=by
  refine Lib.run_unsafeString_row w.drew 170 3 9 5 Zi6.t127 VU g cur.size (by have hg':w.drew.heap[g]? =some (.cells cur 5 (0,0)):=hg;simp [World.shape?,hg']) l h0 VK (by unfold maxLen at hcm;omega) ?_
  intro j x hx;have e:(⟨g,0,none⟩:Addr).add j=⟨g,j,none⟩:=by rw [DI,Nat.zero_add]
  rw [e];exact gB j x hx
 have GR:Tryz.prog.follows .mixedOrders=true:=VZ
 go_enter Tryz.func47,Tryz.ntmps47
 go_wp2
 go_region_o
 all_goals (go_wp2;go_ret;exact ⟨rfl,rfl⟩)
def Wy8:HZ:=λavs m nx sv=>match avs with
 |[.ptr q 0]=>match DE m q with
  |some (.cells T l)=>match l with
   |[_,.row r]=>match DE m r with
    |some (.row T1 sz n f)=>match Nat.beq T 110&&Nat.beq T1 5&&Nat.beq sz 1 with
     |true=>some (.needT [uT n f,0<n] (.leaf (.x (.string (bsO n f)),[],nx,sv)))
     |false=>none
    |_=>none
   |_=>none
  |_=>none
 |_=>none
theorem TX(w:World)(g n x:Nat)(h:x≠g):(w.freeze ⟨g,0,none⟩ n).heap[x]? =w.heap[x]? :=by
 unfold World.freeze;split
 ·rfl
 ·show (w.heap.modify g _)[x]? =_;rw [Array.getElem?_modify];rw [if_neg (λe=>h e.symm)]
theorem iO(w:World)(g n:Nat):(w.freeze ⟨g,0,none⟩ n).heap.size=w.heap.size:=by
 unfold World.freeze;split
 ·rfl
 ·show (w.heap.modify g _).size=_;simp
theorem Qp3(w:World)(g n:Nat):(w.freeze ⟨g,0,none⟩ n).os=w.os/\(w.freeze ⟨g,0,none⟩ n).tape=w.tape/\(w.freeze ⟨g,0,none⟩ n).output=w.output:=by
 unfold World.freeze;split<;>exact ⟨rfl,rfl,rfl⟩
theorem kH:GC VP 47 Wy8:=by
 refine ⟨(UK Tryz.func47),?_⟩;intro avs m nx sv tr ht Q hQ cx w0 TT e ds args w hE hB hm hlv LN hxt hr;unfold Wy8 at ht;split at ht
 ·rename_i q;obtain ⟨v0,l1,rfl,r1,hr⟩:=hr.cons_inv;obtain rfl:=hr.nil_inv;have hv0:v0= .pointer (some ⟨e.blk q,0,none⟩):=by cases r1;rfl
  subst hv0;split at ht
  ·rename_i T l hg;split at ht
   ·rename_i a r;split at ht
    ·rename_i T1 sz n f hg2;split at ht
     ·rename_i hb;rw [H9,H9] at hb;obtain ⟨⟨hb1,hb2⟩,hb3⟩:=hb;obtain rfl:=GY hb1;obtain rfl:=GY hb2;obtain rfl:=GY hb3;cases ht;obtain ⟨hn,hq⟩:=VN.sat_needT hQ;have hn:=GD hn;have n1:uT n f:=hn _ VW;have n2:0<n:=hn _ VW;obtain ⟨h1,h2,vs,h3,h4⟩:=hm _ (UX hg);obtain ⟨p,us,rfl,t1,h4⟩:=h4.cons_inv;obtain ⟨v,us,rfl,t2,h4⟩:=h4.cons_inv;obtain rfl:=h4.nil_inv
      dsimp only at h1 h2 h3
      obtain ⟨k1,k2,k3,xs,k4,k5⟩:=hm _ (UX hg2)
      dsimp only at k1 k2 k3 k4 k5
      have hv:e.val r=v:=by
       cases t2 with
       |row _ a n c _ hv=>exact hv
      rw [hv] at k2 k4;rcases k4.2 with ⟨_,hz⟩|⟨g,cap,cur,rfl,hbg,hgg,hnc,hcm,hcs,jS⟩
      ·omega
      ·have H5:e.own g=some r:=k2 g rfl;have HV:((List.range n).map λj=>UInt8.ofNat (byO (f j))).length=n:=VW
       have h0:((List.range n).map λj=>UInt8.ofNat (byO (f j)))≠[]:=by
        intro h;rw [h] at HV;simp at HV;omega
       have gB: ∀j x,((List.range n).map λj=>UInt8.ofNat (byO (f j)))[j]? =some x->w.cell? ⟨g,j,none⟩=some (.int .u8 x.toNat):=by
        intro j x hj;have hj1:j<n:=by have:=(FV.1 hj).1;omega
        rw [List.getElem?_map,List.getElem?_range hj1] at hj;simp only [Option.map_some,HE] at hj;have hxl:xs.length=n:=by have:=k4.1;omega
        have hc1:=k4.cells (g:=g) rfl j xs[j] (HY VK);have e1:(⟨g,0,none⟩:Addr).add j=⟨g,j,none⟩:=by rw [DI,Nat.zero_add]
        rw [e1] at hc1;have hc2:=(k5 j 0 (.x (.int .u8 (byO (f j):Int))) xs[j] hj1 (by rw [(n1 j hj1).2];rfl) (by rw [show j*1+0=j by omega];exact HY VK)).x_inv
        rw [hc1,hc2,←hj,UInt8.toNat_ofNat_of_lt' (n1 j hj1).1]
       have FG:=Qi8 (e.blk q) g cap p cur ((List.range n).map λj=>UInt8.ofNat (byO (f j))) w (by rw [HV];exact h3) hgg h0 (by rw [HV];exact hnc) hcm (by simpa using hcs) gB
       refine FG.mono ?_;rintro en w' ⟨rfl,rfl⟩;rw [HV];have RW: ∀x,x≠g->(w.drew.freeze ⟨g,0,none⟩ n).heap[x]? =w.heap[x]? :=λx hx=>TX w.drew g n x hx
       have hsz:(w.drew.freeze ⟨g,0,none⟩ n).heap.size=w.heap.size:=iO w.drew g n;have hos:=Qp3 w.drew g n;have st:=F4 hE H5 hsz RW;refine ⟨_,_,_,_,_,e,rfl,hq,L1 hE hsz st,⟨hos.1.trans hB.os,hos.2.1.trans hB.tape,hos.2.2.trans hB.output,by rw [hsz];exact hB.size,λx hx=>?_⟩,λp hp=>(by cases hp),hlv,LN,hxt.step st,.x _⟩
       rw [RW x (by have:=(hE.owned _ _ H5).1;omega)]
       exact hB.block x hx
     ·cases ht
    ·cases ht
   ·cases ht
  ·cases ht
 ·cases ht
end Go.Proofs.YtlclobclmfhlmaaGreatDoor.Hd
namespace Go.Proofs.YtlclobclmfhlmaaGreatDoor.Hd
open Go Go.Sx Go.RowKit Bo
open Go.Sx.VN (need branch leaf)
open Go.Sx.AV (lst ptr agg roI tup top)
def U7:List ByteArray:=[⟨#[116,104,114,101,97,100,32,48,32,49,32,52,48,32,52,48]⟩,⟨#[116,104,114,101,97,100,32,50,32,51,32,52,56,32,53,48]⟩,⟨#[105,115,115,117,101,32,48,32,52,32,57,48,32,48]⟩,⟨#[98,97,116,104,32,49,48,48,32,51,48,48]⟩,⟨#[115,101,101,32,48,32,50,48,48]⟩,⟨#[115,101,101,32,49,32,50,48,51]⟩,⟨#[98,97,116,104,32,49,48,48,32,51,48,48]⟩,⟨#[115,101,101,32,49,32,50,53,50]⟩,⟨#[115,101,101,32,50,32,50,53,48]⟩,⟨#[115,101,108,108,32,48,32,49,32,54,32,49,32,51]⟩,⟨#[115,101,108,108,32,49,32,50,32,52,32,50,32,50]⟩]
def GA:List ByteArray:=[⟨#[116,104,114,101,97,100,32,48,32,50,32,52,48,32,52,48]⟩,⟨#[105,115,115,117,101,32,48,32,52,32,56,48,32,48]⟩,⟨#[115,101,101,32,48,32,49,48,48]⟩,⟨#[115,116,114,105,107,101,32,49]⟩,⟨#[118,111,105,100,32,48]⟩]
def UN(l:List ByteArray)(k:Nat):ByteArray:=l.getD k ByteArray.empty
def wk1:HS:=thS hs0 0 1 40 40
def wk2:HS:=thS wk1 2 3 48 50
def wk3:HS:=isS wk2 0 4 90 0
def wk4:HS:=btS wk3 100 300
def wk5:HS:=seS wk4 0 200
def wk6:HS:=seS wk5 1 203
def wk7:HS:=btS wk6 100 300
def wk8:HS:=seS wk7 1 252
def wk9:HS:=seS wk8 2 250
def Qi5:HS:=slS wk9 0 1 6 1 3
def VV:HS:=slS Qi5 1 2 4 2 2
theorem Qv7:lnE (UN U7 0) hs0=0:=by decide+kernel
theorem Xo9:F5 (lnW (UN U7 0)) hs0=wk1:=VU
theorem Qv6:lnE (UN U7 1) wk1=0:=by decide+kernel
theorem Xo8:F5 (lnW (UN U7 1)) wk1=wk2:=VU
theorem Qv5:lnE (UN U7 2) wk2=0:=by decide+kernel
theorem Xo7:F5 (lnW (UN U7 2)) wk2=wk3:=VU
theorem Qv4:lnE (UN U7 3) wk3=0:=by decide+kernel
theorem Xo6:F5 (lnW (UN U7 3)) wk3=wk4:=VU
theorem Qv3:lnE (UN U7 4) wk4=0:=by decide+kernel
theorem Xo5:F5 (lnW (UN U7 4)) wk4=wk5:=VU
theorem Qv2:lnE (UN U7 5) wk5=0:=by decide+kernel
theorem Xo4:F5 (lnW (UN U7 5)) wk5=wk6:=VU
theorem Qv1:lnE (UN U7 6) wk6=0:=by decide+kernel
theorem Xo3:F5 (lnW (UN U7 6)) wk6=wk7:=VU
theorem Qv0:lnE (UN U7 7) wk7=0:=by decide+kernel
theorem Xo2:F5 (lnW (UN U7 7)) wk7=wk8:=VU
theorem Qu9:lnE (UN U7 8) wk8=0:=by decide+kernel
theorem Xo1:F5 (lnW (UN U7 8)) wk8=wk9:=VU
theorem Qu8:lnE (UN U7 9) wk9=0:=by decide+kernel
theorem Xo0:F5 (lnW (UN U7 9)) wk9=Qi5:=VU
theorem mO:lnE (UN U7 10) Qi5=0:=by decide+kernel
theorem Qu0:F5 (lnW (UN U7 10)) Qi5=VV:=VU
theorem Xp1:boE VV.nb VV.ql VV.qh VV.qm VV.qr VV.qv=0:=by decide+kernel
theorem Xp0:boN VV.nb VV.ql VV.qh VV.qm VV.qr VV.qv=3:=by decide+kernel
theorem Qu3:boL VV.nb VV.ql VV.qh VV.qm VV.qr VV.qv 0=0:=by decide+kernel
theorem Qu6:boH VV.nb VV.ql VV.qh VV.qm VV.qr VV.qv 0=0:=by decide+kernel
theorem Qu2:boL VV.nb VV.ql VV.qh VV.qm VV.qr VV.qv 1=1:=by decide+kernel
theorem Qu5:boH VV.nb VV.ql VV.qh VV.qm VV.qr VV.qv 1=5:=by decide+kernel
theorem Qu1:boL VV.nb VV.ql VV.qh VV.qm VV.qr VV.qv 2= -3:=by decide+kernel
theorem Qu4:boH VV.nb VV.ql VV.qh VV.qm VV.qr VV.qv 2=5:=by decide+kernel
theorem Qt9:stP VV 0 0=true:=by decide+kernel
theorem Qu7:zJ VV.ns VV.sa VV.sb VV.sc VV.sl VV.sh=true:=by decide+kernel
theorem Qv9:caB VV.ns VV.sa VV.sb VV.sc VV.sl VV.sh 1 0=true:=by decide+kernel
theorem Qv8:caB VV.ns VV.sa VV.sb VV.sc VV.sl VV.sh 1 1=true:=by decide+kernel
theorem Zb5:caB VV.ns VV.sa VV.sb VV.sc VV.sl VV.sh 1 2=false:=by decide+kernel
theorem Zb4:caB VV.ns VV.sa VV.sb VV.sc VV.sl VV.sh 1 3=false:=by decide+kernel
theorem Qt8:suB VV.ns VV.sa VV.sb VV.sc VV.sl VV.sh 1 0=true:=by decide+kernel
theorem Xz8:suB VV.ns VV.sa VV.sb VV.sc VV.sl VV.sh 1 1=false:=by decide+kernel
theorem Xz7:suB VV.ns VV.sa VV.sb VV.sc VV.sl VV.sh 1 2=false:=by decide+kernel
theorem Xz6:suB VV.ns VV.sa VV.sb VV.sc VV.sl VV.sh 1 3=false:=by decide+kernel
theorem Zv6:hdN 4 100 20 30 VV.nr VV.ra VV.rb VV.ru VV.rv 3 tbP tbQ VV.pl VV.ph 1 3 0=5:=by decide+kernel
theorem Za8:onL (wkA 4 100 20 30 VV.nr VV.ra VV.rb VV.ru VV.rv 3 tbP tbQ VV.pl VV.ph 1 3) 0 0=0:=by decide+kernel
theorem Zb3:onH (wkA 4 100 20 30 VV.nr VV.ra VV.rb VV.ru VV.rv 3 tbP tbQ VV.pl VV.ph 1 3) 0 0=0:=by decide+kernel
theorem Za7:onL (wkA 4 100 20 30 VV.nr VV.ra VV.rb VV.ru VV.rv 3 tbP tbQ VV.pl VV.ph 1 3) 1 0=200:=by decide+kernel
theorem Zb2:onH (wkA 4 100 20 30 VV.nr VV.ra VV.rb VV.ru VV.rv 3 tbP tbQ VV.pl VV.ph 1 3) 1 0=300:=by decide+kernel
theorem Za6:onL (wkA 4 100 20 30 VV.nr VV.ra VV.rb VV.ru VV.rv 3 tbP tbQ VV.pl VV.ph 1 3) 2 0=410:=by decide+kernel
theorem Zb1:onH (wkA 4 100 20 30 VV.nr VV.ra VV.rb VV.ru VV.rv 3 tbP tbQ VV.pl VV.ph 1 3) 2 0=510:=by decide+kernel
theorem Za5:onL (wkA 4 100 20 30 VV.nr VV.ra VV.rb VV.ru VV.rv 3 tbP tbQ VV.pl VV.ph 1 3) 3 0=700:=by decide+kernel
theorem Zb0:onH (wkA 4 100 20 30 VV.nr VV.ra VV.rb VV.ru VV.rv 3 tbP tbQ VV.pl VV.ph 1 3) 3 0=800:=by decide+kernel
theorem Za4:onL (wkA 4 100 20 30 VV.nr VV.ra VV.rb VV.ru VV.rv 3 tbP tbQ VV.pl VV.ph 1 3) 4 0=1000:=by decide+kernel
theorem Za9:onH (wkA 4 100 20 30 VV.nr VV.ra VV.rb VV.ru VV.rv 3 tbP tbQ VV.pl VV.ph 1 3) 4 0=1000:=by decide+kernel
theorem Za3:(hoS VV.ns VV.sa VV.sb VV.sc VV.sl VV.sh 0 100).1=4:=by decide+kernel
theorem Za2:(hoS VV.ns VV.sa VV.sb VV.sc VV.sl VV.sh 1 100).1=2:=by decide+kernel
theorem Za1:(hoS VV.ns VV.sa VV.sb VV.sc VV.sl VV.sh 2 100).1=4:=by decide+kernel
theorem Za0:(hoS VV.ns VV.sa VV.sb VV.sc VV.sl VV.sh 3 100).1=0:=by decide+kernel
def PG{α:Type}:VN α->VN α
 | .fail=> .fail
 | .leaf a=> .leaf a
 | .branch b t f=>match b with
  |true=>PG t
  |false=>PG f
 | .need ps t=> .need ps (PG t)
 | .may p t f=> .may p (PG t) (PG f)
def Xi9(sp:UG):UG:=λs=>match sp s with
 |some t=>some (PG t)
 |none=>none
section
variable (n:Nat)(f:Nat->List AV)
def byB:Bool:=D7 (λj=>match f j with
 |[.x (.int .u8 c)]=>decide (0<=c)&&decide (c<256)
 |_=>false) n
def Zw8:Bool:=D7 (λj=>match f j with
 |[.x (.string _)]=>true
 |_=>false) n
end
theorem H2{α:Type}{Q:α->Prop}: ∀{t:VN α},(PG t).sat Q->t.sat Q
 | .fail,h=>h
 | .leaf _,h=>h
 | .branch true _ _,h=>⟨λ_=>H2 h,λe=>Bool.noConfusion e⟩
 | .branch false _ _,h=>⟨λe=>Bool.noConfusion e,λ_=>H2 h⟩
 | .need _ _,h=>⟨h.1,H2 h.2⟩
 | .may _ _ _,h=>⟨λp=>H2 (h.1 p),H2 h.2⟩
theorem Zl9{P:Program}{ro:Option Nat}{cx:Cx}{c:Code}{sp:UG}(h:HJ P ro cx c sp):HJ P ro cx c (Xi9 sp):=by
 intro n s t ht Q hQ a w r;unfold Xi9 at ht;split at ht
 ·rename_i t0 h0;cases ht;exact h n s t0 h0 Q (H2 hQ) a w r
 ·cases ht
section
variable {n:Nat}{f:Nat->List AV}
theorem pN(h:byB n f=true):uT n f:=by
 intro j hj;have h1:=GU.1 h j hj;split at h1
 ·rename_i c hc;rw [H9,kC,kC] at h1;rw [hc];have e:byO [.x (.int .u8 c)]=c.toNat:=rfl;rw [e];refine ⟨VK,?_⟩;rw [show ((c.toNat:Nat):Int)=c by omega]
 ·cases h1
theorem bM(h:Zw8 n f=true):jQ n f:=by
 intro j hj;have h1:=GU.1 h j hj;split at h1
 ·rename_i s hc;rw [hc];rfl
 ·cases h1
end
noncomputable def Wz0:HZ:=rN Tryz.prog [] {R:=[],H:=[(72,Xm8)] } [] Tryz.f42 (U8 Tryz.f42)
theorem Xk5:GC VP 42 Wz0:=
 RL (G:=[]) (X:={R:=[],H:=[(72,Xm8)] }) (L:=[]) (VL.nil _) (VX.of (VR.nil _) (VO.cons Zm5 (VO.nil _))) VZ (UK Tryz.func42) Tryz.func42 (UV Tryz.f42) U3
noncomputable def dZ:HZ:=rN Tryz.prog [(73,dW),(74,dV)] WA [(Xi9 (λs=>some (kG Tryz.prog [(73,dW),(74,dV)] WA [] (U9 (VS (U8 Tryz.f43) 0)) 10 s)))] Tryz.f43 (U8 Tryz.f43)
theorem i9:GC VP 43 dZ:=
 RL (G:=[(73,dW),(74,dV)]) (X:=WA) (L:=[(Xi9 (λs=>some (kG Tryz.prog [(73,dW),(74,dV)] WA [] (U9 (VS (U8 Tryz.f43) 0)) 10 s)))]) (VL.cons TK (VL.cons Qa2 (VL.nil _))) (VX.of (VR.nil _) (VO.nil _)) VZ (UK Tryz.func43) Tryz.func43 (UV Tryz.f43) (G7 (lpE (b:= .loop (U9 (VS (U8 Tryz.f43) 0))) VU<|λro cx=>Zl9 (yB (VL.cons TK (VL.cons Qa2 (VL.nil _))) ((VX.of (VR.nil _) (VO.nil _)) cx) VZ (λj cj hj sp hsp=>by simp at hsp) 10)))
noncomputable def Wy9:HZ:=rN Tryz.prog [] {R:=[],H:=[(43,dZ),(42,Wz0)] } [] Tryz.f41 (U8 Tryz.f41)
theorem xA:GC VP 41 Wy9:=
 RL (G:=[]) (X:={R:=[],H:=[(43,dZ),(42,Wz0)] }) (L:=[]) (VL.nil _) (VX.of (VR.nil _) (VO.cons i9 (VO.cons Xk5 (VO.nil _)))) VZ (UK Tryz.func41) Tryz.func41 (UV Tryz.f41) U3
def A5:UZ
 |[.x (.int .i64 a),.x (.int .i64 b)]=>some ([0<=a/\a<=1000\/ -1000<=a/\a<=1000,-1000<=b/\b<=1000,((⟨(Lib.itoa a).toArray⟩:ByteArray)++⟨#[46,46]⟩).size+(⟨(Lib.itoa b).toArray⟩:ByteArray).size<=100],.x (.string ((⟨(Lib.itoa a).toArray⟩++⟨#[46,46]⟩)++⟨(Lib.itoa b).toArray⟩)))
 |_=>none
theorem Wk6(a b:Int)(VT:0<=a/\a<=1000\/ -1000<=a/\a<=1000)(UI: -1000<=b/\b<=1000)(HR:((⟨(Lib.itoa a).toArray⟩:ByteArray)++⟨#[46,46]⟩).size+(⟨(Lib.itoa b).toArray⟩:ByteArray).size<=100):VY VP 46 [i a,i b] (.x (.string ((⟨(Lib.itoa a).toArray⟩++⟨#[46,46]⟩)++⟨(Lib.itoa b).toArray⟩))):=by
 refine U2 (L:=[]) (VL.cons TK (VL.nil _)) VZ Tryz.func46 (UV Tryz.f46) U3 (t:=need [VM a] (need [(↑(ByteArray.size {data:=List.toArray (Lib.itoa a) }+ByteArray.size {data:=#[46,46] }):Int)<=9223372036854775807] (need [VM b] (need [(↑(ByteArray.size ({data:=List.toArray (Lib.itoa a) }++{data:=#[46,46] })+ByteArray.size {data:=List.toArray (Lib.itoa b) }):Int)<=9223372036854775807] (leaf (RV.x (.string ({data:=List.toArray (Lib.itoa a) }++{data:=#[46,46] }++{data:=List.toArray (Lib.itoa b) })))))))) VU ?_;rw [ByteArray.size_append] at HR;simp only [VN.sat,UB,UY,UE,UJ,VM,ByteArray.size_append];all_goals exact V7
theorem x9:VQ VP 46 A5:=by
 refine ⟨(UK Tryz.func46),?_⟩;intro avs ns res h hn;unfold A5 at h;split at h
 ·cases h;exact Wk6 _ _ (hn _ VW) (hn _ VW) (hn _ VW)
 ·cases h
def Zf4:ByteArray:=⟨#[114,101,97,100,105,110,103,115,32,50,32,98,97,116,104,115,32,50,32,99,101,114,116,105,102,105,99,97,116,101,115,32,49,32,115,97,108,101,115,32,50,10,109,97,114,107,115,32,48,46,46,48,32,50,48,48,46,46,51,48,48,32,52,49,48,46,46,53,49,48,32,55,48,48,46,46,56,48,48,32,49,48,48,48,46,46,49,48,48,48,10,111,102,102,115,101,116,115,32,48,46,46,48,32,49,46,46,53,32,45,51,46,46,53,10,115,116,97,110,100,32,48,10,104,111,108,100,32,52,32,50,32,52,32,48,10]⟩
def sE:UZ:=λl=>some ([l=[lns 11 (UN U7)]],i 0)
def Qg2:DG:=λl=>some (.need [l=[lns 11 (UN U7)]] (.leaf (.tup [.ro (hsL VV),.lst 1 11 (exG (UN U7))])))
def Ww9:UZ:=λl=>some ([l=[.agg [i 4,i 100,i 20,i 30,hsR VV,.lst 2 3 (λk=>[i (tbP k),i (tbQ k)]),i VV.pl,i VV.ph,i 1,i 3],i 0]],.tup [.lst 2 5 (λk=>[i (UA [0,200,410,700,1000] k),i (UA [0,300,510,800,1000] k)]),i 0])
def sC:UZ:=λl=>some ([l=[.agg [ofs,i 1,hsB VV]]],.tup [.lst 2 3 (λk=>[i (UA [0,1,-3] k),i (UA [0,5,5] k)]),i 0])
def sB:UZ:=λl=>some ([l=[.agg (hsL VV),.agg [i (VV.ca 0),i (VV.cb 0),i (VV.cc 0),i (VV.cd 0),bl (VV.cv 0)],i (VV.cd 0)]],bl true)
def Ww8:DG:=λl=>match l with
 |[b,.x (.int .i64 ow),d]=>some (.need [b= .agg [i 4,i 10,hsS VV],d=i 100,0<=ow/\ow<=3] (.leaf (.tup [.agg [i (UA [4,2,4,0] ow.toNat),i (hoS VV.ns VV.sa VV.sb VV.sc VV.sl VV.sh ow 100).2],i 0])))
 |_=>none
theorem Zv5:sK (UN U7) 0=hs0:=rfl
theorem Zv4:sK (UN U7) 1=wk1:=by
 show lnS (UN U7 0) (sK (UN U7) 0)=_;rw [Zv5];unfold lnS;rw [if_pos Qv7];exact Xo9
theorem Zv3:sK (UN U7) 2=wk2:=by
 show lnS (UN U7 1) (sK (UN U7) 1)=_;rw [Zv4];unfold lnS;rw [if_pos Qv6];exact Xo8
theorem Zv2:sK (UN U7) 3=wk3:=by
 show lnS (UN U7 2) (sK (UN U7) 2)=_;rw [Zv3];unfold lnS;rw [if_pos Qv5];exact Xo7
theorem Zv1:sK (UN U7) 4=wk4:=by
 show lnS (UN U7 3) (sK (UN U7) 3)=_;rw [Zv2];unfold lnS;rw [if_pos Qv4];exact Xo6
theorem Zv0:sK (UN U7) 5=wk5:=by
 show lnS (UN U7 4) (sK (UN U7) 4)=_;rw [Zv1];unfold lnS;rw [if_pos Qv3];exact Xo5
theorem Zu9:sK (UN U7) 6=wk6:=by
 show lnS (UN U7 5) (sK (UN U7) 5)=_;rw [Zv0];unfold lnS;rw [if_pos Qv2];exact Xo4
theorem Zu8:sK (UN U7) 7=wk7:=by
 show lnS (UN U7 6) (sK (UN U7) 6)=_;rw [Zu9];unfold lnS;rw [if_pos Qv1];exact Xo3
theorem Zu7:sK (UN U7) 8=wk8:=by
 show lnS (UN U7 7) (sK (UN U7) 7)=_;rw [Zu8];unfold lnS;rw [if_pos Qv0];exact Xo2
theorem Zu6:sK (UN U7) 9=wk9:=by
 show lnS (UN U7 8) (sK (UN U7) 8)=_;rw [Zu7];unfold lnS;rw [if_pos Qu9];exact Xo1
theorem Xz9:sK (UN U7) 10=Qi5:=by
 show lnS (UN U7 9) (sK (UN U7) 9)=_;rw [Zu6];unfold lnS;rw [if_pos Qu8];exact Xo0
theorem AA:sK (UN U7) 11=VV:=by
 show lnS (UN U7 10) (sK (UN U7) 10)=_;rw [Xz9];unfold lnS;rw [if_pos mO];exact Qu0
theorem bG:ckE 11 (UN U7)=0:=by decide+kernel
theorem kX:VQ VP 30 sE:=by
 refine ⟨(UK Tryz.func30),?_⟩;intro avs ns res h hn;cases h;have e:avs=[lns 11 (UN U7)]:=hn _ GF;subst e;have h1:=O4 11 (UN U7) VK;rw [bG] at h1;exact h1
theorem wX:Sx.Enters Tryz.prog 33/\ ∀avs t,Qg2 avs=some t->UO VP 33 avs t:=by
 refine ⟨(UK Tryz.func33),?_⟩;intro avs t h;cases h;intro Q hQ;have e:avs=[lns 11 (UN U7)]:=hQ.1;subst e;have hk:=yO bG;have h1:=eV 11 (UN U7) hk.1 (λk h=>by have:=hk.2 k h;omega) Q
 rw [AA] at h1;exact h1 hQ.2
theorem kU:PH VP 44 Ww9:=by
 refine ⟨(UK Tryz.func44),?_⟩;intro avs ns res h hn;cases h;have e:avs=[.agg [i 4,i 100,i 20,i 30,hsR VV,.lst 2 3 (λk=>[i (tbP k),i (tbQ k)]),i VV.pl,i VV.ph,i 1,i 3],i 0]:=hn _ GF
 subst e;intro e w args q1 q2 q3 q4;refine (vU 4 100 20 30 VV.nr VV.ra VV.rb VV.ru VV.rv 3 tbP tbQ VV.pl VV.ph 1 3 0 e w args q1 q2 q3 q4).mono ?_;rintro en w' ⟨v,rfl,g1,g2⟩;refine ⟨v,rfl,g1,RY ?_ g2⟩;rw [show hdE 4 100 20 30 VV.nr VV.ra VV.rb VV.ru VV.rv 3 tbP tbQ VV.pl VV.ph 1 3 0=0 by decide+kernel]
 refine ⟨⟨rfl,Zv6,λk hk=>?_⟩,⟨rfl,rfl⟩,True.intro⟩
 rcases (show k=0\/k=1\/k=2\/k=3\/k=4 by omega) with rfl|rfl|rfl|rfl|rfl
 ·show [i _,i _]=_;rw [Za8,Zb3];rfl
 ·show [i _,i _]=_;rw [Za7,Zb2];rfl
 ·show [i _,i _]=_;rw [Za6,Zb1];rfl
 ·show [i _,i _]=_;rw [Za5,Zb0];rfl
 ·show [i _,i _]=_;rw [Za4,Za9];rfl
theorem bF:fB VV:=by
 have h:=u9 (UN U7) 11;rw [AA] at h;exact h
theorem kQ:VQ VP 35 sC:=by
 refine ⟨(UK Tryz.func35),?_⟩;intro avs ns res h hn;cases h;have e:avs=[.agg [ofs,i 1,hsB VV]]:=hn _ GF;subst e;intro e w args q1 q2 q3 q4;refine (k8 VV.nb VV.ql VV.qh VV.qm VV.qr VV.qv bF.bV e w args q1 q2 q3 q4).mono ?_;rintro en w' ⟨v,rfl,g1,g2⟩;refine ⟨v,rfl,g1,RY ?_ g2⟩;rw [Xp1];refine ⟨⟨rfl,Xp0,λk hk=>?_⟩,⟨rfl,rfl⟩,True.intro⟩
 rcases (show k=0\/k=1\/k=2 by omega) with rfl|rfl|rfl
 ·show [i _,i _]=_;rw [Qu3,Qu6];rfl
 ·show [i _,i _]=_;rw [Qu2,Qu5];rfl
 ·show [i _,i _]=_;rw [Qu1,Qu4];rfl
theorem kI:VQ VP 38 sB:=by
 refine ⟨(UK Tryz.func38),?_⟩;intro avs ns res h hn;cases h;have e:avs=[.agg (hsL VV),.agg [i (VV.ca 0),i (VV.cb 0),i (VV.cc 0),i (VV.cd 0),bl (VV.cv 0)],i (VV.cd 0)]:=hn _ GF;subst e;have h1:=EQ VV (VV.ca 0) (VV.cb 0) (VV.cc 0) (VV.cd 0) (VV.cv 0) (VV.cd 0);have h2:stB VV (VV.ca 0) (VV.cb 0) (VV.cc 0) (VV.cd 0) (VV.cv 0) (VV.cd 0)=true:=by
  have h3:VV.cd 0=0:=VU;have h4:=Qt9;unfold stP at h4;rw [h3] at h4 ⊢;exact h4
 rw [h2] at h1;exact h1
theorem dG:Sx.Enters Tryz.prog 11/\ ∀avs t,Ww8 avs=some t->UO VP 11 avs t:=by
 refine ⟨(UK Tryz.func11),?_⟩;intro avs t h;unfold Ww8 at h;split at h
 ·rename_i b ow d;cases h;intro Q hQ;obtain ⟨⟨e1,e2,e3,_⟩,hq⟩:=hQ;subst e1 e2;refine Qk5 VV.ns VV.sa VV.sb VV.sc VV.sl VV.sh ow 100 bF.sV Q ?_;have hb:(bt 0 ow 3&&bt 0 100 100)=true:=by
   rw [H9,Bo.bt_iff,Bo.bt_iff];omega
  refine ⟨λ_=>⟨λh=>?_,λ_=>?_⟩,λh=>Bool.noConfusion (hb.symm.trans h)⟩
  ·rw [Qu7] at h;exact Bool.noConfusion h
  ·have ho:(hoS VV.ns VV.sa VV.sb VV.sc VV.sl VV.sh ow 100).1=UA [4,2,4,0] ow.toNat:=by
    rcases (show ow=0\/ow=1\/ow=2\/ow=3 by omega) with rfl|rfl|rfl|rfl
    ·exact Za3
    ·exact Za2
    ·exact Za1
    ·exact Za0
   show Q _;rw [ho];exact hq
 ·cases h
def wvS(s:ByteArray):AV:= .x (.iface 9 (.string s))
def wvI(n:Int):AV:= .x (.iface 3 (.int .i64 n))
def H0(l:List AV)(k:Nat):List AV:=[l.getD k .top]
def wl0:List AV:=[wvS ⟨#[109,97,114,107,115]⟩,wvS ⟨#[48,46,46,48]⟩,wvS ⟨#[50,48,48,46,46,51,48,48]⟩,wvS ⟨#[52,49,48,46,46,53,49,48]⟩,wvS ⟨#[55,48,48,46,46,56,48,48]⟩,wvS ⟨#[49,48,48,48,46,46,49,48,48,48]⟩]
def wl1:List AV:=[wvS ⟨#[111,102,102,115,101,116,115]⟩,wvS ⟨#[48,46,46,48]⟩,wvS ⟨#[49,46,46,53]⟩,wvS ⟨#[45,51,46,46,53]⟩]
def wl2:List AV:=[wvS ⟨#[115,116,97,110,100]⟩,wvI 0]
def wl3:List AV:=[wvS ⟨#[104,111,108,100]⟩,wvI 4,wvI 2,wvI 4,wvI 0]
def rp0:ByteArray:=⟨#[114,101,97,100,105,110,103,115,32,50,32,98,97,116,104,115,32,50,32,99,101,114,116,105,102,105,99,97,116,101,115,32,49,32,115,97,108,101,115,32,50,10]⟩
def rp1:ByteArray:=⟨#[114,101,97,100,105,110,103,115,32,50,32,98,97,116,104,115,32,50,32,99,101,114,116,105,102,105,99,97,116,101,115,32,49,32,115,97,108,101,115,32,50,10,109,97,114,107,115,32,48,46,46,48,32,50,48,48,46,46,51,48,48,32,52,49,48,46,46,53,49,48,32,55,48,48,46,46,56,48,48,32,49,48,48,48,46,46,49,48,48,48,10]⟩
def rp2:ByteArray:=⟨#[114,101,97,100,105,110,103,115,32,50,32,98,97,116,104,115,32,50,32,99,101,114,116,105,102,105,99,97,116,101,115,32,49,32,115,97,108,101,115,32,50,10,109,97,114,107,115,32,48,46,46,48,32,50,48,48,46,46,51,48,48,32,52,49,48,46,46,53,49,48,32,55,48,48,46,46,56,48,48,32,49,48,48,48,46,46,49,48,48,48,10,111,102,102,115,101,116,115,32,48,46,46,48,32,49,46,46,53,32,45,51,46,46,53,10]⟩
def rp3:ByteArray:=⟨#[114,101,97,100,105,110,103,115,32,50,32,98,97,116,104,115,32,50,32,99,101,114,116,105,102,105,99,97,116,101,115,32,49,32,115,97,108,101,115,32,50,10,109,97,114,107,115,32,48,46,46,48,32,50,48,48,46,46,51,48,48,32,52,49,48,46,46,53,49,48,32,55,48,48,46,46,56,48,48,32,49,48,48,48,46,46,49,48,48,48,10,111,102,102,115,101,116,115,32,48,46,46,48,32,49,46,46,53,32,45,51,46,46,53,10,115,116,97,110,100,32,48,10]⟩
def rp4:ByteArray:=⟨#[114,101,97,100,105,110,103,115,32,50,32,98,97,116,104,115,32,50,32,99,101,114,116,105,102,105,99,97,116,101,115,32,49,32,115,97,108,101,115,32,50,10,109,97,114,107,115,32,48,46,46,48,32,50,48,48,46,46,51,48,48,32,52,49,48,46,46,53,49,48,32,55,48,48,46,46,56,48,48,32,49,48,48,48,46,46,49,48,48,48,10,111,102,102,115,101,116,115,32,48,46,46,48,32,49,46,46,53,32,45,51,46,46,53,10,115,116,97,110,100,32,48,10,104,111,108,100,32,52,32,50,32,52,32,48,10]⟩
def eqBy(n:Nat)(F:Nat->List AV)(B:ByteArray):Bool:=D7 (λj=>match F j with
 |[.x (.int .u8 c)]=>decide (c=byN B j)
 |_=>false) n
theorem Qb6{n:Nat}{F:Nat->List AV}{B:ByteArray}(h:eqBy n F B=true): ∀i,i<n->F i=DN B i:=by
 intro j hj;have h1:=GU.1 h j hj;split at h1
 ·rename_i c hc;rw [hc,qK h1];rfl
 ·cases h1
theorem ltM{n:Nat}{f g:Nat->List AV}(h:(List.range n).map f=(List.range n).map g): ∀i,i<n->f i=g i:=λi hi=>by
 have e:=congrArg (λl=>l[i]?) h
 simpa [hi] using e
abbrev JK:GZ:=[(920,.row 20 1 1 (H0 wl0)),(921,.row 20 1 1 (H0 wl1)),(922,.row 20 1 1 (H0 wl2)),(923,.row 20 1 1 (H0 wl3)),(911,.row 5 1 42 (DN rp0)),(14,.cells 110 [.ptr 14 0,.row 911])]
def rB(z:Nat):St:=((some {σ:=mkS 198 [(0,.top),(5,.ro (hsL VV)),(7,.ptr 14 0),(8,.fn (.func 41) [] [.ptr 14 0]),(9,.row 920),(10,.row 921),(11,.row 922),(12,.row 923),(91,.lst 2 5 (λk=>[i (UA [0,200,410,700,1000] k),i (UA [0,300,510,800,1000] k)])),(92,i 5),(93,i 0)],m:=JK,nx:=930}:Option St):Option St).getD {σ:=[],m:=[],nx:=0}
noncomputable def rD:Code:=U9 (VS (U8 Tryz.f24) 0)
abbrev X2:GZ:=[(920,.row 20 1 6 (H0 wl0)),(921,.row 20 1 1 (H0 wl1)),(922,.row 20 1 1 (H0 wl2)),(923,.row 20 1 1 (H0 wl3)),(911,.row 5 1 42 (DN rp0)),(14,.cells 110 [.ptr 14 0,.row 911])]
section
variable (z:Nat)
def DP:Nat->St
 | 0=>{σ:=H4 [(91,.lst 2 5 (λk=>[i (UA [0,200,410,700,1000] k),i (UA [0,300,510,800,1000] k)])),(92,i 5),(93,i 0)] (rB z).σ,m:=JK,nx:=930}
 | 1=>{σ:=H4 [(91,.lst 2 5 (λk=>[i (UA [0,200,410,700,1000] k),i (UA [0,300,510,800,1000] k)])),(92,i 5),(93,i 1)] (rB z).σ,m:=[(920,.row 20 1 2 (H0 wl0)),(921,.row 20 1 1 (H0 wl1)),(922,.row 20 1 1 (H0 wl2)),(923,.row 20 1 1 (H0 wl3)),(911,.row 5 1 42 (DN rp0)),(14,.cells 110 [.ptr 14 0,.row 911])],nx:=930}
 | 2=>{σ:=H4 [(91,.lst 2 5 (λk=>[i (UA [0,200,410,700,1000] k),i (UA [0,300,510,800,1000] k)])),(92,i 5),(93,i 2)] (rB z).σ,m:=[(920,.row 20 1 3 (H0 wl0)),(921,.row 20 1 1 (H0 wl1)),(922,.row 20 1 1 (H0 wl2)),(923,.row 20 1 1 (H0 wl3)),(911,.row 5 1 42 (DN rp0)),(14,.cells 110 [.ptr 14 0,.row 911])],nx:=930}
 | 3=>{σ:=H4 [(91,.lst 2 5 (λk=>[i (UA [0,200,410,700,1000] k),i (UA [0,300,510,800,1000] k)])),(92,i 5),(93,i 3)] (rB z).σ,m:=[(920,.row 20 1 4 (H0 wl0)),(921,.row 20 1 1 (H0 wl1)),(922,.row 20 1 1 (H0 wl2)),(923,.row 20 1 1 (H0 wl3)),(911,.row 5 1 42 (DN rp0)),(14,.cells 110 [.ptr 14 0,.row 911])],nx:=930}
 | 4=>{σ:=H4 [(91,.lst 2 5 (λk=>[i (UA [0,200,410,700,1000] k),i (UA [0,300,510,800,1000] k)])),(92,i 5),(93,i 4)] (rB z).σ,m:=[(920,.row 20 1 5 (H0 wl0)),(921,.row 20 1 1 (H0 wl1)),(922,.row 20 1 1 (H0 wl2)),(923,.row 20 1 1 (H0 wl3)),(911,.row 5 1 42 (DN rp0)),(14,.cells 110 [.ptr 14 0,.row 911])],nx:=930}
 |_=>{σ:=H4 [(91,.lst 2 5 (λk=>[i (UA [0,200,410,700,1000] k),i (UA [0,300,510,800,1000] k)])),(92,i 5),(93,i 5)] (rB z).σ,m:=X2,nx:=930}
def DH:G6->Option St
 | .exit 0=>some {σ:=H4 [(91,.lst 2 5 (λk=>[i (UA [0,200,410,700,1000] k),i (UA [0,300,510,800,1000] k)])),(92,i 5),(93,i 5)] (rB z).σ,m:=X2,nx:=930}
 |_=>none
def IU:CT:= .leaf (.exit 0,(DH z (.exit 0)).getD (rB z))
abbrev QF:List (Pl×Nat×TypeId×Nat):=[(.slot 9,920,20,1),(.slot 10,921,20,1),(.slot 11,922,20,1),(.slot 12,923,20,1),(.cell 14 1,911,5,1)]
def Wy0:UG:=GK QF (HF (DP z 0) (IU z))
abbrev Q6:Prop:=AV.ro [hR 2 VV,iI VV.pl,iI VV.ph,hY 2 VV,hC 1 VV,hT 2 VV]=AV.ro [hR 2 VV,iI VV.pl,iI VV.ph,hY 2 VV,hC 1 VV,hT 2 VV]
noncomputable abbrev Q9:Ext:={R:=[(44,Ww9),(45,L5),(36,xO),(40,IY)],H:=[(41,Wy9),(47,Wy8)],C:=[(33,Qg2),(11,Ww8)] }
abbrev QG:List Int:=[(0:Int),200,410,700,1000]
abbrev QJ:List Int:=[(0:Int),300,510,800,1000]
abbrev QO:Prop:=AV.fn (Fn.func 41) [] [ptr 14 0]=AV.fn (Fn.func 41) [] [ptr 14 0]
abbrev QW:List (Nat×UZ):=[(30,sE),(35,sC),(38,sB),(46,A5)]
abbrev WG:Prop:=ptr 14 0=ptr 14 0
abbrev WW:AV:=lst 2 5 λk=>[iI (UA QG k),iI (UA QJ k)]
abbrev X5:Prop:=AV.row 911=AV.row 911
abbrev Z1:Prop:=AV.row 920=AV.row 920
abbrev Z2:Prop:=AV.row 921=AV.row 921
abbrev Z3:Prop:=AV.row 922=AV.row 922
abbrev Z4:Prop:=AV.row 923=AV.row 923
theorem Zf2:PG (HW VP QW Q9 [] QF rD (DP z 0) (DP z 1) (DH z))=(let z0:=([AV.x (.iface 9 (.string ({data:=List.toArray (Lib.itoa (UA QG (0:Int).toNat)) }++{data:=#[46,46] }++{data:=List.toArray (Lib.itoa (UA QJ (0:Int).toNat)) })))]);(need [UH 0 5] (need [(0:Int)<=UA QG (0:Int).toNat/\UA QG (0:Int).toNat<=1000\/(-1000:Int)<=UA QG (0:Int).toNat/\UA QG (0:Int).toNat<=1000,(-1000:Int)<=UA QJ (0:Int).toNat/\UA QJ (0:Int).toNat<=1000,4<=100] (need [32<=140737488355328,∀(i:Nat),i<1-> ∀(a:AV),a∈U6 1 z0 i->AV.one a=true] (need [VM ((0:Int)+1)] (need [Q6,WG,QO,Z1,Z2,Z3,Z4,WW=WW,J6,(0:Int)+1=1,2=2,GV 2 (GI 1 (H0 wl0) (U6 1 z0)) (H0 wl0),1=1,GQ 1 (H0 wl1),1=1,GQ 1 (H0 wl2),1=1,GQ 1 (H0 wl3),42=42,GQ 42 (DN rp0),WG,X5] (leaf G6.normal))))))):=by
 kernel_rfl
theorem Zf1:PG (HW VP QW Q9 [] QF rD (DP z 1) (DP z 2) (DH z))=(let z0:=([AV.x (.iface 9 (.string ({data:=List.toArray (Lib.itoa (UA QG (1:Int).toNat)) }++{data:=#[46,46] }++{data:=List.toArray (Lib.itoa (UA QJ (1:Int).toNat)) })))]);(need [UH 1 5] (need [(0:Int)<=UA QG (1:Int).toNat/\UA QG (1:Int).toNat<=1000\/(-1000:Int)<=UA QG (1:Int).toNat/\UA QG (1:Int).toNat<=1000,(-1000:Int)<=UA QJ (1:Int).toNat/\UA QJ (1:Int).toNat<=1000,8<=100] (need [48<=140737488355328,∀(i:Nat),i<1-> ∀(a:AV),a∈U6 1 z0 i->AV.one a=true] (need [VM ((1:Int)+1)] (need [Q6,WG,QO,Z1,Z2,Z3,Z4,WW=WW,J6,(1:Int)+1=2,3=3,GV 3 (GI 2 (H0 wl0) (U6 1 z0)) (H0 wl0),1=1,GQ 1 (H0 wl1),1=1,GQ 1 (H0 wl2),1=1,GQ 1 (H0 wl3),42=42,GQ 42 (DN rp0),WG,X5] (leaf G6.normal))))))):=by
 kernel_rfl
theorem Zf0:PG (HW VP QW Q9 [] QF rD (DP z 2) (DP z 3) (DH z))=(let z0:=([AV.x (.iface 9 (.string ({data:=List.toArray (Lib.itoa (UA QG (2:Int).toNat)) }++{data:=#[46,46] }++{data:=List.toArray (Lib.itoa (UA QJ (2:Int).toNat)) })))]);(need [UH 2 5] (need [(0:Int)<=UA QG (2:Int).toNat/\UA QG (2:Int).toNat<=1000\/(-1000:Int)<=UA QG (2:Int).toNat/\UA QG (2:Int).toNat<=1000,(-1000:Int)<=UA QJ (2:Int).toNat/\UA QJ (2:Int).toNat<=1000,8<=100] (need [64<=140737488355328,∀(i:Nat),i<1-> ∀(a:AV),a∈U6 1 z0 i->AV.one a=true] (need [VM ((2:Int)+1)] (need [Q6,WG,QO,Z1,Z2,Z3,Z4,WW=WW,J6,(2:Int)+1=3,4=4,GV 4 (GI 3 (H0 wl0) (U6 1 z0)) (H0 wl0),1=1,GQ 1 (H0 wl1),1=1,GQ 1 (H0 wl2),1=1,GQ 1 (H0 wl3),42=42,GQ 42 (DN rp0),WG,X5] (leaf G6.normal))))))):=by
 kernel_rfl
theorem Ze9:PG (HW VP QW Q9 [] QF rD (DP z 3) (DP z 4) (DH z))=(let z0:=([AV.x (.iface 9 (.string ({data:=List.toArray (Lib.itoa (UA QG (3:Int).toNat)) }++{data:=#[46,46] }++{data:=List.toArray (Lib.itoa (UA QJ (3:Int).toNat)) })))]);(need [UH 3 5] (need [(0:Int)<=UA QG (3:Int).toNat/\UA QG (3:Int).toNat<=1000\/(-1000:Int)<=UA QG (3:Int).toNat/\UA QG (3:Int).toNat<=1000,(-1000:Int)<=UA QJ (3:Int).toNat/\UA QJ (3:Int).toNat<=1000,8<=100] (need [80<=140737488355328,∀(i:Nat),i<1-> ∀(a:AV),a∈U6 1 z0 i->AV.one a=true] (need [VM ((3:Int)+1)] (need [Q6,WG,QO,Z1,Z2,Z3,Z4,WW=WW,J6,(3:Int)+1=4,5=5,GV 5 (GI 4 (H0 wl0) (U6 1 z0)) (H0 wl0),1=1,GQ 1 (H0 wl1),1=1,GQ 1 (H0 wl2),1=1,GQ 1 (H0 wl3),42=42,GQ 42 (DN rp0),WG,X5] (leaf G6.normal))))))):=by
 kernel_rfl
theorem Ze8:PG (HW VP QW Q9 [] QF rD (DP z 4) (DP z 5) (DH z))=(let z0:=([AV.x (.iface 9 (.string ({data:=List.toArray (Lib.itoa (UA QG (4:Int).toNat)) }++{data:=#[46,46] }++{data:=List.toArray (Lib.itoa (UA QJ (4:Int).toNat)) })))]);(need [UH 4 5] (need [(0:Int)<=UA QG (4:Int).toNat/\UA QG (4:Int).toNat<=1000\/(-1000:Int)<=UA QG (4:Int).toNat/\UA QG (4:Int).toNat<=1000,(-1000:Int)<=UA QJ (4:Int).toNat/\UA QJ (4:Int).toNat<=1000,10<=100] (need [96<=140737488355328,∀(i:Nat),i<1-> ∀(a:AV),a∈U6 1 z0 i->AV.one a=true] (need [VM ((4:Int)+1)] (need [Q6,WG,QO,Z1,Z2,Z3,Z4,WW=WW,J6,(4:Int)+1=5,6=6,GV 6 (GI 5 (H0 wl0) (U6 1 z0)) (H0 wl0),1=1,GQ 1 (H0 wl1),1=1,GQ 1 (H0 wl2),1=1,GQ 1 (H0 wl3),42=42,GQ 42 (DN rp0),WG,X5] (leaf G6.normal))))))):=by
 kernel_rfl
theorem Ze7:PG (HW VP QW Q9 [] QF rD (DP z 5) (DP z 5) (DH z))=(need [Q6,WG,QO,Z1,Z2,Z3,Z4,WW=WW,J6,J6,6=6,GQ 6 (H0 wl0),1=1,GQ 1 (H0 wl1),1=1,GQ 1 (H0 wl2),1=1,GQ 1 (H0 wl3),42=42,GQ 42 (DN rp0),WG,X5] (leaf (G6.exit 0))):=by
 kernel_rfl
end
theorem YY{p:Prop}(h:p:=by
 (with_reducible repeat' first|apply And.intro|intro _)
 all_goals first|exact True.intro|(rename_i E hE;cases hE;exact hQ)|contradiction|omega|exact FQ (by assumption) (by simp [AV.one,Value.oneCell'])|(rename_i i hi;exact Qb6 (by decide+kernel) i hi)|(rename_i i hi;exact ltM VU i hi)|exact bM (by decide+kernel)|exact pN (by decide+kernel)|decide+kernel|with_reducible rfl|rfl):p:=h
theorem Zf3(z:Nat):G5 VP (.loop rD) (Wy0 z):=by
 refine US QF (L:=[]) (VL.cons kX (VL.cons kQ (VL.cons kI (VL.cons x9 (VL.nil _))))) (VX.ofC (VR.cons kU (VR.cons F9 (VR.cons RD (VR.cons LY (VR.nil _))))) (VO.cons xA (VO.cons kH (VO.nil _))) (UC.cons wX (UC.cons dG (UC.nil _)))) VZ U3 (X:=Nat) (DP z) (λk=>k<=5) (λk=>6-k) (λ_=>DH z) (x0:=0) (Nat.zero_le _) ?_ ?_ ?_
 ·intro k
  match k with
  | 0=>
   show Sx.okB (DP z 0)=true;kernel_rfl
  | 1=>
   show Sx.okB (DP z 1)=true;kernel_rfl
  | 2=>
   show Sx.okB (DP z 2)=true;kernel_rfl
  | 3=>
   show Sx.okB (DP z 3)=true;kernel_rfl
  | 4=>
   show Sx.okB (DP z 4)=true;kernel_rfl
  |k+5=>
   show Sx.okB (DP z 5)=true;kernel_rfl
 ·intro k y E h;unfold DH at h;split at h
  ·cases h;kernel_rfl
  ·cases h
 ·intro Q hQ k hx
  match k with
  | 0=>
   refine ⟨1,?_⟩
   with_reducible refine H2 ?_
   rw [Zf2];simp only [IU,DH,VN.sat,GS] at hQ;simp only [VN.sat,UB,UJ,VM,DH];exact YY
  | 1=>
   refine ⟨2,?_⟩
   with_reducible refine H2 ?_
   rw [Zf1];simp only [IU,DH,VN.sat,GS] at hQ;simp only [VN.sat,UB,UJ,VM,DH];exact YY
  | 2=>
   refine ⟨3,?_⟩
   with_reducible refine H2 ?_
   rw [Zf0];simp only [IU,DH,VN.sat,GS] at hQ;simp only [VN.sat,UB,UJ,VM,DH];exact YY
  | 3=>
   refine ⟨4,?_⟩
   with_reducible refine H2 ?_
   rw [Ze9];simp only [IU,DH,VN.sat,GS] at hQ;simp only [VN.sat,UB,UJ,VM,DH];exact YY
  | 4=>
   refine ⟨5,?_⟩
   with_reducible refine H2 ?_
   rw [Ze8];simp only [IU,DH,VN.sat,GS] at hQ;simp only [VN.sat,UB,UJ,VM,DH];exact YY
  | 5=>
   refine ⟨5,?_⟩
   with_reducible refine H2 ?_
   rw [Ze7];simp only [IU,DH,VN.sat,GS] at hQ;simp only [VN.sat,UB,UJ,VM,DH];exact YY
  |k+6=>omega
def S7(z:Nat):St:=((some {σ:=mkS 198 [(0,.top),(5,.ro (hsL VV)),(7,.ptr 14 0),(8,.fn (.func 41) [] [.ptr 14 0]),(9,.row 920),(10,.row 921),(11,.row 922),(12,.row 923),(116,.lst 2 3 (λk=>[i (UA [0,1,-3] k),i (UA [0,5,5] k)])),(117,i 3),(118,i 0)],m:=X2,nx:=930}:Option St):Option St).getD {σ:=[],m:=[],nx:=0}
noncomputable def S9:Code:=U9 (VS (U8 Tryz.f24) 1)
abbrev X3:GZ:=[(920,.row 20 1 6 (H0 wl0)),(921,.row 20 1 4 (H0 wl1)),(922,.row 20 1 1 (H0 wl2)),(923,.row 20 1 1 (H0 wl3)),(911,.row 5 1 42 (DN rp0)),(14,.cells 110 [.ptr 14 0,.row 911])]
section
variable (z:Nat)
def RR:Nat->St
 | 0=>{σ:=H4 [(116,.lst 2 3 (λk=>[i (UA [0,1,-3] k),i (UA [0,5,5] k)])),(117,i 3),(118,i 0)] (S7 z).σ,m:=X2,nx:=930}
 | 1=>{σ:=H4 [(116,.lst 2 3 (λk=>[i (UA [0,1,-3] k),i (UA [0,5,5] k)])),(117,i 3),(118,i 1)] (S7 z).σ,m:=[(920,.row 20 1 6 (H0 wl0)),(921,.row 20 1 2 (H0 wl1)),(922,.row 20 1 1 (H0 wl2)),(923,.row 20 1 1 (H0 wl3)),(911,.row 5 1 42 (DN rp0)),(14,.cells 110 [.ptr 14 0,.row 911])],nx:=930}
 | 2=>{σ:=H4 [(116,.lst 2 3 (λk=>[i (UA [0,1,-3] k),i (UA [0,5,5] k)])),(117,i 3),(118,i 2)] (S7 z).σ,m:=[(920,.row 20 1 6 (H0 wl0)),(921,.row 20 1 3 (H0 wl1)),(922,.row 20 1 1 (H0 wl2)),(923,.row 20 1 1 (H0 wl3)),(911,.row 5 1 42 (DN rp0)),(14,.cells 110 [.ptr 14 0,.row 911])],nx:=930}
 |_=>{σ:=H4 [(116,.lst 2 3 (λk=>[i (UA [0,1,-3] k),i (UA [0,5,5] k)])),(117,i 3),(118,i 3)] (S7 z).σ,m:=X3,nx:=930}
def RF:G6->Option St
 | .exit 2=>some {σ:=H4 [(116,.lst 2 3 (λk=>[i (UA [0,1,-3] k),i (UA [0,5,5] k)])),(117,i 3),(118,i 3)] (S7 z).σ,m:=X3,nx:=930}
 |_=>none
def lK:CT:= .leaf (.exit 2,(RF z (.exit 2)).getD (S7 z))
def Wx9:UG:=GK QF (HF (RR z 0) (lK z))
abbrev WC:AV:=lst 2 3 λk=>[iI (UA [(0:Int),1,-3] k),iI (UA [(0:Int),5,5] k)]
abbrev WZ:List Int:=[(0:Int),1,-3]
abbrev Z9:List Int:=[(0:Int),5,5]
theorem Ze5:PG (HW VP QW Q9 [] QF S9 (RR z 0) (RR z 1) (RF z))=(let z0:=([AV.x (.iface 9 (.string ({data:=List.toArray (Lib.itoa (UA WZ (0:Int).toNat)) }++{data:=#[46,46] }++{data:=List.toArray (Lib.itoa (UA Z9 (0:Int).toNat)) })))]);(need [UH 0 3] (need [(0:Int)<=UA WZ (0:Int).toNat/\UA WZ (0:Int).toNat<=1000\/(-1000:Int)<=UA WZ (0:Int).toNat/\UA WZ (0:Int).toNat<=1000,(-1000:Int)<=UA Z9 (0:Int).toNat/\UA Z9 (0:Int).toNat<=1000,4<=100] (need [32<=140737488355328,∀(i:Nat),i<1-> ∀(a:AV),a∈U6 1 z0 i->AV.one a=true] (need [VM ((0:Int)+1)] (need [Q6,WG,QO,Z1,Z2,Z3,Z4,WC=WC,XM,(0:Int)+1=1,6=6,GQ 6 (H0 wl0),2=2,GV 2 (GI 1 (H0 wl1) (U6 1 z0)) (H0 wl1),1=1,GQ 1 (H0 wl2),1=1,GQ 1 (H0 wl3),42=42,GQ 42 (DN rp0),WG,X5] (leaf G6.normal))))))):=by
 kernel_rfl
theorem Ze4:PG (HW VP QW Q9 [] QF S9 (RR z 1) (RR z 2) (RF z))=(let z0:=([AV.x (.iface 9 (.string ({data:=List.toArray (Lib.itoa (UA WZ (1:Int).toNat)) }++{data:=#[46,46] }++{data:=List.toArray (Lib.itoa (UA Z9 (1:Int).toNat)) })))]);(need [UH 1 3] (need [(0:Int)<=UA WZ (1:Int).toNat/\UA WZ (1:Int).toNat<=1000\/(-1000:Int)<=UA WZ (1:Int).toNat/\UA WZ (1:Int).toNat<=1000,(-1000:Int)<=UA Z9 (1:Int).toNat/\UA Z9 (1:Int).toNat<=1000,4<=100] (need [48<=140737488355328,∀(i:Nat),i<1-> ∀(a:AV),a∈U6 1 z0 i->AV.one a=true] (need [VM ((1:Int)+1)] (need [Q6,WG,QO,Z1,Z2,Z3,Z4,WC=WC,XM,(1:Int)+1=2,6=6,GQ 6 (H0 wl0),3=3,GV 3 (GI 2 (H0 wl1) (U6 1 z0)) (H0 wl1),1=1,GQ 1 (H0 wl2),1=1,GQ 1 (H0 wl3),42=42,GQ 42 (DN rp0),WG,X5] (leaf G6.normal))))))):=by
 kernel_rfl
theorem Ze3:PG (HW VP QW Q9 [] QF S9 (RR z 2) (RR z 3) (RF z))=(let z0:=([AV.x (.iface 9 (.string ({data:=List.toArray (Lib.itoa (UA WZ (2:Int).toNat)) }++{data:=#[46,46] }++{data:=List.toArray (Lib.itoa (UA Z9 (2:Int).toNat)) })))]);(need [UH 2 3] (need [(0:Int)<=UA WZ (2:Int).toNat/\UA WZ (2:Int).toNat<=1000\/(-1000:Int)<=UA WZ (2:Int).toNat/\UA WZ (2:Int).toNat<=1000,(-1000:Int)<=UA Z9 (2:Int).toNat/\UA Z9 (2:Int).toNat<=1000,5<=100] (need [64<=140737488355328,∀(i:Nat),i<1-> ∀(a:AV),a∈U6 1 z0 i->AV.one a=true] (need [VM ((2:Int)+1)] (need [Q6,WG,QO,Z1,Z2,Z3,Z4,WC=WC,XM,(2:Int)+1=3,6=6,GQ 6 (H0 wl0),4=4,GV 4 (GI 3 (H0 wl1) (U6 1 z0)) (H0 wl1),1=1,GQ 1 (H0 wl2),1=1,GQ 1 (H0 wl3),42=42,GQ 42 (DN rp0),WG,X5] (leaf G6.normal))))))):=by
 kernel_rfl
theorem Ze2:PG (HW VP QW Q9 [] QF S9 (RR z 3) (RR z 3) (RF z))=(need [Q6,WG,QO,Z1,Z2,Z3,Z4,WC=WC,XM,XM,6=6,GQ 6 (H0 wl0),4=4,GQ 4 (H0 wl1),1=1,GQ 1 (H0 wl2),1=1,GQ 1 (H0 wl3),42=42,GQ 42 (DN rp0),WG,X5] (leaf (G6.exit 2))):=by
 kernel_rfl
theorem Ze6:G5 VP (.loop S9) (Wx9 z):=by
 refine US QF (L:=[]) (VL.cons kX (VL.cons kQ (VL.cons kI (VL.cons x9 (VL.nil _))))) (VX.ofC (VR.cons kU (VR.cons F9 (VR.cons RD (VR.cons LY (VR.nil _))))) (VO.cons xA (VO.cons kH (VO.nil _))) (UC.cons wX (UC.cons dG (UC.nil _)))) VZ U3 (X:=Nat) (RR z) (λk=>k<=3) (λk=>4-k) (λ_=>RF z) (x0:=0) (Nat.zero_le _) ?_ ?_ ?_
 ·intro k
  match k with
  | 0=>
   show Sx.okB (RR z 0)=true;kernel_rfl
  | 1=>
   show Sx.okB (RR z 1)=true;kernel_rfl
  | 2=>
   show Sx.okB (RR z 2)=true;kernel_rfl
  |k+3=>
   show Sx.okB (RR z 3)=true;kernel_rfl
 ·intro k y E h;unfold RF at h;split at h
  ·cases h;kernel_rfl
  ·cases h
 ·intro Q hQ k hx
  match k with
  | 0=>
   refine ⟨1,?_⟩
   with_reducible refine H2 ?_
   rw [Ze5];simp only [lK,RF,VN.sat,GS] at hQ;simp only [VN.sat,UB,UJ,VM,RF];exact YY
  | 1=>
   refine ⟨2,?_⟩
   with_reducible refine H2 ?_
   rw [Ze4];simp only [lK,RF,VN.sat,GS] at hQ;simp only [VN.sat,UB,UJ,VM,RF];exact YY
  | 2=>
   refine ⟨3,?_⟩
   with_reducible refine H2 ?_
   rw [Ze3];simp only [lK,RF,VN.sat,GS] at hQ;simp only [VN.sat,UB,UJ,VM,RF];exact YY
  | 3=>
   refine ⟨3,?_⟩
   with_reducible refine H2 ?_
   rw [Ze2];simp only [lK,RF,VN.sat,GS] at hQ;simp only [VN.sat,UB,UJ,VM,RF];exact YY
  |k+4=>omega
end
def Qh8(z:Nat):St:=((some {σ:=mkS 198 [(0,.top),(5,.ro (hsL VV)),(7,.ptr 14 0),(8,.fn (.func 41) [] [.ptr 14 0]),(9,.row 920),(10,.row 921),(11,.row 922),(12,.row 923),(136,hsC VV),(137,i 1),(138,i 0)],m:=X3,nx:=930}:Option St):Option St).getD {σ:=[],m:=[],nx:=0}
noncomputable def Qi4:Code:=U9 (VS (U8 Tryz.f24) 2)
abbrev X4:GZ:=[(920,.row 20 1 6 (H0 wl0)),(921,.row 20 1 4 (H0 wl1)),(922,.row 20 1 2 (H0 wl2)),(923,.row 20 1 1 (H0 wl3)),(911,.row 5 1 42 (DN rp0)),(14,.cells 110 [.ptr 14 0,.row 911])]
section
variable (z:Nat)
def qY:Nat->St
 | 0=>{σ:=H4 [(136,hsC VV),(137,i 1),(138,i 0)] (Qh8 z).σ,m:=X3,nx:=930}
 |_=>{σ:=H4 [(136,hsC VV),(137,i 1),(138,i 1)] (Qh8 z).σ,m:=X4,nx:=930}
def BN:G6->Option St
 | .exit 4=>some {σ:=H4 [(136,hsC VV),(137,i 1),(138,i 1)] (Qh8 z).σ,m:=X4,nx:=930}
 |_=>none
def Wu5:CT:= .leaf (.exit 4,(BN z (.exit 4)).getD (Qh8 z))
def Wx8:UG:=GK QF (HF (qY z 0) (Wu5 z))
abbrev YJ:AV:=agg [hR 2 VV,iI VV.pl,iI VV.ph,hY 2 VV,hC 1 VV,hT 2 VV]
theorem Ze0:PG (HW VP QW Q9 [] QF Qi4 (qY z 0) (qY z 1) (BN z))=(need [UH 0 VV.nc] (need [[YJ,agg [iI (VV.ca (0:Int).toNat),iI (VV.cb (0:Int).toNat),iI (VV.cc (0:Int).toNat),iI (VV.cd (0:Int).toNat),AV.x (.bool (VV.cv (0:Int).toNat))],iI (VV.cd (0:Int).toNat)]=[YJ,agg [iI (VV.ca 0),iI (VV.cb 0),iI (VV.cc 0),iI (VV.cd 0),AV.x (.bool (VV.cv 0))],iI (VV.cd 0)]] (need [32<=140737488355328,RU 1 (U6 1 [AV.x (.iface 3 (X7))])] (need [VM ((0:Int)+1)] (need [Q6,WG,QO,Z1,Z2,Z3,Z4,U0 (hC 1 VV),KS,(0:Int)+1=1,6=6,GQ 6 (H0 wl0),4=4,GQ 4 (H0 wl1),2=2,GV 2 (GI 1 (H0 wl2) (U6 1 [AV.x (.iface 3 (X7))])) (H0 wl2),1=1,GQ 1 (H0 wl3),42=42,GQ 42 (DN rp0),WG,X5] (leaf G6.normal)))))):=by
 kernel_rfl
theorem Zd9:PG (HW VP QW Q9 [] QF Qi4 (qY z 1) (qY z 1) (BN z))=(need [Q6,WG,QO,Z1,Z2,Z3,Z4,U0 (hC 1 VV),KS,KS,6=6,GQ 6 (H0 wl0),4=4,GQ 4 (H0 wl1),2=2,GQ 2 (H0 wl2),1=1,GQ 1 (H0 wl3),42=42,GQ 42 (DN rp0),WG,X5] (leaf (G6.exit 4))):=by
 kernel_rfl
theorem Ze1:G5 VP (.loop Qi4) (Wx8 z):=by
 refine US QF (L:=[]) (VL.cons kX (VL.cons kQ (VL.cons kI (VL.cons x9 (VL.nil _))))) (VX.ofC (VR.cons kU (VR.cons F9 (VR.cons RD (VR.cons LY (VR.nil _))))) (VO.cons xA (VO.cons kH (VO.nil _))) (UC.cons wX (UC.cons dG (UC.nil _)))) VZ U3 (X:=Nat) (qY z) (λk=>k<=1) (λk=>2-k) (λ_=>BN z) (x0:=0) (Nat.zero_le _) ?_ ?_ ?_
 ·intro k
  match k with
  | 0=>
   show Sx.okB (qY z 0)=true;kernel_rfl
  |k+1=>
   show Sx.okB (qY z 1)=true;kernel_rfl
 ·intro k y E h;unfold BN at h;split at h
  ·cases h;kernel_rfl
  ·cases h
 ·intro Q hQ k hx
  match k with
  | 0=>
   refine ⟨1,?_⟩
   with_reducible refine H2 ?_
   rw [Ze0];simp only [Wu5,BN,VN.sat,GS] at hQ;simp only [VN.sat,UB,UJ,VM,BN];exact YY
  | 1=>
   refine ⟨1,?_⟩
   with_reducible refine H2 ?_
   rw [Zd9];simp only [Wu5,BN,VN.sat,GS] at hQ;simp only [VN.sat,UB,UJ,VM,BN];exact YY
  |k+2=>omega
end
def M8(z:Nat):St:=((some {σ:=mkS 198 [(0,.top),(5,.ro (hsL VV)),(7,.ptr 14 0),(8,.fn (.func 41) [] [.ptr 14 0]),(9,.row 920),(10,.row 921),(11,.row 922),(12,.row 923),(162,i 4),(163,i 0)],m:=X4,nx:=930}:Option St):Option St).getD {σ:=[],m:=[],nx:=0}
noncomputable def MA:Code:=U9 (VS (U8 Tryz.f24) 3)
abbrev JL:GZ:=[(920,.row 20 1 6 (H0 wl0)),(921,.row 20 1 4 (H0 wl1)),(922,.row 20 1 2 (H0 wl2)),(923,.row 20 1 5 (H0 wl3)),(911,.row 5 1 42 (DN rp0)),(14,.cells 110 [.ptr 14 0,.row 911])]
section
variable (z:Nat)
def FL:Nat->St
 | 0=>{σ:=H4 [(162,i 4),(163,i 0)] (M8 z).σ,m:=X4,nx:=930}
 | 1=>{σ:=H4 [(162,i 4),(163,i 1)] (M8 z).σ,m:=[(920,.row 20 1 6 (H0 wl0)),(921,.row 20 1 4 (H0 wl1)),(922,.row 20 1 2 (H0 wl2)),(923,.row 20 1 2 (H0 wl3)),(911,.row 5 1 42 (DN rp0)),(14,.cells 110 [.ptr 14 0,.row 911])],nx:=930}
 | 2=>{σ:=H4 [(162,i 4),(163,i 2)] (M8 z).σ,m:=[(920,.row 20 1 6 (H0 wl0)),(921,.row 20 1 4 (H0 wl1)),(922,.row 20 1 2 (H0 wl2)),(923,.row 20 1 3 (H0 wl3)),(911,.row 5 1 42 (DN rp0)),(14,.cells 110 [.ptr 14 0,.row 911])],nx:=930}
 | 3=>{σ:=H4 [(162,i 4),(163,i 3)] (M8 z).σ,m:=[(920,.row 20 1 6 (H0 wl0)),(921,.row 20 1 4 (H0 wl1)),(922,.row 20 1 2 (H0 wl2)),(923,.row 20 1 4 (H0 wl3)),(911,.row 5 1 42 (DN rp0)),(14,.cells 110 [.ptr 14 0,.row 911])],nx:=930}
 |_=>{σ:=H4 [(162,i 4),(163,i 4)] (M8 z).σ,m:=JL,nx:=930}
def FE:G6->Option St
 | .exit 6=>some {σ:=H4 [(162,i 4),(163,i 4)] (M8 z).σ,m:=JL,nx:=930}
 |_=>none
def OT:CT:= .leaf (.exit 6,(FE z (.exit 6)).getD (M8 z))
def Wx7:UG:=GK QF (HF (FL z 0) (OT z))
abbrev ZQ:AV:=agg [iI 4,iI 10,hT 2 VV]
abbrev ZR:List Int:=[(4:Int),2,4,0]
abbrev YB:Prop:=iI 100=iI 100
theorem Zd7:PG (HW VP QW Q9 [] QF MA (FL z 0) (FL z 1) (FE z))=(let z0:=([AV.x (.iface 3 (.int .i64 (UA ZR (0:Int).toNat)))]);(need [ZQ=ZQ,YB,(0:Int)<=0/\(0:Int)<=3] (need [32<=140737488355328,∀(i:Nat),i<1-> ∀(a:AV),a∈U6 1 z0 i->AV.one a=true] (need [VM ((0:Int)+1)] (need [Q6,WG,QO,Z1,Z2,Z3,Z4,W6,(0:Int)+1=1,6=6,GQ 6 (H0 wl0),4=4,GQ 4 (H0 wl1),2=2,GQ 2 (H0 wl2),2=2,GV 2 (GI 1 (H0 wl3) (U6 1 z0)) (H0 wl3),42=42,GQ 42 (DN rp0),WG,X5] (leaf G6.normal)))))):=by
 kernel_rfl
theorem Zd6:PG (HW VP QW Q9 [] QF MA (FL z 1) (FL z 2) (FE z))=(let z0:=([AV.x (.iface 3 (.int .i64 (UA ZR (1:Int).toNat)))]);(need [ZQ=ZQ,YB,(0:Int)<=1/\(1:Int)<=3] (need [48<=140737488355328,∀(i:Nat),i<1-> ∀(a:AV),a∈U6 1 z0 i->AV.one a=true] (need [VM ((1:Int)+1)] (need [Q6,WG,QO,Z1,Z2,Z3,Z4,W6,(1:Int)+1=2,6=6,GQ 6 (H0 wl0),4=4,GQ 4 (H0 wl1),2=2,GQ 2 (H0 wl2),3=3,GV 3 (GI 2 (H0 wl3) (U6 1 z0)) (H0 wl3),42=42,GQ 42 (DN rp0),WG,X5] (leaf G6.normal)))))):=by
 kernel_rfl
theorem Zd5:PG (HW VP QW Q9 [] QF MA (FL z 2) (FL z 3) (FE z))=(let z0:=([AV.x (.iface 3 (.int .i64 (UA ZR (2:Int).toNat)))]);(need [ZQ=ZQ,YB,(0:Int)<=2/\(2:Int)<=3] (need [64<=140737488355328,∀(i:Nat),i<1-> ∀(a:AV),a∈U6 1 z0 i->AV.one a=true] (need [VM ((2:Int)+1)] (need [Q6,WG,QO,Z1,Z2,Z3,Z4,W6,(2:Int)+1=3,6=6,GQ 6 (H0 wl0),4=4,GQ 4 (H0 wl1),2=2,GQ 2 (H0 wl2),4=4,GV 4 (GI 3 (H0 wl3) (U6 1 z0)) (H0 wl3),42=42,GQ 42 (DN rp0),WG,X5] (leaf G6.normal)))))):=by
 kernel_rfl
theorem Zd4:PG (HW VP QW Q9 [] QF MA (FL z 3) (FL z 4) (FE z))=(let z0:=([AV.x (.iface 3 (.int .i64 (UA ZR (3:Int).toNat)))]);(need [ZQ=ZQ,YB,(0:Int)<=3/\(3:Int)<=3] (need [80<=140737488355328,∀(i:Nat),i<1-> ∀(a:AV),a∈U6 1 z0 i->AV.one a=true] (need [VM ((3:Int)+1)] (need [Q6,WG,QO,Z1,Z2,Z3,Z4,W6,(3:Int)+1=4,6=6,GQ 6 (H0 wl0),4=4,GQ 4 (H0 wl1),2=2,GQ 2 (H0 wl2),5=5,GV 5 (GI 4 (H0 wl3) (U6 1 z0)) (H0 wl3),42=42,GQ 42 (DN rp0),WG,X5] (leaf G6.normal)))))):=by
 kernel_rfl
theorem Zd3:PG (HW VP QW Q9 [] QF MA (FL z 4) (FL z 4) (FE z))=(need [Q6,WG,QO,Z1,Z2,Z3,Z4,W6,W6,6=6,GQ 6 (H0 wl0),4=4,GQ 4 (H0 wl1),2=2,GQ 2 (H0 wl2),5=5,GQ 5 (H0 wl3),42=42,GQ 42 (DN rp0),WG,X5] (leaf (G6.exit 6))):=by
 kernel_rfl
theorem Zd8:G5 VP (.loop MA) (Wx7 z):=by
 refine US QF (L:=[]) (VL.cons kX (VL.cons kQ (VL.cons kI (VL.cons x9 (VL.nil _))))) (VX.ofC (VR.cons kU (VR.cons F9 (VR.cons RD (VR.cons LY (VR.nil _))))) (VO.cons xA (VO.cons kH (VO.nil _))) (UC.cons wX (UC.cons dG (UC.nil _)))) VZ U3 (X:=Nat) (FL z) (λk=>k<=4) (λk=>5-k) (λ_=>FE z) (x0:=0) (Nat.zero_le _) ?_ ?_ ?_
 ·intro k
  match k with
  | 0=>
   show Sx.okB (FL z 0)=true;kernel_rfl
  | 1=>
   show Sx.okB (FL z 1)=true;kernel_rfl
  | 2=>
   show Sx.okB (FL z 2)=true;kernel_rfl
  | 3=>
   show Sx.okB (FL z 3)=true;kernel_rfl
  |k+4=>
   show Sx.okB (FL z 4)=true;kernel_rfl
 ·intro k y E h;unfold FE at h;split at h
  ·cases h;kernel_rfl
  ·cases h
 ·intro Q hQ k hx
  match k with
  | 0=>
   refine ⟨1,?_⟩
   with_reducible refine H2 ?_
   rw [Zd7];simp only [OT,FE,VN.sat,GS] at hQ;simp only [VN.sat,UB,UJ,VM,FE];exact YY
  | 1=>
   refine ⟨2,?_⟩
   with_reducible refine H2 ?_
   rw [Zd6];simp only [OT,FE,VN.sat,GS] at hQ;simp only [VN.sat,UB,UJ,VM,FE];exact YY
  | 2=>
   refine ⟨3,?_⟩
   with_reducible refine H2 ?_
   rw [Zd5];simp only [OT,FE,VN.sat,GS] at hQ;simp only [VN.sat,UB,UJ,VM,FE];exact YY
  | 3=>
   refine ⟨4,?_⟩
   with_reducible refine H2 ?_
   rw [Zd4];simp only [OT,FE,VN.sat,GS] at hQ;simp only [VN.sat,UB,UJ,VM,FE];exact YY
  | 4=>
   refine ⟨4,?_⟩
   with_reducible refine H2 ?_
   rw [Zd3];simp only [OT,FE,VN.sat,GS] at hQ;simp only [VN.sat,UB,UJ,VM,FE];exact YY
  |k+5=>omega
end
abbrev JO:GZ:=[(925,.row 111 1 4 (U6 1 [.lst 1 6 (H0 wl0),.lst 1 4 (H0 wl1),.lst 1 2 (H0 wl2),.lst 1 5 (H0 wl3)])),(911,.row 5 1 42 (DN rp0)),(14,.cells 110 [.ptr 14 0,.row 911])]
def M7(z:Nat):St:=((some {σ:=mkS 198 [(0,.top),(5,.ro (hsL VV)),(7,.ptr 14 0),(8,.fn (.func 41) [] [.ptr 14 0]),(187,.row 925),(188,i 4),(189,i 0)],m:=JO,nx:=930}:Option St):Option St).getD {σ:=[],m:=[],nx:=0}
noncomputable def M9:Code:=U9 (VS (U8 Tryz.f24) 4)
abbrev JN:GZ:=[(925,.row 111 1 4 (U6 1 [.lst 1 6 (H0 wl0),.lst 1 4 (H0 wl1),.lst 1 2 (H0 wl2),.lst 1 5 (H0 wl3)])),(911,.row 5 1 136 (DN rp4)),(14,.cells 110 [.ptr 14 0,.row 911])]
section
variable (z:Nat)
def FK:Nat->St
 | 0=>{σ:=H4 [(187,.row 925),(188,i 4),(189,i 0)] (M7 z).σ,m:=JO,nx:=930}
 | 1=>{σ:=H4 [(187,.row 925),(188,i 4),(189,i 1)] (M7 z).σ,m:=[(925,.row 111 1 4 (U6 1 [.lst 1 6 (H0 wl0),.lst 1 4 (H0 wl1),.lst 1 2 (H0 wl2),.lst 1 5 (H0 wl3)])),(911,.row 5 1 91 (DN rp1)),(14,.cells 110 [.ptr 14 0,.row 911])],nx:=930}
 | 2=>{σ:=H4 [(187,.row 925),(188,i 4),(189,i 2)] (M7 z).σ,m:=[(925,.row 111 1 4 (U6 1 [.lst 1 6 (H0 wl0),.lst 1 4 (H0 wl1),.lst 1 2 (H0 wl2),.lst 1 5 (H0 wl3)])),(911,.row 5 1 115 (DN rp2)),(14,.cells 110 [.ptr 14 0,.row 911])],nx:=930}
 | 3=>{σ:=H4 [(187,.row 925),(188,i 4),(189,i 3)] (M7 z).σ,m:=[(925,.row 111 1 4 (U6 1 [.lst 1 6 (H0 wl0),.lst 1 4 (H0 wl1),.lst 1 2 (H0 wl2),.lst 1 5 (H0 wl3)])),(911,.row 5 1 123 (DN rp3)),(14,.cells 110 [.ptr 14 0,.row 911])],nx:=930}
 |_=>{σ:=H4 [(187,.row 925),(188,i 4),(189,i 4)] (M7 z).σ,m:=JN,nx:=930}
def FD:G6->Option St
 | .exit 8=>some {σ:=H4 [(187,.row 925),(188,i 4),(189,i 4)] (M7 z).σ,m:=JN,nx:=930}
 |_=>none
def OR:CT:= .leaf (.exit 8,(FD z (.exit 8)).getD (M7 z))
def Wx6:UG:=GK [(.slot 187,925,111,1),(.cell 14 1,911,5,1)] (HF (FK z 0) (OR z))
noncomputable abbrev JA:AV:=lst 1 6 λk=>[Option.rec (top) (λval=>(λval=>(λx=>x) val) val) wl0[k]?]
noncomputable abbrev JC:AV:=lst 1 4 λk=>[Option.rec (top) (λval=>(λval=>(λx=>x) val) val) wl1[k]?]
noncomputable abbrev JD:AV:=lst 1 2 λk=>[Option.rec (top) (λval=>(λval=>(λx=>x) val) val) wl2[k]?]
noncomputable abbrev JE:AV:=lst 1 5 λk=>[Option.rec (top) (λval=>(λval=>(λx=>x) val) val) wl3[k]?]
noncomputable abbrev Q7:List AV:=[JA,JC,JD,JE]
abbrev WU:List AV:=[AV.x (.string {data:=#[(48:UInt8),(46:UInt8),(46:UInt8),(48:UInt8)] })]
abbrev XK:List AV:=[AV.x (.string {data:=#[(49:UInt8),(48:UInt8),(48:UInt8),(48:UInt8),(46:UInt8),(46:UInt8),(49:UInt8),(48:UInt8),(48:UInt8),(48:UInt8)] })]
abbrev XU:List AV:=[AV.x (.string {data:=#[(50:UInt8),(48:UInt8),(48:UInt8),(46:UInt8),(46:UInt8),(51:UInt8),(48:UInt8),(48:UInt8)] })]
abbrev XV:List AV:=[AV.x (.string {data:=#[(52:UInt8),(49:UInt8),(48:UInt8),(46:UInt8),(46:UInt8),(53:UInt8),(49:UInt8),(48:UInt8)] })]
abbrev XW:List AV:=[AV.x (.string {data:=#[(55:UInt8),(48:UInt8),(48:UInt8),(46:UInt8),(46:UInt8),(56:UInt8),(48:UInt8),(48:UInt8)] })]
abbrev Z7:Value:=Value.string {data:=#[(109:UInt8),(97:UInt8),(114:UInt8),(107:UInt8),(115:UInt8)] }
abbrev J7:List (Pl×Nat×TypeId×Nat):=[(.slot 187,925,111,1),(.cell 14 1,911,5,1)]
abbrev Y1:Prop:=AV.row 925=AV.row 925
theorem Zd1:PG (HW VP QW Q9 [] J7 M9 (FK z 0) (FK z 1) (FD z))=(let z0:=(GI 5 (GI 4 (GI 3 (GI 2 (GI 1 (GI 0 (λx=>[]) (U6 1 [AV.x (Z7)])) (U6 1 WU)) (U6 1 XU)) (U6 1 XV)) (U6 1 XW)) (U6 1 XK));(need [UH 0 4] (need [(0:Int).toNat<4] (need [UH 0 6] (need [16<=140737488355328,RU 1 (U6 1 [AV.x (Z7)])] (need [VM ((0:Int)+1)] (need [(0:Int)<=0+1/\(0:Int)+1<(↑(6:Nat):Int)] (need [32<=140737488355328,∀(i:Nat),i<1-> ∀(a:AV),a∈U6 1 WU i->AV.one a=true] (need [VM ((0:Int)+1+1)] (need [(0:Int)<=0+1+1/\(0:Int)+1+1<(↑(6:Nat):Int)] (need [48<=140737488355328,∀(i:Nat),i<1-> ∀(a:AV),a∈U6 1 XU i->AV.one a=true] (need [VM ((0:Int)+1+1+1)] (need [(0:Int)<=0+1+1+1/\(0:Int)+1+1+1<(↑(6:Nat):Int)] (need [64<=140737488355328,∀(i:Nat),i<1-> ∀(a:AV),a∈U6 1 XV i->AV.one a=true] (need [VM ((0:Int)+1+1+1+1)] (need [(0:Int)<=0+1+1+1+1/\(0:Int)+1+1+1+1<(↑(6:Nat):Int)] (need [80<=140737488355328,∀(i:Nat),i<1-> ∀(a:AV),a∈U6 1 XW i->AV.one a=true] (need [VM ((0:Int)+1+1+1+1+1)] (need [(0:Int)<=0+1+1+1+1+1/\(0:Int)+1+1+1+1+1<(↑(6:Nat):Int)] (need [96<=140737488355328,∀(i:Nat),i<1-> ∀(a:AV),a∈U6 1 XK i->AV.one a=true] (need [VM ((0:Int)+1+1+1+1+1+1)] (need [6<=100000,jQ 6 z0,ByteArray.size (jnB 6 z0 {data:=#[32] })<=140737488355328] (need [(↑(49:Nat):Int)<=9223372036854775807] (need [91<=140737488355328] (need [VM ((0:Int)+1)] (need [Q6,WG,QO,Y1,W6,(0:Int)+1=1,4=4,GQ 4 (U6 1 Q7),91=91,GV 91 (GI 42 (DN rp0) (DN (jnB 6 z0 {data:=#[32] }++{data:=#[10] }))) (DN rp1),WG,X5] (leaf G6.normal))))))))))))))))))))))))))):=by
 kernel_rfl
abbrev XL:Value:=Value.string {data:=#[(111:UInt8),(102:UInt8),(102:UInt8),(115:UInt8),(101:UInt8),(116:UInt8),(115:UInt8)] }
abbrev ZM:List AV:=[AV.x (.string {data:=#[(45:UInt8),(51:UInt8),(46:UInt8),(46:UInt8),(53:UInt8)] })]
abbrev ZW:List AV:=[AV.x (.string {data:=#[(49:UInt8),(46:UInt8),(46:UInt8),(53:UInt8)] })]
theorem Zd0:PG (HW VP QW Q9 [] J7 M9 (FK z 1) (FK z 2) (FD z))=(let z0:=(GI 3 (GI 2 (GI 1 (GI 0 (λx=>[]) (U6 1 [AV.x (XL)])) (U6 1 WU)) (U6 1 ZW)) (U6 1 ZM));(need [UH 1 4] (need [(1:Int).toNat<4] (need [UH 0 4] (need [16<=140737488355328,RU 1 (U6 1 [AV.x (XL)])] (need [VM ((0:Int)+1)] (need [(0:Int)<=0+1/\(0:Int)+1<(↑(4:Nat):Int)] (need [32<=140737488355328,∀(i:Nat),i<1-> ∀(a:AV),a∈U6 1 WU i->AV.one a=true] (need [VM ((0:Int)+1+1)] (need [(0:Int)<=0+1+1/\(0:Int)+1+1<(↑(4:Nat):Int)] (need [48<=140737488355328,∀(i:Nat),i<1-> ∀(a:AV),a∈U6 1 ZW i->AV.one a=true] (need [VM ((0:Int)+1+1+1)] (need [(0:Int)<=0+1+1+1/\(0:Int)+1+1+1<(↑(4:Nat):Int)] (need [64<=140737488355328,∀(i:Nat),i<1-> ∀(a:AV),a∈U6 1 ZM i->AV.one a=true] (need [VM ((0:Int)+1+1+1+1)] (need [4<=100000,jQ 4 z0,ByteArray.size (jnB 4 z0 {data:=#[32] })<=140737488355328] (need [(↑(24:Nat):Int)<=9223372036854775807] (need [115<=140737488355328] (need [VM ((1:Int)+1)] (need [Q6,WG,QO,Y1,W6,(1:Int)+1=2,4=4,GQ 4 (U6 1 Q7),115=115,GV 115 (GI 91 (DN rp1) (DN (jnB 4 z0 {data:=#[32] }++{data:=#[10] }))) (DN rp2),WG,X5] (leaf G6.normal))))))))))))))))))))):=by
 kernel_rfl
abbrev XS:List AV:=[AV.x (.string {data:=List.toArray (Lib.itoa (0:Int)) })]
abbrev Z8:Value:=Value.string {data:=#[(115:UInt8),(116:UInt8),(97:UInt8),(110:UInt8),(100:UInt8)] }
theorem Zc9:PG (HW VP QW Q9 [] J7 M9 (FK z 2) (FK z 3) (FD z))=(let z0:=(GI 1 (GI 0 (λx=>[]) (U6 1 [AV.x (Z8)])) (U6 1 XS));(need [UH 2 4] (need [(2:Int).toNat<4] (need [UH 0 2] (need [16<=140737488355328,RU 1 (U6 1 [AV.x (Z8)])] (need [VM ((0:Int)+1)] (need [(0:Int)<=0+1/\(0:Int)+1<(↑(2:Nat):Int)] (need [VM (0:Int)] (need [32<=140737488355328,∀(i:Nat),i<1-> ∀(a:AV),a∈U6 1 XS i->AV.one a=true] (need [VM ((0:Int)+1+1)] (need [2<=100000,jQ 2 z0,ByteArray.size (jnB 2 z0 {data:=#[32] })<=140737488355328] (need [(↑(8:Nat):Int)<=9223372036854775807] (need [123<=140737488355328] (need [VM ((2:Int)+1)] (need [Q6,WG,QO,Y1,W6,(2:Int)+1=3,4=4,GQ 4 (U6 1 Q7),123=123,GV 123 (GI 115 (DN rp2) (DN (jnB 2 z0 {data:=#[32] }++{data:=#[10] }))) (DN rp3),WG,X5] (leaf G6.normal)))))))))))))))):=by
 kernel_rfl
abbrev XT:List AV:=[AV.x (.string {data:=List.toArray (Lib.itoa (4:Int)) })]
abbrev ZG:Value:=Value.string {data:=#[(104:UInt8),(111:UInt8),(108:UInt8),(100:UInt8)] }
abbrev JI:List AV:=[AV.x (.string {data:=List.toArray (Lib.itoa (2:Int)) })]
theorem Zc8:PG (HW VP QW Q9 [] J7 M9 (FK z 3) (FK z 4) (FD z))=(let z0:=(GI 4 (GI 3 (GI 2 (GI 1 (GI 0 (λx=>[]) (U6 1 [AV.x (ZG)])) (U6 1 XT)) (U6 1 JI)) (U6 1 XT)) (U6 1 XS));(need [UH 3 4] (need [(3:Int).toNat<4] (need [UH 0 5] (need [16<=140737488355328,RU 1 (U6 1 [AV.x (ZG)])] (need [VM ((0:Int)+1)] (need [(0:Int)<=0+1/\(0:Int)+1<(↑(5:Nat):Int)] (need [VM (4:Int)] (need [32<=140737488355328,∀(i:Nat),i<1-> ∀(a:AV),a∈U6 1 XT i->AV.one a=true] (need [VM ((0:Int)+1+1)] (need [(0:Int)<=0+1+1/\(0:Int)+1+1<(↑(5:Nat):Int)] (need [VM (2:Int)] (need [48<=140737488355328,∀(i:Nat),i<1-> ∀(a:AV),a∈U6 1 JI i->AV.one a=true] (need [VM ((0:Int)+1+1+1)] (need [(0:Int)<=0+1+1+1/\(0:Int)+1+1+1<(↑(5:Nat):Int)] (need [VM (4:Int)] (need [64<=140737488355328,∀(i:Nat),i<1-> ∀(a:AV),a∈U6 1 XT i->AV.one a=true] (need [VM ((0:Int)+1+1+1+1)] (need [(0:Int)<=0+1+1+1+1/\(0:Int)+1+1+1+1<(↑(5:Nat):Int)] (need [VM (0:Int)] (need [80<=140737488355328,∀(i:Nat),i<1-> ∀(a:AV),a∈U6 1 XS i->AV.one a=true] (need [VM ((0:Int)+1+1+1+1+1)] (need [5<=100000,jQ 5 z0,ByteArray.size (jnB 5 z0 {data:=#[32] })<=140737488355328] (need [(↑(13:Nat):Int)<=9223372036854775807] (need [136<=140737488355328] (need [VM ((3:Int)+1)] (need [Q6,WG,QO,Y1,W6,(3:Int)+1=4,4=4,GQ 4 (U6 1 Q7),136=136,GV 136 (GI 123 (DN rp3) (DN (jnB 5 z0 {data:=#[32] }++{data:=#[10] }))) (DN rp4),WG,X5] (leaf G6.normal)))))))))))))))))))))))))))):=by
 kernel_rfl
theorem Zc7:PG (HW VP QW Q9 [] J7 M9 (FK z 4) (FK z 4) (FD z))=(need [Q6,WG,QO,Y1,W6,W6,4=4,GQ 4 (U6 1 Q7),136=136,GQ 136 (DN rp4),WG,X5] (leaf (G6.exit 8))):=by
 kernel_rfl
theorem Zd2:G5 VP (.loop M9) (Wx6 z):=by
 refine US J7 (L:=[]) (VL.cons kX (VL.cons kQ (VL.cons kI (VL.cons x9 (VL.nil _))))) (VX.ofC (VR.cons kU (VR.cons F9 (VR.cons RD (VR.cons LY (VR.nil _))))) (VO.cons xA (VO.cons kH (VO.nil _))) (UC.cons wX (UC.cons dG (UC.nil _)))) VZ U3 (X:=Nat) (FK z) (λk=>k<=4) (λk=>5-k) (λ_=>FD z) (x0:=0) (Nat.zero_le _) ?_ ?_ ?_
 ·intro k
  match k with
  | 0=>
   show Sx.okB (FK z 0)=true;kernel_rfl
  | 1=>
   show Sx.okB (FK z 1)=true;kernel_rfl
  | 2=>
   show Sx.okB (FK z 2)=true;kernel_rfl
  | 3=>
   show Sx.okB (FK z 3)=true;kernel_rfl
  |k+4=>
   show Sx.okB (FK z 4)=true;kernel_rfl
 ·intro k y E h;unfold FD at h;split at h
  ·cases h;kernel_rfl
  ·cases h
 ·intro Q hQ k hx
  match k with
  | 0=>
   refine ⟨1,?_⟩
   with_reducible refine H2 ?_
   rw [Zd1];simp only [OR,FD,VN.sat,GS] at hQ;simp only [VN.sat,UB,UJ,VM,FD];exact YY
  | 1=>
   refine ⟨2,?_⟩
   with_reducible refine H2 ?_
   rw [Zd0];simp only [OR,FD,VN.sat,GS] at hQ;simp only [VN.sat,UB,UJ,VM,FD];exact YY
  | 2=>
   refine ⟨3,?_⟩
   with_reducible refine H2 ?_
   rw [Zc9];simp only [OR,FD,VN.sat,GS] at hQ;simp only [VN.sat,UB,UJ,VM,FD];exact YY
  | 3=>
   refine ⟨4,?_⟩
   with_reducible refine H2 ?_
   rw [Zc8];simp only [OR,FD,VN.sat,GS] at hQ;simp only [VN.sat,UB,UJ,VM,FD];exact YY
  | 4=>
   refine ⟨4,?_⟩
   with_reducible refine H2 ?_
   rw [Zc7];simp only [OR,FD,VN.sat,GS] at hQ;simp only [VN.sat,UB,UJ,VM,FD];exact YY
  |k+5=>omega
end
theorem vL{S:Code->UG->Prop}{c:Code}{s0 s1 s2 s3 s4:UG}(h0: ∀cj,VS c 0=some cj->S cj s0)(h1: ∀cj,VS c 1=some cj->S cj s1)(h2: ∀cj,VS c 2=some cj->S cj s2)(h3: ∀cj,VS c 3=some cj->S cj s3)(h4: ∀cj,VS c 4=some cj->S cj s4):
  ∀j cj,VS c j=some cj-> ∀sp,[s0,s1,s2,s3,s4][j]? =some sp->S cj sp:=by
 intro j cj hj sp hsp
 match j with
 | 0=>simp at hsp;subst hsp;exact h0 cj hj
 | 1=>simp at hsp;subst hsp;exact h1 cj hj
 | 2=>simp at hsp;subst hsp;exact h2 cj hj
 | 3=>simp at hsp;subst hsp;exact h3 cj hj
 | 4=>simp at hsp;subst hsp;exact h4 cj hj
 |j+5=>simp at hsp
theorem Zm8(B:ByteArray):bsO B.size (DN B)=B:=by
 unfold bsO;apply ByteArray.ext;apply Array.ext
 ·show ((List.range B.size).map _).toArray.size=B.data.size;rw [List.size_toArray,List.length_map,List.length_range];rfl
 ·intro j h1 h2;have h3:j<B.data.size:=h2;simp [DN,byO,byN,LZ,Array.getElem?_eq_getElem h3]
abbrev YQ:GZ:=[(911,.row 5 1 42 (DN rp0)),(14,.cells 110 [.ptr 14 0,.row 911])]
def mE:St:={σ:=mkS 198 [(5,.ro (hsL VV)),(7,.ptr 14 0),(8,.fn (.func 41) [] [.ptr 14 0]),(9,.lst 1 6 (H0 wl0)),(10,.lst 1 4 (H0 wl1)),(11,.lst 1 2 (H0 wl2)),(12,.lst 1 5 (H0 wl3))],m:=YQ,nx:=930}
def mF:St:={σ:=mkS 198 [(0,.top),(5,.ro (hsL VV)),(7,.ptr 14 0),(8,.fn (.func 41) [] [.ptr 14 0])],m:=YQ,nx:=930}
abbrev WP:List AV:=[lst 1 11 λk=>[DX (UN U7 k)]]
abbrev WT:List AV:=[AV.x (.string {data:=#[(99:UInt8),(101:UInt8),(114:UInt8),(116:UInt8),(105:UInt8),(102:UInt8),(105:UInt8),(99:UInt8),(97:UInt8),(116:UInt8),(101:UInt8),(115:UInt8)] })]
abbrev X0:List AV:=[agg [iI 4,iI 100,iI 20,iI 30,hR 2 VV,lst 2 3 λk=>[iI (tbP k),iI (tbQ k)],iI VV.pl,iI VV.ph,iI 1,iI 3],iI 0]
abbrev XQ:List AV:=[AV.x (.string {data:=#[(114:UInt8),(101:UInt8),(97:UInt8),(100:UInt8),(105:UInt8),(110:UInt8),(103:UInt8),(115:UInt8)] })]
abbrev ZK:List AV:=[AV.x (.string {data:=#[(115:UInt8),(97:UInt8),(108:UInt8),(101:UInt8),(115:UInt8)] })]
abbrev ZL:List AV:=[AV.x (.string {data:=#[(98:UInt8),(97:UInt8),(116:UInt8),(104:UInt8),(115:UInt8)] })]
theorem iF:VY VP 24 [lns 11 (UN U7)] (.tup [.x (.string Zf4),i 0]):=by
 have hG:VL VP [(30,sE),(35,sC),(38,sB),(46,A5)]:=(VL.cons kX (VL.cons kQ (VL.cons kI (VL.cons x9 (VL.nil _)))));have hX: ∀cx,VX VP Q9 cx:=(VX.ofC (VR.cons kU (VR.cons F9 (VR.cons RD (VR.cons LY (VR.nil _))))) (VO.cons xA (VO.cons kH (VO.nil _))) (UC.cons wX (UC.cons dG (UC.nil _))));have GR:Tryz.prog.follows .mixedOrders=true:=VZ
 refine SF (L:=[Wy0 0,Wx9 0,Wx8 0,Wx7 0,Wx6 0]) Tryz.func24 (UV Tryz.f24) (λcx=>(gK (N:=[(.cell 14 1,911,5,1)]) (s2:=mF) hG (hX cx) GR (gK (N:=[(.slot 9,0,0,0),(.slot 10,0,0,0),(.slot 11,0,0,0),(.slot 12,0,0,0)]) (s2:=mE) hG (hX cx) GR (iX hG (hX cx) GR) VU 7) VU 6)) (vL (lpE (b:= .loop rD) VU<|(Zf3 0).N) (lpE (b:= .loop S9) VU<|(Ze6 0).N) (lpE (b:= .loop Qi4) VU<|(Ze1 0).N) (lpE (b:= .loop MA) VU<|(Zd8 0).N) (lpE (b:= .loop M9) VU<|(Zd2 0).N)) (t:=let z1:=([AV.x (.string {data:=List.toArray (Lib.itoa (↑VV.nr:Int)) })]);let z2:=([AV.x (.string {data:=List.toArray (Lib.itoa (↑VV.nb:Int)) })]);let z3:=([AV.x (.string {data:=List.toArray (Lib.itoa (↑VV.nc:Int)) })]);let z4:=([AV.x (.string {data:=List.toArray (Lib.itoa (↑VV.ns:Int)) })]);let z0:=(GI 7 (GI 6 (GI 5 (GI 4 (GI 3 (GI 2 (GI 1 (GI 0 (λx=>[]) (U6 1 XQ)) (U6 1 z1)) (U6 1 ZL)) (U6 1 z2)) (U6 1 WT)) (U6 1 z3)) (U6 1 ZK)) (U6 1 z4));(need [WP=WP] (branch ((0:Int) != 0) (leaf (RV.tup [RV.x (.string {data:=#[] }),RV.x (X7)])) (need [WP=WP] (need [UH 0 8] (need [(0:Int).toNat<8] (need [16<=140737488355328,∀(i:Nat),i<1-> ∀(a:AV),a∈U6 1 XQ i->AV.one a=true] (need [VM ((0:Int)+1)] (need [(0:Int)<=0+1/\(0:Int)+1<(↑(8:Nat):Int)] (need [((0:Int)+1).toNat<8] (need [VM (↑VV.nr:Int)] (need [32<=140737488355328,∀(i:Nat),i<1-> ∀(a:AV),a∈U6 1 z1 i->AV.one a=true] (need [VM ((0:Int)+1+1)] (need [(0:Int)<=0+1+1/\(0:Int)+1+1<(↑(8:Nat):Int)] (need [((0:Int)+1+1).toNat<8] (need [48<=140737488355328,∀(i:Nat),i<1-> ∀(a:AV),a∈U6 1 ZL i->AV.one a=true] (need [VM ((0:Int)+1+1+1)] (need [(0:Int)<=0+1+1+1/\(0:Int)+1+1+1<(↑(8:Nat):Int)] (need [((0:Int)+1+1+1).toNat<8] (need [VM (↑VV.nb:Int)] (need [64<=140737488355328,∀(i:Nat),i<1-> ∀(a:AV),a∈U6 1 z2 i->AV.one a=true] (need [VM ((0:Int)+1+1+1+1)] (need [(0:Int)<=0+1+1+1+1/\(0:Int)+1+1+1+1<(↑(8:Nat):Int)] (need [((0:Int)+1+1+1+1).toNat<8] (need [80<=140737488355328,∀(i:Nat),i<1-> ∀(a:AV),a∈U6 1 WT i->AV.one a=true] (need [VM ((0:Int)+1+1+1+1+1)] (need [(0:Int)<=0+1+1+1+1+1/\(0:Int)+1+1+1+1+1<(↑(8:Nat):Int)] (need [((0:Int)+1+1+1+1+1).toNat<8] (need [VM (↑VV.nc:Int)] (need [96<=140737488355328,∀(i:Nat),i<1-> ∀(a:AV),a∈U6 1 z3 i->AV.one a=true] (need [VM ((0:Int)+1+1+1+1+1+1)] (need [(0:Int)<=0+1+1+1+1+1+1/\(0:Int)+1+1+1+1+1+1<(↑(8:Nat):Int)] (need [((0:Int)+1+1+1+1+1+1).toNat<8] (need [112<=140737488355328,∀(i:Nat),i<1-> ∀(a:AV),a∈U6 1 ZK i->AV.one a=true] (need [VM ((0:Int)+1+1+1+1+1+1+1)] (need [(0:Int)<=0+1+1+1+1+1+1+1/\(0:Int)+1+1+1+1+1+1+1<(↑(8:Nat):Int)] (need [((0:Int)+1+1+1+1+1+1+1).toNat<8] (need [VM (↑VV.ns:Int)] (need [128<=140737488355328,∀(i:Nat),i<1-> ∀(a:AV),a∈U6 1 z4 i->AV.one a=true] (need [VM ((0:Int)+1+1+1+1+1+1+1+1)] (need [8<=100000,jQ 8 z0,ByteArray.size (jnB 8 z0 {data:=#[32] })<=140737488355328] (need [(↑(42:Nat):Int)<=9223372036854775807] (need [42<=140737488355328] (need [Q6,WG,QO,42=42,GV 42 (GI 0 (λx=>[]) (DN (jnB 8 z0 {data:=#[32] }++{data:=#[10] }))) (DN rp0),WG,X5] (need [X0=X0] (need [Q6,WG,QO,Z1,Z2,Z3,Z4,WW=WW,(↑(5:Nat):Int)=5,QT,1=1,GV 1 (U6 1 [AV.x (.iface 9 (Z7))]) (H0 wl0),1=1,GV 1 (U6 1 [AV.x (.iface 9 (XL))]) (H0 wl1),1=1,GV 1 (U6 1 [AV.x (.iface 9 (Z8))]) (H0 wl2),1=1,GV 1 (U6 1 [AV.x (.iface 9 (ZG))]) (H0 wl3),42=42,GQ 42 (DN rp0),WG,X5] (need [U0 ([agg [lst 2 3 λk=>[iI (oL k),iI (oH k)],iI 1,hY 2 VV]])] (need [Q6,WG,QO,Z1,Z2,Z3,Z4,WC=WC,(↑(3:Nat):Int)=3,QT,6=6,GQ 6 (H0 wl0),1=1,GQ 1 (H0 wl1),1=1,GQ 1 (H0 wl2),1=1,GQ 1 (H0 wl3),42=42,GQ 42 (DN rp0),WG,X5] (need [Q6,WG,QO,Z1,Z2,Z3,Z4,U0 (hC 1 VV),(↑VV.nc:Int)=1,QT,6=6,GQ 6 (H0 wl0),4=4,GQ 4 (H0 wl1),1=1,GQ 1 (H0 wl2),1=1,GQ 1 (H0 wl3),42=42,GQ 42 (DN rp0),WG,X5] (need [Q6,WG,QO,Z1,Z2,Z3,Z4,W6,QT,6=6,GQ 6 (H0 wl0),4=4,GQ 4 (H0 wl1),2=2,GQ 2 (H0 wl2),1=1,GQ 1 (H0 wl3),42=42,GQ 42 (DN rp0),WG,X5] (need [Q6,WG,QO,JA=JA,JC=JC,JD=JD,JE=JE,42=42,GQ 42 (DN rp0),WG,X5] (need [Q6,WG,QO,Y1,(↑(4:Nat):Int)=4,QT,4=4,GQ 4 (U6 1 Q7),42=42,GQ 42 (DN rp0),WG,X5] (need [uT 136 (DN rp4),0<136] (leaf (RV.tup [RV.x (.string (bsO 136 (DN rp4))),RV.x (X7)]))))))))))))))))))))))))))))))))))))))))))))))))))))))) VU ?_
 simp only [VN.sat,UB,UY,GL,UE,UJ,VM,FA]
 (with_reducible repeat' first|apply And.intro|intro _)
 all_goals first|exact True.intro|contradiction|omega|exact FQ (by assumption) (by simp [AV.one,Value.oneCell'])|(rename_i i hi;exact Qb6 (by decide+kernel) i hi)|(rename_i i hi;exact ltM VU i hi)|exact bM (by decide+kernel)|exact pN (by decide+kernel)|decide+kernel|with_reducible rfl|rfl|trace_state
def Zb6:HS:=stS VV 1
theorem Xp5:lnE (UN GA 0) VV=9:=by decide+kernel
theorem Xp4:lnE (UN GA 1) VV=10:=by decide+kernel
theorem Xp3:lnE (UN GA 2) VV=9:=by decide+kernel
theorem Xp2:lnE (UN GA 3) VV=0:=by decide+kernel
theorem Zu5:lnE (UN GA 4) Zb6=0:=by decide+kernel
theorem Zu4:F5 (lnW (UN GA 3)) VV=Zb6:=VU
abbrev KB(n:Nat)(a:Nat->Int):AV:=lst 1 n λk=>[iI (a k)]
abbrev KC(m:Nat)(b:Nat->Int):AV:=lst 1 m λk=>[iI (b k)]
section
variable (n m:Nat)(a b:Nat->Int)
def Xa0:St:={σ:=[KB n a,KC m b]++HI 24 [],m:=[],nx:=7}
noncomputable def Jp7:Code:=U9 (VS (U8 Tryz.f25) 0)
def Wg9(k:Nat):St:=(upM [(5,i k)] (Xa0 n m a b))
def v8(k:Nat):G6->Option St
 | .exit 0=>some (upM [] (Xa0 n m a b))
 | .ret=>some (upM [(4,.lit false)] (Xa0 n m a b))
 |_=>none
def Jk8:CT:= .branch (D7 ((λk=>a k==b k)) n) (.leaf (.exit 0,(v8 n m a b 0 (.exit 0)).getD (Xa0 n m a b))) (.leaf (.ret,(v8 n m a b 0 .ret).getD (Xa0 n m a b)))
def Xv3:UG:=(HF (Wg9 n m a b (0)) (Jk8 n m a b))
theorem Jb0(VT:n<=100000)(UI:n=m):G5 VP (.loop Jp7) (Xv3 n m a b):=by
 refine HH (L:=[]) (VL.nil _) VZ U3 (X:=Nat) (Wg9 n m a b) (λk=>k<=n/\ ∀j,j<k->((λk=>a k==b k)) j=true) (λk=>n-k) (v8 n m a b) (x0:=0) ⟨VK,λj hj=>VK⟩ ?_ ?_ ?_
 ·rintro k;kernel_rfl
 ·rintro k y E h;unfold v8 at h;split at h
  ·cases h;kernel_rfl
  ·cases h;kernel_rfl
  ·cases h
 ·rintro Q hQ k hx;refine ⟨(k+1),?_⟩;(with_reducible refine D6 (t:=branch (decide ((k:Int)<(n:Int))) (need [UH k n] (need [UH k m] (branch (a k != b k) (need [U0 (KB n a),U0 (KC m b),WO] (leaf G6.ret)) (need [VM ((k:Int)+1)] (need [U0 (KB n a),U0 (KC m b),(k:Int)+1=(↑(k+1):Int)] (leaf G6.normal)))))) (need [U0 (KB n a),U0 (KC m b)] (leaf (G6.exit 0)))) VU ?_);simp only [Jk8,v8,VN.sat,GS] at hQ;have Wn3:k<n->((λk=>a k==b k)) k=false->D7 ((λk=>a k==b k)) n=false:=by
   intro h1 h2;rw [←Bool.not_eq_true];intro h3;have:=GU.1 h3 k h1;exact Bool.noConfusion (h2.symm.trans this)
  have gA:((λk=>a k==b k)) k=true-> ∀j,j<k+1->((λk=>a k==b k)) j=true:=by
   intro h1 j hj;rcases (show j<k\/j=k by omega) with h|rfl
   ·exact hx.2 j h
   ·exact h1
  have PK: ¬k<n->D7 ((λk=>a k==b k)) n=true:=λh=>GU.2 (λj hj=>hx.2 j VK)
  have hQ1: ∀E,v8 n m a b k .ret=some E->D7 ((λk=>a k==b k)) n=false->Q (.ret,E):=by
   intro E hE hf;cases hE;exact hQ.2 hf
  have hQ2: ∀E,v8 n m a b k (.exit 0)=some E->D7 ((λk=>a k==b k)) n=true->Q (.exit 0,E):=by
   intro E hE hf;cases hE;exact hQ.1 hf
  simp only [VN.sat,UB,UJ,H6,VM,FA]
  all_goals exact V7
theorem We0(VT:n<=100000):VY VP 25 [.lst 1 n (λk=>[i (a k)]),.lst 1 m (λk=>[i (b k)])] (bl (decide (n=m)&&D7 (λk=>a k==b k) n)):=by
 refine U2 (L:=[FR [n<=100000,n=m] (Xv3 n m a b)]) (VL.nil _) VZ Tryz.func25 (UV Tryz.f25) (G7 (lpE (b:= .loop Jp7) VU<|D2 (λh=>Jb0 n m a b h.1 h.2))) (t:=branch ((n:Int) != (m:Int)) (leaf (RV.x (WQ))) (need [n<=100000,n=m] (need [U0 (KB n a),U0 (KC m b),(0:Int)=(↑(0:Nat):Int)] (branch (D7 (λk=>a k==b k) n) (leaf (RV.x (.bool true))) (leaf (RV.x (WQ))))))) VU ?_
 simp only [VN.sat,UB,UY,GL,UE,VM,UJ,H6,FO,bne_iff_ne,ne_eq];refine ⟨λh=>?_,λh=>?_⟩
 ·have:n≠m:=by intro h';subst h';simp at h
  simp [this]
 ·have e:n=m:=by
   rw [bne_eq_false_iff_eq] at h;omega
  subst e;refine ⟨⟨VK,rfl⟩,λh2=>?_,λh2=>?_⟩
  ·simp [h2]
  ·simp [h2]
end
def Qe4:UZ
 |[.lst 1 n f,.lst 1 m g]=>some ([UF 1 n f,UF 1 m g,n<=100000],bl (decide (n=m)&&D7 (λk=>col 0 f k==col 0 g k) n))
 |_=>none
theorem Wd9:VQ VP 25 Qe4:=by
 refine ⟨(UK Tryz.func25),?_⟩;intro avs ns res h hn;unfold Qe4 at h;split at h
 ·rename_i n f m g;cases h;have hr0:UF 1 n f:=hn _ VW;have hr1:UF 1 m g:=hn _ VW;exact (We0 n m (col 0 f) (col 0 g) (hn _ VW)).same (.cons (.lst 1 n _ _ hr0) (.cons (.lst 1 m _ _ hr1) .nil))
 ·cases h
def Wu9:UZ
 |[.x (.slice none 0 0)]=>some ([],lns 11 (UN U7))
 |[.lst 1 n f]=>some ([n=5,∀k,k<n->f k=[.x (.string (UN GA k))]],lns 16 (UN (U7++GA)))
 |_=>none
theorem Jb2{P:Nat->Prop}(h0:P 0)(h1:P 1)(h2:P 2)(h3:P 3)(h4:P 4)(h5:P 5)(h6:P 6)(h7:P 7)(h8:P 8)(h9:P 9)(h10:P 10): ∀i,i<11->P i:=by
 intro i hi
 match i,hi with
 | 0,_=>exact h0
 | 1,_=>exact h1
 | 2,_=>exact h2
 | 3,_=>exact h3
 | 4,_=>exact h4
 | 5,_=>exact h5
 | 6,_=>exact h6
 | 7,_=>exact h7
 | 8,_=>exact h8
 | 9,_=>exact h9
 | 10,_=>exact h10
 |i+11,h=>exact absurd h VK
theorem Xr1{P:Nat->Prop}(h0:P 0)(h1:P 1)(h2:P 2)(h3:P 3)(h4:P 4)(h5:P 5)(h6:P 6)(h7:P 7)(h8:P 8)(h9:P 9)(h10:P 10)(h11:P 11)(h12:P 12)(h13:P 13)(h14:P 14)(h15:P 15): ∀i,i<16->P i:=by
 intro i hi
 match i,hi with
 | 0,_=>exact h0
 | 1,_=>exact h1
 | 2,_=>exact h2
 | 3,_=>exact h3
 | 4,_=>exact h4
 | 5,_=>exact h5
 | 6,_=>exact h6
 | 7,_=>exact h7
 | 8,_=>exact h8
 | 9,_=>exact h9
 | 10,_=>exact h10
 | 11,_=>exact h11
 | 12,_=>exact h12
 | 13,_=>exact h13
 | 14,_=>exact h14
 | 15,_=>exact h15
 |i+16,h=>exact absurd h VK
abbrev JF:AV:=AV.x (.string {data:=#[(98:UInt8),(97:UInt8),(116:UInt8),(104:UInt8),(32:UInt8),(49:UInt8),(48:UInt8),(48:UInt8),(32:UInt8),(51:UInt8),(48:UInt8),(48:UInt8)] })
abbrev QI:List AV:=[AV.x (.string {data:=#[(116:UInt8),(104:UInt8),(114:UInt8),(101:UInt8),(97:UInt8),(100:UInt8),(32:UInt8),(48:UInt8),(32:UInt8),(49:UInt8),(32:UInt8),(52:UInt8),(48:UInt8),(32:UInt8),(52:UInt8),(48:UInt8)] }),AV.x (.string {data:=#[(116:UInt8),(104:UInt8),(114:UInt8),(101:UInt8),(97:UInt8),(100:UInt8),(32:UInt8),(50:UInt8),(32:UInt8),(51:UInt8),(32:UInt8),(52:UInt8),(56:UInt8),(32:UInt8),(53:UInt8),(48:UInt8)] }),AV.x (.string {data:=#[(105:UInt8),(115:UInt8),(115:UInt8),(117:UInt8),(101:UInt8),(32:UInt8),(48:UInt8),(32:UInt8),(52:UInt8),(32:UInt8),(57:UInt8),(48:UInt8),(32:UInt8),(48:UInt8)] }),JF,AV.x (.string {data:=#[(115:UInt8),(101:UInt8),(101:UInt8),(32:UInt8),(48:UInt8),(32:UInt8),(50:UInt8),(48:UInt8),(48:UInt8)] }),AV.x (.string {data:=#[(115:UInt8),(101:UInt8),(101:UInt8),(32:UInt8),(49:UInt8),(32:UInt8),(50:UInt8),(48:UInt8),(51:UInt8)] }),JF,AV.x (.string {data:=#[(115:UInt8),(101:UInt8),(101:UInt8),(32:UInt8),(49:UInt8),(32:UInt8),(50:UInt8),(53:UInt8),(50:UInt8)] }),AV.x (.string {data:=#[(115:UInt8),(101:UInt8),(101:UInt8),(32:UInt8),(50:UInt8),(32:UInt8),(50:UInt8),(53:UInt8),(48:UInt8)] }),AV.x (.string {data:=#[(115:UInt8),(101:UInt8),(108:UInt8),(108:UInt8),(32:UInt8),(48:UInt8),(32:UInt8),(49:UInt8),(32:UInt8),(54:UInt8),(32:UInt8),(49:UInt8),(32:UInt8),(51:UInt8)] }),AV.x (.string {data:=#[(115:UInt8),(101:UInt8),(108:UInt8),(108:UInt8),(32:UInt8),(49:UInt8),(32:UInt8),(50:UInt8),(32:UInt8),(52:UInt8),(32:UInt8),(50:UInt8),(32:UInt8),(50:UInt8)] })]
theorem Qw1:VY VP 20 [.x (.slice none 0 0)] (lns 11 (UN U7)):=by
 refine GW Tryz.func20 (t:=need [176<=140737488355328,∀(i:Nat),i<0-> ∀(a:AV),a∈[]->AV.one a=true] (leaf (RV.lst 1 11 (GI 11 (U6 1 QI) λx=>[])))) VU ?_
 simp only [VN.sat,UB,UY,GL,UE,UJ]
 (with_reducible repeat' first|apply And.intro|intro _)
 all_goals first|exact True.intro|contradiction|omega|exact FQ (by assumption) (by simp [AV.one,Value.oneCell'])|(rename_i ha;rw [BE.1 ha];first|exact True.intro|rfl)|(rename_i i hi;revert i;refine Jb2 ?_ ?_ ?_ ?_ ?_ ?_ ?_ ?_ ?_ ?_ ?_<;>(show _=_;kernel_rfl))|decide|rfl|trace_state
theorem Qw0:VY VP 20 [.lst 1 5 (λk=>[.x (.string (UN GA k))])] (lns 16 (UN (U7++GA))):=by
 refine GW Tryz.func20 (t:=need [256<=140737488355328,∀(i:Nat),i<5-> ∀(a:AV),a∈[DX (UN GA i)]->AV.one a=true] (leaf (RV.lst 1 16 (GI 11 (U6 1 QI) λk=>[DX (UN GA k)])))) VU ?_
 simp only [VN.sat,UB,UY,GL,UE,UJ]
 (with_reducible repeat' first|apply And.intro|intro _)
 all_goals first|exact True.intro|contradiction|omega|exact FQ (by assumption) (by simp [AV.one,Value.oneCell'])|(rename_i ha;rw [BE.1 ha];first|exact True.intro|rfl)|(rename_i i hi;revert i;refine Xr1 ?_ ?_ ?_ ?_ ?_ ?_ ?_ ?_ ?_ ?_ ?_ ?_ ?_ ?_ ?_ ?_<;>(show _=_;kernel_rfl))|decide|rfl|trace_state
theorem Xb3:VQ VP 20 Wu9:=by
 refine ⟨(UK Tryz.func20),?_⟩;intro avs ns res h hn;unfold Wu9 at h;split at h
 ·cases h;exact Qw1
 ·rename_i n f;cases h;obtain rfl:n=5:=hn _ VW;have h2: ∀k,k<5->f k=[.x (.string (UN GA k))]:=hn (∀k,k<5->f k=[.x (.string (UN GA k))]) VW;exact Qw0.same (.cons (.lst 1 5 f _ h2) .nil)
 ·cases h
theorem Xn9:sK (UN (U7++GA)) 0=hs0:=rfl
theorem Xn8:sK (UN (U7++GA)) 1=wk1:=by
 show lnS (UN U7 0) (sK (UN (U7++GA)) 0)=_;rw [Xn9];unfold lnS;rw [if_pos Qv7];exact Xo9
theorem Xn7:sK (UN (U7++GA)) 2=wk2:=by
 show lnS (UN U7 1) (sK (UN (U7++GA)) 1)=_;rw [Xn8];unfold lnS;rw [if_pos Qv6];exact Xo8
theorem Xn6:sK (UN (U7++GA)) 3=wk3:=by
 show lnS (UN U7 2) (sK (UN (U7++GA)) 2)=_;rw [Xn7];unfold lnS;rw [if_pos Qv5];exact Xo7
theorem Xn5:sK (UN (U7++GA)) 4=wk4:=by
 show lnS (UN U7 3) (sK (UN (U7++GA)) 3)=_;rw [Xn6];unfold lnS;rw [if_pos Qv4];exact Xo6
theorem Xn4:sK (UN (U7++GA)) 5=wk5:=by
 show lnS (UN U7 4) (sK (UN (U7++GA)) 4)=_;rw [Xn5];unfold lnS;rw [if_pos Qv3];exact Xo5
theorem Xn3:sK (UN (U7++GA)) 6=wk6:=by
 show lnS (UN U7 5) (sK (UN (U7++GA)) 5)=_;rw [Xn4];unfold lnS;rw [if_pos Qv2];exact Xo4
theorem Xn2:sK (UN (U7++GA)) 7=wk7:=by
 show lnS (UN U7 6) (sK (UN (U7++GA)) 6)=_;rw [Xn3];unfold lnS;rw [if_pos Qv1];exact Xo3
theorem Xn1:sK (UN (U7++GA)) 8=wk8:=by
 show lnS (UN U7 7) (sK (UN (U7++GA)) 7)=_;rw [Xn2];unfold lnS;rw [if_pos Qv0];exact Xo2
theorem Xn0:sK (UN (U7++GA)) 9=wk9:=by
 show lnS (UN U7 8) (sK (UN (U7++GA)) 8)=_;rw [Xn1];unfold lnS;rw [if_pos Qu9];exact Xo1
theorem Qt7:sK (UN (U7++GA)) 10=Qi5:=by
 show lnS (UN U7 9) (sK (UN (U7++GA)) 9)=_;rw [Xn0];unfold lnS;rw [if_pos Qu8];exact Xo0
theorem Qt6:sK (UN (U7++GA)) 11=VV:=by
 show lnS (UN U7 10) (sK (UN (U7++GA)) 10)=_;rw [Qt7];unfold lnS;rw [if_pos mO];exact Qu0
theorem Qt5:sK (UN (U7++GA)) 12=VV:=by
 show lnS (UN GA 0) (sK (UN (U7++GA)) 11)=_;rw [Qt6];unfold lnS;rw [if_neg (by rw [Xp5];decide)]
theorem Qt4:sK (UN (U7++GA)) 13=VV:=by
 show lnS (UN GA 1) (sK (UN (U7++GA)) 12)=_;rw [Qt5];unfold lnS;rw [if_neg (by rw [Xp4];decide)]
theorem Qt3:sK (UN (U7++GA)) 14=VV:=by
 show lnS (UN GA 2) (sK (UN (U7++GA)) 13)=_;rw [Qt4];unfold lnS;rw [if_neg (by rw [Xp3];decide)]
theorem Xy9:sK (UN (U7++GA)) 15=Zb6:=by
 show lnS (UN GA 3) (sK (UN (U7++GA)) 14)=_;rw [Qt3];unfold lnS;rw [if_pos Xp2];exact Zu4
theorem Zu2:eK (UN (U7++GA)) 0=0:=by
 show lnE (UN U7 0) (sK (UN (U7++GA)) 0)=_;rw [Xn9];exact Qv7
theorem Zu1:eK (UN (U7++GA)) 1=0:=by
 show lnE (UN U7 1) (sK (UN (U7++GA)) 1)=_;rw [Xn8];exact Qv6
theorem Zu0:eK (UN (U7++GA)) 2=0:=by
 show lnE (UN U7 2) (sK (UN (U7++GA)) 2)=_;rw [Xn7];exact Qv5
theorem Zt9:eK (UN (U7++GA)) 3=0:=by
 show lnE (UN U7 3) (sK (UN (U7++GA)) 3)=_;rw [Xn6];exact Qv4
theorem Zt8:eK (UN (U7++GA)) 4=0:=by
 show lnE (UN U7 4) (sK (UN (U7++GA)) 4)=_;rw [Xn5];exact Qv3
theorem Zt7:eK (UN (U7++GA)) 5=0:=by
 show lnE (UN U7 5) (sK (UN (U7++GA)) 5)=_;rw [Xn4];exact Qv2
theorem Zt6:eK (UN (U7++GA)) 6=0:=by
 show lnE (UN U7 6) (sK (UN (U7++GA)) 6)=_;rw [Xn3];exact Qv1
theorem Zt5:eK (UN (U7++GA)) 7=0:=by
 show lnE (UN U7 7) (sK (UN (U7++GA)) 7)=_;rw [Xn2];exact Qv0
theorem Zt4:eK (UN (U7++GA)) 8=0:=by
 show lnE (UN U7 8) (sK (UN (U7++GA)) 8)=_;rw [Xn1];exact Qu9
theorem Zt3:eK (UN (U7++GA)) 9=0:=by
 show lnE (UN U7 9) (sK (UN (U7++GA)) 9)=_;rw [Xn0];exact Qu8
theorem Xz5:eK (UN (U7++GA)) 10=0:=by
 show lnE (UN U7 10) (sK (UN (U7++GA)) 10)=_;rw [Qt7];exact mO
theorem Xz4:eK (UN (U7++GA)) 11=9:=by
 show lnE (UN GA 0) (sK (UN (U7++GA)) 11)=_;rw [Qt6];exact Xp5
theorem Xz3:eK (UN (U7++GA)) 12=10:=by
 show lnE (UN GA 1) (sK (UN (U7++GA)) 12)=_;rw [Qt5];exact Xp4
theorem Xz2:eK (UN (U7++GA)) 13=9:=by
 show lnE (UN GA 2) (sK (UN (U7++GA)) 13)=_;rw [Qt4];exact Xp3
theorem Xz1:eK (UN (U7++GA)) 14=0:=by
 show lnE (UN GA 3) (sK (UN (U7++GA)) 14)=_;rw [Qt3];exact Xp2
theorem Xz0:eK (UN (U7++GA)) 15=0:=by
 show lnE (UN GA 4) (sK (UN (U7++GA)) 15)=_;rw [Xy9];exact Zu5
def wrB:ByteArray:=⟨#[91,48,48,49,58,48,48,50,50,51,93,97,10]⟩
def lnA(_:Nat):ByteArray:=⟨#[97]⟩
def Xl7(s:HS):DG:=λl=>some (.need [l=[lns 16 (UN (U7++GA))]] (.leaf (.tup [.agg (hsL s),.lst 1 16 (λj=>[i (UA [0,0,0,0,0,0,0,0,0,0,0,9,10,9,0,0] j)]),i 0])))
def Zn7:DG:=λl=>some (.need [l=[lns 11 (UN U7)]] (.leaf (.tup [.lst 2 3 (λk=>[i (UA [0,1,-3] k),i (UA [0,5,5] k)]),i 0])))
def Zn4:DG:=λl=>some (.need [l=[lns 11 (UN U7),i 0]] (.leaf (.tup [.lst 1 1 (λk=>[i (UA [0] k)]),i 0])))
def Zn6:DG:=λl=>some (.need [l=[lns 11 (UN U7),i 1]] (.leaf (.tup [.lst 1 2 (λk=>[i (UA [0,1] k)]),.lst 1 1 (λk=>[i (UA [0] k)]),i 0])))
def Zn5:UZ:=λl=>some ([l=[lns 11 (UN U7)]],.tup [.x (.string Zf4),i 0])
def Ww2:DG:=λl=>match l with
 |[.lst 1 n f]=>some (.need [n=1,f 0=[.x (.string (lnA 0))]] (.leaf (.tup [.lst 1 13 (DN wrB),i 0])))
 |_=>none
theorem qQ{P:Program}{f:FuncId}{avs:List AV}{t sp:VN AV}(h:UO P f avs t)(hm: ∀Q:AV->Prop,sp.sat Q->t.sat (λr=> ∃r',FF r r'/\Q r')):UO P f avs sp:=by
 intro Q hQ e w args q1 q2 q3 q4;refine (h _ (hm Q hQ) e w args q1 q2 q3 q4).mono ?_;rintro en w' ⟨v,r,rfl,⟨r',g1,g2⟩,g3,g4⟩;exact ⟨v,r',rfl,g2,g3,RY g1 g4⟩
theorem Zu3:ckE 16 (UN (U7++GA))=0:=by decide+kernel
theorem Qw3(s:HS)(hs:s=sK (UN (U7++GA)) 16):Sx.Enters Tryz.prog 19/\ ∀avs t,Xl7 s avs=some t->UO VP 19 avs t:=by
 refine ⟨(UK Tryz.func19),?_⟩;intro avs t h;cases h;intro Q hQ;have e:avs=[lns 16 (UN (U7++GA))]:=hQ.1;subst e;have h1:=iG 16 (UN (U7++GA)) VK;refine qQ h1 (sp:= .leaf (.tup [.agg (hsL s),.lst 1 16 (λj=>[i (UA [0,0,0,0,0,0,0,0,0,0,0,9,10,9,0,0] j)]),i 0])) (λQ hq=>⟨λh=>?_,λ_=>?_⟩) Q hQ.2
 ·rw [Zu3] at h;exact absurd h (by decide)
 ·refine ⟨.tup [.agg (hsL s),.lst 1 16 (λj=>[i (UA [0,0,0,0,0,0,0,0,0,0,0,9,10,9,0,0] j)]),i 0],⟨?_,⟨rfl,rfl,λk hk=>?_⟩,⟨rfl,rfl⟩,True.intro⟩,hq⟩
  ·rw [hs];exact A0 _
  ·revert k;refine Xr1 (congrArg (λz=>[i z]) Zu2) (congrArg (λz=>[i z]) Zu1) (congrArg (λz=>[i z]) Zu0) (congrArg (λz=>[i z]) Zt9) (congrArg (λz=>[i z]) Zt8) (congrArg (λz=>[i z]) Zt7) (congrArg (λz=>[i z]) Zt6) (congrArg (λz=>[i z]) Zt5) (congrArg (λz=>[i z]) Zt4) (congrArg (λz=>[i z]) Zt3) (congrArg (λz=>[i z]) Xz5) (congrArg (λz=>[i z]) Xz4) (congrArg (λz=>[i z]) Xz3) (congrArg (λz=>[i z]) Xz2) (congrArg (λz=>[i z]) Xz1) (congrArg (λz=>[i z]) Xz0)
theorem Xb8:Sx.Enters Tryz.prog 21/\ ∀avs t,Zn7 avs=some t->UO VP 21 avs t:=by
 refine ⟨(UK Tryz.func21),?_⟩;intro avs t h;cases h;intro Q hQ;have e:avs=[lns 11 (UN U7)]:=hQ.1;subst e;have h1:=iH 11 (UN U7) VK;rw [AA] at h1;refine qQ h1 (sp:= .leaf (.tup [.lst 2 3 (λk=>[i (UA [0,1,-3] k),i (UA [0,5,5] k)]),i 0])) (λQ hq=>⟨λh=>?_,λ_=>?_⟩) Q hQ.2
 ·rw [bG] at h;exact absurd h (by decide)
 ·refine ⟨.tup [.lst 2 3 (λk=>[i (UA [0,1,-3] k),i (UA [0,5,5] k)]),i 0],⟨⟨rfl,Xp0,λk hk=>?_⟩,(show FF (i _) (i 0) by rw [Xp1];exact ⟨rfl,rfl⟩),True.intro⟩,hq⟩
  rcases (show k=0\/k=1\/k=2 by omega) with rfl|rfl|rfl
  ·show [i _,i _]=_;rw [Qu3,Qu6];rfl
  ·show [i _,i _]=_;rw [Qu2,Qu5];rfl
  ·show [i _,i _]=_;rw [Qu1,Qu4];rfl
theorem Xb5:Sx.Enters Tryz.prog 22/\ ∀avs t,Zn4 avs=some t->UO VP 22 avs t:=by
 refine ⟨(UK Tryz.func22),?_⟩;intro avs t h;cases h;intro Q hQ;have e:avs=[lns 11 (UN U7),i 0]:=hQ.1;subst e;have h1:=TR 11 (UN U7) 0 VK;rw [AA] at h1;have hn:VV.nc=1:=VU;have hc:G9 (stP VV 0) 1=1:=by rw [DA Qt9];rfl
 refine qQ h1 (sp:= .leaf (.tup [.lst 1 1 (λk=>[i (UA [0] k)]),i 0])) (λQ hq=>⟨λh=>?_,λ_=>⟨λh=>absurd h (by decide),λ_=>?_⟩⟩) Q hQ.2
 ·rw [bG] at h;exact absurd h (by decide)
 ·refine ⟨.tup [.lst 1 1 (λk=>[i (UA [0] k)]),i 0],⟨⟨rfl,by rw [hn];exact hc,λk hk=>?_⟩,⟨rfl,rfl⟩,True.intro⟩,hq⟩
  obtain rfl:k=0:=VK;have h2:=P7 (show 0<VV.nc by rw [hn];omega) Qt9
  have h3:G9 (stP VV 0) 0=0:=rfl;rw [h3] at h2;show [i _]=_;rw [h2];rfl
theorem Xb7:Sx.Enters Tryz.prog 23/\ ∀avs t,Zn6 avs=some t->UO VP 23 avs t:=by
 refine ⟨(UK Tryz.func23),?_⟩;intro avs t h;cases h;intro Q hQ;have e:avs=[lns 11 (UN U7),i 1]:=hQ.1;subst e;have h1:=Qo8 11 (UN U7) 1 VK;rw [AA] at h1;have c0:G9 (caB VV.ns VV.sa VV.sb VV.sc VV.sl VV.sh 1) 0=0:=rfl;have c1:G9 (caB VV.ns VV.sa VV.sb VV.sc VV.sl VV.sh 1) 1=1:=by rw [DA Qv9,c0]
 have c2:G9 (caB VV.ns VV.sa VV.sb VV.sc VV.sl VV.sh 1) 2=2:=by rw [DA Qv8,c1]
 have c3:G9 (caB VV.ns VV.sa VV.sb VV.sc VV.sl VV.sh 1) 3=2:=by rw [FN Zb5,c2]
 have c4:G9 (caB VV.ns VV.sa VV.sb VV.sc VV.sl VV.sh 1) 4=2:=by rw [FN Zb4,c3]
 have d0:G9 (suB VV.ns VV.sa VV.sb VV.sc VV.sl VV.sh 1) 0=0:=rfl;have d1:G9 (suB VV.ns VV.sa VV.sb VV.sc VV.sl VV.sh 1) 1=1:=by rw [DA Qt8,d0]
 have d2:G9 (suB VV.ns VV.sa VV.sb VV.sc VV.sl VV.sh 1) 2=1:=by rw [FN Xz8,d1]
 have d3:G9 (suB VV.ns VV.sa VV.sb VV.sc VV.sl VV.sh 1) 3=1:=by rw [FN Xz7,d2]
 have d4:G9 (suB VV.ns VV.sa VV.sb VV.sc VV.sl VV.sh 1) 4=1:=by rw [FN Xz6,d3]
 have e0:=P7 (show 0<4 by omega) Qv9
 have e1:=P7 (show 1<4 by omega) Qv8
 have f0:=P7 (show 0<4 by omega) Qt8
 rw [c0] at e0;rw [c1] at e1;rw [d0] at f0;refine qQ h1 (sp:= .leaf (.tup [.lst 1 2 (λk=>[i (UA [0,1] k)]),.lst 1 1 (λk=>[i (UA [0] k)]),i 0])) (λQ hq=>⟨λh=>?_,λ_=>⟨λh=>absurd h (by decide),λ_=>⟨λh=>?_,λ_=>?_⟩⟩⟩) Q hQ.2
 ·rw [bG] at h;exact absurd h (by decide)
 ·rw [Qu7] at h;exact Bool.noConfusion h
 ·refine ⟨.tup [.lst 1 2 (λk=>[i (UA [0,1] k)]),.lst 1 1 (λk=>[i (UA [0] k)]),i 0],⟨⟨rfl,c4,λk hk=>?_⟩,⟨rfl,d4,λk hk=>?_⟩,⟨rfl,rfl⟩,True.intro⟩,hq⟩
  ·rcases (show k=0\/k=1 by omega) with rfl|rfl
   ·show [i _]=_;rw [e0];rfl
   ·show [i _]=_;rw [e1];rfl
  ·obtain rfl:k=0:=VK;show [i _]=_;rw [f0];rfl
theorem Xb6:VQ VP 24 Zn5:=by
 refine ⟨(UK Tryz.func24),?_⟩;intro avs ns res h hn;cases h;have e:avs=[lns 11 (UN U7)]:=hn _ GF;subst e;exact iF
theorem Xb4:Sx.Enters Tryz.prog 13/\ ∀avs t,Ww2 avs=some t->UO VP 13 avs t:=by
 refine ⟨(UK Tryz.func13),?_⟩;intro avs t h;unfold Ww2 at h;split at h
 ·rename_i n f;cases h;intro Q hQ;obtain rfl:n=1:=hQ.1.1;have h2:f 0=[.x (.string (lnA 0))]:=hQ.1.2;have h1:=Qo7 1 lnA VK;have hb:flB lnA 1=wrB:=by decide+kernel
  rw [hb] at h1;have h3:UO VP 13 [.lst 1 1 f] (.leaf (.tup [.lst 1 13 (DN wrB),i 0])):=by
   intro Q hq e w args q1 q2 q3 q4;refine h1 Q ⟨λh=>?_,λ_=>hq⟩ e w args q1 q2 ?_ ?_
   ·rw [show ckE 1 lnA=0 by decide+kernel] at h
    exact absurd h (by decide)
   ·intro a ha;rw [BE.1 ha];exact .lst _ _ _ λk _ x hx=>by rw [BE.1 hx];exact .x _
   ·obtain ⟨u,us,rfl,r1,r2⟩:=q4.cons_inv;refine .cons (RY (a:= .lst 1 1 f) ⟨rfl,rfl,λk hk=>?_⟩ r1) r2
    obtain rfl:k=0:=VK;exact h2
  exact h3 Q hQ.2
 ·cases h
theorem Zh9{a b:ByteArray}(h:(a.toList==b.toList)=false)(e:a=b):False:=by
 subst e;simp at h
abbrev WJ:List Int:=[(0:Int),0,0,0,0,0,0,0,0,0,0,(9:Int),(10:Int),(9:Int),(0:Int),(0:Int)]
abbrev JG:List AV:=[lst 1 11 λk=>[DX (UN U7 k)],iI 0]
abbrev JH:List AV:=[lst 1 11 λk=>[DX (UN U7 k)],iI 1]
abbrev JJ:List AV:=[lst 1 16 λk=>[DX (UN (U7++GA) k)]]
theorem Qi7(s:HS)(VT:s=sK (UN (U7++GA)) 16):VY VP 8 [] (bl true):=by
 refine GB (L:=[]) (VL.cons Xb3 (VL.cons Wd9 (VL.cons Xb6 (VL.nil _)))) (VX.ofC (VR.nil _) (VO.nil _) (UC.cons (Qw3 s VT) (UC.cons Xb8 (UC.cons Xb5 (UC.cons Xb7 (UC.cons Xb4 (UC.nil _))))))) VZ Tryz.func8 (UV Tryz.f8) G8 (t:=let z0:=(U6 1 [iI 0,iI 1]);let z1:=(U6 1 [iI 0]);(need [5=5,GV 5 (U6 1 [AV.x (.string {data:=#[116,104,114,101,97,100,32,48,32,50,32,52,48,32,52,48] }),AV.x (.string {data:=#[105,115,115,117,101,32,48,32,52,32,56,48,32,48] }),AV.x (.string {data:=#[115,101,101,32,48,32,49,48,48] }),AV.x (.string {data:=#[115,116,114,105,107,101,32,49] }),AV.x (.string {data:=#[118,111,105,100,32,48] })]) (λk=>[DX (UN GA k)])] (need [JJ=JJ] (need [WP=WP] (need [JG=JG] (need [JH=JH] (need [WP=WP] (need [1=1,[AV.x (.string {data:=#[97] })]=[DX (lnA 0)]] (branch ((0:Int)==0) (branch ((↑(16:Nat):Int)==16) (need [UH 10 16] (branch (UA WJ (10:Int).toNat==0) (need [UH 11 16] (branch (UA WJ (11:Int).toNat==9) (need [UH 12 16] (branch (UA WJ (12:Int).toNat==10) (need [UH 13 16] (branch (UA WJ (13:Int).toNat==9) (need [UH 14 16] (branch (UA WJ (14:Int).toNat==0) (need [UH 15 16] (branch (UA WJ (15:Int).toNat==0) (branch ((0:Int)==0) (branch ((↑(3:Nat):Int)==3) (need [UH 1 3] (branch (UA WZ (1:Int).toNat==1&&(UA Z9 (1:Int).toNat==5&&true)) (need [UH 2 3] (branch (UA WZ (2:Int).toNat==(-3:Int)&&(UA Z9 (2:Int).toNat==5&&true)) (branch ((0:Int)==0) (need [UF 1 1 λk=>[i (UA [(0:Int)] k)],UF 1 1 z1,1<=100000] (branch (decide (1=1)&&(true&&UA [(0:Int)] (nat_lit 0)==col 0 z1 (nat_lit 0))) (branch ((0:Int)==0) (need [UF 1 2 λk=>[i (UA [(0:Int),1] k)],UF 1 2 z0,2<=100000] (branch (decide (2=2)&&(true&&UA [(0:Int),1] (nat_lit 0)==col 0 z0 (nat_lit 0)&&UA [(0:Int),1] (nat_lit 1)==col 0 z0 (nat_lit 1))) (need [UF 1 1 λk=>[i (UA [(0:Int)] k)],UF 1 1 z1,1<=100000] (branch (decide (1=1)&&(true&&UA [(0:Int)] (nat_lit 0)==col 0 z1 (nat_lit 0))) (branch ((0:Int)==0) (branch (ByteArray.toList Zf4==ByteArray.toList {data:=List.toArray (List.append (List.append [(114:UInt8),(101:UInt8),(97:UInt8),(100:UInt8),(105:UInt8),(110:UInt8),(103:UInt8),(115:UInt8),(32:UInt8),(50:UInt8),(32:UInt8),(98:UInt8),(97:UInt8),(116:UInt8),(104:UInt8),(115:UInt8),(32:UInt8),(50:UInt8),(32:UInt8),(99:UInt8),(101:UInt8),(114:UInt8),(116:UInt8),(105:UInt8),(102:UInt8),(105:UInt8),(99:UInt8),(97:UInt8),(116:UInt8),(101:UInt8),(115:UInt8),(32:UInt8),(49:UInt8),(32:UInt8)] [(115:UInt8),(97:UInt8),(108:UInt8),(101:UInt8),(115:UInt8),(32:UInt8),(50:UInt8),(10:UInt8),(109:UInt8),(97:UInt8),(114:UInt8),(107:UInt8),(115:UInt8),(32:UInt8),(48:UInt8),(46:UInt8),(46:UInt8),(48:UInt8),(32:UInt8),(50:UInt8),(48:UInt8),(48:UInt8),(46:UInt8),(46:UInt8),(51:UInt8),(48:UInt8),(48:UInt8),(32:UInt8),(52:UInt8),(49:UInt8),(48:UInt8),(46:UInt8),(46:UInt8),(53:UInt8)]) (List.append [(49:UInt8),(48:UInt8),(32:UInt8),(55:UInt8),(48:UInt8),(48:UInt8),(46:UInt8),(46:UInt8),(56:UInt8),(48:UInt8),(48:UInt8),(32:UInt8),(49:UInt8),(48:UInt8),(48:UInt8),(48:UInt8),(46:UInt8),(46:UInt8),(49:UInt8),(48:UInt8),(48:UInt8),(48:UInt8),(10:UInt8),(111:UInt8),(102:UInt8),(102:UInt8),(115:UInt8),(101:UInt8),(116:UInt8),(115:UInt8),(32:UInt8),(48:UInt8),(46:UInt8),(46:UInt8)] [(48:UInt8),(32:UInt8),(49:UInt8),(46:UInt8),(46:UInt8),(53:UInt8),(32:UInt8),(45:UInt8),(51:UInt8),(46:UInt8),(46:UInt8),(53:UInt8),(10:UInt8),(115:UInt8),(116:UInt8),(97:UInt8),(110:UInt8),(100:UInt8),(32:UInt8),(48:UInt8),(10:UInt8),(104:UInt8),(111:UInt8),(108:UInt8),(100:UInt8),(32:UInt8),(52:UInt8),(32:UInt8),(50:UInt8),(32:UInt8),(52:UInt8),(32:UInt8),(48:UInt8),(10:UInt8)])) }) (branch ((0:Int)==0) (need [uT 13 (DN wrB)] (leaf (RV.x (.bool (ByteArray.toList (bsO 13 (DN wrB))==ByteArray.toList {data:=#[91,48,48,49,58,48,48,50,50,51,93,97,10] }))))) (leaf (RV.x (WQ)))) (leaf (RV.x (WQ)))) (leaf (RV.x (WQ)))) (leaf (RV.x (WQ))))) (leaf (RV.x (WQ))))) (leaf (RV.x (WQ)))) (leaf (RV.x (WQ))))) (leaf (RV.x (WQ)))) (leaf (RV.x (WQ))))) (leaf (RV.x (WQ))))) (leaf (RV.x (WQ)))) (leaf (RV.x (WQ)))) (leaf (RV.x (WQ))))) (leaf (RV.x (WQ))))) (leaf (RV.x (WQ))))) (leaf (RV.x (WQ))))) (leaf (RV.x (WQ))))) (leaf (RV.x (WQ))))) (leaf (RV.x (WQ)))) (leaf (RV.x (WQ)))))))))))) VU ?_
 have hw:bsO 13 (DN wrB)=wrB:=Zm8 wrB;simp only [VN.sat,UB,UY,GL,UE,UJ,VM,hw]
 (with_reducible repeat' first|apply And.intro|intro _)
 all_goals first|exact True.intro|contradiction|(rename_i h;exact (Zh9 h VU).elim)|omega|exact pN (by decide+kernel)|(intro k hk;exact ltM VU k hk)|(rename_i k hk;exact ltM VU k hk)|(rename_i k hk;revert k;refine ltM ?_;kernel_rfl)|(intro k hk;revert k;refine ltM ?_;kernel_rfl)|decide|decide+kernel|rfl
def Qd7:UZ
 |[]=>some ([],bl true)
 |_=>none
theorem Qw2:VQ VP 8 Qd7:=by
 refine ⟨(UK Tryz.func8),?_⟩;intro avs ns res h hn;unfold Qd7 at h;split at h
 ·cases h;exact Qi7 _ rfl
 ·cases h
section
variable (n:Nat)(L:Nat->ByteArray)
def thA:Bool:=D7 (λk=>decide (((L k).size:Int)<=210)) (min n 56)
def thB:Bool:=thA n L&&decide ((n:Int)<=55)
def rgB:Bool:=D7 (λk=>decide (((L k).size:Int)<=200)) n&&decide ((n:Int)<=50)
def rdB(most:Int):Bool:=thB n L&&(rgB n L&&decide ((n:Int)<=most))
def Wz4:St:={σ:=[Q8 n L]++HI 22 [],m:=[],nx:=2}
noncomputable def Jo4:Code:=U9 (VS (U8 Tryz.f17) 0)
def Wf4(k:Nat):St:=(upM [(3,i k)] (Wz4 n L))
def yZ(k:Nat):G6->Option St
 | .exit 0=>some (upM [] (Wz4 n L))
 | .ret=>some (upM [(2,.lit false)] (Wz4 n L))
 |_=>none
def Jj2:CT:= .branch (D7 ((λk=>decide (((L k).size:Int)<=210))) (min n 56)) (.leaf (.exit 0,(yZ n L 0 (.exit 0)).getD (Wz4 n L))) (.leaf (.ret,(yZ n L 0 .ret).getD (Wz4 n L)))
def Xt6:UG:=(HF (Wf4 n L (0)) (Jj2 n L))
theorem Zw4(VT:(min n 56)<=100000):G5 VP (.loop Jo4) (Xt6 n L):=by
 refine HH (L:=[]) (VL.nil _) VZ U3 (X:=Nat) (Wf4 n L) (λk=>k<=(min n 56)/\ ∀j,j<k->((λk=>decide (((L k).size:Int)<=210))) j=true) (λk=>(min n 56)-k) (yZ n L) (x0:=0) ⟨VK,λj hj=>VK⟩ ?_ ?_ ?_
 ·rintro k;kernel_rfl
 ·rintro k y E h;unfold yZ at h;split at h
  ·cases h;kernel_rfl
  ·cases h;kernel_rfl
  ·cases h
 ·rintro Q hQ k hx;refine ⟨(k+1),?_⟩;(with_reducible refine D6 (t:=let z0:=(need [U0 (Q8 n L)] (leaf (G6.exit 0)));(branch (decide ((k:Int)<(n:Int))) (branch (decide ((k:Int)<56)) (need [UH k n] (branch (decide ((↑(ByteArray.size (L k)):Int)>210)) (need [U0 (Q8 n L),WO] (leaf G6.ret)) (need [VM ((k:Int)+1)] (need [U0 (Q8 n L),(k:Int)+1=(↑(k+1):Int)] (leaf G6.normal))))) z0) z0)) VU ?_);simp only [Jj2,yZ,VN.sat,GS] at hQ;have Wn3:k<(min n 56)->((λk=>decide (((L k).size:Int)<=210))) k=false->D7 ((λk=>decide (((L k).size:Int)<=210))) (min n 56)=false:=by
   intro h1 h2;rw [←Bool.not_eq_true];intro h3;have:=GU.1 h3 k h1;exact Bool.noConfusion (h2.symm.trans this)
  have gA:((λk=>decide (((L k).size:Int)<=210))) k=true-> ∀j,j<k+1->((λk=>decide (((L k).size:Int)<=210))) j=true:=by
   intro h1 j hj;rcases (show j<k\/j=k by omega) with h|rfl
   ·exact hx.2 j h
   ·exact h1
  have PK: ¬k<(min n 56)->D7 ((λk=>decide (((L k).size:Int)<=210))) (min n 56)=true:=λh=>GU.2 (λj hj=>hx.2 j VK)
  have hQ1: ∀E,yZ n L k .ret=some E->D7 ((λk=>decide (((L k).size:Int)<=210))) (min n 56)=false->Q (.ret,E):=by
   intro E hE hf;cases hE;exact hQ.2 hf
  have hQ2: ∀E,yZ n L k (.exit 0)=some E->D7 ((λk=>decide (((L k).size:Int)<=210))) (min n 56)=true->Q (.exit 0,E):=by
   intro E hE hf;cases hE;exact hQ.1 hf
  simp only [VN.sat,UB,UJ,H6,VM,FA]
  all_goals exact V7
theorem We6:VY VP 17 [lns n L] (bl (thB n L)):=by
 refine U2 (L:=[FR [min n 56<=100000] (Xt6 n L)]) (VL.nil _) VZ Tryz.func17 (UV Tryz.f17) (G7 (lpE (b:= .loop Jo4) VU<|D2 (λh=>Zw4 n L h))) (t:=need [min n 56<=100000] (need [U0 (Q8 n L),(0:Int)=(↑(0:Nat):Int)] (branch (D7 (λk=>decide ((↑(ByteArray.size (L k)):Int)<=210)) (min n 56)) (leaf (RV.x (.bool (decide ((n:Int)<=55))))) (leaf (RV.x (WQ)))))) VU ?_
 simp only [VN.sat,UB,UY,GL,UE,VM,UJ,H6,FO];unfold thB thA;refine ⟨VK,λh=>?_,λh=>?_⟩
 ·simp [h]
 ·simp [h]
def Xm0:UZ:=λl=>some ([l=[lns n L]],bl (thB n L))
theorem Ql9:VQ VP 17 (Xm0 n L):=by
 refine ⟨(UK Tryz.func17),?_⟩;intro avs ns res h hn;cases h;have e:=hn _ GF;subst e;exact We6 n L
def aX:St:={σ:=[Q8 n L]++HI 18 [],m:=[],nx:=2}
noncomputable def Xa8:Code:=U9 (VS (U8 Tryz.f18) 0)
def EK(k:Nat):St:=(upM [(3,i k)] (aX n L))
def PN(k:Nat):G6->Option St
 | .exit 0=>some (upM [] (aX n L))
 | .ret=>some (upM [(2,.lit false)] (aX n L))
 |_=>none
def Wu6:CT:= .branch (D7 ((λk=>decide (((L k).size:Int)<=200))) n) (.leaf (.exit 0,(PN n L 0 (.exit 0)).getD (aX n L))) (.leaf (.ret,(PN n L 0 .ret).getD (aX n L)))
def mB:UG:=(HF (EK n L (0)) (Wu6 n L))
theorem Qz8(VT:n<=100000):G5 VP (.loop Xa8) (mB n L):=by
 refine HH (L:=[]) (VL.nil _) VZ U3 (X:=Nat) (EK n L) (λk=>k<=n/\ ∀j,j<k->((λk=>decide (((L k).size:Int)<=200))) j=true) (λk=>n-k) (PN n L) (x0:=0) ⟨VK,λj hj=>VK⟩ ?_ ?_ ?_
 ·rintro k;kernel_rfl
 ·rintro k y E h;unfold PN at h;split at h
  ·cases h;kernel_rfl
  ·cases h;kernel_rfl
  ·cases h
 ·rintro Q hQ k hx;refine ⟨(k+1),?_⟩;(with_reducible refine D6 (t:=branch (decide ((k:Int)<(n:Int))) (need [UH k n] (branch (decide ((↑(ByteArray.size (L k)):Int)>200)) (need [U0 (Q8 n L),WO] (leaf G6.ret)) (need [VM ((k:Int)+1)] (need [U0 (Q8 n L),(k:Int)+1=(↑(k+1):Int)] (leaf G6.normal))))) (need [U0 (Q8 n L)] (leaf (G6.exit 0)))) VU ?_);simp only [Wu6,PN,VN.sat,GS] at hQ;have Wn3:k<n->((λk=>decide (((L k).size:Int)<=200))) k=false->D7 ((λk=>decide (((L k).size:Int)<=200))) n=false:=by
   intro h1 h2;rw [←Bool.not_eq_true];intro h3;have:=GU.1 h3 k h1;exact Bool.noConfusion (h2.symm.trans this)
  have gA:((λk=>decide (((L k).size:Int)<=200))) k=true-> ∀j,j<k+1->((λk=>decide (((L k).size:Int)<=200))) j=true:=by
   intro h1 j hj;rcases (show j<k\/j=k by omega) with h|rfl
   ·exact hx.2 j h
   ·exact h1
  have PK: ¬k<n->D7 ((λk=>decide (((L k).size:Int)<=200))) n=true:=λh=>GU.2 (λj hj=>hx.2 j VK)
  have hQ1: ∀E,PN n L k .ret=some E->D7 ((λk=>decide (((L k).size:Int)<=200))) n=false->Q (.ret,E):=by
   intro E hE hf;cases hE;exact hQ.2 hf
  have hQ2: ∀E,PN n L k (.exit 0)=some E->D7 ((λk=>decide (((L k).size:Int)<=200))) n=true->Q (.exit 0,E):=by
   intro E hE hf;cases hE;exact hQ.1 hf
  simp only [VN.sat,UB,UJ,H6,VM,FA]
  all_goals exact V7
theorem Qm1(VT:n<=100000):VY VP 18 [lns n L] (bl (rgB n L)):=by
 refine U2 (L:=[FR [n<=100000] (mB n L)]) (VL.nil _) VZ Tryz.func18 (UV Tryz.f18) (G7 (lpE (b:= .loop Xa8) VU<|D2 (λh=>Qz8 n L h))) (t:=need [n<=100000] (need [U0 (Q8 n L),(0:Int)=(↑(0:Nat):Int)] (branch (D7 (λk=>decide ((↑(ByteArray.size (L k)):Int)<=200)) n) (leaf (RV.x (.bool (decide ((n:Int)<=50))))) (leaf (RV.x (WQ)))))) VU ?_
 simp only [VN.sat,UB,UY,GL,UE,VM,UJ,H6,FO];unfold rgB;refine ⟨VK,λh=>?_,λh=>?_⟩
 ·simp [h]
 ·simp [h]
def Qs0:UZ:=λl=>some ([l=[lns n L],n<=100000],bl (rgB n L))
theorem oC:VQ VP 18 (Qs0 n L):=by
 refine ⟨(UK Tryz.func18),?_⟩;intro avs ns res h hn;cases h;have e:avs=[lns n L]:=hn _ VW;have h0:n<=100000:=hn _ VW;subst e;exact Qm1 n L h0
theorem Qm2(most:Int):VY VP 7 [lns n L,i most] (bl (rdB n L most)):=by
 refine U2 (L:=[]) (VL.cons (Ql9 n L) (VL.cons (oC n L) (VL.nil _))) VZ Tryz.func7 (UV Tryz.f7) U3 (t:=need [(Y3 n L)] (branch (thB n L) (need [(Y3 n L),n<=100000] (branch (rgB n L) (leaf (RV.x (.bool (decide ((n:Int)<=most))))) (leaf (RV.x (WQ))))) (leaf (RV.x (WQ))))) VU ?_;simp only [VN.sat,UB,UY,UE,UJ];have hn:thB n L=true->n<=55:=λh=>by
  unfold thB at h;rw [H9,kC] at h;omega
 unfold rdB
 (with_reducible repeat' first|apply And.intro|intro _)
 all_goals first|(have:=hn (by assumption);omega)|simp_all
def Ww5(most:Int):UZ:=λl=>some ([l=[lns n L,i most]],bl (rdB n L most))
theorem oD(most:Int):VQ VP 7 (Ww5 n L most):=by
 refine ⟨(UK Tryz.func7),?_⟩;intro avs ns res h hn;cases h;have e:=hn _ GF;subst e;exact Qm2 n L most
theorem We8(VT:n<=100000):VY VP 14 [lns n L] (lns n L):=by
 refine GB (L:=[]) (VL.nil _) (VX.of (VR.nil _) (VO.nil _)) VZ Tryz.func14 (UV Tryz.f14) G8 (t:=need [(0+n)*16<=140737488355328,∀(i:Nat),i<n-> ∀(a:AV),a∈[DX (L i)]->AV.one a=true] (leaf (RV.lst 1 (0+n) (GI 0 (λx=>[]) λk=>[DX (L k)])))) VU ?_
 simp only [VN.sat,UB,UY,true_and]
 (with_reducible repeat' first|apply And.intro|intro _)
 all_goals first|exact True.intro|omega|(rename_i ha;rw [BE.1 ha];first|exact True.intro|rfl)|exact l7 _ _|rfl|trace_state
def Xm2:UZ:=λl=>some ([l=[lns n L]],lns n L)
theorem NQ(VT:n<=100000):VQ VP 14 (Xm2 n L):=by
 refine ⟨(UK Tryz.func14),?_⟩;intro avs ns res h hn;cases h;have e:=hn _ GF;subst e;exact We8 n L VT
end
section
variable (s:HS)
abbrev JT:GZ:=[(1,GO.cells 32 (hL s)),(0,GO.cells 32 (hL s))]
def Zr6:St:={σ:=[agg (hL s),agg (hL s),ptr 0 0,ptr 1 0]++HI 168 [],m:=(JT s),nx:=45}
noncomputable def Jr3:Code:=U9 (VS (U8 Tryz.f10) 0)
def Wj0(k:Nat):St:=(upM [(5,i k)] (Zr6 s))
def CY(k:Nat):G6->Option St
 | .exit 0=>some (upM [(5,i (s.nr:Nat))] (Zr6 s))
 |_=>none
def Jn0:CT:= .leaf (.exit 0,(CY s 0 (.exit 0)).getD (Zr6 s))
def Xx6:UG:=GK [] (HF (Wj0 s (0)) (Jn0 s))
theorem Jh2(VT:hsN s):G5 VP (.loop Jr3) (Xx6 s):=by
 refine US [] (L:=[]) (VL.nil _) (VX.of (VR.nil _) (VO.nil _)) VZ U3 (X:=Nat) (Wj0 s) (λk=>k<=s.nr) (λk=>s.nr-k) (CY s) (x0:=0) VW ?_ ?_ ?_
 ·rintro k;kernel_rfl
 ·rintro k y E h;unfold CY at h;split at h
  ·cases h;kernel_rfl
  ·cases h
 ·rintro Q hQ k hx;refine ⟨(k+1),?_⟩;(with_reducible refine D6 (t:=branch (decide ((k:Int)<(↑s.nr:Int))) (need [UH k s.nr] (need [UH k s.nr] (branch (!(s.ra k==s.ra k&&(s.rb k==s.rb k&&(s.ru k==s.ru k&&(s.rv k==s.rv k&&true)&&true)))) VN.fail (need [VM ((k:Int)+1)] (need [X1 s,X1 s,QL,WS,(k:Int)+1=(↑(k+1):Int),QY s,XE s,XF s,W5 s,QZ s,W0 s,QY s,XE s,XF s,W5 s,QZ s,W0 s] (leaf G6.normal)))))) (need [X1 s,X1 s,QL,WS,(k:Int)=(↑s.nr:Int),QY s,XE s,XF s,W5 s,QZ s,W0 s,QY s,XE s,XF s,W5 s,QZ s,W0 s] (leaf (G6.exit 0)))) VU ?_);simp only [Jn0,CY,VN.sat,GS] at hQ;simp only [VN.sat,UB,UY,GL,UE,VM,UJ,H6,FO,FT,RH,GJ,CY]
  obtain ⟨g1,g2,g3,g4,g5⟩:=VT;refine ⟨λh=>?_,λh=>?_⟩
  ·have hk:k<s.nr:=VK;exact V5
  ·obtain rfl:k=s.nr:=VK;exact YZ
def Zr5:St:={σ:=[agg (hL s),agg (hL s),ptr 0 0,ptr 1 0,top,iI (↑s.nr:Int)]++HI 166 [],m:=(JT s),nx:=46}
noncomputable def Xm9:Code:=U9 (VS (U8 Tryz.f10) 1)
def Wi9(b:Nat):St:=(upM [(6,i b),(7,.top)] (Zr5 s))
def CX(b:Nat):G6->Option St
 | .exit 2=>some (upM [(6,i (s.nb:Nat)),(7,.top)] (Zr5 s))
 |_=>none
def Jm9:CT:= .leaf (.exit 2,(CX s 0 (.exit 2)).getD (Zr5 s))
def Xx5:UG:=GK [] (HF (Wi9 s (0)) (Jm9 s))
def Zr4(b:Nat):St:={σ:=[agg (hL s),agg (hL s),ptr 0 0,ptr 1 0,top,iI (↑s.nr:Int),iI (b:Int)]++HI 165 [],m:=(JT s),nx:=82}
noncomputable def Jr2:Code:=U9 (VS Xm9 0)
def Wi8(b:Nat)(k:Nat):St:=(upM [(7,i k)] (Zr4 s b))
def CW(b:Nat)(k:Nat):G6->Option St
 | .exit 4=>some (upM [(7,i (s.qm b:Nat))] (Zr4 s b))
 |_=>none
def Jm8(b:Nat):CT:= .leaf (.exit 4,(CW s b 0 (.exit 4)).getD (Zr4 s b))
def Xx4(b:Nat):UG:=GK [] (HF (Wi8 s b (0)) (Jm8 s b))
theorem Jh0(b:Nat)(VT:hsN s)(UI:b<s.nb):G5 VP (.loop Jr2) (Xx4 s b):=by
 refine US [] (L:=[]) (VL.nil _) (VX.of (VR.nil _) (VO.nil _)) VZ U3 (X:=Nat) (Wi8 s b) (λk=>k<=s.qm b) (λk=>s.qm b-k) (CW s b) (x0:=0) VW ?_ ?_ ?_
 ·rintro k;kernel_rfl
 ·rintro k y E h;unfold CW at h;split at h
  ·cases h;kernel_rfl
  ·cases h
 ·rintro Q hQ k hx;refine ⟨(k+1),?_⟩;(with_reducible refine D6 (t:=need [UH b s.nb] (branch (decide ((k:Int)<(↑(s.qm b):Int))) (need [UH b s.nb] (need [UH k (s.qm b)] (need [UH b s.nb] (need [UH k (s.qm b)] (branch (!(s.qr b k==s.qr b k&&(s.qv b k==s.qv b k&&true))) VN.fail (need [VM ((k:Int)+1)] (need [X1 s,X1 s,QL,WS,U0 (↑s.nr:Int),U0 (b:Int),(k:Int)+1=(↑(k+1):Int),QY s,XE s,XF s,W5 s,QZ s,W0 s,QY s,XE s,XF s,W5 s,QZ s,W0 s] (leaf G6.normal)))))))) (need [X1 s,X1 s,QL,WS,U0 (↑s.nr:Int),U0 (b:Int),(k:Int)=(↑(s.qm b):Int),QY s,XE s,XF s,W5 s,QZ s,W0 s,QY s,XE s,XF s,W5 s,QZ s,W0 s] (leaf (G6.exit 4))))) VU ?_);simp only [Jm8,CW,VN.sat,GS] at hQ;simp only [VN.sat,UB,UY,GL,UE,VM,UJ,H6,FO,FT,RH,GJ,CW]
  obtain ⟨g1,g2,g3,g4,g5⟩:=VT;have g6:=g5 b UI;refine ⟨VK,⟨λh=>?_,λh=>?_⟩⟩
  ·have hk:k<s.qm b:=VK;exact V5
  ·obtain rfl:k=s.qm b:=VK;exact YZ
theorem Jh1(VT:hsN s):G5 VP (.loop Xm9) (Xx5 s):=by
 refine US [] (L:=[B6 6 (λb=>FR [b<s.nb] (Xx4 s b))]) (VL.nil _) (VX.of (VR.nil _) (VO.nil _)) VZ (G7 (λcj hcj=>by
  have e:VS Xm9 0=some (.loop Jr2):=VU;rw [e] at hcj;cases hcj;exact L2 (λb=>D2 (λh=>Jh0 s b VT h)))) (X:=Nat) (Wi9 s) (λb=>b<=s.nb) (λb=>s.nb-b) (CX s) (x0:=0) VW ?_ ?_ ?_
 ·rintro b;kernel_rfl
 ·rintro b y E h;unfold CX at h;split at h
  ·cases h;kernel_rfl
  ·cases h
 ·rintro Q hQ b hx;refine ⟨(b+1),?_⟩;(with_reducible refine D6 (t:=branch (decide ((b:Int)<(↑s.nb:Int))) (need [UH b s.nb] (need [UH b s.nb] (branch (!(s.ql b==s.ql b&&(s.qh b==s.qh b&&true))) VN.fail (need [UH b s.nb] (need [UH b s.nb] (branch ((↑(s.qm b):Int) != (↑(s.qm b):Int)) VN.fail (need [b<s.nb] (need [X1 s,X1 s,QL,WS,U0 (↑s.nr:Int),U0 (b:Int),(0:Int)=(↑(0:Nat):Int),QY s,XE s,XF s,W5 s,QZ s,W0 s,QY s,XE s,XF s,W5 s,QZ s,W0 s] (need [VM ((b:Int)+1)] (need [X1 s,X1 s,QL,WS,U0 (↑s.nr:Int),(b:Int)+1=(↑(b+1):Int),QY s,XE s,XF s,W5 s,QZ s,W0 s,QY s,XE s,XF s,W5 s,QZ s,W0 s] (leaf G6.normal))))))))))) (need [X1 s,X1 s,QL,WS,U0 (↑s.nr:Int),(b:Int)=(↑s.nb:Int),QY s,XE s,XF s,W5 s,QZ s,W0 s,QY s,XE s,XF s,W5 s,QZ s,W0 s] (leaf (G6.exit 2)))) VU ?_);simp only [Jm9,CX,VN.sat,GS] at hQ;simp only [VN.sat,UB,UY,GL,UE,VM,UJ,H6,FO,FT,RH,GJ,CX]
  obtain ⟨g1,g2,g3,g4,g5⟩:=VT;refine ⟨λh=>?_,λh=>?_⟩
  ·have hk:b<s.nb:=VK;exact V5
  ·obtain rfl:b=s.nb:=VK;exact YZ
def Zr3:St:={σ:=[agg (hL s),agg (hL s),ptr 0 0,ptr 1 0,top,iI (↑s.nr:Int),iI (↑s.nb:Int)]++HI 165 [],m:=(JT s),nx:=47}
noncomputable def Jr1:Code:=U9 (VS (U8 Tryz.f10) 2)
def Wi7(k:Nat):St:=(upM [(8,i k)] (Zr3 s))
def CV(k:Nat):G6->Option St
 | .exit 6=>some (upM [(8,i (s.nc:Nat))] (Zr3 s))
 |_=>none
def Jm7:CT:= .leaf (.exit 6,(CV s 0 (.exit 6)).getD (Zr3 s))
def Xx3:UG:=GK [] (HF (Wi7 s (0)) (Jm7 s))
theorem Jg9(VT:hsN s):G5 VP (.loop Jr1) (Xx3 s):=by
 refine US [] (L:=[]) (VL.nil _) (VX.of (VR.nil _) (VO.nil _)) VZ U3 (X:=Nat) (Wi7 s) (λk=>k<=s.nc) (λk=>s.nc-k) (CV s) (x0:=0) VW ?_ ?_ ?_
 ·rintro k;kernel_rfl
 ·rintro k y E h;unfold CV at h;split at h
  ·cases h;kernel_rfl
  ·cases h
 ·rintro Q hQ k hx;refine ⟨(k+1),?_⟩;(with_reducible refine D6 (t:=branch (decide ((k:Int)<(↑s.nc:Int))) (need [UH k s.nc] (need [UH k s.nc] (branch (!(s.ca k==s.ca k&&(s.cb k==s.cb k&&(s.cc k==s.cc k&&true))&&(s.cd k==s.cd k&&(s.cv k==s.cv k&&true)))) VN.fail (need [VM ((k:Int)+1)] (need [X1 s,X1 s,QL,WS,U0 (↑s.nr:Int),U0 (↑s.nb:Int),(k:Int)+1=(↑(k+1):Int),QY s,XE s,XF s,W5 s,QZ s,W0 s,QY s,XE s,XF s,W5 s,QZ s,W0 s] (leaf G6.normal)))))) (need [X1 s,X1 s,QL,WS,U0 (↑s.nr:Int),U0 (↑s.nb:Int),(k:Int)=(↑s.nc:Int),QY s,XE s,XF s,W5 s,QZ s,W0 s,QY s,XE s,XF s,W5 s,QZ s,W0 s] (leaf (G6.exit 6)))) VU ?_);simp only [Jm7,CV,VN.sat,GS] at hQ;simp only [VN.sat,UB,UY,GL,UE,VM,UJ,H6,FO,FT,RH,GJ,CV]
  obtain ⟨g1,g2,g3,g4,g5⟩:=VT;refine ⟨λh=>?_,λh=>?_⟩
  ·have hk:k<s.nc:=VK;exact V5
  ·obtain rfl:k=s.nc:=VK;exact YZ
def Zr2:St:={σ:=[agg (hL s),agg (hL s),ptr 0 0,ptr 1 0,top,iI (↑s.nr:Int),iI (↑s.nb:Int),top,iI (↑s.nc:Int)]++HI 163 [],m:=(JT s),nx:=48}
noncomputable def Jr0:Code:=U9 (VS (U8 Tryz.f10) 3)
def Wi6(k:Nat):St:=(upM [(9,i k)] (Zr2 s))
def CU(k:Nat):G6->Option St
 | .exit 8=>some (upM [(9,i (s.ns:Nat))] (Zr2 s))
 |_=>none
def Jm6:CT:= .leaf (.exit 8,(CU s 0 (.exit 8)).getD (Zr2 s))
def Xx2:UG:=GK [] (HF (Wi6 s (0)) (Jm6 s))
theorem Jg8(VT:hsN s):G5 VP (.loop Jr0) (Xx2 s):=by
 refine US [] (L:=[]) (VL.nil _) (VX.of (VR.nil _) (VO.nil _)) VZ U3 (X:=Nat) (Wi6 s) (λk=>k<=s.ns) (λk=>s.ns-k) (CU s) (x0:=0) VW ?_ ?_ ?_
 ·rintro k;kernel_rfl
 ·rintro k y E h;unfold CU at h;split at h
  ·cases h;kernel_rfl
  ·cases h
 ·rintro Q hQ k hx;refine ⟨(k+1),?_⟩;(with_reducible refine D6 (t:=branch (decide ((k:Int)<(↑s.ns:Int))) (need [UH k s.ns] (need [UH k s.ns] (branch (!(s.sa k==s.sa k&&(s.sb k==s.sb k&&(s.sc k==s.sc k&&(s.sl k==s.sl k&&(s.sh k==s.sh k&&true)&&true))))) VN.fail (need [VM ((k:Int)+1)] (need [X1 s,X1 s,QL,WS,U0 (↑s.nr:Int),U0 (↑s.nb:Int),U0 (↑s.nc:Int),(k:Int)+1=(↑(k+1):Int),QY s,XE s,XF s,W5 s,QZ s,W0 s,QY s,XE s,XF s,W5 s,QZ s,W0 s] (leaf G6.normal)))))) (need [X1 s,X1 s,QL,WS,U0 (↑s.nr:Int),U0 (↑s.nb:Int),U0 (↑s.nc:Int),(k:Int)=(↑s.ns:Int),QY s,XE s,XF s,W5 s,QZ s,W0 s,QY s,XE s,XF s,W5 s,QZ s,W0 s] (leaf (G6.exit 8)))) VU ?_);simp only [Jm6,CU,VN.sat,GS] at hQ;simp only [VN.sat,UB,UY,GL,UE,VM,UJ,H6,FO,FT,RH,GJ,CU]
  obtain ⟨g1,g2,g3,g4,g5⟩:=VT;refine ⟨λh=>?_,λh=>?_⟩
  ·have hk:k<s.ns:=VK;exact V5
  ·obtain rfl:k=s.ns:=VK;exact YZ
end
theorem iP{S:Code->UG->Prop}{c:Code}{s0 s1 s2 s3:UG}(h0: ∀cj,VS c 0=some cj->S cj s0)(h1: ∀cj,VS c 1=some cj->S cj s1)(h2: ∀cj,VS c 2=some cj->S cj s2)(h3: ∀cj,VS c 3=some cj->S cj s3):
  ∀j cj,VS c j=some cj-> ∀sp,[s0,s1,s2,s3][j]? =some sp->S cj sp:=by
 intro j cj hj sp hsp
 match j with
 | 0=>simp at hsp;subst hsp;exact h0 cj hj
 | 1=>simp at hsp;subst hsp;exact h1 cj hj
 | 2=>simp at hsp;subst hsp;exact h2 cj hj
 | 3=>simp at hsp;subst hsp;exact h3 cj hj
 |j+4=>simp at hsp
theorem We7(s:HS)(VT:hsN s):VY VP 10 [.agg (hsL s),.agg (hsL s)] (bl true):=by
 refine GB (L:=[Xx6 s,Xx5 s,Xx3 s,Xx2 s]) (VL.nil _) (VX.of (VR.nil _) (VO.nil _)) VZ Tryz.func10 (UV Tryz.f10) (iP (lpE (b:= .loop Jr3) VU<|(Jh2 s VT).N) (lpE (b:= .loop Xm9) VU<|(Jh1 s VT).N) (lpE (b:= .loop Jr1) VU<|(Jg9 s VT).N) (lpE (b:= .loop Jr0) VU<|(Jg8 s VT).N)) (t:=branch (!(s.pl==s.pl&&(s.ph==s.ph&&true))) (leaf (RV.x (WQ))) (branch ((↑s.nr:Int) != (↑s.nr:Int)) (leaf (RV.x (WQ))) (branch ((↑s.nb:Int) != (↑s.nb:Int)) (leaf (RV.x (WQ))) (branch ((↑s.nc:Int) != (↑s.nc:Int)) (leaf (RV.x (WQ))) (branch ((↑s.ns:Int) != (↑s.ns:Int)) (leaf (RV.x (WQ))) (need [X1 s,X1 s,QL,WS,(0:Int)=(↑(0:Nat):Int),QY s,XE s,XF s,W5 s,QZ s,W0 s,QY s,XE s,XF s,W5 s,QZ s,W0 s] (need [X1 s,X1 s,QL,WS,U0 (↑s.nr:Int),(0:Int)=(↑(0:Nat):Int),QY s,XE s,XF s,W5 s,QZ s,W0 s,QY s,XE s,XF s,W5 s,QZ s,W0 s] (need [X1 s,X1 s,QL,WS,U0 (↑s.nr:Int),U0 (↑s.nb:Int),(0:Int)=(↑(0:Nat):Int),QY s,XE s,XF s,W5 s,QZ s,W0 s,QY s,XE s,XF s,W5 s,QZ s,W0 s] (need [X1 s,X1 s,QL,WS,U0 (↑s.nr:Int),U0 (↑s.nb:Int),U0 (↑s.nc:Int),(0:Int)=(↑(0:Nat):Int),QY s,XE s,XF s,W5 s,QZ s,W0 s,QY s,XE s,XF s,W5 s,QZ s,W0 s] (leaf (RV.x (.bool true)))))))))))) VU ?_
 obtain ⟨g1,g2,g3,g4,g5⟩:=VT;simp only [VN.sat,UB,UY,GL,UE,UJ,VM,FA]
 (with_reducible repeat' first|apply And.intro|intro _)
 all_goals first|exact True.intro|omega|rfl|(exfalso;rename_i h9;simp at h9;done)|decide
def Xm1(s:HS):UZ:=λl=>some ([l=[.agg (hsL s),.agg (hsL s)]],bl true)
theorem Qm0(s:HS)(VT:hsN s):VQ VP 10 (Xm1 s):=by
 refine ⟨(UK Tryz.func10),?_⟩;intro avs ns res h hn;cases h;have e:=hn _ GF;subst e;exact We7 s VT
end Go.Proofs.YtlclobclmfhlmaaGreatDoor.Hd
