/- Contracts, put together. Conditions: those of each. -/
import Derived.Test.YtlclobclmfhlmaaGreatDoorMn
import Derived.Shelf.Strings.Builder1
import Derived.Shelf.Strings.Builder2
import Derived.Shelf.Strings.OnBuilder
set_option linter.unusedSimpArgs false
set_option linter.unusedVariables false
set_option maxRecDepth 100000
namespace Go.Proofs.YtlclobclmfhlmaaGreatDoor.Hd
open Go Go.Shelf Go.Sx Go.RowKit
def oG:Go.Shelf.Ren:=⟨λ| 169=>47|n=>n,λ| 70=>108| 72=>110| 37=>45| 127=>170|n=>n,λn=>n⟩
theorem Zh9:Go.Proofs.Lays.n169 Tryz.prog oG:=by
 constructor<;>first|(intro _;kernel_rfl)|kernel_rfl|(constructor<;>first|(intro _;kernel_rfl)|kernel_rfl|(constructor<;>first|(intro _;kernel_rfl)|kernel_rfl))
def fN:Go.Shelf.Ren:=⟨λ| 156=>74| 165=>100| 166=>42| 169=>47| 240=>72| 241=>132| 276=>98| 277=>171|n=>n,λ| 31=>22| 72=>110| 76=>114| 70=>108| 37=>45| 75=>113| 127=>170| 164=>199| 80=>130|n=>n,λn=>n⟩
theorem uR:Go.Proofs.Lays.n156 Tryz.prog fN:=by
 constructor<;>first|(intro _;kernel_rfl)|kernel_rfl|(constructor<;>first|(intro _;kernel_rfl)|kernel_rfl|(constructor<;>first|(intro _;kernel_rfl)|kernel_rfl))
theorem bG:Builder.Extra Tryz.prog fN where
 sizeBuilder:=VS
 liesBuilder:=VS
 t5:=by first|exact Tryz.underlying5|kernel_rfl
 a5:=by first|exact Tryz.isAgg5|kernel_rfl
 z5:=by first|exact Tryz.sizeOf5|(intros;rfl)
 v5:=by first|exact Tryz.zeroValue5|(intros;rfl)
 infoByte:=VS
 cellsByte:=VS
 sizeByte:=VS
 neB5:=by decide
def stO:List AV->ByteArray
 |[.x (.string s)]=>s
 |_=>ByteArray.empty
section
variable (n:Nat)(f:Nat->List AV)
def jT:Prop:= ∀k,k<n->f k=[.x (.string (stO (f k)))]
def jnB(sep:ByteArray):ByteArray:=⟨(Lib.join (((List.range n).map λk=>stO (f k)).map (·.data.toList)) sep.data.toList).toArray⟩
theorem Xe7(sep:ByteArray)(h0:n<=100000)(h1:jT n f)(h2:(jnB n f sep).size<=140737488355328):VW VN 74 [.lst 1 n f,.x (.string sep)] (.x (.string (jnB n f sep))):=by
 intro e w args hro hgl FL hr;obtain ⟨u,us,rfl,r1,hr⟩:=hr.cons_inv;obtain ⟨u2,us2,rfl,r2,hr⟩:=hr.cons_inv;obtain rfl:=hr.nil_inv;obtain rfl:=r2.x_inv;cases r1 with
 |lstNil=>
  refine Calls.mono (Any.strings_Join_none uR bG none 0 sep w) ?_;rintro en w' ⟨rfl,rfl⟩;exact ⟨_,rfl,Below.refl _ _,.x _⟩
 |lst _ _ _ b o cap g g1 g2 g3 g4 g5 g6 g7 g8 ad had=>
  have hl:((List.range n).map λk=>stO (f k)).length=n:=VU
  rcases Nat.eq_zero_or_pos n with rfl|hn
  ·refine Calls.mono (Any.strings_Join_none uR bG (some ad) cap sep w) ?_;rintro en w' ⟨rfl,rfl⟩;exact ⟨_,rfl,Below.refl _ _,.x _⟩
  ·rw [had hn];have h:=Any.strings_Join uR bG b o cap ((List.range n).map λk=>stO (f k)) sep w (λj x hj=>by
    have hj1:=(FR.1 hj).1;have hj2:j<n:=VI;rw [List.getElem?_map,List.getElem?_range hj2] at hj;simp only [Option.map_some,HC] at hj;have k1:=g6 j 0 hj2 VI;have k2:=(g8 j 0 (.x (.string (stO (f j)))) hj2 (by rw [h1 j hj2];rfl)).x_inv
    have e0:o+(j*1+0)=o+j:=VI;rw [e0,k2,hj] at k1;exact k1) (g2 hn) (by rw [hl];omega) (by rw [hl];exact g4) (by
     have e:(Lib.join (((List.range n).map λk=>stO (f k)).map (·.data.toList)) sep.data.toList).length=(jnB n f sep).size:=rfl
     rw [e];exact h2)
   rw [hl] at h;refine Calls.mono h ?_;rintro en w' ⟨rfl,hb⟩;exact ⟨_,rfl,hb,.x _⟩
end
def dW:UV
 |[.lst 1 n f,.x (.string sep)]=>some ([n<=100000,jT n f,(jnB n f sep).size<=140737488355328],.x (.string (jnB n f sep)))
 |_=>none
theorem Qa6:VO VN 74 dW:=by
 refine ⟨(UF Tryz.func74),?_⟩;intro avs ns res h hn;unfold dW at h;split at h
 ·cases h;exact Xe7 _ _ _ (hn _ VU) (hn _ VU) (hn _ VU)
 ·cases h
def Xm4:HY:=λavs m nx sv=>match avs with
 |[.ptr q 0]=>match DA m q with
  |some (.cells T l)=>match l with
   |[.x (.pointer none),c]=>match Nat.beq T 110 with
    |true=>some (.leaf (.tup [],qA m q (.cells T [.ptr q 0,c]),nx,sv))
    |false=>none
   |[.ptr q' 0,c]=>match Nat.beq T 110&&Nat.beq q q' with
    |true=>some (.leaf (.tup [],m,nx,sv))
    |false=>none
   |_=>none
  |_=>none
 |_=>none
theorem Zl9:G9 VN 72 Xm4:=by
 refine ⟨(UF Tryz.func72),?_⟩;intro avs m nx sv tr ht Q hQ cx w0 TT e ds args w hE hB hm hlv LL hxt hr;unfold Xm4 at ht;split at ht
 ·rename_i q;obtain ⟨v0,l1,rfl,r1,hr⟩:=hr.cons_inv;obtain rfl:=hr.nil_inv;have hv0:v0= .pointer (some ⟨e.blk q,0,none⟩):=by cases r1;rfl
  subst hv0;split at ht
  ·rename_i T l hg;split at ht
   ·rename_i c;split at ht
    ·rename_i hb;obtain rfl:=GW hb;cases ht;obtain ⟨h1,h2,vs,h3,h4⟩:=hm _ (UU hg);obtain ⟨p,us,rfl,t1,h4⟩:=h4.cons_inv;obtain ⟨v,us,rfl,t2,h4⟩:=h4.cons_inv;obtain rfl:=h4.nil_inv;obtain rfl:=t1.x_inv
     dsimp only at h1 h2 h3
     have hc0:w.cell? ⟨e.blk q,0,none⟩=some (.pointer none):=by simp [World.cell?,h3]
     refine Calls.mono (Any.Builder_copyCheck_fresh {uR with} bG.toX72 (e.blk q) w hc0 (by simp [World.shape?,h3];rfl) (by simp [World.frozen?,h3])) ?_
     rintro en w' ⟨rfl,rfl⟩;have RT: ∀b,b≠e.blk q->(w.setCell ⟨e.blk q,0,none⟩ (.pointer (some ⟨e.blk q,0,none⟩))).heap[b]? =w.heap[b]? :=λb hb=>heap_setCell_other _ _ _ _ hb
     have hsz:(w.setCell ⟨e.blk q,0,none⟩ (.pointer (some ⟨e.blk q,0,none⟩))).heap.size=w.heap.size:=VU;have st:=F2 hE h2 hsz RT;have dJ:Below w0.heap.size w0 (w.setCell ⟨e.blk q,0,none⟩ (.pointer (some ⟨e.blk q,0,none⟩))):=hB.setCell (p:=⟨e.blk q,0,none⟩) (hE.owned _ _ h2).1 _;refine ⟨_,_,_,_,_,e,rfl,hQ,RZ hE hsz st,dJ,?_,hlv,LL,hxt.step st,Rep.tupL (U1.nil _ _)⟩;intro p hp;rcases FT hp with rfl|⟨hp,hne⟩
     ·refine ⟨h1,h2,[.pointer (some ⟨e.blk q,0,none⟩),v],?_,.cons (.ptr q 0 h1) (.cons (t2.step st) (.nil _ _))⟩;rw [heap_setCell_same w _ 0 _ _ _ h3];rfl
     ·exact P1 hE h2 hsz RT hne (hm p hp)
    ·cases ht
   ·rename_i q' c;split at ht
    ·rename_i hb;rw [H2] at hb;obtain rfl:=GW hb.1;obtain rfl:=GW hb.2;cases ht;obtain ⟨h1,h2,vs,h3,h4⟩:=hm _ (UU hg);obtain ⟨p,us,rfl,t1,h4⟩:=h4.cons_inv;obtain ⟨v,us,rfl,t2,h4⟩:=h4.cons_inv;obtain rfl:=h4.nil_inv
     dsimp only at h1 h2 h3
     have hp:p= .pointer (some ⟨e.blk q,0,none⟩):=by cases t1;rfl
     subst hp;have hc0:w.cell? ⟨e.blk q,0,none⟩=some (.pointer (some ⟨e.blk q,0,none⟩)):=by simp [World.cell?,h3]
     refine Calls.mono (Any.Builder_copyCheck_used {uR with} bG.toX72 (e.blk q) w hc0) ?_
     rintro en w' ⟨rfl,rfl⟩;exact ⟨_,_,_,_,_,e,rfl,hQ,hE,hB,hm,hlv,LL,hxt,Rep.tupL (U1.nil _ _)⟩
    ·cases ht
   ·cases ht
  ·cases ht
 ·cases ht
set_option maxHeartbeats 1000000 in
theorem Qj2(b g cap:Nat)(p:Value)(cur:Array Value)(l:List UInt8)(w:World)(hbk:w.heap[b]? =some (.cells #[p,.slice (some ⟨g,0,none⟩) l.length cap] 110 (0,0)))(hg:w.heap[g]? =some (.cells cur 5 (0,0)))(h0:l≠[])(hnc:l.length<=cap)(hcm:cap<=maxLen)(hcs:cur.size=cap)
  (gA: ∀j x,l[j]? =some x->w.cell? ⟨g,j,none⟩=some (.int .u8 x.toNat)):
  Calls Tryz.prog 47 #[.pointer (some ⟨b,0,none⟩)] w λe w'=>e= .returned (.string ⟨l.toArray⟩)/\w'=w.drew.freeze ⟨g,0,none⟩ l.length:=by
 have c1:w.drew.cell? ⟨b,1,none⟩=some (.slice (some ⟨g,0,none⟩) l.length cap):=by
  have:w.drew.heap[b]? =some (.cells #[p,.slice (some ⟨g,0,none⟩) l.length cap] 110 (0,0)):=hbk;simp [World.cell?,this]
 have hl0:l.length≠0:=by simpa using h0
 have hSD:(Builtin.unsafeSliceData_ #[45] 170 #[.slice (some ⟨g,0,none⟩) l.length cap]).run Tryz.prog w.drew= .ok (.pointer (some ⟨g,0,none⟩)) w.drew:=
  Lib.run_unsafeSliceData_row _ _ _ _ _ _ VI
 have hUS:(Builtin.unsafeString_ #[170,3] 9 #[.pointer (some ⟨g,0,none⟩),.int .i64 l.length]).run Tryz.prog w.drew= .ok (.string ⟨l.toArray⟩) (w.drew.freeze ⟨g,0,none⟩ l.length):=by
  refine Lib.run_unsafeString_row w.drew 170 3 9 5 Zh9.t127 VS g cur.size (by have hg':w.drew.heap[g]? =some (.cells cur 5 (0,0)):=hg;simp [World.shape?,hg']) l h0 VI (by unfold maxLen at hcm;omega) ?_
  intro j x hx;have e:(⟨g,0,none⟩:Addr).add j=⟨g,j,none⟩:=by rw [DE,Nat.zero_add]
  rw [e];exact gA j x hx
 have GO:Tryz.prog.follows .mixedOrders=true:=VY
 go_enter Tryz.func47,Tryz.ntmps47
 go_wp2
 go_region_o
 all_goals (go_wp2;go_ret;exact ⟨rfl,rfl⟩)
def Wy5:HY:=λavs m nx sv=>match avs with
 |[.ptr q 0]=>match DA m q with
  |some (.cells T l)=>match l with
   |[_,.row r]=>match DA m r with
    |some (.row T1 sz n f)=>match Nat.beq T 110&&Nat.beq T1 5&&Nat.beq sz 1 with
     |true=>some (.needT [uS n f,0<n] (.leaf (.x (.string (bsO n f)),[],nx,sv)))
     |false=>none
    |_=>none
   |_=>none
  |_=>none
 |_=>none
theorem a6(w:World)(g n x:Nat)(h:x≠g):(w.freeze ⟨g,0,none⟩ n).heap[x]? =w.heap[x]? :=by
 unfold World.freeze;split
 ·rfl
 ·show (w.heap.modify g _)[x]? =_;rw [Array.getElem?_modify];rw [if_neg (λe=>h e.symm)]
theorem iU(w:World)(g n:Nat):(w.freeze ⟨g,0,none⟩ n).heap.size=w.heap.size:=by
 unfold World.freeze;split
 ·rfl
 ·show (w.heap.modify g _).size=_;simp
theorem Qp6(w:World)(g n:Nat):(w.freeze ⟨g,0,none⟩ n).os=w.os/\(w.freeze ⟨g,0,none⟩ n).tape=w.tape/\(w.freeze ⟨g,0,none⟩ n).output=w.output:=by
 unfold World.freeze;split<;>exact ⟨rfl,rfl,rfl⟩
theorem kJ:G9 VN 47 Wy5:=by
 refine ⟨(UF Tryz.func47),?_⟩;intro avs m nx sv tr ht Q hQ cx w0 TT e ds args w hE hB hm hlv LL hxt hr;unfold Wy5 at ht;split at ht
 ·rename_i q;obtain ⟨v0,l1,rfl,r1,hr⟩:=hr.cons_inv;obtain rfl:=hr.nil_inv;have hv0:v0= .pointer (some ⟨e.blk q,0,none⟩):=by cases r1;rfl
  subst hv0;split at ht
  ·rename_i T l hg;split at ht
   ·rename_i a r;split at ht
    ·rename_i T1 sz n f hg2;split at ht
     ·rename_i hb;rw [H2,H2] at hb;obtain ⟨⟨hb1,hb2⟩,hb3⟩:=hb;obtain rfl:=GW hb1;obtain rfl:=GW hb2;obtain rfl:=GW hb3;cases ht;obtain ⟨hn,hq⟩:=VL.sat_needT hQ;have hn:=GB hn;have n1:uS n f:=hn _ VU;have n2:0<n:=hn _ VU;obtain ⟨h1,h2,vs,h3,h4⟩:=hm _ (UU hg);obtain ⟨p,us,rfl,t1,h4⟩:=h4.cons_inv;obtain ⟨v,us,rfl,t2,h4⟩:=h4.cons_inv;obtain rfl:=h4.nil_inv
      dsimp only at h1 h2 h3
      obtain ⟨k1,k2,k3,xs,k4,k5⟩:=hm _ (UU hg2)
      dsimp only at k1 k2 k3 k4 k5
      have hv:e.val r=v:=by
       cases t2 with
       |row _ a n c _ hv=>exact hv
      rw [hv] at k2 k4;rcases k4.2 with ⟨_,hz⟩|⟨g,cap,cur,rfl,hbg,hgg,hnc,hcm,hcs,jV⟩
      ·omega
      ·have H4:e.own g=some r:=k2 g rfl;have HT:((List.range n).map λj=>UInt8.ofNat (byO (f j))).length=n:=VU
       have h0:((List.range n).map λj=>UInt8.ofNat (byO (f j)))≠[]:=by
        intro h;rw [h] at HT;simp at HT;omega
       have gA: ∀j x,((List.range n).map λj=>UInt8.ofNat (byO (f j)))[j]? =some x->w.cell? ⟨g,j,none⟩=some (.int .u8 x.toNat):=by
        intro j x hj;have hj1:j<n:=by have:=(FR.1 hj).1;omega
        rw [List.getElem?_map,List.getElem?_range hj1] at hj;simp only [Option.map_some,HC] at hj;have hxl:xs.length=n:=by have:=k4.1;omega
        have hc1:=k4.cells (g:=g) rfl j xs[j] (HX VI);have e1:(⟨g,0,none⟩:Addr).add j=⟨g,j,none⟩:=by rw [DE,Nat.zero_add]
        rw [e1] at hc1;have hc2:=(k5 j 0 (.x (.int .u8 (byO (f j):Int))) xs[j] hj1 (by rw [(n1 j hj1).2];rfl) (by rw [show j*1+0=j by omega];exact HX VI)).x_inv
        rw [hc1,hc2,←hj,UInt8.toNat_ofNat_of_lt' (n1 j hj1).1]
       have FF:=Qj2 (e.blk q) g cap p cur ((List.range n).map λj=>UInt8.ofNat (byO (f j))) w (by rw [HT];exact h3) hgg h0 (by rw [HT];exact hnc) hcm (by simpa using hcs) gA
       refine FF.mono ?_;rintro en w' ⟨rfl,rfl⟩;rw [HT];have RT: ∀x,x≠g->(w.drew.freeze ⟨g,0,none⟩ n).heap[x]? =w.heap[x]? :=λx hx=>a6 w.drew g n x hx
       have hsz:(w.drew.freeze ⟨g,0,none⟩ n).heap.size=w.heap.size:=iU w.drew g n;have hos:=Qp6 w.drew g n;have st:=F2 hE H4 hsz RT;refine ⟨_,_,_,_,_,e,rfl,hq,RZ hE hsz st,⟨hos.1.trans hB.os,hos.2.1.trans hB.tape,hos.2.2.trans hB.output,by rw [hsz];exact hB.size,λx hx=>?_⟩,λp hp=>(by cases hp),hlv,LL,hxt.step st,.x _⟩
       rw [RT x (by have:=(hE.owned _ _ H4).1;omega)]
       exact hB.block x hx
     ·cases ht
    ·cases ht
   ·cases ht
  ·cases ht
 ·cases ht
end Go.Proofs.YtlclobclmfhlmaaGreatDoor.Hd
namespace Go.Proofs.YtlclobclmfhlmaaGreatDoor.Hd
open Go Go.Sx Go.RowKit Bo
open Go.Sx.VL (need branch leaf)
open Go.Sx.AV (lst ptr agg roI tup top)
def U5:List ByteArray:=[⟨#[116,104,114,101,97,100,32,48,32,49,32,52,48,32,52,48]⟩,⟨#[116,104,114,101,97,100,32,50,32,51,32,52,56,32,53,48]⟩,⟨#[105,115,115,117,101,32,48,32,52,32,57,48,32,48]⟩,⟨#[98,97,116,104,32,49,48,48,32,51,48,48]⟩,⟨#[115,101,101,32,48,32,50,48,48]⟩,⟨#[115,101,101,32,49,32,50,48,51]⟩,⟨#[98,97,116,104,32,49,48,48,32,51,48,48]⟩,⟨#[115,101,101,32,49,32,50,53,50]⟩,⟨#[115,101,101,32,50,32,50,53,48]⟩,⟨#[115,101,108,108,32,48,32,49,32,54,32,49,32,51]⟩,⟨#[115,101,108,108,32,49,32,50,32,52,32,50,32,50]⟩]
def G8:List ByteArray:=[⟨#[116,104,114,101,97,100,32,48,32,50,32,52,48,32,52,48]⟩,⟨#[105,115,115,117,101,32,48,32,52,32,56,48,32,48]⟩,⟨#[115,101,101,32,48,32,49,48,48]⟩,⟨#[115,116,114,105,107,101,32,49]⟩,⟨#[118,111,105,100,32,48]⟩]
def UL(l:List ByteArray)(k:Nat):ByteArray:=l.getD k ByteArray.empty
def wk1:HS:=thS hs0 0 1 40 40
def wk2:HS:=thS wk1 2 3 48 50
def wk3:HS:=isS wk2 0 4 90 0
def wk4:HS:=btS wk3 100 300
def wk5:HS:=seS wk4 0 200
def wk6:HS:=seS wk5 1 203
def wk7:HS:=btS wk6 100 300
def wk8:HS:=seS wk7 1 252
def wk9:HS:=seS wk8 2 250
def Qi9:HS:=slS wk9 0 1 6 1 3
def VT:HS:=slS Qi9 1 2 4 2 2
theorem Qw0:lnE (UL U5 0) hs0=0:=by decide+kernel
theorem Xo4:DS (lnW (UL U5 0)) hs0=wk1:=VS
theorem Qv9:lnE (UL U5 1) wk1=0:=by decide+kernel
theorem Xo3:DS (lnW (UL U5 1)) wk1=wk2:=VS
theorem Qv8:lnE (UL U5 2) wk2=0:=by decide+kernel
theorem Xo2:DS (lnW (UL U5 2)) wk2=wk3:=VS
theorem Qv7:lnE (UL U5 3) wk3=0:=by decide+kernel
theorem Xo1:DS (lnW (UL U5 3)) wk3=wk4:=VS
theorem Qv6:lnE (UL U5 4) wk4=0:=by decide+kernel
theorem Xo0:DS (lnW (UL U5 4)) wk4=wk5:=VS
theorem Qv5:lnE (UL U5 5) wk5=0:=by decide+kernel
theorem Xn9:DS (lnW (UL U5 5)) wk5=wk6:=VS
theorem Qv4:lnE (UL U5 6) wk6=0:=by decide+kernel
theorem Xn8:DS (lnW (UL U5 6)) wk6=wk7:=VS
theorem Qv3:lnE (UL U5 7) wk7=0:=by decide+kernel
theorem Xn7:DS (lnW (UL U5 7)) wk7=wk8:=VS
theorem Qv2:lnE (UL U5 8) wk8=0:=by decide+kernel
theorem Xn6:DS (lnW (UL U5 8)) wk8=wk9:=VS
theorem Qv1:lnE (UL U5 9) wk9=0:=by decide+kernel
theorem Xn5:DS (lnW (UL U5 9)) wk9=Qi9:=VS
theorem mU:lnE (UL U5 10) Qi9=0:=by decide+kernel
theorem Qu3:DS (lnW (UL U5 10)) Qi9=VT:=VS
theorem Xo6:boE VT.nb VT.ql VT.qh VT.qm VT.qr VT.qv=0:=by decide+kernel
theorem Xo5:boN VT.nb VT.ql VT.qh VT.qm VT.qr VT.qv=3:=by decide+kernel
theorem Qu6:boL VT.nb VT.ql VT.qh VT.qm VT.qr VT.qv 0=0:=by decide+kernel
theorem Qu9:boH VT.nb VT.ql VT.qh VT.qm VT.qr VT.qv 0=0:=by decide+kernel
theorem Qu5:boL VT.nb VT.ql VT.qh VT.qm VT.qr VT.qv 1=1:=by decide+kernel
theorem Qu8:boH VT.nb VT.ql VT.qh VT.qm VT.qr VT.qv 1=5:=by decide+kernel
theorem Qu4:boL VT.nb VT.ql VT.qh VT.qm VT.qr VT.qv 2= -3:=by decide+kernel
theorem Qu7:boH VT.nb VT.ql VT.qh VT.qm VT.qr VT.qv 2=5:=by decide+kernel
theorem Qu2:stP VT 0 0=true:=by decide+kernel
theorem Qv0:qJ VT.ns VT.sa VT.sb VT.sc VT.sl VT.sh=true:=by decide+kernel
theorem Qw2:caB VT.ns VT.sa VT.sb VT.sc VT.sl VT.sh 1 0=true:=by decide+kernel
theorem Qw1:caB VT.ns VT.sa VT.sb VT.sc VT.sl VT.sh 1 1=true:=by decide+kernel
theorem Za9:caB VT.ns VT.sa VT.sb VT.sc VT.sl VT.sh 1 2=false:=by decide+kernel
theorem Za8:caB VT.ns VT.sa VT.sb VT.sc VT.sl VT.sh 1 3=false:=by decide+kernel
theorem Qu1:suB VT.ns VT.sa VT.sb VT.sc VT.sl VT.sh 1 0=true:=by decide+kernel
theorem Xz2:suB VT.ns VT.sa VT.sb VT.sc VT.sl VT.sh 1 1=false:=by decide+kernel
theorem Xz1:suB VT.ns VT.sa VT.sb VT.sc VT.sl VT.sh 1 2=false:=by decide+kernel
theorem Xz0:suB VT.ns VT.sa VT.sb VT.sc VT.sl VT.sh 1 3=false:=by decide+kernel
theorem Zu8:hdN 4 100 20 30 VT.nr VT.ra VT.rb VT.ru VT.rv 3 tbP tbQ VT.pl VT.ph 1 3 0=5:=by decide+kernel
theorem Za2:onL (wkA 4 100 20 30 VT.nr VT.ra VT.rb VT.ru VT.rv 3 tbP tbQ VT.pl VT.ph 1 3) 0 0=0:=by decide+kernel
theorem Za7:onH (wkA 4 100 20 30 VT.nr VT.ra VT.rb VT.ru VT.rv 3 tbP tbQ VT.pl VT.ph 1 3) 0 0=0:=by decide+kernel
theorem Za1:onL (wkA 4 100 20 30 VT.nr VT.ra VT.rb VT.ru VT.rv 3 tbP tbQ VT.pl VT.ph 1 3) 1 0=200:=by decide+kernel
theorem Za6:onH (wkA 4 100 20 30 VT.nr VT.ra VT.rb VT.ru VT.rv 3 tbP tbQ VT.pl VT.ph 1 3) 1 0=300:=by decide+kernel
theorem Za0:onL (wkA 4 100 20 30 VT.nr VT.ra VT.rb VT.ru VT.rv 3 tbP tbQ VT.pl VT.ph 1 3) 2 0=410:=by decide+kernel
theorem Za5:onH (wkA 4 100 20 30 VT.nr VT.ra VT.rb VT.ru VT.rv 3 tbP tbQ VT.pl VT.ph 1 3) 2 0=510:=by decide+kernel
theorem Xz9:onL (wkA 4 100 20 30 VT.nr VT.ra VT.rb VT.ru VT.rv 3 tbP tbQ VT.pl VT.ph 1 3) 3 0=700:=by decide+kernel
theorem Za4:onH (wkA 4 100 20 30 VT.nr VT.ra VT.rb VT.ru VT.rv 3 tbP tbQ VT.pl VT.ph 1 3) 3 0=800:=by decide+kernel
theorem Xz8:onL (wkA 4 100 20 30 VT.nr VT.ra VT.rb VT.ru VT.rv 3 tbP tbQ VT.pl VT.ph 1 3) 4 0=1000:=by decide+kernel
theorem Za3:onH (wkA 4 100 20 30 VT.nr VT.ra VT.rb VT.ru VT.rv 3 tbP tbQ VT.pl VT.ph 1 3) 4 0=1000:=by decide+kernel
theorem Xz7:(hoS VT.ns VT.sa VT.sb VT.sc VT.sl VT.sh 0 100).1=4:=by decide+kernel
theorem Xz6:(hoS VT.ns VT.sa VT.sb VT.sc VT.sl VT.sh 1 100).1=2:=by decide+kernel
theorem Xz5:(hoS VT.ns VT.sa VT.sb VT.sc VT.sl VT.sh 2 100).1=4:=by decide+kernel
theorem Xz4:(hoS VT.ns VT.sa VT.sb VT.sc VT.sl VT.sh 3 100).1=0:=by decide+kernel
def PG{α:Type}:VL α->VL α
 | .fail=> .fail
 | .leaf a=> .leaf a
 | .branch b t f=>match b with
  |true=>PG t
  |false=>PG f
 | .need ps t=> .need ps (PG t)
 | .may p t f=> .may p (PG t) (PG f)
def Xi6(sp:UH):UH:=λs=>match sp s with
 |some t=>some (PG t)
 |none=>none
section
variable (n:Nat)(f:Nat->List AV)
def byB:Bool:=D4 (λj=>match f j with
 |[.x (.int .u8 c)]=>decide (0<=c)&&decide (c<256)
 |_=>false) n
def Zw0:Bool:=D4 (λj=>match f j with
 |[.x (.string _)]=>true
 |_=>false) n
end
theorem GZ{α:Type}{Q:α->Prop}: ∀{t:VL α},(PG t).sat Q->t.sat Q
 | .fail,h=>h
 | .leaf _,h=>h
 | .branch true _ _,h=>⟨λ_=>GZ h,λe=>Bool.noConfusion e⟩
 | .branch false _ _,h=>⟨λe=>Bool.noConfusion e,λ_=>GZ h⟩
 | .need _ _,h=>⟨h.1,GZ h.2⟩
 | .may _ _ _,h=>⟨λp=>GZ (h.1 p),GZ h.2⟩
theorem Zl3{P:Program}{ro:Option Nat}{cx:Cx}{c:Code}{sp:UH}(h:HH P ro cx c sp):HH P ro cx c (Xi6 sp):=by
 intro n s t ht Q hQ a w r;unfold Xi6 at ht;split at ht
 ·rename_i t0 h0;cases ht;exact h n s t0 h0 Q (GZ hQ) a w r
 ·cases ht
section
variable {n:Nat}{f:Nat->List AV}
theorem pT(h:byB n f=true):uS n f:=by
 intro j hj;have h1:=GR.1 h j hj;split at h1
 ·rename_i c hc;rw [H2,j8,j8] at h1;rw [hc];have e:byO [.x (.int .u8 c)]=c.toNat:=rfl;rw [e];refine ⟨VI,?_⟩;rw [show ((c.toNat:Nat):Int)=c by omega]
 ·cases h1
theorem bQ(h:Zw0 n f=true):jT n f:=by
 intro j hj;have h1:=GR.1 h j hj;split at h1
 ·rename_i s hc;rw [hc];rfl
 ·cases h1
end
noncomputable def Wy7:HY:=rO Tryz.prog [] {R:=[],H:=[(72,Xm4)] } [] Tryz.f42 (U6 Tryz.f42)
theorem Xk2:G9 VN 42 Wy7:=
 RJ (G:=[]) (X:={R:=[],H:=[(72,Xm4)] }) (L:=[]) (VJ.nil _) (VV.of (VP.nil _) (VM.cons Zl9 (VM.nil _))) VY (UF Tryz.func42) Tryz.func42 (US Tryz.f42) U2
noncomputable def fA:HY:=rO Tryz.prog [(73,dX),(74,dW)] WE [(Xi6 (λs=>some (kI Tryz.prog [(73,dX),(74,dW)] WE [] (U8 (VQ (U6 Tryz.f43) 0)) 10 s)))] Tryz.f43 (U6 Tryz.f43)
theorem iF:G9 VN 43 fA:=
 RJ (G:=[(73,dX),(74,dW)]) (X:=WE) (L:=[(Xi6 (λs=>some (kI Tryz.prog [(73,dX),(74,dW)] WE [] (U8 (VQ (U6 Tryz.f43) 0)) 10 s)))]) (VJ.cons TN (VJ.cons Qa6 (VJ.nil _))) (VV.of (VP.nil _) (VM.nil _)) VY (UF Tryz.func43) Tryz.func43 (US Tryz.f43) (G0 (lpE (b:= .loop (U8 (VQ (U6 Tryz.f43) 0))) VS<|λro cx=>Zl3 (yD (VJ.cons TN (VJ.cons Qa6 (VJ.nil _))) ((VV.of (VP.nil _) (VM.nil _)) cx) VY (λj cj hj sp hsp=>by simp at hsp) 10)))
noncomputable def Wy6:HY:=rO Tryz.prog [] {R:=[],H:=[(43,fA),(42,Wy7)] } [] Tryz.f41 (U6 Tryz.f41)
theorem xB:G9 VN 41 Wy6:=
 RJ (G:=[]) (X:={R:=[],H:=[(43,fA),(42,Wy7)] }) (L:=[]) (VJ.nil _) (VV.of (VP.nil _) (VM.cons iF (VM.cons Xk2 (VM.nil _)))) VY (UF Tryz.func41) Tryz.func41 (US Tryz.f41) U2
def A8:UV
 |[.x (.int .i64 a),.x (.int .i64 b)]=>some ([0<=a/\a<=1000\/ -1000<=a/\a<=1000,-1000<=b/\b<=1000,((⟨(Lib.itoa a).toArray⟩:ByteArray)++⟨#[46,46]⟩).size+(⟨(Lib.itoa b).toArray⟩:ByteArray).size<=100],.x (.string ((⟨(Lib.itoa a).toArray⟩++⟨#[46,46]⟩)++⟨(Lib.itoa b).toArray⟩)))
 |_=>none
theorem Wk6(a b:Int)(VR:0<=a/\a<=1000\/ -1000<=a/\a<=1000)(UE: -1000<=b/\b<=1000)(HP:((⟨(Lib.itoa a).toArray⟩:ByteArray)++⟨#[46,46]⟩).size+(⟨(Lib.itoa b).toArray⟩:ByteArray).size<=100):VW VN 46 [i a,i b] (.x (.string ((⟨(Lib.itoa a).toArray⟩++⟨#[46,46]⟩)++⟨(Lib.itoa b).toArray⟩))):=by
 refine U0 (L:=[]) (VJ.cons TN (VJ.nil _)) VY Tryz.func46 (US Tryz.f46) U2 (t:=need [VK a] (need [(↑(ByteArray.size {data:=List.toArray (Lib.itoa a) }+ByteArray.size {data:=#[46,46] }):Int)<=9223372036854775807] (need [VK b] (need [(↑(ByteArray.size ({data:=List.toArray (Lib.itoa a) }++{data:=#[46,46] })+ByteArray.size {data:=List.toArray (Lib.itoa b) }):Int)<=9223372036854775807] (leaf (RV.x (.string ({data:=List.toArray (Lib.itoa a) }++{data:=#[46,46] }++{data:=List.toArray (Lib.itoa b) })))))))) VS ?_;rw [ByteArray.size_append] at HP;simp only [VL.sat,UA,UZ,UC,UG,VK,ByteArray.size_append];all_goals exact V5
theorem xA:VO VN 46 A8:=by
 refine ⟨(UF Tryz.func46),?_⟩;intro avs ns res h hn;unfold A8 at h;split at h
 ·cases h;exact Wk6 _ _ (hn _ VU) (hn _ VU) (hn _ VU)
 ·cases h
def Ze8:ByteArray:=⟨#[114,101,97,100,105,110,103,115,32,50,32,98,97,116,104,115,32,50,32,99,101,114,116,105,102,105,99,97,116,101,115,32,49,32,115,97,108,101,115,32,50,10,109,97,114,107,115,32,48,46,46,48,32,50,48,48,46,46,51,48,48,32,52,49,48,46,46,53,49,48,32,55,48,48,46,46,56,48,48,32,49,48,48,48,46,46,49,48,48,48,10,111,102,102,115,101,116,115,32,48,46,46,48,32,49,46,46,53,32,45,51,46,46,53,10,115,116,97,110,100,32,48,10,104,111,108,100,32,52,32,50,32,52,32,48,10]⟩
def sL:UV:=λl=>some ([l=[lns 11 (UL U5)]],i 0)
def Qg6:D7:=λl=>some (.need [l=[lns 11 (UL U5)]] (.leaf (.tup [.ro (hsL VT),.lst 1 11 (exG (UL U5))])))
def Ww7:UV:=λl=>some ([l=[.agg [i 4,i 100,i 20,i 30,hsR VT,.lst 2 3 (λk=>[i (tbP k),i (tbQ k)]),i VT.pl,i VT.ph,i 1,i 3],i 0]],.tup [.lst 2 5 (λk=>[i (U7 [0,200,410,700,1000] k),i (U7 [0,300,510,800,1000] k)]),i 0])
def sI:UV:=λl=>some ([l=[.agg [ofs,i 1,hsB VT]]],.tup [.lst 2 3 (λk=>[i (U7 [0,1,-3] k),i (U7 [0,5,5] k)]),i 0])
def sH:UV:=λl=>some ([l=[.agg (hsL VT),.agg [i (VT.ca 0),i (VT.cb 0),i (VT.cc 0),i (VT.cd 0),bl (VT.cv 0)],i (VT.cd 0)]],bl true)
def Ww6:D7:=λl=>match l with
 |[b,.x (.int .i64 ow),d]=>some (.need [b= .agg [i 4,i 10,hsS VT],d=i 100,0<=ow/\ow<=3] (.leaf (.tup [.agg [i (U7 [4,2,4,0] ow.toNat),i (hoS VT.ns VT.sa VT.sb VT.sc VT.sl VT.sh ow 100).2],i 0])))
 |_=>none
theorem Zu7:sK (UL U5) 0=hs0:=rfl
theorem Zu6:sK (UL U5) 1=wk1:=by
 show lnS (UL U5 0) (sK (UL U5) 0)=_;rw [Zu7];unfold lnS;rw [if_pos Qw0];exact Xo4
theorem Zu5:sK (UL U5) 2=wk2:=by
 show lnS (UL U5 1) (sK (UL U5) 1)=_;rw [Zu6];unfold lnS;rw [if_pos Qv9];exact Xo3
theorem Zu4:sK (UL U5) 3=wk3:=by
 show lnS (UL U5 2) (sK (UL U5) 2)=_;rw [Zu5];unfold lnS;rw [if_pos Qv8];exact Xo2
theorem Zu3:sK (UL U5) 4=wk4:=by
 show lnS (UL U5 3) (sK (UL U5) 3)=_;rw [Zu4];unfold lnS;rw [if_pos Qv7];exact Xo1
theorem Zu2:sK (UL U5) 5=wk5:=by
 show lnS (UL U5 4) (sK (UL U5) 4)=_;rw [Zu3];unfold lnS;rw [if_pos Qv6];exact Xo0
theorem Zu1:sK (UL U5) 6=wk6:=by
 show lnS (UL U5 5) (sK (UL U5) 5)=_;rw [Zu2];unfold lnS;rw [if_pos Qv5];exact Xn9
theorem Zu0:sK (UL U5) 7=wk7:=by
 show lnS (UL U5 6) (sK (UL U5) 6)=_;rw [Zu1];unfold lnS;rw [if_pos Qv4];exact Xn8
theorem Zt9:sK (UL U5) 8=wk8:=by
 show lnS (UL U5 7) (sK (UL U5) 7)=_;rw [Zu0];unfold lnS;rw [if_pos Qv3];exact Xn7
theorem Zt8:sK (UL U5) 9=wk9:=by
 show lnS (UL U5 8) (sK (UL U5) 8)=_;rw [Zt9];unfold lnS;rw [if_pos Qv2];exact Xn6
theorem Xz3:sK (UL U5) 10=Qi9:=by
 show lnS (UL U5 9) (sK (UL U5) 9)=_;rw [Zt8];unfold lnS;rw [if_pos Qv1];exact Xn5
theorem AD:sK (UL U5) 11=VT:=by
 show lnS (UL U5 10) (sK (UL U5) 10)=_;rw [Xz3];unfold lnS;rw [if_pos mU];exact Qu3
theorem bJ:ckE 11 (UL U5)=0:=by decide+kernel
theorem kZ:VO VN 30 sL:=by
 refine ⟨(UF Tryz.func30),?_⟩;intro avs ns res h hn;cases h;have e:avs=[lns 11 (UL U5)]:=hn _ GD;subst e;have h1:=O7 11 (UL U5) VI;rw [bJ] at h1;exact h1
theorem wY:Sx.Enters Tryz.prog 33/\ ∀avs t,Qg6 avs=some t->UM VN 33 avs t:=by
 refine ⟨(UF Tryz.func33),?_⟩;intro avs t h;cases h;intro Q hQ;have e:avs=[lns 11 (UL U5)]:=hQ.1;subst e;have hk:=r8 bJ;have h1:=i9 11 (UL U5) hk.1 (λk h=>by have:=hk.2 k h;omega) Q
 rw [AD] at h1;exact h1 hQ.2
theorem kW:LZ VN 44 Ww7:=by
 refine ⟨(UF Tryz.func44),?_⟩;intro avs ns res h hn;cases h;have e:avs=[.agg [i 4,i 100,i 20,i 30,hsR VT,.lst 2 3 (λk=>[i (tbP k),i (tbQ k)]),i VT.pl,i VT.ph,i 1,i 3],i 0]:=hn _ GD
 subst e;intro e w args q1 q2 q3 q4;refine (vV 4 100 20 30 VT.nr VT.ra VT.rb VT.ru VT.rv 3 tbP tbQ VT.pl VT.ph 1 3 0 e w args q1 q2 q3 q4).mono ?_;rintro en w' ⟨v,rfl,g1,g2⟩;refine ⟨v,rfl,g1,LN ?_ g2⟩;rw [show hdE 4 100 20 30 VT.nr VT.ra VT.rb VT.ru VT.rv 3 tbP tbQ VT.pl VT.ph 1 3 0=0 by decide+kernel]
 refine ⟨⟨rfl,Zu8,λk hk=>?_⟩,⟨rfl,rfl⟩,True.intro⟩
 rcases (show k=0\/k=1\/k=2\/k=3\/k=4 by omega) with rfl|rfl|rfl|rfl|rfl
 ·show [i _,i _]=_;rw [Za2,Za7];rfl
 ·show [i _,i _]=_;rw [Za1,Za6];rfl
 ·show [i _,i _]=_;rw [Za0,Za5];rfl
 ·show [i _,i _]=_;rw [Xz9,Za4];rfl
 ·show [i _,i _]=_;rw [Xz8,Za3];rfl
theorem bI:gP VT:=by
 have h:=jE (UL U5) 11;rw [AD] at h;exact h
theorem kS:VO VN 35 sI:=by
 refine ⟨(UF Tryz.func35),?_⟩;intro avs ns res h hn;cases h;have e:avs=[.agg [ofs,i 1,hsB VT]]:=hn _ GD;subst e;intro e w args q1 q2 q3 q4;refine (kC VT.nb VT.ql VT.qh VT.qm VT.qr VT.qv bI.bV e w args q1 q2 q3 q4).mono ?_;rintro en w' ⟨v,rfl,g1,g2⟩;refine ⟨v,rfl,g1,LN ?_ g2⟩;rw [Xo6];refine ⟨⟨rfl,Xo5,λk hk=>?_⟩,⟨rfl,rfl⟩,True.intro⟩
 rcases (show k=0\/k=1\/k=2 by omega) with rfl|rfl|rfl
 ·show [i _,i _]=_;rw [Qu6,Qu9];rfl
 ·show [i _,i _]=_;rw [Qu5,Qu8];rfl
 ·show [i _,i _]=_;rw [Qu4,Qu7];rfl
theorem kK:VO VN 38 sH:=by
 refine ⟨(UF Tryz.func38),?_⟩;intro avs ns res h hn;cases h;have e:avs=[.agg (hsL VT),.agg [i (VT.ca 0),i (VT.cb 0),i (VT.cc 0),i (VT.cd 0),bl (VT.cv 0)],i (VT.cd 0)]:=hn _ GD;subst e;have h1:=ES VT (VT.ca 0) (VT.cb 0) (VT.cc 0) (VT.cd 0) (VT.cv 0) (VT.cd 0);have h2:stB VT (VT.ca 0) (VT.cb 0) (VT.cc 0) (VT.cd 0) (VT.cv 0) (VT.cd 0)=true:=by
  have h3:VT.cd 0=0:=VS;have h4:=Qu2;unfold stP at h4;rw [h3] at h4 ⊢;exact h4
 rw [h2] at h1;exact h1
theorem dH:Sx.Enters Tryz.prog 11/\ ∀avs t,Ww6 avs=some t->UM VN 11 avs t:=by
 refine ⟨(UF Tryz.func11),?_⟩;intro avs t h;unfold Ww6 at h;split at h
 ·rename_i b ow d;cases h;intro Q hQ;obtain ⟨⟨e1,e2,e3,_⟩,hq⟩:=hQ;subst e1 e2;refine NG VT.ns VT.sa VT.sb VT.sc VT.sl VT.sh ow 100 bI.sV Q ?_;have hb:(bt 0 ow 3&&bt 0 100 100)=true:=by
   rw [H2,Bo.bt_iff,Bo.bt_iff];omega
  refine ⟨λ_=>⟨λh=>?_,λ_=>?_⟩,λh=>Bool.noConfusion (hb.symm.trans h)⟩
  ·rw [Qv0] at h;exact Bool.noConfusion h
  ·have ho:(hoS VT.ns VT.sa VT.sb VT.sc VT.sl VT.sh ow 100).1=U7 [4,2,4,0] ow.toNat:=by
    rcases (show ow=0\/ow=1\/ow=2\/ow=3 by omega) with rfl|rfl|rfl|rfl
    ·exact Xz7
    ·exact Xz6
    ·exact Xz5
    ·exact Xz4
   show Q _;rw [ho];exact hq
 ·cases h
def wvS(s:ByteArray):AV:= .x (.iface 9 (.string s))
def wvI(n:Int):AV:= .x (.iface 3 (.int .i64 n))
def GX(l:List AV)(k:Nat):List AV:=[l.getD k .top]
def wl0:List AV:=[wvS ⟨#[109,97,114,107,115]⟩,wvS ⟨#[48,46,46,48]⟩,wvS ⟨#[50,48,48,46,46,51,48,48]⟩,wvS ⟨#[52,49,48,46,46,53,49,48]⟩,wvS ⟨#[55,48,48,46,46,56,48,48]⟩,wvS ⟨#[49,48,48,48,46,46,49,48,48,48]⟩]
def wl1:List AV:=[wvS ⟨#[111,102,102,115,101,116,115]⟩,wvS ⟨#[48,46,46,48]⟩,wvS ⟨#[49,46,46,53]⟩,wvS ⟨#[45,51,46,46,53]⟩]
def wl2:List AV:=[wvS ⟨#[115,116,97,110,100]⟩,wvI 0]
def wl3:List AV:=[wvS ⟨#[104,111,108,100]⟩,wvI 4,wvI 2,wvI 4,wvI 0]
def rp0:ByteArray:=⟨#[114,101,97,100,105,110,103,115,32,50,32,98,97,116,104,115,32,50,32,99,101,114,116,105,102,105,99,97,116,101,115,32,49,32,115,97,108,101,115,32,50,10]⟩
def rp1:ByteArray:=⟨#[114,101,97,100,105,110,103,115,32,50,32,98,97,116,104,115,32,50,32,99,101,114,116,105,102,105,99,97,116,101,115,32,49,32,115,97,108,101,115,32,50,10,109,97,114,107,115,32,48,46,46,48,32,50,48,48,46,46,51,48,48,32,52,49,48,46,46,53,49,48,32,55,48,48,46,46,56,48,48,32,49,48,48,48,46,46,49,48,48,48,10]⟩
def rp2:ByteArray:=⟨#[114,101,97,100,105,110,103,115,32,50,32,98,97,116,104,115,32,50,32,99,101,114,116,105,102,105,99,97,116,101,115,32,49,32,115,97,108,101,115,32,50,10,109,97,114,107,115,32,48,46,46,48,32,50,48,48,46,46,51,48,48,32,52,49,48,46,46,53,49,48,32,55,48,48,46,46,56,48,48,32,49,48,48,48,46,46,49,48,48,48,10,111,102,102,115,101,116,115,32,48,46,46,48,32,49,46,46,53,32,45,51,46,46,53,10]⟩
def rp3:ByteArray:=⟨#[114,101,97,100,105,110,103,115,32,50,32,98,97,116,104,115,32,50,32,99,101,114,116,105,102,105,99,97,116,101,115,32,49,32,115,97,108,101,115,32,50,10,109,97,114,107,115,32,48,46,46,48,32,50,48,48,46,46,51,48,48,32,52,49,48,46,46,53,49,48,32,55,48,48,46,46,56,48,48,32,49,48,48,48,46,46,49,48,48,48,10,111,102,102,115,101,116,115,32,48,46,46,48,32,49,46,46,53,32,45,51,46,46,53,10,115,116,97,110,100,32,48,10]⟩
def rp4:ByteArray:=⟨#[114,101,97,100,105,110,103,115,32,50,32,98,97,116,104,115,32,50,32,99,101,114,116,105,102,105,99,97,116,101,115,32,49,32,115,97,108,101,115,32,50,10,109,97,114,107,115,32,48,46,46,48,32,50,48,48,46,46,51,48,48,32,52,49,48,46,46,53,49,48,32,55,48,48,46,46,56,48,48,32,49,48,48,48,46,46,49,48,48,48,10,111,102,102,115,101,116,115,32,48,46,46,48,32,49,46,46,53,32,45,51,46,46,53,10,115,116,97,110,100,32,48,10,104,111,108,100,32,52,32,50,32,52,32,48,10]⟩
def eqBy(n:Nat)(F:Nat->List AV)(B:ByteArray):Bool:=D4 (λj=>match F j with
 |[.x (.int .u8 c)]=>decide (c=byN B j)
 |_=>false) n
theorem Qc0{n:Nat}{F:Nat->List AV}{B:ByteArray}(h:eqBy n F B=true): ∀i,i<n->F i=DK B i:=by
 intro j hj;have h1:=GR.1 h j hj;split at h1
 ·rename_i c hc;rw [hc,qL h1];rfl
 ·cases h1
theorem ltM{n:Nat}{f g:Nat->List AV}(h:(List.range n).map f=(List.range n).map g): ∀i,i<n->f i=g i:=λi hi=>by
 have e:=congrArg (λl=>l[i]?) h
 simpa [hi] using e
abbrev JI:GY:=[(920,.row 20 1 1 (GX wl0)),(921,.row 20 1 1 (GX wl1)),(922,.row 20 1 1 (GX wl2)),(923,.row 20 1 1 (GX wl3)),(911,.row 5 1 42 (DK rp0)),(14,.cells 110 [.ptr 14 0,.row 911])]
def rC(z:Nat):St:=((some {σ:=mkS 198 [(0,.top),(5,.ro (hsL VT)),(7,.ptr 14 0),(8,.fn (.func 41) [] [.ptr 14 0]),(9,.row 920),(10,.row 921),(11,.row 922),(12,.row 923),(91,.lst 2 5 (λk=>[i (U7 [0,200,410,700,1000] k),i (U7 [0,300,510,800,1000] k)])),(92,i 5),(93,i 0)],m:=JI,nx:=930}:Option St):Option St).getD {σ:=[],m:=[],nx:=0}
noncomputable def rE:Code:=U8 (VQ (U6 Tryz.f24) 0)
abbrev WW:GY:=[(920,.row 20 1 6 (GX wl0)),(921,.row 20 1 1 (GX wl1)),(922,.row 20 1 1 (GX wl2)),(923,.row 20 1 1 (GX wl3)),(911,.row 5 1 42 (DK rp0)),(14,.cells 110 [.ptr 14 0,.row 911])]
section
variable (z:Nat)
def DM:Nat->St
 | 0=>{σ:=H3 [(91,.lst 2 5 (λk=>[i (U7 [0,200,410,700,1000] k),i (U7 [0,300,510,800,1000] k)])),(92,i 5),(93,i 0)] (rC z).σ,m:=JI,nx:=930}
 | 1=>{σ:=H3 [(91,.lst 2 5 (λk=>[i (U7 [0,200,410,700,1000] k),i (U7 [0,300,510,800,1000] k)])),(92,i 5),(93,i 1)] (rC z).σ,m:=[(920,.row 20 1 2 (GX wl0)),(921,.row 20 1 1 (GX wl1)),(922,.row 20 1 1 (GX wl2)),(923,.row 20 1 1 (GX wl3)),(911,.row 5 1 42 (DK rp0)),(14,.cells 110 [.ptr 14 0,.row 911])],nx:=930}
 | 2=>{σ:=H3 [(91,.lst 2 5 (λk=>[i (U7 [0,200,410,700,1000] k),i (U7 [0,300,510,800,1000] k)])),(92,i 5),(93,i 2)] (rC z).σ,m:=[(920,.row 20 1 3 (GX wl0)),(921,.row 20 1 1 (GX wl1)),(922,.row 20 1 1 (GX wl2)),(923,.row 20 1 1 (GX wl3)),(911,.row 5 1 42 (DK rp0)),(14,.cells 110 [.ptr 14 0,.row 911])],nx:=930}
 | 3=>{σ:=H3 [(91,.lst 2 5 (λk=>[i (U7 [0,200,410,700,1000] k),i (U7 [0,300,510,800,1000] k)])),(92,i 5),(93,i 3)] (rC z).σ,m:=[(920,.row 20 1 4 (GX wl0)),(921,.row 20 1 1 (GX wl1)),(922,.row 20 1 1 (GX wl2)),(923,.row 20 1 1 (GX wl3)),(911,.row 5 1 42 (DK rp0)),(14,.cells 110 [.ptr 14 0,.row 911])],nx:=930}
 | 4=>{σ:=H3 [(91,.lst 2 5 (λk=>[i (U7 [0,200,410,700,1000] k),i (U7 [0,300,510,800,1000] k)])),(92,i 5),(93,i 4)] (rC z).σ,m:=[(920,.row 20 1 5 (GX wl0)),(921,.row 20 1 1 (GX wl1)),(922,.row 20 1 1 (GX wl2)),(923,.row 20 1 1 (GX wl3)),(911,.row 5 1 42 (DK rp0)),(14,.cells 110 [.ptr 14 0,.row 911])],nx:=930}
 |_=>{σ:=H3 [(91,.lst 2 5 (λk=>[i (U7 [0,200,410,700,1000] k),i (U7 [0,300,510,800,1000] k)])),(92,i 5),(93,i 5)] (rC z).σ,m:=WW,nx:=930}
def DD:G6->Option St
 | .exit 0=>some {σ:=H3 [(91,.lst 2 5 (λk=>[i (U7 [0,200,410,700,1000] k),i (U7 [0,300,510,800,1000] k)])),(92,i 5),(93,i 5)] (rC z).σ,m:=WW,nx:=930}
 |_=>none
def IX:CT:= .leaf (.exit 0,(DD z (.exit 0)).getD (rC z))
abbrev QF:List (Pl×Nat×TypeId×Nat):=[(.slot 9,920,20,1),(.slot 10,921,20,1),(.slot 11,922,20,1),(.slot 12,923,20,1),(.cell 14 1,911,5,1)]
def Wx8:UH:=GJ QF (HF (DM z 0) (IX z))
abbrev Q6:Prop:=AV.ro [hR 2 VT,iI VT.pl,iI VT.ph,hY 2 VT,hC 1 VT,hT 2 VT]=AV.ro [hR 2 VT,iI VT.pl,iI VT.ph,hY 2 VT,hC 1 VT,hT 2 VT]
noncomputable abbrev Q9:Ext:={R:=[(44,Ww7),(45,L3),(36,xP),(40,M1)],H:=[(41,Wy6),(47,Wy5)],C:=[(33,Qg6),(11,Ww6)] }
abbrev QG:List Int:=[(0:Int),200,410,700,1000]
abbrev QJ:List Int:=[(0:Int),300,510,800,1000]
abbrev QN:Prop:=AV.fn (Fn.func 41) [] [ptr 14 0]=AV.fn (Fn.func 41) [] [ptr 14 0]
abbrev QW:List (Nat×UV):=[(30,sL),(35,sI),(38,sH),(46,A8)]
abbrev WB:Prop:=ptr 14 0=ptr 14 0
abbrev WR:AV:=lst 2 5 λk=>[iI (U7 QG k),iI (U7 QJ k)]
abbrev WZ:Prop:=AV.row 911=AV.row 911
abbrev XY:Prop:=AV.row 920=AV.row 920
abbrev XZ:Prop:=AV.row 921=AV.row 921
abbrev Z0:Prop:=AV.row 922=AV.row 922
abbrev Z1:Prop:=AV.row 923=AV.row 923
theorem Ze6:PG (HV VN QW Q9 [] QF rE (DM z 0) (DM z 1) (DD z))=(let z0:=([AV.x (.iface 9 (.string ({data:=List.toArray (Lib.itoa (U7 QG (0:Int).toNat)) }++{data:=#[46,46] }++{data:=List.toArray (Lib.itoa (U7 QJ (0:Int).toNat)) })))]);(need [UI 0 5] (need [(0:Int)<=U7 QG (0:Int).toNat/\U7 QG (0:Int).toNat<=1000\/(-1000:Int)<=U7 QG (0:Int).toNat/\U7 QG (0:Int).toNat<=1000,(-1000:Int)<=U7 QJ (0:Int).toNat/\U7 QJ (0:Int).toNat<=1000,4<=100] (need [32<=140737488355328,∀(i:Nat),i<1-> ∀(a:AV),a∈U4 1 z0 i->AV.one a=true] (need [VK ((0:Int)+1)] (need [Q6,WB,QN,XY,XZ,Z0,Z1,WR=WR,J4,(0:Int)+1=1,2=2,GT 2 (GG 1 (GX wl0) (U4 1 z0)) (GX wl0),1=1,GN 1 (GX wl1),1=1,GN 1 (GX wl2),1=1,GN 1 (GX wl3),42=42,GN 42 (DK rp0),WB,WZ] (leaf G6.normal))))))):=by
 kernel_rfl
theorem Ze5:PG (HV VN QW Q9 [] QF rE (DM z 1) (DM z 2) (DD z))=(let z0:=([AV.x (.iface 9 (.string ({data:=List.toArray (Lib.itoa (U7 QG (1:Int).toNat)) }++{data:=#[46,46] }++{data:=List.toArray (Lib.itoa (U7 QJ (1:Int).toNat)) })))]);(need [UI 1 5] (need [(0:Int)<=U7 QG (1:Int).toNat/\U7 QG (1:Int).toNat<=1000\/(-1000:Int)<=U7 QG (1:Int).toNat/\U7 QG (1:Int).toNat<=1000,(-1000:Int)<=U7 QJ (1:Int).toNat/\U7 QJ (1:Int).toNat<=1000,8<=100] (need [48<=140737488355328,∀(i:Nat),i<1-> ∀(a:AV),a∈U4 1 z0 i->AV.one a=true] (need [VK ((1:Int)+1)] (need [Q6,WB,QN,XY,XZ,Z0,Z1,WR=WR,J4,(1:Int)+1=2,3=3,GT 3 (GG 2 (GX wl0) (U4 1 z0)) (GX wl0),1=1,GN 1 (GX wl1),1=1,GN 1 (GX wl2),1=1,GN 1 (GX wl3),42=42,GN 42 (DK rp0),WB,WZ] (leaf G6.normal))))))):=by
 kernel_rfl
theorem Ze4:PG (HV VN QW Q9 [] QF rE (DM z 2) (DM z 3) (DD z))=(let z0:=([AV.x (.iface 9 (.string ({data:=List.toArray (Lib.itoa (U7 QG (2:Int).toNat)) }++{data:=#[46,46] }++{data:=List.toArray (Lib.itoa (U7 QJ (2:Int).toNat)) })))]);(need [UI 2 5] (need [(0:Int)<=U7 QG (2:Int).toNat/\U7 QG (2:Int).toNat<=1000\/(-1000:Int)<=U7 QG (2:Int).toNat/\U7 QG (2:Int).toNat<=1000,(-1000:Int)<=U7 QJ (2:Int).toNat/\U7 QJ (2:Int).toNat<=1000,8<=100] (need [64<=140737488355328,∀(i:Nat),i<1-> ∀(a:AV),a∈U4 1 z0 i->AV.one a=true] (need [VK ((2:Int)+1)] (need [Q6,WB,QN,XY,XZ,Z0,Z1,WR=WR,J4,(2:Int)+1=3,4=4,GT 4 (GG 3 (GX wl0) (U4 1 z0)) (GX wl0),1=1,GN 1 (GX wl1),1=1,GN 1 (GX wl2),1=1,GN 1 (GX wl3),42=42,GN 42 (DK rp0),WB,WZ] (leaf G6.normal))))))):=by
 kernel_rfl
theorem Ze3:PG (HV VN QW Q9 [] QF rE (DM z 3) (DM z 4) (DD z))=(let z0:=([AV.x (.iface 9 (.string ({data:=List.toArray (Lib.itoa (U7 QG (3:Int).toNat)) }++{data:=#[46,46] }++{data:=List.toArray (Lib.itoa (U7 QJ (3:Int).toNat)) })))]);(need [UI 3 5] (need [(0:Int)<=U7 QG (3:Int).toNat/\U7 QG (3:Int).toNat<=1000\/(-1000:Int)<=U7 QG (3:Int).toNat/\U7 QG (3:Int).toNat<=1000,(-1000:Int)<=U7 QJ (3:Int).toNat/\U7 QJ (3:Int).toNat<=1000,8<=100] (need [80<=140737488355328,∀(i:Nat),i<1-> ∀(a:AV),a∈U4 1 z0 i->AV.one a=true] (need [VK ((3:Int)+1)] (need [Q6,WB,QN,XY,XZ,Z0,Z1,WR=WR,J4,(3:Int)+1=4,5=5,GT 5 (GG 4 (GX wl0) (U4 1 z0)) (GX wl0),1=1,GN 1 (GX wl1),1=1,GN 1 (GX wl2),1=1,GN 1 (GX wl3),42=42,GN 42 (DK rp0),WB,WZ] (leaf G6.normal))))))):=by
 kernel_rfl
theorem Ze2:PG (HV VN QW Q9 [] QF rE (DM z 4) (DM z 5) (DD z))=(let z0:=([AV.x (.iface 9 (.string ({data:=List.toArray (Lib.itoa (U7 QG (4:Int).toNat)) }++{data:=#[46,46] }++{data:=List.toArray (Lib.itoa (U7 QJ (4:Int).toNat)) })))]);(need [UI 4 5] (need [(0:Int)<=U7 QG (4:Int).toNat/\U7 QG (4:Int).toNat<=1000\/(-1000:Int)<=U7 QG (4:Int).toNat/\U7 QG (4:Int).toNat<=1000,(-1000:Int)<=U7 QJ (4:Int).toNat/\U7 QJ (4:Int).toNat<=1000,10<=100] (need [96<=140737488355328,∀(i:Nat),i<1-> ∀(a:AV),a∈U4 1 z0 i->AV.one a=true] (need [VK ((4:Int)+1)] (need [Q6,WB,QN,XY,XZ,Z0,Z1,WR=WR,J4,(4:Int)+1=5,6=6,GT 6 (GG 5 (GX wl0) (U4 1 z0)) (GX wl0),1=1,GN 1 (GX wl1),1=1,GN 1 (GX wl2),1=1,GN 1 (GX wl3),42=42,GN 42 (DK rp0),WB,WZ] (leaf G6.normal))))))):=by
 kernel_rfl
theorem Ze1:PG (HV VN QW Q9 [] QF rE (DM z 5) (DM z 5) (DD z))=(need [Q6,WB,QN,XY,XZ,Z0,Z1,WR=WR,J4,J4,6=6,GN 6 (GX wl0),1=1,GN 1 (GX wl1),1=1,GN 1 (GX wl2),1=1,GN 1 (GX wl3),42=42,GN 42 (DK rp0),WB,WZ] (leaf (G6.exit 0))):=by
 kernel_rfl
end
theorem YX{p:Prop}(h:p:=by
 (with_reducible repeat' first|apply And.intro|intro _)
 all_goals first|exact True.intro|(rename_i E hE;cases hE;exact hQ)|contradiction|omega|exact FN (by assumption) (by simp [AV.one,Value.oneCell'])|(rename_i i hi;exact Qc0 (by decide+kernel) i hi)|(rename_i i hi;exact ltM VS i hi)|exact bQ (by decide+kernel)|exact pT (by decide+kernel)|decide+kernel|with_reducible rfl|rfl):p:=h
theorem Ze7(z:Nat):G7 VN (.loop rE) (Wx8 z):=by
 refine UX QF (L:=[]) (VJ.cons kZ (VJ.cons kS (VJ.cons kK (VJ.cons xA (VJ.nil _))))) (VV.ofC (VP.cons kW (VP.cons F7 (VP.cons RA (VP.cons LX (VP.nil _))))) (VM.cons xB (VM.cons kJ (VM.nil _))) (U9.cons wY (U9.cons dH (U9.nil _)))) VY U2 (X:=Nat) (DM z) (λk=>k<=5) (λk=>6-k) (λ_=>DD z) (x0:=0) (Nat.zero_le _) ?_ ?_ ?_
 ·intro k
  match k with
  | 0=>
   show Sx.okB (DM z 0)=true;kernel_rfl
  | 1=>
   show Sx.okB (DM z 1)=true;kernel_rfl
  | 2=>
   show Sx.okB (DM z 2)=true;kernel_rfl
  | 3=>
   show Sx.okB (DM z 3)=true;kernel_rfl
  | 4=>
   show Sx.okB (DM z 4)=true;kernel_rfl
  |k+5=>
   show Sx.okB (DM z 5)=true;kernel_rfl
 ·intro k y E h;unfold DD at h;split at h
  ·cases h;kernel_rfl
  ·cases h
 ·intro Q hQ k hx
  match k with
  | 0=>
   refine ⟨1,?_⟩
   with_reducible refine GZ ?_
   rw [Ze6];simp only [IX,DD,VL.sat,GS] at hQ;simp only [VL.sat,UA,UG,VK,DD];exact YX
  | 1=>
   refine ⟨2,?_⟩
   with_reducible refine GZ ?_
   rw [Ze5];simp only [IX,DD,VL.sat,GS] at hQ;simp only [VL.sat,UA,UG,VK,DD];exact YX
  | 2=>
   refine ⟨3,?_⟩
   with_reducible refine GZ ?_
   rw [Ze4];simp only [IX,DD,VL.sat,GS] at hQ;simp only [VL.sat,UA,UG,VK,DD];exact YX
  | 3=>
   refine ⟨4,?_⟩
   with_reducible refine GZ ?_
   rw [Ze3];simp only [IX,DD,VL.sat,GS] at hQ;simp only [VL.sat,UA,UG,VK,DD];exact YX
  | 4=>
   refine ⟨5,?_⟩
   with_reducible refine GZ ?_
   rw [Ze2];simp only [IX,DD,VL.sat,GS] at hQ;simp only [VL.sat,UA,UG,VK,DD];exact YX
  | 5=>
   refine ⟨5,?_⟩
   with_reducible refine GZ ?_
   rw [Ze1];simp only [IX,DD,VL.sat,GS] at hQ;simp only [VL.sat,UA,UG,VK,DD];exact YX
  |k+6=>omega
def SA(z:Nat):St:=((some {σ:=mkS 198 [(0,.top),(5,.ro (hsL VT)),(7,.ptr 14 0),(8,.fn (.func 41) [] [.ptr 14 0]),(9,.row 920),(10,.row 921),(11,.row 922),(12,.row 923),(116,.lst 2 3 (λk=>[i (U7 [0,1,-3] k),i (U7 [0,5,5] k)])),(117,i 3),(118,i 0)],m:=WW,nx:=930}:Option St):Option St).getD {σ:=[],m:=[],nx:=0}
noncomputable def SC:Code:=U8 (VQ (U6 Tryz.f24) 1)
abbrev WX:GY:=[(920,.row 20 1 6 (GX wl0)),(921,.row 20 1 4 (GX wl1)),(922,.row 20 1 1 (GX wl2)),(923,.row 20 1 1 (GX wl3)),(911,.row 5 1 42 (DK rp0)),(14,.cells 110 [.ptr 14 0,.row 911])]
section
variable (z:Nat)
def RP:Nat->St
 | 0=>{σ:=H3 [(116,.lst 2 3 (λk=>[i (U7 [0,1,-3] k),i (U7 [0,5,5] k)])),(117,i 3),(118,i 0)] (SA z).σ,m:=WW,nx:=930}
 | 1=>{σ:=H3 [(116,.lst 2 3 (λk=>[i (U7 [0,1,-3] k),i (U7 [0,5,5] k)])),(117,i 3),(118,i 1)] (SA z).σ,m:=[(920,.row 20 1 6 (GX wl0)),(921,.row 20 1 2 (GX wl1)),(922,.row 20 1 1 (GX wl2)),(923,.row 20 1 1 (GX wl3)),(911,.row 5 1 42 (DK rp0)),(14,.cells 110 [.ptr 14 0,.row 911])],nx:=930}
 | 2=>{σ:=H3 [(116,.lst 2 3 (λk=>[i (U7 [0,1,-3] k),i (U7 [0,5,5] k)])),(117,i 3),(118,i 2)] (SA z).σ,m:=[(920,.row 20 1 6 (GX wl0)),(921,.row 20 1 3 (GX wl1)),(922,.row 20 1 1 (GX wl2)),(923,.row 20 1 1 (GX wl3)),(911,.row 5 1 42 (DK rp0)),(14,.cells 110 [.ptr 14 0,.row 911])],nx:=930}
 |_=>{σ:=H3 [(116,.lst 2 3 (λk=>[i (U7 [0,1,-3] k),i (U7 [0,5,5] k)])),(117,i 3),(118,i 3)] (SA z).σ,m:=WX,nx:=930}
def RC:G6->Option St
 | .exit 2=>some {σ:=H3 [(116,.lst 2 3 (λk=>[i (U7 [0,1,-3] k),i (U7 [0,5,5] k)])),(117,i 3),(118,i 3)] (SA z).σ,m:=WX,nx:=930}
 |_=>none
def lP:CT:= .leaf (.exit 2,(RC z (.exit 2)).getD (SA z))
def Wx7:UH:=GJ QF (HF (RP z 0) (lP z))
abbrev W7:AV:=lst 2 3 λk=>[iI (U7 [(0:Int),1,-3] k),iI (U7 [(0:Int),5,5] k)]
abbrev WU:List Int:=[(0:Int),1,-3]
abbrev Z6:List Int:=[(0:Int),5,5]
theorem Zd9:PG (HV VN QW Q9 [] QF SC (RP z 0) (RP z 1) (RC z))=(let z0:=([AV.x (.iface 9 (.string ({data:=List.toArray (Lib.itoa (U7 WU (0:Int).toNat)) }++{data:=#[46,46] }++{data:=List.toArray (Lib.itoa (U7 Z6 (0:Int).toNat)) })))]);(need [UI 0 3] (need [(0:Int)<=U7 WU (0:Int).toNat/\U7 WU (0:Int).toNat<=1000\/(-1000:Int)<=U7 WU (0:Int).toNat/\U7 WU (0:Int).toNat<=1000,(-1000:Int)<=U7 Z6 (0:Int).toNat/\U7 Z6 (0:Int).toNat<=1000,4<=100] (need [32<=140737488355328,∀(i:Nat),i<1-> ∀(a:AV),a∈U4 1 z0 i->AV.one a=true] (need [VK ((0:Int)+1)] (need [Q6,WB,QN,XY,XZ,Z0,Z1,W7=W7,XE,(0:Int)+1=1,6=6,GN 6 (GX wl0),2=2,GT 2 (GG 1 (GX wl1) (U4 1 z0)) (GX wl1),1=1,GN 1 (GX wl2),1=1,GN 1 (GX wl3),42=42,GN 42 (DK rp0),WB,WZ] (leaf G6.normal))))))):=by
 kernel_rfl
theorem Zd8:PG (HV VN QW Q9 [] QF SC (RP z 1) (RP z 2) (RC z))=(let z0:=([AV.x (.iface 9 (.string ({data:=List.toArray (Lib.itoa (U7 WU (1:Int).toNat)) }++{data:=#[46,46] }++{data:=List.toArray (Lib.itoa (U7 Z6 (1:Int).toNat)) })))]);(need [UI 1 3] (need [(0:Int)<=U7 WU (1:Int).toNat/\U7 WU (1:Int).toNat<=1000\/(-1000:Int)<=U7 WU (1:Int).toNat/\U7 WU (1:Int).toNat<=1000,(-1000:Int)<=U7 Z6 (1:Int).toNat/\U7 Z6 (1:Int).toNat<=1000,4<=100] (need [48<=140737488355328,∀(i:Nat),i<1-> ∀(a:AV),a∈U4 1 z0 i->AV.one a=true] (need [VK ((1:Int)+1)] (need [Q6,WB,QN,XY,XZ,Z0,Z1,W7=W7,XE,(1:Int)+1=2,6=6,GN 6 (GX wl0),3=3,GT 3 (GG 2 (GX wl1) (U4 1 z0)) (GX wl1),1=1,GN 1 (GX wl2),1=1,GN 1 (GX wl3),42=42,GN 42 (DK rp0),WB,WZ] (leaf G6.normal))))))):=by
 kernel_rfl
theorem Zd7:PG (HV VN QW Q9 [] QF SC (RP z 2) (RP z 3) (RC z))=(let z0:=([AV.x (.iface 9 (.string ({data:=List.toArray (Lib.itoa (U7 WU (2:Int).toNat)) }++{data:=#[46,46] }++{data:=List.toArray (Lib.itoa (U7 Z6 (2:Int).toNat)) })))]);(need [UI 2 3] (need [(0:Int)<=U7 WU (2:Int).toNat/\U7 WU (2:Int).toNat<=1000\/(-1000:Int)<=U7 WU (2:Int).toNat/\U7 WU (2:Int).toNat<=1000,(-1000:Int)<=U7 Z6 (2:Int).toNat/\U7 Z6 (2:Int).toNat<=1000,5<=100] (need [64<=140737488355328,∀(i:Nat),i<1-> ∀(a:AV),a∈U4 1 z0 i->AV.one a=true] (need [VK ((2:Int)+1)] (need [Q6,WB,QN,XY,XZ,Z0,Z1,W7=W7,XE,(2:Int)+1=3,6=6,GN 6 (GX wl0),4=4,GT 4 (GG 3 (GX wl1) (U4 1 z0)) (GX wl1),1=1,GN 1 (GX wl2),1=1,GN 1 (GX wl3),42=42,GN 42 (DK rp0),WB,WZ] (leaf G6.normal))))))):=by
 kernel_rfl
theorem Zd6:PG (HV VN QW Q9 [] QF SC (RP z 3) (RP z 3) (RC z))=(need [Q6,WB,QN,XY,XZ,Z0,Z1,W7=W7,XE,XE,6=6,GN 6 (GX wl0),4=4,GN 4 (GX wl1),1=1,GN 1 (GX wl2),1=1,GN 1 (GX wl3),42=42,GN 42 (DK rp0),WB,WZ] (leaf (G6.exit 2))):=by
 kernel_rfl
theorem Ze0:G7 VN (.loop SC) (Wx7 z):=by
 refine UX QF (L:=[]) (VJ.cons kZ (VJ.cons kS (VJ.cons kK (VJ.cons xA (VJ.nil _))))) (VV.ofC (VP.cons kW (VP.cons F7 (VP.cons RA (VP.cons LX (VP.nil _))))) (VM.cons xB (VM.cons kJ (VM.nil _))) (U9.cons wY (U9.cons dH (U9.nil _)))) VY U2 (X:=Nat) (RP z) (λk=>k<=3) (λk=>4-k) (λ_=>RC z) (x0:=0) (Nat.zero_le _) ?_ ?_ ?_
 ·intro k
  match k with
  | 0=>
   show Sx.okB (RP z 0)=true;kernel_rfl
  | 1=>
   show Sx.okB (RP z 1)=true;kernel_rfl
  | 2=>
   show Sx.okB (RP z 2)=true;kernel_rfl
  |k+3=>
   show Sx.okB (RP z 3)=true;kernel_rfl
 ·intro k y E h;unfold RC at h;split at h
  ·cases h;kernel_rfl
  ·cases h
 ·intro Q hQ k hx
  match k with
  | 0=>
   refine ⟨1,?_⟩
   with_reducible refine GZ ?_
   rw [Zd9];simp only [lP,RC,VL.sat,GS] at hQ;simp only [VL.sat,UA,UG,VK,RC];exact YX
  | 1=>
   refine ⟨2,?_⟩
   with_reducible refine GZ ?_
   rw [Zd8];simp only [lP,RC,VL.sat,GS] at hQ;simp only [VL.sat,UA,UG,VK,RC];exact YX
  | 2=>
   refine ⟨3,?_⟩
   with_reducible refine GZ ?_
   rw [Zd7];simp only [lP,RC,VL.sat,GS] at hQ;simp only [VL.sat,UA,UG,VK,RC];exact YX
  | 3=>
   refine ⟨3,?_⟩
   with_reducible refine GZ ?_
   rw [Zd6];simp only [lP,RC,VL.sat,GS] at hQ;simp only [VL.sat,UA,UG,VK,RC];exact YX
  |k+4=>omega
end
def Qi2(z:Nat):St:=((some {σ:=mkS 198 [(0,.top),(5,.ro (hsL VT)),(7,.ptr 14 0),(8,.fn (.func 41) [] [.ptr 14 0]),(9,.row 920),(10,.row 921),(11,.row 922),(12,.row 923),(136,hsC VT),(137,i 1),(138,i 0)],m:=WX,nx:=930}:Option St):Option St).getD {σ:=[],m:=[],nx:=0}
noncomputable def Qi8:Code:=U8 (VQ (U6 Tryz.f24) 2)
abbrev WY:GY:=[(920,.row 20 1 6 (GX wl0)),(921,.row 20 1 4 (GX wl1)),(922,.row 20 1 2 (GX wl2)),(923,.row 20 1 1 (GX wl3)),(911,.row 5 1 42 (DK rp0)),(14,.cells 110 [.ptr 14 0,.row 911])]
section
variable (z:Nat)
def qZ:Nat->St
 | 0=>{σ:=H3 [(136,hsC VT),(137,i 1),(138,i 0)] (Qi2 z).σ,m:=WX,nx:=930}
 |_=>{σ:=H3 [(136,hsC VT),(137,i 1),(138,i 1)] (Qi2 z).σ,m:=WY,nx:=930}
def BN:G6->Option St
 | .exit 4=>some {σ:=H3 [(136,hsC VT),(137,i 1),(138,i 1)] (Qi2 z).σ,m:=WY,nx:=930}
 |_=>none
def Wu3:CT:= .leaf (.exit 4,(BN z (.exit 4)).getD (Qi2 z))
def Wx6:UH:=GJ QF (HF (qZ z 0) (Wu3 z))
abbrev YI:AV:=agg [hR 2 VT,iI VT.pl,iI VT.ph,hY 2 VT,hC 1 VT,hT 2 VT]
theorem Zd4:PG (HV VN QW Q9 [] QF Qi8 (qZ z 0) (qZ z 1) (BN z))=(need [UI 0 VT.nc] (need [[YI,agg [iI (VT.ca (0:Int).toNat),iI (VT.cb (0:Int).toNat),iI (VT.cc (0:Int).toNat),iI (VT.cd (0:Int).toNat),AV.x (.bool (VT.cv (0:Int).toNat))],iI (VT.cd (0:Int).toNat)]=[YI,agg [iI (VT.ca 0),iI (VT.cb 0),iI (VT.cc 0),iI (VT.cd 0),AV.x (.bool (VT.cv 0))],iI (VT.cd 0)]] (need [32<=140737488355328,RS 1 (U4 1 [AV.x (.iface 3 (X0))])] (need [VK ((0:Int)+1)] (need [Q6,WB,QN,XY,XZ,Z0,Z1,VX (hC 1 VT),KR,(0:Int)+1=1,6=6,GN 6 (GX wl0),4=4,GN 4 (GX wl1),2=2,GT 2 (GG 1 (GX wl2) (U4 1 [AV.x (.iface 3 (X0))])) (GX wl2),1=1,GN 1 (GX wl3),42=42,GN 42 (DK rp0),WB,WZ] (leaf G6.normal)))))):=by
 kernel_rfl
theorem Zd3:PG (HV VN QW Q9 [] QF Qi8 (qZ z 1) (qZ z 1) (BN z))=(need [Q6,WB,QN,XY,XZ,Z0,Z1,VX (hC 1 VT),KR,KR,6=6,GN 6 (GX wl0),4=4,GN 4 (GX wl1),2=2,GN 2 (GX wl2),1=1,GN 1 (GX wl3),42=42,GN 42 (DK rp0),WB,WZ] (leaf (G6.exit 4))):=by
 kernel_rfl
theorem Zd5:G7 VN (.loop Qi8) (Wx6 z):=by
 refine UX QF (L:=[]) (VJ.cons kZ (VJ.cons kS (VJ.cons kK (VJ.cons xA (VJ.nil _))))) (VV.ofC (VP.cons kW (VP.cons F7 (VP.cons RA (VP.cons LX (VP.nil _))))) (VM.cons xB (VM.cons kJ (VM.nil _))) (U9.cons wY (U9.cons dH (U9.nil _)))) VY U2 (X:=Nat) (qZ z) (λk=>k<=1) (λk=>2-k) (λ_=>BN z) (x0:=0) (Nat.zero_le _) ?_ ?_ ?_
 ·intro k
  match k with
  | 0=>
   show Sx.okB (qZ z 0)=true;kernel_rfl
  |k+1=>
   show Sx.okB (qZ z 1)=true;kernel_rfl
 ·intro k y E h;unfold BN at h;split at h
  ·cases h;kernel_rfl
  ·cases h
 ·intro Q hQ k hx
  match k with
  | 0=>
   refine ⟨1,?_⟩
   with_reducible refine GZ ?_
   rw [Zd4];simp only [Wu3,BN,VL.sat,GS] at hQ;simp only [VL.sat,UA,UG,VK,BN];exact YX
  | 1=>
   refine ⟨1,?_⟩
   with_reducible refine GZ ?_
   rw [Zd3];simp only [Wu3,BN,VL.sat,GS] at hQ;simp only [VL.sat,UA,UG,VK,BN];exact YX
  |k+2=>omega
end
def MB(z:Nat):St:=((some {σ:=mkS 198 [(0,.top),(5,.ro (hsL VT)),(7,.ptr 14 0),(8,.fn (.func 41) [] [.ptr 14 0]),(9,.row 920),(10,.row 921),(11,.row 922),(12,.row 923),(162,i 4),(163,i 0)],m:=WY,nx:=930}:Option St):Option St).getD {σ:=[],m:=[],nx:=0}
noncomputable def MD:Code:=U8 (VQ (U6 Tryz.f24) 3)
abbrev JJ:GY:=[(920,.row 20 1 6 (GX wl0)),(921,.row 20 1 4 (GX wl1)),(922,.row 20 1 2 (GX wl2)),(923,.row 20 1 5 (GX wl3)),(911,.row 5 1 42 (DK rp0)),(14,.cells 110 [.ptr 14 0,.row 911])]
section
variable (z:Nat)
def FK:Nat->St
 | 0=>{σ:=H3 [(162,i 4),(163,i 0)] (MB z).σ,m:=WY,nx:=930}
 | 1=>{σ:=H3 [(162,i 4),(163,i 1)] (MB z).σ,m:=[(920,.row 20 1 6 (GX wl0)),(921,.row 20 1 4 (GX wl1)),(922,.row 20 1 2 (GX wl2)),(923,.row 20 1 2 (GX wl3)),(911,.row 5 1 42 (DK rp0)),(14,.cells 110 [.ptr 14 0,.row 911])],nx:=930}
 | 2=>{σ:=H3 [(162,i 4),(163,i 2)] (MB z).σ,m:=[(920,.row 20 1 6 (GX wl0)),(921,.row 20 1 4 (GX wl1)),(922,.row 20 1 2 (GX wl2)),(923,.row 20 1 3 (GX wl3)),(911,.row 5 1 42 (DK rp0)),(14,.cells 110 [.ptr 14 0,.row 911])],nx:=930}
 | 3=>{σ:=H3 [(162,i 4),(163,i 3)] (MB z).σ,m:=[(920,.row 20 1 6 (GX wl0)),(921,.row 20 1 4 (GX wl1)),(922,.row 20 1 2 (GX wl2)),(923,.row 20 1 4 (GX wl3)),(911,.row 5 1 42 (DK rp0)),(14,.cells 110 [.ptr 14 0,.row 911])],nx:=930}
 |_=>{σ:=H3 [(162,i 4),(163,i 4)] (MB z).σ,m:=JJ,nx:=930}
def FE:G6->Option St
 | .exit 6=>some {σ:=H3 [(162,i 4),(163,i 4)] (MB z).σ,m:=JJ,nx:=930}
 |_=>none
def OW:CT:= .leaf (.exit 6,(FE z (.exit 6)).getD (MB z))
def Wx5:UH:=GJ QF (HF (FK z 0) (OW z))
abbrev ZO:AV:=agg [iI 4,iI 10,hT 2 VT]
abbrev ZP:List Int:=[(4:Int),2,4,0]
abbrev YA:Prop:=iI 100=iI 100
theorem Zd1:PG (HV VN QW Q9 [] QF MD (FK z 0) (FK z 1) (FE z))=(let z0:=([AV.x (.iface 3 (.int .i64 (U7 ZP (0:Int).toNat)))]);(need [ZO=ZO,YA,(0:Int)<=0/\(0:Int)<=3] (need [32<=140737488355328,∀(i:Nat),i<1-> ∀(a:AV),a∈U4 1 z0 i->AV.one a=true] (need [VK ((0:Int)+1)] (need [Q6,WB,QN,XY,XZ,Z0,Z1,QZ,(0:Int)+1=1,6=6,GN 6 (GX wl0),4=4,GN 4 (GX wl1),2=2,GN 2 (GX wl2),2=2,GT 2 (GG 1 (GX wl3) (U4 1 z0)) (GX wl3),42=42,GN 42 (DK rp0),WB,WZ] (leaf G6.normal)))))):=by
 kernel_rfl
theorem Zd0:PG (HV VN QW Q9 [] QF MD (FK z 1) (FK z 2) (FE z))=(let z0:=([AV.x (.iface 3 (.int .i64 (U7 ZP (1:Int).toNat)))]);(need [ZO=ZO,YA,(0:Int)<=1/\(1:Int)<=3] (need [48<=140737488355328,∀(i:Nat),i<1-> ∀(a:AV),a∈U4 1 z0 i->AV.one a=true] (need [VK ((1:Int)+1)] (need [Q6,WB,QN,XY,XZ,Z0,Z1,QZ,(1:Int)+1=2,6=6,GN 6 (GX wl0),4=4,GN 4 (GX wl1),2=2,GN 2 (GX wl2),3=3,GT 3 (GG 2 (GX wl3) (U4 1 z0)) (GX wl3),42=42,GN 42 (DK rp0),WB,WZ] (leaf G6.normal)))))):=by
 kernel_rfl
theorem Zc9:PG (HV VN QW Q9 [] QF MD (FK z 2) (FK z 3) (FE z))=(let z0:=([AV.x (.iface 3 (.int .i64 (U7 ZP (2:Int).toNat)))]);(need [ZO=ZO,YA,(0:Int)<=2/\(2:Int)<=3] (need [64<=140737488355328,∀(i:Nat),i<1-> ∀(a:AV),a∈U4 1 z0 i->AV.one a=true] (need [VK ((2:Int)+1)] (need [Q6,WB,QN,XY,XZ,Z0,Z1,QZ,(2:Int)+1=3,6=6,GN 6 (GX wl0),4=4,GN 4 (GX wl1),2=2,GN 2 (GX wl2),4=4,GT 4 (GG 3 (GX wl3) (U4 1 z0)) (GX wl3),42=42,GN 42 (DK rp0),WB,WZ] (leaf G6.normal)))))):=by
 kernel_rfl
theorem Zc8:PG (HV VN QW Q9 [] QF MD (FK z 3) (FK z 4) (FE z))=(let z0:=([AV.x (.iface 3 (.int .i64 (U7 ZP (3:Int).toNat)))]);(need [ZO=ZO,YA,(0:Int)<=3/\(3:Int)<=3] (need [80<=140737488355328,∀(i:Nat),i<1-> ∀(a:AV),a∈U4 1 z0 i->AV.one a=true] (need [VK ((3:Int)+1)] (need [Q6,WB,QN,XY,XZ,Z0,Z1,QZ,(3:Int)+1=4,6=6,GN 6 (GX wl0),4=4,GN 4 (GX wl1),2=2,GN 2 (GX wl2),5=5,GT 5 (GG 4 (GX wl3) (U4 1 z0)) (GX wl3),42=42,GN 42 (DK rp0),WB,WZ] (leaf G6.normal)))))):=by
 kernel_rfl
theorem Zc7:PG (HV VN QW Q9 [] QF MD (FK z 4) (FK z 4) (FE z))=(need [Q6,WB,QN,XY,XZ,Z0,Z1,QZ,QZ,6=6,GN 6 (GX wl0),4=4,GN 4 (GX wl1),2=2,GN 2 (GX wl2),5=5,GN 5 (GX wl3),42=42,GN 42 (DK rp0),WB,WZ] (leaf (G6.exit 6))):=by
 kernel_rfl
theorem Zd2:G7 VN (.loop MD) (Wx5 z):=by
 refine UX QF (L:=[]) (VJ.cons kZ (VJ.cons kS (VJ.cons kK (VJ.cons xA (VJ.nil _))))) (VV.ofC (VP.cons kW (VP.cons F7 (VP.cons RA (VP.cons LX (VP.nil _))))) (VM.cons xB (VM.cons kJ (VM.nil _))) (U9.cons wY (U9.cons dH (U9.nil _)))) VY U2 (X:=Nat) (FK z) (λk=>k<=4) (λk=>5-k) (λ_=>FE z) (x0:=0) (Nat.zero_le _) ?_ ?_ ?_
 ·intro k
  match k with
  | 0=>
   show Sx.okB (FK z 0)=true;kernel_rfl
  | 1=>
   show Sx.okB (FK z 1)=true;kernel_rfl
  | 2=>
   show Sx.okB (FK z 2)=true;kernel_rfl
  | 3=>
   show Sx.okB (FK z 3)=true;kernel_rfl
  |k+4=>
   show Sx.okB (FK z 4)=true;kernel_rfl
 ·intro k y E h;unfold FE at h;split at h
  ·cases h;kernel_rfl
  ·cases h
 ·intro Q hQ k hx
  match k with
  | 0=>
   refine ⟨1,?_⟩
   with_reducible refine GZ ?_
   rw [Zd1];simp only [OW,FE,VL.sat,GS] at hQ;simp only [VL.sat,UA,UG,VK,FE];exact YX
  | 1=>
   refine ⟨2,?_⟩
   with_reducible refine GZ ?_
   rw [Zd0];simp only [OW,FE,VL.sat,GS] at hQ;simp only [VL.sat,UA,UG,VK,FE];exact YX
  | 2=>
   refine ⟨3,?_⟩
   with_reducible refine GZ ?_
   rw [Zc9];simp only [OW,FE,VL.sat,GS] at hQ;simp only [VL.sat,UA,UG,VK,FE];exact YX
  | 3=>
   refine ⟨4,?_⟩
   with_reducible refine GZ ?_
   rw [Zc8];simp only [OW,FE,VL.sat,GS] at hQ;simp only [VL.sat,UA,UG,VK,FE];exact YX
  | 4=>
   refine ⟨4,?_⟩
   with_reducible refine GZ ?_
   rw [Zc7];simp only [OW,FE,VL.sat,GS] at hQ;simp only [VL.sat,UA,UG,VK,FE];exact YX
  |k+5=>omega
end
abbrev JM:GY:=[(925,.row 111 1 4 (U4 1 [.lst 1 6 (GX wl0),.lst 1 4 (GX wl1),.lst 1 2 (GX wl2),.lst 1 5 (GX wl3)])),(911,.row 5 1 42 (DK rp0)),(14,.cells 110 [.ptr 14 0,.row 911])]
def MA(z:Nat):St:=((some {σ:=mkS 198 [(0,.top),(5,.ro (hsL VT)),(7,.ptr 14 0),(8,.fn (.func 41) [] [.ptr 14 0]),(187,.row 925),(188,i 4),(189,i 0)],m:=JM,nx:=930}:Option St):Option St).getD {σ:=[],m:=[],nx:=0}
noncomputable def MC:Code:=U8 (VQ (U6 Tryz.f24) 4)
abbrev JL:GY:=[(925,.row 111 1 4 (U4 1 [.lst 1 6 (GX wl0),.lst 1 4 (GX wl1),.lst 1 2 (GX wl2),.lst 1 5 (GX wl3)])),(911,.row 5 1 136 (DK rp4)),(14,.cells 110 [.ptr 14 0,.row 911])]
section
variable (z:Nat)
def FJ:Nat->St
 | 0=>{σ:=H3 [(187,.row 925),(188,i 4),(189,i 0)] (MA z).σ,m:=JM,nx:=930}
 | 1=>{σ:=H3 [(187,.row 925),(188,i 4),(189,i 1)] (MA z).σ,m:=[(925,.row 111 1 4 (U4 1 [.lst 1 6 (GX wl0),.lst 1 4 (GX wl1),.lst 1 2 (GX wl2),.lst 1 5 (GX wl3)])),(911,.row 5 1 91 (DK rp1)),(14,.cells 110 [.ptr 14 0,.row 911])],nx:=930}
 | 2=>{σ:=H3 [(187,.row 925),(188,i 4),(189,i 2)] (MA z).σ,m:=[(925,.row 111 1 4 (U4 1 [.lst 1 6 (GX wl0),.lst 1 4 (GX wl1),.lst 1 2 (GX wl2),.lst 1 5 (GX wl3)])),(911,.row 5 1 115 (DK rp2)),(14,.cells 110 [.ptr 14 0,.row 911])],nx:=930}
 | 3=>{σ:=H3 [(187,.row 925),(188,i 4),(189,i 3)] (MA z).σ,m:=[(925,.row 111 1 4 (U4 1 [.lst 1 6 (GX wl0),.lst 1 4 (GX wl1),.lst 1 2 (GX wl2),.lst 1 5 (GX wl3)])),(911,.row 5 1 123 (DK rp3)),(14,.cells 110 [.ptr 14 0,.row 911])],nx:=930}
 |_=>{σ:=H3 [(187,.row 925),(188,i 4),(189,i 4)] (MA z).σ,m:=JL,nx:=930}
def FD:G6->Option St
 | .exit 8=>some {σ:=H3 [(187,.row 925),(188,i 4),(189,i 4)] (MA z).σ,m:=JL,nx:=930}
 |_=>none
def OV:CT:= .leaf (.exit 8,(FD z (.exit 8)).getD (MA z))
def Wx4:UH:=GJ [(.slot 187,925,111,1),(.cell 14 1,911,5,1)] (HF (FJ z 0) (OV z))
noncomputable abbrev J8:AV:=lst 1 6 λk=>[Option.rec (top) (λval=>(λval=>(λx=>x) val) val) wl0[k]?]
noncomputable abbrev J9:AV:=lst 1 4 λk=>[Option.rec (top) (λval=>(λval=>(λx=>x) val) val) wl1[k]?]
noncomputable abbrev JA:AV:=lst 1 2 λk=>[Option.rec (top) (λval=>(λval=>(λx=>x) val) val) wl2[k]?]
noncomputable abbrev JC:AV:=lst 1 5 λk=>[Option.rec (top) (λval=>(λval=>(λx=>x) val) val) wl3[k]?]
noncomputable abbrev Q7:List AV:=[J8,J9,JA,JC]
abbrev WP:List AV:=[AV.x (.string {data:=#[(48:UInt8),(46:UInt8),(46:UInt8),(48:UInt8)] })]
abbrev XC:List AV:=[AV.x (.string {data:=#[(49:UInt8),(48:UInt8),(48:UInt8),(48:UInt8),(46:UInt8),(46:UInt8),(49:UInt8),(48:UInt8),(48:UInt8),(48:UInt8)] })]
abbrev XP:List AV:=[AV.x (.string {data:=#[(50:UInt8),(48:UInt8),(48:UInt8),(46:UInt8),(46:UInt8),(51:UInt8),(48:UInt8),(48:UInt8)] })]
abbrev XQ:List AV:=[AV.x (.string {data:=#[(52:UInt8),(49:UInt8),(48:UInt8),(46:UInt8),(46:UInt8),(53:UInt8),(49:UInt8),(48:UInt8)] })]
abbrev XR:List AV:=[AV.x (.string {data:=#[(55:UInt8),(48:UInt8),(48:UInt8),(46:UInt8),(46:UInt8),(56:UInt8),(48:UInt8),(48:UInt8)] })]
abbrev Z4:Value:=Value.string {data:=#[(109:UInt8),(97:UInt8),(114:UInt8),(107:UInt8),(115:UInt8)] }
abbrev J5:List (Pl×Nat×TypeId×Nat):=[(.slot 187,925,111,1),(.cell 14 1,911,5,1)]
abbrev Y1:Prop:=AV.row 925=AV.row 925
theorem Zc5:PG (HV VN QW Q9 [] J5 MC (FJ z 0) (FJ z 1) (FD z))=(let z0:=(GG 5 (GG 4 (GG 3 (GG 2 (GG 1 (GG 0 (λx=>[]) (U4 1 [AV.x (Z4)])) (U4 1 WP)) (U4 1 XP)) (U4 1 XQ)) (U4 1 XR)) (U4 1 XC));(need [UI 0 4] (need [(0:Int).toNat<4] (need [UI 0 6] (need [16<=140737488355328,RS 1 (U4 1 [AV.x (Z4)])] (need [VK ((0:Int)+1)] (need [(0:Int)<=0+1/\(0:Int)+1<(↑(6:Nat):Int)] (need [32<=140737488355328,∀(i:Nat),i<1-> ∀(a:AV),a∈U4 1 WP i->AV.one a=true] (need [VK ((0:Int)+1+1)] (need [(0:Int)<=0+1+1/\(0:Int)+1+1<(↑(6:Nat):Int)] (need [48<=140737488355328,∀(i:Nat),i<1-> ∀(a:AV),a∈U4 1 XP i->AV.one a=true] (need [VK ((0:Int)+1+1+1)] (need [(0:Int)<=0+1+1+1/\(0:Int)+1+1+1<(↑(6:Nat):Int)] (need [64<=140737488355328,∀(i:Nat),i<1-> ∀(a:AV),a∈U4 1 XQ i->AV.one a=true] (need [VK ((0:Int)+1+1+1+1)] (need [(0:Int)<=0+1+1+1+1/\(0:Int)+1+1+1+1<(↑(6:Nat):Int)] (need [80<=140737488355328,∀(i:Nat),i<1-> ∀(a:AV),a∈U4 1 XR i->AV.one a=true] (need [VK ((0:Int)+1+1+1+1+1)] (need [(0:Int)<=0+1+1+1+1+1/\(0:Int)+1+1+1+1+1<(↑(6:Nat):Int)] (need [96<=140737488355328,∀(i:Nat),i<1-> ∀(a:AV),a∈U4 1 XC i->AV.one a=true] (need [VK ((0:Int)+1+1+1+1+1+1)] (need [6<=100000,jT 6 z0,ByteArray.size (jnB 6 z0 {data:=#[32] })<=140737488355328] (need [(↑(49:Nat):Int)<=9223372036854775807] (need [91<=140737488355328] (need [VK ((0:Int)+1)] (need [Q6,WB,QN,Y1,QZ,(0:Int)+1=1,4=4,GN 4 (U4 1 Q7),91=91,GT 91 (GG 42 (DK rp0) (DK (jnB 6 z0 {data:=#[32] }++{data:=#[10] }))) (DK rp1),WB,WZ] (leaf G6.normal))))))))))))))))))))))))))):=by
 kernel_rfl
abbrev XD:Value:=Value.string {data:=#[(111:UInt8),(102:UInt8),(102:UInt8),(115:UInt8),(101:UInt8),(116:UInt8),(115:UInt8)] }
abbrev ZK:List AV:=[AV.x (.string {data:=#[(45:UInt8),(51:UInt8),(46:UInt8),(46:UInt8),(53:UInt8)] })]
abbrev ZU:List AV:=[AV.x (.string {data:=#[(49:UInt8),(46:UInt8),(46:UInt8),(53:UInt8)] })]
theorem Zc4:PG (HV VN QW Q9 [] J5 MC (FJ z 1) (FJ z 2) (FD z))=(let z0:=(GG 3 (GG 2 (GG 1 (GG 0 (λx=>[]) (U4 1 [AV.x (XD)])) (U4 1 WP)) (U4 1 ZU)) (U4 1 ZK));(need [UI 1 4] (need [(1:Int).toNat<4] (need [UI 0 4] (need [16<=140737488355328,RS 1 (U4 1 [AV.x (XD)])] (need [VK ((0:Int)+1)] (need [(0:Int)<=0+1/\(0:Int)+1<(↑(4:Nat):Int)] (need [32<=140737488355328,∀(i:Nat),i<1-> ∀(a:AV),a∈U4 1 WP i->AV.one a=true] (need [VK ((0:Int)+1+1)] (need [(0:Int)<=0+1+1/\(0:Int)+1+1<(↑(4:Nat):Int)] (need [48<=140737488355328,∀(i:Nat),i<1-> ∀(a:AV),a∈U4 1 ZU i->AV.one a=true] (need [VK ((0:Int)+1+1+1)] (need [(0:Int)<=0+1+1+1/\(0:Int)+1+1+1<(↑(4:Nat):Int)] (need [64<=140737488355328,∀(i:Nat),i<1-> ∀(a:AV),a∈U4 1 ZK i->AV.one a=true] (need [VK ((0:Int)+1+1+1+1)] (need [4<=100000,jT 4 z0,ByteArray.size (jnB 4 z0 {data:=#[32] })<=140737488355328] (need [(↑(24:Nat):Int)<=9223372036854775807] (need [115<=140737488355328] (need [VK ((1:Int)+1)] (need [Q6,WB,QN,Y1,QZ,(1:Int)+1=2,4=4,GN 4 (U4 1 Q7),115=115,GT 115 (GG 91 (DK rp1) (DK (jnB 4 z0 {data:=#[32] }++{data:=#[10] }))) (DK rp2),WB,WZ] (leaf G6.normal))))))))))))))))))))):=by
 kernel_rfl
abbrev XL:List AV:=[AV.x (.string {data:=List.toArray (Lib.itoa (0:Int)) })]
abbrev Z5:Value:=Value.string {data:=#[(115:UInt8),(116:UInt8),(97:UInt8),(110:UInt8),(100:UInt8)] }
theorem Zc3:PG (HV VN QW Q9 [] J5 MC (FJ z 2) (FJ z 3) (FD z))=(let z0:=(GG 1 (GG 0 (λx=>[]) (U4 1 [AV.x (Z5)])) (U4 1 XL));(need [UI 2 4] (need [(2:Int).toNat<4] (need [UI 0 2] (need [16<=140737488355328,RS 1 (U4 1 [AV.x (Z5)])] (need [VK ((0:Int)+1)] (need [(0:Int)<=0+1/\(0:Int)+1<(↑(2:Nat):Int)] (need [VK (0:Int)] (need [32<=140737488355328,∀(i:Nat),i<1-> ∀(a:AV),a∈U4 1 XL i->AV.one a=true] (need [VK ((0:Int)+1+1)] (need [2<=100000,jT 2 z0,ByteArray.size (jnB 2 z0 {data:=#[32] })<=140737488355328] (need [(↑(8:Nat):Int)<=9223372036854775807] (need [123<=140737488355328] (need [VK ((2:Int)+1)] (need [Q6,WB,QN,Y1,QZ,(2:Int)+1=3,4=4,GN 4 (U4 1 Q7),123=123,GT 123 (GG 115 (DK rp2) (DK (jnB 2 z0 {data:=#[32] }++{data:=#[10] }))) (DK rp3),WB,WZ] (leaf G6.normal)))))))))))))))):=by
 kernel_rfl
abbrev XM:List AV:=[AV.x (.string {data:=List.toArray (Lib.itoa (4:Int)) })]
abbrev ZD:Value:=Value.string {data:=#[(104:UInt8),(111:UInt8),(108:UInt8),(100:UInt8)] }
abbrev JG:List AV:=[AV.x (.string {data:=List.toArray (Lib.itoa (2:Int)) })]
theorem Zc2:PG (HV VN QW Q9 [] J5 MC (FJ z 3) (FJ z 4) (FD z))=(let z0:=(GG 4 (GG 3 (GG 2 (GG 1 (GG 0 (λx=>[]) (U4 1 [AV.x (ZD)])) (U4 1 XM)) (U4 1 JG)) (U4 1 XM)) (U4 1 XL));(need [UI 3 4] (need [(3:Int).toNat<4] (need [UI 0 5] (need [16<=140737488355328,RS 1 (U4 1 [AV.x (ZD)])] (need [VK ((0:Int)+1)] (need [(0:Int)<=0+1/\(0:Int)+1<(↑(5:Nat):Int)] (need [VK (4:Int)] (need [32<=140737488355328,∀(i:Nat),i<1-> ∀(a:AV),a∈U4 1 XM i->AV.one a=true] (need [VK ((0:Int)+1+1)] (need [(0:Int)<=0+1+1/\(0:Int)+1+1<(↑(5:Nat):Int)] (need [VK (2:Int)] (need [48<=140737488355328,∀(i:Nat),i<1-> ∀(a:AV),a∈U4 1 JG i->AV.one a=true] (need [VK ((0:Int)+1+1+1)] (need [(0:Int)<=0+1+1+1/\(0:Int)+1+1+1<(↑(5:Nat):Int)] (need [VK (4:Int)] (need [64<=140737488355328,∀(i:Nat),i<1-> ∀(a:AV),a∈U4 1 XM i->AV.one a=true] (need [VK ((0:Int)+1+1+1+1)] (need [(0:Int)<=0+1+1+1+1/\(0:Int)+1+1+1+1<(↑(5:Nat):Int)] (need [VK (0:Int)] (need [80<=140737488355328,∀(i:Nat),i<1-> ∀(a:AV),a∈U4 1 XL i->AV.one a=true] (need [VK ((0:Int)+1+1+1+1+1)] (need [5<=100000,jT 5 z0,ByteArray.size (jnB 5 z0 {data:=#[32] })<=140737488355328] (need [(↑(13:Nat):Int)<=9223372036854775807] (need [136<=140737488355328] (need [VK ((3:Int)+1)] (need [Q6,WB,QN,Y1,QZ,(3:Int)+1=4,4=4,GN 4 (U4 1 Q7),136=136,GT 136 (GG 123 (DK rp3) (DK (jnB 5 z0 {data:=#[32] }++{data:=#[10] }))) (DK rp4),WB,WZ] (leaf G6.normal)))))))))))))))))))))))))))):=by
 kernel_rfl
theorem Zc1:PG (HV VN QW Q9 [] J5 MC (FJ z 4) (FJ z 4) (FD z))=(need [Q6,WB,QN,Y1,QZ,QZ,4=4,GN 4 (U4 1 Q7),136=136,GN 136 (DK rp4),WB,WZ] (leaf (G6.exit 8))):=by
 kernel_rfl
theorem Zc6:G7 VN (.loop MC) (Wx4 z):=by
 refine UX J5 (L:=[]) (VJ.cons kZ (VJ.cons kS (VJ.cons kK (VJ.cons xA (VJ.nil _))))) (VV.ofC (VP.cons kW (VP.cons F7 (VP.cons RA (VP.cons LX (VP.nil _))))) (VM.cons xB (VM.cons kJ (VM.nil _))) (U9.cons wY (U9.cons dH (U9.nil _)))) VY U2 (X:=Nat) (FJ z) (λk=>k<=4) (λk=>5-k) (λ_=>FD z) (x0:=0) (Nat.zero_le _) ?_ ?_ ?_
 ·intro k
  match k with
  | 0=>
   show Sx.okB (FJ z 0)=true;kernel_rfl
  | 1=>
   show Sx.okB (FJ z 1)=true;kernel_rfl
  | 2=>
   show Sx.okB (FJ z 2)=true;kernel_rfl
  | 3=>
   show Sx.okB (FJ z 3)=true;kernel_rfl
  |k+4=>
   show Sx.okB (FJ z 4)=true;kernel_rfl
 ·intro k y E h;unfold FD at h;split at h
  ·cases h;kernel_rfl
  ·cases h
 ·intro Q hQ k hx
  match k with
  | 0=>
   refine ⟨1,?_⟩
   with_reducible refine GZ ?_
   rw [Zc5];simp only [OV,FD,VL.sat,GS] at hQ;simp only [VL.sat,UA,UG,VK,FD];exact YX
  | 1=>
   refine ⟨2,?_⟩
   with_reducible refine GZ ?_
   rw [Zc4];simp only [OV,FD,VL.sat,GS] at hQ;simp only [VL.sat,UA,UG,VK,FD];exact YX
  | 2=>
   refine ⟨3,?_⟩
   with_reducible refine GZ ?_
   rw [Zc3];simp only [OV,FD,VL.sat,GS] at hQ;simp only [VL.sat,UA,UG,VK,FD];exact YX
  | 3=>
   refine ⟨4,?_⟩
   with_reducible refine GZ ?_
   rw [Zc2];simp only [OV,FD,VL.sat,GS] at hQ;simp only [VL.sat,UA,UG,VK,FD];exact YX
  | 4=>
   refine ⟨4,?_⟩
   with_reducible refine GZ ?_
   rw [Zc1];simp only [OV,FD,VL.sat,GS] at hQ;simp only [VL.sat,UA,UG,VK,FD];exact YX
  |k+5=>omega
end
theorem vM{S:Code->UH->Prop}{c:Code}{s0 s1 s2 s3 s4:UH}(h0: ∀cj,VQ c 0=some cj->S cj s0)(h1: ∀cj,VQ c 1=some cj->S cj s1)(h2: ∀cj,VQ c 2=some cj->S cj s2)(h3: ∀cj,VQ c 3=some cj->S cj s3)(h4: ∀cj,VQ c 4=some cj->S cj s4):
  ∀j cj,VQ c j=some cj-> ∀sp,[s0,s1,s2,s3,s4][j]? =some sp->S cj sp:=by
 intro j cj hj sp hsp
 match j with
 | 0=>simp at hsp;subst hsp;exact h0 cj hj
 | 1=>simp at hsp;subst hsp;exact h1 cj hj
 | 2=>simp at hsp;subst hsp;exact h2 cj hj
 | 3=>simp at hsp;subst hsp;exact h3 cj hj
 | 4=>simp at hsp;subst hsp;exact h4 cj hj
 |j+5=>simp at hsp
theorem Zm2(B:ByteArray):bsO B.size (DK B)=B:=by
 unfold bsO;apply ByteArray.ext;apply Array.ext
 ·show ((List.range B.size).map _).toArray.size=B.data.size;rw [List.size_toArray,List.length_map,List.length_range];rfl
 ·intro j h1 h2;have h3:j<B.data.size:=h2;simp [DK,byO,byN,LY,Array.getElem?_eq_getElem h3]
abbrev YP:GY:=[(911,.row 5 1 42 (DK rp0)),(14,.cells 110 [.ptr 14 0,.row 911])]
def mK:St:={σ:=mkS 198 [(5,.ro (hsL VT)),(7,.ptr 14 0),(8,.fn (.func 41) [] [.ptr 14 0]),(9,.lst 1 6 (GX wl0)),(10,.lst 1 4 (GX wl1)),(11,.lst 1 2 (GX wl2)),(12,.lst 1 5 (GX wl3))],m:=YP,nx:=930}
def mL:St:={σ:=mkS 198 [(0,.top),(5,.ro (hsL VT)),(7,.ptr 14 0),(8,.fn (.func 41) [] [.ptr 14 0])],m:=YP,nx:=930}
abbrev WL:List AV:=[lst 1 11 λk=>[FM (UL U5 k)]]
abbrev WO:List AV:=[AV.x (.string {data:=#[(99:UInt8),(101:UInt8),(114:UInt8),(116:UInt8),(105:UInt8),(102:UInt8),(105:UInt8),(99:UInt8),(97:UInt8),(116:UInt8),(101:UInt8),(115:UInt8)] })]
abbrev WV:List AV:=[agg [iI 4,iI 100,iI 20,iI 30,hR 2 VT,lst 2 3 λk=>[iI (tbP k),iI (tbQ k)],iI VT.pl,iI VT.ph,iI 1,iI 3],iI 0]
abbrev XJ:List AV:=[AV.x (.string {data:=#[(114:UInt8),(101:UInt8),(97:UInt8),(100:UInt8),(105:UInt8),(110:UInt8),(103:UInt8),(115:UInt8)] })]
abbrev ZI:List AV:=[AV.x (.string {data:=#[(115:UInt8),(97:UInt8),(108:UInt8),(101:UInt8),(115:UInt8)] })]
abbrev ZJ:List AV:=[AV.x (.string {data:=#[(98:UInt8),(97:UInt8),(116:UInt8),(104:UInt8),(115:UInt8)] })]
theorem iM:VW VN 24 [lns 11 (UL U5)] (.tup [.x (.string Ze8),i 0]):=by
 have hG:VJ VN [(30,sL),(35,sI),(38,sH),(46,A8)]:=(VJ.cons kZ (VJ.cons kS (VJ.cons kK (VJ.cons xA (VJ.nil _)))));have hX: ∀cx,VV VN Q9 cx:=(VV.ofC (VP.cons kW (VP.cons F7 (VP.cons RA (VP.cons LX (VP.nil _))))) (VM.cons xB (VM.cons kJ (VM.nil _))) (U9.cons wY (U9.cons dH (U9.nil _))));have GO:Tryz.prog.follows .mixedOrders=true:=VY
 refine SI (L:=[Wx8 0,Wx7 0,Wx6 0,Wx5 0,Wx4 0]) Tryz.func24 (US Tryz.f24) (λcx=>(gL (N:=[(.cell 14 1,911,5,1)]) (s2:=mL) hG (hX cx) GO (gL (N:=[(.slot 9,0,0,0),(.slot 10,0,0,0),(.slot 11,0,0,0),(.slot 12,0,0,0)]) (s2:=mK) hG (hX cx) GO (l9 hG (hX cx) GO) VS 7) VS 6)) (vM (lpE (b:= .loop rE) VS<|(Ze7 0).N) (lpE (b:= .loop SC) VS<|(Ze0 0).N) (lpE (b:= .loop Qi8) VS<|(Zd5 0).N) (lpE (b:= .loop MD) VS<|(Zd2 0).N) (lpE (b:= .loop MC) VS<|(Zc6 0).N)) (t:=let z1:=([AV.x (.string {data:=List.toArray (Lib.itoa (↑VT.nr:Int)) })]);let z2:=([AV.x (.string {data:=List.toArray (Lib.itoa (↑VT.nb:Int)) })]);let z3:=([AV.x (.string {data:=List.toArray (Lib.itoa (↑VT.nc:Int)) })]);let z4:=([AV.x (.string {data:=List.toArray (Lib.itoa (↑VT.ns:Int)) })]);let z0:=(GG 7 (GG 6 (GG 5 (GG 4 (GG 3 (GG 2 (GG 1 (GG 0 (λx=>[]) (U4 1 XJ)) (U4 1 z1)) (U4 1 ZJ)) (U4 1 z2)) (U4 1 WO)) (U4 1 z3)) (U4 1 ZI)) (U4 1 z4));(need [WL=WL] (branch ((0:Int) != 0) (leaf (RV.tup [RV.x (.string {data:=#[] }),RV.x (X0)])) (need [WL=WL] (need [UI 0 8] (need [(0:Int).toNat<8] (need [16<=140737488355328,∀(i:Nat),i<1-> ∀(a:AV),a∈U4 1 XJ i->AV.one a=true] (need [VK ((0:Int)+1)] (need [(0:Int)<=0+1/\(0:Int)+1<(↑(8:Nat):Int)] (need [((0:Int)+1).toNat<8] (need [VK (↑VT.nr:Int)] (need [32<=140737488355328,∀(i:Nat),i<1-> ∀(a:AV),a∈U4 1 z1 i->AV.one a=true] (need [VK ((0:Int)+1+1)] (need [(0:Int)<=0+1+1/\(0:Int)+1+1<(↑(8:Nat):Int)] (need [((0:Int)+1+1).toNat<8] (need [48<=140737488355328,∀(i:Nat),i<1-> ∀(a:AV),a∈U4 1 ZJ i->AV.one a=true] (need [VK ((0:Int)+1+1+1)] (need [(0:Int)<=0+1+1+1/\(0:Int)+1+1+1<(↑(8:Nat):Int)] (need [((0:Int)+1+1+1).toNat<8] (need [VK (↑VT.nb:Int)] (need [64<=140737488355328,∀(i:Nat),i<1-> ∀(a:AV),a∈U4 1 z2 i->AV.one a=true] (need [VK ((0:Int)+1+1+1+1)] (need [(0:Int)<=0+1+1+1+1/\(0:Int)+1+1+1+1<(↑(8:Nat):Int)] (need [((0:Int)+1+1+1+1).toNat<8] (need [80<=140737488355328,∀(i:Nat),i<1-> ∀(a:AV),a∈U4 1 WO i->AV.one a=true] (need [VK ((0:Int)+1+1+1+1+1)] (need [(0:Int)<=0+1+1+1+1+1/\(0:Int)+1+1+1+1+1<(↑(8:Nat):Int)] (need [((0:Int)+1+1+1+1+1).toNat<8] (need [VK (↑VT.nc:Int)] (need [96<=140737488355328,∀(i:Nat),i<1-> ∀(a:AV),a∈U4 1 z3 i->AV.one a=true] (need [VK ((0:Int)+1+1+1+1+1+1)] (need [(0:Int)<=0+1+1+1+1+1+1/\(0:Int)+1+1+1+1+1+1<(↑(8:Nat):Int)] (need [((0:Int)+1+1+1+1+1+1).toNat<8] (need [112<=140737488355328,∀(i:Nat),i<1-> ∀(a:AV),a∈U4 1 ZI i->AV.one a=true] (need [VK ((0:Int)+1+1+1+1+1+1+1)] (need [(0:Int)<=0+1+1+1+1+1+1+1/\(0:Int)+1+1+1+1+1+1+1<(↑(8:Nat):Int)] (need [((0:Int)+1+1+1+1+1+1+1).toNat<8] (need [VK (↑VT.ns:Int)] (need [128<=140737488355328,∀(i:Nat),i<1-> ∀(a:AV),a∈U4 1 z4 i->AV.one a=true] (need [VK ((0:Int)+1+1+1+1+1+1+1+1)] (need [8<=100000,jT 8 z0,ByteArray.size (jnB 8 z0 {data:=#[32] })<=140737488355328] (need [(↑(42:Nat):Int)<=9223372036854775807] (need [42<=140737488355328] (need [Q6,WB,QN,42=42,GT 42 (GG 0 (λx=>[]) (DK (jnB 8 z0 {data:=#[32] }++{data:=#[10] }))) (DK rp0),WB,WZ] (need [WV=WV] (need [Q6,WB,QN,XY,XZ,Z0,Z1,WR=WR,(↑(5:Nat):Int)=5,QT,1=1,GT 1 (U4 1 [AV.x (.iface 9 (Z4))]) (GX wl0),1=1,GT 1 (U4 1 [AV.x (.iface 9 (XD))]) (GX wl1),1=1,GT 1 (U4 1 [AV.x (.iface 9 (Z5))]) (GX wl2),1=1,GT 1 (U4 1 [AV.x (.iface 9 (ZD))]) (GX wl3),42=42,GN 42 (DK rp0),WB,WZ] (need [VX ([agg [lst 2 3 λk=>[iI (oL k),iI (oH k)],iI 1,hY 2 VT]])] (need [Q6,WB,QN,XY,XZ,Z0,Z1,W7=W7,(↑(3:Nat):Int)=3,QT,6=6,GN 6 (GX wl0),1=1,GN 1 (GX wl1),1=1,GN 1 (GX wl2),1=1,GN 1 (GX wl3),42=42,GN 42 (DK rp0),WB,WZ] (need [Q6,WB,QN,XY,XZ,Z0,Z1,VX (hC 1 VT),(↑VT.nc:Int)=1,QT,6=6,GN 6 (GX wl0),4=4,GN 4 (GX wl1),1=1,GN 1 (GX wl2),1=1,GN 1 (GX wl3),42=42,GN 42 (DK rp0),WB,WZ] (need [Q6,WB,QN,XY,XZ,Z0,Z1,QZ,QT,6=6,GN 6 (GX wl0),4=4,GN 4 (GX wl1),2=2,GN 2 (GX wl2),1=1,GN 1 (GX wl3),42=42,GN 42 (DK rp0),WB,WZ] (need [Q6,WB,QN,J8=J8,J9=J9,JA=JA,JC=JC,42=42,GN 42 (DK rp0),WB,WZ] (need [Q6,WB,QN,Y1,(↑(4:Nat):Int)=4,QT,4=4,GN 4 (U4 1 Q7),42=42,GN 42 (DK rp0),WB,WZ] (need [uS 136 (DK rp4),0<136] (leaf (RV.tup [RV.x (.string (bsO 136 (DK rp4))),RV.x (X0)]))))))))))))))))))))))))))))))))))))))))))))))))))))))) VS ?_
 simp only [VL.sat,UA,UZ,GI,UC,UG,VK,F9]
 (with_reducible repeat' first|apply And.intro|intro _)
 all_goals first|exact True.intro|contradiction|omega|exact FN (by assumption) (by simp [AV.one,Value.oneCell'])|(rename_i i hi;exact Qc0 (by decide+kernel) i hi)|(rename_i i hi;exact ltM VS i hi)|exact bQ (by decide+kernel)|exact pT (by decide+kernel)|decide+kernel|with_reducible rfl|rfl|trace_state
def Zb0:HS:=stS VT 1
theorem Xp0:lnE (UL G8 0) VT=9:=by decide+kernel
theorem Xo9:lnE (UL G8 1) VT=10:=by decide+kernel
theorem Xo8:lnE (UL G8 2) VT=9:=by decide+kernel
theorem Xo7:lnE (UL G8 3) VT=0:=by decide+kernel
theorem Zt7:lnE (UL G8 4) Zb0=0:=by decide+kernel
theorem Zt6:DS (lnW (UL G8 3)) VT=Zb0:=VS
abbrev KA(n:Nat)(a:Nat->Int):AV:=lst 1 n λk=>[iI (a k)]
abbrev KB(m:Nat)(b:Nat->Int):AV:=lst 1 m λk=>[iI (b k)]
section
variable (n m:Nat)(a b:Nat->Int)
def Wz7:St:={σ:=[KA n a,KB m b]++HG 24 [],m:=[],nx:=7}
noncomputable def Jo3:Code:=U8 (VQ (U6 Tryz.f25) 0)
def Wh3(k:Nat):St:=(upM [(5,i k)] (Wz7 n m a b))
def v9(k:Nat):G6->Option St
 | .exit 0=>some (upM [] (Wz7 n m a b))
 | .ret=>some (upM [(4,.lit false)] (Wz7 n m a b))
 |_=>none
def Jj7:CT:= .branch (D4 ((λk=>a k==b k)) n) (.leaf (.exit 0,(v9 n m a b 0 (.exit 0)).getD (Wz7 n m a b))) (.leaf (.ret,(v9 n m a b 0 .ret).getD (Wz7 n m a b)))
def Xv1:UH:=(HF (Wh3 n m a b (0)) (Jj7 n m a b))
theorem Ja3(VR:n<=100000)(UE:n=m):G7 VN (.loop Jo3) (Xv1 n m a b):=by
 refine HE (L:=[]) (VJ.nil _) VY U2 (X:=Nat) (Wh3 n m a b) (λk=>k<=n/\ ∀j,j<k->((λk=>a k==b k)) j=true) (λk=>n-k) (v9 n m a b) (x0:=0) ⟨VI,λj hj=>VI⟩ ?_ ?_ ?_
 ·rintro k;kernel_rfl
 ·rintro k y E h;unfold v9 at h;split at h
  ·cases h;kernel_rfl
  ·cases h;kernel_rfl
  ·cases h
 ·rintro Q hQ k hx;refine ⟨(k+1),?_⟩;(with_reducible refine DF (t:=branch (decide ((k:Int)<(n:Int))) (need [UI k n] (need [UI k m] (branch (a k != b k) (need [VX (KA n a),VX (KB m b),WK] (leaf G6.ret)) (need [VK ((k:Int)+1)] (need [VX (KA n a),VX (KB m b),(k:Int)+1=(↑(k+1):Int)] (leaf G6.normal)))))) (need [VX (KA n a),VX (KB m b)] (leaf (G6.exit 0)))) VS ?_);simp only [Jj7,v9,VL.sat,GS] at hQ;have Wn2:k<n->((λk=>a k==b k)) k=false->D4 ((λk=>a k==b k)) n=false:=by
   intro h1 h2;rw [←Bool.not_eq_true];intro h3;have:=GR.1 h3 k h1;exact Bool.noConfusion (h2.symm.trans this)
  have uZ:((λk=>a k==b k)) k=true-> ∀j,j<k+1->((λk=>a k==b k)) j=true:=by
   intro h1 j hj;rcases (show j<k\/j=k by omega) with h|rfl
   ·exact hx.2 j h
   ·exact h1
  have PJ: ¬k<n->D4 ((λk=>a k==b k)) n=true:=λh=>GR.2 (λj hj=>hx.2 j VI)
  have hQ1: ∀E,v9 n m a b k .ret=some E->D4 ((λk=>a k==b k)) n=false->Q (.ret,E):=by
   intro E hE hf;cases hE;exact hQ.2 hf
  have hQ2: ∀E,v9 n m a b k (.exit 0)=some E->D4 ((λk=>a k==b k)) n=true->Q (.exit 0,E):=by
   intro E hE hf;cases hE;exact hQ.1 hf
  simp only [VL.sat,UA,UG,H9,VK,F9]
  all_goals exact V5
theorem We6(VR:n<=100000):VW VN 25 [.lst 1 n (λk=>[i (a k)]),.lst 1 m (λk=>[i (b k)])] (bl (decide (n=m)&&D4 (λk=>a k==b k) n)):=by
 refine U0 (L:=[FO [n<=100000,n=m] (Xv1 n m a b)]) (VJ.nil _) VY Tryz.func25 (US Tryz.f25) (G0 (lpE (b:= .loop Jo3) VS<|D0 (λh=>Ja3 n m a b h.1 h.2))) (t:=branch ((n:Int) != (m:Int)) (leaf (RV.x (WM))) (need [n<=100000,n=m] (need [VX (KA n a),VX (KB m b),(0:Int)=(↑(0:Nat):Int)] (branch (D4 (λk=>a k==b k) n) (leaf (RV.x (.bool true))) (leaf (RV.x (WM))))))) VS ?_
 simp only [VL.sat,UA,UZ,GI,UC,VK,UG,H9,R0,bne_iff_ne,ne_eq];refine ⟨λh=>?_,λh=>?_⟩
 ·have:n≠m:=by intro h';subst h';simp at h
  simp [this]
 ·have e:n=m:=by
   rw [bne_eq_false_iff_eq] at h;omega
  subst e;refine ⟨⟨VI,rfl⟩,λh2=>?_,λh2=>?_⟩
  ·simp [h2]
  ·simp [h2]
end
def Qe8:UV
 |[.lst 1 n f,.lst 1 m g]=>some ([UD 1 n f,UD 1 m g,n<=100000],bl (decide (n=m)&&D4 (λk=>col 0 f k==col 0 g k) n))
 |_=>none
theorem We5:VO VN 25 Qe8:=by
 refine ⟨(UF Tryz.func25),?_⟩;intro avs ns res h hn;unfold Qe8 at h;split at h
 ·rename_i n f m g;cases h;have hr0:UD 1 n f:=hn _ VU;have hr1:UD 1 m g:=hn _ VU;exact (We6 n m (col 0 f) (col 0 g) (hn _ VU)).same (.cons (.lst 1 n _ _ hr0) (.cons (.lst 1 m _ _ hr1) .nil))
 ·cases h
def Wu7:UV
 |[.x (.slice none 0 0)]=>some ([],lns 11 (UL U5))
 |[.lst 1 n f]=>some ([n=5,∀k,k<n->f k=[.x (.string (UL G8 k))]],lns 16 (UL (U5++G8)))
 |_=>none
theorem Ja5{P:Nat->Prop}(h0:P 0)(h1:P 1)(h2:P 2)(h3:P 3)(h4:P 4)(h5:P 5)(h6:P 6)(h7:P 7)(h8:P 8)(h9:P 9)(h10:P 10): ∀i,i<11->P i:=by
 intro i hi
 match i,hi with
 | 0,_=>exact h0
 | 1,_=>exact h1
 | 2,_=>exact h2
 | 3,_=>exact h3
 | 4,_=>exact h4
 | 5,_=>exact h5
 | 6,_=>exact h6
 | 7,_=>exact h7
 | 8,_=>exact h8
 | 9,_=>exact h9
 | 10,_=>exact h10
 |i+11,h=>exact absurd h VI
theorem Xq6{P:Nat->Prop}(h0:P 0)(h1:P 1)(h2:P 2)(h3:P 3)(h4:P 4)(h5:P 5)(h6:P 6)(h7:P 7)(h8:P 8)(h9:P 9)(h10:P 10)(h11:P 11)(h12:P 12)(h13:P 13)(h14:P 14)(h15:P 15): ∀i,i<16->P i:=by
 intro i hi
 match i,hi with
 | 0,_=>exact h0
 | 1,_=>exact h1
 | 2,_=>exact h2
 | 3,_=>exact h3
 | 4,_=>exact h4
 | 5,_=>exact h5
 | 6,_=>exact h6
 | 7,_=>exact h7
 | 8,_=>exact h8
 | 9,_=>exact h9
 | 10,_=>exact h10
 | 11,_=>exact h11
 | 12,_=>exact h12
 | 13,_=>exact h13
 | 14,_=>exact h14
 | 15,_=>exact h15
 |i+16,h=>exact absurd h VI
abbrev JD:AV:=AV.x (.string {data:=#[(98:UInt8),(97:UInt8),(116:UInt8),(104:UInt8),(32:UInt8),(49:UInt8),(48:UInt8),(48:UInt8),(32:UInt8),(51:UInt8),(48:UInt8),(48:UInt8)] })
abbrev QI:List AV:=[AV.x (.string {data:=#[(116:UInt8),(104:UInt8),(114:UInt8),(101:UInt8),(97:UInt8),(100:UInt8),(32:UInt8),(48:UInt8),(32:UInt8),(49:UInt8),(32:UInt8),(52:UInt8),(48:UInt8),(32:UInt8),(52:UInt8),(48:UInt8)] }),AV.x (.string {data:=#[(116:UInt8),(104:UInt8),(114:UInt8),(101:UInt8),(97:UInt8),(100:UInt8),(32:UInt8),(50:UInt8),(32:UInt8),(51:UInt8),(32:UInt8),(52:UInt8),(56:UInt8),(32:UInt8),(53:UInt8),(48:UInt8)] }),AV.x (.string {data:=#[(105:UInt8),(115:UInt8),(115:UInt8),(117:UInt8),(101:UInt8),(32:UInt8),(48:UInt8),(32:UInt8),(52:UInt8),(32:UInt8),(57:UInt8),(48:UInt8),(32:UInt8),(48:UInt8)] }),JD,AV.x (.string {data:=#[(115:UInt8),(101:UInt8),(101:UInt8),(32:UInt8),(48:UInt8),(32:UInt8),(50:UInt8),(48:UInt8),(48:UInt8)] }),AV.x (.string {data:=#[(115:UInt8),(101:UInt8),(101:UInt8),(32:UInt8),(49:UInt8),(32:UInt8),(50:UInt8),(48:UInt8),(51:UInt8)] }),JD,AV.x (.string {data:=#[(115:UInt8),(101:UInt8),(101:UInt8),(32:UInt8),(49:UInt8),(32:UInt8),(50:UInt8),(53:UInt8),(50:UInt8)] }),AV.x (.string {data:=#[(115:UInt8),(101:UInt8),(101:UInt8),(32:UInt8),(50:UInt8),(32:UInt8),(50:UInt8),(53:UInt8),(48:UInt8)] }),AV.x (.string {data:=#[(115:UInt8),(101:UInt8),(108:UInt8),(108:UInt8),(32:UInt8),(48:UInt8),(32:UInt8),(49:UInt8),(32:UInt8),(54:UInt8),(32:UInt8),(49:UInt8),(32:UInt8),(51:UInt8)] }),AV.x (.string {data:=#[(115:UInt8),(101:UInt8),(108:UInt8),(108:UInt8),(32:UInt8),(49:UInt8),(32:UInt8),(50:UInt8),(32:UInt8),(52:UInt8),(32:UInt8),(50:UInt8),(32:UInt8),(50:UInt8)] })]
theorem Qw4:VW VN 20 [.x (.slice none 0 0)] (lns 11 (UL U5)):=by
 refine GU Tryz.func20 (t:=need [176<=140737488355328,∀(i:Nat),i<0-> ∀(a:AV),a∈[]->AV.one a=true] (leaf (RV.lst 1 11 (GG 11 (U4 1 QI) λx=>[])))) VS ?_
 simp only [VL.sat,UA,UZ,GI,UC,UG]
 (with_reducible repeat' first|apply And.intro|intro _)
 all_goals first|exact True.intro|contradiction|omega|exact FN (by assumption) (by simp [AV.one,Value.oneCell'])|(rename_i ha;rw [qM.1 ha];first|exact True.intro|rfl)|(rename_i i hi;revert i;refine Ja5 ?_ ?_ ?_ ?_ ?_ ?_ ?_ ?_ ?_ ?_ ?_<;>(show _=_;kernel_rfl))|decide|rfl|trace_state
theorem Qw3:VW VN 20 [.lst 1 5 (λk=>[.x (.string (UL G8 k))])] (lns 16 (UL (U5++G8))):=by
 refine GU Tryz.func20 (t:=need [256<=140737488355328,∀(i:Nat),i<5-> ∀(a:AV),a∈[FM (UL G8 i)]->AV.one a=true] (leaf (RV.lst 1 16 (GG 11 (U4 1 QI) λk=>[FM (UL G8 k)])))) VS ?_
 simp only [VL.sat,UA,UZ,GI,UC,UG]
 (with_reducible repeat' first|apply And.intro|intro _)
 all_goals first|exact True.intro|contradiction|omega|exact FN (by assumption) (by simp [AV.one,Value.oneCell'])|(rename_i ha;rw [qM.1 ha];first|exact True.intro|rfl)|(rename_i i hi;revert i;refine Xq6 ?_ ?_ ?_ ?_ ?_ ?_ ?_ ?_ ?_ ?_ ?_ ?_ ?_ ?_ ?_ ?_<;>(show _=_;kernel_rfl))|decide|rfl|trace_state
theorem Xb0:VO VN 20 Wu7:=by
 refine ⟨(UF Tryz.func20),?_⟩;intro avs ns res h hn;unfold Wu7 at h;split at h
 ·cases h;exact Qw4
 ·rename_i n f;cases h;obtain rfl:n=5:=hn _ VU;have h2: ∀k,k<5->f k=[.x (.string (UL G8 k))]:=hn (∀k,k<5->f k=[.x (.string (UL G8 k))]) VU;exact Qw3.same (.cons (.lst 1 5 f _ h2) .nil)
 ·cases h
theorem Xn4:sK (UL (U5++G8)) 0=hs0:=rfl
theorem Xn3:sK (UL (U5++G8)) 1=wk1:=by
 show lnS (UL U5 0) (sK (UL (U5++G8)) 0)=_;rw [Xn4];unfold lnS;rw [if_pos Qw0];exact Xo4
theorem Xn2:sK (UL (U5++G8)) 2=wk2:=by
 show lnS (UL U5 1) (sK (UL (U5++G8)) 1)=_;rw [Xn3];unfold lnS;rw [if_pos Qv9];exact Xo3
theorem Xn1:sK (UL (U5++G8)) 3=wk3:=by
 show lnS (UL U5 2) (sK (UL (U5++G8)) 2)=_;rw [Xn2];unfold lnS;rw [if_pos Qv8];exact Xo2
theorem Xn0:sK (UL (U5++G8)) 4=wk4:=by
 show lnS (UL U5 3) (sK (UL (U5++G8)) 3)=_;rw [Xn1];unfold lnS;rw [if_pos Qv7];exact Xo1
theorem Xm9:sK (UL (U5++G8)) 5=wk5:=by
 show lnS (UL U5 4) (sK (UL (U5++G8)) 4)=_;rw [Xn0];unfold lnS;rw [if_pos Qv6];exact Xo0
theorem Xm8:sK (UL (U5++G8)) 6=wk6:=by
 show lnS (UL U5 5) (sK (UL (U5++G8)) 5)=_;rw [Xm9];unfold lnS;rw [if_pos Qv5];exact Xn9
theorem Xm7:sK (UL (U5++G8)) 7=wk7:=by
 show lnS (UL U5 6) (sK (UL (U5++G8)) 6)=_;rw [Xm8];unfold lnS;rw [if_pos Qv4];exact Xn8
theorem Xm6:sK (UL (U5++G8)) 8=wk8:=by
 show lnS (UL U5 7) (sK (UL (U5++G8)) 7)=_;rw [Xm7];unfold lnS;rw [if_pos Qv3];exact Xn7
theorem Xm5:sK (UL (U5++G8)) 9=wk9:=by
 show lnS (UL U5 8) (sK (UL (U5++G8)) 8)=_;rw [Xm6];unfold lnS;rw [if_pos Qv2];exact Xn6
theorem Qu0:sK (UL (U5++G8)) 10=Qi9:=by
 show lnS (UL U5 9) (sK (UL (U5++G8)) 9)=_;rw [Xm5];unfold lnS;rw [if_pos Qv1];exact Xn5
theorem Qt9:sK (UL (U5++G8)) 11=VT:=by
 show lnS (UL U5 10) (sK (UL (U5++G8)) 10)=_;rw [Qu0];unfold lnS;rw [if_pos mU];exact Qu3
theorem Qt8:sK (UL (U5++G8)) 12=VT:=by
 show lnS (UL G8 0) (sK (UL (U5++G8)) 11)=_;rw [Qt9];unfold lnS;rw [if_neg (by rw [Xp0];decide)]
theorem Qt7:sK (UL (U5++G8)) 13=VT:=by
 show lnS (UL G8 1) (sK (UL (U5++G8)) 12)=_;rw [Qt8];unfold lnS;rw [if_neg (by rw [Xo9];decide)]
theorem Qt6:sK (UL (U5++G8)) 14=VT:=by
 show lnS (UL G8 2) (sK (UL (U5++G8)) 13)=_;rw [Qt7];unfold lnS;rw [if_neg (by rw [Xo8];decide)]
theorem Xy3:sK (UL (U5++G8)) 15=Zb0:=by
 show lnS (UL G8 3) (sK (UL (U5++G8)) 14)=_;rw [Qt6];unfold lnS;rw [if_pos Xo7];exact Zt6
theorem Zt4:eK (UL (U5++G8)) 0=0:=by
 show lnE (UL U5 0) (sK (UL (U5++G8)) 0)=_;rw [Xn4];exact Qw0
theorem Zt3:eK (UL (U5++G8)) 1=0:=by
 show lnE (UL U5 1) (sK (UL (U5++G8)) 1)=_;rw [Xn3];exact Qv9
theorem Zt2:eK (UL (U5++G8)) 2=0:=by
 show lnE (UL U5 2) (sK (UL (U5++G8)) 2)=_;rw [Xn2];exact Qv8
theorem Zt1:eK (UL (U5++G8)) 3=0:=by
 show lnE (UL U5 3) (sK (UL (U5++G8)) 3)=_;rw [Xn1];exact Qv7
theorem Zt0:eK (UL (U5++G8)) 4=0:=by
 show lnE (UL U5 4) (sK (UL (U5++G8)) 4)=_;rw [Xn0];exact Qv6
theorem Zs9:eK (UL (U5++G8)) 5=0:=by
 show lnE (UL U5 5) (sK (UL (U5++G8)) 5)=_;rw [Xm9];exact Qv5
theorem Zs8:eK (UL (U5++G8)) 6=0:=by
 show lnE (UL U5 6) (sK (UL (U5++G8)) 6)=_;rw [Xm8];exact Qv4
theorem Zs7:eK (UL (U5++G8)) 7=0:=by
 show lnE (UL U5 7) (sK (UL (U5++G8)) 7)=_;rw [Xm7];exact Qv3
theorem Zs6:eK (UL (U5++G8)) 8=0:=by
 show lnE (UL U5 8) (sK (UL (U5++G8)) 8)=_;rw [Xm6];exact Qv2
theorem Zs5:eK (UL (U5++G8)) 9=0:=by
 show lnE (UL U5 9) (sK (UL (U5++G8)) 9)=_;rw [Xm5];exact Qv1
theorem Xy9:eK (UL (U5++G8)) 10=0:=by
 show lnE (UL U5 10) (sK (UL (U5++G8)) 10)=_;rw [Qu0];exact mU
theorem Xy8:eK (UL (U5++G8)) 11=9:=by
 show lnE (UL G8 0) (sK (UL (U5++G8)) 11)=_;rw [Qt9];exact Xp0
theorem Xy7:eK (UL (U5++G8)) 12=10:=by
 show lnE (UL G8 1) (sK (UL (U5++G8)) 12)=_;rw [Qt8];exact Xo9
theorem Xy6:eK (UL (U5++G8)) 13=9:=by
 show lnE (UL G8 2) (sK (UL (U5++G8)) 13)=_;rw [Qt7];exact Xo8
theorem Xy5:eK (UL (U5++G8)) 14=0:=by
 show lnE (UL G8 3) (sK (UL (U5++G8)) 14)=_;rw [Qt6];exact Xo7
theorem Xy4:eK (UL (U5++G8)) 15=0:=by
 show lnE (UL G8 4) (sK (UL (U5++G8)) 15)=_;rw [Xy3];exact Zt7
def wrB:ByteArray:=⟨#[91,48,48,49,58,48,48,50,50,51,93,97,10]⟩
def lnA(_:Nat):ByteArray:=⟨#[97]⟩
def Xl4(s:HS):D7:=λl=>some (.need [l=[lns 16 (UL (U5++G8))]] (.leaf (.tup [.agg (hsL s),.lst 1 16 (λj=>[i (U7 [0,0,0,0,0,0,0,0,0,0,0,9,10,9,0,0] j)]),i 0])))
def Zn2:D7:=λl=>some (.need [l=[lns 11 (UL U5)]] (.leaf (.tup [.lst 2 3 (λk=>[i (U7 [0,1,-3] k),i (U7 [0,5,5] k)]),i 0])))
def Zm9:D7:=λl=>some (.need [l=[lns 11 (UL U5),i 0]] (.leaf (.tup [.lst 1 1 (λk=>[i (U7 [0] k)]),i 0])))
def Zn1:D7:=λl=>some (.need [l=[lns 11 (UL U5),i 1]] (.leaf (.tup [.lst 1 2 (λk=>[i (U7 [0,1] k)]),.lst 1 1 (λk=>[i (U7 [0] k)]),i 0])))
def Zn0:UV:=λl=>some ([l=[lns 11 (UL U5)]],.tup [.x (.string Ze8),i 0])
def Ww0:D7:=λl=>match l with
 |[.lst 1 n f]=>some (.need [n=1,f 0=[.x (.string (lnA 0))]] (.leaf (.tup [.lst 1 13 (DK wrB),i 0])))
 |_=>none
theorem qS{P:Program}{f:FuncId}{avs:List AV}{t sp:VL AV}(h:UM P f avs t)(hm: ∀Q:AV->Prop,sp.sat Q->t.sat (λr=> ∃r',F5 r r'/\Q r')):UM P f avs sp:=by
 intro Q hQ e w args q1 q2 q3 q4;refine (h _ (hm Q hQ) e w args q1 q2 q3 q4).mono ?_;rintro en w' ⟨v,r,rfl,⟨r',g1,g2⟩,g3,g4⟩;exact ⟨v,r',rfl,g2,g3,LN g1 g4⟩
theorem Zt5:ckE 16 (UL (U5++G8))=0:=by decide+kernel
theorem Qw5(s:HS)(hs:s=sK (UL (U5++G8)) 16):Sx.Enters Tryz.prog 19/\ ∀avs t,Xl4 s avs=some t->UM VN 19 avs t:=by
 refine ⟨(UF Tryz.func19),?_⟩;intro avs t h;cases h;intro Q hQ;have e:avs=[lns 16 (UL (U5++G8))]:=hQ.1;subst e;have h1:=iN 16 (UL (U5++G8)) VI;refine qS h1 (sp:= .leaf (.tup [.agg (hsL s),.lst 1 16 (λj=>[i (U7 [0,0,0,0,0,0,0,0,0,0,0,9,10,9,0,0] j)]),i 0])) (λQ hq=>⟨λh=>?_,λ_=>?_⟩) Q hQ.2
 ·rw [Zt5] at h;exact absurd h (by decide)
 ·refine ⟨.tup [.agg (hsL s),.lst 1 16 (λj=>[i (U7 [0,0,0,0,0,0,0,0,0,0,0,9,10,9,0,0] j)]),i 0],⟨?_,⟨rfl,rfl,λk hk=>?_⟩,⟨rfl,rfl⟩,True.intro⟩,hq⟩
  ·rw [hs];exact A2 _
  ·revert k;refine Xq6 (congrArg (λz=>[i z]) Zt4) (congrArg (λz=>[i z]) Zt3) (congrArg (λz=>[i z]) Zt2) (congrArg (λz=>[i z]) Zt1) (congrArg (λz=>[i z]) Zt0) (congrArg (λz=>[i z]) Zs9) (congrArg (λz=>[i z]) Zs8) (congrArg (λz=>[i z]) Zs7) (congrArg (λz=>[i z]) Zs6) (congrArg (λz=>[i z]) Zs5) (congrArg (λz=>[i z]) Xy9) (congrArg (λz=>[i z]) Xy8) (congrArg (λz=>[i z]) Xy7) (congrArg (λz=>[i z]) Xy6) (congrArg (λz=>[i z]) Xy5) (congrArg (λz=>[i z]) Xy4)
theorem Xb5:Sx.Enters Tryz.prog 21/\ ∀avs t,Zn2 avs=some t->UM VN 21 avs t:=by
 refine ⟨(UF Tryz.func21),?_⟩;intro avs t h;cases h;intro Q hQ;have e:avs=[lns 11 (UL U5)]:=hQ.1;subst e;have h1:=iO 11 (UL U5) VI;rw [AD] at h1;refine qS h1 (sp:= .leaf (.tup [.lst 2 3 (λk=>[i (U7 [0,1,-3] k),i (U7 [0,5,5] k)]),i 0])) (λQ hq=>⟨λh=>?_,λ_=>?_⟩) Q hQ.2
 ·rw [bJ] at h;exact absurd h (by decide)
 ·refine ⟨.tup [.lst 2 3 (λk=>[i (U7 [0,1,-3] k),i (U7 [0,5,5] k)]),i 0],⟨⟨rfl,Xo5,λk hk=>?_⟩,(show F5 (i _) (i 0) by rw [Xo6];exact ⟨rfl,rfl⟩),True.intro⟩,hq⟩
  rcases (show k=0\/k=1\/k=2 by omega) with rfl|rfl|rfl
  ·show [i _,i _]=_;rw [Qu6,Qu9];rfl
  ·show [i _,i _]=_;rw [Qu5,Qu8];rfl
  ·show [i _,i _]=_;rw [Qu4,Qu7];rfl
theorem Xb2:Sx.Enters Tryz.prog 22/\ ∀avs t,Zm9 avs=some t->UM VN 22 avs t:=by
 refine ⟨(UF Tryz.func22),?_⟩;intro avs t h;cases h;intro Q hQ;have e:avs=[lns 11 (UL U5),i 0]:=hQ.1;subst e;have h1:=TV 11 (UL U5) 0 VI;rw [AD] at h1;have hn:VT.nc=1:=VS;have hc:G5 (stP VT 0) 1=1:=by rw [F8 Qu2];rfl
 refine qS h1 (sp:= .leaf (.tup [.lst 1 1 (λk=>[i (U7 [0] k)]),i 0])) (λQ hq=>⟨λh=>?_,λ_=>⟨λh=>absurd h (by decide),λ_=>?_⟩⟩) Q hQ.2
 ·rw [bJ] at h;exact absurd h (by decide)
 ·refine ⟨.tup [.lst 1 1 (λk=>[i (U7 [0] k)]),i 0],⟨⟨rfl,by rw [hn];exact hc,λk hk=>?_⟩,⟨rfl,rfl⟩,True.intro⟩,hq⟩
  obtain rfl:k=0:=VI;have h2:=BK (show 0<VT.nc by rw [hn];omega) Qu2
  have h3:G5 (stP VT 0) 0=0:=rfl;rw [h3] at h2;show [i _]=_;rw [h2];rfl
theorem Xb4:Sx.Enters Tryz.prog 23/\ ∀avs t,Zn1 avs=some t->UM VN 23 avs t:=by
 refine ⟨(UF Tryz.func23),?_⟩;intro avs t h;cases h;intro Q hQ;have e:avs=[lns 11 (UL U5),i 1]:=hQ.1;subst e;have h1:=Qp1 11 (UL U5) 1 VI;rw [AD] at h1;have c0:G5 (caB VT.ns VT.sa VT.sb VT.sc VT.sl VT.sh 1) 0=0:=rfl;have c1:G5 (caB VT.ns VT.sa VT.sb VT.sc VT.sl VT.sh 1) 1=1:=by rw [F8 Qw2,c0]
 have c2:G5 (caB VT.ns VT.sa VT.sb VT.sc VT.sl VT.sh 1) 2=2:=by rw [F8 Qw1,c1]
 have c3:G5 (caB VT.ns VT.sa VT.sb VT.sc VT.sl VT.sh 1) 3=2:=by rw [RE Za9,c2]
 have c4:G5 (caB VT.ns VT.sa VT.sb VT.sc VT.sl VT.sh 1) 4=2:=by rw [RE Za8,c3]
 have d0:G5 (suB VT.ns VT.sa VT.sb VT.sc VT.sl VT.sh 1) 0=0:=rfl;have d1:G5 (suB VT.ns VT.sa VT.sb VT.sc VT.sl VT.sh 1) 1=1:=by rw [F8 Qu1,d0]
 have d2:G5 (suB VT.ns VT.sa VT.sb VT.sc VT.sl VT.sh 1) 2=1:=by rw [RE Xz2,d1]
 have d3:G5 (suB VT.ns VT.sa VT.sb VT.sc VT.sl VT.sh 1) 3=1:=by rw [RE Xz1,d2]
 have d4:G5 (suB VT.ns VT.sa VT.sb VT.sc VT.sl VT.sh 1) 4=1:=by rw [RE Xz0,d3]
 have e0:=BK (show 0<4 by omega) Qw2
 have e1:=BK (show 1<4 by omega) Qw1
 have f0:=BK (show 0<4 by omega) Qu1
 rw [c0] at e0;rw [c1] at e1;rw [d0] at f0;refine qS h1 (sp:= .leaf (.tup [.lst 1 2 (λk=>[i (U7 [0,1] k)]),.lst 1 1 (λk=>[i (U7 [0] k)]),i 0])) (λQ hq=>⟨λh=>?_,λ_=>⟨λh=>absurd h (by decide),λ_=>⟨λh=>?_,λ_=>?_⟩⟩⟩) Q hQ.2
 ·rw [bJ] at h;exact absurd h (by decide)
 ·rw [Qv0] at h;exact Bool.noConfusion h
 ·refine ⟨.tup [.lst 1 2 (λk=>[i (U7 [0,1] k)]),.lst 1 1 (λk=>[i (U7 [0] k)]),i 0],⟨⟨rfl,c4,λk hk=>?_⟩,⟨rfl,d4,λk hk=>?_⟩,⟨rfl,rfl⟩,True.intro⟩,hq⟩
  ·rcases (show k=0\/k=1 by omega) with rfl|rfl
   ·show [i _]=_;rw [e0];rfl
   ·show [i _]=_;rw [e1];rfl
  ·obtain rfl:k=0:=VI;show [i _]=_;rw [f0];rfl
theorem Xb3:VO VN 24 Zn0:=by
 refine ⟨(UF Tryz.func24),?_⟩;intro avs ns res h hn;cases h;have e:avs=[lns 11 (UL U5)]:=hn _ GD;subst e;exact iM
theorem Xb1:Sx.Enters Tryz.prog 13/\ ∀avs t,Ww0 avs=some t->UM VN 13 avs t:=by
 refine ⟨(UF Tryz.func13),?_⟩;intro avs t h;unfold Ww0 at h;split at h
 ·rename_i n f;cases h;intro Q hQ;obtain rfl:n=1:=hQ.1.1;have h2:f 0=[.x (.string (lnA 0))]:=hQ.1.2;have h1:=Qp0 1 lnA VI;have hb:flB lnA 1=wrB:=by decide+kernel
  rw [hb] at h1;have h3:UM VN 13 [.lst 1 1 f] (.leaf (.tup [.lst 1 13 (DK wrB),i 0])):=by
   intro Q hq e w args q1 q2 q3 q4;refine h1 Q ⟨λh=>?_,λ_=>hq⟩ e w args q1 q2 ?_ ?_
   ·rw [show ckE 1 lnA=0 by decide+kernel] at h
    exact absurd h (by decide)
   ·intro a ha;rw [qM.1 ha];exact .lst _ _ _ λk _ x hx=>by rw [qM.1 hx];exact .x _
   ·obtain ⟨u,us,rfl,r1,r2⟩:=q4.cons_inv;refine .cons (LN (a:= .lst 1 1 f) ⟨rfl,rfl,λk hk=>?_⟩ r1) r2
    obtain rfl:k=0:=VI;exact h2
  exact h3 Q hQ.2
 ·cases h
theorem Zh2{a b:ByteArray}(h:(a.toList==b.toList)=false)(e:a=b):False:=by
 subst e;simp at h
abbrev WF:List Int:=[(0:Int),0,0,0,0,0,0,0,0,0,0,(9:Int),(10:Int),(9:Int),(0:Int),(0:Int)]
abbrev JE:List AV:=[lst 1 11 λk=>[FM (UL U5 k)],iI 0]
abbrev JF:List AV:=[lst 1 11 λk=>[FM (UL U5 k)],iI 1]
abbrev JH:List AV:=[lst 1 16 λk=>[FM (UL (U5++G8) k)]]
theorem Qj1(s:HS)(VR:s=sK (UL (U5++G8)) 16):VW VN 8 [] (bl true):=by
 refine GA (L:=[]) (VJ.cons Xb0 (VJ.cons We5 (VJ.cons Xb3 (VJ.nil _)))) (VV.ofC (VP.nil _) (VM.nil _) (U9.cons (Qw5 s VR) (U9.cons Xb5 (U9.cons Xb2 (U9.cons Xb4 (U9.cons Xb1 (U9.nil _))))))) VY Tryz.func8 (US Tryz.f8) G4 (t:=let z0:=(U4 1 [iI 0,iI 1]);let z1:=(U4 1 [iI 0]);(need [5=5,GT 5 (U4 1 [AV.x (.string {data:=#[116,104,114,101,97,100,32,48,32,50,32,52,48,32,52,48] }),AV.x (.string {data:=#[105,115,115,117,101,32,48,32,52,32,56,48,32,48] }),AV.x (.string {data:=#[115,101,101,32,48,32,49,48,48] }),AV.x (.string {data:=#[115,116,114,105,107,101,32,49] }),AV.x (.string {data:=#[118,111,105,100,32,48] })]) (λk=>[FM (UL G8 k)])] (need [JH=JH] (need [WL=WL] (need [JE=JE] (need [JF=JF] (need [WL=WL] (need [1=1,[AV.x (.string {data:=#[97] })]=[FM (lnA 0)]] (branch ((0:Int)==0) (branch ((↑(16:Nat):Int)==16) (need [UI 10 16] (branch (U7 WF (10:Int).toNat==0) (need [UI 11 16] (branch (U7 WF (11:Int).toNat==9) (need [UI 12 16] (branch (U7 WF (12:Int).toNat==10) (need [UI 13 16] (branch (U7 WF (13:Int).toNat==9) (need [UI 14 16] (branch (U7 WF (14:Int).toNat==0) (need [UI 15 16] (branch (U7 WF (15:Int).toNat==0) (branch ((0:Int)==0) (branch ((↑(3:Nat):Int)==3) (need [UI 1 3] (branch (U7 WU (1:Int).toNat==1&&(U7 Z6 (1:Int).toNat==5&&true)) (need [UI 2 3] (branch (U7 WU (2:Int).toNat==(-3:Int)&&(U7 Z6 (2:Int).toNat==5&&true)) (branch ((0:Int)==0) (need [UD 1 1 λk=>[i (U7 [(0:Int)] k)],UD 1 1 z1,1<=100000] (branch (decide (1=1)&&(true&&U7 [(0:Int)] (nat_lit 0)==col 0 z1 (nat_lit 0))) (branch ((0:Int)==0) (need [UD 1 2 λk=>[i (U7 [(0:Int),1] k)],UD 1 2 z0,2<=100000] (branch (decide (2=2)&&(true&&U7 [(0:Int),1] (nat_lit 0)==col 0 z0 (nat_lit 0)&&U7 [(0:Int),1] (nat_lit 1)==col 0 z0 (nat_lit 1))) (need [UD 1 1 λk=>[i (U7 [(0:Int)] k)],UD 1 1 z1,1<=100000] (branch (decide (1=1)&&(true&&U7 [(0:Int)] (nat_lit 0)==col 0 z1 (nat_lit 0))) (branch ((0:Int)==0) (branch (ByteArray.toList Ze8==ByteArray.toList {data:=List.toArray (List.append (List.append [(114:UInt8),(101:UInt8),(97:UInt8),(100:UInt8),(105:UInt8),(110:UInt8),(103:UInt8),(115:UInt8),(32:UInt8),(50:UInt8),(32:UInt8),(98:UInt8),(97:UInt8),(116:UInt8),(104:UInt8),(115:UInt8),(32:UInt8),(50:UInt8),(32:UInt8),(99:UInt8),(101:UInt8),(114:UInt8),(116:UInt8),(105:UInt8),(102:UInt8),(105:UInt8),(99:UInt8),(97:UInt8),(116:UInt8),(101:UInt8),(115:UInt8),(32:UInt8),(49:UInt8),(32:UInt8)] [(115:UInt8),(97:UInt8),(108:UInt8),(101:UInt8),(115:UInt8),(32:UInt8),(50:UInt8),(10:UInt8),(109:UInt8),(97:UInt8),(114:UInt8),(107:UInt8),(115:UInt8),(32:UInt8),(48:UInt8),(46:UInt8),(46:UInt8),(48:UInt8),(32:UInt8),(50:UInt8),(48:UInt8),(48:UInt8),(46:UInt8),(46:UInt8),(51:UInt8),(48:UInt8),(48:UInt8),(32:UInt8),(52:UInt8),(49:UInt8),(48:UInt8),(46:UInt8),(46:UInt8),(53:UInt8)]) (List.append [(49:UInt8),(48:UInt8),(32:UInt8),(55:UInt8),(48:UInt8),(48:UInt8),(46:UInt8),(46:UInt8),(56:UInt8),(48:UInt8),(48:UInt8),(32:UInt8),(49:UInt8),(48:UInt8),(48:UInt8),(48:UInt8),(46:UInt8),(46:UInt8),(49:UInt8),(48:UInt8),(48:UInt8),(48:UInt8),(10:UInt8),(111:UInt8),(102:UInt8),(102:UInt8),(115:UInt8),(101:UInt8),(116:UInt8),(115:UInt8),(32:UInt8),(48:UInt8),(46:UInt8),(46:UInt8)] [(48:UInt8),(32:UInt8),(49:UInt8),(46:UInt8),(46:UInt8),(53:UInt8),(32:UInt8),(45:UInt8),(51:UInt8),(46:UInt8),(46:UInt8),(53:UInt8),(10:UInt8),(115:UInt8),(116:UInt8),(97:UInt8),(110:UInt8),(100:UInt8),(32:UInt8),(48:UInt8),(10:UInt8),(104:UInt8),(111:UInt8),(108:UInt8),(100:UInt8),(32:UInt8),(52:UInt8),(32:UInt8),(50:UInt8),(32:UInt8),(52:UInt8),(32:UInt8),(48:UInt8),(10:UInt8)])) }) (branch ((0:Int)==0) (need [uS 13 (DK wrB)] (leaf (RV.x (.bool (ByteArray.toList (bsO 13 (DK wrB))==ByteArray.toList {data:=#[91,48,48,49,58,48,48,50,50,51,93,97,10] }))))) (leaf (RV.x (WM)))) (leaf (RV.x (WM)))) (leaf (RV.x (WM)))) (leaf (RV.x (WM))))) (leaf (RV.x (WM))))) (leaf (RV.x (WM)))) (leaf (RV.x (WM))))) (leaf (RV.x (WM)))) (leaf (RV.x (WM))))) (leaf (RV.x (WM))))) (leaf (RV.x (WM)))) (leaf (RV.x (WM)))) (leaf (RV.x (WM))))) (leaf (RV.x (WM))))) (leaf (RV.x (WM))))) (leaf (RV.x (WM))))) (leaf (RV.x (WM))))) (leaf (RV.x (WM))))) (leaf (RV.x (WM)))) (leaf (RV.x (WM)))))))))))) VS ?_
 have hw:bsO 13 (DK wrB)=wrB:=Zm2 wrB;simp only [VL.sat,UA,UZ,GI,UC,UG,VK,hw]
 (with_reducible repeat' first|apply And.intro|intro _)
 all_goals first|exact True.intro|contradiction|(rename_i h;exact (Zh2 h VS).elim)|omega|exact pT (by decide+kernel)|(intro k hk;exact ltM VS k hk)|(rename_i k hk;exact ltM VS k hk)|(rename_i k hk;revert k;refine ltM ?_;kernel_rfl)|(intro k hk;revert k;refine ltM ?_;kernel_rfl)|decide|decide+kernel|rfl
def Qe1:UV
 |[]=>some ([],bl true)
 |_=>none
theorem bK:VO VN 8 Qe1:=by
 refine ⟨(UF Tryz.func8),?_⟩;intro avs ns res h hn;unfold Qe1 at h;split at h
 ·cases h;exact Qj1 _ rfl
 ·cases h
section
variable (n:Nat)(L:Nat->ByteArray)
def thA:Bool:=D4 (λk=>decide (((L k).size:Int)<=210)) (min n 56)
def thB:Bool:=thA n L&&decide ((n:Int)<=55)
def rgB:Bool:=D4 (λk=>decide (((L k).size:Int)<=200)) n&&decide ((n:Int)<=50)
def rdB(most:Int):Bool:=thB n L&&(rgB n L&&decide ((n:Int)<=most))
def Wz1:St:={σ:=[Q8 n L]++HG 22 [],m:=[],nx:=2}
noncomputable def Jn0:Code:=U8 (VQ (U6 Tryz.f17) 0)
def Wf8(k:Nat):St:=(upM [(3,i k)] (Wz1 n L))
def v6(k:Nat):G6->Option St
 | .exit 0=>some (upM [] (Wz1 n L))
 | .ret=>some (upM [(2,.lit false)] (Wz1 n L))
 |_=>none
def Ji1:CT:= .branch (D4 ((λk=>decide (((L k).size:Int)<=210))) (min n 56)) (.leaf (.exit 0,(v6 n L 0 (.exit 0)).getD (Wz1 n L))) (.leaf (.ret,(v6 n L 0 .ret).getD (Wz1 n L)))
def Xt4:UH:=(HF (Wf8 n L (0)) (Ji1 n L))
theorem Zv6(VR:(min n 56)<=100000):G7 VN (.loop Jn0) (Xt4 n L):=by
 refine HE (L:=[]) (VJ.nil _) VY U2 (X:=Nat) (Wf8 n L) (λk=>k<=(min n 56)/\ ∀j,j<k->((λk=>decide (((L k).size:Int)<=210))) j=true) (λk=>(min n 56)-k) (v6 n L) (x0:=0) ⟨VI,λj hj=>VI⟩ ?_ ?_ ?_
 ·rintro k;kernel_rfl
 ·rintro k y E h;unfold v6 at h;split at h
  ·cases h;kernel_rfl
  ·cases h;kernel_rfl
  ·cases h
 ·rintro Q hQ k hx;refine ⟨(k+1),?_⟩;(with_reducible refine DF (t:=let z0:=(need [VX (Q8 n L)] (leaf (G6.exit 0)));(branch (decide ((k:Int)<(n:Int))) (branch (decide ((k:Int)<56)) (need [UI k n] (branch (decide ((↑(ByteArray.size (L k)):Int)>210)) (need [VX (Q8 n L),WK] (leaf G6.ret)) (need [VK ((k:Int)+1)] (need [VX (Q8 n L),(k:Int)+1=(↑(k+1):Int)] (leaf G6.normal))))) z0) z0)) VS ?_);simp only [Ji1,v6,VL.sat,GS] at hQ;have Wn2:k<(min n 56)->((λk=>decide (((L k).size:Int)<=210))) k=false->D4 ((λk=>decide (((L k).size:Int)<=210))) (min n 56)=false:=by
   intro h1 h2;rw [←Bool.not_eq_true];intro h3;have:=GR.1 h3 k h1;exact Bool.noConfusion (h2.symm.trans this)
  have uZ:((λk=>decide (((L k).size:Int)<=210))) k=true-> ∀j,j<k+1->((λk=>decide (((L k).size:Int)<=210))) j=true:=by
   intro h1 j hj;rcases (show j<k\/j=k by omega) with h|rfl
   ·exact hx.2 j h
   ·exact h1
  have PJ: ¬k<(min n 56)->D4 ((λk=>decide (((L k).size:Int)<=210))) (min n 56)=true:=λh=>GR.2 (λj hj=>hx.2 j VI)
  have hQ1: ∀E,v6 n L k .ret=some E->D4 ((λk=>decide (((L k).size:Int)<=210))) (min n 56)=false->Q (.ret,E):=by
   intro E hE hf;cases hE;exact hQ.2 hf
  have hQ2: ∀E,v6 n L k (.exit 0)=some E->D4 ((λk=>decide (((L k).size:Int)<=210))) (min n 56)=true->Q (.exit 0,E):=by
   intro E hE hf;cases hE;exact hQ.1 hf
  simp only [VL.sat,UA,UG,H9,VK,F9]
  all_goals exact V5
theorem Wf2:VW VN 17 [lns n L] (bl (thB n L)):=by
 refine U0 (L:=[FO [min n 56<=100000] (Xt4 n L)]) (VJ.nil _) VY Tryz.func17 (US Tryz.f17) (G0 (lpE (b:= .loop Jn0) VS<|D0 (λh=>Zv6 n L h))) (t:=need [min n 56<=100000] (need [VX (Q8 n L),(0:Int)=(↑(0:Nat):Int)] (branch (D4 (λk=>decide ((↑(ByteArray.size (L k)):Int)<=210)) (min n 56)) (leaf (RV.x (.bool (decide ((n:Int)<=55))))) (leaf (RV.x (WM)))))) VS ?_
 simp only [VL.sat,UA,UZ,GI,UC,VK,UG,H9,R0];unfold thB thA;refine ⟨VI,λh=>?_,λh=>?_⟩
 ·simp [h]
 ·simp [h]
def Xl7:UV:=λl=>some ([l=[lns n L]],bl (thB n L))
theorem Qm2:VO VN 17 (Xl7 n L):=by
 refine ⟨(UF Tryz.func17),?_⟩;intro avs ns res h hn;cases h;have e:=hn _ GD;subst e;exact Wf2 n L
def b6:St:={σ:=[Q8 n L]++HG 18 [],m:=[],nx:=2}
noncomputable def Xa5:Code:=U8 (VQ (U6 Tryz.f18) 0)
def EM(k:Nat):St:=(upM [(3,i k)] (b6 n L))
def PM(k:Nat):G6->Option St
 | .exit 0=>some (upM [] (b6 n L))
 | .ret=>some (upM [(2,.lit false)] (b6 n L))
 |_=>none
def Wu4:CT:= .branch (D4 ((λk=>decide (((L k).size:Int)<=200))) n) (.leaf (.exit 0,(PM n L 0 (.exit 0)).getD (b6 n L))) (.leaf (.ret,(PM n L 0 .ret).getD (b6 n L)))
def mH:UH:=(HF (EM n L (0)) (Wu4 n L))
theorem Wa3(VR:n<=100000):G7 VN (.loop Xa5) (mH n L):=by
 refine HE (L:=[]) (VJ.nil _) VY U2 (X:=Nat) (EM n L) (λk=>k<=n/\ ∀j,j<k->((λk=>decide (((L k).size:Int)<=200))) j=true) (λk=>n-k) (PM n L) (x0:=0) ⟨VI,λj hj=>VI⟩ ?_ ?_ ?_
 ·rintro k;kernel_rfl
 ·rintro k y E h;unfold PM at h;split at h
  ·cases h;kernel_rfl
  ·cases h;kernel_rfl
  ·cases h
 ·rintro Q hQ k hx;refine ⟨(k+1),?_⟩;(with_reducible refine DF (t:=branch (decide ((k:Int)<(n:Int))) (need [UI k n] (branch (decide ((↑(ByteArray.size (L k)):Int)>200)) (need [VX (Q8 n L),WK] (leaf G6.ret)) (need [VK ((k:Int)+1)] (need [VX (Q8 n L),(k:Int)+1=(↑(k+1):Int)] (leaf G6.normal))))) (need [VX (Q8 n L)] (leaf (G6.exit 0)))) VS ?_);simp only [Wu4,PM,VL.sat,GS] at hQ;have Wn2:k<n->((λk=>decide (((L k).size:Int)<=200))) k=false->D4 ((λk=>decide (((L k).size:Int)<=200))) n=false:=by
   intro h1 h2;rw [←Bool.not_eq_true];intro h3;have:=GR.1 h3 k h1;exact Bool.noConfusion (h2.symm.trans this)
  have uZ:((λk=>decide (((L k).size:Int)<=200))) k=true-> ∀j,j<k+1->((λk=>decide (((L k).size:Int)<=200))) j=true:=by
   intro h1 j hj;rcases (show j<k\/j=k by omega) with h|rfl
   ·exact hx.2 j h
   ·exact h1
  have PJ: ¬k<n->D4 ((λk=>decide (((L k).size:Int)<=200))) n=true:=λh=>GR.2 (λj hj=>hx.2 j VI)
  have hQ1: ∀E,PM n L k .ret=some E->D4 ((λk=>decide (((L k).size:Int)<=200))) n=false->Q (.ret,E):=by
   intro E hE hf;cases hE;exact hQ.2 hf
  have hQ2: ∀E,PM n L k (.exit 0)=some E->D4 ((λk=>decide (((L k).size:Int)<=200))) n=true->Q (.exit 0,E):=by
   intro E hE hf;cases hE;exact hQ.1 hf
  simp only [VL.sat,UA,UG,H9,VK,F9]
  all_goals exact V5
theorem Qm3(VR:n<=100000):VW VN 18 [lns n L] (bl (rgB n L)):=by
 refine U0 (L:=[FO [n<=100000] (mH n L)]) (VJ.nil _) VY Tryz.func18 (US Tryz.f18) (G0 (lpE (b:= .loop Xa5) VS<|D0 (λh=>Wa3 n L h))) (t:=need [n<=100000] (need [VX (Q8 n L),(0:Int)=(↑(0:Nat):Int)] (branch (D4 (λk=>decide ((↑(ByteArray.size (L k)):Int)<=200)) n) (leaf (RV.x (.bool (decide ((n:Int)<=50))))) (leaf (RV.x (WM)))))) VS ?_
 simp only [VL.sat,UA,UZ,GI,UC,VK,UG,H9,R0];unfold rgB;refine ⟨VI,λh=>?_,λh=>?_⟩
 ·simp [h]
 ·simp [h]
def Qs3:UV:=λl=>some ([l=[lns n L],n<=100000],bl (rgB n L))
theorem oJ:VO VN 18 (Qs3 n L):=by
 refine ⟨(UF Tryz.func18),?_⟩;intro avs ns res h hn;cases h;have e:avs=[lns n L]:=hn _ VU;have h0:n<=100000:=hn _ VU;subst e;exact Qm3 n L h0
theorem Qm4(most:Int):VW VN 7 [lns n L,i most] (bl (rdB n L most)):=by
 refine U0 (L:=[]) (VJ.cons (Qm2 n L) (VJ.cons (oJ n L) (VJ.nil _))) VY Tryz.func7 (US Tryz.f7) U2 (t:=need [(KW n L)] (branch (thB n L) (need [(KW n L),n<=100000] (branch (rgB n L) (leaf (RV.x (.bool (decide ((n:Int)<=most))))) (leaf (RV.x (WM))))) (leaf (RV.x (WM))))) VS ?_;simp only [VL.sat,UA,UZ,UC,UG];have hn:thB n L=true->n<=55:=λh=>by
  unfold thB at h;rw [H2,j8] at h;omega
 unfold rdB
 (with_reducible repeat' first|apply And.intro|intro _)
 all_goals first|(have:=hn (by assumption);omega)|simp_all
def Ww3(most:Int):UV:=λl=>some ([l=[lns n L,i most]],bl (rdB n L most))
theorem EJ(most:Int):VO VN 7 (Ww3 n L most):=by
 refine ⟨(UF Tryz.func7),?_⟩;intro avs ns res h hn;cases h;have e:=hn _ GD;subst e;exact Qm4 n L most
theorem Wf3(VR:n<=100000):VW VN 14 [lns n L] (lns n L):=by
 refine GA (L:=[]) (VJ.nil _) (VV.of (VP.nil _) (VM.nil _)) VY Tryz.func14 (US Tryz.f14) G4 (t:=need [(0+n)*16<=140737488355328,∀(i:Nat),i<n-> ∀(a:AV),a∈[FM (L i)]->AV.one a=true] (leaf (RV.lst 1 (0+n) (GG 0 (λx=>[]) λk=>[FM (L k)])))) VS ?_
 simp only [VL.sat,UA,UZ,true_and]
 (with_reducible repeat' first|apply And.intro|intro _)
 all_goals first|exact True.intro|omega|(rename_i ha;rw [qM.1 ha];first|exact True.intro|rfl)|exact lC _ _|rfl|trace_state
def Xl8:UV:=λl=>some ([l=[lns n L]],lns n L)
theorem NT(VR:n<=100000):VO VN 14 (Xl8 n L):=by
 refine ⟨(UF Tryz.func14),?_⟩;intro avs ns res h hn;cases h;have e:=hn _ GD;subst e;exact Wf3 n L VR
end
section
variable (L:Nat->ByteArray)
def acB(k:Nat):Bool:=eK L k==0
def kpN(n:Nat):Nat:=G5 (acB L) n
def kpF(n:Nat)(j:Nat):ByteArray:=L (UQ (acB L) n j)
end
section
variable (n:Nat)(L:Nat->ByteArray)
def Wx0:D7:=λl=>some (.need [l=[lns n L]] (.leaf (.tup [.agg (hsL (sK L n)),.lst 1 n (exG L),i 0])))
theorem OB(h0:ckE n L=0):Sx.Enters Tryz.prog 19/\ ∀avs t,Wx0 n L avs=some t->UM VN 19 avs t:=by
 refine ⟨(UF Tryz.func19),?_⟩;intro avs t h;cases h;intro Q hQ;have e:avs=[lns n L]:=hQ.1;subst e;have hk:=r8 h0;refine iN n L VI Q ⟨λh=>?_,λ_=>hQ.2⟩
 rw [h0] at h;exact absurd h (by decide)
end
theorem catS{a:Nat->ByteArray}{k j:Nat}{x:ByteArray}(h:j<k+1)(hx:x=a k):GG k (λz=>[.x (.string (a z))]) (U4 1 [.x (.string x)]) j=[.x (.string (a j))]:=by
 subst hx;rcases (show j<k\/j=k by omega) with h1|rfl
 ·show H6 (decide (j<k)) _ (U4 _ _ (j-k))=_;rw [decide_eq_true h1,show j-k=0 by omega]
  rfl
 ·show H6 (decide (j<j)) _ (U4 _ _ (j-j))=_;rw [show decide (j<j)=false by simp,Nat.sub_self]
  rfl
section
variable (n:Nat)(L:Nat->ByteArray)
def Zp3:St:={σ:=[Q8 n L,top,ptr 0 0,QA,AV.lit false,ptr 1 0,lst 1 n λj=>[iI (eK L j)],iI 0]++HG 39 [],m:=[(905,GM.row 9 1 0 λx=>[]),(1,GM.cells 32 (hL (sK L n))),(0,GM.cells 32 YK)],nx:=906}
noncomputable def Jo1:Code:=U8 (VQ (U6 Tryz.f9) 0)
def Wh1(k:Nat):St:={σ:=H3 [(8,.row 905),(9,i k)] (Zp3 n L).σ,m:=[(905,.row 9 1 (kpN L k) (λz=>[.x (.string (kpF L n z))])),(1,.cells 32 (hsL (sK L n))),(0,.cells 32 [.x (.slice none 0 0),i 0,i 0,.x (.slice none 0 0),.x (.slice none 0 0),.x (.slice none 0 0)])],nx:=906}
def CJ(k:Nat):G6->Option St
 | .exit 0=>some {σ:=H3 [(8,.row 905),(9,i n)] (Zp3 n L).σ,m:=[(905,.row 9 1 (kpN L n) (λz=>[.x (.string (kpF L n z))])),(1,.cells 32 (hsL (sK L n))),(0,.cells 32 [.x (.slice none 0 0),i 0,i 0,.x (.slice none 0 0),.x (.slice none 0 0),.x (.slice none 0 0)])],nx:=906}
 |_=>none
def Jj6:CT:= .leaf (.exit 0,(CJ n L 0 (.exit 0)).getD (Zp3 n L))
def Xu9:UH:=GJ [(.slot 2,0,0,2),(.slot 5,1,0,2),(.slot 8,905,9,1)] (HF (Wh1 n L (0)) (Jj6 n L))
theorem Zz7(VR:ckE n L=0):G7 VN (.loop Jo1) (Xu9 n L):=by
 refine UX [(.slot 2,0,0,2),(.slot 5,1,0,2),(.slot 8,905,9,1)] (L:=[]) (VJ.cons (NT n L (by have:=r8 VR;omega)) (VJ.nil _)) (VV.ofC (VP.nil _) (VM.nil _) (U9.cons (OB n L VR) (U9.nil _))) VY U2 (X:=Nat) (Wh1 n L) (λk=>k<=n) (λk=>n-k) (CJ n L) (x0:=0) VU ?_ ?_ ?_
 ·rintro k;kernel_rfl
 ·rintro k y E h;unfold CJ at h;split at h
  ·cases h;kernel_rfl
  ·cases h
 ·rintro Q hQ k hx;refine ⟨(k+1),?_⟩;(with_reducible refine DF (t:=let z0:=(VX (lst 1 n λj=>[iI (eK L j)]));let z1:=(VX (hR ((sK L n).nr) (sK L n)));let z2:=(VX (hY ((sK L n).nb) (sK L n)));let z3:=(VX (hC ((sK L n).nc) (sK L n)));let z4:=(VX (hT ((sK L n).ns) (sK L n)));(branch (decide ((k:Int)<(n:Int))) (need [UI k n] (branch (eK L k==0) (need [UI k n] (need [(kpN L k+1)*16<=140737488355328,RS 1 (U4 1 [FM (L k)])] (need [VK ((k:Int)+1)] (need [VX (Q8 n L),QO,QA=QA,WK,XV,z0,QT,VX (AV.row 905),(k:Int)+1=(↑(k+1):Int),kpN L k+1=kpN L (k+1),∀(i:Nat),i<kpN L (k+1)->GG (kpN L k) (λz=>[FM (kpF L n z)]) (U4 1 [FM (L k)]) i=[FM (kpF L n i)],z1,VX ((sK L n).pl),VX ((sK L n).ph),z2,z3,z4,QA=QA,QT,QT,QA=QA,QA=QA,QA=QA] (leaf G6.normal))))) (need [VK ((k:Int)+1)] (need [VX (Q8 n L),QO,QA=QA,WK,XV,z0,QT,VX (AV.row 905),(k:Int)+1=(↑(k+1):Int),kpN L k=kpN L (k+1),∀(i:Nat),i<kpN L (k+1)->[FM (kpF L n i)]=[FM (kpF L n i)],z1,VX ((sK L n).pl),VX ((sK L n).ph),z2,z3,z4,QA=QA,QT,QT,QA=QA,QA=QA,QA=QA] (leaf G6.normal))))) (need [VX (Q8 n L),QO,QA=QA,WK,XV,z0,QT,VX (AV.row 905),(k:Int)=(n:Int),kpN L k=kpN L n,∀(i:Nat),i<kpN L n->[FM (kpF L n i)]=[FM (kpF L n i)],z1,VX ((sK L n).pl),VX ((sK L n).ph),z2,z3,z4,QA=QA,QT,QT,QA=QA,QA=QA,QA=QA] (leaf (G6.exit 0))))) VS ?_)
  simp only [Jj6,CJ,VL.sat,GS] at hQ;simp only [VL.sat,UA,UZ,GI,UC,VK,UG,H9,R0,RF,L1,GL,CJ]
  have b1:=A5 (p:=acB L) (k:=k);have b0:=r8 VR;have e0:kpN L k=G5 (acB L) k:=rfl;have e00:kpN L (k+1)=G5 (acB L) (k+1):=rfl;refine ⟨λh=>?_,λh=>?_⟩
  ·have hk:k<n:=VI;cases hc:acB L k
   ·have e1:=RE hc;have hc': ¬((eK L k==0)=true):=λh=>Bool.noConfusion (hc.symm.trans h)
    exact VD
   ·have e1:=F8 hc;have hc': ¬((eK L k==0)=false):=λh=>Bool.noConfusion (hc.symm.trans h)
    have hq: ∀j,j<kpN L (k+1)->GG (kpN L k) (λz=>[.x (.string (kpF L n z))]) (U4 1 [.x (.string (L k))]) j=[.x (.string (kpF L n j))]:=by
     intro j hj;rw [e00,e1] at hj;refine catS (a:=kpF L n) hj ?_;show L k=L (UQ (acB L) n (G5 (acB L) k));rw [BK hk hc]
    (with_reducible repeat' first|apply And.intro|intro _)
    all_goals first|exact P7|(first|exact absurd (by assumption) hc'|exact hq _ (by assumption)|exact FN (by assumption) (by simp [AV.one,Value.oneCell']))
  ·obtain rfl:k=n:=VI;exact YY
end
abbrev ZE(L:Nat->ByteArray)(n:Nat):AV:=lst 1 (kpN L n) λz=>[FM (kpF L n z)]
theorem oK(n:Nat)(L:Nat->ByteArray)(VR:ckE n L=0):UM VN 9 [lns n L] (.leaf (.tup [.agg (hsL (sK L n)),.lst 1 (kpN L n) (λz=>[.x (.string (kpF L n z))]),bl true])):=by
 refine GQ (L:=[Xu9 n L]) (VJ.cons (NT n L (by have:=r8 VR;omega)) (VJ.nil _)) (VV.ofC (VP.nil _) (VM.nil _) (U9.cons (OB n L VR) (U9.nil _))) VY Tryz.func9 (US Tryz.f9) (G0 (lpE (b:= .loop Jo1) VS<|(Zz7 n L VR).N)) (t:=let z0:=(leaf (tup [agg (hL (sK L n)),QA,AV.lit false]));(need [(KW n L)] (need [(KW n L)] (branch ((0:Int) != 0) z0 (branch ((n:Int) != (n:Int)) z0 (need [VX (Q8 n L),QO,QA=QA,WK,XV,VX (lst 1 n λj=>[iI (eK L j)]),QT,VX (AV.row 905),(0:Int)=(↑(0:Nat):Int),0=kpN L 0,∀(i:Nat),i<kpN L 0->[]=[FM (kpF L n i)],VX (hR ((sK L n).nr) (sK L n)),VX ((sK L n).pl),VX ((sK L n).ph),VX (hY ((sK L n).nb) (sK L n)),VX (hC ((sK L n).nc) (sK L n)),VX (hT ((sK L n).ns) (sK L n)),QA=QA,QT,QT,QA=QA,QA=QA,QA=QA] (leaf (tup [agg (hL (sK L n)),ZE L n,AV.lit true])))))))) VS ?_
 intro Q hQ;simp only [VL.sat,UA,UG,VK,F9] at hQ ⊢;have b0:=r8 VR
 (with_reducible repeat' first|apply And.intro|intro _)
 all_goals first|exact True.intro|contradiction|(exfalso;rename_i h9;simp at h9;done)|omega|rfl|(rename_i h;exact absurd h (Nat.not_lt_zero _))|exact ⟨.tup [.agg (hsL (sK L n)),.lst 1 (kpN L n) (λz=>[.x (.string (kpF L n z))]),bl true],⟨A2 _,⟨rfl,rfl,λ_ _=>rfl⟩,rfl,True.intro⟩,hQ⟩|exact ⟨.tup [.agg (hsL (sK L n)),.lst 1 (kpN L n) (λz=>[.x (.string (kpF L n z))]),bl true],⟨A2 _,⟨rfl,rfl,λ_ _=>rfl⟩,⟨rfl,rfl⟩,True.intro⟩,hQ⟩|trace_state
def lnF(f:Nat->List AV)(k:Nat):ByteArray:=stO (f k)
section
variable {n:Nat}{L:Nat->ByteArray}
theorem Jg8(h1:n<=50)(h2: ∀k,k<n->(L k).size<=200):ckE n L=0:=by
 unfold ckE;rw [if_pos ⟨h1,GR.2 λk hk=>decide_eq_true (by have:=h2 k hk;omega)⟩]
theorem Zy8{most:Int}(h:rdB n L most=true):ckE n L=0/\(n:Int)<=most:=by
 unfold rdB at h;rw [H2,H2,j8] at h;obtain ⟨_,h2,h3⟩:=h;unfold rgB at h2;rw [H2,j8] at h2;refine ⟨Jg8 VI λk hk=>?_,h3⟩
 have:=qL (GR.1 h2.1 k hk);omega
end
end Go.Proofs.YtlclobclmfhlmaaGreatDoor.Hd
