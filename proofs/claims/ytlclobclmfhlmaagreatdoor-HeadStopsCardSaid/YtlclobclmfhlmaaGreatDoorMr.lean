/- Contracts, put together. Conditions: those of each. -/
import Derived.Test.YtlclobclmfhlmaaGreatDoorMq
import Derived.Deep.RegionHeld3
set_option linter.unusedSimpArgs false
set_option linter.unusedVariables false
set_option maxRecDepth 100000
namespace Go.Proofs.YtlclobclmfhlmaaGreatDoor.Hd
open Go Go.Shelf Go.Sx Go.RowKit
theorem Qc1{e:UP}{w:World}{v:Value}{u:Value}(h:Rep e w (.x u) v):v=u:=h.x_inv
theorem nZ{l c:Int}(hl:0<=l/\l<=1000000000)(hc:0<=c/\c<=1000000000){e:UP}{w:World}(hro: ∀b,e.ro b->b<w.heap.size)(hgl:D6 e w):
  Calls Tryz.prog 59 #[.agg #[.int .i64 l,.int .i64 c]] w λen w'=>en= .returned (.string (tpB l c))/\Below w.heap.size w w':=by
 refine (iX l c hl hc e w [.agg #[.int .i64 l,.int .i64 c]] hro hgl ?_ (.cons (.agg _ _ rfl ?_) (.nil _ _))).mono ?_
 ·intro a ha;rw [B9.1 ha];refine .agg _ λb hb=>?_
  simp only [GS,DS,or_false] at hb;rcases hb with rfl|rfl<;>exact .x _
 ·exact (U7.cons (.x _) (.cons (.x _) (.nil _ _))).2
 ·rintro en w' ⟨v,rfl,hb,hr⟩;rw [Qc1 hr];exact ⟨rfl,hb⟩
theorem T5(n U O:Int){e:UP}{w:World}(hro: ∀b,e.ro b->b<w.heap.size)(hgl:D6 e w):
  Calls Tryz.prog 37 #[.int .i64 n,.int .i64 U,.int .i64 O] w λen w'=>en= .returned (.bool (bt U n O))/\Below w.heap.size w w':=by
 refine (I4 n U O e w [.int .i64 n,.int .i64 U,.int .i64 O] hro hgl ?_ (.cons (.x _) (.cons (.x _) (.cons (.x _) (.nil _ _))))).mono ?_
 ·intro a ha;simp only [GS,DS,or_false] at ha;rcases ha with rfl|rfl|rfl<;>exact .x _
 ·rintro en w' ⟨v,rfl,hb,hr⟩;rw [Qc1 hr];exact ⟨rfl,hb⟩
theorem M7{s:ByteArray}{v:Int}(hs:s.size<=100000)(h:Lib.atoiAll s.data.toList= .ok v)(w:World):Calls Tryz.prog 88 #[.string s] w λen w'=>en= .returned (.tuple #[.int .i64 v,.nilIface])/\Below w.heap.size w w':=by
 have hA:=Any.strconv_Atoi_ok gW s VO v h w
 change Calls Tryz.prog 88 _ _ _ at hA
 refine hA.mono ?_;rintro en I ⟨rfl,hw1⟩;exact ⟨rfl,wX hw1⟩
theorem dD{w:World}{b o n cap:Nat}{s:ByteArray}(hs:s.size=n)(h: ∀j,j<n->w.cell? ⟨b,o+j,none⟩=some (.int .u8 (DD s j))):
  (convert 45 9 (.slice (some ⟨b,o,none⟩) n cap)).run Tryz.prog w= .ok (.string s) w:=by
 have hk:=run_convert_bytes_back (P:=Tryz.prog) w 45 9 5 ⟨b,o,none⟩ cap s.data.toList VY VY VY (λj hj=>by
  have hj':j<s.data.size:=by simpa using hj
  have h2:=h j (by have:s.data.size=s.size:=rfl;omega)
  rw [DG,h2];unfold DD;rw [LV,Array.getElem?_eq_getElem hj'];simp)
 have e1:s.data.toList.length=n:=by
  rw [Array.length_toList];exact hs
 rw [e1] at hk;exact hk
def SS(w0:World)(H b o cap:Nat)(l c:Int)(w':World):Prop:=
 w'.cell? ⟨H,0,none⟩=some (.int .i64 l)/\w'.cell? ⟨H,1,none⟩=some (.int .i64 c)/\w'.frozen? ⟨H,0,none⟩=false/\w'.frozen? ⟨H,1,none⟩=false/\(convert 45 9 (.slice (some ⟨b,o,none⟩) 11 cap)).run Tryz.prog w'= .ok (.string (tpB l c)) w'/\
  w'.heap[H]? =some (Obj.cells #[.int .i64 l,.int .i64 c] 144)/\Below w0.heap.size w0 w'
theorem cV{w0 w':World}{H b o cap:Nat}{l c:Int}(hb:b<w0.heap.size)(PV: ∀j,j<11->w0.cell? ⟨b,o+j,none⟩=some (.int .u8 (DD (tpB l c) j)))
  (hH:w'.heap[H]? =some (Obj.cells #[.int .i64 l,.int .i64 c] 144))(hB:Below w0.heap.size w0 w'):SS w0 H b o cap l c w':=by
 refine ⟨by simp only [World.cell?,hH];rfl,by simp only [World.cell?,hH];rfl,by simp only [World.frozen?,hH];rfl,by simp only [World.frozen?,hH];rfl,dD (qM l c) λj hj=>?_,hH,hB⟩
 rw [←PV j hj];exact hB.cell (p:=⟨b,o+j,none⟩) hb
theorem Xg8{w0 w':World}{H:Nat}{x:Obj}(hH:w'.heap[H]? =some x):H<w'.heap.size:=by
 rcases An H w'.heap.size with h|h
 ·exact h
 ·rw [Array.getElem?_eq_none h] at hH;cases hH
theorem T9{w0 w' w5:World}{H:Nat}{l c:Int}(hH:w'.heap[H]? =some (Obj.cells #[.int .i64 l,.int .i64 c] 144))(hB:Below w0.heap.size w0 w')(h5:Below w'.heap.size w' w5):
  w5.heap[H]? =some (Obj.cells #[.int .i64 l,.int .i64 c] 144)/\Below w0.heap.size w0 w5:=⟨(h5.block _ (Xg8 (w0:=w0) hH)).trans hH,hB.trans (h5.mono hB.size)⟩
theorem o2{w0 w':World}{H:Nat}{l c x y:Int}(h0:w0.heap.size<=H)(hH:w'.heap[H]? =some (Obj.cells #[.int .i64 x,.int .i64 y] 144))(hB:Below w0.heap.size w0 w'):
  ((w'.setCell ⟨H,0,none⟩ (.int .i64 l)).setCell ⟨H,1,none⟩ (.int .i64 c)).heap[H]? =some (Obj.cells #[.int .i64 l,.int .i64 c] 144)/\Below w0.heap.size w0 ((w'.setCell ⟨H,0,none⟩ (.int .i64 l)).setCell ⟨H,1,none⟩ (.int .i64 c)):=by
 have e0:(w'.setCell ⟨H,0,none⟩ (.int .i64 l)).heap[H]? =some (Obj.cells #[.int .i64 l,.int .i64 y] 144):=(heap_setCell_same w' H 0 _ _ (.int .i64 l) hH).trans rfl;exact ⟨(heap_setCell_same _ H 1 _ _ (.int .i64 c) e0).trans rfl,(hB.setCell h0 _).setCell h0 _⟩
set_option maxHeartbeats 4000000 in
theorem oO{n cap b o:Nat}{l c:Int}(h11:11<=n)(Ji8:n<=cap)(hl:0<=l/\l<=200)(hc:0<=c/\c<=99970){e:UP}{w:World}(hro: ∀b,e.ro b->b<w.heap.size)(hgl:D6 e w)(hb:b<w.heap.size)
  (PV: ∀j,j<11->w.cell? ⟨b,o+j,none⟩=some (.int .u8 (DD (tpB l c) j))):
  Calls Tryz.prog 61 #[.slice (some ⟨b,o,none⟩) n cap] w λen w'=>en= .returned (.tuple #[.agg #[.int .i64 l,.int .i64 c],.bool true])/\Below w.heap.size w w':=by
 have keep: ∀{I:World},Below w.heap.size w I-> ∀j,j<11->I.cell? ⟨b,o+j,none⟩=some (.int .u8 (DD (tpB l c) j)):=by
  intro I h1 j hj;rw [←PV j hj];unfold World.cell?;rw [h1.block b hb]
 have cv3: ∀{I:World} (k:Nat),Below w.heap.size w I->(convert 45 9 (.slice (some ⟨b,o+1,none⟩) 3 k)).run Tryz.prog I= .ok (.string (dg3 l)) I:=λk h1=>dD rfl λj hj=>by
  rw [Ba,keep h1 _ VO,Qh0 l c hj]
 have cv5: ∀{I:World} (k:Nat),Below w.heap.size w I->(convert 45 9 (.slice (some ⟨b,o+5,none⟩) 5 k)).run Tryz.prog I= .ok (.string (dg5 c)) I:=λk h1=>dD rfl λj hj=>by
  rw [Ba,keep h1 _ VO,Qg9 l c hj]
 have cv11: ∀{I:World} (k:Nat),Below w.heap.size w I->(convert 45 9 (.slice (some ⟨b,o,none⟩) 11 k)).run Tryz.prog I= .ok (.string (tpB l c)) I:=λk h1=>dD (qM l c) λj hj=>keep h1 j hj
 have i1:(0:Int)<=(n:Int):=VO;have i2:(4:Int)<=(n:Int):=VO;have i3:(10:Int)<=(n:Int):=VO;have i4:(11:Int)<=(n:Int):=VO;have i5:(n:Int)<=(cap:Int):=VO;have i6:(4:Int)<=(cap:Int):=VO;have i7:(10:Int)<=(cap:Int):=VO;have i8:(11:Int)<=(cap:Int):=VO;have hB1:Below w.heap.size w (w.alloc (Obj.cells #[.int .i64 0,.int .i64 0] 144)):=(Below.refl _ _).alloc (Am _) _;have e1:=cv3 (cap-1) hB1;have hbt:bt 0 l 200=true:=(Bo.bt_iff _ _ _).2 VO;have hcn:decide (c<0)=false:=decide_eq_false VO;have a3:=mH (n:=l) VO;have a5:=mG (n:=c) VO;have z3:(dg3 l).size<=100000:=by show 3<=100000;decide
 have z5:(dg5 c).size<=100000:=by show 5<=100000;decide
 go_enter Tryz.func61,Tryz.ntmps61
 go_wp2_with (go_at_call 88;refine (M7 z3 a3 _).mono ?_;rintro en I ⟨rfl,hw1⟩)
 have hB2:Below w.heap.size w I:=hB1.trans (hw1.mono hB1.size);have Jh0:w.heap.size<(w.alloc (Obj.cells #[.int .i64 0,.int .i64 0] 144)).heap.size:=VZ;have uG:w.heap.size<I.heap.size:=qF Jh0 hw1.size;have hH1:I.heap[w.heap.size]? =some (Obj.cells #[.int .i64 0,.int .i64 0] 144):=(hw1.block _ Jh0).trans (heap_alloc_new w _);rw [cv5 (cap-5) hB2]
 go_wp2_with (go_at_call 88;refine (M7 z5 a5 _).mono ?_;rintro en w2 ⟨rfl,hw2⟩;have hH2:w2.heap[w.heap.size]? =some (Obj.cells #[.int .i64 0,.int .i64 0] 144):=(hw2.block _ uG).trans hH1)
 have hsz3:w.heap.size<w2.heap.size:=qF uG hw2.size;have hB3:Below w.heap.size w w2:=hB2.trans (hw2.mono hB2.size);have hro2: ∀b,e.ro b->b<w2.heap.size:=λb h=>qF (hro b h) hB3.size
 refine (T5 l 0 200 hro2 (qW hgl hB3)).mono ?_;rintro en W ⟨rfl,hw3⟩;have hH3:W.heap[w.heap.size]? =some (Obj.cells #[.int .i64 0,.int .i64 0] 144):=(hw3.block _ hsz3).trans hH2;have hc0:W.cell? ⟨w.heap.size,0,none⟩=some (.int .i64 0):=by simp only [World.cell?,hH3];rfl
 have hc1:W.cell? ⟨w.heap.size,1,none⟩=some (.int .i64 0):=by simp only [World.cell?,hH3];rfl
 have hf0:W.frozen? ⟨w.heap.size,0,none⟩=false:=by simp only [World.frozen?,hH3];rfl
 have hf1:W.frozen? ⟨w.heap.size,1,none⟩=false:=by simp only [World.frozen?,hH3];rfl
 have hB4:Below w.heap.size w W:=hB3.trans (hw3.mono hB3.size);rw [hbt]
 go_wp2
 obtain ⟨hH5,hB5⟩:=o2 (l:=l) (c:=c) (Am _) hH3 hB4;generalize (W.setCell ⟨w.heap.size,0,none⟩ (.int .i64 l)).setCell ⟨w.heap.size,1,none⟩ (.int .i64 c)=w5 at hH5 hB5 ⊢;have hss:SS w w.heap.size b o cap l c w5:=cV hb PV hH5 hB5;have hro': ∀{w':World},Below w.heap.size w w'-> ∀b,e.ro b->b<w'.heap.size:=λhB b h=>qF (hro b h) hB.size
 have hH6:w5.drew.heap[w.heap.size]? =some (Obj.cells #[.int .i64 l,.int .i64 c] 144):=hH5;have hB6:Below w.heap.size w w5.drew:=hB5.drew;clear hc0 hc1 hf0 hf1 keep cv3 cv5 cv11
 go_region_held3 (λw'=>w'.cell? ⟨w.heap.size,0,none⟩=some (.int .i64 l)/\w'.cell? ⟨w.heap.size,1,none⟩=some (.int .i64 c)/\w'.frozen? ⟨w.heap.size,0,none⟩=false/\w'.frozen? ⟨w.heap.size,1,none⟩=false/\(convert 45 9 (.slice (some ⟨b,o,none⟩) 11 cap)).run Tryz.prog w'= .ok (.string (tpB l c)) w'/\w'.heap[w.heap.size]? =some (Obj.cells #[.int .i64 l,.int .i64 c] 144)/\Below w.heap.size w w')
  (first|exact hss|exact cV hb PV (by assumption) (Below.drew (by assumption))|exact (λh=>cV hb PV h.1 h.2) (T9 (by assumption) (by assumption) (by assumption))|exact (λh=>cV hb PV h.1 h.2) ((λg=>o2 (Am _) g.1 g.2) (T9 hH6 hB6 (by assumption))))
  (first|(go_at_call 59;refine (nZ (e:=e) VO VO (hro' (by assumption)) (qW hgl (by assumption))).mono ?_;rintro en w6 ⟨rfl,hw6⟩))
 obtain ⟨hH7,hB7⟩:=(λg=>o2 (l:=l) (c:=c) (Am _) g.1 g.2) (T9 hH6 hB6 hw6)
 generalize (w6.setCell ⟨w.heap.size,0,none⟩ (.int .i64 l)).setCell ⟨w.heap.size,1,none⟩ (.int .i64 c)=w7 at hH7 hB7 ⊢;obtain ⟨c70,c71,_⟩:=cV (cap:=cap) hb PV hH7 hB7
 go_wp2
 refine bodyPost_ret (v:= .tuple #[.agg #[.int .i64 l,.int .i64 c],.bool true]) ?_ rfl ⟨rfl,hB7⟩;simp [results,Tryz.results61,c70,c71,go_sem]
theorem Wp7(n:Nat)(f:Nat->List AV)(h11:11<=n)(hT:Qr1 f):U2 VT 61 [.lst 1 n f] (.tup [.agg [.x (.int .i64 (rdL f)),.x (.int .i64 (rdC f))],.x (.bool true)]):=by
 intro e w args hro hgl _ hr;obtain ⟨v,vs,rfl,r1,r2⟩:=hr.cons_inv;cases r2.nil_inv;obtain ⟨hl,hc,hf⟩:=hT;cases r1 with
 |lstNil=>omega
 |lst _ _ _ b o cap g h2 h3 h4 h5 h6 h7 h8 h9 ad had=>
  obtain rfl:=had VO;refine (oO h11 h5 hl hc hro hgl (h3 VO) ?_).mono ?_
  ·intro j hj;have h10:=h7 j 0 VO VO;have h11:=h9 j 0 (.x (.int .u8 (DD (tpB (rdL f) (rdC f)) j))) VO (by rw [hf j hj];rfl)
   rw [h11.x_inv] at h10;rw [←h10]
   congr 2
   omega
  ·rintro en w' ⟨rfl,hB⟩;exact ⟨_,rfl,hB,Rep.tupL (.cons (.agg _ [.int .i64 (rdL f),.int .i64 (rdC f)] rfl (U7.cons (.x _) (.cons (.x _) (.nil _ _))).2) (.cons (.x _) (.nil _ _)))⟩
def dH:G0
 |[.lst 1 n f]=>some ([11<=n,Qr1 f],.tup [.agg [.x (.int .i64 (rdL f)),.x (.int .i64 (rdC f))],.x (.bool true)])
 |_=>none
theorem l8:VU VT 61 dH:=by
 refine ⟨(UM Tryz.func61),?_⟩;intro avs ns res h Z;unfold dH at h;split at h
 ·cases h;exact Wp7 _ _ (Z _ VZ) (Z _ VZ)
 ·cases h
end Go.Proofs.YtlclobclmfhlmaaGreatDoor.Hd
namespace Go.Proofs.YtlclobclmfhlmaaGreatDoor.Hd
open Go Go.Sx Go.RowKit Bo
open Go.Sx.VR (need branch leaf)
open Go.Sx.AV (lst ptr agg roI tup top)
def rcV(L:Nat->ByteArray)(q:Nat):List Value:=[.string (L q),.int .i64 (GN L (q+1):Nat)]
abbrev QL(N:Nat)(B:ByteArray):AV:=AV.ro [lst 1 N λj=>[AV.x (.int IntKind.u8 (DD B j))]]
section
variable (l:Nat)(N:Nat)(B:ByteArray)
def MU(m:Nat)(L:Nat->ByteArray):St:={σ:=[AV.fn (Fn.yield l) [] [],QL N B]++HO 63 [],m:=[],nx:=2,gh:=some 0}
noncomputable def c9:Code:=UE (VX (UB Tryz.f60) 0)
def B2(m:Nat)(L:Nat->ByteArray)(k:Nat):St:={σ:=H6 [(3,i (GN L k:Nat)),(4,i (k:Nat)),(5,.top),(6,.top),(7,.top),(8,.top)] (MU l N B m L).σ,m:=[],nx:=0,gh:=some (k) }
def wK(m:Nat)(L:Nat->ByteArray)(k:Nat):GB->Option St
 | .ret=>some {σ:=H6 [(3,.top),(4,.top),(5,.top),(6,.top),(7,.top),(8,.top)] (MU l N B m L).σ,m:=[],nx:=0,gh:=none}
 |_=>none
def BZ(m:Nat)(L:Nat->ByteArray)(k:Nat):GB->Option St
 | .exit 0=>some {σ:=H6 [(3,i (GN L m:Nat)),(4,i (m:Nat)),(5,.top),(6,.top),(7,.top),(8,.top)] (MU l N B m L).σ,m:=[],nx:=0,gh:=some m}
 | .ret=>some {σ:=H6 [(3,.top),(4,.top),(5,.top),(6,.top),(7,.top),(8,.top)] (MU l N B m L).σ,m:=[],nx:=0,gh:=some m}
 |_=>none
def xB(m:Nat)(L:Nat->ByteArray)(x:Nat×Bool):GB->Option St:=match x.2 with
 |true=>wK l N B m L x.1
 |false=>BZ l N B m L x.1
def Qw7(m:Nat)(L:Nat->ByteArray):CT:= .may True (.leaf (.exit 0,(BZ l N B m L 0 (.exit 0)).getD (MU l N B m L))) (.may True (.leaf (.ret,(wK l N B m L 0 .ret).getD (MU l N B m L))) (.leaf (.ret,(BZ l N B m L 0 .ret).getD (MU l N B m L))))
def nK(m:Nat)(L:Nat->ByteArray):UN:=GO [] (HM (B2 l N B m L (0)) (Qw7 l N B m L))
abbrev YR:List (Nat×G0):=[(61,dH),(58,zJ)]
theorem Jd6(m:Nat)(L:Nat->ByteArray)(VW:Qo4 N B m L){cx:Cx}(hX:U1 VT {Y:=some (l,m,(rcV L)) } cx):HN VT none cx (.loop c9) (nK l N B m L):=by
 refine F5 [] (L:=[]) (Ae l8 (Ae jB Aa)) hX U3 G9 (V:=Nat×Bool) (λx=>B2 l N B m L x.1) (λx=>(λk=>k<=m) x.1/\x.2=decide (x.1<m)) (λx=>(λk=>m-k) x.1) (xB l N B m L) (x0:=(0,decide ((0)<m))) ⟨VZ,rfl⟩ ?_ ?_ ?_
 ·rintro x;kernel_rfl
 ·rintro ⟨k,b⟩ y E h;cases b
  ·change BZ l N B m L k y=some E at h
   unfold BZ at h;split at h
   ·cases h;kernel_rfl
   ·cases h;kernel_rfl
   ·cases h
  ·change wK l N B m L k y=some E at h
   unfold wK at h;split at h
   ·cases h;kernel_rfl
   ·cases h
 ·rintro Q hQ ⟨k,b⟩ ⟨hx,hb⟩
  dsimp only at hx hb
  refine ⟨((k+1),decide ((k+1)<m)),?_⟩;cases b
  ·have hc: ¬(k<m):=Jm7.1 hb.symm;have e:HR VT YR {Y:=some (l,m,(rcV L)) } [] [] c9 (B2 l N B m L k) (B2 l N B m L ((k+1))) (BZ l N B m L k)=(let A:=(bsO ((((↑(GN L k):Int)+11+rdL λi=>[AV.x (.int IntKind.u8 (DD B (GN L k+i)))])+1-1).toNat-((↑(GN L k):Int)+11).toNat) λi=>[AV.x (.int IntKind.u8 (DD B (((↑(GN L k):Int)+11).toNat+i)))]);let S:=(need [W6 l,U4 (QL N B),k=m] (leaf GB.ret));(need [VQ ((N:Int)-(↑(GN L k):Int))] (branch (decide ((N:Int)-(↑(GN L k):Int)>11)) (need [(0:Int)<=(↑(GN L k):Int)/\(↑(GN L k):Int)<=(N:Int)/\(N:Int)<=(N:Int)] (need [11<=N-GN L k,Qr1 λi=>[AV.x (.int IntKind.u8 (DD B (GN L k+i)))]] (need [VQ ((↑(GN L k):Int)+11)] (need [VQ ((↑(GN L k):Int)+11+rdL λi=>[AV.x (.int IntKind.u8 (DD B (GN L k+i)))])] (need [VQ (((↑(GN L k):Int)+11+rdL λi=>[AV.x (.int IntKind.u8 (DD B (GN L k+i)))])+1)] (branch (!true) S (branch (decide (((↑(GN L k):Int)+11+rdL λi=>[AV.x (.int IntKind.u8 (DD B (GN L k+i)))])+1>(N:Int))) S (need [VQ (((↑(GN L k):Int)+11+rdL λi=>[AV.x (.int IntKind.u8 (DD B (GN L k+i)))])+1-1)] (need [UO (((↑(GN L k):Int)+11+rdL λi=>[AV.x (.int IntKind.u8 (DD B (GN L k+i)))])+1-1) N] (branch (DD B (((↑(GN L k):Int)+11+rdL λi=>[AV.x (.int IntKind.u8 (DD B (GN L k+i)))])+1-1).toNat != 10) S (need [VQ ((↑(GN L k):Int)+11)] (need [VQ (((↑(GN L k):Int)+11+rdL λi=>[AV.x (.int IntKind.u8 (DD B (GN L k+i)))])+1-1)] (need [(0:Int)<=(↑(GN L k):Int)+11/\(↑(GN L k):Int)+11<=((↑(GN L k):Int)+11+rdL λi=>[AV.x (.int IntKind.u8 (DD B (GN L k+i)))])+1-1/\((↑(GN L k):Int)+11+rdL λi=>[AV.x (.int IntKind.u8 (DD B (GN L k+i)))])+1-1<=(N:Int)] (need [wO ((((↑(GN L k):Int)+11+rdL λi=>[AV.x (.int IntKind.u8 (DD B (GN L k+i)))])+1-1).toNat-((↑(GN L k):Int)+11).toNat) λi=>[AV.x (.int IntKind.u8 (DD B (((↑(GN L k):Int)+11).toNat+i)))]] (need [ByteArray.size A<=1000,(0:Int)<=(k:Int)/\(k:Int)<=100000] (branch (!((rdL λi=>[AV.x (.int IntKind.u8 (DD B (GN L k+i)))])==(↑(ByteArray.size A):Int)&&((rdC λi=>[AV.x (.int IntKind.u8 (DD B (GN L k+i)))])==tpK A (k:Int)&&true))) S (need [l=l,k<m,[Value.string A,Value.int IntKind.i64 (((↑(GN L k):Int)+11+rdL λi=>[AV.x (.int IntKind.u8 (DD B (GN L k+i)))])+1)]=[Value.string (L k),Value.int IntKind.i64 (↑(GN L (k+1)):Int)]] (VR.may True (need [VQ ((k:Int)+1)] (need [W6 l,U4 (QL N B),((↑(GN L k):Int)+11+rdL λi=>[AV.x (.int IntKind.u8 (DD B (GN L k+i)))])+1=(↑(GN L (k+1)):Int),(k:Int)+1=(↑(k+1):Int),k+1=k+1] (leaf GB.normal))) (need [W6 l,U4 (QL N B),False] (leaf GB.ret)))))))))))))))))))) (need [W6 l,U4 (QL N B),(↑(GN L k):Int)=(↑(GN L m):Int),(k:Int)=(m:Int),k=m] (leaf (GB.exit 0)))))):=VY
   show (HR VT [(61,dH),(58,zJ)] {Y:=some (l,m,(rcV L)) } [] [] c9 (B2 l N B m L k) (B2 l N B m L ((k+1))) (BZ l N B m L k)).sat _;rw [e]
   dsimp only
   simp only [Qw7,wK,BZ,VR.sat,GZ] at hQ;obtain rfl:k=m:=VO;have hQ1: ∀E,xB l N B k L (k,false) (.exit 0)=some E->Q (.exit 0,E):=λE hE=>by cases hE;exact hQ.1 trivial
   have hQ2: ∀E,xB l N B k L (k,false) .ret=some E->Q (.ret,E):=λE hE=>by cases hE;exact hQ.2.2
   clear hQ e;have h100:=VW.2.2.2.1;have h50:=VW.1;have hle:=VW.2.2.1;rcases VW.2.2.2.2.2 with h11|⟨a,c,g3,g4,g5,g6⟩
   ·simp only [VR.sat,UF,UL,HD,VQ,DR]
    (with_reducible repeat' first|apply Al|intro _)
    all_goals first|exact Ak|omega|rfl|exact hQ1 _ (by assumption)|exact hQ2 _ (by assumption)|(exfalso;omega)|trace_state
   ·have hs:=T7;obtain ⟨r1,r2,r3⟩:=Xv0 (f:=λi=>[AV.x (.int .u8 (DD B (GN L k+i)))]) g3 g4 (λj hj=>by show [AV.x (.int .u8 (DD B (GN L k+j)))]=_;rw [g5 j hj];rfl)
    obtain ⟨z,rfl⟩: ∃z:Nat,a=z:=⟨a.toNat,VO⟩;have t1:(((GN L k:Nat):Int)+11+(z:Int)+1-1).toNat=GN L k+11+z:=VO;have t2:(((GN L k:Nat):Int)+11).toNat=GN L k+11:=VO;have t3:GN L k+11+z-(GN L k+11)=z:=VO;have b1:wO z (λi=>[AV.x (.int .u8 (DD B (GN L k+11+i)))]):=Qh1 (s:=B) (o:=GN L k+11) λj hj=>rfl
    have b2:(bsO z (λi=>[AV.x (.int .u8 (DD B (GN L k+11+i)))])).size=z:=by
     show (List.toArray _).size=z;simp
    have hno:(N:Int)<(GN L k:Int)+12+z\/tpK (bsO z (λi=>[AV.x (.int .u8 (DD B (GN L k+11+i)))])) k≠c:=by
     rcases g6 with g6|⟨s,g7,g8,g9⟩
     ·exact .inl g6
     ·have hz:s.size=z:=VO;have s1:bsO z (λi=>[AV.x (.int .u8 (DD B (GN L k+11+i)))])=s:=bD hz λj hj=>by show [AV.x (.int .u8 (DD B (GN L k+11+j)))]=_;rw [g8 j VO];rfl
      rw [s1];exact .inr (Ne.symm g9)
    simp only [VR.sat,UF,r1,r2,t1,t2,t3,b2,UL,HD,VQ,DR]
    (with_reducible repeat' first|apply Al|intro _)
    all_goals first|exact Ak|exact r3|exact b1|contradiction|exact hQ1 _ (by assumption)|exact hQ2 _ (by assumption)|omega|rfl|(exfalso;rename_i h9;simp at h9;done)|(exfalso;omega)|(exfalso;rename_i h9;simp at h9;rcases hno with h|h<;>first|omega|exact h h9.symm)|(exfalso;rename_i h9 h8;simp at h9;rcases hno with h|h<;>first|omega|exact h h9.symm)|(exfalso;rename_i h9 h8 h7;simp at h9;rcases hno with h|h<;>first|omega|exact h h9.symm)|trace_state
  ·have hc:(k<m):=BO hb.symm;have e:HR VT YR {Y:=some (l,m,(rcV L)) } [] [] c9 (B2 l N B m L k) (B2 l N B m L ((k+1))) (wK l N B m L k)=(let A:=(bsO ((((↑(GN L k):Int)+11+rdL λi=>[AV.x (.int IntKind.u8 (DD B (GN L k+i)))])+1-1).toNat-((↑(GN L k):Int)+11).toNat) λi=>[AV.x (.int IntKind.u8 (DD B (((↑(GN L k):Int)+11).toNat+i)))]);let S:=(need [W6 l,U4 (QL N B),False] (leaf GB.ret));(need [VQ ((N:Int)-(↑(GN L k):Int))] (branch (decide ((N:Int)-(↑(GN L k):Int)>11)) (need [(0:Int)<=(↑(GN L k):Int)/\(↑(GN L k):Int)<=(N:Int)/\(N:Int)<=(N:Int)] (need [11<=N-GN L k,Qr1 λi=>[AV.x (.int IntKind.u8 (DD B (GN L k+i)))]] (need [VQ ((↑(GN L k):Int)+11)] (need [VQ ((↑(GN L k):Int)+11+rdL λi=>[AV.x (.int IntKind.u8 (DD B (GN L k+i)))])] (need [VQ (((↑(GN L k):Int)+11+rdL λi=>[AV.x (.int IntKind.u8 (DD B (GN L k+i)))])+1)] (branch (!true) S (branch (decide (((↑(GN L k):Int)+11+rdL λi=>[AV.x (.int IntKind.u8 (DD B (GN L k+i)))])+1>(N:Int))) S (need [VQ (((↑(GN L k):Int)+11+rdL λi=>[AV.x (.int IntKind.u8 (DD B (GN L k+i)))])+1-1)] (need [UO (((↑(GN L k):Int)+11+rdL λi=>[AV.x (.int IntKind.u8 (DD B (GN L k+i)))])+1-1) N] (branch (DD B (((↑(GN L k):Int)+11+rdL λi=>[AV.x (.int IntKind.u8 (DD B (GN L k+i)))])+1-1).toNat != 10) S (need [VQ ((↑(GN L k):Int)+11)] (need [VQ (((↑(GN L k):Int)+11+rdL λi=>[AV.x (.int IntKind.u8 (DD B (GN L k+i)))])+1-1)] (need [(0:Int)<=(↑(GN L k):Int)+11/\(↑(GN L k):Int)+11<=((↑(GN L k):Int)+11+rdL λi=>[AV.x (.int IntKind.u8 (DD B (GN L k+i)))])+1-1/\((↑(GN L k):Int)+11+rdL λi=>[AV.x (.int IntKind.u8 (DD B (GN L k+i)))])+1-1<=(N:Int)] (need [wO ((((↑(GN L k):Int)+11+rdL λi=>[AV.x (.int IntKind.u8 (DD B (GN L k+i)))])+1-1).toNat-((↑(GN L k):Int)+11).toNat) λi=>[AV.x (.int IntKind.u8 (DD B (((↑(GN L k):Int)+11).toNat+i)))]] (need [ByteArray.size A<=1000,(0:Int)<=(k:Int)/\(k:Int)<=100000] (branch (!((rdL λi=>[AV.x (.int IntKind.u8 (DD B (GN L k+i)))])==(↑(ByteArray.size A):Int)&&((rdC λi=>[AV.x (.int IntKind.u8 (DD B (GN L k+i)))])==tpK A (k:Int)&&true))) S (need [l=l,k<m,[Value.string A,Value.int IntKind.i64 (((↑(GN L k):Int)+11+rdL λi=>[AV.x (.int IntKind.u8 (DD B (GN L k+i)))])+1)]=[Value.string (L k),Value.int IntKind.i64 (↑(GN L (k+1)):Int)]] (VR.may True (need [VQ ((k:Int)+1)] (need [W6 l,U4 (QL N B),((↑(GN L k):Int)+11+rdL λi=>[AV.x (.int IntKind.u8 (DD B (GN L k+i)))])+1=(↑(GN L (k+1)):Int),(k:Int)+1=(↑(k+1):Int),k+1=k+1] (leaf GB.normal))) (need [W6 l,U4 (QL N B)] (leaf GB.ret)))))))))))))))))))) VR.fail))):=VY
   show (HR VT [(61,dH),(58,zJ)] {Y:=some (l,m,(rcV L)) } [] [] c9 (B2 l N B m L k) (B2 l N B m L ((k+1))) (wK l N B m L k)).sat _;rw [e]
   dsimp only
   simp only [Qw7,wK,BZ,VR.sat,GZ] at hQ;have hQ2: ∀E,xB l N B m L (k,true) .ret=some E->Q (.ret,E):=λE hE=>by cases hE;exact hQ.2.1 trivial
   clear hQ e;have h100:=VW.2.2.2.1;have h50:=VW.1;obtain ⟨g1,g2,g3,g4,g5,g6,g7⟩:=Jd7 VW hc;obtain ⟨r1,r2,r3⟩:=Xv0 (f:=λi=>[AV.x (.int .u8 (DD B (GN L k+i)))]) (l:=((L k).size:Int)) (c:=tpK (L k) k) VO g4 (λj hj=>by show [AV.x (.int .u8 (DD B (GN L k+j)))]=_;rw [g5 j hj];rfl)
   have t1:(((GN L k:Nat):Int)+11+((L k).size:Int)+1-1).toNat=GN L k+11+(L k).size:=VO;have t2:(((GN L k:Nat):Int)+11).toNat=GN L k+11:=VO;have t3:GN L k+11+(L k).size-(GN L k+11)=(L k).size:=VO;have s1:bsO (L k).size (λi=>[AV.x (.int .u8 (DD B (GN L k+11+i)))])=L k:=bD rfl λj hj=>by show [AV.x (.int .u8 (DD B (GN L k+11+j)))]=_;rw [g6 j hj];rfl
   have b1:wO (L k).size (λi=>[AV.x (.int .u8 (DD B (GN L k+11+i)))]):=Qh1 (s:=B) (o:=GN L k+11) λj hj=>rfl
   have v1:((GN L k:Nat):Int)+11+((L k).size:Int)+1=((GN L (k+1):Nat):Int):=VO;have v2:[Value.string (L k),Value.int .i64 ((GN L (k+1):Nat):Int)]=rcV L k:=rfl;simp only [VR.sat,UF,r1,r2,t1,t2,t3,s1,g7,UL,HD,VQ,DR]
   (with_reducible repeat' first|apply Al|intro _)
   all_goals first|exact Ak|exact r3|exact b1|exact congrArg (λz=>[Value.string (L k),Value.int .i64 z]) v1|contradiction|exact hQ2 _ (by assumption)|omega|rfl|(exfalso;rename_i h9;simp at h9;done)|(exfalso;omega)|trace_state
end
theorem s8(N:Nat)(B:ByteArray)(m:Nat)(L:Nat->ByteArray)(VW:Qo4 N B m L):PQ Tryz.prog 60 [.ro [.lst 1 N (D3 B)]] m (rcV L):=by
 refine PF (L:=λl=>[nK l N B m L]) (Ae l8 (Ae jB Aa)) U3 (UM Tryz.func60) Tryz.func60 (UY Tryz.f60) VY (λl cx hX=>G4 (lpE (b:= .loop c9) VY<|Jd6 l N B m L VW hX)) (t:=λl=>(need [U4 (AV.fn (Fn.yield l) [] []),U4 (QL N B),(0:Int)=(↑(GN L 0):Int),(0:Int)=(↑(0:Nat):Int),0=0] (VR.may True (need [m=m] (leaf PUnit.unit)) (VR.may True (leaf PUnit.unit) (need [m=m] (leaf PUnit.unit)))))) (λl=>VY) ?_
 intro l;simp only [VR.sat,UF,GA,GR,UI,UL]
 (with_reducible repeat' first|apply Al|intro _)
 all_goals first|exact Ak|rfl|trivial|trace_state
def Qj2:G0
 |[.lst 1 n f]=>some ([],.fn (.func 60) [] [.ro [.lst 1 n f]])
 |_=>none
theorem Wp6(n:Nat)(f:Nat->List AV):FH VT 32 [.lst 1 n f] (.fn (.func 60) [] [.ro [.lst 1 n f]]):=by
 refine D2 (L:=[]) Aa Ad U3 Tryz.func32 (UY Tryz.f32) G9 (t:=leaf (AV.fn (Fn.func 60) [] [AV.ro [lst 1 n λa=>f a]])) VY ?_
 exact rfl
theorem OQ:P7 VT 32 Qj2:=by
 refine ⟨(UM Tryz.func32),?_⟩;intro avs ns res h Z;unfold Qj2 at h;split at h
 ·cases h;exact Wp6 _ _
 ·cases h
section
variable (N:Nat)(B:ByteArray)
abbrev JT:AV:=lst 1 N λj=>[AV.x (.int IntKind.u8 (DD B j))]
abbrev YV:AV:=AV.fn (Fn.func 60) [] [QL N B]
def Jq8(m:Nat)(L:Nat->ByteArray):St:={σ:=[JT N B,top,ptr 0 0,ptr 1 0,top,top,top,YV N B]++HO 12 [],m:=[(902,GU.row 9 1 0 λx=>[]),(1,GU.cells 3 [iI 0]),(0,GU.cells 22 [AV.row 902])],nx:=903}
noncomputable def Ju7:Code:=MZ (VX (UB Tryz.f15) 0)
noncomputable def Js1:Code:=MY (VX (UB Tryz.f15) 0)
def pS(m:Nat)(L:Nat->ByteArray)(k:Nat):St:={σ:=H6 [] (Jq8 N B m L).σ,m:=[(902,.row 9 1 k (λz=>[.x (.string (L z))])),(1,.cells 3 [i (GN L k:Nat)]),(0,.cells 22 [.row 902])],nx:=903}
def oY(m:Nat)(L:Nat->ByteArray)(k:Nat):GB->Option St
 | .normal=>some {σ:=H6 [] (Jq8 N B m L).σ,m:=[(902,.row 9 1 m (λz=>[.x (.string (L z))])),(1,.cells 3 [i (GN L m:Nat)]),(0,.cells 22 [.row 902])],nx:=903}
 |_=>none
def T_rv(m:Nat)(L:Nat->ByteArray):CT:= .leaf (.normal,pS N B m L m)
def Xy5(m:Nat)(L:Nat->ByteArray):UN:=GO [(.cell 0 0,902,9,1)] (HM (pS N B m L (0)) (T_rv N B m L))
end
abbrev ZZ(L:Nat->ByteArray):Nat->List AV:=λz=>[FO (L z)]
section
variable (N:Nat)(B:ByteArray)(m:Nat)(L:Nat->ByteArray)
theorem Jc3(VW:Qo4 N B m L):HP VT (.rangeFunc (rfF (VX (UB Tryz.f15) 0)) (zS (VX (UB Tryz.f15) 0)) Ju7 Js1) (Xy5 N B m L):=by
 refine LI [(.cell 0 0,902,9,1)] (L:=[]) Aa (Ai (Af OQ Ab) Ac) U3 U8 (V:=Nat) (pS N B m L) (λk=>k<=m) (λk=>k) (oY N B m L) (x0:=0) VZ rfl ?_ ?_ ?_ ?_ (g:=60) (caps:=[.ro [.lst 1 N (D3 B)]]) VY VY (s8 N B m L VW) (λ_=>rfl) ?_
 ·rintro k;kernel_rfl
 ·rintro k y E h;unfold oY at h;split at h
  ·cases h;kernel_rfl
  ·cases h
 ·rintro k;rfl
 ·rintro k y E h;unfold oY at h;split at h
  ·cases h;rfl
  ·cases h
 ·rintro Q hQ k hx;refine ⟨λhlt=>⟨(k+1),rfl,?_⟩,λPL=>?_⟩
  ·(with_reducible refine DN (t:=branch ((k:Int)==50) VR.fail (need [(k+1)*16<=140737488355328,L1 1 (UA 1 [FO (L k)])] (need [U4 (JT N B),QS,Z6,U4 (YV N B),k+1=k+1,H2 (k+1) (GM k ((ZZ L)) (UA 1 [FO (L k)])) (λi=>[FO (L i)]),U4 (↑(GN L (k+1)):Int),WJ] (leaf GB.normal)))) VY ?_)
   have h50:=VW.1;have h100:=VW.2.2.2.1;have h3:=VW.2.2.1;have h4:=qZ L (show k+1<=m from hlt);have hq: ∀j,j<k+1->GM k (λz=>[.x (.string (L z))]) (UA 1 [.x (.string (L k))]) j=[.x (.string (L j))]:=λj hj=>catS hj rfl
   simp only [VR.sat,UF,UL,HD,VQ,DR]
   (with_reducible repeat' first|apply Al|intro _)
   all_goals first|exact Ak|omega|rfl|exact hq _ (by assumption)|exact FU (by assumption) (by simp [AV.one,Value.oneCell'])|(exfalso;rename_i h9;simp at h9;omega)|trace_state
  ·have hk:k=m:=VO;subst hk;exact hQ
theorem Xm3(VW:Qo4 N B m L):US VT 15 [.lst 1 N (D3 B)] (.leaf (.tup [.lst 1 m (λz=>[.x (.string (L z))]),i (GN L m:Nat)])):=by
 refine GX (L:=[Xy5 N B m L]) Aa (Ai (Af OQ Ab) Ac) U3 Tryz.func15 (UY Tryz.f15) (G4 (lpE (b:= .rangeFunc (rfF (VX (UB Tryz.f15) 0)) (zS (VX (UB Tryz.f15) 0)) Ju7 Js1) VY<|Jc3 N B m L VW)) (t:=let A:=(leaf (tup [lst 1 m (ZZ L),iI (↑(GN L m):Int)]));(need [U4 (JT N B),QS,Z6,U4 (YV N B),0=0,∀(i:Nat),i<0->[]=[FO (L i)],(0:Int)=(↑(GN L 0):Int),WJ] (VR.may True A (VR.may True A A)))) VY ?_
 intro Q hQ;have h50:=VW.1;have h100:=VW.2.2.2.1;have h3:=VW.2.2.1;simp only [VR.sat,UF,UL,VQ,DR] at hQ ⊢
 (with_reducible repeat' first|apply Al|intro _)
 all_goals first|exact Ak|omega|rfl|assumption|(rename_i h;exact absurd h (Aq _))|exact ⟨.tup [.lst 1 m (λz=>[.x (.string (L z))]),i (GN L m:Nat)],⟨⟨rfl,rfl,λ_ _=>rfl⟩,⟨rfl,rfl⟩,Ak⟩,hQ⟩|trace_state
end
section
variable (n:Nat)(L:Nat->ByteArray)
def Zs4:St:={σ:=[Q8 n L,Q8 n L]++HO 24 [],m:=[],nx:=7}
noncomputable def Jr5:Code:=UE (VX (UB Tryz.f16) 0)
def Wk4(k:Nat):St:=(upM [(5,i k)] (Zs4 n L))
def CS(k:Nat):GB->Option St
 | .exit 0=>some (upM [(5,i n)] (Zs4 n L))
 |_=>none
def Jm9:CT:= .leaf (.exit 0,(CS n L 0 (.exit 0)).getD (Zs4 n L))
def Xx9:UN:=GO [] (HM (Wk4 n L (0)) (Jm9 n L))
theorem Zz2(VW:n<=100000):GC VT (.loop Jr5) (Xx9 n L):=by
 refine G7 [] (L:=[]) Aa Ad U3 U8 (X:=Nat) (Wk4 n L) (λk=>k<=n) (λk=>n-k) (CS n L) (x0:=0) VZ ?_ ?_ ?_
 ·rintro k;kernel_rfl
 ·rintro k y E h;unfold CS at h;split at h
  ·cases h;kernel_rfl
  ·cases h
 ·rintro Q hQ k hx;refine ⟨(k+1),?_⟩;(with_reducible refine DN (t:=branch (decide ((k:Int)<(n:Int))) (need [UO k n] (need [UO k n] (branch (!ByteArray.toList (L k)==ByteArray.toList (L k)) VR.fail (need [VQ ((k:Int)+1)] (need [U4 (Q8 n L),U4 (Q8 n L),(k:Int)+1=(↑(k+1):Int)] (leaf GB.normal)))))) (need [U4 (Q8 n L),U4 (Q8 n L),(k:Int)=(n:Int)] (leaf (GB.exit 0)))) VY ?_);simp only [Jm9,CS,VR.sat,GZ] at hQ;simp only [VR.sat,UF,GA,GR,UI,VQ,UL,HD,RF,RG,L9,GT,CS]
  refine ⟨λh=>?_,λh=>?_⟩
  ·have hk:k<n:=VO;exact VN
  ·obtain rfl:k=n:=VO;exact V4
theorem Qq7(VW:n<=100000):U2 VT 16 [lns n L,lns n L] (bl true):=by
 refine GF (L:=[Xx9 n L]) Aa Ad U3 Tryz.func16 (UY Tryz.f16) (G4 (lpE (b:= .loop Jr5) VY<|(Zz2 n L VW).N)) (t:=branch ((n:Int) != (n:Int)) (leaf (RV.x (WN))) (need [U4 (Q8 n L),U4 (Q8 n L),(0:Int)=(↑(0:Nat):Int)] (leaf (RV.x (.bool true))))) VY ?_
 simp only [VR.sat,UF,GA,GR,UI,UL,VQ,DR]
 (with_reducible repeat' first|apply Al|intro _)
 all_goals first|exact Ak|omega|rfl|contradiction|(exfalso;rename_i h9;simp at h9;done)|trace_state
end
def sF(n:Nat)(f g:Nat->List AV):Prop:= ∀k,k<n->f k=g k
section
variable (n:Nat)(L:Nat->ByteArray)(cut:Int)
def cuN:Nat:=(cut.tmod ((GN L n:Nat)+1)).toNat
def wcN:Nat:=whN L n (cuN n L cut)
end
def mR:G0
 |[.lst 1 n f,.lst 1 n2 g]=>some ([n2=n,n<=100000,sF n f (λk=>[.x (.string (lnF f k))]),sF n g f],bl true)
 |_=>none
section
variable (n:Nat)(L:Nat->ByteArray)
def tU:DM:=λl=>match l with
 |[.lst 1 N f]=>some (.need [N<=GN L n,sF N f (D3 (flB L n)),ckE n L=0] (.leaf (.tup [.lst 1 (whN L n N) (λz=>[.x (.string (L z))]),i (GN L (whN L n N):Nat)])))
 |_=>none
def Xb4:G0:=λl=>some ([l=[lns n L],n<=100000],lns n L)
def Xx5:DM:=λl=>some (.need [l=[lns n L],ckE n L=0] (.leaf (.tup [.lst 1 (GN L n) (D3 (flB L n)),i 0])))
end
theorem OG:VU VT 16 mR:=by
 refine ⟨(UM Tryz.func16),?_⟩;intro avs ns res h Z;unfold mR at h;split at h
 ·rename_i n f n2 g;cases h;obtain rfl:n2=n:=Z _ VZ;have h1:n2<=100000:=Z (n2<=100000) VZ;have h2:sF n2 f (λk=>[.x (.string (lnF f k))]):=Z (sF n2 f (λk=>[.x (.string (lnF f k))])) VZ
  have h3:sF n2 g f:=Z (sF n2 g f) VZ;exact (Qq7 n2 (lnF f) h1).same (.cons (.lst 1 n2 _ _ h2) (.cons (.lst 1 n2 _ _ λk hk=>(h3 k hk).trans (h2 k hk)) .nil))
 ·cases h
section
variable (n:Nat)(L:Nat->ByteArray)
theorem OH:VU VT 14 (Xb4 n L):=by
 refine ⟨(UM Tryz.func14),?_⟩;intro avs ns res h Z;cases h;have e:avs=[lns n L]:=Z _ VZ;have h0:n<=100000:=Z _ VZ;subst e;exact Wj9 n L h0
theorem Qc2:Sx.Enters Tryz.prog 15/\ ∀avs t,tU n L avs=some t->US VT 15 avs t:=by
 refine ⟨(UM Tryz.func15),?_⟩;intro avs t h;unfold tU at h;split at h
 ·rename_i N f;cases h;intro Q hQ;have h1:N<=GN L n:=hQ.1.1;have h2:sF N f (D3 (flB L n)):=hQ.1.2.1;have h0:ckE n L=0:=hQ.1.2.2;have hk:=IX h0;intro e w args q1 q2 q3 q4;refine Xm3 N (flB L n) (whN L n N) L (Zy7 hk.1 hk.2 h1) Q hQ.2 e w args q1 q2 ?_ ?_
  ·intro a ha;rw [B9.1 ha];exact .lst _ _ _ λk _ x hx=>by rw [B9.1 hx];exact .x _
  ·obtain ⟨u,us,rfl,r1,r2⟩:=q4.cons_inv;exact .cons (L4 (a:= .lst 1 N f) ⟨rfl,rfl,h2⟩ r1) r2
 ·cases h
theorem Qy0:Sx.Enters Tryz.prog 13/\ ∀avs t,Xx5 n L avs=some t->US VT 13 avs t:=by
 refine ⟨(UM Tryz.func13),?_⟩;intro avs t h;cases h;intro Q hQ;have e:avs=[lns n L]:=hQ.1.1;have h0:ckE n L=0:=hQ.1.2;subst e;have hk:=IX h0;refine S0 n L VO Q ⟨λh=>?_,λ_=>hQ.2⟩
 rw [h0] at h;exact absurd h (by decide)
end
theorem Zy8{L:Nat->ByteArray}{n K q:Nat}(hq:q<=whN L n K)(Z:q<n):GN L q+12+(L q).size<=K↔q<whN L n K:=by
 obtain ⟨I,w2,W⟩:=AX L n K;have h1:=qY L q;constructor
 ·intro h;rcases An q (whN L n K) with h2|h2
  ·exact h2
  ·have e:whN L n K=q:=VO;rw [e] at W;have:=W Z;omega
 ·intro h;have:=qZ L (show q+1<=whN L n K from h);omega
theorem Wv8{n:Nat}{L:Nat->ByteArray}{cut:Int}(h:0<=cut):cut.tmod ((GN L n:Nat)+1)=(cuN n L cut:Int)/\cuN n L cut<=GN L n:=by
 have h1:cut.tmod ((GN L n:Nat)+1)=cut%((GN L n:Nat)+1):=Int.tmod_eq_emod_of_nonneg h;have h2:=Int.emod_nonneg cut (show ((GN L n:Nat):Int)+1≠0 by omega)
 have h3:=Int.emod_lt_of_pos cut (show (0:Int)<(GN L n:Nat)+1 by omega)
 unfold cuN;omega
section
variable (L:Nat->ByteArray)(n:Nat)
abbrev XI:AV:=lst 1 (GN L n) λj=>[AV.x (.int IntKind.u8 (DD (flB L n) j))]
abbrev XP:AV:=lst 1 (whN L n (0+GN L n)) λz=>[FO (L z)]
end
section
variable (n:Nat)(L:Nat->ByteArray)
def bY(cut:Int):St:={σ:=[Q8 n L,AV.x (.int IntKind.u16 cut),top,top,top,XI L n,iI 0,XP L n,iI (↑(GN L (whN L n (0+GN L n))):Int),iI (Int.tmod cut ((↑(GN L n):Int)+1)),lst 1 (whN L n (0+((Int.tmod cut ((↑(GN L n):Int)+1)).toNat-(0:Int).toNat))) (ZZ L),iI (↑(GN L (whN L n (0+((Int.tmod cut ((↑(GN L n):Int)+1)).toNat-(0:Int).toNat)))):Int)]++HO 120 [],m:=[],nx:=53}
noncomputable def Qx1:Code:=UE (VX (UB Tryz.f5) 0)
def uD(cut:Int)(q:Nat):St:=(upM [(12,i (GN L q:Nat)),(13,i (q:Nat))] (bY n L cut))
def PH(cut:Int)(q:Nat):GB->Option St
 | .exit 0=>some (upM [(12,i (GN L (wcN n L cut):Nat)),(13,i ((wcN n L cut):Nat))] (bY n L cut))
 |_=>none
def Wz2(cut:Int):CT:= .leaf (.exit 0,(PH n L cut 0 (.exit 0)).getD (bY n L cut))
def nH(cut:Int):UN:=GO [] (HM (uD n L cut (0)) (Wz2 n L cut))
abbrev YN:Ext:={R:=[],H:=[],C:=[(15,(tU n L)),(13,(Xx5 n L))] }
theorem Ja3(cut:Int)(VW:ckE n L=0)(UK:0<=cut/\cut<=65535):GC VT (.loop Qx1) (nH n L cut):=by
 refine G7 [] (L:=[]) (Ae (I0 n L 50) (Ae cK (Ae OG (Ae (OH n L) Aa)))) (Aj Ab Ac (Ah (Qc2 n L) (Ah (Qy0 n L) (UG.nil _)))) U3 U8 (X:=Nat) (uD n L cut) (λq=>q<=wcN n L cut) (λq=>wcN n L cut-q) (PH n L cut) (x0:=0) VZ ?_ ?_ ?_
 ·rintro q;kernel_rfl
 ·rintro q y E h;unfold PH at h;split at h
  ·cases h;kernel_rfl
  ·cases h
 ·rintro Q hQ q hx;refine ⟨(q+1),?_⟩;(with_reducible refine DN (t:=let z2:=(Int.tmod cut ((↑(GN L n):Int)+1));let A:=(whN L n (0+(Int.toNat z2-(0:Int).toNat)));let S:=(need [U4 (Q8 n L),cut=cut,U4 (XI L n),QY,U4 (XP L n),U4 (↑(GN L (whN L n (0+GN L n))):Int),U4 z2,(lst 1 A (ZZ L))=lst 1 A λz=>[FO (L z)],U4 (↑(GN L A):Int),(↑(GN L q):Int)=(↑(GN L (wcN n L cut)):Int),(q:Int)=(↑(wcN n L cut):Int)] (leaf (GB.exit 0)));(branch (decide ((q:Int)<(n:Int))) (need [VQ ((↑(GN L q):Int)+12)] (need [UO q n] (need [VQ ((↑(GN L q):Int)+12+(↑(ByteArray.size (L q)):Int))] (branch (decide ((↑(GN L q):Int)+12+(↑(ByteArray.size (L q)):Int)<=Int.tmod cut ((↑(GN L n):Int)+1))) (need [UO q n] (need [VQ ((12:Int)+(↑(ByteArray.size (L q)):Int))] (need [VQ ((↑(GN L q):Int)+((12:Int)+(↑(ByteArray.size (L q)):Int)))] (branch (decide ((q:Int)>=(A:Int))) VR.fail (need [UO q A] (need [UO q n] (branch (!ByteArray.toList (L q)==ByteArray.toList (L q)) VR.fail (need [VQ ((q:Int)+1)] (need [U4 (Q8 n L),cut=cut,U4 (XI L n),QY,U4 (XP L n),U4 (↑(GN L (whN L n (0+GN L n))):Int),U4 z2,(lst 1 A (ZZ L))=lst 1 A λz=>[FO (L z)],U4 (↑(GN L A):Int),(↑(GN L q):Int)+((12:Int)+(↑(ByteArray.size (L q)):Int))=(↑(GN L (q+1)):Int),(q:Int)+1=(↑(q+1):Int)] (leaf GB.normal)))))))))) S)))) S)) VY ?_)
  simp only [Wz2,PH,VR.sat,GZ] at hQ;simp only [VR.sat,UF,GA,GR,UI,VQ,UL,HD,RF,RG,L9,GT,PH]
  have hk0:=IX VW;obtain ⟨cu1,cu2⟩:=Wv8 (n:=n) (L:=L) UK.1;have cu3:0+(cuN n L cut-0)=cuN n L cut:=VO;have cu4:0+GN L n=GN L n:=VO;have hz:GN L n<=n*212:=kV L n hk0.2;have hwc:whN L n (cuN n L cut)=wcN n L cut:=rfl;obtain ⟨I,w2,W⟩:=AX L n (cuN n L cut);rw [hwc] at I w2 W
  have hq1:=qZ L (show q<=n by omega)
  have hgo:=λh:q<n=>Zy8 (L:=L) (n:=n) (K:=cuN n L cut) hx h
  rw [hwc] at hgo;have hs1:=qY L q;simp only [cu1,DR,show (0:Int).toNat=0 from rfl,cu3,cu4,hwc];refine ⟨λh=>?_,λh=>?_⟩
  ·have hq:q<n:=VO;have hg:=hgo hq;have hsz:=hk0.2 q hq;refine ⟨VO,VO,VO,λh2=>?_,λh2=>?_⟩
   ·have hlt:q<wcN n L cut:=hg.1 VO;have hm:=qZ L (show q+1<=n by omega)
    exact VN
   ·have hlt: ¬q<wcN n L cut:=λh=>h2 (by have:=hg.2 h;omega)
    obtain rfl:q=wcN n L cut:=VO;exact V4
  ·obtain rfl:q=wcN n L cut:=VO;exact V4
theorem Xr2(cut:Int)(VW:0<=cut/\cut<=65535):U2 VT 5 [lns n L,.x (.int .u16 cut)] (bl true):=by
 refine GF (L:=[FV [ckE n L=0] (nH n L cut)]) (Ae (I0 n L 50) (Ae cK (Ae OG (Ae (OH n L) Aa)))) (Aj Ab Ac (Ah (Qc2 n L) (Ah (Qy0 n L) (UG.nil _)))) U3 Tryz.func5 (UY Tryz.f5) (G4 (lpE (b:= .loop Qx1) VY<|(D9 (ps:=[ckE n L=0]) (λh=>Ja3 n L cut h VW)).N)) (t:=let S:=(Int.tmod cut ((↑(GN L n):Int)+1));let A:=(whN L n (0+(Int.toNat S-(0:Int).toNat)));let z2:=(leaf (RV.x (.bool true)));(need [U4 ([Q8 n L,iI 50])] (branch (!rdB n L (50:Int)) z2 (need [(Y6 n L),n<=100000] (need [(Y6 n L),ckE n L=0] (branch ((0:Int) != 0) (leaf (RV.x (WN))) (need [(0+GN L n)*1<=140737488355328,∀(i:Nat),i<GN L n-> ∀(a:AV),a∈D3 (flB L n) i->AV.one a=true] (need [0+GN L n<=GN L n,sF (0+GN L n) (GM 0 (λx=>[]) (D3 (flB L n))) (D3 (flB L n)),ckE n L=0] (need [n=whN L n (0+GN L n),whN L n (0+GN L n)<=100000,sF (whN L n (0+GN L n)) ((ZZ L)) λk=>[AV.x (.string (lnF ((ZZ L)) k))],sF (whN L n (0+GN L n)) (λk=>[FO (L k)]) λz=>[FO (L z)]] (branch (!true) (leaf (RV.x (WN))) (branch ((↑(GN L (whN L n (0+GN L n))):Int) != (↑(GN L n):Int)) (leaf (RV.x (WN))) (need [VQ cut] (need [VQ ((↑(GN L n):Int)+1)] (need [(↑(GN L n):Int)+1≠0] (need [(0:Int)<=0/\(0:Int)<=Int.tmod cut ((↑(GN L n):Int)+1)/\Int.tmod cut ((↑(GN L n):Int)+1)<=(↑(GN L n):Int)] (need [(0+(Int.toNat S-(0:Int).toNat))*1<=140737488355328,∀(i:Nat),i<Int.toNat S-(0:Int).toNat-> ∀(a:AV),a∈D3 (flB L n) ((0:Int).toNat+i)->AV.one a=true] (need [0+(Int.toNat S-(0:Int).toNat)<=GN L n,sF (0+(Int.toNat S-(0:Int).toNat)) (GM 0 (λx=>[]) λi=>D3 (flB L n) ((0:Int).toNat+i)) (D3 (flB L n)),ckE n L=0] (need [ckE n L=0] (need [U4 (Q8 n L),cut=cut,U4 (XI L n),QY,U4 (XP L n),U4 (↑(GN L (whN L n (0+GN L n))):Int),U4 S,(lst 1 A (ZZ L))=lst 1 A λz=>[FO (L z)],U4 (↑(GN L A):Int),(0:Int)=(↑(GN L 0):Int),(0:Int)=(↑(0:Nat):Int)] (branch ((↑(GN L A):Int)==(↑(GN L (wcN n L cut)):Int)) (branch (decide ((A:Int)<=(n:Int))) (branch ((A:Int)==(n:Int)) z2 (need [VQ ((↑(GN L (wcN n L cut)):Int)+12)] (need [UO A n] (need [VQ ((↑(GN L (wcN n L cut)):Int)+12+(↑(ByteArray.size (L A)):Int))] (branch (decide ((↑(GN L (wcN n L cut)):Int)+12+(↑(ByteArray.size (L A)):Int)>Int.tmod cut ((↑(GN L n):Int)+1))) z2 (leaf (RV.x (WN)))))))) (leaf (RV.x (WN)))) (leaf (RV.x (WN))))))))))))))))))))))) VY ?_
 have hk:rdB n L 50=true->ckE n L=0:=λh=>(Jd1 h).1
 obtain ⟨cu1,cu2⟩:=Wv8 (n:=n) (L:=L) VW.1;have cu3:0+(cuN n L cut-0)=cuN n L cut:=VO;have cu4:0+GN L n=GN L n:=VO;have hwc:whN L n (cuN n L cut)=wcN n L cut:=rfl;simp only [VR.sat,UF,GA,GR,UI,UL,VQ,DR,cu1,show (0:Int).toNat=0 from rfl,cu3,cu4,hwc];refine ⟨λ_=>Ak,λh=>?_⟩
 have hr:rdB n L 50=true:=by simpa using h
 have h0:=hk hr;have hk0:=IX h0;have hz:GN L n<=n*212:=kV L n hk0.2;have hwn:whN L n (GN L n)=n:=by
  obtain ⟨a1,a2,a3⟩:=AX L n (GN L n);rcases An (whN L n (GN L n)) n with h1|h1
  ·have h2:=a3 h1;have h3:=qZ L (show whN L n (GN L n)+1<=n from h1);omega
  ·omega
 obtain ⟨I,w2,W⟩:=AX L n (cuN n L cut);rw [hwc] at I w2 W;have hs1:=qY L (wcN n L cut);have hsz:=hk0.2 (wcN n L cut);have hb1:sF (GN L n) (GM 0 (λx=>[]) (D3 (flB L n))) (D3 (flB L n)):=λj _=>IY _ _
 have hb2:sF (cuN n L cut) (GM 0 (λx=>[]) (λi=>D3 (flB L n) (0+i))) (D3 (flB L n)):=λj _=>(IY _ _).trans (by rw [Ap])
 clear hwc cu3 cu4 hk;simp only [hwn,HD,beq_iff_eq,beq_eq_false_iff_ne,RG]
 (with_reducible repeat' first|apply Al|intro _)
 all_goals first|exact Ak|omega|rfl|contradiction|exact h0|exact hb1|exact hb2|(intro j _;rfl)|(rename_i ha;rw [B9.1 ha];rfl)|(exfalso;omega)|trace_state
end
end Go.Proofs.YtlclobclmfhlmaaGreatDoor.Hd
