/- Contracts, put together. Conditions: those of each. -/
import Derived.Test.YtlclobclmfhlmaaGreatDoorMq
import Derived.Deep.RegionHeld3
set_option linter.unusedSimpArgs false
set_option linter.unusedVariables false
set_option maxRecDepth 100000
namespace Go.Proofs.YtlclobclmfhlmaaGreatDoor.Hd
open Go Go.Shelf Go.Sx Go.RowKit
theorem Qc0{e:UN}{w:World}{v:Value}{u:Value}(h:Rep e w (.x u) v):v=u:=h.x_inv
theorem nX{l c:Int}(hl:0<=l/\l<=1000000000)(hc:0<=c/\c<=1000000000){e:UN}{w:World}(hro: ∀b,e.ro b->b<w.heap.size)(hgl:D5 e w):
  Calls Tryz.prog 59 #[.agg #[.int .i64 l,.int .i64 c]] w λen w'=>en= .returned (.string (tpB l c))/\Below w.heap.size w w':=by
 refine (iW l c hl hc e w [.agg #[.int .i64 l,.int .i64 c]] hro hgl ?_ (.cons (.agg _ _ rfl ?_) (.nil _ _))).mono ?_
 ·intro a ha;rw [B6.1 ha];refine .agg _ λb hb=>?_
  simp only [GQ,DQ,or_false] at hb;rcases hb with rfl|rfl<;>exact .x _
 ·exact (U5.cons (.x _) (.cons (.x _) (.nil _ _))).2
 ·rintro en w' ⟨v,rfl,hb,hr⟩;rw [Qc0 hr];exact ⟨rfl,hb⟩
theorem T4(n U O:Int){e:UN}{w:World}(hro: ∀b,e.ro b->b<w.heap.size)(hgl:D5 e w):
  Calls Tryz.prog 37 #[.int .i64 n,.int .i64 U,.int .i64 O] w λen w'=>en= .returned (.bool (bt U n O))/\Below w.heap.size w w':=by
 refine (I1 n U O e w [.int .i64 n,.int .i64 U,.int .i64 O] hro hgl ?_ (.cons (.x _) (.cons (.x _) (.cons (.x _) (.nil _ _))))).mono ?_
 ·intro a ha;simp only [GQ,DQ,or_false] at ha;rcases ha with rfl|rfl|rfl<;>exact .x _
 ·rintro en w' ⟨v,rfl,hb,hr⟩;rw [Qc0 hr];exact ⟨rfl,hb⟩
theorem M5{s:ByteArray}{v:Int}(hs:s.size<=100000)(h:Lib.atoiAll s.data.toList= .ok v)(w:World):Calls Tryz.prog 88 #[.string s] w λen w'=>en= .returned (.tuple #[.int .i64 v,.nilIface])/\Below w.heap.size w w':=by
 have hA:=Any.strconv_Atoi_ok gQ s VM v h w
 change Calls Tryz.prog 88 _ _ _ at hA
 refine hA.mono ?_;rintro en I ⟨rfl,hw1⟩;exact ⟨rfl,wU hw1⟩
theorem dA{w:World}{b o n cap:Nat}{s:ByteArray}(hs:s.size=n)(h: ∀j,j<n->w.cell? ⟨b,o+j,none⟩=some (.int .u8 (D1 s j))):
  (convert 45 9 (.slice (some ⟨b,o,none⟩) n cap)).run Tryz.prog w= .ok (.string s) w:=by
 have hk:=run_convert_bytes_back (P:=Tryz.prog) w 45 9 5 ⟨b,o,none⟩ cap s.data.toList VW VW VW (λj hj=>by
  have hj':j<s.data.size:=by simpa using hj
  have h2:=h j (by have:s.data.size=s.size:=rfl;omega)
  rw [DE,h2];unfold D1;rw [L9,Array.getElem?_eq_getElem hj'];simp)
 have e1:s.data.toList.length=n:=by
  rw [Array.length_toList];exact hs
 rw [e1] at hk;exact hk
def SS(w0:World)(H b o cap:Nat)(l c:Int)(w':World):Prop:=
 w'.cell? ⟨H,0,none⟩=some (.int .i64 l)/\w'.cell? ⟨H,1,none⟩=some (.int .i64 c)/\w'.frozen? ⟨H,0,none⟩=false/\w'.frozen? ⟨H,1,none⟩=false/\(convert 45 9 (.slice (some ⟨b,o,none⟩) 11 cap)).run Tryz.prog w'= .ok (.string (tpB l c)) w'/\
  w'.heap[H]? =some (Obj.cells #[.int .i64 l,.int .i64 c] 144)/\Below w0.heap.size w0 w'
theorem cU{w0 w':World}{H b o cap:Nat}{l c:Int}(hb:b<w0.heap.size)(PR: ∀j,j<11->w0.cell? ⟨b,o+j,none⟩=some (.int .u8 (D1 (tpB l c) j)))
  (hH:w'.heap[H]? =some (Obj.cells #[.int .i64 l,.int .i64 c] 144))(hB:Below w0.heap.size w0 w'):SS w0 H b o cap l c w':=by
 refine ⟨by simp only [World.cell?,hH];rfl,by simp only [World.cell?,hH];rfl,by simp only [World.frozen?,hH];rfl,by simp only [World.frozen?,hH];rfl,dA (qK l c) λj hj=>?_,hH,hB⟩
 rw [←PR j hj];exact hB.cell (p:=⟨b,o+j,none⟩) hb
theorem Xg9{w0 w':World}{H:Nat}{x:Obj}(hH:w'.heap[H]? =some x):H<w'.heap.size:=by
 rcases An H w'.heap.size with h|h
 ·exact h
 ·rw [Array.getElem?_eq_none h] at hH;cases hH
theorem T8{w0 w' w5:World}{H:Nat}{l c:Int}(hH:w'.heap[H]? =some (Obj.cells #[.int .i64 l,.int .i64 c] 144))(hB:Below w0.heap.size w0 w')(h5:Below w'.heap.size w' w5):
  w5.heap[H]? =some (Obj.cells #[.int .i64 l,.int .i64 c] 144)/\Below w0.heap.size w0 w5:=⟨(h5.block _ (Xg9 (w0:=w0) hH)).trans hH,hB.trans (h5.mono hB.size)⟩
theorem nZ{w0 w':World}{H:Nat}{l c x y:Int}(h0:w0.heap.size<=H)(hH:w'.heap[H]? =some (Obj.cells #[.int .i64 x,.int .i64 y] 144))(hB:Below w0.heap.size w0 w'):
  ((w'.setCell ⟨H,0,none⟩ (.int .i64 l)).setCell ⟨H,1,none⟩ (.int .i64 c)).heap[H]? =some (Obj.cells #[.int .i64 l,.int .i64 c] 144)/\Below w0.heap.size w0 ((w'.setCell ⟨H,0,none⟩ (.int .i64 l)).setCell ⟨H,1,none⟩ (.int .i64 c)):=by
 have e0:(w'.setCell ⟨H,0,none⟩ (.int .i64 l)).heap[H]? =some (Obj.cells #[.int .i64 l,.int .i64 y] 144):=(heap_setCell_same w' H 0 _ _ (.int .i64 l) hH).trans rfl;exact ⟨(heap_setCell_same _ H 1 _ _ (.int .i64 c) e0).trans rfl,(hB.setCell h0 _).setCell h0 _⟩
set_option maxHeartbeats 4000000 in
theorem oM{n cap b o:Nat}{l c:Int}(h11:11<=n)(Jj3:n<=cap)(hl:0<=l/\l<=200)(hc:0<=c/\c<=99970){e:UN}{w:World}(hro: ∀b,e.ro b->b<w.heap.size)(hgl:D5 e w)(hb:b<w.heap.size)
  (PR: ∀j,j<11->w.cell? ⟨b,o+j,none⟩=some (.int .u8 (D1 (tpB l c) j))):
  Calls Tryz.prog 61 #[.slice (some ⟨b,o,none⟩) n cap] w λen w'=>en= .returned (.tuple #[.agg #[.int .i64 l,.int .i64 c],.bool true])/\Below w.heap.size w w':=by
 have keep: ∀{I:World},Below w.heap.size w I-> ∀j,j<11->I.cell? ⟨b,o+j,none⟩=some (.int .u8 (D1 (tpB l c) j)):=by
  intro I h1 j hj;rw [←PR j hj];unfold World.cell?;rw [h1.block b hb]
 have cv3: ∀{I:World} (k:Nat),Below w.heap.size w I->(convert 45 9 (.slice (some ⟨b,o+1,none⟩) 3 k)).run Tryz.prog I= .ok (.string (dg3 l)) I:=λk h1=>dA rfl λj hj=>by
  rw [Ba,keep h1 _ VM,Qg9 l c hj]
 have cv5: ∀{I:World} (k:Nat),Below w.heap.size w I->(convert 45 9 (.slice (some ⟨b,o+5,none⟩) 5 k)).run Tryz.prog I= .ok (.string (dg5 c)) I:=λk h1=>dA rfl λj hj=>by
  rw [Ba,keep h1 _ VM,Qg8 l c hj]
 have cv11: ∀{I:World} (k:Nat),Below w.heap.size w I->(convert 45 9 (.slice (some ⟨b,o,none⟩) 11 k)).run Tryz.prog I= .ok (.string (tpB l c)) I:=λk h1=>dA (qK l c) λj hj=>keep h1 j hj
 have i1:(0:Int)<=(n:Int):=VM;have i2:(4:Int)<=(n:Int):=VM;have i3:(10:Int)<=(n:Int):=VM;have i4:(11:Int)<=(n:Int):=VM;have i5:(n:Int)<=(cap:Int):=VM;have i6:(4:Int)<=(cap:Int):=VM;have i7:(10:Int)<=(cap:Int):=VM;have i8:(11:Int)<=(cap:Int):=VM;have hB1:Below w.heap.size w (w.alloc (Obj.cells #[.int .i64 0,.int .i64 0] 144)):=(Below.refl _ _).alloc (Am _) _;have e1:=cv3 (cap-1) hB1;have hbt:bt 0 l 200=true:=(Bo.bt_iff _ _ _).2 VM;have hcn:decide (c<0)=false:=decide_eq_false VM;have a3:=mG (n:=l) VM;have a5:=mF (n:=c) VM;have z3:(dg3 l).size<=100000:=by show 3<=100000;decide
 have z5:(dg5 c).size<=100000:=by show 5<=100000;decide
 go_enter Tryz.func61,Tryz.ntmps61
 go_wp2_with (go_at_call 88;refine (M5 z3 a3 _).mono ?_;rintro en I ⟨rfl,hw1⟩)
 have hB2:Below w.heap.size w I:=hB1.trans (hw1.mono hB1.size);have Jh5:w.heap.size<(w.alloc (Obj.cells #[.int .i64 0,.int .i64 0] 144)).heap.size:=VX;have uE:w.heap.size<I.heap.size:=qD Jh5 hw1.size;have hH1:I.heap[w.heap.size]? =some (Obj.cells #[.int .i64 0,.int .i64 0] 144):=(hw1.block _ Jh5).trans (heap_alloc_new w _);rw [cv5 (cap-5) hB2]
 go_wp2_with (go_at_call 88;refine (M5 z5 a5 _).mono ?_;rintro en w2 ⟨rfl,hw2⟩;have hH2:w2.heap[w.heap.size]? =some (Obj.cells #[.int .i64 0,.int .i64 0] 144):=(hw2.block _ uE).trans hH1)
 have hsz3:w.heap.size<w2.heap.size:=qD uE hw2.size;have hB3:Below w.heap.size w w2:=hB2.trans (hw2.mono hB2.size);have hro2: ∀b,e.ro b->b<w2.heap.size:=λb h=>qD (hro b h) hB3.size
 refine (T4 l 0 200 hro2 (qU hgl hB3)).mono ?_;rintro en w3 ⟨rfl,hw3⟩;have hH3:w3.heap[w.heap.size]? =some (Obj.cells #[.int .i64 0,.int .i64 0] 144):=(hw3.block _ hsz3).trans hH2;have hc0:w3.cell? ⟨w.heap.size,0,none⟩=some (.int .i64 0):=by simp only [World.cell?,hH3];rfl
 have hc1:w3.cell? ⟨w.heap.size,1,none⟩=some (.int .i64 0):=by simp only [World.cell?,hH3];rfl
 have hf0:w3.frozen? ⟨w.heap.size,0,none⟩=false:=by simp only [World.frozen?,hH3];rfl
 have hf1:w3.frozen? ⟨w.heap.size,1,none⟩=false:=by simp only [World.frozen?,hH3];rfl
 have hB4:Below w.heap.size w w3:=hB3.trans (hw3.mono hB3.size);rw [hbt]
 go_wp2
 obtain ⟨hH5,hB5⟩:=nZ (l:=l) (c:=c) (Am _) hH3 hB4;generalize (w3.setCell ⟨w.heap.size,0,none⟩ (.int .i64 l)).setCell ⟨w.heap.size,1,none⟩ (.int .i64 c)=w5 at hH5 hB5 ⊢;have hss:SS w w.heap.size b o cap l c w5:=cU hb PR hH5 hB5;have hro': ∀{w':World},Below w.heap.size w w'-> ∀b,e.ro b->b<w'.heap.size:=λhB b h=>qD (hro b h) hB.size
 have hH6:w5.drew.heap[w.heap.size]? =some (Obj.cells #[.int .i64 l,.int .i64 c] 144):=hH5;have hB6:Below w.heap.size w w5.drew:=hB5.drew;clear hc0 hc1 hf0 hf1 keep cv3 cv5 cv11
 go_region_held3 (λw'=>w'.cell? ⟨w.heap.size,0,none⟩=some (.int .i64 l)/\w'.cell? ⟨w.heap.size,1,none⟩=some (.int .i64 c)/\w'.frozen? ⟨w.heap.size,0,none⟩=false/\w'.frozen? ⟨w.heap.size,1,none⟩=false/\(convert 45 9 (.slice (some ⟨b,o,none⟩) 11 cap)).run Tryz.prog w'= .ok (.string (tpB l c)) w'/\w'.heap[w.heap.size]? =some (Obj.cells #[.int .i64 l,.int .i64 c] 144)/\Below w.heap.size w w')
  (first|exact hss|exact cU hb PR (by assumption) (Below.drew (by assumption))|exact (λh=>cU hb PR h.1 h.2) (T8 (by assumption) (by assumption) (by assumption))|exact (λh=>cU hb PR h.1 h.2) ((λg=>nZ (Am _) g.1 g.2) (T8 hH6 hB6 (by assumption))))
  (first|(go_at_call 59;refine (nX (e:=e) VM VM (hro' (by assumption)) (qU hgl (by assumption))).mono ?_;rintro en w6 ⟨rfl,hw6⟩))
 obtain ⟨hH7,hB7⟩:=(λg=>nZ (l:=l) (c:=c) (Am _) g.1 g.2) (T8 hH6 hB6 hw6)
 generalize (w6.setCell ⟨w.heap.size,0,none⟩ (.int .i64 l)).setCell ⟨w.heap.size,1,none⟩ (.int .i64 c)=w7 at hH7 hB7 ⊢;obtain ⟨c70,c71,_⟩:=cU (cap:=cap) hb PR hH7 hB7
 go_wp2
 refine bodyPost_ret (v:= .tuple #[.agg #[.int .i64 l,.int .i64 c],.bool true]) ?_ rfl ⟨rfl,hB7⟩;simp [results,Tryz.results61,c70,c71,go_sem]
theorem Wp9(n:Nat)(f:Nat->List AV)(h11:11<=n)(hT:Qr0 f):U0 VR 61 [.lst 1 n f] (.tup [.agg [.x (.int .i64 (rdL f)),.x (.int .i64 (rdC f))],.x (.bool true)]):=by
 intro e w args hro hgl _ hr;obtain ⟨v,vs,rfl,r1,r2⟩:=hr.cons_inv;cases r2.nil_inv;obtain ⟨hl,hc,hf⟩:=hT;cases r1 with
 |lstNil=>omega
 |lst _ _ _ b o cap g h2 h3 h4 h5 h6 h7 h8 S ad had=>
  obtain rfl:=had VM;refine (oM h11 h5 hl hc hro hgl (h3 VM) ?_).mono ?_
  ·intro j hj;have h10:=h7 j 0 VM VM;have h11:=S j 0 (.x (.int .u8 (D1 (tpB (rdL f) (rdC f)) j))) VM (by rw [hf j hj];rfl)
   rw [h11.x_inv] at h10;rw [←h10]
   congr 2
   omega
  ·rintro en w' ⟨rfl,hB⟩;exact ⟨_,rfl,hB,Rep.tupL (.cons (.agg _ [.int .i64 (rdL f),.int .i64 (rdC f)] rfl (U5.cons (.x _) (.cons (.x _) (.nil _ _))).2) (.cons (.x _) (.nil _ _)))⟩
def dE:UY
 |[.lst 1 n f]=>some ([11<=n,Qr0 f],.tup [.agg [.x (.int .i64 (rdL f)),.x (.int .i64 (rdC f))],.x (.bool true)])
 |_=>none
theorem l7:VS VR 61 dE:=by
 refine ⟨(UK Tryz.func61),?_⟩;intro avs ns res h W;unfold dE at h;split at h
 ·cases h;exact Wp9 _ _ (W _ VX) (W _ VX)
 ·cases h
end Go.Proofs.YtlclobclmfhlmaaGreatDoor.Hd
namespace Go.Proofs.YtlclobclmfhlmaaGreatDoor.Hd
open Go Go.Sx Go.RowKit Bo
open Go.Sx.VP (need branch leaf)
open Go.Sx.AV (lst ptr agg roI tup top)
def rcV(L:Nat->ByteArray)(q:Nat):List Value:=[.string (L q),.int .i64 (GL L (q+1):Nat)]
abbrev QL(N:Nat)(B:ByteArray):AV:=AV.ro [lst 1 N λj=>[AV.x (.int IntKind.u8 (D1 B j))]]
section
variable (l:Nat)(N:Nat)(B:ByteArray)
def MS(m:Nat)(L:Nat->ByteArray):St:={σ:=[AV.fn (Fn.yield l) [] [],QL N B]++HM 63 [],m:=[],nx:=2,gh:=some 0}
noncomputable def c7:Code:=UC (VV (U9 Tryz.f60) 0)
def PZ(m:Nat)(L:Nat->ByteArray)(k:Nat):St:={σ:=H4 [(3,i (GL L k:Nat)),(4,i (k:Nat)),(5,.top),(6,.top),(7,.top),(8,.top)] (MS l N B m L).σ,m:=[],nx:=0,gh:=some (k) }
def wH(m:Nat)(L:Nat->ByteArray)(k:Nat):G9->Option St
 | .ret=>some {σ:=H4 [(3,.top),(4,.top),(5,.top),(6,.top),(7,.top),(8,.top)] (MS l N B m L).σ,m:=[],nx:=0,gh:=none}
 |_=>none
def BW(m:Nat)(L:Nat->ByteArray)(k:Nat):G9->Option St
 | .exit 0=>some {σ:=H4 [(3,i (GL L m:Nat)),(4,i (m:Nat)),(5,.top),(6,.top),(7,.top),(8,.top)] (MS l N B m L).σ,m:=[],nx:=0,gh:=some m}
 | .ret=>some {σ:=H4 [(3,.top),(4,.top),(5,.top),(6,.top),(7,.top),(8,.top)] (MS l N B m L).σ,m:=[],nx:=0,gh:=some m}
 |_=>none
def x8(m:Nat)(L:Nat->ByteArray)(x:Nat×Bool):G9->Option St:=match x.2 with
 |true=>wH l N B m L x.1
 |false=>BW l N B m L x.1
def Qw6(m:Nat)(L:Nat->ByteArray):CT:= .may True (.leaf (.exit 0,(BW l N B m L 0 (.exit 0)).getD (MS l N B m L))) (.may True (.leaf (.ret,(wH l N B m L 0 .ret).getD (MS l N B m L))) (.leaf (.ret,(BW l N B m L 0 .ret).getD (MS l N B m L))))
def nI(m:Nat)(L:Nat->ByteArray):UL:=GM [] (HK (PZ l N B m L (0)) (Qw6 l N B m L))
abbrev YP:List (Nat×UY):=[(61,dE),(58,zG)]
theorem Je0(m:Nat)(L:Nat->ByteArray)(VU:Qo3 N B m L){cx:Cx}(hX:VZ VR {Y:=some (l,m,(rcV L)) } cx):HL VR none cx (.loop c7) (nI l N B m L):=by
 refine F2 [] (L:=[]) (Ae l7 (Ae j9 Aa)) hX U1 G7 (V:=Nat×Bool) (λx=>PZ l N B m L x.1) (λx=>(λk=>k<=m) x.1/\x.2=decide (x.1<m)) (λx=>(λk=>m-k) x.1) (x8 l N B m L) (x0:=(0,decide ((0)<m))) ⟨VX,rfl⟩ ?_ ?_ ?_
 ·rintro x;kernel_rfl
 ·rintro ⟨k,b⟩ y E h;cases b
  ·change BW l N B m L k y=some E at h
   unfold BW at h;split at h
   ·cases h;kernel_rfl
   ·cases h;kernel_rfl
   ·cases h
  ·change wH l N B m L k y=some E at h
   unfold wH at h;split at h
   ·cases h;kernel_rfl
   ·cases h
 ·rintro Q hQ ⟨k,b⟩ ⟨hx,hb⟩
  dsimp only at hx hb
  refine ⟨((k+1),decide ((k+1)<m)),?_⟩;cases b
  ·have hc: ¬(k<m):=Jn2.1 hb.symm;have e:HP VR YP {Y:=some (l,m,(rcV L)) } [] [] c7 (PZ l N B m L k) (PZ l N B m L ((k+1))) (BW l N B m L k)=(let A:=(bsO ((((↑(GL L k):Int)+11+rdL λi=>[AV.x (.int IntKind.u8 (D1 B (GL L k+i)))])+1-1).toNat-((↑(GL L k):Int)+11).toNat) λi=>[AV.x (.int IntKind.u8 (D1 B (((↑(GL L k):Int)+11).toNat+i)))]);let Z:=(need [W6 l,U2 (QL N B),k=m] (leaf G9.ret));(need [VO ((N:Int)-(↑(GL L k):Int))] (branch (decide ((N:Int)-(↑(GL L k):Int)>11)) (need [(0:Int)<=(↑(GL L k):Int)/\(↑(GL L k):Int)<=(N:Int)/\(N:Int)<=(N:Int)] (need [11<=N-GL L k,Qr0 λi=>[AV.x (.int IntKind.u8 (D1 B (GL L k+i)))]] (need [VO ((↑(GL L k):Int)+11)] (need [VO ((↑(GL L k):Int)+11+rdL λi=>[AV.x (.int IntKind.u8 (D1 B (GL L k+i)))])] (need [VO (((↑(GL L k):Int)+11+rdL λi=>[AV.x (.int IntKind.u8 (D1 B (GL L k+i)))])+1)] (branch (!true) Z (branch (decide (((↑(GL L k):Int)+11+rdL λi=>[AV.x (.int IntKind.u8 (D1 B (GL L k+i)))])+1>(N:Int))) Z (need [VO (((↑(GL L k):Int)+11+rdL λi=>[AV.x (.int IntKind.u8 (D1 B (GL L k+i)))])+1-1)] (need [UM (((↑(GL L k):Int)+11+rdL λi=>[AV.x (.int IntKind.u8 (D1 B (GL L k+i)))])+1-1) N] (branch (D1 B (((↑(GL L k):Int)+11+rdL λi=>[AV.x (.int IntKind.u8 (D1 B (GL L k+i)))])+1-1).toNat != 10) Z (need [VO ((↑(GL L k):Int)+11)] (need [VO (((↑(GL L k):Int)+11+rdL λi=>[AV.x (.int IntKind.u8 (D1 B (GL L k+i)))])+1-1)] (need [(0:Int)<=(↑(GL L k):Int)+11/\(↑(GL L k):Int)+11<=((↑(GL L k):Int)+11+rdL λi=>[AV.x (.int IntKind.u8 (D1 B (GL L k+i)))])+1-1/\((↑(GL L k):Int)+11+rdL λi=>[AV.x (.int IntKind.u8 (D1 B (GL L k+i)))])+1-1<=(N:Int)] (need [wL ((((↑(GL L k):Int)+11+rdL λi=>[AV.x (.int IntKind.u8 (D1 B (GL L k+i)))])+1-1).toNat-((↑(GL L k):Int)+11).toNat) λi=>[AV.x (.int IntKind.u8 (D1 B (((↑(GL L k):Int)+11).toNat+i)))]] (need [ByteArray.size A<=1000,(0:Int)<=(k:Int)/\(k:Int)<=100000] (branch (!((rdL λi=>[AV.x (.int IntKind.u8 (D1 B (GL L k+i)))])==(↑(ByteArray.size A):Int)&&((rdC λi=>[AV.x (.int IntKind.u8 (D1 B (GL L k+i)))])==tpK A (k:Int)&&true))) Z (need [l=l,k<m,[Value.string A,Value.int IntKind.i64 (((↑(GL L k):Int)+11+rdL λi=>[AV.x (.int IntKind.u8 (D1 B (GL L k+i)))])+1)]=[Value.string (L k),Value.int IntKind.i64 (↑(GL L (k+1)):Int)]] (VP.may True (need [VO ((k:Int)+1)] (need [W6 l,U2 (QL N B),((↑(GL L k):Int)+11+rdL λi=>[AV.x (.int IntKind.u8 (D1 B (GL L k+i)))])+1=(↑(GL L (k+1)):Int),(k:Int)+1=(↑(k+1):Int),k+1=k+1] (leaf G9.normal))) (need [W6 l,U2 (QL N B),False] (leaf G9.ret)))))))))))))))))))) (need [W6 l,U2 (QL N B),(↑(GL L k):Int)=(↑(GL L m):Int),(k:Int)=(m:Int),k=m] (leaf (G9.exit 0)))))):=VW
   show (HP VR [(61,dE),(58,zG)] {Y:=some (l,m,(rcV L)) } [] [] c7 (PZ l N B m L k) (PZ l N B m L ((k+1))) (BW l N B m L k)).sat _;rw [e]
   dsimp only
   simp only [Qw6,wH,BW,VP.sat,GX] at hQ;obtain rfl:k=m:=VM;have hQ1: ∀E,x8 l N B k L (k,false) (.exit 0)=some E->Q (.exit 0,E):=λE hE=>by cases hE;exact hQ.1 trivial
   have hQ2: ∀E,x8 l N B k L (k,false) .ret=some E->Q (.ret,E):=λE hE=>by cases hE;exact hQ.2.2
   clear hQ e;have h100:=VU.2.2.2.1;have h50:=VU.1;have hle:=VU.2.2.1;rcases VU.2.2.2.2.2 with h11|⟨a,c,g3,g4,g5,g6⟩
   ·simp only [VP.sat,UD,UJ,HB,VO,DP]
    (with_reducible repeat' first|apply Al|intro _)
    all_goals first|exact Ak|omega|rfl|exact hQ1 _ (by assumption)|exact hQ2 _ (by assumption)|(exfalso;omega)|trace_state
   ·have hs:=T6;obtain ⟨r1,r2,r3⟩:=Xv3 (f:=λi=>[AV.x (.int .u8 (D1 B (GL L k+i)))]) g3 g4 (λj hj=>by show [AV.x (.int .u8 (D1 B (GL L k+j)))]=_;rw [g5 j hj];rfl)
    obtain ⟨z,rfl⟩: ∃z:Nat,a=z:=⟨a.toNat,VM⟩;have t1:(((GL L k:Nat):Int)+11+(z:Int)+1-1).toNat=GL L k+11+z:=VM;have t2:(((GL L k:Nat):Int)+11).toNat=GL L k+11:=VM;have t3:GL L k+11+z-(GL L k+11)=z:=VM;have b1:wL z (λi=>[AV.x (.int .u8 (D1 B (GL L k+11+i)))]):=Qh0 (s:=B) (o:=GL L k+11) λj hj=>rfl
    have b2:(bsO z (λi=>[AV.x (.int .u8 (D1 B (GL L k+11+i)))])).size=z:=by
     show (List.toArray _).size=z;simp
    have hno:(N:Int)<(GL L k:Int)+12+z\/tpK (bsO z (λi=>[AV.x (.int .u8 (D1 B (GL L k+11+i)))])) k≠c:=by
     rcases g6 with g6|⟨s,g7,g8,g9⟩
     ·exact .inl g6
     ·have hz:s.size=z:=VM;have s1:bsO z (λi=>[AV.x (.int .u8 (D1 B (GL L k+11+i)))])=s:=bC hz λj hj=>by show [AV.x (.int .u8 (D1 B (GL L k+11+j)))]=_;rw [g8 j VM];rfl
      rw [s1];exact .inr (Ne.symm g9)
    simp only [VP.sat,UD,r1,r2,t1,t2,t3,b2,UJ,HB,VO,DP]
    (with_reducible repeat' first|apply Al|intro _)
    all_goals first|exact Ak|exact r3|exact b1|contradiction|exact hQ1 _ (by assumption)|exact hQ2 _ (by assumption)|omega|rfl|(exfalso;rename_i S;simp at S;done)|(exfalso;omega)|(exfalso;rename_i S;simp at S;rcases hno with h|h<;>first|omega|exact h S.symm)|(exfalso;rename_i S h8;simp at S;rcases hno with h|h<;>first|omega|exact h S.symm)|(exfalso;rename_i S h8 h7;simp at S;rcases hno with h|h<;>first|omega|exact h S.symm)|trace_state
  ·have hc:(k<m):=qC hb.symm;have e:HP VR YP {Y:=some (l,m,(rcV L)) } [] [] c7 (PZ l N B m L k) (PZ l N B m L ((k+1))) (wH l N B m L k)=(let A:=(bsO ((((↑(GL L k):Int)+11+rdL λi=>[AV.x (.int IntKind.u8 (D1 B (GL L k+i)))])+1-1).toNat-((↑(GL L k):Int)+11).toNat) λi=>[AV.x (.int IntKind.u8 (D1 B (((↑(GL L k):Int)+11).toNat+i)))]);let Z:=(need [W6 l,U2 (QL N B),False] (leaf G9.ret));(need [VO ((N:Int)-(↑(GL L k):Int))] (branch (decide ((N:Int)-(↑(GL L k):Int)>11)) (need [(0:Int)<=(↑(GL L k):Int)/\(↑(GL L k):Int)<=(N:Int)/\(N:Int)<=(N:Int)] (need [11<=N-GL L k,Qr0 λi=>[AV.x (.int IntKind.u8 (D1 B (GL L k+i)))]] (need [VO ((↑(GL L k):Int)+11)] (need [VO ((↑(GL L k):Int)+11+rdL λi=>[AV.x (.int IntKind.u8 (D1 B (GL L k+i)))])] (need [VO (((↑(GL L k):Int)+11+rdL λi=>[AV.x (.int IntKind.u8 (D1 B (GL L k+i)))])+1)] (branch (!true) Z (branch (decide (((↑(GL L k):Int)+11+rdL λi=>[AV.x (.int IntKind.u8 (D1 B (GL L k+i)))])+1>(N:Int))) Z (need [VO (((↑(GL L k):Int)+11+rdL λi=>[AV.x (.int IntKind.u8 (D1 B (GL L k+i)))])+1-1)] (need [UM (((↑(GL L k):Int)+11+rdL λi=>[AV.x (.int IntKind.u8 (D1 B (GL L k+i)))])+1-1) N] (branch (D1 B (((↑(GL L k):Int)+11+rdL λi=>[AV.x (.int IntKind.u8 (D1 B (GL L k+i)))])+1-1).toNat != 10) Z (need [VO ((↑(GL L k):Int)+11)] (need [VO (((↑(GL L k):Int)+11+rdL λi=>[AV.x (.int IntKind.u8 (D1 B (GL L k+i)))])+1-1)] (need [(0:Int)<=(↑(GL L k):Int)+11/\(↑(GL L k):Int)+11<=((↑(GL L k):Int)+11+rdL λi=>[AV.x (.int IntKind.u8 (D1 B (GL L k+i)))])+1-1/\((↑(GL L k):Int)+11+rdL λi=>[AV.x (.int IntKind.u8 (D1 B (GL L k+i)))])+1-1<=(N:Int)] (need [wL ((((↑(GL L k):Int)+11+rdL λi=>[AV.x (.int IntKind.u8 (D1 B (GL L k+i)))])+1-1).toNat-((↑(GL L k):Int)+11).toNat) λi=>[AV.x (.int IntKind.u8 (D1 B (((↑(GL L k):Int)+11).toNat+i)))]] (need [ByteArray.size A<=1000,(0:Int)<=(k:Int)/\(k:Int)<=100000] (branch (!((rdL λi=>[AV.x (.int IntKind.u8 (D1 B (GL L k+i)))])==(↑(ByteArray.size A):Int)&&((rdC λi=>[AV.x (.int IntKind.u8 (D1 B (GL L k+i)))])==tpK A (k:Int)&&true))) Z (need [l=l,k<m,[Value.string A,Value.int IntKind.i64 (((↑(GL L k):Int)+11+rdL λi=>[AV.x (.int IntKind.u8 (D1 B (GL L k+i)))])+1)]=[Value.string (L k),Value.int IntKind.i64 (↑(GL L (k+1)):Int)]] (VP.may True (need [VO ((k:Int)+1)] (need [W6 l,U2 (QL N B),((↑(GL L k):Int)+11+rdL λi=>[AV.x (.int IntKind.u8 (D1 B (GL L k+i)))])+1=(↑(GL L (k+1)):Int),(k:Int)+1=(↑(k+1):Int),k+1=k+1] (leaf G9.normal))) (need [W6 l,U2 (QL N B)] (leaf G9.ret)))))))))))))))))))) VP.fail))):=VW
   show (HP VR [(61,dE),(58,zG)] {Y:=some (l,m,(rcV L)) } [] [] c7 (PZ l N B m L k) (PZ l N B m L ((k+1))) (wH l N B m L k)).sat _;rw [e]
   dsimp only
   simp only [Qw6,wH,BW,VP.sat,GX] at hQ;have hQ2: ∀E,x8 l N B m L (k,true) .ret=some E->Q (.ret,E):=λE hE=>by cases hE;exact hQ.2.1 trivial
   clear hQ e;have h100:=VU.2.2.2.1;have h50:=VU.1;obtain ⟨g1,g2,g3,g4,g5,g6,g7⟩:=Je1 VU hc;obtain ⟨r1,r2,r3⟩:=Xv3 (f:=λi=>[AV.x (.int .u8 (D1 B (GL L k+i)))]) (l:=((L k).size:Int)) (c:=tpK (L k) k) VM g4 (λj hj=>by show [AV.x (.int .u8 (D1 B (GL L k+j)))]=_;rw [g5 j hj];rfl)
   have t1:(((GL L k:Nat):Int)+11+((L k).size:Int)+1-1).toNat=GL L k+11+(L k).size:=VM;have t2:(((GL L k:Nat):Int)+11).toNat=GL L k+11:=VM;have t3:GL L k+11+(L k).size-(GL L k+11)=(L k).size:=VM;have s1:bsO (L k).size (λi=>[AV.x (.int .u8 (D1 B (GL L k+11+i)))])=L k:=bC rfl λj hj=>by show [AV.x (.int .u8 (D1 B (GL L k+11+j)))]=_;rw [g6 j hj];rfl
   have b1:wL (L k).size (λi=>[AV.x (.int .u8 (D1 B (GL L k+11+i)))]):=Qh0 (s:=B) (o:=GL L k+11) λj hj=>rfl
   have v1:((GL L k:Nat):Int)+11+((L k).size:Int)+1=((GL L (k+1):Nat):Int):=VM;have v2:[Value.string (L k),Value.int .i64 ((GL L (k+1):Nat):Int)]=rcV L k:=rfl;simp only [VP.sat,UD,r1,r2,t1,t2,t3,s1,g7,UJ,HB,VO,DP]
   (with_reducible repeat' first|apply Al|intro _)
   all_goals first|exact Ak|exact r3|exact b1|exact congrArg (λz=>[Value.string (L k),Value.int .i64 z]) v1|contradiction|exact hQ2 _ (by assumption)|omega|rfl|(exfalso;rename_i S;simp at S;done)|(exfalso;omega)|trace_state
end
theorem s6(N:Nat)(B:ByteArray)(m:Nat)(L:Nat->ByteArray)(VU:Qo3 N B m L):PN Tryz.prog 60 [.ro [.lst 1 N (D2 B)]] m (rcV L):=by
 refine PD (L:=λl=>[nI l N B m L]) (Ae l7 (Ae j9 Aa)) U1 (UK Tryz.func60) Tryz.func60 (UW Tryz.f60) VW (λl cx hX=>UZ (lpE (b:= .loop c7) VW<|Je0 l N B m L VU hX)) (t:=λl=>(need [U2 (AV.fn (Fn.yield l) [] []),U2 (QL N B),(0:Int)=(↑(GL L 0):Int),(0:Int)=(↑(0:Nat):Int),0=0] (VP.may True (need [m=m] (leaf PUnit.unit)) (VP.may True (leaf PUnit.unit) (need [m=m] (leaf PUnit.unit)))))) (λl=>VW) ?_
 intro l;simp only [VP.sat,UD,G8,GO,UG,UJ]
 (with_reducible repeat' first|apply Al|intro _)
 all_goals first|exact Ak|rfl|trivial|trace_state
def Qj1:UY
 |[.lst 1 n f]=>some ([],.fn (.func 60) [] [.ro [.lst 1 n f]])
 |_=>none
theorem Wp8(n:Nat)(f:Nat->List AV):FF VR 32 [.lst 1 n f] (.fn (.func 60) [] [.ro [.lst 1 n f]]):=by
 refine D0 (L:=[]) Aa Ad U1 Tryz.func32 (UW Tryz.f32) G7 (t:=leaf (AV.fn (Fn.func 60) [] [AV.ro [lst 1 n λa=>f a]])) VW ?_
 exact rfl
theorem OO:P5 VR 32 Qj1:=by
 refine ⟨(UK Tryz.func32),?_⟩;intro avs ns res h W;unfold Qj1 at h;split at h
 ·cases h;exact Wp8 _ _
 ·cases h
section
variable (N:Nat)(B:ByteArray)
abbrev JR:AV:=lst 1 N λj=>[AV.x (.int IntKind.u8 (D1 B j))]
abbrev YU:AV:=AV.fn (Fn.func 60) [] [QL N B]
def Jr5(m:Nat)(L:Nat->ByteArray):St:={σ:=[JR N B,top,ptr 0 0,ptr 1 0,top,top,top,YU N B]++HM 12 [],m:=[(902,GS.row 9 1 0 λx=>[]),(1,GS.cells 3 [iI 0]),(0,GS.cells 22 [AV.row 902])],nx:=903}
noncomputable def Jv5:Code:=MX (VV (U9 Tryz.f15) 0)
noncomputable def Js8:Code:=MW (VV (U9 Tryz.f15) 0)
def pQ(m:Nat)(L:Nat->ByteArray)(k:Nat):St:={σ:=H4 [] (Jr5 N B m L).σ,m:=[(902,.row 9 1 k (λz=>[.x (.string (L z))])),(1,.cells 3 [i (GL L k:Nat)]),(0,.cells 22 [.row 902])],nx:=903}
def oW(m:Nat)(L:Nat->ByteArray)(k:Nat):G9->Option St
 | .normal=>some {σ:=H4 [] (Jr5 N B m L).σ,m:=[(902,.row 9 1 m (λz=>[.x (.string (L z))])),(1,.cells 3 [i (GL L m:Nat)]),(0,.cells 22 [.row 902])],nx:=903}
 |_=>none
def T_rv(m:Nat)(L:Nat->ByteArray):CT:= .leaf (.normal,pQ N B m L m)
def Xy9(m:Nat)(L:Nat->ByteArray):UL:=GM [(.cell 0 0,902,9,1)] (HK (pQ N B m L (0)) (T_rv N B m L))
end
abbrev KL(L:Nat->ByteArray):Nat->List AV:=λz=>[FY (L z)]
section
variable (N:Nat)(B:ByteArray)(m:Nat)(L:Nat->ByteArray)
theorem Jc7(VU:Qo3 N B m L):HN VR (.rangeFunc (rfF (VV (U9 Tryz.f15) 0)) (zQ (VV (U9 Tryz.f15) 0)) Jv5 Js8) (Xy9 N B m L):=by
 refine LH [(.cell 0 0,902,9,1)] (L:=[]) Aa (Ai (Af OO Ab) Ac) U1 U6 (V:=Nat) (pQ N B m L) (λk=>k<=m) (λk=>k) (oW N B m L) (x0:=0) VX rfl ?_ ?_ ?_ ?_ (g:=60) (caps:=[.ro [.lst 1 N (D2 B)]]) VW VW (s6 N B m L VU) (λ_=>rfl) ?_
 ·rintro k;kernel_rfl
 ·rintro k y E h;unfold oW at h;split at h
  ·cases h;kernel_rfl
  ·cases h
 ·rintro k;rfl
 ·rintro k y E h;unfold oW at h;split at h
  ·cases h;rfl
  ·cases h
 ·rintro Q hQ k hx;refine ⟨λhlt=>⟨(k+1),rfl,?_⟩,λPI=>?_⟩
  ·(with_reducible refine DL (t:=branch ((k:Int)==50) VP.fail (need [(k+1)*16<=140737488355328,RZ 1 (U8 1 [FY (L k)])] (need [U2 (JR N B),QS,Z4,U2 (YU N B),k+1=k+1,GY (k+1) (GI k ((KL L)) (U8 1 [FY (L k)])) (λi=>[FY (L i)]),U2 (↑(GL L (k+1)):Int),WJ] (leaf G9.normal)))) VW ?_)
   have h50:=VU.1;have h100:=VU.2.2.2.1;have h3:=VU.2.2.1;have h4:=BG L (show k+1<=m from hlt);have hq: ∀j,j<k+1->GI k (λz=>[.x (.string (L z))]) (U8 1 [.x (.string (L k))]) j=[.x (.string (L j))]:=λj hj=>catS hj rfl
   simp only [VP.sat,UD,UJ,HB,VO,DP]
   (with_reducible repeat' first|apply Al|intro _)
   all_goals first|exact Ak|omega|rfl|exact hq _ (by assumption)|exact FS (by assumption) (by simp [AV.one,Value.oneCell'])|(exfalso;rename_i S;simp at S;omega)|trace_state
  ·have hk:k=m:=VM;subst hk;exact hQ
theorem Xm4(VU:Qo3 N B m L):UQ VR 15 [.lst 1 N (D2 B)] (.leaf (.tup [.lst 1 m (λz=>[.x (.string (L z))]),i (GL L m:Nat)])):=by
 refine GV (L:=[Xy9 N B m L]) Aa (Ai (Af OO Ab) Ac) U1 Tryz.func15 (UW Tryz.f15) (UZ (lpE (b:= .rangeFunc (rfF (VV (U9 Tryz.f15) 0)) (zQ (VV (U9 Tryz.f15) 0)) Jv5 Js8) VW<|Jc7 N B m L VU)) (t:=let A:=(leaf (tup [lst 1 m (KL L),iI (↑(GL L m):Int)]));(need [U2 (JR N B),QS,Z4,U2 (YU N B),0=0,∀(i:Nat),i<0->[]=[FY (L i)],(0:Int)=(↑(GL L 0):Int),WJ] (VP.may True A (VP.may True A A)))) VW ?_
 intro Q hQ;have h50:=VU.1;have h100:=VU.2.2.2.1;have h3:=VU.2.2.1;simp only [VP.sat,UD,UJ,VO,DP] at hQ ⊢
 (with_reducible repeat' first|apply Al|intro _)
 all_goals first|exact Ak|omega|rfl|assumption|(rename_i h;exact absurd h (Aq _))|exact ⟨.tup [.lst 1 m (λz=>[.x (.string (L z))]),i (GL L m:Nat)],⟨⟨rfl,rfl,λ_ _=>rfl⟩,⟨rfl,rfl⟩,Ak⟩,hQ⟩|trace_state
end
section
variable (n:Nat)(L:Nat->ByteArray)
def Zs9:St:={σ:=[Q8 n L,Q8 n L]++HM 24 [],m:=[],nx:=7}
noncomputable def Js2:Code:=UC (VV (U9 Tryz.f16) 0)
def Wk5(k:Nat):St:=(upM [(5,i k)] (Zs9 n L))
def CO(k:Nat):G9->Option St
 | .exit 0=>some (upM [(5,i n)] (Zs9 n L))
 |_=>none
def Jn4:CT:= .leaf (.exit 0,(CO n L 0 (.exit 0)).getD (Zs9 n L))
def Xy2:UL:=GM [] (HK (Wk5 n L (0)) (Jn4 n L))
theorem Zz7(VU:n<=100000):GA VR (.loop Js2) (Xy2 n L):=by
 refine G5 [] (L:=[]) Aa Ad U1 U6 (X:=Nat) (Wk5 n L) (λk=>k<=n) (λk=>n-k) (CO n L) (x0:=0) VX ?_ ?_ ?_
 ·rintro k;kernel_rfl
 ·rintro k y E h;unfold CO at h;split at h
  ·cases h;kernel_rfl
  ·cases h
 ·rintro Q hQ k hx;refine ⟨(k+1),?_⟩;(with_reducible refine DL (t:=branch (decide ((k:Int)<(n:Int))) (need [UM k n] (need [UM k n] (branch (!ByteArray.toList (L k)==ByteArray.toList (L k)) VP.fail (need [VO ((k:Int)+1)] (need [U2 (Q8 n L),U2 (Q8 n L),(k:Int)+1=(↑(k+1):Int)] (leaf G9.normal)))))) (need [U2 (Q8 n L),U2 (Q8 n L),(k:Int)=(n:Int)] (leaf (G9.exit 0)))) VW ?_);simp only [Jn4,CO,VP.sat,GX] at hQ;simp only [VP.sat,UD,G8,GO,UG,VO,UJ,HB,RE,RF,L7,GR,CO]
  refine ⟨λh=>?_,λh=>?_⟩
  ·have hk:k<n:=VM
   (with_reducible repeat' first|apply Al|intro _)
   all_goals first|exact PQ|((exfalso;rename_i S;simp at S;done))
  ·obtain rfl:k=n:=VM;exact V3
theorem Qq6(VU:n<=100000):U0 VR 16 [lns n L,lns n L] (bl true):=by
 refine GD (L:=[Xy2 n L]) Aa Ad U1 Tryz.func16 (UW Tryz.f16) (UZ (lpE (b:= .loop Js2) VW<|(Zz7 n L VU).N)) (t:=branch ((n:Int) != (n:Int)) (leaf (RV.x (WO))) (need [U2 (Q8 n L),U2 (Q8 n L),(0:Int)=(↑(0:Nat):Int)] (leaf (RV.x (.bool true))))) VW ?_
 simp only [VP.sat,UD,G8,GO,UG,UJ,VO,DP]
 (with_reducible repeat' first|apply Al|intro _)
 all_goals first|exact Ak|omega|rfl|contradiction|(exfalso;rename_i S;simp at S;done)|trace_state
end
def sF(n:Nat)(f g:Nat->List AV):Prop:= ∀k,k<n->f k=g k
def mQ:UY
 |[.lst 1 n f,.lst 1 n2 g]=>some ([n2=n,n<=100000,sF n f (λk=>[.x (.string (lnF f k))]),sF n g f],bl true)
 |_=>none
section
variable (n:Nat)(L:Nat->ByteArray)
def Xb4:UY:=λl=>some ([l=[lns n L],n<=100000],lns n L)
def Xx8:DK:=λl=>some (.need [l=[lns n L],ckE n L=0] (.leaf (.tup [.lst 1 (GL L n) (D2 (flB L n)),i 0])))
end
theorem OE:VS VR 16 mQ:=by
 refine ⟨(UK Tryz.func16),?_⟩;intro avs ns res h W;unfold mQ at h;split at h
 ·rename_i n f n2 g;cases h;obtain rfl:n2=n:=W _ VX;have h1:n2<=100000:=W (n2<=100000) VX;have h2:sF n2 f (λk=>[.x (.string (lnF f k))]):=W (sF n2 f (λk=>[.x (.string (lnF f k))])) VX
  have h3:sF n2 g f:=W (sF n2 g f) VX;exact (Qq6 n2 (lnF f) h1).same (.cons (.lst 1 n2 _ _ h2) (.cons (.lst 1 n2 _ _ λk hk=>(h3 k hk).trans (h2 k hk)) .nil))
 ·cases h
section
variable (n:Nat)
theorem OF(L:Nat->ByteArray):VS VR 14 (Xb4 n L):=by
 refine ⟨(UK Tryz.func14),?_⟩;intro avs ns res h W;cases h;have e:avs=[lns n L]:=W _ VX;have h0:n<=100000:=W _ VX;subst e;exact Wk0 n L h0
theorem Qx8(L:Nat->ByteArray):Sx.Enters Tryz.prog 13/\ ∀avs t,Xx8 n L avs=some t->UQ VR 13 avs t:=by
 refine ⟨(UK Tryz.func13),?_⟩;intro avs t h;cases h;intro Q hQ;have e:avs=[lns n L]:=hQ.1.1;have h0:ckE n L=0:=hQ.1.2;subst e;have hk:=IW h0;refine OY n L VM Q ⟨λh=>?_,λ_=>hQ.2⟩
 rw [h0] at h;exact absurd h (by decide)
def pkN(d:Int):Nat:=(d.tmod (n:Nat)).toNat
def tQ(L:Nat->ByteArray)(d:Int):DK:=λl=>match l with
 |[.lst 1 N f]=>some (.need [N=GL L (pkN n d)+(GL L n-GL L (pkN n d+1)),sF N f (D2 (IV L n (pkN n d))),ckE n L=0,pkN n d<n] (.leaf (.tup [.lst 1 (pkN n d) (λz=>[.x (.string (L z))]),i (GL L (pkN n d):Nat)])))
 |_=>none
theorem Qc1(L:Nat->ByteArray)(d:Int):Sx.Enters Tryz.prog 15/\ ∀avs t,tQ n L d avs=some t->UQ VR 15 avs t:=by
 refine ⟨(UK Tryz.func15),?_⟩;intro avs t h;unfold tQ at h;split at h
 ·rename_i N f;cases h;intro Q hQ;have h1:N=GL L (pkN n d)+(GL L n-GL L (pkN n d+1)):=hQ.1.1;have h2:sF N f (D2 (IV L n (pkN n d))):=hQ.1.2.1;have h0:ckE n L=0:=hQ.1.2.2.1;have h3:pkN n d<n:=hQ.1.2.2.2;have hk:=IW h0;have h4:=Zq2 hk.1 hk.2 h3;rw [←h1] at h4;intro e w args q1 q2 q3 q4;refine Xm4 N (IV L n (pkN n d)) (pkN n d) L h4 Q hQ.2 e w args q1 q2 ?_ ?_
  ·intro a ha;rw [B6.1 ha];exact .lst _ _ _ λk _ x hx=>by rw [B6.1 hx];exact .x _
  ·obtain ⟨u,us,rfl,r1,r2⟩:=q4.cons_inv;exact .cons (L2 (a:= .lst 1 N f) ⟨rfl,rfl,h2⟩ r1) r2
 ·cases h
end
theorem Wg4{n:Nat}{d:Int}(W:0<n)(h:0<=d):d.tmod (n:Nat)=(pkN n d:Int)/\pkN n d<n:=by
 have h1:d.tmod (n:Nat)=d%(n:Nat):=Int.tmod_eq_emod_of_nonneg h;have h2:=Int.emod_nonneg d (show ((n:Nat):Int)≠0 by omega)
 have h3:=Int.emod_lt_of_pos d (show (0:Int)<(n:Nat) by omega)
 unfold pkN;omega
theorem Xn8{n k:Nat}{L:Nat->ByteArray}(hk:k<n){f:Nat->List AV}(hf: ∀j,f j=D2 (flB L n) j):sF (GL L k+(GL L n-GL L (k+1))) (GI (GL L k) f (λi=>D2 (flB L n) (GL L (k+1)+i))) (D2 (IV L n k)):=by
 intro j hj;show HD (decide (j<GL L k)) (f j) (D2 (flB L n) (GL L (k+1)+(j-GL L k)))=_;rw [hf j];by_cases h:j<GL L k
 ·rw [decide_eq_true h];show D2 (flB L n) j=_;unfold D2;rw [Wu3 L (show k<=n by omega) h]
  unfold IV;rw [FR,if_pos (show j<(flB L k).size from h)]
 ·rw [decide_eq_false h];show D2 (flB L n) (GL L (k+1)+(j-GL L k))=_;unfold D2;have h1:=sO (L:=L) hk (show j-GL L k<GL L n-GL L (k+1) by omega)
  rw [show GL L k+(j-GL L k)=j by omega] at h1
  rw [h1]
abbrev ZB(L:Nat->ByteArray)(n:Nat):AV:=lst 1 (GL L n) λj=>[AV.x (.int IntKind.u8 (D1 (flB L n) j))]
section
variable (n:Nat)(L:Nat->ByteArray)(d:Int)
def Zt8:St:={σ:=[Q8 n L,AV.x (.int IntKind.u8 d),top,top,AV.lit false,ZB L n,iI 0,iI (Int.tmod d (n:Int))]++HM 85 [],m:=[],nx:=25}
noncomputable def Jt3:Code:=UC (VV (U9 Tryz.f6) 0)
def Wl7(q:Nat):St:=(upM [(8,i (GL L q:Nat)),(9,i (q:Nat))] (Zt8 n L d))
def CX(q:Nat):G9->Option St
 | .exit 0=>some (upM [(8,i (GL L (pkN n d):Nat)),(9,i ((pkN n d):Nat))] (Zt8 n L d))
 |_=>none
def Jo8:CT:= .leaf (.exit 0,(CX n L d 0 (.exit 0)).getD (Zt8 n L d))
def Xz7:UL:=GM [] (HK (Wl7 n L d (0)) (Jo8 n L d))
abbrev YQ:Ext:={R:=[],H:=[],C:=[(15,(tQ n L d)),(13,(Xx8 n L))] }
theorem Je5(VU:ckE n L=0)(UI:0<n)(HU:0<=d/\d<=255):GA VR (.loop Jt3) (Xz7 n L d):=by
 refine G5 [] (L:=[]) (Ae (EX n L 50) (Ae cI (Ae OE (Ae (OF n L) Aa)))) (Aj Ab Ac (Ah (Qc1 n L d) (Ah (Qx8 n L) (UE.nil _)))) U1 U6 (X:=Nat) (Wl7 n L d) (λq=>q<=pkN n d) (λq=>pkN n d-q) (CX n L d) (x0:=0) VX ?_ ?_ ?_
 ·rintro q;kernel_rfl
 ·rintro q y E h;unfold CX at h;split at h
  ·cases h;kernel_rfl
  ·cases h
 ·rintro Q hQ q hx;refine ⟨(q+1),?_⟩;(with_reducible refine DL (t:=branch (decide ((q:Int)<Int.tmod d (n:Int))) (need [UM q n] (need [VO ((12:Int)+(↑(ByteArray.size (L q)):Int))] (need [VO ((↑(GL L q):Int)+((12:Int)+(↑(ByteArray.size (L q)):Int)))] (need [VO ((q:Int)+1)] (need [U2 (Q8 n L),d=d,WN,U2 (ZB L n),QY,U2 (Int.tmod d (n:Int)),(↑(GL L q):Int)+((12:Int)+(↑(ByteArray.size (L q)):Int))=(↑(GL L (q+1)):Int),(q:Int)+1=(↑(q+1):Int)] (leaf G9.normal)))))) (need [U2 (Q8 n L),d=d,WN,U2 (ZB L n),QY,U2 (Int.tmod d (n:Int)),(↑(GL L q):Int)=(↑(GL L (pkN n d)):Int),(q:Int)=(↑(pkN n d):Int)] (leaf (G9.exit 0)))) VW ?_);simp only [Jo8,CX,VP.sat,GX] at hQ;simp only [VP.sat,UD,G8,GO,UG,VO,UJ,HB,RE,RF,L7,GR,CX]
  have hk0:=IW VU;obtain ⟨p1,p2⟩:=Wg4 UI HU.1;have hz:GL L n<=n*212:=kU L n hk0.2;have hq1:=BG L (show q<=n by omega)
  have hs1:=qW L q;simp only [p1];refine ⟨λh=>?_,λh=>?_⟩
  ·have hq:q<pkN n d:=VM;have hm:=BG L (show q+1<=n by omega)
   exact V3
  ·obtain rfl:q=pkN n d:=VM;exact V3
theorem Xr5(VU:0<=d/\d<=255):U0 VR 6 [lns n L,.x (.int .u8 d)] (bl true):=by
 refine GD (L:=[FT [ckE n L=0/\0<n] (Xz7 n L d)]) (Ae (EX n L 50) (Ae cI (Ae OE (Ae (OF n L) Aa)))) (Aj Ab Ac (Ah (Qc1 n L d) (Ah (Qx8 n L) (UE.nil _)))) U1 Tryz.func6 (UW Tryz.f6) (UZ (lpE (b:= .loop Jt3) VW<|(D8 (ps:=[ckE n L=0/\0<n]) (λh=>Je5 n L d h.1 h.2 VU)).N)) (t:=let A:=(ByteArray.size (L (Int.tmod d (n:Int)).toNat));let Z:=(leaf (RV.x (.bool true)));(need [U2 ([Q8 n L,iI 50])] (branch (!rdB n L (50:Int)) Z (branch ((n:Int)==0) Z (need [(Y5 n L),n<=100000] (need [(Y5 n L),ckE n L=0] (need [VO d] (need [(n:Int)≠0] (need [ckE n L=0/\0<n] (need [U2 (Q8 n L),d=d,WN,U2 (ZB L n),QY,U2 (Int.tmod d (n:Int)),(0:Int)=(↑(GL L 0):Int),(0:Int)=(↑(0:Nat):Int)] (branch ((0:Int) != 0) (leaf (RV.x (WO))) (need [VO ((↑(GL L (pkN n d)):Int)+12)] (need [UM (Int.tmod d (n:Int)) n] (need [VO ((↑(GL L (pkN n d)):Int)+12+(A:Int))] (branch (decide ((↑(GL L n):Int)<(↑(GL L (pkN n d)):Int)+12+(A:Int))) (leaf (RV.x (WO))) (need [(0:Int)<=0/\(0:Int)<=(↑(GL L (pkN n d)):Int)/\(↑(GL L (pkN n d)):Int)<=(↑(GL L n):Int)] (need [(0+(GL L (pkN n d)-(0:Int).toNat))*1<=140737488355328,∀(i:Nat),i<GL L (pkN n d)-(0:Int).toNat-> ∀(a:AV),a∈[AV.x (.int IntKind.u8 (D1 (flB L n) ((0:Int).toNat+i)))]->AV.one a=true] (need [VO ((↑(GL L (pkN n d)):Int)+12)] (need [UM (Int.tmod d (n:Int)) n] (need [VO ((↑(GL L (pkN n d)):Int)+12+(A:Int))] (need [(0:Int)<=(↑(GL L (pkN n d)):Int)+12+(A:Int)/\(↑(GL L (pkN n d)):Int)+12+(A:Int)<=(↑(GL L n):Int)/\(↑(GL L n):Int)<=(↑(GL L n):Int)] (need [(0+(GL L (pkN n d)-(0:Int).toNat)+(GL L n-((↑(GL L (pkN n d)):Int)+12+(A:Int)).toNat))*1<=140737488355328,∀(i:Nat),i<GL L n-((↑(GL L (pkN n d)):Int)+12+(A:Int)).toNat-> ∀(a:AV),a∈[AV.x (.int IntKind.u8 (D1 (flB L n) (((↑(GL L (pkN n d)):Int)+12+(A:Int)).toNat+i)))]->AV.one a=true] (need [0+(GL L (pkN n d)-(0:Int).toNat)+(GL L n-((↑(GL L (pkN n d)):Int)+12+(A:Int)).toNat)=GL L (pkN n d)+(GL L n-GL L (pkN n d+1)),sF (0+(GL L (pkN n d)-(0:Int).toNat)+(GL L n-((↑(GL L (pkN n d)):Int)+12+(A:Int)).toNat)) (GI (0+(GL L (pkN n d)-(0:Int).toNat)) (GI 0 (λx=>[]) λi=>[AV.x (.int IntKind.u8 (D1 (flB L n) ((0:Int).toNat+i)))]) λi=>[AV.x (.int IntKind.u8 (D1 (flB L n) (((↑(GL L (pkN n d)):Int)+12+(A:Int)).toNat+i)))]) (D2 (IV L n (pkN n d))),ckE n L=0,pkN n d<n] (need [(0:Int)<=0/\(0:Int)<=Int.tmod d (n:Int)/\Int.tmod d (n:Int)<=(n:Int)] (need [(Int.tmod d (n:Int)).toNat-(0:Int).toNat=pkN n d,pkN n d<=100000,sF (pkN n d) ((KL L)) λk=>[AV.x (.string (lnF ((KL L)) k))],sF (pkN n d) (λi=>[AV.x (.string (L ((0:Int).toNat+i)))]) λz=>[FY (L z)]] (branch true (branch ((↑(GL L (pkN n d)):Int)==(↑(GL L (pkN n d)):Int)) Z (leaf (RV.x (WO)))) (leaf (RV.x (WO))))))))))))))))))))))))))))) VW ?_
 simp only [VP.sat,UD,G8,GO,UG,UJ,VO,DP];refine ⟨λ_=>Ak,λh=>⟨λ_=>Ak,λh2=>?_⟩⟩
 have hr:rdB n L 50=true:=by simpa using h
 have W:0<n:=by
  simp at h2;omega
 have h0:ckE n L=0:=(Jd5 hr).1;have hk0:=IW h0;obtain ⟨p1,p2⟩:=Wg4 W VU.1;have hz:GL L n<=n*212:=kU L n hk0.2;have hs1:=qW L (pkN n d);have hsz:=hk0.2 (pkN n d) p2;have hm:=BG L (show pkN n d+1<=n from p2);have t1:(((GL L (pkN n d):Nat):Int)+12+((L (pkN n d)).size:Int)).toNat=GL L (pkN n d+1):=VM;have t2:0+(GL L (pkN n d)-0)=GL L (pkN n d):=VM;have t3:pkN n d-0=pkN n d:=rfl;have hb1:sF (GL L (pkN n d)+(GL L n-GL L (pkN n d+1))) (GI (GL L (pkN n d)) (GI 0 (λx=>[]) (λi=>[AV.x (.int .u8 (D1 (flB L n) (0+i)))])) (λi=>[AV.x (.int .u8 (D1 (flB L n) (GL L (pkN n d+1)+i)))])) (D2 (IV L n (pkN n d))):=Xn8 p2 λj=>(S7 _ _).trans (by rw [Ap];rfl)
 clear h h2;simp only [p1,DP,show (0:Int).toNat=0 from rfl,t1,t2,t3,HB,beq_iff_eq,beq_eq_false_iff_ne,RF]
 (with_reducible repeat' first|apply Al|intro _)
 all_goals first|exact Ak|omega|rfl|contradiction|exact h0|exact hb1|(intro j _;rfl)|(intro j _;rw [Ap];done)|(intro j _;show [FY (L (0+j))]=[FY (L j)];rw [Ap];done)|(rename_i ha;rw [B6.1 ha];rfl)|(exfalso;omega)|trace_state
end
end Go.Proofs.YtlclobclmfhlmaaGreatDoor.Hd
