/- Contracts, put together. Conditions: those of each. -/
import Derived.Test.YtakpdkmhclhlnaaGreatDoorMe
import Derived.Deep.RegionHeld3
import Derived.Shelf.Strings.Builder1
import Derived.Shelf.Strings.Builder2
import Derived.Shelf.Strings.OnBuilder
set_option linter.unusedSimpArgs false
set_option linter.unusedVariables false
set_option maxRecDepth 100000
namespace Go.Proofs.YtakpdkmhclhlnaaGreatDoor.Hd
open Go Go.Shelf Go.Sx Go.RowKit
theorem Qg2{e:G8}{w:World}{v:Value}{u:Value}(h:Rep e w (.x u) v):v=u:=h.x_inv
theorem pI{l c:Int}(hl:0<=l/\l<=1000000000)(hc:0<=c/\c<=1000000000){e:G8}{w:World}(hro: ∀b,e.ro b->b<w.heap.size)(hgl:DQ e w):
  Calls Tryz.prog 104 #[.agg #[.int .i64 l,.int .i64 c]] w λen w'=>en= .returned (.string (tpB l c))/\Below w.heap.size w w':=by
 refine (mC l c hl hc e w [.agg #[.int .i64 l,.int .i64 c]] hro hgl ?_ (.cons (.agg _ _ rfl ?_) (.nil _ _))).mono ?_;intro a ha;rw [BE.1 ha];refine .agg _ λb hb=>?_;simp only [HA,F8,or_false] at hb;rcases hb with rfl|rfl<;>exact .x _;exact (UM.cons (.x _) (.cons (.x _) (.nil _ _))).2;rintro en w' ⟨v,rfl,hb,hr⟩;rw [Qg2 hr];exact ⟨rfl,hb⟩
theorem a7(n U O:Int){e:G8}{w:World}(hro: ∀b,e.ro b->b<w.heap.size)(hgl:DQ e w):
  Calls Tryz.prog 36 #[.int .i64 n,.int .i64 U,.int .i64 O] w λen w'=>en= .returned (.bool (bt U n O))/\Below w.heap.size w w':=by
 refine (M2 n U O e w [.int .i64 n,.int .i64 U,.int .i64 O] hro hgl ?_ (.cons (.x _) (.cons (.x _) (.cons (.x _) (.nil _ _))))).mono ?_;intro a ha;simp only [HA,F8,or_false] at ha;rcases ha with rfl|rfl|rfl<;>exact .x _;rintro en w' ⟨v,rfl,hb,hr⟩;rw [Qg2 hr];exact ⟨rfl,hb⟩
theorem N6{s:ByteArray}{v:Int}(hs:s.size<=100000)(h:Lib.atoiAll s.data.toList= .ok v)(w:World):Calls Tryz.prog 147 #[.string s] w λen w'=>en= .returned (.tuple #[.int .i64 v,.nilIface])/\Below w.heap.size w w':=by
 have hA:=Any.strconv_Atoi_ok dO s U3 v h w
 change Calls Tryz.prog 147 _ _ _ at hA
 refine hA.mono ?_;rintro en A ⟨rfl,hw1⟩;exact ⟨rfl,xH hw1⟩
theorem fE{w:World}{b o n cap:Nat}{s:ByteArray}(hs:s.size=n)(h: ∀j,j<n->w.cell? ⟨b,o+j,none⟩=some (.int .u8 (DZ s j))):
  (convert 87 9 (.slice (some ⟨b,o,none⟩) n cap)).run Tryz.prog w= .ok (.string s) w:=by
 have hk:=run_convert_bytes_back (P:=Tryz.prog) w 87 9 5 ⟨b,o,none⟩ cap s.data.toList UD UD UD (λj hj=>by
  have hj':j<s.data.size:=by simpa using hj
  have h2:=h j (by have:s.data.size=s.size:=rfl;omega)
  rw [F2,h2];unfold DZ;rw [PF,Array.getElem?_eq_getElem hj'];simp)
 have e1:s.data.toList.length=n:=by
  rw [Array.length_toList];exact hs
 rw [e1] at hk;exact hk
def SS(w0:World)(H b o cap:Nat)(l c:Int)(w':World):Prop:=
 w'.cell? ⟨H,0,none⟩=some (.int .i64 l)/\w'.cell? ⟨H,1,none⟩=some (.int .i64 c)/\w'.frozen? ⟨H,0,none⟩=false/\w'.frozen? ⟨H,1,none⟩=false/\(convert 87 9 (.slice (some ⟨b,o,none⟩) 11 cap)).run Tryz.prog w'= .ok (.string (tpB l c)) w'/\
  w'.heap[H]? =some (Obj.cells #[.int .i64 l,.int .i64 c] 208)/\Below w0.heap.size w0 w'
theorem iE{w0 w':World}{H b o cap:Nat}{l c:Int}(hb:b<w0.heap.size)(BJ: ∀j,j<11->w0.cell? ⟨b,o+j,none⟩=some (.int .u8 (DZ (tpB l c) j)))
  (I:w'.heap[H]? =some (Obj.cells #[.int .i64 l,.int .i64 c] 208))(hB:Below w0.heap.size w0 w'):SS w0 H b o cap l c w':=by
 refine ⟨by simp only [World.cell?,I];rfl,by simp only [World.cell?,I];rfl,by simp only [World.frozen?,I];rfl,by simp only [World.frozen?,I];rfl,fE (wD l c) λj hj=>?_,I,hB⟩
 rw [←BJ j hj];exact hB.cell (p:=⟨b,o+j,none⟩) hb
theorem Xl6{w0 w':World}{H:Nat}{x:Obj}(I:w'.heap[H]? =some x):H<w'.heap.size:=by
 rcases An H w'.heap.size with h|h;exact h;rw [Array.getElem?_eq_none h] at I;cases I
theorem aC{w0 w' w5:World}{H:Nat}{l c:Int}(I:w'.heap[H]? =some (Obj.cells #[.int .i64 l,.int .i64 c] 208))(hB:Below w0.heap.size w0 w')(h5:Below w'.heap.size w' w5):
  w5.heap[H]? =some (Obj.cells #[.int .i64 l,.int .i64 c] 208)/\Below w0.heap.size w0 w5:=⟨(h5.block _ (Xl6 (w0:=w0) I)).trans I,hB.trans (h5.mono hB.size)⟩
theorem pK{w0 w':World}{H:Nat}{l c x y:Int}(h0:w0.heap.size<=H)(I:w'.heap[H]? =some (Obj.cells #[.int .i64 x,.int .i64 y] 208))(hB:Below w0.heap.size w0 w'):
  ((w'.setCell ⟨H,0,none⟩ (.int .i64 l)).setCell ⟨H,1,none⟩ (.int .i64 c)).heap[H]? =some (Obj.cells #[.int .i64 l,.int .i64 c] 208)/\Below w0.heap.size w0 ((w'.setCell ⟨H,0,none⟩ (.int .i64 l)).setCell ⟨H,1,none⟩ (.int .i64 c)):=by
 have e0:(w'.setCell ⟨H,0,none⟩ (.int .i64 l)).heap[H]? =some (Obj.cells #[.int .i64 l,.int .i64 y] 208):=(heap_setCell_same w' H 0 _ _ (.int .i64 l) I).trans rfl;exact ⟨(heap_setCell_same _ H 1 _ _ (.int .i64 c) e0).trans rfl,(hB.setCell h0 _).setCell h0 _⟩
set_option maxHeartbeats 4000000 in
theorem pY{n cap b o:Nat}{l c:Int}(h11:11<=n)(Jp7:n<=cap)(hl:0<=l/\l<=200)(hc:0<=c/\c<=99970){e:G8}{w:World}(hro: ∀b,e.ro b->b<w.heap.size)(hgl:DQ e w)(hb:b<w.heap.size)
  (BJ: ∀j,j<11->w.cell? ⟨b,o+j,none⟩=some (.int .u8 (DZ (tpB l c) j))):
  Calls Tryz.prog 108 #[.slice (some ⟨b,o,none⟩) n cap] w λen w'=>en= .returned (.tuple #[.agg #[.int .i64 l,.int .i64 c],.bool true])/\Below w.heap.size w w':=by
 have keep: ∀{A:World},Below w.heap.size w A-> ∀j,j<11->A.cell? ⟨b,o+j,none⟩=some (.int .u8 (DZ (tpB l c) j)):=by
  intro A h1 j hj;rw [←BJ j hj];unfold World.cell?;rw [h1.block b hb]
 have cv3: ∀{A:World} (k:Nat),Below w.heap.size w A->(convert 87 9 (.slice (some ⟨b,o+1,none⟩) 3 k)).run Tryz.prog A= .ok (.string (dg3 l)) A:=λk h1=>fE rfl λj hj=>by
  rw [Ba,keep h1 _ U3,Ql6 l c hj]
 have cv5: ∀{A:World} (k:Nat),Below w.heap.size w A->(convert 87 9 (.slice (some ⟨b,o+5,none⟩) 5 k)).run Tryz.prog A= .ok (.string (dg5 c)) A:=λk h1=>fE rfl λj hj=>by
  rw [Ba,keep h1 _ U3,Ql5 l c hj]
 have cv11: ∀{A:World} (k:Nat),Below w.heap.size w A->(convert 87 9 (.slice (some ⟨b,o,none⟩) 11 k)).run Tryz.prog A= .ok (.string (tpB l c)) A:=λk h1=>fE (wD l c) λj hj=>keep h1 j hj;have i1:(0:Int)<=(n:Int):=U3;have i2:(4:Int)<=(n:Int):=U3;have i3:(10:Int)<=(n:Int):=U3;have i4:(11:Int)<=(n:Int):=U3;have i5:(n:Int)<=(cap:Int):=U3;have i6:(4:Int)<=(cap:Int):=U3;have i7:(10:Int)<=(cap:Int):=U3;have i8:(11:Int)<=(cap:Int):=U3;have hB1:Below w.heap.size w (w.alloc (Obj.cells #[.int .i64 0,.int .i64 0] 208)):=(Below.refl _ _).alloc (Am _) _;have e1:=cv3 (cap-1) hB1;have hbt:bt 0 l 200=true:=(Bo.bt_iff _ _ _).2 U3;have hcn:decide (c<0)=false:=decide_eq_false U3;have a3:=nS (n:=l) U3;have a5:=nR (n:=c) U3;have z3:(dg3 l).size<=100000:=by show 3<=100000;decide
 have z5:(dg5 c).size<=100000:=by show 5<=100000;decide
 go_enter Tryz.func108,Tryz.ntmps108
 go_wp2_with (go_at_call 147;refine (N6 z3 a3 _).mono ?_;rintro en A ⟨rfl,hw1⟩)
 have hB2:Below w.heap.size w A:=hB1.trans (hw1.mono hB1.size);have Jn9:w.heap.size<(w.alloc (Obj.cells #[.int .i64 0,.int .i64 0] 208)).heap.size:=UE;have gB:w.heap.size<A.heap.size:=qY Jn9 hw1.size;have hH1:A.heap[w.heap.size]? =some (Obj.cells #[.int .i64 0,.int .i64 0] 208):=(hw1.block _ Jn9).trans (heap_alloc_new w _);rw [cv5 (cap-5) hB2]
 go_wp2_with (go_at_call 147;refine (N6 z5 a5 _).mono ?_;rintro en w2 ⟨rfl,hw2⟩;have hH2:w2.heap[w.heap.size]? =some (Obj.cells #[.int .i64 0,.int .i64 0] 208):=(hw2.block _ gB).trans hH1)
 have hsz3:w.heap.size<w2.heap.size:=qY gB hw2.size;have hB3:Below w.heap.size w w2:=hB2.trans (hw2.mono hB2.size);have hro2: ∀b,e.ro b->b<w2.heap.size:=λb h=>qY (hro b h) hB3.size;refine (a7 l 0 200 hro2 (wM hgl hB3)).mono ?_;rintro en w3 ⟨rfl,hw3⟩;have hH3:w3.heap[w.heap.size]? =some (Obj.cells #[.int .i64 0,.int .i64 0] 208):=(hw3.block _ hsz3).trans hH2;have hc0:w3.cell? ⟨w.heap.size,0,none⟩=some (.int .i64 0):=by simp only [World.cell?,hH3];rfl
 have hc1:w3.cell? ⟨w.heap.size,1,none⟩=some (.int .i64 0):=by simp only [World.cell?,hH3];rfl
 have hf0:w3.frozen? ⟨w.heap.size,0,none⟩=false:=by simp only [World.frozen?,hH3];rfl
 have hf1:w3.frozen? ⟨w.heap.size,1,none⟩=false:=by simp only [World.frozen?,hH3];rfl
 have hB4:Below w.heap.size w w3:=hB3.trans (hw3.mono hB3.size);rw [hbt]
 go_wp2
 obtain ⟨hH5,hB5⟩:=pK (l:=l) (c:=c) (Am _) hH3 hB4;generalize (w3.setCell ⟨w.heap.size,0,none⟩ (.int .i64 l)).setCell ⟨w.heap.size,1,none⟩ (.int .i64 c)=w5 at hH5 hB5 ⊢;have hss:SS w w.heap.size b o cap l c w5:=iE hb BJ hH5 hB5;have hro': ∀{w':World},Below w.heap.size w w'-> ∀b,e.ro b->b<w'.heap.size:=λhB b h=>qY (hro b h) hB.size;have hH6:w5.drew.heap[w.heap.size]? =some (Obj.cells #[.int .i64 l,.int .i64 c] 208):=hH5;have hB6:Below w.heap.size w w5.drew:=hB5.drew;clear hc0 hc1 hf0 hf1 keep cv3 cv5 cv11
 go_region_held3 (λw'=>w'.cell? ⟨w.heap.size,0,none⟩=some (.int .i64 l)/\w'.cell? ⟨w.heap.size,1,none⟩=some (.int .i64 c)/\w'.frozen? ⟨w.heap.size,0,none⟩=false/\w'.frozen? ⟨w.heap.size,1,none⟩=false/\(convert 87 9 (.slice (some ⟨b,o,none⟩) 11 cap)).run Tryz.prog w'= .ok (.string (tpB l c)) w'/\w'.heap[w.heap.size]? =some (Obj.cells #[.int .i64 l,.int .i64 c] 208)/\Below w.heap.size w w')
  (first|exact hss|exact iE hb BJ (by assumption) (Below.drew (by assumption))|exact (λh=>iE hb BJ h.1 h.2) (aC (by assumption) (by assumption) (by assumption))|exact (λh=>iE hb BJ h.1 h.2) ((λg=>pK (Am _) g.1 g.2) (aC hH6 hB6 (by assumption))))
  (first|(go_at_call 104;refine (pI (e:=e) U3 U3 (hro' (by assumption)) (wM hgl (by assumption))).mono ?_;rintro en w6 ⟨rfl,hw6⟩))
 obtain ⟨hH7,hB7⟩:=(λg=>pK (l:=l) (c:=c) (Am _) g.1 g.2) (aC hH6 hB6 hw6);generalize (w6.setCell ⟨w.heap.size,0,none⟩ (.int .i64 l)).setCell ⟨w.heap.size,1,none⟩ (.int .i64 c)=w7 at hH7 hB7 ⊢;obtain ⟨c70,c71,_⟩:=iE (cap:=cap) hb BJ hH7 hB7
 go_wp2
 refine bodyPost_ret (v:= .tuple #[.agg #[.int .i64 l,.int .i64 c],.bool true]) ?_ rfl ⟨rfl,hB7⟩;simp [results,Tryz.results108,c70,c71,go_sem]
theorem Wu2(n:Nat)(f:Ci)(h11:11<=n)(hT:Qv3 f):UH U8 108 [.lst 1 n f] (.tup [.agg [.x (.int .i64 (rdL f)),.x (.int .i64 (rdC f))],.x (.bool true)]):=by
 intro e w args hro hgl _ hr;obtain ⟨v,vs,rfl,r1,r2⟩:=hr.cons_inv;cases r2.nil_inv;obtain ⟨hl,hc,hf⟩:=hT;cases r1 with
 |lstNil=>omega
 |lst _ _ _ b o cap g h2 h3 h4 h5 h6 h7 h8 h9 ad had=>
  obtain rfl:=had U3;refine (pY h11 h5 hl hc hro hgl (h3 U3) ?_).mono ?_;intro j hj;have h10:=h7 j 0 U3 U3;have h11:=h9 j 0 (.x (.int .u8 (DZ (tpB (rdL f) (rdC f)) j))) U3 (by rw [hf j hj];rfl)
  rw [h11.x_inv] at h10;rw [←h10]
  congr 2
  omega;rintro en w' ⟨rfl,hB⟩;exact ⟨_,rfl,hB,Rep.tupL (.cons (.agg _ [.int .i64 (rdL f),.int .i64 (rdC f)] rfl (UM.cons (.x _) (.cons (.x _) (.nil _ _))).2) (.cons (.x _) (.nil _ _)))⟩
def fJ:GM
 |[.lst 1 n f]=>some ([11<=n,Qv3 f],.tup [.agg [.x (.int .i64 (rdL f)),.x (.int .i64 (rdC f))],.x (.bool true)])
 |_=>none
theorem mG:UA U8 108 fJ:=by
 refine ⟨(UZ Tryz.func108),?_⟩;intro avs ns res h hn;unfold fJ at h;split at h;cases h;exact Wu2 _ _ (hn _ UE) (hn _ UE);cases h
open Go Go.Sx Go.RowKit Bo
open Go.Sx.U6 (need branch leaf)
open Go.Sx.AV (lst ptr agg roI tup top)
def rcV(L:Cf)(q:Nat):List Value:=[.string (L q),.int .i64 (HM L (q+1):Nat)]
abbrev QI(N:Nat)(B:ByteArray):AV:=lst 1 N λj=>[AV.x (.int IntKind.u8 (DZ B j))]
section
variable (l:Nat)(N:Nat)(B:ByteArray)
def NS(m:Nat)(L:Cf):St:={σ:=[AV.fn (Fn.yield l) [] [],AV.ro [QI N B]]++D6 63 [],m:=[],nx:=2,gh:=some 0}
noncomputable def eI:Code:=UT (UC (UP Tryz.f107) 0)
def BP(m:Nat)(L:Cf)(k:Nat):St:={σ:=HI [(3,i (HM L k:Nat)),(4,i (k:Nat)),(5,.top),(6,.top),(7,.top),(8,.top)] (NS l N B m L).σ,m:=[],nx:=0,gh:=some (k) }
def wZ(m:Nat)(L:Cf)(k:Nat):GR->Option St
 | .ret=>some {σ:=HI [(3,.top),(4,.top),(5,.top),(6,.top),(7,.top),(8,.top)] (NS l N B m L).σ,m:=[],nx:=0,gh:=none}
 |_=>none
def qS(m:Nat)(L:Cf)(k:Nat):GR->Option St
 | .exit 0=>some {σ:=HI [(3,i (HM L m:Nat)),(4,i (m:Nat)),(5,.top),(6,.top),(7,.top),(8,.top)] (NS l N B m L).σ,m:=[],nx:=0,gh:=some m}
 | .ret=>some {σ:=HI [(3,.top),(4,.top),(5,.top),(6,.top),(7,.top),(8,.top)] (NS l N B m L).σ,m:=[],nx:=0,gh:=some m}
 |_=>none
def xQ(m:Nat)(L:Cf)(x:Nat×Bool):GR->Option St:=match x.2 with
 |true=>wZ l N B m L x.1
 |false=>qS l N B m L x.1
def Wa8(m:Nat)(L:Cf):CT:= .may True (.leaf (.exit 0,(qS l N B m L 0 (.exit 0)).getD (NS l N B m L))) (.may True (.leaf (.ret,(wZ l N B m L 0 .ret).getD (NS l N B m L))) (.leaf (.ret,(qS l N B m L 0 .ret).getD (NS l N B m L))))
def oT(m:Nat)(L:Cf):G5:=H4 [] (D1 (BP l N B m L (0)) (Wa8 l N B m L))
end
abbrev ZR(N:Nat)(B:ByteArray):Prop:=AV.ro [QI N B]=AV.ro [QI N B]
abbrev V1:List (Nat×GM):=[(108,fJ),(103,zZ)]
theorem Jk4(l:Nat)(N:Nat)(B:ByteArray)(m:Nat)(L:Cf)(UB:EM N B m L){cx:Cx}(hX:UG U8 {Y:=some (l,m,(rcV L)) } cx):D7 U8 none cx (.loop eI) (oT l N B m L):=by
 refine FQ [] (L:=[]) (Ae mG (Ae jQ Aa)) hX UI GN (V:=Nat×Bool) (λx=>BP l N B m L x.1) (λx=>(λk=>k<=m) x.1/\x.2=decide (x.1<m)) (λx=>(λk=>m-k) x.1) (xQ l N B m L) (x0:=(0,decide ((0)<m))) ⟨UE,rfl⟩ ?_ ?_ ?_;rintro x;kernel_rfl;rintro ⟨k,b⟩ y E h;cases b
 change qS l N B m L k y=some E at h
 unfold qS at h;split at h;cases h;kernel_rfl;cases h;kernel_rfl;cases h
 change wZ l N B m L k y=some E at h
 unfold wZ at h;split at h;cases h;kernel_rfl;cases h;rintro Q hQ ⟨k,b⟩ ⟨hx,hb⟩
 dsimp only at hx hb
 refine ⟨((k+1),decide ((k+1)<m)),?_⟩;cases b;have hc: ¬(k<m):=Jt6.1 hb.symm;have e:DA U8 V1 {Y:=some (l,m,(rcV L)) } [] [] eI (BP l N B m L k) (BP l N B m L ((k+1))) (qS l N B m L k)=(let W:=(bsO ((((HM L k:Int)+11+rdL λi=>[AV.x (.int IntKind.u8 (DZ B (HM L k+i)))])+1-1).toNat-((HM L k:Int)+11).toNat) λi=>[AV.x (.int IntKind.u8 (DZ B (((HM L k:Int)+11).toNat+i)))]);let S:=(need [W8 l,ZR N B,k=m] (leaf GR.ret));(need [U5 ((N:Int)-(HM L k:Int))] (branch (decide ((N:Int)-(HM L k:Int)>11)) (need [(0:Int)<=(HM L k:Int)/\(HM L k:Int)<=(N:Int)/\(N:Int)<=(N:Int)] (need [11<=N-HM L k,Qv3 λi=>[AV.x (.int IntKind.u8 (DZ B (HM L k+i)))]] (need [U5 ((HM L k:Int)+11)] (need [U5 ((HM L k:Int)+11+rdL λi=>[AV.x (.int IntKind.u8 (DZ B (HM L k+i)))])] (need [U5 (((HM L k:Int)+11+rdL λi=>[AV.x (.int IntKind.u8 (DZ B (HM L k+i)))])+1)] (branch (!true) S (branch (decide (((HM L k:Int)+11+rdL λi=>[AV.x (.int IntKind.u8 (DZ B (HM L k+i)))])+1>(N:Int))) S (need [U5 (((HM L k:Int)+11+rdL λi=>[AV.x (.int IntKind.u8 (DZ B (HM L k+i)))])+1-1)] (need [G7 (((HM L k:Int)+11+rdL λi=>[AV.x (.int IntKind.u8 (DZ B (HM L k+i)))])+1-1) N] (branch (DZ B (((HM L k:Int)+11+rdL λi=>[AV.x (.int IntKind.u8 (DZ B (HM L k+i)))])+1-1).toNat != 10) S (need [U5 ((HM L k:Int)+11)] (need [U5 (((HM L k:Int)+11+rdL λi=>[AV.x (.int IntKind.u8 (DZ B (HM L k+i)))])+1-1)] (need [(0:Int)<=(HM L k:Int)+11/\(HM L k:Int)+11<=((HM L k:Int)+11+rdL λi=>[AV.x (.int IntKind.u8 (DZ B (HM L k+i)))])+1-1/\((HM L k:Int)+11+rdL λi=>[AV.x (.int IntKind.u8 (DZ B (HM L k+i)))])+1-1<=(N:Int)] (need [B7 ((((HM L k:Int)+11+rdL λi=>[AV.x (.int IntKind.u8 (DZ B (HM L k+i)))])+1-1).toNat-((HM L k:Int)+11).toNat) λi=>[AV.x (.int IntKind.u8 (DZ B (((HM L k:Int)+11).toNat+i)))]] (need [ByteArray.size W<=1000,(0:Int)<=(k:Int)/\(k:Int)<=100000] (branch (!((rdL λi=>[AV.x (.int IntKind.u8 (DZ B (HM L k+i)))])==(ByteArray.size W:Int)&&((rdC λi=>[AV.x (.int IntKind.u8 (DZ B (HM L k+i)))])==tpK W (k:Int)&&true))) S (need [l=l,k<m,[Value.string W,Value.int IntKind.i64 (((HM L k:Int)+11+rdL λi=>[AV.x (.int IntKind.u8 (DZ B (HM L k+i)))])+1)]=[Value.string (L k),Value.int IntKind.i64 (↑(HM L (k+1)):Int)]] (U6.may True (need [U5 ((k:Int)+1)] (need [W8 l,ZR N B,((HM L k:Int)+11+rdL λi=>[AV.x (.int IntKind.u8 (DZ B (HM L k+i)))])+1=(↑(HM L (k+1)):Int),(k:Int)+1=(↑(k+1):Int),k+1=k+1] (leaf GR.normal))) (need [W8 l,ZR N B,False] (leaf GR.ret)))))))))))))))))))) (need [W8 l,ZR N B,(HM L k:Int)=(HM L m:Int),(k:Int)=(m:Int),k=m] (leaf (GR.exit 0)))))):=UD;show (DA U8 [(108,fJ),(103,zZ)] {Y:=some (l,m,(rcV L)) } [] [] eI (BP l N B m L k) (BP l N B m L ((k+1))) (qS l N B m L k)).sat _;rw [e]
 dsimp only
 simp only [Wa8,wZ,qS,U6.sat,HF] at hQ;obtain rfl:k=m:=U3;have hQ1: ∀E,xQ l N B k L (k,false) (.exit 0)=some E->Q (.exit 0,E):=λE hE=>by cases hE;exact hQ.1 trivial
 have hQ2: ∀E,xQ l N B k L (k,false) .ret=some E->Q (.ret,E):=λE hE=>by cases hE;exact hQ.2.2
 clear hQ e;have h100:=UB.2.2.2.1;have h50:=UB.1;have hle:=UB.2.2.1;rcases UB.2.2.2.2.2 with h11|⟨a,c,g3,g4,g5,g6⟩
 ·simp only [U6.sat,UU,G4,HU,U5,FA]
  (with_reducible repeat' first|apply Al|intro _)
  all_goals first|exact Ak|omega|rfl|exact hQ1 _ (by assumption)|exact hQ2 _ (by assumption)|(exfalso;omega)|trace_state
 ·have hs:=a9;obtain ⟨r1,r2,r3⟩:=Za5 (f:=λi=>[AV.x (.int .u8 (DZ B (HM L k+i)))]) g3 g4 (λj hj=>by show [AV.x (.int .u8 (DZ B (HM L k+j)))]=_;rw [g5 j hj];rfl)
  obtain ⟨z,rfl⟩: ∃z:Nat,a=z:=⟨a.toNat,U3⟩;have t1:(((HM L k:Nat):Int)+11+(z:Int)+1-1).toNat=HM L k+11+z:=U3;have t2:(((HM L k:Nat):Int)+11).toNat=HM L k+11:=U3;have t3:HM L k+11+z-(HM L k+11)=z:=U3;have b1:B7 z (λi=>[AV.x (.int .u8 (DZ B (HM L k+11+i)))]):=Ql7 (s:=B) (o:=HM L k+11) λj hj=>rfl;have b2:(bsO z (λi=>[AV.x (.int .u8 (DZ B (HM L k+11+i)))])).size=z:=by
   show (List.toArray _).size=z;simp
  have hno:(N:Int)<(HM L k:Int)+12+z\/tpK (bsO z (λi=>[AV.x (.int .u8 (DZ B (HM L k+11+i)))])) k≠c:=by
   rcases g6 with g6|⟨s,g7,g8,g9⟩;exact .inl g6;have hz:s.size=z:=U3;have s1:bsO z (λi=>[AV.x (.int .u8 (DZ B (HM L k+11+i)))])=s:=cI hz λj hj=>by show [AV.x (.int .u8 (DZ B (HM L k+11+j)))]=_;rw [g8 j U3];rfl
   rw [s1];exact .inr (Ne.symm g9)
  simp only [U6.sat,UU,r1,r2,t1,t2,t3,b2,G4,HU,U5,FA]
  (with_reducible repeat' first|apply Al|intro _)
  all_goals first|exact Ak|exact r3|exact b1|contradiction|exact hQ1 _ (by assumption)|exact hQ2 _ (by assumption)|omega|rfl|(exfalso;rename_i h9;simp at h9;done)|(exfalso;omega)|(exfalso;rename_i h9;simp at h9;rcases hno with h|h<;>first|omega|exact h h9.symm)|(exfalso;rename_i h9 h8;simp at h9;rcases hno with h|h<;>first|omega|exact h h9.symm)|(exfalso;rename_i h9 h8 h7;simp at h9;rcases hno with h|h<;>first|omega|exact h h9.symm)|trace_state
 ·have hc:(k<m):=BI hb.symm;have e:DA U8 V1 {Y:=some (l,m,(rcV L)) } [] [] eI (BP l N B m L k) (BP l N B m L ((k+1))) (wZ l N B m L k)=(let W:=(bsO ((((HM L k:Int)+11+rdL λi=>[AV.x (.int IntKind.u8 (DZ B (HM L k+i)))])+1-1).toNat-((HM L k:Int)+11).toNat) λi=>[AV.x (.int IntKind.u8 (DZ B (((HM L k:Int)+11).toNat+i)))]);let S:=(need [W8 l,ZR N B,False] (leaf GR.ret));(need [U5 ((N:Int)-(HM L k:Int))] (branch (decide ((N:Int)-(HM L k:Int)>11)) (need [(0:Int)<=(HM L k:Int)/\(HM L k:Int)<=(N:Int)/\(N:Int)<=(N:Int)] (need [11<=N-HM L k,Qv3 λi=>[AV.x (.int IntKind.u8 (DZ B (HM L k+i)))]] (need [U5 ((HM L k:Int)+11)] (need [U5 ((HM L k:Int)+11+rdL λi=>[AV.x (.int IntKind.u8 (DZ B (HM L k+i)))])] (need [U5 (((HM L k:Int)+11+rdL λi=>[AV.x (.int IntKind.u8 (DZ B (HM L k+i)))])+1)] (branch (!true) S (branch (decide (((HM L k:Int)+11+rdL λi=>[AV.x (.int IntKind.u8 (DZ B (HM L k+i)))])+1>(N:Int))) S (need [U5 (((HM L k:Int)+11+rdL λi=>[AV.x (.int IntKind.u8 (DZ B (HM L k+i)))])+1-1)] (need [G7 (((HM L k:Int)+11+rdL λi=>[AV.x (.int IntKind.u8 (DZ B (HM L k+i)))])+1-1) N] (branch (DZ B (((HM L k:Int)+11+rdL λi=>[AV.x (.int IntKind.u8 (DZ B (HM L k+i)))])+1-1).toNat != 10) S (need [U5 ((HM L k:Int)+11)] (need [U5 (((HM L k:Int)+11+rdL λi=>[AV.x (.int IntKind.u8 (DZ B (HM L k+i)))])+1-1)] (need [(0:Int)<=(HM L k:Int)+11/\(HM L k:Int)+11<=((HM L k:Int)+11+rdL λi=>[AV.x (.int IntKind.u8 (DZ B (HM L k+i)))])+1-1/\((HM L k:Int)+11+rdL λi=>[AV.x (.int IntKind.u8 (DZ B (HM L k+i)))])+1-1<=(N:Int)] (need [B7 ((((HM L k:Int)+11+rdL λi=>[AV.x (.int IntKind.u8 (DZ B (HM L k+i)))])+1-1).toNat-((HM L k:Int)+11).toNat) λi=>[AV.x (.int IntKind.u8 (DZ B (((HM L k:Int)+11).toNat+i)))]] (need [ByteArray.size W<=1000,(0:Int)<=(k:Int)/\(k:Int)<=100000] (branch (!((rdL λi=>[AV.x (.int IntKind.u8 (DZ B (HM L k+i)))])==(ByteArray.size W:Int)&&((rdC λi=>[AV.x (.int IntKind.u8 (DZ B (HM L k+i)))])==tpK W (k:Int)&&true))) S (need [l=l,k<m,[Value.string W,Value.int IntKind.i64 (((HM L k:Int)+11+rdL λi=>[AV.x (.int IntKind.u8 (DZ B (HM L k+i)))])+1)]=[Value.string (L k),Value.int IntKind.i64 (↑(HM L (k+1)):Int)]] (U6.may True (need [U5 ((k:Int)+1)] (need [W8 l,ZR N B,((HM L k:Int)+11+rdL λi=>[AV.x (.int IntKind.u8 (DZ B (HM L k+i)))])+1=(↑(HM L (k+1)):Int),(k:Int)+1=(↑(k+1):Int),k+1=k+1] (leaf GR.normal))) (need [W8 l,ZR N B] (leaf GR.ret)))))))))))))))))))) U6.fail))):=UD;show (DA U8 [(108,fJ),(103,zZ)] {Y:=some (l,m,(rcV L)) } [] [] eI (BP l N B m L k) (BP l N B m L ((k+1))) (wZ l N B m L k)).sat _;rw [e]
  dsimp only
  simp only [Wa8,wZ,qS,U6.sat,HF] at hQ;have hQ2: ∀E,xQ l N B m L (k,true) .ret=some E->Q (.ret,E):=λE hE=>by cases hE;exact hQ.2.1 trivial
  clear hQ e;have h100:=UB.2.2.2.1;have h50:=UB.1;obtain ⟨g1,g2,g3,g4,g5,g6,g7⟩:=Jk5 UB hc;obtain ⟨r1,r2,r3⟩:=Za5 (f:=λi=>[AV.x (.int .u8 (DZ B (HM L k+i)))]) (l:=((L k).size:Int)) (c:=tpK (L k) k) U3 g4 (λj hj=>by show [AV.x (.int .u8 (DZ B (HM L k+j)))]=_;rw [g5 j hj];rfl)
  have t1:(((HM L k:Nat):Int)+11+((L k).size:Int)+1-1).toNat=HM L k+11+(L k).size:=U3;have t2:(((HM L k:Nat):Int)+11).toNat=HM L k+11:=U3;have t3:HM L k+11+(L k).size-(HM L k+11)=(L k).size:=U3;have s1:bsO (L k).size (λi=>[AV.x (.int .u8 (DZ B (HM L k+11+i)))])=L k:=cI rfl λj hj=>by show [AV.x (.int .u8 (DZ B (HM L k+11+j)))]=_;rw [g6 j hj];rfl
  have b1:B7 (L k).size (λi=>[AV.x (.int .u8 (DZ B (HM L k+11+i)))]):=Ql7 (s:=B) (o:=HM L k+11) λj hj=>rfl;have v1:((HM L k:Nat):Int)+11+((L k).size:Int)+1=((HM L (k+1):Nat):Int):=U3;have v2:[Value.string (L k),Value.int .i64 ((HM L (k+1):Nat):Int)]=rcV L k:=rfl;simp only [U6.sat,UU,r1,r2,t1,t2,t3,s1,g7,G4,HU,U5,FA]
  (with_reducible repeat' first|apply Al|intro _)
  all_goals first|exact Ak|exact r3|exact b1|exact congrArg (λz=>[Value.string (L k),Value.int .i64 z]) v1|contradiction|exact hQ2 _ (by assumption)|omega|rfl|(exfalso;rename_i h9;simp at h9;done)|(exfalso;omega)|trace_state
theorem MA(N:Nat)(B:ByteArray)(m:Nat)(L:Cf)(UB:EM N B m L):BF Tryz.prog 107 [.ro [.lst 1 N (D8 B)]] m (rcV L):=by
 refine B5 (L:=λl=>[oT l N B m L]) (Ae mG (Ae jQ Aa)) UI (UZ Tryz.func107) Tryz.func107 (GF Tryz.f107) UD (λl cx hX=>GJ (lpE (b:= .loop eI) UD<|Jk4 l N B m L UB hX)) (t:=λl=>(need [UJ (AV.fn (Fn.yield l) [] []),ZR N B,(0:Int)=(HM L 0:Int),(0:Int)=((0:Nat):Int),0=0] (U6.may True (need [m=m] (leaf PUnit.unit)) (U6.may True (leaf PUnit.unit) (need [m=m] (leaf PUnit.unit)))))) (λl=>UD) ?_
 intro l;simp only [U6.sat,UU,GS,H6,UX,G4]
 (with_reducible repeat' first|apply Al|intro _)
 all_goals first|exact Ak|rfl|trivial|trace_state
def t9:Go.Shelf.Ren:=⟨λ| 169=>48|n=>n,λ| 70=>102| 72=>104| 37=>87| 127=>165|n=>n,λn=>n⟩
theorem Zt0:Go.Proofs.Lays.n169 Tryz.prog t9:=by
 constructor<;>first|(intro _;kernel_rfl)|kernel_rfl|(constructor<;>first|(intro _;kernel_rfl)|kernel_rfl|(constructor<;>first|(intro _;kernel_rfl)|kernel_rfl))
def AH:Go.Shelf.Ren:=⟨λ| 156=>70| 165=>113| 166=>41| 169=>48| 240=>68| 241=>150| 276=>111| 277=>189|n=>n,λ| 31=>26| 72=>104| 76=>108| 70=>102| 37=>87| 75=>107| 127=>165| 164=>216| 80=>122|n=>n,λn=>n⟩
theorem dN:Go.Proofs.Lays.n156 Tryz.prog AH:=by
 constructor<;>first|(intro _;kernel_rfl)|kernel_rfl|(constructor<;>first|(intro _;kernel_rfl)|kernel_rfl|(constructor<;>first|(intro _;kernel_rfl)|kernel_rfl))
theorem eT:Builder.Extra Tryz.prog AH where
 sizeBuilder:=UD
 liesBuilder:=UD
 t5:=by first|exact Tryz.underlying5|kernel_rfl
 a5:=by first|exact Tryz.isAgg5|kernel_rfl
 z5:=by first|exact Tryz.sizeOf5|(intros;rfl)
 v5:=by first|exact Tryz.zeroValue5|(intros;rfl)
 infoByte:=UD
 cellsByte:=UD
 sizeByte:=UD
 neB5:=by decide
def stO:List AV->ByteArray
 |[.x (.string s)]=>s
 |_=>ByteArray.empty
section
variable (n:Nat)(f:Ci)
def yA:Prop:= ∀k,k<n->f k=[.x (.string (stO (f k)))]
def jnB(sep:ByteArray):ByteArray:=⟨(Lib.join (((List.range n).map λk=>stO (f k)).map (·.data.toList)) sep.data.toList).toArray⟩
theorem Xo9(sep:ByteArray)(h0:n<=100000)(h1:yA n f)(h2:(jnB n f sep).size<=140737488355328):UH U8 70 [.lst 1 n f,.x (.string sep)] (.x (.string (jnB n f sep))):=by
 intro e w args hro hgl RL hr;obtain ⟨u,us,rfl,r1,hr⟩:=hr.cons_inv;obtain ⟨u2,us2,rfl,r2,hr⟩:=hr.cons_inv;obtain rfl:=hr.nil_inv;obtain rfl:=r2.x_inv;cases r1 with
 |lstNil=>
  refine Calls.mono (Any.strings_Join_none dN eT none 0 sep w) ?_;rintro en w' ⟨rfl,rfl⟩;exact ⟨_,rfl,Below.refl _ _,.x _⟩
 |lst _ _ _ b o cap g g1 g2 g3 g4 g5 g6 g7 g8 ad had=>
  have hl:((List.range n).map λk=>stO (f k)).length=n:=UE;rcases Nat.eq_zero_or_pos n with rfl|I;refine Calls.mono (Any.strings_Join_none dN eT (some ad) cap sep w) ?_;rintro en w' ⟨rfl,rfl⟩;exact ⟨_,rfl,Below.refl _ _,.x _⟩;rw [had I];have h:=Any.strings_Join dN eT b o cap ((List.range n).map λk=>stO (f k)) sep w (λj x hj=>by
   have hj1:=(RO.1 hj).1;have hj2:j<n:=U3;rw [Bn,List.getElem?_range hj2] at hj;simp only [Bt,D0] at hj;have k1:=g6 j 0 hj2 U3;have k2:=(g8 j 0 (.x (.string (stO (f j)))) hj2 (by rw [h1 j hj2];rfl)).x_inv
   have e0:o+(j*1+0)=o+j:=U3;rw [e0,k2,hj] at k1;exact k1) (g2 I) (by rw [hl];omega) (by rw [hl];exact g4) (by
    have e:(Lib.join (((List.range n).map λk=>stO (f k)).map (·.data.toList)) sep.data.toList).length=(jnB n f sep).size:=rfl;rw [e];exact h2)
  rw [hl] at h;refine Calls.mono h ?_;rintro en w' ⟨rfl,hb⟩;exact ⟨_,rfl,hb,.x _⟩
end
def A0:GM
 |[.lst 1 n f,.x (.string sep)]=>some ([n<=100000,yA n f,(jnB n f sep).size<=140737488355328],.x (.string (jnB n f sep)))
 |_=>none
theorem Qi6:UA U8 70 A0:=by
 refine ⟨(UZ Tryz.func70),?_⟩;intro avs ns res h I;unfold A0 at h;split at h;cases h;exact Xo9 _ _ _ (I _ UE) (I _ UE) (I _ UE);cases h
def Xw6:DK:=λavs m nx sv=>match avs with
 |[.ptr q 0]=>match DY m q with
  |some (.cells T l)=>match l with
   |[.x (.pointer none),c]=>match Nat.beq T 104 with
    |true=>some (.leaf (.tup [],wG m q (.cells T [.ptr q 0,c]),nx,sv))
    |false=>none
   |[.ptr q' 0,c]=>match Nat.beq T 104&&Nat.beq q q' with
    |true=>some (.leaf (.tup [],m,nx,sv))
    |false=>none
   |_=>none
  |_=>none
 |_=>none
theorem Zx0:GT U8 68 Xw6:=by
 refine ⟨(UZ Tryz.func68),?_⟩;intro avs m nx sv tr W Q hQ cx w0 TT e ds args w hE hB hm hlv L8 hxt hr;unfold Xw6 at W;split at W;rename_i q;obtain ⟨v0,l1,rfl,r1,hr⟩:=hr.cons_inv;obtain rfl:=hr.nil_inv;have hv0:v0= .pointer (some ⟨e.blk q,0,none⟩):=by cases r1;rfl
 subst hv0;split at W;rename_i T l hg;split at W;rename_i c;split at W;rename_i hb;obtain rfl:=HK hb;cases W;obtain ⟨h1,h2,vs,h3,h4⟩:=hm _ (GI hg);obtain ⟨p,us,rfl,t1,h4⟩:=h4.cons_inv;obtain ⟨v,us,rfl,t2,h4⟩:=h4.cons_inv;obtain rfl:=h4.nil_inv;obtain rfl:=t1.x_inv
 dsimp only at h1 h2 h3
 have hc0:w.cell? ⟨e.blk q,0,none⟩=some (.pointer none):=by simp [World.cell?,h3]
 refine Calls.mono (Any.Builder_copyCheck_fresh {dN with} eT.toX72 (e.blk q) w hc0 (by simp [World.shape?,h3];rfl) (by simp [World.frozen?,h3])) ?_
 rintro en w' ⟨rfl,rfl⟩;have LO: ∀b,b≠e.blk q->(w.setCell ⟨e.blk q,0,none⟩ (.pointer (some ⟨e.blk q,0,none⟩))).heap[b]? =w.heap[b]? :=λb hb=>heap_setCell_other _ _ _ _ hb;have hsz:(w.setCell ⟨e.blk q,0,none⟩ (.pointer (some ⟨e.blk q,0,none⟩))).heap.size=w.heap.size:=UE;have st:=FU hE h2 hsz LO;have rM:Below w0.heap.size w0 (w.setCell ⟨e.blk q,0,none⟩ (.pointer (some ⟨e.blk q,0,none⟩))):=hB.setCell (p:=⟨e.blk q,0,none⟩) (hE.owned _ _ h2).1 _;refine ⟨_,_,_,_,_,e,rfl,hQ,LU hE hsz st,rM,?_,hlv,L8,hxt.step st,Rep.tupL (UM.nil _ _)⟩;intro p hp;rcases RQ hp with rfl|⟨hp,hne⟩;refine ⟨h1,h2,[.pointer (some ⟨e.blk q,0,none⟩),v],?_,.cons (.ptr q 0 h1) (.cons (t2.step st) (.nil _ _))⟩;rw [heap_setCell_same w _ 0 _ _ _ h3];rfl;exact PV hE h2 hsz LO hne (hm p hp);cases W;rename_i q' c;split at W;rename_i hb;rw [HV] at hb;obtain rfl:=HK hb.1;obtain rfl:=HK hb.2;cases W;obtain ⟨h1,h2,vs,h3,h4⟩:=hm _ (GI hg);obtain ⟨p,us,rfl,t1,h4⟩:=h4.cons_inv;obtain ⟨v,us,rfl,t2,h4⟩:=h4.cons_inv;obtain rfl:=h4.nil_inv
 dsimp only at h1 h2 h3
 have hp:p= .pointer (some ⟨e.blk q,0,none⟩):=by cases t1;rfl
 subst hp;have hc0:w.cell? ⟨e.blk q,0,none⟩=some (.pointer (some ⟨e.blk q,0,none⟩)):=by simp [World.cell?,h3]
 refine Calls.mono (Any.Builder_copyCheck_used {dN with} eT.toX72 (e.blk q) w hc0) ?_
 rintro en w' ⟨rfl,rfl⟩;exact ⟨_,_,_,_,_,e,rfl,hQ,hE,hB,hm,hlv,L8,hxt,Rep.tupL (UM.nil _ _)⟩;cases W;cases W;cases W;cases W
set_option maxHeartbeats 1000000 in
theorem Qr8(b g cap:Nat)(p:Value)(cur:Array Value)(l:List UInt8)(w:World)(hbk:w.heap[b]? =some (.cells #[p,.slice (some ⟨g,0,none⟩) l.length cap] 104 (0,0)))(hg:w.heap[g]? =some (.cells cur 5 (0,0)))(h0:l≠[])(hnc:l.length<=cap)(hcm:cap<=maxLen)(hcs:cur.size=cap)
  (BJ: ∀j x,l[j]? =some x->w.cell? ⟨g,j,none⟩=some (.int .u8 x.toNat)):
  Calls Tryz.prog 48 #[.pointer (some ⟨b,0,none⟩)] w λe w'=>e= .returned (.string ⟨l.toArray⟩)/\w'=w.drew.freeze ⟨g,0,none⟩ l.length:=by
 have c1:w.drew.cell? ⟨b,1,none⟩=some (.slice (some ⟨g,0,none⟩) l.length cap):=by
  have:w.drew.heap[b]? =some (.cells #[p,.slice (some ⟨g,0,none⟩) l.length cap] 104 (0,0)):=hbk;simp [World.cell?,this]
 have hl0:l.length≠0:=by simpa using h0
 have hSD:(Builtin.unsafeSliceData_ #[87] 165 #[.slice (some ⟨g,0,none⟩) l.length cap]).run Tryz.prog w.drew= .ok (.pointer (some ⟨g,0,none⟩)) w.drew:=
  Lib.run_unsafeSliceData_row _ _ _ _ _ _ U3
 have hUS:(Builtin.unsafeString_ #[165,3] 9 #[.pointer (some ⟨g,0,none⟩),.int .i64 l.length]).run Tryz.prog w.drew= .ok (.string ⟨l.toArray⟩) (w.drew.freeze ⟨g,0,none⟩ l.length):=by
  refine Lib.run_unsafeString_row w.drew 165 3 9 5 Zt0.t127 UD g cur.size (by have hg':w.drew.heap[g]? =some (.cells cur 5 (0,0)):=hg;simp [World.shape?,hg']) l h0 U3 (by unfold maxLen at hcm;omega) ?_
  intro j x hx;have e:(⟨g,0,none⟩:Addr).add j=⟨g,j,none⟩:=by rw [F2,Ap]
  rw [e];exact BJ j x hx
 have HE:Tryz.prog.follows .mixedOrders=true:=UI
 go_enter Tryz.func48,Tryz.ntmps48
 go_wp2
 go_region_o
 all_goals (go_wp2;go_ret;exact ⟨rfl,rfl⟩)
def Xh8:DK:=λavs m nx sv=>match avs with
 |[.ptr q 0]=>match DY m q with
  |some (.cells T l)=>match l with
   |[_,.row r]=>match DY m r with
    |some (.row T1 sz n f)=>match Nat.beq T 104&&Nat.beq T1 5&&Nat.beq sz 1 with
     |true=>some (.needT [B7 n f,0<n] (.leaf (.x (.string (bsO n f)),[],nx,sv)))
     |false=>none
    |_=>none
   |_=>none
  |_=>none
 |_=>none
theorem c8(w:World)(g n x:Nat)(h:x≠g):(w.freeze ⟨g,0,none⟩ n).heap[x]? =w.heap[x]? :=by
 unfold World.freeze;split;rfl;show (w.heap.modify g _)[x]? =_;rw [Array.getElem?_modify];rw [if_neg (λe=>h e.symm)]
theorem nA(w:World)(g n:Nat):(w.freeze ⟨g,0,none⟩ n).heap.size=w.heap.size:=by
 unfold World.freeze;split;rfl;show (w.heap.modify g _).size=_;simp
theorem Qy1(w:World)(g n:Nat):(w.freeze ⟨g,0,none⟩ n).os=w.os/\(w.freeze ⟨g,0,none⟩ n).tape=w.tape/\(w.freeze ⟨g,0,none⟩ n).output=w.output:=by
 unfold World.freeze;split<;>exact ⟨rfl,rfl,rfl⟩
theorem yS:GT U8 48 Xh8:=by
 refine ⟨(UZ Tryz.func48),?_⟩;intro avs m nx sv tr W Q hQ cx w0 TT e ds args w hE hB hm hlv L8 hxt hr;unfold Xh8 at W;split at W;rename_i q;obtain ⟨v0,l1,rfl,r1,hr⟩:=hr.cons_inv;obtain rfl:=hr.nil_inv;have hv0:v0= .pointer (some ⟨e.blk q,0,none⟩):=by cases r1;rfl
 subst hv0;split at W;rename_i T l hg;split at W;rename_i a r;split at W;rename_i T1 sz n f hg2;split at W;rename_i hb;rw [HV,HV] at hb;obtain ⟨⟨hb1,hb2⟩,hb3⟩:=hb;obtain rfl:=HK hb1;obtain rfl:=HK hb2;obtain rfl:=HK hb3;cases W;obtain ⟨I,hq⟩:=U6.sat_needT hQ;have I:=GY I;have n1:B7 n f:=I _ UE;have n2:0<n:=I _ UE;obtain ⟨h1,h2,vs,h3,h4⟩:=hm _ (GI hg);obtain ⟨p,us,rfl,t1,h4⟩:=h4.cons_inv;obtain ⟨v,us,rfl,t2,h4⟩:=h4.cons_inv;obtain rfl:=h4.nil_inv
 dsimp only at h1 h2 h3
 obtain ⟨k1,k2,k3,xs,k4,k5⟩:=hm _ (GI hg2)
 dsimp only at k1 k2 k3 k4 k5
 have hv:e.val r=v:=by
  cases t2 with
  |row _ a n c _ hv=>exact hv
 rw [hv] at k2 k4;rcases k4.2 with ⟨_,hz⟩|⟨g,cap,cur,rfl,hbg,hgg,hnc,hcm,hcs,yC⟩;omega;have HQ:e.own g=some r:=k2 g rfl;have DJ:((List.range n).map λj=>UInt8.ofNat (byO (f j))).length=n:=UE;have h0:((List.range n).map λj=>UInt8.ofNat (byO (f j)))≠[]:=by
  intro h;rw [h] at DJ;simp at DJ;omega
 have BJ: ∀j x,((List.range n).map λj=>UInt8.ofNat (byO (f j)))[j]? =some x->w.cell? ⟨g,j,none⟩=some (.int .u8 x.toNat):=by
  intro j x hj;have hj1:j<n:=by have:=(RO.1 hj).1;omega
  rw [Bn,List.getElem?_range hj1] at hj;simp only [Bt,D0] at hj;have hxl:xs.length=n:=by have:=k4.1;omega
  have hc1:=k4.cells (g:=g) rfl j xs[j] (DP U3);have e1:(⟨g,0,none⟩:Addr).add j=⟨g,j,none⟩:=by rw [F2,Ap]
  rw [e1] at hc1;have hc2:=(k5 j 0 (.x (.int .u8 (byO (f j):Int))) xs[j] hj1 (by rw [(n1 j hj1).2];rfl) (by rw [show j*1+0=j by omega];exact DP U3)).x_inv
  rw [hc1,hc2,←hj,UInt8.toNat_ofNat_of_lt' (n1 j hj1).1]
 have RG:=Qr8 (e.blk q) g cap p cur ((List.range n).map λj=>UInt8.ofNat (byO (f j))) w (by rw [DJ];exact h3) hgg h0 (by rw [DJ];exact hnc) hcm (by simpa using hcs) BJ
 refine RG.mono ?_;rintro en w' ⟨rfl,rfl⟩;rw [DJ];have LO: ∀x,x≠g->(w.drew.freeze ⟨g,0,none⟩ n).heap[x]? =w.heap[x]? :=λx hx=>c8 w.drew g n x hx;have hsz:(w.drew.freeze ⟨g,0,none⟩ n).heap.size=w.heap.size:=nA w.drew g n;have hos:=Qy1 w.drew g n;have st:=FU hE HQ hsz LO;refine ⟨_,_,_,_,_,e,rfl,hq,LU hE hsz st,⟨hos.1.trans hB.os,hos.2.1.trans hB.tape,hos.2.2.trans hB.output,by rw [hsz];exact hB.size,λx hx=>?_⟩,λp hp=>(by cases hp),hlv,L8,hxt.step st,.x _⟩
 rw [LO x (by have:=(hE.owned _ _ HQ).1;omega)]
 exact hB.block x hx;cases W;cases W;cases W;cases W;cases W
def UR:List ByteArray:=[⟨#[116,104,114,101,97,100,32,48,32,49,32,52,48,32,52,48]⟩,⟨#[116,104,114,101,97,100,32,50,32,51,32,52,56,32,53,48]⟩,⟨#[105,115,115,117,101,32,48,32,52,32,57,48,32,48]⟩,⟨#[98,97,116,104,32,49,48,48,32,51,48,48]⟩,⟨#[115,101,101,32,48,32,50,48,48]⟩,⟨#[115,101,101,32,49,32,50,48,51]⟩,⟨#[98,97,116,104,32,49,48,48,32,51,48,48]⟩,⟨#[115,101,101,32,49,32,50,53,50]⟩,⟨#[115,101,101,32,50,32,50,53,48]⟩,⟨#[115,101,108,108,32,48,32,49,32,54,32,49,32,51]⟩,⟨#[115,101,108,108,32,49,32,50,32,52,32,50,32,50]⟩]
def GV:List ByteArray:=[⟨#[116,104,114,101,97,100,32,48,32,50,32,52,48,32,52,48]⟩,⟨#[105,115,115,117,101,32,48,32,52,32,56,48,32,48]⟩,⟨#[115,101,101,32,48,32,49,48,48]⟩,⟨#[115,116,114,105,107,101,32,49]⟩,⟨#[118,111,105,100,32,48]⟩]
def GA(l:List ByteArray)(k:Nat):ByteArray:=l.getD k ByteArray.empty
def wk1:HS:=thS hs0 0 1 40 40
def wk2:HS:=thS wk1 2 3 48 50
def wk3:HS:=isS wk2 0 4 90 0
def wk4:HS:=btS wk3 100 300
def wk5:HS:=seS wk4 0 200
def wk6:HS:=seS wk5 1 203
def wk7:HS:=btS wk6 100 300
def wk8:HS:=seS wk7 1 252
def wk9:HS:=seS wk8 2 250
def Qr4:HS:=slS wk9 0 1 6 1 3
def UF:HS:=slS Qr4 1 2 4 2 2
theorem We6:lnE (GA UR 0) hs0=0:=by decide+kernel
theorem Xy6:FV (lnW (GA UR 0)) hs0=wk1:=UD
theorem We5:lnE (GA UR 1) wk1=0:=by decide+kernel
theorem Xy5:FV (lnW (GA UR 1)) wk1=wk2:=UD
theorem We4:lnE (GA UR 2) wk2=0:=by decide+kernel
theorem Xy4:FV (lnW (GA UR 2)) wk2=wk3:=UD
theorem We3:lnE (GA UR 3) wk3=0:=by decide+kernel
theorem Xy3:FV (lnW (GA UR 3)) wk3=wk4:=UD
theorem We2:lnE (GA UR 4) wk4=0:=by decide+kernel
theorem Xy2:FV (lnW (GA UR 4)) wk4=wk5:=UD
theorem We1:lnE (GA UR 5) wk5=0:=by decide+kernel
theorem Xy1:FV (lnW (GA UR 5)) wk5=wk6:=UD
theorem We0:lnE (GA UR 6) wk6=0:=by decide+kernel
theorem Xy0:FV (lnW (GA UR 6)) wk6=wk7:=UD
theorem Wd9:lnE (GA UR 7) wk7=0:=by decide+kernel
theorem Xx9:FV (lnW (GA UR 7)) wk7=wk8:=UD
theorem Wd8:lnE (GA UR 8) wk8=0:=by decide+kernel
theorem Xx8:FV (lnW (GA UR 8)) wk8=wk9:=UD
theorem Wd7:lnE (GA UR 9) wk9=0:=by decide+kernel
theorem Xx7:FV (lnW (GA UR 9)) wk9=Qr4:=UD
theorem pE:lnE (GA UR 10) Qr4=0:=by decide+kernel
theorem Wc9:FV (lnW (GA UR 10)) Qr4=UF:=UD
theorem Xy8:boE UF.nb UF.ql UF.qh UF.qm UF.qr UF.qv=0:=by decide+kernel
theorem Xy7:boN UF.nb UF.ql UF.qh UF.qm UF.qr UF.qv=3:=by decide+kernel
theorem Wd2:boL UF.nb UF.ql UF.qh UF.qm UF.qr UF.qv 0=0:=by decide+kernel
theorem Wd5:boH UF.nb UF.ql UF.qh UF.qm UF.qr UF.qv 0=0:=by decide+kernel
theorem Wd1:boL UF.nb UF.ql UF.qh UF.qm UF.qr UF.qv 1=1:=by decide+kernel
theorem Wd4:boH UF.nb UF.ql UF.qh UF.qm UF.qr UF.qv 1=5:=by decide+kernel
theorem Wd0:boL UF.nb UF.ql UF.qh UF.qm UF.qr UF.qv 2= -3:=by decide+kernel
theorem Wd3:boH UF.nb UF.ql UF.qh UF.qm UF.qr UF.qv 2=5:=by decide+kernel
theorem Wc8:stP UF 0 0=true:=by decide+kernel
theorem Wd6:jV UF.ns UF.sa UF.sb UF.sc UF.sl UF.sh=true:=by decide+kernel
theorem We8:caB UF.ns UF.sa UF.sb UF.sc UF.sl UF.sh 1 0=true:=by decide+kernel
theorem We7:caB UF.ns UF.sa UF.sb UF.sc UF.sl UF.sh 1 1=true:=by decide+kernel
theorem Zl7:caB UF.ns UF.sa UF.sb UF.sc UF.sl UF.sh 1 2=false:=by decide+kernel
theorem Zl6:caB UF.ns UF.sa UF.sb UF.sc UF.sl UF.sh 1 3=false:=by decide+kernel
theorem Wc7:suB UF.ns UF.sa UF.sb UF.sc UF.sl UF.sh 1 0=true:=by decide+kernel
theorem Zk0:suB UF.ns UF.sa UF.sb UF.sc UF.sl UF.sh 1 1=false:=by decide+kernel
theorem Zj9:suB UF.ns UF.sa UF.sb UF.sc UF.sl UF.sh 1 2=false:=by decide+kernel
theorem Zj8:suB UF.ns UF.sa UF.sb UF.sc UF.sl UF.sh 1 3=false:=by decide+kernel
theorem Jf5:hdN 4 100 20 30 UF.nr UF.ra UF.rb UF.ru UF.rv 3 tbP tbQ UF.pl UF.ph 1 3 0=5:=by decide+kernel
theorem Zl0:onL (wkA 4 100 20 30 UF.nr UF.ra UF.rb UF.ru UF.rv 3 tbP tbQ UF.pl UF.ph 1 3) 0 0=0:=by decide+kernel
theorem Zl5:onH (wkA 4 100 20 30 UF.nr UF.ra UF.rb UF.ru UF.rv 3 tbP tbQ UF.pl UF.ph 1 3) 0 0=0:=by decide+kernel
theorem Zk9:onL (wkA 4 100 20 30 UF.nr UF.ra UF.rb UF.ru UF.rv 3 tbP tbQ UF.pl UF.ph 1 3) 1 0=200:=by decide+kernel
theorem Zl4:onH (wkA 4 100 20 30 UF.nr UF.ra UF.rb UF.ru UF.rv 3 tbP tbQ UF.pl UF.ph 1 3) 1 0=300:=by decide+kernel
theorem Zk8:onL (wkA 4 100 20 30 UF.nr UF.ra UF.rb UF.ru UF.rv 3 tbP tbQ UF.pl UF.ph 1 3) 2 0=410:=by decide+kernel
theorem Zl3:onH (wkA 4 100 20 30 UF.nr UF.ra UF.rb UF.ru UF.rv 3 tbP tbQ UF.pl UF.ph 1 3) 2 0=510:=by decide+kernel
theorem Zk7:onL (wkA 4 100 20 30 UF.nr UF.ra UF.rb UF.ru UF.rv 3 tbP tbQ UF.pl UF.ph 1 3) 3 0=700:=by decide+kernel
theorem Zl2:onH (wkA 4 100 20 30 UF.nr UF.ra UF.rb UF.ru UF.rv 3 tbP tbQ UF.pl UF.ph 1 3) 3 0=800:=by decide+kernel
theorem Zk6:onL (wkA 4 100 20 30 UF.nr UF.ra UF.rb UF.ru UF.rv 3 tbP tbQ UF.pl UF.ph 1 3) 4 0=1000:=by decide+kernel
theorem Zl1:onH (wkA 4 100 20 30 UF.nr UF.ra UF.rb UF.ru UF.rv 3 tbP tbQ UF.pl UF.ph 1 3) 4 0=1000:=by decide+kernel
theorem Zk5:(hoS UF.ns UF.sa UF.sb UF.sc UF.sl UF.sh 0 100).1=4:=by decide+kernel
theorem Zk4:(hoS UF.ns UF.sa UF.sb UF.sc UF.sl UF.sh 1 100).1=2:=by decide+kernel
theorem Zk3:(hoS UF.ns UF.sa UF.sb UF.sc UF.sl UF.sh 2 100).1=4:=by decide+kernel
theorem Zk2:(hoS UF.ns UF.sa UF.sb UF.sc UF.sl UF.sh 3 100).1=0:=by decide+kernel
def BD{α:Type}:U6 α->U6 α
 | .fail=> .fail
 | .leaf a=> .leaf a
 | .branch b t f=>match b with
  |true=>BD t
  |false=>BD f
 | .need ps t=> .need ps (BD t)
 | .may p t f=> .may p (BD t) (BD f)
def Xs8(sp:G5):G5:=λs=>match sp s with
 |some t=>some (BD t)
 |none=>none
section
variable (n:Nat)(f:Ci)
def byB:Bool:=F1 (λj=>match f j with
 |[.x (.int .u8 c)]=>decide (0<=c)&&decide (c<256)
 |_=>false) n
def Jg7:Bool:=F1 (λj=>match f j with
 |[.x (.string _)]=>true
 |_=>false) n
end
theorem HR{α:Type}{Q:α->Prop}: ∀{t:U6 α},(BD t).sat Q->t.sat Q
 | .fail,h=>h
 | .leaf _,h=>h
 | .branch true _ _,h=>⟨λ_=>HR h,λe=>Bool.noConfusion e⟩
 | .branch false _ _,h=>⟨λe=>Bool.noConfusion e,λ_=>HR h⟩
 | .need _ _,h=>⟨h.1,HR h.2⟩
 | .may _ _ _,h=>⟨λp=>HR (h.1 p),HR h.2⟩
theorem Zw4{P:Program}{ro:Option Nat}{cx:Cx}{c:Code}{sp:G5}(h:D7 P ro cx c sp):D7 P ro cx c (Xs8 sp):=by
 intro n s t W Q hQ a w r;unfold Xs8 at W;split at W;rename_i t0 h0;cases W;exact h n s t0 h0 Q (HR hQ) a w r;cases W
section
variable {n:Nat}{f:Ci}
theorem Qb6(h:byB n f=true):B7 n f:=by
 intro j hj;have h1:=HG.1 h j hj;split at h1;rename_i c hc;rw [HV,yN,yN] at h1;rw [hc];have e:byO [.x (.int .u8 c)]=c.toNat:=rfl;rw [e];refine ⟨U3,?_⟩;rw [show ((c.toNat:Nat):Int)=c by omega]
 cases h1
theorem iA(h:Jg7 n f=true):yA n f:=by
 intro j hj;have h1:=HG.1 h j hj;split at h1;rename_i s hc;rw [hc];rfl;cases h1
end
noncomputable def Xi1:DK:=vP Tryz.prog [] {R:=[],H:=[(68,Xw6)] } [] Tryz.f41 (UP Tryz.f41)
theorem Xu4:GT U8 41 Xi1:=
 RT (G:=[]) (X:={R:=[],H:=[(68,Xw6)] }) (L:=[]) Aa (Ai Ab (Ag Zx0 Ac)) UI (UZ Tryz.func41) Tryz.func41 (GF Tryz.f41) UN
noncomputable def A4:DK:=vP Tryz.prog [(69,A1),(70,A0)] WI [(Xs8 (λs=>some (yR Tryz.prog [(69,A1),(70,A0)] WI [] (UT (UC (UP Tryz.f42) 0)) 10 s)))] Tryz.f42 (UP Tryz.f42)
theorem mM:GT U8 42 A4:=
 RT (G:=[(69,A1),(70,A0)]) (X:=WI) (L:=[(Xs8 (λs=>some (yR Tryz.prog [(69,A1),(70,A0)] WI [] (UT (UC (UP Tryz.f42) 0)) 10 s)))]) (Ae bO (Ae Qi6 Aa)) Ad UI (UZ Tryz.func42) Tryz.func42 (GF Tryz.f42) (GJ (lpE (b:= .loop (UT (UC (UP Tryz.f42) 0))) UD<|λro cx=>Zw4 (vU (Ae bO (Ae Qi6 Aa)) (Ad cx) UI (λj cj hj sp hsp=>by simp at hsp) 10)))
noncomputable def Xi0:DK:=vP Tryz.prog [] {R:=[],H:=[(42,A4),(41,Xi1)] } [] Tryz.f40 (UP Tryz.f40)
theorem zL:GT U8 40 Xi0:=
 RT (G:=[]) (X:={R:=[],H:=[(42,A4),(41,Xi1)] }) (L:=[]) Aa (Ai Ab (Ag mM (Ag Xu4 Ac))) UI (UZ Tryz.func40) Tryz.func40 (GF Tryz.f40) UN
def CN:GM
 |[.x (.int .i64 a),.x (.int .i64 b)]=>some ([0<=a/\a<=1000\/ -1000<=a/\a<=1000,-1000<=b/\b<=1000,((⟨(Lib.itoa a).toArray⟩:ByteArray)++⟨#[46,46]⟩).size+(⟨(Lib.itoa b).toArray⟩:ByteArray).size<=100],.x (.string ((⟨(Lib.itoa a).toArray⟩++⟨#[46,46]⟩)++⟨(Lib.itoa b).toArray⟩)))
 |_=>none
theorem Wt4(a b:Int)(UB:0<=a/\a<=1000\/ -1000<=a/\a<=1000)(UY: -1000<=b/\b<=1000)(DF:((⟨(Lib.itoa a).toArray⟩:ByteArray)++⟨#[46,46]⟩).size+(⟨(Lib.itoa b).toArray⟩:ByteArray).size<=100):UH U8 45 [i a,i b] (.x (.string ((⟨(Lib.itoa a).toArray⟩++⟨#[46,46]⟩)++⟨(Lib.itoa b).toArray⟩))):=by
 refine UL (L:=[]) (Ae bO Aa) UI Tryz.func45 (GF Tryz.f45) UN (t:=need [U5 a] (need [(↑(ByteArray.size {data:=List.toArray (Lib.itoa a) }+ByteArray.size {data:=#[46,46] }):Int)<=9223372036854775807] (need [U5 b] (need [(↑(ByteArray.size ({data:=List.toArray (Lib.itoa a) }++{data:=#[46,46] })+ByteArray.size {data:=List.toArray (Lib.itoa b) }):Int)<=9223372036854775807] (leaf (RV.x (.string ({data:=List.toArray (Lib.itoa a) }++{data:=#[46,46] }++{data:=List.toArray (Lib.itoa b) })))))))) UD ?_;rw [Av] at DF;simp only [U6.sat,UU,GS,UX,G4,U5,Av];all_goals exact VM
theorem zK:UA U8 45 CN:=by
 refine ⟨(UZ Tryz.func45),?_⟩;intro avs ns res h I;unfold CN at h;split at h;cases h;exact Wt4 _ _ (I _ UE) (I _ UE) (I _ UE);cases h
def Zp8:ByteArray:=⟨#[114,101,97,100,105,110,103,115,32,50,32,98,97,116,104,115,32,50,32,99,101,114,116,105,102,105,99,97,116,101,115,32,49,32,115,97,108,101,115,32,50,10,109,97,114,107,115,32,48,46,46,48,32,50,48,48,46,46,51,48,48,32,52,49,48,46,46,53,49,48,32,55,48,48,46,46,56,48,48,32,49,48,48,48,46,46,49,48,48,48,10,111,102,102,115,101,116,115,32,48,46,46,48,32,49,46,46,53,32,45,51,46,46,53,10,115,116,97,110,100,32,48,10,104,111,108,100,32,52,32,50,32,52,32,48,10]⟩
def Qd7:GM:=λl=>some ([l=[lns 11 (GA UR)]],i 0)
def Qp1:DX:=λl=>some (.need [l=[lns 11 (GA UR)]] (.leaf (.tup [.ro (hsL UF),.lst 1 11 (exG (GA UR))])))
def Xg0:GM:=λl=>some ([l=[.agg [i 4,i 100,i 20,i 30,hsR UF,.lst 2 3 (λk=>[i (tbP k),i (tbQ k)]),i UF.pl,i UF.ph,i 1,i 3],i 0]],.tup [.lst 2 5 (λk=>[i (US [0,200,410,700,1000] k),i (US [0,300,510,800,1000] k)]),i 0])
def Qd5:GM:=λl=>some ([l=[.agg [ofs,i 1,hsB UF]]],.tup [.lst 2 3 (λk=>[i (US [0,1,-3] k),i (US [0,5,5] k)]),i 0])
def Qd4:GM:=λl=>some ([l=[.agg (hsL UF),.agg [i (UF.ca 0),i (UF.cb 0),i (UF.cc 0),i (UF.cd 0),bl (UF.cv 0)],i (UF.cd 0)]],bl true)
def Xf9:DX:=λl=>match l with
 |[b,.x (.int .i64 ow),d]=>some (.need [b= .agg [i 4,i 10,hsS UF],d=i 100,0<=ow/\ow<=3] (.leaf (.tup [.agg [i (US [4,2,4,0] ow.toNat),i (hoS UF.ns UF.sa UF.sb UF.sc UF.sl UF.sh ow 100).2],i 0])))
 |_=>none
theorem Jf4:sK (GA UR) 0=hs0:=rfl
theorem Jf3:sK (GA UR) 1=wk1:=by
 show lnS (GA UR 0) (sK (GA UR) 0)=_;rw [Jf4];unfold lnS;rw [if_pos We6];exact Xy6
theorem Jf2:sK (GA UR) 2=wk2:=by
 show lnS (GA UR 1) (sK (GA UR) 1)=_;rw [Jf3];unfold lnS;rw [if_pos We5];exact Xy5
theorem Jf1:sK (GA UR) 3=wk3:=by
 show lnS (GA UR 2) (sK (GA UR) 2)=_;rw [Jf2];unfold lnS;rw [if_pos We4];exact Xy4
theorem Jf0:sK (GA UR) 4=wk4:=by
 show lnS (GA UR 3) (sK (GA UR) 3)=_;rw [Jf1];unfold lnS;rw [if_pos We3];exact Xy3
theorem Je9:sK (GA UR) 5=wk5:=by
 show lnS (GA UR 4) (sK (GA UR) 4)=_;rw [Jf0];unfold lnS;rw [if_pos We2];exact Xy2
theorem Je8:sK (GA UR) 6=wk6:=by
 show lnS (GA UR 5) (sK (GA UR) 5)=_;rw [Je9];unfold lnS;rw [if_pos We1];exact Xy1
theorem Je7:sK (GA UR) 7=wk7:=by
 show lnS (GA UR 6) (sK (GA UR) 6)=_;rw [Je8];unfold lnS;rw [if_pos We0];exact Xy0
theorem Je6:sK (GA UR) 8=wk8:=by
 show lnS (GA UR 7) (sK (GA UR) 7)=_;rw [Je7];unfold lnS;rw [if_pos Wd9];exact Xx9
theorem Je5:sK (GA UR) 9=wk9:=by
 show lnS (GA UR 8) (sK (GA UR) 8)=_;rw [Je6];unfold lnS;rw [if_pos Wd8];exact Xx8
theorem Zk1:sK (GA UR) 10=Qr4:=by
 show lnS (GA UR 9) (sK (GA UR) 9)=_;rw [Je5];unfold lnS;rw [if_pos Wd7];exact Xx7
theorem CU:sK (GA UR) 11=UF:=by
 show lnS (GA UR 10) (sK (GA UR) 10)=_;rw [Zk1];unfold lnS;rw [if_pos pE];exact Wc9
theorem eW:ckE 11 (GA UR)=0:=by decide+kernel
theorem vJ:UA U8 35 Qd7:=by
 refine ⟨(UZ Tryz.func35),?_⟩;intro avs ns res h I;cases h;have e:avs=[lns 11 (GA UR)]:=I _ H0;subst e;have h1:=ST 11 (GA UR) U3;rw [eW] at h1;exact h1
theorem zE:Sx.Enters Tryz.prog 37/\ ∀avs t,Qp1 avs=some t->G6 U8 37 avs t:=by
 refine ⟨(UZ Tryz.func37),?_⟩;intro avs t h;cases h;intro Q hQ;have e:avs=[lns 11 (GA UR)]:=hQ.1;subst e;have hk:=qD eW;have h1:=mH 11 (GA UR) hk.1 (λk h=>by have:=hk.2 k h;omega) Q
 rw [CU] at h1;exact h1 hQ.2
theorem vF:PS U8 43 Xg0:=by
 refine ⟨(UZ Tryz.func43),?_⟩;intro avs ns res h I;cases h;have e:avs=[.agg [i 4,i 100,i 20,i 30,hsR UF,.lst 2 3 (λk=>[i (tbP k),i (tbQ k)]),i UF.pl,i UF.ph,i 1,i 3],i 0]:=I _ H0;subst e;intro e w args q1 q2 q3 q4;refine (gM 4 100 20 30 UF.nr UF.ra UF.rb UF.ru UF.rv 3 tbP tbQ UF.pl UF.ph 1 3 0 e w args q1 q2 q3 q4).mono ?_;rintro en w' ⟨v,rfl,g1,g2⟩;refine ⟨v,rfl,g1,FY ?_ g2⟩;rw [show hdE 4 100 20 30 UF.nr UF.ra UF.rb UF.ru UF.rv 3 tbP tbQ UF.pl UF.ph 1 3 0=0 by decide+kernel]
 refine ⟨⟨rfl,Jf5,λk hk=>?_⟩,⟨rfl,rfl⟩,Ak⟩;rcases (show k=0\/k=1\/k=2\/k=3\/k=4 by omega) with rfl|rfl|rfl|rfl|rfl
 show [i _,i _]=_;rw [Zl0,Zl5];rfl;show [i _,i _]=_;rw [Zk9,Zl4];rfl;show [i _,i _]=_;rw [Zk8,Zl3];rfl;show [i _,i _]=_;rw [Zk7,Zl2];rfl;show [i _,i _]=_;rw [Zk6,Zl1];rfl
theorem eV:xV UF:=by
 have h:=vY (GA UR) 11;rw [CU] at h;exact h
theorem v9:UA U8 19 Qd5:=by
 refine ⟨(UZ Tryz.func19),?_⟩;intro avs ns res h I;cases h;have e:avs=[.agg [ofs,i 1,hsB UF]]:=I _ H0;subst e;intro e w args q1 q2 q3 q4;refine (yK UF.nb UF.ql UF.qh UF.qm UF.qr UF.qv eV.bV e w args q1 q2 q3 q4).mono ?_;rintro en w' ⟨v,rfl,g1,g2⟩;refine ⟨v,rfl,g1,FY ?_ g2⟩;rw [Xy8];refine ⟨⟨rfl,Xy7,λk hk=>?_⟩,⟨rfl,rfl⟩,Ak⟩;rcases (show k=0\/k=1\/k=2 by omega) with rfl|rfl|rfl
 show [i _,i _]=_;rw [Wd2,Wd5];rfl;show [i _,i _]=_;rw [Wd1,Wd4];rfl;show [i _,i _]=_;rw [Wd0,Wd3];rfl
theorem yT:UA U8 38 Qd4:=by
 refine ⟨(UZ Tryz.func38),?_⟩;intro avs ns res h I;cases h;have e:avs=[.agg (hsL UF),.agg [i (UF.ca 0),i (UF.cb 0),i (UF.cc 0),i (UF.cd 0),bl (UF.cv 0)],i (UF.cd 0)]:=I _ H0;subst e;have h1:=M5 UF (UF.ca 0) (UF.cb 0) (UF.cc 0) (UF.cd 0) (UF.cv 0) (UF.cd 0);have h2:stB UF (UF.ca 0) (UF.cb 0) (UF.cc 0) (UF.cd 0) (UF.cv 0) (UF.cd 0)=true:=by
  have h3:UF.cd 0=0:=UD;have h4:=Wc8;unfold stP at h4;rw [h3] at h4 ⊢;exact h4
 rw [h2] at h1;exact h1
theorem rK:Sx.Enters Tryz.prog 47/\ ∀avs t,Xf9 avs=some t->G6 U8 47 avs t:=by
 refine ⟨(UZ Tryz.func47),?_⟩;intro avs t h;unfold Xf9 at h;split at h;rename_i b ow d;cases h;intro Q hQ;obtain ⟨⟨e1,e2,e3,_⟩,hq⟩:=hQ;subst e1 e2;refine Qt5 UF.ns UF.sa UF.sb UF.sc UF.sl UF.sh ow 100 eV.sV Q ?_;have hb:(bt 0 ow 3&&bt 0 100 100)=true:=by
  rw [HV,Bo.bt_iff,Bo.bt_iff];omega
 refine ⟨λ_=>⟨λh=>?_,λ_=>?_⟩,λh=>Bool.noConfusion (hb.symm.trans h)⟩;rw [Wd6] at h;exact Bool.noConfusion h;have ho:(hoS UF.ns UF.sa UF.sb UF.sc UF.sl UF.sh ow 100).1=US [4,2,4,0] ow.toNat:=by
  rcases (show ow=0\/ow=1\/ow=2\/ow=3 by omega) with rfl|rfl|rfl|rfl
  exact Zk5;exact Zk4;exact Zk3;exact Zk2
 show Q _;rw [ho];exact hq;cases h
def wvS(s:ByteArray):AV:= .x (.iface 9 (.string s))
def wvI(n:Int):AV:= .x (.iface 3 (.int .i64 n))
def HN(l:List AV)(k:Nat):List AV:=[l.getD k .top]
def wl0:List AV:=[wvS ⟨#[109,97,114,107,115]⟩,wvS ⟨#[48,46,46,48]⟩,wvS ⟨#[50,48,48,46,46,51,48,48]⟩,wvS ⟨#[52,49,48,46,46,53,49,48]⟩,wvS ⟨#[55,48,48,46,46,56,48,48]⟩,wvS ⟨#[49,48,48,48,46,46,49,48,48,48]⟩]
def wl1:List AV:=[wvS ⟨#[111,102,102,115,101,116,115]⟩,wvS ⟨#[48,46,46,48]⟩,wvS ⟨#[49,46,46,53]⟩,wvS ⟨#[45,51,46,46,53]⟩]
def wl2:List AV:=[wvS ⟨#[115,116,97,110,100]⟩,wvI 0]
def wl3:List AV:=[wvS ⟨#[104,111,108,100]⟩,wvI 4,wvI 2,wvI 4,wvI 0]
def rp0:ByteArray:=⟨#[114,101,97,100,105,110,103,115,32,50,32,98,97,116,104,115,32,50,32,99,101,114,116,105,102,105,99,97,116,101,115,32,49,32,115,97,108,101,115,32,50,10]⟩
def rp1:ByteArray:=⟨#[114,101,97,100,105,110,103,115,32,50,32,98,97,116,104,115,32,50,32,99,101,114,116,105,102,105,99,97,116,101,115,32,49,32,115,97,108,101,115,32,50,10,109,97,114,107,115,32,48,46,46,48,32,50,48,48,46,46,51,48,48,32,52,49,48,46,46,53,49,48,32,55,48,48,46,46,56,48,48,32,49,48,48,48,46,46,49,48,48,48,10]⟩
def rp2:ByteArray:=⟨#[114,101,97,100,105,110,103,115,32,50,32,98,97,116,104,115,32,50,32,99,101,114,116,105,102,105,99,97,116,101,115,32,49,32,115,97,108,101,115,32,50,10,109,97,114,107,115,32,48,46,46,48,32,50,48,48,46,46,51,48,48,32,52,49,48,46,46,53,49,48,32,55,48,48,46,46,56,48,48,32,49,48,48,48,46,46,49,48,48,48,10,111,102,102,115,101,116,115,32,48,46,46,48,32,49,46,46,53,32,45,51,46,46,53,10]⟩
def rp3:ByteArray:=⟨#[114,101,97,100,105,110,103,115,32,50,32,98,97,116,104,115,32,50,32,99,101,114,116,105,102,105,99,97,116,101,115,32,49,32,115,97,108,101,115,32,50,10,109,97,114,107,115,32,48,46,46,48,32,50,48,48,46,46,51,48,48,32,52,49,48,46,46,53,49,48,32,55,48,48,46,46,56,48,48,32,49,48,48,48,46,46,49,48,48,48,10,111,102,102,115,101,116,115,32,48,46,46,48,32,49,46,46,53,32,45,51,46,46,53,10,115,116,97,110,100,32,48,10]⟩
def rp4:ByteArray:=⟨#[114,101,97,100,105,110,103,115,32,50,32,98,97,116,104,115,32,50,32,99,101,114,116,105,102,105,99,97,116,101,115,32,49,32,115,97,108,101,115,32,50,10,109,97,114,107,115,32,48,46,46,48,32,50,48,48,46,46,51,48,48,32,52,49,48,46,46,53,49,48,32,55,48,48,46,46,56,48,48,32,49,48,48,48,46,46,49,48,48,48,10,111,102,102,115,101,116,115,32,48,46,46,48,32,49,46,46,53,32,45,51,46,46,53,10,115,116,97,110,100,32,48,10,104,111,108,100,32,52,32,50,32,52,32,48,10]⟩
def eqBy(n:Nat)(F:Ci)(B:ByteArray):Bool:=F1 (λj=>match F j with
 |[.x (.int .u8 c)]=>decide (c=DZ B j)
 |_=>false) n
theorem Qk3{n:Nat}{F:Ci}{B:ByteArray}(h:eqBy n F B=true): ∀i,i<n->F i=D8 B i:=by
 intro j hj;have h1:=HG.1 h j hj;split at h1;rename_i c hc;rw [hc,BI h1];rfl;cases h1
theorem ltM{n:Nat}{f g:Ci}(h:(List.range n).map f=(List.range n).map g): ∀i,i<n->f i=g i:=λi O=>by
 have e:=congrArg (λl=>l[i]?) h;simpa [O] using e
abbrev JO:HO:=[(920,.row 20 1 1 (HN wl0)),(921,.row 20 1 1 (HN wl1)),(922,.row 20 1 1 (HN wl2)),(923,.row 20 1 1 (HN wl3)),(911,.row 5 1 42 (D8 rp0)),(14,.cells 104 [.ptr 14 0,.row 911])]
def AT(z:Nat):St:=((some {σ:=mkS 198 [(0,.top),(5,.ro (hsL UF)),(7,.ptr 14 0),(8,.fn (.func 40) [] [.ptr 14 0]),(9,.row 920),(10,.row 921),(11,.row 922),(12,.row 923),(91,.lst 2 5 (λk=>[i (US [0,200,410,700,1000] k),i (US [0,300,510,800,1000] k)])),(92,i 5),(93,i 0)],m:=JO,nx:=930}:Option St):Option St).getD {σ:=[],m:=[],nx:=0}
noncomputable def AW:Code:=UT (UC (UP Tryz.f12) 0)
abbrev WZ:HO:=[(920,.row 20 1 6 (HN wl0)),(921,.row 20 1 1 (HN wl1)),(922,.row 20 1 1 (HN wl2)),(923,.row 20 1 1 (HN wl3)),(911,.row 5 1 42 (D8 rp0)),(14,.cells 104 [.ptr 14 0,.row 911])]
section
variable (z:Nat)
def FF:Nat->St
 | 0=>{σ:=HI [(91,.lst 2 5 (λk=>[i (US [0,200,410,700,1000] k),i (US [0,300,510,800,1000] k)])),(92,i 5),(93,i 0)] (AT z).σ,m:=JO,nx:=930}
 | 1=>{σ:=HI [(91,.lst 2 5 (λk=>[i (US [0,200,410,700,1000] k),i (US [0,300,510,800,1000] k)])),(92,i 5),(93,i 1)] (AT z).σ,m:=[(920,.row 20 1 2 (HN wl0)),(921,.row 20 1 1 (HN wl1)),(922,.row 20 1 1 (HN wl2)),(923,.row 20 1 1 (HN wl3)),(911,.row 5 1 42 (D8 rp0)),(14,.cells 104 [.ptr 14 0,.row 911])],nx:=930}
 | 2=>{σ:=HI [(91,.lst 2 5 (λk=>[i (US [0,200,410,700,1000] k),i (US [0,300,510,800,1000] k)])),(92,i 5),(93,i 2)] (AT z).σ,m:=[(920,.row 20 1 3 (HN wl0)),(921,.row 20 1 1 (HN wl1)),(922,.row 20 1 1 (HN wl2)),(923,.row 20 1 1 (HN wl3)),(911,.row 5 1 42 (D8 rp0)),(14,.cells 104 [.ptr 14 0,.row 911])],nx:=930}
 | 3=>{σ:=HI [(91,.lst 2 5 (λk=>[i (US [0,200,410,700,1000] k),i (US [0,300,510,800,1000] k)])),(92,i 5),(93,i 3)] (AT z).σ,m:=[(920,.row 20 1 4 (HN wl0)),(921,.row 20 1 1 (HN wl1)),(922,.row 20 1 1 (HN wl2)),(923,.row 20 1 1 (HN wl3)),(911,.row 5 1 42 (D8 rp0)),(14,.cells 104 [.ptr 14 0,.row 911])],nx:=930}
 | 4=>{σ:=HI [(91,.lst 2 5 (λk=>[i (US [0,200,410,700,1000] k),i (US [0,300,510,800,1000] k)])),(92,i 5),(93,i 4)] (AT z).σ,m:=[(920,.row 20 1 5 (HN wl0)),(921,.row 20 1 1 (HN wl1)),(922,.row 20 1 1 (HN wl2)),(923,.row 20 1 1 (HN wl3)),(911,.row 5 1 42 (D8 rp0)),(14,.cells 104 [.ptr 14 0,.row 911])],nx:=930}
 |_=>{σ:=HI [(91,.lst 2 5 (λk=>[i (US [0,200,410,700,1000] k),i (US [0,300,510,800,1000] k)])),(92,i 5),(93,i 5)] (AT z).σ,m:=WZ,nx:=930}
def F9:GR->Option St
 | .exit 0=>some {σ:=HI [(91,.lst 2 5 (λk=>[i (US [0,200,410,700,1000] k),i (US [0,300,510,800,1000] k)])),(92,i 5),(93,i 5)] (AT z).σ,m:=WZ,nx:=930}
 |_=>none
def ND:CT:= .leaf (.exit 0,(F9 z (.exit 0)).getD (AT z))
abbrev QF:List (Pl×Nat×TypeId×Nat):=[(.slot 9,920,20,1),(.slot 10,921,20,1),(.slot 11,922,20,1),(.slot 12,923,20,1),(.cell 14 1,911,5,1)]
def Xh1:G5:=H4 QF (D1 (FF z 0) (ND z))
abbrev Q6:Prop:=AV.ro [hR 2 UF,iI UF.pl,iI UF.ph,hY 2 UF,hC 1 UF,hT 2 UF]=AV.ro [hR 2 UF,iI UF.pl,iI UF.ph,hY 2 UF,hC 1 UF,hT 2 UF]
noncomputable abbrev QA:Ext:={R:=[(43,Xg0),(44,LY),(46,j5),(39,NH)],H:=[(40,Xi0),(48,Xh8)],C:=[(37,Qp1),(47,Xf9)] }
abbrev QG:List Int:=[(0:Int),200,410,700,1000]
abbrev QK:List Int:=[(0:Int),300,510,800,1000]
abbrev QS:Prop:=AV.fn (Fn.func 40) [] [ptr 14 0]=AV.fn (Fn.func 40) [] [ptr 14 0]
abbrev QY:List (Nat×GM):=[(35,Qd7),(19,Qd5),(38,Qd4),(45,CN)]
abbrev WF:Prop:=ptr 14 0=ptr 14 0
abbrev WU:AV:=lst 2 5 λk=>[iI (US QG k),iI (US QK k)]
abbrev X2:Prop:=AV.row 911=AV.row 911
abbrev Z1:Prop:=AV.row 920=AV.row 920
abbrev Z2:Prop:=AV.row 921=AV.row 921
abbrev Z3:Prop:=AV.row 922=AV.row 922
abbrev Z4:Prop:=AV.row 923=AV.row 923
theorem Zp6:BD (DA U8 QY QA [] QF AW (FF z 0) (FF z 1) (F9 z))=(let A:=([AV.x (.iface 9 (.string ({data:=List.toArray (Lib.itoa (US QG (0:Int).toNat)) }++{data:=#[46,46] }++{data:=List.toArray (Lib.itoa (US QK (0:Int).toNat)) })))]);(need [G7 0 5] (need [(0:Int)<=US QG (0:Int).toNat/\US QG (0:Int).toNat<=1000\/(-1000:Int)<=US QG (0:Int).toNat/\US QG (0:Int).toNat<=1000,(-1000:Int)<=US QK (0:Int).toNat/\US QK (0:Int).toNat<=1000,4<=100] (need [32<=140737488355328,∀(i:Nat),i<1-> ∀(a:AV),a∈UO 1 A i->AV.one a=true] (need [U5 ((0:Int)+1)] (need [Q6,WF,QS,Z1,Z2,Z3,Z4,WU=WU,J9,(0:Int)+1=1,2=2,HH 2 (GX 1 (HN wl0) (UO 1 A)) (HN wl0),1=1,HB 1 (HN wl1),1=1,HB 1 (HN wl2),1=1,HB 1 (HN wl3),42=42,HB 42 (D8 rp0),WF,X2] (leaf GR.normal))))))):=by
 kernel_rfl
theorem Zp5:BD (DA U8 QY QA [] QF AW (FF z 1) (FF z 2) (F9 z))=(let A:=([AV.x (.iface 9 (.string ({data:=List.toArray (Lib.itoa (US QG (1:Int).toNat)) }++{data:=#[46,46] }++{data:=List.toArray (Lib.itoa (US QK (1:Int).toNat)) })))]);(need [G7 1 5] (need [(0:Int)<=US QG (1:Int).toNat/\US QG (1:Int).toNat<=1000\/(-1000:Int)<=US QG (1:Int).toNat/\US QG (1:Int).toNat<=1000,(-1000:Int)<=US QK (1:Int).toNat/\US QK (1:Int).toNat<=1000,8<=100] (need [48<=140737488355328,∀(i:Nat),i<1-> ∀(a:AV),a∈UO 1 A i->AV.one a=true] (need [U5 ((1:Int)+1)] (need [Q6,WF,QS,Z1,Z2,Z3,Z4,WU=WU,J9,(1:Int)+1=2,3=3,HH 3 (GX 2 (HN wl0) (UO 1 A)) (HN wl0),1=1,HB 1 (HN wl1),1=1,HB 1 (HN wl2),1=1,HB 1 (HN wl3),42=42,HB 42 (D8 rp0),WF,X2] (leaf GR.normal))))))):=by
 kernel_rfl
theorem Zp4:BD (DA U8 QY QA [] QF AW (FF z 2) (FF z 3) (F9 z))=(let A:=([AV.x (.iface 9 (.string ({data:=List.toArray (Lib.itoa (US QG (2:Int).toNat)) }++{data:=#[46,46] }++{data:=List.toArray (Lib.itoa (US QK (2:Int).toNat)) })))]);(need [G7 2 5] (need [(0:Int)<=US QG (2:Int).toNat/\US QG (2:Int).toNat<=1000\/(-1000:Int)<=US QG (2:Int).toNat/\US QG (2:Int).toNat<=1000,(-1000:Int)<=US QK (2:Int).toNat/\US QK (2:Int).toNat<=1000,8<=100] (need [64<=140737488355328,∀(i:Nat),i<1-> ∀(a:AV),a∈UO 1 A i->AV.one a=true] (need [U5 ((2:Int)+1)] (need [Q6,WF,QS,Z1,Z2,Z3,Z4,WU=WU,J9,(2:Int)+1=3,4=4,HH 4 (GX 3 (HN wl0) (UO 1 A)) (HN wl0),1=1,HB 1 (HN wl1),1=1,HB 1 (HN wl2),1=1,HB 1 (HN wl3),42=42,HB 42 (D8 rp0),WF,X2] (leaf GR.normal))))))):=by
 kernel_rfl
theorem Zp3:BD (DA U8 QY QA [] QF AW (FF z 3) (FF z 4) (F9 z))=(let A:=([AV.x (.iface 9 (.string ({data:=List.toArray (Lib.itoa (US QG (3:Int).toNat)) }++{data:=#[46,46] }++{data:=List.toArray (Lib.itoa (US QK (3:Int).toNat)) })))]);(need [G7 3 5] (need [(0:Int)<=US QG (3:Int).toNat/\US QG (3:Int).toNat<=1000\/(-1000:Int)<=US QG (3:Int).toNat/\US QG (3:Int).toNat<=1000,(-1000:Int)<=US QK (3:Int).toNat/\US QK (3:Int).toNat<=1000,8<=100] (need [80<=140737488355328,∀(i:Nat),i<1-> ∀(a:AV),a∈UO 1 A i->AV.one a=true] (need [U5 ((3:Int)+1)] (need [Q6,WF,QS,Z1,Z2,Z3,Z4,WU=WU,J9,(3:Int)+1=4,5=5,HH 5 (GX 4 (HN wl0) (UO 1 A)) (HN wl0),1=1,HB 1 (HN wl1),1=1,HB 1 (HN wl2),1=1,HB 1 (HN wl3),42=42,HB 42 (D8 rp0),WF,X2] (leaf GR.normal))))))):=by
 kernel_rfl
theorem Zp2:BD (DA U8 QY QA [] QF AW (FF z 4) (FF z 5) (F9 z))=(let A:=([AV.x (.iface 9 (.string ({data:=List.toArray (Lib.itoa (US QG (4:Int).toNat)) }++{data:=#[46,46] }++{data:=List.toArray (Lib.itoa (US QK (4:Int).toNat)) })))]);(need [G7 4 5] (need [(0:Int)<=US QG (4:Int).toNat/\US QG (4:Int).toNat<=1000\/(-1000:Int)<=US QG (4:Int).toNat/\US QG (4:Int).toNat<=1000,(-1000:Int)<=US QK (4:Int).toNat/\US QK (4:Int).toNat<=1000,10<=100] (need [96<=140737488355328,∀(i:Nat),i<1-> ∀(a:AV),a∈UO 1 A i->AV.one a=true] (need [U5 ((4:Int)+1)] (need [Q6,WF,QS,Z1,Z2,Z3,Z4,WU=WU,J9,(4:Int)+1=5,6=6,HH 6 (GX 5 (HN wl0) (UO 1 A)) (HN wl0),1=1,HB 1 (HN wl1),1=1,HB 1 (HN wl2),1=1,HB 1 (HN wl3),42=42,HB 42 (D8 rp0),WF,X2] (leaf GR.normal))))))):=by
 kernel_rfl
theorem Zp1:BD (DA U8 QY QA [] QF AW (FF z 5) (FF z 5) (F9 z))=(need [Q6,WF,QS,Z1,Z2,Z3,Z4,WU=WU,J9,J9,6=6,HB 6 (HN wl0),1=1,HB 1 (HN wl1),1=1,HB 1 (HN wl2),1=1,HB 1 (HN wl3),42=42,HB 42 (D8 rp0),WF,X2] (leaf (GR.exit 0))):=by
 kernel_rfl
end
theorem VE{p:Prop}(h:p:=by
 (with_reducible repeat' first|apply Al|intro _)
 all_goals first|exact Ak|(rename_i E hE;cases hE;exact hQ)|contradiction|omega|exact FK (by assumption) (by simp [AV.one,Value.oneCell'])|(rename_i i O;exact Qk3 (by decide+kernel) i O)|(rename_i i O;exact ltM UD i O)|exact iA (by decide+kernel)|exact Qb6 (by decide+kernel)|decide+kernel|with_reducible rfl|rfl):p:=h
theorem Zp7(z:Nat):GU U8 (.loop AW) (Xh1 z):=by
 refine GL QF (L:=[]) (Ae vJ (Ae v9 (Ae yT (Ae zK Aa)))) (Aj (Af vF (Af R9 (Af L3 (Af PR Ab)))) (Ag zL (Ag yS Ac)) (Ah zE (Ah rK (UV.nil _)))) UI UN (X:=Nat) (FF z) (λk=>k<=5) (λk=>6-k) (λ_=>F9 z) (x0:=0) (Ao _) ?_ ?_ ?_;intro k
 match k with
 | 0=>
  show Sx.okB (FF z 0)=true;kernel_rfl
 | 1=>
  show Sx.okB (FF z 1)=true;kernel_rfl
 | 2=>
  show Sx.okB (FF z 2)=true;kernel_rfl
 | 3=>
  show Sx.okB (FF z 3)=true;kernel_rfl
 | 4=>
  show Sx.okB (FF z 4)=true;kernel_rfl
 |k+5=>
  show Sx.okB (FF z 5)=true;kernel_rfl
 intro k y E h;unfold F9 at h;split at h;cases h;kernel_rfl;cases h;intro Q hQ k hx
 match k with
 | 0=>
  refine ⟨1,?_⟩
  with_reducible refine HR ?_
  rw [Zp6];simp only [ND,F9,U6.sat,HF] at hQ;simp only [U6.sat,UU,G4,U5,F9];exact VE
 | 1=>
  refine ⟨2,?_⟩
  with_reducible refine HR ?_
  rw [Zp5];simp only [ND,F9,U6.sat,HF] at hQ;simp only [U6.sat,UU,G4,U5,F9];exact VE
 | 2=>
  refine ⟨3,?_⟩
  with_reducible refine HR ?_
  rw [Zp4];simp only [ND,F9,U6.sat,HF] at hQ;simp only [U6.sat,UU,G4,U5,F9];exact VE
 | 3=>
  refine ⟨4,?_⟩
  with_reducible refine HR ?_
  rw [Zp3];simp only [ND,F9,U6.sat,HF] at hQ;simp only [U6.sat,UU,G4,U5,F9];exact VE
 | 4=>
  refine ⟨5,?_⟩
  with_reducible refine HR ?_
  rw [Zp2];simp only [ND,F9,U6.sat,HF] at hQ;simp only [U6.sat,UU,G4,U5,F9];exact VE
 | 5=>
  refine ⟨5,?_⟩
  with_reducible refine HR ?_
  rw [Zp1];simp only [ND,F9,U6.sat,HF] at hQ;simp only [U6.sat,UU,G4,U5,F9];exact VE
 |k+6=>omega
def TX(z:Nat):St:=((some {σ:=mkS 198 [(0,.top),(5,.ro (hsL UF)),(7,.ptr 14 0),(8,.fn (.func 40) [] [.ptr 14 0]),(9,.row 920),(10,.row 921),(11,.row 922),(12,.row 923),(116,.lst 2 3 (λk=>[i (US [0,1,-3] k),i (US [0,5,5] k)])),(117,i 3),(118,i 0)],m:=WZ,nx:=930}:Option St):Option St).getD {σ:=[],m:=[],nx:=0}
noncomputable def TY:Code:=UT (UC (UP Tryz.f12) 1)
abbrev X0:HO:=[(920,.row 20 1 6 (HN wl0)),(921,.row 20 1 4 (HN wl1)),(922,.row 20 1 1 (HN wl2)),(923,.row 20 1 1 (HN wl3)),(911,.row 5 1 42 (D8 rp0)),(14,.cells 104 [.ptr 14 0,.row 911])]
section
variable (z:Nat)
def LI:Nat->St
 | 0=>{σ:=HI [(116,.lst 2 3 (λk=>[i (US [0,1,-3] k),i (US [0,5,5] k)])),(117,i 3),(118,i 0)] (TX z).σ,m:=WZ,nx:=930}
 | 1=>{σ:=HI [(116,.lst 2 3 (λk=>[i (US [0,1,-3] k),i (US [0,5,5] k)])),(117,i 3),(118,i 1)] (TX z).σ,m:=[(920,.row 20 1 6 (HN wl0)),(921,.row 20 1 2 (HN wl1)),(922,.row 20 1 1 (HN wl2)),(923,.row 20 1 1 (HN wl3)),(911,.row 5 1 42 (D8 rp0)),(14,.cells 104 [.ptr 14 0,.row 911])],nx:=930}
 | 2=>{σ:=HI [(116,.lst 2 3 (λk=>[i (US [0,1,-3] k),i (US [0,5,5] k)])),(117,i 3),(118,i 2)] (TX z).σ,m:=[(920,.row 20 1 6 (HN wl0)),(921,.row 20 1 3 (HN wl1)),(922,.row 20 1 1 (HN wl2)),(923,.row 20 1 1 (HN wl3)),(911,.row 5 1 42 (D8 rp0)),(14,.cells 104 [.ptr 14 0,.row 911])],nx:=930}
 |_=>{σ:=HI [(116,.lst 2 3 (λk=>[i (US [0,1,-3] k),i (US [0,5,5] k)])),(117,i 3),(118,i 3)] (TX z).σ,m:=X0,nx:=930}
def L6:GR->Option St
 | .exit 2=>some {σ:=HI [(116,.lst 2 3 (λk=>[i (US [0,1,-3] k),i (US [0,5,5] k)])),(117,i 3),(118,i 3)] (TX z).σ,m:=X0,nx:=930}
 |_=>none
def nY:CT:= .leaf (.exit 2,(L6 z (.exit 2)).getD (TX z))
def Xh0:G5:=H4 QF (D1 (LI z 0) (nY z))
abbrev WB:AV:=lst 2 3 λk=>[iI (US [(0:Int),1,-3] k),iI (US [(0:Int),5,5] k)]
abbrev WX:List Int:=[(0:Int),1,-3]
abbrev Z9:List Int:=[(0:Int),5,5]
theorem Zo9:BD (DA U8 QY QA [] QF TY (LI z 0) (LI z 1) (L6 z))=(let A:=([AV.x (.iface 9 (.string ({data:=List.toArray (Lib.itoa (US WX (0:Int).toNat)) }++{data:=#[46,46] }++{data:=List.toArray (Lib.itoa (US Z9 (0:Int).toNat)) })))]);(need [G7 0 3] (need [(0:Int)<=US WX (0:Int).toNat/\US WX (0:Int).toNat<=1000\/(-1000:Int)<=US WX (0:Int).toNat/\US WX (0:Int).toNat<=1000,(-1000:Int)<=US Z9 (0:Int).toNat/\US Z9 (0:Int).toNat<=1000,4<=100] (need [32<=140737488355328,∀(i:Nat),i<1-> ∀(a:AV),a∈UO 1 A i->AV.one a=true] (need [U5 ((0:Int)+1)] (need [Q6,WF,QS,Z1,Z2,Z3,Z4,WB=WB,XI,(0:Int)+1=1,6=6,HB 6 (HN wl0),2=2,HH 2 (GX 1 (HN wl1) (UO 1 A)) (HN wl1),1=1,HB 1 (HN wl2),1=1,HB 1 (HN wl3),42=42,HB 42 (D8 rp0),WF,X2] (leaf GR.normal))))))):=by
 kernel_rfl
theorem Zo8:BD (DA U8 QY QA [] QF TY (LI z 1) (LI z 2) (L6 z))=(let A:=([AV.x (.iface 9 (.string ({data:=List.toArray (Lib.itoa (US WX (1:Int).toNat)) }++{data:=#[46,46] }++{data:=List.toArray (Lib.itoa (US Z9 (1:Int).toNat)) })))]);(need [G7 1 3] (need [(0:Int)<=US WX (1:Int).toNat/\US WX (1:Int).toNat<=1000\/(-1000:Int)<=US WX (1:Int).toNat/\US WX (1:Int).toNat<=1000,(-1000:Int)<=US Z9 (1:Int).toNat/\US Z9 (1:Int).toNat<=1000,4<=100] (need [48<=140737488355328,∀(i:Nat),i<1-> ∀(a:AV),a∈UO 1 A i->AV.one a=true] (need [U5 ((1:Int)+1)] (need [Q6,WF,QS,Z1,Z2,Z3,Z4,WB=WB,XI,(1:Int)+1=2,6=6,HB 6 (HN wl0),3=3,HH 3 (GX 2 (HN wl1) (UO 1 A)) (HN wl1),1=1,HB 1 (HN wl2),1=1,HB 1 (HN wl3),42=42,HB 42 (D8 rp0),WF,X2] (leaf GR.normal))))))):=by
 kernel_rfl
theorem Zo7:BD (DA U8 QY QA [] QF TY (LI z 2) (LI z 3) (L6 z))=(let A:=([AV.x (.iface 9 (.string ({data:=List.toArray (Lib.itoa (US WX (2:Int).toNat)) }++{data:=#[46,46] }++{data:=List.toArray (Lib.itoa (US Z9 (2:Int).toNat)) })))]);(need [G7 2 3] (need [(0:Int)<=US WX (2:Int).toNat/\US WX (2:Int).toNat<=1000\/(-1000:Int)<=US WX (2:Int).toNat/\US WX (2:Int).toNat<=1000,(-1000:Int)<=US Z9 (2:Int).toNat/\US Z9 (2:Int).toNat<=1000,5<=100] (need [64<=140737488355328,∀(i:Nat),i<1-> ∀(a:AV),a∈UO 1 A i->AV.one a=true] (need [U5 ((2:Int)+1)] (need [Q6,WF,QS,Z1,Z2,Z3,Z4,WB=WB,XI,(2:Int)+1=3,6=6,HB 6 (HN wl0),4=4,HH 4 (GX 3 (HN wl1) (UO 1 A)) (HN wl1),1=1,HB 1 (HN wl2),1=1,HB 1 (HN wl3),42=42,HB 42 (D8 rp0),WF,X2] (leaf GR.normal))))))):=by
 kernel_rfl
theorem Zo6:BD (DA U8 QY QA [] QF TY (LI z 3) (LI z 3) (L6 z))=(need [Q6,WF,QS,Z1,Z2,Z3,Z4,WB=WB,XI,XI,6=6,HB 6 (HN wl0),4=4,HB 4 (HN wl1),1=1,HB 1 (HN wl2),1=1,HB 1 (HN wl3),42=42,HB 42 (D8 rp0),WF,X2] (leaf (GR.exit 2))):=by
 kernel_rfl
theorem Zp0:GU U8 (.loop TY) (Xh0 z):=by
 refine GL QF (L:=[]) (Ae vJ (Ae v9 (Ae yT (Ae zK Aa)))) (Aj (Af vF (Af R9 (Af L3 (Af PR Ab)))) (Ag zL (Ag yS Ac)) (Ah zE (Ah rK (UV.nil _)))) UI UN (X:=Nat) (LI z) (λk=>k<=3) (λk=>4-k) (λ_=>L6 z) (x0:=0) (Ao _) ?_ ?_ ?_;intro k
 match k with
 | 0=>
  show Sx.okB (LI z 0)=true;kernel_rfl
 | 1=>
  show Sx.okB (LI z 1)=true;kernel_rfl
 | 2=>
  show Sx.okB (LI z 2)=true;kernel_rfl
 |k+3=>
  show Sx.okB (LI z 3)=true;kernel_rfl
 intro k y E h;unfold L6 at h;split at h;cases h;kernel_rfl;cases h;intro Q hQ k hx
 match k with
 | 0=>
  refine ⟨1,?_⟩
  with_reducible refine HR ?_
  rw [Zo9];simp only [nY,L6,U6.sat,HF] at hQ;simp only [U6.sat,UU,G4,U5,L6];exact VE
 | 1=>
  refine ⟨2,?_⟩
  with_reducible refine HR ?_
  rw [Zo8];simp only [nY,L6,U6.sat,HF] at hQ;simp only [U6.sat,UU,G4,U5,L6];exact VE
 | 2=>
  refine ⟨3,?_⟩
  with_reducible refine HR ?_
  rw [Zo7];simp only [nY,L6,U6.sat,HF] at hQ;simp only [U6.sat,UU,G4,U5,L6];exact VE
 | 3=>
  refine ⟨3,?_⟩
  with_reducible refine HR ?_
  rw [Zo6];simp only [nY,L6,U6.sat,HF] at hQ;simp only [U6.sat,UU,G4,U5,L6];exact VE
 |k+4=>omega
end
def Qq7(z:Nat):St:=((some {σ:=mkS 198 [(0,.top),(5,.ro (hsL UF)),(7,.ptr 14 0),(8,.fn (.func 40) [] [.ptr 14 0]),(9,.row 920),(10,.row 921),(11,.row 922),(12,.row 923),(136,hsC UF),(137,i 1),(138,i 0)],m:=X0,nx:=930}:Option St):Option St).getD {σ:=[],m:=[],nx:=0}
noncomputable def Qr3:Code:=UT (UC (UP Tryz.f12) 2)
abbrev X1:HO:=[(920,.row 20 1 6 (HN wl0)),(921,.row 20 1 4 (HN wl1)),(922,.row 20 1 2 (HN wl2)),(923,.row 20 1 1 (HN wl3)),(911,.row 5 1 42 (D8 rp0)),(14,.cells 104 [.ptr 14 0,.row 911])]
section
variable (z:Nat)
def x9:Nat->St
 | 0=>{σ:=HI [(136,hsC UF),(137,i 1),(138,i 0)] (Qq7 z).σ,m:=X0,nx:=930}
 |_=>{σ:=HI [(136,hsC UF),(137,i 1),(138,i 1)] (Qq7 z).σ,m:=X1,nx:=930}
def qR:GR->Option St
 | .exit 4=>some {σ:=HI [(136,hsC UF),(137,i 1),(138,i 1)] (Qq7 z).σ,m:=X1,nx:=930}
 |_=>none
def Xd5:CT:= .leaf (.exit 4,(qR z (.exit 4)).getD (Qq7 z))
def Xg9:G5:=H4 QF (D1 (x9 z 0) (Xd5 z))
abbrev YW:AV:=agg [hR 2 UF,iI UF.pl,iI UF.ph,hY 2 UF,hC 1 UF,hT 2 UF]
theorem Zo4:BD (DA U8 QY QA [] QF Qr3 (x9 z 0) (x9 z 1) (qR z))=(need [G7 0 UF.nc] (need [[YW,agg [iI (UF.ca (0:Int).toNat),iI (UF.cb (0:Int).toNat),iI (UF.cc (0:Int).toNat),iI (UF.cd (0:Int).toNat),AV.x (.bool (UF.cv (0:Int).toNat))],iI (UF.cd (0:Int).toNat)]=[YW,agg [iI (UF.ca 0),iI (UF.cb 0),iI (UF.cc 0),iI (UF.cd 0),AV.x (.bool (UF.cv 0))],iI (UF.cd 0)]] (need [32<=140737488355328,L0 1 (UO 1 [AV.x (.iface 3 (X3))])] (need [U5 ((0:Int)+1)] (need [Q6,WF,QS,Z1,Z2,Z3,Z4,UJ (hC 1 UF),KY,(0:Int)+1=1,6=6,HB 6 (HN wl0),4=4,HB 4 (HN wl1),2=2,HH 2 (GX 1 (HN wl2) (UO 1 [AV.x (.iface 3 (X3))])) (HN wl2),1=1,HB 1 (HN wl3),42=42,HB 42 (D8 rp0),WF,X2] (leaf GR.normal)))))):=by
 kernel_rfl
theorem Zo3:BD (DA U8 QY QA [] QF Qr3 (x9 z 1) (x9 z 1) (qR z))=(need [Q6,WF,QS,Z1,Z2,Z3,Z4,UJ (hC 1 UF),KY,KY,6=6,HB 6 (HN wl0),4=4,HB 4 (HN wl1),2=2,HB 2 (HN wl2),1=1,HB 1 (HN wl3),42=42,HB 42 (D8 rp0),WF,X2] (leaf (GR.exit 4))):=by
 kernel_rfl
theorem Zo5:GU U8 (.loop Qr3) (Xg9 z):=by
 refine GL QF (L:=[]) (Ae vJ (Ae v9 (Ae yT (Ae zK Aa)))) (Aj (Af vF (Af R9 (Af L3 (Af PR Ab)))) (Ag zL (Ag yS Ac)) (Ah zE (Ah rK (UV.nil _)))) UI UN (X:=Nat) (x9 z) (λk=>k<=1) (λk=>2-k) (λ_=>qR z) (x0:=0) (Ao _) ?_ ?_ ?_;intro k
 match k with
 | 0=>
  show Sx.okB (x9 z 0)=true;kernel_rfl
 |k+1=>
  show Sx.okB (x9 z 1)=true;kernel_rfl
 intro k y E h;unfold qR at h;split at h;cases h;kernel_rfl;cases h;intro Q hQ k hx
 match k with
 | 0=>
  refine ⟨1,?_⟩
  with_reducible refine HR ?_
  rw [Zo4];simp only [Xd5,qR,U6.sat,HF] at hQ;simp only [U6.sat,UU,G4,U5,qR];exact VE
 | 1=>
  refine ⟨1,?_⟩
  with_reducible refine HR ?_
  rw [Zo3];simp only [Xd5,qR,U6.sat,HF] at hQ;simp only [U6.sat,UU,G4,U5,qR];exact VE
 |k+2=>omega
end
def NR(z:Nat):St:=((some {σ:=mkS 198 [(0,.top),(5,.ro (hsL UF)),(7,.ptr 14 0),(8,.fn (.func 40) [] [.ptr 14 0]),(9,.row 920),(10,.row 921),(11,.row 922),(12,.row 923),(162,i 4),(163,i 0)],m:=X1,nx:=930}:Option St):Option St).getD {σ:=[],m:=[],nx:=0}
noncomputable def NV:Code:=UT (UC (UP Tryz.f12) 3)
abbrev JP:HO:=[(920,.row 20 1 6 (HN wl0)),(921,.row 20 1 4 (HN wl1)),(922,.row 20 1 2 (HN wl2)),(923,.row 20 1 5 (HN wl3)),(911,.row 5 1 42 (D8 rp0)),(14,.cells 104 [.ptr 14 0,.row 911])]
section
variable (z:Nat)
def RK:Nat->St
 | 0=>{σ:=HI [(162,i 4),(163,i 0)] (NR z).σ,m:=X1,nx:=930}
 | 1=>{σ:=HI [(162,i 4),(163,i 1)] (NR z).σ,m:=[(920,.row 20 1 6 (HN wl0)),(921,.row 20 1 4 (HN wl1)),(922,.row 20 1 2 (HN wl2)),(923,.row 20 1 2 (HN wl3)),(911,.row 5 1 42 (D8 rp0)),(14,.cells 104 [.ptr 14 0,.row 911])],nx:=930}
 | 2=>{σ:=HI [(162,i 4),(163,i 2)] (NR z).σ,m:=[(920,.row 20 1 6 (HN wl0)),(921,.row 20 1 4 (HN wl1)),(922,.row 20 1 2 (HN wl2)),(923,.row 20 1 3 (HN wl3)),(911,.row 5 1 42 (D8 rp0)),(14,.cells 104 [.ptr 14 0,.row 911])],nx:=930}
 | 3=>{σ:=HI [(162,i 4),(163,i 3)] (NR z).σ,m:=[(920,.row 20 1 6 (HN wl0)),(921,.row 20 1 4 (HN wl1)),(922,.row 20 1 2 (HN wl2)),(923,.row 20 1 4 (HN wl3)),(911,.row 5 1 42 (D8 rp0)),(14,.cells 104 [.ptr 14 0,.row 911])],nx:=930}
 |_=>{σ:=HI [(162,i 4),(163,i 4)] (NR z).σ,m:=JP,nx:=930}
def RE:GR->Option St
 | .exit 6=>some {σ:=HI [(162,i 4),(163,i 4)] (NR z).σ,m:=JP,nx:=930}
 |_=>none
def TK:CT:= .leaf (.exit 6,(RE z (.exit 6)).getD (NR z))
def Xg8:G5:=H4 QF (D1 (RK z 0) (TK z))
abbrev ZQ:AV:=agg [iI 4,iI 10,hT 2 UF]
abbrev ZS:List Int:=[(4:Int),2,4,0]
abbrev YO:Prop:=iI 100=iI 100
theorem Zo1:BD (DA U8 QY QA [] QF NV (RK z 0) (RK z 1) (RE z))=(let A:=([AV.x (.iface 3 (.int .i64 (US ZS (0:Int).toNat)))]);(need [ZQ=ZQ,YO,(0:Int)<=0/\(0:Int)<=3] (need [32<=140737488355328,∀(i:Nat),i<1-> ∀(a:AV),a∈UO 1 A i->AV.one a=true] (need [U5 ((0:Int)+1)] (need [Q6,WF,QS,Z1,Z2,Z3,Z4,W5,(0:Int)+1=1,6=6,HB 6 (HN wl0),4=4,HB 4 (HN wl1),2=2,HB 2 (HN wl2),2=2,HH 2 (GX 1 (HN wl3) (UO 1 A)) (HN wl3),42=42,HB 42 (D8 rp0),WF,X2] (leaf GR.normal)))))):=by
 kernel_rfl
theorem Zo0:BD (DA U8 QY QA [] QF NV (RK z 1) (RK z 2) (RE z))=(let A:=([AV.x (.iface 3 (.int .i64 (US ZS (1:Int).toNat)))]);(need [ZQ=ZQ,YO,(0:Int)<=1/\(1:Int)<=3] (need [48<=140737488355328,∀(i:Nat),i<1-> ∀(a:AV),a∈UO 1 A i->AV.one a=true] (need [U5 ((1:Int)+1)] (need [Q6,WF,QS,Z1,Z2,Z3,Z4,W5,(1:Int)+1=2,6=6,HB 6 (HN wl0),4=4,HB 4 (HN wl1),2=2,HB 2 (HN wl2),3=3,HH 3 (GX 2 (HN wl3) (UO 1 A)) (HN wl3),42=42,HB 42 (D8 rp0),WF,X2] (leaf GR.normal)))))):=by
 kernel_rfl
theorem Zn9:BD (DA U8 QY QA [] QF NV (RK z 2) (RK z 3) (RE z))=(let A:=([AV.x (.iface 3 (.int .i64 (US ZS (2:Int).toNat)))]);(need [ZQ=ZQ,YO,(0:Int)<=2/\(2:Int)<=3] (need [64<=140737488355328,∀(i:Nat),i<1-> ∀(a:AV),a∈UO 1 A i->AV.one a=true] (need [U5 ((2:Int)+1)] (need [Q6,WF,QS,Z1,Z2,Z3,Z4,W5,(2:Int)+1=3,6=6,HB 6 (HN wl0),4=4,HB 4 (HN wl1),2=2,HB 2 (HN wl2),4=4,HH 4 (GX 3 (HN wl3) (UO 1 A)) (HN wl3),42=42,HB 42 (D8 rp0),WF,X2] (leaf GR.normal)))))):=by
 kernel_rfl
theorem Zn8:BD (DA U8 QY QA [] QF NV (RK z 3) (RK z 4) (RE z))=(let A:=([AV.x (.iface 3 (.int .i64 (US ZS (3:Int).toNat)))]);(need [ZQ=ZQ,YO,(0:Int)<=3/\(3:Int)<=3] (need [80<=140737488355328,∀(i:Nat),i<1-> ∀(a:AV),a∈UO 1 A i->AV.one a=true] (need [U5 ((3:Int)+1)] (need [Q6,WF,QS,Z1,Z2,Z3,Z4,W5,(3:Int)+1=4,6=6,HB 6 (HN wl0),4=4,HB 4 (HN wl1),2=2,HB 2 (HN wl2),5=5,HH 5 (GX 4 (HN wl3) (UO 1 A)) (HN wl3),42=42,HB 42 (D8 rp0),WF,X2] (leaf GR.normal)))))):=by
 kernel_rfl
theorem Zn7:BD (DA U8 QY QA [] QF NV (RK z 4) (RK z 4) (RE z))=(need [Q6,WF,QS,Z1,Z2,Z3,Z4,W5,W5,6=6,HB 6 (HN wl0),4=4,HB 4 (HN wl1),2=2,HB 2 (HN wl2),5=5,HB 5 (HN wl3),42=42,HB 42 (D8 rp0),WF,X2] (leaf (GR.exit 6))):=by
 kernel_rfl
theorem Zo2:GU U8 (.loop NV) (Xg8 z):=by
 refine GL QF (L:=[]) (Ae vJ (Ae v9 (Ae yT (Ae zK Aa)))) (Aj (Af vF (Af R9 (Af L3 (Af PR Ab)))) (Ag zL (Ag yS Ac)) (Ah zE (Ah rK (UV.nil _)))) UI UN (X:=Nat) (RK z) (λk=>k<=4) (λk=>5-k) (λ_=>RE z) (x0:=0) (Ao _) ?_ ?_ ?_;intro k
 match k with
 | 0=>
  show Sx.okB (RK z 0)=true;kernel_rfl
 | 1=>
  show Sx.okB (RK z 1)=true;kernel_rfl
 | 2=>
  show Sx.okB (RK z 2)=true;kernel_rfl
 | 3=>
  show Sx.okB (RK z 3)=true;kernel_rfl
 |k+4=>
  show Sx.okB (RK z 4)=true;kernel_rfl
 intro k y E h;unfold RE at h;split at h;cases h;kernel_rfl;cases h;intro Q hQ k hx
 match k with
 | 0=>
  refine ⟨1,?_⟩
  with_reducible refine HR ?_
  rw [Zo1];simp only [TK,RE,U6.sat,HF] at hQ;simp only [U6.sat,UU,G4,U5,RE];exact VE
 | 1=>
  refine ⟨2,?_⟩
  with_reducible refine HR ?_
  rw [Zo0];simp only [TK,RE,U6.sat,HF] at hQ;simp only [U6.sat,UU,G4,U5,RE];exact VE
 | 2=>
  refine ⟨3,?_⟩
  with_reducible refine HR ?_
  rw [Zn9];simp only [TK,RE,U6.sat,HF] at hQ;simp only [U6.sat,UU,G4,U5,RE];exact VE
 | 3=>
  refine ⟨4,?_⟩
  with_reducible refine HR ?_
  rw [Zn8];simp only [TK,RE,U6.sat,HF] at hQ;simp only [U6.sat,UU,G4,U5,RE];exact VE
 | 4=>
  refine ⟨4,?_⟩
  with_reducible refine HR ?_
  rw [Zn7];simp only [TK,RE,U6.sat,HF] at hQ;simp only [U6.sat,UU,G4,U5,RE];exact VE
 |k+5=>omega
end
abbrev JU:HO:=[(925,.row 105 1 4 (UO 1 [.lst 1 6 (HN wl0),.lst 1 4 (HN wl1),.lst 1 2 (HN wl2),.lst 1 5 (HN wl3)])),(911,.row 5 1 42 (D8 rp0)),(14,.cells 104 [.ptr 14 0,.row 911])]
def NQ(z:Nat):St:=((some {σ:=mkS 198 [(0,.top),(5,.ro (hsL UF)),(7,.ptr 14 0),(8,.fn (.func 40) [] [.ptr 14 0]),(187,.row 925),(188,i 4),(189,i 0)],m:=JU,nx:=930}:Option St):Option St).getD {σ:=[],m:=[],nx:=0}
noncomputable def NU:Code:=UT (UC (UP Tryz.f12) 4)
abbrev JS:HO:=[(925,.row 105 1 4 (UO 1 [.lst 1 6 (HN wl0),.lst 1 4 (HN wl1),.lst 1 2 (HN wl2),.lst 1 5 (HN wl3)])),(911,.row 5 1 136 (D8 rp4)),(14,.cells 104 [.ptr 14 0,.row 911])]
section
variable (z:Nat)
def RJ:Nat->St
 | 0=>{σ:=HI [(187,.row 925),(188,i 4),(189,i 0)] (NQ z).σ,m:=JU,nx:=930}
 | 1=>{σ:=HI [(187,.row 925),(188,i 4),(189,i 1)] (NQ z).σ,m:=[(925,.row 105 1 4 (UO 1 [.lst 1 6 (HN wl0),.lst 1 4 (HN wl1),.lst 1 2 (HN wl2),.lst 1 5 (HN wl3)])),(911,.row 5 1 91 (D8 rp1)),(14,.cells 104 [.ptr 14 0,.row 911])],nx:=930}
 | 2=>{σ:=HI [(187,.row 925),(188,i 4),(189,i 2)] (NQ z).σ,m:=[(925,.row 105 1 4 (UO 1 [.lst 1 6 (HN wl0),.lst 1 4 (HN wl1),.lst 1 2 (HN wl2),.lst 1 5 (HN wl3)])),(911,.row 5 1 115 (D8 rp2)),(14,.cells 104 [.ptr 14 0,.row 911])],nx:=930}
 | 3=>{σ:=HI [(187,.row 925),(188,i 4),(189,i 3)] (NQ z).σ,m:=[(925,.row 105 1 4 (UO 1 [.lst 1 6 (HN wl0),.lst 1 4 (HN wl1),.lst 1 2 (HN wl2),.lst 1 5 (HN wl3)])),(911,.row 5 1 123 (D8 rp3)),(14,.cells 104 [.ptr 14 0,.row 911])],nx:=930}
 |_=>{σ:=HI [(187,.row 925),(188,i 4),(189,i 4)] (NQ z).σ,m:=JS,nx:=930}
def RD:GR->Option St
 | .exit 8=>some {σ:=HI [(187,.row 925),(188,i 4),(189,i 4)] (NQ z).σ,m:=JS,nx:=930}
 |_=>none
def TJ:CT:= .leaf (.exit 8,(RD z (.exit 8)).getD (NQ z))
def Xg7:G5:=H4 [(.slot 187,925,105,1),(.cell 14 1,911,5,1)] (D1 (RJ z 0) (TJ z))
noncomputable abbrev JE:AV:=lst 1 6 λk=>[Option.rec (top) (λval=>(λval=>(λx=>x) val) val) wl0[k]?]
noncomputable abbrev JF:AV:=lst 1 4 λk=>[Option.rec (top) (λval=>(λval=>(λx=>x) val) val) wl1[k]?]
noncomputable abbrev JG:AV:=lst 1 2 λk=>[Option.rec (top) (λval=>(λval=>(λx=>x) val) val) wl2[k]?]
noncomputable abbrev JH:AV:=lst 1 5 λk=>[Option.rec (top) (λval=>(λval=>(λx=>x) val) val) wl3[k]?]
noncomputable abbrev Q7:List AV:=[JE,JF,JG,JH]
abbrev WS:List AV:=[AV.x (.string {data:=#[(48:UInt8),(46:UInt8),(46:UInt8),(48:UInt8)] })]
abbrev XG:List AV:=[AV.x (.string {data:=#[(49:UInt8),(48:UInt8),(48:UInt8),(48:UInt8),(46:UInt8),(46:UInt8),(49:UInt8),(48:UInt8),(48:UInt8),(48:UInt8)] })]
abbrev XT:List AV:=[AV.x (.string {data:=#[(50:UInt8),(48:UInt8),(48:UInt8),(46:UInt8),(46:UInt8),(51:UInt8),(48:UInt8),(48:UInt8)] })]
abbrev XU:List AV:=[AV.x (.string {data:=#[(52:UInt8),(49:UInt8),(48:UInt8),(46:UInt8),(46:UInt8),(53:UInt8),(49:UInt8),(48:UInt8)] })]
abbrev XV:List AV:=[AV.x (.string {data:=#[(55:UInt8),(48:UInt8),(48:UInt8),(46:UInt8),(46:UInt8),(56:UInt8),(48:UInt8),(48:UInt8)] })]
abbrev Z7:Value:=Value.string {data:=#[(109:UInt8),(97:UInt8),(114:UInt8),(107:UInt8),(115:UInt8)] }
abbrev JA:List (Pl×Nat×TypeId×Nat):=[(.slot 187,925,105,1),(.cell 14 1,911,5,1)]
abbrev YB:Prop:=AV.row 925=AV.row 925
theorem Zn5:BD (DA U8 QY QA [] JA NU (RJ z 0) (RJ z 1) (RD z))=(let A:=(GX 5 (GX 4 (GX 3 (GX 2 (GX 1 (GX 0 (λx=>[]) (UO 1 [AV.x (Z7)])) (UO 1 WS)) (UO 1 XT)) (UO 1 XU)) (UO 1 XV)) (UO 1 XG));(need [G7 0 4] (need [(0:Int).toNat<4] (need [G7 0 6] (need [16<=140737488355328,L0 1 (UO 1 [AV.x (Z7)])] (need [U5 ((0:Int)+1)] (need [(0:Int)<=0+1/\(0:Int)+1<((6:Nat):Int)] (need [32<=140737488355328,∀(i:Nat),i<1-> ∀(a:AV),a∈UO 1 WS i->AV.one a=true] (need [U5 ((0:Int)+1+1)] (need [(0:Int)<=0+1+1/\(0:Int)+1+1<((6:Nat):Int)] (need [48<=140737488355328,∀(i:Nat),i<1-> ∀(a:AV),a∈UO 1 XT i->AV.one a=true] (need [U5 ((0:Int)+1+1+1)] (need [(0:Int)<=0+1+1+1/\(0:Int)+1+1+1<((6:Nat):Int)] (need [64<=140737488355328,∀(i:Nat),i<1-> ∀(a:AV),a∈UO 1 XU i->AV.one a=true] (need [U5 ((0:Int)+1+1+1+1)] (need [(0:Int)<=0+1+1+1+1/\(0:Int)+1+1+1+1<((6:Nat):Int)] (need [80<=140737488355328,∀(i:Nat),i<1-> ∀(a:AV),a∈UO 1 XV i->AV.one a=true] (need [U5 ((0:Int)+1+1+1+1+1)] (need [(0:Int)<=0+1+1+1+1+1/\(0:Int)+1+1+1+1+1<((6:Nat):Int)] (need [96<=140737488355328,∀(i:Nat),i<1-> ∀(a:AV),a∈UO 1 XG i->AV.one a=true] (need [U5 ((0:Int)+1+1+1+1+1+1)] (need [6<=100000,yA 6 A,ByteArray.size (jnB 6 A {data:=#[32] })<=140737488355328] (need [((49:Nat):Int)<=9223372036854775807] (need [91<=140737488355328] (need [U5 ((0:Int)+1)] (need [Q6,WF,QS,YB,W5,(0:Int)+1=1,4=4,HB 4 (UO 1 Q7),91=91,HH 91 (GX 42 (D8 rp0) (D8 (jnB 6 A {data:=#[32] }++{data:=#[10] }))) (D8 rp1),WF,X2] (leaf GR.normal))))))))))))))))))))))))))):=by
 kernel_rfl
abbrev XH:Value:=Value.string {data:=#[(111:UInt8),(102:UInt8),(102:UInt8),(115:UInt8),(101:UInt8),(116:UInt8),(115:UInt8)] }
abbrev ZM:List AV:=[AV.x (.string {data:=#[(45:UInt8),(51:UInt8),(46:UInt8),(46:UInt8),(53:UInt8)] })]
abbrev ZY:List AV:=[AV.x (.string {data:=#[(49:UInt8),(46:UInt8),(46:UInt8),(53:UInt8)] })]
theorem Zn4:BD (DA U8 QY QA [] JA NU (RJ z 1) (RJ z 2) (RD z))=(let A:=(GX 3 (GX 2 (GX 1 (GX 0 (λx=>[]) (UO 1 [AV.x (XH)])) (UO 1 WS)) (UO 1 ZY)) (UO 1 ZM));(need [G7 1 4] (need [(1:Int).toNat<4] (need [G7 0 4] (need [16<=140737488355328,L0 1 (UO 1 [AV.x (XH)])] (need [U5 ((0:Int)+1)] (need [(0:Int)<=0+1/\(0:Int)+1<((4:Nat):Int)] (need [32<=140737488355328,∀(i:Nat),i<1-> ∀(a:AV),a∈UO 1 WS i->AV.one a=true] (need [U5 ((0:Int)+1+1)] (need [(0:Int)<=0+1+1/\(0:Int)+1+1<((4:Nat):Int)] (need [48<=140737488355328,∀(i:Nat),i<1-> ∀(a:AV),a∈UO 1 ZY i->AV.one a=true] (need [U5 ((0:Int)+1+1+1)] (need [(0:Int)<=0+1+1+1/\(0:Int)+1+1+1<((4:Nat):Int)] (need [64<=140737488355328,∀(i:Nat),i<1-> ∀(a:AV),a∈UO 1 ZM i->AV.one a=true] (need [U5 ((0:Int)+1+1+1+1)] (need [4<=100000,yA 4 A,ByteArray.size (jnB 4 A {data:=#[32] })<=140737488355328] (need [((24:Nat):Int)<=9223372036854775807] (need [115<=140737488355328] (need [U5 ((1:Int)+1)] (need [Q6,WF,QS,YB,W5,(1:Int)+1=2,4=4,HB 4 (UO 1 Q7),115=115,HH 115 (GX 91 (D8 rp1) (D8 (jnB 4 A {data:=#[32] }++{data:=#[10] }))) (D8 rp2),WF,X2] (leaf GR.normal))))))))))))))))))))):=by
 kernel_rfl
abbrev XP:List AV:=[AV.x (.string {data:=List.toArray (Lib.itoa (0:Int)) })]
abbrev Z8:Value:=Value.string {data:=#[(115:UInt8),(116:UInt8),(97:UInt8),(110:UInt8),(100:UInt8)] }
theorem Zn3:BD (DA U8 QY QA [] JA NU (RJ z 2) (RJ z 3) (RD z))=(let A:=(GX 1 (GX 0 (λx=>[]) (UO 1 [AV.x (Z8)])) (UO 1 XP));(need [G7 2 4] (need [(2:Int).toNat<4] (need [G7 0 2] (need [16<=140737488355328,L0 1 (UO 1 [AV.x (Z8)])] (need [U5 ((0:Int)+1)] (need [(0:Int)<=0+1/\(0:Int)+1<((2:Nat):Int)] (need [U5 (0:Int)] (need [32<=140737488355328,∀(i:Nat),i<1-> ∀(a:AV),a∈UO 1 XP i->AV.one a=true] (need [U5 ((0:Int)+1+1)] (need [2<=100000,yA 2 A,ByteArray.size (jnB 2 A {data:=#[32] })<=140737488355328] (need [((8:Nat):Int)<=9223372036854775807] (need [123<=140737488355328] (need [U5 ((2:Int)+1)] (need [Q6,WF,QS,YB,W5,(2:Int)+1=3,4=4,HB 4 (UO 1 Q7),123=123,HH 123 (GX 115 (D8 rp2) (D8 (jnB 2 A {data:=#[32] }++{data:=#[10] }))) (D8 rp3),WF,X2] (leaf GR.normal)))))))))))))))):=by
 kernel_rfl
abbrev XQ:List AV:=[AV.x (.string {data:=List.toArray (Lib.itoa (4:Int)) })]
abbrev ZG:Value:=Value.string {data:=#[(104:UInt8),(111:UInt8),(108:UInt8),(100:UInt8)] }
abbrev JM:List AV:=[AV.x (.string {data:=List.toArray (Lib.itoa (2:Int)) })]
theorem Zn2:BD (DA U8 QY QA [] JA NU (RJ z 3) (RJ z 4) (RD z))=(let A:=(GX 4 (GX 3 (GX 2 (GX 1 (GX 0 (λx=>[]) (UO 1 [AV.x (ZG)])) (UO 1 XQ)) (UO 1 JM)) (UO 1 XQ)) (UO 1 XP));(need [G7 3 4] (need [(3:Int).toNat<4] (need [G7 0 5] (need [16<=140737488355328,L0 1 (UO 1 [AV.x (ZG)])] (need [U5 ((0:Int)+1)] (need [(0:Int)<=0+1/\(0:Int)+1<((5:Nat):Int)] (need [U5 (4:Int)] (need [32<=140737488355328,∀(i:Nat),i<1-> ∀(a:AV),a∈UO 1 XQ i->AV.one a=true] (need [U5 ((0:Int)+1+1)] (need [(0:Int)<=0+1+1/\(0:Int)+1+1<((5:Nat):Int)] (need [U5 (2:Int)] (need [48<=140737488355328,∀(i:Nat),i<1-> ∀(a:AV),a∈UO 1 JM i->AV.one a=true] (need [U5 ((0:Int)+1+1+1)] (need [(0:Int)<=0+1+1+1/\(0:Int)+1+1+1<((5:Nat):Int)] (need [U5 (4:Int)] (need [64<=140737488355328,∀(i:Nat),i<1-> ∀(a:AV),a∈UO 1 XQ i->AV.one a=true] (need [U5 ((0:Int)+1+1+1+1)] (need [(0:Int)<=0+1+1+1+1/\(0:Int)+1+1+1+1<((5:Nat):Int)] (need [U5 (0:Int)] (need [80<=140737488355328,∀(i:Nat),i<1-> ∀(a:AV),a∈UO 1 XP i->AV.one a=true] (need [U5 ((0:Int)+1+1+1+1+1)] (need [5<=100000,yA 5 A,ByteArray.size (jnB 5 A {data:=#[32] })<=140737488355328] (need [((13:Nat):Int)<=9223372036854775807] (need [136<=140737488355328] (need [U5 ((3:Int)+1)] (need [Q6,WF,QS,YB,W5,(3:Int)+1=4,4=4,HB 4 (UO 1 Q7),136=136,HH 136 (GX 123 (D8 rp3) (D8 (jnB 5 A {data:=#[32] }++{data:=#[10] }))) (D8 rp4),WF,X2] (leaf GR.normal)))))))))))))))))))))))))))):=by
 kernel_rfl
theorem Zn1:BD (DA U8 QY QA [] JA NU (RJ z 4) (RJ z 4) (RD z))=(need [Q6,WF,QS,YB,W5,W5,4=4,HB 4 (UO 1 Q7),136=136,HB 136 (D8 rp4),WF,X2] (leaf (GR.exit 8))):=by
 kernel_rfl
theorem Zn6:GU U8 (.loop NU) (Xg7 z):=by
 refine GL JA (L:=[]) (Ae vJ (Ae v9 (Ae yT (Ae zK Aa)))) (Aj (Af vF (Af R9 (Af L3 (Af PR Ab)))) (Ag zL (Ag yS Ac)) (Ah zE (Ah rK (UV.nil _)))) UI UN (X:=Nat) (RJ z) (λk=>k<=4) (λk=>5-k) (λ_=>RD z) (x0:=0) (Ao _) ?_ ?_ ?_;intro k
 match k with
 | 0=>
  show Sx.okB (RJ z 0)=true;kernel_rfl
 | 1=>
  show Sx.okB (RJ z 1)=true;kernel_rfl
 | 2=>
  show Sx.okB (RJ z 2)=true;kernel_rfl
 | 3=>
  show Sx.okB (RJ z 3)=true;kernel_rfl
 |k+4=>
  show Sx.okB (RJ z 4)=true;kernel_rfl
 intro k y E h;unfold RD at h;split at h;cases h;kernel_rfl;cases h;intro Q hQ k hx
 match k with
 | 0=>
  refine ⟨1,?_⟩
  with_reducible refine HR ?_
  rw [Zn5];simp only [TJ,RD,U6.sat,HF] at hQ;simp only [U6.sat,UU,G4,U5,RD];exact VE
 | 1=>
  refine ⟨2,?_⟩
  with_reducible refine HR ?_
  rw [Zn4];simp only [TJ,RD,U6.sat,HF] at hQ;simp only [U6.sat,UU,G4,U5,RD];exact VE
 | 2=>
  refine ⟨3,?_⟩
  with_reducible refine HR ?_
  rw [Zn3];simp only [TJ,RD,U6.sat,HF] at hQ;simp only [U6.sat,UU,G4,U5,RD];exact VE
 | 3=>
  refine ⟨4,?_⟩
  with_reducible refine HR ?_
  rw [Zn2];simp only [TJ,RD,U6.sat,HF] at hQ;simp only [U6.sat,UU,G4,U5,RD];exact VE
 | 4=>
  refine ⟨4,?_⟩
  with_reducible refine HR ?_
  rw [Zn1];simp only [TJ,RD,U6.sat,HF] at hQ;simp only [U6.sat,UU,G4,U5,RD];exact VE
 |k+5=>omega
end
theorem gG{S:Code->G5->Prop}{c:Code}{s0 s1 s2 s3 s4:G5}(h0: ∀cj,UC c 0=some cj->S cj s0)(h1: ∀cj,UC c 1=some cj->S cj s1)(h2: ∀cj,UC c 2=some cj->S cj s2)(h3: ∀cj,UC c 3=some cj->S cj s3)(h4: ∀cj,UC c 4=some cj->S cj s4):
  ∀j cj,UC c j=some cj-> ∀sp,[s0,s1,s2,s3,s4][j]? =some sp->S cj sp:=by
 intro j cj hj sp hsp
 match j with
 | 0=>simp at hsp;subst hsp;exact h0 cj hj
 | 1=>simp at hsp;subst hsp;exact h1 cj hj
 | 2=>simp at hsp;subst hsp;exact h2 cj hj
 | 3=>simp at hsp;subst hsp;exact h3 cj hj
 | 4=>simp at hsp;subst hsp;exact h4 cj hj
 |j+5=>simp at hsp
theorem Zx3(B:ByteArray):bsO B.size (D8 B)=B:=by
 unfold bsO;apply ByteArray.ext;apply Array.ext;show ((List.range B.size).map _).toArray.size=B.data.size;rw [List.size_toArray,Bm,List.length_range];rfl;intro j h1 h2;have h3:j<B.data.size:=h2;simp [D8,byO,DZ,PF,Array.getElem?_eq_getElem h3]
abbrev V5:HO:=[(911,.row 5 1 42 (D8 rp0)),(14,.cells 104 [.ptr 14 0,.row 911])]
def oV:St:={σ:=mkS 198 [(5,.ro (hsL UF)),(7,.ptr 14 0),(8,.fn (.func 40) [] [.ptr 14 0]),(9,.lst 1 6 (HN wl0)),(10,.lst 1 4 (HN wl1)),(11,.lst 1 2 (HN wl2)),(12,.lst 1 5 (HN wl3))],m:=V5,nx:=930}
def oW:St:={σ:=mkS 198 [(0,.top),(5,.ro (hsL UF)),(7,.ptr 14 0),(8,.fn (.func 40) [] [.ptr 14 0])],m:=V5,nx:=930}
abbrev WO:List AV:=[lst 1 11 λk=>[HP (GA UR k)]]
abbrev WR:List AV:=[AV.x (.string {data:=#[(99:UInt8),(101:UInt8),(114:UInt8),(116:UInt8),(105:UInt8),(102:UInt8),(105:UInt8),(99:UInt8),(97:UInt8),(116:UInt8),(101:UInt8),(115:UInt8)] })]
abbrev WY:List AV:=[agg [iI 4,iI 100,iI 20,iI 30,hR 2 UF,lst 2 3 λk=>[iI (tbP k),iI (tbQ k)],iI UF.pl,iI UF.ph,iI 1,iI 3],iI 0]
abbrev XM:List AV:=[AV.x (.string {data:=#[(114:UInt8),(101:UInt8),(97:UInt8),(100:UInt8),(105:UInt8),(110:UInt8),(103:UInt8),(115:UInt8)] })]
abbrev ZK:List AV:=[AV.x (.string {data:=#[(115:UInt8),(97:UInt8),(108:UInt8),(101:UInt8),(115:UInt8)] })]
abbrev ZL:List AV:=[AV.x (.string {data:=#[(98:UInt8),(97:UInt8),(116:UInt8),(104:UInt8),(115:UInt8)] })]
theorem mS:UH U8 12 [lns 11 (GA UR)] (.tup [.x (.string Zp8),i 0]):=by
 have hG:U4 U8 [(35,Qd7),(19,Qd5),(38,Qd4),(45,CN)]:=(Ae vJ (Ae v9 (Ae yT (Ae zK Aa))));have hX: ∀cx,UG U8 QA cx:=(Aj (Af vF (Af R9 (Af L3 (Af PR Ab)))) (Ag zL (Ag yS Ac)) (Ah zE (Ah rK (UV.nil _))));have HE:Tryz.prog.follows .mixedOrders=true:=UI
 refine aE (L:=[Xh1 0,Xh0 0,Xg9 0,Xg8 0,Xg7 0]) Tryz.func12 (GF Tryz.f12) (λcx=>(fG (N:=[(.cell 14 1,911,5,1)]) (s2:=oW) hG (hX cx) HE (fG (N:=[(.slot 9,0,0,0),(.slot 10,0,0,0),(.slot 11,0,0,0),(.slot 12,0,0,0)]) (s2:=oV) hG (hX cx) HE (nH hG (hX cx) HE) UD 7) UD 6)) (gG (lpE (b:= .loop AW) UD<|(Zp7 0).N) (lpE (b:= .loop TY) UD<|(Zp0 0).N) (lpE (b:= .loop Qr3) UD<|(Zo5 0).N) (lpE (b:= .loop NV) UD<|(Zo2 0).N) (lpE (b:= .loop NU) UD<|(Zn6 0).N)) (t:=let z1:=([AV.x (.string {data:=List.toArray (Lib.itoa (↑UF.nr:Int)) })]);let z2:=([AV.x (.string {data:=List.toArray (Lib.itoa (↑UF.nb:Int)) })]);let z3:=([AV.x (.string {data:=List.toArray (Lib.itoa (↑UF.nc:Int)) })]);let z4:=([AV.x (.string {data:=List.toArray (Lib.itoa (↑UF.ns:Int)) })]);let A:=(GX 7 (GX 6 (GX 5 (GX 4 (GX 3 (GX 2 (GX 1 (GX 0 (λx=>[]) (UO 1 XM)) (UO 1 z1)) (UO 1 ZL)) (UO 1 z2)) (UO 1 WR)) (UO 1 z3)) (UO 1 ZK)) (UO 1 z4));(need [WO=WO] (branch ((0:Int) != 0) (leaf (RV.tup [RV.x (.string {data:=#[] }),RV.x (X3)])) (need [WO=WO] (need [G7 0 8] (need [(0:Int).toNat<8] (need [16<=140737488355328,∀(i:Nat),i<1-> ∀(a:AV),a∈UO 1 XM i->AV.one a=true] (need [U5 ((0:Int)+1)] (need [(0:Int)<=0+1/\(0:Int)+1<((8:Nat):Int)] (need [((0:Int)+1).toNat<8] (need [U5 (↑UF.nr:Int)] (need [32<=140737488355328,∀(i:Nat),i<1-> ∀(a:AV),a∈UO 1 z1 i->AV.one a=true] (need [U5 ((0:Int)+1+1)] (need [(0:Int)<=0+1+1/\(0:Int)+1+1<((8:Nat):Int)] (need [((0:Int)+1+1).toNat<8] (need [48<=140737488355328,∀(i:Nat),i<1-> ∀(a:AV),a∈UO 1 ZL i->AV.one a=true] (need [U5 ((0:Int)+1+1+1)] (need [(0:Int)<=0+1+1+1/\(0:Int)+1+1+1<((8:Nat):Int)] (need [((0:Int)+1+1+1).toNat<8] (need [U5 (↑UF.nb:Int)] (need [64<=140737488355328,∀(i:Nat),i<1-> ∀(a:AV),a∈UO 1 z2 i->AV.one a=true] (need [U5 ((0:Int)+1+1+1+1)] (need [(0:Int)<=0+1+1+1+1/\(0:Int)+1+1+1+1<((8:Nat):Int)] (need [((0:Int)+1+1+1+1).toNat<8] (need [80<=140737488355328,∀(i:Nat),i<1-> ∀(a:AV),a∈UO 1 WR i->AV.one a=true] (need [U5 ((0:Int)+1+1+1+1+1)] (need [(0:Int)<=0+1+1+1+1+1/\(0:Int)+1+1+1+1+1<((8:Nat):Int)] (need [((0:Int)+1+1+1+1+1).toNat<8] (need [U5 (↑UF.nc:Int)] (need [96<=140737488355328,∀(i:Nat),i<1-> ∀(a:AV),a∈UO 1 z3 i->AV.one a=true] (need [U5 ((0:Int)+1+1+1+1+1+1)] (need [(0:Int)<=0+1+1+1+1+1+1/\(0:Int)+1+1+1+1+1+1<((8:Nat):Int)] (need [((0:Int)+1+1+1+1+1+1).toNat<8] (need [112<=140737488355328,∀(i:Nat),i<1-> ∀(a:AV),a∈UO 1 ZK i->AV.one a=true] (need [U5 ((0:Int)+1+1+1+1+1+1+1)] (need [(0:Int)<=0+1+1+1+1+1+1+1/\(0:Int)+1+1+1+1+1+1+1<((8:Nat):Int)] (need [((0:Int)+1+1+1+1+1+1+1).toNat<8] (need [U5 (↑UF.ns:Int)] (need [128<=140737488355328,∀(i:Nat),i<1-> ∀(a:AV),a∈UO 1 z4 i->AV.one a=true] (need [U5 ((0:Int)+1+1+1+1+1+1+1+1)] (need [8<=100000,yA 8 A,ByteArray.size (jnB 8 A {data:=#[32] })<=140737488355328] (need [((42:Nat):Int)<=9223372036854775807] (need [42<=140737488355328] (need [Q6,WF,QS,42=42,HH 42 (GX 0 (λx=>[]) (D8 (jnB 8 A {data:=#[32] }++{data:=#[10] }))) (D8 rp0),WF,X2] (need [WY=WY] (need [Q6,WF,QS,Z1,Z2,Z3,Z4,WU=WU,((5:Nat):Int)=5,QV,1=1,HH 1 (UO 1 [AV.x (.iface 9 (Z7))]) (HN wl0),1=1,HH 1 (UO 1 [AV.x (.iface 9 (XH))]) (HN wl1),1=1,HH 1 (UO 1 [AV.x (.iface 9 (Z8))]) (HN wl2),1=1,HH 1 (UO 1 [AV.x (.iface 9 (ZG))]) (HN wl3),42=42,HB 42 (D8 rp0),WF,X2] (need [UJ ([agg [lst 2 3 λk=>[iI (oL k),iI (oH k)],iI 1,hY 2 UF]])] (need [Q6,WF,QS,Z1,Z2,Z3,Z4,WB=WB,((3:Nat):Int)=3,QV,6=6,HB 6 (HN wl0),1=1,HB 1 (HN wl1),1=1,HB 1 (HN wl2),1=1,HB 1 (HN wl3),42=42,HB 42 (D8 rp0),WF,X2] (need [Q6,WF,QS,Z1,Z2,Z3,Z4,UJ (hC 1 UF),(↑UF.nc:Int)=1,QV,6=6,HB 6 (HN wl0),4=4,HB 4 (HN wl1),1=1,HB 1 (HN wl2),1=1,HB 1 (HN wl3),42=42,HB 42 (D8 rp0),WF,X2] (need [Q6,WF,QS,Z1,Z2,Z3,Z4,W5,QV,6=6,HB 6 (HN wl0),4=4,HB 4 (HN wl1),2=2,HB 2 (HN wl2),1=1,HB 1 (HN wl3),42=42,HB 42 (D8 rp0),WF,X2] (need [Q6,WF,QS,JE=JE,JF=JF,JG=JG,JH=JH,42=42,HB 42 (D8 rp0),WF,X2] (need [Q6,WF,QS,YB,((4:Nat):Int)=4,QV,4=4,HB 4 (UO 1 Q7),42=42,HB 42 (D8 rp0),WF,X2] (need [B7 136 (D8 rp4),0<136] (leaf (RV.tup [RV.x (.string (bsO 136 (D8 rp4))),RV.x (X3)]))))))))))))))))))))))))))))))))))))))))))))))))))))))) UD ?_
 simp only [U6.sat,UU,GS,H6,UX,G4,U5,FA]
 (with_reducible repeat' first|apply Al|intro _)
 all_goals first|exact Ak|contradiction|omega|exact FK (by assumption) (by simp [AV.one,Value.oneCell'])|(rename_i i O;exact Qk3 (by decide+kernel) i O)|(rename_i i O;exact ltM UD i O)|exact iA (by decide+kernel)|exact Qb6 (by decide+kernel)|decide+kernel|with_reducible rfl|rfl|trace_state
def Zl8:HS:=stS UF 1
theorem Xz2:lnE (GA GV 0) UF=9:=by decide+kernel
theorem Xz1:lnE (GA GV 1) UF=10:=by decide+kernel
theorem Xz0:lnE (GA GV 2) UF=9:=by decide+kernel
theorem Xy9:lnE (GA GV 3) UF=0:=by decide+kernel
theorem Je4:lnE (GA GV 4) Zl8=0:=by decide+kernel
theorem Je3:FV (lnW (GA GV 3)) UF=Zl8:=UD
abbrev KJ(n:Nat)(a:Cg):AV:=lst 1 n λk=>[iI (a k)]
abbrev KK(m:Nat)(b:Cg):AV:=lst 1 m λk=>[iI (b k)]
section
variable (n m:Nat)(a b:Cg)
def Xj3:St:={σ:=[KJ n a,KK m b]++D6 24 [],m:=[],nx:=7}
noncomputable def Ka0:Code:=UT (UC (UP Tryz.f25) 0)
def Wq3(k:Nat):St:=(upM [(5,i k)] (Xj3 n m a b))
def uT(k:Nat):GR->Option St
 | .exit 0=>some (upM [] (Xj3 n m a b))
 | .ret=>some (upM [(4,.lit false)] (Xj3 n m a b))
 |_=>none
def Jv4:CT:= .branch (F1 ((λk=>a k==b k)) n) (.leaf (.exit 0,(uT n m a b 0 (.exit 0)).getD (Xj3 n m a b))) (.leaf (.ret,(uT n m a b 0 .ret).getD (Xj3 n m a b)))
def Zf4:G5:=(D1 (Wq3 n m a b (0)) (Jv4 n m a b))
theorem Jl8(UB:n<=100000)(UY:n=m):GU U8 (.loop Ka0) (Zf4 n m a b):=by
 refine D4 (L:=[]) Aa UI UN (X:=Nat) (Wq3 n m a b) (λk=>k<=n/\ ∀j,j<k->((λk=>a k==b k)) j=true) (λk=>n-k) (uT n m a b) (x0:=0) ⟨U3,λj hj=>U3⟩ ?_ ?_ ?_;rintro k;kernel_rfl;rintro k y E h;unfold uT at h;split at h;cases h;kernel_rfl;cases h;kernel_rfl;cases h
 ·rintro Q hQ k hx;refine ⟨(k+1),?_⟩;(with_reducible refine F4 (t:=branch (decide ((k:Int)<(n:Int))) (need [G7 k n] (need [G7 k m] (branch (a k != b k) (need [UJ (KJ n a),UJ (KK m b),WN] (leaf GR.ret)) (need [U5 ((k:Int)+1)] (need [UJ (KJ n a),UJ (KK m b),(k:Int)+1=(↑(k+1):Int)] (leaf GR.normal)))))) (need [UJ (KJ n a),UJ (KK m b)] (leaf (GR.exit 0)))) UD ?_);simp only [Jv4,uT,U6.sat,HF] at hQ;have Ww2:k<n->((λk=>a k==b k)) k=false->F1 ((λk=>a k==b k)) n=false:=by
   intro h1 h2;rw [←Bool.not_eq_true];intro h3;have:=HG.1 h3 k h1;exact Bool.noConfusion (h2.symm.trans this)
  have dV:((λk=>a k==b k)) k=true-> ∀j,j<k+1->((λk=>a k==b k)) j=true:=by
   intro h1 j hj;rcases (show j<k\/j=k by omega) with h|rfl
   exact hx.2 j h;exact h1
  have B0: ¬k<n->F1 ((λk=>a k==b k)) n=true:=λh=>HG.2 (λj hj=>hx.2 j U3);have hQ1: ∀E,uT n m a b k .ret=some E->F1 ((λk=>a k==b k)) n=false->Q (.ret,E):=by
   intro E hE hf;cases hE;exact hQ.2 hf
  have hQ2: ∀E,uT n m a b k (.exit 0)=some E->F1 ((λk=>a k==b k)) n=true->Q (.exit 0,E):=by
   intro E hE hf;cases hE;exact hQ.1 hf
  simp only [U6.sat,UU,G4,HU,U5,FA]
  all_goals exact VM
theorem Wn6(UB:n<=100000):UH U8 25 [.lst 1 n (λk=>[i (a k)]),.lst 1 m (λk=>[i (b k)])] (bl (decide (n=m)&&F1 (λk=>a k==b k) n)):=by
 refine UL (L:=[RH [n<=100000,n=m] (Zf4 n m a b)]) Aa UI Tryz.func25 (GF Tryz.f25) (GJ (lpE (b:= .loop Ka0) UD<|DU (λh=>Jl8 n m a b h.1 h.2))) (t:=branch ((n:Int) != (m:Int)) (leaf (RV.x (WP))) (need [n<=100000,n=m] (need [UJ (KJ n a),UJ (KK m b),(0:Int)=((0:Nat):Int)] (branch (F1 (λk=>a k==b k) n) (leaf (RV.x (.bool true))) (leaf (RV.x (WP))))))) UD ?_
 simp only [U6.sat,UU,GS,H6,UX,U5,G4,HU,RW,bne_iff_ne,ne_eq];refine ⟨λh=>?_,λh=>?_⟩;have:n≠m:=by intro h';subst h';simp at h
 simp [this];have e:n=m:=by
  rw [bne_eq_false_iff_eq] at h;omega
 subst e;refine ⟨⟨U3,rfl⟩,λh2=>?_,λh2=>?_⟩;simp [h2];simp [h2]
end
def Qn3:GM
 |[.lst 1 n f,.lst 1 m g]=>some ([G0 1 n f,G0 1 m g,n<=100000],bl (decide (n=m)&&F1 (λk=>col 0 f k==col 0 g k) n))
 |_=>none
theorem Wn5:UA U8 25 Qn3:=by
 refine ⟨(UZ Tryz.func25),?_⟩;intro avs ns res h I;unfold Qn3 at h;split at h;rename_i n f m g;cases h;have hr0:G0 1 n f:=I _ UE;have hr1:G0 1 m g:=I _ UE;exact (Wn6 n m (col 0 f) (col 0 g) (I _ UE)).same (.cons (.lst 1 n _ _ hr0) (.cons (.lst 1 m _ _ hr1) .nil));cases h
def Xd9:GM
 |[.x (.slice none 0 0)]=>some ([],lns 11 (GA UR))
 |[.lst 1 n f]=>some ([n=5,∀k,k<n->f k=[.x (.string (GA GV k))]],lns 16 (GA (UR++GV)))
 |_=>none
theorem Jm0{P:Nat->Prop}(h0:P 0)(h1:P 1)(h2:P 2)(h3:P 3)(h4:P 4)(h5:P 5)(h6:P 6)(h7:P 7)(h8:P 8)(h9:P 9)(h10:P 10): ∀i,i<11->P i:=by
 intro i O
 match i,O with
 | 0,_=>exact h0
 | 1,_=>exact h1
 | 2,_=>exact h2
 | 3,_=>exact h3
 | 4,_=>exact h4
 | 5,_=>exact h5
 | 6,_=>exact h6
 | 7,_=>exact h7
 | 8,_=>exact h8
 | 9,_=>exact h9
 | 10,_=>exact h10
 |i+11,h=>exact absurd h U3
theorem Zb0{P:Nat->Prop}(h0:P 0)(h1:P 1)(h2:P 2)(h3:P 3)(h4:P 4)(h5:P 5)(h6:P 6)(h7:P 7)(h8:P 8)(h9:P 9)(h10:P 10)(h11:P 11)(h12:P 12)(h13:P 13)(h14:P 14)(h15:P 15): ∀i,i<16->P i:=by
 intro i O
 match i,O with
 | 0,_=>exact h0
 | 1,_=>exact h1
 | 2,_=>exact h2
 | 3,_=>exact h3
 | 4,_=>exact h4
 | 5,_=>exact h5
 | 6,_=>exact h6
 | 7,_=>exact h7
 | 8,_=>exact h8
 | 9,_=>exact h9
 | 10,_=>exact h10
 | 11,_=>exact h11
 | 12,_=>exact h12
 | 13,_=>exact h13
 | 14,_=>exact h14
 | 15,_=>exact h15
 |i+16,h=>exact absurd h U3
abbrev JI:AV:=AV.x (.string {data:=#[(98:UInt8),(97:UInt8),(116:UInt8),(104:UInt8),(32:UInt8),(49:UInt8),(48:UInt8),(48:UInt8),(32:UInt8),(51:UInt8),(48:UInt8),(48:UInt8)] })
abbrev QJ:List AV:=[AV.x (.string {data:=#[(116:UInt8),(104:UInt8),(114:UInt8),(101:UInt8),(97:UInt8),(100:UInt8),(32:UInt8),(48:UInt8),(32:UInt8),(49:UInt8),(32:UInt8),(52:UInt8),(48:UInt8),(32:UInt8),(52:UInt8),(48:UInt8)] }),AV.x (.string {data:=#[(116:UInt8),(104:UInt8),(114:UInt8),(101:UInt8),(97:UInt8),(100:UInt8),(32:UInt8),(50:UInt8),(32:UInt8),(51:UInt8),(32:UInt8),(52:UInt8),(56:UInt8),(32:UInt8),(53:UInt8),(48:UInt8)] }),AV.x (.string {data:=#[(105:UInt8),(115:UInt8),(115:UInt8),(117:UInt8),(101:UInt8),(32:UInt8),(48:UInt8),(32:UInt8),(52:UInt8),(32:UInt8),(57:UInt8),(48:UInt8),(32:UInt8),(48:UInt8)] }),JI,AV.x (.string {data:=#[(115:UInt8),(101:UInt8),(101:UInt8),(32:UInt8),(48:UInt8),(32:UInt8),(50:UInt8),(48:UInt8),(48:UInt8)] }),AV.x (.string {data:=#[(115:UInt8),(101:UInt8),(101:UInt8),(32:UInt8),(49:UInt8),(32:UInt8),(50:UInt8),(48:UInt8),(51:UInt8)] }),JI,AV.x (.string {data:=#[(115:UInt8),(101:UInt8),(101:UInt8),(32:UInt8),(49:UInt8),(32:UInt8),(50:UInt8),(53:UInt8),(50:UInt8)] }),AV.x (.string {data:=#[(115:UInt8),(101:UInt8),(101:UInt8),(32:UInt8),(50:UInt8),(32:UInt8),(50:UInt8),(53:UInt8),(48:UInt8)] }),AV.x (.string {data:=#[(115:UInt8),(101:UInt8),(108:UInt8),(108:UInt8),(32:UInt8),(48:UInt8),(32:UInt8),(49:UInt8),(32:UInt8),(54:UInt8),(32:UInt8),(49:UInt8),(32:UInt8),(51:UInt8)] }),AV.x (.string {data:=#[(115:UInt8),(101:UInt8),(108:UInt8),(108:UInt8),(32:UInt8),(49:UInt8),(32:UInt8),(50:UInt8),(32:UInt8),(52:UInt8),(32:UInt8),(50:UInt8),(32:UInt8),(50:UInt8)] })]
theorem Wf0:UH U8 10 [.x (.slice none 0 0)] (lns 11 (GA UR)):=by
 refine HL Tryz.func10 (t:=need [176<=140737488355328,∀(i:Nat),i<0-> ∀(a:AV),a∈[]->AV.one a=true] (leaf (RV.lst 1 11 (GX 11 (UO 1 QJ) λx=>[])))) UD ?_;simp only [U6.sat,UU,GS,H6,UX,G4]
 (with_reducible repeat' first|apply Al|intro _)
 all_goals first|exact Ak|contradiction|omega|exact FK (by assumption) (by simp [AV.one,Value.oneCell'])|(rename_i ha;rw [BE.1 ha];first|exact Ak|rfl)|(rename_i i O;revert i;refine Jm0 ?_ ?_ ?_ ?_ ?_ ?_ ?_ ?_ ?_ ?_ ?_<;>(show _=_;kernel_rfl))|decide|rfl|trace_state
theorem We9:UH U8 10 [.lst 1 5 (λk=>[.x (.string (GA GV k))])] (lns 16 (GA (UR++GV))):=by
 refine HL Tryz.func10 (t:=need [256<=140737488355328,∀(i:Nat),i<5-> ∀(a:AV),a∈[HP (GA GV i)]->AV.one a=true] (leaf (RV.lst 1 16 (GX 11 (UO 1 QJ) λk=>[HP (GA GV k)])))) UD ?_;simp only [U6.sat,UU,GS,H6,UX,G4]
 (with_reducible repeat' first|apply Al|intro _)
 all_goals first|exact Ak|contradiction|omega|exact FK (by assumption) (by simp [AV.one,Value.oneCell'])|(rename_i ha;rw [BE.1 ha];first|exact Ak|rfl)|(rename_i i O;revert i;refine Zb0 ?_ ?_ ?_ ?_ ?_ ?_ ?_ ?_ ?_ ?_ ?_ ?_ ?_ ?_ ?_ ?_<;>(show _=_;kernel_rfl))|decide|rfl|trace_state
theorem Xk8:UA U8 10 Xd9:=by
 refine ⟨(UZ Tryz.func10),?_⟩;intro avs ns res h I;unfold Xd9 at h;split at h;cases h;exact Wf0;rename_i n f;cases h;obtain rfl:n=5:=I _ UE;have h2: ∀k,k<5->f k=[.x (.string (GA GV k))]:=I (∀k,k<5->f k=[.x (.string (GA GV k))]) UE;exact We9.same (.cons (.lst 1 5 f _ h2) .nil);cases h
theorem Xx6:sK (GA (UR++GV)) 0=hs0:=rfl
theorem Xx5:sK (GA (UR++GV)) 1=wk1:=by
 show lnS (GA UR 0) (sK (GA (UR++GV)) 0)=_;rw [Xx6];unfold lnS;rw [if_pos We6];exact Xy6
theorem Xx4:sK (GA (UR++GV)) 2=wk2:=by
 show lnS (GA UR 1) (sK (GA (UR++GV)) 1)=_;rw [Xx5];unfold lnS;rw [if_pos We5];exact Xy5
theorem Xx3:sK (GA (UR++GV)) 3=wk3:=by
 show lnS (GA UR 2) (sK (GA (UR++GV)) 2)=_;rw [Xx4];unfold lnS;rw [if_pos We4];exact Xy4
theorem Xx2:sK (GA (UR++GV)) 4=wk4:=by
 show lnS (GA UR 3) (sK (GA (UR++GV)) 3)=_;rw [Xx3];unfold lnS;rw [if_pos We3];exact Xy3
theorem Xx1:sK (GA (UR++GV)) 5=wk5:=by
 show lnS (GA UR 4) (sK (GA (UR++GV)) 4)=_;rw [Xx2];unfold lnS;rw [if_pos We2];exact Xy2
theorem Xx0:sK (GA (UR++GV)) 6=wk6:=by
 show lnS (GA UR 5) (sK (GA (UR++GV)) 5)=_;rw [Xx1];unfold lnS;rw [if_pos We1];exact Xy1
theorem Xw9:sK (GA (UR++GV)) 7=wk7:=by
 show lnS (GA UR 6) (sK (GA (UR++GV)) 6)=_;rw [Xx0];unfold lnS;rw [if_pos We0];exact Xy0
theorem Xw8:sK (GA (UR++GV)) 8=wk8:=by
 show lnS (GA UR 7) (sK (GA (UR++GV)) 7)=_;rw [Xw9];unfold lnS;rw [if_pos Wd9];exact Xx9
theorem Xw7:sK (GA (UR++GV)) 9=wk9:=by
 show lnS (GA UR 8) (sK (GA (UR++GV)) 8)=_;rw [Xw8];unfold lnS;rw [if_pos Wd8];exact Xx8
theorem Wc6:sK (GA (UR++GV)) 10=Qr4:=by
 show lnS (GA UR 9) (sK (GA (UR++GV)) 9)=_;rw [Xw7];unfold lnS;rw [if_pos Wd7];exact Xx7
theorem Wc5:sK (GA (UR++GV)) 11=UF:=by
 show lnS (GA UR 10) (sK (GA (UR++GV)) 10)=_;rw [Wc6];unfold lnS;rw [if_pos pE];exact Wc9
theorem Wc4:sK (GA (UR++GV)) 12=UF:=by
 show lnS (GA GV 0) (sK (GA (UR++GV)) 11)=_;rw [Wc5];unfold lnS;rw [if_neg (by rw [Xz2];decide)]
theorem Wc3:sK (GA (UR++GV)) 13=UF:=by
 show lnS (GA GV 1) (sK (GA (UR++GV)) 12)=_;rw [Wc4];unfold lnS;rw [if_neg (by rw [Xz1];decide)]
theorem Wc2:sK (GA (UR++GV)) 14=UF:=by
 show lnS (GA GV 2) (sK (GA (UR++GV)) 13)=_;rw [Wc3];unfold lnS;rw [if_neg (by rw [Xz0];decide)]
theorem Zj1:sK (GA (UR++GV)) 15=Zl8:=by
 show lnS (GA GV 3) (sK (GA (UR++GV)) 14)=_;rw [Wc2];unfold lnS;rw [if_pos Xy9];exact Je3
theorem Je1:eK (GA (UR++GV)) 0=0:=by
 show lnE (GA UR 0) (sK (GA (UR++GV)) 0)=_;rw [Xx6];exact We6
theorem Je0:eK (GA (UR++GV)) 1=0:=by
 show lnE (GA UR 1) (sK (GA (UR++GV)) 1)=_;rw [Xx5];exact We5
theorem Jd9:eK (GA (UR++GV)) 2=0:=by
 show lnE (GA UR 2) (sK (GA (UR++GV)) 2)=_;rw [Xx4];exact We4
theorem Jd8:eK (GA (UR++GV)) 3=0:=by
 show lnE (GA UR 3) (sK (GA (UR++GV)) 3)=_;rw [Xx3];exact We3
theorem Jd7:eK (GA (UR++GV)) 4=0:=by
 show lnE (GA UR 4) (sK (GA (UR++GV)) 4)=_;rw [Xx2];exact We2
theorem Jd6:eK (GA (UR++GV)) 5=0:=by
 show lnE (GA UR 5) (sK (GA (UR++GV)) 5)=_;rw [Xx1];exact We1
theorem Jd5:eK (GA (UR++GV)) 6=0:=by
 show lnE (GA UR 6) (sK (GA (UR++GV)) 6)=_;rw [Xx0];exact We0
theorem Jd4:eK (GA (UR++GV)) 7=0:=by
 show lnE (GA UR 7) (sK (GA (UR++GV)) 7)=_;rw [Xw9];exact Wd9
theorem Jd3:eK (GA (UR++GV)) 8=0:=by
 show lnE (GA UR 8) (sK (GA (UR++GV)) 8)=_;rw [Xw8];exact Wd8
theorem Jd2:eK (GA (UR++GV)) 9=0:=by
 show lnE (GA UR 9) (sK (GA (UR++GV)) 9)=_;rw [Xw7];exact Wd7
theorem Zj7:eK (GA (UR++GV)) 10=0:=by
 show lnE (GA UR 10) (sK (GA (UR++GV)) 10)=_;rw [Wc6];exact pE
theorem Zj6:eK (GA (UR++GV)) 11=9:=by
 show lnE (GA GV 0) (sK (GA (UR++GV)) 11)=_;rw [Wc5];exact Xz2
theorem Zj5:eK (GA (UR++GV)) 12=10:=by
 show lnE (GA GV 1) (sK (GA (UR++GV)) 12)=_;rw [Wc4];exact Xz1
theorem Zj4:eK (GA (UR++GV)) 13=9:=by
 show lnE (GA GV 2) (sK (GA (UR++GV)) 13)=_;rw [Wc3];exact Xz0
theorem Zj3:eK (GA (UR++GV)) 14=0:=by
 show lnE (GA GV 3) (sK (GA (UR++GV)) 14)=_;rw [Wc2];exact Xy9
theorem Zj2:eK (GA (UR++GV)) 15=0:=by
 show lnE (GA GV 4) (sK (GA (UR++GV)) 15)=_;rw [Zj1];exact Je4
def wrB:ByteArray:=⟨#[91,48,48,49,58,48,48,50,50,51,93,97,10]⟩
def lnA(_:Nat):ByteArray:=⟨#[97]⟩
def Xv6(s:HS):DX:=λl=>some (.need [l=[lns 16 (GA (UR++GV))]] (.leaf (.tup [.agg (hsL s),.lst 1 16 (λj=>[i (US [0,0,0,0,0,0,0,0,0,0,0,9,10,9,0,0] j)]),i 0])))
def Zy2:DX:=λl=>some (.need [l=[lns 11 (GA UR)]] (.leaf (.tup [.lst 2 3 (λk=>[i (US [0,1,-3] k),i (US [0,5,5] k)]),i 0])))
def Zx9:DX:=λl=>some (.need [l=[lns 11 (GA UR),i 0]] (.leaf (.tup [.lst 1 1 (λk=>[i (US [0] k)]),i 0])))
def Zy1:DX:=λl=>some (.need [l=[lns 11 (GA UR),i 1]] (.leaf (.tup [.lst 1 2 (λk=>[i (US [0,1] k)]),.lst 1 1 (λk=>[i (US [0] k)]),i 0])))
def Zy0:GM:=λl=>some ([l=[lns 11 (GA UR)]],.tup [.x (.string Zp8),i 0])
def Xf2:DX:=λl=>match l with
 |[.lst 1 n f]=>some (.need [n=1,f 0=[.x (.string (lnA 0))]] (.leaf (.tup [.lst 1 13 (D8 wrB),i 0])))
 |_=>none
theorem wU{P:Program}{f:FuncId}{avs:List AV}{t sp:U6 AV}(h:G6 P f avs t)(hm: ∀Q:AV->Prop,sp.sat Q->t.sat (λr=> ∃r',FR r r'/\Q r')):G6 P f avs sp:=by
 intro Q hQ e w args q1 q2 q3 q4;refine (h _ (hm Q hQ) e w args q1 q2 q3 q4).mono ?_;rintro en w' ⟨v,r,rfl,⟨r',g1,g2⟩,g3,g4⟩;exact ⟨v,r',rfl,g2,g3,FY g1 g4⟩
theorem Je2:ckE 16 (GA (UR++GV))=0:=by decide+kernel
theorem Wf2(s:HS)(hs:s=sK (GA (UR++GV)) 16):Sx.Enters Tryz.prog 27/\ ∀avs t,Xv6 s avs=some t->G6 U8 27 avs t:=by
 refine ⟨(UZ Tryz.func27),?_⟩;intro avs t h;cases h;intro Q hQ;have e:avs=[lns 16 (GA (UR++GV))]:=hQ.1;subst e;have h1:=mT 16 (GA (UR++GV)) U3;refine wU h1 (sp:= .leaf (.tup [.agg (hsL s),.lst 1 16 (λj=>[i (US [0,0,0,0,0,0,0,0,0,0,0,9,10,9,0,0] j)]),i 0])) (λQ hq=>⟨λh=>?_,λ_=>?_⟩) Q hQ.2;rw [Je2] at h;exact absurd h (by decide)
 refine ⟨.tup [.agg (hsL s),.lst 1 16 (λj=>[i (US [0,0,0,0,0,0,0,0,0,0,0,9,10,9,0,0] j)]),i 0],⟨?_,⟨rfl,rfl,λk hk=>?_⟩,⟨rfl,rfl⟩,Ak⟩,hq⟩;rw [hs];exact CF _;revert k;refine Zb0 (congrArg (λz=>[i z]) Je1) (congrArg (λz=>[i z]) Je0) (congrArg (λz=>[i z]) Jd9) (congrArg (λz=>[i z]) Jd8) (congrArg (λz=>[i z]) Jd7) (congrArg (λz=>[i z]) Jd6) (congrArg (λz=>[i z]) Jd5) (congrArg (λz=>[i z]) Jd4) (congrArg (λz=>[i z]) Jd3) (congrArg (λz=>[i z]) Jd2) (congrArg (λz=>[i z]) Zj7) (congrArg (λz=>[i z]) Zj6) (congrArg (λz=>[i z]) Zj5) (congrArg (λz=>[i z]) Zj4) (congrArg (λz=>[i z]) Zj3) (congrArg (λz=>[i z]) Zj2)
theorem Xl3:Sx.Enters Tryz.prog 21/\ ∀avs t,Zy2 avs=some t->G6 U8 21 avs t:=by
 refine ⟨(UZ Tryz.func21),?_⟩;intro avs t h;cases h;intro Q hQ;have e:avs=[lns 11 (GA UR)]:=hQ.1;subst e;have h1:=mU 11 (GA UR) U3;rw [CU] at h1;refine wU h1 (sp:= .leaf (.tup [.lst 2 3 (λk=>[i (US [0,1,-3] k),i (US [0,5,5] k)]),i 0])) (λQ hq=>⟨λh=>?_,λ_=>?_⟩) Q hQ.2;rw [eW] at h;exact absurd h (by decide)
 refine ⟨.tup [.lst 2 3 (λk=>[i (US [0,1,-3] k),i (US [0,5,5] k)]),i 0],⟨⟨rfl,Xy7,λk hk=>?_⟩,(show FR (i _) (i 0) by rw [Xy8];exact ⟨rfl,rfl⟩),Ak⟩,hq⟩
 rcases (show k=0\/k=1\/k=2 by omega) with rfl|rfl|rfl
 show [i _,i _]=_;rw [Wd2,Wd5];rfl;show [i _,i _]=_;rw [Wd1,Wd4];rfl;show [i _,i _]=_;rw [Wd0,Wd3];rfl
theorem Xl0:Sx.Enters Tryz.prog 9/\ ∀avs t,Zx9 avs=some t->G6 U8 9 avs t:=by
 refine ⟨(UZ Tryz.func9),?_⟩;intro avs t h;cases h;intro Q hQ;have e:avs=[lns 11 (GA UR),i 0]:=hQ.1;subst e;have h1:=bX 11 (GA UR) 0 U3;rw [CU] at h1;have I:UF.nc=1:=UD;have hc:GQ (stP UF 0) 1=1:=by rw [DV Wc8];rfl
 refine wU h1 (sp:= .leaf (.tup [.lst 1 1 (λk=>[i (US [0] k)]),i 0])) (λQ hq=>⟨λh=>?_,λ_=>⟨λh=>absurd h (by decide),λ_=>?_⟩⟩) Q hQ.2
 rw [eW] at h;exact absurd h (by decide)
 refine ⟨.tup [.lst 1 1 (λk=>[i (US [0] k)]),i 0],⟨⟨rfl,by rw [I];exact hc,λk hk=>?_⟩,⟨rfl,rfl⟩,Ak⟩,hq⟩
 obtain rfl:k=0:=U3;have h2:=P2 (show 0<UF.nc by rw [I];omega) Wc8
 have h3:GQ (stP UF 0) 0=0:=rfl;rw [h3] at h2;show [i _]=_;rw [h2];rfl
theorem Xl2:Sx.Enters Tryz.prog 11/\ ∀avs t,Zy1 avs=some t->G6 U8 11 avs t:=by
 refine ⟨(UZ Tryz.func11),?_⟩;intro avs t h;cases h;intro Q hQ;have e:avs=[lns 11 (GA UR),i 1]:=hQ.1;subst e;have h1:=Qx6 11 (GA UR) 1 U3;rw [CU] at h1;have c0:GQ (caB UF.ns UF.sa UF.sb UF.sc UF.sl UF.sh 1) 0=0:=rfl;have c1:GQ (caB UF.ns UF.sa UF.sb UF.sc UF.sl UF.sh 1) 1=1:=by rw [DV We8,c0]
 have c2:GQ (caB UF.ns UF.sa UF.sb UF.sc UF.sl UF.sh 1) 2=2:=by rw [DV We7,c1]
 have c3:GQ (caB UF.ns UF.sa UF.sb UF.sc UF.sl UF.sh 1) 3=2:=by rw [RF Zl7,c2]
 have c4:GQ (caB UF.ns UF.sa UF.sb UF.sc UF.sl UF.sh 1) 4=2:=by rw [RF Zl6,c3]
 have d0:GQ (suB UF.ns UF.sa UF.sb UF.sc UF.sl UF.sh 1) 0=0:=rfl;have d1:GQ (suB UF.ns UF.sa UF.sb UF.sc UF.sl UF.sh 1) 1=1:=by rw [DV Wc7,d0]
 have d2:GQ (suB UF.ns UF.sa UF.sb UF.sc UF.sl UF.sh 1) 2=1:=by rw [RF Zk0,d1]
 have d3:GQ (suB UF.ns UF.sa UF.sb UF.sc UF.sl UF.sh 1) 3=1:=by rw [RF Zj9,d2]
 have d4:GQ (suB UF.ns UF.sa UF.sb UF.sc UF.sl UF.sh 1) 4=1:=by rw [RF Zj8,d3]
 have e0:=P2 (show 0<4 by omega) We8
 have e1:=P2 (show 1<4 by omega) We7
 have f0:=P2 (show 0<4 by omega) Wc7
 rw [c0] at e0;rw [c1] at e1;rw [d0] at f0;refine wU h1 (sp:= .leaf (.tup [.lst 1 2 (λk=>[i (US [0,1] k)]),.lst 1 1 (λk=>[i (US [0] k)]),i 0])) (λQ hq=>⟨λh=>?_,λ_=>⟨λh=>absurd h (by decide),λ_=>⟨λh=>?_,λ_=>?_⟩⟩⟩) Q hQ.2
 rw [eW] at h;exact absurd h (by decide)
 rw [Wd6] at h;exact Bool.noConfusion h;refine ⟨.tup [.lst 1 2 (λk=>[i (US [0,1] k)]),.lst 1 1 (λk=>[i (US [0] k)]),i 0],⟨⟨rfl,c4,λk hk=>?_⟩,⟨rfl,d4,λk hk=>?_⟩,⟨rfl,rfl⟩,Ak⟩,hq⟩;rcases (show k=0\/k=1 by omega) with rfl|rfl
 show [i _]=_;rw [e0];rfl;show [i _]=_;rw [e1];rfl;obtain rfl:k=0:=U3;show [i _]=_;rw [f0];rfl
theorem Xl1:UA U8 12 Zy0:=by
 refine ⟨(UZ Tryz.func12),?_⟩;intro avs ns res h I;cases h;have e:avs=[lns 11 (GA UR)]:=I _ H0;subst e;exact mS
theorem Xk9:Sx.Enters Tryz.prog 32/\ ∀avs t,Xf2 avs=some t->G6 U8 32 avs t:=by
 refine ⟨(UZ Tryz.func32),?_⟩;intro avs t h;unfold Xf2 at h;split at h;rename_i n f;cases h;intro Q hQ;obtain rfl:n=1:=hQ.1.1;have h2:f 0=[.x (.string (lnA 0))]:=hQ.1.2;have h1:=SX 1 lnA U3;have hb:flB lnA 1=wrB:=by decide+kernel
 rw [hb] at h1;have h3:G6 U8 32 [.lst 1 1 f] (.leaf (.tup [.lst 1 13 (D8 wrB),i 0])):=by
  intro Q hq e w args q1 q2 q3 q4;refine h1 Q ⟨λh=>?_,λ_=>hq⟩ e w args q1 q2 ?_ ?_;rw [show ckE 1 lnA=0 by decide+kernel] at h
  exact absurd h (by decide)
  exact VZ;obtain ⟨u,us,rfl,r1,r2⟩:=q4.cons_inv;refine .cons (FY (a:= .lst 1 1 f) ⟨rfl,rfl,λk hk=>?_⟩ r1) r2;obtain rfl:k=0:=U3;exact h2
 exact h3 Q hQ.2;cases h
theorem Zs4{a b:ByteArray}(h:(a.toList==b.toList)=false)(e:a=b):False:=by
 subst e;simp at h
abbrev WJ:List Int:=[(0:Int),0,0,0,0,0,0,0,0,0,0,(9:Int),(10:Int),(9:Int),(0:Int),(0:Int)]
abbrev JK:List AV:=[lst 1 11 λk=>[HP (GA UR k)],iI 0]
abbrev JL:List AV:=[lst 1 11 λk=>[HP (GA UR k)],iI 1]
abbrev JN:List AV:=[lst 1 16 λk=>[HP (GA (UR++GV) k)]]
theorem Qr6(s:HS)(UB:s=sK (GA (UR++GV)) 16):UH U8 14 [] (bl true):=by
 refine GW (L:=[]) (Ae Xk8 (Ae Wn5 (Ae Xl1 Aa))) (Aj Ab Ac (Ah (Wf2 s UB) (Ah Xl3 (Ah Xl0 (Ah Xl2 (Ah Xk9 (UV.nil _))))))) UI Tryz.func14 (GF Tryz.f14) GN (t:=let A:=(UO 1 [iI 0,iI 1]);let z1:=(UO 1 [iI 0]);(need [5=5,HH 5 (UO 1 [AV.x (.string {data:=#[116,104,114,101,97,100,32,48,32,50,32,52,48,32,52,48] }),AV.x (.string {data:=#[105,115,115,117,101,32,48,32,52,32,56,48,32,48] }),AV.x (.string {data:=#[115,101,101,32,48,32,49,48,48] }),AV.x (.string {data:=#[115,116,114,105,107,101,32,49] }),AV.x (.string {data:=#[118,111,105,100,32,48] })]) (λk=>[HP (GA GV k)])] (need [JN=JN] (need [WO=WO] (need [JK=JK] (need [JL=JL] (need [WO=WO] (need [1=1,[AV.x (.string {data:=#[97] })]=[HP (lnA 0)]] (branch ((0:Int)==0) (branch (((16:Nat):Int)==16) (need [G7 10 16] (branch (US WJ (10:Int).toNat==0) (need [G7 11 16] (branch (US WJ (11:Int).toNat==9) (need [G7 12 16] (branch (US WJ (12:Int).toNat==10) (need [G7 13 16] (branch (US WJ (13:Int).toNat==9) (need [G7 14 16] (branch (US WJ (14:Int).toNat==0) (need [G7 15 16] (branch (US WJ (15:Int).toNat==0) (branch ((0:Int)==0) (branch (((3:Nat):Int)==3) (need [G7 1 3] (branch (US WX (1:Int).toNat==1&&(US Z9 (1:Int).toNat==5&&true)) (need [G7 2 3] (branch (US WX (2:Int).toNat==(-3:Int)&&(US Z9 (2:Int).toNat==5&&true)) (branch ((0:Int)==0) (need [G0 1 1 λk=>[i (US [(0:Int)] k)],G0 1 1 z1,1<=100000] (branch (decide (1=1)&&(true&&US [(0:Int)] (nat_lit 0)==col 0 z1 (nat_lit 0))) (branch ((0:Int)==0) (need [G0 1 2 λk=>[i (US [(0:Int),1] k)],G0 1 2 A,2<=100000] (branch (decide (2=2)&&(true&&US [(0:Int),1] (nat_lit 0)==col 0 A (nat_lit 0)&&US [(0:Int),1] (nat_lit 1)==col 0 A (nat_lit 1))) (need [G0 1 1 λk=>[i (US [(0:Int)] k)],G0 1 1 z1,1<=100000] (branch (decide (1=1)&&(true&&US [(0:Int)] (nat_lit 0)==col 0 z1 (nat_lit 0))) (branch ((0:Int)==0) (branch (ByteArray.toList Zp8==ByteArray.toList {data:=List.toArray (List.append (List.append [(114:UInt8),(101:UInt8),(97:UInt8),(100:UInt8),(105:UInt8),(110:UInt8),(103:UInt8),(115:UInt8),(32:UInt8),(50:UInt8),(32:UInt8),(98:UInt8),(97:UInt8),(116:UInt8),(104:UInt8),(115:UInt8),(32:UInt8),(50:UInt8),(32:UInt8),(99:UInt8),(101:UInt8),(114:UInt8),(116:UInt8),(105:UInt8),(102:UInt8),(105:UInt8),(99:UInt8),(97:UInt8),(116:UInt8),(101:UInt8),(115:UInt8),(32:UInt8),(49:UInt8),(32:UInt8)] [(115:UInt8),(97:UInt8),(108:UInt8),(101:UInt8),(115:UInt8),(32:UInt8),(50:UInt8),(10:UInt8),(109:UInt8),(97:UInt8),(114:UInt8),(107:UInt8),(115:UInt8),(32:UInt8),(48:UInt8),(46:UInt8),(46:UInt8),(48:UInt8),(32:UInt8),(50:UInt8),(48:UInt8),(48:UInt8),(46:UInt8),(46:UInt8),(51:UInt8),(48:UInt8),(48:UInt8),(32:UInt8),(52:UInt8),(49:UInt8),(48:UInt8),(46:UInt8),(46:UInt8),(53:UInt8)]) (List.append [(49:UInt8),(48:UInt8),(32:UInt8),(55:UInt8),(48:UInt8),(48:UInt8),(46:UInt8),(46:UInt8),(56:UInt8),(48:UInt8),(48:UInt8),(32:UInt8),(49:UInt8),(48:UInt8),(48:UInt8),(48:UInt8),(46:UInt8),(46:UInt8),(49:UInt8),(48:UInt8),(48:UInt8),(48:UInt8),(10:UInt8),(111:UInt8),(102:UInt8),(102:UInt8),(115:UInt8),(101:UInt8),(116:UInt8),(115:UInt8),(32:UInt8),(48:UInt8),(46:UInt8),(46:UInt8)] [(48:UInt8),(32:UInt8),(49:UInt8),(46:UInt8),(46:UInt8),(53:UInt8),(32:UInt8),(45:UInt8),(51:UInt8),(46:UInt8),(46:UInt8),(53:UInt8),(10:UInt8),(115:UInt8),(116:UInt8),(97:UInt8),(110:UInt8),(100:UInt8),(32:UInt8),(48:UInt8),(10:UInt8),(104:UInt8),(111:UInt8),(108:UInt8),(100:UInt8),(32:UInt8),(52:UInt8),(32:UInt8),(50:UInt8),(32:UInt8),(52:UInt8),(32:UInt8),(48:UInt8),(10:UInt8)])) }) (branch ((0:Int)==0) (need [B7 13 (D8 wrB)] (leaf (RV.x (.bool (ByteArray.toList (bsO 13 (D8 wrB))==ByteArray.toList {data:=#[91,48,48,49,58,48,48,50,50,51,93,97,10] }))))) (leaf (RV.x (WP)))) (leaf (RV.x (WP)))) (leaf (RV.x (WP)))) (leaf (RV.x (WP))))) (leaf (RV.x (WP))))) (leaf (RV.x (WP)))) (leaf (RV.x (WP))))) (leaf (RV.x (WP)))) (leaf (RV.x (WP))))) (leaf (RV.x (WP))))) (leaf (RV.x (WP)))) (leaf (RV.x (WP)))) (leaf (RV.x (WP))))) (leaf (RV.x (WP))))) (leaf (RV.x (WP))))) (leaf (RV.x (WP))))) (leaf (RV.x (WP))))) (leaf (RV.x (WP))))) (leaf (RV.x (WP)))) (leaf (RV.x (WP)))))))))))) UD ?_
 have hw:bsO 13 (D8 wrB)=wrB:=Zx3 wrB;simp only [U6.sat,UU,GS,H6,UX,G4,U5,hw]
 (with_reducible repeat' first|apply Al|intro _)
 all_goals first|exact Ak|contradiction|(rename_i h;exact (Zs4 h UD).elim)|omega|exact Qb6 (by decide+kernel)|(intro k hk;exact ltM UD k hk)|(rename_i k hk;exact ltM UD k hk)|(rename_i k hk;revert k;refine ltM ?_;kernel_rfl)|(intro k hk;revert k;refine ltM ?_;kernel_rfl)|decide|decide+kernel|rfl
def Qm6:GM
 |[]=>some ([],bl true)
 |_=>none
theorem Wf1:UA U8 14 Qm6:=by
 refine ⟨(UZ Tryz.func14),?_⟩;intro avs ns res h I;unfold Qm6 at h;split at h;cases h;exact Qr6 _ rfl;cases h
section
variable (n:Nat)(L:Cf)
def thA:Bool:=F1 (λk=>decide (((L k).size:Int)<=210)) (min n 56)
def thB:Bool:=thA n L&&decide ((n:Int)<=55)
def rgB:Bool:=F1 (λk=>decide (((L k).size:Int)<=200)) n&&decide ((n:Int)<=50)
def rdB(most:Int):Bool:=thB n L&&(rgB n L&&decide ((n:Int)<=most))
def Xi5:St:={σ:=[Q8 n L]++D6 22 [],m:=[],nx:=2}
noncomputable def Jy7:Code:=UT (UC (UP Tryz.f49) 0)
def Wo9(k:Nat):St:=(upM [(3,i k)] (Xi5 n L))
def uQ(k:Nat):GR->Option St
 | .exit 0=>some (upM [] (Xi5 n L))
 | .ret=>some (upM [(2,.lit false)] (Xi5 n L))
 |_=>none
def Jt8:CT:= .branch (F1 ((λk=>decide (((L k).size:Int)<=210))) (min n 56)) (.leaf (.exit 0,(uQ n L 0 (.exit 0)).getD (Xi5 n L))) (.leaf (.ret,(uQ n L 0 .ret).getD (Xi5 n L)))
def Zd7:G5:=(D1 (Wo9 n L (0)) (Jt8 n L))
theorem Jg3(UB:(min n 56)<=100000):GU U8 (.loop Jy7) (Zd7 n L):=by
 refine D4 (L:=[]) Aa UI UN (X:=Nat) (Wo9 n L) (λk=>k<=(min n 56)/\ ∀j,j<k->((λk=>decide (((L k).size:Int)<=210))) j=true) (λk=>(min n 56)-k) (uQ n L) (x0:=0) ⟨U3,λj hj=>U3⟩ ?_ ?_ ?_;rintro k;kernel_rfl;rintro k y E h;unfold uQ at h;split at h;cases h;kernel_rfl;cases h;kernel_rfl;cases h
 ·rintro Q hQ k hx;refine ⟨(k+1),?_⟩;(with_reducible refine F4 (t:=let A:=(need [UJ (Q8 n L)] (leaf (GR.exit 0)));(branch (decide ((k:Int)<(n:Int))) (branch (decide ((k:Int)<56)) (need [G7 k n] (branch (decide ((↑(ByteArray.size (L k)):Int)>210)) (need [UJ (Q8 n L),WN] (leaf GR.ret)) (need [U5 ((k:Int)+1)] (need [UJ (Q8 n L),(k:Int)+1=(↑(k+1):Int)] (leaf GR.normal))))) A) A)) UD ?_);simp only [Jt8,uQ,U6.sat,HF] at hQ;have Ww2:k<(min n 56)->((λk=>decide (((L k).size:Int)<=210))) k=false->F1 ((λk=>decide (((L k).size:Int)<=210))) (min n 56)=false:=by
   intro h1 h2;rw [←Bool.not_eq_true];intro h3;have:=HG.1 h3 k h1;exact Bool.noConfusion (h2.symm.trans this)
  have dV:((λk=>decide (((L k).size:Int)<=210))) k=true-> ∀j,j<k+1->((λk=>decide (((L k).size:Int)<=210))) j=true:=by
   intro h1 j hj;rcases (show j<k\/j=k by omega) with h|rfl
   exact hx.2 j h;exact h1
  have B0: ¬k<(min n 56)->F1 ((λk=>decide (((L k).size:Int)<=210))) (min n 56)=true:=λh=>HG.2 (λj hj=>hx.2 j U3);have hQ1: ∀E,uQ n L k .ret=some E->F1 ((λk=>decide (((L k).size:Int)<=210))) (min n 56)=false->Q (.ret,E):=by
   intro E hE hf;cases hE;exact hQ.2 hf
  have hQ2: ∀E,uQ n L k (.exit 0)=some E->F1 ((λk=>decide (((L k).size:Int)<=210))) (min n 56)=true->Q (.exit 0,E):=by
   intro E hE hf;cases hE;exact hQ.1 hf
  simp only [U6.sat,UU,G4,HU,U5,FA]
  all_goals exact VM
theorem Wo2:UH U8 49 [lns n L] (bl (thB n L)):=by
 refine UL (L:=[RH [min n 56<=100000] (Zd7 n L)]) Aa UI Tryz.func49 (GF Tryz.f49) (GJ (lpE (b:= .loop Jy7) UD<|DU (λh=>Jg3 n L h))) (t:=need [min n 56<=100000] (need [UJ (Q8 n L),(0:Int)=((0:Nat):Int)] (branch (F1 (λk=>decide ((↑(ByteArray.size (L k)):Int)<=210)) (min n 56)) (leaf (RV.x (.bool (decide ((n:Int)<=55))))) (leaf (RV.x (WP)))))) UD ?_
 simp only [U6.sat,UU,GS,H6,UX,U5,G4,HU,RW];unfold thB thA;refine ⟨U3,λh=>?_,λh=>?_⟩;simp [h];simp [h]
def Xv9:GM:=λl=>some ([l=[lns n L]],bl (thB n L))
theorem Qu9:UA U8 49 (Xv9 n L):=by
 refine ⟨(UZ Tryz.func49),?_⟩;intro avs ns res h I;cases h;have e:=I _ H0;subst e;exact Wo2 n L
def eF:St:={σ:=[Q8 n L]++D6 18 [],m:=[],nx:=2}
noncomputable def Xk2:Code:=UT (UC (UP Tryz.f50) 0)
def M0(k:Nat):St:=(upM [(3,i k)] (eF n L))
def BM(k:Nat):GR->Option St
 | .exit 0=>some (upM [] (eF n L))
 | .ret=>some (upM [(2,.lit false)] (eF n L))
 |_=>none
def Xd6:CT:= .branch (F1 ((λk=>decide (((L k).size:Int)<=200))) n) (.leaf (.exit 0,(BM n L 0 (.exit 0)).getD (eF n L))) (.leaf (.ret,(BM n L 0 .ret).getD (eF n L)))
def oR:G5:=(D1 (M0 n L (0)) (Xd6 n L))
theorem Wi9(UB:n<=100000):GU U8 (.loop Xk2) (oR n L):=by
 refine D4 (L:=[]) Aa UI UN (X:=Nat) (M0 n L) (λk=>k<=n/\ ∀j,j<k->((λk=>decide (((L k).size:Int)<=200))) j=true) (λk=>n-k) (BM n L) (x0:=0) ⟨U3,λj hj=>U3⟩ ?_ ?_ ?_;rintro k;kernel_rfl;rintro k y E h;unfold BM at h;split at h;cases h;kernel_rfl;cases h;kernel_rfl;cases h
 ·rintro Q hQ k hx;refine ⟨(k+1),?_⟩;(with_reducible refine F4 (t:=branch (decide ((k:Int)<(n:Int))) (need [G7 k n] (branch (decide ((↑(ByteArray.size (L k)):Int)>200)) (need [UJ (Q8 n L),WN] (leaf GR.ret)) (need [U5 ((k:Int)+1)] (need [UJ (Q8 n L),(k:Int)+1=(↑(k+1):Int)] (leaf GR.normal))))) (need [UJ (Q8 n L)] (leaf (GR.exit 0)))) UD ?_);simp only [Xd6,BM,U6.sat,HF] at hQ;have Ww2:k<n->((λk=>decide (((L k).size:Int)<=200))) k=false->F1 ((λk=>decide (((L k).size:Int)<=200))) n=false:=by
   intro h1 h2;rw [←Bool.not_eq_true];intro h3;have:=HG.1 h3 k h1;exact Bool.noConfusion (h2.symm.trans this)
  have dV:((λk=>decide (((L k).size:Int)<=200))) k=true-> ∀j,j<k+1->((λk=>decide (((L k).size:Int)<=200))) j=true:=by
   intro h1 j hj;rcases (show j<k\/j=k by omega) with h|rfl
   exact hx.2 j h;exact h1
  have B0: ¬k<n->F1 ((λk=>decide (((L k).size:Int)<=200))) n=true:=λh=>HG.2 (λj hj=>hx.2 j U3);have hQ1: ∀E,BM n L k .ret=some E->F1 ((λk=>decide (((L k).size:Int)<=200))) n=false->Q (.ret,E):=by
   intro E hE hf;cases hE;exact hQ.2 hf
  have hQ2: ∀E,BM n L k (.exit 0)=some E->F1 ((λk=>decide (((L k).size:Int)<=200))) n=true->Q (.exit 0,E):=by
   intro E hE hf;cases hE;exact hQ.1 hf
  simp only [U6.sat,UU,G4,HU,U5,FA]
  all_goals exact VM
theorem Qv0(UB:n<=100000):UH U8 50 [lns n L] (bl (rgB n L)):=by
 refine UL (L:=[RH [n<=100000] (oR n L)]) Aa UI Tryz.func50 (GF Tryz.f50) (GJ (lpE (b:= .loop Xk2) UD<|DU (λh=>Wi9 n L h))) (t:=need [n<=100000] (need [UJ (Q8 n L),(0:Int)=((0:Nat):Int)] (branch (F1 (λk=>decide ((↑(ByteArray.size (L k)):Int)<=200)) n) (leaf (RV.x (.bool (decide ((n:Int)<=50))))) (leaf (RV.x (WP)))))) UD ?_
 simp only [U6.sat,UU,GS,H6,UX,U5,G4,HU,RW];unfold rgB;refine ⟨U3,λh=>?_,λh=>?_⟩;simp [h];simp [h]
def Wa9:GM:=λl=>some ([l=[lns n L],n<=100000],bl (rgB n L))
theorem tB:UA U8 50 (Wa9 n L):=by
 refine ⟨(UZ Tryz.func50),?_⟩;intro avs ns res h I;cases h;have e:avs=[lns n L]:=I _ UE;have h0:n<=100000:=I _ UE;subst e;exact Qv0 n L h0
theorem Qv1(most:Int):UH U8 15 [lns n L,i most] (bl (rdB n L most)):=by
 refine UL (L:=[]) (Ae (Qu9 n L) (Ae (tB n L) Aa)) UI Tryz.func15 (GF Tryz.f15) UN (t:=need [(Y3 n L)] (branch (thB n L) (need [(Y3 n L),n<=100000] (branch (rgB n L) (leaf (RV.x (.bool (decide ((n:Int)<=most))))) (leaf (RV.x (WP))))) (leaf (RV.x (WP))))) UD ?_;simp only [U6.sat,UU,GS,UX,G4];have I:thB n L=true->n<=55:=λh=>by
  unfold thB at h;rw [HV,yN] at h;omega
 unfold rdB
 (with_reducible repeat' first|apply Al|intro _)
 all_goals first|(have:=I (by assumption);omega)|simp_all
theorem lW(UB:n<=100000):UH U8 22 [lns n L] (lns n L):=by
 refine GW (L:=[]) Aa Ad UI Tryz.func22 (GF Tryz.f22) GN (t:=need [(0+n)*16<=140737488355328,∀(i:Nat),i<n-> ∀(a:AV),a∈[HP (L i)]->AV.one a=true] (leaf (RV.lst 1 (0+n) (GX 0 (λx=>[]) λk=>[HP (L k)])))) UD ?_;simp only [U6.sat,UU,GS,true_and]
 (with_reducible repeat' first|apply Al|intro _)
 all_goals first|exact Ak|omega|(rename_i ha;rw [BE.1 ha];first|exact Ak|rfl)|exact fH _ _|rfl|trace_state
def Xw0:GM:=λl=>some ([l=[lns n L]],lns n L)
theorem SE(UB:n<=100000):UA U8 22 (Xw0 n L):=by
 refine ⟨(UZ Tryz.func22),?_⟩;intro avs ns res h I;cases h;have e:=I _ H0;subst e;exact lW n L UB
end
section
variable (L:Cf)
def acB(k:Nat):Bool:=eK L k==0
def DO(n:Nat):Nat:=GQ (acB L) n
def kpF(n:Nat)(j:Nat):ByteArray:=L (GD (acB L) n j)
end
section
variable (n:Nat)(L:Cf)
def Xg3:DX:=λl=>some (.need [l=[lns n L]] (.leaf (.tup [.agg (hsL (sK L n)),.lst 1 n (exG L),i 0])))
theorem SY(h0:ckE n L=0):Sx.Enters Tryz.prog 27/\ ∀avs t,Xg3 n L avs=some t->G6 U8 27 avs t:=by
 refine ⟨(UZ Tryz.func27),?_⟩;intro avs t h;cases h;intro Q hQ;have e:avs=[lns n L]:=hQ.1;subst e;have hk:=qD h0;refine mT n L U3 Q ⟨λh=>?_,λ_=>hQ.2⟩;rw [h0] at h;exact absurd h (by decide)
end
theorem Xs9{a:Cf}{k j:Nat}{x:ByteArray}(h:j<k+1)(hx:x=a k):GX k (λz=>[.x (.string (a z))]) (UO 1 [.x (.string x)]) j=[.x (.string (a j))]:=by
 subst hx;rcases (show j<k\/j=k by omega) with h1|rfl
 show HX (decide (j<k)) _ (UO _ _ (j-k))=_;rw [decide_eq_true h1,show j-k=0 by omega]
 rfl;show HX (decide (j<j)) _ (UO _ _ (j-j))=_;rw [show decide (j<j)=false by simp,Bs]
 rfl
section
variable (n:Nat)(L:Cf)
def Ja1:St:={σ:=[Q8 n L,top,ptr 0 0,Q9,AV.lit false,ptr 1 0,lst 1 n λj=>[iI (eK L j)],iI 0]++D6 39 [],m:=[(905,H9.row 9 1 0 λx=>[]),(1,H9.cells 43 (hL (sK L n))),(0,H9.cells 43 YZ)],nx:=906}
noncomputable def Jz8:Code:=UT (UC (UP Tryz.f16) 0)
def Wq1(k:Nat):St:={σ:=HI [(8,.row 905),(9,i k)] (Ja1 n L).σ,m:=[(905,.row 9 1 (DO L k) (λz=>[.x (.string (kpF L n z))])),(1,.cells 43 (hsL (sK L n))),(0,.cells 43 [.x (.slice none 0 0),i 0,i 0,.x (.slice none 0 0),.x (.slice none 0 0),.x (.slice none 0 0)])],nx:=906}
def I2(k:Nat):GR->Option St
 | .exit 0=>some {σ:=HI [(8,.row 905),(9,i n)] (Ja1 n L).σ,m:=[(905,.row 9 1 (DO L n) (λz=>[.x (.string (kpF L n z))])),(1,.cells 43 (hsL (sK L n))),(0,.cells 43 [.x (.slice none 0 0),i 0,i 0,.x (.slice none 0 0),.x (.slice none 0 0),.x (.slice none 0 0)])],nx:=906}
 |_=>none
def Jv3:CT:= .leaf (.exit 0,(I2 n L 0 (.exit 0)).getD (Ja1 n L))
def Zf2:G5:=H4 [(.slot 2,0,0,2),(.slot 5,1,0,2),(.slot 8,905,9,1)] (D1 (Wq1 n L (0)) (Jv3 n L))
end
abbrev YL(L:Cf)(n:Nat):Ci:=λz=>[HP (kpF L n z)]
section
variable (n:Nat)(L:Cf)
theorem Jl2(UB:ckE n L=0):GU U8 (.loop Jz8) (Zf2 n L):=by
 refine GL [(.slot 2,0,0,2),(.slot 5,1,0,2),(.slot 8,905,9,1)] (L:=[]) (Ae (SE n L (by have:=qD UB;omega)) Aa) (Aj Ab Ac (Ah (SY n L UB) (UV.nil _))) UI UN (X:=Nat) (Wq1 n L) (λk=>k<=n) (λk=>n-k) (I2 n L) (x0:=0) UE ?_ ?_ ?_
 rintro k;kernel_rfl;rintro k y E h;unfold I2 at h;split at h;cases h;kernel_rfl;cases h;rintro Q hQ k hx;refine ⟨(k+1),?_⟩;(with_reducible refine F4 (t:=let A:=(UJ (lst 1 n λj=>[iI (eK L j)]));let z1:=(UJ (hR ((sK L n).nr) (sK L n)));let z2:=(UJ (hY ((sK L n).nb) (sK L n)));let z3:=(UJ (hC ((sK L n).nc) (sK L n)));let z4:=(UJ (hT ((sK L n).ns) (sK L n)));(branch (decide ((k:Int)<(n:Int))) (need [G7 k n] (branch (eK L k==0) (need [G7 k n] (need [(DO L k+1)*16<=140737488355328,L0 1 (UO 1 [HP (L k)])] (need [U5 ((k:Int)+1)] (need [UJ (Q8 n L),QO,Q9=Q9,WN,XN,A,QV,UJ (AV.row 905),(k:Int)+1=(↑(k+1):Int),DO L k+1=DO L (k+1),∀(i:Nat),i<DO L (k+1)->GX (DO L k) ((YL L n)) (UO 1 [HP (L k)]) i=[HP (kpF L n i)],z1,UJ ((sK L n).pl),UJ ((sK L n).ph),z2,z3,z4,Q9=Q9,QV,QV,Q9=Q9,Q9=Q9,Q9=Q9] (leaf GR.normal))))) (need [U5 ((k:Int)+1)] (need [UJ (Q8 n L),QO,Q9=Q9,WN,XN,A,QV,UJ (AV.row 905),(k:Int)+1=(↑(k+1):Int),DO L k=DO L (k+1),∀(i:Nat),i<DO L (k+1)->[HP (kpF L n i)]=[HP (kpF L n i)],z1,UJ ((sK L n).pl),UJ ((sK L n).ph),z2,z3,z4,Q9=Q9,QV,QV,Q9=Q9,Q9=Q9,Q9=Q9] (leaf GR.normal))))) (need [UJ (Q8 n L),QO,Q9=Q9,WN,XN,A,QV,UJ (AV.row 905),(k:Int)=(n:Int),DO L k=DO L n,∀(i:Nat),i<DO L n->[HP (kpF L n i)]=[HP (kpF L n i)],z1,UJ ((sK L n).pl),UJ ((sK L n).ph),z2,z3,z4,Q9=Q9,QV,QV,Q9=Q9,Q9=Q9,Q9=Q9] (leaf (GR.exit 0))))) UD ?_)
 simp only [Jv3,I2,U6.sat,HF] at hQ;simp only [U6.sat,UU,GS,H6,UX,U5,G4,HU,RW,L1,LP,HC,I2]
 have b1:=vI (p:=acB L) (k:=k);have b0:=qD UB;have e0:DO L k=GQ (acB L) k:=rfl;have e00:DO L (k+1)=GQ (acB L) (k+1):=rfl;refine ⟨λh=>?_,λh=>?_⟩;have hk:k<n:=U3;cases hc:acB L k;have e1:=RF hc;have hc': ¬((eK L k==0)=true):=λh=>Bool.noConfusion (hc.symm.trans h);exact VX
 ·have e1:=DV hc;have hc': ¬((eK L k==0)=false):=λh=>Bool.noConfusion (hc.symm.trans h);have hq: ∀j,j<DO L (k+1)->GX (DO L k) (λz=>[.x (.string (kpF L n z))]) (UO 1 [.x (.string (L k))]) j=[.x (.string (kpF L n j))]:=by
   intro j hj;rw [e00,e1] at hj;refine Xs9 (a:=kpF L n) hj ?_;show L k=L (GD (acB L) n (GQ (acB L) k));rw [P2 hk hc]
  (with_reducible repeat' first|apply Al|intro _)
  all_goals first|exact B4|(first|exact absurd (by assumption) hc'|exact hq _ (by assumption)|exact FK (by assumption) (by simp [AV.one,Value.oneCell']))
 obtain rfl:k=n:=U3;exact VF
theorem tD(UB:ckE n L=0):G6 U8 16 [lns n L] (.leaf (.tup [.agg (hsL (sK L n)),.lst 1 (DO L n) (λz=>[.x (.string (kpF L n z))]),bl true])):=by
 refine HD (L:=[Zf2 n L]) (Ae (SE n L (by have:=qD UB;omega)) Aa) (Aj Ab Ac (Ah (SY n L UB) (UV.nil _))) UI Tryz.func16 (GF Tryz.f16) (GJ (lpE (b:= .loop Jz8) UD<|(Jl2 n L UB).N)) (t:=let A:=(leaf (tup [agg (hL (sK L n)),Q9,AV.lit false]));(need [(Y3 n L)] (need [(Y3 n L)] (branch ((0:Int) != 0) A (branch ((n:Int) != (n:Int)) A (need [UJ (Q8 n L),QO,Q9=Q9,WN,XN,UJ (lst 1 n λj=>[iI (eK L j)]),QV,UJ (AV.row 905),(0:Int)=((0:Nat):Int),0=DO L 0,∀(i:Nat),i<DO L 0->[]=[HP (kpF L n i)],UJ (hR ((sK L n).nr) (sK L n)),UJ ((sK L n).pl),UJ ((sK L n).ph),UJ (hY ((sK L n).nb) (sK L n)),UJ (hC ((sK L n).nc) (sK L n)),UJ (hT ((sK L n).ns) (sK L n)),Q9=Q9,QV,QV,Q9=Q9,Q9=Q9,Q9=Q9] (leaf (tup [agg (hL (sK L n)),lst 1 (DO L n) (YL L n),AV.lit true])))))))) UD ?_
 intro Q hQ;simp only [U6.sat,UU,G4,U5,FA] at hQ ⊢;have b0:=qD UB
 (with_reducible repeat' first|apply Al|intro _)
 all_goals first|exact Ak|contradiction|(exfalso;rename_i h9;simp at h9;done)|omega|rfl|(rename_i h;exact absurd h (Aq _))|exact ⟨.tup [.agg (hsL (sK L n)),.lst 1 (DO L n) (λz=>[.x (.string (kpF L n z))]),bl true],⟨CF _,⟨rfl,rfl,λ_ _=>rfl⟩,rfl,Ak⟩,hQ⟩|exact ⟨.tup [.agg (hsL (sK L n)),.lst 1 (DO L n) (λz=>[.x (.string (kpF L n z))]),bl true],⟨CF _,⟨rfl,rfl,λ_ _=>rfl⟩,⟨rfl,rfl⟩,Ak⟩,hQ⟩|trace_state
end
def cW:GM
 |[.lst 1 n f]=>some ([],.fn (.func 107) [] [.ro [.lst 1 n f]])
 |_=>none
theorem Wu1(n:Nat)(f:Ci):RB U8 64 [.lst 1 n f] (.fn (.func 107) [] [.ro [.lst 1 n f]]):=by
 refine DL (L:=[]) Aa Ad UI Tryz.func64 (GF Tryz.f64) GN (t:=leaf (AV.fn (Fn.func 107) [] [AV.ro [lst 1 n λa=>f a]])) UD ?_;exact rfl
theorem vD:PS U8 64 cW:=by
 refine ⟨(UZ Tryz.func64),?_⟩;intro avs ns res h I;unfold cW at h;split at h;cases h;exact Wu1 _ _;cases h
section
variable (N:Nat)(B:ByteArray)
abbrev ZW:AV:=AV.fn (Fn.func 107) [] [AV.ro [QI N B]]
def Jy0(m:Nat)(L:Cf):St:={σ:=[QI N B,top,ptr 0 0,ptr 1 0,top,top,top,ZW N B]++D6 12 [],m:=[(902,H9.row 9 1 0 λx=>[]),(1,H9.cells 3 [iI 0]),(0,H9.cells 26 [AV.row 902])],nx:=903}
noncomputable def Kb9:Code:=EE (UC (UP Tryz.f34) 0)
noncomputable def Jz2:Code:=ED (UC (UP Tryz.f34) 0)
def tG(m:Nat)(L:Cf)(k:Nat):St:={σ:=HI [] (Jy0 N B m L).σ,m:=[(902,.row 9 1 k (λz=>[.x (.string (L z))])),(1,.cells 3 [i (HM L k:Nat)]),(0,.cells 26 [.row 902])],nx:=903}
def sE(m:Nat)(L:Cf)(k:Nat):GR->Option St
 | .normal=>some {σ:=HI [] (Jy0 N B m L).σ,m:=[(902,.row 9 1 m (λz=>[.x (.string (L z))])),(1,.cells 3 [i (HM L m:Nat)]),(0,.cells 26 [.row 902])],nx:=903}
 |_=>none
def T_rv(m:Nat)(L:Cf):CT:= .leaf (.normal,tG N B m L m)
def Ze3(m:Nat)(L:Cf):G5:=H4 [(.cell 0 0,902,9,1)] (D1 (tG N B m L (0)) (T_rv N B m L))
end
abbrev JT:Ext:={R:=[(64,cW)],H:=[] }
abbrev YR(L:Cf):Ci:=λz=>[HP (L z)]
theorem VS{p:Prop}(h:p:=by
 (with_reducible repeat' first|apply Al|intro _)
 all_goals first|exact Ak|omega|rfl|exact hq _ (by assumption)|exact FK (by assumption) (by simp [AV.one,Value.oneCell'])|(exfalso;rename_i h9;simp at h9;omega)|trace_state):p:=h
section
variable (N:Nat)(B:ByteArray)(m:Nat)(L:Cf)
theorem Jj0(UB:EM N B m L):D3 U8 (.rangeFunc (rfF (UC (UP Tryz.f34) 0)) (xP (UC (UP Tryz.f34) 0)) Kb9 Jz2) (Ze3 N B m L):=by
 refine L4 [(.cell 0 0,902,9,1)] (L:=[]) Aa (Ai (Af vD Ab) Ac) UI UN (V:=Nat) (tG N B m L) (λk=>k<=m) (λk=>k) (sE N B m L) (x0:=0) UE rfl ?_ ?_ ?_ ?_ (g:=107) (caps:=[.ro [.lst 1 N (D8 B)]]) UD UD (MA N B m L UB) (λ_=>rfl) ?_;rintro k;kernel_rfl;rintro k y E h;unfold sE at h;split at h;cases h;kernel_rfl;cases h;rintro k;rfl;rintro k y E h;unfold sE at h;split at h;cases h;rfl;cases h;rintro Q hQ k hx;refine ⟨λhlt=>⟨(k+1),rfl,?_⟩,λB0=>?_⟩;(with_reducible refine F4 (t:=branch ((k:Int)==50) U6.fail (need [(k+1)*16<=140737488355328,L0 1 (UO 1 [HP (L k)])] (need [UJ (QI N B),QO,XN,UJ (ZW N B),k+1=k+1,HH (k+1) (GX k ((YR L)) (UO 1 [HP (L k)])) (λi=>[HP (L i)]),UJ (↑(HM L (k+1)):Int),W0] (leaf GR.normal)))) UD ?_)
 have h50:=UB.1;have h100:=UB.2.2.2.1;have h3:=UB.2.2.1;have h4:=dZ L (show k+1<=m from hlt);have hq: ∀j,j<k+1->GX k (λz=>[.x (.string (L z))]) (UO 1 [.x (.string (L k))]) j=[.x (.string (L j))]:=λj hj=>Xs9 hj rfl;simp only [U6.sat,UU,G4,HU,U5,FA]
 exact VS;have hk:k=m:=U3;subst hk;exact hQ
theorem Xr5(UB:EM N B m L):G6 U8 34 [.lst 1 N (D8 B)] (.leaf (.tup [.lst 1 m (λz=>[.x (.string (L z))]),i (HM L m:Nat)])):=by
 refine HD (L:=[Ze3 N B m L]) Aa (Ai (Af vD Ab) Ac) UI Tryz.func34 (GF Tryz.f34) (GJ (lpE (b:= .rangeFunc (rfF (UC (UP Tryz.f34) 0)) (xP (UC (UP Tryz.f34) 0)) Kb9 Jz2) UD<|Jj0 N B m L UB)) (t:=let A:=(leaf (tup [lst 1 m (YR L),iI (HM L m:Int)]));(need [UJ (QI N B),QO,XN,UJ (ZW N B),0=0,∀(i:Nat),i<0->[]=[HP (L i)],(0:Int)=(HM L 0:Int),W0] (U6.may True A (U6.may True A A)))) UD ?_
 intro Q hQ;have h50:=UB.1;have h100:=UB.2.2.2.1;have h3:=UB.2.2.1;simp only [U6.sat,UU,G4,U5,FA] at hQ ⊢
 (with_reducible repeat' first|apply Al|intro _)
 all_goals first|exact Ak|omega|rfl|assumption|(rename_i h;exact absurd h (Aq _))|exact ⟨.tup [.lst 1 m (λz=>[.x (.string (L z))]),i (HM L m:Nat)],⟨⟨rfl,rfl,λ_ _=>rfl⟩,⟨rfl,rfl⟩,Ak⟩,hQ⟩|trace_state
end
def frA(N:Nat)(B:ByteArray)(n:Nat)(M:Cf):List AV:= .lst 1 N (D8 B)::lns n M::List.replicate 46 .top
def frP(n:Nat)(M:Cf):List AV:= .top::lns n M:: .top:: .top:: .top:: .top:: .top:: .row 902::List.replicate 40 .top
section
variable (N:Nat)(B:ByteArray)
def Zh9(m:Nat)(L:Cf)(n:Nat)(M:Cf):St:={σ:=[QI N B,top,ptr 920 0,ptr 921 0,top,top,top,ZW N B]++D6 12 [],m:=[(902,H9.row 9 1 0 λx=>[]),(921,H9.cells 3 [iI 0]),(920,H9.cells 26 [AV.row 902])],nx:=922}
noncomputable def Zi4:Code:=EE (UC (UP Tryz.f34) 0)
noncomputable def Zi1:Code:=ED (UC (UP Tryz.f34) 0)
def bQ(m:Nat)(L:Cf)(n:Nat)(M:Cf)(k:Nat):St:={σ:=HI [] (Zh9 N B m L n M).σ,m:=[(902,.row 9 1 k (λz=>[.x (.string (L z))])),(921,.cells 3 [i (HM L k:Nat)]),(920,.cells 26 [.row 902])],nx:=922,sv:=[frA N B n M] }
def aT(m:Nat)(L:Cf)(n:Nat)(M:Cf)(k:Nat):GR->Option St
 | .normal=>some {σ:=HI [] (Zh9 N B m L n M).σ,m:=[(902,.row 9 1 m (λz=>[.x (.string (L z))])),(921,.cells 3 [i (HM L m:Nat)]),(920,.cells 26 [.row 902])],nx:=922,sv:=[frA N B n M] }
 |_=>none
def Ju4(m:Nat)(L:Cf)(n:Nat)(M:Cf):CT:= .leaf (.normal,bQ N B m L n M m)
abbrev Y1:List (Pl×Nat×TypeId×Nat):=[(.slot 2,920,0,2),(.slot 3,921,0,2),(.cell 920 0,902,9,1)]
def Qd9(m:Nat)(L:Cf)(n:Nat)(M:Cf):G5:=H4 Y1 (D1 (bQ N B m L n M (0)) (Ju4 N B m L n M))
end
abbrev QU(n:Nat)(M:Cf):Prop:=(lst 1 n λk=>[HP (M k)])=lst 1 n λk=>[HP (M k)]
section
variable (N:Nat)(B:ByteArray)(m:Nat)(L:Cf)(n:Nat)(M:Cf)
theorem Zm7(UB:EM N B m L):D3 U8 (.rangeFunc (rfF (UC (UP Tryz.f34) 0)) (xP (UC (UP Tryz.f34) 0)) Zi4 Zi1) (Qd9 N B m L n M):=by
 refine L4 Y1 (L:=[]) Aa (Ai (Af vD Ab) Ac) UI UN (V:=Nat) (bQ N B m L n M) (λk=>k<=m) (λk=>k) (aT N B m L n M) (x0:=0) UE rfl ?_ ?_ ?_ ?_ (g:=107) (caps:=[.ro [.lst 1 N (D8 B)]]) UD UD (MA N B m L UB) (λ_=>rfl) ?_;rintro k;kernel_rfl;rintro k y E h;unfold aT at h;split at h;cases h;kernel_rfl;cases h;rintro k;rfl;rintro k y E h;unfold aT at h;split at h;cases h;rfl;cases h;rintro Q hQ k hx;refine ⟨λhlt=>⟨(k+1),rfl,?_⟩,λB0=>?_⟩;(with_reducible refine F4 (t:=branch ((k:Int)==50) U6.fail (need [(k+1)*16<=140737488355328,L0 1 (UO 1 [HP (L k)])] (need [UJ (QI N B),UJ (ptr 920 0),UJ (ptr 921 0),UJ (ZW N B),k+1=k+1,HH (k+1) (GX k ((YR L)) (UO 1 [HP (L k)])) (λi=>[HP (L i)]),UJ (↑(HM L (k+1)):Int),W0,UJ (QI N B),QU n M] (leaf GR.normal)))) UD ?_)
 have h50:=UB.1;have h100:=UB.2.2.2.1;have h3:=UB.2.2.1;have h4:=dZ L (show k+1<=m from hlt);have hq: ∀j,j<k+1->GX k (λz=>[.x (.string (L z))]) (UO 1 [.x (.string (L k))]) j=[.x (.string (L j))]:=λj hj=>Xs9 hj rfl;simp only [U6.sat,UU,G4,HU,U5,FA]
 exact VS;have hk:k=m:=U3;subst hk;exact hQ
noncomputable def Xh9:DK:=vP Tryz.prog [] JT [Qd9 N B m L n M] Tryz.f34 (UP Tryz.f34)
theorem iZ(UB:EM N B m L):GT U8 34 (Xh9 N B m L n M):=
 tM (G:=[]) (X:=JT) (L:=[Qd9 N B m L n M]) Aa (Ai (Af vD Ab) Ac) UI (UZ Tryz.func34) Tryz.func34 (GF Tryz.f34) (GJ (lpE (b:= .rangeFunc (rfF (UC (UP Tryz.f34) 0)) (xP (UC (UP Tryz.f34) 0)) Zi4 Zi1) UD<|Zm7 N B m L n M UB))
end
theorem Qh9(str:ByteArray)(s:HS):lnS str (sOf (hsL s))=hsX (lnS str s) 0 (λ_=>[]) 0 (λ_=>[]):=by
 unfold lnS;rw [t8];split;rw [Xl8,aB];rfl
section
variable (q:Nat)(R:Cf)
def Xj1(n:Nat)(M:Cf):St:={σ:=[AV.row 902,top,QD,Q9,ptr 910 0,top,top,top,top,AV.row 902,iI (q:Int)]++D6 13 [],m:=[(912,H9.row 23 1 0 λx=>[]),(910,V0),(902,H9.row 9 1 q λz=>[HP (R z)])],nx:=928}
noncomputable def Zi2:Code:=UT (UC (UP Tryz.f37) 0)
def Qi9(n:Nat)(M:Cf)(k:Nat):St:={σ:=HI [(4,.ptr 910 0),(5,.row 912),(7,.top),(11,i k)] (Xj1 q R n M).σ,m:=[(912,.row 23 1 k (exG R)),(910,.cells 99 (hsL (sK R k))),(902,.row 9 1 q (λz=>[.x (.string (R z))]))],nx:=913,sv:=[frP n M] }
def dB(n:Nat)(M:Cf)(k:Nat):GR->Option St
 | .exit 0=>some {σ:=HI [(4,.ptr 910 0),(5,.row 912),(7,.top),(11,i q)] (Xj1 q R n M).σ,m:=[(912,.row 23 1 q (exG R)),(910,.cells 99 (hsL (sK R q))),(902,.row 9 1 q (λz=>[.x (.string (R z))]))],nx:=913,sv:=[frP n M] }
 |_=>none
def Zc4(n:Nat)(M:Cf):CT:= .leaf (.exit 0,(dB q R n M 0 (.exit 0)).getD (Xj1 q R n M))
def Qe2(n:Nat)(M:Cf):G5:=H4 [(.slot 4,910,0,2),(.slot 5,912,23,1)] (D1 (Qi9 q R n M (0)) (Zc4 q R n M))
end
abbrev JJ:Prop:=AV.row 912=AV.row 912
abbrev JV:Prop:=ptr 910 0=ptr 910 0
noncomputable abbrev K7:Ext:={R:=[],H:=[(67,e7),(63,(CP 912 902))] }
theorem Zr2(q:Nat)(R:Cf)(n:Nat)(M:Cf)(UB:q<=50)(UY: ∀k,k<q->(R k).size<=200):GU U8 (.loop Zi2) (Qe2 q R n M):=by
 refine GL [(.slot 4,910,0,2),(.slot 5,912,23,1)] (L:=[]) Aa (Ai Ab (Ag CK (Ag (dH 912 902) Ac))) UI UN (X:=Nat) (Qi9 q R n M) (λk=>k<=q) (λk=>q-k) (dB q R n M) (x0:=0) UE ?_ ?_ ?_;rintro k;kernel_rfl;rintro k y E h;unfold dB at h;split at h;cases h;kernel_rfl;cases h;rintro Q hQ k hx;refine ⟨(k+1),?_⟩;(with_reducible refine F4 (t:=let A:=(lnS (R k) (sOf (hsL (sK R k))));(branch (decide ((k:Int)<(q:Int))) (need [G7 k q] (need [k<q] (need [ByteArray.size (R k)<100000,(hL (sK R k))=(hL (sOf (hsL (sK R k)))),xV (sOf (hsL (sK R k))),1=1,1=1,∀(i:Nat),i<k-> ∀(a:AV),a∈exG R i-> ∃u,a=AV.x u,∀(i:Nat),i<q-> ∀(a:AV),a∈[HP (R i)]-> ∃u,a=AV.x u] (need [(k+1)*8<=140737488355328,L0 1 (UO 1 [iI (lnE (R k) (sOf (hsL (sK R k))))])] (need [U5 ((k:Int)+1)] (need [W0,QD=QD,Q9=Q9,JV,JJ,W0,UJ (q:Int),(k:Int)+1=(↑(k+1):Int),k+1=k+1,HH (k+1) (GX k (exG R) (UO 1 [iI (lnE (R k) (sOf (hsL (sK R k))))])) (exG R),(hR A.nr A)=hR ((sK R (k+1)).nr) (sK R (k+1)),A.pl=(sK R (k+1)).pl,A.ph=(sK R (k+1)).ph,(hY A.nb A)=hY ((sK R (k+1)).nb) (sK R (k+1)),(hC A.nc A)=hC ((sK R (k+1)).nc) (sK R (k+1)),(hT A.ns A)=hT ((sK R (k+1)).ns) (sK R (k+1)),q=q,∀(i:Nat),i<q->[HP (R i)]=[HP (R i)],QU n M,W0] (leaf GR.normal))))))) (need [W0,QD=QD,Q9=Q9,JV,JJ,W0,UJ (q:Int),(k:Int)=(q:Int),k=q,HB q (exG R),(hR ((sK R k).nr) (sK R k))=hR ((sK R q).nr) (sK R q),(sK R k).pl=(sK R q).pl,(sK R k).ph=(sK R q).ph,(hY ((sK R k).nb) (sK R k))=hY ((sK R q).nb) (sK R q),(hC ((sK R k).nc) (sK R k))=hC ((sK R q).nc) (sK R q),(hT ((sK R k).ns) (sK R k))=hT ((sK R q).ns) (sK R q),q=q,∀(i:Nat),i<q->[HP (R i)]=[HP (R i)],QU n M,W0] (leaf (GR.exit 0))))) UD ?_);simp only [Zc4,dB,U6.sat,HF] at hQ;simp only [U6.sat,UU,GS,H6,UX,U5,G4,HU,RW,L1,LP,HC,dB]
 have hz:lnS (R k) (sOf (hsL (sK R k)))=hsX (sK R (k+1)) 0 (λ_=>[]) 0 (λ_=>[]):=Qh9 (R k) (sK R k);have he:lnE (R k) (sOf (hsL (sK R k)))=eK R k:=t8 (R k) (sK R k);simp only [hz,he,hsX];refine ⟨λh=>?_,λh=>?_⟩
 ·have hk:k<q:=U3;have hs:=UY k hk;have hq: ∀j,j<k+1->GX k (exG R) (UO 1 [i (eK R k)]) j=exG R j:=λj hj=>Pt.catF1 (a:=eK R) hj rfl
  (with_reducible repeat' first|apply Al|intro _)
  all_goals first|exact B4|(first|exact hq _ (by assumption)|exact FK (by assumption) (by simp [AV.one,Value.oneCell'])|exact Wh9 (vY R k)|exact ⟨_,BE.1 (by assumption)⟩|trace_state)
 obtain rfl:k=q:=U3;exact VR
def lnF(f:Ci)(k:Nat):ByteArray:=stO (f k)
theorem lX(L:Cf)(n:Nat): ∀k,k<=n->sK (kpF L n) (DO L k)=sK L k
 | 0,_=>rfl
 |k+1,hk=>by
  have ih:=lX L n k U3;cases hc:acB L k with
  |true=>
   have e1:DO L (k+1)=DO L k+1:=DV hc;rw [e1];show lnS (kpF L n (DO L k)) (sK (kpF L n) (DO L k))=lnS (L k) (sK L k);rw [ih];have e2:kpF L n (DO L k)=L k:=by
    show L (GD (acB L) n (GQ (acB L) k))=L k;rw [P2 U3 hc]
   rw [e2]
  |false=>
   have e1:DO L (k+1)=DO L k:=RF hc;rw [e1,ih];have h1: ¬lnE (L k) (sK L k)=0:=by
    intro h;have:acB L k=true:=by
     show (lnE (L k) (sK L k)==0)=true;rw [h];rfl
    rw [hc] at this;cases this
   show sK L k=lnS (L k) (sK L k);unfold lnS;rw [if_neg h1]
theorem Wo4(L:Cf): ∀n j,j<DO L n-> ∃k,k<n/\acB L k=true/\DO L k=j
 | 0,j,h=>absurd h (Aq j)
 |n+1,j,h=>by
  cases hc:acB L n with
  |true=>
   have e1:DO L (n+1)=DO L n+1:=DV hc;rw [e1] at h;rcases (show j<DO L n\/j=DO L n by omega) with h1|h1
   obtain ⟨k,a,b,c⟩:=Wo4 L n j h1;exact ⟨k,U3,b,c⟩;exact ⟨n,U3,hc,h1.symm⟩
  |false=>
   have e1:DO L (n+1)=DO L n:=RF hc;rw [e1] at h;obtain ⟨k,a,b,c⟩:=Wo4 L n j h;exact ⟨k,U3,b,c⟩
theorem Qi3{L:Cf}{n j:Nat}(h:j<DO L n): ∃k,k<n/\acB L k=true/\kpF L n j=L k/\eK (kpF L n) j=0:=by
 obtain ⟨k,h1,h2,h3⟩:=Wo4 L n j h;have e2:kpF L n j=L k:=by
  show L (GD (acB L) n j)=L k;rw [←h3];show L (GD (acB L) n (GQ (acB L) k))=L k;rw [P2 h1 h2]
 refine ⟨k,h1,h2,e2,?_⟩;show lnE (kpF L n j) (sK (kpF L n) j)=0;rw [e2,←h3,lX L n k U3];exact beq_iff_eq.1 h2
theorem Ql1{n:Nat}{L:Cf}(h1:n<=50)(h2: ∀k,k<n->(L k).size<=200):ckE n L=0:=by
 unfold ckE;rw [if_pos ⟨h1,HG.2 λk hk=>decide_eq_true (by have:=h2 k hk;omega)⟩]
theorem Wo3{L:Cf}{n:Nat}(h:ckE n L=0):ckE (DO L n) (kpF L n)=0:=by
 have h0:=qD h;have h1:DO L n<=n:=vI _ _;refine Ql1 U3 λj hj=>?_;obtain ⟨k,k1,_,k3,_⟩:=Qi3 hj;rw [k3];exact h0.2 k k1
theorem Jj9{n:Nat}{L:Cf}{most:Int}(h:rdB n L most=true):ckE n L=0/\(n:Int)<=most:=by
 unfold rdB at h;rw [HV,HV,yN] at h;obtain ⟨_,h2,h3⟩:=h;unfold rgB at h2;rw [HV,yN] at h2;refine ⟨Ql1 U3 λk hk=>?_,h3⟩;have:=BI (HG.1 h2.1 k hk);omega
section
variable (q:Nat)(R:Cf)(n:Nat)(M:Cf)
noncomputable def Zh8:DK:=vP Tryz.prog [] K7 [Qe2 q R n M] Tryz.f37 (UP Tryz.f37)
theorem Qg5(UB:q<=50)(UY: ∀k,k<q->(R k).size<=200):GT U8 37 (Zh8 q R n M):=
 RT (G:=[]) (X:=K7) (L:=[Qe2 q R n M]) Aa (Ai Ab (Ag CK (Ag (dH 912 902) Ac))) UI (UZ Tryz.func37) Tryz.func37 (GF Tryz.f37) (GJ (lpE (b:= .loop Zi2) UD<|Zr2 q R n M UB UY))
end
def sM(s0:HS)(M:Cf):Nat->HS
 | 0=>s0
 |k+1=>lnS (M k) (sM s0 M k)
def aM(s0:HS)(M:Cf)(k:Nat):Bool:=lnE (M k) (sM s0 M k)==0
section
variable (q:Nat)(R:Cf)
def rsF(n:Nat)(M:Cf)(z:Nat):ByteArray:=if z<q then R z else M (GD (aM (sK R q) M) n (z-q))
def rsN(M:Cf)(k:Nat):Nat:=q+GQ (aM (sK R q) M) k
end
theorem Za4{s0:HS}(h:xV s0)(M:Cf): ∀k,xV (sM s0 M k)
 | 0=>h
 |k+1=>Wn4 (Za4 h M k) (M k)
section
variable {q:Nat}{R M:Cf}
theorem Wi2{n j:Nat}(h:j<q):[HP (R j)]=[HP (rsF q R n M j)]:=by
 unfold rsF;rw [if_pos h]
theorem Jj1{n k:Nat}(hk:k<n)(h:aM (sK R q) M k=true):M k=rsF q R n M (rsN q R M k):=by
 unfold rsF rsN;rw [if_neg U3,show q+GQ (aM (sK R q) M) k-q=GQ (aM (sK R q) M) k by omega,P2 hk h]
theorem Xm3{n:Nat}(h1: ∀k,k<q->(R k).size<=200)(h2: ∀k,k<n->(M k).size<=200): ∀z,z<rsN q R M n->(rsF q R n M z).size<=200:=by
 intro z hz;unfold rsF;unfold rsN at hz;split;exact h1 z (by assumption)
 exact h2 _ (yW (p:=aM (sK R q) M) (show z-q<GQ (aM (sK R q) M) n by omega)).1
end
abbrev YX(n:Nat)(M:Cf):AV:=lst 1 n λk=>[HP (M k)]
def Xi8(N:Nat)(B:ByteArray)(q:Nat)(R:Cf)(n:Nat)(M:Cf):St:={σ:=[top,YX n M]++D6 7 [ptr 910 0,AV.row 912]++D6 17 [YX n M,iI (n:Int)]++D6 18 [],m:=[(912,H9.row 23 1 q λj=>[iI (eK R j)]),(910,H9.cells 99 (hL (sK R q))),(902,H9.row 9 1 q λz=>[HP (R z)])],nx:=925}
noncomputable def Xk1:Code:=UT (UC (UP Tryz.f33) 0)
section
variable (N:Nat)(B:ByteArray)(q:Nat)(R:Cf)(n:Nat)(M:Cf)
def Qi8(k:Nat):St:={σ:=HI [(7,.row 902),(9,.ptr 910 0),(12,.top),(30,i k)] (Xi8 N B q R n M).σ,m:=[(912,.row 23 1 q (exG R)),(910,.cells 99 (hsL (sM (sK R q) M (k)))),(902,.row 9 1 (rsN q R M (k)) (λz=>[.x (.string (rsF q R n M z))]))],nx:=913}
def dA(k:Nat):GR->Option St
 | .exit 0=>some {σ:=HI [(7,.row 902),(9,.ptr 910 0),(12,.top),(30,i n)] (Xi8 N B q R n M).σ,m:=[(912,.row 23 1 q (exG R)),(910,.cells 99 (hsL (sM (sK R q) M (n)))),(902,.row 9 1 (rsN q R M (n)) (λz=>[.x (.string (rsF q R n M z))]))],nx:=913}
 |_=>none
def Zc1:CT:= .leaf (.exit 0,(dA N B q R n M 0 (.exit 0)).getD (Xi8 N B q R n M))
def Qe0:G5:=H4 [(.slot 7,902,9,1)] (D1 (Qi8 N B q R n M (0)) (Zc1 N B q R n M))
noncomputable abbrev VD:Ext:={R:=[],H:=[(34,(Xh9 N B q R n M)),(37,(Zh8 q R n M)),(63,(CP 912 902))] }
theorem Zm8(UB:EM N B q R)(UY:n<=100)(DF:ckE n M=0):GU U8 (.loop Xk1) (Qe0 N B q R n M):=by
 refine GL [(.slot 7,902,9,1)] (L:=[]) (Ae (LT n M U3) Aa) (Ai Ab (Ag (iZ N B q R n M UB) (Ag (Qg5 q R n M UB.1 UB.2.1) (Ag (dH 912 902) Ac)))) UI UN (X:=Nat) (Qi8 N B q R n M) (λk=>k<=n) (λk=>n-k) (dA N B q R n M) (x0:=0) UE ?_ ?_ ?_;rintro k;kernel_rfl;rintro k y E h;unfold dA at h;split at h;cases h;kernel_rfl;cases h;rintro Q hQ k hx;refine ⟨(k+1),?_⟩;(with_reducible refine F4 (t:=let z1:=(sOf (hsL (sM (sK R q) M k)));let A:=(lnS (M k) z1);let z2:=rsF q R n M;(branch (decide ((k:Int)<(n:Int))) (need [G7 k n] (need [ByteArray.size (M k)<100000,(hL (sM (sK R q) M k))=(hL z1),xV z1,1=1,1=1,∀(i:Nat),i<q-> ∀(a:AV),a∈exG R i-> ∃u,a=AV.x u,∀(i:Nat),i<rsN q R M k-> ∀(a:AV),a∈[HP (z2 i)]-> ∃u,a=AV.x u] (branch (lnE (M k) z1==0) (need [(rsN q R M k+1)*16<=140737488355328,L0 1 (UO 1 [HP (M k)])] (need [U5 ((k:Int)+1)] (need [QU n M,W0,JV,JJ,QU n M,UJ (n:Int),(k:Int)+1=(↑(k+1):Int),q=q,HB q (exG R),(hR A.nr A)=hR ((sM (sK R q) M (k+1)).nr) (sM (sK R q) M (k+1)),A.pl=(sM (sK R q) M (k+1)).pl,A.ph=(sM (sK R q) M (k+1)).ph,(hY A.nb A)=hY ((sM (sK R q) M (k+1)).nb) (sM (sK R q) M (k+1)),(hC A.nc A)=hC ((sM (sK R q) M (k+1)).nc) (sM (sK R q) M (k+1)),(hT A.ns A)=hT ((sM (sK R q) M (k+1)).ns) (sM (sK R q) M (k+1)),rsN q R M k+1=rsN q R M (k+1),∀(i:Nat),i<rsN q R M (k+1)->GX (rsN q R M k) (λz=>[HP (z2 z)]) (UO 1 [HP (M k)]) i=[HP (z2 i)]] (leaf GR.normal)))) (need [U5 ((k:Int)+1)] (need [QU n M,W0,JV,JJ,QU n M,UJ (n:Int),(k:Int)+1=(↑(k+1):Int),q=q,HB q (exG R),(hR A.nr A)=hR ((sM (sK R q) M (k+1)).nr) (sM (sK R q) M (k+1)),A.pl=(sM (sK R q) M (k+1)).pl,A.ph=(sM (sK R q) M (k+1)).ph,(hY A.nb A)=hY ((sM (sK R q) M (k+1)).nb) (sM (sK R q) M (k+1)),(hC A.nc A)=hC ((sM (sK R q) M (k+1)).nc) (sM (sK R q) M (k+1)),(hT A.ns A)=hT ((sM (sK R q) M (k+1)).ns) (sM (sK R q) M (k+1)),rsN q R M k=rsN q R M (k+1),∀(i:Nat),i<rsN q R M (k+1)->[HP (z2 i)]=[HP (z2 i)]] (leaf GR.normal)))))) (need [QU n M,W0,JV,JJ,QU n M,UJ (n:Int),(k:Int)=(n:Int),q=q,HB q (exG R),(hR ((sM (sK R q) M k).nr) (sM (sK R q) M k))=hR ((sM (sK R q) M n).nr) (sM (sK R q) M n),(sM (sK R q) M k).pl=(sM (sK R q) M n).pl,(sM (sK R q) M k).ph=(sM (sK R q) M n).ph,(hY ((sM (sK R q) M k).nb) (sM (sK R q) M k))=hY ((sM (sK R q) M n).nb) (sM (sK R q) M n),(hC ((sM (sK R q) M k).nc) (sM (sK R q) M k))=hC ((sM (sK R q) M n).nc) (sM (sK R q) M n),(hT ((sM (sK R q) M k).ns) (sM (sK R q) M k))=hT ((sM (sK R q) M n).ns) (sM (sK R q) M n),rsN q R M k=rsN q R M n,∀(i:Nat),i<rsN q R M n->[HP (z2 i)]=[HP (z2 i)]] (leaf (GR.exit 0))))) UD ?_)
 simp only [Zc1,dA,U6.sat,HF] at hQ;simp only [U6.sat,UU,GS,H6,UX,U5,G4,HU,RW,L1,LP,HC,dA]
 have h50:=UB.1;have hck:=qD DF;have hz:lnS (M k) (sOf (hsL (sM (sK R q) M k)))=hsX (sM (sK R q) M (k+1)) 0 (λ_=>[]) 0 (λ_=>[]):=Qh9 (M k) _;have he:lnE (M k) (sOf (hsL (sM (sK R q) M k)))=lnE (M k) (sM (sK R q) M k):=t8 (M k) _;simp only [hz,he,hsX];have hc:=vI (aM (sK R q) M) k;have hrn:rsN q R M k=q+GQ (aM (sK R q) M) k:=rfl;refine ⟨λh=>?_,λh=>?_⟩
 ·have hk:k<n:=U3;have hs:=hck.2 k hk;have hy:(lnE (M k) (sM (sK R q) M k)==0)=true->rsN q R M (k+1)=rsN q R M k+1/\ ∀j,j<rsN q R M (k+1)->GX (rsN q R M k) (λz=>[.x (.string (rsF q R n M z))]) (UO 1 [.x (.string (M k))]) j=[.x (.string (rsF q R n M j))]:=by
   intro h0;have h1:aM (sK R q) M k=true:=h0;have h2:rsN q R M (k+1)=rsN q R M k+1:=by
    unfold rsN;rw [DV h1];omega
   rw [h2];exact ⟨rfl,λj hj=>Xs9 hj (Jj1 hk h1)⟩
  have I:(lnE (M k) (sM (sK R q) M k)==0)=false->rsN q R M (k+1)=rsN q R M k:=by
   intro h0;have h1:aM (sK R q) M k=false:=h0;unfold rsN;rw [RF h1]
  (with_reducible repeat' first|apply Al|intro _)
  all_goals first|exact B4|(first|exact (I (by assumption)).symm|exact (hy (by assumption)).1.symm|exact (hy (by assumption)).2 _ (by assumption)|exact FK (by assumption) (by simp [AV.one,Value.oneCell'])|exact Wh9 (Za4 (vY R q) M k)|exact ⟨_,BE.1 (by assumption)⟩|trace_state)
 obtain rfl:k=n:=U3;exact VR
end
section
variable (q:Nat)(R:Cf)
abbrev J5(n:Nat)(M:Cf):AV:=tup [lst 1 (ByteArray.size (flB (rsF q R n M) (rsN q R M n))) λj=>[AV.x (.int IntKind.u8 (DZ (flB (rsF q R n M) (rsN q R M n)) j))],iI 0]
abbrev JQ(M:Cf)(n:Nat):Prop:=[lst 1 (rsN q R M n) λz=>[HP (rsF q R n M z)]]=[lst 1 (rsN q R M n) λk=>[HP (rsF q R n M k)]]
end
theorem Qj8(N:Nat)(B:ByteArray)(q:Nat)(R:Cf)(n:Nat)(M:Cf)(UB:EM N B q R)(UY:n<=100):G6 U8 33 [.lst 1 N (D8 B),lns n M] (.branch (ckE n M != 0) (.leaf (.tup [.x (.slice none 0 0),i (ckE n M)])) (.branch (decide (((rsN q R M n):Int)>50)) (.leaf (.tup [.x (.slice none 0 0),i 3])) (.leaf (.tup [.lst 1 (flB (rsF q R n M) (rsN q R M n)).size (D8 (flB (rsF q R n M) (rsN q R M n))),i 0])))):=by
 refine HD (L:=[RH [ckE n M=0] (Qe0 N B q R n M)]) (Ae (LT n M U3) (Ae (SR (rsN q R M n) (rsF q R n M)) Aa)) (Ai Ab (Ag (iZ N B q R n M UB) (Ag (Qg5 q R n M UB.1 UB.2.1) (Ag (dH 912 902) Ac)))) UI Tryz.func33 (GF Tryz.f33) (GJ (λcj hcj=>by
  have e:UC (UP Tryz.f33) 0=some (.loop Xk1):=UD;rw [e] at hcj;cases hcj;have hh:GU U8 (.loop Xk1) (RH [ckE n M=0] (Qe0 N B q R n M)):=DU (λh=>Zm8 N B q R n M UB UY h);exact hh.N)) (t:=let A:=(need [W0,QD=QD,Q9=Q9,JV,JJ,W0,UJ (q:Int),(0:Int)=((0:Nat):Int),0=0,HH 0 (λi=>[]) (exG R),(hR 0 hs0)=hR 0 (sK R 0),(760:Int)=(sK R 0).pl,(760:Int)=(sK R 0).ph,(X9)=lst 3 0 λk=>[iI ((sK R 0).ql k),iI ((sK R 0).qh k),lst 2 0 λj=>[iI ((sK R 0).qr k j),iI ((sK R 0).qv k j)]],(hC 0 hs0)=hC 0 (sK R 0),(hT 0 hs0)=hT 0 (sK R 0),q=q,∀(i:Nat),i<q->[HP (R i)]=[HP (R i)],QU n M,W0] (need [ckE n M=0] (need [QU n M,W0,JV,JJ,QU n M,UJ (n:Int),(0:Int)=((0:Nat):Int),q=q,HB q (exG R),(hR ((sK R q).nr) (sK R q))=hR ((sM (sK R q) M 0).nr) (sM (sK R q) M 0),(sK R q).pl=(sM (sK R q) M 0).pl,(sK R q).ph=(sM (sK R q) M 0).ph,(hY ((sK R q).nb) (sK R q))=hY ((sM (sK R q) M 0).nb) (sM (sK R q) M 0),(hC ((sK R q).nc) (sK R q))=hC ((sM (sK R q) M 0).nc) (sM (sK R q) M 0),(hT ((sK R q).ns) (sK R q))=hT ((sM (sK R q) M 0).ns) (sM (sK R q) M 0),q=rsN q R M 0,∀(i:Nat),i<rsN q R M 0->[HP (R i)]=[HP (rsF q R n M i)]] (branch (decide ((rsN q R M n:Int)>50)) (leaf (tup [Q9,iI 3])) (need [(JQ q R M n),ckE (rsN q R M n) (rsF q R n M)=0] (leaf (J5 q R n M)))))));(need [UJ ([YX n M])] (branch (ckE n M != 0) (leaf (tup [Q9,iI (ckE n M)])) (need [UJ (QI N B),UJ (ptr 920 0),UJ (ptr 921 0),UJ (ZW N B),0=0,∀(i:Nat),i<0->[]=[HP (R i)],(0:Int)=(HM R 0:Int),W0,UJ (QI N B),QU n M] (U6.may True A (U6.may True A A)))))) UD ?_
 intro Q hQ;simp only [U6.sat,UU,G4,U5,FA] at hQ ⊢;have rn: ∀z:Int,FR (.tup [.x (.slice none 0 0),i z]) (.tup [.x (.slice none 0 0),i z]):=λz=>⟨rfl,⟨rfl,rfl⟩,Ak⟩;have rl:FR (.tup [.lst 1 (flB (rsF q R n M) (rsN q R M n)).size (D8 (flB (rsF q R n M) (rsN q R M n))),i 0]) (.tup [.lst 1 (flB (rsF q R n M) (rsN q R M n)).size (D8 (flB (rsF q R n M) (rsN q R M n))),i 0]):=⟨⟨rfl,rfl,λ_ _=>rfl⟩,⟨rfl,rfl⟩,Ak⟩;refine ⟨λh=>⟨_,rn _,hQ.1 h⟩,λh=>?_⟩;have h0:ckE n M=0:=by simpa using h
 have hQ2:=hQ.2 h;have hck:=qD h0;have h50:=UB.1;have hfz:0=HM R 0:=rfl;have hk2:decide ((rsN q R M n:Int)>50)=false->ckE (rsN q R M n) (rsF q R n M)=0:=λhd=>Ql1 (by have:=of_decide_eq_false hd;omega) (Xm3 UB.2.1 hck.2)
 (with_reducible repeat' first|apply Al|intro _)
 all_goals first|exact Ak|exact h0|omega|rfl|(rename_i h;exact absurd h (Aq _))|exact hk2 (by assumption)|exact Wi2 (by assumption)|(rename_i h1;exact ⟨_,rn _,hQ2.1 h1⟩)|(rename_i h1;exact ⟨_,rl,hQ2.2 h1⟩)|trace_state
open Go Go.Sx Go.RowKit
def sF(n:Nat)(f g:Ci):Prop:= ∀k,k<n->f k=g k
def Zd0:GM
 |[.lst 1 n f,.x (.int .i64 most)]=>some ([sF n f (λk=>[.x (.string (lnF f k))])],bl (rdB n (lnF f) most))
 |_=>none
def Jx7(n:Nat)(L:Cf):DX:=λl=>some (.need [l=[lns n L],ckE n L=0] (.leaf (.tup [.agg (hsL (sK L n)),.lst 1 (DO L n) (λz=>[.x (.string (kpF L n z))]),bl true])))
theorem Zt1:UA U8 15 Zd0:=by
 refine ⟨(UZ Tryz.func15),?_⟩;intro avs ns res h I;unfold Zd0 at h;split at h;rename_i n f most;cases h;have h1:sF n f (λk=>[.x (.string (lnF f k))]):=I _ UE;exact (Qv1 n (lnF f) most).same (.cons (.lst 1 n _ _ h1) (.cons (.refl _) .nil));cases h
theorem Zr3(n:Nat)(L:Cf):Sx.Enters Tryz.prog 16/\ ∀avs t,Jx7 n L avs=some t->G6 U8 16 avs t:=by
 refine ⟨(UZ Tryz.func16),?_⟩;intro avs t h;cases h;intro Q hQ;have e:avs=[lns n L]:=hQ.1.1;have h0:ckE n L=0:=hQ.1.2;subst e;exact tD n L h0 Q hQ.2
def o8:GM
 |[.lst 1 n f]=>some ([n<=100000,sF n f (λk=>[.x (.string (lnF f k))])],lns n (lnF f))
 |_=>none
section
variable (n:Nat)(L:Cf)
def goN(cut:Int):Nat:=(cut.tmod ((HM (kpF L n) (DO L n):Nat)+1)).toNat
def Xf4:DX:=λl=>match l with
 |[.lst 1 N f]=>some (.need [N<=HM L n,sF N f (D8 (flB L n)),ckE n L=0] (.leaf (.tup [.lst 1 (whN L n N) (λz=>[.x (.string (L z))]),i (HM L (whN L n N):Nat)])))
 |_=>none
def Zd3:DX:=λl=>match l with
 |[.lst 1 N f]=>some (.need [N=DO L n,sF N f (λk=>[.x (.string (kpF L n k))]),ckE (DO L n) (kpF L n)=0] (.leaf (.tup [.lst 1 (HM (kpF L n) (DO L n)) (D8 (flB (kpF L n) (DO L n))),i 0])))
 |_=>none
def Xf3:DX:=λl=>match l with
 |[.x (.slice none 0 0),.lst 1 N f]=>some (.need [N=n,sF N f (λk=>[.x (.string (L k))]),ckE n L=0] (.leaf (.tup [.lst 1 (HM (kpF L n) (DO L n)) (D8 (flB (kpF L n) (DO L n))),i 0])))
 |[.lst 1 N f,.lst 1 N2 g]=>some (.need [N<=HM (kpF L n) (DO L n),sF N f (D8 (flB (kpF L n) (DO L n))),N2=DO L n-whN (kpF L n) (DO L n) N,sF N2 g (λj=>[.x (.string (kpF L n (whN (kpF L n) (DO L n) N+j)))]),ckE n L=0] (.leaf (.tup [.lst 1 (HM (kpF L n) (DO L n)) (D8 (flB (kpF L n) (DO L n))),i 0])))
 |_=>none
theorem Xn0:Sx.Enters Tryz.prog 34/\ ∀avs t,Xf4 n L avs=some t->G6 U8 34 avs t:=by
 refine ⟨(UZ Tryz.func34),?_⟩;intro avs t h;unfold Xf4 at h;split at h;rename_i N f;cases h;intro Q hQ;have h1:N<=HM L n:=hQ.1.1;have h2:sF N f (D8 (flB L n)):=hQ.1.2.1;have h0:ckE n L=0:=hQ.1.2.2;have hk:=qD h0;intro e w args q1 q2 q3 q4;refine Xr5 N (flB L n) (whN L n N) L (Xz3 hk.1 hk.2 h1) Q hQ.2 e w args q1 q2 ?_ ?_;exact VZ;obtain ⟨u,us,rfl,r1,r2⟩:=q4.cons_inv;exact .cons (FY (a:= .lst 1 N f) ⟨rfl,rfl,h2⟩ r1) r2;cases h
theorem Zj0:Sx.Enters Tryz.prog 32/\ ∀avs t,Zd3 n L avs=some t->G6 U8 32 avs t:=by
 refine ⟨(UZ Tryz.func32),?_⟩;intro avs t h;unfold Zd3 at h;split at h;rename_i N f;cases h;intro Q hQ;obtain rfl:N=DO L n:=hQ.1.1;have h2:sF (DO L n) f (λk=>[.x (.string (kpF L n k))]):=hQ.1.2.1;have h0:ckE (DO L n) (kpF L n)=0:=hQ.1.2.2;have hk:=qD h0;intro e w args q1 q2 q3 q4;refine SX (DO L n) (kpF L n) U3 Q ⟨λh=>?_,λ_=>hQ.2⟩ e w args q1 q2 ?_ ?_;rw [h0] at h;exact absurd h (by decide)
 exact VZ;obtain ⟨u,us,rfl,r1,r2⟩:=q4.cons_inv;exact .cons (FY (a:= .lst 1 (DO L n) f) ⟨rfl,rfl,h2⟩ r1) r2;cases h
end
theorem rQ{F G:Cf}: ∀{n:Nat},(∀k,k<n->F k=G k)->flB F n=flB G n
 | 0,_=>rfl
 |n+1,h=>by
  show flB F n++rcB (F n) n=flB G n++rcB (G n) n;rw [rQ (n:=n) (λk hk=>h k U3),h n (Bk n)]
theorem Ji9(L:Cf): ∀k,sM hs0 L k=sK L k
 | 0=>rfl
 |k+1=>by
  show lnS (L k) (sM hs0 L k)=lnS (L k) (sK L k);rw [Ji9 L k]
theorem Ji8(K:Cf)(q:Nat): ∀k,sM (sK K q) (λj=>K (q+j)) k=sK K (q+k)
 | 0=>rfl
 |k+1=>by
  show lnS (K (q+k)) (sM (sK K q) (λj=>K (q+j)) k)=lnS (K (q+k)) (sK K (q+k))
  rw [Ji8 K q k]
theorem rs_0(R L:Cf)(n:Nat):rsN 0 R L n=DO L n/\ ∀z,rsF 0 R n L z=kpF L n z:=by
 have e:aM (sK R 0) L=acB L:=by
  funext k;show (lnE (L k) (sM hs0 L k)==0)=(lnE (L k) (sK L k)==0);rw [Ji9]
 refine ⟨?_,λz=>?_⟩;unfold rsN;rw [e];exact Ap _;unfold rsF;rw [if_neg (Aq z),e];rfl
theorem rs_q{K:Cf}{m q:Nat}(hq:q<=m)(h: ∀j,j<m->eK K j=0):rsN q K (λj=>K (q+j)) (m-q)=m/\ ∀z,z<m->rsF q K (m-q) (λj=>K (q+j)) z=K z:=by
 have ha: ∀k,k<m-q->aM (sK K q) (λj=>K (q+j)) k=true:=by
  intro k hk;show (lnE (K (q+k)) (sM (sK K q) (λj=>K (q+j)) k)==0)=true
  rw [Ji8];have:=h (q+k) U3;show (eK K (q+k)==0)=true;rw [this];rfl
 have hc: ∀k,k<=m-q->GQ (aM (sK K q) (λj=>K (q+j))) k=k:=by
  intro k
  induction k with
  |zero=>intro _;rfl
  |succ k ih=>
   intro hk;rw [DV (ha k U3),ih U3]
 refine ⟨?_,λz hz=>?_⟩;unfold rsN;rw [hc _ (Am _)];omega;unfold rsF;split;rfl;have h1:=P2 (show z-q<m-q by omega) (ha (z-q) U3)
 rw [hc (z-q) U3] at h1;rw [h1];show K (q+(z-q))=K z;rw [show q+(z-q)=z by omega]
theorem Qv2:UA U8 22 o8:=by
 refine ⟨(UZ Tryz.func22),?_⟩;intro avs ns res h hn;unfold o8 at h;split at h;rename_i n f;cases h;have h1:n<=100000:=hn _ UE;have h2:sF n f (λk=>[.x (.string (lnF f k))]):=hn _ UE;exact (lW n (lnF f) h1).same (.cons (.lst 1 n _ _ h2) .nil);cases h
theorem Js7(B:ByteArray)(n:Nat):B7 n (D8 B):=λj _=>by1 (by have:=CJ B j;omega)
theorem Zv6{n:Nat}{L:Cf}{cut:Int}(h:0<=cut):cut.tmod ((HM (kpF L n) (DO L n):Nat)+1)=(goN n L cut:Int)/\goN n L cut<=HM (kpF L n) (DO L n):=by
 unfold goN;generalize HM (kpF L n) (DO L n)=z;have h1:cut.tmod ((z:Nat)+1)=cut%((z:Nat)+1):=Int.tmod_eq_emod_of_nonneg h;have h2:=Int.emod_nonneg cut (show ((z:Nat):Int)+1≠0 by omega)
 have h3:=Int.emod_lt_of_pos cut (show (0:Int)<(z:Nat)+1 by omega)
 omega
theorem Xm5(n:Nat)(L:Cf):Sx.Enters Tryz.prog 33/\ ∀avs t,Xf3 n L avs=some t->G6 U8 33 avs t:=by
 refine ⟨(UZ Tryz.func33),?_⟩;intro avs t h;unfold Xf3 at h;split at h;rename_i N f;cases h;intro Q hQ;obtain rfl:N=n:=hQ.1.1;have h2:sF N f (λk=>[.x (.string (L k))]):=hQ.1.2.1;have h0:ckE N L=0:=hQ.1.2.2;have hk:=qD h0;have W:=qD (Wo3 h0);obtain ⟨g1,g2⟩:=rs_0 L L N;have g3:flB (rsF 0 L N L) (DO L N)=flB (kpF L N) (DO L N):=rQ λk _=>g2 k;have hrc:EM 0 ByteArray.empty 0 L:=⟨U3,λk hk=>absurd hk (Aq k),Am 0,U3,λj hj=>absurd hj (Aq j),.inl U3⟩;intro e w args q1 q2 q3 q4;refine Qj8 0 ByteArray.empty 0 L N L hrc U3 Q ⟨λh=>?_,λ_=>⟨λh=>?_,λ_=>?_⟩⟩ e w args q1 q2 ?_ ?_;rw [h0] at h;exact absurd h (by decide)
 rw [g1] at h;have:=BI h;omega;rw [g1,g3];exact hQ.2;exact VV;obtain ⟨u,us,rfl,r1,r2⟩:=q4.cons_inv;obtain ⟨u2,us2,rfl,r3,r4⟩:=r2.cons_inv;obtain rfl:=r1.x_inv;exact .cons (.lstNil _ _) (.cons (FY (a:= .lst 1 N f) ⟨rfl,rfl,h2⟩ r3) r4);rename_i N f N2 g;cases h;intro Q hQ;have h1:N<=HM (kpF L n) (DO L n):=hQ.1.1;have h2:sF N f (D8 (flB (kpF L n) (DO L n))):=hQ.1.2.1;obtain rfl:N2=DO L n-whN (kpF L n) (DO L n) N:=hQ.1.2.2.1;have h3:sF (DO L n-whN (kpF L n) (DO L n) N) g (λj=>[.x (.string (kpF L n (whN (kpF L n) (DO L n) N+j)))]):=hQ.1.2.2.2.1;have h0:ckE n L=0:=hQ.1.2.2.2.2;have W:=qD (Wo3 h0);have hw:=(pF (kpF L n) (DO L n) N).1;obtain ⟨g1,g2⟩:=rs_q hw (λj hj=>by obtain ⟨k,_,_,_,h⟩:=Qi3 hj;exact h)
 have g3:=rQ (n:=DO L n) g2;have hc2:ckE (DO L n-whN (kpF L n) (DO L n) N) (λj=>kpF L n (whN (kpF L n) (DO L n) N+j))=0:=Ql1 U3 λk hk=>W.2 _ U3;intro e w args q1 q2 q3 q4;refine Qj8 N (flB (kpF L n) (DO L n)) (whN (kpF L n) (DO L n) N) (kpF L n) (DO L n-whN (kpF L n) (DO L n) N) (λj=>kpF L n (whN (kpF L n) (DO L n) N+j)) (Xz3 W.1 W.2 h1) U3 Q ⟨λh=>?_,λ_=>⟨λh=>?_,λ_=>?_⟩⟩ e w args q1 q2 ?_ ?_;rw [hc2] at h;exact absurd h (by decide)
 rw [g1] at h;have:=BI h;omega;rw [g1,g3];exact hQ.2;exact VV;obtain ⟨u,us,rfl,r1,r2⟩:=q4.cons_inv;obtain ⟨u2,us2,rfl,r3,r4⟩:=r2.cons_inv;exact .cons (FY (a:= .lst 1 N f) ⟨rfl,rfl,h2⟩ r1) (.cons (FY (a:= .lst 1 (DO L n-whN (kpF L n) (DO L n) N) g) ⟨rfl,rfl,h3⟩ r3) r4);cases h
abbrev Y8(L:Cf)(k:Nat):AV:=AV.x (.string (lnF (λk=>[HP (L k)]) k))
theorem Xk4(n:Nat)(L:Cf)(cut:Int)(UB:0<=cut/\cut<=65535):UH U8 8 [lns n L,.x (.int .u16 cut)] (bl true):=by
 refine GW (L:=[]) (Ae Zt1 (Ae Wf1 (Ae Qv2 Aa))) (Aj Ab Ac (Ah (Zr3 n L) (Ah (Zj0 n L) (Ah (Xm5 n L) (Ah (Xn0 (DO L n) (kpF L n)) (UV.nil _)))))) UI Tryz.func8 (GF Tryz.f8) GN (t:=let A:=(HM (kpF L n) (DO L n));let I:=(Int.tmod cut ((A:Int)+1));let S:=(flB (kpF L n) (DO L n));let z3:=(whN (kpF L n) (DO L n) (0+(Int.toNat I-(0:Int).toNat)));let z4:=(GX 0 (λx=>[]) λi=>D8 S ((0:Int).toNat+i));(need [sF n (λk=>[HP (L k)]) λk=>[Y8 L k]] (branch (!rdB n (lnF λk=>[HP (L k)]) (50:Int)) (leaf (RV.x (.bool true))) (need [(Y3 n L),ckE n L=0] (need [DO L n<=100000,sF (DO L n) ((YL L n)) λk=>[AV.x (.string (lnF ((YL L n)) k))]] (need [UJ (DO L n),sF (DO L n) (λk=>[AV.x (.string (lnF ((YL L n)) k))]) λk=>[HP (kpF L n k)],ckE (DO L n) (kpF L n)=0] (need [n<=100000,sF n (λk=>[HP (L k)]) λk=>[Y8 L k]] (need [n=n,sF n (λk=>[Y8 L k]) λk=>[HP (L k)],ckE n L=0] (branch (!true) (leaf (RV.x (WP))) (branch ((0:Int) != 0) (leaf (RV.x (WP))) (branch ((0:Int) != 0) (leaf (RV.x (WP))) (need [B7 A (D8 S)] (need [B7 A (D8 S)] (branch (!ByteArray.toList (bsO A (D8 S))==ByteArray.toList (bsO A (D8 S))) (leaf (RV.x (WP))) (need [U5 cut] (need [U5 ((A:Int)+1)] (need [(A:Int)+1≠0] (need [(0:Int)<=0/\(0:Int)<=Int.tmod cut ((A:Int)+1)/\Int.tmod cut ((A:Int)+1)<=(A:Int)] (need [(0+(Int.toNat I-(0:Int).toNat))*1<=140737488355328,∀(i:Nat),i<Int.toNat I-(0:Int).toNat-> ∀(a:AV),a∈D8 S ((0:Int).toNat+i)->AV.one a=true] (need [0+(Int.toNat I-(0:Int).toNat)<=HM (kpF L n) (DO L n),sF (0+(Int.toNat I-(0:Int).toNat)) z4 (D8 S),ckE (DO L n) (kpF L n)=0] (branch (decide ((z3:Int)>(DO L n:Int))) (leaf (RV.x (WP))) (need [(0:Int)<=0/\(0:Int)<=Int.tmod cut ((A:Int)+1)/\Int.tmod cut ((A:Int)+1)<=(A:Int)] (need [(0+(Int.toNat I-(0:Int).toNat))*1<=140737488355328,∀(i:Nat),i<Int.toNat I-(0:Int).toNat-> ∀(a:AV),a∈D8 S ((0:Int).toNat+i)->AV.one a=true] (need [(0:Int)<=(z3:Int)/\(z3:Int)<=(DO L n:Int)/\(DO L n:Int)<=(DO L n:Int)] (need [DO L n-whN (kpF L n) (DO L n) (0+(Int.toNat I-(0:Int).toNat))<=100000,sF (DO L n-whN (kpF L n) (DO L n) (0+(Int.toNat I-(0:Int).toNat))) (λi=>[AV.x (.string (kpF L n (whN (kpF L n) (DO L n) (0+(Int.toNat I-(0:Int).toNat))+i)))]) λk=>[AV.x (.string (lnF (λi=>[AV.x (.string (kpF L n (whN (kpF L n) (DO L n) (0+(Int.toNat I-(0:Int).toNat))+i)))]) k))]] (need [0+(Int.toNat I-(0:Int).toNat)<=HM (kpF L n) (DO L n),sF (0+(Int.toNat I-(0:Int).toNat)) z4 (D8 S),UJ (DO L n-whN (kpF L n) (DO L n) (0+(Int.toNat I-(0:Int).toNat))),sF (DO L n-whN (kpF L n) (DO L n) (0+(Int.toNat I-(0:Int).toNat))) (λk=>[AV.x (.string (lnF (λi=>[AV.x (.string (kpF L n (whN (kpF L n) (DO L n) (0+(Int.toNat I-(0:Int).toNat))+i)))]) k))]) λj=>[AV.x (.string (kpF L n (whN (kpF L n) (DO L n) (0+(Int.toNat I-(0:Int).toNat))+j)))],ckE n L=0] (branch ((0:Int)==0) (need [B7 A (D8 S)] (need [B7 A (D8 S)] (branch (ByteArray.toList (bsO A (D8 S))==ByteArray.toList (bsO A (D8 S))) (leaf (RV.x (.bool true))) (leaf (RV.x (WP)))))) (leaf (RV.x (WP)))))))))))))))))))))))))))))) UD ?_;have hL0:(lnF λk=>[HP (L k)])=L:=rfl;obtain ⟨cu1,cu2⟩:=Zv6 (n:=n) (L:=L) UB.1;have cu3:0+(goN n L cut-0)=goN n L cut:=U3;simp only [hL0,U6.sat,UU,GS,H6,UX,G4,U5,FA,cu1,show (0:Int).toNat=0 from rfl,cu3];refine ⟨λj _=>rfl,λ_=>Ak,λW=>?_⟩
 have W:rdB n L 50=true:=by simpa using W
 obtain ⟨h0,hn⟩:=Jj9 W;have h1:=Wo3 h0;have hk:=qD h1;have hz:HM (kpF L n) (DO L n)<=DO L n*212:=f7 (kpF L n) (DO L n) hk.2;have hw:=(pF (kpF L n) (DO L n) (goN n L cut)).1;have e0:0+n=n:=Ap n;have e1:0+DO L n=DO L n:=Ap _;have hb0:sF n (GX 0 (λx=>[]) (λk=>[HP (L k)])) (λk=>[.x (.string (L k))]):=λj _=>fH _ _;have hb1:sF (DO L n) (GX 0 (λx=>[]) (λk=>[HP (kpF L n k)])) (λk=>[.x (.string (kpF L n k))]):=λj _=>fH _ _;have hb2:sF (goN n L cut) (GX 0 (λx=>[]) (λi=>D8 (flB (kpF L n) (DO L n)) (0+i))) (D8 (flB (kpF L n) (DO L n))):=λj _=>(fH _ _).trans (by rw [Ap])
 clear W
 try simp only [e0,e1]
 (with_reducible repeat' first|apply Al|intro _)
 all_goals first|exact Ak|contradiction|exact h0|exact h1|exact hb0|exact hb1|exact hb2|exact Js7 _ _|omega|(exfalso;rename_i h9;simp at h9;done)|(exfalso;rename_i h9;have h8:=BI h9;omega)|exact FK (by assumption) (by simp [AV.one,Value.oneCell'])|rfl|(rename_i ha;rw [BE.1 ha];rfl)|(intro j _;rfl)|(intro j _;exact fH _ _)|trace_state
