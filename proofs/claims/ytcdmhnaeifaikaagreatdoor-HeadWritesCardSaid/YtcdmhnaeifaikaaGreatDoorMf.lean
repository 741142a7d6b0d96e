/- Contracts, put together. Conditions: those of each. -/
import Derived.Test.YtcdmhnaeifaikaaGreatDoorMe
import Derived.Deep.RegionHeld3
import Derived.Shelf.Strings.Builder1
import Derived.Shelf.Strings.Builder2
import Derived.Shelf.Strings.OnBuilder
set_option linter.unusedSimpArgs false
set_option linter.unusedVariables false
set_option maxRecDepth 100000
namespace Go.Proofs.YtcdmhnaeifaikaaGreatDoor.Hd
open Go Go.Shelf Go.Sx Go.RowKit
theorem Qf7{e:UP}{w:World}{v:Value}{u:Value}(h:Rep e w (.x u) v):v=u:=h.x_inv
theorem CR{l c:Int}(hl:0<=l/\l<=1000000000)(hc:0<=c/\c<=1000000000){e:UP}{w:World}(hro: ∀b,e.ro b->b<w.heap.size)(hgl:D2 e w):
  Calls Tryz.prog 44 #[.agg #[.int .i64 l,.int .i64 c]] w λen w'=>en= .returned (.string (tpB l c))/\Below w.heap.size w w':=by
 refine (m6 l c hl hc e w [.agg #[.int .i64 l,.int .i64 c]] hro hgl ?_ (.cons (.agg _ _ rfl ?_) (.nil _ _))).mono ?_;intro a ha;rw [B2.1 ha];refine .agg _ λb hb=>?_;simp only [GT,DO,or_false] at hb;rcases hb with rfl|rfl<;>exact .x _;exact (U8.cons (.x _) (.cons (.x _) (.nil _ _))).2;rintro en w' ⟨v,rfl,hb,hr⟩;rw [Qf7 hr];exact ⟨rfl,hb⟩
theorem gI(n U O:Int){e:UP}{w:World}(hro: ∀b,e.ro b->b<w.heap.size)(hgl:D2 e w):
  Calls Tryz.prog 29 #[.int .i64 n,.int .i64 U,.int .i64 O] w λen w'=>en= .returned (.bool (bt U n O))/\Below w.heap.size w w':=by
 refine (IX n U O e w [.int .i64 n,.int .i64 U,.int .i64 O] hro hgl ?_ (.cons (.x _) (.cons (.x _) (.cons (.x _) (.nil _ _))))).mono ?_;intro a ha;simp only [GT,DO,or_false] at ha;rcases ha with rfl|rfl|rfl<;>exact .x _;rintro en w' ⟨v,rfl,hb,hr⟩;rw [Qf7 hr];exact ⟨rfl,hb⟩
theorem wB{s:ByteArray}{v:Int}(hs:s.size<=100000)(h:Lib.atoiAll s.data.toList= .ok v)(w:World):Calls Tryz.prog 70 #[.string s] w λen w'=>en= .returned (.tuple #[.int .i64 v,.nilIface])/\Below w.heap.size w w':=by
 have hA:=Any.strconv_Atoi_ok dF s VO v h w
 change Calls Tryz.prog 70 _ _ _ at hA
 refine hA.mono ?_;rintro en A ⟨rfl,hw1⟩;exact ⟨rfl,x6 hw1⟩
theorem LG{w:World}{b o n cap:Nat}{s:ByteArray}(hs:s.size=n)(h: ∀j,j<n->w.cell? ⟨b,o+j,none⟩=some (.int .u8 (HE s j))):
  (convert 23 9 (.slice (some ⟨b,o,none⟩) n cap)).run Tryz.prog w= .ok (.string s) w:=by
 have hk:=run_convert_bytes_back (P:=Tryz.prog) w 23 9 5 ⟨b,o,none⟩ cap s.data.toList VZ VZ VZ (λj hj=>by
  have hj':j<s.data.size:=by simpa using hj
  have h2:=h j (by have:s.data.size=s.size:=rfl;omega)
  rw [DI,h2];unfold HE;rw [L0,Array.getElem?_eq_getElem hj'];simp)
 have e1:s.data.toList.length=n:=by
  rw [Array.length_toList];exact hs
 rw [e1] at hk;exact hk
def SS(w0:World)(H b o cap:Nat)(l c:Int)(w':World):Prop:=
 w'.cell? ⟨H,0,none⟩=some (.int .i64 l)/\w'.cell? ⟨H,1,none⟩=some (.int .i64 c)/\w'.frozen? ⟨H,0,none⟩=false/\w'.frozen? ⟨H,1,none⟩=false/\(convert 23 9 (.slice (some ⟨b,o,none⟩) 11 cap)).run Tryz.prog w'= .ok (.string (tpB l c)) w'/\
  w'.heap[H]? =some (Obj.cells #[.int .i64 l,.int .i64 c] 117)/\Below w0.heap.size w0 w'
theorem iB{w0 w':World}{H b o cap:Nat}{l c:Int}(hb:b<w0.heap.size)(F3: ∀j,j<11->w0.cell? ⟨b,o+j,none⟩=some (.int .u8 (HE (tpB l c) j)))
  (hH:w'.heap[H]? =some (Obj.cells #[.int .i64 l,.int .i64 c] 117))(hB:Below w0.heap.size w0 w'):SS w0 H b o cap l c w':=by
 refine ⟨by simp only [World.cell?,hH];rfl,by simp only [World.cell?,hH];rfl,by simp only [World.frozen?,hH];rfl,by simp only [World.frozen?,hH];rfl,LG (BK l c) λj hj=>?_,hH,hB⟩
 rw [←F3 j hj];exact hB.cell (p:=⟨b,o+j,none⟩) hb
theorem Xm9{w0 w':World}{H:Nat}{x:Obj}(hH:w'.heap[H]? =some x):H<w'.heap.size:=by
 rcases An H w'.heap.size with h|h;exact h;rw [Array.getElem?_eq_none h] at hH;cases hH
theorem yP{w0 w' w5:World}{H:Nat}{l c:Int}(hH:w'.heap[H]? =some (Obj.cells #[.int .i64 l,.int .i64 c] 117))(hB:Below w0.heap.size w0 w')(h5:Below w'.heap.size w' w5):
  w5.heap[H]? =some (Obj.cells #[.int .i64 l,.int .i64 c] 117)/\Below w0.heap.size w0 w5:=⟨(h5.block _ (Xm9 (w0:=w0) hH)).trans hH,hB.trans (h5.mono hB.size)⟩
theorem uC{w0 w':World}{H:Nat}{l c x y:Int}(h0:w0.heap.size<=H)(hH:w'.heap[H]? =some (Obj.cells #[.int .i64 x,.int .i64 y] 117))(hB:Below w0.heap.size w0 w'):
  ((w'.setCell ⟨H,0,none⟩ (.int .i64 l)).setCell ⟨H,1,none⟩ (.int .i64 c)).heap[H]? =some (Obj.cells #[.int .i64 l,.int .i64 c] 117)/\Below w0.heap.size w0 ((w'.setCell ⟨H,0,none⟩ (.int .i64 l)).setCell ⟨H,1,none⟩ (.int .i64 c)):=by
 have e0:(w'.setCell ⟨H,0,none⟩ (.int .i64 l)).heap[H]? =some (Obj.cells #[.int .i64 l,.int .i64 y] 117):=(heap_setCell_same w' H 0 _ _ (.int .i64 l) hH).trans rfl;exact ⟨(heap_setCell_same _ H 1 _ _ (.int .i64 c) e0).trans rfl,(hB.setCell h0 _).setCell h0 _⟩
def SSX(X:ByteArray)(w0:World)(H b o cap:Nat)(l c:Int)(w':World):Prop:=
 w'.cell? ⟨H,0,none⟩=some (.int .i64 l)/\w'.cell? ⟨H,1,none⟩=some (.int .i64 c)/\w'.frozen? ⟨H,0,none⟩=false/\w'.frozen? ⟨H,1,none⟩=false/\(convert 23 9 (.slice (some ⟨b,o,none⟩) 11 cap)).run Tryz.prog w'= .ok (.string X) w'/\
  w'.heap[H]? =some (Obj.cells #[.int .i64 l,.int .i64 c] 117)/\Below w0.heap.size w0 w'
theorem CV{X:ByteArray}{w0 w':World}{H b o cap:Nat}{l c:Int}(q11:X.size=11)(hb:b<w0.heap.size)(F3: ∀j,j<11->w0.cell? ⟨b,o+j,none⟩=some (.int .u8 (HE X j)))
  (hH:w'.heap[H]? =some (Obj.cells #[.int .i64 l,.int .i64 c] 117))(hB:Below w0.heap.size w0 w'):SSX X w0 H b o cap l c w':=by
 refine ⟨by simp only [World.cell?,hH];rfl,by simp only [World.cell?,hH];rfl,by simp only [World.frozen?,hH];rfl,by simp only [World.frozen?,hH];rfl,LG q11 λj hj=>?_,hH,hB⟩
 rw [←F3 j hj];exact hB.cell (p:=⟨b,o+j,none⟩) hb
set_option maxHeartbeats 4000000 in
theorem Wi9{n cap b o:Nat}{l c:Int}(h11:11<=n)(Xs4:n<=cap)(hl:0<=l/\l<=200)(hc:0<=c/\c<=99999){e:UP}{w:World}(hro: ∀b,e.ro b->b<w.heap.size)(hgl:D2 e w)(hb:b<w.heap.size)
  (F3: ∀j,j<11->w.cell? ⟨b,o+j,none⟩=some (.int .u8 (HE (tpB l c) j))):
  Calls Tryz.prog 46 #[.slice (some ⟨b,o,none⟩) n cap] w λen w'=>en= .returned (.tuple #[.agg #[.int .i64 l,.int .i64 c],.bool true])/\Below w.heap.size w w':=by
 have keep: ∀{A:World},Below w.heap.size w A-> ∀j,j<11->A.cell? ⟨b,o+j,none⟩=some (.int .u8 (HE (tpB l c) j)):=by
  intro A h1 j hj;rw [←F3 j hj];unfold World.cell?;rw [h1.block b hb]
 have cv3: ∀{A:World} (k:Nat),Below w.heap.size w A->(convert 23 9 (.slice (some ⟨b,o+1,none⟩) 3 k)).run Tryz.prog A= .ok (.string (dg3 l)) A:=λk h1=>LG rfl λj hj=>by
  rw [Ba,keep h1 _ VO,C9 l c hj]
 have cv5: ∀{A:World} (k:Nat),Below w.heap.size w A->(convert 23 9 (.slice (some ⟨b,o+5,none⟩) 5 k)).run Tryz.prog A= .ok (.string (dg5 c)) A:=λk h1=>LG rfl λj hj=>by
  rw [Ba,keep h1 _ VO,Qk2 l c hj]
 have cv11: ∀{A:World} (k:Nat),Below w.heap.size w A->(convert 23 9 (.slice (some ⟨b,o,none⟩) 11 k)).run Tryz.prog A= .ok (.string (tpB l c)) A:=λk h1=>LG (BK l c) λj hj=>keep h1 j hj;have i1:(0:Int)<=(n:Int):=VO;have i2:(4:Int)<=(n:Int):=VO;have i3:(10:Int)<=(n:Int):=VO;have i4:(11:Int)<=(n:Int):=VO;have i5:(n:Int)<=(cap:Int):=VO;have i6:(4:Int)<=(cap:Int):=VO;have i7:(10:Int)<=(cap:Int):=VO;have i8:(11:Int)<=(cap:Int):=VO;have hB1:Below w.heap.size w (w.alloc (Obj.cells #[.int .i64 0,.int .i64 0] 117)):=(Below.refl _ _).alloc (Am _) _;have e1:=cv3 (cap-1) hB1;have hbt:bt 0 l 200=true:=(Bo.bt_iff _ _ _).2 VO;have hcn:decide (c<0)=false:=decide_eq_false VO;have a3:=N4 (n:=l) VO;have a5:=N3 (n:=c) VO;have z3:(dg3 l).size<=100000:=by show 3<=100000;decide
 have z5:(dg5 c).size<=100000:=by show 5<=100000;decide
 go_enter Tryz.func46,Tryz.ntmps46
 go_wp2_with (go_at_call 70;refine (wB z3 a3 _).mono ?_;rintro en A ⟨rfl,hw1⟩)
 have hB2:Below w.heap.size w A:=hB1.trans (hw1.mono hB1.size);have m7:w.heap.size<(w.alloc (Obj.cells #[.int .i64 0,.int .i64 0] 117)).heap.size:=VY;have z8:w.heap.size<A.heap.size:=PJ m7 hw1.size;have hH1:A.heap[w.heap.size]? =some (Obj.cells #[.int .i64 0,.int .i64 0] 117):=(hw1.block _ m7).trans (heap_alloc_new w _);rw [cv5 (cap-5) hB2]
 go_wp2_with (go_at_call 70;refine (wB z5 a5 _).mono ?_;rintro en w2 ⟨rfl,hw2⟩;have hH2:w2.heap[w.heap.size]? =some (Obj.cells #[.int .i64 0,.int .i64 0] 117):=(hw2.block _ z8).trans hH1)
 have Zv2:w.heap.size<w2.heap.size:=PJ z8 hw2.size;have hB3:Below w.heap.size w w2:=hB2.trans (hw2.mono hB2.size);have Zv8: ∀b,e.ro b->b<w2.heap.size:=λb h=>PJ (hro b h) hB3.size;refine (gI l 0 200 Zv8 (RO hgl hB3)).mono ?_;rintro en w3 ⟨rfl,hw3⟩;have hH3:w3.heap[w.heap.size]? =some (Obj.cells #[.int .i64 0,.int .i64 0] 117):=(hw3.block _ Zv2).trans hH2;have hc0:w3.cell? ⟨w.heap.size,0,none⟩=some (.int .i64 0):=by simp only [World.cell?,hH3];rfl
 have hc1:w3.cell? ⟨w.heap.size,1,none⟩=some (.int .i64 0):=by simp only [World.cell?,hH3];rfl
 have hf0:w3.frozen? ⟨w.heap.size,0,none⟩=false:=by simp only [World.frozen?,hH3];rfl
 have hf1:w3.frozen? ⟨w.heap.size,1,none⟩=false:=by simp only [World.frozen?,hH3];rfl
 have hB4:Below w.heap.size w w3:=hB3.trans (hw3.mono hB3.size);rw [hbt]
 go_wp2
 obtain ⟨hH5,hB5⟩:=uC (l:=l) (c:=c) (Am _) hH3 hB4;generalize (w3.setCell ⟨w.heap.size,0,none⟩ (.int .i64 l)).setCell ⟨w.heap.size,1,none⟩ (.int .i64 c)=w5 at hH5 hB5 ⊢;have hss:SS w w.heap.size b o cap l c w5:=iB hb F3 hH5 hB5;have hro': ∀{w':World},Below w.heap.size w w'-> ∀b,e.ro b->b<w'.heap.size:=λhB b h=>PJ (hro b h) hB.size;have hH6:w5.drew.heap[w.heap.size]? =some (Obj.cells #[.int .i64 l,.int .i64 c] 117):=hH5;have hB6:Below w.heap.size w w5.drew:=hB5.drew;clear hc0 hc1 hf0 hf1 keep cv3 cv5 cv11
 go_region_held3 (λw'=>w'.cell? ⟨w.heap.size,0,none⟩=some (.int .i64 l)/\w'.cell? ⟨w.heap.size,1,none⟩=some (.int .i64 c)/\w'.frozen? ⟨w.heap.size,0,none⟩=false/\w'.frozen? ⟨w.heap.size,1,none⟩=false/\(convert 23 9 (.slice (some ⟨b,o,none⟩) 11 cap)).run Tryz.prog w'= .ok (.string (tpB l c)) w'/\w'.heap[w.heap.size]? =some (Obj.cells #[.int .i64 l,.int .i64 c] 117)/\Below w.heap.size w w')
  (first|exact hss|exact iB hb F3 (by assumption) (Below.drew (by assumption))|exact (λh=>iB hb F3 h.1 h.2) (yP (by assumption) (by assumption) (by assumption))|exact (λh=>iB hb F3 h.1 h.2) ((λg=>uC (Am _) g.1 g.2) (yP hH6 hB6 (by assumption))))
  (first|(go_at_call 44;refine (CR (e:=e) VO VO (hro' (by assumption)) (RO hgl (by assumption))).mono ?_;rintro en w6 ⟨rfl,hw6⟩))
 obtain ⟨hH7,hB7⟩:=(λg=>uC (l:=l) (c:=c) (Am _) g.1 g.2) (yP hH6 hB6 hw6);generalize (w6.setCell ⟨w.heap.size,0,none⟩ (.int .i64 l)).setCell ⟨w.heap.size,1,none⟩ (.int .i64 c)=w7 at hH7 hB7 ⊢;obtain ⟨c70,c71,_⟩:=iB (cap:=cap) hb F3 hH7 hB7
 go_wp2
 refine bodyPost_ret (v:= .tuple #[.agg #[.int .i64 l,.int .i64 c],.bool true]) ?_ rfl ⟨rfl,hB7⟩;simp [results,Tryz.results46,c70,c71,go_sem]
set_option maxHeartbeats 4000000 in
theorem Wj0{n cap b o:Nat}{l c:Int}(h11:11<=n)(Xs4:n<=cap)(hl:0<=l/\l<=200)(hc:0<=c/\c<=99999){e:UP}{w:World}(hro: ∀b,e.ro b->b<w.heap.size)(hgl:D2 e w)(hb:b<w.heap.size){s3 s5 X:ByteArray}(q3:s3.size=3)(q5:s5.size=5)(q11:X.size=11)(k3: ∀j,j<3->HE s3 j=HE X (1+j))(k5: ∀j,j<5->HE s5 j=HE X (5+j))(a3:Lib.atoiAll s3.data.toList= .ok l)(a5:Lib.atoiAll s5.data.toList= .ok c)(hne:tpB l c≠X)
  (F3: ∀j,j<11->w.cell? ⟨b,o+j,none⟩=some (.int .u8 (HE X j))):
  Calls Tryz.prog 46 #[.slice (some ⟨b,o,none⟩) n cap] w λen w'=>en= .returned (.tuple #[.agg #[.int .i64 l,.int .i64 c],.bool false])/\Below w.heap.size w w':=by
 have keep: ∀{A:World},Below w.heap.size w A-> ∀j,j<11->A.cell? ⟨b,o+j,none⟩=some (.int .u8 (HE X j)):=by
  intro A h1 j hj;rw [←F3 j hj];unfold World.cell?;rw [h1.block b hb]
 have cv3: ∀{A:World} (k:Nat),Below w.heap.size w A->(convert 23 9 (.slice (some ⟨b,o+1,none⟩) 3 k)).run Tryz.prog A= .ok (.string s3) A:=λk h1=>LG q3 λj hj=>by
  rw [Ba,keep h1 _ VO,k3 j hj]
 have cv5: ∀{A:World} (k:Nat),Below w.heap.size w A->(convert 23 9 (.slice (some ⟨b,o+5,none⟩) 5 k)).run Tryz.prog A= .ok (.string s5) A:=λk h1=>LG q5 λj hj=>by
  rw [Ba,keep h1 _ VO,k5 j hj]
 have cv11: ∀{A:World} (k:Nat),Below w.heap.size w A->(convert 23 9 (.slice (some ⟨b,o,none⟩) 11 k)).run Tryz.prog A= .ok (.string X) A:=λk h1=>LG q11 λj hj=>keep h1 j hj;have i1:(0:Int)<=(n:Int):=VO;have i2:(4:Int)<=(n:Int):=VO;have i3:(10:Int)<=(n:Int):=VO;have i4:(11:Int)<=(n:Int):=VO;have i5:(n:Int)<=(cap:Int):=VO;have i6:(4:Int)<=(cap:Int):=VO;have i7:(10:Int)<=(cap:Int):=VO;have i8:(11:Int)<=(cap:Int):=VO;have hB1:Below w.heap.size w (w.alloc (Obj.cells #[.int .i64 0,.int .i64 0] 117)):=(Below.refl _ _).alloc (Am _) _;have e1:=cv3 (cap-1) hB1;have hbt:bt 0 l 200=true:=(Bo.bt_iff _ _ _).2 VO;have hcn:decide (c<0)=false:=decide_eq_false VO;have z3:s3.size<=100000:=VO;have z5:s5.size<=100000:=VO
 go_enter Tryz.func46,Tryz.ntmps46
 go_wp2_with (go_at_call 70;refine (wB z3 a3 _).mono ?_;rintro en A ⟨rfl,hw1⟩)
 have hB2:Below w.heap.size w A:=hB1.trans (hw1.mono hB1.size);have m7:w.heap.size<(w.alloc (Obj.cells #[.int .i64 0,.int .i64 0] 117)).heap.size:=VY;have z8:w.heap.size<A.heap.size:=PJ m7 hw1.size;have hH1:A.heap[w.heap.size]? =some (Obj.cells #[.int .i64 0,.int .i64 0] 117):=(hw1.block _ m7).trans (heap_alloc_new w _);rw [cv5 (cap-5) hB2]
 go_wp2_with (go_at_call 70;refine (wB z5 a5 _).mono ?_;rintro en w2 ⟨rfl,hw2⟩;have hH2:w2.heap[w.heap.size]? =some (Obj.cells #[.int .i64 0,.int .i64 0] 117):=(hw2.block _ z8).trans hH1)
 have Zv2:w.heap.size<w2.heap.size:=PJ z8 hw2.size;have hB3:Below w.heap.size w w2:=hB2.trans (hw2.mono hB2.size);have Zv8: ∀b,e.ro b->b<w2.heap.size:=λb h=>PJ (hro b h) hB3.size;refine (gI l 0 200 Zv8 (RO hgl hB3)).mono ?_;rintro en w3 ⟨rfl,hw3⟩;have hH3:w3.heap[w.heap.size]? =some (Obj.cells #[.int .i64 0,.int .i64 0] 117):=(hw3.block _ Zv2).trans hH2;have hc0:w3.cell? ⟨w.heap.size,0,none⟩=some (.int .i64 0):=by simp only [World.cell?,hH3];rfl
 have hc1:w3.cell? ⟨w.heap.size,1,none⟩=some (.int .i64 0):=by simp only [World.cell?,hH3];rfl
 have hf0:w3.frozen? ⟨w.heap.size,0,none⟩=false:=by simp only [World.frozen?,hH3];rfl
 have hf1:w3.frozen? ⟨w.heap.size,1,none⟩=false:=by simp only [World.frozen?,hH3];rfl
 have hB4:Below w.heap.size w w3:=hB3.trans (hw3.mono hB3.size);rw [hbt]
 go_wp2
 obtain ⟨hH5,hB5⟩:=uC (l:=l) (c:=c) (Am _) hH3 hB4;generalize (w3.setCell ⟨w.heap.size,0,none⟩ (.int .i64 l)).setCell ⟨w.heap.size,1,none⟩ (.int .i64 c)=w5 at hH5 hB5 ⊢;have hss:SSX X w w.heap.size b o cap l c w5:=CV q11 hb F3 hH5 hB5;have hro': ∀{w':World},Below w.heap.size w w'-> ∀b,e.ro b->b<w'.heap.size:=λhB b h=>PJ (hro b h) hB.size;have hH6:w5.drew.heap[w.heap.size]? =some (Obj.cells #[.int .i64 l,.int .i64 c] 117):=hH5;have hB6:Below w.heap.size w w5.drew:=hB5.drew;clear hc0 hc1 hf0 hf1 keep cv3 cv5 cv11
 go_region_held3 (λw'=>w'.cell? ⟨w.heap.size,0,none⟩=some (.int .i64 l)/\w'.cell? ⟨w.heap.size,1,none⟩=some (.int .i64 c)/\w'.frozen? ⟨w.heap.size,0,none⟩=false/\w'.frozen? ⟨w.heap.size,1,none⟩=false/\(convert 23 9 (.slice (some ⟨b,o,none⟩) 11 cap)).run Tryz.prog w'= .ok (.string X) w'/\w'.heap[w.heap.size]? =some (Obj.cells #[.int .i64 l,.int .i64 c] 117)/\Below w.heap.size w w')
  (first|exact hss|exact CV q11 hb F3 (by assumption) (Below.drew (by assumption))|exact (λh=>CV q11 hb F3 h.1 h.2) (yP (by assumption) (by assumption) (by assumption))|exact (λh=>CV q11 hb F3 h.1 h.2) ((λg=>uC (Am _) g.1 g.2) (yP hH6 hB6 (by assumption))))
  (first|(go_at_call 44;refine (CR (e:=e) VO VO (hro' (by assumption)) (RO hgl (by assumption))).mono ?_;rintro en w6 ⟨rfl,hw6⟩))
 obtain ⟨hH7,hB7⟩:=(λg=>uC (l:=l) (c:=c) (Am _) g.1 g.2) (yP hH6 hB6 hw6);generalize (w6.setCell ⟨w.heap.size,0,none⟩ (.int .i64 l)).setCell ⟨w.heap.size,1,none⟩ (.int .i64 c)=w7 at hH7 hB7 ⊢;obtain ⟨c70,c71,_⟩:=CV (cap:=cap) q11 hb F3 hH7 hB7
 go_wp2
 refine bodyPost_ret (v:= .tuple #[.agg #[.int .i64 l,.int .i64 c],.bool false]) ?_ rfl ⟨rfl,hB7⟩;simp [results,Tryz.results46,c70,c71,go_sem];rw [ByteArray.toList_eq,ByteArray.toList_eq];exact λhx=>hne ((LH.2 hx.symm).symm.trans (LH.2 rfl))
theorem Xd4{s:ByteArray}(hs:s.size<=100000)(hno: ∀v,Lib.atoiAll s.data.toList≠ .ok v){e:UP}{w:World}(hgl:D2 e w):Calls Tryz.prog 70 #[.string s] w λen w'=>(∃k te pe,en= .returned (.tuple #[.int .i64 k,.iface te pe]))/\Below w.heap.size w w':=by
 obtain ⟨⟨ev0,he0,he0'⟩,⟨ev1,he1,he1'⟩⟩:=Wz6 hgl;cases h:Lib.atoiAll s.data.toList;rename_i v;exact absurd h (hno v);exact VL;exact VM
theorem nO{s:ByteArray}(hs:s.size<=100000){e:UP}{w:World}(hgl:D2 e w):Calls Tryz.prog 70 #[.string s] w λen w'=>(∃k x,en= .returned (.tuple #[.int .i64 k,x])/\((Lib.atoiAll s.data.toList= .ok k/\x= .nilIface)\/((∀v,Lib.atoiAll s.data.toList≠ .ok v)/\ ∃te pe,x= .iface te pe)))/\Below w.heap.size w w':=by
 rcases Classical.em (∃v,Lib.atoiAll s.data.toList= .ok v) with ⟨v,hv⟩|Z;refine (wB hs hv w).mono ?_;rintro en w' ⟨rfl,hb⟩;exact ⟨⟨v,_,rfl,.inl ⟨hv,rfl⟩⟩,hb⟩;have hno: ∀v,Lib.atoiAll s.data.toList≠ .ok v:=λv h=>Z ⟨v,h⟩;refine (Xd4 hs hno hgl).mono ?_;rintro en w' ⟨⟨k,te,pe,rfl⟩,hb⟩;exact ⟨⟨k,_,rfl,.inr ⟨hno,te,pe,rfl⟩⟩,hb⟩
set_option maxHeartbeats 4000000 in
theorem Qr3{n cap b o:Nat}(h11:11<=n)(Xs4:n<=cap){e:UP}{w:World}(hro: ∀b,e.ro b->b<w.heap.size)(hgl:D2 e w)(hb:b<w.heap.size){s3 s5 X:ByteArray}(q3:s3.size=3)(q5:s5.size=5)(k3: ∀j,j<3->HE s3 j=HE X (1+j))(k5: ∀j,j<5->HE s5 j=HE X (5+j))(hz: ∀l c,Lib.atoiAll s3.data.toList= .ok l->Lib.atoiAll s5.data.toList= .ok c->0<=l->l<=200->c<0)
  (F3: ∀j,j<11->w.cell? ⟨b,o+j,none⟩=some (.int .u8 (HE X j))):
  Calls Tryz.prog 46 #[.slice (some ⟨b,o,none⟩) n cap] w λen w'=>en= .returned (.tuple #[.agg #[.int .i64 0,.int .i64 0],.bool false])/\Below w.heap.size w w':=by
 have keep: ∀{A:World},Below w.heap.size w A-> ∀j,j<11->A.cell? ⟨b,o+j,none⟩=some (.int .u8 (HE X j)):=by
  intro A h1 j hj;rw [←F3 j hj];unfold World.cell?;rw [h1.block b hb]
 have cv3: ∀{A:World} (k:Nat),Below w.heap.size w A->(convert 23 9 (.slice (some ⟨b,o+1,none⟩) 3 k)).run Tryz.prog A= .ok (.string s3) A:=λk h1=>LG q3 λj hj=>by
  rw [Ba,keep h1 _ VO,k3 j hj]
 have cv5: ∀{A:World} (k:Nat),Below w.heap.size w A->(convert 23 9 (.slice (some ⟨b,o+5,none⟩) 5 k)).run Tryz.prog A= .ok (.string s5) A:=λk h1=>LG q5 λj hj=>by
  rw [Ba,keep h1 _ VO,k5 j hj]
 have i1:(0:Int)<=(n:Int):=VO;have i2:(4:Int)<=(n:Int):=VO;have i3:(10:Int)<=(n:Int):=VO;have i5:(n:Int)<=(cap:Int):=VO;have i6:(4:Int)<=(cap:Int):=VO;have i7:(10:Int)<=(cap:Int):=VO;have hB1:Below w.heap.size w (w.alloc (Obj.cells #[.int .i64 0,.int .i64 0] 117)):=(Below.refl _ _).alloc (Am _) _;have e1:=cv3 (cap-1) hB1;have z3:s3.size<=100000:=VO;have z5:s5.size<=100000:=VO
 go_enter Tryz.func46,Tryz.ntmps46
 go_wp2_with (go_at_call 70;refine (nO z3 (RO hgl hB1)).mono ?_;rintro en A ⟨⟨k,x1,rfl,hk1⟩,hw1⟩)
 have hB2:Below w.heap.size w A:=hB1.trans (hw1.mono hB1.size);have m7:w.heap.size<(w.alloc (Obj.cells #[.int .i64 0,.int .i64 0] 117)).heap.size:=VY;have z8:w.heap.size<A.heap.size:=PJ m7 hw1.size;have hH1:A.heap[w.heap.size]? =some (Obj.cells #[.int .i64 0,.int .i64 0] 117):=(hw1.block _ m7).trans (heap_alloc_new w _);rw [cv5 (cap-5) hB2]
 go_wp2_with (go_at_call 70;refine (nO z5 (RO hgl hB2)).mono ?_;rintro en w2 ⟨⟨k2,x2,rfl,hk2⟩,hw2⟩;have hH2:w2.heap[w.heap.size]? =some (Obj.cells #[.int .i64 0,.int .i64 0] 117):=(hw2.block _ z8).trans hH1;have hc0:w2.cell? ⟨w.heap.size,0,none⟩=some (.int .i64 0):=(by simp only [World.cell?,hH2];rfl);have hc1:w2.cell? ⟨w.heap.size,1,none⟩=some (.int .i64 0):=(by simp only [World.cell?,hH2];rfl);have hf0:w2.frozen? ⟨w.heap.size,0,none⟩=false:=(by simp only [World.frozen?,hH2];rfl);have hf1:w2.frozen? ⟨w.heap.size,1,none⟩=false:=(by simp only [World.frozen?,hH2];rfl);rcases hk1 with ⟨a1,rfl⟩|⟨_,te,pe,rfl⟩;rcases hk2 with ⟨a2,rfl⟩|⟨_,te,pe,rfl⟩)
 all_goals obtain ⟨hH5,hB5⟩:=uC (l:=0) (c:=0) (Am _) hH2 (hB2.trans (hw2.mono hB2.size));all_goals have c70:((w2.setCell ⟨w.heap.size,0,none⟩ (.int .i64 0)).setCell ⟨w.heap.size,1,none⟩ (.int .i64 0)).cell? ⟨w.heap.size,0,none⟩=some (.int .i64 0):=by simp only [World.cell?,hH5];rfl
 all_goals have c71:((w2.setCell ⟨w.heap.size,0,none⟩ (.int .i64 0)).setCell ⟨w.heap.size,1,none⟩ (.int .i64 0)).cell? ⟨w.heap.size,1,none⟩=some (.int .i64 0):=by simp only [World.cell?,hH5];rfl
 rotate_left
 all_goals try go_wp2
 all_goals
  refine bodyPost_ret (v:= .tuple #[.agg #[.int .i64 0,.int .i64 0],.bool false]) ?_ rfl ⟨rfl,hB5⟩;simp [results,Tryz.results46,c70,c71,go_sem]
theorem Wk8: ∀(l:List UInt8) (acc u:Nat),Lib.parseUint10 acc l= .ok u->u<(acc+1)*10^l.length
 |[],acc,u,h=>by
  cases h;show acc<(acc+1)*1;omega
 |c::r,acc,u,h=>by
  simp only [Lib.parseUint10] at h;split at h;split at h;cases h;split at h;cases h;have h1:=Wk8 r _ u h;have h2:(acc*10+(c.toNat-48)+1)*10^r.length<=(acc+1)*10*10^r.length:=BS _ VO;show u<(acc+1)*10^(r.length+1);rw [Nat.pow_succ,Bp (10^r.length) 10,←Nat.mul_assoc];omega;cases h
theorem Wn3{l:List UInt8}{u:Nat}(h:Lib.parseMag l= .ok u):u<10^l.length:=by
 unfold Lib.parseMag at h;split at h;cases h;have:=Wk8 l 0 u h;omega
theorem Xv7{l:List UInt8}{v:Int}(h:Lib.atoiAll l= .ok v):v<((10^l.length:Nat):Int):=by
 unfold Lib.atoiAll at h;split at h;cases h;rename_i c r;have hp:10^r.length<=10^(c::r).length:=Nat.pow_le_pow_right VO VY
 dsimp only at h
 split at h;cases h;cases h
 ·rename_i u hu;have hu2:u<10^(c::r).length:=by
   split at hu;exact PJ (Wn3 hu) hp;exact Wn3 hu
  generalize 10^(c::r).length=T at*
  repeat' split at h
  all_goals first|(cases h;omega)|cases h
section
variable (f:Ci)
def Zu1:Prop:=(0<=rdL f/\rdL f<=200)/\(0<=rdC f/\rdC f<=99999)/\ ∀j,j<11->f j=HG (tpB (rdL f) (rdC f)) j
def OB:Prop:=Lib.atoiAll (bsO 3 (λi=>f (1+i))).data.toList= .ok (rdL f)/\Lib.atoiAll (bsO 5 (λi=>f (5+i))).data.toList= .ok (rdC f)/\(0<=rdL f/\rdL f<=200)/\0<=rdC f
noncomputable def rxB:Bool:= @decide (Zu1 f) (Classical.propDecidable _)
noncomputable def rxL:Int:= @ite _ (OB f) (Classical.propDecidable _) (rdL f) 0
noncomputable def rxC:Int:= @ite _ (OB f) (Classical.propDecidable _) (rdC f) 0
end
section
variable {f:Ci}
theorem Za8{l c:Int}(hl:0<=l/\l<=200)(hc:0<=c/\c<=99999)(h: ∀j,j<11->f j=HG (tpB l c) j):Zu1 f/\OB f/\rdL f=l/\rdC f=c:=by
 obtain ⟨h1,h2⟩:=Jm5 h;have e1:rdL f=l:=by
  unfold rdL;rw [h1,IJ VO]
 have e2:rdC f=c:=by
  unfold rdC;rw [h2,Wm3 VO]
 refine ⟨?_,?_,e1,e2⟩;unfold Zu1;rw [e1,e2];exact ⟨hl,hc,h⟩;unfold OB;rw [e1,e2,h1,h2];exact ⟨N4 VO,N3 hc,hl,hc.1⟩
theorem pM{l c:Int}(hl:0<=l/\l<=200)(hc:0<=c/\c<=99999)(h: ∀j,j<11->f j=HG (tpB l c) j):rxB f=true/\rxL f=l/\rxC f=c:=by
 obtain ⟨h1,h2,h3,h4⟩:=Za8 hl hc h;unfold rxB rxL rxC;exact ⟨@decide_eq_true _ (Classical.propDecidable _) h1,(if_pos h2).trans h3,(if_pos h2).trans h4⟩
theorem Wh5(h:rxB f=true):(0<=rxL f/\rxL f<=200)/\(0<=rxC f/\rxC f<=99999)/\ ∀j,j<11->f j=HG (tpB (rxL f) (rxC f)) j:=by
 unfold rxB at h;obtain ⟨h1,h2,h3⟩:= @of_decide_eq_true _ (Classical.propDecidable _) h;obtain ⟨_,h5,h6⟩:=pM h1 h2 h3;rw [h5,h6];exact ⟨h1,h2,h3⟩
theorem Jm3(h:OB f):rdC f<=99999:=by
 have h1:=Xv7 h.2.1;rw [show (bsO 5 (λi=>f (5+i))).data.toList.length=5 from rfl] at h1;omega
end
theorem Zn7(f:Ci):0<=rxL f/\rxL f<=200:=by
 unfold rxL;split;rename_i h;exact h.2.2.1;omega
theorem jQ{n:Nat}{f:Ci}(h:R9 n f){j:Nat}(hj:j<n):f j=HG (bsO n f) j:=by
 obtain ⟨h1,h2⟩:=h j hj;rw [h2];unfold HG HE bsO;simp [L0,List.getElem?_range hj];omega
theorem Qv6(n:Nat)(f:Ci)(h11:11<=n)(hT:R9 11 f):U2 VU 46 [.lst 1 n f] (.tup [.agg [.x (.int .i64 (rxL f)),.x (.int .i64 (rxC f))],.x (.bool (rxB f))]):=by
 intro e w args hro hgl _ hr;obtain ⟨v,vs,rfl,r1,r2⟩:=hr.cons_inv;cases r2.nil_inv;have q3:R9 3 (λi=>f (1+i)):=λj hj=>hT (1+j) VO;have q5:R9 5 (λi=>f (5+i)):=λj hj=>hT (5+j) VO;have z3:(bsO 3 (λi=>f (1+i))).size=3:=rfl;have z5:(bsO 5 (λi=>f (5+i))).size=5:=rfl;have z11:(bsO 11 f).size=11:=rfl;have k3: ∀j,j<3->HE (bsO 3 (λi=>f (1+i))) j=HE (bsO 11 f) (1+j):=λj hj=>by
  have h1:=jQ q3 hj;have h2:=jQ hT (show 1+j<11 by omega)
  have h3:=h1.symm.trans h2;simpa [HG] using h3
 have k5: ∀j,j<5->HE (bsO 5 (λi=>f (5+i))) j=HE (bsO 11 f) (5+j):=λj hj=>by
  have h1:=jQ q5 hj;have h2:=jQ hT (show 5+j<11 by omega)
  have h3:=h1.symm.trans h2;simpa [HG] using h3
 cases r1 with
 |lstNil=>omega
 |lst _ _ _ b o cap g h2 h3 h4 h5 h6 h7 h8 h9 ad had=>
  obtain rfl:=had VO;have F3: ∀j,j<11->w.cell? ⟨b,o+j,none⟩=some (.int .u8 (HE (bsO 11 f) j)):=λj hj=>by
   have h10:=h7 j 0 VO VO;have h11:=h9 j 0 (.x (.int .u8 (HE (bsO 11 f) j))) VO (by rw [jQ hT hj];rfl)
   rw [h11.x_inv] at h10;rw [←h10]
   congr 2
   omega
  by_cases hR:OB f;have hle:=Jm3 hR;have eL:rxL f=rdL f:=if_pos hR;have eC:rxC f=rdC f:=if_pos hR;rw [eL,eC];by_cases hX:tpB (rdL f) (rdC f)=bsO 11 f;have hz:rxB f=true:=(pM hR.2.2.1 ⟨hR.2.2.2,hle⟩ λj hj=>by rw [hX];exact jQ hT hj).1
  rw [hz];refine (Wi9 h11 h5 hR.2.2.1 ⟨hR.2.2.2,hle⟩ hro hgl (h3 VO) (by rw [hX];exact F3)).mono ?_
  rintro en w' ⟨rfl,hB⟩;exact ⟨_,rfl,hB,Rep.tupL (.cons (.agg _ [.int .i64 (rdL f),.int .i64 (rdC f)] rfl (U8.cons (.x _) (.cons (.x _) (.nil _ _))).2) (.cons (.x _) (.nil _ _)))⟩;have hz:rxB f=false:=by
   cases h:rxB f;rfl;obtain ⟨_,_,h13⟩:=Wh5 h;rw [eL,eC] at h13;exact absurd (xH (BK _ _) h13).symm hX
  rw [hz];refine (Wj0 h11 h5 hR.2.2.1 ⟨hR.2.2.2,hle⟩ hro hgl (h3 VO) z3 z5 z11 k3 k5 hR.1 hR.2.1 hX F3).mono ?_;rintro en w' ⟨rfl,hB⟩;exact ⟨_,rfl,hB,Rep.tupL (.cons (.agg _ [.int .i64 (rdL f),.int .i64 (rdC f)] rfl (U8.cons (.x _) (.cons (.x _) (.nil _ _))).2) (.cons (.x _) (.nil _ _)))⟩;have eL:rxL f=0:=if_neg hR;have eC:rxC f=0:=if_neg hR;have hz:rxB f=false:=by
   cases h:rxB f;rfl;obtain ⟨h1,h2,h13⟩:=Wh5 h;exact absurd (Za8 h1 h2 h13).2.1 hR
  rw [eL,eC,hz];refine (Qr3 h11 h5 hro hgl (h3 VO) z3 z5 k3 k5 (λl c a3 a5 g1 g2=>?_) F3).mono ?_;refine Int.not_le.1 λg3=>hR ?_;have d1:rdL f=l:=C3 a3;have d2:rdC f=c:=C3 a5;unfold OB;rw [d1,d2];exact ⟨a3,a5,⟨g1,g2⟩,g3⟩;rintro en w' ⟨rfl,hB⟩;exact ⟨_,rfl,hB,Rep.tupL (.cons (.agg _ [.int .i64 0,.int .i64 0] rfl (U8.cons (.x _) (.cons (.x _) (.nil _ _))).2) (.cons (.x _) (.nil _ _)))⟩
noncomputable def yJ:G4
 |[.lst 1 n f]=>some ([11<=n,R9 11 f],.tup [.agg [.x (.int .i64 (rxL f)),.x (.int .i64 (rxC f))],.x (.bool (rxB f))])
 |_=>none
theorem SP:VT VU 46 yJ:=by
 refine ⟨(UM Tryz.func46),?_⟩;intro avs ns res h Z;unfold yJ at h;split at h;cases h;exact Qv6 _ _ (Z _ VY) (Z _ VY);cases h
open Go Go.Sx Go.RowKit
open Go.Sx.VR (need branch leaf)
open Go.Sx.AV (lst ptr agg roI tup top)
section
variable (N:Nat)(B:ByteArray)(m:Nat)(L:Cf)
def rcE:Prop:= ∃s:ByteArray,s.size<=200/\GE L m+12+s.size<=N/\ ∀j,j<12+s.size->HE B (GE L m+j)=HE (rcB s m) j
def rcP:Prop:=(∀k,k<m->(L k).size<=200)/\GE L m<=N/\N<=4000/\(∀j,j<GE L m->HE B j=HE (flB L m) j)
def rcI:Prop:=rcP N B m L/\ ¬rcE N B m L
end
theorem rE(L:Cf): ∀m,12*m<=GE L m
 | 0=>Ao _
 |m+1=>by
  have:=rE L m;rw [y8];omega
theorem Wz2{F G:Cf}: ∀{n:Nat},(∀k,k<n->F k=G k)->flB F n=flB G n
 | 0,_=>rfl
 |n+1,h=>by
  show flB F n++rcB (F n) n=flB G n++rcB (G n) n;rw [Wz2 (n:=n) (λk hk=>h k VO),h n (Bk n)]
theorem Zr5(N:Nat)(B:ByteArray): ∀(d m:Nat) (L:Cf),N<=GE L m+d->rcP N B m L-> ∃m L,rcI N B m L:=by
 intro d
 induction d with
 |zero=>
  intro m L hd h;refine ⟨m,L,h,?_⟩;rintro ⟨s,_,h2,_⟩;omega
 |succ d ih=>
  intro m L hd h;rcases Classical.em (rcE N B m L) with hE|hE;obtain ⟨s,h1,h2,h3⟩:=hE;have hL: ∀k,k<m->(λk=>if k=m then s else L k) k=L k:=λk hk=>if_neg VO
  have hm:(λk=>if k=m then s else L k) m=s:=if_pos rfl
  generalize (λk=>if k=m then s else L k)=L' at hL hm
  have e1:flB L' m=flB L m:=Wz2 hL;have e0:GE L' m=GE L m:=congrArg ByteArray.size e1;have e2:GE L' (m+1)=GE L m+12+s.size:=by rw [y8,e0,hm]
  refine ih (m+1) L' VO ⟨λk hk=>?_,VO,h.2.2.1,λj hj=>?_⟩;rcases An k m with h4|h4;rw [hL k h4];exact h.1 k h4;obtain rfl:k=m:=VO;rw [hm];exact h1;rcases An j (GE L m) with h4|h4;rw [h.2.2.2 j h4,Wz1 L' (Nat.le_succ m) VO,e1];obtain ⟨i,rfl⟩: ∃i,j=GE L m+i:=⟨j-GE L m,VO⟩;rw [h3 i VO,←e0,Wz0 L' (Bk m) (by rw [hm];omega),hm]
  exact ⟨m,L,h,hE⟩
theorem rc_ex{N:Nat}(hN:N<=4000)(B:ByteArray): ∃m L,rcI N B m L:=Zr5 N B N 0 (λ_=>ByteArray.empty) VO ⟨λk hk=>absurd hk (Aq k),Ao _,hN,λj hj=>absurd hj (Aq j)⟩
theorem aL{N m k:Nat}{B:ByteArray}{L:Cf}(h:rcP N B m L)(hk:k<m):
  (L k).size<=200/\GE L (k+1)=GE L k+12+(L k).size/\GE L (k+1)<=N/\(0<=tpK (L k) k/\tpK (L k) k<=99970)/\(∀j,j<12+(L k).size->HE B (GE L k+j)=HE (rcB (L k) k) j)/\k<=400:=by
 obtain ⟨h2,h3,h4,h5⟩:=h;have h6:=y8 L k;have h7:=y9 L (show k+1<=m from hk);have h8:=h2 k hk;have h9:=rE L k;exact ⟨h8,h6,VO,Qe6 _ _ VO VO,λj hj=>by rw [h5 _ VO,Wz0 L hk VO],VO⟩
section
variable {B s:ByteArray}{a:Nat}{ix:Int}
theorem EA(h: ∀j,j<12+s.size->HE B (a+j)=HE (rcB s ix) j):
  (∀j,j<11->HE B (a+j)=HE (tpB (s.size:Int) (tpK s ix)) j)/\(∀j,j<s.size->HE B (a+11+j)=HE s j)/\HE B (a+11+s.size)=10:=
 ⟨λj hj=>by rw [h j VO,Wj7 _ _ hj],λj hj=>by rw [Ba,h _ VO,Wj6 _ _ hj],by rw [Ba,h _ VO,Zc0]⟩
theorem Wj5(h1: ∀j,j<11->HE B (a+j)=HE (tpB (s.size:Int) (tpK s ix)) j)(h2: ∀j,j<s.size->HE B (a+11+j)=HE s j)(h3:HE B (a+11+s.size)=10):
  ∀j,j<12+s.size->HE B (a+j)=HE (rcB s ix) j:=by
 intro j hj;rcases An j 11 with h4|h4;rw [h1 j h4,Wj7 _ _ h4];obtain ⟨i,rfl⟩: ∃i,j=11+i:=⟨j-11,VO⟩;rw [←Ba];rcases An i s.size with h5|h5;rw [h2 i h5,Wj6 _ _ h5];obtain rfl:i=s.size:=VO;rw [h3,Zc0]
end
theorem Zr6{N m z:Nat}{B:ByteArray}{L:Cf}(h:rcI N B m L)(hb:rxB (λi=>HG B (GE L m+i))=true)(hz:rxL (λi=>HG B (GE L m+i))=z)(h1:GE L m+12+z<=N)(h2:HE B (GE L m+11+z)=10)(h3:rxC (λi=>HG B (GE L m+i))=tpK (bsO z (λi=>HG B (GE L m+11+i))) m):False:=by
 obtain ⟨g1,g2,g3⟩:=Wh5 hb;rw [hz] at g1 g3;have hs:(bsO z (λi=>HG B (GE L m+11+i))).size=z:=by
  show (List.toArray _).size=z;simp
 have hx: ∀j,j<z->HE B (GE L m+11+j)=HE (bsO z (λi=>HG B (GE L m+11+i))) j:=λj hj=>by
  have:=jQ (dV (s:=B) (o:=GE L m+11) (n:=z) (f:=λi=>HG B (GE L m+11+i)) λj _=>rfl) hj;simpa [HG] using this
 rw [h3] at g3;generalize bsO z (λi=>HG B (GE L m+11+i))=s at hs hx g3
 subst hs;refine h.2 ⟨s,VO,VO,Wj5 (λj hj=>?_) hx h2⟩;have:=g3 j hj;simpa [HG] using this
open Go Go.Sx Go.RowKit Bo
def rcV(L:Cf)(q:Nat):List Value:=[.string (L q),.int .i64 (GE L (q+1):Nat)]
abbrev QI(N:Nat)(B:ByteArray):AV:=lst 1 N λj=>[AV.x (.int IntKind.u8 (HE B j))]
section
variable (l:Nat)(N:Nat)(B:ByteArray)
def NR(m:Nat)(L:Cf):St:={σ:=[AV.fn (Fn.yield l) [] [],AV.ro [QI N B]]++HR 63 [],m:=[],nx:=2,gh:=some 0}
noncomputable def eE:Code:=UD (VX (UB Tryz.f45) 0)
def B9(m:Nat)(L:Cf)(k:Nat):St:={σ:=H4 [(3,i (GE L k:Nat)),(4,i (k:Nat)),(5,.top),(6,.top),(7,.top),(8,.top)] (NR l N B m L).σ,m:=[],nx:=0,gh:=some (k) }
def wO(m:Nat)(L:Cf)(k:Nat):G8->Option St
 | .ret=>some {σ:=H4 [(3,.top),(4,.top),(5,.top),(6,.top),(7,.top),(8,.top)] (NR l N B m L).σ,m:=[],nx:=0,gh:=none}
 |_=>none
def qF(m:Nat)(L:Cf)(k:Nat):G8->Option St
 | .exit 0=>some {σ:=H4 [(3,i (GE L m:Nat)),(4,i (m:Nat)),(5,.top),(6,.top),(7,.top),(8,.top)] (NR l N B m L).σ,m:=[],nx:=0,gh:=some m}
 | .ret=>some {σ:=H4 [(3,.top),(4,.top),(5,.top),(6,.top),(7,.top),(8,.top)] (NR l N B m L).σ,m:=[],nx:=0,gh:=some m}
 |_=>none
def xE(m:Nat)(L:Cf)(x:Nat×Bool):G8->Option St:=match x.2 with
 |true=>wO l N B m L x.1
 |false=>qF l N B m L x.1
def Wa3(m:Nat)(L:Cf):CT:= .may True (.leaf (.exit 0,(qF l N B m L 0 (.exit 0)).getD (NR l N B m L))) (.may True (.leaf (.ret,(wO l N B m L 0 .ret).getD (NR l N B m L))) (.leaf (.ret,(qF l N B m L 0 .ret).getD (NR l N B m L))))
def oP(m:Nat)(L:Cf):UN:=GO [] (HI (B9 l N B m L (0)) (Wa3 l N B m L))
end
abbrev ZQ(N:Nat)(B:ByteArray):Prop:=AV.ro [QI N B]=AV.ro [QI N B]
noncomputable abbrev YP:List (Nat×G4):=[(46,yJ),(43,zO)]
theorem Jm8(l:Nat)(N:Nat)(B:ByteArray)(m:Nat)(L:Cf)(VW:rcI N B m L){cx:Cx}(hX:U0 VU {Y:=some (l,m,(rcV L)) } cx):HQ VU none cx (.loop eE) (oP l N B m L):=by
 refine F7 [] (L:=[]) (Ae SP (Ae jH Aa)) hX U3 G9 (V:=Nat×Bool) (λx=>B9 l N B m L x.1) (λx=>(λk=>k<=m) x.1/\x.2=decide (x.1<m)) (λx=>(λk=>m-k) x.1) (xE l N B m L) (x0:=(0,decide ((0)<m))) ⟨VY,rfl⟩ ?_ ?_ ?_;rintro x;kernel_rfl;rintro ⟨k,b⟩ y E h;cases b
 change qF l N B m L k y=some E at h
 unfold qF at h;split at h;cases h;kernel_rfl;cases h;kernel_rfl;cases h
 change wO l N B m L k y=some E at h
 unfold wO at h;split at h;cases h;kernel_rfl;cases h;rintro Q hQ ⟨k,b⟩ ⟨hx,hb⟩
 dsimp only at hx hb
 refine ⟨((k+1),decide ((k+1)<m)),?_⟩;cases b
 ·have hc: ¬(k<m):=Jv7.1 hb.symm;have e:HW VU YP {Y:=some (l,m,(rcV L)) } [] [] eE (B9 l N B m L k) (B9 l N B m L ((k+1))) (qF l N B m L k)=(let W:=(bsO ((((GE L k:Int)+11+rxL λi=>[AV.x (.int IntKind.u8 (HE B (GE L k+i)))])+1-1).toNat-((GE L k:Int)+11).toNat) λi=>[AV.x (.int IntKind.u8 (HE B (((GE L k:Int)+11).toNat+i)))]);let S:=(need [W6 l,ZQ N B,k=m] (leaf G8.ret));(need [VQ ((N:Int)-(GE L k:Int))] (branch (decide ((N:Int)-(GE L k:Int)>11)) (need [(0:Int)<=(GE L k:Int)/\(GE L k:Int)<=(N:Int)/\(N:Int)<=(N:Int)] (need [11<=N-GE L k,R9 11 λi=>[AV.x (.int IntKind.u8 (HE B (GE L k+i)))]] (need [VQ ((GE L k:Int)+11)] (need [VQ ((GE L k:Int)+11+rxL λi=>[AV.x (.int IntKind.u8 (HE B (GE L k+i)))])] (need [VQ (((GE L k:Int)+11+rxL λi=>[AV.x (.int IntKind.u8 (HE B (GE L k+i)))])+1)] (branch (!rxB λi=>[AV.x (.int IntKind.u8 (HE B (GE L k+i)))]) S (branch (decide (((GE L k:Int)+11+rxL λi=>[AV.x (.int IntKind.u8 (HE B (GE L k+i)))])+1>(N:Int))) S (need [VQ (((GE L k:Int)+11+rxL λi=>[AV.x (.int IntKind.u8 (HE B (GE L k+i)))])+1-1)] (need [UO (((GE L k:Int)+11+rxL λi=>[AV.x (.int IntKind.u8 (HE B (GE L k+i)))])+1-1) N] (branch (HE B (((GE L k:Int)+11+rxL λi=>[AV.x (.int IntKind.u8 (HE B (GE L k+i)))])+1-1).toNat != 10) S (need [VQ ((GE L k:Int)+11)] (need [VQ (((GE L k:Int)+11+rxL λi=>[AV.x (.int IntKind.u8 (HE B (GE L k+i)))])+1-1)] (need [(0:Int)<=(GE L k:Int)+11/\(GE L k:Int)+11<=((GE L k:Int)+11+rxL λi=>[AV.x (.int IntKind.u8 (HE B (GE L k+i)))])+1-1/\((GE L k:Int)+11+rxL λi=>[AV.x (.int IntKind.u8 (HE B (GE L k+i)))])+1-1<=(N:Int)] (need [R9 ((((GE L k:Int)+11+rxL λi=>[AV.x (.int IntKind.u8 (HE B (GE L k+i)))])+1-1).toNat-((GE L k:Int)+11).toNat) λi=>[AV.x (.int IntKind.u8 (HE B (((GE L k:Int)+11).toNat+i)))]] (need [ByteArray.size W<=1000,(0:Int)<=(k:Int)/\(k:Int)<=100000] (branch (!((rxL λi=>[AV.x (.int IntKind.u8 (HE B (GE L k+i)))])==(ByteArray.size W:Int)&&((rxC λi=>[AV.x (.int IntKind.u8 (HE B (GE L k+i)))])==tpK W (k:Int)&&true))) S (need [l=l,k<m,[Value.string W,Value.int IntKind.i64 (((GE L k:Int)+11+rxL λi=>[AV.x (.int IntKind.u8 (HE B (GE L k+i)))])+1)]=[Value.string (L k),Value.int IntKind.i64 (↑(GE L (k+1)):Int)]] (VR.may True (need [VQ ((k:Int)+1)] (need [W6 l,ZQ N B,((GE L k:Int)+11+rxL λi=>[AV.x (.int IntKind.u8 (HE B (GE L k+i)))])+1=(↑(GE L (k+1)):Int),(k:Int)+1=(↑(k+1):Int),k+1=k+1] (leaf G8.normal))) (need [W6 l,ZQ N B,False] (leaf G8.ret)))))))))))))))))))) (need [W6 l,ZQ N B,(GE L k:Int)=(GE L m:Int),(k:Int)=(m:Int),k=m] (leaf (G8.exit 0)))))):=VZ;show (HW VU [(46,yJ),(43,zO)] {Y:=some (l,m,(rcV L)) } [] [] eE (B9 l N B m L k) (B9 l N B m L ((k+1))) (qF l N B m L k)).sat _;rw [e]
  dsimp only
  simp only [Wa3,wO,qF,VR.sat,GW] at hQ;obtain rfl:k=m:=VO;have hQ1: ∀E,xE l N B k L (k,false) (.exit 0)=some E->Q (.exit 0,E):=λE hE=>by cases hE;exact hQ.1 trivial
  have hQ2: ∀E,xE l N B k L (k,false) .ret=some E->Q (.ret,E):=λE hE=>by cases hE;exact hQ.2.2
  clear hQ e;have h100:=VW.1.2.2.1;have hle:=VW.1.2.1;have hge:=rE L k;have hno:=λz=>Zr6 (z:=z) VW;have hra:=Zn7 (λi=>HG B (GE L k+i));have b0:R9 11 (λi=>HG B (GE L k+i)):=dV (s:=B) (o:=GE L k) λj hj=>rfl;have hrw:(λi=>[AV.x (.int .u8 (HE B (GE L k+i)))])=λi=>HG B (GE L k+i):=rfl;simp only [hrw];generalize rxC (λi=>HG B (GE L k+i))=c at hno
  generalize rxL (λi=>HG B (GE L k+i))=a at hno hra
  generalize rxB (λi=>HG B (GE L k+i))=y at hno
  obtain ⟨z,rfl⟩: ∃z:Nat,a=z:=⟨a.toNat,VO⟩;have hno:=hno z;have t1:(((GE L k:Nat):Int)+11+(z:Int)+1-1).toNat=GE L k+11+z:=VO;have t2:(((GE L k:Nat):Int)+11).toNat=GE L k+11:=VO;have t3:GE L k+11+z-(GE L k+11)=z:=VO;have b1:R9 z (λi=>[AV.x (.int .u8 (HE B (GE L k+11+i)))]):=dV (s:=B) (o:=GE L k+11) λj hj=>rfl;have b2:(bsO z (λi=>[AV.x (.int .u8 (HE B (GE L k+11+i)))])).size=z:=by
   show (List.toArray _).size=z;simp
  have hno:y=true->GE L k+12+z<=N->HE B (GE L k+11+z)=10->c≠tpK (bsO z (λi=>[AV.x (.int .u8 (HE B (GE L k+11+i)))])) k:=λh1 h2 h3 h4=>hno h1 rfl h2 h3 h4;simp only [VR.sat,UF,t1,t2,t3,b2,UK,H6,VQ,DR];generalize tpK (bsO z (λi=>[AV.x (.int .u8 (HE B (GE L k+11+i)))])) k=tz at hno ⊢
  generalize hnl:HE B (GE L k+11+z)=nl at hno ⊢;have hno2:(!y)=false-> ¬((GE L k:Nat):Int)+11+(z:Int)+1>(N:Int)->(nl != 10)=false->(!((z:Int)==(z:Int)&&(c==tz&&true)))=false->False:=λh1 h2 h3 h4=>hno (by simpa using h1) VO (by simpa using h3) (by simpa using h4)
  (with_reducible repeat' first|apply Al|intro _)
  all_goals first|exact Ak|exact b0|exact b1|contradiction|exact hQ1 _ (by assumption)|exact hQ2 _ (by assumption)|omega|exact (hno2 (by assumption) (by assumption) (by assumption) (by assumption)).elim|rfl|(exfalso;omega)|trace_state
 ·have hc:(k<m):=wC hb.symm;have e:HW VU YP {Y:=some (l,m,(rcV L)) } [] [] eE (B9 l N B m L k) (B9 l N B m L ((k+1))) (wO l N B m L k)=(let W:=(bsO ((((GE L k:Int)+11+rxL λi=>[AV.x (.int IntKind.u8 (HE B (GE L k+i)))])+1-1).toNat-((GE L k:Int)+11).toNat) λi=>[AV.x (.int IntKind.u8 (HE B (((GE L k:Int)+11).toNat+i)))]);let S:=(need [W6 l,ZQ N B,False] (leaf G8.ret));(need [VQ ((N:Int)-(GE L k:Int))] (branch (decide ((N:Int)-(GE L k:Int)>11)) (need [(0:Int)<=(GE L k:Int)/\(GE L k:Int)<=(N:Int)/\(N:Int)<=(N:Int)] (need [11<=N-GE L k,R9 11 λi=>[AV.x (.int IntKind.u8 (HE B (GE L k+i)))]] (need [VQ ((GE L k:Int)+11)] (need [VQ ((GE L k:Int)+11+rxL λi=>[AV.x (.int IntKind.u8 (HE B (GE L k+i)))])] (need [VQ (((GE L k:Int)+11+rxL λi=>[AV.x (.int IntKind.u8 (HE B (GE L k+i)))])+1)] (branch (!rxB λi=>[AV.x (.int IntKind.u8 (HE B (GE L k+i)))]) S (branch (decide (((GE L k:Int)+11+rxL λi=>[AV.x (.int IntKind.u8 (HE B (GE L k+i)))])+1>(N:Int))) S (need [VQ (((GE L k:Int)+11+rxL λi=>[AV.x (.int IntKind.u8 (HE B (GE L k+i)))])+1-1)] (need [UO (((GE L k:Int)+11+rxL λi=>[AV.x (.int IntKind.u8 (HE B (GE L k+i)))])+1-1) N] (branch (HE B (((GE L k:Int)+11+rxL λi=>[AV.x (.int IntKind.u8 (HE B (GE L k+i)))])+1-1).toNat != 10) S (need [VQ ((GE L k:Int)+11)] (need [VQ (((GE L k:Int)+11+rxL λi=>[AV.x (.int IntKind.u8 (HE B (GE L k+i)))])+1-1)] (need [(0:Int)<=(GE L k:Int)+11/\(GE L k:Int)+11<=((GE L k:Int)+11+rxL λi=>[AV.x (.int IntKind.u8 (HE B (GE L k+i)))])+1-1/\((GE L k:Int)+11+rxL λi=>[AV.x (.int IntKind.u8 (HE B (GE L k+i)))])+1-1<=(N:Int)] (need [R9 ((((GE L k:Int)+11+rxL λi=>[AV.x (.int IntKind.u8 (HE B (GE L k+i)))])+1-1).toNat-((GE L k:Int)+11).toNat) λi=>[AV.x (.int IntKind.u8 (HE B (((GE L k:Int)+11).toNat+i)))]] (need [ByteArray.size W<=1000,(0:Int)<=(k:Int)/\(k:Int)<=100000] (branch (!((rxL λi=>[AV.x (.int IntKind.u8 (HE B (GE L k+i)))])==(ByteArray.size W:Int)&&((rxC λi=>[AV.x (.int IntKind.u8 (HE B (GE L k+i)))])==tpK W (k:Int)&&true))) S (need [l=l,k<m,[Value.string W,Value.int IntKind.i64 (((GE L k:Int)+11+rxL λi=>[AV.x (.int IntKind.u8 (HE B (GE L k+i)))])+1)]=[Value.string (L k),Value.int IntKind.i64 (↑(GE L (k+1)):Int)]] (VR.may True (need [VQ ((k:Int)+1)] (need [W6 l,ZQ N B,((GE L k:Int)+11+rxL λi=>[AV.x (.int IntKind.u8 (HE B (GE L k+i)))])+1=(↑(GE L (k+1)):Int),(k:Int)+1=(↑(k+1):Int),k+1=k+1] (leaf G8.normal))) (need [W6 l,ZQ N B] (leaf G8.ret)))))))))))))))))))) VR.fail))):=VZ;show (HW VU [(46,yJ),(43,zO)] {Y:=some (l,m,(rcV L)) } [] [] eE (B9 l N B m L k) (B9 l N B m L ((k+1))) (wO l N B m L k)).sat _;rw [e]
  dsimp only
  simp only [Wa3,wO,qF,VR.sat,GW] at hQ;have hQ2: ∀E,xE l N B m L (k,true) .ret=some E->Q (.ret,E):=λE hE=>by cases hE;exact hQ.2.1 trivial
  clear hQ e;have h100:=VW.1.2.2.1;obtain ⟨g1,g2,g3,g4,g0,h50⟩:=aL VW.1 hc;obtain ⟨g5,g6,g7⟩:=EA g0;obtain ⟨r1,r2,r3⟩:=pM (f:=λi=>[AV.x (.int .u8 (HE B (GE L k+i)))]) (l:=((L k).size:Int)) (c:=tpK (L k) k) VO VO (λj hj=>by show [AV.x (.int .u8 (HE B (GE L k+j)))]=_;rw [g5 j hj];rfl)
  have t1:(((GE L k:Nat):Int)+11+((L k).size:Int)+1-1).toNat=GE L k+11+(L k).size:=VO;have t2:(((GE L k:Nat):Int)+11).toNat=GE L k+11:=VO;have t3:GE L k+11+(L k).size-(GE L k+11)=(L k).size:=VO;have s1:bsO (L k).size (λi=>[AV.x (.int .u8 (HE B (GE L k+11+i)))])=L k:=xH rfl λj hj=>by show [AV.x (.int .u8 (HE B (GE L k+11+j)))]=_;rw [g6 j hj];rfl
  have b1:R9 (L k).size (λi=>[AV.x (.int .u8 (HE B (GE L k+11+i)))]):=dV (s:=B) (o:=GE L k+11) λj hj=>rfl;have b0:R9 11 (λi=>[AV.x (.int .u8 (HE B (GE L k+i)))]):=dV (s:=B) (o:=GE L k) λj hj=>rfl;have v1:((GE L k:Nat):Int)+11+((L k).size:Int)+1=((GE L (k+1):Nat):Int):=VO;have v2:[Value.string (L k),Value.int .i64 ((GE L (k+1):Nat):Int)]=rcV L k:=rfl;simp only [VR.sat,UF,r1,r2,r3,t1,t2,t3,s1,g7,UK,H6,VQ,DR]
  (with_reducible repeat' first|apply Al|intro _)
  all_goals first|exact Ak|exact b0|exact b1|exact congrArg (λz=>[Value.string (L k),Value.int .i64 z]) v1|contradiction|exact hQ2 _ (by assumption)|omega|rfl|(exfalso;rename_i h9;simp at h9;done)|(exfalso;omega)|trace_state
theorem tJ(N:Nat)(B:ByteArray)(m:Nat)(L:Cf)(VW:rcI N B m L):PZ Tryz.prog 45 [.ro [.lst 1 N (HG B)]] m (rcV L):=by
 refine PM (L:=λl=>[oP l N B m L]) (Ae SP (Ae jH Aa)) U3 (UM Tryz.func45) Tryz.func45 (UW Tryz.f45) VZ (λl cx hX=>G0 (lpE (b:= .loop eE) VZ<|Jm8 l N B m L VW hX)) (t:=λl=>(need [U4 (AV.fn (Fn.yield l) [] []),ZQ N B,(0:Int)=(GE L 0:Int),(0:Int)=((0:Nat):Int),0=0] (VR.may True (need [m=m] (leaf PUnit.unit)) (VR.may True (leaf PUnit.unit) (need [m=m] (leaf PUnit.unit)))))) (λl=>VZ) ?_
 intro l;simp only [VR.sat,UF,G6,GQ,UH,UK]
 (with_reducible repeat' first|apply Al|intro _)
 all_goals first|exact Ak|rfl|trivial|trace_state
def cS:G4
 |[.lst 1 n f]=>some ([],.fn (.func 45) [] [.ro [.lst 1 n f]])
 |_=>none
theorem Wu6(n:Nat)(f:Ci):FJ VU 22 [.lst 1 n f] (.fn (.func 45) [] [.ro [.lst 1 n f]]):=by
 refine D6 (L:=[]) Aa Ad U3 Tryz.func22 (UW Tryz.f22) G9 (t:=leaf (AV.fn (Fn.func 45) [] [AV.ro [lst 1 n λa=>f a]])) VZ ?_;exact rfl
theorem SO:PE VU 22 cS:=by
 refine ⟨(UM Tryz.func22),?_⟩;intro avs ns res h Z;unfold cS at h;split at h;cases h;exact Wu6 _ _;cases h
theorem Ju6{a:Cf}{k j:Nat}{x:ByteArray}(h:j<k+1)(hx:x=a k):GL k (λz=>[.x (.string (a z))]) (UA 1 [.x (.string x)]) j=[.x (.string (a j))]:=by
 subst hx;rcases (show j<k\/j=k by omega) with h1|rfl
 show HJ (decide (j<k)) _ (UA _ _ (j-k))=_;rw [decide_eq_true h1,show j-k=0 by omega]
 rfl;show HJ (decide (j<j)) _ (UA _ _ (j-j))=_;rw [show decide (j<j)=false by simp,Bs]
 rfl
def m50(m:Nat):Nat:=if m<=50 then m else 50
section
variable (N:Nat)(B:ByteArray)
abbrev JW:AV:=AV.fn (Fn.func 45) [] [AV.ro [QI N B]]
def Xx9(m:Nat)(L:Cf):St:={σ:=[QI N B,top,ptr 0 0,ptr 1 0,top,top,top,JW N B]++HR 12 [],m:=[(902,GU.row 9 1 0 λx=>[]),(1,GU.cells 3 [iI 0]),(0,GU.cells 22 [AV.row 902])],nx:=903}
noncomputable def Je7:Code:=NW (VX (UB Tryz.f8) 0)
noncomputable def Jd9:Code:=NV (VX (UB Tryz.f8) 0)
def IU(m:Nat)(L:Cf)(k:Nat):St:={σ:=H4 [] (Xx9 N B m L).σ,m:=[(902,.row 9 1 k (λz=>[.x (.string (L z))])),(1,.cells 3 [i (GE L k:Nat)]),(0,.cells 22 [.row 902])],nx:=903}
def uM(m:Nat)(L:Cf)(k:Nat):G8->Option St
 | .normal=>some {σ:=H4 [] (Xx9 N B m L).σ,m:=[(902,.row 9 1 m (λz=>[.x (.string (L z))])),(1,.cells 3 [i (GE L m:Nat)]),(0,.cells 22 [.row 902])],nx:=903}
 | .exit 0=>some {σ:=H4 [] (Xx9 N B m L).σ,m:=[(902,.row 9 1 50 (λz=>[.x (.string (L z))])),(1,.cells 3 [i (GE L 50:Nat)]),(0,.cells 22 [.row 902])],nx:=903}
 |_=>none
def Zy9(m:Nat)(L:Cf):CT:= .branch (decide (m<=50)) (.leaf (.normal,IU N B m L m)) (.leaf (.exit 0,(uM N B m L 0 (.exit 0)).getD (Xx9 N B m L)))
def Zf7(m:Nat)(L:Cf):UN:=GO [(.cell 0 0,902,9,1)] (HI (IU N B m L (0)) (Zy9 N B m L))
end
abbrev K8(L:Cf):Ci:=λz=>[HP (L z)]
section
variable (N:Nat)(B:ByteArray)(m:Nat)(L:Cf)
theorem Jl5(VW:rcI N B m L):HU VU (.rangeFunc (rfF (VX (UB Tryz.f8) 0)) (xS (VX (UB Tryz.f8) 0)) Je7 Jd9) (Zf7 N B m L):=by
 refine LQ [(.cell 0 0,902,9,1)] (L:=[]) Aa (Ai (Af SO Ab) Ac) U3 U7 (V:=Nat) (IU N B m L) (λk=>k<=m/\k<=50) (λk=>k) (uM N B m L) (x0:=0) VY rfl ?_ ?_ ?_ ?_ (g:=45) (caps:=[.ro [.lst 1 N (HG B)]]) VZ VZ (tJ N B m L VW) (λ_=>rfl) ?_;rintro k;kernel_rfl;rintro k y E h;unfold uM at h;split at h;cases h;kernel_rfl;cases h;kernel_rfl;cases h;rintro k;rfl;rintro k y E h;unfold uM at h;split at h;cases h;rfl;cases h;rfl;cases h;rintro Q hQ k hx;refine ⟨λhlt=>⟨(k+1),rfl,?_⟩,λPR=>?_⟩;have e:fH VU [] {R:=[(22,cS)],H:=[] } [] [(.cell 0 0,902,9,1)] (xS (VX (UB Tryz.f8) 0)).toList ((rcV L) (k)) Je7 Jd9 (IU N B m L k) (IU N B m L ((k+1))) (uM N B m L k)=(branch ((k:Int)==50) (need [U4 (QI N B),QO,XY,U4 (JW N B),k=50,∀(i:Nat),i<50->[HP (L i)]=[HP (L i)],(GE L k:Int)=(GE L 50:Int),WI] (leaf (G8.exit 0))) (need [(k+1)*16<=140737488355328,RY 1 (UA 1 [HP (L k)])] (need [U4 (QI N B),QO,XY,U4 (JW N B),k+1=k+1,GZ (k+1) (GL k ((K8 L)) (UA 1 [HP (L k)])) (λi=>[HP (L i)]),U4 (↑(GE L (k+1)):Int),WI] (leaf G8.normal)))):=VZ;rw [e];simp only [Zy9,uM,VR.sat,GW,H6] at hQ;have h100:=VW.1.2.2.1;have h3:=VW.1.2.1;have h4:=y9 L (show k+1<=m from hlt);have h5:=rE L m;obtain ⟨hx1,hx2⟩:=hx;have hq: ∀j,j<k+1->GL k (λz=>[.x (.string (L z))]) (UA 1 [.x (.string (L k))]) j=[.x (.string (L j))]:=λj hj=>Ju6 hj rfl;have hQ2:k=50-> ∀E,uM N B m L k (.exit 0)=some E->Q (.exit 0,E):=λh E hE=>by cases hE;exact hQ.2 VO
 simp only [VR.sat,UF,UK,H6,VQ,DR];clear e hQ;refine ⟨λh=>?_,λh=>?_⟩
 ·have hk:k=50:=by simp at h;omega
  subst hk
  (with_reducible repeat' first|apply Al|intro _)
  all_goals first|exact Ak|omega|rfl|exact hQ2 rfl _ (by assumption)|trace_state
 ·have hk:k≠50:=by simp at h;omega
  (with_reducible repeat' first|apply Al|intro _)
  all_goals first|exact Ak|omega|rfl|exact hq _ (by assumption)|exact FP (by assumption) (by simp [AV.one,Value.oneCell'])|trace_state
 have hk:k=m:=VO;subst hk;simp only [Zy9,VR.sat,H6] at hQ;exact hQ.1 VO
theorem Xs6(VW:rcI N B m L):US VU 8 [.lst 1 N (HG B)] (.leaf (.tup [.lst 1 (m50 m) (λz=>[.x (.string (L z))]),i (GE L (m50 m):Nat)])):=by
 refine GY (L:=[Zf7 N B m L]) Aa (Ai (Af SO Ab) Ac) U3 Tryz.func8 (UW Tryz.f8) (G0 (lpE (b:= .rangeFunc (rfF (VX (UB Tryz.f8) 0)) (xS (VX (UB Tryz.f8) 0)) Je7 Jd9) VZ<|Jl5 N B m L VW)) (t:=let W:=(leaf (tup [lst 1 50 (K8 L),iI (GE L 50:Int)]));let S:=(leaf (tup [lst 1 m (K8 L),iI (GE L m:Int)]));(need [U4 (QI N B),QO,XY,U4 (JW N B),0=0,∀(i:Nat),i<0->[]=[HP (L i)],(0:Int)=(GE L 0:Int),WI] (branch (decide (m<=50)) (VR.may True S (VR.may True S S)) (VR.may True W (VR.may True W W))))) VZ ?_
 intro Q hQ;have h100:=VW.1.2.2.1;have h3:=VW.1.2.1;have h5:=rE L m;simp only [VR.sat,UF,UK,VQ,DR,H6] at hQ ⊢;have hm1:m<=50->m50 m=m:=λh=>if_pos h;have hm2: ¬m<=50->m50 m=50:=λh=>if_neg h;refine ⟨⟨λ_ h=>absurd h (Aq _),rfl⟩,λh=>?_,λh=>?_⟩
 ·rw [hm1 h] at hQ
  (with_reducible repeat' first|apply Al|intro _)
  all_goals first|exact Ak|omega|rfl|assumption|(rename_i h;exact absurd h (Aq _))|exact ⟨.tup [.lst 1 m (λz=>[.x (.string (L z))]),i (GE L m:Nat)],⟨⟨rfl,rfl,λ_ _=>rfl⟩,⟨rfl,rfl⟩,Ak⟩,hQ⟩|trace_state
 ·rw [hm2 h] at hQ
  (with_reducible repeat' first|apply Al|intro _)
  all_goals first|exact Ak|omega|rfl|assumption|(rename_i h;exact absurd h (Aq _))|exact ⟨.tup [.lst 1 50 (λz=>[.x (.string (L z))]),i (GE L 50:Nat)],⟨⟨rfl,rfl,λ_ _=>rfl⟩,⟨rfl,rfl⟩,Ak⟩,hQ⟩|trace_state
end
set_option maxHeartbeats 4000000 in
theorem mY{n:Int}(h:0<=n/\n<=9){s:ByteArray}(hs:s.size=1)(hb:HE s 0=48+n)(w:World):Calls Tryz.prog 71 #[.int .i64 n] w λen w'=>en= .returned (.string s)/\Below w.heap.size w w':=by
 have h1:decide (n<0)=false:=decide_eq_false VO;have h2:decide (n<10)=true:=decide_eq_true VO;have h3: ¬n<0:=VO;have h4:n<10:=VO;have hc:(convert 23 9 (.slice (some ⟨w.heap.size,0,none⟩) 1 1)).run Tryz.prog (w.alloc (Obj.cells #[.int .u8 (48+n)] 5))= .ok (.string s) (w.alloc (Obj.cells #[.int .u8 (48+n)] 5)):=by
  refine LG hs λj hj=>?_;obtain rfl:j=0:=VO;have hh:(w.alloc (Obj.cells #[.int .u8 (48+n)] 5)).heap[w.heap.size]? =some (Obj.cells #[.int .u8 (48+n)] 5):=heap_alloc_new w _;rw [hb];simp only [World.cell?,hh];rfl
 have hB:Below w.heap.size w (w.alloc (Obj.cells #[.int .u8 (48+n)] 5)):=(Below.refl _ _).alloc (Am _) _
 go_enter Tryz.func71,Tryz.ntmps71
 go_wp2
 try rw [hc]
 try go_wp2
 go_ret
 exact ⟨rfl,hB⟩
def Xg3:G4
 |[.x (.int .i64 n)]=>some ([0<=n/\n<=9],.x (.string ⟨#[UInt8.ofNat (48+n.toNat)]⟩))
 |_=>none
theorem CB:VT VU 71 Xg3:=by
 refine ⟨(UM Tryz.func71),?_⟩;intro avs ns res h Z;unfold Xg3 at h;split at h;rename_i n;cases h;have h1:0<=n/\n<=9:=Z _ VY;intro e w args q1 q2 q3 q4;obtain ⟨u,us,rfl,r1,r2⟩:=q4.cons_inv;cases r2.nil_inv;cases r1.x_inv;refine (mY (s:=⟨#[UInt8.ofNat (48+n.toNat)]⟩) h1 rfl (by
  show ((UInt8.ofNat (48+n.toNat)).toNat:Int)=_;rw [UInt8.toNat_ofNat_of_lt' (by show _<256;omega)]
  omega) w).mono ?_
 rintro en A ⟨rfl,hb⟩;exact ⟨_,rfl,hb,.x _⟩;cases h
def txL:Nat->Nat->List UInt8
 | 0,n=>[UInt8.ofNat (48+n)]
 |k+1,n=>if n<10 then [UInt8.ofNat (48+n)] else txL k (n / 10)++[UInt8.ofNat (48+n%10)]
def dgs:Nat->Nat->List UInt8
 | 0,_=>[]
 |m+1,n=>dgs m (n / 10)++[UInt8.ofNat (48+n%10)]
theorem gL{n:Nat}(h:n<10): ∀k,txL k n=[UInt8.ofNat (48+n)]
 | 0=>rfl
 |k+1=>if_pos h
theorem pD{k n:Nat}(h: ¬n<10):txL (k+1) n=txL k (n / 10)++[UInt8.ofNat (48+n%10)]:=if_neg h
theorem pC: ∀k n,(txL k n).length<=k+1
 | 0,_=>Am 1
 |k+1,n=>by
  by_cases h:n<10;rw [gL h];show 1<=_;omega;rw [pD h,Be];have:=pC k (n / 10);show _+1<=_;omega
theorem Xa9: ∀m,dgs m 0=List.replicate m 48
 | 0=>rfl
 |m+1=>by
  show dgs m 0++[48]=_;rw [Xa9 m,List.replicate_succ']
theorem Wf7: ∀(k n m:Nat),n<10^(k+1)->n<10^m->1<=m->(txL k n).length<=m/\List.replicate (m-(txL k n).length) 48++txL k n=dgs m n:=by
 intro k
 induction k with
 |zero=>
  intro n m h1 _ h3;have h1:n<10:=h1;obtain ⟨m,rfl⟩: ∃q,m=q+1:=⟨m-1,VO⟩;refine ⟨by show 1<=_;omega,?_⟩
  show List.replicate (m+1-1) 48++[UInt8.ofNat (48+n)]=dgs m (n / 10)++[UInt8.ofNat (48+n%10)];rw [Nat.div_eq_of_lt h1,Nat.mod_eq_of_lt h1,Xa9,Bi]
 |succ k ih=>
  intro n m h1 h2 h3;obtain ⟨m,rfl⟩: ∃q,m=q+1:=⟨m-1,VO⟩;by_cases h:n<10;rw [gL h];refine ⟨by show 1<=_;omega,?_⟩
  show List.replicate (m+1-1) 48++[UInt8.ofNat (48+n)]=dgs m (n / 10)++[UInt8.ofNat (48+n%10)];rw [Nat.div_eq_of_lt h,Nat.mod_eq_of_lt h,Xa9,Bi];have e1:10^(k+1+1)=10^(k+1)*10:=Nat.pow_succ ..;have e2:10^(m+1)=10^m*10:=Nat.pow_succ ..;have hm:1<=m:=by
   rcases Nat.eq_zero_or_pos m with rfl|h5;omega;exact h5
  obtain ⟨g1,g2⟩:=ih (n / 10) m VO VO hm;rw [pD h,Be];refine ⟨by show _+1<=_;omega,?_⟩
  show List.replicate (m+1-((txL k (n / 10)).length+1)) 48++(txL k (n / 10)++[UInt8.ofNat (48+n%10)])=dgs m (n / 10)++[UInt8.ofNat (48+n%10)];rw [Nat.add_sub_add_right,←List.append_assoc,g2]
section
variable {n:Int}{a:Nat}
theorem yD(h:n=a):UInt8.ofNat (dgI n).toNat=UInt8.ofNat (48+a%10):=by
 subst h;have e:dgI (a:Int)=(48+(a:Int).tmod 10)%256:=rfl;rw [Int.tmod_eq_emod_of_nonneg VO] at e;rw [show (dgI (a:Int)).toNat=48+a%10 by omega]
theorem fD(h:n=a):n.tdiv 10=((a / 10:Nat):Int):=by
 subst h;rw [pG VO];omega
theorem Zx6(h:n=a):dg3 n=⟨(dgs 3 a).toArray⟩:=by
 have h1:=fD h;have h2:=fD h1;unfold dg3;rw [yD h,yD h1,yD h2];rfl
theorem Zx5(h:n=a):dg5 n=⟨(dgs 5 a).toArray⟩:=by
 have h1:=fD h;have h2:=fD h1;have h3:=fD h2;have h4:=fD h3;unfold dg5;rw [yD h,yD h1,yD h2,yD h3,yD h4];rfl
end
def wdB(z n:Nat):ByteArray:=⟨(List.replicate z 48++txL 4 n).toArray⟩
theorem Xm0(z n:Nat):(⟨#[48]⟩:ByteArray)++wdB z n=wdB (z+1) n:=by
 refine LH.2 ?_;unfold wdB;simp [ByteArray.toList_data_append,List.replicate_succ]
theorem Xl9(z n:Nat):(wdB z n).size=z+(txL 4 n).length:=by
 show (List.toArray _).size=_;simp
theorem wd_3{n:Int}(h:0<=n/\n<=999):wdB (3-(txL 4 n.toNat).length) n.toNat=dgB n 3/\(txL 4 n.toNat).length<=3:=by
 obtain ⟨g1,g2⟩:=Wf7 4 n.toNat 3 VO VO VO;refine ⟨?_,g1⟩;unfold wdB;rw [g2];exact (Zx6 VO).symm
theorem wd_5{n:Int}(h:0<=n/\n<=99999):wdB (5-(txL 4 n.toNat).length) n.toNat=dgB n 5/\(txL 4 n.toNat).length<=5:=by
 obtain ⟨g1,g2⟩:=Wf7 4 n.toNat 5 VO VO VO;refine ⟨?_,g1⟩;unfold wdB;rw [g2];exact (Zx5 VO).symm
theorem C8{B:ByteArray}{a n:Nat}(h:a+n<=B.size){s:ByteArray}(hs:s.size=n):B.extract a (a+n)=s↔ ∀j,j<n->HE B (a+j)=HE s j:=by
 have hz:(B.extract a (a+n)).size=n:=by rw [ByteArray.size_extract];omega
 constructor;intro e j hj;rw [←e,Qk3 B h VO];intro e;have hx: ∀j,j<n->HE (B.extract a (a+n)) j=HE s j:=λj hj=>by rw [Qk3 B h VO,e j hj]
 refine (xH (f:=HG s) hz λj hj=>?_).symm.trans (xH hs λj _=>rfl);unfold HG;rw [hx j hj]
theorem Xt9{a b:Int}(ha:0<=a/\a<=999)(hb:0<=b/\b<=999)(h: ∀j,j<3->HE (dg3 a) j=HE (dg3 b) j):a=b:=by
 have e:dg3 a=dg3 b:=(xH (f:=HG (dg3 b)) (rfl:(dg3 a).size=3) λj hj=>by unfold HG;rw [h j hj]).symm.trans (xH rfl λj _=>rfl)
 have h1:=IJ ha;rw [e,IJ hb] at h1;exact h1.symm
theorem Wj1{N m k n:Nat}{B:ByteArray}{L:Cf}(h:rcP N B m L)(hN:B.size=N)(hk:k<m)(Z:n<=200)(h1:GE L k+12+n<=N):
  (B.extract (GE L k) (GE L k+12+n)=rcB (B.extract (GE L k+11) (GE L k+11+n)) k↔n=(L k).size)/\B.extract (GE L k+11) (GE L k+11+(L k).size)=L k:=by
 obtain ⟨g1,g2,g3,g4,g0,_⟩:=aL h hk;obtain ⟨p1,p2,p3⟩:=EA g0;have hL:B.extract (GE L k+11) (GE L k+11+(L k).size)=L k:=(C8 VO rfl).2 p2;refine ⟨⟨λe=>?_,λe=>?_⟩,hL⟩;have hz:(B.extract (GE L k+11) (GE L k+11+n)).size=n:=by rw [ByteArray.size_extract];omega
 generalize B.extract (GE L k+11) (GE L k+11+n)=s at e hz;subst hz;rw [Ba] at e;obtain ⟨q1,_,_⟩:=EA ((C8 VO (qV _ _)).1 e);have h3:((L k).size:Int)=s.size:=Xt9 VO VO λj hj=>by
  rw [←C9 _ (tpK (L k) k) hj,←p1 (1+j) VO,q1 (1+j) VO,C9 _ _ hj]
 omega;subst e;rw [hL,Ba];exact (C8 VO (qV _ _)).2 g0
theorem Qr4{N m n:Nat}{B:ByteArray}{L:Cf}(h:rcI N B m L)(hN:B.size=N)(Z:n<=200)(h1:GE L m+12+n<=N):
  B.extract (GE L m) (GE L m+12+n)≠rcB (B.extract (GE L m+11) (GE L m+11+n)) m:=by
 intro e;have hz:(B.extract (GE L m+11) (GE L m+11+n)).size=n:=by rw [ByteArray.size_extract];omega
 generalize B.extract (GE L m+11) (GE L m+11+n)=s at e hz;subst hz;rw [Ba] at e;exact h.2 ⟨s,Z,h1,λj hj=>(C8 VO (qV _ _)).1 e j hj⟩
def Qc6(K:Nat):G4
 |[.x (.int .i64 n)]=>some ([(0<=n/\n<=1000000)/\n<((10^(K+1):Nat):Int)],.x (.string ⟨(txL K n.toNat).toArray⟩))
 |_=>none
theorem Ji8{n:Int}(h:0<=n):(n.tdiv 10).toNat=n.toNat / 10/\(n.tmod 10).toNat=n.toNat%10/\0<=n.tdiv 10/\0<=n.tmod 10/\n.tmod 10<=9/\n.tdiv 10=n / 10:=by
 obtain ⟨k,rfl⟩: ∃k:Nat,n=k:=⟨n.toNat,VO⟩;rw [Int.tdiv_eq_ediv_of_nonneg VO,Int.tmod_eq_emod_of_nonneg VO];omega
theorem Xu2{s:ByteArray}{k:Nat}(h:k<s.size):nJ s k=HE s k:=by
 unfold nJ HE;have h1:s[k]? =some s[k]:=getElem?_pos s k h;rw [h1,L0,Array.getElem?_eq_getElem (show k<s.data.size from h)];rfl
theorem Za9(K n:Nat):(⟨(txL K n).toArray⟩:ByteArray).size<=K+1:=by
 show (List.toArray _).size<=_;simp only [List.size_toArray];exact pC K n
theorem Xe3(K:Nat)(n:Int)(VW:VT VU 71 (Qc6 K))(UG:(10<=n/\n<=1000000)/\n<((10^(K+2):Nat):Int))(HX:K<=10):U2 VU 71 [i n] (.x (.string ((⟨(txL K (n.tdiv 10).toNat).toArray⟩:ByteArray)++⟨(txL K (n.tmod 10).toNat).toArray⟩))):=by
 refine U6 (L:=[]) (Ae VW Aa) U3 Tryz.func71 (UW Tryz.f71) U7 (t:=branch (decide (n<0)) (need [VQ (-n)] (need [((0:Int)<= -n/\ -n<=1000000)/\ -n<(↑(10^(K+1)):Int)] (need [(↑(ByteArray.size {data:=#[45] }+ByteArray.size {data:=List.toArray (txL K (-n).toNat) }):Int)<=9223372036854775807] (leaf (RV.x (.string ({data:=#[45] }++{data:=List.toArray (txL K (-n).toNat) }))))))) (branch (decide (n<10)) (need [VQ ((48:Int)+n)] VR.fail) (need [(10:Int)≠0,VQ (Int.tdiv n (10:Int))] (need [((0:Int)<=Int.tdiv n (10:Int)/\Int.tdiv n (10:Int)<=1000000)/\Int.tdiv n (10:Int)<(↑(10^(K+1)):Int)] (need [(10:Int)≠0] (need [((0:Int)<=Int.tmod n (10:Int)/\Int.tmod n (10:Int)<=1000000)/\Int.tmod n (10:Int)<(↑(10^(K+1)):Int)] (need [(↑(ByteArray.size {data:=List.toArray (txL K (Int.tdiv n (10:Int)).toNat) }+ByteArray.size {data:=List.toArray (txL K (Int.tmod n (10:Int)).toNat) }):Int)<=9223372036854775807] (leaf (RV.x (.string ({data:=List.toArray (txL K (Int.tdiv n (10:Int)).toNat) }++{data:=List.toArray (txL K (Int.tmod n (10:Int)).toNat) }))))))))))) VZ ?_;obtain ⟨u1,u2,u3,u4,u5,u6⟩:=Ji8 (n:=n) VO;have e1:10^(K+2)=10^(K+1)*10:=Nat.pow_succ ..;have e2:10<=10^(K+1):=by
  have:=Cc (n:=K);have h10:1<=10^K:=Nat.one_le_pow _ _ VO;rw [Nat.pow_succ];omega
 have q1:n.tdiv 10<((10^(K+1):Nat):Int):=VO;have q2:n.tmod 10<((10^(K+1):Nat):Int):=VO;have S:=Za9 K (n.tdiv 10).toNat;have I:=Za9 K (n.tmod 10).toNat;simp only [VR.sat,UF,G6,GQ,UH,UK,VQ,DR]
 (with_reducible repeat' first|apply Al|intro _)
 all_goals first|exact Ak|(exfalso;rename_i h9;simp at h9;omega)|exact q1|exact q2|omega|trace_state
theorem CA{K:Nat}(h:VT VU 71 (Qc6 K))(hK:K<=10):VT VU 71 (Qc6 (K+1)):=by
 refine ⟨CB.1,?_⟩;intro avs ns res h0 Z;unfold Qc6 at h0;split at h0;rename_i n;cases h0;have h1:(0<=n/\n<=1000000)/\n<((10^(K+1+1):Nat):Int):=Z _ VY;by_cases h2:n<=9;have h3:=CB.2 [.x (.int .i64 n)] _ _ rfl (λp hp=>by
  simp only [GT,DO,or_false] at hp;subst hp;exact ⟨h1.1.1,h2⟩)
 rw [gL VO];exact h3;have h3:=Xe3 K n h ⟨VO,h1.2⟩ hK;obtain ⟨t1,t2,t3,t4,t5,_⟩:=Ji8 h1.1.1;rw [t1,t2,gL (show n.toNat%10<10 by omega)] at h3
 rw [pD VO];have e:(⟨(txL K (n.toNat / 10)).toArray⟩:ByteArray)++⟨([UInt8.ofNat (48+n.toNat%10)]).toArray⟩=⟨(txL K (n.toNat / 10)++[UInt8.ofNat (48+n.toNat%10)]).toArray⟩:=by
  refine LH.2 ?_;simp [ByteArray.toList_data_append]
 rw [e] at h3;exact h3;cases h0
theorem Tx_0:VT VU 71 (Qc6 0):=by
 refine ⟨CB.1,?_⟩;intro avs ns res h0 Z;unfold Qc6 at h0;split at h0;rename_i n;cases h0;have h1:(0<=n/\n<=1000000)/\n<((10^(0+1):Nat):Int):=Z _ VY;exact CB.2 [.x (.int .i64 n)] _ _ rfl (λp hp=>by
  simp only [GT,DO,or_false] at hp;subst hp;exact ⟨h1.1.1,VO⟩)
 cases h0
theorem Jv8:VT VU 71 (Qc6 4):=CA (CA (CA (CA Tx_0 VO) VO) VO) VO
abbrev WP:AV:=AV.x (.string {data:=#[] })
section
variable (n:Int)(M:Int)
def Ja6:St:={σ:=[iI n,iI M,top,top,WP]++HR 10 [],m:=[],nx:=4}
noncomputable def Kb2:Code:=UD (VX (UB Tryz.f47) 0)
def Wo9(z:Nat):St:=(upM [(5,.x (.string (wdB z n.toNat)))] (Ja6 n M))
def EH(z:Nat):G8->Option St
 | .exit 0=>some (upM [(5,.x (.string (wdB (M.toNat-(txL 4 n.toNat).length) n.toNat)))] (Ja6 n M))
 |_=>none
def Jw0:CT:= .leaf (.exit 0,(EH n M 0 (.exit 0)).getD (Ja6 n M))
def Ze7:UN:=GO [] (HI (Wo9 n M (0)) (Jw0 n M))
theorem Jh7(VW:0<=n/\n<=99999)(UG:(txL 4 n.toNat).length<=M.toNat/\0<=M/\M<=5):GD VU (.loop Kb2) (Ze7 n M):=by
 refine UV [] (L:=[]) (Ae Jv8 Aa) Ad U3 U7 (X:=Nat) (Wo9 n M) (λz=>z<=(M.toNat-(txL 4 n.toNat).length)) (λz=>(M.toNat-(txL 4 n.toNat).length)-z) (EH n M) (x0:=0) VY ?_ ?_ ?_;rintro z;kernel_rfl;rintro z y E h;unfold EH at h;split at h;cases h;kernel_rfl;cases h;rintro Q hQ z hx;refine ⟨(z+1),?_⟩;(with_reducible refine DG (t:=branch (decide ((↑(ByteArray.size (wdB z (Int.toNat n))):Int)<M)) (need [(↑(ByteArray.size {data:=#[48] }+ByteArray.size (wdB z (Int.toNat n))):Int)<=9223372036854775807] (need [n=n,M=M,WP=WP,HP ({data:=#[48] }++wdB z (Int.toNat n))=HP (wdB (z+1) (Int.toNat n))] (leaf G8.normal))) (need [n=n,M=M,WP=WP,HP (wdB z (Int.toNat n))=AV.x (.string (wdB (Int.toNat M-List.length (txL 4 (Int.toNat n))) (Int.toNat n)))] (leaf (G8.exit 0)))) VZ ?_);simp only [Jw0,EH,VR.sat,GW] at hQ;simp only [VR.sat,UF,G6,GQ,UH,VQ,UK,H6,FW,FZ,RP,GR,EH]
 have hz:=Xl9 z n.toNat;have hnx:=Xm0 z n.toNat;have hl:=pC 4 n.toNat;refine ⟨λh=>?_,λh=>?_⟩
 ·have hk:z<M.toNat-(txL 4 n.toNat).length:=VO
  (with_reducible repeat' first|apply Al|intro _)
  all_goals first|exact LN|(first|exact hnx|(show ((1+_:Nat):Int)<=_;omega))
 obtain rfl:z=M.toNat-(txL 4 n.toNat).length:=VO;exact V1
theorem Qe5(VW:0<=n/\n<=99999)(UG:(txL 4 n.toNat).length<=M.toNat/\0<=M/\M<=5):U2 VU 47 [i n,i M] (.x (.string (wdB (M.toNat-(txL 4 n.toNat).length) n.toNat))):=by
 refine G7 (L:=[Ze7 n M]) (Ae Jv8 Aa) Ad U3 Tryz.func47 (UW Tryz.f47) (G0 (lpE (b:= .loop Kb2) VZ<|(Jh7 n M VW UG).N)) (t:=need [((0:Int)<=n/\n<=1000000)/\n<(↑(10^5):Int)] (need [n=n,M=M,WP=WP,AV.x (.string {data:=List.toArray (txL 4 (Int.toNat n)) })=HP (wdB 0 (Int.toNat n))] (leaf (RV.x (.string (wdB (Int.toNat M-List.length (txL 4 (Int.toNat n))) (Int.toNat n))))))) VZ ?_
 exact VF
end
def Xe9:G4
 |[.x (.int .i64 n),.x (.int .i64 M)]=>some ([(M=3/\0<=n/\n<=999)\/(M=5/\0<=n/\n<=99999)],.x (.string (dgB n M)))
 |_=>none
theorem Qe4:VT VU 47 Xe9:=by
 refine ⟨(UM Tryz.func47),?_⟩;intro avs ns res h Z;unfold Xe9 at h;split at h;rename_i n M;cases h;have h1:(M=3/\0<=n/\n<=999)\/(M=5/\0<=n/\n<=99999):=Z _ VY;rcases h1 with ⟨rfl,h1⟩|⟨rfl,h1⟩;obtain ⟨g1,g2⟩:=wd_3 h1;have h3:=Qe5 n 3 VO ⟨g2,VO,VO⟩;rw [show Int.toNat 3=3 from rfl,g1] at h3;exact h3;obtain ⟨g1,g2⟩:=wd_5 h1;have h3:=Qe5 n 5 VO ⟨g2,VO,VO⟩;rw [show Int.toNat 5=5 from rfl,g1] at h3;exact h3;cases h
section
variable (s:ByteArray)(ix:Int)
def Jc4:St:={σ:=[JF s,iI ix,top,top,WP]++HR 34 [],m:=[],nx:=6}
noncomputable def Kd2:Code:=UD (VX (UB Tryz.f23) 0)
def Wr3(k:Nat):St:=(upM [(5,i (tpC s ix k)),(6,i (k:Nat))] (Jc4 s ix))
def EZ(k:Nat):G8->Option St
 | .exit 0=>some (upM [(5,i (tpC s ix s.size)),(6,i (s.size:Nat))] (Jc4 s ix))
 |_=>none
def Jy6:CT:= .leaf (.exit 0,(EZ s ix 0 (.exit 0)).getD (Jc4 s ix))
def Zh6:UN:=GO [] (HI (Wr3 s ix (0)) (Jy6 s ix))
theorem Js4(VW:s.size<=200)(UG:0<=ix/\ix<=100000):GD VU (.loop Kd2) (Zh6 s ix):=by
 refine UV [] (L:=[]) (Ae Qe4 Aa) Ad U3 U7 (X:=Nat) (Wr3 s ix) (λk=>k<=s.size) (λk=>s.size-k) (EZ s ix) (x0:=0) VY ?_ ?_ ?_;rintro k;kernel_rfl;rintro k y E h;unfold EZ at h;split at h;cases h;kernel_rfl;cases h;rintro Q hQ k hx;refine ⟨(k+1),?_⟩;(with_reducible refine DG (t:=branch (decide ((k:Int)<(ByteArray.size s:Int))) (need [VQ ((k:Int)+2)] (need [(0:Int)<=(k:Int)/\k<ByteArray.size s] (need [VQ (match s[k]? with|some b=>(UInt8.toNat b:Int)|none=>(0:Int))] (need [VQ ((match s[k]? with|some b=>(UInt8.toNat b:Int)|none=>(0:Int))+3)] (need [VQ (((k:Int)+2)*((match s[k]? with|some b=>(UInt8.toNat b:Int)|none=>(0:Int))+3))] (need [VQ (tpC s ix k+((k:Int)+2)*((match s[k]? with|some b=>(UInt8.toNat b:Int)|none=>(0:Int))+3))] (need [VQ ((k:Int)+1)] (need [JF s=JF s,ix=ix,WP=WP,tpC s ix k+((k:Int)+2)*((match s[k]? with|some b=>(UInt8.toNat b:Int)|none=>(0:Int))+3)=tpC s ix (k+1),(k:Int)+1=(↑(k+1):Int)] (leaf G8.normal))))))))) (need [JF s=JF s,ix=ix,WP=WP,tpC s ix k=tpC s ix (ByteArray.size s),(k:Int)=(ByteArray.size s:Int)] (leaf (G8.exit 0)))) VZ ?_)
 simp only [Jy6,EZ,VR.sat,GW] at hQ;simp only [VR.sat,UF,G6,GQ,UH,VQ,UK,H6,FW,FZ,RP,GR,EZ]
 have h1:=zU s ix UG k VO;refine ⟨λh=>?_,λh=>?_⟩;have hk:k<s.size:=VO;have h2:=pF s k VO;have h3:=vA s k;have e0:tpC s ix (k+1)=tpC s ix k+((k:Int)+2)*(HE s k+3):=rfl;have hb:(match s[k]? with|some b=>(UInt8.toNat b:Int)|none=>(0:Int))=HE s k:=Xu2 hk
 simp only [hb];generalize ((k:Int)+2)*(HE s k+3)=z at h2 e0 ⊢;exact V1;obtain rfl:k=s.size:=VO;exact V1
end
def NK:G4
 |[.x (.string s),.x (.int .i64 ix)]=>some ([s.size<=200,0<=ix/\ix<=100000],.x (.string (rcB s ix)))
 |_=>none
theorem Wa6(s:ByteArray)(ix:Int)(VW:s.size<=200)(UG:0<=ix/\ix<=100000):U2 VU 23 [.x (.string s),i ix] (.x (.string (rcB s ix))):=by
 refine G7 (L:=[Zh6 s ix]) (Ae Qe4 Aa) Ad U3 Tryz.func23 (UW Tryz.f23) (G0 (lpE (b:= .loop Kd2) VZ<|(Js4 s ix VW UG).N)) (t:=let W:=(tpC s ix (ByteArray.size s));let S:=(Int.tmod W (99971:Int));(need [VQ (ix+1)] (need [VQ ((23:Int)*(ix+1))] (need [JF s=JF s,ix=ix,WP=WP,(23:Int)*(ix+1)=tpC s ix 0,(0:Int)=((0:Nat):Int)] (need [(3:Int)=3/\(0:Int)<=(ByteArray.size s:Int)/\(ByteArray.size s:Int)<=999\/(3:Int)=5/\(0:Int)<=(ByteArray.size s:Int)/\(ByteArray.size s:Int)<=99999] (need [(↑(ByteArray.size {data:=#[91] }+ByteArray.size (dgB (ByteArray.size s:Int) (3:Int))):Int)<=9223372036854775807] (need [(↑(ByteArray.size ({data:=#[91] }++dgB (ByteArray.size s:Int) (3:Int))+ByteArray.size {data:=#[58] }):Int)<=9223372036854775807] (need [(99971:Int)≠0] (need [(5:Int)=3/\(0:Int)<=Int.tmod W (99971:Int)/\Int.tmod W (99971:Int)<=999\/(5:Int)=5/\(0:Int)<=Int.tmod W (99971:Int)/\Int.tmod W (99971:Int)<=99999] (need [(↑(ByteArray.size ({data:=#[91] }++dgB (ByteArray.size s:Int) (3:Int)++{data:=#[58] })+ByteArray.size (dgB S (5:Int))):Int)<=9223372036854775807] (need [(↑(ByteArray.size ({data:=#[91] }++dgB (ByteArray.size s:Int) (3:Int)++{data:=#[58] }++dgB S (5:Int))+ByteArray.size {data:=#[93] }):Int)<=9223372036854775807] (need [(↑(ByteArray.size ({data:=#[91] }++dgB (ByteArray.size s:Int) (3:Int)++{data:=#[58] }++dgB S (5:Int)++{data:=#[93] })+ByteArray.size s):Int)<=9223372036854775807] (need [(↑(ByteArray.size ({data:=#[91] }++dgB (ByteArray.size s:Int) (3:Int)++{data:=#[58] }++dgB S (5:Int)++{data:=#[93] }++s)+ByteArray.size {data:=#[10] }):Int)<=9223372036854775807] (leaf (RV.x (.string ({data:=#[91] }++dgB (ByteArray.size s:Int) (3:Int)++{data:=#[58] }++dgB S (5:Int)++{data:=#[93] }++s++{data:=#[10] }))))))))))))))))) VZ ?_
 have h1:=zU s ix UG s.size VO;have h2:=Qe6 s ix UG VO;unfold tpK at h2;have e3:(dgB (s.size:Int) 3).size=3:=rfl;have e5:(dgB ((tpC s ix s.size).tmod 99971) 5).size=5:=rfl;simp only [VR.sat,UF,G6,GQ,UH,UK,VQ]
 (with_reducible repeat' first|apply Al|intro _)
 all_goals first|exact Ak|omega|rfl|decide|(simp only [Av,sz1,e3,e5];omega)|trace_state
theorem zQ:VT VU 23 NK:=by
 refine ⟨(UM Tryz.func23),?_⟩;intro avs ns res h Z;unfold NK at h;split at h;cases h;exact Wa6 _ _ (Z _ VY) (Z _ VY);cases h
section
variable (n:Nat)(L:Cf)
def Jc6:St:={σ:=[Q6 n L,top,WP]++HR 17 [],m:=[],nx:=3}
noncomputable def Kd4:Code:=UD (VX (UB Tryz.f12) 0)
def Wr5(k:Nat):St:=(upM [(3,.x (.string (flB L k))),(4,i (k:Nat))] (Jc6 n L))
def I1(k:Nat):G8->Option St
 | .exit 0=>some (upM [(3,.x (.string (flB L n))),(4,i (n:Nat))] (Jc6 n L))
 |_=>none
def Jy8:CT:= .leaf (.exit 0,(I1 n L 0 (.exit 0)).getD (Jc6 n L))
def Zh8:UN:=GO [] (HI (Wr5 n L (0)) (Jy8 n L))
abbrev YO:List (Nat×G4):=[(23,NK)]
theorem Js6(VW:n<=50)(UG: ∀k,k<n->(L k).size<=200):GD VU (.loop Kd4) (Zh8 n L):=by
 refine UV [] (L:=[]) (Ae zQ Aa) Ad U3 U7 (X:=Nat) (Wr5 n L) (λk=>k<=n) (λk=>n-k) (I1 n L) (x0:=0) VY ?_ ?_ ?_;rintro k;kernel_rfl;rintro k y E h;unfold I1 at h;split at h;cases h;kernel_rfl;cases h;rintro Q hQ k hx;refine ⟨(k+1),?_⟩;(with_reducible refine DG (t:=branch (decide ((k:Int)<(n:Int))) (need [UO k n] (need [ByteArray.size (L k)<=200,(0:Int)<=(k:Int)/\(k:Int)<=100000] (need [(↑(ByteArray.size (flB L k)+ByteArray.size (rcB (L k) (k:Int))):Int)<=9223372036854775807] (need [VQ ((k:Int)+1)] (need [U4 (Q6 n L),WP=WP,HP (flB L k++rcB (L k) (k:Int))=HP (flB L (k+1)),(k:Int)+1=(↑(k+1):Int)] (leaf G8.normal)))))) (need [U4 (Q6 n L),WP=WP,HP (flB L k)=HP (flB L n),(k:Int)=(n:Int)] (leaf (G8.exit 0)))) VZ ?_);simp only [Jy8,I1,VR.sat,GW] at hQ;simp only [VR.sat,UF,G6,GQ,UH,VQ,UK,H6,FW,FZ,RP,GR,I1]
 refine ⟨λh=>?_,λh=>?_⟩
 ·have hk:k<n:=VO;have h1:=ML L k λj hj=>UG j VO;have h2:=UG k hk;have h6:=qV (L k) k;have e0:flB L k++rcB (L k) k=flB L (k+1):=rfl
  (with_reducible repeat' first|apply Al|intro _)
  all_goals first|exact LN|(first|exact e0|(rw [h6];omega))
 obtain rfl:k=n:=VO;exact V1
theorem Wj9(VW:n<=50)(UG: ∀k,k<n->(L k).size<=200):U2 VU 12 [lns n L] (.x (.string (flB L n))):=by
 refine G7 (L:=[Zh8 n L]) (Ae zQ Aa) Ad U3 Tryz.func12 (UW Tryz.f12) (G0 (lpE (b:= .loop Kd4) VZ<|(Js6 n L VW UG).N)) (t:=need [U4 (Q6 n L),WP=WP,AV.x (.string {data:=#[] })=HP (flB L 0),(0:Int)=((0:Nat):Int)] (leaf (RV.x (.string (flB L n))))) VZ ?_
 exact VF
end
def BP(m:Nat)(L:Cf)(k:Nat):Nat:=if k<m then (L k).size else 1000
def PV(N m:Nat)(L:Cf)(k:Nat):Nat:=if k<m then (L k).size+1 else min 201 (N-GE L k-11)
def cnT(m:Nat)(L:Cf)(k z:Nat):Nat:=if BP m L k<z then k+1 else k
theorem pH{a b:ByteArray}:(a.toList==b.toList)=true↔a=b:=by
 rw [ByteArray.toList_eq,ByteArray.toList_eq,beq_iff_eq];exact ⟨λh=>LH.2 h,λh=>by rw [h]⟩
abbrev ZB(B:ByteArray):AV:=HP B
abbrev ZR(B:ByteArray):List AV:=[ZB B,top,QB,iI 0,top,top,top,top,top,top,top,top,top,top,top,top,top,top,top,top,top,top,top,top,top,top,top,top,top,top,top,top,top,top,top,top,top,top,top,top,top,top,top,top,top,top,top,top,top,top,top,top,top,top,top,top,top,top,top,top,top]
def Ja8(N:Nat)(B:ByteArray)(m:Nat)(L:Cf):St:={σ:=(ZR B),m:=[(901,GU.row 9 1 0 λx=>[])],nx:=902}
noncomputable def Xy0:Code:=UD (VX (UB Tryz.f9) 0)
section
variable (N:Nat)(B:ByteArray)(m:Nat)(L:Cf)
def Wp1(k:Nat):St:={σ:=H4 [(4,.row 901),(5,i (GE L k:Nat)),(6,.top),(7,.top),(8,.top)] (Ja8 N B m L).σ,m:=[(901,.row 9 1 k (λq=>[.x (.string (L q))]))],nx:=902}
def EJ(k:Nat):G8->Option St
 | .exit 0=>some {σ:=H4 [(4,.row 901),(5,i (GE L (m50 m):Nat)),(6,.top),(7,.top),(8,.top)] (Ja8 N B m L).σ,m:=[(901,.row 9 1 (m50 m) (λq=>[.x (.string (L q))]))],nx:=902}
 |_=>none
def Jw2:CT:= .leaf (.exit 0,(EJ N B m L 0 (.exit 0)).getD (Ja8 N B m L))
def Ze9:UN:=GO [(.slot 4,901,9,1)] (HI (Wp1 N B m L (0)) (Jw2 N B m L))
end
def Ja7(N:Nat)(B:ByteArray)(m:Nat)(L:Cf)(k:Nat):St:={σ:=(ZR B),m:=[(901,GU.row 9 1 k λq=>[HP (L q)])],nx:=907}
noncomputable def Kb3:Code:=UD (VX Xy0 0)
section
variable (N:Nat)(B:ByteArray)(m:Nat)(L:Cf)(k:Nat)
def Wp0(z:Nat):St:=(upE [(4,.row 901),(5,i (GE L (cnT m L k z):Nat)),(6,bl (decide (BP m L k<z))),(7,i (z:Nat)),(8,.top)] [(901,.row 9 1 (cnT m L k z) (λq=>[.x (.string (L q))]))] (Ja7 N B m L k))
def EI(z:Nat):G8->Option St
 | .exit 2=>some (upE [(4,.row 901),(5,i (GE L (cnT m L k (PV N m L k)):Nat)),(6,bl (decide (BP m L k<(PV N m L k)))),(7,i ((PV N m L k):Nat)),(8,.top)] [(901,.row 9 1 (cnT m L k (PV N m L k)) (λq=>[.x (.string (L q))]))] (Ja7 N B m L k))
 |_=>none
def Jw1:CT:= .leaf (.exit 2,(EI N B m L k 0 (.exit 2)).getD (Ja7 N B m L k))
def Ze8:UN:=GO [(.slot 4,901,9,1)] (HI (Wp0 N B m L k (0)) (Jw1 N B m L k))
end
set_option maxHeartbeats 2000000 in
theorem Jh8(N:Nat)(B:ByteArray)(m:Nat)(L:Cf)(k:Nat)(VW:rcI N B m L)(UG:B.size=N)(HX:k<=m)(F6:k<=50):GD VU (.loop Kb3) (Ze8 N B m L k):=by
 refine UV [(.slot 4,901,9,1)] (L:=[]) (Ae zQ Aa) Ad U3 U7 (X:=Nat) (Wp0 N B m L k) (λz=>z<=PV N m L k) (λz=>PV N m L k-z) (EI N B m L k) (x0:=0) VY ?_ ?_ ?_;rintro z;kernel_rfl;rintro z y E h;unfold EI at h;split at h;cases h;kernel_rfl;cases h;rintro Q hQ z hx;refine ⟨(z+1),?_⟩;(with_reducible refine DG (t:=let I:=cnT m L k z;let W:=(need [ZB B=ZB B,QB=QB,QU,W8,(↑(GE L (I)):Int)=(↑(GE L (cnT m L k (PV N m L k))):Int),decide (BP m L k<z)=decide (BP m L k<PV N m L k),(z:Int)=(PV N m L k:Int),I=cnT m L k (PV N m L k),∀(i:Nat),i<cnT m L k (PV N m L k)->[HP (L i)]=[HP (L i)]] (leaf (G8.exit 2)));let S:=(ByteArray.extract B ((↑(GE L (I)):Int)+11).toNat ((↑(GE L (I)):Int)+11+(z:Int)).toNat);(branch (decide ((z:Int)<=200)) (need [VQ ((↑(GE L (I)):Int)+12)] (need [VQ ((↑(GE L (I)):Int)+12+(z:Int))] (branch (decide ((↑(GE L (I)):Int)+12+(z:Int)<=(ByteArray.size B:Int))) (branch (!decide (BP m L k<z)) (need [VQ ((↑(GE L (I)):Int)+11)] (need [VQ ((↑(GE L (I)):Int)+11)] (need [VQ ((↑(GE L (I)):Int)+11+(z:Int))] (need [(0:Int)<=(↑(GE L (I)):Int)+11/\(↑(GE L (I)):Int)+11<=(↑(GE L (I)):Int)+11+(z:Int)/\(↑(GE L (I)):Int)+11+(z:Int)<=(ByteArray.size B:Int)] (need [VQ ((↑(GE L (I)):Int)+12)] (need [VQ ((↑(GE L (I)):Int)+12+(z:Int))] (need [(0:Int)<=(↑(GE L (I)):Int)/\(↑(GE L (I)):Int)<=(↑(GE L (I)):Int)+12+(z:Int)/\(↑(GE L (I)):Int)+12+(z:Int)<=(ByteArray.size B:Int)] (need [ByteArray.size S<=200,(0:Int)<=(↑(I):Int)/\(↑(I):Int)<=100000] (branch (ByteArray.toList (ByteArray.extract B (GE L (I)) ((↑(GE L (I)):Int)+12+(z:Int)).toNat)==ByteArray.toList (rcB S (↑(I):Int))) (need [(I+1)*16<=140737488355328,RY 1 (UA 1 [HP S])] (need [VQ ((↑(GE L (I)):Int)+12)] (need [VQ ((↑(GE L (I)):Int)+12+(z:Int))] (need [VQ ((z:Int)+1)] (need [ZB B=ZB B,QB=QB,QU,W8,(↑(GE L (I)):Int)+12+(z:Int)=(↑(GE L (cnT m L k (z+1))):Int),true=decide (BP m L k<z+1),(z:Int)+1=(↑(z+1):Int),I+1=cnT m L k (z+1),∀(i:Nat),i<cnT m L k (z+1)->GL (I) (λq=>[HP (L q)]) (UA 1 [HP S]) i=[HP (L i)]] (leaf G8.normal)))))) (need [VQ ((z:Int)+1)] (need [ZB B=ZB B,QB=QB,QU,W8,(↑(GE L (I)):Int)=(↑(GE L (cnT m L k (z+1))):Int),decide (BP m L k<z)=decide (BP m L k<z+1),(z:Int)+1=(↑(z+1):Int),I=cnT m L k (z+1),∀(i:Nat),i<cnT m L k (z+1)->[HP (L i)]=[HP (L i)]] (leaf G8.normal)))))))))))) W) W))) W)) VZ ?_)
 simp only [Jw1,EI,VR.sat,GW] at hQ;simp only [VR.sat,UF,G6,GQ,UH,VQ,UK,H6,FW,FZ,RP,GR,EI]
 have hN:=VW.1.2.2.1;have hM:=VW.1.2.1;have hG:=rE L m;have hK:=y9 L HX;rw [UG];by_cases hf:BP m L k<z;have hkm:k<m:=by
  unfold BP at hf;unfold PV at hx;by_cases h:k<m;exact h;rw [if_neg h] at hf hx;omega
 have hzE:PV N m L k=z:=by
  unfold BP at hf;unfold PV at hx ⊢;rw [if_pos hkm] at hf hx ⊢;omega
 have hc:cnT m L k z=k+1:=if_pos hf;have g3:=(aL VW.1 hkm).2.2.1;simp only [hzE,hc,decide_eq_true hf] at hQ;simp only [hzE,hc,decide_eq_true hf,Bool.not_true,Bw,false_implies,true_and];exact V1;have hc:cnT m L k z=k:=if_neg hf;have hdf:decide (BP m L k<z)=false:=decide_eq_false hf;have t1:(((GE L k:Nat):Int)+11).toNat=GE L k+11:=VO;have t2:(((GE L k:Nat):Int)+11+(z:Int)).toNat=GE L k+11+z:=VO;have t3:(((GE L k:Nat):Int)+12+(z:Int)).toNat=GE L k+12+z:=VO;by_cases hkm:k<m;obtain ⟨g1,g2,g3,_,_,_⟩:=aL VW.1 hkm;have hhT:BP m L k=(L k).size:=if_pos hkm;have heT:PV N m L k=(L k).size+1:=if_pos hkm;have hz:z<=(L k).size:=by rw [hhT] at hf;omega
 obtain ⟨r1,r2⟩:=Wj1 VW.1 UG hkm (show z<=200 by omega) VO
 have hsz:(B.extract (GE L k+11) (GE L k+11+z)).size=z:=by rw [ByteArray.size_extract];omega
 by_cases hzs:z=(L k).size
 ·have hc1:cnT m L k (z+1)=k+1:=if_pos VO;have hd1:decide (BP m L k<z+1)=true:=decide_eq_true VO;have hst:=pH.2 (r1.2 hzs);have hLk:B.extract (GE L k+11) (GE L k+11+z)=L k:=by rw [hzs];exact r2
  have hq: ∀j,j<k+1->GL k (λz=>[.x (.string (L z))]) (UA 1 [.x (.string (L k))]) j=[.x (.string (L j))]:=λj hj=>Ju6 hj rfl;have e5:((GE L k:Nat):Int)+12+(z:Int)=((GE L (k+1):Nat):Int):=VO;simp only [hc,hdf,t1,t2,t3,hst,hc1,hd1];rw [hLk] at hsz ⊢;clear hQ
  (with_reducible repeat' first|apply Al|intro _)
  all_goals first|exact LN|(first|contradiction|exact hq _ (by assumption)|exact FP (by assumption) (by simp [AV.one,Value.oneCell']))
 ·have hc1:cnT m L k (z+1)=k:=if_neg VO;have hd1:decide (BP m L k<z+1)=false:=decide_eq_false VO;have hst: ¬((B.extract (GE L k) (GE L k+12+z)).toList==(rcB (B.extract (GE L k+11) (GE L k+11+z)) k).toList)=true:=λh=>hzs (r1.1 (pH.1 h));simp only [hc,hdf,t1,t2,t3,hc1,hd1];clear hQ
  (with_reducible repeat' first|apply Al|intro _)
  all_goals first|exact LN|(first|contradiction)
 ·obtain rfl:k=m:=VO;have hhT:BP k L k=1000:=if_neg hkm;have heT:PV N k L k=min 201 (N-GE L k-11):=if_neg hkm;have hc1:cnT k L k (z+1)=k:=if_neg VO;have hd1:decide (BP k L k<z+1)=false:=decide_eq_false VO;have hce:cnT k L k (PV N k L k)=k:=if_neg VO;have hde:decide (BP k L k<PV N k L k)=false:=decide_eq_false VO;have hsz:(B.extract (GE L k+11) (GE L k+11+z)).size<=z:=by rw [ByteArray.size_extract];omega
  have hst:z<=200->GE L k+12+z<=N-> ¬((B.extract (GE L k) (GE L k+12+z)).toList==(rcB (B.extract (GE L k+11) (GE L k+11+z)) k).toList)=true:=λh1 h2 h=>Qr4 VW UG h1 h2 (pH.1 h);simp only [hce,hde] at hQ;simp only [hc,hdf,t1,t2,t3,hc1,hd1,hce,hde]
  (with_reducible repeat' first|apply Al|intro _)
  all_goals first|exact LN|(first|contradiction|(exfalso;exact hst VO VO (by assumption)))
section
variable (N:Nat)(B:ByteArray)(m:Nat)(L:Cf)
theorem Jh9(VW:rcI N B m L)(UG:B.size=N):GD VU (.loop Xy0) (Ze9 N B m L):=by
 refine UV [(.slot 4,901,9,1)] (L:=[BQ 10 (λk=>FX [k<=m,k<=50] (Ze8 N B m L k))]) (Ae zQ Aa) Ad U3 (G0 (λcj hcj=>by
  have e:VX Xy0 0=some (.loop Kb3):=VZ;rw [e] at hcj;cases hcj;exact LE (λk=>DB (ps:=[k<=m,k<=50]) (λh=>Jh8 N B m L k VW UG h.1 h.2)))) (X:=Nat) (Wp1 N B m L) (λk=>k<=m50 m) (λk=>m50 m-k) (EJ N B m L) (x0:=0) VY ?_ ?_ ?_
 rintro k;kernel_rfl;rintro k y E h;unfold EJ at h;split at h;cases h;kernel_rfl;cases h;rintro Q hQ k hx;refine ⟨(k+1),?_⟩;(with_reducible refine DG (t:=branch (decide ((k:Int)<50)) (need [k<=m,k<=50] (need [ZB B=ZB B,QB=QB,QU,W8,(GE L k:Int)=(↑(GE L (cnT m L k 0)):Int),false=decide (BP m L k<0),(0:Int)=((0:Nat):Int),k=cnT m L k 0,∀(i:Nat),i<cnT m L k 0->[HP (L i)]=[HP (L i)]] (branch (!decide (BP m L k<PV N m L k)) (need [ZB B=ZB B,QB=QB,QU,W8,(↑(GE L (cnT m L k (PV N m L k))):Int)=(↑(GE L (m50 m)):Int),cnT m L k (PV N m L k)=m50 m,∀(i:Nat),i<m50 m->[HP (L i)]=[HP (L i)]] (leaf (G8.exit 0))) (need [ZB B=ZB B,QB=QB,QU,W8,(↑(GE L (cnT m L k (PV N m L k))):Int)=(↑(GE L (k+1)):Int),cnT m L k (PV N m L k)=k+1,∀(i:Nat),i<k+1->[HP (L i)]=[HP (L i)]] (leaf G8.normal))))) (need [ZB B=ZB B,QB=QB,QU,W8,(GE L k:Int)=(↑(GE L (m50 m)):Int),k=m50 m,∀(i:Nat),i<m50 m->[HP (L i)]=[HP (L i)]] (leaf (G8.exit 0)))) VZ ?_);simp only [Jw2,EJ,VR.sat,GW] at hQ;simp only [VR.sat,UF,G6,GQ,UH,VQ,UK,H6,FW,FZ,RP,GR,EJ]
 have hm:m50 m<=m/\m50 m<=50/\(m<=50->m50 m=m)/\(50<=m->m50 m=50):=by
  unfold m50;split<;>omega
 have hc0:cnT m L k 0=k:=if_neg (Aq _);simp only [hc0,decide_eq_false (Aq (BP m L k))];refine ⟨λh=>?_,λh=>?_⟩;by_cases hkm:k<m;have hhT:BP m L k=(L k).size:=if_pos hkm;have heT:PV N m L k=(L k).size+1:=if_pos hkm;have hce:cnT m L k (PV N m L k)=k+1:=if_pos VO;have hde:decide (BP m L k<PV N m L k)=true:=decide_eq_true VO;simp only [hce,hde];exact VG;obtain rfl:k=m:=VO;have hhT:BP k L k=1000:=if_neg hkm;have heT:PV N k L k=min 201 (N-GE L k-11):=if_neg hkm;have hce:cnT k L k (PV N k L k)=k:=if_neg VO;have hde:decide (BP k L k<PV N k L k)=false:=decide_eq_false VO;rw [hm.2.2.1 VO] at hQ ⊢;simp only [hce,hde];exact VG;have hk:k=m50 m:=VO;subst hk;exact VG
theorem Wj8(VW:rcI N B m L)(UG:B.size=N):U2 VU 9 [.x (.string B)] (.tup [.lst 1 (m50 m) (λz=>[.x (.string (L z))]),i (GE L (m50 m):Nat)]):=by
 refine G7 (L:=[Ze9 N B m L]) (Ae zQ Aa) Ad U3 Tryz.func9 (UW Tryz.f9) (G0 (lpE (b:= .loop Xy0) VZ<|(Jh9 N B m L VW UG).N)) (t:=need [ZB B=ZB B,QB=QB,QU,W8,(0:Int)=(GE L 0:Int),0=0,∀(i:Nat),i<0->[]=[HP (L i)]] (leaf (RV.tup [RV.lst 1 (m50 m) λq=>[HP (L q)],RV.x (.int .i64 (↑(GE L (m50 m)):Int))]))) VZ ?_
 have hN:=VW.1.2.2.1;have hM:=VW.1.2.1;have hm:m50 m<=m/\m50 m<=50:=by
  unfold m50;split<;>omega
 have hK:=y9 L hm.1;simp only [VR.sat,UF,G6,GQ,UH,UK,VQ,DR]
 (with_reducible repeat' first|apply Al|intro _)
 all_goals first|exact Ak|omega|rfl|contradiction|(rename_i ha;rw [B2.1 ha];exact Ak)|trace_state
end
def sW:Go.Shelf.Ren:=⟨λ| 169=>40|n=>n,λ| 70=>86| 72=>88| 37=>23| 127=>157|n=>n,λn=>n⟩
theorem Zu0:Go.Proofs.Lays.n169 Tryz.prog sW:=by
 constructor<;>first|(intro _;kernel_rfl)|kernel_rfl|(constructor<;>first|(intro _;kernel_rfl)|kernel_rfl|(constructor<;>first|(intro _;kernel_rfl)|kernel_rfl))
def A6:Go.Shelf.Ren:=⟨λ| 156=>63| 165=>91| 166=>34| 169=>40| 240=>61| 241=>128| 276=>89| 277=>169|n=>n,λ| 31=>22| 72=>88| 76=>92| 70=>86| 37=>23| 75=>91| 127=>157| 164=>185| 80=>112|n=>n,λn=>n⟩
theorem dE:Go.Proofs.Lays.n156 Tryz.prog A6:=by
 constructor<;>first|(intro _;kernel_rfl)|kernel_rfl|(constructor<;>first|(intro _;kernel_rfl)|kernel_rfl|(constructor<;>first|(intro _;kernel_rfl)|kernel_rfl))
theorem eO:Builder.Extra Tryz.prog A6 where
 sizeBuilder:=VZ
 liesBuilder:=VZ
 t5:=by first|exact Tryz.underlying5|kernel_rfl
 a5:=by first|exact Tryz.isAgg5|kernel_rfl
 z5:=by first|exact Tryz.sizeOf5|(intros;rfl)
 v5:=by first|exact Tryz.zeroValue5|(intros;rfl)
 infoByte:=VZ
 cellsByte:=VZ
 sizeByte:=VZ
 neB5:=by decide
def stO:List AV->ByteArray
 |[.x (.string s)]=>s
 |_=>ByteArray.empty
section
variable (n:Nat)(f:Ci)
def kV:Prop:= ∀k,k<n->f k=[.x (.string (stO (f k)))]
def jnB(sep:ByteArray):ByteArray:=⟨(Lib.join (((List.range n).map λk=>stO (f k)).map (·.data.toList)) sep.data.toList).toArray⟩
theorem Xp9(sep:ByteArray)(h0:n<=100000)(h1:kV n f)(h2:(jnB n f sep).size<=140737488355328):U2 VU 63 [.lst 1 n f,.x (.string sep)] (.x (.string (jnB n f sep))):=by
 intro e w args hro hgl FU hr;obtain ⟨u,us,rfl,r1,hr⟩:=hr.cons_inv;obtain ⟨u2,us2,rfl,r2,hr⟩:=hr.cons_inv;obtain rfl:=hr.nil_inv;obtain rfl:=r2.x_inv;cases r1 with
 |lstNil=>
  refine Calls.mono (Any.strings_Join_none dE eO none 0 sep w) ?_;rintro en w' ⟨rfl,rfl⟩;exact ⟨_,rfl,Below.refl _ _,.x _⟩
 |lst _ _ _ b o cap g g1 g2 g3 g4 g5 g6 g7 g8 ad had=>
  have hl:((List.range n).map λk=>stO (f k)).length=n:=VY;rcases Nat.eq_zero_or_pos n with rfl|I;refine Calls.mono (Any.strings_Join_none dE eO (some ad) cap sep w) ?_;rintro en w' ⟨rfl,rfl⟩;exact ⟨_,rfl,Below.refl _ _,.x _⟩;rw [had I];have h:=Any.strings_Join dE eO b o cap ((List.range n).map λk=>stO (f k)) sep w (λj x hj=>by
   have hj1:=(RA.1 hj).1;have hj2:j<n:=VO;rw [Bn,List.getElem?_range hj2] at hj;simp only [Bt,HL] at hj;have k1:=g6 j 0 hj2 VO;have k2:=(g8 j 0 (.x (.string (stO (f j)))) hj2 (by rw [h1 j hj2];rfl)).x_inv
   have e0:o+(j*1+0)=o+j:=VO;rw [e0,k2,hj] at k1;exact k1) (g2 I) (by rw [hl];omega) (by rw [hl];exact g4) (by
    have e:(Lib.join (((List.range n).map λk=>stO (f k)).map (·.data.toList)) sep.data.toList).length=(jnB n f sep).size:=rfl;rw [e];exact h2)
  rw [hl] at h;refine Calls.mono h ?_;rintro en w' ⟨rfl,hb⟩;exact ⟨_,rfl,hb,.x _⟩
end
def rN:G4
 |[.lst 1 n f,.x (.string sep)]=>some ([n<=100000,kV n f,(jnB n f sep).size<=140737488355328],.x (.string (jnB n f sep)))
 |_=>none
theorem Qh7:VT VU 63 rN:=by
 refine ⟨(UM Tryz.func63),?_⟩;intro avs ns W h I;unfold rN at h;split at h;cases h;exact Xp9 _ _ _ (I _ VY) (I _ VY) (I _ VY);cases h
def Xx8:D9:=λavs m nx sv=>match avs with
 |[.ptr q 0]=>match DN m q with
  |some (.cells T l)=>match l with
   |[.x (.pointer none),c]=>match Nat.beq T 88 with
    |true=>some (.leaf (.tup [],qT m q (.cells T [.ptr q 0,c]),nx,sv))
    |false=>none
   |[.ptr q' 0,c]=>match Nat.beq T 88&&Nat.beq q q' with
    |true=>some (.leaf (.tup [],m,nx,sv))
    |false=>none
   |_=>none
  |_=>none
 |_=>none
theorem Zy3:GH VU 61 Xx8:=by
 refine ⟨(UM Tryz.func61),?_⟩;intro avs m nx sv tr Z Q hQ cx w0 TT e ds args w hE hB hm hlv P2 hxt hr;unfold Xx8 at Z;split at Z;rename_i q;obtain ⟨v0,l1,rfl,r1,hr⟩:=hr.cons_inv;obtain rfl:=hr.nil_inv;have hv0:v0= .pointer (some ⟨e.blk q,0,none⟩):=by cases r1;rfl
 subst hv0;split at Z;rename_i T l hg;split at Z;rename_i c;split at Z;rename_i hb;obtain rfl:=H5 hb;cases Z;obtain ⟨h1,h2,vs,h3,h4⟩:=hm _ (GA hg);obtain ⟨p,us,rfl,t1,h4⟩:=h4.cons_inv;obtain ⟨v,us,rfl,t2,h4⟩:=h4.cons_inv;obtain rfl:=h4.nil_inv;obtain rfl:=t1.x_inv
 dsimp only at h1 h2 h3
 have hc0:w.cell? ⟨e.blk q,0,none⟩=some (.pointer none):=by simp [World.cell?,h3]
 refine Calls.mono (Any.Builder_copyCheck_fresh {dE with} eO.toX72 (e.blk q) w hc0 (by simp [World.shape?,h3];rfl) (by simp [World.frozen?,h3])) ?_
 rintro en w' ⟨rfl,rfl⟩;have L7: ∀b,b≠e.blk q->(w.setCell ⟨e.blk q,0,none⟩ (.pointer (some ⟨e.blk q,0,none⟩))).heap[b]? =w.heap[b]? :=λb hb=>heap_setCell_other _ _ _ _ hb;have hsz:(w.setCell ⟨e.blk q,0,none⟩ (.pointer (some ⟨e.blk q,0,none⟩))).heap.size=w.heap.size:=VY;have st:=FC hE h2 hsz L7;have rA:Below w0.heap.size w0 (w.setCell ⟨e.blk q,0,none⟩ (.pointer (some ⟨e.blk q,0,none⟩))):=hB.setCell (p:=⟨e.blk q,0,none⟩) (hE.owned _ _ h2).1 _;refine ⟨_,_,_,_,_,e,rfl,hQ,LD hE hsz st,rA,?_,hlv,P2,hxt.step st,Rep.tupL (U8.nil _ _)⟩;intro p hp;rcases RC hp with rfl|⟨hp,hne⟩;refine ⟨h1,h2,[.pointer (some ⟨e.blk q,0,none⟩),v],?_,.cons (.ptr q 0 h1) (.cons (t2.step st) (.nil _ _))⟩;rw [heap_setCell_same w _ 0 _ _ _ h3];rfl;exact PG hE h2 hsz L7 hne (hm p hp);cases Z;rename_i q' c;split at Z;rename_i hb;rw [HF] at hb;obtain rfl:=H5 hb.1;obtain rfl:=H5 hb.2;cases Z;obtain ⟨h1,h2,vs,h3,h4⟩:=hm _ (GA hg);obtain ⟨p,us,rfl,t1,h4⟩:=h4.cons_inv;obtain ⟨v,us,rfl,t2,h4⟩:=h4.cons_inv;obtain rfl:=h4.nil_inv
 dsimp only at h1 h2 h3
 have hp:p= .pointer (some ⟨e.blk q,0,none⟩):=by cases t1;rfl
 subst hp;have hc0:w.cell? ⟨e.blk q,0,none⟩=some (.pointer (some ⟨e.blk q,0,none⟩)):=by simp [World.cell?,h3]
 refine Calls.mono (Any.Builder_copyCheck_used {dE with} eO.toX72 (e.blk q) w hc0) ?_
 rintro en w' ⟨rfl,rfl⟩;exact ⟨_,_,_,_,_,e,rfl,hQ,hE,hB,hm,hlv,P2,hxt,Rep.tupL (U8.nil _ _)⟩;cases Z;cases Z;cases Z;cases Z
set_option maxHeartbeats 1000000 in
theorem Qq4(b g cap:Nat)(p:Value)(cur:Array Value)(l:List UInt8)(w:World)(hbk:w.heap[b]? =some (.cells #[p,.slice (some ⟨g,0,none⟩) l.length cap] 88 (0,0)))(hg:w.heap[g]? =some (.cells cur 5 (0,0)))(h0:l≠[])(hnc:l.length<=cap)(hcm:cap<=maxLen)(hcs:cur.size=cap)
  (F3: ∀j x,l[j]? =some x->w.cell? ⟨g,j,none⟩=some (.int .u8 x.toNat)):
  Calls Tryz.prog 40 #[.pointer (some ⟨b,0,none⟩)] w λe w'=>e= .returned (.string ⟨l.toArray⟩)/\w'=w.drew.freeze ⟨g,0,none⟩ l.length:=by
 have c1:w.drew.cell? ⟨b,1,none⟩=some (.slice (some ⟨g,0,none⟩) l.length cap):=by
  have:w.drew.heap[b]? =some (.cells #[p,.slice (some ⟨g,0,none⟩) l.length cap] 88 (0,0)):=hbk;simp [World.cell?,this]
 have hl0:l.length≠0:=by simpa using h0
 have hSD:(Builtin.unsafeSliceData_ #[23] 157 #[.slice (some ⟨g,0,none⟩) l.length cap]).run Tryz.prog w.drew= .ok (.pointer (some ⟨g,0,none⟩)) w.drew:=
  Lib.run_unsafeSliceData_row _ _ _ _ _ _ VO
 have hUS:(Builtin.unsafeString_ #[157,3] 9 #[.pointer (some ⟨g,0,none⟩),.int .i64 l.length]).run Tryz.prog w.drew= .ok (.string ⟨l.toArray⟩) (w.drew.freeze ⟨g,0,none⟩ l.length):=by
  refine Lib.run_unsafeString_row w.drew 157 3 9 5 Zu0.t127 VZ g cur.size (by have hg':w.drew.heap[g]? =some (.cells cur 5 (0,0)):=hg;simp [World.shape?,hg']) l h0 VO (by unfold maxLen at hcm;omega) ?_
  intro j x hx;have e:(⟨g,0,none⟩:Addr).add j=⟨g,j,none⟩:=by rw [DI,Ap]
  rw [e];exact F3 j x hx
 have GX:Tryz.prog.follows .mixedOrders=true:=U3
 go_enter Tryz.func40,Tryz.ntmps40
 go_wp2
 go_region_o
 all_goals (go_wp2;go_ret;exact ⟨rfl,rfl⟩)
def Xj2:D9:=λavs m nx sv=>match avs with
 |[.ptr q 0]=>match DN m q with
  |some (.cells T l)=>match l with
   |[_,.row r]=>match DN m r with
    |some (.row T1 sz n f)=>match Nat.beq T 88&&Nat.beq T1 5&&Nat.beq sz 1 with
     |true=>some (.needT [R9 n f,0<n] (.leaf (.x (.string (bsO n f)),[],nx,sv)))
     |false=>none
    |_=>none
   |_=>none
  |_=>none
 |_=>none
theorem bY(w:World)(g n x:Nat)(h:x≠g):(w.freeze ⟨g,0,none⟩ n).heap[x]? =w.heap[x]? :=by
 unfold World.freeze;split;rfl;show (w.heap.modify g _)[x]? =_;rw [Array.getElem?_modify];rw [if_neg (λe=>h e.symm)]
theorem mU(w:World)(g n:Nat):(w.freeze ⟨g,0,none⟩ n).heap.size=w.heap.size:=by
 unfold World.freeze;split;rfl;show (w.heap.modify g _).size=_;simp
theorem Qx5(w:World)(g n:Nat):(w.freeze ⟨g,0,none⟩ n).os=w.os/\(w.freeze ⟨g,0,none⟩ n).tape=w.tape/\(w.freeze ⟨g,0,none⟩ n).output=w.output:=by
 unfold World.freeze;split<;>exact ⟨rfl,rfl,rfl⟩
theorem yM:GH VU 40 Xj2:=by
 refine ⟨(UM Tryz.func40),?_⟩;intro avs m nx sv tr Z Q hQ cx w0 TT e ds args w hE hB hm hlv P2 hxt hr;unfold Xj2 at Z;split at Z;rename_i q;obtain ⟨v0,l1,rfl,r1,hr⟩:=hr.cons_inv;obtain rfl:=hr.nil_inv;have hv0:v0= .pointer (some ⟨e.blk q,0,none⟩):=by cases r1;rfl
 subst hv0;split at Z;rename_i T l hg;split at Z;rename_i a r;split at Z;rename_i T1 sz n f hg2;split at Z;rename_i hb;rw [HF,HF] at hb;obtain ⟨⟨hb1,hb2⟩,hb3⟩:=hb;obtain rfl:=H5 hb1;obtain rfl:=H5 hb2;obtain rfl:=H5 hb3;cases Z;obtain ⟨I,hq⟩:=VR.sat_needT hQ;have I:=GI I;have n1:R9 n f:=I _ VY;have n2:0<n:=I _ VY;obtain ⟨h1,h2,vs,h3,h4⟩:=hm _ (GA hg);obtain ⟨p,us,rfl,t1,h4⟩:=h4.cons_inv;obtain ⟨v,us,rfl,t2,h4⟩:=h4.cons_inv;obtain rfl:=h4.nil_inv
 dsimp only at h1 h2 h3
 obtain ⟨k1,k2,k3,xs,k4,k5⟩:=hm _ (GA hg2)
 dsimp only at k1 k2 k3 k4 k5
 have hv:e.val r=v:=by
  cases t2 with
  |row _ a n c _ hv=>exact hv
 rw [hv] at k2 k4;rcases k4.2 with ⟨_,hz⟩|⟨g,cap,cur,rfl,hbg,hgg,hnc,hcm,hcs,kX⟩;omega;have HD:e.own g=some r:=k2 g rfl;have D5:((List.range n).map λj=>UInt8.ofNat (byO (f j))).length=n:=VY;have h0:((List.range n).map λj=>UInt8.ofNat (byO (f j)))≠[]:=by
  intro h;rw [h] at D5;simp at D5;omega
 have F3: ∀j x,((List.range n).map λj=>UInt8.ofNat (byO (f j)))[j]? =some x->w.cell? ⟨g,j,none⟩=some (.int .u8 x.toNat):=by
  intro j x hj;have hj1:j<n:=by have:=(RA.1 hj).1;omega
  rw [Bn,List.getElem?_range hj1] at hj;simp only [Bt,HL] at hj;have hxl:xs.length=n:=by have:=k4.1;omega
  have hc1:=k4.cells (g:=g) rfl j xs[j] (D8 VO);have e1:(⟨g,0,none⟩:Addr).add j=⟨g,j,none⟩:=by rw [DI,Ap]
  rw [e1] at hc1;have hc2:=(k5 j 0 (.x (.int .u8 (byO (f j):Int))) xs[j] hj1 (by rw [(n1 j hj1).2];rfl) (by rw [show j*1+0=j by omega];exact D8 VO)).x_inv
  rw [hc1,hc2,←hj,UInt8.toNat_ofNat_of_lt' (n1 j hj1).1]
 have FO:=Qq4 (e.blk q) g cap p cur ((List.range n).map λj=>UInt8.ofNat (byO (f j))) w (by rw [D5];exact h3) hgg h0 (by rw [D5];exact hnc) hcm (by simpa using hcs) F3
 refine FO.mono ?_;rintro en w' ⟨rfl,rfl⟩;rw [D5];have L7: ∀x,x≠g->(w.drew.freeze ⟨g,0,none⟩ n).heap[x]? =w.heap[x]? :=λx hx=>bY w.drew g n x hx;have hsz:(w.drew.freeze ⟨g,0,none⟩ n).heap.size=w.heap.size:=mU w.drew g n;have hos:=Qx5 w.drew g n;have st:=FC hE HD hsz L7;refine ⟨_,_,_,_,_,e,rfl,hq,LD hE hsz st,⟨hos.1.trans hB.os,hos.2.1.trans hB.tape,hos.2.2.trans hB.output,by rw [hsz];exact hB.size,λx hx=>?_⟩,λp hp=>(by cases hp),hlv,P2,hxt.step st,.x _⟩
 rw [L7 x (by have:=(hE.owned _ _ HD).1;omega)]
 exact hB.block x hx;cases Z;cases Z;cases Z;cases Z;cases Z
def UC:List ByteArray:=[⟨#[116,104,114,101,97,100,32,48,32,49,32,52,48,32,52,48]⟩,⟨#[116,104,114,101,97,100,32,50,32,51,32,52,56,32,53,48]⟩,⟨#[105,115,115,117,101,32,48,32,52,32,57,48,32,48]⟩,⟨#[98,97,116,104,32,49,48,48,32,51,48,48]⟩,⟨#[115,101,101,32,48,32,50,48,48]⟩,⟨#[115,101,101,32,49,32,50,48,51]⟩,⟨#[98,97,116,104,32,49,48,48,32,51,48,48]⟩,⟨#[115,101,101,32,49,32,50,53,50]⟩,⟨#[115,101,101,32,50,32,50,53,48]⟩,⟨#[115,101,108,108,32,48,32,49,32,54,32,49,32,51]⟩,⟨#[115,101,108,108,32,49,32,50,32,52,32,50,32,50]⟩]
def GF:List ByteArray:=[⟨#[116,104,114,101,97,100,32,48,32,50,32,52,48,32,52,48]⟩,⟨#[105,115,115,117,101,32,48,32,52,32,56,48,32,48]⟩,⟨#[115,101,101,32,48,32,49,48,48]⟩,⟨#[115,116,114,105,107,101,32,49]⟩,⟨#[118,111,105,100,32,48]⟩]
def UR(l:List ByteArray)(k:Nat):ByteArray:=l.getD k ByteArray.empty
def wk1:HS:=thS hs0 0 1 40 40
def wk2:HS:=thS wk1 2 3 48 50
def wk3:HS:=isS wk2 0 4 90 0
def wk4:HS:=btS wk3 100 300
def wk5:HS:=seS wk4 0 200
def wk6:HS:=seS wk5 1 203
def wk7:HS:=btS wk6 100 300
def wk8:HS:=seS wk7 1 252
def wk9:HS:=seS wk8 2 250
def Qq1:HS:=slS wk9 0 1 6 1 3
def U1:HS:=slS Qq1 1 2 4 2 2
theorem We2:lnE (UR UC 0) hs0=0:=by decide+kernel
theorem Za0:FD (lnW (UR UC 0)) hs0=wk1:=VZ
theorem We1:lnE (UR UC 1) wk1=0:=by decide+kernel
theorem Xz9:FD (lnW (UR UC 1)) wk1=wk2:=VZ
theorem We0:lnE (UR UC 2) wk2=0:=by decide+kernel
theorem Xz8:FD (lnW (UR UC 2)) wk2=wk3:=VZ
theorem Wd9:lnE (UR UC 3) wk3=0:=by decide+kernel
theorem Xz7:FD (lnW (UR UC 3)) wk3=wk4:=VZ
theorem Wd8:lnE (UR UC 4) wk4=0:=by decide+kernel
theorem Xz6:FD (lnW (UR UC 4)) wk4=wk5:=VZ
theorem Wd7:lnE (UR UC 5) wk5=0:=by decide+kernel
theorem Xz5:FD (lnW (UR UC 5)) wk5=wk6:=VZ
theorem Wd6:lnE (UR UC 6) wk6=0:=by decide+kernel
theorem Xz4:FD (lnW (UR UC 6)) wk6=wk7:=VZ
theorem Wd5:lnE (UR UC 7) wk7=0:=by decide+kernel
theorem Xz3:FD (lnW (UR UC 7)) wk7=wk8:=VZ
theorem Wd4:lnE (UR UC 8) wk8=0:=by decide+kernel
theorem Xz2:FD (lnW (UR UC 8)) wk8=wk9:=VZ
theorem Wd3:lnE (UR UC 9) wk9=0:=by decide+kernel
theorem Xz1:FD (lnW (UR UC 9)) wk9=Qq1:=VZ
theorem pA:lnE (UR UC 10) Qq1=0:=by decide+kernel
theorem Wc5:FD (lnW (UR UC 10)) Qq1=U1:=VZ
theorem Za2:boE U1.nb U1.ql U1.qh U1.qm U1.qr U1.qv=0:=by decide+kernel
theorem Za1:boN U1.nb U1.ql U1.qh U1.qm U1.qr U1.qv=3:=by decide+kernel
theorem Wc8:boL U1.nb U1.ql U1.qh U1.qm U1.qr U1.qv 0=0:=by decide+kernel
theorem Wd1:boH U1.nb U1.ql U1.qh U1.qm U1.qr U1.qv 0=0:=by decide+kernel
theorem Wc7:boL U1.nb U1.ql U1.qh U1.qm U1.qr U1.qv 1=1:=by decide+kernel
theorem Wd0:boH U1.nb U1.ql U1.qh U1.qm U1.qr U1.qv 1=5:=by decide+kernel
theorem Wc6:boL U1.nb U1.ql U1.qh U1.qm U1.qr U1.qv 2= -3:=by decide+kernel
theorem Wc9:boH U1.nb U1.ql U1.qh U1.qm U1.qr U1.qv 2=5:=by decide+kernel
theorem Wc4:stP U1 0 0=true:=by decide+kernel
theorem Wd2:jL U1.ns U1.sa U1.sb U1.sc U1.sl U1.sh=true:=by decide+kernel
theorem We4:caB U1.ns U1.sa U1.sb U1.sc U1.sl U1.sh 1 0=true:=by decide+kernel
theorem We3:caB U1.ns U1.sa U1.sb U1.sc U1.sl U1.sh 1 1=true:=by decide+kernel
theorem Zm7:caB U1.ns U1.sa U1.sb U1.sc U1.sl U1.sh 1 2=false:=by decide+kernel
theorem Zm6:caB U1.ns U1.sa U1.sb U1.sc U1.sl U1.sh 1 3=false:=by decide+kernel
theorem Wc3:suB U1.ns U1.sa U1.sb U1.sc U1.sl U1.sh 1 0=true:=by decide+kernel
theorem Zl0:suB U1.ns U1.sa U1.sb U1.sc U1.sl U1.sh 1 1=false:=by decide+kernel
theorem Zk9:suB U1.ns U1.sa U1.sb U1.sc U1.sl U1.sh 1 2=false:=by decide+kernel
theorem Zk8:suB U1.ns U1.sa U1.sb U1.sc U1.sl U1.sh 1 3=false:=by decide+kernel
theorem Jh6:hdN 4 100 20 30 U1.nr U1.ra U1.rb U1.ru U1.rv 3 tbP tbQ U1.pl U1.ph 1 3 0=5:=by decide+kernel
theorem Zm0:onL (wkA 4 100 20 30 U1.nr U1.ra U1.rb U1.ru U1.rv 3 tbP tbQ U1.pl U1.ph 1 3) 0 0=0:=by decide+kernel
theorem Zm5:onH (wkA 4 100 20 30 U1.nr U1.ra U1.rb U1.ru U1.rv 3 tbP tbQ U1.pl U1.ph 1 3) 0 0=0:=by decide+kernel
theorem Zl9:onL (wkA 4 100 20 30 U1.nr U1.ra U1.rb U1.ru U1.rv 3 tbP tbQ U1.pl U1.ph 1 3) 1 0=200:=by decide+kernel
theorem Zm4:onH (wkA 4 100 20 30 U1.nr U1.ra U1.rb U1.ru U1.rv 3 tbP tbQ U1.pl U1.ph 1 3) 1 0=300:=by decide+kernel
theorem Zl8:onL (wkA 4 100 20 30 U1.nr U1.ra U1.rb U1.ru U1.rv 3 tbP tbQ U1.pl U1.ph 1 3) 2 0=410:=by decide+kernel
theorem Zm3:onH (wkA 4 100 20 30 U1.nr U1.ra U1.rb U1.ru U1.rv 3 tbP tbQ U1.pl U1.ph 1 3) 2 0=510:=by decide+kernel
theorem Zl7:onL (wkA 4 100 20 30 U1.nr U1.ra U1.rb U1.ru U1.rv 3 tbP tbQ U1.pl U1.ph 1 3) 3 0=700:=by decide+kernel
theorem Zm2:onH (wkA 4 100 20 30 U1.nr U1.ra U1.rb U1.ru U1.rv 3 tbP tbQ U1.pl U1.ph 1 3) 3 0=800:=by decide+kernel
theorem Zl6:onL (wkA 4 100 20 30 U1.nr U1.ra U1.rb U1.ru U1.rv 3 tbP tbQ U1.pl U1.ph 1 3) 4 0=1000:=by decide+kernel
theorem Zm1:onH (wkA 4 100 20 30 U1.nr U1.ra U1.rb U1.ru U1.rv 3 tbP tbQ U1.pl U1.ph 1 3) 4 0=1000:=by decide+kernel
theorem Zl5:(hoS U1.ns U1.sa U1.sb U1.sc U1.sl U1.sh 0 100).1=4:=by decide+kernel
theorem Zl4:(hoS U1.ns U1.sa U1.sb U1.sc U1.sl U1.sh 1 100).1=2:=by decide+kernel
theorem Zl3:(hoS U1.ns U1.sa U1.sb U1.sc U1.sl U1.sh 2 100).1=4:=by decide+kernel
theorem Zl2:(hoS U1.ns U1.sa U1.sb U1.sc U1.sl U1.sh 3 100).1=0:=by decide+kernel
def PY{α:Type}:VR α->VR α
 | .fail=> .fail
 | .leaf a=> .leaf a
 | .branch b t f=>match b with
  |true=>PY t
  |false=>PY f
 | .need ps t=> .need ps (PY t)
 | .may p t f=> .may p (PY t) (PY f)
def Xu0(sp:UN):UN:=λs=>match sp s with
 |some t=>some (PY t)
 |none=>none
section
variable (n:Nat)(f:Ci)
def byB:Bool:=DH (λj=>match f j with
 |[.x (.int .u8 c)]=>decide (0<=c)&&decide (c<256)
 |_=>false) n
def Jj4:Bool:=DH (λj=>match f j with
 |[.x (.string _)]=>true
 |_=>false) n
end
theorem HB{α:Type}{Q:α->Prop}: ∀{t:VR α},(PY t).sat Q->t.sat Q
 | .fail,h=>h
 | .leaf _,h=>h
 | .branch true _ _,h=>⟨λ_=>HB h,λe=>Bool.noConfusion e⟩
 | .branch false _ _,h=>⟨λe=>Bool.noConfusion e,λ_=>HB h⟩
 | .need _ _,h=>⟨h.1,HB h.2⟩
 | .may _ _ _,h=>⟨λp=>HB (h.1 p),HB h.2⟩
theorem Zx7{P:Program}{ro:Option Nat}{cx:Cx}{c:Code}{sp:UN}(h:HQ P ro cx c sp):HQ P ro cx c (Xu0 sp):=by
 intro n s t Z Q hQ a w r;unfold Xu0 at Z;split at Z;rename_i t0 h0;cases Z;exact h n s t0 h0 Q (HB hQ) a w r;cases Z
section
variable {n:Nat}{f:Ci}
theorem Qa8(h:byB n f=true):R9 n f:=by
 intro j hj;have h1:=H3.1 h j hj;split at h1;rename_i c hc;rw [HF,vK,vK] at h1;rw [hc];have e:byO [.x (.int .u8 c)]=c.toNat:=rfl;rw [e];refine ⟨VO,?_⟩;rw [show ((c.toNat:Nat):Int)=c by omega]
 cases h1
theorem eY(h:Jj4 n f=true):kV n f:=by
 intro j hj;have h1:=H3.1 h j hj;split at h1;rename_i s hc;rw [hc];rfl;cases h1
end
noncomputable def Xj4:D9:=AU Tryz.prog [] {R:=[],H:=[(61,Xx8)] } [] Tryz.f34 (UB Tryz.f34)
theorem Xv6:GH VU 34 Xj4:=
 RT (G:=[]) (X:={R:=[],H:=[(61,Xx8)] }) (L:=[]) Aa (Ai Ab (Ag Zy3 Ac)) U3 (UM Tryz.func34) Tryz.func34 (UW Tryz.f34) U7
noncomputable def rR:D9:=AU Tryz.prog [(62,rO),(63,rN)] W5 [(Xu0 (λs=>some (yL Tryz.prog [(62,rO),(63,rN)] W5 [] (UD (VX (UB Tryz.f35) 0)) 10 s)))] Tryz.f35 (UB Tryz.f35)
theorem mH:GH VU 35 rR:=
 RT (G:=[(62,rO),(63,rN)]) (X:=W5) (L:=[(Xu0 (λs=>some (yL Tryz.prog [(62,rO),(63,rN)] W5 [] (UD (VX (UB Tryz.f35) 0)) 10 s)))]) (Ae bL (Ae Qh7 Aa)) Ad U3 (UM Tryz.func35) Tryz.func35 (UW Tryz.f35) (G0 (lpE (b:= .loop (UD (VX (UB Tryz.f35) 0))) VZ<|λro cx=>Zx7 (vL (Ae bL (Ae Qh7 Aa)) (Ad cx) U3 (λj cj hj sp hsp=>by simp at hsp) 10)))
noncomputable def Xj3:D9:=AU Tryz.prog [] {R:=[],H:=[(35,rR),(34,Xj4)] } [] Tryz.f33 (UB Tryz.f33)
theorem zA:GH VU 33 Xj3:=
 RT (G:=[]) (X:={R:=[],H:=[(35,rR),(34,Xj4)] }) (L:=[]) Aa (Ai Ab (Ag mH (Ag Xv6 Ac))) U3 (UM Tryz.func33) Tryz.func33 (UW Tryz.f33) U7
def CE:G4
 |[.x (.int .i64 a),.x (.int .i64 b)]=>some ([0<=a/\a<=1000\/ -1000<=a/\a<=1000,-1000<=b/\b<=1000,((⟨(Lib.itoa a).toArray⟩:ByteArray)++⟨#[46,46]⟩).size+(⟨(Lib.itoa b).toArray⟩:ByteArray).size<=100],.x (.string ((⟨(Lib.itoa a).toArray⟩++⟨#[46,46]⟩)++⟨(Lib.itoa b).toArray⟩)))
 |_=>none
theorem Wt9(a b:Int)(VW:0<=a/\a<=1000\/ -1000<=a/\a<=1000)(UG: -1000<=b/\b<=1000)(HX:((⟨(Lib.itoa a).toArray⟩:ByteArray)++⟨#[46,46]⟩).size+(⟨(Lib.itoa b).toArray⟩:ByteArray).size<=100):U2 VU 38 [i a,i b] (.x (.string ((⟨(Lib.itoa a).toArray⟩++⟨#[46,46]⟩)++⟨(Lib.itoa b).toArray⟩))):=by
 refine U6 (L:=[]) (Ae bL Aa) U3 Tryz.func38 (UW Tryz.f38) U7 (t:=need [VQ a] (need [(↑(ByteArray.size {data:=List.toArray (Lib.itoa a) }+ByteArray.size {data:=#[46,46] }):Int)<=9223372036854775807] (need [VQ b] (need [(↑(ByteArray.size ({data:=List.toArray (Lib.itoa a) }++{data:=#[46,46] })+ByteArray.size {data:=List.toArray (Lib.itoa b) }):Int)<=9223372036854775807] (leaf (RV.x (.string ({data:=List.toArray (Lib.itoa a) }++{data:=#[46,46] }++{data:=List.toArray (Lib.itoa b) })))))))) VZ ?_;rw [Av] at HX;simp only [VR.sat,UF,G6,UH,UK,VQ,Av];all_goals exact V8
theorem z9:VT VU 38 CE:=by
 refine ⟨(UM Tryz.func38),?_⟩;intro avs ns W h I;unfold CE at h;split at h;cases h;exact Wt9 _ _ (I _ VY) (I _ VY) (I _ VY);cases h
def Zq7:ByteArray:=⟨#[114,101,97,100,105,110,103,115,32,50,32,98,97,116,104,115,32,50,32,99,101,114,116,105,102,105,99,97,116,101,115,32,49,32,115,97,108,101,115,32,50,10,109,97,114,107,115,32,48,46,46,48,32,50,48,48,46,46,51,48,48,32,52,49,48,46,46,53,49,48,32,55,48,48,46,46,56,48,48,32,49,48,48,48,46,46,49,48,48,48,10,111,102,102,115,101,116,115,32,48,46,46,48,32,49,46,46,53,32,45,51,46,46,53,10,115,116,97,110,100,32,48,10,104,111,108,100,32,52,32,50,32,52,32,48,10]⟩
def Qd0:G4:=λl=>some ([l=[lns 11 (UR UC)]],i 0)
def Qn8:DP:=λl=>some (.need [l=[lns 11 (UR UC)]] (.leaf (.tup [.ro (hsL U1),.lst 1 11 (exG (UR UC))])))
def Xh4:G4:=λl=>some ([l=[.agg [i 4,i 100,i 20,i 30,hsR U1,.lst 2 3 (λk=>[i (tbP k),i (tbQ k)]),i U1.pl,i U1.ph,i 1,i 3],i 0]],.tup [.lst 2 5 (λk=>[i (UE [0,200,410,700,1000] k),i (UE [0,300,510,800,1000] k)]),i 0])
def Qc8:G4:=λl=>some ([l=[.agg [ofs,i 1,hsB U1]]],.tup [.lst 2 3 (λk=>[i (UE [0,1,-3] k),i (UE [0,5,5] k)]),i 0])
def Qc7:G4:=λl=>some ([l=[.agg (hsL U1),.agg [i (U1.ca 0),i (U1.cb 0),i (U1.cc 0),i (U1.cd 0),bl (U1.cv 0)],i (U1.cd 0)]],bl true)
def Xh3:DP:=λl=>match l with
 |[b,.x (.int .i64 ow),d]=>some (.need [b= .agg [i 4,i 10,hsS U1],d=i 100,0<=ow/\ow<=3] (.leaf (.tup [.agg [i (UE [4,2,4,0] ow.toNat),i (hoS U1.ns U1.sa U1.sb U1.sc U1.sl U1.sh ow 100).2],i 0])))
 |_=>none
theorem Jh5:sK (UR UC) 0=hs0:=rfl
theorem Jh4:sK (UR UC) 1=wk1:=by
 show lnS (UR UC 0) (sK (UR UC) 0)=_;rw [Jh5];unfold lnS;rw [if_pos We2];exact Za0
theorem Jh3:sK (UR UC) 2=wk2:=by
 show lnS (UR UC 1) (sK (UR UC) 1)=_;rw [Jh4];unfold lnS;rw [if_pos We1];exact Xz9
theorem Jh2:sK (UR UC) 3=wk3:=by
 show lnS (UR UC 2) (sK (UR UC) 2)=_;rw [Jh3];unfold lnS;rw [if_pos We0];exact Xz8
theorem Jh1:sK (UR UC) 4=wk4:=by
 show lnS (UR UC 3) (sK (UR UC) 3)=_;rw [Jh2];unfold lnS;rw [if_pos Wd9];exact Xz7
theorem Jh0:sK (UR UC) 5=wk5:=by
 show lnS (UR UC 4) (sK (UR UC) 4)=_;rw [Jh1];unfold lnS;rw [if_pos Wd8];exact Xz6
theorem Jg9:sK (UR UC) 6=wk6:=by
 show lnS (UR UC 5) (sK (UR UC) 5)=_;rw [Jh0];unfold lnS;rw [if_pos Wd7];exact Xz5
theorem Jg8:sK (UR UC) 7=wk7:=by
 show lnS (UR UC 6) (sK (UR UC) 6)=_;rw [Jg9];unfold lnS;rw [if_pos Wd6];exact Xz4
theorem Jg7:sK (UR UC) 8=wk8:=by
 show lnS (UR UC 7) (sK (UR UC) 7)=_;rw [Jg8];unfold lnS;rw [if_pos Wd5];exact Xz3
theorem Jg6:sK (UR UC) 9=wk9:=by
 show lnS (UR UC 8) (sK (UR UC) 8)=_;rw [Jg7];unfold lnS;rw [if_pos Wd4];exact Xz2
theorem Zl1:sK (UR UC) 10=Qq1:=by
 show lnS (UR UC 9) (sK (UR UC) 9)=_;rw [Jg6];unfold lnS;rw [if_pos Wd3];exact Xz1
theorem CJ:sK (UR UC) 11=U1:=by
 show lnS (UR UC 10) (sK (UR UC) 10)=_;rw [Zl1];unfold lnS;rw [if_pos pA];exact Wc5
theorem eT:ckE 11 (UR UC)=0:=by decide+kernel
theorem v9:VT VU 20 Qd0:=by
 refine ⟨(UM Tryz.func20),?_⟩;intro avs ns W h I;cases h;have e:avs=[lns 11 (UR UC)]:=I _ GN;subst e;have h1:=SU 11 (UR UC) VO;rw [eT] at h1;exact h1
theorem xW:Sx.Enters Tryz.prog 25/\ ∀avs t,Qn8 avs=some t->US VU 25 avs t:=by
 refine ⟨(UM Tryz.func25),?_⟩;intro avs t h;cases h;intro Q hQ;have e:avs=[lns 11 (UR UC)]:=hQ.1;subst e;have hk:=nF eT;have h1:=mC 11 (UR UC) hk.1 (λk h=>by have:=hk.2 k h;omega) Q
 rw [CJ] at h1;exact h1 hQ.2
theorem v6:PE VU 36 Xh4:=by
 refine ⟨(UM Tryz.func36),?_⟩;intro avs ns W h I;cases h;have e:avs=[.agg [i 4,i 100,i 20,i 30,hsR U1,.lst 2 3 (λk=>[i (tbP k),i (tbQ k)]),i U1.pl,i U1.ph,i 1,i 3],i 0]:=I _ GN;subst e;intro e w args q1 q2 q3 q4;refine (gG 4 100 20 30 U1.nr U1.ra U1.rb U1.ru U1.rv 3 tbP tbQ U1.pl U1.ph 1 3 0 e w args q1 q2 q3 q4).mono ?_;rintro en w' ⟨v,rfl,g1,g2⟩;refine ⟨v,rfl,g1,L9 ?_ g2⟩;rw [show hdE 4 100 20 30 U1.nr U1.ra U1.rb U1.ru U1.rv 3 tbP tbQ U1.pl U1.ph 1 3 0=0 by decide+kernel]
 refine ⟨⟨rfl,Jh6,λk hk=>?_⟩,⟨rfl,rfl⟩,Ak⟩;rcases (show k=0\/k=1\/k=2\/k=3\/k=4 by omega) with rfl|rfl|rfl|rfl|rfl
 show [i _,i _]=_;rw [Zm0,Zm5];rfl;show [i _,i _]=_;rw [Zl9,Zm4];rfl;show [i _,i _]=_;rw [Zl8,Zm3];rfl;show [i _,i _]=_;rw [Zl7,Zm2];rfl;show [i _,i _]=_;rw [Zl6,Zm1];rfl
theorem eS:rT U1:=by
 have h:=A2 (UR UC) 11;rw [CJ] at h;exact h
theorem yW:VT VU 27 Qc8:=by
 refine ⟨(UM Tryz.func27),?_⟩;intro avs ns W h I;cases h;have e:avs=[.agg [ofs,i 1,hsB U1]]:=I _ GN;subst e;intro e w args q1 q2 q3 q4;refine (yE U1.nb U1.ql U1.qh U1.qm U1.qr U1.qv eS.bV e w args q1 q2 q3 q4).mono ?_;rintro en w' ⟨v,rfl,g1,g2⟩;refine ⟨v,rfl,g1,L9 ?_ g2⟩;rw [Za2];refine ⟨⟨rfl,Za1,λk hk=>?_⟩,⟨rfl,rfl⟩,Ak⟩;rcases (show k=0\/k=1\/k=2 by omega) with rfl|rfl|rfl
 show [i _,i _]=_;rw [Wc8,Wd1];rfl;show [i _,i _]=_;rw [Wc7,Wd0];rfl;show [i _,i _]=_;rw [Wc6,Wc9];rfl
theorem yN:VT VU 30 Qc7:=by
 refine ⟨(UM Tryz.func30),?_⟩;intro avs ns W h I;cases h;have e:avs=[.agg (hsL U1),.agg [i (U1.ca 0),i (U1.cb 0),i (U1.cc 0),i (U1.cd 0),bl (U1.cv 0)],i (U1.cd 0)]:=I _ GN;subst e;have h1:=M1 U1 (U1.ca 0) (U1.cb 0) (U1.cc 0) (U1.cd 0) (U1.cv 0) (U1.cd 0);have h2:stB U1 (U1.ca 0) (U1.cb 0) (U1.cc 0) (U1.cd 0) (U1.cv 0) (U1.cd 0)=true:=by
  have h3:U1.cd 0=0:=VZ;have h4:=Wc4;unfold stP at h4;rw [h3] at h4 ⊢;exact h4
 rw [h2] at h1;exact h1
theorem fZ:Sx.Enters Tryz.prog 39/\ ∀avs t,Xh3 avs=some t->US VU 39 avs t:=by
 refine ⟨(UM Tryz.func39),?_⟩;intro avs t h;unfold Xh3 at h;split at h;rename_i b ow d;cases h;intro Q hQ;obtain ⟨⟨e1,e2,e3,_⟩,hq⟩:=hQ;subst e1 e2;refine Qs5 U1.ns U1.sa U1.sb U1.sc U1.sl U1.sh ow 100 eS.sV Q ?_;have hb:(bt 0 ow 3&&bt 0 100 100)=true:=by
  rw [HF,Bo.bt_iff,Bo.bt_iff];omega
 refine ⟨λ_=>⟨λh=>?_,λ_=>?_⟩,λh=>Bool.noConfusion (hb.symm.trans h)⟩;rw [Wd2] at h;exact Bool.noConfusion h;have ho:(hoS U1.ns U1.sa U1.sb U1.sc U1.sl U1.sh ow 100).1=UE [4,2,4,0] ow.toNat:=by
  rcases (show ow=0\/ow=1\/ow=2\/ow=3 by omega) with rfl|rfl|rfl|rfl
  exact Zl5;exact Zl4;exact Zl3;exact Zl2
 show Q _;rw [ho];exact hq;cases h
def wvS(s:ByteArray):AV:= .x (.iface 9 (.string s))
def wvI(n:Int):AV:= .x (.iface 3 (.int .i64 n))
def H9(l:List AV)(k:Nat):List AV:=[l.getD k .top]
def wl0:List AV:=[wvS ⟨#[109,97,114,107,115]⟩,wvS ⟨#[48,46,46,48]⟩,wvS ⟨#[50,48,48,46,46,51,48,48]⟩,wvS ⟨#[52,49,48,46,46,53,49,48]⟩,wvS ⟨#[55,48,48,46,46,56,48,48]⟩,wvS ⟨#[49,48,48,48,46,46,49,48,48,48]⟩]
def wl1:List AV:=[wvS ⟨#[111,102,102,115,101,116,115]⟩,wvS ⟨#[48,46,46,48]⟩,wvS ⟨#[49,46,46,53]⟩,wvS ⟨#[45,51,46,46,53]⟩]
def wl2:List AV:=[wvS ⟨#[115,116,97,110,100]⟩,wvI 0]
def wl3:List AV:=[wvS ⟨#[104,111,108,100]⟩,wvI 4,wvI 2,wvI 4,wvI 0]
def rp0:ByteArray:=⟨#[114,101,97,100,105,110,103,115,32,50,32,98,97,116,104,115,32,50,32,99,101,114,116,105,102,105,99,97,116,101,115,32,49,32,115,97,108,101,115,32,50,10]⟩
def rp1:ByteArray:=⟨#[114,101,97,100,105,110,103,115,32,50,32,98,97,116,104,115,32,50,32,99,101,114,116,105,102,105,99,97,116,101,115,32,49,32,115,97,108,101,115,32,50,10,109,97,114,107,115,32,48,46,46,48,32,50,48,48,46,46,51,48,48,32,52,49,48,46,46,53,49,48,32,55,48,48,46,46,56,48,48,32,49,48,48,48,46,46,49,48,48,48,10]⟩
def rp2:ByteArray:=⟨#[114,101,97,100,105,110,103,115,32,50,32,98,97,116,104,115,32,50,32,99,101,114,116,105,102,105,99,97,116,101,115,32,49,32,115,97,108,101,115,32,50,10,109,97,114,107,115,32,48,46,46,48,32,50,48,48,46,46,51,48,48,32,52,49,48,46,46,53,49,48,32,55,48,48,46,46,56,48,48,32,49,48,48,48,46,46,49,48,48,48,10,111,102,102,115,101,116,115,32,48,46,46,48,32,49,46,46,53,32,45,51,46,46,53,10]⟩
def rp3:ByteArray:=⟨#[114,101,97,100,105,110,103,115,32,50,32,98,97,116,104,115,32,50,32,99,101,114,116,105,102,105,99,97,116,101,115,32,49,32,115,97,108,101,115,32,50,10,109,97,114,107,115,32,48,46,46,48,32,50,48,48,46,46,51,48,48,32,52,49,48,46,46,53,49,48,32,55,48,48,46,46,56,48,48,32,49,48,48,48,46,46,49,48,48,48,10,111,102,102,115,101,116,115,32,48,46,46,48,32,49,46,46,53,32,45,51,46,46,53,10,115,116,97,110,100,32,48,10]⟩
def rp4:ByteArray:=⟨#[114,101,97,100,105,110,103,115,32,50,32,98,97,116,104,115,32,50,32,99,101,114,116,105,102,105,99,97,116,101,115,32,49,32,115,97,108,101,115,32,50,10,109,97,114,107,115,32,48,46,46,48,32,50,48,48,46,46,51,48,48,32,52,49,48,46,46,53,49,48,32,55,48,48,46,46,56,48,48,32,49,48,48,48,46,46,49,48,48,48,10,111,102,102,115,101,116,115,32,48,46,46,48,32,49,46,46,53,32,45,51,46,46,53,10,115,116,97,110,100,32,48,10,104,111,108,100,32,52,32,50,32,52,32,48,10]⟩
def eqBy(n:Nat)(F:Ci)(B:ByteArray):Bool:=DH (λj=>match F j with
 |[.x (.int .u8 c)]=>decide (c=HE B j)
 |_=>false) n
theorem Qj1{n:Nat}{F:Ci}{B:ByteArray}(h:eqBy n F B=true): ∀i,i<n->F i=HG B i:=by
 intro j hj;have h1:=H3.1 h j hj;split at h1;rename_i c hc;rw [hc,wC h1];rfl;cases h1
theorem ltM{n:Nat}{f g:Ci}(h:(List.range n).map f=(List.range n).map g): ∀i,i<n->f i=g i:=λi O=>by
 have e:=congrArg (λl=>l[i]?) h;simpa [O] using e
abbrev JI:HA:=[(920,.row 20 1 1 (H9 wl0)),(921,.row 20 1 1 (H9 wl1)),(922,.row 20 1 1 (H9 wl2)),(923,.row 20 1 1 (H9 wl3)),(911,.row 5 1 42 (HG rp0)),(14,.cells 88 [.ptr 14 0,.row 911])]
def AI(z:Nat):St:=((some {σ:=mkS 198 [(0,.top),(5,.ro (hsL U1)),(7,.ptr 14 0),(8,.fn (.func 33) [] [.ptr 14 0]),(9,.row 920),(10,.row 921),(11,.row 922),(12,.row 923),(91,.lst 2 5 (λk=>[i (UE [0,200,410,700,1000] k),i (UE [0,300,510,800,1000] k)])),(92,i 5),(93,i 0)],m:=JI,nx:=930}:Option St):Option St).getD {σ:=[],m:=[],nx:=0}
noncomputable def AK:Code:=UD (VX (UB Tryz.f18) 0)
abbrev X1:HA:=[(920,.row 20 1 6 (H9 wl0)),(921,.row 20 1 1 (H9 wl1)),(922,.row 20 1 1 (H9 wl2)),(923,.row 20 1 1 (H9 wl3)),(911,.row 5 1 42 (HG rp0)),(14,.cells 88 [.ptr 14 0,.row 911])]
section
variable (z:Nat)
def DY:Nat->St
 | 0=>{σ:=H4 [(91,.lst 2 5 (λk=>[i (UE [0,200,410,700,1000] k),i (UE [0,300,510,800,1000] k)])),(92,i 5),(93,i 0)] (AI z).σ,m:=JI,nx:=930}
 | 1=>{σ:=H4 [(91,.lst 2 5 (λk=>[i (UE [0,200,410,700,1000] k),i (UE [0,300,510,800,1000] k)])),(92,i 5),(93,i 1)] (AI z).σ,m:=[(920,.row 20 1 2 (H9 wl0)),(921,.row 20 1 1 (H9 wl1)),(922,.row 20 1 1 (H9 wl2)),(923,.row 20 1 1 (H9 wl3)),(911,.row 5 1 42 (HG rp0)),(14,.cells 88 [.ptr 14 0,.row 911])],nx:=930}
 | 2=>{σ:=H4 [(91,.lst 2 5 (λk=>[i (UE [0,200,410,700,1000] k),i (UE [0,300,510,800,1000] k)])),(92,i 5),(93,i 2)] (AI z).σ,m:=[(920,.row 20 1 3 (H9 wl0)),(921,.row 20 1 1 (H9 wl1)),(922,.row 20 1 1 (H9 wl2)),(923,.row 20 1 1 (H9 wl3)),(911,.row 5 1 42 (HG rp0)),(14,.cells 88 [.ptr 14 0,.row 911])],nx:=930}
 | 3=>{σ:=H4 [(91,.lst 2 5 (λk=>[i (UE [0,200,410,700,1000] k),i (UE [0,300,510,800,1000] k)])),(92,i 5),(93,i 3)] (AI z).σ,m:=[(920,.row 20 1 4 (H9 wl0)),(921,.row 20 1 1 (H9 wl1)),(922,.row 20 1 1 (H9 wl2)),(923,.row 20 1 1 (H9 wl3)),(911,.row 5 1 42 (HG rp0)),(14,.cells 88 [.ptr 14 0,.row 911])],nx:=930}
 | 4=>{σ:=H4 [(91,.lst 2 5 (λk=>[i (UE [0,200,410,700,1000] k),i (UE [0,300,510,800,1000] k)])),(92,i 5),(93,i 4)] (AI z).σ,m:=[(920,.row 20 1 5 (H9 wl0)),(921,.row 20 1 1 (H9 wl1)),(922,.row 20 1 1 (H9 wl2)),(923,.row 20 1 1 (H9 wl3)),(911,.row 5 1 42 (HG rp0)),(14,.cells 88 [.ptr 14 0,.row 911])],nx:=930}
 |_=>{σ:=H4 [(91,.lst 2 5 (λk=>[i (UE [0,200,410,700,1000] k),i (UE [0,300,510,800,1000] k)])),(92,i 5),(93,i 5)] (AI z).σ,m:=X1,nx:=930}
def DQ:G8->Option St
 | .exit 0=>some {σ:=H4 [(91,.lst 2 5 (λk=>[i (UE [0,200,410,700,1000] k),i (UE [0,300,510,800,1000] k)])),(92,i 5),(93,i 5)] (AI z).σ,m:=X1,nx:=930}
 |_=>none
def NB:CT:= .leaf (.exit 0,(DQ z (.exit 0)).getD (AI z))
abbrev QE:List (Pl×Nat×TypeId×Nat):=[(.slot 9,920,20,1),(.slot 10,921,20,1),(.slot 11,922,20,1),(.slot 12,923,20,1),(.cell 14 1,911,5,1)]
def Xi5:UN:=GO QE (HI (DY z 0) (NB z))
abbrev Q7:Prop:=AV.ro [hR 2 U1,iI U1.pl,iI U1.ph,hY 2 U1,hC 1 U1,hT 2 U1]=AV.ro [hR 2 U1,iI U1.pl,iI U1.ph,hY 2 U1,hC 1 U1,hT 2 U1]
noncomputable abbrev Q8:Ext:={R:=[(36,Xh4),(37,LJ),(28,zP),(32,NF)],H:=[(33,Xj3),(40,Xj2)],C:=[(25,Qn8),(39,Xh3)] }
abbrev QF:List Int:=[(0:Int),200,410,700,1000]
abbrev QJ:List Int:=[(0:Int),300,510,800,1000]
abbrev QN:Prop:=AV.fn (Fn.func 33) [] [ptr 14 0]=AV.fn (Fn.func 33) [] [ptr 14 0]
abbrev QW:List (Nat×G4):=[(20,Qd0),(27,Qc8),(30,Qc7),(38,CE)]
abbrev WE:Prop:=ptr 14 0=ptr 14 0
abbrev WT:AV:=lst 2 5 λk=>[iI (UE QF k),iI (UE QJ k)]
abbrev WZ:Prop:=AV.row 911=AV.row 911
abbrev XZ:Prop:=AV.row 920=AV.row 920
abbrev Z0:Prop:=AV.row 921=AV.row 921
abbrev Z1:Prop:=AV.row 922=AV.row 922
abbrev Z2:Prop:=AV.row 923=AV.row 923
theorem Zq5:PY (HW VU QW Q8 [] QE AK (DY z 0) (DY z 1) (DQ z))=(let A:=([AV.x (.iface 9 (.string ({data:=List.toArray (Lib.itoa (UE QF (0:Int).toNat)) }++{data:=#[46,46] }++{data:=List.toArray (Lib.itoa (UE QJ (0:Int).toNat)) })))]);(need [UO 0 5] (need [(0:Int)<=UE QF (0:Int).toNat/\UE QF (0:Int).toNat<=1000\/(-1000:Int)<=UE QF (0:Int).toNat/\UE QF (0:Int).toNat<=1000,(-1000:Int)<=UE QJ (0:Int).toNat/\UE QJ (0:Int).toNat<=1000,4<=100] (need [32<=140737488355328,∀(i:Nat),i<1-> ∀(a:AV),a∈UA 1 A i->AV.one a=true] (need [VQ ((0:Int)+1)] (need [Q7,WE,QN,XZ,Z0,Z1,Z2,WT=WT,J7,(0:Int)+1=1,2=2,GZ 2 (GL 1 (H9 wl0) (UA 1 A)) (H9 wl0),1=1,GV 1 (H9 wl1),1=1,GV 1 (H9 wl2),1=1,GV 1 (H9 wl3),42=42,GV 42 (HG rp0),WE,WZ] (leaf G8.normal))))))):=by
 kernel_rfl
theorem Zq4:PY (HW VU QW Q8 [] QE AK (DY z 1) (DY z 2) (DQ z))=(let A:=([AV.x (.iface 9 (.string ({data:=List.toArray (Lib.itoa (UE QF (1:Int).toNat)) }++{data:=#[46,46] }++{data:=List.toArray (Lib.itoa (UE QJ (1:Int).toNat)) })))]);(need [UO 1 5] (need [(0:Int)<=UE QF (1:Int).toNat/\UE QF (1:Int).toNat<=1000\/(-1000:Int)<=UE QF (1:Int).toNat/\UE QF (1:Int).toNat<=1000,(-1000:Int)<=UE QJ (1:Int).toNat/\UE QJ (1:Int).toNat<=1000,8<=100] (need [48<=140737488355328,∀(i:Nat),i<1-> ∀(a:AV),a∈UA 1 A i->AV.one a=true] (need [VQ ((1:Int)+1)] (need [Q7,WE,QN,XZ,Z0,Z1,Z2,WT=WT,J7,(1:Int)+1=2,3=3,GZ 3 (GL 2 (H9 wl0) (UA 1 A)) (H9 wl0),1=1,GV 1 (H9 wl1),1=1,GV 1 (H9 wl2),1=1,GV 1 (H9 wl3),42=42,GV 42 (HG rp0),WE,WZ] (leaf G8.normal))))))):=by
 kernel_rfl
theorem Zq3:PY (HW VU QW Q8 [] QE AK (DY z 2) (DY z 3) (DQ z))=(let A:=([AV.x (.iface 9 (.string ({data:=List.toArray (Lib.itoa (UE QF (2:Int).toNat)) }++{data:=#[46,46] }++{data:=List.toArray (Lib.itoa (UE QJ (2:Int).toNat)) })))]);(need [UO 2 5] (need [(0:Int)<=UE QF (2:Int).toNat/\UE QF (2:Int).toNat<=1000\/(-1000:Int)<=UE QF (2:Int).toNat/\UE QF (2:Int).toNat<=1000,(-1000:Int)<=UE QJ (2:Int).toNat/\UE QJ (2:Int).toNat<=1000,8<=100] (need [64<=140737488355328,∀(i:Nat),i<1-> ∀(a:AV),a∈UA 1 A i->AV.one a=true] (need [VQ ((2:Int)+1)] (need [Q7,WE,QN,XZ,Z0,Z1,Z2,WT=WT,J7,(2:Int)+1=3,4=4,GZ 4 (GL 3 (H9 wl0) (UA 1 A)) (H9 wl0),1=1,GV 1 (H9 wl1),1=1,GV 1 (H9 wl2),1=1,GV 1 (H9 wl3),42=42,GV 42 (HG rp0),WE,WZ] (leaf G8.normal))))))):=by
 kernel_rfl
theorem Zq2:PY (HW VU QW Q8 [] QE AK (DY z 3) (DY z 4) (DQ z))=(let A:=([AV.x (.iface 9 (.string ({data:=List.toArray (Lib.itoa (UE QF (3:Int).toNat)) }++{data:=#[46,46] }++{data:=List.toArray (Lib.itoa (UE QJ (3:Int).toNat)) })))]);(need [UO 3 5] (need [(0:Int)<=UE QF (3:Int).toNat/\UE QF (3:Int).toNat<=1000\/(-1000:Int)<=UE QF (3:Int).toNat/\UE QF (3:Int).toNat<=1000,(-1000:Int)<=UE QJ (3:Int).toNat/\UE QJ (3:Int).toNat<=1000,8<=100] (need [80<=140737488355328,∀(i:Nat),i<1-> ∀(a:AV),a∈UA 1 A i->AV.one a=true] (need [VQ ((3:Int)+1)] (need [Q7,WE,QN,XZ,Z0,Z1,Z2,WT=WT,J7,(3:Int)+1=4,5=5,GZ 5 (GL 4 (H9 wl0) (UA 1 A)) (H9 wl0),1=1,GV 1 (H9 wl1),1=1,GV 1 (H9 wl2),1=1,GV 1 (H9 wl3),42=42,GV 42 (HG rp0),WE,WZ] (leaf G8.normal))))))):=by
 kernel_rfl
theorem Zq1:PY (HW VU QW Q8 [] QE AK (DY z 4) (DY z 5) (DQ z))=(let A:=([AV.x (.iface 9 (.string ({data:=List.toArray (Lib.itoa (UE QF (4:Int).toNat)) }++{data:=#[46,46] }++{data:=List.toArray (Lib.itoa (UE QJ (4:Int).toNat)) })))]);(need [UO 4 5] (need [(0:Int)<=UE QF (4:Int).toNat/\UE QF (4:Int).toNat<=1000\/(-1000:Int)<=UE QF (4:Int).toNat/\UE QF (4:Int).toNat<=1000,(-1000:Int)<=UE QJ (4:Int).toNat/\UE QJ (4:Int).toNat<=1000,10<=100] (need [96<=140737488355328,∀(i:Nat),i<1-> ∀(a:AV),a∈UA 1 A i->AV.one a=true] (need [VQ ((4:Int)+1)] (need [Q7,WE,QN,XZ,Z0,Z1,Z2,WT=WT,J7,(4:Int)+1=5,6=6,GZ 6 (GL 5 (H9 wl0) (UA 1 A)) (H9 wl0),1=1,GV 1 (H9 wl1),1=1,GV 1 (H9 wl2),1=1,GV 1 (H9 wl3),42=42,GV 42 (HG rp0),WE,WZ] (leaf G8.normal))))))):=by
 kernel_rfl
theorem Zq0:PY (HW VU QW Q8 [] QE AK (DY z 5) (DY z 5) (DQ z))=(need [Q7,WE,QN,XZ,Z0,Z1,Z2,WT=WT,J7,J7,6=6,GV 6 (H9 wl0),1=1,GV 1 (H9 wl1),1=1,GV 1 (H9 wl2),1=1,GV 1 (H9 wl3),42=42,GV 42 (HG rp0),WE,WZ] (leaf (G8.exit 0))):=by
 kernel_rfl
end
theorem V0{p:Prop}(h:p:=by
 (with_reducible repeat' first|apply Al|intro _)
 all_goals first|exact Ak|(rename_i E hE;cases hE;exact hQ)|contradiction|omega|exact FP (by assumption) (by simp [AV.one,Value.oneCell'])|(rename_i i O;exact Qj1 (by decide+kernel) i O)|(rename_i i O;exact ltM VZ i O)|exact eY (by decide+kernel)|exact Qa8 (by decide+kernel)|decide+kernel|with_reducible rfl|rfl):p:=h
theorem Zq6(z:Nat):GD VU (.loop AK) (Xi5 z):=by
 refine UV QE (L:=[]) (Ae v9 (Ae yW (Ae yN (Ae z9 Aa)))) (Aj (Af v6 (Af FH (Af RK (Af PD Ab)))) (Ag zA (Ag yM Ac)) (Ah xW (Ah fZ (UJ.nil _)))) U3 U7 (X:=Nat) (DY z) (λk=>k<=5) (λk=>6-k) (λ_=>DQ z) (x0:=0) (Ao _) ?_ ?_ ?_;intro k
 match k with
 | 0=>
  show Sx.okB (DY z 0)=true;kernel_rfl
 | 1=>
  show Sx.okB (DY z 1)=true;kernel_rfl
 | 2=>
  show Sx.okB (DY z 2)=true;kernel_rfl
 | 3=>
  show Sx.okB (DY z 3)=true;kernel_rfl
 | 4=>
  show Sx.okB (DY z 4)=true;kernel_rfl
 |k+5=>
  show Sx.okB (DY z 5)=true;kernel_rfl
 intro k y E h;unfold DQ at h;split at h;cases h;kernel_rfl;cases h;intro Q hQ k hx
 match k with
 | 0=>
  refine ⟨1,?_⟩
  with_reducible refine HB ?_
  rw [Zq5];simp only [NB,DQ,VR.sat,GW] at hQ;simp only [VR.sat,UF,UK,VQ,DQ];exact V0
 | 1=>
  refine ⟨2,?_⟩
  with_reducible refine HB ?_
  rw [Zq4];simp only [NB,DQ,VR.sat,GW] at hQ;simp only [VR.sat,UF,UK,VQ,DQ];exact V0
 | 2=>
  refine ⟨3,?_⟩
  with_reducible refine HB ?_
  rw [Zq3];simp only [NB,DQ,VR.sat,GW] at hQ;simp only [VR.sat,UF,UK,VQ,DQ];exact V0
 | 3=>
  refine ⟨4,?_⟩
  with_reducible refine HB ?_
  rw [Zq2];simp only [NB,DQ,VR.sat,GW] at hQ;simp only [VR.sat,UF,UK,VQ,DQ];exact V0
 | 4=>
  refine ⟨5,?_⟩
  with_reducible refine HB ?_
  rw [Zq1];simp only [NB,DQ,VR.sat,GW] at hQ;simp only [VR.sat,UF,UK,VQ,DQ];exact V0
 | 5=>
  refine ⟨5,?_⟩
  with_reducible refine HB ?_
  rw [Zq0];simp only [NB,DQ,VR.sat,GW] at hQ;simp only [VR.sat,UF,UK,VQ,DQ];exact V0
 |k+6=>omega
def TY(z:Nat):St:=((some {σ:=mkS 198 [(0,.top),(5,.ro (hsL U1)),(7,.ptr 14 0),(8,.fn (.func 33) [] [.ptr 14 0]),(9,.row 920),(10,.row 921),(11,.row 922),(12,.row 923),(116,.lst 2 3 (λk=>[i (UE [0,1,-3] k),i (UE [0,5,5] k)])),(117,i 3),(118,i 0)],m:=X1,nx:=930}:Option St):Option St).getD {σ:=[],m:=[],nx:=0}
noncomputable def a6:Code:=UD (VX (UB Tryz.f18) 1)
abbrev X2:HA:=[(920,.row 20 1 6 (H9 wl0)),(921,.row 20 1 4 (H9 wl1)),(922,.row 20 1 1 (H9 wl2)),(923,.row 20 1 1 (H9 wl3)),(911,.row 5 1 42 (HG rp0)),(14,.cells 88 [.ptr 14 0,.row 911])]
section
variable (z:Nat)
def L2:Nat->St
 | 0=>{σ:=H4 [(116,.lst 2 3 (λk=>[i (UE [0,1,-3] k),i (UE [0,5,5] k)])),(117,i 3),(118,i 0)] (TY z).σ,m:=X1,nx:=930}
 | 1=>{σ:=H4 [(116,.lst 2 3 (λk=>[i (UE [0,1,-3] k),i (UE [0,5,5] k)])),(117,i 3),(118,i 1)] (TY z).σ,m:=[(920,.row 20 1 6 (H9 wl0)),(921,.row 20 1 2 (H9 wl1)),(922,.row 20 1 1 (H9 wl2)),(923,.row 20 1 1 (H9 wl3)),(911,.row 5 1 42 (HG rp0)),(14,.cells 88 [.ptr 14 0,.row 911])],nx:=930}
 | 2=>{σ:=H4 [(116,.lst 2 3 (λk=>[i (UE [0,1,-3] k),i (UE [0,5,5] k)])),(117,i 3),(118,i 2)] (TY z).σ,m:=[(920,.row 20 1 6 (H9 wl0)),(921,.row 20 1 3 (H9 wl1)),(922,.row 20 1 1 (H9 wl2)),(923,.row 20 1 1 (H9 wl3)),(911,.row 5 1 42 (HG rp0)),(14,.cells 88 [.ptr 14 0,.row 911])],nx:=930}
 |_=>{σ:=H4 [(116,.lst 2 3 (λk=>[i (UE [0,1,-3] k),i (UE [0,5,5] k)])),(117,i 3),(118,i 3)] (TY z).σ,m:=X2,nx:=930}
def RM:G8->Option St
 | .exit 2=>some {σ:=H4 [(116,.lst 2 3 (λk=>[i (UE [0,1,-3] k),i (UE [0,5,5] k)])),(117,i 3),(118,i 3)] (TY z).σ,m:=X2,nx:=930}
 |_=>none
def nU:CT:= .leaf (.exit 2,(RM z (.exit 2)).getD (TY z))
def Xi4:UN:=GO QE (HI (L2 z 0) (nU z))
abbrev WA:AV:=lst 2 3 λk=>[iI (UE [(0:Int),1,-3] k),iI (UE [(0:Int),5,5] k)]
abbrev WX:List Int:=[(0:Int),1,-3]
abbrev Z7:List Int:=[(0:Int),5,5]
theorem Zp8:PY (HW VU QW Q8 [] QE a6 (L2 z 0) (L2 z 1) (RM z))=(let A:=([AV.x (.iface 9 (.string ({data:=List.toArray (Lib.itoa (UE WX (0:Int).toNat)) }++{data:=#[46,46] }++{data:=List.toArray (Lib.itoa (UE Z7 (0:Int).toNat)) })))]);(need [UO 0 3] (need [(0:Int)<=UE WX (0:Int).toNat/\UE WX (0:Int).toNat<=1000\/(-1000:Int)<=UE WX (0:Int).toNat/\UE WX (0:Int).toNat<=1000,(-1000:Int)<=UE Z7 (0:Int).toNat/\UE Z7 (0:Int).toNat<=1000,4<=100] (need [32<=140737488355328,∀(i:Nat),i<1-> ∀(a:AV),a∈UA 1 A i->AV.one a=true] (need [VQ ((0:Int)+1)] (need [Q7,WE,QN,XZ,Z0,Z1,Z2,WA=WA,XG,(0:Int)+1=1,6=6,GV 6 (H9 wl0),2=2,GZ 2 (GL 1 (H9 wl1) (UA 1 A)) (H9 wl1),1=1,GV 1 (H9 wl2),1=1,GV 1 (H9 wl3),42=42,GV 42 (HG rp0),WE,WZ] (leaf G8.normal))))))):=by
 kernel_rfl
theorem Zp7:PY (HW VU QW Q8 [] QE a6 (L2 z 1) (L2 z 2) (RM z))=(let A:=([AV.x (.iface 9 (.string ({data:=List.toArray (Lib.itoa (UE WX (1:Int).toNat)) }++{data:=#[46,46] }++{data:=List.toArray (Lib.itoa (UE Z7 (1:Int).toNat)) })))]);(need [UO 1 3] (need [(0:Int)<=UE WX (1:Int).toNat/\UE WX (1:Int).toNat<=1000\/(-1000:Int)<=UE WX (1:Int).toNat/\UE WX (1:Int).toNat<=1000,(-1000:Int)<=UE Z7 (1:Int).toNat/\UE Z7 (1:Int).toNat<=1000,4<=100] (need [48<=140737488355328,∀(i:Nat),i<1-> ∀(a:AV),a∈UA 1 A i->AV.one a=true] (need [VQ ((1:Int)+1)] (need [Q7,WE,QN,XZ,Z0,Z1,Z2,WA=WA,XG,(1:Int)+1=2,6=6,GV 6 (H9 wl0),3=3,GZ 3 (GL 2 (H9 wl1) (UA 1 A)) (H9 wl1),1=1,GV 1 (H9 wl2),1=1,GV 1 (H9 wl3),42=42,GV 42 (HG rp0),WE,WZ] (leaf G8.normal))))))):=by
 kernel_rfl
theorem Zp6:PY (HW VU QW Q8 [] QE a6 (L2 z 2) (L2 z 3) (RM z))=(let A:=([AV.x (.iface 9 (.string ({data:=List.toArray (Lib.itoa (UE WX (2:Int).toNat)) }++{data:=#[46,46] }++{data:=List.toArray (Lib.itoa (UE Z7 (2:Int).toNat)) })))]);(need [UO 2 3] (need [(0:Int)<=UE WX (2:Int).toNat/\UE WX (2:Int).toNat<=1000\/(-1000:Int)<=UE WX (2:Int).toNat/\UE WX (2:Int).toNat<=1000,(-1000:Int)<=UE Z7 (2:Int).toNat/\UE Z7 (2:Int).toNat<=1000,5<=100] (need [64<=140737488355328,∀(i:Nat),i<1-> ∀(a:AV),a∈UA 1 A i->AV.one a=true] (need [VQ ((2:Int)+1)] (need [Q7,WE,QN,XZ,Z0,Z1,Z2,WA=WA,XG,(2:Int)+1=3,6=6,GV 6 (H9 wl0),4=4,GZ 4 (GL 3 (H9 wl1) (UA 1 A)) (H9 wl1),1=1,GV 1 (H9 wl2),1=1,GV 1 (H9 wl3),42=42,GV 42 (HG rp0),WE,WZ] (leaf G8.normal))))))):=by
 kernel_rfl
theorem Zp5:PY (HW VU QW Q8 [] QE a6 (L2 z 3) (L2 z 3) (RM z))=(need [Q7,WE,QN,XZ,Z0,Z1,Z2,WA=WA,XG,XG,6=6,GV 6 (H9 wl0),4=4,GV 4 (H9 wl1),1=1,GV 1 (H9 wl2),1=1,GV 1 (H9 wl3),42=42,GV 42 (HG rp0),WE,WZ] (leaf (G8.exit 2))):=by
 kernel_rfl
theorem Zp9:GD VU (.loop a6) (Xi4 z):=by
 refine UV QE (L:=[]) (Ae v9 (Ae yW (Ae yN (Ae z9 Aa)))) (Aj (Af v6 (Af FH (Af RK (Af PD Ab)))) (Ag zA (Ag yM Ac)) (Ah xW (Ah fZ (UJ.nil _)))) U3 U7 (X:=Nat) (L2 z) (λk=>k<=3) (λk=>4-k) (λ_=>RM z) (x0:=0) (Ao _) ?_ ?_ ?_;intro k
 match k with
 | 0=>
  show Sx.okB (L2 z 0)=true;kernel_rfl
 | 1=>
  show Sx.okB (L2 z 1)=true;kernel_rfl
 | 2=>
  show Sx.okB (L2 z 2)=true;kernel_rfl
 |k+3=>
  show Sx.okB (L2 z 3)=true;kernel_rfl
 intro k y E h;unfold RM at h;split at h;cases h;kernel_rfl;cases h;intro Q hQ k hx
 match k with
 | 0=>
  refine ⟨1,?_⟩
  with_reducible refine HB ?_
  rw [Zp8];simp only [nU,RM,VR.sat,GW] at hQ;simp only [VR.sat,UF,UK,VQ,RM];exact V0
 | 1=>
  refine ⟨2,?_⟩
  with_reducible refine HB ?_
  rw [Zp7];simp only [nU,RM,VR.sat,GW] at hQ;simp only [VR.sat,UF,UK,VQ,RM];exact V0
 | 2=>
  refine ⟨3,?_⟩
  with_reducible refine HB ?_
  rw [Zp6];simp only [nU,RM,VR.sat,GW] at hQ;simp only [VR.sat,UF,UK,VQ,RM];exact V0
 | 3=>
  refine ⟨3,?_⟩
  with_reducible refine HB ?_
  rw [Zp5];simp only [nU,RM,VR.sat,GW] at hQ;simp only [VR.sat,UF,UK,VQ,RM];exact V0
 |k+4=>omega
end
def Qp4(z:Nat):St:=((some {σ:=mkS 198 [(0,.top),(5,.ro (hsL U1)),(7,.ptr 14 0),(8,.fn (.func 33) [] [.ptr 14 0]),(9,.row 920),(10,.row 921),(11,.row 922),(12,.row 923),(136,hsC U1),(137,i 1),(138,i 0)],m:=X2,nx:=930}:Option St):Option St).getD {σ:=[],m:=[],nx:=0}
noncomputable def Qq0:Code:=UD (VX (UB Tryz.f18) 2)
abbrev X3:HA:=[(920,.row 20 1 6 (H9 wl0)),(921,.row 20 1 4 (H9 wl1)),(922,.row 20 1 2 (H9 wl2)),(923,.row 20 1 1 (H9 wl3)),(911,.row 5 1 42 (HG rp0)),(14,.cells 88 [.ptr 14 0,.row 911])]
section
variable (z:Nat)
def wS:Nat->St
 | 0=>{σ:=H4 [(136,hsC U1),(137,i 1),(138,i 0)] (Qp4 z).σ,m:=X2,nx:=930}
 |_=>{σ:=H4 [(136,hsC U1),(137,i 1),(138,i 1)] (Qp4 z).σ,m:=X3,nx:=930}
def qE:G8->Option St
 | .exit 4=>some {σ:=H4 [(136,hsC U1),(137,i 1),(138,i 1)] (Qp4 z).σ,m:=X3,nx:=930}
 |_=>none
def Xe5:CT:= .leaf (.exit 4,(qE z (.exit 4)).getD (Qp4 z))
def Xi3:UN:=GO QE (HI (wS z 0) (Xe5 z))
abbrev YL:AV:=agg [hR 2 U1,iI U1.pl,iI U1.ph,hY 2 U1,hC 1 U1,hT 2 U1]
theorem Zp3:PY (HW VU QW Q8 [] QE Qq0 (wS z 0) (wS z 1) (qE z))=(need [UO 0 U1.nc] (need [[YL,agg [iI (U1.ca (0:Int).toNat),iI (U1.cb (0:Int).toNat),iI (U1.cc (0:Int).toNat),iI (U1.cd (0:Int).toNat),AV.x (.bool (U1.cv (0:Int).toNat))],iI (U1.cd (0:Int).toNat)]=[YL,agg [iI (U1.ca 0),iI (U1.cb 0),iI (U1.cc 0),iI (U1.cd 0),AV.x (.bool (U1.cv 0))],iI (U1.cd 0)]] (need [32<=140737488355328,RY 1 (UA 1 [AV.x (.iface 3 (WV))])] (need [VQ ((0:Int)+1)] (need [Q7,WE,QN,XZ,Z0,Z1,Z2,U4 (hC 1 U1),KV,(0:Int)+1=1,6=6,GV 6 (H9 wl0),4=4,GV 4 (H9 wl1),2=2,GZ 2 (GL 1 (H9 wl2) (UA 1 [AV.x (.iface 3 (WV))])) (H9 wl2),1=1,GV 1 (H9 wl3),42=42,GV 42 (HG rp0),WE,WZ] (leaf G8.normal)))))):=by
 kernel_rfl
theorem Zp2:PY (HW VU QW Q8 [] QE Qq0 (wS z 1) (wS z 1) (qE z))=(need [Q7,WE,QN,XZ,Z0,Z1,Z2,U4 (hC 1 U1),KV,KV,6=6,GV 6 (H9 wl0),4=4,GV 4 (H9 wl1),2=2,GV 2 (H9 wl2),1=1,GV 1 (H9 wl3),42=42,GV 42 (HG rp0),WE,WZ] (leaf (G8.exit 4))):=by
 kernel_rfl
theorem Zp4:GD VU (.loop Qq0) (Xi3 z):=by
 refine UV QE (L:=[]) (Ae v9 (Ae yW (Ae yN (Ae z9 Aa)))) (Aj (Af v6 (Af FH (Af RK (Af PD Ab)))) (Ag zA (Ag yM Ac)) (Ah xW (Ah fZ (UJ.nil _)))) U3 U7 (X:=Nat) (wS z) (λk=>k<=1) (λk=>2-k) (λ_=>qE z) (x0:=0) (Ao _) ?_ ?_ ?_;intro k
 match k with
 | 0=>
  show Sx.okB (wS z 0)=true;kernel_rfl
 |k+1=>
  show Sx.okB (wS z 1)=true;kernel_rfl
 intro k y E h;unfold qE at h;split at h;cases h;kernel_rfl;cases h;intro Q hQ k hx
 match k with
 | 0=>
  refine ⟨1,?_⟩
  with_reducible refine HB ?_
  rw [Zp3];simp only [Xe5,qE,VR.sat,GW] at hQ;simp only [VR.sat,UF,UK,VQ,qE];exact V0
 | 1=>
  refine ⟨1,?_⟩
  with_reducible refine HB ?_
  rw [Zp2];simp only [Xe5,qE,VR.sat,GW] at hQ;simp only [VR.sat,UF,UK,VQ,qE];exact V0
 |k+2=>omega
end
def NQ(z:Nat):St:=((some {σ:=mkS 198 [(0,.top),(5,.ro (hsL U1)),(7,.ptr 14 0),(8,.fn (.func 33) [] [.ptr 14 0]),(9,.row 920),(10,.row 921),(11,.row 922),(12,.row 923),(162,i 4),(163,i 0)],m:=X3,nx:=930}:Option St):Option St).getD {σ:=[],m:=[],nx:=0}
noncomputable def NT:Code:=UD (VX (UB Tryz.f18) 3)
abbrev JJ:HA:=[(920,.row 20 1 6 (H9 wl0)),(921,.row 20 1 4 (H9 wl1)),(922,.row 20 1 2 (H9 wl2)),(923,.row 20 1 5 (H9 wl3)),(911,.row 5 1 42 (HG rp0)),(14,.cells 88 [.ptr 14 0,.row 911])]
section
variable (z:Nat)
def FT:Nat->St
 | 0=>{σ:=H4 [(162,i 4),(163,i 0)] (NQ z).σ,m:=X3,nx:=930}
 | 1=>{σ:=H4 [(162,i 4),(163,i 1)] (NQ z).σ,m:=[(920,.row 20 1 6 (H9 wl0)),(921,.row 20 1 4 (H9 wl1)),(922,.row 20 1 2 (H9 wl2)),(923,.row 20 1 2 (H9 wl3)),(911,.row 5 1 42 (HG rp0)),(14,.cells 88 [.ptr 14 0,.row 911])],nx:=930}
 | 2=>{σ:=H4 [(162,i 4),(163,i 2)] (NQ z).σ,m:=[(920,.row 20 1 6 (H9 wl0)),(921,.row 20 1 4 (H9 wl1)),(922,.row 20 1 2 (H9 wl2)),(923,.row 20 1 3 (H9 wl3)),(911,.row 5 1 42 (HG rp0)),(14,.cells 88 [.ptr 14 0,.row 911])],nx:=930}
 | 3=>{σ:=H4 [(162,i 4),(163,i 3)] (NQ z).σ,m:=[(920,.row 20 1 6 (H9 wl0)),(921,.row 20 1 4 (H9 wl1)),(922,.row 20 1 2 (H9 wl2)),(923,.row 20 1 4 (H9 wl3)),(911,.row 5 1 42 (HG rp0)),(14,.cells 88 [.ptr 14 0,.row 911])],nx:=930}
 |_=>{σ:=H4 [(162,i 4),(163,i 4)] (NQ z).σ,m:=JJ,nx:=930}
def FM:G8->Option St
 | .exit 6=>some {σ:=H4 [(162,i 4),(163,i 4)] (NQ z).σ,m:=JJ,nx:=930}
 |_=>none
def TL:CT:= .leaf (.exit 6,(FM z (.exit 6)).getD (NQ z))
def Xi2:UN:=GO QE (HI (FT z 0) (TL z))
abbrev ZP:AV:=agg [iI 4,iI 10,hT 2 U1]
abbrev ZS:List Int:=[(4:Int),2,4,0]
abbrev YD:Prop:=iI 100=iI 100
theorem Zp0:PY (HW VU QW Q8 [] QE NT (FT z 0) (FT z 1) (FM z))=(let A:=([AV.x (.iface 3 (.int .i64 (UE ZS (0:Int).toNat)))]);(need [ZP=ZP,YD,(0:Int)<=0/\(0:Int)<=3] (need [32<=140737488355328,∀(i:Nat),i<1-> ∀(a:AV),a∈UA 1 A i->AV.one a=true] (need [VQ ((0:Int)+1)] (need [Q7,WE,QN,XZ,Z0,Z1,Z2,QZ,(0:Int)+1=1,6=6,GV 6 (H9 wl0),4=4,GV 4 (H9 wl1),2=2,GV 2 (H9 wl2),2=2,GZ 2 (GL 1 (H9 wl3) (UA 1 A)) (H9 wl3),42=42,GV 42 (HG rp0),WE,WZ] (leaf G8.normal)))))):=by
 kernel_rfl
theorem Zo9:PY (HW VU QW Q8 [] QE NT (FT z 1) (FT z 2) (FM z))=(let A:=([AV.x (.iface 3 (.int .i64 (UE ZS (1:Int).toNat)))]);(need [ZP=ZP,YD,(0:Int)<=1/\(1:Int)<=3] (need [48<=140737488355328,∀(i:Nat),i<1-> ∀(a:AV),a∈UA 1 A i->AV.one a=true] (need [VQ ((1:Int)+1)] (need [Q7,WE,QN,XZ,Z0,Z1,Z2,QZ,(1:Int)+1=2,6=6,GV 6 (H9 wl0),4=4,GV 4 (H9 wl1),2=2,GV 2 (H9 wl2),3=3,GZ 3 (GL 2 (H9 wl3) (UA 1 A)) (H9 wl3),42=42,GV 42 (HG rp0),WE,WZ] (leaf G8.normal)))))):=by
 kernel_rfl
theorem Zo8:PY (HW VU QW Q8 [] QE NT (FT z 2) (FT z 3) (FM z))=(let A:=([AV.x (.iface 3 (.int .i64 (UE ZS (2:Int).toNat)))]);(need [ZP=ZP,YD,(0:Int)<=2/\(2:Int)<=3] (need [64<=140737488355328,∀(i:Nat),i<1-> ∀(a:AV),a∈UA 1 A i->AV.one a=true] (need [VQ ((2:Int)+1)] (need [Q7,WE,QN,XZ,Z0,Z1,Z2,QZ,(2:Int)+1=3,6=6,GV 6 (H9 wl0),4=4,GV 4 (H9 wl1),2=2,GV 2 (H9 wl2),4=4,GZ 4 (GL 3 (H9 wl3) (UA 1 A)) (H9 wl3),42=42,GV 42 (HG rp0),WE,WZ] (leaf G8.normal)))))):=by
 kernel_rfl
theorem Zo7:PY (HW VU QW Q8 [] QE NT (FT z 3) (FT z 4) (FM z))=(let A:=([AV.x (.iface 3 (.int .i64 (UE ZS (3:Int).toNat)))]);(need [ZP=ZP,YD,(0:Int)<=3/\(3:Int)<=3] (need [80<=140737488355328,∀(i:Nat),i<1-> ∀(a:AV),a∈UA 1 A i->AV.one a=true] (need [VQ ((3:Int)+1)] (need [Q7,WE,QN,XZ,Z0,Z1,Z2,QZ,(3:Int)+1=4,6=6,GV 6 (H9 wl0),4=4,GV 4 (H9 wl1),2=2,GV 2 (H9 wl2),5=5,GZ 5 (GL 4 (H9 wl3) (UA 1 A)) (H9 wl3),42=42,GV 42 (HG rp0),WE,WZ] (leaf G8.normal)))))):=by
 kernel_rfl
theorem Zo6:PY (HW VU QW Q8 [] QE NT (FT z 4) (FT z 4) (FM z))=(need [Q7,WE,QN,XZ,Z0,Z1,Z2,QZ,QZ,6=6,GV 6 (H9 wl0),4=4,GV 4 (H9 wl1),2=2,GV 2 (H9 wl2),5=5,GV 5 (H9 wl3),42=42,GV 42 (HG rp0),WE,WZ] (leaf (G8.exit 6))):=by
 kernel_rfl
theorem Zp1:GD VU (.loop NT) (Xi2 z):=by
 refine UV QE (L:=[]) (Ae v9 (Ae yW (Ae yN (Ae z9 Aa)))) (Aj (Af v6 (Af FH (Af RK (Af PD Ab)))) (Ag zA (Ag yM Ac)) (Ah xW (Ah fZ (UJ.nil _)))) U3 U7 (X:=Nat) (FT z) (λk=>k<=4) (λk=>5-k) (λ_=>FM z) (x0:=0) (Ao _) ?_ ?_ ?_;intro k
 match k with
 | 0=>
  show Sx.okB (FT z 0)=true;kernel_rfl
 | 1=>
  show Sx.okB (FT z 1)=true;kernel_rfl
 | 2=>
  show Sx.okB (FT z 2)=true;kernel_rfl
 | 3=>
  show Sx.okB (FT z 3)=true;kernel_rfl
 |k+4=>
  show Sx.okB (FT z 4)=true;kernel_rfl
 intro k y E h;unfold FM at h;split at h;cases h;kernel_rfl;cases h;intro Q hQ k hx
 match k with
 | 0=>
  refine ⟨1,?_⟩
  with_reducible refine HB ?_
  rw [Zp0];simp only [TL,FM,VR.sat,GW] at hQ;simp only [VR.sat,UF,UK,VQ,FM];exact V0
 | 1=>
  refine ⟨2,?_⟩
  with_reducible refine HB ?_
  rw [Zo9];simp only [TL,FM,VR.sat,GW] at hQ;simp only [VR.sat,UF,UK,VQ,FM];exact V0
 | 2=>
  refine ⟨3,?_⟩
  with_reducible refine HB ?_
  rw [Zo8];simp only [TL,FM,VR.sat,GW] at hQ;simp only [VR.sat,UF,UK,VQ,FM];exact V0
 | 3=>
  refine ⟨4,?_⟩
  with_reducible refine HB ?_
  rw [Zo7];simp only [TL,FM,VR.sat,GW] at hQ;simp only [VR.sat,UF,UK,VQ,FM];exact V0
 | 4=>
  refine ⟨4,?_⟩
  with_reducible refine HB ?_
  rw [Zo6];simp only [TL,FM,VR.sat,GW] at hQ;simp only [VR.sat,UF,UK,VQ,FM];exact V0
 |k+5=>omega
end
abbrev JM:HA:=[(925,.row 89 1 4 (UA 1 [.lst 1 6 (H9 wl0),.lst 1 4 (H9 wl1),.lst 1 2 (H9 wl2),.lst 1 5 (H9 wl3)])),(911,.row 5 1 42 (HG rp0)),(14,.cells 88 [.ptr 14 0,.row 911])]
def NP(z:Nat):St:=((some {σ:=mkS 198 [(0,.top),(5,.ro (hsL U1)),(7,.ptr 14 0),(8,.fn (.func 33) [] [.ptr 14 0]),(187,.row 925),(188,i 4),(189,i 0)],m:=JM,nx:=930}:Option St):Option St).getD {σ:=[],m:=[],nx:=0}
noncomputable def NS:Code:=UD (VX (UB Tryz.f18) 4)
abbrev JL:HA:=[(925,.row 89 1 4 (UA 1 [.lst 1 6 (H9 wl0),.lst 1 4 (H9 wl1),.lst 1 2 (H9 wl2),.lst 1 5 (H9 wl3)])),(911,.row 5 1 136 (HG rp4)),(14,.cells 88 [.ptr 14 0,.row 911])]
section
variable (z:Nat)
def FS:Nat->St
 | 0=>{σ:=H4 [(187,.row 925),(188,i 4),(189,i 0)] (NP z).σ,m:=JM,nx:=930}
 | 1=>{σ:=H4 [(187,.row 925),(188,i 4),(189,i 1)] (NP z).σ,m:=[(925,.row 89 1 4 (UA 1 [.lst 1 6 (H9 wl0),.lst 1 4 (H9 wl1),.lst 1 2 (H9 wl2),.lst 1 5 (H9 wl3)])),(911,.row 5 1 91 (HG rp1)),(14,.cells 88 [.ptr 14 0,.row 911])],nx:=930}
 | 2=>{σ:=H4 [(187,.row 925),(188,i 4),(189,i 2)] (NP z).σ,m:=[(925,.row 89 1 4 (UA 1 [.lst 1 6 (H9 wl0),.lst 1 4 (H9 wl1),.lst 1 2 (H9 wl2),.lst 1 5 (H9 wl3)])),(911,.row 5 1 115 (HG rp2)),(14,.cells 88 [.ptr 14 0,.row 911])],nx:=930}
 | 3=>{σ:=H4 [(187,.row 925),(188,i 4),(189,i 3)] (NP z).σ,m:=[(925,.row 89 1 4 (UA 1 [.lst 1 6 (H9 wl0),.lst 1 4 (H9 wl1),.lst 1 2 (H9 wl2),.lst 1 5 (H9 wl3)])),(911,.row 5 1 123 (HG rp3)),(14,.cells 88 [.ptr 14 0,.row 911])],nx:=930}
 |_=>{σ:=H4 [(187,.row 925),(188,i 4),(189,i 4)] (NP z).σ,m:=JL,nx:=930}
def FL:G8->Option St
 | .exit 8=>some {σ:=H4 [(187,.row 925),(188,i 4),(189,i 4)] (NP z).σ,m:=JL,nx:=930}
 |_=>none
def TK:CT:= .leaf (.exit 8,(FL z (.exit 8)).getD (NP z))
def Xi1:UN:=GO [(.slot 187,925,89,1),(.cell 14 1,911,5,1)] (HI (FS z 0) (TK z))
abbrev WR:List AV:=[AV.x (.string {data:=#[(48:UInt8),(46:UInt8),(46:UInt8),(48:UInt8)] })]
abbrev XE:List AV:=[AV.x (.string {data:=#[(49:UInt8),(48:UInt8),(48:UInt8),(48:UInt8),(46:UInt8),(46:UInt8),(49:UInt8),(48:UInt8),(48:UInt8),(48:UInt8)] })]
abbrev XQ:List AV:=[AV.x (.string {data:=#[(50:UInt8),(48:UInt8),(48:UInt8),(46:UInt8),(46:UInt8),(51:UInt8),(48:UInt8),(48:UInt8)] })]
abbrev XR:List AV:=[AV.x (.string {data:=#[(52:UInt8),(49:UInt8),(48:UInt8),(46:UInt8),(46:UInt8),(53:UInt8),(49:UInt8),(48:UInt8)] })]
abbrev XS:List AV:=[AV.x (.string {data:=#[(55:UInt8),(48:UInt8),(48:UInt8),(46:UInt8),(46:UInt8),(56:UInt8),(48:UInt8),(48:UInt8)] })]
abbrev Z5:Value:=Value.string {data:=#[(109:UInt8),(97:UInt8),(114:UInt8),(107:UInt8),(115:UInt8)] }
abbrev J8:List (Pl×Nat×TypeId×Nat):=[(.slot 187,925,89,1),(.cell 14 1,911,5,1)]
abbrev Y4:Prop:=AV.row 925=AV.row 925
theorem Zo4:PY (HW VU QW Q8 [] J8 NS (FS z 0) (FS z 1) (FL z))=(let A:=([lst 1 6 λk=>[Option.rec (top) (λval=>(λval=>(λx=>x) val) val) wl0[k]?],lst 1 4 λk=>[Option.rec (top) (λval=>(λval=>(λx=>x) val) val) wl1[k]?],lst 1 2 λk=>[Option.rec (top) (λval=>(λval=>(λx=>x) val) val) wl2[k]?],lst 1 5 λk=>[Option.rec (top) (λval=>(λval=>(λx=>x) val) val) wl3[k]?]]);let z1:=(GL 5 (GL 4 (GL 3 (GL 2 (GL 1 (GL 0 (λx=>[]) (UA 1 [AV.x (Z5)])) (UA 1 WR)) (UA 1 XQ)) (UA 1 XR)) (UA 1 XS)) (UA 1 XE));(need [UO 0 4] (need [(0:Int).toNat<4] (need [UO 0 6] (need [16<=140737488355328,RY 1 (UA 1 [AV.x (Z5)])] (need [VQ ((0:Int)+1)] (need [(0:Int)<=0+1/\(0:Int)+1<((6:Nat):Int)] (need [32<=140737488355328,∀(i:Nat),i<1-> ∀(a:AV),a∈UA 1 WR i->AV.one a=true] (need [VQ ((0:Int)+1+1)] (need [(0:Int)<=0+1+1/\(0:Int)+1+1<((6:Nat):Int)] (need [48<=140737488355328,∀(i:Nat),i<1-> ∀(a:AV),a∈UA 1 XQ i->AV.one a=true] (need [VQ ((0:Int)+1+1+1)] (need [(0:Int)<=0+1+1+1/\(0:Int)+1+1+1<((6:Nat):Int)] (need [64<=140737488355328,∀(i:Nat),i<1-> ∀(a:AV),a∈UA 1 XR i->AV.one a=true] (need [VQ ((0:Int)+1+1+1+1)] (need [(0:Int)<=0+1+1+1+1/\(0:Int)+1+1+1+1<((6:Nat):Int)] (need [80<=140737488355328,∀(i:Nat),i<1-> ∀(a:AV),a∈UA 1 XS i->AV.one a=true] (need [VQ ((0:Int)+1+1+1+1+1)] (need [(0:Int)<=0+1+1+1+1+1/\(0:Int)+1+1+1+1+1<((6:Nat):Int)] (need [96<=140737488355328,∀(i:Nat),i<1-> ∀(a:AV),a∈UA 1 XE i->AV.one a=true] (need [VQ ((0:Int)+1+1+1+1+1+1)] (need [6<=100000,kV 6 z1,ByteArray.size (jnB 6 z1 {data:=#[32] })<=140737488355328] (need [((49:Nat):Int)<=9223372036854775807] (need [91<=140737488355328] (need [VQ ((0:Int)+1)] (need [Q7,WE,QN,Y4,QZ,(0:Int)+1=1,4=4,GV 4 (UA 1 A),91=91,GZ 91 (GL 42 (HG rp0) (HG (jnB 6 z1 {data:=#[32] }++{data:=#[10] }))) (HG rp1),WE,WZ] (leaf G8.normal))))))))))))))))))))))))))):=by
 kernel_rfl
abbrev XF:Value:=Value.string {data:=#[(111:UInt8),(102:UInt8),(102:UInt8),(115:UInt8),(101:UInt8),(116:UInt8),(115:UInt8)] }
abbrev ZL:List AV:=[AV.x (.string {data:=#[(45:UInt8),(51:UInt8),(46:UInt8),(46:UInt8),(53:UInt8)] })]
abbrev ZX:List AV:=[AV.x (.string {data:=#[(49:UInt8),(46:UInt8),(46:UInt8),(53:UInt8)] })]
theorem Zo3:PY (HW VU QW Q8 [] J8 NS (FS z 1) (FS z 2) (FL z))=(let A:=([lst 1 6 λk=>[Option.rec (top) (λval=>(λval=>(λx=>x) val) val) wl0[k]?],lst 1 4 λk=>[Option.rec (top) (λval=>(λval=>(λx=>x) val) val) wl1[k]?],lst 1 2 λk=>[Option.rec (top) (λval=>(λval=>(λx=>x) val) val) wl2[k]?],lst 1 5 λk=>[Option.rec (top) (λval=>(λval=>(λx=>x) val) val) wl3[k]?]]);let z1:=(GL 3 (GL 2 (GL 1 (GL 0 (λx=>[]) (UA 1 [AV.x (XF)])) (UA 1 WR)) (UA 1 ZX)) (UA 1 ZL));(need [UO 1 4] (need [(1:Int).toNat<4] (need [UO 0 4] (need [16<=140737488355328,RY 1 (UA 1 [AV.x (XF)])] (need [VQ ((0:Int)+1)] (need [(0:Int)<=0+1/\(0:Int)+1<((4:Nat):Int)] (need [32<=140737488355328,∀(i:Nat),i<1-> ∀(a:AV),a∈UA 1 WR i->AV.one a=true] (need [VQ ((0:Int)+1+1)] (need [(0:Int)<=0+1+1/\(0:Int)+1+1<((4:Nat):Int)] (need [48<=140737488355328,∀(i:Nat),i<1-> ∀(a:AV),a∈UA 1 ZX i->AV.one a=true] (need [VQ ((0:Int)+1+1+1)] (need [(0:Int)<=0+1+1+1/\(0:Int)+1+1+1<((4:Nat):Int)] (need [64<=140737488355328,∀(i:Nat),i<1-> ∀(a:AV),a∈UA 1 ZL i->AV.one a=true] (need [VQ ((0:Int)+1+1+1+1)] (need [4<=100000,kV 4 z1,ByteArray.size (jnB 4 z1 {data:=#[32] })<=140737488355328] (need [((24:Nat):Int)<=9223372036854775807] (need [115<=140737488355328] (need [VQ ((1:Int)+1)] (need [Q7,WE,QN,Y4,QZ,(1:Int)+1=2,4=4,GV 4 (UA 1 A),115=115,GZ 115 (GL 91 (HG rp1) (HG (jnB 4 z1 {data:=#[32] }++{data:=#[10] }))) (HG rp2),WE,WZ] (leaf G8.normal))))))))))))))))))))):=by
 kernel_rfl
abbrev XM:List AV:=[AV.x (.string {data:=List.toArray (Lib.itoa (0:Int)) })]
abbrev Z6:Value:=Value.string {data:=#[(115:UInt8),(116:UInt8),(97:UInt8),(110:UInt8),(100:UInt8)] }
theorem Zo2:PY (HW VU QW Q8 [] J8 NS (FS z 2) (FS z 3) (FL z))=(let A:=([lst 1 6 λk=>[Option.rec (top) (λval=>(λval=>(λx=>x) val) val) wl0[k]?],lst 1 4 λk=>[Option.rec (top) (λval=>(λval=>(λx=>x) val) val) wl1[k]?],lst 1 2 λk=>[Option.rec (top) (λval=>(λval=>(λx=>x) val) val) wl2[k]?],lst 1 5 λk=>[Option.rec (top) (λval=>(λval=>(λx=>x) val) val) wl3[k]?]]);let z1:=(GL 1 (GL 0 (λx=>[]) (UA 1 [AV.x (Z6)])) (UA 1 XM));(need [UO 2 4] (need [(2:Int).toNat<4] (need [UO 0 2] (need [16<=140737488355328,RY 1 (UA 1 [AV.x (Z6)])] (need [VQ ((0:Int)+1)] (need [(0:Int)<=0+1/\(0:Int)+1<((2:Nat):Int)] (need [VQ (0:Int)] (need [32<=140737488355328,∀(i:Nat),i<1-> ∀(a:AV),a∈UA 1 XM i->AV.one a=true] (need [VQ ((0:Int)+1+1)] (need [2<=100000,kV 2 z1,ByteArray.size (jnB 2 z1 {data:=#[32] })<=140737488355328] (need [((8:Nat):Int)<=9223372036854775807] (need [123<=140737488355328] (need [VQ ((2:Int)+1)] (need [Q7,WE,QN,Y4,QZ,(2:Int)+1=3,4=4,GV 4 (UA 1 A),123=123,GZ 123 (GL 115 (HG rp2) (HG (jnB 2 z1 {data:=#[32] }++{data:=#[10] }))) (HG rp3),WE,WZ] (leaf G8.normal)))))))))))))))):=by
 kernel_rfl
abbrev XN:List AV:=[AV.x (.string {data:=List.toArray (Lib.itoa (4:Int)) })]
abbrev ZF:Value:=Value.string {data:=#[(104:UInt8),(111:UInt8),(108:UInt8),(100:UInt8)] }
abbrev JG:List AV:=[AV.x (.string {data:=List.toArray (Lib.itoa (2:Int)) })]
theorem Zo1:PY (HW VU QW Q8 [] J8 NS (FS z 3) (FS z 4) (FL z))=(let A:=([lst 1 6 λk=>[Option.rec (top) (λval=>(λval=>(λx=>x) val) val) wl0[k]?],lst 1 4 λk=>[Option.rec (top) (λval=>(λval=>(λx=>x) val) val) wl1[k]?],lst 1 2 λk=>[Option.rec (top) (λval=>(λval=>(λx=>x) val) val) wl2[k]?],lst 1 5 λk=>[Option.rec (top) (λval=>(λval=>(λx=>x) val) val) wl3[k]?]]);let z1:=(GL 4 (GL 3 (GL 2 (GL 1 (GL 0 (λx=>[]) (UA 1 [AV.x (ZF)])) (UA 1 XN)) (UA 1 JG)) (UA 1 XN)) (UA 1 XM));(need [UO 3 4] (need [(3:Int).toNat<4] (need [UO 0 5] (need [16<=140737488355328,RY 1 (UA 1 [AV.x (ZF)])] (need [VQ ((0:Int)+1)] (need [(0:Int)<=0+1/\(0:Int)+1<((5:Nat):Int)] (need [VQ (4:Int)] (need [32<=140737488355328,∀(i:Nat),i<1-> ∀(a:AV),a∈UA 1 XN i->AV.one a=true] (need [VQ ((0:Int)+1+1)] (need [(0:Int)<=0+1+1/\(0:Int)+1+1<((5:Nat):Int)] (need [VQ (2:Int)] (need [48<=140737488355328,∀(i:Nat),i<1-> ∀(a:AV),a∈UA 1 JG i->AV.one a=true] (need [VQ ((0:Int)+1+1+1)] (need [(0:Int)<=0+1+1+1/\(0:Int)+1+1+1<((5:Nat):Int)] (need [VQ (4:Int)] (need [64<=140737488355328,∀(i:Nat),i<1-> ∀(a:AV),a∈UA 1 XN i->AV.one a=true] (need [VQ ((0:Int)+1+1+1+1)] (need [(0:Int)<=0+1+1+1+1/\(0:Int)+1+1+1+1<((5:Nat):Int)] (need [VQ (0:Int)] (need [80<=140737488355328,∀(i:Nat),i<1-> ∀(a:AV),a∈UA 1 XM i->AV.one a=true] (need [VQ ((0:Int)+1+1+1+1+1)] (need [5<=100000,kV 5 z1,ByteArray.size (jnB 5 z1 {data:=#[32] })<=140737488355328] (need [((13:Nat):Int)<=9223372036854775807] (need [136<=140737488355328] (need [VQ ((3:Int)+1)] (need [Q7,WE,QN,Y4,QZ,(3:Int)+1=4,4=4,GV 4 (UA 1 A),136=136,GZ 136 (GL 123 (HG rp3) (HG (jnB 5 z1 {data:=#[32] }++{data:=#[10] }))) (HG rp4),WE,WZ] (leaf G8.normal)))))))))))))))))))))))))))):=by
 kernel_rfl
theorem Zo0:PY (HW VU QW Q8 [] J8 NS (FS z 4) (FS z 4) (FL z))=(let A:=([lst 1 6 λk=>[Option.rec (top) (λval=>(λval=>(λx=>x) val) val) wl0[k]?],lst 1 4 λk=>[Option.rec (top) (λval=>(λval=>(λx=>x) val) val) wl1[k]?],lst 1 2 λk=>[Option.rec (top) (λval=>(λval=>(λx=>x) val) val) wl2[k]?],lst 1 5 λk=>[Option.rec (top) (λval=>(λval=>(λx=>x) val) val) wl3[k]?]]);(need [Q7,WE,QN,Y4,QZ,QZ,4=4,GV 4 (UA 1 A),136=136,GV 136 (HG rp4),WE,WZ] (leaf (G8.exit 8)))):=by
 kernel_rfl
theorem Zo5:GD VU (.loop NS) (Xi1 z):=by
 refine UV J8 (L:=[]) (Ae v9 (Ae yW (Ae yN (Ae z9 Aa)))) (Aj (Af v6 (Af FH (Af RK (Af PD Ab)))) (Ag zA (Ag yM Ac)) (Ah xW (Ah fZ (UJ.nil _)))) U3 U7 (X:=Nat) (FS z) (λk=>k<=4) (λk=>5-k) (λ_=>FL z) (x0:=0) (Ao _) ?_ ?_ ?_;intro k
 match k with
 | 0=>
  show Sx.okB (FS z 0)=true;kernel_rfl
 | 1=>
  show Sx.okB (FS z 1)=true;kernel_rfl
 | 2=>
  show Sx.okB (FS z 2)=true;kernel_rfl
 | 3=>
  show Sx.okB (FS z 3)=true;kernel_rfl
 |k+4=>
  show Sx.okB (FS z 4)=true;kernel_rfl
 intro k y E h;unfold FL at h;split at h;cases h;kernel_rfl;cases h;intro Q hQ k hx
 match k with
 | 0=>
  refine ⟨1,?_⟩
  with_reducible refine HB ?_
  rw [Zo4];simp only [TK,FL,VR.sat,GW] at hQ;simp only [VR.sat,UF,UK,VQ,FL];exact V0
 | 1=>
  refine ⟨2,?_⟩
  with_reducible refine HB ?_
  rw [Zo3];simp only [TK,FL,VR.sat,GW] at hQ;simp only [VR.sat,UF,UK,VQ,FL];exact V0
 | 2=>
  refine ⟨3,?_⟩
  with_reducible refine HB ?_
  rw [Zo2];simp only [TK,FL,VR.sat,GW] at hQ;simp only [VR.sat,UF,UK,VQ,FL];exact V0
 | 3=>
  refine ⟨4,?_⟩
  with_reducible refine HB ?_
  rw [Zo1];simp only [TK,FL,VR.sat,GW] at hQ;simp only [VR.sat,UF,UK,VQ,FL];exact V0
 | 4=>
  refine ⟨4,?_⟩
  with_reducible refine HB ?_
  rw [Zo0];simp only [TK,FL,VR.sat,GW] at hQ;simp only [VR.sat,UF,UK,VQ,FL];exact V0
 |k+5=>omega
end
theorem uZ{S:Code->UN->Prop}{c:Code}{s0 s1 s2 s3 s4:UN}(h0: ∀cj,VX c 0=some cj->S cj s0)(h1: ∀cj,VX c 1=some cj->S cj s1)(h2: ∀cj,VX c 2=some cj->S cj s2)(h3: ∀cj,VX c 3=some cj->S cj s3)(h4: ∀cj,VX c 4=some cj->S cj s4):
  ∀j cj,VX c j=some cj-> ∀sp,[s0,s1,s2,s3,s4][j]? =some sp->S cj sp:=by
 intro j cj hj sp hsp
 match j with
 | 0=>simp at hsp;subst hsp;exact h0 cj hj
 | 1=>simp at hsp;subst hsp;exact h1 cj hj
 | 2=>simp at hsp;subst hsp;exact h2 cj hj
 | 3=>simp at hsp;subst hsp;exact h3 cj hj
 | 4=>simp at hsp;subst hsp;exact h4 cj hj
 |j+5=>simp at hsp
theorem Zy6(B:ByteArray):bsO B.size (HG B)=B:=by
 unfold bsO;apply ByteArray.ext;apply Array.ext;show ((List.range B.size).map _).toArray.size=B.data.size;rw [List.size_toArray,Bm,List.length_range];rfl;intro j h1 h2;have h3:j<B.data.size:=h2;simp [HG,byO,HE,L0,Array.getElem?_eq_getElem h3]
abbrev YT:HA:=[(911,.row 5 1 42 (HG rp0)),(14,.cells 88 [.ptr 14 0,.row 911])]
def oR:St:={σ:=mkS 198 [(5,.ro (hsL U1)),(7,.ptr 14 0),(8,.fn (.func 33) [] [.ptr 14 0]),(9,.lst 1 6 (H9 wl0)),(10,.lst 1 4 (H9 wl1)),(11,.lst 1 2 (H9 wl2)),(12,.lst 1 5 (H9 wl3))],m:=YT,nx:=930}
def oS:St:={σ:=mkS 198 [(0,.top),(5,.ro (hsL U1)),(7,.ptr 14 0),(8,.fn (.func 33) [] [.ptr 14 0])],m:=YT,nx:=930}
abbrev WM:List AV:=[lst 1 11 λk=>[HP (UR UC k)]]
abbrev WQ:List AV:=[AV.x (.string {data:=#[(99:UInt8),(101:UInt8),(114:UInt8),(116:UInt8),(105:UInt8),(102:UInt8),(105:UInt8),(99:UInt8),(97:UInt8),(116:UInt8),(101:UInt8),(115:UInt8)] })]
abbrev WY:List AV:=[agg [iI 4,iI 100,iI 20,iI 30,hR 2 U1,lst 2 3 λk=>[iI (tbP k),iI (tbQ k)],iI U1.pl,iI U1.ph,iI 1,iI 3],iI 0]
abbrev XK:List AV:=[AV.x (.string {data:=#[(114:UInt8),(101:UInt8),(97:UInt8),(100:UInt8),(105:UInt8),(110:UInt8),(103:UInt8),(115:UInt8)] })]
abbrev ZJ:List AV:=[AV.x (.string {data:=#[(115:UInt8),(97:UInt8),(108:UInt8),(101:UInt8),(115:UInt8)] })]
abbrev ZK:List AV:=[AV.x (.string {data:=#[(98:UInt8),(97:UInt8),(116:UInt8),(104:UInt8),(115:UInt8)] })]
theorem mN:U2 VU 18 [lns 11 (UR UC)] (.tup [.x (.string Zq7),i 0]):=by
 have hG:VP VU [(20,Qd0),(27,Qc8),(30,Qc7),(38,CE)]:=(Ae v9 (Ae yW (Ae yN (Ae z9 Aa))));have hX: ∀cx,U0 VU Q8 cx:=(Aj (Af v6 (Af FH (Af RK (Af PD Ab)))) (Ag zA (Ag yM Ac)) (Ah xW (Ah fZ (UJ.nil _))));have GX:Tryz.prog.follows .mixedOrders=true:=U3
 refine aC (L:=[Xi5 0,Xi4 0,Xi3 0,Xi2 0,Xi1 0]) Tryz.func18 (UW Tryz.f18) (λcx=>(dU (N:=[(.cell 14 1,911,5,1)]) (s2:=oS) hG (hX cx) GX (dU (N:=[(.slot 9,0,0,0),(.slot 10,0,0,0),(.slot 11,0,0,0),(.slot 12,0,0,0)]) (s2:=oR) hG (hX cx) GX (nC hG (hX cx) GX) VZ 7) VZ 6)) (uZ (lpE (b:= .loop AK) VZ<|(Zq6 0).N) (lpE (b:= .loop a6) VZ<|(Zp9 0).N) (lpE (b:= .loop Qq0) VZ<|(Zp4 0).N) (lpE (b:= .loop NT) VZ<|(Zp1 0).N) (lpE (b:= .loop NS) VZ<|(Zo5 0).N)) (t:=let z2:=([AV.x (.string {data:=List.toArray (Lib.itoa (↑U1.nr:Int)) })]);let z3:=([AV.x (.string {data:=List.toArray (Lib.itoa (↑U1.nb:Int)) })]);let z4:=([AV.x (.string {data:=List.toArray (Lib.itoa (↑U1.nc:Int)) })]);let z5:=([AV.x (.string {data:=List.toArray (Lib.itoa (↑U1.ns:Int)) })]);let A:=(GL 7 (GL 6 (GL 5 (GL 4 (GL 3 (GL 2 (GL 1 (GL 0 (λx=>[]) (UA 1 XK)) (UA 1 z2)) (UA 1 ZK)) (UA 1 z3)) (UA 1 WQ)) (UA 1 z4)) (UA 1 ZJ)) (UA 1 z5));let z1:=([lst 1 6 λk=>[Option.rec (top) (λval=>(λval=>(λx=>x) val) val) wl0[k]?],lst 1 4 λk=>[Option.rec (top) (λval=>(λval=>(λx=>x) val) val) wl1[k]?],lst 1 2 λk=>[Option.rec (top) (λval=>(λval=>(λx=>x) val) val) wl2[k]?],lst 1 5 λk=>[Option.rec (top) (λval=>(λval=>(λx=>x) val) val) wl3[k]?]]);(need [WM=WM] (branch ((0:Int) != 0) (leaf (RV.tup [RV.x (.string {data:=#[] }),RV.x (WV)])) (need [WM=WM] (need [UO 0 8] (need [(0:Int).toNat<8] (need [16<=140737488355328,∀(i:Nat),i<1-> ∀(a:AV),a∈UA 1 XK i->AV.one a=true] (need [VQ ((0:Int)+1)] (need [(0:Int)<=0+1/\(0:Int)+1<((8:Nat):Int)] (need [((0:Int)+1).toNat<8] (need [VQ (↑U1.nr:Int)] (need [32<=140737488355328,∀(i:Nat),i<1-> ∀(a:AV),a∈UA 1 z2 i->AV.one a=true] (need [VQ ((0:Int)+1+1)] (need [(0:Int)<=0+1+1/\(0:Int)+1+1<((8:Nat):Int)] (need [((0:Int)+1+1).toNat<8] (need [48<=140737488355328,∀(i:Nat),i<1-> ∀(a:AV),a∈UA 1 ZK i->AV.one a=true] (need [VQ ((0:Int)+1+1+1)] (need [(0:Int)<=0+1+1+1/\(0:Int)+1+1+1<((8:Nat):Int)] (need [((0:Int)+1+1+1).toNat<8] (need [VQ (↑U1.nb:Int)] (need [64<=140737488355328,∀(i:Nat),i<1-> ∀(a:AV),a∈UA 1 z3 i->AV.one a=true] (need [VQ ((0:Int)+1+1+1+1)] (need [(0:Int)<=0+1+1+1+1/\(0:Int)+1+1+1+1<((8:Nat):Int)] (need [((0:Int)+1+1+1+1).toNat<8] (need [80<=140737488355328,∀(i:Nat),i<1-> ∀(a:AV),a∈UA 1 WQ i->AV.one a=true] (need [VQ ((0:Int)+1+1+1+1+1)] (need [(0:Int)<=0+1+1+1+1+1/\(0:Int)+1+1+1+1+1<((8:Nat):Int)] (need [((0:Int)+1+1+1+1+1).toNat<8] (need [VQ (↑U1.nc:Int)] (need [96<=140737488355328,∀(i:Nat),i<1-> ∀(a:AV),a∈UA 1 z4 i->AV.one a=true] (need [VQ ((0:Int)+1+1+1+1+1+1)] (need [(0:Int)<=0+1+1+1+1+1+1/\(0:Int)+1+1+1+1+1+1<((8:Nat):Int)] (need [((0:Int)+1+1+1+1+1+1).toNat<8] (need [112<=140737488355328,∀(i:Nat),i<1-> ∀(a:AV),a∈UA 1 ZJ i->AV.one a=true] (need [VQ ((0:Int)+1+1+1+1+1+1+1)] (need [(0:Int)<=0+1+1+1+1+1+1+1/\(0:Int)+1+1+1+1+1+1+1<((8:Nat):Int)] (need [((0:Int)+1+1+1+1+1+1+1).toNat<8] (need [VQ (↑U1.ns:Int)] (need [128<=140737488355328,∀(i:Nat),i<1-> ∀(a:AV),a∈UA 1 z5 i->AV.one a=true] (need [VQ ((0:Int)+1+1+1+1+1+1+1+1)] (need [8<=100000,kV 8 A,ByteArray.size (jnB 8 A {data:=#[32] })<=140737488355328] (need [((42:Nat):Int)<=9223372036854775807] (need [42<=140737488355328] (need [Q7,WE,QN,42=42,GZ 42 (GL 0 (λx=>[]) (HG (jnB 8 A {data:=#[32] }++{data:=#[10] }))) (HG rp0),WE,WZ] (need [WY=WY] (need [Q7,WE,QN,XZ,Z0,Z1,Z2,WT=WT,((5:Nat):Int)=5,QU,1=1,GZ 1 (UA 1 [AV.x (.iface 9 (Z5))]) (H9 wl0),1=1,GZ 1 (UA 1 [AV.x (.iface 9 (XF))]) (H9 wl1),1=1,GZ 1 (UA 1 [AV.x (.iface 9 (Z6))]) (H9 wl2),1=1,GZ 1 (UA 1 [AV.x (.iface 9 (ZF))]) (H9 wl3),42=42,GV 42 (HG rp0),WE,WZ] (need [U4 ([agg [lst 2 3 λk=>[iI (oL k),iI (oH k)],iI 1,hY 2 U1]])] (need [Q7,WE,QN,XZ,Z0,Z1,Z2,WA=WA,((3:Nat):Int)=3,QU,6=6,GV 6 (H9 wl0),1=1,GV 1 (H9 wl1),1=1,GV 1 (H9 wl2),1=1,GV 1 (H9 wl3),42=42,GV 42 (HG rp0),WE,WZ] (need [Q7,WE,QN,XZ,Z0,Z1,Z2,U4 (hC 1 U1),(↑U1.nc:Int)=1,QU,6=6,GV 6 (H9 wl0),4=4,GV 4 (H9 wl1),1=1,GV 1 (H9 wl2),1=1,GV 1 (H9 wl3),42=42,GV 42 (HG rp0),WE,WZ] (need [Q7,WE,QN,XZ,Z0,Z1,Z2,QZ,QU,6=6,GV 6 (H9 wl0),4=4,GV 4 (H9 wl1),2=2,GV 2 (H9 wl2),1=1,GV 1 (H9 wl3),42=42,GV 42 (HG rp0),WE,WZ] (need [Q7,WE,QN,U4 (lst 1 6 λk=>[Option.rec (top) (λval=>(λval=>(λx=>x) val) val) wl0[k]?]),U4 (lst 1 4 λk=>[Option.rec (top) (λval=>(λval=>(λx=>x) val) val) wl1[k]?]),U4 (lst 1 2 λk=>[Option.rec (top) (λval=>(λval=>(λx=>x) val) val) wl2[k]?]),U4 (lst 1 5 λk=>[Option.rec (top) (λval=>(λval=>(λx=>x) val) val) wl3[k]?]),42=42,GV 42 (HG rp0),WE,WZ] (need [Q7,WE,QN,Y4,((4:Nat):Int)=4,QU,4=4,GV 4 (UA 1 z1),42=42,GV 42 (HG rp0),WE,WZ] (need [R9 136 (HG rp4),0<136] (leaf (RV.tup [RV.x (.string (bsO 136 (HG rp4))),RV.x (WV)]))))))))))))))))))))))))))))))))))))))))))))))))))))))) VZ ?_
 simp only [VR.sat,UF,G6,GQ,UH,UK,VQ,DR]
 (with_reducible repeat' first|apply Al|intro _)
 all_goals first|exact Ak|contradiction|omega|exact FP (by assumption) (by simp [AV.one,Value.oneCell'])|(rename_i i O;exact Qj1 (by decide+kernel) i O)|(rename_i i O;exact ltM VZ i O)|exact eY (by decide+kernel)|exact Qa8 (by decide+kernel)|decide+kernel|with_reducible rfl|rfl|trace_state
def Zm8:HS:=stS U1 1
theorem Za6:lnE (UR GF 0) U1=9:=by decide+kernel
theorem Za5:lnE (UR GF 1) U1=10:=by decide+kernel
theorem Za4:lnE (UR GF 2) U1=9:=by decide+kernel
theorem Za3:lnE (UR GF 3) U1=0:=by decide+kernel
theorem Jg5:lnE (UR GF 4) Zm8=0:=by decide+kernel
theorem Jg4:FD (lnW (UR GF 3)) U1=Zm8:=VZ
abbrev KE(n:Nat)(a:Cg):AV:=lst 1 n λk=>[iI (a k)]
abbrev KF(m:Nat)(b:Cg):AV:=lst 1 m λk=>[iI (b k)]
section
variable (n m:Nat)(a b:Cg)
def Xk4:St:={σ:=[KE n a,KF m b]++HR 24 [],m:=[],nx:=7}
noncomputable def Kc6:Code:=UD (VX (UB Tryz.f19) 0)
def Wq6(k:Nat):St:=(upM [(5,i k)] (Xk4 n m a b))
def uO(k:Nat):G8->Option St
 | .exit 0=>some (upM [] (Xk4 n m a b))
 | .ret=>some (upM [(4,.lit false)] (Xk4 n m a b))
 |_=>none
def Jx8:CT:= .branch (DH ((λk=>a k==b k)) n) (.leaf (.exit 0,(uO n m a b 0 (.exit 0)).getD (Xk4 n m a b))) (.leaf (.ret,(uO n m a b 0 .ret).getD (Xk4 n m a b)))
def Zg7:UN:=(HI (Wq6 n m a b (0)) (Jx8 n m a b))
theorem Jo0(VW:n<=100000)(UG:n=m):GD VU (.loop Kc6) (Zg7 n m a b):=by
 refine HO (L:=[]) Aa U3 U7 (X:=Nat) (Wq6 n m a b) (λk=>k<=n/\ ∀j,j<k->((λk=>a k==b k)) j=true) (λk=>n-k) (uO n m a b) (x0:=0) ⟨VO,λj hj=>VO⟩ ?_ ?_ ?_;rintro k;kernel_rfl;rintro k y E h;unfold uO at h;split at h;cases h;kernel_rfl;cases h;kernel_rfl;cases h
 ·rintro Q hQ k hx;refine ⟨(k+1),?_⟩;(with_reducible refine DG (t:=branch (decide ((k:Int)<(n:Int))) (need [UO k n] (need [UO k m] (branch (a k != b k) (need [U4 (KE n a),U4 (KF m b),WN] (leaf G8.ret)) (need [VQ ((k:Int)+1)] (need [U4 (KE n a),U4 (KF m b),(k:Int)+1=(↑(k+1):Int)] (leaf G8.normal)))))) (need [U4 (KE n a),U4 (KF m b)] (leaf (G8.exit 0)))) VZ ?_);simp only [Jx8,uO,VR.sat,GW] at hQ;have Ww6:k<n->((λk=>a k==b k)) k=false->DH ((λk=>a k==b k)) n=false:=by
   intro h1 h2;rw [←Bool.not_eq_true];intro h3;have:=H3.1 h3 k h1;exact Bool.noConfusion (h2.symm.trans this)
  have dM:((λk=>a k==b k)) k=true-> ∀j,j<k+1->((λk=>a k==b k)) j=true:=by
   intro h1 j hj;rcases (show j<k\/j=k by omega) with h|rfl
   exact hx.2 j h;exact h1
  have PR: ¬k<n->DH ((λk=>a k==b k)) n=true:=λh=>H3.2 (λj hj=>hx.2 j VO);have hQ1: ∀E,uO n m a b k .ret=some E->DH ((λk=>a k==b k)) n=false->Q (.ret,E):=by
   intro E hE hf;cases hE;exact hQ.2 hf
  have hQ2: ∀E,uO n m a b k (.exit 0)=some E->DH ((λk=>a k==b k)) n=true->Q (.exit 0,E):=by
   intro E hE hf;cases hE;exact hQ.1 hf
  simp only [VR.sat,UF,UK,H6,VQ,DR]
  all_goals exact V8
theorem Wn7(VW:n<=100000):U2 VU 19 [.lst 1 n (λk=>[i (a k)]),.lst 1 m (λk=>[i (b k)])] (bl (decide (n=m)&&DH (λk=>a k==b k) n)):=by
 refine U6 (L:=[FX [n<=100000,n=m] (Zg7 n m a b)]) Aa U3 Tryz.func19 (UW Tryz.f19) (G0 (lpE (b:= .loop Kc6) VZ<|DB (λh=>Jo0 n m a b h.1 h.2))) (t:=branch ((n:Int) != (m:Int)) (leaf (RV.x (WL))) (need [n<=100000,n=m] (need [U4 (KE n a),U4 (KF m b),(0:Int)=((0:Nat):Int)] (branch (DH (λk=>a k==b k) n) (leaf (RV.x (.bool true))) (leaf (RV.x (WL))))))) VZ ?_
 simp only [VR.sat,UF,G6,GQ,UH,VQ,UK,H6,FW,bne_iff_ne,ne_eq];refine ⟨λh=>?_,λh=>?_⟩;have:n≠m:=by intro h';subst h';simp at h
 simp [this];have e:n=m:=by
  rw [bne_eq_false_iff_eq] at h;omega
 subst e;refine ⟨⟨VO,rfl⟩,λh2=>?_,λh2=>?_⟩;simp [h2];simp [h2]
end
def Qm0:G4
 |[.lst 1 n f,.lst 1 m g]=>some ([UL 1 n f,UL 1 m g,n<=100000],bl (decide (n=m)&&DH (λk=>col 0 f k==col 0 g k) n))
 |_=>none
theorem Wn6:VT VU 19 Qm0:=by
 refine ⟨(UM Tryz.func19),?_⟩;intro avs ns W h I;unfold Qm0 at h;split at h;rename_i n f m g;cases h;have hr0:UL 1 n f:=I _ VY;have hr1:UL 1 m g:=I _ VY;exact (Wn7 n m (col 0 f) (col 0 g) (I _ VY)).same (.cons (.lst 1 n _ _ hr0) (.cons (.lst 1 m _ _ hr1) .nil));cases h
def Xf0:G4
 |[.x (.slice none 0 0)]=>some ([],lns 11 (UR UC))
 |[.lst 1 n f]=>some ([n=5,∀k,k<n->f k=[.x (.string (UR GF k))]],lns 16 (UR (UC++GF)))
 |_=>none
theorem Jo2{P:Nat->Prop}(h0:P 0)(h1:P 1)(h2:P 2)(h3:P 3)(h4:P 4)(h5:P 5)(h6:P 6)(h7:P 7)(h8:P 8)(h9:P 9)(h10:P 10): ∀i,i<11->P i:=by
 intro i O
 match i,O with
 | 0,_=>exact h0
 | 1,_=>exact h1
 | 2,_=>exact h2
 | 3,_=>exact h3
 | 4,_=>exact h4
 | 5,_=>exact h5
 | 6,_=>exact h6
 | 7,_=>exact h7
 | 8,_=>exact h8
 | 9,_=>exact h9
 | 10,_=>exact h10
 |i+11,h=>exact absurd h VO
theorem Zc4{P:Nat->Prop}(h0:P 0)(h1:P 1)(h2:P 2)(h3:P 3)(h4:P 4)(h5:P 5)(h6:P 6)(h7:P 7)(h8:P 8)(h9:P 9)(h10:P 10)(h11:P 11)(h12:P 12)(h13:P 13)(h14:P 14)(h15:P 15): ∀i,i<16->P i:=by
 intro i O
 match i,O with
 | 0,_=>exact h0
 | 1,_=>exact h1
 | 2,_=>exact h2
 | 3,_=>exact h3
 | 4,_=>exact h4
 | 5,_=>exact h5
 | 6,_=>exact h6
 | 7,_=>exact h7
 | 8,_=>exact h8
 | 9,_=>exact h9
 | 10,_=>exact h10
 | 11,_=>exact h11
 | 12,_=>exact h12
 | 13,_=>exact h13
 | 14,_=>exact h14
 | 15,_=>exact h15
 |i+16,h=>exact absurd h VO
abbrev JC:AV:=AV.x (.string {data:=#[(98:UInt8),(97:UInt8),(116:UInt8),(104:UInt8),(32:UInt8),(49:UInt8),(48:UInt8),(48:UInt8),(32:UInt8),(51:UInt8),(48:UInt8),(48:UInt8)] })
abbrev QH:List AV:=[AV.x (.string {data:=#[(116:UInt8),(104:UInt8),(114:UInt8),(101:UInt8),(97:UInt8),(100:UInt8),(32:UInt8),(48:UInt8),(32:UInt8),(49:UInt8),(32:UInt8),(52:UInt8),(48:UInt8),(32:UInt8),(52:UInt8),(48:UInt8)] }),AV.x (.string {data:=#[(116:UInt8),(104:UInt8),(114:UInt8),(101:UInt8),(97:UInt8),(100:UInt8),(32:UInt8),(50:UInt8),(32:UInt8),(51:UInt8),(32:UInt8),(52:UInt8),(56:UInt8),(32:UInt8),(53:UInt8),(48:UInt8)] }),AV.x (.string {data:=#[(105:UInt8),(115:UInt8),(115:UInt8),(117:UInt8),(101:UInt8),(32:UInt8),(48:UInt8),(32:UInt8),(52:UInt8),(32:UInt8),(57:UInt8),(48:UInt8),(32:UInt8),(48:UInt8)] }),JC,AV.x (.string {data:=#[(115:UInt8),(101:UInt8),(101:UInt8),(32:UInt8),(48:UInt8),(32:UInt8),(50:UInt8),(48:UInt8),(48:UInt8)] }),AV.x (.string {data:=#[(115:UInt8),(101:UInt8),(101:UInt8),(32:UInt8),(49:UInt8),(32:UInt8),(50:UInt8),(48:UInt8),(51:UInt8)] }),JC,AV.x (.string {data:=#[(115:UInt8),(101:UInt8),(101:UInt8),(32:UInt8),(49:UInt8),(32:UInt8),(50:UInt8),(53:UInt8),(50:UInt8)] }),AV.x (.string {data:=#[(115:UInt8),(101:UInt8),(101:UInt8),(32:UInt8),(50:UInt8),(32:UInt8),(50:UInt8),(53:UInt8),(48:UInt8)] }),AV.x (.string {data:=#[(115:UInt8),(101:UInt8),(108:UInt8),(108:UInt8),(32:UInt8),(48:UInt8),(32:UInt8),(49:UInt8),(32:UInt8),(54:UInt8),(32:UInt8),(49:UInt8),(32:UInt8),(51:UInt8)] }),AV.x (.string {data:=#[(115:UInt8),(101:UInt8),(108:UInt8),(108:UInt8),(32:UInt8),(49:UInt8),(32:UInt8),(50:UInt8),(32:UInt8),(52:UInt8),(32:UInt8),(50:UInt8),(32:UInt8),(50:UInt8)] })]
theorem We6:U2 VU 14 [.x (.slice none 0 0)] (lns 11 (UR UC)):=by
 refine H0 Tryz.func14 (t:=need [176<=140737488355328,∀(i:Nat),i<0-> ∀(a:AV),a∈[]->AV.one a=true] (leaf (RV.lst 1 11 (GL 11 (UA 1 QH) λx=>[])))) VZ ?_;simp only [VR.sat,UF,G6,GQ,UH,UK]
 (with_reducible repeat' first|apply Al|intro _)
 all_goals first|exact Ak|contradiction|omega|exact FP (by assumption) (by simp [AV.one,Value.oneCell'])|(rename_i ha;rw [B2.1 ha];first|exact Ak|rfl)|(rename_i i O;revert i;refine Jo2 ?_ ?_ ?_ ?_ ?_ ?_ ?_ ?_ ?_ ?_ ?_<;>(show _=_;kernel_rfl))|decide|rfl|trace_state
theorem We5:U2 VU 14 [.lst 1 5 (λk=>[.x (.string (UR GF k))])] (lns 16 (UR (UC++GF))):=by
 refine H0 Tryz.func14 (t:=need [256<=140737488355328,∀(i:Nat),i<5-> ∀(a:AV),a∈[HP (UR GF i)]->AV.one a=true] (leaf (RV.lst 1 16 (GL 11 (UA 1 QH) λk=>[HP (UR GF k)])))) VZ ?_;simp only [VR.sat,UF,G6,GQ,UH,UK]
 (with_reducible repeat' first|apply Al|intro _)
 all_goals first|exact Ak|contradiction|omega|exact FP (by assumption) (by simp [AV.one,Value.oneCell'])|(rename_i ha;rw [B2.1 ha];first|exact Ak|rfl)|(rename_i i O;revert i;refine Zc4 ?_ ?_ ?_ ?_ ?_ ?_ ?_ ?_ ?_ ?_ ?_ ?_ ?_ ?_ ?_ ?_<;>(show _=_;kernel_rfl))|decide|rfl|trace_state
theorem Xl8:VT VU 14 Xf0:=by
 refine ⟨(UM Tryz.func14),?_⟩;intro avs ns W h I;unfold Xf0 at h;split at h;cases h;exact We6;rename_i n f;cases h;obtain rfl:n=5:=I _ VY;have h2: ∀k,k<5->f k=[.x (.string (UR GF k))]:=I (∀k,k<5->f k=[.x (.string (UR GF k))]) VY;exact We5.same (.cons (.lst 1 5 f _ h2) .nil);cases h
theorem Xz0:sK (UR (UC++GF)) 0=hs0:=rfl
theorem Xy9:sK (UR (UC++GF)) 1=wk1:=by
 show lnS (UR UC 0) (sK (UR (UC++GF)) 0)=_;rw [Xz0];unfold lnS;rw [if_pos We2];exact Za0
theorem Xy8:sK (UR (UC++GF)) 2=wk2:=by
 show lnS (UR UC 1) (sK (UR (UC++GF)) 1)=_;rw [Xy9];unfold lnS;rw [if_pos We1];exact Xz9
theorem Xy7:sK (UR (UC++GF)) 3=wk3:=by
 show lnS (UR UC 2) (sK (UR (UC++GF)) 2)=_;rw [Xy8];unfold lnS;rw [if_pos We0];exact Xz8
theorem Xy6:sK (UR (UC++GF)) 4=wk4:=by
 show lnS (UR UC 3) (sK (UR (UC++GF)) 3)=_;rw [Xy7];unfold lnS;rw [if_pos Wd9];exact Xz7
theorem Xy5:sK (UR (UC++GF)) 5=wk5:=by
 show lnS (UR UC 4) (sK (UR (UC++GF)) 4)=_;rw [Xy6];unfold lnS;rw [if_pos Wd8];exact Xz6
theorem Xy4:sK (UR (UC++GF)) 6=wk6:=by
 show lnS (UR UC 5) (sK (UR (UC++GF)) 5)=_;rw [Xy5];unfold lnS;rw [if_pos Wd7];exact Xz5
theorem Xy3:sK (UR (UC++GF)) 7=wk7:=by
 show lnS (UR UC 6) (sK (UR (UC++GF)) 6)=_;rw [Xy4];unfold lnS;rw [if_pos Wd6];exact Xz4
theorem Xy2:sK (UR (UC++GF)) 8=wk8:=by
 show lnS (UR UC 7) (sK (UR (UC++GF)) 7)=_;rw [Xy3];unfold lnS;rw [if_pos Wd5];exact Xz3
theorem Xy1:sK (UR (UC++GF)) 9=wk9:=by
 show lnS (UR UC 8) (sK (UR (UC++GF)) 8)=_;rw [Xy2];unfold lnS;rw [if_pos Wd4];exact Xz2
theorem Wc2:sK (UR (UC++GF)) 10=Qq1:=by
 show lnS (UR UC 9) (sK (UR (UC++GF)) 9)=_;rw [Xy1];unfold lnS;rw [if_pos Wd3];exact Xz1
theorem Wc1:sK (UR (UC++GF)) 11=U1:=by
 show lnS (UR UC 10) (sK (UR (UC++GF)) 10)=_;rw [Wc2];unfold lnS;rw [if_pos pA];exact Wc5
theorem Wc0:sK (UR (UC++GF)) 12=U1:=by
 show lnS (UR GF 0) (sK (UR (UC++GF)) 11)=_;rw [Wc1];unfold lnS;rw [if_neg (by rw [Za6];decide)]
theorem Wb9:sK (UR (UC++GF)) 13=U1:=by
 show lnS (UR GF 1) (sK (UR (UC++GF)) 12)=_;rw [Wc0];unfold lnS;rw [if_neg (by rw [Za5];decide)]
theorem Wb8:sK (UR (UC++GF)) 14=U1:=by
 show lnS (UR GF 2) (sK (UR (UC++GF)) 13)=_;rw [Wb9];unfold lnS;rw [if_neg (by rw [Za4];decide)]
theorem Zk1:sK (UR (UC++GF)) 15=Zm8:=by
 show lnS (UR GF 3) (sK (UR (UC++GF)) 14)=_;rw [Wb8];unfold lnS;rw [if_pos Za3];exact Jg4
theorem Jg2:eK (UR (UC++GF)) 0=0:=by
 show lnE (UR UC 0) (sK (UR (UC++GF)) 0)=_;rw [Xz0];exact We2
theorem Jg1:eK (UR (UC++GF)) 1=0:=by
 show lnE (UR UC 1) (sK (UR (UC++GF)) 1)=_;rw [Xy9];exact We1
theorem Jg0:eK (UR (UC++GF)) 2=0:=by
 show lnE (UR UC 2) (sK (UR (UC++GF)) 2)=_;rw [Xy8];exact We0
theorem Jf9:eK (UR (UC++GF)) 3=0:=by
 show lnE (UR UC 3) (sK (UR (UC++GF)) 3)=_;rw [Xy7];exact Wd9
theorem Jf8:eK (UR (UC++GF)) 4=0:=by
 show lnE (UR UC 4) (sK (UR (UC++GF)) 4)=_;rw [Xy6];exact Wd8
theorem Jf7:eK (UR (UC++GF)) 5=0:=by
 show lnE (UR UC 5) (sK (UR (UC++GF)) 5)=_;rw [Xy5];exact Wd7
theorem Jf6:eK (UR (UC++GF)) 6=0:=by
 show lnE (UR UC 6) (sK (UR (UC++GF)) 6)=_;rw [Xy4];exact Wd6
theorem Jf5:eK (UR (UC++GF)) 7=0:=by
 show lnE (UR UC 7) (sK (UR (UC++GF)) 7)=_;rw [Xy3];exact Wd5
theorem Jf4:eK (UR (UC++GF)) 8=0:=by
 show lnE (UR UC 8) (sK (UR (UC++GF)) 8)=_;rw [Xy2];exact Wd4
theorem Jf3:eK (UR (UC++GF)) 9=0:=by
 show lnE (UR UC 9) (sK (UR (UC++GF)) 9)=_;rw [Xy1];exact Wd3
theorem Zk7:eK (UR (UC++GF)) 10=0:=by
 show lnE (UR UC 10) (sK (UR (UC++GF)) 10)=_;rw [Wc2];exact pA
theorem Zk6:eK (UR (UC++GF)) 11=9:=by
 show lnE (UR GF 0) (sK (UR (UC++GF)) 11)=_;rw [Wc1];exact Za6
theorem Zk5:eK (UR (UC++GF)) 12=10:=by
 show lnE (UR GF 1) (sK (UR (UC++GF)) 12)=_;rw [Wc0];exact Za5
theorem Zk4:eK (UR (UC++GF)) 13=9:=by
 show lnE (UR GF 2) (sK (UR (UC++GF)) 13)=_;rw [Wb9];exact Za4
theorem Zk3:eK (UR (UC++GF)) 14=0:=by
 show lnE (UR GF 3) (sK (UR (UC++GF)) 14)=_;rw [Wb8];exact Za3
theorem Zk2:eK (UR (UC++GF)) 15=0:=by
 show lnE (UR GF 4) (sK (UR (UC++GF)) 15)=_;rw [Zk1];exact Jg5
def wrB:ByteArray:=⟨#[91,48,48,49,58,48,48,50,50,51,93,97,10]⟩
def lnA(_:Nat):ByteArray:=⟨#[97]⟩
def Xw9(s:HS):DP:=λl=>some (.need [l=[lns 16 (UR (UC++GF))]] (.leaf (.tup [.agg (hsL s),.lst 1 16 (λj=>[i (UE [0,0,0,0,0,0,0,0,0,0,0,9,10,9,0,0] j)]),i 0])))
def Zz6:DP:=λl=>some (.need [l=[lns 11 (UR UC)]] (.leaf (.tup [.lst 2 3 (λk=>[i (UE [0,1,-3] k),i (UE [0,5,5] k)]),i 0])))
def Zz3:DP:=λl=>some (.need [l=[lns 11 (UR UC),i 0]] (.leaf (.tup [.lst 1 1 (λk=>[i (UE [0] k)]),i 0])))
def Zz5:DP:=λl=>some (.need [l=[lns 11 (UR UC),i 1]] (.leaf (.tup [.lst 1 2 (λk=>[i (UE [0,1] k)]),.lst 1 1 (λk=>[i (UE [0] k)]),i 0])))
def Zz4:G4:=λl=>some ([l=[lns 11 (UR UC)]],.tup [.x (.string Zq7),i 0])
def Xg4:DP:=λl=>match l with
 |[.lst 1 n f]=>some (.need [n=1,f 0=[.x (.string (lnA 0))]] (.leaf (.tup [.lst 1 13 (HG wrB),i 0])))
 |_=>none
theorem wI{P:Program}{f:FuncId}{avs:List AV}{t sp:VR AV}(h:US P f avs t)(hm: ∀Q:AV->Prop,sp.sat Q->t.sat (λr=> ∃r',FN r r'/\Q r')):US P f avs sp:=by
 intro Q hQ e w args q1 q2 q3 q4;refine (h _ (hm Q hQ) e w args q1 q2 q3 q4).mono ?_;rintro en w' ⟨v,r,rfl,⟨r',g1,g2⟩,g3,g4⟩;exact ⟨v,r',rfl,g2,g3,L9 g1 g4⟩
theorem Jg3:ckE 16 (UR (UC++GF))=0:=by decide+kernel
theorem We8(s:HS)(hs:s=sK (UR (UC++GF)) 16):Sx.Enters Tryz.prog 13/\ ∀avs t,Xw9 s avs=some t->US VU 13 avs t:=by
 refine ⟨(UM Tryz.func13),?_⟩;intro avs t h;cases h;intro Q hQ;have e:avs=[lns 16 (UR (UC++GF))]:=hQ.1;subst e;have h1:=Wx0 16 (UR (UC++GF)) VO;refine wI h1 (sp:= .leaf (.tup [.agg (hsL s),.lst 1 16 (λj=>[i (UE [0,0,0,0,0,0,0,0,0,0,0,9,10,9,0,0] j)]),i 0])) (λQ hq=>⟨λh=>?_,λ_=>?_⟩) Q hQ.2;rw [Jg3] at h;exact absurd h (by decide)
 refine ⟨.tup [.agg (hsL s),.lst 1 16 (λj=>[i (UE [0,0,0,0,0,0,0,0,0,0,0,9,10,9,0,0] j)]),i 0],⟨?_,⟨rfl,rfl,λk hk=>?_⟩,⟨rfl,rfl⟩,Ak⟩,hq⟩;rw [hs];exact Qi2 _;revert k;refine Zc4 (congrArg (λz=>[i z]) Jg2) (congrArg (λz=>[i z]) Jg1) (congrArg (λz=>[i z]) Jg0) (congrArg (λz=>[i z]) Jf9) (congrArg (λz=>[i z]) Jf8) (congrArg (λz=>[i z]) Jf7) (congrArg (λz=>[i z]) Jf6) (congrArg (λz=>[i z]) Jf5) (congrArg (λz=>[i z]) Jf4) (congrArg (λz=>[i z]) Jf3) (congrArg (λz=>[i z]) Zk7) (congrArg (λz=>[i z]) Zk6) (congrArg (λz=>[i z]) Zk5) (congrArg (λz=>[i z]) Zk4) (congrArg (λz=>[i z]) Zk3) (congrArg (λz=>[i z]) Zk2)
theorem Xm5:Sx.Enters Tryz.prog 15/\ ∀avs t,Zz6 avs=some t->US VU 15 avs t:=by
 refine ⟨(UM Tryz.func15),?_⟩;intro avs t h;cases h;intro Q hQ;have e:avs=[lns 11 (UR UC)]:=hQ.1;subst e;have h1:=mO 11 (UR UC) VO;rw [CJ] at h1;refine wI h1 (sp:= .leaf (.tup [.lst 2 3 (λk=>[i (UE [0,1,-3] k),i (UE [0,5,5] k)]),i 0])) (λQ hq=>⟨λh=>?_,λ_=>?_⟩) Q hQ.2;rw [eT] at h;exact absurd h (by decide)
 refine ⟨.tup [.lst 2 3 (λk=>[i (UE [0,1,-3] k),i (UE [0,5,5] k)]),i 0],⟨⟨rfl,Za1,λk hk=>?_⟩,(show FN (i _) (i 0) by rw [Za2];exact ⟨rfl,rfl⟩),Ak⟩,hq⟩
 rcases (show k=0\/k=1\/k=2 by omega) with rfl|rfl|rfl
 show [i _,i _]=_;rw [Wc8,Wd1];rfl;show [i _,i _]=_;rw [Wc7,Wd0];rfl;show [i _,i _]=_;rw [Wc6,Wc9];rfl
theorem Xm2:Sx.Enters Tryz.prog 16/\ ∀avs t,Zz3 avs=some t->US VU 16 avs t:=by
 refine ⟨(UM Tryz.func16),?_⟩;intro avs t h;cases h;intro Q hQ;have e:avs=[lns 11 (UR UC),i 0]:=hQ.1;subst e;have h1:=bS 11 (UR UC) 0 VO;rw [CJ] at h1;have I:U1.nc=1:=VZ;have hc:GG (stP U1 0) 1=1:=by rw [FV Wc4];rfl
 refine wI h1 (sp:= .leaf (.tup [.lst 1 1 (λk=>[i (UE [0] k)]),i 0])) (λQ hq=>⟨λh=>?_,λ_=>⟨λh=>absurd h (by decide),λ_=>?_⟩⟩) Q hQ.2
 rw [eT] at h;exact absurd h (by decide)
 refine ⟨.tup [.lst 1 1 (λk=>[i (UE [0] k)]),i 0],⟨⟨rfl,by rw [I];exact hc,λk hk=>?_⟩,⟨rfl,rfl⟩,Ak⟩,hq⟩
 obtain rfl:k=0:=VO;have h2:=wJ (show 0<U1.nc by rw [I];omega) Wc4
 have h3:GG (stP U1 0) 0=0:=rfl;rw [h3] at h2;show [i _]=_;rw [h2];rfl
theorem Xm4:Sx.Enters Tryz.prog 17/\ ∀avs t,Zz5 avs=some t->US VU 17 avs t:=by
 refine ⟨(UM Tryz.func17),?_⟩;intro avs t h;cases h;intro Q hQ;have e:avs=[lns 11 (UR UC),i 1]:=hQ.1;subst e;have h1:=Qx0 11 (UR UC) 1 VO;rw [CJ] at h1;have c0:GG (caB U1.ns U1.sa U1.sb U1.sc U1.sl U1.sh 1) 0=0:=rfl;have c1:GG (caB U1.ns U1.sa U1.sb U1.sc U1.sl U1.sh 1) 1=1:=by rw [FV We4,c0]
 have c2:GG (caB U1.ns U1.sa U1.sb U1.sc U1.sl U1.sh 1) 2=2:=by rw [FV We3,c1]
 have c3:GG (caB U1.ns U1.sa U1.sb U1.sc U1.sl U1.sh 1) 3=2:=by rw [L3 Zm7,c2]
 have c4:GG (caB U1.ns U1.sa U1.sb U1.sc U1.sl U1.sh 1) 4=2:=by rw [L3 Zm6,c3]
 have d0:GG (suB U1.ns U1.sa U1.sb U1.sc U1.sl U1.sh 1) 0=0:=rfl;have d1:GG (suB U1.ns U1.sa U1.sb U1.sc U1.sl U1.sh 1) 1=1:=by rw [FV Wc3,d0]
 have d2:GG (suB U1.ns U1.sa U1.sb U1.sc U1.sl U1.sh 1) 2=1:=by rw [L3 Zl0,d1]
 have d3:GG (suB U1.ns U1.sa U1.sb U1.sc U1.sl U1.sh 1) 3=1:=by rw [L3 Zk9,d2]
 have d4:GG (suB U1.ns U1.sa U1.sb U1.sc U1.sl U1.sh 1) 4=1:=by rw [L3 Zk8,d3]
 have e0:=wJ (show 0<4 by omega) We4
 have e1:=wJ (show 1<4 by omega) We3
 have f0:=wJ (show 0<4 by omega) Wc3
 rw [c0] at e0;rw [c1] at e1;rw [d0] at f0;refine wI h1 (sp:= .leaf (.tup [.lst 1 2 (λk=>[i (UE [0,1] k)]),.lst 1 1 (λk=>[i (UE [0] k)]),i 0])) (λQ hq=>⟨λh=>?_,λ_=>⟨λh=>absurd h (by decide),λ_=>⟨λh=>?_,λ_=>?_⟩⟩⟩) Q hQ.2
 rw [eT] at h;exact absurd h (by decide)
 rw [Wd2] at h;exact Bool.noConfusion h;refine ⟨.tup [.lst 1 2 (λk=>[i (UE [0,1] k)]),.lst 1 1 (λk=>[i (UE [0] k)]),i 0],⟨⟨rfl,c4,λk hk=>?_⟩,⟨rfl,d4,λk hk=>?_⟩,⟨rfl,rfl⟩,Ak⟩,hq⟩;rcases (show k=0\/k=1 by omega) with rfl|rfl
 show [i _]=_;rw [e0];rfl;show [i _]=_;rw [e1];rfl;obtain rfl:k=0:=VO;show [i _]=_;rw [f0];rfl
theorem Xm3:VT VU 18 Zz4:=by
 refine ⟨(UM Tryz.func18),?_⟩;intro avs ns W h I;cases h;have e:avs=[lns 11 (UR UC)]:=I _ GN;subst e;exact mN
theorem Xm1:Sx.Enters Tryz.prog 6/\ ∀avs t,Xg4 avs=some t->US VU 6 avs t:=by
 refine ⟨(UM Tryz.func6),?_⟩;intro avs t h;unfold Xg4 at h;split at h;rename_i n f;cases h;intro Q hQ;obtain rfl:n=1:=hQ.1.1;have h2:f 0=[.x (.string (lnA 0))]:=hQ.1.2;have h1:=SY 1 lnA VO;have hb:flB lnA 1=wrB:=by decide+kernel
 rw [hb] at h1;have h3:US VU 6 [.lst 1 1 f] (.leaf (.tup [.lst 1 13 (HG wrB),i 0])):=by
  intro Q hq e w args q1 q2 q3 q4;refine h1 Q ⟨λh=>?_,λ_=>hq⟩ e w args q1 q2 ?_ ?_;rw [show ckE 1 lnA=0 by decide+kernel] at h
  exact absurd h (by decide)
  intro a ha;rw [B2.1 ha];exact .lst _ _ _ λk _ x hx=>by rw [B2.1 hx];exact .x _
  obtain ⟨u,us,rfl,r1,r2⟩:=q4.cons_inv;refine .cons (L9 (a:= .lst 1 1 f) ⟨rfl,rfl,λk hk=>?_⟩ r1) r2;obtain rfl:k=0:=VO;exact h2
 exact h3 Q hQ.2;cases h
theorem Zt3{a b:ByteArray}(h:(a.toList==b.toList)=false)(e:a=b):False:=by
 subst e;simp at h
abbrev WH:List Int:=[(0:Int),0,0,0,0,0,0,0,0,0,0,(9:Int),(10:Int),(9:Int),(0:Int),(0:Int)]
abbrev JD:List AV:=[lst 1 11 λk=>[HP (UR UC k)],iI 0]
abbrev JE:List AV:=[lst 1 11 λk=>[HP (UR UC k)],iI 1]
abbrev JH:List AV:=[lst 1 16 λk=>[HP (UR (UC++GF) k)]]
theorem Qq3(s:HS)(VW:s=sK (UR (UC++GF)) 16):U2 VU 5 [] (bl true):=by
 refine G7 (L:=[]) (Ae Xl8 (Ae Wn6 (Ae Xm3 Aa))) (Aj Ab Ac (Ah (We8 s VW) (Ah Xm5 (Ah Xm2 (Ah Xm4 (Ah Xm1 (UJ.nil _))))))) U3 Tryz.func5 (UW Tryz.f5) G9 (t:=let A:=(UA 1 [iI 0,iI 1]);let z1:=(UA 1 [iI 0]);(need [5=5,GZ 5 (UA 1 [AV.x (.string {data:=#[116,104,114,101,97,100,32,48,32,50,32,52,48,32,52,48] }),AV.x (.string {data:=#[105,115,115,117,101,32,48,32,52,32,56,48,32,48] }),AV.x (.string {data:=#[115,101,101,32,48,32,49,48,48] }),AV.x (.string {data:=#[115,116,114,105,107,101,32,49] }),AV.x (.string {data:=#[118,111,105,100,32,48] })]) (λk=>[HP (UR GF k)])] (need [JH=JH] (need [WM=WM] (need [JD=JD] (need [JE=JE] (need [WM=WM] (need [1=1,[AV.x (.string {data:=#[97] })]=[HP (lnA 0)]] (branch ((0:Int)==0) (branch (((16:Nat):Int)==16) (need [UO 10 16] (branch (UE WH (10:Int).toNat==0) (need [UO 11 16] (branch (UE WH (11:Int).toNat==9) (need [UO 12 16] (branch (UE WH (12:Int).toNat==10) (need [UO 13 16] (branch (UE WH (13:Int).toNat==9) (need [UO 14 16] (branch (UE WH (14:Int).toNat==0) (need [UO 15 16] (branch (UE WH (15:Int).toNat==0) (branch ((0:Int)==0) (branch (((3:Nat):Int)==3) (need [UO 1 3] (branch (UE WX (1:Int).toNat==1&&(UE Z7 (1:Int).toNat==5&&true)) (need [UO 2 3] (branch (UE WX (2:Int).toNat==(-3:Int)&&(UE Z7 (2:Int).toNat==5&&true)) (branch ((0:Int)==0) (need [UL 1 1 λk=>[i (UE [(0:Int)] k)],UL 1 1 z1,1<=100000] (branch (decide (1=1)&&(true&&UE [(0:Int)] (nat_lit 0)==col 0 z1 (nat_lit 0))) (branch ((0:Int)==0) (need [UL 1 2 λk=>[i (UE [(0:Int),1] k)],UL 1 2 A,2<=100000] (branch (decide (2=2)&&(true&&UE [(0:Int),1] (nat_lit 0)==col 0 A (nat_lit 0)&&UE [(0:Int),1] (nat_lit 1)==col 0 A (nat_lit 1))) (need [UL 1 1 λk=>[i (UE [(0:Int)] k)],UL 1 1 z1,1<=100000] (branch (decide (1=1)&&(true&&UE [(0:Int)] (nat_lit 0)==col 0 z1 (nat_lit 0))) (branch ((0:Int)==0) (branch (ByteArray.toList Zq7==ByteArray.toList {data:=List.toArray (List.append (List.append [(114:UInt8),(101:UInt8),(97:UInt8),(100:UInt8),(105:UInt8),(110:UInt8),(103:UInt8),(115:UInt8),(32:UInt8),(50:UInt8),(32:UInt8),(98:UInt8),(97:UInt8),(116:UInt8),(104:UInt8),(115:UInt8),(32:UInt8),(50:UInt8),(32:UInt8),(99:UInt8),(101:UInt8),(114:UInt8),(116:UInt8),(105:UInt8),(102:UInt8),(105:UInt8),(99:UInt8),(97:UInt8),(116:UInt8),(101:UInt8),(115:UInt8),(32:UInt8),(49:UInt8),(32:UInt8)] [(115:UInt8),(97:UInt8),(108:UInt8),(101:UInt8),(115:UInt8),(32:UInt8),(50:UInt8),(10:UInt8),(109:UInt8),(97:UInt8),(114:UInt8),(107:UInt8),(115:UInt8),(32:UInt8),(48:UInt8),(46:UInt8),(46:UInt8),(48:UInt8),(32:UInt8),(50:UInt8),(48:UInt8),(48:UInt8),(46:UInt8),(46:UInt8),(51:UInt8),(48:UInt8),(48:UInt8),(32:UInt8),(52:UInt8),(49:UInt8),(48:UInt8),(46:UInt8),(46:UInt8),(53:UInt8)]) (List.append [(49:UInt8),(48:UInt8),(32:UInt8),(55:UInt8),(48:UInt8),(48:UInt8),(46:UInt8),(46:UInt8),(56:UInt8),(48:UInt8),(48:UInt8),(32:UInt8),(49:UInt8),(48:UInt8),(48:UInt8),(48:UInt8),(46:UInt8),(46:UInt8),(49:UInt8),(48:UInt8),(48:UInt8),(48:UInt8),(10:UInt8),(111:UInt8),(102:UInt8),(102:UInt8),(115:UInt8),(101:UInt8),(116:UInt8),(115:UInt8),(32:UInt8),(48:UInt8),(46:UInt8),(46:UInt8)] [(48:UInt8),(32:UInt8),(49:UInt8),(46:UInt8),(46:UInt8),(53:UInt8),(32:UInt8),(45:UInt8),(51:UInt8),(46:UInt8),(46:UInt8),(53:UInt8),(10:UInt8),(115:UInt8),(116:UInt8),(97:UInt8),(110:UInt8),(100:UInt8),(32:UInt8),(48:UInt8),(10:UInt8),(104:UInt8),(111:UInt8),(108:UInt8),(100:UInt8),(32:UInt8),(52:UInt8),(32:UInt8),(50:UInt8),(32:UInt8),(52:UInt8),(32:UInt8),(48:UInt8),(10:UInt8)])) }) (branch ((0:Int)==0) (need [R9 13 (HG wrB)] (leaf (RV.x (.bool (ByteArray.toList (bsO 13 (HG wrB))==ByteArray.toList {data:=#[91,48,48,49,58,48,48,50,50,51,93,97,10] }))))) (leaf (RV.x (WL)))) (leaf (RV.x (WL)))) (leaf (RV.x (WL)))) (leaf (RV.x (WL))))) (leaf (RV.x (WL))))) (leaf (RV.x (WL)))) (leaf (RV.x (WL))))) (leaf (RV.x (WL)))) (leaf (RV.x (WL))))) (leaf (RV.x (WL))))) (leaf (RV.x (WL)))) (leaf (RV.x (WL)))) (leaf (RV.x (WL))))) (leaf (RV.x (WL))))) (leaf (RV.x (WL))))) (leaf (RV.x (WL))))) (leaf (RV.x (WL))))) (leaf (RV.x (WL))))) (leaf (RV.x (WL)))) (leaf (RV.x (WL)))))))))))) VZ ?_
 have hw:bsO 13 (HG wrB)=wrB:=Zy6 wrB;simp only [VR.sat,UF,G6,GQ,UH,UK,VQ,hw]
 (with_reducible repeat' first|apply Al|intro _)
 all_goals first|exact Ak|contradiction|(rename_i h;exact (Zt3 h VZ).elim)|omega|exact Qa8 (by decide+kernel)|(intro k hk;exact ltM VZ k hk)|(rename_i k hk;exact ltM VZ k hk)|(rename_i k hk;revert k;refine ltM ?_;kernel_rfl)|(intro k hk;revert k;refine ltM ?_;kernel_rfl)|decide|decide+kernel|rfl
def Ql3:G4
 |[]=>some ([],bl true)
 |_=>none
theorem We7:VT VU 5 Ql3:=by
 refine ⟨(UM Tryz.func5),?_⟩;intro avs ns W h I;unfold Ql3 at h;split at h;cases h;exact Qq3 _ rfl;cases h
section
variable (n:Nat)(L:Cf)
def thA:Bool:=DH (λk=>decide (((L k).size:Int)<=210)) (min n 56)
def thB:Bool:=thA n L&&decide ((n:Int)<=55)
def rgB:Bool:=DH (λk=>decide (((L k).size:Int)<=200)) n&&decide ((n:Int)<=50)
def Xj8:St:={σ:=[Q6 n L]++HR 22 [],m:=[],nx:=2}
noncomputable def Kb5:Code:=UD (VX (UB Tryz.f4) 0)
def Wp3(k:Nat):St:=(upM [(3,i k)] (Xj8 n L))
def uK(k:Nat):G8->Option St
 | .exit 0=>some (upM [] (Xj8 n L))
 | .ret=>some (upM [(2,.lit false)] (Xj8 n L))
 |_=>none
def Jw4:CT:= .branch (DH ((λk=>decide (((L k).size:Int)<=210))) (min n 56)) (.leaf (.exit 0,(uK n L 0 (.exit 0)).getD (Xj8 n L))) (.leaf (.ret,(uK n L 0 .ret).getD (Xj8 n L)))
def Zf1:UN:=(HI (Wp3 n L (0)) (Jw4 n L))
theorem Ji9(VW:(min n 56)<=100000):GD VU (.loop Kb5) (Zf1 n L):=by
 refine HO (L:=[]) Aa U3 U7 (X:=Nat) (Wp3 n L) (λk=>k<=(min n 56)/\ ∀j,j<k->((λk=>decide (((L k).size:Int)<=210))) j=true) (λk=>(min n 56)-k) (uK n L) (x0:=0) ⟨VO,λj hj=>VO⟩ ?_ ?_ ?_;rintro k;kernel_rfl;rintro k y E h;unfold uK at h;split at h;cases h;kernel_rfl;cases h;kernel_rfl;cases h
 ·rintro Q hQ k hx;refine ⟨(k+1),?_⟩;(with_reducible refine DG (t:=let A:=(need [U4 (Q6 n L)] (leaf (G8.exit 0)));(branch (decide ((k:Int)<(n:Int))) (branch (decide ((k:Int)<56)) (need [UO k n] (branch (decide ((↑(ByteArray.size (L k)):Int)>210)) (need [U4 (Q6 n L),WN] (leaf G8.ret)) (need [VQ ((k:Int)+1)] (need [U4 (Q6 n L),(k:Int)+1=(↑(k+1):Int)] (leaf G8.normal))))) A) A)) VZ ?_);simp only [Jw4,uK,VR.sat,GW] at hQ;have Ww6:k<(min n 56)->((λk=>decide (((L k).size:Int)<=210))) k=false->DH ((λk=>decide (((L k).size:Int)<=210))) (min n 56)=false:=by
   intro h1 h2;rw [←Bool.not_eq_true];intro h3;have:=H3.1 h3 k h1;exact Bool.noConfusion (h2.symm.trans this)
  have dM:((λk=>decide (((L k).size:Int)<=210))) k=true-> ∀j,j<k+1->((λk=>decide (((L k).size:Int)<=210))) j=true:=by
   intro h1 j hj;rcases (show j<k\/j=k by omega) with h|rfl
   exact hx.2 j h;exact h1
  have PR: ¬k<(min n 56)->DH ((λk=>decide (((L k).size:Int)<=210))) (min n 56)=true:=λh=>H3.2 (λj hj=>hx.2 j VO);have hQ1: ∀E,uK n L k .ret=some E->DH ((λk=>decide (((L k).size:Int)<=210))) (min n 56)=false->Q (.ret,E):=by
   intro E hE hf;cases hE;exact hQ.2 hf
  have hQ2: ∀E,uK n L k (.exit 0)=some E->DH ((λk=>decide (((L k).size:Int)<=210))) (min n 56)=true->Q (.exit 0,E):=by
   intro E hE hf;cases hE;exact hQ.1 hf
  simp only [VR.sat,UF,UK,H6,VQ,DR]
  all_goals exact V8
theorem Wo3:U2 VU 4 [lns n L] (bl (thB n L)):=by
 refine U6 (L:=[FX [min n 56<=100000] (Zf1 n L)]) Aa U3 Tryz.func4 (UW Tryz.f4) (G0 (lpE (b:= .loop Kb5) VZ<|DB (λh=>Ji9 n L h))) (t:=need [min n 56<=100000] (need [U4 (Q6 n L),(0:Int)=((0:Nat):Int)] (branch (DH (λk=>decide ((↑(ByteArray.size (L k)):Int)<=210)) (min n 56)) (leaf (RV.x (.bool (decide ((n:Int)<=55))))) (leaf (RV.x (WL)))))) VZ ?_
 simp only [VR.sat,UF,G6,GQ,UH,VQ,UK,H6,FW];unfold thB thA;refine ⟨VO,λh=>?_,λh=>?_⟩;simp [h];simp [h]
def Xx2:G4:=λl=>some ([l=[lns n L]],bl (thB n L))
theorem Qt9:VT VU 4 (Xx2 n L):=by
 refine ⟨(UM Tryz.func4),?_⟩;intro avs ns W h I;cases h;have e:=I _ GN;subst e;exact Wo3 n L
def e8:St:={σ:=[Q6 n L]++HR 18 [],m:=[],nx:=2}
noncomputable def Xl2:Code:=UD (VX (UB Tryz.f24) 0)
def IV(k:Nat):St:=(upM [(3,i k)] (e8 n L))
def B6(k:Nat):G8->Option St
 | .exit 0=>some (upM [] (e8 n L))
 | .ret=>some (upM [(2,.lit false)] (e8 n L))
 |_=>none
def Xe6:CT:= .branch (DH ((λk=>decide (((L k).size:Int)<=200))) n) (.leaf (.exit 0,(B6 n L 0 (.exit 0)).getD (e8 n L))) (.leaf (.ret,(B6 n L 0 .ret).getD (e8 n L)))
def oN:UN:=(HI (IV n L (0)) (Xe6 n L))
theorem Wi4(VW:n<=100000):GD VU (.loop Xl2) (oN n L):=by
 refine HO (L:=[]) Aa U3 U7 (X:=Nat) (IV n L) (λk=>k<=n/\ ∀j,j<k->((λk=>decide (((L k).size:Int)<=200))) j=true) (λk=>n-k) (B6 n L) (x0:=0) ⟨VO,λj hj=>VO⟩ ?_ ?_ ?_;rintro k;kernel_rfl;rintro k y E h;unfold B6 at h;split at h;cases h;kernel_rfl;cases h;kernel_rfl;cases h
 ·rintro Q hQ k hx;refine ⟨(k+1),?_⟩;(with_reducible refine DG (t:=branch (decide ((k:Int)<(n:Int))) (need [UO k n] (branch (decide ((↑(ByteArray.size (L k)):Int)>200)) (need [U4 (Q6 n L),WN] (leaf G8.ret)) (need [VQ ((k:Int)+1)] (need [U4 (Q6 n L),(k:Int)+1=(↑(k+1):Int)] (leaf G8.normal))))) (need [U4 (Q6 n L)] (leaf (G8.exit 0)))) VZ ?_);simp only [Xe6,B6,VR.sat,GW] at hQ;have Ww6:k<n->((λk=>decide (((L k).size:Int)<=200))) k=false->DH ((λk=>decide (((L k).size:Int)<=200))) n=false:=by
   intro h1 h2;rw [←Bool.not_eq_true];intro h3;have:=H3.1 h3 k h1;exact Bool.noConfusion (h2.symm.trans this)
  have dM:((λk=>decide (((L k).size:Int)<=200))) k=true-> ∀j,j<k+1->((λk=>decide (((L k).size:Int)<=200))) j=true:=by
   intro h1 j hj;rcases (show j<k\/j=k by omega) with h|rfl
   exact hx.2 j h;exact h1
  have PR: ¬k<n->DH ((λk=>decide (((L k).size:Int)<=200))) n=true:=λh=>H3.2 (λj hj=>hx.2 j VO);have hQ1: ∀E,B6 n L k .ret=some E->DH ((λk=>decide (((L k).size:Int)<=200))) n=false->Q (.ret,E):=by
   intro E hE hf;cases hE;exact hQ.2 hf
  have hQ2: ∀E,B6 n L k (.exit 0)=some E->DH ((λk=>decide (((L k).size:Int)<=200))) n=true->Q (.exit 0,E):=by
   intro E hE hf;cases hE;exact hQ.1 hf
  simp only [VR.sat,UF,UK,H6,VQ,DR]
  all_goals exact V8
theorem Qu2(VW:n<=100000):U2 VU 24 [lns n L] (bl (rgB n L)):=by
 refine U6 (L:=[FX [n<=100000] (oN n L)]) Aa U3 Tryz.func24 (UW Tryz.f24) (G0 (lpE (b:= .loop Xl2) VZ<|DB (λh=>Wi4 n L h))) (t:=need [n<=100000] (need [U4 (Q6 n L),(0:Int)=((0:Nat):Int)] (branch (DH (λk=>decide ((↑(ByteArray.size (L k)):Int)<=200)) n) (leaf (RV.x (.bool (decide ((n:Int)<=50))))) (leaf (RV.x (WL)))))) VZ ?_
 simp only [VR.sat,UF,G6,GQ,UH,VQ,UK,H6,FW];unfold rgB;refine ⟨VO,λh=>?_,λh=>?_⟩;simp [h];simp [h]
def Wa4:G4:=λl=>some ([l=[lns n L],n<=100000],bl (rgB n L))
theorem sY:VT VU 24 (Wa4 n L):=by
 refine ⟨(UM Tryz.func24),?_⟩;intro avs ns W h I;cases h;have e:avs=[lns n L]:=I _ VY;have h0:n<=100000:=I _ VY;subst e;exact Qu2 n L h0
theorem Wo4(VW:n<=100000):U2 VU 7 [lns n L] (lns n L):=by
 refine G7 (L:=[]) Aa Ad U3 Tryz.func7 (UW Tryz.f7) G9 (t:=need [(0+n)*16<=140737488355328,∀(i:Nat),i<n-> ∀(a:AV),a∈[HP (L i)]->AV.one a=true] (leaf (RV.lst 1 (0+n) (GL 0 (λx=>[]) λk=>[HP (L k)])))) VZ ?_;simp only [VR.sat,UF,G6,true_and]
 (with_reducible repeat' first|apply Al|intro _)
 all_goals first|exact Ak|omega|(rename_i ha;rw [B2.1 ha];first|exact Ak|rfl)|exact TA _ _|rfl|trace_state
def Ja9:St:={σ:=[Q6 n L,Q6 n L]++HR 24 [],m:=[],nx:=7}
noncomputable def Kb4:Code:=UD (VX (UB Tryz.f10) 0)
def Wp2(k:Nat):St:=(upM [(5,i k)] (Ja9 n L))
def EK(k:Nat):G8->Option St
 | .exit 0=>some (upM [(5,i n)] (Ja9 n L))
 |_=>none
def Jw3:CT:= .leaf (.exit 0,(EK n L 0 (.exit 0)).getD (Ja9 n L))
def Zf0:UN:=GO [] (HI (Wp2 n L (0)) (Jw3 n L))
theorem Ji3(VW:n<=100000):GD VU (.loop Kb4) (Zf0 n L):=by
 refine UV [] (L:=[]) Aa Ad U3 U7 (X:=Nat) (Wp2 n L) (λk=>k<=n) (λk=>n-k) (EK n L) (x0:=0) VY ?_ ?_ ?_;rintro k;kernel_rfl;rintro k y E h;unfold EK at h;split at h;cases h;kernel_rfl;cases h;rintro Q hQ k hx;refine ⟨(k+1),?_⟩;(with_reducible refine DG (t:=branch (decide ((k:Int)<(n:Int))) (need [UO k n] (need [UO k n] (branch (!ByteArray.toList (L k)==ByteArray.toList (L k)) VR.fail (need [VQ ((k:Int)+1)] (need [U4 (Q6 n L),U4 (Q6 n L),(k:Int)+1=(↑(k+1):Int)] (leaf G8.normal)))))) (need [U4 (Q6 n L),U4 (Q6 n L),(k:Int)=(n:Int)] (leaf (G8.exit 0)))) VZ ?_);simp only [Jw3,EK,VR.sat,GW] at hQ;simp only [VR.sat,UF,G6,GQ,UH,VQ,UK,H6,FW,FZ,RP,GR,EK]
 refine ⟨λh=>?_,λh=>?_⟩
 ·have hk:k<n:=VO
  (with_reducible repeat' first|apply Al|intro _)
  all_goals first|exact LN|((exfalso;rename_i h9;simp at h9;done))
 obtain rfl:k=n:=VO;exact V1
theorem Qu1(VW:n<=100000):U2 VU 10 [lns n L,lns n L] (bl true):=by
 refine G7 (L:=[Zf0 n L]) Aa Ad U3 Tryz.func10 (UW Tryz.f10) (G0 (lpE (b:= .loop Kb4) VZ<|(Ji3 n L VW).N)) (t:=branch ((n:Int) != (n:Int)) (leaf (RV.x (WL))) (need [U4 (Q6 n L),U4 (Q6 n L),(0:Int)=((0:Nat):Int)] (leaf (RV.x (.bool true))))) VZ ?_
 simp only [VR.sat,UF,G6,GQ,UH,UK,VQ,DR]
 (with_reducible repeat' first|apply Al|intro _)
 all_goals first|exact Ak|omega|rfl|contradiction|(exfalso;rename_i h9;simp at h9;done)|trace_state
theorem Jl8:ckE n L=if rgB n L=true then 0 else 3:=by
 have h:(n<=50/\shB n L 200=true)↔rgB n L=true:=by
  unfold rgB shB;rw [HF,vK];constructor;rintro ⟨h1,h2⟩;exact ⟨h2,VO⟩;rintro ⟨h1,h2⟩;exact ⟨VO,h1⟩
 unfold ckE;by_cases h1:rgB n L=true;rw [if_pos h1,if_pos (h.2 h1)];rw [if_neg h1,if_neg λh2=>h1 (h.1 h2)]
end
theorem Jj0{n:Nat}{L:Cf}(h:thB n L=true):n<=55:=by
 unfold thB at h;rw [HF,vK] at h;omega
theorem Qu4(n:Nat)(L:Cf)(VW:n<=100000):U2 VU 11 [lns n L] (i (ckE n L)):=by
 refine U6 (L:=[]) (Ae (sY n L) Aa) U3 Tryz.func11 (UW Tryz.f11) U7 (t:=need [(KD n L),n<=100000] (branch (!rgB n L) (leaf (RV.x (KA))) (leaf (RV.x (WV))))) VZ ?_;simp only [VR.sat,UF,G6,UH,UK,Jl8]
 (with_reducible repeat' first|apply Al|intro _)
 all_goals first|exact Ak|assumption|simp_all
def lnF(f:Ci)(k:Nat):ByteArray:=stO (f k)
def sF(n:Nat)(f g:Ci):Prop:= ∀k,k<n->f k=g k
def nY:G4
 |[.lst 1 n f,.lst 1 n2 g]=>some ([n2=n,n<=100000,sF n f (λk=>[.x (.string (lnF f k))]),sF n g f],bl true)
 |_=>none
section
variable (n:Nat)(L:Cf)
def Xh0:G4:=λl=>some ([l=[lns n L],n<=100000],lns n L)
def Xh7:G4:=λl=>some ([l=[lns n L],n<=100000],i (ckE n L))
def Xg7:G4:=λl=>some ([l=[lns n L],ckE n L=0],.x (.string (flB L n)))
end
section
variable (N:Nat)(B:ByteArray)(m:Nat)(R:Cf)
def Xg6:G4:=λl=>some ([l=[.x (.string B)],B.size=N,rcI N B m R],.tup [.lst 1 (m50 m) (λz=>[.x (.string (R z))]),i (GE R (m50 m):Nat)])
def Xg5:DP:=λl=>match l with
 |[.lst 1 N2 f]=>some (.need [N2=N,sF N f (HG B),rcI N B m R] (.leaf (.tup [.lst 1 (m50 m) (λz=>[.x (.string (R z))]),i (GE R (m50 m):Nat)])))
 |_=>none
end
section
variable (n:Nat)(L:Cf)
def Ka3:DP:=λl=>some (.need [l=[lns n L],n<=100] (.branch (ckE n L != 0) (.leaf (.tup [.x (.slice none 0 0),i (ckE n L)])) (.leaf (.tup [.lst 1 (flB L n).size (HG (flB L n)),i 0]))))
theorem Qu3:VT VU 7 (Xh0 n L):=by
 refine ⟨(UM Tryz.func7),?_⟩;intro avs ns W h I;cases h;have e:avs=[lns n L]:=I _ VY;have h0:n<=100000:=I _ VY;subst e;exact Wo4 n L h0
theorem Qx7:VT VU 11 (Xh7 n L):=by
 refine ⟨(UM Tryz.func11),?_⟩;intro avs ns W h I;cases h;have e:avs=[lns n L]:=I _ VY;have h0:n<=100000:=I _ VY;subst e;exact Qu4 n L h0
theorem Qr7:VT VU 12 (Xg7 n L):=by
 refine ⟨(UM Tryz.func12),?_⟩;intro avs ns W h I;cases h;have e:avs=[lns n L]:=I _ VY;have h0:ckE n L=0:=I _ VY;subst e;exact Wj9 n L (nF h0).1 (nF h0).2
end
section
variable (N:Nat)(B:ByteArray)(m:Nat)(R:Cf)
theorem Qr6:VT VU 9 (Xg6 N B m R):=by
 refine ⟨(UM Tryz.func9),?_⟩;intro avs ns W h I;cases h;have e:avs=[.x (.string B)]:=I _ VY;have h0:B.size=N:=I _ VY;have h1:rcI N B m R:=I _ VY;subst e;exact Wj8 N B m R h1 h0
theorem Qu0:VT VU 10 nY:=by
 refine ⟨(UM Tryz.func10),?_⟩;intro avs ns W h I;unfold nY at h;split at h;rename_i n f n2 g;cases h;obtain rfl:n2=n:=I _ VY;have h1:n2<=100000:=I (n2<=100000) VY;have h2:sF n2 f (λk=>[.x (.string (lnF f k))]):=I (sF n2 f (λk=>[.x (.string (lnF f k))])) VY;have h3:sF n2 g f:=I (sF n2 g f) VY;exact (Qu1 n2 (lnF f) h1).same (.cons (.lst 1 n2 _ _ h2) (.cons (.lst 1 n2 _ _ λk hk=>(h3 k hk).trans (h2 k hk)) .nil));cases h
theorem Xo0:Sx.Enters Tryz.prog 8/\ ∀avs t,Xg5 N B m R avs=some t->US VU 8 avs t:=by
 refine ⟨(UM Tryz.func8),?_⟩;intro avs t h;unfold Xg5 at h;split at h;rename_i N2 f;cases h;intro Q hQ;obtain rfl:N2=N:=hQ.1.1;have h2:sF N2 f (HG B):=hQ.1.2.1;intro e w args q1 q2 q3 q4;refine Xs6 N2 B m R hQ.1.2.2 Q hQ.2 e w args q1 q2 ?_ ?_;intro a ha;rw [B2.1 ha];exact .lst _ _ _ λk _ x hx=>by rw [B2.1 hx];exact .x _
 obtain ⟨u,us,rfl,r1,r2⟩:=q4.cons_inv;exact .cons (L9 (a:= .lst 1 N2 f) ⟨rfl,rfl,h2⟩ r1) r2;cases h
end
theorem Zk0(n:Nat)(L:Cf):Sx.Enters Tryz.prog 6/\ ∀avs t,Ka3 n L avs=some t->US VU 6 avs t:=by
 refine ⟨(UM Tryz.func6),?_⟩;intro avs t h;cases h;intro Q hQ;have e:avs=[lns n L]:=hQ.1.1;have h0:n<=100:=hQ.1.2;subst e;exact SY n L h0 Q hQ.2
abbrev KN(R:Cf):Ci:=λz=>[HP (R z)]
theorem Xl4(n:Nat)(L:Cf)(N:Nat)(B:ByteArray)(m:Nat)(R:Cf)(VW:N<=4000->rcI N B m R)(UG:B.size=N):U2 VU 3 [lns n L,.lst 1 N (HG B)] (bl true):=by
 refine G7 (L:=[]) (Ae (Qt9 n L) (Ae We7 (Ae Qu0 (Ae (Qu3 n L) (Ae (Qx7 n L) (Ae (Qr7 n L) (Ae (Qr6 N B m R) Aa))))))) (Aj Ab Ac (Ah (Xo0 N B m R) (Ah (Zk0 n L) (UJ.nil _)))) U3 Tryz.func3 (UW Tryz.f3) G9 (t:=let A:=(leaf (RV.x (.bool true)));let z1:=(ByteArray.size (flB L n));(need [(KD n L)] (branch (!thB n L) A (branch (decide ((N:Int)>4000)) A (need [(KD n L),n<=100000] (need [(KD n L),n<=100] (branch (ckE n L != 0) (need [(0+N)*1<=140737488355328,∀(i:Nat),i<N-> ∀(a:AV),a∈HG B i->AV.one a=true] (need [0+N=N,sF N (GL 0 (λx=>[]) (HG B)) (HG B),rcI N B m R] (need [R9 N (HG B)] (need [[HP (bsO N (HG B))]=[ZB B],ByteArray.size B=N,rcI N B m R] (need [m50 m=m50 m,m50 m<=100000,sF (m50 m) ((KN R)) λk=>[AV.x (.string (lnF ((KN R)) k))],sF (m50 m) ((KN R)) λz=>[HP (R z)]] (branch (!true) (leaf (RV.x (WL))) (branch ((↑(GE R (m50 m)):Int) != (↑(GE R (m50 m)):Int)) (leaf (RV.x (WL))) (need [(KD n L),n<=100000] (branch (ckE n L != 0) (branch (ckE n L==ckE n L) (branch (((0:Nat):Int)==0) A (leaf (RV.x (WL)))) (leaf (RV.x (WL)))) (branch (ckE n L==0) (need [(KD n L),ckE n L=0] (branch (ByteArray.toList ByteArray.empty==ByteArray.toList (flB L n)) A (leaf (RV.x (WL))))) (leaf (RV.x (WL))))))))))))) (need [(0+N)*1<=140737488355328,∀(i:Nat),i<N-> ∀(a:AV),a∈HG B i->AV.one a=true] (need [0+N=N,sF N (GL 0 (λx=>[]) (HG B)) (HG B),rcI N B m R] (need [R9 N (HG B)] (need [[HP (bsO N (HG B))]=[ZB B],ByteArray.size B=N,rcI N B m R] (need [m50 m=m50 m,m50 m<=100000,sF (m50 m) ((KN R)) λk=>[AV.x (.string (lnF ((KN R)) k))],sF (m50 m) ((KN R)) λz=>[HP (R z)]] (branch (!true) (leaf (RV.x (WL))) (branch ((↑(GE R (m50 m)):Int) != (↑(GE R (m50 m)):Int)) (leaf (RV.x (WL))) (need [(KD n L),n<=100000] (branch (ckE n L != 0) (branch ((0:Int)==ckE n L) (branch ((z1:Int)==0) A (leaf (RV.x (WL)))) (leaf (RV.x (WL)))) (branch ((0:Int)==0) (need [R9 z1 (HG (flB L n))] (need [(KD n L),ckE n L=0] (branch (ByteArray.toList (bsO z1 (HG (flB L n)))==ByteArray.toList (flB L n)) A (leaf (RV.x (WL)))))) (leaf (RV.x (WL)))))))))))))))))))) VZ ?_;have h55:thB n L=true->n<=55:=Jj0;have hb0:R9 N (HG B):=λj _=>by1 (by have:=vA B j;omega)
 have hb1:sF N (GL 0 (λx=>[]) (HG B)) (HG B):=λj _=>TA _ _;have hb2:bsO N (HG B)=B:=xH UG λj _=>rfl;have hb3:bsO (flB L n).size (HG (flB L n))=flB L n:=xH rfl λj _=>rfl;have hb4:R9 (flB L n).size (HG (flB L n)):=λj _=>by1 (by have:=vA (flB L n) j;omega)
 have hm:m50 m<=50:=by
  unfold m50;split<;>omega
 simp only [VR.sat,UF,G6,GQ,UH,UK,VQ,DR,hb2,hb3];refine ⟨λ_=>Ak,λh=>?_⟩;have I:=h55 (by simpa using h)
 refine ⟨λ_=>Ak,λh4=>?_⟩;have hN4:N<=4000:=by simp at h4;omega
 have hI:=VW hN4;have hc: ∀{i:Nat} {a:AV},a∈HG B i->AV.one a=true:=λh=>by rw [B2.1 h];rfl
 (with_reducible repeat' first|apply Al|intro _)
 all_goals first|exact Ak|omega|rfl|contradiction|exact UG|exact hI|exact hb0|exact hb1|exact hb4|exact hc (by assumption)|(intro j _;rfl)|(exfalso;rename_i h9;simp at h9;done)|simp_all|trace_state
