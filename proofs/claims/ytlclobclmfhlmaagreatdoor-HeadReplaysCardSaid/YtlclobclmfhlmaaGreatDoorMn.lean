/- Contracts, put together. Conditions: those of each. -/
import Derived.Test.YtlclobclmfhlmaaGreatDoorMm
import Derived.RangeFuncRecord
set_option linter.unusedSimpArgs false
set_option linter.unusedVariables false
set_option maxRecDepth 100000
namespace Go.Proofs.YtlclobclmfhlmaaGreatDoor.Hd
open Go Go.RowKit
structure aQ (w w':World):Prop where
 size:w.heap.size<=w'.heap.size
 os:w'.os=w.os
 tape:w'.tape=w.tape
 output:w'.output=w.output
theorem Zc3{w:World}{p:Nat}{v:Value}{T:TypeId}(h:w.heap[p]? =some (.cells #[v] T (0,0)))(y:Nat):(w.setCell ⟨p,0,none⟩ v).heap[y]? =w.heap[y]? :=by
 by_cases hy:y=p
 ·subst hy;rw [heap_setCell_same w y 0 _ _ v h,h];rfl
 ·exact heap_setCell_other _ _ _ _ hy
abbrev Z0(b:Nat):Value:=Value.pointer (some ⟨b,0,none⟩)
abbrev K9:Value:=Value.int IntKind.i64 0
set_option maxHeartbeats 2000000 in
theorem Zh6(b:Nat)(str:ByteArray)(a0 a3 a4 a5:Option Addr)(l0 q0 l3 q3 l4 q4 l5 q5:Nat)(i1 i2:Int)(w:World)(hb:w.heap[b]? =some (.cells #[.slice a0 l0 q0,.int .i64 i1,.int .i64 i2,.slice a3 l3 q3,.slice a4 l4 q4,.slice a5 l5 q5] 100 (0,0)))
  (e:Int)(touched:Nat->Prop)(ht: ∀y,touched y->y<w.heap.size)(P:World->World->Prop)
  (hl: ∀w2,aQ w w2->(∀y,y<w.heap.size->w2.heap[y]? =w.heap[y]?)->Calls Tryz.prog 90 #[.pointer (some ⟨b,0,none⟩),.string str] w2 λen w3=>en=(if e=0 then .returned (.tuple #[]) else .panicked [{v:= .iface 182 (.agg #[.int .i64 e]),recovered:=false}])/\aQ w2 w3/\(∀y,y<w2.heap.size-> ¬touched y->w3.heap[y]? =w2.heap[y]?)/\(∃c0 c1 c2 c3 c4 c5,w3.heap[b]? =some (.cells #[c0,c1,c2,c3,c4,c5] 100 (0,0)))/\P w2 w3):
  Calls Tryz.prog 63 #[.pointer (some ⟨b,0,none⟩),.string str] w λen w'=>en= .returned (.int .i64 e)/\ ∃w2 w3,aQ w w2/\(∀y,y<w.heap.size->w2.heap[y]? =w.heap[y]?)/\P w2 w3/\aQ w2 w3/\aQ w3 w'/\(∀y,y<w3.heap.size->y≠b->y≠w.heap.size+1->w'.heap[y]? =w3.heap[y]?)/\w'.heap[b]? =(if e=0 then w3.heap[b]? else w.heap[b]?)/\(e=0-> ∀y:Nat,w'.heap[y]? =w3.heap[y]?):=by
 have hmf: ∀(fn:Fn) (first cap:Array Value) (w:World),(Instr.makeFunc fn first cap).run Tryz.prog w= .ok (.func fn first cap) w:=λ_ _ _ _=>rfl
 have lt: ∀{y o},w.heap[y]? =some o->y<w.heap.size:=λh=>(Array.getElem?_eq_some_iff.1 h).1
 have cb0:w.cell? ⟨b,0,none⟩=some (.slice a0 l0 q0):=by simp only [World.cell?,hb];rfl
 have cb1:w.cell? ⟨b,1,none⟩=some (.int .i64 i1):=by simp only [World.cell?,hb];rfl
 have cb2:w.cell? ⟨b,2,none⟩=some (.int .i64 i2):=by simp only [World.cell?,hb];rfl
 have cb3:w.cell? ⟨b,3,none⟩=some (.slice a3 l3 q3):=by simp only [World.cell?,hb];rfl
 have cb4:w.cell? ⟨b,4,none⟩=some (.slice a4 l4 q4):=by simp only [World.cell?,hb];rfl
 have cb5:w.cell? ⟨b,5,none⟩=some (.slice a5 l5 q5):=by simp only [World.cell?,hb];rfl
 have nb: ¬w.heap.size=b:=λh=>by have:=lt hb;omega
 have nb': ¬b=w.heap.size:=λh=>by have:=lt hb;omega
 have nb1: ¬b=w.heap.size+1:=λh=>by have:=lt hb;omega
 have nb2: ¬b=w.heap.size+1+1:=λh=>by have:=lt hb;omega
 have nb1': ¬w.heap.size+1=b:=λh=>by have:=lt hb;omega
 have nb2': ¬w.heap.size+1+1=b:=λh=>by have:=lt hb;omega
 have hA: ∀y,y<w.heap.size->((w.alloc (Obj.cells #[Z0 b] 95)).alloc (Obj.cells #[K9] 38)).heap[y]? =w.heap[y]? :=λy hy=>(Go.RowKit.Below.heap_alloc _ _ y (Nat.lt_succ_of_lt hy |> λh=>by simpa using h)).trans (Go.RowKit.Below.heap_alloc w _ y hy)
 have hAb:=(hA b (lt hb)).trans hb;have d0:((w.alloc (Obj.cells #[Z0 b] 95)).alloc (Obj.cells #[Value.int IntKind.i64 0] 38)).cell? ⟨b,0,none⟩=some (.slice a0 l0 q0):=by simp only [World.cell?,hAb];rfl
 have d1:((w.alloc (Obj.cells #[Z0 b] 95)).alloc (Obj.cells #[Value.int IntKind.i64 0] 38)).cell? ⟨b,1,none⟩=some (.int .i64 i1):=by simp only [World.cell?,hAb];rfl
 have d2:((w.alloc (Obj.cells #[Z0 b] 95)).alloc (Obj.cells #[Value.int IntKind.i64 0] 38)).cell? ⟨b,2,none⟩=some (.int .i64 i2):=by simp only [World.cell?,hAb];rfl
 have d3:((w.alloc (Obj.cells #[Z0 b] 95)).alloc (Obj.cells #[Value.int IntKind.i64 0] 38)).cell? ⟨b,3,none⟩=some (.slice a3 l3 q3):=by simp only [World.cell?,hAb];rfl
 have d4:((w.alloc (Obj.cells #[Z0 b] 95)).alloc (Obj.cells #[Value.int IntKind.i64 0] 38)).cell? ⟨b,4,none⟩=some (.slice a4 l4 q4):=by simp only [World.cell?,hAb];rfl
 have d5:((w.alloc (Obj.cells #[Z0 b] 95)).alloc (Obj.cells #[Value.int IntKind.i64 0] 38)).cell? ⟨b,5,none⟩=some (.slice a5 l5 q5):=by simp only [World.cell?,hAb];rfl
 have s1:(w.alloc (Obj.cells #[Value.pointer (some ⟨b,0,none⟩)] 95)).heap.size=w.heap.size+1:=by simp
 have s2:((w.alloc (Obj.cells #[Value.pointer (some ⟨b,0,none⟩)] 95)).alloc (Obj.cells #[Value.int IntKind.i64 0] 38)).heap.size=w.heap.size+2:=by simp
 have s3:(((w.alloc (Obj.cells #[Z0 b] 95)).alloc (Obj.cells #[K9] 38)).alloc (Obj.cells #[.slice a0 l0 q0,.int .i64 i1,.int .i64 i2,.slice a3 l3 q3,.slice a4 l4 q4,.slice a5 l5 q5] 32)).heap.size=w.heap.size+3:=by simp
 have hB: ∀y,y<w.heap.size->(((w.alloc (Obj.cells #[Z0 b] 95)).alloc (Obj.cells #[K9] 38)).alloc (Obj.cells #[.slice a0 l0 q0,.int .i64 i1,.int .i64 i2,.slice a3 l3 q3,.slice a4 l4 q4,.slice a5 l5 q5] 32)).heap[y]? =w.heap[y]? :=λy hy=>(Go.RowKit.Below.heap_alloc _ _ y (by rw [s2];omega)).trans (hA y hy)
 have b5:(((w.alloc (Obj.cells #[Z0 b] 95)).alloc (Obj.cells #[K9] 38)).alloc (Obj.cells #[.slice a0 l0 q0,.int .i64 i1,.int .i64 i2,.slice a3 l3 q3,.slice a4 l4 q4,.slice a5 l5 q5] 32)).heap[w.heap.size+2]? =some (.cells #[.slice a0 l0 q0,.int .i64 i1,.int .i64 i2,.slice a3 l3 q3,.slice a4 l4 q4,.slice a5 l5 q5] 32 (0,0)):=by
  have:=World.alloc_heap_new ((w.alloc (Obj.cells #[Z0 b] 95)).alloc (Obj.cells #[K9] 38)) (Obj.cells #[.slice a0 l0 q0,.int .i64 i1,.int .i64 i2,.slice a3 l3 q3,.slice a4 l4 q4,.slice a5 l5 q5] 32);rw [s2] at this;exact this
 have b4:(((w.alloc (Obj.cells #[Z0 b] 95)).alloc (Obj.cells #[K9] 38)).alloc (Obj.cells #[.slice a0 l0 q0,.int .i64 i1,.int .i64 i2,.slice a3 l3 q3,.slice a4 l4 q4,.slice a5 l5 q5] 32)).heap[w.heap.size+1]? =some (.cells #[.int .i64 0] 38 (0,0)):=by
  have:=World.alloc_heap_new (w.alloc (Obj.cells #[Value.pointer (some ⟨b,0,none⟩)] 95)) (Obj.cells #[Value.int IntKind.i64 0] 38);rw [s1] at this;exact (Go.RowKit.Below.heap_alloc _ _ _ (by rw [s2];omega)).trans this
 have b2:(((w.alloc (Obj.cells #[Z0 b] 95)).alloc (Obj.cells #[K9] 38)).alloc (Obj.cells #[.slice a0 l0 q0,.int .i64 i1,.int .i64 i2,.slice a3 l3 q3,.slice a4 l4 q4,.slice a5 l5 q5] 32)).heap[w.heap.size]? =some (.cells #[.pointer (some ⟨b,0,none⟩)] 95 (0,0)):=by
  have:=World.alloc_heap_new w (Obj.cells #[Value.pointer (some ⟨b,0,none⟩)] 95);exact (Go.RowKit.Below.heap_alloc _ _ _ (by rw [s2];omega)).trans ((Go.RowKit.Below.heap_alloc _ _ _ (by rw [s1];omega)).trans this)
 have hG:aQ w (((w.alloc (Obj.cells #[Z0 b] 95)).alloc (Obj.cells #[K9] 38)).alloc (Obj.cells #[.slice a0 l0 q0,.int .i64 i1,.int .i64 i2,.slice a3 l3 q3,.slice a4 l4 q4,.slice a5 l5 q5] 32)):=⟨by rw [s3];omega,rfl,rfl,rfl⟩
 have FG:=hl _ hG hB;by_cases he:e=0
 ·subst he;simp only [if_pos rfl] at FG ⊢
  go_enter_defers Tryz.func63,Tryz.ntmps63
  go_wp2_with (go_at_call 90;refine FG.mono ?_;rintro en w3 ⟨rfl,g1,g2,g3,g4⟩;have h4:=(g2 (w.heap.size+1) (by rw [s3];omega) (λh=>by have:=ht _ h;omega)).trans b4;have k4:w3.cell? ⟨w.heap.size+1,0,none⟩=some (.int .i64 0):=(by simp only [World.cell?,h4];rfl);have f4:w3.frozen? ⟨w.heap.size+1,0,none⟩=false:=(by simp only [World.frozen?,h4];rfl))
  refine leaves_cons (f:=89) (args:=#[.pointer (some ⟨w.heap.size+2,0,none⟩),.pointer (some ⟨w.heap.size,0,none⟩),.pointer (some ⟨w.heap.size+1,0,none⟩)]) (by simp) (by simp [go_sem]) ?_
  refine (Ql1 _ _ _ _).mono ?_;rintro e' u' w'' ⟨rfl,rfl,rfl⟩;have kc:(w3.setCell ⟨w.heap.size+1,0,none⟩ (.int .i64 0)).cell? ⟨w.heap.size+1,0,none⟩=some (.int .i64 0):=by simp only [World.cell?,heap_setCell_same w3 _ 0 _ _ (.int .i64 0) h4];rfl
  simp [Leaves,settle,results,Tryz.results63,go_sem,kc];exact ⟨_,hG,hB,w3,g4,g1,⟨by simp,rfl,rfl,rfl⟩,λy _ _ h2=>heap_setCell_other _ _ _ _ h2,heap_setCell_other _ _ _ _ nb1,λy=>Zc3 h4 y⟩
 ·simp only [if_neg he] at FG ⊢
  go_enter_defers Tryz.func63,Tryz.ntmps63
  go_wp2_with (go_at_call 90;refine FG.mono ?_;rintro en w3 ⟨rfl,g1,g2,g3,g4⟩;have h4:=(g2 (w.heap.size+1) (by rw [s3];omega) (λh=>by have:=ht _ h;omega)).trans b4;have k4:w3.cell? ⟨w.heap.size+1,0,none⟩=some (.int .i64 0):=(by simp only [World.cell?,h4];rfl);have f4:w3.frozen? ⟨w.heap.size+1,0,none⟩=false:=(by simp only [World.frozen?,h4];rfl))
  refine leaves_cons (f:=89) (args:=#[.pointer (some ⟨w.heap.size+2,0,none⟩),.pointer (some ⟨w.heap.size,0,none⟩),.pointer (some ⟨w.heap.size+1,0,none⟩)]) (by simp) (by simp [go_sem]) ?_
  obtain ⟨c0,c1,c2,c3,c4,c5,g3⟩:=g3;have h2:=(g2 w.heap.size (by rw [s3];omega) (λh=>by have:=ht _ h;omega)).trans b2
  have h5:=(g2 (w.heap.size+2) (by rw [s3];omega) (λh=>by have:=ht _ h;omega)).trans b5
  refine (nY b w.heap.size (w.heap.size+1) (w.heap.size+2) e 0 a0 a3 a4 a5 l0 q0 l3 q3 l4 q4 l5 q5 i1 i2 c0 c1 c2 c3 c4 c5 [] w3 h2 h5 h4 g3 (λh=>nb1 h.symm)).mono ?_
  rintro e' u' w'' ⟨rfl,rfl,m1,m2,m3,m4,m5⟩;have kc:w''.cell? ⟨w.heap.size+1,0,none⟩=some (.int .i64 e):=by simp only [World.cell?,m3];rfl
  simp [Leaves,settle,results,Tryz.results63,go_sem,kc];exact ⟨_,hG,hB,w3,g4,g1,⟨m1,m4.1,m4.2.1,m4.2.2⟩,m5,m2.trans hb.symm,λh=>absurd h he⟩
open Go Go.Sx Go.RowKit
open Go.Sx.VN (need branch leaf)
open Go.Sx.AV (lst ptr agg roI tup top)
theorem kR{e:UL}{w:World}{sz n:Nat}{f:Nat->List AV}{v:Value}(h:Rep e w (.lst sz n f) v): ∃a l c,v= .slice a l c:=by
 cases h with
 |lstNil=>exact ⟨_,_,_,rfl⟩
 |lst=>exact ⟨_,_,_,rfl⟩
theorem Zc0(W:Nat->ByteArray)(s:HS):(F5 W s).xn=s.xn/\(F5 W s).xg=s.xg/\(F5 W s).yn=s.yn/\(F5 W s).yg=s.yg:=by
 unfold F5;split<;>exact ⟨rfl,rfl,rfl,rfl⟩
theorem Xi5(e:Int):Xi6 182 (rsE e)=(if e=0 then .returned (.tuple #[]) else .panicked [{v:= .iface 182 (.agg #[.int .i64 e]),recovered:=false}]):=by
 unfold rsE Xi6;by_cases h:e=0
 ·simp [h]
 ·simp [h]
def Xr4(e:UL)(w0:World)(T:Nat->Prop)(q r t:Nat)(s s':HS)(er:Int)(w2 w3:World):Prop:=
 Below w0.heap.size w0 w3/\(∀x,(e.ro x\/(w0.heap.size<=x/\x<w2.heap.size/\e.own x≠some q/\e.own x≠some r/\e.own x≠some t))->w3.heap[x]? =w2.heap[x]?)/\
 ∃ro1:Nat->Prop,(∀x,e.ro x->ro1 x)/\(∀x,T x-> ¬ro1 x)/\G0 {e with ro:=ro1,own:=LM e q r t} w0.heap.size w3/\
  GH {e with ro:=ro1,own:=LM e q r t} w3 q (.cells 100 (cond (rsE er).1 (hsL s') [.top,.top,.top,.top,.top,.top]))/\
  GH {e with ro:=ro1,own:=LM e q r t} w3 r (.row 38 1 s.xn s.xg)/\GH {e with ro:=ro1,own:=LM e q r t} w3 t (.row 9 1 s.yn s.yg)
theorem Zh8{str:ByteArray}{n:Nat}{W:Nat->ByteArray}{s:HS}(h:vE str n W)(hs:fB s)
  {e:UL}{w0 w:World}{T:Nat->Prop}{q r t:Nat}(hEv:G0 e w0.heap.size w)(hB:Below w0.heap.size w0 w)(hT: ∀b,T b->b<w0.heap.size/\ ¬e.ro b)
  (hq:GH e w q (.cells 100 (hsL s)))(hr:GH e w r (.row 38 1 s.xn s.xg))(ht:GH e w t (.row 9 1 s.yn s.yg))(hqr:q≠r)(hqt:q≠t)(hrt:r≠t)(hrv: ∃a b c,e.val r= .slice a b c)(htv: ∃a b c,e.val t= .slice a b c):
  Calls Tryz.prog 63 #[.pointer (some ⟨e.blk q,0,none⟩),.string str] w λen w'=>en= .returned (.int .i64 (LP W n s))/\ ∃w2 w3,aQ w w2/\(∀y,y<w.heap.size->w2.heap[y]? =w.heap[y]?)/\Xr4 e w0 T q r t s (F5 W s) (LP W n s) w2 w3/\aQ w2 w3/\aQ w3 w'/\(∀y,y<w3.heap.size->y≠e.blk q->y≠w.heap.size+1->w'.heap[y]? =w3.heap[y]?)/\w'.heap[e.blk q]? =(if LP W n s=0 then w3.heap[e.blk q]? else w.heap[e.blk q]?)/\(LP W n s=0-> ∀y:Nat,w'.heap[y]? =w3.heap[y]?):=by
 have hq0:=hq;obtain ⟨ql,qo,vs,qh,qv⟩:=hq;obtain ⟨u0,us,rfl,r0,qv⟩:=qv.cons_inv;obtain ⟨u1,us,rfl,r1,qv⟩:=qv.cons_inv;obtain ⟨u2,us,rfl,r2,qv⟩:=qv.cons_inv;obtain ⟨u3,us,rfl,r3,qv⟩:=qv.cons_inv;obtain ⟨u4,us,rfl,r4,qv⟩:=qv.cons_inv;obtain ⟨u5,us,rfl,r5,qv⟩:=qv.cons_inv;obtain rfl:=qv.nil_inv;obtain ⟨a0,l0,q0,rfl⟩:=kR r0;obtain rfl:=r1.x_inv;obtain rfl:=r2.x_inv;obtain ⟨a3,l3,q3,rfl⟩:=kR r3;obtain ⟨a4,l4,q4,rfl⟩:=kR r4;obtain ⟨a5,l5,q5,rfl⟩:=kR r5;refine Zh6 (e.blk q) str a0 a3 a4 a5 l0 q0 l3 q3 l4 q4 l5 q5 s.pl s.ph w qh (LP W n s) (λy=>e.own y=some q\/e.own y=some r\/e.own y=some t) (λy hy=>by rcases hy with hy|hy|hy<;>exact (hEv.owned _ _ hy).2) (Xr4 e w0 T q r t s (F5 W s) (LP W n s)) ?_
 intro w2 hG zV;have st:Step e e w w2:=⟨λb hb hro=>⟨hro,zV b hb⟩,λk hk=>⟨hk,rfl,rfl⟩,hG.size⟩
 have hE2:G0 e w0.heap.size w2:=⟨λx hx=>⟨(hEv.apart x hx).1,xN (hEv.apart x hx).2 hG.size⟩,λx k hk=>⟨(hEv.owned x k hk).1,xN (hEv.owned x k hk).2 hG.size⟩,hEv.glob.step st⟩
 have hB2:Below w0.heap.size w0 w2:=⟨hG.os.trans hB.os,hG.tape.trans hB.tape,hG.output.trans hB.output,Nat.le_trans hB.size hG.size,λx hx=>(zV x (xN hx hB.size)).trans (hB.block x hx)⟩
 have same: ∀{k:Nat} {R:GO},Xf4 R=false->GH e w k R->GH e w2 k R:=λha hh=>LH st (λx hx=>⟨hx,zV x (hEv.owned _ _ hx).2⟩) ha hh
 have hx:=Zc0 W s;refine (Zi5 (Ql8 h hs) hx hE2 hB2 hT (same rfl hq0) (same rfl hr) (same rfl ht) hqr hqt hrt hrv htv).mono ?_;rintro en w3 ⟨rfl,g2,g3,g4,g5⟩;refine ⟨Xi5 _,⟨g3,g2.os.trans hB2.os.symm,g2.tape.trans hB2.tape.symm,g2.output.trans hB2.output.symm⟩,λy hy hn=>?_,?_,g2,g4,g5⟩
 ·rcases Nat.lt_or_ge y w0.heap.size with h1|h1
  ·exact (g2.block y h1).trans (hB2.block y h1).symm
  ·exact g4 y (.inr ⟨h1,hy,λh=>hn (.inl h),λh=>hn (.inr (.inl h)),λh=>hn (.inr (.inr h))⟩)
 ·obtain ⟨ro1,_,_,_,⟨_,_,vs1,k0,k1⟩,_⟩:=g5;have hl:vs1.length=6:=by
   rw [←k1.1];cases (rsE (LP W n s)).1<;>rfl
  match vs1,hl,k0 with
  |[c0,c1,c2,c3,c4,c5],_,k0=>exact ⟨c0,c1,c2,c3,c4,c5,k0⟩
theorem tI{w w':World}{T sz n:Nat}{v:Value}{xs:List Value}(h:w.ownsRow 0 T sz v n xs)(k: ∀b,v.ownBlock=some b->w'.heap[b]? =w.heap[b]?):w'.ownsRow 0 T sz v n xs:=by
 refine ⟨h.1,?_⟩;rcases h.2 with h2|⟨g,cap,cur,rfl,h3,h4,h5⟩
 ·exact .inl h2
 ·exact .inr ⟨g,cap,cur,rfl,h3,(k g rfl).trans h4,h5⟩
theorem Zh7{str:ByteArray}{n:Nat}{W:Nat->ByteArray}{s:HS}(h:vE str n W)(hs:fB s)
  {e:UL}{w0 w:World}{T:Nat->Prop}{q r t:Nat}(hEv:G0 e w0.heap.size w)(hB:Below w0.heap.size w0 w)(hT: ∀b,T b->b<w0.heap.size/\ ¬e.ro b)
  (hq:GH e w q (.cells 100 (hsL s)))(hr:GH e w r (.row 38 1 s.xn s.xg))(ht:GH e w t (.row 9 1 s.yn s.yg))(hqr:q≠r)(hqt:q≠t)(hrt:r≠t)(hrv: ∃a b c,e.val r= .slice a b c)(htv: ∃a b c,e.val t= .slice a b c)
  (hxx: ∀i,i<s.xn-> ∀a∈s.xg i,∃u,a= .x u)(hyy: ∀i,i<s.yn-> ∀a∈s.yg i,∃u,a= .x u):
  Calls Tryz.prog 63 #[.pointer (some ⟨e.blk q,0,none⟩),.string str] w λen w'=>en= .returned (.int .i64 (LP W n s))/\Below w0.heap.size w0 w'/\w.heap.size<=w'.heap.size/\(∀x,e.ro x->w'.heap[x]? =w.heap[x]?)/\
   ∃ro1:Nat->Prop,(∀x,e.ro x->ro1 x)/\(∀x,T x-> ¬ro1 x)/\G0 {e with ro:=ro1,own:=LM e q r t} w0.heap.size w'/\
    GH {e with ro:=ro1,own:=LM e q r t} w' q (.cells 100 (hsL (if LP W n s=0 then F5 W s else s)))/\GH {e with ro:=ro1,own:=LM e q r t} w' r (.row 38 1 s.xn s.xg)/\GH {e with ro:=ro1,own:=LM e q r t} w' t (.row 9 1 s.yn s.yg):=by
 refine (Zh8 h hs hEv hB hT hq hr ht hqr hqt hrt hrv htv).mono ?_;rintro en w' ⟨rfl,w2,w3,G1,e1,⟨B3,K3,ro1,R1,R2,R3,R4,R5,R6⟩,G2,G3,O1,O2,O3⟩;have hro: ∀x,e.ro x->x<w.heap.size/\x≠e.blk q:=λx hx=>⟨(hEv.apart x hx).2,λh=>by
  have h1:=(hEv.apart x hx).1;rw [h,hq.2.1] at h1;cases h1⟩
 have hqlt:e.blk q<w.heap.size:=(hEv.owned _ _ hq.2.1).2;have lt3: ∀{x},x<w.heap.size->x<w3.heap.size:=λh=>xN h (Nat.le_trans G1.size G2.size)
 have hsz:w.heap.size<=w'.heap.size:=Nat.le_trans (Nat.le_trans G1.size G2.size) G3.size;have keep: ∀x,e.ro x->w'.heap[x]? =w.heap[x]? :=λx hx=>by
  rw [O1 x (lt3 (hro x hx).1) (hro x hx).2 (by have:=(hro x hx).1;omega),K3 x (.inl hx)]
  exact e1 x (hro x hx).1
 have b0:w0.heap.size<=e.blk q:=(hEv.owned _ _ hq.2.1).1;have hBel:Below w0.heap.size w0 w':=⟨G3.os.trans B3.os,G3.tape.trans B3.tape,G3.output.trans B3.output,Nat.le_trans B3.size G3.size,λx hx=>by
  rw [O1 x (lt3 (xN hx hB.size)) VK (by have:=hB.size;omega)]
  exact B3.block x hx⟩
 refine ⟨rfl,hBel,hsz,keep,?_⟩;by_cases he:LP W n s=0
 ·have HX:=O3 he;have hb:(rsE (LP W n s)).1=true:=by rw [he];rfl
  rw [hb] at R4;rw [if_pos he];have st:Step {e with ro:=ro1,own:=LM e q r t} {e with ro:=ro1,own:=LM e q r t} w3 w':=⟨λb _ hr=>⟨hr,HX b⟩,λk hk=>⟨hk,rfl,rfl⟩,G3.size⟩
  exact ⟨ro1,R1,R2,⟨λx hx=>⟨(R3.apart x hx).1,xN (R3.apart x hx).2 G3.size⟩,λx k hk=>⟨(R3.owned x k hk).1,xN (R3.owned x k hk).2 G3.size⟩,R3.glob.step st⟩,LH st (λx hx=>⟨hx,HX x⟩) rfl R4,LH st (λx hx=>⟨hx,HX x⟩) rfl R5,LH st (λx hx=>⟨hx,HX x⟩) rfl R6⟩
 ·rw [if_neg he] at O2;rw [if_neg he];have st:Step e {e with own:=LM e q r t} w w':=⟨λb _ hr=>⟨hr,keep b hr⟩,λk hk=>⟨hk,rfl,rfl⟩,hsz⟩
  obtain ⟨ql,qo,vs,qh,qv⟩:=hq;have H5: ∀{x j},LM e q r t x=some j->w0.heap.size<=x/\x<w.heap.size:=by
   intro x j hj;unfold LM at hj;split at hj
   ·rename_i h;rw [h];exact hEv.owned _ _ qo
   split at hj
   ·rename_i h;exact hEv.owned _ _ (hr.2.1 x h)
   split at hj
   ·rename_i h;exact hEv.owned _ _ (ht.2.1 x h)
   ·cases hj
  have ES: ∀{k:Nat},k≠q->(∀b,(e.val k).ownBlock=some b->e.own b=some k)-> ∀b,(e.val k).ownBlock=some b->w'.heap[b]? =w3.heap[b]? :=by
   intro k hk ho b hb;have h1:=hEv.owned _ _ (ho b hb);refine O1 b (lt3 h1.2) (λh=>?_) (by have:=h1.2;omega)
   have h2:=ho b hb;rw [h,qo] at h2;exact hk (Option.some.inj h2).symm
  refine ⟨e.ro,λ_ h=>h,λx hx=>(hT x hx).2,⟨λx hx=>⟨?_,xN (hEv.apart x hx).2 hsz⟩,λx k hk=>⟨(H5 hk).1,xN (H5 hk).2 hsz⟩,hEv.glob.step st⟩,⟨ql,if_pos rfl,vs,O2.trans qh,qv.step st⟩,?_,?_⟩
  ·have h0:=(hEv.apart x hx).1;show LM e q r t x=none;unfold LM;rw [if_neg (hro x hx).2,if_neg (λh=>by rw [hr.2.1 x h] at h0;cases h0),if_neg (λh=>by rw [ht.2.1 x h] at h0;cases h0)]
  ·obtain ⟨l5,o5,f5,xs5,p5,r5⟩:=R5;refine ⟨l5,o5,f5,xs5,tI p5 (ES hqr.symm hr.2.1),λi j a v hi ha hv=>?_⟩
   obtain ⟨u,rfl⟩:=hxx i hi a (F0 ha);rw [(r5 i j _ v hi ha hv).x_inv];exact .x _
  ·obtain ⟨l6,o6,f6,xs6,p6,r6⟩:=R6;refine ⟨l6,o6,f6,xs6,tI p6 (ES hqt.symm ht.2.1),λi j a v hi ha hv=>?_⟩
   obtain ⟨u,rfl⟩:=hyy i hi a (F0 ha);rw [(r6 i j _ v hi ha hv).x_inv];exact .x _
def UL.nilAt(e:UL)(nx:Nat):UL:={ro:=e.ro,own:=e.own,live:=λk=>k=nx\/e.live k,blk:=e.blk,val:=λk=>if k=nx then .slice none 0 0 else e.val k}
theorem EB{e:UL}{nx:Nat}{w:World}(h: ¬e.live nx):Step e (UL.nilAt e nx) w w:=⟨λ_ _ h=>⟨h,rfl⟩,λk hk=>⟨.inr hk,rfl,by
 have:k≠nx:=λh'=>h (h'▸hk)
 simp [UL.nilAt,this]⟩,Nat.le_refl _⟩
theorem Wd2{e:UL}{nx B:Nat}{w:World}(h: ¬e.live nx)(hE:G0 e B w):G0 (UL.nilAt e nx) B w:=⟨hE.apart,hE.owned,hE.glob.step (EB h)⟩
theorem Ql0(e:UL)(nx:Nat)(w:World)(T n:Nat)(f:Nat->List AV)(h:n=0):GH (UL.nilAt e nx) w nx (.row T 1 n f):=by
 subst h;refine ⟨.inl rfl,λb hb=>?_,λi hi=>absurd hi (Nat.not_lt_zero i),[],?_,λi j a v hi=>absurd hi (Nat.not_lt_zero i)⟩
 ·simp [UL.nilAt,Value.ownBlock] at hb
 ·have:(UL.nilAt e nx).val nx= .slice none 0 0:=by simp [UL.nilAt]
  rw [this];exact World.ownsRow_nil w 0 T 1
theorem NB{e:UL}{w:World}{k T sz n:Nat}{f:Nat->List AV}(h:GH e w k (.row T sz n f)): ∃a b c,e.val k= .slice a b c:=by
 obtain ⟨_,_,_,xs,h4,_⟩:=h;rcases h4.2 with ⟨h5,_⟩|⟨g,cap,cur,h5,_⟩
 ·exact ⟨_,_,_,h5⟩
 ·exact ⟨_,_,_,h5⟩
def lnW(s:ByteArray)(k:Nat):ByteArray:=(spl s ⟨#[32]⟩).getD k ByteArray.empty
def lnN(s:ByteArray):Nat:=Lib.countB s ⟨#[32]⟩+1
theorem fG(sep:ByteArray): ∀(k:Nat) (s:ByteArray),∀x∈Lib.splitB sep 0 k s,x.size<=s.size
 | 0,s,x,hx=>by
  simp only [Lib.splitB,GN,DU,or_false] at hx;rw [hx];exact Nat.le_refl _
 |k+1,s,x,hx=>by
  unfold Lib.splitB at hx;split at hx
  ·simp only [GN,DU,or_false] at hx;rw [hx];exact Nat.le_refl _
  ·rcases GN.1 hx with rfl|hx
   ·rw [ByteArray.size_extract];omega
   ·have:=fG sep k _ x hx;rw [ByteArray.size_extract] at this;omega
section
variable (s:ByteArray)
theorem Qm3(h:s.size<100000):vE s (lnN s) (lnW s):=by
 refine ⟨h,rfl,λk _=>rfl,λk=>?_⟩
 unfold lnW;rw [List.getD_eq_getElem?_getD];cases he:(spl s ⟨#[32]⟩)[k]? with
 |none=>exact Nat.zero_le _
 |some x=>
  have:=fG _ _ _ x (F0 he);show x.size<=100000;omega
def lnE(x:HS):Int:=LP (lnW s) (lnN s) x
def lnS(x:HS):HS:=if lnE s x=0 then F5 (lnW s) x else x
end
def hsX(s:HS)(n:Nat)(g:Nat->List AV)(n':Nat)(g':Nat->List AV):HS:={s with xn:=n,xg:=g,yn:=n',yg:=g'}
theorem sY(W:Nat->ByteArray)(n:Nat)(s:HS)(k k':Nat)(g g':Nat->List AV):LP W n (hsX s k g k' g')=LP W n s:=by
 unfold LP;split<;>rfl
theorem Xc1(W:Nat->ByteArray)(s:HS)(k k':Nat)(g g':Nat->List AV):F5 W (hsX s k g k' g')=hsX (F5 W s) k g k' g':=by
 unfold F5;split<;>rfl
theorem Zj9{s:HS}(h:fB s)(k k':Nat)(g g':Nat->List AV):fB (hsX s k g k' g'):=⟨h.nr,h.bV,h.nc,h.sV⟩
theorem Zi4{s:HS}(h:fB s)(str:ByteArray):fB (lnS str s):=by
 unfold lnS;split
 ·rename_i h0;exact Xc0 h h0
 ·exact h
def hs0:HS:={nr:=0,ra:=λ_=>0,rb:=λ_=>0,ru:=λ_=>0,rv:=λ_=>0,pl:=760,ph:=760,nb:=0,ql:=λ_=>0,qh:=λ_=>0,qm:=λ_=>0,qr:=λ_ _=>0,qv:=λ_ _=>0,nc:=0,ca:=λ_=>0,cb:=λ_=>0,cc:=λ_=>0,cd:=λ_=>0,cv:=λ_=>false,ns:=0,sa:=λ_=>0,sb:=λ_=>0,sc:=λ_=>0,sl:=λ_=>0,sh:=λ_=>0,xn:=0,xg:=λ_=>[],yn:=0,yg:=λ_=>[] }
def sK(L:Nat->ByteArray):Nat->HS
 | 0=>hs0
 |k+1=>lnS (L k) (sK L k)
def eK(L:Nat->ByteArray)(k:Nat):Int:=lnE (L k) (sK L k)
def exG(L:Nat->ByteArray)(j:Nat):List AV:=[.x (.int .i64 (eK L j))]
theorem Zk0:fB hs0:=⟨Nat.zero_le _,⟨⟨Nat.zero_le _,λb hb=>absurd hb (Nat.not_lt_zero b)⟩,λb hb=>absurd hb (Nat.not_lt_zero b)⟩,Nat.zero_le _,⟨Nat.zero_le _,λk hk=>absurd hk (Nat.not_lt_zero k)⟩⟩
theorem u9(L:Nat->ByteArray): ∀k,fB (sK L k)
 | 0=>Zk0
 |k+1=>Zi4 (u9 L k) (L k)
def A7(L:Nat->ByteArray)(N r:Nat):HZ:=λavs m nx sv=>match avs with
 |[.ptr q 0,.x (.string str')]=>match DE m q with
  |some (.cells T l)=>match DE m r with
   |some (.row T1 sz1 n1 f1)=>match Nat.beq T 100&&Nat.beq T1 38&& !Nat.beq q r with
    |true=>some (.needT [n1<N,l=hsL (sK L n1),DX str'= .x (.string (L n1)),sz1=1,f1=exG L] (.leaf (.x (.int .i64 (eK L n1)),[(q,.cells 100 (hsL (sK L (n1+1)))),(r,.row 38 1 n1 (exG L))],nx+1,sv)))
    |false=>none
   |_=>none
  |_=>none
 |_=>none
theorem Wd3{L:Nat->ByteArray}{N r:Nat}(hL: ∀k,k<N->(L k).size<100000):
  GC VP 63 (A7 L N r):=by
 refine ⟨(UK Tryz.func63),?_⟩;intro avs m nx sv tr ht Q hQ cx w0 T e ds args w hE hB hm hlv LN hxt hr;unfold A7 at ht;split at ht
 ·rename_i q str';split at ht
  ·rename_i T l h1;split at ht
   ·rename_i T1 sz1 n1 f1 h2;split at ht
    ·rename_i hb;rw [H9,H9] at hb;obtain ⟨⟨hb1,hb2⟩,hb3⟩:=hb;obtain rfl:=GY hb1;obtain rfl:=GY hb2;have hqr:q≠r:=by
      rintro rfl;simp at hb3
     cases ht;obtain ⟨hn,hq⟩:=VN.sat_needT hQ;have hn:=GD hn;have e0:n1<N:=hn _ VW;have e1:l=hsL (sK L n1):=hn _ VW;have e2:DX str'= .x (.string (L n1)):=hn _ VW;have e3:sz1=1:=hn _ VW;have e5:f1=exG L:=hn _ VW;have e2:str'=L n1:=by
      injection e2 with e2
      injection e2
     subst e1 e2 e3 e5;obtain ⟨v0,l1,rfl,r1,hr⟩:=hr.cons_inv;obtain ⟨v1,l2,rfl,r2,hr⟩:=hr.cons_inv;obtain rfl:=hr.nil_inv;obtain rfl:=r2.x_inv;have hv0:v0= .pointer (some ⟨e.blk q,0,none⟩):=by cases r1;rfl
     subst hv0;have hid: ¬e.live nx:=λh=>Nat.lt_irrefl _ (hlv _ h)
     have hQ0:=hm _ (UX h1);have hR0:=hm _ (UX h2);have hqn:q≠nx:=λh=>hid (h▸hQ0.1)
     have hrn:r≠nx:=λh=>hid (h▸hR0.1)
     have st0:=EB (w:=w) hid;have hQ1:GH (UL.nilAt e nx) w q (.cells 100 (hsL (sK L n1))):=LH st0 (λx hx=>⟨hx,rfl⟩) rfl hQ0
     have hR1:GH (UL.nilAt e nx) w r (.row 38 1 n1 (exG L)):=LH st0 (λx hx=>⟨hx,rfl⟩) rfl hR0
     have hT1:=Ql0 e nx w 9 0 (λ_=>[]) rfl
     have h:=Qm3 _ (hL n1 e0);have hs:=Zj9 (u9 L n1) n1 0 (exG L) (λ_=>[])
     have hxx: ∀i,i<n1-> ∀a∈exG L i,∃u,a= .x u:=λi _ a ha=>⟨_,BE.1 ha⟩
     refine (Zh7 h hs (Wd2 hid hE) hB LN hQ1 hR1 hT1 hqr hqn hrn (NB hR1) (NB hT1) hxx (λi hi=>absurd hi (Nat.not_lt_zero i))).mono ?_
     rintro en w' ⟨rfl,g1,g2,g3,ro1,g4,g5,g6,g7,g8,g9⟩;have st:Step e {UL.nilAt e nx with ro:=ro1,own:=LM (UL.nilAt e nx) q r nx} w w':=⟨λb _ hb=>⟨g4 b hb,g3 b hb⟩,λk hk=>⟨.inr hk,rfl,(st0.live k hk).2.2⟩,g2⟩
     rw [sY,Xc1] at g7;have g7:GH {UL.nilAt e nx with ro:=ro1,own:=LM (UL.nilAt e nx) q r nx} w' q (.cells 100 (hsL (sK L (n1+1)))):=by
      show GH _ w' q (.cells 100 (hsL (lnS (L n1) (sK L n1))));unfold lnS lnE;by_cases h0:LP (lnW (L n1)) (lnN (L n1)) (sK L n1)=0
      ·rw [if_pos h0] at g7 ⊢;exact g7
      ·rw [if_neg h0] at g7 ⊢;exact g7
     rw [sY];refine ⟨_,_,_,_,_,{UL.nilAt e nx with ro:=ro1,own:=LM (UL.nilAt e nx) q r nx},rfl,hq,g6,g1,?_,?_,λb hb=>⟨(LN b hb).1,g5 b hb⟩,hxt.step st,.x _⟩
     ·intro p hp;simp only [GN,DU,or_false] at hp;rcases hp with rfl|rfl
      ·exact g7
      ·exact g8
     ·rintro k (rfl|hk)
      ·exact Nat.lt_succ_self _
      ·exact Nat.lt_succ_of_lt (hlv k hk)
    ·cases ht
   ·cases ht
  ·cases ht
 ·cases ht
open Go Go.Sx Go.RowKit Bo
def cvB:GO->GO
 | .cells T [.x (.slice none 0 0),.x (.int .i64 a),.x (.int .i64 b),.x (.slice none 0 0),.x (.slice none 0 0),.x (.slice none 0 0)]=> .cells T [hsR hs0,i a,i b,hsB hs0,hsC hs0,hsS hs0]
 |r=>r
def cvM:GZ->GZ
 |[]=>[]
 |(k,r)::t=>(k,cvB r)::cvM t
noncomputable def sM:HZ:=λavs m nx sv=>match mJ avs m nx sv with
 |some t=>some (t.bind λp=> .leaf (p.1,cvM p.2.1,p.2.2.1,p.2.2.2))
 |none=>none
theorem Zm0{e:UL}{w:World}{k:Nat}{r:GO}(h:GH e w k r):GH e w k (cvB r):=by
 unfold cvB;split
 ·rename_i T a b;obtain ⟨h1,h2,vs,h3,h4⟩:=h;refine ⟨h1,h2,vs,h3,?_⟩;obtain ⟨u0,us,rfl,r0,h4⟩:=h4.cons_inv;obtain ⟨u1,us,rfl,r1,h4⟩:=h4.cons_inv;obtain ⟨u2,us,rfl,r2,h4⟩:=h4.cons_inv;obtain ⟨u3,us,rfl,r3,h4⟩:=h4.cons_inv;obtain ⟨u4,us,rfl,r4,h4⟩:=h4.cons_inv;obtain ⟨u5,us,rfl,r5,h4⟩:=h4.cons_inv;obtain rfl:=h4.nil_inv;obtain rfl:=r0.x_inv;obtain rfl:=r3.x_inv;obtain rfl:=r4.x_inv;obtain rfl:=r5.x_inv;exact .cons (.lstNil _ _) (.cons r1 (.cons r2 (.cons (.lstNil _ _) (.cons (.lstNil _ _) (.cons (.lstNil _ _) (.nil _ _))))))
 ·exact h
theorem Wr1{e:UL}{w:World}: ∀{m:GZ},UW e m w->UW e (cvM m) w
 |[],_,p,hp=>by cases hp
 |(k,r)::t,h,p,hp=>by
  rcases GN.1 hp with rfl|hp
  ·exact Zm0 (h (k,r) GF)
  ·exact Wr1 (m:=t) (λq hq=>h q (HP _ hq)) p hp
theorem Qc8:GC VP 62 sM:=by
 refine ⟨I0.1,?_⟩;intro avs m nx sv t ht Q hQ c w0 T e ds args w hE hB hm hl LN hxt hr;unfold sM at ht;split at ht
 ·rename_i t0 h0;cases ht;refine (I0.2 _ _ _ _ _ h0 _ (VN.sat_bind hQ) c w0 T e ds args w hE hB hm hl LN hxt hr).mono ?_;rintro en w' ⟨v,r,m',nx',sv',e',q1,q2,q3,q4,q5,q6,q7,q8,q9⟩;exact ⟨v,r,cvM m',nx',sv',e',q1,q2,q3,q4,Wr1 q5,q6,q7,q8,q9⟩
 ·cases ht
theorem cW{L:Nat->ByteArray}{n:Nat}(h: ∀k,k<n->(L k).size<100000):GC VP 63 (A7 L n 902):=Wd3 h
abbrev KO:AV:=lst 3 0 λk=>[iI (hs0.ql k),iI (hs0.qh k),lst 2 0 λj=>[iI (hs0.qr k j),iI (hs0.qv k j)]]
section
variable (n:Nat)(L:Nat->ByteArray)
def Zp6:St:={σ:=[Q8 n L,top,QE,QA,ptr 900 0,top,top,top,top,Q8 n L,iI (n:Int)]++HI 13 [],m:=[(902,GO.row 38 1 0 λx=>[]),(900,GO.cells 100 [hR 0 hs0,iI 760,iI 760,KO,hC 0 hs0,hT 0 hs0])],nx:=903}
noncomputable def Jp4:Code:=U9 (VS (U8 Tryz.f33) 0)
def Wg6(k:Nat):St:={σ:=H4 [(4,.ptr 900 0),(5,.row 902),(7,.top),(11,i k)] (Zp6 n L).σ,m:=[(902,.row 38 1 k (exG L)),(900,.cells 100 (hsL (sK L k)))],nx:=903}
def CD(k:Nat):G6->Option St
 | .exit 0=>some {σ:=H4 [(4,.ptr 900 0),(5,.row 902),(7,.top),(11,i n)] (Zp6 n L).σ,m:=[(902,.row 38 1 n (exG L)),(900,.cells 100 (hsL (sK L n)))],nx:=903}
 |_=>none
def Jk6:CT:= .leaf (.exit 0,(CD n L 0 (.exit 0)).getD (Zp6 n L))
def Xv0:UG:=GK [(.slot 4,900,0,2),(.slot 5,902,38,1)] (HF (Wg6 n L (0)) (Jk6 n L))
end
abbrev Y5:Prop:=ptr 900 0=ptr 900 0
noncomputable abbrev YX(L:Nat->ByteArray)(n:Nat):Ext:={R:=[],H:=[(62,sM),(63,(A7 L n 902))] }
section
variable (n:Nat)(L:Nat->ByteArray)
theorem Ja3(VT:n<=50)(UI: ∀k,k<n->(L k).size<100000):G5 VP (.loop Jp4) (Xv0 n L):=by
 refine US [(.slot 4,900,0,2),(.slot 5,902,38,1)] (L:=[]) (VL.nil _) (VX.of (VR.nil _) (VO.cons Qc8 (VO.cons (cW UI) (VO.nil _)))) VZ U3 (X:=Nat) (Wg6 n L) (λk=>k<=n) (λk=>n-k) (CD n L) (x0:=0) VW ?_ ?_ ?_
 ·rintro k;kernel_rfl
 ·rintro k y E h;unfold CD at h;split at h
  ·cases h;kernel_rfl
  ·cases h
 ·rintro Q hQ k hx;refine ⟨(k+1),?_⟩;(with_reducible refine D6 (t:=branch (decide ((k:Int)<(n:Int))) (need [UH k n] (need [k<n,U0 ([lst 4 ((sK L k).nr) λk_1=>[iI ((sK L k).ra k_1),iI ((sK L k).rb k_1),iI ((sK L k).ru k_1),iI ((sK L k).rv k_1)],iI ((sK L k).pl),iI ((sK L k).ph),lst 3 ((sK L k).nb) λk_1=>[iI ((sK L k).ql k_1),iI ((sK L k).qh k_1),lst 2 ((sK L k).qm k_1) λj=>[iI ((sK L k).qr k_1 j),iI ((sK L k).qv k_1 j)]],lst 5 ((sK L k).nc) λk_1=>[iI ((sK L k).ca k_1),iI ((sK L k).cb k_1),iI ((sK L k).cc k_1),iI ((sK L k).cd k_1),AV.x (.bool ((sK L k).cv k_1))],lst 5 ((sK L k).ns) λk_1=>[iI ((sK L k).sa k_1),iI ((sK L k).sb k_1),iI ((sK L k).sc k_1),iI ((sK L k).sl k_1),iI ((sK L k).sh k_1)]]),U0 (DX (L k)),1=1,exG L=exG L] (need [(k+1)*8<=140737488355328,RU 1 (U6 1 [iI (eK L k)])] (need [VM ((k:Int)+1)] (need [U0 (Q8 n L),QE=QE,QA=QA,Y5,WM,U0 (Q8 n L),U0 (n:Int),(k:Int)+1=(↑(k+1):Int),k+1=k+1,GV (k+1) (GI k (exG L) (U6 1 [iI (eK L k)])) (exG L),U0 (lst 4 ((sK L (k+1)).nr) λk_1=>[iI ((sK L (k+1)).ra k_1),iI ((sK L (k+1)).rb k_1),iI ((sK L (k+1)).ru k_1),iI ((sK L (k+1)).rv k_1)]),U0 ((sK L (k+1)).pl),U0 ((sK L (k+1)).ph),U0 (lst 3 ((sK L (k+1)).nb) λk_1=>[iI ((sK L (k+1)).ql k_1),iI ((sK L (k+1)).qh k_1),lst 2 ((sK L (k+1)).qm k_1) λj=>[iI ((sK L (k+1)).qr k_1 j),iI ((sK L (k+1)).qv k_1 j)]]),U0 (lst 5 ((sK L (k+1)).nc) λk_1=>[iI ((sK L (k+1)).ca k_1),iI ((sK L (k+1)).cb k_1),iI ((sK L (k+1)).cc k_1),iI ((sK L (k+1)).cd k_1),AV.x (.bool ((sK L (k+1)).cv k_1))]),U0 (lst 5 ((sK L (k+1)).ns) λk_1=>[iI ((sK L (k+1)).sa k_1),iI ((sK L (k+1)).sb k_1),iI ((sK L (k+1)).sc k_1),iI ((sK L (k+1)).sl k_1),iI ((sK L (k+1)).sh k_1)])] (leaf G6.normal)))))) (need [U0 (Q8 n L),QE=QE,QA=QA,Y5,WM,U0 (Q8 n L),U0 (n:Int),(k:Int)=(n:Int),k=n,GQ n (exG L),(lst 4 ((sK L k).nr) λk_1=>[iI ((sK L k).ra k_1),iI ((sK L k).rb k_1),iI ((sK L k).ru k_1),iI ((sK L k).rv k_1)])=hR ((sK L n).nr) (sK L n),(sK L k).pl=(sK L n).pl,(sK L k).ph=(sK L n).ph,(lst 3 ((sK L k).nb) λk_1=>[iI ((sK L k).ql k_1),iI ((sK L k).qh k_1),lst 2 ((sK L k).qm k_1) λj=>[iI ((sK L k).qr k_1 j),iI ((sK L k).qv k_1 j)]])=hY ((sK L n).nb) (sK L n),(lst 5 ((sK L k).nc) λk_1=>[iI ((sK L k).ca k_1),iI ((sK L k).cb k_1),iI ((sK L k).cc k_1),iI ((sK L k).cd k_1),AV.x (.bool ((sK L k).cv k_1))])=hC ((sK L n).nc) (sK L n),(lst 5 ((sK L k).ns) λk_1=>[iI ((sK L k).sa k_1),iI ((sK L k).sb k_1),iI ((sK L k).sc k_1),iI ((sK L k).sl k_1),iI ((sK L k).sh k_1)])=hT ((sK L n).ns) (sK L n)] (leaf (G6.exit 0)))) VU ?_)
  simp only [Jk6,CD,VN.sat,GS] at hQ;simp only [VN.sat,UB,UY,GL,UE,VM,UJ,H6,FO,FT,RH,GJ,CD]
  refine ⟨λh=>?_,λh=>?_⟩
  ·have hk:k<n:=VK;have hq: ∀j,j<k+1->GI k (exG L) (U6 1 [i (eK L k)]) j=exG L j:=λj hj=>Pt.catF1 (a:=eK L) hj rfl
   (with_reducible repeat' first|apply And.intro|intro _)
   all_goals first|exact P6|(first|exact hq _ (by assumption)|exact FQ (by assumption) (by simp [AV.one,Value.oneCell']))
  ·obtain rfl:k=n:=VK
   (with_reducible repeat' first|apply And.intro|intro _)
   all_goals first|exact P6|(assumption)
theorem eV(VT:n<=50)(UI: ∀k,k<n->(L k).size<100000):UO VP 33 [lns n L] (.leaf (.tup [.ro (hsL (sK L n)),.lst 1 n (exG L)])):=by
 refine GT (L:=[Xv0 n L]) (VL.nil _) (VX.of (VR.nil _) (VO.cons Qc8 (VO.cons (cW UI) (VO.nil _)))) VZ Tryz.func33 (UV Tryz.f33) (G7 (lpE (b:= .loop Jp4) VU<|(Ja3 n L VT UI).N)) (t:=need [U0 (Q8 n L),QE=QE,QA=QA,Y5,WM,U0 (Q8 n L),U0 (n:Int),(0:Int)=(↑(0:Nat):Int),0=0,GV 0 (λi=>[]) (exG L),(hR 0 hs0)=hR 0 (sK L 0),(760:Int)=(sK L 0).pl,(760:Int)=(sK L 0).ph,(KO)=lst 3 0 λk=>[iI ((sK L 0).ql k),iI ((sK L 0).qh k),lst 2 0 λj=>[iI ((sK L 0).qr k j),iI ((sK L 0).qv k j)]],(hC 0 hs0)=hC 0 (sK L 0),(hT 0 hs0)=hT 0 (sK L 0)] (leaf (tup [AV.ro (hL (sK L n)),lst 1 n λj=>[iI (eK L j)]]))) VU ?_
 intro Q hQ;simp only [VN.sat,UB,UJ,VM,FA] at hQ ⊢
 (with_reducible repeat' first|apply And.intro|intro _)
 all_goals first|exact True.intro|omega|rfl|assumption|exact ⟨.tup [.ro (hsL (sK L n)),.lst 1 n (exG L)],⟨rfl,⟨rfl,rfl,λ_ _=>rfl⟩,True.intro⟩,hQ⟩
end
def baG(s:HS)(k:Nat):List AV:=[i (s.ql k),i (s.qh k),.lst 2 (s.qm k) (λj=>[i (s.qr k j),i (s.qv k j)])]
def hsN(s:HS):Prop:=s.nr<=1000/\s.nb<=1000/\s.nc<=1000/\s.ns<=1000/\ ∀b,b<s.nb->s.qm b<=1000
theorem Jf3(n:Nat)(a b u v:Nat->Int):gdX 4 n (λk=>[i (a k),i (b k),i (u k),i (v k)]):=λk _=>⟨rfl,λx hx=>by
 simp only [GN,DU,or_false] at hx;rcases hx with rfl|rfl|rfl|rfl<;>exact ⟨True.intro,by simp [AV.one,Value.oneCell']⟩⟩
theorem Jf4(n:Nat)(a b c d:Nat->Int)(v:Nat->Bool):gdX 5 n (λk=>[i (a k),i (b k),i (c k),i (d k),bl (v k)]):=λk _=>⟨rfl,λx hx=>by
 simp only [GN,DU,or_false] at hx;rcases hx with rfl|rfl|rfl|rfl|rfl<;>exact ⟨True.intro,by simp [AV.one,Value.oneCell']⟩⟩
theorem Jf2(n:Nat)(a b c d v:Nat->Int):gdX 5 n (λk=>[i (a k),i (b k),i (c k),i (d k),i (v k)]):=λk _=>⟨rfl,λx hx=>by
 simp only [GN,DU,or_false] at hx;rcases hx with rfl|rfl|rfl|rfl|rfl<;>exact ⟨True.intro,by simp [AV.one,Value.oneCell']⟩⟩
theorem Jf1(n:Nat)(a b:Nat->Int):gdX 2 n (λk=>[i (a k),i (b k)]):=λk _=>⟨rfl,λx hx=>by
 simp only [GN,DU,or_false] at hx;rcases hx with rfl|rfl<;>exact ⟨True.intro,by simp [AV.one,Value.oneCell']⟩⟩
theorem Zm6{s:HS}{k j:Nat}(hj:j<k+1):GI k (baG s) (U6 3 [i (s.ql k),i (s.qh k),.lst 2 (s.qm k) (λj=>[i (s.qr k j),i (s.qv k j)])]) j=baG s j:=by
 rcases (show j<k\/j=k by omega) with h|rfl
 ·show HB (decide (j<k)) _ _=_;rw [decide_eq_true h,show j-k=0 by omega]
  rfl
 ·show HB (decide (j<j)) _ _=_;rw [show decide (j<j)=false by simp,Nat.sub_self]
  rfl
abbrev YL:List AV:=[QA,iI 0,iI 0,QA,QA,QA]
section
variable (s:HS)
def Zr8:St:={σ:=[agg (hL s),ptr 0 0,ptr 1 0,ptr 900 0]++HI 15 [hY s.nb s,iI (↑s.nb:Int)]++HI 17 [],m:=[(901,GO.row 75 3 0 λx=>[]),(900,GO.cells 32 [hR s.nr s,iI s.pl,iI s.ph,AV.row 901,hC s.nc s,hT s.ns s]),(1,GO.cells 32 YL),(0,GO.cells 32 (hL s))],nx:=902}
noncomputable def Jr6:Code:=U9 (VS (U8 Tryz.f34) 0)
def Wj2(k:Nat):St:={σ:=H4 [(3,.ptr 900 0),(5,.top),(21,i k)] (Zr8 s).σ,m:=[(901,.row 75 3 k (baG s)),(900,.cells 32 [hsR s,i s.pl,i s.ph,.row 901,hsC s,hsS s]),(1,(.cells 32 [.x (.slice none 0 0),i 0,i 0,.x (.slice none 0 0),.x (.slice none 0 0),.x (.slice none 0 0)])),(0,.cells 32 (hsL s))],nx:=902}
def E0(k:Nat):G6->Option St
 | .exit 0=>some {σ:=H4 [(3,.ptr 900 0),(5,.top),(21,i s.nb)] (Zr8 s).σ,m:=[(901,.row 75 3 s.nb (baG s)),(900,.cells 32 [hsR s,i s.pl,i s.ph,.row 901,hsC s,hsS s]),(1,(.cells 32 [.x (.slice none 0 0),i 0,i 0,.x (.slice none 0 0),.x (.slice none 0 0),.x (.slice none 0 0)])),(0,.cells 32 (hsL s))],nx:=902}
 |_=>none
def Jn2:CT:= .leaf (.exit 0,(E0 s 0 (.exit 0)).getD (Zr8 s))
def Xx9:UG:=GK [(.slot 3,900,0,2),(.cell 900 3,901,75,3)] (HF (Wj2 s (0)) (Jn2 s))
abbrev X1:Prop:=agg (hL s)=agg (hL s)
abbrev Y6:List (Nat×UZ):=[(64,s8),(65,s9),(66,s7),(67,s6)]
theorem Jh7(VT:hsN s):G5 VP (.loop Jr6) (Xx9 s):=by
 refine US [(.slot 3,900,0,2),(.cell 900 3,901,75,3)] (L:=[]) (VL.cons Qb0 (VL.cons Qb1 (VL.cons Qa9 (VL.cons Qa8 (VL.nil _))))) (VX.of (VR.nil _) (VO.nil _)) VZ U3 (X:=Nat) (Wj2 s) (λk=>k<=s.nb) (λk=>s.nb-k) (E0 s) (x0:=0) VW ?_ ?_ ?_
 ·rintro k;kernel_rfl
 ·rintro k y E h;unfold E0 at h;split at h
  ·cases h;kernel_rfl
  ·cases h
 ·rintro Q hQ k hx;refine ⟨(k+1),?_⟩;(with_reducible refine D6 (t:=let z0:=(lst 2 (s.qm k) λj=>[iI (s.qr k j),iI (s.qv k j)]);(branch (decide ((k:Int)<(↑s.nb:Int))) (need [UH k s.nb] (need [s.qm k<=100000,gdX 2 (s.qm k) λj=>[iI (s.qr k j),iI (s.qv k j)]] (need [(k+1)*40<=140737488355328,RU 1 (U6 3 [iI (s.ql k),iI (s.qh k),z0])] (need [VM ((k:Int)+1)] (need [X1 s,QL,WS,Y5,W5 s,U0 (↑s.nb:Int),(k:Int)+1=(↑(k+1):Int),k+1=k+1,GV (k+1) (GI k (baG s) (U6 3 [iI (s.ql k),iI (s.qh k),z0])) (baG s),QY s,XE s,XF s,WK,QZ s,W0 s,QA=QA,QT,QT,QA=QA,QA=QA,QA=QA,QY s,XE s,XF s,W5 s,QZ s,W0 s] (leaf G6.normal)))))) (need [X1 s,QL,WS,Y5,W5 s,U0 (↑s.nb:Int),(k:Int)=(↑s.nb:Int),k=s.nb,∀(i:Nat),i<s.nb->baG s i=baG s i,QY s,XE s,XF s,WK,QZ s,W0 s,QA=QA,QT,QT,QA=QA,QA=QA,QA=QA,QY s,XE s,XF s,W5 s,QZ s,W0 s] (leaf (G6.exit 0))))) VU ?_)
  simp only [Jn2,E0,VN.sat,GS] at hQ;simp only [VN.sat,UB,UY,GL,UE,VM,UJ,H6,FO,FT,RH,GJ,E0]
  obtain ⟨h1,h2,h3,h4,h5⟩:=VT;refine ⟨λh=>?_,λh=>?_⟩
  ·have hk:k<s.nb:=VK;have h6:=h5 k hk
   (with_reducible repeat' first|apply And.intro|intro _)
   all_goals first|exact P6|(first|exact Jf1 _ _ _|exact FQ (by assumption) (by simp [AV.one,Value.oneCell'])|exact Zm6 (by assumption))
  ·obtain rfl:k=s.nb:=VK;exact YZ
theorem oZ(VT:hsN s):UO VP 34 [.agg (hsL s)] (.leaf (.agg (hsL s))):=by
 refine GT (L:=[Xx9 s]) (VL.cons Qb0 (VL.cons Qb1 (VL.cons Qa9 (VL.cons Qa8 (VL.nil _))))) (VX.of (VR.nil _) (VO.nil _)) VZ Tryz.func34 (UV Tryz.f34) (G7 (lpE (b:= .loop Jr6) VU<|(Jh7 s VT).N)) (t:=need [s.nr<=100000,gdX 4 s.nr λk=>[Bo.i (s.ra k),Bo.i (s.rb k),Bo.i (s.ru k),Bo.i (s.rv k)]] (need [s.nc<=100000,gdX 5 s.nc λk=>[i (s.ca k),i (s.cb k),i (s.cc k),i (s.cd k),bl (s.cv k)]] (need [s.ns<=100000,gdX 5 s.ns λk=>[i (s.sa k),i (s.sb k),i (s.sc k),i (s.sl k),i (s.sh k)]] (need [X1 s,QL,WS,Y5,W5 s,U0 (↑s.nb:Int),(0:Int)=(↑(0:Nat):Int),0=0,GV 0 (λi=>[]) (baG s),QY s,XE s,XF s,WK,QZ s,W0 s,QA=QA,QT,QT,QA=QA,QA=QA,QA=QA,QY s,XE s,XF s,W5 s,QZ s,W0 s] (leaf (agg (hL s))))))) VU ?_
 intro Q hQ;simp only [VN.sat,UB,UJ,VM,FA] at hQ ⊢;obtain ⟨h1,h2,h3,h4,h5⟩:=VT
 (with_reducible repeat' first|apply And.intro|intro _)
 all_goals first|exact True.intro|omega|exact Jf3 _ _ _ _ _|exact Jf4 _ _ _ _ _ _|exact Jf2 _ _ _ _ _ _|rfl|assumption|(rename_i h;exact absurd h (Nat.not_lt_zero _))|exact ⟨.agg (hsL s),⟨⟨rfl,rfl,λ_ _=>rfl⟩,⟨rfl,rfl⟩,⟨rfl,rfl⟩,⟨rfl,rfl,λ_ _=>rfl⟩,⟨rfl,rfl,λ_ _=>rfl⟩,⟨rfl,rfl,λ_ _=>rfl⟩,True.intro⟩,hQ⟩
end
section
variable (n:Nat)(a b c lo hi:Nat->Int)
def hoS(ow day:Int):Int×Int:=hoF n a b c (eD n a b c lo hi (2^n)) (lS n a b c lo hi (2^n-1)) ow day (2^n)
theorem Qk5(ow day:Int)(VT:sV n a b c lo hi):UO VP 11 [.agg [i 4,i 10,sls n a b c lo hi],i ow,i day] (.branch (bt 0 ow 3&&bt 0 day 100) (.branch (!zJ n a b c lo hi) (.leaf (.tup [.agg [i 0,i 0],i 9])) (.leaf (.tup [.agg [i (hoS n a b c lo hi ow day).1,i (hoS n a b c lo hi ow day).2],i 0]))) (.leaf (.tup [.agg [i 0,i 0],i 2]))):=by
 refine GT (L:=[]) (VL.cons xX (VL.cons rU (VL.cons (yX n a b c lo hi (eD n a b c lo hi (2^n)) (lS n a b c lo hi (2^n-1)) VT) (VL.nil _)))) (VX.ofC (VR.nil _) (VO.nil _) (UC.cons (yV n a b c lo hi VT) (UC.nil _))) VZ Tryz.func11 (UV Tryz.f11) G8 (t:=let z6:=(lst 1 (2^n) λz=>[iI (eD n a b c lo hi (2^n) z)]);let z5:=(lst 1 (2^n) λz=>[iI (lS n a b c lo hi (2^n-1) z)]);let z2:=(hoF n a b c (eD n a b c lo hi (2^n)) (lS n a b c lo hi (2^n-1)) ow day (2^n));let z4:=(leaf (tup [agg [iI (Prod.fst z2),iI (Prod.snd z2)],iI 0]));let z0:=(need [AV.x (Y7)=AV.ro [iI 4,iI 10,Q0 n a b c lo hi,z6,z5],(0:Int)<=ow/\ow<4] z4);let z1:=(branch (!zJ n a b c lo hi) (branch ((9:Int) != 0) (leaf (tup [agg JR,iI 9])) z0) (branch ((0:Int) != 0) (leaf (tup [agg JR,iI 0])) (need [U0 (AV.ro [iI 4,iI 10,Q0 n a b c lo hi,z6,z5]),(0:Int)<=ow/\ow<4] z4)));let z3:=(branch ((2:Int) != 0) (leaf (tup [agg JR,iI 2])) z0);(need [VM ((4:Int)-1)] (branch (bt (0:Int) ow ((4:Int)-1)) (need [QP n a b c lo hi] (branch (!bt (0:Int) day (100:Int)) z3 z1)) (need [QP n a b c lo hi] (branch (!false) z3 z1))))) VU ?_
 intro Q hQ;simp only [VN.sat,UB,UJ] at hQ ⊢;have rp: ∀x y z:Int,FF (.tup [.agg [i x,i y],i z]) (.tup [.agg [i x,i y],i z]):=λx y z=>⟨⟨⟨rfl,rfl⟩,⟨rfl,rfl⟩,True.intro⟩,⟨rfl,rfl⟩,True.intro⟩
 rw [show (4:Int)-1=3 from rfl];cases h1:bt 0 ow 3<;>cases h2:bt 0 day 100<;>cases h3:zJ n a b c lo hi<;>rw [h1,h2] at hQ<;>rw [h3] at hQ;all_goals (with_reducible repeat' first|apply And.intro|intro _)
 all_goals first
  |(simp only [VM];omega)
  |(exfalso;rename_i h;revert h;decide)
  |(exfalso;rename_i h _;revert h;decide)
  |(exfalso;rename_i h _ _;revert h;decide)
  |(exfalso;rename_i h _ _ _;revert h;decide)
  |(have:=(Bo.bt_iff _ _ _).1 h1;omega)
  |exact ⟨_,rp _ _ _,hQ.2 rfl⟩
  |exact ⟨_,rp _ _ _,(hQ.1 rfl).1 rfl⟩
  |exact ⟨_,rp _ _ _,(hQ.1 rfl).2 rfl⟩
def caB(day:Int)(ow:Nat):Bool:=decide ((hoS n a b c lo hi ow day).2>0)
def suB(day:Int)(ow:Nat):Bool:=decide ((hoS n a b c lo hi ow day).1>0)
def sT(day:Int):St:={σ:=[agg (ZU n a b c lo hi),iI day,ptr 0 0,top,top,top,iI 0,AV.ro [iI 4,iI 10,Q0 n a b c lo hi,lst 1 (2^n) λz=>[iI (eD n a b c lo hi (2^n) z)],lst 1 (2^n) λz=>[iI (lS n a b c lo hi (2^n-1) z)]]]++HI 13 [iI 4]++HI 24 [],m:=[(902,Y8),(901,Y8),(0,GO.cells 42 (ZU n a b c lo hi))],nx:=903}
noncomputable def Qs3:Code:=U9 (VS (U8 Tryz.f39) 0)
def EL(day:Int)(k:Nat):St:={σ:=H4 [(4,.row 901),(5,.row 902),(8,.top),(9,.top),(22,i k)] (sT n a b c lo hi day).σ,m:=[(902,.row 3 1 (G9 (suB n a b c lo hi day) (k)) (λz=>[i (UR (suB n a b c lo hi day) 4 z)])),(901,.row 3 1 (G9 (caB n a b c lo hi day) (k)) (λz=>[i (UR (caB n a b c lo hi day) 4 z)])),(0,.cells 42 [i 4,i 10,sls n a b c lo hi])],nx:=903}
def qD(day:Int)(k:Nat):G6->Option St
 | .exit 0=>some {σ:=H4 [(4,.row 901),(5,.row 902),(8,.top),(9,.top),(22,i 4)] (sT n a b c lo hi day).σ,m:=[(902,.row 3 1 (G9 (suB n a b c lo hi day) (4)) (λz=>[i (UR (suB n a b c lo hi day) 4 z)])),(901,.row 3 1 (G9 (caB n a b c lo hi day) (4)) (λz=>[i (UR (caB n a b c lo hi day) 4 z)])),(0,.cells 42 [i 4,i 10,sls n a b c lo hi])],nx:=903}
 |_=>none
def Wu7(day:Int):CT:= .leaf (.exit 0,(qD n a b c lo hi day 0 (.exit 0)).getD (sT n a b c lo hi day))
def mC(day:Int):UG:=GK [(.slot 4,901,3,1),(.slot 5,902,3,1)] (HF (EL n a b c lo hi day (0)) (Wu7 n a b c lo hi day))
theorem Wa3(day:Int)(VT:sV n a b c lo hi):G5 VP (.loop Qs3) (mC n a b c lo hi day):=by
 refine zC [(.slot 4,901,3,1),(.slot 5,902,3,1)] (L:=[]) (VL.cons rU (VL.cons (yX n a b c lo hi (eD n a b c lo hi (2^n)) (lS n a b c lo hi (2^n-1)) VT) (VL.nil _))) VZ U3 (X:=Nat) (EL n a b c lo hi day) (λk=>k<=4) (λk=>4-k) (qD n a b c lo hi day) (x0:=0) VW ?_ ?_ ?_
 ·rintro k;kernel_rfl
 ·rintro k y E h;unfold qD at h;split at h
  ·cases h;kernel_rfl
  ·cases h
 ·rintro Q hQ k hx;refine ⟨(k+1),?_⟩;(with_reducible refine D6 (t:=let z0:=(U0 (AV.ro [iI 4,iI 10,Q0 n a b c lo hi,lst 1 (2^n) λz=>[iI (eD n a b c lo hi (2^n) z)],lst 1 (2^n) λz=>[iI (lS n a b c lo hi (2^n-1) z)]]));let z1:=suB n a b c lo hi day;let z2:=caB n a b c lo hi day;let z3:=(hoF n a b c (eD n a b c lo hi (2^n)) (lS n a b c lo hi (2^n-1)) (k:Int) day (2^n));let z4:=(U6 1 [iI (k:Int)]);let z5:=QP n a b c lo hi;let z6:=W8 n a b c lo hi;(branch (decide ((k:Int)<4)) (need [z0,(0:Int)<=(k:Int)/\(k:Int)<4] (branch (decide (Prod.snd z3>0)) (need [(G9 (z2) k+1)*8<=140737488355328,RU 1 (U6 1 [iI (k:Int)])] (branch (decide (Prod.fst z3>0)) (need [(G9 (z1) k+1)*8<=140737488355328,RU 1 (U6 1 [iI (k:Int)])] (need [VM ((k:Int)+1)] (need [z5,day=day,QL,WK,WM,QT,z0,W6,(k:Int)+1=(↑(k+1):Int),G9 (z1) k+1=G9 (z1) (k+1),∀(i:Nat),i<G9 (z1) (k+1)->GI (G9 (z1) k) (λz=>[iI (↑(UR (z1) 4 z):Int)]) z4 i=[iI (↑(UR (z1) 4 i):Int)],G9 (z2) k+1=G9 (z2) (k+1),∀(i:Nat),i<G9 (z2) (k+1)->GI (G9 (z2) k) (λz=>[iI (↑(UR (z2) 4 z):Int)]) z4 i=[iI (↑(UR (z2) 4 i):Int)],W6,WE,z6] (leaf G6.normal)))) (need [VM ((k:Int)+1)] (need [z5,day=day,QL,WK,WM,QT,z0,W6,(k:Int)+1=(↑(k+1):Int),G9 (z1) k=G9 (z1) (k+1),∀(i:Nat),i<G9 (z1) (k+1)->[iI (↑(UR (z1) 4 i):Int)]=[iI (↑(UR (z1) 4 i):Int)],G9 (z2) k+1=G9 (z2) (k+1),∀(i:Nat),i<G9 (z2) (k+1)->GI (G9 (z2) k) (λz=>[iI (↑(UR (z2) 4 z):Int)]) z4 i=[iI (↑(UR (z2) 4 i):Int)],W6,WE,z6] (leaf G6.normal))))) (branch (decide (Prod.fst z3>0)) (need [(G9 (z1) k+1)*8<=140737488355328,RU 1 (U6 1 [iI (k:Int)])] (need [VM ((k:Int)+1)] (need [z5,day=day,QL,WK,WM,QT,z0,W6,(k:Int)+1=(↑(k+1):Int),G9 (z1) k+1=G9 (z1) (k+1),∀(i:Nat),i<G9 (z1) (k+1)->GI (G9 (z1) k) (λz=>[iI (↑(UR (z1) 4 z):Int)]) z4 i=[iI (↑(UR (z1) 4 i):Int)],G9 (z2) k=G9 (z2) (k+1),∀(i:Nat),i<G9 (z2) (k+1)->[iI (↑(UR (z2) 4 i):Int)]=[iI (↑(UR (z2) 4 i):Int)],W6,WE,z6] (leaf G6.normal)))) (need [VM ((k:Int)+1)] (need [z5,day=day,QL,WK,WM,QT,z0,W6,(k:Int)+1=(↑(k+1):Int),G9 (z1) k=G9 (z1) (k+1),∀(i:Nat),i<G9 (z1) (k+1)->[iI (↑(UR (z1) 4 i):Int)]=[iI (↑(UR (z1) 4 i):Int)],G9 (z2) k=G9 (z2) (k+1),∀(i:Nat),i<G9 (z2) (k+1)->[iI (↑(UR (z2) 4 i):Int)]=[iI (↑(UR (z2) 4 i):Int)],W6,WE,z6] (leaf G6.normal)))))) (need [z5,day=day,QL,WK,WM,QT,z0,W6,(k:Int)=4,G9 (z1) k=G9 (z1) 4,∀(i:Nat),i<G9 (z1) 4->[iI (↑(UR (z1) 4 i):Int)]=[iI (↑(UR (z1) 4 i):Int)],G9 (z2) k=G9 (z2) 4,∀(i:Nat),i<G9 (z2) 4->[iI (↑(UR (z2) 4 i):Int)]=[iI (↑(UR (z2) 4 i):Int)],W6,WE,z6] (leaf (G6.exit 0))))) VU ?_)
  simp only [Wu7,qD,VN.sat,GS] at hQ;simp only [VN.sat,UB,UY,GL,UE,VM,UJ,H6,FO,FT,RH,GJ,qD]
  have hB: ∀(p:Nat->Bool) (k:Nat),G9 p k<=k:=gL;have b1:=hB (caB n a b c lo hi day) k;have b2:=hB (suB n a b c lo hi day) k;refine ⟨λh=>?_,λh=>?_⟩
  ·have hk:k<4:=VK;have hq: ∀(p:Nat->Bool),p k=true-> ∀j,j<G9 p (k+1)->GI (G9 p k) (λz=>[i (UR p 4 z)]) (U6 1 [i k]) j=[i (UR p 4 j)]:=by
    intro p hp j hj;rw [DA hp] at hj;exact Pt.catF1 (a:=λz=>((UR p 4 z:Nat):Int)) hj (by show (k:Int)=((UR p 4 (G9 p k):Nat):Int);rw [P7 hk hp])
   cases hc:caB n a b c lo hi day k<;>cases hs:suB n a b c lo hi day k
   ·have e1:=FN hc;have e2:=FN hs;have hc':=of_decide_eq_false hc;have hs':=of_decide_eq_false hs
    (with_reducible repeat' first|apply And.intro|intro _)
    all_goals first|exact P6|(first|exact absurd (by assumption) hc'|exact absurd (by assumption) hs'|exact FQ (by assumption) (by simp [AV.one,Value.oneCell']))
   ·have e1:=FN hc;have e2:=DA hs;have hc':=of_decide_eq_false hc;have hs':=qK hs
    (with_reducible repeat' first|apply And.intro|intro _)
    all_goals first|exact P6|(first|exact absurd (by assumption) hc'|contradiction|exact FQ (by assumption) (by simp [AV.one,Value.oneCell'])|exact hq _ hs _ (by assumption))
   ·have e1:=DA hc;have e2:=FN hs;have hc':=qK hc;have hs':=of_decide_eq_false hs
    (with_reducible repeat' first|apply And.intro|intro _)
    all_goals first|exact P6|(first|exact absurd (by assumption) hs'|contradiction|exact FQ (by assumption) (by simp [AV.one,Value.oneCell'])|exact hq _ hc _ (by assumption))
   ·have e1:=DA hc;have e2:=DA hs;have hc':=qK hc;have hs':=qK hs
    (with_reducible repeat' first|apply And.intro|intro _)
    all_goals first|exact P6|(first|contradiction|exact FQ (by assumption) (by simp [AV.one,Value.oneCell'])|exact hq _ hc _ (by assumption)|exact hq _ hs _ (by assumption))
  ·obtain rfl:k=4:=VK;exact YZ
theorem Qk3(day:Int)(VT:sV n a b c lo hi):UO VP 39 [.agg [i 4,i 10,sls n a b c lo hi],i day] (.branch (!bt 0 day 100) (.leaf (.tup [.x (.slice none 0 0),.x (.slice none 0 0),i 2])) (.branch (!zJ n a b c lo hi) (.leaf (.tup [.x (.slice none 0 0),.x (.slice none 0 0),i 9])) (.leaf (.tup [.lst 1 (G9 (caB n a b c lo hi day) 4) (λz=>[i (UR (caB n a b c lo hi day) 4 z)]),.lst 1 (G9 (suB n a b c lo hi day) 4) (λz=>[i (UR (suB n a b c lo hi day) 4 z)]),i 0])))):=by
 refine GT (L:=[mC n a b c lo hi day]) (VL.cons rU (VL.cons (yX n a b c lo hi (eD n a b c lo hi (2^n)) (lS n a b c lo hi (2^n-1)) VT) (VL.nil _))) (VX.ofC (VR.nil _) (VO.nil _) (UC.cons (yV n a b c lo hi VT) (UC.nil _))) VZ Tryz.func39 (UV Tryz.f39) (G7 (lpE (b:= .loop Qs3) VU<|(Wa3 n a b c lo hi day VT).N)) (t:=let z2:=caB n a b c lo hi day;let z1:=suB n a b c lo hi day;let z0:=(leaf (tup [lst 1 (G9 (z2) 4) λz=>[iI (↑(UR (z2) 4 z):Int)],lst 1 (G9 (z1) 4) λz=>[iI (↑(UR (z1) 4 z):Int)],iI 0]));let z3:=(lst 1 (2^n) λz=>[iI (lS n a b c lo hi (2^n-1) z)]);let z4:=(lst 1 (2^n) λz=>[iI (eD n a b c lo hi (2^n) z)]);(need [QP n a b c lo hi] (branch (!bt (0:Int) day (100:Int)) (branch ((2:Int) != 0) (leaf (tup [QA,QA,iI 2])) (need [QP n a b c lo hi,day=day,QL,WK,WM,(2:Int)=0,AV.x (Y7)=AV.ro [iI 4,iI 10,Q0 n a b c lo hi,z4,z3],W6,(0:Int)=(↑(0:Nat):Int),0=G9 (z1) 0,∀(i:Nat),i<G9 (z1) 0->[]=[iI (↑(UR (z1) 4 i):Int)],0=G9 (z2) 0,∀(i:Nat),i<G9 (z2) 0->[]=[iI (↑(UR (z2) 4 i):Int)],W6,WE,W8 n a b c lo hi] z0)) (branch (!zJ n a b c lo hi) (branch ((9:Int) != 0) (leaf (tup [QA,QA,iI 9])) (need [QP n a b c lo hi,day=day,QL,WK,WM,(9:Int)=0,AV.x (Y7)=AV.ro [iI 4,iI 10,Q0 n a b c lo hi,z4,z3],W6,(0:Int)=(↑(0:Nat):Int),0=G9 (z1) 0,∀(i:Nat),i<G9 (z1) 0->[]=[iI (↑(UR (z1) 4 i):Int)],0=G9 (z2) 0,∀(i:Nat),i<G9 (z2) 0->[]=[iI (↑(UR (z2) 4 i):Int)],W6,WE,W8 n a b c lo hi] z0)) (branch ((0:Int) != 0) (leaf (tup [QA,QA,iI 0])) (need [QP n a b c lo hi,day=day,QL,WK,WM,QT,U0 (AV.ro [iI 4,iI 10,Q0 n a b c lo hi,z4,z3]),W6,(0:Int)=(↑(0:Nat):Int),0=G9 (z1) 0,∀(i:Nat),i<G9 (z1) 0->[]=[iI (↑(UR (z1) 4 i):Int)],0=G9 (z2) 0,∀(i:Nat),i<G9 (z2) 0->[]=[iI (↑(UR (z2) 4 i):Int)],W6,WE,W8 n a b c lo hi] z0)))))) VU ?_
 intro Q hQ;simp only [VN.sat,UB,UJ] at hQ ⊢;have rn: ∀z:Int,FF (.tup [.x (.slice none 0 0),.x (.slice none 0 0),i z]) (.tup [.x (.slice none 0 0),.x (.slice none 0 0),i z]):=λz=>⟨rfl,rfl,⟨rfl,rfl⟩,True.intro⟩
 have rl:FF (.tup [.lst 1 (G9 (caB n a b c lo hi day) 4) (λz=>[i (UR (caB n a b c lo hi day) 4 z)]),.lst 1 (G9 (suB n a b c lo hi day) 4) (λz=>[i (UR (suB n a b c lo hi day) 4 z)]),i 0]) (.tup [.lst 1 (G9 (caB n a b c lo hi day) 4) (λz=>[i (UR (caB n a b c lo hi day) 4 z)]),.lst 1 (G9 (suB n a b c lo hi day) 4) (λz=>[i (UR (suB n a b c lo hi day) 4 z)]),i 0]):=⟨⟨rfl,rfl,λ_ _=>rfl⟩,⟨rfl,rfl,λ_ _=>rfl⟩,⟨rfl,rfl⟩,True.intro⟩
 cases h2:bt 0 day 100<;>cases h3:zJ n a b c lo hi<;>rw [h2] at hQ<;>rw [h3] at hQ;all_goals (with_reducible repeat' first|apply And.intro|intro _)
 all_goals first
  |(exfalso;rename_i h;revert h;decide)
  |(exfalso;rename_i h _;revert h;decide)
  |(exfalso;rename_i h _ _;revert h;decide)
  |(exfalso;rename_i h _ _ _;revert h;decide)
  |rfl
  |(rename_i h;exact absurd h (Nat.not_lt_zero _))
  |exact ⟨_,rn _,hQ.1 rfl⟩
  |exact ⟨_,rn _,(hQ.2 rfl).1 rfl⟩
  |exact ⟨_,rl,(hQ.2 rfl).2 rfl⟩
def Ww3(day:Int):DG:=λl=>some (.need [l=[.agg [i 4,i 10,sls n a b c lo hi],i day]] (.branch (!bt 0 day 100) (.leaf (.tup [.x (.slice none 0 0),.x (.slice none 0 0),i 2])) (.branch (!zJ n a b c lo hi) (.leaf (.tup [.x (.slice none 0 0),.x (.slice none 0 0),i 9])) (.leaf (.tup [.lst 1 (G9 (caB n a b c lo hi day) 4) (λz=>[i (UR (caB n a b c lo hi day) 4 z)]),.lst 1 (G9 (suB n a b c lo hi day) 4) (λz=>[i (UR (suB n a b c lo hi day) 4 z)]),i 0])))))
theorem nJ(day:Int)(VT:sV n a b c lo hi):Sx.Enters Tryz.prog 39/\ ∀avs t,Ww3 n a b c lo hi day avs=some t->UO VP 39 avs t:=by
 refine ⟨(UK Tryz.func39),?_⟩;intro avs t h;cases h;intro Q hQ;have e:=hQ.1
 dsimp only [UB] at e
 subst e;exact Qk3 n a b c lo hi day VT Q hQ.2
end
section
variable (n:Nat)(L:Nat->ByteArray)
def Ww7:DG:=λl=>some (.need [l=[lns n L],ckE n L=0] (.leaf (.tup [.ro (hsL (sK L n)),.lst 1 n (exG L)])))
def sD:DG:=λl=>some (.need [l=[.agg (hsL (sK L n))]] (.leaf (.agg (hsL (sK L n)))))
end
theorem yO{n:Nat}{L:Nat->ByteArray}(h:ckE n L=0):n<=50/\ ∀k,k<n->(L k).size<=200:=by
 unfold ckE at h;split at h
 ·rename_i h1;refine ⟨h1.1,λk hk=>?_⟩
  have h2:=qK (GU.1 h1.2 k hk);omega
 ·exact absurd h (by decide)
theorem Wl1{s:HS}(h:fB s):hsN s:=⟨by have:=h.nr;omega,by have:=h.bV.1.1;omega,by have:=h.nc;omega,by have:=h.sV.1;omega,λb hb=>by have:=(h.bV.1.2 b hb).1;omega⟩
section
variable (n:Nat)(L:Nat->ByteArray)
theorem xB:Sx.Enters Tryz.prog 33/\ ∀avs t,Ww7 n L avs=some t->UO VP 33 avs t:=by
 refine ⟨(UK Tryz.func33),?_⟩;intro avs t h;cases h;intro Q hQ;have e:avs=[lns n L]:=hQ.1.1;have h0:ckE n L=0:=hQ.1.2;subst e;have hk:=yO h0;exact eV n L hk.1 (λk h=>by have:=hk.2 k h;omega) Q hQ.2
theorem iC:Sx.Enters Tryz.prog 34/\ ∀avs t,sD n L avs=some t->UO VP 34 avs t:=by
 refine ⟨(UK Tryz.func34),?_⟩;intro avs t h;cases h;intro Q hQ;have e:avs=[.agg (hsL (sK L n))]:=hQ.1;subst e;exact oZ (sK L n) (Wl1 (u9 L n)) Q hQ.2
end
theorem A0(s:HS):FF (.agg (hsL s)) (.agg (hsL s)):=⟨⟨rfl,rfl,λ_ _=>rfl⟩,⟨rfl,rfl⟩,⟨rfl,rfl⟩,⟨rfl,rfl,λ_ _=>rfl⟩,⟨rfl,rfl,λ_ _=>rfl⟩,⟨rfl,rfl,λ_ _=>rfl⟩,True.intro⟩
section
variable (n:Nat)(L:Nat->ByteArray)
abbrev Y3:Prop:=[Q8 n L]=[Q8 n L]
theorem iG(VT:n<=100):UO VP 19 [lns n L] (.branch (ckE n L != 0) (.leaf (.tup [.agg [.x (.slice none 0 0),i 0,i 0,.x (.slice none 0 0),.x (.slice none 0 0),.x (.slice none 0 0)],.x (.slice none 0 0),i (ckE n L)])) (.leaf (.tup [.agg (hsL (sK L n)),.lst 1 n (exG L),i 0]))):=by
 refine GT (L:=[]) (VL.cons (PS n L VK) (VL.nil _)) (VX.ofC (VR.nil _) (VO.nil _) (UC.cons (xB n L) (UC.cons (iC n L) (UC.nil _)))) VZ Tryz.func19 (UV Tryz.f19) G8 (t:=need [(Y3 n L)] (branch (ckE n L != 0) (leaf (tup [agg YL,QA,iI (ckE n L)])) (need [(Y3 n L),ckE n L=0] (need [U0 ([agg (hL (sK L n))])] (leaf (tup [agg (hL (sK L n)),lst 1 n λj=>[iI (eK L j)],iI 0])))))) VU ?_
 intro Q hQ;simp only [VN.sat,UB,UJ,VM,FA] at hQ ⊢;refine ⟨λh=>⟨.tup [.agg [.x (.slice none 0 0),i 0,i 0,.x (.slice none 0 0),.x (.slice none 0 0),.x (.slice none 0 0)],.x (.slice none 0 0),i (ckE n L)],⟨⟨rfl,⟨rfl,rfl⟩,⟨rfl,rfl⟩,rfl,rfl,rfl,True.intro⟩,rfl,⟨rfl,rfl⟩,True.intro⟩,hQ.1 h⟩,λh=>?_⟩
 have h0:ckE n L=0:=by simpa using h
 (with_reducible repeat' first|apply And.intro|intro _)
 all_goals first|exact True.intro|exact h0|rfl|(exact ⟨.tup [.agg (hsL (sK L n)),.lst 1 n (exG L),i 0],⟨A0 _,⟨rfl,rfl,λ_ _=>rfl⟩,⟨rfl,rfl⟩,True.intro⟩,hQ.2 h⟩)
theorem iH(VT:n<=100):UO VP 21 [lns n L] (.branch (ckE n L != 0) (.leaf (.tup [.x (.slice none 0 0),i (ckE n L)])) (.leaf (.tup [.lst 2 (boN (sK L n).nb (sK L n).ql (sK L n).qh (sK L n).qm (sK L n).qr (sK L n).qv) (λk=>[i (boL (sK L n).nb (sK L n).ql (sK L n).qh (sK L n).qm (sK L n).qr (sK L n).qv k),i (boH (sK L n).nb (sK L n).ql (sK L n).qh (sK L n).qm (sK L n).qr (sK L n).qv k)]),i (boE (sK L n).nb (sK L n).ql (sK L n).qh (sK L n).qm (sK L n).qr (sK L n).qv)]))):=by
 refine GT (L:=[]) (VL.cons (PS n L VK) (VL.cons (aE (sK L n).nb (sK L n).ql (sK L n).qh (sK L n).qm (sK L n).qr (sK L n).qv (u9 L n).bV) (VL.nil _))) (VX.ofC (VR.cons RD (VR.nil _)) (VO.nil _) (UC.cons (xB n L) (UC.nil _))) VZ Tryz.func21 (UV Tryz.f21) G8 (t:=need [(Y3 n L)] (branch (ckE n L != 0) (leaf (tup [QA,iI (ckE n L)])) (need [(Y3 n L),ckE n L=0] (need [U0 ([agg [lst 2 3 λk=>[iI (oL k),iI (oH k)],iI 1,hY ((sK L n).nb) (sK L n)]])] (leaf (tup [lst 2 (boN ((sK L n).nb) ((sK L n).ql) ((sK L n).qh) ((sK L n).qm) ((sK L n).qr) ((sK L n).qv)) λk=>[iI (boL ((sK L n).nb) ((sK L n).ql) ((sK L n).qh) ((sK L n).qm) ((sK L n).qr) ((sK L n).qv) k),iI (boH ((sK L n).nb) ((sK L n).ql) ((sK L n).qh) ((sK L n).qm) ((sK L n).qr) ((sK L n).qv) k)],iI (boE ((sK L n).nb) ((sK L n).ql) ((sK L n).qh) ((sK L n).qm) ((sK L n).qr) ((sK L n).qv))])))))) VU ?_
 intro Q hQ;simp only [VN.sat,UB,UJ,VM,FA] at hQ ⊢;refine ⟨λh=>⟨.tup [.x (.slice none 0 0),i (ckE n L)],⟨rfl,⟨rfl,rfl⟩,True.intro⟩,hQ.1 h⟩,λh=>?_⟩
 have h0:ckE n L=0:=by simpa using h
 (with_reducible repeat' first|apply And.intro|intro _)
 all_goals first|exact True.intro|exact h0|rfl|(exact ⟨.tup [.lst 2 (boN (sK L n).nb (sK L n).ql (sK L n).qh (sK L n).qm (sK L n).qr (sK L n).qv) (λk=>[i (boL (sK L n).nb (sK L n).ql (sK L n).qh (sK L n).qm (sK L n).qr (sK L n).qv k),i (boH (sK L n).nb (sK L n).ql (sK L n).qh (sK L n).qm (sK L n).qr (sK L n).qv k)]),i (boE (sK L n).nb (sK L n).ql (sK L n).qh (sK L n).qm (sK L n).qr (sK L n).qv)],⟨⟨rfl,rfl,λ_ _=>rfl⟩,⟨rfl,rfl⟩,True.intro⟩,hQ.2 h⟩)
theorem Qo8(day:Int)(VT:n<=100):UO VP 23 [lns n L,i day] (.branch (ckE n L != 0) (.leaf (.tup [.x (.slice none 0 0),.x (.slice none 0 0),i (ckE n L)])) (.branch (!bt 0 day 100) (.leaf (.tup [.x (.slice none 0 0),.x (.slice none 0 0),i 2])) (.branch (!zJ (sK L n).ns (sK L n).sa (sK L n).sb (sK L n).sc (sK L n).sl (sK L n).sh) (.leaf (.tup [.x (.slice none 0 0),.x (.slice none 0 0),i 9])) (.leaf (.tup [.lst 1 (G9 (caB (sK L n).ns (sK L n).sa (sK L n).sb (sK L n).sc (sK L n).sl (sK L n).sh day) 4) (λz=>[i (UR (caB (sK L n).ns (sK L n).sa (sK L n).sb (sK L n).sc (sK L n).sl (sK L n).sh day) 4 z)]),.lst 1 (G9 (suB (sK L n).ns (sK L n).sa (sK L n).sb (sK L n).sc (sK L n).sl (sK L n).sh day) 4) (λz=>[i (UR (suB (sK L n).ns (sK L n).sa (sK L n).sb (sK L n).sc (sK L n).sl (sK L n).sh day) 4 z)]),i 0]))))):=by
 refine GT (L:=[]) (VL.cons (PS n L VK) (VL.nil _)) (VX.ofC (VR.cons LY (VR.nil _)) (VO.nil _) (UC.cons (xB n L) (UC.cons (nJ (sK L n).ns (sK L n).sa (sK L n).sb (sK L n).sc (sK L n).sl (sK L n).sh day (u9 L n).sV) (UC.nil _)))) VZ Tryz.func23 (UV Tryz.f23) G8 (t:=let z0:=(caB ((sK L n).ns) ((sK L n).sa) ((sK L n).sb) ((sK L n).sc) ((sK L n).sl) ((sK L n).sh) day);let z1:=(suB ((sK L n).ns) ((sK L n).sa) ((sK L n).sb) ((sK L n).sc) ((sK L n).sl) ((sK L n).sh) day);(need [(Y3 n L)] (branch (ckE n L != 0) (leaf (tup [QA,QA,iI (ckE n L)])) (need [(Y3 n L),ckE n L=0] (need [U0 ([agg [iI 4,iI 10,hT ((sK L n).ns) (sK L n)],iI day])] (branch (!bt (0:Int) day (100:Int)) (leaf (tup [QA,QA,iI 2])) (branch (!zJ ((sK L n).ns) ((sK L n).sa) ((sK L n).sb) ((sK L n).sc) ((sK L n).sl) ((sK L n).sh)) (leaf (tup [QA,QA,iI 9])) (leaf (tup [lst 1 (G9 z0 4) λz=>[iI (↑(UR z0 4 z):Int)],lst 1 (G9 z1 4) λz=>[iI (↑(UR z1 4 z):Int)],iI 0]))))))))) VU ?_
 intro Q hQ;simp only [VN.sat,UB,UJ,VM,FA] at hQ ⊢;have rn: ∀z:Int,FF (.tup [.x (.slice none 0 0),.x (.slice none 0 0),i z]) (.tup [.x (.slice none 0 0),.x (.slice none 0 0),i z]):=λz=>⟨rfl,rfl,⟨rfl,rfl⟩,True.intro⟩
 have rl:FF (.tup [.lst 1 (G9 (caB (sK L n).ns (sK L n).sa (sK L n).sb (sK L n).sc (sK L n).sl (sK L n).sh day) 4) (λz=>[i (UR (caB (sK L n).ns (sK L n).sa (sK L n).sb (sK L n).sc (sK L n).sl (sK L n).sh day) 4 z)]),.lst 1 (G9 (suB (sK L n).ns (sK L n).sa (sK L n).sb (sK L n).sc (sK L n).sl (sK L n).sh day) 4) (λz=>[i (UR (suB (sK L n).ns (sK L n).sa (sK L n).sb (sK L n).sc (sK L n).sl (sK L n).sh day) 4 z)]),i 0]) (.tup [.lst 1 (G9 (caB (sK L n).ns (sK L n).sa (sK L n).sb (sK L n).sc (sK L n).sl (sK L n).sh day) 4) (λz=>[i (UR (caB (sK L n).ns (sK L n).sa (sK L n).sb (sK L n).sc (sK L n).sl (sK L n).sh day) 4 z)]),.lst 1 (G9 (suB (sK L n).ns (sK L n).sa (sK L n).sb (sK L n).sc (sK L n).sl (sK L n).sh day) 4) (λz=>[i (UR (suB (sK L n).ns (sK L n).sa (sK L n).sb (sK L n).sc (sK L n).sl (sK L n).sh day) 4 z)]),i 0]):=⟨⟨rfl,rfl,λ_ _=>rfl⟩,⟨rfl,rfl,λ_ _=>rfl⟩,⟨rfl,rfl⟩,True.intro⟩
 refine ⟨λh=>⟨_,rn _,hQ.1 h⟩,λh=>?_⟩
 have h0:ckE n L=0:=by simpa using h
 have hQ2:=hQ.2 h
 (with_reducible repeat' first|apply And.intro|intro _)
 all_goals first|exact True.intro|exact h0|rfl|(rename_i h1;exact ⟨_,rn _,hQ2.1 h1⟩)|(rename_i h1 h2;exact ⟨_,rn _,(hQ2.2 h1).1 h2⟩)|(rename_i h1 h2;exact ⟨_,rl,(hQ2.2 h1).2 h2⟩)
end
section
variable (s:HS)
def stB(a b w d:Int)(v:Bool)(day:Int):Bool:= !v&&(decide (day>=d)&&((asE 4 100 20 30 s.nr s.ra s.rb s.ru s.rv 3 tbP tbQ s.pl s.ph 1 3 a b w day==0)&&kpB 4 100 20 30 s.nr s.ra s.rb s.ru s.rv 3 tbP tbQ s.pl s.ph 1 3 a b w day))
def stP(day:Int)(k:Nat):Bool:=stB s (s.ca k) (s.cb k) (s.cc k) (s.cd k) (s.cv k) day
theorem EQ(a b w d:Int)(v:Bool)(day:Int):VY VP 38 [.agg (hsL s),.agg [i a,i b,i w,i d,bl v],i day] (bl (stB s a b w d v day)):=by
 refine GB (L:=[]) (VL.cons Qh4 (VL.nil _)) (VX.ofC (VR.nil _) (VO.nil _) (UC.cons (Qc6 F9) (UC.nil _))) VZ Tryz.func38 (UV Tryz.f38) G8 (t:=need [UF 4 s.nr λk=>[Bo.i (s.ra k),Bo.i (s.rb k),Bo.i (s.ru k),Bo.i (s.rv k)],UF 2 3 λk=>[i (tbP k),i (tbQ k)]] (branch (!v) (branch (decide (day>=d)) (branch (asE (4:Int) (100:Int) (20:Int) (30:Int) s.nr (s.ra) (s.rb) (s.ru) (s.rv) 3 tbP tbQ s.pl s.ph (1:Int) (3:Int) a b w day==0) (leaf (RV.x (.bool (kpB (4:Int) (100:Int) (20:Int) (30:Int) s.nr (s.ra) (s.rb) (s.ru) (s.rv) 3 tbP tbQ s.pl s.ph (1:Int) (3:Int) a b w day)))) (leaf (RV.x (WQ)))) (leaf (RV.x (WQ)))) (leaf (RV.x (WQ))))) VU ?_
 simp only [VN.sat,UB,UY,UE,UJ];refine ⟨⟨Bo.isRec4 _ _ _ _ _,Pt.isRec2 _ _ _⟩,?_⟩;unfold stB;cases v<;>cases decide (day>=d)<;>cases (asE 4 100 20 30 s.nr s.ra s.rb s.ru s.rv 3 tbP tbQ s.pl s.ph 1 3 a b w day==0)<;>simp
def OY:UZ
 |[.agg l',.agg [.x (.int .i64 a),.x (.int .i64 b),.x (.int .i64 w),.x (.int .i64 d),.x (.bool v)],.x (.int .i64 day)]=>some ([l'=hsL s],bl (stB s a b w d v day))
 |_=>none
theorem EP:VQ VP 38 (OY s):=by
 refine ⟨(UK Tryz.func38),?_⟩;intro avs ns res h hn;unfold OY at h;split at h
 ·cases h;have e:=hn _ GF;subst e;exact EQ s _ _ _ _ _ _
 ·cases h
end
section
variable (n:Nat)(L:Nat->ByteArray)(day:Int)
def Zo9:St:={σ:=[Q8 n L,iI day,top,top,QA,iI 0,iI (ckE n L),AV.ro (hL (sK L n)),lst 1 n λj=>[iI (eK L j)]]++HI 20 [hC ((sK L n).nc) (sK L n),iI (↑((sK L n).nc):Int)]++HI 18 [],m:=[(901,Y8)],nx:=902}
noncomputable def Jo8:Code:=U9 (VS (U8 Tryz.f22) 0)
def Wf8(k:Nat):St:={σ:=H4 [(9,.row 901),(10,.top),(11,.top),(31,i k)] (Zo9 n L day).σ,m:=[(901,.row 3 1 (G9 (stP (sK L n) day) (k)) (λz=>[i (UR (stP (sK L n) day) (sK L n).nc z)]))],nx:=902}
def C7(k:Nat):G6->Option St
 | .exit 0=>some {σ:=H4 [(9,.row 901),(10,.top),(11,.top),(31,i (sK L n).nc)] (Zo9 n L day).σ,m:=[(901,.row 3 1 (G9 (stP (sK L n) day) ((sK L n).nc)) (λz=>[i (UR (stP (sK L n) day) (sK L n).nc z)]))],nx:=902}
 |_=>none
def Jj7:CT:= .leaf (.exit 0,(C7 n L day 0 (.exit 0)).getD (Zo9 n L day))
def Xu1:UG:=GK [(.slot 9,901,3,1)] (HF (Wf8 n L day (0)) (Jj7 n L day))
end
theorem VF{p:Prop}(h:p:=by
 (with_reducible repeat' first|apply And.intro|intro _)
 all_goals first|exact P6|(first|exact absurd (by assumption) hc'|exact FQ (by assumption) (by simp [AV.one,Value.oneCell']))):p:=h
section
variable (n:Nat)(L:Nat->ByteArray)(day:Int)
theorem Zy8(VT:n<=100):G5 VP (.loop Jo8) (Xu1 n L day):=by
 refine US [(.slot 9,901,3,1)] (L:=[]) (VL.cons (PS n L VK) (VL.cons PR (VL.cons (EP (sK L n)) (VL.nil _)))) (VX.ofC (VR.nil _) (VO.nil _) (UC.cons (xB n L) (UC.nil _))) VZ U3 (X:=Nat) (Wf8 n L day) (λk=>k<=(sK L n).nc) (λk=>(sK L n).nc-k) (C7 n L day) (x0:=0) VW ?_ ?_ ?_
 ·rintro k;kernel_rfl
 ·rintro k y E h;unfold C7 at h;split at h
  ·cases h;kernel_rfl
  ·cases h
 ·rintro Q hQ k hx;refine ⟨(k+1),?_⟩;(with_reducible refine D6 (t:=let z0:=(U0 (lst 1 n λj=>[iI (eK L j)]));let z1:=(U0 (hC ((sK L n).nc) (sK L n)));let z2:=(U0 (↑((sK L n).nc):Int));(branch (decide ((k:Int)<(↑((sK L n).nc):Int))) (need [UH k ((sK L n).nc)] (need [U0 (hL (sK L n))] (branch (stB (sK L n) ((sK L n).ca k) ((sK L n).cb k) ((sK L n).cc k) ((sK L n).cd k) ((sK L n).cv k) day) (need [(G9 (stP (sK L n) day) k+1)*8<=140737488355328,RU 1 (U6 1 [iI (k:Int)])] (need [VM ((k:Int)+1)] (need [U0 (Q8 n L),day=day,QA=QA,QT,U0 (ckE n L),U0 (AV.ro (hL (sK L n))),z0,WK,z1,z2,(k:Int)+1=(↑(k+1):Int),G9 (stP (sK L n) day) k+1=G9 (stP (sK L n) day) (k+1),∀(i:Nat),i<G9 (stP (sK L n) day) (k+1)->GI (G9 (stP (sK L n) day) k) (λz=>[iI (↑(UR (stP (sK L n) day) ((sK L n).nc) z):Int)]) (U6 1 [iI (k:Int)]) i=[iI (↑(UR (stP (sK L n) day) ((sK L n).nc) i):Int)]] (leaf G6.normal)))) (need [VM ((k:Int)+1)] (need [U0 (Q8 n L),day=day,QA=QA,QT,U0 (ckE n L),U0 (AV.ro (hL (sK L n))),z0,WK,z1,z2,(k:Int)+1=(↑(k+1):Int),G9 (stP (sK L n) day) k=G9 (stP (sK L n) day) (k+1),∀(i:Nat),i<G9 (stP (sK L n) day) (k+1)->[iI (↑(UR (stP (sK L n) day) ((sK L n).nc) i):Int)]=[iI (↑(UR (stP (sK L n) day) ((sK L n).nc) i):Int)]] (leaf G6.normal)))))) (need [U0 (Q8 n L),day=day,QA=QA,QT,U0 (ckE n L),U0 (AV.ro (hL (sK L n))),z0,WK,z1,z2,(k:Int)=(↑((sK L n).nc):Int),G9 (stP (sK L n) day) k=G9 (stP (sK L n) day) ((sK L n).nc),∀(i:Nat),i<G9 (stP (sK L n) day) ((sK L n).nc)->[iI (↑(UR (stP (sK L n) day) ((sK L n).nc) i):Int)]=[iI (↑(UR (stP (sK L n) day) ((sK L n).nc) i):Int)]] (leaf (G6.exit 0))))) VU ?_)
  simp only [Jj7,C7,VN.sat,GS] at hQ;simp only [VN.sat,UB,UY,GL,UE,VM,UJ,H6,FO,FT,RH,GJ,C7]
  have b1:=gL (p:=stP (sK L n) day) (k:=k);have b2:=(u9 L n).nc;refine ⟨λh=>?_,λh=>?_⟩
  ·have hk:k<(sK L n).nc:=VK;have hq:stP (sK L n) day k=true-> ∀j,j<G9 (stP (sK L n) day) (k+1)->GI (G9 (stP (sK L n) day) k) (λz=>[i (UR (stP (sK L n) day) (sK L n).nc z)]) (U6 1 [i k]) j=[i (UR (stP (sK L n) day) (sK L n).nc j)]:=by
    intro hp j hj;rw [DA hp] at hj;exact Pt.catF1 (a:=λz=>((UR (stP (sK L n) day) (sK L n).nc z:Nat):Int)) hj (by show (k:Int)=((UR (stP (sK L n) day) (sK L n).nc (G9 (stP (sK L n) day) k):Nat):Int);rw [P7 hk hp])
   cases hc:stP (sK L n) day k
   ·have e1:=FN hc;have hc': ¬(stB (sK L n) ((sK L n).ca k) ((sK L n).cb k) ((sK L n).cc k) ((sK L n).cd k) ((sK L n).cv k) day=true):=λh=>Bool.noConfusion (hc.symm.trans h)
    exact VF
   ·have e1:=DA hc;have hc': ¬(stB (sK L n) ((sK L n).ca k) ((sK L n).cb k) ((sK L n).cc k) ((sK L n).cd k) ((sK L n).cv k) day=false):=λh=>Bool.noConfusion (hc.symm.trans h)
    (with_reducible repeat' first|apply And.intro|intro _)
    all_goals first|exact P6|(first|exact absurd (by assumption) hc'|exact hq hc _ (by assumption)|exact FQ (by assumption) (by simp [AV.one,Value.oneCell']))
  ·obtain rfl:k=(sK L n).nc:=VK;exact YZ
theorem TR(VT:n<=100):UO VP 22 [lns n L,i day] (.branch (ckE n L != 0) (.leaf (.tup [.x (.slice none 0 0),i (ckE n L)])) (.branch (!bt 0 day 10000) (.leaf (.tup [.x (.slice none 0 0),i 2])) (.leaf (.tup [.lst 1 (G9 (stP (sK L n) day) (sK L n).nc) (λz=>[i (UR (stP (sK L n) day) (sK L n).nc z)]),i 0])))):=by
 refine GT (L:=[Xu1 n L day]) (VL.cons (PS n L VK) (VL.cons PR (VL.cons (EP (sK L n)) (VL.nil _)))) (VX.ofC (VR.nil _) (VO.nil _) (UC.cons (xB n L) (UC.nil _))) VZ Tryz.func22 (UV Tryz.f22) (G7 (lpE (b:= .loop Jo8) VU<|(Zy8 n L day VT).N)) (t:=need [(Y3 n L)] (branch (ckE n L != 0) (leaf (tup [QA,iI (ckE n L)])) (branch (!bt (0:Int) day (10000:Int)) (leaf (tup [QA,iI 2])) (need [(Y3 n L),ckE n L=0] (need [U0 (Q8 n L),day=day,QA=QA,QT,U0 (ckE n L),U0 (AV.ro (hL (sK L n))),U0 (lst 1 n λj=>[iI (eK L j)]),WK,U0 (hC ((sK L n).nc) (sK L n)),U0 (↑((sK L n).nc):Int),(0:Int)=(↑(0:Nat):Int),0=G9 (stP (sK L n) day) 0,∀(i:Nat),i<G9 (stP (sK L n) day) 0->[]=[iI (↑(UR (stP (sK L n) day) ((sK L n).nc) i):Int)]] (leaf (tup [lst 1 (G9 (stP (sK L n) day) ((sK L n).nc)) λz=>[iI (↑(UR (stP (sK L n) day) ((sK L n).nc) z):Int)],iI 0]))))))) VU ?_
 intro Q hQ;simp only [VN.sat,UB,UJ,VM,FA] at hQ ⊢;have b2:=(u9 L n).nc;have rn: ∀z:Int,FF (.tup [.x (.slice none 0 0),i z]) (.tup [.x (.slice none 0 0),i z]):=λz=>⟨rfl,⟨rfl,rfl⟩,True.intro⟩
 have rl:FF (.tup [.lst 1 (G9 (stP (sK L n) day) (sK L n).nc) (λz=>[i (UR (stP (sK L n) day) (sK L n).nc z)]),i 0]) (.tup [.lst 1 (G9 (stP (sK L n) day) (sK L n).nc) (λz=>[i (UR (stP (sK L n) day) (sK L n).nc z)]),i 0]):=⟨⟨rfl,rfl,λ_ _=>rfl⟩,⟨rfl,rfl⟩,True.intro⟩
 refine ⟨λh=>⟨_,rn _,hQ.1 h⟩,λh=>?_⟩
 have h0:ckE n L=0:=by simpa using h
 have hQ2:=hQ.2 h;refine ⟨λh1=>⟨_,rn _,hQ2.1 h1⟩,λh1=>?_⟩
 have hQ3:=hQ2.2 h1
 (with_reducible repeat' first|apply And.intro|intro _)
 all_goals first|exact True.intro|exact h0|omega|rfl|(rename_i h;exact absurd h (Nat.not_lt_zero _))|exact ⟨_,rl,hQ3⟩
end
def dgI(n:Int):Int:=IntKind.u8.wrap (48+n.tmod 10)
def dg3(n:Int):ByteArray:=⟨#[UInt8.ofNat (dgI ((n.tdiv 10).tdiv 10)).toNat,UInt8.ofNat (dgI (n.tdiv 10)).toNat,UInt8.ofNat (dgI n).toNat]⟩
def dg5(n:Int):ByteArray:=⟨#[UInt8.ofNat (dgI ((((n.tdiv 10).tdiv 10).tdiv 10).tdiv 10)).toNat,UInt8.ofNat (dgI (((n.tdiv 10).tdiv 10).tdiv 10)).toNat,UInt8.ofNat (dgI ((n.tdiv 10).tdiv 10)).toNat,UInt8.ofNat (dgI (n.tdiv 10)).toNat,UInt8.ofNat (dgI n).toNat]⟩
def dgB(n m:Int):ByteArray:=if m=3 then dg3 n else dg5 n
abbrev u8(n:Int):AV:= .x (.int .u8 n)
def tpB(l c:Int):ByteArray:=(((⟨#[91]⟩++dgB l 3)++⟨#[58]⟩)++dgB c 5)++⟨#[93]⟩
def tpC(s:ByteArray)(ix:Int):Nat->Int
 | 0=>23*(ix+1)
 |k+1=>tpC s ix k+((k:Int)+2)*(byN s k+3)
def tpK(s:ByteArray)(ix:Int):Int:=(tpC s ix s.size).tmod 99971
def rcB(s:ByteArray)(ix:Int):ByteArray:=(tpB (s.size:Int) (tpK s ix)++s)++⟨#[10]⟩
def flB(L:Nat->ByteArray):Nat->ByteArray
 | 0=>ByteArray.empty
 |k+1=>flB L k++rcB (L k) (k:Int)
theorem Qc1(n:Int):0<=dgI n/\dgI n<256:=by
 have h:dgI n=(48+n.tmod 10)%256:=rfl;omega
theorem wF{x:Int}(h:0<=x/\x<=1000000000):(0<=x.tdiv 10/\x.tdiv 10<=1000000000)/\0<=x.tmod 10/\x.tmod 10<=9:=by
 rw [Int.tdiv_eq_ediv_of_nonneg h.1,Int.tmod_eq_emod_of_nonneg h.1];omega
theorem by1{x:Int}(h:0<=x/\x<256):byO [u8 x]<256/\[u8 x]=[.x (.int .u8 (byO [u8 x]:Int))]:=by
 have e2:byO [u8 x]=x.toNat:=rfl;rw [e2];refine ⟨VK,?_⟩;rw [show ((x.toNat:Nat):Int)=x by omega]
section
variable (n:Int)
def sI:St:={σ:=mkS 24 [(1,i 3),(5,.ro [u8 (dgI ((n.tdiv 10).tdiv 10)),u8 (dgI (n.tdiv 10)),u8 (dgI n),u8 0,u8 0])],m:=[],nx:=901}
abbrev W7:AV:=AV.x (.int IntKind.u8 (0:Int))
abbrev WY:AV:=AV.x (.int IntKind.u8 (IntKind.wrap IntKind.u8 ((48:Int)+Int.tmod n (10:Int))))
abbrev XG:AV:=AV.x (.int IntKind.u8 (IntKind.wrap IntKind.u8 ((48:Int)+Int.tmod (Int.tdiv n (10:Int)) (10:Int))))
abbrev YT:AV:=AV.x (.int IntKind.u8 (dgI (Int.tdiv (Int.tdiv n (10:Int)) (10:Int))))
abbrev XJ:List AV:=[YT n,AV.x (.int IntKind.u8 (dgI (Int.tdiv n (10:Int)))),AV.x (.int IntKind.u8 (dgI n)),W7,W7]
abbrev ZA:AV:=AV.x (.int IntKind.u8 (IntKind.wrap IntKind.u8 ((48:Int)+Int.tmod (Int.tdiv (Int.tdiv n (10:Int)) (10:Int)) (10:Int))))
theorem iB(VT:0<=n/\n<=1000000000):VY VP 87 [i n,i 3] (.x (.string (dg3 n))):=by
 refine fH (L:=[(λs=>some (xR Tryz.prog [] [] (U9 (VS (U8 Tryz.f87) 0)) 4 s))]) 3 [(.slot 5,0,0,1)] (sI n) (VL.nil _) (VX.of (VR.nil _) (VO.nil _)) VZ Tryz.func87 (UV Tryz.f87) (G7 (lpE (b:= .loop (U9 (VS (U8 Tryz.f87) 0))) VU<|(L8 (VL.nil _) VZ U3 _).N)) VU (t:=let z1:=(Int.tdiv (Int.tdiv n (10:Int)) (10:Int));let z0:=(need [(0:Int)<=3/\(3:Int)<=(↑(5:Nat):Int)] (need [uT (3:Int).toNat λi=>[Option.rec (top) (λval=>(λval=>(λx=>x) val) val) [u8 (dgI z1),u8 (dgI (Int.tdiv n (10:Int))),u8 (dgI n),u8 (0:Int),u8 (0:Int)][i]?]] (leaf (RV.x (.string (bsO (3:Int).toNat λi=>[Option.rec (top) (λval=>(λval=>(λx=>x) val) val) [u8 (dgI z1),u8 (dgI (Int.tdiv n (10:Int))),u8 (dgI n),u8 (0:Int),u8 (0:Int)][i]?]))))));(need [VM ((3:Int)-1)] (branch (decide ((3:Int)-1>=(0:Int))) (need [(10:Int)≠0] (need [VM ((48:Int)+Int.tmod n (10:Int))] (need [(0:Int)<=3-1/\(3:Int)-1<(↑(5:Nat):Int)] (need [(10:Int)≠0,VM (Int.tdiv n (10:Int))] (need [VM ((3:Int)-1-1)] (branch (decide ((3:Int)-1-1>=(0:Int))) (need [(10:Int)≠0] (need [VM ((48:Int)+Int.tmod (Int.tdiv n (10:Int)) (10:Int))] (need [(0:Int)<=3-1-1/\(3:Int)-1-1<(↑(5:Nat):Int)] (need [(10:Int)≠0,VM z1] (need [VM ((3:Int)-1-1-1)] (branch (decide ((3:Int)-1-1-1>=(0:Int))) (need [(10:Int)≠0] (need [VM ((48:Int)+Int.tmod z1 (10:Int))] (need [(0:Int)<=3-1-1-1/\(3:Int)-1-1-1<(↑(5:Nat):Int)] (need [(10:Int)≠0,VM (Int.tdiv z1 (10:Int))] (need [VM ((3:Int)-1-1-1-1)] (branch (decide ((3:Int)-1-1-1-1>=(0:Int))) (need [(10:Int)≠0] (need [VM ((48:Int)+Int.tmod (Int.tdiv z1 (10:Int)) (10:Int))] (need [(0:Int)<=3-1-1-1-1/\(3:Int)-1-1-1-1<(↑(5:Nat):Int)] (need [(10:Int)≠0,VM (Int.tdiv (Int.tdiv z1 (10:Int)) (10:Int))] (need [VM ((3:Int)-1-1-1-1-1)] VN.fail))))) (need [XM,AV.ro [ZA n,XG n,WY n,W7,W7]=AV.ro (XJ n)] z0))))))) (need [XM,AV.ro [W7,XG n,WY n,W7,W7]=AV.ro (XJ n)] z0))))))) (need [XM,AV.ro [W7,W7,WY n,W7,W7]=AV.ro (XJ n)] z0))))))) (need [XM,AV.ro [W7,W7,W7,W7,W7]=AV.ro (XJ n)] z0)))) VU ?_
 have q1:=wF VT;have q2:=wF q1.1;have q3:=wF q2.1;have q4:=wF q3.1;have q5:=wF q4.1;have c1:decide ((3:Int)-1>=0)=true:=by decide
 have c2:decide ((3:Int)-1-1>=0)=true:=by decide
 have c3:decide ((3:Int)-1-1-1>=0)=true:=by decide
 have c4:decide ((3:Int)-1-1-1-1>=0)=false:=by decide
 simp only [VN.sat,UB,UY,UE,UJ,VM,c1,c2,c3,c4,true_imp_iff,eq_self,Bool.true_eq_false,Bool.false_eq_true,false_imp_iff]
 (with_reducible repeat' first|apply And.intro|intro _)
 all_goals first|exact True.intro|omega|rfl|(intro j hj;rcases (show j=0\/j=1\/j=2 by omega) with rfl|rfl|rfl<;>exact by1 (Qc1 _))|decide
def sH:St:={σ:=mkS 24 [(1,i 5),(5,.ro [u8 (dgI ((((n.tdiv 10).tdiv 10).tdiv 10).tdiv 10)),u8 (dgI (((n.tdiv 10).tdiv 10).tdiv 10)),u8 (dgI ((n.tdiv 10).tdiv 10)),u8 (dgI (n.tdiv 10)),u8 (dgI n)])],m:=[],nx:=901}
abbrev QK:List AV:=[AV.x (.int IntKind.u8 (dgI (Int.tdiv (Int.tdiv (Int.tdiv (Int.tdiv n (10:Int)) (10:Int)) (10:Int)) (10:Int)))),AV.x (.int IntKind.u8 (dgI (Int.tdiv (Int.tdiv (Int.tdiv n (10:Int)) (10:Int)) (10:Int)))),YT n,AV.x (.int IntKind.u8 (dgI (Int.tdiv n (10:Int)))),AV.x (.int IntKind.u8 (dgI n))]
abbrev J6:Prop:=(5:Int)=5
abbrev K7:AV:=AV.x (.int IntKind.u8 (IntKind.wrap IntKind.u8 ((48:Int)+Int.tmod (Int.tdiv (Int.tdiv (Int.tdiv n (10:Int)) (10:Int)) (10:Int)) (10:Int))))
theorem iA(VT:0<=n/\n<=1000000000):VY VP 87 [i n,i 5] (.x (.string (dg5 n))):=by
 refine fH (L:=[(λs=>some (xR Tryz.prog [] [] (U9 (VS (U8 Tryz.f87) 0)) 6 s))]) 3 [(.slot 5,0,0,1)] (sH n) (VL.nil _) (VX.of (VR.nil _) (VO.nil _)) VZ Tryz.func87 (UV Tryz.f87) (G7 (lpE (b:= .loop (U9 (VS (U8 Tryz.f87) 0))) VU<|(L8 (VL.nil _) VZ U3 _).N)) VU (t:=let z2:=(Int.tdiv (Int.tdiv n (10:Int)) (10:Int));let z1:=(Int.tdiv z2 (10:Int));let z3:=(Int.tdiv z1 (10:Int));let z0:=(need [(0:Int)<=5/\(5:Int)<=(↑(5:Nat):Int)] (need [uT (5:Int).toNat λi=>[Option.rec (top) (λval=>(λval=>(λx=>x) val) val) [u8 (dgI z3),u8 (dgI z1),u8 (dgI z2),u8 (dgI (Int.tdiv n (10:Int))),u8 (dgI n)][i]?]] (leaf (RV.x (.string (bsO (5:Int).toNat λi=>[Option.rec (top) (λval=>(λval=>(λx=>x) val) val) [u8 (dgI z3),u8 (dgI z1),u8 (dgI z2),u8 (dgI (Int.tdiv n (10:Int))),u8 (dgI n)][i]?]))))));(need [VM ((5:Int)-1)] (branch (decide ((5:Int)-1>=(0:Int))) (need [(10:Int)≠0] (need [VM ((48:Int)+Int.tmod n (10:Int))] (need [(0:Int)<=5-1/\(5:Int)-1<(↑(5:Nat):Int)] (need [(10:Int)≠0,VM (Int.tdiv n (10:Int))] (need [VM ((5:Int)-1-1)] (branch (decide ((5:Int)-1-1>=(0:Int))) (need [(10:Int)≠0] (need [VM ((48:Int)+Int.tmod (Int.tdiv n (10:Int)) (10:Int))] (need [(0:Int)<=5-1-1/\(5:Int)-1-1<(↑(5:Nat):Int)] (need [(10:Int)≠0,VM z2] (need [VM ((5:Int)-1-1-1)] (branch (decide ((5:Int)-1-1-1>=(0:Int))) (need [(10:Int)≠0] (need [VM ((48:Int)+Int.tmod z2 (10:Int))] (need [(0:Int)<=5-1-1-1/\(5:Int)-1-1-1<(↑(5:Nat):Int)] (need [(10:Int)≠0,VM z1] (need [VM ((5:Int)-1-1-1-1)] (branch (decide ((5:Int)-1-1-1-1>=(0:Int))) (need [(10:Int)≠0] (need [VM ((48:Int)+Int.tmod z1 (10:Int))] (need [(0:Int)<=5-1-1-1-1/\(5:Int)-1-1-1-1<(↑(5:Nat):Int)] (need [(10:Int)≠0,VM z3] (need [VM ((5:Int)-1-1-1-1-1)] (branch (decide ((5:Int)-1-1-1-1-1>=(0:Int))) (need [(10:Int)≠0] (need [VM ((48:Int)+Int.tmod z3 (10:Int))] (need [(0:Int)<=5-1-1-1-1-1/\(5:Int)-1-1-1-1-1<(↑(5:Nat):Int)] (need [(10:Int)≠0,VM (Int.tdiv z3 (10:Int))] (need [VM ((5:Int)-1-1-1-1-1-1)] (branch (decide ((5:Int)-1-1-1-1-1-1>=(0:Int))) (need [(10:Int)≠0] (need [VM ((48:Int)+Int.tmod (Int.tdiv z3 (10:Int)) (10:Int))] (need [(0:Int)<=5-1-1-1-1-1-1/\(5:Int)-1-1-1-1-1-1<(↑(5:Nat):Int)] (need [(10:Int)≠0,VM (Int.tdiv (Int.tdiv z3 (10:Int)) (10:Int))] (need [VM ((5:Int)-1-1-1-1-1-1-1)] VN.fail))))) (need [J6,AV.ro [AV.x (.int IntKind.u8 (IntKind.wrap IntKind.u8 ((48:Int)+Int.tmod z3 (10:Int)))),K7 n,ZA n,XG n,WY n]=AV.ro (QK n)] z0))))))) (need [J6,AV.ro [W7,K7 n,ZA n,XG n,WY n]=AV.ro (QK n)] z0))))))) (need [J6,AV.ro [W7,W7,ZA n,XG n,WY n]=AV.ro (QK n)] z0))))))) (need [J6,AV.ro [W7,W7,W7,XG n,WY n]=AV.ro (QK n)] z0))))))) (need [J6,AV.ro [W7,W7,W7,W7,WY n]=AV.ro (QK n)] z0))))))) (need [J6,AV.ro [W7,W7,W7,W7,W7]=AV.ro (QK n)] z0)))) VU ?_
 have q1:=wF VT;have q2:=wF q1.1;have q3:=wF q2.1;have q4:=wF q3.1;have q5:=wF q4.1;have c1:decide ((5:Int)-1>=0)=true:=by decide
 have c2:decide ((5:Int)-1-1>=0)=true:=by decide
 have c3:decide ((5:Int)-1-1-1>=0)=true:=by decide
 have c4:decide ((5:Int)-1-1-1-1>=0)=true:=by decide
 have c5:decide ((5:Int)-1-1-1-1-1>=0)=true:=by decide
 have c6:decide ((5:Int)-1-1-1-1-1-1>=0)=false:=by decide
 simp only [VN.sat,UB,UY,UE,UJ,VM,c1,c2,c3,c4,c5,c6,true_imp_iff,eq_self,Bool.true_eq_false,Bool.false_eq_true,false_imp_iff]
 (with_reducible repeat' first|apply And.intro|intro _)
 all_goals first|exact True.intro|omega|rfl|(intro j hj;rcases (show j=0\/j=1\/j=2\/j=3\/j=4 by omega) with rfl|rfl|rfl|rfl|rfl<;>exact by1 (Qc1 _))|decide
end
def S0:UZ
 |[.x (.int .i64 n),.x (.int .i64 m)]=>some ([0<=n/\n<=1000000000,m=3\/m=5],.x (.string (dgB n m)))
 |_=>none
theorem oY:VQ VP 87 S0:=by
 refine ⟨(UK Tryz.func87),?_⟩;intro avs ns res h hn;unfold S0 at h;split at h
 ·rename_i n m;cases h;have h1:0<=n/\n<=1000000000:=hn _ VW;have h2:m=3\/m=5:=hn _ VW;rcases h2 with rfl|rfl
  ·exact iB n h1
  ·exact iA n h1
 ·cases h
theorem gH(n m:Int)(h:m=3\/m=5):((dgB n m).size:Int)=m:=by
 rcases h with rfl|rfl
 ·rfl
 ·rfl
theorem bK(l c:Int):(tpB l c).size=11:=by
 have h1:=gH l 3 (.inl rfl);have h2:=gH c 5 (.inr rfl);unfold tpB;simp only [ByteArray.size_append];have e1:(⟨#[91]⟩:ByteArray).size=1:=rfl;have e2:(⟨#[58]⟩:ByteArray).size=1:=rfl;have e3:(⟨#[93]⟩:ByteArray).size=1:=rfl;omega
def Qe6:UZ
 |[.agg [.x (.int .i64 l),.x (.int .i64 c)]]=>some ([0<=l/\l<=1000000000,0<=c/\c<=1000000000],.x (.string (tpB l c)))
 |_=>none
theorem Wk5(l c:Int)(VT:0<=l/\l<=1000000000)(UI:0<=c/\c<=1000000000):VY VP 59 [.agg [i l,i c]] (.x (.string (tpB l c))):=by
 refine GB (L:=[]) (VL.cons oY (VL.nil _)) (VX.of (VR.nil _) (VO.nil _)) VZ Tryz.func59 (UV Tryz.f59) G8 (t:=need [(0:Int)<=l/\l<=1000000000,(3:Int)=3\/(3:Int)=5] (need [(↑(ByteArray.size {data:=#[91] }+ByteArray.size (dgB l (3:Int))):Int)<=9223372036854775807] (need [(↑(ByteArray.size ({data:=#[91] }++dgB l (3:Int))+ByteArray.size {data:=#[58] }):Int)<=9223372036854775807] (need [(0:Int)<=c/\c<=1000000000,(5:Int)=3\/(5:Int)=5] (need [(↑(ByteArray.size ({data:=#[91] }++dgB l (3:Int)++{data:=#[58] })+ByteArray.size (dgB c (5:Int))):Int)<=9223372036854775807] (need [(↑(ByteArray.size ({data:=#[91] }++dgB l (3:Int)++{data:=#[58] }++dgB c (5:Int))+ByteArray.size {data:=#[93] }):Int)<=9223372036854775807] (leaf (RV.x (.string ({data:=#[91] }++dgB l (3:Int)++{data:=#[58] }++dgB c (5:Int)++{data:=#[93] })))))))))) VU ?_;have h1:=gH l 3 (.inl rfl);have h2:=gH c 5 (.inr rfl);have e1:(⟨#[91]⟩:ByteArray).size=1:=rfl;have e2:(⟨#[58]⟩:ByteArray).size=1:=rfl;have e3:(⟨#[93]⟩:ByteArray).size=1:=rfl;simp only [VN.sat,UB,UY,UE,UJ,ByteArray.size_append,e1,e2,e3]
 (with_reducible repeat' first|apply And.intro|intro _)
 all_goals first|exact True.intro|omega|rfl|exact VT|exact UI|decide
theorem eR:VQ VP 59 Qe6:=by
 refine ⟨(UK Tryz.func59),?_⟩;intro avs ns res h hn;unfold Qe6 at h;split at h
 ·cases h;exact Wk5 _ _ (hn _ VW) (hn _ VW)
 ·cases h
theorem Qc7(s:ByteArray)(k:Nat):0<=byN s k/\byN s k<=255:=by
 unfold byN;have:=(s.data.getD k 0).toNat_lt;omega
theorem Xj1(A B:ByteArray)(j:Nat):byN (A++B) j=if j<A.size then byN A j else byN B (j-A.size):=by
 unfold byN;have e:(A++B).data=A.data++B.data:=ByteArray.data_append;rw [e,LZ,Array.getElem?_append];have hs:A.data.size=A.size:=rfl;rw [hs];split
 ·rw [LZ]
 ·rw [LZ]
theorem Xj0(A B:ByteArray)(j:Nat):GI A.size (DN A) (DN B) j=DN (A++B) j:=by
 show HB (decide (j<A.size)) (DN A j) (DN B (j-A.size))=_;unfold DN;rw [Xj1];by_cases h:j<A.size
 ·rw [decide_eq_true h,if_pos h];rfl
 ·rw [decide_eq_false h,if_neg h];rfl
theorem Qx3(s:ByteArray)(k:Nat)(h:k<1000):0<=((k:Int)+2)*(byN s k+3)/\((k:Int)+2)*(byN s k+3)<=258516:=by
 have hb:=Qc7 s k;refine ⟨Int.mul_nonneg VK VK,?_⟩;have h1:((k:Int)+2)*(byN s k+3)<=((k:Int)+2)*258:=Int.mul_le_mul_of_nonneg_left VK VK;omega
theorem rS(s:ByteArray)(ix:Int)(hi:0<=ix/\ix<=100000): ∀k:Nat,k<=1000->0<=tpC s ix k/\tpC s ix k<=2400000+(k:Int)*258516
 | 0,_=>by
  show 0<=23*(ix+1)/\23*(ix+1)<=_;omega
 |k+1,hk=>by
  have ih:=rS s ix hi k VK;have hm:=Qx3 s k VK;have e:tpC s ix (k+1)=tpC s ix k+((k:Int)+2)*(byN s k+3):=rfl;rw [e];generalize ((k:Int)+2)*(byN s k+3)=z at hm;omega
section
variable (s:ByteArray)
theorem cH(ix:Int):(rcB s ix).size=12+s.size:=by
 unfold rcB;rw [ByteArray.size_append,ByteArray.size_append,bK];have e1:(⟨#[10]⟩:ByteArray).size=1:=rfl;omega
theorem iR(L:Nat->ByteArray): ∀n,(∀k,k<n->(L k).size<=200)->(flB L n).size<=n*212
 | 0,_=>Nat.le_refl 0
 |n+1,h=>by
  have ih:=iR L n λk hk=>h k VK
  show (flB L n++rcB (L n) n).size<=_;rw [ByteArray.size_append,cH];have:=h n VK;omega
abbrev Z6:AV:=lst 1 (ByteArray.size s) λj=>[AV.x (.int IntKind.u8 (byN s j))]
abbrev YE:AV:=DX s
def Zo7(ix:Int):St:={σ:=[YE s,iI ix,top,top,ptr 0 0]++HI 7 [Z6 s,iI (↑(ByteArray.size s):Int)]++HI 19 [],m:=[(0,GO.cells 144 JR)],nx:=9}
noncomputable def Jo5:Code:=U9 (VS (U8 Tryz.f58) 0)
def Wf5(ix:Int)(k:Nat):St:=(upM [(5,i (tpC s ix k)),(6,.top),(7,.top),(14,i k)] (Zo7 s ix))
def C5(ix:Int)(k:Nat):G6->Option St
 | .exit 0=>some (upM [(5,i (tpC s ix s.size)),(6,.top),(7,.top),(14,i s.size)] (Zo7 s ix))
 |_=>none
def Jj3(ix:Int):CT:= .leaf (.exit 0,(C5 s ix 0 (.exit 0)).getD (Zo7 s ix))
def Xt7(ix:Int):UG:=(HF (Wf5 s ix (0)) (Jj3 s ix))
theorem Zw6(ix:Int)(VT:s.size<=1000)(UI:0<=ix/\ix<=100000):G5 VP (.loop Jo5) (Xt7 s ix):=by
 refine HH (L:=[]) (VL.nil _) VZ U3 (X:=Nat) (Wf5 s ix) (λk=>k<=s.size) (λk=>s.size-k) (C5 s ix) (x0:=0) VW ?_ ?_ ?_
 ·rintro k;kernel_rfl
 ·rintro k y E h;unfold C5 at h;split at h
  ·cases h;kernel_rfl
  ·cases h
 ·rintro Q hQ k hx;refine ⟨(k+1),?_⟩;(with_reducible refine D6 (t:=branch (decide ((k:Int)<(↑(ByteArray.size s):Int))) (need [UH k (ByteArray.size s)] (need [VM ((k:Int)+2)] (need [VM (byN s k)] (need [VM (byN s k+3)] (need [VM (((k:Int)+2)*(byN s k+3))] (need [VM (tpC s ix k+((k:Int)+2)*(byN s k+3))] (need [VM ((k:Int)+1)] (need [YE s=YE s,ix=ix,QL,tpC s ix k+((k:Int)+2)*(byN s k+3)=tpC s ix (k+1),Z6 s=Z6 s,U0 (↑(ByteArray.size s):Int),(k:Int)+1=(↑(k+1):Int),QT,QT] (leaf G6.normal))))))))) (need [YE s=YE s,ix=ix,QL,tpC s ix k=tpC s ix (ByteArray.size s),Z6 s=Z6 s,U0 (↑(ByteArray.size s):Int),(k:Int)=(↑(ByteArray.size s):Int),QT,QT] (leaf (G6.exit 0)))) VU ?_);simp only [Jj3,C5,VN.sat,GS] at hQ;simp only [VN.sat,UB,UY,GL,UE,VM,UJ,H6,FO,FT,RH,GJ,C5]
  have h1:=rS s ix UI k VK;refine ⟨λh=>?_,λh=>?_⟩
  ·have hk:k<s.size:=VK;have h2:=Qx3 s k VK;have h3:=Qc7 s k;have e0:tpC s ix (k+1)=tpC s ix k+((k:Int)+2)*(byN s k+3):=rfl;generalize ((k:Int)+2)*(byN s k+3)=z at h2 e0 ⊢;exact YZ
  ·obtain rfl:k=s.size:=VK;exact YZ
end
def OW:UZ
 |[.x (.string s),.x (.int .i64 ix)]=>some ([s.size<=1000,0<=ix/\ix<=100000],.agg [i s.size,i (tpK s ix)])
 |_=>none
theorem oQ(s:ByteArray)(ix:Int)(VT:s.size<=1000)(UI:0<=ix/\ix<=100000):VY VP 58 [.x (.string s),i ix] (.agg [i s.size,i (tpK s ix)]):=by
 refine GB (L:=[Xt7 s ix]) (VL.nil _) (VX.of (VR.nil _) (VO.nil _)) VZ Tryz.func58 (UV Tryz.f58) (G7 (lpE (b:= .loop Jo5) VU<|(Zw6 s ix VT UI).N)) (t:=need [VM (ix+1)] (need [VM ((23:Int)*(ix+1))] (need [ByteArray.size s<=4294967296] (need [YE s=YE s,ix=ix,QL,(23:Int)*(ix+1)=tpC s ix 0,Z6 s=Z6 s,U0 (↑(ByteArray.size s):Int),(0:Int)=(↑(0:Nat):Int),QT,QT] (need [(99971:Int)≠0] (leaf (RV.agg [RV.x (.int .i64 (↑(ByteArray.size s):Int)),RV.x (.int .i64 (Int.tmod (tpC s ix (ByteArray.size s)) (99971:Int)))]))))))) VU ?_
 have h1:=rS s ix UI s.size VT;simp only [VN.sat,UB,UY,GL,UE,UJ,VM];all_goals exact V7
theorem EN:VQ VP 58 OW:=by
 refine ⟨(UK Tryz.func58),?_⟩;intro avs ns res h hn;unfold OW at h;split at h
 ·cases h;exact oQ _ _ (hn _ VW) (hn _ VW)
 ·cases h
section
variable (n:Nat)(L:Nat->ByteArray)
def Zq3:St:={σ:=[Q8 n L,top,QA,top,top,top,Q8 n L,iI (n:Int)]++HI 16 [],m:=[(901,GO.row 5 1 0 λx=>[])],nx:=902}
noncomputable def Jq3:Code:=U9 (VS (U8 Tryz.f31) 0)
def Wh6(k:Nat):St:={σ:=H4 [(3,.row 901),(4,.top),(5,.top),(8,i k)] (Zq3 n L).σ,m:=[(901,.row 5 1 (flB L k).size (DN (flB L k)))],nx:=902}
def CK(k:Nat):G6->Option St
 | .exit 0=>some {σ:=H4 [(3,.row 901),(4,.top),(5,.top),(8,i n)] (Zq3 n L).σ,m:=[(901,.row 5 1 (flB L n).size (DN (flB L n)))],nx:=902}
 |_=>none
def Jl6:CT:= .leaf (.exit 0,(CK n L 0 (.exit 0)).getD (Zq3 n L))
def Xw2:UG:=GK [(.slot 3,901,5,1)] (HF (Wh6 n L (0)) (Jl6 n L))
theorem Jf6(VT:n<=50)(UI: ∀k,k<n->(L k).size<=200):G5 VP (.loop Jq3) (Xw2 n L):=by
 refine US [(.slot 3,901,5,1)] (L:=[]) (VL.cons EN (VL.cons eR (VL.nil _))) (VX.of (VR.nil _) (VO.nil _)) VZ U3 (X:=Nat) (Wh6 n L) (λk=>k<=n) (λk=>n-k) (CK n L) (x0:=0) VW ?_ ?_ ?_
 ·rintro k;kernel_rfl
 ·rintro k y E h;unfold CK at h;split at h
  ·cases h;kernel_rfl
  ·cases h
 ·rintro Q hQ k hx;refine ⟨(k+1),?_⟩;(with_reducible refine D6 (t:=branch (decide ((k:Int)<(n:Int))) (need [UH k n] (need [ByteArray.size (L k)<=1000,(0:Int)<=(k:Int)/\(k:Int)<=100000] (need [(0:Int)<=(↑(ByteArray.size (L k)):Int)/\(↑(ByteArray.size (L k)):Int)<=1000000000,(0:Int)<=tpK (L k) (k:Int)/\tpK (L k) (k:Int)<=1000000000] (need [(↑(ByteArray.size (tpB (↑(ByteArray.size (L k)):Int) (tpK (L k) (k:Int)))+ByteArray.size (L k)):Int)<=9223372036854775807] (need [(↑(ByteArray.size (tpB (↑(ByteArray.size (L k)):Int) (tpK (L k) (k:Int))++L k)+ByteArray.size {data:=#[10] }):Int)<=9223372036854775807] (need [ByteArray.size (flB L k)+ByteArray.size (tpB (↑(ByteArray.size (L k)):Int) (tpK (L k) (k:Int))++L k++{data:=#[10] })<=140737488355328] (need [VM ((k:Int)+1)] (need [U0 (Q8 n L),QA=QA,WK,U0 (Q8 n L),U0 (n:Int),(k:Int)+1=(↑(k+1):Int),ByteArray.size (flB L k)+ByteArray.size (tpB (↑(ByteArray.size (L k)):Int) (tpK (L k) (k:Int))++L k++{data:=#[10] })=ByteArray.size (flB L (k+1)),∀(i:Nat),i<ByteArray.size (flB L (k+1))->GI (ByteArray.size (flB L k)) (DN (flB L k)) (DN (tpB (↑(ByteArray.size (L k)):Int) (tpK (L k) (k:Int))++L k++{data:=#[10] })) i=DN (flB L (k+1)) i] (leaf G6.normal))))))))) (need [U0 (Q8 n L),QA=QA,WK,U0 (Q8 n L),U0 (n:Int),(k:Int)=(n:Int),ByteArray.size (flB L k)=ByteArray.size (flB L n),∀(i:Nat),i<ByteArray.size (flB L n)->DN (flB L k) i=DN (flB L n) i] (leaf (G6.exit 0)))) VU ?_);simp only [Jl6,CK,VN.sat,GS] at hQ;simp only [VN.sat,UB,UY,GL,UE,VM,UJ,H6,FO,FT,RH,GJ,CK]
  have h1:=iR L k λj hj=>UI j VK
  refine ⟨λh=>?_,λh=>?_⟩
  ·have hk:k<n:=VK;have h2:=UI k hk;have h3:=rS (L k) k VK (L k).size VK;have h4:tpK (L k) k=(tpC (L k) k (L k).size)%99971:=Int.tmod_eq_emod_of_nonneg h3.1;have h5:0<=tpK (L k) k/\tpK (L k) k<99971:=VK;have h6:=cH (L k) k;have h7:=bK ((L k).size:Int) (tpK (L k) k);have e0:(flB L (k+1)).size=(flB L k).size+(rcB (L k) k).size:=ByteArray.size_append;have e1:(⟨#[10]⟩:ByteArray).size=1:=rfl;have e2:(tpB ((L k).size:Int) (tpK (L k) k)++L k).size=11+(L k).size:=by rw [ByteArray.size_append,h7]
   have e3:(tpB ((L k).size:Int) (tpK (L k) k)++L k++⟨#[10]⟩).size=12+(L k).size:=h6;have hq: ∀j,GI (flB L k).size (DN (flB L k)) (DN (tpB ((L k).size:Int) (tpK (L k) k)++L k++⟨#[10]⟩)) j=DN (flB L (k+1)) j:=λj=>Xj0 _ (rcB (L k) k) j
   (with_reducible repeat' first|apply And.intro|intro _)
   all_goals first|exact P6|(first|exact hq _|(rw [e2,e1];omega)|(rw [e3];omega)|(rw [h7];omega))
  ·obtain rfl:k=n:=VK;exact YZ
theorem Wm0(VT:n<=50)(UI: ∀k,k<n->(L k).size<=200):VY VP 31 [lns n L] (.lst 1 (flB L n).size (DN (flB L n))):=by
 refine GB (L:=[Xw2 n L]) (VL.cons EN (VL.cons eR (VL.nil _))) (VX.of (VR.nil _) (VO.nil _)) VZ Tryz.func31 (UV Tryz.f31) (G7 (lpE (b:= .loop Jq3) VU<|(Jf6 n L VT UI).N)) (t:=need [U0 (Q8 n L),QA=QA,WK,U0 (Q8 n L),U0 (n:Int),(0:Int)=(↑(0:Nat):Int),0=ByteArray.size (flB L 0),∀(i:Nat),i<ByteArray.size (flB L 0)->[]=DN (flB L 0) i] (leaf (RV.lst 1 (ByteArray.size (flB L n)) λj=>[AV.x (.int IntKind.u8 (byN (flB L n) j))]))) VU ?_
 simp only [VN.sat,UB,UY,GL,UE,UJ,VM];have hx: ∀k,∀a∈DN (flB L n) k,isX a:=λk a ha=>by rw [BE.1 ha];exact True.intro
 (with_reducible repeat' first|apply And.intro|intro _)
 all_goals first|exact True.intro|omega|rfl|(rename_i h;exact absurd h (Nat.not_lt_zero _))|exact hx _ _ (by assumption)|decide
def Wx0:UZ:=λl=>some ([l=[lns n L],ckE n L=0],.lst 1 (flB L n).size (DN (flB L n)))
theorem Qn9:VQ VP 31 (Wx0 n L):=by
 refine ⟨(UK Tryz.func31),?_⟩;intro avs ns res h hn;cases h;have e:avs=[lns n L]:=hn _ VW;have h0:ckE n L=0:=hn _ VW;subst e;have hk:=yO h0;exact Wm0 n L hk.1 hk.2
theorem Qo7(VT:n<=100):UO VP 13 [lns n L] (.branch (ckE n L != 0) (.leaf (.tup [.x (.slice none 0 0),i (ckE n L)])) (.leaf (.tup [.lst 1 (flB L n).size (DN (flB L n)),i 0]))):=by
 refine GT (L:=[]) (VL.cons (PS n L VK) (VL.cons (Qn9 n L) (VL.nil _))) (VX.of (VR.nil _) (VO.nil _)) VZ Tryz.func13 (UV Tryz.f13) G8 (t:=need [(Y3 n L)] (branch (ckE n L != 0) (leaf (tup [QA,iI (ckE n L)])) (need [(Y3 n L),ckE n L=0] (leaf (tup [lst 1 (ByteArray.size (flB L n)) λj=>[AV.x (.int IntKind.u8 (byN (flB L n) j))],iI 0]))))) VU ?_
 intro Q hQ;simp only [VN.sat,UB,UJ,VM,FA] at hQ ⊢;refine ⟨λh=>⟨.tup [.x (.slice none 0 0),i (ckE n L)],⟨rfl,⟨rfl,rfl⟩,True.intro⟩,hQ.1 h⟩,λh=>?_⟩
 have h0:ckE n L=0:=by simpa using h
 (with_reducible repeat' first|apply And.intro|intro _)
 all_goals first|exact True.intro|exact h0|rfl|(exact ⟨.tup [.lst 1 (flB L n).size (DN (flB L n)),i 0],⟨⟨rfl,rfl,λ_ _=>rfl⟩,⟨rfl,rfl⟩,True.intro⟩,hQ.2 h⟩)
end
end Go.Proofs.YtlclobclmfhlmaaGreatDoor.Hd
