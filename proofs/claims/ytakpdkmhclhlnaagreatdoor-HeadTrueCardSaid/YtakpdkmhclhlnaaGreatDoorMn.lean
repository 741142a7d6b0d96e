/- Contracts, put together. Conditions: those of each. -/
import Derived.Test.YtakpdkmhclhlnaaGreatDoorMm
import Derived.RangeFuncRecord
set_option linter.unusedSimpArgs false
set_option linter.unusedVariables false
set_option maxRecDepth 100000
namespace Go.Proofs.YtakpdkmhclhlnaaGreatDoor.Hd
open Go Go.RowKit
structure b8 (w w':World):Prop where
 size:w.heap.size<=w'.heap.size
 os:w'.os=w.os
 tape:w'.tape=w.tape
 output:w'.output=w.output
theorem Zd1{w:World}{p:Nat}{v:Value}{T:TypeId}(h:w.heap[p]? =some (.cells #[v] T (0,0)))(y:Nat):(w.setCell ⟨p,0,none⟩ v).heap[y]? =w.heap[y]? :=by
 by_cases hy:y=p;subst hy;rw [heap_setCell_same w y 0 _ _ v h,h];rfl;exact heap_setCell_other _ _ _ _ hy
abbrev XX(b:Nat):Value:=Value.pointer (some ⟨b,0,none⟩)
abbrev K7:Value:=Value.int IntKind.i64 0
set_option maxHeartbeats 2000000 in
theorem Zi5(b:Nat)(str:ByteArray)(a0 a3 a4 a5:Option Addr)(l0 q0 l3 q3 l4 q4 l5 q5:Nat)(i1 i2:Int)(w:World)(hb:w.heap[b]? =some (.cells #[.slice a0 l0 q0,.int .i64 i1,.int .i64 i2,.slice a3 l3 q3,.slice a4 l4 q4,.slice a5 l5 q5] 99 (0,0)))
  (e:Int)(touched:Nat->Prop)(ht: ∀y,touched y->y<w.heap.size)(P:World->World->Prop)
  (hl: ∀w2,b8 w w2->(∀y,y<w.heap.size->w2.heap[y]? =w.heap[y]?)->Calls Tryz.prog 106 #[.pointer (some ⟨b,0,none⟩),.string str] w2 λen w3=>en=(if e=0 then .returned (.tuple #[]) else .panicked [{v:= .iface 211 (.agg #[.int .i64 e]),recovered:=false}])/\b8 w2 w3/\(∀y,y<w2.heap.size-> ¬touched y->w3.heap[y]? =w2.heap[y]?)/\(∃c0 c1 c2 c3 c4 c5,w3.heap[b]? =some (.cells #[c0,c1,c2,c3,c4,c5] 99 (0,0)))/\P w2 w3):
  Calls Tryz.prog 63 #[.pointer (some ⟨b,0,none⟩),.string str] w λen w'=>en= .returned (.int .i64 e)/\ ∃w2 w3,b8 w w2/\(∀y,y<w.heap.size->w2.heap[y]? =w.heap[y]?)/\P w2 w3/\b8 w2 w3/\b8 w3 w'/\(∀y,y<w3.heap.size->y≠b->y≠w.heap.size+1->w'.heap[y]? =w3.heap[y]?)/\w'.heap[b]? =(if e=0 then w3.heap[b]? else w.heap[b]?)/\(e=0-> ∀y:Nat,w'.heap[y]? =w3.heap[y]?):=by
 have hmf: ∀(fn:Fn) (first cap:Array Value) (w:World),(Instr.makeFunc fn first cap).run Tryz.prog w= .ok (.func fn first cap) w:=λ_ _ _ _=>rfl
 have lt: ∀{y o},w.heap[y]? =some o->y<w.heap.size:=λh=>(Array.getElem?_eq_some_iff.1 h).1;have cb0:w.cell? ⟨b,0,none⟩=some (.slice a0 l0 q0):=by simp only [World.cell?,hb];rfl
 have cb1:w.cell? ⟨b,1,none⟩=some (.int .i64 i1):=by simp only [World.cell?,hb];rfl
 have cb2:w.cell? ⟨b,2,none⟩=some (.int .i64 i2):=by simp only [World.cell?,hb];rfl
 have cb3:w.cell? ⟨b,3,none⟩=some (.slice a3 l3 q3):=by simp only [World.cell?,hb];rfl
 have cb4:w.cell? ⟨b,4,none⟩=some (.slice a4 l4 q4):=by simp only [World.cell?,hb];rfl
 have cb5:w.cell? ⟨b,5,none⟩=some (.slice a5 l5 q5):=by simp only [World.cell?,hb];rfl
 have nb: ¬w.heap.size=b:=λh=>by have:=lt hb;omega
 have nb': ¬b=w.heap.size:=λh=>by have:=lt hb;omega
 have nb1: ¬b=w.heap.size+1:=λh=>by have:=lt hb;omega
 have nb2: ¬b=w.heap.size+1+1:=λh=>by have:=lt hb;omega
 have nb1': ¬w.heap.size+1=b:=λh=>by have:=lt hb;omega
 have nb2': ¬w.heap.size+1+1=b:=λh=>by have:=lt hb;omega
 have hA: ∀y,y<w.heap.size->((w.alloc (Obj.cells #[XX b] 95)).alloc (Obj.cells #[K7] 23)).heap[y]? =w.heap[y]? :=λy hy=>(Go.RowKit.Below.heap_alloc _ _ y (Nat.lt_succ_of_lt hy |> λh=>by simpa using h)).trans (Go.RowKit.Below.heap_alloc w _ y hy)
 have hAb:=(hA b (lt hb)).trans hb;have d0:((w.alloc (Obj.cells #[XX b] 95)).alloc (Obj.cells #[Value.int IntKind.i64 0] 23)).cell? ⟨b,0,none⟩=some (.slice a0 l0 q0):=by simp only [World.cell?,hAb];rfl
 have d1:((w.alloc (Obj.cells #[XX b] 95)).alloc (Obj.cells #[Value.int IntKind.i64 0] 23)).cell? ⟨b,1,none⟩=some (.int .i64 i1):=by simp only [World.cell?,hAb];rfl
 have d2:((w.alloc (Obj.cells #[XX b] 95)).alloc (Obj.cells #[Value.int IntKind.i64 0] 23)).cell? ⟨b,2,none⟩=some (.int .i64 i2):=by simp only [World.cell?,hAb];rfl
 have d3:((w.alloc (Obj.cells #[XX b] 95)).alloc (Obj.cells #[Value.int IntKind.i64 0] 23)).cell? ⟨b,3,none⟩=some (.slice a3 l3 q3):=by simp only [World.cell?,hAb];rfl
 have d4:((w.alloc (Obj.cells #[XX b] 95)).alloc (Obj.cells #[Value.int IntKind.i64 0] 23)).cell? ⟨b,4,none⟩=some (.slice a4 l4 q4):=by simp only [World.cell?,hAb];rfl
 have d5:((w.alloc (Obj.cells #[XX b] 95)).alloc (Obj.cells #[Value.int IntKind.i64 0] 23)).cell? ⟨b,5,none⟩=some (.slice a5 l5 q5):=by simp only [World.cell?,hAb];rfl
 have s1:(w.alloc (Obj.cells #[Value.pointer (some ⟨b,0,none⟩)] 95)).heap.size=w.heap.size+1:=by simp
 have s2:((w.alloc (Obj.cells #[Value.pointer (some ⟨b,0,none⟩)] 95)).alloc (Obj.cells #[Value.int IntKind.i64 0] 23)).heap.size=w.heap.size+2:=by simp
 have s3:(((w.alloc (Obj.cells #[XX b] 95)).alloc (Obj.cells #[K7] 23)).alloc (Obj.cells #[.slice a0 l0 q0,.int .i64 i1,.int .i64 i2,.slice a3 l3 q3,.slice a4 l4 q4,.slice a5 l5 q5] 43)).heap.size=w.heap.size+3:=by simp
 have hB: ∀y,y<w.heap.size->(((w.alloc (Obj.cells #[XX b] 95)).alloc (Obj.cells #[K7] 23)).alloc (Obj.cells #[.slice a0 l0 q0,.int .i64 i1,.int .i64 i2,.slice a3 l3 q3,.slice a4 l4 q4,.slice a5 l5 q5] 43)).heap[y]? =w.heap[y]? :=λy hy=>(Go.RowKit.Below.heap_alloc _ _ y (by rw [s2];omega)).trans (hA y hy)
 have b5:(((w.alloc (Obj.cells #[XX b] 95)).alloc (Obj.cells #[K7] 23)).alloc (Obj.cells #[.slice a0 l0 q0,.int .i64 i1,.int .i64 i2,.slice a3 l3 q3,.slice a4 l4 q4,.slice a5 l5 q5] 43)).heap[w.heap.size+2]? =some (.cells #[.slice a0 l0 q0,.int .i64 i1,.int .i64 i2,.slice a3 l3 q3,.slice a4 l4 q4,.slice a5 l5 q5] 43 (0,0)):=by
  have:=World.alloc_heap_new ((w.alloc (Obj.cells #[XX b] 95)).alloc (Obj.cells #[K7] 23)) (Obj.cells #[.slice a0 l0 q0,.int .i64 i1,.int .i64 i2,.slice a3 l3 q3,.slice a4 l4 q4,.slice a5 l5 q5] 43);rw [s2] at this;exact this
 have b4:(((w.alloc (Obj.cells #[XX b] 95)).alloc (Obj.cells #[K7] 23)).alloc (Obj.cells #[.slice a0 l0 q0,.int .i64 i1,.int .i64 i2,.slice a3 l3 q3,.slice a4 l4 q4,.slice a5 l5 q5] 43)).heap[w.heap.size+1]? =some (.cells #[.int .i64 0] 23 (0,0)):=by
  have:=World.alloc_heap_new (w.alloc (Obj.cells #[Value.pointer (some ⟨b,0,none⟩)] 95)) (Obj.cells #[Value.int IntKind.i64 0] 23);rw [s1] at this;exact (Go.RowKit.Below.heap_alloc _ _ _ (by rw [s2];omega)).trans this
 have b2:(((w.alloc (Obj.cells #[XX b] 95)).alloc (Obj.cells #[K7] 23)).alloc (Obj.cells #[.slice a0 l0 q0,.int .i64 i1,.int .i64 i2,.slice a3 l3 q3,.slice a4 l4 q4,.slice a5 l5 q5] 43)).heap[w.heap.size]? =some (.cells #[.pointer (some ⟨b,0,none⟩)] 95 (0,0)):=by
  have:=World.alloc_heap_new w (Obj.cells #[Value.pointer (some ⟨b,0,none⟩)] 95);exact (Go.RowKit.Below.heap_alloc _ _ _ (by rw [s2];omega)).trans ((Go.RowKit.Below.heap_alloc _ _ _ (by rw [s1];omega)).trans this)
 have hG:b8 w (((w.alloc (Obj.cells #[XX b] 95)).alloc (Obj.cells #[K7] 23)).alloc (Obj.cells #[.slice a0 l0 q0,.int .i64 i1,.int .i64 i2,.slice a3 l3 q3,.slice a4 l4 q4,.slice a5 l5 q5] 43)):=⟨by rw [s3];omega,rfl,rfl,rfl⟩
 have FD:=hl _ hG hB;by_cases he:e=0
 ·subst he;simp only [if_pos rfl] at FD ⊢
  go_enter_defers Tryz.func63,Tryz.ntmps63
  go_wp2_with (go_at_call 106;refine FD.mono ?_;rintro en w3 ⟨rfl,g1,g2,g3,g4⟩;have h4:=(g2 (w.heap.size+1) (by rw [s3];omega) (λh=>by have:=ht _ h;omega)).trans b4;have k4:w3.cell? ⟨w.heap.size+1,0,none⟩=some (.int .i64 0):=(by simp only [World.cell?,h4];rfl);have f4:w3.frozen? ⟨w.heap.size+1,0,none⟩=false:=(by simp only [World.frozen?,h4];rfl))
  refine leaves_cons (f:=105) (args:=#[.pointer (some ⟨w.heap.size+2,0,none⟩),.pointer (some ⟨w.heap.size,0,none⟩),.pointer (some ⟨w.heap.size+1,0,none⟩)]) (by simp) (by simp [go_sem]) ?_
  refine (Qm9 _ _ _ _).mono ?_;rintro e' u' w'' ⟨rfl,rfl,rfl⟩;have kc:(w3.setCell ⟨w.heap.size+1,0,none⟩ (.int .i64 0)).cell? ⟨w.heap.size+1,0,none⟩=some (.int .i64 0):=by simp only [World.cell?,heap_setCell_same w3 _ 0 _ _ (.int .i64 0) h4];rfl
  simp [Leaves,settle,results,Tryz.results63,go_sem,kc];exact ⟨_,hG,hB,w3,g4,g1,⟨by simp,rfl,rfl,rfl⟩,λy _ _ h2=>heap_setCell_other _ _ _ _ h2,heap_setCell_other _ _ _ _ nb1,λy=>Zd1 h4 y⟩
 ·simp only [if_neg he] at FD ⊢
  go_enter_defers Tryz.func63,Tryz.ntmps63
  go_wp2_with (go_at_call 106;refine FD.mono ?_;rintro en w3 ⟨rfl,g1,g2,g3,g4⟩;have h4:=(g2 (w.heap.size+1) (by rw [s3];omega) (λh=>by have:=ht _ h;omega)).trans b4;have k4:w3.cell? ⟨w.heap.size+1,0,none⟩=some (.int .i64 0):=(by simp only [World.cell?,h4];rfl);have f4:w3.frozen? ⟨w.heap.size+1,0,none⟩=false:=(by simp only [World.frozen?,h4];rfl))
  refine leaves_cons (f:=105) (args:=#[.pointer (some ⟨w.heap.size+2,0,none⟩),.pointer (some ⟨w.heap.size,0,none⟩),.pointer (some ⟨w.heap.size+1,0,none⟩)]) (by simp) (by simp [go_sem]) ?_
  obtain ⟨c0,c1,c2,c3,c4,c5,g3⟩:=g3;have h2:=(g2 w.heap.size (by rw [s3];omega) (λh=>by have:=ht _ h;omega)).trans b2
  have h5:=(g2 (w.heap.size+2) (by rw [s3];omega) (λh=>by have:=ht _ h;omega)).trans b5
  refine (oP b w.heap.size (w.heap.size+1) (w.heap.size+2) e 0 a0 a3 a4 a5 l0 q0 l3 q3 l4 q4 l5 q5 i1 i2 c0 c1 c2 c3 c4 c5 [] w3 h2 h5 h4 g3 (λh=>nb1 h.symm)).mono ?_;rintro e' u' w'' ⟨rfl,rfl,m1,m2,m3,m4,m5⟩;have kc:w''.cell? ⟨w.heap.size+1,0,none⟩=some (.int .i64 e):=by simp only [World.cell?,m3];rfl
  simp [Leaves,settle,results,Tryz.results63,go_sem,kc];exact ⟨_,hG,hB,w3,g4,g1,⟨m1,m4.1,m4.2.1,m4.2.2⟩,m5,m2.trans hb.symm,λh=>absurd h he⟩
open Go Go.Sx Go.RowKit
open Go.Sx.VJ (need branch leaf)
open Go.Sx.AV (lst ptr agg roI tup top)
theorem kY{e:UJ}{w:World}{sz n:Nat}{f:Nat->List AV}{v:Value}(h:Rep e w (.lst sz n f) v): ∃a l c,v= .slice a l c:=by
 cases h with
 |lstNil=>exact ⟨_,_,_,rfl⟩
 |lst=>exact ⟨_,_,_,rfl⟩
theorem Zc8(W:Nat->ByteArray)(s:HS):(DQ W s).xn=s.xn/\(DQ W s).xg=s.xg/\(DQ W s).yn=s.yn/\(DQ W s).yg=s.yg:=by
 unfold DQ;split<;>exact ⟨rfl,rfl,rfl,rfl⟩
theorem Xj6(e:Int):Xj7 211 (rsE e)=(if e=0 then .returned (.tuple #[]) else .panicked [{v:= .iface 211 (.agg #[.int .i64 e]),recovered:=false}]):=by
 unfold rsE Xj7;by_cases h:e=0;simp [h];simp [h]
def Xs7(e:UJ)(w0:World)(T:Nat->Prop)(q r t:Nat)(s s':HS)(er:Int)(w2 w3:World):Prop:=
 Below w0.heap.size w0 w3/\(∀x,(e.ro x\/(w0.heap.size<=x/\x<w2.heap.size/\e.own x≠some q/\e.own x≠some r/\e.own x≠some t))->w3.heap[x]? =w2.heap[x]?)/\
 ∃ro1:Nat->Prop,(∀x,e.ro x->ro1 x)/\(∀x,T x-> ¬ro1 x)/\UX {e with ro:=ro1,own:=LK e q r t} w0.heap.size w3/\
  GD {e with ro:=ro1,own:=LK e q r t} w3 q (.cells 99 (cond (rsE er).1 (hsL s') [.top,.top,.top,.top,.top,.top]))/\
  GD {e with ro:=ro1,own:=LK e q r t} w3 r (.row 23 1 s.xn s.xg)/\GD {e with ro:=ro1,own:=LK e q r t} w3 t (.row 9 1 s.yn s.yg)
theorem Zi7{str:ByteArray}{n:Nat}{W:Nat->ByteArray}{s:HS}(h:vK str n W)(hs:hZ s)
  {e:UJ}{w0 w:World}{T:Nat->Prop}{q r t:Nat}(hEv:UX e w0.heap.size w)(hB:Below w0.heap.size w0 w)(hT: ∀b,T b->b<w0.heap.size/\ ¬e.ro b)
  (hq:GD e w q (.cells 99 (hsL s)))(hr:GD e w r (.row 23 1 s.xn s.xg))(ht:GD e w t (.row 9 1 s.yn s.yg))(hqr:q≠r)(hqt:q≠t)(hrt:r≠t)(hrv: ∃a b c,e.val r= .slice a b c)(htv: ∃a b c,e.val t= .slice a b c):
  Calls Tryz.prog 63 #[.pointer (some ⟨e.blk q,0,none⟩),.string str] w λen w'=>en= .returned (.int .i64 (RW W n s))/\ ∃w2 w3,b8 w w2/\(∀y,y<w.heap.size->w2.heap[y]? =w.heap[y]?)/\Xs7 e w0 T q r t s (DQ W s) (RW W n s) w2 w3/\b8 w2 w3/\b8 w3 w'/\(∀y,y<w3.heap.size->y≠e.blk q->y≠w.heap.size+1->w'.heap[y]? =w3.heap[y]?)/\w'.heap[e.blk q]? =(if RW W n s=0 then w3.heap[e.blk q]? else w.heap[e.blk q]?)/\(RW W n s=0-> ∀y:Nat,w'.heap[y]? =w3.heap[y]?):=by
 have hq0:=hq;obtain ⟨ql,qo,vs,qh,qv⟩:=hq;obtain ⟨u0,us,rfl,r0,qv⟩:=qv.cons_inv;obtain ⟨u1,us,rfl,r1,qv⟩:=qv.cons_inv;obtain ⟨u2,us,rfl,r2,qv⟩:=qv.cons_inv;obtain ⟨u3,us,rfl,r3,qv⟩:=qv.cons_inv;obtain ⟨u4,us,rfl,r4,qv⟩:=qv.cons_inv;obtain ⟨u5,us,rfl,r5,qv⟩:=qv.cons_inv;obtain rfl:=qv.nil_inv;obtain ⟨a0,l0,q0,rfl⟩:=kY r0;obtain rfl:=r1.x_inv;obtain rfl:=r2.x_inv;obtain ⟨a3,l3,q3,rfl⟩:=kY r3;obtain ⟨a4,l4,q4,rfl⟩:=kY r4;obtain ⟨a5,l5,q5,rfl⟩:=kY r5;refine Zi5 (e.blk q) str a0 a3 a4 a5 l0 q0 l3 q3 l4 q4 l5 q5 s.pl s.ph w qh (RW W n s) (λy=>e.own y=some q\/e.own y=some r\/e.own y=some t) (λy hy=>by rcases hy with hy|hy|hy<;>exact (hEv.owned _ _ hy).2) (Xs7 e w0 T q r t s (DQ W s) (RW W n s)) ?_
 intro w2 hG j6;have st:Step e e w w2:=⟨λb hb hro=>⟨hro,j6 b hb⟩,λk hk=>⟨hk,rfl,rfl⟩,hG.size⟩;have hE2:UX e w0.heap.size w2:=⟨λx hx=>⟨(hEv.apart x hx).1,xS (hEv.apart x hx).2 hG.size⟩,λx k hk=>⟨(hEv.owned x k hk).1,xS (hEv.owned x k hk).2 hG.size⟩,hEv.glob.step st⟩;have hB2:Below w0.heap.size w0 w2:=⟨hG.os.trans hB.os,hG.tape.trans hB.tape,hG.output.trans hB.output,Ar hB.size hG.size,λx hx=>(j6 x (xS hx hB.size)).trans (hB.block x hx)⟩;have same: ∀{k:Nat} {R:GL},Xg5 R=false->GD e w k R->GD e w2 k R:=λha hh=>LF st (λx hx=>⟨hx,j6 x (hEv.owned _ _ hx).2⟩) ha hh;have hx:=Zc8 W s;refine (Zj4 (Qn6 h hs) hx hE2 hB2 hT (same rfl hq0) (same rfl hr) (same rfl ht) hqr hqt hrt hrv htv).mono ?_;rintro en w3 ⟨rfl,g2,g3,g4,g5⟩;refine ⟨Xj6 _,⟨g3,g2.os.trans hB2.os.symm,g2.tape.trans hB2.tape.symm,g2.output.trans hB2.output.symm⟩,λy hy hn=>?_,?_,g2,g4,g5⟩;rcases An y w0.heap.size with h1|h1;exact (g2.block y h1).trans (hB2.block y h1).symm;exact g4 y (.inr ⟨h1,hy,λh=>hn (.inl h),λh=>hn (.inr (.inl h)),λh=>hn (.inr (.inr h))⟩);obtain ⟨ro1,_,_,_,⟨_,_,vs1,k0,k1⟩,_⟩:=g5;have hl:vs1.length=6:=by
  rw [←k1.1];cases (rsE (RW W n s)).1<;>rfl
 match vs1,hl,k0 with
 |[c0,c1,c2,c3,c4,c5],_,k0=>exact ⟨c0,c1,c2,c3,c4,c5,k0⟩
theorem Qa8{w w':World}{T sz n:Nat}{v:Value}{xs:List Value}(h:w.ownsRow 0 T sz v n xs)(k: ∀b,v.ownBlock=some b->w'.heap[b]? =w.heap[b]?):w'.ownsRow 0 T sz v n xs:=by
 refine ⟨h.1,?_⟩;rcases h.2 with h2|⟨g,cap,cur,rfl,h3,h4,h5⟩;exact .inl h2;exact .inr ⟨g,cap,cur,rfl,h3,(k g rfl).trans h4,h5⟩
theorem Zi6{str:ByteArray}{n:Nat}{W:Nat->ByteArray}{s:HS}(h:vK str n W)(hs:hZ s)
  {e:UJ}{w0 w:World}{T:Nat->Prop}{q r t:Nat}(hEv:UX e w0.heap.size w)(hB:Below w0.heap.size w0 w)(hT: ∀b,T b->b<w0.heap.size/\ ¬e.ro b)
  (hq:GD e w q (.cells 99 (hsL s)))(hr:GD e w r (.row 23 1 s.xn s.xg))(ht:GD e w t (.row 9 1 s.yn s.yg))(hqr:q≠r)(hqt:q≠t)(hrt:r≠t)(hrv: ∃a b c,e.val r= .slice a b c)(htv: ∃a b c,e.val t= .slice a b c)
  (hxx: ∀i,i<s.xn-> ∀a∈s.xg i,∃u,a= .x u)(hyy: ∀i,i<s.yn-> ∀a∈s.yg i,∃u,a= .x u):
  Calls Tryz.prog 63 #[.pointer (some ⟨e.blk q,0,none⟩),.string str] w λen w'=>en= .returned (.int .i64 (RW W n s))/\Below w0.heap.size w0 w'/\w.heap.size<=w'.heap.size/\(∀x,e.ro x->w'.heap[x]? =w.heap[x]?)/\
   ∃ro1:Nat->Prop,(∀x,e.ro x->ro1 x)/\(∀x,T x-> ¬ro1 x)/\UX {e with ro:=ro1,own:=LK e q r t} w0.heap.size w'/\
    GD {e with ro:=ro1,own:=LK e q r t} w' q (.cells 99 (hsL (if RW W n s=0 then DQ W s else s)))/\GD {e with ro:=ro1,own:=LK e q r t} w' r (.row 23 1 s.xn s.xg)/\GD {e with ro:=ro1,own:=LK e q r t} w' t (.row 9 1 s.yn s.yg):=by
 refine (Zi7 h hs hEv hB hT hq hr ht hqr hqt hrt hrv htv).mono ?_;rintro en w' ⟨rfl,w2,w3,G1,e1,⟨B3,K3,ro1,R1,R2,R3,R4,R5,R6⟩,G2,G3,O1,O2,O3⟩;have hro: ∀x,e.ro x->x<w.heap.size/\x≠e.blk q:=λx hx=>⟨(hEv.apart x hx).2,λh=>by
  have h1:=(hEv.apart x hx).1;rw [h,hq.2.1] at h1;cases h1⟩
 have hqlt:e.blk q<w.heap.size:=(hEv.owned _ _ hq.2.1).2;have lt3: ∀{x},x<w.heap.size->x<w3.heap.size:=λh=>xS h (Ar G1.size G2.size);have hsz:w.heap.size<=w'.heap.size:=Ar (Ar G1.size G2.size) G3.size;have keep: ∀x,e.ro x->w'.heap[x]? =w.heap[x]? :=λx hx=>by
  rw [O1 x (lt3 (hro x hx).1) (hro x hx).2 (by have:=(hro x hx).1;omega),K3 x (.inl hx)]
  exact e1 x (hro x hx).1
 have b0:w0.heap.size<=e.blk q:=(hEv.owned _ _ hq.2.1).1;have hBel:Below w0.heap.size w0 w':=⟨G3.os.trans B3.os,G3.tape.trans B3.tape,G3.output.trans B3.output,Ar B3.size G3.size,λx hx=>by
  rw [O1 x (lt3 (xS hx hB.size)) VG (by have:=hB.size;omega)]
  exact B3.block x hx⟩
 refine ⟨rfl,hBel,hsz,keep,?_⟩;by_cases he:RW W n s=0;have HV:=O3 he;have hb:(rsE (RW W n s)).1=true:=by rw [he];rfl
 rw [hb] at R4;rw [if_pos he];have st:Step {e with ro:=ro1,own:=LK e q r t} {e with ro:=ro1,own:=LK e q r t} w3 w':=⟨λb _ hr=>⟨hr,HV b⟩,λk hk=>⟨hk,rfl,rfl⟩,G3.size⟩
 exact ⟨ro1,R1,R2,⟨λx hx=>⟨(R3.apart x hx).1,xS (R3.apart x hx).2 G3.size⟩,λx k hk=>⟨(R3.owned x k hk).1,xS (R3.owned x k hk).2 G3.size⟩,R3.glob.step st⟩,LF st (λx hx=>⟨hx,HV x⟩) rfl R4,LF st (λx hx=>⟨hx,HV x⟩) rfl R5,LF st (λx hx=>⟨hx,HV x⟩) rfl R6⟩;rw [if_neg he] at O2;rw [if_neg he];have st:Step e {e with own:=LK e q r t} w w':=⟨λb _ hr=>⟨hr,keep b hr⟩,λk hk=>⟨hk,rfl,rfl⟩,hsz⟩
 obtain ⟨ql,qo,vs,qh,qv⟩:=hq;have H2: ∀{x j},LK e q r t x=some j->w0.heap.size<=x/\x<w.heap.size:=by
  intro x j hj;unfold LK at hj;split at hj;rename_i h;rw [h];exact hEv.owned _ _ qo;split at hj;rename_i h;exact hEv.owned _ _ (hr.2.1 x h);split at hj;rename_i h;exact hEv.owned _ _ (ht.2.1 x h);cases hj
 have I2: ∀{k:Nat},k≠q->(∀b,(e.val k).ownBlock=some b->e.own b=some k)-> ∀b,(e.val k).ownBlock=some b->w'.heap[b]? =w3.heap[b]? :=by
  intro k hk ho b hb;have h1:=hEv.owned _ _ (ho b hb);refine O1 b (lt3 h1.2) (λh=>?_) (by have:=h1.2;omega)
  have h2:=ho b hb;rw [h,qo] at h2;exact hk (Bb h2).symm
 refine ⟨e.ro,λ_ h=>h,λx hx=>(hT x hx).2,⟨λx hx=>⟨?_,xS (hEv.apart x hx).2 hsz⟩,λx k hk=>⟨(H2 hk).1,xS (H2 hk).2 hsz⟩,hEv.glob.step st⟩,⟨ql,if_pos rfl,vs,O2.trans qh,qv.step st⟩,?_,?_⟩;have h0:=(hEv.apart x hx).1;show LK e q r t x=none;unfold LK;rw [if_neg (hro x hx).2,if_neg (λh=>by rw [hr.2.1 x h] at h0;cases h0),if_neg (λh=>by rw [ht.2.1 x h] at h0;cases h0)]
 obtain ⟨l5,o5,f5,xs5,p5,r5⟩:=R5;refine ⟨l5,o5,f5,xs5,Qa8 p5 (I2 hqr.symm hr.2.1),λi j a v O ha hv=>?_⟩;obtain ⟨u,rfl⟩:=hxx i O a (DY ha);rw [(r5 i j _ v O ha hv).x_inv];exact .x _;obtain ⟨l6,o6,f6,xs6,p6,r6⟩:=R6;refine ⟨l6,o6,f6,xs6,Qa8 p6 (I2 hqt.symm ht.2.1),λi j a v O ha hv=>?_⟩;obtain ⟨u,rfl⟩:=hyy i O a (DY ha);rw [(r6 i j _ v O ha hv).x_inv];exact .x _
def UJ.nilAt(e:UJ)(nx:Nat):UJ:={ro:=e.ro,own:=e.own,live:=λk=>k=nx\/e.live k,blk:=e.blk,val:=λk=>if k=nx then .slice none 0 0 else e.val k}
theorem EL{e:UJ}{nx:Nat}{w:World}(h: ¬e.live nx):Step e (UJ.nilAt e nx) w w:=⟨λ_ _ h=>⟨h,rfl⟩,λk hk=>⟨.inr hk,rfl,by
 have:k≠nx:=λh'=>h (h'▸hk);simp [UJ.nilAt,this]⟩,Am _⟩
theorem Wf1{e:UJ}{nx B:Nat}{w:World}(h: ¬e.live nx)(hE:UX e B w):UX (UJ.nilAt e nx) B w:=⟨hE.apart,hE.owned,hE.glob.step (EL h)⟩
theorem Qm8(e:UJ)(nx:Nat)(w:World)(T n:Nat)(f:Nat->List AV)(h:n=0):GD (UJ.nilAt e nx) w nx (.row T 1 n f):=by
 subst h;refine ⟨.inl rfl,λb hb=>?_,λi O=>absurd O (Aq i),[],?_,λi j a v O=>absurd O (Aq i)⟩;simp [UJ.nilAt,Value.ownBlock] at hb;have:(UJ.nilAt e nx).val nx= .slice none 0 0:=by simp [UJ.nilAt]
 rw [this];exact World.ownsRow_nil w 0 T 1
theorem NK{e:UJ}{w:World}{k T sz n:Nat}{f:Nat->List AV}(h:GD e w k (.row T sz n f)): ∃a b c,e.val k= .slice a b c:=by
 obtain ⟨_,_,_,xs,h4,_⟩:=h;rcases h4.2 with ⟨h5,_⟩|⟨g,cap,cur,h5,_⟩;exact ⟨_,_,_,h5⟩;exact ⟨_,_,_,h5⟩
def lnW(s:ByteArray)(k:Nat):ByteArray:=(spl s ⟨#[32]⟩).getD k ByteArray.empty
def lnN(s:ByteArray):Nat:=Lib.countB s ⟨#[32]⟩+1
theorem fQ(sep:ByteArray): ∀(k:Nat) (s:ByteArray),∀x∈Lib.splitB sep 0 k s,x.size<=s.size
 | 0,s,x,hx=>by
  simp only [Lib.splitB,GK,DP,or_false] at hx;rw [hx];exact Am _
 |k+1,s,x,hx=>by
  unfold Lib.splitB at hx;split at hx;simp only [GK,DP,or_false] at hx;rw [hx];exact Am _;rcases GK.1 hx with rfl|hx;rw [ByteArray.size_extract];omega;have:=fQ sep k _ x hx;rw [ByteArray.size_extract] at this;omega
section
variable (s:ByteArray)
theorem Qo1(h:s.size<100000):vK s (lnN s) (lnW s):=by
 refine ⟨h,rfl,λk _=>rfl,λk=>?_⟩;unfold lnW;rw [List.getD_eq_getElem?_getD];cases he:(spl s ⟨#[32]⟩)[k]? with
 |none=>exact Ao _
 |some x=>
  have:=fQ _ _ _ x (DY he);show x.size<=100000;omega
def lnE(x:HS):Int:=RW (lnW s) (lnN s) x
def lnS(x:HS):HS:=if lnE s x=0 then DQ (lnW s) x else x
end
def hsX(s:HS)(n:Nat)(g:Nat->List AV)(n':Nat)(g':Nat->List AV):HS:={s with xn:=n,xg:=g,yn:=n',yg:=g'}
theorem tX(W:Nat->ByteArray)(n:Nat)(s:HS)(k k':Nat)(g g':Nat->List AV):RW W n (hsX s k g k' g')=RW W n s:=by
 unfold RW;split<;>rfl
theorem Xd3(W:Nat->ByteArray)(s:HS)(k k':Nat)(g g':Nat->List AV):DQ W (hsX s k g k' g')=hsX (DQ W s) k g k' g':=by
 unfold DQ;split<;>rfl
theorem Zk8{s:HS}(h:hZ s)(k k':Nat)(g g':Nat->List AV):hZ (hsX s k g k' g'):=⟨h.nr,h.bV,h.nc,h.sV⟩
theorem Zj3{s:HS}(h:hZ s)(str:ByteArray):hZ (lnS str s):=by
 unfold lnS;split;rename_i h0;exact tW h h0;exact h
def hs0:HS:={nr:=0,ra:=λ_=>0,rb:=λ_=>0,ru:=λ_=>0,rv:=λ_=>0,pl:=760,ph:=760,nb:=0,ql:=λ_=>0,qh:=λ_=>0,qm:=λ_=>0,qr:=λ_ _=>0,qv:=λ_ _=>0,nc:=0,ca:=λ_=>0,cb:=λ_=>0,cc:=λ_=>0,cd:=λ_=>0,cv:=λ_=>false,ns:=0,sa:=λ_=>0,sb:=λ_=>0,sc:=λ_=>0,sl:=λ_=>0,sh:=λ_=>0,xn:=0,xg:=λ_=>[],yn:=0,yg:=λ_=>[] }
def sK(L:Nat->ByteArray):Nat->HS
 | 0=>hs0
 |k+1=>lnS (L k) (sK L k)
def eK(L:Nat->ByteArray)(k:Nat):Int:=lnE (L k) (sK L k)
def exG(L:Nat->ByteArray)(j:Nat):List AV:=[.x (.int .i64 (eK L j))]
theorem Zl1:hZ hs0:=⟨Ao _,⟨⟨Ao _,λb hb=>absurd hb (Aq b)⟩,λb hb=>absurd hb (Aq b)⟩,Ao _,⟨Ao _,λk hk=>absurd hk (Aq k)⟩⟩
theorem BE(L:Nat->ByteArray): ∀k,hZ (sK L k)
 | 0=>Zl1
 |k+1=>Zj3 (BE L k) (L k)
def AI(L:Nat->ByteArray)(N r:Nat):HY:=λavs m nx sv=>match avs with
 |[.ptr q 0,.x (.string str')]=>match D8 m q with
  |some (.cells T l)=>match D8 m r with
   |some (.row T1 sz1 n1 f1)=>match Nat.beq T 99&&Nat.beq T1 23&& !Nat.beq q r with
    |true=>some (.needT [n1<N,l=hsL (sK L n1),FL str'= .x (.string (L n1)),sz1=1,f1=exG L] (.leaf (.x (.int .i64 (eK L n1)),[(q,.cells 99 (hsL (sK L (n1+1)))),(r,.row 23 1 n1 (exG L))],nx+1,sv)))
    |false=>none
   |_=>none
  |_=>none
 |_=>none
theorem Wf2{L:Nat->ByteArray}{N r:Nat}(hL: ∀k,k<N->(L k).size<100000):
  G8 VL 63 (AI L N r):=by
 refine ⟨(UC Tryz.func63),?_⟩;intro avs m nx sv tr ht Q hQ cx w0 T e ds args w hE hB hm hlv LL hxt hr;unfold AI at ht;split at ht;rename_i q str';split at ht;rename_i T l h1;split at ht;rename_i T1 sz1 n1 f1 h2;split at ht;rename_i hb;rw [GZ,GZ] at hb;obtain ⟨⟨hb1,hb2⟩,hb3⟩:=hb;obtain rfl:=GU hb1;obtain rfl:=GU hb2;have hqr:q≠r:=by
  rintro rfl;simp at hb3
 cases ht;obtain ⟨hn,hq⟩:=VJ.sat_needT hQ;have hn:=GA hn;have e0:n1<N:=hn _ VS;have e1:l=hsL (sK L n1):=hn _ VS;have e2:FL str'= .x (.string (L n1)):=hn _ VS;have e3:sz1=1:=hn _ VS;have e5:f1=exG L:=hn _ VS;have e2:str'=L n1:=by
  injection e2 with e2
  injection e2
 subst e1 e2 e3 e5;obtain ⟨v0,l1,rfl,r1,hr⟩:=hr.cons_inv;obtain ⟨v1,l2,rfl,r2,hr⟩:=hr.cons_inv;obtain rfl:=hr.nil_inv;obtain rfl:=r2.x_inv;have hv0:v0= .pointer (some ⟨e.blk q,0,none⟩):=by cases r1;rfl
 subst hv0;have hid: ¬e.live nx:=λh=>Bf _ (hlv _ h);have hQ0:=hm _ (UW h1);have hR0:=hm _ (UW h2);have hqn:q≠nx:=λh=>hid (h▸hQ0.1);have hrn:r≠nx:=λh=>hid (h▸hR0.1);have st0:=EL (w:=w) hid;have hQ1:GD (UJ.nilAt e nx) w q (.cells 99 (hsL (sK L n1))):=LF st0 (λx hx=>⟨hx,rfl⟩) rfl hQ0;have hR1:GD (UJ.nilAt e nx) w r (.row 23 1 n1 (exG L)):=LF st0 (λx hx=>⟨hx,rfl⟩) rfl hR0;have hT1:=Qm8 e nx w 9 0 (λ_=>[]) rfl;have h:=Qo1 _ (hL n1 e0);have hs:=Zk8 (BE L n1) n1 0 (exG L) (λ_=>[]);have hxx: ∀i,i<n1-> ∀a∈exG L i,∃u,a= .x u:=λi _ a ha=>⟨_,qL.1 ha⟩;refine (Zi6 h hs (Wf1 hid hE) hB LL hQ1 hR1 hT1 hqr hqn hrn (NK hR1) (NK hT1) hxx (λi O=>absurd O (Aq i))).mono ?_;rintro en w' ⟨rfl,g1,g2,g3,ro1,g4,g5,g6,g7,g8,g9⟩;have st:Step e {UJ.nilAt e nx with ro:=ro1,own:=LK (UJ.nilAt e nx) q r nx} w w':=⟨λb _ hb=>⟨g4 b hb,g3 b hb⟩,λk hk=>⟨.inr hk,rfl,(st0.live k hk).2.2⟩,g2⟩
 rw [tX,Xd3] at g7;have g7:GD {UJ.nilAt e nx with ro:=ro1,own:=LK (UJ.nilAt e nx) q r nx} w' q (.cells 99 (hsL (sK L (n1+1)))):=by
  show GD _ w' q (.cells 99 (hsL (lnS (L n1) (sK L n1))));unfold lnS lnE;by_cases h0:RW (lnW (L n1)) (lnN (L n1)) (sK L n1)=0;rw [if_pos h0] at g7 ⊢;exact g7;rw [if_neg h0] at g7 ⊢;exact g7
 rw [tX];refine ⟨_,_,_,_,_,{UJ.nilAt e nx with ro:=ro1,own:=LK (UJ.nilAt e nx) q r nx},rfl,hq,g6,g1,?_,?_,λb hb=>⟨(LL b hb).1,g5 b hb⟩,hxt.step st,.x _⟩
 intro p hp;simp only [GK,DP,or_false] at hp;rcases hp with rfl|rfl;exact g7;exact g8;rintro k (rfl|hk);exact Bk _;exact Nat.lt_succ_of_lt (hlv k hk);cases ht;cases ht;cases ht;cases ht
open Go Go.Sx Go.RowKit Bo
def cvB:GL->GL
 | .cells T [.x (.slice none 0 0),.x (.int .i64 a),.x (.int .i64 b),.x (.slice none 0 0),.x (.slice none 0 0),.x (.slice none 0 0)]=> .cells T [hsR hs0,i a,i b,hsB hs0,hsC hs0,hsS hs0]
 |r=>r
def cvM:GW->GW
 |[]=>[]
 |(k,r)::t=>(k,cvB r)::cvM t
noncomputable def tJ:HY:=λavs m nx sv=>match mW avs m nx sv with
 |some t=>some (t.bind λp=> .leaf (p.1,cvM p.2.1,p.2.2.1,p.2.2.2))
 |none=>none
theorem Zn2{e:UJ}{w:World}{k:Nat}{r:GL}(h:GD e w k r):GD e w k (cvB r):=by
 unfold cvB;split;rename_i T a b;obtain ⟨h1,h2,vs,h3,h4⟩:=h;refine ⟨h1,h2,vs,h3,?_⟩;obtain ⟨u0,us,rfl,r0,h4⟩:=h4.cons_inv;obtain ⟨u1,us,rfl,r1,h4⟩:=h4.cons_inv;obtain ⟨u2,us,rfl,r2,h4⟩:=h4.cons_inv;obtain ⟨u3,us,rfl,r3,h4⟩:=h4.cons_inv;obtain ⟨u4,us,rfl,r4,h4⟩:=h4.cons_inv;obtain ⟨u5,us,rfl,r5,h4⟩:=h4.cons_inv;obtain rfl:=h4.nil_inv;obtain rfl:=r0.x_inv;obtain rfl:=r3.x_inv;obtain rfl:=r4.x_inv;obtain rfl:=r5.x_inv;exact .cons (.lstNil _ _) (.cons r1 (.cons r2 (.cons (.lstNil _ _) (.cons (.lstNil _ _) (.cons (.lstNil _ _) (.nil _ _))))));exact h
theorem Ws1{e:UJ}{w:World}: ∀{m:GW},US e m w->US e (cvM m) w
 |[],_,p,hp=>by cases hp
 |(k,r)::t,h,p,hp=>by
  rcases GK.1 hp with rfl|hp;exact Zn2 (h (k,r) GB);exact Ws1 (m:=t) (λq hq=>h q (HM _ hq)) p hp
theorem Qe7:G8 VL 67 tJ:=by
 refine ⟨I9.1,?_⟩;intro avs m nx sv t ht Q hQ c w0 T e ds args w hE hB hm hl LL hxt hr;unfold tJ at ht;split at ht;rename_i t0 h0;cases ht;refine (I9.2 _ _ _ _ _ h0 _ (VJ.sat_bind hQ) c w0 T e ds args w hE hB hm hl LL hxt hr).mono ?_;rintro en w' ⟨v,r,m',nx',sv',e',q1,q2,q3,q4,q5,q6,q7,q8,q9⟩;exact ⟨v,r,cvM m',nx',sv',e',q1,q2,q3,q4,Ws1 q5,q6,q7,q8,q9⟩;cases ht
theorem eG{L:Nat->ByteArray}{n:Nat}(h: ∀k,k<n->(L k).size<100000):G8 VL 63 (AI L n 902):=Wf2 h
abbrev KN:AV:=lst 3 0 λk=>[iI (hs0.ql k),iI (hs0.qh k),lst 2 0 λj=>[iI (hs0.qr k j),iI (hs0.qv k j)]]
section
variable (n:Nat)(L:Nat->ByteArray)
def Zr0:St:={σ:=[Q6 n L,top,QD,Q9,ptr 900 0,top,top,top,top,Q6 n L,iI (n:Int)]++HF 13 [],m:=[(902,GL.row 23 1 0 λx=>[]),(900,GL.cells 99 [hR 0 hs0,iI 760,iI 760,KN,hC 0 hs0,hT 0 hs0])],nx:=903}
noncomputable def Jq1:Code:=U7 (VP (U5 Tryz.f37) 0)
def Wi2(k:Nat):St:={σ:=H0 [(4,.ptr 900 0),(5,.row 902),(7,.top),(11,i k)] (Zr0 n L).σ,m:=[(902,.row 23 1 k (exG L)),(900,.cells 99 (hsL (sK L k)))],nx:=903}
def CR(k:Nat):G4->Option St
 | .exit 0=>some {σ:=H0 [(4,.ptr 900 0),(5,.row 902),(7,.top),(11,i n)] (Zr0 n L).σ,m:=[(902,.row 23 1 n (exG L)),(900,.cells 99 (hsL (sK L n)))],nx:=903}
 |_=>none
def Jl1:CT:= .leaf (.exit 0,(CR n L 0 (.exit 0)).getD (Zr0 n L))
def Xw1:UF:=GG [(.slot 4,900,0,2),(.slot 5,902,23,1)] (HD (Wi2 n L (0)) (Jl1 n L))
end
abbrev Y3:Prop:=ptr 900 0=ptr 900 0
noncomputable abbrev YU(L:Nat->ByteArray)(n:Nat):Ext:={R:=[],H:=[(67,tJ),(63,(AI L n 902))] }
section
variable (n:Nat)(L:Nat->ByteArray)
theorem Jb1(VO:n<=50)(UD: ∀k,k<n->(L k).size<100000):G5 VL (.loop Jq1) (Xw1 n L):=by
 refine UT [(.slot 4,900,0,2),(.slot 5,902,23,1)] (L:=[]) Aa (Ai Ab (Ag Qe7 (Ag (eG UD) Ac))) VW U0 (X:=Nat) (Wi2 n L) (λk=>k<=n) (λk=>n-k) (CR n L) (x0:=0) VS ?_ ?_ ?_;rintro k;kernel_rfl;rintro k y E h;unfold CR at h;split at h;cases h;kernel_rfl;cases h;rintro Q hQ k hx;refine ⟨(k+1),?_⟩;(with_reducible refine DA (t:=branch (decide ((k:Int)<(n:Int))) (need [UG k n] (need [k<n,VU (hL (sK L k)),VU (FL (L k)),1=1,exG L=exG L] (need [(k+1)*8<=140737488355328,RQ 1 (U3 1 [iI (eK L k)])] (need [VI ((k:Int)+1)] (need [VU (Q6 n L),QD=QD,Q9=Q9,Y3,WI,VU (Q6 n L),VU (n:Int),(k:Int)+1=(↑(k+1):Int),k+1=k+1,GR (k+1) (GE k (exG L) (U3 1 [iI (eK L k)])) (exG L),VU (hR ((sK L (k+1)).nr) (sK L (k+1))),VU ((sK L (k+1)).pl),VU ((sK L (k+1)).ph),VU (hY ((sK L (k+1)).nb) (sK L (k+1))),VU (hC ((sK L (k+1)).nc) (sK L (k+1))),VU (hT ((sK L (k+1)).ns) (sK L (k+1)))] (leaf G4.normal)))))) (need [VU (Q6 n L),QD=QD,Q9=Q9,Y3,WI,VU (Q6 n L),VU (n:Int),(k:Int)=(n:Int),k=n,GM n (exG L),(hR ((sK L k).nr) (sK L k))=hR ((sK L n).nr) (sK L n),(sK L k).pl=(sK L n).pl,(sK L k).ph=(sK L n).ph,(hY ((sK L k).nb) (sK L k))=hY ((sK L n).nb) (sK L n),(hC ((sK L k).nc) (sK L k))=hC ((sK L n).nc) (sK L n),(hT ((sK L k).ns) (sK L k))=hT ((sK L n).ns) (sK L n)] (leaf (G4.exit 0)))) VQ ?_);simp only [Jl1,CR,VJ.sat,GQ] at hQ;simp only [VJ.sat,U8,UZ,GH,UB,VI,UE,H6,FW,R0,RT,GJ,CR]
 refine ⟨λh=>?_,λh=>?_⟩
 ·have hk:k<n:=VG;have hq: ∀j,j<k+1->GE k (exG L) (U3 1 [i (eK L k)]) j=exG L j:=λj hj=>Pt.catF1 (a:=eK L) hj rfl
  (with_reducible repeat' first|apply Al|intro _)
  all_goals first|exact P4|(first|exact hq _ (by assumption)|exact FM (by assumption) (by simp [AV.one,Value.oneCell']))
 ·obtain rfl:k=n:=VG
  (with_reducible repeat' first|apply Al|intro _)
  all_goals first|exact P4|(assumption)
theorem iH(VO:n<=50)(UD: ∀k,k<n->(L k).size<100000):UH VL 37 [lns n L] (.leaf (.tup [.ro (hsL (sK L n)),.lst 1 n (exG L)])):=by
 refine GO (L:=[Xw1 n L]) Aa (Ai Ab (Ag Qe7 (Ag (eG UD) Ac))) VW Tryz.func37 (UR Tryz.f37) (G0 (lpE (b:= .loop Jq1) VQ<|(Jb1 n L VO UD).N)) (t:=need [VU (Q6 n L),QD=QD,Q9=Q9,Y3,WI,VU (Q6 n L),VU (n:Int),(0:Int)=(↑(0:Nat):Int),0=0,GR 0 (λi=>[]) (exG L),(hR 0 hs0)=hR 0 (sK L 0),(760:Int)=(sK L 0).pl,(760:Int)=(sK L 0).ph,(KN)=lst 3 0 λk=>[iI ((sK L 0).ql k),iI ((sK L 0).qh k),lst 2 0 λj=>[iI ((sK L 0).qr k j),iI ((sK L 0).qv k j)]],(hC 0 hs0)=hC 0 (sK L 0),(hT 0 hs0)=hT 0 (sK L 0)] (leaf (tup [AV.ro (hL (sK L n)),lst 1 n λj=>[iI (eK L j)]]))) VQ ?_
 intro Q hQ;simp only [VJ.sat,U8,UE,VI,FC] at hQ ⊢
 (with_reducible repeat' first|apply Al|intro _)
 all_goals first|exact Ak|omega|rfl|assumption|exact ⟨.tup [.ro (hsL (sK L n)),.lst 1 n (exG L)],⟨rfl,⟨rfl,rfl,λ_ _=>rfl⟩,Ak⟩,hQ⟩
end
def baG(s:HS)(k:Nat):List AV:=[i (s.ql k),i (s.qh k),.lst 2 (s.qm k) (λj=>[i (s.qr k j),i (s.qv k j)])]
def hsN(s:HS):Prop:=s.nr<=1000/\s.nb<=1000/\s.nc<=1000/\s.ns<=1000/\ ∀b,b<s.nb->s.qm b<=1000
theorem Jf9(n:Nat)(a b u v:Nat->Int):gdX 4 n (λk=>[i (a k),i (b k),i (u k),i (v k)]):=λk _=>⟨rfl,λx hx=>by
 simp only [GK,DP,or_false] at hx;rcases hx with rfl|rfl|rfl|rfl<;>exact ⟨Ak,by simp [AV.one,Value.oneCell']⟩⟩
theorem Jg0(n:Nat)(a b c d:Nat->Int)(v:Nat->Bool):gdX 5 n (λk=>[i (a k),i (b k),i (c k),i (d k),bl (v k)]):=λk _=>⟨rfl,λx hx=>by
 simp only [GK,DP,or_false] at hx;rcases hx with rfl|rfl|rfl|rfl|rfl<;>exact ⟨Ak,by simp [AV.one,Value.oneCell']⟩⟩
theorem Jf8(n:Nat)(a b c d v:Nat->Int):gdX 5 n (λk=>[i (a k),i (b k),i (c k),i (d k),i (v k)]):=λk _=>⟨rfl,λx hx=>by
 simp only [GK,DP,or_false] at hx;rcases hx with rfl|rfl|rfl|rfl|rfl<;>exact ⟨Ak,by simp [AV.one,Value.oneCell']⟩⟩
theorem Jf7(n:Nat)(a b:Nat->Int):gdX 2 n (λk=>[i (a k),i (b k)]):=λk _=>⟨rfl,λx hx=>by
 simp only [GK,DP,or_false] at hx;rcases hx with rfl|rfl<;>exact ⟨Ak,by simp [AV.one,Value.oneCell']⟩⟩
theorem Zn8{s:HS}{k j:Nat}(hj:j<k+1):GE k (baG s) (U3 3 [i (s.ql k),i (s.qh k),.lst 2 (s.qm k) (λj=>[i (s.qr k j),i (s.qv k j)])]) j=baG s j:=by
 rcases (show j<k\/j=k by omega) with h|rfl
 show H9 (decide (j<k)) _ _=_;rw [decide_eq_true h,show j-k=0 by omega]
 rfl;show H9 (decide (j<j)) _ _=_;rw [show decide (j<j)=false by simp,Bs]
 rfl
abbrev YJ:List AV:=[Q9,iI 0,iI 0,Q9,Q9,Q9]
section
variable (s:HS)
def Zs7:St:={σ:=[agg (hL s),ptr 0 0,ptr 1 0,ptr 900 0]++HF 15 [hY s.nb s,iI (↑s.nb:Int)]++HF 17 [],m:=[(901,GL.row 148 3 0 λx=>[]),(900,GL.cells 43 [hR s.nr s,iI s.pl,iI s.ph,AV.row 901,hC s.nc s,hT s.ns s]),(1,GL.cells 43 YJ),(0,GL.cells 43 (hL s))],nx:=902}
noncomputable def Jr9:Code:=U7 (VP (U5 Tryz.f60) 0)
def Wk3(k:Nat):St:={σ:=H0 [(3,.ptr 900 0),(5,.top),(21,i k)] (Zs7 s).σ,m:=[(901,.row 148 3 k (baG s)),(900,.cells 43 [hsR s,i s.pl,i s.ph,.row 901,hsC s,hsS s]),(1,(.cells 43 [.x (.slice none 0 0),i 0,i 0,.x (.slice none 0 0),.x (.slice none 0 0),.x (.slice none 0 0)])),(0,.cells 43 (hsL s))],nx:=902}
def E9(k:Nat):G4->Option St
 | .exit 0=>some {σ:=H0 [(3,.ptr 900 0),(5,.top),(21,i s.nb)] (Zs7 s).σ,m:=[(901,.row 148 3 s.nb (baG s)),(900,.cells 43 [hsR s,i s.pl,i s.ph,.row 901,hsC s,hsS s]),(1,(.cells 43 [.x (.slice none 0 0),i 0,i 0,.x (.slice none 0 0),.x (.slice none 0 0),.x (.slice none 0 0)])),(0,.cells 43 (hsL s))],nx:=902}
 |_=>none
def Jn2:CT:= .leaf (.exit 0,(E9 s 0 (.exit 0)).getD (Zs7 s))
def Xy5:UF:=GG [(.slot 3,900,0,2),(.cell 900 3,901,148,3)] (HD (Wk3 s (0)) (Jn2 s))
abbrev Y1:List (Nat×UU):=[(99,sX),(100,sY),(101,sW),(102,sU)]
theorem Jh8(VO:hsN s):G5 VL (.loop Jr9) (Xy5 s):=by
 refine UT [(.slot 3,900,0,2),(.cell 900 3,901,148,3)] (L:=[]) (Ae Qc9 (Ae Qd0 (Ae Qc8 (Ae Qc7 Aa)))) Ad VW U0 (X:=Nat) (Wk3 s) (λk=>k<=s.nb) (λk=>s.nb-k) (E9 s) (x0:=0) VS ?_ ?_ ?_;rintro k;kernel_rfl;rintro k y E h;unfold E9 at h;split at h;cases h;kernel_rfl;cases h;rintro Q hQ k hx;refine ⟨(k+1),?_⟩;(with_reducible refine DA (t:=let z0:=(lst 2 (s.qm k) λj=>[iI (s.qr k j),iI (s.qv k j)]);(branch (decide ((k:Int)<(↑s.nb:Int))) (need [UG k s.nb] (need [s.qm k<=100000,gdX 2 (s.qm k) λj=>[iI (s.qr k j),iI (s.qv k j)]] (need [(k+1)*40<=140737488355328,RQ 1 (U3 3 [iI (s.ql k),iI (s.qh k),z0])] (need [VI ((k:Int)+1)] (need [VU (agg (hL s)),QO,XV,Y3,XW s,VU (↑s.nb:Int),(k:Int)+1=(↑(k+1):Int),k+1=k+1,GR (k+1) (GE k (baG s) (U3 3 [iI (s.ql k),iI (s.qh k),z0])) (baG s),XH s,JO s,JP s,WG,XN s,XO s,Q9=Q9,QI,QI,Q9=Q9,Q9=Q9,Q9=Q9,XH s,JO s,JP s,XW s,XN s,XO s] (leaf G4.normal)))))) (need [VU (agg (hL s)),QO,XV,Y3,XW s,VU (↑s.nb:Int),(k:Int)=(↑s.nb:Int),k=s.nb,∀(i:Nat),i<s.nb->baG s i=baG s i,XH s,JO s,JP s,WG,XN s,XO s,Q9=Q9,QI,QI,Q9=Q9,Q9=Q9,Q9=Q9,XH s,JO s,JP s,XW s,XN s,XO s] (leaf (G4.exit 0))))) VQ ?_)
 simp only [Jn2,E9,VJ.sat,GQ] at hQ;simp only [VJ.sat,U8,UZ,GH,UB,VI,UE,H6,FW,R0,RT,GJ,E9]
 obtain ⟨h1,h2,h3,h4,h5⟩:=VO;refine ⟨λh=>?_,λh=>?_⟩
 ·have hk:k<s.nb:=VG;have h6:=h5 k hk
  (with_reducible repeat' first|apply Al|intro _)
  all_goals first|exact P4|(first|exact Jf7 _ _ _|exact FM (by assumption) (by simp [AV.one,Value.oneCell'])|exact Zn8 (by assumption))
 obtain rfl:k=s.nb:=VG;exact YW
theorem pR(VO:hsN s):UH VL 60 [.agg (hsL s)] (.leaf (.agg (hsL s))):=by
 refine GO (L:=[Xy5 s]) (Ae Qc9 (Ae Qd0 (Ae Qc8 (Ae Qc7 Aa)))) Ad VW Tryz.func60 (UR Tryz.f60) (G0 (lpE (b:= .loop Jr9) VQ<|(Jh8 s VO).N)) (t:=need [s.nr<=100000,gdX 4 s.nr λk=>[Bo.i (s.ra k),Bo.i (s.rb k),Bo.i (s.ru k),Bo.i (s.rv k)]] (need [s.nc<=100000,gdX 5 s.nc λk=>[i (s.ca k),i (s.cb k),i (s.cc k),i (s.cd k),bl (s.cv k)]] (need [s.ns<=100000,gdX 5 s.ns λk=>[i (s.sa k),i (s.sb k),i (s.sc k),i (s.sl k),i (s.sh k)]] (need [VU (agg (hL s)),QO,XV,Y3,XW s,VU (↑s.nb:Int),(0:Int)=(↑(0:Nat):Int),0=0,GR 0 (λi=>[]) (baG s),XH s,JO s,JP s,WG,XN s,XO s,Q9=Q9,QI,QI,Q9=Q9,Q9=Q9,Q9=Q9,XH s,JO s,JP s,XW s,XN s,XO s] (leaf (agg (hL s))))))) VQ ?_
 intro Q hQ;simp only [VJ.sat,U8,UE,VI,FC] at hQ ⊢;obtain ⟨h1,h2,h3,h4,h5⟩:=VO
 (with_reducible repeat' first|apply Al|intro _)
 all_goals first|exact Ak|omega|exact Jf9 _ _ _ _ _|exact Jg0 _ _ _ _ _ _|exact Jf8 _ _ _ _ _ _|rfl|assumption|(rename_i h;exact absurd h (Aq _))|exact ⟨.agg (hsL s),⟨⟨rfl,rfl,λ_ _=>rfl⟩,⟨rfl,rfl⟩,⟨rfl,rfl⟩,⟨rfl,rfl,λ_ _=>rfl⟩,⟨rfl,rfl,λ_ _=>rfl⟩,⟨rfl,rfl,λ_ _=>rfl⟩,Ak⟩,hQ⟩
end
section
variable (n:Nat)(a b c U O:Nat->Int)
def hoS(ow Z:Int):Int×Int:=hoF n a b c (eD n a b c U O (2^n)) (lS n a b c U O (2^n-1)) ow Z (2^n)
theorem Qm3(ow Z:Int)(VO:sV n a b c U O):UH VL 47 [.agg [i 4,i 10,sls n a b c U O],i ow,i Z] (.branch (bt 0 ow 3&&bt 0 Z 100) (.branch (!xI n a b c U O) (.leaf (.tup [.agg [i 0,i 0],i 9])) (.leaf (.tup [.agg [i (hoS n a b c U O ow Z).1,i (hoS n a b c U O ow Z).2],i 0]))) (.leaf (.tup [.agg [i 0,i 0],i 2]))):=by
 refine GO (L:=[]) (Ae z8 (Ae A4 (Ae (v8 n a b c U O (eD n a b c U O (2^n)) (lS n a b c U O (2^n-1)) VO) Aa))) (Aj Ab Ac (Ah (v6 n a b c U O VO) (U1.nil _))) VW Tryz.func47 (UR Tryz.f47) UV (t:=let z6:=(lst 1 (2^n) λz=>[iI (eD n a b c U O (2^n) z)]);let z5:=(lst 1 (2^n) λz=>[iI (lS n a b c U O (2^n-1) z)]);let S:=(hoF n a b c (eD n a b c U O (2^n)) (lS n a b c U O (2^n-1)) ow Z (2^n));let z4:=(leaf (tup [agg [iI (Prod.fst S),iI (Prod.snd S)],iI 0]));let z0:=(need [AV.x (Y4)=AV.ro [iI 4,iI 10,Q0 n a b c U O,z6,z5],(0:Int)<=ow/\ow<4] z4);let I:=(branch (!xI n a b c U O) (branch ((9:Int) != 0) (leaf (tup [agg JN,iI 9])) z0) (branch ((0:Int) != 0) (leaf (tup [agg JN,iI 0])) (need [VU (AV.ro [iI 4,iI 10,Q0 n a b c U O,z6,z5]),(0:Int)<=ow/\ow<4] z4)));let z3:=(branch ((2:Int) != 0) (leaf (tup [agg JN,iI 2])) z0);(need [VI ((4:Int)-1)] (branch (bt (0:Int) ow ((4:Int)-1)) (need [QP n a b c U O] (branch (!bt (0:Int) Z (100:Int)) z3 I)) (need [QP n a b c U O] (branch (!false) z3 I))))) VQ ?_;intro Q hQ;simp only [VJ.sat,U8,UE] at hQ ⊢;have rp: ∀x y z:Int,DV (.tup [.agg [i x,i y],i z]) (.tup [.agg [i x,i y],i z]):=λx y z=>⟨⟨⟨rfl,rfl⟩,⟨rfl,rfl⟩,Ak⟩,⟨rfl,rfl⟩,Ak⟩;rw [show (4:Int)-1=3 from rfl];cases h1:bt 0 ow 3<;>cases h2:bt 0 Z 100<;>cases h3:xI n a b c U O<;>rw [h1,h2] at hQ<;>rw [h3] at hQ;all_goals (with_reducible repeat' first|apply Al|intro _)
 all_goals first
  |(simp only [VI];omega)
  |(exfalso;rename_i h;revert h;decide)
  |(exfalso;rename_i h _;revert h;decide)
  |(exfalso;rename_i h _ _;revert h;decide)
  |(exfalso;rename_i h _ _ _;revert h;decide)
  |(have:=(Bo.bt_iff _ _ _).1 h1;omega)
  |exact ⟨_,rp _ _ _,hQ.2 rfl⟩
  |exact ⟨_,rp _ _ _,(hQ.1 rfl).1 rfl⟩
  |exact ⟨_,rp _ _ _,(hQ.1 rfl).2 rfl⟩
def caB(Z:Int)(ow:Nat):Bool:=decide ((hoS n a b c U O ow Z).2>0)
def suB(Z:Int)(ow:Nat):Bool:=decide ((hoS n a b c U O ow Z).1>0)
def tO(Z:Int):St:={σ:=[agg (ZR n a b c U O),iI Z,ptr 0 0,top,top,top,iI 0,AV.ro [iI 4,iI 10,Q0 n a b c U O,lst 1 (2^n) λz=>[iI (eD n a b c U O (2^n) z)],lst 1 (2^n) λz=>[iI (lS n a b c U O (2^n-1) z)]]]++HF 13 [iI 4]++HF 24 [],m:=[(902,Y5),(901,Y5),(0,GL.cells 65 (ZR n a b c U O))],nx:=903}
noncomputable def Qu0:Code:=U7 (VP (U5 Tryz.f23) 0)
def EV(Z:Int)(k:Nat):St:={σ:=H0 [(4,.row 901),(5,.row 902),(8,.top),(9,.top),(22,i k)] (tO n a b c U O Z).σ,m:=[(902,.row 3 1 (UN (suB n a b c U O Z) (k)) (λz=>[i (UI (suB n a b c U O Z) 4 z)])),(901,.row 3 1 (UN (caB n a b c U O Z) (k)) (λz=>[i (UI (caB n a b c U O Z) 4 z)])),(0,.cells 65 [i 4,i 10,sls n a b c U O])],nx:=903}
def qE(Z:Int)(k:Nat):G4->Option St
 | .exit 0=>some {σ:=H0 [(4,.row 901),(5,.row 902),(8,.top),(9,.top),(22,i 4)] (tO n a b c U O Z).σ,m:=[(902,.row 3 1 (UN (suB n a b c U O Z) (4)) (λz=>[i (UI (suB n a b c U O Z) 4 z)])),(901,.row 3 1 (UN (caB n a b c U O Z) (4)) (λz=>[i (UI (caB n a b c U O Z) 4 z)])),(0,.cells 65 [i 4,i 10,sls n a b c U O])],nx:=903}
 |_=>none
def Ww0(Z:Int):CT:= .leaf (.exit 0,(qE n a b c U O Z 0 (.exit 0)).getD (tO n a b c U O Z))
def mP(Z:Int):UF:=GG [(.slot 4,901,3,1),(.slot 5,902,3,1)] (HD (EV n a b c U O Z (0)) (Ww0 n a b c U O Z))
theorem Wb9(Z:Int)(VO:sV n a b c U O):G5 VL (.loop Qu0) (mP n a b c U O Z):=by
 refine zH [(.slot 4,901,3,1),(.slot 5,902,3,1)] (L:=[]) (Ae A4 (Ae (v8 n a b c U O (eD n a b c U O (2^n)) (lS n a b c U O (2^n-1)) VO) Aa)) VW U0 (X:=Nat) (EV n a b c U O Z) (λk=>k<=4) (λk=>4-k) (qE n a b c U O Z) (x0:=0) VS ?_ ?_ ?_;rintro k;kernel_rfl;rintro k y E h;unfold qE at h;split at h;cases h;kernel_rfl;cases h;rintro Q hQ k hx;refine ⟨(k+1),?_⟩;(with_reducible refine DA (t:=let z0:=(VU (AV.ro [iI 4,iI 10,Q0 n a b c U O,lst 1 (2^n) λz=>[iI (eD n a b c U O (2^n) z)],lst 1 (2^n) λz=>[iI (lS n a b c U O (2^n-1) z)]]));let I:=suB n a b c U O Z;let S:=caB n a b c U O Z;let z3:=(hoF n a b c (eD n a b c U O (2^n)) (lS n a b c U O (2^n-1)) (k:Int) Z (2^n));let z4:=(U3 1 [iI (k:Int)]);let z5:=QP n a b c U O;let z6:=W0 n a b c U O;(branch (decide ((k:Int)<4)) (need [z0,(0:Int)<=(k:Int)/\(k:Int)<4] (branch (decide (Prod.snd z3>0)) (need [(UN (S) k+1)*8<=140737488355328,RQ 1 (U3 1 [iI (k:Int)])] (branch (decide (Prod.fst z3>0)) (need [(UN (I) k+1)*8<=140737488355328,RQ 1 (U3 1 [iI (k:Int)])] (need [VI ((k:Int)+1)] (need [z5,Z=Z,QO,WG,WI,QI,z0,QY,(k:Int)+1=(↑(k+1):Int),UN (I) k+1=UN (I) (k+1),∀(i:Nat),i<UN (I) (k+1)->GE (UN (I) k) (λz=>[iI (↑(UI (I) 4 z):Int)]) z4 i=[iI (↑(UI (I) 4 i):Int)],UN (S) k+1=UN (S) (k+1),∀(i:Nat),i<UN (S) (k+1)->GE (UN (S) k) (λz=>[iI (↑(UI (S) 4 z):Int)]) z4 i=[iI (↑(UI (S) 4 i):Int)],QY,W9,z6] (leaf G4.normal)))) (need [VI ((k:Int)+1)] (need [z5,Z=Z,QO,WG,WI,QI,z0,QY,(k:Int)+1=(↑(k+1):Int),UN (I) k=UN (I) (k+1),∀(i:Nat),i<UN (I) (k+1)->[iI (↑(UI (I) 4 i):Int)]=[iI (↑(UI (I) 4 i):Int)],UN (S) k+1=UN (S) (k+1),∀(i:Nat),i<UN (S) (k+1)->GE (UN (S) k) (λz=>[iI (↑(UI (S) 4 z):Int)]) z4 i=[iI (↑(UI (S) 4 i):Int)],QY,W9,z6] (leaf G4.normal))))) (branch (decide (Prod.fst z3>0)) (need [(UN (I) k+1)*8<=140737488355328,RQ 1 (U3 1 [iI (k:Int)])] (need [VI ((k:Int)+1)] (need [z5,Z=Z,QO,WG,WI,QI,z0,QY,(k:Int)+1=(↑(k+1):Int),UN (I) k+1=UN (I) (k+1),∀(i:Nat),i<UN (I) (k+1)->GE (UN (I) k) (λz=>[iI (↑(UI (I) 4 z):Int)]) z4 i=[iI (↑(UI (I) 4 i):Int)],UN (S) k=UN (S) (k+1),∀(i:Nat),i<UN (S) (k+1)->[iI (↑(UI (S) 4 i):Int)]=[iI (↑(UI (S) 4 i):Int)],QY,W9,z6] (leaf G4.normal)))) (need [VI ((k:Int)+1)] (need [z5,Z=Z,QO,WG,WI,QI,z0,QY,(k:Int)+1=(↑(k+1):Int),UN (I) k=UN (I) (k+1),∀(i:Nat),i<UN (I) (k+1)->[iI (↑(UI (I) 4 i):Int)]=[iI (↑(UI (I) 4 i):Int)],UN (S) k=UN (S) (k+1),∀(i:Nat),i<UN (S) (k+1)->[iI (↑(UI (S) 4 i):Int)]=[iI (↑(UI (S) 4 i):Int)],QY,W9,z6] (leaf G4.normal)))))) (need [z5,Z=Z,QO,WG,WI,QI,z0,QY,(k:Int)=4,UN (I) k=UN (I) 4,∀(i:Nat),i<UN (I) 4->[iI (↑(UI (I) 4 i):Int)]=[iI (↑(UI (I) 4 i):Int)],UN (S) k=UN (S) 4,∀(i:Nat),i<UN (S) 4->[iI (↑(UI (S) 4 i):Int)]=[iI (↑(UI (S) 4 i):Int)],QY,W9,z6] (leaf (G4.exit 0))))) VQ ?_)
 simp only [Ww0,qE,VJ.sat,GQ] at hQ;simp only [VJ.sat,U8,UZ,GH,UB,VI,UE,H6,FW,R0,RT,GJ,qE]
 have hB: ∀(p:Nat->Bool) (k:Nat),UN p k<=k:=zQ;have b1:=hB (caB n a b c U O Z) k;have b2:=hB (suB n a b c U O Z) k;refine ⟨λh=>?_,λh=>?_⟩;have hk:k<4:=VG;have hq: ∀(p:Nat->Bool),p k=true-> ∀j,j<UN p (k+1)->GE (UN p k) (λz=>[i (UI p 4 z)]) (U3 1 [i k]) j=[i (UI p 4 j)]:=by
  intro p hp j hj;rw [DS hp] at hj;exact Pt.catF1 (a:=λz=>((UI p 4 z:Nat):Int)) hj (by show (k:Int)=((UI p 4 (UN p k):Nat):Int);rw [PV hk hp])
 cases hc:caB n a b c U O Z k<;>cases hs:suB n a b c U O Z k
 ·have e1:=FR hc;have e2:=FR hs;have hc':=of_decide_eq_false hc;have hs':=of_decide_eq_false hs
  (with_reducible repeat' first|apply Al|intro _)
  all_goals first|exact P4|(first|exact absurd (by assumption) hc'|exact absurd (by assumption) hs'|exact FM (by assumption) (by simp [AV.one,Value.oneCell']))
 ·have e1:=FR hc;have e2:=DS hs;have hc':=of_decide_eq_false hc;have hs':=BT hs
  (with_reducible repeat' first|apply Al|intro _)
  all_goals first|exact P4|(first|exact absurd (by assumption) hc'|contradiction|exact FM (by assumption) (by simp [AV.one,Value.oneCell'])|exact hq _ hs _ (by assumption))
 ·have e1:=DS hc;have e2:=FR hs;have hc':=BT hc;have hs':=of_decide_eq_false hs
  (with_reducible repeat' first|apply Al|intro _)
  all_goals first|exact P4|(first|exact absurd (by assumption) hs'|contradiction|exact FM (by assumption) (by simp [AV.one,Value.oneCell'])|exact hq _ hc _ (by assumption))
 ·have e1:=DS hc;have e2:=DS hs;have hc':=BT hc;have hs':=BT hs
  (with_reducible repeat' first|apply Al|intro _)
  all_goals first|exact P4|(first|contradiction|exact FM (by assumption) (by simp [AV.one,Value.oneCell'])|exact hq _ hc _ (by assumption)|exact hq _ hs _ (by assumption))
 obtain rfl:k=4:=VG;exact YW
theorem NN(Z:Int)(VO:sV n a b c U O):UH VL 23 [.agg [i 4,i 10,sls n a b c U O],i Z] (.branch (!bt 0 Z 100) (.leaf (.tup [.x (.slice none 0 0),.x (.slice none 0 0),i 2])) (.branch (!xI n a b c U O) (.leaf (.tup [.x (.slice none 0 0),.x (.slice none 0 0),i 9])) (.leaf (.tup [.lst 1 (UN (caB n a b c U O Z) 4) (λz=>[i (UI (caB n a b c U O Z) 4 z)]),.lst 1 (UN (suB n a b c U O Z) 4) (λz=>[i (UI (suB n a b c U O Z) 4 z)]),i 0])))):=by
 refine GO (L:=[mP n a b c U O Z]) (Ae A4 (Ae (v8 n a b c U O (eD n a b c U O (2^n)) (lS n a b c U O (2^n-1)) VO) Aa)) (Aj Ab Ac (Ah (v6 n a b c U O VO) (U1.nil _))) VW Tryz.func23 (UR Tryz.f23) (G0 (lpE (b:= .loop Qu0) VQ<|(Wb9 n a b c U O Z VO).N)) (t:=let S:=caB n a b c U O Z;let I:=suB n a b c U O Z;let z0:=(leaf (tup [lst 1 (UN (S) 4) λz=>[iI (↑(UI (S) 4 z):Int)],lst 1 (UN (I) 4) λz=>[iI (↑(UI (I) 4 z):Int)],iI 0]));let z3:=(lst 1 (2^n) λz=>[iI (lS n a b c U O (2^n-1) z)]);let z4:=(lst 1 (2^n) λz=>[iI (eD n a b c U O (2^n) z)]);(need [QP n a b c U O] (branch (!bt (0:Int) Z (100:Int)) (branch ((2:Int) != 0) (leaf (tup [Q9,Q9,iI 2])) (need [QP n a b c U O,Z=Z,QO,WG,WI,(2:Int)=0,AV.x (Y4)=AV.ro [iI 4,iI 10,Q0 n a b c U O,z4,z3],QY,(0:Int)=(↑(0:Nat):Int),0=UN (I) 0,∀(i:Nat),i<UN (I) 0->[]=[iI (↑(UI (I) 4 i):Int)],0=UN (S) 0,∀(i:Nat),i<UN (S) 0->[]=[iI (↑(UI (S) 4 i):Int)],QY,W9,W0 n a b c U O] z0)) (branch (!xI n a b c U O) (branch ((9:Int) != 0) (leaf (tup [Q9,Q9,iI 9])) (need [QP n a b c U O,Z=Z,QO,WG,WI,(9:Int)=0,AV.x (Y4)=AV.ro [iI 4,iI 10,Q0 n a b c U O,z4,z3],QY,(0:Int)=(↑(0:Nat):Int),0=UN (I) 0,∀(i:Nat),i<UN (I) 0->[]=[iI (↑(UI (I) 4 i):Int)],0=UN (S) 0,∀(i:Nat),i<UN (S) 0->[]=[iI (↑(UI (S) 4 i):Int)],QY,W9,W0 n a b c U O] z0)) (branch ((0:Int) != 0) (leaf (tup [Q9,Q9,iI 0])) (need [QP n a b c U O,Z=Z,QO,WG,WI,QI,VU (AV.ro [iI 4,iI 10,Q0 n a b c U O,z4,z3]),QY,(0:Int)=(↑(0:Nat):Int),0=UN (I) 0,∀(i:Nat),i<UN (I) 0->[]=[iI (↑(UI (I) 4 i):Int)],0=UN (S) 0,∀(i:Nat),i<UN (S) 0->[]=[iI (↑(UI (S) 4 i):Int)],QY,W9,W0 n a b c U O] z0)))))) VQ ?_
 intro Q hQ;simp only [VJ.sat,U8,UE] at hQ ⊢;have rn: ∀z:Int,DV (.tup [.x (.slice none 0 0),.x (.slice none 0 0),i z]) (.tup [.x (.slice none 0 0),.x (.slice none 0 0),i z]):=λz=>⟨rfl,rfl,⟨rfl,rfl⟩,Ak⟩;have rl:DV (.tup [.lst 1 (UN (caB n a b c U O Z) 4) (λz=>[i (UI (caB n a b c U O Z) 4 z)]),.lst 1 (UN (suB n a b c U O Z) 4) (λz=>[i (UI (suB n a b c U O Z) 4 z)]),i 0]) (.tup [.lst 1 (UN (caB n a b c U O Z) 4) (λz=>[i (UI (caB n a b c U O Z) 4 z)]),.lst 1 (UN (suB n a b c U O Z) 4) (λz=>[i (UI (suB n a b c U O Z) 4 z)]),i 0]):=⟨⟨rfl,rfl,λ_ _=>rfl⟩,⟨rfl,rfl,λ_ _=>rfl⟩,⟨rfl,rfl⟩,Ak⟩;cases h2:bt 0 Z 100<;>cases h3:xI n a b c U O<;>rw [h2] at hQ<;>rw [h3] at hQ;all_goals (with_reducible repeat' first|apply Al|intro _)
 all_goals first
  |(exfalso;rename_i h;revert h;decide)
  |(exfalso;rename_i h _;revert h;decide)
  |(exfalso;rename_i h _ _;revert h;decide)
  |(exfalso;rename_i h _ _ _;revert h;decide)
  |rfl
  |(rename_i h;exact absurd h (Aq _))
  |exact ⟨_,rn _,hQ.1 rfl⟩
  |exact ⟨_,rn _,(hQ.2 rfl).1 rfl⟩
  |exact ⟨_,rl,(hQ.2 rfl).2 rfl⟩
def Wx6(Z:Int):HZ:=λl=>some (.need [l=[.agg [i 4,i 10,sls n a b c U O],i Z]] (.branch (!bt 0 Z 100) (.leaf (.tup [.x (.slice none 0 0),.x (.slice none 0 0),i 2])) (.branch (!xI n a b c U O) (.leaf (.tup [.x (.slice none 0 0),.x (.slice none 0 0),i 9])) (.leaf (.tup [.lst 1 (UN (caB n a b c U O Z) 4) (λz=>[i (UI (caB n a b c U O Z) 4 z)]),.lst 1 (UN (suB n a b c U O Z) 4) (λz=>[i (UI (suB n a b c U O Z) 4 z)]),i 0])))))
theorem nX(Z:Int)(VO:sV n a b c U O):Sx.Enters Tryz.prog 23/\ ∀avs t,Wx6 n a b c U O Z avs=some t->UH VL 23 avs t:=by
 refine ⟨(UC Tryz.func23),?_⟩;intro avs t h;cases h;intro Q hQ;have e:=hQ.1
 dsimp only [U8] at e
 subst e;exact NN n a b c U O Z VO Q hQ.2
end
section
variable (n:Nat)(L:Nat->ByteArray)
def Wy0:HZ:=λl=>some (.need [l=[lns n L],ckE n L=0] (.leaf (.tup [.ro (hsL (sK L n)),.lst 1 n (exG L)])))
def tA:HZ:=λl=>some (.need [l=[.agg (hsL (sK L n))]] (.leaf (.agg (hsL (sK L n)))))
end
theorem j9{n:Nat}{L:Nat->ByteArray}(h:ckE n L=0):n<=50/\ ∀k,k<n->(L k).size<=200:=by
 unfold ckE at h;split at h;rename_i h1;refine ⟨h1.1,λk hk=>?_⟩;have h2:=BT (GI.1 h1.2 k hk);omega;exact absurd h (by decide)
theorem Zk9{s:HS}(h:hZ s):hsN s:=⟨by have:=h.nr;omega,by have:=h.bV.1.1;omega,by have:=h.nc;omega,by have:=h.sV.1;omega,λb hb=>by have:=(h.bV.1.2 b hb).1;omega⟩
section
variable (n:Nat)(L:Nat->ByteArray)
theorem xE:Sx.Enters Tryz.prog 37/\ ∀avs t,Wy0 n L avs=some t->UH VL 37 avs t:=by
 refine ⟨(UC Tryz.func37),?_⟩;intro avs t h;cases h;intro Q hQ;have e:avs=[lns n L]:=hQ.1.1;have h0:ckE n L=0:=hQ.1.2;subst e;have hk:=j9 h0;exact iH n L hk.1 (λk h=>by have:=hk.2 k h;omega) Q hQ.2
theorem iQ:Sx.Enters Tryz.prog 60/\ ∀avs t,tA n L avs=some t->UH VL 60 avs t:=by
 refine ⟨(UC Tryz.func60),?_⟩;intro avs t h;cases h;intro Q hQ;have e:avs=[.agg (hsL (sK L n))]:=hQ.1;subst e;exact pR (sK L n) (Zk9 (BE L n)) Q hQ.2
end
theorem AA(s:HS):DV (.agg (hsL s)) (.agg (hsL s)):=⟨⟨rfl,rfl,λ_ _=>rfl⟩,⟨rfl,rfl⟩,⟨rfl,rfl⟩,⟨rfl,rfl,λ_ _=>rfl⟩,⟨rfl,rfl,λ_ _=>rfl⟩,⟨rfl,rfl,λ_ _=>rfl⟩,Ak⟩
section
variable (n:Nat)(L:Nat->ByteArray)
abbrev K2:Prop:=[Q6 n L]=[Q6 n L]
theorem iU(VO:n<=100):UH VL 27 [lns n L] (.branch (ckE n L != 0) (.leaf (.tup [.agg [.x (.slice none 0 0),i 0,i 0,.x (.slice none 0 0),.x (.slice none 0 0),.x (.slice none 0 0)],.x (.slice none 0 0),i (ckE n L)])) (.leaf (.tup [.agg (hsL (sK L n)),.lst 1 n (exG L),i 0]))):=by
 refine GO (L:=[]) (Ae (PP n L VG) Aa) (Aj Ab Ac (Ah (xE n L) (Ah (iQ n L) (U1.nil _)))) VW Tryz.func27 (UR Tryz.f27) UV (t:=need [(K2 n L)] (branch (ckE n L != 0) (leaf (tup [agg YJ,Q9,iI (ckE n L)])) (need [(K2 n L),ckE n L=0] (need [VU ([agg (hL (sK L n))])] (leaf (tup [agg (hL (sK L n)),lst 1 n λj=>[iI (eK L j)],iI 0])))))) VQ ?_;intro Q hQ;simp only [VJ.sat,U8,UE,VI,FC] at hQ ⊢;refine ⟨λh=>⟨.tup [.agg [.x (.slice none 0 0),i 0,i 0,.x (.slice none 0 0),.x (.slice none 0 0),.x (.slice none 0 0)],.x (.slice none 0 0),i (ckE n L)],⟨⟨rfl,⟨rfl,rfl⟩,⟨rfl,rfl⟩,rfl,rfl,rfl,Ak⟩,rfl,⟨rfl,rfl⟩,Ak⟩,hQ.1 h⟩,λh=>?_⟩;have h0:ckE n L=0:=by simpa using h
 (with_reducible repeat' first|apply Al|intro _)
 all_goals first|exact Ak|exact h0|rfl|(exact ⟨.tup [.agg (hsL (sK L n)),.lst 1 n (exG L),i 0],⟨AA _,⟨rfl,rfl,λ_ _=>rfl⟩,⟨rfl,rfl⟩,Ak⟩,hQ.2 h⟩)
theorem rC(VO:n<=100):UH VL 21 [lns n L] (.branch (ckE n L != 0) (.leaf (.tup [.x (.slice none 0 0),i (ckE n L)])) (.leaf (.tup [.lst 2 (boN (sK L n).nb (sK L n).ql (sK L n).qh (sK L n).qm (sK L n).qr (sK L n).qv) (λk=>[i (boL (sK L n).nb (sK L n).ql (sK L n).qh (sK L n).qm (sK L n).qr (sK L n).qv k),i (boH (sK L n).nb (sK L n).ql (sK L n).qh (sK L n).qm (sK L n).qr (sK L n).qv k)]),i (boE (sK L n).nb (sK L n).ql (sK L n).qh (sK L n).qm (sK L n).qr (sK L n).qv)]))):=by
 refine GO (L:=[]) (Ae (PP n L VG) (Ae (gX (sK L n).nb (sK L n).ql (sK L n).qh (sK L n).qm (sK L n).qr (sK L n).qv (BE L n).bV) Aa)) (Aj (Af RA Ab) Ac (Ah (xE n L) (U1.nil _))) VW Tryz.func21 (UR Tryz.f21) UV (t:=need [(K2 n L)] (branch (ckE n L != 0) (leaf (tup [Q9,iI (ckE n L)])) (need [(K2 n L),ckE n L=0] (need [VU ([agg [lst 2 3 λk=>[iI (oL k),iI (oH k)],iI 1,hY ((sK L n).nb) (sK L n)]])] (leaf (tup [lst 2 (boN ((sK L n).nb) ((sK L n).ql) ((sK L n).qh) ((sK L n).qm) ((sK L n).qr) ((sK L n).qv)) λk=>[iI (boL ((sK L n).nb) ((sK L n).ql) ((sK L n).qh) ((sK L n).qm) ((sK L n).qr) ((sK L n).qv) k),iI (boH ((sK L n).nb) ((sK L n).ql) ((sK L n).qh) ((sK L n).qm) ((sK L n).qr) ((sK L n).qv) k)],iI (boE ((sK L n).nb) ((sK L n).ql) ((sK L n).qh) ((sK L n).qm) ((sK L n).qr) ((sK L n).qv))])))))) VQ ?_;intro Q hQ;simp only [VJ.sat,U8,UE,VI,FC] at hQ ⊢;refine ⟨λh=>⟨.tup [.x (.slice none 0 0),i (ckE n L)],⟨rfl,⟨rfl,rfl⟩,Ak⟩,hQ.1 h⟩,λh=>?_⟩;have h0:ckE n L=0:=by simpa using h
 (with_reducible repeat' first|apply Al|intro _)
 all_goals first|exact Ak|exact h0|rfl|(exact ⟨.tup [.lst 2 (boN (sK L n).nb (sK L n).ql (sK L n).qh (sK L n).qm (sK L n).qr (sK L n).qv) (λk=>[i (boL (sK L n).nb (sK L n).ql (sK L n).qh (sK L n).qm (sK L n).qr (sK L n).qv k),i (boH (sK L n).nb (sK L n).ql (sK L n).qh (sK L n).qm (sK L n).qr (sK L n).qv k)]),i (boE (sK L n).nb (sK L n).ql (sK L n).qh (sK L n).qm (sK L n).qr (sK L n).qv)],⟨⟨rfl,rfl,λ_ _=>rfl⟩,⟨rfl,rfl⟩,Ak⟩,hQ.2 h⟩)
theorem OH(Z:Int)(VO:n<=100):UH VL 11 [lns n L,i Z] (.branch (ckE n L != 0) (.leaf (.tup [.x (.slice none 0 0),.x (.slice none 0 0),i (ckE n L)])) (.branch (!bt 0 Z 100) (.leaf (.tup [.x (.slice none 0 0),.x (.slice none 0 0),i 2])) (.branch (!xI (sK L n).ns (sK L n).sa (sK L n).sb (sK L n).sc (sK L n).sl (sK L n).sh) (.leaf (.tup [.x (.slice none 0 0),.x (.slice none 0 0),i 9])) (.leaf (.tup [.lst 1 (UN (caB (sK L n).ns (sK L n).sa (sK L n).sb (sK L n).sc (sK L n).sl (sK L n).sh Z) 4) (λz=>[i (UI (caB (sK L n).ns (sK L n).sa (sK L n).sb (sK L n).sc (sK L n).sl (sK L n).sh Z) 4 z)]),.lst 1 (UN (suB (sK L n).ns (sK L n).sa (sK L n).sb (sK L n).sc (sK L n).sl (sK L n).sh Z) 4) (λz=>[i (UI (suB (sK L n).ns (sK L n).sa (sK L n).sb (sK L n).sc (sK L n).sl (sK L n).sh Z) 4 z)]),i 0]))))):=by
 refine GO (L:=[]) (Ae (PP n L VG) Aa) (Aj (Af LV Ab) Ac (Ah (xE n L) (Ah (nX (sK L n).ns (sK L n).sa (sK L n).sb (sK L n).sc (sK L n).sl (sK L n).sh Z (BE L n).sV) (U1.nil _)))) VW Tryz.func11 (UR Tryz.f11) UV (t:=let z0:=(caB ((sK L n).ns) ((sK L n).sa) ((sK L n).sb) ((sK L n).sc) ((sK L n).sl) ((sK L n).sh) Z);let I:=(suB ((sK L n).ns) ((sK L n).sa) ((sK L n).sb) ((sK L n).sc) ((sK L n).sl) ((sK L n).sh) Z);(need [(K2 n L)] (branch (ckE n L != 0) (leaf (tup [Q9,Q9,iI (ckE n L)])) (need [(K2 n L),ckE n L=0] (need [VU ([agg [iI 4,iI 10,hT ((sK L n).ns) (sK L n)],iI Z])] (branch (!bt (0:Int) Z (100:Int)) (leaf (tup [Q9,Q9,iI 2])) (branch (!xI ((sK L n).ns) ((sK L n).sa) ((sK L n).sb) ((sK L n).sc) ((sK L n).sl) ((sK L n).sh)) (leaf (tup [Q9,Q9,iI 9])) (leaf (tup [lst 1 (UN z0 4) λz=>[iI (↑(UI z0 4 z):Int)],lst 1 (UN I 4) λz=>[iI (↑(UI I 4 z):Int)],iI 0]))))))))) VQ ?_;intro Q hQ;simp only [VJ.sat,U8,UE,VI,FC] at hQ ⊢;have rn: ∀z:Int,DV (.tup [.x (.slice none 0 0),.x (.slice none 0 0),i z]) (.tup [.x (.slice none 0 0),.x (.slice none 0 0),i z]):=λz=>⟨rfl,rfl,⟨rfl,rfl⟩,Ak⟩;have rl:DV (.tup [.lst 1 (UN (caB (sK L n).ns (sK L n).sa (sK L n).sb (sK L n).sc (sK L n).sl (sK L n).sh Z) 4) (λz=>[i (UI (caB (sK L n).ns (sK L n).sa (sK L n).sb (sK L n).sc (sK L n).sl (sK L n).sh Z) 4 z)]),.lst 1 (UN (suB (sK L n).ns (sK L n).sa (sK L n).sb (sK L n).sc (sK L n).sl (sK L n).sh Z) 4) (λz=>[i (UI (suB (sK L n).ns (sK L n).sa (sK L n).sb (sK L n).sc (sK L n).sl (sK L n).sh Z) 4 z)]),i 0]) (.tup [.lst 1 (UN (caB (sK L n).ns (sK L n).sa (sK L n).sb (sK L n).sc (sK L n).sl (sK L n).sh Z) 4) (λz=>[i (UI (caB (sK L n).ns (sK L n).sa (sK L n).sb (sK L n).sc (sK L n).sl (sK L n).sh Z) 4 z)]),.lst 1 (UN (suB (sK L n).ns (sK L n).sa (sK L n).sb (sK L n).sc (sK L n).sl (sK L n).sh Z) 4) (λz=>[i (UI (suB (sK L n).ns (sK L n).sa (sK L n).sb (sK L n).sc (sK L n).sl (sK L n).sh Z) 4 z)]),i 0]):=⟨⟨rfl,rfl,λ_ _=>rfl⟩,⟨rfl,rfl,λ_ _=>rfl⟩,⟨rfl,rfl⟩,Ak⟩;refine ⟨λh=>⟨_,rn _,hQ.1 h⟩,λh=>?_⟩;have h0:ckE n L=0:=by simpa using h
 have hQ2:=hQ.2 h
 (with_reducible repeat' first|apply Al|intro _)
 all_goals first|exact Ak|exact h0|rfl|(rename_i h1;exact ⟨_,rn _,hQ2.1 h1⟩)|(rename_i h1 h2;exact ⟨_,rn _,(hQ2.2 h1).1 h2⟩)|(rename_i h1 h2;exact ⟨_,rl,(hQ2.2 h1).2 h2⟩)
end
section
variable (s:HS)
def stB(a b w d:Int)(v:Bool)(Z:Int):Bool:= !v&&(decide (Z>=d)&&((asE 4 100 20 30 s.nr s.ra s.rb s.ru s.rv 3 tbP tbQ s.pl s.ph 1 3 a b w Z==0)&&kpB 4 100 20 30 s.nr s.ra s.rb s.ru s.rv 3 tbP tbQ s.pl s.ph 1 3 a b w Z))
def stP(Z:Int)(k:Nat):Bool:=stB s (s.ca k) (s.cb k) (s.cc k) (s.cd k) (s.cv k) Z
theorem I0(a b w d:Int)(v:Bool)(Z:Int):VV VL 38 [.agg (hsL s),.agg [i a,i b,i w,i d,bl v],i Z] (bl (stB s a b w d v Z)):=by
 refine G9 (L:=[]) (Ae hU Aa) (Aj Ab Ac (Ah (xP F6) (U1.nil _))) VW Tryz.func38 (UR Tryz.f38) UV (t:=need [U9 4 s.nr λk=>[Bo.i (s.ra k),Bo.i (s.rb k),Bo.i (s.ru k),Bo.i (s.rv k)],U9 2 3 λk=>[i (tbP k),i (tbQ k)]] (branch (!v) (branch (decide (Z>=d)) (branch (asE (4:Int) (100:Int) (20:Int) (30:Int) s.nr (s.ra) (s.rb) (s.ru) (s.rv) 3 tbP tbQ s.pl s.ph (1:Int) (3:Int) a b w Z==0) (leaf (RV.x (.bool (kpB (4:Int) (100:Int) (20:Int) (30:Int) s.nr (s.ra) (s.rb) (s.ru) (s.rv) 3 tbP tbQ s.pl s.ph (1:Int) (3:Int) a b w Z)))) (leaf (RV.x (WK)))) (leaf (RV.x (WK)))) (leaf (RV.x (WK))))) VQ ?_;simp only [VJ.sat,U8,UZ,UB,UE];refine ⟨⟨Bo.isRec4 _ _ _ _ _,Pt.isRec2 _ _ _⟩,?_⟩;unfold stB;cases v<;>cases decide (Z>=d)<;>cases (asE 4 100 20 30 s.nr s.ra s.rb s.ru s.rv 3 tbP tbQ s.pl s.ph 1 3 a b w Z==0)<;>simp
def S8:UU
 |[.agg l',.agg [.x (.int .i64 a),.x (.int .i64 b),.x (.int .i64 w),.x (.int .i64 d),.x (.bool v)],.x (.int .i64 Z)]=>some ([l'=hsL s],bl (stB s a b w d v Z))
 |_=>none
theorem EZ:VM VL 38 (S8 s):=by
 refine ⟨(UC Tryz.func38),?_⟩;intro avs ns res h hn;unfold S8 at h;split at h;cases h;have e:=hn _ GB;subst e;exact I0 s _ _ _ _ _ _;cases h
end
section
variable (n:Nat)(L:Nat->ByteArray)(Z:Int)
def Zq3:St:={σ:=[Q6 n L,iI Z,top,top,Q9,iI 0,iI (ckE n L),AV.ro (hL (sK L n)),lst 1 n λj=>[iI (eK L j)]]++HF 20 [hC ((sK L n).nc) (sK L n),iI (↑((sK L n).nc):Int)]++HF 18 [],m:=[(901,Y5)],nx:=902}
noncomputable def Jp5:Code:=U7 (VP (U5 Tryz.f9) 0)
def Wh4(k:Nat):St:={σ:=H0 [(9,.row 901),(10,.top),(11,.top),(31,i k)] (Zq3 n L Z).σ,m:=[(901,.row 3 1 (UN (stP (sK L n) Z) (k)) (λz=>[i (UI (stP (sK L n) Z) (sK L n).nc z)]))],nx:=902}
def CL(k:Nat):G4->Option St
 | .exit 0=>some {σ:=H0 [(9,.row 901),(10,.top),(11,.top),(31,i (sK L n).nc)] (Zq3 n L Z).σ,m:=[(901,.row 3 1 (UN (stP (sK L n) Z) ((sK L n).nc)) (λz=>[i (UI (stP (sK L n) Z) (sK L n).nc z)]))],nx:=902}
 |_=>none
def Jk2:CT:= .leaf (.exit 0,(CL n L Z 0 (.exit 0)).getD (Zq3 n L Z))
def Xv2:UF:=GG [(.slot 9,901,3,1)] (HD (Wh4 n L Z (0)) (Jk2 n L Z))
end
theorem VB{p:Prop}(h:p:=by
 (with_reducible repeat' first|apply Al|intro _)
 all_goals first|exact P4|(first|exact absurd (by assumption) hc'|exact FM (by assumption) (by simp [AV.one,Value.oneCell']))):p:=h
section
variable (n:Nat)(L:Nat->ByteArray)(Z:Int)
theorem Zz6(VO:n<=100):G5 VL (.loop Jp5) (Xv2 n L Z):=by
 refine UT [(.slot 9,901,3,1)] (L:=[]) (Ae (PP n L VG) (Ae PO (Ae (EZ (sK L n)) Aa))) (Aj Ab Ac (Ah (xE n L) (U1.nil _))) VW U0 (X:=Nat) (Wh4 n L Z) (λk=>k<=(sK L n).nc) (λk=>(sK L n).nc-k) (CL n L Z) (x0:=0) VS ?_ ?_ ?_;rintro k;kernel_rfl;rintro k y E h;unfold CL at h;split at h;cases h;kernel_rfl;cases h;rintro Q hQ k hx;refine ⟨(k+1),?_⟩;(with_reducible refine DA (t:=let z0:=(VU (lst 1 n λj=>[iI (eK L j)]));let I:=(VU (hC ((sK L n).nc) (sK L n)));let S:=(VU (↑((sK L n).nc):Int));(branch (decide ((k:Int)<(↑((sK L n).nc):Int))) (need [UG k ((sK L n).nc)] (need [VU (hL (sK L n))] (branch (stB (sK L n) ((sK L n).ca k) ((sK L n).cb k) ((sK L n).cc k) ((sK L n).cd k) ((sK L n).cv k) Z) (need [(UN (stP (sK L n) Z) k+1)*8<=140737488355328,RQ 1 (U3 1 [iI (k:Int)])] (need [VI ((k:Int)+1)] (need [VU (Q6 n L),Z=Z,Q9=Q9,QI,VU (ckE n L),VU (AV.ro (hL (sK L n))),z0,WG,I,S,(k:Int)+1=(↑(k+1):Int),UN (stP (sK L n) Z) k+1=UN (stP (sK L n) Z) (k+1),∀(i:Nat),i<UN (stP (sK L n) Z) (k+1)->GE (UN (stP (sK L n) Z) k) (λz=>[iI (↑(UI (stP (sK L n) Z) ((sK L n).nc) z):Int)]) (U3 1 [iI (k:Int)]) i=[iI (↑(UI (stP (sK L n) Z) ((sK L n).nc) i):Int)]] (leaf G4.normal)))) (need [VI ((k:Int)+1)] (need [VU (Q6 n L),Z=Z,Q9=Q9,QI,VU (ckE n L),VU (AV.ro (hL (sK L n))),z0,WG,I,S,(k:Int)+1=(↑(k+1):Int),UN (stP (sK L n) Z) k=UN (stP (sK L n) Z) (k+1),∀(i:Nat),i<UN (stP (sK L n) Z) (k+1)->[iI (↑(UI (stP (sK L n) Z) ((sK L n).nc) i):Int)]=[iI (↑(UI (stP (sK L n) Z) ((sK L n).nc) i):Int)]] (leaf G4.normal)))))) (need [VU (Q6 n L),Z=Z,Q9=Q9,QI,VU (ckE n L),VU (AV.ro (hL (sK L n))),z0,WG,I,S,(k:Int)=(↑((sK L n).nc):Int),UN (stP (sK L n) Z) k=UN (stP (sK L n) Z) ((sK L n).nc),∀(i:Nat),i<UN (stP (sK L n) Z) ((sK L n).nc)->[iI (↑(UI (stP (sK L n) Z) ((sK L n).nc) i):Int)]=[iI (↑(UI (stP (sK L n) Z) ((sK L n).nc) i):Int)]] (leaf (G4.exit 0))))) VQ ?_)
 simp only [Jk2,CL,VJ.sat,GQ] at hQ;simp only [VJ.sat,U8,UZ,GH,UB,VI,UE,H6,FW,R0,RT,GJ,CL]
 have b1:=zQ (p:=stP (sK L n) Z) (k:=k);have b2:=(BE L n).nc;refine ⟨λh=>?_,λh=>?_⟩;have hk:k<(sK L n).nc:=VG;have hq:stP (sK L n) Z k=true-> ∀j,j<UN (stP (sK L n) Z) (k+1)->GE (UN (stP (sK L n) Z) k) (λz=>[i (UI (stP (sK L n) Z) (sK L n).nc z)]) (U3 1 [i k]) j=[i (UI (stP (sK L n) Z) (sK L n).nc j)]:=by
  intro hp j hj;rw [DS hp] at hj;exact Pt.catF1 (a:=λz=>((UI (stP (sK L n) Z) (sK L n).nc z:Nat):Int)) hj (by show (k:Int)=((UI (stP (sK L n) Z) (sK L n).nc (UN (stP (sK L n) Z) k):Nat):Int);rw [PV hk hp])
 cases hc:stP (sK L n) Z k;have e1:=FR hc;have hc': ¬(stB (sK L n) ((sK L n).ca k) ((sK L n).cb k) ((sK L n).cc k) ((sK L n).cd k) ((sK L n).cv k) Z=true):=λh=>Bool.noConfusion (hc.symm.trans h);exact VB
 ·have e1:=DS hc;have hc': ¬(stB (sK L n) ((sK L n).ca k) ((sK L n).cb k) ((sK L n).cc k) ((sK L n).cd k) ((sK L n).cv k) Z=false):=λh=>Bool.noConfusion (hc.symm.trans h)
  (with_reducible repeat' first|apply Al|intro _)
  all_goals first|exact P4|(first|exact absurd (by assumption) hc'|exact hq hc _ (by assumption)|exact FM (by assumption) (by simp [AV.one,Value.oneCell']))
 obtain rfl:k=(sK L n).nc:=VG;exact YW
theorem gN(VO:n<=100):UH VL 9 [lns n L,i Z] (.branch (ckE n L != 0) (.leaf (.tup [.x (.slice none 0 0),i (ckE n L)])) (.branch (!bt 0 Z 10000) (.leaf (.tup [.x (.slice none 0 0),i 2])) (.leaf (.tup [.lst 1 (UN (stP (sK L n) Z) (sK L n).nc) (λz=>[i (UI (stP (sK L n) Z) (sK L n).nc z)]),i 0])))):=by
 refine GO (L:=[Xv2 n L Z]) (Ae (PP n L VG) (Ae PO (Ae (EZ (sK L n)) Aa))) (Aj Ab Ac (Ah (xE n L) (U1.nil _))) VW Tryz.func9 (UR Tryz.f9) (G0 (lpE (b:= .loop Jp5) VQ<|(Zz6 n L Z VO).N)) (t:=need [(K2 n L)] (branch (ckE n L != 0) (leaf (tup [Q9,iI (ckE n L)])) (branch (!bt (0:Int) Z (10000:Int)) (leaf (tup [Q9,iI 2])) (need [(K2 n L),ckE n L=0] (need [VU (Q6 n L),Z=Z,Q9=Q9,QI,VU (ckE n L),VU (AV.ro (hL (sK L n))),VU (lst 1 n λj=>[iI (eK L j)]),WG,VU (hC ((sK L n).nc) (sK L n)),VU (↑((sK L n).nc):Int),(0:Int)=(↑(0:Nat):Int),0=UN (stP (sK L n) Z) 0,∀(i:Nat),i<UN (stP (sK L n) Z) 0->[]=[iI (↑(UI (stP (sK L n) Z) ((sK L n).nc) i):Int)]] (leaf (tup [lst 1 (UN (stP (sK L n) Z) ((sK L n).nc)) λz=>[iI (↑(UI (stP (sK L n) Z) ((sK L n).nc) z):Int)],iI 0]))))))) VQ ?_
 intro Q hQ;simp only [VJ.sat,U8,UE,VI,FC] at hQ ⊢;have b2:=(BE L n).nc;have rn: ∀z:Int,DV (.tup [.x (.slice none 0 0),i z]) (.tup [.x (.slice none 0 0),i z]):=λz=>⟨rfl,⟨rfl,rfl⟩,Ak⟩;have rl:DV (.tup [.lst 1 (UN (stP (sK L n) Z) (sK L n).nc) (λz=>[i (UI (stP (sK L n) Z) (sK L n).nc z)]),i 0]) (.tup [.lst 1 (UN (stP (sK L n) Z) (sK L n).nc) (λz=>[i (UI (stP (sK L n) Z) (sK L n).nc z)]),i 0]):=⟨⟨rfl,rfl,λ_ _=>rfl⟩,⟨rfl,rfl⟩,Ak⟩;refine ⟨λh=>⟨_,rn _,hQ.1 h⟩,λh=>?_⟩;have h0:ckE n L=0:=by simpa using h
 have hQ2:=hQ.2 h;refine ⟨λh1=>⟨_,rn _,hQ2.1 h1⟩,λh1=>?_⟩;have hQ3:=hQ2.2 h1
 (with_reducible repeat' first|apply Al|intro _)
 all_goals first|exact Ak|exact h0|omega|rfl|(rename_i h;exact absurd h (Aq _))|exact ⟨_,rl,hQ3⟩
end
def dgI(n:Int):Int:=IntKind.u8.wrap (48+n.tmod 10)
def dg3(n:Int):ByteArray:=⟨#[UInt8.ofNat (dgI ((n.tdiv 10).tdiv 10)).toNat,UInt8.ofNat (dgI (n.tdiv 10)).toNat,UInt8.ofNat (dgI n).toNat]⟩
def dg5(n:Int):ByteArray:=⟨#[UInt8.ofNat (dgI ((((n.tdiv 10).tdiv 10).tdiv 10).tdiv 10)).toNat,UInt8.ofNat (dgI (((n.tdiv 10).tdiv 10).tdiv 10)).toNat,UInt8.ofNat (dgI ((n.tdiv 10).tdiv 10)).toNat,UInt8.ofNat (dgI (n.tdiv 10)).toNat,UInt8.ofNat (dgI n).toNat]⟩
def dgB(n m:Int):ByteArray:=if m=3 then dg3 n else dg5 n
abbrev u8(n:Int):AV:= .x (.int .u8 n)
def tpB(l c:Int):ByteArray:=(((⟨#[91]⟩++dgB l 3)++⟨#[58]⟩)++dgB c 5)++⟨#[93]⟩
def tpC(s:ByteArray)(ix:Int):Nat->Int
 | 0=>23*(ix+1)
 |k+1=>tpC s ix k+((k:Int)+2)*(byN s k+3)
def tpK(s:ByteArray)(ix:Int):Int:=(tpC s ix s.size).tmod 99971
def rcB(s:ByteArray)(ix:Int):ByteArray:=(tpB (s.size:Int) (tpK s ix)++s)++⟨#[10]⟩
def flB(L:Nat->ByteArray):Nat->ByteArray
 | 0=>ByteArray.empty
 |k+1=>flB L k++rcB (L k) (k:Int)
theorem Qe1(n:Int):0<=dgI n/\dgI n<256:=by
 have h:dgI n=(48+n.tmod 10)%256:=rfl;omega
theorem wH{x:Int}(h:0<=x/\x<=1000000000):(0<=x.tdiv 10/\x.tdiv 10<=1000000000)/\0<=x.tmod 10/\x.tmod 10<=9:=by
 rw [Int.tdiv_eq_ediv_of_nonneg h.1,Int.tmod_eq_emod_of_nonneg h.1];omega
theorem by1{x:Int}(h:0<=x/\x<256):byO [u8 x]<256/\[u8 x]=[.x (.int .u8 (byO [u8 x]:Int))]:=by
 have e2:byO [u8 x]=x.toNat:=rfl;rw [e2];refine ⟨VG,?_⟩;rw [show ((x.toNat:Nat):Int)=x by omega]
section
variable (n:Int)
def tG:St:={σ:=mkS 24 [(1,i 3),(5,.ro [u8 (dgI ((n.tdiv 10).tdiv 10)),u8 (dgI (n.tdiv 10)),u8 (dgI n),u8 0,u8 0])],m:=[],nx:=901}
abbrev QZ:AV:=AV.x (.int IntKind.u8 (0:Int))
abbrev WT:AV:=AV.x (.int IntKind.u8 (IntKind.wrap IntKind.u8 ((48:Int)+Int.tmod n (10:Int))))
abbrev X8:AV:=AV.x (.int IntKind.u8 (IntKind.wrap IntKind.u8 ((48:Int)+Int.tmod (Int.tdiv n (10:Int)) (10:Int))))
abbrev YQ:AV:=AV.x (.int IntKind.u8 (dgI (Int.tdiv (Int.tdiv n (10:Int)) (10:Int))))
abbrev XB:List AV:=[YQ n,AV.x (.int IntKind.u8 (dgI (Int.tdiv n (10:Int)))),AV.x (.int IntKind.u8 (dgI n)),QZ,QZ]
abbrev Z7:AV:=AV.x (.int IntKind.u8 (IntKind.wrap IntKind.u8 ((48:Int)+Int.tmod (Int.tdiv (Int.tdiv n (10:Int)) (10:Int)) (10:Int))))
theorem iP(VO:0<=n/\n<=1000000000):VV VL 142 [i n,i 3] (.x (.string (dg3 n))):=by
 refine fU (L:=[(λs=>some (xW Tryz.prog [] [] (U7 (VP (U5 Tryz.f142) 0)) 4 s))]) 3 [(.slot 5,0,0,1)] (tG n) Aa Ad VW Tryz.func142 (UR Tryz.f142) (G0 (lpE (b:= .loop (U7 (VP (U5 Tryz.f142) 0))) VQ<|(L6 Aa VW U0 _).N)) VQ (t:=let I:=(Int.tdiv (Int.tdiv n (10:Int)) (10:Int));let z0:=(need [(0:Int)<=3/\(3:Int)<=(↑(5:Nat):Int)] (need [gC (3:Int).toNat λi=>[Option.rec (top) (λval=>(λval=>(λx=>x) val) val) [u8 (dgI I),u8 (dgI (Int.tdiv n (10:Int))),u8 (dgI n),u8 (0:Int),u8 (0:Int)][i]?]] (leaf (RV.x (.string (bsO (3:Int).toNat λi=>[Option.rec (top) (λval=>(λval=>(λx=>x) val) val) [u8 (dgI I),u8 (dgI (Int.tdiv n (10:Int))),u8 (dgI n),u8 (0:Int),u8 (0:Int)][i]?]))))));(need [VI ((3:Int)-1)] (branch (decide ((3:Int)-1>=(0:Int))) (need [(10:Int)≠0] (need [VI ((48:Int)+Int.tmod n (10:Int))] (need [(0:Int)<=3-1/\(3:Int)-1<(↑(5:Nat):Int)] (need [(10:Int)≠0,VI (Int.tdiv n (10:Int))] (need [VI ((3:Int)-1-1)] (branch (decide ((3:Int)-1-1>=(0:Int))) (need [(10:Int)≠0] (need [VI ((48:Int)+Int.tmod (Int.tdiv n (10:Int)) (10:Int))] (need [(0:Int)<=3-1-1/\(3:Int)-1-1<(↑(5:Nat):Int)] (need [(10:Int)≠0,VI I] (need [VI ((3:Int)-1-1-1)] (branch (decide ((3:Int)-1-1-1>=(0:Int))) (need [(10:Int)≠0] (need [VI ((48:Int)+Int.tmod I (10:Int))] (need [(0:Int)<=3-1-1-1/\(3:Int)-1-1-1<(↑(5:Nat):Int)] (need [(10:Int)≠0,VI (Int.tdiv I (10:Int))] (need [VI ((3:Int)-1-1-1-1)] (branch (decide ((3:Int)-1-1-1-1>=(0:Int))) (need [(10:Int)≠0] (need [VI ((48:Int)+Int.tmod (Int.tdiv I (10:Int)) (10:Int))] (need [(0:Int)<=3-1-1-1-1/\(3:Int)-1-1-1-1<(↑(5:Nat):Int)] (need [(10:Int)≠0,VI (Int.tdiv (Int.tdiv I (10:Int)) (10:Int))] (need [VI ((3:Int)-1-1-1-1-1)] VJ.fail))))) (need [XE,AV.ro [Z7 n,X8 n,WT n,QZ,QZ]=AV.ro (XB n)] z0))))))) (need [XE,AV.ro [QZ,X8 n,WT n,QZ,QZ]=AV.ro (XB n)] z0))))))) (need [XE,AV.ro [QZ,QZ,WT n,QZ,QZ]=AV.ro (XB n)] z0))))))) (need [XE,AV.ro [QZ,QZ,QZ,QZ,QZ]=AV.ro (XB n)] z0)))) VQ ?_
 have q1:=wH VO;have q2:=wH q1.1;have q3:=wH q2.1;have q4:=wH q3.1;have q5:=wH q4.1;have c1:decide ((3:Int)-1>=0)=true:=by decide
 have c2:decide ((3:Int)-1-1>=0)=true:=by decide
 have c3:decide ((3:Int)-1-1-1>=0)=true:=by decide
 have c4:decide ((3:Int)-1-1-1-1>=0)=false:=by decide
 simp only [VJ.sat,U8,UZ,UB,UE,VI,c1,c2,c3,c4,true_imp_iff,eq_self,Bool.true_eq_false,Bw,false_imp_iff]
 (with_reducible repeat' first|apply Al|intro _)
 all_goals first|exact Ak|omega|rfl|(intro j hj;rcases (show j=0\/j=1\/j=2 by omega) with rfl|rfl|rfl<;>exact by1 (Qe1 _))|decide
def tF:St:={σ:=mkS 24 [(1,i 5),(5,.ro [u8 (dgI ((((n.tdiv 10).tdiv 10).tdiv 10).tdiv 10)),u8 (dgI (((n.tdiv 10).tdiv 10).tdiv 10)),u8 (dgI ((n.tdiv 10).tdiv 10)),u8 (dgI (n.tdiv 10)),u8 (dgI n)])],m:=[],nx:=901}
abbrev QK:List AV:=[AV.x (.int IntKind.u8 (dgI (Int.tdiv (Int.tdiv (Int.tdiv (Int.tdiv n (10:Int)) (10:Int)) (10:Int)) (10:Int)))),AV.x (.int IntKind.u8 (dgI (Int.tdiv (Int.tdiv (Int.tdiv n (10:Int)) (10:Int)) (10:Int)))),YQ n,AV.x (.int IntKind.u8 (dgI (Int.tdiv n (10:Int)))),AV.x (.int IntKind.u8 (dgI n))]
abbrev J4:Prop:=(5:Int)=5
abbrev K5:AV:=AV.x (.int IntKind.u8 (IntKind.wrap IntKind.u8 ((48:Int)+Int.tmod (Int.tdiv (Int.tdiv (Int.tdiv n (10:Int)) (10:Int)) (10:Int)) (10:Int))))
theorem iO(VO:0<=n/\n<=1000000000):VV VL 142 [i n,i 5] (.x (.string (dg5 n))):=by
 refine fU (L:=[(λs=>some (xW Tryz.prog [] [] (U7 (VP (U5 Tryz.f142) 0)) 6 s))]) 3 [(.slot 5,0,0,1)] (tF n) Aa Ad VW Tryz.func142 (UR Tryz.f142) (G0 (lpE (b:= .loop (U7 (VP (U5 Tryz.f142) 0))) VQ<|(L6 Aa VW U0 _).N)) VQ (t:=let S:=(Int.tdiv (Int.tdiv n (10:Int)) (10:Int));let I:=(Int.tdiv S (10:Int));let z3:=(Int.tdiv I (10:Int));let z0:=(need [(0:Int)<=5/\(5:Int)<=(↑(5:Nat):Int)] (need [gC (5:Int).toNat λi=>[Option.rec (top) (λval=>(λval=>(λx=>x) val) val) [u8 (dgI z3),u8 (dgI I),u8 (dgI S),u8 (dgI (Int.tdiv n (10:Int))),u8 (dgI n)][i]?]] (leaf (RV.x (.string (bsO (5:Int).toNat λi=>[Option.rec (top) (λval=>(λval=>(λx=>x) val) val) [u8 (dgI z3),u8 (dgI I),u8 (dgI S),u8 (dgI (Int.tdiv n (10:Int))),u8 (dgI n)][i]?]))))));(need [VI ((5:Int)-1)] (branch (decide ((5:Int)-1>=(0:Int))) (need [(10:Int)≠0] (need [VI ((48:Int)+Int.tmod n (10:Int))] (need [(0:Int)<=5-1/\(5:Int)-1<(↑(5:Nat):Int)] (need [(10:Int)≠0,VI (Int.tdiv n (10:Int))] (need [VI ((5:Int)-1-1)] (branch (decide ((5:Int)-1-1>=(0:Int))) (need [(10:Int)≠0] (need [VI ((48:Int)+Int.tmod (Int.tdiv n (10:Int)) (10:Int))] (need [(0:Int)<=5-1-1/\(5:Int)-1-1<(↑(5:Nat):Int)] (need [(10:Int)≠0,VI S] (need [VI ((5:Int)-1-1-1)] (branch (decide ((5:Int)-1-1-1>=(0:Int))) (need [(10:Int)≠0] (need [VI ((48:Int)+Int.tmod S (10:Int))] (need [(0:Int)<=5-1-1-1/\(5:Int)-1-1-1<(↑(5:Nat):Int)] (need [(10:Int)≠0,VI I] (need [VI ((5:Int)-1-1-1-1)] (branch (decide ((5:Int)-1-1-1-1>=(0:Int))) (need [(10:Int)≠0] (need [VI ((48:Int)+Int.tmod I (10:Int))] (need [(0:Int)<=5-1-1-1-1/\(5:Int)-1-1-1-1<(↑(5:Nat):Int)] (need [(10:Int)≠0,VI z3] (need [VI ((5:Int)-1-1-1-1-1)] (branch (decide ((5:Int)-1-1-1-1-1>=(0:Int))) (need [(10:Int)≠0] (need [VI ((48:Int)+Int.tmod z3 (10:Int))] (need [(0:Int)<=5-1-1-1-1-1/\(5:Int)-1-1-1-1-1<(↑(5:Nat):Int)] (need [(10:Int)≠0,VI (Int.tdiv z3 (10:Int))] (need [VI ((5:Int)-1-1-1-1-1-1)] (branch (decide ((5:Int)-1-1-1-1-1-1>=(0:Int))) (need [(10:Int)≠0] (need [VI ((48:Int)+Int.tmod (Int.tdiv z3 (10:Int)) (10:Int))] (need [(0:Int)<=5-1-1-1-1-1-1/\(5:Int)-1-1-1-1-1-1<(↑(5:Nat):Int)] (need [(10:Int)≠0,VI (Int.tdiv (Int.tdiv z3 (10:Int)) (10:Int))] (need [VI ((5:Int)-1-1-1-1-1-1-1)] VJ.fail))))) (need [J4,AV.ro [AV.x (.int IntKind.u8 (IntKind.wrap IntKind.u8 ((48:Int)+Int.tmod z3 (10:Int)))),K5 n,Z7 n,X8 n,WT n]=AV.ro (QK n)] z0))))))) (need [J4,AV.ro [QZ,K5 n,Z7 n,X8 n,WT n]=AV.ro (QK n)] z0))))))) (need [J4,AV.ro [QZ,QZ,Z7 n,X8 n,WT n]=AV.ro (QK n)] z0))))))) (need [J4,AV.ro [QZ,QZ,QZ,X8 n,WT n]=AV.ro (QK n)] z0))))))) (need [J4,AV.ro [QZ,QZ,QZ,QZ,WT n]=AV.ro (QK n)] z0))))))) (need [J4,AV.ro [QZ,QZ,QZ,QZ,QZ]=AV.ro (QK n)] z0)))) VQ ?_
 have q1:=wH VO;have q2:=wH q1.1;have q3:=wH q2.1;have q4:=wH q3.1;have q5:=wH q4.1;have c1:decide ((5:Int)-1>=0)=true:=by decide
 have c2:decide ((5:Int)-1-1>=0)=true:=by decide
 have c3:decide ((5:Int)-1-1-1>=0)=true:=by decide
 have c4:decide ((5:Int)-1-1-1-1>=0)=true:=by decide
 have c5:decide ((5:Int)-1-1-1-1-1>=0)=true:=by decide
 have c6:decide ((5:Int)-1-1-1-1-1-1>=0)=false:=by decide
 simp only [VJ.sat,U8,UZ,UB,UE,VI,c1,c2,c3,c4,c5,c6,true_imp_iff,eq_self,Bool.true_eq_false,Bw,false_imp_iff]
 (with_reducible repeat' first|apply Al|intro _)
 all_goals first|exact Ak|omega|rfl|(intro j hj;rcases (show j=0\/j=1\/j=2\/j=3\/j=4 by omega) with rfl|rfl|rfl|rfl|rfl<;>exact by1 (Qe1 _))|decide
end
def SA:UU
 |[.x (.int .i64 n),.x (.int .i64 m)]=>some ([0<=n/\n<=1000000000,m=3\/m=5],.x (.string (dgB n m)))
 |_=>none
theorem pQ:VM VL 142 SA:=by
 refine ⟨(UC Tryz.func142),?_⟩;intro avs ns res h hn;unfold SA at h;split at h;rename_i n m;cases h;have h1:0<=n/\n<=1000000000:=hn _ VS;have h2:m=3\/m=5:=hn _ VS;rcases h2 with rfl|rfl;exact iP n h1;exact iO n h1;cases h
theorem gQ(n m:Int)(h:m=3\/m=5):((dgB n m).size:Int)=m:=by
 rcases h with rfl|rfl;rfl;rfl
theorem bU(l c:Int):(tpB l c).size=11:=by
 have h1:=gQ l 3 (.inl rfl);have h2:=gQ c 5 (.inr rfl);unfold tpB;simp only [Av];have e1:(⟨#[91]⟩:ByteArray).size=1:=rfl;have e2:(⟨#[58]⟩:ByteArray).size=1:=rfl;have e3:(⟨#[93]⟩:ByteArray).size=1:=rfl;omega
def Qg6:UU
 |[.agg [.x (.int .i64 l),.x (.int .i64 c)]]=>some ([0<=l/\l<=1000000000,0<=c/\c<=1000000000],.x (.string (tpB l c)))
 |_=>none
theorem Wl6(l c:Int)(VO:0<=l/\l<=1000000000)(UD:0<=c/\c<=1000000000):VV VL 104 [.agg [i l,i c]] (.x (.string (tpB l c))):=by
 refine G9 (L:=[]) (Ae pQ Aa) Ad VW Tryz.func104 (UR Tryz.f104) UV (t:=need [(0:Int)<=l/\l<=1000000000,(3:Int)=3\/(3:Int)=5] (need [(↑(ByteArray.size {data:=#[91] }+ByteArray.size (dgB l (3:Int))):Int)<=9223372036854775807] (need [(↑(ByteArray.size ({data:=#[91] }++dgB l (3:Int))+ByteArray.size {data:=#[58] }):Int)<=9223372036854775807] (need [(0:Int)<=c/\c<=1000000000,(5:Int)=3\/(5:Int)=5] (need [(↑(ByteArray.size ({data:=#[91] }++dgB l (3:Int)++{data:=#[58] })+ByteArray.size (dgB c (5:Int))):Int)<=9223372036854775807] (need [(↑(ByteArray.size ({data:=#[91] }++dgB l (3:Int)++{data:=#[58] }++dgB c (5:Int))+ByteArray.size {data:=#[93] }):Int)<=9223372036854775807] (leaf (RV.x (.string ({data:=#[91] }++dgB l (3:Int)++{data:=#[58] }++dgB c (5:Int)++{data:=#[93] })))))))))) VQ ?_;have h1:=gQ l 3 (.inl rfl);have h2:=gQ c 5 (.inr rfl);have e1:(⟨#[91]⟩:ByteArray).size=1:=rfl;have e2:(⟨#[58]⟩:ByteArray).size=1:=rfl;have e3:(⟨#[93]⟩:ByteArray).size=1:=rfl;simp only [VJ.sat,U8,UZ,UB,UE,Av,e1,e2,e3]
 (with_reducible repeat' first|apply Al|intro _)
 all_goals first|exact Ak|omega|rfl|exact VO|exact UD|decide
theorem iC:VM VL 104 Qg6:=by
 refine ⟨(UC Tryz.func104),?_⟩;intro avs ns res h hn;unfold Qg6 at h;split at h;cases h;exact Wl6 _ _ (hn _ VS) (hn _ VS);cases h
theorem Qe6(s:ByteArray)(k:Nat):0<=byN s k/\byN s k<=255:=by
 unfold byN;have:=(s.data.getD k 0).toNat_lt;omega
theorem Xk2(A B:ByteArray)(j:Nat):byN (A++B) j=if j<A.size then byN A j else byN B (j-A.size):=by
 unfold byN;have e:(A++B).data=A.data++B.data:=ByteArray.data_append;rw [e,LW,Array.getElem?_append];have hs:A.data.size=A.size:=rfl;rw [hs];split;rw [LW];rw [LW]
theorem Xk1(A B:ByteArray)(j:Nat):GE A.size (DJ A) (DJ B) j=DJ (A++B) j:=by
 show H9 (decide (j<A.size)) (DJ A j) (DJ B (j-A.size))=_;unfold DJ;rw [Xk2];by_cases h:j<A.size;rw [decide_eq_true h,if_pos h];rfl;rw [decide_eq_false h,if_neg h];rfl
theorem Qy8(s:ByteArray)(k:Nat)(h:k<1000):0<=((k:Int)+2)*(byN s k+3)/\((k:Int)+2)*(byN s k+3)<=258516:=by
 have hb:=Qe6 s k;refine ⟨Bz VG VG,?_⟩;have h1:((k:Int)+2)*(byN s k+3)<=((k:Int)+2)*258:=Int.mul_le_mul_of_nonneg_left VG VG;omega
theorem A2(s:ByteArray)(ix:Int)(O:0<=ix/\ix<=100000): ∀k:Nat,k<=1000->0<=tpC s ix k/\tpC s ix k<=2400000+(k:Int)*258516
 | 0,_=>by
  show 0<=23*(ix+1)/\23*(ix+1)<=_;omega
 |k+1,hk=>by
  have ih:=A2 s ix O k VG;have hm:=Qy8 s k VG;have e:tpC s ix (k+1)=tpC s ix k+((k:Int)+2)*(byN s k+3):=rfl;rw [e];generalize ((k:Int)+2)*(byN s k+3)=z at hm;omega
section
variable (s:ByteArray)
theorem cU(ix:Int):(rcB s ix).size=12+s.size:=by
 unfold rcB;rw [Av,Av,bU];have e1:(⟨#[10]⟩:ByteArray).size=1:=rfl;omega
theorem l9(L:Nat->ByteArray): ∀n,(∀k,k<n->(L k).size<=200)->(flB L n).size<=n*212
 | 0,_=>Am 0
 |n+1,h=>by
  have ih:=l9 L n λk hk=>h k VG;show (flB L n++rcB (L n) n).size<=_;rw [Av,cU];have:=h n VG;omega
abbrev Z3:AV:=lst 1 (ByteArray.size s) λj=>[AV.x (.int IntKind.u8 (byN s j))]
abbrev YB:AV:=FL s
def Zq0(ix:Int):St:={σ:=[YB s,iI ix,top,top,ptr 0 0]++HF 7 [Z3 s,iI (↑(ByteArray.size s):Int)]++HF 19 [],m:=[(0,GL.cells 208 JN)],nx:=9}
noncomputable def Jp2:Code:=U7 (VP (U5 Tryz.f103) 0)
def Wh1(ix:Int)(k:Nat):St:=(upM [(5,i (tpC s ix k)),(6,.top),(7,.top),(14,i k)] (Zq0 s ix))
def CI(ix:Int)(k:Nat):G4->Option St
 | .exit 0=>some (upM [(5,i (tpC s ix s.size)),(6,.top),(7,.top),(14,i s.size)] (Zq0 s ix))
 |_=>none
def Jj8(ix:Int):CT:= .leaf (.exit 0,(CI s ix 0 (.exit 0)).getD (Zq0 s ix))
def Xu8(ix:Int):UF:=(HD (Wh1 s ix (0)) (Jj8 s ix))
theorem Zx4(ix:Int)(VO:s.size<=1000)(UD:0<=ix/\ix<=100000):G5 VL (.loop Jp2) (Xu8 s ix):=by
 refine HC (L:=[]) Aa VW U0 (X:=Nat) (Wh1 s ix) (λk=>k<=s.size) (λk=>s.size-k) (CI s ix) (x0:=0) VS ?_ ?_ ?_;rintro k;kernel_rfl;rintro k y E h;unfold CI at h;split at h;cases h;kernel_rfl;cases h;rintro Q hQ k hx;refine ⟨(k+1),?_⟩;(with_reducible refine DA (t:=branch (decide ((k:Int)<(↑(ByteArray.size s):Int))) (need [UG k (ByteArray.size s)] (need [VI ((k:Int)+2)] (need [VI (byN s k)] (need [VI (byN s k+3)] (need [VI (((k:Int)+2)*(byN s k+3))] (need [VI (tpC s ix k+((k:Int)+2)*(byN s k+3))] (need [VI ((k:Int)+1)] (need [YB s=YB s,ix=ix,QO,tpC s ix k+((k:Int)+2)*(byN s k+3)=tpC s ix (k+1),Z3 s=Z3 s,VU (↑(ByteArray.size s):Int),(k:Int)+1=(↑(k+1):Int),QI,QI] (leaf G4.normal))))))))) (need [YB s=YB s,ix=ix,QO,tpC s ix k=tpC s ix (ByteArray.size s),Z3 s=Z3 s,VU (↑(ByteArray.size s):Int),(k:Int)=(↑(ByteArray.size s):Int),QI,QI] (leaf (G4.exit 0)))) VQ ?_);simp only [Jj8,CI,VJ.sat,GQ] at hQ;simp only [VJ.sat,U8,UZ,GH,UB,VI,UE,H6,FW,R0,RT,GJ,CI]
 have h1:=A2 s ix UD k VG;refine ⟨λh=>?_,λh=>?_⟩;have hk:k<s.size:=VG;have h2:=Qy8 s k VG;have h3:=Qe6 s k;have e0:tpC s ix (k+1)=tpC s ix k+((k:Int)+2)*(byN s k+3):=rfl;generalize ((k:Int)+2)*(byN s k+3)=z at h2 e0 ⊢;exact YW;obtain rfl:k=s.size:=VG;exact YW
end
def S7:UU
 |[.x (.string s),.x (.int .i64 ix)]=>some ([s.size<=1000,0<=ix/\ix<=100000],.agg [i s.size,i (tpK s ix)])
 |_=>none
theorem pI(s:ByteArray)(ix:Int)(VO:s.size<=1000)(UD:0<=ix/\ix<=100000):VV VL 103 [.x (.string s),i ix] (.agg [i s.size,i (tpK s ix)]):=by
 refine G9 (L:=[Xu8 s ix]) Aa Ad VW Tryz.func103 (UR Tryz.f103) (G0 (lpE (b:= .loop Jp2) VQ<|(Zx4 s ix VO UD).N)) (t:=need [VI (ix+1)] (need [VI ((23:Int)*(ix+1))] (need [ByteArray.size s<=4294967296] (need [YB s=YB s,ix=ix,QO,(23:Int)*(ix+1)=tpC s ix 0,Z3 s=Z3 s,VU (↑(ByteArray.size s):Int),(0:Int)=(↑(0:Nat):Int),QI,QI] (need [(99971:Int)≠0] (leaf (RV.agg [RV.x (.int .i64 (↑(ByteArray.size s):Int)),RV.x (.int .i64 (Int.tmod (tpC s ix (ByteArray.size s)) (99971:Int)))]))))))) VQ ?_
 have h1:=A2 s ix UD s.size VO;simp only [VJ.sat,U8,UZ,GH,UB,UE,VI];all_goals exact V3
theorem EX:VM VL 103 S7:=by
 refine ⟨(UC Tryz.func103),?_⟩;intro avs ns res h hn;unfold S7 at h;split at h;cases h;exact pI _ _ (hn _ VS) (hn _ VS);cases h
section
variable (n:Nat)(L:Nat->ByteArray)
def Zr7:St:={σ:=[Q6 n L,top,Q9,top,top,top,Q6 n L,iI (n:Int)]++HF 16 [],m:=[(901,GL.row 5 1 0 λx=>[])],nx:=902}
noncomputable def Jr0:Code:=U7 (VP (U5 Tryz.f62) 0)
def Wj2(k:Nat):St:={σ:=H0 [(3,.row 901),(4,.top),(5,.top),(8,i k)] (Zr7 n L).σ,m:=[(901,.row 5 1 (flB L k).size (DJ (flB L k)))],nx:=902}
def CZ(k:Nat):G4->Option St
 | .exit 0=>some {σ:=H0 [(3,.row 901),(4,.top),(5,.top),(8,i n)] (Zr7 n L).σ,m:=[(901,.row 5 1 (flB L n).size (DJ (flB L n)))],nx:=902}
 |_=>none
def Jm1:CT:= .leaf (.exit 0,(CZ n L 0 (.exit 0)).getD (Zr7 n L))
def Xx3:UF:=GG [(.slot 3,901,5,1)] (HD (Wj2 n L (0)) (Jm1 n L))
theorem Jg2(VO:n<=50)(UD: ∀k,k<n->(L k).size<=200):G5 VL (.loop Jr0) (Xx3 n L):=by
 refine UT [(.slot 3,901,5,1)] (L:=[]) (Ae EX (Ae iC Aa)) Ad VW U0 (X:=Nat) (Wj2 n L) (λk=>k<=n) (λk=>n-k) (CZ n L) (x0:=0) VS ?_ ?_ ?_;rintro k;kernel_rfl;rintro k y E h;unfold CZ at h;split at h;cases h;kernel_rfl;cases h;rintro Q hQ k hx;refine ⟨(k+1),?_⟩;(with_reducible refine DA (t:=branch (decide ((k:Int)<(n:Int))) (need [UG k n] (need [ByteArray.size (L k)<=1000,(0:Int)<=(k:Int)/\(k:Int)<=100000] (need [(0:Int)<=(↑(ByteArray.size (L k)):Int)/\(↑(ByteArray.size (L k)):Int)<=1000000000,(0:Int)<=tpK (L k) (k:Int)/\tpK (L k) (k:Int)<=1000000000] (need [(↑(ByteArray.size (tpB (↑(ByteArray.size (L k)):Int) (tpK (L k) (k:Int)))+ByteArray.size (L k)):Int)<=9223372036854775807] (need [(↑(ByteArray.size (tpB (↑(ByteArray.size (L k)):Int) (tpK (L k) (k:Int))++L k)+ByteArray.size {data:=#[10] }):Int)<=9223372036854775807] (need [ByteArray.size (flB L k)+ByteArray.size (tpB (↑(ByteArray.size (L k)):Int) (tpK (L k) (k:Int))++L k++{data:=#[10] })<=140737488355328] (need [VI ((k:Int)+1)] (need [VU (Q6 n L),Q9=Q9,WG,VU (Q6 n L),VU (n:Int),(k:Int)+1=(↑(k+1):Int),ByteArray.size (flB L k)+ByteArray.size (tpB (↑(ByteArray.size (L k)):Int) (tpK (L k) (k:Int))++L k++{data:=#[10] })=ByteArray.size (flB L (k+1)),∀(i:Nat),i<ByteArray.size (flB L (k+1))->GE (ByteArray.size (flB L k)) (DJ (flB L k)) (DJ (tpB (↑(ByteArray.size (L k)):Int) (tpK (L k) (k:Int))++L k++{data:=#[10] })) i=DJ (flB L (k+1)) i] (leaf G4.normal))))))))) (need [VU (Q6 n L),Q9=Q9,WG,VU (Q6 n L),VU (n:Int),(k:Int)=(n:Int),ByteArray.size (flB L k)=ByteArray.size (flB L n),∀(i:Nat),i<ByteArray.size (flB L n)->DJ (flB L k) i=DJ (flB L n) i] (leaf (G4.exit 0)))) VQ ?_);simp only [Jm1,CZ,VJ.sat,GQ] at hQ;simp only [VJ.sat,U8,UZ,GH,UB,VI,UE,H6,FW,R0,RT,GJ,CZ]
 have h1:=l9 L k λj hj=>UD j VG;refine ⟨λh=>?_,λh=>?_⟩
 ·have hk:k<n:=VG;have h2:=UD k hk;have h3:=A2 (L k) k VG (L k).size VG;have h4:tpK (L k) k=(tpC (L k) k (L k).size)%99971:=Int.tmod_eq_emod_of_nonneg h3.1;have h5:0<=tpK (L k) k/\tpK (L k) k<99971:=VG;have h6:=cU (L k) k;have h7:=bU ((L k).size:Int) (tpK (L k) k);have e0:(flB L (k+1)).size=(flB L k).size+(rcB (L k) k).size:=Av;have e1:(⟨#[10]⟩:ByteArray).size=1:=rfl;have e2:(tpB ((L k).size:Int) (tpK (L k) k)++L k).size=11+(L k).size:=by rw [Av,h7]
  have e3:(tpB ((L k).size:Int) (tpK (L k) k)++L k++⟨#[10]⟩).size=12+(L k).size:=h6;have hq: ∀j,GE (flB L k).size (DJ (flB L k)) (DJ (tpB ((L k).size:Int) (tpK (L k) k)++L k++⟨#[10]⟩)) j=DJ (flB L (k+1)) j:=λj=>Xk1 _ (rcB (L k) k) j
  (with_reducible repeat' first|apply Al|intro _)
  all_goals first|exact P4|(first|exact hq _|(rw [e2,e1];omega)|(rw [e3];omega)|(rw [h7];omega))
 obtain rfl:k=n:=VG;exact YW
theorem Wn0(VO:n<=50)(UD: ∀k,k<n->(L k).size<=200):VV VL 62 [lns n L] (.lst 1 (flB L n).size (DJ (flB L n))):=by
 refine G9 (L:=[Xx3 n L]) (Ae EX (Ae iC Aa)) Ad VW Tryz.func62 (UR Tryz.f62) (G0 (lpE (b:= .loop Jr0) VQ<|(Jg2 n L VO UD).N)) (t:=need [VU (Q6 n L),Q9=Q9,WG,VU (Q6 n L),VU (n:Int),(0:Int)=(↑(0:Nat):Int),0=ByteArray.size (flB L 0),∀(i:Nat),i<ByteArray.size (flB L 0)->[]=DJ (flB L 0) i] (leaf (RV.lst 1 (ByteArray.size (flB L n)) λj=>[AV.x (.int IntKind.u8 (byN (flB L n) j))]))) VQ ?_
 simp only [VJ.sat,U8,UZ,GH,UB,UE,VI];have hx: ∀k,∀a∈DJ (flB L n) k,isX a:=λk a ha=>by rw [qL.1 ha];exact Ak
 (with_reducible repeat' first|apply Al|intro _)
 all_goals first|exact Ak|omega|rfl|(rename_i h;exact absurd h (Aq _))|exact hx _ _ (by assumption)|decide
def Wy3:UU:=λl=>some ([l=[lns n L],ckE n L=0],.lst 1 (flB L n).size (DJ (flB L n)))
theorem Qp7:VM VL 62 (Wy3 n L):=by
 refine ⟨(UC Tryz.func62),?_⟩;intro avs ns res h hn;cases h;have e:avs=[lns n L]:=hn _ VS;have h0:ckE n L=0:=hn _ VS;subst e;have hk:=j9 h0;exact Wn0 n L hk.1 hk.2
theorem Qq5(VO:n<=100):UH VL 32 [lns n L] (.branch (ckE n L != 0) (.leaf (.tup [.x (.slice none 0 0),i (ckE n L)])) (.leaf (.tup [.lst 1 (flB L n).size (DJ (flB L n)),i 0]))):=by
 refine GO (L:=[]) (Ae (PP n L VG) (Ae (Qp7 n L) Aa)) Ad VW Tryz.func32 (UR Tryz.f32) UV (t:=need [(K2 n L)] (branch (ckE n L != 0) (leaf (tup [Q9,iI (ckE n L)])) (need [(K2 n L),ckE n L=0] (leaf (tup [lst 1 (ByteArray.size (flB L n)) λj=>[AV.x (.int IntKind.u8 (byN (flB L n) j))],iI 0]))))) VQ ?_;intro Q hQ;simp only [VJ.sat,U8,UE,VI,FC] at hQ ⊢;refine ⟨λh=>⟨.tup [.x (.slice none 0 0),i (ckE n L)],⟨rfl,⟨rfl,rfl⟩,Ak⟩,hQ.1 h⟩,λh=>?_⟩;have h0:ckE n L=0:=by simpa using h
 (with_reducible repeat' first|apply Al|intro _)
 all_goals first|exact Ak|exact h0|rfl|(exact ⟨.tup [.lst 1 (flB L n).size (DJ (flB L n)),i 0],⟨⟨rfl,rfl,λ_ _=>rfl⟩,⟨rfl,rfl⟩,Ak⟩,hQ.2 h⟩)
end
end Go.Proofs.YtakpdkmhclhlnaaGreatDoor.Hd
