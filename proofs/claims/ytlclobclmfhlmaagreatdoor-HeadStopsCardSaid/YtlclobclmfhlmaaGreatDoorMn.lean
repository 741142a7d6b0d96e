/- Contracts, put together. Conditions: those of each. -/
import Derived.Test.YtlclobclmfhlmaaGreatDoorMm
import Derived.RangeFuncRecord
set_option linter.unusedSimpArgs false
set_option linter.unusedVariables false
set_option maxRecDepth 100000
namespace Go.Proofs.YtlclobclmfhlmaaGreatDoor.Hd
open Go Go.RowKit
structure bS (w w':World):Prop where
 size:w.heap.size<=w'.heap.size
 os:w'.os=w.os
 tape:w'.tape=w.tape
 output:w'.output=w.output
theorem Zg0{w:World}{p:Nat}{v:Value}{T:TypeId}(h:w.heap[p]? =some (.cells #[v] T (0,0)))(y:Nat):(w.setCell ⟨p,0,none⟩ v).heap[y]? =w.heap[y]? :=by
 by_cases hy:y=p
 ·subst hy;rw [heap_setCell_same w y 0 _ _ v h,h];rfl
 ·exact heap_setCell_other _ _ _ _ hy
abbrev XZ(b:Nat):Value:=Value.pointer (some ⟨b,0,none⟩)
abbrev KC:Value:=Value.int IntKind.i64 0
set_option maxHeartbeats 2000000 in
theorem Zl3(b:Nat)(str:ByteArray)(a0 a3 a4 a5:Option Addr)(l0 q0 l3 q3 l4 q4 l5 q5:Nat)(i1 i2:Int)(w:World)(hb:w.heap[b]? =some (.cells #[.slice a0 l0 q0,.int .i64 i1,.int .i64 i2,.slice a3 l3 q3,.slice a4 l4 q4,.slice a5 l5 q5] 100 (0,0)))
  (e:Int)(touched:Nat->Prop)(ht: ∀y,touched y->y<w.heap.size)(P:World->World->Prop)
  (hl: ∀w2,bS w w2->(∀y,y<w.heap.size->w2.heap[y]? =w.heap[y]?)->Calls Tryz.prog 90 #[.pointer (some ⟨b,0,none⟩),.string str] w2 λen w3=>en=(if e=0 then .returned (.tuple #[]) else .panicked [{v:= .iface 182 (.agg #[.int .i64 e]),recovered:=false}])/\bS w2 w3/\(∀y,y<w2.heap.size-> ¬touched y->w3.heap[y]? =w2.heap[y]?)/\(∃c0 c1 c2 c3 c4 c5,w3.heap[b]? =some (.cells #[c0,c1,c2,c3,c4,c5] 100 (0,0)))/\P w2 w3):
  Calls Tryz.prog 63 #[.pointer (some ⟨b,0,none⟩),.string str] w λen w'=>en= .returned (.int .i64 e)/\ ∃w2 w3,bS w w2/\(∀y,y<w.heap.size->w2.heap[y]? =w.heap[y]?)/\P w2 w3/\bS w2 w3/\bS w3 w'/\(∀y,y<w3.heap.size->y≠b->y≠w.heap.size+1->w'.heap[y]? =w3.heap[y]?)/\w'.heap[b]? =(if e=0 then w3.heap[b]? else w.heap[b]?)/\(e=0-> ∀y:Nat,w'.heap[y]? =w3.heap[y]?):=by
 have hmf: ∀(fn:Fn) (first cap:Array Value) (w:World),(Instr.makeFunc fn first cap).run Tryz.prog w= .ok (.func fn first cap) w:=λ_ _ _ _=>rfl
 have lt: ∀{y o},w.heap[y]? =some o->y<w.heap.size:=λh=>(Array.getElem?_eq_some_iff.1 h).1
 have cb0:w.cell? ⟨b,0,none⟩=some (.slice a0 l0 q0):=by simp only [World.cell?,hb];rfl
 have cb1:w.cell? ⟨b,1,none⟩=some (.int .i64 i1):=by simp only [World.cell?,hb];rfl
 have cb2:w.cell? ⟨b,2,none⟩=some (.int .i64 i2):=by simp only [World.cell?,hb];rfl
 have cb3:w.cell? ⟨b,3,none⟩=some (.slice a3 l3 q3):=by simp only [World.cell?,hb];rfl
 have cb4:w.cell? ⟨b,4,none⟩=some (.slice a4 l4 q4):=by simp only [World.cell?,hb];rfl
 have cb5:w.cell? ⟨b,5,none⟩=some (.slice a5 l5 q5):=by simp only [World.cell?,hb];rfl
 have nb: ¬w.heap.size=b:=λh=>by have:=lt hb;omega
 have nb': ¬b=w.heap.size:=λh=>by have:=lt hb;omega
 have nb1: ¬b=w.heap.size+1:=λh=>by have:=lt hb;omega
 have nb2: ¬b=w.heap.size+1+1:=λh=>by have:=lt hb;omega
 have nb1': ¬w.heap.size+1=b:=λh=>by have:=lt hb;omega
 have nb2': ¬w.heap.size+1+1=b:=λh=>by have:=lt hb;omega
 have hA: ∀y,y<w.heap.size->((w.alloc (Obj.cells #[XZ b] 95)).alloc (Obj.cells #[KC] 38)).heap[y]? =w.heap[y]? :=λy hy=>(Go.RowKit.Below.heap_alloc _ _ y (Nat.lt_succ_of_lt hy |> λh=>by simpa using h)).trans (Go.RowKit.Below.heap_alloc w _ y hy)
 have hAb:=(hA b (lt hb)).trans hb;have d0:((w.alloc (Obj.cells #[XZ b] 95)).alloc (Obj.cells #[Value.int IntKind.i64 0] 38)).cell? ⟨b,0,none⟩=some (.slice a0 l0 q0):=by simp only [World.cell?,hAb];rfl
 have d1:((w.alloc (Obj.cells #[XZ b] 95)).alloc (Obj.cells #[Value.int IntKind.i64 0] 38)).cell? ⟨b,1,none⟩=some (.int .i64 i1):=by simp only [World.cell?,hAb];rfl
 have d2:((w.alloc (Obj.cells #[XZ b] 95)).alloc (Obj.cells #[Value.int IntKind.i64 0] 38)).cell? ⟨b,2,none⟩=some (.int .i64 i2):=by simp only [World.cell?,hAb];rfl
 have d3:((w.alloc (Obj.cells #[XZ b] 95)).alloc (Obj.cells #[Value.int IntKind.i64 0] 38)).cell? ⟨b,3,none⟩=some (.slice a3 l3 q3):=by simp only [World.cell?,hAb];rfl
 have d4:((w.alloc (Obj.cells #[XZ b] 95)).alloc (Obj.cells #[Value.int IntKind.i64 0] 38)).cell? ⟨b,4,none⟩=some (.slice a4 l4 q4):=by simp only [World.cell?,hAb];rfl
 have d5:((w.alloc (Obj.cells #[XZ b] 95)).alloc (Obj.cells #[Value.int IntKind.i64 0] 38)).cell? ⟨b,5,none⟩=some (.slice a5 l5 q5):=by simp only [World.cell?,hAb];rfl
 have s1:(w.alloc (Obj.cells #[Value.pointer (some ⟨b,0,none⟩)] 95)).heap.size=w.heap.size+1:=by simp
 have s2:((w.alloc (Obj.cells #[Value.pointer (some ⟨b,0,none⟩)] 95)).alloc (Obj.cells #[Value.int IntKind.i64 0] 38)).heap.size=w.heap.size+2:=by simp
 have s3:(((w.alloc (Obj.cells #[XZ b] 95)).alloc (Obj.cells #[KC] 38)).alloc (Obj.cells #[.slice a0 l0 q0,.int .i64 i1,.int .i64 i2,.slice a3 l3 q3,.slice a4 l4 q4,.slice a5 l5 q5] 32)).heap.size=w.heap.size+3:=by simp
 have hB: ∀y,y<w.heap.size->(((w.alloc (Obj.cells #[XZ b] 95)).alloc (Obj.cells #[KC] 38)).alloc (Obj.cells #[.slice a0 l0 q0,.int .i64 i1,.int .i64 i2,.slice a3 l3 q3,.slice a4 l4 q4,.slice a5 l5 q5] 32)).heap[y]? =w.heap[y]? :=λy hy=>(Go.RowKit.Below.heap_alloc _ _ y (by rw [s2];omega)).trans (hA y hy)
 have b5:(((w.alloc (Obj.cells #[XZ b] 95)).alloc (Obj.cells #[KC] 38)).alloc (Obj.cells #[.slice a0 l0 q0,.int .i64 i1,.int .i64 i2,.slice a3 l3 q3,.slice a4 l4 q4,.slice a5 l5 q5] 32)).heap[w.heap.size+2]? =some (.cells #[.slice a0 l0 q0,.int .i64 i1,.int .i64 i2,.slice a3 l3 q3,.slice a4 l4 q4,.slice a5 l5 q5] 32 (0,0)):=by
  have:=World.alloc_heap_new ((w.alloc (Obj.cells #[XZ b] 95)).alloc (Obj.cells #[KC] 38)) (Obj.cells #[.slice a0 l0 q0,.int .i64 i1,.int .i64 i2,.slice a3 l3 q3,.slice a4 l4 q4,.slice a5 l5 q5] 32);rw [s2] at this;exact this
 have b4:(((w.alloc (Obj.cells #[XZ b] 95)).alloc (Obj.cells #[KC] 38)).alloc (Obj.cells #[.slice a0 l0 q0,.int .i64 i1,.int .i64 i2,.slice a3 l3 q3,.slice a4 l4 q4,.slice a5 l5 q5] 32)).heap[w.heap.size+1]? =some (.cells #[.int .i64 0] 38 (0,0)):=by
  have:=World.alloc_heap_new (w.alloc (Obj.cells #[Value.pointer (some ⟨b,0,none⟩)] 95)) (Obj.cells #[Value.int IntKind.i64 0] 38);rw [s1] at this;exact (Go.RowKit.Below.heap_alloc _ _ _ (by rw [s2];omega)).trans this
 have b2:(((w.alloc (Obj.cells #[XZ b] 95)).alloc (Obj.cells #[KC] 38)).alloc (Obj.cells #[.slice a0 l0 q0,.int .i64 i1,.int .i64 i2,.slice a3 l3 q3,.slice a4 l4 q4,.slice a5 l5 q5] 32)).heap[w.heap.size]? =some (.cells #[.pointer (some ⟨b,0,none⟩)] 95 (0,0)):=by
  have:=World.alloc_heap_new w (Obj.cells #[Value.pointer (some ⟨b,0,none⟩)] 95);exact (Go.RowKit.Below.heap_alloc _ _ _ (by rw [s2];omega)).trans ((Go.RowKit.Below.heap_alloc _ _ _ (by rw [s1];omega)).trans this)
 have hG:bS w (((w.alloc (Obj.cells #[XZ b] 95)).alloc (Obj.cells #[KC] 38)).alloc (Obj.cells #[.slice a0 l0 q0,.int .i64 i1,.int .i64 i2,.slice a3 l3 q3,.slice a4 l4 q4,.slice a5 l5 q5] 32)):=⟨by rw [s3];omega,rfl,rfl,rfl⟩
 have FM:=hl _ hG hB;by_cases he:e=0
 ·subst he;simp only [if_pos rfl] at FM ⊢
  go_enter_defers Tryz.func63,Tryz.ntmps63
  go_wp2_with (go_at_call 90;refine FM.mono ?_;rintro en w3 ⟨rfl,g1,g2,g3,g4⟩;have h4:=(g2 (w.heap.size+1) (by rw [s3];omega) (λh=>by have:=ht _ h;omega)).trans b4;have k4:w3.cell? ⟨w.heap.size+1,0,none⟩=some (.int .i64 0):=(by simp only [World.cell?,h4];rfl);have f4:w3.frozen? ⟨w.heap.size+1,0,none⟩=false:=(by simp only [World.frozen?,h4];rfl))
  refine leaves_cons (f:=89) (args:=#[.pointer (some ⟨w.heap.size+2,0,none⟩),.pointer (some ⟨w.heap.size,0,none⟩),.pointer (some ⟨w.heap.size+1,0,none⟩)]) (by simp) (by simp [go_sem]) ?_
  refine (Qp8 _ _ _ _).mono ?_;rintro e' u' w'' ⟨rfl,rfl,rfl⟩;have kc:(w3.setCell ⟨w.heap.size+1,0,none⟩ (.int .i64 0)).cell? ⟨w.heap.size+1,0,none⟩=some (.int .i64 0):=by simp only [World.cell?,heap_setCell_same w3 _ 0 _ _ (.int .i64 0) h4];rfl
  simp [Leaves,settle,results,Tryz.results63,go_sem,kc];exact ⟨_,hG,hB,w3,g4,g1,⟨by simp,rfl,rfl,rfl⟩,λy _ _ h2=>heap_setCell_other _ _ _ _ h2,heap_setCell_other _ _ _ _ nb1,λy=>Zg0 h4 y⟩
 ·simp only [if_neg he] at FM ⊢
  go_enter_defers Tryz.func63,Tryz.ntmps63
  go_wp2_with (go_at_call 90;refine FM.mono ?_;rintro en w3 ⟨rfl,g1,g2,g3,g4⟩;have h4:=(g2 (w.heap.size+1) (by rw [s3];omega) (λh=>by have:=ht _ h;omega)).trans b4;have k4:w3.cell? ⟨w.heap.size+1,0,none⟩=some (.int .i64 0):=(by simp only [World.cell?,h4];rfl);have f4:w3.frozen? ⟨w.heap.size+1,0,none⟩=false:=(by simp only [World.frozen?,h4];rfl))
  refine leaves_cons (f:=89) (args:=#[.pointer (some ⟨w.heap.size+2,0,none⟩),.pointer (some ⟨w.heap.size,0,none⟩),.pointer (some ⟨w.heap.size+1,0,none⟩)]) (by simp) (by simp [go_sem]) ?_
  obtain ⟨c0,c1,c2,c3,c4,c5,g3⟩:=g3;have h2:=(g2 w.heap.size (by rw [s3];omega) (λh=>by have:=ht _ h;omega)).trans b2
  have h5:=(g2 (w.heap.size+2) (by rw [s3];omega) (λh=>by have:=ht _ h;omega)).trans b5
  refine (pI b w.heap.size (w.heap.size+1) (w.heap.size+2) e 0 a0 a3 a4 a5 l0 q0 l3 q3 l4 q4 l5 q5 i1 i2 c0 c1 c2 c3 c4 c5 [] w3 h2 h5 h4 g3 (λh=>nb1 h.symm)).mono ?_
  rintro e' u' w'' ⟨rfl,rfl,m1,m2,m3,m4,m5⟩;have kc:w''.cell? ⟨w.heap.size+1,0,none⟩=some (.int .i64 e):=by simp only [World.cell?,m3];rfl
  simp [Leaves,settle,results,Tryz.results63,go_sem,kc];exact ⟨_,hG,hB,w3,g4,g1,⟨m1,m4.1,m4.2.1,m4.2.2⟩,m5,m2.trans hb.symm,λh=>absurd h he⟩
open Go Go.Sx Go.RowKit
open Go.Sx.VR (need branch leaf)
open Go.Sx.AV (lst ptr agg roI tup top)
theorem yL{e:UP}{w:World}{sz n:Nat}{f:Nat->List AV}{v:Value}(h:Rep e w (.lst sz n f) v): ∃a l c,v= .slice a l c:=by
 cases h with
 |lstNil=>exact ⟨_,_,_,rfl⟩
 |lst=>exact ⟨_,_,_,rfl⟩
theorem Zf7(W:Nat->ByteArray)(s:HS):(FB W s).xn=s.xn/\(FB W s).xg=s.xg/\(FB W s).yn=s.yn/\(FB W s).yg=s.yg:=by
 unfold FB;split<;>exact ⟨rfl,rfl,rfl,rfl⟩
theorem Xn2(e:Int):Xn3 182 (rsE e)=(if e=0 then .returned (.tuple #[]) else .panicked [{v:= .iface 182 (.agg #[.int .i64 e]),recovered:=false}]):=by
 unfold rsE Xn3;by_cases h:e=0
 ·simp [h]
 ·simp [h]
def Xv8(e:UP)(w0:World)(T:Nat->Prop)(q r t:Nat)(s s':HS)(er:Int)(w2 w3:World):Prop:=
 Below w0.heap.size w0 w3/\(∀x,(e.ro x\/(w0.heap.size<=x/\x<w2.heap.size/\e.own x≠some q/\e.own x≠some r/\e.own x≠some t))->w3.heap[x]? =w2.heap[x]?)/\
 ∃ro1:Nat->Prop,(∀x,e.ro x->ro1 x)/\(∀x,T x-> ¬ro1 x)/\G6 {e with ro:=ro1,own:=LT e q r t} w0.heap.size w3/\
  GL {e with ro:=ro1,own:=LT e q r t} w3 q (.cells 100 (cond (rsE er).1 (hsL s') [.top,.top,.top,.top,.top,.top]))/\
  GL {e with ro:=ro1,own:=LT e q r t} w3 r (.row 38 1 s.xn s.xg)/\GL {e with ro:=ro1,own:=LT e q r t} w3 t (.row 9 1 s.yn s.yg)
theorem Zl5{str:ByteArray}{n:Nat}{W:Nat->ByteArray}{s:HS}(h:uC str n W)(hs:rB s)
  {e:UP}{w0 w:World}{T:Nat->Prop}{q r t:Nat}(hEv:G6 e w0.heap.size w)(hB:Below w0.heap.size w0 w)(hT: ∀b,T b->b<w0.heap.size/\ ¬e.ro b)
  (hq:GL e w q (.cells 100 (hsL s)))(hr:GL e w r (.row 38 1 s.xn s.xg))(ht:GL e w t (.row 9 1 s.yn s.yg))(hqr:q≠r)(hqt:q≠t)(hrt:r≠t)(hrv: ∃a b c,e.val r= .slice a b c)(htv: ∃a b c,e.val t= .slice a b c):
  Calls Tryz.prog 63 #[.pointer (some ⟨e.blk q,0,none⟩),.string str] w λen w'=>en= .returned (.int .i64 (LX W n s))/\ ∃w2 w3,bS w w2/\(∀y,y<w.heap.size->w2.heap[y]? =w.heap[y]?)/\Xv8 e w0 T q r t s (FB W s) (LX W n s) w2 w3/\bS w2 w3/\bS w3 w'/\(∀y,y<w3.heap.size->y≠e.blk q->y≠w.heap.size+1->w'.heap[y]? =w3.heap[y]?)/\w'.heap[e.blk q]? =(if LX W n s=0 then w3.heap[e.blk q]? else w.heap[e.blk q]?)/\(LX W n s=0-> ∀y:Nat,w'.heap[y]? =w3.heap[y]?):=by
 have hq0:=hq;obtain ⟨ql,qo,vs,qh,qv⟩:=hq;obtain ⟨u0,us,rfl,r0,qv⟩:=qv.cons_inv;obtain ⟨u1,us,rfl,r1,qv⟩:=qv.cons_inv;obtain ⟨u2,us,rfl,r2,qv⟩:=qv.cons_inv;obtain ⟨u3,us,rfl,r3,qv⟩:=qv.cons_inv;obtain ⟨u4,us,rfl,r4,qv⟩:=qv.cons_inv;obtain ⟨u5,us,rfl,r5,qv⟩:=qv.cons_inv;obtain rfl:=qv.nil_inv;obtain ⟨a0,l0,q0,rfl⟩:=yL r0;obtain rfl:=r1.x_inv;obtain rfl:=r2.x_inv;obtain ⟨a3,l3,q3,rfl⟩:=yL r3;obtain ⟨a4,l4,q4,rfl⟩:=yL r4;obtain ⟨a5,l5,q5,rfl⟩:=yL r5;refine Zl3 (e.blk q) str a0 a3 a4 a5 l0 q0 l3 q3 l4 q4 l5 q5 s.pl s.ph w qh (LX W n s) (λy=>e.own y=some q\/e.own y=some r\/e.own y=some t) (λy hy=>by rcases hy with hy|hy|hy<;>exact (hEv.owned _ _ hy).2) (Xv8 e w0 T q r t s (FB W s) (LX W n s)) ?_
 intro w2 hG jR;have st:Step e e w w2:=⟨λb hb hro=>⟨hro,jR b hb⟩,λk hk=>⟨hk,rfl,rfl⟩,hG.size⟩
 have hE2:G6 e w0.heap.size w2:=⟨λx hx=>⟨(hEv.apart x hx).1,qF (hEv.apart x hx).2 hG.size⟩,λx k hk=>⟨(hEv.owned x k hk).1,qF (hEv.owned x k hk).2 hG.size⟩,hEv.glob.step st⟩
 have hB2:Below w0.heap.size w0 w2:=⟨hG.os.trans hB.os,hG.tape.trans hB.tape,hG.output.trans hB.output,Ar hB.size hG.size,λx hx=>(jR x (qF hx hB.size)).trans (hB.block x hx)⟩
 have same: ∀{k:Nat} {R:GU},Xk0 R=false->GL e w k R->GL e w2 k R:=λha hh=>LO st (λx hx=>⟨hx,jR x (hEv.owned _ _ hx).2⟩) ha hh
 have hx:=Zf7 W s;refine (Zm2 (Qq5 h hs) hx hE2 hB2 hT (same rfl hq0) (same rfl hr) (same rfl ht) hqr hqt hrt hrv htv).mono ?_;rintro en w3 ⟨rfl,g2,g3,g4,g5⟩;refine ⟨Xn2 _,⟨g3,g2.os.trans hB2.os.symm,g2.tape.trans hB2.tape.symm,g2.output.trans hB2.output.symm⟩,λy hy hn=>?_,?_,g2,g4,g5⟩
 ·rcases An y w0.heap.size with h1|h1
  ·exact (g2.block y h1).trans (hB2.block y h1).symm
  ·exact g4 y (.inr ⟨h1,hy,λh=>hn (.inl h),λh=>hn (.inr (.inl h)),λh=>hn (.inr (.inr h))⟩)
 ·obtain ⟨ro1,_,_,_,⟨_,_,vs1,k0,k1⟩,_⟩:=g5;have hl:vs1.length=6:=by
   rw [←k1.1];cases (rsE (LX W n s)).1<;>rfl
  match vs1,hl,k0 with
  |[c0,c1,c2,c3,c4,c5],_,k0=>exact ⟨c0,c1,c2,c3,c4,c5,k0⟩
theorem Qc6{w w':World}{T sz n:Nat}{v:Value}{xs:List Value}(h:w.ownsRow 0 T sz v n xs)(k: ∀b,v.ownBlock=some b->w'.heap[b]? =w.heap[b]?):w'.ownsRow 0 T sz v n xs:=by
 refine ⟨h.1,?_⟩;rcases h.2 with h2|⟨g,cap,cur,rfl,h3,h4,h5⟩
 ·exact .inl h2
 ·exact .inr ⟨g,cap,cur,rfl,h3,(k g rfl).trans h4,h5⟩
theorem Zl4{str:ByteArray}{n:Nat}{W:Nat->ByteArray}{s:HS}(h:uC str n W)(hs:rB s)
  {e:UP}{w0 w:World}{T:Nat->Prop}{q r t:Nat}(hEv:G6 e w0.heap.size w)(hB:Below w0.heap.size w0 w)(hT: ∀b,T b->b<w0.heap.size/\ ¬e.ro b)
  (hq:GL e w q (.cells 100 (hsL s)))(hr:GL e w r (.row 38 1 s.xn s.xg))(ht:GL e w t (.row 9 1 s.yn s.yg))(hqr:q≠r)(hqt:q≠t)(hrt:r≠t)(hrv: ∃a b c,e.val r= .slice a b c)(htv: ∃a b c,e.val t= .slice a b c)
  (hxx: ∀i,i<s.xn-> ∀a∈s.xg i,∃u,a= .x u)(hyy: ∀i,i<s.yn-> ∀a∈s.yg i,∃u,a= .x u):
  Calls Tryz.prog 63 #[.pointer (some ⟨e.blk q,0,none⟩),.string str] w λen w'=>en= .returned (.int .i64 (LX W n s))/\Below w0.heap.size w0 w'/\w.heap.size<=w'.heap.size/\(∀x,e.ro x->w'.heap[x]? =w.heap[x]?)/\
   ∃ro1:Nat->Prop,(∀x,e.ro x->ro1 x)/\(∀x,T x-> ¬ro1 x)/\G6 {e with ro:=ro1,own:=LT e q r t} w0.heap.size w'/\
    GL {e with ro:=ro1,own:=LT e q r t} w' q (.cells 100 (hsL (if LX W n s=0 then FB W s else s)))/\GL {e with ro:=ro1,own:=LT e q r t} w' r (.row 38 1 s.xn s.xg)/\GL {e with ro:=ro1,own:=LT e q r t} w' t (.row 9 1 s.yn s.yg):=by
 refine (Zl5 h hs hEv hB hT hq hr ht hqr hqt hrt hrv htv).mono ?_;rintro en w' ⟨rfl,w2,w3,G1,e1,⟨B3,K3,ro1,R1,R2,R3,R4,R5,R6⟩,G2,G3,O1,O2,O3⟩;have hro: ∀x,e.ro x->x<w.heap.size/\x≠e.blk q:=λx hx=>⟨(hEv.apart x hx).2,λh=>by
  have h1:=(hEv.apart x hx).1;rw [h,hq.2.1] at h1;cases h1⟩
 have hqlt:e.blk q<w.heap.size:=(hEv.owned _ _ hq.2.1).2;have lt3: ∀{x},x<w.heap.size->x<w3.heap.size:=λh=>qF h (Ar G1.size G2.size)
 have hsz:w.heap.size<=w'.heap.size:=Ar (Ar G1.size G2.size) G3.size;have keep: ∀x,e.ro x->w'.heap[x]? =w.heap[x]? :=λx hx=>by
  rw [O1 x (lt3 (hro x hx).1) (hro x hx).2 (by have:=(hro x hx).1;omega),K3 x (.inl hx)]
  exact e1 x (hro x hx).1
 have b0:w0.heap.size<=e.blk q:=(hEv.owned _ _ hq.2.1).1;have hBel:Below w0.heap.size w0 w':=⟨G3.os.trans B3.os,G3.tape.trans B3.tape,G3.output.trans B3.output,Ar B3.size G3.size,λx hx=>by
  rw [O1 x (lt3 (qF hx hB.size)) VO (by have:=hB.size;omega)]
  exact B3.block x hx⟩
 refine ⟨rfl,hBel,hsz,keep,?_⟩;by_cases he:LX W n s=0
 ·have D4:=O3 he;have hb:(rsE (LX W n s)).1=true:=by rw [he];rfl
  rw [hb] at R4;rw [if_pos he];have st:Step {e with ro:=ro1,own:=LT e q r t} {e with ro:=ro1,own:=LT e q r t} w3 w':=⟨λb _ hr=>⟨hr,D4 b⟩,λk hk=>⟨hk,rfl,rfl⟩,G3.size⟩
  exact ⟨ro1,R1,R2,⟨λx hx=>⟨(R3.apart x hx).1,qF (R3.apart x hx).2 G3.size⟩,λx k hk=>⟨(R3.owned x k hk).1,qF (R3.owned x k hk).2 G3.size⟩,R3.glob.step st⟩,LO st (λx hx=>⟨hx,D4 x⟩) rfl R4,LO st (λx hx=>⟨hx,D4 x⟩) rfl R5,LO st (λx hx=>⟨hx,D4 x⟩) rfl R6⟩
 ·rw [if_neg he] at O2;rw [if_neg he];have st:Step e {e with own:=LT e q r t} w w':=⟨λb _ hr=>⟨hr,keep b hr⟩,λk hk=>⟨hk,rfl,rfl⟩,hsz⟩
  obtain ⟨ql,qo,vs,qh,qv⟩:=hq;have HC: ∀{x j},LT e q r t x=some j->w0.heap.size<=x/\x<w.heap.size:=by
   intro x j hj;unfold LT at hj;split at hj
   ·rename_i h;rw [h];exact hEv.owned _ _ qo
   split at hj
   ·rename_i h;exact hEv.owned _ _ (hr.2.1 x h)
   split at hj
   ·rename_i h;exact hEv.owned _ _ (ht.2.1 x h)
   ·cases hj
  have IA: ∀{k:Nat},k≠q->(∀b,(e.val k).ownBlock=some b->e.own b=some k)-> ∀b,(e.val k).ownBlock=some b->w'.heap[b]? =w3.heap[b]? :=by
   intro k hk ho b hb;have h1:=hEv.owned _ _ (ho b hb);refine O1 b (lt3 h1.2) (λh=>?_) (by have:=h1.2;omega)
   have h2:=ho b hb;rw [h,qo] at h2;exact hk (Bb h2).symm
  refine ⟨e.ro,λ_ h=>h,λx hx=>(hT x hx).2,⟨λx hx=>⟨?_,qF (hEv.apart x hx).2 hsz⟩,λx k hk=>⟨(HC hk).1,qF (HC hk).2 hsz⟩,hEv.glob.step st⟩,⟨ql,if_pos rfl,vs,O2.trans qh,qv.step st⟩,?_,?_⟩
  ·have h0:=(hEv.apart x hx).1;show LT e q r t x=none;unfold LT;rw [if_neg (hro x hx).2,if_neg (λh=>by rw [hr.2.1 x h] at h0;cases h0),if_neg (λh=>by rw [ht.2.1 x h] at h0;cases h0)]
  ·obtain ⟨l5,o5,f5,xs5,p5,r5⟩:=R5;refine ⟨l5,o5,f5,xs5,Qc6 p5 (IA hqr.symm hr.2.1),λi j a v O ha hv=>?_⟩
   obtain ⟨u,rfl⟩:=hxx i O a (F7 ha);rw [(r5 i j _ v O ha hv).x_inv];exact .x _
  ·obtain ⟨l6,o6,f6,xs6,p6,r6⟩:=R6;refine ⟨l6,o6,f6,xs6,Qc6 p6 (IA hqt.symm ht.2.1),λi j a v O ha hv=>?_⟩
   obtain ⟨u,rfl⟩:=hyy i O a (F7 ha);rw [(r6 i j _ v O ha hv).x_inv];exact .x _
def UP.nilAt(e:UP)(nx:Nat):UP:={ro:=e.ro,own:=e.own,live:=λk=>k=nx\/e.live k,blk:=e.blk,val:=λk=>if k=nx then .slice none 0 0 else e.val k}
theorem EU{e:UP}{nx:Nat}{w:World}(h: ¬e.live nx):Step e (UP.nilAt e nx) w w:=⟨λ_ _ h=>⟨h,rfl⟩,λk hk=>⟨.inr hk,rfl,by
 have:k≠nx:=λh'=>h (h'▸hk)
 simp [UP.nilAt,this]⟩,Am _⟩
theorem Wi4{e:UP}{nx B:Nat}{w:World}(h: ¬e.live nx)(hE:G6 e B w):G6 (UP.nilAt e nx) B w:=⟨hE.apart,hE.owned,hE.glob.step (EU h)⟩
theorem Qp7(e:UP)(nx:Nat)(w:World)(T n:Nat)(f:Nat->List AV)(h:n=0):GL (UP.nilAt e nx) w nx (.row T 1 n f):=by
 subst h;refine ⟨.inl rfl,λb hb=>?_,λi O=>absurd O (Aq i),[],?_,λi j a v O=>absurd O (Aq i)⟩
 ·simp [UP.nilAt,Value.ownBlock] at hb
 ·have:(UP.nilAt e nx).val nx= .slice none 0 0:=by simp [UP.nilAt]
  rw [this];exact World.ownsRow_nil w 0 T 1
theorem NY{e:UP}{w:World}{k T sz n:Nat}{f:Nat->List AV}(h:GL e w k (.row T sz n f)): ∃a b c,e.val k= .slice a b c:=by
 obtain ⟨_,_,_,xs,h4,_⟩:=h;rcases h4.2 with ⟨h5,_⟩|⟨g,cap,cur,h5,_⟩
 ·exact ⟨_,_,_,h5⟩
 ·exact ⟨_,_,_,h5⟩
def lnW(s:ByteArray)(k:Nat):ByteArray:=(spl s ⟨#[32]⟩).getD k ByteArray.empty
def lnN(s:ByteArray):Nat:=Lib.countB s ⟨#[32]⟩+1
theorem rG(sep:ByteArray): ∀(k:Nat) (s:ByteArray),∀x∈Lib.splitB sep 0 k s,x.size<=s.size
 | 0,s,x,hx=>by
  simp only [Lib.splitB,GS,DS,or_false] at hx;rw [hx];exact Am _
 |k+1,s,x,hx=>by
  unfold Lib.splitB at hx;split at hx
  ·simp only [GS,DS,or_false] at hx;rw [hx];exact Am _
  ·rcases GS.1 hx with rfl|hx
   ·rw [ByteArray.size_extract];omega
   ·have:=rG sep k _ x hx;rw [ByteArray.size_extract] at this;omega
section
variable (s:ByteArray)
theorem Qr0(h:s.size<100000):uC s (lnN s) (lnW s):=by
 refine ⟨h,rfl,λk _=>rfl,λk=>?_⟩
 unfold lnW;rw [List.getD_eq_getElem?_getD];cases he:(spl s ⟨#[32]⟩)[k]? with
 |none=>exact Ao _
 |some x=>
  have:=rG _ _ _ x (F7 he);show x.size<=100000;omega
def lnE(x:HS):Int:=LX (lnW s) (lnN s) x
def lnS(x:HS):HS:=if lnE s x=0 then FB (lnW s) x else x
end
def hsX(s:HS)(n:Nat)(g:Nat->List AV)(n':Nat)(g':Nat->List AV):HS:={s with xn:=n,xg:=g,yn:=n',yg:=g'}
theorem Qb3(W:Nat->ByteArray)(n:Nat)(s:HS)(k k':Nat)(g g':Nat->List AV):LX W n (hsX s k g k' g')=LX W n s:=by
 unfold LX;split<;>rfl
theorem Xg7(W:Nat->ByteArray)(s:HS)(k k':Nat)(g g':Nat->List AV):FB W (hsX s k g k' g')=hsX (FB W s) k g k' g':=by
 unfold FB;split<;>rfl
theorem Zn5{s:HS}(h:rB s)(k k':Nat)(g g':Nat->List AV):rB (hsX s k g k' g'):=⟨h.nr,h.bV,h.nc,h.sV⟩
theorem Zm1{s:HS}(h:rB s)(str:ByteArray):rB (lnS str s):=by
 unfold lnS;split
 ·rename_i h0;exact Xg6 h h0
 ·exact h
def hs0:HS:={nr:=0,ra:=λ_=>0,rb:=λ_=>0,ru:=λ_=>0,rv:=λ_=>0,pl:=760,ph:=760,nb:=0,ql:=λ_=>0,qh:=λ_=>0,qm:=λ_=>0,qr:=λ_ _=>0,qv:=λ_ _=>0,nc:=0,ca:=λ_=>0,cb:=λ_=>0,cc:=λ_=>0,cd:=λ_=>0,cv:=λ_=>false,ns:=0,sa:=λ_=>0,sb:=λ_=>0,sc:=λ_=>0,sl:=λ_=>0,sh:=λ_=>0,xn:=0,xg:=λ_=>[],yn:=0,yg:=λ_=>[] }
def sK(L:Nat->ByteArray):Nat->HS
 | 0=>hs0
 |k+1=>lnS (L k) (sK L k)
def eK(L:Nat->ByteArray)(k:Nat):Int:=lnE (L k) (sK L k)
def exG(L:Nat->ByteArray)(j:Nat):List AV:=[.x (.int .i64 (eK L j))]
theorem Zn7:rB hs0:=⟨Ao _,⟨⟨Ao _,λb hb=>absurd hb (Aq b)⟩,λb hb=>absurd hb (Aq b)⟩,Ao _,⟨Ao _,λk hk=>absurd hk (Aq k)⟩⟩
theorem rK(L:Nat->ByteArray): ∀k,rB (sK L k)
 | 0=>Zn7
 |k+1=>Zm1 (rK L k) (L k)
def AS(L:Nat->ByteArray)(N r:Nat):D7:=λavs m nx sv=>match avs with
 |[.ptr q 0,.x (.string str')]=>match DL m q with
  |some (.cells T l)=>match DL m r with
   |some (.row T1 sz1 n1 f1)=>match Nat.beq T 100&&Nat.beq T1 38&& !Nat.beq q r with
    |true=>some (.needT [n1<N,l=hsL (sK L n1),FO str'= .x (.string (L n1)),sz1=1,f1=exG L] (.leaf (.x (.int .i64 (eK L n1)),[(q,.cells 100 (hsL (sK L (n1+1)))),(r,.row 38 1 n1 (exG L))],nx+1,sv)))
    |false=>none
   |_=>none
  |_=>none
 |_=>none
theorem Wi5{L:Nat->ByteArray}{N r:Nat}(hL: ∀k,k<N->(L k).size<100000):
  GG VT 63 (AS L N r):=by
 refine ⟨(UM Tryz.func63),?_⟩;intro avs m nx sv tr ht Q hQ cx w0 T e ds args w hE hB hm hlv LU hxt hr;unfold AS at ht;split at ht
 ·rename_i q str';split at ht
  ·rename_i T l h1;split at ht
   ·rename_i T1 sz1 n1 f1 h2;split at ht
    ·rename_i hb;rw [HE,HE] at hb;obtain ⟨⟨hb1,hb2⟩,hb3⟩:=hb;obtain rfl:=H4 hb1;obtain rfl:=H4 hb2;have hqr:q≠r:=by
      rintro rfl;simp at hb3
     cases ht;obtain ⟨hn,hq⟩:=VR.sat_needT hQ;have hn:=GH hn;have e0:n1<N:=hn _ VZ;have e1:l=hsL (sK L n1):=hn _ VZ;have e2:FO str'= .x (.string (L n1)):=hn _ VZ;have e3:sz1=1:=hn _ VZ;have e5:f1=exG L:=hn _ VZ;have e2:str'=L n1:=by
      injection e2 with e2
      injection e2
     subst e1 e2 e3 e5;obtain ⟨v0,l1,rfl,r1,hr⟩:=hr.cons_inv;obtain ⟨v1,l2,rfl,r2,hr⟩:=hr.cons_inv;obtain rfl:=hr.nil_inv;obtain rfl:=r2.x_inv;have hv0:v0= .pointer (some ⟨e.blk q,0,none⟩):=by cases r1;rfl
     subst hv0;have hid: ¬e.live nx:=λh=>Bf _ (hlv _ h)
     have hQ0:=hm _ (G5 h1);have hR0:=hm _ (G5 h2);have hqn:q≠nx:=λh=>hid (h▸hQ0.1)
     have hrn:r≠nx:=λh=>hid (h▸hR0.1)
     have st0:=EU (w:=w) hid;have hQ1:GL (UP.nilAt e nx) w q (.cells 100 (hsL (sK L n1))):=LO st0 (λx hx=>⟨hx,rfl⟩) rfl hQ0
     have hR1:GL (UP.nilAt e nx) w r (.row 38 1 n1 (exG L)):=LO st0 (λx hx=>⟨hx,rfl⟩) rfl hR0
     have hT1:=Qp7 e nx w 9 0 (λ_=>[]) rfl
     have h:=Qr0 _ (hL n1 e0);have hs:=Zn5 (rK L n1) n1 0 (exG L) (λ_=>[])
     have hxx: ∀i,i<n1-> ∀a∈exG L i,∃u,a= .x u:=λi _ a ha=>⟨_,B9.1 ha⟩
     refine (Zl4 h hs (Wi4 hid hE) hB LU hQ1 hR1 hT1 hqr hqn hrn (NY hR1) (NY hT1) hxx (λi O=>absurd O (Aq i))).mono ?_
     rintro en w' ⟨rfl,g1,g2,g3,ro1,g4,g5,g6,g7,g8,g9⟩;have st:Step e {UP.nilAt e nx with ro:=ro1,own:=LT (UP.nilAt e nx) q r nx} w w':=⟨λb _ hb=>⟨g4 b hb,g3 b hb⟩,λk hk=>⟨.inr hk,rfl,(st0.live k hk).2.2⟩,g2⟩
     rw [Qb3,Xg7] at g7;have g7:GL {UP.nilAt e nx with ro:=ro1,own:=LT (UP.nilAt e nx) q r nx} w' q (.cells 100 (hsL (sK L (n1+1)))):=by
      show GL _ w' q (.cells 100 (hsL (lnS (L n1) (sK L n1))));unfold lnS lnE;by_cases h0:LX (lnW (L n1)) (lnN (L n1)) (sK L n1)=0
      ·rw [if_pos h0] at g7 ⊢;exact g7
      ·rw [if_neg h0] at g7 ⊢;exact g7
     rw [Qb3];refine ⟨_,_,_,_,_,{UP.nilAt e nx with ro:=ro1,own:=LT (UP.nilAt e nx) q r nx},rfl,hq,g6,g1,?_,?_,λb hb=>⟨(LU b hb).1,g5 b hb⟩,hxt.step st,.x _⟩
     ·intro p hp;simp only [GS,DS,or_false] at hp;rcases hp with rfl|rfl
      ·exact g7
      ·exact g8
     ·rintro k (rfl|hk)
      ·exact Bk _
      ·exact Nat.lt_succ_of_lt (hlv k hk)
    ·cases ht
   ·cases ht
  ·cases ht
 ·cases ht
open Go Go.Sx Go.RowKit Bo
def cvB:GU->GU
 | .cells T [.x (.slice none 0 0),.x (.int .i64 a),.x (.int .i64 b),.x (.slice none 0 0),.x (.slice none 0 0),.x (.slice none 0 0)]=> .cells T [hsR hs0,i a,i b,hsB hs0,hsC hs0,hsS hs0]
 |r=>r
def cvM:H9->H9
 |[]=>[]
 |(k,r)::t=>(k,cvB r)::cvM t
noncomputable def Qa4:D7:=λavs m nx sv=>match nR avs m nx sv with
 |some t=>some (t.bind λp=> .leaf (p.1,cvM p.2.1,p.2.2.1,p.2.2.2))
 |none=>none
theorem Zp7{e:UP}{w:World}{k:Nat}{r:GU}(h:GL e w k r):GL e w k (cvB r):=by
 unfold cvB;split
 ·rename_i T a b;obtain ⟨h1,h2,vs,h3,h4⟩:=h;refine ⟨h1,h2,vs,h3,?_⟩;obtain ⟨u0,us,rfl,r0,h4⟩:=h4.cons_inv;obtain ⟨u1,us,rfl,r1,h4⟩:=h4.cons_inv;obtain ⟨u2,us,rfl,r2,h4⟩:=h4.cons_inv;obtain ⟨u3,us,rfl,r3,h4⟩:=h4.cons_inv;obtain ⟨u4,us,rfl,r4,h4⟩:=h4.cons_inv;obtain ⟨u5,us,rfl,r5,h4⟩:=h4.cons_inv;obtain rfl:=h4.nil_inv;obtain rfl:=r0.x_inv;obtain rfl:=r3.x_inv;obtain rfl:=r4.x_inv;obtain rfl:=r5.x_inv;exact .cons (.lstNil _ _) (.cons r1 (.cons r2 (.cons (.lstNil _ _) (.cons (.lstNil _ _) (.cons (.lstNil _ _) (.nil _ _))))))
 ·exact h
theorem Wv7{e:UP}{w:World}: ∀{m:H9},UZ e m w->UZ e (cvM m) w
 |[],_,p,hp=>by cases hp
 |(k,r)::t,h,p,hp=>by
  rcases GS.1 hp with rfl|hp
  ·exact Zp7 (h (k,r) GK)
  ·exact Wv7 (m:=t) (λq hq=>h q (HX _ hq)) p hp
theorem Qh2:GG VT 62 Qa4:=by
 refine ⟨IH.1,?_⟩;intro avs m nx sv t ht Q hQ c w0 T e ds args w hE hB hm hl LU hxt hr;unfold Qa4 at ht;split at ht
 ·rename_i t0 h0;cases ht;refine (IH.2 _ _ _ _ _ h0 _ (VR.sat_bind hQ) c w0 T e ds args w hE hB hm hl LU hxt hr).mono ?_;rintro en w' ⟨v,r,m',nx',sv',e',q1,q2,q3,q4,q5,q6,q7,q8,q9⟩;exact ⟨v,r,cvM m',nx',sv',e',q1,q2,q3,q4,Wv7 q5,q6,q7,q8,q9⟩
 ·cases ht
theorem iD{L:Nat->ByteArray}{n:Nat}(h: ∀k,k<n->(L k).size<100000):GG VT 63 (AS L n 902):=Wi5 h
abbrev KS:AV:=lst 3 0 λk=>[iI (hs0.ql k),iI (hs0.qh k),lst 2 0 λj=>[iI (hs0.qr k j),iI (hs0.qv k j)]]
section
variable (n:Nat)(L:Nat->ByteArray)
def Zt3:St:={σ:=[Q8 n L,top,QD,QH,ptr 900 0,top,top,top,top,Q8 n L,iI (n:Int)]++HO 13 [],m:=[(902,GU.row 38 1 0 λx=>[]),(900,GU.cells 100 [hR 0 hs0,iI 760,iI 760,KS,hC 0 hs0,hT 0 hs0])],nx:=903}
noncomputable def Js6:Code:=UE (VX (UB Tryz.f33) 0)
def Wl6(k:Nat):St:={σ:=H6 [(4,.ptr 900 0),(5,.row 902),(7,.top),(11,i k)] (Zt3 n L).σ,m:=[(902,.row 38 1 k (exG L)),(900,.cells 100 (hsL (sK L k)))],nx:=903}
def E1(k:Nat):GB->Option St
 | .exit 0=>some {σ:=H6 [(4,.ptr 900 0),(5,.row 902),(7,.top),(11,i n)] (Zt3 n L).σ,m:=[(902,.row 38 1 n (exG L)),(900,.cells 100 (hsL (sK L n)))],nx:=903}
 |_=>none
def Jo2:CT:= .leaf (.exit 0,(E1 n L 0 (.exit 0)).getD (Zt3 n L))
def Xz3:UN:=GO [(.slot 4,900,0,2),(.slot 5,902,38,1)] (HM (Wl6 n L (0)) (Jo2 n L))
end
abbrev Y8:Prop:=ptr 900 0=ptr 900 0
noncomputable abbrev V2(L:Nat->ByteArray)(n:Nat):Ext:={R:=[],H:=[(62,Qa4),(63,(AS L n 902))] }
section
variable (n:Nat)(L:Nat->ByteArray)
theorem Je3(VW:n<=50)(UK: ∀k,k<n->(L k).size<100000):GC VT (.loop Js6) (Xz3 n L):=by
 refine G7 [(.slot 4,900,0,2),(.slot 5,902,38,1)] (L:=[]) Aa (Ai Ab (Ag Qh2 (Ag (iD UK) Ac))) U3 U8 (X:=Nat) (Wl6 n L) (λk=>k<=n) (λk=>n-k) (E1 n L) (x0:=0) VZ ?_ ?_ ?_
 ·rintro k;kernel_rfl
 ·rintro k y E h;unfold E1 at h;split at h
  ·cases h;kernel_rfl
  ·cases h
 ·rintro Q hQ k hx;refine ⟨(k+1),?_⟩;(with_reducible refine DN (t:=branch (decide ((k:Int)<(n:Int))) (need [UO k n] (need [k<n,U4 ([lst 4 ((sK L k).nr) λk_1=>[iI ((sK L k).ra k_1),iI ((sK L k).rb k_1),iI ((sK L k).ru k_1),iI ((sK L k).rv k_1)],iI ((sK L k).pl),iI ((sK L k).ph),lst 3 ((sK L k).nb) λk_1=>[iI ((sK L k).ql k_1),iI ((sK L k).qh k_1),lst 2 ((sK L k).qm k_1) λj=>[iI ((sK L k).qr k_1 j),iI ((sK L k).qv k_1 j)]],lst 5 ((sK L k).nc) λk_1=>[iI ((sK L k).ca k_1),iI ((sK L k).cb k_1),iI ((sK L k).cc k_1),iI ((sK L k).cd k_1),AV.x (.bool ((sK L k).cv k_1))],lst 5 ((sK L k).ns) λk_1=>[iI ((sK L k).sa k_1),iI ((sK L k).sb k_1),iI ((sK L k).sc k_1),iI ((sK L k).sl k_1),iI ((sK L k).sh k_1)]]),U4 (FO (L k)),1=1,exG L=exG L] (need [(k+1)*8<=140737488355328,L1 1 (UA 1 [iI (eK L k)])] (need [VQ ((k:Int)+1)] (need [U4 (Q8 n L),QD=QD,QH=QH,Y8,WJ,U4 (Q8 n L),U4 (n:Int),(k:Int)+1=(↑(k+1):Int),k+1=k+1,H2 (k+1) (GM k (exG L) (UA 1 [iI (eK L k)])) (exG L),U4 (lst 4 ((sK L (k+1)).nr) λk_1=>[iI ((sK L (k+1)).ra k_1),iI ((sK L (k+1)).rb k_1),iI ((sK L (k+1)).ru k_1),iI ((sK L (k+1)).rv k_1)]),U4 ((sK L (k+1)).pl),U4 ((sK L (k+1)).ph),U4 (lst 3 ((sK L (k+1)).nb) λk_1=>[iI ((sK L (k+1)).ql k_1),iI ((sK L (k+1)).qh k_1),lst 2 ((sK L (k+1)).qm k_1) λj=>[iI ((sK L (k+1)).qr k_1 j),iI ((sK L (k+1)).qv k_1 j)]]),U4 (lst 5 ((sK L (k+1)).nc) λk_1=>[iI ((sK L (k+1)).ca k_1),iI ((sK L (k+1)).cb k_1),iI ((sK L (k+1)).cc k_1),iI ((sK L (k+1)).cd k_1),AV.x (.bool ((sK L (k+1)).cv k_1))]),U4 (lst 5 ((sK L (k+1)).ns) λk_1=>[iI ((sK L (k+1)).sa k_1),iI ((sK L (k+1)).sb k_1),iI ((sK L (k+1)).sc k_1),iI ((sK L (k+1)).sl k_1),iI ((sK L (k+1)).sh k_1)])] (leaf GB.normal)))))) (need [U4 (Q8 n L),QD=QD,QH=QH,Y8,WJ,U4 (Q8 n L),U4 (n:Int),(k:Int)=(n:Int),k=n,GV n (exG L),(lst 4 ((sK L k).nr) λk_1=>[iI ((sK L k).ra k_1),iI ((sK L k).rb k_1),iI ((sK L k).ru k_1),iI ((sK L k).rv k_1)])=hR ((sK L n).nr) (sK L n),(sK L k).pl=(sK L n).pl,(sK L k).ph=(sK L n).ph,(lst 3 ((sK L k).nb) λk_1=>[iI ((sK L k).ql k_1),iI ((sK L k).qh k_1),lst 2 ((sK L k).qm k_1) λj=>[iI ((sK L k).qr k_1 j),iI ((sK L k).qv k_1 j)]])=hY ((sK L n).nb) (sK L n),(lst 5 ((sK L k).nc) λk_1=>[iI ((sK L k).ca k_1),iI ((sK L k).cb k_1),iI ((sK L k).cc k_1),iI ((sK L k).cd k_1),AV.x (.bool ((sK L k).cv k_1))])=hC ((sK L n).nc) (sK L n),(lst 5 ((sK L k).ns) λk_1=>[iI ((sK L k).sa k_1),iI ((sK L k).sb k_1),iI ((sK L k).sc k_1),iI ((sK L k).sl k_1),iI ((sK L k).sh k_1)])=hT ((sK L n).ns) (sK L n)] (leaf (GB.exit 0)))) VY ?_)
  simp only [Jo2,E1,VR.sat,GZ] at hQ;simp only [VR.sat,UF,GA,GR,UI,VQ,UL,HD,RF,RG,L9,GT,E1]
  refine ⟨λh=>?_,λh=>?_⟩
  ·have hk:k<n:=VO;have hq: ∀j,j<k+1->GM k (exG L) (UA 1 [i (eK L k)]) j=exG L j:=λj hj=>Pt.catF1 (a:=eK L) hj rfl
   (with_reducible repeat' first|apply Al|intro _)
   all_goals first|exact PU|(first|exact hq _ (by assumption)|exact FU (by assumption) (by simp [AV.one,Value.oneCell']))
  ·obtain rfl:k=n:=VO
   (with_reducible repeat' first|apply Al|intro _)
   all_goals first|exact PU|(assumption)
theorem l9(VW:n<=50)(UK: ∀k,k<n->(L k).size<100000):US VT 33 [lns n L] (.leaf (.tup [.ro (hsL (sK L n)),.lst 1 n (exG L)])):=by
 refine GX (L:=[Xz3 n L]) Aa (Ai Ab (Ag Qh2 (Ag (iD UK) Ac))) U3 Tryz.func33 (UY Tryz.f33) (G4 (lpE (b:= .loop Js6) VY<|(Je3 n L VW UK).N)) (t:=need [U4 (Q8 n L),QD=QD,QH=QH,Y8,WJ,U4 (Q8 n L),U4 (n:Int),(0:Int)=(↑(0:Nat):Int),0=0,H2 0 (λi=>[]) (exG L),(hR 0 hs0)=hR 0 (sK L 0),(760:Int)=(sK L 0).pl,(760:Int)=(sK L 0).ph,(KS)=lst 3 0 λk=>[iI ((sK L 0).ql k),iI ((sK L 0).qh k),lst 2 0 λj=>[iI ((sK L 0).qr k j),iI ((sK L 0).qv k j)]],(hC 0 hs0)=hC 0 (sK L 0),(hT 0 hs0)=hT 0 (sK L 0)] (leaf (tup [AV.ro (hL (sK L n)),lst 1 n λj=>[iI (eK L j)]]))) VY ?_
 intro Q hQ;simp only [VR.sat,UF,UL,VQ,DR] at hQ ⊢
 (with_reducible repeat' first|apply Al|intro _)
 all_goals first|exact Ak|omega|rfl|assumption|exact ⟨.tup [.ro (hsL (sK L n)),.lst 1 n (exG L)],⟨rfl,⟨rfl,rfl,λ_ _=>rfl⟩,Ak⟩,hQ⟩
end
def baG(s:HS)(k:Nat):List AV:=[i (s.ql k),i (s.qh k),.lst 2 (s.qm k) (λj=>[i (s.qr k j),i (s.qv k j)])]
def hsN(s:HS):Prop:=s.nr<=1000/\s.nb<=1000/\s.nc<=1000/\s.ns<=1000/\ ∀b,b<s.nb->s.qm b<=1000
theorem Jj3(n:Nat)(a b u v:Nat->Int):gdX 4 n (λk=>[i (a k),i (b k),i (u k),i (v k)]):=λk _=>⟨rfl,λx hx=>by
 simp only [GS,DS,or_false] at hx;rcases hx with rfl|rfl|rfl|rfl<;>exact ⟨Ak,by simp [AV.one,Value.oneCell']⟩⟩
theorem Jj4(n:Nat)(a b c d:Nat->Int)(v:Nat->Bool):gdX 5 n (λk=>[i (a k),i (b k),i (c k),i (d k),bl (v k)]):=λk _=>⟨rfl,λx hx=>by
 simp only [GS,DS,or_false] at hx;rcases hx with rfl|rfl|rfl|rfl|rfl<;>exact ⟨Ak,by simp [AV.one,Value.oneCell']⟩⟩
theorem Jj2(n:Nat)(a b c d v:Nat->Int):gdX 5 n (λk=>[i (a k),i (b k),i (c k),i (d k),i (v k)]):=λk _=>⟨rfl,λx hx=>by
 simp only [GS,DS,or_false] at hx;rcases hx with rfl|rfl|rfl|rfl|rfl<;>exact ⟨Ak,by simp [AV.one,Value.oneCell']⟩⟩
theorem Jj1(n:Nat)(a b:Nat->Int):gdX 2 n (λk=>[i (a k),i (b k)]):=λk _=>⟨rfl,λx hx=>by
 simp only [GS,DS,or_false] at hx;rcases hx with rfl|rfl<;>exact ⟨Ak,by simp [AV.one,Value.oneCell']⟩⟩
theorem Zq3{s:HS}{k j:Nat}(hj:j<k+1):GM k (baG s) (UA 3 [i (s.ql k),i (s.qh k),.lst 2 (s.qm k) (λj=>[i (s.qr k j),i (s.qv k j)])]) j=baG s j:=by
 rcases (show j<k\/j=k by omega) with h|rfl
 ·show HG (decide (j<k)) _ _=_;rw [decide_eq_true h,show j-k=0 by omega]
  rfl
 ·show HG (decide (j<j)) _ _=_;rw [show decide (j<j)=false by simp,Bs]
  rfl
section
variable (s:HS)
def Zu9:St:={σ:=[agg (hL s),ptr 0 0,ptr 1 0,ptr 900 0]++HO 15 [hY s.nb s,iI (↑s.nb:Int)]++HO 17 [],m:=[(901,GU.row 75 3 0 λx=>[]),(900,GU.cells 32 [hR s.nr s,iI s.pl,iI s.ph,AV.row 901,hC s.nc s,hT s.ns s]),(1,GU.cells 32 [QH,iI 0,iI 0,QH,QH,QH]),(0,GU.cells 32 (hL s))],nx:=902}
noncomputable def Ju3:Code:=UE (VX (UB Tryz.f34) 0)
def Wn6(k:Nat):St:={σ:=H6 [(3,.ptr 900 0),(5,.top),(21,i k)] (Zu9 s).σ,m:=[(901,.row 75 3 k (baG s)),(900,.cells 32 [hsR s,i s.pl,i s.ph,.row 901,hsC s,hsS s]),(1,(.cells 32 [.x (.slice none 0 0),i 0,i 0,.x (.slice none 0 0),.x (.slice none 0 0),.x (.slice none 0 0)])),(0,.cells 32 (hsL s))],nx:=902}
def EI(k:Nat):GB->Option St
 | .exit 0=>some {σ:=H6 [(3,.ptr 900 0),(5,.top),(21,i s.nb)] (Zu9 s).σ,m:=[(901,.row 75 3 s.nb (baG s)),(900,.cells 32 [hsR s,i s.pl,i s.ph,.row 901,hsC s,hsS s]),(1,(.cells 32 [.x (.slice none 0 0),i 0,i 0,.x (.slice none 0 0),.x (.slice none 0 0),.x (.slice none 0 0)])),(0,.cells 32 (hsL s))],nx:=902}
 |_=>none
def Jq2:CT:= .leaf (.exit 0,(EI s 0 (.exit 0)).getD (Zu9 s))
def Zb6:UN:=GO [(.slot 3,900,0,2),(.cell 900 3,901,75,3)] (HM (Wn6 s (0)) (Jq2 s))
abbrev Y9:List (Nat×G0):=[(64,tN),(65,tO),(66,tM),(67,tL)]
theorem Jl2(VW:hsN s):GC VT (.loop Ju3) (Zb6 s):=by
 refine G7 [(.slot 3,900,0,2),(.cell 900 3,901,75,3)] (L:=[]) (Ae Qf2 (Ae Qf3 (Ae Qf1 (Ae Qf0 Aa)))) Ad U3 U8 (X:=Nat) (Wn6 s) (λk=>k<=s.nb) (λk=>s.nb-k) (EI s) (x0:=0) VZ ?_ ?_ ?_
 ·rintro k;kernel_rfl
 ·rintro k y E h;unfold EI at h;split at h
  ·cases h;kernel_rfl
  ·cases h
 ·rintro Q hQ k hx;refine ⟨(k+1),?_⟩;(with_reducible refine DN (t:=let z0:=(lst 2 (s.qm k) λj=>[iI (s.qr k j),iI (s.qv k j)]);(branch (decide ((k:Int)<(↑s.nb:Int))) (need [UO k s.nb] (need [s.qm k<=100000,gdX 2 (s.qm k) λj=>[iI (s.qr k j),iI (s.qv k j)]] (need [(k+1)*40<=140737488355328,L1 1 (UA 3 [iI (s.ql k),iI (s.qh k),z0])] (need [VQ ((k:Int)+1)] (need [U4 (agg (hL s)),QS,Z6,Y8,XY s,U4 (↑s.nb:Int),(k:Int)+1=(↑(k+1):Int),k+1=k+1,H2 (k+1) (GM k (baG s) (UA 3 [iI (s.ql k),iI (s.qh k),z0])) (baG s),XJ s,JU s,JV s,WI,XQ s,XR s,QH=QH,QY,QY,QH=QH,QH=QH,QH=QH,XJ s,JU s,JV s,XY s,XQ s,XR s] (leaf GB.normal)))))) (need [U4 (agg (hL s)),QS,Z6,Y8,XY s,U4 (↑s.nb:Int),(k:Int)=(↑s.nb:Int),k=s.nb,∀(i:Nat),i<s.nb->baG s i=baG s i,XJ s,JU s,JV s,WI,XQ s,XR s,QH=QH,QY,QY,QH=QH,QH=QH,QH=QH,XJ s,JU s,JV s,XY s,XQ s,XR s] (leaf (GB.exit 0))))) VY ?_)
  simp only [Jq2,EI,VR.sat,GZ] at hQ;simp only [VR.sat,UF,GA,GR,UI,VQ,UL,HD,RF,RG,L9,GT,EI]
  obtain ⟨h1,h2,h3,h4,h5⟩:=VW;refine ⟨λh=>?_,λh=>?_⟩
  ·have hk:k<s.nb:=VO;have h6:=h5 k hk
   (with_reducible repeat' first|apply Al|intro _)
   all_goals first|exact PU|(first|exact Jj1 _ _ _|exact FU (by assumption) (by simp [AV.one,Value.oneCell'])|exact Zq3 (by assumption))
  ·obtain rfl:k=s.nb:=VO;exact V4
theorem sG(VW:hsN s):US VT 34 [.agg (hsL s)] (.leaf (.agg (hsL s))):=by
 refine GX (L:=[Zb6 s]) (Ae Qf2 (Ae Qf3 (Ae Qf1 (Ae Qf0 Aa)))) Ad U3 Tryz.func34 (UY Tryz.f34) (G4 (lpE (b:= .loop Ju3) VY<|(Jl2 s VW).N)) (t:=need [s.nr<=100000,gdX 4 s.nr λk=>[Bo.i (s.ra k),Bo.i (s.rb k),Bo.i (s.ru k),Bo.i (s.rv k)]] (need [s.nc<=100000,gdX 5 s.nc λk=>[i (s.ca k),i (s.cb k),i (s.cc k),i (s.cd k),bl (s.cv k)]] (need [s.ns<=100000,gdX 5 s.ns λk=>[i (s.sa k),i (s.sb k),i (s.sc k),i (s.sl k),i (s.sh k)]] (need [U4 (agg (hL s)),QS,Z6,Y8,XY s,U4 (↑s.nb:Int),(0:Int)=(↑(0:Nat):Int),0=0,H2 0 (λi=>[]) (baG s),XJ s,JU s,JV s,WI,XQ s,XR s,QH=QH,QY,QY,QH=QH,QH=QH,QH=QH,XJ s,JU s,JV s,XY s,XQ s,XR s] (leaf (agg (hL s))))))) VY ?_
 intro Q hQ;simp only [VR.sat,UF,UL,VQ,DR] at hQ ⊢;obtain ⟨h1,h2,h3,h4,h5⟩:=VW
 (with_reducible repeat' first|apply Al|intro _)
 all_goals first|exact Ak|omega|exact Jj3 _ _ _ _ _|exact Jj4 _ _ _ _ _ _|exact Jj2 _ _ _ _ _ _|rfl|assumption|(rename_i h;exact absurd h (Aq _))|exact ⟨.agg (hsL s),⟨⟨rfl,rfl,λ_ _=>rfl⟩,⟨rfl,rfl⟩,⟨rfl,rfl⟩,⟨rfl,rfl,λ_ _=>rfl⟩,⟨rfl,rfl,λ_ _=>rfl⟩,⟨rfl,rfl,λ_ _=>rfl⟩,Ak⟩,hQ⟩
end
section
variable (n:Nat)(a b c U O:Nat->Int)
def hoS(ow Z:Int):Int×Int:=hoF n a b c (eD n a b c U O (2^n)) (lS n a b c U O (2^n-1)) ow Z (2^n)
theorem Qp2(ow Z:Int)(VW:sV n a b c U O):US VT 11 [.agg [i 4,i 10,sls n a b c U O],i ow,i Z] (.branch (bt 0 ow 3&&bt 0 Z 100) (.branch (!jF n a b c U O) (.leaf (.tup [.agg [i 0,i 0],i 9])) (.leaf (.tup [.agg [i (hoS n a b c U O ow Z).1,i (hoS n a b c U O ow Z).2],i 0]))) (.leaf (.tup [.agg [i 0,i 0],i 2]))):=by
 refine GX (L:=[]) (Ae zU (Ae AH (Ae (vV n a b c U O (eD n a b c U O (2^n)) (lS n a b c U O (2^n-1)) VW) Aa))) (Aj Ab Ac (Ah (vQ n a b c U O VW) (UG.nil _))) U3 Tryz.func11 (UY Tryz.f11) G9 (t:=let z6:=(lst 1 (2^n) λz=>[iI (eD n a b c U O (2^n) z)]);let z5:=(lst 1 (2^n) λz=>[iI (lS n a b c U O (2^n-1) z)]);let S:=(hoF n a b c (eD n a b c U O (2^n)) (lS n a b c U O (2^n-1)) ow Z (2^n));let z4:=(leaf (tup [agg [iI (Prod.fst S),iI (Prod.snd S)],iI 0]));let z0:=(need [AV.x (YA)=AV.ro [iI 4,iI 10,Q0 n a b c U O,z6,z5],(0:Int)<=ow/\ow<4] z4);let I:=(branch (!jF n a b c U O) (branch ((9:Int) != 0) (leaf (tup [agg JS,iI 9])) z0) (branch ((0:Int) != 0) (leaf (tup [agg JS,iI 0])) (need [U4 (AV.ro [iI 4,iI 10,Q0 n a b c U O,z6,z5]),(0:Int)<=ow/\ow<4] z4)));let z3:=(branch ((2:Int) != 0) (leaf (tup [agg JS,iI 2])) z0);(need [VQ ((4:Int)-1)] (branch (bt (0:Int) ow ((4:Int)-1)) (need [QP n a b c U O] (branch (!bt (0:Int) Z (100:Int)) z3 I)) (need [QP n a b c U O] (branch (!false) z3 I))))) VY ?_
 intro Q hQ;simp only [VR.sat,UF,UL] at hQ ⊢;have rp: ∀x y z:Int,FL (.tup [.agg [i x,i y],i z]) (.tup [.agg [i x,i y],i z]):=λx y z=>⟨⟨⟨rfl,rfl⟩,⟨rfl,rfl⟩,Ak⟩,⟨rfl,rfl⟩,Ak⟩
 rw [show (4:Int)-1=3 from rfl];cases h1:bt 0 ow 3<;>cases h2:bt 0 Z 100<;>cases h3:jF n a b c U O<;>rw [h1,h2] at hQ<;>rw [h3] at hQ;all_goals (with_reducible repeat' first|apply Al|intro _)
 all_goals first
  |(simp only [VQ];omega)
  |(exfalso;rename_i h;revert h;decide)
  |(exfalso;rename_i h _;revert h;decide)
  |(exfalso;rename_i h _ _;revert h;decide)
  |(exfalso;rename_i h _ _ _;revert h;decide)
  |(have:=(Bo.bt_iff _ _ _).1 h1;omega)
  |exact ⟨_,rp _ _ _,hQ.2 rfl⟩
  |exact ⟨_,rp _ _ _,(hQ.1 rfl).1 rfl⟩
  |exact ⟨_,rp _ _ _,(hQ.1 rfl).2 rfl⟩
def caB(Z:Int)(ow:Nat):Bool:=decide ((hoS n a b c U O ow Z).2>0)
def suB(Z:Int)(ow:Nat):Bool:=decide ((hoS n a b c U O ow Z).1>0)
def Qa9(Z:Int):St:={σ:=[agg (ZU n a b c U O),iI Z,ptr 0 0,top,top,top,iI 0,AV.ro [iI 4,iI 10,Q0 n a b c U O,lst 1 (2^n) λz=>[iI (eD n a b c U O (2^n) z)],lst 1 (2^n) λz=>[iI (lS n a b c U O (2^n-1) z)]]]++HO 13 [iI 4]++HO 24 [],m:=[(902,YB),(901,YB),(0,GU.cells 42 (ZU n a b c U O))],nx:=903}
noncomputable def Qx2:Code:=UE (VX (UB Tryz.f39) 0)
def I3(Z:Int)(k:Nat):St:={σ:=H6 [(4,.row 901),(5,.row 902),(8,.top),(9,.top),(22,i k)] (Qa9 n a b c U O Z).σ,m:=[(902,.row 3 1 (GE (suB n a b c U O Z) (k)) (λz=>[i (UX (suB n a b c U O Z) 4 z)])),(901,.row 3 1 (GE (caB n a b c U O Z) (k)) (λz=>[i (UX (caB n a b c U O Z) 4 z)])),(0,.cells 42 [i 4,i 10,sls n a b c U O])],nx:=903}
def qR(Z:Int)(k:Nat):GB->Option St
 | .exit 0=>some {σ:=H6 [(4,.row 901),(5,.row 902),(8,.top),(9,.top),(22,i 4)] (Qa9 n a b c U O Z).σ,m:=[(902,.row 3 1 (GE (suB n a b c U O Z) (4)) (λz=>[i (UX (suB n a b c U O Z) 4 z)])),(901,.row 3 1 (GE (caB n a b c U O Z) (4)) (λz=>[i (UX (caB n a b c U O Z) 4 z)])),(0,.cells 42 [i 4,i 10,sls n a b c U O])],nx:=903}
 |_=>none
def Wz5(Z:Int):CT:= .leaf (.exit 0,(qR n a b c U O Z 0 (.exit 0)).getD (Qa9 n a b c U O Z))
def nJ(Z:Int):UN:=GO [(.slot 4,901,3,1),(.slot 5,902,3,1)] (HM (I3 n a b c U O Z (0)) (Wz5 n a b c U O Z))
theorem Wf2(Z:Int)(VW:sV n a b c U O):GC VT (.loop Qx2) (nJ n a b c U O Z):=by
 refine j7 [(.slot 4,901,3,1),(.slot 5,902,3,1)] (L:=[]) (Ae AH (Ae (vV n a b c U O (eD n a b c U O (2^n)) (lS n a b c U O (2^n-1)) VW) Aa)) U3 U8 (X:=Nat) (I3 n a b c U O Z) (λk=>k<=4) (λk=>4-k) (qR n a b c U O Z) (x0:=0) VZ ?_ ?_ ?_
 ·rintro k;kernel_rfl
 ·rintro k y E h;unfold qR at h;split at h
  ·cases h;kernel_rfl
  ·cases h
 ·rintro Q hQ k hx;refine ⟨(k+1),?_⟩;(with_reducible refine DN (t:=let z0:=(U4 (AV.ro [iI 4,iI 10,Q0 n a b c U O,lst 1 (2^n) λz=>[iI (eD n a b c U O (2^n) z)],lst 1 (2^n) λz=>[iI (lS n a b c U O (2^n-1) z)]]));let I:=suB n a b c U O Z;let S:=caB n a b c U O Z;let z3:=(hoF n a b c (eD n a b c U O (2^n)) (lS n a b c U O (2^n-1)) (k:Int) Z (2^n));let z4:=(UA 1 [iI (k:Int)]);let z5:=QP n a b c U O;let z6:=W5 n a b c U O;(branch (decide ((k:Int)<4)) (need [z0,(0:Int)<=(k:Int)/\(k:Int)<4] (branch (decide (Prod.snd z3>0)) (need [(GE (S) k+1)*8<=140737488355328,L1 1 (UA 1 [iI (k:Int)])] (branch (decide (Prod.fst z3>0)) (need [(GE (I) k+1)*8<=140737488355328,L1 1 (UA 1 [iI (k:Int)])] (need [VQ ((k:Int)+1)] (need [z5,Z=Z,QS,WI,WJ,QY,z0,W0,(k:Int)+1=(↑(k+1):Int),GE (I) k+1=GE (I) (k+1),∀(i:Nat),i<GE (I) (k+1)->GM (GE (I) k) (λz=>[iI (↑(UX (I) 4 z):Int)]) z4 i=[iI (↑(UX (I) 4 i):Int)],GE (S) k+1=GE (S) (k+1),∀(i:Nat),i<GE (S) (k+1)->GM (GE (S) k) (λz=>[iI (↑(UX (S) 4 z):Int)]) z4 i=[iI (↑(UX (S) 4 i):Int)],W0,WB,z6] (leaf GB.normal)))) (need [VQ ((k:Int)+1)] (need [z5,Z=Z,QS,WI,WJ,QY,z0,W0,(k:Int)+1=(↑(k+1):Int),GE (I) k=GE (I) (k+1),∀(i:Nat),i<GE (I) (k+1)->[iI (↑(UX (I) 4 i):Int)]=[iI (↑(UX (I) 4 i):Int)],GE (S) k+1=GE (S) (k+1),∀(i:Nat),i<GE (S) (k+1)->GM (GE (S) k) (λz=>[iI (↑(UX (S) 4 z):Int)]) z4 i=[iI (↑(UX (S) 4 i):Int)],W0,WB,z6] (leaf GB.normal))))) (branch (decide (Prod.fst z3>0)) (need [(GE (I) k+1)*8<=140737488355328,L1 1 (UA 1 [iI (k:Int)])] (need [VQ ((k:Int)+1)] (need [z5,Z=Z,QS,WI,WJ,QY,z0,W0,(k:Int)+1=(↑(k+1):Int),GE (I) k+1=GE (I) (k+1),∀(i:Nat),i<GE (I) (k+1)->GM (GE (I) k) (λz=>[iI (↑(UX (I) 4 z):Int)]) z4 i=[iI (↑(UX (I) 4 i):Int)],GE (S) k=GE (S) (k+1),∀(i:Nat),i<GE (S) (k+1)->[iI (↑(UX (S) 4 i):Int)]=[iI (↑(UX (S) 4 i):Int)],W0,WB,z6] (leaf GB.normal)))) (need [VQ ((k:Int)+1)] (need [z5,Z=Z,QS,WI,WJ,QY,z0,W0,(k:Int)+1=(↑(k+1):Int),GE (I) k=GE (I) (k+1),∀(i:Nat),i<GE (I) (k+1)->[iI (↑(UX (I) 4 i):Int)]=[iI (↑(UX (I) 4 i):Int)],GE (S) k=GE (S) (k+1),∀(i:Nat),i<GE (S) (k+1)->[iI (↑(UX (S) 4 i):Int)]=[iI (↑(UX (S) 4 i):Int)],W0,WB,z6] (leaf GB.normal)))))) (need [z5,Z=Z,QS,WI,WJ,QY,z0,W0,(k:Int)=4,GE (I) k=GE (I) 4,∀(i:Nat),i<GE (I) 4->[iI (↑(UX (I) 4 i):Int)]=[iI (↑(UX (I) 4 i):Int)],GE (S) k=GE (S) 4,∀(i:Nat),i<GE (S) 4->[iI (↑(UX (S) 4 i):Int)]=[iI (↑(UX (S) 4 i):Int)],W0,WB,z6] (leaf (GB.exit 0))))) VY ?_)
  simp only [Wz5,qR,VR.sat,GZ] at hQ;simp only [VR.sat,UF,GA,GR,UI,VQ,UL,HD,RF,RG,L9,GT,qR]
  have hB: ∀(p:Nat->Bool) (k:Nat),GE p k<=k:=bB;have b1:=hB (caB n a b c U O Z) k;have b2:=hB (suB n a b c U O Z) k;refine ⟨λh=>?_,λh=>?_⟩
  ·have hk:k<4:=VO;have hq: ∀(p:Nat->Bool),p k=true-> ∀j,j<GE p (k+1)->GM (GE p k) (λz=>[i (UX p 4 z)]) (UA 1 [i k]) j=[i (UX p 4 j)]:=by
    intro p hp j hj;rw [FT hp] at hj;exact Pt.catF1 (a:=λz=>((UX p 4 z:Nat):Int)) hj (by show (k:Int)=((UX p 4 (GE p k):Nat):Int);rw [wF hk hp])
   cases hc:caB n a b c U O Z k<;>cases hs:suB n a b c U O Z k
   ·have e1:=RX hc;have e2:=RX hs;have hc':=of_decide_eq_false hc;have hs':=of_decide_eq_false hs
    (with_reducible repeat' first|apply Al|intro _)
    all_goals first|exact PU|(first|exact absurd (by assumption) hc'|exact absurd (by assumption) hs'|exact FU (by assumption) (by simp [AV.one,Value.oneCell']))
   ·have e1:=RX hc;have e2:=FT hs;have hc':=of_decide_eq_false hc;have hs':=BO hs
    (with_reducible repeat' first|apply Al|intro _)
    all_goals first|exact PU|(first|exact absurd (by assumption) hc'|contradiction|exact FU (by assumption) (by simp [AV.one,Value.oneCell'])|exact hq _ hs _ (by assumption))
   ·have e1:=FT hc;have e2:=RX hs;have hc':=BO hc;have hs':=of_decide_eq_false hs
    (with_reducible repeat' first|apply Al|intro _)
    all_goals first|exact PU|(first|exact absurd (by assumption) hs'|contradiction|exact FU (by assumption) (by simp [AV.one,Value.oneCell'])|exact hq _ hc _ (by assumption))
   ·have e1:=FT hc;have e2:=FT hs;have hc':=BO hc;have hs':=BO hs
    (with_reducible repeat' first|apply Al|intro _)
    all_goals first|exact PU|(first|contradiction|exact FU (by assumption) (by simp [AV.one,Value.oneCell'])|exact hq _ hc _ (by assumption)|exact hq _ hs _ (by assumption))
  ·obtain rfl:k=4:=VO;exact V4
theorem Qp0(Z:Int)(VW:sV n a b c U O):US VT 39 [.agg [i 4,i 10,sls n a b c U O],i Z] (.branch (!bt 0 Z 100) (.leaf (.tup [.x (.slice none 0 0),.x (.slice none 0 0),i 2])) (.branch (!jF n a b c U O) (.leaf (.tup [.x (.slice none 0 0),.x (.slice none 0 0),i 9])) (.leaf (.tup [.lst 1 (GE (caB n a b c U O Z) 4) (λz=>[i (UX (caB n a b c U O Z) 4 z)]),.lst 1 (GE (suB n a b c U O Z) 4) (λz=>[i (UX (suB n a b c U O Z) 4 z)]),i 0])))):=by
 refine GX (L:=[nJ n a b c U O Z]) (Ae AH (Ae (vV n a b c U O (eD n a b c U O (2^n)) (lS n a b c U O (2^n-1)) VW) Aa)) (Aj Ab Ac (Ah (vQ n a b c U O VW) (UG.nil _))) U3 Tryz.func39 (UY Tryz.f39) (G4 (lpE (b:= .loop Qx2) VY<|(Wf2 n a b c U O Z VW).N)) (t:=let S:=caB n a b c U O Z;let I:=suB n a b c U O Z;let z0:=(leaf (tup [lst 1 (GE (S) 4) λz=>[iI (↑(UX (S) 4 z):Int)],lst 1 (GE (I) 4) λz=>[iI (↑(UX (I) 4 z):Int)],iI 0]));let z3:=(lst 1 (2^n) λz=>[iI (lS n a b c U O (2^n-1) z)]);let z4:=(lst 1 (2^n) λz=>[iI (eD n a b c U O (2^n) z)]);(need [QP n a b c U O] (branch (!bt (0:Int) Z (100:Int)) (branch ((2:Int) != 0) (leaf (tup [QH,QH,iI 2])) (need [QP n a b c U O,Z=Z,QS,WI,WJ,(2:Int)=0,AV.x (YA)=AV.ro [iI 4,iI 10,Q0 n a b c U O,z4,z3],W0,(0:Int)=(↑(0:Nat):Int),0=GE (I) 0,∀(i:Nat),i<GE (I) 0->[]=[iI (↑(UX (I) 4 i):Int)],0=GE (S) 0,∀(i:Nat),i<GE (S) 0->[]=[iI (↑(UX (S) 4 i):Int)],W0,WB,W5 n a b c U O] z0)) (branch (!jF n a b c U O) (branch ((9:Int) != 0) (leaf (tup [QH,QH,iI 9])) (need [QP n a b c U O,Z=Z,QS,WI,WJ,(9:Int)=0,AV.x (YA)=AV.ro [iI 4,iI 10,Q0 n a b c U O,z4,z3],W0,(0:Int)=(↑(0:Nat):Int),0=GE (I) 0,∀(i:Nat),i<GE (I) 0->[]=[iI (↑(UX (I) 4 i):Int)],0=GE (S) 0,∀(i:Nat),i<GE (S) 0->[]=[iI (↑(UX (S) 4 i):Int)],W0,WB,W5 n a b c U O] z0)) (branch ((0:Int) != 0) (leaf (tup [QH,QH,iI 0])) (need [QP n a b c U O,Z=Z,QS,WI,WJ,QY,U4 (AV.ro [iI 4,iI 10,Q0 n a b c U O,z4,z3]),W0,(0:Int)=(↑(0:Nat):Int),0=GE (I) 0,∀(i:Nat),i<GE (I) 0->[]=[iI (↑(UX (I) 4 i):Int)],0=GE (S) 0,∀(i:Nat),i<GE (S) 0->[]=[iI (↑(UX (S) 4 i):Int)],W0,WB,W5 n a b c U O] z0)))))) VY ?_
 intro Q hQ;simp only [VR.sat,UF,UL] at hQ ⊢;have rn: ∀z:Int,FL (.tup [.x (.slice none 0 0),.x (.slice none 0 0),i z]) (.tup [.x (.slice none 0 0),.x (.slice none 0 0),i z]):=λz=>⟨rfl,rfl,⟨rfl,rfl⟩,Ak⟩
 have rl:FL (.tup [.lst 1 (GE (caB n a b c U O Z) 4) (λz=>[i (UX (caB n a b c U O Z) 4 z)]),.lst 1 (GE (suB n a b c U O Z) 4) (λz=>[i (UX (suB n a b c U O Z) 4 z)]),i 0]) (.tup [.lst 1 (GE (caB n a b c U O Z) 4) (λz=>[i (UX (caB n a b c U O Z) 4 z)]),.lst 1 (GE (suB n a b c U O Z) 4) (λz=>[i (UX (suB n a b c U O Z) 4 z)]),i 0]):=⟨⟨rfl,rfl,λ_ _=>rfl⟩,⟨rfl,rfl,λ_ _=>rfl⟩,⟨rfl,rfl⟩,Ak⟩
 cases h2:bt 0 Z 100<;>cases h3:jF n a b c U O<;>rw [h2] at hQ<;>rw [h3] at hQ;all_goals (with_reducible repeat' first|apply Al|intro _)
 all_goals first
  |(exfalso;rename_i h;revert h;decide)
  |(exfalso;rename_i h _;revert h;decide)
  |(exfalso;rename_i h _ _;revert h;decide)
  |(exfalso;rename_i h _ _ _;revert h;decide)
  |rfl
  |(rename_i h;exact absurd h (Aq _))
  |exact ⟨_,rn _,hQ.1 rfl⟩
  |exact ⟨_,rn _,(hQ.2 rfl).1 rfl⟩
  |exact ⟨_,rl,(hQ.2 rfl).2 rfl⟩
def Xb1(Z:Int):DM:=λl=>some (.need [l=[.agg [i 4,i 10,sls n a b c U O],i Z]] (.branch (!bt 0 Z 100) (.leaf (.tup [.x (.slice none 0 0),.x (.slice none 0 0),i 2])) (.branch (!jF n a b c U O) (.leaf (.tup [.x (.slice none 0 0),.x (.slice none 0 0),i 9])) (.leaf (.tup [.lst 1 (GE (caB n a b c U O Z) 4) (λz=>[i (UX (caB n a b c U O Z) 4 z)]),.lst 1 (GE (suB n a b c U O Z) 4) (λz=>[i (UX (suB n a b c U O Z) 4 z)]),i 0])))))
theorem oT(Z:Int)(VW:sV n a b c U O):Sx.Enters Tryz.prog 39/\ ∀avs t,Xb1 n a b c U O Z avs=some t->US VT 39 avs t:=by
 refine ⟨(UM Tryz.func39),?_⟩;intro avs t h;cases h;intro Q hQ;have e:=hQ.1
 dsimp only [UF] at e
 subst e;exact Qp0 n a b c U O Z VW Q hQ.2
end
section
variable (n:Nat)(L:Nat->ByteArray)
def Xb6:DM:=λl=>some (.need [l=[lns n L],ckE n L=0] (.leaf (.tup [.ro (hsL (sK L n)),.lst 1 n (exG L)])))
def tW:DM:=λl=>some (.need [l=[.agg (hsL (sK L n))]] (.leaf (.agg (hsL (sK L n)))))
end
theorem IX{n:Nat}{L:Nat->ByteArray}(h:ckE n L=0):n<=50/\ ∀k,k<n->(L k).size<=200:=by
 unfold ckE at h;split at h
 ·rename_i h1;refine ⟨h1.1,λk hk=>?_⟩
  have h2:=BO (GY.1 h1.2 k hk);omega
 ·exact absurd h (by decide)
theorem Zn6{s:HS}(h:rB s):hsN s:=⟨by have:=h.nr;omega,by have:=h.bV.1.1;omega,by have:=h.nc;omega,by have:=h.sV.1;omega,λb hb=>by have:=(h.bV.1.2 b hb).1;omega⟩
section
variable (n:Nat)(L:Nat->ByteArray)
theorem xZ:Sx.Enters Tryz.prog 33/\ ∀avs t,Xb6 n L avs=some t->US VT 33 avs t:=by
 refine ⟨(UM Tryz.func33),?_⟩;intro avs t h;cases h;intro Q hQ;have e:avs=[lns n L]:=hQ.1.1;have h0:ckE n L=0:=hQ.1.2;subst e;have hk:=IX h0;exact l9 n L hk.1 (λk h=>by have:=hk.2 k h;omega) Q hQ.2
theorem lH:Sx.Enters Tryz.prog 34/\ ∀avs t,tW n L avs=some t->US VT 34 avs t:=by
 refine ⟨(UM Tryz.func34),?_⟩;intro avs t h;cases h;intro Q hQ;have e:avs=[.agg (hsL (sK L n))]:=hQ.1;subst e;exact sG (sK L n) (Zn6 (rK L n)) Q hQ.2
end
theorem Qe9(s:HS):FL (.agg (hsL s)) (.agg (hsL s)):=⟨⟨rfl,rfl,λ_ _=>rfl⟩,⟨rfl,rfl⟩,⟨rfl,rfl⟩,⟨rfl,rfl,λ_ _=>rfl⟩,⟨rfl,rfl,λ_ _=>rfl⟩,⟨rfl,rfl,λ_ _=>rfl⟩,Ak⟩
section
variable (n:Nat)(L:Nat->ByteArray)
abbrev Y6:Prop:=[Q8 n L]=[Q8 n L]
theorem Ws1(VW:n<=100):US VT 19 [lns n L] (.branch (ckE n L != 0) (.leaf (.tup [.agg [.x (.slice none 0 0),i 0,i 0,.x (.slice none 0 0),.x (.slice none 0 0),.x (.slice none 0 0)],.x (.slice none 0 0),i (ckE n L)])) (.leaf (.tup [.agg (hsL (sK L n)),.lst 1 n (exG L),i 0]))):=by
 refine GX (L:=[]) (Ae (B6 n L VO) Aa) (Aj Ab Ac (Ah (xZ n L) (Ah (lH n L) (UG.nil _)))) U3 Tryz.func19 (UY Tryz.f19) G9 (t:=need [(Y6 n L)] (branch (ckE n L != 0) (leaf (tup [agg [QH,iI 0,iI 0,QH,QH,QH],QH,iI (ckE n L)])) (need [(Y6 n L),ckE n L=0] (need [U4 ([agg (hL (sK L n))])] (leaf (tup [agg (hL (sK L n)),lst 1 n λj=>[iI (eK L j)],iI 0])))))) VY ?_
 intro Q hQ;simp only [VR.sat,UF,UL,VQ,DR] at hQ ⊢;refine ⟨λh=>⟨.tup [.agg [.x (.slice none 0 0),i 0,i 0,.x (.slice none 0 0),.x (.slice none 0 0),.x (.slice none 0 0)],.x (.slice none 0 0),i (ckE n L)],⟨⟨rfl,⟨rfl,rfl⟩,⟨rfl,rfl⟩,rfl,rfl,rfl,Ak⟩,rfl,⟨rfl,rfl⟩,Ak⟩,hQ.1 h⟩,λh=>?_⟩
 have h0:ckE n L=0:=by simpa using h
 (with_reducible repeat' first|apply Al|intro _)
 all_goals first|exact Ak|exact h0|rfl|(exact ⟨.tup [.agg (hsL (sK L n)),.lst 1 n (exG L),i 0],⟨Qe9 _,⟨rfl,rfl,λ_ _=>rfl⟩,⟨rfl,rfl⟩,Ak⟩,hQ.2 h⟩)
theorem lL(VW:n<=100):US VT 21 [lns n L] (.branch (ckE n L != 0) (.leaf (.tup [.x (.slice none 0 0),i (ckE n L)])) (.leaf (.tup [.lst 2 (boN (sK L n).nb (sK L n).ql (sK L n).qh (sK L n).qm (sK L n).qr (sK L n).qv) (λk=>[i (boL (sK L n).nb (sK L n).ql (sK L n).qh (sK L n).qm (sK L n).qr (sK L n).qv k),i (boH (sK L n).nb (sK L n).ql (sK L n).qh (sK L n).qm (sK L n).qr (sK L n).qv k)]),i (boE (sK L n).nb (sK L n).ql (sK L n).qh (sK L n).qm (sK L n).qr (sK L n).qv)]))):=by
 refine GX (L:=[]) (Ae (B6 n L VO) (Ae (bG (sK L n).nb (sK L n).ql (sK L n).qh (sK L n).qm (sK L n).qr (sK L n).qv (rK L n).bV) Aa)) (Aj (Af RI Ab) Ac (Ah (xZ n L) (UG.nil _))) U3 Tryz.func21 (UY Tryz.f21) G9 (t:=need [(Y6 n L)] (branch (ckE n L != 0) (leaf (tup [QH,iI (ckE n L)])) (need [(Y6 n L),ckE n L=0] (need [U4 ([agg [lst 2 3 λk=>[iI (oL k),iI (oH k)],iI 1,hY ((sK L n).nb) (sK L n)]])] (leaf (tup [lst 2 (boN ((sK L n).nb) ((sK L n).ql) ((sK L n).qh) ((sK L n).qm) ((sK L n).qr) ((sK L n).qv)) λk=>[iI (boL ((sK L n).nb) ((sK L n).ql) ((sK L n).qh) ((sK L n).qm) ((sK L n).qr) ((sK L n).qv) k),iI (boH ((sK L n).nb) ((sK L n).ql) ((sK L n).qh) ((sK L n).qm) ((sK L n).qr) ((sK L n).qv) k)],iI (boE ((sK L n).nb) ((sK L n).ql) ((sK L n).qh) ((sK L n).qm) ((sK L n).qr) ((sK L n).qv))])))))) VY ?_
 intro Q hQ;simp only [VR.sat,UF,UL,VQ,DR] at hQ ⊢;refine ⟨λh=>⟨.tup [.x (.slice none 0 0),i (ckE n L)],⟨rfl,⟨rfl,rfl⟩,Ak⟩,hQ.1 h⟩,λh=>?_⟩
 have h0:ckE n L=0:=by simpa using h
 (with_reducible repeat' first|apply Al|intro _)
 all_goals first|exact Ak|exact h0|rfl|(exact ⟨.tup [.lst 2 (boN (sK L n).nb (sK L n).ql (sK L n).qh (sK L n).qm (sK L n).qr (sK L n).qv) (λk=>[i (boL (sK L n).nb (sK L n).ql (sK L n).qh (sK L n).qm (sK L n).qr (sK L n).qv k),i (boH (sK L n).nb (sK L n).ql (sK L n).qh (sK L n).qm (sK L n).qr (sK L n).qv k)]),i (boE (sK L n).nb (sK L n).ql (sK L n).qh (sK L n).qm (sK L n).qr (sK L n).qv)],⟨⟨rfl,rfl,λ_ _=>rfl⟩,⟨rfl,rfl⟩,Ak⟩,hQ.2 h⟩)
theorem Qt5(Z:Int)(VW:n<=100):US VT 23 [lns n L,i Z] (.branch (ckE n L != 0) (.leaf (.tup [.x (.slice none 0 0),.x (.slice none 0 0),i (ckE n L)])) (.branch (!bt 0 Z 100) (.leaf (.tup [.x (.slice none 0 0),.x (.slice none 0 0),i 2])) (.branch (!jF (sK L n).ns (sK L n).sa (sK L n).sb (sK L n).sc (sK L n).sl (sK L n).sh) (.leaf (.tup [.x (.slice none 0 0),.x (.slice none 0 0),i 9])) (.leaf (.tup [.lst 1 (GE (caB (sK L n).ns (sK L n).sa (sK L n).sb (sK L n).sc (sK L n).sl (sK L n).sh Z) 4) (λz=>[i (UX (caB (sK L n).ns (sK L n).sa (sK L n).sb (sK L n).sc (sK L n).sl (sK L n).sh Z) 4 z)]),.lst 1 (GE (suB (sK L n).ns (sK L n).sa (sK L n).sb (sK L n).sc (sK L n).sl (sK L n).sh Z) 4) (λz=>[i (UX (suB (sK L n).ns (sK L n).sa (sK L n).sb (sK L n).sc (sK L n).sl (sK L n).sh Z) 4 z)]),i 0]))))):=by
 refine GX (L:=[]) (Ae (B6 n L VO) Aa) (Aj (Af P6 Ab) Ac (Ah (xZ n L) (Ah (oT (sK L n).ns (sK L n).sa (sK L n).sb (sK L n).sc (sK L n).sl (sK L n).sh Z (rK L n).sV) (UG.nil _)))) U3 Tryz.func23 (UY Tryz.f23) G9 (t:=let z0:=(caB ((sK L n).ns) ((sK L n).sa) ((sK L n).sb) ((sK L n).sc) ((sK L n).sl) ((sK L n).sh) Z);let I:=(suB ((sK L n).ns) ((sK L n).sa) ((sK L n).sb) ((sK L n).sc) ((sK L n).sl) ((sK L n).sh) Z);(need [(Y6 n L)] (branch (ckE n L != 0) (leaf (tup [QH,QH,iI (ckE n L)])) (need [(Y6 n L),ckE n L=0] (need [U4 ([agg [iI 4,iI 10,hT ((sK L n).ns) (sK L n)],iI Z])] (branch (!bt (0:Int) Z (100:Int)) (leaf (tup [QH,QH,iI 2])) (branch (!jF ((sK L n).ns) ((sK L n).sa) ((sK L n).sb) ((sK L n).sc) ((sK L n).sl) ((sK L n).sh)) (leaf (tup [QH,QH,iI 9])) (leaf (tup [lst 1 (GE z0 4) λz=>[iI (↑(UX z0 4 z):Int)],lst 1 (GE I 4) λz=>[iI (↑(UX I 4 z):Int)],iI 0]))))))))) VY ?_
 intro Q hQ;simp only [VR.sat,UF,UL,VQ,DR] at hQ ⊢;have rn: ∀z:Int,FL (.tup [.x (.slice none 0 0),.x (.slice none 0 0),i z]) (.tup [.x (.slice none 0 0),.x (.slice none 0 0),i z]):=λz=>⟨rfl,rfl,⟨rfl,rfl⟩,Ak⟩
 have rl:FL (.tup [.lst 1 (GE (caB (sK L n).ns (sK L n).sa (sK L n).sb (sK L n).sc (sK L n).sl (sK L n).sh Z) 4) (λz=>[i (UX (caB (sK L n).ns (sK L n).sa (sK L n).sb (sK L n).sc (sK L n).sl (sK L n).sh Z) 4 z)]),.lst 1 (GE (suB (sK L n).ns (sK L n).sa (sK L n).sb (sK L n).sc (sK L n).sl (sK L n).sh Z) 4) (λz=>[i (UX (suB (sK L n).ns (sK L n).sa (sK L n).sb (sK L n).sc (sK L n).sl (sK L n).sh Z) 4 z)]),i 0]) (.tup [.lst 1 (GE (caB (sK L n).ns (sK L n).sa (sK L n).sb (sK L n).sc (sK L n).sl (sK L n).sh Z) 4) (λz=>[i (UX (caB (sK L n).ns (sK L n).sa (sK L n).sb (sK L n).sc (sK L n).sl (sK L n).sh Z) 4 z)]),.lst 1 (GE (suB (sK L n).ns (sK L n).sa (sK L n).sb (sK L n).sc (sK L n).sl (sK L n).sh Z) 4) (λz=>[i (UX (suB (sK L n).ns (sK L n).sa (sK L n).sb (sK L n).sc (sK L n).sl (sK L n).sh Z) 4 z)]),i 0]):=⟨⟨rfl,rfl,λ_ _=>rfl⟩,⟨rfl,rfl,λ_ _=>rfl⟩,⟨rfl,rfl⟩,Ak⟩
 refine ⟨λh=>⟨_,rn _,hQ.1 h⟩,λh=>?_⟩
 have h0:ckE n L=0:=by simpa using h
 have hQ2:=hQ.2 h
 (with_reducible repeat' first|apply Al|intro _)
 all_goals first|exact Ak|exact h0|rfl|(rename_i h1;exact ⟨_,rn _,hQ2.1 h1⟩)|(rename_i h1 h2;exact ⟨_,rn _,(hQ2.2 h1).1 h2⟩)|(rename_i h1 h2;exact ⟨_,rl,(hQ2.2 h1).2 h2⟩)
end
section
variable (s:HS)
def stB(a b w d:Int)(v:Bool)(Z:Int):Bool:= !v&&(decide (Z>=d)&&((asE 4 100 20 30 s.nr s.ra s.rb s.ru s.rv 3 tbP tbQ s.pl s.ph 1 3 a b w Z==0)&&kpB 4 100 20 30 s.nr s.ra s.rb s.ru s.rv 3 tbP tbQ s.pl s.ph 1 3 a b w Z))
def stP(Z:Int)(k:Nat):Bool:=stB s (s.ca k) (s.cb k) (s.cc k) (s.cd k) (s.cv k) Z
theorem I8(a b w d:Int)(v:Bool)(Z:Int):U2 VT 38 [.agg (hsL s),.agg [i a,i b,i w,i d,bl v],i Z] (bl (stB s a b w d v Z)):=by
 refine GF (L:=[]) (Ae Ql9 Aa) (Aj Ab Ac (Ah (Qg8 FF) (UG.nil _))) U3 Tryz.func38 (UY Tryz.f38) G9 (t:=need [UJ 4 s.nr λk=>[Bo.i (s.ra k),Bo.i (s.rb k),Bo.i (s.ru k),Bo.i (s.rv k)],UJ 2 3 λk=>[i (tbP k),i (tbQ k)]] (branch (!v) (branch (decide (Z>=d)) (branch (asE (4:Int) (100:Int) (20:Int) (30:Int) s.nr (s.ra) (s.rb) (s.ru) (s.rv) 3 tbP tbQ s.pl s.ph (1:Int) (3:Int) a b w Z==0) (leaf (RV.x (.bool (kpB (4:Int) (100:Int) (20:Int) (30:Int) s.nr (s.ra) (s.rb) (s.ru) (s.rv) 3 tbP tbQ s.pl s.ph (1:Int) (3:Int) a b w Z)))) (leaf (RV.x (WN)))) (leaf (RV.x (WN)))) (leaf (RV.x (WN))))) VY ?_
 simp only [VR.sat,UF,GA,UI,UL];refine ⟨⟨Bo.isRec4 _ _ _ _ _,Pt.isRec2 _ _ _⟩,?_⟩;unfold stB;cases v<;>cases decide (Z>=d)<;>cases (asE 4 100 20 30 s.nr s.ra s.rb s.ru s.rv 3 tbP tbQ s.pl s.ph 1 3 a b w Z==0)<;>simp
def SN:G0
 |[.agg l',.agg [.x (.int .i64 a),.x (.int .i64 b),.x (.int .i64 w),.x (.int .i64 d),.x (.bool v)],.x (.int .i64 Z)]=>some ([l'=hsL s],bl (stB s a b w d v Z))
 |_=>none
theorem I7:VU VT 38 (SN s):=by
 refine ⟨(UM Tryz.func38),?_⟩;intro avs ns res h hn;unfold SN at h;split at h
 ·cases h;have e:=hn _ GK;subst e;exact I8 s _ _ _ _ _ _
 ·cases h
end
section
variable (n:Nat)(L:Nat->ByteArray)(Z:Int)
def Zs7:St:={σ:=[Q8 n L,iI Z,top,top,QH,iI 0,iI (ckE n L),AV.ro (hL (sK L n)),lst 1 n λj=>[iI (eK L j)]]++HO 20 [hC ((sK L n).nc) (sK L n),iI (↑((sK L n).nc):Int)]++HO 18 [],m:=[(901,YB)],nx:=902}
noncomputable def Js0:Code:=UE (VX (UB Tryz.f22) 0)
def Wk9(k:Nat):St:={σ:=H6 [(9,.row 901),(10,.top),(11,.top),(31,i k)] (Zs7 n L Z).σ,m:=[(901,.row 3 1 (GE (stP (sK L n) Z) (k)) (λz=>[i (UX (stP (sK L n) Z) (sK L n).nc z)]))],nx:=902}
def CW(k:Nat):GB->Option St
 | .exit 0=>some {σ:=H6 [(9,.row 901),(10,.top),(11,.top),(31,i (sK L n).nc)] (Zs7 n L Z).σ,m:=[(901,.row 3 1 (GE (stP (sK L n) Z) ((sK L n).nc)) (λz=>[i (UX (stP (sK L n) Z) (sK L n).nc z)]))],nx:=902}
 |_=>none
def Jn4:CT:= .leaf (.exit 0,(CW n L Z 0 (.exit 0)).getD (Zs7 n L Z))
def Xy4:UN:=GO [(.slot 9,901,3,1)] (HM (Wk9 n L Z (0)) (Jn4 n L Z))
theorem Jc2(VW:n<=100):GC VT (.loop Js0) (Xy4 n L Z):=by
 refine G7 [(.slot 9,901,3,1)] (L:=[]) (Ae (B6 n L VO) (Ae B5 (Ae (I7 (sK L n)) Aa))) (Aj Ab Ac (Ah (xZ n L) (UG.nil _))) U3 U8 (X:=Nat) (Wk9 n L Z) (λk=>k<=(sK L n).nc) (λk=>(sK L n).nc-k) (CW n L Z) (x0:=0) VZ ?_ ?_ ?_
 ·rintro k;kernel_rfl
 ·rintro k y E h;unfold CW at h;split at h
  ·cases h;kernel_rfl
  ·cases h
 ·rintro Q hQ k hx;refine ⟨(k+1),?_⟩;(with_reducible refine DN (t:=let z0:=(U4 (lst 1 n λj=>[iI (eK L j)]));let I:=(U4 (hC ((sK L n).nc) (sK L n)));let S:=(U4 (↑((sK L n).nc):Int));(branch (decide ((k:Int)<(↑((sK L n).nc):Int))) (need [UO k ((sK L n).nc)] (need [U4 (hL (sK L n))] (branch (stB (sK L n) ((sK L n).ca k) ((sK L n).cb k) ((sK L n).cc k) ((sK L n).cd k) ((sK L n).cv k) Z) (need [(GE (stP (sK L n) Z) k+1)*8<=140737488355328,L1 1 (UA 1 [iI (k:Int)])] (need [VQ ((k:Int)+1)] (need [U4 (Q8 n L),Z=Z,QH=QH,QY,U4 (ckE n L),U4 (AV.ro (hL (sK L n))),z0,WI,I,S,(k:Int)+1=(↑(k+1):Int),GE (stP (sK L n) Z) k+1=GE (stP (sK L n) Z) (k+1),∀(i:Nat),i<GE (stP (sK L n) Z) (k+1)->GM (GE (stP (sK L n) Z) k) (λz=>[iI (↑(UX (stP (sK L n) Z) ((sK L n).nc) z):Int)]) (UA 1 [iI (k:Int)]) i=[iI (↑(UX (stP (sK L n) Z) ((sK L n).nc) i):Int)]] (leaf GB.normal)))) (need [VQ ((k:Int)+1)] (need [U4 (Q8 n L),Z=Z,QH=QH,QY,U4 (ckE n L),U4 (AV.ro (hL (sK L n))),z0,WI,I,S,(k:Int)+1=(↑(k+1):Int),GE (stP (sK L n) Z) k=GE (stP (sK L n) Z) (k+1),∀(i:Nat),i<GE (stP (sK L n) Z) (k+1)->[iI (↑(UX (stP (sK L n) Z) ((sK L n).nc) i):Int)]=[iI (↑(UX (stP (sK L n) Z) ((sK L n).nc) i):Int)]] (leaf GB.normal)))))) (need [U4 (Q8 n L),Z=Z,QH=QH,QY,U4 (ckE n L),U4 (AV.ro (hL (sK L n))),z0,WI,I,S,(k:Int)=(↑((sK L n).nc):Int),GE (stP (sK L n) Z) k=GE (stP (sK L n) Z) ((sK L n).nc),∀(i:Nat),i<GE (stP (sK L n) Z) ((sK L n).nc)->[iI (↑(UX (stP (sK L n) Z) ((sK L n).nc) i):Int)]=[iI (↑(UX (stP (sK L n) Z) ((sK L n).nc) i):Int)]] (leaf (GB.exit 0))))) VY ?_)
  simp only [Jn4,CW,VR.sat,GZ] at hQ;simp only [VR.sat,UF,GA,GR,UI,VQ,UL,HD,RF,RG,L9,GT,CW]
  have b1:=bB (p:=stP (sK L n) Z) (k:=k);have b2:=(rK L n).nc;refine ⟨λh=>?_,λh=>?_⟩
  ·have hk:k<(sK L n).nc:=VO;have hq:stP (sK L n) Z k=true-> ∀j,j<GE (stP (sK L n) Z) (k+1)->GM (GE (stP (sK L n) Z) k) (λz=>[i (UX (stP (sK L n) Z) (sK L n).nc z)]) (UA 1 [i k]) j=[i (UX (stP (sK L n) Z) (sK L n).nc j)]:=by
    intro hp j hj;rw [FT hp] at hj;exact Pt.catF1 (a:=λz=>((UX (stP (sK L n) Z) (sK L n).nc z:Nat):Int)) hj (by show (k:Int)=((UX (stP (sK L n) Z) (sK L n).nc (GE (stP (sK L n) Z) k):Nat):Int);rw [wF hk hp])
   cases hc:stP (sK L n) Z k
   ·have e1:=RX hc;have hc': ¬(stB (sK L n) ((sK L n).ca k) ((sK L n).cb k) ((sK L n).cc k) ((sK L n).cd k) ((sK L n).cv k) Z=true):=λh=>Bool.noConfusion (hc.symm.trans h)
    (with_reducible repeat' first|apply Al|intro _)
    all_goals first|exact PU|(first|exact absurd (by assumption) hc'|exact FU (by assumption) (by simp [AV.one,Value.oneCell']))
   ·have e1:=FT hc;have hc': ¬(stB (sK L n) ((sK L n).ca k) ((sK L n).cb k) ((sK L n).cc k) ((sK L n).cd k) ((sK L n).cv k) Z=false):=λh=>Bool.noConfusion (hc.symm.trans h)
    (with_reducible repeat' first|apply Al|intro _)
    all_goals first|exact PU|(first|exact absurd (by assumption) hc'|exact hq hc _ (by assumption)|exact FU (by assumption) (by simp [AV.one,Value.oneCell']))
  ·obtain rfl:k=(sK L n).nc:=VO;exact V4
theorem aN(VW:n<=100):US VT 22 [lns n L,i Z] (.branch (ckE n L != 0) (.leaf (.tup [.x (.slice none 0 0),i (ckE n L)])) (.branch (!bt 0 Z 10000) (.leaf (.tup [.x (.slice none 0 0),i 2])) (.leaf (.tup [.lst 1 (GE (stP (sK L n) Z) (sK L n).nc) (λz=>[i (UX (stP (sK L n) Z) (sK L n).nc z)]),i 0])))):=by
 refine GX (L:=[Xy4 n L Z]) (Ae (B6 n L VO) (Ae B5 (Ae (I7 (sK L n)) Aa))) (Aj Ab Ac (Ah (xZ n L) (UG.nil _))) U3 Tryz.func22 (UY Tryz.f22) (G4 (lpE (b:= .loop Js0) VY<|(Jc2 n L Z VW).N)) (t:=need [(Y6 n L)] (branch (ckE n L != 0) (leaf (tup [QH,iI (ckE n L)])) (branch (!bt (0:Int) Z (10000:Int)) (leaf (tup [QH,iI 2])) (need [(Y6 n L),ckE n L=0] (need [U4 (Q8 n L),Z=Z,QH=QH,QY,U4 (ckE n L),U4 (AV.ro (hL (sK L n))),U4 (lst 1 n λj=>[iI (eK L j)]),WI,U4 (hC ((sK L n).nc) (sK L n)),U4 (↑((sK L n).nc):Int),(0:Int)=(↑(0:Nat):Int),0=GE (stP (sK L n) Z) 0,∀(i:Nat),i<GE (stP (sK L n) Z) 0->[]=[iI (↑(UX (stP (sK L n) Z) ((sK L n).nc) i):Int)]] (leaf (tup [lst 1 (GE (stP (sK L n) Z) ((sK L n).nc)) λz=>[iI (↑(UX (stP (sK L n) Z) ((sK L n).nc) z):Int)],iI 0]))))))) VY ?_
 intro Q hQ;simp only [VR.sat,UF,UL,VQ,DR] at hQ ⊢;have b2:=(rK L n).nc;have rn: ∀z:Int,FL (.tup [.x (.slice none 0 0),i z]) (.tup [.x (.slice none 0 0),i z]):=λz=>⟨rfl,⟨rfl,rfl⟩,Ak⟩
 have rl:FL (.tup [.lst 1 (GE (stP (sK L n) Z) (sK L n).nc) (λz=>[i (UX (stP (sK L n) Z) (sK L n).nc z)]),i 0]) (.tup [.lst 1 (GE (stP (sK L n) Z) (sK L n).nc) (λz=>[i (UX (stP (sK L n) Z) (sK L n).nc z)]),i 0]):=⟨⟨rfl,rfl,λ_ _=>rfl⟩,⟨rfl,rfl⟩,Ak⟩
 refine ⟨λh=>⟨_,rn _,hQ.1 h⟩,λh=>?_⟩
 have h0:ckE n L=0:=by simpa using h
 have hQ2:=hQ.2 h;refine ⟨λh1=>⟨_,rn _,hQ2.1 h1⟩,λh1=>?_⟩
 have hQ3:=hQ2.2 h1
 (with_reducible repeat' first|apply Al|intro _)
 all_goals first|exact Ak|exact h0|omega|rfl|(rename_i h;exact absurd h (Aq _))|exact ⟨_,rl,hQ3⟩
end
def dgI(n:Int):Int:=IntKind.u8.wrap (48+n.tmod 10)
def dg3(n:Int):ByteArray:=⟨#[UInt8.ofNat (dgI ((n.tdiv 10).tdiv 10)).toNat,UInt8.ofNat (dgI (n.tdiv 10)).toNat,UInt8.ofNat (dgI n).toNat]⟩
def dg5(n:Int):ByteArray:=⟨#[UInt8.ofNat (dgI ((((n.tdiv 10).tdiv 10).tdiv 10).tdiv 10)).toNat,UInt8.ofNat (dgI (((n.tdiv 10).tdiv 10).tdiv 10)).toNat,UInt8.ofNat (dgI ((n.tdiv 10).tdiv 10)).toNat,UInt8.ofNat (dgI (n.tdiv 10)).toNat,UInt8.ofNat (dgI n).toNat]⟩
def dgB(n m:Int):ByteArray:=if m=3 then dg3 n else dg5 n
abbrev u8(n:Int):AV:= .x (.int .u8 n)
def tpB(l c:Int):ByteArray:=(((⟨#[91]⟩++dgB l 3)++⟨#[58]⟩)++dgB c 5)++⟨#[93]⟩
def tpC(s:ByteArray)(ix:Int):Nat->Int
 | 0=>23*(ix+1)
 |k+1=>tpC s ix k+((k:Int)+2)*(DD s k+3)
def tpK(s:ByteArray)(ix:Int):Int:=(tpC s ix s.size).tmod 99971
def rcB(s:ByteArray)(ix:Int):ByteArray:=(tpB (s.size:Int) (tpK s ix)++s)++⟨#[10]⟩
def flB(L:Nat->ByteArray):Nat->ByteArray
 | 0=>ByteArray.empty
 |k+1=>flB L k++rcB (L k) (k:Int)
theorem Qg3(n:Int):0<=dgI n/\dgI n<256:=by
 have h:dgI n=(48+n.tmod 10)%256:=rfl;omega
theorem x8{x:Int}(h:0<=x/\x<=1000000000):(0<=x.tdiv 10/\x.tdiv 10<=1000000000)/\0<=x.tmod 10/\x.tmod 10<=9:=by
 rw [Int.tdiv_eq_ediv_of_nonneg h.1,Int.tmod_eq_emod_of_nonneg h.1];omega
theorem by1{x:Int}(h:0<=x/\x<256):byO [u8 x]<256/\[u8 x]=[.x (.int .u8 (byO [u8 x]:Int))]:=by
 have e2:byO [u8 x]=x.toNat:=rfl;rw [e2];refine ⟨VO,?_⟩;rw [show ((x.toNat:Nat):Int)=x by omega]
section
variable (n:Int)
def Qa1:St:={σ:=mkS 24 [(1,i 3),(5,.ro [u8 (dgI ((n.tdiv 10).tdiv 10)),u8 (dgI (n.tdiv 10)),u8 (dgI n),u8 0,u8 0])],m:=[],nx:=901}
abbrev W2:AV:=AV.x (.int IntKind.u8 (0:Int))
abbrev WV:AV:=AV.x (.int IntKind.u8 (IntKind.wrap IntKind.u8 ((48:Int)+Int.tmod n (10:Int))))
abbrev XA:AV:=AV.x (.int IntKind.u8 (IntKind.wrap IntKind.u8 ((48:Int)+Int.tmod (Int.tdiv n (10:Int)) (10:Int))))
abbrev YY:AV:=AV.x (.int IntKind.u8 (dgI (Int.tdiv (Int.tdiv n (10:Int)) (10:Int))))
abbrev XD:List AV:=[YY n,AV.x (.int IntKind.u8 (dgI (Int.tdiv n (10:Int)))),AV.x (.int IntKind.u8 (dgI n)),W2,W2]
abbrev ZA:AV:=AV.x (.int IntKind.u8 (IntKind.wrap IntKind.u8 ((48:Int)+Int.tmod (Int.tdiv (Int.tdiv n (10:Int)) (10:Int)) (10:Int))))
theorem lG(VW:0<=n/\n<=1000000000):U2 VT 87 [i n,i 3] (.x (.string (dg3 n))):=by
 refine rH (L:=[(λs=>some (zN Tryz.prog [] [] (UE (VX (UB Tryz.f87) 0)) 4 s))]) 3 [(.slot 5,0,0,1)] (Qa1 n) Aa Ad U3 Tryz.func87 (UY Tryz.f87) (G4 (lpE (b:= .loop (UE (VX (UB Tryz.f87) 0))) VY<|(LF Aa U3 U8 _).N)) VY (t:=let I:=(Int.tdiv (Int.tdiv n (10:Int)) (10:Int));let z0:=(need [(0:Int)<=3/\(3:Int)<=(↑(5:Nat):Int)] (need [wO (3:Int).toNat λi=>[Option.rec (top) (λval=>(λval=>(λx=>x) val) val) [u8 (dgI I),u8 (dgI (Int.tdiv n (10:Int))),u8 (dgI n),u8 (0:Int),u8 (0:Int)][i]?]] (leaf (RV.x (.string (bsO (3:Int).toNat λi=>[Option.rec (top) (λval=>(λval=>(λx=>x) val) val) [u8 (dgI I),u8 (dgI (Int.tdiv n (10:Int))),u8 (dgI n),u8 (0:Int),u8 (0:Int)][i]?]))))));(need [VQ ((3:Int)-1)] (branch (decide ((3:Int)-1>=(0:Int))) (need [(10:Int)≠0] (need [VQ ((48:Int)+Int.tmod n (10:Int))] (need [(0:Int)<=3-1/\(3:Int)-1<(↑(5:Nat):Int)] (need [(10:Int)≠0,VQ (Int.tdiv n (10:Int))] (need [VQ ((3:Int)-1-1)] (branch (decide ((3:Int)-1-1>=(0:Int))) (need [(10:Int)≠0] (need [VQ ((48:Int)+Int.tmod (Int.tdiv n (10:Int)) (10:Int))] (need [(0:Int)<=3-1-1/\(3:Int)-1-1<(↑(5:Nat):Int)] (need [(10:Int)≠0,VQ I] (need [VQ ((3:Int)-1-1-1)] (branch (decide ((3:Int)-1-1-1>=(0:Int))) (need [(10:Int)≠0] (need [VQ ((48:Int)+Int.tmod I (10:Int))] (need [(0:Int)<=3-1-1-1/\(3:Int)-1-1-1<(↑(5:Nat):Int)] (need [(10:Int)≠0,VQ (Int.tdiv I (10:Int))] (need [VQ ((3:Int)-1-1-1-1)] (branch (decide ((3:Int)-1-1-1-1>=(0:Int))) (need [(10:Int)≠0] (need [VQ ((48:Int)+Int.tmod (Int.tdiv I (10:Int)) (10:Int))] (need [(0:Int)<=3-1-1-1-1/\(3:Int)-1-1-1-1<(↑(5:Nat):Int)] (need [(10:Int)≠0,VQ (Int.tdiv (Int.tdiv I (10:Int)) (10:Int))] (need [VQ ((3:Int)-1-1-1-1-1)] VR.fail))))) (need [XG,AV.ro [ZA n,XA n,WV n,W2,W2]=AV.ro (XD n)] z0))))))) (need [XG,AV.ro [W2,XA n,WV n,W2,W2]=AV.ro (XD n)] z0))))))) (need [XG,AV.ro [W2,W2,WV n,W2,W2]=AV.ro (XD n)] z0))))))) (need [XG,AV.ro [W2,W2,W2,W2,W2]=AV.ro (XD n)] z0)))) VY ?_
 have q1:=x8 VW;have q2:=x8 q1.1;have q3:=x8 q2.1;have q4:=x8 q3.1;have q5:=x8 q4.1;have c1:decide ((3:Int)-1>=0)=true:=by decide
 have c2:decide ((3:Int)-1-1>=0)=true:=by decide
 have c3:decide ((3:Int)-1-1-1>=0)=true:=by decide
 have c4:decide ((3:Int)-1-1-1-1>=0)=false:=by decide
 simp only [VR.sat,UF,GA,UI,UL,VQ,c1,c2,c3,c4,true_imp_iff,eq_self,Bool.true_eq_false,Bool.false_eq_true,false_imp_iff]
 (with_reducible repeat' first|apply Al|intro _)
 all_goals first|exact Ak|omega|rfl|(intro j hj;rcases (show j=0\/j=1\/j=2 by omega) with rfl|rfl|rfl<;>exact by1 (Qg3 _))|decide
def Qa0:St:={σ:=mkS 24 [(1,i 5),(5,.ro [u8 (dgI ((((n.tdiv 10).tdiv 10).tdiv 10).tdiv 10)),u8 (dgI (((n.tdiv 10).tdiv 10).tdiv 10)),u8 (dgI ((n.tdiv 10).tdiv 10)),u8 (dgI (n.tdiv 10)),u8 (dgI n)])],m:=[],nx:=901}
abbrev QK:List AV:=[AV.x (.int IntKind.u8 (dgI (Int.tdiv (Int.tdiv (Int.tdiv (Int.tdiv n (10:Int)) (10:Int)) (10:Int)) (10:Int)))),AV.x (.int IntKind.u8 (dgI (Int.tdiv (Int.tdiv (Int.tdiv n (10:Int)) (10:Int)) (10:Int)))),YY n,AV.x (.int IntKind.u8 (dgI (Int.tdiv n (10:Int)))),AV.x (.int IntKind.u8 (dgI n))]
abbrev J7:Prop:=(5:Int)=5
abbrev KA:AV:=AV.x (.int IntKind.u8 (IntKind.wrap IntKind.u8 ((48:Int)+Int.tmod (Int.tdiv (Int.tdiv (Int.tdiv n (10:Int)) (10:Int)) (10:Int)) (10:Int))))
theorem lF(VW:0<=n/\n<=1000000000):U2 VT 87 [i n,i 5] (.x (.string (dg5 n))):=by
 refine rH (L:=[(λs=>some (zN Tryz.prog [] [] (UE (VX (UB Tryz.f87) 0)) 6 s))]) 3 [(.slot 5,0,0,1)] (Qa0 n) Aa Ad U3 Tryz.func87 (UY Tryz.f87) (G4 (lpE (b:= .loop (UE (VX (UB Tryz.f87) 0))) VY<|(LF Aa U3 U8 _).N)) VY (t:=let S:=(Int.tdiv (Int.tdiv n (10:Int)) (10:Int));let I:=(Int.tdiv S (10:Int));let z3:=(Int.tdiv I (10:Int));let z0:=(need [(0:Int)<=5/\(5:Int)<=(↑(5:Nat):Int)] (need [wO (5:Int).toNat λi=>[Option.rec (top) (λval=>(λval=>(λx=>x) val) val) [u8 (dgI z3),u8 (dgI I),u8 (dgI S),u8 (dgI (Int.tdiv n (10:Int))),u8 (dgI n)][i]?]] (leaf (RV.x (.string (bsO (5:Int).toNat λi=>[Option.rec (top) (λval=>(λval=>(λx=>x) val) val) [u8 (dgI z3),u8 (dgI I),u8 (dgI S),u8 (dgI (Int.tdiv n (10:Int))),u8 (dgI n)][i]?]))))));(need [VQ ((5:Int)-1)] (branch (decide ((5:Int)-1>=(0:Int))) (need [(10:Int)≠0] (need [VQ ((48:Int)+Int.tmod n (10:Int))] (need [(0:Int)<=5-1/\(5:Int)-1<(↑(5:Nat):Int)] (need [(10:Int)≠0,VQ (Int.tdiv n (10:Int))] (need [VQ ((5:Int)-1-1)] (branch (decide ((5:Int)-1-1>=(0:Int))) (need [(10:Int)≠0] (need [VQ ((48:Int)+Int.tmod (Int.tdiv n (10:Int)) (10:Int))] (need [(0:Int)<=5-1-1/\(5:Int)-1-1<(↑(5:Nat):Int)] (need [(10:Int)≠0,VQ S] (need [VQ ((5:Int)-1-1-1)] (branch (decide ((5:Int)-1-1-1>=(0:Int))) (need [(10:Int)≠0] (need [VQ ((48:Int)+Int.tmod S (10:Int))] (need [(0:Int)<=5-1-1-1/\(5:Int)-1-1-1<(↑(5:Nat):Int)] (need [(10:Int)≠0,VQ I] (need [VQ ((5:Int)-1-1-1-1)] (branch (decide ((5:Int)-1-1-1-1>=(0:Int))) (need [(10:Int)≠0] (need [VQ ((48:Int)+Int.tmod I (10:Int))] (need [(0:Int)<=5-1-1-1-1/\(5:Int)-1-1-1-1<(↑(5:Nat):Int)] (need [(10:Int)≠0,VQ z3] (need [VQ ((5:Int)-1-1-1-1-1)] (branch (decide ((5:Int)-1-1-1-1-1>=(0:Int))) (need [(10:Int)≠0] (need [VQ ((48:Int)+Int.tmod z3 (10:Int))] (need [(0:Int)<=5-1-1-1-1-1/\(5:Int)-1-1-1-1-1<(↑(5:Nat):Int)] (need [(10:Int)≠0,VQ (Int.tdiv z3 (10:Int))] (need [VQ ((5:Int)-1-1-1-1-1-1)] (branch (decide ((5:Int)-1-1-1-1-1-1>=(0:Int))) (need [(10:Int)≠0] (need [VQ ((48:Int)+Int.tmod (Int.tdiv z3 (10:Int)) (10:Int))] (need [(0:Int)<=5-1-1-1-1-1-1/\(5:Int)-1-1-1-1-1-1<(↑(5:Nat):Int)] (need [(10:Int)≠0,VQ (Int.tdiv (Int.tdiv z3 (10:Int)) (10:Int))] (need [VQ ((5:Int)-1-1-1-1-1-1-1)] VR.fail))))) (need [J7,AV.ro [AV.x (.int IntKind.u8 (IntKind.wrap IntKind.u8 ((48:Int)+Int.tmod z3 (10:Int)))),KA n,ZA n,XA n,WV n]=AV.ro (QK n)] z0))))))) (need [J7,AV.ro [W2,KA n,ZA n,XA n,WV n]=AV.ro (QK n)] z0))))))) (need [J7,AV.ro [W2,W2,ZA n,XA n,WV n]=AV.ro (QK n)] z0))))))) (need [J7,AV.ro [W2,W2,W2,XA n,WV n]=AV.ro (QK n)] z0))))))) (need [J7,AV.ro [W2,W2,W2,W2,WV n]=AV.ro (QK n)] z0))))))) (need [J7,AV.ro [W2,W2,W2,W2,W2]=AV.ro (QK n)] z0)))) VY ?_
 have q1:=x8 VW;have q2:=x8 q1.1;have q3:=x8 q2.1;have q4:=x8 q3.1;have q5:=x8 q4.1;have c1:decide ((5:Int)-1>=0)=true:=by decide
 have c2:decide ((5:Int)-1-1>=0)=true:=by decide
 have c3:decide ((5:Int)-1-1-1>=0)=true:=by decide
 have c4:decide ((5:Int)-1-1-1-1>=0)=true:=by decide
 have c5:decide ((5:Int)-1-1-1-1-1>=0)=true:=by decide
 have c6:decide ((5:Int)-1-1-1-1-1-1>=0)=false:=by decide
 simp only [VR.sat,UF,GA,UI,UL,VQ,c1,c2,c3,c4,c5,c6,true_imp_iff,eq_self,Bool.true_eq_false,Bool.false_eq_true,false_imp_iff]
 (with_reducible repeat' first|apply Al|intro _)
 all_goals first|exact Ak|omega|rfl|(intro j hj;rcases (show j=0\/j=1\/j=2\/j=3\/j=4 by omega) with rfl|rfl|rfl|rfl|rfl<;>exact by1 (Qg3 _))|decide
end
def SP:G0
 |[.x (.int .i64 n),.x (.int .i64 m)]=>some ([0<=n/\n<=1000000000,m=3\/m=5],.x (.string (dgB n m)))
 |_=>none
theorem sE:VU VT 87 SP:=by
 refine ⟨(UM Tryz.func87),?_⟩;intro avs ns res h hn;unfold SP at h;split at h
 ·rename_i n m;cases h;have h1:0<=n/\n<=1000000000:=hn _ VZ;have h2:m=3\/m=5:=hn _ VZ;rcases h2 with rfl|rfl
  ·exact lG n h1
  ·exact lF n h1
 ·cases h
theorem dB(n m:Int)(h:m=3\/m=5):((dgB n m).size:Int)=m:=by
 rcases h with rfl|rfl
 ·rfl
 ·rfl
theorem qM(l c:Int):(tpB l c).size=11:=by
 have h1:=dB l 3 (.inl rfl);have h2:=dB c 5 (.inr rfl);unfold tpB;simp only [Av];have e1:(⟨#[91]⟩:ByteArray).size=1:=rfl;have e2:(⟨#[58]⟩:ByteArray).size=1:=rfl;have e3:(⟨#[93]⟩:ByteArray).size=1:=rfl;omega
def Qj0:G0
 |[.agg [.x (.int .i64 l),.x (.int .i64 c)]]=>some ([0<=l/\l<=1000000000,0<=c/\c<=1000000000],.x (.string (tpB l c)))
 |_=>none
theorem iX(l c:Int)(VW:0<=l/\l<=1000000000)(UK:0<=c/\c<=1000000000):U2 VT 59 [.agg [i l,i c]] (.x (.string (tpB l c))):=by
 refine GF (L:=[]) (Ae sE Aa) Ad U3 Tryz.func59 (UY Tryz.f59) G9 (t:=need [(0:Int)<=l/\l<=1000000000,(3:Int)=3\/(3:Int)=5] (need [(↑(ByteArray.size {data:=#[91] }+ByteArray.size (dgB l (3:Int))):Int)<=9223372036854775807] (need [(↑(ByteArray.size ({data:=#[91] }++dgB l (3:Int))+ByteArray.size {data:=#[58] }):Int)<=9223372036854775807] (need [(0:Int)<=c/\c<=1000000000,(5:Int)=3\/(5:Int)=5] (need [(↑(ByteArray.size ({data:=#[91] }++dgB l (3:Int)++{data:=#[58] })+ByteArray.size (dgB c (5:Int))):Int)<=9223372036854775807] (need [(↑(ByteArray.size ({data:=#[91] }++dgB l (3:Int)++{data:=#[58] }++dgB c (5:Int))+ByteArray.size {data:=#[93] }):Int)<=9223372036854775807] (leaf (RV.x (.string ({data:=#[91] }++dgB l (3:Int)++{data:=#[58] }++dgB c (5:Int)++{data:=#[93] })))))))))) VY ?_;have h1:=dB l 3 (.inl rfl);have h2:=dB c 5 (.inr rfl);have e1:(⟨#[91]⟩:ByteArray).size=1:=rfl;have e2:(⟨#[58]⟩:ByteArray).size=1:=rfl;have e3:(⟨#[93]⟩:ByteArray).size=1:=rfl;simp only [VR.sat,UF,GA,UI,UL,Av,e1,e2,e3]
 (with_reducible repeat' first|apply Al|intro _)
 all_goals first|exact Ak|omega|rfl|exact VW|exact UK|decide
theorem iW:VU VT 59 Qj0:=by
 refine ⟨(UM Tryz.func59),?_⟩;intro avs ns res h hn;unfold Qj0 at h;split at h
 ·cases h;exact iX _ _ (hn _ VZ) (hn _ VZ)
 ·cases h
theorem bC(s:ByteArray)(k:Nat):0<=DD s k/\DD s k<=255:=by
 unfold DD;have:=(s.data.getD k 0).toNat_lt;omega
theorem RY(A B:ByteArray)(j:Nat):DD (A++B) j=if j<A.size then DD A j else DD B (j-A.size):=by
 unfold DD;have e:(A++B).data=A.data++B.data:=ByteArray.data_append;rw [e,LV,Array.getElem?_append];have hs:A.data.size=A.size:=rfl;rw [hs];split
 ·rw [LV]
 ·rw [LV]
theorem Xn7(A B:ByteArray)(j:Nat):GM A.size (D3 A) (D3 B) j=D3 (A++B) j:=by
 show HG (decide (j<A.size)) (D3 A j) (D3 B (j-A.size))=_;unfold D3;rw [RY];by_cases h:j<A.size
 ·rw [decide_eq_true h,if_pos h];rfl
 ·rw [decide_eq_false h,if_neg h];rfl
theorem Wc2(s:ByteArray)(k:Nat)(h:k<1000):0<=((k:Int)+2)*(DD s k+3)/\((k:Int)+2)*(DD s k+3)<=258516:=by
 have hb:=bC s k;refine ⟨Int.mul_nonneg VO VO,?_⟩;have h1:((k:Int)+2)*(DD s k+3)<=((k:Int)+2)*258:=Int.mul_le_mul_of_nonneg_left VO VO;omega
theorem uU(s:ByteArray)(ix:Int)(O:0<=ix/\ix<=100000): ∀k:Nat,k<=1000->0<=tpC s ix k/\tpC s ix k<=2400000+(k:Int)*258516
 | 0,_=>by
  show 0<=23*(ix+1)/\23*(ix+1)<=_;omega
 |k+1,hk=>by
  have ih:=uU s ix O k VO;have hm:=Wc2 s k VO;have e:tpC s ix (k+1)=tpC s ix k+((k:Int)+2)*(DD s k+3):=rfl;rw [e];generalize ((k:Int)+2)*(DD s k+3)=z at hm;omega
section
variable (s:ByteArray)
theorem CM(ix:Int):(rcB s ix).size=12+s.size:=by
 unfold rcB;rw [Av,Av,qM];have e1:(⟨#[10]⟩:ByteArray).size=1:=rfl;omega
theorem kV(L:Nat->ByteArray): ∀n,(∀k,k<n->(L k).size<=200)->(flB L n).size<=n*212
 | 0,_=>Am 0
 |n+1,h=>by
  have ih:=kV L n λk hk=>h k VO
  show (flB L n++rcB (L n) n).size<=_;rw [Av,CM];have:=h n VO;omega
abbrev Z5:AV:=lst 1 (ByteArray.size s) λj=>[AV.x (.int IntKind.u8 (DD s j))]
abbrev YJ:AV:=FO s
def Zs5(ix:Int):St:={σ:=[YJ s,iI ix,top,top,ptr 0 0]++HO 7 [Z5 s,iI (↑(ByteArray.size s):Int)]++HO 19 [],m:=[(0,GU.cells 144 JS)],nx:=9}
noncomputable def Jr7:Code:=UE (VX (UB Tryz.f58) 0)
def Wk6(ix:Int)(k:Nat):St:=(upM [(5,i (tpC s ix k)),(6,.top),(7,.top),(14,i k)] (Zs5 s ix))
def CU(ix:Int)(k:Nat):GB->Option St
 | .exit 0=>some (upM [(5,i (tpC s ix s.size)),(6,.top),(7,.top),(14,i s.size)] (Zs5 s ix))
 |_=>none
def Jn1(ix:Int):CT:= .leaf (.exit 0,(CU s ix 0 (.exit 0)).getD (Zs5 s ix))
def Xy1(ix:Int):UN:=(HM (Wk6 s ix (0)) (Jn1 s ix))
theorem Zz9(ix:Int)(VW:s.size<=1000)(UK:0<=ix/\ix<=100000):GC VT (.loop Jr7) (Xy1 s ix):=by
 refine HL (L:=[]) Aa U3 U8 (X:=Nat) (Wk6 s ix) (λk=>k<=s.size) (λk=>s.size-k) (CU s ix) (x0:=0) VZ ?_ ?_ ?_
 ·rintro k;kernel_rfl
 ·rintro k y E h;unfold CU at h;split at h
  ·cases h;kernel_rfl
  ·cases h
 ·rintro Q hQ k hx;refine ⟨(k+1),?_⟩;(with_reducible refine DN (t:=branch (decide ((k:Int)<(↑(ByteArray.size s):Int))) (need [UO k (ByteArray.size s)] (need [VQ ((k:Int)+2)] (need [VQ (DD s k)] (need [VQ (DD s k+3)] (need [VQ (((k:Int)+2)*(DD s k+3))] (need [VQ (tpC s ix k+((k:Int)+2)*(DD s k+3))] (need [VQ ((k:Int)+1)] (need [YJ s=YJ s,ix=ix,QS,tpC s ix k+((k:Int)+2)*(DD s k+3)=tpC s ix (k+1),Z5 s=Z5 s,U4 (↑(ByteArray.size s):Int),(k:Int)+1=(↑(k+1):Int),QY,QY] (leaf GB.normal))))))))) (need [YJ s=YJ s,ix=ix,QS,tpC s ix k=tpC s ix (ByteArray.size s),Z5 s=Z5 s,U4 (↑(ByteArray.size s):Int),(k:Int)=(↑(ByteArray.size s):Int),QY,QY] (leaf (GB.exit 0)))) VY ?_);simp only [Jn1,CU,VR.sat,GZ] at hQ;simp only [VR.sat,UF,GA,GR,UI,VQ,UL,HD,RF,RG,L9,GT,CU]
  have h1:=uU s ix UK k VO;refine ⟨λh=>?_,λh=>?_⟩
  ·have hk:k<s.size:=VO;have h2:=Wc2 s k VO;have h3:=bC s k;have e0:tpC s ix (k+1)=tpC s ix k+((k:Int)+2)*(DD s k+3):=rfl;generalize ((k:Int)+2)*(DD s k+3)=z at h2 e0 ⊢;exact V4
  ·obtain rfl:k=s.size:=VO;exact V4
end
def zJ:G0
 |[.x (.string s),.x (.int .i64 ix)]=>some ([s.size<=1000,0<=ix/\ix<=100000],.agg [i s.size,i (tpK s ix)])
 |_=>none
theorem pZ(s:ByteArray)(ix:Int)(VW:s.size<=1000)(UK:0<=ix/\ix<=100000):U2 VT 58 [.x (.string s),i ix] (.agg [i s.size,i (tpK s ix)]):=by
 refine GF (L:=[Xy1 s ix]) Aa Ad U3 Tryz.func58 (UY Tryz.f58) (G4 (lpE (b:= .loop Jr7) VY<|(Zz9 s ix VW UK).N)) (t:=need [VQ (ix+1)] (need [VQ ((23:Int)*(ix+1))] (need [ByteArray.size s<=4294967296] (need [YJ s=YJ s,ix=ix,QS,(23:Int)*(ix+1)=tpC s ix 0,Z5 s=Z5 s,U4 (↑(ByteArray.size s):Int),(0:Int)=(↑(0:Nat):Int),QY,QY] (need [(99971:Int)≠0] (leaf (RV.agg [RV.x (.int .i64 (↑(ByteArray.size s):Int)),RV.x (.int .i64 (Int.tmod (tpC s ix (ByteArray.size s)) (99971:Int)))]))))))) VY ?_
 have h1:=uU s ix UK s.size VW;simp only [VR.sat,UF,GA,GR,UI,UL,VQ];all_goals exact VB
theorem jB:VU VT 58 zJ:=by
 refine ⟨(UM Tryz.func58),?_⟩;intro avs ns res h hn;unfold zJ at h;split at h
 ·cases h;exact pZ _ _ (hn _ VZ) (hn _ VZ)
 ·cases h
section
variable (n:Nat)(L:Nat->ByteArray)
def Zt9:St:={σ:=[Q8 n L,top,QH,top,top,top,Q8 n L,iI (n:Int)]++HO 16 [],m:=[(901,GU.row 5 1 0 λx=>[])],nx:=902}
noncomputable def Jt4:Code:=UE (VX (UB Tryz.f31) 0)
def Wm5(k:Nat):St:={σ:=H6 [(3,.row 901),(4,.top),(5,.top),(8,i k)] (Zt9 n L).σ,m:=[(901,.row 5 1 (flB L k).size (D3 (flB L k)))],nx:=902}
def E7(k:Nat):GB->Option St
 | .exit 0=>some {σ:=H6 [(3,.row 901),(4,.top),(5,.top),(8,i n)] (Zt9 n L).σ,m:=[(901,.row 5 1 (flB L n).size (D3 (flB L n)))],nx:=902}
 |_=>none
def Jp1:CT:= .leaf (.exit 0,(E7 n L 0 (.exit 0)).getD (Zt9 n L))
def Za4:UN:=GO [(.slot 3,901,5,1)] (HM (Wm5 n L (0)) (Jp1 n L))
theorem Jj6(VW:n<=50)(UK: ∀k,k<n->(L k).size<=200):GC VT (.loop Jt4) (Za4 n L):=by
 refine G7 [(.slot 3,901,5,1)] (L:=[]) (Ae jB (Ae iW Aa)) Ad U3 U8 (X:=Nat) (Wm5 n L) (λk=>k<=n) (λk=>n-k) (E7 n L) (x0:=0) VZ ?_ ?_ ?_
 ·rintro k;kernel_rfl
 ·rintro k y E h;unfold E7 at h;split at h
  ·cases h;kernel_rfl
  ·cases h
 ·rintro Q hQ k hx;refine ⟨(k+1),?_⟩;(with_reducible refine DN (t:=branch (decide ((k:Int)<(n:Int))) (need [UO k n] (need [ByteArray.size (L k)<=1000,(0:Int)<=(k:Int)/\(k:Int)<=100000] (need [(0:Int)<=(↑(ByteArray.size (L k)):Int)/\(↑(ByteArray.size (L k)):Int)<=1000000000,(0:Int)<=tpK (L k) (k:Int)/\tpK (L k) (k:Int)<=1000000000] (need [(↑(ByteArray.size (tpB (↑(ByteArray.size (L k)):Int) (tpK (L k) (k:Int)))+ByteArray.size (L k)):Int)<=9223372036854775807] (need [(↑(ByteArray.size (tpB (↑(ByteArray.size (L k)):Int) (tpK (L k) (k:Int))++L k)+ByteArray.size {data:=#[10] }):Int)<=9223372036854775807] (need [ByteArray.size (flB L k)+ByteArray.size (tpB (↑(ByteArray.size (L k)):Int) (tpK (L k) (k:Int))++L k++{data:=#[10] })<=140737488355328] (need [VQ ((k:Int)+1)] (need [U4 (Q8 n L),QH=QH,WI,U4 (Q8 n L),U4 (n:Int),(k:Int)+1=(↑(k+1):Int),ByteArray.size (flB L k)+ByteArray.size (tpB (↑(ByteArray.size (L k)):Int) (tpK (L k) (k:Int))++L k++{data:=#[10] })=ByteArray.size (flB L (k+1)),∀(i:Nat),i<ByteArray.size (flB L (k+1))->GM (ByteArray.size (flB L k)) (D3 (flB L k)) (D3 (tpB (↑(ByteArray.size (L k)):Int) (tpK (L k) (k:Int))++L k++{data:=#[10] })) i=D3 (flB L (k+1)) i] (leaf GB.normal))))))))) (need [U4 (Q8 n L),QH=QH,WI,U4 (Q8 n L),U4 (n:Int),(k:Int)=(n:Int),ByteArray.size (flB L k)=ByteArray.size (flB L n),∀(i:Nat),i<ByteArray.size (flB L n)->D3 (flB L k) i=D3 (flB L n) i] (leaf (GB.exit 0)))) VY ?_);simp only [Jp1,E7,VR.sat,GZ] at hQ;simp only [VR.sat,UF,GA,GR,UI,VQ,UL,HD,RF,RG,L9,GT,E7]
  have h1:=kV L k λj hj=>UK j VO
  refine ⟨λh=>?_,λh=>?_⟩
  ·have hk:k<n:=VO;have h2:=UK k hk;have h3:=uU (L k) k VO (L k).size VO;have h4:tpK (L k) k=(tpC (L k) k (L k).size)%99971:=Int.tmod_eq_emod_of_nonneg h3.1;have h5:0<=tpK (L k) k/\tpK (L k) k<99971:=VO;have h6:=CM (L k) k;have h7:=qM ((L k).size:Int) (tpK (L k) k);have e0:(flB L (k+1)).size=(flB L k).size+(rcB (L k) k).size:=Av;have e1:(⟨#[10]⟩:ByteArray).size=1:=rfl;have e2:(tpB ((L k).size:Int) (tpK (L k) k)++L k).size=11+(L k).size:=by rw [Av,h7]
   have e3:(tpB ((L k).size:Int) (tpK (L k) k)++L k++⟨#[10]⟩).size=12+(L k).size:=h6;have hq: ∀j,GM (flB L k).size (D3 (flB L k)) (D3 (tpB ((L k).size:Int) (tpK (L k) k)++L k++⟨#[10]⟩)) j=D3 (flB L (k+1)) j:=λj=>Xn7 _ (rcB (L k) k) j
   (with_reducible repeat' first|apply Al|intro _)
   all_goals first|exact PU|(first|exact hq _|(rw [e2,e1];omega)|(rw [e3];omega)|(rw [h7];omega))
  ·obtain rfl:k=n:=VO;exact V4
theorem Wq4(VW:n<=50)(UK: ∀k,k<n->(L k).size<=200):U2 VT 31 [lns n L] (.lst 1 (flB L n).size (D3 (flB L n))):=by
 refine GF (L:=[Za4 n L]) (Ae jB (Ae iW Aa)) Ad U3 Tryz.func31 (UY Tryz.f31) (G4 (lpE (b:= .loop Jt4) VY<|(Jj6 n L VW UK).N)) (t:=need [U4 (Q8 n L),QH=QH,WI,U4 (Q8 n L),U4 (n:Int),(0:Int)=(↑(0:Nat):Int),0=ByteArray.size (flB L 0),∀(i:Nat),i<ByteArray.size (flB L 0)->[]=D3 (flB L 0) i] (leaf (RV.lst 1 (ByteArray.size (flB L n)) λj=>[AV.x (.int IntKind.u8 (DD (flB L n) j))]))) VY ?_
 simp only [VR.sat,UF,GA,GR,UI,UL,VQ];have hx: ∀k,∀a∈D3 (flB L n) k,isX a:=λk a ha=>by rw [B9.1 ha];exact Ak
 (with_reducible repeat' first|apply Al|intro _)
 all_goals first|exact Ak|omega|rfl|(rename_i h;exact absurd h (Aq _))|exact hx _ _ (by assumption)|decide
def Xb9:G0:=λl=>some ([l=[lns n L],ckE n L=0],.lst 1 (flB L n).size (D3 (flB L n)))
theorem Qs7:VU VT 31 (Xb9 n L):=by
 refine ⟨(UM Tryz.func31),?_⟩;intro avs ns res h hn;cases h;have e:avs=[lns n L]:=hn _ VZ;have h0:ckE n L=0:=hn _ VZ;subst e;have hk:=IX h0;exact Wq4 n L hk.1 hk.2
theorem S0(VW:n<=100):US VT 13 [lns n L] (.branch (ckE n L != 0) (.leaf (.tup [.x (.slice none 0 0),i (ckE n L)])) (.leaf (.tup [.lst 1 (flB L n).size (D3 (flB L n)),i 0]))):=by
 refine GX (L:=[]) (Ae (B6 n L VO) (Ae (Qs7 n L) Aa)) Ad U3 Tryz.func13 (UY Tryz.f13) G9 (t:=need [(Y6 n L)] (branch (ckE n L != 0) (leaf (tup [QH,iI (ckE n L)])) (need [(Y6 n L),ckE n L=0] (leaf (tup [lst 1 (ByteArray.size (flB L n)) λj=>[AV.x (.int IntKind.u8 (DD (flB L n) j))],iI 0]))))) VY ?_
 intro Q hQ;simp only [VR.sat,UF,UL,VQ,DR] at hQ ⊢;refine ⟨λh=>⟨.tup [.x (.slice none 0 0),i (ckE n L)],⟨rfl,⟨rfl,rfl⟩,Ak⟩,hQ.1 h⟩,λh=>?_⟩
 have h0:ckE n L=0:=by simpa using h
 (with_reducible repeat' first|apply Al|intro _)
 all_goals first|exact Ak|exact h0|rfl|(exact ⟨.tup [.lst 1 (flB L n).size (D3 (flB L n)),i 0],⟨⟨rfl,rfl,λ_ _=>rfl⟩,⟨rfl,rfl⟩,Ak⟩,hQ.2 h⟩)
end
end Go.Proofs.YtlclobclmfhlmaaGreatDoor.Hd
