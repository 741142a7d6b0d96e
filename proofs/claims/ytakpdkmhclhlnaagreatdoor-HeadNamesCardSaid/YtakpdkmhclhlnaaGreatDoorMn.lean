/- Contracts, put together. Conditions: those of each. -/
import Derived.Test.YtakpdkmhclhlnaaGreatDoorMm
import Derived.RangeFuncRecord
set_option linter.unusedSimpArgs false
set_option linter.unusedVariables false
set_option maxRecDepth 100000
namespace Go.Proofs.YtakpdkmhclhlnaaGreatDoor.Hd
open Go Go.RowKit
structure aE (w w':World):Prop where
 size:w.heap.size<=w'.heap.size
 os:w'.os=w.os
 tape:w'.tape=w.tape
 output:w'.output=w.output
theorem Xz1{w:World}{p:Nat}{v:Value}{T:TypeId}(h:w.heap[p]? =some (.cells #[v] T (0,0)))(y:Nat):(w.setCell ⟨p,0,none⟩ v).heap[y]? =w.heap[y]? :=by
 by_cases hy:y=p
 ·subst hy;rw [heap_setCell_same w y 0 _ _ v h,h];rfl
 ·exact heap_setCell_other _ _ _ _ hy
abbrev XX(b:Nat):Value:=Value.pointer (some ⟨b,0,none⟩)
abbrev K8:Value:=Value.int IntKind.i64 0
set_option maxHeartbeats 2000000 in
theorem Ze4(b:Nat)(str:ByteArray)(a0 a3 a4 a5:Option Addr)(l0 q0 l3 q3 l4 q4 l5 q5:Nat)(i1 i2:Int)(w:World)(hb:w.heap[b]? =some (.cells #[.slice a0 l0 q0,.int .i64 i1,.int .i64 i2,.slice a3 l3 q3,.slice a4 l4 q4,.slice a5 l5 q5] 99 (0,0)))
  (e:Int)(touched:Nat->Prop)(ht: ∀y,touched y->y<w.heap.size)(P:World->World->Prop)
  (hl: ∀w2,aE w w2->(∀y,y<w.heap.size->w2.heap[y]? =w.heap[y]?)->Calls Tryz.prog 106 #[.pointer (some ⟨b,0,none⟩),.string str] w2 λen w3=>en=(if e=0 then .returned (.tuple #[]) else .panicked [{v:= .iface 211 (.agg #[.int .i64 e]),recovered:=false}])/\aE w2 w3/\(∀y,y<w2.heap.size-> ¬touched y->w3.heap[y]? =w2.heap[y]?)/\(∃c0 c1 c2 c3 c4 c5,w3.heap[b]? =some (.cells #[c0,c1,c2,c3,c4,c5] 99 (0,0)))/\P w2 w3):
  Calls Tryz.prog 63 #[.pointer (some ⟨b,0,none⟩),.string str] w λen w'=>en= .returned (.int .i64 e)/\ ∃w2 w3,aE w w2/\(∀y,y<w.heap.size->w2.heap[y]? =w.heap[y]?)/\P w2 w3/\aE w2 w3/\aE w3 w'/\(∀y,y<w3.heap.size->y≠b->y≠w.heap.size+1->w'.heap[y]? =w3.heap[y]?)/\w'.heap[b]? =(if e=0 then w3.heap[b]? else w.heap[b]?)/\(e=0-> ∀y:Nat,w'.heap[y]? =w3.heap[y]?):=by
 have hmf: ∀(fn:Fn) (first cap:Array Value) (w:World),(Instr.makeFunc fn first cap).run Tryz.prog w= .ok (.func fn first cap) w:=λ_ _ _ _=>rfl
 have lt: ∀{y o},w.heap[y]? =some o->y<w.heap.size:=λh=>(Array.getElem?_eq_some_iff.1 h).1
 have cb0:w.cell? ⟨b,0,none⟩=some (.slice a0 l0 q0):=by simp only [World.cell?,hb];rfl
 have cb1:w.cell? ⟨b,1,none⟩=some (.int .i64 i1):=by simp only [World.cell?,hb];rfl
 have cb2:w.cell? ⟨b,2,none⟩=some (.int .i64 i2):=by simp only [World.cell?,hb];rfl
 have cb3:w.cell? ⟨b,3,none⟩=some (.slice a3 l3 q3):=by simp only [World.cell?,hb];rfl
 have cb4:w.cell? ⟨b,4,none⟩=some (.slice a4 l4 q4):=by simp only [World.cell?,hb];rfl
 have cb5:w.cell? ⟨b,5,none⟩=some (.slice a5 l5 q5):=by simp only [World.cell?,hb];rfl
 have nb: ¬w.heap.size=b:=λh=>by have:=lt hb;omega
 have nb': ¬b=w.heap.size:=λh=>by have:=lt hb;omega
 have nb1: ¬b=w.heap.size+1:=λh=>by have:=lt hb;omega
 have nb2: ¬b=w.heap.size+1+1:=λh=>by have:=lt hb;omega
 have nb1': ¬w.heap.size+1=b:=λh=>by have:=lt hb;omega
 have nb2': ¬w.heap.size+1+1=b:=λh=>by have:=lt hb;omega
 have hA: ∀y,y<w.heap.size->((w.alloc (Obj.cells #[XX b] 95)).alloc (Obj.cells #[K8] 23)).heap[y]? =w.heap[y]? :=λy hy=>(Go.RowKit.Below.heap_alloc _ _ y (Nat.lt_succ_of_lt hy |> λh=>by simpa using h)).trans (Go.RowKit.Below.heap_alloc w _ y hy)
 have hAb:=(hA b (lt hb)).trans hb;have d0:((w.alloc (Obj.cells #[XX b] 95)).alloc (Obj.cells #[Value.int IntKind.i64 0] 23)).cell? ⟨b,0,none⟩=some (.slice a0 l0 q0):=by simp only [World.cell?,hAb];rfl
 have d1:((w.alloc (Obj.cells #[XX b] 95)).alloc (Obj.cells #[Value.int IntKind.i64 0] 23)).cell? ⟨b,1,none⟩=some (.int .i64 i1):=by simp only [World.cell?,hAb];rfl
 have d2:((w.alloc (Obj.cells #[XX b] 95)).alloc (Obj.cells #[Value.int IntKind.i64 0] 23)).cell? ⟨b,2,none⟩=some (.int .i64 i2):=by simp only [World.cell?,hAb];rfl
 have d3:((w.alloc (Obj.cells #[XX b] 95)).alloc (Obj.cells #[Value.int IntKind.i64 0] 23)).cell? ⟨b,3,none⟩=some (.slice a3 l3 q3):=by simp only [World.cell?,hAb];rfl
 have d4:((w.alloc (Obj.cells #[XX b] 95)).alloc (Obj.cells #[Value.int IntKind.i64 0] 23)).cell? ⟨b,4,none⟩=some (.slice a4 l4 q4):=by simp only [World.cell?,hAb];rfl
 have d5:((w.alloc (Obj.cells #[XX b] 95)).alloc (Obj.cells #[Value.int IntKind.i64 0] 23)).cell? ⟨b,5,none⟩=some (.slice a5 l5 q5):=by simp only [World.cell?,hAb];rfl
 have s1:(w.alloc (Obj.cells #[Value.pointer (some ⟨b,0,none⟩)] 95)).heap.size=w.heap.size+1:=by simp
 have s2:((w.alloc (Obj.cells #[Value.pointer (some ⟨b,0,none⟩)] 95)).alloc (Obj.cells #[Value.int IntKind.i64 0] 23)).heap.size=w.heap.size+2:=by simp
 have s3:(((w.alloc (Obj.cells #[XX b] 95)).alloc (Obj.cells #[K8] 23)).alloc (Obj.cells #[.slice a0 l0 q0,.int .i64 i1,.int .i64 i2,.slice a3 l3 q3,.slice a4 l4 q4,.slice a5 l5 q5] 43)).heap.size=w.heap.size+3:=by simp
 have hB: ∀y,y<w.heap.size->(((w.alloc (Obj.cells #[XX b] 95)).alloc (Obj.cells #[K8] 23)).alloc (Obj.cells #[.slice a0 l0 q0,.int .i64 i1,.int .i64 i2,.slice a3 l3 q3,.slice a4 l4 q4,.slice a5 l5 q5] 43)).heap[y]? =w.heap[y]? :=λy hy=>(Go.RowKit.Below.heap_alloc _ _ y (by rw [s2];omega)).trans (hA y hy)
 have b5:(((w.alloc (Obj.cells #[XX b] 95)).alloc (Obj.cells #[K8] 23)).alloc (Obj.cells #[.slice a0 l0 q0,.int .i64 i1,.int .i64 i2,.slice a3 l3 q3,.slice a4 l4 q4,.slice a5 l5 q5] 43)).heap[w.heap.size+2]? =some (.cells #[.slice a0 l0 q0,.int .i64 i1,.int .i64 i2,.slice a3 l3 q3,.slice a4 l4 q4,.slice a5 l5 q5] 43 (0,0)):=by
  have:=World.alloc_heap_new ((w.alloc (Obj.cells #[XX b] 95)).alloc (Obj.cells #[K8] 23)) (Obj.cells #[.slice a0 l0 q0,.int .i64 i1,.int .i64 i2,.slice a3 l3 q3,.slice a4 l4 q4,.slice a5 l5 q5] 43);rw [s2] at this;exact this
 have b4:(((w.alloc (Obj.cells #[XX b] 95)).alloc (Obj.cells #[K8] 23)).alloc (Obj.cells #[.slice a0 l0 q0,.int .i64 i1,.int .i64 i2,.slice a3 l3 q3,.slice a4 l4 q4,.slice a5 l5 q5] 43)).heap[w.heap.size+1]? =some (.cells #[.int .i64 0] 23 (0,0)):=by
  have:=World.alloc_heap_new (w.alloc (Obj.cells #[Value.pointer (some ⟨b,0,none⟩)] 95)) (Obj.cells #[Value.int IntKind.i64 0] 23);rw [s1] at this;exact (Go.RowKit.Below.heap_alloc _ _ _ (by rw [s2];omega)).trans this
 have b2:(((w.alloc (Obj.cells #[XX b] 95)).alloc (Obj.cells #[K8] 23)).alloc (Obj.cells #[.slice a0 l0 q0,.int .i64 i1,.int .i64 i2,.slice a3 l3 q3,.slice a4 l4 q4,.slice a5 l5 q5] 43)).heap[w.heap.size]? =some (.cells #[.pointer (some ⟨b,0,none⟩)] 95 (0,0)):=by
  have:=World.alloc_heap_new w (Obj.cells #[Value.pointer (some ⟨b,0,none⟩)] 95);exact (Go.RowKit.Below.heap_alloc _ _ _ (by rw [s2];omega)).trans ((Go.RowKit.Below.heap_alloc _ _ _ (by rw [s1];omega)).trans this)
 have hG:aE w (((w.alloc (Obj.cells #[XX b] 95)).alloc (Obj.cells #[K8] 23)).alloc (Obj.cells #[.slice a0 l0 q0,.int .i64 i1,.int .i64 i2,.slice a3 l3 q3,.slice a4 l4 q4,.slice a5 l5 q5] 43)):=⟨by rw [s3];omega,rfl,rfl,rfl⟩
 have FC:=hl _ hG hB;by_cases he:e=0
 ·subst he;simp only [if_pos rfl] at FC ⊢
  go_enter_defers Tryz.func63,Tryz.ntmps63
  go_wp2_with (go_at_call 106;refine FC.mono ?_;rintro en w3 ⟨rfl,g1,g2,g3,g4⟩;have h4:=(g2 (w.heap.size+1) (by rw [s3];omega) (λh=>by have:=ht _ h;omega)).trans b4;have k4:w3.cell? ⟨w.heap.size+1,0,none⟩=some (.int .i64 0):=(by simp only [World.cell?,h4];rfl);have f4:w3.frozen? ⟨w.heap.size+1,0,none⟩=false:=(by simp only [World.frozen?,h4];rfl))
  refine leaves_cons (f:=105) (args:=#[.pointer (some ⟨w.heap.size+2,0,none⟩),.pointer (some ⟨w.heap.size,0,none⟩),.pointer (some ⟨w.heap.size+1,0,none⟩)]) (by simp) (by simp [go_sem]) ?_
  refine (Qk4 _ _ _ _).mono ?_;rintro e' u' w'' ⟨rfl,rfl,rfl⟩;have kc:(w3.setCell ⟨w.heap.size+1,0,none⟩ (.int .i64 0)).cell? ⟨w.heap.size+1,0,none⟩=some (.int .i64 0):=by simp only [World.cell?,heap_setCell_same w3 _ 0 _ _ (.int .i64 0) h4];rfl
  simp [Leaves,settle,results,Tryz.results63,go_sem,kc];exact ⟨_,hG,hB,w3,g4,g1,⟨by simp,rfl,rfl,rfl⟩,λy _ _ h2=>heap_setCell_other _ _ _ _ h2,heap_setCell_other _ _ _ _ nb1,λy=>Xz1 h4 y⟩
 ·simp only [if_neg he] at FC ⊢
  go_enter_defers Tryz.func63,Tryz.ntmps63
  go_wp2_with (go_at_call 106;refine FC.mono ?_;rintro en w3 ⟨rfl,g1,g2,g3,g4⟩;have h4:=(g2 (w.heap.size+1) (by rw [s3];omega) (λh=>by have:=ht _ h;omega)).trans b4;have k4:w3.cell? ⟨w.heap.size+1,0,none⟩=some (.int .i64 0):=(by simp only [World.cell?,h4];rfl);have f4:w3.frozen? ⟨w.heap.size+1,0,none⟩=false:=(by simp only [World.frozen?,h4];rfl))
  refine leaves_cons (f:=105) (args:=#[.pointer (some ⟨w.heap.size+2,0,none⟩),.pointer (some ⟨w.heap.size,0,none⟩),.pointer (some ⟨w.heap.size+1,0,none⟩)]) (by simp) (by simp [go_sem]) ?_
  obtain ⟨c0,c1,c2,c3,c4,c5,g3⟩:=g3;have h2:=(g2 w.heap.size (by rw [s3];omega) (λh=>by have:=ht _ h;omega)).trans b2
  have h5:=(g2 (w.heap.size+2) (by rw [s3];omega) (λh=>by have:=ht _ h;omega)).trans b5
  refine (nM b w.heap.size (w.heap.size+1) (w.heap.size+2) e 0 a0 a3 a4 a5 l0 q0 l3 q3 l4 q4 l5 q5 i1 i2 c0 c1 c2 c3 c4 c5 [] w3 h2 h5 h4 g3 (λh=>nb1 h.symm)).mono ?_
  rintro e' u' w'' ⟨rfl,rfl,m1,m2,m3,m4,m5⟩;have kc:w''.cell? ⟨w.heap.size+1,0,none⟩=some (.int .i64 e):=by simp only [World.cell?,m3];rfl
  simp [Leaves,settle,results,Tryz.results63,go_sem,kc];exact ⟨_,hG,hB,w3,g4,g1,⟨m1,m4.1,m4.2.1,m4.2.2⟩,m5,m2.trans hb.symm,λh=>absurd h he⟩
open Go Go.Sx Go.RowKit
open Go.Sx.VO (need branch leaf)
open Go.Sx.AV (lst ptr agg roI tup top)
theorem kR{e:UM}{w:World}{sz n:Nat}{f:Nat->List AV}{v:Value}(h:Rep e w (.lst sz n f) v): ∃a l c,v= .slice a l c:=by
 cases h with
 |lstNil=>exact ⟨_,_,_,rfl⟩
 |lst=>exact ⟨_,_,_,rfl⟩
theorem Xy8(W:Nat->ByteArray)(s:HS):(F2 W s).xn=s.xn/\(F2 W s).xg=s.xg/\(F2 W s).yn=s.yn/\(F2 W s).yg=s.yg:=by
 unfold F2;split<;>exact ⟨rfl,rfl,rfl,rfl⟩
theorem Xg3(e:Int):Xg4 211 (rsE e)=(if e=0 then .returned (.tuple #[]) else .panicked [{v:= .iface 211 (.agg #[.int .i64 e]),recovered:=false}]):=by
 unfold rsE Xg4;by_cases h:e=0
 ·simp [h]
 ·simp [h]
def Xo8(e:UM)(w0:World)(T:Nat->Prop)(q r t:Nat)(s s':HS)(er:Int)(w2 w3:World):Prop:=
 Below w0.heap.size w0 w3/\(∀x,(e.ro x\/(w0.heap.size<=x/\x<w2.heap.size/\e.own x≠some q/\e.own x≠some r/\e.own x≠some t))->w3.heap[x]? =w2.heap[x]?)/\
 ∃ro1:Nat->Prop,(∀x,e.ro x->ro1 x)/\(∀x,T x-> ¬ro1 x)/\UY {e with ro:=ro1,own:=LM e q r t} w0.heap.size w3/\
  GH {e with ro:=ro1,own:=LM e q r t} w3 q (.cells 99 (cond (rsE er).1 (hsL s') [.top,.top,.top,.top,.top,.top]))/\
  GH {e with ro:=ro1,own:=LM e q r t} w3 r (.row 23 1 s.xn s.xg)/\GH {e with ro:=ro1,own:=LM e q r t} w3 t (.row 9 1 s.yn s.yg)
theorem Ze6{str:ByteArray}{n:Nat}{W:Nat->ByteArray}{s:HS}(h:vD str n W)(hs:dY s)
  {e:UM}{w0 w:World}{T:Nat->Prop}{q r t:Nat}(hEv:UY e w0.heap.size w)(hB:Below w0.heap.size w0 w)(hT: ∀b,T b->b<w0.heap.size/\ ¬e.ro b)
  (hq:GH e w q (.cells 99 (hsL s)))(hr:GH e w r (.row 23 1 s.xn s.xg))(ht:GH e w t (.row 9 1 s.yn s.yg))(hqr:q≠r)(hqt:q≠t)(hrt:r≠t)(hrv: ∃a b c,e.val r= .slice a b c)(htv: ∃a b c,e.val t= .slice a b c):
  Calls Tryz.prog 63 #[.pointer (some ⟨e.blk q,0,none⟩),.string str] w λen w'=>en= .returned (.int .i64 (LQ W n s))/\ ∃w2 w3,aE w w2/\(∀y,y<w.heap.size->w2.heap[y]? =w.heap[y]?)/\Xo8 e w0 T q r t s (F2 W s) (LQ W n s) w2 w3/\aE w2 w3/\aE w3 w'/\(∀y,y<w3.heap.size->y≠e.blk q->y≠w.heap.size+1->w'.heap[y]? =w3.heap[y]?)/\w'.heap[e.blk q]? =(if LQ W n s=0 then w3.heap[e.blk q]? else w.heap[e.blk q]?)/\(LQ W n s=0-> ∀y:Nat,w'.heap[y]? =w3.heap[y]?):=by
 have hq0:=hq;obtain ⟨ql,qo,vs,qh,qv⟩:=hq;obtain ⟨u0,us,rfl,r0,qv⟩:=qv.cons_inv;obtain ⟨u1,us,rfl,r1,qv⟩:=qv.cons_inv;obtain ⟨u2,us,rfl,r2,qv⟩:=qv.cons_inv;obtain ⟨u3,us,rfl,r3,qv⟩:=qv.cons_inv;obtain ⟨u4,us,rfl,r4,qv⟩:=qv.cons_inv;obtain ⟨u5,us,rfl,r5,qv⟩:=qv.cons_inv;obtain rfl:=qv.nil_inv;obtain ⟨a0,l0,q0,rfl⟩:=kR r0;obtain rfl:=r1.x_inv;obtain rfl:=r2.x_inv;obtain ⟨a3,l3,q3,rfl⟩:=kR r3;obtain ⟨a4,l4,q4,rfl⟩:=kR r4;obtain ⟨a5,l5,q5,rfl⟩:=kR r5;refine Ze4 (e.blk q) str a0 a3 a4 a5 l0 q0 l3 q3 l4 q4 l5 q5 s.pl s.ph w qh (LQ W n s) (λy=>e.own y=some q\/e.own y=some r\/e.own y=some t) (λy hy=>by rcases hy with hy|hy|hy<;>exact (hEv.owned _ _ hy).2) (Xo8 e w0 T q r t s (F2 W s) (LQ W n s)) ?_
 intro w2 hG zW;have st:Step e e w w2:=⟨λb hb hro=>⟨hro,zW b hb⟩,λk hk=>⟨hk,rfl,rfl⟩,hG.size⟩
 have hE2:UY e w0.heap.size w2:=⟨λx hx=>⟨(hEv.apart x hx).1,xO (hEv.apart x hx).2 hG.size⟩,λx k hk=>⟨(hEv.owned x k hk).1,xO (hEv.owned x k hk).2 hG.size⟩,hEv.glob.step st⟩
 have hB2:Below w0.heap.size w0 w2:=⟨hG.os.trans hB.os,hG.tape.trans hB.tape,hG.output.trans hB.output,Ar hB.size hG.size,λx hx=>(zW x (xO hx hB.size)).trans (hB.block x hx)⟩
 have same: ∀{k:Nat} {R:GQ},Xd2 R=false->GH e w k R->GH e w2 k R:=λha hh=>LH st (λx hx=>⟨hx,zW x (hEv.owned _ _ hx).2⟩) ha hh
 have hx:=Xy8 W s;refine (Zf3 (Ql1 h hs) hx hE2 hB2 hT (same rfl hq0) (same rfl hr) (same rfl ht) hqr hqt hrt hrv htv).mono ?_;rintro en w3 ⟨rfl,g2,g3,g4,g5⟩;refine ⟨Xg3 _,⟨g3,g2.os.trans hB2.os.symm,g2.tape.trans hB2.tape.symm,g2.output.trans hB2.output.symm⟩,λy hy hn=>?_,?_,g2,g4,g5⟩
 ·rcases An y w0.heap.size with h1|h1
  ·exact (g2.block y h1).trans (hB2.block y h1).symm
  ·exact g4 y (.inr ⟨h1,hy,λh=>hn (.inl h),λh=>hn (.inr (.inl h)),λh=>hn (.inr (.inr h))⟩)
 ·obtain ⟨ro1,_,_,_,⟨_,_,vs1,k0,k1⟩,_⟩:=g5;have hl:vs1.length=6:=by
   rw [←k1.1];cases (rsE (LQ W n s)).1<;>rfl
  match vs1,hl,k0 with
  |[c0,c1,c2,c3,c4,c5],_,k0=>exact ⟨c0,c1,c2,c3,c4,c5,k0⟩
theorem sY{w w':World}{T sz n:Nat}{v:Value}{xs:List Value}(h:w.ownsRow 0 T sz v n xs)(k: ∀b,v.ownBlock=some b->w'.heap[b]? =w.heap[b]?):w'.ownsRow 0 T sz v n xs:=by
 refine ⟨h.1,?_⟩;rcases h.2 with h2|⟨g,cap,cur,rfl,h3,h4,h5⟩
 ·exact .inl h2
 ·exact .inr ⟨g,cap,cur,rfl,h3,(k g rfl).trans h4,h5⟩
theorem Ze5{str:ByteArray}{n:Nat}{W:Nat->ByteArray}{s:HS}(h:vD str n W)(hs:dY s)
  {e:UM}{w0 w:World}{T:Nat->Prop}{q r t:Nat}(hEv:UY e w0.heap.size w)(hB:Below w0.heap.size w0 w)(hT: ∀b,T b->b<w0.heap.size/\ ¬e.ro b)
  (hq:GH e w q (.cells 99 (hsL s)))(hr:GH e w r (.row 23 1 s.xn s.xg))(ht:GH e w t (.row 9 1 s.yn s.yg))(hqr:q≠r)(hqt:q≠t)(hrt:r≠t)(hrv: ∃a b c,e.val r= .slice a b c)(htv: ∃a b c,e.val t= .slice a b c)
  (hxx: ∀i,i<s.xn-> ∀a∈s.xg i,∃u,a= .x u)(hyy: ∀i,i<s.yn-> ∀a∈s.yg i,∃u,a= .x u):
  Calls Tryz.prog 63 #[.pointer (some ⟨e.blk q,0,none⟩),.string str] w λen w'=>en= .returned (.int .i64 (LQ W n s))/\Below w0.heap.size w0 w'/\w.heap.size<=w'.heap.size/\(∀x,e.ro x->w'.heap[x]? =w.heap[x]?)/\
   ∃ro1:Nat->Prop,(∀x,e.ro x->ro1 x)/\(∀x,T x-> ¬ro1 x)/\UY {e with ro:=ro1,own:=LM e q r t} w0.heap.size w'/\
    GH {e with ro:=ro1,own:=LM e q r t} w' q (.cells 99 (hsL (if LQ W n s=0 then F2 W s else s)))/\GH {e with ro:=ro1,own:=LM e q r t} w' r (.row 23 1 s.xn s.xg)/\GH {e with ro:=ro1,own:=LM e q r t} w' t (.row 9 1 s.yn s.yg):=by
 refine (Ze6 h hs hEv hB hT hq hr ht hqr hqt hrt hrv htv).mono ?_;rintro en w' ⟨rfl,w2,w3,G1,e1,⟨B3,K3,ro1,R1,R2,R3,R4,R5,R6⟩,G2,G3,O1,O2,O3⟩;have hro: ∀x,e.ro x->x<w.heap.size/\x≠e.blk q:=λx hx=>⟨(hEv.apart x hx).2,λh=>by
  have h1:=(hEv.apart x hx).1;rw [h,hq.2.1] at h1;cases h1⟩
 have hqlt:e.blk q<w.heap.size:=(hEv.owned _ _ hq.2.1).2;have lt3: ∀{x},x<w.heap.size->x<w3.heap.size:=λh=>xO h (Ar G1.size G2.size)
 have hsz:w.heap.size<=w'.heap.size:=Ar (Ar G1.size G2.size) G3.size;have keep: ∀x,e.ro x->w'.heap[x]? =w.heap[x]? :=λx hx=>by
  rw [O1 x (lt3 (hro x hx).1) (hro x hx).2 (by have:=(hro x hx).1;omega),K3 x (.inl hx)]
  exact e1 x (hro x hx).1
 have b0:w0.heap.size<=e.blk q:=(hEv.owned _ _ hq.2.1).1;have hBel:Below w0.heap.size w0 w':=⟨G3.os.trans B3.os,G3.tape.trans B3.tape,G3.output.trans B3.output,Ar B3.size G3.size,λx hx=>by
  rw [O1 x (lt3 (xO hx hB.size)) VL (by have:=hB.size;omega)]
  exact B3.block x hx⟩
 refine ⟨rfl,hBel,hsz,keep,?_⟩;by_cases he:LQ W n s=0
 ·have HY:=O3 he;have hb:(rsE (LQ W n s)).1=true:=by rw [he];rfl
  rw [hb] at R4;rw [if_pos he];have st:Step {e with ro:=ro1,own:=LM e q r t} {e with ro:=ro1,own:=LM e q r t} w3 w':=⟨λb _ hr=>⟨hr,HY b⟩,λk hk=>⟨hk,rfl,rfl⟩,G3.size⟩
  exact ⟨ro1,R1,R2,⟨λx hx=>⟨(R3.apart x hx).1,xO (R3.apart x hx).2 G3.size⟩,λx k hk=>⟨(R3.owned x k hk).1,xO (R3.owned x k hk).2 G3.size⟩,R3.glob.step st⟩,LH st (λx hx=>⟨hx,HY x⟩) rfl R4,LH st (λx hx=>⟨hx,HY x⟩) rfl R5,LH st (λx hx=>⟨hx,HY x⟩) rfl R6⟩
 ·rw [if_neg he] at O2;rw [if_neg he];have st:Step e {e with own:=LM e q r t} w w':=⟨λb _ hr=>⟨hr,keep b hr⟩,λk hk=>⟨hk,rfl,rfl⟩,hsz⟩
  obtain ⟨ql,qo,vs,qh,qv⟩:=hq;have H5: ∀{x j},LM e q r t x=some j->w0.heap.size<=x/\x<w.heap.size:=by
   intro x j hj;unfold LM at hj;split at hj
   ·rename_i h;rw [h];exact hEv.owned _ _ qo
   split at hj
   ·rename_i h;exact hEv.owned _ _ (hr.2.1 x h)
   split at hj
   ·rename_i h;exact hEv.owned _ _ (ht.2.1 x h)
   ·cases hj
  have EE: ∀{k:Nat},k≠q->(∀b,(e.val k).ownBlock=some b->e.own b=some k)-> ∀b,(e.val k).ownBlock=some b->w'.heap[b]? =w3.heap[b]? :=by
   intro k hk ho b hb;have h1:=hEv.owned _ _ (ho b hb);refine O1 b (lt3 h1.2) (λh=>?_) (by have:=h1.2;omega)
   have h2:=ho b hb;rw [h,qo] at h2;exact hk (Bb h2).symm
  refine ⟨e.ro,λ_ h=>h,λx hx=>(hT x hx).2,⟨λx hx=>⟨?_,xO (hEv.apart x hx).2 hsz⟩,λx k hk=>⟨(H5 hk).1,xO (H5 hk).2 hsz⟩,hEv.glob.step st⟩,⟨ql,if_pos rfl,vs,O2.trans qh,qv.step st⟩,?_,?_⟩
  ·have h0:=(hEv.apart x hx).1;show LM e q r t x=none;unfold LM;rw [if_neg (hro x hx).2,if_neg (λh=>by rw [hr.2.1 x h] at h0;cases h0),if_neg (λh=>by rw [ht.2.1 x h] at h0;cases h0)]
  ·obtain ⟨l5,o5,f5,xs5,p5,r5⟩:=R5;refine ⟨l5,o5,f5,xs5,sY p5 (EE hqr.symm hr.2.1),λi j a v O ha hv=>?_⟩
   obtain ⟨u,rfl⟩:=hxx i O a (DX ha);rw [(r5 i j _ v O ha hv).x_inv];exact .x _
  ·obtain ⟨l6,o6,f6,xs6,p6,r6⟩:=R6;refine ⟨l6,o6,f6,xs6,sY p6 (EE hqt.symm ht.2.1),λi j a v O ha hv=>?_⟩
   obtain ⟨u,rfl⟩:=hyy i O a (DX ha);rw [(r6 i j _ v O ha hv).x_inv];exact .x _
def UM.nilAt(e:UM)(nx:Nat):UM:={ro:=e.ro,own:=e.own,live:=λk=>k=nx\/e.live k,blk:=e.blk,val:=λk=>if k=nx then .slice none 0 0 else e.val k}
theorem E0{e:UM}{nx:Nat}{w:World}(h: ¬e.live nx):Step e (UM.nilAt e nx) w w:=⟨λ_ _ h=>⟨h,rfl⟩,λk hk=>⟨.inr hk,rfl,by
 have:k≠nx:=λh'=>h (h'▸hk)
 simp [UM.nilAt,this]⟩,Am _⟩
theorem Wc2{e:UM}{nx B:Nat}{w:World}(h: ¬e.live nx)(hE:UY e B w):UY (UM.nilAt e nx) B w:=⟨hE.apart,hE.owned,hE.glob.step (E0 h)⟩
theorem Qk3(e:UM)(nx:Nat)(w:World)(T n:Nat)(f:Nat->List AV)(h:n=0):GH (UM.nilAt e nx) w nx (.row T 1 n f):=by
 subst h;refine ⟨.inl rfl,λb hb=>?_,λi O=>absurd O (Aq i),[],?_,λi j a v O=>absurd O (Aq i)⟩
 ·simp [UM.nilAt,Value.ownBlock] at hb
 ·have:(UM.nilAt e nx).val nx= .slice none 0 0:=by simp [UM.nilAt]
  rw [this];exact World.ownsRow_nil w 0 T 1
theorem MX{e:UM}{w:World}{k T sz n:Nat}{f:Nat->List AV}(h:GH e w k (.row T sz n f)): ∃a b c,e.val k= .slice a b c:=by
 obtain ⟨_,_,_,xs,h4,_⟩:=h;rcases h4.2 with ⟨h5,_⟩|⟨g,cap,cur,h5,_⟩
 ·exact ⟨_,_,_,h5⟩
 ·exact ⟨_,_,_,h5⟩
def lnW(s:ByteArray)(k:Nat):ByteArray:=(spl s ⟨#[32]⟩).getD k ByteArray.empty
def lnN(s:ByteArray):Nat:=Lib.countB s ⟨#[32]⟩+1
theorem fB(sep:ByteArray): ∀(k:Nat) (s:ByteArray),∀x∈Lib.splitB sep 0 k s,x.size<=s.size
 | 0,s,x,hx=>by
  simp only [Lib.splitB,GM,DL,or_false] at hx;rw [hx];exact Am _
 |k+1,s,x,hx=>by
  unfold Lib.splitB at hx;split at hx
  ·simp only [GM,DL,or_false] at hx;rw [hx];exact Am _
  ·rcases GM.1 hx with rfl|hx
   ·rw [ByteArray.size_extract];omega
   ·have:=fB sep k _ x hx;rw [ByteArray.size_extract] at this;omega
section
variable (s:ByteArray)
theorem Ql2(h:s.size<100000):vD s (lnN s) (lnW s):=by
 refine ⟨h,rfl,λk _=>rfl,λk=>?_⟩
 unfold lnW;rw [List.getD_eq_getElem?_getD];cases he:(spl s ⟨#[32]⟩)[k]? with
 |none=>exact Ao _
 |some x=>
  have:=fB _ _ _ x (DX he);show x.size<=100000;omega
def lnE(x:HS):Int:=LQ (lnW s) (lnN s) x
def lnS(x:HS):HS:=if lnE s x=0 then F2 (lnW s) x else x
end
def hsX(s:HS)(n:Nat)(g:Nat->List AV)(n':Nat)(g':Nat->List AV):HS:={s with xn:=n,xg:=g,yn:=n',yg:=g'}
theorem sJ(W:Nat->ByteArray)(n:Nat)(s:HS)(k k':Nat)(g g':Nat->List AV):LQ W n (hsX s k g k' g')=LQ W n s:=by
 unfold LQ;split<;>rfl
theorem Wz7(W:Nat->ByteArray)(s:HS)(k k':Nat)(g g':Nat->List AV):F2 W (hsX s k g k' g')=hsX (F2 W s) k g k' g':=by
 unfold F2;split<;>rfl
theorem Zg6{s:HS}(h:dY s)(k k':Nat)(g g':Nat->List AV):dY (hsX s k g k' g'):=⟨h.nr,h.bV,h.nc,h.sV⟩
theorem Zf2{s:HS}(h:dY s)(str:ByteArray):dY (lnS str s):=by
 unfold lnS;split
 ·rename_i h0;exact Wz6 h h0
 ·exact h
def hs0:HS:={nr:=0,ra:=λ_=>0,rb:=λ_=>0,ru:=λ_=>0,rv:=λ_=>0,pl:=760,ph:=760,nb:=0,ql:=λ_=>0,qh:=λ_=>0,qm:=λ_=>0,qr:=λ_ _=>0,qv:=λ_ _=>0,nc:=0,ca:=λ_=>0,cb:=λ_=>0,cc:=λ_=>0,cd:=λ_=>0,cv:=λ_=>false,ns:=0,sa:=λ_=>0,sb:=λ_=>0,sc:=λ_=>0,sl:=λ_=>0,sh:=λ_=>0,xn:=0,xg:=λ_=>[],yn:=0,yg:=λ_=>[] }
def sK(L:Nat->ByteArray):Nat->HS
 | 0=>hs0
 |k+1=>lnS (L k) (sK L k)
def eK(L:Nat->ByteArray)(k:Nat):Int:=lnE (L k) (sK L k)
def exG(L:Nat->ByteArray)(j:Nat):List AV:=[.x (.int .i64 (eK L j))]
theorem Zg8:dY hs0:=⟨Ao _,⟨⟨Ao _,λb hb=>absurd hb (Aq b)⟩,λb hb=>absurd hb (Aq b)⟩,Ao _,⟨Ao _,λk hk=>absurd hk (Aq k)⟩⟩
theorem fF(L:Nat->ByteArray): ∀k,dY (sK L k)
 | 0=>Zg8
 |k+1=>Zf2 (fF L k) (L k)
def A2(L:Nat->ByteArray)(N r:Nat):D0:=λavs m nx sv=>match avs with
 |[.ptr q 0,.x (.string str')]=>match DB m q with
  |some (.cells T l)=>match DB m r with
   |some (.row T1 sz1 n1 f1)=>match Nat.beq T 99&&Nat.beq T1 23&& !Nat.beq q r with
    |true=>some (.needT [n1<N,l=hsL (sK L n1),FR str'= .x (.string (L n1)),sz1=1,f1=exG L] (.leaf (.x (.int .i64 (eK L n1)),[(q,.cells 99 (hsL (sK L (n1+1)))),(r,.row 23 1 n1 (exG L))],nx+1,sv)))
    |false=>none
   |_=>none
  |_=>none
 |_=>none
theorem Wc3{L:Nat->ByteArray}{N r:Nat}(hL: ∀k,k<N->(L k).size<100000):
  GC VQ 63 (A2 L N r):=by
 refine ⟨(UJ Tryz.func63),?_⟩;intro avs m nx sv tr ht Q hQ cx w0 T e ds args w hE hB hm hlv LN hxt hr;unfold A2 at ht;split at ht
 ·rename_i q str';split at ht
  ·rename_i T l h1;split at ht
   ·rename_i T1 sz1 n1 f1 h2;split at ht
    ·rename_i hb;rw [HA,HA] at hb;obtain ⟨⟨hb1,hb2⟩,hb3⟩:=hb;obtain rfl:=GY hb1;obtain rfl:=GY hb2;have hqr:q≠r:=by
      rintro rfl;simp at hb3
     cases ht;obtain ⟨hn,hq⟩:=VO.sat_needT hQ;have hn:=GE hn;have e0:n1<N:=hn _ VW;have e1:l=hsL (sK L n1):=hn _ VW;have e2:FR str'= .x (.string (L n1)):=hn _ VW;have e3:sz1=1:=hn _ VW;have e5:f1=exG L:=hn _ VW;have e2:str'=L n1:=by
      injection e2 with e2
      injection e2
     subst e1 e2 e3 e5;obtain ⟨v0,l1,rfl,r1,hr⟩:=hr.cons_inv;obtain ⟨v1,l2,rfl,r2,hr⟩:=hr.cons_inv;obtain rfl:=hr.nil_inv;obtain rfl:=r2.x_inv;have hv0:v0= .pointer (some ⟨e.blk q,0,none⟩):=by cases r1;rfl
     subst hv0;have hid: ¬e.live nx:=λh=>Bf _ (hlv _ h)
     have hQ0:=hm _ (UX h1);have hR0:=hm _ (UX h2);have hqn:q≠nx:=λh=>hid (h▸hQ0.1)
     have hrn:r≠nx:=λh=>hid (h▸hR0.1)
     have st0:=E0 (w:=w) hid;have hQ1:GH (UM.nilAt e nx) w q (.cells 99 (hsL (sK L n1))):=LH st0 (λx hx=>⟨hx,rfl⟩) rfl hQ0
     have hR1:GH (UM.nilAt e nx) w r (.row 23 1 n1 (exG L)):=LH st0 (λx hx=>⟨hx,rfl⟩) rfl hR0
     have hT1:=Qk3 e nx w 9 0 (λ_=>[]) rfl
     have h:=Ql2 _ (hL n1 e0);have hs:=Zg6 (fF L n1) n1 0 (exG L) (λ_=>[])
     have hxx: ∀i,i<n1-> ∀a∈exG L i,∃u,a= .x u:=λi _ a ha=>⟨_,B7.1 ha⟩
     refine (Ze5 h hs (Wc2 hid hE) hB LN hQ1 hR1 hT1 hqr hqn hrn (MX hR1) (MX hT1) hxx (λi O=>absurd O (Aq i))).mono ?_
     rintro en w' ⟨rfl,g1,g2,g3,ro1,g4,g5,g6,g7,g8,g9⟩;have st:Step e {UM.nilAt e nx with ro:=ro1,own:=LM (UM.nilAt e nx) q r nx} w w':=⟨λb _ hb=>⟨g4 b hb,g3 b hb⟩,λk hk=>⟨.inr hk,rfl,(st0.live k hk).2.2⟩,g2⟩
     rw [sJ,Wz7] at g7;have g7:GH {UM.nilAt e nx with ro:=ro1,own:=LM (UM.nilAt e nx) q r nx} w' q (.cells 99 (hsL (sK L (n1+1)))):=by
      show GH _ w' q (.cells 99 (hsL (lnS (L n1) (sK L n1))));unfold lnS lnE;by_cases h0:LQ (lnW (L n1)) (lnN (L n1)) (sK L n1)=0
      ·rw [if_pos h0] at g7 ⊢;exact g7
      ·rw [if_neg h0] at g7 ⊢;exact g7
     rw [sJ];refine ⟨_,_,_,_,_,{UM.nilAt e nx with ro:=ro1,own:=LM (UM.nilAt e nx) q r nx},rfl,hq,g6,g1,?_,?_,λb hb=>⟨(LN b hb).1,g5 b hb⟩,hxt.step st,.x _⟩
     ·intro p hp;simp only [GM,DL,or_false] at hp;rcases hp with rfl|rfl
      ·exact g7
      ·exact g8
     ·rintro k (rfl|hk)
      ·exact Bk _
      ·exact Nat.lt_succ_of_lt (hlv k hk)
    ·cases ht
   ·cases ht
  ·cases ht
 ·cases ht
open Go Go.Sx Go.RowKit Bo
def cvB:GQ->GQ
 | .cells T [.x (.slice none 0 0),.x (.int .i64 a),.x (.int .i64 b),.x (.slice none 0 0),.x (.slice none 0 0),.x (.slice none 0 0)]=> .cells T [hsR hs0,i a,i b,hsB hs0,hsC hs0,hsS hs0]
 |r=>r
def cvM:H0->H0
 |[]=>[]
 |(k,r)::t=>(k,cvB r)::cvM t
noncomputable def s8:D0:=λavs m nx sv=>match m7 avs m nx sv with
 |some t=>some (t.bind λp=> .leaf (p.1,cvM p.2.1,p.2.2.1,p.2.2.2))
 |none=>none
theorem Zi9{e:UM}{w:World}{k:Nat}{r:GQ}(h:GH e w k r):GH e w k (cvB r):=by
 unfold cvB;split
 ·rename_i T a b;obtain ⟨h1,h2,vs,h3,h4⟩:=h;refine ⟨h1,h2,vs,h3,?_⟩;obtain ⟨u0,us,rfl,r0,h4⟩:=h4.cons_inv;obtain ⟨u1,us,rfl,r1,h4⟩:=h4.cons_inv;obtain ⟨u2,us,rfl,r2,h4⟩:=h4.cons_inv;obtain ⟨u3,us,rfl,r3,h4⟩:=h4.cons_inv;obtain ⟨u4,us,rfl,r4,h4⟩:=h4.cons_inv;obtain ⟨u5,us,rfl,r5,h4⟩:=h4.cons_inv;obtain rfl:=h4.nil_inv;obtain rfl:=r0.x_inv;obtain rfl:=r3.x_inv;obtain rfl:=r4.x_inv;obtain rfl:=r5.x_inv;exact .cons (.lstNil _ _) (.cons r1 (.cons r2 (.cons (.lstNil _ _) (.cons (.lstNil _ _) (.cons (.lstNil _ _) (.nil _ _))))))
 ·exact h
theorem Wo9{e:UM}{w:World}: ∀{m:H0},UW e m w->UW e (cvM m) w
 |[],_,p,hp=>by cases hp
 |(k,r)::t,h,p,hp=>by
  rcases GM.1 hp with rfl|hp
  ·exact Zi9 (h (k,r) GI)
  ·exact Wo9 (m:=t) (λq hq=>h q (HP _ hq)) p hp
theorem Qb9:GC VQ 67 s8:=by
 refine ⟨EM.1,?_⟩;intro avs m nx sv t ht Q hQ c w0 T e ds args w hE hB hm hl LN hxt hr;unfold s8 at ht;split at ht
 ·rename_i t0 h0;cases ht;refine (EM.2 _ _ _ _ _ h0 _ (VO.sat_bind hQ) c w0 T e ds args w hE hB hm hl LN hxt hr).mono ?_;rintro en w' ⟨v,r,m',nx',sv',e',q1,q2,q3,q4,q5,q6,q7,q8,q9⟩;exact ⟨v,r,cvM m',nx',sv',e',q1,q2,q3,q4,Wo9 q5,q6,q7,q8,q9⟩
 ·cases ht
theorem cJ{L:Nat->ByteArray}{n:Nat}(h: ∀k,k<n->(L k).size<100000):GC VQ 63 (A2 L n 902):=Wc3 h
abbrev KM:AV:=lst 3 0 λk=>[iI (hs0.ql k),iI (hs0.qh k),lst 2 0 λj=>[iI (hs0.qr k j),iI (hs0.qv k j)]]
section
variable (n:Nat)(L:Nat->ByteArray)
def Zm6:St:={σ:=[QF n L,top,QD,QI,ptr 900 0,top,top,top,top,QF n L,iI (n:Int)]++HK 13 [],m:=[(902,GQ.row 23 1 0 λx=>[]),(900,GQ.cells 99 [hR 0 hs0,iI 760,iI 760,KM,hC 0 hs0,hT 0 hs0])],nx:=903}
noncomputable def Jm3:Code:=UC (VU (UA Tryz.f37) 0)
def Wf2(k:Nat):St:={σ:=H6 [(4,.ptr 900 0),(5,.row 902),(7,.top),(11,i k)] (Zm6 n L).σ,m:=[(902,.row 23 1 k (exG L)),(900,.cells 99 (hsL (sK L k)))],nx:=903}
def C8(k:Nat):GB->Option St
 | .exit 0=>some {σ:=H6 [(4,.ptr 900 0),(5,.row 902),(7,.top),(11,i n)] (Zm6 n L).σ,m:=[(902,.row 23 1 n (exG L)),(900,.cells 99 (hsL (sK L n)))],nx:=903}
 |_=>none
def Ji1:CT:= .leaf (.exit 0,(C8 n L 0 (.exit 0)).getD (Zm6 n L))
def Xs3:UL:=GN [(.slot 4,900,0,2),(.slot 5,902,23,1)] (HM (Wf2 n L (0)) (Ji1 n L))
end
abbrev Y3:Prop:=ptr 900 0=ptr 900 0
noncomputable abbrev YW(L:Nat->ByteArray)(n:Nat):Ext:={R:=[],H:=[(67,s8),(63,(A2 L n 902))] }
section
variable (n:Nat)(L:Nat->ByteArray)
theorem Zw6(VV:n<=50)(UI: ∀k,k<n->(L k).size<100000):GD VQ (.loop Jm3) (Xs3 n L):=by
 refine G6 [(.slot 4,900,0,2),(.slot 5,902,23,1)] (L:=[]) Aa (Ai Ab (Ag Qb9 (Ag (cJ UI) Ac))) U0 U7 (X:=Nat) (Wf2 n L) (λk=>k<=n) (λk=>n-k) (C8 n L) (x0:=0) VW ?_ ?_ ?_
 ·rintro k;kernel_rfl
 ·rintro k y E h;unfold C8 at h;split at h
  ·cases h;kernel_rfl
  ·cases h
 ·rintro Q hQ k hx;refine ⟨(k+1),?_⟩;(with_reducible refine DU (t:=branch (decide ((k:Int)<(n:Int))) (need [UN k n] (need [k<n,U1 ([lst 4 ((sK L k).nr) λk_1=>[iI ((sK L k).ra k_1),iI ((sK L k).rb k_1),iI ((sK L k).ru k_1),iI ((sK L k).rv k_1)],iI ((sK L k).pl),iI ((sK L k).ph),lst 3 ((sK L k).nb) λk_1=>[iI ((sK L k).ql k_1),iI ((sK L k).qh k_1),lst 2 ((sK L k).qm k_1) λj=>[iI ((sK L k).qr k_1 j),iI ((sK L k).qv k_1 j)]],lst 5 ((sK L k).nc) λk_1=>[iI ((sK L k).ca k_1),iI ((sK L k).cb k_1),iI ((sK L k).cc k_1),iI ((sK L k).cd k_1),AV.x (.bool ((sK L k).cv k_1))],lst 5 ((sK L k).ns) λk_1=>[iI ((sK L k).sa k_1),iI ((sK L k).sb k_1),iI ((sK L k).sc k_1),iI ((sK L k).sl k_1),iI ((sK L k).sh k_1)]]),U1 (FR (L k)),1=1,exG L=exG L] (need [(k+1)*8<=140737488355328,L0 1 (U8 1 [iI (eK L k)])] (need [VN ((k:Int)+1)] (need [U1 (QF n L),QD=QD,QI=QI,Y3,WJ,U1 (QF n L),U1 (n:Int),(k:Int)+1=(↑(k+1):Int),k+1=k+1,GV (k+1) (GJ k (exG L) (U8 1 [iI (eK L k)])) (exG L),U1 (lst 4 ((sK L (k+1)).nr) λk_1=>[iI ((sK L (k+1)).ra k_1),iI ((sK L (k+1)).rb k_1),iI ((sK L (k+1)).ru k_1),iI ((sK L (k+1)).rv k_1)]),U1 ((sK L (k+1)).pl),U1 ((sK L (k+1)).ph),U1 (lst 3 ((sK L (k+1)).nb) λk_1=>[iI ((sK L (k+1)).ql k_1),iI ((sK L (k+1)).qh k_1),lst 2 ((sK L (k+1)).qm k_1) λj=>[iI ((sK L (k+1)).qr k_1 j),iI ((sK L (k+1)).qv k_1 j)]]),U1 (lst 5 ((sK L (k+1)).nc) λk_1=>[iI ((sK L (k+1)).ca k_1),iI ((sK L (k+1)).cb k_1),iI ((sK L (k+1)).cc k_1),iI ((sK L (k+1)).cd k_1),AV.x (.bool ((sK L (k+1)).cv k_1))]),U1 (lst 5 ((sK L (k+1)).ns) λk_1=>[iI ((sK L (k+1)).sa k_1),iI ((sK L (k+1)).sb k_1),iI ((sK L (k+1)).sc k_1),iI ((sK L (k+1)).sl k_1),iI ((sK L (k+1)).sh k_1)])] (leaf GB.normal)))))) (need [U1 (QF n L),QD=QD,QI=QI,Y3,WJ,U1 (QF n L),U1 (n:Int),(k:Int)=(n:Int),k=n,GO n (exG L),(lst 4 ((sK L k).nr) λk_1=>[iI ((sK L k).ra k_1),iI ((sK L k).rb k_1),iI ((sK L k).ru k_1),iI ((sK L k).rv k_1)])=hR ((sK L n).nr) (sK L n),(sK L k).pl=(sK L n).pl,(sK L k).ph=(sK L n).ph,(lst 3 ((sK L k).nb) λk_1=>[iI ((sK L k).ql k_1),iI ((sK L k).qh k_1),lst 2 ((sK L k).qm k_1) λj=>[iI ((sK L k).qr k_1 j),iI ((sK L k).qv k_1 j)]])=hY ((sK L n).nb) (sK L n),(lst 5 ((sK L k).nc) λk_1=>[iI ((sK L k).ca k_1),iI ((sK L k).cb k_1),iI ((sK L k).cc k_1),iI ((sK L k).cd k_1),AV.x (.bool ((sK L k).cv k_1))])=hC ((sK L n).nc) (sK L n),(lst 5 ((sK L k).ns) λk_1=>[iI ((sK L k).sa k_1),iI ((sK L k).sb k_1),iI ((sK L k).sc k_1),iI ((sK L k).sl k_1),iI ((sK L k).sh k_1)])=hT ((sK L n).ns) (sK L n)] (leaf (GB.exit 0)))) VX ?_)
  simp only [Ji1,C8,VO.sat,GX] at hQ;simp only [VO.sat,UE,G5,GL,UH,VN,UK,HG,RX,RP,LO,GS,C8]
  refine ⟨λh=>?_,λh=>?_⟩
  ·have hk:k<n:=VL;have hq: ∀j,j<k+1->GJ k (exG L) (U8 1 [i (eK L k)]) j=exG L j:=λj hj=>Pt.catF1 (a:=eK L) hj rfl
   (with_reducible repeat' first|apply Al|intro _)
   all_goals first|exact PM|(first|exact hq _ (by assumption)|exact FD (by assumption) (by simp [AV.one,Value.oneCell']))
  ·obtain rfl:k=n:=VL
   (with_reducible repeat' first|apply Al|intro _)
   all_goals first|exact PM|(assumption)
theorem eG(VV:n<=50)(UI: ∀k,k<n->(L k).size<100000):UP VQ 37 [lns n L] (.leaf (.tup [.ro (hsL (sK L n)),.lst 1 n (exG L)])):=by
 refine GU (L:=[Xs3 n L]) Aa (Ai Ab (Ag Qb9 (Ag (cJ UI) Ac))) U0 Tryz.func37 (UV Tryz.f37) (GA (lpE (b:= .loop Jm3) VX<|(Zw6 n L VV UI).N)) (t:=need [U1 (QF n L),QD=QD,QI=QI,Y3,WJ,U1 (QF n L),U1 (n:Int),(0:Int)=(↑(0:Nat):Int),0=0,GV 0 (λi=>[]) (exG L),(hR 0 hs0)=hR 0 (sK L 0),(760:Int)=(sK L 0).pl,(760:Int)=(sK L 0).ph,(KM)=lst 3 0 λk=>[iI ((sK L 0).ql k),iI ((sK L 0).qh k),lst 2 0 λj=>[iI ((sK L 0).qr k j),iI ((sK L 0).qv k j)]],(hC 0 hs0)=hC 0 (sK L 0),(hT 0 hs0)=hT 0 (sK L 0)] (leaf (tup [AV.ro (hL (sK L n)),lst 1 n λj=>[iI (eK L j)]]))) VX ?_
 intro Q hQ;simp only [VO.sat,UE,UK,VN,FF] at hQ ⊢
 (with_reducible repeat' first|apply Al|intro _)
 all_goals first|exact Ak|omega|rfl|assumption|exact ⟨.tup [.ro (hsL (sK L n)),.lst 1 n (exG L)],⟨rfl,⟨rfl,rfl,λ_ _=>rfl⟩,Ak⟩,hQ⟩
end
def baG(s:HS)(k:Nat):List AV:=[i (s.ql k),i (s.qh k),.lst 2 (s.qm k) (λj=>[i (s.qr k j),i (s.qv k j)])]
def hsN(s:HS):Prop:=s.nr<=1000/\s.nb<=1000/\s.nc<=1000/\s.ns<=1000/\ ∀b,b<s.nb->s.qm b<=1000
theorem Jd2(n:Nat)(a b u v:Nat->Int):gdX 4 n (λk=>[i (a k),i (b k),i (u k),i (v k)]):=λk _=>⟨rfl,λx hx=>by
 simp only [GM,DL,or_false] at hx;rcases hx with rfl|rfl|rfl|rfl<;>exact ⟨Ak,by simp [AV.one,Value.oneCell']⟩⟩
theorem Jd3(n:Nat)(a b c d:Nat->Int)(v:Nat->Bool):gdX 5 n (λk=>[i (a k),i (b k),i (c k),i (d k),bl (v k)]):=λk _=>⟨rfl,λx hx=>by
 simp only [GM,DL,or_false] at hx;rcases hx with rfl|rfl|rfl|rfl|rfl<;>exact ⟨Ak,by simp [AV.one,Value.oneCell']⟩⟩
theorem Jd1(n:Nat)(a b c d v:Nat->Int):gdX 5 n (λk=>[i (a k),i (b k),i (c k),i (d k),i (v k)]):=λk _=>⟨rfl,λx hx=>by
 simp only [GM,DL,or_false] at hx;rcases hx with rfl|rfl|rfl|rfl|rfl<;>exact ⟨Ak,by simp [AV.one,Value.oneCell']⟩⟩
theorem Jd0(n:Nat)(a b:Nat->Int):gdX 2 n (λk=>[i (a k),i (b k)]):=λk _=>⟨rfl,λx hx=>by
 simp only [GM,DL,or_false] at hx;rcases hx with rfl|rfl<;>exact ⟨Ak,by simp [AV.one,Value.oneCell']⟩⟩
theorem Zj5{s:HS}{k j:Nat}(hj:j<k+1):GJ k (baG s) (U8 3 [i (s.ql k),i (s.qh k),.lst 2 (s.qm k) (λj=>[i (s.qr k j),i (s.qv k j)])]) j=baG s j:=by
 rcases (show j<k\/j=k by omega) with h|rfl
 ·show HF (decide (j<k)) _ _=_;rw [decide_eq_true h,show j-k=0 by omega]
  rfl
 ·show HF (decide (j<j)) _ _=_;rw [show decide (j<j)=false by simp,Nat.sub_self]
  rfl
section
variable (s:HS)
def Zo2:St:={σ:=[agg (hL s),ptr 0 0,ptr 1 0,ptr 900 0]++HK 15 [hY s.nb s,iI (↑s.nb:Int)]++HK 17 [],m:=[(901,GQ.row 148 3 0 λx=>[]),(900,GQ.cells 43 [hR s.nr s,iI s.pl,iI s.ph,AV.row 901,hC s.nc s,hT s.ns s]),(1,GQ.cells 43 [QI,iI 0,iI 0,QI,QI,QI]),(0,GQ.cells 43 (hL s))],nx:=902}
noncomputable def Jo0:Code:=UC (VU (UA Tryz.f60) 0)
def Wh2(k:Nat):St:={σ:=H6 [(3,.ptr 900 0),(5,.top),(21,i k)] (Zo2 s).σ,m:=[(901,.row 148 3 k (baG s)),(900,.cells 43 [hsR s,i s.pl,i s.ph,.row 901,hsC s,hsS s]),(1,(.cells 43 [.x (.slice none 0 0),i 0,i 0,.x (.slice none 0 0),.x (.slice none 0 0),.x (.slice none 0 0)])),(0,.cells 43 (hsL s))],nx:=902}
def CO(k:Nat):GB->Option St
 | .exit 0=>some {σ:=H6 [(3,.ptr 900 0),(5,.top),(21,i s.nb)] (Zo2 s).σ,m:=[(901,.row 148 3 s.nb (baG s)),(900,.cells 43 [hsR s,i s.pl,i s.ph,.row 901,hsC s,hsS s]),(1,(.cells 43 [.x (.slice none 0 0),i 0,i 0,.x (.slice none 0 0),.x (.slice none 0 0),.x (.slice none 0 0)])),(0,.cells 43 (hsL s))],nx:=902}
 |_=>none
def Jk1:CT:= .leaf (.exit 0,(CO s 0 (.exit 0)).getD (Zo2 s))
def Xu6:UL:=GN [(.slot 3,900,0,2),(.cell 900 3,901,148,3)] (HM (Wh2 s (0)) (Jk1 s))
abbrev Y1:List (Nat×G0):=[(99,pP),(100,pQ),(101,pO),(102,pN)]
theorem Jf1(VV:hsN s):GD VQ (.loop Jo0) (Xu6 s):=by
 refine G6 [(.slot 3,900,0,2),(.cell 900 3,901,148,3)] (L:=[]) (Ae Qa0 (Ae Qa1 (Ae tZ (Ae tY Aa)))) Ad U0 U7 (X:=Nat) (Wh2 s) (λk=>k<=s.nb) (λk=>s.nb-k) (CO s) (x0:=0) VW ?_ ?_ ?_
 ·rintro k;kernel_rfl
 ·rintro k y E h;unfold CO at h;split at h
  ·cases h;kernel_rfl
  ·cases h
 ·rintro Q hQ k hx;refine ⟨(k+1),?_⟩;(with_reducible refine DU (t:=let z0:=(lst 2 (s.qm k) λj=>[iI (s.qr k j),iI (s.qv k j)]);(branch (decide ((k:Int)<(↑s.nb:Int))) (need [UN k s.nb] (need [s.qm k<=100000,gdX 2 (s.qm k) λj=>[iI (s.qr k j),iI (s.qv k j)]] (need [(k+1)*40<=140737488355328,L0 1 (U8 3 [iI (s.ql k),iI (s.qh k),z0])] (need [VN ((k:Int)+1)] (need [U1 (agg (hL s)),QO,Z8,Y3,XW s,U1 (↑s.nb:Int),(k:Int)+1=(↑(k+1):Int),k+1=k+1,GV (k+1) (GJ k (baG s) (U8 3 [iI (s.ql k),iI (s.qh k),z0])) (baG s),XH s,JQ s,JR s,WG,XO s,XP s,QI=QI,QX,QX,QI=QI,QI=QI,QI=QI,XH s,JQ s,JR s,XW s,XO s,XP s] (leaf GB.normal)))))) (need [U1 (agg (hL s)),QO,Z8,Y3,XW s,U1 (↑s.nb:Int),(k:Int)=(↑s.nb:Int),k=s.nb,∀(i:Nat),i<s.nb->baG s i=baG s i,XH s,JQ s,JR s,WG,XO s,XP s,QI=QI,QX,QX,QI=QI,QI=QI,QI=QI,XH s,JQ s,JR s,XW s,XO s,XP s] (leaf (GB.exit 0))))) VX ?_)
  simp only [Jk1,CO,VO.sat,GX] at hQ;simp only [VO.sat,UE,G5,GL,UH,VN,UK,HG,RX,RP,LO,GS,CO]
  obtain ⟨h1,h2,h3,h4,h5⟩:=VV;refine ⟨λh=>?_,λh=>?_⟩
  ·have hk:k<s.nb:=VL;have h6:=h5 k hk
   (with_reducible repeat' first|apply Al|intro _)
   all_goals first|exact PM|(first|exact Jd0 _ _ _|exact FD (by assumption) (by simp [AV.one,Value.oneCell'])|exact Zj5 (by assumption))
  ·obtain rfl:k=s.nb:=VL;exact YY
theorem oJ(VV:hsN s):UP VQ 60 [.agg (hsL s)] (.leaf (.agg (hsL s))):=by
 refine GU (L:=[Xu6 s]) (Ae Qa0 (Ae Qa1 (Ae tZ (Ae tY Aa)))) Ad U0 Tryz.func60 (UV Tryz.f60) (GA (lpE (b:= .loop Jo0) VX<|(Jf1 s VV).N)) (t:=need [s.nr<=100000,gdX 4 s.nr λk=>[Bo.i (s.ra k),Bo.i (s.rb k),Bo.i (s.ru k),Bo.i (s.rv k)]] (need [s.nc<=100000,gdX 5 s.nc λk=>[i (s.ca k),i (s.cb k),i (s.cc k),i (s.cd k),bl (s.cv k)]] (need [s.ns<=100000,gdX 5 s.ns λk=>[i (s.sa k),i (s.sb k),i (s.sc k),i (s.sl k),i (s.sh k)]] (need [U1 (agg (hL s)),QO,Z8,Y3,XW s,U1 (↑s.nb:Int),(0:Int)=(↑(0:Nat):Int),0=0,GV 0 (λi=>[]) (baG s),XH s,JQ s,JR s,WG,XO s,XP s,QI=QI,QX,QX,QI=QI,QI=QI,QI=QI,XH s,JQ s,JR s,XW s,XO s,XP s] (leaf (agg (hL s))))))) VX ?_
 intro Q hQ;simp only [VO.sat,UE,UK,VN,FF] at hQ ⊢;obtain ⟨h1,h2,h3,h4,h5⟩:=VV
 (with_reducible repeat' first|apply Al|intro _)
 all_goals first|exact Ak|omega|exact Jd2 _ _ _ _ _|exact Jd3 _ _ _ _ _ _|exact Jd1 _ _ _ _ _ _|rfl|assumption|(rename_i h;exact absurd h (Aq _))|exact ⟨.agg (hsL s),⟨⟨rfl,rfl,λ_ _=>rfl⟩,⟨rfl,rfl⟩,⟨rfl,rfl⟩,⟨rfl,rfl,λ_ _=>rfl⟩,⟨rfl,rfl,λ_ _=>rfl⟩,⟨rfl,rfl,λ_ _=>rfl⟩,Ak⟩,hQ⟩
end
section
variable (n:Nat)(a b c U O:Nat->Int)
def hoS(ow Z:Int):Int×Int:=hoF n a b c (eD n a b c U O (2^n)) (lS n a b c U O (2^n-1)) ow Z (2^n)
theorem Qj8(ow Z:Int)(VV:sV n a b c U O):UP VQ 47 [.agg [i 4,i 10,sls n a b c U O],i ow,i Z] (.branch (bt 0 ow 3&&bt 0 Z 100) (.branch (!zK n a b c U O) (.leaf (.tup [.agg [i 0,i 0],i 9])) (.leaf (.tup [.agg [i (hoS n a b c U O ow Z).1,i (hoS n a b c U O ow Z).2],i 0]))) (.leaf (.tup [.agg [i 0,i 0],i 2]))):=by
 refine GU (L:=[]) (Ae xY (Ae rQ (Ae (yX n a b c U O (eD n a b c U O (2^n)) (lS n a b c U O (2^n-1)) VV) Aa))) (Aj Ab Ac (Ah (yV n a b c U O VV) (UB.nil _))) U0 Tryz.func47 (UV Tryz.f47) G4 (t:=let z6:=(lst 1 (2^n) λz=>[iI (eD n a b c U O (2^n) z)]);let z5:=(lst 1 (2^n) λz=>[iI (lS n a b c U O (2^n-1) z)]);let S:=(hoF n a b c (eD n a b c U O (2^n)) (lS n a b c U O (2^n-1)) ow Z (2^n));let z4:=(leaf (tup [agg [iI (Prod.fst S),iI (Prod.snd S)],iI 0]));let z0:=(need [AV.x (Y4)=AV.ro [iI 4,iI 10,Q0 n a b c U O,z6,z5],(0:Int)<=ow/\ow<4] z4);let I:=(branch (!zK n a b c U O) (branch ((9:Int) != 0) (leaf (tup [agg JP,iI 9])) z0) (branch ((0:Int) != 0) (leaf (tup [agg JP,iI 0])) (need [U1 (AV.ro [iI 4,iI 10,Q0 n a b c U O,z6,z5]),(0:Int)<=ow/\ow<4] z4)));let z3:=(branch ((2:Int) != 0) (leaf (tup [agg JP,iI 2])) z0);(need [VN ((4:Int)-1)] (branch (bt (0:Int) ow ((4:Int)-1)) (need [QP n a b c U O] (branch (!bt (0:Int) Z (100:Int)) z3 I)) (need [QP n a b c U O] (branch (!false) z3 I))))) VX ?_
 intro Q hQ;simp only [VO.sat,UE,UK] at hQ ⊢;have rp: ∀x y z:Int,FB (.tup [.agg [i x,i y],i z]) (.tup [.agg [i x,i y],i z]):=λx y z=>⟨⟨⟨rfl,rfl⟩,⟨rfl,rfl⟩,Ak⟩,⟨rfl,rfl⟩,Ak⟩
 rw [show (4:Int)-1=3 from rfl];cases h1:bt 0 ow 3<;>cases h2:bt 0 Z 100<;>cases h3:zK n a b c U O<;>rw [h1,h2] at hQ<;>rw [h3] at hQ;all_goals (with_reducible repeat' first|apply Al|intro _)
 all_goals first
  |(simp only [VN];omega)
  |(exfalso;rename_i h;revert h;decide)
  |(exfalso;rename_i h _;revert h;decide)
  |(exfalso;rename_i h _ _;revert h;decide)
  |(exfalso;rename_i h _ _ _;revert h;decide)
  |(have:=(Bo.bt_iff _ _ _).1 h1;omega)
  |exact ⟨_,rp _ _ _,hQ.2 rfl⟩
  |exact ⟨_,rp _ _ _,(hQ.1 rfl).1 rfl⟩
  |exact ⟨_,rp _ _ _,(hQ.1 rfl).2 rfl⟩
def caB(Z:Int)(ow:Nat):Bool:=decide ((hoS n a b c U O ow Z).2>0)
def suB(Z:Int)(ow:Nat):Bool:=decide ((hoS n a b c U O ow Z).1>0)
def sD(Z:Int):St:={σ:=[agg (ZS n a b c U O),iI Z,ptr 0 0,top,top,top,iI 0,AV.ro [iI 4,iI 10,Q0 n a b c U O,lst 1 (2^n) λz=>[iI (eD n a b c U O (2^n) z)],lst 1 (2^n) λz=>[iI (lS n a b c U O (2^n-1) z)]]]++HK 13 [iI 4]++HK 24 [],m:=[(902,Y5),(901,Y5),(0,GQ.cells 65 (ZS n a b c U O))],nx:=903}
noncomputable def Qr0:Code:=UC (VU (UA Tryz.f23) 0)
def E7(Z:Int)(k:Nat):St:={σ:=H6 [(4,.row 901),(5,.row 902),(8,.top),(9,.top),(22,i k)] (sD n a b c U O Z).σ,m:=[(902,.row 3 1 (G8 (suB n a b c U O Z) (k)) (λz=>[i (UU (suB n a b c U O Z) 4 z)])),(901,.row 3 1 (G8 (caB n a b c U O Z) (k)) (λz=>[i (UU (caB n a b c U O Z) 4 z)])),(0,.cells 65 [i 4,i 10,sls n a b c U O])],nx:=903}
def qE(Z:Int)(k:Nat):GB->Option St
 | .exit 0=>some {σ:=H6 [(4,.row 901),(5,.row 902),(8,.top),(9,.top),(22,i 4)] (sD n a b c U O Z).σ,m:=[(902,.row 3 1 (G8 (suB n a b c U O Z) (4)) (λz=>[i (UU (suB n a b c U O Z) 4 z)])),(901,.row 3 1 (G8 (caB n a b c U O Z) (4)) (λz=>[i (UU (caB n a b c U O Z) 4 z)])),(0,.cells 65 [i 4,i 10,sls n a b c U O])],nx:=903}
 |_=>none
def Ws5(Z:Int):CT:= .leaf (.exit 0,(qE n a b c U O Z 0 (.exit 0)).getD (sD n a b c U O Z))
def lU(Z:Int):UL:=GN [(.slot 4,901,3,1),(.slot 5,902,3,1)] (HM (E7 n a b c U O Z (0)) (Ws5 n a b c U O Z))
theorem Qz3(Z:Int)(VV:sV n a b c U O):GD VQ (.loop Qr0) (lU n a b c U O Z):=by
 refine zD [(.slot 4,901,3,1),(.slot 5,902,3,1)] (L:=[]) (Ae rQ (Ae (yX n a b c U O (eD n a b c U O (2^n)) (lS n a b c U O (2^n-1)) VV) Aa)) U0 U7 (X:=Nat) (E7 n a b c U O Z) (λk=>k<=4) (λk=>4-k) (qE n a b c U O Z) (x0:=0) VW ?_ ?_ ?_
 ·rintro k;kernel_rfl
 ·rintro k y E h;unfold qE at h;split at h
  ·cases h;kernel_rfl
  ·cases h
 ·rintro Q hQ k hx;refine ⟨(k+1),?_⟩;(with_reducible refine DU (t:=let z0:=(U1 (AV.ro [iI 4,iI 10,Q0 n a b c U O,lst 1 (2^n) λz=>[iI (eD n a b c U O (2^n) z)],lst 1 (2^n) λz=>[iI (lS n a b c U O (2^n-1) z)]]));let I:=suB n a b c U O Z;let S:=caB n a b c U O Z;let z3:=(hoF n a b c (eD n a b c U O (2^n)) (lS n a b c U O (2^n-1)) (k:Int) Z (2^n));let z4:=(U8 1 [iI (k:Int)]);let z5:=QP n a b c U O;let z6:=W2 n a b c U O;(branch (decide ((k:Int)<4)) (need [z0,(0:Int)<=(k:Int)/\(k:Int)<4] (branch (decide (Prod.snd z3>0)) (need [(G8 (S) k+1)*8<=140737488355328,L0 1 (U8 1 [iI (k:Int)])] (branch (decide (Prod.fst z3>0)) (need [(G8 (I) k+1)*8<=140737488355328,L0 1 (U8 1 [iI (k:Int)])] (need [VN ((k:Int)+1)] (need [z5,Z=Z,QO,WG,WJ,QX,z0,QZ,(k:Int)+1=(↑(k+1):Int),G8 (I) k+1=G8 (I) (k+1),∀(i:Nat),i<G8 (I) (k+1)->GJ (G8 (I) k) (λz=>[iI (↑(UU (I) 4 z):Int)]) z4 i=[iI (↑(UU (I) 4 i):Int)],G8 (S) k+1=G8 (S) (k+1),∀(i:Nat),i<G8 (S) (k+1)->GJ (G8 (S) k) (λz=>[iI (↑(UU (S) 4 z):Int)]) z4 i=[iI (↑(UU (S) 4 i):Int)],QZ,WA,z6] (leaf GB.normal)))) (need [VN ((k:Int)+1)] (need [z5,Z=Z,QO,WG,WJ,QX,z0,QZ,(k:Int)+1=(↑(k+1):Int),G8 (I) k=G8 (I) (k+1),∀(i:Nat),i<G8 (I) (k+1)->[iI (↑(UU (I) 4 i):Int)]=[iI (↑(UU (I) 4 i):Int)],G8 (S) k+1=G8 (S) (k+1),∀(i:Nat),i<G8 (S) (k+1)->GJ (G8 (S) k) (λz=>[iI (↑(UU (S) 4 z):Int)]) z4 i=[iI (↑(UU (S) 4 i):Int)],QZ,WA,z6] (leaf GB.normal))))) (branch (decide (Prod.fst z3>0)) (need [(G8 (I) k+1)*8<=140737488355328,L0 1 (U8 1 [iI (k:Int)])] (need [VN ((k:Int)+1)] (need [z5,Z=Z,QO,WG,WJ,QX,z0,QZ,(k:Int)+1=(↑(k+1):Int),G8 (I) k+1=G8 (I) (k+1),∀(i:Nat),i<G8 (I) (k+1)->GJ (G8 (I) k) (λz=>[iI (↑(UU (I) 4 z):Int)]) z4 i=[iI (↑(UU (I) 4 i):Int)],G8 (S) k=G8 (S) (k+1),∀(i:Nat),i<G8 (S) (k+1)->[iI (↑(UU (S) 4 i):Int)]=[iI (↑(UU (S) 4 i):Int)],QZ,WA,z6] (leaf GB.normal)))) (need [VN ((k:Int)+1)] (need [z5,Z=Z,QO,WG,WJ,QX,z0,QZ,(k:Int)+1=(↑(k+1):Int),G8 (I) k=G8 (I) (k+1),∀(i:Nat),i<G8 (I) (k+1)->[iI (↑(UU (I) 4 i):Int)]=[iI (↑(UU (I) 4 i):Int)],G8 (S) k=G8 (S) (k+1),∀(i:Nat),i<G8 (S) (k+1)->[iI (↑(UU (S) 4 i):Int)]=[iI (↑(UU (S) 4 i):Int)],QZ,WA,z6] (leaf GB.normal)))))) (need [z5,Z=Z,QO,WG,WJ,QX,z0,QZ,(k:Int)=4,G8 (I) k=G8 (I) 4,∀(i:Nat),i<G8 (I) 4->[iI (↑(UU (I) 4 i):Int)]=[iI (↑(UU (I) 4 i):Int)],G8 (S) k=G8 (S) 4,∀(i:Nat),i<G8 (S) 4->[iI (↑(UU (S) 4 i):Int)]=[iI (↑(UU (S) 4 i):Int)],QZ,WA,z6] (leaf (GB.exit 0))))) VX ?_)
  simp only [Ws5,qE,VO.sat,GX] at hQ;simp only [VO.sat,UE,G5,GL,UH,VN,UK,HG,RX,RP,LO,GS,qE]
  have hB: ∀(p:Nat->Bool) (k:Nat),G8 p k<=k:=TS;have b1:=hB (caB n a b c U O Z) k;have b2:=hB (suB n a b c U O Z) k;refine ⟨λh=>?_,λh=>?_⟩
  ·have hk:k<4:=VL;have hq: ∀(p:Nat->Bool),p k=true-> ∀j,j<G8 p (k+1)->GJ (G8 p k) (λz=>[i (UU p 4 z)]) (U8 1 [i k]) j=[i (UU p 4 j)]:=by
    intro p hp j hj;rw [FM hp] at hj;exact Pt.catF1 (a:=λz=>((UU p 4 z:Nat):Int)) hj (by show (k:Int)=((UU p 4 (G8 p k):Nat):Int);rw [qQ hk hp])
   cases hc:caB n a b c U O Z k<;>cases hs:suB n a b c U O Z k
   ·have e1:=FU hc;have e2:=FU hs;have hc':=of_decide_eq_false hc;have hs':=of_decide_eq_false hs
    (with_reducible repeat' first|apply Al|intro _)
    all_goals first|exact PM|(first|exact absurd (by assumption) hc'|exact absurd (by assumption) hs'|exact FD (by assumption) (by simp [AV.one,Value.oneCell']))
   ·have e1:=FU hc;have e2:=FM hs;have hc':=of_decide_eq_false hc;have hs':=wL hs
    (with_reducible repeat' first|apply Al|intro _)
    all_goals first|exact PM|(first|exact absurd (by assumption) hc'|contradiction|exact FD (by assumption) (by simp [AV.one,Value.oneCell'])|exact hq _ hs _ (by assumption))
   ·have e1:=FM hc;have e2:=FU hs;have hc':=wL hc;have hs':=of_decide_eq_false hs
    (with_reducible repeat' first|apply Al|intro _)
    all_goals first|exact PM|(first|exact absurd (by assumption) hs'|contradiction|exact FD (by assumption) (by simp [AV.one,Value.oneCell'])|exact hq _ hc _ (by assumption))
   ·have e1:=FM hc;have e2:=FM hs;have hc':=wL hc;have hs':=wL hs
    (with_reducible repeat' first|apply Al|intro _)
    all_goals first|exact PM|(first|contradiction|exact FD (by assumption) (by simp [AV.one,Value.oneCell'])|exact hq _ hc _ (by assumption)|exact hq _ hs _ (by assumption))
  ·obtain rfl:k=4:=VL;exact YY
theorem Qj6(Z:Int)(VV:sV n a b c U O):UP VQ 23 [.agg [i 4,i 10,sls n a b c U O],i Z] (.branch (!bt 0 Z 100) (.leaf (.tup [.x (.slice none 0 0),.x (.slice none 0 0),i 2])) (.branch (!zK n a b c U O) (.leaf (.tup [.x (.slice none 0 0),.x (.slice none 0 0),i 9])) (.leaf (.tup [.lst 1 (G8 (caB n a b c U O Z) 4) (λz=>[i (UU (caB n a b c U O Z) 4 z)]),.lst 1 (G8 (suB n a b c U O Z) 4) (λz=>[i (UU (suB n a b c U O Z) 4 z)]),i 0])))):=by
 refine GU (L:=[lU n a b c U O Z]) (Ae rQ (Ae (yX n a b c U O (eD n a b c U O (2^n)) (lS n a b c U O (2^n-1)) VV) Aa)) (Aj Ab Ac (Ah (yV n a b c U O VV) (UB.nil _))) U0 Tryz.func23 (UV Tryz.f23) (GA (lpE (b:= .loop Qr0) VX<|(Qz3 n a b c U O Z VV).N)) (t:=let S:=caB n a b c U O Z;let I:=suB n a b c U O Z;let z0:=(leaf (tup [lst 1 (G8 (S) 4) λz=>[iI (↑(UU (S) 4 z):Int)],lst 1 (G8 (I) 4) λz=>[iI (↑(UU (I) 4 z):Int)],iI 0]));let z3:=(lst 1 (2^n) λz=>[iI (lS n a b c U O (2^n-1) z)]);let z4:=(lst 1 (2^n) λz=>[iI (eD n a b c U O (2^n) z)]);(need [QP n a b c U O] (branch (!bt (0:Int) Z (100:Int)) (branch ((2:Int) != 0) (leaf (tup [QI,QI,iI 2])) (need [QP n a b c U O,Z=Z,QO,WG,WJ,(2:Int)=0,AV.x (Y4)=AV.ro [iI 4,iI 10,Q0 n a b c U O,z4,z3],QZ,(0:Int)=(↑(0:Nat):Int),0=G8 (I) 0,∀(i:Nat),i<G8 (I) 0->[]=[iI (↑(UU (I) 4 i):Int)],0=G8 (S) 0,∀(i:Nat),i<G8 (S) 0->[]=[iI (↑(UU (S) 4 i):Int)],QZ,WA,W2 n a b c U O] z0)) (branch (!zK n a b c U O) (branch ((9:Int) != 0) (leaf (tup [QI,QI,iI 9])) (need [QP n a b c U O,Z=Z,QO,WG,WJ,(9:Int)=0,AV.x (Y4)=AV.ro [iI 4,iI 10,Q0 n a b c U O,z4,z3],QZ,(0:Int)=(↑(0:Nat):Int),0=G8 (I) 0,∀(i:Nat),i<G8 (I) 0->[]=[iI (↑(UU (I) 4 i):Int)],0=G8 (S) 0,∀(i:Nat),i<G8 (S) 0->[]=[iI (↑(UU (S) 4 i):Int)],QZ,WA,W2 n a b c U O] z0)) (branch ((0:Int) != 0) (leaf (tup [QI,QI,iI 0])) (need [QP n a b c U O,Z=Z,QO,WG,WJ,QX,U1 (AV.ro [iI 4,iI 10,Q0 n a b c U O,z4,z3]),QZ,(0:Int)=(↑(0:Nat):Int),0=G8 (I) 0,∀(i:Nat),i<G8 (I) 0->[]=[iI (↑(UU (I) 4 i):Int)],0=G8 (S) 0,∀(i:Nat),i<G8 (S) 0->[]=[iI (↑(UU (S) 4 i):Int)],QZ,WA,W2 n a b c U O] z0)))))) VX ?_
 intro Q hQ;simp only [VO.sat,UE,UK] at hQ ⊢;have rn: ∀z:Int,FB (.tup [.x (.slice none 0 0),.x (.slice none 0 0),i z]) (.tup [.x (.slice none 0 0),.x (.slice none 0 0),i z]):=λz=>⟨rfl,rfl,⟨rfl,rfl⟩,Ak⟩
 have rl:FB (.tup [.lst 1 (G8 (caB n a b c U O Z) 4) (λz=>[i (UU (caB n a b c U O Z) 4 z)]),.lst 1 (G8 (suB n a b c U O Z) 4) (λz=>[i (UU (suB n a b c U O Z) 4 z)]),i 0]) (.tup [.lst 1 (G8 (caB n a b c U O Z) 4) (λz=>[i (UU (caB n a b c U O Z) 4 z)]),.lst 1 (G8 (suB n a b c U O Z) 4) (λz=>[i (UU (suB n a b c U O Z) 4 z)]),i 0]):=⟨⟨rfl,rfl,λ_ _=>rfl⟩,⟨rfl,rfl,λ_ _=>rfl⟩,⟨rfl,rfl⟩,Ak⟩
 cases h2:bt 0 Z 100<;>cases h3:zK n a b c U O<;>rw [h2] at hQ<;>rw [h3] at hQ;all_goals (with_reducible repeat' first|apply Al|intro _)
 all_goals first
  |(exfalso;rename_i h;revert h;decide)
  |(exfalso;rename_i h _;revert h;decide)
  |(exfalso;rename_i h _ _;revert h;decide)
  |(exfalso;rename_i h _ _ _;revert h;decide)
  |rfl
  |(rename_i h;exact absurd h (Aq _))
  |exact ⟨_,rn _,hQ.1 rfl⟩
  |exact ⟨_,rn _,(hQ.2 rfl).1 rfl⟩
  |exact ⟨_,rl,(hQ.2 rfl).2 rfl⟩
def Wu2(Z:Int):D8:=λl=>some (.need [l=[.agg [i 4,i 10,sls n a b c U O],i Z]] (.branch (!bt 0 Z 100) (.leaf (.tup [.x (.slice none 0 0),.x (.slice none 0 0),i 2])) (.branch (!zK n a b c U O) (.leaf (.tup [.x (.slice none 0 0),.x (.slice none 0 0),i 9])) (.leaf (.tup [.lst 1 (G8 (caB n a b c U O Z) 4) (λz=>[i (UU (caB n a b c U O Z) 4 z)]),.lst 1 (G8 (suB n a b c U O Z) 4) (λz=>[i (UU (suB n a b c U O Z) 4 z)]),i 0])))))
theorem mX(Z:Int)(VV:sV n a b c U O):Sx.Enters Tryz.prog 23/\ ∀avs t,Wu2 n a b c U O Z avs=some t->UP VQ 23 avs t:=by
 refine ⟨(UJ Tryz.func23),?_⟩;intro avs t h;cases h;intro Q hQ;have e:=hQ.1
 dsimp only [UE] at e
 subst e;exact Qj6 n a b c U O Z VV Q hQ.2
end
section
variable (n:Nat)(L:Nat->ByteArray)
def Wu7:D8:=λl=>some (.need [l=[lns n L],ckE n L=0] (.leaf (.tup [.ro (hsL (sK L n)),.lst 1 n (exG L)])))
def pU:D8:=λl=>some (.need [l=[.agg (hsL (sK L n))]] (.leaf (.agg (hsL (sK L n)))))
end
theorem Wp1{n:Nat}{L:Nat->ByteArray}(h:ckE n L=0):n<=50/\ ∀k,k<n->(L k).size<=200:=by
 unfold ckE at h;split at h
 ·rename_i h1;refine ⟨h1.1,λk hk=>?_⟩
  have h2:=wL (H3.1 h1.2 k hk);omega
 ·exact absurd h (by decide)
theorem Zg7{s:HS}(h:dY s):hsN s:=⟨by have:=h.nr;omega,by have:=h.bV.1.1;omega,by have:=h.nc;omega,by have:=h.sV.1;omega,λb hb=>by have:=(h.bV.1.2 b hb).1;omega⟩
section
variable (n:Nat)(L:Nat->ByteArray)
theorem xC:Sx.Enters Tryz.prog 37/\ ∀avs t,Wu7 n L avs=some t->UP VQ 37 avs t:=by
 refine ⟨(UJ Tryz.func37),?_⟩;intro avs t h;cases h;intro Q hQ;have e:avs=[lns n L]:=hQ.1.1;have h0:ckE n L=0:=hQ.1.2;subst e;have hk:=Wp1 h0;exact eG n L hk.1 (λk h=>by have:=hk.2 k h;omega) Q hQ.2
theorem eT:Sx.Enters Tryz.prog 60/\ ∀avs t,pU n L avs=some t->UP VQ 60 avs t:=by
 refine ⟨(UJ Tryz.func60),?_⟩;intro avs t h;cases h;intro Q hQ;have e:avs=[.agg (hsL (sK L n))]:=hQ.1;subst e;exact oJ (sK L n) (Zg7 (fF L n)) Q hQ.2
end
theorem tX(s:HS):FB (.agg (hsL s)) (.agg (hsL s)):=⟨⟨rfl,rfl,λ_ _=>rfl⟩,⟨rfl,rfl⟩,⟨rfl,rfl⟩,⟨rfl,rfl,λ_ _=>rfl⟩,⟨rfl,rfl,λ_ _=>rfl⟩,⟨rfl,rfl,λ_ _=>rfl⟩,Ak⟩
section
variable (n:Nat)(L:Nat->ByteArray)
abbrev YR:Prop:=[QF n L]=[QF n L]
theorem eY(VV:n<=100):UP VQ 27 [lns n L] (.branch (ckE n L != 0) (.leaf (.tup [.agg [.x (.slice none 0 0),i 0,i 0,.x (.slice none 0 0),.x (.slice none 0 0),.x (.slice none 0 0)],.x (.slice none 0 0),i (ckE n L)])) (.leaf (.tup [.agg (hsL (sK L n)),.lst 1 n (exG L),i 0]))):=by
 refine GU (L:=[]) (Ae (LZ n L VL) Aa) (Aj Ab Ac (Ah (xC n L) (Ah (eT n L) (UB.nil _)))) U0 Tryz.func27 (UV Tryz.f27) G4 (t:=need [(YR n L)] (branch (ckE n L != 0) (leaf (tup [agg [QI,iI 0,iI 0,QI,QI,QI],QI,iI (ckE n L)])) (need [(YR n L),ckE n L=0] (need [U1 ([agg (hL (sK L n))])] (leaf (tup [agg (hL (sK L n)),lst 1 n λj=>[iI (eK L j)],iI 0])))))) VX ?_
 intro Q hQ;simp only [VO.sat,UE,UK,VN,FF] at hQ ⊢;refine ⟨λh=>⟨.tup [.agg [.x (.slice none 0 0),i 0,i 0,.x (.slice none 0 0),.x (.slice none 0 0),.x (.slice none 0 0)],.x (.slice none 0 0),i (ckE n L)],⟨⟨rfl,⟨rfl,rfl⟩,⟨rfl,rfl⟩,rfl,rfl,rfl,Ak⟩,rfl,⟨rfl,rfl⟩,Ak⟩,hQ.1 h⟩,λh=>?_⟩
 have h0:ckE n L=0:=by simpa using h
 (with_reducible repeat' first|apply Al|intro _)
 all_goals first|exact Ak|exact h0|rfl|(exact ⟨.tup [.agg (hsL (sK L n)),.lst 1 n (exG L),i 0],⟨tX _,⟨rfl,rfl,λ_ _=>rfl⟩,⟨rfl,rfl⟩,Ak⟩,hQ.2 h⟩)
theorem eZ(VV:n<=100):UP VQ 21 [lns n L] (.branch (ckE n L != 0) (.leaf (.tup [.x (.slice none 0 0),i (ckE n L)])) (.leaf (.tup [.lst 2 (boN (sK L n).nb (sK L n).ql (sK L n).qh (sK L n).qm (sK L n).qr (sK L n).qv) (λk=>[i (boL (sK L n).nb (sK L n).ql (sK L n).qh (sK L n).qm (sK L n).qr (sK L n).qv k),i (boH (sK L n).nb (sK L n).ql (sK L n).qh (sK L n).qm (sK L n).qr (sK L n).qv k)]),i (boE (sK L n).nb (sK L n).ql (sK L n).qh (sK L n).qm (sK L n).qr (sK L n).qv)]))):=by
 refine GU (L:=[]) (Ae (LZ n L VL) (Ae (TW (sK L n).nb (sK L n).ql (sK L n).qh (sK L n).qm (sK L n).qr (sK L n).qv (fF L n).bV) Aa)) (Aj (Af RD Ab) Ac (Ah (xC n L) (UB.nil _))) U0 Tryz.func21 (UV Tryz.f21) G4 (t:=need [(YR n L)] (branch (ckE n L != 0) (leaf (tup [QI,iI (ckE n L)])) (need [(YR n L),ckE n L=0] (need [U1 ([agg [lst 2 3 λk=>[iI (oL k),iI (oH k)],iI 1,hY ((sK L n).nb) (sK L n)]])] (leaf (tup [lst 2 (boN ((sK L n).nb) ((sK L n).ql) ((sK L n).qh) ((sK L n).qm) ((sK L n).qr) ((sK L n).qv)) λk=>[iI (boL ((sK L n).nb) ((sK L n).ql) ((sK L n).qh) ((sK L n).qm) ((sK L n).qr) ((sK L n).qv) k),iI (boH ((sK L n).nb) ((sK L n).ql) ((sK L n).qh) ((sK L n).qm) ((sK L n).qr) ((sK L n).qv) k)],iI (boE ((sK L n).nb) ((sK L n).ql) ((sK L n).qh) ((sK L n).qm) ((sK L n).qr) ((sK L n).qv))])))))) VX ?_
 intro Q hQ;simp only [VO.sat,UE,UK,VN,FF] at hQ ⊢;refine ⟨λh=>⟨.tup [.x (.slice none 0 0),i (ckE n L)],⟨rfl,⟨rfl,rfl⟩,Ak⟩,hQ.1 h⟩,λh=>?_⟩
 have h0:ckE n L=0:=by simpa using h
 (with_reducible repeat' first|apply Al|intro _)
 all_goals first|exact Ak|exact h0|rfl|(exact ⟨.tup [.lst 2 (boN (sK L n).nb (sK L n).ql (sK L n).qh (sK L n).qm (sK L n).qr (sK L n).qv) (λk=>[i (boL (sK L n).nb (sK L n).ql (sK L n).qh (sK L n).qm (sK L n).qr (sK L n).qv k),i (boH (sK L n).nb (sK L n).ql (sK L n).qh (sK L n).qm (sK L n).qr (sK L n).qv k)]),i (boE (sK L n).nb (sK L n).ql (sK L n).qh (sK L n).qm (sK L n).qr (sK L n).qv)],⟨⟨rfl,rfl,λ_ _=>rfl⟩,⟨rfl,rfl⟩,Ak⟩,hQ.2 h⟩)
theorem NR(Z:Int)(VV:n<=100):UP VQ 11 [lns n L,i Z] (.branch (ckE n L != 0) (.leaf (.tup [.x (.slice none 0 0),.x (.slice none 0 0),i (ckE n L)])) (.branch (!bt 0 Z 100) (.leaf (.tup [.x (.slice none 0 0),.x (.slice none 0 0),i 2])) (.branch (!zK (sK L n).ns (sK L n).sa (sK L n).sb (sK L n).sc (sK L n).sl (sK L n).sh) (.leaf (.tup [.x (.slice none 0 0),.x (.slice none 0 0),i 9])) (.leaf (.tup [.lst 1 (G8 (caB (sK L n).ns (sK L n).sa (sK L n).sb (sK L n).sc (sK L n).sl (sK L n).sh Z) 4) (λz=>[i (UU (caB (sK L n).ns (sK L n).sa (sK L n).sb (sK L n).sc (sK L n).sl (sK L n).sh Z) 4 z)]),.lst 1 (G8 (suB (sK L n).ns (sK L n).sa (sK L n).sb (sK L n).sc (sK L n).sl (sK L n).sh Z) 4) (λz=>[i (UU (suB (sK L n).ns (sK L n).sa (sK L n).sb (sK L n).sc (sK L n).sl (sK L n).sh Z) 4 z)]),i 0]))))):=by
 refine GU (L:=[]) (Ae (LZ n L VL) Aa) (Aj (Af P0 Ab) Ac (Ah (xC n L) (Ah (mX (sK L n).ns (sK L n).sa (sK L n).sb (sK L n).sc (sK L n).sl (sK L n).sh Z (fF L n).sV) (UB.nil _)))) U0 Tryz.func11 (UV Tryz.f11) G4 (t:=let z0:=(caB ((sK L n).ns) ((sK L n).sa) ((sK L n).sb) ((sK L n).sc) ((sK L n).sl) ((sK L n).sh) Z);let I:=(suB ((sK L n).ns) ((sK L n).sa) ((sK L n).sb) ((sK L n).sc) ((sK L n).sl) ((sK L n).sh) Z);(need [(YR n L)] (branch (ckE n L != 0) (leaf (tup [QI,QI,iI (ckE n L)])) (need [(YR n L),ckE n L=0] (need [U1 ([agg [iI 4,iI 10,hT ((sK L n).ns) (sK L n)],iI Z])] (branch (!bt (0:Int) Z (100:Int)) (leaf (tup [QI,QI,iI 2])) (branch (!zK ((sK L n).ns) ((sK L n).sa) ((sK L n).sb) ((sK L n).sc) ((sK L n).sl) ((sK L n).sh)) (leaf (tup [QI,QI,iI 9])) (leaf (tup [lst 1 (G8 z0 4) λz=>[iI (↑(UU z0 4 z):Int)],lst 1 (G8 I 4) λz=>[iI (↑(UU I 4 z):Int)],iI 0]))))))))) VX ?_
 intro Q hQ;simp only [VO.sat,UE,UK,VN,FF] at hQ ⊢;have rn: ∀z:Int,FB (.tup [.x (.slice none 0 0),.x (.slice none 0 0),i z]) (.tup [.x (.slice none 0 0),.x (.slice none 0 0),i z]):=λz=>⟨rfl,rfl,⟨rfl,rfl⟩,Ak⟩
 have rl:FB (.tup [.lst 1 (G8 (caB (sK L n).ns (sK L n).sa (sK L n).sb (sK L n).sc (sK L n).sl (sK L n).sh Z) 4) (λz=>[i (UU (caB (sK L n).ns (sK L n).sa (sK L n).sb (sK L n).sc (sK L n).sl (sK L n).sh Z) 4 z)]),.lst 1 (G8 (suB (sK L n).ns (sK L n).sa (sK L n).sb (sK L n).sc (sK L n).sl (sK L n).sh Z) 4) (λz=>[i (UU (suB (sK L n).ns (sK L n).sa (sK L n).sb (sK L n).sc (sK L n).sl (sK L n).sh Z) 4 z)]),i 0]) (.tup [.lst 1 (G8 (caB (sK L n).ns (sK L n).sa (sK L n).sb (sK L n).sc (sK L n).sl (sK L n).sh Z) 4) (λz=>[i (UU (caB (sK L n).ns (sK L n).sa (sK L n).sb (sK L n).sc (sK L n).sl (sK L n).sh Z) 4 z)]),.lst 1 (G8 (suB (sK L n).ns (sK L n).sa (sK L n).sb (sK L n).sc (sK L n).sl (sK L n).sh Z) 4) (λz=>[i (UU (suB (sK L n).ns (sK L n).sa (sK L n).sb (sK L n).sc (sK L n).sl (sK L n).sh Z) 4 z)]),i 0]):=⟨⟨rfl,rfl,λ_ _=>rfl⟩,⟨rfl,rfl,λ_ _=>rfl⟩,⟨rfl,rfl⟩,Ak⟩
 refine ⟨λh=>⟨_,rn _,hQ.1 h⟩,λh=>?_⟩
 have h0:ckE n L=0:=by simpa using h
 have hQ2:=hQ.2 h
 (with_reducible repeat' first|apply Al|intro _)
 all_goals first|exact Ak|exact h0|rfl|(rename_i h1;exact ⟨_,rn _,hQ2.1 h1⟩)|(rename_i h1 h2;exact ⟨_,rn _,(hQ2.2 h1).1 h2⟩)|(rename_i h1 h2;exact ⟨_,rl,(hQ2.2 h1).2 h2⟩)
end
section
variable (s:HS)
def stB(a b w d:Int)(v:Bool)(Z:Int):Bool:= !v&&(decide (Z>=d)&&((asE 4 100 20 30 s.nr s.ra s.rb s.ru s.rv 3 tbP tbQ s.pl s.ph 1 3 a b w Z==0)&&kpB 4 100 20 30 s.nr s.ra s.rb s.ru s.rv 3 tbP tbQ s.pl s.ph 1 3 a b w Z))
def stP(Z:Int)(k:Nat):Bool:=stB s (s.ca k) (s.cb k) (s.cc k) (s.cd k) (s.cv k) Z
theorem EC(a b w d:Int)(v:Bool)(Z:Int):VZ VQ 38 [.agg (hsL s),.agg [i a,i b,i w,i d,bl v],i Z] (bl (stB s a b w d v Z)):=by
 refine G9 (L:=[]) (Ae Qg6 Aa) (Aj Ab Ac (Ah (Qb7 F6) (UB.nil _))) U0 Tryz.func38 (UV Tryz.f38) G4 (t:=need [UG 4 s.nr λk=>[Bo.i (s.ra k),Bo.i (s.rb k),Bo.i (s.ru k),Bo.i (s.rv k)],UG 2 3 λk=>[i (tbP k),i (tbQ k)]] (branch (!v) (branch (decide (Z>=d)) (branch (asE (4:Int) (100:Int) (20:Int) (30:Int) s.nr (s.ra) (s.rb) (s.ru) (s.rv) 3 tbP tbQ s.pl s.ph (1:Int) (3:Int) a b w Z==0) (leaf (RV.x (.bool (kpB (4:Int) (100:Int) (20:Int) (30:Int) s.nr (s.ra) (s.rb) (s.ru) (s.rv) 3 tbP tbQ s.pl s.ph (1:Int) (3:Int) a b w Z)))) (leaf (RV.x (W6)))) (leaf (RV.x (W6)))) (leaf (RV.x (W6))))) VX ?_
 simp only [VO.sat,UE,G5,UH,UK];refine ⟨⟨Bo.isRec4 _ _ _ _ _,Pt.isRec2 _ _ _⟩,?_⟩;unfold stB;cases v<;>cases decide (Z>=d)<;>cases (asE 4 100 20 30 s.nr s.ra s.rb s.ru s.rv 3 tbP tbQ s.pl s.ph 1 3 a b w Z==0)<;>simp
def OH:G0
 |[.agg l',.agg [.x (.int .i64 a),.x (.int .i64 b),.x (.int .i64 w),.x (.int .i64 d),.x (.bool v)],.x (.int .i64 Z)]=>some ([l'=hsL s],bl (stB s a b w d v Z))
 |_=>none
theorem EB:VS VQ 38 (OH s):=by
 refine ⟨(UJ Tryz.func38),?_⟩;intro avs ns res h hn;unfold OH at h;split at h
 ·cases h;have e:=hn _ GI;subst e;exact EC s _ _ _ _ _ _
 ·cases h
end
section
variable (n:Nat)(L:Nat->ByteArray)(Z:Int)
def Zl8:St:={σ:=[QF n L,iI Z,top,top,QI,iI 0,iI (ckE n L),AV.ro (hL (sK L n)),lst 1 n λj=>[iI (eK L j)]]++HK 20 [hC ((sK L n).nc) (sK L n),iI (↑((sK L n).nc):Int)]++HK 18 [],m:=[(901,Y5)],nx:=902}
noncomputable def Jl6:Code:=UC (VU (UA Tryz.f9) 0)
def We3(k:Nat):St:={σ:=H6 [(9,.row 901),(10,.top),(11,.top),(31,i k)] (Zl8 n L Z).σ,m:=[(901,.row 3 1 (G8 (stP (sK L n) Z) (k)) (λz=>[i (UU (stP (sK L n) Z) (sK L n).nc z)]))],nx:=902}
def C1(k:Nat):GB->Option St
 | .exit 0=>some {σ:=H6 [(9,.row 901),(10,.top),(11,.top),(31,i (sK L n).nc)] (Zl8 n L Z).σ,m:=[(901,.row 3 1 (G8 (stP (sK L n) Z) ((sK L n).nc)) (λz=>[i (UU (stP (sK L n) Z) (sK L n).nc z)]))],nx:=902}
 |_=>none
def Jh1:CT:= .leaf (.exit 0,(C1 n L Z 0 (.exit 0)).getD (Zl8 n L Z))
def Xr3:UL:=GN [(.slot 9,901,3,1)] (HM (We3 n L Z (0)) (Jh1 n L Z))
theorem Zv0(VV:n<=100):GD VQ (.loop Jl6) (Xr3 n L Z):=by
 refine G6 [(.slot 9,901,3,1)] (L:=[]) (Ae (LZ n L VL) (Ae PR (Ae (EB (sK L n)) Aa))) (Aj Ab Ac (Ah (xC n L) (UB.nil _))) U0 U7 (X:=Nat) (We3 n L Z) (λk=>k<=(sK L n).nc) (λk=>(sK L n).nc-k) (C1 n L Z) (x0:=0) VW ?_ ?_ ?_
 ·rintro k;kernel_rfl
 ·rintro k y E h;unfold C1 at h;split at h
  ·cases h;kernel_rfl
  ·cases h
 ·rintro Q hQ k hx;refine ⟨(k+1),?_⟩;(with_reducible refine DU (t:=let z0:=(U1 (lst 1 n λj=>[iI (eK L j)]));let I:=(U1 (hC ((sK L n).nc) (sK L n)));let S:=(U1 (↑((sK L n).nc):Int));(branch (decide ((k:Int)<(↑((sK L n).nc):Int))) (need [UN k ((sK L n).nc)] (need [U1 (hL (sK L n))] (branch (stB (sK L n) ((sK L n).ca k) ((sK L n).cb k) ((sK L n).cc k) ((sK L n).cd k) ((sK L n).cv k) Z) (need [(G8 (stP (sK L n) Z) k+1)*8<=140737488355328,L0 1 (U8 1 [iI (k:Int)])] (need [VN ((k:Int)+1)] (need [U1 (QF n L),Z=Z,QI=QI,QX,U1 (ckE n L),U1 (AV.ro (hL (sK L n))),z0,WG,I,S,(k:Int)+1=(↑(k+1):Int),G8 (stP (sK L n) Z) k+1=G8 (stP (sK L n) Z) (k+1),∀(i:Nat),i<G8 (stP (sK L n) Z) (k+1)->GJ (G8 (stP (sK L n) Z) k) (λz=>[iI (↑(UU (stP (sK L n) Z) ((sK L n).nc) z):Int)]) (U8 1 [iI (k:Int)]) i=[iI (↑(UU (stP (sK L n) Z) ((sK L n).nc) i):Int)]] (leaf GB.normal)))) (need [VN ((k:Int)+1)] (need [U1 (QF n L),Z=Z,QI=QI,QX,U1 (ckE n L),U1 (AV.ro (hL (sK L n))),z0,WG,I,S,(k:Int)+1=(↑(k+1):Int),G8 (stP (sK L n) Z) k=G8 (stP (sK L n) Z) (k+1),∀(i:Nat),i<G8 (stP (sK L n) Z) (k+1)->[iI (↑(UU (stP (sK L n) Z) ((sK L n).nc) i):Int)]=[iI (↑(UU (stP (sK L n) Z) ((sK L n).nc) i):Int)]] (leaf GB.normal)))))) (need [U1 (QF n L),Z=Z,QI=QI,QX,U1 (ckE n L),U1 (AV.ro (hL (sK L n))),z0,WG,I,S,(k:Int)=(↑((sK L n).nc):Int),G8 (stP (sK L n) Z) k=G8 (stP (sK L n) Z) ((sK L n).nc),∀(i:Nat),i<G8 (stP (sK L n) Z) ((sK L n).nc)->[iI (↑(UU (stP (sK L n) Z) ((sK L n).nc) i):Int)]=[iI (↑(UU (stP (sK L n) Z) ((sK L n).nc) i):Int)]] (leaf (GB.exit 0))))) VX ?_)
  simp only [Jh1,C1,VO.sat,GX] at hQ;simp only [VO.sat,UE,G5,GL,UH,VN,UK,HG,RX,RP,LO,GS,C1]
  have b1:=TS (p:=stP (sK L n) Z) (k:=k);have b2:=(fF L n).nc;refine ⟨λh=>?_,λh=>?_⟩
  ·have hk:k<(sK L n).nc:=VL;have hq:stP (sK L n) Z k=true-> ∀j,j<G8 (stP (sK L n) Z) (k+1)->GJ (G8 (stP (sK L n) Z) k) (λz=>[i (UU (stP (sK L n) Z) (sK L n).nc z)]) (U8 1 [i k]) j=[i (UU (stP (sK L n) Z) (sK L n).nc j)]:=by
    intro hp j hj;rw [FM hp] at hj;exact Pt.catF1 (a:=λz=>((UU (stP (sK L n) Z) (sK L n).nc z:Nat):Int)) hj (by show (k:Int)=((UU (stP (sK L n) Z) (sK L n).nc (G8 (stP (sK L n) Z) k):Nat):Int);rw [qQ hk hp])
   cases hc:stP (sK L n) Z k
   ·have e1:=FU hc;have hc': ¬(stB (sK L n) ((sK L n).ca k) ((sK L n).cb k) ((sK L n).cc k) ((sK L n).cd k) ((sK L n).cv k) Z=true):=λh=>Bool.noConfusion (hc.symm.trans h)
    (with_reducible repeat' first|apply Al|intro _)
    all_goals first|exact PM|(first|exact absurd (by assumption) hc'|exact FD (by assumption) (by simp [AV.one,Value.oneCell']))
   ·have e1:=FM hc;have hc': ¬(stB (sK L n) ((sK L n).ca k) ((sK L n).cb k) ((sK L n).cc k) ((sK L n).cd k) ((sK L n).cv k) Z=false):=λh=>Bool.noConfusion (hc.symm.trans h)
    (with_reducible repeat' first|apply Al|intro _)
    all_goals first|exact PM|(first|exact absurd (by assumption) hc'|exact hq hc _ (by assumption)|exact FD (by assumption) (by simp [AV.one,Value.oneCell']))
  ·obtain rfl:k=(sK L n).nc:=VL;exact YY
theorem BS(VV:n<=100):UP VQ 9 [lns n L,i Z] (.branch (ckE n L != 0) (.leaf (.tup [.x (.slice none 0 0),i (ckE n L)])) (.branch (!bt 0 Z 10000) (.leaf (.tup [.x (.slice none 0 0),i 2])) (.leaf (.tup [.lst 1 (G8 (stP (sK L n) Z) (sK L n).nc) (λz=>[i (UU (stP (sK L n) Z) (sK L n).nc z)]),i 0])))):=by
 refine GU (L:=[Xr3 n L Z]) (Ae (LZ n L VL) (Ae PR (Ae (EB (sK L n)) Aa))) (Aj Ab Ac (Ah (xC n L) (UB.nil _))) U0 Tryz.func9 (UV Tryz.f9) (GA (lpE (b:= .loop Jl6) VX<|(Zv0 n L Z VV).N)) (t:=need [(YR n L)] (branch (ckE n L != 0) (leaf (tup [QI,iI (ckE n L)])) (branch (!bt (0:Int) Z (10000:Int)) (leaf (tup [QI,iI 2])) (need [(YR n L),ckE n L=0] (need [U1 (QF n L),Z=Z,QI=QI,QX,U1 (ckE n L),U1 (AV.ro (hL (sK L n))),U1 (lst 1 n λj=>[iI (eK L j)]),WG,U1 (hC ((sK L n).nc) (sK L n)),U1 (↑((sK L n).nc):Int),(0:Int)=(↑(0:Nat):Int),0=G8 (stP (sK L n) Z) 0,∀(i:Nat),i<G8 (stP (sK L n) Z) 0->[]=[iI (↑(UU (stP (sK L n) Z) ((sK L n).nc) i):Int)]] (leaf (tup [lst 1 (G8 (stP (sK L n) Z) ((sK L n).nc)) λz=>[iI (↑(UU (stP (sK L n) Z) ((sK L n).nc) z):Int)],iI 0]))))))) VX ?_
 intro Q hQ;simp only [VO.sat,UE,UK,VN,FF] at hQ ⊢;have b2:=(fF L n).nc;have rn: ∀z:Int,FB (.tup [.x (.slice none 0 0),i z]) (.tup [.x (.slice none 0 0),i z]):=λz=>⟨rfl,⟨rfl,rfl⟩,Ak⟩
 have rl:FB (.tup [.lst 1 (G8 (stP (sK L n) Z) (sK L n).nc) (λz=>[i (UU (stP (sK L n) Z) (sK L n).nc z)]),i 0]) (.tup [.lst 1 (G8 (stP (sK L n) Z) (sK L n).nc) (λz=>[i (UU (stP (sK L n) Z) (sK L n).nc z)]),i 0]):=⟨⟨rfl,rfl,λ_ _=>rfl⟩,⟨rfl,rfl⟩,Ak⟩
 refine ⟨λh=>⟨_,rn _,hQ.1 h⟩,λh=>?_⟩
 have h0:ckE n L=0:=by simpa using h
 have hQ2:=hQ.2 h;refine ⟨λh1=>⟨_,rn _,hQ2.1 h1⟩,λh1=>?_⟩
 have hQ3:=hQ2.2 h1
 (with_reducible repeat' first|apply Al|intro _)
 all_goals first|exact Ak|exact h0|omega|rfl|(rename_i h;exact absurd h (Aq _))|exact ⟨_,rl,hQ3⟩
end
def dgI(n:Int):Int:=IntKind.u8.wrap (48+n.tmod 10)
def dg3(n:Int):ByteArray:=⟨#[UInt8.ofNat (dgI ((n.tdiv 10).tdiv 10)).toNat,UInt8.ofNat (dgI (n.tdiv 10)).toNat,UInt8.ofNat (dgI n).toNat]⟩
def dg5(n:Int):ByteArray:=⟨#[UInt8.ofNat (dgI ((((n.tdiv 10).tdiv 10).tdiv 10).tdiv 10)).toNat,UInt8.ofNat (dgI (((n.tdiv 10).tdiv 10).tdiv 10)).toNat,UInt8.ofNat (dgI ((n.tdiv 10).tdiv 10)).toNat,UInt8.ofNat (dgI (n.tdiv 10)).toNat,UInt8.ofNat (dgI n).toNat]⟩
def dgB(n m:Int):ByteArray:=if m=3 then dg3 n else dg5 n
abbrev u8(n:Int):AV:= .x (.int .u8 n)
def tpB(l c:Int):ByteArray:=(((⟨#[91]⟩++dgB l 3)++⟨#[58]⟩)++dgB c 5)++⟨#[93]⟩
def tpC(s:ByteArray)(ix:Int):Nat->Int
 | 0=>23*(ix+1)
 |k+1=>tpC s ix k+((k:Int)+2)*(byN s k+3)
def tpK(s:ByteArray)(ix:Int):Int:=(tpC s ix s.size).tmod 99971
def rcB(s:ByteArray)(ix:Int):ByteArray:=(tpB (s.size:Int) (tpK s ix)++s)++⟨#[10]⟩
def flB(L:Nat->ByteArray):Nat->ByteArray
 | 0=>ByteArray.empty
 |k+1=>flB L k++rcB (L k) (k:Int)
theorem Qb1(n:Int):0<=dgI n/\dgI n<256:=by
 have h:dgI n=(48+n.tmod 10)%256:=rfl;omega
theorem wF{x:Int}(h:0<=x/\x<=1000000000):(0<=x.tdiv 10/\x.tdiv 10<=1000000000)/\0<=x.tmod 10/\x.tmod 10<=9:=by
 rw [Int.tdiv_eq_ediv_of_nonneg h.1,Int.tmod_eq_emod_of_nonneg h.1];omega
theorem by1{x:Int}(h:0<=x/\x<256):byO [u8 x]<256/\[u8 x]=[.x (.int .u8 (byO [u8 x]:Int))]:=by
 have e2:byO [u8 x]=x.toNat:=rfl;rw [e2];refine ⟨VL,?_⟩;rw [show ((x.toNat:Nat):Int)=x by omega]
section
variable (n:Int)
def pZ:St:={σ:=mkS 24 [(1,i 3),(5,.ro [u8 (dgI ((n.tdiv 10).tdiv 10)),u8 (dgI (n.tdiv 10)),u8 (dgI n),u8 0,u8 0])],m:=[],nx:=901}
abbrev W0:AV:=AV.x (.int IntKind.u8 (0:Int))
abbrev WT:AV:=AV.x (.int IntKind.u8 (IntKind.wrap IntKind.u8 ((48:Int)+Int.tmod n (10:Int))))
abbrev X8:AV:=AV.x (.int IntKind.u8 (IntKind.wrap IntKind.u8 ((48:Int)+Int.tmod (Int.tdiv n (10:Int)) (10:Int))))
abbrev YS:AV:=AV.x (.int IntKind.u8 (dgI (Int.tdiv (Int.tdiv n (10:Int)) (10:Int))))
abbrev XB:List AV:=[YS n,AV.x (.int IntKind.u8 (dgI (Int.tdiv n (10:Int)))),AV.x (.int IntKind.u8 (dgI n)),W0,W0]
abbrev Z7:AV:=AV.x (.int IntKind.u8 (IntKind.wrap IntKind.u8 ((48:Int)+Int.tmod (Int.tdiv (Int.tdiv n (10:Int)) (10:Int)) (10:Int))))
theorem eS(VV:0<=n/\n<=1000000000):VZ VQ 142 [i n,i 3] (.x (.string (dg3 n))):=by
 refine fC (L:=[(λs=>some (xS Tryz.prog [] [] (UC (VU (UA Tryz.f142) 0)) 4 s))]) 3 [(.slot 5,0,0,1)] (pZ n) Aa Ad U0 Tryz.func142 (UV Tryz.f142) (GA (lpE (b:= .loop (UC (VU (UA Tryz.f142) 0))) VX<|(L8 Aa U0 U7 _).N)) VX (t:=let I:=(Int.tdiv (Int.tdiv n (10:Int)) (10:Int));let z0:=(need [(0:Int)<=3/\(3:Int)<=(↑(5:Nat):Int)] (need [uR (3:Int).toNat λi=>[Option.rec (top) (λval=>(λval=>(λx=>x) val) val) [u8 (dgI I),u8 (dgI (Int.tdiv n (10:Int))),u8 (dgI n),u8 (0:Int),u8 (0:Int)][i]?]] (leaf (RV.x (.string (bsO (3:Int).toNat λi=>[Option.rec (top) (λval=>(λval=>(λx=>x) val) val) [u8 (dgI I),u8 (dgI (Int.tdiv n (10:Int))),u8 (dgI n),u8 (0:Int),u8 (0:Int)][i]?]))))));(need [VN ((3:Int)-1)] (branch (decide ((3:Int)-1>=(0:Int))) (need [(10:Int)≠0] (need [VN ((48:Int)+Int.tmod n (10:Int))] (need [(0:Int)<=3-1/\(3:Int)-1<(↑(5:Nat):Int)] (need [(10:Int)≠0,VN (Int.tdiv n (10:Int))] (need [VN ((3:Int)-1-1)] (branch (decide ((3:Int)-1-1>=(0:Int))) (need [(10:Int)≠0] (need [VN ((48:Int)+Int.tmod (Int.tdiv n (10:Int)) (10:Int))] (need [(0:Int)<=3-1-1/\(3:Int)-1-1<(↑(5:Nat):Int)] (need [(10:Int)≠0,VN I] (need [VN ((3:Int)-1-1-1)] (branch (decide ((3:Int)-1-1-1>=(0:Int))) (need [(10:Int)≠0] (need [VN ((48:Int)+Int.tmod I (10:Int))] (need [(0:Int)<=3-1-1-1/\(3:Int)-1-1-1<(↑(5:Nat):Int)] (need [(10:Int)≠0,VN (Int.tdiv I (10:Int))] (need [VN ((3:Int)-1-1-1-1)] (branch (decide ((3:Int)-1-1-1-1>=(0:Int))) (need [(10:Int)≠0] (need [VN ((48:Int)+Int.tmod (Int.tdiv I (10:Int)) (10:Int))] (need [(0:Int)<=3-1-1-1-1/\(3:Int)-1-1-1-1<(↑(5:Nat):Int)] (need [(10:Int)≠0,VN (Int.tdiv (Int.tdiv I (10:Int)) (10:Int))] (need [VN ((3:Int)-1-1-1-1-1)] VO.fail))))) (need [XE,AV.ro [Z7 n,X8 n,WT n,W0,W0]=AV.ro (XB n)] z0))))))) (need [XE,AV.ro [W0,X8 n,WT n,W0,W0]=AV.ro (XB n)] z0))))))) (need [XE,AV.ro [W0,W0,WT n,W0,W0]=AV.ro (XB n)] z0))))))) (need [XE,AV.ro [W0,W0,W0,W0,W0]=AV.ro (XB n)] z0)))) VX ?_
 have q1:=wF VV;have q2:=wF q1.1;have q3:=wF q2.1;have q4:=wF q3.1;have q5:=wF q4.1;have c1:decide ((3:Int)-1>=0)=true:=by decide
 have c2:decide ((3:Int)-1-1>=0)=true:=by decide
 have c3:decide ((3:Int)-1-1-1>=0)=true:=by decide
 have c4:decide ((3:Int)-1-1-1-1>=0)=false:=by decide
 simp only [VO.sat,UE,G5,UH,UK,VN,c1,c2,c3,c4,true_imp_iff,eq_self,Bool.true_eq_false,Bool.false_eq_true,false_imp_iff]
 (with_reducible repeat' first|apply Al|intro _)
 all_goals first|exact Ak|omega|rfl|(intro j hj;rcases (show j=0\/j=1\/j=2 by omega) with rfl|rfl|rfl<;>exact by1 (Qb1 _))|decide
def pY:St:={σ:=mkS 24 [(1,i 5),(5,.ro [u8 (dgI ((((n.tdiv 10).tdiv 10).tdiv 10).tdiv 10)),u8 (dgI (((n.tdiv 10).tdiv 10).tdiv 10)),u8 (dgI ((n.tdiv 10).tdiv 10)),u8 (dgI (n.tdiv 10)),u8 (dgI n)])],m:=[],nx:=901}
abbrev QK:List AV:=[AV.x (.int IntKind.u8 (dgI (Int.tdiv (Int.tdiv (Int.tdiv (Int.tdiv n (10:Int)) (10:Int)) (10:Int)) (10:Int)))),AV.x (.int IntKind.u8 (dgI (Int.tdiv (Int.tdiv (Int.tdiv n (10:Int)) (10:Int)) (10:Int)))),YS n,AV.x (.int IntKind.u8 (dgI (Int.tdiv n (10:Int)))),AV.x (.int IntKind.u8 (dgI n))]
abbrev J5:Prop:=(5:Int)=5
abbrev K6:AV:=AV.x (.int IntKind.u8 (IntKind.wrap IntKind.u8 ((48:Int)+Int.tmod (Int.tdiv (Int.tdiv (Int.tdiv n (10:Int)) (10:Int)) (10:Int)) (10:Int))))
theorem eR(VV:0<=n/\n<=1000000000):VZ VQ 142 [i n,i 5] (.x (.string (dg5 n))):=by
 refine fC (L:=[(λs=>some (xS Tryz.prog [] [] (UC (VU (UA Tryz.f142) 0)) 6 s))]) 3 [(.slot 5,0,0,1)] (pY n) Aa Ad U0 Tryz.func142 (UV Tryz.f142) (GA (lpE (b:= .loop (UC (VU (UA Tryz.f142) 0))) VX<|(L8 Aa U0 U7 _).N)) VX (t:=let S:=(Int.tdiv (Int.tdiv n (10:Int)) (10:Int));let I:=(Int.tdiv S (10:Int));let z3:=(Int.tdiv I (10:Int));let z0:=(need [(0:Int)<=5/\(5:Int)<=(↑(5:Nat):Int)] (need [uR (5:Int).toNat λi=>[Option.rec (top) (λval=>(λval=>(λx=>x) val) val) [u8 (dgI z3),u8 (dgI I),u8 (dgI S),u8 (dgI (Int.tdiv n (10:Int))),u8 (dgI n)][i]?]] (leaf (RV.x (.string (bsO (5:Int).toNat λi=>[Option.rec (top) (λval=>(λval=>(λx=>x) val) val) [u8 (dgI z3),u8 (dgI I),u8 (dgI S),u8 (dgI (Int.tdiv n (10:Int))),u8 (dgI n)][i]?]))))));(need [VN ((5:Int)-1)] (branch (decide ((5:Int)-1>=(0:Int))) (need [(10:Int)≠0] (need [VN ((48:Int)+Int.tmod n (10:Int))] (need [(0:Int)<=5-1/\(5:Int)-1<(↑(5:Nat):Int)] (need [(10:Int)≠0,VN (Int.tdiv n (10:Int))] (need [VN ((5:Int)-1-1)] (branch (decide ((5:Int)-1-1>=(0:Int))) (need [(10:Int)≠0] (need [VN ((48:Int)+Int.tmod (Int.tdiv n (10:Int)) (10:Int))] (need [(0:Int)<=5-1-1/\(5:Int)-1-1<(↑(5:Nat):Int)] (need [(10:Int)≠0,VN S] (need [VN ((5:Int)-1-1-1)] (branch (decide ((5:Int)-1-1-1>=(0:Int))) (need [(10:Int)≠0] (need [VN ((48:Int)+Int.tmod S (10:Int))] (need [(0:Int)<=5-1-1-1/\(5:Int)-1-1-1<(↑(5:Nat):Int)] (need [(10:Int)≠0,VN I] (need [VN ((5:Int)-1-1-1-1)] (branch (decide ((5:Int)-1-1-1-1>=(0:Int))) (need [(10:Int)≠0] (need [VN ((48:Int)+Int.tmod I (10:Int))] (need [(0:Int)<=5-1-1-1-1/\(5:Int)-1-1-1-1<(↑(5:Nat):Int)] (need [(10:Int)≠0,VN z3] (need [VN ((5:Int)-1-1-1-1-1)] (branch (decide ((5:Int)-1-1-1-1-1>=(0:Int))) (need [(10:Int)≠0] (need [VN ((48:Int)+Int.tmod z3 (10:Int))] (need [(0:Int)<=5-1-1-1-1-1/\(5:Int)-1-1-1-1-1<(↑(5:Nat):Int)] (need [(10:Int)≠0,VN (Int.tdiv z3 (10:Int))] (need [VN ((5:Int)-1-1-1-1-1-1)] (branch (decide ((5:Int)-1-1-1-1-1-1>=(0:Int))) (need [(10:Int)≠0] (need [VN ((48:Int)+Int.tmod (Int.tdiv z3 (10:Int)) (10:Int))] (need [(0:Int)<=5-1-1-1-1-1-1/\(5:Int)-1-1-1-1-1-1<(↑(5:Nat):Int)] (need [(10:Int)≠0,VN (Int.tdiv (Int.tdiv z3 (10:Int)) (10:Int))] (need [VN ((5:Int)-1-1-1-1-1-1-1)] VO.fail))))) (need [J5,AV.ro [AV.x (.int IntKind.u8 (IntKind.wrap IntKind.u8 ((48:Int)+Int.tmod z3 (10:Int)))),K6 n,Z7 n,X8 n,WT n]=AV.ro (QK n)] z0))))))) (need [J5,AV.ro [W0,K6 n,Z7 n,X8 n,WT n]=AV.ro (QK n)] z0))))))) (need [J5,AV.ro [W0,W0,Z7 n,X8 n,WT n]=AV.ro (QK n)] z0))))))) (need [J5,AV.ro [W0,W0,W0,X8 n,WT n]=AV.ro (QK n)] z0))))))) (need [J5,AV.ro [W0,W0,W0,W0,WT n]=AV.ro (QK n)] z0))))))) (need [J5,AV.ro [W0,W0,W0,W0,W0]=AV.ro (QK n)] z0)))) VX ?_
 have q1:=wF VV;have q2:=wF q1.1;have q3:=wF q2.1;have q4:=wF q3.1;have q5:=wF q4.1;have c1:decide ((5:Int)-1>=0)=true:=by decide
 have c2:decide ((5:Int)-1-1>=0)=true:=by decide
 have c3:decide ((5:Int)-1-1-1>=0)=true:=by decide
 have c4:decide ((5:Int)-1-1-1-1>=0)=true:=by decide
 have c5:decide ((5:Int)-1-1-1-1-1>=0)=true:=by decide
 have c6:decide ((5:Int)-1-1-1-1-1-1>=0)=false:=by decide
 simp only [VO.sat,UE,G5,UH,UK,VN,c1,c2,c3,c4,c5,c6,true_imp_iff,eq_self,Bool.true_eq_false,Bool.false_eq_true,false_imp_iff]
 (with_reducible repeat' first|apply Al|intro _)
 all_goals first|exact Ak|omega|rfl|(intro j hj;rcases (show j=0\/j=1\/j=2\/j=3\/j=4 by omega) with rfl|rfl|rfl|rfl|rfl<;>exact by1 (Qb1 _))|decide
end
def OJ:G0
 |[.x (.int .i64 n),.x (.int .i64 m)]=>some ([0<=n/\n<=1000000000,m=3\/m=5],.x (.string (dgB n m)))
 |_=>none
theorem oI:VS VQ 142 OJ:=by
 refine ⟨(UJ Tryz.func142),?_⟩;intro avs ns res h hn;unfold OJ at h;split at h
 ·rename_i n m;cases h;have h1:0<=n/\n<=1000000000:=hn _ VW;have h2:m=3\/m=5:=hn _ VW;rcases h2 with rfl|rfl
  ·exact eS n h1
  ·exact eR n h1
 ·cases h
theorem gD(n m:Int)(h:m=3\/m=5):((dgB n m).size:Int)=m:=by
 rcases h with rfl|rfl
 ·rfl
 ·rfl
theorem b8(l c:Int):(tpB l c).size=11:=by
 have h1:=gD l 3 (.inl rfl);have h2:=gD c 5 (.inr rfl);unfold tpB;simp only [Av];have e1:(⟨#[91]⟩:ByteArray).size=1:=rfl;have e2:(⟨#[58]⟩:ByteArray).size=1:=rfl;have e3:(⟨#[93]⟩:ByteArray).size=1:=rfl;omega
def Qd8:G0
 |[.agg [.x (.int .i64 l),.x (.int .i64 c)]]=>some ([0<=l/\l<=1000000000,0<=c/\c<=1000000000],.x (.string (tpB l c)))
 |_=>none
theorem Wi5(l c:Int)(VV:0<=l/\l<=1000000000)(UI:0<=c/\c<=1000000000):VZ VQ 104 [.agg [i l,i c]] (.x (.string (tpB l c))):=by
 refine G9 (L:=[]) (Ae oI Aa) Ad U0 Tryz.func104 (UV Tryz.f104) G4 (t:=need [(0:Int)<=l/\l<=1000000000,(3:Int)=3\/(3:Int)=5] (need [(↑(ByteArray.size {data:=#[91] }+ByteArray.size (dgB l (3:Int))):Int)<=9223372036854775807] (need [(↑(ByteArray.size ({data:=#[91] }++dgB l (3:Int))+ByteArray.size {data:=#[58] }):Int)<=9223372036854775807] (need [(0:Int)<=c/\c<=1000000000,(5:Int)=3\/(5:Int)=5] (need [(↑(ByteArray.size ({data:=#[91] }++dgB l (3:Int)++{data:=#[58] })+ByteArray.size (dgB c (5:Int))):Int)<=9223372036854775807] (need [(↑(ByteArray.size ({data:=#[91] }++dgB l (3:Int)++{data:=#[58] }++dgB c (5:Int))+ByteArray.size {data:=#[93] }):Int)<=9223372036854775807] (leaf (RV.x (.string ({data:=#[91] }++dgB l (3:Int)++{data:=#[58] }++dgB c (5:Int)++{data:=#[93] })))))))))) VX ?_;have h1:=gD l 3 (.inl rfl);have h2:=gD c 5 (.inr rfl);have e1:(⟨#[91]⟩:ByteArray).size=1:=rfl;have e2:(⟨#[58]⟩:ByteArray).size=1:=rfl;have e3:(⟨#[93]⟩:ByteArray).size=1:=rfl;simp only [VO.sat,UE,G5,UH,UK,Av,e1,e2,e3]
 (with_reducible repeat' first|apply Al|intro _)
 all_goals first|exact Ak|omega|rfl|exact VV|exact UI|decide
theorem eA:VS VQ 104 Qd8:=by
 refine ⟨(UJ Tryz.func104),?_⟩;intro avs ns res h hn;unfold Qd8 at h;split at h
 ·cases h;exact Wi5 _ _ (hn _ VW) (hn _ VW)
 ·cases h
theorem Qb8(s:ByteArray)(k:Nat):0<=byN s k/\byN s k<=255:=by
 unfold byN;have:=(s.data.getD k 0).toNat_lt;omega
theorem Xg9(A B:ByteArray)(j:Nat):byN (A++B) j=if j<A.size then byN A j else byN B (j-A.size):=by
 unfold byN;have e:(A++B).data=A.data++B.data:=ByteArray.data_append;rw [e,P1,Array.getElem?_append];have hs:A.data.size=A.size:=rfl;rw [hs];split
 ·rw [P1]
 ·rw [P1]
theorem Xg8(A B:ByteArray)(j:Nat):GJ A.size (DK A) (DK B) j=DK (A++B) j:=by
 show HF (decide (j<A.size)) (DK A j) (DK B (j-A.size))=_;unfold DK;rw [Xg9];by_cases h:j<A.size
 ·rw [decide_eq_true h,if_pos h];rfl
 ·rw [decide_eq_false h,if_neg h];rfl
theorem Qw4(s:ByteArray)(k:Nat)(h:k<1000):0<=((k:Int)+2)*(byN s k+3)/\((k:Int)+2)*(byN s k+3)<=258516:=by
 have hb:=Qb8 s k;refine ⟨Int.mul_nonneg VL VL,?_⟩;have h1:((k:Int)+2)*(byN s k+3)<=((k:Int)+2)*258:=Int.mul_le_mul_of_nonneg_left VL VL;omega
theorem rO(s:ByteArray)(ix:Int)(O:0<=ix/\ix<=100000): ∀k:Nat,k<=1000->0<=tpC s ix k/\tpC s ix k<=2400000+(k:Int)*258516
 | 0,_=>by
  show 0<=23*(ix+1)/\23*(ix+1)<=_;omega
 |k+1,hk=>by
  have ih:=rO s ix O k VL;have hm:=Qw4 s k VL;have e:tpC s ix (k+1)=tpC s ix k+((k:Int)+2)*(byN s k+3):=rfl;rw [e];generalize ((k:Int)+2)*(byN s k+3)=z at hm;omega
section
variable (s:ByteArray)
theorem bZ(ix:Int):(rcB s ix).size=12+s.size:=by
 unfold rcB;rw [Av,Av,b8];have e1:(⟨#[10]⟩:ByteArray).size=1:=rfl;omega
theorem iG(L:Nat->ByteArray): ∀n,(∀k,k<n->(L k).size<=200)->(flB L n).size<=n*212
 | 0,_=>Am 0
 |n+1,h=>by
  have ih:=iG L n λk hk=>h k VL
  show (flB L n++rcB (L n) n).size<=_;rw [Av,bZ];have:=h n VL;omega
abbrev Z3:AV:=lst 1 (ByteArray.size s) λj=>[AV.x (.int IntKind.u8 (byN s j))]
abbrev YB:AV:=FR s
def Zl6(ix:Int):St:={σ:=[YB s,iI ix,top,top,ptr 0 0]++HK 7 [Z3 s,iI (↑(ByteArray.size s):Int)]++HK 19 [],m:=[(0,GQ.cells 208 JP)],nx:=9}
noncomputable def Jl3:Code:=UC (VU (UA Tryz.f103) 0)
def We0(ix:Int)(k:Nat):St:=(upM [(5,i (tpC s ix k)),(6,.top),(7,.top),(14,i k)] (Zl6 s ix))
def AZ(ix:Int)(k:Nat):GB->Option St
 | .exit 0=>some (upM [(5,i (tpC s ix s.size)),(6,.top),(7,.top),(14,i s.size)] (Zl6 s ix))
 |_=>none
def Jg7(ix:Int):CT:= .leaf (.exit 0,(AZ s ix 0 (.exit 0)).getD (Zl6 s ix))
def Xq9(ix:Int):UL:=(HM (We0 s ix (0)) (Jg7 s ix))
theorem Zs8(ix:Int)(VV:s.size<=1000)(UI:0<=ix/\ix<=100000):GD VQ (.loop Jl3) (Xq9 s ix):=by
 refine HT (L:=[]) Aa U0 U7 (X:=Nat) (We0 s ix) (λk=>k<=s.size) (λk=>s.size-k) (AZ s ix) (x0:=0) VW ?_ ?_ ?_
 ·rintro k;kernel_rfl
 ·rintro k y E h;unfold AZ at h;split at h
  ·cases h;kernel_rfl
  ·cases h
 ·rintro Q hQ k hx;refine ⟨(k+1),?_⟩;(with_reducible refine DU (t:=branch (decide ((k:Int)<(↑(ByteArray.size s):Int))) (need [UN k (ByteArray.size s)] (need [VN ((k:Int)+2)] (need [VN (byN s k)] (need [VN (byN s k+3)] (need [VN (((k:Int)+2)*(byN s k+3))] (need [VN (tpC s ix k+((k:Int)+2)*(byN s k+3))] (need [VN ((k:Int)+1)] (need [YB s=YB s,ix=ix,QO,tpC s ix k+((k:Int)+2)*(byN s k+3)=tpC s ix (k+1),Z3 s=Z3 s,U1 (↑(ByteArray.size s):Int),(k:Int)+1=(↑(k+1):Int),QX,QX] (leaf GB.normal))))))))) (need [YB s=YB s,ix=ix,QO,tpC s ix k=tpC s ix (ByteArray.size s),Z3 s=Z3 s,U1 (↑(ByteArray.size s):Int),(k:Int)=(↑(ByteArray.size s):Int),QX,QX] (leaf (GB.exit 0)))) VX ?_);simp only [Jg7,AZ,VO.sat,GX] at hQ;simp only [VO.sat,UE,G5,GL,UH,VN,UK,HG,RX,RP,LO,GS,AZ]
  have h1:=rO s ix UI k VL;refine ⟨λh=>?_,λh=>?_⟩
  ·have hk:k<s.size:=VL;have h2:=Qw4 s k VL;have h3:=Qb8 s k;have e0:tpC s ix (k+1)=tpC s ix k+((k:Int)+2)*(byN s k+3):=rfl;generalize ((k:Int)+2)*(byN s k+3)=z at h2 e0 ⊢;exact YY
  ·obtain rfl:k=s.size:=VL;exact YY
end
def OG:G0
 |[.x (.string s),.x (.int .i64 ix)]=>some ([s.size<=1000,0<=ix/\ix<=100000],.agg [i s.size,i (tpK s ix)])
 |_=>none
theorem o8(s:ByteArray)(ix:Int)(VV:s.size<=1000)(UI:0<=ix/\ix<=100000):VZ VQ 103 [.x (.string s),i ix] (.agg [i s.size,i (tpK s ix)]):=by
 refine G9 (L:=[Xq9 s ix]) Aa Ad U0 Tryz.func103 (UV Tryz.f103) (GA (lpE (b:= .loop Jl3) VX<|(Zs8 s ix VV UI).N)) (t:=need [VN (ix+1)] (need [VN ((23:Int)*(ix+1))] (need [ByteArray.size s<=4294967296] (need [YB s=YB s,ix=ix,QO,(23:Int)*(ix+1)=tpC s ix 0,Z3 s=Z3 s,U1 (↑(ByteArray.size s):Int),(0:Int)=(↑(0:Nat):Int),QX,QX] (need [(99971:Int)≠0] (leaf (RV.agg [RV.x (.int .i64 (↑(ByteArray.size s):Int)),RV.x (.int .i64 (Int.tmod (tpC s ix (ByteArray.size s)) (99971:Int)))]))))))) VX ?_
 have h1:=rO s ix UI s.size VV;simp only [VO.sat,UE,G5,GL,UH,UK,VN];all_goals exact V6
theorem E9:VS VQ 103 OG:=by
 refine ⟨(UJ Tryz.func103),?_⟩;intro avs ns res h hn;unfold OG at h;split at h
 ·cases h;exact o8 _ _ (hn _ VW) (hn _ VW)
 ·cases h
section
variable (n:Nat)(L:Nat->ByteArray)
def Zn2:St:={σ:=[QF n L,top,QI,top,top,top,QF n L,iI (n:Int)]++HK 16 [],m:=[(901,GQ.row 5 1 0 λx=>[])],nx:=902}
noncomputable def Jn1:Code:=UC (VU (UA Tryz.f62) 0)
def Wg1(k:Nat):St:={σ:=H6 [(3,.row 901),(4,.top),(5,.top),(8,i k)] (Zn2 n L).σ,m:=[(901,.row 5 1 (flB L k).size (DK (flB L k)))],nx:=902}
def CE(k:Nat):GB->Option St
 | .exit 0=>some {σ:=H6 [(3,.row 901),(4,.top),(5,.top),(8,i n)] (Zn2 n L).σ,m:=[(901,.row 5 1 (flB L n).size (DK (flB L n)))],nx:=902}
 |_=>none
def Jj0:CT:= .leaf (.exit 0,(CE n L 0 (.exit 0)).getD (Zn2 n L))
def Xt4:UL:=GN [(.slot 3,901,5,1)] (HM (Wg1 n L (0)) (Jj0 n L))
theorem Jd5(VV:n<=50)(UI: ∀k,k<n->(L k).size<=200):GD VQ (.loop Jn1) (Xt4 n L):=by
 refine G6 [(.slot 3,901,5,1)] (L:=[]) (Ae E9 (Ae eA Aa)) Ad U0 U7 (X:=Nat) (Wg1 n L) (λk=>k<=n) (λk=>n-k) (CE n L) (x0:=0) VW ?_ ?_ ?_
 ·rintro k;kernel_rfl
 ·rintro k y E h;unfold CE at h;split at h
  ·cases h;kernel_rfl
  ·cases h
 ·rintro Q hQ k hx;refine ⟨(k+1),?_⟩;(with_reducible refine DU (t:=branch (decide ((k:Int)<(n:Int))) (need [UN k n] (need [ByteArray.size (L k)<=1000,(0:Int)<=(k:Int)/\(k:Int)<=100000] (need [(0:Int)<=(↑(ByteArray.size (L k)):Int)/\(↑(ByteArray.size (L k)):Int)<=1000000000,(0:Int)<=tpK (L k) (k:Int)/\tpK (L k) (k:Int)<=1000000000] (need [(↑(ByteArray.size (tpB (↑(ByteArray.size (L k)):Int) (tpK (L k) (k:Int)))+ByteArray.size (L k)):Int)<=9223372036854775807] (need [(↑(ByteArray.size (tpB (↑(ByteArray.size (L k)):Int) (tpK (L k) (k:Int))++L k)+ByteArray.size {data:=#[10] }):Int)<=9223372036854775807] (need [ByteArray.size (flB L k)+ByteArray.size (tpB (↑(ByteArray.size (L k)):Int) (tpK (L k) (k:Int))++L k++{data:=#[10] })<=140737488355328] (need [VN ((k:Int)+1)] (need [U1 (QF n L),QI=QI,WG,U1 (QF n L),U1 (n:Int),(k:Int)+1=(↑(k+1):Int),ByteArray.size (flB L k)+ByteArray.size (tpB (↑(ByteArray.size (L k)):Int) (tpK (L k) (k:Int))++L k++{data:=#[10] })=ByteArray.size (flB L (k+1)),∀(i:Nat),i<ByteArray.size (flB L (k+1))->GJ (ByteArray.size (flB L k)) (DK (flB L k)) (DK (tpB (↑(ByteArray.size (L k)):Int) (tpK (L k) (k:Int))++L k++{data:=#[10] })) i=DK (flB L (k+1)) i] (leaf GB.normal))))))))) (need [U1 (QF n L),QI=QI,WG,U1 (QF n L),U1 (n:Int),(k:Int)=(n:Int),ByteArray.size (flB L k)=ByteArray.size (flB L n),∀(i:Nat),i<ByteArray.size (flB L n)->DK (flB L k) i=DK (flB L n) i] (leaf (GB.exit 0)))) VX ?_);simp only [Jj0,CE,VO.sat,GX] at hQ;simp only [VO.sat,UE,G5,GL,UH,VN,UK,HG,RX,RP,LO,GS,CE]
  have h1:=iG L k λj hj=>UI j VL
  refine ⟨λh=>?_,λh=>?_⟩
  ·have hk:k<n:=VL;have h2:=UI k hk;have h3:=rO (L k) k VL (L k).size VL;have h4:tpK (L k) k=(tpC (L k) k (L k).size)%99971:=Int.tmod_eq_emod_of_nonneg h3.1;have h5:0<=tpK (L k) k/\tpK (L k) k<99971:=VL;have h6:=bZ (L k) k;have h7:=b8 ((L k).size:Int) (tpK (L k) k);have e0:(flB L (k+1)).size=(flB L k).size+(rcB (L k) k).size:=Av;have e1:(⟨#[10]⟩:ByteArray).size=1:=rfl;have e2:(tpB ((L k).size:Int) (tpK (L k) k)++L k).size=11+(L k).size:=by rw [Av,h7]
   have e3:(tpB ((L k).size:Int) (tpK (L k) k)++L k++⟨#[10]⟩).size=12+(L k).size:=h6;have hq: ∀j,GJ (flB L k).size (DK (flB L k)) (DK (tpB ((L k).size:Int) (tpK (L k) k)++L k++⟨#[10]⟩)) j=DK (flB L (k+1)) j:=λj=>Xg8 _ (rcB (L k) k) j
   (with_reducible repeat' first|apply Al|intro _)
   all_goals first|exact PM|(first|exact hq _|(rw [e2,e1];omega)|(rw [e3];omega)|(rw [h7];omega))
  ·obtain rfl:k=n:=VL;exact YY
theorem Wj9(VV:n<=50)(UI: ∀k,k<n->(L k).size<=200):VZ VQ 62 [lns n L] (.lst 1 (flB L n).size (DK (flB L n))):=by
 refine G9 (L:=[Xt4 n L]) (Ae E9 (Ae eA Aa)) Ad U0 Tryz.func62 (UV Tryz.f62) (GA (lpE (b:= .loop Jn1) VX<|(Jd5 n L VV UI).N)) (t:=need [U1 (QF n L),QI=QI,WG,U1 (QF n L),U1 (n:Int),(0:Int)=(↑(0:Nat):Int),0=ByteArray.size (flB L 0),∀(i:Nat),i<ByteArray.size (flB L 0)->[]=DK (flB L 0) i] (leaf (RV.lst 1 (ByteArray.size (flB L n)) λj=>[AV.x (.int IntKind.u8 (byN (flB L n) j))]))) VX ?_
 simp only [VO.sat,UE,G5,GL,UH,UK,VN];have hx: ∀k,∀a∈DK (flB L n) k,isX a:=λk a ha=>by rw [B7.1 ha];exact Ak
 (with_reducible repeat' first|apply Al|intro _)
 all_goals first|exact Ak|omega|rfl|(rename_i h;exact absurd h (Aq _))|exact hx _ _ (by assumption)|decide
def Wv0:G0:=λl=>some ([l=[lns n L],ckE n L=0],.lst 1 (flB L n).size (DK (flB L n)))
theorem Qm8:VS VQ 62 (Wv0 n L):=by
 refine ⟨(UJ Tryz.func62),?_⟩;intro avs ns res h hn;cases h;have e:avs=[lns n L]:=hn _ VW;have h0:ckE n L=0:=hn _ VW;subst e;have hk:=Wp1 h0;exact Wj9 n L hk.1 hk.2
theorem Qn6(VV:n<=100):UP VQ 32 [lns n L] (.branch (ckE n L != 0) (.leaf (.tup [.x (.slice none 0 0),i (ckE n L)])) (.leaf (.tup [.lst 1 (flB L n).size (DK (flB L n)),i 0]))):=by
 refine GU (L:=[]) (Ae (LZ n L VL) (Ae (Qm8 n L) Aa)) Ad U0 Tryz.func32 (UV Tryz.f32) G4 (t:=need [(YR n L)] (branch (ckE n L != 0) (leaf (tup [QI,iI (ckE n L)])) (need [(YR n L),ckE n L=0] (leaf (tup [lst 1 (ByteArray.size (flB L n)) λj=>[AV.x (.int IntKind.u8 (byN (flB L n) j))],iI 0]))))) VX ?_
 intro Q hQ;simp only [VO.sat,UE,UK,VN,FF] at hQ ⊢;refine ⟨λh=>⟨.tup [.x (.slice none 0 0),i (ckE n L)],⟨rfl,⟨rfl,rfl⟩,Ak⟩,hQ.1 h⟩,λh=>?_⟩
 have h0:ckE n L=0:=by simpa using h
 (with_reducible repeat' first|apply Al|intro _)
 all_goals first|exact Ak|exact h0|rfl|(exact ⟨.tup [.lst 1 (flB L n).size (DK (flB L n)),i 0],⟨⟨rfl,rfl,λ_ _=>rfl⟩,⟨rfl,rfl⟩,Ak⟩,hQ.2 h⟩)
end
end Go.Proofs.YtakpdkmhclhlnaaGreatDoor.Hd
