/- Contracts, put together. Conditions: those of each. -/
import Derived.Test.YtlclobclmfhlmaaGreatDoorMm
import Derived.RangeFuncRecord
set_option linter.unusedSimpArgs false
set_option linter.unusedVariables false
set_option maxRecDepth 100000
namespace Go.Proofs.YtlclobclmfhlmaaGreatDoor.Hd
open Go Go.RowKit
structure bR (w w':World):Prop where
 size:w.heap.size<=w'.heap.size
 os:w'.os=w.os
 tape:w'.tape=w.tape
 output:w'.output=w.output
theorem Zg5{w:World}{p:Nat}{v:Value}{T:TypeId}(h:w.heap[p]? =some (.cells #[v] T (0,0)))(y:Nat):(w.setCell ⟨p,0,none⟩ v).heap[y]? =w.heap[y]? :=by
 by_cases hy:y=p
 ·subst hy;rw [heap_setCell_same w y 0 _ _ v h,h];rfl
 ·exact heap_setCell_other _ _ _ _ hy
abbrev XX(b:Nat):Value:=Value.pointer (some ⟨b,0,none⟩)
abbrev KA:Value:=Value.int IntKind.i64 0
set_option maxHeartbeats 2000000 in
theorem Zl7(b:Nat)(str:ByteArray)(a0 a3 a4 a5:Option Addr)(l0 q0 l3 q3 l4 q4 l5 q5:Nat)(i1 i2:Int)(w:World)(hb:w.heap[b]? =some (.cells #[.slice a0 l0 q0,.int .i64 i1,.int .i64 i2,.slice a3 l3 q3,.slice a4 l4 q4,.slice a5 l5 q5] 100 (0,0)))
  (e:Int)(touched:Nat->Prop)(ht: ∀y,touched y->y<w.heap.size)(P:World->World->Prop)
  (hl: ∀w2,bR w w2->(∀y,y<w.heap.size->w2.heap[y]? =w.heap[y]?)->Calls Tryz.prog 90 #[.pointer (some ⟨b,0,none⟩),.string str] w2 λen w3=>en=(if e=0 then .returned (.tuple #[]) else .panicked [{v:= .iface 182 (.agg #[.int .i64 e]),recovered:=false}])/\bR w2 w3/\(∀y,y<w2.heap.size-> ¬touched y->w3.heap[y]? =w2.heap[y]?)/\(∃c0 c1 c2 c3 c4 c5,w3.heap[b]? =some (.cells #[c0,c1,c2,c3,c4,c5] 100 (0,0)))/\P w2 w3):
  Calls Tryz.prog 63 #[.pointer (some ⟨b,0,none⟩),.string str] w λen w'=>en= .returned (.int .i64 e)/\ ∃w2 w3,bR w w2/\(∀y,y<w.heap.size->w2.heap[y]? =w.heap[y]?)/\P w2 w3/\bR w2 w3/\bR w3 w'/\(∀y,y<w3.heap.size->y≠b->y≠w.heap.size+1->w'.heap[y]? =w3.heap[y]?)/\w'.heap[b]? =(if e=0 then w3.heap[b]? else w.heap[b]?)/\(e=0-> ∀y:Nat,w'.heap[y]? =w3.heap[y]?):=by
 have hmf: ∀(fn:Fn) (first cap:Array Value) (w:World),(Instr.makeFunc fn first cap).run Tryz.prog w= .ok (.func fn first cap) w:=λ_ _ _ _=>rfl
 have lt: ∀{y o},w.heap[y]? =some o->y<w.heap.size:=λh=>(Array.getElem?_eq_some_iff.1 h).1
 have cb0:w.cell? ⟨b,0,none⟩=some (.slice a0 l0 q0):=by simp only [World.cell?,hb];rfl
 have cb1:w.cell? ⟨b,1,none⟩=some (.int .i64 i1):=by simp only [World.cell?,hb];rfl
 have cb2:w.cell? ⟨b,2,none⟩=some (.int .i64 i2):=by simp only [World.cell?,hb];rfl
 have cb3:w.cell? ⟨b,3,none⟩=some (.slice a3 l3 q3):=by simp only [World.cell?,hb];rfl
 have cb4:w.cell? ⟨b,4,none⟩=some (.slice a4 l4 q4):=by simp only [World.cell?,hb];rfl
 have cb5:w.cell? ⟨b,5,none⟩=some (.slice a5 l5 q5):=by simp only [World.cell?,hb];rfl
 have nb: ¬w.heap.size=b:=λh=>by have:=lt hb;omega
 have nb': ¬b=w.heap.size:=λh=>by have:=lt hb;omega
 have nb1: ¬b=w.heap.size+1:=λh=>by have:=lt hb;omega
 have nb2: ¬b=w.heap.size+1+1:=λh=>by have:=lt hb;omega
 have nb1': ¬w.heap.size+1=b:=λh=>by have:=lt hb;omega
 have nb2': ¬w.heap.size+1+1=b:=λh=>by have:=lt hb;omega
 have hA: ∀y,y<w.heap.size->((w.alloc (Obj.cells #[XX b] 95)).alloc (Obj.cells #[KA] 38)).heap[y]? =w.heap[y]? :=λy hy=>(Go.RowKit.Below.heap_alloc _ _ y (Nat.lt_succ_of_lt hy |> λh=>by simpa using h)).trans (Go.RowKit.Below.heap_alloc w _ y hy)
 have hAb:=(hA b (lt hb)).trans hb;have d0:((w.alloc (Obj.cells #[XX b] 95)).alloc (Obj.cells #[Value.int IntKind.i64 0] 38)).cell? ⟨b,0,none⟩=some (.slice a0 l0 q0):=by simp only [World.cell?,hAb];rfl
 have d1:((w.alloc (Obj.cells #[XX b] 95)).alloc (Obj.cells #[Value.int IntKind.i64 0] 38)).cell? ⟨b,1,none⟩=some (.int .i64 i1):=by simp only [World.cell?,hAb];rfl
 have d2:((w.alloc (Obj.cells #[XX b] 95)).alloc (Obj.cells #[Value.int IntKind.i64 0] 38)).cell? ⟨b,2,none⟩=some (.int .i64 i2):=by simp only [World.cell?,hAb];rfl
 have d3:((w.alloc (Obj.cells #[XX b] 95)).alloc (Obj.cells #[Value.int IntKind.i64 0] 38)).cell? ⟨b,3,none⟩=some (.slice a3 l3 q3):=by simp only [World.cell?,hAb];rfl
 have d4:((w.alloc (Obj.cells #[XX b] 95)).alloc (Obj.cells #[Value.int IntKind.i64 0] 38)).cell? ⟨b,4,none⟩=some (.slice a4 l4 q4):=by simp only [World.cell?,hAb];rfl
 have d5:((w.alloc (Obj.cells #[XX b] 95)).alloc (Obj.cells #[Value.int IntKind.i64 0] 38)).cell? ⟨b,5,none⟩=some (.slice a5 l5 q5):=by simp only [World.cell?,hAb];rfl
 have s1:(w.alloc (Obj.cells #[Value.pointer (some ⟨b,0,none⟩)] 95)).heap.size=w.heap.size+1:=by simp
 have s2:((w.alloc (Obj.cells #[Value.pointer (some ⟨b,0,none⟩)] 95)).alloc (Obj.cells #[Value.int IntKind.i64 0] 38)).heap.size=w.heap.size+2:=by simp
 have s3:(((w.alloc (Obj.cells #[XX b] 95)).alloc (Obj.cells #[KA] 38)).alloc (Obj.cells #[.slice a0 l0 q0,.int .i64 i1,.int .i64 i2,.slice a3 l3 q3,.slice a4 l4 q4,.slice a5 l5 q5] 32)).heap.size=w.heap.size+3:=by simp
 have hB: ∀y,y<w.heap.size->(((w.alloc (Obj.cells #[XX b] 95)).alloc (Obj.cells #[KA] 38)).alloc (Obj.cells #[.slice a0 l0 q0,.int .i64 i1,.int .i64 i2,.slice a3 l3 q3,.slice a4 l4 q4,.slice a5 l5 q5] 32)).heap[y]? =w.heap[y]? :=λy hy=>(Go.RowKit.Below.heap_alloc _ _ y (by rw [s2];omega)).trans (hA y hy)
 have b5:(((w.alloc (Obj.cells #[XX b] 95)).alloc (Obj.cells #[KA] 38)).alloc (Obj.cells #[.slice a0 l0 q0,.int .i64 i1,.int .i64 i2,.slice a3 l3 q3,.slice a4 l4 q4,.slice a5 l5 q5] 32)).heap[w.heap.size+2]? =some (.cells #[.slice a0 l0 q0,.int .i64 i1,.int .i64 i2,.slice a3 l3 q3,.slice a4 l4 q4,.slice a5 l5 q5] 32 (0,0)):=by
  have:=World.alloc_heap_new ((w.alloc (Obj.cells #[XX b] 95)).alloc (Obj.cells #[KA] 38)) (Obj.cells #[.slice a0 l0 q0,.int .i64 i1,.int .i64 i2,.slice a3 l3 q3,.slice a4 l4 q4,.slice a5 l5 q5] 32);rw [s2] at this;exact this
 have b4:(((w.alloc (Obj.cells #[XX b] 95)).alloc (Obj.cells #[KA] 38)).alloc (Obj.cells #[.slice a0 l0 q0,.int .i64 i1,.int .i64 i2,.slice a3 l3 q3,.slice a4 l4 q4,.slice a5 l5 q5] 32)).heap[w.heap.size+1]? =some (.cells #[.int .i64 0] 38 (0,0)):=by
  have:=World.alloc_heap_new (w.alloc (Obj.cells #[Value.pointer (some ⟨b,0,none⟩)] 95)) (Obj.cells #[Value.int IntKind.i64 0] 38);rw [s1] at this;exact (Go.RowKit.Below.heap_alloc _ _ _ (by rw [s2];omega)).trans this
 have b2:(((w.alloc (Obj.cells #[XX b] 95)).alloc (Obj.cells #[KA] 38)).alloc (Obj.cells #[.slice a0 l0 q0,.int .i64 i1,.int .i64 i2,.slice a3 l3 q3,.slice a4 l4 q4,.slice a5 l5 q5] 32)).heap[w.heap.size]? =some (.cells #[.pointer (some ⟨b,0,none⟩)] 95 (0,0)):=by
  have:=World.alloc_heap_new w (Obj.cells #[Value.pointer (some ⟨b,0,none⟩)] 95);exact (Go.RowKit.Below.heap_alloc _ _ _ (by rw [s2];omega)).trans ((Go.RowKit.Below.heap_alloc _ _ _ (by rw [s1];omega)).trans this)
 have hG:bR w (((w.alloc (Obj.cells #[XX b] 95)).alloc (Obj.cells #[KA] 38)).alloc (Obj.cells #[.slice a0 l0 q0,.int .i64 i1,.int .i64 i2,.slice a3 l3 q3,.slice a4 l4 q4,.slice a5 l5 q5] 32)):=⟨by rw [s3];omega,rfl,rfl,rfl⟩
 have FK:=hl _ hG hB;by_cases he:e=0
 ·subst he;simp only [if_pos rfl] at FK ⊢
  go_enter_defers Tryz.func63,Tryz.ntmps63
  go_wp2_with (go_at_call 90;refine FK.mono ?_;rintro en w3 ⟨rfl,g1,g2,g3,g4⟩;have h4:=(g2 (w.heap.size+1) (by rw [s3];omega) (λh=>by have:=ht _ h;omega)).trans b4;have k4:w3.cell? ⟨w.heap.size+1,0,none⟩=some (.int .i64 0):=(by simp only [World.cell?,h4];rfl);have f4:w3.frozen? ⟨w.heap.size+1,0,none⟩=false:=(by simp only [World.frozen?,h4];rfl))
  refine leaves_cons (f:=89) (args:=#[.pointer (some ⟨w.heap.size+2,0,none⟩),.pointer (some ⟨w.heap.size,0,none⟩),.pointer (some ⟨w.heap.size+1,0,none⟩)]) (by simp) (by simp [go_sem]) ?_
  refine (Qp7 _ _ _ _).mono ?_;rintro e' u' w'' ⟨rfl,rfl,rfl⟩;have kc:(w3.setCell ⟨w.heap.size+1,0,none⟩ (.int .i64 0)).cell? ⟨w.heap.size+1,0,none⟩=some (.int .i64 0):=by simp only [World.cell?,heap_setCell_same w3 _ 0 _ _ (.int .i64 0) h4];rfl
  simp [Leaves,settle,results,Tryz.results63,go_sem,kc];exact ⟨_,hG,hB,w3,g4,g1,⟨by simp,rfl,rfl,rfl⟩,λy _ _ h2=>heap_setCell_other _ _ _ _ h2,heap_setCell_other _ _ _ _ nb1,λy=>Zg5 h4 y⟩
 ·simp only [if_neg he] at FK ⊢
  go_enter_defers Tryz.func63,Tryz.ntmps63
  go_wp2_with (go_at_call 90;refine FK.mono ?_;rintro en w3 ⟨rfl,g1,g2,g3,g4⟩;have h4:=(g2 (w.heap.size+1) (by rw [s3];omega) (λh=>by have:=ht _ h;omega)).trans b4;have k4:w3.cell? ⟨w.heap.size+1,0,none⟩=some (.int .i64 0):=(by simp only [World.cell?,h4];rfl);have f4:w3.frozen? ⟨w.heap.size+1,0,none⟩=false:=(by simp only [World.frozen?,h4];rfl))
  refine leaves_cons (f:=89) (args:=#[.pointer (some ⟨w.heap.size+2,0,none⟩),.pointer (some ⟨w.heap.size,0,none⟩),.pointer (some ⟨w.heap.size+1,0,none⟩)]) (by simp) (by simp [go_sem]) ?_
  obtain ⟨c0,c1,c2,c3,c4,c5,g3⟩:=g3;have h2:=(g2 w.heap.size (by rw [s3];omega) (λh=>by have:=ht _ h;omega)).trans b2
  have h5:=(g2 (w.heap.size+2) (by rw [s3];omega) (λh=>by have:=ht _ h;omega)).trans b5
  refine (pG b w.heap.size (w.heap.size+1) (w.heap.size+2) e 0 a0 a3 a4 a5 l0 q0 l3 q3 l4 q4 l5 q5 i1 i2 c0 c1 c2 c3 c4 c5 [] w3 h2 h5 h4 g3 (λh=>nb1 h.symm)).mono ?_
  rintro e' u' w'' ⟨rfl,rfl,m1,m2,m3,m4,m5⟩;have kc:w''.cell? ⟨w.heap.size+1,0,none⟩=some (.int .i64 e):=by simp only [World.cell?,m3];rfl
  simp [Leaves,settle,results,Tryz.results63,go_sem,kc];exact ⟨_,hG,hB,w3,g4,g1,⟨m1,m4.1,m4.2.1,m4.2.2⟩,m5,m2.trans hb.symm,λh=>absurd h he⟩
open Go Go.Sx Go.RowKit
open Go.Sx.VP (need branch leaf)
open Go.Sx.AV (lst ptr agg roI tup top)
theorem yK{e:UN}{w:World}{sz n:Nat}{f:Nat->List AV}{v:Value}(h:Rep e w (.lst sz n f) v): ∃a l c,v= .slice a l c:=by
 cases h with
 |lstNil=>exact ⟨_,_,_,rfl⟩
 |lst=>exact ⟨_,_,_,rfl⟩
theorem Zg2(W:Nat->ByteArray)(s:HS):(F9 W s).xn=s.xn/\(F9 W s).xg=s.xg/\(F9 W s).yn=s.yn/\(F9 W s).yg=s.yg:=by
 unfold F9;split<;>exact ⟨rfl,rfl,rfl,rfl⟩
theorem Xn3(e:Int):Xn4 182 (rsE e)=(if e=0 then .returned (.tuple #[]) else .panicked [{v:= .iface 182 (.agg #[.int .i64 e]),recovered:=false}]):=by
 unfold rsE Xn4;by_cases h:e=0
 ·simp [h]
 ·simp [h]
def Xw1(e:UN)(w0:World)(T:Nat->Prop)(q r t:Nat)(s s':HS)(er:Int)(w2 w3:World):Prop:=
 Below w0.heap.size w0 w3/\(∀x,(e.ro x\/(w0.heap.size<=x/\x<w2.heap.size/\e.own x≠some q/\e.own x≠some r/\e.own x≠some t))->w3.heap[x]? =w2.heap[x]?)/\
 ∃ro1:Nat->Prop,(∀x,e.ro x->ro1 x)/\(∀x,T x-> ¬ro1 x)/\G4 {e with ro:=ro1,own:=LS e q r t} w0.heap.size w3/\
  GK {e with ro:=ro1,own:=LS e q r t} w3 q (.cells 100 (cond (rsE er).1 (hsL s') [.top,.top,.top,.top,.top,.top]))/\
  GK {e with ro:=ro1,own:=LS e q r t} w3 r (.row 38 1 s.xn s.xg)/\GK {e with ro:=ro1,own:=LS e q r t} w3 t (.row 9 1 s.yn s.yg)
theorem Zl9{str:ByteArray}{n:Nat}{W:Nat->ByteArray}{s:HS}(h:uB str n W)(hs:fZ s)
  {e:UN}{w0 w:World}{T:Nat->Prop}{q r t:Nat}(hEv:G4 e w0.heap.size w)(hB:Below w0.heap.size w0 w)(hT: ∀b,T b->b<w0.heap.size/\ ¬e.ro b)
  (hq:GK e w q (.cells 100 (hsL s)))(hr:GK e w r (.row 38 1 s.xn s.xg))(ht:GK e w t (.row 9 1 s.yn s.yg))(hqr:q≠r)(hqt:q≠t)(hrt:r≠t)(hrv: ∃a b c,e.val r= .slice a b c)(htv: ∃a b c,e.val t= .slice a b c):
  Calls Tryz.prog 63 #[.pointer (some ⟨e.blk q,0,none⟩),.string str] w λen w'=>en= .returned (.int .i64 (LV W n s))/\ ∃w2 w3,bR w w2/\(∀y,y<w.heap.size->w2.heap[y]? =w.heap[y]?)/\Xw1 e w0 T q r t s (F9 W s) (LV W n s) w2 w3/\bR w2 w3/\bR w3 w'/\(∀y,y<w3.heap.size->y≠e.blk q->y≠w.heap.size+1->w'.heap[y]? =w3.heap[y]?)/\w'.heap[e.blk q]? =(if LV W n s=0 then w3.heap[e.blk q]? else w.heap[e.blk q]?)/\(LV W n s=0-> ∀y:Nat,w'.heap[y]? =w3.heap[y]?):=by
 have hq0:=hq;obtain ⟨ql,qo,vs,qh,qv⟩:=hq;obtain ⟨u0,us,rfl,r0,qv⟩:=qv.cons_inv;obtain ⟨u1,us,rfl,r1,qv⟩:=qv.cons_inv;obtain ⟨u2,us,rfl,r2,qv⟩:=qv.cons_inv;obtain ⟨u3,us,rfl,r3,qv⟩:=qv.cons_inv;obtain ⟨u4,us,rfl,r4,qv⟩:=qv.cons_inv;obtain ⟨u5,us,rfl,r5,qv⟩:=qv.cons_inv;obtain rfl:=qv.nil_inv;obtain ⟨a0,l0,q0,rfl⟩:=yK r0;obtain rfl:=r1.x_inv;obtain rfl:=r2.x_inv;obtain ⟨a3,l3,q3,rfl⟩:=yK r3;obtain ⟨a4,l4,q4,rfl⟩:=yK r4;obtain ⟨a5,l5,q5,rfl⟩:=yK r5;refine Zl7 (e.blk q) str a0 a3 a4 a5 l0 q0 l3 q3 l4 q4 l5 q5 s.pl s.ph w qh (LV W n s) (λy=>e.own y=some q\/e.own y=some r\/e.own y=some t) (λy hy=>by rcases hy with hy|hy|hy<;>exact (hEv.owned _ _ hy).2) (Xw1 e w0 T q r t s (F9 W s) (LV W n s)) ?_
 intro w2 hG jP;have st:Step e e w w2:=⟨λb hb hro=>⟨hro,jP b hb⟩,λk hk=>⟨hk,rfl,rfl⟩,hG.size⟩
 have hE2:G4 e w0.heap.size w2:=⟨λx hx=>⟨(hEv.apart x hx).1,qD (hEv.apart x hx).2 hG.size⟩,λx k hk=>⟨(hEv.owned x k hk).1,qD (hEv.owned x k hk).2 hG.size⟩,hEv.glob.step st⟩
 have hB2:Below w0.heap.size w0 w2:=⟨hG.os.trans hB.os,hG.tape.trans hB.tape,hG.output.trans hB.output,Ar hB.size hG.size,λx hx=>(jP x (qD hx hB.size)).trans (hB.block x hx)⟩
 have same: ∀{k:Nat} {R:GS},Xk1 R=false->GK e w k R->GK e w2 k R:=λha hh=>LN st (λx hx=>⟨hx,jP x (hEv.owned _ _ hx).2⟩) ha hh
 have hx:=Zg2 W s;refine (Zm6 (Qq4 h hs) hx hE2 hB2 hT (same rfl hq0) (same rfl hr) (same rfl ht) hqr hqt hrt hrv htv).mono ?_;rintro en w3 ⟨rfl,g2,g3,g4,g5⟩;refine ⟨Xn3 _,⟨g3,g2.os.trans hB2.os.symm,g2.tape.trans hB2.tape.symm,g2.output.trans hB2.output.symm⟩,λy hy hn=>?_,?_,g2,g4,g5⟩
 ·rcases An y w0.heap.size with h1|h1
  ·exact (g2.block y h1).trans (hB2.block y h1).symm
  ·exact g4 y (.inr ⟨h1,hy,λh=>hn (.inl h),λh=>hn (.inr (.inl h)),λh=>hn (.inr (.inr h))⟩)
 ·obtain ⟨ro1,_,_,_,⟨_,_,vs1,k0,k1⟩,_⟩:=g5;have hl:vs1.length=6:=by
   rw [←k1.1];cases (rsE (LV W n s)).1<;>rfl
  match vs1,hl,k0 with
  |[c0,c1,c2,c3,c4,c5],_,k0=>exact ⟨c0,c1,c2,c3,c4,c5,k0⟩
theorem Qc5{w w':World}{T sz n:Nat}{v:Value}{xs:List Value}(h:w.ownsRow 0 T sz v n xs)(k: ∀b,v.ownBlock=some b->w'.heap[b]? =w.heap[b]?):w'.ownsRow 0 T sz v n xs:=by
 refine ⟨h.1,?_⟩;rcases h.2 with h2|⟨g,cap,cur,rfl,h3,h4,h5⟩
 ·exact .inl h2
 ·exact .inr ⟨g,cap,cur,rfl,h3,(k g rfl).trans h4,h5⟩
theorem Zl8{str:ByteArray}{n:Nat}{W:Nat->ByteArray}{s:HS}(h:uB str n W)(hs:fZ s)
  {e:UN}{w0 w:World}{T:Nat->Prop}{q r t:Nat}(hEv:G4 e w0.heap.size w)(hB:Below w0.heap.size w0 w)(hT: ∀b,T b->b<w0.heap.size/\ ¬e.ro b)
  (hq:GK e w q (.cells 100 (hsL s)))(hr:GK e w r (.row 38 1 s.xn s.xg))(ht:GK e w t (.row 9 1 s.yn s.yg))(hqr:q≠r)(hqt:q≠t)(hrt:r≠t)(hrv: ∃a b c,e.val r= .slice a b c)(htv: ∃a b c,e.val t= .slice a b c)
  (hxx: ∀i,i<s.xn-> ∀a∈s.xg i,∃u,a= .x u)(hyy: ∀i,i<s.yn-> ∀a∈s.yg i,∃u,a= .x u):
  Calls Tryz.prog 63 #[.pointer (some ⟨e.blk q,0,none⟩),.string str] w λen w'=>en= .returned (.int .i64 (LV W n s))/\Below w0.heap.size w0 w'/\w.heap.size<=w'.heap.size/\(∀x,e.ro x->w'.heap[x]? =w.heap[x]?)/\
   ∃ro1:Nat->Prop,(∀x,e.ro x->ro1 x)/\(∀x,T x-> ¬ro1 x)/\G4 {e with ro:=ro1,own:=LS e q r t} w0.heap.size w'/\
    GK {e with ro:=ro1,own:=LS e q r t} w' q (.cells 100 (hsL (if LV W n s=0 then F9 W s else s)))/\GK {e with ro:=ro1,own:=LS e q r t} w' r (.row 38 1 s.xn s.xg)/\GK {e with ro:=ro1,own:=LS e q r t} w' t (.row 9 1 s.yn s.yg):=by
 refine (Zl9 h hs hEv hB hT hq hr ht hqr hqt hrt hrv htv).mono ?_;rintro en w' ⟨rfl,w2,w3,G1,e1,⟨B3,K3,ro1,R1,R2,R3,R4,R5,R6⟩,G2,G3,O1,O2,O3⟩;have hro: ∀x,e.ro x->x<w.heap.size/\x≠e.blk q:=λx hx=>⟨(hEv.apart x hx).2,λh=>by
  have h1:=(hEv.apart x hx).1;rw [h,hq.2.1] at h1;cases h1⟩
 have hqlt:e.blk q<w.heap.size:=(hEv.owned _ _ hq.2.1).2;have lt3: ∀{x},x<w.heap.size->x<w3.heap.size:=λh=>qD h (Ar G1.size G2.size)
 have hsz:w.heap.size<=w'.heap.size:=Ar (Ar G1.size G2.size) G3.size;have keep: ∀x,e.ro x->w'.heap[x]? =w.heap[x]? :=λx hx=>by
  rw [O1 x (lt3 (hro x hx).1) (hro x hx).2 (by have:=(hro x hx).1;omega),K3 x (.inl hx)]
  exact e1 x (hro x hx).1
 have b0:w0.heap.size<=e.blk q:=(hEv.owned _ _ hq.2.1).1;have hBel:Below w0.heap.size w0 w':=⟨G3.os.trans B3.os,G3.tape.trans B3.tape,G3.output.trans B3.output,Ar B3.size G3.size,λx hx=>by
  rw [O1 x (lt3 (qD hx hB.size)) VM (by have:=hB.size;omega)]
  exact B3.block x hx⟩
 refine ⟨rfl,hBel,hsz,keep,?_⟩;by_cases he:LV W n s=0
 ·have D3:=O3 he;have hb:(rsE (LV W n s)).1=true:=by rw [he];rfl
  rw [hb] at R4;rw [if_pos he];have st:Step {e with ro:=ro1,own:=LS e q r t} {e with ro:=ro1,own:=LS e q r t} w3 w':=⟨λb _ hr=>⟨hr,D3 b⟩,λk hk=>⟨hk,rfl,rfl⟩,G3.size⟩
  exact ⟨ro1,R1,R2,⟨λx hx=>⟨(R3.apart x hx).1,qD (R3.apart x hx).2 G3.size⟩,λx k hk=>⟨(R3.owned x k hk).1,qD (R3.owned x k hk).2 G3.size⟩,R3.glob.step st⟩,LN st (λx hx=>⟨hx,D3 x⟩) rfl R4,LN st (λx hx=>⟨hx,D3 x⟩) rfl R5,LN st (λx hx=>⟨hx,D3 x⟩) rfl R6⟩
 ·rw [if_neg he] at O2;rw [if_neg he];have st:Step e {e with own:=LS e q r t} w w':=⟨λb _ hr=>⟨hr,keep b hr⟩,λk hk=>⟨hk,rfl,rfl⟩,hsz⟩
  obtain ⟨ql,qo,vs,qh,qv⟩:=hq;have HA: ∀{x j},LS e q r t x=some j->w0.heap.size<=x/\x<w.heap.size:=by
   intro x j hj;unfold LS at hj;split at hj
   ·rename_i h;rw [h];exact hEv.owned _ _ qo
   split at hj
   ·rename_i h;exact hEv.owned _ _ (hr.2.1 x h)
   split at hj
   ·rename_i h;exact hEv.owned _ _ (ht.2.1 x h)
   ·cases hj
  have I7: ∀{k:Nat},k≠q->(∀b,(e.val k).ownBlock=some b->e.own b=some k)-> ∀b,(e.val k).ownBlock=some b->w'.heap[b]? =w3.heap[b]? :=by
   intro k hk ho b hb;have h1:=hEv.owned _ _ (ho b hb);refine O1 b (lt3 h1.2) (λh=>?_) (by have:=h1.2;omega)
   have h2:=ho b hb;rw [h,qo] at h2;exact hk (Bb h2).symm
  refine ⟨e.ro,λ_ h=>h,λx hx=>(hT x hx).2,⟨λx hx=>⟨?_,qD (hEv.apart x hx).2 hsz⟩,λx k hk=>⟨(HA hk).1,qD (HA hk).2 hsz⟩,hEv.glob.step st⟩,⟨ql,if_pos rfl,vs,O2.trans qh,qv.step st⟩,?_,?_⟩
  ·have h0:=(hEv.apart x hx).1;show LS e q r t x=none;unfold LS;rw [if_neg (hro x hx).2,if_neg (λh=>by rw [hr.2.1 x h] at h0;cases h0),if_neg (λh=>by rw [ht.2.1 x h] at h0;cases h0)]
  ·obtain ⟨l5,o5,f5,xs5,p5,r5⟩:=R5;refine ⟨l5,o5,f5,xs5,Qc5 p5 (I7 hqr.symm hr.2.1),λi j a v O ha hv=>?_⟩
   obtain ⟨u,rfl⟩:=hxx i O a (F4 ha);rw [(r5 i j _ v O ha hv).x_inv];exact .x _
  ·obtain ⟨l6,o6,f6,xs6,p6,r6⟩:=R6;refine ⟨l6,o6,f6,xs6,Qc5 p6 (I7 hqt.symm ht.2.1),λi j a v O ha hv=>?_⟩
   obtain ⟨u,rfl⟩:=hyy i O a (F4 ha);rw [(r6 i j _ v O ha hv).x_inv];exact .x _
def UN.nilAt(e:UN)(nx:Nat):UN:={ro:=e.ro,own:=e.own,live:=λk=>k=nx\/e.live k,blk:=e.blk,val:=λk=>if k=nx then .slice none 0 0 else e.val k}
theorem EQ{e:UN}{nx:Nat}{w:World}(h: ¬e.live nx):Step e (UN.nilAt e nx) w w:=⟨λ_ _ h=>⟨h,rfl⟩,λk hk=>⟨.inr hk,rfl,by
 have:k≠nx:=λh'=>h (h'▸hk)
 simp [UN.nilAt,this]⟩,Am _⟩
theorem Wi5{e:UN}{nx B:Nat}{w:World}(h: ¬e.live nx)(hE:G4 e B w):G4 (UN.nilAt e nx) B w:=⟨hE.apart,hE.owned,hE.glob.step (EQ h)⟩
theorem Qp6(e:UN)(nx:Nat)(w:World)(T n:Nat)(f:Nat->List AV)(h:n=0):GK (UN.nilAt e nx) w nx (.row T 1 n f):=by
 subst h;refine ⟨.inl rfl,λb hb=>?_,λi O=>absurd O (Aq i),[],?_,λi j a v O=>absurd O (Aq i)⟩
 ·simp [UN.nilAt,Value.ownBlock] at hb
 ·have:(UN.nilAt e nx).val nx= .slice none 0 0:=by simp [UN.nilAt]
  rw [this];exact World.ownsRow_nil w 0 T 1
theorem NW{e:UN}{w:World}{k T sz n:Nat}{f:Nat->List AV}(h:GK e w k (.row T sz n f)): ∃a b c,e.val k= .slice a b c:=by
 obtain ⟨_,_,_,xs,h4,_⟩:=h;rcases h4.2 with ⟨h5,_⟩|⟨g,cap,cur,h5,_⟩
 ·exact ⟨_,_,_,h5⟩
 ·exact ⟨_,_,_,h5⟩
def lnW(s:ByteArray)(k:Nat):ByteArray:=(spl s ⟨#[32]⟩).getD k ByteArray.empty
def lnN(s:ByteArray):Nat:=Lib.countB s ⟨#[32]⟩+1
theorem rD(sep:ByteArray): ∀(k:Nat) (s:ByteArray),∀x∈Lib.splitB sep 0 k s,x.size<=s.size
 | 0,s,x,hx=>by
  simp only [Lib.splitB,GQ,DQ,or_false] at hx;rw [hx];exact Am _
 |k+1,s,x,hx=>by
  unfold Lib.splitB at hx;split at hx
  ·simp only [GQ,DQ,or_false] at hx;rw [hx];exact Am _
  ·rcases GQ.1 hx with rfl|hx
   ·rw [ByteArray.size_extract];omega
   ·have:=rD sep k _ x hx;rw [ByteArray.size_extract] at this;omega
section
variable (s:ByteArray)
theorem Qq9(h:s.size<100000):uB s (lnN s) (lnW s):=by
 refine ⟨h,rfl,λk _=>rfl,λk=>?_⟩
 unfold lnW;rw [List.getD_eq_getElem?_getD];cases he:(spl s ⟨#[32]⟩)[k]? with
 |none=>exact Ao _
 |some x=>
  have:=rD _ _ _ x (F4 he);show x.size<=100000;omega
def lnE(x:HS):Int:=LV (lnW s) (lnN s) x
def lnS(x:HS):HS:=if lnE s x=0 then F9 (lnW s) x else x
end
def hsX(s:HS)(n:Nat)(g:Nat->List AV)(n':Nat)(g':Nat->List AV):HS:={s with xn:=n,xg:=g,yn:=n',yg:=g'}
theorem Qb2(W:Nat->ByteArray)(n:Nat)(s:HS)(k k':Nat)(g g':Nat->List AV):LV W n (hsX s k g k' g')=LV W n s:=by
 unfold LV;split<;>rfl
theorem Xg8(W:Nat->ByteArray)(s:HS)(k k':Nat)(g g':Nat->List AV):F9 W (hsX s k g k' g')=hsX (F9 W s) k g k' g':=by
 unfold F9;split<;>rfl
theorem Zn9{s:HS}(h:fZ s)(k k':Nat)(g g':Nat->List AV):fZ (hsX s k g k' g'):=⟨h.nr,h.bV,h.nc,h.sV⟩
theorem Zm5{s:HS}(h:fZ s)(str:ByteArray):fZ (lnS str s):=by
 unfold lnS;split
 ·rename_i h0;exact Xg7 h h0
 ·exact h
def hs0:HS:={nr:=0,ra:=λ_=>0,rb:=λ_=>0,ru:=λ_=>0,rv:=λ_=>0,pl:=760,ph:=760,nb:=0,ql:=λ_=>0,qh:=λ_=>0,qm:=λ_=>0,qr:=λ_ _=>0,qv:=λ_ _=>0,nc:=0,ca:=λ_=>0,cb:=λ_=>0,cc:=λ_=>0,cd:=λ_=>0,cv:=λ_=>false,ns:=0,sa:=λ_=>0,sb:=λ_=>0,sc:=λ_=>0,sl:=λ_=>0,sh:=λ_=>0,xn:=0,xg:=λ_=>[],yn:=0,yg:=λ_=>[] }
def sK(L:Nat->ByteArray):Nat->HS
 | 0=>hs0
 |k+1=>lnS (L k) (sK L k)
def eK(L:Nat->ByteArray)(k:Nat):Int:=lnE (L k) (sK L k)
def exG(L:Nat->ByteArray)(j:Nat):List AV:=[.x (.int .i64 (eK L j))]
theorem Zo1:fZ hs0:=⟨Ao _,⟨⟨Ao _,λb hb=>absurd hb (Aq b)⟩,λb hb=>absurd hb (Aq b)⟩,Ao _,⟨Ao _,λk hk=>absurd hk (Aq k)⟩⟩
theorem rH(L:Nat->ByteArray): ∀k,fZ (sK L k)
 | 0=>Zo1
 |k+1=>Zm5 (rH L k) (L k)
def AP(L:Nat->ByteArray)(N r:Nat):D6:=λavs m nx sv=>match avs with
 |[.ptr q 0,.x (.string str')]=>match DJ m q with
  |some (.cells T l)=>match DJ m r with
   |some (.row T1 sz1 n1 f1)=>match Nat.beq T 100&&Nat.beq T1 38&& !Nat.beq q r with
    |true=>some (.needT [n1<N,l=hsL (sK L n1),FY str'= .x (.string (L n1)),sz1=1,f1=exG L] (.leaf (.x (.int .i64 (eK L n1)),[(q,.cells 100 (hsL (sK L (n1+1)))),(r,.row 38 1 n1 (exG L))],nx+1,sv)))
    |false=>none
   |_=>none
  |_=>none
 |_=>none
theorem Wi6{L:Nat->ByteArray}{N r:Nat}(hL: ∀k,k<N->(L k).size<100000):
  GE VR 63 (AP L N r):=by
 refine ⟨(UK Tryz.func63),?_⟩;intro avs m nx sv tr ht Q hQ cx w0 T e ds args w hE hB hm hlv LT hxt hr;unfold AP at ht;split at ht
 ·rename_i q str';split at ht
  ·rename_i T l h1;split at ht
   ·rename_i T1 sz1 n1 f1 h2;split at ht
    ·rename_i hb;rw [HC,HC] at hb;obtain ⟨⟨hb1,hb2⟩,hb3⟩:=hb;obtain rfl:=H2 hb1;obtain rfl:=H2 hb2;have hqr:q≠r:=by
      rintro rfl;simp at hb3
     cases ht;obtain ⟨hn,hq⟩:=VP.sat_needT hQ;have hn:=GF hn;have e0:n1<N:=hn _ VX;have e1:l=hsL (sK L n1):=hn _ VX;have e2:FY str'= .x (.string (L n1)):=hn _ VX;have e3:sz1=1:=hn _ VX;have e5:f1=exG L:=hn _ VX;have e2:str'=L n1:=by
      injection e2 with e2
      injection e2
     subst e1 e2 e3 e5;obtain ⟨v0,l1,rfl,r1,hr⟩:=hr.cons_inv;obtain ⟨v1,l2,rfl,r2,hr⟩:=hr.cons_inv;obtain rfl:=hr.nil_inv;obtain rfl:=r2.x_inv;have hv0:v0= .pointer (some ⟨e.blk q,0,none⟩):=by cases r1;rfl
     subst hv0;have hid: ¬e.live nx:=λh=>Bf _ (hlv _ h)
     have hQ0:=hm _ (G0 h1);have hR0:=hm _ (G0 h2);have hqn:q≠nx:=λh=>hid (h▸hQ0.1)
     have hrn:r≠nx:=λh=>hid (h▸hR0.1)
     have st0:=EQ (w:=w) hid;have hQ1:GK (UN.nilAt e nx) w q (.cells 100 (hsL (sK L n1))):=LN st0 (λx hx=>⟨hx,rfl⟩) rfl hQ0
     have hR1:GK (UN.nilAt e nx) w r (.row 38 1 n1 (exG L)):=LN st0 (λx hx=>⟨hx,rfl⟩) rfl hR0
     have hT1:=Qp6 e nx w 9 0 (λ_=>[]) rfl
     have h:=Qq9 _ (hL n1 e0);have hs:=Zn9 (rH L n1) n1 0 (exG L) (λ_=>[])
     have hxx: ∀i,i<n1-> ∀a∈exG L i,∃u,a= .x u:=λi _ a ha=>⟨_,B6.1 ha⟩
     refine (Zl8 h hs (Wi5 hid hE) hB LT hQ1 hR1 hT1 hqr hqn hrn (NW hR1) (NW hT1) hxx (λi O=>absurd O (Aq i))).mono ?_
     rintro en w' ⟨rfl,g1,g2,g3,ro1,g4,g5,g6,g7,g8,g9⟩;have st:Step e {UN.nilAt e nx with ro:=ro1,own:=LS (UN.nilAt e nx) q r nx} w w':=⟨λb _ hb=>⟨g4 b hb,g3 b hb⟩,λk hk=>⟨.inr hk,rfl,(st0.live k hk).2.2⟩,g2⟩
     rw [Qb2,Xg8] at g7;have g7:GK {UN.nilAt e nx with ro:=ro1,own:=LS (UN.nilAt e nx) q r nx} w' q (.cells 100 (hsL (sK L (n1+1)))):=by
      show GK _ w' q (.cells 100 (hsL (lnS (L n1) (sK L n1))));unfold lnS lnE;by_cases h0:LV (lnW (L n1)) (lnN (L n1)) (sK L n1)=0
      ·rw [if_pos h0] at g7 ⊢;exact g7
      ·rw [if_neg h0] at g7 ⊢;exact g7
     rw [Qb2];refine ⟨_,_,_,_,_,{UN.nilAt e nx with ro:=ro1,own:=LS (UN.nilAt e nx) q r nx},rfl,hq,g6,g1,?_,?_,λb hb=>⟨(LT b hb).1,g5 b hb⟩,hxt.step st,.x _⟩
     ·intro p hp;simp only [GQ,DQ,or_false] at hp;rcases hp with rfl|rfl
      ·exact g7
      ·exact g8
     ·rintro k (rfl|hk)
      ·exact Bk _
      ·exact Nat.lt_succ_of_lt (hlv k hk)
    ·cases ht
   ·cases ht
  ·cases ht
 ·cases ht
open Go Go.Sx Go.RowKit Bo
def cvB:GS->GS
 | .cells T [.x (.slice none 0 0),.x (.int .i64 a),.x (.int .i64 b),.x (.slice none 0 0),.x (.slice none 0 0),.x (.slice none 0 0)]=> .cells T [hsR hs0,i a,i b,hsB hs0,hsC hs0,hsS hs0]
 |r=>r
def cvM:H5->H5
 |[]=>[]
 |(k,r)::t=>(k,cvB r)::cvM t
noncomputable def Qa3:D6:=λavs m nx sv=>match nP avs m nx sv with
 |some t=>some (t.bind λp=> .leaf (p.1,cvM p.2.1,p.2.2.1,p.2.2.2))
 |none=>none
theorem Zq1{e:UN}{w:World}{k:Nat}{r:GS}(h:GK e w k r):GK e w k (cvB r):=by
 unfold cvB;split
 ·rename_i T a b;obtain ⟨h1,h2,vs,h3,h4⟩:=h;refine ⟨h1,h2,vs,h3,?_⟩;obtain ⟨u0,us,rfl,r0,h4⟩:=h4.cons_inv;obtain ⟨u1,us,rfl,r1,h4⟩:=h4.cons_inv;obtain ⟨u2,us,rfl,r2,h4⟩:=h4.cons_inv;obtain ⟨u3,us,rfl,r3,h4⟩:=h4.cons_inv;obtain ⟨u4,us,rfl,r4,h4⟩:=h4.cons_inv;obtain ⟨u5,us,rfl,r5,h4⟩:=h4.cons_inv;obtain rfl:=h4.nil_inv;obtain rfl:=r0.x_inv;obtain rfl:=r3.x_inv;obtain rfl:=r4.x_inv;obtain rfl:=r5.x_inv;exact .cons (.lstNil _ _) (.cons r1 (.cons r2 (.cons (.lstNil _ _) (.cons (.lstNil _ _) (.cons (.lstNil _ _) (.nil _ _))))))
 ·exact h
theorem Wv9{e:UN}{w:World}: ∀{m:H5},UX e m w->UX e (cvM m) w
 |[],_,p,hp=>by cases hp
 |(k,r)::t,h,p,hp=>by
  rcases GQ.1 hp with rfl|hp
  ·exact Zq1 (h (k,r) GJ)
  ·exact Wv9 (m:=t) (λq hq=>h q (HW _ hq)) p hp
theorem Qh1:GE VR 62 Qa3:=by
 refine ⟨IE.1,?_⟩;intro avs m nx sv t ht Q hQ c w0 T e ds args w hE hB hm hl LT hxt hr;unfold Qa3 at ht;split at ht
 ·rename_i t0 h0;cases ht;refine (IE.2 _ _ _ _ _ h0 _ (VP.sat_bind hQ) c w0 T e ds args w hE hB hm hl LT hxt hr).mono ?_;rintro en w' ⟨v,r,m',nx',sv',e',q1,q2,q3,q4,q5,q6,q7,q8,q9⟩;exact ⟨v,r,cvM m',nx',sv',e',q1,q2,q3,q4,Wv9 q5,q6,q7,q8,q9⟩
 ·cases ht
theorem iC{L:Nat->ByteArray}{n:Nat}(h: ∀k,k<n->(L k).size<100000):GE VR 63 (AP L n 902):=Wi6 h
abbrev KR:AV:=lst 3 0 λk=>[iI (hs0.ql k),iI (hs0.qh k),lst 2 0 λj=>[iI (hs0.qr k j),iI (hs0.qv k j)]]
section
variable (n:Nat)(L:Nat->ByteArray)
def Zt9:St:={σ:=[Q8 n L,top,QD,QH,ptr 900 0,top,top,top,top,Q8 n L,iI (n:Int)]++HM 13 [],m:=[(902,GS.row 38 1 0 λx=>[]),(900,GS.cells 100 [hR 0 hs0,iI 760,iI 760,KR,hC 0 hs0,hT 0 hs0])],nx:=903}
noncomputable def Jt4:Code:=UC (VV (U9 Tryz.f33) 0)
def Wl8(k:Nat):St:={σ:=H4 [(4,.ptr 900 0),(5,.row 902),(7,.top),(11,i k)] (Zt9 n L).σ,m:=[(902,.row 38 1 k (exG L)),(900,.cells 100 (hsL (sK L k)))],nx:=903}
def CY(k:Nat):G9->Option St
 | .exit 0=>some {σ:=H4 [(4,.ptr 900 0),(5,.row 902),(7,.top),(11,i n)] (Zt9 n L).σ,m:=[(902,.row 38 1 n (exG L)),(900,.cells 100 (hsL (sK L n)))],nx:=903}
 |_=>none
def Jo9:CT:= .leaf (.exit 0,(CY n L 0 (.exit 0)).getD (Zt9 n L))
def Xz8:UL:=GM [(.slot 4,900,0,2),(.slot 5,902,38,1)] (HK (Wl8 n L (0)) (Jo9 n L))
end
abbrev Y7:Prop:=ptr 900 0=ptr 900 0
noncomputable abbrev V1(L:Nat->ByteArray)(n:Nat):Ext:={R:=[],H:=[(62,Qa3),(63,(AP L n 902))] }
section
variable (n:Nat)(L:Nat->ByteArray)
theorem Je8(VU:n<=50)(UI: ∀k,k<n->(L k).size<100000):GA VR (.loop Jt4) (Xz8 n L):=by
 refine G5 [(.slot 4,900,0,2),(.slot 5,902,38,1)] (L:=[]) Aa (Ai Ab (Ag Qh1 (Ag (iC UI) Ac))) U1 U6 (X:=Nat) (Wl8 n L) (λk=>k<=n) (λk=>n-k) (CY n L) (x0:=0) VX ?_ ?_ ?_
 ·rintro k;kernel_rfl
 ·rintro k y E h;unfold CY at h;split at h
  ·cases h;kernel_rfl
  ·cases h
 ·rintro Q hQ k hx;refine ⟨(k+1),?_⟩;(with_reducible refine DL (t:=branch (decide ((k:Int)<(n:Int))) (need [UM k n] (need [k<n,U2 ([lst 4 ((sK L k).nr) λk_1=>[iI ((sK L k).ra k_1),iI ((sK L k).rb k_1),iI ((sK L k).ru k_1),iI ((sK L k).rv k_1)],iI ((sK L k).pl),iI ((sK L k).ph),lst 3 ((sK L k).nb) λk_1=>[iI ((sK L k).ql k_1),iI ((sK L k).qh k_1),lst 2 ((sK L k).qm k_1) λj=>[iI ((sK L k).qr k_1 j),iI ((sK L k).qv k_1 j)]],lst 5 ((sK L k).nc) λk_1=>[iI ((sK L k).ca k_1),iI ((sK L k).cb k_1),iI ((sK L k).cc k_1),iI ((sK L k).cd k_1),AV.x (.bool ((sK L k).cv k_1))],lst 5 ((sK L k).ns) λk_1=>[iI ((sK L k).sa k_1),iI ((sK L k).sb k_1),iI ((sK L k).sc k_1),iI ((sK L k).sl k_1),iI ((sK L k).sh k_1)]]),U2 (FY (L k)),1=1,exG L=exG L] (need [(k+1)*8<=140737488355328,RZ 1 (U8 1 [iI (eK L k)])] (need [VO ((k:Int)+1)] (need [U2 (Q8 n L),QD=QD,QH=QH,Y7,WJ,U2 (Q8 n L),U2 (n:Int),(k:Int)+1=(↑(k+1):Int),k+1=k+1,GY (k+1) (GI k (exG L) (U8 1 [iI (eK L k)])) (exG L),U2 (lst 4 ((sK L (k+1)).nr) λk_1=>[iI ((sK L (k+1)).ra k_1),iI ((sK L (k+1)).rb k_1),iI ((sK L (k+1)).ru k_1),iI ((sK L (k+1)).rv k_1)]),U2 ((sK L (k+1)).pl),U2 ((sK L (k+1)).ph),U2 (lst 3 ((sK L (k+1)).nb) λk_1=>[iI ((sK L (k+1)).ql k_1),iI ((sK L (k+1)).qh k_1),lst 2 ((sK L (k+1)).qm k_1) λj=>[iI ((sK L (k+1)).qr k_1 j),iI ((sK L (k+1)).qv k_1 j)]]),U2 (lst 5 ((sK L (k+1)).nc) λk_1=>[iI ((sK L (k+1)).ca k_1),iI ((sK L (k+1)).cb k_1),iI ((sK L (k+1)).cc k_1),iI ((sK L (k+1)).cd k_1),AV.x (.bool ((sK L (k+1)).cv k_1))]),U2 (lst 5 ((sK L (k+1)).ns) λk_1=>[iI ((sK L (k+1)).sa k_1),iI ((sK L (k+1)).sb k_1),iI ((sK L (k+1)).sc k_1),iI ((sK L (k+1)).sl k_1),iI ((sK L (k+1)).sh k_1)])] (leaf G9.normal)))))) (need [U2 (Q8 n L),QD=QD,QH=QH,Y7,WJ,U2 (Q8 n L),U2 (n:Int),(k:Int)=(n:Int),k=n,GT n (exG L),(lst 4 ((sK L k).nr) λk_1=>[iI ((sK L k).ra k_1),iI ((sK L k).rb k_1),iI ((sK L k).ru k_1),iI ((sK L k).rv k_1)])=hR ((sK L n).nr) (sK L n),(sK L k).pl=(sK L n).pl,(sK L k).ph=(sK L n).ph,(lst 3 ((sK L k).nb) λk_1=>[iI ((sK L k).ql k_1),iI ((sK L k).qh k_1),lst 2 ((sK L k).qm k_1) λj=>[iI ((sK L k).qr k_1 j),iI ((sK L k).qv k_1 j)]])=hY ((sK L n).nb) (sK L n),(lst 5 ((sK L k).nc) λk_1=>[iI ((sK L k).ca k_1),iI ((sK L k).cb k_1),iI ((sK L k).cc k_1),iI ((sK L k).cd k_1),AV.x (.bool ((sK L k).cv k_1))])=hC ((sK L n).nc) (sK L n),(lst 5 ((sK L k).ns) λk_1=>[iI ((sK L k).sa k_1),iI ((sK L k).sb k_1),iI ((sK L k).sc k_1),iI ((sK L k).sl k_1),iI ((sK L k).sh k_1)])=hT ((sK L n).ns) (sK L n)] (leaf (G9.exit 0)))) VW ?_)
  simp only [Jo9,CY,VP.sat,GX] at hQ;simp only [VP.sat,UD,G8,GO,UG,VO,UJ,HB,RE,RF,L7,GR,CY]
  refine ⟨λh=>?_,λh=>?_⟩
  ·have hk:k<n:=VM;have hq: ∀j,j<k+1->GI k (exG L) (U8 1 [i (eK L k)]) j=exG L j:=λj hj=>Pt.catF1 (a:=eK L) hj rfl
   (with_reducible repeat' first|apply Al|intro _)
   all_goals first|exact PQ|(first|exact hq _ (by assumption)|exact FS (by assumption) (by simp [AV.one,Value.oneCell']))
  ·obtain rfl:k=n:=VM
   (with_reducible repeat' first|apply Al|intro _)
   all_goals first|exact PQ|(assumption)
theorem l8(VU:n<=50)(UI: ∀k,k<n->(L k).size<100000):UQ VR 33 [lns n L] (.leaf (.tup [.ro (hsL (sK L n)),.lst 1 n (exG L)])):=by
 refine GV (L:=[Xz8 n L]) Aa (Ai Ab (Ag Qh1 (Ag (iC UI) Ac))) U1 Tryz.func33 (UW Tryz.f33) (UZ (lpE (b:= .loop Jt4) VW<|(Je8 n L VU UI).N)) (t:=need [U2 (Q8 n L),QD=QD,QH=QH,Y7,WJ,U2 (Q8 n L),U2 (n:Int),(0:Int)=(↑(0:Nat):Int),0=0,GY 0 (λi=>[]) (exG L),(hR 0 hs0)=hR 0 (sK L 0),(760:Int)=(sK L 0).pl,(760:Int)=(sK L 0).ph,(KR)=lst 3 0 λk=>[iI ((sK L 0).ql k),iI ((sK L 0).qh k),lst 2 0 λj=>[iI ((sK L 0).qr k j),iI ((sK L 0).qv k j)]],(hC 0 hs0)=hC 0 (sK L 0),(hT 0 hs0)=hT 0 (sK L 0)] (leaf (tup [AV.ro (hL (sK L n)),lst 1 n λj=>[iI (eK L j)]]))) VW ?_
 intro Q hQ;simp only [VP.sat,UD,UJ,VO,DP] at hQ ⊢
 (with_reducible repeat' first|apply Al|intro _)
 all_goals first|exact Ak|omega|rfl|assumption|exact ⟨.tup [.ro (hsL (sK L n)),.lst 1 n (exG L)],⟨rfl,⟨rfl,rfl,λ_ _=>rfl⟩,Ak⟩,hQ⟩
end
def baG(s:HS)(k:Nat):List AV:=[i (s.ql k),i (s.qh k),.lst 2 (s.qm k) (λj=>[i (s.qr k j),i (s.qv k j)])]
def hsN(s:HS):Prop:=s.nr<=1000/\s.nb<=1000/\s.nc<=1000/\s.ns<=1000/\ ∀b,b<s.nb->s.qm b<=1000
theorem Jj8(n:Nat)(a b u v:Nat->Int):gdX 4 n (λk=>[i (a k),i (b k),i (u k),i (v k)]):=λk _=>⟨rfl,λx hx=>by
 simp only [GQ,DQ,or_false] at hx;rcases hx with rfl|rfl|rfl|rfl<;>exact ⟨Ak,by simp [AV.one,Value.oneCell']⟩⟩
theorem Jj9(n:Nat)(a b c d:Nat->Int)(v:Nat->Bool):gdX 5 n (λk=>[i (a k),i (b k),i (c k),i (d k),bl (v k)]):=λk _=>⟨rfl,λx hx=>by
 simp only [GQ,DQ,or_false] at hx;rcases hx with rfl|rfl|rfl|rfl|rfl<;>exact ⟨Ak,by simp [AV.one,Value.oneCell']⟩⟩
theorem Jj7(n:Nat)(a b c d v:Nat->Int):gdX 5 n (λk=>[i (a k),i (b k),i (c k),i (d k),i (v k)]):=λk _=>⟨rfl,λx hx=>by
 simp only [GQ,DQ,or_false] at hx;rcases hx with rfl|rfl|rfl|rfl|rfl<;>exact ⟨Ak,by simp [AV.one,Value.oneCell']⟩⟩
theorem Jj6(n:Nat)(a b:Nat->Int):gdX 2 n (λk=>[i (a k),i (b k)]):=λk _=>⟨rfl,λx hx=>by
 simp only [GQ,DQ,or_false] at hx;rcases hx with rfl|rfl<;>exact ⟨Ak,by simp [AV.one,Value.oneCell']⟩⟩
theorem Zq8{s:HS}{k j:Nat}(hj:j<k+1):GI k (baG s) (U8 3 [i (s.ql k),i (s.qh k),.lst 2 (s.qm k) (λj=>[i (s.qr k j),i (s.qv k j)])]) j=baG s j:=by
 rcases (show j<k\/j=k by omega) with h|rfl
 ·show HD (decide (j<k)) _ _=_;rw [decide_eq_true h,show j-k=0 by omega]
  rfl
 ·show HD (decide (j<j)) _ _=_;rw [show decide (j<j)=false by simp,Bs]
  rfl
section
variable (s:HS)
def Zv5:St:={σ:=[agg (hL s),ptr 0 0,ptr 1 0,ptr 900 0]++HM 15 [hY s.nb s,iI (↑s.nb:Int)]++HM 17 [],m:=[(901,GS.row 75 3 0 λx=>[]),(900,GS.cells 32 [hR s.nr s,iI s.pl,iI s.ph,AV.row 901,hC s.nc s,hT s.ns s]),(1,GS.cells 32 [QH,iI 0,iI 0,QH,QH,QH]),(0,GS.cells 32 (hL s))],nx:=902}
noncomputable def Jv1:Code:=UC (VV (U9 Tryz.f34) 0)
def Wn8(k:Nat):St:={σ:=H4 [(3,.ptr 900 0),(5,.top),(21,i k)] (Zv5 s).σ,m:=[(901,.row 75 3 k (baG s)),(900,.cells 32 [hsR s,i s.pl,i s.ph,.row 901,hsC s,hsS s]),(1,(.cells 32 [.x (.slice none 0 0),i 0,i 0,.x (.slice none 0 0),.x (.slice none 0 0),.x (.slice none 0 0)])),(0,.cells 32 (hsL s))],nx:=902}
def EE(k:Nat):G9->Option St
 | .exit 0=>some {σ:=H4 [(3,.ptr 900 0),(5,.top),(21,i s.nb)] (Zv5 s).σ,m:=[(901,.row 75 3 s.nb (baG s)),(900,.cells 32 [hsR s,i s.pl,i s.ph,.row 901,hsC s,hsS s]),(1,(.cells 32 [.x (.slice none 0 0),i 0,i 0,.x (.slice none 0 0),.x (.slice none 0 0),.x (.slice none 0 0)])),(0,.cells 32 (hsL s))],nx:=902}
 |_=>none
def Jq9:CT:= .leaf (.exit 0,(EE s 0 (.exit 0)).getD (Zv5 s))
def Zc1:UL:=GM [(.slot 3,900,0,2),(.cell 900 3,901,75,3)] (HK (Wn8 s (0)) (Jq9 s))
abbrev Y8:List (Nat×UY):=[(64,tM),(65,tN),(66,tL),(67,tK)]
theorem Jl7(VU:hsN s):GA VR (.loop Jv1) (Zc1 s):=by
 refine G5 [(.slot 3,900,0,2),(.cell 900 3,901,75,3)] (L:=[]) (Ae Qf1 (Ae Qf2 (Ae Qf0 (Ae Qe9 Aa)))) Ad U1 U6 (X:=Nat) (Wn8 s) (λk=>k<=s.nb) (λk=>s.nb-k) (EE s) (x0:=0) VX ?_ ?_ ?_
 ·rintro k;kernel_rfl
 ·rintro k y E h;unfold EE at h;split at h
  ·cases h;kernel_rfl
  ·cases h
 ·rintro Q hQ k hx;refine ⟨(k+1),?_⟩;(with_reducible refine DL (t:=let z0:=(lst 2 (s.qm k) λj=>[iI (s.qr k j),iI (s.qv k j)]);(branch (decide ((k:Int)<(↑s.nb:Int))) (need [UM k s.nb] (need [s.qm k<=100000,gdX 2 (s.qm k) λj=>[iI (s.qr k j),iI (s.qv k j)]] (need [(k+1)*40<=140737488355328,RZ 1 (U8 3 [iI (s.ql k),iI (s.qh k),z0])] (need [VO ((k:Int)+1)] (need [U2 (agg (hL s)),QS,Z4,Y7,XW s,U2 (↑s.nb:Int),(k:Int)+1=(↑(k+1):Int),k+1=k+1,GY (k+1) (GI k (baG s) (U8 3 [iI (s.ql k),iI (s.qh k),z0])) (baG s),XI s,JS s,JT s,WI,XO s,XP s,QH=QH,QY,QY,QH=QH,QH=QH,QH=QH,XI s,JS s,JT s,XW s,XO s,XP s] (leaf G9.normal)))))) (need [U2 (agg (hL s)),QS,Z4,Y7,XW s,U2 (↑s.nb:Int),(k:Int)=(↑s.nb:Int),k=s.nb,∀(i:Nat),i<s.nb->baG s i=baG s i,XI s,JS s,JT s,WI,XO s,XP s,QH=QH,QY,QY,QH=QH,QH=QH,QH=QH,XI s,JS s,JT s,XW s,XO s,XP s] (leaf (G9.exit 0))))) VW ?_)
  simp only [Jq9,EE,VP.sat,GX] at hQ;simp only [VP.sat,UD,G8,GO,UG,VO,UJ,HB,RE,RF,L7,GR,EE]
  obtain ⟨h1,h2,h3,h4,h5⟩:=VU;refine ⟨λh=>?_,λh=>?_⟩
  ·have hk:k<s.nb:=VM;have h6:=h5 k hk
   (with_reducible repeat' first|apply Al|intro _)
   all_goals first|exact PQ|(first|exact Jj6 _ _ _|exact FS (by assumption) (by simp [AV.one,Value.oneCell'])|exact Zq8 (by assumption))
  ·obtain rfl:k=s.nb:=VM;exact V3
theorem sD(VU:hsN s):UQ VR 34 [.agg (hsL s)] (.leaf (.agg (hsL s))):=by
 refine GV (L:=[Zc1 s]) (Ae Qf1 (Ae Qf2 (Ae Qf0 (Ae Qe9 Aa)))) Ad U1 Tryz.func34 (UW Tryz.f34) (UZ (lpE (b:= .loop Jv1) VW<|(Jl7 s VU).N)) (t:=need [s.nr<=100000,gdX 4 s.nr λk=>[Bo.i (s.ra k),Bo.i (s.rb k),Bo.i (s.ru k),Bo.i (s.rv k)]] (need [s.nc<=100000,gdX 5 s.nc λk=>[i (s.ca k),i (s.cb k),i (s.cc k),i (s.cd k),bl (s.cv k)]] (need [s.ns<=100000,gdX 5 s.ns λk=>[i (s.sa k),i (s.sb k),i (s.sc k),i (s.sl k),i (s.sh k)]] (need [U2 (agg (hL s)),QS,Z4,Y7,XW s,U2 (↑s.nb:Int),(0:Int)=(↑(0:Nat):Int),0=0,GY 0 (λi=>[]) (baG s),XI s,JS s,JT s,WI,XO s,XP s,QH=QH,QY,QY,QH=QH,QH=QH,QH=QH,XI s,JS s,JT s,XW s,XO s,XP s] (leaf (agg (hL s))))))) VW ?_
 intro Q hQ;simp only [VP.sat,UD,UJ,VO,DP] at hQ ⊢;obtain ⟨h1,h2,h3,h4,h5⟩:=VU
 (with_reducible repeat' first|apply Al|intro _)
 all_goals first|exact Ak|omega|exact Jj8 _ _ _ _ _|exact Jj9 _ _ _ _ _ _|exact Jj7 _ _ _ _ _ _|rfl|assumption|(rename_i h;exact absurd h (Aq _))|exact ⟨.agg (hsL s),⟨⟨rfl,rfl,λ_ _=>rfl⟩,⟨rfl,rfl⟩,⟨rfl,rfl⟩,⟨rfl,rfl,λ_ _=>rfl⟩,⟨rfl,rfl,λ_ _=>rfl⟩,⟨rfl,rfl,λ_ _=>rfl⟩,Ak⟩,hQ⟩
end
section
variable (n:Nat)(a b c U O:Nat->Int)
def hoS(ow Z:Int):Int×Int:=hoF n a b c (eD n a b c U O (2^n)) (lS n a b c U O (2^n-1)) ow Z (2^n)
theorem Qp1(ow Z:Int)(VU:sV n a b c U O):UQ VR 11 [.agg [i 4,i 10,sls n a b c U O],i ow,i Z] (.branch (bt 0 ow 3&&bt 0 Z 100) (.branch (!jD n a b c U O) (.leaf (.tup [.agg [i 0,i 0],i 9])) (.leaf (.tup [.agg [i (hoS n a b c U O ow Z).1,i (hoS n a b c U O ow Z).2],i 0]))) (.leaf (.tup [.agg [i 0,i 0],i 2]))):=by
 refine GV (L:=[]) (Ae zS (Ae AE (Ae (vU n a b c U O (eD n a b c U O (2^n)) (lS n a b c U O (2^n-1)) VU) Aa))) (Aj Ab Ac (Ah (vP n a b c U O VU) (UE.nil _))) U1 Tryz.func11 (UW Tryz.f11) G7 (t:=let z6:=(lst 1 (2^n) λz=>[iI (eD n a b c U O (2^n) z)]);let z5:=(lst 1 (2^n) λz=>[iI (lS n a b c U O (2^n-1) z)]);let S:=(hoF n a b c (eD n a b c U O (2^n)) (lS n a b c U O (2^n-1)) ow Z (2^n));let z4:=(leaf (tup [agg [iI (Prod.fst S),iI (Prod.snd S)],iI 0]));let z0:=(need [AV.x (Y9)=AV.ro [iI 4,iI 10,Q0 n a b c U O,z6,z5],(0:Int)<=ow/\ow<4] z4);let I:=(branch (!jD n a b c U O) (branch ((9:Int) != 0) (leaf (tup [agg JQ,iI 9])) z0) (branch ((0:Int) != 0) (leaf (tup [agg JQ,iI 0])) (need [U2 (AV.ro [iI 4,iI 10,Q0 n a b c U O,z6,z5]),(0:Int)<=ow/\ow<4] z4)));let z3:=(branch ((2:Int) != 0) (leaf (tup [agg JQ,iI 2])) z0);(need [VO ((4:Int)-1)] (branch (bt (0:Int) ow ((4:Int)-1)) (need [QP n a b c U O] (branch (!bt (0:Int) Z (100:Int)) z3 I)) (need [QP n a b c U O] (branch (!false) z3 I))))) VW ?_
 intro Q hQ;simp only [VP.sat,UD,UJ] at hQ ⊢;have rp: ∀x y z:Int,FJ (.tup [.agg [i x,i y],i z]) (.tup [.agg [i x,i y],i z]):=λx y z=>⟨⟨⟨rfl,rfl⟩,⟨rfl,rfl⟩,Ak⟩,⟨rfl,rfl⟩,Ak⟩
 rw [show (4:Int)-1=3 from rfl];cases h1:bt 0 ow 3<;>cases h2:bt 0 Z 100<;>cases h3:jD n a b c U O<;>rw [h1,h2] at hQ<;>rw [h3] at hQ;all_goals (with_reducible repeat' first|apply Al|intro _)
 all_goals first
  |(simp only [VO];omega)
  |(exfalso;rename_i h;revert h;decide)
  |(exfalso;rename_i h _;revert h;decide)
  |(exfalso;rename_i h _ _;revert h;decide)
  |(exfalso;rename_i h _ _ _;revert h;decide)
  |(have:=(Bo.bt_iff _ _ _).1 h1;omega)
  |exact ⟨_,rp _ _ _,hQ.2 rfl⟩
  |exact ⟨_,rp _ _ _,(hQ.1 rfl).1 rfl⟩
  |exact ⟨_,rp _ _ _,(hQ.1 rfl).2 rfl⟩
def caB(Z:Int)(ow:Nat):Bool:=decide ((hoS n a b c U O ow Z).2>0)
def suB(Z:Int)(ow:Nat):Bool:=decide ((hoS n a b c U O ow Z).1>0)
def Qa8(Z:Int):St:={σ:=[agg (ZT n a b c U O),iI Z,ptr 0 0,top,top,top,iI 0,AV.ro [iI 4,iI 10,Q0 n a b c U O,lst 1 (2^n) λz=>[iI (eD n a b c U O (2^n) z)],lst 1 (2^n) λz=>[iI (lS n a b c U O (2^n-1) z)]]]++HM 13 [iI 4]++HM 24 [],m:=[(902,YA),(901,YA),(0,GS.cells 42 (ZT n a b c U O))],nx:=903}
noncomputable def Qx0:Code:=UC (VV (U9 Tryz.f39) 0)
def I0(Z:Int)(k:Nat):St:={σ:=H4 [(4,.row 901),(5,.row 902),(8,.top),(9,.top),(22,i k)] (Qa8 n a b c U O Z).σ,m:=[(902,.row 3 1 (GC (suB n a b c U O Z) (k)) (λz=>[i (UV (suB n a b c U O Z) 4 z)])),(901,.row 3 1 (GC (caB n a b c U O Z) (k)) (λz=>[i (UV (caB n a b c U O Z) 4 z)])),(0,.cells 42 [i 4,i 10,sls n a b c U O])],nx:=903}
def qP(Z:Int)(k:Nat):G9->Option St
 | .exit 0=>some {σ:=H4 [(4,.row 901),(5,.row 902),(8,.top),(9,.top),(22,i 4)] (Qa8 n a b c U O Z).σ,m:=[(902,.row 3 1 (GC (suB n a b c U O Z) (4)) (λz=>[i (UV (suB n a b c U O Z) 4 z)])),(901,.row 3 1 (GC (caB n a b c U O Z) (4)) (λz=>[i (UV (caB n a b c U O Z) 4 z)])),(0,.cells 42 [i 4,i 10,sls n a b c U O])],nx:=903}
 |_=>none
def Wz5(Z:Int):CT:= .leaf (.exit 0,(qP n a b c U O Z 0 (.exit 0)).getD (Qa8 n a b c U O Z))
def nH(Z:Int):UL:=GM [(.slot 4,901,3,1),(.slot 5,902,3,1)] (HK (I0 n a b c U O Z (0)) (Wz5 n a b c U O Z))
theorem Wf1(Z:Int)(VU:sV n a b c U O):GA VR (.loop Qx0) (nH n a b c U O Z):=by
 refine j5 [(.slot 4,901,3,1),(.slot 5,902,3,1)] (L:=[]) (Ae AE (Ae (vU n a b c U O (eD n a b c U O (2^n)) (lS n a b c U O (2^n-1)) VU) Aa)) U1 U6 (X:=Nat) (I0 n a b c U O Z) (λk=>k<=4) (λk=>4-k) (qP n a b c U O Z) (x0:=0) VX ?_ ?_ ?_
 ·rintro k;kernel_rfl
 ·rintro k y E h;unfold qP at h;split at h
  ·cases h;kernel_rfl
  ·cases h
 ·rintro Q hQ k hx;refine ⟨(k+1),?_⟩;(with_reducible refine DL (t:=let z0:=(U2 (AV.ro [iI 4,iI 10,Q0 n a b c U O,lst 1 (2^n) λz=>[iI (eD n a b c U O (2^n) z)],lst 1 (2^n) λz=>[iI (lS n a b c U O (2^n-1) z)]]));let I:=suB n a b c U O Z;let S:=caB n a b c U O Z;let z3:=(hoF n a b c (eD n a b c U O (2^n)) (lS n a b c U O (2^n-1)) (k:Int) Z (2^n));let z4:=(U8 1 [iI (k:Int)]);let z5:=QP n a b c U O;let z6:=W5 n a b c U O;(branch (decide ((k:Int)<4)) (need [z0,(0:Int)<=(k:Int)/\(k:Int)<4] (branch (decide (Prod.snd z3>0)) (need [(GC (S) k+1)*8<=140737488355328,RZ 1 (U8 1 [iI (k:Int)])] (branch (decide (Prod.fst z3>0)) (need [(GC (I) k+1)*8<=140737488355328,RZ 1 (U8 1 [iI (k:Int)])] (need [VO ((k:Int)+1)] (need [z5,Z=Z,QS,WI,WJ,QY,z0,W0,(k:Int)+1=(↑(k+1):Int),GC (I) k+1=GC (I) (k+1),∀(i:Nat),i<GC (I) (k+1)->GI (GC (I) k) (λz=>[iI (↑(UV (I) 4 z):Int)]) z4 i=[iI (↑(UV (I) 4 i):Int)],GC (S) k+1=GC (S) (k+1),∀(i:Nat),i<GC (S) (k+1)->GI (GC (S) k) (λz=>[iI (↑(UV (S) 4 z):Int)]) z4 i=[iI (↑(UV (S) 4 i):Int)],W0,WB,z6] (leaf G9.normal)))) (need [VO ((k:Int)+1)] (need [z5,Z=Z,QS,WI,WJ,QY,z0,W0,(k:Int)+1=(↑(k+1):Int),GC (I) k=GC (I) (k+1),∀(i:Nat),i<GC (I) (k+1)->[iI (↑(UV (I) 4 i):Int)]=[iI (↑(UV (I) 4 i):Int)],GC (S) k+1=GC (S) (k+1),∀(i:Nat),i<GC (S) (k+1)->GI (GC (S) k) (λz=>[iI (↑(UV (S) 4 z):Int)]) z4 i=[iI (↑(UV (S) 4 i):Int)],W0,WB,z6] (leaf G9.normal))))) (branch (decide (Prod.fst z3>0)) (need [(GC (I) k+1)*8<=140737488355328,RZ 1 (U8 1 [iI (k:Int)])] (need [VO ((k:Int)+1)] (need [z5,Z=Z,QS,WI,WJ,QY,z0,W0,(k:Int)+1=(↑(k+1):Int),GC (I) k+1=GC (I) (k+1),∀(i:Nat),i<GC (I) (k+1)->GI (GC (I) k) (λz=>[iI (↑(UV (I) 4 z):Int)]) z4 i=[iI (↑(UV (I) 4 i):Int)],GC (S) k=GC (S) (k+1),∀(i:Nat),i<GC (S) (k+1)->[iI (↑(UV (S) 4 i):Int)]=[iI (↑(UV (S) 4 i):Int)],W0,WB,z6] (leaf G9.normal)))) (need [VO ((k:Int)+1)] (need [z5,Z=Z,QS,WI,WJ,QY,z0,W0,(k:Int)+1=(↑(k+1):Int),GC (I) k=GC (I) (k+1),∀(i:Nat),i<GC (I) (k+1)->[iI (↑(UV (I) 4 i):Int)]=[iI (↑(UV (I) 4 i):Int)],GC (S) k=GC (S) (k+1),∀(i:Nat),i<GC (S) (k+1)->[iI (↑(UV (S) 4 i):Int)]=[iI (↑(UV (S) 4 i):Int)],W0,WB,z6] (leaf G9.normal)))))) (need [z5,Z=Z,QS,WI,WJ,QY,z0,W0,(k:Int)=4,GC (I) k=GC (I) 4,∀(i:Nat),i<GC (I) 4->[iI (↑(UV (I) 4 i):Int)]=[iI (↑(UV (I) 4 i):Int)],GC (S) k=GC (S) 4,∀(i:Nat),i<GC (S) 4->[iI (↑(UV (S) 4 i):Int)]=[iI (↑(UV (S) 4 i):Int)],W0,WB,z6] (leaf (G9.exit 0))))) VW ?_)
  simp only [Wz5,qP,VP.sat,GX] at hQ;simp only [VP.sat,UD,G8,GO,UG,VO,UJ,HB,RE,RF,L7,GR,qP]
  have hB: ∀(p:Nat->Bool) (k:Nat),GC p k<=k:=bA;have b1:=hB (caB n a b c U O Z) k;have b2:=hB (suB n a b c U O Z) k;refine ⟨λh=>?_,λh=>?_⟩
  ·have hk:k<4:=VM;have hq: ∀(p:Nat->Bool),p k=true-> ∀j,j<GC p (k+1)->GI (GC p k) (λz=>[i (UV p 4 z)]) (U8 1 [i k]) j=[i (UV p 4 j)]:=by
    intro p hp j hj;rw [FQ hp] at hj;exact Pt.catF1 (a:=λz=>((UV p 4 z:Nat):Int)) hj (by show (k:Int)=((UV p 4 (GC p k):Nat):Int);rw [wC hk hp])
   cases hc:caB n a b c U O Z k<;>cases hs:suB n a b c U O Z k
   ·have e1:=RW hc;have e2:=RW hs;have hc':=of_decide_eq_false hc;have hs':=of_decide_eq_false hs
    (with_reducible repeat' first|apply Al|intro _)
    all_goals first|exact PQ|(first|exact absurd (by assumption) hc'|exact absurd (by assumption) hs'|exact FS (by assumption) (by simp [AV.one,Value.oneCell']))
   ·have e1:=RW hc;have e2:=FQ hs;have hc':=of_decide_eq_false hc;have hs':=qC hs
    (with_reducible repeat' first|apply Al|intro _)
    all_goals first|exact PQ|(first|exact absurd (by assumption) hc'|contradiction|exact FS (by assumption) (by simp [AV.one,Value.oneCell'])|exact hq _ hs _ (by assumption))
   ·have e1:=FQ hc;have e2:=RW hs;have hc':=qC hc;have hs':=of_decide_eq_false hs
    (with_reducible repeat' first|apply Al|intro _)
    all_goals first|exact PQ|(first|exact absurd (by assumption) hs'|contradiction|exact FS (by assumption) (by simp [AV.one,Value.oneCell'])|exact hq _ hc _ (by assumption))
   ·have e1:=FQ hc;have e2:=FQ hs;have hc':=qC hc;have hs':=qC hs
    (with_reducible repeat' first|apply Al|intro _)
    all_goals first|exact PQ|(first|contradiction|exact FS (by assumption) (by simp [AV.one,Value.oneCell'])|exact hq _ hc _ (by assumption)|exact hq _ hs _ (by assumption))
  ·obtain rfl:k=4:=VM;exact V3
theorem Qo9(Z:Int)(VU:sV n a b c U O):UQ VR 39 [.agg [i 4,i 10,sls n a b c U O],i Z] (.branch (!bt 0 Z 100) (.leaf (.tup [.x (.slice none 0 0),.x (.slice none 0 0),i 2])) (.branch (!jD n a b c U O) (.leaf (.tup [.x (.slice none 0 0),.x (.slice none 0 0),i 9])) (.leaf (.tup [.lst 1 (GC (caB n a b c U O Z) 4) (λz=>[i (UV (caB n a b c U O Z) 4 z)]),.lst 1 (GC (suB n a b c U O Z) 4) (λz=>[i (UV (suB n a b c U O Z) 4 z)]),i 0])))):=by
 refine GV (L:=[nH n a b c U O Z]) (Ae AE (Ae (vU n a b c U O (eD n a b c U O (2^n)) (lS n a b c U O (2^n-1)) VU) Aa)) (Aj Ab Ac (Ah (vP n a b c U O VU) (UE.nil _))) U1 Tryz.func39 (UW Tryz.f39) (UZ (lpE (b:= .loop Qx0) VW<|(Wf1 n a b c U O Z VU).N)) (t:=let S:=caB n a b c U O Z;let I:=suB n a b c U O Z;let z0:=(leaf (tup [lst 1 (GC (S) 4) λz=>[iI (↑(UV (S) 4 z):Int)],lst 1 (GC (I) 4) λz=>[iI (↑(UV (I) 4 z):Int)],iI 0]));let z3:=(lst 1 (2^n) λz=>[iI (lS n a b c U O (2^n-1) z)]);let z4:=(lst 1 (2^n) λz=>[iI (eD n a b c U O (2^n) z)]);(need [QP n a b c U O] (branch (!bt (0:Int) Z (100:Int)) (branch ((2:Int) != 0) (leaf (tup [QH,QH,iI 2])) (need [QP n a b c U O,Z=Z,QS,WI,WJ,(2:Int)=0,AV.x (Y9)=AV.ro [iI 4,iI 10,Q0 n a b c U O,z4,z3],W0,(0:Int)=(↑(0:Nat):Int),0=GC (I) 0,∀(i:Nat),i<GC (I) 0->[]=[iI (↑(UV (I) 4 i):Int)],0=GC (S) 0,∀(i:Nat),i<GC (S) 0->[]=[iI (↑(UV (S) 4 i):Int)],W0,WB,W5 n a b c U O] z0)) (branch (!jD n a b c U O) (branch ((9:Int) != 0) (leaf (tup [QH,QH,iI 9])) (need [QP n a b c U O,Z=Z,QS,WI,WJ,(9:Int)=0,AV.x (Y9)=AV.ro [iI 4,iI 10,Q0 n a b c U O,z4,z3],W0,(0:Int)=(↑(0:Nat):Int),0=GC (I) 0,∀(i:Nat),i<GC (I) 0->[]=[iI (↑(UV (I) 4 i):Int)],0=GC (S) 0,∀(i:Nat),i<GC (S) 0->[]=[iI (↑(UV (S) 4 i):Int)],W0,WB,W5 n a b c U O] z0)) (branch ((0:Int) != 0) (leaf (tup [QH,QH,iI 0])) (need [QP n a b c U O,Z=Z,QS,WI,WJ,QY,U2 (AV.ro [iI 4,iI 10,Q0 n a b c U O,z4,z3]),W0,(0:Int)=(↑(0:Nat):Int),0=GC (I) 0,∀(i:Nat),i<GC (I) 0->[]=[iI (↑(UV (I) 4 i):Int)],0=GC (S) 0,∀(i:Nat),i<GC (S) 0->[]=[iI (↑(UV (S) 4 i):Int)],W0,WB,W5 n a b c U O] z0)))))) VW ?_
 intro Q hQ;simp only [VP.sat,UD,UJ] at hQ ⊢;have rn: ∀z:Int,FJ (.tup [.x (.slice none 0 0),.x (.slice none 0 0),i z]) (.tup [.x (.slice none 0 0),.x (.slice none 0 0),i z]):=λz=>⟨rfl,rfl,⟨rfl,rfl⟩,Ak⟩
 have rl:FJ (.tup [.lst 1 (GC (caB n a b c U O Z) 4) (λz=>[i (UV (caB n a b c U O Z) 4 z)]),.lst 1 (GC (suB n a b c U O Z) 4) (λz=>[i (UV (suB n a b c U O Z) 4 z)]),i 0]) (.tup [.lst 1 (GC (caB n a b c U O Z) 4) (λz=>[i (UV (caB n a b c U O Z) 4 z)]),.lst 1 (GC (suB n a b c U O Z) 4) (λz=>[i (UV (suB n a b c U O Z) 4 z)]),i 0]):=⟨⟨rfl,rfl,λ_ _=>rfl⟩,⟨rfl,rfl,λ_ _=>rfl⟩,⟨rfl,rfl⟩,Ak⟩
 cases h2:bt 0 Z 100<;>cases h3:jD n a b c U O<;>rw [h2] at hQ<;>rw [h3] at hQ;all_goals (with_reducible repeat' first|apply Al|intro _)
 all_goals first
  |(exfalso;rename_i h;revert h;decide)
  |(exfalso;rename_i h _;revert h;decide)
  |(exfalso;rename_i h _ _;revert h;decide)
  |(exfalso;rename_i h _ _ _;revert h;decide)
  |rfl
  |(rename_i h;exact absurd h (Aq _))
  |exact ⟨_,rn _,hQ.1 rfl⟩
  |exact ⟨_,rn _,(hQ.2 rfl).1 rfl⟩
  |exact ⟨_,rl,(hQ.2 rfl).2 rfl⟩
def Xb1(Z:Int):DK:=λl=>some (.need [l=[.agg [i 4,i 10,sls n a b c U O],i Z]] (.branch (!bt 0 Z 100) (.leaf (.tup [.x (.slice none 0 0),.x (.slice none 0 0),i 2])) (.branch (!jD n a b c U O) (.leaf (.tup [.x (.slice none 0 0),.x (.slice none 0 0),i 9])) (.leaf (.tup [.lst 1 (GC (caB n a b c U O Z) 4) (λz=>[i (UV (caB n a b c U O Z) 4 z)]),.lst 1 (GC (suB n a b c U O Z) 4) (λz=>[i (UV (suB n a b c U O Z) 4 z)]),i 0])))))
theorem oR(Z:Int)(VU:sV n a b c U O):Sx.Enters Tryz.prog 39/\ ∀avs t,Xb1 n a b c U O Z avs=some t->UQ VR 39 avs t:=by
 refine ⟨(UK Tryz.func39),?_⟩;intro avs t h;cases h;intro Q hQ;have e:=hQ.1
 dsimp only [UD] at e
 subst e;exact Qo9 n a b c U O Z VU Q hQ.2
end
section
variable (n:Nat)(L:Nat->ByteArray)
def Xb6:DK:=λl=>some (.need [l=[lns n L],ckE n L=0] (.leaf (.tup [.ro (hsL (sK L n)),.lst 1 n (exG L)])))
def tV:DK:=λl=>some (.need [l=[.agg (hsL (sK L n))]] (.leaf (.agg (hsL (sK L n)))))
end
theorem IW{n:Nat}{L:Nat->ByteArray}(h:ckE n L=0):n<=50/\ ∀k,k<n->(L k).size<=200:=by
 unfold ckE at h;split at h
 ·rename_i h1;refine ⟨h1.1,λk hk=>?_⟩
  have h2:=qC (GW.1 h1.2 k hk);omega
 ·exact absurd h (by decide)
theorem Zo0{s:HS}(h:fZ s):hsN s:=⟨by have:=h.nr;omega,by have:=h.bV.1.1;omega,by have:=h.nc;omega,by have:=h.sV.1;omega,λb hb=>by have:=(h.bV.1.2 b hb).1;omega⟩
section
variable (n:Nat)(L:Nat->ByteArray)
theorem xW:Sx.Enters Tryz.prog 33/\ ∀avs t,Xb6 n L avs=some t->UQ VR 33 avs t:=by
 refine ⟨(UK Tryz.func33),?_⟩;intro avs t h;cases h;intro Q hQ;have e:avs=[lns n L]:=hQ.1.1;have h0:ckE n L=0:=hQ.1.2;subst e;have hk:=IW h0;exact l8 n L hk.1 (λk h=>by have:=hk.2 k h;omega) Q hQ.2
theorem lG:Sx.Enters Tryz.prog 34/\ ∀avs t,tV n L avs=some t->UQ VR 34 avs t:=by
 refine ⟨(UK Tryz.func34),?_⟩;intro avs t h;cases h;intro Q hQ;have e:avs=[.agg (hsL (sK L n))]:=hQ.1;subst e;exact sD (sK L n) (Zo0 (rH L n)) Q hQ.2
end
theorem Qe8(s:HS):FJ (.agg (hsL s)) (.agg (hsL s)):=⟨⟨rfl,rfl,λ_ _=>rfl⟩,⟨rfl,rfl⟩,⟨rfl,rfl⟩,⟨rfl,rfl,λ_ _=>rfl⟩,⟨rfl,rfl,λ_ _=>rfl⟩,⟨rfl,rfl,λ_ _=>rfl⟩,Ak⟩
section
variable (n:Nat)(L:Nat->ByteArray)
abbrev Y5:Prop:=[Q8 n L]=[Q8 n L]
theorem Ws3(VU:n<=100):UQ VR 19 [lns n L] (.branch (ckE n L != 0) (.leaf (.tup [.agg [.x (.slice none 0 0),i 0,i 0,.x (.slice none 0 0),.x (.slice none 0 0),.x (.slice none 0 0)],.x (.slice none 0 0),i (ckE n L)])) (.leaf (.tup [.agg (hsL (sK L n)),.lst 1 n (exG L),i 0]))):=by
 refine GV (L:=[]) (Ae (B2 n L VM) Aa) (Aj Ab Ac (Ah (xW n L) (Ah (lG n L) (UE.nil _)))) U1 Tryz.func19 (UW Tryz.f19) G7 (t:=need [(Y5 n L)] (branch (ckE n L != 0) (leaf (tup [agg [QH,iI 0,iI 0,QH,QH,QH],QH,iI (ckE n L)])) (need [(Y5 n L),ckE n L=0] (need [U2 ([agg (hL (sK L n))])] (leaf (tup [agg (hL (sK L n)),lst 1 n λj=>[iI (eK L j)],iI 0])))))) VW ?_
 intro Q hQ;simp only [VP.sat,UD,UJ,VO,DP] at hQ ⊢;refine ⟨λh=>⟨.tup [.agg [.x (.slice none 0 0),i 0,i 0,.x (.slice none 0 0),.x (.slice none 0 0),.x (.slice none 0 0)],.x (.slice none 0 0),i (ckE n L)],⟨⟨rfl,⟨rfl,rfl⟩,⟨rfl,rfl⟩,rfl,rfl,rfl,Ak⟩,rfl,⟨rfl,rfl⟩,Ak⟩,hQ.1 h⟩,λh=>?_⟩
 have h0:ckE n L=0:=by simpa using h
 (with_reducible repeat' first|apply Al|intro _)
 all_goals first|exact Ak|exact h0|rfl|(exact ⟨.tup [.agg (hsL (sK L n)),.lst 1 n (exG L),i 0],⟨Qe8 _,⟨rfl,rfl,λ_ _=>rfl⟩,⟨rfl,rfl⟩,Ak⟩,hQ.2 h⟩)
theorem lK(VU:n<=100):UQ VR 21 [lns n L] (.branch (ckE n L != 0) (.leaf (.tup [.x (.slice none 0 0),i (ckE n L)])) (.leaf (.tup [.lst 2 (boN (sK L n).nb (sK L n).ql (sK L n).qh (sK L n).qm (sK L n).qr (sK L n).qv) (λk=>[i (boL (sK L n).nb (sK L n).ql (sK L n).qh (sK L n).qm (sK L n).qr (sK L n).qv k),i (boH (sK L n).nb (sK L n).ql (sK L n).qh (sK L n).qm (sK L n).qr (sK L n).qv k)]),i (boE (sK L n).nb (sK L n).ql (sK L n).qh (sK L n).qm (sK L n).qr (sK L n).qv)]))):=by
 refine GV (L:=[]) (Ae (B2 n L VM) (Ae (bF (sK L n).nb (sK L n).ql (sK L n).qh (sK L n).qm (sK L n).qr (sK L n).qv (rH L n).bV) Aa)) (Aj (Af RH Ab) Ac (Ah (xW n L) (UE.nil _))) U1 Tryz.func21 (UW Tryz.f21) G7 (t:=need [(Y5 n L)] (branch (ckE n L != 0) (leaf (tup [QH,iI (ckE n L)])) (need [(Y5 n L),ckE n L=0] (need [U2 ([agg [lst 2 3 λk=>[iI (oL k),iI (oH k)],iI 1,hY ((sK L n).nb) (sK L n)]])] (leaf (tup [lst 2 (boN ((sK L n).nb) ((sK L n).ql) ((sK L n).qh) ((sK L n).qm) ((sK L n).qr) ((sK L n).qv)) λk=>[iI (boL ((sK L n).nb) ((sK L n).ql) ((sK L n).qh) ((sK L n).qm) ((sK L n).qr) ((sK L n).qv) k),iI (boH ((sK L n).nb) ((sK L n).ql) ((sK L n).qh) ((sK L n).qm) ((sK L n).qr) ((sK L n).qv) k)],iI (boE ((sK L n).nb) ((sK L n).ql) ((sK L n).qh) ((sK L n).qm) ((sK L n).qr) ((sK L n).qv))])))))) VW ?_
 intro Q hQ;simp only [VP.sat,UD,UJ,VO,DP] at hQ ⊢;refine ⟨λh=>⟨.tup [.x (.slice none 0 0),i (ckE n L)],⟨rfl,⟨rfl,rfl⟩,Ak⟩,hQ.1 h⟩,λh=>?_⟩
 have h0:ckE n L=0:=by simpa using h
 (with_reducible repeat' first|apply Al|intro _)
 all_goals first|exact Ak|exact h0|rfl|(exact ⟨.tup [.lst 2 (boN (sK L n).nb (sK L n).ql (sK L n).qh (sK L n).qm (sK L n).qr (sK L n).qv) (λk=>[i (boL (sK L n).nb (sK L n).ql (sK L n).qh (sK L n).qm (sK L n).qr (sK L n).qv k),i (boH (sK L n).nb (sK L n).ql (sK L n).qh (sK L n).qm (sK L n).qr (sK L n).qv k)]),i (boE (sK L n).nb (sK L n).ql (sK L n).qh (sK L n).qm (sK L n).qr (sK L n).qv)],⟨⟨rfl,rfl,λ_ _=>rfl⟩,⟨rfl,rfl⟩,Ak⟩,hQ.2 h⟩)
theorem Qt4(Z:Int)(VU:n<=100):UQ VR 23 [lns n L,i Z] (.branch (ckE n L != 0) (.leaf (.tup [.x (.slice none 0 0),.x (.slice none 0 0),i (ckE n L)])) (.branch (!bt 0 Z 100) (.leaf (.tup [.x (.slice none 0 0),.x (.slice none 0 0),i 2])) (.branch (!jD (sK L n).ns (sK L n).sa (sK L n).sb (sK L n).sc (sK L n).sl (sK L n).sh) (.leaf (.tup [.x (.slice none 0 0),.x (.slice none 0 0),i 9])) (.leaf (.tup [.lst 1 (GC (caB (sK L n).ns (sK L n).sa (sK L n).sb (sK L n).sc (sK L n).sl (sK L n).sh Z) 4) (λz=>[i (UV (caB (sK L n).ns (sK L n).sa (sK L n).sb (sK L n).sc (sK L n).sl (sK L n).sh Z) 4 z)]),.lst 1 (GC (suB (sK L n).ns (sK L n).sa (sK L n).sb (sK L n).sc (sK L n).sl (sK L n).sh Z) 4) (λz=>[i (UV (suB (sK L n).ns (sK L n).sa (sK L n).sb (sK L n).sc (sK L n).sl (sK L n).sh Z) 4 z)]),i 0]))))):=by
 refine GV (L:=[]) (Ae (B2 n L VM) Aa) (Aj (Af P4 Ab) Ac (Ah (xW n L) (Ah (oR (sK L n).ns (sK L n).sa (sK L n).sb (sK L n).sc (sK L n).sl (sK L n).sh Z (rH L n).sV) (UE.nil _)))) U1 Tryz.func23 (UW Tryz.f23) G7 (t:=let z0:=(caB ((sK L n).ns) ((sK L n).sa) ((sK L n).sb) ((sK L n).sc) ((sK L n).sl) ((sK L n).sh) Z);let I:=(suB ((sK L n).ns) ((sK L n).sa) ((sK L n).sb) ((sK L n).sc) ((sK L n).sl) ((sK L n).sh) Z);(need [(Y5 n L)] (branch (ckE n L != 0) (leaf (tup [QH,QH,iI (ckE n L)])) (need [(Y5 n L),ckE n L=0] (need [U2 ([agg [iI 4,iI 10,hT ((sK L n).ns) (sK L n)],iI Z])] (branch (!bt (0:Int) Z (100:Int)) (leaf (tup [QH,QH,iI 2])) (branch (!jD ((sK L n).ns) ((sK L n).sa) ((sK L n).sb) ((sK L n).sc) ((sK L n).sl) ((sK L n).sh)) (leaf (tup [QH,QH,iI 9])) (leaf (tup [lst 1 (GC z0 4) λz=>[iI (↑(UV z0 4 z):Int)],lst 1 (GC I 4) λz=>[iI (↑(UV I 4 z):Int)],iI 0]))))))))) VW ?_
 intro Q hQ;simp only [VP.sat,UD,UJ,VO,DP] at hQ ⊢;have rn: ∀z:Int,FJ (.tup [.x (.slice none 0 0),.x (.slice none 0 0),i z]) (.tup [.x (.slice none 0 0),.x (.slice none 0 0),i z]):=λz=>⟨rfl,rfl,⟨rfl,rfl⟩,Ak⟩
 have rl:FJ (.tup [.lst 1 (GC (caB (sK L n).ns (sK L n).sa (sK L n).sb (sK L n).sc (sK L n).sl (sK L n).sh Z) 4) (λz=>[i (UV (caB (sK L n).ns (sK L n).sa (sK L n).sb (sK L n).sc (sK L n).sl (sK L n).sh Z) 4 z)]),.lst 1 (GC (suB (sK L n).ns (sK L n).sa (sK L n).sb (sK L n).sc (sK L n).sl (sK L n).sh Z) 4) (λz=>[i (UV (suB (sK L n).ns (sK L n).sa (sK L n).sb (sK L n).sc (sK L n).sl (sK L n).sh Z) 4 z)]),i 0]) (.tup [.lst 1 (GC (caB (sK L n).ns (sK L n).sa (sK L n).sb (sK L n).sc (sK L n).sl (sK L n).sh Z) 4) (λz=>[i (UV (caB (sK L n).ns (sK L n).sa (sK L n).sb (sK L n).sc (sK L n).sl (sK L n).sh Z) 4 z)]),.lst 1 (GC (suB (sK L n).ns (sK L n).sa (sK L n).sb (sK L n).sc (sK L n).sl (sK L n).sh Z) 4) (λz=>[i (UV (suB (sK L n).ns (sK L n).sa (sK L n).sb (sK L n).sc (sK L n).sl (sK L n).sh Z) 4 z)]),i 0]):=⟨⟨rfl,rfl,λ_ _=>rfl⟩,⟨rfl,rfl,λ_ _=>rfl⟩,⟨rfl,rfl⟩,Ak⟩
 refine ⟨λh=>⟨_,rn _,hQ.1 h⟩,λh=>?_⟩
 have h0:ckE n L=0:=by simpa using h
 have hQ2:=hQ.2 h
 (with_reducible repeat' first|apply Al|intro _)
 all_goals first|exact Ak|exact h0|rfl|(rename_i h1;exact ⟨_,rn _,hQ2.1 h1⟩)|(rename_i h1 h2;exact ⟨_,rn _,(hQ2.2 h1).1 h2⟩)|(rename_i h1 h2;exact ⟨_,rl,(hQ2.2 h1).2 h2⟩)
end
section
variable (s:HS)
def stB(a b w d:Int)(v:Bool)(Z:Int):Bool:= !v&&(decide (Z>=d)&&((asE 4 100 20 30 s.nr s.ra s.rb s.ru s.rv 3 tbP tbQ s.pl s.ph 1 3 a b w Z==0)&&kpB 4 100 20 30 s.nr s.ra s.rb s.ru s.rv 3 tbP tbQ s.pl s.ph 1 3 a b w Z))
def stP(Z:Int)(k:Nat):Bool:=stB s (s.ca k) (s.cb k) (s.cc k) (s.cd k) (s.cv k) Z
theorem I5(a b w d:Int)(v:Bool)(Z:Int):U0 VR 38 [.agg (hsL s),.agg [i a,i b,i w,i d,bl v],i Z] (bl (stB s a b w d v Z)):=by
 refine GD (L:=[]) (Ae Ql8 Aa) (Aj Ab Ac (Ah (Qg7 FD) (UE.nil _))) U1 Tryz.func38 (UW Tryz.f38) G7 (t:=need [UH 4 s.nr λk=>[Bo.i (s.ra k),Bo.i (s.rb k),Bo.i (s.ru k),Bo.i (s.rv k)],UH 2 3 λk=>[i (tbP k),i (tbQ k)]] (branch (!v) (branch (decide (Z>=d)) (branch (asE (4:Int) (100:Int) (20:Int) (30:Int) s.nr (s.ra) (s.rb) (s.ru) (s.rv) 3 tbP tbQ s.pl s.ph (1:Int) (3:Int) a b w Z==0) (leaf (RV.x (.bool (kpB (4:Int) (100:Int) (20:Int) (30:Int) s.nr (s.ra) (s.rb) (s.ru) (s.rv) 3 tbP tbQ s.pl s.ph (1:Int) (3:Int) a b w Z)))) (leaf (RV.x (WO)))) (leaf (RV.x (WO)))) (leaf (RV.x (WO))))) VW ?_
 simp only [VP.sat,UD,G8,UG,UJ];refine ⟨⟨Bo.isRec4 _ _ _ _ _,Pt.isRec2 _ _ _⟩,?_⟩;unfold stB;cases v<;>cases decide (Z>=d)<;>cases (asE 4 100 20 30 s.nr s.ra s.rb s.ru s.rv 3 tbP tbQ s.pl s.ph 1 3 a b w Z==0)<;>simp
def SM:UY
 |[.agg l',.agg [.x (.int .i64 a),.x (.int .i64 b),.x (.int .i64 w),.x (.int .i64 d),.x (.bool v)],.x (.int .i64 Z)]=>some ([l'=hsL s],bl (stB s a b w d v Z))
 |_=>none
theorem I4:VS VR 38 (SM s):=by
 refine ⟨(UK Tryz.func38),?_⟩;intro avs ns res h hn;unfold SM at h;split at h
 ·cases h;have e:=hn _ GJ;subst e;exact I5 s _ _ _ _ _ _
 ·cases h
end
section
variable (n:Nat)(L:Nat->ByteArray)(Z:Int)
def Zt2:St:={σ:=[Q8 n L,iI Z,top,top,QH,iI 0,iI (ckE n L),AV.ro (hL (sK L n)),lst 1 n λj=>[iI (eK L j)]]++HM 20 [hC ((sK L n).nc) (sK L n),iI (↑((sK L n).nc):Int)]++HM 18 [],m:=[(901,YA)],nx:=902}
noncomputable def Js7:Code:=UC (VV (U9 Tryz.f22) 0)
def Wl0(k:Nat):St:={σ:=H4 [(9,.row 901),(10,.top),(11,.top),(31,i k)] (Zt2 n L Z).σ,m:=[(901,.row 3 1 (GC (stP (sK L n) Z) (k)) (λz=>[i (UV (stP (sK L n) Z) (sK L n).nc z)]))],nx:=902}
def CR(k:Nat):G9->Option St
 | .exit 0=>some {σ:=H4 [(9,.row 901),(10,.top),(11,.top),(31,i (sK L n).nc)] (Zt2 n L Z).σ,m:=[(901,.row 3 1 (GC (stP (sK L n) Z) ((sK L n).nc)) (λz=>[i (UV (stP (sK L n) Z) (sK L n).nc z)]))],nx:=902}
 |_=>none
def Jo0:CT:= .leaf (.exit 0,(CR n L Z 0 (.exit 0)).getD (Zt2 n L Z))
def Xy8:UL:=GM [(.slot 9,901,3,1)] (HK (Wl0 n L Z (0)) (Jo0 n L Z))
theorem Jc6(VU:n<=100):GA VR (.loop Js7) (Xy8 n L Z):=by
 refine G5 [(.slot 9,901,3,1)] (L:=[]) (Ae (B2 n L VM) (Ae B1 (Ae (I4 (sK L n)) Aa))) (Aj Ab Ac (Ah (xW n L) (UE.nil _))) U1 U6 (X:=Nat) (Wl0 n L Z) (λk=>k<=(sK L n).nc) (λk=>(sK L n).nc-k) (CR n L Z) (x0:=0) VX ?_ ?_ ?_
 ·rintro k;kernel_rfl
 ·rintro k y E h;unfold CR at h;split at h
  ·cases h;kernel_rfl
  ·cases h
 ·rintro Q hQ k hx;refine ⟨(k+1),?_⟩;(with_reducible refine DL (t:=let z0:=(U2 (lst 1 n λj=>[iI (eK L j)]));let I:=(U2 (hC ((sK L n).nc) (sK L n)));let S:=(U2 (↑((sK L n).nc):Int));(branch (decide ((k:Int)<(↑((sK L n).nc):Int))) (need [UM k ((sK L n).nc)] (need [U2 (hL (sK L n))] (branch (stB (sK L n) ((sK L n).ca k) ((sK L n).cb k) ((sK L n).cc k) ((sK L n).cd k) ((sK L n).cv k) Z) (need [(GC (stP (sK L n) Z) k+1)*8<=140737488355328,RZ 1 (U8 1 [iI (k:Int)])] (need [VO ((k:Int)+1)] (need [U2 (Q8 n L),Z=Z,QH=QH,QY,U2 (ckE n L),U2 (AV.ro (hL (sK L n))),z0,WI,I,S,(k:Int)+1=(↑(k+1):Int),GC (stP (sK L n) Z) k+1=GC (stP (sK L n) Z) (k+1),∀(i:Nat),i<GC (stP (sK L n) Z) (k+1)->GI (GC (stP (sK L n) Z) k) (λz=>[iI (↑(UV (stP (sK L n) Z) ((sK L n).nc) z):Int)]) (U8 1 [iI (k:Int)]) i=[iI (↑(UV (stP (sK L n) Z) ((sK L n).nc) i):Int)]] (leaf G9.normal)))) (need [VO ((k:Int)+1)] (need [U2 (Q8 n L),Z=Z,QH=QH,QY,U2 (ckE n L),U2 (AV.ro (hL (sK L n))),z0,WI,I,S,(k:Int)+1=(↑(k+1):Int),GC (stP (sK L n) Z) k=GC (stP (sK L n) Z) (k+1),∀(i:Nat),i<GC (stP (sK L n) Z) (k+1)->[iI (↑(UV (stP (sK L n) Z) ((sK L n).nc) i):Int)]=[iI (↑(UV (stP (sK L n) Z) ((sK L n).nc) i):Int)]] (leaf G9.normal)))))) (need [U2 (Q8 n L),Z=Z,QH=QH,QY,U2 (ckE n L),U2 (AV.ro (hL (sK L n))),z0,WI,I,S,(k:Int)=(↑((sK L n).nc):Int),GC (stP (sK L n) Z) k=GC (stP (sK L n) Z) ((sK L n).nc),∀(i:Nat),i<GC (stP (sK L n) Z) ((sK L n).nc)->[iI (↑(UV (stP (sK L n) Z) ((sK L n).nc) i):Int)]=[iI (↑(UV (stP (sK L n) Z) ((sK L n).nc) i):Int)]] (leaf (G9.exit 0))))) VW ?_)
  simp only [Jo0,CR,VP.sat,GX] at hQ;simp only [VP.sat,UD,G8,GO,UG,VO,UJ,HB,RE,RF,L7,GR,CR]
  have b1:=bA (p:=stP (sK L n) Z) (k:=k);have b2:=(rH L n).nc;refine ⟨λh=>?_,λh=>?_⟩
  ·have hk:k<(sK L n).nc:=VM;have hq:stP (sK L n) Z k=true-> ∀j,j<GC (stP (sK L n) Z) (k+1)->GI (GC (stP (sK L n) Z) k) (λz=>[i (UV (stP (sK L n) Z) (sK L n).nc z)]) (U8 1 [i k]) j=[i (UV (stP (sK L n) Z) (sK L n).nc j)]:=by
    intro hp j hj;rw [FQ hp] at hj;exact Pt.catF1 (a:=λz=>((UV (stP (sK L n) Z) (sK L n).nc z:Nat):Int)) hj (by show (k:Int)=((UV (stP (sK L n) Z) (sK L n).nc (GC (stP (sK L n) Z) k):Nat):Int);rw [wC hk hp])
   cases hc:stP (sK L n) Z k
   ·have e1:=RW hc;have hc': ¬(stB (sK L n) ((sK L n).ca k) ((sK L n).cb k) ((sK L n).cc k) ((sK L n).cd k) ((sK L n).cv k) Z=true):=λh=>Bool.noConfusion (hc.symm.trans h)
    (with_reducible repeat' first|apply Al|intro _)
    all_goals first|exact PQ|(first|exact absurd (by assumption) hc'|exact FS (by assumption) (by simp [AV.one,Value.oneCell']))
   ·have e1:=FQ hc;have hc': ¬(stB (sK L n) ((sK L n).ca k) ((sK L n).cb k) ((sK L n).cc k) ((sK L n).cd k) ((sK L n).cv k) Z=false):=λh=>Bool.noConfusion (hc.symm.trans h)
    (with_reducible repeat' first|apply Al|intro _)
    all_goals first|exact PQ|(first|exact absurd (by assumption) hc'|exact hq hc _ (by assumption)|exact FS (by assumption) (by simp [AV.one,Value.oneCell']))
  ·obtain rfl:k=(sK L n).nc:=VM;exact V3
theorem aN(VU:n<=100):UQ VR 22 [lns n L,i Z] (.branch (ckE n L != 0) (.leaf (.tup [.x (.slice none 0 0),i (ckE n L)])) (.branch (!bt 0 Z 10000) (.leaf (.tup [.x (.slice none 0 0),i 2])) (.leaf (.tup [.lst 1 (GC (stP (sK L n) Z) (sK L n).nc) (λz=>[i (UV (stP (sK L n) Z) (sK L n).nc z)]),i 0])))):=by
 refine GV (L:=[Xy8 n L Z]) (Ae (B2 n L VM) (Ae B1 (Ae (I4 (sK L n)) Aa))) (Aj Ab Ac (Ah (xW n L) (UE.nil _))) U1 Tryz.func22 (UW Tryz.f22) (UZ (lpE (b:= .loop Js7) VW<|(Jc6 n L Z VU).N)) (t:=need [(Y5 n L)] (branch (ckE n L != 0) (leaf (tup [QH,iI (ckE n L)])) (branch (!bt (0:Int) Z (10000:Int)) (leaf (tup [QH,iI 2])) (need [(Y5 n L),ckE n L=0] (need [U2 (Q8 n L),Z=Z,QH=QH,QY,U2 (ckE n L),U2 (AV.ro (hL (sK L n))),U2 (lst 1 n λj=>[iI (eK L j)]),WI,U2 (hC ((sK L n).nc) (sK L n)),U2 (↑((sK L n).nc):Int),(0:Int)=(↑(0:Nat):Int),0=GC (stP (sK L n) Z) 0,∀(i:Nat),i<GC (stP (sK L n) Z) 0->[]=[iI (↑(UV (stP (sK L n) Z) ((sK L n).nc) i):Int)]] (leaf (tup [lst 1 (GC (stP (sK L n) Z) ((sK L n).nc)) λz=>[iI (↑(UV (stP (sK L n) Z) ((sK L n).nc) z):Int)],iI 0]))))))) VW ?_
 intro Q hQ;simp only [VP.sat,UD,UJ,VO,DP] at hQ ⊢;have b2:=(rH L n).nc;have rn: ∀z:Int,FJ (.tup [.x (.slice none 0 0),i z]) (.tup [.x (.slice none 0 0),i z]):=λz=>⟨rfl,⟨rfl,rfl⟩,Ak⟩
 have rl:FJ (.tup [.lst 1 (GC (stP (sK L n) Z) (sK L n).nc) (λz=>[i (UV (stP (sK L n) Z) (sK L n).nc z)]),i 0]) (.tup [.lst 1 (GC (stP (sK L n) Z) (sK L n).nc) (λz=>[i (UV (stP (sK L n) Z) (sK L n).nc z)]),i 0]):=⟨⟨rfl,rfl,λ_ _=>rfl⟩,⟨rfl,rfl⟩,Ak⟩
 refine ⟨λh=>⟨_,rn _,hQ.1 h⟩,λh=>?_⟩
 have h0:ckE n L=0:=by simpa using h
 have hQ2:=hQ.2 h;refine ⟨λh1=>⟨_,rn _,hQ2.1 h1⟩,λh1=>?_⟩
 have hQ3:=hQ2.2 h1
 (with_reducible repeat' first|apply Al|intro _)
 all_goals first|exact Ak|exact h0|omega|rfl|(rename_i h;exact absurd h (Aq _))|exact ⟨_,rl,hQ3⟩
end
def dgI(n:Int):Int:=IntKind.u8.wrap (48+n.tmod 10)
def dg3(n:Int):ByteArray:=⟨#[UInt8.ofNat (dgI ((n.tdiv 10).tdiv 10)).toNat,UInt8.ofNat (dgI (n.tdiv 10)).toNat,UInt8.ofNat (dgI n).toNat]⟩
def dg5(n:Int):ByteArray:=⟨#[UInt8.ofNat (dgI ((((n.tdiv 10).tdiv 10).tdiv 10).tdiv 10)).toNat,UInt8.ofNat (dgI (((n.tdiv 10).tdiv 10).tdiv 10)).toNat,UInt8.ofNat (dgI ((n.tdiv 10).tdiv 10)).toNat,UInt8.ofNat (dgI (n.tdiv 10)).toNat,UInt8.ofNat (dgI n).toNat]⟩
def dgB(n m:Int):ByteArray:=if m=3 then dg3 n else dg5 n
abbrev u8(n:Int):AV:= .x (.int .u8 n)
def tpB(l c:Int):ByteArray:=(((⟨#[91]⟩++dgB l 3)++⟨#[58]⟩)++dgB c 5)++⟨#[93]⟩
def tpC(s:ByteArray)(ix:Int):Nat->Int
 | 0=>23*(ix+1)
 |k+1=>tpC s ix k+((k:Int)+2)*(D1 s k+3)
def tpK(s:ByteArray)(ix:Int):Int:=(tpC s ix s.size).tmod 99971
def rcB(s:ByteArray)(ix:Int):ByteArray:=(tpB (s.size:Int) (tpK s ix)++s)++⟨#[10]⟩
def flB(L:Nat->ByteArray):Nat->ByteArray
 | 0=>ByteArray.empty
 |k+1=>flB L k++rcB (L k) (k:Int)
theorem Qg2(n:Int):0<=dgI n/\dgI n<256:=by
 have h:dgI n=(48+n.tmod 10)%256:=rfl;omega
theorem wZ{x:Int}(h:0<=x/\x<=1000000000):(0<=x.tdiv 10/\x.tdiv 10<=1000000000)/\0<=x.tmod 10/\x.tmod 10<=9:=by
 rw [Int.tdiv_eq_ediv_of_nonneg h.1,Int.tmod_eq_emod_of_nonneg h.1];omega
theorem by1{x:Int}(h:0<=x/\x<256):byO [u8 x]<256/\[u8 x]=[.x (.int .u8 (byO [u8 x]:Int))]:=by
 have e2:byO [u8 x]=x.toNat:=rfl;rw [e2];refine ⟨VM,?_⟩;rw [show ((x.toNat:Nat):Int)=x by omega]
section
variable (n:Int)
def Qa0:St:={σ:=mkS 24 [(1,i 3),(5,.ro [u8 (dgI ((n.tdiv 10).tdiv 10)),u8 (dgI (n.tdiv 10)),u8 (dgI n),u8 0,u8 0])],m:=[],nx:=901}
abbrev W2:AV:=AV.x (.int IntKind.u8 (0:Int))
abbrev WV:AV:=AV.x (.int IntKind.u8 (IntKind.wrap IntKind.u8 ((48:Int)+Int.tmod n (10:Int))))
abbrev XA:AV:=AV.x (.int IntKind.u8 (IntKind.wrap IntKind.u8 ((48:Int)+Int.tmod (Int.tdiv n (10:Int)) (10:Int))))
abbrev YX:AV:=AV.x (.int IntKind.u8 (dgI (Int.tdiv (Int.tdiv n (10:Int)) (10:Int))))
abbrev XD:List AV:=[YX n,AV.x (.int IntKind.u8 (dgI (Int.tdiv n (10:Int)))),AV.x (.int IntKind.u8 (dgI n)),W2,W2]
abbrev Z8:AV:=AV.x (.int IntKind.u8 (IntKind.wrap IntKind.u8 ((48:Int)+Int.tmod (Int.tdiv (Int.tdiv n (10:Int)) (10:Int)) (10:Int))))
theorem lF(VU:0<=n/\n<=1000000000):U0 VR 87 [i n,i 3] (.x (.string (dg3 n))):=by
 refine rE (L:=[(λs=>some (zK Tryz.prog [] [] (UC (VV (U9 Tryz.f87) 0)) 4 s))]) 3 [(.slot 5,0,0,1)] (Qa0 n) Aa Ad U1 Tryz.func87 (UW Tryz.f87) (UZ (lpE (b:= .loop (UC (VV (U9 Tryz.f87) 0))) VW<|(LE Aa U1 U6 _).N)) VW (t:=let I:=(Int.tdiv (Int.tdiv n (10:Int)) (10:Int));let z0:=(need [(0:Int)<=3/\(3:Int)<=(↑(5:Nat):Int)] (need [wL (3:Int).toNat λi=>[Option.rec (top) (λval=>(λval=>(λx=>x) val) val) [u8 (dgI I),u8 (dgI (Int.tdiv n (10:Int))),u8 (dgI n),u8 (0:Int),u8 (0:Int)][i]?]] (leaf (RV.x (.string (bsO (3:Int).toNat λi=>[Option.rec (top) (λval=>(λval=>(λx=>x) val) val) [u8 (dgI I),u8 (dgI (Int.tdiv n (10:Int))),u8 (dgI n),u8 (0:Int),u8 (0:Int)][i]?]))))));(need [VO ((3:Int)-1)] (branch (decide ((3:Int)-1>=(0:Int))) (need [(10:Int)≠0] (need [VO ((48:Int)+Int.tmod n (10:Int))] (need [(0:Int)<=3-1/\(3:Int)-1<(↑(5:Nat):Int)] (need [(10:Int)≠0,VO (Int.tdiv n (10:Int))] (need [VO ((3:Int)-1-1)] (branch (decide ((3:Int)-1-1>=(0:Int))) (need [(10:Int)≠0] (need [VO ((48:Int)+Int.tmod (Int.tdiv n (10:Int)) (10:Int))] (need [(0:Int)<=3-1-1/\(3:Int)-1-1<(↑(5:Nat):Int)] (need [(10:Int)≠0,VO I] (need [VO ((3:Int)-1-1-1)] (branch (decide ((3:Int)-1-1-1>=(0:Int))) (need [(10:Int)≠0] (need [VO ((48:Int)+Int.tmod I (10:Int))] (need [(0:Int)<=3-1-1-1/\(3:Int)-1-1-1<(↑(5:Nat):Int)] (need [(10:Int)≠0,VO (Int.tdiv I (10:Int))] (need [VO ((3:Int)-1-1-1-1)] (branch (decide ((3:Int)-1-1-1-1>=(0:Int))) (need [(10:Int)≠0] (need [VO ((48:Int)+Int.tmod (Int.tdiv I (10:Int)) (10:Int))] (need [(0:Int)<=3-1-1-1-1/\(3:Int)-1-1-1-1<(↑(5:Nat):Int)] (need [(10:Int)≠0,VO (Int.tdiv (Int.tdiv I (10:Int)) (10:Int))] (need [VO ((3:Int)-1-1-1-1-1)] VP.fail))))) (need [XG,AV.ro [Z8 n,XA n,WV n,W2,W2]=AV.ro (XD n)] z0))))))) (need [XG,AV.ro [W2,XA n,WV n,W2,W2]=AV.ro (XD n)] z0))))))) (need [XG,AV.ro [W2,W2,WV n,W2,W2]=AV.ro (XD n)] z0))))))) (need [XG,AV.ro [W2,W2,W2,W2,W2]=AV.ro (XD n)] z0)))) VW ?_
 have q1:=wZ VU;have q2:=wZ q1.1;have q3:=wZ q2.1;have q4:=wZ q3.1;have q5:=wZ q4.1;have c1:decide ((3:Int)-1>=0)=true:=by decide
 have c2:decide ((3:Int)-1-1>=0)=true:=by decide
 have c3:decide ((3:Int)-1-1-1>=0)=true:=by decide
 have c4:decide ((3:Int)-1-1-1-1>=0)=false:=by decide
 simp only [VP.sat,UD,G8,UG,UJ,VO,c1,c2,c3,c4,true_imp_iff,eq_self,Bool.true_eq_false,Bool.false_eq_true,false_imp_iff]
 (with_reducible repeat' first|apply Al|intro _)
 all_goals first|exact Ak|omega|rfl|(intro j hj;rcases (show j=0\/j=1\/j=2 by omega) with rfl|rfl|rfl<;>exact by1 (Qg2 _))|decide
def tZ:St:={σ:=mkS 24 [(1,i 5),(5,.ro [u8 (dgI ((((n.tdiv 10).tdiv 10).tdiv 10).tdiv 10)),u8 (dgI (((n.tdiv 10).tdiv 10).tdiv 10)),u8 (dgI ((n.tdiv 10).tdiv 10)),u8 (dgI (n.tdiv 10)),u8 (dgI n)])],m:=[],nx:=901}
abbrev QK:List AV:=[AV.x (.int IntKind.u8 (dgI (Int.tdiv (Int.tdiv (Int.tdiv (Int.tdiv n (10:Int)) (10:Int)) (10:Int)) (10:Int)))),AV.x (.int IntKind.u8 (dgI (Int.tdiv (Int.tdiv (Int.tdiv n (10:Int)) (10:Int)) (10:Int)))),YX n,AV.x (.int IntKind.u8 (dgI (Int.tdiv n (10:Int)))),AV.x (.int IntKind.u8 (dgI n))]
abbrev J5:Prop:=(5:Int)=5
abbrev K8:AV:=AV.x (.int IntKind.u8 (IntKind.wrap IntKind.u8 ((48:Int)+Int.tmod (Int.tdiv (Int.tdiv (Int.tdiv n (10:Int)) (10:Int)) (10:Int)) (10:Int))))
theorem lE(VU:0<=n/\n<=1000000000):U0 VR 87 [i n,i 5] (.x (.string (dg5 n))):=by
 refine rE (L:=[(λs=>some (zK Tryz.prog [] [] (UC (VV (U9 Tryz.f87) 0)) 6 s))]) 3 [(.slot 5,0,0,1)] (tZ n) Aa Ad U1 Tryz.func87 (UW Tryz.f87) (UZ (lpE (b:= .loop (UC (VV (U9 Tryz.f87) 0))) VW<|(LE Aa U1 U6 _).N)) VW (t:=let S:=(Int.tdiv (Int.tdiv n (10:Int)) (10:Int));let I:=(Int.tdiv S (10:Int));let z3:=(Int.tdiv I (10:Int));let z0:=(need [(0:Int)<=5/\(5:Int)<=(↑(5:Nat):Int)] (need [wL (5:Int).toNat λi=>[Option.rec (top) (λval=>(λval=>(λx=>x) val) val) [u8 (dgI z3),u8 (dgI I),u8 (dgI S),u8 (dgI (Int.tdiv n (10:Int))),u8 (dgI n)][i]?]] (leaf (RV.x (.string (bsO (5:Int).toNat λi=>[Option.rec (top) (λval=>(λval=>(λx=>x) val) val) [u8 (dgI z3),u8 (dgI I),u8 (dgI S),u8 (dgI (Int.tdiv n (10:Int))),u8 (dgI n)][i]?]))))));(need [VO ((5:Int)-1)] (branch (decide ((5:Int)-1>=(0:Int))) (need [(10:Int)≠0] (need [VO ((48:Int)+Int.tmod n (10:Int))] (need [(0:Int)<=5-1/\(5:Int)-1<(↑(5:Nat):Int)] (need [(10:Int)≠0,VO (Int.tdiv n (10:Int))] (need [VO ((5:Int)-1-1)] (branch (decide ((5:Int)-1-1>=(0:Int))) (need [(10:Int)≠0] (need [VO ((48:Int)+Int.tmod (Int.tdiv n (10:Int)) (10:Int))] (need [(0:Int)<=5-1-1/\(5:Int)-1-1<(↑(5:Nat):Int)] (need [(10:Int)≠0,VO S] (need [VO ((5:Int)-1-1-1)] (branch (decide ((5:Int)-1-1-1>=(0:Int))) (need [(10:Int)≠0] (need [VO ((48:Int)+Int.tmod S (10:Int))] (need [(0:Int)<=5-1-1-1/\(5:Int)-1-1-1<(↑(5:Nat):Int)] (need [(10:Int)≠0,VO I] (need [VO ((5:Int)-1-1-1-1)] (branch (decide ((5:Int)-1-1-1-1>=(0:Int))) (need [(10:Int)≠0] (need [VO ((48:Int)+Int.tmod I (10:Int))] (need [(0:Int)<=5-1-1-1-1/\(5:Int)-1-1-1-1<(↑(5:Nat):Int)] (need [(10:Int)≠0,VO z3] (need [VO ((5:Int)-1-1-1-1-1)] (branch (decide ((5:Int)-1-1-1-1-1>=(0:Int))) (need [(10:Int)≠0] (need [VO ((48:Int)+Int.tmod z3 (10:Int))] (need [(0:Int)<=5-1-1-1-1-1/\(5:Int)-1-1-1-1-1<(↑(5:Nat):Int)] (need [(10:Int)≠0,VO (Int.tdiv z3 (10:Int))] (need [VO ((5:Int)-1-1-1-1-1-1)] (branch (decide ((5:Int)-1-1-1-1-1-1>=(0:Int))) (need [(10:Int)≠0] (need [VO ((48:Int)+Int.tmod (Int.tdiv z3 (10:Int)) (10:Int))] (need [(0:Int)<=5-1-1-1-1-1-1/\(5:Int)-1-1-1-1-1-1<(↑(5:Nat):Int)] (need [(10:Int)≠0,VO (Int.tdiv (Int.tdiv z3 (10:Int)) (10:Int))] (need [VO ((5:Int)-1-1-1-1-1-1-1)] VP.fail))))) (need [J5,AV.ro [AV.x (.int IntKind.u8 (IntKind.wrap IntKind.u8 ((48:Int)+Int.tmod z3 (10:Int)))),K8 n,Z8 n,XA n,WV n]=AV.ro (QK n)] z0))))))) (need [J5,AV.ro [W2,K8 n,Z8 n,XA n,WV n]=AV.ro (QK n)] z0))))))) (need [J5,AV.ro [W2,W2,Z8 n,XA n,WV n]=AV.ro (QK n)] z0))))))) (need [J5,AV.ro [W2,W2,W2,XA n,WV n]=AV.ro (QK n)] z0))))))) (need [J5,AV.ro [W2,W2,W2,W2,WV n]=AV.ro (QK n)] z0))))))) (need [J5,AV.ro [W2,W2,W2,W2,W2]=AV.ro (QK n)] z0)))) VW ?_
 have q1:=wZ VU;have q2:=wZ q1.1;have q3:=wZ q2.1;have q4:=wZ q3.1;have q5:=wZ q4.1;have c1:decide ((5:Int)-1>=0)=true:=by decide
 have c2:decide ((5:Int)-1-1>=0)=true:=by decide
 have c3:decide ((5:Int)-1-1-1>=0)=true:=by decide
 have c4:decide ((5:Int)-1-1-1-1>=0)=true:=by decide
 have c5:decide ((5:Int)-1-1-1-1-1>=0)=true:=by decide
 have c6:decide ((5:Int)-1-1-1-1-1-1>=0)=false:=by decide
 simp only [VP.sat,UD,G8,UG,UJ,VO,c1,c2,c3,c4,c5,c6,true_imp_iff,eq_self,Bool.true_eq_false,Bool.false_eq_true,false_imp_iff]
 (with_reducible repeat' first|apply Al|intro _)
 all_goals first|exact Ak|omega|rfl|(intro j hj;rcases (show j=0\/j=1\/j=2\/j=3\/j=4 by omega) with rfl|rfl|rfl|rfl|rfl<;>exact by1 (Qg2 _))|decide
end
def SO:UY
 |[.x (.int .i64 n),.x (.int .i64 m)]=>some ([0<=n/\n<=1000000000,m=3\/m=5],.x (.string (dgB n m)))
 |_=>none
theorem sC:VS VR 87 SO:=by
 refine ⟨(UK Tryz.func87),?_⟩;intro avs ns res h hn;unfold SO at h;split at h
 ·rename_i n m;cases h;have h1:0<=n/\n<=1000000000:=hn _ VX;have h2:m=3\/m=5:=hn _ VX;rcases h2 with rfl|rfl
  ·exact lF n h1
  ·exact lE n h1
 ·cases h
theorem d8(n m:Int)(h:m=3\/m=5):((dgB n m).size:Int)=m:=by
 rcases h with rfl|rfl
 ·rfl
 ·rfl
theorem qK(l c:Int):(tpB l c).size=11:=by
 have h1:=d8 l 3 (.inl rfl);have h2:=d8 c 5 (.inr rfl);unfold tpB;simp only [Av];have e1:(⟨#[91]⟩:ByteArray).size=1:=rfl;have e2:(⟨#[58]⟩:ByteArray).size=1:=rfl;have e3:(⟨#[93]⟩:ByteArray).size=1:=rfl;omega
def Qi9:UY
 |[.agg [.x (.int .i64 l),.x (.int .i64 c)]]=>some ([0<=l/\l<=1000000000,0<=c/\c<=1000000000],.x (.string (tpB l c)))
 |_=>none
theorem iW(l c:Int)(VU:0<=l/\l<=1000000000)(UI:0<=c/\c<=1000000000):U0 VR 59 [.agg [i l,i c]] (.x (.string (tpB l c))):=by
 refine GD (L:=[]) (Ae sC Aa) Ad U1 Tryz.func59 (UW Tryz.f59) G7 (t:=need [(0:Int)<=l/\l<=1000000000,(3:Int)=3\/(3:Int)=5] (need [(↑(ByteArray.size {data:=#[91] }+ByteArray.size (dgB l (3:Int))):Int)<=9223372036854775807] (need [(↑(ByteArray.size ({data:=#[91] }++dgB l (3:Int))+ByteArray.size {data:=#[58] }):Int)<=9223372036854775807] (need [(0:Int)<=c/\c<=1000000000,(5:Int)=3\/(5:Int)=5] (need [(↑(ByteArray.size ({data:=#[91] }++dgB l (3:Int)++{data:=#[58] })+ByteArray.size (dgB c (5:Int))):Int)<=9223372036854775807] (need [(↑(ByteArray.size ({data:=#[91] }++dgB l (3:Int)++{data:=#[58] }++dgB c (5:Int))+ByteArray.size {data:=#[93] }):Int)<=9223372036854775807] (leaf (RV.x (.string ({data:=#[91] }++dgB l (3:Int)++{data:=#[58] }++dgB c (5:Int)++{data:=#[93] })))))))))) VW ?_;have h1:=d8 l 3 (.inl rfl);have h2:=d8 c 5 (.inr rfl);have e1:(⟨#[91]⟩:ByteArray).size=1:=rfl;have e2:(⟨#[58]⟩:ByteArray).size=1:=rfl;have e3:(⟨#[93]⟩:ByteArray).size=1:=rfl;simp only [VP.sat,UD,G8,UG,UJ,Av,e1,e2,e3]
 (with_reducible repeat' first|apply Al|intro _)
 all_goals first|exact Ak|omega|rfl|exact VU|exact UI|decide
theorem iV:VS VR 59 Qi9:=by
 refine ⟨(UK Tryz.func59),?_⟩;intro avs ns res h hn;unfold Qi9 at h;split at h
 ·cases h;exact iW _ _ (hn _ VX) (hn _ VX)
 ·cases h
theorem bB(s:ByteArray)(k:Nat):0<=D1 s k/\D1 s k<=255:=by
 unfold D1;have:=(s.data.getD k 0).toNat_lt;omega
theorem FR(A B:ByteArray)(j:Nat):D1 (A++B) j=if j<A.size then D1 A j else D1 B (j-A.size):=by
 unfold D1;have e:(A++B).data=A.data++B.data:=ByteArray.data_append;rw [e,L9,Array.getElem?_append];have hs:A.data.size=A.size:=rfl;rw [hs];split
 ·rw [L9]
 ·rw [L9]
theorem Xn9(A B:ByteArray)(j:Nat):GI A.size (D2 A) (D2 B) j=D2 (A++B) j:=by
 show HD (decide (j<A.size)) (D2 A j) (D2 B (j-A.size))=_;unfold D2;rw [FR];by_cases h:j<A.size
 ·rw [decide_eq_true h,if_pos h];rfl
 ·rw [decide_eq_false h,if_neg h];rfl
theorem Wc0(s:ByteArray)(k:Nat)(h:k<1000):0<=((k:Int)+2)*(D1 s k+3)/\((k:Int)+2)*(D1 s k+3)<=258516:=by
 have hb:=bB s k;refine ⟨Int.mul_nonneg VM VM,?_⟩;have h1:((k:Int)+2)*(D1 s k+3)<=((k:Int)+2)*258:=Int.mul_le_mul_of_nonneg_left VM VM;omega
theorem zL(s:ByteArray)(ix:Int)(O:0<=ix/\ix<=100000): ∀k:Nat,k<=1000->0<=tpC s ix k/\tpC s ix k<=2400000+(k:Int)*258516
 | 0,_=>by
  show 0<=23*(ix+1)/\23*(ix+1)<=_;omega
 |k+1,hk=>by
  have ih:=zL s ix O k VM;have hm:=Wc0 s k VM;have e:tpC s ix (k+1)=tpC s ix k+((k:Int)+2)*(D1 s k+3):=rfl;rw [e];generalize ((k:Int)+2)*(D1 s k+3)=z at hm;omega
section
variable (s:ByteArray)
theorem CI(ix:Int):(rcB s ix).size=12+s.size:=by
 unfold rcB;rw [Av,Av,qK];have e1:(⟨#[10]⟩:ByteArray).size=1:=rfl;omega
theorem kU(L:Nat->ByteArray): ∀n,(∀k,k<n->(L k).size<=200)->(flB L n).size<=n*212
 | 0,_=>Am 0
 |n+1,h=>by
  have ih:=kU L n λk hk=>h k VM
  show (flB L n++rcB (L n) n).size<=_;rw [Av,CI];have:=h n VM;omega
abbrev Z3:AV:=lst 1 (ByteArray.size s) λj=>[AV.x (.int IntKind.u8 (D1 s j))]
abbrev YI:AV:=FY s
def Zt0(ix:Int):St:={σ:=[YI s,iI ix,top,top,ptr 0 0]++HM 7 [Z3 s,iI (↑(ByteArray.size s):Int)]++HM 19 [],m:=[(0,GS.cells 144 JQ)],nx:=9}
noncomputable def Js4:Code:=UC (VV (U9 Tryz.f58) 0)
def Wk7(ix:Int)(k:Nat):St:=(upM [(5,i (tpC s ix k)),(6,.top),(7,.top),(14,i k)] (Zt0 s ix))
def CP(ix:Int)(k:Nat):G9->Option St
 | .exit 0=>some (upM [(5,i (tpC s ix s.size)),(6,.top),(7,.top),(14,i s.size)] (Zt0 s ix))
 |_=>none
def Jn6(ix:Int):CT:= .leaf (.exit 0,(CP s ix 0 (.exit 0)).getD (Zt0 s ix))
def Xy4(ix:Int):UL:=(HK (Wk7 s ix (0)) (Jn6 s ix))
theorem Ja4(ix:Int)(VU:s.size<=1000)(UI:0<=ix/\ix<=100000):GA VR (.loop Js4) (Xy4 s ix):=by
 refine HJ (L:=[]) Aa U1 U6 (X:=Nat) (Wk7 s ix) (λk=>k<=s.size) (λk=>s.size-k) (CP s ix) (x0:=0) VX ?_ ?_ ?_
 ·rintro k;kernel_rfl
 ·rintro k y E h;unfold CP at h;split at h
  ·cases h;kernel_rfl
  ·cases h
 ·rintro Q hQ k hx;refine ⟨(k+1),?_⟩;(with_reducible refine DL (t:=branch (decide ((k:Int)<(↑(ByteArray.size s):Int))) (need [UM k (ByteArray.size s)] (need [VO ((k:Int)+2)] (need [VO (D1 s k)] (need [VO (D1 s k+3)] (need [VO (((k:Int)+2)*(D1 s k+3))] (need [VO (tpC s ix k+((k:Int)+2)*(D1 s k+3))] (need [VO ((k:Int)+1)] (need [YI s=YI s,ix=ix,QS,tpC s ix k+((k:Int)+2)*(D1 s k+3)=tpC s ix (k+1),Z3 s=Z3 s,U2 (↑(ByteArray.size s):Int),(k:Int)+1=(↑(k+1):Int),QY,QY] (leaf G9.normal))))))))) (need [YI s=YI s,ix=ix,QS,tpC s ix k=tpC s ix (ByteArray.size s),Z3 s=Z3 s,U2 (↑(ByteArray.size s):Int),(k:Int)=(↑(ByteArray.size s):Int),QY,QY] (leaf (G9.exit 0)))) VW ?_);simp only [Jn6,CP,VP.sat,GX] at hQ;simp only [VP.sat,UD,G8,GO,UG,VO,UJ,HB,RE,RF,L7,GR,CP]
  have h1:=zL s ix UI k VM;refine ⟨λh=>?_,λh=>?_⟩
  ·have hk:k<s.size:=VM;have h2:=Wc0 s k VM;have h3:=bB s k;have e0:tpC s ix (k+1)=tpC s ix k+((k:Int)+2)*(D1 s k+3):=rfl;generalize ((k:Int)+2)*(D1 s k+3)=z at h2 e0 ⊢;exact V3
  ·obtain rfl:k=s.size:=VM;exact V3
end
def zG:UY
 |[.x (.string s),.x (.int .i64 ix)]=>some ([s.size<=1000,0<=ix/\ix<=100000],.agg [i s.size,i (tpK s ix)])
 |_=>none
theorem pX(s:ByteArray)(ix:Int)(VU:s.size<=1000)(UI:0<=ix/\ix<=100000):U0 VR 58 [.x (.string s),i ix] (.agg [i s.size,i (tpK s ix)]):=by
 refine GD (L:=[Xy4 s ix]) Aa Ad U1 Tryz.func58 (UW Tryz.f58) (UZ (lpE (b:= .loop Js4) VW<|(Ja4 s ix VU UI).N)) (t:=need [VO (ix+1)] (need [VO ((23:Int)*(ix+1))] (need [ByteArray.size s<=4294967296] (need [YI s=YI s,ix=ix,QS,(23:Int)*(ix+1)=tpC s ix 0,Z3 s=Z3 s,U2 (↑(ByteArray.size s):Int),(0:Int)=(↑(0:Nat):Int),QY,QY] (need [(99971:Int)≠0] (leaf (RV.agg [RV.x (.int .i64 (↑(ByteArray.size s):Int)),RV.x (.int .i64 (Int.tmod (tpC s ix (ByteArray.size s)) (99971:Int)))]))))))) VW ?_
 have h1:=zL s ix UI s.size VU;simp only [VP.sat,UD,G8,GO,UG,UJ,VO];all_goals exact VA
theorem j9:VS VR 58 zG:=by
 refine ⟨(UK Tryz.func58),?_⟩;intro avs ns res h hn;unfold zG at h;split at h
 ·cases h;exact pX _ _ (hn _ VX) (hn _ VX)
 ·cases h
section
variable (n:Nat)(L:Nat->ByteArray)
def Zu5:St:={σ:=[Q8 n L,top,QH,top,top,top,Q8 n L,iI (n:Int)]++HM 16 [],m:=[(901,GS.row 5 1 0 λx=>[])],nx:=902}
noncomputable def Ju2:Code:=UC (VV (U9 Tryz.f31) 0)
def Wm7(k:Nat):St:={σ:=H4 [(3,.row 901),(4,.top),(5,.top),(8,i k)] (Zu5 n L).σ,m:=[(901,.row 5 1 (flB L k).size (D2 (flB L k)))],nx:=902}
def E4(k:Nat):G9->Option St
 | .exit 0=>some {σ:=H4 [(3,.row 901),(4,.top),(5,.top),(8,i n)] (Zu5 n L).σ,m:=[(901,.row 5 1 (flB L n).size (D2 (flB L n)))],nx:=902}
 |_=>none
def Jp8:CT:= .leaf (.exit 0,(E4 n L 0 (.exit 0)).getD (Zu5 n L))
def Za9:UL:=GM [(.slot 3,901,5,1)] (HK (Wm7 n L (0)) (Jp8 n L))
theorem Jk1(VU:n<=50)(UI: ∀k,k<n->(L k).size<=200):GA VR (.loop Ju2) (Za9 n L):=by
 refine G5 [(.slot 3,901,5,1)] (L:=[]) (Ae j9 (Ae iV Aa)) Ad U1 U6 (X:=Nat) (Wm7 n L) (λk=>k<=n) (λk=>n-k) (E4 n L) (x0:=0) VX ?_ ?_ ?_
 ·rintro k;kernel_rfl
 ·rintro k y E h;unfold E4 at h;split at h
  ·cases h;kernel_rfl
  ·cases h
 ·rintro Q hQ k hx;refine ⟨(k+1),?_⟩;(with_reducible refine DL (t:=branch (decide ((k:Int)<(n:Int))) (need [UM k n] (need [ByteArray.size (L k)<=1000,(0:Int)<=(k:Int)/\(k:Int)<=100000] (need [(0:Int)<=(↑(ByteArray.size (L k)):Int)/\(↑(ByteArray.size (L k)):Int)<=1000000000,(0:Int)<=tpK (L k) (k:Int)/\tpK (L k) (k:Int)<=1000000000] (need [(↑(ByteArray.size (tpB (↑(ByteArray.size (L k)):Int) (tpK (L k) (k:Int)))+ByteArray.size (L k)):Int)<=9223372036854775807] (need [(↑(ByteArray.size (tpB (↑(ByteArray.size (L k)):Int) (tpK (L k) (k:Int))++L k)+ByteArray.size {data:=#[10] }):Int)<=9223372036854775807] (need [ByteArray.size (flB L k)+ByteArray.size (tpB (↑(ByteArray.size (L k)):Int) (tpK (L k) (k:Int))++L k++{data:=#[10] })<=140737488355328] (need [VO ((k:Int)+1)] (need [U2 (Q8 n L),QH=QH,WI,U2 (Q8 n L),U2 (n:Int),(k:Int)+1=(↑(k+1):Int),ByteArray.size (flB L k)+ByteArray.size (tpB (↑(ByteArray.size (L k)):Int) (tpK (L k) (k:Int))++L k++{data:=#[10] })=ByteArray.size (flB L (k+1)),∀(i:Nat),i<ByteArray.size (flB L (k+1))->GI (ByteArray.size (flB L k)) (D2 (flB L k)) (D2 (tpB (↑(ByteArray.size (L k)):Int) (tpK (L k) (k:Int))++L k++{data:=#[10] })) i=D2 (flB L (k+1)) i] (leaf G9.normal))))))))) (need [U2 (Q8 n L),QH=QH,WI,U2 (Q8 n L),U2 (n:Int),(k:Int)=(n:Int),ByteArray.size (flB L k)=ByteArray.size (flB L n),∀(i:Nat),i<ByteArray.size (flB L n)->D2 (flB L k) i=D2 (flB L n) i] (leaf (G9.exit 0)))) VW ?_);simp only [Jp8,E4,VP.sat,GX] at hQ;simp only [VP.sat,UD,G8,GO,UG,VO,UJ,HB,RE,RF,L7,GR,E4]
  have h1:=kU L k λj hj=>UI j VM
  refine ⟨λh=>?_,λh=>?_⟩
  ·have hk:k<n:=VM;have h2:=UI k hk;have h3:=zL (L k) k VM (L k).size VM;have h4:tpK (L k) k=(tpC (L k) k (L k).size)%99971:=Int.tmod_eq_emod_of_nonneg h3.1;have h5:0<=tpK (L k) k/\tpK (L k) k<99971:=VM;have h6:=CI (L k) k;have h7:=qK ((L k).size:Int) (tpK (L k) k);have e0:(flB L (k+1)).size=(flB L k).size+(rcB (L k) k).size:=Av;have e1:(⟨#[10]⟩:ByteArray).size=1:=rfl;have e2:(tpB ((L k).size:Int) (tpK (L k) k)++L k).size=11+(L k).size:=by rw [Av,h7]
   have e3:(tpB ((L k).size:Int) (tpK (L k) k)++L k++⟨#[10]⟩).size=12+(L k).size:=h6;have hq: ∀j,GI (flB L k).size (D2 (flB L k)) (D2 (tpB ((L k).size:Int) (tpK (L k) k)++L k++⟨#[10]⟩)) j=D2 (flB L (k+1)) j:=λj=>Xn9 _ (rcB (L k) k) j
   (with_reducible repeat' first|apply Al|intro _)
   all_goals first|exact PQ|(first|exact hq _|(rw [e2,e1];omega)|(rw [e3];omega)|(rw [h7];omega))
  ·obtain rfl:k=n:=VM;exact V3
theorem Wq6(VU:n<=50)(UI: ∀k,k<n->(L k).size<=200):U0 VR 31 [lns n L] (.lst 1 (flB L n).size (D2 (flB L n))):=by
 refine GD (L:=[Za9 n L]) (Ae j9 (Ae iV Aa)) Ad U1 Tryz.func31 (UW Tryz.f31) (UZ (lpE (b:= .loop Ju2) VW<|(Jk1 n L VU UI).N)) (t:=need [U2 (Q8 n L),QH=QH,WI,U2 (Q8 n L),U2 (n:Int),(0:Int)=(↑(0:Nat):Int),0=ByteArray.size (flB L 0),∀(i:Nat),i<ByteArray.size (flB L 0)->[]=D2 (flB L 0) i] (leaf (RV.lst 1 (ByteArray.size (flB L n)) λj=>[AV.x (.int IntKind.u8 (D1 (flB L n) j))]))) VW ?_
 simp only [VP.sat,UD,G8,GO,UG,UJ,VO];have hx: ∀k,∀a∈D2 (flB L n) k,isX a:=λk a ha=>by rw [B6.1 ha];exact Ak
 (with_reducible repeat' first|apply Al|intro _)
 all_goals first|exact Ak|omega|rfl|(rename_i h;exact absurd h (Aq _))|exact hx _ _ (by assumption)|decide
def Xb9:UY:=λl=>some ([l=[lns n L],ckE n L=0],.lst 1 (flB L n).size (D2 (flB L n)))
theorem Qs6:VS VR 31 (Xb9 n L):=by
 refine ⟨(UK Tryz.func31),?_⟩;intro avs ns res h hn;cases h;have e:avs=[lns n L]:=hn _ VX;have h0:ckE n L=0:=hn _ VX;subst e;have hk:=IW h0;exact Wq6 n L hk.1 hk.2
theorem OY(VU:n<=100):UQ VR 13 [lns n L] (.branch (ckE n L != 0) (.leaf (.tup [.x (.slice none 0 0),i (ckE n L)])) (.leaf (.tup [.lst 1 (flB L n).size (D2 (flB L n)),i 0]))):=by
 refine GV (L:=[]) (Ae (B2 n L VM) (Ae (Qs6 n L) Aa)) Ad U1 Tryz.func13 (UW Tryz.f13) G7 (t:=need [(Y5 n L)] (branch (ckE n L != 0) (leaf (tup [QH,iI (ckE n L)])) (need [(Y5 n L),ckE n L=0] (leaf (tup [lst 1 (ByteArray.size (flB L n)) λj=>[AV.x (.int IntKind.u8 (D1 (flB L n) j))],iI 0]))))) VW ?_
 intro Q hQ;simp only [VP.sat,UD,UJ,VO,DP] at hQ ⊢;refine ⟨λh=>⟨.tup [.x (.slice none 0 0),i (ckE n L)],⟨rfl,⟨rfl,rfl⟩,Ak⟩,hQ.1 h⟩,λh=>?_⟩
 have h0:ckE n L=0:=by simpa using h
 (with_reducible repeat' first|apply Al|intro _)
 all_goals first|exact Ak|exact h0|rfl|(exact ⟨.tup [.lst 1 (flB L n).size (D2 (flB L n)),i 0],⟨⟨rfl,rfl,λ_ _=>rfl⟩,⟨rfl,rfl⟩,Ak⟩,hQ.2 h⟩)
end
end Go.Proofs.YtlclobclmfhlmaaGreatDoor.Hd
