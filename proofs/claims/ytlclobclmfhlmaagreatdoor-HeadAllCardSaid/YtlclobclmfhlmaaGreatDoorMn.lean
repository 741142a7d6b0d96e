/- Contracts, put together. Conditions: those of each. -/
import Derived.Test.YtlclobclmfhlmaaGreatDoorMm
import Derived.RangeFuncRecord
set_option linter.unusedSimpArgs false
set_option linter.unusedVariables false
set_option maxRecDepth 100000
namespace Go.Proofs.YtlclobclmfhlmaaGreatDoor.Hd
open Go Go.RowKit
structure aV (w w':World):Prop where
 size:w.heap.size<=w'.heap.size
 os:w'.os=w.os
 tape:w'.tape=w.tape
 output:w'.output=w.output
theorem Zb7{w:World}{p:Nat}{v:Value}{T:TypeId}(h:w.heap[p]? =some (.cells #[v] T (0,0)))(y:Nat):(w.setCell ⟨p,0,none⟩ v).heap[y]? =w.heap[y]? :=by
 by_cases hy:y=p
 ·subst hy;rw [heap_setCell_same w y 0 _ _ v h,h];rfl
 ·exact heap_setCell_other _ _ _ _ hy
abbrev XX(b:Nat):Value:=Value.pointer (some ⟨b,0,none⟩)
abbrev K8:Value:=Value.int IntKind.i64 0
set_option maxHeartbeats 2000000 in
theorem Zg9(b:Nat)(str:ByteArray)(a0 a3 a4 a5:Option Addr)(l0 q0 l3 q3 l4 q4 l5 q5:Nat)(i1 i2:Int)(w:World)(hb:w.heap[b]? =some (.cells #[.slice a0 l0 q0,.int .i64 i1,.int .i64 i2,.slice a3 l3 q3,.slice a4 l4 q4,.slice a5 l5 q5] 100 (0,0)))
  (e:Int)(touched:Nat->Prop)(ht: ∀y,touched y->y<w.heap.size)(P:World->World->Prop)
  (hl: ∀w2,aV w w2->(∀y,y<w.heap.size->w2.heap[y]? =w.heap[y]?)->Calls Tryz.prog 90 #[.pointer (some ⟨b,0,none⟩),.string str] w2 λen w3=>en=(if e=0 then .returned (.tuple #[]) else .panicked [{v:= .iface 182 (.agg #[.int .i64 e]),recovered:=false}])/\aV w2 w3/\(∀y,y<w2.heap.size-> ¬touched y->w3.heap[y]? =w2.heap[y]?)/\(∃c0 c1 c2 c3 c4 c5,w3.heap[b]? =some (.cells #[c0,c1,c2,c3,c4,c5] 100 (0,0)))/\P w2 w3):
  Calls Tryz.prog 63 #[.pointer (some ⟨b,0,none⟩),.string str] w λen w'=>en= .returned (.int .i64 e)/\ ∃w2 w3,aV w w2/\(∀y,y<w.heap.size->w2.heap[y]? =w.heap[y]?)/\P w2 w3/\aV w2 w3/\aV w3 w'/\(∀y,y<w3.heap.size->y≠b->y≠w.heap.size+1->w'.heap[y]? =w3.heap[y]?)/\w'.heap[b]? =(if e=0 then w3.heap[b]? else w.heap[b]?)/\(e=0-> ∀y:Nat,w'.heap[y]? =w3.heap[y]?):=by
 have hmf: ∀(fn:Fn) (first cap:Array Value) (w:World),(Instr.makeFunc fn first cap).run Tryz.prog w= .ok (.func fn first cap) w:=λ_ _ _ _=>rfl
 have lt: ∀{y o},w.heap[y]? =some o->y<w.heap.size:=λh=>(Array.getElem?_eq_some_iff.1 h).1
 have cb0:w.cell? ⟨b,0,none⟩=some (.slice a0 l0 q0):=by simp only [World.cell?,hb];rfl
 have cb1:w.cell? ⟨b,1,none⟩=some (.int .i64 i1):=by simp only [World.cell?,hb];rfl
 have cb2:w.cell? ⟨b,2,none⟩=some (.int .i64 i2):=by simp only [World.cell?,hb];rfl
 have cb3:w.cell? ⟨b,3,none⟩=some (.slice a3 l3 q3):=by simp only [World.cell?,hb];rfl
 have cb4:w.cell? ⟨b,4,none⟩=some (.slice a4 l4 q4):=by simp only [World.cell?,hb];rfl
 have cb5:w.cell? ⟨b,5,none⟩=some (.slice a5 l5 q5):=by simp only [World.cell?,hb];rfl
 have nb: ¬w.heap.size=b:=λh=>by have:=lt hb;omega
 have nb': ¬b=w.heap.size:=λh=>by have:=lt hb;omega
 have nb1: ¬b=w.heap.size+1:=λh=>by have:=lt hb;omega
 have nb2: ¬b=w.heap.size+1+1:=λh=>by have:=lt hb;omega
 have nb1': ¬w.heap.size+1=b:=λh=>by have:=lt hb;omega
 have nb2': ¬w.heap.size+1+1=b:=λh=>by have:=lt hb;omega
 have hA: ∀y,y<w.heap.size->((w.alloc (Obj.cells #[XX b] 95)).alloc (Obj.cells #[K8] 38)).heap[y]? =w.heap[y]? :=λy hy=>(Go.RowKit.Below.heap_alloc _ _ y (Nat.lt_succ_of_lt hy |> λh=>by simpa using h)).trans (Go.RowKit.Below.heap_alloc w _ y hy)
 have hAb:=(hA b (lt hb)).trans hb;have d0:((w.alloc (Obj.cells #[XX b] 95)).alloc (Obj.cells #[Value.int IntKind.i64 0] 38)).cell? ⟨b,0,none⟩=some (.slice a0 l0 q0):=by simp only [World.cell?,hAb];rfl
 have d1:((w.alloc (Obj.cells #[XX b] 95)).alloc (Obj.cells #[Value.int IntKind.i64 0] 38)).cell? ⟨b,1,none⟩=some (.int .i64 i1):=by simp only [World.cell?,hAb];rfl
 have d2:((w.alloc (Obj.cells #[XX b] 95)).alloc (Obj.cells #[Value.int IntKind.i64 0] 38)).cell? ⟨b,2,none⟩=some (.int .i64 i2):=by simp only [World.cell?,hAb];rfl
 have d3:((w.alloc (Obj.cells #[XX b] 95)).alloc (Obj.cells #[Value.int IntKind.i64 0] 38)).cell? ⟨b,3,none⟩=some (.slice a3 l3 q3):=by simp only [World.cell?,hAb];rfl
 have d4:((w.alloc (Obj.cells #[XX b] 95)).alloc (Obj.cells #[Value.int IntKind.i64 0] 38)).cell? ⟨b,4,none⟩=some (.slice a4 l4 q4):=by simp only [World.cell?,hAb];rfl
 have d5:((w.alloc (Obj.cells #[XX b] 95)).alloc (Obj.cells #[Value.int IntKind.i64 0] 38)).cell? ⟨b,5,none⟩=some (.slice a5 l5 q5):=by simp only [World.cell?,hAb];rfl
 have s1:(w.alloc (Obj.cells #[Value.pointer (some ⟨b,0,none⟩)] 95)).heap.size=w.heap.size+1:=by simp
 have s2:((w.alloc (Obj.cells #[Value.pointer (some ⟨b,0,none⟩)] 95)).alloc (Obj.cells #[Value.int IntKind.i64 0] 38)).heap.size=w.heap.size+2:=by simp
 have s3:(((w.alloc (Obj.cells #[XX b] 95)).alloc (Obj.cells #[K8] 38)).alloc (Obj.cells #[.slice a0 l0 q0,.int .i64 i1,.int .i64 i2,.slice a3 l3 q3,.slice a4 l4 q4,.slice a5 l5 q5] 32)).heap.size=w.heap.size+3:=by simp
 have hB: ∀y,y<w.heap.size->(((w.alloc (Obj.cells #[XX b] 95)).alloc (Obj.cells #[K8] 38)).alloc (Obj.cells #[.slice a0 l0 q0,.int .i64 i1,.int .i64 i2,.slice a3 l3 q3,.slice a4 l4 q4,.slice a5 l5 q5] 32)).heap[y]? =w.heap[y]? :=λy hy=>(Go.RowKit.Below.heap_alloc _ _ y (by rw [s2];omega)).trans (hA y hy)
 have b5:(((w.alloc (Obj.cells #[XX b] 95)).alloc (Obj.cells #[K8] 38)).alloc (Obj.cells #[.slice a0 l0 q0,.int .i64 i1,.int .i64 i2,.slice a3 l3 q3,.slice a4 l4 q4,.slice a5 l5 q5] 32)).heap[w.heap.size+2]? =some (.cells #[.slice a0 l0 q0,.int .i64 i1,.int .i64 i2,.slice a3 l3 q3,.slice a4 l4 q4,.slice a5 l5 q5] 32 (0,0)):=by
  have:=World.alloc_heap_new ((w.alloc (Obj.cells #[XX b] 95)).alloc (Obj.cells #[K8] 38)) (Obj.cells #[.slice a0 l0 q0,.int .i64 i1,.int .i64 i2,.slice a3 l3 q3,.slice a4 l4 q4,.slice a5 l5 q5] 32);rw [s2] at this;exact this
 have b4:(((w.alloc (Obj.cells #[XX b] 95)).alloc (Obj.cells #[K8] 38)).alloc (Obj.cells #[.slice a0 l0 q0,.int .i64 i1,.int .i64 i2,.slice a3 l3 q3,.slice a4 l4 q4,.slice a5 l5 q5] 32)).heap[w.heap.size+1]? =some (.cells #[.int .i64 0] 38 (0,0)):=by
  have:=World.alloc_heap_new (w.alloc (Obj.cells #[Value.pointer (some ⟨b,0,none⟩)] 95)) (Obj.cells #[Value.int IntKind.i64 0] 38);rw [s1] at this;exact (Go.RowKit.Below.heap_alloc _ _ _ (by rw [s2];omega)).trans this
 have b2:(((w.alloc (Obj.cells #[XX b] 95)).alloc (Obj.cells #[K8] 38)).alloc (Obj.cells #[.slice a0 l0 q0,.int .i64 i1,.int .i64 i2,.slice a3 l3 q3,.slice a4 l4 q4,.slice a5 l5 q5] 32)).heap[w.heap.size]? =some (.cells #[.pointer (some ⟨b,0,none⟩)] 95 (0,0)):=by
  have:=World.alloc_heap_new w (Obj.cells #[Value.pointer (some ⟨b,0,none⟩)] 95);exact (Go.RowKit.Below.heap_alloc _ _ _ (by rw [s2];omega)).trans ((Go.RowKit.Below.heap_alloc _ _ _ (by rw [s1];omega)).trans this)
 have hG:aV w (((w.alloc (Obj.cells #[XX b] 95)).alloc (Obj.cells #[K8] 38)).alloc (Obj.cells #[.slice a0 l0 q0,.int .i64 i1,.int .i64 i2,.slice a3 l3 q3,.slice a4 l4 q4,.slice a5 l5 q5] 32)):=⟨by rw [s3];omega,rfl,rfl,rfl⟩
 have FF:=hl _ hG hB;by_cases he:e=0
 ·subst he;simp only [if_pos rfl] at FF ⊢
  go_enter_defers Tryz.func63,Tryz.ntmps63
  go_wp2_with (go_at_call 90;refine FF.mono ?_;rintro en w3 ⟨rfl,g1,g2,g3,g4⟩;have h4:=(g2 (w.heap.size+1) (by rw [s3];omega) (λh=>by have:=ht _ h;omega)).trans b4;have k4:w3.cell? ⟨w.heap.size+1,0,none⟩=some (.int .i64 0):=(by simp only [World.cell?,h4];rfl);have f4:w3.frozen? ⟨w.heap.size+1,0,none⟩=false:=(by simp only [World.frozen?,h4];rfl))
  refine leaves_cons (f:=89) (args:=#[.pointer (some ⟨w.heap.size+2,0,none⟩),.pointer (some ⟨w.heap.size,0,none⟩),.pointer (some ⟨w.heap.size+1,0,none⟩)]) (by simp) (by simp [go_sem]) ?_
  refine (Ql4 _ _ _ _).mono ?_;rintro e' u' w'' ⟨rfl,rfl,rfl⟩;have kc:(w3.setCell ⟨w.heap.size+1,0,none⟩ (.int .i64 0)).cell? ⟨w.heap.size+1,0,none⟩=some (.int .i64 0):=by simp only [World.cell?,heap_setCell_same w3 _ 0 _ _ (.int .i64 0) h4];rfl
  simp [Leaves,settle,results,Tryz.results63,go_sem,kc];exact ⟨_,hG,hB,w3,g4,g1,⟨by simp,rfl,rfl,rfl⟩,λy _ _ h2=>heap_setCell_other _ _ _ _ h2,heap_setCell_other _ _ _ _ nb1,λy=>Zb7 h4 y⟩
 ·simp only [if_neg he] at FF ⊢
  go_enter_defers Tryz.func63,Tryz.ntmps63
  go_wp2_with (go_at_call 90;refine FF.mono ?_;rintro en w3 ⟨rfl,g1,g2,g3,g4⟩;have h4:=(g2 (w.heap.size+1) (by rw [s3];omega) (λh=>by have:=ht _ h;omega)).trans b4;have k4:w3.cell? ⟨w.heap.size+1,0,none⟩=some (.int .i64 0):=(by simp only [World.cell?,h4];rfl);have f4:w3.frozen? ⟨w.heap.size+1,0,none⟩=false:=(by simp only [World.frozen?,h4];rfl))
  refine leaves_cons (f:=89) (args:=#[.pointer (some ⟨w.heap.size+2,0,none⟩),.pointer (some ⟨w.heap.size,0,none⟩),.pointer (some ⟨w.heap.size+1,0,none⟩)]) (by simp) (by simp [go_sem]) ?_
  obtain ⟨c0,c1,c2,c3,c4,c5,g3⟩:=g3;have h2:=(g2 w.heap.size (by rw [s3];omega) (λh=>by have:=ht _ h;omega)).trans b2
  have h5:=(g2 (w.heap.size+2) (by rw [s3];omega) (λh=>by have:=ht _ h;omega)).trans b5
  refine (oB b w.heap.size (w.heap.size+1) (w.heap.size+2) e 0 a0 a3 a4 a5 l0 q0 l3 q3 l4 q4 l5 q5 i1 i2 c0 c1 c2 c3 c4 c5 [] w3 h2 h5 h4 g3 (λh=>nb1 h.symm)).mono ?_
  rintro e' u' w'' ⟨rfl,rfl,m1,m2,m3,m4,m5⟩;have kc:w''.cell? ⟨w.heap.size+1,0,none⟩=some (.int .i64 e):=by simp only [World.cell?,m3];rfl
  simp [Leaves,settle,results,Tryz.results63,go_sem,kc];exact ⟨_,hG,hB,w3,g4,g1,⟨m1,m4.1,m4.2.1,m4.2.2⟩,m5,m2.trans hb.symm,λh=>absurd h he⟩
open Go Go.Sx Go.RowKit
open Go.Sx.VL (need branch leaf)
open Go.Sx.AV (lst ptr agg roI tup top)
theorem kT{e:UJ}{w:World}{sz n:Nat}{f:Nat->List AV}{v:Value}(h:Rep e w (.lst sz n f) v): ∃a l c,v= .slice a l c:=by
 cases h with
 |lstNil=>exact ⟨_,_,_,rfl⟩
 |lst=>exact ⟨_,_,_,rfl⟩
theorem Zb4(W:Nat->ByteArray)(s:HS):(DS W s).xn=s.xn/\(DS W s).xg=s.xg/\(DS W s).yn=s.yn/\(DS W s).yg=s.yg:=by
 unfold DS;split<;>exact ⟨rfl,rfl,rfl,rfl⟩
theorem Xi2(e:Int):Xi3 182 (rsE e)=(if e=0 then .returned (.tuple #[]) else .panicked [{v:= .iface 182 (.agg #[.int .i64 e]),recovered:=false}]):=by
 unfold rsE Xi3;by_cases h:e=0
 ·simp [h]
 ·simp [h]
def Xq9(e:UJ)(w0:World)(T:Nat->Prop)(q r t:Nat)(s s':HS)(er:Int)(w2 w3:World):Prop:=
 Below w0.heap.size w0 w3/\(∀x,(e.ro x\/(w0.heap.size<=x/\x<w2.heap.size/\e.own x≠some q/\e.own x≠some r/\e.own x≠some t))->w3.heap[x]? =w2.heap[x]?)/\
 ∃ro1:Nat->Prop,(∀x,e.ro x->ro1 x)/\(∀x,T x-> ¬ro1 x)/\UW {e with ro:=ro1,own:=LK e q r t} w0.heap.size w3/\
  GF {e with ro:=ro1,own:=LK e q r t} w3 q (.cells 100 (cond (rsE er).1 (hsL s') [.top,.top,.top,.top,.top,.top]))/\
  GF {e with ro:=ro1,own:=LK e q r t} w3 r (.row 38 1 s.xn s.xg)/\GF {e with ro:=ro1,own:=LK e q r t} w3 t (.row 9 1 s.yn s.yg)
theorem Zh1{str:ByteArray}{n:Nat}{W:Nat->ByteArray}{s:HS}(h:vF str n W)(hs:gP s)
  {e:UJ}{w0 w:World}{T:Nat->Prop}{q r t:Nat}(hEv:UW e w0.heap.size w)(hB:Below w0.heap.size w0 w)(hT: ∀b,T b->b<w0.heap.size/\ ¬e.ro b)
  (hq:GF e w q (.cells 100 (hsL s)))(hr:GF e w r (.row 38 1 s.xn s.xg))(ht:GF e w t (.row 9 1 s.yn s.yg))(hqr:q≠r)(hqt:q≠t)(hrt:r≠t)(hrv: ∃a b c,e.val r= .slice a b c)(htv: ∃a b c,e.val t= .slice a b c):
  Calls Tryz.prog 63 #[.pointer (some ⟨e.blk q,0,none⟩),.string str] w λen w'=>en= .returned (.int .i64 (RW W n s))/\ ∃w2 w3,aV w w2/\(∀y,y<w.heap.size->w2.heap[y]? =w.heap[y]?)/\Xq9 e w0 T q r t s (DS W s) (RW W n s) w2 w3/\aV w2 w3/\aV w3 w'/\(∀y,y<w3.heap.size->y≠e.blk q->y≠w.heap.size+1->w'.heap[y]? =w3.heap[y]?)/\w'.heap[e.blk q]? =(if RW W n s=0 then w3.heap[e.blk q]? else w.heap[e.blk q]?)/\(RW W n s=0-> ∀y:Nat,w'.heap[y]? =w3.heap[y]?):=by
 have hq0:=hq;obtain ⟨ql,qo,vs,qh,qv⟩:=hq;obtain ⟨u0,us,rfl,r0,qv⟩:=qv.cons_inv;obtain ⟨u1,us,rfl,r1,qv⟩:=qv.cons_inv;obtain ⟨u2,us,rfl,r2,qv⟩:=qv.cons_inv;obtain ⟨u3,us,rfl,r3,qv⟩:=qv.cons_inv;obtain ⟨u4,us,rfl,r4,qv⟩:=qv.cons_inv;obtain ⟨u5,us,rfl,r5,qv⟩:=qv.cons_inv;obtain rfl:=qv.nil_inv;obtain ⟨a0,l0,q0,rfl⟩:=kT r0;obtain rfl:=r1.x_inv;obtain rfl:=r2.x_inv;obtain ⟨a3,l3,q3,rfl⟩:=kT r3;obtain ⟨a4,l4,q4,rfl⟩:=kT r4;obtain ⟨a5,l5,q5,rfl⟩:=kT r5;refine Zg9 (e.blk q) str a0 a3 a4 a5 l0 q0 l3 q3 l4 q4 l5 q5 s.pl s.ph w qh (RW W n s) (λy=>e.own y=some q\/e.own y=some r\/e.own y=some t) (λy hy=>by rcases hy with hy|hy|hy<;>exact (hEv.owned _ _ hy).2) (Xq9 e w0 T q r t s (DS W s) (RW W n s)) ?_
 intro w2 hG zW;have st:Step e e w w2:=⟨λb hb hro=>⟨hro,zW b hb⟩,λk hk=>⟨hk,rfl,rfl⟩,hG.size⟩
 have hE2:UW e w0.heap.size w2:=⟨λx hx=>⟨(hEv.apart x hx).1,xO (hEv.apart x hx).2 hG.size⟩,λx k hk=>⟨(hEv.owned x k hk).1,xO (hEv.owned x k hk).2 hG.size⟩,hEv.glob.step st⟩
 have hB2:Below w0.heap.size w0 w2:=⟨hG.os.trans hB.os,hG.tape.trans hB.tape,hG.output.trans hB.output,Nat.le_trans hB.size hG.size,λx hx=>(zW x (xO hx hB.size)).trans (hB.block x hx)⟩
 have same: ∀{k:Nat} {R:GM},Xf0 R=false->GF e w k R->GF e w2 k R:=λha hh=>LF st (λx hx=>⟨hx,zW x (hEv.owned _ _ hx).2⟩) ha hh
 have hx:=Zb4 W s;refine (Zh8 (Qm1 h hs) hx hE2 hB2 hT (same rfl hq0) (same rfl hr) (same rfl ht) hqr hqt hrt hrv htv).mono ?_;rintro en w3 ⟨rfl,g2,g3,g4,g5⟩;refine ⟨Xi2 _,⟨g3,g2.os.trans hB2.os.symm,g2.tape.trans hB2.tape.symm,g2.output.trans hB2.output.symm⟩,λy hy hn=>?_,?_,g2,g4,g5⟩
 ·rcases Nat.lt_or_ge y w0.heap.size with h1|h1
  ·exact (g2.block y h1).trans (hB2.block y h1).symm
  ·exact g4 y (.inr ⟨h1,hy,λh=>hn (.inl h),λh=>hn (.inr (.inl h)),λh=>hn (.inr (.inr h))⟩)
 ·obtain ⟨ro1,_,_,_,⟨_,_,vs1,k0,k1⟩,_⟩:=g5;have hl:vs1.length=6:=by
   rw [←k1.1];cases (rsE (RW W n s)).1<;>rfl
  match vs1,hl,k0 with
  |[c0,c1,c2,c3,c4,c5],_,k0=>exact ⟨c0,c1,c2,c3,c4,c5,k0⟩
theorem tO{w w':World}{T sz n:Nat}{v:Value}{xs:List Value}(h:w.ownsRow 0 T sz v n xs)(k: ∀b,v.ownBlock=some b->w'.heap[b]? =w.heap[b]?):w'.ownsRow 0 T sz v n xs:=by
 refine ⟨h.1,?_⟩;rcases h.2 with h2|⟨g,cap,cur,rfl,h3,h4,h5⟩
 ·exact .inl h2
 ·exact .inr ⟨g,cap,cur,rfl,h3,(k g rfl).trans h4,h5⟩
theorem Zh0{str:ByteArray}{n:Nat}{W:Nat->ByteArray}{s:HS}(h:vF str n W)(hs:gP s)
  {e:UJ}{w0 w:World}{T:Nat->Prop}{q r t:Nat}(hEv:UW e w0.heap.size w)(hB:Below w0.heap.size w0 w)(hT: ∀b,T b->b<w0.heap.size/\ ¬e.ro b)
  (hq:GF e w q (.cells 100 (hsL s)))(hr:GF e w r (.row 38 1 s.xn s.xg))(ht:GF e w t (.row 9 1 s.yn s.yg))(hqr:q≠r)(hqt:q≠t)(hrt:r≠t)(hrv: ∃a b c,e.val r= .slice a b c)(htv: ∃a b c,e.val t= .slice a b c)
  (hxx: ∀i,i<s.xn-> ∀a∈s.xg i,∃u,a= .x u)(hyy: ∀i,i<s.yn-> ∀a∈s.yg i,∃u,a= .x u):
  Calls Tryz.prog 63 #[.pointer (some ⟨e.blk q,0,none⟩),.string str] w λen w'=>en= .returned (.int .i64 (RW W n s))/\Below w0.heap.size w0 w'/\w.heap.size<=w'.heap.size/\(∀x,e.ro x->w'.heap[x]? =w.heap[x]?)/\
   ∃ro1:Nat->Prop,(∀x,e.ro x->ro1 x)/\(∀x,T x-> ¬ro1 x)/\UW {e with ro:=ro1,own:=LK e q r t} w0.heap.size w'/\
    GF {e with ro:=ro1,own:=LK e q r t} w' q (.cells 100 (hsL (if RW W n s=0 then DS W s else s)))/\GF {e with ro:=ro1,own:=LK e q r t} w' r (.row 38 1 s.xn s.xg)/\GF {e with ro:=ro1,own:=LK e q r t} w' t (.row 9 1 s.yn s.yg):=by
 refine (Zh1 h hs hEv hB hT hq hr ht hqr hqt hrt hrv htv).mono ?_;rintro en w' ⟨rfl,w2,w3,G1,e1,⟨B3,K3,ro1,R1,R2,R3,R4,R5,R6⟩,G2,G3,O1,O2,O3⟩;have hro: ∀x,e.ro x->x<w.heap.size/\x≠e.blk q:=λx hx=>⟨(hEv.apart x hx).2,λh=>by
  have h1:=(hEv.apart x hx).1;rw [h,hq.2.1] at h1;cases h1⟩
 have hqlt:e.blk q<w.heap.size:=(hEv.owned _ _ hq.2.1).2;have lt3: ∀{x},x<w.heap.size->x<w3.heap.size:=λh=>xO h (Nat.le_trans G1.size G2.size)
 have hsz:w.heap.size<=w'.heap.size:=Nat.le_trans (Nat.le_trans G1.size G2.size) G3.size;have keep: ∀x,e.ro x->w'.heap[x]? =w.heap[x]? :=λx hx=>by
  rw [O1 x (lt3 (hro x hx).1) (hro x hx).2 (by have:=(hro x hx).1;omega),K3 x (.inl hx)]
  exact e1 x (hro x hx).1
 have b0:w0.heap.size<=e.blk q:=(hEv.owned _ _ hq.2.1).1;have hBel:Below w0.heap.size w0 w':=⟨G3.os.trans B3.os,G3.tape.trans B3.tape,G3.output.trans B3.output,Nat.le_trans B3.size G3.size,λx hx=>by
  rw [O1 x (lt3 (xO hx hB.size)) VI (by have:=hB.size;omega)]
  exact B3.block x hx⟩
 refine ⟨rfl,hBel,hsz,keep,?_⟩;by_cases he:RW W n s=0
 ·have HW:=O3 he;have hb:(rsE (RW W n s)).1=true:=by rw [he];rfl
  rw [hb] at R4;rw [if_pos he];have st:Step {e with ro:=ro1,own:=LK e q r t} {e with ro:=ro1,own:=LK e q r t} w3 w':=⟨λb _ hr=>⟨hr,HW b⟩,λk hk=>⟨hk,rfl,rfl⟩,G3.size⟩
  exact ⟨ro1,R1,R2,⟨λx hx=>⟨(R3.apart x hx).1,xO (R3.apart x hx).2 G3.size⟩,λx k hk=>⟨(R3.owned x k hk).1,xO (R3.owned x k hk).2 G3.size⟩,R3.glob.step st⟩,LF st (λx hx=>⟨hx,HW x⟩) rfl R4,LF st (λx hx=>⟨hx,HW x⟩) rfl R5,LF st (λx hx=>⟨hx,HW x⟩) rfl R6⟩
 ·rw [if_neg he] at O2;rw [if_neg he];have st:Step e {e with own:=LK e q r t} w w':=⟨λb _ hr=>⟨hr,keep b hr⟩,λk hk=>⟨hk,rfl,rfl⟩,hsz⟩
  obtain ⟨ql,qo,vs,qh,qv⟩:=hq;have H4: ∀{x j},LK e q r t x=some j->w0.heap.size<=x/\x<w.heap.size:=by
   intro x j hj;unfold LK at hj;split at hj
   ·rename_i h;rw [h];exact hEv.owned _ _ qo
   split at hj
   ·rename_i h;exact hEv.owned _ _ (hr.2.1 x h)
   split at hj
   ·rename_i h;exact hEv.owned _ _ (ht.2.1 x h)
   ·cases hj
  have EW: ∀{k:Nat},k≠q->(∀b,(e.val k).ownBlock=some b->e.own b=some k)-> ∀b,(e.val k).ownBlock=some b->w'.heap[b]? =w3.heap[b]? :=by
   intro k hk ho b hb;have h1:=hEv.owned _ _ (ho b hb);refine O1 b (lt3 h1.2) (λh=>?_) (by have:=h1.2;omega)
   have h2:=ho b hb;rw [h,qo] at h2;exact hk (Option.some.inj h2).symm
  refine ⟨e.ro,λ_ h=>h,λx hx=>(hT x hx).2,⟨λx hx=>⟨?_,xO (hEv.apart x hx).2 hsz⟩,λx k hk=>⟨(H4 hk).1,xO (H4 hk).2 hsz⟩,hEv.glob.step st⟩,⟨ql,if_pos rfl,vs,O2.trans qh,qv.step st⟩,?_,?_⟩
  ·have h0:=(hEv.apart x hx).1;show LK e q r t x=none;unfold LK;rw [if_neg (hro x hx).2,if_neg (λh=>by rw [hr.2.1 x h] at h0;cases h0),if_neg (λh=>by rw [ht.2.1 x h] at h0;cases h0)]
  ·obtain ⟨l5,o5,f5,xs5,p5,r5⟩:=R5;refine ⟨l5,o5,f5,xs5,tO p5 (EW hqr.symm hr.2.1),λi j a v hi ha hv=>?_⟩
   obtain ⟨u,rfl⟩:=hxx i hi a (DY ha);rw [(r5 i j _ v hi ha hv).x_inv];exact .x _
  ·obtain ⟨l6,o6,f6,xs6,p6,r6⟩:=R6;refine ⟨l6,o6,f6,xs6,tO p6 (EW hqt.symm ht.2.1),λi j a v hi ha hv=>?_⟩
   obtain ⟨u,rfl⟩:=hyy i hi a (DY ha);rw [(r6 i j _ v hi ha hv).x_inv];exact .x _
def UJ.nilAt(e:UJ)(nx:Nat):UJ:={ro:=e.ro,own:=e.own,live:=λk=>k=nx\/e.live k,blk:=e.blk,val:=λk=>if k=nx then .slice none 0 0 else e.val k}
theorem EC{e:UJ}{nx:Nat}{w:World}(h: ¬e.live nx):Step e (UJ.nilAt e nx) w w:=⟨λ_ _ h=>⟨h,rfl⟩,λk hk=>⟨.inr hk,rfl,by
 have:k≠nx:=λh'=>h (h'▸hk)
 simp [UJ.nilAt,this]⟩,Nat.le_refl _⟩
theorem Wd8{e:UJ}{nx B:Nat}{w:World}(h: ¬e.live nx)(hE:UW e B w):UW (UJ.nilAt e nx) B w:=⟨hE.apart,hE.owned,hE.glob.step (EC h)⟩
theorem Ql3(e:UJ)(nx:Nat)(w:World)(T n:Nat)(f:Nat->List AV)(h:n=0):GF (UJ.nilAt e nx) w nx (.row T 1 n f):=by
 subst h;refine ⟨.inl rfl,λb hb=>?_,λi hi=>absurd hi (Nat.not_lt_zero i),[],?_,λi j a v hi=>absurd hi (Nat.not_lt_zero i)⟩
 ·simp [UJ.nilAt,Value.ownBlock] at hb
 ·have:(UJ.nilAt e nx).val nx= .slice none 0 0:=by simp [UJ.nilAt]
  rw [this];exact World.ownsRow_nil w 0 T 1
theorem ND{e:UJ}{w:World}{k T sz n:Nat}{f:Nat->List AV}(h:GF e w k (.row T sz n f)): ∃a b c,e.val k= .slice a b c:=by
 obtain ⟨_,_,_,xs,h4,_⟩:=h;rcases h4.2 with ⟨h5,_⟩|⟨g,cap,cur,h5,_⟩
 ·exact ⟨_,_,_,h5⟩
 ·exact ⟨_,_,_,h5⟩
def lnW(s:ByteArray)(k:Nat):ByteArray:=(spl s ⟨#[32]⟩).getD k ByteArray.empty
def lnN(s:ByteArray):Nat:=Lib.countB s ⟨#[32]⟩+1
theorem fG(sep:ByteArray): ∀(k:Nat) (s:ByteArray),∀x∈Lib.splitB sep 0 k s,x.size<=s.size
 | 0,s,x,hx=>by
  simp only [Lib.splitB,GK,DQ,or_false] at hx;rw [hx];exact Nat.le_refl _
 |k+1,s,x,hx=>by
  unfold Lib.splitB at hx;split at hx
  ·simp only [GK,DQ,or_false] at hx;rw [hx];exact Nat.le_refl _
  ·rcases GK.1 hx with rfl|hx
   ·rw [ByteArray.size_extract];omega
   ·have:=fG sep k _ x hx;rw [ByteArray.size_extract] at this;omega
section
variable (s:ByteArray)
theorem Qm6(h:s.size<100000):vF s (lnN s) (lnW s):=by
 refine ⟨h,rfl,λk _=>rfl,λk=>?_⟩
 unfold lnW;rw [List.getD_eq_getElem?_getD];cases he:(spl s ⟨#[32]⟩)[k]? with
 |none=>exact Nat.zero_le _
 |some x=>
  have:=fG _ _ _ x (DY he);show x.size<=100000;omega
def lnE(x:HS):Int:=RW (lnW s) (lnN s) x
def lnS(x:HS):HS:=if lnE s x=0 then DS (lnW s) x else x
end
def hsX(s:HS)(n:Nat)(g:Nat->List AV)(n':Nat)(g':Nat->List AV):HS:={s with xn:=n,xg:=g,yn:=n',yg:=g'}
theorem tD(W:Nat->ByteArray)(n:Nat)(s:HS)(k k':Nat)(g g':Nat->List AV):RW W n (hsX s k g k' g')=RW W n s:=by
 unfold RW;split<;>rfl
theorem Xb8(W:Nat->ByteArray)(s:HS)(k k':Nat)(g g':Nat->List AV):DS W (hsX s k g k' g')=hsX (DS W s) k g k' g':=by
 unfold DS;split<;>rfl
theorem Zj1{s:HS}(h:gP s)(k k':Nat)(g g':Nat->List AV):gP (hsX s k g k' g'):=⟨h.nr,h.bV,h.nc,h.sV⟩
theorem Zh7{s:HS}(h:gP s)(str:ByteArray):gP (lnS str s):=by
 unfold lnS;split
 ·rename_i h0;exact Xb7 h h0
 ·exact h
def hs0:HS:={nr:=0,ra:=λ_=>0,rb:=λ_=>0,ru:=λ_=>0,rv:=λ_=>0,pl:=760,ph:=760,nb:=0,ql:=λ_=>0,qh:=λ_=>0,qm:=λ_=>0,qr:=λ_ _=>0,qv:=λ_ _=>0,nc:=0,ca:=λ_=>0,cb:=λ_=>0,cc:=λ_=>0,cd:=λ_=>0,cv:=λ_=>false,ns:=0,sa:=λ_=>0,sb:=λ_=>0,sc:=λ_=>0,sl:=λ_=>0,sh:=λ_=>0,xn:=0,xg:=λ_=>[],yn:=0,yg:=λ_=>[] }
def sK(L:Nat->ByteArray):Nat->HS
 | 0=>hs0
 |k+1=>lnS (L k) (sK L k)
def eK(L:Nat->ByteArray)(k:Nat):Int:=lnE (L k) (sK L k)
def exG(L:Nat->ByteArray)(j:Nat):List AV:=[.x (.int .i64 (eK L j))]
theorem Zj3:gP hs0:=⟨Nat.zero_le _,⟨⟨Nat.zero_le _,λb hb=>absurd hb (Nat.not_lt_zero b)⟩,λb hb=>absurd hb (Nat.not_lt_zero b)⟩,Nat.zero_le _,⟨Nat.zero_le _,λk hk=>absurd hk (Nat.not_lt_zero k)⟩⟩
theorem jE(L:Nat->ByteArray): ∀k,gP (sK L k)
 | 0=>Zj3
 |k+1=>Zh7 (jE L k) (L k)
def AA(L:Nat->ByteArray)(N r:Nat):HY:=λavs m nx sv=>match avs with
 |[.ptr q 0,.x (.string str')]=>match DA m q with
  |some (.cells T l)=>match DA m r with
   |some (.row T1 sz1 n1 f1)=>match Nat.beq T 100&&Nat.beq T1 38&& !Nat.beq q r with
    |true=>some (.needT [n1<N,l=hsL (sK L n1),FM str'= .x (.string (L n1)),sz1=1,f1=exG L] (.leaf (.x (.int .i64 (eK L n1)),[(q,.cells 100 (hsL (sK L (n1+1)))),(r,.row 38 1 n1 (exG L))],nx+1,sv)))
    |false=>none
   |_=>none
  |_=>none
 |_=>none
theorem Wd9{L:Nat->ByteArray}{N r:Nat}(hL: ∀k,k<N->(L k).size<100000):
  G9 VN 63 (AA L N r):=by
 refine ⟨(UF Tryz.func63),?_⟩;intro avs m nx sv tr ht Q hQ cx w0 T e ds args w hE hB hm hlv LL hxt hr;unfold AA at ht;split at ht
 ·rename_i q str';split at ht
  ·rename_i T l h1;split at ht
   ·rename_i T1 sz1 n1 f1 h2;split at ht
    ·rename_i hb;rw [H2,H2] at hb;obtain ⟨⟨hb1,hb2⟩,hb3⟩:=hb;obtain rfl:=GW hb1;obtain rfl:=GW hb2;have hqr:q≠r:=by
      rintro rfl;simp at hb3
     cases ht;obtain ⟨hn,hq⟩:=VL.sat_needT hQ;have hn:=GB hn;have e0:n1<N:=hn _ VU;have e1:l=hsL (sK L n1):=hn _ VU;have e2:FM str'= .x (.string (L n1)):=hn _ VU;have e3:sz1=1:=hn _ VU;have e5:f1=exG L:=hn _ VU;have e2:str'=L n1:=by
      injection e2 with e2
      injection e2
     subst e1 e2 e3 e5;obtain ⟨v0,l1,rfl,r1,hr⟩:=hr.cons_inv;obtain ⟨v1,l2,rfl,r2,hr⟩:=hr.cons_inv;obtain rfl:=hr.nil_inv;obtain rfl:=r2.x_inv;have hv0:v0= .pointer (some ⟨e.blk q,0,none⟩):=by cases r1;rfl
     subst hv0;have hid: ¬e.live nx:=λh=>Nat.lt_irrefl _ (hlv _ h)
     have hQ0:=hm _ (UU h1);have hR0:=hm _ (UU h2);have hqn:q≠nx:=λh=>hid (h▸hQ0.1)
     have hrn:r≠nx:=λh=>hid (h▸hR0.1)
     have st0:=EC (w:=w) hid;have hQ1:GF (UJ.nilAt e nx) w q (.cells 100 (hsL (sK L n1))):=LF st0 (λx hx=>⟨hx,rfl⟩) rfl hQ0
     have hR1:GF (UJ.nilAt e nx) w r (.row 38 1 n1 (exG L)):=LF st0 (λx hx=>⟨hx,rfl⟩) rfl hR0
     have hT1:=Ql3 e nx w 9 0 (λ_=>[]) rfl
     have h:=Qm6 _ (hL n1 e0);have hs:=Zj1 (jE L n1) n1 0 (exG L) (λ_=>[])
     have hxx: ∀i,i<n1-> ∀a∈exG L i,∃u,a= .x u:=λi _ a ha=>⟨_,qM.1 ha⟩
     refine (Zh0 h hs (Wd8 hid hE) hB LL hQ1 hR1 hT1 hqr hqn hrn (ND hR1) (ND hT1) hxx (λi hi=>absurd hi (Nat.not_lt_zero i))).mono ?_
     rintro en w' ⟨rfl,g1,g2,g3,ro1,g4,g5,g6,g7,g8,g9⟩;have st:Step e {UJ.nilAt e nx with ro:=ro1,own:=LK (UJ.nilAt e nx) q r nx} w w':=⟨λb _ hb=>⟨g4 b hb,g3 b hb⟩,λk hk=>⟨.inr hk,rfl,(st0.live k hk).2.2⟩,g2⟩
     rw [tD,Xb8] at g7;have g7:GF {UJ.nilAt e nx with ro:=ro1,own:=LK (UJ.nilAt e nx) q r nx} w' q (.cells 100 (hsL (sK L (n1+1)))):=by
      show GF _ w' q (.cells 100 (hsL (lnS (L n1) (sK L n1))));unfold lnS lnE;by_cases h0:RW (lnW (L n1)) (lnN (L n1)) (sK L n1)=0
      ·rw [if_pos h0] at g7 ⊢;exact g7
      ·rw [if_neg h0] at g7 ⊢;exact g7
     rw [tD];refine ⟨_,_,_,_,_,{UJ.nilAt e nx with ro:=ro1,own:=LK (UJ.nilAt e nx) q r nx},rfl,hq,g6,g1,?_,?_,λb hb=>⟨(LL b hb).1,g5 b hb⟩,hxt.step st,.x _⟩
     ·intro p hp;simp only [GK,DQ,or_false] at hp;rcases hp with rfl|rfl
      ·exact g7
      ·exact g8
     ·rintro k (rfl|hk)
      ·exact Nat.lt_succ_self _
      ·exact Nat.lt_succ_of_lt (hlv k hk)
    ·cases ht
   ·cases ht
  ·cases ht
 ·cases ht
open Go Go.Sx Go.RowKit Bo
def cvB:GM->GM
 | .cells T [.x (.slice none 0 0),.x (.int .i64 a),.x (.int .i64 b),.x (.slice none 0 0),.x (.slice none 0 0),.x (.slice none 0 0)]=> .cells T [hsR hs0,i a,i b,hsB hs0,hsC hs0,hsS hs0]
 |r=>r
def cvM:GY->GY
 |[]=>[]
 |(k,r)::t=>(k,cvB r)::cvM t
noncomputable def sU:HY:=λavs m nx sv=>match mP avs m nx sv with
 |some t=>some (t.bind λp=> .leaf (p.1,cvM p.2.1,p.2.2.1,p.2.2.2))
 |none=>none
theorem Zl4{e:UJ}{w:World}{k:Nat}{r:GM}(h:GF e w k r):GF e w k (cvB r):=by
 unfold cvB;split
 ·rename_i T a b;obtain ⟨h1,h2,vs,h3,h4⟩:=h;refine ⟨h1,h2,vs,h3,?_⟩;obtain ⟨u0,us,rfl,r0,h4⟩:=h4.cons_inv;obtain ⟨u1,us,rfl,r1,h4⟩:=h4.cons_inv;obtain ⟨u2,us,rfl,r2,h4⟩:=h4.cons_inv;obtain ⟨u3,us,rfl,r3,h4⟩:=h4.cons_inv;obtain ⟨u4,us,rfl,r4,h4⟩:=h4.cons_inv;obtain ⟨u5,us,rfl,r5,h4⟩:=h4.cons_inv;obtain rfl:=h4.nil_inv;obtain rfl:=r0.x_inv;obtain rfl:=r3.x_inv;obtain rfl:=r4.x_inv;obtain rfl:=r5.x_inv;exact .cons (.lstNil _ _) (.cons r1 (.cons r2 (.cons (.lstNil _ _) (.cons (.lstNil _ _) (.cons (.lstNil _ _) (.nil _ _))))))
 ·exact h
theorem Wq9{e:UJ}{w:World}: ∀{m:GY},UT e m w->UT e (cvM m) w
 |[],_,p,hp=>by cases hp
 |(k,r)::t,h,p,hp=>by
  rcases GK.1 hp with rfl|hp
  ·exact Zl4 (h (k,r) GD)
  ·exact Wq9 (m:=t) (λq hq=>h q (HN _ hq)) p hp
theorem Qd2:G9 VN 62 sU:=by
 refine ⟨I3.1,?_⟩;intro avs m nx sv t ht Q hQ c w0 T e ds args w hE hB hm hl LL hxt hr;unfold sU at ht;split at ht
 ·rename_i t0 h0;cases ht;refine (I3.2 _ _ _ _ _ h0 _ (VL.sat_bind hQ) c w0 T e ds args w hE hB hm hl LL hxt hr).mono ?_;rintro en w' ⟨v,r,m',nx',sv',e',q1,q2,q3,q4,q5,q6,q7,q8,q9⟩;exact ⟨v,r,cvM m',nx',sv',e',q1,q2,q3,q4,Wq9 q5,q6,q7,q8,q9⟩
 ·cases ht
theorem e8{L:Nat->ByteArray}{n:Nat}(h: ∀k,k<n->(L k).size<100000):G9 VN 63 (AA L n 902):=Wd9 h
abbrev KN:AV:=lst 3 0 λk=>[iI (hs0.ql k),iI (hs0.qh k),lst 2 0 λj=>[iI (hs0.qr k j),iI (hs0.qv k j)]]
section
variable (n:Nat)(L:Nat->ByteArray)
def Zp2:St:={σ:=[Q8 n L,top,QE,QA,ptr 900 0,top,top,top,top,Q8 n L,iI (n:Int)]++HG 13 [],m:=[(902,GM.row 38 1 0 λx=>[]),(900,GM.cells 100 [hR 0 hs0,iI 760,iI 760,KN,hC 0 hs0,hT 0 hs0])],nx:=903}
noncomputable def Jo0:Code:=U8 (VQ (U6 Tryz.f33) 0)
def Wh0(k:Nat):St:={σ:=H3 [(4,.ptr 900 0),(5,.row 902),(7,.top),(11,i k)] (Zp2 n L).σ,m:=[(902,.row 38 1 k (exG L)),(900,.cells 100 (hsL (sK L k)))],nx:=903}
def CI(k:Nat):G6->Option St
 | .exit 0=>some {σ:=H3 [(4,.ptr 900 0),(5,.row 902),(7,.top),(11,i n)] (Zp2 n L).σ,m:=[(902,.row 38 1 n (exG L)),(900,.cells 100 (hsL (sK L n)))],nx:=903}
 |_=>none
def Jj5:CT:= .leaf (.exit 0,(CI n L 0 (.exit 0)).getD (Zp2 n L))
def Xu8:UH:=GJ [(.slot 4,900,0,2),(.slot 5,902,38,1)] (HF (Wh0 n L (0)) (Jj5 n L))
end
abbrev Y4:Prop:=ptr 900 0=ptr 900 0
noncomputable abbrev YW(L:Nat->ByteArray)(n:Nat):Ext:={R:=[],H:=[(62,sU),(63,(AA L n 902))] }
section
variable (n:Nat)(L:Nat->ByteArray)
theorem Zz6(VR:n<=50)(UE: ∀k,k<n->(L k).size<100000):G7 VN (.loop Jo0) (Xu8 n L):=by
 refine UX [(.slot 4,900,0,2),(.slot 5,902,38,1)] (L:=[]) (VJ.nil _) (VV.of (VP.nil _) (VM.cons Qd2 (VM.cons (e8 UE) (VM.nil _)))) VY U2 (X:=Nat) (Wh0 n L) (λk=>k<=n) (λk=>n-k) (CI n L) (x0:=0) VU ?_ ?_ ?_
 ·rintro k;kernel_rfl
 ·rintro k y E h;unfold CI at h;split at h
  ·cases h;kernel_rfl
  ·cases h
 ·rintro Q hQ k hx;refine ⟨(k+1),?_⟩;(with_reducible refine DF (t:=branch (decide ((k:Int)<(n:Int))) (need [UI k n] (need [k<n,VX ([lst 4 ((sK L k).nr) λk_1=>[iI ((sK L k).ra k_1),iI ((sK L k).rb k_1),iI ((sK L k).ru k_1),iI ((sK L k).rv k_1)],iI ((sK L k).pl),iI ((sK L k).ph),lst 3 ((sK L k).nb) λk_1=>[iI ((sK L k).ql k_1),iI ((sK L k).qh k_1),lst 2 ((sK L k).qm k_1) λj=>[iI ((sK L k).qr k_1 j),iI ((sK L k).qv k_1 j)]],lst 5 ((sK L k).nc) λk_1=>[iI ((sK L k).ca k_1),iI ((sK L k).cb k_1),iI ((sK L k).cc k_1),iI ((sK L k).cd k_1),AV.x (.bool ((sK L k).cv k_1))],lst 5 ((sK L k).ns) λk_1=>[iI ((sK L k).sa k_1),iI ((sK L k).sb k_1),iI ((sK L k).sc k_1),iI ((sK L k).sl k_1),iI ((sK L k).sh k_1)]]),VX (FM (L k)),1=1,exG L=exG L] (need [(k+1)*8<=140737488355328,RS 1 (U4 1 [iI (eK L k)])] (need [VK ((k:Int)+1)] (need [VX (Q8 n L),QE=QE,QA=QA,Y4,WI,VX (Q8 n L),VX (n:Int),(k:Int)+1=(↑(k+1):Int),k+1=k+1,GT (k+1) (GG k (exG L) (U4 1 [iI (eK L k)])) (exG L),VX (lst 4 ((sK L (k+1)).nr) λk_1=>[iI ((sK L (k+1)).ra k_1),iI ((sK L (k+1)).rb k_1),iI ((sK L (k+1)).ru k_1),iI ((sK L (k+1)).rv k_1)]),VX ((sK L (k+1)).pl),VX ((sK L (k+1)).ph),VX (lst 3 ((sK L (k+1)).nb) λk_1=>[iI ((sK L (k+1)).ql k_1),iI ((sK L (k+1)).qh k_1),lst 2 ((sK L (k+1)).qm k_1) λj=>[iI ((sK L (k+1)).qr k_1 j),iI ((sK L (k+1)).qv k_1 j)]]),VX (lst 5 ((sK L (k+1)).nc) λk_1=>[iI ((sK L (k+1)).ca k_1),iI ((sK L (k+1)).cb k_1),iI ((sK L (k+1)).cc k_1),iI ((sK L (k+1)).cd k_1),AV.x (.bool ((sK L (k+1)).cv k_1))]),VX (lst 5 ((sK L (k+1)).ns) λk_1=>[iI ((sK L (k+1)).sa k_1),iI ((sK L (k+1)).sb k_1),iI ((sK L (k+1)).sc k_1),iI ((sK L (k+1)).sl k_1),iI ((sK L (k+1)).sh k_1)])] (leaf G6.normal)))))) (need [VX (Q8 n L),QE=QE,QA=QA,Y4,WI,VX (Q8 n L),VX (n:Int),(k:Int)=(n:Int),k=n,GN n (exG L),(lst 4 ((sK L k).nr) λk_1=>[iI ((sK L k).ra k_1),iI ((sK L k).rb k_1),iI ((sK L k).ru k_1),iI ((sK L k).rv k_1)])=hR ((sK L n).nr) (sK L n),(sK L k).pl=(sK L n).pl,(sK L k).ph=(sK L n).ph,(lst 3 ((sK L k).nb) λk_1=>[iI ((sK L k).ql k_1),iI ((sK L k).qh k_1),lst 2 ((sK L k).qm k_1) λj=>[iI ((sK L k).qr k_1 j),iI ((sK L k).qv k_1 j)]])=hY ((sK L n).nb) (sK L n),(lst 5 ((sK L k).nc) λk_1=>[iI ((sK L k).ca k_1),iI ((sK L k).cb k_1),iI ((sK L k).cc k_1),iI ((sK L k).cd k_1),AV.x (.bool ((sK L k).cv k_1))])=hC ((sK L n).nc) (sK L n),(lst 5 ((sK L k).ns) λk_1=>[iI ((sK L k).sa k_1),iI ((sK L k).sb k_1),iI ((sK L k).sc k_1),iI ((sK L k).sl k_1),iI ((sK L k).sh k_1)])=hT ((sK L n).ns) (sK L n)] (leaf (G6.exit 0)))) VS ?_)
  simp only [Jj5,CI,VL.sat,GS] at hQ;simp only [VL.sat,UA,UZ,GI,UC,VK,UG,H9,R0,RF,L1,GL,CI]
  refine ⟨λh=>?_,λh=>?_⟩
  ·have hk:k<n:=VI;have hq: ∀j,j<k+1->GG k (exG L) (U4 1 [i (eK L k)]) j=exG L j:=λj hj=>Pt.catF1 (a:=eK L) hj rfl
   (with_reducible repeat' first|apply And.intro|intro _)
   all_goals first|exact P7|(first|exact hq _ (by assumption)|exact FN (by assumption) (by simp [AV.one,Value.oneCell']))
  ·obtain rfl:k=n:=VI
   (with_reducible repeat' first|apply And.intro|intro _)
   all_goals first|exact P7|(assumption)
theorem i9(VR:n<=50)(UE: ∀k,k<n->(L k).size<100000):UM VN 33 [lns n L] (.leaf (.tup [.ro (hsL (sK L n)),.lst 1 n (exG L)])):=by
 refine GQ (L:=[Xu8 n L]) (VJ.nil _) (VV.of (VP.nil _) (VM.cons Qd2 (VM.cons (e8 UE) (VM.nil _)))) VY Tryz.func33 (US Tryz.f33) (G0 (lpE (b:= .loop Jo0) VS<|(Zz6 n L VR UE).N)) (t:=need [VX (Q8 n L),QE=QE,QA=QA,Y4,WI,VX (Q8 n L),VX (n:Int),(0:Int)=(↑(0:Nat):Int),0=0,GT 0 (λi=>[]) (exG L),(hR 0 hs0)=hR 0 (sK L 0),(760:Int)=(sK L 0).pl,(760:Int)=(sK L 0).ph,(KN)=lst 3 0 λk=>[iI ((sK L 0).ql k),iI ((sK L 0).qh k),lst 2 0 λj=>[iI ((sK L 0).qr k j),iI ((sK L 0).qv k j)]],(hC 0 hs0)=hC 0 (sK L 0),(hT 0 hs0)=hT 0 (sK L 0)] (leaf (tup [AV.ro (hL (sK L n)),lst 1 n λj=>[iI (eK L j)]]))) VS ?_
 intro Q hQ;simp only [VL.sat,UA,UG,VK,F9] at hQ ⊢
 (with_reducible repeat' first|apply And.intro|intro _)
 all_goals first|exact True.intro|omega|rfl|assumption|exact ⟨.tup [.ro (hsL (sK L n)),.lst 1 n (exG L)],⟨rfl,⟨rfl,rfl,λ_ _=>rfl⟩,True.intro⟩,hQ⟩
end
def baG(s:HS)(k:Nat):List AV:=[i (s.ql k),i (s.qh k),.lst 2 (s.qm k) (λj=>[i (s.qr k j),i (s.qv k j)])]
def hsN(s:HS):Prop:=s.nr<=1000/\s.nb<=1000/\s.nc<=1000/\s.ns<=1000/\ ∀b,b<s.nb->s.qm b<=1000
theorem Je5(n:Nat)(a b u v:Nat->Int):gdX 4 n (λk=>[i (a k),i (b k),i (u k),i (v k)]):=λk _=>⟨rfl,λx hx=>by
 simp only [GK,DQ,or_false] at hx;rcases hx with rfl|rfl|rfl|rfl<;>exact ⟨True.intro,by simp [AV.one,Value.oneCell']⟩⟩
theorem Je6(n:Nat)(a b c d:Nat->Int)(v:Nat->Bool):gdX 5 n (λk=>[i (a k),i (b k),i (c k),i (d k),bl (v k)]):=λk _=>⟨rfl,λx hx=>by
 simp only [GK,DQ,or_false] at hx;rcases hx with rfl|rfl|rfl|rfl|rfl<;>exact ⟨True.intro,by simp [AV.one,Value.oneCell']⟩⟩
theorem Je4(n:Nat)(a b c d v:Nat->Int):gdX 5 n (λk=>[i (a k),i (b k),i (c k),i (d k),i (v k)]):=λk _=>⟨rfl,λx hx=>by
 simp only [GK,DQ,or_false] at hx;rcases hx with rfl|rfl|rfl|rfl|rfl<;>exact ⟨True.intro,by simp [AV.one,Value.oneCell']⟩⟩
theorem Je3(n:Nat)(a b:Nat->Int):gdX 2 n (λk=>[i (a k),i (b k)]):=λk _=>⟨rfl,λx hx=>by
 simp only [GK,DQ,or_false] at hx;rcases hx with rfl|rfl<;>exact ⟨True.intro,by simp [AV.one,Value.oneCell']⟩⟩
theorem Zm0{s:HS}{k j:Nat}(hj:j<k+1):GG k (baG s) (U4 3 [i (s.ql k),i (s.qh k),.lst 2 (s.qm k) (λj=>[i (s.qr k j),i (s.qv k j)])]) j=baG s j:=by
 rcases (show j<k\/j=k by omega) with h|rfl
 ·show H6 (decide (j<k)) _ _=_;rw [decide_eq_true h,show j-k=0 by omega]
  rfl
 ·show H6 (decide (j<j)) _ _=_;rw [show decide (j<j)=false by simp,Nat.sub_self]
  rfl
abbrev YK:List AV:=[QA,iI 0,iI 0,QA,QA,QA]
section
variable (s:HS)
def Zq9:St:={σ:=[agg (hL s),ptr 0 0,ptr 1 0,ptr 900 0]++HG 15 [hY s.nb s,iI (↑s.nb:Int)]++HG 17 [],m:=[(901,GM.row 75 3 0 λx=>[]),(900,GM.cells 32 [hR s.nr s,iI s.pl,iI s.ph,AV.row 901,hC s.nc s,hT s.ns s]),(1,GM.cells 32 YK),(0,GM.cells 32 (hL s))],nx:=902}
noncomputable def Jp8:Code:=U8 (VQ (U6 Tryz.f34) 0)
def Wj1(k:Nat):St:={σ:=H3 [(3,.ptr 900 0),(5,.top),(21,i k)] (Zq9 s).σ,m:=[(901,.row 75 3 k (baG s)),(900,.cells 32 [hsR s,i s.pl,i s.ph,.row 901,hsC s,hsS s]),(1,(.cells 32 [.x (.slice none 0 0),i 0,i 0,.x (.slice none 0 0),.x (.slice none 0 0),.x (.slice none 0 0)])),(0,.cells 32 (hsL s))],nx:=902}
def E0(k:Nat):G6->Option St
 | .exit 0=>some {σ:=H3 [(3,.ptr 900 0),(5,.top),(21,i s.nb)] (Zq9 s).σ,m:=[(901,.row 75 3 s.nb (baG s)),(900,.cells 32 [hsR s,i s.pl,i s.ph,.row 901,hsC s,hsS s]),(1,(.cells 32 [.x (.slice none 0 0),i 0,i 0,.x (.slice none 0 0),.x (.slice none 0 0),.x (.slice none 0 0)])),(0,.cells 32 (hsL s))],nx:=902}
 |_=>none
def Jl6:CT:= .leaf (.exit 0,(E0 s 0 (.exit 0)).getD (Zq9 s))
def Xx2:UH:=GJ [(.slot 3,900,0,2),(.cell 900 3,901,75,3)] (HF (Wj1 s (0)) (Jl6 s))
abbrev Y5:List (Nat×UV):=[(64,sE),(65,sF),(66,sD),(67,sC)]
theorem Jg4(VR:hsN s):G7 VN (.loop Jp8) (Xx2 s):=by
 refine UX [(.slot 3,900,0,2),(.cell 900 3,901,75,3)] (L:=[]) (VJ.cons Qb4 (VJ.cons Qb5 (VJ.cons Qb3 (VJ.cons Qb2 (VJ.nil _))))) (VV.of (VP.nil _) (VM.nil _)) VY U2 (X:=Nat) (Wj1 s) (λk=>k<=s.nb) (λk=>s.nb-k) (E0 s) (x0:=0) VU ?_ ?_ ?_
 ·rintro k;kernel_rfl
 ·rintro k y E h;unfold E0 at h;split at h
  ·cases h;kernel_rfl
  ·cases h
 ·rintro Q hQ k hx;refine ⟨(k+1),?_⟩;(with_reducible refine DF (t:=let z0:=(lst 2 (s.qm k) λj=>[iI (s.qr k j),iI (s.qv k j)]);(branch (decide ((k:Int)<(↑s.nb:Int))) (need [UI k s.nb] (need [s.qm k<=100000,gdX 2 (s.qm k) λj=>[iI (s.qr k j),iI (s.qv k j)]] (need [(k+1)*40<=140737488355328,RS 1 (U4 3 [iI (s.ql k),iI (s.qh k),z0])] (need [VK ((k:Int)+1)] (need [VX (agg (hL s)),QO,XV,Y4,XW s,VX (↑s.nb:Int),(k:Int)+1=(↑(k+1):Int),k+1=k+1,GT (k+1) (GG k (baG s) (U4 3 [iI (s.ql k),iI (s.qh k),z0])) (baG s),XH s,JQ s,JR s,WG,XN s,XO s,QA=QA,QT,QT,QA=QA,QA=QA,QA=QA,XH s,JQ s,JR s,XW s,XN s,XO s] (leaf G6.normal)))))) (need [VX (agg (hL s)),QO,XV,Y4,XW s,VX (↑s.nb:Int),(k:Int)=(↑s.nb:Int),k=s.nb,∀(i:Nat),i<s.nb->baG s i=baG s i,XH s,JQ s,JR s,WG,XN s,XO s,QA=QA,QT,QT,QA=QA,QA=QA,QA=QA,XH s,JQ s,JR s,XW s,XN s,XO s] (leaf (G6.exit 0))))) VS ?_)
  simp only [Jl6,E0,VL.sat,GS] at hQ;simp only [VL.sat,UA,UZ,GI,UC,VK,UG,H9,R0,RF,L1,GL,E0]
  obtain ⟨h1,h2,h3,h4,h5⟩:=VR;refine ⟨λh=>?_,λh=>?_⟩
  ·have hk:k<s.nb:=VI;have h6:=h5 k hk
   (with_reducible repeat' first|apply And.intro|intro _)
   all_goals first|exact P7|(first|exact Je3 _ _ _|exact FN (by assumption) (by simp [AV.one,Value.oneCell'])|exact Zm0 (by assumption))
  ·obtain rfl:k=s.nb:=VI;exact YY
theorem pE(VR:hsN s):UM VN 34 [.agg (hsL s)] (.leaf (.agg (hsL s))):=by
 refine GQ (L:=[Xx2 s]) (VJ.cons Qb4 (VJ.cons Qb5 (VJ.cons Qb3 (VJ.cons Qb2 (VJ.nil _))))) (VV.of (VP.nil _) (VM.nil _)) VY Tryz.func34 (US Tryz.f34) (G0 (lpE (b:= .loop Jp8) VS<|(Jg4 s VR).N)) (t:=need [s.nr<=100000,gdX 4 s.nr λk=>[Bo.i (s.ra k),Bo.i (s.rb k),Bo.i (s.ru k),Bo.i (s.rv k)]] (need [s.nc<=100000,gdX 5 s.nc λk=>[i (s.ca k),i (s.cb k),i (s.cc k),i (s.cd k),bl (s.cv k)]] (need [s.ns<=100000,gdX 5 s.ns λk=>[i (s.sa k),i (s.sb k),i (s.sc k),i (s.sl k),i (s.sh k)]] (need [VX (agg (hL s)),QO,XV,Y4,XW s,VX (↑s.nb:Int),(0:Int)=(↑(0:Nat):Int),0=0,GT 0 (λi=>[]) (baG s),XH s,JQ s,JR s,WG,XN s,XO s,QA=QA,QT,QT,QA=QA,QA=QA,QA=QA,XH s,JQ s,JR s,XW s,XN s,XO s] (leaf (agg (hL s))))))) VS ?_
 intro Q hQ;simp only [VL.sat,UA,UG,VK,F9] at hQ ⊢;obtain ⟨h1,h2,h3,h4,h5⟩:=VR
 (with_reducible repeat' first|apply And.intro|intro _)
 all_goals first|exact True.intro|omega|exact Je5 _ _ _ _ _|exact Je6 _ _ _ _ _ _|exact Je4 _ _ _ _ _ _|rfl|assumption|(rename_i h;exact absurd h (Nat.not_lt_zero _))|exact ⟨.agg (hsL s),⟨⟨rfl,rfl,λ_ _=>rfl⟩,⟨rfl,rfl⟩,⟨rfl,rfl⟩,⟨rfl,rfl,λ_ _=>rfl⟩,⟨rfl,rfl,λ_ _=>rfl⟩,⟨rfl,rfl,λ_ _=>rfl⟩,True.intro⟩,hQ⟩
end
section
variable (n:Nat)(a b c lo hi:Nat->Int)
def hoS(ow day:Int):Int×Int:=hoF n a b c (eD n a b c lo hi (2^n)) (lS n a b c lo hi (2^n-1)) ow day (2^n)
theorem NG(ow day:Int)(VR:sV n a b c lo hi):UM VN 11 [.agg [i 4,i 10,sls n a b c lo hi],i ow,i day] (.branch (bt 0 ow 3&&bt 0 day 100) (.branch (!qJ n a b c lo hi) (.leaf (.tup [.agg [i 0,i 0],i 9])) (.leaf (.tup [.agg [i (hoS n a b c lo hi ow day).1,i (hoS n a b c lo hi ow day).2],i 0]))) (.leaf (.tup [.agg [i 0,i 0],i 2]))):=by
 refine GQ (L:=[]) (VJ.cons xZ (VJ.cons rW (VJ.cons (yY n a b c lo hi (eD n a b c lo hi (2^n)) (lS n a b c lo hi (2^n-1)) VR) (VJ.nil _)))) (VV.ofC (VP.nil _) (VM.nil _) (U9.cons (yW n a b c lo hi VR) (U9.nil _))) VY Tryz.func11 (US Tryz.f11) G4 (t:=let z6:=(lst 1 (2^n) λz=>[iI (eD n a b c lo hi (2^n) z)]);let z5:=(lst 1 (2^n) λz=>[iI (lS n a b c lo hi (2^n-1) z)]);let z2:=(hoF n a b c (eD n a b c lo hi (2^n)) (lS n a b c lo hi (2^n-1)) ow day (2^n));let z4:=(leaf (tup [agg [iI (Prod.fst z2),iI (Prod.snd z2)],iI 0]));let z0:=(need [AV.x (Y6)=AV.ro [iI 4,iI 10,Q0 n a b c lo hi,z6,z5],(0:Int)<=ow/\ow<4] z4);let z1:=(branch (!qJ n a b c lo hi) (branch ((9:Int) != 0) (leaf (tup [agg JP,iI 9])) z0) (branch ((0:Int) != 0) (leaf (tup [agg JP,iI 0])) (need [VX (AV.ro [iI 4,iI 10,Q0 n a b c lo hi,z6,z5]),(0:Int)<=ow/\ow<4] z4)));let z3:=(branch ((2:Int) != 0) (leaf (tup [agg JP,iI 2])) z0);(need [VK ((4:Int)-1)] (branch (bt (0:Int) ow ((4:Int)-1)) (need [QP n a b c lo hi] (branch (!bt (0:Int) day (100:Int)) z3 z1)) (need [QP n a b c lo hi] (branch (!false) z3 z1))))) VS ?_
 intro Q hQ;simp only [VL.sat,UA,UG] at hQ ⊢;have rp: ∀x y z:Int,F5 (.tup [.agg [i x,i y],i z]) (.tup [.agg [i x,i y],i z]):=λx y z=>⟨⟨⟨rfl,rfl⟩,⟨rfl,rfl⟩,True.intro⟩,⟨rfl,rfl⟩,True.intro⟩
 rw [show (4:Int)-1=3 from rfl];cases h1:bt 0 ow 3<;>cases h2:bt 0 day 100<;>cases h3:qJ n a b c lo hi<;>rw [h1,h2] at hQ<;>rw [h3] at hQ;all_goals (with_reducible repeat' first|apply And.intro|intro _)
 all_goals first
  |(simp only [VK];omega)
  |(exfalso;rename_i h;revert h;decide)
  |(exfalso;rename_i h _;revert h;decide)
  |(exfalso;rename_i h _ _;revert h;decide)
  |(exfalso;rename_i h _ _ _;revert h;decide)
  |(have:=(Bo.bt_iff _ _ _).1 h1;omega)
  |exact ⟨_,rp _ _ _,hQ.2 rfl⟩
  |exact ⟨_,rp _ _ _,(hQ.1 rfl).1 rfl⟩
  |exact ⟨_,rp _ _ _,(hQ.1 rfl).2 rfl⟩
def caB(day:Int)(ow:Nat):Bool:=decide ((hoS n a b c lo hi ow day).2>0)
def suB(day:Int)(ow:Nat):Bool:=decide ((hoS n a b c lo hi ow day).1>0)
def t8(day:Int):St:={σ:=[agg (ZS n a b c lo hi),iI day,ptr 0 0,top,top,top,iI 0,AV.ro [iI 4,iI 10,Q0 n a b c lo hi,lst 1 (2^n) λz=>[iI (eD n a b c lo hi (2^n) z)],lst 1 (2^n) λz=>[iI (lS n a b c lo hi (2^n-1) z)]]]++HG 13 [iI 4]++HG 24 [],m:=[(902,Y7),(901,Y7),(0,GM.cells 42 (ZS n a b c lo hi))],nx:=903}
noncomputable def Qs6:Code:=U8 (VQ (U6 Tryz.f39) 0)
def EN(day:Int)(k:Nat):St:={σ:=H3 [(4,.row 901),(5,.row 902),(8,.top),(9,.top),(22,i k)] (t8 n a b c lo hi day).σ,m:=[(902,.row 3 1 (G5 (suB n a b c lo hi day) (k)) (λz=>[i (UQ (suB n a b c lo hi day) 4 z)])),(901,.row 3 1 (G5 (caB n a b c lo hi day) (k)) (λz=>[i (UQ (caB n a b c lo hi day) 4 z)])),(0,.cells 42 [i 4,i 10,sls n a b c lo hi])],nx:=903}
def qD(day:Int)(k:Nat):G6->Option St
 | .exit 0=>some {σ:=H3 [(4,.row 901),(5,.row 902),(8,.top),(9,.top),(22,i 4)] (t8 n a b c lo hi day).σ,m:=[(902,.row 3 1 (G5 (suB n a b c lo hi day) (4)) (λz=>[i (UQ (suB n a b c lo hi day) 4 z)])),(901,.row 3 1 (G5 (caB n a b c lo hi day) (4)) (λz=>[i (UQ (caB n a b c lo hi day) 4 z)])),(0,.cells 42 [i 4,i 10,sls n a b c lo hi])],nx:=903}
 |_=>none
def Wu5(day:Int):CT:= .leaf (.exit 0,(qD n a b c lo hi day 0 (.exit 0)).getD (t8 n a b c lo hi day))
def mI(day:Int):UH:=GJ [(.slot 4,901,3,1),(.slot 5,902,3,1)] (HF (EN n a b c lo hi day (0)) (Wu5 n a b c lo hi day))
theorem Wa8(day:Int)(VR:sV n a b c lo hi):G7 VN (.loop Qs6) (mI n a b c lo hi day):=by
 refine zE [(.slot 4,901,3,1),(.slot 5,902,3,1)] (L:=[]) (VJ.cons rW (VJ.cons (yY n a b c lo hi (eD n a b c lo hi (2^n)) (lS n a b c lo hi (2^n-1)) VR) (VJ.nil _))) VY U2 (X:=Nat) (EN n a b c lo hi day) (λk=>k<=4) (λk=>4-k) (qD n a b c lo hi day) (x0:=0) VU ?_ ?_ ?_
 ·rintro k;kernel_rfl
 ·rintro k y E h;unfold qD at h;split at h
  ·cases h;kernel_rfl
  ·cases h
 ·rintro Q hQ k hx;refine ⟨(k+1),?_⟩;(with_reducible refine DF (t:=let z0:=(VX (AV.ro [iI 4,iI 10,Q0 n a b c lo hi,lst 1 (2^n) λz=>[iI (eD n a b c lo hi (2^n) z)],lst 1 (2^n) λz=>[iI (lS n a b c lo hi (2^n-1) z)]]));let z1:=suB n a b c lo hi day;let z2:=caB n a b c lo hi day;let z3:=(hoF n a b c (eD n a b c lo hi (2^n)) (lS n a b c lo hi (2^n-1)) (k:Int) day (2^n));let z4:=(U4 1 [iI (k:Int)]);let z5:=QP n a b c lo hi;let z6:=W2 n a b c lo hi;(branch (decide ((k:Int)<4)) (need [z0,(0:Int)<=(k:Int)/\(k:Int)<4] (branch (decide (Prod.snd z3>0)) (need [(G5 (z2) k+1)*8<=140737488355328,RS 1 (U4 1 [iI (k:Int)])] (branch (decide (Prod.fst z3>0)) (need [(G5 (z1) k+1)*8<=140737488355328,RS 1 (U4 1 [iI (k:Int)])] (need [VK ((k:Int)+1)] (need [z5,day=day,QO,WG,WI,QT,z0,QZ,(k:Int)+1=(↑(k+1):Int),G5 (z1) k+1=G5 (z1) (k+1),∀(i:Nat),i<G5 (z1) (k+1)->GG (G5 (z1) k) (λz=>[iI (↑(UQ (z1) 4 z):Int)]) z4 i=[iI (↑(UQ (z1) 4 i):Int)],G5 (z2) k+1=G5 (z2) (k+1),∀(i:Nat),i<G5 (z2) (k+1)->GG (G5 (z2) k) (λz=>[iI (↑(UQ (z2) 4 z):Int)]) z4 i=[iI (↑(UQ (z2) 4 i):Int)],QZ,W8,z6] (leaf G6.normal)))) (need [VK ((k:Int)+1)] (need [z5,day=day,QO,WG,WI,QT,z0,QZ,(k:Int)+1=(↑(k+1):Int),G5 (z1) k=G5 (z1) (k+1),∀(i:Nat),i<G5 (z1) (k+1)->[iI (↑(UQ (z1) 4 i):Int)]=[iI (↑(UQ (z1) 4 i):Int)],G5 (z2) k+1=G5 (z2) (k+1),∀(i:Nat),i<G5 (z2) (k+1)->GG (G5 (z2) k) (λz=>[iI (↑(UQ (z2) 4 z):Int)]) z4 i=[iI (↑(UQ (z2) 4 i):Int)],QZ,W8,z6] (leaf G6.normal))))) (branch (decide (Prod.fst z3>0)) (need [(G5 (z1) k+1)*8<=140737488355328,RS 1 (U4 1 [iI (k:Int)])] (need [VK ((k:Int)+1)] (need [z5,day=day,QO,WG,WI,QT,z0,QZ,(k:Int)+1=(↑(k+1):Int),G5 (z1) k+1=G5 (z1) (k+1),∀(i:Nat),i<G5 (z1) (k+1)->GG (G5 (z1) k) (λz=>[iI (↑(UQ (z1) 4 z):Int)]) z4 i=[iI (↑(UQ (z1) 4 i):Int)],G5 (z2) k=G5 (z2) (k+1),∀(i:Nat),i<G5 (z2) (k+1)->[iI (↑(UQ (z2) 4 i):Int)]=[iI (↑(UQ (z2) 4 i):Int)],QZ,W8,z6] (leaf G6.normal)))) (need [VK ((k:Int)+1)] (need [z5,day=day,QO,WG,WI,QT,z0,QZ,(k:Int)+1=(↑(k+1):Int),G5 (z1) k=G5 (z1) (k+1),∀(i:Nat),i<G5 (z1) (k+1)->[iI (↑(UQ (z1) 4 i):Int)]=[iI (↑(UQ (z1) 4 i):Int)],G5 (z2) k=G5 (z2) (k+1),∀(i:Nat),i<G5 (z2) (k+1)->[iI (↑(UQ (z2) 4 i):Int)]=[iI (↑(UQ (z2) 4 i):Int)],QZ,W8,z6] (leaf G6.normal)))))) (need [z5,day=day,QO,WG,WI,QT,z0,QZ,(k:Int)=4,G5 (z1) k=G5 (z1) 4,∀(i:Nat),i<G5 (z1) 4->[iI (↑(UQ (z1) 4 i):Int)]=[iI (↑(UQ (z1) 4 i):Int)],G5 (z2) k=G5 (z2) 4,∀(i:Nat),i<G5 (z2) 4->[iI (↑(UQ (z2) 4 i):Int)]=[iI (↑(UQ (z2) 4 i):Int)],QZ,W8,z6] (leaf (G6.exit 0))))) VS ?_)
  simp only [Wu5,qD,VL.sat,GS] at hQ;simp only [VL.sat,UA,UZ,GI,UC,VK,UG,H9,R0,RF,L1,GL,qD]
  have hB: ∀(p:Nat->Bool) (k:Nat),G5 p k<=k:=A5;have b1:=hB (caB n a b c lo hi day) k;have b2:=hB (suB n a b c lo hi day) k;refine ⟨λh=>?_,λh=>?_⟩
  ·have hk:k<4:=VI;have hq: ∀(p:Nat->Bool),p k=true-> ∀j,j<G5 p (k+1)->GG (G5 p k) (λz=>[i (UQ p 4 z)]) (U4 1 [i k]) j=[i (UQ p 4 j)]:=by
    intro p hp j hj;rw [F8 hp] at hj;exact Pt.catF1 (a:=λz=>((UQ p 4 z:Nat):Int)) hj (by show (k:Int)=((UQ p 4 (G5 p k):Nat):Int);rw [BK hk hp])
   cases hc:caB n a b c lo hi day k<;>cases hs:suB n a b c lo hi day k
   ·have e1:=RE hc;have e2:=RE hs;have hc':=of_decide_eq_false hc;have hs':=of_decide_eq_false hs
    (with_reducible repeat' first|apply And.intro|intro _)
    all_goals first|exact P7|(first|exact absurd (by assumption) hc'|exact absurd (by assumption) hs'|exact FN (by assumption) (by simp [AV.one,Value.oneCell']))
   ·have e1:=RE hc;have e2:=F8 hs;have hc':=of_decide_eq_false hc;have hs':=qL hs
    (with_reducible repeat' first|apply And.intro|intro _)
    all_goals first|exact P7|(first|exact absurd (by assumption) hc'|contradiction|exact FN (by assumption) (by simp [AV.one,Value.oneCell'])|exact hq _ hs _ (by assumption))
   ·have e1:=F8 hc;have e2:=RE hs;have hc':=qL hc;have hs':=of_decide_eq_false hs
    (with_reducible repeat' first|apply And.intro|intro _)
    all_goals first|exact P7|(first|exact absurd (by assumption) hs'|contradiction|exact FN (by assumption) (by simp [AV.one,Value.oneCell'])|exact hq _ hc _ (by assumption))
   ·have e1:=F8 hc;have e2:=F8 hs;have hc':=qL hc;have hs':=qL hs
    (with_reducible repeat' first|apply And.intro|intro _)
    all_goals first|exact P7|(first|contradiction|exact FN (by assumption) (by simp [AV.one,Value.oneCell'])|exact hq _ hc _ (by assumption)|exact hq _ hs _ (by assumption))
  ·obtain rfl:k=4:=VI;exact YY
theorem Qk7(day:Int)(VR:sV n a b c lo hi):UM VN 39 [.agg [i 4,i 10,sls n a b c lo hi],i day] (.branch (!bt 0 day 100) (.leaf (.tup [.x (.slice none 0 0),.x (.slice none 0 0),i 2])) (.branch (!qJ n a b c lo hi) (.leaf (.tup [.x (.slice none 0 0),.x (.slice none 0 0),i 9])) (.leaf (.tup [.lst 1 (G5 (caB n a b c lo hi day) 4) (λz=>[i (UQ (caB n a b c lo hi day) 4 z)]),.lst 1 (G5 (suB n a b c lo hi day) 4) (λz=>[i (UQ (suB n a b c lo hi day) 4 z)]),i 0])))):=by
 refine GQ (L:=[mI n a b c lo hi day]) (VJ.cons rW (VJ.cons (yY n a b c lo hi (eD n a b c lo hi (2^n)) (lS n a b c lo hi (2^n-1)) VR) (VJ.nil _))) (VV.ofC (VP.nil _) (VM.nil _) (U9.cons (yW n a b c lo hi VR) (U9.nil _))) VY Tryz.func39 (US Tryz.f39) (G0 (lpE (b:= .loop Qs6) VS<|(Wa8 n a b c lo hi day VR).N)) (t:=let z2:=caB n a b c lo hi day;let z1:=suB n a b c lo hi day;let z0:=(leaf (tup [lst 1 (G5 (z2) 4) λz=>[iI (↑(UQ (z2) 4 z):Int)],lst 1 (G5 (z1) 4) λz=>[iI (↑(UQ (z1) 4 z):Int)],iI 0]));let z3:=(lst 1 (2^n) λz=>[iI (lS n a b c lo hi (2^n-1) z)]);let z4:=(lst 1 (2^n) λz=>[iI (eD n a b c lo hi (2^n) z)]);(need [QP n a b c lo hi] (branch (!bt (0:Int) day (100:Int)) (branch ((2:Int) != 0) (leaf (tup [QA,QA,iI 2])) (need [QP n a b c lo hi,day=day,QO,WG,WI,(2:Int)=0,AV.x (Y6)=AV.ro [iI 4,iI 10,Q0 n a b c lo hi,z4,z3],QZ,(0:Int)=(↑(0:Nat):Int),0=G5 (z1) 0,∀(i:Nat),i<G5 (z1) 0->[]=[iI (↑(UQ (z1) 4 i):Int)],0=G5 (z2) 0,∀(i:Nat),i<G5 (z2) 0->[]=[iI (↑(UQ (z2) 4 i):Int)],QZ,W8,W2 n a b c lo hi] z0)) (branch (!qJ n a b c lo hi) (branch ((9:Int) != 0) (leaf (tup [QA,QA,iI 9])) (need [QP n a b c lo hi,day=day,QO,WG,WI,(9:Int)=0,AV.x (Y6)=AV.ro [iI 4,iI 10,Q0 n a b c lo hi,z4,z3],QZ,(0:Int)=(↑(0:Nat):Int),0=G5 (z1) 0,∀(i:Nat),i<G5 (z1) 0->[]=[iI (↑(UQ (z1) 4 i):Int)],0=G5 (z2) 0,∀(i:Nat),i<G5 (z2) 0->[]=[iI (↑(UQ (z2) 4 i):Int)],QZ,W8,W2 n a b c lo hi] z0)) (branch ((0:Int) != 0) (leaf (tup [QA,QA,iI 0])) (need [QP n a b c lo hi,day=day,QO,WG,WI,QT,VX (AV.ro [iI 4,iI 10,Q0 n a b c lo hi,z4,z3]),QZ,(0:Int)=(↑(0:Nat):Int),0=G5 (z1) 0,∀(i:Nat),i<G5 (z1) 0->[]=[iI (↑(UQ (z1) 4 i):Int)],0=G5 (z2) 0,∀(i:Nat),i<G5 (z2) 0->[]=[iI (↑(UQ (z2) 4 i):Int)],QZ,W8,W2 n a b c lo hi] z0)))))) VS ?_
 intro Q hQ;simp only [VL.sat,UA,UG] at hQ ⊢;have rn: ∀z:Int,F5 (.tup [.x (.slice none 0 0),.x (.slice none 0 0),i z]) (.tup [.x (.slice none 0 0),.x (.slice none 0 0),i z]):=λz=>⟨rfl,rfl,⟨rfl,rfl⟩,True.intro⟩
 have rl:F5 (.tup [.lst 1 (G5 (caB n a b c lo hi day) 4) (λz=>[i (UQ (caB n a b c lo hi day) 4 z)]),.lst 1 (G5 (suB n a b c lo hi day) 4) (λz=>[i (UQ (suB n a b c lo hi day) 4 z)]),i 0]) (.tup [.lst 1 (G5 (caB n a b c lo hi day) 4) (λz=>[i (UQ (caB n a b c lo hi day) 4 z)]),.lst 1 (G5 (suB n a b c lo hi day) 4) (λz=>[i (UQ (suB n a b c lo hi day) 4 z)]),i 0]):=⟨⟨rfl,rfl,λ_ _=>rfl⟩,⟨rfl,rfl,λ_ _=>rfl⟩,⟨rfl,rfl⟩,True.intro⟩
 cases h2:bt 0 day 100<;>cases h3:qJ n a b c lo hi<;>rw [h2] at hQ<;>rw [h3] at hQ;all_goals (with_reducible repeat' first|apply And.intro|intro _)
 all_goals first
  |(exfalso;rename_i h;revert h;decide)
  |(exfalso;rename_i h _;revert h;decide)
  |(exfalso;rename_i h _ _;revert h;decide)
  |(exfalso;rename_i h _ _ _;revert h;decide)
  |rfl
  |(rename_i h;exact absurd h (Nat.not_lt_zero _))
  |exact ⟨_,rn _,hQ.1 rfl⟩
  |exact ⟨_,rn _,(hQ.2 rfl).1 rfl⟩
  |exact ⟨_,rl,(hQ.2 rfl).2 rfl⟩
def Ww1(day:Int):D7:=λl=>some (.need [l=[.agg [i 4,i 10,sls n a b c lo hi],i day]] (.branch (!bt 0 day 100) (.leaf (.tup [.x (.slice none 0 0),.x (.slice none 0 0),i 2])) (.branch (!qJ n a b c lo hi) (.leaf (.tup [.x (.slice none 0 0),.x (.slice none 0 0),i 9])) (.leaf (.tup [.lst 1 (G5 (caB n a b c lo hi day) 4) (λz=>[i (UQ (caB n a b c lo hi day) 4 z)]),.lst 1 (G5 (suB n a b c lo hi day) 4) (λz=>[i (UQ (suB n a b c lo hi day) 4 z)]),i 0])))))
theorem nP(day:Int)(VR:sV n a b c lo hi):Sx.Enters Tryz.prog 39/\ ∀avs t,Ww1 n a b c lo hi day avs=some t->UM VN 39 avs t:=by
 refine ⟨(UF Tryz.func39),?_⟩;intro avs t h;cases h;intro Q hQ;have e:=hQ.1
 dsimp only [UA] at e
 subst e;exact Qk7 n a b c lo hi day VR Q hQ.2
end
section
variable (n:Nat)(L:Nat->ByteArray)
def Ww5:D7:=λl=>some (.need [l=[lns n L],ckE n L=0] (.leaf (.tup [.ro (hsL (sK L n)),.lst 1 n (exG L)])))
def sJ:D7:=λl=>some (.need [l=[.agg (hsL (sK L n))]] (.leaf (.agg (hsL (sK L n)))))
end
theorem r8{n:Nat}{L:Nat->ByteArray}(h:ckE n L=0):n<=50/\ ∀k,k<n->(L k).size<=200:=by
 unfold ckE at h;split at h
 ·rename_i h1;refine ⟨h1.1,λk hk=>?_⟩
  have h2:=qL (GR.1 h1.2 k hk);omega
 ·exact absurd h (by decide)
theorem Zj2{s:HS}(h:gP s):hsN s:=⟨by have:=h.nr;omega,by have:=h.bV.1.1;omega,by have:=h.nc;omega,by have:=h.sV.1;omega,λb hb=>by have:=(h.bV.1.2 b hb).1;omega⟩
section
variable (n:Nat)(L:Nat->ByteArray)
theorem xC:Sx.Enters Tryz.prog 33/\ ∀avs t,Ww5 n L avs=some t->UM VN 33 avs t:=by
 refine ⟨(UF Tryz.func33),?_⟩;intro avs t h;cases h;intro Q hQ;have e:avs=[lns n L]:=hQ.1.1;have h0:ckE n L=0:=hQ.1.2;subst e;have hk:=r8 h0;exact i9 n L hk.1 (λk h=>by have:=hk.2 k h;omega) Q hQ.2
theorem iJ:Sx.Enters Tryz.prog 34/\ ∀avs t,sJ n L avs=some t->UM VN 34 avs t:=by
 refine ⟨(UF Tryz.func34),?_⟩;intro avs t h;cases h;intro Q hQ;have e:avs=[.agg (hsL (sK L n))]:=hQ.1;subst e;exact pE (sK L n) (Zj2 (jE L n)) Q hQ.2
end
theorem A2(s:HS):F5 (.agg (hsL s)) (.agg (hsL s)):=⟨⟨rfl,rfl,λ_ _=>rfl⟩,⟨rfl,rfl⟩,⟨rfl,rfl⟩,⟨rfl,rfl,λ_ _=>rfl⟩,⟨rfl,rfl,λ_ _=>rfl⟩,⟨rfl,rfl,λ_ _=>rfl⟩,True.intro⟩
section
variable (n:Nat)(L:Nat->ByteArray)
abbrev KW:Prop:=[Q8 n L]=[Q8 n L]
theorem iN(VR:n<=100):UM VN 19 [lns n L] (.branch (ckE n L != 0) (.leaf (.tup [.agg [.x (.slice none 0 0),i 0,i 0,.x (.slice none 0 0),.x (.slice none 0 0),.x (.slice none 0 0)],.x (.slice none 0 0),i (ckE n L)])) (.leaf (.tup [.agg (hsL (sK L n)),.lst 1 n (exG L),i 0]))):=by
 refine GQ (L:=[]) (VJ.cons (PR n L VI) (VJ.nil _)) (VV.ofC (VP.nil _) (VM.nil _) (U9.cons (xC n L) (U9.cons (iJ n L) (U9.nil _)))) VY Tryz.func19 (US Tryz.f19) G4 (t:=need [(KW n L)] (branch (ckE n L != 0) (leaf (tup [agg YK,QA,iI (ckE n L)])) (need [(KW n L),ckE n L=0] (need [VX ([agg (hL (sK L n))])] (leaf (tup [agg (hL (sK L n)),lst 1 n λj=>[iI (eK L j)],iI 0])))))) VS ?_
 intro Q hQ;simp only [VL.sat,UA,UG,VK,F9] at hQ ⊢;refine ⟨λh=>⟨.tup [.agg [.x (.slice none 0 0),i 0,i 0,.x (.slice none 0 0),.x (.slice none 0 0),.x (.slice none 0 0)],.x (.slice none 0 0),i (ckE n L)],⟨⟨rfl,⟨rfl,rfl⟩,⟨rfl,rfl⟩,rfl,rfl,rfl,True.intro⟩,rfl,⟨rfl,rfl⟩,True.intro⟩,hQ.1 h⟩,λh=>?_⟩
 have h0:ckE n L=0:=by simpa using h
 (with_reducible repeat' first|apply And.intro|intro _)
 all_goals first|exact True.intro|exact h0|rfl|(exact ⟨.tup [.agg (hsL (sK L n)),.lst 1 n (exG L),i 0],⟨A2 _,⟨rfl,rfl,λ_ _=>rfl⟩,⟨rfl,rfl⟩,True.intro⟩,hQ.2 h⟩)
theorem iO(VR:n<=100):UM VN 21 [lns n L] (.branch (ckE n L != 0) (.leaf (.tup [.x (.slice none 0 0),i (ckE n L)])) (.leaf (.tup [.lst 2 (boN (sK L n).nb (sK L n).ql (sK L n).qh (sK L n).qm (sK L n).qr (sK L n).qv) (λk=>[i (boL (sK L n).nb (sK L n).ql (sK L n).qh (sK L n).qm (sK L n).qr (sK L n).qv k),i (boH (sK L n).nb (sK L n).ql (sK L n).qh (sK L n).qm (sK L n).qr (sK L n).qv k)]),i (boE (sK L n).nb (sK L n).ql (sK L n).qh (sK L n).qm (sK L n).qr (sK L n).qv)]))):=by
 refine GQ (L:=[]) (VJ.cons (PR n L VI) (VJ.cons (aH (sK L n).nb (sK L n).ql (sK L n).qh (sK L n).qm (sK L n).qr (sK L n).qv (jE L n).bV) (VJ.nil _))) (VV.ofC (VP.cons RA (VP.nil _)) (VM.nil _) (U9.cons (xC n L) (U9.nil _))) VY Tryz.func21 (US Tryz.f21) G4 (t:=need [(KW n L)] (branch (ckE n L != 0) (leaf (tup [QA,iI (ckE n L)])) (need [(KW n L),ckE n L=0] (need [VX ([agg [lst 2 3 λk=>[iI (oL k),iI (oH k)],iI 1,hY ((sK L n).nb) (sK L n)]])] (leaf (tup [lst 2 (boN ((sK L n).nb) ((sK L n).ql) ((sK L n).qh) ((sK L n).qm) ((sK L n).qr) ((sK L n).qv)) λk=>[iI (boL ((sK L n).nb) ((sK L n).ql) ((sK L n).qh) ((sK L n).qm) ((sK L n).qr) ((sK L n).qv) k),iI (boH ((sK L n).nb) ((sK L n).ql) ((sK L n).qh) ((sK L n).qm) ((sK L n).qr) ((sK L n).qv) k)],iI (boE ((sK L n).nb) ((sK L n).ql) ((sK L n).qh) ((sK L n).qm) ((sK L n).qr) ((sK L n).qv))])))))) VS ?_
 intro Q hQ;simp only [VL.sat,UA,UG,VK,F9] at hQ ⊢;refine ⟨λh=>⟨.tup [.x (.slice none 0 0),i (ckE n L)],⟨rfl,⟨rfl,rfl⟩,True.intro⟩,hQ.1 h⟩,λh=>?_⟩
 have h0:ckE n L=0:=by simpa using h
 (with_reducible repeat' first|apply And.intro|intro _)
 all_goals first|exact True.intro|exact h0|rfl|(exact ⟨.tup [.lst 2 (boN (sK L n).nb (sK L n).ql (sK L n).qh (sK L n).qm (sK L n).qr (sK L n).qv) (λk=>[i (boL (sK L n).nb (sK L n).ql (sK L n).qh (sK L n).qm (sK L n).qr (sK L n).qv k),i (boH (sK L n).nb (sK L n).ql (sK L n).qh (sK L n).qm (sK L n).qr (sK L n).qv k)]),i (boE (sK L n).nb (sK L n).ql (sK L n).qh (sK L n).qm (sK L n).qr (sK L n).qv)],⟨⟨rfl,rfl,λ_ _=>rfl⟩,⟨rfl,rfl⟩,True.intro⟩,hQ.2 h⟩)
theorem Qp1(day:Int)(VR:n<=100):UM VN 23 [lns n L,i day] (.branch (ckE n L != 0) (.leaf (.tup [.x (.slice none 0 0),.x (.slice none 0 0),i (ckE n L)])) (.branch (!bt 0 day 100) (.leaf (.tup [.x (.slice none 0 0),.x (.slice none 0 0),i 2])) (.branch (!qJ (sK L n).ns (sK L n).sa (sK L n).sb (sK L n).sc (sK L n).sl (sK L n).sh) (.leaf (.tup [.x (.slice none 0 0),.x (.slice none 0 0),i 9])) (.leaf (.tup [.lst 1 (G5 (caB (sK L n).ns (sK L n).sa (sK L n).sb (sK L n).sc (sK L n).sl (sK L n).sh day) 4) (λz=>[i (UQ (caB (sK L n).ns (sK L n).sa (sK L n).sb (sK L n).sc (sK L n).sl (sK L n).sh day) 4 z)]),.lst 1 (G5 (suB (sK L n).ns (sK L n).sa (sK L n).sb (sK L n).sc (sK L n).sl (sK L n).sh day) 4) (λz=>[i (UQ (suB (sK L n).ns (sK L n).sa (sK L n).sb (sK L n).sc (sK L n).sl (sK L n).sh day) 4 z)]),i 0]))))):=by
 refine GQ (L:=[]) (VJ.cons (PR n L VI) (VJ.nil _)) (VV.ofC (VP.cons LX (VP.nil _)) (VM.nil _) (U9.cons (xC n L) (U9.cons (nP (sK L n).ns (sK L n).sa (sK L n).sb (sK L n).sc (sK L n).sl (sK L n).sh day (jE L n).sV) (U9.nil _)))) VY Tryz.func23 (US Tryz.f23) G4 (t:=let z0:=(caB ((sK L n).ns) ((sK L n).sa) ((sK L n).sb) ((sK L n).sc) ((sK L n).sl) ((sK L n).sh) day);let z1:=(suB ((sK L n).ns) ((sK L n).sa) ((sK L n).sb) ((sK L n).sc) ((sK L n).sl) ((sK L n).sh) day);(need [(KW n L)] (branch (ckE n L != 0) (leaf (tup [QA,QA,iI (ckE n L)])) (need [(KW n L),ckE n L=0] (need [VX ([agg [iI 4,iI 10,hT ((sK L n).ns) (sK L n)],iI day])] (branch (!bt (0:Int) day (100:Int)) (leaf (tup [QA,QA,iI 2])) (branch (!qJ ((sK L n).ns) ((sK L n).sa) ((sK L n).sb) ((sK L n).sc) ((sK L n).sl) ((sK L n).sh)) (leaf (tup [QA,QA,iI 9])) (leaf (tup [lst 1 (G5 z0 4) λz=>[iI (↑(UQ z0 4 z):Int)],lst 1 (G5 z1 4) λz=>[iI (↑(UQ z1 4 z):Int)],iI 0]))))))))) VS ?_
 intro Q hQ;simp only [VL.sat,UA,UG,VK,F9] at hQ ⊢;have rn: ∀z:Int,F5 (.tup [.x (.slice none 0 0),.x (.slice none 0 0),i z]) (.tup [.x (.slice none 0 0),.x (.slice none 0 0),i z]):=λz=>⟨rfl,rfl,⟨rfl,rfl⟩,True.intro⟩
 have rl:F5 (.tup [.lst 1 (G5 (caB (sK L n).ns (sK L n).sa (sK L n).sb (sK L n).sc (sK L n).sl (sK L n).sh day) 4) (λz=>[i (UQ (caB (sK L n).ns (sK L n).sa (sK L n).sb (sK L n).sc (sK L n).sl (sK L n).sh day) 4 z)]),.lst 1 (G5 (suB (sK L n).ns (sK L n).sa (sK L n).sb (sK L n).sc (sK L n).sl (sK L n).sh day) 4) (λz=>[i (UQ (suB (sK L n).ns (sK L n).sa (sK L n).sb (sK L n).sc (sK L n).sl (sK L n).sh day) 4 z)]),i 0]) (.tup [.lst 1 (G5 (caB (sK L n).ns (sK L n).sa (sK L n).sb (sK L n).sc (sK L n).sl (sK L n).sh day) 4) (λz=>[i (UQ (caB (sK L n).ns (sK L n).sa (sK L n).sb (sK L n).sc (sK L n).sl (sK L n).sh day) 4 z)]),.lst 1 (G5 (suB (sK L n).ns (sK L n).sa (sK L n).sb (sK L n).sc (sK L n).sl (sK L n).sh day) 4) (λz=>[i (UQ (suB (sK L n).ns (sK L n).sa (sK L n).sb (sK L n).sc (sK L n).sl (sK L n).sh day) 4 z)]),i 0]):=⟨⟨rfl,rfl,λ_ _=>rfl⟩,⟨rfl,rfl,λ_ _=>rfl⟩,⟨rfl,rfl⟩,True.intro⟩
 refine ⟨λh=>⟨_,rn _,hQ.1 h⟩,λh=>?_⟩
 have h0:ckE n L=0:=by simpa using h
 have hQ2:=hQ.2 h
 (with_reducible repeat' first|apply And.intro|intro _)
 all_goals first|exact True.intro|exact h0|rfl|(rename_i h1;exact ⟨_,rn _,hQ2.1 h1⟩)|(rename_i h1 h2;exact ⟨_,rn _,(hQ2.2 h1).1 h2⟩)|(rename_i h1 h2;exact ⟨_,rl,(hQ2.2 h1).2 h2⟩)
end
section
variable (s:HS)
def stB(a b w d:Int)(v:Bool)(day:Int):Bool:= !v&&(decide (day>=d)&&((asE 4 100 20 30 s.nr s.ra s.rb s.ru s.rv 3 tbP tbQ s.pl s.ph 1 3 a b w day==0)&&kpB 4 100 20 30 s.nr s.ra s.rb s.ru s.rv 3 tbP tbQ s.pl s.ph 1 3 a b w day))
def stP(day:Int)(k:Nat):Bool:=stB s (s.ca k) (s.cb k) (s.cc k) (s.cd k) (s.cv k) day
theorem ES(a b w d:Int)(v:Bool)(day:Int):VW VN 38 [.agg (hsL s),.agg [i a,i b,i w,i d,bl v],i day] (bl (stB s a b w d v day)):=by
 refine GA (L:=[]) (VJ.cons Qh8 (VJ.nil _)) (VV.ofC (VP.nil _) (VM.nil _) (U9.cons (Qd0 F7) (U9.nil _))) VY Tryz.func38 (US Tryz.f38) G4 (t:=need [UD 4 s.nr λk=>[Bo.i (s.ra k),Bo.i (s.rb k),Bo.i (s.ru k),Bo.i (s.rv k)],UD 2 3 λk=>[i (tbP k),i (tbQ k)]] (branch (!v) (branch (decide (day>=d)) (branch (asE (4:Int) (100:Int) (20:Int) (30:Int) s.nr (s.ra) (s.rb) (s.ru) (s.rv) 3 tbP tbQ s.pl s.ph (1:Int) (3:Int) a b w day==0) (leaf (RV.x (.bool (kpB (4:Int) (100:Int) (20:Int) (30:Int) s.nr (s.ra) (s.rb) (s.ru) (s.rv) 3 tbP tbQ s.pl s.ph (1:Int) (3:Int) a b w day)))) (leaf (RV.x (WM)))) (leaf (RV.x (WM)))) (leaf (RV.x (WM))))) VS ?_
 simp only [VL.sat,UA,UZ,UC,UG];refine ⟨⟨Bo.isRec4 _ _ _ _ _,Pt.isRec2 _ _ _⟩,?_⟩;unfold stB;cases v<;>cases decide (day>=d)<;>cases (asE 4 100 20 30 s.nr s.ra s.rb s.ru s.rv 3 tbP tbQ s.pl s.ph 1 3 a b w day==0)<;>simp
def S1:UV
 |[.agg l',.agg [.x (.int .i64 a),.x (.int .i64 b),.x (.int .i64 w),.x (.int .i64 d),.x (.bool v)],.x (.int .i64 day)]=>some ([l'=hsL s],bl (stB s a b w d v day))
 |_=>none
theorem ER:VO VN 38 (S1 s):=by
 refine ⟨(UF Tryz.func38),?_⟩;intro avs ns res h hn;unfold S1 at h;split at h
 ·cases h;have e:=hn _ GD;subst e;exact ES s _ _ _ _ _ _
 ·cases h
end
section
variable (n:Nat)(L:Nat->ByteArray)(day:Int)
def Zo5:St:={σ:=[Q8 n L,iI day,top,top,QA,iI 0,iI (ckE n L),AV.ro (hL (sK L n)),lst 1 n λj=>[iI (eK L j)]]++HG 20 [hC ((sK L n).nc) (sK L n),iI (↑((sK L n).nc):Int)]++HG 18 [],m:=[(901,Y7)],nx:=902}
noncomputable def Jn4:Code:=U8 (VQ (U6 Tryz.f22) 0)
def Wg2(k:Nat):St:={σ:=H3 [(9,.row 901),(10,.top),(11,.top),(31,i k)] (Zo5 n L day).σ,m:=[(901,.row 3 1 (G5 (stP (sK L n) day) (k)) (λz=>[i (UQ (stP (sK L n) day) (sK L n).nc z)]))],nx:=902}
def CC(k:Nat):G6->Option St
 | .exit 0=>some {σ:=H3 [(9,.row 901),(10,.top),(11,.top),(31,i (sK L n).nc)] (Zo5 n L day).σ,m:=[(901,.row 3 1 (G5 (stP (sK L n) day) ((sK L n).nc)) (λz=>[i (UQ (stP (sK L n) day) (sK L n).nc z)]))],nx:=902}
 |_=>none
def Ji6:CT:= .leaf (.exit 0,(CC n L day 0 (.exit 0)).getD (Zo5 n L day))
def Xt9:UH:=GJ [(.slot 9,901,3,1)] (HF (Wg2 n L day (0)) (Ji6 n L day))
end
theorem VD{p:Prop}(h:p:=by
 (with_reducible repeat' first|apply And.intro|intro _)
 all_goals first|exact P7|(first|exact absurd (by assumption) hc'|exact FN (by assumption) (by simp [AV.one,Value.oneCell']))):p:=h
section
variable (n:Nat)(L:Nat->ByteArray)(day:Int)
theorem Zy0(VR:n<=100):G7 VN (.loop Jn4) (Xt9 n L day):=by
 refine UX [(.slot 9,901,3,1)] (L:=[]) (VJ.cons (PR n L VI) (VJ.cons PQ (VJ.cons (ER (sK L n)) (VJ.nil _)))) (VV.ofC (VP.nil _) (VM.nil _) (U9.cons (xC n L) (U9.nil _))) VY U2 (X:=Nat) (Wg2 n L day) (λk=>k<=(sK L n).nc) (λk=>(sK L n).nc-k) (CC n L day) (x0:=0) VU ?_ ?_ ?_
 ·rintro k;kernel_rfl
 ·rintro k y E h;unfold CC at h;split at h
  ·cases h;kernel_rfl
  ·cases h
 ·rintro Q hQ k hx;refine ⟨(k+1),?_⟩;(with_reducible refine DF (t:=let z0:=(VX (lst 1 n λj=>[iI (eK L j)]));let z1:=(VX (hC ((sK L n).nc) (sK L n)));let z2:=(VX (↑((sK L n).nc):Int));(branch (decide ((k:Int)<(↑((sK L n).nc):Int))) (need [UI k ((sK L n).nc)] (need [VX (hL (sK L n))] (branch (stB (sK L n) ((sK L n).ca k) ((sK L n).cb k) ((sK L n).cc k) ((sK L n).cd k) ((sK L n).cv k) day) (need [(G5 (stP (sK L n) day) k+1)*8<=140737488355328,RS 1 (U4 1 [iI (k:Int)])] (need [VK ((k:Int)+1)] (need [VX (Q8 n L),day=day,QA=QA,QT,VX (ckE n L),VX (AV.ro (hL (sK L n))),z0,WG,z1,z2,(k:Int)+1=(↑(k+1):Int),G5 (stP (sK L n) day) k+1=G5 (stP (sK L n) day) (k+1),∀(i:Nat),i<G5 (stP (sK L n) day) (k+1)->GG (G5 (stP (sK L n) day) k) (λz=>[iI (↑(UQ (stP (sK L n) day) ((sK L n).nc) z):Int)]) (U4 1 [iI (k:Int)]) i=[iI (↑(UQ (stP (sK L n) day) ((sK L n).nc) i):Int)]] (leaf G6.normal)))) (need [VK ((k:Int)+1)] (need [VX (Q8 n L),day=day,QA=QA,QT,VX (ckE n L),VX (AV.ro (hL (sK L n))),z0,WG,z1,z2,(k:Int)+1=(↑(k+1):Int),G5 (stP (sK L n) day) k=G5 (stP (sK L n) day) (k+1),∀(i:Nat),i<G5 (stP (sK L n) day) (k+1)->[iI (↑(UQ (stP (sK L n) day) ((sK L n).nc) i):Int)]=[iI (↑(UQ (stP (sK L n) day) ((sK L n).nc) i):Int)]] (leaf G6.normal)))))) (need [VX (Q8 n L),day=day,QA=QA,QT,VX (ckE n L),VX (AV.ro (hL (sK L n))),z0,WG,z1,z2,(k:Int)=(↑((sK L n).nc):Int),G5 (stP (sK L n) day) k=G5 (stP (sK L n) day) ((sK L n).nc),∀(i:Nat),i<G5 (stP (sK L n) day) ((sK L n).nc)->[iI (↑(UQ (stP (sK L n) day) ((sK L n).nc) i):Int)]=[iI (↑(UQ (stP (sK L n) day) ((sK L n).nc) i):Int)]] (leaf (G6.exit 0))))) VS ?_)
  simp only [Ji6,CC,VL.sat,GS] at hQ;simp only [VL.sat,UA,UZ,GI,UC,VK,UG,H9,R0,RF,L1,GL,CC]
  have b1:=A5 (p:=stP (sK L n) day) (k:=k);have b2:=(jE L n).nc;refine ⟨λh=>?_,λh=>?_⟩
  ·have hk:k<(sK L n).nc:=VI;have hq:stP (sK L n) day k=true-> ∀j,j<G5 (stP (sK L n) day) (k+1)->GG (G5 (stP (sK L n) day) k) (λz=>[i (UQ (stP (sK L n) day) (sK L n).nc z)]) (U4 1 [i k]) j=[i (UQ (stP (sK L n) day) (sK L n).nc j)]:=by
    intro hp j hj;rw [F8 hp] at hj;exact Pt.catF1 (a:=λz=>((UQ (stP (sK L n) day) (sK L n).nc z:Nat):Int)) hj (by show (k:Int)=((UQ (stP (sK L n) day) (sK L n).nc (G5 (stP (sK L n) day) k):Nat):Int);rw [BK hk hp])
   cases hc:stP (sK L n) day k
   ·have e1:=RE hc;have hc': ¬(stB (sK L n) ((sK L n).ca k) ((sK L n).cb k) ((sK L n).cc k) ((sK L n).cd k) ((sK L n).cv k) day=true):=λh=>Bool.noConfusion (hc.symm.trans h)
    exact VD
   ·have e1:=F8 hc;have hc': ¬(stB (sK L n) ((sK L n).ca k) ((sK L n).cb k) ((sK L n).cc k) ((sK L n).cd k) ((sK L n).cv k) day=false):=λh=>Bool.noConfusion (hc.symm.trans h)
    (with_reducible repeat' first|apply And.intro|intro _)
    all_goals first|exact P7|(first|exact absurd (by assumption) hc'|exact hq hc _ (by assumption)|exact FN (by assumption) (by simp [AV.one,Value.oneCell']))
  ·obtain rfl:k=(sK L n).nc:=VI;exact YY
theorem TV(VR:n<=100):UM VN 22 [lns n L,i day] (.branch (ckE n L != 0) (.leaf (.tup [.x (.slice none 0 0),i (ckE n L)])) (.branch (!bt 0 day 10000) (.leaf (.tup [.x (.slice none 0 0),i 2])) (.leaf (.tup [.lst 1 (G5 (stP (sK L n) day) (sK L n).nc) (λz=>[i (UQ (stP (sK L n) day) (sK L n).nc z)]),i 0])))):=by
 refine GQ (L:=[Xt9 n L day]) (VJ.cons (PR n L VI) (VJ.cons PQ (VJ.cons (ER (sK L n)) (VJ.nil _)))) (VV.ofC (VP.nil _) (VM.nil _) (U9.cons (xC n L) (U9.nil _))) VY Tryz.func22 (US Tryz.f22) (G0 (lpE (b:= .loop Jn4) VS<|(Zy0 n L day VR).N)) (t:=need [(KW n L)] (branch (ckE n L != 0) (leaf (tup [QA,iI (ckE n L)])) (branch (!bt (0:Int) day (10000:Int)) (leaf (tup [QA,iI 2])) (need [(KW n L),ckE n L=0] (need [VX (Q8 n L),day=day,QA=QA,QT,VX (ckE n L),VX (AV.ro (hL (sK L n))),VX (lst 1 n λj=>[iI (eK L j)]),WG,VX (hC ((sK L n).nc) (sK L n)),VX (↑((sK L n).nc):Int),(0:Int)=(↑(0:Nat):Int),0=G5 (stP (sK L n) day) 0,∀(i:Nat),i<G5 (stP (sK L n) day) 0->[]=[iI (↑(UQ (stP (sK L n) day) ((sK L n).nc) i):Int)]] (leaf (tup [lst 1 (G5 (stP (sK L n) day) ((sK L n).nc)) λz=>[iI (↑(UQ (stP (sK L n) day) ((sK L n).nc) z):Int)],iI 0]))))))) VS ?_
 intro Q hQ;simp only [VL.sat,UA,UG,VK,F9] at hQ ⊢;have b2:=(jE L n).nc;have rn: ∀z:Int,F5 (.tup [.x (.slice none 0 0),i z]) (.tup [.x (.slice none 0 0),i z]):=λz=>⟨rfl,⟨rfl,rfl⟩,True.intro⟩
 have rl:F5 (.tup [.lst 1 (G5 (stP (sK L n) day) (sK L n).nc) (λz=>[i (UQ (stP (sK L n) day) (sK L n).nc z)]),i 0]) (.tup [.lst 1 (G5 (stP (sK L n) day) (sK L n).nc) (λz=>[i (UQ (stP (sK L n) day) (sK L n).nc z)]),i 0]):=⟨⟨rfl,rfl,λ_ _=>rfl⟩,⟨rfl,rfl⟩,True.intro⟩
 refine ⟨λh=>⟨_,rn _,hQ.1 h⟩,λh=>?_⟩
 have h0:ckE n L=0:=by simpa using h
 have hQ2:=hQ.2 h;refine ⟨λh1=>⟨_,rn _,hQ2.1 h1⟩,λh1=>?_⟩
 have hQ3:=hQ2.2 h1
 (with_reducible repeat' first|apply And.intro|intro _)
 all_goals first|exact True.intro|exact h0|omega|rfl|(rename_i h;exact absurd h (Nat.not_lt_zero _))|exact ⟨_,rl,hQ3⟩
end
def dgI(n:Int):Int:=IntKind.u8.wrap (48+n.tmod 10)
def dg3(n:Int):ByteArray:=⟨#[UInt8.ofNat (dgI ((n.tdiv 10).tdiv 10)).toNat,UInt8.ofNat (dgI (n.tdiv 10)).toNat,UInt8.ofNat (dgI n).toNat]⟩
def dg5(n:Int):ByteArray:=⟨#[UInt8.ofNat (dgI ((((n.tdiv 10).tdiv 10).tdiv 10).tdiv 10)).toNat,UInt8.ofNat (dgI (((n.tdiv 10).tdiv 10).tdiv 10)).toNat,UInt8.ofNat (dgI ((n.tdiv 10).tdiv 10)).toNat,UInt8.ofNat (dgI (n.tdiv 10)).toNat,UInt8.ofNat (dgI n).toNat]⟩
def dgB(n m:Int):ByteArray:=if m=3 then dg3 n else dg5 n
abbrev u8(n:Int):AV:= .x (.int .u8 n)
def tpB(l c:Int):ByteArray:=(((⟨#[91]⟩++dgB l 3)++⟨#[58]⟩)++dgB c 5)++⟨#[93]⟩
def tpC(s:ByteArray)(ix:Int):Nat->Int
 | 0=>23*(ix+1)
 |k+1=>tpC s ix k+((k:Int)+2)*(byN s k+3)
def tpK(s:ByteArray)(ix:Int):Int:=(tpC s ix s.size).tmod 99971
def rcB(s:ByteArray)(ix:Int):ByteArray:=(tpB (s.size:Int) (tpK s ix)++s)++⟨#[10]⟩
def flB(L:Nat->ByteArray):Nat->ByteArray
 | 0=>ByteArray.empty
 |k+1=>flB L k++rcB (L k) (k:Int)
theorem Qc5(n:Int):0<=dgI n/\dgI n<256:=by
 have h:dgI n=(48+n.tmod 10)%256:=rfl;omega
theorem wG{x:Int}(h:0<=x/\x<=1000000000):(0<=x.tdiv 10/\x.tdiv 10<=1000000000)/\0<=x.tmod 10/\x.tmod 10<=9:=by
 rw [Int.tdiv_eq_ediv_of_nonneg h.1,Int.tmod_eq_emod_of_nonneg h.1];omega
theorem by1{x:Int}(h:0<=x/\x<256):byO [u8 x]<256/\[u8 x]=[.x (.int .u8 (byO [u8 x]:Int))]:=by
 have e2:byO [u8 x]=x.toNat:=rfl;rw [e2];refine ⟨VI,?_⟩;rw [show ((x.toNat:Nat):Int)=x by omega]
section
variable (n:Int)
def sP:St:={σ:=mkS 24 [(1,i 3),(5,.ro [u8 (dgI ((n.tdiv 10).tdiv 10)),u8 (dgI (n.tdiv 10)),u8 (dgI n),u8 0,u8 0])],m:=[],nx:=901}
abbrev W0:AV:=AV.x (.int IntKind.u8 (0:Int))
abbrev WT:AV:=AV.x (.int IntKind.u8 (IntKind.wrap IntKind.u8 ((48:Int)+Int.tmod n (10:Int))))
abbrev X8:AV:=AV.x (.int IntKind.u8 (IntKind.wrap IntKind.u8 ((48:Int)+Int.tmod (Int.tdiv n (10:Int)) (10:Int))))
abbrev YS:AV:=AV.x (.int IntKind.u8 (dgI (Int.tdiv (Int.tdiv n (10:Int)) (10:Int))))
abbrev XB:List AV:=[YS n,AV.x (.int IntKind.u8 (dgI (Int.tdiv n (10:Int)))),AV.x (.int IntKind.u8 (dgI n)),W0,W0]
abbrev Z7:AV:=AV.x (.int IntKind.u8 (IntKind.wrap IntKind.u8 ((48:Int)+Int.tmod (Int.tdiv (Int.tdiv n (10:Int)) (10:Int)) (10:Int))))
theorem iH(VR:0<=n/\n<=1000000000):VW VN 87 [i n,i 3] (.x (.string (dg3 n))):=by
 refine fH (L:=[(λs=>some (xS Tryz.prog [] [] (U8 (VQ (U6 Tryz.f87) 0)) 4 s))]) 3 [(.slot 5,0,0,1)] (sP n) (VJ.nil _) (VV.of (VP.nil _) (VM.nil _)) VY Tryz.func87 (US Tryz.f87) (G0 (lpE (b:= .loop (U8 (VQ (U6 Tryz.f87) 0))) VS<|(L6 (VJ.nil _) VY U2 _).N)) VS (t:=let z1:=(Int.tdiv (Int.tdiv n (10:Int)) (10:Int));let z0:=(need [(0:Int)<=3/\(3:Int)<=(↑(5:Nat):Int)] (need [uS (3:Int).toNat λi=>[Option.rec (top) (λval=>(λval=>(λx=>x) val) val) [u8 (dgI z1),u8 (dgI (Int.tdiv n (10:Int))),u8 (dgI n),u8 (0:Int),u8 (0:Int)][i]?]] (leaf (RV.x (.string (bsO (3:Int).toNat λi=>[Option.rec (top) (λval=>(λval=>(λx=>x) val) val) [u8 (dgI z1),u8 (dgI (Int.tdiv n (10:Int))),u8 (dgI n),u8 (0:Int),u8 (0:Int)][i]?]))))));(need [VK ((3:Int)-1)] (branch (decide ((3:Int)-1>=(0:Int))) (need [(10:Int)≠0] (need [VK ((48:Int)+Int.tmod n (10:Int))] (need [(0:Int)<=3-1/\(3:Int)-1<(↑(5:Nat):Int)] (need [(10:Int)≠0,VK (Int.tdiv n (10:Int))] (need [VK ((3:Int)-1-1)] (branch (decide ((3:Int)-1-1>=(0:Int))) (need [(10:Int)≠0] (need [VK ((48:Int)+Int.tmod (Int.tdiv n (10:Int)) (10:Int))] (need [(0:Int)<=3-1-1/\(3:Int)-1-1<(↑(5:Nat):Int)] (need [(10:Int)≠0,VK z1] (need [VK ((3:Int)-1-1-1)] (branch (decide ((3:Int)-1-1-1>=(0:Int))) (need [(10:Int)≠0] (need [VK ((48:Int)+Int.tmod z1 (10:Int))] (need [(0:Int)<=3-1-1-1/\(3:Int)-1-1-1<(↑(5:Nat):Int)] (need [(10:Int)≠0,VK (Int.tdiv z1 (10:Int))] (need [VK ((3:Int)-1-1-1-1)] (branch (decide ((3:Int)-1-1-1-1>=(0:Int))) (need [(10:Int)≠0] (need [VK ((48:Int)+Int.tmod (Int.tdiv z1 (10:Int)) (10:Int))] (need [(0:Int)<=3-1-1-1-1/\(3:Int)-1-1-1-1<(↑(5:Nat):Int)] (need [(10:Int)≠0,VK (Int.tdiv (Int.tdiv z1 (10:Int)) (10:Int))] (need [VK ((3:Int)-1-1-1-1-1)] VL.fail))))) (need [XE,AV.ro [Z7 n,X8 n,WT n,W0,W0]=AV.ro (XB n)] z0))))))) (need [XE,AV.ro [W0,X8 n,WT n,W0,W0]=AV.ro (XB n)] z0))))))) (need [XE,AV.ro [W0,W0,WT n,W0,W0]=AV.ro (XB n)] z0))))))) (need [XE,AV.ro [W0,W0,W0,W0,W0]=AV.ro (XB n)] z0)))) VS ?_
 have q1:=wG VR;have q2:=wG q1.1;have q3:=wG q2.1;have q4:=wG q3.1;have q5:=wG q4.1;have c1:decide ((3:Int)-1>=0)=true:=by decide
 have c2:decide ((3:Int)-1-1>=0)=true:=by decide
 have c3:decide ((3:Int)-1-1-1>=0)=true:=by decide
 have c4:decide ((3:Int)-1-1-1-1>=0)=false:=by decide
 simp only [VL.sat,UA,UZ,UC,UG,VK,c1,c2,c3,c4,true_imp_iff,eq_self,Bool.true_eq_false,Bool.false_eq_true,false_imp_iff]
 (with_reducible repeat' first|apply And.intro|intro _)
 all_goals first|exact True.intro|omega|rfl|(intro j hj;rcases (show j=0\/j=1\/j=2 by omega) with rfl|rfl|rfl<;>exact by1 (Qc5 _))|decide
def sO:St:={σ:=mkS 24 [(1,i 5),(5,.ro [u8 (dgI ((((n.tdiv 10).tdiv 10).tdiv 10).tdiv 10)),u8 (dgI (((n.tdiv 10).tdiv 10).tdiv 10)),u8 (dgI ((n.tdiv 10).tdiv 10)),u8 (dgI (n.tdiv 10)),u8 (dgI n)])],m:=[],nx:=901}
abbrev QK:List AV:=[AV.x (.int IntKind.u8 (dgI (Int.tdiv (Int.tdiv (Int.tdiv (Int.tdiv n (10:Int)) (10:Int)) (10:Int)) (10:Int)))),AV.x (.int IntKind.u8 (dgI (Int.tdiv (Int.tdiv (Int.tdiv n (10:Int)) (10:Int)) (10:Int)))),YS n,AV.x (.int IntKind.u8 (dgI (Int.tdiv n (10:Int)))),AV.x (.int IntKind.u8 (dgI n))]
abbrev J4:Prop:=(5:Int)=5
abbrev K6:AV:=AV.x (.int IntKind.u8 (IntKind.wrap IntKind.u8 ((48:Int)+Int.tmod (Int.tdiv (Int.tdiv (Int.tdiv n (10:Int)) (10:Int)) (10:Int)) (10:Int))))
theorem iG(VR:0<=n/\n<=1000000000):VW VN 87 [i n,i 5] (.x (.string (dg5 n))):=by
 refine fH (L:=[(λs=>some (xS Tryz.prog [] [] (U8 (VQ (U6 Tryz.f87) 0)) 6 s))]) 3 [(.slot 5,0,0,1)] (sO n) (VJ.nil _) (VV.of (VP.nil _) (VM.nil _)) VY Tryz.func87 (US Tryz.f87) (G0 (lpE (b:= .loop (U8 (VQ (U6 Tryz.f87) 0))) VS<|(L6 (VJ.nil _) VY U2 _).N)) VS (t:=let z2:=(Int.tdiv (Int.tdiv n (10:Int)) (10:Int));let z1:=(Int.tdiv z2 (10:Int));let z3:=(Int.tdiv z1 (10:Int));let z0:=(need [(0:Int)<=5/\(5:Int)<=(↑(5:Nat):Int)] (need [uS (5:Int).toNat λi=>[Option.rec (top) (λval=>(λval=>(λx=>x) val) val) [u8 (dgI z3),u8 (dgI z1),u8 (dgI z2),u8 (dgI (Int.tdiv n (10:Int))),u8 (dgI n)][i]?]] (leaf (RV.x (.string (bsO (5:Int).toNat λi=>[Option.rec (top) (λval=>(λval=>(λx=>x) val) val) [u8 (dgI z3),u8 (dgI z1),u8 (dgI z2),u8 (dgI (Int.tdiv n (10:Int))),u8 (dgI n)][i]?]))))));(need [VK ((5:Int)-1)] (branch (decide ((5:Int)-1>=(0:Int))) (need [(10:Int)≠0] (need [VK ((48:Int)+Int.tmod n (10:Int))] (need [(0:Int)<=5-1/\(5:Int)-1<(↑(5:Nat):Int)] (need [(10:Int)≠0,VK (Int.tdiv n (10:Int))] (need [VK ((5:Int)-1-1)] (branch (decide ((5:Int)-1-1>=(0:Int))) (need [(10:Int)≠0] (need [VK ((48:Int)+Int.tmod (Int.tdiv n (10:Int)) (10:Int))] (need [(0:Int)<=5-1-1/\(5:Int)-1-1<(↑(5:Nat):Int)] (need [(10:Int)≠0,VK z2] (need [VK ((5:Int)-1-1-1)] (branch (decide ((5:Int)-1-1-1>=(0:Int))) (need [(10:Int)≠0] (need [VK ((48:Int)+Int.tmod z2 (10:Int))] (need [(0:Int)<=5-1-1-1/\(5:Int)-1-1-1<(↑(5:Nat):Int)] (need [(10:Int)≠0,VK z1] (need [VK ((5:Int)-1-1-1-1)] (branch (decide ((5:Int)-1-1-1-1>=(0:Int))) (need [(10:Int)≠0] (need [VK ((48:Int)+Int.tmod z1 (10:Int))] (need [(0:Int)<=5-1-1-1-1/\(5:Int)-1-1-1-1<(↑(5:Nat):Int)] (need [(10:Int)≠0,VK z3] (need [VK ((5:Int)-1-1-1-1-1)] (branch (decide ((5:Int)-1-1-1-1-1>=(0:Int))) (need [(10:Int)≠0] (need [VK ((48:Int)+Int.tmod z3 (10:Int))] (need [(0:Int)<=5-1-1-1-1-1/\(5:Int)-1-1-1-1-1<(↑(5:Nat):Int)] (need [(10:Int)≠0,VK (Int.tdiv z3 (10:Int))] (need [VK ((5:Int)-1-1-1-1-1-1)] (branch (decide ((5:Int)-1-1-1-1-1-1>=(0:Int))) (need [(10:Int)≠0] (need [VK ((48:Int)+Int.tmod (Int.tdiv z3 (10:Int)) (10:Int))] (need [(0:Int)<=5-1-1-1-1-1-1/\(5:Int)-1-1-1-1-1-1<(↑(5:Nat):Int)] (need [(10:Int)≠0,VK (Int.tdiv (Int.tdiv z3 (10:Int)) (10:Int))] (need [VK ((5:Int)-1-1-1-1-1-1-1)] VL.fail))))) (need [J4,AV.ro [AV.x (.int IntKind.u8 (IntKind.wrap IntKind.u8 ((48:Int)+Int.tmod z3 (10:Int)))),K6 n,Z7 n,X8 n,WT n]=AV.ro (QK n)] z0))))))) (need [J4,AV.ro [W0,K6 n,Z7 n,X8 n,WT n]=AV.ro (QK n)] z0))))))) (need [J4,AV.ro [W0,W0,Z7 n,X8 n,WT n]=AV.ro (QK n)] z0))))))) (need [J4,AV.ro [W0,W0,W0,X8 n,WT n]=AV.ro (QK n)] z0))))))) (need [J4,AV.ro [W0,W0,W0,W0,WT n]=AV.ro (QK n)] z0))))))) (need [J4,AV.ro [W0,W0,W0,W0,W0]=AV.ro (QK n)] z0)))) VS ?_
 have q1:=wG VR;have q2:=wG q1.1;have q3:=wG q2.1;have q4:=wG q3.1;have q5:=wG q4.1;have c1:decide ((5:Int)-1>=0)=true:=by decide
 have c2:decide ((5:Int)-1-1>=0)=true:=by decide
 have c3:decide ((5:Int)-1-1-1>=0)=true:=by decide
 have c4:decide ((5:Int)-1-1-1-1>=0)=true:=by decide
 have c5:decide ((5:Int)-1-1-1-1-1>=0)=true:=by decide
 have c6:decide ((5:Int)-1-1-1-1-1-1>=0)=false:=by decide
 simp only [VL.sat,UA,UZ,UC,UG,VK,c1,c2,c3,c4,c5,c6,true_imp_iff,eq_self,Bool.true_eq_false,Bool.false_eq_true,false_imp_iff]
 (with_reducible repeat' first|apply And.intro|intro _)
 all_goals first|exact True.intro|omega|rfl|(intro j hj;rcases (show j=0\/j=1\/j=2\/j=3\/j=4 by omega) with rfl|rfl|rfl|rfl|rfl<;>exact by1 (Qc5 _))|decide
end
def S3:UV
 |[.x (.int .i64 n),.x (.int .i64 m)]=>some ([0<=n/\n<=1000000000,m=3\/m=5],.x (.string (dgB n m)))
 |_=>none
theorem pD:VO VN 87 S3:=by
 refine ⟨(UF Tryz.func87),?_⟩;intro avs ns res h hn;unfold S3 at h;split at h
 ·rename_i n m;cases h;have h1:0<=n/\n<=1000000000:=hn _ VU;have h2:m=3\/m=5:=hn _ VU;rcases h2 with rfl|rfl
  ·exact iH n h1
  ·exact iG n h1
 ·cases h
theorem gI(n m:Int)(h:m=3\/m=5):((dgB n m).size:Int)=m:=by
 rcases h with rfl|rfl
 ·rfl
 ·rfl
theorem bO(l c:Int):(tpB l c).size=11:=by
 have h1:=gI l 3 (.inl rfl);have h2:=gI c 5 (.inr rfl);unfold tpB;simp only [ByteArray.size_append];have e1:(⟨#[91]⟩:ByteArray).size=1:=rfl;have e2:(⟨#[58]⟩:ByteArray).size=1:=rfl;have e3:(⟨#[93]⟩:ByteArray).size=1:=rfl;omega
def Qf0:UV
 |[.agg [.x (.int .i64 l),.x (.int .i64 c)]]=>some ([0<=l/\l<=1000000000,0<=c/\c<=1000000000],.x (.string (tpB l c)))
 |_=>none
theorem Wk5(l c:Int)(VR:0<=l/\l<=1000000000)(UE:0<=c/\c<=1000000000):VW VN 59 [.agg [i l,i c]] (.x (.string (tpB l c))):=by
 refine GA (L:=[]) (VJ.cons pD (VJ.nil _)) (VV.of (VP.nil _) (VM.nil _)) VY Tryz.func59 (US Tryz.f59) G4 (t:=need [(0:Int)<=l/\l<=1000000000,(3:Int)=3\/(3:Int)=5] (need [(↑(ByteArray.size {data:=#[91] }+ByteArray.size (dgB l (3:Int))):Int)<=9223372036854775807] (need [(↑(ByteArray.size ({data:=#[91] }++dgB l (3:Int))+ByteArray.size {data:=#[58] }):Int)<=9223372036854775807] (need [(0:Int)<=c/\c<=1000000000,(5:Int)=3\/(5:Int)=5] (need [(↑(ByteArray.size ({data:=#[91] }++dgB l (3:Int)++{data:=#[58] })+ByteArray.size (dgB c (5:Int))):Int)<=9223372036854775807] (need [(↑(ByteArray.size ({data:=#[91] }++dgB l (3:Int)++{data:=#[58] }++dgB c (5:Int))+ByteArray.size {data:=#[93] }):Int)<=9223372036854775807] (leaf (RV.x (.string ({data:=#[91] }++dgB l (3:Int)++{data:=#[58] }++dgB c (5:Int)++{data:=#[93] })))))))))) VS ?_;have h1:=gI l 3 (.inl rfl);have h2:=gI c 5 (.inr rfl);have e1:(⟨#[91]⟩:ByteArray).size=1:=rfl;have e2:(⟨#[58]⟩:ByteArray).size=1:=rfl;have e3:(⟨#[93]⟩:ByteArray).size=1:=rfl;simp only [VL.sat,UA,UZ,UC,UG,ByteArray.size_append,e1,e2,e3]
 (with_reducible repeat' first|apply And.intro|intro _)
 all_goals first|exact True.intro|omega|rfl|exact VR|exact UE|decide
theorem eW:VO VN 59 Qf0:=by
 refine ⟨(UF Tryz.func59),?_⟩;intro avs ns res h hn;unfold Qf0 at h;split at h
 ·cases h;exact Wk5 _ _ (hn _ VU) (hn _ VU)
 ·cases h
theorem Qd1(s:ByteArray)(k:Nat):0<=byN s k/\byN s k<=255:=by
 unfold byN;have:=(s.data.getD k 0).toNat_lt;omega
theorem Xi8(A B:ByteArray)(j:Nat):byN (A++B) j=if j<A.size then byN A j else byN B (j-A.size):=by
 unfold byN;have e:(A++B).data=A.data++B.data:=ByteArray.data_append;rw [e,LY,Array.getElem?_append];have hs:A.data.size=A.size:=rfl;rw [hs];split
 ·rw [LY]
 ·rw [LY]
theorem Xi7(A B:ByteArray)(j:Nat):GG A.size (DK A) (DK B) j=DK (A++B) j:=by
 show H6 (decide (j<A.size)) (DK A j) (DK B (j-A.size))=_;unfold DK;rw [Xi8];by_cases h:j<A.size
 ·rw [decide_eq_true h,if_pos h];rfl
 ·rw [decide_eq_false h,if_neg h];rfl
theorem Qx5(s:ByteArray)(k:Nat)(h:k<1000):0<=((k:Int)+2)*(byN s k+3)/\((k:Int)+2)*(byN s k+3)<=258516:=by
 have hb:=Qd1 s k;refine ⟨Int.mul_nonneg VI VI,?_⟩;have h1:((k:Int)+2)*(byN s k+3)<=((k:Int)+2)*258:=Int.mul_le_mul_of_nonneg_left VI VI;omega
theorem rT(s:ByteArray)(ix:Int)(hi:0<=ix/\ix<=100000): ∀k:Nat,k<=1000->0<=tpC s ix k/\tpC s ix k<=2400000+(k:Int)*258516
 | 0,_=>by
  show 0<=23*(ix+1)/\23*(ix+1)<=_;omega
 |k+1,hk=>by
  have ih:=rT s ix hi k VI;have hm:=Qx5 s k VI;have e:tpC s ix (k+1)=tpC s ix k+((k:Int)+2)*(byN s k+3):=rfl;rw [e];generalize ((k:Int)+2)*(byN s k+3)=z at hm;omega
section
variable (s:ByteArray)
theorem cL(ix:Int):(rcB s ix).size=12+s.size:=by
 unfold rcB;rw [ByteArray.size_append,ByteArray.size_append,bO];have e1:(⟨#[10]⟩:ByteArray).size=1:=rfl;omega
theorem iW(L:Nat->ByteArray): ∀n,(∀k,k<n->(L k).size<=200)->(flB L n).size<=n*212
 | 0,_=>Nat.le_refl 0
 |n+1,h=>by
  have ih:=iW L n λk hk=>h k VI
  show (flB L n++rcB (L n) n).size<=_;rw [ByteArray.size_append,cL];have:=h n VI;omega
abbrev Z3:AV:=lst 1 (ByteArray.size s) λj=>[AV.x (.int IntKind.u8 (byN s j))]
abbrev YD:AV:=FM s
def Zo3(ix:Int):St:={σ:=[YD s,iI ix,top,top,ptr 0 0]++HG 7 [Z3 s,iI (↑(ByteArray.size s):Int)]++HG 19 [],m:=[(0,GM.cells 144 JP)],nx:=9}
noncomputable def Jn1:Code:=U8 (VQ (U6 Tryz.f58) 0)
def Wf9(ix:Int)(k:Nat):St:=(upM [(5,i (tpC s ix k)),(6,.top),(7,.top),(14,i k)] (Zo3 s ix))
def CA(ix:Int)(k:Nat):G6->Option St
 | .exit 0=>some (upM [(5,i (tpC s ix s.size)),(6,.top),(7,.top),(14,i s.size)] (Zo3 s ix))
 |_=>none
def Ji2(ix:Int):CT:= .leaf (.exit 0,(CA s ix 0 (.exit 0)).getD (Zo3 s ix))
def Xt5(ix:Int):UH:=(HF (Wf9 s ix (0)) (Ji2 s ix))
theorem Zv8(ix:Int)(VR:s.size<=1000)(UE:0<=ix/\ix<=100000):G7 VN (.loop Jn1) (Xt5 s ix):=by
 refine HE (L:=[]) (VJ.nil _) VY U2 (X:=Nat) (Wf9 s ix) (λk=>k<=s.size) (λk=>s.size-k) (CA s ix) (x0:=0) VU ?_ ?_ ?_
 ·rintro k;kernel_rfl
 ·rintro k y E h;unfold CA at h;split at h
  ·cases h;kernel_rfl
  ·cases h
 ·rintro Q hQ k hx;refine ⟨(k+1),?_⟩;(with_reducible refine DF (t:=branch (decide ((k:Int)<(↑(ByteArray.size s):Int))) (need [UI k (ByteArray.size s)] (need [VK ((k:Int)+2)] (need [VK (byN s k)] (need [VK (byN s k+3)] (need [VK (((k:Int)+2)*(byN s k+3))] (need [VK (tpC s ix k+((k:Int)+2)*(byN s k+3))] (need [VK ((k:Int)+1)] (need [YD s=YD s,ix=ix,QO,tpC s ix k+((k:Int)+2)*(byN s k+3)=tpC s ix (k+1),Z3 s=Z3 s,VX (↑(ByteArray.size s):Int),(k:Int)+1=(↑(k+1):Int),QT,QT] (leaf G6.normal))))))))) (need [YD s=YD s,ix=ix,QO,tpC s ix k=tpC s ix (ByteArray.size s),Z3 s=Z3 s,VX (↑(ByteArray.size s):Int),(k:Int)=(↑(ByteArray.size s):Int),QT,QT] (leaf (G6.exit 0)))) VS ?_);simp only [Ji2,CA,VL.sat,GS] at hQ;simp only [VL.sat,UA,UZ,GI,UC,VK,UG,H9,R0,RF,L1,GL,CA]
  have h1:=rT s ix UE k VI;refine ⟨λh=>?_,λh=>?_⟩
  ·have hk:k<s.size:=VI;have h2:=Qx5 s k VI;have h3:=Qd1 s k;have e0:tpC s ix (k+1)=tpC s ix k+((k:Int)+2)*(byN s k+3):=rfl;generalize ((k:Int)+2)*(byN s k+3)=z at h2 e0 ⊢;exact YY
  ·obtain rfl:k=s.size:=VI;exact YY
end
def S0:UV
 |[.x (.string s),.x (.int .i64 ix)]=>some ([s.size<=1000,0<=ix/\ix<=100000],.agg [i s.size,i (tpK s ix)])
 |_=>none
theorem oV(s:ByteArray)(ix:Int)(VR:s.size<=1000)(UE:0<=ix/\ix<=100000):VW VN 58 [.x (.string s),i ix] (.agg [i s.size,i (tpK s ix)]):=by
 refine GA (L:=[Xt5 s ix]) (VJ.nil _) (VV.of (VP.nil _) (VM.nil _)) VY Tryz.func58 (US Tryz.f58) (G0 (lpE (b:= .loop Jn1) VS<|(Zv8 s ix VR UE).N)) (t:=need [VK (ix+1)] (need [VK ((23:Int)*(ix+1))] (need [ByteArray.size s<=4294967296] (need [YD s=YD s,ix=ix,QO,(23:Int)*(ix+1)=tpC s ix 0,Z3 s=Z3 s,VX (↑(ByteArray.size s):Int),(0:Int)=(↑(0:Nat):Int),QT,QT] (need [(99971:Int)≠0] (leaf (RV.agg [RV.x (.int .i64 (↑(ByteArray.size s):Int)),RV.x (.int .i64 (Int.tmod (tpC s ix (ByteArray.size s)) (99971:Int)))]))))))) VS ?_
 have h1:=rT s ix UE s.size VR;simp only [VL.sat,UA,UZ,GI,UC,UG,VK];all_goals exact V5
theorem EP:VO VN 58 S0:=by
 refine ⟨(UF Tryz.func58),?_⟩;intro avs ns res h hn;unfold S0 at h;split at h
 ·cases h;exact oV _ _ (hn _ VU) (hn _ VU)
 ·cases h
section
variable (n:Nat)(L:Nat->ByteArray)
def Zp9:St:={σ:=[Q8 n L,top,QA,top,top,top,Q8 n L,iI (n:Int)]++HG 16 [],m:=[(901,GM.row 5 1 0 λx=>[])],nx:=902}
noncomputable def Jo9:Code:=U8 (VQ (U6 Tryz.f31) 0)
def Wi0(k:Nat):St:={σ:=H3 [(3,.row 901),(4,.top),(5,.top),(8,i k)] (Zp9 n L).σ,m:=[(901,.row 5 1 (flB L k).size (DK (flB L k)))],nx:=902}
def CP(k:Nat):G6->Option St
 | .exit 0=>some {σ:=H3 [(3,.row 901),(4,.top),(5,.top),(8,i n)] (Zp9 n L).σ,m:=[(901,.row 5 1 (flB L n).size (DK (flB L n)))],nx:=902}
 |_=>none
def Jk5:CT:= .leaf (.exit 0,(CP n L 0 (.exit 0)).getD (Zp9 n L))
def Xw0:UH:=GJ [(.slot 3,901,5,1)] (HF (Wi0 n L (0)) (Jk5 n L))
theorem Je8(VR:n<=50)(UE: ∀k,k<n->(L k).size<=200):G7 VN (.loop Jo9) (Xw0 n L):=by
 refine UX [(.slot 3,901,5,1)] (L:=[]) (VJ.cons EP (VJ.cons eW (VJ.nil _))) (VV.of (VP.nil _) (VM.nil _)) VY U2 (X:=Nat) (Wi0 n L) (λk=>k<=n) (λk=>n-k) (CP n L) (x0:=0) VU ?_ ?_ ?_
 ·rintro k;kernel_rfl
 ·rintro k y E h;unfold CP at h;split at h
  ·cases h;kernel_rfl
  ·cases h
 ·rintro Q hQ k hx;refine ⟨(k+1),?_⟩;(with_reducible refine DF (t:=branch (decide ((k:Int)<(n:Int))) (need [UI k n] (need [ByteArray.size (L k)<=1000,(0:Int)<=(k:Int)/\(k:Int)<=100000] (need [(0:Int)<=(↑(ByteArray.size (L k)):Int)/\(↑(ByteArray.size (L k)):Int)<=1000000000,(0:Int)<=tpK (L k) (k:Int)/\tpK (L k) (k:Int)<=1000000000] (need [(↑(ByteArray.size (tpB (↑(ByteArray.size (L k)):Int) (tpK (L k) (k:Int)))+ByteArray.size (L k)):Int)<=9223372036854775807] (need [(↑(ByteArray.size (tpB (↑(ByteArray.size (L k)):Int) (tpK (L k) (k:Int))++L k)+ByteArray.size {data:=#[10] }):Int)<=9223372036854775807] (need [ByteArray.size (flB L k)+ByteArray.size (tpB (↑(ByteArray.size (L k)):Int) (tpK (L k) (k:Int))++L k++{data:=#[10] })<=140737488355328] (need [VK ((k:Int)+1)] (need [VX (Q8 n L),QA=QA,WG,VX (Q8 n L),VX (n:Int),(k:Int)+1=(↑(k+1):Int),ByteArray.size (flB L k)+ByteArray.size (tpB (↑(ByteArray.size (L k)):Int) (tpK (L k) (k:Int))++L k++{data:=#[10] })=ByteArray.size (flB L (k+1)),∀(i:Nat),i<ByteArray.size (flB L (k+1))->GG (ByteArray.size (flB L k)) (DK (flB L k)) (DK (tpB (↑(ByteArray.size (L k)):Int) (tpK (L k) (k:Int))++L k++{data:=#[10] })) i=DK (flB L (k+1)) i] (leaf G6.normal))))))))) (need [VX (Q8 n L),QA=QA,WG,VX (Q8 n L),VX (n:Int),(k:Int)=(n:Int),ByteArray.size (flB L k)=ByteArray.size (flB L n),∀(i:Nat),i<ByteArray.size (flB L n)->DK (flB L k) i=DK (flB L n) i] (leaf (G6.exit 0)))) VS ?_);simp only [Jk5,CP,VL.sat,GS] at hQ;simp only [VL.sat,UA,UZ,GI,UC,VK,UG,H9,R0,RF,L1,GL,CP]
  have h1:=iW L k λj hj=>UE j VI
  refine ⟨λh=>?_,λh=>?_⟩
  ·have hk:k<n:=VI;have h2:=UE k hk;have h3:=rT (L k) k VI (L k).size VI;have h4:tpK (L k) k=(tpC (L k) k (L k).size)%99971:=Int.tmod_eq_emod_of_nonneg h3.1;have h5:0<=tpK (L k) k/\tpK (L k) k<99971:=VI;have h6:=cL (L k) k;have h7:=bO ((L k).size:Int) (tpK (L k) k);have e0:(flB L (k+1)).size=(flB L k).size+(rcB (L k) k).size:=ByteArray.size_append;have e1:(⟨#[10]⟩:ByteArray).size=1:=rfl;have e2:(tpB ((L k).size:Int) (tpK (L k) k)++L k).size=11+(L k).size:=by rw [ByteArray.size_append,h7]
   have e3:(tpB ((L k).size:Int) (tpK (L k) k)++L k++⟨#[10]⟩).size=12+(L k).size:=h6;have hq: ∀j,GG (flB L k).size (DK (flB L k)) (DK (tpB ((L k).size:Int) (tpK (L k) k)++L k++⟨#[10]⟩)) j=DK (flB L (k+1)) j:=λj=>Xi7 _ (rcB (L k) k) j
   (with_reducible repeat' first|apply And.intro|intro _)
   all_goals first|exact P7|(first|exact hq _|(rw [e2,e1];omega)|(rw [e3];omega)|(rw [h7];omega))
  ·obtain rfl:k=n:=VI;exact YY
theorem Wl9(VR:n<=50)(UE: ∀k,k<n->(L k).size<=200):VW VN 31 [lns n L] (.lst 1 (flB L n).size (DK (flB L n))):=by
 refine GA (L:=[Xw0 n L]) (VJ.cons EP (VJ.cons eW (VJ.nil _))) (VV.of (VP.nil _) (VM.nil _)) VY Tryz.func31 (US Tryz.f31) (G0 (lpE (b:= .loop Jo9) VS<|(Je8 n L VR UE).N)) (t:=need [VX (Q8 n L),QA=QA,WG,VX (Q8 n L),VX (n:Int),(0:Int)=(↑(0:Nat):Int),0=ByteArray.size (flB L 0),∀(i:Nat),i<ByteArray.size (flB L 0)->[]=DK (flB L 0) i] (leaf (RV.lst 1 (ByteArray.size (flB L n)) λj=>[AV.x (.int IntKind.u8 (byN (flB L n) j))]))) VS ?_
 simp only [VL.sat,UA,UZ,GI,UC,UG,VK];have hx: ∀k,∀a∈DK (flB L n) k,isX a:=λk a ha=>by rw [qM.1 ha];exact True.intro
 (with_reducible repeat' first|apply And.intro|intro _)
 all_goals first|exact True.intro|omega|rfl|(rename_i h;exact absurd h (Nat.not_lt_zero _))|exact hx _ _ (by assumption)|decide
def Ww8:UV:=λl=>some ([l=[lns n L],ckE n L=0],.lst 1 (flB L n).size (DK (flB L n)))
theorem Qo2:VO VN 31 (Ww8 n L):=by
 refine ⟨(UF Tryz.func31),?_⟩;intro avs ns res h hn;cases h;have e:avs=[lns n L]:=hn _ VU;have h0:ckE n L=0:=hn _ VU;subst e;have hk:=r8 h0;exact Wl9 n L hk.1 hk.2
theorem Qp0(VR:n<=100):UM VN 13 [lns n L] (.branch (ckE n L != 0) (.leaf (.tup [.x (.slice none 0 0),i (ckE n L)])) (.leaf (.tup [.lst 1 (flB L n).size (DK (flB L n)),i 0]))):=by
 refine GQ (L:=[]) (VJ.cons (PR n L VI) (VJ.cons (Qo2 n L) (VJ.nil _))) (VV.of (VP.nil _) (VM.nil _)) VY Tryz.func13 (US Tryz.f13) G4 (t:=need [(KW n L)] (branch (ckE n L != 0) (leaf (tup [QA,iI (ckE n L)])) (need [(KW n L),ckE n L=0] (leaf (tup [lst 1 (ByteArray.size (flB L n)) λj=>[AV.x (.int IntKind.u8 (byN (flB L n) j))],iI 0]))))) VS ?_
 intro Q hQ;simp only [VL.sat,UA,UG,VK,F9] at hQ ⊢;refine ⟨λh=>⟨.tup [.x (.slice none 0 0),i (ckE n L)],⟨rfl,⟨rfl,rfl⟩,True.intro⟩,hQ.1 h⟩,λh=>?_⟩
 have h0:ckE n L=0:=by simpa using h
 (with_reducible repeat' first|apply And.intro|intro _)
 all_goals first|exact True.intro|exact h0|rfl|(exact ⟨.tup [.lst 1 (flB L n).size (DK (flB L n)),i 0],⟨⟨rfl,rfl,λ_ _=>rfl⟩,⟨rfl,rfl⟩,True.intro⟩,hQ.2 h⟩)
end
end Go.Proofs.YtlclobclmfhlmaaGreatDoor.Hd
