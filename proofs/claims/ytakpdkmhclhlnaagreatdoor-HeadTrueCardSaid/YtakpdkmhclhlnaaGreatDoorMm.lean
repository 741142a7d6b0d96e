/- Contracts, put together. Conditions: those of each. -/
import Derived.Test.YtakpdkmhclhlnaaGreatDoorMl
import Derived.Tactics
import Derived.Tactics2
import Derived.Defers
import Derived.Recover
import Derived.Laws.Pointers
import Derived.WideLaws
import Derived.RegionTactic
import Derived.Stop.Walk2
set_option linter.unusedSimpArgs false
set_option linter.unusedVariables false
set_option maxRecDepth 100000
namespace Go.Proofs.YtakpdkmhclhlnaaGreatDoor.Hd
open Go Go.RowKit
section
variable (w:World)
theorem IY(o:Obj)(y:Nat)(hy:y<w.heap.size):(w.alloc o).drew.heap[y]? =w.heap[y]? :=Go.RowKit.Below.heap_alloc w o y hy
theorem Qm6(o:Obj):(w.alloc o).output=w.output:=rfl
theorem Wd0:w.drew.output=w.output:=rfl
theorem Xe8(a:Addr)(v:Value):(w.setCell a v).output=w.output:=rfl
theorem Zm8:(binOp .eql 20 .nilIface .nilIface).run Tryz.prog w= .ok (.bool true) w:=run_eql_nil_nil w 20 (by kernel_rfl)
end
theorem Xj5(k:Int)(w:World):(binOp .eql 20 (.iface 211 (.agg #[.int .i64 k])) .nilIface).run Tryz.prog w= .ok (.bool false) w:=run_eql_held_nil w 20 211 _ (by kernel_rfl)
theorem sM(v:Value)(w:World):(Instr.typeAssert (.iface 211 v) 20 211 true).run Tryz.prog w= .ok (.tuple #[v,.bool true]) w:=by kernel_rfl
set_option maxHeartbeats 2000000 in
theorem Qm9(p5 p2 W:Addr)(w:World):
  CallsD Tryz.prog 105 #[.pointer (some p5),.pointer (some p2),.pointer (some W)] .returning w λe u' w'=>e= .returned (.tuple #[])/\u'= .returning/\w'=w:=by
 refine callsD_of_wpS Tryz.func105 rfl λc₀ cs hu=>?_;apply wpS_seq;apply wpS_region;simp [wpOpsS,go_sem,recoverD,hu,Tryz.ntmps105,Exit.thenS];rw [show (#[.pointer (some p5),.pointer (some p2),.pointer (some W)]++(Array.replicate 15 undef).setIfInBounds 3 (.nilIface):Array Value)=#[.pointer (some p5),.pointer (some p2),.pointer (some W),undef,undef,undef,.nilIface,undef,undef,undef,undef,undef,undef,undef,undef,undef,undef,undef] from rfl];refine wpS_of_wp ?_;have q1:=Zm8
 go_wp2
 all_goals (cases c₀;simp_all [bodyPostS,results,Tryz.results105])
set_option maxHeartbeats 2000000 in
theorem oP(b p2 W p5:Nat)(k x:Int)(S a3 a4 a5:Option Addr)(I A l3 Z l4 q4 l5 q5:Nat)(i1 i2:Int)(c0 c1 c2 c3 c4 c5:Value)(older:List PanicEntry)(w:World)(h2:w.heap[p2]? =some (.cells #[.pointer (some ⟨b,0,none⟩)] 95 (0,0)))(h5:w.heap[p5]? =some (.cells #[.slice S I A,.int .i64 i1,.int .i64 i2,.slice a3 l3 Z,.slice a4 l4 q4,.slice a5 l5 q5] 43 (0,0)))(h4:w.heap[W]? =some (.cells #[.int .i64 x] 23 (0,0)))(hb:w.heap[b]? =some (.cells #[c0,c1,c2,c3,c4,c5] 99 (0,0)))(h4b:W≠b):
  CallsD Tryz.prog 105 #[.pointer (some ⟨p5,0,none⟩),.pointer (some ⟨p2,0,none⟩),.pointer (some ⟨W,0,none⟩)] (.panicking ({v:= .iface 211 (.agg #[.int .i64 k]),recovered:=false}::older)) w λe u' w'=>e= .returned (.tuple #[])/\u'= .panicking ({v:= .iface 211 (.agg #[.int .i64 k]),recovered:=true}::older)/\w.heap.size<=w'.heap.size/\w'.heap[b]? =some (.cells #[.slice S I A,.int .i64 i1,.int .i64 i2,.slice a3 l3 Z,.slice a4 l4 q4,.slice a5 l5 q5] 99 (0,0))/\w'.heap[W]? =some (.cells #[.int .i64 k] 23 (0,0))/\(w'.os=w.os/\w'.tape=w.tape/\w'.output=w.output)/\ ∀y,y<w.heap.size->y≠b->y≠W->w'.heap[y]? =w.heap[y]? :=by
 refine callsD_of_wpS Tryz.func105 rfl λc₀ cs hu=>?_;apply wpS_seq;apply wpS_region;simp [wpOpsS,go_sem,recoverD,hu,Tryz.ntmps105,Exit.thenS];rw [show (#[.pointer (some ⟨p5,0,none⟩),.pointer (some ⟨p2,0,none⟩),.pointer (some ⟨W,0,none⟩)]++(Array.replicate 15 undef).setIfInBounds 3 (.iface 211 (.agg #[.int .i64 k])):Array Value)=#[.pointer (some ⟨p5,0,none⟩),.pointer (some ⟨p2,0,none⟩),.pointer (some ⟨W,0,none⟩),undef,undef,undef,.iface 211 (.agg #[.int .i64 k]),undef,undef,undef,undef,undef,undef,undef,undef,undef,undef,undef] from rfl];refine wpS_of_wp ?_;have q1:=Xj5 k;have q2:=sM;have lt: ∀{y o},w.heap[y]? =some o->y<w.heap.size:=λh=>(Array.getElem?_eq_some_iff.1 h).1;have hW: ∀y,y<w.heap.size->(w.alloc (Obj.cells #[Value.int IntKind.i64 k] 211)).drew.heap[y]? =w.heap[y]? :=λy hy=>IY w _ y hy;have hN:(w.alloc (Obj.cells #[Value.int IntKind.i64 k] 211)).drew.heap[w.heap.size]? =some (.cells #[.int .i64 k] 211 (0,0)):=World.alloc_heap_new w _;have k2:=(hW _ (lt h2)).trans h2;have k4:=(hW _ (lt h4)).trans h4;have k5:=(hW _ (lt h5)).trans h5;have kb:=(hW _ (lt hb)).trans hb;have nb: ¬w.heap.size=b:=λh=>by have:=lt hb;omega
 have nb': ¬b=w.heap.size:=λh=>by have:=lt hb;omega
 have n4: ¬w.heap.size=W:=λh=>by have:=lt h4;omega
 have nbp: ¬b=W:=λh=>h4b h.symm;have cN:(w.alloc (Obj.cells #[Value.int IntKind.i64 k] 211)).drew.cell? ⟨w.heap.size,0,none⟩=some (.int .i64 k):=by simp only [World.cell?,hN];rfl
 have c_p2_0:w.cell? ⟨p2,0,none⟩=some (.pointer (some ⟨b,0,none⟩)):=by simp only [World.cell?,h2];rfl
 have c_p4_0:w.cell? ⟨W,0,none⟩=some (.int .i64 x):=by simp only [World.cell?,h4];rfl
 have f_p4_0:w.frozen? ⟨W,0,none⟩=false:=by simp only [World.frozen?,h4];rfl
 have c_p5_0:w.cell? ⟨p5,0,none⟩=some (.slice S I A):=by simp only [World.cell?,h5];rfl
 have c_p5_1:w.cell? ⟨p5,1,none⟩=some (.int .i64 i1):=by simp only [World.cell?,h5];rfl
 have c_p5_2:w.cell? ⟨p5,2,none⟩=some (.int .i64 i2):=by simp only [World.cell?,h5];rfl
 have c_p5_3:w.cell? ⟨p5,3,none⟩=some (.slice a3 l3 Z):=by simp only [World.cell?,h5];rfl
 have c_p5_4:w.cell? ⟨p5,4,none⟩=some (.slice a4 l4 q4):=by simp only [World.cell?,h5];rfl
 have c_p5_5:w.cell? ⟨p5,5,none⟩=some (.slice a5 l5 q5):=by simp only [World.cell?,h5];rfl
 have c_b_0:w.cell? ⟨b,0,none⟩=some (c0):=by simp only [World.cell?,hb];rfl
 have f_b_0:w.frozen? ⟨b,0,none⟩=false:=by simp only [World.frozen?,hb];rfl
 have c_b_1:w.cell? ⟨b,1,none⟩=some (c1):=by simp only [World.cell?,hb];rfl
 have f_b_1:w.frozen? ⟨b,1,none⟩=false:=by simp only [World.frozen?,hb];rfl
 have c_b_2:w.cell? ⟨b,2,none⟩=some (c2):=by simp only [World.cell?,hb];rfl
 have f_b_2:w.frozen? ⟨b,2,none⟩=false:=by simp only [World.frozen?,hb];rfl
 have c_b_3:w.cell? ⟨b,3,none⟩=some (c3):=by simp only [World.cell?,hb];rfl
 have f_b_3:w.frozen? ⟨b,3,none⟩=false:=by simp only [World.frozen?,hb];rfl
 have c_b_4:w.cell? ⟨b,4,none⟩=some (c4):=by simp only [World.cell?,hb];rfl
 have f_b_4:w.frozen? ⟨b,4,none⟩=false:=by simp only [World.frozen?,hb];rfl
 have c_b_5:w.cell? ⟨b,5,none⟩=some (c5):=by simp only [World.cell?,hb];rfl
 have f_b_5:w.frozen? ⟨b,5,none⟩=false:=by simp only [World.frozen?,hb];rfl
 clear hW hN k2 k4 k5 kb cN
 go_wp2
 go_region
 all_goals go_wp2;have e0:(w.setCell ⟨b,0,none⟩ (.slice S I A)).heap[b]? =some (.cells #[.slice S I A,c1,c2,c3,c4,c5] 99 (0,0)):=(heap_setCell_same w b 0 _ _ (.slice S I A) hb).trans rfl;have e1:((w.setCell ⟨b,0,none⟩ (.slice S I A)).setCell ⟨b,1,none⟩ (.int .i64 i1)).heap[b]? =some (.cells #[.slice S I A,.int .i64 i1,c2,c3,c4,c5] 99 (0,0)):=(heap_setCell_same (w.setCell ⟨b,0,none⟩ (.slice S I A)) b 1 _ _ (.int .i64 i1) e0).trans rfl;have e2:(((w.setCell ⟨b,0,none⟩ (.slice S I A)).setCell ⟨b,1,none⟩ (.int .i64 i1)).setCell ⟨b,2,none⟩ (.int .i64 i2)).heap[b]? =some (.cells #[.slice S I A,.int .i64 i1,.int .i64 i2,c3,c4,c5] 99 (0,0)):=(heap_setCell_same ((w.setCell ⟨b,0,none⟩ (.slice S I A)).setCell ⟨b,1,none⟩ (.int .i64 i1)) b 2 _ _ (.int .i64 i2) e1).trans rfl;have e3:((((w.setCell ⟨b,0,none⟩ (.slice S I A)).setCell ⟨b,1,none⟩ (.int .i64 i1)).setCell ⟨b,2,none⟩ (.int .i64 i2)).setCell ⟨b,3,none⟩ (.slice a3 l3 Z)).heap[b]? =some (.cells #[.slice S I A,.int .i64 i1,.int .i64 i2,.slice a3 l3 Z,c4,c5] 99 (0,0)):=(heap_setCell_same (((w.setCell ⟨b,0,none⟩ (.slice S I A)).setCell ⟨b,1,none⟩ (.int .i64 i1)).setCell ⟨b,2,none⟩ (.int .i64 i2)) b 3 _ _ (.slice a3 l3 Z) e2).trans rfl;have e4:(((((w.setCell ⟨b,0,none⟩ (.slice S I A)).setCell ⟨b,1,none⟩ (.int .i64 i1)).setCell ⟨b,2,none⟩ (.int .i64 i2)).setCell ⟨b,3,none⟩ (.slice a3 l3 Z)).setCell ⟨b,4,none⟩ (.slice a4 l4 q4)).heap[b]? =some (.cells #[.slice S I A,.int .i64 i1,.int .i64 i2,.slice a3 l3 Z,.slice a4 l4 q4,c5] 99 (0,0)):=(heap_setCell_same ((((w.setCell ⟨b,0,none⟩ (.slice S I A)).setCell ⟨b,1,none⟩ (.int .i64 i1)).setCell ⟨b,2,none⟩ (.int .i64 i2)).setCell ⟨b,3,none⟩ (.slice a3 l3 Z)) b 4 _ _ (.slice a4 l4 q4) e3).trans rfl;have e5:((((((w.setCell ⟨b,0,none⟩ (.slice S I A)).setCell ⟨b,1,none⟩ (.int .i64 i1)).setCell ⟨b,2,none⟩ (.int .i64 i2)).setCell ⟨b,3,none⟩ (.slice a3 l3 Z)).setCell ⟨b,4,none⟩ (.slice a4 l4 q4)).setCell ⟨b,5,none⟩ (.slice a5 l5 q5)).heap[b]? =some (.cells #[.slice S I A,.int .i64 i1,.int .i64 i2,.slice a3 l3 Z,.slice a4 l4 q4,.slice a5 l5 q5] 99 (0,0)):=(heap_setCell_same (((((w.setCell ⟨b,0,none⟩ (.slice S I A)).setCell ⟨b,1,none⟩ (.int .i64 i1)).setCell ⟨b,2,none⟩ (.int .i64 i2)).setCell ⟨b,3,none⟩ (.slice a3 l3 Z)).setCell ⟨b,4,none⟩ (.slice a4 l4 q4)) b 5 _ _ (.slice a5 l5 q5) e4).trans rfl;have oth: ∀y,y≠b->((((((w.setCell ⟨b,0,none⟩ (.slice S I A)).setCell ⟨b,1,none⟩ (.int .i64 i1)).setCell ⟨b,2,none⟩ (.int .i64 i2)).setCell ⟨b,3,none⟩ (.slice a3 l3 Z)).setCell ⟨b,4,none⟩ (.slice a4 l4 q4)).setCell ⟨b,5,none⟩ (.slice a5 l5 q5)).heap[y]? =w.heap[y]? :=λy hy=>by simp only [heap_setCell_other _ _ _ _ (show y≠(⟨b,_,none⟩:Addr).block from hy)]
 have e6:(((((((w.setCell ⟨b,0,none⟩ (.slice S I A)).setCell ⟨b,1,none⟩ (.int .i64 i1)).setCell ⟨b,2,none⟩ (.int .i64 i2)).setCell ⟨b,3,none⟩ (.slice a3 l3 Z)).setCell ⟨b,4,none⟩ (.slice a4 l4 q4)).setCell ⟨b,5,none⟩ (.slice a5 l5 q5)).setCell ⟨W,0,none⟩ (.int .i64 k)).heap[W]? =some (.cells #[.int .i64 k] 23 (0,0)):=(heap_setCell_same ((((((w.setCell ⟨b,0,none⟩ (.slice S I A)).setCell ⟨b,1,none⟩ (.int .i64 i1)).setCell ⟨b,2,none⟩ (.int .i64 i2)).setCell ⟨b,3,none⟩ (.slice a3 l3 Z)).setCell ⟨b,4,none⟩ (.slice a4 l4 q4)).setCell ⟨b,5,none⟩ (.slice a5 l5 q5)) W 0 _ _ (.int .i64 k) ((oth W h4b).trans h4)).trans rfl;have sz:(((((((w.setCell ⟨b,0,none⟩ (.slice S I A)).setCell ⟨b,1,none⟩ (.int .i64 i1)).setCell ⟨b,2,none⟩ (.int .i64 i2)).setCell ⟨b,3,none⟩ (.slice a3 l3 Z)).setCell ⟨b,4,none⟩ (.slice a4 l4 q4)).setCell ⟨b,5,none⟩ (.slice a5 l5 q5)).setCell ⟨W,0,none⟩ (.int .i64 k)).heap.size=w.heap.size:=by simp
 have al: ∀y,y<w.heap.size->((((((((w.setCell ⟨b,0,none⟩ (.slice S I A)).setCell ⟨b,1,none⟩ (.int .i64 i1)).setCell ⟨b,2,none⟩ (.int .i64 i2)).setCell ⟨b,3,none⟩ (.slice a3 l3 Z)).setCell ⟨b,4,none⟩ (.slice a4 l4 q4)).setCell ⟨b,5,none⟩ (.slice a5 l5 q5)).setCell ⟨W,0,none⟩ (.int .i64 k)).alloc (.cells #[.int .i64 k] 211)).drew.heap[y]? =(((((((w.setCell ⟨b,0,none⟩ (.slice S I A)).setCell ⟨b,1,none⟩ (.int .i64 i1)).setCell ⟨b,2,none⟩ (.int .i64 i2)).setCell ⟨b,3,none⟩ (.slice a3 l3 Z)).setCell ⟨b,4,none⟩ (.slice a4 l4 q4)).setCell ⟨b,5,none⟩ (.slice a5 l5 q5)).setCell ⟨W,0,none⟩ (.int .i64 k)).heap[y]? :=λy hy=>IY _ _ y (by rw [sz];exact hy)
 all_goals
  cases c₀;simp [bodyPostS,results,Tryz.results105];refine ⟨?_,?_,?_,λy hy h1 h2=>?_⟩;rw [al b (lt hb),heap_setCell_other _ _ _ _ (show b≠W from Ne.symm h4b)];exact e5;rw [al W (lt h4)];exact e6;simp only [Wd0,Qm6,Xe8];rw [al y hy,heap_setCell_other _ _ _ _ (show y≠W from h2)];exact oth y h1
end Go.Proofs.YtakpdkmhclhlnaaGreatDoor.Hd
