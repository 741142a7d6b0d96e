/- Contracts, put together. Conditions: those of each. -/
import Derived.Test.YtlclobclmfhlmaaGreatDoorMj
import Derived.Lib.AppendIntMem
set_option linter.unusedSimpArgs false
set_option linter.unusedVariables false
set_option maxRecDepth 100000
namespace Go.Proofs.YtlclobclmfhlmaaGreatDoor.Hd
open Go Go.Shelf Go.Sx
theorem Qy1{e:UJ}{w:World}(hgl:DB e w):Lib.TabIs Tryz.prog w "internal/strconv.uint64pow10" .u64 Lib.pow10Tab:=by
 obtain ⟨_,_,o,ho,_,T,fr,rfl⟩:=hgl 2 _ rfl;have hg:Tryz.prog.globalNamed "internal/strconv.uint64pow10"=some 2:=VS;unfold Lib.TabIs World.var?;rw [hg];show (match w.heap[2]? with|some (.cells cs _ _)=>some cs|_=>none)=_
 rw [ho];simp [Lib.pow10Tab]
theorem Zh4{e:UJ}{w:World}(hgl:DB e w): ∃m,w.cell? ⟨3,0,none⟩=some (.int .i64 m):=by
 obtain ⟨_,_,o,ho,_,m,T,fr,rfl⟩:=hgl 3 _ rfl;exact ⟨m,by simp [World.cell?,ho]⟩
theorem Xe8(n:Int)(VR:VK n):VW VN 73 [.x (.int .i64 n)] (.x (.string ⟨(Lib.itoa n).toArray⟩)):=by
 intro e w args hro hgl FL hr;obtain ⟨u,us,rfl,h1,h2⟩:=hr.cons_inv;cases h2.nil_inv;cases h1.x_inv;unfold VK at VR;refine Calls.mono (Any.strconv_Itoa Qa1 n VI VI w (Qy1 hgl)) ?_;rintro en w' ⟨rfl,k,os,rfl⟩;exact ⟨_,rfl,Lib.below_grow _ w (Nat.le_refl _) k os,.x _⟩
def dX:UV
 |[.x (.int .i64 n)]=>some ([VK n],.x (.string ⟨(Lib.itoa n).toArray⟩))
 |_=>none
theorem TN:VO VN 73 dX:=by
 refine ⟨(UF Tryz.func73),?_⟩;intro avs ns res h hn;unfold dX at h;split at h
 ·cases h;exact Xe8 _ (hn _ VU)
 ·cases h
def spl(s sep:ByteArray):List ByteArray:=Lib.splitB sep 0 (Lib.countB s sep) s
theorem Qy7(s sep:ByteArray)(hs:s.size<4294967281)(h1:1<=sep.size):VW VN 112 [.x (.string s),.x (.string sep)] (.lst 1 (Lib.countB s sep+1) (λk=>[.x (.string ((spl s sep).getD k ByteArray.empty))])):=by
 intro e w args hro hgl FL hr;obtain ⟨u,us,rfl,r1,r2⟩:=hr.cons_inv;obtain ⟨u2,us2,rfl,r3,r4⟩:=r2.cons_inv;cases r4.nil_inv;cases r1.x_inv;cases r3.x_inv;obtain ⟨m,hm⟩:=Zh4 hgl;have hle:=Lib.countB_le sep h1 s.size s (Nat.le_refl _);have HT:=Lib.splitB_all sep h1 0 _ s rfl;refine Calls.mono (Any.strings_Split We9 VS s sep m w hs hm h1) ?_;rintro en w' ⟨rfl,rfl⟩;generalize hobj:Obj.cells (List.map Value.string (Lib.splitB sep 0 (Lib.countB s sep) s)).toArray (uQ.t 9)=ob;have hsz:(w.alloc ob).heap.size=w.heap.size+1:=VU;refine ⟨_,rfl,(RowKit.Below.refl w.heap.size w).alloc (Nat.le_refl _) _,?_⟩;refine Rep.lst (e:=PD w (w.alloc ob)) 1 _ _ w.heap.size 0 _ (λi _=> .string ((spl s sep).getD i ByteArray.empty)) (λ_=>(show w.heap.size<=w.heap.size/\w.heap.size<(w.alloc ob).heap.size by omega)) (λ_=>VI) (λi _ a ha=>?_) (Nat.le_refl _) (by unfold maxLen;omega) (λi j hi hj=>?_) (λ_ _=>rfl) (λi j a hi ha=>?_) _ (λ_=>rfl)
 ·simp at ha;subst ha;exact .x _
 ·obtain rfl:j=0:=VI;have hi':i<(spl s sep).length:=by unfold spl;omega
  have hh:(w.alloc ob).heap[w.heap.size]? =some ob:=by first|(rw [World.alloc_eq];simp;done)|(simp only [World.alloc_eq,Array.getElem?_push_size];done)|exact Array.getElem?_push_size|(unfold World.alloc;exact Array.getElem?_push_size)
  unfold World.cell?;rw [hh,←hobj];have e:0+(i*1+0)=i:=VI;show (List.map Value.string (spl s sep)).toArray[0+(i*1+0)]? =_;rw [e];simp [hi']
 ·cases j with
  |zero=>simp at ha;subst ha;exact .x _
  |succ j=>simp at ha
open Go Go.Shelf Go.Sx Go.RowKit
def VZ(s:ByteArray):Int:=match Lib.atoiAll s.data.toList with
 | .ok v=>v
 |_=>0
def MN(s:ByteArray):Bool:=match Lib.atoiAll s.data.toList with
 | .ok v=>decide (Lib.itoa v=s.data.toList)&&decide ((Lib.trimPrefix s.data.toList [45]).length<=9)
 |_=>false
theorem kA{l:List UInt8}{s:ByteArray}:(⟨l.toArray⟩:ByteArray)=s↔l=s.data.toList:=by
 constructor
 ·rintro rfl;rfl
 ·rintro rfl;cases s;rfl
theorem s7(k:Int)(w:World):Calls Tryz.prog 114 #[.bool false,.int .i64 k] w λen w'=>en= .panicked [{v:=II 182 (.int .i64 k),recovered:=false}]/\w'=w:=by
 go_enter Tryz.func114,Tryz.ntmps114
 go_wp2
 exact ⟨rfl,rfl,rfl⟩
theorem Xk3(k:Int)(w:World):Calls Tryz.prog 114 #[.bool true,.int .i64 k] w λen w'=>en= .returned (.tuple #[])/\w'=w:=by
 go_enter Tryz.func114,Tryz.ntmps114
 go_wp2
 go_end0
 exact ⟨rfl,rfl⟩
theorem vK{e:UJ}{w w1:World}(h:DB e w)(hb:Below w.heap.size w w1):DB e w1:=λb p hp=>by
 obtain ⟨h1,h2,o,h3,h4⟩:=h b p hp;exact ⟨h1,xO h2 hb.size,o,(hb.block b h2).trans h3,h4⟩
theorem kB{w w1:World}{T:TypeId}(h:w1=w\/ ∃t,w1=Lib.bytesWorld w T t):Below w.heap.size w w1:=by
 rcases h with rfl|⟨t,rfl⟩
 ·exact Below.refl _ _
 ·exact Lib.bytesWorld_below w _ _
theorem Qd3{l:List UInt8}{v:Int}(h:Lib.atoiAll l= .ok v): -9223372036854775808<=v/\v<=9223372036854775807:=by
 unfold Lib.atoiAll at h;split at h
 ·cases h
 ·simp only at h;split at h
  ·cases h
  ·cases h
  ·split at h
   ·cases h
   ·split at h
    ·cases h
    ·cases h;split<;>omega
theorem vE{v:Int}(h: -9223372036854775808<=v/\v<=9223372036854775807){e:UJ}{w:World}(hgl:DB e w):Calls Tryz.prog 73 #[.int .i64 v] w λen w'=>en= .returned (.string ⟨(Lib.itoa v).toArray⟩)/\Below w.heap.size w w':=by
 refine Calls.mono (Any.strconv_Itoa Qa1 v h.1 h.2 w (Qy1 hgl)) ?_;rintro en w' ⟨rfl,k,os,rfl⟩;exact ⟨rfl,Lib.below_grow _ w (Nat.le_refl _) k os⟩
theorem yS(s p:ByteArray)(w:World):Calls Tryz.prog 154 #[.string s,.string p] w λen w'=>en= .returned (.string ⟨(Lib.trimPrefix s.data.toList p.data.toList).toArray⟩)/\w'=w:=Any.strings_TrimPrefix Xe4 s p w
theorem Zk9{e:UJ}{w:World}(hgl:DB e w):(∃ev,w.cell? ⟨0,0,none⟩=some ev/\(ev= .nilIface\/ ∃te pe,ev= .iface te pe))/\ ∃ev,w.cell? ⟨1,0,none⟩=some ev/\(ev= .nilIface\/ ∃te pe,ev= .iface te pe):=by
 obtain ⟨_,_,o,h3,_,te,pe,T,fr,rfl⟩:=hgl 0 _ rfl;obtain ⟨_,_,o,k3,_,te',pe',T',fr',rfl⟩:=hgl 1 _ rfl;exact ⟨⟨.iface te pe,by simp [World.cell?,h3],.inr ⟨te,pe,rfl⟩⟩,⟨.iface te' pe',by simp [World.cell?,k3],.inr ⟨te',pe',rfl⟩⟩⟩
theorem o8(s:ByteArray)(hs:s.size<=100000)(hb:MN s=true){e:UJ}{w:World}(hgl:DB e w):Calls Tryz.prog 115 #[.string s] w λen w'=>en= .returned (.int .i64 (VZ s))/\Below w.heap.size w w':=by
 unfold MN at hb;split at hb
 ·rename_i v hv;rw [H2,j8,j8] at hb;have hA:=Any.strconv_Atoi_ok rZ s VI v hv w;have hnv:VZ s=v:=by unfold VZ;rw [hv]
  rw [hnv];have hin:=Qd3 hv
  change Calls Tryz.prog 88 _ _ _ at hA
  have heq2:(⟨(Lib.itoa v).toArray⟩:ByteArray)=s:=kA.2 hb.1;have hle:(decide (((Lib.trimPrefix s.data.toList [45]).length:Int)<=9))=true:=decide_eq_true VI
  go_enter Tryz.func115,Tryz.ntmps115
  go_wp2_with (go_at_call 88;refine hA.mono ?_;rintro en w1 ⟨rfl,hw1⟩)
  have hb1:=kB hw1;refine (vE hin (vK hgl hb1)).mono ?_;rintro en w2 ⟨rfl,hb2⟩;have hb3:Below w.heap.size w w2:=hb1.trans (hb2.mono hb1.size)
  go_wp2_with (go_at_call 154;refine (yS _ _ _).mono ?_;rintro en w3 ⟨rfl,rfl⟩)
  try rw [hle]
  refine (Xk3 _ _).mono ?_;rintro en w4 ⟨rfl,rfl⟩
  go_wp2
  go_ret
  exact ⟨rfl,hb3⟩
 ·cases hb
theorem Ql2(s:ByteArray)(hs:s.size<=100000)(hb:MN s=false){e:UJ}{w:World}(hgl:DB e w):Calls Tryz.prog 115 #[.string s] w λen w'=>en= .panicked [{v:=II 182 (.int .i64 4),recovered:=false}]/\Below w.heap.size w w':=by
 obtain ⟨⟨ev0,he0,he0'⟩,⟨ev1,he1,he1'⟩⟩:=Zk9 hgl;unfold MN at hb;split at hb
 ·rename_i v hv;have hA:=Any.strconv_Atoi_ok rZ s VI v hv w;have hin:=Qd3 hv
  change Calls Tryz.prog 88 _ _ _ at hA
  rcases Classical.em (Lib.itoa v=s.data.toList) with h1|h1
  ·have heq2:(⟨(Lib.itoa v).toArray⟩:ByteArray)=s:=kA.2 h1;rw [decide_eq_true h1,Bool.true_and,aDef] at hb;have hle:(decide (((Lib.trimPrefix s.data.toList [45]).length:Int)<=9))=false:=decide_eq_false VI
   go_enter Tryz.func115,Tryz.ntmps115
   go_wp2_with (go_at_call 88;refine hA.mono ?_;rintro en w1 ⟨rfl,hw1⟩)
   have hb1:=kB hw1;refine (vE hin (vK hgl hb1)).mono ?_;rintro en w2 ⟨rfl,hb2⟩;have hb3:Below w.heap.size w w2:=hb1.trans (hb2.mono hb1.size)
   go_wp2_with (go_at_call 154;refine (yS _ _ _).mono ?_;rintro en w3 ⟨rfl,rfl⟩)
   try rw [hle]
   refine (s7 _ _).mono ?_;rintro en w4 ⟨rfl,rfl⟩;exact ⟨rfl,rfl,hb3⟩
  ·have hne: ¬(⟨(Lib.itoa v).toArray⟩:ByteArray)=s:=λh=>h1 (kA.1 h)
   go_enter Tryz.func115,Tryz.ntmps115
   go_wp2_with (go_at_call 88;refine hA.mono ?_;rintro en w1 ⟨rfl,hw1⟩)
   have hb1:=kB hw1;refine (vE hin (vK hgl hb1)).mono ?_;rintro en w2 ⟨rfl,hb2⟩;have hb3:Below w.heap.size w w2:=hb1.trans (hb2.mono hb1.size)
   go_wp2_with (go_at_call 154;refine (yS _ _ _).mono ?_;rintro en w3 ⟨rfl,rfl⟩)
   ·exact absurd ‹Lib.itoa v=s.toList› (λhx=>h1 (hx.trans (ByteArray.toList_eq s)))
   refine (s7 _ _).mono ?_;rintro en w4 ⟨rfl,rfl⟩;exact ⟨rfl,rfl,hb3⟩
 ·rename_i hno;have hA:Calls Tryz.prog 88 #[.string s] w λen w'=>(∃k te pe,en= .returned (.tuple #[.int .i64 k,.iface te pe]))/\Below w.heap.size w w':=by
   cases h:Lib.atoiAll s.data.toList
   ·rename_i v;exact absurd h (hno v)
   ·refine Calls.mono (Any.strconv_Atoi_syntax rZ s VI h ev0 w he0 he0') ?_;rintro en w' ⟨N,rfl,_,_,hb⟩;exact ⟨⟨_,_,_,rfl⟩,hb⟩
   ·refine Calls.mono (Any.strconv_Atoi_range rZ s VI h ev1 w he1 he1') ?_;rintro en w' ⟨N,rfl,_,_,hb⟩;exact ⟨⟨_,_,_,rfl⟩,hb⟩
  go_enter Tryz.func115,Tryz.ntmps115
  go_wp2_with (go_at_call 88;refine hA.mono ?_;rintro en w1 ⟨⟨k,te,pe,rfl⟩,hb3⟩)
  refine (s7 _ _).mono ?_;rintro en w4 ⟨rfl,rfl⟩;exact ⟨rfl,rfl,hb3⟩
def zZ:DV:=λavs m nx sv=>match avs with
 |[.x (.string s)]=>some (.need [s.size<=100000] (.branch (MN s) (.leaf (.ret (.x (.int .i64 (VZ s))),m,nx,sv)) (.leaf (.pan (II 182 (.int .i64 4)),m,nx,sv))))
 |_=>none
theorem wJ:D2 VN 115 zZ:=by
 refine ⟨(UF Tryz.func115),?_⟩;intro avs m nx sv t ht Q hQ c w0 T e ds args w hE hB hm hl LL hxt hr;unfold zZ at ht;split at ht
 ·rename_i s;cases ht;obtain ⟨hs,hQ⟩:=hQ;obtain ⟨u,us,rfl,h1,h2⟩:=hr.cons_inv;cases h2.nil_inv;cases h1.x_inv;have key: ∀{w':World},Below w.heap.size w w'->Step e e w w'/\UW e w0.heap.size w'/\Below w0.heap.size w0 w':=by
   intro w' hb;have st:Step e e w w':=⟨λb hlt hr=>⟨hr,hb.block b hlt⟩,λ_ h=>⟨h,rfl,rfl⟩,hb.size⟩
   exact ⟨st,⟨λb h=>⟨(hE.apart b h).1,xO (hE.apart b h).2 hb.size⟩,λb k h=>⟨(hE.owned b k h).1,xO (hE.owned b k h).2 hb.size⟩,hE.glob.step st⟩,hB.trans (hb.mono hB.size)⟩
  cases hb:MN s with
  |true=>
   refine (o8 s hs hb hE.glob).mono ?_;rintro en w' ⟨rfl,hbl⟩;obtain ⟨k1,k2,k3⟩:=key hbl;exact ⟨.ret (.x (.int .i64 (VZ s))),_,_,_,e,⟨_,rfl,.x _⟩,hQ.1 hb,k2,k3,hm.ext hbl k1 (λ_ _ h=>h),hl,LL,hxt.step k1⟩
  |false=>
   refine (Ql2 s hs hb hE.glob).mono ?_;rintro en w' ⟨rfl,hbl⟩;obtain ⟨k1,k2,k3⟩:=key hbl;exact ⟨.pan (II 182 (.int .i64 4)),_,_,_,e,rfl,hQ.2 hb,k2,k3,hm.ext hbl k1 (λ_ _ h=>h),hl,LL,hxt.step k1⟩
 ·cases ht
def wdE:List MapEntry:=[{key:= .string ⟨#[116,104,114,101,97,100]⟩,val:= .agg #[.int .i64 4,.func (.func 146) #[] #[]],born:=0},
 {key:= .string ⟨#[115,116,114,105,107,101]⟩,val:= .agg #[.int .i64 1,.func (.func 147) #[] #[]],born:=1},
 {key:= .string ⟨#[98,97,114,111]⟩,val:= .agg #[.int .i64 2,.func (.func 148) #[] #[]],born:=2},
 {key:= .string ⟨#[98,97,116,104]⟩,val:= .agg #[.int .i64 2,.func (.func 149) #[] #[]],born:=3},
 {key:= .string ⟨#[115,101,101]⟩,val:= .agg #[.int .i64 2,.func (.func 150) #[] #[]],born:=4},
 {key:= .string ⟨#[105,115,115,117,101]⟩,val:= .agg #[.int .i64 4,.func (.func 151) #[] #[]],born:=5},
 {key:= .string ⟨#[118,111,105,100]⟩,val:= .agg #[.int .i64 1,.func (.func 152) #[] #[]],born:=6},
 {key:= .string ⟨#[115,101,108,108]⟩,val:= .agg #[.int .i64 5,.func (.func 153) #[] #[]],born:=7}]
theorem w5(w:World)(es:Array MapEntry)(c:Nat)(s:ByteArray)(val:Value)(hf:Instr.findNow .string (.string s) es.toList 0=some none):
  (Instr.mapUpdate 218 (.map (some w.heap.size)) (.string s) val).run Tryz.prog (w.alloc (.map es c))= .ok () (w.alloc (.map (es.push {key:= .string s,val:=val,born:=c}) (c+1))):=by
 have hm:Tryz.prog.underlying 218=some (.map 9 216):=VS;have hk:Tryz.prog.underlying 9=some .string:=VS;have hb:(w.alloc (.map es c)).heap[w.heap.size]? =some (.map es c):=World.alloc_heap_new w _;have hc:(Instr.checkKey false 10000 9 (.string s)).run Tryz.prog (w.alloc (.map es c))= .ok () (w.alloc (.map es c)):=MapKept.run_checkKey (k:= .string s) hk (by simp [MapKept.IsKey]) false 9999
 have hp: ∀o o':Obj,({w.alloc o with heap:=(w.alloc o).heap.setIfInBounds w.heap.size o'}:World)=w.alloc o':=λo o'=>by
  have ha:(w.heap.push o).setIfInBounds w.heap.size o'=w.heap.push o':=Array.toList_inj.1 (by simp [List.set_append])
  have h0: ∀q:Obj,(w.alloc q).heap=w.heap.push q:=λq=>rfl
  rw [h0,ha];rfl
 have h1:(Instr.mapUpdate 218 (.map (some w.heap.size)) (.string s) val).run Tryz.prog (w.alloc (.map es c))= .ok () {w.alloc (.map es c) with heap:=(w.alloc (.map es c)).heap.setIfInBounds w.heap.size (.map (es.push {key:= .string s,val:=val,born:=c}) (c+1)) }:=by
  simp only [Instr.mapUpdate,Sem.run_bind,run_underlying hm,MapKept.run_getObj_map hb,hc,MapKept.run_findKey hk hf,MapKept.run_setObj_map _ hb,Result.andThen]
 rw [h1,hp]
theorem IV(w:World):Calls Tryz.prog 113 #[] w λen w'=>en= .returned (.map (some w.heap.size))/\w'=w.alloc (.map wdE.toArray 8):=by
 have i0:=run_makeMap (P:=Tryz.prog) 218 w;have i1:=w5 w #[] 0 ⟨#[116,104,114,101,97,100]⟩ (.agg #[.int .i64 4,.func (.func 146) #[] #[]]) (by rfl)
 have i2:=w5 w #[{key:= .string ⟨#[116,104,114,101,97,100]⟩,val:= .agg #[.int .i64 4,.func (.func 146) #[] #[]],born:=0}] 1 ⟨#[115,116,114,105,107,101]⟩ (.agg #[.int .i64 1,.func (.func 147) #[] #[]]) (by rfl)
 have i3:=w5 w #[{key:= .string ⟨#[116,104,114,101,97,100]⟩,val:= .agg #[.int .i64 4,.func (.func 146) #[] #[]],born:=0},{key:= .string ⟨#[115,116,114,105,107,101]⟩,val:= .agg #[.int .i64 1,.func (.func 147) #[] #[]],born:=1}] 2 ⟨#[98,97,114,111]⟩ (.agg #[.int .i64 2,.func (.func 148) #[] #[]]) (by rfl)
 have i4:=w5 w #[{key:= .string ⟨#[116,104,114,101,97,100]⟩,val:= .agg #[.int .i64 4,.func (.func 146) #[] #[]],born:=0},{key:= .string ⟨#[115,116,114,105,107,101]⟩,val:= .agg #[.int .i64 1,.func (.func 147) #[] #[]],born:=1},{key:= .string ⟨#[98,97,114,111]⟩,val:= .agg #[.int .i64 2,.func (.func 148) #[] #[]],born:=2}] 3 ⟨#[98,97,116,104]⟩ (.agg #[.int .i64 2,.func (.func 149) #[] #[]]) (by rfl)
 have i5:=w5 w #[{key:= .string ⟨#[116,104,114,101,97,100]⟩,val:= .agg #[.int .i64 4,.func (.func 146) #[] #[]],born:=0},{key:= .string ⟨#[115,116,114,105,107,101]⟩,val:= .agg #[.int .i64 1,.func (.func 147) #[] #[]],born:=1},{key:= .string ⟨#[98,97,114,111]⟩,val:= .agg #[.int .i64 2,.func (.func 148) #[] #[]],born:=2},{key:= .string ⟨#[98,97,116,104]⟩,val:= .agg #[.int .i64 2,.func (.func 149) #[] #[]],born:=3}] 4 ⟨#[115,101,101]⟩ (.agg #[.int .i64 2,.func (.func 150) #[] #[]]) (by rfl)
 have i6:=w5 w #[{key:= .string ⟨#[116,104,114,101,97,100]⟩,val:= .agg #[.int .i64 4,.func (.func 146) #[] #[]],born:=0},{key:= .string ⟨#[115,116,114,105,107,101]⟩,val:= .agg #[.int .i64 1,.func (.func 147) #[] #[]],born:=1},{key:= .string ⟨#[98,97,114,111]⟩,val:= .agg #[.int .i64 2,.func (.func 148) #[] #[]],born:=2},{key:= .string ⟨#[98,97,116,104]⟩,val:= .agg #[.int .i64 2,.func (.func 149) #[] #[]],born:=3},{key:= .string ⟨#[115,101,101]⟩,val:= .agg #[.int .i64 2,.func (.func 150) #[] #[]],born:=4}] 5 ⟨#[105,115,115,117,101]⟩ (.agg #[.int .i64 4,.func (.func 151) #[] #[]]) (by rfl)
 have i7:=w5 w #[{key:= .string ⟨#[116,104,114,101,97,100]⟩,val:= .agg #[.int .i64 4,.func (.func 146) #[] #[]],born:=0},{key:= .string ⟨#[115,116,114,105,107,101]⟩,val:= .agg #[.int .i64 1,.func (.func 147) #[] #[]],born:=1},{key:= .string ⟨#[98,97,114,111]⟩,val:= .agg #[.int .i64 2,.func (.func 148) #[] #[]],born:=2},{key:= .string ⟨#[98,97,116,104]⟩,val:= .agg #[.int .i64 2,.func (.func 149) #[] #[]],born:=3},{key:= .string ⟨#[115,101,101]⟩,val:= .agg #[.int .i64 2,.func (.func 150) #[] #[]],born:=4},{key:= .string ⟨#[105,115,115,117,101]⟩,val:= .agg #[.int .i64 4,.func (.func 151) #[] #[]],born:=5}] 6 ⟨#[118,111,105,100]⟩ (.agg #[.int .i64 1,.func (.func 152) #[] #[]]) (by rfl)
 have i8:=w5 w #[{key:= .string ⟨#[116,104,114,101,97,100]⟩,val:= .agg #[.int .i64 4,.func (.func 146) #[] #[]],born:=0},{key:= .string ⟨#[115,116,114,105,107,101]⟩,val:= .agg #[.int .i64 1,.func (.func 147) #[] #[]],born:=1},{key:= .string ⟨#[98,97,114,111]⟩,val:= .agg #[.int .i64 2,.func (.func 148) #[] #[]],born:=2},{key:= .string ⟨#[98,97,116,104]⟩,val:= .agg #[.int .i64 2,.func (.func 149) #[] #[]],born:=3},{key:= .string ⟨#[115,101,101]⟩,val:= .agg #[.int .i64 2,.func (.func 150) #[] #[]],born:=4},{key:= .string ⟨#[105,115,115,117,101]⟩,val:= .agg #[.int .i64 4,.func (.func 151) #[] #[]],born:=5},{key:= .string ⟨#[118,111,105,100]⟩,val:= .agg #[.int .i64 1,.func (.func 152) #[] #[]],born:=6}] 7 ⟨#[115,101,108,108]⟩ (.agg #[.int .i64 5,.func (.func 153) #[] #[]]) (by rfl)
 go_enter Tryz.func113,Tryz.ntmps113
 go_wp2
 go_ret
 exact ⟨rfl,rfl⟩
def eqU:List UInt8->List UInt8->Bool
 |[],[]=>true
 |a::l,b::m=>Nat.beq a.toNat b.toNat&&eqU l m
 |_,_=>false
theorem aA: ∀{l m:List UInt8},eqU l m=true↔l=m
 |[],[]=>by simp [eqU]
 |[],_::_=>by simp [eqU]
 |_::_,[]=>by simp [eqU]
 |a::l,b::m=>by
  simp only [eqU,H2,aA,List.cons.injEq];constructor
  ·rintro ⟨h,h2⟩;exact ⟨UInt8.toNat_inj.1 (GW h),h2⟩
  ·rintro ⟨rfl,h2⟩;exact ⟨Nat.beq_refl _,h2⟩
section
variable (s:ByteArray)
def wdK:Nat:=match eqU s.data.toList [116,104,114,101,97,100] with
 |true=>0
 |false=>match eqU s.data.toList [115,116,114,105,107,101] with
 |true=>1
 |false=>match eqU s.data.toList [98,97,114,111] with
 |true=>2
 |false=>match eqU s.data.toList [98,97,116,104] with
 |true=>3
 |false=>match eqU s.data.toList [115,101,101] with
 |true=>4
 |false=>match eqU s.data.toList [105,115,115,117,101] with
 |true=>5
 |false=>match eqU s.data.toList [118,111,105,100] with
 |true=>6
 |false=>match eqU s.data.toList [115,101,108,108] with
 |true=>7
 |false=>8
def wdM:Nat->Int
 | 0=>4
 | 1=>1
 | 2=>2
 | 3=>2
 | 4=>2
 | 5=>4
 | 6=>1
 | 7=>5
 |_=>0
def wdO:Bool:=Nat.blt (wdK s) 8
def Qs2:List AV:=[match wdO s with|true=> .x (.int .i64 (wdM (wdK s)))|false=> .top,match wdO s with|true=> .fn (.func (146+wdK s)) [] []|false=> .top]
def wdL:List ByteArray:=[⟨#[116,104,114,101,97,100]⟩,⟨#[115,116,114,105,107,101]⟩,⟨#[98,97,114,111]⟩,⟨#[98,97,116,104]⟩,⟨#[115,101,101]⟩,⟨#[105,115,115,117,101]⟩,⟨#[118,111,105,100]⟩,⟨#[115,101,108,108]⟩]
theorem AE:(wdK s<8/\wdL[wdK s]? =some s)\/(wdK s=8/\ ∀x∈wdL,x≠s):=by
 have mk: ∀(l:List UInt8),eqU s.data.toList l=true->(⟨l.toArray⟩:ByteArray)=s:=λl h=>kA.2 (aA.1 h).symm
 have no: ∀(l:List UInt8),eqU s.data.toList l=false->(⟨l.toArray⟩:ByteArray)≠s:=λl h he=>by
  rw [aA.2 (kA.1 he).symm] at h;cases h
 unfold wdK;split
 ·rename_i h0;exact .inl ⟨VI,by rw [←mk _ h0];rfl⟩
 rename_i h0;split
 ·rename_i h1;exact .inl ⟨VI,by rw [←mk _ h1];rfl⟩
 rename_i h1;split
 ·rename_i h2;exact .inl ⟨VI,by rw [←mk _ h2];rfl⟩
 rename_i h2;split
 ·rename_i h3;exact .inl ⟨VI,by rw [←mk _ h3];rfl⟩
 rename_i h3;split
 ·rename_i h4;exact .inl ⟨VI,by rw [←mk _ h4];rfl⟩
 rename_i h4;split
 ·rename_i h5;exact .inl ⟨VI,by rw [←mk _ h5];rfl⟩
 rename_i h5;split
 ·rename_i h6;exact .inl ⟨VI,by rw [←mk _ h6];rfl⟩
 rename_i h6;split
 ·rename_i h7;exact .inl ⟨VI,by rw [←mk _ h7];rfl⟩
 rename_i h7;refine .inr ⟨rfl,λx hx=>?_⟩
 simp only [wdL,GK,DQ,or_false] at hx;rcases hx with rfl|rfl|rfl|rfl|rfl|rfl|rfl|rfl
 ·exact no _ h0
 ·exact no _ h1
 ·exact no _ h2
 ·exact no _ h3
 ·exact no _ h4
 ·exact no _ h5
 ·exact no _ h6
 ·exact no _ h7
def wdV:List Value:=[.int .i64 (wdM (wdK s)),.func (.func (146+wdK s)) #[] #[]]
end
theorem iX{s:ByteArray}(h:wdO s=true): ∃j,Instr.findNow .string (.string s) wdE 0=some (some (j,.agg (wdV s).toArray)):=by
 rcases AE s with ⟨h1,h2⟩|⟨h1,_⟩
 ·unfold wdV;rcases (show wdK s=0\/wdK s=1\/wdK s=2\/wdK s=3\/wdK s=4\/wdK s=5\/wdK s=6\/wdK s=7 by omega) with h3|h3|h3|h3|h3|h3|h3|h3<;>rw [h3] at h2 ⊢ <;>(obtain rfl:_=s:=Option.some.inj h2)<;>exact ⟨_,rfl⟩
 ·unfold wdO at h;rw [h1] at h;cases h
theorem IF{s:ByteArray}: ∀(es:List MapEntry) (j:Nat),(∀x∈es,∃k,x.key= .string k/\k≠s)->Instr.findNow .string (.string s) es j=some none
 |[],_,_=>rfl
 |x::es,j,h=>by
  obtain ⟨k,hk,hne⟩:=h x GD;have hs:Instr.sameNow .string (.string s) (.string k)=some false:=by
   have hb:(s==k)=false:=by
    cases hq:(s==k) with
    |false=>rfl
    |true=>
     obtain ⟨a⟩:=s;obtain ⟨b⟩:=k;have h':(a==b)=true:=hq;exact absurd (by rw [eq_of_beq h']) hne
   simp [Instr.sameNow,hb]
  unfold Instr.findNow;rw [hk,hs];exact IF es (j+1) (λy hy=>h y (HN _ hy))
theorem Qb8{s:ByteArray}(h:wdO s=false):Instr.findNow .string (.string s) wdE 0=some none:=by
 rcases AE s with ⟨h1,_⟩|⟨_,h2⟩
 ·unfold wdO at h;rw [Bool.eq_false_iff,ne_eq,Nat.blt_eq] at h;omega
 ·refine IF _ _ λx hx=>?_
  simp only [wdE,GK,DQ,or_false] at hx;rcases hx with rfl|rfl|rfl|rfl|rfl|rfl|rfl|rfl<;>exact ⟨_,rfl,h2 _ (by simp [wdL])⟩
theorem Xl2:VW VN 113 [] (.mpr Qs2 wdO):=by
 intro e w args hro hgl FL hr;obtain rfl:=hr.nil_inv;refine (IV w).mono ?_;rintro en w' ⟨rfl,rfl⟩;have hsz:(w.alloc (.map wdE.toArray 8)).heap.size=w.heap.size+1:=VU;refine ⟨_,rfl,(Below.refl _ _).alloc (Nat.le_refl _) _,?_⟩;refine .mpr Qs2 wdO wdV w.heap.size wdE.toArray 8 (show w.heap.size<=w.heap.size/\w.heap.size<(w.alloc (.map wdE.toArray 8)).heap.size by omega) VI (λs a ha=>?_) (World.alloc_heap_new w _) (λs hs=>by simpa using iX hs) (λs hs=>⟨by simpa using Qb8 hs,λa ha=>?_⟩) (λs hs=>rfl) (λs k a v hs ha hv=>?_)
 ·unfold Qs2 at ha;cases h:wdO s<;>rw [h] at ha<;>simp only [GK,DQ,or_false,or_self] at ha
  ·subst ha;exact .top
  ·rcases ha with rfl|rfl
   ·exact .x _
   ·exact .fn _ _ _ (λ_ h=>by cases h) (λ_ h=>by cases h)
 ·unfold Qs2 at ha;rw [hs] at ha;exact .inl (by simpa using ha)
 ·unfold Qs2 at ha;unfold wdV at hv;rw [hs] at ha
  match k,ha,hv with
  | 0,ha,hv=>
   simp only [List.getElem?_cons_zero,HC] at ha hv;subst ha hv;exact .x _
  | 1,ha,hv=>
   simp only [List.getElem?_cons_succ,List.getElem?_cons_zero,HC] at ha hv;subst ha hv;exact .fn _ [] [] [] [] rfl (λ_ _ _ h=>by simp at h) rfl (λ_ _ _ h=>by simp at h)
  |k+2,ha,hv=>simp at ha
def Wv9:UV
 |[]=>some ([],.mpr Qs2 wdO)
 |_=>none
theorem wC:VO VN 113 Wv9:=by
 refine ⟨(UF Tryz.func113),?_⟩;intro avs ns res h hn;unfold Wv9 at h;split at h
 ·cases h;exact Xl2
 ·cases h
end Go.Proofs.YtlclobclmfhlmaaGreatDoor.Hd
namespace Go.Proofs.YtlclobclmfhlmaaGreatDoor.Hd
open Go Go.Sx Go.RowKit Bo
open Go.Sx.VL (need branch leaf)
open Go.Sx.AV (lst ptr agg roI tup top)
structure HS where
 nr:Nat
 ra:Nat->Int
 rb:Nat->Int
 ru:Nat->Int
 rv:Nat->Int
 pl:Int
 ph:Int
 nb:Nat
 ql:Nat->Int
 qh:Nat->Int
 qm:Nat->Nat
 qr:Nat->Nat->Int
 qv:Nat->Nat->Int
 nc:Nat
 ca:Nat->Int
 cb:Nat->Int
 cc:Nat->Int
 cd:Nat->Int
 cv:Nat->Bool
 ns:Nat
 sa:Nat->Int
 sb:Nat->Int
 sc:Nat->Int
 sl:Nat->Int
 sh:Nat->Int
 xn:Nat
 xg:Nat->List AV
 yn:Nat
 yg:Nat->List AV
section
variable (N:Nat)(s:HS)
abbrev hR:AV:= .lst 4 N λk=>[iI (s.ra k),iI (s.rb k),iI (s.ru k),iI (s.rv k)]
abbrev hY:AV:= .lst 3 N λk=>[iI (s.ql k),iI (s.qh k),.lst 2 (s.qm k) λj=>[iI (s.qr k j),iI (s.qv k j)]]
abbrev hC:AV:= .lst 5 N λk=>[iI (s.ca k),iI (s.cb k),iI (s.cc k),iI (s.cd k),.x (.bool (s.cv k))]
abbrev hT:AV:= .lst 5 N λk=>[iI (s.sa k),iI (s.sb k),iI (s.sc k),iI (s.sl k),iI (s.sh k)]
end
section
variable (s:HS)
abbrev hL:List AV:=[hR s.nr s,iI s.pl,iI s.ph,hY s.nb s,hC s.nc s,hT s.ns s]
abbrev hsR:AV:=rds s.nr s.ra s.rb s.ru s.rv
abbrev hsB:AV:=bds s.nb s.ql s.qh s.qm s.qr s.qv
abbrev hsC:AV:=crs s.nc s.ca s.cb s.cc s.cd s.cv
abbrev hsS:AV:=sls s.ns s.sa s.sb s.sc s.sl s.sh
abbrev hsL:List AV:=[hsR s,i s.pl,i s.ph,hsB s,hsC s,hsS s]
end
def tbP(k:Nat):Int:=U7 [720,760,800] k
def tbQ(k:Nat):Int:=U7 [985,1000,1014] k
def L3:UV
 |[.agg [.lst 4 nr fr,.x (.int .i64 pl),.x (.int .i64 ph),.lst 3 nb fb,.lst 5 nc fc,.lst 5 ns fs]]=>some ([],.agg [i 4,i 100,i 20,i 30,.lst 4 nr fr,.lst 2 3 (λk=>[i (tbP k),i (tbQ k)]),i pl,i ph,i 1,i 3])
 |_=>none
theorem Qn9(nr nb nc ns:Nat)(fr fb fc fs:Nat->List AV)(pl ph:Int):FB VN 45 [.agg [.lst 4 nr fr,i pl,i ph,.lst 3 nb fb,.lst 5 nc fc,.lst 5 ns fs]] (.agg [i 4,i 100,i 20,i 30,.lst 4 nr fr,.lst 2 3 (λk=>[i (tbP k),i (tbQ k)]),i pl,i ph,i 1,i 3]):=by
 refine HU (L:=[]) (VJ.nil _) (VV.of (VP.nil _) (VM.nil _)) VY Tryz.func45 (US Tryz.f45) G4 (t:=leaf (agg [iI 4,iI 100,iI 20,iI 30,lst 4 nr λa=>fr a,lst 2 3 (U4 2 [iI 720,iI 985,iI 760,iI 1000,iI 800,iI 1014]),iI pl,iI ph,iI 1,iI 3])) VS ?_
 simp only [VL.sat,F5,qC,UC,UG];all_goals exact V5
theorem F7:LZ VN 45 L3:=by
 refine ⟨(UF Tryz.func45),?_⟩;intro avs ns res h hn;unfold L3 at h;split at h
 ·cases h;exact Qn9 _ _ _ _ _ _ _ _ _ _
 ·cases h
def xP:UV
 |[.agg [.lst 4 nr fr,.x (.int .i64 pl),.x (.int .i64 ph),.lst 3 nb fb,.lst 5 nc fc,.lst 5 ns fs]]=>some ([],.agg [ofs,i 1,.lst 3 nb fb])
 |_=>none
abbrev KZ:AV:=lst 2 3 (U4 2 [iI 0,iI 0,iI (-9:Int),iI 9,iI (-9:Int),iI 9])
theorem oX(nr nb nc ns:Nat)(fr fb fc fs:Nat->List AV)(pl ph:Int):FB VN 36 [.agg [.lst 4 nr fr,i pl,i ph,.lst 3 nb fb,.lst 5 nc fc,.lst 5 ns fs]] (.agg [ofs,i 1,.lst 3 nb fb]):=by
 refine HU (L:=[]) (VJ.nil _) (VV.of (VP.nil _) (VM.nil _)) VY Tryz.func36 (US Tryz.f36) G4 (t:=leaf (agg [KZ,iI 1,lst 3 nb λa=>fb a])) VS ?_
 simp only [VL.sat,F5,qC,UC,UG];all_goals exact V5
theorem RA:LZ VN 36 xP:=by
 refine ⟨(UF Tryz.func36),?_⟩;intro avs ns res h hn;unfold xP at h;split at h
 ·cases h;exact oX _ _ _ _ _ _ _ _ _ _
 ·cases h
def M1:UV
 |[.agg [.lst 4 nr fr,.x (.int .i64 pl),.x (.int .i64 ph),.lst 3 nb fb,.lst 5 nc fc,.lst 5 ns fs]]=>some ([],.agg [i 4,i 10,.lst 5 ns fs])
 |_=>none
theorem Qo4(nr nb nc ns:Nat)(fr fb fc fs:Nat->List AV)(pl ph:Int):FB VN 40 [.agg [.lst 4 nr fr,i pl,i ph,.lst 3 nb fb,.lst 5 nc fc,.lst 5 ns fs]] (.agg [i 4,i 10,.lst 5 ns fs]):=by
 refine HU (L:=[]) (VJ.nil _) (VV.of (VP.nil _) (VM.nil _)) VY Tryz.func40 (US Tryz.f40) G4 (t:=leaf (agg [iI 4,iI 10,lst 5 ns λa=>fs a])) VS ?_
 simp only [VL.sat,F5,qC,UC,UG];all_goals exact V5
theorem LX:LZ VN 40 M1:=by
 refine ⟨(UF Tryz.func40),?_⟩;intro avs ns res h hn;unfold M1 at h;split at h
 ·cases h;exact Qo4 _ _ _ _ _ _ _ _ _ _
 ·cases h
noncomputable def mP:HY:=rO Tryz.prog [] {} [] Tryz.f62 (U6 Tryz.f62)
theorem I3:G9 VN 62 mP:=
 RJ (G:=[]) (X:=WE) (L:=[]) (VJ.nil _) (VV.of (VP.nil _) (VM.nil _)) VY (UF Tryz.func62) Tryz.func62 (US Tryz.f62) U2
def U3(w:ByteArray)(V:Nat->ByteArray):Nat->ByteArray
 | 0=>w
 |k+1=>V k
def UN(q:Nat):ByteArray:=wdL.getD q ByteArray.empty
def vF(str:ByteArray)(n:Nat)(W:Nat->ByteArray):Prop:=str.size<100000/\Lib.countB str ⟨#[32]⟩+1=n/\(∀k,k<n->(spl str ⟨#[32]⟩).getD k ByteArray.empty=W k)/\ ∀k,(W k).size<=100000
def MQ(s str sep:ByteArray):Prop:=s=str/\sep=⟨#[32]⟩
def Qg5(str:ByteArray)(n:Nat)(W:Nat->ByteArray):UV
 |[.x (.string s),.x (.string sep)]=>some ([MQ s str sep],.lst 1 n (λk=>[.x (.string (W k))]))
 |_=>none
theorem L7{str:ByteArray}{n:Nat}{W:Nat->ByteArray}(h:vF str n W):VO VN 112 (Qg5 str n W):=by
 refine ⟨(UF Tryz.func112),?_⟩;intro avs ns res hh hn;unfold Qg5 at hh;split at hh
 ·cases hh;obtain ⟨e1,e2⟩:=hn _ GD;rw [e1,e2];have h1:=Qy7 str ⟨#[32]⟩ (by have:=h.1;omega) (by decide)
  rw [h.2.1] at h1;intro e w args hro hgl FL hr;refine (h1 e w args hro hgl FL hr).mono ?_;rintro en w' ⟨v,rfl,hb,GH⟩;exact ⟨v,rfl,hb,LN (a:= .lst 1 n _) (b:= .lst 1 n _) ⟨rfl,rfl,λk hk=>by rw [h.2.2.1 k hk]⟩ GH⟩
 ·cases hh
abbrev Y8(s:HS):GY:=[(0,.cells 100 [.top,.top,.top,.top,.top,.top]),(1,.row 38 1 s.xn s.xg),(2,.row 9 1 s.yn s.yg)]
def PE_(s:HS):St:={σ:=mkS 48 [],m:=(Y8 s),nx:=904,sv:=[[.ptr 0 0,.row 1,.row 2]] }
section
variable (W:Nat->ByteArray)(n:Nat)
def nuB:Bool:=D4 (λj=>MN (W (1+j))) (n-1)
def Wz9(mk:Int)(fk:Nat)(s:HS):St:={σ:=mkS 48 [(0,.ptr 0 0),(4,.lst 1 n (λk=>[.x (.string (W k))])),(5,.ptr 903 0),(7,.row 902),(31,.lst 1 (n-1) (λj=>[.x (.string (W (1+j)))])),(32,i ((n-1:Nat):Int)),(33,.top)],m:=[(902,.row 3 1 (0) (λj=>[i (VZ (W (1+j)))])),(903,.cells 216 [i mk,.fn (.func fk) [] []]),(0,.cells 100 (hsL s)),(1,.row 38 1 s.xn s.xg),(2,.row 9 1 s.yn s.yg)],nx:=904,sv:=[[.ptr 0 0,.row 1,.row 2]] }
noncomputable def MY:Code:=U8 (VQ (U6 Tryz.f90) 0)
def Wh4(mk:Int)(fk:Nat)(s:HS)(k:Nat):St:={σ:=H3 [(33,i k)] (Wz9 W n mk fk s).σ,m:=[(902,.row 3 1 (k) (λj=>[i (VZ (W (1+j)))])),(903,.cells 216 [i mk,.fn (.func fk) [] []]),(0,.cells 100 (hsL s)),(1,.row 38 1 s.xn s.xg),(2,.row 9 1 s.yn s.yg)],nx:=(Wz9 W n mk fk s).nx,sv:=[[.ptr 0 0,.row 1,.row 2]] }
def SY(mk:Int)(fk:Nat)(s:HS):PEx->Option St:=λex=>match ex with
 | .x (.exit 0)=>some {σ:=H3 [(33,i ((n-1:Nat):Int))] (Wz9 W n mk fk s).σ,m:=[(902,.row 3 1 (n-1) (λj=>[i (VZ (W (1+j)))])),(903,.cells 216 [i mk,.fn (.func fk) [] []]),(0,.cells 100 (hsL s)),(1,.row 38 1 s.xn s.xg),(2,.row 9 1 s.yn s.yg)],nx:=(Wz9 W n mk fk s).nx,sv:=[[.ptr 0 0,.row 1,.row 2]] }
 | .pan _=>some (PE_ s)
 |_=>none
def Jj9(mk:Int)(fk:Nat)(s:HS):PT:= .branch (nuB W n) (.leaf (.x (.exit 0),(SY W n mk fk s (.x (.exit 0))).getD (Wz9 W n mk fk s))) (.leaf (.pan (II 182 (.int .i64 4)),PE_ s))
def yQ(mk:Int)(fk:Nat)(s:HS):PI:=TE [(.slot 5,903,216,2),(.slot 7,902,3,1)] (Zb3 (Wh4 W n mk fk s (0)) (Jj9 W n mk fk s))
end
section
variable (s:HS)
abbrev XH:Prop:=(hR s.nr s)=hR s.nr s
abbrev XN:Prop:=(hC s.nc s)=hC s.nc s
abbrev XO:Prop:=(hT s.ns s)=hT s.ns s
abbrev XW:Prop:=(hY s.nb s)=hY s.nb s
abbrev JQ:Prop:=s.pl=s.pl
abbrev JR:Prop:=s.ph=s.ph
end
abbrev JW:Prop:=AV.row 1=AV.row 1
abbrev JX:Prop:=AV.row 2=AV.row 2
abbrev KG(n:Nat)(W:Nat->ByteArray):AV:=lst 1 (n-1) λj=>[FM (W (1+j))]
abbrev KL(s:HS):Prop:=s.xn=s.xn
abbrev KM(s:HS):Prop:=s.yn=s.yn
abbrev YH(n:Nat)(W:Nat->ByteArray):AV:=lst 1 n λk=>[FM (W k)]
theorem uP(W:Nat->ByteArray)(n:Nat)(mk:Int)(fk:Nat)(s:HS)(VR: ∀k,(W k).size<=100000)(UE:n<=100000): ∀ro cx,LU Tryz.prog ro cx (.loop MY) (yQ W n mk fk s):=by
 refine TJ [(.slot 5,903,216,2),(.slot 7,902,3,1)] (PX:=[(114,FZ),(115,zZ)]) (L:=[]) (VJ.nil _) (VV.of (VP.nil _) (VM.nil _)) (UR.cons RN (UR.cons wJ (UR.nil _))) VY (λj cj _ sp hsp=>by simp at hsp) (V:=Nat) (Wh4 W n mk fk s) (λk=>k<=n-1/\ ∀j,j<k->MN (W (1+j))=true) (λk=>n-1-k) (λ_=>SY W n mk fk s) (x0:=0) ⟨Nat.zero_le _,λj h=>absurd h (Nat.not_lt_zero _)⟩ ?_ ?_ ?_
 ·rintro k;kernel_rfl
 ·rintro k y E h;unfold SY at h;split at h
  ·cases h;kernel_rfl
  ·cases h;kernel_rfl
  ·cases h
 ·rintro Q hQ k hx;refine ⟨(k+1),?_⟩;(with_reducible refine DF (t:=branch (decide ((k:Int)<(↑(n-1):Int))) (need [UI k (↑(n-1):Int)] (need [ByteArray.size (W (1+k))<=100000] (branch (MN (W (1+k))) (need [(k+1)*8<=140737488355328,RS 1 (U4 1 [iI (VZ (W (1+k)))])] (need [VK ((k:Int)+1)] (need [QO,VX (YH n W),ZQ,WI,VX (KG n W),VX (↑(n-1):Int),(k:Int)+1=(↑(k+1):Int),k+1=k+1,GT (k+1) (GG k (λj=>[iI (VZ (W (1+j)))]) (U4 1 [iI (VZ (W (1+k)))])) (λi=>[iI (VZ (W (1+i)))]),mk=mk,VX (AV.fn (Fn.func fk) [] []),XH s,JQ s,JR s,XW s,XN s,XO s,KL s,∀(i:Nat),i<s.xn->s.xg i=s.xg i,KM s,∀(i:Nat),i<s.yn->s.yg i=s.yg i,QO,JW,JX] (leaf (PEx.x G6.normal))))) (need [KL s,∀(i:Nat),i<s.xn->s.xg i=s.xg i,KM s,∀(i:Nat),i<s.yn->s.yg i=s.yg i,QO,JW,JX] (leaf (PEx.pan (Value.iface 182 (Value.agg {toList:=[Value.int IntKind.i64 (4:Int)] })))))))) (need [QO,VX (YH n W),ZQ,WI,VX (KG n W),VX (↑(n-1):Int),(k:Int)=(↑(n-1):Int),k=n-1,∀(i:Nat),i<n-1->[iI (VZ (W (1+i)))]=[iI (VZ (W (1+i)))],mk=mk,VX (AV.fn (Fn.func fk) [] []),XH s,JQ s,JR s,XW s,XN s,XO s,KL s,∀(i:Nat),i<s.xn->s.xg i=s.xg i,KM s,∀(i:Nat),i<s.yn->s.yg i=s.yg i,QO,JW,JX] (leaf (PEx.x (G6.exit 0))))) VS ?_)
  simp only [Jj9,SY,VL.sat,GS] at hQ;obtain ⟨x1,x2⟩:=hx;simp only [VL.sat,UA,UG,H9,VK]
  have hc1: ∀x:Int,∀(j:Nat),j<1-> ∀y,y∈U4 1 [iI x] j->AV.one y=true:=λx j _ y hy=>FN hy (by simp [AV.one,Value.oneCell'])
  refine ⟨λh=>?_,λh=>?_⟩
  ·have hk:k<n-1:=VI;refine ⟨⟨VI,VI⟩,VR _,λhb=>?_,λhb=>?_⟩
   ·have HW: ∀j,j<k+1->MN (W (1+j))=true:=by
     intro j hj;rcases (show j<k\/j=k by omega) with h1|rfl
     ·exact x2 j h1
     ·exact hb
    have EW: ∀j,j<k+1->GG k (λj=>[i (VZ (W (1+j)))]) (U4 1 [iI (VZ (W (1+k)))]) j=[i (VZ (W (1+j)))]:=by
     intro j hj;show H6 (decide (j<k)) _ (U4 1 _ (j-k))=_;rw [show j-k=0 by omega]
     rcases (show j<k\/j=k by omega) with h1|rfl
     ·rw [decide_eq_true h1];rfl
     ·rw [show decide (j<j)=false by simp]
      rfl
    refine ⟨⟨VI,hc1 _⟩,VI,⟨VI,EW,λ_ _=>trivial,λ_ _=>trivial⟩,⟨VI,HW⟩,VI⟩
   ·have hno:nuB W n=false:=by
     rw [Bool.eq_false_iff];intro h2;have:=GR.1 h2 k hk;rw [hb] at this;cases this
    refine ⟨⟨λ_ _=>trivial,λ_ _=>trivial⟩,λE hE=>?_⟩
    cases hE;exact hQ.2 hno
  ·have hk:k=n-1:=VI;subst hk;have Wk1:nuB W n=true:=GR.2 x2
   (with_reducible repeat' first|apply And.intro|intro _)
   all_goals first|exact True.intro|rfl|(rename_i E hE;cases hE;exact hQ.1 Wk1)|trivial
def OS(s:HS):St:={σ:=[],m:=[(0,.cells 100 (hsL s)),(1,.row 38 1 s.xn s.xg),(2,.row 9 1 s.yn s.yg)],nx:=3000,sv:=[[.ptr 0 0,.row 1,.row 2]] }
def OX(s:HS):St:={σ:=[],m:=(Y8 s),nx:=3000,sv:=[[.ptr 0 0,.row 1,.row 2]] }
def rsE(e:Int):Bool×Int:=(decide (e=0),e)
def fmE(W:Nat->ByteArray)(n many:Nat)(e:Int):Int:=if n=many+1/\nuB W n=true then e else 4
def voE(s:HS)(x:Int):Int:=if bt 0 x ((s.nc:Int)-1)=true/\s.cv x.toNat=false then 0 else 7
def voS(s:HS)(x:Int):HS:={s with cv:=λk=>if (k:Int)=x then true else s.cv k}
theorem LA{P:Program}{c:Code}{sp0:PI}(h: ∀cj,VQ c 0=some cj-> ∀ro cx,LU P ro cx cj sp0): ∀j cj,VQ c j=some cj-> ∀sp,[sp0][j]? =some sp-> ∀ro cx,LU P ro cx cj sp:=by
 intro j cj hj sp hsp
 match j with
 | 0=>
  simp at hsp;subst hsp;exact h cj hj
 |j+1=>simp at hsp
theorem pN(s sep:ByteArray)(h:1<=sep.size):Lib.countB s sep<=s.size:=Lib.countB_le sep h s.size s (Nat.le_refl _)
theorem B0{str:ByteArray}{n:Nat}{W:Nat->ByteArray}(h:vF str n W):n<=100000:=by
 have h1:=pN str ⟨#[32]⟩ (by decide)
 have h2:=h.1;have h3:=h.2.1;omega
def sT:HY:=Wn5 aW
theorem Wm8:G9 VN 65 sT:=AR iK
theorem DH(a b c d e f:AV):H5 [a,b,c,d,e,f] [.top,.top,.top,.top,.top,.top]:=by
 have h: ∀a,dE a .top:=λa=>by cases a<;>trivial
 exact ⟨h a,h b,h c,h d,h e,h f,trivial⟩
theorem uN{sz n:Nat}{f:Nat->List AV}(h: ∀i,i<n-> ∀x∈f i,Idf x/\F5 x x):dE (.lst sz n f) (.lst sz n f):=by
 refine ⟨rfl,rfl,λi hi=>⟨?_,λx hx=>(h i hi x hx).1⟩⟩
 have: ∀l:List AV,(∀x∈l,F5 x x)->qC l l:=by
  intro l
  induction l with
  |nil=>intro _;trivial
  |cons a l ih=>intro hh;exact ⟨hh a GD,ih λx hx=>hh x (HN _ hx)⟩
 exact this _ λx hx=>(h i hi x hx).2
theorem P8(n:Int):Idf (i n)/\F5 (i n) (i n):=⟨.x _,by simp [F5,UC]⟩
theorem zD(n:Int):dE (i n) (i n):=(P8 n).2
theorem B1(s:HS):dE (hsR s) (hsR s):=uN λk _ x hx=>by
 simp only [GK,DQ,or_false] at hx;rcases hx with rfl|rfl|rfl|rfl<;>exact P8 _
theorem PA(s:HS):dE (hsS s) (hsS s):=uN λk _ x hx=>by
 simp only [GK,DQ,or_false] at hx;rcases hx with rfl|rfl|rfl|rfl|rfl<;>exact P8 _
theorem B2(s:HS):dE (hsC s) (hsC s):=uN λk _ x hx=>by
 simp only [GK,DQ,or_false] at hx;rcases hx with rfl|rfl|rfl|rfl|rfl<;>first|exact P8 _|exact ⟨.x _,by simp [F5,UC]⟩
theorem B4(s:HS):dE (hsB s) (hsB s):=uN λk _ x hx=>by
 simp only [GK,DQ,or_false] at hx;rcases hx with rfl|rfl|rfl
 ·exact P8 _
 ·exact P8 _
 ·refine ⟨.lst _ _ _ λj _ a ha=>?_,rfl,rfl,λ_ _=>rfl⟩
  simp only [GK,DQ,or_false] at ha;rcases ha with rfl|rfl<;>exact .x _
section
variable {W:Nat->ByteArray}{n many:Nat}
theorem Qz7{e:Int}(h: ¬(n=many+1/\nuB W n=true)):(false,(4:Int))=rsE (fmE W n many e):=by
 unfold fmE;rw [if_neg h];rfl
theorem F4{e k:Int}(h1:n=many+1)(h2:nuB W n=true)(h:e=k)(hk:k≠0):(false,k)=rsE (fmE W n many e):=by
 unfold fmE rsE;rw [if_pos ⟨h1,h2⟩,h,decide_eq_false hk]
theorem uB{e:Int}(h1:n=many+1)(h2:nuB W n=true)(h:e=0):(true,(0:Int))=rsE (fmE W n many e):=by
 unfold fmE rsE;rw [if_pos ⟨h1,h2⟩,h];rfl
end
noncomputable abbrev Qh2:DV:=rN Tryz.prog [(37,RL)] {R:=[],H:=[(65,sT)] } [(114,FZ)] [] Tryz.f152 (U6 Tryz.f152)
theorem Qn1:D2 VN 152 (Qh2):=
 FP (G:=[(37,RL)]) (X:={R:=[],H:=[(65,sT)] }) (PX:=[(114,FZ)]) (L:=[]) (VJ.cons PQ (VJ.nil _)) (VV.of (VP.nil _) (VM.cons Wm8 (VM.nil _))) (UR.cons RN (UR.nil _)) VY (UF Tryz.func152) Tryz.func152 (US Tryz.f152) (λj cj _ sp hsp=>by simp at hsp)
abbrev Q5:List AV:=[ptr 0 0,AV.row 1,AV.row 2]
abbrev QB(s:HS):Prop:=((38:TypeId),1,s.xn,s.xg)=((38:TypeId),1,s.xn,s.xg)
abbrev QC(s:HS):Prop:=((9:TypeId),1,s.yn,s.yg)=((9:TypeId),1,s.yn,s.yg)
abbrev QU:List AV:=[top,top,top,top,top,top]
abbrev X7(s:HS):GY:=[(0,.cells 100 (hsL s)),(1,.row 38 1 s.xn s.xg),(2,.row 9 1 s.yn s.yg)]
theorem V7{p:Prop}(h:p:=by
 refine ⟨DH _ _ _ _ _ _,Qz7 λh=>?_⟩
 rw [h.2] at h5;cases h5):p:=h
theorem V6{p:Prop}(h:p:=by
 refine ⟨DH _ _ _ _ _ _,Qz7 λh=>?_⟩
 have:=h.1;simp at h4;omega):p:=h
theorem Xd9(V:Nat->ByteArray)(n:Nat)(str:ByteArray)(s:HS)(VR:vF str n (U3 (UN 6) V))(UE:s.nc<=10):wE VN 90 [.ptr 0 0,.x (.string str)] (X7 s) 901 [[.ptr 0 0,.row 1,.row 2]] 182 (OS (voS s (VZ (V 0)))) (OX s) (rsE (fmE (U3 (UN 6) V) n 1 (voE s (VZ (V 0))))):=by
 refine LE (PX:=[(114,FZ),(115,zZ),(152,Qh2)]) (L:=[yQ (U3 (UN 6) V) n 1 152 s]) (VJ.cons (L7 VR) (VJ.cons wC (VJ.nil _))) (VV.of (VP.nil _) (VM.nil _)) (UR.cons RN (UR.cons wJ (UR.cons Qn1 (UR.nil _)))) VY (UF Tryz.func90) Tryz.func90 (US Tryz.f90) (LA (lpE (b:= .loop MY) VS<|uP (U3 (UN 6) V) n 1 152 s VR.2.2.2 (B0 VR))) (N:=[(.cell 0 4,0,0,0)]) (t:=let z0:=(VZ (U3 (UN 6) V 1));let z1:=(U3 (UN 6) V (0:Int).toNat);let z2:=(need [[Q5]=[Q5],H5 (hL s) QU,QB s,QC s] (leaf (false,(4:Int))));let z3:=(need [[Q5]=[Q5],H5 (hL s) QU,QB s,QC s] (leaf (false,(7:Int))));let z4:=(VZ (U3 (UN 6) V (1+(0:Int).toNat)));(need [MQ str str {data:=#[32] }] (need [UI 0 n] (branch (wdO z1) (need [VK (wdM (wdK z1)+1)] (branch (!(n:Int)==wdM (wdK z1)+1) z2 (need [(0:Int)<=1/\(1:Int)<=(n:Int)/\(n:Int)<=(n:Int)] (need [QO,VX (lst 1 n λk=>[FM (U3 (UN 6) V k)]),ZQ,WI,(lst 1 (n-(1:Int).toNat) λi=>[AV.x (.string (U3 (UN 6) V ((1:Int).toNat+i)))])=lst 1 (n-1) λj=>[FM (U3 (UN 6) V (1+j))],(↑(n-(1:Int).toNat):Int)=(↑(n-1):Int),(0:Int)=(↑(0:Nat):Int),0=0,∀(i:Nat),i<0->[]=[iI (VZ (U3 (UN 6) V (1+i)))],wdM (wdK z1)=1,VX (AV.fn (Fn.func 152) [] []),XH s,JQ s,JR s,XW s,XN s,XO s,KL s,∀(i:Nat),i<s.xn->s.xg i=s.xg i,KM s,∀(i:Nat),i<s.yn->s.yg i=s.yg i,QO,JW,JX] (branch (nuB (U3 (UN 6) V) n) (need [UI 0 (↑(n-1):Int)] (need [(0:Int).toNat<n-1] (need [VK ((↑s.nc:Int)-1)] (branch (bt (0:Int) z0 ((↑s.nc:Int)-1)) (need [UI 0 (↑(n-1):Int)] (need [(0:Int).toNat<n-1] (need [UI (VZ (U3 (UN 6) V 1)) s.nc] (branch (!!s.cv (Int.toNat z0)) z3 (need [s.nc<=100000,gdX 5 s.nc λk=>[i (s.ca k),i (s.cb k),i (s.cc k),i (s.cd k),bl (s.cv k)]] (need [UI 0 (↑(n-1):Int)] (need [(0:Int).toNat<n-1] (need [UI (VZ (U3 (UN 6) V 1)) s.nc] (need [Int.toNat z0<s.nc] (need [[Q5]=[Q5],H5 [hR s.nr s,iI s.pl,iI s.ph,hY s.nb s,lst 5 s.nc λk=>iI (if decide (k=Int.toNat z0)=true then s.ca k else s.ca k)::iI (if decide (k=Int.toNat z0)=true then s.cb k else s.cb k)::iI (if decide (k=Int.toNat z0)=true then s.cc k else s.cc k)::iI (if decide (k=Int.toNat z0)=true then s.cd k else s.cd k)::Bool.rec (bl (s.cv k)) (AV.lit true) (decide (k=Int.toNat z4))::Bool.rec ([]) ([]) (decide (k=Int.toNat z4)),hT s.ns s] (hL (voS s (VZ (V 0)))),((38:TypeId),1,s.xn,s.xg)=((38:TypeId),1,(voS s (VZ (V 0))).xn,(voS s (VZ (V 0))).xg),((9:TypeId),1,s.yn,s.yg)=((9:TypeId),1,(voS s (VZ (V 0))).yn,(voS s (VZ (V 0))).yg)] (leaf (true,(0:Int))))))))))))) z3)))) (need [[Q5]=[Q5],H5 QU QU,QB s,QC s] (leaf (false,(4:Int))))))))) z2)))) VS ?_
 have hw:wdO (U3 (UN 6) V (Int.toNat 0))=true:=VS;have hm:wdM (wdK (U3 (UN 6) V (Int.toNat 0)))=1:=VS;have hn1:1<=n:=by have:=VR.2.1;omega
 have hnl:=B0 VR;simp only [VL.sat,UA,UG,hm,hw,true_imp_iff];refine ⟨⟨rfl,rfl⟩,⟨VI,VI⟩,⟨by simp only [VK];omega,λh4=>?_,λh4=>?_⟩,λh=>by cases h⟩
 ·exact V6
 ·have hN:n=1+1:=by
   simp at h4;omega
  refine ⟨⟨VI,VI,VI⟩,?_,λh5=>?_,λh5=>?_⟩
  rotate_left 2
  ·exact V7
  ·all_goals exact yE
  ·have hk1:n-1=1:=VI;have hx:VZ (U3 (UN 6) V 1)=VZ (V 0):=rfl;rw [hk1];simp only [hx,VK,bt_iff,Int.toNat_zero];have hgd:gdX 5 s.nc (λk=>[i (s.ca k),i (s.cb k),i (s.cc k),i (s.cd k),bl (s.cv k)]):=λk _=>⟨rfl,λx hx=>by
    simp only [GK,DQ,or_false] at hx;rcases hx with rfl|rfl|rfl|rfl|rfl<;>exact ⟨True.intro,by simp [AV.one,Value.oneCell']⟩⟩
   refine ⟨VI,VI,VI,λhb=>⟨VI,VI,VI,λh6=>⟨DH _ _ _ _ _ _,F4 hN h5 ?_ (by decide)⟩,λh6=>⟨⟨VI,hgd⟩,VI,VI,VI,VI,⟨⟨B1 s,zD _,zD _,B4 s,?_,PA s,trivial⟩,rfl,rfl⟩,uB hN h5 ?_⟩⟩,λhb=>⟨DH _ _ _ _ _ _,F4 hN h5 ?_ (by decide)⟩⟩
   ·unfold voE;rw [if_neg (λh=>by rw [h.2] at h6;cases h6)]
   ·refine ⟨rfl,rfl,λk hk=>?_⟩
    have e1:(voS s (VZ (V 0))).cv k=if k=(VZ (V 0)).toNat then true else s.cv k:=by
     show (if (k:Int)=VZ (V 0) then true else s.cv k)=_
     by_cases h:k=(VZ (V 0)).toNat
     ·rw [if_pos h,if_pos VI]
     ·rw [if_neg h,if_neg VI]
    refine ⟨?_,λx hx=>?_⟩
    ·by_cases h:k=(VZ (V 0)).toNat
     ·dsimp only
      rw [decide_eq_true h];refine ⟨(P8 _).2,(P8 _).2,(P8 _).2,(P8 _).2,?_,trivial⟩;rw [e1,if_pos h];exact rfl
     ·dsimp only
      rw [decide_eq_false h];refine ⟨(P8 _).2,(P8 _).2,(P8 _).2,(P8 _).2,?_,trivial⟩;rw [e1,if_neg h];simp [F5,UC]
    ·simp only [GK,DQ,or_false] at hx;rcases hx with rfl|rfl|rfl|rfl|rfl<;>exact .x _
   ·unfold voE;rw [if_pos ⟨(bt_iff _ _ _).2 hb,by simpa using h6⟩]
   ·unfold voE;rw [if_neg (λh=>by
     have:=(bt_iff _ _ _).1 h.1;rw [←bt_iff,hb] at this;cases this)]
section
variable (s:HS)
def inE:Int:=rdE 4 100 20 30 s.nr s.ra s.rb s.ru s.rv 3 tbP tbQ s.pl s.ph 1 3
def baS(x0 x1:Int):HS:={s with pl:=x0,ph:=x1}
def baE(x0 x1:Int):Int:=if inE (baS s x0 x1)=0 then 0 else 2
def btS(x0 x1:Int):HS:={s with nb:=s.nb+1,ql:=HD s.nb s.ql x0,qh:=HD s.nb s.qh x1,qm:=λk=>if k<s.nb then s.qm k else 0}
def btE(x0 x1:Int):Int:=if bt 0 x0 x1=true/\x1<=1000 then (if s.nb<6 then 0 else 3) else 2
def isS(x0 x1 x2 x3:Int):HS:={s with nc:=s.nc+1,ca:=HD s.nc s.ca x0,cb:=HD s.nc s.cb x1,cc:=HD s.nc s.cc x2,cd:=HD s.nc s.cd x3,cv:=apB s.nc s.cv false}
def isE(x0 x1 x2 x3:Int):Int:=if asE 4 100 20 30 s.nr s.ra s.rb s.ru s.rv 3 tbP tbQ s.pl s.ph 1 3 x0 x1 x2 x3=0 then (if s.nc<10 then (if kpB 4 100 20 30 s.nr s.ra s.rb s.ru s.rv 3 tbP tbQ s.pl s.ph 1 3 x0 x1 x2 x3=true then 0 else 10) else 3) else 2
end
theorem hsI{s:HS}:UD 4 s.nr (λk=>[Bo.i (s.ra k),Bo.i (s.rb k),Bo.i (s.ru k),Bo.i (s.rv k)])/\UD 2 3 (λk=>[i (tbP k),i (tbQ k)]):=⟨Bo.isRec4 _ _ _ _ _,Pt.isRec2 _ _ _⟩
noncomputable abbrev Qh5:DV:=rN Tryz.prog [(184,DP)] {R:=[(45,L3)],H:=[] } [(114,FZ)] [] Tryz.f148 (U6 Tryz.f148)
theorem Qo5:D2 VN 148 (Qh5):=
 FP (G:=[(184,DP)]) (X:={R:=[(45,L3)],H:=[] }) (PX:=[(114,FZ)]) (L:=[]) (VJ.cons qO (VJ.nil _)) (VV.of (VP.cons F7 (VP.nil _)) (VM.nil _)) (UR.cons RN (UR.nil _)) VY (UF Tryz.func148) Tryz.func148 (US Tryz.f148) (λj cj _ sp hsp=>by simp at hsp)
abbrev YC(s:HS)(V:Nat->ByteArray):List AV:=[hR s.nr s,iI (VZ (U3 (UN 2) V 1)),iI (VZ (U3 (UN 2) V 2)),hY s.nb s,hC s.nc s,hT s.ns s]
theorem Xe2(V:Nat->ByteArray)(n:Nat)(str:ByteArray)(s:HS)(VR:vF str n (U3 (UN 2) V)):wE VN 90 [.ptr 0 0,.x (.string str)] (X7 s) 901 [[.ptr 0 0,.row 1,.row 2]] 182 (OS (baS s (VZ (V 0)) (VZ (V 1)))) (OX s) (rsE (fmE (U3 (UN 2) V) n 2 (baE s (VZ (V 0)) (VZ (V 1))))):=by
 refine LE (PX:=[(114,FZ),(115,zZ),(148,(Qh5))]) (L:=[yQ (U3 (UN 2) V) n 2 148 s]) (VJ.cons (L7 VR) (VJ.cons wC (VJ.nil _))) (VV.of (VP.nil _) (VM.nil _)) (UR.cons RN (UR.cons wJ (UR.cons (Qo5) (UR.nil _)))) VY (UF Tryz.func90) Tryz.func90 (US Tryz.f90) (LA (lpE (b:= .loop MY) VS<|uP (U3 (UN 2) V) n 2 148 s VR.2.2.2 (B0 VR))) (N:=[]) (t:=let z0:=(baS s (VZ (V 0)) (VZ (V 1)));let z1:=(U3 (UN 2) V (0:Int).toNat);let z2:=(need [[Q5]=[Q5],H5 (hL s) QU,QB s,QC s] (leaf (false,(4:Int))));(need [MQ str str {data:=#[32] }] (need [UI 0 n] (branch (wdO z1) (need [VK (wdM (wdK z1)+1)] (branch (!(n:Int)==wdM (wdK z1)+1) z2 (need [(0:Int)<=1/\(1:Int)<=(n:Int)/\(n:Int)<=(n:Int)] (need [QO,VX (lst 1 n λk=>[FM (U3 (UN 2) V k)]),ZQ,WI,(lst 1 (n-(1:Int).toNat) λi=>[AV.x (.string (U3 (UN 2) V ((1:Int).toNat+i)))])=lst 1 (n-1) λj=>[FM (U3 (UN 2) V (1+j))],(↑(n-(1:Int).toNat):Int)=(↑(n-1):Int),(0:Int)=(↑(0:Nat):Int),0=0,∀(i:Nat),i<0->[]=[iI (VZ (U3 (UN 2) V (1+i)))],wdM (wdK z1)=2,VX (AV.fn (Fn.func 148) [] []),XH s,JQ s,JR s,XW s,XN s,XO s,KL s,∀(i:Nat),i<s.xn->s.xg i=s.xg i,KM s,∀(i:Nat),i<s.yn->s.yg i=s.yg i,QO,JW,JX] (branch (nuB (U3 (UN 2) V) n) (need [UI 0 (↑(n-1):Int)] (need [(0:Int).toNat<n-1] (need [UI 1 (↑(n-1):Int)] (need [(1:Int).toNat<n-1] (need [UD 4 s.nr λk=>[Bo.i (s.ra k),Bo.i (s.rb k),Bo.i (s.ru k),Bo.i (s.rv k)],UD 2 3 λk=>[i (tbP k),i (tbQ k)]] (branch (!rdE (4:Int) (100:Int) (20:Int) (30:Int) s.nr (s.ra) (s.rb) (s.ru) (s.rv) 3 tbP tbQ (VZ (U3 (UN 2) V 1)) (VZ (U3 (UN 2) V 2)) (1:Int) (3:Int)==0) (need [[Q5]=[Q5],H5 (YC s V) QU,QB s,QC s] (leaf (false,(2:Int)))) (need [[Q5]=[Q5],H5 (YC s V) (hL z0),((38:TypeId),1,s.xn,s.xg)=((38:TypeId),1,z0.xn,z0.xg),((9:TypeId),1,s.yn,s.yg)=((9:TypeId),1,z0.yn,z0.yg)] (leaf (true,(0:Int)))))))))) (need [[Q5]=[Q5],H5 QU QU,QB s,QC s] (leaf (false,(4:Int))))))))) z2)))) VS ?_
 have hw:wdO (U3 (UN 2) V (Int.toNat 0))=true:=VS;have hm:wdM (wdK (U3 (UN 2) V (Int.toNat 0)))=2:=VS;have hn1:1<=n:=by have:=VR.2.1;omega
 have hnl:=B0 VR;simp only [VL.sat,UA,UG,hm,hw,true_imp_iff];refine ⟨⟨rfl,rfl⟩,⟨VI,VI⟩,⟨by simp only [VK];omega,λh4=>?_,λh4=>?_⟩,λh=>by cases h⟩
 ·exact V6
 ·have hN:n=2+1:=by
   simp at h4;omega
  refine ⟨⟨VI,VI,VI⟩,?_,λh5=>?_,λh5=>?_⟩
  rotate_left 2
  ·exact V7
  ·all_goals exact yE
  ·have hk1:n-1=2:=VI;rw [hk1];simp only [VK,Int.toNat_zero];refine ⟨VI,VI,VI,by decide,hsI,λh6=>⟨DH _ _ _ _ _ _,F4 hN h5 ?_ (by decide)⟩,λh6=>⟨⟨⟨B1 s,zD _,zD _,B4 s,B2 s,PA s,trivial⟩,rfl,rfl⟩,uB hN h5 ?_⟩⟩
   ·unfold baE;simp at h6;exact if_neg h6
   ·unfold baE;simp at h6;exact if_pos h6
noncomputable def fB:HY:=rO Tryz.prog [] {} [] Tryz.f189 (U6 Tryz.f189)
theorem iL:G9 VN 189 fB:=
 RJ (G:=[]) (X:=WE) (L:=[]) (VJ.nil _) (VV.of (VP.nil _) (VM.nil _)) VY (UF Tryz.func189) Tryz.func189 (US Tryz.f189) U2
noncomputable def Jm2:HY:=Wj6 Tryz.prog (Qc7 Tryz.prog [] {R:=[],H:=[(189,fB)] } []) Tryz.f186 (U6 Tryz.f186)
theorem Xg0:G9 VN 186 Jm2:=by
 have hX: ∀cx,VV VN {R:=[],H:=[(189,fB)] } cx:=(VV.of (VP.nil _) (VM.cons iL (VM.nil _)));exact oT (L:=[]) (λcx=>Wr0 (G:=[]) (X:={R:=[],H:=[(189,fB)] }) (VJ.nil _) (hX cx) VY) (UF Tryz.func186) Tryz.func186 (US Tryz.f186) U2
abbrev WQ(n:Nat)(lo:Nat->Int)(hi:Nat->Int)(m:Nat->Nat)(r:Nat->Nat->Int)(v:Nat->Nat->Int)(x0:Int)(x1:Int):AV:=lst 3 (0+n+1) (GG (0+n) (GG 0 (λx=>[]) λk=>[iI (lo k),iI (hi k),lst 2 (m k) λk_1=>[iI (r k k_1),iI (v k k_1)]]) (U4 3 [iI x0,iI x1,QA]))
abbrev J1(x0:Int)(x1:Int):AV:=lst 3 1 (GG 0 (λx=>[]) (U4 3 [iI x0,iI x1,QA]))
section
variable (n:Nat)(lo hi:Nat->Int)(m:Nat->Nat)(r v:Nat->Nat->Int)
theorem Zi9(x0 x1:Int)(VR:n<=100000):UM VN 186 [.lst 3 n (λk=>[i (lo k),i (hi k),rdl (m k) (r k) (v k)]),.agg [i x0,i x1,.x (.slice none 0 0)]] (.leaf (.lst 3 (n+1) (λk=>[i (HD n lo x0 k),i (HD n hi x1 k),rdl (if k<n then m k else 0) (r k) (v k)]))):=by
 refine SH Xg0 (t:=VL.may True (VL.may True (VL.may (n=0) (need [40<=140737488355328,RS 1 (U4 3 [iI x0,iI x1,QA])] (leaf (J1 x0 x1))) (need [(0+n)*40<=140737488355328,∀(i:Nat),i<n-> ∀(a:AV),a∈[iI (lo i),iI (hi i),rdl (m i) (r i) (v i)]->AV.one a=true] (need [(0+n+1)*40<=140737488355328,RS 1 (U4 3 [iI x0,iI x1,QA])] (leaf (WQ n lo hi m r v x0 x1))))) (VL.may True (VL.may (n=0) (need [40<=140737488355328,RS 1 (U4 3 [iI x0,iI x1,QA])] (leaf (J1 x0 x1))) (need [(0+n)*40<=140737488355328,∀(i:Nat),i<n-> ∀(a:AV),a∈[iI (lo i),iI (hi i),rdl (m i) (r i) (v i)]->AV.one a=true] (need [(0+n+1)*40<=140737488355328,RS 1 (U4 3 [iI x0,iI x1,QA])] (leaf (WQ n lo hi m r v x0 x1))))) (VL.may (n=0) (need [40<=140737488355328,RS 1 (U4 3 [iI x0,iI x1,QA])] (leaf (J1 x0 x1))) (need [(0+n)*40<=140737488355328,∀(i:Nat),i<n-> ∀(a:AV),a∈[iI (lo i),iI (hi i),rdl (m i) (r i) (v i)]->AV.one a=true] (need [(0+n+1)*40<=140737488355328,RS 1 (U4 3 [iI x0,iI x1,QA])] (leaf (WQ n lo hi m r v x0 x1))))))) (VL.may True (VL.may True (VL.may (n=0) (need [40<=140737488355328,RS 1 (U4 3 [iI x0,iI x1,QA])] (leaf (J1 x0 x1))) (need [(0+n)*40<=140737488355328,∀(i:Nat),i<n-> ∀(a:AV),a∈[iI (lo i),iI (hi i),rdl (m i) (r i) (v i)]->AV.one a=true] (need [(0+n+1)*40<=140737488355328,RS 1 (U4 3 [iI x0,iI x1,QA])] (leaf (WQ n lo hi m r v x0 x1))))) (VL.may (n=0) (need [40<=140737488355328,RS 1 (U4 3 [iI x0,iI x1,QA])] (leaf (J1 x0 x1))) (need [(0+n)*40<=140737488355328,∀(i:Nat),i<n-> ∀(a:AV),a∈[iI (lo i),iI (hi i),rdl (m i) (r i) (v i)]->AV.one a=true] (need [(0+n+1)*40<=140737488355328,RS 1 (U4 3 [iI x0,iI x1,QA])] (leaf (WQ n lo hi m r v x0 x1)))))) (VL.may (n=0) (need [40<=140737488355328,RS 1 (U4 3 [iI x0,iI x1,QA])] (leaf (J1 x0 x1))) (need [(0+n)*40<=140737488355328,∀(i:Nat),i<n-> ∀(a:AV),a∈[iI (lo i),iI (hi i),rdl (m i) (r i) (v i)]->AV.one a=true] (need [(0+n+1)*40<=140737488355328,RS 1 (U4 3 [iI x0,iI x1,QA])] (leaf (WQ n lo hi m r v x0 x1))))))) VS ?_;intro Q hQ;have hA: ∀(k:Nat),k<1-> ∀(a:AV),a∈U4 3 [i x0,i x1,AV.x (.slice none 0 0)] k->a.one=true:=by
  intro k hk a ha;obtain rfl:k=0:=VI;have ha:a∈[i x0,i x1,AV.x (.slice none 0 0)]:=ha;simp only [GK,DQ,or_false] at ha;rcases ha with rfl|rfl|rfl<;>simp [AV.one,Value.oneCell']
 have hB: ∀(k:Nat),k<n-> ∀(a:AV),a∈[i (lo k),i (hi k),rdl (m k) (r k) (v k)]->a.one=true:=by
  intro k hk a ha;simp only [GK,DQ,or_false] at ha;rcases ha with rfl|rfl|rfl<;>simp [AV.one,Value.oneCell']
 have hI: ∀(k:Nat),∀x∈[i (HD n lo x0 k),i (HD n hi x1 k),rdl (if k<n then m k else 0) (r k) (v k)],Idf x:=by
  intro k x hx;simp only [GK,DQ,or_false] at hx;rcases hx with rfl|rfl|rfl
  ·exact .x _
  ·exact .x _
  ·exact V9
 have hL: ∀k,n<=k->k<n+1->qC [i x0,i x1,AV.x (.slice none 0 0)] [i (HD n lo x0 k),i (HD n hi x1 k),rdl (if k<n then m k else 0) (r k) (v k)]:=by
  intro k h _;simp only [HD,if_neg (Nat.not_lt.2 h)];exact ⟨(P8 _).2,(P8 _).2,⟨True.intro,rfl⟩,trivial⟩
 have h1:n=0-> ∃r',dE (lst 3 1 (GG 0 (λx=>[]) (U4 3 [i x0,i x1,AV.x (.slice none 0 0)]))) r'/\Q r':=by
  intro h0;refine ⟨lst 3 (n+1) (λk=>[i (HD n lo x0 k),i (HD n hi x1 k),rdl (if k<n then m k else 0) (r k) (v k)]),⟨rfl,VI,λk hk=>⟨?_,hI k⟩⟩,hQ⟩
  obtain rfl:k=0:=VI;exact hL 0 VI VI
 have h2: ∃r',dE (lst 3 (0+n+1) (GG (0+n) (GG 0 (λx=>[]) λk=>[i (lo k),i (hi k),lst 2 (m k) λj=>[i (r k j),i (v k j)]]) (U4 3 [i x0,i x1,QA]))) r'/\Q r':=by
  refine ⟨lst 3 (n+1) (λk=>[i (HD n lo x0 k),i (HD n hi x1 k),rdl (if k<n then m k else 0) (r k) (v k)]),⟨rfl,VI,λk hk=>⟨?_,hI k⟩⟩,hQ⟩
  show qC (H6 (decide (k<0+n)) (GG 0 (λx=>[]) (λk=>[i (lo k),i (hi k),lst 2 (m k) λj=>[i (r k j),i (v k j)]]) k) (U4 3 [i x0,i x1,QA] (k-(0+n)))) _
  rw [lC,show k-(0+n)=0 by omega]
  by_cases h:k<n
  ·rw [show decide (k<0+n)=true from decide_eq_true VI];simp only [HD,if_pos h];exact ⟨(P8 _).2,(P8 _).2,⟨rfl,rfl,λ_ _=>rfl⟩,trivial⟩
  ·rw [show decide (k<0+n)=false from decide_eq_false VI];exact hL k VI VI
 simp only [VL.sat,UA,UG]
 (with_reducible repeat' first|apply And.intro|intro _)
 all_goals first|exact True.intro|omega|exact hA _ (by assumption) _ (by assumption)|exact hB _ (by assumption) _ (by assumption)|exact h2|exact h1 (by assumption)
def Qh1:D7:=λl=>match l with
 |[.lst 3 n1 f1,.agg [.x (.int .i64 x0),.x (.int .i64 x1),.x z]]=>some (.need [lst 3 n1 f1= .lst 3 n (λk=>[i (lo k),i (hi k),rdl (m k) (r k) (v k)]),z= .slice none 0 0,n<=100000] (.leaf (.lst 3 (n+1) (λk=>[i (HD n lo x0 k),i (HD n hi x1 k),rdl (if k<n then m k else 0) (r k) (v k)]))))
 |_=>none
theorem Xf9:Sx.Enters Tryz.prog 186/\ ∀avs t,Qh1 n lo hi m r v avs=some t->UM VN 186 avs t:=by
 refine ⟨(UF Tryz.func186),?_⟩;intro avs t h;unfold Qh1 at h;split at h
 ·cases h;intro Q hQ;obtain ⟨h1,h2⟩:=hQ;have e1:=h1.1;have e2:=h1.2.1;have e3:=h1.2.2;rw [e1,e2];exact Zi9 _ _ _ _ _ _ _ _ e3 Q h2
 ·cases h
end
noncomputable abbrev Qh4(s:HS):DV:=rN Tryz.prog [(37,RL)] {R:=[],H:=[],C:=[(186,(Qh1 s.nb s.ql s.qh s.qm s.qr s.qv))] } [(114,FZ)] [] Tryz.f149 (U6 Tryz.f149)
theorem Qo3(s:HS):D2 VN 149 (Qh4 s):=
 FP (G:=[(37,RL)]) (X:={R:=[],H:=[],C:=[(186,(Qh1 s.nb s.ql s.qh s.qm s.qr s.qv))] }) (PX:=[(114,FZ)]) (L:=[]) (VJ.cons PQ (VJ.nil _)) (VV.ofC (VP.nil _) (VM.nil _) (U9.cons (Xf9 s.nb s.ql s.qh s.qm s.qr s.qv) (U9.nil _))) (UR.cons RN (UR.nil _)) VY (UF Tryz.func149) Tryz.func149 (US Tryz.f149) (λj cj _ sp hsp=>by simp at hsp)
theorem Xe1(V:Nat->ByteArray)(n:Nat)(str:ByteArray)(s:HS)(VR:vF str n (U3 (UN 3) V))(UE:s.nb<=6):wE VN 90 [.ptr 0 0,.x (.string str)] (X7 s) 901 [[.ptr 0 0,.row 1,.row 2]] 182 (OS (btS s (VZ (V 0)) (VZ (V 1)))) (OX s) (rsE (fmE (U3 (UN 3) V) n 2 (btE s (VZ (V 0)) (VZ (V 1))))):=by
 refine LE (PX:=[(114,FZ),(115,zZ),(149,(Qh4 s))]) (L:=[yQ (U3 (UN 3) V) n 2 149 s]) (VJ.cons (L7 VR) (VJ.cons wC (VJ.nil _))) (VV.of (VP.nil _) (VM.nil _)) (UR.cons RN (UR.cons wJ (UR.cons (Qo3 s) (UR.nil _)))) VY (UF Tryz.func90) Tryz.func90 (US Tryz.f90) (LA (lpE (b:= .loop MY) VS<|uP (U3 (UN 3) V) n 2 149 s VR.2.2.2 (B0 VR))) (N:=[]) (t:=let z0:=(btS s (VZ (V 0)) (VZ (V 1)));let z1:=(U3 (UN 3) V (0:Int).toNat);let z2:=(need [[Q5]=[Q5],H5 (hL s) QU,QB s,QC s] (leaf (false,(4:Int))));let z3:=(need [[Q5]=[Q5],H5 (hL s) QU,QB s,QC s] (leaf (false,(2:Int))));(need [MQ str str {data:=#[32] }] (need [UI 0 n] (branch (wdO z1) (need [VK (wdM (wdK z1)+1)] (branch (!(n:Int)==wdM (wdK z1)+1) z2 (need [(0:Int)<=1/\(1:Int)<=(n:Int)/\(n:Int)<=(n:Int)] (need [QO,VX (lst 1 n λk=>[FM (U3 (UN 3) V k)]),ZQ,WI,(lst 1 (n-(1:Int).toNat) λi=>[AV.x (.string (U3 (UN 3) V ((1:Int).toNat+i)))])=lst 1 (n-1) λj=>[FM (U3 (UN 3) V (1+j))],(↑(n-(1:Int).toNat):Int)=(↑(n-1):Int),(0:Int)=(↑(0:Nat):Int),0=0,∀(i:Nat),i<0->[]=[iI (VZ (U3 (UN 3) V (1+i)))],wdM (wdK z1)=2,VX (AV.fn (Fn.func 149) [] []),XH s,JQ s,JR s,XW s,XN s,XO s,KL s,∀(i:Nat),i<s.xn->s.xg i=s.xg i,KM s,∀(i:Nat),i<s.yn->s.yg i=s.yg i,QO,JW,JX] (branch (nuB (U3 (UN 3) V) n) (need [UI 0 (↑(n-1):Int)] (need [(0:Int).toNat<n-1] (need [UI 1 (↑(n-1):Int)] (need [(1:Int).toNat<n-1] (branch (bt (0:Int) (VZ (U3 (UN 3) V 1)) (VZ (U3 (UN 3) V 2))) (need [UI 1 (↑(n-1):Int)] (need [(1:Int).toNat<n-1] (branch (!decide (VZ (U3 (UN 3) V 2)<=1000)) z3 (branch (!decide ((↑s.nb:Int)<6)) (need [[Q5]=[Q5],H5 (hL s) QU,QB s,QC s] (leaf (false,(3:Int)))) (need [UI 0 (↑(n-1):Int)] (need [(0:Int).toNat<n-1] (need [UI 1 (↑(n-1):Int)] (need [(1:Int).toNat<n-1] (need [(hY s.nb s)=lst 3 s.nb λk=>[iI (s.ql k),iI (s.qh k),lst 2 (s.qm k) λk_1=>[iI (s.qr k k_1),iI (s.qv k k_1)]],J3=J3,s.nb<=100000] (need [[Q5]=[Q5],H5 [hR s.nr s,iI s.pl,iI s.ph,lst 3 (s.nb+1) λk=>[iI (HD s.nb (s.ql) (VZ (U3 (UN 3) V 1)) k),iI (HD s.nb (s.qh) (VZ (U3 (UN 3) V 2)) k),lst 2 (if k<s.nb then s.qm k else 0) λk_1=>[iI (s.qr k k_1),iI (s.qv k k_1)]],hC s.nc s,hT s.ns s] (hL z0),((38:TypeId),1,s.xn,s.xg)=((38:TypeId),1,z0.xn,z0.xg),((9:TypeId),1,s.yn,s.yg)=((9:TypeId),1,z0.yn,z0.yg)] (leaf (true,(0:Int))))))))))))) z3))))) (need [[Q5]=[Q5],H5 QU QU,QB s,QC s] (leaf (false,(4:Int))))))))) z2)))) VS ?_
 have hw:wdO (U3 (UN 3) V (Int.toNat 0))=true:=VS;have hm:wdM (wdK (U3 (UN 3) V (Int.toNat 0)))=2:=VS;have hn1:1<=n:=by have:=VR.2.1;omega
 have hnl:=B0 VR;simp only [VL.sat,UA,UG,hm,hw,true_imp_iff];refine ⟨⟨rfl,rfl⟩,⟨VI,VI⟩,⟨by simp only [VK];omega,λh4=>?_,λh4=>?_⟩,λh=>by cases h⟩
 ·exact V6
 ·have hN:n=2+1:=by
   simp at h4;omega
  refine ⟨⟨VI,VI,VI⟩,?_,λh5=>?_,λh5=>?_⟩
  rotate_left 2
  ·exact V7
  ·all_goals exact yE
  ·have hk1:n-1=2:=VI;have hx0:VZ (U3 (UN 3) V 1)=VZ (V 0):=rfl;have hx1:VZ (U3 (UN 3) V 2)=VZ (V 1):=rfl;rw [hk1];simp only [hx0,hx1,Int.toNat_zero];refine ⟨VI,VI,VI,by decide,λhb=>⟨VI,by decide,λh6=>⟨DH _ _ _ _ _ _,F4 hN h5 ?_ (by decide)⟩,λh6=>⟨λh7=>⟨DH _ _ _ _ _ _,F4 hN h5 ?_ (by decide)⟩,λh7=>⟨VI,VI,VI,by decide,VI,⟨⟨B1 s,zD _,zD _,B4 (btS s (VZ (V 0)) (VZ (V 1))),B2 s,PA s,trivial⟩,rfl,rfl⟩,uB hN h5 ?_⟩⟩⟩,λhb=>⟨DH _ _ _ _ _ _,F4 hN h5 ?_ (by decide)⟩⟩
   ·simp at h6;exact if_neg λh=>VI
   ·simp at h6 h7;unfold btE;rw [if_pos ⟨hb,h6⟩,if_neg VI]
   ·simp at h6 h7;unfold btE;rw [if_pos ⟨hb,h6⟩,if_pos VI]
   ·exact if_neg λh=>by
     rw [hb] at h;cases h.1
def thS(s:HS)(x0 x1 x2 x3:Int):HS:={s with nr:=s.nr+1,ra:=HD s.nr s.ra x0,rb:=HD s.nr s.rb x1,ru:=HD s.nr s.ru x2,rv:=HD s.nr s.rv x3}
def thD(x0 x1 x2 x3:Int):Int:=eB 4 100 20 30 1 (λ_=>x0) (λ_=>x1) (λ_=>x2) (λ_=>x3)
def thE(s:HS)(x0 x1 x2 x3:Int):Int:=if (thD x0 x1 x2 x3==0||thD x0 x1 x2 x3==9)=true then (if s.nr<12 then (if inE (thS s x0 x1 x2 x3)=0 then 0 else 9) else 3) else 2
def cR(S:UV):D7:=λl=>match S l with
 |some (ns,r)=>some (.needT ns (.leaf r))
 |none=>none
theorem Qd0{P:Program}{f:FuncId}{S:UV}(h:LZ P f S):Sx.Enters P f/\ ∀avs t,cR S avs=some t->UM P f avs t:=by
 refine ⟨h.1,λavs t ht=>?_⟩
 unfold cR at ht;split at ht
 ·rename_i ns r hS;cases ht;intro Q hQ e w args h1 h2 h3 h4;obtain ⟨q1,q2⟩:=VL.sat_needT hQ;refine (h.2 _ _ _ hS (GB q1) e w args h1 h2 h3 h4).mono ?_;rintro en w' ⟨v,rfl,g1,g2⟩;exact ⟨v,r,rfl,q2,g1,g2⟩
 ·cases ht
def gO:UV
 |[.agg [.x (.int .i64 c),.x (.int .i64 T),.x (.int .i64 lo),.x (.int .i64 hi)],.lst 4 n f]=>match f 0 with
  |[.x (.int .i64 a),.x (.int .i64 b),.x (.int .i64 u),.x (.int .i64 v)]=>some ([n=1],.tup [i (dtB c T lo hi 1 (λ_=>a) (λ_=>b) (λ_=>u) (λ_=>v)),i (eB c T lo hi 1 (λ_=>a) (λ_=>b) (λ_=>u) (λ_=>v))])
  |_=>none
 |_=>none
theorem Qs5:VO VN 182 gO:=by
 refine ⟨(UF Tryz.func182),?_⟩;intro avs ns res h hn;unfold gO at h;split at h
 ·rename_i c T lo hi n f;split at h
  ·rename_i a b u v hf;cases h;obtain rfl:n=1:=hn _ GD;exact (Xa1 c T lo hi 1 (λ_=>a) (λ_=>b) (λ_=>u) (λ_=>v)).same (.cons (.refl _) (.cons (.lst 4 1 f _ (λk hk=>by
    obtain rfl:k=0:=VI;exact hf)) .nil))
  ·cases h
 ·cases h
theorem bnf{b:Bool}(h:(!b)=false):b=true:=by cases b<;>simp_all
theorem bnt{b:Bool}(h:(!b)=true):b=false:=by cases b<;>simp_all
section
variable {s:HS}{x0 x1 x2 x3:Int}
theorem Zv7(h:(thD x0 x1 x2 x3==0)=false)(h':(thD x0 x1 x2 x3==9)=false):thE s x0 x1 x2 x3=2:=by
 unfold thE;rw [h,h'];rfl
theorem Xp4(h:(thD x0 x1 x2 x3==0||thD x0 x1 x2 x3==9)=true)(h8:(!decide ((s.nr:Int)<12))=true):thE s x0 x1 x2 x3=3:=by
 unfold thE;simp at h8;rw [if_pos h,if_neg VI]
theorem Xp3(h:(thD x0 x1 x2 x3==0||thD x0 x1 x2 x3==9)=true)(h8:(!decide ((s.nr:Int)<12))=false)(h9:(!inE (thS s x0 x1 x2 x3)==0)=true):thE s x0 x1 x2 x3=9:=by
 unfold thE;simp at h8 h9;rw [if_pos h,if_pos VI,if_neg h9]
theorem Xp5(h:(thD x0 x1 x2 x3==0||thD x0 x1 x2 x3==9)=true)(h8:(!decide ((s.nr:Int)<12))=false)(h9:(!inE (thS s x0 x1 x2 x3)==0)=false):thE s x0 x1 x2 x3=0:=by
 unfold thE;simp at h8 h9;rw [if_pos h,if_pos VI,if_pos h9]
end
noncomputable abbrev S8(s:HS):DV:=rN Tryz.prog [(182,gO),(184,DP),(183,(Qg9 s.nr s.ra s.rb s.ru s.rv))] {R:=[(45,L3)],H:=[],C:=[(45,(cR L3))] } [(114,FZ)] [] Tryz.f146 (U6 Tryz.f146)
theorem eV(s:HS):D2 VN 146 (S8 s):=
 FP (G:=[(182,gO),(184,DP),(183,(Qg9 s.nr s.ra s.rb s.ru s.rv))]) (X:={R:=[(45,L3)],H:=[],C:=[(45,(cR L3))] }) (PX:=[(114,FZ)]) (L:=[]) (VJ.cons Qs5 (VJ.cons qO (VJ.cons (Xf7 s.nr s.ra s.rb s.ru s.rv) (VJ.nil _)))) (VV.ofC (VP.cons F7 (VP.nil _)) (VM.nil _) (U9.cons (Qd0 F7) (U9.nil _))) (UR.cons RN (UR.nil _)) VY (UF Tryz.func146) Tryz.func146 (US Tryz.f146) (λj cj _ sp hsp=>by simp at hsp)
abbrev W9(s:HS)(V:Nat->ByteArray):List AV:=[lst 4 (s.nr+1) λk=>[iI (HD s.nr (s.ra) (VZ (U3 (UN 0) V 1)) k),iI (HD s.nr (s.rb) (VZ (U3 (UN 0) V 2)) k),iI (HD s.nr (s.ru) (VZ (U3 (UN 0) V 3)) k),iI (HD s.nr (s.rv) (VZ (U3 (UN 0) V 4)) k)],iI s.pl,iI s.ph,hY s.nb s,hC s.nc s,hT s.ns s]
theorem Ql9(V:Nat->ByteArray)(n:Nat)(str:ByteArray)(s:HS)(VR:vF str n (U3 (UN 0) V))(UE:s.nr<=12):wE VN 90 [.ptr 0 0,.x (.string str)] (X7 s) 901 [[.ptr 0 0,.row 1,.row 2]] 182 (OS (thS s (VZ (V 0)) (VZ (V 1)) (VZ (V 2)) (VZ (V 3)))) (OX s) (rsE (fmE (U3 (UN 0) V) n 4 (thE s (VZ (V 0)) (VZ (V 1)) (VZ (V 2)) (VZ (V 3))))):=by
 refine LE (PX:=[(114,FZ),(115,zZ),(146,(S8 s))]) (L:=[yQ (U3 (UN 0) V) n 4 146 s]) (VJ.cons (L7 VR) (VJ.cons wC (VJ.nil _))) (VV.of (VP.nil _) (VM.nil _)) (UR.cons RN (UR.cons wJ (UR.cons (eV s) (UR.nil _)))) VY (UF Tryz.func90) Tryz.func90 (US Tryz.f90) (LA (lpE (b:= .loop MY) VS<|uP (U3 (UN 0) V) n 4 146 s VR.2.2.2 (B0 VR))) (N:=[]) (t:=let z1:=(thS s (VZ (V 0)) (VZ (V 1)) (VZ (V 2)) (VZ (V 3)));let z0:=(branch (!decide ((↑s.nr:Int)<12)) (need [[Q5]=[Q5],H5 (hL s) QU,QB s,QC s] (leaf (false,(3:Int)))) (need [XH s,s.nr<=100000] (need [UD 4 (s.nr+1) λk=>[Bo.i (HD s.nr (s.ra) (VZ (U3 (UN 0) V 1)) k),Bo.i (HD s.nr (s.rb) (VZ (U3 (UN 0) V 2)) k),Bo.i (HD s.nr (s.ru) (VZ (U3 (UN 0) V 3)) k),Bo.i (HD s.nr (s.rv) (VZ (U3 (UN 0) V 4)) k)],UD 2 3 λk=>[i (tbP k),i (tbQ k)]] (branch (!rdE (4:Int) (100:Int) (20:Int) (30:Int) (s.nr+1) (HD s.nr (s.ra) (VZ (U3 (UN 0) V 1))) (HD s.nr (s.rb) (VZ (U3 (UN 0) V 2))) (HD s.nr (s.ru) (VZ (U3 (UN 0) V 3))) (HD s.nr (s.rv) (VZ (U3 (UN 0) V 4))) 3 tbP tbQ s.pl s.ph (1:Int) (3:Int)==0) (need [[Q5]=[Q5],H5 (W9 s V) QU,QB s,QC s] (leaf (false,(9:Int)))) (need [[Q5]=[Q5],H5 (W9 s V) (hL z1),((38:TypeId),1,s.xn,s.xg)=((38:TypeId),1,z1.xn,z1.xg),((9:TypeId),1,s.yn,s.yg)=((9:TypeId),1,z1.yn,z1.yg)] (leaf (true,(0:Int))))))));let z2:=(eB (4:Int) (100:Int) (20:Int) (30:Int) 1 (λx=>VZ (U3 (UN 0) V 1)) (λx=>VZ (U3 (UN 0) V 2)) (λx=>VZ (U3 (UN 0) V 3)) λx=>VZ (U3 (UN 0) V 4));let z3:=(U3 (UN 0) V (0:Int).toNat);let z4:=(need [[Q5]=[Q5],H5 (hL s) QU,QB s,QC s] (leaf (false,(4:Int))));(need [MQ str str {data:=#[32] }] (need [UI 0 n] (branch (wdO z3) (need [VK (wdM (wdK z3)+1)] (branch (!(n:Int)==wdM (wdK z3)+1) z4 (need [(0:Int)<=1/\(1:Int)<=(n:Int)/\(n:Int)<=(n:Int)] (need [QO,VX (lst 1 n λk=>[FM (U3 (UN 0) V k)]),ZQ,WI,(lst 1 (n-(1:Int).toNat) λi=>[AV.x (.string (U3 (UN 0) V ((1:Int).toNat+i)))])=lst 1 (n-1) λj=>[FM (U3 (UN 0) V (1+j))],(↑(n-(1:Int).toNat):Int)=(↑(n-1):Int),(0:Int)=(↑(0:Nat):Int),0=0,∀(i:Nat),i<0->[]=[iI (VZ (U3 (UN 0) V (1+i)))],wdM (wdK z3)=4,VX (AV.fn (Fn.func 146) [] []),XH s,JQ s,JR s,XW s,XN s,XO s,KL s,∀(i:Nat),i<s.xn->s.xg i=s.xg i,KM s,∀(i:Nat),i<s.yn->s.yg i=s.yg i,QO,JW,JX] (branch (nuB (U3 (UN 0) V) n) (need [UI 0 (↑(n-1):Int)] (need [(0:Int).toNat<n-1] (need [UI 1 (↑(n-1):Int)] (need [(1:Int).toNat<n-1] (need [UI 2 (↑(n-1):Int)] (need [(2:Int).toNat<n-1] (need [UI 3 (↑(n-1):Int)] (need [(3:Int).toNat<n-1] (need [1=1] (branch (z2==0) z0 (branch (!z2==9) (need [[Q5]=[Q5],H5 (hL s) QU,QB s,QC s] (leaf (false,(2:Int)))) z0))))))))))) (need [[Q5]=[Q5],H5 QU QU,QB s,QC s] (leaf (false,(4:Int))))))))) z4)))) VS ?_
 have hw:wdO (U3 (UN 0) V (Int.toNat 0))=true:=VS;have hm:wdM (wdK (U3 (UN 0) V (Int.toNat 0)))=4:=VS;have hn1:1<=n:=by have:=VR.2.1;omega
 have hnl:=B0 VR;simp only [VL.sat,UA,UG,hm,hw,true_imp_iff];refine ⟨⟨rfl,rfl⟩,⟨VI,VI⟩,⟨by simp only [VK];omega,λh4=>?_,λh4=>?_⟩,λh=>by cases h⟩
 ·exact V6
 ·have hN:n=4+1:=by
   simp at h4;omega
  refine ⟨⟨VI,VI,VI⟩,?_,λh5=>?_,λh5=>?_⟩
  rotate_left 2
  ·exact V7
  ·all_goals exact yE
  ·have hk1:n-1=4:=VI;have hx0:VZ (U3 (UN 0) V 1)=VZ (V 0):=rfl;have hx1:VZ (U3 (UN 0) V 2)=VZ (V 1):=rfl;have hx2:VZ (U3 (UN 0) V 3)=VZ (V 2):=rfl;have hx3:VZ (U3 (UN 0) V 4)=VZ (V 3):=rfl;rw [hk1];simp only [hx0,hx1,hx2,hx3];refine ⟨VI,by decide,VI,by decide,VI,by decide,VI,by decide,λh6=>⟨λh8=>⟨DH _ _ _ _ _ _,F4 hN h5 (Xp4 (Bool.or_eq_true_iff.2 (.inl h6)) h8) (by decide)⟩,λh8=>⟨VI,⟨Bo.isRec4 _ _ _ _ _,Pt.isRec2 _ _ _⟩,λh9=>⟨DH _ _ _ _ _ _,F4 hN h5 (Xp3 (Bool.or_eq_true_iff.2 (.inl h6)) h8 h9) (by decide)⟩,λh9=>⟨⟨⟨B1 (thS s (VZ (V 0)) (VZ (V 1)) (VZ (V 2)) (VZ (V 3))),zD _,zD _,B4 s,B2 s,PA s,trivial⟩,rfl,rfl⟩,uB hN h5 (Xp5 (Bool.or_eq_true_iff.2 (.inl h6)) h8 h9)⟩⟩⟩,λh6=>⟨λh7=>⟨DH _ _ _ _ _ _,F4 hN h5 (Zv7 h6 (bnt h7)) (by decide)⟩,λh7=>⟨λh8=>⟨DH _ _ _ _ _ _,F4 hN h5 (Xp4 (Bool.or_eq_true_iff.2 (.inr (bnf h7))) h8) (by decide)⟩,λh8=>⟨VI,⟨Bo.isRec4 _ _ _ _ _,Pt.isRec2 _ _ _⟩,λh9=>⟨DH _ _ _ _ _ _,F4 hN h5 (Xp3 (Bool.or_eq_true_iff.2 (.inr (bnf h7))) h8 h9) (by decide)⟩,λh9=>⟨⟨⟨B1 (thS s (VZ (V 0)) (VZ (V 1)) (VZ (V 2)) (VZ (V 3))),zD _,zD _,B4 s,B2 s,PA s,trivial⟩,rfl,rfl⟩,uB hN h5 (Xp5 (Bool.or_eq_true_iff.2 (.inr (bnf h7))) h8 h9)⟩⟩⟩⟩⟩
section
variable {s:HS}{x0 x1 x2 x3:Int}
theorem Jb7(h6:(!asE 4 100 20 30 s.nr s.ra s.rb s.ru s.rv 3 tbP tbQ s.pl s.ph 1 3 x0 x1 x2 x3==0)=true):isE s x0 x1 x2 x3=2:=by
 unfold isE;simp at h6;rw [if_neg h6]
theorem Jb6(h6:(!asE 4 100 20 30 s.nr s.ra s.rb s.ru s.rv 3 tbP tbQ s.pl s.ph 1 3 x0 x1 x2 x3==0)=false)(h7:(!decide ((s.nc:Int)<10))=true):isE s x0 x1 x2 x3=3:=by
 unfold isE;simp at h6 h7;rw [if_pos h6,if_neg VI]
theorem Zi1(h6:(!asE 4 100 20 30 s.nr s.ra s.rb s.ru s.rv 3 tbP tbQ s.pl s.ph 1 3 x0 x1 x2 x3==0)=false)(h7:(!decide ((s.nc:Int)<10))=false)(h8:(!kpB 4 100 20 30 s.nr s.ra s.rb s.ru s.rv 3 tbP tbQ s.pl s.ph 1 3 x0 x1 x2 x3)=true):isE s x0 x1 x2 x3=10:=by
 unfold isE;simp at h6 h7 h8;rw [if_pos h6,if_pos VI,h8,if_neg (by decide)]
theorem Jb8(h6:(!asE 4 100 20 30 s.nr s.ra s.rb s.ru s.rv 3 tbP tbQ s.pl s.ph 1 3 x0 x1 x2 x3==0)=false)(h7:(!decide ((s.nc:Int)<10))=false)(h8:(!kpB 4 100 20 30 s.nr s.ra s.rb s.ru s.rv 3 tbP tbQ s.pl s.ph 1 3 x0 x1 x2 x3)=false):isE s x0 x1 x2 x3=0:=by
 unfold isE;simp at h6 h7 h8;rw [if_pos h6,if_pos VI,h8,if_pos rfl]
end
noncomputable abbrev mC(s:HS):DV:=rN Tryz.prog [(71,aU),(191,(Qh0 s.nc s.ca s.cb s.cc s.cd s.cv))] {R:=[],H:=[],C:=[(45,(cR L3))] } [(114,FZ)] [] Tryz.f151 (U6 Tryz.f151)
theorem p8(s:HS):D2 VN 151 (mC s):=
 FP (G:=[(71,aU),(191,(Qh0 s.nc s.ca s.cb s.cc s.cd s.cv))]) (X:={R:=[],H:=[],C:=[(45,(cR L3))] }) (PX:=[(114,FZ)]) (L:=[]) (VJ.cons Qh8 (VJ.cons (Xf8 s.nc s.ca s.cb s.cc s.cd s.cv) (VJ.nil _))) (VV.ofC (VP.nil _) (VM.nil _) (U9.cons (Qd0 F7) (U9.nil _))) (UR.cons RN (UR.nil _)) VY (UF Tryz.func151) Tryz.func151 (US Tryz.f151) (λj cj _ sp hsp=>by simp at hsp)
theorem We4(V:Nat->ByteArray)(n:Nat)(str:ByteArray)(s:HS)(VR:vF str n (U3 (UN 5) V))(UE:s.nc<=10):wE VN 90 [.ptr 0 0,.x (.string str)] (X7 s) 901 [[.ptr 0 0,.row 1,.row 2]] 182 (OS (isS s (VZ (V 0)) (VZ (V 1)) (VZ (V 2)) (VZ (V 3)))) (OX s) (rsE (fmE (U3 (UN 5) V) n 4 (isE s (VZ (V 0)) (VZ (V 1)) (VZ (V 2)) (VZ (V 3))))):=by
 refine LE (PX:=[(114,FZ),(115,zZ),(151,(mC s))]) (L:=[yQ (U3 (UN 5) V) n 4 151 s]) (VJ.cons (L7 VR) (VJ.cons wC (VJ.nil _))) (VV.of (VP.nil _) (VM.nil _)) (UR.cons RN (UR.cons wJ (UR.cons (p8 s) (UR.nil _)))) VY (UF Tryz.func90) Tryz.func90 (US Tryz.f90) (LA (lpE (b:= .loop MY) VS<|uP (U3 (UN 5) V) n 4 151 s VR.2.2.2 (B0 VR))) (N:=[]) (t:=let z0:=(isS s (VZ (V 0)) (VZ (V 1)) (VZ (V 2)) (VZ (V 3)));let z1:=(U3 (UN 5) V (0:Int).toNat);let z2:=(need [[Q5]=[Q5],H5 (hL s) QU,QB s,QC s] (leaf (false,(4:Int))));let z3:=(VZ (U3 (UN 5) V 1));let z4:=(VZ (U3 (UN 5) V 2));let z5:=(VZ (U3 (UN 5) V 3));let z6:=(VZ (U3 (UN 5) V 4));(need [MQ str str {data:=#[32] }] (need [UI 0 n] (branch (wdO z1) (need [VK (wdM (wdK z1)+1)] (branch (!(n:Int)==wdM (wdK z1)+1) z2 (need [(0:Int)<=1/\(1:Int)<=(n:Int)/\(n:Int)<=(n:Int)] (need [QO,VX (lst 1 n λk=>[FM (U3 (UN 5) V k)]),ZQ,WI,(lst 1 (n-(1:Int).toNat) λi=>[AV.x (.string (U3 (UN 5) V ((1:Int).toNat+i)))])=lst 1 (n-1) λj=>[FM (U3 (UN 5) V (1+j))],(↑(n-(1:Int).toNat):Int)=(↑(n-1):Int),(0:Int)=(↑(0:Nat):Int),0=0,∀(i:Nat),i<0->[]=[iI (VZ (U3 (UN 5) V (1+i)))],wdM (wdK z1)=4,VX (AV.fn (Fn.func 151) [] []),XH s,JQ s,JR s,XW s,XN s,XO s,KL s,∀(i:Nat),i<s.xn->s.xg i=s.xg i,KM s,∀(i:Nat),i<s.yn->s.yg i=s.yg i,QO,JW,JX] (branch (nuB (U3 (UN 5) V) n) (need [UI 0 (↑(n-1):Int)] (need [(0:Int).toNat<n-1] (need [UI 1 (↑(n-1):Int)] (need [(1:Int).toNat<n-1] (need [UI 2 (↑(n-1):Int)] (need [(2:Int).toNat<n-1] (need [UI 3 (↑(n-1):Int)] (need [(3:Int).toNat<n-1] (need [UD 4 s.nr λk=>[Bo.i (s.ra k),Bo.i (s.rb k),Bo.i (s.ru k),Bo.i (s.rv k)],UD 2 3 λk=>[i (tbP k),i (tbQ k)]] (branch (!asE (4:Int) (100:Int) (20:Int) (30:Int) s.nr (s.ra) (s.rb) (s.ru) (s.rv) 3 tbP tbQ s.pl s.ph (1:Int) (3:Int) z3 z4 z5 z6==0) (need [[Q5]=[Q5],H5 (hL s) QU,QB s,QC s] (leaf (false,(2:Int)))) (branch (!decide ((↑s.nc:Int)<10)) (need [[Q5]=[Q5],H5 (hL s) QU,QB s,QC s] (leaf (false,(3:Int)))) (branch (!kpB (4:Int) (100:Int) (20:Int) (30:Int) s.nr (s.ra) (s.rb) (s.ru) (s.rv) 3 tbP tbQ s.pl s.ph (1:Int) (3:Int) z3 z4 z5 z6) (need [[Q5]=[Q5],H5 (hL s) QU,QB s,QC s] (leaf (false,(10:Int)))) (need [XN s,s.nc<=100000] (need [[Q5]=[Q5],H5 [hR s.nr s,iI s.pl,iI s.ph,hY s.nb s,lst 5 (s.nc+1) λk=>[iI (HD s.nc (s.ca) z3 k),iI (HD s.nc (s.cb) z4 k),iI (HD s.nc (s.cc) z5 k),iI (HD s.nc (s.cd) z6 k),AV.x (.bool (apB s.nc (s.cv) false k))],hT s.ns s] (hL z0),((38:TypeId),1,s.xn,s.xg)=((38:TypeId),1,z0.xn,z0.xg),((9:TypeId),1,s.yn,s.yg)=((9:TypeId),1,z0.yn,z0.yg)] (leaf (true,(0:Int))))))))))))))))) (need [[Q5]=[Q5],H5 QU QU,QB s,QC s] (leaf (false,(4:Int))))))))) z2)))) VS ?_
 have hw:wdO (U3 (UN 5) V (Int.toNat 0))=true:=VS;have hm:wdM (wdK (U3 (UN 5) V (Int.toNat 0)))=4:=VS;have hn1:1<=n:=by have:=VR.2.1;omega
 have hnl:=B0 VR;simp only [VL.sat,UA,UG,hm,hw,true_imp_iff];refine ⟨⟨rfl,rfl⟩,⟨VI,VI⟩,⟨by simp only [VK];omega,λh4=>?_,λh4=>?_⟩,λh=>by cases h⟩
 ·exact V6
 ·have hN:n=4+1:=by
   simp at h4;omega
  refine ⟨⟨VI,VI,VI⟩,?_,λh5=>?_,λh5=>?_⟩
  rotate_left 2
  ·exact V7
  ·all_goals exact yE
  ·have hk1:n-1=4:=VI;have hx0:VZ (U3 (UN 5) V 1)=VZ (V 0):=rfl;have hx1:VZ (U3 (UN 5) V 2)=VZ (V 1):=rfl;have hx2:VZ (U3 (UN 5) V 3)=VZ (V 2):=rfl;have hx3:VZ (U3 (UN 5) V 4)=VZ (V 3):=rfl;rw [hk1];simp only [hx0,hx1,hx2,hx3];refine ⟨VI,by decide,VI,by decide,VI,by decide,VI,by decide,⟨Bo.isRec4 _ _ _ _ _,Pt.isRec2 _ _ _⟩,λh6=>⟨DH _ _ _ _ _ _,F4 hN h5 (Jb7 h6) (by decide)⟩,λh6=>⟨λh7=>⟨DH _ _ _ _ _ _,F4 hN h5 (Jb6 h6 h7) (by decide)⟩,λh7=>⟨λh8=>⟨DH _ _ _ _ _ _,F4 hN h5 (Zi1 h6 h7 h8) (by decide)⟩,λh8=>⟨VI,⟨⟨B1 s,zD _,zD _,B4 s,B2 (isS s (VZ (V 0)) (VZ (V 1)) (VZ (V 2)) (VZ (V 3))),PA s,trivial⟩,rfl,rfl⟩,uB hN h5 (Jb8 h6 h7 h8)⟩⟩⟩⟩
section
variable (s:HS)(x0 x1 x2 x3 x4:Int)
def slS:HS:={s with ns:=s.ns+1,sa:=HD s.ns s.sa x0,sb:=HD s.ns s.sb x1,sc:=HD s.ns s.sc x2,sl:=HD s.ns s.sl x3,sh:=HD s.ns s.sh x4}
def slE:Int:=if saB x0 x1 x2 x3 x4=true then (if s.ns<8 then (if orE (s.ns+1) (HD s.ns s.sa x0) (HD s.ns s.sb x1) (HD s.ns s.sc x2) (HD s.ns s.sl x3) (HD s.ns s.sh x4)=0 then 0 else 9) else 3) else 2
end
def y7:UV
 |[.agg [.x (.int .i64 c),.x (.int .i64 t),.lst 5 n f]]=>match f 0 with
  |[.x (.int .i64 x0),.x (.int .i64 x1),.x (.int .i64 x2),.x (.int .i64 x3),.x (.int .i64 x4)]=>some ([n=1,c=4,t=10],i (if saB x0 x1 x2 x3 x4=true then 0 else 1))
  |_=>none
 |_=>none
def dV(n:Nat)(a b c lo hi:Nat->Int):UV:=λl=>some ([sV n a b c lo hi,l=[.agg [i 4,i 10,sls n a b c lo hi]]],.tup [.top,.top,i (orE n a b c lo hi)])
theorem nR:VO VN 48 y7:=by
 refine ⟨(UF Tryz.func48),?_⟩;intro avs ns res h hn;unfold y7 at h;split at h
 ·rename_i c t n f;split at h
  ·rename_i x0 x1 x2 x3 x4 hf;cases h;obtain rfl:n=1:=hn _ VU;obtain rfl:c=4:=hn (c=4) VU;obtain rfl:t=10:=hn (t=10) VU;have h1:=(NH 1 (λ_=>x0) (λ_=>x1) (λ_=>x2) (λ_=>x3) (λ_=>x4) VI).same (.cons (LT.same (.cons (.refl _) (.cons (.refl _) (.cons (.lst 5 1 f _ (λk hk=>by
    obtain rfl:k=0:=VI;exact hf)) .nil)))) .nil)
   have e:zT 1 (λ_=>x0) (λ_=>x1) (λ_=>x2) (λ_=>x3) (λ_=>x4)=saB x0 x1 x2 x3 x4:=by
    unfold zT;cases hb:saB x0 x1 x2 x3 x4 with
    |true=>exact GR.2 λj _=>hb
    |false=>exact Bool.eq_false_iff.2 λh=>Bool.noConfusion (hb.symm.trans (GR.1 h 0 VI))
   rw [e] at h1;exact h1
  ·cases h
 ·cases h
theorem nQ(n:Nat)(a b c lo hi:Nat->Int):VO VN 193 (dV n a b c lo hi):=by
 refine ⟨(UF Tryz.func193),?_⟩;intro avs ns res h hn;cases h;have e:=hn _ (HN _ GD);subst e;exact Qk8 n a b c lo hi (hn _ GD)
section
variable {s:HS}{x0 x1 x2 x3 x4:Int}
theorem Zw5(h:saB x0 x1 x2 x3 x4=false):slE s x0 x1 x2 x3 x4=2:=by
 unfold slE;rw [h];rfl
theorem Zw4(h:saB x0 x1 x2 x3 x4=true)(h7:(!decide ((s.ns:Int)<8))=true):slE s x0 x1 x2 x3 x4=3:=by
 unfold slE;simp at h7;rw [if_pos h,if_neg VI]
theorem Zw3(h:saB x0 x1 x2 x3 x4=true)(h7:(!decide ((s.ns:Int)<8))=false)(h8:(!orE (s.ns+1) (HD s.ns s.sa x0) (HD s.ns s.sb x1) (HD s.ns s.sc x2) (HD s.ns s.sl x3) (HD s.ns s.sh x4)==0)=true):slE s x0 x1 x2 x3 x4=9:=by
 unfold slE;simp at h7 h8;rw [if_pos h,if_pos VI,if_neg h8]
theorem Zw6(h:saB x0 x1 x2 x3 x4=true)(h7:(!decide ((s.ns:Int)<8))=false)(h8:(!orE (s.ns+1) (HD s.ns s.sa x0) (HD s.ns s.sb x1) (HD s.ns s.sc x2) (HD s.ns s.sl x3) (HD s.ns s.sh x4)==0)=false):slE s x0 x1 x2 x3 x4=0:=by
 unfold slE;simp at h7 h8;rw [if_pos h,if_pos VI,if_pos h8]
theorem slV(h:saB x0 x1 x2 x3 x4=true)(h7:(!decide ((s.ns:Int)<8))=false)(hs:sV s.ns s.sa s.sb s.sc s.sl s.sh):sV (s.ns+1) (HD s.ns s.sa x0) (HD s.ns s.sb x1) (HD s.ns s.sc x2) (HD s.ns s.sl x3) (HD s.ns s.sh x4):=by
 simp at h7;refine ⟨VI,λk hk=>?_⟩
 unfold HD;by_cases hk':k<s.ns
 ·simp only [if_pos hk'];exact hs.2 k hk'
 ·simp only [if_neg hk'];exact h
end
theorem ifB{b:Bool}(h:(!(if b=true then (0:Int) else 1)==0)=false):b=true:=by cases b<;>simp_all
theorem ifB'{b:Bool}(h:(!(if b=true then (0:Int) else 1)==0)=true):b=false:=by cases b<;>simp_all
noncomputable def M8:HY:=rO Tryz.prog [] {} [] Tryz.f40 (U6 Tryz.f40)
theorem pF:G9 VN 40 M8:=
 RJ (G:=[]) (X:=WE) (L:=[]) (VJ.nil _) (VV.of (VP.nil _) (VM.nil _)) VY (UF Tryz.func40) Tryz.func40 (US Tryz.f40) U2
section
variable (s:HS)(x0 x1 x2 x3 x4:Int)
noncomputable abbrev Qh3:DV:=rN Tryz.prog [(48,y7),(192,(Qg8 s.ns s.sa s.sb s.sc s.sl s.sh)),(193,(dV (s.ns+1) (HD s.ns s.sa x0) (HD s.ns s.sb x1) (HD s.ns s.sc x2) (HD s.ns s.sl x3) (HD s.ns s.sh x4)))] {R:=[],H:=[(40,M8)] } [(114,FZ)] [] Tryz.f153 (U6 Tryz.f153)
theorem Qn6:D2 VN 153 (Qh3 s x0 x1 x2 x3 x4):=
 FP (G:=[(48,y7),(192,(Qg8 s.ns s.sa s.sb s.sc s.sl s.sh)),(193,(dV (s.ns+1) (HD s.ns s.sa x0) (HD s.ns s.sb x1) (HD s.ns s.sc x2) (HD s.ns s.sl x3) (HD s.ns s.sh x4)))]) (X:={R:=[],H:=[(40,M8)] }) (PX:=[(114,FZ)]) (L:=[]) (VJ.cons nR (VJ.cons (Xf6 s.ns s.sa s.sb s.sc s.sl s.sh) (VJ.cons (nQ (s.ns+1) (HD s.ns s.sa x0) (HD s.ns s.sb x1) (HD s.ns s.sc x2) (HD s.ns s.sl x3) (HD s.ns s.sh x4)) (VJ.nil _)))) (VV.of (VP.nil _) (VM.cons pF (VM.nil _))) (UR.cons RN (UR.nil _)) VY (UF Tryz.func153) Tryz.func153 (US Tryz.f153) (λj cj _ sp hsp=>by simp at hsp)
end
abbrev Z9(s:HS)(V:Nat->ByteArray):List AV:=[hR s.nr s,iI s.pl,iI s.ph,hY s.nb s,hC s.nc s,lst 5 (s.ns+1) λk=>[iI (HD s.ns (s.sa) (VZ (U3 (UN 7) V 1)) k),iI (HD s.ns (s.sb) (VZ (U3 (UN 7) V 2)) k),iI (HD s.ns (s.sc) (VZ (U3 (UN 7) V 3)) k),iI (HD s.ns (s.sl) (VZ (U3 (UN 7) V 4)) k),iI (HD s.ns (s.sh) (VZ (U3 (UN 7) V 5)) k)]]
theorem Xe0(V:Nat->ByteArray)(n:Nat)(str:ByteArray)(s:HS)(VR:vF str n (U3 (UN 7) V))(UE:sV s.ns s.sa s.sb s.sc s.sl s.sh):wE VN 90 [.ptr 0 0,.x (.string str)] (X7 s) 901 [[.ptr 0 0,.row 1,.row 2]] 182 (OS (slS s (VZ (V 0)) (VZ (V 1)) (VZ (V 2)) (VZ (V 3)) (VZ (V 4)))) (OX s) (rsE (fmE (U3 (UN 7) V) n 5 (slE s (VZ (V 0)) (VZ (V 1)) (VZ (V 2)) (VZ (V 3)) (VZ (V 4))))):=by
 refine LE (PX:=[(114,FZ),(115,zZ),(153,(Qh3 s (VZ (V 0)) (VZ (V 1)) (VZ (V 2)) (VZ (V 3)) (VZ (V 4))))]) (L:=[yQ (U3 (UN 7) V) n 5 153 s]) (VJ.cons (L7 VR) (VJ.cons wC (VJ.nil _))) (VV.of (VP.nil _) (VM.nil _)) (UR.cons RN (UR.cons wJ (UR.cons (Qn6 s (VZ (V 0)) (VZ (V 1)) (VZ (V 2)) (VZ (V 3)) (VZ (V 4))) (UR.nil _)))) VY (UF Tryz.func90) Tryz.func90 (US Tryz.f90) (LA (lpE (b:= .loop MY) VS<|uP (U3 (UN 7) V) n 5 153 s VR.2.2.2 (B0 VR))) (N:=[]) (t:=let z0:=(slS s (VZ (V 0)) (VZ (V 1)) (VZ (V 2)) (VZ (V 3)) (VZ (V 4)));let z1:=(U3 (UN 7) V (0:Int).toNat);let z2:=(need [[Q5]=[Q5],H5 (hL s) QU,QB s,QC s] (leaf (false,(4:Int))));(need [MQ str str {data:=#[32] }] (need [UI 0 n] (branch (wdO z1) (need [VK (wdM (wdK z1)+1)] (branch (!(n:Int)==wdM (wdK z1)+1) z2 (need [(0:Int)<=1/\(1:Int)<=(n:Int)/\(n:Int)<=(n:Int)] (need [QO,VX (lst 1 n λk=>[FM (U3 (UN 7) V k)]),ZQ,WI,(lst 1 (n-(1:Int).toNat) λi=>[AV.x (.string (U3 (UN 7) V ((1:Int).toNat+i)))])=lst 1 (n-1) λj=>[FM (U3 (UN 7) V (1+j))],(↑(n-(1:Int).toNat):Int)=(↑(n-1):Int),(0:Int)=(↑(0:Nat):Int),0=0,∀(i:Nat),i<0->[]=[iI (VZ (U3 (UN 7) V (1+i)))],wdM (wdK z1)=5,VX (AV.fn (Fn.func 153) [] []),XH s,JQ s,JR s,XW s,XN s,XO s,KL s,∀(i:Nat),i<s.xn->s.xg i=s.xg i,KM s,∀(i:Nat),i<s.yn->s.yg i=s.yg i,QO,JW,JX] (branch (nuB (U3 (UN 7) V) n) (need [UI 0 (↑(n-1):Int)] (need [(0:Int).toNat<n-1] (need [UI 1 (↑(n-1):Int)] (need [(1:Int).toNat<n-1] (need [UI 2 (↑(n-1):Int)] (need [(2:Int).toNat<n-1] (need [UI 3 (↑(n-1):Int)] (need [(3:Int).toNat<n-1] (need [UI 4 (↑(n-1):Int)] (need [(4:Int).toNat<n-1] (need [1=1,QZ,W8] (branch (!(if saB (VZ (U3 (UN 7) V 1)) (VZ (U3 (UN 7) V 2)) (VZ (U3 (UN 7) V 3)) (VZ (U3 (UN 7) V 4)) (VZ (U3 (UN 7) V 5))=true then (0:Int) else (1:Int))==0) (need [[Q5]=[Q5],H5 (hL s) QU,QB s,QC s] (leaf (false,(2:Int)))) (branch (!decide ((↑s.ns:Int)<8)) (need [[Q5]=[Q5],H5 (hL s) QU,QB s,QC s] (leaf (false,(3:Int)))) (need [XO s,s.ns<=100000] (need [sV (s.ns+1) (HD s.ns (s.sa) (VZ (V 0))) (HD s.ns (s.sb) (VZ (V 1))) (HD s.ns (s.sc) (VZ (V 2))) (HD s.ns (s.sl) (VZ (V 3))) (HD s.ns (s.sh) (VZ (V 4))),[agg [iI 4,iI 10,lst 5 (s.ns+1) λk=>[iI (HD s.ns (s.sa) (VZ (U3 (UN 7) V 1)) k),iI (HD s.ns (s.sb) (VZ (U3 (UN 7) V 2)) k),iI (HD s.ns (s.sc) (VZ (U3 (UN 7) V 3)) k),iI (HD s.ns (s.sl) (VZ (U3 (UN 7) V 4)) k),iI (HD s.ns (s.sh) (VZ (U3 (UN 7) V 5)) k)]]]=[agg [iI 4,iI 10,lst 5 (s.ns+1) λk=>[iI (HD s.ns (s.sa) (VZ (V 0)) k),iI (HD s.ns (s.sb) (VZ (V 1)) k),iI (HD s.ns (s.sc) (VZ (V 2)) k),iI (HD s.ns (s.sl) (VZ (V 3)) k),iI (HD s.ns (s.sh) (VZ (V 4)) k)]]]] (branch (!orE (s.ns+1) (HD s.ns (s.sa) (VZ (V 0))) (HD s.ns (s.sb) (VZ (V 1))) (HD s.ns (s.sc) (VZ (V 2))) (HD s.ns (s.sl) (VZ (V 3))) (HD s.ns (s.sh) (VZ (V 4)))==0) (need [[Q5]=[Q5],H5 (Z9 s V) QU,QB s,QC s] (leaf (false,(9:Int)))) (need [[Q5]=[Q5],H5 (Z9 s V) (hL z0),((38:TypeId),1,s.xn,s.xg)=((38:TypeId),1,z0.xn,z0.xg),((9:TypeId),1,s.yn,s.yg)=((9:TypeId),1,z0.yn,z0.yg)] (leaf (true,(0:Int)))))))))))))))))))) (need [[Q5]=[Q5],H5 QU QU,QB s,QC s] (leaf (false,(4:Int))))))))) z2)))) VS ?_
 have hw:wdO (U3 (UN 7) V (Int.toNat 0))=true:=VS;have hm:wdM (wdK (U3 (UN 7) V (Int.toNat 0)))=5:=VS;have hn1:1<=n:=by have:=VR.2.1;omega
 have hnl:=B0 VR;simp only [VL.sat,UA,UG,hm,hw,true_imp_iff];refine ⟨⟨rfl,rfl⟩,⟨VI,VI⟩,⟨by simp only [VK];omega,λh4=>?_,λh4=>?_⟩,λh=>by cases h⟩
 ·exact V6
 ·have hN:n=5+1:=by
   simp at h4;omega
  refine ⟨⟨VI,VI,VI⟩,?_,λh5=>?_,λh5=>?_⟩
  rotate_left 2
  ·exact V7
  ·all_goals exact yE
  ·have hk1:n-1=5:=VI;have hx0:VZ (U3 (UN 7) V 1)=VZ (V 0):=rfl;have hx1:VZ (U3 (UN 7) V 2)=VZ (V 1):=rfl;have hx2:VZ (U3 (UN 7) V 3)=VZ (V 2):=rfl;have hx3:VZ (U3 (UN 7) V 4)=VZ (V 3):=rfl;have hx4:VZ (U3 (UN 7) V 5)=VZ (V 4):=rfl;rw [hk1];simp only [hx0,hx1,hx2,hx3,hx4];have hns:=UE.1;refine ⟨VI,by decide,VI,by decide,VI,by decide,VI,by decide,VI,by decide,λh6=>⟨DH _ _ _ _ _ _,F4 hN h5 (Zw5 (ifB' h6)) (by decide)⟩,λh6=>⟨λh7=>⟨DH _ _ _ _ _ _,F4 hN h5 (Zw4 (ifB h6) h7) (by decide)⟩,λh7=>⟨VI,⟨slV (ifB h6) h7 UE,trivial⟩,λh8=>⟨DH _ _ _ _ _ _,F4 hN h5 (Zw3 (ifB h6) h7 h8) (by decide)⟩,λh8=>⟨⟨⟨B1 s,zD _,zD _,B4 s,B2 s,PA (slS s (VZ (V 0)) (VZ (V 1)) (VZ (V 2)) (VZ (V 3)) (VZ (V 4))),trivial⟩,rfl,rfl⟩,uB hN h5 (Zw6 (ifB h6) h7 h8)⟩⟩⟩⟩
theorem Wl0(r v:Int)(m:Nat)(g:Nat->Int)(VR:1<=m):VW VN 188 [.agg [i r,i v],.ro [.lst 1 m (λk=>[i (g k)])]] (bl (!(r==g 0))):=by
 refine GU Tryz.func188 (t:=need [UI 0 m] (leaf (RV.x (.bool (r != g (0:Int).toNat))))) VS ?_;simp only [VL.sat,UA,UZ,UC,UG,Int.toNat_zero];refine ⟨VI,?_⟩;show (r != g 0)=_;rfl
def Qf1(m:Nat)(g:Nat->Int):UV
 |[.agg [.x (.int .i64 r),.x (.int .i64 v)],b]=>some ([1<=m,[b]=[.ro [.lst 1 m (λk=>[i (g k)])]]],bl (!(r==g 0)))
 |_=>none
theorem Wk9(m:Nat)(g:Nat->Int):VO VN 188 (Qf1 m g):=by
 refine ⟨(UF Tryz.func188),?_⟩;intro avs ns res h hn;unfold Qf1 at h;split at h
 ·cases h;have e:=hn _ (HN _ GD);injection e with e _
  subst e;exact Wl0 _ _ m g (hn _ GD)
 ·cases h
theorem Qo7(r v:Int)(m:Nat)(g:Nat->Int)(VR:1<=m):VW VN 221 [.agg [i r,i v],.ro [.fn (.func 188) [] [.ro [.lst 1 m (λk=>[i (g k)])]]]] (bl (r==g 0)):=by
 refine U0 (L:=[]) (VJ.cons (Wk9 m g) (VJ.nil _)) VY Tryz.func221 (US Tryz.f221) U2 (t:=need [1<=m,VX ([AV.ro [lst 1 m λk=>[iI (g k)]]])] (leaf (RV.x (.bool !!r==g 0)))) VS ?_
 simp only [VL.sat,UA,UZ,UC,UG];refine ⟨VR,?_⟩;show (!!(r==g 0))=_;simp
def lX(m:Nat)(g:Nat->Int):UV
 |[.agg [.x (.int .i64 r),.x (.int .i64 v)],b]=>some ([1<=m,[b]=[.ro [.fn (.func 188) [] [.ro [.lst 1 m (λk=>[i (g k)])]]]]],bl (r==g 0))
 |_=>none
theorem O9(m:Nat)(g:Nat->Int):VO VN 221 (lX m g):=by
 refine ⟨(UF Tryz.func221),?_⟩;intro avs ns res h hn;unfold lX at h;split at h
 ·cases h;have e:=hn _ (HN _ GD);injection e with e _
  subst e;exact Qo7 _ _ m g (hn _ GD)
 ·cases h
def seJ(r:Nat->Int)(x:Int)(j:Nat):Bool:=r j==x
def seN(n:Nat)(r:Nat->Int)(x:Int):Bool:=D4 (λj=> !(r j==x)) n
abbrev W6(m:Nat)(g:Nat->Int):AV:=AV.fn (Fn.func 221) [] [AV.ro [AV.fn (Fn.func 188) [] [AV.ro [lst 1 m λk=>[iI (g k)]]]]]
section
variable (n:Nat)
abbrev ZL(r:Nat->Int)(v:Nat->Int):AV:=lst 2 n λk=>[iI (r k),iI (v k)]
def gQ(r v:Nat->Int)(m:Nat)(g:Nat->Int):St:={σ:=[ZL n r v,W6 m g]++HG 5 [iI (n:Int)]++HG 11 [],m:=[],nx:=4}
noncomputable def Qi4:Code:=U8 (VQ (U6 Tryz.f240) 0)
def NW(r v:Nat->Int)(m:Nat)(g:Nat->Int)(k:Nat):St:=(upM [(8,i k)] (gQ n r v m g))
def BU(r v:Nat->Int)(m:Nat)(g:Nat->Int)(k:Nat):G6->Option St
 | .ret=>some (upM [(4,i (GV ((seJ r (g 0))) n))] (gQ n r v m g))
 | .exit 0=>some (upM [] (gQ n r v m g))
 |_=>none
def Qd7(r v:Nat->Int)(m:Nat)(g:Nat->Int):CT:= .branch (decide (GV ((seJ r (g 0))) n<n)) (.leaf (.ret,(BU n r v m g 0 .ret).getD (gQ n r v m g))) (.leaf (.exit 0,(BU n r v m g 0 (.exit 0)).getD (gQ n r v m g)))
def mD(r v:Nat->Int)(m:Nat)(g:Nat->Int):UH:=(HF (NW n r v m g (0)) (Qd7 n r v m g))
end
abbrev K4(m:Nat)(g:Nat->Int):List AV:=[AV.ro [AV.fn (Fn.func 188) [] [AV.ro [lst 1 m λk=>[iI (g k)]]]]]
section
variable (n:Nat)(r v:Nat->Int)(m:Nat)(g:Nat->Int)
theorem Qt0(VR:n<=100000)(UE:1<=m):G7 VN (.loop Qi4) (mD n r v m g):=by
 refine HE (L:=[]) (VJ.cons (O9 m g) (VJ.nil _)) VY U2 (X:=Nat) (NW n r v m g) (λk=>k<=n/\ ∀j,j<k->(seJ r (g 0)) j=false) (λk=>n-k) (BU n r v m g) (x0:=0) ⟨VI,λj hj=>VI⟩ ?_ ?_ ?_
 ·rintro k;kernel_rfl
 ·rintro k y E h;unfold BU at h;split at h
  ·cases h;kernel_rfl
  ·cases h;kernel_rfl
  ·cases h
 ·rintro Q hQ k hx;refine ⟨(k+1),?_⟩;(with_reducible refine DF (t:=branch (decide ((k:Int)<(n:Int))) (need [UI k n] (need [1<=m,VX (K4 m g)] (branch (r k==g 0) (need [VX (ZL n r v),VX (W6 m g),(k:Int)=(↑(GV (seJ r (g 0)) n):Int),VX (n:Int)] (leaf G6.ret)) (need [VK ((k:Int)+1)] (need [VX (ZL n r v),VX (W6 m g),VX (n:Int),(k:Int)+1=(↑(k+1):Int)] (leaf G6.normal)))))) (need [VX (ZL n r v),VX (W6 m g),VX (n:Int)] (leaf (G6.exit 0)))) VS ?_);simp only [Qd7,BU,VL.sat,GS,H9] at hQ;simp only [VL.sat,UA,UG,H9,VK,BU,F9];have Xg4:k<n->((seJ r (g 0))) k=true->GV ((seJ r (g 0))) n=k:=λh hb=>zJ h hb hx.2
  have PJ: ¬k<n->GV ((seJ r (g 0))) n=n:=λh=>BW (λj hj=>hx.2 j VI)
  have hgo:((seJ r (g 0))) k=false-> ∀j,j<k+1->((seJ r (g 0))) j=false:=by
   intro hb j hj;rcases (show j<k\/j=k by omega) with h1|rfl
   ·exact hx.2 j h1
   ·exact hb
  refine ⟨λh=>⟨VI,UE,?_⟩,λh=>?_⟩
  rotate_left
  ·intro E hE;cases hE;exact hQ.2 (by rw [PJ VI];omega)
  have hk:k<n:=VI;refine ⟨λhb=>?_,λhb=>?_⟩
  ·exact VC
  ·exact ⟨VI,VI,⟨VI,hgo hb⟩,VI⟩
theorem Xf3(VR:n<=100000)(UE:1<=m):VW VN 240 [rdl n r v,.fn (.func 221) [] [.ro [.fn (.func 188) [] [.ro [.lst 1 m (λk=>[i (g k)])]]]]] (i (if GV ((seJ r (g 0))) n<n then (GV ((seJ r (g 0))) n:Int) else -1)):=by
 refine U0 (L:=[mD n r v m g]) (VJ.cons (O9 m g) (VJ.nil _)) VY Tryz.func240 (US Tryz.f240) (G0 (lpE (b:= .loop Qi4) VS<|Qt0 n r v m g VR UE)) (t:=need [VX (ZL n r v),VX (W6 m g),VX (n:Int),(0:Int)=(↑(0:Nat):Int)] (branch (decide (GV (seJ r (g 0)) n<n)) (leaf (RV.x (.int .i64 (↑(GV (seJ r (g 0)) n):Int)))) (leaf (RV.x (KH))))) VS ?_
 exact VA
def Zn3:UV:=λl=>some ([l=[rdl n r v,.fn (.func 221) [] [.ro [.fn (.func 188) [] [.ro [.lst 1 m (λk=>[i (g k)])]]]]]],i (if GV (seJ r (g 0)) n<n then (GV (seJ r (g 0)) n:Int) else -1))
theorem Wk2(VR:n<=100000)(UE:1<=m):VO VN 240 (Zn3 n r v m g):=by
 refine ⟨(UF Tryz.func240),?_⟩;intro avs ns res h hn;cases h;have e:=hn _ GD;subst e;exact Xf3 n r v m g VR UE
theorem Xh0(VR:n<=100000)(UE:1<=m):VW VN 220 [rdl n r v,.fn (.func 221) [] [.ro [.fn (.func 188) [] [.ro [.lst 1 m (λk=>[i (g k)])]]]]] (bl (!seN n r (g 0))):=by
 refine U0 (L:=[]) (VJ.cons (Wk2 n r v m g VR UE) (VJ.nil _)) VY Tryz.func220 (US Tryz.f220) U2 (t:=need [VX ([ZL n r v,W6 m g])] (leaf (RV.x (.bool (decide ((if GV (seJ r (g 0)) n<n then (↑(GV (seJ r (g 0)) n):Int) else (-1:Int))>=(0:Int))))))) VS ?_
 simp only [VL.sat,UA,UZ,UC,UG];unfold seN;rw [kD];have e:(λk=> !(λj=> !(r j==g 0)) k)=seJ r (g 0):=by
  funext k;simp [seJ]
 rw [e];have:=F0 (seJ r (g 0)) n;show decide ((if GV (seJ r (g 0)) n<n then (GV (seJ r (g 0)) n:Int) else -1)>=0)=_
 split<;>simp<;>omega
def Zn5:UV:=λl=>some ([l=[rdl n r v,.fn (.func 221) [] [.ro [.fn (.func 188) [] [.ro [.lst 1 m (λk=>[i (g k)])]]]]]],bl (!seN n r (g 0)))
theorem Wn0(VR:n<=100000)(UE:1<=m):VO VN 220 (Zn5 n r v m g):=by
 refine ⟨(UF Tryz.func220),?_⟩;intro avs ns res h hn;cases h;have e:=hn _ GD;subst e;exact Xh0 n r v m g VR UE
theorem Wn3(VR:n<=100000)(UE:1<=m):VW VN 187 [rdl n r v,.fn (.func 188) [] [.ro [.lst 1 m (λk=>[i (g k)])]]] (bl (seN n r (g 0))):=by
 refine U0 (L:=[]) (VJ.cons (Wn0 n r v m g VR UE) (VJ.nil _)) VY Tryz.func187 (US Tryz.f187) U2 (t:=need [VX ([ZL n r v,W6 m g])] (leaf (RV.x (.bool !!seN n r (g 0))))) VS ?_;simp only [VL.sat,UA,UZ,UC,UG];show (!!seN n r (g 0))=_;simp
end
section
variable (s:HS)
def laB:Nat:=((s.nb:Int)-1).toNat
def seM(k:Nat):Nat:=if k=laB s then s.qm k+1 else s.qm k
def seR(x0:Int)(k j:Nat):Int:=if k=laB s then HD (s.qm k) (s.qr k) x0 j else s.qr k j
def seV(x1:Int)(k j:Nat):Int:=if k=laB s then HD (s.qm k) (s.qv k) x1 j else s.qv k j
def seS(x0 x1:Int):HS:={s with qm:=seM s,qr:=seR s x0,qv:=seV s x1}
def seE(x0 x1:Int):Int:=if 1<=s.nb then (if bt 0 x0 2=true then (if seN (s.qm (laB s)) (s.qr (laB s)) x0=true then (if bt (-1000) x1 2000=true then (if boE s.nb s.ql s.qh (seM s) (seR s x0) (seV s x1)=0 then 0 else 9) else 2) else 6) else 7) else 8
end
section
variable (N:Nat)(lo hi:Nat->Int)(m:Nat->Nat)(r v:Nat->Nat->Int)
def wD:UV
 |[.agg l']=>some ([bV N lo hi m r v,H5 l' [ofs,i 1,bds N lo hi m r v]],.tup [.top,i (boE N lo hi m r v)])
 |_=>none
theorem Qa9:Idf (bds N lo hi m r v):= .lst _ _ _ λk _ x hx=>by
 simp only [GK,DQ,or_false] at hx;rcases hx with rfl|rfl|rfl
 ·exact .x _
 ·exact .x _
 ·exact V9
end
theorem We3{e:UJ}{w:World}{l l':List AV}{u:Value}(h:H5 l l')(r:Rep e w (.agg l) u):Rep e w (.agg l') u:=by
 cases r with
 |agg _ vs h1 h2=>exact Rep.aggL (dD h ⟨h1,h2⟩)
theorem aI(N:Nat)(lo hi:Nat->Int)(m:Nat->Nat)(r v:Nat->Nat->Int):VO VN 35 (wD N lo hi m r v):=by
 refine ⟨(UF Tryz.func35),?_⟩;intro avs ns res h hn;unfold wD at h;split at h
 ·rename_i l';cases h;have h1:bV N lo hi m r v:=hn _ GD;have h2:H5 l' [ofs,i 1,bds N lo hi m r v]:=hn _ (HN _ GD);intro e w args q1 q2 q3 q4;have q5:U1 e w [.agg [ofs,i 1,bds N lo hi m r v]] args:=by
   obtain ⟨u,us,rfl,g1,g2⟩:=q4.cons_inv;exact .cons (We3 h2 g1) g2
  refine (kC N lo hi m r v h1 e w args q1 q2 (λa ha=>?_) q5).mono ?_
  ·rcases qM.1 ha with rfl
   refine .agg _ λx hx=>?_
   simp only [GK,DQ,or_false] at hx;rcases hx with rfl|rfl|rfl
   ·exact V9
   ·exact .x _
   ·exact Qa9 _ _ _ _ _ _
  ·rintro en w' ⟨u,rfl,g1,g2⟩;have k:F5 (tup [.lst 2 (boN N lo hi m r v) (λk=>[i (boL N lo hi m r v k),i (boH N lo hi m r v k)]),i (boE N lo hi m r v)]) (.tup [.top,i (boE N lo hi m r v)]):=⟨trivial,(P8 _).2,trivial⟩
   exact ⟨u,rfl,g1,LN k g2⟩
 ·cases h
section
variable {s:HS}
theorem Zx9{x0 x1:Int}(h:bV s.nb s.ql s.qh s.qm s.qr s.qv)(h1:1<=s.nb)(h2:bt 0 x0 2=true)(h3:seN (s.qm (laB s)) (s.qr (laB s)) x0=true)(h4:bt (-1000) x1 2000=true):bV s.nb s.ql s.qh (seM s) (seR s x0) (seV s x1):=by
 rw [bt_iff] at h2 h4;have h3: ∀j,j<s.qm (laB s)->s.qr (laB s) j≠x0:=λj hj=>by simpa using GR.1 h3 j hj
 have hla:laB s<s.nb:=by unfold laB;omega
 obtain ⟨⟨g0,g1⟩,g2⟩:=h;have hq:s.qm (laB s)<=3:=by
  rcases Nat.lt_or_ge 3 (s.qm (laB s)) with hq|hq
  ·obtain ⟨_,_,_,_,g3⟩:=g1 _ hla;have a0:=g3 0 VI;have a1:=g3 1 VI;have a2:=g3 2 VI;have a3:=g3 3 VI;have b01:=g2 _ hla 0 1 VI VI;have b02:=g2 _ hla 0 2 VI VI;have b03:=g2 _ hla 0 3 VI VI;have b12:=g2 _ hla 1 2 VI VI;have b13:=g2 _ hla 1 3 VI VI;have b23:=g2 _ hla 2 3 VI VI;omega
  ·exact hq
 refine ⟨⟨g0,λb hb=>?_⟩,λb hb j k hjk hk=>?_⟩
 ·obtain ⟨k1,k2,k3,k4,k5⟩:=g1 b hb;unfold seM seR seV HD;by_cases e:b=laB s
  ·subst e;simp only [if_true];refine ⟨VI,k2,k3,k4,λj hj=>?_⟩
   by_cases e:j<s.qm (laB s)
   ·simp only [if_pos e];exact k5 j e
   ·simp only [if_neg e];omega
  ·simp only [if_neg e];exact ⟨k1,k2,k3,k4,k5⟩
 ·unfold seM at hk;unfold seR HD;by_cases e:b=laB s
  ·subst e;simp only [if_true] at hk ⊢;by_cases e:k<s.qm (laB s)
   ·simp only [if_pos e,if_pos (show j<s.qm (laB s) by omega)]
    exact g2 _ hb j k hjk e
   ·simp only [if_neg e,if_pos (show j<s.qm (laB s) by omega)]
    exact h3 j VI
  ·simp only [if_neg e] at hk ⊢;exact g2 _ hb j k hjk hk
theorem Zx1{k:Nat}(h:k=laB s):seM s k=s.qm (laB s)+1:=by rw [h];exact if_pos rfl
theorem Zx2{k:Nat}(h: ¬k=laB s):seM s k=s.qm k:=if_neg h
theorem Zw9{x:Int}{k j:Nat}(h:k=laB s):seR s x k j=HD (s.qm (laB s)) (s.qr (laB s)) x j:=by rw [h];exact if_pos rfl
theorem Zx0{x:Int}{k j:Nat}(h: ¬k=laB s):seR s x k j=s.qr k j:=if_neg h
theorem Zw7{x:Int}{k j:Nat}(h:k=laB s):seV s x k j=HD (s.qm (laB s)) (s.qv (laB s)) x j:=by rw [h];exact if_pos rfl
theorem Zw8{x:Int}{k j:Nat}(h: ¬k=laB s):seV s x k j=s.qv k j:=if_neg h
theorem Zx4{x0 x1:Int}(h:(!decide ((s.nb:Int)-1>=0))=true):seE s x0 x1=8:=by
 simp at h;exact if_neg VI
theorem Zx5{x0 x1:Int}(h1:1<=s.nb)(h2:bt 0 x0 2=false):seE s x0 x1=7:=by
 unfold seE;rw [if_pos h1,h2];rfl
theorem Zx6{x0 x1:Int}(h1:1<=s.nb)(h2:bt 0 x0 2=true)(h3:seN (s.qm (laB s)) (s.qr (laB s)) x0=false):seE s x0 x1=6:=by
 unfold seE;rw [if_pos h1,if_pos h2,h3];rfl
theorem Zx7{x0 x1:Int}(h1:1<=s.nb)(h2:bt 0 x0 2=true)(h3:seN (s.qm (laB s)) (s.qr (laB s)) x0=true)(h4:bt (-1000) x1 2000=false):seE s x0 x1=2:=by
 unfold seE;rw [if_pos h1,if_pos h2,if_pos h3,h4];rfl
theorem Zx3{x0 x1:Int}(h1:1<=s.nb)(h2:bt 0 x0 2=true)(h3:seN (s.qm (laB s)) (s.qr (laB s)) x0=true)(h4:bt (-1000) x1 2000=true)(h5:(!boE s.nb s.ql s.qh (seM s) (seR s x0) (seV s x1)==0)=true):seE s x0 x1=9:=by
 unfold seE;simp at h5;rw [if_pos h1,if_pos h2,if_pos h3,if_pos h4,if_neg h5]
theorem Zx8{x0 x1:Int}(h1:1<=s.nb)(h2:bt 0 x0 2=true)(h3:seN (s.qm (laB s)) (s.qr (laB s)) x0=true)(h4:bt (-1000) x1 2000=true)(h5:(!boE s.nb s.ql s.qh (seM s) (seR s x0) (seV s x1)==0)=false):seE s x0 x1=0:=by
 unfold seE;simp at h5;rw [if_pos h1,if_pos h2,if_pos h3,if_pos h4,if_pos h5]
end
theorem Zi4(s:HS)(k:Nat): ∀x∈[i (s.ql k),i (s.qh k),bts (s.qm k) (s.qr k) (s.qv k)],Idf x:=λx hx=>by
 simp only [GK,DQ,or_false] at hx;rcases hx with rfl|rfl|rfl
 ·exact .x _
 ·exact .x _
 ·exact V9
noncomputable def dZ:HY:=rO Tryz.prog [] {} [] Tryz.f36 (U6 Tryz.f36)
theorem eZ:G9 VN 36 dZ:=
 RJ (G:=[]) (X:=WE) (L:=[]) (VJ.nil _) (VV.of (VP.nil _) (VM.nil _)) VY (UF Tryz.func36) Tryz.func36 (US Tryz.f36) U2
section
variable (n:Nat)(r v:Nat->Int)(m:Nat)(g:Nat->Int)
def M2:UV:=λl=>some ([n<=100000,1<=m,l=[rdl n r v,.fn (.func 188) [] [.ro [.lst 1 m (λk=>[i (g k)])]]]],bl (seN n r (g 0)))
theorem Qo6:VO VN 187 (M2 n r v m g):=by
 refine ⟨(UF Tryz.func187),?_⟩;intro avs ns res h hn;cases h;have e:=hn _ (HN _ (HN _ GD));subst e;exact Wn3 n r v m g (hn _ GD) (hn _ (HN _ GD))
end
section
variable (s:HS)(x0 x1:Int)(m:Nat)(g:Nat->Int)
noncomputable abbrev Ww4:DV:=rN Tryz.prog [(37,RL),(187,(M2 (s.qm (laB s)) (s.qr (laB s)) (s.qv (laB s)) m g)),(190,(Qg7 (s.qm (laB s)) (s.qr (laB s)) (s.qv (laB s)))),(35,(wD s.nb s.ql s.qh (seM s) (seR s x0) (seV s x1)))] {R:=[],H:=[(189,fB),(36,dZ)],C:=[(36,(cR xP))] } [(114,FZ)] [] Tryz.f150 (U6 Tryz.f150)
theorem Wk8:D2 VN 150 (Ww4 s x0 x1 m g):=
 FP (G:=[(37,RL),(187,(M2 (s.qm (laB s)) (s.qr (laB s)) (s.qv (laB s)) m g)),(190,(Qg7 (s.qm (laB s)) (s.qr (laB s)) (s.qv (laB s)))),(35,(wD s.nb s.ql s.qh (seM s) (seR s x0) (seV s x1)))]) (X:={R:=[],H:=[(189,fB),(36,dZ)],C:=[(36,(cR xP))] }) (PX:=[(114,FZ)]) (L:=[]) (VJ.cons PQ (VJ.cons (Qo6 (s.qm (laB s)) (s.qr (laB s)) (s.qv (laB s)) m g) (VJ.cons (Xf5 (s.qm (laB s)) (s.qr (laB s)) (s.qv (laB s))) (VJ.cons (aI s.nb s.ql s.qh (seM s) (seR s x0) (seV s x1)) (VJ.nil _))))) (VV.ofC (VP.nil _) (VM.cons iL (VM.cons eZ (VM.nil _))) (U9.cons (Qd0 RA) (U9.nil _))) (UR.cons RN (UR.nil _)) VY (UF Tryz.func150) Tryz.func150 (US Tryz.f150) (λj cj _ sp hsp=>by simp at hsp)
end
theorem V2{p:Prop}(h:p:=by
 refine ⟨rfl,Nat.zero_add _,λk hk=>⟨?_,Zi4 (seS s (VZ (V 0)) (VZ (V 1))) k⟩⟩
 dsimp only
 by_cases h:k=laB s
 ·rw [show decide (k=((s.nb:Int)-1).toNat)=true from decide_eq_true h];refine ⟨(P8 _).2,(P8 _).2,⟨rfl,(Zx1 h).symm,λj hj=>?_⟩,trivial⟩
  show _=[i (seR s (VZ (V 0)) k j),i (seV s (VZ (V 1)) k j)];rw [Zw9 h,Zw7 h];rfl
 ·rw [show decide (k=((s.nb:Int)-1).toNat)=false from decide_eq_false h];refine ⟨(P8 _).2,(P8 _).2,⟨rfl,(Zx2 h).symm,λj hj=>?_⟩,trivial⟩
  show _=[i (seR s (VZ (V 0)) k j),i (seV s (VZ (V 1)) k j)];rw [Zx0 h,Zw8 h];rfl):p:=h
theorem Zh6(V:Nat->ByteArray)(n:Nat)(str:ByteArray)(s:HS)(VR:vF str n (U3 (UN 4) V))(UE:bV s.nb s.ql s.qh s.qm s.qr s.qv):wE VN 90 [.ptr 0 0,.x (.string str)] (X7 s) 901 [[.ptr 0 0,.row 1,.row 2]] 182 (OS (seS s (VZ (V 0)) (VZ (V 1)))) (OX s) (rsE (fmE (U3 (UN 4) V) n 2 (seE s (VZ (V 0)) (VZ (V 1))))):=by
 refine LE (PX:=[(114,FZ),(115,zZ),(150,(Ww4 s (VZ (V 0)) (VZ (V 1)) (n-1) (λk=>VZ (U3 (UN 4) V (k+1)))))]) (L:=[yQ (U3 (UN 4) V) n 2 150 s]) (VJ.cons (L7 VR) (VJ.cons wC (VJ.nil _))) (VV.of (VP.nil _) (VM.nil _)) (UR.cons RN (UR.cons wJ (UR.cons (Wk8 s (VZ (V 0)) (VZ (V 1)) (n-1) (λk=>VZ (U3 (UN 4) V (k+1)))) (UR.nil _)))) VY (UF Tryz.func90) Tryz.func90 (US Tryz.f90) (LA (lpE (b:= .loop MY) VS<|uP (U3 (UN 4) V) n 2 150 s VR.2.2.2 (B0 VR))) (N:=[(.cell 0 3,0,0,0)]) (t:=let z5:=(VZ (U3 (UN 4) V (1+(0:Int).toNat)));let z6:=(VZ (U3 (UN 4) V (1+(1:Int).toNat)));let z0:=([hR s.nr s,iI s.pl,iI s.ph,lst 3 (0+s.nb) λk=>iI (if decide (k=((↑s.nb:Int)-1).toNat)=true then s.ql (k-0) else s.ql (k-0))::iI (if decide (k=((↑s.nb:Int)-1).toNat)=true then s.qh (k-0) else s.qh (k-0))::Bool.rec (bts (s.qm (k-0)) (s.qr (k-0)) (s.qv (k-0))) (lst 2 (s.qm (laB s)+1) λk=>[i (HD (s.qm (laB s)) (s.qr (laB s)) z5 k),i (HD (s.qm (laB s)) (s.qv (laB s)) z6 k)]) (decide (k=((↑s.nb:Int)-1).toNat))::Bool.rec ([]) ([]) (decide (k=((↑s.nb:Int)-1).toNat)),hC s.nc s,hT s.ns s]);let z1:=(seS s (VZ (V 0)) (VZ (V 1)));let z2:=(U3 (UN 4) V (0:Int).toNat);let z3:=((↑s.nb:Int)-1).toNat;let z4:=(need [[Q5]=[Q5],H5 (hL s) QU,QB s,QC s] (leaf (false,(4:Int))));(need [MQ str str {data:=#[32] }] (need [UI 0 n] (branch (wdO z2) (need [VK (wdM (wdK z2)+1)] (branch (!(n:Int)==wdM (wdK z2)+1) z4 (need [(0:Int)<=1/\(1:Int)<=(n:Int)/\(n:Int)<=(n:Int)] (need [QO,VX (lst 1 n λk=>[FM (U3 (UN 4) V k)]),ZQ,WI,(lst 1 (n-(1:Int).toNat) λi=>[AV.x (.string (U3 (UN 4) V ((1:Int).toNat+i)))])=lst 1 (n-1) λj=>[FM (U3 (UN 4) V (1+j))],(↑(n-(1:Int).toNat):Int)=(↑(n-1):Int),(0:Int)=(↑(0:Nat):Int),0=0,∀(i:Nat),i<0->[]=[iI (VZ (U3 (UN 4) V (1+i)))],wdM (wdK z2)=2,VX (AV.fn (Fn.func 150) [] []),XH s,JQ s,JR s,XW s,XN s,XO s,KL s,∀(i:Nat),i<s.xn->s.xg i=s.xg i,KM s,∀(i:Nat),i<s.yn->s.yg i=s.yg i,QO,JW,JX] (branch (nuB (U3 (UN 4) V) n) (need [VK ((↑s.nb:Int)-1)] (branch (!decide ((↑s.nb:Int)-1>=(0:Int))) (need [[Q5]=[Q5],H5 (hL s) QU,QB s,QC s] (leaf (false,(8:Int)))) (need [UI 0 (↑(n-1):Int)] (need [(0:Int).toNat<n-1] (need [VK ((↑(3:Nat):Int)-1)] (branch (!bt (0:Int) (VZ (U3 (UN 4) V 1)) ((↑(3:Nat):Int)-1)) (need [[Q5]=[Q5],H5 (hL s) QU,QB s,QC s] (leaf (false,(7:Int)))) (need [UI ((↑s.nb:Int)-1) s.nb] (need [s.qm (laB s)<=100000,1<=n-1,[lst 2 (s.qm z3) λj=>[iI (s.qr z3 j),iI (s.qv z3 j)],AV.fn (Fn.func 188) [] [AV.ro [lst 1 (n-1) λj=>[iI (VZ (U3 (UN 4) V (1+j)))]]]]=[lst 2 (s.qm (laB s)) λk=>[iI (s.qr (laB s) k),iI (s.qv (laB s) k)],AV.fn (Fn.func 188) [] [AV.ro [lst 1 (n-1) λk=>[iI (VZ (U3 (UN 4) V (k+1)))]]]]] (branch (!seN (s.qm (laB s)) (s.qr (laB s)) (VZ (U3 (UN 4) V 1))) (need [[Q5]=[Q5],H5 (hL s) QU,QB s,QC s] (leaf (false,(6:Int)))) (need [UI 1 (↑(n-1):Int)] (need [(1:Int).toNat<n-1] (branch (!bt (-1000:Int) (VZ (U3 (UN 4) V 2)) (2000:Int)) (need [[Q5]=[Q5],H5 (hL s) QU,QB s,QC s] (leaf (false,(2:Int)))) (VL.may (s.nb=0) VL.fail (need [(0+s.nb)*40<=140737488355328,∀(i:Nat),i<s.nb-> ∀(a:AV),a∈[iI (s.ql i),iI (s.qh i),bts (s.qm i) (s.qr i) (s.qv i)]->AV.one a=true] (need [UI ((↑s.nb:Int)-1) (↑(0+s.nb):Int)] (need [((↑s.nb:Int)-1).toNat<0+s.nb] (need [UI 0 (↑(n-1):Int)] (need [(0:Int).toNat<n-1] (need [UI 1 (↑(n-1):Int)] (need [(1:Int).toNat<n-1] (need [(lst 2 (s.qm (((↑s.nb:Int)-1).toNat-0)) λj=>[iI (s.qr (((↑s.nb:Int)-1).toNat-0) j),iI (s.qv (((↑s.nb:Int)-1).toNat-0) j)])=lst 2 (s.qm (laB s)) λk=>[iI (s.qr (laB s) k),iI (s.qv (laB s) k)],s.qm (laB s)<=100000] (need [UI ((↑s.nb:Int)-1) (↑(0+s.nb):Int)] (need [((↑s.nb:Int)-1).toNat<0+s.nb] (need [bV s.nb (s.ql) (s.qh) (seM s) (seR s (VZ (V 0))) (seV s (VZ (V 1))),H5 [KZ,iI 1,lst 3 (0+s.nb) λk=>iI (if decide (k=((↑s.nb:Int)-1).toNat)=true then s.ql (k-0) else s.ql (k-0))::iI (if decide (k=((↑s.nb:Int)-1).toNat)=true then s.qh (k-0) else s.qh (k-0))::Bool.rec (bts (s.qm (k-0)) (s.qr (k-0)) (s.qv (k-0))) (lst 2 (s.qm (laB s)+1) λk=>[i (HD (s.qm (laB s)) (s.qr (laB s)) z5 k),i (HD (s.qm (laB s)) (s.qv (laB s)) z6 k)]) (decide (k=((↑s.nb:Int)-1).toNat))::Bool.rec ([]) ([]) (decide (k=((↑s.nb:Int)-1).toNat))] [lst 2 3 λk=>[iI (oL k),iI (oH k)],iI 1,lst 3 s.nb λk=>[iI (s.ql k),iI (s.qh k),lst 2 (seM s k) λj=>[iI (seR s (VZ (V 0)) k j),iI (seV s (VZ (V 1)) k j)]]]] (branch (!boE s.nb (s.ql) (s.qh) (seM s) (seR s (VZ (V 0))) (seV s (VZ (V 1)))==0) (need [[Q5]=[Q5],H5 z0 QU,QB s,QC s] (leaf (false,(9:Int)))) (need [[Q5]=[Q5],H5 z0 (hL z1),((38:TypeId),1,s.xn,s.xg)=((38:TypeId),1,z1.xn,z1.xg),((9:TypeId),1,s.yn,s.yg)=((9:TypeId),1,z1.yn,z1.yg)] (leaf (true,(0:Int))))))))))))))))))))))))))))) (need [[Q5]=[Q5],H5 QU QU,QB s,QC s] (leaf (false,(4:Int))))))))) z4)))) VS ?_
 have hw:wdO (U3 (UN 4) V (Int.toNat 0))=true:=VS;have hm:wdM (wdK (U3 (UN 4) V (Int.toNat 0)))=2:=VS;have hn1:1<=n:=by have:=VR.2.1;omega
 have hnl:=B0 VR;simp only [VL.sat,UA,UG,hm,hw,true_imp_iff];refine ⟨⟨rfl,rfl⟩,⟨VI,VI⟩,⟨by simp only [VK];omega,λh4=>?_,λh4=>?_⟩,λh=>by cases h⟩
 ·exact V6
 ·have hN:n=2+1:=by
   simp at h4;omega
  refine ⟨⟨VI,VI,VI⟩,?_,λh5=>?_,λh5=>?_⟩
  rotate_left 2
  ·exact V7
  ·all_goals exact yE
  ·have hk1:n-1=2:=VI;have hx0:VZ (U3 (UN 4) V 1)=VZ (V 0):=rfl;have hx1:VZ (U3 (UN 4) V 2)=VZ (V 1):=rfl;have hq:s.nb<=6:=UE.1.1;rw [hk1];refine ⟨by simp only [VK];omega,λh6=>⟨DH _ _ _ _ _ _,F4 hN h5 (Zx4 h6) (by decide)⟩,λh6=>?_⟩
   have h6:1<=s.nb:=by simp at h6;omega
   have hla:laB s<s.nb:=by unfold laB;omega
   have hm10:=(UE.1.2 _ hla).1;refine ⟨VI,by decide,by simp only [VK];omega,λh7=>⟨DH _ _ _ _ _ _,F4 hN h5 (Zx5 h6 (bnt h7)) (by decide)⟩,λh7=>?_⟩
   have h7:bt 0 (VZ (V 0)) 2=true:=bnf h7;refine ⟨VI,⟨VI,VI,by simp only [Nat.add_comm 1];rfl⟩,λh8=>⟨DH _ _ _ _ _ _,F4 hN h5 (Zx6 h6 h7 (bnt h8)) (by decide)⟩,λh8=>?_⟩
   have h8:seN (s.qm (laB s)) (s.qr (laB s)) (VZ (V 0))=true:=bnf h8;refine ⟨VI,by decide,λh9=>⟨DH _ _ _ _ _ _,F4 hN h5 (Zx7 h6 h7 h8 (bnt h9)) (by decide)⟩,λh9=>?_⟩
   have h9:bt (-1000) (VZ (V 1)) 2000=true:=bnf h9;refine ⟨λh=>VI,⟨VI,λk hk a ha=>?_⟩,VI,VI,VI,by decide,VI,by decide,⟨rfl,VI⟩,VI,VI,⟨Zx9 UE h6 h7 h8 h9,?_⟩,λh=>⟨DH _ _ _ _ _ _,F4 hN h5 (Zx3 h6 h7 h8 h9 h) (by decide)⟩,λh=>⟨⟨⟨B1 s,zD _,zD _,?_,B2 s,PA s,trivial⟩,rfl,rfl⟩,uB hN h5 (Zx8 h6 h7 h8 h9 h)⟩⟩
   ·simp only [GK,DQ,or_false] at ha;rcases ha with rfl|rfl|rfl<;>simp [AV.one,Value.oneCell']
   ·refine ⟨⟨rfl,rfl,λk hk=>⟨?_,?_⟩⟩,zD _,?_,trivial⟩
    ·rcases (show k=0\/k=1\/k=2 by omega) with rfl|rfl|rfl<;>exact ⟨(P8 _).2,(P8 _).2,trivial⟩
    ·intro x hx;simp only [GK,DQ,or_false] at hx;rcases hx with rfl|rfl<;>exact .x _
    ·exact V2
   ·exact V2
end Go.Proofs.YtlclobclmfhlmaaGreatDoor.Hd
