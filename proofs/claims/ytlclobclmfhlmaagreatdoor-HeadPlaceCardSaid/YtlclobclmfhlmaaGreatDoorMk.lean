/- Contracts, put together. Conditions: those of each. -/
import Derived.Test.YtlclobclmfhlmaaGreatDoorMj
import Derived.Lib.AppendIntMem
set_option linter.unusedSimpArgs false
set_option linter.unusedVariables false
set_option maxRecDepth 100000
namespace Go.Proofs.YtlclobclmfhlmaaGreatDoor.Hd
open Go Go.Shelf Go.Sx
theorem Wc7{e:UN}{w:World}(hgl:D5 e w):Lib.TabIs Tryz.prog w "internal/strconv.uint64pow10" .u64 Lib.pow10Tab:=by
 obtain ⟨_,_,o,ho,_,T,fr,rfl⟩:=hgl 2 _ rfl;have hg:Tryz.prog.globalNamed "internal/strconv.uint64pow10"=some 2:=VW;unfold Lib.TabIs World.var?;rw [hg];show (match w.heap[2]? with|some (.cells cs _ _)=>some cs|_=>none)=_
 rw [ho];simp [Lib.pow10Tab]
theorem Zm2{e:UN}{w:World}(hgl:D5 e w): ∃m,w.cell? ⟨3,0,none⟩=some (.int .i64 m):=by
 obtain ⟨_,_,o,ho,_,m,T,fr,rfl⟩:=hgl 3 _ rfl;exact ⟨m,by simp [World.cell?,ho]⟩
theorem Xj9(n:Int)(VU:VO n):U0 VR 73 [.x (.int .i64 n)] (.x (.string ⟨(Lib.itoa n).toArray⟩)):=by
 intro e w args hro hgl FP hr;obtain ⟨u,us,rfl,h1,h2⟩:=hr.cons_inv;cases h2.nil_inv;cases h1.x_inv;unfold VO at VU;refine Calls.mono (Any.strconv_Itoa Qd7 n VM VM w (Wc7 hgl)) ?_;rintro en w' ⟨rfl,k,os,rfl⟩;exact ⟨_,rfl,Lib.below_grow _ w (Am _) k os,.x _⟩
def fU:UY
 |[.x (.int .i64 n)]=>some ([VO n],.x (.string ⟨(Lib.itoa n).toArray⟩))
 |_=>none
theorem aG:VS VR 73 fU:=by
 refine ⟨(UK Tryz.func73),?_⟩;intro avs ns res h hn;unfold fU at h;split at h
 ·cases h;exact Xj9 _ (hn _ VX)
 ·cases h
def spl(s sep:ByteArray):List ByteArray:=Lib.splitB sep 0 (Lib.countB s sep) s
theorem Wd1(s sep:ByteArray)(hs:s.size<4294967281)(h1:1<=sep.size):U0 VR 112 [.x (.string s),.x (.string sep)] (.lst 1 (Lib.countB s sep+1) (λk=>[.x (.string ((spl s sep).getD k ByteArray.empty))])):=by
 intro e w args hro hgl FP hr;obtain ⟨u,us,rfl,r1,r2⟩:=hr.cons_inv;obtain ⟨u2,us2,rfl,r3,r4⟩:=r2.cons_inv;cases r4.nil_inv;cases r1.x_inv;cases r3.x_inv;obtain ⟨m,hm⟩:=Zm2 hgl;have hle:=Lib.countB_le sep h1 s.size s (Am _);have HZ:=Lib.splitB_all sep h1 0 _ s rfl;refine Calls.mono (Any.strings_Split Wj6 VW s sep m w hs hm h1) ?_;rintro en w' ⟨rfl,rfl⟩;generalize hobj:Obj.cells (List.map Value.string (Lib.splitB sep 0 (Lib.countB s sep) s)).toArray (gO.t 9)=ob;have hsz:(w.alloc ob).heap.size=w.heap.size+1:=VX;refine ⟨_,rfl,(RowKit.Below.refl w.heap.size w).alloc (Am _) _,?_⟩;refine Rep.lst (e:=PJ w (w.alloc ob)) 1 _ _ w.heap.size 0 _ (λi _=> .string ((spl s sep).getD i ByteArray.empty)) (λ_=>(show w.heap.size<=w.heap.size/\w.heap.size<(w.alloc ob).heap.size by omega)) (λ_=>VM) (λi _ a ha=>?_) (Am _) (by unfold maxLen;omega) (λi j O hj=>?_) (λ_ _=>rfl) (λi j a O ha=>?_) _ (λ_=>rfl)
 ·simp at ha;subst ha;exact .x _
 ·obtain rfl:j=0:=VM;have hi':i<(spl s sep).length:=by unfold spl;omega
  have hh:(w.alloc ob).heap[w.heap.size]? =some ob:=by first|(rw [World.alloc_eq];simp;done)|(simp only [World.alloc_eq,Array.getElem?_push_size];done)|exact Array.getElem?_push_size|(unfold World.alloc;exact Array.getElem?_push_size)
  unfold World.cell?;rw [hh,←hobj];have e:0+(i*1+0)=i:=VM;show (List.map Value.string (spl s sep)).toArray[0+(i*1+0)]? =_;rw [e];simp [hi']
 ·cases j with
  |zero=>simp at ha;subst ha;exact .x _
  |succ j=>simp at ha
open Go Go.Shelf Go.Sx Go.RowKit
def U3(s:ByteArray):Int:=match Lib.atoiAll s.data.toList with
 | .ok v=>v
 |_=>0
def N6(s:ByteArray):Bool:=match Lib.atoiAll s.data.toList with
 | .ok v=>decide (Lib.itoa v=s.data.toList)&&decide ((Lib.trimPrefix s.data.toList [45]).length<=9)
 |_=>false
theorem zD{l:List UInt8}{s:ByteArray}:(⟨l.toArray⟩:ByteArray)=s↔l=s.data.toList:=by
 constructor
 ·rintro rfl;rfl
 ·rintro rfl;cases s;rfl
theorem tF(k:Int)(w:World):Calls Tryz.prog 114 #[.bool false,.int .i64 k] w λen w'=>en= .panicked [{v:=IU 182 (.int .i64 k),recovered:=false}]/\w'=w:=by
 go_enter Tryz.func114,Tryz.ntmps114
 go_wp2
 exact ⟨rfl,rfl,rfl⟩
theorem Xp5(k:Int)(w:World):Calls Tryz.prog 114 #[.bool true,.int .i64 k] w λen w'=>en= .returned (.tuple #[])/\w'=w:=by
 go_enter Tryz.func114,Tryz.ntmps114
 go_wp2
 go_end0
 exact ⟨rfl,rfl⟩
theorem qU{e:UN}{w w1:World}(h:D5 e w)(hb:Below w.heap.size w w1):D5 e w1:=λb p hp=>by
 obtain ⟨h1,h2,o,h3,h4⟩:=h b p hp;exact ⟨h1,qD h2 hb.size,o,(hb.block b h2).trans h3,h4⟩
theorem wU{w w1:World}{T:TypeId}(h:w1=w\/ ∃t,w1=Lib.bytesWorld w T t):Below w.heap.size w w1:=by
 rcases h with rfl|⟨t,rfl⟩
 ·exact Below.refl _ _
 ·exact Lib.bytesWorld_below w _ _
theorem Qh2{l:List UInt8}{v:Int}(h:Lib.atoiAll l= .ok v): -9223372036854775808<=v/\v<=9223372036854775807:=by
 unfold Lib.atoiAll at h;split at h
 ·cases h
 ·simp only at h;split at h
  ·cases h
  ·cases h
  ·split at h
   ·cases h
   ·split at h
    ·cases h
    ·cases h;split<;>omega
theorem uA{v:Int}(h: -9223372036854775808<=v/\v<=9223372036854775807){e:UN}{w:World}(hgl:D5 e w):Calls Tryz.prog 73 #[.int .i64 v] w λen w'=>en= .returned (.string ⟨(Lib.itoa v).toArray⟩)/\Below w.heap.size w w':=by
 refine Calls.mono (Any.strconv_Itoa Qd7 v h.1 h.2 w (Wc7 hgl)) ?_;rintro en w' ⟨rfl,k,os,rfl⟩;exact ⟨rfl,Lib.below_grow _ w (Am _) k os⟩
theorem vL(s p:ByteArray)(w:World):Calls Tryz.prog 154 #[.string s,.string p] w λen w'=>en= .returned (.string ⟨(Lib.trimPrefix s.data.toList p.data.toList).toArray⟩)/\w'=w:=Any.strings_TrimPrefix Xj5 s p w
theorem Zp7{e:UN}{w:World}(hgl:D5 e w):(∃ev,w.cell? ⟨0,0,none⟩=some ev/\(ev= .nilIface\/ ∃te pe,ev= .iface te pe))/\ ∃ev,w.cell? ⟨1,0,none⟩=some ev/\(ev= .nilIface\/ ∃te pe,ev= .iface te pe):=by
 obtain ⟨_,_,o,h3,_,te,pe,T,fr,rfl⟩:=hgl 0 _ rfl;obtain ⟨_,_,o,k3,_,te',pe',T',fr',rfl⟩:=hgl 1 _ rfl;exact ⟨⟨.iface te pe,by simp [World.cell?,h3],.inr ⟨te,pe,rfl⟩⟩,⟨.iface te' pe',by simp [World.cell?,k3],.inr ⟨te',pe',rfl⟩⟩⟩
theorem pE(s:ByteArray)(hs:s.size<=100000)(hb:N6 s=true){e:UN}{w:World}(hgl:D5 e w):Calls Tryz.prog 115 #[.string s] w λen w'=>en= .returned (.int .i64 (U3 s))/\Below w.heap.size w w':=by
 unfold N6 at hb;split at hb
 ·rename_i v hv;rw [HC,y5,y5] at hb;have hA:=Any.strconv_Atoi_ok gQ s VM v hv w;have hnv:U3 s=v:=by unfold U3;rw [hv]
  rw [hnv];have hin:=Qh2 hv
  change Calls Tryz.prog 88 _ _ _ at hA
  have heq2:(⟨(Lib.itoa v).toArray⟩:ByteArray)=s:=zD.2 hb.1;have hle:(decide (((Lib.trimPrefix s.data.toList [45]).length:Int)<=9))=true:=decide_eq_true VM
  go_enter Tryz.func115,Tryz.ntmps115
  go_wp2_with (go_at_call 88;refine hA.mono ?_;rintro en w1 ⟨rfl,hw1⟩)
  have hb1:=wU hw1;refine (uA hin (qU hgl hb1)).mono ?_;rintro en w2 ⟨rfl,hb2⟩;have hb3:Below w.heap.size w w2:=hb1.trans (hb2.mono hb1.size)
  go_wp2_with (go_at_call 154;refine (vL _ _ _).mono ?_;rintro en w3 ⟨rfl,rfl⟩)
  try rw [hle]
  refine (Xp5 _ _).mono ?_;rintro en w4 ⟨rfl,rfl⟩
  go_wp2
  go_ret
  exact ⟨rfl,hb3⟩
 ·cases hb
theorem Qp5(s:ByteArray)(hs:s.size<=100000)(hb:N6 s=false){e:UN}{w:World}(hgl:D5 e w):Calls Tryz.prog 115 #[.string s] w λen w'=>en= .panicked [{v:=IU 182 (.int .i64 4),recovered:=false}]/\Below w.heap.size w w':=by
 obtain ⟨⟨ev0,he0,he0'⟩,⟨ev1,he1,he1'⟩⟩:=Zp7 hgl;unfold N6 at hb;split at hb
 ·rename_i v hv;have hA:=Any.strconv_Atoi_ok gQ s VM v hv w;have hin:=Qh2 hv
  change Calls Tryz.prog 88 _ _ _ at hA
  rcases Classical.em (Lib.itoa v=s.data.toList) with h1|h1
  ·have heq2:(⟨(Lib.itoa v).toArray⟩:ByteArray)=s:=zD.2 h1;rw [decide_eq_true h1,Bool.true_and,Jn2] at hb;have hle:(decide (((Lib.trimPrefix s.data.toList [45]).length:Int)<=9))=false:=decide_eq_false VM
   go_enter Tryz.func115,Tryz.ntmps115
   go_wp2_with (go_at_call 88;refine hA.mono ?_;rintro en w1 ⟨rfl,hw1⟩)
   have hb1:=wU hw1;refine (uA hin (qU hgl hb1)).mono ?_;rintro en w2 ⟨rfl,hb2⟩;have hb3:Below w.heap.size w w2:=hb1.trans (hb2.mono hb1.size)
   go_wp2_with (go_at_call 154;refine (vL _ _ _).mono ?_;rintro en w3 ⟨rfl,rfl⟩)
   try rw [hle]
   refine (tF _ _).mono ?_;rintro en w4 ⟨rfl,rfl⟩;exact ⟨rfl,rfl,hb3⟩
  ·have hne: ¬(⟨(Lib.itoa v).toArray⟩:ByteArray)=s:=λh=>h1 (zD.1 h)
   go_enter Tryz.func115,Tryz.ntmps115
   go_wp2_with (go_at_call 88;refine hA.mono ?_;rintro en w1 ⟨rfl,hw1⟩)
   have hb1:=wU hw1;refine (uA hin (qU hgl hb1)).mono ?_;rintro en w2 ⟨rfl,hb2⟩;have hb3:Below w.heap.size w w2:=hb1.trans (hb2.mono hb1.size)
   go_wp2_with (go_at_call 154;refine (vL _ _ _).mono ?_;rintro en w3 ⟨rfl,rfl⟩)
   ·exact absurd ‹Lib.itoa v=s.toList› (λhx=>h1 (hx.trans (ByteArray.toList_eq s)))
   refine (tF _ _).mono ?_;rintro en w4 ⟨rfl,rfl⟩;exact ⟨rfl,rfl,hb3⟩
 ·rename_i hno;have hA:Calls Tryz.prog 88 #[.string s] w λen w'=>(∃k te pe,en= .returned (.tuple #[.int .i64 k,.iface te pe]))/\Below w.heap.size w w':=by
   cases h:Lib.atoiAll s.data.toList
   ·rename_i v;exact absurd h (hno v)
   ·refine Calls.mono (Any.strconv_Atoi_syntax gQ s VM h ev0 w he0 he0') ?_;rintro en w' ⟨N,rfl,_,_,hb⟩;exact ⟨⟨_,_,_,rfl⟩,hb⟩
   ·refine Calls.mono (Any.strconv_Atoi_range gQ s VM h ev1 w he1 he1') ?_;rintro en w' ⟨N,rfl,_,_,hb⟩;exact ⟨⟨_,_,_,rfl⟩,hb⟩
  go_enter Tryz.func115,Tryz.ntmps115
  go_wp2_with (go_at_call 88;refine hA.mono ?_;rintro en w1 ⟨⟨k,te,pe,rfl⟩,hb3⟩)
  refine (tF _ _).mono ?_;rintro en w4 ⟨rfl,rfl⟩;exact ⟨rfl,rfl,hb3⟩
def jS:F0:=λavs m nx sv=>match avs with
 |[.x (.string s)]=>some (.need [s.size<=100000] (.branch (N6 s) (.leaf (.ret (.x (.int .i64 (U3 s))),m,nx,sv)) (.leaf (.pan (IU 182 (.int .i64 4)),m,nx,sv))))
 |_=>none
theorem x9:DA VR 115 jS:=by
 refine ⟨(UK Tryz.func115),?_⟩;intro avs m nx sv t ht Q hQ c w0 T e ds args w hE hB hm hl LT hxt hr;unfold jS at ht;split at ht
 ·rename_i s;cases ht;obtain ⟨hs,hQ⟩:=hQ;obtain ⟨u,us,rfl,h1,h2⟩:=hr.cons_inv;cases h2.nil_inv;cases h1.x_inv;have key: ∀{w':World},Below w.heap.size w w'->Step e e w w'/\G4 e w0.heap.size w'/\Below w0.heap.size w0 w':=by
   intro w' hb;have st:Step e e w w':=⟨λb hlt hr=>⟨hr,hb.block b hlt⟩,λ_ h=>⟨h,rfl,rfl⟩,hb.size⟩
   exact ⟨st,⟨λb h=>⟨(hE.apart b h).1,qD (hE.apart b h).2 hb.size⟩,λb k h=>⟨(hE.owned b k h).1,qD (hE.owned b k h).2 hb.size⟩,hE.glob.step st⟩,hB.trans (hb.mono hB.size)⟩
  cases hb:N6 s with
  |true=>
   refine (pE s hs hb hE.glob).mono ?_;rintro en w' ⟨rfl,hbl⟩;obtain ⟨k1,k2,k3⟩:=key hbl;exact ⟨.ret (.x (.int .i64 (U3 s))),_,_,_,e,⟨_,rfl,.x _⟩,hQ.1 hb,k2,k3,hm.ext hbl k1 (λ_ _ h=>h),hl,LT,hxt.step k1⟩
  |false=>
   refine (Qp5 s hs hb hE.glob).mono ?_;rintro en w' ⟨rfl,hbl⟩;obtain ⟨k1,k2,k3⟩:=key hbl;exact ⟨.pan (IU 182 (.int .i64 4)),_,_,_,e,rfl,hQ.2 hb,k2,k3,hm.ext hbl k1 (λ_ _ h=>h),hl,LT,hxt.step k1⟩
 ·cases ht
def wdE:List MapEntry:=[{key:= .string ⟨#[116,104,114,101,97,100]⟩,val:= .agg #[.int .i64 4,.func (.func 146) #[] #[]],born:=0},
 {key:= .string ⟨#[115,116,114,105,107,101]⟩,val:= .agg #[.int .i64 1,.func (.func 147) #[] #[]],born:=1},
 {key:= .string ⟨#[98,97,114,111]⟩,val:= .agg #[.int .i64 2,.func (.func 148) #[] #[]],born:=2},
 {key:= .string ⟨#[98,97,116,104]⟩,val:= .agg #[.int .i64 2,.func (.func 149) #[] #[]],born:=3},
 {key:= .string ⟨#[115,101,101]⟩,val:= .agg #[.int .i64 2,.func (.func 150) #[] #[]],born:=4},
 {key:= .string ⟨#[105,115,115,117,101]⟩,val:= .agg #[.int .i64 4,.func (.func 151) #[] #[]],born:=5},
 {key:= .string ⟨#[118,111,105,100]⟩,val:= .agg #[.int .i64 1,.func (.func 152) #[] #[]],born:=6},
 {key:= .string ⟨#[115,101,108,108]⟩,val:= .agg #[.int .i64 5,.func (.func 153) #[] #[]],born:=7}]
theorem wN(w:World)(es:Array MapEntry)(c:Nat)(s:ByteArray)(val:Value)(hf:Instr.findNow .string (.string s) es.toList 0=some none):
  (Instr.mapUpdate 218 (.map (some w.heap.size)) (.string s) val).run Tryz.prog (w.alloc (.map es c))= .ok () (w.alloc (.map (es.push {key:= .string s,val:=val,born:=c}) (c+1))):=by
 have hm:Tryz.prog.underlying 218=some (.map 9 216):=VW;have hk:Tryz.prog.underlying 9=some .string:=VW;have hb:(w.alloc (.map es c)).heap[w.heap.size]? =some (.map es c):=World.alloc_heap_new w _;have hc:(Instr.checkKey false 10000 9 (.string s)).run Tryz.prog (w.alloc (.map es c))= .ok () (w.alloc (.map es c)):=MapKept.run_checkKey (k:= .string s) hk (by simp [MapKept.IsKey]) false 9999
 have hp: ∀o o':Obj,({w.alloc o with heap:=(w.alloc o).heap.setIfInBounds w.heap.size o'}:World)=w.alloc o':=λo o'=>by
  have ha:(w.heap.push o).setIfInBounds w.heap.size o'=w.heap.push o':=Array.toList_inj.1 (by simp [List.set_append])
  have h0: ∀q:Obj,(w.alloc q).heap=w.heap.push q:=λq=>rfl
  rw [h0,ha];rfl
 have h1:(Instr.mapUpdate 218 (.map (some w.heap.size)) (.string s) val).run Tryz.prog (w.alloc (.map es c))= .ok () {w.alloc (.map es c) with heap:=(w.alloc (.map es c)).heap.setIfInBounds w.heap.size (.map (es.push {key:= .string s,val:=val,born:=c}) (c+1)) }:=by
  simp only [Instr.mapUpdate,At,run_underlying hm,MapKept.run_getObj_map hb,hc,MapKept.run_findKey hk hf,MapKept.run_setObj_map _ hb,Result.andThen]
 rw [h1,hp]
theorem MA(w:World):Calls Tryz.prog 113 #[] w λen w'=>en= .returned (.map (some w.heap.size))/\w'=w.alloc (.map wdE.toArray 8):=by
 have i0:=run_makeMap (P:=Tryz.prog) 218 w;have i1:=wN w #[] 0 ⟨#[116,104,114,101,97,100]⟩ (.agg #[.int .i64 4,.func (.func 146) #[] #[]]) (by rfl)
 have i2:=wN w #[{key:= .string ⟨#[116,104,114,101,97,100]⟩,val:= .agg #[.int .i64 4,.func (.func 146) #[] #[]],born:=0}] 1 ⟨#[115,116,114,105,107,101]⟩ (.agg #[.int .i64 1,.func (.func 147) #[] #[]]) (by rfl)
 have i3:=wN w #[{key:= .string ⟨#[116,104,114,101,97,100]⟩,val:= .agg #[.int .i64 4,.func (.func 146) #[] #[]],born:=0},{key:= .string ⟨#[115,116,114,105,107,101]⟩,val:= .agg #[.int .i64 1,.func (.func 147) #[] #[]],born:=1}] 2 ⟨#[98,97,114,111]⟩ (.agg #[.int .i64 2,.func (.func 148) #[] #[]]) (by rfl)
 have i4:=wN w #[{key:= .string ⟨#[116,104,114,101,97,100]⟩,val:= .agg #[.int .i64 4,.func (.func 146) #[] #[]],born:=0},{key:= .string ⟨#[115,116,114,105,107,101]⟩,val:= .agg #[.int .i64 1,.func (.func 147) #[] #[]],born:=1},{key:= .string ⟨#[98,97,114,111]⟩,val:= .agg #[.int .i64 2,.func (.func 148) #[] #[]],born:=2}] 3 ⟨#[98,97,116,104]⟩ (.agg #[.int .i64 2,.func (.func 149) #[] #[]]) (by rfl)
 have i5:=wN w #[{key:= .string ⟨#[116,104,114,101,97,100]⟩,val:= .agg #[.int .i64 4,.func (.func 146) #[] #[]],born:=0},{key:= .string ⟨#[115,116,114,105,107,101]⟩,val:= .agg #[.int .i64 1,.func (.func 147) #[] #[]],born:=1},{key:= .string ⟨#[98,97,114,111]⟩,val:= .agg #[.int .i64 2,.func (.func 148) #[] #[]],born:=2},{key:= .string ⟨#[98,97,116,104]⟩,val:= .agg #[.int .i64 2,.func (.func 149) #[] #[]],born:=3}] 4 ⟨#[115,101,101]⟩ (.agg #[.int .i64 2,.func (.func 150) #[] #[]]) (by rfl)
 have i6:=wN w #[{key:= .string ⟨#[116,104,114,101,97,100]⟩,val:= .agg #[.int .i64 4,.func (.func 146) #[] #[]],born:=0},{key:= .string ⟨#[115,116,114,105,107,101]⟩,val:= .agg #[.int .i64 1,.func (.func 147) #[] #[]],born:=1},{key:= .string ⟨#[98,97,114,111]⟩,val:= .agg #[.int .i64 2,.func (.func 148) #[] #[]],born:=2},{key:= .string ⟨#[98,97,116,104]⟩,val:= .agg #[.int .i64 2,.func (.func 149) #[] #[]],born:=3},{key:= .string ⟨#[115,101,101]⟩,val:= .agg #[.int .i64 2,.func (.func 150) #[] #[]],born:=4}] 5 ⟨#[105,115,115,117,101]⟩ (.agg #[.int .i64 4,.func (.func 151) #[] #[]]) (by rfl)
 have i7:=wN w #[{key:= .string ⟨#[116,104,114,101,97,100]⟩,val:= .agg #[.int .i64 4,.func (.func 146) #[] #[]],born:=0},{key:= .string ⟨#[115,116,114,105,107,101]⟩,val:= .agg #[.int .i64 1,.func (.func 147) #[] #[]],born:=1},{key:= .string ⟨#[98,97,114,111]⟩,val:= .agg #[.int .i64 2,.func (.func 148) #[] #[]],born:=2},{key:= .string ⟨#[98,97,116,104]⟩,val:= .agg #[.int .i64 2,.func (.func 149) #[] #[]],born:=3},{key:= .string ⟨#[115,101,101]⟩,val:= .agg #[.int .i64 2,.func (.func 150) #[] #[]],born:=4},{key:= .string ⟨#[105,115,115,117,101]⟩,val:= .agg #[.int .i64 4,.func (.func 151) #[] #[]],born:=5}] 6 ⟨#[118,111,105,100]⟩ (.agg #[.int .i64 1,.func (.func 152) #[] #[]]) (by rfl)
 have i8:=wN w #[{key:= .string ⟨#[116,104,114,101,97,100]⟩,val:= .agg #[.int .i64 4,.func (.func 146) #[] #[]],born:=0},{key:= .string ⟨#[115,116,114,105,107,101]⟩,val:= .agg #[.int .i64 1,.func (.func 147) #[] #[]],born:=1},{key:= .string ⟨#[98,97,114,111]⟩,val:= .agg #[.int .i64 2,.func (.func 148) #[] #[]],born:=2},{key:= .string ⟨#[98,97,116,104]⟩,val:= .agg #[.int .i64 2,.func (.func 149) #[] #[]],born:=3},{key:= .string ⟨#[115,101,101]⟩,val:= .agg #[.int .i64 2,.func (.func 150) #[] #[]],born:=4},{key:= .string ⟨#[105,115,115,117,101]⟩,val:= .agg #[.int .i64 4,.func (.func 151) #[] #[]],born:=5},{key:= .string ⟨#[118,111,105,100]⟩,val:= .agg #[.int .i64 1,.func (.func 152) #[] #[]],born:=6}] 7 ⟨#[115,101,108,108]⟩ (.agg #[.int .i64 5,.func (.func 153) #[] #[]]) (by rfl)
 go_enter Tryz.func113,Tryz.ntmps113
 go_wp2
 go_ret
 exact ⟨rfl,rfl⟩
def eqU:List UInt8->List UInt8->Bool
 |[],[]=>true
 |a::l,b::m=>Nat.beq a.toNat b.toNat&&eqU l m
 |_,_=>false
theorem aY: ∀{l m:List UInt8},eqU l m=true↔l=m
 |[],[]=>by simp [eqU]
 |[],_::_=>by simp [eqU]
 |_::_,[]=>by simp [eqU]
 |a::l,b::m=>by
  simp only [eqU,HC,aY,List.cons.injEq];constructor
  ·rintro ⟨h,h2⟩;exact ⟨UInt8.toNat_inj.1 (H2 h),h2⟩
  ·rintro ⟨rfl,h2⟩;exact ⟨Nat.beq_refl _,h2⟩
section
variable (s:ByteArray)
def wdK:Nat:=match eqU s.data.toList [116,104,114,101,97,100] with
 |true=>0
 |false=>match eqU s.data.toList [115,116,114,105,107,101] with
 |true=>1
 |false=>match eqU s.data.toList [98,97,114,111] with
 |true=>2
 |false=>match eqU s.data.toList [98,97,116,104] with
 |true=>3
 |false=>match eqU s.data.toList [115,101,101] with
 |true=>4
 |false=>match eqU s.data.toList [105,115,115,117,101] with
 |true=>5
 |false=>match eqU s.data.toList [118,111,105,100] with
 |true=>6
 |false=>match eqU s.data.toList [115,101,108,108] with
 |true=>7
 |false=>8
def wdM:Nat->Int
 | 0=>4
 | 1=>1
 | 2=>2
 | 3=>2
 | 4=>2
 | 5=>4
 | 6=>1
 | 7=>5
 |_=>0
def wdO:Bool:=Nat.blt (wdK s) 8
def Qw5:List AV:=[match wdO s with|true=> .x (.int .i64 (wdM (wdK s)))|false=> .top,match wdO s with|true=> .fn (.func (146+wdK s)) [] []|false=> .top]
def wdL:List ByteArray:=[⟨#[116,104,114,101,97,100]⟩,⟨#[115,116,114,105,107,101]⟩,⟨#[98,97,114,111]⟩,⟨#[98,97,116,104]⟩,⟨#[115,101,101]⟩,⟨#[105,115,115,117,101]⟩,⟨#[118,111,105,100]⟩,⟨#[115,101,108,108]⟩]
theorem AT:(wdK s<8/\wdL[wdK s]? =some s)\/(wdK s=8/\ ∀x∈wdL,x≠s):=by
 have mk: ∀(l:List UInt8),eqU s.data.toList l=true->(⟨l.toArray⟩:ByteArray)=s:=λl h=>zD.2 (aY.1 h).symm
 have no: ∀(l:List UInt8),eqU s.data.toList l=false->(⟨l.toArray⟩:ByteArray)≠s:=λl h he=>by
  rw [aY.2 (zD.1 he).symm] at h;cases h
 unfold wdK;split
 ·rename_i h0;exact .inl ⟨VM,by rw [←mk _ h0];rfl⟩
 rename_i h0;split
 ·rename_i h1;exact .inl ⟨VM,by rw [←mk _ h1];rfl⟩
 rename_i h1;split
 ·rename_i h2;exact .inl ⟨VM,by rw [←mk _ h2];rfl⟩
 rename_i h2;split
 ·rename_i h3;exact .inl ⟨VM,by rw [←mk _ h3];rfl⟩
 rename_i h3;split
 ·rename_i h4;exact .inl ⟨VM,by rw [←mk _ h4];rfl⟩
 rename_i h4;split
 ·rename_i h5;exact .inl ⟨VM,by rw [←mk _ h5];rfl⟩
 rename_i h5;split
 ·rename_i h6;exact .inl ⟨VM,by rw [←mk _ h6];rfl⟩
 rename_i h6;split
 ·rename_i h7;exact .inl ⟨VM,by rw [←mk _ h7];rfl⟩
 rename_i h7;refine .inr ⟨rfl,λx hx=>?_⟩
 simp only [wdL,GQ,DQ,or_false] at hx;rcases hx with rfl|rfl|rfl|rfl|rfl|rfl|rfl|rfl
 ·exact no _ h0
 ·exact no _ h1
 ·exact no _ h2
 ·exact no _ h3
 ·exact no _ h4
 ·exact no _ h5
 ·exact no _ h6
 ·exact no _ h7
def wdV:List Value:=[.int .i64 (wdM (wdK s)),.func (.func (146+wdK s)) #[] #[]]
end
theorem lU{s:ByteArray}(h:wdO s=true): ∃j,Instr.findNow .string (.string s) wdE 0=some (some (j,.agg (wdV s).toArray)):=by
 rcases AT s with ⟨h1,h2⟩|⟨h1,_⟩
 ·unfold wdV;rcases (show wdK s=0\/wdK s=1\/wdK s=2\/wdK s=3\/wdK s=4\/wdK s=5\/wdK s=6\/wdK s=7 by omega) with h3|h3|h3|h3|h3|h3|h3|h3<;>rw [h3] at h2 ⊢ <;>(obtain rfl:_=s:=Bb h2)<;>exact ⟨_,rfl⟩
 ·unfold wdO at h;rw [h1] at h;cases h
theorem IR{s:ByteArray}: ∀(es:List MapEntry) (j:Nat),(∀x∈es,∃k,x.key= .string k/\k≠s)->Instr.findNow .string (.string s) es j=some none
 |[],_,_=>rfl
 |x::es,j,h=>by
  obtain ⟨k,hk,hne⟩:=h x GJ;have hs:Instr.sameNow .string (.string s) (.string k)=some false:=by
   have hb:(s==k)=false:=by
    cases hq:(s==k) with
    |false=>rfl
    |true=>
     obtain ⟨a⟩:=s;obtain ⟨b⟩:=k;have h':(a==b)=true:=hq;exact absurd (by rw [eq_of_beq h']) hne
   simp [Instr.sameNow,hb]
  unfold Instr.findNow;rw [hk,hs];exact IR es (j+1) (λy hy=>h y (HW _ hy))
theorem Qf5{s:ByteArray}(h:wdO s=false):Instr.findNow .string (.string s) wdE 0=some none:=by
 rcases AT s with ⟨h1,_⟩|⟨_,h2⟩
 ·unfold wdO at h;rw [Bool.eq_false_iff,ne_eq,Aw] at h;omega
 ·refine IR _ _ λx hx=>?_
  simp only [wdE,GQ,DQ,or_false] at hx;rcases hx with rfl|rfl|rfl|rfl|rfl|rfl|rfl|rfl<;>exact ⟨_,rfl,h2 _ (by simp [wdL])⟩
theorem Xq4:U0 VR 113 [] (.mpr Qw5 wdO):=by
 intro e w args hro hgl FP hr;obtain rfl:=hr.nil_inv;refine (MA w).mono ?_;rintro en w' ⟨rfl,rfl⟩;have hsz:(w.alloc (.map wdE.toArray 8)).heap.size=w.heap.size+1:=VX;refine ⟨_,rfl,(Below.refl _ _).alloc (Am _) _,?_⟩;refine .mpr Qw5 wdO wdV w.heap.size wdE.toArray 8 (show w.heap.size<=w.heap.size/\w.heap.size<(w.alloc (.map wdE.toArray 8)).heap.size by omega) VM (λs a ha=>?_) (World.alloc_heap_new w _) (λs hs=>by simpa using lU hs) (λs hs=>⟨by simpa using Qf5 hs,λa ha=>?_⟩) (λs hs=>rfl) (λs k a v hs ha hv=>?_)
 ·unfold Qw5 at ha;cases h:wdO s<;>rw [h] at ha<;>simp only [GQ,DQ,or_false,or_self] at ha
  ·subst ha;exact .top
  ·rcases ha with rfl|rfl
   ·exact .x _
   ·exact .fn _ _ _ (λ_ h=>by cases h) (λ_ h=>by cases h)
 ·unfold Qw5 at ha;rw [hs] at ha;exact .inl (by simpa using ha)
 ·unfold Qw5 at ha;unfold wdV at hv;rw [hs] at ha
  match k,ha,hv with
  | 0,ha,hv=>
   simp only [List.getElem?_cons_zero,HH] at ha hv;subst ha hv;exact .x _
  | 1,ha,hv=>
   simp only [List.getElem?_cons_succ,List.getElem?_cons_zero,HH] at ha hv;subst ha hv;exact .fn _ [] [] [] [] rfl (λ_ _ _ h=>by simp at h) rfl (λ_ _ _ h=>by simp at h)
  |k+2,ha,hv=>simp at ha
def Xa9:UY
 |[]=>some ([],.mpr Qw5 wdO)
 |_=>none
theorem wV:VS VR 113 Xa9:=by
 refine ⟨(UK Tryz.func113),?_⟩;intro avs ns res h hn;unfold Xa9 at h;split at h
 ·cases h;exact Xq4
 ·cases h
end Go.Proofs.YtlclobclmfhlmaaGreatDoor.Hd
namespace Go.Proofs.YtlclobclmfhlmaaGreatDoor.Hd
open Go Go.Sx Go.RowKit Bo
open Go.Sx.VP (need branch leaf)
open Go.Sx.AV (lst ptr agg roI tup top)
structure HS where
 nr:Nat
 ra:Nat->Int
 rb:Nat->Int
 ru:Nat->Int
 rv:Nat->Int
 pl:Int
 ph:Int
 nb:Nat
 ql:Nat->Int
 qh:Nat->Int
 qm:Nat->Nat
 qr:Nat->Nat->Int
 qv:Nat->Nat->Int
 nc:Nat
 ca:Nat->Int
 cb:Nat->Int
 cc:Nat->Int
 cd:Nat->Int
 cv:Nat->Bool
 ns:Nat
 sa:Nat->Int
 sb:Nat->Int
 sc:Nat->Int
 sl:Nat->Int
 sh:Nat->Int
 xn:Nat
 xg:Nat->List AV
 yn:Nat
 yg:Nat->List AV
section
variable (N:Nat)(s:HS)
abbrev hR:AV:= .lst 4 N λk=>[iI (s.ra k),iI (s.rb k),iI (s.ru k),iI (s.rv k)]
abbrev hY:AV:= .lst 3 N λk=>[iI (s.ql k),iI (s.qh k),.lst 2 (s.qm k) λj=>[iI (s.qr k j),iI (s.qv k j)]]
abbrev hC:AV:= .lst 5 N λk=>[iI (s.ca k),iI (s.cb k),iI (s.cc k),iI (s.cd k),.x (.bool (s.cv k))]
abbrev hT:AV:= .lst 5 N λk=>[iI (s.sa k),iI (s.sb k),iI (s.sc k),iI (s.sl k),iI (s.sh k)]
end
section
variable (s:HS)
abbrev hL:List AV:=[hR s.nr s,iI s.pl,iI s.ph,hY s.nb s,hC s.nc s,hT s.ns s]
abbrev hsR:AV:=rds s.nr s.ra s.rb s.ru s.rv
abbrev hsB:AV:=bds s.nb s.ql s.qh s.qm s.qr s.qv
abbrev hsC:AV:=crs s.nc s.ca s.cb s.cc s.cd s.cv
abbrev hsS:AV:=sls s.ns s.sa s.sb s.sc s.sl s.sh
abbrev hsL:List AV:=[hsR s,i s.pl,i s.ph,hsB s,hsC s,hsS s]
end
def tbP(k:Nat):Int:=UB [720,760,800] k
def tbQ(k:Nat):Int:=UB [985,1000,1014] k
def LA:UY
 |[.agg [.lst 4 nr fr,.x (.int .i64 pl),.x (.int .i64 ph),.lst 3 nb fb,.lst 5 nc fc,.lst 5 ns fs]]=>some ([],.agg [i 4,i 100,i 20,i 30,.lst 4 nr fr,.lst 2 3 (λk=>[i (tbP k),i (tbQ k)]),i pl,i ph,i 1,i 3])
 |_=>none
theorem Qs3(nr nb nc ns:Nat)(fr fb fc fs:Nat->List AV)(pl ph:Int):FF VR 45 [.agg [.lst 4 nr fr,i pl,i ph,.lst 3 nb fb,.lst 5 nc fc,.lst 5 ns fs]] (.agg [i 4,i 100,i 20,i 30,.lst 4 nr fr,.lst 2 3 (λk=>[i (tbP k),i (tbQ k)]),i pl,i ph,i 1,i 3]):=by
 refine D0 (L:=[]) Aa Ad U1 Tryz.func45 (UW Tryz.f45) G7 (t:=leaf (agg [iI 4,iI 100,iI 20,iI 30,lst 4 nr λa=>fr a,lst 2 3 (U8 2 [iI 720,iI 985,iI 760,iI 1000,iI 800,iI 1014]),iI pl,iI ph,iI 1,iI 3])) VW ?_
 simp only [VP.sat,FJ,wD,UG,UJ];all_goals exact VA
theorem FD:P5 VR 45 LA:=by
 refine ⟨(UK Tryz.func45),?_⟩;intro avs ns res h hn;unfold LA at h;split at h
 ·cases h;exact Qs3 _ _ _ _ _ _ _ _ _ _
 ·cases h
def zH:UY
 |[.agg [.lst 4 nr fr,.x (.int .i64 pl),.x (.int .i64 ph),.lst 3 nb fb,.lst 5 nc fc,.lst 5 ns fs]]=>some ([],.agg [ofs,i 1,.lst 3 nb fb])
 |_=>none
abbrev Y1:AV:=lst 2 3 (U8 2 [iI 0,iI 0,iI (-9:Int),iI 9,iI (-9:Int),iI 9])
theorem pZ(nr nb nc ns:Nat)(fr fb fc fs:Nat->List AV)(pl ph:Int):FF VR 36 [.agg [.lst 4 nr fr,i pl,i ph,.lst 3 nb fb,.lst 5 nc fc,.lst 5 ns fs]] (.agg [ofs,i 1,.lst 3 nb fb]):=by
 refine D0 (L:=[]) Aa Ad U1 Tryz.func36 (UW Tryz.f36) G7 (t:=leaf (agg [Y1,iI 1,lst 3 nb λa=>fb a])) VW ?_
 simp only [VP.sat,FJ,wD,UG,UJ];all_goals exact VA
theorem RH:P5 VR 36 zH:=by
 refine ⟨(UK Tryz.func36),?_⟩;intro avs ns res h hn;unfold zH at h;split at h
 ·cases h;exact pZ _ _ _ _ _ _ _ _ _ _
 ·cases h
def MG:UY
 |[.agg [.lst 4 nr fr,.x (.int .i64 pl),.x (.int .i64 ph),.lst 3 nb fb,.lst 5 nc fc,.lst 5 ns fs]]=>some ([],.agg [i 4,i 10,.lst 5 ns fs])
 |_=>none
theorem Qs8(nr nb nc ns:Nat)(fr fb fc fs:Nat->List AV)(pl ph:Int):FF VR 40 [.agg [.lst 4 nr fr,i pl,i ph,.lst 3 nb fb,.lst 5 nc fc,.lst 5 ns fs]] (.agg [i 4,i 10,.lst 5 ns fs]):=by
 refine D0 (L:=[]) Aa Ad U1 Tryz.func40 (UW Tryz.f40) G7 (t:=leaf (agg [iI 4,iI 10,lst 5 ns λa=>fs a])) VW ?_
 simp only [VP.sat,FJ,wD,UG,UJ];all_goals exact VA
theorem P4:P5 VR 40 MG:=by
 refine ⟨(UK Tryz.func40),?_⟩;intro avs ns res h hn;unfold MG at h;split at h
 ·cases h;exact Qs8 _ _ _ _ _ _ _ _ _ _
 ·cases h
noncomputable def nP:D6:=A9 Tryz.prog [] {} [] Tryz.f62 (U9 Tryz.f62)
theorem IE:GE VR 62 nP:=
 RO (G:=[]) (X:=WD) (L:=[]) Aa Ad U1 (UK Tryz.func62) Tryz.func62 (UW Tryz.f62) U6
def U7(w:ByteArray)(V:Nat->ByteArray):Nat->ByteArray
 | 0=>w
 |k+1=>V k
def UR(q:Nat):ByteArray:=wdL.getD q ByteArray.empty
def uB(str:ByteArray)(n:Nat)(W:Nat->ByteArray):Prop:=str.size<100000/\Lib.countB str ⟨#[32]⟩+1=n/\(∀k,k<n->(spl str ⟨#[32]⟩).getD k ByteArray.empty=W k)/\ ∀k,(W k).size<=100000
def N9(s str sep:ByteArray):Prop:=s=str/\sep=⟨#[32]⟩
def Qk5(str:ByteArray)(n:Nat)(W:Nat->ByteArray):UY
 |[.x (.string s),.x (.string sep)]=>some ([N9 s str sep],.lst 1 n (λk=>[.x (.string (W k))]))
 |_=>none
theorem LF{str:ByteArray}{n:Nat}{W:Nat->ByteArray}(h:uB str n W):VS VR 112 (Qk5 str n W):=by
 refine ⟨(UK Tryz.func112),?_⟩;intro avs ns res hh hn;unfold Qk5 at hh;split at hh
 ·cases hh;obtain ⟨e1,e2⟩:=hn _ GJ;rw [e1,e2];have h1:=Wd1 str ⟨#[32]⟩ (by have:=h.1;omega) (by decide)
  rw [h.2.1] at h1;intro e w args hro hgl FP hr;refine (h1 e w args hro hgl FP hr).mono ?_;rintro en w' ⟨v,rfl,hb,GN⟩;exact ⟨v,rfl,hb,L2 (a:= .lst 1 n _) (b:= .lst 1 n _) ⟨rfl,rfl,λk hk=>by rw [h.2.2.1 k hk]⟩ GN⟩
 ·cases hh
abbrev YB(s:HS):H5:=[(0,.cells 100 [.top,.top,.top,.top,.top,.top]),(1,.row 38 1 s.xn s.xg),(2,.row 9 1 s.yn s.yg)]
def PE_(s:HS):St:={σ:=mkS 48 [],m:=(YB s),nx:=904,sv:=[[.ptr 0 0,.row 1,.row 2]] }
section
variable (W:Nat->ByteArray)(n:Nat)
def nuB:Bool:=DD (λj=>N6 (W (1+j))) (n-1)
def Xe9(mk:Int)(fk:Nat)(s:HS):St:={σ:=mkS 48 [(0,.ptr 0 0),(4,.lst 1 n (λk=>[.x (.string (W k))])),(5,.ptr 903 0),(7,.row 902),(31,.lst 1 (n-1) (λj=>[.x (.string (W (1+j)))])),(32,i ((n-1:Nat):Int)),(33,.top)],m:=[(902,.row 3 1 (0) (λj=>[i (U3 (W (1+j)))])),(903,.cells 216 [i mk,.fn (.func fk) [] []]),(0,.cells 100 (hsL s)),(1,.row 38 1 s.xn s.xg),(2,.row 9 1 s.yn s.yg)],nx:=904,sv:=[[.ptr 0 0,.row 1,.row 2]] }
noncomputable def NI:Code:=UC (VV (U9 Tryz.f90) 0)
def Wm1(mk:Int)(fk:Nat)(s:HS)(k:Nat):St:={σ:=H4 [(33,i k)] (Xe9 W n mk fk s).σ,m:=[(902,.row 3 1 (k) (λj=>[i (U3 (W (1+j)))])),(903,.cells 216 [i mk,.fn (.func fk) [] []]),(0,.cells 100 (hsL s)),(1,.row 38 1 s.xn s.xg),(2,.row 9 1 s.yn s.yg)],nx:=(Xe9 W n mk fk s).nx,sv:=[[.ptr 0 0,.row 1,.row 2]] }
def TN(mk:Int)(fk:Nat)(s:HS):PEx->Option St:=λex=>match ex with
 | .x (.exit 0)=>some {σ:=H4 [(33,i ((n-1:Nat):Int))] (Xe9 W n mk fk s).σ,m:=[(902,.row 3 1 (n-1) (λj=>[i (U3 (W (1+j)))])),(903,.cells 216 [i mk,.fn (.func fk) [] []]),(0,.cells 100 (hsL s)),(1,.row 38 1 s.xn s.xg),(2,.row 9 1 s.yn s.yg)],nx:=(Xe9 W n mk fk s).nx,sv:=[[.ptr 0 0,.row 1,.row 2]] }
 | .pan _=>some (PE_ s)
 |_=>none
def Jp2(mk:Int)(fk:Nat)(s:HS):PT:= .branch (nuB W n) (.leaf (.x (.exit 0),(TN W n mk fk s (.x (.exit 0))).getD (Xe9 W n mk fk s))) (.leaf (.pan (IU 182 (.int .i64 4)),PE_ s))
def vJ(mk:Int)(fk:Nat)(s:HS):PP:=a7 [(.slot 5,903,216,2),(.slot 7,902,3,1)] (Zg1 (Wm1 W n mk fk s (0)) (Jp2 W n mk fk s))
end
section
variable (s:HS)
abbrev XI:Prop:=(hR s.nr s)=hR s.nr s
abbrev XO:Prop:=(hC s.nc s)=hC s.nc s
abbrev XP:Prop:=(hT s.ns s)=hT s.ns s
abbrev XW:Prop:=(hY s.nb s)=hY s.nb s
abbrev JS:Prop:=s.pl=s.pl
abbrev JT:Prop:=s.ph=s.ph
end
abbrev JY:Prop:=AV.row 1=AV.row 1
abbrev JZ:Prop:=AV.row 2=AV.row 2
abbrev KI(n:Nat)(W:Nat->ByteArray):AV:=lst 1 (n-1) λj=>[FY (W (1+j))]
abbrev KO(s:HS):Prop:=s.xn=s.xn
abbrev KP(s:HS):Prop:=s.yn=s.yn
abbrev YK(n:Nat)(W:Nat->ByteArray):AV:=lst 1 n λk=>[FY (W k)]
theorem gN(W:Nat->ByteArray)(n:Nat)(mk:Int)(fk:Nat)(s:HS)(VU: ∀k,(W k).size<=100000)(UI:n<=100000): ∀ro cx,P2 Tryz.prog ro cx (.loop NI) (vJ W n mk fk s):=by
 refine aC [(.slot 5,903,216,2),(.slot 7,902,3,1)] (PX:=[(114,RD),(115,jS)]) (L:=[]) Aa Ad (UU.cons RS (UU.cons x9 (UU.nil _))) U1 (λj cj _ sp hsp=>by simp at hsp) (V:=Nat) (Wm1 W n mk fk s) (λk=>k<=n-1/\ ∀j,j<k->N6 (W (1+j))=true) (λk=>n-1-k) (λ_=>TN W n mk fk s) (x0:=0) ⟨Ao _,λj h=>absurd h (Aq _)⟩ ?_ ?_ ?_
 ·rintro k;kernel_rfl
 ·rintro k y E h;unfold TN at h;split at h
  ·cases h;kernel_rfl
  ·cases h;kernel_rfl
  ·cases h
 ·rintro Q hQ k hx;refine ⟨(k+1),?_⟩;(with_reducible refine DL (t:=branch (decide ((k:Int)<(↑(n-1):Int))) (need [UM k (↑(n-1):Int)] (need [ByteArray.size (W (1+k))<=100000] (branch (N6 (W (1+k))) (need [(k+1)*8<=140737488355328,RZ 1 (U8 1 [iI (U3 (W (1+k)))])] (need [VO ((k:Int)+1)] (need [QS,U2 (YK n W),ZR,WJ,U2 (KI n W),U2 (↑(n-1):Int),(k:Int)+1=(↑(k+1):Int),k+1=k+1,GY (k+1) (GI k (λj=>[iI (U3 (W (1+j)))]) (U8 1 [iI (U3 (W (1+k)))])) (λi=>[iI (U3 (W (1+i)))]),mk=mk,U2 (AV.fn (Fn.func fk) [] []),XI s,JS s,JT s,XW s,XO s,XP s,KO s,∀(i:Nat),i<s.xn->s.xg i=s.xg i,KP s,∀(i:Nat),i<s.yn->s.yg i=s.yg i,QS,JY,JZ] (leaf (PEx.x G9.normal))))) (need [KO s,∀(i:Nat),i<s.xn->s.xg i=s.xg i,KP s,∀(i:Nat),i<s.yn->s.yg i=s.yg i,QS,JY,JZ] (leaf (PEx.pan (Value.iface 182 (Value.agg {toList:=[Value.int IntKind.i64 (4:Int)] })))))))) (need [QS,U2 (YK n W),ZR,WJ,U2 (KI n W),U2 (↑(n-1):Int),(k:Int)=(↑(n-1):Int),k=n-1,∀(i:Nat),i<n-1->[iI (U3 (W (1+i)))]=[iI (U3 (W (1+i)))],mk=mk,U2 (AV.fn (Fn.func fk) [] []),XI s,JS s,JT s,XW s,XO s,XP s,KO s,∀(i:Nat),i<s.xn->s.xg i=s.xg i,KP s,∀(i:Nat),i<s.yn->s.yg i=s.yg i,QS,JY,JZ] (leaf (PEx.x (G9.exit 0))))) VW ?_)
  simp only [Jp2,TN,VP.sat,GX] at hQ;obtain ⟨A,I⟩:=hx;simp only [VP.sat,UD,UJ,HB,VO]
  have hc1: ∀x:Int,∀(j:Nat),j<1-> ∀y,y∈U8 1 [iI x] j->AV.one y=true:=λx j _ y hy=>FS hy (by simp [AV.one,Value.oneCell'])
  refine ⟨λh=>?_,λh=>?_⟩
  ·have hk:k<n-1:=VM;refine ⟨⟨VM,VM⟩,VU _,λhb=>?_,λhb=>?_⟩
   ·have D3: ∀j,j<k+1->N6 (W (1+j))=true:=by
     intro j hj;rcases (show j<k\/j=k by omega) with h1|rfl
     ·exact I j h1
     ·exact hb
    have I7: ∀j,j<k+1->GI k (λj=>[i (U3 (W (1+j)))]) (U8 1 [iI (U3 (W (1+k)))]) j=[i (U3 (W (1+j)))]:=by
     intro j hj;show HD (decide (j<k)) _ (U8 1 _ (j-k))=_;rw [show j-k=0 by omega]
     rcases (show j<k\/j=k by omega) with h1|rfl
     ·rw [decide_eq_true h1];rfl
     ·rw [show decide (j<j)=false by simp]
      rfl
    refine ⟨⟨VM,hc1 _⟩,VM,⟨VM,I7,λ_ _=>trivial,λ_ _=>trivial⟩,⟨VM,D3⟩,VM⟩
   ·have hno:nuB W n=false:=by
     rw [Bool.eq_false_iff];intro h2;have:=GW.1 h2 k hk;rw [hb] at this;cases this
    refine ⟨⟨λ_ _=>trivial,λ_ _=>trivial⟩,λE hE=>?_⟩
    cases hE;exact hQ.2 hno
  ·have hk:k=n-1:=VM;subst hk;have Wo7:nuB W n=true:=GW.2 I
   (with_reducible repeat' first|apply Al|intro _)
   all_goals first|exact Ak|rfl|(rename_i E hE;cases hE;exact hQ.1 Wo7)|trivial
def OS(s:HS):St:={σ:=[],m:=[(0,.cells 100 (hsL s)),(1,.row 38 1 s.xn s.xg),(2,.row 9 1 s.yn s.yg)],nx:=3000,sv:=[[.ptr 0 0,.row 1,.row 2]] }
def OX(s:HS):St:={σ:=[],m:=(YB s),nx:=3000,sv:=[[.ptr 0 0,.row 1,.row 2]] }
def rsE(e:Int):Bool×Int:=(decide (e=0),e)
def fmE(W:Nat->ByteArray)(n many:Nat)(e:Int):Int:=if n=many+1/\nuB W n=true then e else 4
def voE(s:HS)(x:Int):Int:=if bt 0 x ((s.nc:Int)-1)=true/\s.cv x.toNat=false then 0 else 7
def voS(s:HS)(x:Int):HS:={s with cv:=λk=>if (k:Int)=x then true else s.cv k}
theorem LJ{P:Program}{c:Code}{sp0:PP}(h: ∀cj,VV c 0=some cj-> ∀ro cx,P2 P ro cx cj sp0): ∀j cj,VV c j=some cj-> ∀sp,[sp0][j]? =some sp-> ∀ro cx,P2 P ro cx cj sp:=by
 intro j cj hj sp hsp
 match j with
 | 0=>
  simp at hsp;subst hsp;exact h cj hj
 |j+1=>simp at hsp
theorem sP(s sep:ByteArray)(h:1<=sep.size):Lib.countB s sep<=s.size:=Lib.countB_le sep h s.size s (Am _)
theorem BB{str:ByteArray}{n:Nat}{W:Nat->ByteArray}(h:uB str n W):n<=100000:=by
 have h1:=sP str ⟨#[32]⟩ (by decide)
 have h2:=h.1;have h3:=h.2.1;omega
def Qa2:D6:=Ws4 bS
theorem Wr5:GE VR 65 Qa2:=C7 lH
theorem DO(a b c d e f:AV):HE [a,b,c,d,e,f] [.top,.top,.top,.top,.top,.top]:=by
 have h: ∀a,dZ a .top:=λa=>by cases a<;>trivial
 exact ⟨h a,h b,h c,h d,h e,h f,trivial⟩
theorem gL{sz n:Nat}{f:Nat->List AV}(h: ∀i,i<n-> ∀x∈f i,Idf x/\FJ x x):dZ (.lst sz n f) (.lst sz n f):=by
 refine ⟨rfl,rfl,λi O=>⟨?_,λx hx=>(h i O x hx).1⟩⟩
 have: ∀l:List AV,(∀x∈l,FJ x x)->wD l l:=by
  intro l
  induction l with
  |nil=>intro _;trivial
  |cons a l ih=>intro hh;exact ⟨hh a GJ,ih λx hx=>hh x (HW _ hx)⟩
 exact this _ λx hx=>(h i O x hx).2
theorem PE(n:Int):Idf (i n)/\FJ (i n) (i n):=⟨.x _,by simp [FJ,UG]⟩
theorem zZ(n:Int):dZ (i n) (i n):=(PE n).2
theorem BD(s:HS):dZ (hsR s) (hsR s):=gL λk _ x hx=>by
 simp only [GQ,DQ,or_false] at hx;rcases hx with rfl|rfl|rfl|rfl<;>exact PE _
theorem PF(s:HS):dZ (hsS s) (hsS s):=gL λk _ x hx=>by
 simp only [GQ,DQ,or_false] at hx;rcases hx with rfl|rfl|rfl|rfl|rfl<;>exact PE _
theorem BE(s:HS):dZ (hsC s) (hsC s):=gL λk _ x hx=>by
 simp only [GQ,DQ,or_false] at hx;rcases hx with rfl|rfl|rfl|rfl|rfl<;>first|exact PE _|exact ⟨.x _,by simp [FJ,UG]⟩
theorem BF(s:HS):dZ (hsB s) (hsB s):=gL λk _ x hx=>by
 simp only [GQ,DQ,or_false] at hx;rcases hx with rfl|rfl|rfl
 ·exact PE _
 ·exact PE _
 ·refine ⟨.lst _ _ _ λj _ a ha=>?_,rfl,rfl,λ_ _=>rfl⟩
  simp only [GQ,DQ,or_false] at ha;rcases ha with rfl|rfl<;>exact .x _
section
variable {W:Nat->ByteArray}{n many:Nat}
theorem We0{e:Int}(h: ¬(n=many+1/\nuB W n=true)):(false,(4:Int))=rsE (fmE W n many e):=by
 unfold fmE;rw [if_neg h];rfl
theorem FB{e k:Int}(h1:n=many+1)(h2:nuB W n=true)(h:e=k)(hk:k≠0):(false,k)=rsE (fmE W n many e):=by
 unfold fmE rsE;rw [if_pos ⟨h1,h2⟩,h,decide_eq_false hk]
theorem uY{e:Int}(h1:n=many+1)(h2:nuB W n=true)(h:e=0):(true,(0:Int))=rsE (fmE W n many e):=by
 unfold fmE rsE;rw [if_pos ⟨h1,h2⟩,h];rfl
end
noncomputable abbrev Ql2:F0:=A8 Tryz.prog [(37,RQ)] {R:=[],H:=[(65,Qa2)] } [(114,RD)] [] Tryz.f152 (U9 Tryz.f152)
theorem Qr5:DA VR 152 (Ql2):=
 FU (G:=[(37,RQ)]) (X:={R:=[],H:=[(65,Qa2)] }) (PX:=[(114,RD)]) (L:=[]) (Ae B1 Aa) (Ai Ab (Ag Wr5 Ac)) (UU.cons RS (UU.nil _)) U1 (UK Tryz.func152) Tryz.func152 (UW Tryz.f152) (λj cj _ sp hsp=>by simp at hsp)
abbrev Q5:List AV:=[ptr 0 0,AV.row 1,AV.row 2]
abbrev QA(s:HS):Prop:=((38:TypeId),1,s.xn,s.xg)=((38:TypeId),1,s.xn,s.xg)
abbrev QB(s:HS):Prop:=((9:TypeId),1,s.yn,s.yg)=((9:TypeId),1,s.yn,s.yg)
abbrev QU:List AV:=[top,top,top,top,top,top]
abbrev X9(s:HS):H5:=[(0,.cells 100 (hsL s)),(1,.row 38 1 s.xn s.xg),(2,.row 9 1 s.yn s.yg)]
theorem VC{p:Prop}(h:p:=by
 refine ⟨DO _ _ _ _ _ _,We0 λh=>?_⟩
 rw [h.2] at h5;cases h5):p:=h
theorem VB{p:Prop}(h:p:=by
 refine ⟨DO _ _ _ _ _ _,We0 λh=>?_⟩
 have:=h.1;simp at h4;omega):p:=h
theorem Xj0(V:Nat->ByteArray)(n:Nat)(str:ByteArray)(s:HS)(VU:uB str n (U7 (UR 6) V))(UI:s.nc<=10):wX VR 90 [.ptr 0 0,.x (.string str)] (X9 s) 901 [[.ptr 0 0,.row 1,.row 2]] 182 (OS (voS s (U3 (V 0)))) (OX s) (rsE (fmE (U7 (UR 6) V) n 1 (voE s (U3 (V 0))))):=by
 refine LM (PX:=[(114,RD),(115,jS),(152,Ql2)]) (L:=[vJ (U7 (UR 6) V) n 1 152 s]) (Ae (LF VU) (Ae wV Aa)) Ad (UU.cons RS (UU.cons x9 (UU.cons Qr5 (UU.nil _)))) U1 (UK Tryz.func90) Tryz.func90 (UW Tryz.f90) (LJ (lpE (b:= .loop NI) VW<|gN (U7 (UR 6) V) n 1 152 s VU.2.2.2 (BB VU))) (N:=[(.cell 0 4,0,0,0)]) (t:=let z0:=(U3 (U7 (UR 6) V 1));let z1:=(U7 (UR 6) V (0:Int).toNat);let z2:=(need [[Q5]=[Q5],HE (hL s) QU,QA s,QB s] (leaf (false,(4:Int))));let z3:=(need [[Q5]=[Q5],HE (hL s) QU,QA s,QB s] (leaf (false,(7:Int))));let z4:=(U3 (U7 (UR 6) V (1+(0:Int).toNat)));(need [N9 str str {data:=#[32] }] (need [UM 0 n] (branch (wdO z1) (need [VO (wdM (wdK z1)+1)] (branch (!(n:Int)==wdM (wdK z1)+1) z2 (need [(0:Int)<=1/\(1:Int)<=(n:Int)/\(n:Int)<=(n:Int)] (need [QS,U2 (lst 1 n λk=>[FY (U7 (UR 6) V k)]),ZR,WJ,(lst 1 (n-(1:Int).toNat) λi=>[AV.x (.string (U7 (UR 6) V ((1:Int).toNat+i)))])=lst 1 (n-1) λj=>[FY (U7 (UR 6) V (1+j))],(↑(n-(1:Int).toNat):Int)=(↑(n-1):Int),(0:Int)=(↑(0:Nat):Int),0=0,∀(i:Nat),i<0->[]=[iI (U3 (U7 (UR 6) V (1+i)))],wdM (wdK z1)=1,U2 (AV.fn (Fn.func 152) [] []),XI s,JS s,JT s,XW s,XO s,XP s,KO s,∀(i:Nat),i<s.xn->s.xg i=s.xg i,KP s,∀(i:Nat),i<s.yn->s.yg i=s.yg i,QS,JY,JZ] (branch (nuB (U7 (UR 6) V) n) (need [UM 0 (↑(n-1):Int)] (need [(0:Int).toNat<n-1] (need [VO ((↑s.nc:Int)-1)] (branch (bt (0:Int) z0 ((↑s.nc:Int)-1)) (need [UM 0 (↑(n-1):Int)] (need [(0:Int).toNat<n-1] (need [UM (U3 (U7 (UR 6) V 1)) s.nc] (branch (!!s.cv (Int.toNat z0)) z3 (need [s.nc<=100000,gdX 5 s.nc λk=>[i (s.ca k),i (s.cb k),i (s.cc k),i (s.cd k),bl (s.cv k)]] (need [UM 0 (↑(n-1):Int)] (need [(0:Int).toNat<n-1] (need [UM (U3 (U7 (UR 6) V 1)) s.nc] (need [Int.toNat z0<s.nc] (need [[Q5]=[Q5],HE [hR s.nr s,iI s.pl,iI s.ph,hY s.nb s,lst 5 s.nc λk=>iI (if decide (k=Int.toNat z0)=true then s.ca k else s.ca k)::iI (if decide (k=Int.toNat z0)=true then s.cb k else s.cb k)::iI (if decide (k=Int.toNat z0)=true then s.cc k else s.cc k)::iI (if decide (k=Int.toNat z0)=true then s.cd k else s.cd k)::Bool.rec (bl (s.cv k)) (AV.lit true) (decide (k=Int.toNat z4))::Bool.rec ([]) ([]) (decide (k=Int.toNat z4)),hT s.ns s] (hL (voS s (U3 (V 0)))),((38:TypeId),1,s.xn,s.xg)=((38:TypeId),1,(voS s (U3 (V 0))).xn,(voS s (U3 (V 0))).xg),((9:TypeId),1,s.yn,s.yg)=((9:TypeId),1,(voS s (U3 (V 0))).yn,(voS s (U3 (V 0))).yg)] (leaf (true,(0:Int))))))))))))) z3)))) (need [[Q5]=[Q5],HE QU QU,QA s,QB s] (leaf (false,(4:Int))))))))) z2)))) VW ?_
 have hw:wdO (U7 (UR 6) V (Int.toNat 0))=true:=VW;have hm:wdM (wdK (U7 (UR 6) V (Int.toNat 0)))=1:=VW;have hn1:1<=n:=by have:=VU.2.1;omega
 have hnl:=BB VU;simp only [VP.sat,UD,UJ,hm,hw,true_imp_iff];refine ⟨⟨rfl,rfl⟩,⟨VM,VM⟩,⟨by simp only [VO];omega,λh4=>?_,λh4=>?_⟩,λh=>by cases h⟩
 ·exact VB
 ·have hN:n=1+1:=by
   simp at h4;omega
  refine ⟨⟨VM,VM,VM⟩,?_,λh5=>?_,λh5=>?_⟩
  rotate_left 2
  ·exact VC
  ·all_goals exact v6
  ·have hk1:n-1=1:=VM;have hx:U3 (U7 (UR 6) V 1)=U3 (V 0):=rfl;rw [hk1];simp only [hx,VO,bt_iff,Int.toNat_zero];have hgd:gdX 5 s.nc (λk=>[i (s.ca k),i (s.cb k),i (s.cc k),i (s.cd k),bl (s.cv k)]):=λk _=>⟨rfl,λx hx=>by
    simp only [GQ,DQ,or_false] at hx;rcases hx with rfl|rfl|rfl|rfl|rfl<;>exact ⟨Ak,by simp [AV.one,Value.oneCell']⟩⟩
   refine ⟨VM,VM,VM,λhb=>⟨VM,VM,VM,λh6=>⟨DO _ _ _ _ _ _,FB hN h5 ?_ (by decide)⟩,λh6=>⟨⟨VM,hgd⟩,VM,VM,VM,VM,⟨⟨BD s,zZ _,zZ _,BF s,?_,PF s,trivial⟩,rfl,rfl⟩,uY hN h5 ?_⟩⟩,λhb=>⟨DO _ _ _ _ _ _,FB hN h5 ?_ (by decide)⟩⟩
   ·unfold voE;rw [if_neg (λh=>by rw [h.2] at h6;cases h6)]
   ·refine ⟨rfl,rfl,λk hk=>?_⟩
    have e1:(voS s (U3 (V 0))).cv k=if k=(U3 (V 0)).toNat then true else s.cv k:=by
     show (if (k:Int)=U3 (V 0) then true else s.cv k)=_
     by_cases h:k=(U3 (V 0)).toNat
     ·rw [if_pos h,if_pos VM]
     ·rw [if_neg h,if_neg VM]
    refine ⟨?_,λx hx=>?_⟩
    ·by_cases h:k=(U3 (V 0)).toNat
     ·dsimp only
      rw [decide_eq_true h];refine ⟨(PE _).2,(PE _).2,(PE _).2,(PE _).2,?_,trivial⟩;rw [e1,if_pos h];exact rfl
     ·dsimp only
      rw [decide_eq_false h];refine ⟨(PE _).2,(PE _).2,(PE _).2,(PE _).2,?_,trivial⟩;rw [e1,if_neg h];simp [FJ,UG]
    ·simp only [GQ,DQ,or_false] at hx;rcases hx with rfl|rfl|rfl|rfl|rfl<;>exact .x _
   ·unfold voE;rw [if_pos ⟨(bt_iff _ _ _).2 hb,by simpa using h6⟩]
   ·unfold voE;rw [if_neg (λh=>by
     have:=(bt_iff _ _ _).1 h.1;rw [←bt_iff,hb] at this;cases this)]
section
variable (s:HS)
def inE:Int:=rdE 4 100 20 30 s.nr s.ra s.rb s.ru s.rv 3 tbP tbQ s.pl s.ph 1 3
def baS(x0 A:Int):HS:={s with pl:=x0,ph:=A}
def baE(x0 A:Int):Int:=if inE (baS s x0 A)=0 then 0 else 2
def btS(x0 A:Int):HS:={s with nb:=s.nb+1,ql:=HI s.nb s.ql x0,qh:=HI s.nb s.qh A,qm:=λk=>if k<s.nb then s.qm k else 0}
def btE(x0 A:Int):Int:=if bt 0 x0 A=true/\A<=1000 then (if s.nb<6 then 0 else 3) else 2
def isS(x0 A I Z:Int):HS:={s with nc:=s.nc+1,ca:=HI s.nc s.ca x0,cb:=HI s.nc s.cb A,cc:=HI s.nc s.cc I,cd:=HI s.nc s.cd Z,cv:=apB s.nc s.cv false}
def isE(x0 A I Z:Int):Int:=if asE 4 100 20 30 s.nr s.ra s.rb s.ru s.rv 3 tbP tbQ s.pl s.ph 1 3 x0 A I Z=0 then (if s.nc<10 then (if kpB 4 100 20 30 s.nr s.ra s.rb s.ru s.rv 3 tbP tbQ s.pl s.ph 1 3 x0 A I Z=true then 0 else 10) else 3) else 2
end
theorem hsI{s:HS}:UH 4 s.nr (λk=>[Bo.i (s.ra k),Bo.i (s.rb k),Bo.i (s.ru k),Bo.i (s.rv k)])/\UH 2 3 (λk=>[i (tbP k),i (tbQ k)]):=⟨Bo.isRec4 _ _ _ _ _,Pt.isRec2 _ _ _⟩
noncomputable abbrev Ql5:F0:=A8 Tryz.prog [(184,DY)] {R:=[(45,LA)],H:=[] } [(114,RD)] [] Tryz.f148 (U9 Tryz.f148)
theorem Qs9:DA VR 148 (Ql5):=
 FU (G:=[(184,DY)]) (X:={R:=[(45,LA)],H:=[] }) (PX:=[(114,RD)]) (L:=[]) (Ae qZ Aa) (Ai (Af FD Ab) Ac) (UU.cons RS (UU.nil _)) U1 (UK Tryz.func148) Tryz.func148 (UW Tryz.f148) (λj cj _ sp hsp=>by simp at hsp)
abbrev YH(s:HS)(V:Nat->ByteArray):List AV:=[hR s.nr s,iI (U3 (U7 (UR 2) V 1)),iI (U3 (U7 (UR 2) V 2)),hY s.nb s,hC s.nc s,hT s.ns s]
theorem Xj3(V:Nat->ByteArray)(n:Nat)(str:ByteArray)(s:HS)(VU:uB str n (U7 (UR 2) V)):wX VR 90 [.ptr 0 0,.x (.string str)] (X9 s) 901 [[.ptr 0 0,.row 1,.row 2]] 182 (OS (baS s (U3 (V 0)) (U3 (V 1)))) (OX s) (rsE (fmE (U7 (UR 2) V) n 2 (baE s (U3 (V 0)) (U3 (V 1))))):=by
 refine LM (PX:=[(114,RD),(115,jS),(148,(Ql5))]) (L:=[vJ (U7 (UR 2) V) n 2 148 s]) (Ae (LF VU) (Ae wV Aa)) Ad (UU.cons RS (UU.cons x9 (UU.cons (Qs9) (UU.nil _)))) U1 (UK Tryz.func90) Tryz.func90 (UW Tryz.f90) (LJ (lpE (b:= .loop NI) VW<|gN (U7 (UR 2) V) n 2 148 s VU.2.2.2 (BB VU))) (N:=[]) (t:=let z0:=(baS s (U3 (V 0)) (U3 (V 1)));let z1:=(U7 (UR 2) V (0:Int).toNat);let z2:=(need [[Q5]=[Q5],HE (hL s) QU,QA s,QB s] (leaf (false,(4:Int))));(need [N9 str str {data:=#[32] }] (need [UM 0 n] (branch (wdO z1) (need [VO (wdM (wdK z1)+1)] (branch (!(n:Int)==wdM (wdK z1)+1) z2 (need [(0:Int)<=1/\(1:Int)<=(n:Int)/\(n:Int)<=(n:Int)] (need [QS,U2 (lst 1 n λk=>[FY (U7 (UR 2) V k)]),ZR,WJ,(lst 1 (n-(1:Int).toNat) λi=>[AV.x (.string (U7 (UR 2) V ((1:Int).toNat+i)))])=lst 1 (n-1) λj=>[FY (U7 (UR 2) V (1+j))],(↑(n-(1:Int).toNat):Int)=(↑(n-1):Int),(0:Int)=(↑(0:Nat):Int),0=0,∀(i:Nat),i<0->[]=[iI (U3 (U7 (UR 2) V (1+i)))],wdM (wdK z1)=2,U2 (AV.fn (Fn.func 148) [] []),XI s,JS s,JT s,XW s,XO s,XP s,KO s,∀(i:Nat),i<s.xn->s.xg i=s.xg i,KP s,∀(i:Nat),i<s.yn->s.yg i=s.yg i,QS,JY,JZ] (branch (nuB (U7 (UR 2) V) n) (need [UM 0 (↑(n-1):Int)] (need [(0:Int).toNat<n-1] (need [UM 1 (↑(n-1):Int)] (need [(1:Int).toNat<n-1] (need [UH 4 s.nr λk=>[Bo.i (s.ra k),Bo.i (s.rb k),Bo.i (s.ru k),Bo.i (s.rv k)],UH 2 3 λk=>[i (tbP k),i (tbQ k)]] (branch (!rdE (4:Int) (100:Int) (20:Int) (30:Int) s.nr (s.ra) (s.rb) (s.ru) (s.rv) 3 tbP tbQ (U3 (U7 (UR 2) V 1)) (U3 (U7 (UR 2) V 2)) (1:Int) (3:Int)==0) (need [[Q5]=[Q5],HE (YH s V) QU,QA s,QB s] (leaf (false,(2:Int)))) (need [[Q5]=[Q5],HE (YH s V) (hL z0),((38:TypeId),1,s.xn,s.xg)=((38:TypeId),1,z0.xn,z0.xg),((9:TypeId),1,s.yn,s.yg)=((9:TypeId),1,z0.yn,z0.yg)] (leaf (true,(0:Int)))))))))) (need [[Q5]=[Q5],HE QU QU,QA s,QB s] (leaf (false,(4:Int))))))))) z2)))) VW ?_
 have hw:wdO (U7 (UR 2) V (Int.toNat 0))=true:=VW;have hm:wdM (wdK (U7 (UR 2) V (Int.toNat 0)))=2:=VW;have hn1:1<=n:=by have:=VU.2.1;omega
 have hnl:=BB VU;simp only [VP.sat,UD,UJ,hm,hw,true_imp_iff];refine ⟨⟨rfl,rfl⟩,⟨VM,VM⟩,⟨by simp only [VO];omega,λh4=>?_,λh4=>?_⟩,λh=>by cases h⟩
 ·exact VB
 ·have hN:n=2+1:=by
   simp at h4;omega
  refine ⟨⟨VM,VM,VM⟩,?_,λh5=>?_,λh5=>?_⟩
  rotate_left 2
  ·exact VC
  ·all_goals exact v6
  ·have hk1:n-1=2:=VM;rw [hk1];simp only [VO,Int.toNat_zero];refine ⟨VM,VM,VM,by decide,hsI,λh6=>⟨DO _ _ _ _ _ _,FB hN h5 ?_ (by decide)⟩,λh6=>⟨⟨⟨BD s,zZ _,zZ _,BF s,BE s,PF s,trivial⟩,rfl,rfl⟩,uY hN h5 ?_⟩⟩
   ·unfold baE;simp at h6;exact if_neg h6
   ·unfold baE;simp at h6;exact if_pos h6
noncomputable def fY:D6:=A9 Tryz.prog [] {} [] Tryz.f189 (U9 Tryz.f189)
theorem lI:GE VR 189 fY:=
 RO (G:=[]) (X:=WD) (L:=[]) Aa Ad U1 (UK Tryz.func189) Tryz.func189 (UW Tryz.f189) U6
noncomputable def Jr3:D6:=Wo2 Tryz.prog (Qg4 Tryz.prog [] {R:=[],H:=[(189,fY)] } []) Tryz.f186 (U9 Tryz.f186)
theorem Xl1:GE VR 186 Jr3:=by
 have hX: ∀cx,VZ VR {R:=[],H:=[(189,fY)] } cx:=(Ai Ab (Ag lI Ac));exact pW (L:=[]) (λcx=>Ww0 (G:=[]) (X:={R:=[],H:=[(189,fY)] }) Aa (hX cx) U1) (UK Tryz.func186) Tryz.func186 (UW Tryz.f186) U6
abbrev WS(n:Nat)(U:Nat->Int)(O:Nat->Int)(m:Nat->Nat)(r:Nat->Nat->Int)(v:Nat->Nat->Int)(x0:Int)(A:Int):AV:=lst 3 (0+n+1) (GI (0+n) (GI 0 (λx=>[]) λk=>[iI (U k),iI (O k),lst 2 (m k) λk_1=>[iI (r k k_1),iI (v k k_1)]]) (U8 3 [iI x0,iI A,QH]))
abbrev J2(x0:Int)(A:Int):AV:=lst 3 1 (GI 0 (λx=>[]) (U8 3 [iI x0,iI A,QH]))
section
variable (n:Nat)(U O:Nat->Int)(m:Nat->Nat)(r v:Nat->Nat->Int)
theorem Zn7(x0 A:Int)(VU:n<=100000):UQ VR 186 [.lst 3 n (λk=>[i (U k),i (O k),rdl (m k) (r k) (v k)]),.agg [i x0,i A,.x (.slice none 0 0)]] (.leaf (.lst 3 (n+1) (λk=>[i (HI n U x0 k),i (HI n O A k),rdl (if k<n then m k else 0) (r k) (v k)]))):=by
 refine T9 Xl1 (t:=VP.may True (VP.may True (VP.may (n=0) (need [40<=140737488355328,RZ 1 (U8 3 [iI x0,iI A,QH])] (leaf (J2 x0 A))) (need [(0+n)*40<=140737488355328,∀(i:Nat),i<n-> ∀(a:AV),a∈[iI (U i),iI (O i),rdl (m i) (r i) (v i)]->AV.one a=true] (need [(0+n+1)*40<=140737488355328,RZ 1 (U8 3 [iI x0,iI A,QH])] (leaf (WS n U O m r v x0 A))))) (VP.may True (VP.may (n=0) (need [40<=140737488355328,RZ 1 (U8 3 [iI x0,iI A,QH])] (leaf (J2 x0 A))) (need [(0+n)*40<=140737488355328,∀(i:Nat),i<n-> ∀(a:AV),a∈[iI (U i),iI (O i),rdl (m i) (r i) (v i)]->AV.one a=true] (need [(0+n+1)*40<=140737488355328,RZ 1 (U8 3 [iI x0,iI A,QH])] (leaf (WS n U O m r v x0 A))))) (VP.may (n=0) (need [40<=140737488355328,RZ 1 (U8 3 [iI x0,iI A,QH])] (leaf (J2 x0 A))) (need [(0+n)*40<=140737488355328,∀(i:Nat),i<n-> ∀(a:AV),a∈[iI (U i),iI (O i),rdl (m i) (r i) (v i)]->AV.one a=true] (need [(0+n+1)*40<=140737488355328,RZ 1 (U8 3 [iI x0,iI A,QH])] (leaf (WS n U O m r v x0 A))))))) (VP.may True (VP.may True (VP.may (n=0) (need [40<=140737488355328,RZ 1 (U8 3 [iI x0,iI A,QH])] (leaf (J2 x0 A))) (need [(0+n)*40<=140737488355328,∀(i:Nat),i<n-> ∀(a:AV),a∈[iI (U i),iI (O i),rdl (m i) (r i) (v i)]->AV.one a=true] (need [(0+n+1)*40<=140737488355328,RZ 1 (U8 3 [iI x0,iI A,QH])] (leaf (WS n U O m r v x0 A))))) (VP.may (n=0) (need [40<=140737488355328,RZ 1 (U8 3 [iI x0,iI A,QH])] (leaf (J2 x0 A))) (need [(0+n)*40<=140737488355328,∀(i:Nat),i<n-> ∀(a:AV),a∈[iI (U i),iI (O i),rdl (m i) (r i) (v i)]->AV.one a=true] (need [(0+n+1)*40<=140737488355328,RZ 1 (U8 3 [iI x0,iI A,QH])] (leaf (WS n U O m r v x0 A)))))) (VP.may (n=0) (need [40<=140737488355328,RZ 1 (U8 3 [iI x0,iI A,QH])] (leaf (J2 x0 A))) (need [(0+n)*40<=140737488355328,∀(i:Nat),i<n-> ∀(a:AV),a∈[iI (U i),iI (O i),rdl (m i) (r i) (v i)]->AV.one a=true] (need [(0+n+1)*40<=140737488355328,RZ 1 (U8 3 [iI x0,iI A,QH])] (leaf (WS n U O m r v x0 A))))))) VW ?_;intro Q hQ;have hA: ∀(k:Nat),k<1-> ∀(a:AV),a∈U8 3 [i x0,i A,AV.x (.slice none 0 0)] k->a.one=true:=by
  intro k hk a ha;obtain rfl:k=0:=VM;have ha:a∈[i x0,i A,AV.x (.slice none 0 0)]:=ha;simp only [GQ,DQ,or_false] at ha;rcases ha with rfl|rfl|rfl<;>simp [AV.one,Value.oneCell']
 have hB: ∀(k:Nat),k<n-> ∀(a:AV),a∈[i (U k),i (O k),rdl (m k) (r k) (v k)]->a.one=true:=by
  intro k hk a ha;simp only [GQ,DQ,or_false] at ha;rcases ha with rfl|rfl|rfl<;>simp [AV.one,Value.oneCell']
 have hI: ∀(k:Nat),∀x∈[i (HI n U x0 k),i (HI n O A k),rdl (if k<n then m k else 0) (r k) (v k)],Idf x:=by
  intro k x hx;simp only [GQ,DQ,or_false] at hx;rcases hx with rfl|rfl|rfl
  ·exact .x _
  ·exact .x _
  ·exact VE
 have hL: ∀k,n<=k->k<n+1->wD [i x0,i A,AV.x (.slice none 0 0)] [i (HI n U x0 k),i (HI n O A k),rdl (if k<n then m k else 0) (r k) (v k)]:=by
  intro k h _;simp only [HI,if_neg (Nat.not_lt.2 h)];exact ⟨(PE _).2,(PE _).2,⟨Ak,rfl⟩,trivial⟩
 have h1:n=0-> ∃r',dZ (lst 3 1 (GI 0 (λx=>[]) (U8 3 [i x0,i A,AV.x (.slice none 0 0)]))) r'/\Q r':=by
  intro h0;refine ⟨lst 3 (n+1) (λk=>[i (HI n U x0 k),i (HI n O A k),rdl (if k<n then m k else 0) (r k) (v k)]),⟨rfl,VM,λk hk=>⟨?_,hI k⟩⟩,hQ⟩
  obtain rfl:k=0:=VM;exact hL 0 VM VM
 have h2: ∃r',dZ (lst 3 (0+n+1) (GI (0+n) (GI 0 (λx=>[]) λk=>[i (U k),i (O k),lst 2 (m k) λj=>[i (r k j),i (v k j)]]) (U8 3 [i x0,i A,QH]))) r'/\Q r':=by
  refine ⟨lst 3 (n+1) (λk=>[i (HI n U x0 k),i (HI n O A k),rdl (if k<n then m k else 0) (r k) (v k)]),⟨rfl,VM,λk hk=>⟨?_,hI k⟩⟩,hQ⟩
  show wD (HD (decide (k<0+n)) (GI 0 (λx=>[]) (λk=>[i (U k),i (O k),lst 2 (m k) λj=>[i (r k j),i (v k j)]]) k) (U8 3 [i x0,i A,QH] (k-(0+n)))) _
  rw [S7,show k-(0+n)=0 by omega]
  by_cases h:k<n
  ·rw [show decide (k<0+n)=true from decide_eq_true VM];simp only [HI,if_pos h];exact ⟨(PE _).2,(PE _).2,⟨rfl,rfl,λ_ _=>rfl⟩,trivial⟩
  ·rw [show decide (k<0+n)=false from decide_eq_false VM];exact hL k VM VM
 simp only [VP.sat,UD,UJ]
 (with_reducible repeat' first|apply Al|intro _)
 all_goals first|exact Ak|omega|exact hA _ (by assumption) _ (by assumption)|exact hB _ (by assumption) _ (by assumption)|exact h2|exact h1 (by assumption)
def Ql1:DK:=λl=>match l with
 |[.lst 3 n1 f1,.agg [.x (.int .i64 x0),.x (.int .i64 A),.x z]]=>some (.need [lst 3 n1 f1= .lst 3 n (λk=>[i (U k),i (O k),rdl (m k) (r k) (v k)]),z= .slice none 0 0,n<=100000] (.leaf (.lst 3 (n+1) (λk=>[i (HI n U x0 k),i (HI n O A k),rdl (if k<n then m k else 0) (r k) (v k)]))))
 |_=>none
theorem Xl0:Sx.Enters Tryz.prog 186/\ ∀avs t,Ql1 n U O m r v avs=some t->UQ VR 186 avs t:=by
 refine ⟨(UK Tryz.func186),?_⟩;intro avs t h;unfold Ql1 at h;split at h
 ·cases h;intro Q hQ;obtain ⟨h1,h2⟩:=hQ;have e1:=h1.1;have e2:=h1.2.1;have e3:=h1.2.2;rw [e1,e2];exact Zn7 _ _ _ _ _ _ _ _ e3 Q h2
 ·cases h
end
noncomputable abbrev Ql4(s:HS):F0:=A8 Tryz.prog [(37,RQ)] {R:=[],H:=[],C:=[(186,(Ql1 s.nb s.ql s.qh s.qm s.qr s.qv))] } [(114,RD)] [] Tryz.f149 (U9 Tryz.f149)
theorem Qs7(s:HS):DA VR 149 (Ql4 s):=
 FU (G:=[(37,RQ)]) (X:={R:=[],H:=[],C:=[(186,(Ql1 s.nb s.ql s.qh s.qm s.qr s.qv))] }) (PX:=[(114,RD)]) (L:=[]) (Ae B1 Aa) (Aj Ab Ac (Ah (Xl0 s.nb s.ql s.qh s.qm s.qr s.qv) (UE.nil _))) (UU.cons RS (UU.nil _)) U1 (UK Tryz.func149) Tryz.func149 (UW Tryz.f149) (λj cj _ sp hsp=>by simp at hsp)
theorem Xj2(V:Nat->ByteArray)(n:Nat)(str:ByteArray)(s:HS)(VU:uB str n (U7 (UR 3) V))(UI:s.nb<=6):wX VR 90 [.ptr 0 0,.x (.string str)] (X9 s) 901 [[.ptr 0 0,.row 1,.row 2]] 182 (OS (btS s (U3 (V 0)) (U3 (V 1)))) (OX s) (rsE (fmE (U7 (UR 3) V) n 2 (btE s (U3 (V 0)) (U3 (V 1))))):=by
 refine LM (PX:=[(114,RD),(115,jS),(149,(Ql4 s))]) (L:=[vJ (U7 (UR 3) V) n 2 149 s]) (Ae (LF VU) (Ae wV Aa)) Ad (UU.cons RS (UU.cons x9 (UU.cons (Qs7 s) (UU.nil _)))) U1 (UK Tryz.func90) Tryz.func90 (UW Tryz.f90) (LJ (lpE (b:= .loop NI) VW<|gN (U7 (UR 3) V) n 2 149 s VU.2.2.2 (BB VU))) (N:=[]) (t:=let z0:=(btS s (U3 (V 0)) (U3 (V 1)));let z1:=(U7 (UR 3) V (0:Int).toNat);let z2:=(need [[Q5]=[Q5],HE (hL s) QU,QA s,QB s] (leaf (false,(4:Int))));let z3:=(need [[Q5]=[Q5],HE (hL s) QU,QA s,QB s] (leaf (false,(2:Int))));(need [N9 str str {data:=#[32] }] (need [UM 0 n] (branch (wdO z1) (need [VO (wdM (wdK z1)+1)] (branch (!(n:Int)==wdM (wdK z1)+1) z2 (need [(0:Int)<=1/\(1:Int)<=(n:Int)/\(n:Int)<=(n:Int)] (need [QS,U2 (lst 1 n λk=>[FY (U7 (UR 3) V k)]),ZR,WJ,(lst 1 (n-(1:Int).toNat) λi=>[AV.x (.string (U7 (UR 3) V ((1:Int).toNat+i)))])=lst 1 (n-1) λj=>[FY (U7 (UR 3) V (1+j))],(↑(n-(1:Int).toNat):Int)=(↑(n-1):Int),(0:Int)=(↑(0:Nat):Int),0=0,∀(i:Nat),i<0->[]=[iI (U3 (U7 (UR 3) V (1+i)))],wdM (wdK z1)=2,U2 (AV.fn (Fn.func 149) [] []),XI s,JS s,JT s,XW s,XO s,XP s,KO s,∀(i:Nat),i<s.xn->s.xg i=s.xg i,KP s,∀(i:Nat),i<s.yn->s.yg i=s.yg i,QS,JY,JZ] (branch (nuB (U7 (UR 3) V) n) (need [UM 0 (↑(n-1):Int)] (need [(0:Int).toNat<n-1] (need [UM 1 (↑(n-1):Int)] (need [(1:Int).toNat<n-1] (branch (bt (0:Int) (U3 (U7 (UR 3) V 1)) (U3 (U7 (UR 3) V 2))) (need [UM 1 (↑(n-1):Int)] (need [(1:Int).toNat<n-1] (branch (!decide (U3 (U7 (UR 3) V 2)<=1000)) z3 (branch (!decide ((↑s.nb:Int)<6)) (need [[Q5]=[Q5],HE (hL s) QU,QA s,QB s] (leaf (false,(3:Int)))) (need [UM 0 (↑(n-1):Int)] (need [(0:Int).toNat<n-1] (need [UM 1 (↑(n-1):Int)] (need [(1:Int).toNat<n-1] (need [(hY s.nb s)=lst 3 s.nb λk=>[iI (s.ql k),iI (s.qh k),lst 2 (s.qm k) λk_1=>[iI (s.qr k k_1),iI (s.qv k k_1)]],J4=J4,s.nb<=100000] (need [[Q5]=[Q5],HE [hR s.nr s,iI s.pl,iI s.ph,lst 3 (s.nb+1) λk=>[iI (HI s.nb (s.ql) (U3 (U7 (UR 3) V 1)) k),iI (HI s.nb (s.qh) (U3 (U7 (UR 3) V 2)) k),lst 2 (if k<s.nb then s.qm k else 0) λk_1=>[iI (s.qr k k_1),iI (s.qv k k_1)]],hC s.nc s,hT s.ns s] (hL z0),((38:TypeId),1,s.xn,s.xg)=((38:TypeId),1,z0.xn,z0.xg),((9:TypeId),1,s.yn,s.yg)=((9:TypeId),1,z0.yn,z0.yg)] (leaf (true,(0:Int))))))))))))) z3))))) (need [[Q5]=[Q5],HE QU QU,QA s,QB s] (leaf (false,(4:Int))))))))) z2)))) VW ?_
 have hw:wdO (U7 (UR 3) V (Int.toNat 0))=true:=VW;have hm:wdM (wdK (U7 (UR 3) V (Int.toNat 0)))=2:=VW;have hn1:1<=n:=by have:=VU.2.1;omega
 have hnl:=BB VU;simp only [VP.sat,UD,UJ,hm,hw,true_imp_iff];refine ⟨⟨rfl,rfl⟩,⟨VM,VM⟩,⟨by simp only [VO];omega,λh4=>?_,λh4=>?_⟩,λh=>by cases h⟩
 ·exact VB
 ·have hN:n=2+1:=by
   simp at h4;omega
  refine ⟨⟨VM,VM,VM⟩,?_,λh5=>?_,λh5=>?_⟩
  rotate_left 2
  ·exact VC
  ·all_goals exact v6
  ·have hk1:n-1=2:=VM;have hx0:U3 (U7 (UR 3) V 1)=U3 (V 0):=rfl;have hx1:U3 (U7 (UR 3) V 2)=U3 (V 1):=rfl;rw [hk1];simp only [hx0,hx1,Int.toNat_zero];refine ⟨VM,VM,VM,by decide,λhb=>⟨VM,by decide,λh6=>⟨DO _ _ _ _ _ _,FB hN h5 ?_ (by decide)⟩,λh6=>⟨λh7=>⟨DO _ _ _ _ _ _,FB hN h5 ?_ (by decide)⟩,λh7=>⟨VM,VM,VM,by decide,VM,⟨⟨BD s,zZ _,zZ _,BF (btS s (U3 (V 0)) (U3 (V 1))),BE s,PF s,trivial⟩,rfl,rfl⟩,uY hN h5 ?_⟩⟩⟩,λhb=>⟨DO _ _ _ _ _ _,FB hN h5 ?_ (by decide)⟩⟩
   ·simp at h6;exact if_neg λh=>VM
   ·simp at h6 h7;unfold btE;rw [if_pos ⟨hb,h6⟩,if_neg VM]
   ·simp at h6 h7;unfold btE;rw [if_pos ⟨hb,h6⟩,if_pos VM]
   ·exact if_neg λh=>by
     rw [hb] at h;cases h.1
def thS(s:HS)(x0 A I Z:Int):HS:={s with nr:=s.nr+1,ra:=HI s.nr s.ra x0,rb:=HI s.nr s.rb A,ru:=HI s.nr s.ru I,rv:=HI s.nr s.rv Z}
def thD(x0 A I Z:Int):Int:=eB 4 100 20 30 1 (λ_=>x0) (λ_=>A) (λ_=>I) (λ_=>Z)
def thE(s:HS)(x0 A I Z:Int):Int:=if (thD x0 A I Z==0||thD x0 A I Z==9)=true then (if s.nr<12 then (if inE (thS s x0 A I Z)=0 then 0 else 9) else 3) else 2
def cR(S:UY):DK:=λl=>match S l with
 |some (ns,r)=>some (.needT ns (.leaf r))
 |none=>none
theorem Qg7{P:Program}{f:FuncId}{S:UY}(h:P5 P f S):Sx.Enters P f/\ ∀avs t,cR S avs=some t->UQ P f avs t:=by
 refine ⟨h.1,λavs t ht=>?_⟩
 unfold cR at ht;split at ht
 ·rename_i ns r hS;cases ht;intro Q hQ e w args h1 h2 h3 h4;obtain ⟨q1,q2⟩:=VP.sat_needT hQ;refine (h.2 _ _ _ hS (GF q1) e w args h1 h2 h3 h4).mono ?_;rintro en w' ⟨v,rfl,g1,g2⟩;exact ⟨v,r,rfl,q2,g1,g2⟩
 ·cases ht
def dG:UY
 |[.agg [.x (.int .i64 c),.x (.int .i64 T),.x (.int .i64 U),.x (.int .i64 O)],.lst 4 n f]=>match f 0 with
  |[.x (.int .i64 a),.x (.int .i64 b),.x (.int .i64 u),.x (.int .i64 v)]=>some ([n=1],.tup [i (dtB c T U O 1 (λ_=>a) (λ_=>b) (λ_=>u) (λ_=>v)),i (eB c T U O 1 (λ_=>a) (λ_=>b) (λ_=>u) (λ_=>v))])
  |_=>none
 |_=>none
theorem Qw9:VS VR 182 dG:=by
 refine ⟨(UK Tryz.func182),?_⟩;intro avs ns res h hn;unfold dG at h;split at h
 ·rename_i c T U O n f;split at h
  ·rename_i a b u v hf;cases h;obtain rfl:n=1:=hn _ GJ;exact (Xf1 c T U O 1 (λ_=>a) (λ_=>b) (λ_=>u) (λ_=>v)).same (.cons (.refl _) (.cons (.lst 4 1 f _ (λk hk=>by
    obtain rfl:k=0:=VM;exact hf)) .nil))
  ·cases h
 ·cases h
theorem bnf{b:Bool}(h:(!b)=false):b=true:=by cases b<;>simp_all
theorem bnt{b:Bool}(h:(!b)=true):b=false:=by cases b<;>simp_all
section
variable {s:HS}{x0 A I Z:Int}
theorem Ja3(h:(thD x0 A I Z==0)=false)(h':(thD x0 A I Z==9)=false):thE s x0 A I Z=2:=by
 unfold thE;rw [h,h'];rfl
theorem Xu6(h:(thD x0 A I Z==0||thD x0 A I Z==9)=true)(h8:(!decide ((s.nr:Int)<12))=true):thE s x0 A I Z=3:=by
 unfold thE;simp at h8;rw [if_pos h,if_neg VM]
theorem Xu5(h:(thD x0 A I Z==0||thD x0 A I Z==9)=true)(h8:(!decide ((s.nr:Int)<12))=false)(h9:(!inE (thS s x0 A I Z)==0)=true):thE s x0 A I Z=9:=by
 unfold thE;simp at h8 h9;rw [if_pos h,if_pos VM,if_neg h9]
theorem Xu7(h:(thD x0 A I Z==0||thD x0 A I Z==9)=true)(h8:(!decide ((s.nr:Int)<12))=false)(h9:(!inE (thS s x0 A I Z)==0)=false):thE s x0 A I Z=0:=by
 unfold thE;simp at h8 h9;rw [if_pos h,if_pos VM,if_pos h9]
end
noncomputable abbrev SU(s:HS):F0:=A8 Tryz.prog [(182,dG),(184,DY),(183,(Qk9 s.nr s.ra s.rb s.ru s.rv))] {R:=[(45,LA)],H:=[],C:=[(45,(cR LA))] } [(114,RD)] [] Tryz.f146 (U9 Tryz.f146)
theorem iU(s:HS):DA VR 146 (SU s):=
 FU (G:=[(182,dG),(184,DY),(183,(Qk9 s.nr s.ra s.rb s.ru s.rv))]) (X:={R:=[(45,LA)],H:=[],C:=[(45,(cR LA))] }) (PX:=[(114,RD)]) (L:=[]) (Ae Qw9 (Ae qZ (Ae (Xk8 s.nr s.ra s.rb s.ru s.rv) Aa))) (Aj (Af FD Ab) Ac (Ah (Qg7 FD) (UE.nil _))) (UU.cons RS (UU.nil _)) U1 (UK Tryz.func146) Tryz.func146 (UW Tryz.f146) (λj cj _ sp hsp=>by simp at hsp)
abbrev WA(s:HS)(V:Nat->ByteArray):List AV:=[lst 4 (s.nr+1) λk=>[iI (HI s.nr (s.ra) (U3 (U7 (UR 0) V 1)) k),iI (HI s.nr (s.rb) (U3 (U7 (UR 0) V 2)) k),iI (HI s.nr (s.ru) (U3 (U7 (UR 0) V 3)) k),iI (HI s.nr (s.rv) (U3 (U7 (UR 0) V 4)) k)],iI s.pl,iI s.ph,hY s.nb s,hC s.nc s,hT s.ns s]
theorem Qq2(V:Nat->ByteArray)(n:Nat)(str:ByteArray)(s:HS)(VU:uB str n (U7 (UR 0) V))(UI:s.nr<=12):wX VR 90 [.ptr 0 0,.x (.string str)] (X9 s) 901 [[.ptr 0 0,.row 1,.row 2]] 182 (OS (thS s (U3 (V 0)) (U3 (V 1)) (U3 (V 2)) (U3 (V 3)))) (OX s) (rsE (fmE (U7 (UR 0) V) n 4 (thE s (U3 (V 0)) (U3 (V 1)) (U3 (V 2)) (U3 (V 3))))):=by
 refine LM (PX:=[(114,RD),(115,jS),(146,(SU s))]) (L:=[vJ (U7 (UR 0) V) n 4 146 s]) (Ae (LF VU) (Ae wV Aa)) Ad (UU.cons RS (UU.cons x9 (UU.cons (iU s) (UU.nil _)))) U1 (UK Tryz.func90) Tryz.func90 (UW Tryz.f90) (LJ (lpE (b:= .loop NI) VW<|gN (U7 (UR 0) V) n 4 146 s VU.2.2.2 (BB VU))) (N:=[]) (t:=let z1:=(thS s (U3 (V 0)) (U3 (V 1)) (U3 (V 2)) (U3 (V 3)));let z0:=(branch (!decide ((↑s.nr:Int)<12)) (need [[Q5]=[Q5],HE (hL s) QU,QA s,QB s] (leaf (false,(3:Int)))) (need [XI s,s.nr<=100000] (need [UH 4 (s.nr+1) λk=>[Bo.i (HI s.nr (s.ra) (U3 (U7 (UR 0) V 1)) k),Bo.i (HI s.nr (s.rb) (U3 (U7 (UR 0) V 2)) k),Bo.i (HI s.nr (s.ru) (U3 (U7 (UR 0) V 3)) k),Bo.i (HI s.nr (s.rv) (U3 (U7 (UR 0) V 4)) k)],UH 2 3 λk=>[i (tbP k),i (tbQ k)]] (branch (!rdE (4:Int) (100:Int) (20:Int) (30:Int) (s.nr+1) (HI s.nr (s.ra) (U3 (U7 (UR 0) V 1))) (HI s.nr (s.rb) (U3 (U7 (UR 0) V 2))) (HI s.nr (s.ru) (U3 (U7 (UR 0) V 3))) (HI s.nr (s.rv) (U3 (U7 (UR 0) V 4))) 3 tbP tbQ s.pl s.ph (1:Int) (3:Int)==0) (need [[Q5]=[Q5],HE (WA s V) QU,QA s,QB s] (leaf (false,(9:Int)))) (need [[Q5]=[Q5],HE (WA s V) (hL z1),((38:TypeId),1,s.xn,s.xg)=((38:TypeId),1,z1.xn,z1.xg),((9:TypeId),1,s.yn,s.yg)=((9:TypeId),1,z1.yn,z1.yg)] (leaf (true,(0:Int))))))));let z2:=(eB (4:Int) (100:Int) (20:Int) (30:Int) 1 (λx=>U3 (U7 (UR 0) V 1)) (λx=>U3 (U7 (UR 0) V 2)) (λx=>U3 (U7 (UR 0) V 3)) λx=>U3 (U7 (UR 0) V 4));let z3:=(U7 (UR 0) V (0:Int).toNat);let z4:=(need [[Q5]=[Q5],HE (hL s) QU,QA s,QB s] (leaf (false,(4:Int))));(need [N9 str str {data:=#[32] }] (need [UM 0 n] (branch (wdO z3) (need [VO (wdM (wdK z3)+1)] (branch (!(n:Int)==wdM (wdK z3)+1) z4 (need [(0:Int)<=1/\(1:Int)<=(n:Int)/\(n:Int)<=(n:Int)] (need [QS,U2 (lst 1 n λk=>[FY (U7 (UR 0) V k)]),ZR,WJ,(lst 1 (n-(1:Int).toNat) λi=>[AV.x (.string (U7 (UR 0) V ((1:Int).toNat+i)))])=lst 1 (n-1) λj=>[FY (U7 (UR 0) V (1+j))],(↑(n-(1:Int).toNat):Int)=(↑(n-1):Int),(0:Int)=(↑(0:Nat):Int),0=0,∀(i:Nat),i<0->[]=[iI (U3 (U7 (UR 0) V (1+i)))],wdM (wdK z3)=4,U2 (AV.fn (Fn.func 146) [] []),XI s,JS s,JT s,XW s,XO s,XP s,KO s,∀(i:Nat),i<s.xn->s.xg i=s.xg i,KP s,∀(i:Nat),i<s.yn->s.yg i=s.yg i,QS,JY,JZ] (branch (nuB (U7 (UR 0) V) n) (need [UM 0 (↑(n-1):Int)] (need [(0:Int).toNat<n-1] (need [UM 1 (↑(n-1):Int)] (need [(1:Int).toNat<n-1] (need [UM 2 (↑(n-1):Int)] (need [(2:Int).toNat<n-1] (need [UM 3 (↑(n-1):Int)] (need [(3:Int).toNat<n-1] (need [1=1] (branch (z2==0) z0 (branch (!z2==9) (need [[Q5]=[Q5],HE (hL s) QU,QA s,QB s] (leaf (false,(2:Int)))) z0))))))))))) (need [[Q5]=[Q5],HE QU QU,QA s,QB s] (leaf (false,(4:Int))))))))) z4)))) VW ?_
 have hw:wdO (U7 (UR 0) V (Int.toNat 0))=true:=VW;have hm:wdM (wdK (U7 (UR 0) V (Int.toNat 0)))=4:=VW;have hn1:1<=n:=by have:=VU.2.1;omega
 have hnl:=BB VU;simp only [VP.sat,UD,UJ,hm,hw,true_imp_iff];refine ⟨⟨rfl,rfl⟩,⟨VM,VM⟩,⟨by simp only [VO];omega,λh4=>?_,λh4=>?_⟩,λh=>by cases h⟩
 ·exact VB
 ·have hN:n=4+1:=by
   simp at h4;omega
  refine ⟨⟨VM,VM,VM⟩,?_,λh5=>?_,λh5=>?_⟩
  rotate_left 2
  ·exact VC
  ·all_goals exact v6
  ·have hk1:n-1=4:=VM;have hx0:U3 (U7 (UR 0) V 1)=U3 (V 0):=rfl;have hx1:U3 (U7 (UR 0) V 2)=U3 (V 1):=rfl;have hx2:U3 (U7 (UR 0) V 3)=U3 (V 2):=rfl;have hx3:U3 (U7 (UR 0) V 4)=U3 (V 3):=rfl;rw [hk1];simp only [hx0,hx1,hx2,hx3];refine ⟨VM,by decide,VM,by decide,VM,by decide,VM,by decide,λh6=>⟨λh8=>⟨DO _ _ _ _ _ _,FB hN h5 (Xu6 (Bool.or_eq_true_iff.2 (.inl h6)) h8) (by decide)⟩,λh8=>⟨VM,⟨Bo.isRec4 _ _ _ _ _,Pt.isRec2 _ _ _⟩,λh9=>⟨DO _ _ _ _ _ _,FB hN h5 (Xu5 (Bool.or_eq_true_iff.2 (.inl h6)) h8 h9) (by decide)⟩,λh9=>⟨⟨⟨BD (thS s (U3 (V 0)) (U3 (V 1)) (U3 (V 2)) (U3 (V 3))),zZ _,zZ _,BF s,BE s,PF s,trivial⟩,rfl,rfl⟩,uY hN h5 (Xu7 (Bool.or_eq_true_iff.2 (.inl h6)) h8 h9)⟩⟩⟩,λh6=>⟨λh7=>⟨DO _ _ _ _ _ _,FB hN h5 (Ja3 h6 (bnt h7)) (by decide)⟩,λh7=>⟨λh8=>⟨DO _ _ _ _ _ _,FB hN h5 (Xu6 (Bool.or_eq_true_iff.2 (.inr (bnf h7))) h8) (by decide)⟩,λh8=>⟨VM,⟨Bo.isRec4 _ _ _ _ _,Pt.isRec2 _ _ _⟩,λh9=>⟨DO _ _ _ _ _ _,FB hN h5 (Xu5 (Bool.or_eq_true_iff.2 (.inr (bnf h7))) h8 h9) (by decide)⟩,λh9=>⟨⟨⟨BD (thS s (U3 (V 0)) (U3 (V 1)) (U3 (V 2)) (U3 (V 3))),zZ _,zZ _,BF s,BE s,PF s,trivial⟩,rfl,rfl⟩,uY hN h5 (Xu7 (Bool.or_eq_true_iff.2 (.inr (bnf h7))) h8 h9)⟩⟩⟩⟩⟩
section
variable {s:HS}{x0 A I Z:Int}
theorem Jg8(h6:(!asE 4 100 20 30 s.nr s.ra s.rb s.ru s.rv 3 tbP tbQ s.pl s.ph 1 3 x0 A I Z==0)=true):isE s x0 A I Z=2:=by
 unfold isE;simp at h6;rw [if_neg h6]
theorem Jg7(h6:(!asE 4 100 20 30 s.nr s.ra s.rb s.ru s.rv 3 tbP tbQ s.pl s.ph 1 3 x0 A I Z==0)=false)(h7:(!decide ((s.nc:Int)<10))=true):isE s x0 A I Z=3:=by
 unfold isE;simp at h6 h7;rw [if_pos h6,if_neg VM]
theorem Zm9(h6:(!asE 4 100 20 30 s.nr s.ra s.rb s.ru s.rv 3 tbP tbQ s.pl s.ph 1 3 x0 A I Z==0)=false)(h7:(!decide ((s.nc:Int)<10))=false)(h8:(!kpB 4 100 20 30 s.nr s.ra s.rb s.ru s.rv 3 tbP tbQ s.pl s.ph 1 3 x0 A I Z)=true):isE s x0 A I Z=10:=by
 unfold isE;simp at h6 h7 h8;rw [if_pos h6,if_pos VM,h8,if_neg (by decide)]
theorem Jg9(h6:(!asE 4 100 20 30 s.nr s.ra s.rb s.ru s.rv 3 tbP tbQ s.pl s.ph 1 3 x0 A I Z==0)=false)(h7:(!decide ((s.nc:Int)<10))=false)(h8:(!kpB 4 100 20 30 s.nr s.ra s.rb s.ru s.rv 3 tbP tbQ s.pl s.ph 1 3 x0 A I Z)=false):isE s x0 A I Z=0:=by
 unfold isE;simp at h6 h7 h8;rw [if_pos h6,if_pos VM,h8,if_pos rfl]
end
noncomputable abbrev nB(s:HS):F0:=A8 Tryz.prog [(71,bQ),(191,(Ql0 s.nc s.ca s.cb s.cc s.cd s.cv))] {R:=[],H:=[],C:=[(45,(cR LA))] } [(114,RD)] [] Tryz.f151 (U9 Tryz.f151)
theorem s8(s:HS):DA VR 151 (nB s):=
 FU (G:=[(71,bQ),(191,(Ql0 s.nc s.ca s.cb s.cc s.cd s.cv))]) (X:={R:=[],H:=[],C:=[(45,(cR LA))] }) (PX:=[(114,RD)]) (L:=[]) (Ae Ql8 (Ae (Xk9 s.nc s.ca s.cb s.cc s.cd s.cv) Aa)) (Aj Ab Ac (Ah (Qg7 FD) (UE.nil _))) (UU.cons RS (UU.nil _)) U1 (UK Tryz.func151) Tryz.func151 (UW Tryz.f151) (λj cj _ sp hsp=>by simp at hsp)
theorem Wj1(V:Nat->ByteArray)(n:Nat)(str:ByteArray)(s:HS)(VU:uB str n (U7 (UR 5) V))(UI:s.nc<=10):wX VR 90 [.ptr 0 0,.x (.string str)] (X9 s) 901 [[.ptr 0 0,.row 1,.row 2]] 182 (OS (isS s (U3 (V 0)) (U3 (V 1)) (U3 (V 2)) (U3 (V 3)))) (OX s) (rsE (fmE (U7 (UR 5) V) n 4 (isE s (U3 (V 0)) (U3 (V 1)) (U3 (V 2)) (U3 (V 3))))):=by
 refine LM (PX:=[(114,RD),(115,jS),(151,(nB s))]) (L:=[vJ (U7 (UR 5) V) n 4 151 s]) (Ae (LF VU) (Ae wV Aa)) Ad (UU.cons RS (UU.cons x9 (UU.cons (s8 s) (UU.nil _)))) U1 (UK Tryz.func90) Tryz.func90 (UW Tryz.f90) (LJ (lpE (b:= .loop NI) VW<|gN (U7 (UR 5) V) n 4 151 s VU.2.2.2 (BB VU))) (N:=[]) (t:=let z0:=(isS s (U3 (V 0)) (U3 (V 1)) (U3 (V 2)) (U3 (V 3)));let z1:=(U7 (UR 5) V (0:Int).toNat);let z2:=(need [[Q5]=[Q5],HE (hL s) QU,QA s,QB s] (leaf (false,(4:Int))));let z3:=(U3 (U7 (UR 5) V 1));let z4:=(U3 (U7 (UR 5) V 2));let z5:=(U3 (U7 (UR 5) V 3));let z6:=(U3 (U7 (UR 5) V 4));(need [N9 str str {data:=#[32] }] (need [UM 0 n] (branch (wdO z1) (need [VO (wdM (wdK z1)+1)] (branch (!(n:Int)==wdM (wdK z1)+1) z2 (need [(0:Int)<=1/\(1:Int)<=(n:Int)/\(n:Int)<=(n:Int)] (need [QS,U2 (lst 1 n λk=>[FY (U7 (UR 5) V k)]),ZR,WJ,(lst 1 (n-(1:Int).toNat) λi=>[AV.x (.string (U7 (UR 5) V ((1:Int).toNat+i)))])=lst 1 (n-1) λj=>[FY (U7 (UR 5) V (1+j))],(↑(n-(1:Int).toNat):Int)=(↑(n-1):Int),(0:Int)=(↑(0:Nat):Int),0=0,∀(i:Nat),i<0->[]=[iI (U3 (U7 (UR 5) V (1+i)))],wdM (wdK z1)=4,U2 (AV.fn (Fn.func 151) [] []),XI s,JS s,JT s,XW s,XO s,XP s,KO s,∀(i:Nat),i<s.xn->s.xg i=s.xg i,KP s,∀(i:Nat),i<s.yn->s.yg i=s.yg i,QS,JY,JZ] (branch (nuB (U7 (UR 5) V) n) (need [UM 0 (↑(n-1):Int)] (need [(0:Int).toNat<n-1] (need [UM 1 (↑(n-1):Int)] (need [(1:Int).toNat<n-1] (need [UM 2 (↑(n-1):Int)] (need [(2:Int).toNat<n-1] (need [UM 3 (↑(n-1):Int)] (need [(3:Int).toNat<n-1] (need [UH 4 s.nr λk=>[Bo.i (s.ra k),Bo.i (s.rb k),Bo.i (s.ru k),Bo.i (s.rv k)],UH 2 3 λk=>[i (tbP k),i (tbQ k)]] (branch (!asE (4:Int) (100:Int) (20:Int) (30:Int) s.nr (s.ra) (s.rb) (s.ru) (s.rv) 3 tbP tbQ s.pl s.ph (1:Int) (3:Int) z3 z4 z5 z6==0) (need [[Q5]=[Q5],HE (hL s) QU,QA s,QB s] (leaf (false,(2:Int)))) (branch (!decide ((↑s.nc:Int)<10)) (need [[Q5]=[Q5],HE (hL s) QU,QA s,QB s] (leaf (false,(3:Int)))) (branch (!kpB (4:Int) (100:Int) (20:Int) (30:Int) s.nr (s.ra) (s.rb) (s.ru) (s.rv) 3 tbP tbQ s.pl s.ph (1:Int) (3:Int) z3 z4 z5 z6) (need [[Q5]=[Q5],HE (hL s) QU,QA s,QB s] (leaf (false,(10:Int)))) (need [XO s,s.nc<=100000] (need [[Q5]=[Q5],HE [hR s.nr s,iI s.pl,iI s.ph,hY s.nb s,lst 5 (s.nc+1) λk=>[iI (HI s.nc (s.ca) z3 k),iI (HI s.nc (s.cb) z4 k),iI (HI s.nc (s.cc) z5 k),iI (HI s.nc (s.cd) z6 k),AV.x (.bool (apB s.nc (s.cv) false k))],hT s.ns s] (hL z0),((38:TypeId),1,s.xn,s.xg)=((38:TypeId),1,z0.xn,z0.xg),((9:TypeId),1,s.yn,s.yg)=((9:TypeId),1,z0.yn,z0.yg)] (leaf (true,(0:Int))))))))))))))))) (need [[Q5]=[Q5],HE QU QU,QA s,QB s] (leaf (false,(4:Int))))))))) z2)))) VW ?_
 have hw:wdO (U7 (UR 5) V (Int.toNat 0))=true:=VW;have hm:wdM (wdK (U7 (UR 5) V (Int.toNat 0)))=4:=VW;have hn1:1<=n:=by have:=VU.2.1;omega
 have hnl:=BB VU;simp only [VP.sat,UD,UJ,hm,hw,true_imp_iff];refine ⟨⟨rfl,rfl⟩,⟨VM,VM⟩,⟨by simp only [VO];omega,λh4=>?_,λh4=>?_⟩,λh=>by cases h⟩
 ·exact VB
 ·have hN:n=4+1:=by
   simp at h4;omega
  refine ⟨⟨VM,VM,VM⟩,?_,λh5=>?_,λh5=>?_⟩
  rotate_left 2
  ·exact VC
  ·all_goals exact v6
  ·have hk1:n-1=4:=VM;have hx0:U3 (U7 (UR 5) V 1)=U3 (V 0):=rfl;have hx1:U3 (U7 (UR 5) V 2)=U3 (V 1):=rfl;have hx2:U3 (U7 (UR 5) V 3)=U3 (V 2):=rfl;have hx3:U3 (U7 (UR 5) V 4)=U3 (V 3):=rfl;rw [hk1];simp only [hx0,hx1,hx2,hx3];refine ⟨VM,by decide,VM,by decide,VM,by decide,VM,by decide,⟨Bo.isRec4 _ _ _ _ _,Pt.isRec2 _ _ _⟩,λh6=>⟨DO _ _ _ _ _ _,FB hN h5 (Jg8 h6) (by decide)⟩,λh6=>⟨λh7=>⟨DO _ _ _ _ _ _,FB hN h5 (Jg7 h6 h7) (by decide)⟩,λh7=>⟨λh8=>⟨DO _ _ _ _ _ _,FB hN h5 (Zm9 h6 h7 h8) (by decide)⟩,λh8=>⟨VM,⟨⟨BD s,zZ _,zZ _,BF s,BE (isS s (U3 (V 0)) (U3 (V 1)) (U3 (V 2)) (U3 (V 3))),PF s,trivial⟩,rfl,rfl⟩,uY hN h5 (Jg9 h6 h7 h8)⟩⟩⟩⟩
section
variable (s:HS)(x0 A I Z x4:Int)
def slS:HS:={s with ns:=s.ns+1,sa:=HI s.ns s.sa x0,sb:=HI s.ns s.sb A,sc:=HI s.ns s.sc I,sl:=HI s.ns s.sl Z,sh:=HI s.ns s.sh x4}
def slE:Int:=if saB x0 A I Z x4=true then (if s.ns<8 then (if orE (s.ns+1) (HI s.ns s.sa x0) (HI s.ns s.sb A) (HI s.ns s.sc I) (HI s.ns s.sl Z) (HI s.ns s.sh x4)=0 then 0 else 9) else 3) else 2
end
def yT:UY
 |[.agg [.x (.int .i64 c),.x (.int .i64 t),.lst 5 n f]]=>match f 0 with
  |[.x (.int .i64 x0),.x (.int .i64 A),.x (.int .i64 I),.x (.int .i64 Z),.x (.int .i64 x4)]=>some ([n=1,c=4,t=10],i (if saB x0 A I Z x4=true then 0 else 1))
  |_=>none
 |_=>none
def fP(n:Nat)(a b c U O:Nat->Int):UY:=λl=>some ([sV n a b c U O,l=[.agg [i 4,i 10,sls n a b c U O]]],.tup [.top,.top,i (orE n a b c U O)])
theorem oT:VS VR 48 yT:=by
 refine ⟨(UK Tryz.func48),?_⟩;intro avs ns res h hn;unfold yT at h;split at h
 ·rename_i c t n f;split at h
  ·rename_i x0 A I Z x4 hf;cases h;obtain rfl:n=1:=hn _ VX;obtain rfl:c=4:=hn (c=4) VX;obtain rfl:t=10:=hn (t=10) VX;have h1:=(NZ 1 (λ_=>x0) (λ_=>A) (λ_=>I) (λ_=>Z) (λ_=>x4) VM).same (.cons (P1.same (.cons (.refl _) (.cons (.refl _) (.cons (.lst 5 1 f _ (λk hk=>by
    obtain rfl:k=0:=VM;exact hf)) .nil)))) .nil)
   have e:jM 1 (λ_=>x0) (λ_=>A) (λ_=>I) (λ_=>Z) (λ_=>x4)=saB x0 A I Z x4:=by
    unfold jM;cases hb:saB x0 A I Z x4 with
    |true=>exact GW.2 λj _=>hb
    |false=>exact Bool.eq_false_iff.2 λh=>Bool.noConfusion (hb.symm.trans (GW.1 h 0 VM))
   rw [e] at h1;exact h1
  ·cases h
 ·cases h
theorem oS(n:Nat)(a b c U O:Nat->Int):VS VR 193 (fP n a b c U O):=by
 refine ⟨(UK Tryz.func193),?_⟩;intro avs ns res h hn;cases h;have e:=hn _ (HW _ GJ);subst e;exact Qp0 n a b c U O (hn _ GJ)
section
variable {s:HS}{x0 A I Z x4:Int}
theorem Jb1(h:saB x0 A I Z x4=false):slE s x0 A I Z x4=2:=by
 unfold slE;rw [h];rfl
theorem Jb0(h:saB x0 A I Z x4=true)(h7:(!decide ((s.ns:Int)<8))=true):slE s x0 A I Z x4=3:=by
 unfold slE;simp at h7;rw [if_pos h,if_neg VM]
theorem Ja9(h:saB x0 A I Z x4=true)(h7:(!decide ((s.ns:Int)<8))=false)(h8:(!orE (s.ns+1) (HI s.ns s.sa x0) (HI s.ns s.sb A) (HI s.ns s.sc I) (HI s.ns s.sl Z) (HI s.ns s.sh x4)==0)=true):slE s x0 A I Z x4=9:=by
 unfold slE;simp at h7 h8;rw [if_pos h,if_pos VM,if_neg h8]
theorem Jb2(h:saB x0 A I Z x4=true)(h7:(!decide ((s.ns:Int)<8))=false)(h8:(!orE (s.ns+1) (HI s.ns s.sa x0) (HI s.ns s.sb A) (HI s.ns s.sc I) (HI s.ns s.sl Z) (HI s.ns s.sh x4)==0)=false):slE s x0 A I Z x4=0:=by
 unfold slE;simp at h7 h8;rw [if_pos h,if_pos VM,if_pos h8]
theorem slV(h:saB x0 A I Z x4=true)(h7:(!decide ((s.ns:Int)<8))=false)(hs:sV s.ns s.sa s.sb s.sc s.sl s.sh):sV (s.ns+1) (HI s.ns s.sa x0) (HI s.ns s.sb A) (HI s.ns s.sc I) (HI s.ns s.sl Z) (HI s.ns s.sh x4):=by
 simp at h7;refine ⟨VM,λk hk=>?_⟩
 unfold HI;by_cases hk':k<s.ns
 ·simp only [if_pos hk'];exact hs.2 k hk'
 ·simp only [if_neg hk'];exact h
end
theorem ifB{b:Bool}(h:(!(if b=true then (0:Int) else 1)==0)=false):b=true:=by cases b<;>simp_all
theorem ifB'{b:Bool}(h:(!(if b=true then (0:Int) else 1)==0)=true):b=false:=by cases b<;>simp_all
noncomputable def MO:D6:=A9 Tryz.prog [] {} [] Tryz.f40 (U9 Tryz.f40)
theorem sE:GE VR 40 MO:=
 RO (G:=[]) (X:=WD) (L:=[]) Aa Ad U1 (UK Tryz.func40) Tryz.func40 (UW Tryz.f40) U6
section
variable (s:HS)(x0 A I Z x4:Int)
noncomputable abbrev Ql3:F0:=A8 Tryz.prog [(48,yT),(192,(Qk8 s.ns s.sa s.sb s.sc s.sl s.sh)),(193,(fP (s.ns+1) (HI s.ns s.sa x0) (HI s.ns s.sb A) (HI s.ns s.sc I) (HI s.ns s.sl Z) (HI s.ns s.sh x4)))] {R:=[],H:=[(40,MO)] } [(114,RD)] [] Tryz.f153 (U9 Tryz.f153)
theorem Qs0:DA VR 153 (Ql3 s x0 A I Z x4):=
 FU (G:=[(48,yT),(192,(Qk8 s.ns s.sa s.sb s.sc s.sl s.sh)),(193,(fP (s.ns+1) (HI s.ns s.sa x0) (HI s.ns s.sb A) (HI s.ns s.sc I) (HI s.ns s.sl Z) (HI s.ns s.sh x4)))]) (X:={R:=[],H:=[(40,MO)] }) (PX:=[(114,RD)]) (L:=[]) (Ae oT (Ae (Xk7 s.ns s.sa s.sb s.sc s.sl s.sh) (Ae (oS (s.ns+1) (HI s.ns s.sa x0) (HI s.ns s.sb A) (HI s.ns s.sc I) (HI s.ns s.sl Z) (HI s.ns s.sh x4)) Aa))) (Ai Ab (Ag sE Ac)) (UU.cons RS (UU.nil _)) U1 (UK Tryz.func153) Tryz.func153 (UW Tryz.f153) (λj cj _ sp hsp=>by simp at hsp)
end
abbrev ZA(s:HS)(V:Nat->ByteArray):List AV:=[hR s.nr s,iI s.pl,iI s.ph,hY s.nb s,hC s.nc s,lst 5 (s.ns+1) λk=>[iI (HI s.ns (s.sa) (U3 (U7 (UR 7) V 1)) k),iI (HI s.ns (s.sb) (U3 (U7 (UR 7) V 2)) k),iI (HI s.ns (s.sc) (U3 (U7 (UR 7) V 3)) k),iI (HI s.ns (s.sl) (U3 (U7 (UR 7) V 4)) k),iI (HI s.ns (s.sh) (U3 (U7 (UR 7) V 5)) k)]]
theorem Xj1(V:Nat->ByteArray)(n:Nat)(str:ByteArray)(s:HS)(VU:uB str n (U7 (UR 7) V))(UI:sV s.ns s.sa s.sb s.sc s.sl s.sh):wX VR 90 [.ptr 0 0,.x (.string str)] (X9 s) 901 [[.ptr 0 0,.row 1,.row 2]] 182 (OS (slS s (U3 (V 0)) (U3 (V 1)) (U3 (V 2)) (U3 (V 3)) (U3 (V 4)))) (OX s) (rsE (fmE (U7 (UR 7) V) n 5 (slE s (U3 (V 0)) (U3 (V 1)) (U3 (V 2)) (U3 (V 3)) (U3 (V 4))))):=by
 refine LM (PX:=[(114,RD),(115,jS),(153,(Ql3 s (U3 (V 0)) (U3 (V 1)) (U3 (V 2)) (U3 (V 3)) (U3 (V 4))))]) (L:=[vJ (U7 (UR 7) V) n 5 153 s]) (Ae (LF VU) (Ae wV Aa)) Ad (UU.cons RS (UU.cons x9 (UU.cons (Qs0 s (U3 (V 0)) (U3 (V 1)) (U3 (V 2)) (U3 (V 3)) (U3 (V 4))) (UU.nil _)))) U1 (UK Tryz.func90) Tryz.func90 (UW Tryz.f90) (LJ (lpE (b:= .loop NI) VW<|gN (U7 (UR 7) V) n 5 153 s VU.2.2.2 (BB VU))) (N:=[]) (t:=let z0:=(slS s (U3 (V 0)) (U3 (V 1)) (U3 (V 2)) (U3 (V 3)) (U3 (V 4)));let z1:=(U7 (UR 7) V (0:Int).toNat);let z2:=(need [[Q5]=[Q5],HE (hL s) QU,QA s,QB s] (leaf (false,(4:Int))));(need [N9 str str {data:=#[32] }] (need [UM 0 n] (branch (wdO z1) (need [VO (wdM (wdK z1)+1)] (branch (!(n:Int)==wdM (wdK z1)+1) z2 (need [(0:Int)<=1/\(1:Int)<=(n:Int)/\(n:Int)<=(n:Int)] (need [QS,U2 (lst 1 n λk=>[FY (U7 (UR 7) V k)]),ZR,WJ,(lst 1 (n-(1:Int).toNat) λi=>[AV.x (.string (U7 (UR 7) V ((1:Int).toNat+i)))])=lst 1 (n-1) λj=>[FY (U7 (UR 7) V (1+j))],(↑(n-(1:Int).toNat):Int)=(↑(n-1):Int),(0:Int)=(↑(0:Nat):Int),0=0,∀(i:Nat),i<0->[]=[iI (U3 (U7 (UR 7) V (1+i)))],wdM (wdK z1)=5,U2 (AV.fn (Fn.func 153) [] []),XI s,JS s,JT s,XW s,XO s,XP s,KO s,∀(i:Nat),i<s.xn->s.xg i=s.xg i,KP s,∀(i:Nat),i<s.yn->s.yg i=s.yg i,QS,JY,JZ] (branch (nuB (U7 (UR 7) V) n) (need [UM 0 (↑(n-1):Int)] (need [(0:Int).toNat<n-1] (need [UM 1 (↑(n-1):Int)] (need [(1:Int).toNat<n-1] (need [UM 2 (↑(n-1):Int)] (need [(2:Int).toNat<n-1] (need [UM 3 (↑(n-1):Int)] (need [(3:Int).toNat<n-1] (need [UM 4 (↑(n-1):Int)] (need [(4:Int).toNat<n-1] (need [1=1,W0,WB] (branch (!(if saB (U3 (U7 (UR 7) V 1)) (U3 (U7 (UR 7) V 2)) (U3 (U7 (UR 7) V 3)) (U3 (U7 (UR 7) V 4)) (U3 (U7 (UR 7) V 5))=true then (0:Int) else (1:Int))==0) (need [[Q5]=[Q5],HE (hL s) QU,QA s,QB s] (leaf (false,(2:Int)))) (branch (!decide ((↑s.ns:Int)<8)) (need [[Q5]=[Q5],HE (hL s) QU,QA s,QB s] (leaf (false,(3:Int)))) (need [XP s,s.ns<=100000] (need [sV (s.ns+1) (HI s.ns (s.sa) (U3 (V 0))) (HI s.ns (s.sb) (U3 (V 1))) (HI s.ns (s.sc) (U3 (V 2))) (HI s.ns (s.sl) (U3 (V 3))) (HI s.ns (s.sh) (U3 (V 4))),[agg [iI 4,iI 10,lst 5 (s.ns+1) λk=>[iI (HI s.ns (s.sa) (U3 (U7 (UR 7) V 1)) k),iI (HI s.ns (s.sb) (U3 (U7 (UR 7) V 2)) k),iI (HI s.ns (s.sc) (U3 (U7 (UR 7) V 3)) k),iI (HI s.ns (s.sl) (U3 (U7 (UR 7) V 4)) k),iI (HI s.ns (s.sh) (U3 (U7 (UR 7) V 5)) k)]]]=[agg [iI 4,iI 10,lst 5 (s.ns+1) λk=>[iI (HI s.ns (s.sa) (U3 (V 0)) k),iI (HI s.ns (s.sb) (U3 (V 1)) k),iI (HI s.ns (s.sc) (U3 (V 2)) k),iI (HI s.ns (s.sl) (U3 (V 3)) k),iI (HI s.ns (s.sh) (U3 (V 4)) k)]]]] (branch (!orE (s.ns+1) (HI s.ns (s.sa) (U3 (V 0))) (HI s.ns (s.sb) (U3 (V 1))) (HI s.ns (s.sc) (U3 (V 2))) (HI s.ns (s.sl) (U3 (V 3))) (HI s.ns (s.sh) (U3 (V 4)))==0) (need [[Q5]=[Q5],HE (ZA s V) QU,QA s,QB s] (leaf (false,(9:Int)))) (need [[Q5]=[Q5],HE (ZA s V) (hL z0),((38:TypeId),1,s.xn,s.xg)=((38:TypeId),1,z0.xn,z0.xg),((9:TypeId),1,s.yn,s.yg)=((9:TypeId),1,z0.yn,z0.yg)] (leaf (true,(0:Int)))))))))))))))))))) (need [[Q5]=[Q5],HE QU QU,QA s,QB s] (leaf (false,(4:Int))))))))) z2)))) VW ?_
 have hw:wdO (U7 (UR 7) V (Int.toNat 0))=true:=VW;have hm:wdM (wdK (U7 (UR 7) V (Int.toNat 0)))=5:=VW;have hn1:1<=n:=by have:=VU.2.1;omega
 have hnl:=BB VU;simp only [VP.sat,UD,UJ,hm,hw,true_imp_iff];refine ⟨⟨rfl,rfl⟩,⟨VM,VM⟩,⟨by simp only [VO];omega,λh4=>?_,λh4=>?_⟩,λh=>by cases h⟩
 ·exact VB
 ·have hN:n=5+1:=by
   simp at h4;omega
  refine ⟨⟨VM,VM,VM⟩,?_,λh5=>?_,λh5=>?_⟩
  rotate_left 2
  ·exact VC
  ·all_goals exact v6
  ·have hk1:n-1=5:=VM;have hx0:U3 (U7 (UR 7) V 1)=U3 (V 0):=rfl;have hx1:U3 (U7 (UR 7) V 2)=U3 (V 1):=rfl;have hx2:U3 (U7 (UR 7) V 3)=U3 (V 2):=rfl;have hx3:U3 (U7 (UR 7) V 4)=U3 (V 3):=rfl;have hx4:U3 (U7 (UR 7) V 5)=U3 (V 4):=rfl;rw [hk1];simp only [hx0,hx1,hx2,hx3,hx4];have hns:=UI.1;refine ⟨VM,by decide,VM,by decide,VM,by decide,VM,by decide,VM,by decide,λh6=>⟨DO _ _ _ _ _ _,FB hN h5 (Jb1 (ifB' h6)) (by decide)⟩,λh6=>⟨λh7=>⟨DO _ _ _ _ _ _,FB hN h5 (Jb0 (ifB h6) h7) (by decide)⟩,λh7=>⟨VM,⟨slV (ifB h6) h7 UI,trivial⟩,λh8=>⟨DO _ _ _ _ _ _,FB hN h5 (Ja9 (ifB h6) h7 h8) (by decide)⟩,λh8=>⟨⟨⟨BD s,zZ _,zZ _,BF s,BE s,PF (slS s (U3 (V 0)) (U3 (V 1)) (U3 (V 2)) (U3 (V 3)) (U3 (V 4))),trivial⟩,rfl,rfl⟩,uY hN h5 (Jb2 (ifB h6) h7 h8)⟩⟩⟩⟩
theorem Wp5(r v:Int)(m:Nat)(g:Nat->Int)(VU:1<=m):U0 VR 188 [.agg [i r,i v],.ro [.lst 1 m (λk=>[i (g k)])]] (bl (!(r==g 0))):=by
 refine GZ Tryz.func188 (t:=need [UM 0 m] (leaf (RV.x (.bool (r != g (0:Int).toNat))))) VW ?_;simp only [VP.sat,UD,G8,UG,UJ,Int.toNat_zero];refine ⟨VM,?_⟩;show (r != g 0)=_;rfl
def Qj0(m:Nat)(g:Nat->Int):UY
 |[.agg [.x (.int .i64 r),.x (.int .i64 v)],b]=>some ([1<=m,[b]=[.ro [.lst 1 m (λk=>[i (g k)])]]],bl (!(r==g 0)))
 |_=>none
theorem Wp4(m:Nat)(g:Nat->Int):VS VR 188 (Qj0 m g):=by
 refine ⟨(UK Tryz.func188),?_⟩;intro avs ns res h hn;unfold Qj0 at h;split at h
 ·cases h;have e:=hn _ (HW _ GJ);injection e with e _
  subst e;exact Wp5 _ _ m g (hn _ GJ)
 ·cases h
theorem Qt1(r v:Int)(m:Nat)(g:Nat->Int)(VU:1<=m):U0 VR 221 [.agg [i r,i v],.ro [.fn (.func 188) [] [.ro [.lst 1 m (λk=>[i (g k)])]]]] (bl (r==g 0)):=by
 refine U4 (L:=[]) (Ae (Wp4 m g) Aa) U1 Tryz.func221 (UW Tryz.f221) U6 (t:=need [1<=m,U2 ([AV.ro [lst 1 m λk=>[iI (g k)]]])] (leaf (RV.x (.bool !!r==g 0)))) VW ?_
 simp only [VP.sat,UD,G8,UG,UJ];refine ⟨VU,?_⟩;show (!!(r==g 0))=_;simp
def mS(m:Nat)(g:Nat->Int):UY
 |[.agg [.x (.int .i64 r),.x (.int .i64 v)],b]=>some ([1<=m,[b]=[.ro [.fn (.func 188) [] [.ro [.lst 1 m (λk=>[i (g k)])]]]]],bl (r==g 0))
 |_=>none
theorem OV(m:Nat)(g:Nat->Int):VS VR 221 (mS m g):=by
 refine ⟨(UK Tryz.func221),?_⟩;intro avs ns res h hn;unfold mS at h;split at h
 ·cases h;have e:=hn _ (HW _ GJ);injection e with e _
  subst e;exact Qt1 _ _ m g (hn _ GJ)
 ·cases h
def seJ(r:Nat->Int)(x:Int)(j:Nat):Bool:=r j==x
def seN(n:Nat)(r:Nat->Int)(x:Int):Bool:=DD (λj=> !(r j==x)) n
abbrev W8(m:Nat)(g:Nat->Int):AV:=AV.fn (Fn.func 221) [] [AV.ro [AV.fn (Fn.func 188) [] [AV.ro [lst 1 m λk=>[iI (g k)]]]]]
section
variable (n:Nat)
abbrev ZM(r:Nat->Int)(v:Nat->Int):AV:=lst 2 n λk=>[iI (r k),iI (v k)]
def dH(r v:Nat->Int)(m:Nat)(g:Nat->Int):St:={σ:=[ZM n r v,W8 m g]++HM 5 [iI (n:Int)]++HM 11 [],m:=[],nx:=4}
noncomputable def Qm4:Code:=UC (VV (U9 Tryz.f240) 0)
def OI(r v:Nat->Int)(m:Nat)(g:Nat->Int)(k:Nat):St:=(upM [(8,i k)] (dH n r v m g))
def qF(r v:Nat->Int)(m:Nat)(g:Nat->Int)(k:Nat):G9->Option St
 | .ret=>some (upM [(4,i (H0 ((seJ r (g 0))) n))] (dH n r v m g))
 | .exit 0=>some (upM [] (dH n r v m g))
 |_=>none
def Qh6(r v:Nat->Int)(m:Nat)(g:Nat->Int):CT:= .branch (decide (H0 ((seJ r (g 0))) n<n)) (.leaf (.ret,(qF n r v m g 0 .ret).getD (dH n r v m g))) (.leaf (.exit 0,(qF n r v m g 0 (.exit 0)).getD (dH n r v m g)))
def nC(r v:Nat->Int)(m:Nat)(g:Nat->Int):UL:=(HK (OI n r v m g (0)) (Qh6 n r v m g))
end
abbrev K6(m:Nat)(g:Nat->Int):List AV:=[AV.ro [AV.fn (Fn.func 188) [] [AV.ro [lst 1 m λk=>[iI (g k)]]]]]
section
variable (n:Nat)(r v:Nat->Int)(m:Nat)(g:Nat->Int)
theorem Qx4(VU:n<=100000)(UI:1<=m):GA VR (.loop Qm4) (nC n r v m g):=by
 refine HJ (L:=[]) (Ae (OV m g) Aa) U1 U6 (X:=Nat) (OI n r v m g) (λk=>k<=n/\ ∀j,j<k->(seJ r (g 0)) j=false) (λk=>n-k) (qF n r v m g) (x0:=0) ⟨VM,λj hj=>VM⟩ ?_ ?_ ?_
 ·rintro k;kernel_rfl
 ·rintro k y E h;unfold qF at h;split at h
  ·cases h;kernel_rfl
  ·cases h;kernel_rfl
  ·cases h
 ·rintro Q hQ k hx;refine ⟨(k+1),?_⟩;(with_reducible refine DL (t:=branch (decide ((k:Int)<(n:Int))) (need [UM k n] (need [1<=m,U2 (K6 m g)] (branch (r k==g 0) (need [U2 (ZM n r v),U2 (W8 m g),(k:Int)=(↑(H0 (seJ r (g 0)) n):Int),U2 (n:Int)] (leaf G9.ret)) (need [VO ((k:Int)+1)] (need [U2 (ZM n r v),U2 (W8 m g),U2 (n:Int),(k:Int)+1=(↑(k+1):Int)] (leaf G9.normal)))))) (need [U2 (ZM n r v),U2 (W8 m g),U2 (n:Int)] (leaf (G9.exit 0)))) VW ?_);simp only [Qh6,qF,VP.sat,GX,HB] at hQ;simp only [VP.sat,UD,UJ,HB,VO,qF,DP];have Xl5:k<n->((seJ r (g 0))) k=true->H0 ((seJ r (g 0))) n=k:=λh hb=>jB h hb hx.2
  have PI: ¬k<n->H0 ((seJ r (g 0))) n=n:=λh=>qH (λj hj=>hx.2 j VM)
  have hgo:((seJ r (g 0))) k=false-> ∀j,j<k+1->((seJ r (g 0))) j=false:=by
   intro hb j hj;rcases (show j<k\/j=k by omega) with h1|rfl
   ·exact hx.2 j h1
   ·exact hb
  refine ⟨λh=>⟨VM,UI,?_⟩,λh=>?_⟩
  rotate_left
  ·intro E hE;cases hE;exact hQ.2 (by rw [PI VM];omega)
  have hk:k<n:=VM;refine ⟨λhb=>?_,λhb=>?_⟩
  ·exact VH
  ·exact ⟨VM,VM,⟨VM,hgo hb⟩,VM⟩
theorem Xk4(VU:n<=100000)(UI:1<=m):U0 VR 240 [rdl n r v,.fn (.func 221) [] [.ro [.fn (.func 188) [] [.ro [.lst 1 m (λk=>[i (g k)])]]]]] (i (if H0 ((seJ r (g 0))) n<n then (H0 ((seJ r (g 0))) n:Int) else -1)):=by
 refine U4 (L:=[nC n r v m g]) (Ae (OV m g) Aa) U1 Tryz.func240 (UW Tryz.f240) (UZ (lpE (b:= .loop Qm4) VW<|Qx4 n r v m g VU UI)) (t:=need [U2 (ZM n r v),U2 (W8 m g),U2 (n:Int),(0:Int)=(↑(0:Nat):Int)] (branch (decide (H0 (seJ r (g 0)) n<n)) (leaf (RV.x (.int .i64 (↑(H0 (seJ r (g 0)) n):Int)))) (leaf (RV.x (KJ))))) VW ?_
 exact VF
def Zs0:UY:=λl=>some ([l=[rdl n r v,.fn (.func 221) [] [.ro [.fn (.func 188) [] [.ro [.lst 1 m (λk=>[i (g k)])]]]]]],i (if H0 (seJ r (g 0)) n<n then (H0 (seJ r (g 0)) n:Int) else -1))
theorem Wo8(VU:n<=100000)(UI:1<=m):VS VR 240 (Zs0 n r v m g):=by
 refine ⟨(UK Tryz.func240),?_⟩;intro avs ns res h hn;cases h;have e:=hn _ GJ;subst e;exact Xk4 n r v m g VU UI
theorem Xm1(VU:n<=100000)(UI:1<=m):U0 VR 220 [rdl n r v,.fn (.func 221) [] [.ro [.fn (.func 188) [] [.ro [.lst 1 m (λk=>[i (g k)])]]]]] (bl (!seN n r (g 0))):=by
 refine U4 (L:=[]) (Ae (Wo8 n r v m g VU UI) Aa) U1 Tryz.func220 (UW Tryz.f220) U6 (t:=need [U2 ([ZM n r v,W8 m g])] (leaf (RV.x (.bool (decide ((if H0 (seJ r (g 0)) n<n then (↑(H0 (seJ r (g 0)) n):Int) else (-1:Int))>=(0:Int))))))) VW ?_
 simp only [VP.sat,UD,G8,UG,UJ];unfold seN;rw [kY];have e:(λk=> !(λj=> !(r j==g 0)) k)=seJ r (g 0):=by
  funext k;simp [seJ]
 rw [e];have:=F6 (seJ r (g 0)) n;show decide ((if H0 (seJ r (g 0)) n<n then (H0 (seJ r (g 0)) n:Int) else -1)>=0)=_
 split<;>simp<;>omega
def Zs2:UY:=λl=>some ([l=[rdl n r v,.fn (.func 221) [] [.ro [.fn (.func 188) [] [.ro [.lst 1 m (λk=>[i (g k)])]]]]]],bl (!seN n r (g 0)))
theorem Wr7(VU:n<=100000)(UI:1<=m):VS VR 220 (Zs2 n r v m g):=by
 refine ⟨(UK Tryz.func220),?_⟩;intro avs ns res h hn;cases h;have e:=hn _ GJ;subst e;exact Xm1 n r v m g VU UI
theorem Ws1(VU:n<=100000)(UI:1<=m):U0 VR 187 [rdl n r v,.fn (.func 188) [] [.ro [.lst 1 m (λk=>[i (g k)])]]] (bl (seN n r (g 0))):=by
 refine U4 (L:=[]) (Ae (Wr7 n r v m g VU UI) Aa) U1 Tryz.func187 (UW Tryz.f187) U6 (t:=need [U2 ([ZM n r v,W8 m g])] (leaf (RV.x (.bool !!seN n r (g 0))))) VW ?_;simp only [VP.sat,UD,G8,UG,UJ];show (!!seN n r (g 0))=_;simp
end
section
variable (s:HS)
def laB:Nat:=((s.nb:Int)-1).toNat
def seM(k:Nat):Nat:=if k=laB s then s.qm k+1 else s.qm k
def seR(x0:Int)(k j:Nat):Int:=if k=laB s then HI (s.qm k) (s.qr k) x0 j else s.qr k j
def seV(A:Int)(k j:Nat):Int:=if k=laB s then HI (s.qm k) (s.qv k) A j else s.qv k j
def seS(x0 A:Int):HS:={s with qm:=seM s,qr:=seR s x0,qv:=seV s A}
def seE(x0 A:Int):Int:=if 1<=s.nb then (if bt 0 x0 2=true then (if seN (s.qm (laB s)) (s.qr (laB s)) x0=true then (if bt (-1000) A 2000=true then (if boE s.nb s.ql s.qh (seM s) (seR s x0) (seV s A)=0 then 0 else 9) else 2) else 6) else 7) else 8
end
section
variable (N:Nat)(U O:Nat->Int)(m:Nat->Nat)(r v:Nat->Nat->Int)
def wW:UY
 |[.agg l']=>some ([bV N U O m r v,HE l' [ofs,i 1,bds N U O m r v]],.tup [.top,i (boE N U O m r v)])
 |_=>none
theorem Qe5:Idf (bds N U O m r v):= .lst _ _ _ λk _ x hx=>by
 simp only [GQ,DQ,or_false] at hx;rcases hx with rfl|rfl|rfl
 ·exact .x _
 ·exact .x _
 ·exact VE
end
theorem Wj0{e:UN}{w:World}{l l':List AV}{u:Value}(h:HE l l')(r:Rep e w (.agg l) u):Rep e w (.agg l') u:=by
 cases r with
 |agg _ vs h1 h2=>exact Rep.aggL (dY h ⟨h1,h2⟩)
theorem bG(N:Nat)(U O:Nat->Int)(m:Nat->Nat)(r v:Nat->Nat->Int):VS VR 35 (wW N U O m r v):=by
 refine ⟨(UK Tryz.func35),?_⟩;intro avs ns res h hn;unfold wW at h;split at h
 ·rename_i l';cases h;have h1:bV N U O m r v:=hn _ GJ;have h2:HE l' [ofs,i 1,bds N U O m r v]:=hn _ (HW _ GJ);intro e w args q1 q2 q3 q4;have q5:U5 e w [.agg [ofs,i 1,bds N U O m r v]] args:=by
   obtain ⟨u,us,rfl,g1,g2⟩:=q4.cons_inv;exact .cons (Wj0 h2 g1) g2
  refine (kX N U O m r v h1 e w args q1 q2 (λa ha=>?_) q5).mono ?_
  ·rcases B6.1 ha with rfl
   refine .agg _ λx hx=>?_
   simp only [GQ,DQ,or_false] at hx;rcases hx with rfl|rfl|rfl
   ·exact VE
   ·exact .x _
   ·exact Qe5 _ _ _ _ _ _
  ·rintro en w' ⟨u,rfl,g1,g2⟩;have k:FJ (tup [.lst 2 (boN N U O m r v) (λk=>[i (boL N U O m r v k),i (boH N U O m r v k)]),i (boE N U O m r v)]) (.tup [.top,i (boE N U O m r v)]):=⟨trivial,(PE _).2,trivial⟩
   exact ⟨u,rfl,g1,L2 k g2⟩
 ·cases h
section
variable {s:HS}
theorem Jc5{x0 A:Int}(h:bV s.nb s.ql s.qh s.qm s.qr s.qv)(h1:1<=s.nb)(h2:bt 0 x0 2=true)(h3:seN (s.qm (laB s)) (s.qr (laB s)) x0=true)(h4:bt (-1000) A 2000=true):bV s.nb s.ql s.qh (seM s) (seR s x0) (seV s A):=by
 rw [bt_iff] at h2 h4;have h3: ∀j,j<s.qm (laB s)->s.qr (laB s) j≠x0:=λj hj=>by simpa using GW.1 h3 j hj
 have hla:laB s<s.nb:=by unfold laB;omega
 obtain ⟨⟨g0,g1⟩,g2⟩:=h;have hq:s.qm (laB s)<=3:=by
  rcases An 3 (s.qm (laB s)) with hq|hq
  ·obtain ⟨_,_,_,_,g3⟩:=g1 _ hla;have a0:=g3 0 VM;have a1:=g3 1 VM;have a2:=g3 2 VM;have a3:=g3 3 VM;have b01:=g2 _ hla 0 1 VM VM;have b02:=g2 _ hla 0 2 VM VM;have b03:=g2 _ hla 0 3 VM VM;have b12:=g2 _ hla 1 2 VM VM;have b13:=g2 _ hla 1 3 VM VM;have b23:=g2 _ hla 2 3 VM VM;omega
  ·exact hq
 refine ⟨⟨g0,λb hb=>?_⟩,λb hb j k hjk hk=>?_⟩
 ·obtain ⟨k1,k2,k3,k4,k5⟩:=g1 b hb;unfold seM seR seV HI;by_cases e:b=laB s
  ·subst e;simp only [if_true];refine ⟨VM,k2,k3,k4,λj hj=>?_⟩
   by_cases e:j<s.qm (laB s)
   ·simp only [if_pos e];exact k5 j e
   ·simp only [if_neg e];omega
  ·simp only [if_neg e];exact ⟨k1,k2,k3,k4,k5⟩
 ·unfold seM at hk;unfold seR HI;by_cases e:b=laB s
  ·subst e;simp only [if_true] at hk ⊢;by_cases e:k<s.qm (laB s)
   ·simp only [if_pos e,if_pos (show j<s.qm (laB s) by omega)]
    exact g2 _ hb j k hjk e
   ·simp only [if_neg e,if_pos (show j<s.qm (laB s) by omega)]
    exact h3 j VM
  ·simp only [if_neg e] at hk ⊢;exact g2 _ hb j k hjk hk
theorem Jb7{k:Nat}(h:k=laB s):seM s k=s.qm (laB s)+1:=by rw [h];exact if_pos rfl
theorem Jb8{k:Nat}(h: ¬k=laB s):seM s k=s.qm k:=if_neg h
theorem Jb5{x:Int}{k j:Nat}(h:k=laB s):seR s x k j=HI (s.qm (laB s)) (s.qr (laB s)) x j:=by rw [h];exact if_pos rfl
theorem Jb6{x:Int}{k j:Nat}(h: ¬k=laB s):seR s x k j=s.qr k j:=if_neg h
theorem Jb3{x:Int}{k j:Nat}(h:k=laB s):seV s x k j=HI (s.qm (laB s)) (s.qv (laB s)) x j:=by rw [h];exact if_pos rfl
theorem Jb4{x:Int}{k j:Nat}(h: ¬k=laB s):seV s x k j=s.qv k j:=if_neg h
theorem Jc0{x0 A:Int}(h:(!decide ((s.nb:Int)-1>=0))=true):seE s x0 A=8:=by
 simp at h;exact if_neg VM
theorem Jc1{x0 A:Int}(h1:1<=s.nb)(h2:bt 0 x0 2=false):seE s x0 A=7:=by
 unfold seE;rw [if_pos h1,h2];rfl
theorem Jc2{x0 A:Int}(h1:1<=s.nb)(h2:bt 0 x0 2=true)(h3:seN (s.qm (laB s)) (s.qr (laB s)) x0=false):seE s x0 A=6:=by
 unfold seE;rw [if_pos h1,if_pos h2,h3];rfl
theorem Jc3{x0 A:Int}(h1:1<=s.nb)(h2:bt 0 x0 2=true)(h3:seN (s.qm (laB s)) (s.qr (laB s)) x0=true)(h4:bt (-1000) A 2000=false):seE s x0 A=2:=by
 unfold seE;rw [if_pos h1,if_pos h2,if_pos h3,h4];rfl
theorem Jb9{x0 A:Int}(h1:1<=s.nb)(h2:bt 0 x0 2=true)(h3:seN (s.qm (laB s)) (s.qr (laB s)) x0=true)(h4:bt (-1000) A 2000=true)(h5:(!boE s.nb s.ql s.qh (seM s) (seR s x0) (seV s A)==0)=true):seE s x0 A=9:=by
 unfold seE;simp at h5;rw [if_pos h1,if_pos h2,if_pos h3,if_pos h4,if_neg h5]
theorem Jc4{x0 A:Int}(h1:1<=s.nb)(h2:bt 0 x0 2=true)(h3:seN (s.qm (laB s)) (s.qr (laB s)) x0=true)(h4:bt (-1000) A 2000=true)(h5:(!boE s.nb s.ql s.qh (seM s) (seR s x0) (seV s A)==0)=false):seE s x0 A=0:=by
 unfold seE;simp at h5;rw [if_pos h1,if_pos h2,if_pos h3,if_pos h4,if_pos h5]
end
theorem Zn2(s:HS)(k:Nat): ∀x∈[i (s.ql k),i (s.qh k),bts (s.qm k) (s.qr k) (s.qv k)],Idf x:=λx hx=>by
 simp only [GQ,DQ,or_false] at hx;rcases hx with rfl|rfl|rfl
 ·exact .x _
 ·exact .x _
 ·exact VE
noncomputable def fW:D6:=A9 Tryz.prog [] {} [] Tryz.f36 (U9 Tryz.f36)
theorem iZ:GE VR 36 fW:=
 RO (G:=[]) (X:=WD) (L:=[]) Aa Ad U1 (UK Tryz.func36) Tryz.func36 (UW Tryz.f36) U6
section
variable (n:Nat)(r v:Nat->Int)(m:Nat)(g:Nat->Int)
def MH:UY:=λl=>some ([n<=100000,1<=m,l=[rdl n r v,.fn (.func 188) [] [.ro [.lst 1 m (λk=>[i (g k)])]]]],bl (seN n r (g 0)))
theorem Qt0:VS VR 187 (MH n r v m g):=by
 refine ⟨(UK Tryz.func187),?_⟩;intro avs ns res h hn;cases h;have e:=hn _ (HW _ (HW _ GJ));subst e;exact Ws1 n r v m g (hn _ GJ) (hn _ (HW _ GJ))
end
section
variable (s:HS)(x0 A:Int)(m:Nat)(g:Nat->Int)
noncomputable abbrev Xb5:F0:=A8 Tryz.prog [(37,RQ),(187,(MH (s.qm (laB s)) (s.qr (laB s)) (s.qv (laB s)) m g)),(190,(Qk7 (s.qm (laB s)) (s.qr (laB s)) (s.qv (laB s)))),(35,(wW s.nb s.ql s.qh (seM s) (seR s x0) (seV s A)))] {R:=[],H:=[(189,fY),(36,fW)],C:=[(36,(cR zH))] } [(114,RD)] [] Tryz.f150 (U9 Tryz.f150)
theorem Wp3:DA VR 150 (Xb5 s x0 A m g):=
 FU (G:=[(37,RQ),(187,(MH (s.qm (laB s)) (s.qr (laB s)) (s.qv (laB s)) m g)),(190,(Qk7 (s.qm (laB s)) (s.qr (laB s)) (s.qv (laB s)))),(35,(wW s.nb s.ql s.qh (seM s) (seR s x0) (seV s A)))]) (X:={R:=[],H:=[(189,fY),(36,fW)],C:=[(36,(cR zH))] }) (PX:=[(114,RD)]) (L:=[]) (Ae B1 (Ae (Qt0 (s.qm (laB s)) (s.qr (laB s)) (s.qv (laB s)) m g) (Ae (Xk6 (s.qm (laB s)) (s.qr (laB s)) (s.qv (laB s))) (Ae (bG s.nb s.ql s.qh (seM s) (seR s x0) (seV s A)) Aa)))) (Aj Ab (Ag lI (Ag iZ Ac)) (Ah (Qg7 RH) (UE.nil _))) (UU.cons RS (UU.nil _)) U1 (UK Tryz.func150) Tryz.func150 (UW Tryz.f150) (λj cj _ sp hsp=>by simp at hsp)
end
theorem V7{p:Prop}(h:p:=by
 refine ⟨rfl,Ap _,λk hk=>⟨?_,Zn2 (seS s (U3 (V 0)) (U3 (V 1))) k⟩⟩
 dsimp only
 by_cases h:k=laB s
 ·rw [show decide (k=((s.nb:Int)-1).toNat)=true from decide_eq_true h];refine ⟨(PE _).2,(PE _).2,⟨rfl,(Jb7 h).symm,λj hj=>?_⟩,trivial⟩
  show _=[i (seR s (U3 (V 0)) k j),i (seV s (U3 (V 1)) k j)];rw [Jb5 h,Jb3 h];rfl
 ·rw [show decide (k=((s.nb:Int)-1).toNat)=false from decide_eq_false h];refine ⟨(PE _).2,(PE _).2,⟨rfl,(Jb8 h).symm,λj hj=>?_⟩,trivial⟩
  show _=[i (seR s (U3 (V 0)) k j),i (seV s (U3 (V 1)) k j)];rw [Jb6 h,Jb4 h];rfl):p:=h
theorem Zm4(V:Nat->ByteArray)(n:Nat)(str:ByteArray)(s:HS)(VU:uB str n (U7 (UR 4) V))(UI:bV s.nb s.ql s.qh s.qm s.qr s.qv):wX VR 90 [.ptr 0 0,.x (.string str)] (X9 s) 901 [[.ptr 0 0,.row 1,.row 2]] 182 (OS (seS s (U3 (V 0)) (U3 (V 1)))) (OX s) (rsE (fmE (U7 (UR 4) V) n 2 (seE s (U3 (V 0)) (U3 (V 1))))):=by
 refine LM (PX:=[(114,RD),(115,jS),(150,(Xb5 s (U3 (V 0)) (U3 (V 1)) (n-1) (λk=>U3 (U7 (UR 4) V (k+1)))))]) (L:=[vJ (U7 (UR 4) V) n 2 150 s]) (Ae (LF VU) (Ae wV Aa)) Ad (UU.cons RS (UU.cons x9 (UU.cons (Wp3 s (U3 (V 0)) (U3 (V 1)) (n-1) (λk=>U3 (U7 (UR 4) V (k+1)))) (UU.nil _)))) U1 (UK Tryz.func90) Tryz.func90 (UW Tryz.f90) (LJ (lpE (b:= .loop NI) VW<|gN (U7 (UR 4) V) n 2 150 s VU.2.2.2 (BB VU))) (N:=[(.cell 0 3,0,0,0)]) (t:=let z5:=(U3 (U7 (UR 4) V (1+(0:Int).toNat)));let z6:=(U3 (U7 (UR 4) V (1+(1:Int).toNat)));let z0:=([hR s.nr s,iI s.pl,iI s.ph,lst 3 (0+s.nb) λk=>iI (if decide (k=((↑s.nb:Int)-1).toNat)=true then s.ql (k-0) else s.ql (k-0))::iI (if decide (k=((↑s.nb:Int)-1).toNat)=true then s.qh (k-0) else s.qh (k-0))::Bool.rec (bts (s.qm (k-0)) (s.qr (k-0)) (s.qv (k-0))) (lst 2 (s.qm (laB s)+1) λk=>[i (HI (s.qm (laB s)) (s.qr (laB s)) z5 k),i (HI (s.qm (laB s)) (s.qv (laB s)) z6 k)]) (decide (k=((↑s.nb:Int)-1).toNat))::Bool.rec ([]) ([]) (decide (k=((↑s.nb:Int)-1).toNat)),hC s.nc s,hT s.ns s]);let z1:=(seS s (U3 (V 0)) (U3 (V 1)));let z2:=(U7 (UR 4) V (0:Int).toNat);let z3:=((↑s.nb:Int)-1).toNat;let z4:=(need [[Q5]=[Q5],HE (hL s) QU,QA s,QB s] (leaf (false,(4:Int))));(need [N9 str str {data:=#[32] }] (need [UM 0 n] (branch (wdO z2) (need [VO (wdM (wdK z2)+1)] (branch (!(n:Int)==wdM (wdK z2)+1) z4 (need [(0:Int)<=1/\(1:Int)<=(n:Int)/\(n:Int)<=(n:Int)] (need [QS,U2 (lst 1 n λk=>[FY (U7 (UR 4) V k)]),ZR,WJ,(lst 1 (n-(1:Int).toNat) λi=>[AV.x (.string (U7 (UR 4) V ((1:Int).toNat+i)))])=lst 1 (n-1) λj=>[FY (U7 (UR 4) V (1+j))],(↑(n-(1:Int).toNat):Int)=(↑(n-1):Int),(0:Int)=(↑(0:Nat):Int),0=0,∀(i:Nat),i<0->[]=[iI (U3 (U7 (UR 4) V (1+i)))],wdM (wdK z2)=2,U2 (AV.fn (Fn.func 150) [] []),XI s,JS s,JT s,XW s,XO s,XP s,KO s,∀(i:Nat),i<s.xn->s.xg i=s.xg i,KP s,∀(i:Nat),i<s.yn->s.yg i=s.yg i,QS,JY,JZ] (branch (nuB (U7 (UR 4) V) n) (need [VO ((↑s.nb:Int)-1)] (branch (!decide ((↑s.nb:Int)-1>=(0:Int))) (need [[Q5]=[Q5],HE (hL s) QU,QA s,QB s] (leaf (false,(8:Int)))) (need [UM 0 (↑(n-1):Int)] (need [(0:Int).toNat<n-1] (need [VO ((↑(3:Nat):Int)-1)] (branch (!bt (0:Int) (U3 (U7 (UR 4) V 1)) ((↑(3:Nat):Int)-1)) (need [[Q5]=[Q5],HE (hL s) QU,QA s,QB s] (leaf (false,(7:Int)))) (need [UM ((↑s.nb:Int)-1) s.nb] (need [s.qm (laB s)<=100000,1<=n-1,[lst 2 (s.qm z3) λj=>[iI (s.qr z3 j),iI (s.qv z3 j)],AV.fn (Fn.func 188) [] [AV.ro [lst 1 (n-1) λj=>[iI (U3 (U7 (UR 4) V (1+j)))]]]]=[lst 2 (s.qm (laB s)) λk=>[iI (s.qr (laB s) k),iI (s.qv (laB s) k)],AV.fn (Fn.func 188) [] [AV.ro [lst 1 (n-1) λk=>[iI (U3 (U7 (UR 4) V (k+1)))]]]]] (branch (!seN (s.qm (laB s)) (s.qr (laB s)) (U3 (U7 (UR 4) V 1))) (need [[Q5]=[Q5],HE (hL s) QU,QA s,QB s] (leaf (false,(6:Int)))) (need [UM 1 (↑(n-1):Int)] (need [(1:Int).toNat<n-1] (branch (!bt (-1000:Int) (U3 (U7 (UR 4) V 2)) (2000:Int)) (need [[Q5]=[Q5],HE (hL s) QU,QA s,QB s] (leaf (false,(2:Int)))) (VP.may (s.nb=0) VP.fail (need [(0+s.nb)*40<=140737488355328,∀(i:Nat),i<s.nb-> ∀(a:AV),a∈[iI (s.ql i),iI (s.qh i),bts (s.qm i) (s.qr i) (s.qv i)]->AV.one a=true] (need [UM ((↑s.nb:Int)-1) (↑(0+s.nb):Int)] (need [((↑s.nb:Int)-1).toNat<0+s.nb] (need [UM 0 (↑(n-1):Int)] (need [(0:Int).toNat<n-1] (need [UM 1 (↑(n-1):Int)] (need [(1:Int).toNat<n-1] (need [(lst 2 (s.qm (((↑s.nb:Int)-1).toNat-0)) λj=>[iI (s.qr (((↑s.nb:Int)-1).toNat-0) j),iI (s.qv (((↑s.nb:Int)-1).toNat-0) j)])=lst 2 (s.qm (laB s)) λk=>[iI (s.qr (laB s) k),iI (s.qv (laB s) k)],s.qm (laB s)<=100000] (need [UM ((↑s.nb:Int)-1) (↑(0+s.nb):Int)] (need [((↑s.nb:Int)-1).toNat<0+s.nb] (need [bV s.nb (s.ql) (s.qh) (seM s) (seR s (U3 (V 0))) (seV s (U3 (V 1))),HE [Y1,iI 1,lst 3 (0+s.nb) λk=>iI (if decide (k=((↑s.nb:Int)-1).toNat)=true then s.ql (k-0) else s.ql (k-0))::iI (if decide (k=((↑s.nb:Int)-1).toNat)=true then s.qh (k-0) else s.qh (k-0))::Bool.rec (bts (s.qm (k-0)) (s.qr (k-0)) (s.qv (k-0))) (lst 2 (s.qm (laB s)+1) λk=>[i (HI (s.qm (laB s)) (s.qr (laB s)) z5 k),i (HI (s.qm (laB s)) (s.qv (laB s)) z6 k)]) (decide (k=((↑s.nb:Int)-1).toNat))::Bool.rec ([]) ([]) (decide (k=((↑s.nb:Int)-1).toNat))] [lst 2 3 λk=>[iI (oL k),iI (oH k)],iI 1,lst 3 s.nb λk=>[iI (s.ql k),iI (s.qh k),lst 2 (seM s k) λj=>[iI (seR s (U3 (V 0)) k j),iI (seV s (U3 (V 1)) k j)]]]] (branch (!boE s.nb (s.ql) (s.qh) (seM s) (seR s (U3 (V 0))) (seV s (U3 (V 1)))==0) (need [[Q5]=[Q5],HE z0 QU,QA s,QB s] (leaf (false,(9:Int)))) (need [[Q5]=[Q5],HE z0 (hL z1),((38:TypeId),1,s.xn,s.xg)=((38:TypeId),1,z1.xn,z1.xg),((9:TypeId),1,s.yn,s.yg)=((9:TypeId),1,z1.yn,z1.yg)] (leaf (true,(0:Int))))))))))))))))))))))))))))) (need [[Q5]=[Q5],HE QU QU,QA s,QB s] (leaf (false,(4:Int))))))))) z4)))) VW ?_
 have hw:wdO (U7 (UR 4) V (Int.toNat 0))=true:=VW;have hm:wdM (wdK (U7 (UR 4) V (Int.toNat 0)))=2:=VW;have hn1:1<=n:=by have:=VU.2.1;omega
 have hnl:=BB VU;simp only [VP.sat,UD,UJ,hm,hw,true_imp_iff];refine ⟨⟨rfl,rfl⟩,⟨VM,VM⟩,⟨by simp only [VO];omega,λh4=>?_,λh4=>?_⟩,λh=>by cases h⟩
 ·exact VB
 ·have hN:n=2+1:=by
   simp at h4;omega
  refine ⟨⟨VM,VM,VM⟩,?_,λh5=>?_,λh5=>?_⟩
  rotate_left 2
  ·exact VC
  ·all_goals exact v6
  ·have hk1:n-1=2:=VM;have hx0:U3 (U7 (UR 4) V 1)=U3 (V 0):=rfl;have hx1:U3 (U7 (UR 4) V 2)=U3 (V 1):=rfl;have hq:s.nb<=6:=UI.1.1;rw [hk1];refine ⟨by simp only [VO];omega,λh6=>⟨DO _ _ _ _ _ _,FB hN h5 (Jc0 h6) (by decide)⟩,λh6=>?_⟩
   have h6:1<=s.nb:=by simp at h6;omega
   have hla:laB s<s.nb:=by unfold laB;omega
   have hm10:=(UI.1.2 _ hla).1;refine ⟨VM,by decide,by simp only [VO];omega,λh7=>⟨DO _ _ _ _ _ _,FB hN h5 (Jc1 h6 (bnt h7)) (by decide)⟩,λh7=>?_⟩
   have h7:bt 0 (U3 (V 0)) 2=true:=bnf h7;refine ⟨VM,⟨VM,VM,by simp only [Bh 1];rfl⟩,λh8=>⟨DO _ _ _ _ _ _,FB hN h5 (Jc2 h6 h7 (bnt h8)) (by decide)⟩,λh8=>?_⟩
   have h8:seN (s.qm (laB s)) (s.qr (laB s)) (U3 (V 0))=true:=bnf h8;refine ⟨VM,by decide,λh9=>⟨DO _ _ _ _ _ _,FB hN h5 (Jc3 h6 h7 h8 (bnt h9)) (by decide)⟩,λh9=>?_⟩
   have h9:bt (-1000) (U3 (V 1)) 2000=true:=bnf h9;refine ⟨λh=>VM,⟨VM,λk hk a ha=>?_⟩,VM,VM,VM,by decide,VM,by decide,⟨rfl,VM⟩,VM,VM,⟨Jc5 UI h6 h7 h8 h9,?_⟩,λh=>⟨DO _ _ _ _ _ _,FB hN h5 (Jb9 h6 h7 h8 h9 h) (by decide)⟩,λh=>⟨⟨⟨BD s,zZ _,zZ _,?_,BE s,PF s,trivial⟩,rfl,rfl⟩,uY hN h5 (Jc4 h6 h7 h8 h9 h)⟩⟩
   ·simp only [GQ,DQ,or_false] at ha;rcases ha with rfl|rfl|rfl<;>simp [AV.one,Value.oneCell']
   ·refine ⟨⟨rfl,rfl,λk hk=>⟨?_,?_⟩⟩,zZ _,?_,trivial⟩
    ·rcases (show k=0\/k=1\/k=2 by omega) with rfl|rfl|rfl<;>exact ⟨(PE _).2,(PE _).2,trivial⟩
    ·intro x hx;simp only [GQ,DQ,or_false] at hx;rcases hx with rfl|rfl<;>exact .x _
    ·exact V7
   ·exact V7
end Go.Proofs.YtlclobclmfhlmaaGreatDoor.Hd
