/- Contracts, put together. Conditions: those of each. -/
import Derived.Test.YtakpdkmhclhlnaaGreatDoorMj
import Derived.Lib.AppendIntMem
set_option linter.unusedSimpArgs false
set_option linter.unusedVariables false
set_option maxRecDepth 100000
namespace Go.Proofs.YtakpdkmhclhlnaaGreatDoor.Hd
open Go Go.Shelf Go.Sx
theorem Qz5{e:UJ}{w:World}(hgl:D9 e w):Lib.TabIs Tryz.prog w "internal/strconv.uint64pow10" .u64 Lib.pow10Tab:=by
 obtain ⟨_,_,o,ho,_,T,fr,rfl⟩:=hgl 0 _ rfl;have hg:Tryz.prog.globalNamed "internal/strconv.uint64pow10"=some 0:=VQ;unfold Lib.TabIs World.var?;rw [hg];show (match w.heap[0]? with|some (.cells cs _ _)=>some cs|_=>none)=_
 rw [ho];simp [Lib.pow10Tab]
theorem Zj0{e:UJ}{w:World}(hgl:D9 e w): ∃m,w.cell? ⟨1,0,none⟩=some (.int .i64 m):=by
 obtain ⟨_,_,o,ho,_,m,T,fr,rfl⟩:=hgl 1 _ rfl;exact ⟨m,by simp [World.cell?,ho]⟩
theorem Xg3(n:Int)(VO:VI n):VV VL 69 [.x (.int .i64 n)] (.x (.string ⟨(Lib.itoa n).toArray⟩)):=by
 intro e w args hro hgl FK hr;obtain ⟨u,us,rfl,h1,h2⟩:=hr.cons_inv;cases h2.nil_inv;cases h1.x_inv;unfold VI at VO;refine Calls.mono (Any.strconv_Itoa Qb7 n VG VG w (Qz5 hgl)) ?_;rintro en w' ⟨rfl,k,os,rfl⟩;exact ⟨_,rfl,Lib.below_grow _ w (Am _) k os,.x _⟩
def fH:UU
 |[.x (.int .i64 n)]=>some ([VI n],.x (.string ⟨(Lib.itoa n).toArray⟩))
 |_=>none
theorem TX:VM VL 69 fH:=by
 refine ⟨(UC Tryz.func69),?_⟩;intro avs ns res h hn;unfold fH at h;split at h;cases h;exact Xg3 _ (hn _ VS);cases h
def spl(s sep:ByteArray):List ByteArray:=Lib.splitB sep 0 (Lib.countB s sep) s
theorem Qz9(s sep:ByteArray)(hs:s.size<4294967281)(h1:1<=sep.size):VV VL 143 [.x (.string s),.x (.string sep)] (.lst 1 (Lib.countB s sep+1) (λk=>[.x (.string ((spl s sep).getD k ByteArray.empty))])):=by
 intro e w args hro hgl FK hr;obtain ⟨u,us,rfl,r1,r2⟩:=hr.cons_inv;obtain ⟨u2,us2,rfl,r3,r4⟩:=r2.cons_inv;cases r4.nil_inv;cases r1.x_inv;cases r3.x_inv;obtain ⟨m,hm⟩:=Zj0 hgl;have hle:=Lib.countB_le sep h1 s.size s (Am _);have HR:=Lib.splitB_all sep h1 0 _ s rfl;refine Calls.mono (Any.strings_Split Wg1 VQ s sep m w hs hm h1) ?_;rintro en w' ⟨rfl,rfl⟩;generalize hobj:Obj.cells (List.map Value.string (Lib.splitB sep 0 (Lib.countB s sep) s)).toArray (gA.t 9)=ob;have hsz:(w.alloc ob).heap.size=w.heap.size+1:=VS;refine ⟨_,rfl,(RowKit.Below.refl w.heap.size w).alloc (Am _) _,?_⟩;refine Rep.lst (e:=PA w (w.alloc ob)) 1 _ _ w.heap.size 0 _ (λi _=> .string ((spl s sep).getD i ByteArray.empty)) (λ_=>(show w.heap.size<=w.heap.size/\w.heap.size<(w.alloc ob).heap.size by omega)) (λ_=>VG) (λi _ a ha=>?_) (Am _) (by unfold maxLen;omega) (λi j O hj=>?_) (λ_ _=>rfl) (λi j a O ha=>?_) _ (λ_=>rfl)
 simp at ha;subst ha;exact .x _
 ·obtain rfl:j=0:=VG;have hi':i<(spl s sep).length:=by unfold spl;omega
  have hh:(w.alloc ob).heap[w.heap.size]? =some ob:=by first|(rw [World.alloc_eq];simp;done)|(simp only [World.alloc_eq,Array.getElem?_push_size];done)|exact Array.getElem?_push_size|(unfold World.alloc;exact Array.getElem?_push_size)
  unfold World.cell?;rw [hh,←hobj];have e:0+(i*1+0)=i:=VG;show (List.map Value.string (spl s sep)).toArray[0+(i*1+0)]? =_;rw [e];simp [hi']
 cases j with
 |zero=>simp at ha;subst ha;exact .x _
 |succ j=>simp at ha
open Go Go.Shelf Go.Sx Go.RowKit
def VX(s:ByteArray):Int:=match Lib.atoiAll s.data.toList with
 | .ok v=>v
 |_=>0
def MT(s:ByteArray):Bool:=match Lib.atoiAll s.data.toList with
 | .ok v=>decide (Lib.itoa v=s.data.toList)&&decide ((Lib.trimPrefix s.data.toList [45]).length<=9)
 |_=>false
theorem kF{l:List UInt8}{s:ByteArray}:(⟨l.toArray⟩:ByteArray)=s↔l=s.data.toList:=by
 constructor;rintro rfl;rfl;rintro rfl;cases s;rfl
theorem sN(k:Int)(w:World):Calls Tryz.prog 145 #[.bool false,.int .i64 k] w λen w'=>en= .panicked [{v:=IO 211 (.int .i64 k),recovered:=false}]/\w'=w:=by
 go_enter Tryz.func145,Tryz.ntmps145
 go_wp2
 exact ⟨rfl,rfl,rfl⟩
theorem Xl7(k:Int)(w:World):Calls Tryz.prog 145 #[.bool true,.int .i64 k] w λen w'=>en= .returned (.tuple #[])/\w'=w:=by
 go_enter Tryz.func145,Tryz.ntmps145
 go_wp2
 go_end0
 exact ⟨rfl,rfl⟩
theorem vP{e:UJ}{w w1:World}(h:D9 e w)(hb:Below w.heap.size w w1):D9 e w1:=λb p hp=>by
 obtain ⟨h1,h2,o,h3,h4⟩:=h b p hp;exact ⟨h1,xS h2 hb.size,o,(hb.block b h2).trans h3,h4⟩
theorem kG{w w1:World}{T:TypeId}(h:w1=w\/ ∃t,w1=Lib.bytesWorld w T t):Below w.heap.size w w1:=by
 rcases h with rfl|⟨t,rfl⟩;exact Below.refl _ _;exact Lib.bytesWorld_below w _ _
theorem Qe8{l:List UInt8}{v:Int}(h:Lib.atoiAll l= .ok v): -9223372036854775808<=v/\v<=9223372036854775807:=by
 unfold Lib.atoiAll at h;split at h;cases h;simp only at h;split at h;cases h;cases h;split at h;cases h;split at h;cases h;cases h;split<;>omega
theorem vJ{v:Int}(h: -9223372036854775808<=v/\v<=9223372036854775807){e:UJ}{w:World}(hgl:D9 e w):Calls Tryz.prog 69 #[.int .i64 v] w λen w'=>en= .returned (.string ⟨(Lib.itoa v).toArray⟩)/\Below w.heap.size w w':=by
 refine Calls.mono (Any.strconv_Itoa Qb7 v h.1 h.2 w (Qz5 hgl)) ?_;rintro en w' ⟨rfl,k,os,rfl⟩;exact ⟨rfl,Lib.below_grow _ w (Am _) k os⟩
theorem yW(s p:ByteArray)(w:World):Calls Tryz.prog 182 #[.string s,.string p] w λen w'=>en= .returned (.string ⟨(Lib.trimPrefix s.data.toList p.data.toList).toArray⟩)/\w'=w:=Any.strings_TrimPrefix Xf9 s p w
theorem Zm7{e:UJ}{w:World}(hgl:D9 e w):(∃ev,w.cell? ⟨2,0,none⟩=some ev/\(ev= .nilIface\/ ∃te pe,ev= .iface te pe))/\ ∃ev,w.cell? ⟨3,0,none⟩=some ev/\(ev= .nilIface\/ ∃te pe,ev= .iface te pe):=by
 obtain ⟨_,_,o,h3,_,te,pe,T,fr,rfl⟩:=hgl 2 _ rfl;obtain ⟨_,_,o,k3,_,te',pe',T',fr',rfl⟩:=hgl 3 _ rfl;exact ⟨⟨.iface te pe,by simp [World.cell?,h3],.inr ⟨te,pe,rfl⟩⟩,⟨.iface te' pe',by simp [World.cell?,k3],.inr ⟨te',pe',rfl⟩⟩⟩
theorem oN(s:ByteArray)(hs:s.size<=100000)(hb:MT s=true){e:UJ}{w:World}(hgl:D9 e w):Calls Tryz.prog 146 #[.string s] w λen w'=>en= .returned (.int .i64 (VX s))/\Below w.heap.size w w':=by
 unfold MT at hb;split at hb
 ·rename_i v hv;rw [GZ,kJ,kJ] at hb;have hA:=Any.strconv_Atoi_ok A7 s VG v hv w;have hnv:VX s=v:=by unfold VX;rw [hv]
  rw [hnv];have hin:=Qe8 hv
  change Calls Tryz.prog 147 _ _ _ at hA
  have heq2:(⟨(Lib.itoa v).toArray⟩:ByteArray)=s:=kF.2 hb.1;have hle:(decide (((Lib.trimPrefix s.data.toList [45]).length:Int)<=9))=true:=decide_eq_true VG
  go_enter Tryz.func146,Tryz.ntmps146
  go_wp2_with (go_at_call 147;refine hA.mono ?_;rintro en w1 ⟨rfl,hw1⟩)
  have hb1:=kG hw1;refine (vJ hin (vP hgl hb1)).mono ?_;rintro en w2 ⟨rfl,hb2⟩;have hb3:Below w.heap.size w w2:=hb1.trans (hb2.mono hb1.size)
  go_wp2_with (go_at_call 182;refine (yW _ _ _).mono ?_;rintro en w3 ⟨rfl,rfl⟩)
  try rw [hle]
  refine (Xl7 _ _).mono ?_;rintro en w4 ⟨rfl,rfl⟩
  go_wp2
  go_ret
  exact ⟨rfl,hb3⟩
 cases hb
theorem Qm7(s:ByteArray)(hs:s.size<=100000)(hb:MT s=false){e:UJ}{w:World}(hgl:D9 e w):Calls Tryz.prog 146 #[.string s] w λen w'=>en= .panicked [{v:=IO 211 (.int .i64 4),recovered:=false}]/\Below w.heap.size w w':=by
 obtain ⟨⟨ev0,he0,he0'⟩,⟨ev1,he1,he1'⟩⟩:=Zm7 hgl;unfold MT at hb;split at hb;rename_i v hv;have hA:=Any.strconv_Atoi_ok A7 s VG v hv w;have hin:=Qe8 hv
 change Calls Tryz.prog 147 _ _ _ at hA
 rcases Classical.em (Lib.itoa v=s.data.toList) with h1|h1
 ·have heq2:(⟨(Lib.itoa v).toArray⟩:ByteArray)=s:=kF.2 h1;rw [decide_eq_true h1,Bool.true_and,aDef] at hb;have hle:(decide (((Lib.trimPrefix s.data.toList [45]).length:Int)<=9))=false:=decide_eq_false VG
  go_enter Tryz.func146,Tryz.ntmps146
  go_wp2_with (go_at_call 147;refine hA.mono ?_;rintro en w1 ⟨rfl,hw1⟩)
  have hb1:=kG hw1;refine (vJ hin (vP hgl hb1)).mono ?_;rintro en w2 ⟨rfl,hb2⟩;have hb3:Below w.heap.size w w2:=hb1.trans (hb2.mono hb1.size)
  go_wp2_with (go_at_call 182;refine (yW _ _ _).mono ?_;rintro en w3 ⟨rfl,rfl⟩)
  try rw [hle]
  refine (sN _ _).mono ?_;rintro en w4 ⟨rfl,rfl⟩;exact ⟨rfl,rfl,hb3⟩
 ·have hne: ¬(⟨(Lib.itoa v).toArray⟩:ByteArray)=s:=λh=>h1 (kF.1 h)
  go_enter Tryz.func146,Tryz.ntmps146
  go_wp2_with (go_at_call 147;refine hA.mono ?_;rintro en w1 ⟨rfl,hw1⟩)
  have hb1:=kG hw1;refine (vJ hin (vP hgl hb1)).mono ?_;rintro en w2 ⟨rfl,hb2⟩;have hb3:Below w.heap.size w w2:=hb1.trans (hb2.mono hb1.size)
  go_wp2_with (go_at_call 182;refine (yW _ _ _).mono ?_;rintro en w3 ⟨rfl,rfl⟩)
  exact absurd ‹Lib.itoa v=s.toList› (λhx=>h1 (hx.trans (ByteArray.toList_eq s)));refine (sN _ _).mono ?_;rintro en w4 ⟨rfl,rfl⟩;exact ⟨rfl,rfl,hb3⟩
 ·rename_i hno;have hA:Calls Tryz.prog 147 #[.string s] w λen w'=>(∃k te pe,en= .returned (.tuple #[.int .i64 k,.iface te pe]))/\Below w.heap.size w w':=by
   cases h:Lib.atoiAll s.data.toList;rename_i v;exact absurd h (hno v);refine Calls.mono (Any.strconv_Atoi_syntax A7 s VG h ev0 w he0 he0') ?_;rintro en w' ⟨N,rfl,_,_,hb⟩;exact ⟨⟨_,_,_,rfl⟩,hb⟩;refine Calls.mono (Any.strconv_Atoi_range A7 s VG h ev1 w he1 he1') ?_;rintro en w' ⟨N,rfl,_,_,hb⟩;exact ⟨⟨_,_,_,rfl⟩,hb⟩
  go_enter Tryz.func146,Tryz.ntmps146
  go_wp2_with (go_at_call 147;refine hA.mono ?_;rintro en w1 ⟨⟨k,te,pe,rfl⟩,hb3⟩)
  refine (sN _ _).mono ?_;rintro en w4 ⟨rfl,rfl⟩;exact ⟨rfl,rfl,hb3⟩
def jA:DU:=λavs m nx sv=>match avs with
 |[.x (.string s)]=>some (.need [s.size<=100000] (.branch (MT s) (.leaf (.ret (.x (.int .i64 (VX s))),m,nx,sv)) (.leaf (.pan (IO 211 (.int .i64 4)),m,nx,sv))))
 |_=>none
theorem wL:D2 VL 146 jA:=by
 refine ⟨(UC Tryz.func146),?_⟩;intro avs m nx sv t ht Q hQ c w0 T e ds args w hE hB hm hl LL hxt hr;unfold jA at ht;split at ht;rename_i s;cases ht;obtain ⟨hs,hQ⟩:=hQ;obtain ⟨u,us,rfl,h1,h2⟩:=hr.cons_inv;cases h2.nil_inv;cases h1.x_inv;have key: ∀{w':World},Below w.heap.size w w'->Step e e w w'/\UX e w0.heap.size w'/\Below w0.heap.size w0 w':=by
  intro w' hb;have st:Step e e w w':=⟨λb hlt hr=>⟨hr,hb.block b hlt⟩,λ_ h=>⟨h,rfl,rfl⟩,hb.size⟩;exact ⟨st,⟨λb h=>⟨(hE.apart b h).1,xS (hE.apart b h).2 hb.size⟩,λb k h=>⟨(hE.owned b k h).1,xS (hE.owned b k h).2 hb.size⟩,hE.glob.step st⟩,hB.trans (hb.mono hB.size)⟩
 cases hb:MT s with
 |true=>
  refine (oN s hs hb hE.glob).mono ?_;rintro en w' ⟨rfl,hbl⟩;obtain ⟨k1,k2,k3⟩:=key hbl;exact ⟨.ret (.x (.int .i64 (VX s))),_,_,_,e,⟨_,rfl,.x _⟩,hQ.1 hb,k2,k3,hm.ext hbl k1 (λ_ _ h=>h),hl,LL,hxt.step k1⟩
 |false=>
  refine (Qm7 s hs hb hE.glob).mono ?_;rintro en w' ⟨rfl,hbl⟩;obtain ⟨k1,k2,k3⟩:=key hbl;exact ⟨.pan (IO 211 (.int .i64 4)),_,_,_,e,rfl,hQ.2 hb,k2,k3,hm.ext hbl k1 (λ_ _ h=>h),hl,LL,hxt.step k1⟩
 cases ht
def wdE:List MapEntry:=[{key:= .string ⟨#[116,104,114,101,97,100]⟩,val:= .agg #[.int .i64 4,.func (.func 174) #[] #[]],born:=0},
 {key:= .string ⟨#[115,116,114,105,107,101]⟩,val:= .agg #[.int .i64 1,.func (.func 175) #[] #[]],born:=1},
 {key:= .string ⟨#[98,97,114,111]⟩,val:= .agg #[.int .i64 2,.func (.func 176) #[] #[]],born:=2},
 {key:= .string ⟨#[98,97,116,104]⟩,val:= .agg #[.int .i64 2,.func (.func 177) #[] #[]],born:=3},
 {key:= .string ⟨#[115,101,101]⟩,val:= .agg #[.int .i64 2,.func (.func 178) #[] #[]],born:=4},
 {key:= .string ⟨#[105,115,115,117,101]⟩,val:= .agg #[.int .i64 4,.func (.func 179) #[] #[]],born:=5},
 {key:= .string ⟨#[118,111,105,100]⟩,val:= .agg #[.int .i64 1,.func (.func 180) #[] #[]],born:=6},
 {key:= .string ⟨#[115,101,108,108]⟩,val:= .agg #[.int .i64 5,.func (.func 181) #[] #[]],born:=7}]
theorem qY(w:World)(es:Array MapEntry)(c:Nat)(s:ByteArray)(val:Value)(hf:Instr.findNow .string (.string s) es.toList 0=some none):
  (Instr.mapUpdate 262 (.map (some w.heap.size)) (.string s) val).run Tryz.prog (w.alloc (.map es c))= .ok () (w.alloc (.map (es.push {key:= .string s,val:=val,born:=c}) (c+1))):=by
 have hm:Tryz.prog.underlying 262=some (.map 9 260):=VQ;have hk:Tryz.prog.underlying 9=some .string:=VQ;have hb:(w.alloc (.map es c)).heap[w.heap.size]? =some (.map es c):=World.alloc_heap_new w _;have hc:(Instr.checkKey false 10000 9 (.string s)).run Tryz.prog (w.alloc (.map es c))= .ok () (w.alloc (.map es c)):=MapKept.run_checkKey (k:= .string s) hk (by simp [MapKept.IsKey]) false 9999
 have hp: ∀o o':Obj,({w.alloc o with heap:=(w.alloc o).heap.setIfInBounds w.heap.size o'}:World)=w.alloc o':=λo o'=>by
  have ha:(w.heap.push o).setIfInBounds w.heap.size o'=w.heap.push o':=Array.toList_inj.1 (by simp [List.set_append])
  have h0: ∀q:Obj,(w.alloc q).heap=w.heap.push q:=λq=>rfl;rw [h0,ha];rfl
 have h1:(Instr.mapUpdate 262 (.map (some w.heap.size)) (.string s) val).run Tryz.prog (w.alloc (.map es c))= .ok () {w.alloc (.map es c) with heap:=(w.alloc (.map es c)).heap.setIfInBounds w.heap.size (.map (es.push {key:= .string s,val:=val,born:=c}) (c+1)) }:=by
  simp only [Instr.mapUpdate,At,run_underlying hm,MapKept.run_getObj_map hb,hc,MapKept.run_findKey hk hf,MapKept.run_setObj_map _ hb,Result.andThen]
 rw [h1,hp]
theorem M1(w:World):Calls Tryz.prog 144 #[] w λen w'=>en= .returned (.map (some w.heap.size))/\w'=w.alloc (.map wdE.toArray 8):=by
 have i0:=run_makeMap (P:=Tryz.prog) 262 w;have i1:=qY w #[] 0 ⟨#[116,104,114,101,97,100]⟩ (.agg #[.int .i64 4,.func (.func 174) #[] #[]]) (by rfl)
 have i2:=qY w #[{key:= .string ⟨#[116,104,114,101,97,100]⟩,val:= .agg #[.int .i64 4,.func (.func 174) #[] #[]],born:=0}] 1 ⟨#[115,116,114,105,107,101]⟩ (.agg #[.int .i64 1,.func (.func 175) #[] #[]]) (by rfl)
 have i3:=qY w #[{key:= .string ⟨#[116,104,114,101,97,100]⟩,val:= .agg #[.int .i64 4,.func (.func 174) #[] #[]],born:=0},{key:= .string ⟨#[115,116,114,105,107,101]⟩,val:= .agg #[.int .i64 1,.func (.func 175) #[] #[]],born:=1}] 2 ⟨#[98,97,114,111]⟩ (.agg #[.int .i64 2,.func (.func 176) #[] #[]]) (by rfl)
 have i4:=qY w #[{key:= .string ⟨#[116,104,114,101,97,100]⟩,val:= .agg #[.int .i64 4,.func (.func 174) #[] #[]],born:=0},{key:= .string ⟨#[115,116,114,105,107,101]⟩,val:= .agg #[.int .i64 1,.func (.func 175) #[] #[]],born:=1},{key:= .string ⟨#[98,97,114,111]⟩,val:= .agg #[.int .i64 2,.func (.func 176) #[] #[]],born:=2}] 3 ⟨#[98,97,116,104]⟩ (.agg #[.int .i64 2,.func (.func 177) #[] #[]]) (by rfl)
 have i5:=qY w #[{key:= .string ⟨#[116,104,114,101,97,100]⟩,val:= .agg #[.int .i64 4,.func (.func 174) #[] #[]],born:=0},{key:= .string ⟨#[115,116,114,105,107,101]⟩,val:= .agg #[.int .i64 1,.func (.func 175) #[] #[]],born:=1},{key:= .string ⟨#[98,97,114,111]⟩,val:= .agg #[.int .i64 2,.func (.func 176) #[] #[]],born:=2},{key:= .string ⟨#[98,97,116,104]⟩,val:= .agg #[.int .i64 2,.func (.func 177) #[] #[]],born:=3}] 4 ⟨#[115,101,101]⟩ (.agg #[.int .i64 2,.func (.func 178) #[] #[]]) (by rfl)
 have i6:=qY w #[{key:= .string ⟨#[116,104,114,101,97,100]⟩,val:= .agg #[.int .i64 4,.func (.func 174) #[] #[]],born:=0},{key:= .string ⟨#[115,116,114,105,107,101]⟩,val:= .agg #[.int .i64 1,.func (.func 175) #[] #[]],born:=1},{key:= .string ⟨#[98,97,114,111]⟩,val:= .agg #[.int .i64 2,.func (.func 176) #[] #[]],born:=2},{key:= .string ⟨#[98,97,116,104]⟩,val:= .agg #[.int .i64 2,.func (.func 177) #[] #[]],born:=3},{key:= .string ⟨#[115,101,101]⟩,val:= .agg #[.int .i64 2,.func (.func 178) #[] #[]],born:=4}] 5 ⟨#[105,115,115,117,101]⟩ (.agg #[.int .i64 4,.func (.func 179) #[] #[]]) (by rfl)
 have i7:=qY w #[{key:= .string ⟨#[116,104,114,101,97,100]⟩,val:= .agg #[.int .i64 4,.func (.func 174) #[] #[]],born:=0},{key:= .string ⟨#[115,116,114,105,107,101]⟩,val:= .agg #[.int .i64 1,.func (.func 175) #[] #[]],born:=1},{key:= .string ⟨#[98,97,114,111]⟩,val:= .agg #[.int .i64 2,.func (.func 176) #[] #[]],born:=2},{key:= .string ⟨#[98,97,116,104]⟩,val:= .agg #[.int .i64 2,.func (.func 177) #[] #[]],born:=3},{key:= .string ⟨#[115,101,101]⟩,val:= .agg #[.int .i64 2,.func (.func 178) #[] #[]],born:=4},{key:= .string ⟨#[105,115,115,117,101]⟩,val:= .agg #[.int .i64 4,.func (.func 179) #[] #[]],born:=5}] 6 ⟨#[118,111,105,100]⟩ (.agg #[.int .i64 1,.func (.func 180) #[] #[]]) (by rfl)
 have i8:=qY w #[{key:= .string ⟨#[116,104,114,101,97,100]⟩,val:= .agg #[.int .i64 4,.func (.func 174) #[] #[]],born:=0},{key:= .string ⟨#[115,116,114,105,107,101]⟩,val:= .agg #[.int .i64 1,.func (.func 175) #[] #[]],born:=1},{key:= .string ⟨#[98,97,114,111]⟩,val:= .agg #[.int .i64 2,.func (.func 176) #[] #[]],born:=2},{key:= .string ⟨#[98,97,116,104]⟩,val:= .agg #[.int .i64 2,.func (.func 177) #[] #[]],born:=3},{key:= .string ⟨#[115,101,101]⟩,val:= .agg #[.int .i64 2,.func (.func 178) #[] #[]],born:=4},{key:= .string ⟨#[105,115,115,117,101]⟩,val:= .agg #[.int .i64 4,.func (.func 179) #[] #[]],born:=5},{key:= .string ⟨#[118,111,105,100]⟩,val:= .agg #[.int .i64 1,.func (.func 180) #[] #[]],born:=6}] 7 ⟨#[115,101,108,108]⟩ (.agg #[.int .i64 5,.func (.func 181) #[] #[]]) (by rfl)
 go_enter Tryz.func144,Tryz.ntmps144
 go_wp2
 go_ret
 exact ⟨rfl,rfl⟩
def eqU:List UInt8->List UInt8->Bool
 |[],[]=>true
 |a::l,b::m=>Nat.beq a.toNat b.toNat&&eqU l m
 |_,_=>false
theorem aH: ∀{l m:List UInt8},eqU l m=true↔l=m
 |[],[]=>by simp [eqU]
 |[],_::_=>by simp [eqU]
 |_::_,[]=>by simp [eqU]
 |a::l,b::m=>by
  simp only [eqU,GZ,aH,List.cons.injEq];constructor;rintro ⟨h,h2⟩;exact ⟨UInt8.toNat_inj.1 (GU h),h2⟩;rintro ⟨rfl,h2⟩;exact ⟨Nat.beq_refl _,h2⟩
section
variable (s:ByteArray)
def wdK:Nat:=match eqU s.data.toList [116,104,114,101,97,100] with
 |true=>0
 |false=>match eqU s.data.toList [115,116,114,105,107,101] with
 |true=>1
 |false=>match eqU s.data.toList [98,97,114,111] with
 |true=>2
 |false=>match eqU s.data.toList [98,97,116,104] with
 |true=>3
 |false=>match eqU s.data.toList [115,101,101] with
 |true=>4
 |false=>match eqU s.data.toList [105,115,115,117,101] with
 |true=>5
 |false=>match eqU s.data.toList [118,111,105,100] with
 |true=>6
 |false=>match eqU s.data.toList [115,101,108,108] with
 |true=>7
 |false=>8
def wdM:Nat->Int
 | 0=>4
 | 1=>1
 | 2=>2
 | 3=>2
 | 4=>2
 | 5=>4
 | 6=>1
 | 7=>5
 |_=>0
def wdO:Bool:=Nat.blt (wdK s) 8
def Qt6:List AV:=[match wdO s with|true=> .x (.int .i64 (wdM (wdK s)))|false=> .top,match wdO s with|true=> .fn (.func (174+wdK s)) [] []|false=> .top]
def wdL:List ByteArray:=[⟨#[116,104,114,101,97,100]⟩,⟨#[115,116,114,105,107,101]⟩,⟨#[98,97,114,111]⟩,⟨#[98,97,116,104]⟩,⟨#[115,101,101]⟩,⟨#[105,115,115,117,101]⟩,⟨#[118,111,105,100]⟩,⟨#[115,101,108,108]⟩]
theorem AM:(wdK s<8/\wdL[wdK s]? =some s)\/(wdK s=8/\ ∀x∈wdL,x≠s):=by
 have mk: ∀(l:List UInt8),eqU s.data.toList l=true->(⟨l.toArray⟩:ByteArray)=s:=λl h=>kF.2 (aH.1 h).symm;have no: ∀(l:List UInt8),eqU s.data.toList l=false->(⟨l.toArray⟩:ByteArray)≠s:=λl h he=>by
  rw [aH.2 (kF.1 he).symm] at h;cases h
 unfold wdK;split;rename_i h0;exact .inl ⟨VG,by rw [←mk _ h0];rfl⟩
 rename_i h0;split;rename_i h1;exact .inl ⟨VG,by rw [←mk _ h1];rfl⟩
 rename_i h1;split;rename_i h2;exact .inl ⟨VG,by rw [←mk _ h2];rfl⟩
 rename_i h2;split;rename_i h3;exact .inl ⟨VG,by rw [←mk _ h3];rfl⟩
 rename_i h3;split;rename_i h4;exact .inl ⟨VG,by rw [←mk _ h4];rfl⟩
 rename_i h4;split;rename_i h5;exact .inl ⟨VG,by rw [←mk _ h5];rfl⟩
 rename_i h5;split;rename_i h6;exact .inl ⟨VG,by rw [←mk _ h6];rfl⟩
 rename_i h6;split;rename_i h7;exact .inl ⟨VG,by rw [←mk _ h7];rfl⟩
 rename_i h7;refine .inr ⟨rfl,λx hx=>?_⟩;simp only [wdL,GK,DP,or_false] at hx;rcases hx with rfl|rfl|rfl|rfl|rfl|rfl|rfl|rfl;exact no _ h0;exact no _ h1;exact no _ h2;exact no _ h3;exact no _ h4;exact no _ h5;exact no _ h6;exact no _ h7
def wdV:List Value:=[.int .i64 (wdM (wdK s)),.func (.func (174+wdK s)) #[] #[]]
end
theorem lA{s:ByteArray}(h:wdO s=true): ∃j,Instr.findNow .string (.string s) wdE 0=some (some (j,.agg (wdV s).toArray)):=by
 rcases AM s with ⟨h1,h2⟩|⟨h1,_⟩;unfold wdV;rcases (show wdK s=0\/wdK s=1\/wdK s=2\/wdK s=3\/wdK s=4\/wdK s=5\/wdK s=6\/wdK s=7 by omega) with h3|h3|h3|h3|h3|h3|h3|h3<;>rw [h3] at h2 ⊢ <;>(obtain rfl:_=s:=Bb h2)<;>exact ⟨_,rfl⟩
 unfold wdO at h;rw [h1] at h;cases h
theorem IK{s:ByteArray}: ∀(es:List MapEntry) (j:Nat),(∀x∈es,∃k,x.key= .string k/\k≠s)->Instr.findNow .string (.string s) es j=some none
 |[],_,_=>rfl
 |x::es,j,h=>by
  obtain ⟨k,hk,hne⟩:=h x GB;have hs:Instr.sameNow .string (.string s) (.string k)=some false:=by
   have hb:(s==k)=false:=by
    cases hq:(s==k) with
    |false=>rfl
    |true=>
     obtain ⟨a⟩:=s;obtain ⟨b⟩:=k;have h':(a==b)=true:=hq;exact absurd (by rw [eq_of_beq h']) hne
   simp [Instr.sameNow,hb]
  unfold Instr.findNow;rw [hk,hs];exact IK es (j+1) (λy hy=>h y (HM _ hy))
theorem Qd3{s:ByteArray}(h:wdO s=false):Instr.findNow .string (.string s) wdE 0=some none:=by
 rcases AM s with ⟨h1,_⟩|⟨_,h2⟩;unfold wdO at h;rw [Cb,ne_eq,Aw] at h;omega;refine IK _ _ λx hx=>?_;simp only [wdE,GK,DP,or_false] at hx;rcases hx with rfl|rfl|rfl|rfl|rfl|rfl|rfl|rfl<;>exact ⟨_,rfl,h2 _ (by simp [wdL])⟩
theorem Xm6:VV VL 144 [] (.mpr Qt6 wdO):=by
 intro e w args hro hgl FK hr;obtain rfl:=hr.nil_inv;refine (M1 w).mono ?_;rintro en w' ⟨rfl,rfl⟩;have hsz:(w.alloc (.map wdE.toArray 8)).heap.size=w.heap.size+1:=VS;refine ⟨_,rfl,(Below.refl _ _).alloc (Am _) _,?_⟩;refine .mpr Qt6 wdO wdV w.heap.size wdE.toArray 8 (show w.heap.size<=w.heap.size/\w.heap.size<(w.alloc (.map wdE.toArray 8)).heap.size by omega) VG (λs a ha=>?_) (World.alloc_heap_new w _) (λs hs=>by simpa using lA hs) (λs hs=>⟨by simpa using Qd3 hs,λa ha=>?_⟩) (λs hs=>rfl) (λs k a v hs ha hv=>?_)
 unfold Qt6 at ha;cases h:wdO s<;>rw [h] at ha<;>simp only [GK,DP,or_false,or_self] at ha;subst ha;exact .top;rcases ha with rfl|rfl;exact .x _;exact .fn _ _ _ (λ_ h=>by cases h) (λ_ h=>by cases h)
 unfold Qt6 at ha;rw [hs] at ha;exact .inl (by simpa using ha)
 unfold Qt6 at ha;unfold wdV at hv;rw [hs] at ha
 match k,ha,hv with
 | 0,ha,hv=>
  simp only [List.getElem?_cons_zero,HA] at ha hv;subst ha hv;exact .x _
 | 1,ha,hv=>
  simp only [List.getElem?_cons_succ,List.getElem?_cons_zero,HA] at ha hv;subst ha hv;exact .fn _ [] [] [] [] rfl (λ_ _ _ h=>by simp at h) rfl (λ_ _ _ h=>by simp at h)
 |k+2,ha,hv=>simp at ha
def Wx4:UU
 |[]=>some ([],.mpr Qt6 wdO)
 |_=>none
theorem wD:VM VL 144 Wx4:=by
 refine ⟨(UC Tryz.func144),?_⟩;intro avs ns res h hn;unfold Wx4 at h;split at h;cases h;exact Xm6;cases h
end Go.Proofs.YtakpdkmhclhlnaaGreatDoor.Hd
namespace Go.Proofs.YtakpdkmhclhlnaaGreatDoor.Hd
open Go Go.Sx Go.RowKit Bo
open Go.Sx.VJ (need branch leaf)
open Go.Sx.AV (lst ptr agg roI tup top)
structure HS where
 nr:Nat
 ra:Nat->Int
 rb:Nat->Int
 ru:Nat->Int
 rv:Nat->Int
 pl:Int
 ph:Int
 nb:Nat
 ql:Nat->Int
 qh:Nat->Int
 qm:Nat->Nat
 qr:Nat->Nat->Int
 qv:Nat->Nat->Int
 nc:Nat
 ca:Nat->Int
 cb:Nat->Int
 cc:Nat->Int
 cd:Nat->Int
 cv:Nat->Bool
 ns:Nat
 sa:Nat->Int
 sb:Nat->Int
 sc:Nat->Int
 sl:Nat->Int
 sh:Nat->Int
 xn:Nat
 xg:Nat->List AV
 yn:Nat
 yg:Nat->List AV
section
variable (N:Nat)(s:HS)
abbrev hR:AV:= .lst 4 N λk=>[iI (s.ra k),iI (s.rb k),iI (s.ru k),iI (s.rv k)]
abbrev hY:AV:= .lst 3 N λk=>[iI (s.ql k),iI (s.qh k),.lst 2 (s.qm k) λj=>[iI (s.qr k j),iI (s.qv k j)]]
abbrev hC:AV:= .lst 5 N λk=>[iI (s.ca k),iI (s.cb k),iI (s.cc k),iI (s.cd k),.x (.bool (s.cv k))]
abbrev hT:AV:= .lst 5 N λk=>[iI (s.sa k),iI (s.sb k),iI (s.sc k),iI (s.sl k),iI (s.sh k)]
end
section
variable (s:HS)
abbrev hL:List AV:=[hR s.nr s,iI s.pl,iI s.ph,hY s.nb s,hC s.nc s,hT s.ns s]
abbrev hsR:AV:=rds s.nr s.ra s.rb s.ru s.rv
abbrev hsB:AV:=bds s.nb s.ql s.qh s.qm s.qr s.qv
abbrev hsC:AV:=crs s.nc s.ca s.cb s.cc s.cd s.cv
abbrev hsS:AV:=sls s.ns s.sa s.sb s.sc s.sl s.sh
abbrev hsL:List AV:=[hsR s,i s.pl,i s.ph,hsB s,hsC s,hsS s]
end
def tbP(k:Nat):Int:=U6 [720,760,800] k
def tbQ(k:Nat):Int:=U6 [985,1000,1014] k
def L3:UU
 |[.agg [.lst 4 nr fr,.x (.int .i64 pl),.x (.int .i64 ph),.lst 3 nb fb,.lst 5 nc fc,.lst 5 ns fs]]=>some ([],.agg [i 4,i 100,i 20,i 30,.lst 4 nr fr,.lst 2 3 (λk=>[i (tbP k),i (tbQ k)]),i pl,i ph,i 1,i 3])
 |_=>none
abbrev JK(nr:Nat)(fr:Nat->List AV)(pl:Int)(ph:Int):AV:=agg [iI 4,iI 100,iI 20,iI 30,lst 4 nr λa=>fr a,lst 2 3 (U3 2 [iI 720,iI 985,iI 760,iI 1000,iI 800,iI 1014]),iI pl,iI ph,iI 1,iI 3]
theorem Qp4(nr nb nc ns:Nat)(fr fb fc fs:Nat->List AV)(pl ph:Int):DH VL 44 [.agg [.lst 4 nr fr,i pl,i ph,.lst 3 nb fb,.lst 5 nc fc,.lst 5 ns fs]] (.agg [i 4,i 100,i 20,i 30,.lst 4 nr fr,.lst 2 3 (λk=>[i (tbP k),i (tbQ k)]),i pl,i ph,i 1,i 3]):=by
 refine HE (L:=[]) Aa Ad VW Tryz.func44 (UR Tryz.f44) UV (t:=leaf (JK nr fr pl ph)) VQ ?_;simp only [VJ.sat,DV,B1,UB,UE];all_goals exact V3
theorem F6:L2 VL 44 L3:=by
 refine ⟨(UC Tryz.func44),?_⟩;intro avs ns res h hn;unfold L3 at h;split at h;cases h;exact Qp4 _ _ _ _ _ _ _ _ _ _;cases h
def xT:UU
 |[.agg [.lst 4 nr fr,.x (.int .i64 pl),.x (.int .i64 ph),.lst 3 nb fb,.lst 5 nc fc,.lst 5 ns fs]]=>some ([],.agg [ofs,i 1,.lst 3 nb fb])
 |_=>none
abbrev J8:AV:=lst 2 3 (U3 2 [iI 0,iI 0,iI (-9:Int),iI 9,iI (-9:Int),iI 9])
theorem pK(nr nb nc ns:Nat)(fr fb fc fs:Nat->List AV)(pl ph:Int):DH VL 46 [.agg [.lst 4 nr fr,i pl,i ph,.lst 3 nb fb,.lst 5 nc fc,.lst 5 ns fs]] (.agg [ofs,i 1,.lst 3 nb fb]):=by
 refine HE (L:=[]) Aa Ad VW Tryz.func46 (UR Tryz.f46) UV (t:=leaf (agg [J8,iI 1,lst 3 nb λa=>fb a])) VQ ?_;simp only [VJ.sat,DV,B1,UB,UE];all_goals exact V3
theorem RA:L2 VL 46 xT:=by
 refine ⟨(UC Tryz.func46),?_⟩;intro avs ns res h hn;unfold xT at h;split at h;cases h;exact pK _ _ _ _ _ _ _ _ _ _;cases h
def M7:UU
 |[.agg [.lst 4 nr fr,.x (.int .i64 pl),.x (.int .i64 ph),.lst 3 nb fb,.lst 5 nc fc,.lst 5 ns fs]]=>some ([],.agg [i 4,i 10,.lst 5 ns fs])
 |_=>none
theorem Qp9(nr nb nc ns:Nat)(fr fb fc fs:Nat->List AV)(pl ph:Int):DH VL 39 [.agg [.lst 4 nr fr,i pl,i ph,.lst 3 nb fb,.lst 5 nc fc,.lst 5 ns fs]] (.agg [i 4,i 10,.lst 5 ns fs]):=by
 refine HE (L:=[]) Aa Ad VW Tryz.func39 (UR Tryz.f39) UV (t:=leaf (agg [iI 4,iI 10,lst 5 ns λa=>fs a])) VQ ?_;simp only [VJ.sat,DV,B1,UB,UE];all_goals exact V3
theorem LV:L2 VL 39 M7:=by
 refine ⟨(UC Tryz.func39),?_⟩;intro avs ns res h hn;unfold M7 at h;split at h;cases h;exact Qp9 _ _ _ _ _ _ _ _ _ _;cases h
noncomputable def mW:HY:=rX Tryz.prog [] {} [] Tryz.f67 (U5 Tryz.f67)
theorem I9:G8 VL 67 mW:=
 RH (G:=[]) (X:=WC) (L:=[]) Aa Ad VW (UC Tryz.func67) Tryz.func67 (UR Tryz.f67) U0
def U2(w:ByteArray)(V:Nat->ByteArray):Nat->ByteArray
 | 0=>w
 |k+1=>V k
def UM(q:Nat):ByteArray:=wdL.getD q ByteArray.empty
def vK(str:ByteArray)(n:Nat)(W:Nat->ByteArray):Prop:=str.size<100000/\Lib.countB str ⟨#[32]⟩+1=n/\(∀k,k<n->(spl str ⟨#[32]⟩).getD k ByteArray.empty=W k)/\ ∀k,(W k).size<=100000
def MW(s str sep:ByteArray):Prop:=s=str/\sep=⟨#[32]⟩
def Qi1(str:ByteArray)(n:Nat)(W:Nat->ByteArray):UU
 |[.x (.string s),.x (.string sep)]=>some ([MW s str sep],.lst 1 n (λk=>[.x (.string (W k))]))
 |_=>none
theorem L7{str:ByteArray}{n:Nat}{W:Nat->ByteArray}(h:vK str n W):VM VL 143 (Qi1 str n W):=by
 refine ⟨(UC Tryz.func143),?_⟩;intro avs ns res hh hn;unfold Qi1 at hh;split at hh;cases hh;obtain ⟨e1,e2⟩:=hn _ GB;rw [e1,e2];have h1:=Qz9 str ⟨#[32]⟩ (by have:=h.1;omega) (by decide)
 rw [h.2.1] at h1;intro e w args hro hgl FK hr;refine (h1 e w args hro hgl FK hr).mono ?_;rintro en w' ⟨v,rfl,hb,GF⟩;exact ⟨v,rfl,hb,LN (a:= .lst 1 n _) (b:= .lst 1 n _) ⟨rfl,rfl,λk hk=>by rw [h.2.2.1 k hk]⟩ GF⟩
 cases hh
abbrev Y6(s:HS):GW:=[(0,.cells 99 [.top,.top,.top,.top,.top,.top]),(1,.row 23 1 s.xn s.xg),(2,.row 9 1 s.yn s.yg)]
def PE_(s:HS):St:={σ:=mkS 48 [],m:=(Y6 s),nx:=904,sv:=[[.ptr 0 0,.row 1,.row 2]] }
section
variable (W:Nat->ByteArray)(n:Nat)
def nuB:Bool:=HW (λj=>MT (W (1+j))) (n-1)
def Xb3(mk:Int)(fk:Nat)(s:HS):St:={σ:=mkS 48 [(0,.ptr 0 0),(4,.lst 1 n (λk=>[.x (.string (W k))])),(5,.ptr 903 0),(7,.row 902),(31,.lst 1 (n-1) (λj=>[.x (.string (W (1+j)))])),(32,i ((n-1:Nat):Int)),(33,.top)],m:=[(902,.row 3 1 (0) (λj=>[i (VX (W (1+j)))])),(903,.cells 260 [i mk,.fn (.func fk) [] []]),(0,.cells 99 (hsL s)),(1,.row 23 1 s.xn s.xg),(2,.row 9 1 s.yn s.yg)],nx:=904,sv:=[[.ptr 0 0,.row 1,.row 2]] }
noncomputable def N6:Code:=U7 (VP (U5 Tryz.f106) 0)
def Wi6(mk:Int)(fk:Nat)(s:HS)(k:Nat):St:={σ:=H0 [(33,i k)] (Xb3 W n mk fk s).σ,m:=[(902,.row 3 1 (k) (λj=>[i (VX (W (1+j)))])),(903,.cells 260 [i mk,.fn (.func fk) [] []]),(0,.cells 99 (hsL s)),(1,.row 23 1 s.xn s.xg),(2,.row 9 1 s.yn s.yg)],nx:=(Xb3 W n mk fk s).nx,sv:=[[.ptr 0 0,.row 1,.row 2]] }
def T9(mk:Int)(fk:Nat)(s:HS):PEx->Option St:=λex=>match ex with
 | .x (.exit 0)=>some {σ:=H0 [(33,i ((n-1:Nat):Int))] (Xb3 W n mk fk s).σ,m:=[(902,.row 3 1 (n-1) (λj=>[i (VX (W (1+j)))])),(903,.cells 260 [i mk,.fn (.func fk) [] []]),(0,.cells 99 (hsL s)),(1,.row 23 1 s.xn s.xg),(2,.row 9 1 s.yn s.yg)],nx:=(Xb3 W n mk fk s).nx,sv:=[[.ptr 0 0,.row 1,.row 2]] }
 | .pan _=>some (PE_ s)
 |_=>none
def Jl5(mk:Int)(fk:Nat)(s:HS):PT:= .branch (nuB W n) (.leaf (.x (.exit 0),(T9 W n mk fk s (.x (.exit 0))).getD (Xb3 W n mk fk s))) (.leaf (.pan (IO 211 (.int .i64 4)),PE_ s))
def yU(mk:Int)(fk:Nat)(s:HS):PF:=TN [(.slot 5,903,260,2),(.slot 7,902,3,1)] (Zc7 (Wi6 W n mk fk s (0)) (Jl5 W n mk fk s))
end
section
variable (s:HS)
abbrev XH:Prop:=(hR s.nr s)=hR s.nr s
abbrev XN:Prop:=(hC s.nc s)=hC s.nc s
abbrev XO:Prop:=(hT s.ns s)=hT s.ns s
abbrev XW:Prop:=(hY s.nb s)=hY s.nb s
abbrev JO:Prop:=s.pl=s.pl
abbrev JP:Prop:=s.ph=s.ph
end
abbrev JU:Prop:=AV.row 1=AV.row 1
abbrev JV:Prop:=AV.row 2=AV.row 2
abbrev KG(n:Nat)(W:Nat->ByteArray):AV:=lst 1 (n-1) λj=>[FL (W (1+j))]
abbrev KL(s:HS):Prop:=s.xn=s.xn
abbrev KM(s:HS):Prop:=s.yn=s.yn
abbrev YE(n:Nat)(W:Nat->ByteArray):AV:=lst 1 n λk=>[FL (W k)]
theorem uZ(W:Nat->ByteArray)(n:Nat)(mk:Int)(fk:Nat)(s:HS)(VO: ∀k,(W k).size<=100000)(UD:n<=100000): ∀ro cx,LT Tryz.prog ro cx (.loop N6) (yU W n mk fk s):=by
 refine TS [(.slot 5,903,260,2),(.slot 7,902,3,1)] (PX:=[(145,FZ),(146,jA)]) (L:=[]) Aa Ad (UQ.cons RL (UQ.cons wL (UQ.nil _))) VW (λj cj _ sp hsp=>by simp at hsp) (V:=Nat) (Wi6 W n mk fk s) (λk=>k<=n-1/\ ∀j,j<k->MT (W (1+j))=true) (λk=>n-1-k) (λ_=>T9 W n mk fk s) (x0:=0) ⟨Ao _,λj h=>absurd h (Aq _)⟩ ?_ ?_ ?_
 rintro k;kernel_rfl;rintro k y E h;unfold T9 at h;split at h;cases h;kernel_rfl;cases h;kernel_rfl;cases h;rintro Q hQ k hx;refine ⟨(k+1),?_⟩;(with_reducible refine DA (t:=branch (decide ((k:Int)<(↑(n-1):Int))) (need [UG k (↑(n-1):Int)] (need [ByteArray.size (W (1+k))<=100000] (branch (MT (W (1+k))) (need [(k+1)*8<=140737488355328,RQ 1 (U3 1 [iI (VX (W (1+k)))])] (need [VI ((k:Int)+1)] (need [QO,VU (YE n W),ZP,WI,VU (KG n W),VU (↑(n-1):Int),(k:Int)+1=(↑(k+1):Int),k+1=k+1,GR (k+1) (GE k (λj=>[iI (VX (W (1+j)))]) (U3 1 [iI (VX (W (1+k)))])) (λi=>[iI (VX (W (1+i)))]),mk=mk,VU (AV.fn (Fn.func fk) [] []),XH s,JO s,JP s,XW s,XN s,XO s,KL s,∀(i:Nat),i<s.xn->s.xg i=s.xg i,KM s,∀(i:Nat),i<s.yn->s.yg i=s.yg i,QO,JU,JV] (leaf (PEx.x G4.normal))))) (need [KL s,∀(i:Nat),i<s.xn->s.xg i=s.xg i,KM s,∀(i:Nat),i<s.yn->s.yg i=s.yg i,QO,JU,JV] (leaf (PEx.pan (Value.iface 211 (Value.agg {toList:=[Value.int IntKind.i64 (4:Int)] })))))))) (need [QO,VU (YE n W),ZP,WI,VU (KG n W),VU (↑(n-1):Int),(k:Int)=(↑(n-1):Int),k=n-1,∀(i:Nat),i<n-1->[iI (VX (W (1+i)))]=[iI (VX (W (1+i)))],mk=mk,VU (AV.fn (Fn.func fk) [] []),XH s,JO s,JP s,XW s,XN s,XO s,KL s,∀(i:Nat),i<s.xn->s.xg i=s.xg i,KM s,∀(i:Nat),i<s.yn->s.yg i=s.yg i,QO,JU,JV] (leaf (PEx.x (G4.exit 0))))) VQ ?_)
 simp only [Jl5,T9,VJ.sat,GQ] at hQ;obtain ⟨A,I⟩:=hx;simp only [VJ.sat,U8,UE,H6,VI]
 have hc1: ∀x:Int,∀(j:Nat),j<1-> ∀y,y∈U3 1 [iI x] j->AV.one y=true:=λx j _ y hy=>FM hy (by simp [AV.one,Value.oneCell'])
 refine ⟨λh=>?_,λh=>?_⟩;have hk:k<n-1:=VG;refine ⟨⟨VG,VG⟩,VO _,λhb=>?_,λhb=>?_⟩;have HV: ∀j,j<k+1->MT (W (1+j))=true:=by
  intro j hj;rcases (show j<k\/j=k by omega) with h1|rfl
  exact I j h1;exact hb
 have I2: ∀j,j<k+1->GE k (λj=>[i (VX (W (1+j)))]) (U3 1 [iI (VX (W (1+k)))]) j=[i (VX (W (1+j)))]:=by
  intro j hj;show H9 (decide (j<k)) _ (U3 1 _ (j-k))=_;rw [show j-k=0 by omega]
  rcases (show j<k\/j=k by omega) with h1|rfl
  rw [decide_eq_true h1];rfl;rw [show decide (j<j)=false by simp]
  rfl
 refine ⟨⟨VG,hc1 _⟩,VG,⟨VG,I2,λ_ _=>trivial,λ_ _=>trivial⟩,⟨VG,HV⟩,VG⟩;have hno:nuB W n=false:=by
  rw [Cb];intro h2;have:=GI.1 h2 k hk;rw [hb] at this;cases this
 refine ⟨⟨λ_ _=>trivial,λ_ _=>trivial⟩,λE hE=>?_⟩;cases hE;exact hQ.2 hno
 ·have hk:k=n-1:=VG;subst hk;have Wl2:nuB W n=true:=GI.2 I
  (with_reducible repeat' first|apply Al|intro _)
  all_goals first|exact Ak|rfl|(rename_i E hE;cases hE;exact hQ.1 Wl2)|trivial
def OS(s:HS):St:={σ:=[],m:=[(0,.cells 99 (hsL s)),(1,.row 23 1 s.xn s.xg),(2,.row 9 1 s.yn s.yg)],nx:=3000,sv:=[[.ptr 0 0,.row 1,.row 2]] }
def OX(s:HS):St:={σ:=[],m:=(Y6 s),nx:=3000,sv:=[[.ptr 0 0,.row 1,.row 2]] }
def rsE(e:Int):Bool×Int:=(decide (e=0),e)
def fmE(W:Nat->ByteArray)(n many:Nat)(e:Int):Int:=if n=many+1/\nuB W n=true then e else 4
def voE(s:HS)(x:Int):Int:=if bt 0 x ((s.nc:Int)-1)=true/\s.cv x.toNat=false then 0 else 7
def voS(s:HS)(x:Int):HS:={s with cv:=λk=>if (k:Int)=x then true else s.cv k}
theorem LA{P:Program}{c:Code}{sp0:PF}(h: ∀cj,VP c 0=some cj-> ∀ro cx,LT P ro cx cj sp0): ∀j cj,VP c j=some cj-> ∀sp,[sp0][j]? =some sp-> ∀ro cx,LT P ro cx cj sp:=by
 intro j cj hj sp hsp
 match j with
 | 0=>
  simp at hsp;subst hsp;exact h cj hj
 |j+1=>simp at hsp
theorem s7(s sep:ByteArray)(h:1<=sep.size):Lib.countB s sep<=s.size:=Lib.countB_le sep h s.size s (Am _)
theorem B0{str:ByteArray}{n:Nat}{W:Nat->ByteArray}(h:vK str n W):n<=100000:=by
 have h1:=s7 str ⟨#[32]⟩ (by decide)
 have h2:=h.1;have h3:=h.2.1;omega
def tI:HY:=Wo7 b9
theorem Wn9:G8 VL 100 tI:=C2 iR
theorem DF(a b c d e f:AV):H5 [a,b,c,d,e,f] [.top,.top,.top,.top,.top,.top]:=by
 have h: ∀a,dP a .top:=λa=>by cases a<;>trivial
 exact ⟨h a,h b,h c,h d,h e,h f,trivial⟩
theorem uV{sz n:Nat}{f:Nat->List AV}(h: ∀i,i<n-> ∀x∈f i,Idf x/\DV x x):dP (.lst sz n f) (.lst sz n f):=by
 refine ⟨rfl,rfl,λi O=>⟨?_,λx hx=>(h i O x hx).1⟩⟩;have: ∀l:List AV,(∀x∈l,DV x x)->B1 l l:=by
  intro l
  induction l with
  |nil=>intro _;trivial
  |cons a l ih=>intro hh;exact ⟨hh a GB,ih λx hx=>hh x (HM _ hx)⟩
 exact this _ λx hx=>(h i O x hx).2
theorem P5(n:Int):Idf (i n)/\DV (i n) (i n):=⟨.x _,by simp [DV,UB]⟩
theorem zG(n:Int):dP (i n) (i n):=(P5 n).2
theorem B2(s:HS):dP (hsR s) (hsR s):=uV λk _ x hx=>by
 simp only [GK,DP,or_false] at hx;rcases hx with rfl|rfl|rfl|rfl<;>exact P5 _
theorem P7(s:HS):dP (hsS s) (hsS s):=uV λk _ x hx=>by
 simp only [GK,DP,or_false] at hx;rcases hx with rfl|rfl|rfl|rfl|rfl<;>exact P5 _
theorem B4(s:HS):dP (hsC s) (hsC s):=uV λk _ x hx=>by
 simp only [GK,DP,or_false] at hx;rcases hx with rfl|rfl|rfl|rfl|rfl<;>first|exact P5 _|exact ⟨.x _,by simp [DV,UB]⟩
theorem B5(s:HS):dP (hsB s) (hsB s):=uV λk _ x hx=>by
 simp only [GK,DP,or_false] at hx;rcases hx with rfl|rfl|rfl;exact P5 _;exact P5 _;refine ⟨.lst _ _ _ λj _ a ha=>?_,rfl,rfl,λ_ _=>rfl⟩;simp only [GK,DP,or_false] at ha;rcases ha with rfl|rfl<;>exact .x _
section
variable {W:Nat->ByteArray}{n many:Nat}
theorem Wa8{e:Int}(h: ¬(n=many+1/\nuB W n=true)):(false,(4:Int))=rsE (fmE W n many e):=by
 unfold fmE;rw [if_neg h];rfl
theorem F4{e k:Int}(h1:n=many+1)(h2:nuB W n=true)(h:e=k)(hk:k≠0):(false,k)=rsE (fmE W n many e):=by
 unfold fmE rsE;rw [if_pos ⟨h1,h2⟩,h,decide_eq_false hk]
theorem uI{e:Int}(h1:n=many+1)(h2:nuB W n=true)(h:e=0):(true,(0:Int))=rsE (fmE W n many e):=by
 unfold fmE rsE;rw [if_pos ⟨h1,h2⟩,h];rfl
end
noncomputable abbrev Qi8:DU:=rW Tryz.prog [(36,RJ)] {R:=[],H:=[(100,tI)] } [(145,FZ)] [] Tryz.f180 (U5 Tryz.f180)
theorem Qo6:D2 VL 180 (Qi8):=
 FN (G:=[(36,RJ)]) (X:={R:=[],H:=[(100,tI)] }) (PX:=[(145,FZ)]) (L:=[]) (Ae PO Aa) (Ai Ab (Ag Wn9 Ac)) (UQ.cons RL (UQ.nil _)) VW (UC Tryz.func180) Tryz.func180 (UR Tryz.f180) (λj cj _ sp hsp=>by simp at hsp)
abbrev Q5:List AV:=[ptr 0 0,AV.row 1,AV.row 2]
abbrev QA(s:HS):Prop:=((23:TypeId),1,s.xn,s.xg)=((23:TypeId),1,s.xn,s.xg)
abbrev QB(s:HS):Prop:=((9:TypeId),1,s.yn,s.yg)=((9:TypeId),1,s.yn,s.yg)
abbrev QT:List AV:=[top,top,top,top,top,top]
abbrev X7(s:HS):GW:=[(0,.cells 99 (hsL s)),(1,.row 23 1 s.xn s.xg),(2,.row 9 1 s.yn s.yg)]
theorem V5{p:Prop}(h:p:=by
 refine ⟨DF _ _ _ _ _ _,Wa8 λh=>?_⟩;rw [h.2] at h5;cases h5):p:=h
theorem V4{p:Prop}(h:p:=by
 refine ⟨DF _ _ _ _ _ _,Wa8 λh=>?_⟩;have:=h.1;simp at h4;omega):p:=h
theorem Xf4(V:Nat->ByteArray)(n:Nat)(str:ByteArray)(s:HS)(VO:vK str n (U2 (UM 6) V))(UD:s.nc<=10):wF VL 106 [.ptr 0 0,.x (.string str)] (X7 s) 901 [[.ptr 0 0,.row 1,.row 2]] 211 (OS (voS s (VX (V 0)))) (OX s) (rsE (fmE (U2 (UM 6) V) n 1 (voE s (VX (V 0))))):=by
 refine LE (PX:=[(145,FZ),(146,jA),(180,Qi8)]) (L:=[yU (U2 (UM 6) V) n 1 180 s]) (Ae (L7 VO) (Ae wD Aa)) Ad (UQ.cons RL (UQ.cons wL (UQ.cons Qo6 (UQ.nil _)))) VW (UC Tryz.func106) Tryz.func106 (UR Tryz.f106) (LA (lpE (b:= .loop N6) VQ<|uZ (U2 (UM 6) V) n 1 180 s VO.2.2.2 (B0 VO))) (N:=[(.cell 0 4,0,0,0)]) (t:=let z0:=(VX (U2 (UM 6) V 1));let z1:=(U2 (UM 6) V (0:Int).toNat);let z2:=(need [[Q5]=[Q5],H5 (hL s) QT,QA s,QB s] (leaf (false,(4:Int))));let z3:=(need [[Q5]=[Q5],H5 (hL s) QT,QA s,QB s] (leaf (false,(7:Int))));let z4:=(VX (U2 (UM 6) V (1+(0:Int).toNat)));(need [MW str str {data:=#[32] }] (need [UG 0 n] (branch (wdO z1) (need [VI (wdM (wdK z1)+1)] (branch (!(n:Int)==wdM (wdK z1)+1) z2 (need [(0:Int)<=1/\(1:Int)<=(n:Int)/\(n:Int)<=(n:Int)] (need [QO,VU (lst 1 n λk=>[FL (U2 (UM 6) V k)]),ZP,WI,(lst 1 (n-(1:Int).toNat) λi=>[AV.x (.string (U2 (UM 6) V ((1:Int).toNat+i)))])=lst 1 (n-1) λj=>[FL (U2 (UM 6) V (1+j))],(↑(n-(1:Int).toNat):Int)=(↑(n-1):Int),(0:Int)=(↑(0:Nat):Int),0=0,∀(i:Nat),i<0->[]=[iI (VX (U2 (UM 6) V (1+i)))],wdM (wdK z1)=1,VU (AV.fn (Fn.func 180) [] []),XH s,JO s,JP s,XW s,XN s,XO s,KL s,∀(i:Nat),i<s.xn->s.xg i=s.xg i,KM s,∀(i:Nat),i<s.yn->s.yg i=s.yg i,QO,JU,JV] (branch (nuB (U2 (UM 6) V) n) (need [UG 0 (↑(n-1):Int)] (need [(0:Int).toNat<n-1] (need [VI ((↑s.nc:Int)-1)] (branch (bt (0:Int) z0 ((↑s.nc:Int)-1)) (need [UG 0 (↑(n-1):Int)] (need [(0:Int).toNat<n-1] (need [UG (VX (U2 (UM 6) V 1)) s.nc] (branch (!!s.cv (Int.toNat z0)) z3 (need [s.nc<=100000,gdX 5 s.nc λk=>[i (s.ca k),i (s.cb k),i (s.cc k),i (s.cd k),bl (s.cv k)]] (need [UG 0 (↑(n-1):Int)] (need [(0:Int).toNat<n-1] (need [UG (VX (U2 (UM 6) V 1)) s.nc] (need [Int.toNat z0<s.nc] (need [[Q5]=[Q5],H5 [hR s.nr s,iI s.pl,iI s.ph,hY s.nb s,lst 5 s.nc λk=>iI (if decide (k=Int.toNat z0)=true then s.ca k else s.ca k)::iI (if decide (k=Int.toNat z0)=true then s.cb k else s.cb k)::iI (if decide (k=Int.toNat z0)=true then s.cc k else s.cc k)::iI (if decide (k=Int.toNat z0)=true then s.cd k else s.cd k)::Bool.rec (bl (s.cv k)) (AV.lit true) (decide (k=Int.toNat z4))::Bool.rec ([]) ([]) (decide (k=Int.toNat z4)),hT s.ns s] (hL (voS s (VX (V 0)))),((23:TypeId),1,s.xn,s.xg)=((23:TypeId),1,(voS s (VX (V 0))).xn,(voS s (VX (V 0))).xg),((9:TypeId),1,s.yn,s.yg)=((9:TypeId),1,(voS s (VX (V 0))).yn,(voS s (VX (V 0))).yg)] (leaf (true,(0:Int))))))))))))) z3)))) (need [[Q5]=[Q5],H5 QT QT,QA s,QB s] (leaf (false,(4:Int))))))))) z2)))) VQ ?_
 have hw:wdO (U2 (UM 6) V (Int.toNat 0))=true:=VQ;have hm:wdM (wdK (U2 (UM 6) V (Int.toNat 0)))=1:=VQ;have hn1:1<=n:=by have:=VO.2.1;omega
 have hnl:=B0 VO;simp only [VJ.sat,U8,UE,hm,hw,true_imp_iff];refine ⟨⟨rfl,rfl⟩,⟨VG,VG⟩,⟨by simp only [VI];omega,λh4=>?_,λh4=>?_⟩,λh=>by cases h⟩
 exact V4
 ·have hN:n=1+1:=by
   simp at h4;omega
  refine ⟨⟨VG,VG,VG⟩,?_,λh5=>?_,λh5=>?_⟩
  rotate_left 2
  exact V5
  ·all_goals exact yI
  have hk1:n-1=1:=VG;have hx:VX (U2 (UM 6) V 1)=VX (V 0):=rfl;rw [hk1];simp only [hx,VI,bt_iff,Int.toNat_zero];have hgd:gdX 5 s.nc (λk=>[i (s.ca k),i (s.cb k),i (s.cc k),i (s.cd k),bl (s.cv k)]):=λk _=>⟨rfl,λx hx=>by
   simp only [GK,DP,or_false] at hx;rcases hx with rfl|rfl|rfl|rfl|rfl<;>exact ⟨Ak,by simp [AV.one,Value.oneCell']⟩⟩
  refine ⟨VG,VG,VG,λhb=>⟨VG,VG,VG,λh6=>⟨DF _ _ _ _ _ _,F4 hN h5 ?_ (by decide)⟩,λh6=>⟨⟨VG,hgd⟩,VG,VG,VG,VG,⟨⟨B2 s,zG _,zG _,B5 s,?_,P7 s,trivial⟩,rfl,rfl⟩,uI hN h5 ?_⟩⟩,λhb=>⟨DF _ _ _ _ _ _,F4 hN h5 ?_ (by decide)⟩⟩
  unfold voE;rw [if_neg (λh=>by rw [h.2] at h6;cases h6)]
  refine ⟨rfl,rfl,λk hk=>?_⟩;have e1:(voS s (VX (V 0))).cv k=if k=(VX (V 0)).toNat then true else s.cv k:=by
   show (if (k:Int)=VX (V 0) then true else s.cv k)=_
   by_cases h:k=(VX (V 0)).toNat;rw [if_pos h,if_pos VG];rw [if_neg h,if_neg VG]
  refine ⟨?_,λx hx=>?_⟩;by_cases h:k=(VX (V 0)).toNat
  dsimp only
  rw [decide_eq_true h];refine ⟨(P5 _).2,(P5 _).2,(P5 _).2,(P5 _).2,?_,trivial⟩;rw [e1,if_pos h];exact rfl
  dsimp only
  rw [decide_eq_false h];refine ⟨(P5 _).2,(P5 _).2,(P5 _).2,(P5 _).2,?_,trivial⟩;rw [e1,if_neg h];simp [DV,UB];simp only [GK,DP,or_false] at hx;rcases hx with rfl|rfl|rfl|rfl|rfl<;>exact .x _;unfold voE;rw [if_pos ⟨(bt_iff _ _ _).2 hb,by simpa using h6⟩]
  unfold voE;rw [if_neg (λh=>by
   have:=(bt_iff _ _ _).1 h.1;rw [←bt_iff,hb] at this;cases this)]
section
variable (s:HS)
def inE:Int:=rdE 4 100 20 30 s.nr s.ra s.rb s.ru s.rv 3 tbP tbQ s.pl s.ph 1 3
def baS(x0 A:Int):HS:={s with pl:=x0,ph:=A}
def baE(x0 A:Int):Int:=if inE (baS s x0 A)=0 then 0 else 2
def btS(x0 A:Int):HS:={s with nb:=s.nb+1,ql:=H3 s.nb s.ql x0,qh:=H3 s.nb s.qh A,qm:=λk=>if k<s.nb then s.qm k else 0}
def btE(x0 A:Int):Int:=if bt 0 x0 A=true/\A<=1000 then (if s.nb<6 then 0 else 3) else 2
def isS(x0 A I Z:Int):HS:={s with nc:=s.nc+1,ca:=H3 s.nc s.ca x0,cb:=H3 s.nc s.cb A,cc:=H3 s.nc s.cc I,cd:=H3 s.nc s.cd Z,cv:=apB s.nc s.cv false}
def isE(x0 A I Z:Int):Int:=if asE 4 100 20 30 s.nr s.ra s.rb s.ru s.rv 3 tbP tbQ s.pl s.ph 1 3 x0 A I Z=0 then (if s.nc<10 then (if kpB 4 100 20 30 s.nr s.ra s.rb s.ru s.rv 3 tbP tbQ s.pl s.ph 1 3 x0 A I Z=true then 0 else 10) else 3) else 2
end
theorem hsI{s:HS}:U9 4 s.nr (λk=>[Bo.i (s.ra k),Bo.i (s.rb k),Bo.i (s.ru k),Bo.i (s.rv k)])/\U9 2 3 (λk=>[i (tbP k),i (tbQ k)]):=⟨Bo.isRec4 _ _ _ _ _,Pt.isRec2 _ _ _⟩
noncomputable abbrev Qj1:DU:=rW Tryz.prog [(17,DO)] {R:=[(44,L3)],H:=[] } [(145,FZ)] [] Tryz.f176 (U5 Tryz.f176)
theorem Qq0:D2 VL 176 (Qj1):=
 FN (G:=[(17,DO)]) (X:={R:=[(44,L3)],H:=[] }) (PX:=[(145,FZ)]) (L:=[]) (Ae F9 Aa) (Ai (Af F6 Ab) Ac) (UQ.cons RL (UQ.nil _)) VW (UC Tryz.func176) Tryz.func176 (UR Tryz.f176) (λj cj _ sp hsp=>by simp at hsp)
abbrev YA(s:HS)(V:Nat->ByteArray):List AV:=[hR s.nr s,iI (VX (U2 (UM 2) V 1)),iI (VX (U2 (UM 2) V 2)),hY s.nb s,hC s.nc s,hT s.ns s]
theorem Xf7(V:Nat->ByteArray)(n:Nat)(str:ByteArray)(s:HS)(VO:vK str n (U2 (UM 2) V)):wF VL 106 [.ptr 0 0,.x (.string str)] (X7 s) 901 [[.ptr 0 0,.row 1,.row 2]] 211 (OS (baS s (VX (V 0)) (VX (V 1)))) (OX s) (rsE (fmE (U2 (UM 2) V) n 2 (baE s (VX (V 0)) (VX (V 1))))):=by
 refine LE (PX:=[(145,FZ),(146,jA),(176,(Qj1))]) (L:=[yU (U2 (UM 2) V) n 2 176 s]) (Ae (L7 VO) (Ae wD Aa)) Ad (UQ.cons RL (UQ.cons wL (UQ.cons (Qq0) (UQ.nil _)))) VW (UC Tryz.func106) Tryz.func106 (UR Tryz.f106) (LA (lpE (b:= .loop N6) VQ<|uZ (U2 (UM 2) V) n 2 176 s VO.2.2.2 (B0 VO))) (N:=[]) (t:=let z0:=(baS s (VX (V 0)) (VX (V 1)));let z1:=(U2 (UM 2) V (0:Int).toNat);let z2:=(need [[Q5]=[Q5],H5 (hL s) QT,QA s,QB s] (leaf (false,(4:Int))));(need [MW str str {data:=#[32] }] (need [UG 0 n] (branch (wdO z1) (need [VI (wdM (wdK z1)+1)] (branch (!(n:Int)==wdM (wdK z1)+1) z2 (need [(0:Int)<=1/\(1:Int)<=(n:Int)/\(n:Int)<=(n:Int)] (need [QO,VU (lst 1 n λk=>[FL (U2 (UM 2) V k)]),ZP,WI,(lst 1 (n-(1:Int).toNat) λi=>[AV.x (.string (U2 (UM 2) V ((1:Int).toNat+i)))])=lst 1 (n-1) λj=>[FL (U2 (UM 2) V (1+j))],(↑(n-(1:Int).toNat):Int)=(↑(n-1):Int),(0:Int)=(↑(0:Nat):Int),0=0,∀(i:Nat),i<0->[]=[iI (VX (U2 (UM 2) V (1+i)))],wdM (wdK z1)=2,VU (AV.fn (Fn.func 176) [] []),XH s,JO s,JP s,XW s,XN s,XO s,KL s,∀(i:Nat),i<s.xn->s.xg i=s.xg i,KM s,∀(i:Nat),i<s.yn->s.yg i=s.yg i,QO,JU,JV] (branch (nuB (U2 (UM 2) V) n) (need [UG 0 (↑(n-1):Int)] (need [(0:Int).toNat<n-1] (need [UG 1 (↑(n-1):Int)] (need [(1:Int).toNat<n-1] (need [U9 4 s.nr λk=>[Bo.i (s.ra k),Bo.i (s.rb k),Bo.i (s.ru k),Bo.i (s.rv k)],U9 2 3 λk=>[i (tbP k),i (tbQ k)]] (branch (!rdE (4:Int) (100:Int) (20:Int) (30:Int) s.nr (s.ra) (s.rb) (s.ru) (s.rv) 3 tbP tbQ (VX (U2 (UM 2) V 1)) (VX (U2 (UM 2) V 2)) (1:Int) (3:Int)==0) (need [[Q5]=[Q5],H5 (YA s V) QT,QA s,QB s] (leaf (false,(2:Int)))) (need [[Q5]=[Q5],H5 (YA s V) (hL z0),((23:TypeId),1,s.xn,s.xg)=((23:TypeId),1,z0.xn,z0.xg),((9:TypeId),1,s.yn,s.yg)=((9:TypeId),1,z0.yn,z0.yg)] (leaf (true,(0:Int)))))))))) (need [[Q5]=[Q5],H5 QT QT,QA s,QB s] (leaf (false,(4:Int))))))))) z2)))) VQ ?_
 have hw:wdO (U2 (UM 2) V (Int.toNat 0))=true:=VQ;have hm:wdM (wdK (U2 (UM 2) V (Int.toNat 0)))=2:=VQ;have hn1:1<=n:=by have:=VO.2.1;omega
 have hnl:=B0 VO;simp only [VJ.sat,U8,UE,hm,hw,true_imp_iff];refine ⟨⟨rfl,rfl⟩,⟨VG,VG⟩,⟨by simp only [VI];omega,λh4=>?_,λh4=>?_⟩,λh=>by cases h⟩
 exact V4
 ·have hN:n=2+1:=by
   simp at h4;omega
  refine ⟨⟨VG,VG,VG⟩,?_,λh5=>?_,λh5=>?_⟩
  rotate_left 2
  exact V5
  ·all_goals exact yI
  have hk1:n-1=2:=VG;rw [hk1];simp only [VI,Int.toNat_zero];refine ⟨VG,VG,VG,by decide,hsI,λh6=>⟨DF _ _ _ _ _ _,F4 hN h5 ?_ (by decide)⟩,λh6=>⟨⟨⟨B2 s,zG _,zG _,B5 s,B4 s,P7 s,trivial⟩,rfl,rfl⟩,uI hN h5 ?_⟩⟩
  unfold baE;simp at h6;exact if_neg h6;unfold baE;simp at h6;exact if_pos h6
noncomputable def fL:HY:=rX Tryz.prog [] {} [] Tryz.f209 (U5 Tryz.f209)
theorem iS:G8 VL 209 fL:=
 RH (G:=[]) (X:=WC) (L:=[]) Aa Ad VW (UC Tryz.func209) Tryz.func209 (UR Tryz.f209) U0
noncomputable def Jo3:HY:=Wk7 Tryz.prog (Qe3 Tryz.prog [] {R:=[],H:=[(209,fL)] } []) Tryz.f206 (U5 Tryz.f206)
theorem Xh5:G8 VL 206 Jo3:=by
 have hX: ∀cx,VT VL {R:=[],H:=[(209,fL)] } cx:=(Ai Ab (Ag iS Ac));exact pG (L:=[]) (λcx=>Ws2 (G:=[]) (X:={R:=[],H:=[(209,fL)] }) Aa (hX cx) VW) (UC Tryz.func206) Tryz.func206 (UR Tryz.f206) U0
abbrev WQ(n:Nat)(U:Nat->Int)(O:Nat->Int)(m:Nat->Nat)(r:Nat->Nat->Int)(v:Nat->Nat->Int)(x0:Int)(A:Int):AV:=lst 3 (0+n+1) (GE (0+n) (GE 0 (λx=>[]) λk=>[iI (U k),iI (O k),lst 2 (m k) λk_1=>[iI (r k k_1),iI (v k k_1)]]) (U3 3 [iI x0,iI A,Q9]))
abbrev J0(x0:Int)(A:Int):AV:=lst 3 1 (GE 0 (λx=>[]) (U3 3 [iI x0,iI A,Q9]))
section
variable (n:Nat)(U O:Nat->Int)(m:Nat->Nat)(r v:Nat->Nat->Int)
theorem Zk6(x0 A:Int)(VO:n<=100000):UH VL 206 [.lst 3 n (λk=>[i (U k),i (O k),rdl (m k) (r k) (v k)]),.agg [i x0,i A,.x (.slice none 0 0)]] (.leaf (.lst 3 (n+1) (λk=>[i (H3 n U x0 k),i (H3 n O A k),rdl (if k<n then m k else 0) (r k) (v k)]))):=by
 refine SP Xh5 (t:=VJ.may True (VJ.may True (VJ.may (n=0) (need [40<=140737488355328,RQ 1 (U3 3 [iI x0,iI A,Q9])] (leaf (J0 x0 A))) (need [(0+n)*40<=140737488355328,∀(i:Nat),i<n-> ∀(a:AV),a∈[iI (U i),iI (O i),rdl (m i) (r i) (v i)]->AV.one a=true] (need [(0+n+1)*40<=140737488355328,RQ 1 (U3 3 [iI x0,iI A,Q9])] (leaf (WQ n U O m r v x0 A))))) (VJ.may True (VJ.may (n=0) (need [40<=140737488355328,RQ 1 (U3 3 [iI x0,iI A,Q9])] (leaf (J0 x0 A))) (need [(0+n)*40<=140737488355328,∀(i:Nat),i<n-> ∀(a:AV),a∈[iI (U i),iI (O i),rdl (m i) (r i) (v i)]->AV.one a=true] (need [(0+n+1)*40<=140737488355328,RQ 1 (U3 3 [iI x0,iI A,Q9])] (leaf (WQ n U O m r v x0 A))))) (VJ.may (n=0) (need [40<=140737488355328,RQ 1 (U3 3 [iI x0,iI A,Q9])] (leaf (J0 x0 A))) (need [(0+n)*40<=140737488355328,∀(i:Nat),i<n-> ∀(a:AV),a∈[iI (U i),iI (O i),rdl (m i) (r i) (v i)]->AV.one a=true] (need [(0+n+1)*40<=140737488355328,RQ 1 (U3 3 [iI x0,iI A,Q9])] (leaf (WQ n U O m r v x0 A))))))) (VJ.may True (VJ.may True (VJ.may (n=0) (need [40<=140737488355328,RQ 1 (U3 3 [iI x0,iI A,Q9])] (leaf (J0 x0 A))) (need [(0+n)*40<=140737488355328,∀(i:Nat),i<n-> ∀(a:AV),a∈[iI (U i),iI (O i),rdl (m i) (r i) (v i)]->AV.one a=true] (need [(0+n+1)*40<=140737488355328,RQ 1 (U3 3 [iI x0,iI A,Q9])] (leaf (WQ n U O m r v x0 A))))) (VJ.may (n=0) (need [40<=140737488355328,RQ 1 (U3 3 [iI x0,iI A,Q9])] (leaf (J0 x0 A))) (need [(0+n)*40<=140737488355328,∀(i:Nat),i<n-> ∀(a:AV),a∈[iI (U i),iI (O i),rdl (m i) (r i) (v i)]->AV.one a=true] (need [(0+n+1)*40<=140737488355328,RQ 1 (U3 3 [iI x0,iI A,Q9])] (leaf (WQ n U O m r v x0 A)))))) (VJ.may (n=0) (need [40<=140737488355328,RQ 1 (U3 3 [iI x0,iI A,Q9])] (leaf (J0 x0 A))) (need [(0+n)*40<=140737488355328,∀(i:Nat),i<n-> ∀(a:AV),a∈[iI (U i),iI (O i),rdl (m i) (r i) (v i)]->AV.one a=true] (need [(0+n+1)*40<=140737488355328,RQ 1 (U3 3 [iI x0,iI A,Q9])] (leaf (WQ n U O m r v x0 A))))))) VQ ?_;intro Q hQ;have hA: ∀(k:Nat),k<1-> ∀(a:AV),a∈U3 3 [i x0,i A,AV.x (.slice none 0 0)] k->a.one=true:=by
  intro k hk a ha;obtain rfl:k=0:=VG;have ha:a∈[i x0,i A,AV.x (.slice none 0 0)]:=ha;simp only [GK,DP,or_false] at ha;rcases ha with rfl|rfl|rfl<;>simp [AV.one,Value.oneCell']
 have hB: ∀(k:Nat),k<n-> ∀(a:AV),a∈[i (U k),i (O k),rdl (m k) (r k) (v k)]->a.one=true:=by
  intro k hk a ha;simp only [GK,DP,or_false] at ha;rcases ha with rfl|rfl|rfl<;>simp [AV.one,Value.oneCell']
 have hI: ∀(k:Nat),∀x∈[i (H3 n U x0 k),i (H3 n O A k),rdl (if k<n then m k else 0) (r k) (v k)],Idf x:=by
  intro k x hx;simp only [GK,DP,or_false] at hx;rcases hx with rfl|rfl|rfl;exact .x _;exact .x _;exact V7
 have hL: ∀k,n<=k->k<n+1->B1 [i x0,i A,AV.x (.slice none 0 0)] [i (H3 n U x0 k),i (H3 n O A k),rdl (if k<n then m k else 0) (r k) (v k)]:=by
  intro k h _;simp only [H3,if_neg (Nat.not_lt.2 h)];exact ⟨(P5 _).2,(P5 _).2,⟨Ak,rfl⟩,trivial⟩
 have h1:n=0-> ∃r',dP (lst 3 1 (GE 0 (λx=>[]) (U3 3 [i x0,i A,AV.x (.slice none 0 0)]))) r'/\Q r':=by
  intro h0;refine ⟨lst 3 (n+1) (λk=>[i (H3 n U x0 k),i (H3 n O A k),rdl (if k<n then m k else 0) (r k) (v k)]),⟨rfl,VG,λk hk=>⟨?_,hI k⟩⟩,hQ⟩
  obtain rfl:k=0:=VG;exact hL 0 VG VG
 have h2: ∃r',dP (lst 3 (0+n+1) (GE (0+n) (GE 0 (λx=>[]) λk=>[i (U k),i (O k),lst 2 (m k) λj=>[i (r k j),i (v k j)]]) (U3 3 [i x0,i A,Q9]))) r'/\Q r':=by
  refine ⟨lst 3 (n+1) (λk=>[i (H3 n U x0 k),i (H3 n O A k),rdl (if k<n then m k else 0) (r k) (v k)]),⟨rfl,VG,λk hk=>⟨?_,hI k⟩⟩,hQ⟩
  show B1 (H9 (decide (k<0+n)) (GE 0 (λx=>[]) (λk=>[i (U k),i (O k),lst 2 (m k) λj=>[i (r k j),i (v k j)]]) k) (U3 3 [i x0,i A,Q9] (k-(0+n)))) _
  rw [lI,show k-(0+n)=0 by omega]
  by_cases h:k<n;rw [show decide (k<0+n)=true from decide_eq_true VG];simp only [H3,if_pos h];exact ⟨(P5 _).2,(P5 _).2,⟨rfl,rfl,λ_ _=>rfl⟩,trivial⟩;rw [show decide (k<0+n)=false from decide_eq_false VG];exact hL k VG VG
 simp only [VJ.sat,U8,UE]
 (with_reducible repeat' first|apply Al|intro _)
 all_goals first|exact Ak|omega|exact hA _ (by assumption) _ (by assumption)|exact hB _ (by assumption) _ (by assumption)|exact h2|exact h1 (by assumption)
def Qi7:HZ:=λl=>match l with
 |[.lst 3 n1 f1,.agg [.x (.int .i64 x0),.x (.int .i64 A),.x z]]=>some (.need [lst 3 n1 f1= .lst 3 n (λk=>[i (U k),i (O k),rdl (m k) (r k) (v k)]),z= .slice none 0 0,n<=100000] (.leaf (.lst 3 (n+1) (λk=>[i (H3 n U x0 k),i (H3 n O A k),rdl (if k<n then m k else 0) (r k) (v k)]))))
 |_=>none
theorem Xh4:Sx.Enters Tryz.prog 206/\ ∀avs t,Qi7 n U O m r v avs=some t->UH VL 206 avs t:=by
 refine ⟨(UC Tryz.func206),?_⟩;intro avs t h;unfold Qi7 at h;split at h;cases h;intro Q hQ;obtain ⟨h1,h2⟩:=hQ;have e1:=h1.1;have e2:=h1.2.1;have e3:=h1.2.2;rw [e1,e2];exact Zk6 _ _ _ _ _ _ _ _ e3 Q h2;cases h
end
noncomputable abbrev Qj0(s:HS):DU:=rW Tryz.prog [(36,RJ)] {R:=[],H:=[],C:=[(206,(Qi7 s.nb s.ql s.qh s.qm s.qr s.qv))] } [(145,FZ)] [] Tryz.f177 (U5 Tryz.f177)
theorem Qp8(s:HS):D2 VL 177 (Qj0 s):=
 FN (G:=[(36,RJ)]) (X:={R:=[],H:=[],C:=[(206,(Qi7 s.nb s.ql s.qh s.qm s.qr s.qv))] }) (PX:=[(145,FZ)]) (L:=[]) (Ae PO Aa) (Aj Ab Ac (Ah (Xh4 s.nb s.ql s.qh s.qm s.qr s.qv) (U1.nil _))) (UQ.cons RL (UQ.nil _)) VW (UC Tryz.func177) Tryz.func177 (UR Tryz.f177) (λj cj _ sp hsp=>by simp at hsp)
theorem Xf6(V:Nat->ByteArray)(n:Nat)(str:ByteArray)(s:HS)(VO:vK str n (U2 (UM 3) V))(UD:s.nb<=6):wF VL 106 [.ptr 0 0,.x (.string str)] (X7 s) 901 [[.ptr 0 0,.row 1,.row 2]] 211 (OS (btS s (VX (V 0)) (VX (V 1)))) (OX s) (rsE (fmE (U2 (UM 3) V) n 2 (btE s (VX (V 0)) (VX (V 1))))):=by
 refine LE (PX:=[(145,FZ),(146,jA),(177,(Qj0 s))]) (L:=[yU (U2 (UM 3) V) n 2 177 s]) (Ae (L7 VO) (Ae wD Aa)) Ad (UQ.cons RL (UQ.cons wL (UQ.cons (Qp8 s) (UQ.nil _)))) VW (UC Tryz.func106) Tryz.func106 (UR Tryz.f106) (LA (lpE (b:= .loop N6) VQ<|uZ (U2 (UM 3) V) n 2 177 s VO.2.2.2 (B0 VO))) (N:=[]) (t:=let z0:=(btS s (VX (V 0)) (VX (V 1)));let z1:=(U2 (UM 3) V (0:Int).toNat);let z2:=(need [[Q5]=[Q5],H5 (hL s) QT,QA s,QB s] (leaf (false,(4:Int))));let z3:=(need [[Q5]=[Q5],H5 (hL s) QT,QA s,QB s] (leaf (false,(2:Int))));(need [MW str str {data:=#[32] }] (need [UG 0 n] (branch (wdO z1) (need [VI (wdM (wdK z1)+1)] (branch (!(n:Int)==wdM (wdK z1)+1) z2 (need [(0:Int)<=1/\(1:Int)<=(n:Int)/\(n:Int)<=(n:Int)] (need [QO,VU (lst 1 n λk=>[FL (U2 (UM 3) V k)]),ZP,WI,(lst 1 (n-(1:Int).toNat) λi=>[AV.x (.string (U2 (UM 3) V ((1:Int).toNat+i)))])=lst 1 (n-1) λj=>[FL (U2 (UM 3) V (1+j))],(↑(n-(1:Int).toNat):Int)=(↑(n-1):Int),(0:Int)=(↑(0:Nat):Int),0=0,∀(i:Nat),i<0->[]=[iI (VX (U2 (UM 3) V (1+i)))],wdM (wdK z1)=2,VU (AV.fn (Fn.func 177) [] []),XH s,JO s,JP s,XW s,XN s,XO s,KL s,∀(i:Nat),i<s.xn->s.xg i=s.xg i,KM s,∀(i:Nat),i<s.yn->s.yg i=s.yg i,QO,JU,JV] (branch (nuB (U2 (UM 3) V) n) (need [UG 0 (↑(n-1):Int)] (need [(0:Int).toNat<n-1] (need [UG 1 (↑(n-1):Int)] (need [(1:Int).toNat<n-1] (branch (bt (0:Int) (VX (U2 (UM 3) V 1)) (VX (U2 (UM 3) V 2))) (need [UG 1 (↑(n-1):Int)] (need [(1:Int).toNat<n-1] (branch (!decide (VX (U2 (UM 3) V 2)<=1000)) z3 (branch (!decide ((↑s.nb:Int)<6)) (need [[Q5]=[Q5],H5 (hL s) QT,QA s,QB s] (leaf (false,(3:Int)))) (need [UG 0 (↑(n-1):Int)] (need [(0:Int).toNat<n-1] (need [UG 1 (↑(n-1):Int)] (need [(1:Int).toNat<n-1] (need [(hY s.nb s)=lst 3 s.nb λk=>[iI (s.ql k),iI (s.qh k),lst 2 (s.qm k) λk_1=>[iI (s.qr k k_1),iI (s.qv k k_1)]],J2=J2,s.nb<=100000] (need [[Q5]=[Q5],H5 [hR s.nr s,iI s.pl,iI s.ph,lst 3 (s.nb+1) λk=>[iI (H3 s.nb (s.ql) (VX (U2 (UM 3) V 1)) k),iI (H3 s.nb (s.qh) (VX (U2 (UM 3) V 2)) k),lst 2 (if k<s.nb then s.qm k else 0) λk_1=>[iI (s.qr k k_1),iI (s.qv k k_1)]],hC s.nc s,hT s.ns s] (hL z0),((23:TypeId),1,s.xn,s.xg)=((23:TypeId),1,z0.xn,z0.xg),((9:TypeId),1,s.yn,s.yg)=((9:TypeId),1,z0.yn,z0.yg)] (leaf (true,(0:Int))))))))))))) z3))))) (need [[Q5]=[Q5],H5 QT QT,QA s,QB s] (leaf (false,(4:Int))))))))) z2)))) VQ ?_
 have hw:wdO (U2 (UM 3) V (Int.toNat 0))=true:=VQ;have hm:wdM (wdK (U2 (UM 3) V (Int.toNat 0)))=2:=VQ;have hn1:1<=n:=by have:=VO.2.1;omega
 have hnl:=B0 VO;simp only [VJ.sat,U8,UE,hm,hw,true_imp_iff];refine ⟨⟨rfl,rfl⟩,⟨VG,VG⟩,⟨by simp only [VI];omega,λh4=>?_,λh4=>?_⟩,λh=>by cases h⟩
 exact V4
 ·have hN:n=2+1:=by
   simp at h4;omega
  refine ⟨⟨VG,VG,VG⟩,?_,λh5=>?_,λh5=>?_⟩
  rotate_left 2
  exact V5
  ·all_goals exact yI
  have hk1:n-1=2:=VG;have hx0:VX (U2 (UM 3) V 1)=VX (V 0):=rfl;have hx1:VX (U2 (UM 3) V 2)=VX (V 1):=rfl;rw [hk1];simp only [hx0,hx1,Int.toNat_zero];refine ⟨VG,VG,VG,by decide,λhb=>⟨VG,by decide,λh6=>⟨DF _ _ _ _ _ _,F4 hN h5 ?_ (by decide)⟩,λh6=>⟨λh7=>⟨DF _ _ _ _ _ _,F4 hN h5 ?_ (by decide)⟩,λh7=>⟨VG,VG,VG,by decide,VG,⟨⟨B2 s,zG _,zG _,B5 (btS s (VX (V 0)) (VX (V 1))),B4 s,P7 s,trivial⟩,rfl,rfl⟩,uI hN h5 ?_⟩⟩⟩,λhb=>⟨DF _ _ _ _ _ _,F4 hN h5 ?_ (by decide)⟩⟩
  simp at h6;exact if_neg λh=>VG;simp at h6 h7;unfold btE;rw [if_pos ⟨hb,h6⟩,if_neg VG];simp at h6 h7;unfold btE;rw [if_pos ⟨hb,h6⟩,if_pos VG];exact if_neg λh=>by
   rw [hb] at h;cases h.1
def thS(s:HS)(x0 A I Z:Int):HS:={s with nr:=s.nr+1,ra:=H3 s.nr s.ra x0,rb:=H3 s.nr s.rb A,ru:=H3 s.nr s.ru I,rv:=H3 s.nr s.rv Z}
def thD(x0 A I Z:Int):Int:=eB 4 100 20 30 1 (λ_=>x0) (λ_=>A) (λ_=>I) (λ_=>Z)
def thE(s:HS)(x0 A I Z:Int):Int:=if (thD x0 A I Z==0||thD x0 A I Z==9)=true then (if s.nr<12 then (if inE (thS s x0 A I Z)=0 then 0 else 9) else 3) else 2
def cR(S:UU):HZ:=λl=>match S l with
 |some (ns,r)=>some (.needT ns (.leaf r))
 |none=>none
theorem xP{P:Program}{f:FuncId}{S:UU}(h:L2 P f S):Sx.Enters P f/\ ∀avs t,cR S avs=some t->UH P f avs t:=by
 refine ⟨h.1,λavs t ht=>?_⟩;unfold cR at ht;split at ht;rename_i ns r hS;cases ht;intro Q hQ e w args h1 h2 h3 h4;obtain ⟨q1,q2⟩:=VJ.sat_needT hQ;refine (h.2 _ _ _ hS (GA q1) e w args h1 h2 h3 h4).mono ?_;rintro en w' ⟨v,rfl,g1,g2⟩;exact ⟨v,r,rfl,q2,g1,g2⟩;cases ht
def hO:UU
 |[.agg [.x (.int .i64 c),.x (.int .i64 T),.x (.int .i64 U),.x (.int .i64 O)],.lst 4 n f]=>match f 0 with
  |[.x (.int .i64 a),.x (.int .i64 b),.x (.int .i64 u),.x (.int .i64 v)]=>some ([n=1],.tup [i (dtB c T U O 1 (λ_=>a) (λ_=>b) (λ_=>u) (λ_=>v)),i (eB c T U O 1 (λ_=>a) (λ_=>b) (λ_=>u) (λ_=>v))])
  |_=>none
 |_=>none
theorem Qt9:VM VL 203 hO:=by
 refine ⟨(UC Tryz.func203),?_⟩;intro avs ns res h hn;unfold hO at h;split at h;rename_i c T U O n f;split at h;rename_i a b u v hf;cases h;obtain rfl:n=1:=hn _ GB;exact (Xb5 c T U O 1 (λ_=>a) (λ_=>b) (λ_=>u) (λ_=>v)).same (.cons (.refl _) (.cons (.lst 4 1 f _ (λk hk=>by
  obtain rfl:k=0:=VG;exact hf)) .nil))
 cases h;cases h
theorem bnf{b:Bool}(h:(!b)=false):b=true:=by cases b<;>simp_all
theorem bnt{b:Bool}(h:(!b)=true):b=false:=by cases b<;>simp_all
section
variable {s:HS}{x0 A I Z:Int}
theorem Zx3(h:(thD x0 A I Z==0)=false)(h':(thD x0 A I Z==9)=false):thE s x0 A I Z=2:=by
 unfold thE;rw [h,h'];rfl
theorem Xq9(h:(thD x0 A I Z==0||thD x0 A I Z==9)=true)(h8:(!decide ((s.nr:Int)<12))=true):thE s x0 A I Z=3:=by
 unfold thE;simp at h8;rw [if_pos h,if_neg VG]
theorem Xq8(h:(thD x0 A I Z==0||thD x0 A I Z==9)=true)(h8:(!decide ((s.nr:Int)<12))=false)(h9:(!inE (thS s x0 A I Z)==0)=true):thE s x0 A I Z=9:=by
 unfold thE;simp at h8 h9;rw [if_pos h,if_pos VG,if_neg h9]
theorem Xr0(h:(thD x0 A I Z==0||thD x0 A I Z==9)=true)(h8:(!decide ((s.nr:Int)<12))=false)(h9:(!inE (thS s x0 A I Z)==0)=false):thE s x0 A I Z=0:=by
 unfold thE;simp at h8 h9;rw [if_pos h,if_pos VG,if_pos h9]
end
noncomputable abbrev SF(s:HS):DU:=rW Tryz.prog [(203,hO),(17,DO),(204,(Qi5 s.nr s.ra s.rb s.ru s.rv))] {R:=[(44,L3)],H:=[],C:=[(44,(cR L3))] } [(145,FZ)] [] Tryz.f174 (U5 Tryz.f174)
theorem iB(s:HS):D2 VL 174 (SF s):=
 FN (G:=[(203,hO),(17,DO),(204,(Qi5 s.nr s.ra s.rb s.ru s.rv))]) (X:={R:=[(44,L3)],H:=[],C:=[(44,(cR L3))] }) (PX:=[(145,FZ)]) (L:=[]) (Ae Qt9 (Ae F9 (Ae (Xh2 s.nr s.ra s.rb s.ru s.rv) Aa))) (Aj (Af F6 Ab) Ac (Ah (xP F6) (U1.nil _))) (UQ.cons RL (UQ.nil _)) VW (UC Tryz.func174) Tryz.func174 (UR Tryz.f174) (λj cj _ sp hsp=>by simp at hsp)
abbrev W8(s:HS)(V:Nat->ByteArray):List AV:=[lst 4 (s.nr+1) λk=>[iI (H3 s.nr (s.ra) (VX (U2 (UM 0) V 1)) k),iI (H3 s.nr (s.rb) (VX (U2 (UM 0) V 2)) k),iI (H3 s.nr (s.ru) (VX (U2 (UM 0) V 3)) k),iI (H3 s.nr (s.rv) (VX (U2 (UM 0) V 4)) k)],iI s.pl,iI s.ph,hY s.nb s,hC s.nc s,hT s.ns s]
theorem Qn4(V:Nat->ByteArray)(n:Nat)(str:ByteArray)(s:HS)(VO:vK str n (U2 (UM 0) V))(UD:s.nr<=12):wF VL 106 [.ptr 0 0,.x (.string str)] (X7 s) 901 [[.ptr 0 0,.row 1,.row 2]] 211 (OS (thS s (VX (V 0)) (VX (V 1)) (VX (V 2)) (VX (V 3)))) (OX s) (rsE (fmE (U2 (UM 0) V) n 4 (thE s (VX (V 0)) (VX (V 1)) (VX (V 2)) (VX (V 3))))):=by
 refine LE (PX:=[(145,FZ),(146,jA),(174,(SF s))]) (L:=[yU (U2 (UM 0) V) n 4 174 s]) (Ae (L7 VO) (Ae wD Aa)) Ad (UQ.cons RL (UQ.cons wL (UQ.cons (iB s) (UQ.nil _)))) VW (UC Tryz.func106) Tryz.func106 (UR Tryz.f106) (LA (lpE (b:= .loop N6) VQ<|uZ (U2 (UM 0) V) n 4 174 s VO.2.2.2 (B0 VO))) (N:=[]) (t:=let z1:=(thS s (VX (V 0)) (VX (V 1)) (VX (V 2)) (VX (V 3)));let z0:=(branch (!decide ((↑s.nr:Int)<12)) (need [[Q5]=[Q5],H5 (hL s) QT,QA s,QB s] (leaf (false,(3:Int)))) (need [XH s,s.nr<=100000] (need [U9 4 (s.nr+1) λk=>[Bo.i (H3 s.nr (s.ra) (VX (U2 (UM 0) V 1)) k),Bo.i (H3 s.nr (s.rb) (VX (U2 (UM 0) V 2)) k),Bo.i (H3 s.nr (s.ru) (VX (U2 (UM 0) V 3)) k),Bo.i (H3 s.nr (s.rv) (VX (U2 (UM 0) V 4)) k)],U9 2 3 λk=>[i (tbP k),i (tbQ k)]] (branch (!rdE (4:Int) (100:Int) (20:Int) (30:Int) (s.nr+1) (H3 s.nr (s.ra) (VX (U2 (UM 0) V 1))) (H3 s.nr (s.rb) (VX (U2 (UM 0) V 2))) (H3 s.nr (s.ru) (VX (U2 (UM 0) V 3))) (H3 s.nr (s.rv) (VX (U2 (UM 0) V 4))) 3 tbP tbQ s.pl s.ph (1:Int) (3:Int)==0) (need [[Q5]=[Q5],H5 (W8 s V) QT,QA s,QB s] (leaf (false,(9:Int)))) (need [[Q5]=[Q5],H5 (W8 s V) (hL z1),((23:TypeId),1,s.xn,s.xg)=((23:TypeId),1,z1.xn,z1.xg),((9:TypeId),1,s.yn,s.yg)=((9:TypeId),1,z1.yn,z1.yg)] (leaf (true,(0:Int))))))));let z2:=(eB (4:Int) (100:Int) (20:Int) (30:Int) 1 (λx=>VX (U2 (UM 0) V 1)) (λx=>VX (U2 (UM 0) V 2)) (λx=>VX (U2 (UM 0) V 3)) λx=>VX (U2 (UM 0) V 4));let z3:=(U2 (UM 0) V (0:Int).toNat);let z4:=(need [[Q5]=[Q5],H5 (hL s) QT,QA s,QB s] (leaf (false,(4:Int))));(need [MW str str {data:=#[32] }] (need [UG 0 n] (branch (wdO z3) (need [VI (wdM (wdK z3)+1)] (branch (!(n:Int)==wdM (wdK z3)+1) z4 (need [(0:Int)<=1/\(1:Int)<=(n:Int)/\(n:Int)<=(n:Int)] (need [QO,VU (lst 1 n λk=>[FL (U2 (UM 0) V k)]),ZP,WI,(lst 1 (n-(1:Int).toNat) λi=>[AV.x (.string (U2 (UM 0) V ((1:Int).toNat+i)))])=lst 1 (n-1) λj=>[FL (U2 (UM 0) V (1+j))],(↑(n-(1:Int).toNat):Int)=(↑(n-1):Int),(0:Int)=(↑(0:Nat):Int),0=0,∀(i:Nat),i<0->[]=[iI (VX (U2 (UM 0) V (1+i)))],wdM (wdK z3)=4,VU (AV.fn (Fn.func 174) [] []),XH s,JO s,JP s,XW s,XN s,XO s,KL s,∀(i:Nat),i<s.xn->s.xg i=s.xg i,KM s,∀(i:Nat),i<s.yn->s.yg i=s.yg i,QO,JU,JV] (branch (nuB (U2 (UM 0) V) n) (need [UG 0 (↑(n-1):Int)] (need [(0:Int).toNat<n-1] (need [UG 1 (↑(n-1):Int)] (need [(1:Int).toNat<n-1] (need [UG 2 (↑(n-1):Int)] (need [(2:Int).toNat<n-1] (need [UG 3 (↑(n-1):Int)] (need [(3:Int).toNat<n-1] (need [1=1] (branch (z2==0) z0 (branch (!z2==9) (need [[Q5]=[Q5],H5 (hL s) QT,QA s,QB s] (leaf (false,(2:Int)))) z0))))))))))) (need [[Q5]=[Q5],H5 QT QT,QA s,QB s] (leaf (false,(4:Int))))))))) z4)))) VQ ?_
 have hw:wdO (U2 (UM 0) V (Int.toNat 0))=true:=VQ;have hm:wdM (wdK (U2 (UM 0) V (Int.toNat 0)))=4:=VQ;have hn1:1<=n:=by have:=VO.2.1;omega
 have hnl:=B0 VO;simp only [VJ.sat,U8,UE,hm,hw,true_imp_iff];refine ⟨⟨rfl,rfl⟩,⟨VG,VG⟩,⟨by simp only [VI];omega,λh4=>?_,λh4=>?_⟩,λh=>by cases h⟩
 exact V4
 ·have hN:n=4+1:=by
   simp at h4;omega
  refine ⟨⟨VG,VG,VG⟩,?_,λh5=>?_,λh5=>?_⟩
  rotate_left 2
  exact V5
  ·all_goals exact yI
  have hk1:n-1=4:=VG;have hx0:VX (U2 (UM 0) V 1)=VX (V 0):=rfl;have hx1:VX (U2 (UM 0) V 2)=VX (V 1):=rfl;have hx2:VX (U2 (UM 0) V 3)=VX (V 2):=rfl;have hx3:VX (U2 (UM 0) V 4)=VX (V 3):=rfl;rw [hk1];simp only [hx0,hx1,hx2,hx3];refine ⟨VG,by decide,VG,by decide,VG,by decide,VG,by decide,λh6=>⟨λh8=>⟨DF _ _ _ _ _ _,F4 hN h5 (Xq9 (Bool.or_eq_true_iff.2 (.inl h6)) h8) (by decide)⟩,λh8=>⟨VG,⟨Bo.isRec4 _ _ _ _ _,Pt.isRec2 _ _ _⟩,λh9=>⟨DF _ _ _ _ _ _,F4 hN h5 (Xq8 (Bool.or_eq_true_iff.2 (.inl h6)) h8 h9) (by decide)⟩,λh9=>⟨⟨⟨B2 (thS s (VX (V 0)) (VX (V 1)) (VX (V 2)) (VX (V 3))),zG _,zG _,B5 s,B4 s,P7 s,trivial⟩,rfl,rfl⟩,uI hN h5 (Xr0 (Bool.or_eq_true_iff.2 (.inl h6)) h8 h9)⟩⟩⟩,λh6=>⟨λh7=>⟨DF _ _ _ _ _ _,F4 hN h5 (Zx3 h6 (bnt h7)) (by decide)⟩,λh7=>⟨λh8=>⟨DF _ _ _ _ _ _,F4 hN h5 (Xq9 (Bool.or_eq_true_iff.2 (.inr (bnf h7))) h8) (by decide)⟩,λh8=>⟨VG,⟨Bo.isRec4 _ _ _ _ _,Pt.isRec2 _ _ _⟩,λh9=>⟨DF _ _ _ _ _ _,F4 hN h5 (Xq8 (Bool.or_eq_true_iff.2 (.inr (bnf h7))) h8 h9) (by decide)⟩,λh9=>⟨⟨⟨B2 (thS s (VX (V 0)) (VX (V 1)) (VX (V 2)) (VX (V 3))),zG _,zG _,B5 s,B4 s,P7 s,trivial⟩,rfl,rfl⟩,uI hN h5 (Xr0 (Bool.or_eq_true_iff.2 (.inr (bnf h7))) h8 h9)⟩⟩⟩⟩⟩
section
variable {s:HS}{x0 A I Z:Int}
theorem Jd1(h6:(!asE 4 100 20 30 s.nr s.ra s.rb s.ru s.rv 3 tbP tbQ s.pl s.ph 1 3 x0 A I Z==0)=true):isE s x0 A I Z=2:=by
 unfold isE;simp at h6;rw [if_neg h6]
theorem Jd0(h6:(!asE 4 100 20 30 s.nr s.ra s.rb s.ru s.rv 3 tbP tbQ s.pl s.ph 1 3 x0 A I Z==0)=false)(h7:(!decide ((s.nc:Int)<10))=true):isE s x0 A I Z=3:=by
 unfold isE;simp at h6 h7;rw [if_pos h6,if_neg VG]
theorem Zj7(h6:(!asE 4 100 20 30 s.nr s.ra s.rb s.ru s.rv 3 tbP tbQ s.pl s.ph 1 3 x0 A I Z==0)=false)(h7:(!decide ((s.nc:Int)<10))=false)(h8:(!kpB 4 100 20 30 s.nr s.ra s.rb s.ru s.rv 3 tbP tbQ s.pl s.ph 1 3 x0 A I Z)=true):isE s x0 A I Z=10:=by
 unfold isE;simp at h6 h7 h8;rw [if_pos h6,if_pos VG,h8,if_neg (by decide)]
theorem Jd2(h6:(!asE 4 100 20 30 s.nr s.ra s.rb s.ru s.rv 3 tbP tbQ s.pl s.ph 1 3 x0 A I Z==0)=false)(h7:(!decide ((s.nc:Int)<10))=false)(h8:(!kpB 4 100 20 30 s.nr s.ra s.rb s.ru s.rv 3 tbP tbQ s.pl s.ph 1 3 x0 A I Z)=false):isE s x0 A I Z=0:=by
 unfold isE;simp at h6 h7 h8;rw [if_pos h6,if_pos VG,h8,if_pos rfl]
end
noncomputable abbrev mI(s:HS):DU:=rW Tryz.prog [(26,b6),(211,(Qi6 s.nc s.ca s.cb s.cc s.cd s.cv))] {R:=[],H:=[],C:=[(44,(cR L3))] } [(145,FZ)] [] Tryz.f179 (U5 Tryz.f179)
theorem pM(s:HS):D2 VL 179 (mI s):=
 FN (G:=[(26,b6),(211,(Qi6 s.nc s.ca s.cb s.cc s.cd s.cv))]) (X:={R:=[],H:=[],C:=[(44,(cR L3))] }) (PX:=[(145,FZ)]) (L:=[]) (Ae hU (Ae (Xh3 s.nc s.ca s.cb s.cc s.cd s.cv) Aa)) (Aj Ab Ac (Ah (xP F6) (U1.nil _))) (UQ.cons RL (UQ.nil _)) VW (UC Tryz.func179) Tryz.func179 (UR Tryz.f179) (λj cj _ sp hsp=>by simp at hsp)
theorem Wf7(V:Nat->ByteArray)(n:Nat)(str:ByteArray)(s:HS)(VO:vK str n (U2 (UM 5) V))(UD:s.nc<=10):wF VL 106 [.ptr 0 0,.x (.string str)] (X7 s) 901 [[.ptr 0 0,.row 1,.row 2]] 211 (OS (isS s (VX (V 0)) (VX (V 1)) (VX (V 2)) (VX (V 3)))) (OX s) (rsE (fmE (U2 (UM 5) V) n 4 (isE s (VX (V 0)) (VX (V 1)) (VX (V 2)) (VX (V 3))))):=by
 refine LE (PX:=[(145,FZ),(146,jA),(179,(mI s))]) (L:=[yU (U2 (UM 5) V) n 4 179 s]) (Ae (L7 VO) (Ae wD Aa)) Ad (UQ.cons RL (UQ.cons wL (UQ.cons (pM s) (UQ.nil _)))) VW (UC Tryz.func106) Tryz.func106 (UR Tryz.f106) (LA (lpE (b:= .loop N6) VQ<|uZ (U2 (UM 5) V) n 4 179 s VO.2.2.2 (B0 VO))) (N:=[]) (t:=let z0:=(isS s (VX (V 0)) (VX (V 1)) (VX (V 2)) (VX (V 3)));let z1:=(U2 (UM 5) V (0:Int).toNat);let z2:=(need [[Q5]=[Q5],H5 (hL s) QT,QA s,QB s] (leaf (false,(4:Int))));let z3:=(VX (U2 (UM 5) V 1));let z4:=(VX (U2 (UM 5) V 2));let z5:=(VX (U2 (UM 5) V 3));let z6:=(VX (U2 (UM 5) V 4));(need [MW str str {data:=#[32] }] (need [UG 0 n] (branch (wdO z1) (need [VI (wdM (wdK z1)+1)] (branch (!(n:Int)==wdM (wdK z1)+1) z2 (need [(0:Int)<=1/\(1:Int)<=(n:Int)/\(n:Int)<=(n:Int)] (need [QO,VU (lst 1 n λk=>[FL (U2 (UM 5) V k)]),ZP,WI,(lst 1 (n-(1:Int).toNat) λi=>[AV.x (.string (U2 (UM 5) V ((1:Int).toNat+i)))])=lst 1 (n-1) λj=>[FL (U2 (UM 5) V (1+j))],(↑(n-(1:Int).toNat):Int)=(↑(n-1):Int),(0:Int)=(↑(0:Nat):Int),0=0,∀(i:Nat),i<0->[]=[iI (VX (U2 (UM 5) V (1+i)))],wdM (wdK z1)=4,VU (AV.fn (Fn.func 179) [] []),XH s,JO s,JP s,XW s,XN s,XO s,KL s,∀(i:Nat),i<s.xn->s.xg i=s.xg i,KM s,∀(i:Nat),i<s.yn->s.yg i=s.yg i,QO,JU,JV] (branch (nuB (U2 (UM 5) V) n) (need [UG 0 (↑(n-1):Int)] (need [(0:Int).toNat<n-1] (need [UG 1 (↑(n-1):Int)] (need [(1:Int).toNat<n-1] (need [UG 2 (↑(n-1):Int)] (need [(2:Int).toNat<n-1] (need [UG 3 (↑(n-1):Int)] (need [(3:Int).toNat<n-1] (need [U9 4 s.nr λk=>[Bo.i (s.ra k),Bo.i (s.rb k),Bo.i (s.ru k),Bo.i (s.rv k)],U9 2 3 λk=>[i (tbP k),i (tbQ k)]] (branch (!asE (4:Int) (100:Int) (20:Int) (30:Int) s.nr (s.ra) (s.rb) (s.ru) (s.rv) 3 tbP tbQ s.pl s.ph (1:Int) (3:Int) z3 z4 z5 z6==0) (need [[Q5]=[Q5],H5 (hL s) QT,QA s,QB s] (leaf (false,(2:Int)))) (branch (!decide ((↑s.nc:Int)<10)) (need [[Q5]=[Q5],H5 (hL s) QT,QA s,QB s] (leaf (false,(3:Int)))) (branch (!kpB (4:Int) (100:Int) (20:Int) (30:Int) s.nr (s.ra) (s.rb) (s.ru) (s.rv) 3 tbP tbQ s.pl s.ph (1:Int) (3:Int) z3 z4 z5 z6) (need [[Q5]=[Q5],H5 (hL s) QT,QA s,QB s] (leaf (false,(10:Int)))) (need [XN s,s.nc<=100000] (need [[Q5]=[Q5],H5 [hR s.nr s,iI s.pl,iI s.ph,hY s.nb s,lst 5 (s.nc+1) λk=>[iI (H3 s.nc (s.ca) z3 k),iI (H3 s.nc (s.cb) z4 k),iI (H3 s.nc (s.cc) z5 k),iI (H3 s.nc (s.cd) z6 k),AV.x (.bool (apB s.nc (s.cv) false k))],hT s.ns s] (hL z0),((23:TypeId),1,s.xn,s.xg)=((23:TypeId),1,z0.xn,z0.xg),((9:TypeId),1,s.yn,s.yg)=((9:TypeId),1,z0.yn,z0.yg)] (leaf (true,(0:Int))))))))))))))))) (need [[Q5]=[Q5],H5 QT QT,QA s,QB s] (leaf (false,(4:Int))))))))) z2)))) VQ ?_
 have hw:wdO (U2 (UM 5) V (Int.toNat 0))=true:=VQ;have hm:wdM (wdK (U2 (UM 5) V (Int.toNat 0)))=4:=VQ;have hn1:1<=n:=by have:=VO.2.1;omega
 have hnl:=B0 VO;simp only [VJ.sat,U8,UE,hm,hw,true_imp_iff];refine ⟨⟨rfl,rfl⟩,⟨VG,VG⟩,⟨by simp only [VI];omega,λh4=>?_,λh4=>?_⟩,λh=>by cases h⟩
 exact V4
 ·have hN:n=4+1:=by
   simp at h4;omega
  refine ⟨⟨VG,VG,VG⟩,?_,λh5=>?_,λh5=>?_⟩
  rotate_left 2
  exact V5
  ·all_goals exact yI
  have hk1:n-1=4:=VG;have hx0:VX (U2 (UM 5) V 1)=VX (V 0):=rfl;have hx1:VX (U2 (UM 5) V 2)=VX (V 1):=rfl;have hx2:VX (U2 (UM 5) V 3)=VX (V 2):=rfl;have hx3:VX (U2 (UM 5) V 4)=VX (V 3):=rfl;rw [hk1];simp only [hx0,hx1,hx2,hx3];refine ⟨VG,by decide,VG,by decide,VG,by decide,VG,by decide,⟨Bo.isRec4 _ _ _ _ _,Pt.isRec2 _ _ _⟩,λh6=>⟨DF _ _ _ _ _ _,F4 hN h5 (Jd1 h6) (by decide)⟩,λh6=>⟨λh7=>⟨DF _ _ _ _ _ _,F4 hN h5 (Jd0 h6 h7) (by decide)⟩,λh7=>⟨λh8=>⟨DF _ _ _ _ _ _,F4 hN h5 (Zj7 h6 h7 h8) (by decide)⟩,λh8=>⟨VG,⟨⟨B2 s,zG _,zG _,B5 s,B4 (isS s (VX (V 0)) (VX (V 1)) (VX (V 2)) (VX (V 3))),P7 s,trivial⟩,rfl,rfl⟩,uI hN h5 (Jd2 h6 h7 h8)⟩⟩⟩⟩
section
variable (s:HS)(x0 A I Z x4:Int)
def slS:HS:={s with ns:=s.ns+1,sa:=H3 s.ns s.sa x0,sb:=H3 s.ns s.sb A,sc:=H3 s.ns s.sc I,sl:=H3 s.ns s.sl Z,sh:=H3 s.ns s.sh x4}
def slE:Int:=if saB x0 A I Z x4=true then (if s.ns<8 then (if orE (s.ns+1) (H3 s.ns s.sa x0) (H3 s.ns s.sb A) (H3 s.ns s.sc I) (H3 s.ns s.sl Z) (H3 s.ns s.sh x4)=0 then 0 else 9) else 3) else 2
end
def yB:UU
 |[.agg [.x (.int .i64 c),.x (.int .i64 t),.lst 5 n f]]=>match f 0 with
  |[.x (.int .i64 x0),.x (.int .i64 A),.x (.int .i64 I),.x (.int .i64 Z),.x (.int .i64 x4)]=>some ([n=1,c=4,t=10],i (if saB x0 A I Z x4=true then 0 else 1))
  |_=>none
 |_=>none
def fF(n:Nat)(a b c U O:Nat->Int):UU:=λl=>some ([sV n a b c U O,l=[.agg [i 4,i 10,sls n a b c U O]]],.tup [.top,.top,i (orE n a b c U O)])
theorem nZ:VM VL 83 yB:=by
 refine ⟨(UC Tryz.func83),?_⟩;intro avs ns res h hn;unfold yB at h;split at h;rename_i c t n f;split at h;rename_i x0 A I Z x4 hf;cases h;obtain rfl:n=1:=hn _ VS;obtain rfl:c=4:=hn (c=4) VS;obtain rfl:t=10:=hn (t=10) VS;have h1:=(NO 1 (λ_=>x0) (λ_=>A) (λ_=>I) (λ_=>Z) (λ_=>x4) VG).same (.cons (LS.same (.cons (.refl _) (.cons (.refl _) (.cons (.lst 5 1 f _ (λk hk=>by
  obtain rfl:k=0:=VG;exact hf)) .nil)))) .nil)
 have e:zX 1 (λ_=>x0) (λ_=>A) (λ_=>I) (λ_=>Z) (λ_=>x4)=saB x0 A I Z x4:=by
  unfold zX;cases hb:saB x0 A I Z x4 with
  |true=>exact GI.2 λj _=>hb
  |false=>exact Bool.eq_false_iff.2 λh=>Bool.noConfusion (hb.symm.trans (GI.1 h 0 VG))
 rw [e] at h1;exact h1;cases h;cases h
theorem nY(n:Nat)(a b c U O:Nat->Int):VM VL 213 (fF n a b c U O):=by
 refine ⟨(UC Tryz.func213),?_⟩;intro avs ns res h hn;cases h;have e:=hn _ (HM _ GB);subst e;exact Qm2 n a b c U O (hn _ GB)
section
variable {s:HS}{x0 A I Z x4:Int}
theorem Zy1(h:saB x0 A I Z x4=false):slE s x0 A I Z x4=2:=by
 unfold slE;rw [h];rfl
theorem Zy0(h:saB x0 A I Z x4=true)(h7:(!decide ((s.ns:Int)<8))=true):slE s x0 A I Z x4=3:=by
 unfold slE;simp at h7;rw [if_pos h,if_neg VG]
theorem Zx9(h:saB x0 A I Z x4=true)(h7:(!decide ((s.ns:Int)<8))=false)(h8:(!orE (s.ns+1) (H3 s.ns s.sa x0) (H3 s.ns s.sb A) (H3 s.ns s.sc I) (H3 s.ns s.sl Z) (H3 s.ns s.sh x4)==0)=true):slE s x0 A I Z x4=9:=by
 unfold slE;simp at h7 h8;rw [if_pos h,if_pos VG,if_neg h8]
theorem Zy2(h:saB x0 A I Z x4=true)(h7:(!decide ((s.ns:Int)<8))=false)(h8:(!orE (s.ns+1) (H3 s.ns s.sa x0) (H3 s.ns s.sb A) (H3 s.ns s.sc I) (H3 s.ns s.sl Z) (H3 s.ns s.sh x4)==0)=false):slE s x0 A I Z x4=0:=by
 unfold slE;simp at h7 h8;rw [if_pos h,if_pos VG,if_pos h8]
theorem slV(h:saB x0 A I Z x4=true)(h7:(!decide ((s.ns:Int)<8))=false)(hs:sV s.ns s.sa s.sb s.sc s.sl s.sh):sV (s.ns+1) (H3 s.ns s.sa x0) (H3 s.ns s.sb A) (H3 s.ns s.sc I) (H3 s.ns s.sl Z) (H3 s.ns s.sh x4):=by
 simp at h7;refine ⟨VG,λk hk=>?_⟩;unfold H3;by_cases hk':k<s.ns;simp only [if_pos hk'];exact hs.2 k hk';simp only [if_neg hk'];exact h
end
theorem ifB{b:Bool}(h:(!(if b=true then (0:Int) else 1)==0)=false):b=true:=by cases b<;>simp_all
theorem ifB'{b:Bool}(h:(!(if b=true then (0:Int) else 1)==0)=true):b=false:=by cases b<;>simp_all
noncomputable def ME:HY:=rX Tryz.prog [] {} [] Tryz.f39 (U5 Tryz.f39)
theorem pS:G8 VL 39 ME:=
 RH (G:=[]) (X:=WC) (L:=[]) Aa Ad VW (UC Tryz.func39) Tryz.func39 (UR Tryz.f39) U0
section
variable (s:HS)(x0 A I Z x4:Int)
noncomputable abbrev Qi9:DU:=rW Tryz.prog [(83,yB),(212,(Qi4 s.ns s.sa s.sb s.sc s.sl s.sh)),(213,(fF (s.ns+1) (H3 s.ns s.sa x0) (H3 s.ns s.sb A) (H3 s.ns s.sc I) (H3 s.ns s.sl Z) (H3 s.ns s.sh x4)))] {R:=[],H:=[(39,ME)] } [(145,FZ)] [] Tryz.f181 (U5 Tryz.f181)
theorem Qp1:D2 VL 181 (Qi9 s x0 A I Z x4):=
 FN (G:=[(83,yB),(212,(Qi4 s.ns s.sa s.sb s.sc s.sl s.sh)),(213,(fF (s.ns+1) (H3 s.ns s.sa x0) (H3 s.ns s.sb A) (H3 s.ns s.sc I) (H3 s.ns s.sl Z) (H3 s.ns s.sh x4)))]) (X:={R:=[],H:=[(39,ME)] }) (PX:=[(145,FZ)]) (L:=[]) (Ae nZ (Ae (Xh1 s.ns s.sa s.sb s.sc s.sl s.sh) (Ae (nY (s.ns+1) (H3 s.ns s.sa x0) (H3 s.ns s.sb A) (H3 s.ns s.sc I) (H3 s.ns s.sl Z) (H3 s.ns s.sh x4)) Aa))) (Ai Ab (Ag pS Ac)) (UQ.cons RL (UQ.nil _)) VW (UC Tryz.func181) Tryz.func181 (UR Tryz.f181) (λj cj _ sp hsp=>by simp at hsp)
end
abbrev Z9(s:HS)(V:Nat->ByteArray):List AV:=[hR s.nr s,iI s.pl,iI s.ph,hY s.nb s,hC s.nc s,lst 5 (s.ns+1) λk=>[iI (H3 s.ns (s.sa) (VX (U2 (UM 7) V 1)) k),iI (H3 s.ns (s.sb) (VX (U2 (UM 7) V 2)) k),iI (H3 s.ns (s.sc) (VX (U2 (UM 7) V 3)) k),iI (H3 s.ns (s.sl) (VX (U2 (UM 7) V 4)) k),iI (H3 s.ns (s.sh) (VX (U2 (UM 7) V 5)) k)]]
theorem Xf5(V:Nat->ByteArray)(n:Nat)(str:ByteArray)(s:HS)(VO:vK str n (U2 (UM 7) V))(UD:sV s.ns s.sa s.sb s.sc s.sl s.sh):wF VL 106 [.ptr 0 0,.x (.string str)] (X7 s) 901 [[.ptr 0 0,.row 1,.row 2]] 211 (OS (slS s (VX (V 0)) (VX (V 1)) (VX (V 2)) (VX (V 3)) (VX (V 4)))) (OX s) (rsE (fmE (U2 (UM 7) V) n 5 (slE s (VX (V 0)) (VX (V 1)) (VX (V 2)) (VX (V 3)) (VX (V 4))))):=by
 refine LE (PX:=[(145,FZ),(146,jA),(181,(Qi9 s (VX (V 0)) (VX (V 1)) (VX (V 2)) (VX (V 3)) (VX (V 4))))]) (L:=[yU (U2 (UM 7) V) n 5 181 s]) (Ae (L7 VO) (Ae wD Aa)) Ad (UQ.cons RL (UQ.cons wL (UQ.cons (Qp1 s (VX (V 0)) (VX (V 1)) (VX (V 2)) (VX (V 3)) (VX (V 4))) (UQ.nil _)))) VW (UC Tryz.func106) Tryz.func106 (UR Tryz.f106) (LA (lpE (b:= .loop N6) VQ<|uZ (U2 (UM 7) V) n 5 181 s VO.2.2.2 (B0 VO))) (N:=[]) (t:=let z0:=(slS s (VX (V 0)) (VX (V 1)) (VX (V 2)) (VX (V 3)) (VX (V 4)));let z1:=(U2 (UM 7) V (0:Int).toNat);let z2:=(need [[Q5]=[Q5],H5 (hL s) QT,QA s,QB s] (leaf (false,(4:Int))));(need [MW str str {data:=#[32] }] (need [UG 0 n] (branch (wdO z1) (need [VI (wdM (wdK z1)+1)] (branch (!(n:Int)==wdM (wdK z1)+1) z2 (need [(0:Int)<=1/\(1:Int)<=(n:Int)/\(n:Int)<=(n:Int)] (need [QO,VU (lst 1 n λk=>[FL (U2 (UM 7) V k)]),ZP,WI,(lst 1 (n-(1:Int).toNat) λi=>[AV.x (.string (U2 (UM 7) V ((1:Int).toNat+i)))])=lst 1 (n-1) λj=>[FL (U2 (UM 7) V (1+j))],(↑(n-(1:Int).toNat):Int)=(↑(n-1):Int),(0:Int)=(↑(0:Nat):Int),0=0,∀(i:Nat),i<0->[]=[iI (VX (U2 (UM 7) V (1+i)))],wdM (wdK z1)=5,VU (AV.fn (Fn.func 181) [] []),XH s,JO s,JP s,XW s,XN s,XO s,KL s,∀(i:Nat),i<s.xn->s.xg i=s.xg i,KM s,∀(i:Nat),i<s.yn->s.yg i=s.yg i,QO,JU,JV] (branch (nuB (U2 (UM 7) V) n) (need [UG 0 (↑(n-1):Int)] (need [(0:Int).toNat<n-1] (need [UG 1 (↑(n-1):Int)] (need [(1:Int).toNat<n-1] (need [UG 2 (↑(n-1):Int)] (need [(2:Int).toNat<n-1] (need [UG 3 (↑(n-1):Int)] (need [(3:Int).toNat<n-1] (need [UG 4 (↑(n-1):Int)] (need [(4:Int).toNat<n-1] (need [1=1,QY,W9] (branch (!(if saB (VX (U2 (UM 7) V 1)) (VX (U2 (UM 7) V 2)) (VX (U2 (UM 7) V 3)) (VX (U2 (UM 7) V 4)) (VX (U2 (UM 7) V 5))=true then (0:Int) else (1:Int))==0) (need [[Q5]=[Q5],H5 (hL s) QT,QA s,QB s] (leaf (false,(2:Int)))) (branch (!decide ((↑s.ns:Int)<8)) (need [[Q5]=[Q5],H5 (hL s) QT,QA s,QB s] (leaf (false,(3:Int)))) (need [XO s,s.ns<=100000] (need [sV (s.ns+1) (H3 s.ns (s.sa) (VX (V 0))) (H3 s.ns (s.sb) (VX (V 1))) (H3 s.ns (s.sc) (VX (V 2))) (H3 s.ns (s.sl) (VX (V 3))) (H3 s.ns (s.sh) (VX (V 4))),[agg [iI 4,iI 10,lst 5 (s.ns+1) λk=>[iI (H3 s.ns (s.sa) (VX (U2 (UM 7) V 1)) k),iI (H3 s.ns (s.sb) (VX (U2 (UM 7) V 2)) k),iI (H3 s.ns (s.sc) (VX (U2 (UM 7) V 3)) k),iI (H3 s.ns (s.sl) (VX (U2 (UM 7) V 4)) k),iI (H3 s.ns (s.sh) (VX (U2 (UM 7) V 5)) k)]]]=[agg [iI 4,iI 10,lst 5 (s.ns+1) λk=>[iI (H3 s.ns (s.sa) (VX (V 0)) k),iI (H3 s.ns (s.sb) (VX (V 1)) k),iI (H3 s.ns (s.sc) (VX (V 2)) k),iI (H3 s.ns (s.sl) (VX (V 3)) k),iI (H3 s.ns (s.sh) (VX (V 4)) k)]]]] (branch (!orE (s.ns+1) (H3 s.ns (s.sa) (VX (V 0))) (H3 s.ns (s.sb) (VX (V 1))) (H3 s.ns (s.sc) (VX (V 2))) (H3 s.ns (s.sl) (VX (V 3))) (H3 s.ns (s.sh) (VX (V 4)))==0) (need [[Q5]=[Q5],H5 (Z9 s V) QT,QA s,QB s] (leaf (false,(9:Int)))) (need [[Q5]=[Q5],H5 (Z9 s V) (hL z0),((23:TypeId),1,s.xn,s.xg)=((23:TypeId),1,z0.xn,z0.xg),((9:TypeId),1,s.yn,s.yg)=((9:TypeId),1,z0.yn,z0.yg)] (leaf (true,(0:Int)))))))))))))))))))) (need [[Q5]=[Q5],H5 QT QT,QA s,QB s] (leaf (false,(4:Int))))))))) z2)))) VQ ?_
 have hw:wdO (U2 (UM 7) V (Int.toNat 0))=true:=VQ;have hm:wdM (wdK (U2 (UM 7) V (Int.toNat 0)))=5:=VQ;have hn1:1<=n:=by have:=VO.2.1;omega
 have hnl:=B0 VO;simp only [VJ.sat,U8,UE,hm,hw,true_imp_iff];refine ⟨⟨rfl,rfl⟩,⟨VG,VG⟩,⟨by simp only [VI];omega,λh4=>?_,λh4=>?_⟩,λh=>by cases h⟩
 exact V4
 ·have hN:n=5+1:=by
   simp at h4;omega
  refine ⟨⟨VG,VG,VG⟩,?_,λh5=>?_,λh5=>?_⟩
  rotate_left 2
  exact V5
  ·all_goals exact yI
  have hk1:n-1=5:=VG;have hx0:VX (U2 (UM 7) V 1)=VX (V 0):=rfl;have hx1:VX (U2 (UM 7) V 2)=VX (V 1):=rfl;have hx2:VX (U2 (UM 7) V 3)=VX (V 2):=rfl;have hx3:VX (U2 (UM 7) V 4)=VX (V 3):=rfl;have hx4:VX (U2 (UM 7) V 5)=VX (V 4):=rfl;rw [hk1];simp only [hx0,hx1,hx2,hx3,hx4];have hns:=UD.1;refine ⟨VG,by decide,VG,by decide,VG,by decide,VG,by decide,VG,by decide,λh6=>⟨DF _ _ _ _ _ _,F4 hN h5 (Zy1 (ifB' h6)) (by decide)⟩,λh6=>⟨λh7=>⟨DF _ _ _ _ _ _,F4 hN h5 (Zy0 (ifB h6) h7) (by decide)⟩,λh7=>⟨VG,⟨slV (ifB h6) h7 UD,trivial⟩,λh8=>⟨DF _ _ _ _ _ _,F4 hN h5 (Zx9 (ifB h6) h7 h8) (by decide)⟩,λh8=>⟨⟨⟨B2 s,zG _,zG _,B5 s,B4 s,P7 (slS s (VX (V 0)) (VX (V 1)) (VX (V 2)) (VX (V 3)) (VX (V 4))),trivial⟩,rfl,rfl⟩,uI hN h5 (Zy2 (ifB h6) h7 h8)⟩⟩⟩⟩
theorem Wm1(r v:Int)(m:Nat)(g:Nat->Int)(VO:1<=m):VV VL 208 [.agg [i r,i v],.ro [.lst 1 m (λk=>[i (g k)])]] (bl (!(r==g 0))):=by
 refine GS Tryz.func208 (t:=need [UG 0 m] (leaf (RV.x (.bool (r != g (0:Int).toNat))))) VQ ?_;simp only [VJ.sat,U8,UZ,UB,UE,Int.toNat_zero];refine ⟨VG,?_⟩;show (r != g 0)=_;rfl
def Qg7(m:Nat)(g:Nat->Int):UU
 |[.agg [.x (.int .i64 r),.x (.int .i64 v)],b]=>some ([1<=m,[b]=[.ro [.lst 1 m (λk=>[i (g k)])]]],bl (!(r==g 0)))
 |_=>none
theorem Wm0(m:Nat)(g:Nat->Int):VM VL 208 (Qg7 m g):=by
 refine ⟨(UC Tryz.func208),?_⟩;intro avs ns res h hn;unfold Qg7 at h;split at h;cases h;have e:=hn _ (HM _ GB);injection e with e _
 subst e;exact Wm1 _ _ m g (hn _ GB);cases h
theorem Qq2(r v:Int)(m:Nat)(g:Nat->Int)(VO:1<=m):VV VL 236 [.agg [i r,i v],.ro [.fn (.func 208) [] [.ro [.lst 1 m (λk=>[i (g k)])]]]] (bl (r==g 0)):=by
 refine VY (L:=[]) (Ae (Wm0 m g) Aa) VW Tryz.func236 (UR Tryz.f236) U0 (t:=need [1<=m,VU ([AV.ro [lst 1 m λk=>[iI (g k)]]])] (leaf (RV.x (.bool !!r==g 0)))) VQ ?_;simp only [VJ.sat,U8,UZ,UB,UE];refine ⟨VO,?_⟩;show (!!(r==g 0))=_;simp
def m9(m:Nat)(g:Nat->Int):UU
 |[.agg [.x (.int .i64 r),.x (.int .i64 v)],b]=>some ([1<=m,[b]=[.ro [.fn (.func 208) [] [.ro [.lst 1 m (λk=>[i (g k)])]]]]],bl (r==g 0))
 |_=>none
theorem OF(m:Nat)(g:Nat->Int):VM VL 236 (m9 m g):=by
 refine ⟨(UC Tryz.func236),?_⟩;intro avs ns res h hn;unfold m9 at h;split at h;cases h;have e:=hn _ (HM _ GB);injection e with e _
 subst e;exact Qq2 _ _ m g (hn _ GB);cases h
def seJ(r:Nat->Int)(x:Int)(j:Nat):Bool:=r j==x
def seN(n:Nat)(r:Nat->Int)(x:Int):Bool:=HW (λj=> !(r j==x)) n
abbrev W5(m:Nat)(g:Nat->Int):AV:=AV.fn (Fn.func 236) [] [AV.ro [AV.fn (Fn.func 208) [] [AV.ro [lst 1 m λk=>[iI (g k)]]]]]
section
variable (n:Nat)
abbrev ZK(r:Nat->Int)(v:Nat->Int):AV:=lst 2 n λk=>[iI (r k),iI (v k)]
def d6(r v:Nat->Int)(m:Nat)(g:Nat->Int):St:={σ:=[ZK n r v,W5 m g]++HF 5 [iI (n:Int)]++HF 11 [],m:=[],nx:=4}
noncomputable def Qj9:Code:=U7 (VP (U5 Tryz.f252) 0)
def O5(r v:Nat->Int)(m:Nat)(g:Nat->Int)(k:Nat):St:=(upM [(8,i k)] (d6 n r v m g))
def BV(r v:Nat->Int)(m:Nat)(g:Nat->Int)(k:Nat):G4->Option St
 | .ret=>some (upM [(4,i (GT ((seJ r (g 0))) n))] (d6 n r v m g))
 | .exit 0=>some (upM [] (d6 n r v m g))
 |_=>none
def Qf2(r v:Nat->Int)(m:Nat)(g:Nat->Int):CT:= .branch (decide (GT ((seJ r (g 0))) n<n)) (.leaf (.ret,(BV n r v m g 0 .ret).getD (d6 n r v m g))) (.leaf (.exit 0,(BV n r v m g 0 (.exit 0)).getD (d6 n r v m g)))
def mJ(r v:Nat->Int)(m:Nat)(g:Nat->Int):UF:=(HD (O5 n r v m g (0)) (Qf2 n r v m g))
end
abbrev K1(m:Nat)(g:Nat->Int):List AV:=[AV.ro [AV.fn (Fn.func 208) [] [AV.ro [lst 1 m λk=>[iI (g k)]]]]]
section
variable (n:Nat)(r v:Nat->Int)(m:Nat)(g:Nat->Int)
theorem Qu4(VO:n<=100000)(UD:1<=m):G5 VL (.loop Qj9) (mJ n r v m g):=by
 refine HC (L:=[]) (Ae (OF m g) Aa) VW U0 (X:=Nat) (O5 n r v m g) (λk=>k<=n/\ ∀j,j<k->(seJ r (g 0)) j=false) (λk=>n-k) (BV n r v m g) (x0:=0) ⟨VG,λj hj=>VG⟩ ?_ ?_ ?_;rintro k;kernel_rfl;rintro k y E h;unfold BV at h;split at h;cases h;kernel_rfl;cases h;kernel_rfl;cases h
 ·rintro Q hQ k hx;refine ⟨(k+1),?_⟩;(with_reducible refine DA (t:=branch (decide ((k:Int)<(n:Int))) (need [UG k n] (need [1<=m,VU (K1 m g)] (branch (r k==g 0) (need [VU (ZK n r v),VU (W5 m g),(k:Int)=(↑(GT (seJ r (g 0)) n):Int),VU (n:Int)] (leaf G4.ret)) (need [VI ((k:Int)+1)] (need [VU (ZK n r v),VU (W5 m g),VU (n:Int),(k:Int)+1=(↑(k+1):Int)] (leaf G4.normal)))))) (need [VU (ZK n r v),VU (W5 m g),VU (n:Int)] (leaf (G4.exit 0)))) VQ ?_);simp only [Qf2,BV,VJ.sat,GQ,H6] at hQ;simp only [VJ.sat,U8,UE,H6,VI,BV,FC];have Xh9:k<n->((seJ r (g 0))) k=true->GT ((seJ r (g 0))) n=k:=λh hb=>zM h hb hx.2;have PG: ¬k<n->GT ((seJ r (g 0))) n=n:=λh=>BX (λj hj=>hx.2 j VG);have hgo:((seJ r (g 0))) k=false-> ∀j,j<k+1->((seJ r (g 0))) j=false:=by
   intro hb j hj;rcases (show j<k\/j=k by omega) with h1|rfl
   exact hx.2 j h1;exact hb
  refine ⟨λh=>⟨VG,UD,?_⟩,λh=>?_⟩
  rotate_left
  intro E hE;cases hE;exact hQ.2 (by rw [PG VG];omega)
  have hk:k<n:=VG;refine ⟨λhb=>?_,λhb=>?_⟩;exact VA;exact ⟨VG,VG,⟨VG,hgo hb⟩,VG⟩
theorem Xg8(VO:n<=100000)(UD:1<=m):VV VL 252 [rdl n r v,.fn (.func 236) [] [.ro [.fn (.func 208) [] [.ro [.lst 1 m (λk=>[i (g k)])]]]]] (i (if GT ((seJ r (g 0))) n<n then (GT ((seJ r (g 0))) n:Int) else -1)):=by
 refine VY (L:=[mJ n r v m g]) (Ae (OF m g) Aa) VW Tryz.func252 (UR Tryz.f252) (G0 (lpE (b:= .loop Qj9) VQ<|Qu4 n r v m g VO UD)) (t:=need [VU (ZK n r v),VU (W5 m g),VU (n:Int),(0:Int)=(↑(0:Nat):Int)] (branch (decide (GT (seJ r (g 0)) n<n)) (leaf (RV.x (.int .i64 (↑(GT (seJ r (g 0)) n):Int)))) (leaf (RV.x (KH))))) VQ ?_
 exact V8
def Zp1:UU:=λl=>some ([l=[rdl n r v,.fn (.func 236) [] [.ro [.fn (.func 208) [] [.ro [.lst 1 m (λk=>[i (g k)])]]]]]],i (if GT (seJ r (g 0)) n<n then (GT (seJ r (g 0)) n:Int) else -1))
theorem Wl3(VO:n<=100000)(UD:1<=m):VM VL 252 (Zp1 n r v m g):=by
 refine ⟨(UC Tryz.func252),?_⟩;intro avs ns res h hn;cases h;have e:=hn _ GB;subst e;exact Xg8 n r v m g VO UD
theorem Xi5(VO:n<=100000)(UD:1<=m):VV VL 235 [rdl n r v,.fn (.func 236) [] [.ro [.fn (.func 208) [] [.ro [.lst 1 m (λk=>[i (g k)])]]]]] (bl (!seN n r (g 0))):=by
 refine VY (L:=[]) (Ae (Wl3 n r v m g VO UD) Aa) VW Tryz.func235 (UR Tryz.f235) U0 (t:=need [VU ([ZK n r v,W5 m g])] (leaf (RV.x (.bool (decide ((if GT (seJ r (g 0)) n<n then (↑(GT (seJ r (g 0)) n):Int) else (-1:Int))>=(0:Int))))))) VQ ?_
 simp only [VJ.sat,U8,UZ,UB,UE];unfold seN;rw [kH];have e:(λk=> !(λj=> !(r j==g 0)) k)=seJ r (g 0):=by
  funext k;simp [seJ]
 rw [e];have:=F0 (seJ r (g 0)) n;show decide ((if GT (seJ r (g 0)) n<n then (GT (seJ r (g 0)) n:Int) else -1)>=0)=_
 split<;>simp<;>omega
def Zp3:UU:=λl=>some ([l=[rdl n r v,.fn (.func 236) [] [.ro [.fn (.func 208) [] [.ro [.lst 1 m (λk=>[i (g k)])]]]]]],bl (!seN n r (g 0)))
theorem Wo1(VO:n<=100000)(UD:1<=m):VM VL 235 (Zp3 n r v m g):=by
 refine ⟨(UC Tryz.func235),?_⟩;intro avs ns res h hn;cases h;have e:=hn _ GB;subst e;exact Xi5 n r v m g VO UD
theorem Wo5(VO:n<=100000)(UD:1<=m):VV VL 207 [rdl n r v,.fn (.func 208) [] [.ro [.lst 1 m (λk=>[i (g k)])]]] (bl (seN n r (g 0))):=by
 refine VY (L:=[]) (Ae (Wo1 n r v m g VO UD) Aa) VW Tryz.func207 (UR Tryz.f207) U0 (t:=need [VU ([ZK n r v,W5 m g])] (leaf (RV.x (.bool !!seN n r (g 0))))) VQ ?_;simp only [VJ.sat,U8,UZ,UB,UE];show (!!seN n r (g 0))=_;simp
end
section
variable (s:HS)
def laB:Nat:=((s.nb:Int)-1).toNat
def seM(k:Nat):Nat:=if k=laB s then s.qm k+1 else s.qm k
def seR(x0:Int)(k j:Nat):Int:=if k=laB s then H3 (s.qm k) (s.qr k) x0 j else s.qr k j
def seV(A:Int)(k j:Nat):Int:=if k=laB s then H3 (s.qm k) (s.qv k) A j else s.qv k j
def seS(x0 A:Int):HS:={s with qm:=seM s,qr:=seR s x0,qv:=seV s A}
def seE(x0 A:Int):Int:=if 1<=s.nb then (if bt 0 x0 2=true then (if seN (s.qm (laB s)) (s.qr (laB s)) x0=true then (if bt (-1000) A 2000=true then (if boE s.nb s.ql s.qh (seM s) (seR s x0) (seV s A)=0 then 0 else 9) else 2) else 6) else 7) else 8
end
section
variable (N:Nat)(U O:Nat->Int)(m:Nat->Nat)(r v:Nat->Nat->Int)
def wE:UU
 |[.agg l']=>some ([bV N U O m r v,H5 l' [ofs,i 1,bds N U O m r v]],.tup [.top,i (boE N U O m r v)])
 |_=>none
theorem Qc5:Idf (bds N U O m r v):= .lst _ _ _ λk _ x hx=>by
 simp only [GK,DP,or_false] at hx;rcases hx with rfl|rfl|rfl;exact .x _;exact .x _;exact V7
end
theorem Wf6{e:UJ}{w:World}{l l':List AV}{u:Value}(h:H5 l l')(r:Rep e w (.agg l) u):Rep e w (.agg l') u:=by
 cases r with
 |agg _ vs h1 h2=>exact Rep.aggL (dO h ⟨h1,h2⟩)
theorem aO(N:Nat)(U O:Nat->Int)(m:Nat->Nat)(r v:Nat->Nat->Int):VM VL 19 (wE N U O m r v):=by
 refine ⟨(UC Tryz.func19),?_⟩;intro avs ns res h hn;unfold wE at h;split at h;rename_i l';cases h;have h1:bV N U O m r v:=hn _ GB;have h2:H5 l' [ofs,i 1,bds N U O m r v]:=hn _ (HM _ GB);intro e w args q1 q2 q3 q4;have q5:VZ e w [.agg [ofs,i 1,bds N U O m r v]] args:=by
  obtain ⟨u,us,rfl,g1,g2⟩:=q4.cons_inv;exact .cons (Wf6 h2 g1) g2
 refine (wC N U O m r v h1 e w args q1 q2 (λa ha=>?_) q5).mono ?_;rcases qL.1 ha with rfl;refine .agg _ λx hx=>?_;simp only [GK,DP,or_false] at hx;rcases hx with rfl|rfl|rfl;exact V7;exact .x _;exact Qc5 _ _ _ _ _ _;rintro en w' ⟨u,rfl,g1,g2⟩;have k:DV (tup [.lst 2 (boN N U O m r v) (λk=>[i (boL N U O m r v k),i (boH N U O m r v k)]),i (boE N U O m r v)]) (.tup [.top,i (boE N U O m r v)]):=⟨trivial,(P5 _).2,trivial⟩;exact ⟨u,rfl,g1,LN k g2⟩;cases h
section
variable {s:HS}
theorem Zz5{x0 A:Int}(h:bV s.nb s.ql s.qh s.qm s.qr s.qv)(h1:1<=s.nb)(h2:bt 0 x0 2=true)(h3:seN (s.qm (laB s)) (s.qr (laB s)) x0=true)(h4:bt (-1000) A 2000=true):bV s.nb s.ql s.qh (seM s) (seR s x0) (seV s A):=by
 rw [bt_iff] at h2 h4;have h3: ∀j,j<s.qm (laB s)->s.qr (laB s) j≠x0:=λj hj=>by simpa using GI.1 h3 j hj
 have hla:laB s<s.nb:=by unfold laB;omega
 obtain ⟨⟨g0,g1⟩,g2⟩:=h;have hq:s.qm (laB s)<=3:=by
  rcases An 3 (s.qm (laB s)) with hq|hq;obtain ⟨_,_,_,_,g3⟩:=g1 _ hla;have a0:=g3 0 VG;have a1:=g3 1 VG;have a2:=g3 2 VG;have a3:=g3 3 VG;have b01:=g2 _ hla 0 1 VG VG;have b02:=g2 _ hla 0 2 VG VG;have b03:=g2 _ hla 0 3 VG VG;have b12:=g2 _ hla 1 2 VG VG;have b13:=g2 _ hla 1 3 VG VG;have b23:=g2 _ hla 2 3 VG VG;omega;exact hq
 refine ⟨⟨g0,λb hb=>?_⟩,λb hb j k hjk hk=>?_⟩;obtain ⟨k1,k2,k3,k4,k5⟩:=g1 b hb;unfold seM seR seV H3;by_cases e:b=laB s;subst e;simp only [if_true];refine ⟨VG,k2,k3,k4,λj hj=>?_⟩;by_cases e:j<s.qm (laB s);simp only [if_pos e];exact k5 j e;simp only [if_neg e];omega;simp only [if_neg e];exact ⟨k1,k2,k3,k4,k5⟩;unfold seM at hk;unfold seR H3;by_cases e:b=laB s;subst e;simp only [if_true] at hk ⊢;by_cases e:k<s.qm (laB s);simp only [if_pos e,if_pos (show j<s.qm (laB s) by omega)]
 exact g2 _ hb j k hjk e;simp only [if_neg e,if_pos (show j<s.qm (laB s) by omega)]
 exact h3 j VG;simp only [if_neg e] at hk ⊢;exact g2 _ hb j k hjk hk
theorem Zy7{k:Nat}(h:k=laB s):seM s k=s.qm (laB s)+1:=by rw [h];exact if_pos rfl
theorem Zy8{k:Nat}(h: ¬k=laB s):seM s k=s.qm k:=if_neg h
theorem Zy5{x:Int}{k j:Nat}(h:k=laB s):seR s x k j=H3 (s.qm (laB s)) (s.qr (laB s)) x j:=by rw [h];exact if_pos rfl
theorem Zy6{x:Int}{k j:Nat}(h: ¬k=laB s):seR s x k j=s.qr k j:=if_neg h
theorem Zy3{x:Int}{k j:Nat}(h:k=laB s):seV s x k j=H3 (s.qm (laB s)) (s.qv (laB s)) x j:=by rw [h];exact if_pos rfl
theorem Zy4{x:Int}{k j:Nat}(h: ¬k=laB s):seV s x k j=s.qv k j:=if_neg h
theorem Zz0{x0 A:Int}(h:(!decide ((s.nb:Int)-1>=0))=true):seE s x0 A=8:=by
 simp at h;exact if_neg VG
theorem Zz1{x0 A:Int}(h1:1<=s.nb)(h2:bt 0 x0 2=false):seE s x0 A=7:=by
 unfold seE;rw [if_pos h1,h2];rfl
theorem Zz2{x0 A:Int}(h1:1<=s.nb)(h2:bt 0 x0 2=true)(h3:seN (s.qm (laB s)) (s.qr (laB s)) x0=false):seE s x0 A=6:=by
 unfold seE;rw [if_pos h1,if_pos h2,h3];rfl
theorem Zz3{x0 A:Int}(h1:1<=s.nb)(h2:bt 0 x0 2=true)(h3:seN (s.qm (laB s)) (s.qr (laB s)) x0=true)(h4:bt (-1000) A 2000=false):seE s x0 A=2:=by
 unfold seE;rw [if_pos h1,if_pos h2,if_pos h3,h4];rfl
theorem Zy9{x0 A:Int}(h1:1<=s.nb)(h2:bt 0 x0 2=true)(h3:seN (s.qm (laB s)) (s.qr (laB s)) x0=true)(h4:bt (-1000) A 2000=true)(h5:(!boE s.nb s.ql s.qh (seM s) (seR s x0) (seV s A)==0)=true):seE s x0 A=9:=by
 unfold seE;simp at h5;rw [if_pos h1,if_pos h2,if_pos h3,if_pos h4,if_neg h5]
theorem Zz4{x0 A:Int}(h1:1<=s.nb)(h2:bt 0 x0 2=true)(h3:seN (s.qm (laB s)) (s.qr (laB s)) x0=true)(h4:bt (-1000) A 2000=true)(h5:(!boE s.nb s.ql s.qh (seM s) (seR s x0) (seV s A)==0)=false):seE s x0 A=0:=by
 unfold seE;simp at h5;rw [if_pos h1,if_pos h2,if_pos h3,if_pos h4,if_pos h5]
end
theorem Zk1(s:HS)(k:Nat): ∀x∈[i (s.ql k),i (s.qh k),bts (s.qm k) (s.qr k) (s.qv k)],Idf x:=λx hx=>by
 simp only [GK,DP,or_false] at hx;rcases hx with rfl|rfl|rfl;exact .x _;exact .x _;exact V7
noncomputable def fJ:HY:=rX Tryz.prog [] {} [] Tryz.f46 (U5 Tryz.f46)
theorem iG:G8 VL 46 fJ:=
 RH (G:=[]) (X:=WC) (L:=[]) Aa Ad VW (UC Tryz.func46) Tryz.func46 (UR Tryz.f46) U0
section
variable (n:Nat)(r v:Nat->Int)(m:Nat)(g:Nat->Int)
def M8:UU:=λl=>some ([n<=100000,1<=m,l=[rdl n r v,.fn (.func 208) [] [.ro [.lst 1 m (λk=>[i (g k)])]]]],bl (seN n r (g 0)))
theorem Qq1:VM VL 207 (M8 n r v m g):=by
 refine ⟨(UC Tryz.func207),?_⟩;intro avs ns res h hn;cases h;have e:=hn _ (HM _ (HM _ GB));subst e;exact Wo5 n r v m g (hn _ GB) (hn _ (HM _ GB))
end
section
variable (s:HS)(x0 A:Int)(m:Nat)(g:Nat->Int)
noncomputable abbrev Wx9:DU:=rW Tryz.prog [(36,RJ),(207,(M8 (s.qm (laB s)) (s.qr (laB s)) (s.qv (laB s)) m g)),(210,(Qi3 (s.qm (laB s)) (s.qr (laB s)) (s.qv (laB s)))),(19,(wE s.nb s.ql s.qh (seM s) (seR s x0) (seV s A)))] {R:=[],H:=[(209,fL),(46,fJ)],C:=[(46,(cR xT))] } [(145,FZ)] [] Tryz.f178 (U5 Tryz.f178)
theorem Wl9:D2 VL 178 (Wx9 s x0 A m g):=
 FN (G:=[(36,RJ),(207,(M8 (s.qm (laB s)) (s.qr (laB s)) (s.qv (laB s)) m g)),(210,(Qi3 (s.qm (laB s)) (s.qr (laB s)) (s.qv (laB s)))),(19,(wE s.nb s.ql s.qh (seM s) (seR s x0) (seV s A)))]) (X:={R:=[],H:=[(209,fL),(46,fJ)],C:=[(46,(cR xT))] }) (PX:=[(145,FZ)]) (L:=[]) (Ae PO (Ae (Qq1 (s.qm (laB s)) (s.qr (laB s)) (s.qv (laB s)) m g) (Ae (Xh0 (s.qm (laB s)) (s.qr (laB s)) (s.qv (laB s))) (Ae (aO s.nb s.ql s.qh (seM s) (seR s x0) (seV s A)) Aa)))) (Aj Ab (Ag iS (Ag iG Ac)) (Ah (xP RA) (U1.nil _))) (UQ.cons RL (UQ.nil _)) VW (UC Tryz.func178) Tryz.func178 (UR Tryz.f178) (λj cj _ sp hsp=>by simp at hsp)
end
theorem V0{p:Prop}(h:p:=by
 refine ⟨rfl,Ap _,λk hk=>⟨?_,Zk1 (seS s (VX (V 0)) (VX (V 1))) k⟩⟩
 dsimp only
 by_cases h:k=laB s;rw [show decide (k=((s.nb:Int)-1).toNat)=true from decide_eq_true h];refine ⟨(P5 _).2,(P5 _).2,⟨rfl,(Zy7 h).symm,λj hj=>?_⟩,trivial⟩;show _=[i (seR s (VX (V 0)) k j),i (seV s (VX (V 1)) k j)];rw [Zy5 h,Zy3 h];rfl;rw [show decide (k=((s.nb:Int)-1).toNat)=false from decide_eq_false h];refine ⟨(P5 _).2,(P5 _).2,⟨rfl,(Zy8 h).symm,λj hj=>?_⟩,trivial⟩;show _=[i (seR s (VX (V 0)) k j),i (seV s (VX (V 1)) k j)];rw [Zy6 h,Zy4 h];rfl):p:=h
theorem Zj2(V:Nat->ByteArray)(n:Nat)(str:ByteArray)(s:HS)(VO:vK str n (U2 (UM 4) V))(UD:bV s.nb s.ql s.qh s.qm s.qr s.qv):wF VL 106 [.ptr 0 0,.x (.string str)] (X7 s) 901 [[.ptr 0 0,.row 1,.row 2]] 211 (OS (seS s (VX (V 0)) (VX (V 1)))) (OX s) (rsE (fmE (U2 (UM 4) V) n 2 (seE s (VX (V 0)) (VX (V 1))))):=by
 refine LE (PX:=[(145,FZ),(146,jA),(178,(Wx9 s (VX (V 0)) (VX (V 1)) (n-1) (λk=>VX (U2 (UM 4) V (k+1)))))]) (L:=[yU (U2 (UM 4) V) n 2 178 s]) (Ae (L7 VO) (Ae wD Aa)) Ad (UQ.cons RL (UQ.cons wL (UQ.cons (Wl9 s (VX (V 0)) (VX (V 1)) (n-1) (λk=>VX (U2 (UM 4) V (k+1)))) (UQ.nil _)))) VW (UC Tryz.func106) Tryz.func106 (UR Tryz.f106) (LA (lpE (b:= .loop N6) VQ<|uZ (U2 (UM 4) V) n 2 178 s VO.2.2.2 (B0 VO))) (N:=[(.cell 0 3,0,0,0)]) (t:=let z5:=(VX (U2 (UM 4) V (1+(0:Int).toNat)));let z6:=(VX (U2 (UM 4) V (1+(1:Int).toNat)));let z0:=([hR s.nr s,iI s.pl,iI s.ph,lst 3 (0+s.nb) λk=>iI (if decide (k=((↑s.nb:Int)-1).toNat)=true then s.ql (k-0) else s.ql (k-0))::iI (if decide (k=((↑s.nb:Int)-1).toNat)=true then s.qh (k-0) else s.qh (k-0))::Bool.rec (bts (s.qm (k-0)) (s.qr (k-0)) (s.qv (k-0))) (lst 2 (s.qm (laB s)+1) λk=>[i (H3 (s.qm (laB s)) (s.qr (laB s)) z5 k),i (H3 (s.qm (laB s)) (s.qv (laB s)) z6 k)]) (decide (k=((↑s.nb:Int)-1).toNat))::Bool.rec ([]) ([]) (decide (k=((↑s.nb:Int)-1).toNat)),hC s.nc s,hT s.ns s]);let z1:=(seS s (VX (V 0)) (VX (V 1)));let z2:=(U2 (UM 4) V (0:Int).toNat);let z3:=((↑s.nb:Int)-1).toNat;let z4:=(need [[Q5]=[Q5],H5 (hL s) QT,QA s,QB s] (leaf (false,(4:Int))));(need [MW str str {data:=#[32] }] (need [UG 0 n] (branch (wdO z2) (need [VI (wdM (wdK z2)+1)] (branch (!(n:Int)==wdM (wdK z2)+1) z4 (need [(0:Int)<=1/\(1:Int)<=(n:Int)/\(n:Int)<=(n:Int)] (need [QO,VU (lst 1 n λk=>[FL (U2 (UM 4) V k)]),ZP,WI,(lst 1 (n-(1:Int).toNat) λi=>[AV.x (.string (U2 (UM 4) V ((1:Int).toNat+i)))])=lst 1 (n-1) λj=>[FL (U2 (UM 4) V (1+j))],(↑(n-(1:Int).toNat):Int)=(↑(n-1):Int),(0:Int)=(↑(0:Nat):Int),0=0,∀(i:Nat),i<0->[]=[iI (VX (U2 (UM 4) V (1+i)))],wdM (wdK z2)=2,VU (AV.fn (Fn.func 178) [] []),XH s,JO s,JP s,XW s,XN s,XO s,KL s,∀(i:Nat),i<s.xn->s.xg i=s.xg i,KM s,∀(i:Nat),i<s.yn->s.yg i=s.yg i,QO,JU,JV] (branch (nuB (U2 (UM 4) V) n) (need [VI ((↑s.nb:Int)-1)] (branch (!decide ((↑s.nb:Int)-1>=(0:Int))) (need [[Q5]=[Q5],H5 (hL s) QT,QA s,QB s] (leaf (false,(8:Int)))) (need [UG 0 (↑(n-1):Int)] (need [(0:Int).toNat<n-1] (need [VI ((↑(3:Nat):Int)-1)] (branch (!bt (0:Int) (VX (U2 (UM 4) V 1)) ((↑(3:Nat):Int)-1)) (need [[Q5]=[Q5],H5 (hL s) QT,QA s,QB s] (leaf (false,(7:Int)))) (need [UG ((↑s.nb:Int)-1) s.nb] (need [s.qm (laB s)<=100000,1<=n-1,[lst 2 (s.qm z3) λj=>[iI (s.qr z3 j),iI (s.qv z3 j)],AV.fn (Fn.func 208) [] [AV.ro [lst 1 (n-1) λj=>[iI (VX (U2 (UM 4) V (1+j)))]]]]=[lst 2 (s.qm (laB s)) λk=>[iI (s.qr (laB s) k),iI (s.qv (laB s) k)],AV.fn (Fn.func 208) [] [AV.ro [lst 1 (n-1) λk=>[iI (VX (U2 (UM 4) V (k+1)))]]]]] (branch (!seN (s.qm (laB s)) (s.qr (laB s)) (VX (U2 (UM 4) V 1))) (need [[Q5]=[Q5],H5 (hL s) QT,QA s,QB s] (leaf (false,(6:Int)))) (need [UG 1 (↑(n-1):Int)] (need [(1:Int).toNat<n-1] (branch (!bt (-1000:Int) (VX (U2 (UM 4) V 2)) (2000:Int)) (need [[Q5]=[Q5],H5 (hL s) QT,QA s,QB s] (leaf (false,(2:Int)))) (VJ.may (s.nb=0) VJ.fail (need [(0+s.nb)*40<=140737488355328,∀(i:Nat),i<s.nb-> ∀(a:AV),a∈[iI (s.ql i),iI (s.qh i),bts (s.qm i) (s.qr i) (s.qv i)]->AV.one a=true] (need [UG ((↑s.nb:Int)-1) (↑(0+s.nb):Int)] (need [((↑s.nb:Int)-1).toNat<0+s.nb] (need [UG 0 (↑(n-1):Int)] (need [(0:Int).toNat<n-1] (need [UG 1 (↑(n-1):Int)] (need [(1:Int).toNat<n-1] (need [(lst 2 (s.qm (((↑s.nb:Int)-1).toNat-0)) λj=>[iI (s.qr (((↑s.nb:Int)-1).toNat-0) j),iI (s.qv (((↑s.nb:Int)-1).toNat-0) j)])=lst 2 (s.qm (laB s)) λk=>[iI (s.qr (laB s) k),iI (s.qv (laB s) k)],s.qm (laB s)<=100000] (need [UG ((↑s.nb:Int)-1) (↑(0+s.nb):Int)] (need [((↑s.nb:Int)-1).toNat<0+s.nb] (need [bV s.nb (s.ql) (s.qh) (seM s) (seR s (VX (V 0))) (seV s (VX (V 1))),H5 [J8,iI 1,lst 3 (0+s.nb) λk=>iI (if decide (k=((↑s.nb:Int)-1).toNat)=true then s.ql (k-0) else s.ql (k-0))::iI (if decide (k=((↑s.nb:Int)-1).toNat)=true then s.qh (k-0) else s.qh (k-0))::Bool.rec (bts (s.qm (k-0)) (s.qr (k-0)) (s.qv (k-0))) (lst 2 (s.qm (laB s)+1) λk=>[i (H3 (s.qm (laB s)) (s.qr (laB s)) z5 k),i (H3 (s.qm (laB s)) (s.qv (laB s)) z6 k)]) (decide (k=((↑s.nb:Int)-1).toNat))::Bool.rec ([]) ([]) (decide (k=((↑s.nb:Int)-1).toNat))] [lst 2 3 λk=>[iI (oL k),iI (oH k)],iI 1,lst 3 s.nb λk=>[iI (s.ql k),iI (s.qh k),lst 2 (seM s k) λj=>[iI (seR s (VX (V 0)) k j),iI (seV s (VX (V 1)) k j)]]]] (branch (!boE s.nb (s.ql) (s.qh) (seM s) (seR s (VX (V 0))) (seV s (VX (V 1)))==0) (need [[Q5]=[Q5],H5 z0 QT,QA s,QB s] (leaf (false,(9:Int)))) (need [[Q5]=[Q5],H5 z0 (hL z1),((23:TypeId),1,s.xn,s.xg)=((23:TypeId),1,z1.xn,z1.xg),((9:TypeId),1,s.yn,s.yg)=((9:TypeId),1,z1.yn,z1.yg)] (leaf (true,(0:Int))))))))))))))))))))))))))))) (need [[Q5]=[Q5],H5 QT QT,QA s,QB s] (leaf (false,(4:Int))))))))) z4)))) VQ ?_
 have hw:wdO (U2 (UM 4) V (Int.toNat 0))=true:=VQ;have hm:wdM (wdK (U2 (UM 4) V (Int.toNat 0)))=2:=VQ;have hn1:1<=n:=by have:=VO.2.1;omega
 have hnl:=B0 VO;simp only [VJ.sat,U8,UE,hm,hw,true_imp_iff];refine ⟨⟨rfl,rfl⟩,⟨VG,VG⟩,⟨by simp only [VI];omega,λh4=>?_,λh4=>?_⟩,λh=>by cases h⟩
 exact V4
 ·have hN:n=2+1:=by
   simp at h4;omega
  refine ⟨⟨VG,VG,VG⟩,?_,λh5=>?_,λh5=>?_⟩
  rotate_left 2
  exact V5
  ·all_goals exact yI
  have hk1:n-1=2:=VG;have hx0:VX (U2 (UM 4) V 1)=VX (V 0):=rfl;have hx1:VX (U2 (UM 4) V 2)=VX (V 1):=rfl;have hq:s.nb<=6:=UD.1.1;rw [hk1];refine ⟨by simp only [VI];omega,λh6=>⟨DF _ _ _ _ _ _,F4 hN h5 (Zz0 h6) (by decide)⟩,λh6=>?_⟩
  have h6:1<=s.nb:=by simp at h6;omega
  have hla:laB s<s.nb:=by unfold laB;omega
  have hm10:=(UD.1.2 _ hla).1;refine ⟨VG,by decide,by simp only [VI];omega,λh7=>⟨DF _ _ _ _ _ _,F4 hN h5 (Zz1 h6 (bnt h7)) (by decide)⟩,λh7=>?_⟩
  have h7:bt 0 (VX (V 0)) 2=true:=bnf h7;refine ⟨VG,⟨VG,VG,by simp only [Bh 1];rfl⟩,λh8=>⟨DF _ _ _ _ _ _,F4 hN h5 (Zz2 h6 h7 (bnt h8)) (by decide)⟩,λh8=>?_⟩
  have h8:seN (s.qm (laB s)) (s.qr (laB s)) (VX (V 0))=true:=bnf h8;refine ⟨VG,by decide,λh9=>⟨DF _ _ _ _ _ _,F4 hN h5 (Zz3 h6 h7 h8 (bnt h9)) (by decide)⟩,λh9=>?_⟩
  have h9:bt (-1000) (VX (V 1)) 2000=true:=bnf h9;refine ⟨λh=>VG,⟨VG,λk hk a ha=>?_⟩,VG,VG,VG,by decide,VG,by decide,⟨rfl,VG⟩,VG,VG,⟨Zz5 UD h6 h7 h8 h9,?_⟩,λh=>⟨DF _ _ _ _ _ _,F4 hN h5 (Zy9 h6 h7 h8 h9 h) (by decide)⟩,λh=>⟨⟨⟨B2 s,zG _,zG _,?_,B4 s,P7 s,trivial⟩,rfl,rfl⟩,uI hN h5 (Zz4 h6 h7 h8 h9 h)⟩⟩
  simp only [GK,DP,or_false] at ha;rcases ha with rfl|rfl|rfl<;>simp [AV.one,Value.oneCell'];refine ⟨⟨rfl,rfl,λk hk=>⟨?_,?_⟩⟩,zG _,?_,trivial⟩;rcases (show k=0\/k=1\/k=2 by omega) with rfl|rfl|rfl<;>exact ⟨(P5 _).2,(P5 _).2,trivial⟩
  intro x hx;simp only [GK,DP,or_false] at hx;rcases hx with rfl|rfl<;>exact .x _;exact V0;exact V0
end Go.Proofs.YtakpdkmhclhlnaaGreatDoor.Hd
