/- Contracts, put together. Conditions: those of each. -/
import Derived.Test.YtakpdkmhclhlnaaGreatDoorMj
import Derived.Lib.AppendIntMem
set_option linter.unusedSimpArgs false
set_option linter.unusedVariables false
set_option maxRecDepth 100000
namespace Go.Proofs.YtakpdkmhclhlnaaGreatDoor.Hd
open Go Go.Shelf Go.Sx
theorem Qx0{e:UM}{w:World}(hgl:DD e w):Lib.TabIs Tryz.prog w "internal/strconv.uint64pow10" .u64 Lib.pow10Tab:=by
 obtain ⟨_,_,o,ho,_,T,fr,rfl⟩:=hgl 0 _ rfl;have hg:Tryz.prog.globalNamed "internal/strconv.uint64pow10"=some 0:=VX;unfold Lib.TabIs World.var?;rw [hg];show (match w.heap[0]? with|some (.cells cs _ _)=>some cs|_=>none)=_
 rw [ho];simp [Lib.pow10Tab]
theorem Ze9{e:UM}{w:World}(hgl:DD e w): ∃m,w.cell? ⟨1,0,none⟩=some (.int .i64 m):=by
 obtain ⟨_,_,o,ho,_,m,T,fr,rfl⟩:=hgl 1 _ rfl;exact ⟨m,by simp [World.cell?,ho]⟩
theorem Xd0(n:Int)(VV:VN n):VZ VQ 69 [.x (.int .i64 n)] (.x (.string ⟨(Lib.itoa n).toArray⟩)):=by
 intro e w args hro hgl FL hr;obtain ⟨u,us,rfl,h1,h2⟩:=hr.cons_inv;cases h2.nil_inv;cases h1.x_inv;unfold VN at VV;refine Calls.mono (Any.strconv_Itoa tJ n VL VL w (Qx0 hgl)) ?_;rintro en w' ⟨rfl,k,os,rfl⟩;exact ⟨_,rfl,Lib.below_grow _ w (Am _) k os,.x _⟩
def dT:G0
 |[.x (.int .i64 n)]=>some ([VN n],.x (.string ⟨(Lib.itoa n).toArray⟩))
 |_=>none
theorem T8:VS VQ 69 dT:=by
 refine ⟨(UJ Tryz.func69),?_⟩;intro avs ns res h hn;unfold dT at h;split at h
 ·cases h;exact Xd0 _ (hn _ VW)
 ·cases h
def spl(s sep:ByteArray):List ByteArray:=Lib.splitB sep 0 (Lib.countB s sep) s
theorem Qx4(s sep:ByteArray)(hs:s.size<4294967281)(h1:1<=sep.size):VZ VQ 143 [.x (.string s),.x (.string sep)] (.lst 1 (Lib.countB s sep+1) (λk=>[.x (.string ((spl s sep).getD k ByteArray.empty))])):=by
 intro e w args hro hgl FL hr;obtain ⟨u,us,rfl,r1,r2⟩:=hr.cons_inv;obtain ⟨u2,us2,rfl,r3,r4⟩:=r2.cons_inv;cases r4.nil_inv;cases r1.x_inv;cases r3.x_inv;obtain ⟨m,hm⟩:=Ze9 hgl;have hle:=Lib.countB_le sep h1 s.size s (Am _);have HW:=Lib.splitB_all sep h1 0 _ s rfl;refine Calls.mono (Any.strings_Split Wd3 VX s sep m w hs hm h1) ?_;rintro en w' ⟨rfl,rfl⟩;generalize hobj:Obj.cells (List.map Value.string (Lib.splitB sep 0 (Lib.countB s sep) s)).toArray (uP.t 9)=ob;have hsz:(w.alloc ob).heap.size=w.heap.size+1:=VW;refine ⟨_,rfl,(RowKit.Below.refl w.heap.size w).alloc (Am _) _,?_⟩;refine Rep.lst (e:=PE w (w.alloc ob)) 1 _ _ w.heap.size 0 _ (λi _=> .string ((spl s sep).getD i ByteArray.empty)) (λ_=>(show w.heap.size<=w.heap.size/\w.heap.size<(w.alloc ob).heap.size by omega)) (λ_=>VL) (λi _ a ha=>?_) (Am _) (by unfold maxLen;omega) (λi j O hj=>?_) (λ_ _=>rfl) (λi j a O ha=>?_) _ (λ_=>rfl)
 ·simp at ha;subst ha;exact .x _
 ·obtain rfl:j=0:=VL;have hi':i<(spl s sep).length:=by unfold spl;omega
  have hh:(w.alloc ob).heap[w.heap.size]? =some ob:=by first|(rw [World.alloc_eq];simp;done)|(simp only [World.alloc_eq,Array.getElem?_push_size];done)|exact Array.getElem?_push_size|(unfold World.alloc;exact Array.getElem?_push_size)
  unfold World.cell?;rw [hh,←hobj];have e:0+(i*1+0)=i:=VL;show (List.map Value.string (spl s sep)).toArray[0+(i*1+0)]? =_;rw [e];simp [hi']
 ·cases j with
  |zero=>simp at ha;subst ha;exact .x _
  |succ j=>simp at ha
open Go Go.Shelf Go.Sx Go.RowKit
def U2(s:ByteArray):Int:=match Lib.atoiAll s.data.toList with
 | .ok v=>v
 |_=>0
def M6(s:ByteArray):Bool:=match Lib.atoiAll s.data.toList with
 | .ok v=>decide (Lib.itoa v=s.data.toList)&&decide ((Lib.trimPrefix s.data.toList [45]).length<=9)
 |_=>false
theorem k6{l:List UInt8}{s:ByteArray}:(⟨l.toArray⟩:ByteArray)=s↔l=s.data.toList:=by
 constructor
 ·rintro rfl;rfl
 ·rintro rfl;cases s;rfl
theorem pI(k:Int)(w:World):Calls Tryz.prog 145 #[.bool false,.int .i64 k] w λen w'=>en= .panicked [{v:=I2 211 (.int .i64 k),recovered:=false}]/\w'=w:=by
 go_enter Tryz.func145,Tryz.ntmps145
 go_wp2
 exact ⟨rfl,rfl,rfl⟩
theorem Xi4(k:Int)(w:World):Calls Tryz.prog 145 #[.bool true,.int .i64 k] w λen w'=>en= .returned (.tuple #[])/\w'=w:=by
 go_enter Tryz.func145,Tryz.ntmps145
 go_wp2
 go_end0
 exact ⟨rfl,rfl⟩
theorem vI{e:UM}{w w1:World}(h:DD e w)(hb:Below w.heap.size w w1):DD e w1:=λb p hp=>by
 obtain ⟨h1,h2,o,h3,h4⟩:=h b p hp;exact ⟨h1,xO h2 hb.size,o,(hb.block b h2).trans h3,h4⟩
theorem k8{w w1:World}{T:TypeId}(h:w1=w\/ ∃t,w1=Lib.bytesWorld w T t):Below w.heap.size w w1:=by
 rcases h with rfl|⟨t,rfl⟩
 ·exact Below.refl _ _
 ·exact Lib.bytesWorld_below w _ _
theorem Qc0{l:List UInt8}{v:Int}(h:Lib.atoiAll l= .ok v): -9223372036854775808<=v/\v<=9223372036854775807:=by
 unfold Lib.atoiAll at h;split at h
 ·cases h
 ·simp only at h;split at h
  ·cases h
  ·cases h
  ·split at h
   ·cases h
   ·split at h
    ·cases h
    ·cases h;split<;>omega
theorem vC{v:Int}(h: -9223372036854775808<=v/\v<=9223372036854775807){e:UM}{w:World}(hgl:DD e w):Calls Tryz.prog 69 #[.int .i64 v] w λen w'=>en= .returned (.string ⟨(Lib.itoa v).toArray⟩)/\Below w.heap.size w w':=by
 refine Calls.mono (Any.strconv_Itoa tJ v h.1 h.2 w (Qx0 hgl)) ?_;rintro en w' ⟨rfl,k,os,rfl⟩;exact ⟨rfl,Lib.below_grow _ w (Am _) k os⟩
theorem yR(s p:ByteArray)(w:World):Calls Tryz.prog 182 #[.string s,.string p] w λen w'=>en= .returned (.string ⟨(Lib.trimPrefix s.data.toList p.data.toList).toArray⟩)/\w'=w:=Any.strings_TrimPrefix Xc6 s p w
theorem Zi5{e:UM}{w:World}(hgl:DD e w):(∃ev,w.cell? ⟨2,0,none⟩=some ev/\(ev= .nilIface\/ ∃te pe,ev= .iface te pe))/\ ∃ev,w.cell? ⟨3,0,none⟩=some ev/\(ev= .nilIface\/ ∃te pe,ev= .iface te pe):=by
 obtain ⟨_,_,o,h3,_,te,pe,T,fr,rfl⟩:=hgl 2 _ rfl;obtain ⟨_,_,o,k3,_,te',pe',T',fr',rfl⟩:=hgl 3 _ rfl;exact ⟨⟨.iface te pe,by simp [World.cell?,h3],.inr ⟨te,pe,rfl⟩⟩,⟨.iface te' pe',by simp [World.cell?,k3],.inr ⟨te',pe',rfl⟩⟩⟩
theorem nK(s:ByteArray)(hs:s.size<=100000)(hb:M6 s=true){e:UM}{w:World}(hgl:DD e w):Calls Tryz.prog 146 #[.string s] w λen w'=>en= .returned (.int .i64 (U2 s))/\Below w.heap.size w w':=by
 unfold M6 at hb;split at hb
 ·rename_i v hv;rw [HA,gJ,gJ] at hb;have hA:=Any.strconv_Atoi_ok rT s VL v hv w;have hnv:U2 s=v:=by unfold U2;rw [hv]
  rw [hnv];have hin:=Qc0 hv
  change Calls Tryz.prog 147 _ _ _ at hA
  have heq2:(⟨(Lib.itoa v).toArray⟩:ByteArray)=s:=k6.2 hb.1;have hle:(decide (((Lib.trimPrefix s.data.toList [45]).length:Int)<=9))=true:=decide_eq_true VL
  go_enter Tryz.func146,Tryz.ntmps146
  go_wp2_with (go_at_call 147;refine hA.mono ?_;rintro en w1 ⟨rfl,hw1⟩)
  have hb1:=k8 hw1;refine (vC hin (vI hgl hb1)).mono ?_;rintro en w2 ⟨rfl,hb2⟩;have hb3:Below w.heap.size w w2:=hb1.trans (hb2.mono hb1.size)
  go_wp2_with (go_at_call 182;refine (yR _ _ _).mono ?_;rintro en w3 ⟨rfl,rfl⟩)
  try rw [hle]
  refine (Xi4 _ _).mono ?_;rintro en w4 ⟨rfl,rfl⟩
  go_wp2
  go_ret
  exact ⟨rfl,hb3⟩
 ·cases hb
theorem Qk2(s:ByteArray)(hs:s.size<=100000)(hb:M6 s=false){e:UM}{w:World}(hgl:DD e w):Calls Tryz.prog 146 #[.string s] w λen w'=>en= .panicked [{v:=I2 211 (.int .i64 4),recovered:=false}]/\Below w.heap.size w w':=by
 obtain ⟨⟨ev0,he0,he0'⟩,⟨ev1,he1,he1'⟩⟩:=Zi5 hgl;unfold M6 at hb;split at hb
 ·rename_i v hv;have hA:=Any.strconv_Atoi_ok rT s VL v hv w;have hin:=Qc0 hv
  change Calls Tryz.prog 147 _ _ _ at hA
  rcases Classical.em (Lib.itoa v=s.data.toList) with h1|h1
  ·have heq2:(⟨(Lib.itoa v).toArray⟩:ByteArray)=s:=k6.2 h1;rw [decide_eq_true h1,Bool.true_and,aDef] at hb;have hle:(decide (((Lib.trimPrefix s.data.toList [45]).length:Int)<=9))=false:=decide_eq_false VL
   go_enter Tryz.func146,Tryz.ntmps146
   go_wp2_with (go_at_call 147;refine hA.mono ?_;rintro en w1 ⟨rfl,hw1⟩)
   have hb1:=k8 hw1;refine (vC hin (vI hgl hb1)).mono ?_;rintro en w2 ⟨rfl,hb2⟩;have hb3:Below w.heap.size w w2:=hb1.trans (hb2.mono hb1.size)
   go_wp2_with (go_at_call 182;refine (yR _ _ _).mono ?_;rintro en w3 ⟨rfl,rfl⟩)
   try rw [hle]
   refine (pI _ _).mono ?_;rintro en w4 ⟨rfl,rfl⟩;exact ⟨rfl,rfl,hb3⟩
  ·have hne: ¬(⟨(Lib.itoa v).toArray⟩:ByteArray)=s:=λh=>h1 (k6.1 h)
   go_enter Tryz.func146,Tryz.ntmps146
   go_wp2_with (go_at_call 147;refine hA.mono ?_;rintro en w1 ⟨rfl,hw1⟩)
   have hb1:=k8 hw1;refine (vC hin (vI hgl hb1)).mono ?_;rintro en w2 ⟨rfl,hb2⟩;have hb3:Below w.heap.size w w2:=hb1.trans (hb2.mono hb1.size)
   go_wp2_with (go_at_call 182;refine (yR _ _ _).mono ?_;rintro en w3 ⟨rfl,rfl⟩)
   ·exact absurd ‹Lib.itoa v=s.toList› (λhx=>h1 (hx.trans (ByteArray.toList_eq s)))
   refine (pI _ _).mono ?_;rintro en w4 ⟨rfl,rfl⟩;exact ⟨rfl,rfl,hb3⟩
 ·rename_i hno;have hA:Calls Tryz.prog 147 #[.string s] w λen w'=>(∃k te pe,en= .returned (.tuple #[.int .i64 k,.iface te pe]))/\Below w.heap.size w w':=by
   cases h:Lib.atoiAll s.data.toList
   ·rename_i v;exact absurd h (hno v)
   ·refine Calls.mono (Any.strconv_Atoi_syntax rT s VL h ev0 w he0 he0') ?_;rintro en w' ⟨N,rfl,_,_,hb⟩;exact ⟨⟨_,_,_,rfl⟩,hb⟩
   ·refine Calls.mono (Any.strconv_Atoi_range rT s VL h ev1 w he1 he1') ?_;rintro en w' ⟨N,rfl,_,_,hb⟩;exact ⟨⟨_,_,_,rfl⟩,hb⟩
  go_enter Tryz.func146,Tryz.ntmps146
  go_wp2_with (go_at_call 147;refine hA.mono ?_;rintro en w1 ⟨⟨k,te,pe,rfl⟩,hb3⟩)
  refine (pI _ _).mono ?_;rintro en w4 ⟨rfl,rfl⟩;exact ⟨rfl,rfl,hb3⟩
def zZ:DS:=λavs m nx sv=>match avs with
 |[.x (.string s)]=>some (.need [s.size<=100000] (.branch (M6 s) (.leaf (.ret (.x (.int .i64 (U2 s))),m,nx,sv)) (.leaf (.pan (I2 211 (.int .i64 4)),m,nx,sv))))
 |_=>none
theorem wI:D4 VQ 146 zZ:=by
 refine ⟨(UJ Tryz.func146),?_⟩;intro avs m nx sv t ht Q hQ c w0 T e ds args w hE hB hm hl LN hxt hr;unfold zZ at ht;split at ht
 ·rename_i s;cases ht;obtain ⟨hs,hQ⟩:=hQ;obtain ⟨u,us,rfl,h1,h2⟩:=hr.cons_inv;cases h2.nil_inv;cases h1.x_inv;have key: ∀{w':World},Below w.heap.size w w'->Step e e w w'/\UY e w0.heap.size w'/\Below w0.heap.size w0 w':=by
   intro w' hb;have st:Step e e w w':=⟨λb hlt hr=>⟨hr,hb.block b hlt⟩,λ_ h=>⟨h,rfl,rfl⟩,hb.size⟩
   exact ⟨st,⟨λb h=>⟨(hE.apart b h).1,xO (hE.apart b h).2 hb.size⟩,λb k h=>⟨(hE.owned b k h).1,xO (hE.owned b k h).2 hb.size⟩,hE.glob.step st⟩,hB.trans (hb.mono hB.size)⟩
  cases hb:M6 s with
  |true=>
   refine (nK s hs hb hE.glob).mono ?_;rintro en w' ⟨rfl,hbl⟩;obtain ⟨k1,k2,k3⟩:=key hbl;exact ⟨.ret (.x (.int .i64 (U2 s))),_,_,_,e,⟨_,rfl,.x _⟩,hQ.1 hb,k2,k3,hm.ext hbl k1 (λ_ _ h=>h),hl,LN,hxt.step k1⟩
  |false=>
   refine (Qk2 s hs hb hE.glob).mono ?_;rintro en w' ⟨rfl,hbl⟩;obtain ⟨k1,k2,k3⟩:=key hbl;exact ⟨.pan (I2 211 (.int .i64 4)),_,_,_,e,rfl,hQ.2 hb,k2,k3,hm.ext hbl k1 (λ_ _ h=>h),hl,LN,hxt.step k1⟩
 ·cases ht
def wdE:List MapEntry:=[{key:= .string ⟨#[116,104,114,101,97,100]⟩,val:= .agg #[.int .i64 4,.func (.func 174) #[] #[]],born:=0},
 {key:= .string ⟨#[115,116,114,105,107,101]⟩,val:= .agg #[.int .i64 1,.func (.func 175) #[] #[]],born:=1},
 {key:= .string ⟨#[98,97,114,111]⟩,val:= .agg #[.int .i64 2,.func (.func 176) #[] #[]],born:=2},
 {key:= .string ⟨#[98,97,116,104]⟩,val:= .agg #[.int .i64 2,.func (.func 177) #[] #[]],born:=3},
 {key:= .string ⟨#[115,101,101]⟩,val:= .agg #[.int .i64 2,.func (.func 178) #[] #[]],born:=4},
 {key:= .string ⟨#[105,115,115,117,101]⟩,val:= .agg #[.int .i64 4,.func (.func 179) #[] #[]],born:=5},
 {key:= .string ⟨#[118,111,105,100]⟩,val:= .agg #[.int .i64 1,.func (.func 180) #[] #[]],born:=6},
 {key:= .string ⟨#[115,101,108,108]⟩,val:= .agg #[.int .i64 5,.func (.func 181) #[] #[]],born:=7}]
theorem qZ(w:World)(es:Array MapEntry)(c:Nat)(s:ByteArray)(val:Value)(hf:Instr.findNow .string (.string s) es.toList 0=some none):
  (Instr.mapUpdate 262 (.map (some w.heap.size)) (.string s) val).run Tryz.prog (w.alloc (.map es c))= .ok () (w.alloc (.map (es.push {key:= .string s,val:=val,born:=c}) (c+1))):=by
 have hm:Tryz.prog.underlying 262=some (.map 9 260):=VX;have hk:Tryz.prog.underlying 9=some .string:=VX;have hb:(w.alloc (.map es c)).heap[w.heap.size]? =some (.map es c):=World.alloc_heap_new w _;have hc:(Instr.checkKey false 10000 9 (.string s)).run Tryz.prog (w.alloc (.map es c))= .ok () (w.alloc (.map es c)):=MapKept.run_checkKey (k:= .string s) hk (by simp [MapKept.IsKey]) false 9999
 have hp: ∀o o':Obj,({w.alloc o with heap:=(w.alloc o).heap.setIfInBounds w.heap.size o'}:World)=w.alloc o':=λo o'=>by
  have ha:(w.heap.push o).setIfInBounds w.heap.size o'=w.heap.push o':=Array.toList_inj.1 (by simp [List.set_append])
  have h0: ∀q:Obj,(w.alloc q).heap=w.heap.push q:=λq=>rfl
  rw [h0,ha];rfl
 have h1:(Instr.mapUpdate 262 (.map (some w.heap.size)) (.string s) val).run Tryz.prog (w.alloc (.map es c))= .ok () {w.alloc (.map es c) with heap:=(w.alloc (.map es c)).heap.setIfInBounds w.heap.size (.map (es.push {key:= .string s,val:=val,born:=c}) (c+1)) }:=by
  simp only [Instr.mapUpdate,At,run_underlying hm,MapKept.run_getObj_map hb,hc,MapKept.run_findKey hk hf,MapKept.run_setObj_map _ hb,Result.andThen]
 rw [h1,hp]
theorem IF(w:World):Calls Tryz.prog 144 #[] w λen w'=>en= .returned (.map (some w.heap.size))/\w'=w.alloc (.map wdE.toArray 8):=by
 have i0:=run_makeMap (P:=Tryz.prog) 262 w;have i1:=qZ w #[] 0 ⟨#[116,104,114,101,97,100]⟩ (.agg #[.int .i64 4,.func (.func 174) #[] #[]]) (by rfl)
 have i2:=qZ w #[{key:= .string ⟨#[116,104,114,101,97,100]⟩,val:= .agg #[.int .i64 4,.func (.func 174) #[] #[]],born:=0}] 1 ⟨#[115,116,114,105,107,101]⟩ (.agg #[.int .i64 1,.func (.func 175) #[] #[]]) (by rfl)
 have i3:=qZ w #[{key:= .string ⟨#[116,104,114,101,97,100]⟩,val:= .agg #[.int .i64 4,.func (.func 174) #[] #[]],born:=0},{key:= .string ⟨#[115,116,114,105,107,101]⟩,val:= .agg #[.int .i64 1,.func (.func 175) #[] #[]],born:=1}] 2 ⟨#[98,97,114,111]⟩ (.agg #[.int .i64 2,.func (.func 176) #[] #[]]) (by rfl)
 have i4:=qZ w #[{key:= .string ⟨#[116,104,114,101,97,100]⟩,val:= .agg #[.int .i64 4,.func (.func 174) #[] #[]],born:=0},{key:= .string ⟨#[115,116,114,105,107,101]⟩,val:= .agg #[.int .i64 1,.func (.func 175) #[] #[]],born:=1},{key:= .string ⟨#[98,97,114,111]⟩,val:= .agg #[.int .i64 2,.func (.func 176) #[] #[]],born:=2}] 3 ⟨#[98,97,116,104]⟩ (.agg #[.int .i64 2,.func (.func 177) #[] #[]]) (by rfl)
 have i5:=qZ w #[{key:= .string ⟨#[116,104,114,101,97,100]⟩,val:= .agg #[.int .i64 4,.func (.func 174) #[] #[]],born:=0},{key:= .string ⟨#[115,116,114,105,107,101]⟩,val:= .agg #[.int .i64 1,.func (.func 175) #[] #[]],born:=1},{key:= .string ⟨#[98,97,114,111]⟩,val:= .agg #[.int .i64 2,.func (.func 176) #[] #[]],born:=2},{key:= .string ⟨#[98,97,116,104]⟩,val:= .agg #[.int .i64 2,.func (.func 177) #[] #[]],born:=3}] 4 ⟨#[115,101,101]⟩ (.agg #[.int .i64 2,.func (.func 178) #[] #[]]) (by rfl)
 have i6:=qZ w #[{key:= .string ⟨#[116,104,114,101,97,100]⟩,val:= .agg #[.int .i64 4,.func (.func 174) #[] #[]],born:=0},{key:= .string ⟨#[115,116,114,105,107,101]⟩,val:= .agg #[.int .i64 1,.func (.func 175) #[] #[]],born:=1},{key:= .string ⟨#[98,97,114,111]⟩,val:= .agg #[.int .i64 2,.func (.func 176) #[] #[]],born:=2},{key:= .string ⟨#[98,97,116,104]⟩,val:= .agg #[.int .i64 2,.func (.func 177) #[] #[]],born:=3},{key:= .string ⟨#[115,101,101]⟩,val:= .agg #[.int .i64 2,.func (.func 178) #[] #[]],born:=4}] 5 ⟨#[105,115,115,117,101]⟩ (.agg #[.int .i64 4,.func (.func 179) #[] #[]]) (by rfl)
 have i7:=qZ w #[{key:= .string ⟨#[116,104,114,101,97,100]⟩,val:= .agg #[.int .i64 4,.func (.func 174) #[] #[]],born:=0},{key:= .string ⟨#[115,116,114,105,107,101]⟩,val:= .agg #[.int .i64 1,.func (.func 175) #[] #[]],born:=1},{key:= .string ⟨#[98,97,114,111]⟩,val:= .agg #[.int .i64 2,.func (.func 176) #[] #[]],born:=2},{key:= .string ⟨#[98,97,116,104]⟩,val:= .agg #[.int .i64 2,.func (.func 177) #[] #[]],born:=3},{key:= .string ⟨#[115,101,101]⟩,val:= .agg #[.int .i64 2,.func (.func 178) #[] #[]],born:=4},{key:= .string ⟨#[105,115,115,117,101]⟩,val:= .agg #[.int .i64 4,.func (.func 179) #[] #[]],born:=5}] 6 ⟨#[118,111,105,100]⟩ (.agg #[.int .i64 1,.func (.func 180) #[] #[]]) (by rfl)
 have i8:=qZ w #[{key:= .string ⟨#[116,104,114,101,97,100]⟩,val:= .agg #[.int .i64 4,.func (.func 174) #[] #[]],born:=0},{key:= .string ⟨#[115,116,114,105,107,101]⟩,val:= .agg #[.int .i64 1,.func (.func 175) #[] #[]],born:=1},{key:= .string ⟨#[98,97,114,111]⟩,val:= .agg #[.int .i64 2,.func (.func 176) #[] #[]],born:=2},{key:= .string ⟨#[98,97,116,104]⟩,val:= .agg #[.int .i64 2,.func (.func 177) #[] #[]],born:=3},{key:= .string ⟨#[115,101,101]⟩,val:= .agg #[.int .i64 2,.func (.func 178) #[] #[]],born:=4},{key:= .string ⟨#[105,115,115,117,101]⟩,val:= .agg #[.int .i64 4,.func (.func 179) #[] #[]],born:=5},{key:= .string ⟨#[118,111,105,100]⟩,val:= .agg #[.int .i64 1,.func (.func 180) #[] #[]],born:=6}] 7 ⟨#[115,101,108,108]⟩ (.agg #[.int .i64 5,.func (.func 181) #[] #[]]) (by rfl)
 go_enter Tryz.func144,Tryz.ntmps144
 go_wp2
 go_ret
 exact ⟨rfl,rfl⟩
def eqU:List UInt8->List UInt8->Bool
 |[],[]=>true
 |a::l,b::m=>Nat.beq a.toNat b.toNat&&eqU l m
 |_,_=>false
theorem TN: ∀{l m:List UInt8},eqU l m=true↔l=m
 |[],[]=>by simp [eqU]
 |[],_::_=>by simp [eqU]
 |_::_,[]=>by simp [eqU]
 |a::l,b::m=>by
  simp only [eqU,HA,TN,List.cons.injEq];constructor
  ·rintro ⟨h,h2⟩;exact ⟨UInt8.toNat_inj.1 (GY h),h2⟩
  ·rintro ⟨rfl,h2⟩;exact ⟨Nat.beq_refl _,h2⟩
section
variable (s:ByteArray)
def wdK:Nat:=match eqU s.data.toList [116,104,114,101,97,100] with
 |true=>0
 |false=>match eqU s.data.toList [115,116,114,105,107,101] with
 |true=>1
 |false=>match eqU s.data.toList [98,97,114,111] with
 |true=>2
 |false=>match eqU s.data.toList [98,97,116,104] with
 |true=>3
 |false=>match eqU s.data.toList [115,101,101] with
 |true=>4
 |false=>match eqU s.data.toList [105,115,115,117,101] with
 |true=>5
 |false=>match eqU s.data.toList [118,111,105,100] with
 |true=>6
 |false=>match eqU s.data.toList [115,101,108,108] with
 |true=>7
 |false=>8
def wdM:Nat->Int
 | 0=>4
 | 1=>1
 | 2=>2
 | 3=>2
 | 4=>2
 | 5=>4
 | 6=>1
 | 7=>5
 |_=>0
def wdO:Bool:=Nat.blt (wdK s) 8
def Qq7:List AV:=[match wdO s with|true=> .x (.int .i64 (wdM (wdK s)))|false=> .top,match wdO s with|true=> .fn (.func (174+wdK s)) [] []|false=> .top]
def wdL:List ByteArray:=[⟨#[116,104,114,101,97,100]⟩,⟨#[115,116,114,105,107,101]⟩,⟨#[98,97,114,111]⟩,⟨#[98,97,116,104]⟩,⟨#[115,101,101]⟩,⟨#[105,115,115,117,101]⟩,⟨#[118,111,105,100]⟩,⟨#[115,101,108,108]⟩]
theorem A5:(wdK s<8/\wdL[wdK s]? =some s)\/(wdK s=8/\ ∀x∈wdL,x≠s):=by
 have mk: ∀(l:List UInt8),eqU s.data.toList l=true->(⟨l.toArray⟩:ByteArray)=s:=λl h=>k6.2 (TN.1 h).symm
 have no: ∀(l:List UInt8),eqU s.data.toList l=false->(⟨l.toArray⟩:ByteArray)≠s:=λl h he=>by
  rw [TN.2 (k6.1 he).symm] at h;cases h
 unfold wdK;split
 ·rename_i h0;exact .inl ⟨VL,by rw [←mk _ h0];rfl⟩
 rename_i h0;split
 ·rename_i h1;exact .inl ⟨VL,by rw [←mk _ h1];rfl⟩
 rename_i h1;split
 ·rename_i h2;exact .inl ⟨VL,by rw [←mk _ h2];rfl⟩
 rename_i h2;split
 ·rename_i h3;exact .inl ⟨VL,by rw [←mk _ h3];rfl⟩
 rename_i h3;split
 ·rename_i h4;exact .inl ⟨VL,by rw [←mk _ h4];rfl⟩
 rename_i h4;split
 ·rename_i h5;exact .inl ⟨VL,by rw [←mk _ h5];rfl⟩
 rename_i h5;split
 ·rename_i h6;exact .inl ⟨VL,by rw [←mk _ h6];rfl⟩
 rename_i h6;split
 ·rename_i h7;exact .inl ⟨VL,by rw [←mk _ h7];rfl⟩
 rename_i h7;refine .inr ⟨rfl,λx hx=>?_⟩
 simp only [wdL,GM,DL,or_false] at hx;rcases hx with rfl|rfl|rfl|rfl|rfl|rfl|rfl|rfl
 ·exact no _ h0
 ·exact no _ h1
 ·exact no _ h2
 ·exact no _ h3
 ·exact no _ h4
 ·exact no _ h5
 ·exact no _ h6
 ·exact no _ h7
def wdV:List Value:=[.int .i64 (wdM (wdK s)),.func (.func (174+wdK s)) #[] #[]]
end
theorem iH{s:ByteArray}(h:wdO s=true): ∃j,Instr.findNow .string (.string s) wdE 0=some (some (j,.agg (wdV s).toArray)):=by
 rcases A5 s with ⟨h1,h2⟩|⟨h1,_⟩
 ·unfold wdV;rcases (show wdK s=0\/wdK s=1\/wdK s=2\/wdK s=3\/wdK s=4\/wdK s=5\/wdK s=6\/wdK s=7 by omega) with h3|h3|h3|h3|h3|h3|h3|h3<;>rw [h3] at h2 ⊢ <;>(obtain rfl:_=s:=Bb h2)<;>exact ⟨_,rfl⟩
 ·unfold wdO at h;rw [h1] at h;cases h
theorem EZ{s:ByteArray}: ∀(es:List MapEntry) (j:Nat),(∀x∈es,∃k,x.key= .string k/\k≠s)->Instr.findNow .string (.string s) es j=some none
 |[],_,_=>rfl
 |x::es,j,h=>by
  obtain ⟨k,hk,hne⟩:=h x GI;have hs:Instr.sameNow .string (.string s) (.string k)=some false:=by
   have hb:(s==k)=false:=by
    cases hq:(s==k) with
    |false=>rfl
    |true=>
     obtain ⟨a⟩:=s;obtain ⟨b⟩:=k;have h':(a==b)=true:=hq;exact absurd (by rw [eq_of_beq h']) hne
   simp [Instr.sameNow,hb]
  unfold Instr.findNow;rw [hk,hs];exact EZ es (j+1) (λy hy=>h y (HP _ hy))
theorem Qa4{s:ByteArray}(h:wdO s=false):Instr.findNow .string (.string s) wdE 0=some none:=by
 rcases A5 s with ⟨h1,_⟩|⟨_,h2⟩
 ·unfold wdO at h;rw [Bool.eq_false_iff,ne_eq,Aw] at h;omega
 ·refine EZ _ _ λx hx=>?_
  simp only [wdE,GM,DL,or_false] at hx;rcases hx with rfl|rfl|rfl|rfl|rfl|rfl|rfl|rfl<;>exact ⟨_,rfl,h2 _ (by simp [wdL])⟩
theorem Xj3:VZ VQ 144 [] (.mpr Qq7 wdO):=by
 intro e w args hro hgl FL hr;obtain rfl:=hr.nil_inv;refine (IF w).mono ?_;rintro en w' ⟨rfl,rfl⟩;have hsz:(w.alloc (.map wdE.toArray 8)).heap.size=w.heap.size+1:=VW;refine ⟨_,rfl,(Below.refl _ _).alloc (Am _) _,?_⟩;refine .mpr Qq7 wdO wdV w.heap.size wdE.toArray 8 (show w.heap.size<=w.heap.size/\w.heap.size<(w.alloc (.map wdE.toArray 8)).heap.size by omega) VL (λs a ha=>?_) (World.alloc_heap_new w _) (λs hs=>by simpa using iH hs) (λs hs=>⟨by simpa using Qa4 hs,λa ha=>?_⟩) (λs hs=>rfl) (λs k a v hs ha hv=>?_)
 ·unfold Qq7 at ha;cases h:wdO s<;>rw [h] at ha<;>simp only [GM,DL,or_false,or_self] at ha
  ·subst ha;exact .top
  ·rcases ha with rfl|rfl
   ·exact .x _
   ·exact .fn _ _ _ (λ_ h=>by cases h) (λ_ h=>by cases h)
 ·unfold Qq7 at ha;rw [hs] at ha;exact .inl (by simpa using ha)
 ·unfold Qq7 at ha;unfold wdV at hv;rw [hs] at ha
  match k,ha,hv with
  | 0,ha,hv=>
   simp only [List.getElem?_cons_zero,HD] at ha hv;subst ha hv;exact .x _
  | 1,ha,hv=>
   simp only [List.getElem?_cons_succ,List.getElem?_cons_zero,HD] at ha hv;subst ha hv;exact .fn _ [] [] [] [] rfl (λ_ _ _ h=>by simp at h) rfl (λ_ _ _ h=>by simp at h)
  |k+2,ha,hv=>simp at ha
def Wu0:G0
 |[]=>some ([],.mpr Qq7 wdO)
 |_=>none
theorem wB:VS VQ 144 Wu0:=by
 refine ⟨(UJ Tryz.func144),?_⟩;intro avs ns res h hn;unfold Wu0 at h;split at h
 ·cases h;exact Xj3
 ·cases h
end Go.Proofs.YtakpdkmhclhlnaaGreatDoor.Hd
namespace Go.Proofs.YtakpdkmhclhlnaaGreatDoor.Hd
open Go Go.Sx Go.RowKit Bo
open Go.Sx.VO (need branch leaf)
open Go.Sx.AV (lst ptr agg roI tup top)
structure HS where
 nr:Nat
 ra:Nat->Int
 rb:Nat->Int
 ru:Nat->Int
 rv:Nat->Int
 pl:Int
 ph:Int
 nb:Nat
 ql:Nat->Int
 qh:Nat->Int
 qm:Nat->Nat
 qr:Nat->Nat->Int
 qv:Nat->Nat->Int
 nc:Nat
 ca:Nat->Int
 cb:Nat->Int
 cc:Nat->Int
 cd:Nat->Int
 cv:Nat->Bool
 ns:Nat
 sa:Nat->Int
 sb:Nat->Int
 sc:Nat->Int
 sl:Nat->Int
 sh:Nat->Int
 xn:Nat
 xg:Nat->List AV
 yn:Nat
 yg:Nat->List AV
section
variable (N:Nat)(s:HS)
abbrev hR:AV:= .lst 4 N λk=>[iI (s.ra k),iI (s.rb k),iI (s.ru k),iI (s.rv k)]
abbrev hY:AV:= .lst 3 N λk=>[iI (s.ql k),iI (s.qh k),.lst 2 (s.qm k) λj=>[iI (s.qr k j),iI (s.qv k j)]]
abbrev hC:AV:= .lst 5 N λk=>[iI (s.ca k),iI (s.cb k),iI (s.cc k),iI (s.cd k),.x (.bool (s.cv k))]
abbrev hT:AV:= .lst 5 N λk=>[iI (s.sa k),iI (s.sb k),iI (s.sc k),iI (s.sl k),iI (s.sh k)]
end
section
variable (s:HS)
abbrev hL:List AV:=[hR s.nr s,iI s.pl,iI s.ph,hY s.nb s,hC s.nc s,hT s.ns s]
abbrev hsR:AV:=rds s.nr s.ra s.rb s.ru s.rv
abbrev hsB:AV:=bds s.nb s.ql s.qh s.qm s.qr s.qv
abbrev hsC:AV:=crs s.nc s.ca s.cb s.cc s.cd s.cv
abbrev hsS:AV:=sls s.ns s.sa s.sb s.sc s.sl s.sh
abbrev hsL:List AV:=[hsR s,i s.pl,i s.ph,hsB s,hsC s,hsS s]
end
def tbP(k:Nat):Int:=U9 [720,760,800] k
def tbQ(k:Nat):Int:=U9 [985,1000,1014] k
def L5:G0
 |[.agg [.lst 4 nr fr,.x (.int .i64 pl),.x (.int .i64 ph),.lst 3 nb fb,.lst 5 nc fc,.lst 5 ns fs]]=>some ([],.agg [i 4,i 100,i 20,i 30,.lst 4 nr fr,.lst 2 3 (λk=>[i (tbP k),i (tbQ k)]),i pl,i ph,i 1,i 3])
 |_=>none
theorem Qm5(nr nb nc ns:Nat)(fr fb fc fs:Nat->List AV)(pl ph:Int):FO VQ 44 [.agg [.lst 4 nr fr,i pl,i ph,.lst 3 nb fb,.lst 5 nc fc,.lst 5 ns fs]] (.agg [i 4,i 100,i 20,i 30,.lst 4 nr fr,.lst 2 3 (λk=>[i (tbP k),i (tbQ k)]),i pl,i ph,i 1,i 3]):=by
 refine D2 (L:=[]) Aa Ad U0 Tryz.func44 (UV Tryz.f44) G4 (t:=leaf (agg [iI 4,iI 100,iI 20,iI 30,lst 4 nr λa=>fr a,lst 2 3 (U8 2 [iI 720,iI 985,iI 760,iI 1000,iI 800,iI 1014]),iI pl,iI ph,iI 1,iI 3])) VX ?_
 simp only [VO.sat,FB,qR,UH,UK];all_goals exact V6
theorem F6:PI VQ 44 L5:=by
 refine ⟨(UJ Tryz.func44),?_⟩;intro avs ns res h hn;unfold L5 at h;split at h
 ·cases h;exact Qm5 _ _ _ _ _ _ _ _ _ _
 ·cases h
def xP:G0
 |[.agg [.lst 4 nr fr,.x (.int .i64 pl),.x (.int .i64 ph),.lst 3 nb fb,.lst 5 nc fc,.lst 5 ns fs]]=>some ([],.agg [ofs,i 1,.lst 3 nb fb])
 |_=>none
abbrev KW:AV:=lst 2 3 (U8 2 [iI 0,iI 0,iI (-9:Int),iI 9,iI (-9:Int),iI 9])
theorem oB(nr nb nc ns:Nat)(fr fb fc fs:Nat->List AV)(pl ph:Int):FO VQ 46 [.agg [.lst 4 nr fr,i pl,i ph,.lst 3 nb fb,.lst 5 nc fc,.lst 5 ns fs]] (.agg [ofs,i 1,.lst 3 nb fb]):=by
 refine D2 (L:=[]) Aa Ad U0 Tryz.func46 (UV Tryz.f46) G4 (t:=leaf (agg [KW,iI 1,lst 3 nb λa=>fb a])) VX ?_
 simp only [VO.sat,FB,qR,UH,UK];all_goals exact V6
theorem RD:PI VQ 46 xP:=by
 refine ⟨(UJ Tryz.func46),?_⟩;intro avs ns res h hn;unfold xP at h;split at h
 ·cases h;exact oB _ _ _ _ _ _ _ _ _ _
 ·cases h
def IL:G0
 |[.agg [.lst 4 nr fr,.x (.int .i64 pl),.x (.int .i64 ph),.lst 3 nb fb,.lst 5 nc fc,.lst 5 ns fs]]=>some ([],.agg [i 4,i 10,.lst 5 ns fs])
 |_=>none
theorem Qn0(nr nb nc ns:Nat)(fr fb fc fs:Nat->List AV)(pl ph:Int):FO VQ 39 [.agg [.lst 4 nr fr,i pl,i ph,.lst 3 nb fb,.lst 5 nc fc,.lst 5 ns fs]] (.agg [i 4,i 10,.lst 5 ns fs]):=by
 refine D2 (L:=[]) Aa Ad U0 Tryz.func39 (UV Tryz.f39) G4 (t:=leaf (agg [iI 4,iI 10,lst 5 ns λa=>fs a])) VX ?_
 simp only [VO.sat,FB,qR,UH,UK];all_goals exact V6
theorem P0:PI VQ 39 IL:=by
 refine ⟨(UJ Tryz.func39),?_⟩;intro avs ns res h hn;unfold IL at h;split at h
 ·cases h;exact Qn0 _ _ _ _ _ _ _ _ _ _
 ·cases h
noncomputable def m7:D0:=rJ Tryz.prog [] {} [] Tryz.f67 (UA Tryz.f67)
theorem EM:GC VQ 67 m7:=
 RK (G:=[]) (X:=WH) (L:=[]) Aa Ad U0 (UJ Tryz.func67) Tryz.func67 (UV Tryz.f67) U7
def U6(w:ByteArray)(V:Nat->ByteArray):Nat->ByteArray
 | 0=>w
 |k+1=>V k
def UQ(q:Nat):ByteArray:=wdL.getD q ByteArray.empty
def vD(str:ByteArray)(n:Nat)(W:Nat->ByteArray):Prop:=str.size<100000/\Lib.countB str ⟨#[32]⟩+1=n/\(∀k,k<n->(spl str ⟨#[32]⟩).getD k ByteArray.empty=W k)/\ ∀k,(W k).size<=100000
def M9(s str sep:ByteArray):Prop:=s=str/\sep=⟨#[32]⟩
def Qf3(str:ByteArray)(n:Nat)(W:Nat->ByteArray):G0
 |[.x (.string s),.x (.string sep)]=>some ([M9 s str sep],.lst 1 n (λk=>[.x (.string (W k))]))
 |_=>none
theorem L9{str:ByteArray}{n:Nat}{W:Nat->ByteArray}(h:vD str n W):VS VQ 143 (Qf3 str n W):=by
 refine ⟨(UJ Tryz.func143),?_⟩;intro avs ns res hh hn;unfold Qf3 at hh;split at hh
 ·cases hh;obtain ⟨e1,e2⟩:=hn _ GI;rw [e1,e2];have h1:=Qx4 str ⟨#[32]⟩ (by have:=h.1;omega) (by decide)
  rw [h.2.1] at h1;intro e w args hro hgl FL hr;refine (h1 e w args hro hgl FL hr).mono ?_;rintro en w' ⟨v,rfl,hb,GK⟩;exact ⟨v,rfl,hb,FW (a:= .lst 1 n _) (b:= .lst 1 n _) ⟨rfl,rfl,λk hk=>by rw [h.2.2.1 k hk]⟩ GK⟩
 ·cases hh
abbrev Y6(s:HS):H0:=[(0,.cells 99 [.top,.top,.top,.top,.top,.top]),(1,.row 23 1 s.xn s.xg),(2,.row 9 1 s.yn s.yg)]
def PE_(s:HS):St:={σ:=mkS 48 [],m:=(Y6 s),nx:=904,sv:=[[.ptr 0 0,.row 1,.row 2]] }
section
variable (W:Nat->ByteArray)(n:Nat)
def nuB:Bool:=FN (λj=>M6 (W (1+j))) (n-1)
def Wx9(mk:Int)(fk:Nat)(s:HS):St:={σ:=mkS 48 [(0,.ptr 0 0),(4,.lst 1 n (λk=>[.x (.string (W k))])),(5,.ptr 903 0),(7,.row 902),(31,.lst 1 (n-1) (λj=>[.x (.string (W (1+j)))])),(32,i ((n-1:Nat):Int)),(33,.top)],m:=[(902,.row 3 1 (0) (λj=>[i (U2 (W (1+j)))])),(903,.cells 260 [i mk,.fn (.func fk) [] []]),(0,.cells 99 (hsL s)),(1,.row 23 1 s.xn s.xg),(2,.row 9 1 s.yn s.yg)],nx:=904,sv:=[[.ptr 0 0,.row 1,.row 2]] }
noncomputable def MI:Code:=UC (VU (UA Tryz.f106) 0)
def Wf5(mk:Int)(fk:Nat)(s:HS)(k:Nat):St:={σ:=H6 [(33,i k)] (Wx9 W n mk fk s).σ,m:=[(902,.row 3 1 (k) (λj=>[i (U2 (W (1+j)))])),(903,.cells 260 [i mk,.fn (.func fk) [] []]),(0,.cells 99 (hsL s)),(1,.row 23 1 s.xn s.xg),(2,.row 9 1 s.yn s.yg)],nx:=(Wx9 W n mk fk s).nx,sv:=[[.ptr 0 0,.row 1,.row 2]] }
def SI(mk:Int)(fk:Nat)(s:HS):PEx->Option St:=λex=>match ex with
 | .x (.exit 0)=>some {σ:=H6 [(33,i ((n-1:Nat):Int))] (Wx9 W n mk fk s).σ,m:=[(902,.row 3 1 (n-1) (λj=>[i (U2 (W (1+j)))])),(903,.cells 260 [i mk,.fn (.func fk) [] []]),(0,.cells 99 (hsL s)),(1,.row 23 1 s.xn s.xg),(2,.row 9 1 s.yn s.yg)],nx:=(Wx9 W n mk fk s).nx,sv:=[[.ptr 0 0,.row 1,.row 2]] }
 | .pan _=>some (PE_ s)
 |_=>none
def Ji4(mk:Int)(fk:Nat)(s:HS):PT:= .branch (nuB W n) (.leaf (.x (.exit 0),(SI W n mk fk s (.x (.exit 0))).getD (Wx9 W n mk fk s))) (.leaf (.pan (I2 211 (.int .i64 4)),PE_ s))
def yO(mk:Int)(fk:Nat)(s:HS):PK:=SW [(.slot 5,903,260,2),(.slot 7,902,3,1)] (Xy6 (Wf5 W n mk fk s (0)) (Ji4 W n mk fk s))
end
section
variable (s:HS)
abbrev XH:Prop:=(hR s.nr s)=hR s.nr s
abbrev XO:Prop:=(hC s.nc s)=hC s.nc s
abbrev XP:Prop:=(hT s.ns s)=hT s.ns s
abbrev XW:Prop:=(hY s.nb s)=hY s.nb s
abbrev JQ:Prop:=s.pl=s.pl
abbrev JR:Prop:=s.ph=s.ph
end
abbrev JW:Prop:=AV.row 1=AV.row 1
abbrev JX:Prop:=AV.row 2=AV.row 2
abbrev KG(n:Nat)(W:Nat->ByteArray):AV:=lst 1 (n-1) λj=>[FR (W (1+j))]
abbrev KK(s:HS):Prop:=s.xn=s.xn
abbrev KL(s:HS):Prop:=s.yn=s.yn
abbrev YE(n:Nat)(W:Nat->ByteArray):AV:=lst 1 n λk=>[FR (W k)]
theorem uO(W:Nat->ByteArray)(n:Nat)(mk:Int)(fk:Nat)(s:HS)(VV: ∀k,(W k).size<=100000)(UI:n<=100000): ∀ro cx,LX Tryz.prog ro cx (.loop MI) (yO W n mk fk s):=by
 refine T4 [(.slot 5,903,260,2),(.slot 7,902,3,1)] (PX:=[(145,RA),(146,zZ)]) (L:=[]) Aa Ad (UT.cons RQ (UT.cons wI (UT.nil _))) U0 (λj cj _ sp hsp=>by simp at hsp) (V:=Nat) (Wf5 W n mk fk s) (λk=>k<=n-1/\ ∀j,j<k->M6 (W (1+j))=true) (λk=>n-1-k) (λ_=>SI W n mk fk s) (x0:=0) ⟨Ao _,λj h=>absurd h (Aq _)⟩ ?_ ?_ ?_
 ·rintro k;kernel_rfl
 ·rintro k y E h;unfold SI at h;split at h
  ·cases h;kernel_rfl
  ·cases h;kernel_rfl
  ·cases h
 ·rintro Q hQ k hx;refine ⟨(k+1),?_⟩;(with_reducible refine DU (t:=branch (decide ((k:Int)<(↑(n-1):Int))) (need [UN k (↑(n-1):Int)] (need [ByteArray.size (W (1+k))<=100000] (branch (M6 (W (1+k))) (need [(k+1)*8<=140737488355328,L0 1 (U8 1 [iI (U2 (W (1+k)))])] (need [VN ((k:Int)+1)] (need [QO,U1 (YE n W),ZQ,WJ,U1 (KG n W),U1 (↑(n-1):Int),(k:Int)+1=(↑(k+1):Int),k+1=k+1,GV (k+1) (GJ k (λj=>[iI (U2 (W (1+j)))]) (U8 1 [iI (U2 (W (1+k)))])) (λi=>[iI (U2 (W (1+i)))]),mk=mk,U1 (AV.fn (Fn.func fk) [] []),XH s,JQ s,JR s,XW s,XO s,XP s,KK s,∀(i:Nat),i<s.xn->s.xg i=s.xg i,KL s,∀(i:Nat),i<s.yn->s.yg i=s.yg i,QO,JW,JX] (leaf (PEx.x GB.normal))))) (need [KK s,∀(i:Nat),i<s.xn->s.xg i=s.xg i,KL s,∀(i:Nat),i<s.yn->s.yg i=s.yg i,QO,JW,JX] (leaf (PEx.pan (Value.iface 211 (Value.agg {toList:=[Value.int IntKind.i64 (4:Int)] })))))))) (need [QO,U1 (YE n W),ZQ,WJ,U1 (KG n W),U1 (↑(n-1):Int),(k:Int)=(↑(n-1):Int),k=n-1,∀(i:Nat),i<n-1->[iI (U2 (W (1+i)))]=[iI (U2 (W (1+i)))],mk=mk,U1 (AV.fn (Fn.func fk) [] []),XH s,JQ s,JR s,XW s,XO s,XP s,KK s,∀(i:Nat),i<s.xn->s.xg i=s.xg i,KL s,∀(i:Nat),i<s.yn->s.yg i=s.yg i,QO,JW,JX] (leaf (PEx.x (GB.exit 0))))) VX ?_)
  simp only [Ji4,SI,VO.sat,GX] at hQ;obtain ⟨A,I⟩:=hx;simp only [VO.sat,UE,UK,HG,VN]
  have hc1: ∀x:Int,∀(j:Nat),j<1-> ∀y,y∈U8 1 [iI x] j->AV.one y=true:=λx j _ y hy=>FD hy (by simp [AV.one,Value.oneCell'])
  refine ⟨λh=>?_,λh=>?_⟩
  ·have hk:k<n-1:=VL;refine ⟨⟨VL,VL⟩,VV _,λhb=>?_,λhb=>?_⟩
   ·have HY: ∀j,j<k+1->M6 (W (1+j))=true:=by
     intro j hj;rcases (show j<k\/j=k by omega) with h1|rfl
     ·exact I j h1
     ·exact hb
    have EE: ∀j,j<k+1->GJ k (λj=>[i (U2 (W (1+j)))]) (U8 1 [iI (U2 (W (1+k)))]) j=[i (U2 (W (1+j)))]:=by
     intro j hj;show HF (decide (j<k)) _ (U8 1 _ (j-k))=_;rw [show j-k=0 by omega]
     rcases (show j<k\/j=k by omega) with h1|rfl
     ·rw [decide_eq_true h1];rfl
     ·rw [show decide (j<j)=false by simp]
      rfl
    refine ⟨⟨VL,hc1 _⟩,VL,⟨VL,EE,λ_ _=>trivial,λ_ _=>trivial⟩,⟨VL,HY⟩,VL⟩
   ·have hno:nuB W n=false:=by
     rw [Bool.eq_false_iff];intro h2;have:=H3.1 h2 k hk;rw [hb] at this;cases this
    refine ⟨⟨λ_ _=>trivial,λ_ _=>trivial⟩,λE hE=>?_⟩
    cases hE;exact hQ.2 hno
  ·have hk:k=n-1:=VL;subst hk;have Wi1:nuB W n=true:=H3.2 I
   (with_reducible repeat' first|apply Al|intro _)
   all_goals first|exact Ak|rfl|(rename_i E hE;cases hE;exact hQ.1 Wi1)|trivial
def OS(s:HS):St:={σ:=[],m:=[(0,.cells 99 (hsL s)),(1,.row 23 1 s.xn s.xg),(2,.row 9 1 s.yn s.yg)],nx:=3000,sv:=[[.ptr 0 0,.row 1,.row 2]] }
def OX(s:HS):St:={σ:=[],m:=(Y6 s),nx:=3000,sv:=[[.ptr 0 0,.row 1,.row 2]] }
def rsE(e:Int):Bool×Int:=(decide (e=0),e)
def fmE(W:Nat->ByteArray)(n many:Nat)(e:Int):Int:=if n=many+1/\nuB W n=true then e else 4
def voE(s:HS)(x:Int):Int:=if bt 0 x ((s.nc:Int)-1)=true/\s.cv x.toNat=false then 0 else 7
def voS(s:HS)(x:Int):HS:={s with cv:=λk=>if (k:Int)=x then true else s.cv k}
theorem LD{P:Program}{c:Code}{sp0:PK}(h: ∀cj,VU c 0=some cj-> ∀ro cx,LX P ro cx cj sp0): ∀j cj,VU c j=some cj-> ∀sp,[sp0][j]? =some sp-> ∀ro cx,LX P ro cx cj sp:=by
 intro j cj hj sp hsp
 match j with
 | 0=>
  simp at hsp;subst hsp;exact h cj hj
 |j+1=>simp at hsp
theorem oV(s sep:ByteArray)(h:1<=sep.size):Lib.countB s sep<=s.size:=Lib.countB_le sep h s.size s (Am _)
theorem B1{str:ByteArray}{n:Nat}{W:Nat->ByteArray}(h:vD str n W):n<=100000:=by
 have h1:=oV str ⟨#[32]⟩ (by decide)
 have h2:=h.1;have h3:=h.2.1;omega
def s7:D0:=Wl5 aF
theorem Wk8:GC VQ 100 s7:=AI eU
theorem DH(a b c d e f:AV):H9 [a,b,c,d,e,f] [.top,.top,.top,.top,.top,.top]:=by
 have h: ∀a,dA a .top:=λa=>by cases a<;>trivial
 exact ⟨h a,h b,h c,h d,h e,h f,trivial⟩
theorem uM{sz n:Nat}{f:Nat->List AV}(h: ∀i,i<n-> ∀x∈f i,Idf x/\FB x x):dA (.lst sz n f) (.lst sz n f):=by
 refine ⟨rfl,rfl,λi O=>⟨?_,λx hx=>(h i O x hx).1⟩⟩
 have: ∀l:List AV,(∀x∈l,FB x x)->qR l l:=by
  intro l
  induction l with
  |nil=>intro _;trivial
  |cons a l ih=>intro hh;exact ⟨hh a GI,ih λx hx=>hh x (HP _ hx)⟩
 exact this _ λx hx=>(h i O x hx).2
theorem P9(n:Int):Idf (i n)/\FB (i n) (i n):=⟨.x _,by simp [FB,UH]⟩
theorem zC(n:Int):dA (i n) (i n):=(P9 n).2
theorem B2(s:HS):dA (hsR s) (hsR s):=uM λk _ x hx=>by
 simp only [GM,DL,or_false] at hx;rcases hx with rfl|rfl|rfl|rfl<;>exact P9 _
theorem PB(s:HS):dA (hsS s) (hsS s):=uM λk _ x hx=>by
 simp only [GM,DL,or_false] at hx;rcases hx with rfl|rfl|rfl|rfl|rfl<;>exact P9 _
theorem B4(s:HS):dA (hsC s) (hsC s):=uM λk _ x hx=>by
 simp only [GM,DL,or_false] at hx;rcases hx with rfl|rfl|rfl|rfl|rfl<;>first|exact P9 _|exact ⟨.x _,by simp [FB,UH]⟩
theorem B5(s:HS):dA (hsB s) (hsB s):=uM λk _ x hx=>by
 simp only [GM,DL,or_false] at hx;rcases hx with rfl|rfl|rfl
 ·exact P9 _
 ·exact P9 _
 ·refine ⟨.lst _ _ _ λj _ a ha=>?_,rfl,rfl,λ_ _=>rfl⟩
  simp only [GM,DL,or_false] at ha;rcases ha with rfl|rfl<;>exact .x _
section
variable {W:Nat->ByteArray}{n many:Nat}
theorem Qy3{e:Int}(h: ¬(n=many+1/\nuB W n=true)):(false,(4:Int))=rsE (fmE W n many e):=by
 unfold fmE;rw [if_neg h];rfl
theorem F4{e k:Int}(h1:n=many+1)(h2:nuB W n=true)(h:e=k)(hk:k≠0):(false,k)=rsE (fmE W n many e):=by
 unfold fmE rsE;rw [if_pos ⟨h1,h2⟩,h,decide_eq_false hk]
theorem uA{e:Int}(h1:n=many+1)(h2:nuB W n=true)(h:e=0):(true,(0:Int))=rsE (fmE W n many e):=by
 unfold fmE rsE;rw [if_pos ⟨h1,h2⟩,h];rfl
end
noncomputable abbrev Qg0:DS:=rI Tryz.prog [(36,RM)] {R:=[],H:=[(100,s7)] } [(145,RA)] [] Tryz.f180 (UA Tryz.f180)
theorem Ql7:D4 VQ 180 (Qg0):=
 FP (G:=[(36,RM)]) (X:={R:=[],H:=[(100,s7)] }) (PX:=[(145,RA)]) (L:=[]) (Ae PR Aa) (Ai Ab (Ag Wk8 Ac)) (UT.cons RQ (UT.nil _)) U0 (UJ Tryz.func180) Tryz.func180 (UV Tryz.f180) (λj cj _ sp hsp=>by simp at hsp)
abbrev Q5:List AV:=[ptr 0 0,AV.row 1,AV.row 2]
abbrev QA(s:HS):Prop:=((23:TypeId),1,s.xn,s.xg)=((23:TypeId),1,s.xn,s.xg)
abbrev QB(s:HS):Prop:=((9:TypeId),1,s.yn,s.yg)=((9:TypeId),1,s.yn,s.yg)
abbrev QT:List AV:=[top,top,top,top,top,top]
abbrev X7(s:HS):H0:=[(0,.cells 99 (hsL s)),(1,.row 23 1 s.xn s.xg),(2,.row 9 1 s.yn s.yg)]
theorem V7{p:Prop}(h:p:=by
 refine ⟨DH _ _ _ _ _ _,Qy3 λh=>?_⟩
 rw [h.2] at h5;cases h5):p:=h
theorem V5{p:Prop}(h:p:=by
 refine ⟨DH _ _ _ _ _ _,Qy3 λh=>?_⟩
 have:=h.1;simp at h4;omega):p:=h
theorem Xc1(V:Nat->ByteArray)(n:Nat)(str:ByteArray)(s:HS)(VV:vD str n (U6 (UQ 6) V))(UI:s.nc<=10):wD VQ 106 [.ptr 0 0,.x (.string str)] (X7 s) 901 [[.ptr 0 0,.row 1,.row 2]] 211 (OS (voS s (U2 (V 0)))) (OX s) (rsE (fmE (U6 (UQ 6) V) n 1 (voE s (U2 (V 0))))):=by
 refine LG (PX:=[(145,RA),(146,zZ),(180,Qg0)]) (L:=[yO (U6 (UQ 6) V) n 1 180 s]) (Ae (L9 VV) (Ae wB Aa)) Ad (UT.cons RQ (UT.cons wI (UT.cons Ql7 (UT.nil _)))) U0 (UJ Tryz.func106) Tryz.func106 (UV Tryz.f106) (LD (lpE (b:= .loop MI) VX<|uO (U6 (UQ 6) V) n 1 180 s VV.2.2.2 (B1 VV))) (N:=[(.cell 0 4,0,0,0)]) (t:=let z0:=(U2 (U6 (UQ 6) V 1));let z1:=(U6 (UQ 6) V (0:Int).toNat);let z2:=(need [[Q5]=[Q5],H9 (hL s) QT,QA s,QB s] (leaf (false,(4:Int))));let z3:=(need [[Q5]=[Q5],H9 (hL s) QT,QA s,QB s] (leaf (false,(7:Int))));let z4:=(U2 (U6 (UQ 6) V (1+(0:Int).toNat)));(need [M9 str str {data:=#[32] }] (need [UN 0 n] (branch (wdO z1) (need [VN (wdM (wdK z1)+1)] (branch (!(n:Int)==wdM (wdK z1)+1) z2 (need [(0:Int)<=1/\(1:Int)<=(n:Int)/\(n:Int)<=(n:Int)] (need [QO,U1 (lst 1 n λk=>[FR (U6 (UQ 6) V k)]),ZQ,WJ,(lst 1 (n-(1:Int).toNat) λi=>[AV.x (.string (U6 (UQ 6) V ((1:Int).toNat+i)))])=lst 1 (n-1) λj=>[FR (U6 (UQ 6) V (1+j))],(↑(n-(1:Int).toNat):Int)=(↑(n-1):Int),(0:Int)=(↑(0:Nat):Int),0=0,∀(i:Nat),i<0->[]=[iI (U2 (U6 (UQ 6) V (1+i)))],wdM (wdK z1)=1,U1 (AV.fn (Fn.func 180) [] []),XH s,JQ s,JR s,XW s,XO s,XP s,KK s,∀(i:Nat),i<s.xn->s.xg i=s.xg i,KL s,∀(i:Nat),i<s.yn->s.yg i=s.yg i,QO,JW,JX] (branch (nuB (U6 (UQ 6) V) n) (need [UN 0 (↑(n-1):Int)] (need [(0:Int).toNat<n-1] (need [VN ((↑s.nc:Int)-1)] (branch (bt (0:Int) z0 ((↑s.nc:Int)-1)) (need [UN 0 (↑(n-1):Int)] (need [(0:Int).toNat<n-1] (need [UN (U2 (U6 (UQ 6) V 1)) s.nc] (branch (!!s.cv (Int.toNat z0)) z3 (need [s.nc<=100000,gdX 5 s.nc λk=>[i (s.ca k),i (s.cb k),i (s.cc k),i (s.cd k),bl (s.cv k)]] (need [UN 0 (↑(n-1):Int)] (need [(0:Int).toNat<n-1] (need [UN (U2 (U6 (UQ 6) V 1)) s.nc] (need [Int.toNat z0<s.nc] (need [[Q5]=[Q5],H9 [hR s.nr s,iI s.pl,iI s.ph,hY s.nb s,lst 5 s.nc λk=>iI (if decide (k=Int.toNat z0)=true then s.ca k else s.ca k)::iI (if decide (k=Int.toNat z0)=true then s.cb k else s.cb k)::iI (if decide (k=Int.toNat z0)=true then s.cc k else s.cc k)::iI (if decide (k=Int.toNat z0)=true then s.cd k else s.cd k)::Bool.rec (bl (s.cv k)) (AV.lit true) (decide (k=Int.toNat z4))::Bool.rec ([]) ([]) (decide (k=Int.toNat z4)),hT s.ns s] (hL (voS s (U2 (V 0)))),((23:TypeId),1,s.xn,s.xg)=((23:TypeId),1,(voS s (U2 (V 0))).xn,(voS s (U2 (V 0))).xg),((9:TypeId),1,s.yn,s.yg)=((9:TypeId),1,(voS s (U2 (V 0))).yn,(voS s (U2 (V 0))).yg)] (leaf (true,(0:Int))))))))))))) z3)))) (need [[Q5]=[Q5],H9 QT QT,QA s,QB s] (leaf (false,(4:Int))))))))) z2)))) VX ?_
 have hw:wdO (U6 (UQ 6) V (Int.toNat 0))=true:=VX;have hm:wdM (wdK (U6 (UQ 6) V (Int.toNat 0)))=1:=VX;have hn1:1<=n:=by have:=VV.2.1;omega
 have hnl:=B1 VV;simp only [VO.sat,UE,UK,hm,hw,true_imp_iff];refine ⟨⟨rfl,rfl⟩,⟨VL,VL⟩,⟨by simp only [VN];omega,λh4=>?_,λh4=>?_⟩,λh=>by cases h⟩
 ·exact V5
 ·have hN:n=1+1:=by
   simp at h4;omega
  refine ⟨⟨VL,VL,VL⟩,?_,λh5=>?_,λh5=>?_⟩
  rotate_left 2
  ·exact V7
  ·all_goals exact yC
  ·have hk1:n-1=1:=VL;have hx:U2 (U6 (UQ 6) V 1)=U2 (V 0):=rfl;rw [hk1];simp only [hx,VN,bt_iff,Int.toNat_zero];have hgd:gdX 5 s.nc (λk=>[i (s.ca k),i (s.cb k),i (s.cc k),i (s.cd k),bl (s.cv k)]):=λk _=>⟨rfl,λx hx=>by
    simp only [GM,DL,or_false] at hx;rcases hx with rfl|rfl|rfl|rfl|rfl<;>exact ⟨Ak,by simp [AV.one,Value.oneCell']⟩⟩
   refine ⟨VL,VL,VL,λhb=>⟨VL,VL,VL,λh6=>⟨DH _ _ _ _ _ _,F4 hN h5 ?_ (by decide)⟩,λh6=>⟨⟨VL,hgd⟩,VL,VL,VL,VL,⟨⟨B2 s,zC _,zC _,B5 s,?_,PB s,trivial⟩,rfl,rfl⟩,uA hN h5 ?_⟩⟩,λhb=>⟨DH _ _ _ _ _ _,F4 hN h5 ?_ (by decide)⟩⟩
   ·unfold voE;rw [if_neg (λh=>by rw [h.2] at h6;cases h6)]
   ·refine ⟨rfl,rfl,λk hk=>?_⟩
    have e1:(voS s (U2 (V 0))).cv k=if k=(U2 (V 0)).toNat then true else s.cv k:=by
     show (if (k:Int)=U2 (V 0) then true else s.cv k)=_
     by_cases h:k=(U2 (V 0)).toNat
     ·rw [if_pos h,if_pos VL]
     ·rw [if_neg h,if_neg VL]
    refine ⟨?_,λx hx=>?_⟩
    ·by_cases h:k=(U2 (V 0)).toNat
     ·dsimp only
      rw [decide_eq_true h];refine ⟨(P9 _).2,(P9 _).2,(P9 _).2,(P9 _).2,?_,trivial⟩;rw [e1,if_pos h];exact rfl
     ·dsimp only
      rw [decide_eq_false h];refine ⟨(P9 _).2,(P9 _).2,(P9 _).2,(P9 _).2,?_,trivial⟩;rw [e1,if_neg h];simp [FB,UH]
    ·simp only [GM,DL,or_false] at hx;rcases hx with rfl|rfl|rfl|rfl|rfl<;>exact .x _
   ·unfold voE;rw [if_pos ⟨(bt_iff _ _ _).2 hb,by simpa using h6⟩]
   ·unfold voE;rw [if_neg (λh=>by
     have:=(bt_iff _ _ _).1 h.1;rw [←bt_iff,hb] at this;cases this)]
section
variable (s:HS)
def inE:Int:=rdE 4 100 20 30 s.nr s.ra s.rb s.ru s.rv 3 tbP tbQ s.pl s.ph 1 3
def baS(x0 A:Int):HS:={s with pl:=x0,ph:=A}
def baE(x0 A:Int):Int:=if inE (baS s x0 A)=0 then 0 else 2
def btS(x0 A:Int):HS:={s with nb:=s.nb+1,ql:=HE s.nb s.ql x0,qh:=HE s.nb s.qh A,qm:=λk=>if k<s.nb then s.qm k else 0}
def btE(x0 A:Int):Int:=if bt 0 x0 A=true/\A<=1000 then (if s.nb<6 then 0 else 3) else 2
def isS(x0 A I Z:Int):HS:={s with nc:=s.nc+1,ca:=HE s.nc s.ca x0,cb:=HE s.nc s.cb A,cc:=HE s.nc s.cc I,cd:=HE s.nc s.cd Z,cv:=apB s.nc s.cv false}
def isE(x0 A I Z:Int):Int:=if asE 4 100 20 30 s.nr s.ra s.rb s.ru s.rv 3 tbP tbQ s.pl s.ph 1 3 x0 A I Z=0 then (if s.nc<10 then (if kpB 4 100 20 30 s.nr s.ra s.rb s.ru s.rv 3 tbP tbQ s.pl s.ph 1 3 x0 A I Z=true then 0 else 10) else 3) else 2
end
theorem hsI{s:HS}:UG 4 s.nr (λk=>[Bo.i (s.ra k),Bo.i (s.rb k),Bo.i (s.ru k),Bo.i (s.rv k)])/\UG 2 3 (λk=>[i (tbP k),i (tbQ k)]):=⟨Bo.isRec4 _ _ _ _ _,Pt.isRec2 _ _ _⟩
noncomputable abbrev Qg3:DS:=rI Tryz.prog [(17,DQ)] {R:=[(44,L5)],H:=[] } [(145,RA)] [] Tryz.f176 (UA Tryz.f176)
theorem Qn1:D4 VQ 176 (Qg3):=
 FP (G:=[(17,DQ)]) (X:={R:=[(44,L5)],H:=[] }) (PX:=[(145,RA)]) (L:=[]) (Ae qM Aa) (Ai (Af F6 Ab) Ac) (UT.cons RQ (UT.nil _)) U0 (UJ Tryz.func176) Tryz.func176 (UV Tryz.f176) (λj cj _ sp hsp=>by simp at hsp)
abbrev YA(s:HS)(V:Nat->ByteArray):List AV:=[hR s.nr s,iI (U2 (U6 (UQ 2) V 1)),iI (U2 (U6 (UQ 2) V 2)),hY s.nb s,hC s.nc s,hT s.ns s]
theorem Xc4(V:Nat->ByteArray)(n:Nat)(str:ByteArray)(s:HS)(VV:vD str n (U6 (UQ 2) V)):wD VQ 106 [.ptr 0 0,.x (.string str)] (X7 s) 901 [[.ptr 0 0,.row 1,.row 2]] 211 (OS (baS s (U2 (V 0)) (U2 (V 1)))) (OX s) (rsE (fmE (U6 (UQ 2) V) n 2 (baE s (U2 (V 0)) (U2 (V 1))))):=by
 refine LG (PX:=[(145,RA),(146,zZ),(176,(Qg3))]) (L:=[yO (U6 (UQ 2) V) n 2 176 s]) (Ae (L9 VV) (Ae wB Aa)) Ad (UT.cons RQ (UT.cons wI (UT.cons (Qn1) (UT.nil _)))) U0 (UJ Tryz.func106) Tryz.func106 (UV Tryz.f106) (LD (lpE (b:= .loop MI) VX<|uO (U6 (UQ 2) V) n 2 176 s VV.2.2.2 (B1 VV))) (N:=[]) (t:=let z0:=(baS s (U2 (V 0)) (U2 (V 1)));let z1:=(U6 (UQ 2) V (0:Int).toNat);let z2:=(need [[Q5]=[Q5],H9 (hL s) QT,QA s,QB s] (leaf (false,(4:Int))));(need [M9 str str {data:=#[32] }] (need [UN 0 n] (branch (wdO z1) (need [VN (wdM (wdK z1)+1)] (branch (!(n:Int)==wdM (wdK z1)+1) z2 (need [(0:Int)<=1/\(1:Int)<=(n:Int)/\(n:Int)<=(n:Int)] (need [QO,U1 (lst 1 n λk=>[FR (U6 (UQ 2) V k)]),ZQ,WJ,(lst 1 (n-(1:Int).toNat) λi=>[AV.x (.string (U6 (UQ 2) V ((1:Int).toNat+i)))])=lst 1 (n-1) λj=>[FR (U6 (UQ 2) V (1+j))],(↑(n-(1:Int).toNat):Int)=(↑(n-1):Int),(0:Int)=(↑(0:Nat):Int),0=0,∀(i:Nat),i<0->[]=[iI (U2 (U6 (UQ 2) V (1+i)))],wdM (wdK z1)=2,U1 (AV.fn (Fn.func 176) [] []),XH s,JQ s,JR s,XW s,XO s,XP s,KK s,∀(i:Nat),i<s.xn->s.xg i=s.xg i,KL s,∀(i:Nat),i<s.yn->s.yg i=s.yg i,QO,JW,JX] (branch (nuB (U6 (UQ 2) V) n) (need [UN 0 (↑(n-1):Int)] (need [(0:Int).toNat<n-1] (need [UN 1 (↑(n-1):Int)] (need [(1:Int).toNat<n-1] (need [UG 4 s.nr λk=>[Bo.i (s.ra k),Bo.i (s.rb k),Bo.i (s.ru k),Bo.i (s.rv k)],UG 2 3 λk=>[i (tbP k),i (tbQ k)]] (branch (!rdE (4:Int) (100:Int) (20:Int) (30:Int) s.nr (s.ra) (s.rb) (s.ru) (s.rv) 3 tbP tbQ (U2 (U6 (UQ 2) V 1)) (U2 (U6 (UQ 2) V 2)) (1:Int) (3:Int)==0) (need [[Q5]=[Q5],H9 (YA s V) QT,QA s,QB s] (leaf (false,(2:Int)))) (need [[Q5]=[Q5],H9 (YA s V) (hL z0),((23:TypeId),1,s.xn,s.xg)=((23:TypeId),1,z0.xn,z0.xg),((9:TypeId),1,s.yn,s.yg)=((9:TypeId),1,z0.yn,z0.yg)] (leaf (true,(0:Int)))))))))) (need [[Q5]=[Q5],H9 QT QT,QA s,QB s] (leaf (false,(4:Int))))))))) z2)))) VX ?_
 have hw:wdO (U6 (UQ 2) V (Int.toNat 0))=true:=VX;have hm:wdM (wdK (U6 (UQ 2) V (Int.toNat 0)))=2:=VX;have hn1:1<=n:=by have:=VV.2.1;omega
 have hnl:=B1 VV;simp only [VO.sat,UE,UK,hm,hw,true_imp_iff];refine ⟨⟨rfl,rfl⟩,⟨VL,VL⟩,⟨by simp only [VN];omega,λh4=>?_,λh4=>?_⟩,λh=>by cases h⟩
 ·exact V5
 ·have hN:n=2+1:=by
   simp at h4;omega
  refine ⟨⟨VL,VL,VL⟩,?_,λh5=>?_,λh5=>?_⟩
  rotate_left 2
  ·exact V7
  ·all_goals exact yC
  ·have hk1:n-1=2:=VL;rw [hk1];simp only [VN,Int.toNat_zero];refine ⟨VL,VL,VL,by decide,hsI,λh6=>⟨DH _ _ _ _ _ _,F4 hN h5 ?_ (by decide)⟩,λh6=>⟨⟨⟨B2 s,zC _,zC _,B5 s,B4 s,PB s,trivial⟩,rfl,rfl⟩,uA hN h5 ?_⟩⟩
   ·unfold baE;simp at h6;exact if_neg h6
   ·unfold baE;simp at h6;exact if_pos h6
noncomputable def dX:D0:=rJ Tryz.prog [] {} [] Tryz.f209 (UA Tryz.f209)
theorem eV:GC VQ 209 dX:=
 RK (G:=[]) (X:=WH) (L:=[]) Aa Ad U0 (UJ Tryz.func209) Tryz.func209 (UV Tryz.f209) U7
noncomputable def Jk5:D0:=Wh6 Tryz.prog (Qb3 Tryz.prog [] {R:=[],H:=[(209,dX)] } []) Tryz.f206 (UA Tryz.f206)
theorem Xe2:GC VQ 206 Jk5:=by
 have hX: ∀cx,VY VQ {R:=[],H:=[(209,dX)] } cx:=(Ai Ab (Ag eV Ac));exact o1 (L:=[]) (λcx=>Wp0 (G:=[]) (X:={R:=[],H:=[(209,dX)] }) Aa (hX cx) U0) (UJ Tryz.func206) Tryz.func206 (UV Tryz.f206) U7
abbrev WQ(n:Nat)(U:Nat->Int)(O:Nat->Int)(m:Nat->Nat)(r:Nat->Nat->Int)(v:Nat->Nat->Int)(x0:Int)(A:Int):AV:=lst 3 (0+n+1) (GJ (0+n) (GJ 0 (λx=>[]) λk=>[iI (U k),iI (O k),lst 2 (m k) λk_1=>[iI (r k k_1),iI (v k k_1)]]) (U8 3 [iI x0,iI A,QI]))
abbrev J2(x0:Int)(A:Int):AV:=lst 3 1 (GJ 0 (λx=>[]) (U8 3 [iI x0,iI A,QI]))
section
variable (n:Nat)(U O:Nat->Int)(m:Nat->Nat)(r v:Nat->Nat->Int)
theorem Zg4(x0 A:Int)(VV:n<=100000):UP VQ 206 [.lst 3 n (λk=>[i (U k),i (O k),rdl (m k) (r k) (v k)]),.agg [i x0,i A,.x (.slice none 0 0)]] (.leaf (.lst 3 (n+1) (λk=>[i (HE n U x0 k),i (HE n O A k),rdl (if k<n then m k else 0) (r k) (v k)]))):=by
 refine S2 Xe2 (t:=VO.may True (VO.may True (VO.may (n=0) (need [40<=140737488355328,L0 1 (U8 3 [iI x0,iI A,QI])] (leaf (J2 x0 A))) (need [(0+n)*40<=140737488355328,∀(i:Nat),i<n-> ∀(a:AV),a∈[iI (U i),iI (O i),rdl (m i) (r i) (v i)]->AV.one a=true] (need [(0+n+1)*40<=140737488355328,L0 1 (U8 3 [iI x0,iI A,QI])] (leaf (WQ n U O m r v x0 A))))) (VO.may True (VO.may (n=0) (need [40<=140737488355328,L0 1 (U8 3 [iI x0,iI A,QI])] (leaf (J2 x0 A))) (need [(0+n)*40<=140737488355328,∀(i:Nat),i<n-> ∀(a:AV),a∈[iI (U i),iI (O i),rdl (m i) (r i) (v i)]->AV.one a=true] (need [(0+n+1)*40<=140737488355328,L0 1 (U8 3 [iI x0,iI A,QI])] (leaf (WQ n U O m r v x0 A))))) (VO.may (n=0) (need [40<=140737488355328,L0 1 (U8 3 [iI x0,iI A,QI])] (leaf (J2 x0 A))) (need [(0+n)*40<=140737488355328,∀(i:Nat),i<n-> ∀(a:AV),a∈[iI (U i),iI (O i),rdl (m i) (r i) (v i)]->AV.one a=true] (need [(0+n+1)*40<=140737488355328,L0 1 (U8 3 [iI x0,iI A,QI])] (leaf (WQ n U O m r v x0 A))))))) (VO.may True (VO.may True (VO.may (n=0) (need [40<=140737488355328,L0 1 (U8 3 [iI x0,iI A,QI])] (leaf (J2 x0 A))) (need [(0+n)*40<=140737488355328,∀(i:Nat),i<n-> ∀(a:AV),a∈[iI (U i),iI (O i),rdl (m i) (r i) (v i)]->AV.one a=true] (need [(0+n+1)*40<=140737488355328,L0 1 (U8 3 [iI x0,iI A,QI])] (leaf (WQ n U O m r v x0 A))))) (VO.may (n=0) (need [40<=140737488355328,L0 1 (U8 3 [iI x0,iI A,QI])] (leaf (J2 x0 A))) (need [(0+n)*40<=140737488355328,∀(i:Nat),i<n-> ∀(a:AV),a∈[iI (U i),iI (O i),rdl (m i) (r i) (v i)]->AV.one a=true] (need [(0+n+1)*40<=140737488355328,L0 1 (U8 3 [iI x0,iI A,QI])] (leaf (WQ n U O m r v x0 A)))))) (VO.may (n=0) (need [40<=140737488355328,L0 1 (U8 3 [iI x0,iI A,QI])] (leaf (J2 x0 A))) (need [(0+n)*40<=140737488355328,∀(i:Nat),i<n-> ∀(a:AV),a∈[iI (U i),iI (O i),rdl (m i) (r i) (v i)]->AV.one a=true] (need [(0+n+1)*40<=140737488355328,L0 1 (U8 3 [iI x0,iI A,QI])] (leaf (WQ n U O m r v x0 A))))))) VX ?_;intro Q hQ;have hA: ∀(k:Nat),k<1-> ∀(a:AV),a∈U8 3 [i x0,i A,AV.x (.slice none 0 0)] k->a.one=true:=by
  intro k hk a ha;obtain rfl:k=0:=VL;have ha:a∈[i x0,i A,AV.x (.slice none 0 0)]:=ha;simp only [GM,DL,or_false] at ha;rcases ha with rfl|rfl|rfl<;>simp [AV.one,Value.oneCell']
 have hB: ∀(k:Nat),k<n-> ∀(a:AV),a∈[i (U k),i (O k),rdl (m k) (r k) (v k)]->a.one=true:=by
  intro k hk a ha;simp only [GM,DL,or_false] at ha;rcases ha with rfl|rfl|rfl<;>simp [AV.one,Value.oneCell']
 have hI: ∀(k:Nat),∀x∈[i (HE n U x0 k),i (HE n O A k),rdl (if k<n then m k else 0) (r k) (v k)],Idf x:=by
  intro k x hx;simp only [GM,DL,or_false] at hx;rcases hx with rfl|rfl|rfl
  ·exact .x _
  ·exact .x _
  ·exact VA
 have hL: ∀k,n<=k->k<n+1->qR [i x0,i A,AV.x (.slice none 0 0)] [i (HE n U x0 k),i (HE n O A k),rdl (if k<n then m k else 0) (r k) (v k)]:=by
  intro k h _;simp only [HE,if_neg (Nat.not_lt.2 h)];exact ⟨(P9 _).2,(P9 _).2,⟨Ak,rfl⟩,trivial⟩
 have h1:n=0-> ∃r',dA (lst 3 1 (GJ 0 (λx=>[]) (U8 3 [i x0,i A,AV.x (.slice none 0 0)]))) r'/\Q r':=by
  intro h0;refine ⟨lst 3 (n+1) (λk=>[i (HE n U x0 k),i (HE n O A k),rdl (if k<n then m k else 0) (r k) (v k)]),⟨rfl,VL,λk hk=>⟨?_,hI k⟩⟩,hQ⟩
  obtain rfl:k=0:=VL;exact hL 0 VL VL
 have h2: ∃r',dA (lst 3 (0+n+1) (GJ (0+n) (GJ 0 (λx=>[]) λk=>[i (U k),i (O k),lst 2 (m k) λj=>[i (r k j),i (v k j)]]) (U8 3 [i x0,i A,QI]))) r'/\Q r':=by
  refine ⟨lst 3 (n+1) (λk=>[i (HE n U x0 k),i (HE n O A k),rdl (if k<n then m k else 0) (r k) (v k)]),⟨rfl,VL,λk hk=>⟨?_,hI k⟩⟩,hQ⟩
  show qR (HF (decide (k<0+n)) (GJ 0 (λx=>[]) (λk=>[i (U k),i (O k),lst 2 (m k) λj=>[i (r k j),i (v k j)]]) k) (U8 3 [i x0,i A,QI] (k-(0+n)))) _
  rw [Qb4,show k-(0+n)=0 by omega]
  by_cases h:k<n
  ·rw [show decide (k<0+n)=true from decide_eq_true VL];simp only [HE,if_pos h];exact ⟨(P9 _).2,(P9 _).2,⟨rfl,rfl,λ_ _=>rfl⟩,trivial⟩
  ·rw [show decide (k<0+n)=false from decide_eq_false VL];exact hL k VL VL
 simp only [VO.sat,UE,UK]
 (with_reducible repeat' first|apply Al|intro _)
 all_goals first|exact Ak|omega|exact hA _ (by assumption) _ (by assumption)|exact hB _ (by assumption) _ (by assumption)|exact h2|exact h1 (by assumption)
def Qf9:D8:=λl=>match l with
 |[.lst 3 n1 f1,.agg [.x (.int .i64 x0),.x (.int .i64 A),.x z]]=>some (.need [lst 3 n1 f1= .lst 3 n (λk=>[i (U k),i (O k),rdl (m k) (r k) (v k)]),z= .slice none 0 0,n<=100000] (.leaf (.lst 3 (n+1) (λk=>[i (HE n U x0 k),i (HE n O A k),rdl (if k<n then m k else 0) (r k) (v k)]))))
 |_=>none
theorem Xe1:Sx.Enters Tryz.prog 206/\ ∀avs t,Qf9 n U O m r v avs=some t->UP VQ 206 avs t:=by
 refine ⟨(UJ Tryz.func206),?_⟩;intro avs t h;unfold Qf9 at h;split at h
 ·cases h;intro Q hQ;obtain ⟨h1,h2⟩:=hQ;have e1:=h1.1;have e2:=h1.2.1;have e3:=h1.2.2;rw [e1,e2];exact Zg4 _ _ _ _ _ _ _ _ e3 Q h2
 ·cases h
end
noncomputable abbrev Qg2(s:HS):DS:=rI Tryz.prog [(36,RM)] {R:=[],H:=[],C:=[(206,(Qf9 s.nb s.ql s.qh s.qm s.qr s.qv))] } [(145,RA)] [] Tryz.f177 (UA Tryz.f177)
theorem Qm9(s:HS):D4 VQ 177 (Qg2 s):=
 FP (G:=[(36,RM)]) (X:={R:=[],H:=[],C:=[(206,(Qf9 s.nb s.ql s.qh s.qm s.qr s.qv))] }) (PX:=[(145,RA)]) (L:=[]) (Ae PR Aa) (Aj Ab Ac (Ah (Xe1 s.nb s.ql s.qh s.qm s.qr s.qv) (UB.nil _))) (UT.cons RQ (UT.nil _)) U0 (UJ Tryz.func177) Tryz.func177 (UV Tryz.f177) (λj cj _ sp hsp=>by simp at hsp)
theorem Xc3(V:Nat->ByteArray)(n:Nat)(str:ByteArray)(s:HS)(VV:vD str n (U6 (UQ 3) V))(UI:s.nb<=6):wD VQ 106 [.ptr 0 0,.x (.string str)] (X7 s) 901 [[.ptr 0 0,.row 1,.row 2]] 211 (OS (btS s (U2 (V 0)) (U2 (V 1)))) (OX s) (rsE (fmE (U6 (UQ 3) V) n 2 (btE s (U2 (V 0)) (U2 (V 1))))):=by
 refine LG (PX:=[(145,RA),(146,zZ),(177,(Qg2 s))]) (L:=[yO (U6 (UQ 3) V) n 2 177 s]) (Ae (L9 VV) (Ae wB Aa)) Ad (UT.cons RQ (UT.cons wI (UT.cons (Qm9 s) (UT.nil _)))) U0 (UJ Tryz.func106) Tryz.func106 (UV Tryz.f106) (LD (lpE (b:= .loop MI) VX<|uO (U6 (UQ 3) V) n 2 177 s VV.2.2.2 (B1 VV))) (N:=[]) (t:=let z0:=(btS s (U2 (V 0)) (U2 (V 1)));let z1:=(U6 (UQ 3) V (0:Int).toNat);let z2:=(need [[Q5]=[Q5],H9 (hL s) QT,QA s,QB s] (leaf (false,(4:Int))));let z3:=(need [[Q5]=[Q5],H9 (hL s) QT,QA s,QB s] (leaf (false,(2:Int))));(need [M9 str str {data:=#[32] }] (need [UN 0 n] (branch (wdO z1) (need [VN (wdM (wdK z1)+1)] (branch (!(n:Int)==wdM (wdK z1)+1) z2 (need [(0:Int)<=1/\(1:Int)<=(n:Int)/\(n:Int)<=(n:Int)] (need [QO,U1 (lst 1 n λk=>[FR (U6 (UQ 3) V k)]),ZQ,WJ,(lst 1 (n-(1:Int).toNat) λi=>[AV.x (.string (U6 (UQ 3) V ((1:Int).toNat+i)))])=lst 1 (n-1) λj=>[FR (U6 (UQ 3) V (1+j))],(↑(n-(1:Int).toNat):Int)=(↑(n-1):Int),(0:Int)=(↑(0:Nat):Int),0=0,∀(i:Nat),i<0->[]=[iI (U2 (U6 (UQ 3) V (1+i)))],wdM (wdK z1)=2,U1 (AV.fn (Fn.func 177) [] []),XH s,JQ s,JR s,XW s,XO s,XP s,KK s,∀(i:Nat),i<s.xn->s.xg i=s.xg i,KL s,∀(i:Nat),i<s.yn->s.yg i=s.yg i,QO,JW,JX] (branch (nuB (U6 (UQ 3) V) n) (need [UN 0 (↑(n-1):Int)] (need [(0:Int).toNat<n-1] (need [UN 1 (↑(n-1):Int)] (need [(1:Int).toNat<n-1] (branch (bt (0:Int) (U2 (U6 (UQ 3) V 1)) (U2 (U6 (UQ 3) V 2))) (need [UN 1 (↑(n-1):Int)] (need [(1:Int).toNat<n-1] (branch (!decide (U2 (U6 (UQ 3) V 2)<=1000)) z3 (branch (!decide ((↑s.nb:Int)<6)) (need [[Q5]=[Q5],H9 (hL s) QT,QA s,QB s] (leaf (false,(3:Int)))) (need [UN 0 (↑(n-1):Int)] (need [(0:Int).toNat<n-1] (need [UN 1 (↑(n-1):Int)] (need [(1:Int).toNat<n-1] (need [(hY s.nb s)=lst 3 s.nb λk=>[iI (s.ql k),iI (s.qh k),lst 2 (s.qm k) λk_1=>[iI (s.qr k k_1),iI (s.qv k k_1)]],J4=J4,s.nb<=100000] (need [[Q5]=[Q5],H9 [hR s.nr s,iI s.pl,iI s.ph,lst 3 (s.nb+1) λk=>[iI (HE s.nb (s.ql) (U2 (U6 (UQ 3) V 1)) k),iI (HE s.nb (s.qh) (U2 (U6 (UQ 3) V 2)) k),lst 2 (if k<s.nb then s.qm k else 0) λk_1=>[iI (s.qr k k_1),iI (s.qv k k_1)]],hC s.nc s,hT s.ns s] (hL z0),((23:TypeId),1,s.xn,s.xg)=((23:TypeId),1,z0.xn,z0.xg),((9:TypeId),1,s.yn,s.yg)=((9:TypeId),1,z0.yn,z0.yg)] (leaf (true,(0:Int))))))))))))) z3))))) (need [[Q5]=[Q5],H9 QT QT,QA s,QB s] (leaf (false,(4:Int))))))))) z2)))) VX ?_
 have hw:wdO (U6 (UQ 3) V (Int.toNat 0))=true:=VX;have hm:wdM (wdK (U6 (UQ 3) V (Int.toNat 0)))=2:=VX;have hn1:1<=n:=by have:=VV.2.1;omega
 have hnl:=B1 VV;simp only [VO.sat,UE,UK,hm,hw,true_imp_iff];refine ⟨⟨rfl,rfl⟩,⟨VL,VL⟩,⟨by simp only [VN];omega,λh4=>?_,λh4=>?_⟩,λh=>by cases h⟩
 ·exact V5
 ·have hN:n=2+1:=by
   simp at h4;omega
  refine ⟨⟨VL,VL,VL⟩,?_,λh5=>?_,λh5=>?_⟩
  rotate_left 2
  ·exact V7
  ·all_goals exact yC
  ·have hk1:n-1=2:=VL;have hx0:U2 (U6 (UQ 3) V 1)=U2 (V 0):=rfl;have hx1:U2 (U6 (UQ 3) V 2)=U2 (V 1):=rfl;rw [hk1];simp only [hx0,hx1,Int.toNat_zero];refine ⟨VL,VL,VL,by decide,λhb=>⟨VL,by decide,λh6=>⟨DH _ _ _ _ _ _,F4 hN h5 ?_ (by decide)⟩,λh6=>⟨λh7=>⟨DH _ _ _ _ _ _,F4 hN h5 ?_ (by decide)⟩,λh7=>⟨VL,VL,VL,by decide,VL,⟨⟨B2 s,zC _,zC _,B5 (btS s (U2 (V 0)) (U2 (V 1))),B4 s,PB s,trivial⟩,rfl,rfl⟩,uA hN h5 ?_⟩⟩⟩,λhb=>⟨DH _ _ _ _ _ _,F4 hN h5 ?_ (by decide)⟩⟩
   ·simp at h6;exact if_neg λh=>VL
   ·simp at h6 h7;unfold btE;rw [if_pos ⟨hb,h6⟩,if_neg VL]
   ·simp at h6 h7;unfold btE;rw [if_pos ⟨hb,h6⟩,if_pos VL]
   ·exact if_neg λh=>by
     rw [hb] at h;cases h.1
def thS(s:HS)(x0 A I Z:Int):HS:={s with nr:=s.nr+1,ra:=HE s.nr s.ra x0,rb:=HE s.nr s.rb A,ru:=HE s.nr s.ru I,rv:=HE s.nr s.rv Z}
def thD(x0 A I Z:Int):Int:=eB 4 100 20 30 1 (λ_=>x0) (λ_=>A) (λ_=>I) (λ_=>Z)
def thE(s:HS)(x0 A I Z:Int):Int:=if (thD x0 A I Z==0||thD x0 A I Z==9)=true then (if s.nr<12 then (if inE (thS s x0 A I Z)=0 then 0 else 9) else 3) else 2
def cR(S:G0):D8:=λl=>match S l with
 |some (ns,r)=>some (.needT ns (.leaf r))
 |none=>none
theorem Qb7{P:Program}{f:FuncId}{S:G0}(h:PI P f S):Sx.Enters P f/\ ∀avs t,cR S avs=some t->UP P f avs t:=by
 refine ⟨h.1,λavs t ht=>?_⟩
 unfold cR at ht;split at ht
 ·rename_i ns r hS;cases ht;intro Q hQ e w args h1 h2 h3 h4;obtain ⟨q1,q2⟩:=VO.sat_needT hQ;refine (h.2 _ _ _ hS (GE q1) e w args h1 h2 h3 h4).mono ?_;rintro en w' ⟨v,rfl,g1,g2⟩;exact ⟨v,r,rfl,q2,g1,g2⟩
 ·cases ht
def gL:G0
 |[.agg [.x (.int .i64 c),.x (.int .i64 T),.x (.int .i64 U),.x (.int .i64 O)],.lst 4 n f]=>match f 0 with
  |[.x (.int .i64 a),.x (.int .i64 b),.x (.int .i64 u),.x (.int .i64 v)]=>some ([n=1],.tup [i (dtB c T U O 1 (λ_=>a) (λ_=>b) (λ_=>u) (λ_=>v)),i (eB c T U O 1 (λ_=>a) (λ_=>b) (λ_=>u) (λ_=>v))])
  |_=>none
 |_=>none
theorem Qq9:VS VQ 203 gL:=by
 refine ⟨(UJ Tryz.func203),?_⟩;intro avs ns res h hn;unfold gL at h;split at h
 ·rename_i c T U O n f;split at h
  ·rename_i a b u v hf;cases h;obtain rfl:n=1:=hn _ GI;exact (Wy1 c T U O 1 (λ_=>a) (λ_=>b) (λ_=>u) (λ_=>v)).same (.cons (.refl _) (.cons (.lst 4 1 f _ (λk hk=>by
    obtain rfl:k=0:=VL;exact hf)) .nil))
  ·cases h
 ·cases h
theorem bnf{b:Bool}(h:(!b)=false):b=true:=by cases b<;>simp_all
theorem bnt{b:Bool}(h:(!b)=true):b=false:=by cases b<;>simp_all
section
variable {s:HS}{x0 A I Z:Int}
theorem Zs7(h:(thD x0 A I Z==0)=false)(h':(thD x0 A I Z==9)=false):thE s x0 A I Z=2:=by
 unfold thE;rw [h,h'];rfl
theorem Xn4(h:(thD x0 A I Z==0||thD x0 A I Z==9)=true)(h8:(!decide ((s.nr:Int)<12))=true):thE s x0 A I Z=3:=by
 unfold thE;simp at h8;rw [if_pos h,if_neg VL]
theorem Xn3(h:(thD x0 A I Z==0||thD x0 A I Z==9)=true)(h8:(!decide ((s.nr:Int)<12))=false)(h9:(!inE (thS s x0 A I Z)==0)=true):thE s x0 A I Z=9:=by
 unfold thE;simp at h8 h9;rw [if_pos h,if_pos VL,if_neg h9]
theorem Xn5(h:(thD x0 A I Z==0||thD x0 A I Z==9)=true)(h8:(!decide ((s.nr:Int)<12))=false)(h9:(!inE (thS s x0 A I Z)==0)=false):thE s x0 A I Z=0:=by
 unfold thE;simp at h8 h9;rw [if_pos h,if_pos VL,if_pos h9]
end
noncomputable abbrev OQ(s:HS):DS:=rI Tryz.prog [(203,gL),(17,DQ),(204,(Qf7 s.nr s.ra s.rb s.ru s.rv))] {R:=[(44,L5)],H:=[],C:=[(44,(cR L5))] } [(145,RA)] [] Tryz.f174 (UA Tryz.f174)
theorem e9(s:HS):D4 VQ 174 (OQ s):=
 FP (G:=[(203,gL),(17,DQ),(204,(Qf7 s.nr s.ra s.rb s.ru s.rv))]) (X:={R:=[(44,L5)],H:=[],C:=[(44,(cR L5))] }) (PX:=[(145,RA)]) (L:=[]) (Ae Qq9 (Ae qM (Ae (Xd9 s.nr s.ra s.rb s.ru s.rv) Aa))) (Aj (Af F6 Ab) Ac (Ah (Qb7 F6) (UB.nil _))) (UT.cons RQ (UT.nil _)) U0 (UJ Tryz.func174) Tryz.func174 (UV Tryz.f174) (λj cj _ sp hsp=>by simp at hsp)
abbrev W9(s:HS)(V:Nat->ByteArray):List AV:=[lst 4 (s.nr+1) λk=>[iI (HE s.nr (s.ra) (U2 (U6 (UQ 0) V 1)) k),iI (HE s.nr (s.rb) (U2 (U6 (UQ 0) V 2)) k),iI (HE s.nr (s.ru) (U2 (U6 (UQ 0) V 3)) k),iI (HE s.nr (s.rv) (U2 (U6 (UQ 0) V 4)) k)],iI s.pl,iI s.ph,hY s.nb s,hC s.nc s,hT s.ns s]
theorem Qk9(V:Nat->ByteArray)(n:Nat)(str:ByteArray)(s:HS)(VV:vD str n (U6 (UQ 0) V))(UI:s.nr<=12):wD VQ 106 [.ptr 0 0,.x (.string str)] (X7 s) 901 [[.ptr 0 0,.row 1,.row 2]] 211 (OS (thS s (U2 (V 0)) (U2 (V 1)) (U2 (V 2)) (U2 (V 3)))) (OX s) (rsE (fmE (U6 (UQ 0) V) n 4 (thE s (U2 (V 0)) (U2 (V 1)) (U2 (V 2)) (U2 (V 3))))):=by
 refine LG (PX:=[(145,RA),(146,zZ),(174,(OQ s))]) (L:=[yO (U6 (UQ 0) V) n 4 174 s]) (Ae (L9 VV) (Ae wB Aa)) Ad (UT.cons RQ (UT.cons wI (UT.cons (e9 s) (UT.nil _)))) U0 (UJ Tryz.func106) Tryz.func106 (UV Tryz.f106) (LD (lpE (b:= .loop MI) VX<|uO (U6 (UQ 0) V) n 4 174 s VV.2.2.2 (B1 VV))) (N:=[]) (t:=let z1:=(thS s (U2 (V 0)) (U2 (V 1)) (U2 (V 2)) (U2 (V 3)));let z0:=(branch (!decide ((↑s.nr:Int)<12)) (need [[Q5]=[Q5],H9 (hL s) QT,QA s,QB s] (leaf (false,(3:Int)))) (need [XH s,s.nr<=100000] (need [UG 4 (s.nr+1) λk=>[Bo.i (HE s.nr (s.ra) (U2 (U6 (UQ 0) V 1)) k),Bo.i (HE s.nr (s.rb) (U2 (U6 (UQ 0) V 2)) k),Bo.i (HE s.nr (s.ru) (U2 (U6 (UQ 0) V 3)) k),Bo.i (HE s.nr (s.rv) (U2 (U6 (UQ 0) V 4)) k)],UG 2 3 λk=>[i (tbP k),i (tbQ k)]] (branch (!rdE (4:Int) (100:Int) (20:Int) (30:Int) (s.nr+1) (HE s.nr (s.ra) (U2 (U6 (UQ 0) V 1))) (HE s.nr (s.rb) (U2 (U6 (UQ 0) V 2))) (HE s.nr (s.ru) (U2 (U6 (UQ 0) V 3))) (HE s.nr (s.rv) (U2 (U6 (UQ 0) V 4))) 3 tbP tbQ s.pl s.ph (1:Int) (3:Int)==0) (need [[Q5]=[Q5],H9 (W9 s V) QT,QA s,QB s] (leaf (false,(9:Int)))) (need [[Q5]=[Q5],H9 (W9 s V) (hL z1),((23:TypeId),1,s.xn,s.xg)=((23:TypeId),1,z1.xn,z1.xg),((9:TypeId),1,s.yn,s.yg)=((9:TypeId),1,z1.yn,z1.yg)] (leaf (true,(0:Int))))))));let z2:=(eB (4:Int) (100:Int) (20:Int) (30:Int) 1 (λx=>U2 (U6 (UQ 0) V 1)) (λx=>U2 (U6 (UQ 0) V 2)) (λx=>U2 (U6 (UQ 0) V 3)) λx=>U2 (U6 (UQ 0) V 4));let z3:=(U6 (UQ 0) V (0:Int).toNat);let z4:=(need [[Q5]=[Q5],H9 (hL s) QT,QA s,QB s] (leaf (false,(4:Int))));(need [M9 str str {data:=#[32] }] (need [UN 0 n] (branch (wdO z3) (need [VN (wdM (wdK z3)+1)] (branch (!(n:Int)==wdM (wdK z3)+1) z4 (need [(0:Int)<=1/\(1:Int)<=(n:Int)/\(n:Int)<=(n:Int)] (need [QO,U1 (lst 1 n λk=>[FR (U6 (UQ 0) V k)]),ZQ,WJ,(lst 1 (n-(1:Int).toNat) λi=>[AV.x (.string (U6 (UQ 0) V ((1:Int).toNat+i)))])=lst 1 (n-1) λj=>[FR (U6 (UQ 0) V (1+j))],(↑(n-(1:Int).toNat):Int)=(↑(n-1):Int),(0:Int)=(↑(0:Nat):Int),0=0,∀(i:Nat),i<0->[]=[iI (U2 (U6 (UQ 0) V (1+i)))],wdM (wdK z3)=4,U1 (AV.fn (Fn.func 174) [] []),XH s,JQ s,JR s,XW s,XO s,XP s,KK s,∀(i:Nat),i<s.xn->s.xg i=s.xg i,KL s,∀(i:Nat),i<s.yn->s.yg i=s.yg i,QO,JW,JX] (branch (nuB (U6 (UQ 0) V) n) (need [UN 0 (↑(n-1):Int)] (need [(0:Int).toNat<n-1] (need [UN 1 (↑(n-1):Int)] (need [(1:Int).toNat<n-1] (need [UN 2 (↑(n-1):Int)] (need [(2:Int).toNat<n-1] (need [UN 3 (↑(n-1):Int)] (need [(3:Int).toNat<n-1] (need [1=1] (branch (z2==0) z0 (branch (!z2==9) (need [[Q5]=[Q5],H9 (hL s) QT,QA s,QB s] (leaf (false,(2:Int)))) z0))))))))))) (need [[Q5]=[Q5],H9 QT QT,QA s,QB s] (leaf (false,(4:Int))))))))) z4)))) VX ?_
 have hw:wdO (U6 (UQ 0) V (Int.toNat 0))=true:=VX;have hm:wdM (wdK (U6 (UQ 0) V (Int.toNat 0)))=4:=VX;have hn1:1<=n:=by have:=VV.2.1;omega
 have hnl:=B1 VV;simp only [VO.sat,UE,UK,hm,hw,true_imp_iff];refine ⟨⟨rfl,rfl⟩,⟨VL,VL⟩,⟨by simp only [VN];omega,λh4=>?_,λh4=>?_⟩,λh=>by cases h⟩
 ·exact V5
 ·have hN:n=4+1:=by
   simp at h4;omega
  refine ⟨⟨VL,VL,VL⟩,?_,λh5=>?_,λh5=>?_⟩
  rotate_left 2
  ·exact V7
  ·all_goals exact yC
  ·have hk1:n-1=4:=VL;have hx0:U2 (U6 (UQ 0) V 1)=U2 (V 0):=rfl;have hx1:U2 (U6 (UQ 0) V 2)=U2 (V 1):=rfl;have hx2:U2 (U6 (UQ 0) V 3)=U2 (V 2):=rfl;have hx3:U2 (U6 (UQ 0) V 4)=U2 (V 3):=rfl;rw [hk1];simp only [hx0,hx1,hx2,hx3];refine ⟨VL,by decide,VL,by decide,VL,by decide,VL,by decide,λh6=>⟨λh8=>⟨DH _ _ _ _ _ _,F4 hN h5 (Xn4 (Bool.or_eq_true_iff.2 (.inl h6)) h8) (by decide)⟩,λh8=>⟨VL,⟨Bo.isRec4 _ _ _ _ _,Pt.isRec2 _ _ _⟩,λh9=>⟨DH _ _ _ _ _ _,F4 hN h5 (Xn3 (Bool.or_eq_true_iff.2 (.inl h6)) h8 h9) (by decide)⟩,λh9=>⟨⟨⟨B2 (thS s (U2 (V 0)) (U2 (V 1)) (U2 (V 2)) (U2 (V 3))),zC _,zC _,B5 s,B4 s,PB s,trivial⟩,rfl,rfl⟩,uA hN h5 (Xn5 (Bool.or_eq_true_iff.2 (.inl h6)) h8 h9)⟩⟩⟩,λh6=>⟨λh7=>⟨DH _ _ _ _ _ _,F4 hN h5 (Zs7 h6 (bnt h7)) (by decide)⟩,λh7=>⟨λh8=>⟨DH _ _ _ _ _ _,F4 hN h5 (Xn4 (Bool.or_eq_true_iff.2 (.inr (bnf h7))) h8) (by decide)⟩,λh8=>⟨VL,⟨Bo.isRec4 _ _ _ _ _,Pt.isRec2 _ _ _⟩,λh9=>⟨DH _ _ _ _ _ _,F4 hN h5 (Xn3 (Bool.or_eq_true_iff.2 (.inr (bnf h7))) h8 h9) (by decide)⟩,λh9=>⟨⟨⟨B2 (thS s (U2 (V 0)) (U2 (V 1)) (U2 (V 2)) (U2 (V 3))),zC _,zC _,B5 s,B4 s,PB s,trivial⟩,rfl,rfl⟩,uA hN h5 (Xn5 (Bool.or_eq_true_iff.2 (.inr (bnf h7))) h8 h9)⟩⟩⟩⟩⟩
section
variable {s:HS}{x0 A I Z:Int}
theorem Ja4(h6:(!asE 4 100 20 30 s.nr s.ra s.rb s.ru s.rv 3 tbP tbQ s.pl s.ph 1 3 x0 A I Z==0)=true):isE s x0 A I Z=2:=by
 unfold isE;simp at h6;rw [if_neg h6]
theorem Ja3(h6:(!asE 4 100 20 30 s.nr s.ra s.rb s.ru s.rv 3 tbP tbQ s.pl s.ph 1 3 x0 A I Z==0)=false)(h7:(!decide ((s.nc:Int)<10))=true):isE s x0 A I Z=3:=by
 unfold isE;simp at h6 h7;rw [if_pos h6,if_neg VL]
theorem Zf6(h6:(!asE 4 100 20 30 s.nr s.ra s.rb s.ru s.rv 3 tbP tbQ s.pl s.ph 1 3 x0 A I Z==0)=false)(h7:(!decide ((s.nc:Int)<10))=false)(h8:(!kpB 4 100 20 30 s.nr s.ra s.rb s.ru s.rv 3 tbP tbQ s.pl s.ph 1 3 x0 A I Z)=true):isE s x0 A I Z=10:=by
 unfold isE;simp at h6 h7 h8;rw [if_pos h6,if_pos VL,h8,if_neg (by decide)]
theorem Ja5(h6:(!asE 4 100 20 30 s.nr s.ra s.rb s.ru s.rv 3 tbP tbQ s.pl s.ph 1 3 x0 A I Z==0)=false)(h7:(!decide ((s.nc:Int)<10))=false)(h8:(!kpB 4 100 20 30 s.nr s.ra s.rb s.ru s.rv 3 tbP tbQ s.pl s.ph 1 3 x0 A I Z)=false):isE s x0 A I Z=0:=by
 unfold isE;simp at h6 h7 h8;rw [if_pos h6,if_pos VL,h8,if_pos rfl]
end
noncomputable abbrev lN(s:HS):DS:=rI Tryz.prog [(26,aD),(211,(Qf8 s.nc s.ca s.cb s.cc s.cd s.cv))] {R:=[],H:=[],C:=[(44,(cR L5))] } [(145,RA)] [] Tryz.f179 (UA Tryz.f179)
theorem oD(s:HS):D4 VQ 179 (lN s):=
 FP (G:=[(26,aD),(211,(Qf8 s.nc s.ca s.cb s.cc s.cd s.cv))]) (X:={R:=[],H:=[],C:=[(44,(cR L5))] }) (PX:=[(145,RA)]) (L:=[]) (Ae Qg6 (Ae (Xe0 s.nc s.ca s.cb s.cc s.cd s.cv) Aa)) (Aj Ab Ac (Ah (Qb7 F6) (UB.nil _))) (UT.cons RQ (UT.nil _)) U0 (UJ Tryz.func179) Tryz.func179 (UV Tryz.f179) (λj cj _ sp hsp=>by simp at hsp)
theorem Wc8(V:Nat->ByteArray)(n:Nat)(str:ByteArray)(s:HS)(VV:vD str n (U6 (UQ 5) V))(UI:s.nc<=10):wD VQ 106 [.ptr 0 0,.x (.string str)] (X7 s) 901 [[.ptr 0 0,.row 1,.row 2]] 211 (OS (isS s (U2 (V 0)) (U2 (V 1)) (U2 (V 2)) (U2 (V 3)))) (OX s) (rsE (fmE (U6 (UQ 5) V) n 4 (isE s (U2 (V 0)) (U2 (V 1)) (U2 (V 2)) (U2 (V 3))))):=by
 refine LG (PX:=[(145,RA),(146,zZ),(179,(lN s))]) (L:=[yO (U6 (UQ 5) V) n 4 179 s]) (Ae (L9 VV) (Ae wB Aa)) Ad (UT.cons RQ (UT.cons wI (UT.cons (oD s) (UT.nil _)))) U0 (UJ Tryz.func106) Tryz.func106 (UV Tryz.f106) (LD (lpE (b:= .loop MI) VX<|uO (U6 (UQ 5) V) n 4 179 s VV.2.2.2 (B1 VV))) (N:=[]) (t:=let z0:=(isS s (U2 (V 0)) (U2 (V 1)) (U2 (V 2)) (U2 (V 3)));let z1:=(U6 (UQ 5) V (0:Int).toNat);let z2:=(need [[Q5]=[Q5],H9 (hL s) QT,QA s,QB s] (leaf (false,(4:Int))));let z3:=(U2 (U6 (UQ 5) V 1));let z4:=(U2 (U6 (UQ 5) V 2));let z5:=(U2 (U6 (UQ 5) V 3));let z6:=(U2 (U6 (UQ 5) V 4));(need [M9 str str {data:=#[32] }] (need [UN 0 n] (branch (wdO z1) (need [VN (wdM (wdK z1)+1)] (branch (!(n:Int)==wdM (wdK z1)+1) z2 (need [(0:Int)<=1/\(1:Int)<=(n:Int)/\(n:Int)<=(n:Int)] (need [QO,U1 (lst 1 n λk=>[FR (U6 (UQ 5) V k)]),ZQ,WJ,(lst 1 (n-(1:Int).toNat) λi=>[AV.x (.string (U6 (UQ 5) V ((1:Int).toNat+i)))])=lst 1 (n-1) λj=>[FR (U6 (UQ 5) V (1+j))],(↑(n-(1:Int).toNat):Int)=(↑(n-1):Int),(0:Int)=(↑(0:Nat):Int),0=0,∀(i:Nat),i<0->[]=[iI (U2 (U6 (UQ 5) V (1+i)))],wdM (wdK z1)=4,U1 (AV.fn (Fn.func 179) [] []),XH s,JQ s,JR s,XW s,XO s,XP s,KK s,∀(i:Nat),i<s.xn->s.xg i=s.xg i,KL s,∀(i:Nat),i<s.yn->s.yg i=s.yg i,QO,JW,JX] (branch (nuB (U6 (UQ 5) V) n) (need [UN 0 (↑(n-1):Int)] (need [(0:Int).toNat<n-1] (need [UN 1 (↑(n-1):Int)] (need [(1:Int).toNat<n-1] (need [UN 2 (↑(n-1):Int)] (need [(2:Int).toNat<n-1] (need [UN 3 (↑(n-1):Int)] (need [(3:Int).toNat<n-1] (need [UG 4 s.nr λk=>[Bo.i (s.ra k),Bo.i (s.rb k),Bo.i (s.ru k),Bo.i (s.rv k)],UG 2 3 λk=>[i (tbP k),i (tbQ k)]] (branch (!asE (4:Int) (100:Int) (20:Int) (30:Int) s.nr (s.ra) (s.rb) (s.ru) (s.rv) 3 tbP tbQ s.pl s.ph (1:Int) (3:Int) z3 z4 z5 z6==0) (need [[Q5]=[Q5],H9 (hL s) QT,QA s,QB s] (leaf (false,(2:Int)))) (branch (!decide ((↑s.nc:Int)<10)) (need [[Q5]=[Q5],H9 (hL s) QT,QA s,QB s] (leaf (false,(3:Int)))) (branch (!kpB (4:Int) (100:Int) (20:Int) (30:Int) s.nr (s.ra) (s.rb) (s.ru) (s.rv) 3 tbP tbQ s.pl s.ph (1:Int) (3:Int) z3 z4 z5 z6) (need [[Q5]=[Q5],H9 (hL s) QT,QA s,QB s] (leaf (false,(10:Int)))) (need [XO s,s.nc<=100000] (need [[Q5]=[Q5],H9 [hR s.nr s,iI s.pl,iI s.ph,hY s.nb s,lst 5 (s.nc+1) λk=>[iI (HE s.nc (s.ca) z3 k),iI (HE s.nc (s.cb) z4 k),iI (HE s.nc (s.cc) z5 k),iI (HE s.nc (s.cd) z6 k),AV.x (.bool (apB s.nc (s.cv) false k))],hT s.ns s] (hL z0),((23:TypeId),1,s.xn,s.xg)=((23:TypeId),1,z0.xn,z0.xg),((9:TypeId),1,s.yn,s.yg)=((9:TypeId),1,z0.yn,z0.yg)] (leaf (true,(0:Int))))))))))))))))) (need [[Q5]=[Q5],H9 QT QT,QA s,QB s] (leaf (false,(4:Int))))))))) z2)))) VX ?_
 have hw:wdO (U6 (UQ 5) V (Int.toNat 0))=true:=VX;have hm:wdM (wdK (U6 (UQ 5) V (Int.toNat 0)))=4:=VX;have hn1:1<=n:=by have:=VV.2.1;omega
 have hnl:=B1 VV;simp only [VO.sat,UE,UK,hm,hw,true_imp_iff];refine ⟨⟨rfl,rfl⟩,⟨VL,VL⟩,⟨by simp only [VN];omega,λh4=>?_,λh4=>?_⟩,λh=>by cases h⟩
 ·exact V5
 ·have hN:n=4+1:=by
   simp at h4;omega
  refine ⟨⟨VL,VL,VL⟩,?_,λh5=>?_,λh5=>?_⟩
  rotate_left 2
  ·exact V7
  ·all_goals exact yC
  ·have hk1:n-1=4:=VL;have hx0:U2 (U6 (UQ 5) V 1)=U2 (V 0):=rfl;have hx1:U2 (U6 (UQ 5) V 2)=U2 (V 1):=rfl;have hx2:U2 (U6 (UQ 5) V 3)=U2 (V 2):=rfl;have hx3:U2 (U6 (UQ 5) V 4)=U2 (V 3):=rfl;rw [hk1];simp only [hx0,hx1,hx2,hx3];refine ⟨VL,by decide,VL,by decide,VL,by decide,VL,by decide,⟨Bo.isRec4 _ _ _ _ _,Pt.isRec2 _ _ _⟩,λh6=>⟨DH _ _ _ _ _ _,F4 hN h5 (Ja4 h6) (by decide)⟩,λh6=>⟨λh7=>⟨DH _ _ _ _ _ _,F4 hN h5 (Ja3 h6 h7) (by decide)⟩,λh7=>⟨λh8=>⟨DH _ _ _ _ _ _,F4 hN h5 (Zf6 h6 h7 h8) (by decide)⟩,λh8=>⟨VL,⟨⟨B2 s,zC _,zC _,B5 s,B4 (isS s (U2 (V 0)) (U2 (V 1)) (U2 (V 2)) (U2 (V 3))),PB s,trivial⟩,rfl,rfl⟩,uA hN h5 (Ja5 h6 h7 h8)⟩⟩⟩⟩
section
variable (s:HS)(x0 A I Z x4:Int)
def slS:HS:={s with ns:=s.ns+1,sa:=HE s.ns s.sa x0,sb:=HE s.ns s.sb A,sc:=HE s.ns s.sc I,sl:=HE s.ns s.sl Z,sh:=HE s.ns s.sh x4}
def slE:Int:=if saB x0 A I Z x4=true then (if s.ns<8 then (if orE (s.ns+1) (HE s.ns s.sa x0) (HE s.ns s.sb A) (HE s.ns s.sc I) (HE s.ns s.sl Z) (HE s.ns s.sh x4)=0 then 0 else 9) else 3) else 2
end
def y5:G0
 |[.agg [.x (.int .i64 c),.x (.int .i64 t),.lst 5 n f]]=>match f 0 with
  |[.x (.int .i64 x0),.x (.int .i64 A),.x (.int .i64 I),.x (.int .i64 Z),.x (.int .i64 x4)]=>some ([n=1,c=4,t=10],i (if saB x0 A I Z x4=true then 0 else 1))
  |_=>none
 |_=>none
def dR(n:Nat)(a b c U O:Nat->Int):G0:=λl=>some ([sV n a b c U O,l=[.agg [i 4,i 10,sls n a b c U O]]],.tup [.top,.top,i (orE n a b c U O)])
theorem mZ:VS VQ 83 y5:=by
 refine ⟨(UJ Tryz.func83),?_⟩;intro avs ns res h hn;unfold y5 at h;split at h
 ·rename_i c t n f;split at h
  ·rename_i x0 A I Z x4 hf;cases h;obtain rfl:n=1:=hn _ VW;obtain rfl:c=4:=hn (c=4) VW;obtain rfl:t=10:=hn (t=10) VW;have h1:=(N0 1 (λ_=>x0) (λ_=>A) (λ_=>I) (λ_=>Z) (λ_=>x4) VL).same (.cons (LW.same (.cons (.refl _) (.cons (.refl _) (.cons (.lst 5 1 f _ (λk hk=>by
    obtain rfl:k=0:=VL;exact hf)) .nil)))) .nil)
   have e:zT 1 (λ_=>x0) (λ_=>A) (λ_=>I) (λ_=>Z) (λ_=>x4)=saB x0 A I Z x4:=by
    unfold zT;cases hb:saB x0 A I Z x4 with
    |true=>exact H3.2 λj _=>hb
    |false=>exact Bool.eq_false_iff.2 λh=>Bool.noConfusion (hb.symm.trans (H3.1 h 0 VL))
   rw [e] at h1;exact h1
  ·cases h
 ·cases h
theorem mY(n:Nat)(a b c U O:Nat->Int):VS VQ 213 (dR n a b c U O):=by
 refine ⟨(UJ Tryz.func213),?_⟩;intro avs ns res h hn;cases h;have e:=hn _ (HP _ GI);subst e;exact Qj7 n a b c U O (hn _ GI)
section
variable {s:HS}{x0 A I Z x4:Int}
theorem Zt5(h:saB x0 A I Z x4=false):slE s x0 A I Z x4=2:=by
 unfold slE;rw [h];rfl
theorem Zt4(h:saB x0 A I Z x4=true)(h7:(!decide ((s.ns:Int)<8))=true):slE s x0 A I Z x4=3:=by
 unfold slE;simp at h7;rw [if_pos h,if_neg VL]
theorem Zt3(h:saB x0 A I Z x4=true)(h7:(!decide ((s.ns:Int)<8))=false)(h8:(!orE (s.ns+1) (HE s.ns s.sa x0) (HE s.ns s.sb A) (HE s.ns s.sc I) (HE s.ns s.sl Z) (HE s.ns s.sh x4)==0)=true):slE s x0 A I Z x4=9:=by
 unfold slE;simp at h7 h8;rw [if_pos h,if_pos VL,if_neg h8]
theorem Zt6(h:saB x0 A I Z x4=true)(h7:(!decide ((s.ns:Int)<8))=false)(h8:(!orE (s.ns+1) (HE s.ns s.sa x0) (HE s.ns s.sb A) (HE s.ns s.sc I) (HE s.ns s.sl Z) (HE s.ns s.sh x4)==0)=false):slE s x0 A I Z x4=0:=by
 unfold slE;simp at h7 h8;rw [if_pos h,if_pos VL,if_pos h8]
theorem slV(h:saB x0 A I Z x4=true)(h7:(!decide ((s.ns:Int)<8))=false)(hs:sV s.ns s.sa s.sb s.sc s.sl s.sh):sV (s.ns+1) (HE s.ns s.sa x0) (HE s.ns s.sb A) (HE s.ns s.sc I) (HE s.ns s.sl Z) (HE s.ns s.sh x4):=by
 simp at h7;refine ⟨VL,λk hk=>?_⟩
 unfold HE;by_cases hk':k<s.ns
 ·simp only [if_pos hk'];exact hs.2 k hk'
 ·simp only [if_neg hk'];exact h
end
theorem ifB{b:Bool}(h:(!(if b=true then (0:Int) else 1)==0)=false):b=true:=by cases b<;>simp_all
theorem ifB'{b:Bool}(h:(!(if b=true then (0:Int) else 1)==0)=true):b=false:=by cases b<;>simp_all
noncomputable def IS:D0:=rJ Tryz.prog [] {} [] Tryz.f39 (UA Tryz.f39)
theorem oK:GC VQ 39 IS:=
 RK (G:=[]) (X:=WH) (L:=[]) Aa Ad U0 (UJ Tryz.func39) Tryz.func39 (UV Tryz.f39) U7
section
variable (s:HS)(x0 A I Z x4:Int)
noncomputable abbrev Qg1:DS:=rI Tryz.prog [(83,y5),(212,(Qf6 s.ns s.sa s.sb s.sc s.sl s.sh)),(213,(dR (s.ns+1) (HE s.ns s.sa x0) (HE s.ns s.sb A) (HE s.ns s.sc I) (HE s.ns s.sl Z) (HE s.ns s.sh x4)))] {R:=[],H:=[(39,IS)] } [(145,RA)] [] Tryz.f181 (UA Tryz.f181)
theorem Qm2:D4 VQ 181 (Qg1 s x0 A I Z x4):=
 FP (G:=[(83,y5),(212,(Qf6 s.ns s.sa s.sb s.sc s.sl s.sh)),(213,(dR (s.ns+1) (HE s.ns s.sa x0) (HE s.ns s.sb A) (HE s.ns s.sc I) (HE s.ns s.sl Z) (HE s.ns s.sh x4)))]) (X:={R:=[],H:=[(39,IS)] }) (PX:=[(145,RA)]) (L:=[]) (Ae mZ (Ae (Xd8 s.ns s.sa s.sb s.sc s.sl s.sh) (Ae (mY (s.ns+1) (HE s.ns s.sa x0) (HE s.ns s.sb A) (HE s.ns s.sc I) (HE s.ns s.sl Z) (HE s.ns s.sh x4)) Aa))) (Ai Ab (Ag oK Ac)) (UT.cons RQ (UT.nil _)) U0 (UJ Tryz.func181) Tryz.func181 (UV Tryz.f181) (λj cj _ sp hsp=>by simp at hsp)
end
abbrev ZA(s:HS)(V:Nat->ByteArray):List AV:=[hR s.nr s,iI s.pl,iI s.ph,hY s.nb s,hC s.nc s,lst 5 (s.ns+1) λk=>[iI (HE s.ns (s.sa) (U2 (U6 (UQ 7) V 1)) k),iI (HE s.ns (s.sb) (U2 (U6 (UQ 7) V 2)) k),iI (HE s.ns (s.sc) (U2 (U6 (UQ 7) V 3)) k),iI (HE s.ns (s.sl) (U2 (U6 (UQ 7) V 4)) k),iI (HE s.ns (s.sh) (U2 (U6 (UQ 7) V 5)) k)]]
theorem Xc2(V:Nat->ByteArray)(n:Nat)(str:ByteArray)(s:HS)(VV:vD str n (U6 (UQ 7) V))(UI:sV s.ns s.sa s.sb s.sc s.sl s.sh):wD VQ 106 [.ptr 0 0,.x (.string str)] (X7 s) 901 [[.ptr 0 0,.row 1,.row 2]] 211 (OS (slS s (U2 (V 0)) (U2 (V 1)) (U2 (V 2)) (U2 (V 3)) (U2 (V 4)))) (OX s) (rsE (fmE (U6 (UQ 7) V) n 5 (slE s (U2 (V 0)) (U2 (V 1)) (U2 (V 2)) (U2 (V 3)) (U2 (V 4))))):=by
 refine LG (PX:=[(145,RA),(146,zZ),(181,(Qg1 s (U2 (V 0)) (U2 (V 1)) (U2 (V 2)) (U2 (V 3)) (U2 (V 4))))]) (L:=[yO (U6 (UQ 7) V) n 5 181 s]) (Ae (L9 VV) (Ae wB Aa)) Ad (UT.cons RQ (UT.cons wI (UT.cons (Qm2 s (U2 (V 0)) (U2 (V 1)) (U2 (V 2)) (U2 (V 3)) (U2 (V 4))) (UT.nil _)))) U0 (UJ Tryz.func106) Tryz.func106 (UV Tryz.f106) (LD (lpE (b:= .loop MI) VX<|uO (U6 (UQ 7) V) n 5 181 s VV.2.2.2 (B1 VV))) (N:=[]) (t:=let z0:=(slS s (U2 (V 0)) (U2 (V 1)) (U2 (V 2)) (U2 (V 3)) (U2 (V 4)));let z1:=(U6 (UQ 7) V (0:Int).toNat);let z2:=(need [[Q5]=[Q5],H9 (hL s) QT,QA s,QB s] (leaf (false,(4:Int))));(need [M9 str str {data:=#[32] }] (need [UN 0 n] (branch (wdO z1) (need [VN (wdM (wdK z1)+1)] (branch (!(n:Int)==wdM (wdK z1)+1) z2 (need [(0:Int)<=1/\(1:Int)<=(n:Int)/\(n:Int)<=(n:Int)] (need [QO,U1 (lst 1 n λk=>[FR (U6 (UQ 7) V k)]),ZQ,WJ,(lst 1 (n-(1:Int).toNat) λi=>[AV.x (.string (U6 (UQ 7) V ((1:Int).toNat+i)))])=lst 1 (n-1) λj=>[FR (U6 (UQ 7) V (1+j))],(↑(n-(1:Int).toNat):Int)=(↑(n-1):Int),(0:Int)=(↑(0:Nat):Int),0=0,∀(i:Nat),i<0->[]=[iI (U2 (U6 (UQ 7) V (1+i)))],wdM (wdK z1)=5,U1 (AV.fn (Fn.func 181) [] []),XH s,JQ s,JR s,XW s,XO s,XP s,KK s,∀(i:Nat),i<s.xn->s.xg i=s.xg i,KL s,∀(i:Nat),i<s.yn->s.yg i=s.yg i,QO,JW,JX] (branch (nuB (U6 (UQ 7) V) n) (need [UN 0 (↑(n-1):Int)] (need [(0:Int).toNat<n-1] (need [UN 1 (↑(n-1):Int)] (need [(1:Int).toNat<n-1] (need [UN 2 (↑(n-1):Int)] (need [(2:Int).toNat<n-1] (need [UN 3 (↑(n-1):Int)] (need [(3:Int).toNat<n-1] (need [UN 4 (↑(n-1):Int)] (need [(4:Int).toNat<n-1] (need [1=1,QZ,WA] (branch (!(if saB (U2 (U6 (UQ 7) V 1)) (U2 (U6 (UQ 7) V 2)) (U2 (U6 (UQ 7) V 3)) (U2 (U6 (UQ 7) V 4)) (U2 (U6 (UQ 7) V 5))=true then (0:Int) else (1:Int))==0) (need [[Q5]=[Q5],H9 (hL s) QT,QA s,QB s] (leaf (false,(2:Int)))) (branch (!decide ((↑s.ns:Int)<8)) (need [[Q5]=[Q5],H9 (hL s) QT,QA s,QB s] (leaf (false,(3:Int)))) (need [XP s,s.ns<=100000] (need [sV (s.ns+1) (HE s.ns (s.sa) (U2 (V 0))) (HE s.ns (s.sb) (U2 (V 1))) (HE s.ns (s.sc) (U2 (V 2))) (HE s.ns (s.sl) (U2 (V 3))) (HE s.ns (s.sh) (U2 (V 4))),[agg [iI 4,iI 10,lst 5 (s.ns+1) λk=>[iI (HE s.ns (s.sa) (U2 (U6 (UQ 7) V 1)) k),iI (HE s.ns (s.sb) (U2 (U6 (UQ 7) V 2)) k),iI (HE s.ns (s.sc) (U2 (U6 (UQ 7) V 3)) k),iI (HE s.ns (s.sl) (U2 (U6 (UQ 7) V 4)) k),iI (HE s.ns (s.sh) (U2 (U6 (UQ 7) V 5)) k)]]]=[agg [iI 4,iI 10,lst 5 (s.ns+1) λk=>[iI (HE s.ns (s.sa) (U2 (V 0)) k),iI (HE s.ns (s.sb) (U2 (V 1)) k),iI (HE s.ns (s.sc) (U2 (V 2)) k),iI (HE s.ns (s.sl) (U2 (V 3)) k),iI (HE s.ns (s.sh) (U2 (V 4)) k)]]]] (branch (!orE (s.ns+1) (HE s.ns (s.sa) (U2 (V 0))) (HE s.ns (s.sb) (U2 (V 1))) (HE s.ns (s.sc) (U2 (V 2))) (HE s.ns (s.sl) (U2 (V 3))) (HE s.ns (s.sh) (U2 (V 4)))==0) (need [[Q5]=[Q5],H9 (ZA s V) QT,QA s,QB s] (leaf (false,(9:Int)))) (need [[Q5]=[Q5],H9 (ZA s V) (hL z0),((23:TypeId),1,s.xn,s.xg)=((23:TypeId),1,z0.xn,z0.xg),((9:TypeId),1,s.yn,s.yg)=((9:TypeId),1,z0.yn,z0.yg)] (leaf (true,(0:Int)))))))))))))))))))) (need [[Q5]=[Q5],H9 QT QT,QA s,QB s] (leaf (false,(4:Int))))))))) z2)))) VX ?_
 have hw:wdO (U6 (UQ 7) V (Int.toNat 0))=true:=VX;have hm:wdM (wdK (U6 (UQ 7) V (Int.toNat 0)))=5:=VX;have hn1:1<=n:=by have:=VV.2.1;omega
 have hnl:=B1 VV;simp only [VO.sat,UE,UK,hm,hw,true_imp_iff];refine ⟨⟨rfl,rfl⟩,⟨VL,VL⟩,⟨by simp only [VN];omega,λh4=>?_,λh4=>?_⟩,λh=>by cases h⟩
 ·exact V5
 ·have hN:n=5+1:=by
   simp at h4;omega
  refine ⟨⟨VL,VL,VL⟩,?_,λh5=>?_,λh5=>?_⟩
  rotate_left 2
  ·exact V7
  ·all_goals exact yC
  ·have hk1:n-1=5:=VL;have hx0:U2 (U6 (UQ 7) V 1)=U2 (V 0):=rfl;have hx1:U2 (U6 (UQ 7) V 2)=U2 (V 1):=rfl;have hx2:U2 (U6 (UQ 7) V 3)=U2 (V 2):=rfl;have hx3:U2 (U6 (UQ 7) V 4)=U2 (V 3):=rfl;have hx4:U2 (U6 (UQ 7) V 5)=U2 (V 4):=rfl;rw [hk1];simp only [hx0,hx1,hx2,hx3,hx4];have hns:=UI.1;refine ⟨VL,by decide,VL,by decide,VL,by decide,VL,by decide,VL,by decide,λh6=>⟨DH _ _ _ _ _ _,F4 hN h5 (Zt5 (ifB' h6)) (by decide)⟩,λh6=>⟨λh7=>⟨DH _ _ _ _ _ _,F4 hN h5 (Zt4 (ifB h6) h7) (by decide)⟩,λh7=>⟨VL,⟨slV (ifB h6) h7 UI,trivial⟩,λh8=>⟨DH _ _ _ _ _ _,F4 hN h5 (Zt3 (ifB h6) h7 h8) (by decide)⟩,λh8=>⟨⟨⟨B2 s,zC _,zC _,B5 s,B4 s,PB (slS s (U2 (V 0)) (U2 (V 1)) (U2 (V 2)) (U2 (V 3)) (U2 (V 4))),trivial⟩,rfl,rfl⟩,uA hN h5 (Zt6 (ifB h6) h7 h8)⟩⟩⟩⟩
theorem Wj0(r v:Int)(m:Nat)(g:Nat->Int)(VV:1<=m):VZ VQ 208 [.agg [i r,i v],.ro [.lst 1 m (λk=>[i (g k)])]] (bl (!(r==g 0))):=by
 refine GT Tryz.func208 (t:=need [UN 0 m] (leaf (RV.x (.bool (r != g (0:Int).toNat))))) VX ?_;simp only [VO.sat,UE,G5,UH,UK,Int.toNat_zero];refine ⟨VL,?_⟩;show (r != g 0)=_;rfl
def Qd9(m:Nat)(g:Nat->Int):G0
 |[.agg [.x (.int .i64 r),.x (.int .i64 v)],b]=>some ([1<=m,[b]=[.ro [.lst 1 m (λk=>[i (g k)])]]],bl (!(r==g 0)))
 |_=>none
theorem Wi9(m:Nat)(g:Nat->Int):VS VQ 208 (Qd9 m g):=by
 refine ⟨(UJ Tryz.func208),?_⟩;intro avs ns res h hn;unfold Qd9 at h;split at h
 ·cases h;have e:=hn _ (HP _ GI);injection e with e _
  subst e;exact Wj0 _ _ m g (hn _ GI)
 ·cases h
theorem Qn3(r v:Int)(m:Nat)(g:Nat->Int)(VV:1<=m):VZ VQ 236 [.agg [i r,i v],.ro [.fn (.func 208) [] [.ro [.lst 1 m (λk=>[i (g k)])]]]] (bl (r==g 0)):=by
 refine U4 (L:=[]) (Ae (Wi9 m g) Aa) U0 Tryz.func236 (UV Tryz.f236) U7 (t:=need [1<=m,U1 ([AV.ro [lst 1 m λk=>[iI (g k)]]])] (leaf (RV.x (.bool !!r==g 0)))) VX ?_
 simp only [VO.sat,UE,G5,UH,UK];refine ⟨VV,?_⟩;show (!!(r==g 0))=_;simp
def lE(m:Nat)(g:Nat->Int):G0
 |[.agg [.x (.int .i64 r),.x (.int .i64 v)],b]=>some ([1<=m,[b]=[.ro [.fn (.func 208) [] [.ro [.lst 1 m (λk=>[i (g k)])]]]]],bl (r==g 0))
 |_=>none
theorem NP(m:Nat)(g:Nat->Int):VS VQ 236 (lE m g):=by
 refine ⟨(UJ Tryz.func236),?_⟩;intro avs ns res h hn;unfold lE at h;split at h
 ·cases h;have e:=hn _ (HP _ GI);injection e with e _
  subst e;exact Qn3 _ _ m g (hn _ GI)
 ·cases h
def seJ(r:Nat->Int)(x:Int)(j:Nat):Bool:=r j==x
def seN(n:Nat)(r:Nat->Int)(x:Int):Bool:=FN (λj=> !(r j==x)) n
abbrev W7(m:Nat)(g:Nat->Int):AV:=AV.fn (Fn.func 236) [] [AV.ro [AV.fn (Fn.func 208) [] [AV.ro [lst 1 m λk=>[iI (g k)]]]]]
section
variable (n:Nat)
abbrev ZL(r:Nat->Int)(v:Nat->Int):AV:=lst 2 n λk=>[iI (r k),iI (v k)]
def gM(r v:Nat->Int)(m:Nat)(g:Nat->Int):St:={σ:=[ZL n r v,W7 m g]++HK 5 [iI (n:Int)]++HK 11 [],m:=[],nx:=4}
noncomputable def Qh2:Code:=UC (VU (UA Tryz.f252) 0)
def NF(r v:Nat->Int)(m:Nat)(g:Nat->Int)(k:Nat):St:=(upM [(8,i k)] (gM n r v m g))
def BV(r v:Nat->Int)(m:Nat)(g:Nat->Int)(k:Nat):GB->Option St
 | .ret=>some (upM [(4,i (GW ((seJ r (g 0))) n))] (gM n r v m g))
 | .exit 0=>some (upM [] (gM n r v m g))
 |_=>none
def Qc4(r v:Nat->Int)(m:Nat)(g:Nat->Int):CT:= .branch (decide (GW ((seJ r (g 0))) n<n)) (.leaf (.ret,(BV n r v m g 0 .ret).getD (gM n r v m g))) (.leaf (.exit 0,(BV n r v m g 0 (.exit 0)).getD (gM n r v m g)))
def lO(r v:Nat->Int)(m:Nat)(g:Nat->Int):UL:=(HM (NF n r v m g (0)) (Qc4 n r v m g))
end
abbrev K4(m:Nat)(g:Nat->Int):List AV:=[AV.ro [AV.fn (Fn.func 208) [] [AV.ro [lst 1 m λk=>[iI (g k)]]]]]
section
variable (n:Nat)(r v:Nat->Int)(m:Nat)(g:Nat->Int)
theorem Qr4(VV:n<=100000)(UI:1<=m):GD VQ (.loop Qh2) (lO n r v m g):=by
 refine HT (L:=[]) (Ae (NP m g) Aa) U0 U7 (X:=Nat) (NF n r v m g) (λk=>k<=n/\ ∀j,j<k->(seJ r (g 0)) j=false) (λk=>n-k) (BV n r v m g) (x0:=0) ⟨VL,λj hj=>VL⟩ ?_ ?_ ?_
 ·rintro k;kernel_rfl
 ·rintro k y E h;unfold BV at h;split at h
  ·cases h;kernel_rfl
  ·cases h;kernel_rfl
  ·cases h
 ·rintro Q hQ k hx;refine ⟨(k+1),?_⟩;(with_reducible refine DU (t:=branch (decide ((k:Int)<(n:Int))) (need [UN k n] (need [1<=m,U1 (K4 m g)] (branch (r k==g 0) (need [U1 (ZL n r v),U1 (W7 m g),(k:Int)=(↑(GW (seJ r (g 0)) n):Int),U1 (n:Int)] (leaf GB.ret)) (need [VN ((k:Int)+1)] (need [U1 (ZL n r v),U1 (W7 m g),U1 (n:Int),(k:Int)+1=(↑(k+1):Int)] (leaf GB.normal)))))) (need [U1 (ZL n r v),U1 (W7 m g),U1 (n:Int)] (leaf (GB.exit 0)))) VX ?_);simp only [Qc4,BV,VO.sat,GX,HG] at hQ;simp only [VO.sat,UE,UK,HG,VN,BV,FF];have Xe6:k<n->((seJ r (g 0))) k=true->GW ((seJ r (g 0))) n=k:=λh hb=>zI h hb hx.2
  have PS: ¬k<n->GW ((seJ r (g 0))) n=n:=λh=>BX (λj hj=>hx.2 j VL)
  have hgo:((seJ r (g 0))) k=false-> ∀j,j<k+1->((seJ r (g 0))) j=false:=by
   intro hb j hj;rcases (show j<k\/j=k by omega) with h1|rfl
   ·exact hx.2 j h1
   ·exact hb
  refine ⟨λh=>⟨VL,UI,?_⟩,λh=>?_⟩
  rotate_left
  ·intro E hE;cases hE;exact hQ.2 (by rw [PS VL];omega)
  have hk:k<n:=VL;refine ⟨λhb=>?_,λhb=>?_⟩
  ·exact VE
  ·exact ⟨VL,VL,⟨VL,hgo hb⟩,VL⟩
theorem Xd5(VV:n<=100000)(UI:1<=m):VZ VQ 252 [rdl n r v,.fn (.func 236) [] [.ro [.fn (.func 208) [] [.ro [.lst 1 m (λk=>[i (g k)])]]]]] (i (if GW ((seJ r (g 0))) n<n then (GW ((seJ r (g 0))) n:Int) else -1)):=by
 refine U4 (L:=[lO n r v m g]) (Ae (NP m g) Aa) U0 Tryz.func252 (UV Tryz.f252) (GA (lpE (b:= .loop Qh2) VX<|Qr4 n r v m g VV UI)) (t:=need [U1 (ZL n r v),U1 (W7 m g),U1 (n:Int),(0:Int)=(↑(0:Nat):Int)] (branch (decide (GW (seJ r (g 0)) n<n)) (leaf (RV.x (.int .i64 (↑(GW (seJ r (g 0)) n):Int)))) (leaf (RV.x (JO))))) VX ?_
 exact VB
def Zk7:G0:=λl=>some ([l=[rdl n r v,.fn (.func 236) [] [.ro [.fn (.func 208) [] [.ro [.lst 1 m (λk=>[i (g k)])]]]]]],i (if GW (seJ r (g 0)) n<n then (GW (seJ r (g 0)) n:Int) else -1))
theorem Wi2(VV:n<=100000)(UI:1<=m):VS VQ 252 (Zk7 n r v m g):=by
 refine ⟨(UJ Tryz.func252),?_⟩;intro avs ns res h hn;cases h;have e:=hn _ GI;subst e;exact Xd5 n r v m g VV UI
theorem Xf2(VV:n<=100000)(UI:1<=m):VZ VQ 235 [rdl n r v,.fn (.func 236) [] [.ro [.fn (.func 208) [] [.ro [.lst 1 m (λk=>[i (g k)])]]]]] (bl (!seN n r (g 0))):=by
 refine U4 (L:=[]) (Ae (Wi2 n r v m g VV UI) Aa) U0 Tryz.func235 (UV Tryz.f235) U7 (t:=need [U1 ([ZL n r v,W7 m g])] (leaf (RV.x (.bool (decide ((if GW (seJ r (g 0)) n<n then (↑(GW (seJ r (g 0)) n):Int) else (-1:Int))>=(0:Int))))))) VX ?_
 simp only [VO.sat,UE,G5,UH,UK];unfold seN;rw [kB];have e:(λk=> !(λj=> !(r j==g 0)) k)=seJ r (g 0):=by
  funext k;simp [seJ]
 rw [e];have:=DZ (seJ r (g 0)) n;show decide ((if GW (seJ r (g 0)) n<n then (GW (seJ r (g 0)) n:Int) else -1)>=0)=_
 split<;>simp<;>omega
def Zk9:G0:=λl=>some ([l=[rdl n r v,.fn (.func 236) [] [.ro [.fn (.func 208) [] [.ro [.lst 1 m (λk=>[i (g k)])]]]]]],bl (!seN n r (g 0)))
theorem Wl0(VV:n<=100000)(UI:1<=m):VS VQ 235 (Zk9 n r v m g):=by
 refine ⟨(UJ Tryz.func235),?_⟩;intro avs ns res h hn;cases h;have e:=hn _ GI;subst e;exact Xf2 n r v m g VV UI
theorem Wl3(VV:n<=100000)(UI:1<=m):VZ VQ 207 [rdl n r v,.fn (.func 208) [] [.ro [.lst 1 m (λk=>[i (g k)])]]] (bl (seN n r (g 0))):=by
 refine U4 (L:=[]) (Ae (Wl0 n r v m g VV UI) Aa) U0 Tryz.func207 (UV Tryz.f207) U7 (t:=need [U1 ([ZL n r v,W7 m g])] (leaf (RV.x (.bool !!seN n r (g 0))))) VX ?_;simp only [VO.sat,UE,G5,UH,UK];show (!!seN n r (g 0))=_;simp
end
section
variable (s:HS)
def laB:Nat:=((s.nb:Int)-1).toNat
def seM(k:Nat):Nat:=if k=laB s then s.qm k+1 else s.qm k
def seR(x0:Int)(k j:Nat):Int:=if k=laB s then HE (s.qm k) (s.qr k) x0 j else s.qr k j
def seV(A:Int)(k j:Nat):Int:=if k=laB s then HE (s.qm k) (s.qv k) A j else s.qv k j
def seS(x0 A:Int):HS:={s with qm:=seM s,qr:=seR s x0,qv:=seV s A}
def seE(x0 A:Int):Int:=if 1<=s.nb then (if bt 0 x0 2=true then (if seN (s.qm (laB s)) (s.qr (laB s)) x0=true then (if bt (-1000) A 2000=true then (if boE s.nb s.ql s.qh (seM s) (seR s x0) (seV s A)=0 then 0 else 9) else 2) else 6) else 7) else 8
end
section
variable (N:Nat)(U O:Nat->Int)(m:Nat->Nat)(r v:Nat->Nat->Int)
def wC:G0
 |[.agg l']=>some ([bV N U O m r v,H9 l' [ofs,i 1,bds N U O m r v]],.tup [.top,i (boE N U O m r v)])
 |_=>none
theorem tU:Idf (bds N U O m r v):= .lst _ _ _ λk _ x hx=>by
 simp only [GM,DL,or_false] at hx;rcases hx with rfl|rfl|rfl
 ·exact .x _
 ·exact .x _
 ·exact VA
end
theorem Wc7{e:UM}{w:World}{l l':List AV}{u:Value}(h:H9 l l')(r:Rep e w (.agg l) u):Rep e w (.agg l') u:=by
 cases r with
 |agg _ vs h1 h2=>exact Rep.aggL (d9 h ⟨h1,h2⟩)
theorem TX(N:Nat)(U O:Nat->Int)(m:Nat->Nat)(r v:Nat->Nat->Int):VS VQ 19 (wC N U O m r v):=by
 refine ⟨(UJ Tryz.func19),?_⟩;intro avs ns res h hn;unfold wC at h;split at h
 ·rename_i l';cases h;have h1:bV N U O m r v:=hn _ GI;have h2:H9 l' [ofs,i 1,bds N U O m r v]:=hn _ (HP _ GI);intro e w args q1 q2 q3 q4;have q5:U3 e w [.agg [ofs,i 1,bds N U O m r v]] args:=by
   obtain ⟨u,us,rfl,g1,g2⟩:=q4.cons_inv;exact .cons (Wc7 h2 g1) g2
  refine (kA N U O m r v h1 e w args q1 q2 (λa ha=>?_) q5).mono ?_
  ·rcases B7.1 ha with rfl
   refine .agg _ λx hx=>?_
   simp only [GM,DL,or_false] at hx;rcases hx with rfl|rfl|rfl
   ·exact VA
   ·exact .x _
   ·exact tU _ _ _ _ _ _
  ·rintro en w' ⟨u,rfl,g1,g2⟩;have k:FB (tup [.lst 2 (boN N U O m r v) (λk=>[i (boL N U O m r v k),i (boH N U O m r v k)]),i (boE N U O m r v)]) (.tup [.top,i (boE N U O m r v)]):=⟨trivial,(P9 _).2,trivial⟩
   exact ⟨u,rfl,g1,FW k g2⟩
 ·cases h
section
variable {s:HS}
theorem Zu9{x0 A:Int}(h:bV s.nb s.ql s.qh s.qm s.qr s.qv)(h1:1<=s.nb)(h2:bt 0 x0 2=true)(h3:seN (s.qm (laB s)) (s.qr (laB s)) x0=true)(h4:bt (-1000) A 2000=true):bV s.nb s.ql s.qh (seM s) (seR s x0) (seV s A):=by
 rw [bt_iff] at h2 h4;have h3: ∀j,j<s.qm (laB s)->s.qr (laB s) j≠x0:=λj hj=>by simpa using H3.1 h3 j hj
 have hla:laB s<s.nb:=by unfold laB;omega
 obtain ⟨⟨g0,g1⟩,g2⟩:=h;have hq:s.qm (laB s)<=3:=by
  rcases An 3 (s.qm (laB s)) with hq|hq
  ·obtain ⟨_,_,_,_,g3⟩:=g1 _ hla;have a0:=g3 0 VL;have a1:=g3 1 VL;have a2:=g3 2 VL;have a3:=g3 3 VL;have b01:=g2 _ hla 0 1 VL VL;have b02:=g2 _ hla 0 2 VL VL;have b03:=g2 _ hla 0 3 VL VL;have b12:=g2 _ hla 1 2 VL VL;have b13:=g2 _ hla 1 3 VL VL;have b23:=g2 _ hla 2 3 VL VL;omega
  ·exact hq
 refine ⟨⟨g0,λb hb=>?_⟩,λb hb j k hjk hk=>?_⟩
 ·obtain ⟨k1,k2,k3,k4,k5⟩:=g1 b hb;unfold seM seR seV HE;by_cases e:b=laB s
  ·subst e;simp only [if_true];refine ⟨VL,k2,k3,k4,λj hj=>?_⟩
   by_cases e:j<s.qm (laB s)
   ·simp only [if_pos e];exact k5 j e
   ·simp only [if_neg e];omega
  ·simp only [if_neg e];exact ⟨k1,k2,k3,k4,k5⟩
 ·unfold seM at hk;unfold seR HE;by_cases e:b=laB s
  ·subst e;simp only [if_true] at hk ⊢;by_cases e:k<s.qm (laB s)
   ·simp only [if_pos e,if_pos (show j<s.qm (laB s) by omega)]
    exact g2 _ hb j k hjk e
   ·simp only [if_neg e,if_pos (show j<s.qm (laB s) by omega)]
    exact h3 j VL
  ·simp only [if_neg e] at hk ⊢;exact g2 _ hb j k hjk hk
theorem Zu1{k:Nat}(h:k=laB s):seM s k=s.qm (laB s)+1:=by rw [h];exact if_pos rfl
theorem Zu2{k:Nat}(h: ¬k=laB s):seM s k=s.qm k:=if_neg h
theorem Zt9{x:Int}{k j:Nat}(h:k=laB s):seR s x k j=HE (s.qm (laB s)) (s.qr (laB s)) x j:=by rw [h];exact if_pos rfl
theorem Zu0{x:Int}{k j:Nat}(h: ¬k=laB s):seR s x k j=s.qr k j:=if_neg h
theorem Zt7{x:Int}{k j:Nat}(h:k=laB s):seV s x k j=HE (s.qm (laB s)) (s.qv (laB s)) x j:=by rw [h];exact if_pos rfl
theorem Zt8{x:Int}{k j:Nat}(h: ¬k=laB s):seV s x k j=s.qv k j:=if_neg h
theorem Zu4{x0 A:Int}(h:(!decide ((s.nb:Int)-1>=0))=true):seE s x0 A=8:=by
 simp at h;exact if_neg VL
theorem Zu5{x0 A:Int}(h1:1<=s.nb)(h2:bt 0 x0 2=false):seE s x0 A=7:=by
 unfold seE;rw [if_pos h1,h2];rfl
theorem Zu6{x0 A:Int}(h1:1<=s.nb)(h2:bt 0 x0 2=true)(h3:seN (s.qm (laB s)) (s.qr (laB s)) x0=false):seE s x0 A=6:=by
 unfold seE;rw [if_pos h1,if_pos h2,h3];rfl
theorem Zu7{x0 A:Int}(h1:1<=s.nb)(h2:bt 0 x0 2=true)(h3:seN (s.qm (laB s)) (s.qr (laB s)) x0=true)(h4:bt (-1000) A 2000=false):seE s x0 A=2:=by
 unfold seE;rw [if_pos h1,if_pos h2,if_pos h3,h4];rfl
theorem Zu3{x0 A:Int}(h1:1<=s.nb)(h2:bt 0 x0 2=true)(h3:seN (s.qm (laB s)) (s.qr (laB s)) x0=true)(h4:bt (-1000) A 2000=true)(h5:(!boE s.nb s.ql s.qh (seM s) (seR s x0) (seV s A)==0)=true):seE s x0 A=9:=by
 unfold seE;simp at h5;rw [if_pos h1,if_pos h2,if_pos h3,if_pos h4,if_neg h5]
theorem Zu8{x0 A:Int}(h1:1<=s.nb)(h2:bt 0 x0 2=true)(h3:seN (s.qm (laB s)) (s.qr (laB s)) x0=true)(h4:bt (-1000) A 2000=true)(h5:(!boE s.nb s.ql s.qh (seM s) (seR s x0) (seV s A)==0)=false):seE s x0 A=0:=by
 unfold seE;simp at h5;rw [if_pos h1,if_pos h2,if_pos h3,if_pos h4,if_pos h5]
end
theorem Zf9(s:HS)(k:Nat): ∀x∈[i (s.ql k),i (s.qh k),bts (s.qm k) (s.qr k) (s.qv k)],Idf x:=λx hx=>by
 simp only [GM,DL,or_false] at hx;rcases hx with rfl|rfl|rfl
 ·exact .x _
 ·exact .x _
 ·exact VA
noncomputable def dV:D0:=rJ Tryz.prog [] {} [] Tryz.f46 (UA Tryz.f46)
theorem eF:GC VQ 46 dV:=
 RK (G:=[]) (X:=WH) (L:=[]) Aa Ad U0 (UJ Tryz.func46) Tryz.func46 (UV Tryz.f46) U7
section
variable (n:Nat)(r v:Nat->Int)(m:Nat)(g:Nat->Int)
def IM:G0:=λl=>some ([n<=100000,1<=m,l=[rdl n r v,.fn (.func 208) [] [.ro [.lst 1 m (λk=>[i (g k)])]]]],bl (seN n r (g 0)))
theorem Qn2:VS VQ 207 (IM n r v m g):=by
 refine ⟨(UJ Tryz.func207),?_⟩;intro avs ns res h hn;cases h;have e:=hn _ (HP _ (HP _ GI));subst e;exact Wl3 n r v m g (hn _ GI) (hn _ (HP _ GI))
end
section
variable (s:HS)(x0 A:Int)(m:Nat)(g:Nat->Int)
noncomputable abbrev Wu6:DS:=rI Tryz.prog [(36,RM),(207,(IM (s.qm (laB s)) (s.qr (laB s)) (s.qv (laB s)) m g)),(210,(Qf5 (s.qm (laB s)) (s.qr (laB s)) (s.qv (laB s)))),(19,(wC s.nb s.ql s.qh (seM s) (seR s x0) (seV s A)))] {R:=[],H:=[(209,dX),(46,dV)],C:=[(46,(cR xP))] } [(145,RA)] [] Tryz.f178 (UA Tryz.f178)
theorem Wi8:D4 VQ 178 (Wu6 s x0 A m g):=
 FP (G:=[(36,RM),(207,(IM (s.qm (laB s)) (s.qr (laB s)) (s.qv (laB s)) m g)),(210,(Qf5 (s.qm (laB s)) (s.qr (laB s)) (s.qv (laB s)))),(19,(wC s.nb s.ql s.qh (seM s) (seR s x0) (seV s A)))]) (X:={R:=[],H:=[(209,dX),(46,dV)],C:=[(46,(cR xP))] }) (PX:=[(145,RA)]) (L:=[]) (Ae PR (Ae (Qn2 (s.qm (laB s)) (s.qr (laB s)) (s.qv (laB s)) m g) (Ae (Xd7 (s.qm (laB s)) (s.qr (laB s)) (s.qv (laB s))) (Ae (TX s.nb s.ql s.qh (seM s) (seR s x0) (seV s A)) Aa)))) (Aj Ab (Ag eV (Ag eF Ac)) (Ah (Qb7 RD) (UB.nil _))) (UT.cons RQ (UT.nil _)) U0 (UJ Tryz.func178) Tryz.func178 (UV Tryz.f178) (λj cj _ sp hsp=>by simp at hsp)
end
theorem V2{p:Prop}(h:p:=by
 refine ⟨rfl,Ap _,λk hk=>⟨?_,Zf9 (seS s (U2 (V 0)) (U2 (V 1))) k⟩⟩
 dsimp only
 by_cases h:k=laB s
 ·rw [show decide (k=((s.nb:Int)-1).toNat)=true from decide_eq_true h];refine ⟨(P9 _).2,(P9 _).2,⟨rfl,(Zu1 h).symm,λj hj=>?_⟩,trivial⟩
  show _=[i (seR s (U2 (V 0)) k j),i (seV s (U2 (V 1)) k j)];rw [Zt9 h,Zt7 h];rfl
 ·rw [show decide (k=((s.nb:Int)-1).toNat)=false from decide_eq_false h];refine ⟨(P9 _).2,(P9 _).2,⟨rfl,(Zu2 h).symm,λj hj=>?_⟩,trivial⟩
  show _=[i (seR s (U2 (V 0)) k j),i (seV s (U2 (V 1)) k j)];rw [Zu0 h,Zt8 h];rfl):p:=h
theorem Zf1(V:Nat->ByteArray)(n:Nat)(str:ByteArray)(s:HS)(VV:vD str n (U6 (UQ 4) V))(UI:bV s.nb s.ql s.qh s.qm s.qr s.qv):wD VQ 106 [.ptr 0 0,.x (.string str)] (X7 s) 901 [[.ptr 0 0,.row 1,.row 2]] 211 (OS (seS s (U2 (V 0)) (U2 (V 1)))) (OX s) (rsE (fmE (U6 (UQ 4) V) n 2 (seE s (U2 (V 0)) (U2 (V 1))))):=by
 refine LG (PX:=[(145,RA),(146,zZ),(178,(Wu6 s (U2 (V 0)) (U2 (V 1)) (n-1) (λk=>U2 (U6 (UQ 4) V (k+1)))))]) (L:=[yO (U6 (UQ 4) V) n 2 178 s]) (Ae (L9 VV) (Ae wB Aa)) Ad (UT.cons RQ (UT.cons wI (UT.cons (Wi8 s (U2 (V 0)) (U2 (V 1)) (n-1) (λk=>U2 (U6 (UQ 4) V (k+1)))) (UT.nil _)))) U0 (UJ Tryz.func106) Tryz.func106 (UV Tryz.f106) (LD (lpE (b:= .loop MI) VX<|uO (U6 (UQ 4) V) n 2 178 s VV.2.2.2 (B1 VV))) (N:=[(.cell 0 3,0,0,0)]) (t:=let z5:=(U2 (U6 (UQ 4) V (1+(0:Int).toNat)));let z6:=(U2 (U6 (UQ 4) V (1+(1:Int).toNat)));let z0:=([hR s.nr s,iI s.pl,iI s.ph,lst 3 (0+s.nb) λk=>iI (if decide (k=((↑s.nb:Int)-1).toNat)=true then s.ql (k-0) else s.ql (k-0))::iI (if decide (k=((↑s.nb:Int)-1).toNat)=true then s.qh (k-0) else s.qh (k-0))::Bool.rec (bts (s.qm (k-0)) (s.qr (k-0)) (s.qv (k-0))) (lst 2 (s.qm (laB s)+1) λk=>[i (HE (s.qm (laB s)) (s.qr (laB s)) z5 k),i (HE (s.qm (laB s)) (s.qv (laB s)) z6 k)]) (decide (k=((↑s.nb:Int)-1).toNat))::Bool.rec ([]) ([]) (decide (k=((↑s.nb:Int)-1).toNat)),hC s.nc s,hT s.ns s]);let z1:=(seS s (U2 (V 0)) (U2 (V 1)));let z2:=(U6 (UQ 4) V (0:Int).toNat);let z3:=((↑s.nb:Int)-1).toNat;let z4:=(need [[Q5]=[Q5],H9 (hL s) QT,QA s,QB s] (leaf (false,(4:Int))));(need [M9 str str {data:=#[32] }] (need [UN 0 n] (branch (wdO z2) (need [VN (wdM (wdK z2)+1)] (branch (!(n:Int)==wdM (wdK z2)+1) z4 (need [(0:Int)<=1/\(1:Int)<=(n:Int)/\(n:Int)<=(n:Int)] (need [QO,U1 (lst 1 n λk=>[FR (U6 (UQ 4) V k)]),ZQ,WJ,(lst 1 (n-(1:Int).toNat) λi=>[AV.x (.string (U6 (UQ 4) V ((1:Int).toNat+i)))])=lst 1 (n-1) λj=>[FR (U6 (UQ 4) V (1+j))],(↑(n-(1:Int).toNat):Int)=(↑(n-1):Int),(0:Int)=(↑(0:Nat):Int),0=0,∀(i:Nat),i<0->[]=[iI (U2 (U6 (UQ 4) V (1+i)))],wdM (wdK z2)=2,U1 (AV.fn (Fn.func 178) [] []),XH s,JQ s,JR s,XW s,XO s,XP s,KK s,∀(i:Nat),i<s.xn->s.xg i=s.xg i,KL s,∀(i:Nat),i<s.yn->s.yg i=s.yg i,QO,JW,JX] (branch (nuB (U6 (UQ 4) V) n) (need [VN ((↑s.nb:Int)-1)] (branch (!decide ((↑s.nb:Int)-1>=(0:Int))) (need [[Q5]=[Q5],H9 (hL s) QT,QA s,QB s] (leaf (false,(8:Int)))) (need [UN 0 (↑(n-1):Int)] (need [(0:Int).toNat<n-1] (need [VN ((↑(3:Nat):Int)-1)] (branch (!bt (0:Int) (U2 (U6 (UQ 4) V 1)) ((↑(3:Nat):Int)-1)) (need [[Q5]=[Q5],H9 (hL s) QT,QA s,QB s] (leaf (false,(7:Int)))) (need [UN ((↑s.nb:Int)-1) s.nb] (need [s.qm (laB s)<=100000,1<=n-1,[lst 2 (s.qm z3) λj=>[iI (s.qr z3 j),iI (s.qv z3 j)],AV.fn (Fn.func 208) [] [AV.ro [lst 1 (n-1) λj=>[iI (U2 (U6 (UQ 4) V (1+j)))]]]]=[lst 2 (s.qm (laB s)) λk=>[iI (s.qr (laB s) k),iI (s.qv (laB s) k)],AV.fn (Fn.func 208) [] [AV.ro [lst 1 (n-1) λk=>[iI (U2 (U6 (UQ 4) V (k+1)))]]]]] (branch (!seN (s.qm (laB s)) (s.qr (laB s)) (U2 (U6 (UQ 4) V 1))) (need [[Q5]=[Q5],H9 (hL s) QT,QA s,QB s] (leaf (false,(6:Int)))) (need [UN 1 (↑(n-1):Int)] (need [(1:Int).toNat<n-1] (branch (!bt (-1000:Int) (U2 (U6 (UQ 4) V 2)) (2000:Int)) (need [[Q5]=[Q5],H9 (hL s) QT,QA s,QB s] (leaf (false,(2:Int)))) (VO.may (s.nb=0) VO.fail (need [(0+s.nb)*40<=140737488355328,∀(i:Nat),i<s.nb-> ∀(a:AV),a∈[iI (s.ql i),iI (s.qh i),bts (s.qm i) (s.qr i) (s.qv i)]->AV.one a=true] (need [UN ((↑s.nb:Int)-1) (↑(0+s.nb):Int)] (need [((↑s.nb:Int)-1).toNat<0+s.nb] (need [UN 0 (↑(n-1):Int)] (need [(0:Int).toNat<n-1] (need [UN 1 (↑(n-1):Int)] (need [(1:Int).toNat<n-1] (need [(lst 2 (s.qm (((↑s.nb:Int)-1).toNat-0)) λj=>[iI (s.qr (((↑s.nb:Int)-1).toNat-0) j),iI (s.qv (((↑s.nb:Int)-1).toNat-0) j)])=lst 2 (s.qm (laB s)) λk=>[iI (s.qr (laB s) k),iI (s.qv (laB s) k)],s.qm (laB s)<=100000] (need [UN ((↑s.nb:Int)-1) (↑(0+s.nb):Int)] (need [((↑s.nb:Int)-1).toNat<0+s.nb] (need [bV s.nb (s.ql) (s.qh) (seM s) (seR s (U2 (V 0))) (seV s (U2 (V 1))),H9 [KW,iI 1,lst 3 (0+s.nb) λk=>iI (if decide (k=((↑s.nb:Int)-1).toNat)=true then s.ql (k-0) else s.ql (k-0))::iI (if decide (k=((↑s.nb:Int)-1).toNat)=true then s.qh (k-0) else s.qh (k-0))::Bool.rec (bts (s.qm (k-0)) (s.qr (k-0)) (s.qv (k-0))) (lst 2 (s.qm (laB s)+1) λk=>[i (HE (s.qm (laB s)) (s.qr (laB s)) z5 k),i (HE (s.qm (laB s)) (s.qv (laB s)) z6 k)]) (decide (k=((↑s.nb:Int)-1).toNat))::Bool.rec ([]) ([]) (decide (k=((↑s.nb:Int)-1).toNat))] [lst 2 3 λk=>[iI (oL k),iI (oH k)],iI 1,lst 3 s.nb λk=>[iI (s.ql k),iI (s.qh k),lst 2 (seM s k) λj=>[iI (seR s (U2 (V 0)) k j),iI (seV s (U2 (V 1)) k j)]]]] (branch (!boE s.nb (s.ql) (s.qh) (seM s) (seR s (U2 (V 0))) (seV s (U2 (V 1)))==0) (need [[Q5]=[Q5],H9 z0 QT,QA s,QB s] (leaf (false,(9:Int)))) (need [[Q5]=[Q5],H9 z0 (hL z1),((23:TypeId),1,s.xn,s.xg)=((23:TypeId),1,z1.xn,z1.xg),((9:TypeId),1,s.yn,s.yg)=((9:TypeId),1,z1.yn,z1.yg)] (leaf (true,(0:Int))))))))))))))))))))))))))))) (need [[Q5]=[Q5],H9 QT QT,QA s,QB s] (leaf (false,(4:Int))))))))) z4)))) VX ?_
 have hw:wdO (U6 (UQ 4) V (Int.toNat 0))=true:=VX;have hm:wdM (wdK (U6 (UQ 4) V (Int.toNat 0)))=2:=VX;have hn1:1<=n:=by have:=VV.2.1;omega
 have hnl:=B1 VV;simp only [VO.sat,UE,UK,hm,hw,true_imp_iff];refine ⟨⟨rfl,rfl⟩,⟨VL,VL⟩,⟨by simp only [VN];omega,λh4=>?_,λh4=>?_⟩,λh=>by cases h⟩
 ·exact V5
 ·have hN:n=2+1:=by
   simp at h4;omega
  refine ⟨⟨VL,VL,VL⟩,?_,λh5=>?_,λh5=>?_⟩
  rotate_left 2
  ·exact V7
  ·all_goals exact yC
  ·have hk1:n-1=2:=VL;have hx0:U2 (U6 (UQ 4) V 1)=U2 (V 0):=rfl;have hx1:U2 (U6 (UQ 4) V 2)=U2 (V 1):=rfl;have hq:s.nb<=6:=UI.1.1;rw [hk1];refine ⟨by simp only [VN];omega,λh6=>⟨DH _ _ _ _ _ _,F4 hN h5 (Zu4 h6) (by decide)⟩,λh6=>?_⟩
   have h6:1<=s.nb:=by simp at h6;omega
   have hla:laB s<s.nb:=by unfold laB;omega
   have hm10:=(UI.1.2 _ hla).1;refine ⟨VL,by decide,by simp only [VN];omega,λh7=>⟨DH _ _ _ _ _ _,F4 hN h5 (Zu5 h6 (bnt h7)) (by decide)⟩,λh7=>?_⟩
   have h7:bt 0 (U2 (V 0)) 2=true:=bnf h7;refine ⟨VL,⟨VL,VL,by simp only [Bh 1];rfl⟩,λh8=>⟨DH _ _ _ _ _ _,F4 hN h5 (Zu6 h6 h7 (bnt h8)) (by decide)⟩,λh8=>?_⟩
   have h8:seN (s.qm (laB s)) (s.qr (laB s)) (U2 (V 0))=true:=bnf h8;refine ⟨VL,by decide,λh9=>⟨DH _ _ _ _ _ _,F4 hN h5 (Zu7 h6 h7 h8 (bnt h9)) (by decide)⟩,λh9=>?_⟩
   have h9:bt (-1000) (U2 (V 1)) 2000=true:=bnf h9;refine ⟨λh=>VL,⟨VL,λk hk a ha=>?_⟩,VL,VL,VL,by decide,VL,by decide,⟨rfl,VL⟩,VL,VL,⟨Zu9 UI h6 h7 h8 h9,?_⟩,λh=>⟨DH _ _ _ _ _ _,F4 hN h5 (Zu3 h6 h7 h8 h9 h) (by decide)⟩,λh=>⟨⟨⟨B2 s,zC _,zC _,?_,B4 s,PB s,trivial⟩,rfl,rfl⟩,uA hN h5 (Zu8 h6 h7 h8 h9 h)⟩⟩
   ·simp only [GM,DL,or_false] at ha;rcases ha with rfl|rfl|rfl<;>simp [AV.one,Value.oneCell']
   ·refine ⟨⟨rfl,rfl,λk hk=>⟨?_,?_⟩⟩,zC _,?_,trivial⟩
    ·rcases (show k=0\/k=1\/k=2 by omega) with rfl|rfl|rfl<;>exact ⟨(P9 _).2,(P9 _).2,trivial⟩
    ·intro x hx;simp only [GM,DL,or_false] at hx;rcases hx with rfl|rfl<;>exact .x _
    ·exact V2
   ·exact V2
end Go.Proofs.YtakpdkmhclhlnaaGreatDoor.Hd
