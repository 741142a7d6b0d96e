/- Contracts, put together. Conditions: those of each. -/
import Derived.Deep.Slices
import Derived.Great.BuildSlice
import Derived.Laws.IdiomStrings
import Derived.Laws.MakeOwn
import Derived.Lib.AppendStr
import Derived.MapKept
import Derived.Orders
import Derived.OrdersIn
import Derived.ProofKit
import Derived.RangeFuncNested
import Derived.RangeFuncOwn
import Derived.Scope
import Derived.SizedLaws
import Derived.Still
import Derived.WalkKit
import Derived.WalkLawsBesides
set_option linter.unusedSimpArgs false
set_option linter.unusedVariables false
namespace Go.Sx
open Go
abbrev Ch:=Nat->Nat
abbrev Cg:=Nat->Int
abbrev Cf:=Nat->ByteArray
abbrev Ak:=@True.intro
abbrev Al:=@And.intro
abbrev Am:=@Nat.le_refl
abbrev An:=@Nat.lt_or_ge
abbrev Ao:=@Nat.zero_le
abbrev Ap:=@Nat.zero_add
abbrev Aq:=@Nat.not_lt_zero
abbrev Ar:=@Nat.le_trans
abbrev As:=@List.mem_append_right
abbrev At:=@Sem.run_bind
abbrev Au:=@Result.andThen_ok
abbrev Av:=@ByteArray.size_append
abbrev Aw:=@Nat.blt_eq
abbrev Ax:=@Bool.not_eq_true'
abbrev Ay:=@Option.map_eq_some_iff
abbrev Az:=@Nat.succ_le_of_lt
abbrev Ba:=@Nat.add_assoc
abbrev Bb:=@Option.some.inj
abbrev Bc:=@List.mem_append
abbrev Bd:=@List.mem_append_left
abbrev Be:=@List.length_append
abbrev Bf:=@Nat.lt_irrefl
abbrev Bg:=@Nat.add_zero
abbrev Bh:=@Nat.add_comm
abbrev Bi:=@Nat.add_sub_cancel
abbrev Bj:=@List.length_cons
abbrev Bk:=@Nat.lt_succ_self
abbrev Bl:=@Bool.or_eq_true
abbrev Bm:=@List.length_map
abbrev Bn:=@List.getElem?_map
abbrev Bp:=@Nat.mul_comm
abbrev Bq:=@Nat.succ_mul
abbrev Br:=@List.getElem?_eq_none
abbrev Bs:=@Nat.sub_self
abbrev Bt:=@Option.map_some
abbrev Bu:=@World.putObj_heap_other
abbrev Bv:=@Sem.run_pure
abbrev Bw:=@Bool.false_eq_true
abbrev Bx:=@Int.le_trans
abbrev By:=@List.nodup_nil
abbrev Bz:=@Int.mul_nonneg
abbrev Ca:=@List.mem_of_getElem?
abbrev Cb:=@Bool.eq_false_iff
abbrev Cc:=@Nat.one_le_two_pow
abbrev Cd:=@Nat.min_eq_left
abbrev Ce:=@List.getElem?_append
def GP:Nat->Option (Obj->Prop)
 | 0=>some λo=> ∃te pe T fr,o= .cells #[.iface te pe] T fr
 | 1=>some λo=> ∃te pe T fr,o= .cells #[.iface te pe] T fr
 | 2=>some λo=> ∃T fr,o= .cells ((List.range 20).map λk=>Value.int .u64 ((10^k:Nat):Int)).toArray T fr
 | 3=>some λo=> ∃m T fr,o= .cells #[.int .i64 m] T fr
 |_=>none
open Go Go.RowKit
inductive AV where
 |top
 |lit (b:Bool)
 |x (v:Value)
 |agg (l:List AV)
 |tup (l:List AV)
 |fn (f:Fn) (first caps:List AV)
 |ptr (id off:Nat)
 |row (id:Nat)
 |elt (id sz i j:Nat)
 |ro (l:List AV)
 |lst (sz n:Nat) (f:Nat->List AV)
 |mp (id:Nat)
 |roI (pre:List AV) (n:Nat) (f:Cg) (off:Nat)
 |mpr (g:ByteArray->List AV) (okf:ByteArray->Bool)
 |any1
abbrev Ci:=Nat->List AV
def HY(n:Nat)(f:Cg):List AV:=(List.range n).map λk=> .x (.int .i64 (f k))
inductive Idf:AV->Prop
 |top:Idf .top
 |lit (b:Bool):Idf (.lit b)
 |x (v:Value):Idf (.x v)
 |agg (l:List AV):(∀a∈l,Idf a)->Idf (.agg l)
 |tup (l:List AV):(∀a∈l,Idf a)->Idf (.tup l)
 |fn (f:Fn) (l l':List AV):(∀a∈l,Idf a)->(∀a∈l',Idf a)->Idf (.fn f l l')
 |ro (l:List AV):(∀a∈l,Idf a)->Idf (.ro l)
 |lst (sz n:Nat) (f:Ci):(∀i,i<n-> ∀a∈f i,Idf a)->Idf (.lst sz n f)
 |roI (pre:List AV) (n:Nat) (f:Cg) (off:Nat):Idf (.ro (pre++HY n f))->Idf (.roI pre n f off)
 |mpr (g:ByteArray->List AV) (okf:ByteArray->Bool):(∀s,∀a∈g s,Idf a)->Idf (.mpr g okf)
 |any1:Idf .any1
structure UP where
 ro:Nat->Prop
 own:Nat->Option Nat
 live:Nat->Prop
 blk:Ch
 val:Nat->Value
inductive Rep (e:UP) (w:World):AV->Value->Prop
 |top (v:Value):Rep e w .top v
 |lit (b:Bool):Rep e w (.lit b) (.bool b)
 |x (v:Value):Rep e w (.x v) v
 |agg (l:List AV) (vs:List Value):l.length=vs.length->(∀(i:Nat) (a:AV) (v:Value),l[i]? =some a->vs[i]? =some v->Rep e w a v)->Rep e w (.agg l) (.agg vs.toArray)
 |tup (l:List AV) (vs:List Value):l.length=vs.length->(∀(i:Nat) (a:AV) (v:Value),l[i]? =some a->vs[i]? =some v->Rep e w a v)->Rep e w (.tup l) (.tuple vs.toArray)
 |fn (f:Fn) (l l':List AV) (vs vs':List Value):l.length=vs.length->(∀(i:Nat) (a:AV) (v:Value),l[i]? =some a->vs[i]? =some v->Rep e w a v)->
   l'.length=vs'.length->(∀(i:Nat) (a:AV) (v:Value),l'[i]? =some a->vs'[i]? =some v->Rep e w a v)->Rep e w (.fn f l l') (.func f vs.toArray vs'.toArray)
 |ptr (id off:Nat):e.live id->Rep e w (.ptr id off) (.pointer (some ⟨e.blk id,off,none⟩))
 |row (id:Nat) (a:Option Addr) (n c:Nat):e.live id->e.val id= .slice a n c->Rep e w (.row id) (.slice a n c)
 |elt (id sz i j b n cap:Nat):e.live id->e.val id= .slice (some ⟨b,0,none⟩) n cap->Rep e w (.elt id sz i j) (.pointer (some ⟨b,i*sz+j,none⟩))
 |ro (l:List AV) (vs:List Value) (b o:Nat):e.ro b->b<w.heap.size->(∀a∈l,Idf a)->l.length=vs.length->(∀(j:Nat) (v:Value),vs[j]? =some v->w.cell? ⟨b,o+j,none⟩=some v)->
   (∀(i:Nat) (a:AV) (v:Value),l[i]? =some a->vs[i]? =some v->Rep e w a v)->Rep e w (.ro l) (.pointer (some ⟨b,o,none⟩))
 |lstNil (sz:Nat) (f:Ci):Rep e w (.lst sz 0 f) (.slice none 0 0)
 |lst (sz n:Nat) (f:Ci) (b o cap:Nat) (g:Nat->Nat->Value):(0<n->e.ro b)->(0<n->b<w.heap.size)->(∀i,i<n-> ∀a∈f i,Idf a)->n<=cap->cap<=maxLen->
   (∀i j:Nat,i<n->j<sz->w.cell? ⟨b,o+(i*sz+j),none⟩=some (g i j))->(∀i:Nat,i<n->(f i).length=sz)->
   (∀(i j:Nat) (a:AV),i<n->(f i)[j]? =some a->Rep e w a (g i j))->(ad:Addr)->(0<n->ad=⟨b,o,none⟩)->Rep e w (.lst sz n f) (.slice (some ad) n cap)
 |mp (id:Nat):e.live id->Rep e w (.mp id) (.map (some (e.blk id)))
 |roI (pre:List AV) (n:Nat) (f:Cg) (off b o:Nat):Rep e w (.ro (pre++HY n f)) (.pointer (some ⟨b,o,none⟩))->Rep e w (.roI pre n f off) (.pointer (some ⟨b,o+off,none⟩))
 |mpr (g:ByteArray->List AV) (okf:ByteArray->Bool) (vals:ByteArray->List Value) (b:Nat) (es:Array MapEntry) (c:Nat):e.ro b->b<w.heap.size->(∀s,∀a∈g s,Idf a)->w.heap[b]? =some (.map es c)->
   (∀s,okf s=true-> ∃j,Instr.findNow .string (.string s) es.toList 0=some (some (j,.agg (vals s).toArray)))->(∀s,okf s=false->Instr.findNow .string (.string s) es.toList 0=some none/\ ∀a∈g s,a= .top\/a= .any1)->
   (∀s,okf s=true->(g s).length=(vals s).length)->(∀(s:ByteArray) (i:Nat) (a:AV) (v:Value),okf s=true->(g s)[i]? =some a->(vals s)[i]? =some v->Rep e w a v)->Rep e w (.mpr g okf) (.map (some b))
 |any1 (v:Value):v.oneCell'=true->Rep e w .any1 v
def U8(e:UP)(w:World)(l:List AV)(vs:List Value):Prop:=l.length=vs.length/\ ∀(i:Nat) (a:AV) (v:Value),l[i]? =some a->vs[i]? =some v->Rep e w a v
theorem U8.nil(e:UP)(w:World):U8 e w [] []:=⟨rfl,λi a v h=>by simp at h⟩
theorem U8.cons{e:UP}{w:World}{a:AV}{v:Value}{l:List AV}{vs:List Value}(h:Rep e w a v)(t:U8 e w l vs):U8 e w (a::l) (v::vs):=by
 refine ⟨by simp [t.1],λi b u hb W=>?_⟩
 cases i with
 |zero=>simp at hb W;subst hb;subst W;exact h
 |succ i=>simp at hb W;exact t.2 i b u hb W
theorem U8.cons_inv{e:UP}{w:World}{a:AV}{l:List AV}{vs:List Value}(h:U8 e w (a::l) vs): ∃v vs',vs=v::vs'/\Rep e w a v/\U8 e w l vs':=by
 cases vs with
 |nil=>have:=h.1;simp at this
 |cons v vs'=>
  refine ⟨v,vs',rfl,h.2 0 a v (by simp) (by simp),⟨by have:=h.1;simpa using this,λi b u hb W=>h.2 (i+1) b u (by simpa using hb) (by simpa using W)⟩⟩
theorem U8.nil_inv{e:UP}{w:World}{vs:List Value}(h:U8 e w [] vs):vs=[]:=by
 exact List.eq_nil_of_length_eq_zero h.1.symm
theorem U8.append{e:UP}{w:World}{l l':List AV}{vs vs':List Value}(h:U8 e w l vs)(h':U8 e w l' vs'):U8 e w (l++l') (vs++vs'):=by
 refine ⟨by simp [h.1,h'.1],λi a v Z A=>?_⟩
 rw [Ce] at Z A;rw [←h.1] at A;split at Z;rename_i O;rw [if_pos O] at A;exact h.2 _ _ _ Z A;rename_i O;rw [if_neg O] at A;exact h'.2 _ _ _ Z A
theorem U8.get{e:UP}{w:World}{l:List AV}{vs:List Value}(h:U8 e w l vs){i:Nat}{a:AV}(Z:l[i]? =some a): ∃v,vs[i]? =some v/\Rep e w a v:=by
 have O:i<vs.length:=by rw [←h.1];exact (List.getElem?_eq_some_iff.1 Z).1
 exact ⟨vs[i],List.getElem?_eq_getElem O,h.2 i a _ Z (List.getElem?_eq_getElem O)⟩
theorem U8.set{e:UP}{w:World}{l:List AV}{vs:List Value}(h:U8 e w l vs){a:AV}{v:Value}(r:Rep e w a v)(k:Nat):U8 e w (l.set k a) (vs.set k v):=by
 refine ⟨by simp [h.1],λi b u hb W=>?_⟩
 rw [List.getElem?_set] at hb W;by_cases hk:k=i;subst hk;simp only [if_true] at hb W;split at hb;rename_i h1;rw [if_pos (by rw [←h.1];exact h1)] at W;cases hb;cases W;exact r
 cases hb;rw [if_neg hk] at hb W;exact h.2 _ _ _ hb W
theorem U8.take{e:UP}{w:World}{l:List AV}{vs:List Value}(h:U8 e w l vs)(k:Nat):U8 e w (l.take k) (vs.take k):=by
 refine ⟨by simp [h.1],λi b u hb W=>?_⟩
 rw [List.getElem?_take] at hb W;split at hb;rename_i O;rw [if_pos O] at W;exact h.2 _ _ _ hb W;cases hb
theorem U8.drop{e:UP}{w:World}{l:List AV}{vs:List Value}(h:U8 e w l vs)(k:Nat):U8 e w (l.drop k) (vs.drop k):=by
 refine ⟨by simp [h.1],λi b u hb W=>?_⟩
 rw [List.getElem?_drop] at hb W;exact h.2 _ _ _ hb W
theorem Rep.aggL{e:UP}{w:World}{l:List AV}{vs:List Value}(h:U8 e w l vs):Rep e w (.agg l) (.agg vs.toArray):= .agg l vs h.1 h.2
theorem Rep.tupL{e:UP}{w:World}{l:List AV}{vs:List Value}(h:U8 e w l vs):Rep e w (.tup l) (.tuple vs.toArray):= .tup l vs h.1 h.2
theorem Rep.agg_inv{e:UP}{w:World}{l:List AV}{v:Value}(h:Rep e w (.agg l) v): ∃vs:List Value,v= .agg vs.toArray/\U8 e w l vs:=by
 cases h with|agg l vs h1 h2=>exact ⟨vs,rfl,h1,h2⟩
theorem Rep.tup_inv{e:UP}{w:World}{l:List AV}{v:Value}(h:Rep e w (.tup l) v): ∃vs:List Value,v= .tuple vs.toArray/\U8 e w l vs:=by
 cases h with|tup l vs h1 h2=>exact ⟨vs,rfl,h1,h2⟩
theorem Rep.fn_inv{e:UP}{w:World}{f:Fn}{l l':List AV}{v:Value}(h:Rep e w (.fn f l l') v): ∃vs vs':List Value,v= .func f vs.toArray vs'.toArray/\U8 e w l vs/\U8 e w l' vs':=by
 cases h with|fn f l l' vs vs' h1 h2 h3 h4=>exact ⟨vs,vs',rfl,⟨h1,h2⟩,h3,h4⟩
theorem Rep.x_inv{e:UP}{w:World}{u v:Value}(h:Rep e w (.x u) v):v=u:=by cases h;rfl
theorem Rep.lit_inv{e:UP}{w:World}{b:Bool}{v:Value}(h:Rep e w (.lit b) v):v= .bool b:=by cases h;rfl
structure Step (e e':UP) (w w':World):Prop where
 ro: ∀b,b<w.heap.size->e.ro b->e'.ro b/\w'.heap[b]? =w.heap[b]?
 live: ∀id,e.live id->e'.live id/\e'.blk id=e.blk id/\e'.val id=e.val id
 size:w.heap.size<=w'.heap.size
theorem Step.refl(e:UP)(w:World):Step e e w w:=⟨λ_ _ h=>⟨h,rfl⟩,λ_ h=>⟨h,rfl,rfl⟩,Am _⟩
theorem Step.trans{e e' e'':UP}{w w' w'':World}(h:Step e e' w w')(k:Step e' e'' w' w''):Step e e'' w w'':=by
 refine ⟨λb hb I=>?_,λid O=>?_,Ar h.size k.size⟩;obtain ⟨h1,h2⟩:=h.ro b hb I;obtain ⟨k1,k2⟩:=k.ro b (Nat.lt_of_lt_of_le hb h.size) h1;exact ⟨k1,k2.trans h2⟩;obtain ⟨h1,h2,h3⟩:=h.live id O;obtain ⟨k1,k2,k3⟩:=k.live id h1;exact ⟨k1,k2.trans h2,k3.trans h3⟩
theorem Rep.step{e e':UP}{w w':World}(s:Step e e' w w'){a:AV}{v:Value}(h:Rep e w a v):Rep e' w' a v:=by
 induction h with
 |top v=>exact .top v
 |lit b=>exact .lit b
 |x v=>exact .x v
 |agg l vs h1 h2 ih=>exact .agg l vs h1 ih
 |tup l vs h1 h2 ih=>exact .tup l vs h1 ih
 |fn f l l' vs vs' h1 h2 h3 h4 ih1 ih2=>exact .fn f l l' vs vs' h1 ih1 h3 ih2
 |ptr id off hl=>obtain ⟨h1,h2,h3⟩:=s.live id hl;rw [←h2];exact .ptr id off h1
 |row id a n c hl A=>obtain ⟨h1,h2,h3⟩:=s.live id hl;exact .row id a n c h1 (h3.trans A)
 |elt id sz i j b n cap hl A=>obtain ⟨h1,h2,h3⟩:=s.live id hl;exact .elt id sz i j b n cap h1 (h3.trans A)
 |ro l vs b o I hb hf h1 h2 h3 ih=>
  obtain ⟨k1,k2⟩:=s.ro b hb I;exact .ro l vs b o k1 (Nat.lt_of_lt_of_le hb s.size) hf h1 (λj v hj=>(World.cell?_of_block (a:=⟨b,o+j,none⟩) k2).trans (h2 j v hj)) ih
 |lstNil sz f=>exact .lstNil sz f
 |lst sz n f b o cap g I hb hf hc hm h1 h2 h3 ad had ih=>
  exact .lst sz n f b o cap g (λh=>(s.ro b (hb h) (I h)).1) (λh=>Nat.lt_of_lt_of_le (hb h) s.size) hf hc hm (λi j O hj=>(World.cell?_of_block (a:=⟨b,o+(i*sz+j),none⟩) (s.ro b (hb (by omega)) (I (by omega))).2).trans (h1 i j O hj)) h2 ih ad had
 |mp id hl=>obtain ⟨h1,h2,h3⟩:=s.live id hl;rw [←h2];exact .mp id h1
 |roI pre n f off b o h ih=>exact .roI pre n f off b o ih
 |mpr g okf vals b es c I hb hf h1 h2 h3 h4 h5 ih=>
  obtain ⟨k1,k2⟩:=s.ro b hb I;exact .mpr g okf vals b es c k1 (Nat.lt_of_lt_of_le hb s.size) hf (k2.trans h1) h2 h3 h4 ih
 |any1 v A=>exact .any1 v A
theorem U8.step{e e':UP}{w w':World}(s:Step e e' w w'){l:List AV}{vs:List Value}(h:U8 e w l vs):U8 e' w' l vs:=⟨h.1,λi a v Z A=>(h.2 i a v Z A).step s⟩
theorem Rep.idf{e e':UP}{w:World}(I: ∀b,e.ro b->e'.ro b){a:AV}{v:Value}(h:Rep e w a v)(k:Idf a):Rep e' w a v:=by
 induction h with
 |top v=>exact .top v
 |lit b=>exact .lit b
 |x v=>exact .x v
 |agg l vs h1 h2 ih=>cases k with|agg l k=>exact .agg l vs h1 (λi a v Z A=>ih i a v Z A (k a (Ca Z)))
 |tup l vs h1 h2 ih=>cases k with|tup l k=>exact .tup l vs h1 (λi a v Z A=>ih i a v Z A (k a (Ca Z)))
 |fn f l l' vs vs' h1 h2 h3 h4 ih1 ih2=>
  cases k with
  |fn f l l' k k'=>exact .fn f l l' vs vs' h1 (λi a v Z A=>ih1 i a v Z A (k a (Ca Z))) h3 (λi a v Z A=>ih2 i a v Z A (k' a (Ca Z)))
 |ptr id off hl=>cases k
 |row id a n c hl A=>cases k
 |elt id sz i j b n cap hl A=>cases k
 |ro l vs b o hb hlt hf h1 h2 h3 ih=>exact .ro l vs b o (I b hb) hlt hf h1 h2 (λi a v Z A=>ih i a v Z A (hf a (Ca Z)))
 |lstNil sz f=>exact .lstNil sz f
 |lst sz n f b o cap g hb hlt hf hc hm h1 h2 h3 ad had ih=>exact .lst sz n f b o cap g (λh=>I b (hb h)) hlt hf hc hm h1 h2 (λi j a O Z=>ih i j a O Z (hf i O a (Ca Z))) ad had
 |mp id hl=>cases k
 |roI pre n f off b o h ih=>cases k with|roI _ _ _ _ k=>exact .roI pre n f off b o (ih k)
 |mpr g okf vals b es c hb hlt hf h1 h2 h3 h4 h5 ih=>exact .mpr g okf vals b es c (I b hb) hlt hf h1 h2 h3 h4 (λs i a v ho Z A=>ih s i a v ho Z A (hf s a (Ca Z)))
 |any1 v A=>exact .any1 v A
inductive GU where
 |cells (T:TypeId) (l:List AV)
 |row (T:TypeId) (sz n:Nat) (f:Ci)
 |memo (h:Value->Prop) (f:Value->Value)
 |ints (T:TypeId) (pre:List AV) (n:Nat) (f:Cg)
 |aka (r:Nat) (T:TypeId) (sz n:Nat) (f:Ci)
 |keep (T:TypeId) (l:List AV)
def Ka2(e:UP)(w:World)(id o:Nat)(T:TypeId)(sz n:Nat)(f:Ci):Prop:=
 (∀b,(e.val id).ownBlock=some b->e.own b=some o)/\(∀i,i<n->(f i).length=sz/\ ∀a∈f i,Idf a)/\
   ∃xs:List Value,w.ownsRow 0 T sz (e.val id) n xs/\ ∀(i j:Nat) (a:AV) (v:Value),i<n->(f i)[j]? =some a->xs[i*sz+j]? =some v->Rep e w a v
def D4(i:Nat):GU->Bool
 | .aka r _ _ _ _=>Nat.beq r i
 |_=>false
def GM(e:UP)(w:World)(id:Nat):GU->Prop
 | .cells T l=>e.live id/\e.own (e.blk id)=some id/\ ∃vs:List Value,w.heap[e.blk id]? =some (.cells vs.toArray T (0,0))/\U8 e w l vs
 | .row T sz n f=>e.live id/\(∀b,(e.val id).ownBlock=some b->e.own b=some id)/\(∀i,i<n->(f i).length=sz/\ ∀a∈f i,Idf a)/\
   ∃xs:List Value,w.ownsRow 0 T sz (e.val id) n xs/\ ∀(i j:Nat) (a:AV) (v:Value),i<n->(f i)[j]? =some a->xs[i*sz+j]? =some v->Rep e w a v
 | .memo h f=>e.live id/\e.own (e.blk id)=some id/\ ∃(es:Array MapEntry) (c:Nat),w.heap[e.blk id]? =some (.map es c)/\ ∀x∈es.toList,h x.key/\x.val=f x.key
 | .ints T pre n f=>e.live id/\e.own (e.blk id)=some id/\ ∃vs:List Value,w.heap[e.blk id]? =some (.cells vs.toArray T (0,0))/\U8 e w (pre++HY n f) vs
 | .aka r T sz n f=>e.live id/\e.live r/\ ∃o,(o=id\/o=r)/\Ka2 e w id o T sz n f
 | .keep T l=>e.live id/\e.ro (e.blk id)/\e.blk id<w.heap.size/\ ∃vs:List Value,w.heap[e.blk id]? =some (.cells vs.toArray T (0,0))/\U8 e w l vs
theorem GM.live{e:UP}{w:World}{id:Nat}{r:GU}(h:GM e w id r):e.live id:=by
 cases r<;>exact h.1
theorem LT{e e':UP}{w w':World}(s:Step e e' w w'){id:Nat}{T:TypeId}{l:List AV}(h:GM e w id (.keep T l)):GM e' w' id (.keep T l):=by
 obtain ⟨h1,h2,h3,vs,h4,h5⟩:=h;obtain ⟨l1,l2,l3⟩:=s.live id h1;obtain ⟨k1,k2⟩:=s.ro _ h3 h2;refine ⟨l1,by rw [l2];exact k1,by rw [l2];exact Nat.lt_of_lt_of_le h3 s.size,vs,?_,h5.step s⟩
 rw [l2,k2];exact h4
abbrev HA:=List (Nat×GU)
def G5(e:UP)(m:HA)(w:World):Prop:= ∀p∈m,GM e w p.1 p.2
def D2(e:UP)(w:World):Prop:= ∀b p,GP b=some p->e.ro b/\b<w.heap.size/\ ∃o,w.heap[b]? =some o/\o.isCells=true/\p o
theorem D2.step{e e':UP}{w w':World}(h:D2 e w)(s:Step e e' w w'):D2 e' w':=λb p hp=>by
 obtain ⟨h1,h2,o,h3,h4⟩:=h b p hp;obtain ⟨k1,k2⟩:=s.ro b h2 h1;exact ⟨k1,Nat.lt_of_lt_of_le h2 s.size,o,k2.trans h3,h4⟩
structure GB (e:UP) (B:Nat) (w:World):Prop where
 apart: ∀b,e.ro b->e.own b=none/\b<w.heap.size
 owned: ∀b id,e.own b=some id->B<=b/\b<w.heap.size
 glob:D2 e w
abbrev U4.{u}{α:Sort u}(x:α):Prop:=x=x
abbrev HR(n:Nat)(l:List AV):List AV:=List.replicate n .top++l
abbrev rq4(a b u v:Cg):Ci:=λk=>[.x (.int .i64 (a k)),.x (.int .i64 (b k)),.x (.int .i64 (u k)),.x (.int .i64 (v k))]
theorem lpE{β:Type}{S:β->Prop}{f:Option β}{b:β}(e:f=some b)(h:S b): ∀cj,f=some cj->S cj:=λcj hcj=>by rw [e] at hcj;cases hcj;exact h
theorem VO{p:Prop}(h:p:=by omega):p:=h
theorem VY{p:Prop}(h:p:=by simp):p:=h
theorem VZ.{u}{α:Sort u}{a b:α}(h:a=b:=by kernel_rfl):a=b:=h
theorem UK:(∀p:Prop,(True/\p)=p)/\ ∀p:Prop,(p/\True)=p:=⟨true_and,and_true⟩
theorem H6:(∀{p:Prop} [Decidable p],(decide p=true)=p)/\ ∀{p:Prop} [Decidable p],(decide p=false)↔ ¬p:=⟨decide_eq_true_eq,decide_eq_false_iff_not⟩
theorem FZ.{u}:(∀{α:Type u} [BEq α] [LawfulBEq α] {a b:α},(a != b)=true↔a≠b)/\(∀{α:Type u} (a b:α),(a≠b)= ¬(a=b))/\ ∀{α:Type u} [BEq α] [LawfulBEq α] {a b:α},(a != b)=false↔a=b:=⟨bne_iff_ne,ne_eq,bne_eq_false_iff_eq⟩
theorem RP.{u}:(∀{α:Type u} (a:α) (as:List α),(a::as).length=as.length+1)/\ ∀{α:Type u},([]:List α).length=0:=⟨λ_ _=>Bj,List.length_nil⟩
theorem FW:((0:Nat):Int)=0/\ ∀n:Nat,((n:Int)).toNat=n:=⟨rfl,Int.toNat_natCast⟩
abbrev HP(s:ByteArray):AV:= .x (.string s)
abbrev GN:= @List.mem_cons_self
abbrev H5:= @Nat.eq_of_beq_eq_true
abbrev D8:= @List.getElem?_eq_getElem
abbrev D1:= @List.mem_cons_of_mem
abbrev F9:= @List.mem_of_getElem?
abbrev L0:= @Array.getD_eq_getD_getElem?
abbrev RA:= @List.getElem?_eq_some_iff
abbrev PK:= @Array.getElem?_eq_some_iff
abbrev xJ:= @List.mem_iff_getElem?
abbrev BF:= @List.all_eq_true
abbrev PJ:= @Nat.lt_of_lt_of_le
abbrev BS:= @Nat.mul_le_mul_right
abbrev wD:= @Nat.le_of_ble_eq_true
abbrev GT:= @List.mem_cons
abbrev GW:= @Option.getD_some
abbrev HF:= @Bool.and_eq_true
abbrev HL:= @Option.some.injEq
abbrev FI:= @Prod.mk.injEq
abbrev DR:= @Int.toNat_natCast
abbrev DO:= @List.not_mem_nil
abbrev Jv7:= @decide_eq_false_iff_not
abbrev vK:= @decide_eq_true_eq
abbrev B2:= @List.mem_singleton
abbrev wC:= @of_decide_eq_true
abbrev Out:=List Prop×AV×Option GU
def Jv6(m:HA)(id:Nat):Option GU->HA
 |none=>m
 |some r=>(id,r)::m
def DN:HA->Nat->Option GU
 |[],_=>none
 |(k,r)::t,id=>match Nat.beq k id with
  |true=>some r
  |false=>DN t id
theorem GA{m:HA}{id:Nat}{r:GU}(h:DN m id=some r):(id,r)∈m:=by
 induction m with
 |nil=>simp [DN] at h
 |cons p t ih=>
  obtain ⟨k,r'⟩:=p;unfold DN at h;split at h;rename_i hk;have:k=id:=H5 hk;subst this;cases h;exact GN;exact D1 _ (ih h)
def LY(e:UP)(B:Nat)(w:World)(m:HA)(id:Nat)(val:AV)(add:Option GU)(v:Value)(w':World):Prop:=
 ∃e',Below w.heap.size w w'/\Step e e' w w'/\GB e' B w'/\(∀b k,e.own b=some k->e'.own b=some k)/\Rep e' w' val v/\G5 e' (Jv6 m id add) w'/\(∀k,e'.live k->e.live k\/k=id)/\(∀b,e'.ro b->e.ro b\/w.heap.size<=b)
theorem GM.ext{e e':UP}{w w':World}(hb:Below w.heap.size w w')(s:Step e e' w w')(ho: ∀b k,e.own b=some k->e'.own b=some k){id:Nat}{r:GU}(h:GM e w id r):GM e' w' id r:=by
 cases r with
 |cells T l=>
  obtain ⟨h1,h2,vs,h3,h4⟩:=h;obtain ⟨l1,l2,l3⟩:=s.live id h1;refine ⟨l1,by rw [l2];exact ho _ _ h2,vs,?_,h4.step s⟩
  rw [l2,hb.block _ (PK.1 h3).1];exact h3
 |row T sz n f=>
  obtain ⟨h1,h2,hf,xs,h3,h4⟩:=h;obtain ⟨l1,l2,l3⟩:=s.live id h1;refine ⟨l1,by rw [l3];exact λb hbk=>ho _ _ (h2 b hbk),hf,xs,?_,λi j a v O Z A=>(h4 i j a v O Z A).step s⟩
  rw [l3];refine ⟨h3.1,h3.2.imp (λh=>h) ?_⟩;rintro ⟨g,cap,cur,A,hg,hh,rest⟩;exact ⟨g,cap,cur,A,hg,by rw [hb.block _ (PK.1 hh).1];exact hh,rest⟩
 |ints T pre n f=>
  obtain ⟨h1,h2,vs,h3,h4⟩:=h;obtain ⟨l1,l2,l3⟩:=s.live id h1;refine ⟨l1,by rw [l2];exact ho _ _ h2,vs,?_,h4.step s⟩
  rw [l2,hb.block _ (PK.1 h3).1];exact h3
 |memo h f=>
  obtain ⟨h1,h2,es,c,h3,h4⟩:=h;obtain ⟨l1,l2,l3⟩:=s.live id h1;exact ⟨l1,by rw [l2];exact ho _ _ h2,es,c,by rw [l2,hb.block _ (PK.1 h3).1];exact h3,h4⟩
 |keep T l=>exact LT s h
 |aka r T sz n f=>
  obtain ⟨h1,h0,o,hor,h2,hf,xs,h3,h4⟩:=h;obtain ⟨l1,l2,l3⟩:=s.live id h1;refine ⟨l1,(s.live r h0).1,o,hor,by rw [l3];exact λb hbk=>ho _ _ (h2 b hbk),hf,xs,?_,λi j a v O Z A=>(h4 i j a v O Z A).step s⟩
  rw [l3];refine ⟨h3.1,h3.2.imp (λh=>h) ?_⟩;rintro ⟨g,cap,cur,A,hg,hh,rest⟩;exact ⟨g,cap,cur,A,hg,by rw [hb.block _ (PK.1 hh).1];exact hh,rest⟩
theorem G5.ext{e e':UP}{w w':World}(hb:Below w.heap.size w w')(s:Step e e' w w')(ho: ∀b k,e.own b=some k->e'.own b=some k){m:HA}(h:G5 e m w):G5 e' m w':=
 λp hp=>(h p hp).ext hb s ho
theorem UQ{e:UP}{B:Nat}{w:World}{m:HA}{id:Nat}{val:AV}{v:Value}(hE:GB e B w)(hm:G5 e m w)(r:Rep e w val v):LY e B w m id val none v w:=
 ⟨e,Below.refl _ _,Step.refl e w,hE,λ_ _ h=>h,r,hm,λ_ h=> .inl h,λ_ h=> .inl h⟩
def UP.new(e:UP)(id b:Nat)(v:Value):UP:=
 {ro:=e.ro,own:=λk=>if k=b then some id else e.own k,live:=λk=>k=id\/e.live k,blk:=λk=>if k=id then b else e.blk k,val:=λk=>if k=id then v else e.val k}
theorem Step.new{e:UP}{w:World}{id:Nat}{v:Value}(o:Obj)(hid: ¬e.live id):Step e (e.new id w.heap.size v) w (w.alloc o):=by
 refine ⟨λb hb I=>⟨I,Below.heap_alloc w o b hb⟩,λk hk=>?_,VY⟩;have hne:k≠id:=λh=>hid (h▸hk);exact ⟨.inr hk,by simp [UP.new,hne],by simp [UP.new,hne]⟩
theorem GB.new{e:UP}{B:Nat}{w:World}(h:GB e B w)(hB:B<=w.heap.size)(id:Nat)(v:Value)(o:Obj):GB (e.new id w.heap.size v) B (w.alloc o):=by
 refine ⟨λb I=>?_,λb k hk=>?_,λb p hp=>?_⟩;obtain ⟨h1,h2⟩:=h.apart b I;have:b≠w.heap.size:=VO;exact ⟨by simp [UP.new,this,h1],by simp;omega⟩
 simp only [UP.new] at hk;split at hk;rename_i hb;subst hb;exact ⟨hB,VY⟩;have:=h.owned b k hk;exact ⟨this.1,by simp;omega⟩
 obtain ⟨h1,h2,o',h3,h4⟩:=h.glob b p hp;exact ⟨h1,by simp;omega,o',(heap_alloc_old w o h2).trans h3,h4⟩
theorem yS{e:UP}{B:Nat}{w:World}(h:GB e B w)(id:Nat)(v:Value): ∀b k,e.own b=some k->(e.new id w.heap.size v).own b=some k:=by
 intro b k hk;have:=(h.owned b k hk).2;have hne:b≠w.heap.size:=VO;simp [UP.new,hne,hk]
theorem PI(w:World)(o:Obj):Below w.heap.size w (w.alloc o):=(Below.refl _ _).alloc (Am _) o
section
variable {e:UP}{B:Nat}{w:World}{m:HA}{id:Nat}
theorem nG{T:TypeId}{l:List AV}{vs:List Value}(hE:GB e B w)(hB:B<=w.heap.size)(hm:G5 e m w)(hid: ¬e.live id)(r:U8 e w l vs):
  LY e B w m id (.ptr id 0) (some (.cells T l)) (.pointer (some ⟨w.heap.size,0,none⟩)) (w.alloc (.cells vs.toArray T)):=by
 have st:=Step.new (e:=e) (w:=w) (id:=id) (v:= .nilIface) (.cells vs.toArray T) hid;refine ⟨e.new id w.heap.size .nilIface,PI _ _,st,hE.new hB _ _ _,yS hE _ _,?_,?_,λk hk=>?_,λ_ h=> .inl h⟩;have:=Rep.ptr (e:=e.new id w.heap.size .nilIface) (w:=w.alloc (.cells vs.toArray T)) id 0 (.inl rfl);simpa [UP.new] using this;intro p hp;rcases GT.1 hp with rfl|hp;refine ⟨.inl rfl,by simp [UP.new],vs,?_,r.step st⟩
 simp only [UP.new,if_true];exact heap_alloc_new w _;exact (hm p hp).ext (PI _ _) st (yS hE _ _);rcases hk with rfl|hk;exact .inr rfl;exact .inl hk
theorem Xb6(hE:GB e B w)(hB:B<=w.heap.size)(hm:G5 e m w)(hid: ¬e.live id):
  LY e B w m id (.mp id) (some (.memo (λ_=>False) (λv=>v))) (.map (some w.heap.size)) (w.alloc (.map #[] 0)):=by
 have st:=Step.new (e:=e) (w:=w) (id:=id) (v:= .nilIface) (.map #[] 0) hid;refine ⟨e.new id w.heap.size .nilIface,PI _ _,st,hE.new hB _ _ _,yS hE _ _,?_,?_,λk hk=>?_,λ_ h=> .inl h⟩;have:=Rep.mp (e:=e.new id w.heap.size .nilIface) (w:=w.alloc (.map #[] 0)) id (.inl rfl);simpa [UP.new] using this;intro p hp;rcases GT.1 hp with rfl|hp;refine ⟨.inl rfl,by simp [UP.new],#[],0,?_,λx hx=>by simp at hx⟩
 simp only [UP.new,if_true];exact heap_alloc_new w _;exact (hm p hp).ext (PI _ _) st (yS hE _ _);rcases hk with rfl|hk;exact .inr rfl;exact .inl hk
theorem MT{T:TypeId}{sz n c:Nat}{f:Ci}{cs:List Value}(hE:GB e B w)(hB:B<=w.heap.size)(hm:G5 e m w)(hid: ¬e.live id)
  (hnc:n<=c)(hc:c<=maxLen)(D5:cs.length=c*sz)(hf: ∀i,i<n->(f i).length=sz/\ ∀a∈f i,Idf a)
  (r: ∀(i j:Nat) (a:AV) (v:Value),i<n->(f i)[j]? =some a->cs[i*sz+j]? =some v->Rep e w a v):
  LY e B w m id (.row id) (some (.row T sz n f)) (.slice (some ⟨w.heap.size,0,none⟩) n c) (w.alloc (.cells cs.toArray T)):=by
 have st:=Step.new (e:=e) (w:=w) (id:=id) (v:= .slice (some ⟨w.heap.size,0,none⟩) n c) (.cells cs.toArray T) hid;refine ⟨e.new id w.heap.size (.slice (some ⟨w.heap.size,0,none⟩) n c),PI _ _,st,hE.new hB _ _ _,yS hE _ _,?_,?_,λk hk=>?_,λ_ h=> .inl h⟩;exact .row id _ _ _ (.inl rfl) (by simp [UP.new])
 intro p hp;rcases GT.1 hp with rfl|hp;refine ⟨.inl rfl,?_,hf,cs.take (n*sz),?_,?_⟩;intro b hb;simp only [UP.new,if_true,Value.ownBlock,HL] at hb;subst hb;simp [UP.new];refine ⟨by simp [D5,Cd (BS sz hnc)],.inr ⟨w.heap.size,c,cs.toArray,by simp [UP.new],Ao _,heap_alloc_new w _,hnc,hc,by simp [D5],VY⟩⟩
 intro i j a v O Z A;have hj:j<sz:=by rw [←(hf i O).1];exact (RA.1 Z).1
 rw [List.getElem?_take] at A;split at A;exact (r i j a v O Z A).step st;cases A;exact (hm p hp).ext (PI _ _) st (yS hE _ _);rcases hk with rfl|hk;exact .inr rfl;exact .inl hk
end
def qZ:List AV->Option (List Int)
 |[]=>some []
 |a::l=>match a with
  | .x (.int .i64 n)=>match qZ l with
   |some r=>some (n::r)
   |none=>none
  |_=>none
def UE:List Int->Nat->Int
 |[],_=>0
 |n::_,0=>n
 |_::l,k+1=>UE l k
theorem tE(n:Nat)(f:Cg):HY (n+1) f= .x (.int .i64 (f 0))::HY n (λk=>f (k+1)):=by
 simp [HY,List.range_succ_eq_map,List.map_map,Function.comp_def]
theorem fY: ∀{l:List AV} {r:List Int},qZ l=some r->l=HY r.length (UE r)
 |[],r,h=>by simp [qZ] at h;subst h;rfl
 |a::l,r,h=>by
  unfold qZ at h;split at h;rename_i n;split at h;rename_i r' I;cases h;have ih:=fY I;rw [Bj,tE,ih];rfl;cases h;cases h
def Xw6:List Int->Bool
 |[]=>true
 |n::l=>match decide (n=0) with
  |true=>Xw6 l
  |false=>false
theorem dW: ∀{l:List Int},Xw6 l=true-> ∀k,UE l k=0
 |[],_,_=>rfl
 |n::l,h,k=>by
  unfold Xw6 at h;split at h;rename_i hd;cases k with
  |zero=>exact wC hd
  |succ k=>exact dW h k
  cases h
def BY(l:List Int):Cg:=match Xw6 l with
 |true=>λ_=>0
 |false=>UE l
def fE:List AV->List AV×List Int
 |[]=>([],[])
 |a::l=>match qZ (a::l) with
  |some r=>([],r)
  |none=>match fE l with
   |(p,r)=>(a::p,r)
theorem OU: ∀(l:List AV),l=(fE l).1++HY (fE l).2.length (UE (fE l).2)
 |[]=>rfl
 |a::l=>by
  unfold fE;split;rename_i r I;exact fY I;have:=OU l;simp only [List.cons_append];rw [←this]
theorem Wm2(r:List Int):BY r=UE r:=by
 unfold BY;split;rename_i hz;exact (funext (dW hz)).symm;rfl
def MY(z:Bool)(T:TypeId)(l:List AV):GU:=match fE l with
 |(pre,r)=>match Nat.ble 6 r.length with
  |true=> .ints T pre r.length (match z with|true=>BY r|false=>UE r)
  |false=> .cells T l
theorem boxRes_holds{e:UP}{w:World}{id:Nat}{z:Bool}{T:TypeId}{l:List AV}(h:GM e w id (.cells T l)):GM e w id (MY z T l):=by
 unfold MY;split;rename_i pre r hs;split;have:=OU l;rw [hs] at this;rw [this] at h;cases z with
 |true=>simp only;rw [Wm2];exact h
 |false=>exact h
 exact h
theorem nH{e:UP}{B:Nat}{w:World}{m:HA}{id:Nat}{val:AV}{z:Bool}{T:TypeId}{l:List AV}{v:Value}{w':World}(h:LY e B w m id val (some (.cells T l)) v w'):LY e B w m id val (some (MY z T l)) v w':=by
 obtain ⟨e',h1,h2,h3,h4,h5,h6,h7,h8⟩:=h;refine ⟨e',h1,h2,h3,h4,h5,λp hp=>?_,h7,h8⟩;rcases GT.1 hp with rfl|hp;exact boxRes_holds (h6 (id,.cells T l) GN);exact h6 p (D1 _ hp)
def VQ(n:Int):Prop:= -9223372036854775808<=n/\n<=9223372036854775807
theorem BI{n:Int}(h:VQ n):IntKind.i64.wrap n=n:=IntWalk.i64_in n h
def AV.cellsOf:AV->Option (List AV)
 | .agg l=>some l
 | .x v=>some (v.cells.toList.map .x)
 | .lit b=>some [.lit b]
 | .fn f a b=>some [.fn f a b]
 | .ptr a b=>some [.ptr a b]
 | .row a=>some [.row a]
 | .elt a b c d=>some [.elt a b c d]
 | .ro l=>some [.ro l]
 | .lst a b c=>some [.lst a b c]
 | .mp a=>some [.mp a]
 | .roI a b c d=>some [.roI a b c d]
 | .mpr a b=>some [.mpr a b]
 | .any1=>some [.any1]
 | .top=>none
 | .tup _=>none
theorem U8.one{e:UP}{w:World}{a:AV}{v:Value}(h:Rep e w a v):U8 e w [a] [v]:=U8.cons h (U8.nil e w)
theorem U8.xs(e:UP)(w:World)(vs:List Value):U8 e w (vs.map .x) vs:=by
 induction vs with
 |nil=>exact U8.nil e w
 |cons v vs ih=>exact U8.cons (.x v) ih
section
variable {e:UP}{w:World}{a:AV}
theorem wZ{v:Value}{l:List AV}(hc:a.cellsOf=some l)(h:Rep e w a v):U8 e w l v.cells.toList:=by
 cases h with
 |top v=>simp [AV.cellsOf] at hc
 |lit b=>simp [AV.cellsOf] at hc;subst hc;exact U8.one (.lit b)
 |x v=>simp [AV.cellsOf] at hc;subst hc;exact U8.xs e w _
 |agg l' vs h1 h2=>simp [AV.cellsOf] at hc;subst hc;exact ⟨h1,h2⟩
 |tup l' vs h1 h2=>simp [AV.cellsOf] at hc
 |fn f l1 l2 vs vs' h1 h2 h3 h4=>simp [AV.cellsOf] at hc;subst hc;exact U8.one (.fn f l1 l2 vs vs' h1 h2 h3 h4)
 |ptr id off h1=>simp [AV.cellsOf] at hc;subst hc;exact U8.one (.ptr id off h1)
 |row id a n c h1 h2=>simp [AV.cellsOf] at hc;subst hc;exact U8.one (.row id a n c h1 h2)
 |roI pre n f off b o h=>simp [AV.cellsOf] at hc;subst hc;exact U8.one (.roI pre n f off b o h)
 |elt id sz i j b n cap h1 h2=>simp [AV.cellsOf] at hc;subst hc;exact U8.one (.elt id sz i j b n cap h1 h2)
 |ro l' vs b o h1 h2 h3 h4 h5 h6=>simp [AV.cellsOf] at hc;subst hc;exact U8.one (.ro l' vs b o h1 h2 h3 h4 h5 h6)
 |lstNil sz f=>simp [AV.cellsOf] at hc;subst hc;exact U8.one (.lstNil sz f)
 |lst sz n f b o cap g h1 h2 h3 h4 h5 h6 h7 h8 ad had=>simp [AV.cellsOf] at hc;subst hc;exact U8.one (.lst sz n f b o cap g h1 h2 h3 h4 h5 h6 h7 h8 ad had)
 |mp id h1=>simp [AV.cellsOf] at hc;subst hc;exact U8.one (.mp id h1)
 |mpr g okf vals b es c h1 h2 h3 h4 h5 h6 h7 h8=>simp [AV.cellsOf] at hc;subst hc;exact U8.one (.mpr g okf vals b es c h1 h2 h3 h4 h5 h6 h7 h8)
 |any1 v A=>
  simp [AV.cellsOf] at hc;subst hc;have:v.cells.toList=[v]:=by cases v<;>first|rfl|(simp [Value.oneCell'] at A)
  rw [this];exact U8.one (.any1 v A)
def AV.one:AV->Bool
 | .x v=>v.oneCell'
 | .lit _| .fn .. | .ptr .. | .row _| .elt .. | .ro _| .lst .. | .mp _| .roI .. | .mpr .. | .any1=>true
 | .top| .agg _| .tup _=>false
theorem C2{v:Value}(ho:a.one=true)(h:Rep e w a v):v.oneCell'=true:=by
 cases h<;>first|(simp [AV.one] at ho;done)|rfl|assumption|(simpa [AV.one] using ho)
end
section
variable {P:Program}
def ldL(P:Program)(t:TypeId)(l:List AV):Option AV:=
 match P.underlying t,P.info? t with
 |some (.struct _),some i=>match Nat.ble i.size l.length with|true=>some (.agg (l.take i.size))|false=>none
 |some (.array _ _),some i=>match Nat.ble i.size l.length with|true=>some (.agg (l.take i.size))|false=>none
 |some _,some _=>l.head?
 |_,_=>none
theorem Qa4{w:World}{b o:Nat}{vs:List Value}(hc: ∀(j:Nat) (v:Value),vs[j]? =some v->w.cell? ⟨b,o+j,none⟩=some v)(k:Nat):
  ∀(j:Nat) (v:Value),(vs.take k)[j]? =some v->w.cell? ((⟨b,o,none⟩:Addr).add j)=some v:=by
 intro j v hj;rw [List.getElem?_take] at hj;split at hj;have:=hc j v hj;have Z:(⟨b,o,none⟩:Addr).add j=⟨b,o+j,none⟩:=by unfold Addr.add;split<;>simp_all
 rw [Z];exact this;cases hj
theorem DX{e:UP}{w:World}{t:TypeId}{l:List AV}{vs:List Value}{a:AV}{b o:Nat}(h:ldL P t l=some a)(I:U8 e w l vs)
  (hc: ∀(j:Nat) (v:Value),vs[j]? =some v->w.cell? ⟨b,o+j,none⟩=some v): ∃v,(loadVar t ⟨b,o,none⟩).run P w= .ok v w/\Rep e w a v:=by
 have agg: ∀i:TypeInfo,P.info? t=some i->(isAgg t).run P w= .ok true w->i.size<=l.length->a= .agg (l.take i.size)-> ∃v,(loadVar t ⟨b,o,none⟩).run P w= .ok v w/\Rep e w a v:=by
  intro i O hg hsz Z;subst Z;have D5:(vs.take i.size).length=i.size:=by rw [List.length_take,←I.1];omega
  have hl:=run_loadCells_list (P:=P) (w:=w) ⟨b,o,none⟩ (vs.take i.size) (Qa4 hc i.size);rw [D5] at hl;refine ⟨.agg (vs.take i.size).toArray,?_,Rep.aggL (I.take _)⟩;simp [loadVar,hg,sizeOf,typeInfo,O,hl]
 have flat:(isAgg t).run P w= .ok false w->l.head?=some a-> ∃v,(loadVar t ⟨b,o,none⟩).run P w= .ok v w/\Rep e w a v:=by
  intro hg hd;obtain ⟨v,A,GS⟩:=I.get (i:=0) (a:=a) (by rw [←List.head?_eq_getElem?];exact hd)
  refine ⟨v,?_,GS⟩;have:=hc 0 v A;simp only [Bg] at this;simp [loadVar,hg,this]
 unfold ldL at h;cases W:P.underlying t with
 |none=>rw [W] at h;simp at h
 |some d=>
  cases O:P.info? t with
  |none=>rw [W,O] at h;cases d<;>simp at h
  |some i=>
   rw [W,O] at h;cases d with
   |struct fs=>
    simp only at h;split at h;rename_i hb;exact agg i O (by simp [isAgg,run_underlying W]) (wD hb) (by cases h;rfl)
    cases h
   |array n el=>
    simp only at h;split at h;rename_i hb;exact agg i O (by simp [isAgg,run_underlying W]) (wD hb) (by cases h;rfl)
    cases h
   |_=>exact flat (by simp [isAgg,run_underlying W]) h
def l8(P:Program)(t:TypeId)(l:List AV)(off:Nat):Option AV:=
 match P.underlying t,P.info? t with
 |some (.struct _),some i=>match Nat.ble (off+i.size) l.length with|true=>some (.agg ((l.drop off).take i.size))|false=>none
 |some (.array _ _),some i=>match Nat.ble (off+i.size) l.length with|true=>some (.agg ((l.drop off).take i.size))|false=>none
 |some _,some _=>l[off]?
 |_,_=>none
theorem E3{e:UP}{w:World}{t:TypeId}{l:List AV}{vs:List Value}{a:AV}{off:Nat}(h:l8 P t l off=some a)(I:U8 e w l vs):
  ∃v,(part t vs.toArray off).run P w= .ok v w/\Rep e w a v:=by
 have agg: ∀i:TypeInfo,P.info? t=some i->(isAgg t).run P w= .ok true w->a= .agg ((l.drop off).take i.size)-> ∃v,(part t vs.toArray off).run P w= .ok v w/\Rep e w a v:=by
  intro i O hg Z;subst Z;refine ⟨.agg ((vs.drop off).take i.size).toArray,?_,Rep.aggL ((I.drop off).take _)⟩;simp [part,hg,sizeOf,typeInfo,O]
 unfold l8 at h;cases W:P.underlying t with
 |none=>rw [W] at h;simp at h
 |some d=>
  cases O:P.info? t with
  |none=>rw [W,O] at h;cases d<;>simp at h
  |some i=>
   rw [W,O] at h;cases d with
   |struct fs=>
    simp only at h;split at h;exact agg i O (by simp [isAgg,run_underlying W]) (by cases h;rfl)
    cases h
   |array n el=>
    simp only at h;split at h;exact agg i O (by simp [isAgg,run_underlying W]) (by cases h;rfl)
    cases h
   |_=>
    obtain ⟨v,A,GS⟩:=I.get h;exact ⟨v,by simp [part,isAgg,run_underlying W,A],GS⟩
end
section
variable {P:Program}
def vU(a:Option AV):Option Out:=match a with|some r=>some ([],r,none)|none=>none
theorem RL{a:Option AV}{ns:List Prop}{r:AV}{add:Option GU}(h:vU a=some (ns,r,add)):a=some r/\ns=[]/\add=none:=by
 cases a with
 |none=>simp [vU] at h
 |some x=>simp only [vU,HL,FI] at h;obtain ⟨rfl,rfl,rfl⟩:=h;exact ⟨rfl,rfl,rfl⟩
theorem DI(b o j:Nat):(⟨b,o,none⟩:Addr).add j=⟨b,o+j,none⟩:=by unfold Addr.add;split<;>simp_all
def IP:List AV->Option (Nat×List (Nat×(Ci)))
 |[]=>none
 | .lst sz n f::t=>match t with
  |[]=>some (sz,[(n,f)])
  |_::_=>match IP t with
   |some (sz',r)=>match Nat.beq sz sz' with
    |true=>some (sz,(n,f)::r)
    |false=>none
   |none=>none
 |_=>none
section
variable (l:List (Nat×(Ci)))(i:Nat)
def Zs7:Nat:=(l.getD i (0,λ_=>[])).1
def Zs8:Ci:=(l.getD i (0,λ_=>[])).2
end
theorem SD: ∀{l:List AV} {sz:Nat} {r:List (Nat×(Ci))},IP l=some (sz,r)-> ∀i,i<l.length->l[i]? =some (.lst sz (Zs7 r i) (Zs8 r i))
 |[],_,_,h,_,_=>by simp [IP] at h
 |a::t,sz,r,h,i,O=>by
  cases a with
  |lst sz1 n f=>
   cases t with
   |nil=>
    simp only [IP,HL,FI] at h;obtain ⟨rfl,rfl⟩:=h;have:i=0:=by simp at O;omega
    subst this;rfl
   |cons b t=>
    simp only [IP] at h;split at h;rename_i sz' r' I;split at h;rename_i hb;have:=H5 hb;subst this;simp only [HL,FI] at h;obtain ⟨rfl,rfl⟩:=h;cases i with
    |zero=>rfl
    |succ i=>
     have:=SD I i (by simpa using O)
     simpa [Zs7,Zs8] using this
    cases h;cases h
  |_=>simp [IP] at h
def Zc5(P:Program)(t:TypeId)(l:List AV):Option (Nat×List (Nat×(Ci))):=
 match P.underlying t with
 |some (.slice _)=>match l with
  |_::_::_=>IP l
  |_=>none
 |_=>none
def LI:AV->Option Bool
 | .lit b=>some b
 | .x (.bool b)=>some b
 |_=>none
theorem BE{e:UP}{w:World}{a:AV}{v:Value}{b:Bool}(h:LI a=some b)(r:Rep e w a v):v= .bool b:=by
 cases r with
 |lit b'=>simp [LI] at h;rw [h]
 |x v=>cases v<;>simp [LI] at h;rw [h]
 |_=>simp [LI] at h
def rH:List AV->Option (List Bool)
 |[]=>some []
 |a::t=>match LI a with
  |some b=>match rH t with
   |some r=>some (b::r)
   |none=>none
  |none=>none
theorem gA: ∀{l:List AV} {r:List Bool},rH l=some r->l.length=r.length/\ ∀i a,l[i]? =some a->LI a=some (r.getD i false)
 |[],r,h=>by
  simp only [rH,HL] at h;subst h;exact ⟨rfl,λi a h=>by simp at h⟩
 |a::t,r,h=>by
  unfold rH at h;split at h;rename_i b hb;split at h;rename_i r' I;cases h;obtain ⟨h1,h2⟩:=gA I;refine ⟨by simp [h1],λi c hc=>?_⟩
  cases i with
  |zero=>simp at hc;subst hc;simpa using hb
  |succ i=>simpa using h2 i c (by simpa using hc)
  cases h;cases h
def cF(P:Program)(t:TypeId)(l:List AV):Option (List Bool):=
 match l with
 |a::_::_=>match LI a with
  |some _=>match P.underlying t with
   |some .bool=>rH l
   |_=>none
  |none=>none
 |_=>none
theorem MZ{P:Program}{t:TypeId}{l:List AV}{r:List Bool}(h:cF P t l=some r):rH l=some r/\P.underlying t=some .bool:=by
 unfold cF at h;split at h;split at h;split at h;rename_i W;exact ⟨h,W⟩;cases h;cases h;cases h
def A1(off:Nat)(v:Bool):List Bool->Nat->List AV
 |[],_=>[]
 |b::t,k=> .x (.bool (if k=off then v else b))::A1 off v t (k+1)
theorem gO(off:Nat)(v:Bool): ∀(l:List Bool) (k:Nat),(A1 off v l k).length=l.length
 |[],_=>rfl
 |_::t,k=>by simp [A1,gO off v t]
theorem OZ(off:Nat)(v:Bool): ∀(l:List Bool) (k i:Nat) (a:AV),(A1 off v l k)[i]? =some a->a= .x (.bool (if k+i=off then v else l.getD i false))
 |[],_,i,a,h=>by simp [A1] at h
 |b::t,k,0,a,h=>by
  simp [A1] at h;simp [←h]
 |b::t,k,i+1,a,h=>by
  simp only [A1,List.getElem?_cons_succ] at h;rw [OZ off v t (k+1) i a h];simp [show k+1+i=k+(i+1) by omega]
def xO:Nat->List AV->Nat
 |q,[]=>q
 |q,_::l=>xO (q-1) l
theorem wH: ∀(l:List AV) (q:Nat),xO q l=q-l.length
 |[],q=>rfl
 |_::l,q=>by simp only [xO,wH l,Bj];omega
def ldI(P:Program)(t:TypeId)(pre:List AV)(n:Nat)(f:Cg)(off:Nat):Option Out:=
 match Nat.ble (off+1) pre.length with
 |true=>vU (ldL P t ((pre++HY n f).drop off))
 |false=>match P.underlying t,P.info? t with
  |some (.struct _),some i=>some ([xO off pre+i.size<=n],.agg ((List.range i.size).map λj=> .x (.int .i64 (f (xO off pre+j)))),none)
  |some (.array _ _),some i=>some ([xO off pre+i.size<=n],.agg ((List.range i.size).map λj=> .x (.int .i64 (f (xO off pre+j)))),none)
  |some _,some _=>some ([xO off pre<n],.x (.int .i64 (f (xO off pre))),none)
  |_,_=>none
theorem yY{n:Nat}{f:Cg}{k:Nat}(h:k<n):(HY n f)[k]? =some (.x (.int .i64 (f k))):=by simp [HY,h]
theorem LU(n:Nat)(f:Cg):(HY n f).length=n:=by simp [HY]
theorem Wn9{t:TypeId}{pre:List AV}{n:Nat}{f:Cg}{off:Nat}{ns:List Prop}{val:AV}{add:Option GU}(h:ldI P t pre n f off=some (ns,val,add))(hn: ∀p∈ns,p):
  add=none/\ldL P t ((pre++HY n f).drop off)=some val:=by
 unfold ldI at h;split at h;obtain ⟨h1,_,h2⟩:=RL h;exact ⟨h2,h1⟩;rename_i hb;have hle:pre.length<=off:=by
  rcases An off pre.length with h'|h';rw [Nat.ble_eq_true_of_le h'] at hb;cases hb;exact h'
 have hd: ∀j,((pre++HY n f).drop off)[j]? =(HY n f)[xO off pre+j]? :=by
  intro j;rw [List.getElem?_drop,Ce,if_neg VO,wH]
  congr 1
  omega
 have agg: ∀sz,xO off pre+sz<=n->((pre++HY n f).drop off).take sz=(List.range sz).map λj=> .x (.int .i64 (f (xO off pre+j))):=by
  intro sz hsz;apply List.ext_getElem?;intro j;rw [List.getElem?_take];by_cases hj:j<sz;rw [if_pos hj,hd,yY VO];simp [hj];rw [if_neg hj];simp [hj]
 have D5:((pre++HY n f).drop off).length=n-xO off pre:=by
  rw [List.length_drop,Be,LU,wH];omega
 split at h;rename_i fs i W O;simp only [HL,FI] at h;obtain ⟨rfl,rfl,rfl⟩:=h;have hsz:xO off pre+i.size<=n:=hn _ VY;refine ⟨rfl,?_⟩;unfold ldL;rw [W,O];simp only;rw [Nat.ble_eq_true_of_le (by rw [D5];omega),←agg _ hsz]
 rename_i k el i W O;simp only [HL,FI] at h;obtain ⟨rfl,rfl,rfl⟩:=h;have hsz:xO off pre+i.size<=n:=hn _ VY;refine ⟨rfl,?_⟩;unfold ldL;rw [W,O];simp only;rw [Nat.ble_eq_true_of_le (by rw [D5];omega),←agg _ hsz]
 rename_i u i h1 h2 W O;simp only [HL,FI] at h;obtain ⟨rfl,rfl,rfl⟩:=h;have hlt:xO off pre<n:=hn _ VY;refine ⟨rfl,?_⟩;unfold ldL;rw [W,O];have hh:((pre++HY n f).drop off).head?=some (.x (.int .i64 (f (xO off pre)))):=by
  rw [List.head?_eq_getElem?,hd,Bg,yY hlt]
 split;rename_i fs _ he _;cases he;exact absurd rfl (h1 _);rename_i k el _ he _;cases he;exact absurd rfl (h2 _ _);exact hh;rename_i hno;exact (hno _ _ rfl rfl).elim;cases h
def BW(P:Program)(m:HA)(t:TypeId):AV->Option Out
 | .ptr id off=>match DN m id with
  |some (.cells _ l)=>match Zc5 P t l with
   |some (sz,r)=>some ([off<l.length],.lst sz (Zs7 r off) (Zs8 r off),none)
   |none=>match cF P t l with
    |some bs=>some ([off<bs.length],.x (.bool (bs.getD off false)),none)
    |none=>vU (ldL P t (l.drop off))
  |some (.ints _ pre n f)=>ldI P t pre n f off
  |some (.keep _ l)=>vU (ldL P t (l.drop off))
  |_=>none
 | .roI pre n f off=>ldI P t pre n f off
 | .ro l=>vU (ldL P t l)
 | .elt id sz i j=>match DN m id with
  |some (.row _ sz' n f)=>match Nat.beq sz sz' with
   |true=>match ldL P t ((f i).drop j) with
    |some r=>some ([i<n],r,none)
    |none=>none
   |false=>none
  |_=>none
 |_=>none
theorem BD{w:World}{b:Nat}{vs:List Value}{o:Nat}(hc: ∀(j:Nat) (v:Value),vs[j]? =some v->w.cell? ⟨b,o+j,none⟩=some v)(k:Nat):
  ∀(j:Nat) (v:Value),(vs.drop k)[j]? =some v->w.cell? ⟨b,o+k+j,none⟩=some v:=by
 intro j v hj;rw [List.getElem?_drop] at hj;have:=hc _ _ hj
 rwa [Ba]
theorem kP{e:UP}{w:World}{m:HA}{t:TypeId}{a:AV}{v:Value}{ns:List Prop}{val:AV}{add:Option GU}(h:BW P m t a=some (ns,val,add))(hn: ∀p∈ns,p)
  (hm:G5 e m w)(ra:Rep e w a v):add=none/\ ∃ad u,v= .pointer (some ad)/\(loadVar t ad).run P w= .ok u w/\Rep e w val u:=by
 cases ra with
 |ptr k off hl=>
  simp only [BW] at h;split at h;rename_i T l hg;obtain ⟨_,_,vs,h3,h4⟩:=hm _ (GA hg);have hc: ∀(j:Nat) (v:Value),vs[j]? =some v->w.cell? ⟨e.blk k,0+j,none⟩=some v:=by
   intro j v hj;simp [World.cell?,h3,hj]
  split at h;rename_i sz r hlt;simp only [HL,FI] at h;obtain ⟨rfl,rfl,rfl⟩:=h;have D5:off<l.length:=hn _ VY;unfold Zc5 at hlt;split at hlt;rename_i el W;split at hlt;obtain ⟨v,A,I⟩:=h4.get (SD hlt off D5);refine ⟨rfl,_,v,rfl,?_,I⟩;have:=hc off v A;simp only [Ap] at this;simp [loadVar,isAgg,run_underlying W,this];cases hlt;cases hlt;split at h;rename_i bs hbs;simp only [HL,FI] at h;obtain ⟨rfl,rfl,rfl⟩:=h;obtain ⟨hbl,W⟩:=MZ hbs;obtain ⟨D5,Qw1⟩:=gA hbl;have bP:off<l.length:=by rw [D5];exact hn _ VY
  obtain ⟨v,A,I⟩:=h4.get (D8 bP);have hbv:=BE (Qw1 off _ (D8 bP)) I;subst hbv;refine ⟨rfl,_,_,rfl,?_,.x _⟩;have:=hc off _ A;simp only [Ap] at this;simp [loadVar,isAgg,run_underlying W,this];obtain ⟨h1,rfl,rfl⟩:=RL h;obtain ⟨u,W,I⟩:=DX (P:=P) h1 (h4.drop off) (BD hc off);simp only [Ap] at W;exact ⟨rfl,_,u,rfl,W,I⟩;rename_i T pre n f hg;obtain ⟨_,_,vs,h3,h4⟩:=hm _ (GA hg);have hc: ∀(j:Nat) (v:Value),vs[j]? =some v->w.cell? ⟨e.blk k,0+j,none⟩=some v:=by
   intro j v hj;simp [World.cell?,h3,hj]
  obtain ⟨rfl,h1⟩:=Wn9 h hn;obtain ⟨u,W,I⟩:=DX (P:=P) h1 (h4.drop off) (BD hc off);simp only [Ap] at W;exact ⟨rfl,_,u,rfl,W,I⟩;rename_i T l hg;obtain ⟨_,_,_,vs,h3,h4⟩:=hm _ (GA hg);have hc: ∀(j:Nat) (v:Value),vs[j]? =some v->w.cell? ⟨e.blk k,0+j,none⟩=some v:=by
   intro j v hj;simp [World.cell?,h3,hj]
  obtain ⟨h1,rfl,rfl⟩:=RL h;obtain ⟨u,W,I⟩:=DX (P:=P) h1 (h4.drop off) (BD hc off);simp only [Ap] at W;exact ⟨rfl,_,u,rfl,W,I⟩;cases h
 |roI pre n f off b o hr0=>
  simp only [BW] at h;obtain ⟨rfl,h1⟩:=Wn9 h hn;cases hr0 with
  |ro l vs _ _ g1 g2 hf g3 g4 g5=>
   obtain ⟨u,W,I⟩:=DX (P:=P) h1 (U8.drop (⟨g3,g5⟩:U8 e w _ vs) off) (BD g4 off);exact ⟨rfl,_,u,rfl,W,I⟩
 |ro l vs b o h1 h2 hf h3 h4 h5=>
  simp only [BW] at h;obtain ⟨k1,rfl,rfl⟩:=RL h;obtain ⟨u,W,I⟩:=DX (P:=P) k1 (⟨h3,h5⟩:U8 e w l vs) h4;exact ⟨rfl,_,u,rfl,W,I⟩
 |elt k sz i j b n cap hl A=>
  simp only [BW] at h;split at h;rename_i T sz' n' f hg;split at h;rename_i hs;have hs':sz=sz':=H5 hs;subst hs';split at h;rename_i r I;simp only [HL,FI] at h;obtain ⟨rfl,rfl,rfl⟩:=h;have O:i<n':=hn _ VY;obtain ⟨_,_,hf,xs,hx,GS⟩:=hm _ (GA hg);have F3: ∀(q:Nat) (u:Value),xs[q]? =some u->w.cell? ⟨b,q,none⟩=some u:=by
   intro q u hq;have:=hx.cells (g:=b) (by rw [A];rfl) q u hq
   rwa [DI,Ap] at this
  have hxl:xs.length=n'*sz:=hx.1;have hle:i*sz+sz<=n'*sz:=by
   have:=BS sz (Az O)
   rwa [Bq] at this
  have hR:U8 e w (f i) ((xs.drop (i*sz)).take sz):=by
   refine ⟨by rw [(hf i O).1,List.length_take,List.length_drop,hxl];omega,λq a v Z hv'=>?_⟩
   rw [List.getElem?_take] at hv';split at hv';rw [List.getElem?_drop] at hv';exact GS i q a v O Z hv';cases hv'
  have hc: ∀(q:Nat) (u:Value),((xs.drop (i*sz)).take sz)[q]? =some u->w.cell? ⟨b,i*sz+q,none⟩=some u:=by
   intro q u hq;rw [List.getElem?_take] at hq;split at hq;rw [List.getElem?_drop] at hq;exact F3 _ _ hq;cases hq
  obtain ⟨u,W,hr'⟩:=DX (P:=P) I (hR.drop j) (BD hc j);exact ⟨rfl,_,u,rfl,W,hr'⟩;cases h;cases h;cases h
 |_=>simp [BW] at h
theorem aX{e:UP}{B:Nat}{w:World}{m:HA}{id:Nat}{t:TypeId}{a:AV}{v:Value}{ns:List Prop}{val:AV}{add:Option GU}(h:BW P m t a=some (ns,val,add))(hn: ∀p∈ns,p)
  (hE:GB e B w)(hm:G5 e m w)(ra:Rep e w a v): ∃u w',(Instr.loadAt t v).run P w= .ok u w'/\LY e B w m id val add u w':=by
 obtain ⟨rfl,ad,u,rfl,W,I⟩:=kP h hn hm ra;exact ⟨u,w,by simp [Instr.loadAt,Instr.sureAddr,W],UQ hE hm I⟩
def C1(P:Program)(t:TypeId)(k:Nat):AV->Option Out
 | .agg l=>match P.underlying t with
  |some (.struct fs)=>match fs[k]? with
   |some f=>vU (l8 P f.type l f.offset)
   |none=>none
  |_=>none
 |_=>none
theorem O5{e:UP}{B:Nat}{w:World}{m:HA}{id:Nat}{t:TypeId}{k:Nat}{a:AV}{v:Value}{ns:List Prop}{val:AV}{add:Option GU}(h:C1 P t k a=some (ns,val,add))
  (hE:GB e B w)(hm:G5 e m w)(ra:Rep e w a v): ∃u w',(Instr.field t v k).run P w= .ok u w'/\LY e B w m id val add u w':=by
 cases ra with
 |agg l vs h1 h2=>
  simp only [C1] at h;split at h;rename_i fs W;split at h;rename_i f hf;obtain ⟨k1,rfl,rfl⟩:=RL h;obtain ⟨u,hu',I⟩:=E3 (P:=P) k1 (⟨h1,h2⟩:U8 e w l vs);exact ⟨u,w,by simp [Instr.field,run_underlying W,hf,asAgg,hu'],UQ hE hm I⟩
  cases h;cases h
 |_=>simp [C1] at h
def qS(off:Nat):AV->Option AV
 | .ptr id o=>some (.ptr id (o+off))
 | .ro l=>match Nat.ble off l.length with
  |true=>some (.ro (l.drop off))
  |false=>none
 | .elt id sz i j=>some (.elt id sz i (j+off))
 | .roI pre n f o=>some (.roI pre n f (o+off))
 |_=>none
theorem uE{e:UP}{w:World}{off:Nat}{a r:AV}{v:Value}(h:qS off a=some r)(ra:Rep e w a v): ∃ad:Addr,v= .pointer (some ad)/\Rep e w r (.pointer (some (ad.add off))):=by
 cases ra with
 |ptr id o hl=>simp only [qS,HL] at h;subst h;exact ⟨_,rfl,by rw [DI];exact .ptr id (o+off) hl⟩
 |elt id sz i j b n cap hl A=>
  simp only [qS,HL] at h;subst h;exact ⟨_,rfl,by rw [DI,Ba];exact .elt id sz i (j+off) b n cap hl A⟩
 |roI pre n f o b o0 hr0=>
  simp only [qS,HL] at h;subst h;exact ⟨_,rfl,by rw [DI,Ba];exact .roI pre n f (o+off) b o0 hr0⟩
 |ro l vs b o h1 h2 hf h3 h4 h5=>
  simp only [qS] at h;split at h;cases h;refine ⟨_,rfl,?_⟩;rw [DI];exact .ro _ (vs.drop off) b (o+off) h1 h2 (λa Z=>hf a (List.mem_of_mem_drop Z)) (by simp [h3]) (BD h4 off) (U8.drop (⟨h3,h5⟩:U8 e w l vs) off).2
  cases h
 |_=>simp [qS] at h
def isI(m:HA):AV->Bool
 | .roI _ _ _ _=>true
 | .ptr id _=>match DN m id with
  |some (.ints _ _ _ _)=>true
  |_=>false
 |_=>false
def Zu5(m:HA)(off:Nat)(a:AV):Option AV:=match isI m a with
 |true=>match a with
  | .roI pre n f o=>some (.roI pre n f (off+o))
  | .ptr id o=>some (.ptr id (off+o))
  |_=>none
 |false=>qS off a
theorem Xq4{m:HA}{off:Nat}{a r:AV}(h:Zu5 m off a=some r):qS off a=some r:=by
 unfold Zu5 at h;split at h;split at h;cases h;simp only [qS];rw [Bh];cases h;simp only [qS];rw [Bh];cases h;exact h
def wP(P:Program)(t:TypeId)(k:Nat)(a:AV):Option Out:=
 match P.underlying t with
 |some (.struct fs)=>match fs[k]? with
  |some f=>match P.info? f.type with
   |some i=>match i.size with
    | 0=>none
    |_+1=>vU (qS f.offset a)
   |none=>none
  |none=>none
 |_=>none
theorem d7{e:UP}{B:Nat}{w:World}{m:HA}{id:Nat}{t:TypeId}{k:Nat}{a:AV}{v:Value}{ns:List Prop}{val:AV}{add:Option GU}(h:wP P t k a=some (ns,val,add))
  (hE:GB e B w)(hm:G5 e m w)(ra:Rep e w a v): ∃u w',(Instr.fieldAt t v k).run P w= .ok u w'/\LY e B w m id val add u w':=by
 unfold wP at h;split at h;rename_i fs W;split at h;rename_i f hf;split at h;rename_i i O;split at h;cases h;rename_i s hs;obtain ⟨k1,rfl,rfl⟩:=RL h;obtain ⟨ad,rfl,I⟩:=uE k1 ra;exact ⟨_,w,by simp [Instr.fieldAt,run_underlying W,hf,Instr.sureAddr,fieldPlace,sizeOf,typeInfo,O,hs],UQ hE hm I⟩
 cases h;cases h;cases h
def kQ(P:Program)(m:HA)(t:TypeId)(a ix:AV):Option Out:=
 match ix with
 | .x (.int _ i)=>match P.underlying t with
  |some (.slice el)=>match P.info? el with
   |some info=>match a with
    | .lst sz n f=>match Nat.beq info.size sz with
     |true=>some ([0<=i/\i<(n:Int)],.ro (f i.toNat),none)
     |false=>none
    | .row id=>match DN m id with
     |some (.row _ sz n _)=>match Nat.beq info.size sz with
      |true=>some ([0<=i/\i<(n:Int)],.elt id sz i.toNat 0,none)
      |false=>none
     |_=>none
    |_=>none
   |none=>none
  |some (.array n el)=>match P.info? el with
   |some info=>match Zu5 m (i.toNat*info.size) a with
    |some r=>some ([0<=i/\i<(n:Int)],r,none)
    |none=>none
   |none=>none
  |_=>none
 |_=>none
theorem Xt7{t el:TypeId}(W:P.underlying t=some (.slice el)):P.elem t=el:=by simp [Program.elem,W]
theorem d6{e:UP}{B:Nat}{w:World}{m:HA}{id:Nat}{t:TypeId}{a ix:AV}{v vi:Value}{ns:List Prop}{val:AV}{add:Option GU}(h:kQ P m t a ix=some (ns,val,add))(hn: ∀p∈ns,p)
  (hE:GB e B w)(hm:G5 e m w)(ra:Rep e w a v)(ri:Rep e w ix vi): ∃u w',(Instr.indexAt t v vi).run P w= .ok u w'/\LY e B w m id val add u w':=by
 unfold kQ at h;split at h;rename_i k i;cases ri.x_inv;split at h;rename_i el W;have hel:=Xt7 W;split at h;rename_i info O;split at h;rename_i sz n f;split at h;rename_i hs;have hs':info.size=sz:=H5 hs;subst hs';simp only [HL,FI] at h;obtain ⟨rfl,rfl,rfl⟩:=h;have hb:0<=i/\i<(n:Int):=hn _ VY;cases ra with
 |lstNil sz f=>omega
 |lst sz n f b o cap g h1 h2 hid h3 h3' h4 h5 h6 ad had=>
  have hlt:i.toNat<n:=VO;obtain rfl:=had VO;refine ⟨.pointer (some ⟨b,o+i.toNat*info.size,none⟩),w,?_,UQ hE hm ?_⟩;rw [run_indexAt_slice w t _ n cap k i (by rw [hel];exact W),if_pos hb]
  simp [sizeOf,typeInfo,hel,O,DI];refine .ro _ ((List.range info.size).map (g i.toNat)) b _ (h1 VO) (h2 VO) (hid _ hlt) (by simp [h5 _ hlt]) ?_ ?_
  intro j u hj;simp only [Bn,Ay] at hj;obtain ⟨q,hq,rfl⟩:=hj;obtain ⟨hq1,hq2⟩:=RA.1 hq;simp at hq1 hq2;subst hq2;rw [Ba];exact h4 _ _ hlt hq1;intro j a u Z hj;simp only [Bn,Ay] at hj;obtain ⟨q,hq,rfl⟩:=hj;obtain ⟨hq1,hq2⟩:=RA.1 hq;simp at hq1 hq2;subst hq2;exact h6 _ _ _ hlt Z
 cases h;rename_i k';split at h;rename_i T sz n f hg;split at h;rename_i hs;have hs':info.size=sz:=H5 hs;subst hs';simp only [HL,FI] at h;obtain ⟨rfl,rfl,rfl⟩:=h;have hb:0<=i/\i<(n:Int):=hn _ VY;obtain ⟨hlv,HD,hf,xs,hx,GS⟩:=hm _ (GA hg);cases ra with
 |row _ a n' c hl A=>
  rcases hx.2 with ⟨hv0,hn0⟩|⟨g,cap,cur,hv0,_,_⟩;omega;rw [A] at hv0;cases hv0;refine ⟨.pointer (some ⟨g,i.toNat*info.size+0,none⟩),w,?_,UQ hE hm (.elt _ _ _ _ g _ _ hl A)⟩;rw [run_indexAt_slice w t _ _ _ k i (by rw [hel];exact W),if_pos hb]
  simp [sizeOf,typeInfo,hel,O,DI]
 cases h;cases h;cases h;cases h;rename_i n el W;split at h;rename_i info O;split at h;rename_i r I;simp only [HL,FI] at h;obtain ⟨rfl,rfl,rfl⟩:=h;have hb:0<=i/\i<(n:Int):=hn _ VY;obtain ⟨ad,rfl,GS⟩:=uE (Xq4 I) ra;refine ⟨.pointer (some (ad.add (i.toNat*info.size))),w,?_,UQ hE hm GS⟩;have hel:P.elem t=el:=by simp [Program.elem,W]
 have hal:P.arrayLen t=n:=by simp [Program.arrayLen,W]
 rw [run_indexAt_array w t ad k i (by rw [hel,hal];exact W),hal,if_pos hb]
 simp [sizeOf,typeInfo,hel,O];cases h;cases h;cases h;cases h
end
section
variable {P:Program}
def eqA(P:Program):Nat->TypeId->AV->AV->Option Bool
 | 0,_,_,_=>none
 |d+1,t,a,b=>
  match P.underlying t with
  |some (.int _)=>match a,b with
   | .x (.int k x),.x (.int k' y)=>match decide (k=k') with
    |true=>some (x==y)
    |false=>none
   |_,_=>none
  |some .bool=>match LI a,LI b with
   |some x,some y=>some (x==y)
   |_,_=>none
  |some .string=>match a,b with
   | .x (.string x),.x (.string y)=>some (x.toList==y.toList)
   |_,_=>none
  |some (.struct fs)=>match a,b with
   | .agg xs,.agg ys=>match P.stoodInHeld t with
    |true=>none
    |false=>fs.toList.foldr (λf acc=>match decide (f.name= "_") with
      |true=>acc
      |false=>match l8 P f.type xs f.offset,l8 P f.type ys f.offset with
       |some p,some q=>match eqA P d f.type p q,acc with
        |some r,some s=>some (r&&s)
        |_,_=>none
       |_,_=>none) (some true)
   |_,_=>none
  |_=>none
theorem zG{e:UP}{w:World}: ∀(d:Nat) (t:TypeId) (a b:AV) (va vb:Value) (r:Bool),eqA P d t a b=some r->Rep e w a va->Rep e w b vb->(Op.equalIn d t va vb).run P w= .ok r w
 | 0,_,_,_,_,_,_,h,_,_=>by simp [eqA] at h
 |d+1,t,a,b,va,vb,r,h,ra,rb=>by
  unfold eqA at h;split at h;rename_i k0 W;split at h;rename_i k x k' y;cases ra.x_inv;cases rb.x_inv;split at h;rename_i hk;have hk':k=k':=wC hk;subst hk';cases h;exact run_equalIn_int w d t k k0 x y W;cases h;cases h;rename_i W;split at h;rename_i x y hx hy;cases BE hx ra;cases BE hy rb;cases h;exact run_equalIn_bool' w d t x y W;cases h;rename_i W;split at h;rename_i x y;cases ra.x_inv;cases rb.x_inv;cases h;exact run_equalIn_string w d t x y W;cases h;rename_i fs W;split at h;rename_i xs ys;obtain ⟨vs,rfl,hvs⟩:=ra.agg_inv;obtain ⟨us,rfl,hus⟩:=rb.agg_inv;split at h;cases h;rename_i hst;have hfs:P.fieldsOf t=fs:=by simp [Program.fieldsOf,W]
  rw [run_equalIn_struct w d t _ _ (by rw [hfs];exact W) hst,hfs]
  clear hfs W;generalize fs.toList=l at h
  induction l generalizing r with
  |nil=>simp at h;subst h;rfl
  |cons f l ih=>
   simp only [List.foldr_cons] at h;split at h;rename_i hn;have hn':f.name= "_":=wC hn;simp only [Op.eqFields,hn',ne_eq,not_true_eq_false,if_false];exact ih r h;rename_i hn;have hn':f.name≠ "_":=of_decide_eq_false hn;split at h;rename_i p q hp hq;split at h;rename_i r1 s hr1 hacc;cases h;obtain ⟨v1,hv1,rep1⟩:=E3 (P:=P) hp hvs;obtain ⟨v2,hv2,rep2⟩:=E3 (P:=P) hq hus;have h1:=zG d f.type p q v1 v2 r1 hr1 rep1 rep2;have h2:=ih s hacc;simp only [Op.eqFields,hn',ne_eq,not_false_eq_true,if_true,At,hv1,Au,hv2,h1];cases r1;simp;simp [h2];cases h;cases h
  cases h;cases h
def Ju5(op:BinOp)(a b:Int):Option Bool:=
 match op with
 | .eql=>some (a==b)
 | .neq=>some (a != b)
 | .lss=>some (decide (a<b))
 | .leq=>some (decide (a<=b))
 | .gtr=>some (decide (a>b))
 | .geq=>some (decide (a>=b))
 |_=>none
def Xw1(a b:Int):Int:=IntKind.i64.wrap (BitVec.ofInt 64 a &&& BitVec.ofInt 64 b).toNat
def orI(a b:Int):Int:=IntKind.i64.wrap (BitVec.ofInt 64 a ||| BitVec.ofInt 64 b).toNat
def anI(a b:Int):Int:=IntKind.i64.wrap (BitVec.ofInt 64 a &&& ~~~(BitVec.ofInt 64 b)).toNat
def arI(op:BinOp)(a b:Int):Option (List Prop×Int):=
 match op with
 | .add=>some ([VQ (a+b)],a+b)
 | .sub=>some ([VQ (a-b)],a-b)
 | .mul=>some ([VQ (a*b)],a*b)
 | .quo=>some ([b≠0,VQ (a.tdiv b)],a.tdiv b)
 | .rem=>some ([b≠0],a.tmod b)
 | .and=>some ([],Xw1 a b)
 | .or=>some ([],orI a b)
 | .andNot=>some ([],anI a b)
 | .shl=>some ([0<=b/\b<=64,VQ (a*2^b.toNat)],a*2^b.toNat)
 | .shr=>some ([0<=b/\b<=64],a / 2^b.toNat)
 |_=>none
def shI(op:BinOp)(k:IntKind)(a b:Int):Option (List Prop×Int):=match decide (k= .i64) with
 |true=>match op with
  | .shl=>some ([0<=b/\b<=64,VQ (a*2^b.toNat)],a*2^b.toNat)
  | .shr=>some ([0<=b/\b<=64],a / 2^b.toNat)
  |_=>none
 |false=>match decide (k= .u64) with
  |true=>match op with
   | .shr=>some ([0<=b/\b<=64],a / 2^b.toNat)
   |_=>none
  |false=>none
theorem Qq7{op:BinOp}{k yk:IntKind}{a b r:Int}{t:TypeId}{ns:List Prop}(h:shI op k a b=some (ns,r))(hn: ∀p∈ns,p)(w:World):(binOp op t (.int k a) (.int yk b)).run P w= .ok (.int k r) w:=by
 unfold shI at h;split at h;rename_i hk;have hk':k= .i64:=wC hk;subst hk';split at h;cases h;have h1:0<=b/\b<=64:=hn _ VY;have h2:VQ (a*2^b.toNat):=hn _ VY;have h3: ¬b<0:=VO;have h4:min b.toNat 64=b.toNat:=VO;simp [binOp,Op.shift,h3,IntKind.bits,h4,BI h2];cases h;have h1:0<=b/\b<=64:=hn _ VY;have h3: ¬b<0:=VO;have h4:min b.toNat 64=b.toNat:=VO;simp [binOp,Op.shift,h3,IntKind.bits,h4];cases h;split at h;rename_i hk;have hk':k= .u64:=wC hk;subst hk';split at h;cases h;have h1:0<=b/\b<=64:=hn _ VY;have h3: ¬b<0:=VO;have h4:min b.toNat 64=b.toNat:=VO;simp [binOp,Op.shift,h3,IntKind.bits,h4];cases h;cases h
def Jv5(k:IntKind)(a b:Int):Int:=k.wrap (BitVec.ofInt k.bits a &&& BitVec.ofInt k.bits b).toNat
def Wl8(P:Program)(op:BinOp)(t:TypeId)(x y:AV):Option Out:=
 match x,y with
 | .x (.int k a),.x (.int k' b)=>match decide (k=k') with
  |true=>match Ju5 op a b with
   |some r=>some ([],.x (.bool r),none)
   |none=>match decide (k= .i64) with
    |true=>match arI op a b with
     |some (ns,r)=>some (ns,.x (.int .i64 r),none)
     |none=>none
    |false=>match op,decide (k= .u16) with
     | .quo,true=>some ([b≠0,0<=a.tdiv b/\a.tdiv b<=65535],.x (.int .u16 (a.tdiv b)),none)
     | .and,_=>some ([],.x (.int k (Jv5 k a b)),none)
     | .sub,_=>some ([k= .u8,0<=a-b/\a-b<=255],.x (.int k (a-b)),none)
     |_,_=>none
  |false=>match shI op k a b with
   |some (ns,r)=>some (ns,.x (.int k r),none)
   |none=>none
 | .x (.string a),.x (.string b)=>match op with
  | .eql=>some ([],.x (.bool (a.toList==b.toList)),none)
  | .neq=>some ([],.x (.bool (!(a.toList==b.toList))),none)
  | .add=>some ([((a.size+b.size:Nat):Int)<=9223372036854775807],.x (.string (a++b)),none)
  |_=>none
 | .agg l,.agg l'=>match P.eqGuardType P.depth t with
  |true=>none
  |false=>match op,eqA P 10000 t (.agg l) (.agg l') with
   | .eql,some r=>some ([],.x (.bool r),none)
   | .neq,some r=>some ([],.x (.bool !r),none)
   |_,_=>none
 |x,y=>match LI x,LI y,P.underlying t with
  |some a,some b,some .bool=>match op with
   | .eql=>some ([],.x (.bool (a==b)),none)
   | .neq=>some ([],.x (.bool (!(a==b))),none)
   |_=>none
  |_,_,_=>none
theorem lD{e:UP}{B:Nat}{w:World}{m:HA}{id:Nat}{op:BinOp}{t:TypeId}{ox oy:Operand}{x y:AV}{vx vy:Value}{ns:List Prop}{val:AV}{add:Option GU}(h:Wl8 P op t x y=some (ns,val,add))(hn: ∀p∈ns,p)
  (hE:GB e B w)(hm:G5 e m w)(rx:Rep e w x vx)(ry:Rep e w y vy):
  ∃u w',(do eqGuard op t ox oy vx vy;binOp op t vx vy:Sem Value).run P w= .ok u w'/\LY e B w m id val add u w':=by
 unfold Wl8 at h;split at h;rename_i k a k' b;cases rx.x_inv;cases ry.x_inv;have hg:(eqGuard op t ox oy (.int k a) (.int k' b)).run P w= .ok () w:=by cases op<;>simp [eqGuard]
 split at h;rename_i hk;have hk':k=k':=wC hk;subst hk';split at h;rename_i r I;cases h;refine ⟨.bool r,w,?_,UQ hE hm (.x _)⟩;rw [At,hg];cases op<;>simp [Ju5] at I<;>subst I<;>simp [binOp,Op.intCmp];rename_i I;split at h;rename_i O;have hi':k= .i64:=wC O;subst hi';split at h
 ·rename_i ns' r har;cases h;refine ⟨.int .i64 r,w,?_,UQ hE hm (.x _)⟩;rw [At,hg];cases op<;>simp [arI] at har
  case add=>
   obtain ⟨rfl,rfl⟩:=har;have h1:VQ (a+b):=hn _ VY;simp [binOp,Op.intArith,BI h1]
  case sub=>
   obtain ⟨rfl,rfl⟩:=har;have h1:VQ (a-b):=hn _ VY;simp [binOp,Op.intArith,BI h1]
  case mul=>
   obtain ⟨rfl,rfl⟩:=har;have h1:VQ (a*b):=hn _ VY;simp [binOp,Op.intArith,BI h1]
  case quo=>
   obtain ⟨rfl,rfl⟩:=har;have h0:b≠0:=hn _ VY;have h1:VQ (a.tdiv b):=hn _ VY;simp [binOp,Op.intDiv,h0,BI h1]
  case rem=>
   obtain ⟨rfl,rfl⟩:=har;have h0:b≠0:=hn _ VY;simp [binOp,Op.intDiv,h0]
  case and=>
   obtain ⟨rfl,rfl⟩:=har;rfl
  case or=>
   obtain ⟨rfl,rfl⟩:=har;rfl
  case andNot=>
   obtain ⟨rfl,rfl⟩:=har;rfl
  case shl=>
   obtain ⟨rfl,rfl⟩:=har;have h1:0<=b/\b<=64:=hn _ VY;have h2:VQ (a*2^b.toNat):=hn _ VY;have h3: ¬b<0:=VO;have h4:min b.toNat 64=b.toNat:=VO;simp [binOp,Op.shift,h3,IntKind.bits,h4,BI h2]
  case shr=>
   obtain ⟨rfl,rfl⟩:=har;have h1:0<=b/\b<=64:=hn _ VY;have h3: ¬b<0:=VO;have h4:min b.toNat 64=b.toNat:=VO;simp [binOp,Op.shift,h3,IntKind.bits,h4]
 cases h;split at h;rename_i hk2;have hk3:k= .u16:=wC hk2;subst hk3;cases h;refine ⟨.int .u16 (a.tdiv b),w,?_,UQ hE hm (.x _)⟩;rw [At,hg];have h0:b≠0:=hn _ VY;have h1:0<=a.tdiv b/\a.tdiv b<=65535:=hn _ VY;have e:IntKind.u16.wrap (a.tdiv b)=a.tdiv b:=by
  have e1:IntKind.u16.wrap (a.tdiv b)=(a.tdiv b)%2^16:=rfl;rw [e1,Int.emod_eq_of_lt VO VO]
 simp [binOp,Op.intDiv,h0,e];cases h;refine ⟨.int k (Jv5 k a b),w,?_,UQ hE hm (.x _)⟩;rw [At,hg];cases k<;>rfl;cases h;have h0:k= .u8:=hn _ VY;have h1:0<=a-b/\a-b<=255:=hn _ VY;subst h0;refine ⟨.int .u8 (a-b),w,?_,UQ hE hm (.x _)⟩;rw [At,hg];have e:IntKind.u8.wrap (a-b)=a-b:=by
  have e1:IntKind.u8.wrap (a-b)=(a-b)%2^8:=rfl;rw [e1,Int.emod_eq_of_lt VO VO]
 simp [binOp,Op.intArith,e];cases h;split at h;rename_i ns' r hsh;cases h;refine ⟨.int k r,w,?_,UQ hE hm (.x _)⟩;rw [At,hg];exact Qq7 hsh hn w;cases h;rename_i a b;cases rx.x_inv;cases ry.x_inv;have hg:(eqGuard op t ox oy (.string a) (.string b)).run P w= .ok () w:=by cases op<;>simp [eqGuard]
 split at h;cases h;refine ⟨_,w,?_,UQ hE hm (.x _)⟩;rw [At,hg];simp [binOp,Op.stringOp];cases h;refine ⟨_,w,?_,UQ hE hm (.x _)⟩;rw [At,hg];simp [binOp,Op.stringOp];cases h;refine ⟨.string (a++b),w,?_,UQ hE hm (.x _)⟩;have hb:((a.size+b.size:Nat):Int)<=9223372036854775807:=hn _ VY;have hb': ¬((a.size+b.size:Nat):Int)>IntKind.i64.max:=by
  show ¬((a.size+b.size:Nat):Int)>9223372036854775807;omega
 have h1:(Op.stringOp .add a b).run P w= .ok (.string (a++b)) w:=by
  unfold Op.stringOp;simp only [if_neg hb'];rfl
 rw [At,hg];simp [binOp,h1];cases h;rename_i l l';split at h;cases h;rename_i hgt;obtain ⟨vs,rfl,_⟩:=rx.agg_inv;obtain ⟨us,rfl,_⟩:=ry.agg_inv;have hg:=run_eqGuard_agg (P:=P) w op t ox oy vs.toArray us.toArray hgt;split at h;rename_i r I;cases h;have:=zG (P:=P) 10000 t _ _ _ _ r I rx ry;refine ⟨_,w,?_,UQ hE hm (.x _)⟩;rw [At,hg,Au,run_eql_struct,this];rfl;rename_i r I;cases h;have:=zG (P:=P) 10000 t _ _ _ _ r I rx ry;refine ⟨_,w,?_,UQ hE hm (.x _)⟩;rw [At,hg,Au,run_neq_struct,this];rfl;cases h;split at h;rename_i a b Z hb W;cases BE Z rx;cases BE hb ry;have hg:(eqGuard op t ox oy (.bool a) (.bool b)).run P w= .ok () w:=by cases op<;>simp [eqGuard]
 have he:(Op.equal t (.bool a) (.bool b)).run P w= .ok (a==b) w:=run_equalIn_bool' w 9999 t a b W;split at h;cases h;refine ⟨_,w,?_,UQ hE hm (.x _)⟩;rw [At,hg];simp [binOp,he];cases h;refine ⟨_,w,?_,UQ hE hm (.x _)⟩;rw [At,hg];simp [binOp,he];cases h;cases h
end
section
variable {P:Program}
def Zs5(op:UnOp):AV->Option Out
 | .x (.int .i64 n)=>match op with
  | .neg=>some ([VQ (-n)],.x (.int .i64 (-n)),none)
  |_=>none
 | .lit b=>match op with
  | .not=>some ([],.lit (!b),none)
  |_=>none
 | .x (.bool b)=>match op with
  | .not=>some ([],.x (.bool (!b)),none)
  |_=>none
 |_=>none
theorem sI{e:UP}{B:Nat}{w:World}{m:HA}{id:Nat}{op:UnOp}{x:AV}{v:Value}{ns:List Prop}{val:AV}{add:Option GU}(h:Zs5 op x=some (ns,val,add))(hn: ∀p∈ns,p)
  (hE:GB e B w)(hm:G5 e m w)(rx:Rep e w x v): ∃u w',(Op.unary op v).run P w= .ok u w'/\LY e B w m id val add u w':=by
 unfold Zs5 at h;split at h;rename_i n;cases rx.x_inv;split at h;cases h;have h1:VQ (-n):=hn _ VY;refine ⟨_,w,?_,UQ hE hm (.x _)⟩;have h2:(0:Int)-n= -n:=VO;simp [Op.unary,Op.intArith,h2,BI h1];cases h;rename_i b;cases rx.lit_inv;split at h;cases h;exact ⟨_,w,by simp [Op.unary],UQ hE hm (.lit _)⟩
 cases h;rename_i b;cases rx.x_inv;split at h;cases h;exact ⟨_,w,by simp [Op.unary],UQ hE hm (.x _)⟩
 cases h;cases h
def HE(s:ByteArray)(j:Nat):Int:=((s.data.getD j 0).toNat:Int)
def HG(s:ByteArray)(j:Nat):List AV:=[.x (.int .u8 (HE s j))]
def byO:List AV->Nat
 |[.x (.int .u8 n)]=>n.toNat
 |_=>0
section
variable (n:Nat)(f:Ci)
def bsO:ByteArray:=⟨((List.range n).map λj=>UInt8.ofNat (byO (f j))).toArray⟩
def R9:Prop:= ∀j,j<n->byO (f j)<256/\f j=[.x (.int .u8 (byO (f j):Int))]
end
def sJ(P:Program)(src dst:TypeId):AV->Option Out
 | .x (.int _ n)=>match P.underlying src,P.underlying dst with
  |some _,some (.int k)=>match decide (k= .i64) with
   |true=>some ([VQ n],.x (.int .i64 n),none)
   |false=>some ([],.x (.int k (k.wrap n)),none)
  |_,_=>none
 | .x (.string s)=>match P.underlying src,P.underlying dst with
  |some .string,some .string=>some ([],.x (.string s),none)
  |some .string,some (.slice el)=>match P.underlying el with
   |some (.int .u8)=>some ([s.size<=4294967296],.lst 1 s.size (HG s),none)
   |_=>none
  |_,_=>none
 | .x (.slice none n c)=>match P.underlying src,P.underlying dst with
  |some (.slice el),some .string=>match P.underlying el with
   |some (.int .u8)=>some ([],.x (.string ByteArray.empty),none)
   |_=>none
  |_,_=>none
 | .lst sz n f=>match P.underlying src,P.underlying dst with
  |some (.slice el),some .string=>match P.underlying el with
   |some (.int .u8)=>match Nat.beq sz 1 with
    |true=>some ([R9 n f],.x (.string (bsO n f)),none)
    |false=>none
   |_=>none
  |_,_=>none
 |_=>none
section
variable {e:UP}{B:Nat}{w:World}{m:HA}{id:Nat}
theorem Qa5{s:ByteArray}{el:TypeId}(hE:GB e B w)(hm:G5 e m w)(h1:s.size<=4294967296):
  LY e B w m id (.lst 1 s.size (HG s)) none (.slice (some ⟨w.heap.size,0,none⟩) s.size (grownCap w s.size 0 el)) (w.drew.alloc (.cells (bytesRow s (grownCap w s.size 0 el)) el ((bytesRow s (grownCap w s.size 0 el)).size,(bytesRow s (grownCap w s.size 0 el)).size+1))):=by
 generalize hob:Obj.cells (bytesRow s (grownCap w s.size 0 el)) el ((bytesRow s (grownCap w s.size 0 el)).size,(bytesRow s (grownCap w s.size 0 el)).size+1)=ob
 let e':UP:={ro:=λb=>e.ro b\/b=w.heap.size,own:=e.own,live:=e.live,blk:=e.blk,val:=e.val}
 have hsz:(w.drew.alloc ob).heap.size=w.heap.size+1:=VY;have rA:Below w.heap.size w (w.drew.alloc ob):=((Below.refl w.heap.size w).drew).alloc (Am _) _;have st:Step e e' w (w.drew.alloc ob):=⟨λb hb I=>⟨.inl I,rA.block b hb⟩,λk hk=>⟨hk,rfl,rfl⟩,VO⟩;refine ⟨e',rA,st,⟨λb hb=>?_,λb k hk=>?_,hE.glob.step st⟩,λ_ _ h=>h,?_,λp hp=>(hm p hp).ext rA st (λ_ _ h=>h),λk hk=> .inl hk,λb hb=>?_⟩;rcases hb with hb|rfl;have:=hE.apart b hb;exact ⟨this.1,VO⟩;refine ⟨?_,VO⟩;cases ho:e.own w.heap.size with
 |none=>rfl
 |some k=>have:=(hE.owned _ k ho).2;omega
 have:=hE.owned b k hk;exact ⟨this.1,VO⟩;refine .lst 1 s.size (HG s) w.heap.size 0 _ (λi _=> .int .u8 (HE s i)) (λ_=>(show e.ro w.heap.size\/w.heap.size=w.heap.size from .inr rfl)) (λ_=>VO) (λi _ a Z=>?_) (by have:=grownCap_ge w s.size 0 el;omega) (grownCap_le_maxLen w s.size 0 el (by unfold maxLen;omega)) (λi j O hj=>?_) (λ_ _=>rfl) (λi j a O Z=>?_) _ (λ_=>rfl)
 rw [B2.1 Z];exact .x _;obtain rfl:j=0:=VO;have hh:(w.drew.alloc ob).heap[w.heap.size]? =some ob:=heap_alloc_new w.drew ob;unfold World.cell?;rw [hh,←hob];have hi':i<s.data.size:=O;have e0:0+(i*1+0)=i:=VO;show (bytesRow s _)[0+(i*1+0)]? =_;rw [e0,bytesRow_at s _ i hi'];unfold HE;rw [L0,Array.getElem?_eq_getElem hi'];rfl;cases j with
 |zero=>
  simp only [HG,List.getElem?_cons_zero,HL] at Z;rw [←Z];exact .x _
 |succ j=>simp [HG] at Z
 rcases hb with hb|rfl;exact .inl hb;exact .inr (Am _)
theorem b6{src dst:TypeId}{x:AV}{v:Value}{ns:List Prop}{val:AV}{add:Option GU}(h:sJ P src dst x=some (ns,val,add))(hn: ∀p∈ns,p)
  (hE:GB e B w)(hB:B<=w.heap.size)(hm:G5 e m w)(rx:Rep e w x v): ∃u w',(convert src dst v).run P w= .ok u w'/\LY e B w m id val add u w':=by
 unfold sJ at h;split at h;rename_i k0 n;cases rx.x_inv;split at h;rename_i d k hs hd;split at h;rename_i hk;have hk':k= .i64:=wC hk;subst hk';cases h;have h1:VQ n:=hn _ VY;exact ⟨_,w,by simp [convert,run_underlying hs,run_underlying hd,Conv.intToInt,BI h1],UQ hE hm (.x _)⟩
 cases h;exact ⟨_,w,by simp [convert,run_underlying hs,run_underlying hd,Conv.intToInt],UQ hE hm (.x _)⟩
 cases h;rename_i s;cases rx.x_inv;split at h;rename_i hs hd;cases h;exact ⟨_,w,by simp [convert,run_underlying hs,run_underlying hd],UQ hE hm (.x _)⟩
 rename_i el hs hd;split at h;rename_i he;cases h;have h1:s.size<=4294967296:=hn _ VY;exact ⟨_,_,run_bytes_of_string w src dst el s hs hd he,Qa5 hE hm h1⟩;cases h;cases h;rename_i n c;cases rx.x_inv;split at h;rename_i el hs hd;split at h;rename_i he;cases h;exact ⟨_,w,by rw [run_convert_bytes_string w src dst el none n c hs he hd];simp [Conv.bytesToString],UQ hE hm (.x _)⟩
 cases h;cases h;rename_i sz n f;split at h;rename_i el hs hd;split at h;rename_i he;split at h;rename_i hz;obtain rfl:sz=1:=H5 hz;cases h;have h1:R9 n f:=hn _ VY;refine ⟨.string (bsO n f),w,?_,UQ hE hm (.x _)⟩;cases rx with
 |lstNil=>
  rw [run_convert_bytes_string w src dst el none 0 0 hs he hd];simp [Conv.bytesToString,bsO];rfl
 |lst _ _ _ b o cap g h2 h3 h4 h5 h6 h7 h8 h9 ad had=>
  have hl:((List.range n).map λj=>UInt8.ofNat (byO (f j))).length=n:=VY;have hc: ∀j (hj:j<((List.range n).map λj=>UInt8.ofNat (byO (f j))).length),w.cell? (ad.add j)=some (.int .u8 ((((List.range n).map λj=>UInt8.ofNat (byO (f j)))[j]).toNat:Int)):=by
   intro j hj;have hj:j<n:=VO;rw [had VO];have h10:=h7 j 0 hj VO;have h11:=h9 j 0 (.x (.int .u8 (byO (f j):Int))) hj (by rw [(h1 j hj).2];rfl)
   have h12:=h11.x_inv;rw [h12] at h10;have e1:(⟨b,o,none⟩:Addr).add j=⟨b,o+(j*1+0),none⟩:=by
    simp [Addr.add]
   rw [e1,h10];have h13:=(h1 j hj).1;simp only [List.getElem_map,List.getElem_range];rw [UInt8.toNat_ofNat_of_lt' h13]
  have hk:=run_convert_bytes_back w src dst el ad cap ((List.range n).map λj=>UInt8.ofNat (byO (f j))) hs he hd hc;rw [hl] at hk;exact hk
 cases h;cases h;cases h;cases h
end
def HC(off:Nat):List AV->List AV->List AV
 |[],cells=>cells
 |c::cs,cells=>HC (off+1) cs (cells.set off c)
theorem CW{e:UP}{w:World}: ∀(cs:List AV) (vs:List Value) (off:Nat) (cells:List AV) (us:List Value),U8 e w cs vs->U8 e w cells us->
  U8 e w (HC off cs cells) ((vs.zipIdx).foldl (λ(acc:List Value) (p:Value×Nat)=>acc.set (off+p.2) p.1) us)
 |[],vs,off,cells,us,h,k=>by cases h.nil_inv;simpa [HC] using k
 |c::cs,vs,off,cells,us,h,k=>by
  obtain ⟨v,vs',rfl,A,hvs⟩:=h.cons_inv;have ih:=CW cs vs' (off+1) (cells.set off c) (us.set off v) hvs (k.set A off);simp only [HC,List.zipIdx_cons,List.foldl_cons,Bg,Ap];have e1: ∀(l:List Value) (n:Nat) (acc:List Value),(l.zipIdx (n+1)).foldl (λ(acc:List Value) (p:Value×Nat)=>acc.set (off+p.2) p.1) acc=(l.zipIdx n).foldl (λ(acc:List Value) (p:Value×Nat)=>acc.set (off+1+p.2) p.1) acc:=by
   intro l
   induction l with
   |nil=>intro n acc;simp
   |cons a l ih=>intro n acc;simp only [List.zipIdx_cons,List.foldl_cons];rw [ih,show off+(n+1)=off+1+n by omega]
  rw [e1 vs' 0];exact ih
def MQ(place:Nat->Option (Nat×Nat))(cells:List AV):List (Nat×AV)->Option (List AV)
 |[]=>some cells
 |(i,a)::rest=>match place i,a.cellsOf with
  |some (off,size),some cs=>match Nat.beq cs.length size&&Nat.ble (off+cs.length) cells.length with
   |true=>MQ place (HC off cs cells) rest
   |false=>none
  |_,_=>none
theorem wV(off:Nat): ∀(l:List (Value×Nat)) (us:List Value),l.foldl (λ(cs:Array Value) (x:Value×Nat)=>cs.setIfInBounds (off+x.2) x.1) us.toArray=(l.foldl (λ(acc:List Value) (p:Value×Nat)=>acc.set (off+p.2) p.1) us).toArray
 |[],us=>rfl
 |(v,j)::l,us=>by simp only [List.foldl_cons,List.setIfInBounds_toArray];exact wV off l _
theorem wX{e:UP}{w:World}{place:Nat->Option (Nat×Nat)}: ∀(parts:List (Nat×AV)) (vparts:List (Nat×Value)) (cells:List AV) (us:List Value) (r:List AV),MQ place cells parts=some r->
  U8 e w cells us->parts.map (·.1)=vparts.map (·.1)->U8 e w (parts.map (·.2)) (vparts.map (·.2))-> ∃rs:List Value,Instr.fill place us.toArray vparts=some rs.toArray/\U8 e w r rs/\rs.length=us.length
 |[],vparts,cells,us,r,h,k,O,hp=>by
  simp [MQ] at h;subst h;have:vparts=[]:=by simpa using O
  subst this;exact ⟨us,rfl,k,rfl⟩
 |(i,a)::rest,vparts,cells,us,r,h,k,O,hp=>by
  cases vparts with
  |nil=>simp at O
  |cons p vrest=>
   obtain ⟨i',v⟩:=p;simp only [List.map_cons,List.cons.injEq] at O;obtain ⟨rfl,O⟩:=O;obtain ⟨v',vs',hvv,A,hvs⟩:=U8.cons_inv (by simpa using hp)
   simp only [List.cons.injEq] at hvv;obtain ⟨rfl,rfl⟩:=hvv;unfold MQ at h;split at h;rename_i off size cs hpl hcs;split at h;rename_i hb;simp only [HF] at hb;have h1:cs.length=size:=H5 hb.1;have h2:off+cs.length<=cells.length:=wD hb.2;have hc:=wZ hcs A;have hs:=CW cs v.cells.toList off cells us hc k;obtain ⟨rs,g1,g2,g3⟩:=wX rest vrest _ _ r h hs O hvs;refine ⟨rs,?_,g2,?_⟩;have hsz:v.cells.size=size:=by rw [←h1,hc.1];simp
   have hle: ¬off+v.cells.size>us.toArray.size:=by
    have:cs.length=v.cells.size:=by rw [hc.1];simp
    simp [←k.1];omega
   unfold Instr.fill;simp only [hpl];rw [if_neg (by simp [hsz] at hle ⊢;omega)]
   rw [←g1]
   congr 1
   rw [←Array.foldl_toList,Array.toList_zipIdx];exact wV off _ us;rw [g3,←hs.1];have hl: ∀(cs:List AV) (off:Nat) (cells:List AV),(HC off cs cells).length=cells.length:=by
    intro cs
    induction cs with
    |nil=>intro off cells;rfl
    |cons c cs ih=>intro off cells;simp [HC,ih]
   rw [hl,k.1];cases h;cases h
def b8(P:Program)(t:TypeId)(parts:List (Nat×AV)):Option Out:=
 match P.info? t,P.underlying t with
 |some it,some (.struct fields)=>match it.zero,fields.toList.mapM (λf=>(P.info? f.type).map λi=>(f.offset,i.size)) with
  |some z,some places=>match MQ (places[·]?) (z.cells.toList.map .x) parts with
   |some l=>some ([],.agg l,none)
   |none=>none
  |_,_=>none
 |some it,some (.array _ el)=>match it.zero,P.info? el with
  |some z,some ie=>match MQ (λi=>some (i*ie.size,ie.size)) (z.cells.toList.map .x) parts with
   |some l=>some ([],.agg l,none)
   |none=>none
  |_,_=>none
 |_,_=>none
theorem O6{e:UP}{B:Nat}{w:World}{m:HA}{id:Nat}{t:TypeId}{parts:List (Nat×AV)}{vparts:Array (Nat×Value)}{ns:List Prop}{val:AV}{add:Option GU}(h:b8 P t parts=some (ns,val,add))
  (hE:GB e B w)(hm:G5 e m w)(O:parts.map (·.1)=vparts.toList.map (·.1))(hp:U8 e w (parts.map (·.2)) (vparts.toList.map (·.2))):
  ∃u w',(Instr.build t vparts).run P w= .ok u w'/\LY e B w m id val add u w':=by
 unfold b8 at h;split at h;rename_i it fields hit W;split at h;rename_i z places hz hpl;split at h;rename_i l hl;cases h;obtain ⟨rs,g1,g2,_⟩:=wX parts vparts.toList _ _ l hl (U8.xs e w z.cells.toList) O hp;refine ⟨.agg rs.toArray,w,run_build w t vparts rs.toArray ?_,UQ hE hm (Rep.aggL g2)⟩;simp only [Program.built,hit,W,hz,hpl];simpa using g1;cases h;cases h;rename_i it n el hit W;split at h;rename_i z ie hz hie;split at h;rename_i l hl;cases h;obtain ⟨rs,g1,g2,_⟩:=wX parts vparts.toList _ _ l hl (U8.xs e w z.cells.toList) O hp;refine ⟨.agg rs.toArray,w,run_build w t vparts rs.toArray ?_,UQ hE hm (Rep.aggL g2)⟩;simp only [Program.built,hit,W,hz,hie];simpa using g1;cases h;cases h;cases h
def AV.idf:AV->Bool
 | .top| .lit _| .x _| .ro _| .lst .. | .roI .. | .mpr .. | .any1=>true
 |_=>false
theorem jF{e:UP}{w:World}{a:AV}{v:Value}(h:Rep e w a v)(k:a.idf=true):Idf a:=by
 cases h with
 |top v=>exact .top
 |lit b=>exact .lit b
 |x v=>exact .x v
 |ro l vs b o h1 h2 h3 h4 h5 h6=>exact .ro l h3
 |lstNil sz f=>exact .lst sz 0 f (λi O=>VO)
 |lst sz n f b o cap g h1 h2 h3 h4 h5 h6 h7 h8 ad had=>exact .lst sz n f h3
 |roI pre n f off b o I=>cases I with|ro _ vs _ _ h1 h2 h3 h4 h5 h6=>exact .roI pre n f off (.ro _ h3)
 |mpr g okf vals b es c h1 h2 h3 h4 h5 h6 h7 h8=>exact .mpr g okf h3
 |any1 v A=>exact .any1
 |_=>simp [AV.idf] at k
theorem Qi1{e:UP}{w:World}{l:List AV}{vs:List Value}(h:U8 e w l vs)(k:l.all AV.idf=true): ∀a∈l,Idf a:=by
 intro a Z;obtain ⟨i,O⟩:=xJ.1 Z;obtain ⟨v,A,r⟩:=h.get O;exact jF r (BF.1 k a Z)
def UA(sz:Nat)(l:List AV)(i:Nat):List AV:=(l.drop (i*sz)).take sz
def jA(P:Program)(id:Nat)(t:TypeId)(len:Nat)(parts:List (Nat×AV)):Option Out:=
 match P.underlying t with
 |some (.slice el)=>match P.info? el with
  |some ie=>match ie.zero with
   |some z=>match Nat.ble 1 (len*ie.size)&&Nat.ble (len*ie.size) 16777216&&Nat.ble 1 len with
    |true=>match MQ (λi=>some (i*ie.size,ie.size)) (((List.range (len*ie.size)).map (z.cells[· %z.cells.size]!)).map .x) parts with
     |some l=>match l.all AV.idf with
      |true=>some ([],.row id,some (.row el ie.size len (UA ie.size l)))
      |false=>none
     |none=>none
    |false=>match Nat.beq len 0 with
     |true=>some ([],.row id,some (.row el ie.size 0 (λ_=>[])))
     |false=>none
   |none=>none
  |none=>none
 |_=>none
theorem uP{e:UP}{B:Nat}{w:World}{m:HA}{id:Nat}{t:TypeId}{len:Nat}{parts:List (Nat×AV)}{vparts:Array (Nat×Value)}{ns:List Prop}{val:AV}{add:Option GU}(h:jA P id t len parts=some (ns,val,add))
  (hE:GB e B w)(hB:B<=w.heap.size)(hm:G5 e m w)(hid: ¬e.live id)(O:parts.map (·.1)=vparts.toList.map (·.1))(hp:U8 e w (parts.map (·.2)) (vparts.toList.map (·.2)))(h0:len=0->vparts=#[]):
  ∃u w',(Instr.buildSlice t len vparts).run P w= .ok u w'/\LY e B w m id val add u w':=by
 unfold jA at h;split at h;rename_i el W;split at h;rename_i ie hie;split at h;rename_i z hz;split at h;rename_i hb;simp only [HF] at hb;obtain ⟨⟨hb1,hb2⟩,hb3⟩:=hb;have hb1:=wD hb1;have hb2:=wD hb2;have hb3:=wD hb3;split at h
 ·rename_i l hl;split at h
  rotate_left
  cases h;rename_i FU;cases h;obtain ⟨rs,g1,g2,g3⟩:=wX parts vparts.toList _ _ l hl (U8.xs e w _) O hp;have D5:rs.length=len*ie.size:=by rw [g3];simp
  have hll:l.length=len*ie.size:=by rw [g2.1,D5]
  have hsz:1<=ie.size:=by
   rcases Nat.eq_zero_or_pos ie.size with h0|h0;rw [h0] at hb1;omega;exact h0
  have hle:len<=len*ie.size:=Nat.le_mul_of_pos_right len hsz;have D7:=Qi1 g2 FU;have Zw6: ∀i,i<len->(UA ie.size l i).length=ie.size/\ ∀a∈UA ie.size l i,Idf a:=by
   intro i hi';refine ⟨?_,λa Z=>D7 a (List.mem_of_mem_drop (List.mem_of_mem_take Z))⟩;have:=BS ie.size (Az hi');rw [Bq] at this;simp only [UA,List.length_take,List.length_drop,hll];omega
  refine ⟨_,_,run_buildSlice w t el len vparts rs.toArray ie z W hie hz VO VO ?_,?_⟩;rw [←g1];have I:(Array.range (len*ie.size)).map (z.cells[· %z.cells.size]!)=((List.range (len*ie.size)).map (z.cells[· %z.cells.size]!)).toArray:=Array.ext' VY;rw [I];refine MT hE hB hm hid (Am _) (by unfold maxLen;omega) D5 Zw6 ?_
  intro i j a v hi' Z A;simp only [UA,List.getElem?_take,List.getElem?_drop] at Z;split at Z;exact g2.2 _ _ _ Z A;cases Z
 cases h;split at h;rename_i hl;have hl':len=0:=H5 hl;subst hl';cases h;cases h0 rfl;refine ⟨_,_,?_,MT (cs:=[]) (c:=0) hE hB hm hid (Am _) (by unfold maxLen;omega) VY (λi O=>VO) (λi j a v O=>VO)⟩
 have I:Array.range 0=#[]:=rfl;simp [Instr.buildSlice,run_underlying W,sizeOf,typeInfo,hie,Instr.fill,newRow,I];cases h;cases h;cases h;cases h
def kO(P:Program)(id:Nat)(t:TypeId)(l c:AV):Option Out:=
 match l,c with
 | .x (.int _ n),.x (.int _ c)=>match P.underlying t with
  |some (.slice el)=>match P.info? el with
   |some ie=>match ie.zero with
    |some z=>match Nat.beq z.cells.size ie.size&&Nat.ble 1 ie.size&&Nat.ble ie.bytes 1000000 with
     |true=>some ([0<=n/\n<=1000000,n=c],.row id,some (.row el ie.size n.toNat (λ_=>z.cells.toList.map .x)))
     |false=>none
    |none=>none
   |none=>none
  |_=>none
 |_,_=>none
theorem hZ{e:UP}{B:Nat}{w:World}{m:HA}{id:Nat}{t:TypeId}{l c:AV}{vl vc:Value}{ns:List Prop}{val:AV}{add:Option GU}(h:kO P id t l c=some (ns,val,add))(hn: ∀p∈ns,p)
  (hE:GB e B w)(hB:B<=w.heap.size)(hm:G5 e m w)(hid: ¬e.live id)(rl:Rep e w l vl)(rc:Rep e w c vc):
  ∃u w',(Instr.makeSlice t vl vc).run P w= .ok u w'/\LY e B w m id val add u w':=by
 unfold kO at h;split at h;rename_i k n k' c';cases rl.x_inv;cases rc.x_inv;split at h;rename_i el W;split at h;rename_i ie hie;split at h;rename_i z hz;split at h;rename_i hb;simp only [HF] at hb;obtain ⟨⟨hb1,hb2⟩,hb3⟩:=hb;have hb1:=H5 hb1;have hb2:=wD hb2;have hb3:=wD hb3;cases h;obtain ⟨n0,n1⟩:0<=n/\n<=1000000:=hn _ VY;have hnc:n=c':=hn _ VY;subst hnc;have RN:(ie.bytes:Int)*n<=281474976710656:=by
  have h1:(ie.bytes:Int)*n<=1000000*1000000:=Int.mul_le_mul VO n1 n0 VO;omega
 refine ⟨_,_,run_make (P:=P) w t el ie z W hie hz k k' n n n0 (Int.le_refl _) RN VO,?_⟩;have hcs:(madeCells z.cells (n.toNat*ie.size))=((madeCells z.cells (n.toNat*ie.size)).toList).toArray:=VY;rw [hcs];refine MT hE hB hm hid (Am _) (by unfold maxLen;omega) (by simp [size_madeCells]) (λi O=>⟨by simp [hb1],λa Z=>?_⟩) ?_
 obtain ⟨v,_,rfl⟩:=List.mem_map.1 Z;exact .x v;intro i j a v O Z A;rw [Bn] at Z;obtain ⟨v0,hv0,rfl⟩:=Option.map_eq_some_iff.1 Z;have hj:j<ie.size:=by
  have:=(RA.1 hv0).1;simp at this;omega
 have hv1:v=z.cells[(i*ie.size+j)%z.cells.size]! :=by
  have hlt:=(RA.1 A).1;have:=(RA.1 A).2;rw [←this];simp [madeCells]
 have hm:(i*ie.size+j)%z.cells.size=j:=by
  rw [hb1,Bp,Nat.mul_add_mod,Nat.mod_eq_of_lt hj]
 rw [hm] at hv1;have:v=v0:=by
  rw [hv1];have h1:z.cells[j]? =some v0:=by simpa using hv0
  rw [getElem!_def,h1]
 rw [this];exact .x _;cases h;cases h;cases h;cases h;cases h
end
section
variable {P:Program}
def loI:Option AV->Option Int
 |none=>some 0
 |some (.x (.int _ i))=>some i
 |_=>none
def hiI(n:Nat):Option AV->Option Int
 |none=>some n
 |some (.x (.int _ i))=>some i
 |_=>none
def aU(P:Program)(t:TypeId)(x:AV)(U O:Option AV):Option Out:=
 match x with
 | .lst sz n f=>match P.underlying t with
  |some (.slice el)=>match P.info? el with
   |some info=>match Nat.beq info.size sz with
    |true=>match loI U,hiI n O with
     |some l,some h=>some ([0<=l/\l<=h/\h<=(n:Int)],.lst sz (h.toNat-l.toNat) (λi=>f (l.toNat+i)),none)
     |_,_=>none
    |false=>none
   |none=>none
  |_=>none
 | .x (.string s)=>match P.underlying t with
  |some .string=>match loI U,hiI s.size O with
   |some l,some h=>some ([0<=l/\l<=h/\h<=(s.size:Int)],.x (.string (s.extract l.toNat h.toNat)),none)
   |_,_=>none
  |_=>none
 | .ro l=>match P.underlying t with
  |some (.array cnt el)=>match P.info? el with
   |some info=>match Nat.beq info.size 1&&Nat.ble cnt l.length&&Nat.ble cnt 100000 with
    |true=>match U,hiI cnt O with
     |none,some h=>some ([0<=h/\h<=(cnt:Int)],.lst 1 h.toNat (λi=>[l.getD i .top]),none)
     |_,_=>none
    |false=>none
   |none=>none
  |_=>none
 |_=>none
def Xw8(e:UP)(w:World):Option AV->Option Value->Prop
 |none,none=>True
 |some a,some v=>Rep e w a v
 |_,_=>False
theorem zY{e:UP}{w:World}(isSlice:Bool)(len cap:Nat)(U O:Option AV)(vlo vhi:Option Value)(l h:Int)(hl:loI U=some l)(hh:hiI len O=some h)(rl:Xw8 e w U vlo)(rh:Xw8 e w O vhi)
  (b:0<=l/\l<=h/\h<=(len:Int))(hc:len<=cap):(Instr.sliceBounds isSlice len cap vlo vhi none).run P w= .ok (l.toNat,h.toNat,cap) w:=by
 obtain ⟨b1,b2,b3⟩:=b;have hhi:(match vhi with|some v=>Instr.sliceBound v cap (if isSlice then .sliceAcap else .sliceAlen)|none=>pure len:Sem Nat).run P w= .ok h.toNat w:=by
  cases O with
  |none=>
   cases vhi with
   |none=>simp [hiI] at hh;subst hh;simp
   |some v=>exact rh.elim
  |some a=>
   cases vhi with
   |none=>exact rh.elim
   |some v=>
    cases a with
    |x u=>
     cases u<;>simp [hiI] at hh;rename_i k i;subst hh;cases Rep.x_inv rh;simp only [Instr.sliceBound,asIntOf,At,Bv,Au,Sem.run_ite];rw [if_pos VO]
    |_=>simp [hiI] at hh
 have hlo: ∀hn:Nat,hn=h.toNat->(match vlo with|some v=>Instr.sliceBound v hn .sliceB|none=>pure 0:Sem Nat).run P w= .ok l.toNat w:=by
  intro hn hhn;subst hhn;cases U with
  |none=>
   cases vlo with
   |none=>simp [loI] at hl;subst hl;simp
   |some v=>exact rl.elim
  |some a=>
   cases vlo with
   |none=>exact rl.elim
   |some v=>
    cases a with
    |x u=>
     cases u<;>simp [loI] at hl;rename_i k i;subst hl;cases Rep.x_inv rl;simp only [Instr.sliceBound,asIntOf,At,Bv,Au,Sem.run_ite];rw [if_pos VO]
    |_=>simp [loI] at hl
 unfold Instr.sliceBounds;cases vhi<;>cases vlo<;>simp at hhi hlo ⊢ <;>simp [hhi,hlo]
theorem NZ{e:UP}{B:Nat}{w:World}{m:HA}{id:Nat}{t:TypeId}{x:AV}{U O:Option AV}{v:Value}{vlo vhi:Option Value}{ns:List Prop}{val:AV}{add:Option GU}(h:aU P t x U O=some (ns,val,add))(hn: ∀p∈ns,p)
  (hE:GB e B w)(hm:G5 e m w)(rx:Rep e w x v)(rl:Xw8 e w U vlo)(rh:Xw8 e w O vhi): ∃u w',(Instr.sliceAt t v vlo vhi none).run P w= .ok u w'/\LY e B w m id val add u w':=by
 unfold aU at h;split at h;rename_i sz n f;split at h;rename_i el W;split at h;rename_i info hi';split at h;rename_i hs;have hs':info.size=sz:=H5 hs;subst hs';split at h;rename_i l hh hl hhh;simp only [HL,FI] at h;obtain ⟨rfl,rfl,rfl⟩:=h;have b:=hn _ (B2.2 rfl);cases rx with
 |lstNil sz f=>
  have hb:=zY (P:=P) true 0 0 U O vlo vhi l hh hl hhh rl rh b (Am _);have hl0:l.toNat=0:=VO;have hh0:hh.toNat=0:=VO;refine ⟨.slice none 0 0,w,?_,UQ hE hm ?_⟩;simp [Instr.sliceAt,Instr.slice,run_underlying W,hb,sizeOf,typeInfo,hi',hl0,hh0];rw [hl0,hh0];exact .lstNil _ _
 |lst sz n f bb o cap g h1 h2 hid h3 h3' h4 h5 h6 ad had=>
  have hb:=zY (P:=P) true n cap U O vlo vhi l hh hl hhh rl rh b h3;by_cases hz:cap=l.toNat;subst hz;refine ⟨.slice (some ad) (hh.toNat-l.toNat) (l.toNat-l.toNat),w,?_,UQ hE hm ?_⟩;simp [Instr.sliceAt,Instr.slice,run_underlying W,hb,sizeOf,typeInfo,hi'];have hz0:hh.toNat-l.toNat=0:=VO;exact .lst _ _ _ bb o _ (λ_ _=> .nilIface) (λh=>VO) (λh=>VO) (λi O=>VO) VO VO (λi j O=>VO) (λi O=>VO) (λi j a O=>VO) ad (λh=>VO);refine ⟨.slice (some (ad.add (l.toNat*info.size))) (hh.toNat-l.toNat) (cap-l.toNat),w,?_,UQ hE hm ?_⟩;simp [Instr.sliceAt,Instr.slice,run_underlying W,hb,sizeOf,typeInfo,hi',hz,DI];refine .lst _ _ _ bb _ _ (λi j=>g (l.toNat+i) j) (λh=>h1 VO) (λh=>h2 VO) (λi O=>hid _ VO) VO VO ?_ ?_ ?_ _ (λh=>by rw [had VO,DI])
  intro i j O hj;have:=h4 (l.toNat+i) j VO hj;rw [Nat.add_mul] at this;rw [←this]
  congr 2
  omega;exact λi O=>h5 _ VO;exact λi j a O Z=>h6 _ _ _ VO Z
 cases h;cases h;cases h;cases h;rename_i s;cases rx.x_inv;split at h;rename_i W;split at h;rename_i l hh hl hhh;simp only [HL,FI] at h;obtain ⟨rfl,rfl,rfl⟩:=h;have b:=hn _ (B2.2 rfl);have hb:=zY (P:=P) false s.size s.size U O vlo vhi l hh hl hhh rl rh b (Am _);exact ⟨_,w,by simp [Instr.sliceAt,Instr.slice,run_underlying W,hb],UQ hE hm (.x _)⟩
 cases h;cases h;rename_i l;split at h;rename_i cnt el W;split at h;rename_i info hi';split at h;rename_i hs;rw [HF,HF] at hs;obtain ⟨⟨hs1,hs2⟩,hs3⟩:=hs;have hs1:info.size=1:=H5 hs1;have hs2:=wD hs2;have hs3:=wD hs3;split at h;rename_i hh hhh;simp only [HL,FI] at h;obtain ⟨rfl,rfl,rfl⟩:=h;have b:=hn _ (B2.2 rfl);cases vlo with
 |some v=>exact rl.elim
 |none=>
  cases rx with
  |ro _ vs bb o I hlt hf D5 F3 GS=>
   have hb:=zY (P:=P) false cnt cnt none O none vhi 0 hh rfl hhh rl rh ⟨Int.le_refl _,b.1,b.2⟩ (Am _);refine ⟨.slice (some (if cnt=0 then ⟨bb,o,none⟩ else (⟨bb,o,none⟩:Addr).add (0*info.size))) (hh.toNat-0) (cnt-0),w,?_,UQ hE hm ?_⟩
   simp [Instr.sliceAt,Instr.sureAddr,run_underlying W,hb,sizeOf,typeInfo,hi'];have Z:(if cnt=0 then (⟨bb,o,none⟩:Addr) else (⟨bb,o,none⟩:Addr).add (0*info.size))=⟨bb,o,none⟩:=by
    split;rfl;simp [Addr.add]
   rw [Z,Nat.sub_zero,Nat.sub_zero];have hg: ∀i,i<hh.toNat-> ∃a v,l[i]? =some a/\vs[i]? =some v/\l.getD i .top=a/\vs.getD i .nilIface=v:=by
    intro i O;have h1:i<l.length:=VO;have h2:i<vs.length:=VO;refine ⟨l[i],vs[i],D8 h1,D8 h2,?_,?_⟩;rw [List.getD_eq_getElem?_getD,D8 h1];rfl;rw [List.getD_eq_getElem?_getD,D8 h2];rfl
   refine .lst 1 hh.toNat _ bb o cnt (λi _=>vs.getD i .nilIface) (λ_=>I) (λ_=>hlt) (λi O a Z=>?_) VO (by unfold maxLen;omega) (λi j O hj=>?_) (λ_ _=>rfl) (λi j a O Z=>?_) _ (λ_=>rfl)
   obtain ⟨a0,v0,g1,g2,g3,g4⟩:=hg i O;rw [B2.1 Z,g3];exact hf _ (F9 g1);obtain ⟨a0,v0,g1,g2,g3,g4⟩:=hg i O;have hj0:j=0:=VO;subst hj0;have e0:o+(i*1+0)=o+i:=VO;rw [e0,g4];exact F3 i v0 g2;obtain ⟨a0,v0,g1,g2,g3,g4⟩:=hg i O;cases j with
   |zero=>
    simp only [List.getElem?_cons_zero,HL] at Z;rw [←Z,g3,g4];exact GS i a0 v0 g1 g2
   |succ j=>simp at Z
 cases h;cases h;cases h;cases h;cases h
def Wl6(P:Program)(m:HA)(t:TypeId)(x:AV):Option Out:=
 match P.underlying t with
 |some (.slice _)=>match x with
  | .lst _ n _=>some ([],.x (.int .i64 (n:Int)),none)
  | .row id=>match DN m id with
   |some (.row _ _ n _)=>some ([],.x (.int .i64 (n:Int)),none)
   |_=>none
  | .x (.slice _ n _)=>some ([],.x (.int .i64 (n:Int)),none)
  |_=>none
 |some .string=>match x with
  | .x (.string s)=>some ([],.x (.int .i64 (s.size:Int)),none)
  |_=>none
 |some (.array n _)=>some ([],.x (.int .i64 (n:Int)),none)
 |_=>none
theorem lC{e:UP}{B:Nat}{w:World}{m:HA}{id:Nat}{t ty:TypeId}{x:AV}{v:Value}{ns:List Prop}{val:AV}{add:Option GU}(h:Wl6 P m t x=some (ns,val,add))
  (hE:GB e B w)(hm:G5 e m w)(rx:Rep e w x v): ∃u w',(Builtin.len_ #[t] ty #[v]).run P w= .ok u w'/\LY e B w m id val add u w':=by
 unfold Wl6 at h;split at h;rename_i el W;have key: ∀(a:Option Addr) (n c:Nat),v= .slice a n c->val= .x (.int .i64 (n:Int))->add=none-> ∃u w',(Builtin.len_ #[t] ty #[v]).run P w= .ok u w'/\LY e B w m id val add u w':=by
  rintro a n c rfl rfl rfl;exact ⟨_,w,by simp [Builtin.len_,run_underlying W,goInt],UQ hE hm (.x _)⟩
 split at h;rename_i sz n f;cases h;cases rx with
 |lstNil sz f=>exact key _ _ _ rfl rfl rfl
 |lst sz n f b o cap g h1 h2 hid h3 h3' h4 h5 h6 ad had=>exact key _ _ _ rfl rfl rfl
 rename_i k;split at h;rename_i T sz n f hg;cases h;obtain ⟨hlv,HD,hf,xs,hx,GS⟩:=hm _ (GA hg);cases rx with
 |row _ a n' c hl A=>
  rcases hx.2 with ⟨hv0,hn0⟩|⟨g,cap,cur,hv0,_,_⟩;rw [A] at hv0;cases hv0;subst hn0;exact key _ _ _ rfl rfl rfl;rw [A] at hv0;cases hv0;exact key _ _ _ rfl rfl rfl
 cases h;rename_i a n c;cases h;cases rx.x_inv;exact key _ _ _ rfl rfl rfl;cases h;rename_i W;split at h;rename_i s;cases h;cases rx.x_inv;exact ⟨_,w,by simp [Builtin.len_,run_underlying W,goInt],UQ hE hm (.x _)⟩
 cases h;rename_i n el W;cases h;exact ⟨_,w,by simp [Builtin.len_,run_underlying W,goInt],UQ hE hm (.x _)⟩
 cases h
def hU(isMax:Bool)(acc:Int):List AV->Option Int
 |[]=>some acc
 | .x (.int .i64 b)::r=>hU isMax (match isMax with|true=>max acc b|false=>min acc b) r
 |_=>none
theorem S6{e:UP}{w:World}: ∀(l:List AV) (vs:List Value) (acc r:Int),hU false acc l=some r->U8 e w l vs->(vs.foldlM Builtin.min2 (.int .i64 acc)).run P w= .ok (.int .i64 r) w
 |[],vs,acc,r,h,k=>by cases k.nil_inv;simp [hU] at h;subst h;rfl
 |a::l,vs,acc,r,h,k=>by
  obtain ⟨v,vs',rfl,A,hvs⟩:=k.cons_inv;unfold hU at h;split at h;rename_i kY;cases kY;rename_i b r' heq;cases heq;cases A.x_inv;have hm:(if b<acc then b else acc)=min acc b:=VO
  simp only [List.foldlM_cons,Builtin.min2,hm,At,Bv,Au];exact S6 l vs' _ r h hvs;cases h
theorem S7{e:UP}{w:World}: ∀(l:List AV) (vs:List Value) (acc r:Int),hU true acc l=some r->U8 e w l vs->(vs.foldlM Builtin.max2 (.int .i64 acc)).run P w= .ok (.int .i64 r) w
 |[],vs,acc,r,h,k=>by cases k.nil_inv;simp [hU] at h;subst h;rfl
 |a::l,vs,acc,r,h,k=>by
  obtain ⟨v,vs',rfl,A,hvs⟩:=k.cons_inv;unfold hU at h;split at h;rename_i kY;cases kY;rename_i b r' heq;cases heq;cases A.x_inv;have hm:(if b>acc then b else acc)=max acc b:=VO
  simp only [List.foldlM_cons,Builtin.max2,hm,At,Bv,Au];exact S7 l vs' _ r h hvs;cases h
def fO(P:Program)(m:HA)(b:Builtin)(ts:List TypeId)(args:List AV):Option Out:=
 match b with
 | .len=>match ts,args with
  |[t],[x]=>Wl6 P m t x
  |_,_=>none
 | .min=>match args with
  | .x (.int .i64 a)::r=>match hU false a r with
   |some n=>some ([],.x (.int .i64 n),none)
   |none=>none
  |_=>none
 | .max=>match args with
  | .x (.int .i64 a)::r=>match hU true a r with
   |some n=>some ([],.x (.int .i64 n),none)
   |none=>none
  |_=>none
 |_=>none
theorem AN{e:UP}{B:Nat}{w:World}{m:HA}{id:Nat}{b:Builtin}{ts:Array TypeId}{ty:TypeId}{cs:Array Bool}{args:List AV}{vs:List Value}{ns:List Prop}{val:AV}{add:Option GU}(h:fO P m b ts.toList args=some (ns,val,add))
  (hE:GB e B w)(hm:G5 e m w)(r:U8 e w args vs): ∃u w',(builtin b ts ty cs vs.toArray).run P w= .ok (.value u) w'/\LY e B w m id val add u w':=by
 unfold fO at h;split at h;split at h;rename_i t x hts;obtain ⟨v,vs',rfl,A,hvs⟩:=r.cons_inv;cases hvs.nil_inv;obtain ⟨u,w',h1,h2⟩:=lC (P:=P) (ty:=ty) (id:=id) h hE hm A;have hts':ts=#[t]:=Array.ext' (by simpa using hts)
 exact ⟨u,w',by simp [builtin,hts',h1],h2⟩
 cases h;split at h;rename_i a l;split at h;rename_i n hn;cases h;obtain ⟨v,vs',rfl,A,hvs⟩:=r.cons_inv;cases A.x_inv;exact ⟨_,w,by simp [builtin,Builtin.min_,S6 (P:=P) l vs' a n hn hvs],UQ hE hm (.x _)⟩
 cases h;cases h;split at h;rename_i a l;split at h;rename_i n hn;cases h;obtain ⟨v,vs',rfl,A,hvs⟩:=r.cons_inv;cases A.x_inv;exact ⟨_,w,by simp [builtin,Builtin.max_,S7 (P:=P) l vs' a n hn hvs],UQ hE hm (.x _)⟩
 cases h;cases h;cases h
end
def Wb1:List AV->Option (List Value)
 |[]=>some []
 | .x v::t=>match Wb1 t with
  |some vs=>some (v::vs)
  |none=>none
 |_=>none
def CO:AV->Option Value
 | .x v=>some v
 | .lit b=>some (.bool b)
 | .agg l=>match Wb1 l with
  |some vs=>some (.agg vs.toArray)
  |none=>none
 |_=>none
theorem eM{e:UP}{w:World}: ∀{l:List AV} {vs us:List Value},Wb1 l=some vs->U8 e w l us->us=vs
 |[],vs,us,h,r=>by
  simp only [Wb1,HL] at h;rw [r.nil_inv,←h]
 |a::l,vs,us,h,r=>by
  obtain ⟨u,us',rfl,W,r'⟩:=r.cons_inv;unfold Wb1 at h;split at h;rename_i heq;cases heq;rename_i v t heq;cases heq;split at h;rename_i vs' ht;cases h;rw [W.x_inv,eM ht r'];cases h;cases h
theorem xM{e:UP}{w:World}{a:AV}{v u:Value}(h:CO a=some v)(r:Rep e w a u):u=v:=by
 unfold CO at h;split at h;cases h;exact r.x_inv;cases h;exact r.lit_inv;split at h;rename_i vs hx;cases h;obtain ⟨us,rfl,I⟩:=r.agg_inv;rw [eM hx I];cases h;cases h
def aD(P:Program)(t:TypeId):Bool:=match P.underlying t with
 |some (.interface _)=>false
 |some _=>true
 |none=>false
def a7(P:Program)(t:TypeId):Option Value:=match P.info? t with
 |some i=>i.zero
 |none=>none
def Zy7:Value->AV
 | .agg xs=> .agg (xs.toList.map .x)
 | .bool b=> .lit b
 |v=> .x v
theorem nN(e:UP)(w:World)(v:Value):Rep e w (Zy7 v) v:=by
 cases v with
 |agg xs=>
  have:=U8.xs e w xs.toList;have:=Rep.aggL this;rw [Array.toArray_toList] at this;exact this
 |bool b=>exact .lit b
 |_=>exact .x _
def Wn0(P:Program)(t:TypeId):Option AV:=match a7 P t with
 |some z=>some (.tup [Zy7 z,.lit false])
 |none=>none
theorem A0{P:Program}{t:TypeId}(h:aD P t=true): ∃d,P.underlying t=some d/\ ∀l,d≠ .interface l:=by
 unfold aD at h;split at h;cases h;rename_i d hd W;exact ⟨d,W,hd⟩;cases h
theorem Qt2{P:Program}{t:TypeId}{av:AV}(h:Wn0 P t=some av)(e:UP)(w:World): ∃z,(zeroValue t).run P w= .ok z w/\Rep e w av (.tuple #[z,.bool false]):=by
 unfold Wn0 a7 at h;split at h;rename_i z hz;split at hz;rename_i i O;cases h;refine ⟨z,by simp [zeroValue,typeInfo,O,hz],?_⟩
 simpa using Rep.tupL (U8.cons (nN e w z) (U8.cons (.lit false) (U8.nil e w)));cases hz;cases h
section
variable (P:Program)(t:TypeId)
def aZ(a:AV):Option Out:=match aD P t with
 |true=>match CO a with
  |some v=>some ([],.x (.iface t v),none)
  |none=>none
 |false=>none
def Qg9:Option Out:=match Wn0 P t with
 |some a=>some ([],a,none)
 |none=>none
def IG(ok:Bool)(a:AV):Option Out:=match ok with
 |true=>match aD P t with
  |true=>match a with
   | .x (.iface d v)=>match Nat.beq d t with
    |true=>some ([],.tup [Zy7 v,.lit true],none)
    |false=>Qg9 P t
   | .x .nilIface=>Qg9 P t
   |_=>none
  |false=>none
 |false=>none
end
def Wl5(P:Program)(op:BinOp)(t:TypeId)(a:AV):Option Out:=match P.underlying t with
 |some (.interface _)=>match op,a with
  | .eql,.x .nilIface=>some ([],.lit true,none)
  | .neq,.x .nilIface=>some ([],.lit false,none)
  | .eql,.x (.iface _ _)=>some ([],.lit false,none)
  | .neq,.x (.iface _ _)=>some ([],.lit true,none)
  |_,_=>none
 |_=>none
section
variable {P:Program}{e:UP}{B:Nat}{w:World}{m:HA}{id:Nat}{ns:List Prop}{val:AV}{add:Option GU}
theorem O4{t:TypeId}{a:AV}{v:Value}(h:aZ P t a=some (ns,val,add))(hE:GB e B w)(hm:G5 e m w)(r:Rep e w a v):
  ∃u w',(Instr.makeInterface t v).run P w= .ok u w'/\LY e B w m id val add u w':=by
 unfold aZ at h;split at h;rename_i hp;split at h;rename_i v' A;cases h;obtain ⟨d,W,hd⟩:=A0 hp;have hx:=xM A r;subst hx;refine ⟨.iface t v,w,?_,UQ hE hm (.x _)⟩;cases d<;>first|exact absurd rfl (hd _)|simp [Instr.makeInterface,run_underlying W]
 cases h;cases h
theorem SB{t:TypeId}(h:Qg9 P t=some (ns,val,add))(hE:GB e B w)(hm:G5 e m w): ∃z,(zeroValue t).run P w= .ok z w/\LY e B w m id val add (.tuple #[z,.bool false]) w:=by
 unfold Qg9 at h;split at h;rename_i a Z;cases h;obtain ⟨z,hz,GS⟩:=Qt2 Z e w;exact ⟨z,hz,UQ hE hm GS⟩;cases h
theorem IF{t xt:TypeId}{ok:Bool}{a:AV}{v:Value}(h:IG P t ok a=some (ns,val,add))(hE:GB e B w)(hm:G5 e m w)(r:Rep e w a v):
  ∃u w',(Instr.typeAssert v xt t ok).run P w= .ok u w'/\LY e B w m id val add u w':=by
 unfold IG at h;split at h;split at h;rename_i hp;obtain ⟨d,W,hd⟩:=A0 hp;split at h;rename_i k u;have hx:=r.x_inv;subst hx;split at h;rename_i hk;cases h;have hk':k=t:=H5 hk;subst hk';refine ⟨.tuple #[u,.bool true],w,?_,UQ hE hm (Rep.tupL (U8.cons (nN e w u) (U8.cons (.lit true) (U8.nil e w))))⟩;cases d<;>first|exact absurd rfl (hd _)|simp [Instr.typeAssert,run_underlying W]
 rename_i hk;have hk':k≠t:=λhe=>by subst he;simp at hk
 obtain ⟨z,hz,hc⟩:=SB (id:=id) h hE hm;refine ⟨.tuple #[z,.bool false],w,?_,hc⟩;cases d<;>first|exact absurd rfl (hd _)|simp [Instr.typeAssert,run_underlying W,hk',hz]
 have hx:=r.x_inv;subst hx;obtain ⟨z,hz,hc⟩:=SB (id:=id) h hE hm;refine ⟨.tuple #[z,.bool false],w,?_,hc⟩;cases d<;>first|exact absurd rfl (hd _)|simp [Instr.typeAssert,run_underlying W,hz]
 cases h;cases h;cases h
theorem lB{t:TypeId}{op:BinOp}{ox:Operand}{a:AV}{v:Value}(h:Wl5 P op t a=some (ns,val,add))(hE:GB e B w)(hm:G5 e m w)(r:Rep e w a v):
  ∃u w',(do eqGuard op t ox (.const .nilIface) v .nilIface;binOp op t v .nilIface:Sem Value).run P w= .ok u w'/\LY e B w m id val add u w':=by
 unfold Wl5 at h;split at h;rename_i l W;have e1:(Op.equal t .nilIface .nilIface).run P w= .ok true w:=by
  unfold Op.equal;rw [show Op.maxDepth=(Op.maxDepth-1)+1 by decide]
  simp [Op.equalIn,run_underlying W]
 have e2: ∀d u,(Op.equal t (.iface d u) .nilIface).run P w= .ok false w:=by
  intro d u;unfold Op.equal;rw [show Op.maxDepth=(Op.maxDepth-1)+1 by decide]
  simp [Op.equalIn,run_underlying W]
 split at h;cases h;rw [r.x_inv];exact ⟨.bool true,w,by simp [eqGuard,binOp,e1],UQ hE hm (.lit true)⟩
 cases h;rw [r.x_inv];exact ⟨.bool false,w,by simp [eqGuard,binOp,e1],UQ hE hm (.lit false)⟩
 cases h;rw [r.x_inv];exact ⟨.bool false,w,by simp [eqGuard,binOp,e2],UQ hE hm (.lit false)⟩
 cases h;rw [r.x_inv];exact ⟨.bool true,w,by simp [eqGuard,binOp,e2],UQ hE hm (.lit true)⟩
 cases h;cases h
end
def Wy9(P:Program)(t:TypeId):Bool:=match P.underlying t with
 |some (.struct _)=>false
 |some (.array _ _)=>false
 |some _=>true
 |none=>false
theorem tY{P:Program}{t:TypeId}(h:Wy9 P t=true){w:World}{cs:Array Value}{off:Nat}{v:Value}(A:cs[off]? =some v):(part t cs off).run P w= .ok v w:=by
 unfold Wy9 at h;cases W:P.underlying t with
 |none=>rw [W] at h;cases h
 |some d=>
  rw [W] at h;cases d<;>first|(cases h;done)|simp [part,isAgg,run_underlying W,A]
def nJ(s:ByteArray)(k:Nat):Int:=match s[k]? with
 |some b=>b.toNat
 |none=>0
def aY(P:Program)(t:TypeId)(a ix:AV):Option Out:=match ix with
 | .x (.int _ i)=>match P.underlying t with
  |some (.array n el)=>match a with
   | .agg l=>match qZ l with
    |some js=>match P.info? el with
     |some info=>match Wy9 P el&&(Nat.beq info.size 1&&Nat.beq js.length n) with
      |true=>some ([0<=i/\i<(n:Int)],.x (.int .i64 (UE js i.toNat)),none)
      |false=>none
     |none=>none
    |none=>none
   |_=>none
  |some .string=>match a with
   | .x (.string s)=>some ([0<=i/\i.toNat<s.size],.x (.int .u8 (nJ s i.toNat)),none)
   |_=>none
  |_=>none
 |_=>none
theorem O0{P:Program}{e:UP}{B:Nat}{w:World}{m:HA}{id:Nat}{ns:List Prop}{val:AV}{add:Option GU}{t:TypeId}{a ix:AV}{v vi:Value}(h:aY P t a ix=some (ns,val,add))(hn: ∀p∈ns,p)(hE:GB e B w)(hm:G5 e m w)(ra:Rep e w a v)(ri:Rep e w ix vi):
  ∃u w',(Instr.index t v vi).run P w= .ok u w'/\LY e B w m id val add u w':=by
 unfold aY at h;split at h;rename_i k i;cases ri.x_inv;split at h;rename_i n el W;split at h;rename_i l;split at h;rename_i js hjs;split at h;rename_i info O;split at h;rename_i hb;simp only [HF] at hb;obtain ⟨hf,h1,h2⟩:=hb;have h1:=H5 h1;have h2:=H5 h2;simp only [HL,FI] at h;obtain ⟨rfl,rfl,rfl⟩:=h;have hb:0<=i/\i<(n:Int):=hn _ VY;obtain ⟨vs,rfl,I⟩:=ra.agg_inv;have hlt:i.toNat<js.length:=VO;have hl:l[i.toNat]? =some (.x (.int .i64 (UE js i.toNat))):=by
  rw [fY hjs];simp [HY,List.getElem?_range hlt]
 obtain ⟨u,hu',GS⟩:=I.get hl;refine ⟨u,w,?_,UQ hE hm GS⟩;have hp:=tY (w:=w) hf (cs:=vs.toArray) (off:=i.toNat) (v:=u) (by simpa using hu')
 simp [Instr.index,asIntOf,run_underlying W,if_pos hb,sizeOf,typeInfo,O,h1,hp];cases h;cases h;cases h;cases h;rename_i W;split at h;rename_i s;simp only [HL,FI] at h;obtain ⟨rfl,rfl,rfl⟩:=h;have hb:0<=i/\i.toNat<s.size:=hn _ VY;cases ra.x_inv;have hg:s[i.toNat]? =some s[i.toNat]:=getElem?_pos s i.toNat hb.2;refine ⟨.int .u8 (nJ s i.toNat),w,?_,UQ hE hm (.x _)⟩;simp [Instr.index,asIntOf,run_underlying W,if_pos hb.1,nJ,hg];cases h;cases h;cases h
def DJ(m:HA):Nat->AV->AV
 | 0,a=>match a with
  | .lit b=> .lit b
  | .x v=> .x v
  | .ro l=> .ro l
  | .lst a b c=> .lst a b c
  | .roI a b c d=> .roI a b c d
  |_=> .top
 |d+1,a=>match a with
  | .ptr id off=>match DN m id with
   |some (.cells _ l)=>match Nat.ble off l.length with
    |true=> .ro ((l.drop off).map (DJ m d))
    |false=> .top
   |some (.ints _ pre n f)=> .roI (pre.map (DJ m d)) n f off
   |some (.keep _ l)=> .ro ((l.drop off).map (DJ m d))
   |_=> .top
  | .row id=>match DN m id with
   |some (.row _ sz n f)=> .lst sz n f
   |_=> .top
  | .agg l=> .agg (l.map (DJ m d))
  | .tup l=> .tup (l.map (DJ m d))
  | .fn f l l'=> .fn f (l.map (DJ m d)) (l'.map (DJ m d))
  | .elt _ _ _ _=> .top
  | .mp _=> .top
  |a=>a
def UP.view(e:UP):UP:={e with ro:=λb=>e.ro b\/ ∃id,e.own b=some id,own:=λ_=>none}
theorem Step.view{e:UP}(w:World):Step e e.view w w:=⟨λ_ _ h=>⟨.inl h,rfl⟩,λ_ h=>⟨h,rfl,rfl⟩,Am _⟩
theorem U8.map{e e':UP}{w:World}{l:List AV}{vs:List Value}(g:AV->AV)(hg: ∀a v,Rep e w a v->Rep e' w (g a) v)(h:U8 e w l vs):U8 e' w (l.map g) vs:=by
 refine ⟨by simp [h.1],λi a v Z A=>?_⟩
 rw [Bn,Ay] at Z;obtain ⟨a',ha',rfl⟩:=Z;exact hg _ _ (h.2 i a' v ha' A)
theorem DZ{g:AV->AV}{e:UP}{w:World}(hg: ∀a v,Rep e w a v->Idf (g a)){l:List AV}{vs:List Value}(h:U8 e w l vs): ∀a∈l.map g,Idf a:=by
 intro a Z;obtain ⟨b,hb,rfl⟩:=List.mem_map.1 Z;obtain ⟨i,O⟩:=xJ.1 hb;obtain ⟨v,A,r⟩:=h.get O;exact hg b v r
theorem CL(m:HA)(d:Nat)(pre:List AV)(n:Nat)(f:Cg):(pre++HY n f).map (DJ m d)=pre.map (DJ m d)++HY n f:=by
 rw [List.map_append]
 congr 1
 unfold HY;rw [List.map_map]
 congr 1
 funext k;cases d<;>rfl
theorem RS{e:UP}{w:World}{m:HA}(hm:G5 e m w): ∀(d:Nat) (a:AV) (v:Value),Rep e w a v->Idf (DJ m d a)
 | 0,a,v,h=>by
  cases h with
  |lit b=>exact .lit b
  |x v=>exact .x v
  |ro l vs b o h1 h2 h3 h4 h5 h6=>exact .ro l h3
  |lstNil sz f=>exact .lst sz 0 f (λi O=>VO)
  |lst sz n f b o cap g h1 h2 h3 h4 h5 h6 h7 h8 ad had=>exact .lst sz n f h3
  |roI pre n f off b o I=>cases I with|ro _ vs _ _ h1 h2 h3 h4 h5 h6=>exact .roI pre n f off (.ro _ h3)
  |_=>exact .top
 |d+1,a,v,h=>by
  have ih:=RS hm d;cases h with
  |top v=>exact .top
  |lit b=>exact .lit b
  |x v=>exact .x v
  |agg l vs h1 h2=>exact .agg _ (DZ ih (⟨h1,h2⟩:U8 e w l vs))
  |tup l vs h1 h2=>exact .tup _ (DZ ih (⟨h1,h2⟩:U8 e w l vs))
  |fn f l l' vs vs' h1 h2 h3 h4=>exact .fn f _ _ (DZ ih (⟨h1,h2⟩:U8 e w l vs)) (DZ ih (⟨h3,h4⟩:U8 e w l' vs'))
  |ptr id off hl=>
   simp only [DJ];split;rename_i T l hg;split;obtain ⟨_,HD,vs,h3,h4⟩:=hm _ (GA hg);exact .ro _ (DZ ih (h4.drop off));exact .top;rename_i T pre n f hg;obtain ⟨_,HD,vs,h3,h4⟩:=hm _ (GA hg);have:=DZ ih h4;rw [CL] at this;exact .roI _ n f off (.ro _ this);rename_i T l hg;obtain ⟨_,_,_,vs,h3,h4⟩:=hm _ (GA hg);exact .ro _ (DZ ih (h4.drop off));exact .top
  |row id a n c hl A=>
   simp only [DJ];split;rename_i T sz n' f hg;obtain ⟨_,HD,hf,_⟩:=hm _ (GA hg);exact .lst sz n' f (λi O=>(hf i O).2);exact .top
  |elt id sz i j b n cap hl A=>exact .top
  |mp id hl=>exact .top
  |mpr g okf vals b es c h1 h2 h3 h4 h5 h6 h7 h8=>exact .mpr g okf h3
  |any1 v A=>exact .any1
  |roI pre n f off b o I=>cases I with|ro _ vs _ _ h1 h2 h3 h4 h5 h6=>exact .roI pre n f off (.ro _ h3)
  |ro l vs b o h1 h2 h3 h4 h5 h6=>exact .ro l h3
  |lstNil sz f=>exact .lst sz 0 f (λi O=>VO)
  |lst sz n f b o cap g h1 h2 h3 h4 h5 h6 h7 h8 ad had=>exact .lst sz n f h3
theorem LL{e:UP}{B:Nat}{w:World}{m:HA}(hE:GB e B w)(hm:G5 e m w): ∀(d:Nat) (a:AV) (v:Value),Rep e w a v->Rep e.view w (DJ m d a) v
 | 0,a,v,h=>by
  have:=h.step (Step.view w);cases a<;>first|exact this|exact .top v
 |d+1,a,v,h=>by
  have ih:=LL hE hm d;have ihf:=RS hm d;cases h with
  |top v=>exact .top v
  |lit b=>exact .lit b
  |x v=>exact .x v
  |agg l vs h1 h2=>exact Rep.aggL (U8.map _ ih ⟨h1,h2⟩)
  |tup l vs h1 h2=>exact Rep.tupL (U8.map _ ih ⟨h1,h2⟩)
  |fn f l l' vs vs' h1 h2 h3 h4=>
   have k1:U8 e w l vs:=⟨h1,h2⟩;have k2:U8 e w l' vs':=⟨h3,h4⟩;exact .fn f _ _ vs vs' (U8.map _ ih k1).1 (U8.map _ ih k1).2 (U8.map _ ih k2).1 (U8.map _ ih k2).2
  |ptr id off hl=>
   simp only [DJ];split;rename_i T l hg;split;obtain ⟨_,HD,vs,h3,h4⟩:=hm _ (GA hg);have hlt:=(hE.owned _ _ HD).2;have k:=U8.map (DJ m d) ih (h4.drop off);refine .ro _ (vs.drop off) (e.blk id) off (.inr ⟨_,HD⟩) hlt (DZ ihf (h4.drop off)) k.1 ?_ k.2;intro j v hj;rw [List.getElem?_drop] at hj;simp [World.cell?,h3,hj];exact .top _;rename_i T pre n f hg;obtain ⟨_,HD,vs,h3,h4⟩:=hm _ (GA hg);have hlt:=(hE.owned _ _ HD).2;have k:=U8.map (DJ m d) ih h4;have kf:=DZ ihf h4;rw [CL] at k kf;have hc: ∀(j:Nat) (v:Value),vs[j]? =some v->w.cell? ⟨e.blk id,0+j,none⟩=some v:=by
    intro j v hj;simp [World.cell?,h3,hj]
   have:=Rep.roI (e:=e.view) (w:=w) (pre.map (DJ m d)) n f off (e.blk id) 0 (.ro _ vs _ 0 (.inr ⟨_,HD⟩) hlt kf k.1 hc k.2)
   rwa [Ap] at this
   rename_i T l hg;obtain ⟨_,hro,hlt,vs,h3,h4⟩:=hm _ (GA hg);have k:=U8.map (DJ m d) ih (h4.drop off);refine .ro _ (vs.drop off) (e.blk id) off (.inl hro) hlt (DZ ihf (h4.drop off)) k.1 ?_ k.2;intro j v hj;rw [List.getElem?_drop] at hj;simp [World.cell?,h3,hj];exact .top _
  |row id a n c hl A=>
   simp only [DJ];split;rename_i T sz n' f hg;obtain ⟨_,HD,hf,xs,hx,GS⟩:=hm _ (GA hg);rcases hx.2 with ⟨hv0,hn0⟩|⟨g,cap,cur,hv0,_,hgg,hnc,hcm,hcs,kX⟩;rw [A] at hv0;cases hv0;subst hn0;exact .lstNil _ _;have hob:e.own g=some id:=HD g (by rw [hv0];rfl)
   have hlt:=(hE.owned _ _ hob).2;rw [A] at hv0;cases hv0;refine Rep.lst (e:=e.view) (w:=w) sz _ _ g 0 _ (λi j=>xs.getD (i*sz+j) .nilIface) (λ_=> .inr ⟨_,hob⟩) (λ_=>hlt) (λi O=>(hf i O).2) hnc hcm ?_ (λi O=>(hf i O).1) ?_ _ (λ_=>rfl);intro i j O hj;have hle:i*sz+sz<=n*sz:=by
    have:=BS sz (Az O)
    rwa [Bq] at this
   have kZ:i*sz+j<xs.length:=by rw [hx.1];omega
   have hc:=hx.cells (g:=g) (by rw [A];rfl) (i*sz+j) xs[i*sz+j] (D8 kZ)
   rw [DI] at hc;rw [hc];simp [List.getD,D8 kZ];intro i j a ha' Z;have hj:j<sz:=by rw [←(hf i ha').1];exact (RA.1 Z).1
   have hle:i*sz+sz<=n*sz:=by
    have:=BS sz (Az ha')
    rwa [Bq] at this
   have kZ:i*sz+j<xs.length:=by rw [hx.1];omega
   have:=GS i j a xs[i*sz+j] ha' Z (D8 kZ);simp only [List.getD,D8 kZ,GW];exact this.step (Step.view w);exact .top _
  |elt id sz i j b n cap hl A=>exact .top _
  |mp id hl=>exact .top _
  |mpr g okf vals b es c h1 h2 h3 h4 h5 h6 h7 h8=>exact (Rep.mpr (e:=e) (w:=w) g okf vals b es c h1 h2 h3 h4 h5 h6 h7 h8).step (Step.view w)
  |any1 v A=>exact .any1 v A
  |roI pre n f off b o I=>exact (Rep.roI (e:=e) (w:=w) pre n f off b o I).step (Step.view w)
  |ro l vs b o h1 h2 h3 h4 h5 h6=>exact (Rep.ro (e:=e) (w:=w) l vs b o h1 h2 h3 h4 h5 h6).step (Step.view w)
  |lstNil sz f=>exact .lstNil sz f
  |lst sz n f b o cap g h1 h2 h3 h4 h5 h6 h7 h8 ad had=>exact (Rep.lst (e:=e) (w:=w) sz n f b o cap g h1 h2 h3 h4 h5 h6 h7 h8 ad had).step (Step.view w)
def PS(w w':World):UP:={ro:=λb=>w.heap.size<=b/\b<w'.heap.size,own:=λ_=>none,live:=λ_=>False,blk:=λ_=>0,val:=λ_=> .nilIface}
section
variable (P:Program)(f:FuncId)
def U2(avs:List AV)(res:AV):Prop:=
 ∀(e:UP) (w:World) (args:List Value),(∀b,e.ro b->b<w.heap.size)->D2 e w->(∀a∈avs,Idf a)->U8 e w avs args->
  Calls P f args.toArray w λen w'=> ∃v,en= .returned v/\Below w.heap.size w w'/\Rep (PS w w') w' res v
abbrev Spec:=List AV->Option (List Prop×AV)
def Enters:Prop:= ∃fn,P.funcs[f]? =some fn/\(fn.name== "runtime.NumGoroutine")=false/\fn.body.isNone=false
def VT(s:Spec):Prop:=Enters P f/\ ∀avs ns res,s avs=some (ns,res)->(∀p∈ns,p)->U2 P f avs res
end
def VP(P:Program)(G:List (Nat×Spec)):Prop:= ∀p∈G,VT P p.1 p.2
theorem VP.nil(P:Program):VP P []:=λ_ h=>by cases h
theorem VP.cons{P:Program}{f:Nat}{s:Spec}{G:List (Nat×Spec)}(h:VT P f s)(k:VP P G):VP P ((f,s)::G):=by
 intro p hp;rcases GT.1 hp with rfl|hp;exact h;exact k p hp
def tW:List (Nat×Spec)->Nat->Option Spec
 |[],_=>none
 |(k,s)::t,f=>match Nat.beq k f with
  |true=>some s
  |false=>tW t f
theorem mQ{G:List (Nat×Spec)}{f:Nat}{s:Spec}(h:tW G f=some s):(f,s)∈G:=by
 induction G with
 |nil=>simp [tW] at h
 |cons p t ih=>
  obtain ⟨k,r'⟩:=p;unfold tW at h;split at h;rename_i hk;have:k=f:=H5 hk;subst this;cases h;exact GN;exact D1 _ (ih h)
theorem LP{P:Program}{f:FuncId}(h:Enters P f)(args:Array Value)(w:World):(callFunc f args).run P w= .ok (.enter f args) w:=by
 obtain ⟨fn,h1,h2,h3⟩:=h;have h2':fn.name≠ "runtime.NumGoroutine":=by simpa using h2
 have h3':fn.body≠none:=by intro h;rw [h] at h3;cases h3
 simp [callFunc,h1,h2',h3']
def UP.more(e:UP)(w w':World):UP:={e with ro:=λb=>e.ro b\/(w.heap.size<=b/\b<w'.heap.size) }
theorem TB{e:UP}{B:Nat}{w w':World}{m:HA}{id:Nat}{res:AV}{v:Value}(hE:GB e B w)(hm:G5 e m w)(hb:Below w.heap.size w w')(r:Rep (PS w w') w' res v):LY e B w m id res none v w':=by
 have st:Step e (e.more w w') w w':=⟨λb hlt I=>⟨.inl I,hb.block b hlt⟩,λ_ h=>⟨h,rfl,rfl⟩,hb.size⟩;refine ⟨e.more w w',hb,st,⟨?_,?_,hE.glob.step st⟩,λ_ _ h=>h,?_,hm.ext hb st (λ_ _ h=>h),λ_ h=> .inl h,λ_ h=>h.imp (λh=>h) (λh=>h.1)⟩;rintro b (I|⟨h1,h2⟩);have:=hE.apart b I;have:=hb.size;exact ⟨(hE.apart b I).1,VO⟩;refine ⟨?_,h2⟩;cases ho:(e.more w w').own b with
 |none=>rfl
 |some k=>have:=(hE.owned b k ho).2;omega
 intro b k hk;have:=hE.owned b k hk;have:=hb.size;exact ⟨(hE.owned b k hk).1,VO⟩;have st2:Step (PS w w') (e.more w w') w' w':=⟨λb _ h=>⟨Or.inr h,rfl⟩,λ_ h=>False.elim h,Am _⟩;exact r.step st2
def Wl7(G:List (Nat×Spec))(m:HA)(f:AV)(args:List AV):Option Out:=
 match f with
 | .fn (.func g) first caps=>match tW G g with
  |some s=>match s ((first++args++caps).map (DJ m 40)) with
   |some (ns,r)=>some (ns,r,none)
   |none=>none
  |none=>none
 |_=>none
def aW(P:Program)(t:TypeId)(ok:Bool)(x k:AV):Option Out:=match ok with
 |true=>match x with
  | .mpr g okf=>match k with
   | .x (.string s)=>match P.underlying t with
    |some (.map kt et)=>match P.underlying kt with
     |some .string=>match a7 P et with
      |some (.agg z)=>match Nat.beq z.size (g s).length&&z.toList.all Value.oneCell' with
       |true=>some ([],.tup [.agg (g s),.x (.bool (okf s))],none)
       |false=>none
      |_=>none
     |_=>none
    |_=>none
   |_=>none
  |_=>none
 |false=>none
theorem A4{P:Program}{e:UP}{w:World}{t:TypeId}{ok:Bool}{x k:AV}{vx vk:Value}{ns:List Prop}{val:AV}{add:Option GU}(h:aW P t ok x k=some (ns,val,add))
  (rx:Rep e w x vx)(rk:Rep e w k vk):add=none/\ ∃u,(Instr.lookup t vx vk ok).run P w= .ok u w/\Rep e w val u:=by
 unfold aW at h;split at h;split at h;rename_i g okf;split at h;rename_i s;cases rk.x_inv;split at h;rename_i kt et h1;split at h;rename_i h2;split at h;rename_i z hz;split at h;rename_i hb;simp only [HL,FI] at h;obtain ⟨rfl,rfl,rfl⟩:=h;simp only [HF] at hb;have D5:=H5 hb.1;have Jp6:(zeroValue et).run P w= .ok (.agg z) w:=by
  unfold a7 at hz;split at hz;rename_i it O;simp [zeroValue,typeInfo,O,hz];cases hz
 cases rx with
 |mpr _ _ vals b es c g1 g2 g3 g4 g5 g6 g7 g8=>
  have hck:(Instr.checkKey es.isEmpty 10000 kt (.string s)).run P w= .ok () w:=by
   unfold Instr.checkKey;simp [run_underlying h2]
  cases ho:okf s with
  |true=>
   obtain ⟨j,hj⟩:=g5 s ho;refine ⟨rfl,.tuple #[.agg (vals s).toArray,.bool true],?_,Rep.tupL (U8.cons (Rep.aggL ⟨g7 s ho,λi a v Z A=>g8 s i a v ho Z A⟩) (U8.one (.x _)))⟩;simp [Instr.lookup,run_underlying h1,MapKept.run_getObj_map g4,hck,Instr.findKey,run_underlying h2,hj,Result.andThen]
  |false=>
   obtain ⟨hj,ht⟩:=g6 s ho;refine ⟨rfl,.tuple #[.agg z,.bool false],?_,Rep.tupL (U8.cons ?_ (U8.one (.x _)))⟩;simp [Instr.lookup,run_underlying h1,MapKept.run_getObj_map g4,hck,Instr.findKey,run_underlying h2,hj,Jp6,Result.andThen];have hza:z=z.toList.toArray:=VY;rw [hza];refine Rep.aggL ⟨by simp [←D5],λi a v Z A=>?_⟩
   rcases ht a (F9 Z) with rfl|rfl;exact .top v;exact .any1 v (BF.1 hb.2 v (F9 A))
 cases h;cases h;cases h;cases h;cases h;cases h;cases h
theorem aV{P:Program}{e:UP}{B:Nat}{w:World}{m:HA}{id:Nat}{t:TypeId}{ok:Bool}{x k:AV}{vx vk:Value}{ns:List Prop}{val:AV}{add:Option GU}(h:aW P t ok x k=some (ns,val,add))(hE:GB e B w)(hm:G5 e m w)
  (rx:Rep e w x vx)(rk:Rep e w k vk): ∃u w',(Instr.lookup t vx vk ok).run P w= .ok u w'/\LY e B w m id val add u w':=by
 obtain ⟨rfl,u,h1,h2⟩:=A4 h rx rk;exact ⟨u,w,h1,UQ hE hm h2⟩
def aop(P:Program)(G:List (Nat×Spec))(id:Nat)(m:HA)(ρ:Operand->AV)(op:Op):Option Out:=
 match op with
 | .move x=>some ([],ρ x,none)
 | .assign x=>some ([],ρ x,none)
 | .pick c a b=>match ρ c with
  | .lit true=>some ([],ρ a,none)
  | .lit false=>some ([],ρ b,none)
  |_=>none
 | .alloc t=>match P.info? t with
  |some i=>match i.zero with
   |some z=>some ([],.ptr id 0,some (MY true t (z.cells.toList.map .x)))
   |none=>none
  |none=>none
 | .box t x=>match (ρ x).cellsOf with
  |some l=>some ([],.ptr id 0,some (MY false t l))
  |none=>none
 | .build t parts=>b8 P t (parts.toList.map λp=>(p.1,ρ p.2))
 | .buildSlice t len parts=>match Nat.beq len 0&& !parts.toList.isEmpty with
  |true=>none
  |false=>jA P id t len (parts.toList.map λp=>(p.1,ρ p.2))
 | .load t x=>BW P m t (ρ x)
 | .nilCheck x=>match ρ x with
  | .ptr i o=>some ([],.ptr i o,none)
  | .ro l=>some ([],.ro l,none)
  | .elt a b c d=>some ([],.elt a b c d,none)
  | .roI a b c d=>some ([],.roI a b c d,none)
  | .fn (.func f) l l'=>some ([],.fn (.func f) l l',none)
  |_=>none
 | .binOp op t x y _=>match y with
  | .const .nilIface=>Wl5 P op t (ρ x)
  |_=>Wl8 P op t (ρ x) (ρ y)
 | .makeInterface t x=>aZ P t (ρ x)
 | .typeAssert x _ t ok=>IG P t ok (ρ x)
 | .unOp op _ x=>Zs5 op (ρ x)
 | .convert s d x=>sJ P s d (ρ x)
 | .makeFunc fn first caps=>some ([],.fn fn (first.toList.map ρ) (caps.toList.map ρ),none)
 | .slice t x U O mx=>match mx with
  |none=>aU P t (ρ x) (U.map ρ) (O.map ρ)
  |some _=>none
 | .fieldAddr t x k=>wP P t k (ρ x)
 | .field t x k=>C1 P t k (ρ x)
 | .indexAddr t x i=>kQ P m t (ρ x) (ρ i)
 | .index t x i=>aY P t (ρ x) (ρ i)
 | .makeSlice t l c=>kO P id t (ρ l) (ρ c)
 | .lookup t x k ok=>aW P t ok (ρ x) (ρ k)
 | .extract x i=>match ρ x with
  | .tup l=>vU l[i]?
  |_=>none
 | .makeMap _ r=>match r with
  |none=>some ([],.mp id,some (.memo (λ_=>False) (λv=>v)))
  |some _=>none
 | .call c=>match c.callee with
  | .builtin b=>fO P m b c.argTypes.toList (c.args.toList.map ρ)
  | .value f=>Wl7 G m (ρ f) (c.args.toList.map ρ)
  |_=>none
 |_=>none
theorem Rep.ptr_inv{e:UP}{w:World}{i o:Nat}{v:Value}(h:Rep e w (.ptr i o) v): ∃ad,v= .pointer (some ad):=by cases h;exact ⟨_,rfl⟩
theorem Rep.ro_inv{e:UP}{w:World}{l:List AV}{v:Value}(h:Rep e w (.ro l) v): ∃ad,v= .pointer (some ad):=by cases h;exact ⟨_,rfl⟩
theorem Rep.roI_inv{e:UP}{w:World}{p:List AV}{i o:Nat}{f:Cg}{v:Value}(h:Rep e w (.roI p i f o) v): ∃ad,v= .pointer (some ad):=by cases h;exact ⟨_,rfl⟩
theorem Rep.elt_inv{e:UP}{w:World}{i o p q:Nat}{v:Value}(h:Rep e w (.elt i o p q) v): ∃ad,v= .pointer (some ad):=by cases h;exact ⟨_,rfl⟩
theorem DA{P:Program}{o:Oper}{a:Act}{w w':World}{v:Value}{K:Act->World->Prop}{Q:Exit->Act->World->Prop}(h:(execOp a.eval o).run P w= .ok (.value v) w')(k:K (a.put o.dst v) w'):o.wp P a w K Q:=by
 unfold Oper.wp;rw [h];exact k
theorem U8.ops{e:UP}{w:World}{ρ:Operand->AV}{a:Act}(I: ∀x,Rep e w (ρ x) (a.eval x)): ∀l:List Operand,U8 e w (l.map ρ) (l.map a.eval)
 |[]=>U8.nil e w
 |x::l=>U8.cons (I x) (U8.ops I l)
theorem S5{e:UP}{w:World}{ρ:Operand->AV}{a:Act}(I: ∀x,Rep e w (ρ x) (a.eval x))(ps:Array (Nat×Operand)):
  (ps.toList.map λp=>(p.1,ρ p.2)).map (·.1)=(ps.map λ(i,x)=>(i,a.eval x)).toList.map (·.1)/\
  U8 e w ((ps.toList.map λp=>(p.1,ρ p.2)).map (·.2)) ((ps.map λ(i,x)=>(i,a.eval x)).toList.map (·.2)):=by
 refine ⟨VY,?_⟩;have:=U8.ops I (ps.toList.map (·.2));simpa [List.map_map,Function.comp_def] using this
theorem TJ{P:Program}{G:List (Nat×Spec)}(hG:VP P G){e:UP}{B:Nat}{w:World}{m:HA}{id:Nat}{ρ:Operand->AV}{o:Oper}{a:Act}{ns:List Prop}{val:AV}{add:Option GU}
  (h:aop P G id m ρ o.op=some (ns,val,add))(hn: ∀p∈ns,p)(hE:GB e B w)(hB:B<=w.heap.size)(hm:G5 e m w)(hid: ¬e.live id)(I: ∀x,Rep e w (ρ x) (a.eval x))
  {K:Act->World->Prop}{Q:Exit->Act->World->Prop}(hK: ∀v w',LY e B w m id val add v w'->K (a.put o.dst v) w'):o.wp P a w K Q:=by
 obtain ⟨dst,op,type,pos,after,guard⟩:=o;have val1: ∀(s:Sem Value),execOp a.eval ⟨dst,op,type,pos,after,guard⟩=(do pure (.value (←s)))->(∃u w',s.run P w= .ok u w'/\LY e B w m id val add u w')->Oper.wp P ⟨dst,op,type,pos,after,guard⟩ a w K Q:=by
  rintro s hs ⟨u,w',h1,h2⟩;exact DA (v:=u) (w':=w') (by rw [hs];simp [h1]) (hK u w' h2)
 cases op<;>try (simp [aop] at h;done)
 case move x=>
  simp only [aop,HL,FI] at h;obtain ⟨rfl,rfl,rfl⟩:=h;exact DA (v:=a.eval x) (w':=w) (by simp [execOp]) (hK _ _ (UQ hE hm (I x)))
 case assign x=>
  simp only [aop,HL,FI] at h;obtain ⟨rfl,rfl,rfl⟩:=h;exact DA (v:=a.eval x) (w':=w) (by simp [execOp]) (hK _ _ (UQ hE hm (I x)))
 case pick c x y=>
  simp only [aop] at h;have hc:=I c;split at h;rename_i heq;rw [heq] at hc;cases h;exact DA (v:=a.eval x) (w':=w) (by simp [execOp,hc.lit_inv,asBool]) (hK _ _ (UQ hE hm (I x)))
  rename_i heq;rw [heq] at hc;cases h;exact DA (v:=a.eval y) (w':=w) (by simp [execOp,hc.lit_inv,asBool]) (hK _ _ (UQ hE hm (I y)))
  cases h
 case alloc t=>
  simp only [aop] at h;split at h;rename_i i O;split at h;rename_i z hz;cases h;have hcm:=nG (e:=e) (B:=B) (w:=w) (m:=m) (id:=id) (T:=t) hE hB hm hid (U8.xs e w z.cells.toList);exact DA (by simp [execOp,Instr.alloc,zeroValue,typeInfo,O,hz,newVar,newRow];exact ⟨rfl,rfl⟩) (hK _ _ (nH (by simpa using hcm)))
  cases h;cases h
 case box t x=>
  simp only [aop] at h;split at h;rename_i l hl;cases h;have hcm:=nG (e:=e) (B:=B) (w:=w) (m:=m) (id:=id) (T:=t) hE hB hm hid (wZ hl (I x));exact DA (by simp [execOp,Instr.box,newVar,newRow];exact ⟨rfl,rfl⟩) (hK _ _ (nH (by simpa using hcm)))
  cases h
 case build t parts=>
  simp only [aop] at h;obtain ⟨h1,h2⟩:=S5 I parts;exact val1 _ rfl (O6 (P:=P) h hE hm h1 h2)
 case buildSlice t len parts=>
  simp only [aop] at h;split at h;cases h;rename_i hc;obtain ⟨h1,h2⟩:=S5 I parts;refine val1 _ rfl (uP (P:=P) h hE hB hm hid h1 h2 ?_);rintro rfl;have:parts=#[]:=by simpa using hc
  subst this;simp
 case load t x=>exact val1 _ rfl (aX (P:=P) (by simpa only [aop] using h) hn hE hm (I x))
 case nilCheck x=>
  simp only [aop] at h;have hx:=I x;have fin:val=ρ x->add=none->(∃ad,a.eval x= .pointer (some ad))\/(∃f l l',a.eval x= .func (.func f) l l')->Oper.wp P ⟨dst,.nilCheck x,type,pos,after,guard⟩ a w K Q:=by
   rintro rfl rfl A;refine DA (v:=a.eval x) (w':=w) ?_ (hK _ _ (UQ hE hm (I x)));rcases A with ⟨ad,A⟩|⟨f,l,l',A⟩<;>simp [execOp,A]
  split at h;rename_i heq;rw [heq] at hx;cases h;exact fin heq.symm rfl (.inl hx.ptr_inv);rename_i heq;rw [heq] at hx;cases h;exact fin heq.symm rfl (.inl hx.ro_inv);rename_i heq;rw [heq] at hx;cases h;exact fin heq.symm rfl (.inl hx.elt_inv);rename_i heq;rw [heq] at hx;cases h;exact fin heq.symm rfl (.inl hx.roI_inv);rename_i heq;rw [heq] at hx;cases h;obtain ⟨vs,vs',A,_⟩:=hx.fn_inv;exact fin heq.symm rfl (.inr ⟨_,_,_,A⟩);cases h
 case binOp op t x y t'=>
  simp only [aop] at h;split at h;exact val1 _ rfl (lB (P:=P) h hE hm (I x));exact val1 _ rfl (lD (P:=P) h hn hE hm (I x) (I y))
 case index t x i=>exact val1 _ rfl (O0 (P:=P) (by simpa only [aop] using h) hn hE hm (I x) (I i))
 case makeInterface t x=>exact val1 _ rfl (O4 (P:=P) (by simpa only [aop] using h) hE hm (I x))
 case lookup t x k ok=>exact val1 _ rfl (aV (P:=P) (by simpa only [aop] using h) hE hm (I x) (I k))
 case typeAssert x xt t ok=>exact val1 _ rfl (IF (P:=P) (by simpa only [aop] using h) hE hm (I x))
 case unOp op t x=>exact val1 _ rfl (sI (P:=P) (by simpa only [aop] using h) hn hE hm (I x))
 case convert s d x=>exact val1 _ rfl (b6 (P:=P) (by simpa only [aop] using h) hn hE hB hm (I x))
 case makeMap t r=>
  cases r with
  |some r=>simp [aop] at h
  |none=>
   simp only [aop,HL,FI] at h;obtain ⟨rfl,rfl,rfl⟩:=h;refine DA (v:= .map (some w.heap.size)) (w':=w.alloc (.map #[] 0)) ?_ (hK _ _ (Xb6 hE hB hm hid));simp [execOp,Instr.makeMap]
 case makeFunc fn first caps=>
  simp only [aop,HL,FI] at h;obtain ⟨rfl,rfl,rfl⟩:=h;have h1:=U8.ops I first.toList
  have h2:=U8.ops I caps.toList;refine DA (v:= .func fn (first.toList.map a.eval).toArray (caps.toList.map a.eval).toArray) (w':=w) ?_ (hK _ _ (UQ hE hm (.fn fn _ _ _ _ h1.1 h1.2 h2.1 h2.2)))
  have e1: ∀l:Array Operand,(l.toList.map a.eval).toArray=l.map a.eval:=λl=>Array.ext' VY;rw [e1,e1];simp [execOp,Instr.makeFunc]
 case slice t x U O mx=>
  simp only [aop] at h;split at h;refine val1 (Instr.sliceAt t (a.eval x) (U.map a.eval) (O.map a.eval) none) rfl (NZ (P:=P) h hn hE hm (I x) ?_ ?_);cases U with|none=>trivial|some y=>exact I y
  cases O with|none=>trivial|some y=>exact I y
  cases h
 case fieldAddr t x k=>exact val1 _ rfl (d7 (P:=P) (by simpa only [aop] using h) hE hm (I x))
 case field t x k=>exact val1 _ rfl (O5 (P:=P) (by simpa only [aop] using h) hE hm (I x))
 case indexAddr t x i=>exact val1 _ rfl (d6 (P:=P) (by simpa only [aop] using h) hn hE hm (I x) (I i))
 case makeSlice t l c=>exact val1 _ rfl (hZ (P:=P) (by simpa only [aop] using h) hn hE hB hm hid (I l) (I c))
 case extract x i=>
  simp only [aop] at h;have hx:=I x;split at h;rename_i l heq;rw [heq] at hx;obtain ⟨k1,rfl,rfl⟩:=RL h;obtain ⟨vs,A,hvs⟩:=hx.tup_inv;obtain ⟨u,W,GS⟩:=hvs.get k1;exact val1 _ rfl ⟨u,w,by simp [Instr.extract,A,W],UQ hE hm GS⟩
  cases h
 case call c=>
  obtain ⟨callee,args,argTypes⟩:=c;have Z:=U8.ops I args.toList;cases callee with
  |builtin b=>
   simp only [aop] at h;obtain ⟨u,w',h1,h2⟩:=AN (P:=P) (ty:=type) (cs:=args.map λ| .const _=>true|_=>false) (id:=id) h hE hm Z
   have e1:(args.toList.map a.eval).toArray=args.map a.eval:=Array.ext' VY;rw [e1] at h1;exact DA (v:=u) (w':=w') (by simp only [execOp,resolve,At,Bv,Au,invoke];exact h1) (hK u w' h2)
  |value f=>
   simp only [aop] at h;have hf:=I f;unfold Wl7 at h;split at h;rename_i g first caps heq
   rw [heq] at hf;obtain ⟨vs,vs',A,r1,r2⟩:=hf.fn_inv;split at h;rename_i s hs;split at h;rename_i ns' r F8;cases h;obtain ⟨PQ,M2⟩:=hG _ (mQ hs);have D7:U8 e w (first++args.toList.map ρ++caps) (vs++args.toList.map a.eval++vs'):=(r1.append Z).append r2
   have dG:=U8.map (DJ m 40) (LL hE hm 40) D7;have FO:=M2 _ _ _ F8 hn e.view w _ (by
    rintro b (hb|⟨k,hb⟩);exact (hE.apart b hb).2;exact (hE.owned b k hb).2) (hE.glob.step (Step.view w)) (DZ (RS hm 40) D7) dG
   unfold Oper.wp;have DW:(execOp a.eval ⟨dst,.call ⟨.value f,args,argTypes⟩,type,pos,after,guard⟩).run P w= .ok (.enter g (vs++args.toList.map a.eval++vs').toArray) w:=by
    have e1:(vs++args.toList.map a.eval++vs').toArray=vs.toArray++args.map a.eval++vs'.toArray:=Array.ext' VY;simp only [execOp,resolve,A,Deferred.ofValue,At,Bv,Au,invoke];rw [e1];exact LP PQ _ w
   rw [DW,Oper.upon_enter];refine FO.mono λen w' hq=>?_;obtain ⟨v,rfl,hb,GS⟩:=hq;exact hK v w' (TB hE hm hb GS);cases h;cases h;cases h
  |invoke r mm=>simp [aop] at h
def qT:HA->Nat->GU->HA
 |[],_,_=>[]
 |(k,q)::t,id,r=>match Nat.beq k id with
  |true=>(k,r)::qT t id r
  |false=>match D4 id q with
   |true=>qT t id r
   |false=>(k,q)::qT t id r
def kB:HA->Nat->HA
 |[],_=>[]
 |(k,q)::t,id=>match Nat.beq k id||D4 id q with
  |true=>kB t id
  |false=>(k,q)::kB t id
theorem RC{m:HA}{id:Nat}{r:GU}{p:Nat×GU}(h:p∈qT m id r):p=(id,r)\/(p∈m/\p.1≠id/\D4 id p.2=false):=by
 induction m with
 |nil=>cases h
 |cons q t ih=>
  obtain ⟨k,q⟩:=q;unfold qT at h;split at h;rename_i hk;have hk':k=id:=H5 hk;rcases GT.1 h with rfl|h;exact .inl (by rw [hk'])
  exact (ih h).imp (λh=>h) (λh=>⟨D1 _ h.1,h.2⟩);rename_i hk;have hk':k≠id:=λe=>by subst e;simp at hk
  split at h;exact (ih h).imp (λh=>h) (λh=>⟨D1 _ h.1,h.2⟩);rename_i Z;rcases GT.1 h with rfl|h;exact .inr ⟨GN,hk',Z⟩;exact (ih h).imp (λh=>h) (λh=>⟨D1 _ h.1,h.2⟩)
theorem LF{m:HA}{id:Nat}{p:Nat×GU}(h:p∈kB m id):p∈m/\p.1≠id/\D4 id p.2=false:=by
 induction m with
 |nil=>cases h
 |cons q t ih=>
  obtain ⟨k,q⟩:=q;unfold kB at h;split at h;exact ⟨D1 _ (ih h).1,(ih h).2⟩;rename_i hk;rw [Bool.or_eq_false_iff] at hk;have hk':k≠id:=λe=>by subst e;simp at hk
  rcases GT.1 h with rfl|h;exact ⟨GN,hk',hk.2⟩;exact ⟨D1 _ (ih h).1,(ih h).2⟩
section
variable (e:UP)(B:Nat)(w:World)
def NA(id:Nat)(val:AV)(m':HA)(v:Value)(w':World):Prop:=
 ∃e',Below B w w'/\Step e e' w w'/\GB e' B w'/\Rep e' w' val v/\G5 e' m' w'/\(∀k,e'.live k->e.live k\/k=id)/\(∀b,e'.ro b->e.ro b)
def cM(_id:Nat)(val:AV)(F:Nat->GU->Prop)(v:Value)(w':World):Prop:=
 ∃e',Below B w w'/\Step e e' w w'/\GB e' B w'/\Rep e' w' val v/\(∀k r,F k r->GM e' w' k r)/\(∀k,e'.live k->e.live k\/k=_id)/\(∀b,e'.ro b->e.ro b)
end
def gX(T:TypeId)(sz:Nat):GU->Bool
 | .row T' sz' _ _=>Nat.beq T' T&&Nat.beq sz' sz
 |_=>false
def wQ(c:Bool):AV->AV->AV
 | .x (.int k a),.x (.int k' b)=>match decide (k=k') with
  |true=> .x (.int k (if c then a else b))
  |false=> .top
 | .x (.bool a),.x (.bool b)=> .x (.bool (if c then a else b))
 | .x (.bool a),.lit b=> .x (.bool (if c then a else b))
 | .lit a,.x (.bool b)=> .x (.bool (if c then a else b))
 |a,b=>match c with
  |true=>a
  |false=>b
theorem kU{e:UP}{w:World}{c:Bool}{a b:AV}{v:Value}(h:Rep e w (if c then a else b) v):Rep e w (wQ c a b) v:=by
 unfold wQ;split;rename_i k a' k' b';split;rename_i hk;have hk':k=k':=wC hk;subst hk';cases c<;>simpa using h;exact .top v;cases c<;>simpa using h;cases c;cases h;exact .x _;simpa using h;cases c;simpa using h;cases h;exact .x _;cases c<;>simpa using h
theorem lG{c:Bool}{a b:AV}(Z:Idf a)(hb:Idf b):Idf (wQ c a b):=by
 unfold wQ;split;split;exact .x _;exact .top;exact .x _;exact .x _;exact .x _;cases c;exact hb;exact Z
def HJ(c:Bool):List AV->List AV->List AV
 |a::l,b::l'=>wQ c a b::HJ c l l'
 |[],l'=>match c with
  |true=>[]
  |false=>l'
 |l,[]=>match c with
  |true=>l
  |false=>[]
theorem uQ{c:Bool}: ∀(l l':List AV) (j:Nat) (a:AV),l.length=l'.length->(HJ c l l')[j]? =some a-> ∃x y,l[j]? =some x/\l'[j]? =some y/\a=wQ c x y
 |[],[],j,a,_,h=>by cases c<;>simp [HJ] at h
 |x::l,y::l',0,a,_,h=>by simp [HJ] at h;exact ⟨x,y,rfl,rfl,h.symm⟩
 |x::l,y::l',j+1,a,hl,h=>by simp only [HJ,List.getElem?_cons_succ] at h ⊢;exact uQ l l' j a (by simpa using hl) h
 |[],_::_,_,_,hl,_=>by simp at hl
 |_::_,[],_,_,hl,_=>by simp at hl
theorem vW{c:Bool}: ∀(l l':List AV),l.length=l'.length->(HJ c l l').length=l.length
 |[],[],_=>by cases c<;>rfl
 |x::l,y::l',hl=>by simp [HJ,vW l l' (by simpa using hl)]
 |[],_::_,hl=>by simp at hl
 |_::_,[],hl=>by simp at hl
section
variable {P:Program}
def LA(P:Program)(m:HA)(t:TypeId)(x v:AV):Option (List Prop×HA):=
 match v.cellsOf with
 |some cs=>match P.info? t with
  |some i=>match Nat.beq i.size cs.length&&cs.all AV.one with
   |true=>match x with
    | .ptr id off=>match DN m id with
     |some (.cells T l)=>match Nat.ble (off+cs.length) l.length with
      |true=>some ([],qT m id (.cells T (HC off cs l)))
      |false=>none
     |_=>none
    | .elt id sz p j=>match DN m id with
     |some (.row T sz' n f)=>match Nat.beq sz sz'&&cs.all AV.idf&&Nat.ble (j+cs.length) sz with
      |true=>some ([p<n],qT m id (.row T sz n (λk=>HJ (decide (k=p)) (HC j cs (f k)) (f k))))
      |false=>none
     |_=>none
    |_=>none
   |false=>none
  |none=>none
 |none=>none
theorem xC: ∀(cs:List AV) (off:Nat) (cells:List AV),(HC off cs cells).length=cells.length
 |[],_,_=>rfl
 |c::cs,off,cells=>by simp [HC,xC cs]
section
variable {e:UP}{B g id:Nat}{w w':World}
theorem FC(hE:GB e B w)(HD:e.own g=some id)(hsz:w'.heap.size=w.heap.size)(L7: ∀b,b≠g->w'.heap[b]? =w.heap[b]?):Step e e w w':=
 ⟨λb _ I=>⟨I,L7 b (λhe=>by subst he;rw [(hE.apart b I).1] at HD;cases HD)⟩,λ_ h=>⟨h,rfl,rfl⟩,VO⟩
theorem PG(hE:GB e B w)(HD:e.own g=some id)(hsz:w'.heap.size=w.heap.size)(L7: ∀b,b≠g->w'.heap[b]? =w.heap[b]?){k:Nat}{r:GU}(hne:k≠id/\D4 id r=false)(h:GM e w k r):GM e w' k r:=by
 obtain ⟨hne,hak⟩:=hne;have st:=FC hE HD hsz L7;cases r with
 |cells T l=>
  obtain ⟨h1,h2,vs,h3,h4⟩:=h;refine ⟨h1,h2,vs,?_,h4.step st⟩;rw [L7 _ (λhe=>hne (by rw [he,HD] at h2;exact (Bb h2).symm))]
  exact h3
 |row T sz n f=>
  obtain ⟨h1,h2,hf,xs,h3,h4⟩:=h;refine ⟨h1,h2,hf,xs,⟨h3.1,h3.2.imp (λh=>h) ?_⟩,λi j a v O Z A=>(h4 i j a v O Z A).step st⟩;rintro ⟨g',cap,cur,A,hg,hh,rest⟩;refine ⟨g',cap,cur,A,hg,?_,rest⟩;rw [L7 g' (λhe=>hne (by have:=h2 g' (by rw [A];rfl);rw [he,HD] at this;exact (Bb this).symm))]
  exact hh
 |ints T pre n f=>
  obtain ⟨h1,h2,vs,h3,h4⟩:=h;refine ⟨h1,h2,vs,?_,h4.step st⟩;rw [L7 _ (λhe=>hne (by rw [he,HD] at h2;exact (Bb h2).symm))]
  exact h3
 |memo h f=>
  obtain ⟨h1,h2,es,c,h3,h4⟩:=h;refine ⟨h1,h2,es,c,?_,h4⟩;rw [L7 _ (λhe=>hne (by rw [he,HD] at h2;exact (Bb h2).symm))]
  exact h3
 |keep T l=>exact LT st h
 |aka r T sz n f=>
  obtain ⟨h1,h0,o,hor,h2,hf,xs,h3,h4⟩:=h;refine ⟨h1,h0,o,hor,h2,hf,xs,⟨h3.1,h3.2.imp (λh=>h) ?_⟩,λi j a v O Z A=>(h4 i j a v O Z A).step st⟩;rintro ⟨g',cap,cur,A,hg,hh,rest⟩;refine ⟨g',cap,cur,A,hg,?_,rest⟩;rw [L7 g' (λhe=>?_)];exact hh;have h5:=h2 g' (by rw [A];rfl)
  rw [he,HD] at h5;have h6:id=o:=Bb h5;rcases hor with rfl|rfl;exact hne h6.symm;rw [h6] at hak;simp [D4] at hak
end
theorem LD{e:UP}{B:Nat}{w w':World}(hE:GB e B w)(hsz:w'.heap.size=w.heap.size)(st:Step e e w w'):GB e B w':=⟨λb h=>by rw [hsz];exact hE.apart b h,λb k h=>by rw [hsz];exact hE.owned b k h,hE.glob.step st⟩
theorem jT{B g:Nat}(w:World)(cs:Array Value)(hB:B<=g):Below B w (w.setRow g cs):=
 ⟨rfl,rfl,rfl,VY,λk hk=>setRow_other w g k cs VO⟩
theorem kF{e:UP}{w:World}{l cs:List AV}{vs us:List Value}(off:Nat)(hl:U8 e w l vs)(hc:U8 e w cs us)(hle:off+cs.length<=l.length):
  U8 e w (HC off cs l) (vs.take off++us++vs.drop (off+us.length)):=by
 induction cs generalizing off l vs us with
 |nil=>cases hc.nil_inv;simpa [HC] using hl
 |cons c cs ih=>
  obtain ⟨u,us',rfl,W,hus⟩:=hc.cons_inv;have D5:=hl.1;have:=ih (l:=l.set off c) (vs:=vs.set off u) (us:=us') (off+1) (hl.set W off) hus (by simp at hle ⊢;omega)
  simp only [HC];have e1:(vs.set off u).take (off+1)++us'++(vs.set off u).drop (off+1+us'.length)=vs.take off++(u::us')++vs.drop (off+(u::us').length):=by
   have bP:off<vs.length:=by simp at hle;omega
   rw [List.take_succ_eq_append_getElem (by simpa using bP),List.take_set_of_le (Am _),List.drop_set_of_lt VO]
   simp [Ba,Bh 1]
  rw [←e1];exact this
section
variable {e:UP}{B:Nat}{w:World}{m m':HA}{t:TypeId}
theorem IE{x y:AV}{vx vy:Value}{ns:List Prop}(h:LA P m t x y=some (ns,m'))(hn: ∀p∈ns,p)
  (hE:GB e B w)(hm:G5 e m w)(rx:Rep e w x vx)(ry:Rep e w y vy): ∃w',(Instr.storeAt t vx vy).run P w= .ok () w'/\ ∀(id:Nat) (v:Value),NA e B w id .top m' v w':=by
 unfold LA at h;split at h;rename_i cs hcs;have GS:=wZ hcs ry;split at h;rename_i i O;split at h;rename_i hb;simp only [HF] at hb;have hsz:i.size=cs.length:=H5 hb.1;have mE: ∀u∈vy.cells.toList,u.oneCell'=true:=by
  intro u W;obtain ⟨q,hq⟩:=xJ.1 W;have hlt:q<cs.length:=by rw [GS.1];exact (RA.1 hq).1
  exact C2 (BF.1 hb.2 _ (List.getElem_mem hlt)) (GS.2 q _ u (D8 hlt) hq)
 have D5:vy.cells.size=i.size:=by rw [hsz,GS.1];simp
 split at h;rename_i k off;split at h;rename_i T l hg;split at h;rename_i hle;have hle:=wD hle;cases h;obtain ⟨h1,h2,vs,h3,h4⟩:=hm _ (GA hg)
 dsimp only at h1 h2 h3
 cases rx with
 |ptr _ _ hl=>
  have y5:off+0+vy.cells.toList.length<=vs.toArray.size:=by rw [←GS.1];simp [←h4.1];omega
  have hst:=run_storeCells_at P (e.blk k) off T vy.cells.toList 0 vs.toArray w h3 y5 mE;simp only [Bg] at hst;have DW:(Instr.storeAt t (.pointer (some ⟨e.blk k,off,none⟩)) vy).run P w= .ok () (w.setRow (e.blk k) (vs.take off++vy.cells.toList++vs.drop (off+vy.cells.toList.length)).toArray):=by
   simp only [Instr.storeAt,Instr.sureAddr,storeVar,sizeOf,typeInfo,At,Bv,Au,run_program,O,D5,ne_eq,not_true_eq_false,if_false];exact hst
  refine ⟨_,DW,λid v=>?_⟩;have L7: ∀b,b≠e.blk k->(w.setRow (e.blk k) (vs.take off++vy.cells.toList++vs.drop (off+vy.cells.toList.length)).toArray).heap[b]? =w.heap[b]? :=λb hb=>setRow_other w _ b _ hb;have st:=FC (w':=w.setRow (e.blk k) (vs.take off++vy.cells.toList++vs.drop (off+vy.cells.toList.length)).toArray) hE h2 VY L7;refine ⟨e,jT w _ (hE.owned _ _ h2).1,st,LD hE VY st,.top v,?_,λ_ h=> .inl h,λ_ h=>h⟩;intro p hp;rcases RC hp with rfl|⟨hp,hne⟩;refine ⟨h1,h2,_,setRow_heap w _ _ _ T _ h3,(kF off h4 GS hle).step st⟩;exact PG hE h2 VY L7 hne (hm p hp)
 cases h;cases h;rename_i k sz p j;split at h;rename_i T sz' n f hg;split at h;rename_i hb2;simp only [HF] at hb2;obtain ⟨⟨hb3,FU⟩,hb4⟩:=hb2;have hs':sz=sz':=H5 hb3;subst hs';have hle:=wD hb4;cases h;have hp:p<n:=hn _ VY;obtain ⟨h1,h2,hf,xs,hx,wU⟩:=hm _ (GA hg)
 dsimp only at h1 h2 hx
 cases rx with
 |elt _ _ _ _ b n' cap hl A=>
  rcases hx.2 with ⟨hv0,hn0⟩|⟨g,cap',cur,hv0,_,hgg,hnc,hcm,hcs',kX⟩;omega;have hvv:=hv0;rw [A] at hvv;obtain ⟨rfl,rfl,rfl⟩:b=g/\n'=n/\cap=cap':=by simpa using hvv
  have HD:e.own b=some k:=h2 b (by rw [A];rfl)
  have hpl:p*sz+sz<=n'*sz:=by
   have:=BS sz (Az hp)
   rwa [Bq] at this
  have hnc':n'*sz<=cap*sz:=BS sz hnc;have y5:p*sz+j+0+vy.cells.toList.length<=cur.size:=by rw [←GS.1,hcs'];omega
  have hst:=run_storeCells_at P b (p*sz+j) T vy.cells.toList 0 cur w hgg y5 mE;simp only [Bg] at hst;generalize hcur':(cur.toList.take (p*sz+j)++vy.cells.toList++cur.toList.drop (p*sz+j+vy.cells.toList.length))=cur' at hst;have DW:(Instr.storeAt t (.pointer (some ⟨b,p*sz+j,none⟩)) vy).run P w= .ok () (w.setRow b cur'.toArray):=by
   simp only [Instr.storeAt,Instr.sureAddr,storeVar,sizeOf,typeInfo,At,Bv,Au,run_program,O,D5,ne_eq,not_true_eq_false,if_false];exact hst
  refine ⟨_,DW,λid v=>?_⟩;have L7: ∀q,q≠b->(w.setRow b cur'.toArray).heap[q]? =w.heap[q]? :=λq hq=>setRow_other w _ q _ hq;have st:=FC (w':=w.setRow b cur'.toArray) hE HD VY L7;have hidf':=Qi1 GS FU;have Zd1:cur'.length=cur.size:=by
   have hcl:cur.toList.length=cur.size:=VY;rw [←hcur'];simp only [Be,List.length_take,List.length_drop,hcl];omega
  refine ⟨e,jT w _ (hE.owned _ _ HD).1,st,LD hE VY st,.top v,?_,λ_ h=> .inl h,λ_ h=>h⟩;intro q hq;rcases RC hq with rfl|⟨hq,hne⟩;have hsp: ∀l:List AV,(HC j cs l).length=l.length:=λl=>xC cs j l;have hspi: ∀(cs:List AV) (j:Nat) (l:List AV),(∀a∈cs,Idf a)->(∀a∈l,Idf a)-> ∀a∈HC j cs l,Idf a:=by
   intro cs
   induction cs with
   |nil=>intro j l _ hl' a Z;exact hl' a Z
   |cons c cs ih=>
    intro j l hc hl' a Z;refine ih (j+1) (l.set j c) (λa Z=>hc a (D1 _ Z)) (λa Z=>?_) a Z;rcases List.mem_or_eq_of_mem_set Z with h|h;exact hl' a h;subst h;exact hc _ GN
  refine ⟨h1,h2,?_,cur'.take (n'*sz),⟨?_,.inr ⟨b,_,cur'.toArray,A,Ao _,setRow_heap w _ _ _ T _ hgg,hnc,hcm,by simp [Zd1,hcs'],rfl⟩⟩,?_⟩
  intro i' hi';refine ⟨by rw [vW _ _ (hsp _),hsp];exact (hf i' hi').1,λa Z=>?_⟩
  obtain ⟨q,hq⟩:=xJ.1 Z;obtain ⟨x,y,hx',hy',rfl⟩:=uQ _ _ _ _ (hsp _) hq;exact lG (hspi cs j (f i') hidf' (hf i' hi').2 x (F9 hx')) ((hf i' hi').2 y (F9 hy'));rw [List.length_take,Zd1,hcs'];omega;intro i' j' a u hi' Z W;obtain ⟨x,y,hx',hy',rfl⟩:=uQ _ _ _ _ (hsp _) Z;have hj':j'<sz:=by rw [←(hf i' hi').1];exact (RA.1 hy').1
  have hil:i'*sz+sz<=n'*sz:=by
   have:=BS sz (Az hi')
   rwa [Bq] at this
  rw [List.getElem?_take] at W;split at W;apply kU;by_cases hip:i'=p;subst hip;rw [if_pos VY]
  have hR:U8 e w (f i') ((xs.drop (i'*sz)).take sz):=by
   refine ⟨by rw [(hf i' hi').1,List.length_take,List.length_drop,hx.1];omega,λq a v Z hv'=>?_⟩
   rw [List.getElem?_take] at hv';split at hv';rw [List.getElem?_drop] at hv';exact wU i' q a v hi' Z hv';cases hv'
  have hS:=kF j hR GS (by rw [(hf i' hi').1];exact hle)
  obtain ⟨u',hu',hru⟩:=hS.get hx';have:u'=u:=by
   have e2:cur'[i'*sz+j']? =some u':=by
    rw [←hu',←hcur'];have hcl:cur.toList.length=cur.size:=VY;have hus:vy.cells.toList.length=cs.length:=GS.1.symm;have hxs: ∀q,q<n'*sz->xs[q]? =cur.toList[q]? :=by
     intro q hq;rw [←kX,List.getElem?_take,if_pos hq]
    simp only [Ce,Be,List.length_take,List.length_drop,List.getElem?_take,List.getElem?_drop,hcl,hx.1,hus,hcs'];by_cases c1:j'<j;rw [if_pos VO,if_pos VO,if_pos VO,if_pos VO,if_pos VO,if_pos VO,if_pos VO,hxs _ VO];by_cases c2:j'<j+cs.length;rw [if_pos VO,if_neg VO,if_pos VO,if_neg VO]
    congr 1
    omega;rw [if_neg VO,if_neg VO,if_pos VO,hxs _ VO]
    congr 1
    omega
   rw [e2] at W;exact Bb W
  subst this;exact hru.step st;rw [if_neg (by simpa using hip)]
  have hxu:xs[i'*sz+j']? =some u:=by
   rw [←W,←hcur',←kX,List.getElem?_take,if_pos VO];have hcl:cur.toList.length=cur.size:=VY;have hus:vy.cells.toList.length=cs.length:=GS.1.symm;simp only [Ce,Be,List.length_take,List.getElem?_take,List.getElem?_drop,hcl,hus,hcs'];rcases Nat.lt_or_gt_of_ne hip with hlt|hgt;have:i'*sz+sz<=p*sz:=by
    have:=BS sz (Az hlt)
    rwa [Bq] at this
   rw [if_pos VO,if_pos VO,if_pos VO];have:p*sz+sz<=i'*sz:=by
    have:=BS sz (Az hgt)
    rwa [Bq] at this
   rw [if_neg VO]
   congr 1
   omega
  exact (wU i' j' y u hi' hy' hxu).step st;cases W;exact PG hE HD VY L7 hne (hm q hq)
 cases h;cases h;cases h;cases h;cases h;cases h
theorem qG{k off:Nat}{y:AV}{vx vy:Value}{ns:List Prop}(h:LA P m t (.ptr k off) y=some (ns,m'))
  (hE:GB e B w)(hm:G5 e m w)(rx:Rep e w (.ptr k off) vx)(ry:Rep e w y vy):
  ∃w',(Instr.storeAt t vx vy).run P w= .ok () w'/\e.own (e.blk k)=some k/\w'.heap.size=w.heap.size/\(∀b,b≠e.blk k->w'.heap[b]? =w.heap[b]?)/\Below B w w'/\G5 e m' w':=by
 unfold LA at h;split at h;rename_i cs hcs;have GS:=wZ hcs ry;split at h;rename_i i O;split at h;rename_i hb;simp only [HF] at hb;have hsz:i.size=cs.length:=H5 hb.1;have mE: ∀u∈vy.cells.toList,u.oneCell'=true:=by
  intro u W;obtain ⟨q,hq⟩:=xJ.1 W;have hlt:q<cs.length:=by rw [GS.1];exact (RA.1 hq).1
  exact C2 (BF.1 hb.2 _ (List.getElem_mem hlt)) (GS.2 q _ u (D8 hlt) hq)
 have D5:vy.cells.size=i.size:=by rw [hsz,GS.1];simp
 simp only at h;split at h;rename_i T l hg;split at h;rename_i hle;have hle:=wD hle;cases h;obtain ⟨h1,h2,vs,h3,h4⟩:=hm _ (GA hg)
 dsimp only at h1 h2 h3
 cases rx with
 |ptr _ _ hl=>
  have y5:off+0+vy.cells.toList.length<=vs.toArray.size:=by rw [←GS.1];simp [←h4.1];omega
  have hst:=run_storeCells_at P (e.blk k) off T vy.cells.toList 0 vs.toArray w h3 y5 mE;simp only [Bg] at hst;have DW:(Instr.storeAt t (.pointer (some ⟨e.blk k,off,none⟩)) vy).run P w= .ok () (w.setRow (e.blk k) (vs.take off++vy.cells.toList++vs.drop (off+vy.cells.toList.length)).toArray):=by
   simp only [Instr.storeAt,Instr.sureAddr,storeVar,sizeOf,typeInfo,At,Bv,Au,run_program,O,D5,ne_eq,not_true_eq_false,if_false];exact hst
  have L7: ∀b,b≠e.blk k->(w.setRow (e.blk k) (vs.take off++vy.cells.toList++vs.drop (off+vy.cells.toList.length)).toArray).heap[b]? =w.heap[b]? :=λb hb=>setRow_other w _ b _ hb;have st:=FC (w':=w.setRow (e.blk k) (vs.take off++vy.cells.toList++vs.drop (off+vy.cells.toList.length)).toArray) hE h2 VY L7;refine ⟨_,DW,h2,VY,L7,jT w _ (hE.owned _ _ h2).1,?_⟩;intro p hp;rcases RC hp with rfl|⟨hp,hne⟩;refine ⟨h1,h2,_,setRow_heap w _ _ _ T _ h3,(kF off h4 GS hle).step st⟩;exact PG hE h2 VY L7 hne (hm p hp)
 cases h;cases h;cases h;cases h;cases h
end
def UX(q:Nat)(v:Int)(f:Cg):Cg:=λk=>if k=q then v else f k
def kA:Nat->List Int->(Cg)->Nat->Int
 |_,[],f=>f
 |q,v::vs,f=>kA (q+1) vs (UX q v f)
theorem Qu6{n q:Nat}{v:Int}{f:Cg}:(HY n f).set q (.x (.int .i64 v))=HY n (UX q v f):=by
 apply List.ext_getElem?;intro j;rw [List.getElem?_set];by_cases hj:j<n;rw [yY (f:=UX q v f) hj];by_cases hq:q=j;subst hq;rw [if_pos rfl,if_pos (by rw [LU];exact hj)]
 simp [UX];rw [if_neg hq,yY hj];simp [UX,Ne.symm hq];have h1:(HY n (UX q v f))[j]? =none:=Br (by rw [LU];omega)
 rw [h1];split;rw [if_neg (by rw [LU];omega)]
 exact Br (by rw [LU];omega)
theorem CX{pre L:List AV}: ∀(cs:List AV) (off:Nat),off+cs.length<=pre.length->HC off cs (pre++L)=HC off cs pre++L
 |[],_,_=>rfl
 |c::cs,off,h=>by
  simp only [Bj] at h;simp only [HC];rw [List.set_append_left _ _ VO];have hl:(pre.set off c).length=pre.length:=VY;exact splice_go cs (off+1) (pre.set off c) (by rw [hl];omega)
where
 splice_go {L:List AV}: ∀(cs:List AV) (off:Nat) (pre:List AV),off+cs.length<=pre.length->HC off cs (pre++L)=HC off cs pre++L
 |[],_,_,_=>rfl
 |c::cs,off,pre,h=>by
  simp only [Bj] at h;simp only [HC];rw [List.set_append_left _ _ VO];exact splice_go cs (off+1) (pre.set off c) (by simp;omega)
theorem kG{pre:List AV}{n:Nat}: ∀(vs:List Int) (off:Nat) (f:Cg),pre.length<=off->HC off (vs.map λv=> .x (.int .i64 v)) (pre++HY n f)=pre++HY n (kA (off-pre.length) vs f)
 |[],_,_,_=>rfl
 |v::vs,off,f,h=>by
  simp only [List.map_cons,HC,kA];rw [List.set_append_right _ _ h,Qu6,kG vs (off+1) _ VO,show off+1-pre.length=off-pre.length+1 by omega]
theorem CZ: ∀(cs cs':List AV) (off:Nat) (L:List AV),HC off (cs++cs') L=HC (off+cs.length) cs' (HC off cs L)
 |[],_,_,_=>rfl
 |c::cs,cs',off,L=>by
  simp only [List.cons_append,HC,CZ cs cs' (off+1),Bj];rw [show off+1+cs.length=off+(cs.length+1) by omega]
theorem CY: ∀(cs:List AV) (off:Nat) (L:List AV),(HC off cs L).length=L.length
 |[],_,_=>rfl
 |c::cs,off,L=>by simp only [HC,CY cs (off+1),List.length_set]
theorem uV: ∀{l:List AV} {r:List Int},qZ l=some r->l=r.map λv=> .x (.int .i64 v)
 |[],r,h=>by simp [qZ] at h;subst h;rfl
 |a::l,r,h=>by
  unfold qZ at h;split at h;rename_i n;split at h;rename_i r' I;cases h;rw [List.map_cons,←uV I];cases h;cases h
def stI(T:TypeId)(cs pre:List AV)(n:Nat)(f:Cg)(off:Nat):Option (List Prop×GU):=
 match Nat.ble (off+1) pre.length with
 |true=>match Nat.ble (off+cs.length) pre.length with
  |true=>some ([],.ints T (HC off cs pre) n f)
  |false=>match qZ (cs.drop (pre.length-off)) with
   |some vs=>some ([vs.length<=n],.ints T (HC off (cs.take (pre.length-off)) pre) n (kA 0 vs f))
   |none=>none
 |false=>match qZ cs with
  |some vs=>some ([xO off pre+vs.length<=n],.ints T pre n (kA (xO off pre) vs f))
  |none=>none
def j9(P:Program)(m:HA)(t:TypeId)(x v:AV):Option (List Prop×HA):=
 match x with
 | .ptr id off=>match DN m id with
  |some (.ints T pre n f)=>match v.cellsOf with
   |some cs=>match P.info? t with
    |some i=>match Nat.beq i.size cs.length&&cs.all AV.one with
     |true=>match stI T cs pre n f off with
      |some (ns,r)=>some (ns,qT m id r)
      |none=>none
     |false=>none
    |none=>none
   |none=>none
  |some (.cells T l)=>match cF P t l with
   |some bs=>match LI v with
    |some b=>match P.info? t with
     |some i=>match Nat.beq i.size 1 with
      |true=>some ([off<bs.length],qT m id (.cells T (A1 off b bs 0)))
      |false=>none
     |none=>none
    |none=>none
   |none=>LA P m t (.ptr id off) v
  |_=>LA P m t (.ptr id off) v
 |x=>LA P m t x v
theorem stI_holds{T:TypeId}{cs pre:List AV}{n:Nat}{f:Cg}{off:Nat}{ns:List Prop}{r:GU}(h:stI T cs pre n f off=some (ns,r))(hn: ∀p∈ns,p):
  off+cs.length<=(pre++HY n f).length/\ ∀e w id,GM e w id (.cells T (HC off cs (pre++HY n f)))->GM e w id r:=by
 unfold stI at h;rw [Be,LU];split at h;split at h;rename_i hb;have hle:=wD hb;cases h;refine ⟨VO,λe w id hh=>?_⟩;rw [CX cs off hle] at hh;exact hh;split at h
 ·rename_i _ hb _ hb2 _ vs hvs;have hof:=wD hb;cases h;have hsz:vs.length<=n:=hn _ VY;have hcs:=uV hvs;have hl:(cs.drop (pre.length-off)).length=vs.length:=by rw [hcs];simp
  rw [List.length_drop] at hl;have hlt:pre.length-off<=cs.length:=by
   rcases An pre.length (off+cs.length) with h'|h';omega;rw [Nat.ble_eq_true_of_le h'] at hb2;cases hb2
  have htl:(cs.take (pre.length-off)).length=pre.length-off:=by rw [List.length_take];omega
  refine ⟨VO,λe w id hh=>?_⟩;have e1:HC off cs (pre++HY n f)=HC off (cs.take (pre.length-off)) pre++HY n (kA 0 vs f):=by
   conv=>lhs;rw [←List.take_append_drop (pre.length-off) cs]
   rw [CZ,htl,CX _ _ VO,hcs];have hpl:(HC off (cs.take (pre.length-off)) pre).length=pre.length:=CY _ _ _;rw [kG vs _ f VO,hpl,show off+(pre.length-off)-pre.length=0 by omega]
  rw [e1] at hh;exact hh
 cases h;rename_i hb;have hle:pre.length<=off:=by
  rcases An off pre.length with h'|h';rw [Nat.ble_eq_true_of_le h'] at hb;cases hb;exact h'
 split at h;rename_i vs hvs;cases h;have hsz:xO off pre+vs.length<=n:=hn _ VY;have hcs:=uV hvs;have hl:cs.length=vs.length:=by rw [hcs];simp
 rw [wH] at hsz;refine ⟨VO,λe w id hh=>?_⟩;rw [hcs,kG vs off f hle,←wH] at hh;exact hh;cases h
theorem OY{m:HA}{id:Nat}{r:GU}{p:Nat×GU}(h:p∈m)(hne:p.1≠id/\D4 id p.2=false):p∈qT m id r:=by
 induction m with
 |nil=>cases h
 |cons q t ih=>
  obtain ⟨k,q⟩:=q;unfold qT;rcases GT.1 h with rfl|h;split;rename_i hk;exact absurd (H5 hk) hne.1;split;rename_i Z;rw [hne.2] at Z;cases Z;exact GN;split;exact D1 _ (ih h);split;exact ih h;exact D1 _ (ih h)
section
variable {e:UP}{B:Nat}{w:World}{m m':HA}{t:TypeId}
theorem A3{k off:Nat}{y:AV}{vx vy:Value}{ns:List Prop}(h:j9 P m t (.ptr k off) y=some (ns,m'))(hn: ∀p∈ns,p)
  (hE:GB e B w)(hm:G5 e m w)(rx:Rep e w (.ptr k off) vx)(ry:Rep e w y vy):
  ∃w',(Instr.storeAt t vx vy).run P w= .ok () w'/\e.own (e.blk k)=some k/\w'.heap.size=w.heap.size/\(∀b,b≠e.blk k->w'.heap[b]? =w.heap[b]?)/\Below B w w'/\G5 e m' w':=by
 unfold j9 at h;simp only at h;split at h;rename_i T pre n f hg;split at h;rename_i cs hcs;split at h;rename_i i O;split at h;rename_i hb;split at h;rename_i ns' r hst;cases h;obtain ⟨hle,I⟩:=stI_holds hst hn;have hm2:G5 e ((k,.cells T (pre++HY n f))::m) w:=by
  intro p hp;rcases GT.1 hp with rfl|hp;exact (show GM e w k (.ints T pre n f) from hm _ (GA hg));exact hm p hp
 have hc:LA P ((k,.cells T (pre++HY n f))::m) t (.ptr k off) y=some ([],(k,.cells T (HC off cs (pre++HY n f)))::qT m k (.cells T (HC off cs (pre++HY n f)))):=by
  unfold LA;rw [hcs];simp only;rw [O];simp only;rw [hb];simp only [DN,Nat.beq_refl,qT];rw [Nat.ble_eq_true_of_le hle]
 obtain ⟨w',q1,q2,q3,q4,q5,q6⟩:=qG hc hE hm2 rx ry;refine ⟨w',q1,q2,q3,q4,q5,λp hp=>?_⟩;rcases RC hp with rfl|⟨hp,hne⟩;exact I _ _ _ (q6 (k,_) GN);exact q6 p (D1 _ (OY hp hne));cases h;cases h;cases h;cases h;rename_i T l hg;split at h;rename_i bs hbs;split at h;rename_i b hb;split at h;rename_i i O;split at h;rename_i hsz;cases h;have bP:off<bs.length:=hn _ VY;obtain ⟨hbl,W⟩:=MZ hbs;obtain ⟨D5,Qw1⟩:=gA hbl;obtain ⟨c,hcs,hc1,hcb⟩: ∃c,y.cellsOf=some [c]/\c.one=true/\LI c=some b:=by
  cases y with
  |lit b'=>exact ⟨_,rfl,rfl,hb⟩
  |x v'=>cases v'<;>simp [LI] at hb;exact ⟨_,rfl,rfl,by simp [LI,hb]⟩
  |_=>simp [LI] at hb
 have hm2:G5 e ((k,.cells T l)::m) w:=by
  intro p hp;rcases GT.1 hp with rfl|hp;exact hm _ (GA hg);exact hm p hp
 have hcc:LA P ((k,.cells T l)::m) t (.ptr k off) y=some ([],(k,.cells T (HC off [c] l))::qT m k (.cells T (HC off [c] l))):=by
  unfold LA;rw [hcs];simp only;rw [O];simp only;rw [show (Nat.beq i.size [c].length&&[c].all AV.one)=true by simp [hc1];simpa using hsz]
  simp only [DN,Nat.beq_refl,qT];rw [Nat.ble_eq_true_of_le (show off+[c].length<=l.length by simp;omega)]
 obtain ⟨w',q1,q2,q3,q4,q5,q6⟩:=qG hcc hE hm2 rx ry;refine ⟨w',q1,q2,q3,q4,q5,λp hp=>?_⟩;rcases RC hp with rfl|⟨hp,hne⟩;obtain ⟨g1,g2,us,g3,g4⟩:=q6 (k,_) GN;refine ⟨g1,g2,us,g3,?_⟩;have hul:us.length=l.length:=by rw [←g4.1,xC]
 refine ⟨by rw [gO,hul,D5],λj a u Z hu'=>?_⟩
 rw [OZ off b bs 0 j a Z,Ap];have hj:j<l.length:=by rw [←hul];exact (RA.1 hu').1
 have hsp:(HC off [c] l)[j]? =some (if j=off then c else l[j]):=by
  simp only [HC,List.getElem?_set];by_cases hjo:off=j;subst hjo;simp [hj];rw [if_neg hjo,if_neg (λh=>hjo h.symm),D8 hj]
 have I:=g4.2 j _ u hsp hu';have hbv:LI (if j=off then c else l[j])=some (if j=off then b else bs.getD j false):=by
  split;exact hcb;exact Qw1 j _ (D8 hj)
 rw [BE hbv I];exact .x _;exact q6 p (D1 _ (OY hp hne));cases h;cases h;cases h;exact qG h hE hm rx ry;exact qG h hE hm rx ry
theorem NY{x y:AV}{vx vy:Value}{ns:List Prop}(h:j9 P m t x y=some (ns,m'))(hn: ∀p∈ns,p)
  (hE:GB e B w)(hm:G5 e m w)(rx:Rep e w x vx)(ry:Rep e w y vy): ∃w',(Instr.storeAt t vx vy).run P w= .ok () w'/\ ∀(id:Nat) (v:Value),NA e B w id .top m' v w':=by
 cases x with
 |ptr k off=>
  obtain ⟨w',q1,q2,q3,q4,q5,q6⟩:=A3 h hn hE hm rx ry;exact ⟨w',q1,λid v=>⟨e,q5,FC hE q2 q3 q4,LD hE q3 (FC hE q2 q3 q4),.top v,q6,λ_ h=> .inl h,λ_ h=>h⟩⟩
 |_=>exact IE (P:=P) (by simpa only [j9] using h) hn hE hm rx ry
end
def Qf6(m:HA)(el sz:Nat):AV->Option (Nat×(Ci))
 | .row id=>match DN m id with
  |some (.row T sz' n f)=>match Nat.beq T el&&Nat.beq sz sz' with
   |true=>some (n,f)
   |false=>none
  |_=>none
 | .x (.slice none 0 0)=>some (0,λ_=>[])
 |_=>none
def Wg7(m:HA)(sz:Nat):AV->Option (Nat×(Ci))
 | .row id=>match DN m id with
  |some (.row _ sz' n f)=>match Nat.beq sz sz' with
   |true=>some (n,f)
   |false=>none
  |_=>none
 | .lst sz' n f=>match Nat.beq sz sz' with
  |true=>some (n,f)
  |false=>none
 | .x (.slice none 0 0)=>some (0,λ_=>[])
 |_=>none
def GL(n:Nat)(f g:Ci)(i:Nat):List AV:=HJ (decide (i<n)) (f i) (g (i-n))
def jN(m:HA):AV->HA
 | .row id=>kB m id
 |_=>m
section
variable (P:Program)(id:Nat)(m:HA)(t:TypeId)
def RD(s x:AV):Option (List Prop×AV×HA):=
 match P.underlying t with
 |some (.slice el)=>match P.info? el with
  |some ie=>match ie.zero with
   |some z=>match Nat.beq z.cells.size ie.size&&Nat.ble 1 ie.size&&Nat.ble 1 ie.bytes with
    |true=>match Qf6 m el ie.size s,Wg7 m ie.size x with
     |some (n1,f1),some (n2,f2)=>some ([(n1+n2)*ie.bytes<=140737488355328,∀i,i<n2-> ∀a∈f2 i,AV.one a=true],.row id,(id,.row el ie.size (n1+n2) (GL n1 f1 f2))::jN m s)
     |_,_=>none
    |false=>none
   |none=>none
  |none=>none
 |_=>none
def yV(q:Nat)(x:AV):Option (List Prop×GU):=
 match RD P id m t (.row q) x with
 |some (ns,_,(_,.row T sz n f)::_)=>match m.all (λp=>(!Nat.beq p.1 q||gX T sz p.2)&& !D4 q p.2) with
  |true=>some (ns,.aka q T sz n f)
  |false=>none
 |_=>none
end
theorem LC{c:Bool}: ∀(l l':List AV),(HJ c l l').length=(if c then l else l').length/\
  ∀(j:Nat) (a:AV),(HJ c l l')[j]? =some a-> ∃y,(if c then l else l')[j]? =some y/\(∀(e:UP) (w:World) (v:Value),Rep e w y v->Rep e w a v)/\(Idf y->Idf a)
 |[],l'=>by
  cases c;simp only [HJ,Bw,if_false,true_and];exact λj a h=>⟨a,h,λ_ _ _ h=>h,λh=>h⟩;simp [HJ]
 |x::l,[]=>by
  cases c;simp [HJ];simp only [HJ,if_true,true_and];exact λj a h=>⟨a,h,λ_ _ _ h=>h,λh=>h⟩
 |x::l,y::l'=>by
  have ih:=LC (c:=c) l l';refine ⟨?_,λj a h=>?_⟩;cases c<;>simpa [HJ] using ih.1;cases j with
  |zero=>
   simp only [HJ,List.getElem?_cons_zero,HL] at h;subst h;cases c;refine ⟨y,VY,λe w v h=>kU (by simpa using h),λh=>?_⟩
   unfold wQ;split;split;exact .x _;exact .top;exact .x _;exact .x _;exact .x _;exact h;refine ⟨x,VY,λe w v h=>kU (by simpa using h),λh=>?_⟩
   unfold wQ;split;split;exact .x _;exact .top;exact .x _;exact .x _;exact .x _;exact h
  |succ j=>
   simp only [HJ,List.getElem?_cons_succ] at h;obtain ⟨z,h1,h2,h3⟩:=ih.2 j a h;exact ⟨z,by cases c<;>simpa using h1,h2,h3⟩
section
variable {e:UP}{w:World}{m:HA}
theorem fG{el sz n:Nat}{f:Ci}{s:AV}{v:Value}(h:Qf6 m el sz s=some (n,f))(hm:G5 e m w)(r:Rep e w s v):
  (∀i,i<n->(f i).length=sz/\ ∀a∈f i,Idf a)/\(∀b,v.ownBlock=some b-> ∃id,s= .row id/\e.own b=some id)/\
   ∃xs:List Value,w.ownsRow 0 el sz v n xs/\ ∀(i j:Nat) (a:AV) (u:Value),i<n->(f i)[j]? =some a->xs[i*sz+j]? =some u->Rep e w a u:=by
 unfold Qf6 at h;split at h;rename_i id;split at h;rename_i T sz' n' f' hg;split at h;rename_i hb;simp only [HF] at hb;have h1:T=el:=H5 hb.1;have h2:sz=sz':=H5 hb.2;subst h1;subst h2;simp only [HL,FI] at h;obtain ⟨rfl,rfl⟩:=h;obtain ⟨_,HD,hf,xs,hx,GS⟩:=hm _ (GA hg);cases r with
 |row _ a n c hl A=>
  dsimp only at HD hx
  rw [A] at HD hx;exact ⟨hf,λb hb=>⟨id,rfl,HD b hb⟩,xs,hx,GS⟩
 cases h;cases h;simp only [HL,FI] at h;obtain ⟨rfl,rfl⟩:=h;cases r.x_inv;exact ⟨λi O=>VO,λb hb=>by simp [Value.ownBlock] at hb,[],World.ownsRow_nil w 0 el sz,λi j a u O=>VO⟩
 cases h
theorem OT{sz n:Nat}{f:Ci}{x:AV}{v:Value}(h:Wg7 m sz x=some (n,f))(hm:G5 e m w)(r:Rep e w x v):
  (∀i,i<n->(f i).length=sz/\ ∀a∈f i,Idf a)/\((v= .slice none 0 0/\n=0)\/ ∃(ad:Addr) (c:Nat) (us:List Value),v= .slice (some ad) n c/\us.length=n*sz/\(∀j u,us[j]? =some u->w.cell? (ad.add j)=some u)/\
   ∀(i j:Nat) (a:AV) (u:Value),i<n->(f i)[j]? =some a->us[i*sz+j]? =some u->Rep e w a u):=by
 unfold Wg7 at h;split at h;rename_i id;split at h;rename_i T sz' n' f' hg;split at h;rename_i hb;have h2:sz=sz':=H5 hb;subst h2;simp only [HL,FI] at h;obtain ⟨rfl,rfl⟩:=h;obtain ⟨_,HD,hf,xs,hx,GS⟩:=hm _ (GA hg);cases r with
 |row _ a n c hl A=>
  dsimp only at HD hx
  rw [A] at hx;refine ⟨hf,?_⟩;rcases hx.2 with ⟨hv0,hn0⟩|⟨g,cap,cur,hv0,_⟩;exact .inl ⟨hv0,hn0⟩;refine .inr ⟨⟨g,0,none⟩,cap,xs,hv0,hx.1,λj u W=>hx.cells (by rw [hv0];rfl) j u W,GS⟩
 cases h;cases h;rename_i sz' n' f';split at h;rename_i hb;have h2:sz=sz':=H5 hb;subst h2;simp only [HL,FI] at h;obtain ⟨rfl,rfl⟩:=h;cases r with
 |lstNil sz f=>exact ⟨λi O=>VO,.inl ⟨rfl,rfl⟩⟩
 |lst sz n f b o cap g h1 h2 hid h3 h4 h5 h6 h7 ad had=>
  refine ⟨λi O=>⟨h6 i O,hid i O⟩,.inr ⟨ad,cap,(List.range (n'*sz)).map (λq=>g (q / sz) (q%sz)),rfl,VY,?_,?_⟩⟩;intro j u W;simp only [Bn,Ay] at W;obtain ⟨q,hq,rfl⟩:=W;obtain ⟨hq1,hq2⟩:=RA.1 hq;simp at hq1 hq2;subst hq2;have hsz:0<sz:=by
   rcases Nat.eq_zero_or_pos sz with h0|h0;subst h0;simp at hq1;exact h0
  have hd:j / sz<n':=(Nat.div_lt_iff_lt_mul hsz).2 hq1;have:=h5 (j / sz) (j%sz) hd (Nat.mod_lt _ hsz);rw [had (Nat.lt_of_le_of_lt (Ao _) hd),DI,←this]
  congr 2
  have:=Nat.div_add_mod j sz;rw [Bp] at this;omega;intro i j a u O Z W;have hj:j<sz:=by rw [←h6 i O];exact (RA.1 Z).1
  simp only [Bn,Ay] at W;obtain ⟨q,hq,rfl⟩:=W;obtain ⟨hq1,hq2⟩:=RA.1 hq;simp at hq1 hq2;subst hq2;have e1:(i*sz+j) / sz=i:=by
   rw [Bp,Nat.mul_add_div VO,Nat.div_eq_of_lt hj,Bg]
  have e2:(i*sz+j)%sz=j:=by
   rw [Bp,Nat.mul_add_mod,Nat.mod_eq_of_lt hj]
  rw [e1,e2];exact h7 i j a O Z
 cases h;simp only [HL,FI] at h;obtain ⟨rfl,rfl⟩:=h;cases r.x_inv;exact ⟨λi O=>VO,.inl ⟨rfl,rfl⟩⟩;cases h
end
end
section
variable {P:Program}
theorem cJ{w w':World}{t ty el:TypeId}{ie:TypeInfo}{z v v':Value}{n m c:Nat}{xs news:List Value}{ad:Addr}(ht:P.underlying t=some (.slice el))(O:P.info? el=some ie)(hz:ie.zero=some z)
  (HD:w.ownsRow 0 el ie.size v n xs)(hl:news.length=m*ie.size)(M9: ∀j u,news[j]? =some u->w.cell? (ad.add j)=some u)(h1: ∀u∈news,u.oneCell'=true)
  (h63:n+m<=maxLen)(RN:(n+m)*ie.bytes<=140737488355328)
  (I:(Builtin.append_ #[t,t] ty #[v,.slice (some ad) m c]).run P w= .ok v' w')(kY:v'= .slice none 0 0↔v= .slice none 0 0/\m=0):
  v'.ownBlock=v.ownBlock\/v'.ownBlock=some w.heap.size:=by
 have Wu0:n+m<=9223372036854775807:=by simp only [maxLen] at h63;omega
 rcases HD.2 with ⟨rfl,rfl⟩|⟨g,cap,cur,rfl,hbg,hg,hnc,hcm,hcs,kX⟩;by_cases hm:m=0;rw [kY.2 ⟨rfl,hm⟩];exact .inl rfl;have h2:=run_append_nil (P:=P) w t ty el ie z ht O hz ad m c news hl M9 VO VO (by have hb:=RN;simp only [Ap] at hb;omega)
 rw [h2] at I;injection I with I _
 rw [←I];exact .inr rfl;by_cases M4:n+m<=cap;have h2:=run_append_room (P:=P) w t ty el ie ht O g n cap cur hg ad m c news hl M9 h1 M4 (by rw [hl,hcs,←Nat.add_mul];exact BS _ M4)
 rw [h2] at I;injection I with I _
 rw [←I];exact .inl rfl;have h2:=run_append_grow (P:=P) w t ty el ie z ht O hz ⟨g,0,none⟩ n cap xs HD.1 (HD.cells (g:=g) rfl) ad m c news hl M9 VO VO (growslice_fits VO RN);rw [h2] at I;injection I with I _
 rw [←I];exact .inr rfl
def UP.app(e:UP)(id:Nat)(v:Value):UP:=
 {ro:=e.ro,own:=λb=>if v.ownBlock=some b then some id else e.own b,live:=λk=>k=id\/e.live k,blk:=e.blk,val:=λk=>if k=id then v else e.val k}
theorem qX{e:UP}{B:Nat}{w:World}{m m':HA}{id:Nat}{t ty:TypeId}{s x val:AV}{vs vx:Value}{ns:List Prop}(h:RD P id m t s x=some (ns,val,m'))(hn: ∀p∈ns,p)
  (hE:GB e B w)(hB:B<=w.heap.size)(hm:G5 e m w)(hid: ¬e.live id)(rs:Rep e w s vs)(rx:Rep e w x vx):
  ∃u w',(Builtin.append_ #[t,t] ty #[vs,vx]).run P w= .ok u w'/\cM e B w id val (λk res=>(∃tl,m'=(id,res)::tl)/\k=id\/GM e w k res/\ ∀q,s= .row q->k≠q/\D4 q res=false) u w'/\ ∃r,m'=(id,r)::jN m s:=by
 unfold RD at h;split at h;rename_i el ht;split at h;rename_i ie O;split at h;rename_i z hz;split at h;rename_i hb;simp only [HF] at hb;obtain ⟨⟨hb1,hb2⟩,hb3⟩:=hb;have hzs:z.cells.size=ie.size:=H5 hb1;have hsz:=wD hb2;have hby:=wD hb3;split at h;rename_i n1 f1 n2 f2 hro hso;simp only [HL,FI] at h;obtain ⟨rfl,rfl,rfl⟩:=h;have RN:(n1+n2)*ie.bytes<=140737488355328:=hn _ VY;have mE: ∀i,i<n2-> ∀a∈f2 i,AV.one a=true:=hn _ VY;obtain ⟨hf1,hob,xs,hx,dI⟩:=fG hro hm rs;obtain ⟨hf2,Zv3⟩:=OT hso hm rx;have h63:n1+n2<=maxLen:=by
  have:n1+n2<=(n1+n2)*ie.bytes:=Nat.le_mul_of_pos_right _ hby;unfold maxLen;omega
 have key: ∃(u:Value) (w':World) (us:List Value),(Builtin.append_ #[t,t] ty #[vs,vx]).run P w= .ok u w'/\w'.ownsRow 0 el ie.size u (n1+n2) (xs++us)/\w.grownBy w' vs.ownBlock/\
   (u.ownBlock=vs.ownBlock\/u.ownBlock=some w.heap.size)/\us.length=n2*ie.size/\(∀(i j:Nat) (a:AV) (v:Value),i<n2->(f2 i)[j]? =some a->us[i*ie.size+j]? =some v->Rep e w a v):=by
  rcases Zv3 with ⟨rfl,rfl⟩|⟨ad,c,us,rfl,hul,hus,wU⟩;refine ⟨vs,w,[],?_,by simpa using hx,⟨rfl,rfl,rfl,Am _,λ_ _ _=>rfl⟩,.inl rfl,VY,λi j a v O=>VO⟩
  rcases hx.2 with ⟨rfl,rfl⟩|⟨g,cap,cur,rfl,_,_,hnc,_⟩;simp [Builtin.append_,run_underlying ht,sizeOf,typeInfo,O,Builtin.lenOf,Builtin.firstCells];simp [Builtin.append_,run_underlying ht,sizeOf,typeInfo,O,Builtin.lenOf,Builtin.firstCells,hnc,storeCells];have h1: ∀u∈us,u.oneCell'=true:=by
   intro u W;obtain ⟨q,hq⟩:=xJ.1 W;have hq1:q<n2*ie.size:=by rw [←hul];exact (RA.1 hq).1
   have hd:q / ie.size<n2:=(Nat.div_lt_iff_lt_mul hsz).2 hq1;have Zw3:=Nat.mod_lt q hsz;have hlt:q%ie.size<(f2 (q / ie.size)).length:=by rw [(hf2 _ hd).1];exact Zw3
   have he:q / ie.size*ie.size+q%ie.size=q:=by rw [Bp];exact Nat.div_add_mod q ie.size
   exact C2 (mE _ hd _ (List.getElem_mem hlt)) (wU (q / ie.size) (q%ie.size) _ u hd (D8 hlt) (by rw [he];exact hq))
  obtain ⟨v',w',I,ho,hg,kY⟩:=run_append_own (P:=P) w 0 t ty el ie z ie.size ie.bytes ht O hz rfl rfl hzs VO vs n1 xs hx ad n2 c us hul hus h1 h63 RN (Ao _);exact ⟨v',w',us,I,ho,hg,cJ ht O hz hx hul hus h1 h63 RN I kY,hul,wU⟩
 obtain ⟨u,w',us,I,ho,hg,r8,hul,wU⟩:=key;have hoB: ∀b,vs.ownBlock=some b->B<=b/\e.ro b=False/\ ∃k,s= .row k/\e.own b=some k:=by
  intro b hb;obtain ⟨k,hk,hk'⟩:=hob b hb;refine ⟨(hE.owned b k hk').1,?_,k,hk,hk'⟩;apply propext;exact ⟨(λI=>by rw [(hE.apart b I).1] at hk';cases hk'),False.elim⟩
 have M5: ∀b,e.ro b->some b≠vs.ownBlock:=by
  intro b hrb he;have:=(hoB b he.symm).2.1;rw [this] at hrb;exact hrb
 have Zv7: ∀b,e.ro b->u.ownBlock≠some b:=by
  intro b hrb he;rcases r8 with h|h;exact M5 b hrb (by rw [←he,h])
  rw [h] at he;have:=(hE.apart b hrb).2;simp at he;omega
 have IY: ∀b,u.ownBlock=some b->b<w'.heap.size:=λb hb=>(ho.lt b hb).2;have st:Step e (e.app id u) w w':=by
  refine ⟨λb hlt hrb=>⟨hrb,hg.block b hlt (M5 b hrb)⟩,λk hk=>?_,hg.size⟩;have hne:k≠id:=λhe=>hid (he▸hk);exact ⟨.inr hk,rfl,by simp [UP.app,hne]⟩
 refine ⟨u,w',I,⟨e.app id u,⟨hg.os,hg.tape,hg.output,hg.size,λk hk=>hg.block k VO (λhe=>by have:=(hoB k he.symm).1;omega)⟩,st,⟨?_,?_,hE.glob.step st⟩,?_,?_,?_,λ_ h=>h⟩,_,rfl⟩
 intro b hrb;have h1:=hE.apart b hrb;have h2:=hg.size;refine ⟨?_,VO⟩;simp only [UP.app];rw [if_neg (Zv7 b hrb)];exact h1.1;intro b k hk;simp only [UP.app] at hk;split at hk;rename_i hub;refine ⟨?_,IY b hub⟩;rcases r8 with h|h;exact (hoB b (by rw [←h];exact hub)).1
 rw [h] at hub;cases hub;exact hB;have:=hE.owned b k hk;have:=hg.size;exact ⟨(hE.owned b k hk).1,VO⟩;rcases ho.2 with ⟨A,_⟩|⟨g,cap,cur,A,_⟩;rw [A];exact .row id _ _ _ (.inl rfl) (by simp [UP.app])
 rw [A];exact .row id _ _ _ (.inl rfl) (by simp [UP.app])
 intro k0 res0 hp;rcases hp with ⟨⟨tl,htl⟩,rfl⟩|⟨hH,hpm⟩;have htl':=(List.cons.inj htl).1;cases htl';refine ⟨.inl rfl,?_,?_,xs++us,?_,?_⟩;intro b hb;simp only [UP.app,if_true] at hb ⊢;rw [if_pos hb];intro i hi';have hp:=LC (c:=decide (i<n1)) (f1 i) (f2 (i-n1));by_cases hc:i<n1;have e1:decide (i<n1)=true:=by simpa using hc
 rw [e1] at hp;simp only [if_true] at hp;simp only [GL];rw [e1];refine ⟨by rw [hp.1];exact (hf1 i hc).1,λa Z=>?_⟩
 obtain ⟨q,hq⟩:=xJ.1 Z;obtain ⟨y,hy,_,hy2⟩:=hp.2 q a hq;exact hy2 ((hf1 i hc).2 y (F9 hy));have e1:decide (i<n1)=false:=by simpa using hc
 rw [e1] at hp;simp only [Bw,if_false] at hp;simp only [GL];rw [e1];refine ⟨by rw [hp.1];exact (hf2 _ VO).1,λa Z=>?_⟩
 obtain ⟨q,hq⟩:=xJ.1 Z;obtain ⟨y,hy,_,hy2⟩:=hp.2 q a hq;exact hy2 ((hf2 _ VO).2 y (F9 hy));simpa [UP.app] using ho;intro i j a v hi' Z A;have hp:=LC (c:=decide (i<n1)) (f1 i) (f2 (i-n1));have hxl:xs.length=n1*ie.size:=hx.1;by_cases hc:i<n1;have e1:decide (i<n1)=true:=by simpa using hc
 rw [e1] at hp;simp only [if_true] at hp;simp only [GL] at Z;rw [e1] at Z;obtain ⟨y,hy,hy1,_⟩:=hp.2 j a Z;have hj:j<ie.size:=by rw [←(hf1 i hc).1];exact (RA.1 hy).1
 have hle:i*ie.size+ie.size<=n1*ie.size:=by
  have:=BS ie.size (Az hc)
  rwa [Bq] at this
 rw [Ce,if_pos VO] at A;exact (hy1 _ _ _ (dI i j y v hc hy A)).step st;have e1:decide (i<n1)=false:=by simpa using hc
 rw [e1] at hp;simp only [Bw,if_false] at hp;simp only [GL] at Z;rw [e1] at Z;obtain ⟨y,hy,hy1,_⟩:=hp.2 j a Z;have hge:n1*ie.size<=i*ie.size:=BS _ VO;rw [Ce,if_neg VO] at A;have e2:i*ie.size+j-xs.length=(i-n1)*ie.size+j:=by rw [hxl,Nat.sub_mul];omega
 rw [e2] at A;exact (hy1 _ _ _ (wU (i-n1) j y v VO hy A)).step st
 have hne:k0≠id:=by
  intro he;apply hid;rw [←he];exact hH.live
 have L7: ∀b k,e.own b=some k->k0=k->some b≠vs.ownBlock:=by
  intro b k hk hpk he;obtain ⟨_,_,k',hk',hk''⟩:=hoB b he.symm;rw [hk] at hk'';cases hk'';exact (hpm _ hk').1 hpk
 have hown': ∀b,e.own b=some k0->(e.app id u).own b=some k0/\w'.heap[b]? =w.heap[b]? :=by
  intro b hb;have OD:=(hE.owned b _ hb).2;have uW:=L7 b _ hb rfl;refine ⟨?_,hg.block b OD uW⟩;simp only [UP.app];rw [if_neg ?_];exact hb;intro he;rcases r8 with h|h;exact uW (by rw [←he,h])
  rw [h] at he;simp at he;omega
 cases res0 with
 |cells T l=>
  obtain ⟨q1,q2,vs',q3,q4⟩:=hH;have hq:=hown' _ q2;exact ⟨.inr q1,hq.1,vs',hq.2.trans q3,q4.step st⟩
 |row T sz n f=>
  obtain ⟨q1,q2,q5,ys,q3,q4⟩:=hH;have ev:(e.app id u).val k0=e.val k0:=by simp only [UP.app];rw [if_neg hne]
  refine ⟨.inr q1,?_,q5,ys,?_,λi j a v O Z A=>(q4 i j a v O Z A).step st⟩;rw [ev];exact λb hb=>(hown' b (q2 b hb)).1;rw [ev];refine ⟨q3.1,q3.2.imp (λh=>h) ?_⟩;rintro ⟨g',cap,cur,A,hg',hh,rest⟩;exact ⟨g',cap,cur,A,hg',by rw [(hown' g' (q2 g' (by rw [A];rfl))).2];exact hh,rest⟩
 |ints T pre n f=>
  obtain ⟨q1,q2,vs',q3,q4⟩:=hH;have hq:=hown' _ q2;exact ⟨.inr q1,hq.1,vs',hq.2.trans q3,q4.step st⟩
 |memo h f=>
  obtain ⟨q1,q2,es,c,q3,q4⟩:=hH;have hq:=hown' _ q2;exact ⟨.inr q1,hq.1,es,c,hq.2.trans q3,q4⟩
 |keep T l=>exact LT st hH
 |aka r T sz n f=>
  obtain ⟨q1,q0,o,hor,q2,q5,ys,q3,q4⟩:=hH;have ev:(e.app id u).val k0=e.val k0:=by simp only [UP.app];rw [if_neg hne]
  have hoq: ∀q,s= .row q->o≠q:=by
   intro q hs;rcases hor with rfl|rfl;exact (hpm q hs).1;have:=(hpm q hs).2;rintro rfl;simp [D4] at this
  have mD: ∀b,e.own b=some o->(e.app id u).own b=some o/\w'.heap[b]? =w.heap[b]? :=by
   intro b hb;have OD:=(hE.owned b _ hb).2;have uW:some b≠vs.ownBlock:=by
    intro he;obtain ⟨_,_,k',hk',hk''⟩:=hoB b he.symm;rw [hb] at hk'';exact hoq _ hk' (Bb hk'')
   refine ⟨?_,hg.block b OD uW⟩;simp only [UP.app];rw [if_neg ?_];exact hb;intro he;rcases r8 with h|h;exact uW (by rw [←he,h])
   rw [h] at he;simp at he;omega
  refine ⟨.inr q1,.inr q0,o,hor,?_,q5,ys,?_,λi j a v O Z A=>(q4 i j a v O Z A).step st⟩;rw [ev];exact λb hb=>(mD b (q2 b hb)).1;rw [ev];refine ⟨q3.1,q3.2.imp (λh=>h) ?_⟩;rintro ⟨g',cap,cur,A,hg',hh,rest⟩;exact ⟨g',cap,cur,A,hg',by rw [(mD g' (q2 g' (by rw [A];rfl))).2];exact hh,rest⟩
 rintro k (rfl|hk);exact .inr rfl;exact .inl hk;cases h;cases h;cases h;cases h;cases h
theorem OI{w w':World}{t ty el:TypeId}{ie:TypeInfo}{z v v':Value}{n m c:Nat}{xs news:List Value}{ad:Addr}(ht:P.underlying t=some (.slice el))(O:P.info? el=some ie)(hz:ie.zero=some z)
  (HD:w.ownsRow 0 el ie.size v n xs)(hl:news.length=m*ie.size)(M9: ∀j u,news[j]? =some u->w.cell? (ad.add j)=some u)(h1: ∀u∈news,u.oneCell'=true)
  (h63:n+m<=maxLen)(RN:(n+m)*ie.bytes<=140737488355328)
  (I:(Builtin.append_ #[t,t] ty #[v,.slice (some ad) m c]).run P w= .ok v' w')(kY:v'= .slice none 0 0↔v= .slice none 0 0/\m=0):
  (v'.ownBlock=none/\v.ownBlock=none)\/(∃g cap,v= .slice (some ⟨g,0,none⟩) n cap/\v'= .slice (some ⟨g,0,none⟩) (n+m) cap)\/(v'.ownBlock=some w.heap.size/\ ∀b,b<w.heap.size->w'.heap[b]? =w.heap[b]?):=by
 have Wu0:n+m<=9223372036854775807:=by simp only [maxLen] at h63;omega
 rcases HD.2 with ⟨rfl,rfl⟩|⟨g,cap,cur,rfl,hbg,hg,hnc,hcm,hcs,kX⟩;by_cases hm:m=0;rw [kY.2 ⟨rfl,hm⟩];exact .inl ⟨rfl,rfl⟩;have h2:=run_append_nil (P:=P) w t ty el ie z ht O hz ad m c news hl M9 VO VO (by have hb:=RN;simp only [Ap] at hb;omega)
 rw [h2] at I;injection I with I hw
 rw [←I,←hw];exact .inr (.inr ⟨rfl,λk hk=>heap_alloc_old w.drew _ hk⟩);by_cases M4:n+m<=cap;have h2:=run_append_room (P:=P) w t ty el ie ht O g n cap cur hg ad m c news hl M9 h1 M4 (by rw [hl,hcs,←Nat.add_mul];exact BS _ M4)
 rw [h2] at I;injection I with I _
 exact .inr (.inl ⟨g,cap,rfl,I.symm⟩);have h2:=run_append_grow (P:=P) w t ty el ie z ht O hz ⟨g,0,none⟩ n cap xs HD.1 (HD.cells (g:=g) rfl) ad m c news hl M9 VO VO (growslice_fits VO RN);rw [h2] at I;injection I with I hw
 rw [←I,←hw];exact .inr (.inr ⟨rfl,λk hk=>heap_alloc_old w.drew _ hk⟩)
def UP.aka(e:UP)(id:Nat)(v:Value):UP:=
 {ro:=e.ro,own:=λb=>match e.own b with|some k=>some k|none=>if v.ownBlock=some b then some id else none,live:=λk=>k=id\/e.live k,blk:=e.blk,val:=λk=>if k=id then v else e.val k}
theorem UP.aka_own{e:UP}{id b k:Nat}{v:Value}(h:e.own b=some k):(e.aka id v).own b=some k:=by simp [UP.aka,h]
section
variable {e:UP}{B:Nat}{w:World}
theorem AQ{m:HA}{id:Nat}{t ty:TypeId}{q:Nat}{x:AV}{res:GU}{vs vx:Value}{ns:List Prop}(h:yV P id m t q x=some (ns,res))(hn: ∀p∈ns,p)
  (hE:GB e B w)(hB:B<=w.heap.size)(hm:G5 e m w)(hid: ¬e.live id)(rs:Rep e w (.row q) vs)(rx:Rep e w x vx):
  ∃(T:TypeId) (sz n:Nat) (f:Ci),res= .aka q T sz n f/\(∀p∈m,(p.1=q->gX T sz p.2=true)/\D4 q p.2=false)/\
  ∃u w',(Builtin.append_ #[t,t] ty #[vs,vx]).run P w= .ok u w'/\cM e B w id (.row id) (λk r=>(k=id/\r= .aka q T sz n f)\/GM e w k r/\(k=q->gX T sz r=true)/\D4 q r=false) u w':=by
 unfold yV at h;split at h;rename_i ns' va id' T sz n f tl hap;split at h;rename_i D7;simp only [HL,FI] at h;obtain ⟨rfl,rfl⟩:=h;refine ⟨T,sz,n,f,rfl,?_,?_⟩;intro p hp;have:=BF.1 D7 p hp;simp only [HF,Bl,Ax] at this;refine ⟨λhq=>?_,this.2⟩;rcases this.1 with h1|h1;rw [hq,Nat.beq_refl] at h1;cases h1;exact h1;unfold RD at hap;split at hap;rename_i el ht;split at hap;rename_i ie O;split at hap;rename_i z hz;split at hap;rename_i hb;simp only [HF] at hb;obtain ⟨⟨hb1,hb2⟩,hb3⟩:=hb;have hzs:z.cells.size=ie.size:=H5 hb1;have hsz:=wD hb2;have hby:=wD hb3;split at hap;rename_i n1 f1 n2 f2 hro hso;simp only [HL,FI,List.cons.injEq,GU.row.injEq] at hap;obtain ⟨rfl,rfl,⟨rfl,rfl,rfl,rfl,rfl⟩,rfl⟩:=hap;have RN:(n1+n2)*ie.bytes<=140737488355328:=hn _ VY;have mE: ∀i,i<n2-> ∀a∈f2 i,AV.one a=true:=hn _ VY;obtain ⟨hf1,hob,xs,hx,dI⟩:=fG hro hm rs;obtain ⟨hf2,Zv3⟩:=OT hso hm rx;have h63:n1+n2<=maxLen:=by
  have:n1+n2<=(n1+n2)*ie.bytes:=Nat.le_mul_of_pos_right _ hby;unfold maxLen;omega
 have hvq:e.val q=vs:=by
  cases rs with
  |row _ _ _ _ _ A=>exact A
 have key: ∃(u:Value) (w':World) (us:List Value),(Builtin.append_ #[t,t] ty #[vs,vx]).run P w= .ok u w'/\w'.ownsRow 0 el ie.size u (n1+n2) (xs++us)/\w.grownBy w' vs.ownBlock/\
   ((u.ownBlock=none/\vs.ownBlock=none)\/(∃g cap,vs= .slice (some ⟨g,0,none⟩) n1 cap/\u= .slice (some ⟨g,0,none⟩) (n1+n2) cap)\/(u.ownBlock=some w.heap.size/\ ∀b,b<w.heap.size->w'.heap[b]? =w.heap[b]?))/\us.length=n2*ie.size/\(∀(i j:Nat) (a:AV) (v:Value),i<n2->(f2 i)[j]? =some a->us[i*ie.size+j]? =some v->Rep e w a v):=by
  rcases Zv3 with ⟨rfl,rfl⟩|⟨ad,c,us,rfl,hul,hus,wU⟩;refine ⟨vs,w,[],?_,by simpa using hx,⟨rfl,rfl,rfl,Am _,λ_ _ _=>rfl⟩,?_,VY,λi j a v O=>VO⟩
  rcases hx.2 with ⟨rfl,rfl⟩|⟨g,cap,cur,rfl,_,_,hnc,_⟩;simp [Builtin.append_,run_underlying ht,sizeOf,typeInfo,O,Builtin.lenOf,Builtin.firstCells];simp [Builtin.append_,run_underlying ht,sizeOf,typeInfo,O,Builtin.lenOf,Builtin.firstCells,hnc,storeCells];rcases hx.2 with ⟨rfl,rfl⟩|⟨g,cap,cur,rfl,_⟩;exact .inl ⟨rfl,rfl⟩;exact .inr (.inl ⟨g,cap,rfl,rfl⟩);have h1: ∀u∈us,u.oneCell'=true:=by
   intro u W;obtain ⟨q,hq⟩:=xJ.1 W;have hq1:q<n2*ie.size:=by rw [←hul];exact (RA.1 hq).1
   have hd:q / ie.size<n2:=(Nat.div_lt_iff_lt_mul hsz).2 hq1;have Zw3:=Nat.mod_lt q hsz;have hlt:q%ie.size<(f2 (q / ie.size)).length:=by rw [(hf2 _ hd).1];exact Zw3
   have he:q / ie.size*ie.size+q%ie.size=q:=by rw [Bp];exact Nat.div_add_mod q ie.size
   exact C2 (mE _ hd _ (List.getElem_mem hlt)) (wU (q / ie.size) (q%ie.size) _ u hd (D8 hlt) (by rw [he];exact hq))
  obtain ⟨v',w',I,ho,hg,kY⟩:=run_append_own (P:=P) w 0 t ty el ie z ie.size ie.bytes ht O hz rfl rfl hzs VO vs n1 xs hx ad n2 c us hul hus h1 h63 RN (Ao _);exact ⟨v',w',us,I,ho,hg,OI ht O hz hx hul hus h1 h63 RN I kY,hul,wU⟩
 obtain ⟨u,w',us,I,ho,hg,r8,hul,wU⟩:=key;have lX: ∀b,vs.ownBlock=some b->e.own b=some q:=by
  intro b hb;obtain ⟨k,hk,hk'⟩:=hob b hb;cases hk;exact hk'
 have M5: ∀b,e.ro b->some b≠vs.ownBlock:=by
  intro b hrb he;have h1:=lX b he.symm;rw [(hE.apart b hrb).1] at h1;cases h1
 have Jq2: ∀b k,e.own b=some k->k≠q->some b≠vs.ownBlock:=by
  intro b k hk hne he;have:=lX b he.symm;rw [hk] at this;exact hne (Bb this)
 have Wt8: ∀b,u.ownBlock=some b->e.own b=some q\/(e.own b=none/\b=w.heap.size):=by
  intro b hb;rcases r8 with ⟨h,_⟩|⟨g,cap,A,W⟩|h;rw [h] at hb;cases hb;rw [W] at hb;refine .inl (lX b ?_);rw [A];exact hb;rw [h.1] at hb;cases hb;refine .inr ⟨?_,rfl⟩;cases ho:e.own w.heap.size with
  |none=>rfl
  |some k=>have:=(hE.owned _ _ ho).2;omega
 have IY: ∀b,u.ownBlock=some b->b<w'.heap.size:=λb hb=>(ho.lt b hb).2;have st:Step e (e.aka id u) w w':=by
  refine ⟨λb hlt hrb=>⟨hrb,hg.block b hlt (M5 b hrb)⟩,λk hk=>?_,hg.size⟩;have hne:k≠id:=λhe=>hid (he▸hk);exact ⟨.inr hk,rfl,by simp [UP.aka,hne]⟩
 refine ⟨u,w',I,e.aka id u,⟨hg.os,hg.tape,hg.output,hg.size,λk hk=>hg.block k VO (λhe=>by have:=(hE.owned k _ (lX k he.symm)).1;omega)⟩,st,⟨?_,?_,hE.glob.step st⟩,?_,?_,?_,λ_ h=>h⟩
 intro b hrb;have h1:=hE.apart b hrb;have h2:=hg.size;refine ⟨?_,VO⟩;simp only [UP.aka,h1.1];rw [if_neg];intro hb;rcases Wt8 b hb with h|⟨_,h⟩;rw [h1.1] at h;cases h;have:=h1.2;omega;intro b k hk;simp only [UP.aka] at hk;split at hk;rename_i k' hk';have:=hE.owned b k' hk';have:=hg.size;exact ⟨(hE.owned b k' hk').1,VO⟩;rename_i hno;split at hk;rename_i hub;refine ⟨?_,IY b hub⟩;rcases Wt8 b hub with h|⟨_,h⟩;rw [hno] at h;cases h;omega;cases hk;rcases ho.2 with ⟨A,_⟩|⟨g,cap,cur,A,_⟩;rw [A];exact .row id _ _ _ (.inl rfl) (by simp [UP.aka])
 rw [A];exact .row id _ _ _ (.inl rfl) (by simp [UP.aka])
 rintro k0 res0 (⟨rfl,rfl⟩|⟨hH,hrq,hak⟩)
 have hlq:e.live q:=by cases rs with|row _ _ _ _ hl _=>exact hl
 refine ⟨.inl rfl,.inr hlq,?_⟩;have Zw7: ∀i,i<n1+n2->(GL n1 f1 f2 i).length=ie.size/\ ∀a∈GL n1 f1 f2 i,Idf a:=by
  intro i hi';have hp:=LC (c:=decide (i<n1)) (f1 i) (f2 (i-n1));by_cases hc:i<n1;have e1:decide (i<n1)=true:=by simpa using hc
  rw [e1] at hp;simp only [if_true] at hp;simp only [GL];rw [e1];refine ⟨by rw [hp.1];exact (hf1 i hc).1,λa Z=>?_⟩
  obtain ⟨q,hq⟩:=xJ.1 Z;obtain ⟨y,hy,_,hy2⟩:=hp.2 q a hq;exact hy2 ((hf1 i hc).2 y (F9 hy));have e1:decide (i<n1)=false:=by simpa using hc
  rw [e1] at hp;simp only [Bw,if_false] at hp;simp only [GL];rw [e1];refine ⟨by rw [hp.1];exact (hf2 _ VO).1,λa Z=>?_⟩
  obtain ⟨q,hq⟩:=xJ.1 Z;obtain ⟨y,hy,_,hy2⟩:=hp.2 q a hq;exact hy2 ((hf2 _ VO).2 y (F9 hy))
 have Wu5: ∀(i j:Nat) (a:AV) (v:Value),i<n1+n2->(GL n1 f1 f2 i)[j]? =some a->(xs++us)[i*ie.size+j]? =some v->Rep (e.aka k0 u) w' a v:=by
  intro i j a v hi' Z A;have hp:=LC (c:=decide (i<n1)) (f1 i) (f2 (i-n1));have hxl:xs.length=n1*ie.size:=hx.1;by_cases hc:i<n1;have e1:decide (i<n1)=true:=by simpa using hc
  rw [e1] at hp;simp only [if_true] at hp;simp only [GL] at Z;rw [e1] at Z;obtain ⟨y,hy,hy1,_⟩:=hp.2 j a Z;have hj:j<ie.size:=by rw [←(hf1 i hc).1];exact (RA.1 hy).1
  have hle:i*ie.size+ie.size<=n1*ie.size:=by
   have:=BS ie.size (Az hc)
   rwa [Bq] at this
  rw [Ce,if_pos VO] at A;exact (hy1 _ _ _ (dI i j y v hc hy A)).step st;have e1:decide (i<n1)=false:=by simpa using hc
  rw [e1] at hp;simp only [Bw,if_false] at hp;simp only [GL] at Z;rw [e1] at Z;obtain ⟨y,hy,hy1,_⟩:=hp.2 j a Z;have hge:n1*ie.size<=i*ie.size:=BS _ VO;rw [Ce,if_neg VO] at A;have e2:i*ie.size+j-xs.length=(i-n1)*ie.size+j:=by rw [hxl,Nat.sub_mul];omega
  rw [e2] at A;exact (hy1 _ _ _ (wU (i-n1) j y v VO hy A)).step st
 have OC:(e.aka k0 u).val k0=u:=by simp [UP.aka]
 rcases r8 with ⟨h1,h2⟩|⟨g,cap,A,W⟩|hb;refine ⟨k0,.inl rfl,λb hb=>?_,Zw7,xs++us,by rw [OC];exact ho,Wu5⟩
 rw [OC,h1] at hb;cases hb;refine ⟨q,.inr rfl,λb hb=>?_,Zw7,xs++us,by rw [OC];exact ho,Wu5⟩
 rw [OC,W] at hb;exact UP.aka_own (lX b (by rw [A];exact hb))
 refine ⟨k0,.inl rfl,λb hb'=>?_,Zw7,xs++us,by rw [OC];exact ho,Wu5⟩
 rw [OC] at hb';rcases Wt8 b hb' with h|⟨h,h2⟩;exfalso;rw [hb.1] at hb';cases hb';have:=(hE.owned _ _ h).2;omega;simp [UP.aka,h,hb'];have hne:k0≠id:=λhe=>hid (he▸hH.live);have ev:(e.aka id u).val k0=e.val k0:=by simp only [UP.aka];rw [if_neg hne]
 have hown': ∀b k,e.own b=some k->k≠q->(e.aka id u).own b=some k/\w'.heap[b]? =w.heap[b]? :=λb k hb hkq=>⟨UP.aka_own hb,hg.block b (hE.owned b _ hb).2 (Jq2 b k hb hkq)⟩;cases res0 with
 |cells T l=>
  have hkq:k0≠q:=λh=>by have:=hrq h;simp [gX] at this
  obtain ⟨q1,q2,vs',q3,q4⟩:=hH;have hq:=hown' _ _ q2 hkq;exact ⟨.inr q1,hq.1,vs',hq.2.trans q3,q4.step st⟩
 |ints T pre n f=>
  have hkq:k0≠q:=λh=>by have:=hrq h;simp [gX] at this
  obtain ⟨q1,q2,vs',q3,q4⟩:=hH;have hq:=hown' _ _ q2 hkq;exact ⟨.inr q1,hq.1,vs',hq.2.trans q3,q4.step st⟩
 |memo h f=>
  have hkq:k0≠q:=λh=>by have:=hrq h;simp [gX] at this
  obtain ⟨q1,q2,es,c,q3,q4⟩:=hH;have hq:=hown' _ _ q2 hkq;exact ⟨.inr q1,hq.1,es,c,hq.2.trans q3,q4⟩
 |keep T l=>exact LT st hH
 |aka r T sz n f=>
  have hkq:k0≠q:=λh=>by have:=hrq h;simp [gX] at this
  obtain ⟨q1,q0,o,hor,q2,q5,ys,q3,q4⟩:=hH;have hoq:o≠q:=by
   rcases hor with rfl|rfl;exact hkq;rintro rfl;simp [D4] at hak
  refine ⟨.inr q1,.inr q0,o,hor,?_,q5,ys,?_,λi j a v O Z A=>(q4 i j a v O Z A).step st⟩;rw [ev];exact λb hb=>(hown' b o (q2 b hb) hoq).1;rw [ev];refine ⟨q3.1,q3.2.imp (λh=>h) ?_⟩;rintro ⟨g',cap,cur,A,hg',hh,rest⟩;exact ⟨g',cap,cur,A,hg',by rw [(hown' g' o (q2 g' (by rw [A];rfl)) hoq).2];exact hh,rest⟩
 |row T' sz' n' f'=>
  obtain ⟨q1,q2,q5,ys,q3,q4⟩:=hH;refine ⟨.inr q1,?_,q5,ys,?_,λi j a v O Z A=>(q4 i j a v O Z A).step st⟩;rw [ev];exact λb hb=>UP.aka_own (q2 b hb);rw [ev];by_cases hkq:k0=q;have hT:=hrq hkq;subst hkq;simp only [gX,HF] at hT;have hT1:T'=el:=H5 hT.1;have hT2:sz'=ie.size:=H5 hT.2;subst hT1;subst hT2;refine ⟨q3.1,q3.2.imp (λh=>h) ?_⟩;rintro ⟨g',cap',cur',hv',hg',hh',r1,r2,r3,r4⟩;rw [hvq] at hv';rcases r8 with ⟨h1,h2⟩|⟨g,cap,A,W⟩|hb;rw [hv'] at h2;cases h2;rw [A] at hv';injection hv' with e1 e2 e3
  injection e1 with e1
  injection e1 with e1
  subst e1;subst e2;subst e3;rcases ho.2 with ⟨hv2,_⟩|⟨g2,cap2,cur2,hv2,_,hh2,s1,s2,s3,s4⟩;rw [W] at hv2;cases hv2;rw [W] at hv2;injection hv2 with e1 e2 e3
  injection e1 with e1
  injection e1 with e1
  subst e1;subst e3;refine ⟨g,cap,cur2,by rw [hvq,A],hg',hh2,r1,r2,s3,?_⟩
  have hxs:xs=ys:=by
   rcases hx.2 with ⟨hv3,_⟩|⟨g3,cap3,cur3,hv3,_,hh3,_,_,_,t4⟩;rw [A] at hv3;cases hv3;rw [A] at hv3;injection hv3 with e1 e2 e3
   injection e1 with e1
   injection e1 with e1
   subst e1;rw [hh'] at hh3;injection hh3 with hh3
   injection hh3 with hh3
   rw [←t4,←r4,hh3]
  rw [←hxs];have hxl:xs.length=n1*ie.size:=hx.1;have h5:=congrArg (List.take (n1*ie.size)) s4;rw [List.take_take,Cd (BS _ (Nat.le_add_right _ _)),←hxl,List.take_left] at h5;rw [←hxl];exact h5;exact ⟨g',cap',cur',by rw [hvq,hv'],hg',(hb.2 _ (PK.1 hh').1).trans hh',r1,r2,r3,r4⟩
  refine ⟨q3.1,q3.2.imp (λh=>h) ?_⟩;rintro ⟨g',cap,cur,A,hg',hh,rest⟩;exact ⟨g',cap,cur,A,hg',by rw [(hown' g' k0 (q2 g' (by rw [A];rfl)) hkq).2];exact hh,rest⟩
 rintro k (rfl|hk);exact .inr rfl;exact .inl hk;cases hap;cases hap;cases hap;cases hap;cases hap;cases h;cases h
theorem IH{m m':HA}{id:Nat}{t ty:TypeId}{s x val:AV}{vs vx:Value}{ns:List Prop}(h:RD P id m t s x=some (ns,val,m'))(hn: ∀p∈ns,p)
  (hE:GB e B w)(hB:B<=w.heap.size)(hm:G5 e m w)(hid: ¬e.live id)(rs:Rep e w s vs)(rx:Rep e w x vx):
  ∃u w',(Builtin.append_ #[t,t] ty #[vs,vx]).run P w= .ok u w'/\NA e B w id val m' u w':=by
 obtain ⟨u,w',I,⟨e',h1,h2,h3,h4,h5,h6,h7⟩,r,hm'⟩:=qX (ty:=ty) h hn hE hB hm hid rs rx;refine ⟨u,w',I,e',h1,h2,h3,h4,?_,h6,h7⟩;intro p hp;rw [hm'] at hp;rcases GT.1 hp with rfl|hp;exact h5 _ _ (.inl ⟨⟨_,hm'⟩,rfl⟩);have hpm:p∈m/\ ∀k,s= .row k->p.1≠k/\D4 k p.2=false:=by
  cases s with
  |row k=>exact ⟨(LF hp).1,λk' hk'=>by cases hk';exact (LF hp).2⟩
  |_=>exact ⟨hp,λk hk=>by cases hk⟩
 exact h5 p.1 p.2 (.inr ⟨hm p hpm.1,hpm.2⟩)
end
end
structure FK (P:Program) (t:TypeId) (h:Value->Prop) (k z:Value):Prop where
 kt: ∃kt et fs,P.underlying t=some (.map kt et)/\P.underlying kt=some (.struct fs)/\
  (∀b w,(Instr.checkKey b 10000 kt k).run P w= .ok () w)/\
  (∀k',h k'-> ∀w,∃r,(Op.equal kt k k').run P w= .ok r w/\(r=true->k'=k))/\(∀w,(zeroValue et).run P w= .ok z w)
 bits:Instr.sameBits 10000 k k=true
theorem MN{fs:Array Field}{k:Value}: ∀(es:List MapEntry) (i:Nat),Instr.findNow (.struct fs) k es i=some none\/Instr.findNow (.struct fs) k es i=none
 |[],_=> .inl rfl
 |e::es,i=>by
  right;unfold Instr.findNow;cases k<;>cases e.key<;>rfl
theorem kI{P:Program}{kt:TypeId}{h:Value->Prop}{k:Value}(heq: ∀k',h k'-> ∀w,∃r,(Op.equal kt k k').run P w= .ok r w/\(r=true->k'=k))(w:World):
  ∀(es:List MapEntry) (i:Nat),(∀x∈es,h x.key)->(Instr.findAsking kt k es i).run P w= .ok none w\/ ∃j x,es[j]? =some x/\x.key=k/\(Instr.findAsking kt k es i).run P w= .ok (some (i+j,x.val)) w
 |[],i,_=> .inl rfl
 |e::es,i,hh=>by
  obtain ⟨r,h1,h2⟩:=heq e.key (hh e GN) w;cases r with
  |true=>exact .inr ⟨0,e,rfl,h2 rfl,by simp [Instr.findAsking,h1]⟩
  |false=>
   rcases kI heq w es (i+1) (λx hx=>hh x (D1 _ hx)) with h3|⟨j,x,h3,h4,h5⟩
   exact .inl (by simp [Instr.findAsking,h1,h3])
   refine .inr ⟨j+1,x,by simpa using h3,h4,?_⟩
   simp only [Instr.findAsking,At,h1,Result.andThen,Bw,if_false,h5]
   congr 3
   omega
theorem gQ{P:Program}{kt:TypeId}{fs:Array Field}(W:P.underlying kt=some (.struct fs)){h:Value->Prop}{k:Value}(heq: ∀k',h k'-> ∀w,∃r,(Op.equal kt k k').run P w= .ok r w/\(r=true->k'=k))(w:World)
  (es:List MapEntry)(hh: ∀x∈es,h x.key):(Instr.findKey kt k es).run P w= .ok none w\/ ∃j x,es[j]? =some x/\x.key=k/\(Instr.findKey kt k es).run P w= .ok (some (j,x.val)) w:=by
 unfold Instr.findKey;rcases MN (fs:=fs) (k:=k) es 0 with h1|h1;exact .inl (by simp [run_underlying W,h1])
 rcases kI heq w es 0 hh with h2|⟨j,x,h2,h3,h4⟩;exact .inl (by simp [run_underlying W,h1,h2])
 refine .inr ⟨j,x,h2,h3,?_⟩;simp [run_underlying W,h1,h4]
def IQ(ok:Bool)(v:Value)(b:Bool):Value:=if ok then .tuple #[v,.bool b] else v
section
variable {P:Program}{t:TypeId}{h:Value->Prop}{f:Value->Value}
theorem Wh6{k z:Value}(mk:FK P t h k z){w:World}{b c:Nat}{es:Array MapEntry}(hb:w.heap[b]? =some (.map es c))(hes: ∀x∈es.toList,h x.key/\x.val=f x.key)(ok:Bool):
  ∃v,(Instr.lookup t (.map (some b)) k ok).run P w= .ok v w/\((h k/\v=IQ ok (f k) true)\/v=IQ ok z false):=by
 obtain ⟨⟨kt,et,fs,h1,h2,h3,h4,h5⟩,_⟩:=mk;rcases gQ h2 h4 w es.toList (λx hx=>(hes x hx).1) with hf|⟨j,x,hx,hk,hf⟩
 refine ⟨IQ ok z false,?_,.inr rfl⟩;simp [Instr.lookup,run_underlying h1,MapKept.run_getObj_map hb,h3,hf,h5,Result.andThen,IQ];have hm:=hes x (F9 hx);refine ⟨IQ ok (f k) true,?_,.inl ⟨hk▸hm.1,rfl⟩⟩;have A:x.val=f k:=by rw [hm.2,hk]
 simp [Instr.lookup,run_underlying h1,MapKept.run_getObj_map hb,h3,hf,A,Result.andThen,IQ]
theorem Xn3{k z v:Value}(mk:FK P t h k z)(hk:h k)(A:v=f k){w:World}{b c:Nat}{es:Array MapEntry}(hb:w.heap[b]? =some (.map es c))(hes: ∀x∈es.toList,h x.key/\x.val=f x.key):
  ∃es' c',(Instr.mapUpdate t (.map (some b)) k v).run P w= .ok () {w with heap:=w.heap.setIfInBounds b (.map es' c') }/\ ∀x∈es'.toList,h x.key/\x.val=f x.key:=by
 obtain ⟨⟨kt,et,fs,h1,h2,h3,h4,h5⟩,h6⟩:=mk;rcases gQ h2 h4 w es.toList (λx hx=>(hes x hx).1) with hf|⟨j,x,hx,hkx,hf⟩
 refine ⟨es.push {key:=k,val:=v,born:=c},c+1,?_,?_⟩;simp [Instr.mapUpdate,run_underlying h1,MapKept.run_getObj_map hb,h3,hf,MapKept.run_setObj_map _ hb,Result.andThen];intro y hy;rw [Array.toList_push,Bc,B2] at hy;rcases hy with hy|rfl;exact hes y hy;exact ⟨hk,A⟩;refine ⟨es.modify j λe=>{e with key:=k,val:=v},c,?_,?_⟩
 have hj:es[j]? =some x:=by simpa using hx
 simp [Instr.mapUpdate,run_underlying h1,MapKept.run_getObj_map hb,h3,hf,hj,hkx,Instr.keyThatStays,h6,MapKept.run_setObj_map _ hb,Result.andThen];intro y hy;rw [Array.toList_modify] at hy;obtain ⟨n,hn⟩:=xJ.1 hy;rw [List.getElem?_modify] at hn;cases hq:es.toList[n]? with
 |none=>rw [hq] at hn;simp at hn
 |some q=>
  rw [hq] at hn;by_cases hjn:j=n;simp [hjn] at hn;subst hn;exact ⟨hk,A⟩;simp [hjn] at hn;subst hn;exact hes q (F9 hq)
theorem OP{k z v:Value}{e:UP}{B:Nat}{w:World}{m:HA}{i:Nat}(hg:DN m i=some (.memo h f))(mk:FK P t h k z)(hk:h k)(A:v=f k)(hE:GB e B w)(hm:G5 e m w):
  ∃w',(Instr.mapUpdate t (.map (some (e.blk i))) k v).run P w= .ok () w'/\ ∀(id:Nat) (u:Value),NA e B w id .top ((i,.memo h f)::kB m i) u w':=by
 obtain ⟨h1,h2,es,c,h3,h4⟩:=hm _ (GA hg);obtain ⟨es',c',I,hes⟩:=Xn3 mk hk A h3 h4;refine ⟨_,I,λid u=>?_⟩;have hlt:=(PK.1 h3).1;have hsz:({w with heap:=w.heap.setIfInBounds (e.blk i) (.map es' c') }:World).heap.size=w.heap.size:=VY
 have L7: ∀b,b≠e.blk i->({w with heap:=w.heap.setIfInBounds (e.blk i) (.map es' c') }:World).heap[b]? =w.heap[b]? :=λb hb=>by simp [Ne.symm hb]
 have hB:=(hE.owned _ _ h2).1;refine ⟨e,?_,FC hE h2 hsz L7,LD hE hsz (FC hE h2 hsz L7),.top _,?_,λ_ h=> .inl h,λ_ h=>h⟩;exact ⟨rfl,rfl,rfl,VY,λb hb=>L7 b (by dsimp only at hB;omega)⟩
 intro p hp;rcases GT.1 hp with rfl|hp;exact ⟨h1,h2,es',c',by simp [hlt],hes⟩
 exact PG hE h2 hsz L7 (LF hp).2 (hm p (LF hp).1)
end
def Wb0(P:Program)(t:TypeId):Option Value:=match P.underlying t with
 |some (.map _ et)=>match P.info? et with
  |some i=>i.zero
  |none=>none
 |_=>none
def sU(ok:Bool)(v:Value)(b:Bool):AV:=match ok with
 |true=> .tup [.x v,.lit b]
 |false=> .x v
theorem IR(e:UP)(w:World)(ok:Bool)(v:Value)(b:Bool):Rep e w (sU ok v b) (IQ ok v b):=by
 cases ok with
 |true=>exact Rep.tupL (U8.cons (.x v) (U8.one (.lit b)))
 |false=>exact .x v
def Zu2:AV->Bool
 | .lit true=>true
 |_=>false
theorem FK.mono{P:Program}{t:TypeId}{h h0:Value->Prop}{k z:Value}(hm: ∀v,h v->h0 v)(mk:FK P t h0 k z):FK P t h k z:=by
 obtain ⟨⟨kt,et,fs,h1,h2,h3,h4,h5⟩,b⟩:=mk;exact ⟨⟨kt,et,fs,h1,h2,h3,λk' hk=>h4 k' (hm k' hk),h5⟩,b⟩
theorem Wf5{P:Program}{t:TypeId}{h:Value->Prop}{f:Value->Value}{k z v:Value}{e:UP}{B:Nat}{w:World}{m:HA}{i:Nat}(hg:DN m i=some (.memo h f))(hf: ∀u,h u->f u=v)(mk:FK P t (λu=>h u\/u=k) k z)(hE:GB e B w)(hm:G5 e m w):
  ∃w',(Instr.mapUpdate t (.map (some (e.blk i))) k v).run P w= .ok () w'/\ ∀(id:Nat) (u:Value),NA e B w id .top ((i,.memo (λu=>h u\/u=k) (λ_=>v))::kB m i) u w':=by
 have hm2:G5 e ((i,.memo (λu=>h u\/u=k) (λ_=>v))::kB m i) w:=by
  intro p hp;rcases GT.1 hp with rfl|hp;obtain ⟨h1,h2,es,c,h3,h4⟩:=hm _ (GA hg);exact ⟨h1,h2,es,c,h3,λx hx=>⟨.inl (h4 x hx).1,(h4 x hx).2.trans (hf _ (h4 x hx).1)⟩⟩;exact hm p (LF hp).1
 obtain ⟨w',q1,q2⟩:=OP (P:=P) (t:=t) (m:=(i,.memo (λu=>h u\/u=k) (λ_=>v))::kB m i) (i:=i) (h:=λu=>h u\/u=k) (f:=λ_=>v) (k:=k) (z:=z) (v:=v) (by simp [DN]) mk (.inr rfl) rfl hE hm2
 refine ⟨w',q1,λid u=>?_⟩;obtain ⟨e',g1,g2,g3,g4,g5,g6,g7⟩:=q2 id u;refine ⟨e',g1,g2,g3,g4,λp hp=>?_,g6,g7⟩;rcases GT.1 hp with rfl|hp;exact g5 _ GN;refine g5 p (D1 _ ?_);have hne:=(LF hp).2;have hd: ∀(l:HA),p∈l->p∈kB l i:=by
  intro l hl
  induction l with
  |nil=>cases hl
  |cons q t ih=>
   obtain ⟨k',q⟩:=q;unfold kB;rcases GT.1 hl with rfl|hl;split;rename_i hk;rw [Bl] at hk;rcases hk with hk|hk;exact absurd (H5 hk) hne.1;rw [hne.2] at hk;cases hk;exact GN;split;exact ih hl;exact D1 _ (ih hl)
 have h1:p∈(i,GU.memo (λu=>h u\/u=k) (λ_=>v))::kB m i:=D1 _ hp;exact hd _ h1
section
variable {P:Program}
theorem eZ{s:ByteArray}{j:Nat}{v:Value}(h:(Lib.strCells s)[j]? =some v):v= .int .u8 (HE s j):=by
 unfold Lib.strCells at h;rw [Bn] at h;cases hd:s.data.toList[j]? with
 |none=>rw [hd] at h;cases h
 |some b=>
  rw [hd] at h;simp only [Bt,HL] at h;rw [←h];unfold HE;have hd':s.data[j]? =some b:=by rw [←hd,Array.getElem?_toList]
  have hg:s.data.getD j 0=b:=by rw [L0,hd'];rfl
  rw [hg]
def zB:Value->Bool
 | .int k n=>decide (k= .u8)&&decide (n=0)
 |_=>false
theorem Jf0{z:Value}(h:zB z=true):z= .int .u8 0:=by
 unfold zB at h;split at h;rw [HF,vK,vK] at h;rw [h.1,h.2];cases h
def yU(P:Program)(id:Nat)(m:HA)(t u:TypeId)(s x:AV):Option (List Prop×AV×HA):=
 match x with
 | .x (.string str)=>match P.underlying t with
  |some (.slice el)=>match P.underlying u with
   |some .string=>match P.info? el with
    |some ie=>match ie.zero with
     |some z=>match zB z&&Nat.beq ie.size 1&&Nat.beq ie.bytes 1 with
      |true=>match Qf6 m el 1 s with
       |some (n1,f1)=>some ([n1+str.size<=140737488355328],.row id,(id,.row el 1 (n1+str.size) (GL n1 f1 (HG str)))::jN m s)
       |none=>none
      |false=>none
     |none=>none
    |none=>none
   |_=>none
  |_=>none
 |_=>none
theorem OH{w w':World}{t u ty el:TypeId}{ie:TypeInfo}{v v':Value}{n:Nat}{xs:List Value}{s:ByteArray}(ht:P.underlying t=some (.slice el))(W:P.underlying u=some .string)(O:P.info? el=some ie)(hz:ie.zero=some (.int .u8 0))
  (hs1:ie.size=1)(hb1:ie.bytes=1)(HD:w.ownsRow 0 el 1 v n xs)(h63:n+s.size<=maxLen)(RN:n+s.size<=140737488355328)
  (I:(Builtin.append_ #[t,u] ty #[v,.string s]).run P w= .ok v' w')(kY:v'= .slice none 0 0↔v= .slice none 0 0/\s.size=0):
  v'.ownBlock=v.ownBlock\/v'.ownBlock=some w.heap.size:=by
 have Wu0:n+s.size<=9223372036854775807:=by simp only [maxLen] at h63;omega
 rcases HD.2 with ⟨rfl,rfl⟩|⟨g,cap,cur,rfl,hbg,hg,hnc,hcm,hcs,kX⟩;by_cases hm:s.size=0;rw [kY.2 ⟨rfl,hm⟩];exact .inl rfl;have h2:=run_append_nil_string (P:=P) w t u ty el ie (.int .u8 0) ht W O hz s VO VO (by rw [hb1];omega)
 rw [h2] at I;injection I with I _
 rw [←I];exact .inr rfl;by_cases M4:n+s.size<=cap;have h2:=Lib.run_append_room_string (P:=P) w t u ty el ie ht W O hs1 g n cap cur hg s M4 VO;rw [h2] at I;injection I with I _
 rw [←I];exact .inl rfl;have h2:=Lib.run_append_grow_string (P:=P) w t u ty el ie (.int .u8 0) ht W O hz ⟨g,0,none⟩ n cap xs (by rw [hs1];simpa using HD.1) (HD.cells (g:=g) rfl) s VO VO (by rw [hb1];exact growslice_fits VO VO)
 rw [h2] at I;injection I with I _
 rw [←I];exact .inr rfl
section
variable {e:UP}{B:Nat}{w:World}
theorem cK{m:HA}{id:Nat}{t u0 ty el:TypeId}{ie:TypeInfo}{s:AV}{str:ByteArray}{vs:Value}{n1:Nat}{f1:Ci}{xs:List Value}(ht:P.underlying t=some (.slice el))(W:P.underlying u0=some .string)(O:P.info? el=some ie)(hz:ie.zero=some (.int .u8 0))(hs1:ie.size=1)(hy1:ie.bytes=1)
  (hE:GB e B w)(hB:B<=w.heap.size)(hid: ¬e.live id)(RN:n1+str.size<=140737488355328)(h63:n1+str.size<=maxLen)
  (hf1: ∀i,i<n1->(f1 i).length=1/\ ∀a∈f1 i,Idf a)(hob: ∀b,vs.ownBlock=some b-> ∃k,s= .row k/\e.own b=some k)(hx:w.ownsRow 0 el 1 vs n1 xs)
  (dI: ∀(i j:Nat) (a:AV) (u:Value),i<n1->(f1 i)[j]? =some a->xs[i*1+j]? =some u->Rep e w a u):
  ∃u w',(Builtin.append_ #[t,u0] ty #[vs,.string str]).run P w= .ok u w'/\cM e B w id (.row id) (λk res=>(∃tl,(id,GU.row el 1 (n1+str.size) (GL n1 f1 (HG str)))::jN m s=(id,res)::tl)/\k=id\/GM e w k res/\ ∀q,s= .row q->k≠q/\D4 q res=false) u w'/\ ∃r,(id,GU.row el 1 (n1+str.size) (GL n1 f1 (HG str)))::jN m s=(id,r)::jN m s:=by
    obtain ⟨u,w',I,ho,hg,kY⟩:=Lib.run_append_own_string (P:=P) w 0 t u0 ty el ie ht W O hz hs1 hy1 vs n1 xs hx str h63 RN (Ao _);have r8:=OH ht W O hz hs1 hy1 hx h63 RN I kY;have hf2: ∀i,i<str.size->(HG str i).length=1/\ ∀a∈HG str i,Idf a:=λi _=>⟨rfl,λa Z=>by
     rw [B2.1 Z];exact .x _⟩
    have wU: ∀(i j:Nat) (a:AV) (v:Value),i<str.size->(HG str i)[j]? =some a->(Lib.strCells str)[i*1+j]? =some v->Rep e w a v:=by
     intro i j a v hi' Z A;cases j with
     |zero=>
      simp only [HG,List.getElem?_cons_zero,HL] at Z;rw [Nat.mul_one,Bg] at A;rw [←Z,eZ A];exact .x _
     |succ j=>simp [HG] at Z
    have hoB: ∀b,vs.ownBlock=some b->B<=b/\e.ro b=False/\ ∃k,s= .row k/\e.own b=some k:=by
     intro b hb;obtain ⟨k,hk,hk'⟩:=hob b hb;refine ⟨(hE.owned b k hk').1,?_,k,hk,hk'⟩;apply propext;exact ⟨(λI=>by rw [(hE.apart b I).1] at hk';cases hk'),False.elim⟩
    have M5: ∀b,e.ro b->some b≠vs.ownBlock:=by
     intro b hrb he;have:=(hoB b he.symm).2.1;rw [this] at hrb;exact hrb
    have Zv7: ∀b,e.ro b->u.ownBlock≠some b:=by
     intro b hrb he;rcases r8 with h|h;exact M5 b hrb (by rw [←he,h])
     rw [h] at he;have:=(hE.apart b hrb).2;simp at he;omega
    have IY: ∀b,u.ownBlock=some b->b<w'.heap.size:=λb hb=>(ho.lt b hb).2;have st:Step e (e.app id u) w w':=by
     refine ⟨λb hlt hrb=>⟨hrb,hg.block b hlt (M5 b hrb)⟩,λk hk=>?_,hg.size⟩;have hne:k≠id:=λhe=>hid (he▸hk);exact ⟨.inr hk,rfl,by simp [UP.app,hne]⟩
    refine ⟨u,w',I,⟨e.app id u,⟨hg.os,hg.tape,hg.output,hg.size,λk hk=>hg.block k VO (λhe=>by have:=(hoB k he.symm).1;omega)⟩,st,⟨?_,?_,hE.glob.step st⟩,?_,?_,?_,λ_ h=>h⟩,_,rfl⟩
    intro b hrb;have h1:=hE.apart b hrb;have h2:=hg.size;refine ⟨?_,VO⟩;simp only [UP.app];rw [if_neg (Zv7 b hrb)];exact h1.1;intro b k hk;simp only [UP.app] at hk;split at hk;rename_i hub;refine ⟨?_,IY b hub⟩;rcases r8 with h|h;exact (hoB b (by rw [←h];exact hub)).1
    rw [h] at hub;cases hub;exact hB;have:=hE.owned b k hk;have:=hg.size;exact ⟨(hE.owned b k hk).1,VO⟩;rcases ho.2 with ⟨A,_⟩|⟨g,cap,cur,A,_⟩;rw [A];exact .row id _ _ _ (.inl rfl) (by simp [UP.app])
    rw [A];exact .row id _ _ _ (.inl rfl) (by simp [UP.app])
    intro k0 res0 hp;rcases hp with ⟨⟨tl,htl⟩,rfl⟩|⟨hH,hpm⟩;have htl':=(List.cons.inj htl).1;cases htl';refine ⟨.inl rfl,?_,?_,xs++Lib.strCells str,?_,?_⟩;intro b hb;simp only [UP.app,if_true] at hb ⊢;rw [if_pos hb];intro i hi';have hp:=LC (c:=decide (i<n1)) (f1 i) (HG str (i-n1));by_cases hc:i<n1;have e1:decide (i<n1)=true:=by simpa using hc
    rw [e1] at hp;simp only [if_true] at hp;simp only [GL];rw [e1];refine ⟨by rw [hp.1];exact (hf1 i hc).1,λa Z=>?_⟩
    obtain ⟨q,hq⟩:=xJ.1 Z;obtain ⟨y,hy,_,hy2⟩:=hp.2 q a hq;exact hy2 ((hf1 i hc).2 y (F9 hy));have e1:decide (i<n1)=false:=by simpa using hc
    rw [e1] at hp;simp only [Bw,if_false] at hp;simp only [GL];rw [e1];refine ⟨by rw [hp.1];exact (hf2 _ VO).1,λa Z=>?_⟩
    obtain ⟨q,hq⟩:=xJ.1 Z;obtain ⟨y,hy,_,hy2⟩:=hp.2 q a hq;exact hy2 ((hf2 _ VO).2 y (F9 hy));simpa [UP.app] using ho;intro i j a v hi' Z A;have hp:=LC (c:=decide (i<n1)) (f1 i) (HG str (i-n1));have hxl:xs.length=n1*1:=hx.1;by_cases hc:i<n1;have e1:decide (i<n1)=true:=by simpa using hc
    rw [e1] at hp;simp only [if_true] at hp;simp only [GL] at Z;rw [e1] at Z;obtain ⟨y,hy,hy1,_⟩:=hp.2 j a Z;have hj:j<1:=by rw [←(hf1 i hc).1];exact (RA.1 hy).1
    have hle:i*1+1<=n1*1:=by
     have:=BS 1 (Az hc)
     rwa [Bq] at this
    rw [Ce,if_pos VO] at A;exact (hy1 _ _ _ (dI i j y v hc hy A)).step st;have e1:decide (i<n1)=false:=by simpa using hc
    rw [e1] at hp;simp only [Bw,if_false] at hp;simp only [GL] at Z;rw [e1] at Z;obtain ⟨y,hy,hy1,_⟩:=hp.2 j a Z;have hge:n1*1<=i*1:=BS _ VO;rw [Ce,if_neg VO] at A;have e2:i*1+j-xs.length=(i-n1)*1+j:=by rw [hxl,Nat.sub_mul];omega
    rw [e2] at A;exact (hy1 _ _ _ (wU (i-n1) j y v VO hy A)).step st
    have hne:k0≠id:=by
     intro he;apply hid;rw [←he];exact hH.live
    have L7: ∀b k,e.own b=some k->k0=k->some b≠vs.ownBlock:=by
     intro b k hk hpk he;obtain ⟨_,_,k',hk',hk''⟩:=hoB b he.symm;rw [hk] at hk'';cases hk'';exact (hpm _ hk').1 hpk
    have hown': ∀b,e.own b=some k0->(e.app id u).own b=some k0/\w'.heap[b]? =w.heap[b]? :=by
     intro b hb;have OD:=(hE.owned b _ hb).2;have uW:=L7 b _ hb rfl;refine ⟨?_,hg.block b OD uW⟩;simp only [UP.app];rw [if_neg ?_];exact hb;intro he;rcases r8 with h|h;exact uW (by rw [←he,h])
     rw [h] at he;simp at he;omega
    cases res0 with
    |cells T l=>
     obtain ⟨q1,q2,vs',q3,q4⟩:=hH;have hq:=hown' _ q2;exact ⟨.inr q1,hq.1,vs',hq.2.trans q3,q4.step st⟩
    |row T sz n f=>
     obtain ⟨q1,q2,q5,ys,q3,q4⟩:=hH;have ev:(e.app id u).val k0=e.val k0:=by simp only [UP.app];rw [if_neg hne]
     refine ⟨.inr q1,?_,q5,ys,?_,λi j a v O Z A=>(q4 i j a v O Z A).step st⟩;rw [ev];exact λb hb=>(hown' b (q2 b hb)).1;rw [ev];refine ⟨q3.1,q3.2.imp (λh=>h) ?_⟩;rintro ⟨g',cap,cur,A,hg',hh,rest⟩;exact ⟨g',cap,cur,A,hg',by rw [(hown' g' (q2 g' (by rw [A];rfl))).2];exact hh,rest⟩
    |ints T pre n f=>
     obtain ⟨q1,q2,vs',q3,q4⟩:=hH;have hq:=hown' _ q2;exact ⟨.inr q1,hq.1,vs',hq.2.trans q3,q4.step st⟩
    |memo h f=>
     obtain ⟨q1,q2,es,c,q3,q4⟩:=hH;have hq:=hown' _ q2;exact ⟨.inr q1,hq.1,es,c,hq.2.trans q3,q4⟩
    |keep T l=>exact LT st hH
    |aka r T sz n f=>
     obtain ⟨q1,q0,o,hor,q2,q5,ys,q3,q4⟩:=hH;have ev:(e.app id u).val k0=e.val k0:=by simp only [UP.app];rw [if_neg hne]
     have hoq: ∀q,s= .row q->o≠q:=by
      intro q hs;rcases hor with rfl|rfl;exact (hpm q hs).1;have:=(hpm q hs).2;rintro rfl;simp [D4] at this
     have mD: ∀b,e.own b=some o->(e.app id u).own b=some o/\w'.heap[b]? =w.heap[b]? :=by
      intro b hb;have OD:=(hE.owned b _ hb).2;have uW:some b≠vs.ownBlock:=by
       intro he;obtain ⟨_,_,k',hk',hk''⟩:=hoB b he.symm;rw [hb] at hk'';exact hoq _ hk' (Bb hk'')
      refine ⟨?_,hg.block b OD uW⟩;simp only [UP.app];rw [if_neg ?_];exact hb;intro he;rcases r8 with h|h;exact uW (by rw [←he,h])
      rw [h] at he;simp at he;omega
     refine ⟨.inr q1,.inr q0,o,hor,?_,q5,ys,?_,λi j a v O Z A=>(q4 i j a v O Z A).step st⟩;rw [ev];exact λb hb=>(mD b (q2 b hb)).1;rw [ev];refine ⟨q3.1,q3.2.imp (λh=>h) ?_⟩;rintro ⟨g',cap,cur,A,hg',hh,rest⟩;exact ⟨g',cap,cur,A,hg',by rw [(mD g' (q2 g' (by rw [A];rfl))).2];exact hh,rest⟩
    rintro k (rfl|hk);exact .inr rfl;exact .inl hk
theorem AP{m m':HA}{id:Nat}{t u0 ty:TypeId}{s x val:AV}{vs vx:Value}{ns:List Prop}(h:yU P id m t u0 s x=some (ns,val,m'))(hn: ∀p∈ns,p)
  (hE:GB e B w)(hB:B<=w.heap.size)(hm:G5 e m w)(hid: ¬e.live id)(rs:Rep e w s vs)(rx:Rep e w x vx):
  ∃u w',(Builtin.append_ #[t,u0] ty #[vs,vx]).run P w= .ok u w'/\cM e B w id val (λk res=>(∃tl,m'=(id,res)::tl)/\k=id\/GM e w k res/\ ∀q,s= .row q->k≠q/\D4 q res=false) u w'/\ ∃r,m'=(id,r)::jN m s:=by
 unfold yU at h;split at h;rename_i str;cases rx.x_inv;split at h;rename_i el ht;split at h;rename_i W;split at h;rename_i ie O;split at h;rename_i z hz;split at h;rename_i hb;simp only [HF] at hb;obtain ⟨⟨hb1,hb2⟩,hb3⟩:=hb;have hzz:=Jf0 hb1;subst hzz;have hs1:ie.size=1:=H5 hb2;have hy1:ie.bytes=1:=H5 hb3;split at h;rename_i n1 f1 hro;simp only [HL,FI] at h;obtain ⟨rfl,rfl,rfl⟩:=h;have RN:n1+str.size<=140737488355328:=hn _ VY;obtain ⟨hf1,hob,xs,hx,dI⟩:=fG hro hm rs;have h63:n1+str.size<=maxLen:=by unfold maxLen;omega
 exact cK ht W O hz hs1 hy1 hE hB hid RN h63 hf1 hob hx dI;cases h;cases h;cases h;cases h;cases h;cases h;cases h
theorem AO{m m':HA}{id:Nat}{t u0 ty:TypeId}{s x val:AV}{vs vx:Value}{ns:List Prop}(h:yU P id m t u0 s x=some (ns,val,m'))(hn: ∀p∈ns,p)
  (hE:GB e B w)(hB:B<=w.heap.size)(hm:G5 e m w)(hid: ¬e.live id)(rs:Rep e w s vs)(rx:Rep e w x vx):
  ∃u w',(Builtin.append_ #[t,u0] ty #[vs,vx]).run P w= .ok u w'/\NA e B w id val m' u w':=by
 obtain ⟨u,w',I,⟨e',h1,h2,h3,h4,h5,h6,h7⟩,r,hm'⟩:=AP (ty:=ty) h hn hE hB hm hid rs rx;refine ⟨u,w',I,e',h1,h2,h3,h4,?_,h6,h7⟩;intro p hp;rw [hm'] at hp;rcases GT.1 hp with rfl|hp;exact h5 _ _ (.inl ⟨⟨_,hm'⟩,rfl⟩);have hpm:p∈m/\ ∀k,s= .row k->p.1≠k/\D4 k p.2=false:=by
  cases s with
  |row k=>exact ⟨(LF hp).1,λk' hk'=>by cases hk';exact (LF hp).2⟩
  |_=>exact ⟨hp,λk hk=>by cases hk⟩
 exact h5 p.1 p.2 (.inr ⟨hm p hpm.1,hpm.2⟩)
end
end
