/- Contracts, put together. Conditions: those of each. -/
import Derived.Deep.Slices
import Derived.Great.BuildSlice
import Derived.Laws.IdiomStrings
import Derived.Laws.MakeOwn
import Derived.Lib.AppendStr
import Derived.MapKept
import Derived.Orders
import Derived.OrdersIn
import Derived.ProofKit
import Derived.RangeFuncNested
import Derived.RangeFuncOwn
import Derived.Scope
import Derived.SizedLaws
import Derived.Still
import Derived.WalkKit
import Derived.WalkLawsBesides
set_option linter.unusedSimpArgs false
set_option linter.unusedVariables false
namespace Go.Sx
open Go
abbrev Ch:=Nat->Nat
abbrev Cg:=Nat->Int
abbrev Cf:=Nat->ByteArray
abbrev Ak:=@True.intro
abbrev Al:=@And.intro
abbrev Am:=@Nat.le_refl
abbrev An:=@Nat.lt_or_ge
abbrev Ao:=@Nat.zero_le
abbrev Ap:=@Nat.zero_add
abbrev Aq:=@Nat.not_lt_zero
abbrev Ar:=@Nat.le_trans
abbrev As:=@List.mem_append_right
abbrev At:=@Sem.run_bind
abbrev Au:=@Result.andThen_ok
abbrev Av:=@ByteArray.size_append
abbrev Aw:=@Nat.blt_eq
abbrev Ax:=@Bool.not_eq_true'
abbrev Ay:=@Option.map_eq_some_iff
abbrev Az:=@Nat.succ_le_of_lt
abbrev Ba:=@Nat.add_assoc
abbrev Bb:=@Option.some.inj
abbrev Bc:=@List.mem_append
abbrev Bd:=@List.mem_append_left
abbrev Be:=@List.length_append
abbrev Bf:=@Nat.lt_irrefl
abbrev Bg:=@Nat.add_zero
abbrev Bh:=@Nat.add_comm
abbrev Bi:=@Nat.add_sub_cancel
abbrev Bj:=@List.length_cons
abbrev Bk:=@Nat.lt_succ_self
abbrev Bl:=@Bool.or_eq_true
abbrev Bm:=@List.length_map
abbrev Bn:=@List.getElem?_map
abbrev Bp:=@Nat.mul_comm
abbrev Bq:=@Nat.succ_mul
abbrev Br:=@List.getElem?_eq_none
abbrev Bs:=@Nat.sub_self
abbrev Bt:=@Option.map_some
abbrev Bu:=@World.putObj_heap_other
abbrev Bv:=@Sem.run_pure
abbrev Bw:=@Bool.false_eq_true
abbrev Bx:=@Int.le_trans
abbrev By:=@List.nodup_nil
abbrev Bz:=@Int.mul_nonneg
abbrev Ca:=@List.mem_of_getElem?
abbrev Cb:=@Bool.eq_false_iff
abbrev Cc:=@Nat.one_le_two_pow
abbrev Cd:=@Nat.min_eq_left
abbrev Ce:=@List.getElem?_append
def GP:Nat->Option (Obj->Prop)
 | 2=>some λo=> ∃te pe T fr,o= .cells #[.iface te pe] T fr
 | 3=>some λo=> ∃te pe T fr,o= .cells #[.iface te pe] T fr
 | 0=>some λo=> ∃T fr,o= .cells ((List.range 20).map λk=>Value.int .u64 ((10^k:Nat):Int)).toArray T fr
 | 1=>some λo=> ∃m T fr,o= .cells #[.int .i64 m] T fr
 |_=>none
open Go Go.RowKit
inductive AV where
 |top
 |lit (b:Bool)
 |x (v:Value)
 |agg (l:List AV)
 |tup (l:List AV)
 |fn (f:Fn) (first caps:List AV)
 |ptr (id off:Nat)
 |row (id:Nat)
 |elt (id sz i j:Nat)
 |ro (l:List AV)
 |lst (sz n:Nat) (f:Nat->List AV)
 |mp (id:Nat)
 |roI (pre:List AV) (n:Nat) (f:Cg) (off:Nat)
 |mpr (g:ByteArray->List AV) (okf:ByteArray->Bool)
 |any1
abbrev Ci:=Nat->List AV
def HP(n:Nat)(f:Cg):List AV:=(List.range n).map λk=> .x (.int .i64 (f k))
inductive Idf:AV->Prop
 |top:Idf .top
 |lit (b:Bool):Idf (.lit b)
 |x (v:Value):Idf (.x v)
 |agg (l:List AV):(∀a∈l,Idf a)->Idf (.agg l)
 |tup (l:List AV):(∀a∈l,Idf a)->Idf (.tup l)
 |fn (f:Fn) (l l':List AV):(∀a∈l,Idf a)->(∀a∈l',Idf a)->Idf (.fn f l l')
 |ro (l:List AV):(∀a∈l,Idf a)->Idf (.ro l)
 |lst (sz n:Nat) (f:Ci):(∀i,i<n-> ∀a∈f i,Idf a)->Idf (.lst sz n f)
 |roI (pre:List AV) (n:Nat) (f:Cg) (off:Nat):Idf (.ro (pre++HP n f))->Idf (.roI pre n f off)
 |mpr (g:ByteArray->List AV) (okf:ByteArray->Bool):(∀s,∀a∈g s,Idf a)->Idf (.mpr g okf)
 |any1:Idf .any1
structure UL where
 ro:Nat->Prop
 own:Nat->Option Nat
 live:Nat->Prop
 blk:Ch
 val:Nat->Value
inductive Rep (e:UL) (w:World):AV->Value->Prop
 |top (v:Value):Rep e w .top v
 |lit (b:Bool):Rep e w (.lit b) (.bool b)
 |x (v:Value):Rep e w (.x v) v
 |agg (l:List AV) (vs:List Value):l.length=vs.length->(∀(i:Nat) (a:AV) (v:Value),l[i]? =some a->vs[i]? =some v->Rep e w a v)->Rep e w (.agg l) (.agg vs.toArray)
 |tup (l:List AV) (vs:List Value):l.length=vs.length->(∀(i:Nat) (a:AV) (v:Value),l[i]? =some a->vs[i]? =some v->Rep e w a v)->Rep e w (.tup l) (.tuple vs.toArray)
 |fn (f:Fn) (l l':List AV) (vs vs':List Value):l.length=vs.length->(∀(i:Nat) (a:AV) (v:Value),l[i]? =some a->vs[i]? =some v->Rep e w a v)->
   l'.length=vs'.length->(∀(i:Nat) (a:AV) (v:Value),l'[i]? =some a->vs'[i]? =some v->Rep e w a v)->Rep e w (.fn f l l') (.func f vs.toArray vs'.toArray)
 |ptr (id off:Nat):e.live id->Rep e w (.ptr id off) (.pointer (some ⟨e.blk id,off,none⟩))
 |row (id:Nat) (a:Option Addr) (n c:Nat):e.live id->e.val id= .slice a n c->Rep e w (.row id) (.slice a n c)
 |elt (id sz i j b n W:Nat):e.live id->e.val id= .slice (some ⟨b,0,none⟩) n W->Rep e w (.elt id sz i j) (.pointer (some ⟨b,i*sz+j,none⟩))
 |ro (l:List AV) (vs:List Value) (b o:Nat):e.ro b->b<w.heap.size->(∀a∈l,Idf a)->l.length=vs.length->(∀(j:Nat) (v:Value),vs[j]? =some v->w.cell? ⟨b,o+j,none⟩=some v)->
   (∀(i:Nat) (a:AV) (v:Value),l[i]? =some a->vs[i]? =some v->Rep e w a v)->Rep e w (.ro l) (.pointer (some ⟨b,o,none⟩))
 |lstNil (sz:Nat) (f:Ci):Rep e w (.lst sz 0 f) (.slice none 0 0)
 |lst (sz n:Nat) (f:Ci) (b o W:Nat) (g:Nat->Nat->Value):(0<n->e.ro b)->(0<n->b<w.heap.size)->(∀i,i<n-> ∀a∈f i,Idf a)->n<=W->W<=maxLen->
   (∀i j:Nat,i<n->j<sz->w.cell? ⟨b,o+(i*sz+j),none⟩=some (g i j))->(∀i:Nat,i<n->(f i).length=sz)->
   (∀(i j:Nat) (a:AV),i<n->(f i)[j]? =some a->Rep e w a (g i j))->(ad:Addr)->(0<n->ad=⟨b,o,none⟩)->Rep e w (.lst sz n f) (.slice (some ad) n W)
 |mp (id:Nat):e.live id->Rep e w (.mp id) (.map (some (e.blk id)))
 |roI (pre:List AV) (n:Nat) (f:Cg) (off b o:Nat):Rep e w (.ro (pre++HP n f)) (.pointer (some ⟨b,o,none⟩))->Rep e w (.roI pre n f off) (.pointer (some ⟨b,o+off,none⟩))
 |mpr (g:ByteArray->List AV) (okf:ByteArray->Bool) (vals:ByteArray->List Value) (b:Nat) (es:Array MapEntry) (c:Nat):e.ro b->b<w.heap.size->(∀s,∀a∈g s,Idf a)->w.heap[b]? =some (.map es c)->
   (∀s,okf s=true-> ∃j,Instr.findNow .string (.string s) es.toList 0=some (some (j,.agg (vals s).toArray)))->(∀s,okf s=false->Instr.findNow .string (.string s) es.toList 0=some none/\ ∀a∈g s,a= .top\/a= .any1)->
   (∀s,okf s=true->(g s).length=(vals s).length)->(∀(s:ByteArray) (i:Nat) (a:AV) (v:Value),okf s=true->(g s)[i]? =some a->(vals s)[i]? =some v->Rep e w a v)->Rep e w (.mpr g okf) (.map (some b))
 |any1 (v:Value):v.oneCell'=true->Rep e w .any1 v
def U3(e:UL)(w:World)(l:List AV)(vs:List Value):Prop:=l.length=vs.length/\ ∀(i:Nat) (a:AV) (v:Value),l[i]? =some a->vs[i]? =some v->Rep e w a v
theorem U3.nil(e:UL)(w:World):U3 e w [] []:=⟨rfl,λi a v h=>by simp at h⟩
theorem U3.cons{e:UL}{w:World}{a:AV}{v:Value}{l:List AV}{vs:List Value}(h:Rep e w a v)(t:U3 e w l vs):U3 e w (a::l) (v::vs):=by
 refine ⟨by simp [t.1],λi b u hb Z=>?_⟩
 cases i with
 |zero=>simp at hb Z;subst hb;subst Z;exact h
 |succ i=>simp at hb Z;exact t.2 i b u hb Z
theorem U3.cons_inv{e:UL}{w:World}{a:AV}{l:List AV}{vs:List Value}(h:U3 e w (a::l) vs): ∃v vs',vs=v::vs'/\Rep e w a v/\U3 e w l vs':=by
 cases vs with
 |nil=>have:=h.1;simp at this
 |cons v vs'=>
  refine ⟨v,vs',rfl,h.2 0 a v (by simp) (by simp),⟨by have:=h.1;simpa using this,λi b u hb Z=>h.2 (i+1) b u (by simpa using hb) (by simpa using Z)⟩⟩
theorem U3.nil_inv{e:UL}{w:World}{vs:List Value}(h:U3 e w [] vs):vs=[]:=by
 exact List.eq_nil_of_length_eq_zero h.1.symm
theorem U3.append{e:UL}{w:World}{l l':List AV}{vs vs':List Value}(h:U3 e w l vs)(h':U3 e w l' vs'):U3 e w (l++l') (vs++vs'):=by
 refine ⟨by simp [h.1,h'.1],λi a v ha A=>?_⟩
 rw [Ce] at ha A;rw [←h.1] at A;split at ha;rename_i O;rw [if_pos O] at A;exact h.2 _ _ _ ha A;rename_i O;rw [if_neg O] at A;exact h'.2 _ _ _ ha A
theorem U3.get{e:UL}{w:World}{l:List AV}{vs:List Value}(h:U3 e w l vs){i:Nat}{a:AV}(ha:l[i]? =some a): ∃v,vs[i]? =some v/\Rep e w a v:=by
 have O:i<vs.length:=by rw [←h.1];exact (List.getElem?_eq_some_iff.1 ha).1
 exact ⟨vs[i],List.getElem?_eq_getElem O,h.2 i a _ ha (List.getElem?_eq_getElem O)⟩
theorem U3.set{e:UL}{w:World}{l:List AV}{vs:List Value}(h:U3 e w l vs){a:AV}{v:Value}(r:Rep e w a v)(k:Nat):U3 e w (l.set k a) (vs.set k v):=by
 refine ⟨by simp [h.1],λi b u hb Z=>?_⟩
 rw [List.getElem?_set] at hb Z;by_cases hk:k=i;subst hk;simp only [if_true] at hb Z;split at hb;rename_i h1;rw [if_pos (by rw [←h.1];exact h1)] at Z;cases hb;cases Z;exact r
 cases hb;rw [if_neg hk] at hb Z;exact h.2 _ _ _ hb Z
theorem U3.take{e:UL}{w:World}{l:List AV}{vs:List Value}(h:U3 e w l vs)(k:Nat):U3 e w (l.take k) (vs.take k):=by
 refine ⟨by simp [h.1],λi b u hb Z=>?_⟩
 rw [List.getElem?_take] at hb Z;split at hb;rename_i O;rw [if_pos O] at Z;exact h.2 _ _ _ hb Z;cases hb
theorem U3.drop{e:UL}{w:World}{l:List AV}{vs:List Value}(h:U3 e w l vs)(k:Nat):U3 e w (l.drop k) (vs.drop k):=by
 refine ⟨by simp [h.1],λi b u hb Z=>?_⟩
 rw [List.getElem?_drop] at hb Z;exact h.2 _ _ _ hb Z
theorem Rep.aggL{e:UL}{w:World}{l:List AV}{vs:List Value}(h:U3 e w l vs):Rep e w (.agg l) (.agg vs.toArray):= .agg l vs h.1 h.2
theorem Rep.tupL{e:UL}{w:World}{l:List AV}{vs:List Value}(h:U3 e w l vs):Rep e w (.tup l) (.tuple vs.toArray):= .tup l vs h.1 h.2
theorem Rep.agg_inv{e:UL}{w:World}{l:List AV}{v:Value}(h:Rep e w (.agg l) v): ∃vs:List Value,v= .agg vs.toArray/\U3 e w l vs:=by
 cases h with|agg l vs h1 h2=>exact ⟨vs,rfl,h1,h2⟩
theorem Rep.tup_inv{e:UL}{w:World}{l:List AV}{v:Value}(h:Rep e w (.tup l) v): ∃vs:List Value,v= .tuple vs.toArray/\U3 e w l vs:=by
 cases h with|tup l vs h1 h2=>exact ⟨vs,rfl,h1,h2⟩
theorem Rep.fn_inv{e:UL}{w:World}{f:Fn}{l l':List AV}{v:Value}(h:Rep e w (.fn f l l') v): ∃vs vs':List Value,v= .func f vs.toArray vs'.toArray/\U3 e w l vs/\U3 e w l' vs':=by
 cases h with|fn f l l' vs vs' h1 h2 h3 h4=>exact ⟨vs,vs',rfl,⟨h1,h2⟩,h3,h4⟩
theorem Rep.x_inv{e:UL}{w:World}{u v:Value}(h:Rep e w (.x u) v):v=u:=by cases h;rfl
theorem Rep.lit_inv{e:UL}{w:World}{b:Bool}{v:Value}(h:Rep e w (.lit b) v):v= .bool b:=by cases h;rfl
structure Step (e e':UL) (w w':World):Prop where
 ro: ∀b,b<w.heap.size->e.ro b->e'.ro b/\w'.heap[b]? =w.heap[b]?
 live: ∀id,e.live id->e'.live id/\e'.blk id=e.blk id/\e'.val id=e.val id
 size:w.heap.size<=w'.heap.size
theorem Step.refl(e:UL)(w:World):Step e e w w:=⟨λ_ _ h=>⟨h,rfl⟩,λ_ h=>⟨h,rfl,rfl⟩,Am _⟩
theorem Step.trans{e e' e'':UL}{w w' w'':World}(h:Step e e' w w')(k:Step e' e'' w' w''):Step e e'' w w'':=by
 refine ⟨λb hb I=>?_,λid O=>?_,Ar h.size k.size⟩;obtain ⟨h1,h2⟩:=h.ro b hb I;obtain ⟨k1,k2⟩:=k.ro b (Nat.lt_of_lt_of_le hb h.size) h1;exact ⟨k1,k2.trans h2⟩;obtain ⟨h1,h2,h3⟩:=h.live id O;obtain ⟨k1,k2,k3⟩:=k.live id h1;exact ⟨k1,k2.trans h2,k3.trans h3⟩
theorem Rep.step{e e':UL}{w w':World}(s:Step e e' w w'){a:AV}{v:Value}(h:Rep e w a v):Rep e' w' a v:=by
 induction h with
 |top v=>exact .top v
 |lit b=>exact .lit b
 |x v=>exact .x v
 |agg l vs h1 h2 ih=>exact .agg l vs h1 ih
 |tup l vs h1 h2 ih=>exact .tup l vs h1 ih
 |fn f l l' vs vs' h1 h2 h3 h4 ih1 ih2=>exact .fn f l l' vs vs' h1 ih1 h3 ih2
 |ptr id off hl=>obtain ⟨h1,h2,h3⟩:=s.live id hl;rw [←h2];exact .ptr id off h1
 |row id a n c hl A=>obtain ⟨h1,h2,h3⟩:=s.live id hl;exact .row id a n c h1 (h3.trans A)
 |elt id sz i j b n W hl A=>obtain ⟨h1,h2,h3⟩:=s.live id hl;exact .elt id sz i j b n W h1 (h3.trans A)
 |ro l vs b o I hb hf h1 h2 h3 ih=>
  obtain ⟨k1,k2⟩:=s.ro b hb I;exact .ro l vs b o k1 (Nat.lt_of_lt_of_le hb s.size) hf h1 (λj v hj=>(World.cell?_of_block (a:=⟨b,o+j,none⟩) k2).trans (h2 j v hj)) ih
 |lstNil sz f=>exact .lstNil sz f
 |lst sz n f b o W g I hb hf hc hm h1 h2 h3 ad had ih=>
  exact .lst sz n f b o W g (λh=>(s.ro b (hb h) (I h)).1) (λh=>Nat.lt_of_lt_of_le (hb h) s.size) hf hc hm (λi j O hj=>(World.cell?_of_block (a:=⟨b,o+(i*sz+j),none⟩) (s.ro b (hb (by omega)) (I (by omega))).2).trans (h1 i j O hj)) h2 ih ad had
 |mp id hl=>obtain ⟨h1,h2,h3⟩:=s.live id hl;rw [←h2];exact .mp id h1
 |roI pre n f off b o h ih=>exact .roI pre n f off b o ih
 |mpr g okf vals b es c I hb hf h1 h2 h3 h4 h5 ih=>
  obtain ⟨k1,k2⟩:=s.ro b hb I;exact .mpr g okf vals b es c k1 (Nat.lt_of_lt_of_le hb s.size) hf (k2.trans h1) h2 h3 h4 ih
 |any1 v A=>exact .any1 v A
theorem U3.step{e e':UL}{w w':World}(s:Step e e' w w'){l:List AV}{vs:List Value}(h:U3 e w l vs):U3 e' w' l vs:=⟨h.1,λi a v ha A=>(h.2 i a v ha A).step s⟩
theorem Rep.idf{e e':UL}{w:World}(I: ∀b,e.ro b->e'.ro b){a:AV}{v:Value}(h:Rep e w a v)(k:Idf a):Rep e' w a v:=by
 induction h with
 |top v=>exact .top v
 |lit b=>exact .lit b
 |x v=>exact .x v
 |agg l vs h1 h2 ih=>cases k with|agg l k=>exact .agg l vs h1 (λi a v ha A=>ih i a v ha A (k a (Ca ha)))
 |tup l vs h1 h2 ih=>cases k with|tup l k=>exact .tup l vs h1 (λi a v ha A=>ih i a v ha A (k a (Ca ha)))
 |fn f l l' vs vs' h1 h2 h3 h4 ih1 ih2=>
  cases k with
  |fn f l l' k k'=>exact .fn f l l' vs vs' h1 (λi a v ha A=>ih1 i a v ha A (k a (Ca ha))) h3 (λi a v ha A=>ih2 i a v ha A (k' a (Ca ha)))
 |ptr id off hl=>cases k
 |row id a n c hl A=>cases k
 |elt id sz i j b n W hl A=>cases k
 |ro l vs b o hb hlt hf h1 h2 h3 ih=>exact .ro l vs b o (I b hb) hlt hf h1 h2 (λi a v ha A=>ih i a v ha A (hf a (Ca ha)))
 |lstNil sz f=>exact .lstNil sz f
 |lst sz n f b o W g hb hlt hf hc hm h1 h2 h3 ad had ih=>exact .lst sz n f b o W g (λh=>I b (hb h)) hlt hf hc hm h1 h2 (λi j a O ha=>ih i j a O ha (hf i O a (Ca ha))) ad had
 |mp id hl=>cases k
 |roI pre n f off b o h ih=>cases k with|roI _ _ _ _ k=>exact .roI pre n f off b o (ih k)
 |mpr g okf vals b es c hb hlt hf h1 h2 h3 h4 h5 ih=>exact .mpr g okf vals b es c (I b hb) hlt hf h1 h2 h3 h4 (λs i a v ho ha A=>ih s i a v ho ha A (hf s a (Ca ha)))
 |any1 v A=>exact .any1 v A
inductive GO where
 |cells (T:TypeId) (l:List AV)
 |row (T:TypeId) (sz n:Nat) (f:Ci)
 |memo (h:Value->Prop) (f:Value->Value)
 |ints (T:TypeId) (pre:List AV) (n:Nat) (f:Cg)
 |aka (r:Nat) (T:TypeId) (sz n:Nat) (f:Ci)
 |keep (T:TypeId) (l:List AV)
def Jt0(e:UL)(w:World)(id o:Nat)(T:TypeId)(sz n:Nat)(f:Ci):Prop:=
 (∀b,(e.val id).ownBlock=some b->e.own b=some o)/\(∀i,i<n->(f i).length=sz/\ ∀a∈f i,Idf a)/\
   ∃xs:List Value,w.ownsRow 0 T sz (e.val id) n xs/\ ∀(i j:Nat) (a:AV) (v:Value),i<n->(f i)[j]? =some a->xs[i*sz+j]? =some v->Rep e w a v
def HV(i:Nat):GO->Bool
 | .aka r _ _ _ _=>Nat.beq r i
 |_=>false
def GH(e:UL)(w:World)(id:Nat):GO->Prop
 | .cells T l=>e.live id/\e.own (e.blk id)=some id/\ ∃vs:List Value,w.heap[e.blk id]? =some (.cells vs.toArray T (0,0))/\U3 e w l vs
 | .row T sz n f=>e.live id/\(∀b,(e.val id).ownBlock=some b->e.own b=some id)/\(∀i,i<n->(f i).length=sz/\ ∀a∈f i,Idf a)/\
   ∃xs:List Value,w.ownsRow 0 T sz (e.val id) n xs/\ ∀(i j:Nat) (a:AV) (v:Value),i<n->(f i)[j]? =some a->xs[i*sz+j]? =some v->Rep e w a v
 | .memo h f=>e.live id/\e.own (e.blk id)=some id/\ ∃(es:Array MapEntry) (c:Nat),w.heap[e.blk id]? =some (.map es c)/\ ∀x∈es.toList,h x.key/\x.val=f x.key
 | .ints T pre n f=>e.live id/\e.own (e.blk id)=some id/\ ∃vs:List Value,w.heap[e.blk id]? =some (.cells vs.toArray T (0,0))/\U3 e w (pre++HP n f) vs
 | .aka r T sz n f=>e.live id/\e.live r/\ ∃o,(o=id\/o=r)/\Jt0 e w id o T sz n f
 | .keep T l=>e.live id/\e.ro (e.blk id)/\e.blk id<w.heap.size/\ ∃vs:List Value,w.heap[e.blk id]? =some (.cells vs.toArray T (0,0))/\U3 e w l vs
theorem GH.live{e:UL}{w:World}{id:Nat}{r:GO}(h:GH e w id r):e.live id:=by
 cases r<;>exact h.1
theorem LH{e e':UL}{w w':World}(s:Step e e' w w'){id:Nat}{T:TypeId}{l:List AV}(h:GH e w id (.keep T l)):GH e' w' id (.keep T l):=by
 obtain ⟨h1,h2,h3,vs,h4,h5⟩:=h;obtain ⟨l1,l2,l3⟩:=s.live id h1;obtain ⟨k1,k2⟩:=s.ro _ h3 h2;refine ⟨l1,by rw [l2];exact k1,by rw [l2];exact Nat.lt_of_lt_of_le h3 s.size,vs,?_,h5.step s⟩
 rw [l2,k2];exact h4
abbrev H2:=List (Nat×GO)
def UV(e:UL)(m:H2)(w:World):Prop:= ∀p∈m,GH e w p.1 p.2
def DH(e:UL)(w:World):Prop:= ∀b p,GP b=some p->e.ro b/\b<w.heap.size/\ ∃o,w.heap[b]? =some o/\o.isCells=true/\p o
theorem DH.step{e e':UL}{w w':World}(h:DH e w)(s:Step e e' w w'):DH e' w':=λb p hp=>by
 obtain ⟨h1,h2,o,h3,h4⟩:=h b p hp;obtain ⟨k1,k2⟩:=s.ro b h2 h1;exact ⟨k1,Nat.lt_of_lt_of_le h2 s.size,o,k2.trans h3,h4⟩
structure UY (e:UL) (B:Nat) (w:World):Prop where
 apart: ∀b,e.ro b->e.own b=none/\b<w.heap.size
 owned: ∀b id,e.own b=some id->B<=b/\b<w.heap.size
 glob:DH e w
abbrev VY.{u}{α:Sort u}(x:α):Prop:=x=x
abbrev HI(n:Nat)(l:List AV):List AV:=List.replicate n .top++l
abbrev rq4(a b u v:Cg):Ci:=λk=>[.x (.int .i64 (a k)),.x (.int .i64 (b k)),.x (.int .i64 (u k)),.x (.int .i64 (v k))]
theorem lpE{β:Type}{S:β->Prop}{f:Option β}{b:β}(e:f=some b)(h:S b): ∀cj,f=some cj->S cj:=λcj hcj=>by rw [e] at hcj;cases hcj;exact h
theorem VJ{p:Prop}(h:p:=by omega):p:=h
theorem VT{p:Prop}(h:p:=by simp):p:=h
theorem VU.{u}{α:Sort u}{a b:α}(h:a=b:=by kernel_rfl):a=b:=h
theorem UH:(∀p:Prop,(True/\p)=p)/\ ∀p:Prop,(p/\True)=p:=⟨true_and,and_true⟩
theorem HA:(∀{p:Prop} [Decidable p],(decide p=true)=p)/\ ∀{p:Prop} [Decidable p],(decide p=false)↔ ¬p:=⟨decide_eq_true_eq,decide_eq_false_iff_not⟩
theorem R9.{u}:(∀{α:Type u} [BEq α] [LawfulBEq α] {a b:α},(a != b)=true↔a≠b)/\(∀{α:Type u} (a b:α),(a≠b)= ¬(a=b))/\ ∀{α:Type u} [BEq α] [LawfulBEq α] {a b:α},(a != b)=false↔a=b:=⟨bne_iff_ne,ne_eq,bne_eq_false_iff_eq⟩
theorem RQ.{u}:(∀{α:Type u} (a:α) (as:List α),(a::as).length=as.length+1)/\ ∀{α:Type u},([]:List α).length=0:=⟨λ_ _=>Bj,List.length_nil⟩
theorem FU:((0:Nat):Int)=0/\ ∀n:Nat,((n:Int)).toNat=n:=⟨rfl,Int.toNat_natCast⟩
abbrev HB(s:ByteArray):AV:= .x (.string s)
abbrev GD:= @List.mem_cons_self
abbrev GZ:= @Nat.eq_of_beq_eq_true
abbrev D0:= @List.getElem?_eq_getElem
abbrev HL:= @List.mem_cons_of_mem
abbrev F5:= @List.mem_of_getElem?
abbrev P2:= @Array.getD_eq_getD_getElem?
abbrev FV:= @List.getElem?_eq_some_iff
abbrev P7:= @Array.getElem?_eq_some_iff
abbrev wR:= @List.mem_iff_getElem?
abbrev B1:= @List.all_eq_true
abbrev xV:= @Nat.lt_of_lt_of_le
abbrev BJ:= @Nat.mul_le_mul_right
abbrev qR:= @Nat.le_of_ble_eq_true
abbrev GM:= @List.mem_cons
abbrev GS:= @Option.getD_some
abbrev GU:= @Bool.and_eq_true
abbrev HE:= @Option.some.injEq
abbrev FF:= @Prod.mk.injEq
abbrev F4:= @Int.toNat_natCast
abbrev DL:= @List.not_mem_nil
abbrev aDef:= @decide_eq_false_iff_not
abbrev qQ:= @decide_eq_true_eq
abbrev PM:= @List.mem_singleton
abbrev B0:= @of_decide_eq_true
abbrev Out:=List Prop×AV×Option GO
def Jo5(m:H2)(id:Nat):Option GO->H2
 |none=>m
 |some r=>(id,r)::m
def DG:H2->Nat->Option GO
 |[],_=>none
 |(k,r)::t,id=>match Nat.beq k id with
  |true=>some r
  |false=>DG t id
theorem UW{m:H2}{id:Nat}{r:GO}(h:DG m id=some r):(id,r)∈m:=by
 induction m with
 |nil=>simp [DG] at h
 |cons p t ih=>
  obtain ⟨k,r'⟩:=p;unfold DG at h;split at h;rename_i hk;have:k=id:=GZ hk;subst this;cases h;exact GD;exact HL _ (ih h)
def LM(e:UL)(B:Nat)(w:World)(m:H2)(id:Nat)(val:AV)(add:Option GO)(v:Value)(w':World):Prop:=
 ∃e',Below w.heap.size w w'/\Step e e' w w'/\UY e' B w'/\(∀b k,e.own b=some k->e'.own b=some k)/\Rep e' w' val v/\UV e' (Jo5 m id add) w'/\(∀k,e'.live k->e.live k\/k=id)/\(∀b,e'.ro b->e.ro b\/w.heap.size<=b)
theorem GH.ext{e e':UL}{w w':World}(hb:Below w.heap.size w w')(s:Step e e' w w')(ho: ∀b k,e.own b=some k->e'.own b=some k){id:Nat}{r:GO}(h:GH e w id r):GH e' w' id r:=by
 cases r with
 |cells T l=>
  obtain ⟨h1,h2,vs,h3,h4⟩:=h;obtain ⟨l1,l2,l3⟩:=s.live id h1;refine ⟨l1,by rw [l2];exact ho _ _ h2,vs,?_,h4.step s⟩
  rw [l2,hb.block _ (P7.1 h3).1];exact h3
 |row T sz n f=>
  obtain ⟨h1,h2,hf,xs,h3,h4⟩:=h;obtain ⟨l1,l2,l3⟩:=s.live id h1;refine ⟨l1,by rw [l3];exact λb hbk=>ho _ _ (h2 b hbk),hf,xs,?_,λi j a v O ha A=>(h4 i j a v O ha A).step s⟩
  rw [l3];refine ⟨h3.1,h3.2.imp (λh=>h) ?_⟩;rintro ⟨g,W,cur,A,hg,hh,rest⟩;exact ⟨g,W,cur,A,hg,by rw [hb.block _ (P7.1 hh).1];exact hh,rest⟩
 |ints T pre n f=>
  obtain ⟨h1,h2,vs,h3,h4⟩:=h;obtain ⟨l1,l2,l3⟩:=s.live id h1;refine ⟨l1,by rw [l2];exact ho _ _ h2,vs,?_,h4.step s⟩
  rw [l2,hb.block _ (P7.1 h3).1];exact h3
 |memo h f=>
  obtain ⟨h1,h2,es,c,h3,h4⟩:=h;obtain ⟨l1,l2,l3⟩:=s.live id h1;exact ⟨l1,by rw [l2];exact ho _ _ h2,es,c,by rw [l2,hb.block _ (P7.1 h3).1];exact h3,h4⟩
 |keep T l=>exact LH s h
 |aka r T sz n f=>
  obtain ⟨h1,h0,o,hor,h2,hf,xs,h3,h4⟩:=h;obtain ⟨l1,l2,l3⟩:=s.live id h1;refine ⟨l1,(s.live r h0).1,o,hor,by rw [l3];exact λb hbk=>ho _ _ (h2 b hbk),hf,xs,?_,λi j a v O ha A=>(h4 i j a v O ha A).step s⟩
  rw [l3];refine ⟨h3.1,h3.2.imp (λh=>h) ?_⟩;rintro ⟨g,W,cur,A,hg,hh,rest⟩;exact ⟨g,W,cur,A,hg,by rw [hb.block _ (P7.1 hh).1];exact hh,rest⟩
theorem UV.ext{e e':UL}{w w':World}(hb:Below w.heap.size w w')(s:Step e e' w w')(ho: ∀b k,e.own b=some k->e'.own b=some k){m:H2}(h:UV e m w):UV e' m w':=
 λp hp=>(h p hp).ext hb s ho
theorem UK{e:UL}{B:Nat}{w:World}{m:H2}{id:Nat}{val:AV}{v:Value}(hE:UY e B w)(hm:UV e m w)(r:Rep e w val v):LM e B w m id val none v w:=
 ⟨e,Below.refl _ _,Step.refl e w,hE,λ_ _ h=>h,r,hm,λ_ h=> .inl h,λ_ h=> .inl h⟩
def UL.new(e:UL)(id b:Nat)(v:Value):UL:=
 {ro:=e.ro,own:=λk=>if k=b then some id else e.own k,live:=λk=>k=id\/e.live k,blk:=λk=>if k=id then b else e.blk k,val:=λk=>if k=id then v else e.val k}
theorem Step.new{e:UL}{w:World}{id:Nat}{v:Value}(o:Obj)(hid: ¬e.live id):Step e (e.new id w.heap.size v) w (w.alloc o):=by
 refine ⟨λb hb I=>⟨I,Below.heap_alloc w o b hb⟩,λk hk=>?_,VT⟩;have hne:k≠id:=λh=>hid (h▸hk);exact ⟨.inr hk,by simp [UL.new,hne],by simp [UL.new,hne]⟩
theorem UY.new{e:UL}{B:Nat}{w:World}(h:UY e B w)(hB:B<=w.heap.size)(id:Nat)(v:Value)(o:Obj):UY (e.new id w.heap.size v) B (w.alloc o):=by
 refine ⟨λb I=>?_,λb k hk=>?_,λb p hp=>?_⟩;obtain ⟨h1,h2⟩:=h.apart b I;have:b≠w.heap.size:=VJ;exact ⟨by simp [UL.new,this,h1],by simp;omega⟩
 simp only [UL.new] at hk;split at hk;rename_i hb;subst hb;exact ⟨hB,VT⟩;have:=h.owned b k hk;exact ⟨this.1,by simp;omega⟩
 obtain ⟨h1,h2,o',h3,h4⟩:=h.glob b p hp;exact ⟨h1,by simp;omega,o',(heap_alloc_old w o h2).trans h3,h4⟩
theorem kX{e:UL}{B:Nat}{w:World}(h:UY e B w)(id:Nat)(v:Value): ∀b k,e.own b=some k->(e.new id w.heap.size v).own b=some k:=by
 intro b k hk;have:=(h.owned b k hk).2;have hne:b≠w.heap.size:=VJ;simp [UL.new,hne,hk]
theorem P6(w:World)(o:Obj):Below w.heap.size w (w.alloc o):=(Below.refl _ _).alloc (Am _) o
section
variable {e:UL}{B:Nat}{w:World}{m:H2}{id:Nat}
theorem lW{T:TypeId}{l:List AV}{vs:List Value}(hE:UY e B w)(hB:B<=w.heap.size)(hm:UV e m w)(hid: ¬e.live id)(r:U3 e w l vs):
  LM e B w m id (.ptr id 0) (some (.cells T l)) (.pointer (some ⟨w.heap.size,0,none⟩)) (w.alloc (.cells vs.toArray T)):=by
 have st:=Step.new (e:=e) (w:=w) (id:=id) (v:= .nilIface) (.cells vs.toArray T) hid;refine ⟨e.new id w.heap.size .nilIface,P6 _ _,st,hE.new hB _ _ _,kX hE _ _,?_,?_,λk hk=>?_,λ_ h=> .inl h⟩;have:=Rep.ptr (e:=e.new id w.heap.size .nilIface) (w:=w.alloc (.cells vs.toArray T)) id 0 (.inl rfl);simpa [UL.new] using this;intro p hp;rcases GM.1 hp with rfl|hp;refine ⟨.inl rfl,by simp [UL.new],vs,?_,r.step st⟩
 simp only [UL.new,if_true];exact heap_alloc_new w _;exact (hm p hp).ext (P6 _ _) st (kX hE _ _);rcases hk with rfl|hk;exact .inr rfl;exact .inl hk
theorem Wv2(hE:UY e B w)(hB:B<=w.heap.size)(hm:UV e m w)(hid: ¬e.live id):
  LM e B w m id (.mp id) (some (.memo (λ_=>False) (λv=>v))) (.map (some w.heap.size)) (w.alloc (.map #[] 0)):=by
 have st:=Step.new (e:=e) (w:=w) (id:=id) (v:= .nilIface) (.map #[] 0) hid;refine ⟨e.new id w.heap.size .nilIface,P6 _ _,st,hE.new hB _ _ _,kX hE _ _,?_,?_,λk hk=>?_,λ_ h=> .inl h⟩;have:=Rep.mp (e:=e.new id w.heap.size .nilIface) (w:=w.alloc (.map #[] 0)) id (.inl rfl);simpa [UL.new] using this;intro p hp;rcases GM.1 hp with rfl|hp;refine ⟨.inl rfl,by simp [UL.new],#[],0,?_,λx hx=>by simp at hx⟩
 simp only [UL.new,if_true];exact heap_alloc_new w _;exact (hm p hp).ext (P6 _ _) st (kX hE _ _);rcases hk with rfl|hk;exact .inr rfl;exact .inl hk
theorem IT{T:TypeId}{sz n c:Nat}{f:Ci}{cs:List Value}(hE:UY e B w)(hB:B<=w.heap.size)(hm:UV e m w)(hid: ¬e.live id)
  (hnc:n<=c)(hc:c<=maxLen)(HX:cs.length=c*sz)(hf: ∀i,i<n->(f i).length=sz/\ ∀a∈f i,Idf a)
  (r: ∀(i j:Nat) (a:AV) (v:Value),i<n->(f i)[j]? =some a->cs[i*sz+j]? =some v->Rep e w a v):
  LM e B w m id (.row id) (some (.row T sz n f)) (.slice (some ⟨w.heap.size,0,none⟩) n c) (w.alloc (.cells cs.toArray T)):=by
 have st:=Step.new (e:=e) (w:=w) (id:=id) (v:= .slice (some ⟨w.heap.size,0,none⟩) n c) (.cells cs.toArray T) hid;refine ⟨e.new id w.heap.size (.slice (some ⟨w.heap.size,0,none⟩) n c),P6 _ _,st,hE.new hB _ _ _,kX hE _ _,?_,?_,λk hk=>?_,λ_ h=> .inl h⟩;exact .row id _ _ _ (.inl rfl) (by simp [UL.new])
 intro p hp;rcases GM.1 hp with rfl|hp;refine ⟨.inl rfl,?_,hf,cs.take (n*sz),?_,?_⟩;intro b hb;simp only [UL.new,if_true,Value.ownBlock,HE] at hb;subst hb;simp [UL.new];refine ⟨by simp [HX,Cd (BJ sz hnc)],.inr ⟨w.heap.size,c,cs.toArray,by simp [UL.new],Ao _,heap_alloc_new w _,hnc,hc,by simp [HX],VT⟩⟩
 intro i j a v O ha A;have hj:j<sz:=by rw [←(hf i O).1];exact (FV.1 ha).1
 rw [List.getElem?_take] at A;split at A;exact (r i j a v O ha A).step st;cases A;exact (hm p hp).ext (P6 _ _) st (kX hE _ _);rcases hk with rfl|hk;exact .inr rfl;exact .inl hk
end
def qL:List AV->Option (List Int)
 |[]=>some []
 |a::l=>match a with
  | .x (.int .i64 n)=>match qL l with
   |some r=>some (n::r)
   |none=>none
  |_=>none
def UA:List Int->Nat->Int
 |[],_=>0
 |n::_,0=>n
 |_::l,k+1=>UA l k
theorem pH(n:Nat)(f:Cg):HP (n+1) f= .x (.int .i64 (f 0))::HP n (λk=>f (k+1)):=by
 simp [HP,List.range_succ_eq_map,List.map_map,Function.comp_def]
theorem dV: ∀{l:List AV} {r:List Int},qL l=some r->l=HP r.length (UA r)
 |[],r,h=>by simp [qL] at h;subst h;rfl
 |a::l,r,h=>by
  unfold qL at h;split at h;rename_i n;split at h;rename_i r' I;cases h;have ih:=dV I;rw [Bj,pH,ih];rfl;cases h;cases h
def Xp4:List Int->Bool
 |[]=>true
 |n::l=>match decide (n=0) with
  |true=>Xp4 l
  |false=>false
theorem d6: ∀{l:List Int},Xp4 l=true-> ∀k,UA l k=0
 |[],_,_=>rfl
 |n::l,h,k=>by
  unfold Xp4 at h;split at h;rename_i hd;cases k with
  |zero=>exact B0 hd
  |succ k=>exact d6 h k
  cases h
def BL(l:List Int):Cg:=match Xp4 l with
 |true=>λ_=>0
 |false=>UA l
def dD:List AV->List AV×List Int
 |[]=>([],[])
 |a::l=>match qL (a::l) with
  |some r=>([],r)
  |none=>match dD l with
   |(p,r)=>(a::p,r)
theorem NI: ∀(l:List AV),l=(dD l).1++HP (dD l).2.length (UA (dD l).2)
 |[]=>rfl
 |a::l=>by
  unfold dD;split;rename_i r I;exact dV I;have:=NI l;simp only [List.cons_append];rw [←this]
theorem Wg0(r:List Int):BL r=UA r:=by
 unfold BL;split;rename_i hz;exact (funext (d6 hz)).symm;rfl
def IY(z:Bool)(T:TypeId)(l:List AV):GO:=match dD l with
 |(pre,r)=>match Nat.ble 6 r.length with
  |true=> .ints T pre r.length (match z with|true=>BL r|false=>UA r)
  |false=> .cells T l
theorem boxRes_holds{e:UL}{w:World}{id:Nat}{z:Bool}{T:TypeId}{l:List AV}(h:GH e w id (.cells T l)):GH e w id (IY z T l):=by
 unfold IY;split;rename_i pre r hs;split;have:=NI l;rw [hs] at this;rw [this] at h;cases z with
 |true=>simp only;rw [Wg0];exact h
 |false=>exact h
 exact h
theorem lX{e:UL}{B:Nat}{w:World}{m:H2}{id:Nat}{val:AV}{z:Bool}{T:TypeId}{l:List AV}{v:Value}{w':World}(h:LM e B w m id val (some (.cells T l)) v w'):LM e B w m id val (some (IY z T l)) v w':=by
 obtain ⟨e',h1,h2,h3,h4,h5,h6,h7,h8⟩:=h;refine ⟨e',h1,h2,h3,h4,h5,λp hp=>?_,h7,h8⟩;rcases GM.1 hp with rfl|hp;exact boxRes_holds (h6 (id,.cells T l) GD);exact h6 p (HL _ hp)
def VL(n:Int):Prop:= -9223372036854775808<=n/\n<=9223372036854775807
theorem B6{n:Int}(h:VL n):IntKind.i64.wrap n=n:=IntWalk.i64_in n h
def AV.cellsOf:AV->Option (List AV)
 | .agg l=>some l
 | .x v=>some (v.cells.toList.map .x)
 | .lit b=>some [.lit b]
 | .fn f a b=>some [.fn f a b]
 | .ptr a b=>some [.ptr a b]
 | .row a=>some [.row a]
 | .elt a b c d=>some [.elt a b c d]
 | .ro l=>some [.ro l]
 | .lst a b c=>some [.lst a b c]
 | .mp a=>some [.mp a]
 | .roI a b c d=>some [.roI a b c d]
 | .mpr a b=>some [.mpr a b]
 | .any1=>some [.any1]
 | .top=>none
 | .tup _=>none
theorem U3.one{e:UL}{w:World}{a:AV}{v:Value}(h:Rep e w a v):U3 e w [a] [v]:=U3.cons h (U3.nil e w)
theorem U3.xs(e:UL)(w:World)(vs:List Value):U3 e w (vs.map .x) vs:=by
 induction vs with
 |nil=>exact U3.nil e w
 |cons v vs ih=>exact U3.cons (.x v) ih
section
variable {e:UL}{w:World}{a:AV}
theorem wG{v:Value}{l:List AV}(hc:a.cellsOf=some l)(h:Rep e w a v):U3 e w l v.cells.toList:=by
 cases h with
 |top v=>simp [AV.cellsOf] at hc
 |lit b=>simp [AV.cellsOf] at hc;subst hc;exact U3.one (.lit b)
 |x v=>simp [AV.cellsOf] at hc;subst hc;exact U3.xs e w _
 |agg l' vs h1 h2=>simp [AV.cellsOf] at hc;subst hc;exact ⟨h1,h2⟩
 |tup l' vs h1 h2=>simp [AV.cellsOf] at hc
 |fn f l1 l2 vs vs' h1 h2 h3 h4=>simp [AV.cellsOf] at hc;subst hc;exact U3.one (.fn f l1 l2 vs vs' h1 h2 h3 h4)
 |ptr id off h1=>simp [AV.cellsOf] at hc;subst hc;exact U3.one (.ptr id off h1)
 |row id a n c h1 h2=>simp [AV.cellsOf] at hc;subst hc;exact U3.one (.row id a n c h1 h2)
 |roI pre n f off b o h=>simp [AV.cellsOf] at hc;subst hc;exact U3.one (.roI pre n f off b o h)
 |elt id sz i j b n W h1 h2=>simp [AV.cellsOf] at hc;subst hc;exact U3.one (.elt id sz i j b n W h1 h2)
 |ro l' vs b o h1 h2 h3 h4 h5 h6=>simp [AV.cellsOf] at hc;subst hc;exact U3.one (.ro l' vs b o h1 h2 h3 h4 h5 h6)
 |lstNil sz f=>simp [AV.cellsOf] at hc;subst hc;exact U3.one (.lstNil sz f)
 |lst sz n f b o W g h1 h2 h3 h4 h5 h6 h7 h8 ad had=>simp [AV.cellsOf] at hc;subst hc;exact U3.one (.lst sz n f b o W g h1 h2 h3 h4 h5 h6 h7 h8 ad had)
 |mp id h1=>simp [AV.cellsOf] at hc;subst hc;exact U3.one (.mp id h1)
 |mpr g okf vals b es c h1 h2 h3 h4 h5 h6 h7 h8=>simp [AV.cellsOf] at hc;subst hc;exact U3.one (.mpr g okf vals b es c h1 h2 h3 h4 h5 h6 h7 h8)
 |any1 v A=>
  simp [AV.cellsOf] at hc;subst hc;have:v.cells.toList=[v]:=by cases v<;>first|rfl|(simp [Value.oneCell'] at A)
  rw [this];exact U3.one (.any1 v A)
def AV.one:AV->Bool
 | .x v=>v.oneCell'
 | .lit _| .fn .. | .ptr .. | .row _| .elt .. | .ro _| .lst .. | .mp _| .roI .. | .mpr .. | .any1=>true
 | .top| .agg _| .tup _=>false
theorem AB{v:Value}(ho:a.one=true)(h:Rep e w a v):v.oneCell'=true:=by
 cases h<;>first|(simp [AV.one] at ho;done)|rfl|assumption|(simpa [AV.one] using ho)
end
section
variable {P:Program}
def ldL(P:Program)(t:TypeId)(l:List AV):Option AV:=
 match P.underlying t,P.info? t with
 |some (.struct _),some i=>match Nat.ble i.size l.length with|true=>some (.agg (l.take i.size))|false=>none
 |some (.array _ _),some i=>match Nat.ble i.size l.length with|true=>some (.agg (l.take i.size))|false=>none
 |some _,some _=>l.head?
 |_,_=>none
theorem sA{w:World}{b o:Nat}{vs:List Value}(hc: ∀(j:Nat) (v:Value),vs[j]? =some v->w.cell? ⟨b,o+j,none⟩=some v)(k:Nat):
  ∀(j:Nat) (v:Value),(vs.take k)[j]? =some v->w.cell? ((⟨b,o,none⟩:Addr).add j)=some v:=by
 intro j v hj;rw [List.getElem?_take] at hj;split at hj;have:=hc j v hj;have ha:(⟨b,o,none⟩:Addr).add j=⟨b,o+j,none⟩:=by unfold Addr.add;split<;>simp_all
 rw [ha];exact this;cases hj
theorem DR{e:UL}{w:World}{t:TypeId}{l:List AV}{vs:List Value}{a:AV}{b o:Nat}(h:ldL P t l=some a)(I:U3 e w l vs)
  (hc: ∀(j:Nat) (v:Value),vs[j]? =some v->w.cell? ⟨b,o+j,none⟩=some v): ∃v,(loadVar t ⟨b,o,none⟩).run P w= .ok v w/\Rep e w a v:=by
 have agg: ∀i:TypeInfo,P.info? t=some i->(isAgg t).run P w= .ok true w->i.size<=l.length->a= .agg (l.take i.size)-> ∃v,(loadVar t ⟨b,o,none⟩).run P w= .ok v w/\Rep e w a v:=by
  intro i O hg hsz ha;subst ha;have HX:(vs.take i.size).length=i.size:=by rw [List.length_take,←I.1];omega
  have hl:=run_loadCells_list (P:=P) (w:=w) ⟨b,o,none⟩ (vs.take i.size) (sA hc i.size);rw [HX] at hl;refine ⟨.agg (vs.take i.size).toArray,?_,Rep.aggL (I.take _)⟩;simp [loadVar,hg,sizeOf,typeInfo,O,hl]
 have flat:(isAgg t).run P w= .ok false w->l.head?=some a-> ∃v,(loadVar t ⟨b,o,none⟩).run P w= .ok v w/\Rep e w a v:=by
  intro hg hd;obtain ⟨v,A,GK⟩:=I.get (i:=0) (a:=a) (by rw [←List.head?_eq_getElem?];exact hd)
  refine ⟨v,?_,GK⟩;have:=hc 0 v A;simp only [Bg] at this;simp [loadVar,hg,this]
 unfold ldL at h;cases Z:P.underlying t with
 |none=>rw [Z] at h;simp at h
 |some d=>
  cases O:P.info? t with
  |none=>rw [Z,O] at h;cases d<;>simp at h
  |some i=>
   rw [Z,O] at h;cases d with
   |struct fs=>
    simp only at h;split at h;rename_i hb;exact agg i O (by simp [isAgg,run_underlying Z]) (qR hb) (by cases h;rfl)
    cases h
   |array n el=>
    simp only at h;split at h;rename_i hb;exact agg i O (by simp [isAgg,run_underlying Z]) (qR hb) (by cases h;rfl)
    cases h
   |_=>exact flat (by simp [isAgg,run_underlying Z]) h
def eI(P:Program)(t:TypeId)(l:List AV)(off:Nat):Option AV:=
 match P.underlying t,P.info? t with
 |some (.struct _),some i=>match Nat.ble (off+i.size) l.length with|true=>some (.agg ((l.drop off).take i.size))|false=>none
 |some (.array _ _),some i=>match Nat.ble (off+i.size) l.length with|true=>some (.agg ((l.drop off).take i.size))|false=>none
 |some _,some _=>l[off]?
 |_,_=>none
theorem C7{e:UL}{w:World}{t:TypeId}{l:List AV}{vs:List Value}{a:AV}{off:Nat}(h:eI P t l off=some a)(I:U3 e w l vs):
  ∃v,(part t vs.toArray off).run P w= .ok v w/\Rep e w a v:=by
 have agg: ∀i:TypeInfo,P.info? t=some i->(isAgg t).run P w= .ok true w->a= .agg ((l.drop off).take i.size)-> ∃v,(part t vs.toArray off).run P w= .ok v w/\Rep e w a v:=by
  intro i O hg ha;subst ha;refine ⟨.agg ((vs.drop off).take i.size).toArray,?_,Rep.aggL ((I.drop off).take _)⟩;simp [part,hg,sizeOf,typeInfo,O]
 unfold eI at h;cases Z:P.underlying t with
 |none=>rw [Z] at h;simp at h
 |some d=>
  cases O:P.info? t with
  |none=>rw [Z,O] at h;cases d<;>simp at h
  |some i=>
   rw [Z,O] at h;cases d with
   |struct fs=>
    simp only at h;split at h;exact agg i O (by simp [isAgg,run_underlying Z]) (by cases h;rfl)
    cases h
   |array n el=>
    simp only at h;split at h;exact agg i O (by simp [isAgg,run_underlying Z]) (by cases h;rfl)
    cases h
   |_=>
    obtain ⟨v,A,GK⟩:=I.get h;exact ⟨v,by simp [part,isAgg,run_underlying Z,A],GK⟩
end
section
variable {P:Program}
def yR(a:Option AV):Option Out:=match a with|some r=>some ([],r,none)|none=>none
theorem RF{a:Option AV}{ns:List Prop}{r:AV}{add:Option GO}(h:yR a=some (ns,r,add)):a=some r/\ns=[]/\add=none:=by
 cases a with
 |none=>simp [yR] at h
 |some x=>simp only [yR,HE,FF] at h;obtain ⟨rfl,rfl,rfl⟩:=h;exact ⟨rfl,rfl,rfl⟩
theorem DK(b o j:Nat):(⟨b,o,none⟩:Addr).add j=⟨b,o+j,none⟩:=by unfold Addr.add;split<;>simp_all
def ER:List AV->Option (Nat×List (Nat×(Ci)))
 |[]=>none
 | .lst sz n f::t=>match t with
  |[]=>some (sz,[(n,f)])
  |_::_=>match ER t with
   |some (sz',r)=>match Nat.beq sz sz' with
    |true=>some (sz,(n,f)::r)
    |false=>none
   |none=>none
 |_=>none
section
variable (l:List (Nat×(Ci)))(i:Nat)
def Zl8:Nat:=(l.getD i (0,λ_=>[])).1
def Zl9:Ci:=(l.getD i (0,λ_=>[])).2
end
theorem O0: ∀{l:List AV} {sz:Nat} {r:List (Nat×(Ci))},ER l=some (sz,r)-> ∀i,i<l.length->l[i]? =some (.lst sz (Zl8 r i) (Zl9 r i))
 |[],_,_,h,_,_=>by simp [ER] at h
 |a::t,sz,r,h,i,O=>by
  cases a with
  |lst sz1 n f=>
   cases t with
   |nil=>
    simp only [ER,HE,FF] at h;obtain ⟨rfl,rfl⟩:=h;have:i=0:=by simp at O;omega
    subst this;rfl
   |cons b t=>
    simp only [ER] at h;split at h;rename_i sz' r' I;split at h;rename_i hb;have:=GZ hb;subst this;simp only [HE,FF] at h;obtain ⟨rfl,rfl⟩:=h;cases i with
    |zero=>rfl
    |succ i=>
     have:=O0 I i (by simpa using O)
     simpa [Zl8,Zl9] using this
    cases h;cases h
  |_=>simp [ER] at h
def Xv2(P:Program)(t:TypeId)(l:List AV):Option (Nat×List (Nat×(Ci))):=
 match P.underlying t with
 |some (.slice _)=>match l with
  |_::_::_=>ER l
  |_=>none
 |_=>none
def L7:AV->Option Bool
 | .lit b=>some b
 | .x (.bool b)=>some b
 |_=>none
theorem PZ{e:UL}{w:World}{a:AV}{v:Value}{b:Bool}(h:L7 a=some b)(r:Rep e w a v):v= .bool b:=by
 cases r with
 |lit b'=>simp [L7] at h;rw [h]
 |x v=>cases v<;>simp [L7] at h;rw [h]
 |_=>simp [L7] at h
def fD:List AV->Option (List Bool)
 |[]=>some []
 |a::t=>match L7 a with
  |some b=>match fD t with
   |some r=>some (b::r)
   |none=>none
  |none=>none
theorem vZ: ∀{l:List AV} {r:List Bool},fD l=some r->l.length=r.length/\ ∀i a,l[i]? =some a->L7 a=some (r.getD i false)
 |[],r,h=>by
  simp only [fD,HE] at h;subst h;exact ⟨rfl,λi a h=>by simp at h⟩
 |a::t,r,h=>by
  unfold fD at h;split at h;rename_i b hb;split at h;rename_i r' I;cases h;obtain ⟨h1,h2⟩:=vZ I;refine ⟨by simp [h1],λi c hc=>?_⟩
  cases i with
  |zero=>simp at hc;subst hc;simpa using hb
  |succ i=>simpa using h2 i c (by simpa using hc)
  cases h;cases h
def aX(P:Program)(t:TypeId)(l:List AV):Option (List Bool):=
 match l with
 |a::_::_=>match L7 a with
  |some _=>match P.underlying t with
   |some .bool=>fD l
   |_=>none
  |none=>none
 |_=>none
theorem IZ{P:Program}{t:TypeId}{l:List AV}{r:List Bool}(h:aX P t l=some r):fD l=some r/\P.underlying t=some .bool:=by
 unfold aX at h;split at h;split at h;split at h;rename_i Z;exact ⟨h,Z⟩;cases h;cases h;cases h
def r8(off:Nat)(v:Bool):List Bool->Nat->List AV
 |[],_=>[]
 |b::t,k=> .x (.bool (if k=off then v else b))::r8 off v t (k+1)
theorem uL(off:Nat)(v:Bool): ∀(l:List Bool) (k:Nat),(r8 off v l k).length=l.length
 |[],_=>rfl
 |_::t,k=>by simp [r8,uL off v t]
theorem NM(off:Nat)(v:Bool): ∀(l:List Bool) (k i:Nat) (a:AV),(r8 off v l k)[i]? =some a->a= .x (.bool (if k+i=off then v else l.getD i false))
 |[],_,i,a,h=>by simp [r8] at h
 |b::t,k,0,a,h=>by
  simp [r8] at h;simp [←h]
 |b::t,k,i+1,a,h=>by
  simp only [r8,List.getElem?_cons_succ] at h;rw [NM off v t (k+1) i a h];simp [show k+1+i=k+(i+1) by omega]
def wW:Nat->List AV->Nat
 |q,[]=>q
 |q,_::l=>wW (q-1) l
theorem qV: ∀(l:List AV) (q:Nat),wW q l=q-l.length
 |[],q=>rfl
 |_::l,q=>by simp only [wW,qV l,Bj];omega
def ldI(P:Program)(t:TypeId)(pre:List AV)(n:Nat)(f:Cg)(off:Nat):Option Out:=
 match Nat.ble (off+1) pre.length with
 |true=>yR (ldL P t ((pre++HP n f).drop off))
 |false=>match P.underlying t,P.info? t with
  |some (.struct _),some i=>some ([wW off pre+i.size<=n],.agg ((List.range i.size).map λj=> .x (.int .i64 (f (wW off pre+j)))),none)
  |some (.array _ _),some i=>some ([wW off pre+i.size<=n],.agg ((List.range i.size).map λj=> .x (.int .i64 (f (wW off pre+j)))),none)
  |some _,some _=>some ([wW off pre<n],.x (.int .i64 (f (wW off pre))),none)
  |_,_=>none
theorem y8{n:Nat}{f:Cg}{k:Nat}(h:k<n):(HP n f)[k]? =some (.x (.int .i64 (f k))):=by simp [HP,h]
theorem LI(n:Nat)(f:Cg):(HP n f).length=n:=by simp [HP]
theorem Wh9{t:TypeId}{pre:List AV}{n:Nat}{f:Cg}{off:Nat}{ns:List Prop}{val:AV}{add:Option GO}(h:ldI P t pre n f off=some (ns,val,add))(hn: ∀p∈ns,p):
  add=none/\ldL P t ((pre++HP n f).drop off)=some val:=by
 unfold ldI at h;split at h;obtain ⟨h1,_,h2⟩:=RF h;exact ⟨h2,h1⟩;rename_i hb;have hle:pre.length<=off:=by
  rcases An off pre.length with h'|h';rw [Nat.ble_eq_true_of_le h'] at hb;cases hb;exact h'
 have hd: ∀j,((pre++HP n f).drop off)[j]? =(HP n f)[wW off pre+j]? :=by
  intro j;rw [List.getElem?_drop,Ce,if_neg VJ,qV]
  congr 1
  omega
 have agg: ∀sz,wW off pre+sz<=n->((pre++HP n f).drop off).take sz=(List.range sz).map λj=> .x (.int .i64 (f (wW off pre+j))):=by
  intro sz hsz;apply List.ext_getElem?;intro j;rw [List.getElem?_take];by_cases hj:j<sz;rw [if_pos hj,hd,y8 VJ];simp [hj];rw [if_neg hj];simp [hj]
 have HX:((pre++HP n f).drop off).length=n-wW off pre:=by
  rw [List.length_drop,Be,LI,qV];omega
 split at h;rename_i fs i Z O;simp only [HE,FF] at h;obtain ⟨rfl,rfl,rfl⟩:=h;have hsz:wW off pre+i.size<=n:=hn _ VT;refine ⟨rfl,?_⟩;unfold ldL;rw [Z,O];simp only;rw [Nat.ble_eq_true_of_le (by rw [HX];omega),←agg _ hsz]
 rename_i k el i Z O;simp only [HE,FF] at h;obtain ⟨rfl,rfl,rfl⟩:=h;have hsz:wW off pre+i.size<=n:=hn _ VT;refine ⟨rfl,?_⟩;unfold ldL;rw [Z,O];simp only;rw [Nat.ble_eq_true_of_le (by rw [HX];omega),←agg _ hsz]
 rename_i u i h1 h2 Z O;simp only [HE,FF] at h;obtain ⟨rfl,rfl,rfl⟩:=h;have hlt:wW off pre<n:=hn _ VT;refine ⟨rfl,?_⟩;unfold ldL;rw [Z,O];have hh:((pre++HP n f).drop off).head?=some (.x (.int .i64 (f (wW off pre)))):=by
  rw [List.head?_eq_getElem?,hd,Bg,y8 hlt]
 split;rename_i fs _ he _;cases he;exact absurd rfl (h1 _);rename_i k el _ he _;cases he;exact absurd rfl (h2 _ _);exact hh;rename_i hno;exact (hno _ _ rfl rfl).elim;cases h
def BI(P:Program)(m:H2)(t:TypeId):AV->Option Out
 | .ptr id off=>match DG m id with
  |some (.cells _ l)=>match Xv2 P t l with
   |some (sz,r)=>some ([off<l.length],.lst sz (Zl8 r off) (Zl9 r off),none)
   |none=>match aX P t l with
    |some bs=>some ([off<bs.length],.x (.bool (bs.getD off false)),none)
    |none=>yR (ldL P t (l.drop off))
  |some (.ints _ pre n f)=>ldI P t pre n f off
  |some (.keep _ l)=>yR (ldL P t (l.drop off))
  |_=>none
 | .roI pre n f off=>ldI P t pre n f off
 | .ro l=>yR (ldL P t l)
 | .elt id sz i j=>match DG m id with
  |some (.row _ sz' n f)=>match Nat.beq sz sz' with
   |true=>match ldL P t ((f i).drop j) with
    |some r=>some ([i<n],r,none)
    |none=>none
   |false=>none
  |_=>none
 |_=>none
theorem PY{w:World}{b:Nat}{vs:List Value}{o:Nat}(hc: ∀(j:Nat) (v:Value),vs[j]? =some v->w.cell? ⟨b,o+j,none⟩=some v)(k:Nat):
  ∀(j:Nat) (v:Value),(vs.drop k)[j]? =some v->w.cell? ⟨b,o+k+j,none⟩=some v:=by
 intro j v hj;rw [List.getElem?_drop] at hj;have:=hc _ _ hj
 rwa [Ba]
theorem jW{e:UL}{w:World}{m:H2}{t:TypeId}{a:AV}{v:Value}{ns:List Prop}{val:AV}{add:Option GO}(h:BI P m t a=some (ns,val,add))(hn: ∀p∈ns,p)
  (hm:UV e m w)(ra:Rep e w a v):add=none/\ ∃ad u,v= .pointer (some ad)/\(loadVar t ad).run P w= .ok u w/\Rep e w val u:=by
 cases ra with
 |ptr k off hl=>
  simp only [BI] at h;split at h;rename_i T l hg;obtain ⟨_,_,vs,h3,h4⟩:=hm _ (UW hg);have hc: ∀(j:Nat) (v:Value),vs[j]? =some v->w.cell? ⟨e.blk k,0+j,none⟩=some v:=by
   intro j v hj;simp [World.cell?,h3,hj]
  split at h;rename_i sz r hlt;simp only [HE,FF] at h;obtain ⟨rfl,rfl,rfl⟩:=h;have HX:off<l.length:=hn _ VT;unfold Xv2 at hlt;split at hlt;rename_i el Z;split at hlt;obtain ⟨v,A,I⟩:=h4.get (O0 hlt off HX);refine ⟨rfl,_,v,rfl,?_,I⟩;have:=hc off v A;simp only [Ap] at this;simp [loadVar,isAgg,run_underlying Z,this];cases hlt;cases hlt;split at h;rename_i bs hbs;simp only [HE,FF] at h;obtain ⟨rfl,rfl,rfl⟩:=h;obtain ⟨hbl,Z⟩:=IZ hbs;obtain ⟨HX,Qq7⟩:=vZ hbl;have aF:off<l.length:=by rw [HX];exact hn _ VT
  obtain ⟨v,A,I⟩:=h4.get (D0 aF);have hbv:=PZ (Qq7 off _ (D0 aF)) I;subst hbv;refine ⟨rfl,_,_,rfl,?_,.x _⟩;have:=hc off _ A;simp only [Ap] at this;simp [loadVar,isAgg,run_underlying Z,this];obtain ⟨h1,rfl,rfl⟩:=RF h;obtain ⟨u,Z,I⟩:=DR (P:=P) h1 (h4.drop off) (PY hc off);simp only [Ap] at Z;exact ⟨rfl,_,u,rfl,Z,I⟩;rename_i T pre n f hg;obtain ⟨_,_,vs,h3,h4⟩:=hm _ (UW hg);have hc: ∀(j:Nat) (v:Value),vs[j]? =some v->w.cell? ⟨e.blk k,0+j,none⟩=some v:=by
   intro j v hj;simp [World.cell?,h3,hj]
  obtain ⟨rfl,h1⟩:=Wh9 h hn;obtain ⟨u,Z,I⟩:=DR (P:=P) h1 (h4.drop off) (PY hc off);simp only [Ap] at Z;exact ⟨rfl,_,u,rfl,Z,I⟩;rename_i T l hg;obtain ⟨_,_,_,vs,h3,h4⟩:=hm _ (UW hg);have hc: ∀(j:Nat) (v:Value),vs[j]? =some v->w.cell? ⟨e.blk k,0+j,none⟩=some v:=by
   intro j v hj;simp [World.cell?,h3,hj]
  obtain ⟨h1,rfl,rfl⟩:=RF h;obtain ⟨u,Z,I⟩:=DR (P:=P) h1 (h4.drop off) (PY hc off);simp only [Ap] at Z;exact ⟨rfl,_,u,rfl,Z,I⟩;cases h
 |roI pre n f off b o hr0=>
  simp only [BI] at h;obtain ⟨rfl,h1⟩:=Wh9 h hn;cases hr0 with
  |ro l vs _ _ g1 g2 hf g3 g4 g5=>
   obtain ⟨u,Z,I⟩:=DR (P:=P) h1 (U3.drop (⟨g3,g5⟩:U3 e w _ vs) off) (PY g4 off);exact ⟨rfl,_,u,rfl,Z,I⟩
 |ro l vs b o h1 h2 hf h3 h4 h5=>
  simp only [BI] at h;obtain ⟨k1,rfl,rfl⟩:=RF h;obtain ⟨u,Z,I⟩:=DR (P:=P) k1 (⟨h3,h5⟩:U3 e w l vs) h4;exact ⟨rfl,_,u,rfl,Z,I⟩
 |elt k sz i j b n W hl A=>
  simp only [BI] at h;split at h;rename_i T sz' n' f hg;split at h;rename_i hs;have hs':sz=sz':=GZ hs;subst hs';split at h;rename_i r I;simp only [HE,FF] at h;obtain ⟨rfl,rfl,rfl⟩:=h;have O:i<n':=hn _ VT;obtain ⟨_,_,hf,xs,hx,GK⟩:=hm _ (UW hg);have gQ: ∀(q:Nat) (u:Value),xs[q]? =some u->w.cell? ⟨b,q,none⟩=some u:=by
   intro q u hq;have:=hx.cells (g:=b) (by rw [A];rfl) q u hq
   rwa [DK,Ap] at this
  have hxl:xs.length=n'*sz:=hx.1;have hle:i*sz+sz<=n'*sz:=by
   have:=BJ sz (Az O)
   rwa [Bq] at this
  have hR:U3 e w (f i) ((xs.drop (i*sz)).take sz):=by
   refine ⟨by rw [(hf i O).1,List.length_take,List.length_drop,hxl];omega,λq a v ha hv'=>?_⟩
   rw [List.getElem?_take] at hv';split at hv';rw [List.getElem?_drop] at hv';exact GK i q a v O ha hv';cases hv'
  have hc: ∀(q:Nat) (u:Value),((xs.drop (i*sz)).take sz)[q]? =some u->w.cell? ⟨b,i*sz+q,none⟩=some u:=by
   intro q u hq;rw [List.getElem?_take] at hq;split at hq;rw [List.getElem?_drop] at hq;exact gQ _ _ hq;cases hq
  obtain ⟨u,Z,hr'⟩:=DR (P:=P) I (hR.drop j) (PY hc j);exact ⟨rfl,_,u,rfl,Z,hr'⟩;cases h;cases h;cases h
 |_=>simp [BI] at h
theorem TI{e:UL}{B:Nat}{w:World}{m:H2}{id:Nat}{t:TypeId}{a:AV}{v:Value}{ns:List Prop}{val:AV}{add:Option GO}(h:BI P m t a=some (ns,val,add))(hn: ∀p∈ns,p)
  (hE:UY e B w)(hm:UV e m w)(ra:Rep e w a v): ∃u w',(Instr.loadAt t v).run P w= .ok u w'/\LM e B w m id val add u w':=by
 obtain ⟨rfl,ad,u,rfl,Z,I⟩:=jW h hn hm ra;exact ⟨u,w,by simp [Instr.loadAt,Instr.sureAddr,Z],UK hE hm I⟩
def AA(P:Program)(t:TypeId)(k:Nat):AV->Option Out
 | .agg l=>match P.underlying t with
  |some (.struct fs)=>match fs[k]? with
   |some f=>yR (eI P f.type l f.offset)
   |none=>none
  |_=>none
 |_=>none
theorem MV{e:UL}{B:Nat}{w:World}{m:H2}{id:Nat}{t:TypeId}{k:Nat}{a:AV}{v:Value}{ns:List Prop}{val:AV}{add:Option GO}(h:AA P t k a=some (ns,val,add))
  (hE:UY e B w)(hm:UV e m w)(ra:Rep e w a v): ∃u w',(Instr.field t v k).run P w= .ok u w'/\LM e B w m id val add u w':=by
 cases ra with
 |agg l vs h1 h2=>
  simp only [AA] at h;split at h;rename_i fs Z;split at h;rename_i f hf;obtain ⟨k1,rfl,rfl⟩:=RF h;obtain ⟨u,hu',I⟩:=C7 (P:=P) k1 (⟨h1,h2⟩:U3 e w l vs);exact ⟨u,w,by simp [Instr.field,run_underlying Z,hf,asAgg,hu'],UK hE hm I⟩
  cases h;cases h
 |_=>simp [AA] at h
def qF(off:Nat):AV->Option AV
 | .ptr id o=>some (.ptr id (o+off))
 | .ro l=>match Nat.ble off l.length with
  |true=>some (.ro (l.drop off))
  |false=>none
 | .elt id sz i j=>some (.elt id sz i (j+off))
 | .roI pre n f o=>some (.roI pre n f (o+off))
 |_=>none
theorem v9{e:UL}{w:World}{off:Nat}{a r:AV}{v:Value}(h:qF off a=some r)(ra:Rep e w a v): ∃ad:Addr,v= .pointer (some ad)/\Rep e w r (.pointer (some (ad.add off))):=by
 cases ra with
 |ptr id o hl=>simp only [qF,HE] at h;subst h;exact ⟨_,rfl,by rw [DK];exact .ptr id (o+off) hl⟩
 |elt id sz i j b n W hl A=>
  simp only [qF,HE] at h;subst h;exact ⟨_,rfl,by rw [DK,Ba];exact .elt id sz i (j+off) b n W hl A⟩
 |roI pre n f o b o0 hr0=>
  simp only [qF,HE] at h;subst h;exact ⟨_,rfl,by rw [DK,Ba];exact .roI pre n f (o+off) b o0 hr0⟩
 |ro l vs b o h1 h2 hf h3 h4 h5=>
  simp only [qF] at h;split at h;cases h;refine ⟨_,rfl,?_⟩;rw [DK];exact .ro _ (vs.drop off) b (o+off) h1 h2 (λa ha=>hf a (List.mem_of_mem_drop ha)) (by simp [h3]) (PY h4 off) (U3.drop (⟨h3,h5⟩:U3 e w l vs) off).2
  cases h
 |_=>simp [qF] at h
def isI(m:H2):AV->Bool
 | .roI _ _ _ _=>true
 | .ptr id _=>match DG m id with
  |some (.ints _ _ _ _)=>true
  |_=>false
 |_=>false
def Zn7(m:H2)(off:Nat)(a:AV):Option AV:=match isI m a with
 |true=>match a with
  | .roI pre n f o=>some (.roI pre n f (off+o))
  | .ptr id o=>some (.ptr id (off+o))
  |_=>none
 |false=>qF off a
theorem Xj6{m:H2}{off:Nat}{a r:AV}(h:Zn7 m off a=some r):qF off a=some r:=by
 unfold Zn7 at h;split at h;split at h;cases h;simp only [qF];rw [Bh];cases h;simp only [qF];rw [Bh];cases h;exact h
def w6(P:Program)(t:TypeId)(k:Nat)(a:AV):Option Out:=
 match P.underlying t with
 |some (.struct fs)=>match fs[k]? with
  |some f=>match P.info? f.type with
   |some i=>match i.size with
    | 0=>none
    |_+1=>yR (qF f.offset a)
   |none=>none
  |none=>none
 |_=>none
theorem uZ{e:UL}{B:Nat}{w:World}{m:H2}{id:Nat}{t:TypeId}{k:Nat}{a:AV}{v:Value}{ns:List Prop}{val:AV}{add:Option GO}(h:w6 P t k a=some (ns,val,add))
  (hE:UY e B w)(hm:UV e m w)(ra:Rep e w a v): ∃u w',(Instr.fieldAt t v k).run P w= .ok u w'/\LM e B w m id val add u w':=by
 unfold w6 at h;split at h;rename_i fs Z;split at h;rename_i f hf;split at h;rename_i i O;split at h;cases h;rename_i s hs;obtain ⟨k1,rfl,rfl⟩:=RF h;obtain ⟨ad,rfl,I⟩:=v9 k1 ra;exact ⟨_,w,by simp [Instr.fieldAt,run_underlying Z,hf,Instr.sureAddr,fieldPlace,sizeOf,typeInfo,O,hs],UK hE hm I⟩
 cases h;cases h;cases h
def jX(P:Program)(m:H2)(t:TypeId)(a ix:AV):Option Out:=
 match ix with
 | .x (.int _ i)=>match P.underlying t with
  |some (.slice el)=>match P.info? el with
   |some info=>match a with
    | .lst sz n f=>match Nat.beq info.size sz with
     |true=>some ([0<=i/\i<(n:Int)],.ro (f i.toNat),none)
     |false=>none
    | .row id=>match DG m id with
     |some (.row _ sz n _)=>match Nat.beq info.size sz with
      |true=>some ([0<=i/\i<(n:Int)],.elt id sz i.toNat 0,none)
      |false=>none
     |_=>none
    |_=>none
   |none=>none
  |some (.array n el)=>match P.info? el with
   |some info=>match Zn7 m (i.toNat*info.size) a with
    |some r=>some ([0<=i/\i<(n:Int)],r,none)
    |none=>none
   |none=>none
  |_=>none
 |_=>none
theorem Xm7{t el:TypeId}(Z:P.underlying t=some (.slice el)):P.elem t=el:=by simp [Program.elem,Z]
theorem uY{e:UL}{B:Nat}{w:World}{m:H2}{id:Nat}{t:TypeId}{a ix:AV}{v vi:Value}{ns:List Prop}{val:AV}{add:Option GO}(h:jX P m t a ix=some (ns,val,add))(hn: ∀p∈ns,p)
  (hE:UY e B w)(hm:UV e m w)(ra:Rep e w a v)(ri:Rep e w ix vi): ∃u w',(Instr.indexAt t v vi).run P w= .ok u w'/\LM e B w m id val add u w':=by
 unfold jX at h;split at h;rename_i k i;cases ri.x_inv;split at h;rename_i el Z;have hel:=Xm7 Z;split at h;rename_i info O;split at h;rename_i sz n f;split at h;rename_i hs;have hs':info.size=sz:=GZ hs;subst hs';simp only [HE,FF] at h;obtain ⟨rfl,rfl,rfl⟩:=h;have hb:0<=i/\i<(n:Int):=hn _ VT;cases ra with
 |lstNil sz f=>omega
 |lst sz n f b o W g h1 h2 hid h3 h3' h4 h5 h6 ad had=>
  have hlt:i.toNat<n:=VJ;obtain rfl:=had VJ;refine ⟨.pointer (some ⟨b,o+i.toNat*info.size,none⟩),w,?_,UK hE hm ?_⟩;rw [run_indexAt_slice w t _ n W k i (by rw [hel];exact Z),if_pos hb]
  simp [sizeOf,typeInfo,hel,O,DK];refine .ro _ ((List.range info.size).map (g i.toNat)) b _ (h1 VJ) (h2 VJ) (hid _ hlt) (by simp [h5 _ hlt]) ?_ ?_
  intro j u hj;simp only [Bn,Ay] at hj;obtain ⟨q,hq,rfl⟩:=hj;obtain ⟨hq1,hq2⟩:=FV.1 hq;simp at hq1 hq2;subst hq2;rw [Ba];exact h4 _ _ hlt hq1;intro j a u ha hj;simp only [Bn,Ay] at hj;obtain ⟨q,hq,rfl⟩:=hj;obtain ⟨hq1,hq2⟩:=FV.1 hq;simp at hq1 hq2;subst hq2;exact h6 _ _ _ hlt ha
 cases h;rename_i k';split at h;rename_i T sz n f hg;split at h;rename_i hs;have hs':info.size=sz:=GZ hs;subst hs';simp only [HE,FF] at h;obtain ⟨rfl,rfl,rfl⟩:=h;have hb:0<=i/\i<(n:Int):=hn _ VT;obtain ⟨hlv,H9,hf,xs,hx,GK⟩:=hm _ (UW hg);cases ra with
 |row _ a n' c hl A=>
  rcases hx.2 with ⟨hv0,hn0⟩|⟨g,W,cur,hv0,_,_⟩;omega;rw [A] at hv0;cases hv0;refine ⟨.pointer (some ⟨g,i.toNat*info.size+0,none⟩),w,?_,UK hE hm (.elt _ _ _ _ g _ _ hl A)⟩;rw [run_indexAt_slice w t _ _ _ k i (by rw [hel];exact Z),if_pos hb]
  simp [sizeOf,typeInfo,hel,O,DK]
 cases h;cases h;cases h;cases h;rename_i n el Z;split at h;rename_i info O;split at h;rename_i r I;simp only [HE,FF] at h;obtain ⟨rfl,rfl,rfl⟩:=h;have hb:0<=i/\i<(n:Int):=hn _ VT;obtain ⟨ad,rfl,GK⟩:=v9 (Xj6 I) ra;refine ⟨.pointer (some (ad.add (i.toNat*info.size))),w,?_,UK hE hm GK⟩;have hel:P.elem t=el:=by simp [Program.elem,Z]
 have hal:P.arrayLen t=n:=by simp [Program.arrayLen,Z]
 rw [run_indexAt_array w t ad k i (by rw [hel,hal];exact Z),hal,if_pos hb]
 simp [sizeOf,typeInfo,hel,O];cases h;cases h;cases h;cases h
end
section
variable {P:Program}
def eqA(P:Program):Nat->TypeId->AV->AV->Option Bool
 | 0,_,_,_=>none
 |d+1,t,a,b=>
  match P.underlying t with
  |some (.int _)=>match a,b with
   | .x (.int k x),.x (.int k' y)=>match decide (k=k') with
    |true=>some (x==y)
    |false=>none
   |_,_=>none
  |some .bool=>match L7 a,L7 b with
   |some x,some y=>some (x==y)
   |_,_=>none
  |some .string=>match a,b with
   | .x (.string x),.x (.string y)=>some (x.toList==y.toList)
   |_,_=>none
  |some (.struct fs)=>match a,b with
   | .agg xs,.agg ys=>match P.stoodInHeld t with
    |true=>none
    |false=>fs.toList.foldr (λf acc=>match decide (f.name= "_") with
      |true=>acc
      |false=>match eI P f.type xs f.offset,eI P f.type ys f.offset with
       |some p,some q=>match eqA P d f.type p q,acc with
        |some r,some s=>some (r&&s)
        |_,_=>none
       |_,_=>none) (some true)
   |_,_=>none
  |_=>none
theorem xM{e:UL}{w:World}: ∀(d:Nat) (t:TypeId) (a b:AV) (va vb:Value) (r:Bool),eqA P d t a b=some r->Rep e w a va->Rep e w b vb->(Op.equalIn d t va vb).run P w= .ok r w
 | 0,_,_,_,_,_,_,h,_,_=>by simp [eqA] at h
 |d+1,t,a,b,va,vb,r,h,ra,rb=>by
  unfold eqA at h;split at h;rename_i k0 Z;split at h;rename_i k x k' y;cases ra.x_inv;cases rb.x_inv;split at h;rename_i hk;have hk':k=k':=B0 hk;subst hk';cases h;exact run_equalIn_int w d t k k0 x y Z;cases h;cases h;rename_i Z;split at h;rename_i x y hx hy;cases PZ hx ra;cases PZ hy rb;cases h;exact run_equalIn_bool' w d t x y Z;cases h;rename_i Z;split at h;rename_i x y;cases ra.x_inv;cases rb.x_inv;cases h;exact run_equalIn_string w d t x y Z;cases h;rename_i fs Z;split at h;rename_i xs ys;obtain ⟨vs,rfl,hvs⟩:=ra.agg_inv;obtain ⟨us,rfl,hus⟩:=rb.agg_inv;split at h;cases h;rename_i hst;have hfs:P.fieldsOf t=fs:=by simp [Program.fieldsOf,Z]
  rw [run_equalIn_struct w d t _ _ (by rw [hfs];exact Z) hst,hfs]
  clear hfs Z;generalize fs.toList=l at h
  induction l generalizing r with
  |nil=>simp at h;subst h;rfl
  |cons f l ih=>
   simp only [List.foldr_cons] at h;split at h;rename_i hn;have hn':f.name= "_":=B0 hn;simp only [Op.eqFields,hn',ne_eq,not_true_eq_false,if_false];exact ih r h;rename_i hn;have hn':f.name≠ "_":=of_decide_eq_false hn;split at h;rename_i p q hp hq;split at h;rename_i r1 s hr1 hacc;cases h;obtain ⟨v1,hv1,rep1⟩:=C7 (P:=P) hp hvs;obtain ⟨v2,hv2,rep2⟩:=C7 (P:=P) hq hus;have h1:=xM d f.type p q v1 v2 r1 hr1 rep1 rep2;have h2:=ih s hacc;simp only [Op.eqFields,hn',ne_eq,not_false_eq_true,if_true,At,hv1,Au,hv2,h1];cases r1;simp;simp [h2];cases h;cases h
  cases h;cases h
def Jn5(op:BinOp)(a b:Int):Option Bool:=
 match op with
 | .eql=>some (a==b)
 | .neq=>some (a != b)
 | .lss=>some (decide (a<b))
 | .leq=>some (decide (a<=b))
 | .gtr=>some (decide (a>b))
 | .geq=>some (decide (a>=b))
 |_=>none
def Xo9(a b:Int):Int:=IntKind.i64.wrap (BitVec.ofInt 64 a &&& BitVec.ofInt 64 b).toNat
def orI(a b:Int):Int:=IntKind.i64.wrap (BitVec.ofInt 64 a ||| BitVec.ofInt 64 b).toNat
def anI(a b:Int):Int:=IntKind.i64.wrap (BitVec.ofInt 64 a &&& ~~~(BitVec.ofInt 64 b)).toNat
def arI(op:BinOp)(a b:Int):Option (List Prop×Int):=
 match op with
 | .add=>some ([VL (a+b)],a+b)
 | .sub=>some ([VL (a-b)],a-b)
 | .mul=>some ([VL (a*b)],a*b)
 | .quo=>some ([b≠0,VL (a.tdiv b)],a.tdiv b)
 | .rem=>some ([b≠0],a.tmod b)
 | .and=>some ([],Xo9 a b)
 | .or=>some ([],orI a b)
 | .andNot=>some ([],anI a b)
 | .shl=>some ([0<=b/\b<=64,VL (a*2^b.toNat)],a*2^b.toNat)
 | .shr=>some ([0<=b/\b<=64],a / 2^b.toNat)
 |_=>none
def shI(op:BinOp)(k:IntKind)(a b:Int):Option (List Prop×Int):=match decide (k= .i64) with
 |true=>match op with
  | .shl=>some ([0<=b/\b<=64,VL (a*2^b.toNat)],a*2^b.toNat)
  | .shr=>some ([0<=b/\b<=64],a / 2^b.toNat)
  |_=>none
 |false=>match decide (k= .u64) with
  |true=>match op with
   | .shr=>some ([0<=b/\b<=64],a / 2^b.toNat)
   |_=>none
  |false=>none
theorem Qm2{op:BinOp}{k yk:IntKind}{a b r:Int}{t:TypeId}{ns:List Prop}(h:shI op k a b=some (ns,r))(hn: ∀p∈ns,p)(w:World):(binOp op t (.int k a) (.int yk b)).run P w= .ok (.int k r) w:=by
 unfold shI at h;split at h;rename_i hk;have hk':k= .i64:=B0 hk;subst hk';split at h;cases h;have h1:0<=b/\b<=64:=hn _ VT;have h2:VL (a*2^b.toNat):=hn _ VT;have h3: ¬b<0:=VJ;have h4:min b.toNat 64=b.toNat:=VJ;simp [binOp,Op.shift,h3,IntKind.bits,h4,B6 h2];cases h;have h1:0<=b/\b<=64:=hn _ VT;have h3: ¬b<0:=VJ;have h4:min b.toNat 64=b.toNat:=VJ;simp [binOp,Op.shift,h3,IntKind.bits,h4];cases h;split at h;rename_i hk;have hk':k= .u64:=B0 hk;subst hk';split at h;cases h;have h1:0<=b/\b<=64:=hn _ VT;have h3: ¬b<0:=VJ;have h4:min b.toNat 64=b.toNat:=VJ;simp [binOp,Op.shift,h3,IntKind.bits,h4];cases h;cases h
def Jo4(k:IntKind)(a b:Int):Int:=k.wrap (BitVec.ofInt k.bits a &&& BitVec.ofInt k.bits b).toNat
def Wf5(P:Program)(op:BinOp)(t:TypeId)(x y:AV):Option Out:=
 match x,y with
 | .x (.int k a),.x (.int k' b)=>match decide (k=k') with
  |true=>match Jn5 op a b with
   |some r=>some ([],.x (.bool r),none)
   |none=>match decide (k= .i64) with
    |true=>match arI op a b with
     |some (ns,r)=>some (ns,.x (.int .i64 r),none)
     |none=>none
    |false=>match op,decide (k= .u16) with
     | .quo,true=>some ([b≠0,0<=a.tdiv b/\a.tdiv b<=65535],.x (.int .u16 (a.tdiv b)),none)
     | .and,_=>some ([],.x (.int k (Jo4 k a b)),none)
     | .sub,_=>some ([k= .u8,0<=a-b/\a-b<=255],.x (.int k (a-b)),none)
     |_,_=>none
  |false=>match shI op k a b with
   |some (ns,r)=>some (ns,.x (.int k r),none)
   |none=>none
 | .x (.string a),.x (.string b)=>match op with
  | .eql=>some ([],.x (.bool (a.toList==b.toList)),none)
  | .neq=>some ([],.x (.bool (!(a.toList==b.toList))),none)
  | .add=>some ([((a.size+b.size:Nat):Int)<=9223372036854775807],.x (.string (a++b)),none)
  |_=>none
 | .agg l,.agg l'=>match P.eqGuardType P.depth t with
  |true=>none
  |false=>match op,eqA P 10000 t (.agg l) (.agg l') with
   | .eql,some r=>some ([],.x (.bool r),none)
   | .neq,some r=>some ([],.x (.bool !r),none)
   |_,_=>none
 |x,y=>match L7 x,L7 y,P.underlying t with
  |some a,some b,some .bool=>match op with
   | .eql=>some ([],.x (.bool (a==b)),none)
   | .neq=>some ([],.x (.bool (!(a==b))),none)
   |_=>none
  |_,_,_=>none
theorem eR{e:UL}{B:Nat}{w:World}{m:H2}{id:Nat}{op:BinOp}{t:TypeId}{ox oy:Operand}{x y:AV}{vx vy:Value}{ns:List Prop}{val:AV}{add:Option GO}(h:Wf5 P op t x y=some (ns,val,add))(hn: ∀p∈ns,p)
  (hE:UY e B w)(hm:UV e m w)(rx:Rep e w x vx)(ry:Rep e w y vy):
  ∃u w',(do eqGuard op t ox oy vx vy;binOp op t vx vy:Sem Value).run P w= .ok u w'/\LM e B w m id val add u w':=by
 unfold Wf5 at h;split at h;rename_i k a k' b;cases rx.x_inv;cases ry.x_inv;have hg:(eqGuard op t ox oy (.int k a) (.int k' b)).run P w= .ok () w:=by cases op<;>simp [eqGuard]
 split at h;rename_i hk;have hk':k=k':=B0 hk;subst hk';split at h;rename_i r I;cases h;refine ⟨.bool r,w,?_,UK hE hm (.x _)⟩;rw [At,hg];cases op<;>simp [Jn5] at I<;>subst I<;>simp [binOp,Op.intCmp];rename_i I;split at h;rename_i O;have hi':k= .i64:=B0 O;subst hi';split at h
 ·rename_i ns' r har;cases h;refine ⟨.int .i64 r,w,?_,UK hE hm (.x _)⟩;rw [At,hg];cases op<;>simp [arI] at har
  case add=>
   obtain ⟨rfl,rfl⟩:=har;have h1:VL (a+b):=hn _ VT;simp [binOp,Op.intArith,B6 h1]
  case sub=>
   obtain ⟨rfl,rfl⟩:=har;have h1:VL (a-b):=hn _ VT;simp [binOp,Op.intArith,B6 h1]
  case mul=>
   obtain ⟨rfl,rfl⟩:=har;have h1:VL (a*b):=hn _ VT;simp [binOp,Op.intArith,B6 h1]
  case quo=>
   obtain ⟨rfl,rfl⟩:=har;have h0:b≠0:=hn _ VT;have h1:VL (a.tdiv b):=hn _ VT;simp [binOp,Op.intDiv,h0,B6 h1]
  case rem=>
   obtain ⟨rfl,rfl⟩:=har;have h0:b≠0:=hn _ VT;simp [binOp,Op.intDiv,h0]
  case and=>
   obtain ⟨rfl,rfl⟩:=har;rfl
  case or=>
   obtain ⟨rfl,rfl⟩:=har;rfl
  case andNot=>
   obtain ⟨rfl,rfl⟩:=har;rfl
  case shl=>
   obtain ⟨rfl,rfl⟩:=har;have h1:0<=b/\b<=64:=hn _ VT;have h2:VL (a*2^b.toNat):=hn _ VT;have h3: ¬b<0:=VJ;have h4:min b.toNat 64=b.toNat:=VJ;simp [binOp,Op.shift,h3,IntKind.bits,h4,B6 h2]
  case shr=>
   obtain ⟨rfl,rfl⟩:=har;have h1:0<=b/\b<=64:=hn _ VT;have h3: ¬b<0:=VJ;have h4:min b.toNat 64=b.toNat:=VJ;simp [binOp,Op.shift,h3,IntKind.bits,h4]
 cases h;split at h;rename_i hk2;have hk3:k= .u16:=B0 hk2;subst hk3;cases h;refine ⟨.int .u16 (a.tdiv b),w,?_,UK hE hm (.x _)⟩;rw [At,hg];have h0:b≠0:=hn _ VT;have h1:0<=a.tdiv b/\a.tdiv b<=65535:=hn _ VT;have e:IntKind.u16.wrap (a.tdiv b)=a.tdiv b:=by
  have e1:IntKind.u16.wrap (a.tdiv b)=(a.tdiv b)%2^16:=rfl;rw [e1,Int.emod_eq_of_lt VJ VJ]
 simp [binOp,Op.intDiv,h0,e];cases h;refine ⟨.int k (Jo4 k a b),w,?_,UK hE hm (.x _)⟩;rw [At,hg];cases k<;>rfl;cases h;have h0:k= .u8:=hn _ VT;have h1:0<=a-b/\a-b<=255:=hn _ VT;subst h0;refine ⟨.int .u8 (a-b),w,?_,UK hE hm (.x _)⟩;rw [At,hg];have e:IntKind.u8.wrap (a-b)=a-b:=by
  have e1:IntKind.u8.wrap (a-b)=(a-b)%2^8:=rfl;rw [e1,Int.emod_eq_of_lt VJ VJ]
 simp [binOp,Op.intArith,e];cases h;split at h;rename_i ns' r hsh;cases h;refine ⟨.int k r,w,?_,UK hE hm (.x _)⟩;rw [At,hg];exact Qm2 hsh hn w;cases h;rename_i a b;cases rx.x_inv;cases ry.x_inv;have hg:(eqGuard op t ox oy (.string a) (.string b)).run P w= .ok () w:=by cases op<;>simp [eqGuard]
 split at h;cases h;refine ⟨_,w,?_,UK hE hm (.x _)⟩;rw [At,hg];simp [binOp,Op.stringOp];cases h;refine ⟨_,w,?_,UK hE hm (.x _)⟩;rw [At,hg];simp [binOp,Op.stringOp];cases h;refine ⟨.string (a++b),w,?_,UK hE hm (.x _)⟩;have hb:((a.size+b.size:Nat):Int)<=9223372036854775807:=hn _ VT;have hb': ¬((a.size+b.size:Nat):Int)>IntKind.i64.max:=by
  show ¬((a.size+b.size:Nat):Int)>9223372036854775807;omega
 have h1:(Op.stringOp .add a b).run P w= .ok (.string (a++b)) w:=by
  unfold Op.stringOp;simp only [if_neg hb'];rfl
 rw [At,hg];simp [binOp,h1];cases h;rename_i l l';split at h;cases h;rename_i hgt;obtain ⟨vs,rfl,_⟩:=rx.agg_inv;obtain ⟨us,rfl,_⟩:=ry.agg_inv;have hg:=run_eqGuard_agg (P:=P) w op t ox oy vs.toArray us.toArray hgt;split at h;rename_i r I;cases h;have:=xM (P:=P) 10000 t _ _ _ _ r I rx ry;refine ⟨_,w,?_,UK hE hm (.x _)⟩;rw [At,hg,Au,run_eql_struct,this];rfl;rename_i r I;cases h;have:=xM (P:=P) 10000 t _ _ _ _ r I rx ry;refine ⟨_,w,?_,UK hE hm (.x _)⟩;rw [At,hg,Au,run_neq_struct,this];rfl;cases h;split at h;rename_i a b ha hb Z;cases PZ ha rx;cases PZ hb ry;have hg:(eqGuard op t ox oy (.bool a) (.bool b)).run P w= .ok () w:=by cases op<;>simp [eqGuard]
 have he:(Op.equal t (.bool a) (.bool b)).run P w= .ok (a==b) w:=run_equalIn_bool' w 9999 t a b Z;split at h;cases h;refine ⟨_,w,?_,UK hE hm (.x _)⟩;rw [At,hg];simp [binOp,he];cases h;refine ⟨_,w,?_,UK hE hm (.x _)⟩;rw [At,hg];simp [binOp,he];cases h;cases h
end
section
variable {P:Program}
def Zl6(op:UnOp):AV->Option Out
 | .x (.int .i64 n)=>match op with
  | .neg=>some ([VL (-n)],.x (.int .i64 (-n)),none)
  |_=>none
 | .lit b=>match op with
  | .not=>some ([],.lit (!b),none)
  |_=>none
 | .x (.bool b)=>match op with
  | .not=>some ([],.x (.bool (!b)),none)
  |_=>none
 |_=>none
theorem oO{e:UL}{B:Nat}{w:World}{m:H2}{id:Nat}{op:UnOp}{x:AV}{v:Value}{ns:List Prop}{val:AV}{add:Option GO}(h:Zl6 op x=some (ns,val,add))(hn: ∀p∈ns,p)
  (hE:UY e B w)(hm:UV e m w)(rx:Rep e w x v): ∃u w',(Op.unary op v).run P w= .ok u w'/\LM e B w m id val add u w':=by
 unfold Zl6 at h;split at h;rename_i n;cases rx.x_inv;split at h;cases h;have h1:VL (-n):=hn _ VT;refine ⟨_,w,?_,UK hE hm (.x _)⟩;have h2:(0:Int)-n= -n:=VJ;simp [Op.unary,Op.intArith,h2,B6 h1];cases h;rename_i b;cases rx.lit_inv;split at h;cases h;exact ⟨_,w,by simp [Op.unary],UK hE hm (.lit _)⟩
 cases h;rename_i b;cases rx.x_inv;split at h;cases h;exact ⟨_,w,by simp [Op.unary],UK hE hm (.x _)⟩
 cases h;cases h
def byN(s:ByteArray)(j:Nat):Int:=((s.data.getD j 0).toNat:Int)
def DQ(s:ByteArray)(j:Nat):List AV:=[.x (.int .u8 (byN s j))]
def byO:List AV->Nat
 |[.x (.int .u8 n)]=>n.toNat
 |_=>0
section
variable (n:Nat)(f:Ci)
def bsO:ByteArray:=⟨((List.range n).map λj=>UInt8.ofNat (byO (f j))).toArray⟩
def gI:Prop:= ∀j,j<n->byO (f j)<256/\f j=[.x (.int .u8 (byO (f j):Int))]
end
def oP(P:Program)(src dst:TypeId):AV->Option Out
 | .x (.int _ n)=>match P.underlying src,P.underlying dst with
  |some _,some (.int k)=>match decide (k= .i64) with
   |true=>some ([VL n],.x (.int .i64 n),none)
   |false=>some ([],.x (.int k (k.wrap n)),none)
  |_,_=>none
 | .x (.string s)=>match P.underlying src,P.underlying dst with
  |some .string,some .string=>some ([],.x (.string s),none)
  |some .string,some (.slice el)=>match P.underlying el with
   |some (.int .u8)=>some ([s.size<=4294967296],.lst 1 s.size (DQ s),none)
   |_=>none
  |_,_=>none
 | .x (.slice none n c)=>match P.underlying src,P.underlying dst with
  |some (.slice el),some .string=>match P.underlying el with
   |some (.int .u8)=>some ([],.x (.string ByteArray.empty),none)
   |_=>none
  |_,_=>none
 | .lst sz n f=>match P.underlying src,P.underlying dst with
  |some (.slice el),some .string=>match P.underlying el with
   |some (.int .u8)=>match Nat.beq sz 1 with
    |true=>some ([gI n f],.x (.string (bsO n f)),none)
    |false=>none
   |_=>none
  |_,_=>none
 |_=>none
section
variable {e:UL}{B:Nat}{w:World}{m:H2}{id:Nat}
theorem sB{s:ByteArray}{el:TypeId}(hE:UY e B w)(hm:UV e m w)(h1:s.size<=4294967296):
  LM e B w m id (.lst 1 s.size (DQ s)) none (.slice (some ⟨w.heap.size,0,none⟩) s.size (grownCap w s.size 0 el)) (w.drew.alloc (.cells (bytesRow s (grownCap w s.size 0 el)) el ((bytesRow s (grownCap w s.size 0 el)).size,(bytesRow s (grownCap w s.size 0 el)).size+1))):=by
 generalize hob:Obj.cells (bytesRow s (grownCap w s.size 0 el)) el ((bytesRow s (grownCap w s.size 0 el)).size,(bytesRow s (grownCap w s.size 0 el)).size+1)=ob
 let e':UL:={ro:=λb=>e.ro b\/b=w.heap.size,own:=e.own,live:=e.live,blk:=e.blk,val:=e.val}
 have hsz:(w.drew.alloc ob).heap.size=w.heap.size+1:=VT;have dY:Below w.heap.size w (w.drew.alloc ob):=((Below.refl w.heap.size w).drew).alloc (Am _) _;have st:Step e e' w (w.drew.alloc ob):=⟨λb hb I=>⟨.inl I,dY.block b hb⟩,λk hk=>⟨hk,rfl,rfl⟩,VJ⟩;refine ⟨e',dY,st,⟨λb hb=>?_,λb k hk=>?_,hE.glob.step st⟩,λ_ _ h=>h,?_,λp hp=>(hm p hp).ext dY st (λ_ _ h=>h),λk hk=> .inl hk,λb hb=>?_⟩;rcases hb with hb|rfl;have:=hE.apart b hb;exact ⟨this.1,VJ⟩;refine ⟨?_,VJ⟩;cases ho:e.own w.heap.size with
 |none=>rfl
 |some k=>have:=(hE.owned _ k ho).2;omega
 have:=hE.owned b k hk;exact ⟨this.1,VJ⟩;refine .lst 1 s.size (DQ s) w.heap.size 0 _ (λi _=> .int .u8 (byN s i)) (λ_=>(show e.ro w.heap.size\/w.heap.size=w.heap.size from .inr rfl)) (λ_=>VJ) (λi _ a ha=>?_) (by have:=grownCap_ge w s.size 0 el;omega) (grownCap_le_maxLen w s.size 0 el (by unfold maxLen;omega)) (λi j O hj=>?_) (λ_ _=>rfl) (λi j a O ha=>?_) _ (λ_=>rfl)
 rw [PM.1 ha];exact .x _;obtain rfl:j=0:=VJ;have hh:(w.drew.alloc ob).heap[w.heap.size]? =some ob:=heap_alloc_new w.drew ob;unfold World.cell?;rw [hh,←hob];have hi':i<s.data.size:=O;have e0:0+(i*1+0)=i:=VJ;show (bytesRow s _)[0+(i*1+0)]? =_;rw [e0,bytesRow_at s _ i hi'];unfold byN;rw [P2,Array.getElem?_eq_getElem hi'];rfl;cases j with
 |zero=>
  simp only [DQ,List.getElem?_cons_zero,HE] at ha;rw [←ha];exact .x _
 |succ j=>simp [DQ] at ha
 rcases hb with hb|rfl;exact .inl hb;exact .inr (Am _)
theorem TL{src dst:TypeId}{x:AV}{v:Value}{ns:List Prop}{val:AV}{add:Option GO}(h:oP P src dst x=some (ns,val,add))(hn: ∀p∈ns,p)
  (hE:UY e B w)(hB:B<=w.heap.size)(hm:UV e m w)(rx:Rep e w x v): ∃u w',(convert src dst v).run P w= .ok u w'/\LM e B w m id val add u w':=by
 unfold oP at h;split at h;rename_i k0 n;cases rx.x_inv;split at h;rename_i d k hs hd;split at h;rename_i hk;have hk':k= .i64:=B0 hk;subst hk';cases h;have h1:VL n:=hn _ VT;exact ⟨_,w,by simp [convert,run_underlying hs,run_underlying hd,Conv.intToInt,B6 h1],UK hE hm (.x _)⟩
 cases h;exact ⟨_,w,by simp [convert,run_underlying hs,run_underlying hd,Conv.intToInt],UK hE hm (.x _)⟩
 cases h;rename_i s;cases rx.x_inv;split at h;rename_i hs hd;cases h;exact ⟨_,w,by simp [convert,run_underlying hs,run_underlying hd],UK hE hm (.x _)⟩
 rename_i el hs hd;split at h;rename_i he;cases h;have h1:s.size<=4294967296:=hn _ VT;exact ⟨_,_,run_bytes_of_string w src dst el s hs hd he,sB hE hm h1⟩;cases h;cases h;rename_i n c;cases rx.x_inv;split at h;rename_i el hs hd;split at h;rename_i he;cases h;exact ⟨_,w,by rw [run_convert_bytes_string w src dst el none n c hs he hd];simp [Conv.bytesToString],UK hE hm (.x _)⟩
 cases h;cases h;rename_i sz n f;split at h;rename_i el hs hd;split at h;rename_i he;split at h;rename_i hz;obtain rfl:sz=1:=GZ hz;cases h;have h1:gI n f:=hn _ VT;refine ⟨.string (bsO n f),w,?_,UK hE hm (.x _)⟩;cases rx with
 |lstNil=>
  rw [run_convert_bytes_string w src dst el none 0 0 hs he hd];simp [Conv.bytesToString,bsO];rfl
 |lst _ _ _ b o W g h2 h3 h4 h5 h6 h7 h8 h9 ad had=>
  have hl:((List.range n).map λj=>UInt8.ofNat (byO (f j))).length=n:=VT;have hc: ∀j (hj:j<((List.range n).map λj=>UInt8.ofNat (byO (f j))).length),w.cell? (ad.add j)=some (.int .u8 ((((List.range n).map λj=>UInt8.ofNat (byO (f j)))[j]).toNat:Int)):=by
   intro j hj;have hj:j<n:=VJ;rw [had VJ];have h10:=h7 j 0 hj VJ;have h11:=h9 j 0 (.x (.int .u8 (byO (f j):Int))) hj (by rw [(h1 j hj).2];rfl)
   have h12:=h11.x_inv;rw [h12] at h10;have e1:(⟨b,o,none⟩:Addr).add j=⟨b,o+(j*1+0),none⟩:=by
    simp [Addr.add]
   rw [e1,h10];have h13:=(h1 j hj).1;simp only [List.getElem_map,List.getElem_range];rw [UInt8.toNat_ofNat_of_lt' h13]
  have hk:=run_convert_bytes_back w src dst el ad W ((List.range n).map λj=>UInt8.ofNat (byO (f j))) hs he hd hc;rw [hl] at hk;exact hk
 cases h;cases h;cases h;cases h
end
def H5(off:Nat):List AV->List AV->List AV
 |[],cells=>cells
 |c::cs,cells=>H5 (off+1) cs (cells.set off c)
theorem AZ{e:UL}{w:World}: ∀(cs:List AV) (vs:List Value) (off:Nat) (cells:List AV) (us:List Value),U3 e w cs vs->U3 e w cells us->
  U3 e w (H5 off cs cells) ((vs.zipIdx).foldl (λ(acc:List Value) (p:Value×Nat)=>acc.set (off+p.2) p.1) us)
 |[],vs,off,cells,us,h,k=>by cases h.nil_inv;simpa [H5] using k
 |c::cs,vs,off,cells,us,h,k=>by
  obtain ⟨v,vs',rfl,A,hvs⟩:=h.cons_inv;have ih:=AZ cs vs' (off+1) (cells.set off c) (us.set off v) hvs (k.set A off);simp only [H5,List.zipIdx_cons,List.foldl_cons,Bg,Ap];have e1: ∀(l:List Value) (n:Nat) (acc:List Value),(l.zipIdx (n+1)).foldl (λ(acc:List Value) (p:Value×Nat)=>acc.set (off+p.2) p.1) acc=(l.zipIdx n).foldl (λ(acc:List Value) (p:Value×Nat)=>acc.set (off+1+p.2) p.1) acc:=by
   intro l
   induction l with
   |nil=>intro n acc;simp
   |cons a l ih=>intro n acc;simp only [List.zipIdx_cons,List.foldl_cons];rw [ih,show off+(n+1)=off+1+n by omega]
  rw [e1 vs' 0];exact ih
def IQ(place:Nat->Option (Nat×Nat))(cells:List AV):List (Nat×AV)->Option (List AV)
 |[]=>some cells
 |(i,a)::rest=>match place i,a.cellsOf with
  |some (off,size),some cs=>match Nat.beq cs.length size&&Nat.ble (off+cs.length) cells.length with
   |true=>IQ place (H5 off cs cells) rest
   |false=>none
  |_,_=>none
theorem wC(off:Nat): ∀(l:List (Value×Nat)) (us:List Value),l.foldl (λ(cs:Array Value) (x:Value×Nat)=>cs.setIfInBounds (off+x.2) x.1) us.toArray=(l.foldl (λ(acc:List Value) (p:Value×Nat)=>acc.set (off+p.2) p.1) us).toArray
 |[],us=>rfl
 |(v,j)::l,us=>by simp only [List.foldl_cons,List.setIfInBounds_toArray];exact wC off l _
theorem wE{e:UL}{w:World}{place:Nat->Option (Nat×Nat)}: ∀(parts:List (Nat×AV)) (vparts:List (Nat×Value)) (cells:List AV) (us:List Value) (r:List AV),IQ place cells parts=some r->
  U3 e w cells us->parts.map (·.1)=vparts.map (·.1)->U3 e w (parts.map (·.2)) (vparts.map (·.2))-> ∃rs:List Value,Instr.fill place us.toArray vparts=some rs.toArray/\U3 e w r rs/\rs.length=us.length
 |[],vparts,cells,us,r,h,k,O,hp=>by
  simp [IQ] at h;subst h;have:vparts=[]:=by simpa using O
  subst this;exact ⟨us,rfl,k,rfl⟩
 |(i,a)::rest,vparts,cells,us,r,h,k,O,hp=>by
  cases vparts with
  |nil=>simp at O
  |cons p vrest=>
   obtain ⟨i',v⟩:=p;simp only [List.map_cons,List.cons.injEq] at O;obtain ⟨rfl,O⟩:=O;obtain ⟨v',vs',hvv,A,hvs⟩:=U3.cons_inv (by simpa using hp)
   simp only [List.cons.injEq] at hvv;obtain ⟨rfl,rfl⟩:=hvv;unfold IQ at h;split at h;rename_i off size cs hpl hcs;split at h;rename_i hb;simp only [GU] at hb;have h1:cs.length=size:=GZ hb.1;have h2:off+cs.length<=cells.length:=qR hb.2;have hc:=wG hcs A;have hs:=AZ cs v.cells.toList off cells us hc k;obtain ⟨rs,g1,g2,g3⟩:=wE rest vrest _ _ r h hs O hvs;refine ⟨rs,?_,g2,?_⟩;have hsz:v.cells.size=size:=by rw [←h1,hc.1];simp
   have hle: ¬off+v.cells.size>us.toArray.size:=by
    have:cs.length=v.cells.size:=by rw [hc.1];simp
    simp [←k.1];omega
   unfold Instr.fill;simp only [hpl];rw [if_neg (by simp [hsz] at hle ⊢;omega)]
   rw [←g1]
   congr 1
   rw [←Array.foldl_toList,Array.toList_zipIdx];exact wC off _ us;rw [g3,←hs.1];have hl: ∀(cs:List AV) (off:Nat) (cells:List AV),(H5 off cs cells).length=cells.length:=by
    intro cs
    induction cs with
    |nil=>intro off cells;rfl
    |cons c cs ih=>intro off cells;simp [H5,ih]
   rw [hl,k.1];cases h;cases h
def TM(P:Program)(t:TypeId)(parts:List (Nat×AV)):Option Out:=
 match P.info? t,P.underlying t with
 |some it,some (.struct fields)=>match it.zero,fields.toList.mapM (λf=>(P.info? f.type).map λi=>(f.offset,i.size)) with
  |some z,some places=>match IQ (places[·]?) (z.cells.toList.map .x) parts with
   |some l=>some ([],.agg l,none)
   |none=>none
  |_,_=>none
 |some it,some (.array _ el)=>match it.zero,P.info? el with
  |some z,some ie=>match IQ (λi=>some (i*ie.size,ie.size)) (z.cells.toList.map .x) parts with
   |some l=>some ([],.agg l,none)
   |none=>none
  |_,_=>none
 |_,_=>none
theorem MW{e:UL}{B:Nat}{w:World}{m:H2}{id:Nat}{t:TypeId}{parts:List (Nat×AV)}{vparts:Array (Nat×Value)}{ns:List Prop}{val:AV}{add:Option GO}(h:TM P t parts=some (ns,val,add))
  (hE:UY e B w)(hm:UV e m w)(O:parts.map (·.1)=vparts.toList.map (·.1))(hp:U3 e w (parts.map (·.2)) (vparts.toList.map (·.2))):
  ∃u w',(Instr.build t vparts).run P w= .ok u w'/\LM e B w m id val add u w':=by
 unfold TM at h;split at h;rename_i it fields hit Z;split at h;rename_i z places hz hpl;split at h;rename_i l hl;cases h;obtain ⟨rs,g1,g2,_⟩:=wE parts vparts.toList _ _ l hl (U3.xs e w z.cells.toList) O hp;refine ⟨.agg rs.toArray,w,run_build w t vparts rs.toArray ?_,UK hE hm (Rep.aggL g2)⟩;simp only [Program.built,hit,Z,hz,hpl];simpa using g1;cases h;cases h;rename_i it n el hit Z;split at h;rename_i z ie hz hie;split at h;rename_i l hl;cases h;obtain ⟨rs,g1,g2,_⟩:=wE parts vparts.toList _ _ l hl (U3.xs e w z.cells.toList) O hp;refine ⟨.agg rs.toArray,w,run_build w t vparts rs.toArray ?_,UK hE hm (Rep.aggL g2)⟩;simp only [Program.built,hit,Z,hz,hie];simpa using g1;cases h;cases h;cases h
def AV.idf:AV->Bool
 | .top| .lit _| .x _| .ro _| .lst .. | .roI .. | .mpr .. | .any1=>true
 |_=>false
theorem zN{e:UL}{w:World}{a:AV}{v:Value}(h:Rep e w a v)(k:a.idf=true):Idf a:=by
 cases h with
 |top v=>exact .top
 |lit b=>exact .lit b
 |x v=>exact .x v
 |ro l vs b o h1 h2 h3 h4 h5 h6=>exact .ro l h3
 |lstNil sz f=>exact .lst sz 0 f (λi O=>VJ)
 |lst sz n f b o W g h1 h2 h3 h4 h5 h6 h7 h8 ad had=>exact .lst sz n f h3
 |roI pre n f off b o I=>cases I with|ro _ vs _ _ h1 h2 h3 h4 h5 h6=>exact .roI pre n f off (.ro _ h3)
 |mpr g okf vals b es c h1 h2 h3 h4 h5 h6 h7 h8=>exact .mpr g okf h3
 |any1 v A=>exact .any1
 |_=>simp [AV.idf] at k
theorem Qd4{e:UL}{w:World}{l:List AV}{vs:List Value}(h:U3 e w l vs)(k:l.all AV.idf=true): ∀a∈l,Idf a:=by
 intro a ha;obtain ⟨i,O⟩:=wR.1 ha;obtain ⟨v,A,r⟩:=h.get O;exact zN r (B1.1 k a ha)
def U4(sz:Nat)(l:List AV)(i:Nat):List AV:=(l.drop (i*sz)).take sz
def zH(P:Program)(id:Nat)(t:TypeId)(len:Nat)(parts:List (Nat×AV)):Option Out:=
 match P.underlying t with
 |some (.slice el)=>match P.info? el with
  |some ie=>match ie.zero with
   |some z=>match Nat.ble 1 (len*ie.size)&&Nat.ble (len*ie.size) 16777216&&Nat.ble 1 len with
    |true=>match IQ (λi=>some (i*ie.size,ie.size)) (((List.range (len*ie.size)).map (z.cells[· %z.cells.size]!)).map .x) parts with
     |some l=>match l.all AV.idf with
      |true=>some ([],.row id,some (.row el ie.size len (U4 ie.size l)))
      |false=>none
     |none=>none
    |false=>match Nat.beq len 0 with
     |true=>some ([],.row id,some (.row el ie.size 0 (λ_=>[])))
     |false=>none
   |none=>none
  |none=>none
 |_=>none
theorem vK{e:UL}{B:Nat}{w:World}{m:H2}{id:Nat}{t:TypeId}{len:Nat}{parts:List (Nat×AV)}{vparts:Array (Nat×Value)}{ns:List Prop}{val:AV}{add:Option GO}(h:zH P id t len parts=some (ns,val,add))
  (hE:UY e B w)(hB:B<=w.heap.size)(hm:UV e m w)(hid: ¬e.live id)(O:parts.map (·.1)=vparts.toList.map (·.1))(hp:U3 e w (parts.map (·.2)) (vparts.toList.map (·.2)))(h0:len=0->vparts=#[]):
  ∃u w',(Instr.buildSlice t len vparts).run P w= .ok u w'/\LM e B w m id val add u w':=by
 unfold zH at h;split at h;rename_i el Z;split at h;rename_i ie hie;split at h;rename_i z hz;split at h;rename_i hb;simp only [GU] at hb;obtain ⟨⟨hb1,hb2⟩,hb3⟩:=hb;have hb1:=qR hb1;have hb2:=qR hb2;have hb3:=qR hb3;split at h
 ·rename_i l hl;split at h
  rotate_left
  cases h;rename_i FP;cases h;obtain ⟨rs,g1,g2,g3⟩:=wE parts vparts.toList _ _ l hl (U3.xs e w _) O hp;have HX:rs.length=len*ie.size:=by rw [g3];simp
  have hll:l.length=len*ie.size:=by rw [g2.1,HX]
  have hsz:1<=ie.size:=by
   rcases Nat.eq_zero_or_pos ie.size with h0|h0;rw [h0] at hb1;omega;exact h0
  have hle:len<=len*ie.size:=Nat.le_mul_of_pos_right len hsz;have HZ:=Qd4 g2 FP;have Zp6: ∀i,i<len->(U4 ie.size l i).length=ie.size/\ ∀a∈U4 ie.size l i,Idf a:=by
   intro i hi';refine ⟨?_,λa ha=>HZ a (List.mem_of_mem_drop (List.mem_of_mem_take ha))⟩;have:=BJ ie.size (Az hi');rw [Bq] at this;simp only [U4,List.length_take,List.length_drop,hll];omega
  refine ⟨_,_,run_buildSlice w t el len vparts rs.toArray ie z Z hie hz VJ VJ ?_,?_⟩;rw [←g1];have I:(Array.range (len*ie.size)).map (z.cells[· %z.cells.size]!)=((List.range (len*ie.size)).map (z.cells[· %z.cells.size]!)).toArray:=Array.ext' VT;rw [I];refine IT hE hB hm hid (Am _) (by unfold maxLen;omega) HX Zp6 ?_
  intro i j a v hi' ha A;simp only [U4,List.getElem?_take,List.getElem?_drop] at ha;split at ha;exact g2.2 _ _ _ ha A;cases ha
 cases h;split at h;rename_i hl;have hl':len=0:=GZ hl;subst hl';cases h;cases h0 rfl;refine ⟨_,_,?_,IT (cs:=[]) (c:=0) hE hB hm hid (Am _) (by unfold maxLen;omega) VT (λi O=>VJ) (λi j a v O=>VJ)⟩
 have I:Array.range 0=#[]:=rfl;simp [Instr.buildSlice,run_underlying Z,sizeOf,typeInfo,hie,Instr.fill,newRow,I];cases h;cases h;cases h;cases h
def jV(P:Program)(id:Nat)(t:TypeId)(l c:AV):Option Out:=
 match l,c with
 | .x (.int _ n),.x (.int _ c)=>match P.underlying t with
  |some (.slice el)=>match P.info? el with
   |some ie=>match ie.zero with
    |some z=>match Nat.beq z.cells.size ie.size&&Nat.ble 1 ie.size&&Nat.ble ie.bytes 1000000 with
     |true=>some ([0<=n/\n<=1000000,n=c],.row id,some (.row el ie.size n.toNat (λ_=>z.cells.toList.map .x)))
     |false=>none
    |none=>none
   |none=>none
  |_=>none
 |_,_=>none
theorem uX{e:UL}{B:Nat}{w:World}{m:H2}{id:Nat}{t:TypeId}{l c:AV}{vl vc:Value}{ns:List Prop}{val:AV}{add:Option GO}(h:jV P id t l c=some (ns,val,add))(hn: ∀p∈ns,p)
  (hE:UY e B w)(hB:B<=w.heap.size)(hm:UV e m w)(hid: ¬e.live id)(rl:Rep e w l vl)(rc:Rep e w c vc):
  ∃u w',(Instr.makeSlice t vl vc).run P w= .ok u w'/\LM e B w m id val add u w':=by
 unfold jV at h;split at h;rename_i k n k' c';cases rl.x_inv;cases rc.x_inv;split at h;rename_i el Z;split at h;rename_i ie hie;split at h;rename_i z hz;split at h;rename_i hb;simp only [GU] at hb;obtain ⟨⟨hb1,hb2⟩,hb3⟩:=hb;have hb1:=GZ hb1;have hb2:=qR hb2;have hb3:=qR hb3;cases h;obtain ⟨n0,n1⟩:0<=n/\n<=1000000:=hn _ VT;have hnc:n=c':=hn _ VT;subst hnc;have RH:(ie.bytes:Int)*n<=281474976710656:=by
  have h1:(ie.bytes:Int)*n<=1000000*1000000:=Int.mul_le_mul VJ n1 n0 VJ;omega
 refine ⟨_,_,run_make (P:=P) w t el ie z Z hie hz k k' n n n0 (Int.le_refl _) RH VJ,?_⟩;have hcs:(madeCells z.cells (n.toNat*ie.size))=((madeCells z.cells (n.toNat*ie.size)).toList).toArray:=VT;rw [hcs];refine IT hE hB hm hid (Am _) (by unfold maxLen;omega) (by simp [size_madeCells]) (λi O=>⟨by simp [hb1],λa ha=>?_⟩) ?_
 obtain ⟨v,_,rfl⟩:=List.mem_map.1 ha;exact .x v;intro i j a v O ha A;rw [Bn] at ha;obtain ⟨v0,hv0,rfl⟩:=Option.map_eq_some_iff.1 ha;have hj:j<ie.size:=by
  have:=(FV.1 hv0).1;simp at this;omega
 have hv1:v=z.cells[(i*ie.size+j)%z.cells.size]! :=by
  have hlt:=(FV.1 A).1;have:=(FV.1 A).2;rw [←this];simp [madeCells]
 have hm:(i*ie.size+j)%z.cells.size=j:=by
  rw [hb1,Bp,Nat.mul_add_mod,Nat.mod_eq_of_lt hj]
 rw [hm] at hv1;have:v=v0:=by
  rw [hv1];have h1:z.cells[j]? =some v0:=by simpa using hv0
  rw [getElem!_def,h1]
 rw [this];exact .x _;cases h;cases h;cases h;cases h;cases h
end
section
variable {P:Program}
def loI:Option AV->Option Int
 |none=>some 0
 |some (.x (.int _ i))=>some i
 |_=>none
def hiI(n:Nat):Option AV->Option Int
 |none=>some n
 |some (.x (.int _ i))=>some i
 |_=>none
def TF(P:Program)(t:TypeId)(x:AV)(U O:Option AV):Option Out:=
 match x with
 | .lst sz n f=>match P.underlying t with
  |some (.slice el)=>match P.info? el with
   |some info=>match Nat.beq info.size sz with
    |true=>match loI U,hiI n O with
     |some l,some h=>some ([0<=l/\l<=h/\h<=(n:Int)],.lst sz (h.toNat-l.toNat) (λi=>f (l.toNat+i)),none)
     |_,_=>none
    |false=>none
   |none=>none
  |_=>none
 | .x (.string s)=>match P.underlying t with
  |some .string=>match loI U,hiI s.size O with
   |some l,some h=>some ([0<=l/\l<=h/\h<=(s.size:Int)],.x (.string (s.extract l.toNat h.toNat)),none)
   |_,_=>none
  |_=>none
 | .ro l=>match P.underlying t with
  |some (.array cnt el)=>match P.info? el with
   |some info=>match Nat.beq info.size 1&&Nat.ble cnt l.length&&Nat.ble cnt 100000 with
    |true=>match U,hiI cnt O with
     |none,some h=>some ([0<=h/\h<=(cnt:Int)],.lst 1 h.toNat (λi=>[l.getD i .top]),none)
     |_,_=>none
    |false=>none
   |none=>none
  |_=>none
 |_=>none
def Xp6(e:UL)(w:World):Option AV->Option Value->Prop
 |none,none=>True
 |some a,some v=>Rep e w a v
 |_,_=>False
theorem z9{e:UL}{w:World}(isSlice:Bool)(len W:Nat)(U O:Option AV)(vlo vhi:Option Value)(l h:Int)(hl:loI U=some l)(hh:hiI len O=some h)(rl:Xp6 e w U vlo)(rh:Xp6 e w O vhi)
  (b:0<=l/\l<=h/\h<=(len:Int))(hc:len<=W):(Instr.sliceBounds isSlice len W vlo vhi none).run P w= .ok (l.toNat,h.toNat,W) w:=by
 obtain ⟨b1,b2,b3⟩:=b;have hhi:(match vhi with|some v=>Instr.sliceBound v W (if isSlice then .sliceAcap else .sliceAlen)|none=>pure len:Sem Nat).run P w= .ok h.toNat w:=by
  cases O with
  |none=>
   cases vhi with
   |none=>simp [hiI] at hh;subst hh;simp
   |some v=>exact rh.elim
  |some a=>
   cases vhi with
   |none=>exact rh.elim
   |some v=>
    cases a with
    |x u=>
     cases u<;>simp [hiI] at hh;rename_i k i;subst hh;cases Rep.x_inv rh;simp only [Instr.sliceBound,asIntOf,At,Bv,Au,Sem.run_ite];rw [if_pos VJ]
    |_=>simp [hiI] at hh
 have hlo: ∀hn:Nat,hn=h.toNat->(match vlo with|some v=>Instr.sliceBound v hn .sliceB|none=>pure 0:Sem Nat).run P w= .ok l.toNat w:=by
  intro hn hhn;subst hhn;cases U with
  |none=>
   cases vlo with
   |none=>simp [loI] at hl;subst hl;simp
   |some v=>exact rl.elim
  |some a=>
   cases vlo with
   |none=>exact rl.elim
   |some v=>
    cases a with
    |x u=>
     cases u<;>simp [loI] at hl;rename_i k i;subst hl;cases Rep.x_inv rl;simp only [Instr.sliceBound,asIntOf,At,Bv,Au,Sem.run_ite];rw [if_pos VJ]
    |_=>simp [loI] at hl
 unfold Instr.sliceBounds;cases vhi<;>cases vlo<;>simp at hhi hlo ⊢ <;>simp [hhi,hlo]
theorem MS{e:UL}{B:Nat}{w:World}{m:H2}{id:Nat}{t:TypeId}{x:AV}{U O:Option AV}{v:Value}{vlo vhi:Option Value}{ns:List Prop}{val:AV}{add:Option GO}(h:TF P t x U O=some (ns,val,add))(hn: ∀p∈ns,p)
  (hE:UY e B w)(hm:UV e m w)(rx:Rep e w x v)(rl:Xp6 e w U vlo)(rh:Xp6 e w O vhi): ∃u w',(Instr.sliceAt t v vlo vhi none).run P w= .ok u w'/\LM e B w m id val add u w':=by
 unfold TF at h;split at h;rename_i sz n f;split at h;rename_i el Z;split at h;rename_i info hi';split at h;rename_i hs;have hs':info.size=sz:=GZ hs;subst hs';split at h;rename_i l hh hl hhh;simp only [HE,FF] at h;obtain ⟨rfl,rfl,rfl⟩:=h;have b:=hn _ (PM.2 rfl);cases rx with
 |lstNil sz f=>
  have hb:=z9 (P:=P) true 0 0 U O vlo vhi l hh hl hhh rl rh b (Am _);have hl0:l.toNat=0:=VJ;have hh0:hh.toNat=0:=VJ;refine ⟨.slice none 0 0,w,?_,UK hE hm ?_⟩;simp [Instr.sliceAt,Instr.slice,run_underlying Z,hb,sizeOf,typeInfo,hi',hl0,hh0];rw [hl0,hh0];exact .lstNil _ _
 |lst sz n f bb o W g h1 h2 hid h3 h3' h4 h5 h6 ad had=>
  have hb:=z9 (P:=P) true n W U O vlo vhi l hh hl hhh rl rh b h3;by_cases hz:W=l.toNat;subst hz;refine ⟨.slice (some ad) (hh.toNat-l.toNat) (l.toNat-l.toNat),w,?_,UK hE hm ?_⟩;simp [Instr.sliceAt,Instr.slice,run_underlying Z,hb,sizeOf,typeInfo,hi'];have hz0:hh.toNat-l.toNat=0:=VJ;exact .lst _ _ _ bb o _ (λ_ _=> .nilIface) (λh=>VJ) (λh=>VJ) (λi O=>VJ) VJ VJ (λi j O=>VJ) (λi O=>VJ) (λi j a O=>VJ) ad (λh=>VJ);refine ⟨.slice (some (ad.add (l.toNat*info.size))) (hh.toNat-l.toNat) (W-l.toNat),w,?_,UK hE hm ?_⟩;simp [Instr.sliceAt,Instr.slice,run_underlying Z,hb,sizeOf,typeInfo,hi',hz,DK];refine .lst _ _ _ bb _ _ (λi j=>g (l.toNat+i) j) (λh=>h1 VJ) (λh=>h2 VJ) (λi O=>hid _ VJ) VJ VJ ?_ ?_ ?_ _ (λh=>by rw [had VJ,DK])
  intro i j O hj;have:=h4 (l.toNat+i) j VJ hj;rw [Nat.add_mul] at this;rw [←this]
  congr 2
  omega;exact λi O=>h5 _ VJ;exact λi j a O ha=>h6 _ _ _ VJ ha
 cases h;cases h;cases h;cases h;rename_i s;cases rx.x_inv;split at h;rename_i Z;split at h;rename_i l hh hl hhh;simp only [HE,FF] at h;obtain ⟨rfl,rfl,rfl⟩:=h;have b:=hn _ (PM.2 rfl);have hb:=z9 (P:=P) false s.size s.size U O vlo vhi l hh hl hhh rl rh b (Am _);exact ⟨_,w,by simp [Instr.sliceAt,Instr.slice,run_underlying Z,hb],UK hE hm (.x _)⟩
 cases h;cases h;rename_i l;split at h;rename_i cnt el Z;split at h;rename_i info hi';split at h;rename_i hs;rw [GU,GU] at hs;obtain ⟨⟨hs1,hs2⟩,hs3⟩:=hs;have hs1:info.size=1:=GZ hs1;have hs2:=qR hs2;have hs3:=qR hs3;split at h;rename_i hh hhh;simp only [HE,FF] at h;obtain ⟨rfl,rfl,rfl⟩:=h;have b:=hn _ (PM.2 rfl);cases vlo with
 |some v=>exact rl.elim
 |none=>
  cases rx with
  |ro _ vs bb o I hlt hf HX gQ GK=>
   have hb:=z9 (P:=P) false cnt cnt none O none vhi 0 hh rfl hhh rl rh ⟨Int.le_refl _,b.1,b.2⟩ (Am _);refine ⟨.slice (some (if cnt=0 then ⟨bb,o,none⟩ else (⟨bb,o,none⟩:Addr).add (0*info.size))) (hh.toNat-0) (cnt-0),w,?_,UK hE hm ?_⟩
   simp [Instr.sliceAt,Instr.sureAddr,run_underlying Z,hb,sizeOf,typeInfo,hi'];have ha:(if cnt=0 then (⟨bb,o,none⟩:Addr) else (⟨bb,o,none⟩:Addr).add (0*info.size))=⟨bb,o,none⟩:=by
    split;rfl;simp [Addr.add]
   rw [ha,Nat.sub_zero,Nat.sub_zero];have hg: ∀i,i<hh.toNat-> ∃a v,l[i]? =some a/\vs[i]? =some v/\l.getD i .top=a/\vs.getD i .nilIface=v:=by
    intro i O;have h1:i<l.length:=VJ;have h2:i<vs.length:=VJ;refine ⟨l[i],vs[i],D0 h1,D0 h2,?_,?_⟩;rw [List.getD_eq_getElem?_getD,D0 h1];rfl;rw [List.getD_eq_getElem?_getD,D0 h2];rfl
   refine .lst 1 hh.toNat _ bb o cnt (λi _=>vs.getD i .nilIface) (λ_=>I) (λ_=>hlt) (λi O a ha=>?_) VJ (by unfold maxLen;omega) (λi j O hj=>?_) (λ_ _=>rfl) (λi j a O ha=>?_) _ (λ_=>rfl)
   obtain ⟨a0,v0,g1,g2,g3,g4⟩:=hg i O;rw [PM.1 ha,g3];exact hf _ (F5 g1);obtain ⟨a0,v0,g1,g2,g3,g4⟩:=hg i O;have hj0:j=0:=VJ;subst hj0;have e0:o+(i*1+0)=o+i:=VJ;rw [e0,g4];exact gQ i v0 g2;obtain ⟨a0,v0,g1,g2,g3,g4⟩:=hg i O;cases j with
   |zero=>
    simp only [List.getElem?_cons_zero,HE] at ha;rw [←ha,g3,g4];exact GK i a0 v0 g1 g2
   |succ j=>simp at ha
 cases h;cases h;cases h;cases h;cases h
def Wf3(P:Program)(m:H2)(t:TypeId)(x:AV):Option Out:=
 match P.underlying t with
 |some (.slice _)=>match x with
  | .lst _ n _=>some ([],.x (.int .i64 (n:Int)),none)
  | .row id=>match DG m id with
   |some (.row _ _ n _)=>some ([],.x (.int .i64 (n:Int)),none)
   |_=>none
  | .x (.slice _ n _)=>some ([],.x (.int .i64 (n:Int)),none)
  |_=>none
 |some .string=>match x with
  | .x (.string s)=>some ([],.x (.int .i64 (s.size:Int)),none)
  |_=>none
 |some (.array n _)=>some ([],.x (.int .i64 (n:Int)),none)
 |_=>none
theorem eO{e:UL}{B:Nat}{w:World}{m:H2}{id:Nat}{t ty:TypeId}{x:AV}{v:Value}{ns:List Prop}{val:AV}{add:Option GO}(h:Wf3 P m t x=some (ns,val,add))
  (hE:UY e B w)(hm:UV e m w)(rx:Rep e w x v): ∃u w',(Builtin.len_ #[t] ty #[v]).run P w= .ok u w'/\LM e B w m id val add u w':=by
 unfold Wf3 at h;split at h;rename_i el Z;have key: ∀(a:Option Addr) (n c:Nat),v= .slice a n c->val= .x (.int .i64 (n:Int))->add=none-> ∃u w',(Builtin.len_ #[t] ty #[v]).run P w= .ok u w'/\LM e B w m id val add u w':=by
  rintro a n c rfl rfl rfl;exact ⟨_,w,by simp [Builtin.len_,run_underlying Z,goInt],UK hE hm (.x _)⟩
 split at h;rename_i sz n f;cases h;cases rx with
 |lstNil sz f=>exact key _ _ _ rfl rfl rfl
 |lst sz n f b o W g h1 h2 hid h3 h3' h4 h5 h6 ad had=>exact key _ _ _ rfl rfl rfl
 rename_i k;split at h;rename_i T sz n f hg;cases h;obtain ⟨hlv,H9,hf,xs,hx,GK⟩:=hm _ (UW hg);cases rx with
 |row _ a n' c hl A=>
  rcases hx.2 with ⟨hv0,hn0⟩|⟨g,W,cur,hv0,_,_⟩;rw [A] at hv0;cases hv0;subst hn0;exact key _ _ _ rfl rfl rfl;rw [A] at hv0;cases hv0;exact key _ _ _ rfl rfl rfl
 cases h;rename_i a n c;cases h;cases rx.x_inv;exact key _ _ _ rfl rfl rfl;cases h;rename_i Z;split at h;rename_i s;cases h;cases rx.x_inv;exact ⟨_,w,by simp [Builtin.len_,run_underlying Z,goInt],UK hE hm (.x _)⟩
 cases h;rename_i n el Z;cases h;exact ⟨_,w,by simp [Builtin.len_,run_underlying Z,goInt],UK hE hm (.x _)⟩
 cases h
def uW(isMax:Bool)(acc:Int):List AV->Option Int
 |[]=>some acc
 | .x (.int .i64 b)::r=>uW isMax (match isMax with|true=>max acc b|false=>min acc b) r
 |_=>none
theorem NT{e:UL}{w:World}: ∀(l:List AV) (vs:List Value) (acc r:Int),uW false acc l=some r->U3 e w l vs->(vs.foldlM Builtin.min2 (.int .i64 acc)).run P w= .ok (.int .i64 r) w
 |[],vs,acc,r,h,k=>by cases k.nil_inv;simp [uW] at h;subst h;rfl
 |a::l,vs,acc,r,h,k=>by
  obtain ⟨v,vs',rfl,A,hvs⟩:=k.cons_inv;unfold uW at h;split at h;rename_i kD;cases kD;rename_i b r' heq;cases heq;cases A.x_inv;have hm:(if b<acc then b else acc)=min acc b:=VJ
  simp only [List.foldlM_cons,Builtin.min2,hm,At,Bv,Au];exact NT l vs' _ r h hvs;cases h
theorem NU{e:UL}{w:World}: ∀(l:List AV) (vs:List Value) (acc r:Int),uW true acc l=some r->U3 e w l vs->(vs.foldlM Builtin.max2 (.int .i64 acc)).run P w= .ok (.int .i64 r) w
 |[],vs,acc,r,h,k=>by cases k.nil_inv;simp [uW] at h;subst h;rfl
 |a::l,vs,acc,r,h,k=>by
  obtain ⟨v,vs',rfl,A,hvs⟩:=k.cons_inv;unfold uW at h;split at h;rename_i kD;cases kD;rename_i b r' heq;cases heq;cases A.x_inv;have hm:(if b>acc then b else acc)=max acc b:=VJ
  simp only [List.foldlM_cons,Builtin.max2,hm,At,Bv,Au];exact NU l vs' _ r h hvs;cases h
def dO(P:Program)(m:H2)(b:Builtin)(ts:List TypeId)(args:List AV):Option Out:=
 match b with
 | .len=>match ts,args with
  |[t],[x]=>Wf3 P m t x
  |_,_=>none
 | .min=>match args with
  | .x (.int .i64 a)::r=>match uW false a r with
   |some n=>some ([],.x (.int .i64 n),none)
   |none=>none
  |_=>none
 | .max=>match args with
  | .x (.int .i64 a)::r=>match uW true a r with
   |some n=>some ([],.x (.int .i64 n),none)
   |none=>none
  |_=>none
 |_=>none
theorem rU{e:UL}{B:Nat}{w:World}{m:H2}{id:Nat}{b:Builtin}{ts:Array TypeId}{ty:TypeId}{cs:Array Bool}{args:List AV}{vs:List Value}{ns:List Prop}{val:AV}{add:Option GO}(h:dO P m b ts.toList args=some (ns,val,add))
  (hE:UY e B w)(hm:UV e m w)(r:U3 e w args vs): ∃u w',(builtin b ts ty cs vs.toArray).run P w= .ok (.value u) w'/\LM e B w m id val add u w':=by
 unfold dO at h;split at h;split at h;rename_i t x hts;obtain ⟨v,vs',rfl,A,hvs⟩:=r.cons_inv;cases hvs.nil_inv;obtain ⟨u,w',h1,h2⟩:=eO (P:=P) (ty:=ty) (id:=id) h hE hm A;have hts':ts=#[t]:=Array.ext' (by simpa using hts)
 exact ⟨u,w',by simp [builtin,hts',h1],h2⟩
 cases h;split at h;rename_i a l;split at h;rename_i n hn;cases h;obtain ⟨v,vs',rfl,A,hvs⟩:=r.cons_inv;cases A.x_inv;exact ⟨_,w,by simp [builtin,Builtin.min_,NT (P:=P) l vs' a n hn hvs],UK hE hm (.x _)⟩
 cases h;cases h;split at h;rename_i a l;split at h;rename_i n hn;cases h;obtain ⟨v,vs',rfl,A,hvs⟩:=r.cons_inv;cases A.x_inv;exact ⟨_,w,by simp [builtin,Builtin.max_,NU (P:=P) l vs' a n hn hvs],UK hE hm (.x _)⟩
 cases h;cases h;cases h
end
def Qv6:List AV->Option (List Value)
 |[]=>some []
 | .x v::t=>match Qv6 t with
  |some vs=>some (v::vs)
  |none=>none
 |_=>none
def AT:AV->Option Value
 | .x v=>some v
 | .lit b=>some (.bool b)
 | .agg l=>match Qv6 l with
  |some vs=>some (.agg vs.toArray)
  |none=>none
 |_=>none
theorem bW{e:UL}{w:World}: ∀{l:List AV} {vs us:List Value},Qv6 l=some vs->U3 e w l us->us=vs
 |[],vs,us,h,r=>by
  simp only [Qv6,HE] at h;rw [r.nil_inv,←h]
 |a::l,vs,us,h,r=>by
  obtain ⟨u,us',rfl,Z,r'⟩:=r.cons_inv;unfold Qv6 at h;split at h;rename_i heq;cases heq;rename_i v t heq;cases heq;split at h;rename_i vs' ht;cases h;rw [Z.x_inv,bW ht r'];cases h;cases h
theorem wU{e:UL}{w:World}{a:AV}{v u:Value}(h:AT a=some v)(r:Rep e w a u):u=v:=by
 unfold AT at h;split at h;cases h;exact r.x_inv;cases h;exact r.lit_inv;split at h;rename_i vs hx;cases h;obtain ⟨us,rfl,I⟩:=r.agg_inv;rw [bW hx I];cases h;cases h
def SV(P:Program)(t:TypeId):Bool:=match P.underlying t with
 |some (.interface _)=>false
 |some _=>true
 |none=>false
def SN(P:Program)(t:TypeId):Option Value:=match P.info? t with
 |some i=>i.zero
 |none=>none
def Zr7:Value->AV
 | .agg xs=> .agg (xs.toList.map .x)
 | .bool b=> .lit b
 |v=> .x v
theorem m8(e:UL)(w:World)(v:Value):Rep e w (Zr7 v) v:=by
 cases v with
 |agg xs=>
  have:=U3.xs e w xs.toList;have:=Rep.aggL this;rw [Array.toArray_toList] at this;exact this
 |bool b=>exact .lit b
 |_=>exact .x _
def Wg8(P:Program)(t:TypeId):Option AV:=match SN P t with
 |some z=>some (.tup [Zr7 z,.lit false])
 |none=>none
theorem fZ{P:Program}{t:TypeId}(h:SV P t=true): ∃d,P.underlying t=some d/\ ∀l,d≠ .interface l:=by
 unfold SV at h;split at h;cases h;rename_i d hd Z;exact ⟨d,Z,hd⟩;cases h
theorem Qo3{P:Program}{t:TypeId}{av:AV}(h:Wg8 P t=some av)(e:UL)(w:World): ∃z,(zeroValue t).run P w= .ok z w/\Rep e w av (.tuple #[z,.bool false]):=by
 unfold Wg8 SN at h;split at h;rename_i z hz;split at hz;rename_i i O;cases h;refine ⟨z,by simp [zeroValue,typeInfo,O,hz],?_⟩
 simpa using Rep.tupL (U3.cons (m8 e w z) (U3.cons (.lit false) (U3.nil e w)));cases hz;cases h
section
variable (P:Program)(t:TypeId)
def TK(a:AV):Option Out:=match SV P t with
 |true=>match AT a with
  |some v=>some ([],.x (.iface t v),none)
  |none=>none
 |false=>none
def Qc1:Option Out:=match Wg8 P t with
 |some a=>some ([],a,none)
 |none=>none
def EJ(ok:Bool)(a:AV):Option Out:=match ok with
 |true=>match SV P t with
  |true=>match a with
   | .x (.iface d v)=>match Nat.beq d t with
    |true=>some ([],.tup [Zr7 v,.lit true],none)
    |false=>Qc1 P t
   | .x .nilIface=>Qc1 P t
   |_=>none
  |false=>none
 |false=>none
end
def Wf2(P:Program)(op:BinOp)(t:TypeId)(a:AV):Option Out:=match P.underlying t with
 |some (.interface _)=>match op,a with
  | .eql,.x .nilIface=>some ([],.lit true,none)
  | .neq,.x .nilIface=>some ([],.lit false,none)
  | .eql,.x (.iface _ _)=>some ([],.lit false,none)
  | .neq,.x (.iface _ _)=>some ([],.lit true,none)
  |_,_=>none
 |_=>none
section
variable {P:Program}{e:UL}{B:Nat}{w:World}{m:H2}{id:Nat}{ns:List Prop}{val:AV}{add:Option GO}
theorem MU{t:TypeId}{a:AV}{v:Value}(h:TK P t a=some (ns,val,add))(hE:UY e B w)(hm:UV e m w)(r:Rep e w a v):
  ∃u w',(Instr.makeInterface t v).run P w= .ok u w'/\LM e B w m id val add u w':=by
 unfold TK at h;split at h;rename_i hp;split at h;rename_i v' A;cases h;obtain ⟨d,Z,hd⟩:=fZ hp;have hx:=wU A r;subst hx;refine ⟨.iface t v,w,?_,UK hE hm (.x _)⟩;cases d<;>first|exact absurd rfl (hd _)|simp [Instr.makeInterface,run_underlying Z]
 cases h;cases h
theorem NY{t:TypeId}(h:Qc1 P t=some (ns,val,add))(hE:UY e B w)(hm:UV e m w): ∃z,(zeroValue t).run P w= .ok z w/\LM e B w m id val add (.tuple #[z,.bool false]) w:=by
 unfold Qc1 at h;split at h;rename_i a ha;cases h;obtain ⟨z,hz,GK⟩:=Qo3 ha e w;exact ⟨z,hz,UK hE hm GK⟩;cases h
theorem EI{t xt:TypeId}{ok:Bool}{a:AV}{v:Value}(h:EJ P t ok a=some (ns,val,add))(hE:UY e B w)(hm:UV e m w)(r:Rep e w a v):
  ∃u w',(Instr.typeAssert v xt t ok).run P w= .ok u w'/\LM e B w m id val add u w':=by
 unfold EJ at h;split at h;split at h;rename_i hp;obtain ⟨d,Z,hd⟩:=fZ hp;split at h;rename_i k u;have hx:=r.x_inv;subst hx;split at h;rename_i hk;cases h;have hk':k=t:=GZ hk;subst hk';refine ⟨.tuple #[u,.bool true],w,?_,UK hE hm (Rep.tupL (U3.cons (m8 e w u) (U3.cons (.lit true) (U3.nil e w))))⟩;cases d<;>first|exact absurd rfl (hd _)|simp [Instr.typeAssert,run_underlying Z]
 rename_i hk;have hk':k≠t:=λhe=>by subst he;simp at hk
 obtain ⟨z,hz,hc⟩:=NY (id:=id) h hE hm;refine ⟨.tuple #[z,.bool false],w,?_,hc⟩;cases d<;>first|exact absurd rfl (hd _)|simp [Instr.typeAssert,run_underlying Z,hk',hz]
 have hx:=r.x_inv;subst hx;obtain ⟨z,hz,hc⟩:=NY (id:=id) h hE hm;refine ⟨.tuple #[z,.bool false],w,?_,hc⟩;cases d<;>first|exact absurd rfl (hd _)|simp [Instr.typeAssert,run_underlying Z,hz]
 cases h;cases h;cases h
theorem eM{t:TypeId}{op:BinOp}{ox:Operand}{a:AV}{v:Value}(h:Wf2 P op t a=some (ns,val,add))(hE:UY e B w)(hm:UV e m w)(r:Rep e w a v):
  ∃u w',(do eqGuard op t ox (.const .nilIface) v .nilIface;binOp op t v .nilIface:Sem Value).run P w= .ok u w'/\LM e B w m id val add u w':=by
 unfold Wf2 at h;split at h;rename_i l Z;have e1:(Op.equal t .nilIface .nilIface).run P w= .ok true w:=by
  unfold Op.equal;rw [show Op.maxDepth=(Op.maxDepth-1)+1 by decide]
  simp [Op.equalIn,run_underlying Z]
 have e2: ∀d u,(Op.equal t (.iface d u) .nilIface).run P w= .ok false w:=by
  intro d u;unfold Op.equal;rw [show Op.maxDepth=(Op.maxDepth-1)+1 by decide]
  simp [Op.equalIn,run_underlying Z]
 split at h;cases h;rw [r.x_inv];exact ⟨.bool true,w,by simp [eqGuard,binOp,e1],UK hE hm (.lit true)⟩
 cases h;rw [r.x_inv];exact ⟨.bool false,w,by simp [eqGuard,binOp,e1],UK hE hm (.lit false)⟩
 cases h;rw [r.x_inv];exact ⟨.bool false,w,by simp [eqGuard,binOp,e2],UK hE hm (.lit false)⟩
 cases h;rw [r.x_inv];exact ⟨.bool true,w,by simp [eqGuard,binOp,e2],UK hE hm (.lit true)⟩
 cases h;cases h
end
def Ws8(P:Program)(t:TypeId):Bool:=match P.underlying t with
 |some (.struct _)=>false
 |some (.array _ _)=>false
 |some _=>true
 |none=>false
theorem pY{P:Program}{t:TypeId}(h:Ws8 P t=true){w:World}{cs:Array Value}{off:Nat}{v:Value}(A:cs[off]? =some v):(part t cs off).run P w= .ok v w:=by
 unfold Ws8 at h;cases Z:P.underlying t with
 |none=>rw [Z] at h;cases h
 |some d=>
  rw [Z] at h;cases d<;>first|(cases h;done)|simp [part,isAgg,run_underlying Z,A]
def DI(s:ByteArray)(k:Nat):Int:=match s[k]? with
 |some b=>b.toNat
 |none=>0
def TJ(P:Program)(t:TypeId)(a ix:AV):Option Out:=match ix with
 | .x (.int _ i)=>match P.underlying t with
  |some (.array n el)=>match a with
   | .agg l=>match qL l with
    |some js=>match P.info? el with
     |some info=>match Ws8 P el&&(Nat.beq info.size 1&&Nat.beq js.length n) with
      |true=>some ([0<=i/\i<(n:Int)],.x (.int .i64 (UA js i.toNat)),none)
      |false=>none
     |none=>none
    |none=>none
   |_=>none
  |some .string=>match a with
   | .x (.string s)=>some ([0<=i/\i.toNat<s.size],.x (.int .u8 (DI s i.toNat)),none)
   |_=>none
  |_=>none
 |_=>none
theorem MT{P:Program}{e:UL}{B:Nat}{w:World}{m:H2}{id:Nat}{ns:List Prop}{val:AV}{add:Option GO}{t:TypeId}{a ix:AV}{v vi:Value}(h:TJ P t a ix=some (ns,val,add))(hn: ∀p∈ns,p)(hE:UY e B w)(hm:UV e m w)(ra:Rep e w a v)(ri:Rep e w ix vi):
  ∃u w',(Instr.index t v vi).run P w= .ok u w'/\LM e B w m id val add u w':=by
 unfold TJ at h;split at h;rename_i k i;cases ri.x_inv;split at h;rename_i n el Z;split at h;rename_i l;split at h;rename_i js hjs;split at h;rename_i info O;split at h;rename_i hb;simp only [GU] at hb;obtain ⟨hf,h1,h2⟩:=hb;have h1:=GZ h1;have h2:=GZ h2;simp only [HE,FF] at h;obtain ⟨rfl,rfl,rfl⟩:=h;have hb:0<=i/\i<(n:Int):=hn _ VT;obtain ⟨vs,rfl,I⟩:=ra.agg_inv;have hlt:i.toNat<js.length:=VJ;have hl:l[i.toNat]? =some (.x (.int .i64 (UA js i.toNat))):=by
  rw [dV hjs];simp [HP,List.getElem?_range hlt]
 obtain ⟨u,hu',GK⟩:=I.get hl;refine ⟨u,w,?_,UK hE hm GK⟩;have hp:=pY (w:=w) hf (cs:=vs.toArray) (off:=i.toNat) (v:=u) (by simpa using hu')
 simp [Instr.index,asIntOf,run_underlying Z,if_pos hb,sizeOf,typeInfo,O,h1,hp];cases h;cases h;cases h;cases h;rename_i Z;split at h;rename_i s;simp only [HE,FF] at h;obtain ⟨rfl,rfl,rfl⟩:=h;have hb:0<=i/\i.toNat<s.size:=hn _ VT;cases ra.x_inv;have hg:s[i.toNat]? =some s[i.toNat]:=getElem?_pos s i.toNat hb.2;refine ⟨.int .u8 (DI s i.toNat),w,?_,UK hE hm (.x _)⟩;simp [Instr.index,asIntOf,run_underlying Z,if_pos hb.1,DI,hg];cases h;cases h;cases h
def DA(m:H2):Nat->AV->AV
 | 0,a=>match a with
  | .lit b=> .lit b
  | .x v=> .x v
  | .ro l=> .ro l
  | .lst a b c=> .lst a b c
  | .roI a b c d=> .roI a b c d
  |_=> .top
 |d+1,a=>match a with
  | .ptr id off=>match DG m id with
   |some (.cells _ l)=>match Nat.ble off l.length with
    |true=> .ro ((l.drop off).map (DA m d))
    |false=> .top
   |some (.ints _ pre n f)=> .roI (pre.map (DA m d)) n f off
   |some (.keep _ l)=> .ro ((l.drop off).map (DA m d))
   |_=> .top
  | .row id=>match DG m id with
   |some (.row _ sz n f)=> .lst sz n f
   |_=> .top
  | .agg l=> .agg (l.map (DA m d))
  | .tup l=> .tup (l.map (DA m d))
  | .fn f l l'=> .fn f (l.map (DA m d)) (l'.map (DA m d))
  | .elt _ _ _ _=> .top
  | .mp _=> .top
  |a=>a
def UL.view(e:UL):UL:={e with ro:=λb=>e.ro b\/ ∃id,e.own b=some id,own:=λ_=>none}
theorem Step.view{e:UL}(w:World):Step e e.view w w:=⟨λ_ _ h=>⟨.inl h,rfl⟩,λ_ h=>⟨h,rfl,rfl⟩,Am _⟩
theorem U3.map{e e':UL}{w:World}{l:List AV}{vs:List Value}(g:AV->AV)(hg: ∀a v,Rep e w a v->Rep e' w (g a) v)(h:U3 e w l vs):U3 e' w (l.map g) vs:=by
 refine ⟨by simp [h.1],λi a v ha A=>?_⟩
 rw [Bn,Ay] at ha;obtain ⟨a',ha',rfl⟩:=ha;exact hg _ _ (h.2 i a' v ha' A)
theorem DU{g:AV->AV}{e:UL}{w:World}(hg: ∀a v,Rep e w a v->Idf (g a)){l:List AV}{vs:List Value}(h:U3 e w l vs): ∀a∈l.map g,Idf a:=by
 intro a ha;obtain ⟨b,hb,rfl⟩:=List.mem_map.1 ha;obtain ⟨i,O⟩:=wR.1 hb;obtain ⟨v,A,r⟩:=h.get O;exact hg b v r
theorem AQ(m:H2)(d:Nat)(pre:List AV)(n:Nat)(f:Cg):(pre++HP n f).map (DA m d)=pre.map (DA m d)++HP n f:=by
 rw [List.map_append]
 congr 1
 unfold HP;rw [List.map_map]
 congr 1
 funext k;cases d<;>rfl
theorem RK{e:UL}{w:World}{m:H2}(hm:UV e m w): ∀(d:Nat) (a:AV) (v:Value),Rep e w a v->Idf (DA m d a)
 | 0,a,v,h=>by
  cases h with
  |lit b=>exact .lit b
  |x v=>exact .x v
  |ro l vs b o h1 h2 h3 h4 h5 h6=>exact .ro l h3
  |lstNil sz f=>exact .lst sz 0 f (λi O=>VJ)
  |lst sz n f b o W g h1 h2 h3 h4 h5 h6 h7 h8 ad had=>exact .lst sz n f h3
  |roI pre n f off b o I=>cases I with|ro _ vs _ _ h1 h2 h3 h4 h5 h6=>exact .roI pre n f off (.ro _ h3)
  |_=>exact .top
 |d+1,a,v,h=>by
  have ih:=RK hm d;cases h with
  |top v=>exact .top
  |lit b=>exact .lit b
  |x v=>exact .x v
  |agg l vs h1 h2=>exact .agg _ (DU ih (⟨h1,h2⟩:U3 e w l vs))
  |tup l vs h1 h2=>exact .tup _ (DU ih (⟨h1,h2⟩:U3 e w l vs))
  |fn f l l' vs vs' h1 h2 h3 h4=>exact .fn f _ _ (DU ih (⟨h1,h2⟩:U3 e w l vs)) (DU ih (⟨h3,h4⟩:U3 e w l' vs'))
  |ptr id off hl=>
   simp only [DA];split;rename_i T l hg;split;obtain ⟨_,H9,vs,h3,h4⟩:=hm _ (UW hg);exact .ro _ (DU ih (h4.drop off));exact .top;rename_i T pre n f hg;obtain ⟨_,H9,vs,h3,h4⟩:=hm _ (UW hg);have:=DU ih h4;rw [AQ] at this;exact .roI _ n f off (.ro _ this);rename_i T l hg;obtain ⟨_,_,_,vs,h3,h4⟩:=hm _ (UW hg);exact .ro _ (DU ih (h4.drop off));exact .top
  |row id a n c hl A=>
   simp only [DA];split;rename_i T sz n' f hg;obtain ⟨_,H9,hf,_⟩:=hm _ (UW hg);exact .lst sz n' f (λi O=>(hf i O).2);exact .top
  |elt id sz i j b n W hl A=>exact .top
  |mp id hl=>exact .top
  |mpr g okf vals b es c h1 h2 h3 h4 h5 h6 h7 h8=>exact .mpr g okf h3
  |any1 v A=>exact .any1
  |roI pre n f off b o I=>cases I with|ro _ vs _ _ h1 h2 h3 h4 h5 h6=>exact .roI pre n f off (.ro _ h3)
  |ro l vs b o h1 h2 h3 h4 h5 h6=>exact .ro l h3
  |lstNil sz f=>exact .lst sz 0 f (λi O=>VJ)
  |lst sz n f b o W g h1 h2 h3 h4 h5 h6 h7 h8 ad had=>exact .lst sz n f h3
theorem LA{e:UL}{B:Nat}{w:World}{m:H2}(hE:UY e B w)(hm:UV e m w): ∀(d:Nat) (a:AV) (v:Value),Rep e w a v->Rep e.view w (DA m d a) v
 | 0,a,v,h=>by
  have:=h.step (Step.view w);cases a<;>first|exact this|exact .top v
 |d+1,a,v,h=>by
  have ih:=LA hE hm d;have ihf:=RK hm d;cases h with
  |top v=>exact .top v
  |lit b=>exact .lit b
  |x v=>exact .x v
  |agg l vs h1 h2=>exact Rep.aggL (U3.map _ ih ⟨h1,h2⟩)
  |tup l vs h1 h2=>exact Rep.tupL (U3.map _ ih ⟨h1,h2⟩)
  |fn f l l' vs vs' h1 h2 h3 h4=>
   have k1:U3 e w l vs:=⟨h1,h2⟩;have k2:U3 e w l' vs':=⟨h3,h4⟩;exact .fn f _ _ vs vs' (U3.map _ ih k1).1 (U3.map _ ih k1).2 (U3.map _ ih k2).1 (U3.map _ ih k2).2
  |ptr id off hl=>
   simp only [DA];split;rename_i T l hg;split;obtain ⟨_,H9,vs,h3,h4⟩:=hm _ (UW hg);have hlt:=(hE.owned _ _ H9).2;have k:=U3.map (DA m d) ih (h4.drop off);refine .ro _ (vs.drop off) (e.blk id) off (.inr ⟨_,H9⟩) hlt (DU ihf (h4.drop off)) k.1 ?_ k.2;intro j v hj;rw [List.getElem?_drop] at hj;simp [World.cell?,h3,hj];exact .top _;rename_i T pre n f hg;obtain ⟨_,H9,vs,h3,h4⟩:=hm _ (UW hg);have hlt:=(hE.owned _ _ H9).2;have k:=U3.map (DA m d) ih h4;have kf:=DU ihf h4;rw [AQ] at k kf;have hc: ∀(j:Nat) (v:Value),vs[j]? =some v->w.cell? ⟨e.blk id,0+j,none⟩=some v:=by
    intro j v hj;simp [World.cell?,h3,hj]
   have:=Rep.roI (e:=e.view) (w:=w) (pre.map (DA m d)) n f off (e.blk id) 0 (.ro _ vs _ 0 (.inr ⟨_,H9⟩) hlt kf k.1 hc k.2)
   rwa [Ap] at this
   rename_i T l hg;obtain ⟨_,hro,hlt,vs,h3,h4⟩:=hm _ (UW hg);have k:=U3.map (DA m d) ih (h4.drop off);refine .ro _ (vs.drop off) (e.blk id) off (.inl hro) hlt (DU ihf (h4.drop off)) k.1 ?_ k.2;intro j v hj;rw [List.getElem?_drop] at hj;simp [World.cell?,h3,hj];exact .top _
  |row id a n c hl A=>
   simp only [DA];split;rename_i T sz n' f hg;obtain ⟨_,H9,hf,xs,hx,GK⟩:=hm _ (UW hg);rcases hx.2 with ⟨hv0,hn0⟩|⟨g,W,cur,hv0,_,hgg,hnc,hcm,hcs,kC⟩;rw [A] at hv0;cases hv0;subst hn0;exact .lstNil _ _;have hob:e.own g=some id:=H9 g (by rw [hv0];rfl)
   have hlt:=(hE.owned _ _ hob).2;rw [A] at hv0;cases hv0;refine Rep.lst (e:=e.view) (w:=w) sz _ _ g 0 _ (λi j=>xs.getD (i*sz+j) .nilIface) (λ_=> .inr ⟨_,hob⟩) (λ_=>hlt) (λi O=>(hf i O).2) hnc hcm ?_ (λi O=>(hf i O).1) ?_ _ (λ_=>rfl);intro i j O hj;have hle:i*sz+sz<=n*sz:=by
    have:=BJ sz (Az O)
    rwa [Bq] at this
   have kE:i*sz+j<xs.length:=by rw [hx.1];omega
   have hc:=hx.cells (g:=g) (by rw [A];rfl) (i*sz+j) xs[i*sz+j] (D0 kE)
   rw [DK] at hc;rw [hc];simp [List.getD,D0 kE];intro i j a ha' ha;have hj:j<sz:=by rw [←(hf i ha').1];exact (FV.1 ha).1
   have hle:i*sz+sz<=n*sz:=by
    have:=BJ sz (Az ha')
    rwa [Bq] at this
   have kE:i*sz+j<xs.length:=by rw [hx.1];omega
   have:=GK i j a xs[i*sz+j] ha' ha (D0 kE);simp only [List.getD,D0 kE,GS];exact this.step (Step.view w);exact .top _
  |elt id sz i j b n W hl A=>exact .top _
  |mp id hl=>exact .top _
  |mpr g okf vals b es c h1 h2 h3 h4 h5 h6 h7 h8=>exact (Rep.mpr (e:=e) (w:=w) g okf vals b es c h1 h2 h3 h4 h5 h6 h7 h8).step (Step.view w)
  |any1 v A=>exact .any1 v A
  |roI pre n f off b o I=>exact (Rep.roI (e:=e) (w:=w) pre n f off b o I).step (Step.view w)
  |ro l vs b o h1 h2 h3 h4 h5 h6=>exact (Rep.ro (e:=e) (w:=w) l vs b o h1 h2 h3 h4 h5 h6).step (Step.view w)
  |lstNil sz f=>exact .lstNil sz f
  |lst sz n f b o W g h1 h2 h3 h4 h5 h6 h7 h8 ad had=>exact (Rep.lst (e:=e) (w:=w) sz n f b o W g h1 h2 h3 h4 h5 h6 h7 h8 ad had).step (Step.view w)
def PE(w w':World):UL:={ro:=λb=>w.heap.size<=b/\b<w'.heap.size,own:=λ_=>none,live:=λ_=>False,blk:=λ_=>0,val:=λ_=> .nilIface}
section
variable (P:Program)(f:FuncId)
def VX(avs:List AV)(res:AV):Prop:=
 ∀(e:UL) (w:World) (args:List Value),(∀b,e.ro b->b<w.heap.size)->DH e w->(∀a∈avs,Idf a)->U3 e w avs args->
  Calls P f args.toArray w λen w'=> ∃v,en= .returned v/\Below w.heap.size w w'/\Rep (PE w w') w' res v
abbrev Spec:=List AV->Option (List Prop×AV)
def Enters:Prop:= ∃fn,P.funcs[f]? =some fn/\(fn.name== "runtime.NumGoroutine")=false/\fn.body.isNone=false
def VP(s:Spec):Prop:=Enters P f/\ ∀avs ns res,s avs=some (ns,res)->(∀p∈ns,p)->VX P f avs res
end
def VK(P:Program)(G:List (Nat×Spec)):Prop:= ∀p∈G,VP P p.1 p.2
theorem VK.nil(P:Program):VK P []:=λ_ h=>by cases h
theorem VK.cons{P:Program}{f:Nat}{s:Spec}{G:List (Nat×Spec)}(h:VP P f s)(k:VK P G):VK P ((f,s)::G):=by
 intro p hp;rcases GM.1 hp with rfl|hp;exact h;exact k p hp
def pW:List (Nat×Spec)->Nat->Option Spec
 |[],_=>none
 |(k,s)::t,f=>match Nat.beq k f with
  |true=>some s
  |false=>pW t f
theorem lE{G:List (Nat×Spec)}{f:Nat}{s:Spec}(h:pW G f=some s):(f,s)∈G:=by
 induction G with
 |nil=>simp [pW] at h
 |cons p t ih=>
  obtain ⟨k,r'⟩:=p;unfold pW at h;split at h;rename_i hk;have:k=f:=GZ hk;subst this;cases h;exact GD;exact HL _ (ih h)
theorem LE{P:Program}{f:FuncId}(h:Enters P f)(args:Array Value)(w:World):(callFunc f args).run P w= .ok (.enter f args) w:=by
 obtain ⟨fn,h1,h2,h3⟩:=h;have h2':fn.name≠ "runtime.NumGoroutine":=by simpa using h2
 have h3':fn.body≠none:=by intro h;rw [h] at h3;cases h3
 simp [callFunc,h1,h2',h3']
def UL.more(e:UL)(w w':World):UL:={e with ro:=λb=>e.ro b\/(w.heap.size<=b/\b<w'.heap.size) }
theorem OU{e:UL}{B:Nat}{w w':World}{m:H2}{id:Nat}{res:AV}{v:Value}(hE:UY e B w)(hm:UV e m w)(hb:Below w.heap.size w w')(r:Rep (PE w w') w' res v):LM e B w m id res none v w':=by
 have st:Step e (e.more w w') w w':=⟨λb hlt I=>⟨.inl I,hb.block b hlt⟩,λ_ h=>⟨h,rfl,rfl⟩,hb.size⟩;refine ⟨e.more w w',hb,st,⟨?_,?_,hE.glob.step st⟩,λ_ _ h=>h,?_,hm.ext hb st (λ_ _ h=>h),λ_ h=> .inl h,λ_ h=>h.imp (λh=>h) (λh=>h.1)⟩;rintro b (I|⟨h1,h2⟩);have:=hE.apart b I;have:=hb.size;exact ⟨(hE.apart b I).1,VJ⟩;refine ⟨?_,h2⟩;cases ho:(e.more w w').own b with
 |none=>rfl
 |some k=>have:=(hE.owned b k ho).2;omega
 intro b k hk;have:=hE.owned b k hk;have:=hb.size;exact ⟨(hE.owned b k hk).1,VJ⟩;have st2:Step (PE w w') (e.more w w') w' w':=⟨λb _ h=>⟨Or.inr h,rfl⟩,λ_ h=>False.elim h,Am _⟩;exact r.step st2
def Wf4(G:List (Nat×Spec))(m:H2)(f:AV)(args:List AV):Option Out:=
 match f with
 | .fn (.func g) first caps=>match pW G g with
  |some s=>match s ((first++args++caps).map (DA m 40)) with
   |some (ns,r)=>some (ns,r,none)
   |none=>none
  |none=>none
 |_=>none
def TH(P:Program)(t:TypeId)(ok:Bool)(x k:AV):Option Out:=match ok with
 |true=>match x with
  | .mpr g okf=>match k with
   | .x (.string s)=>match P.underlying t with
    |some (.map kt et)=>match P.underlying kt with
     |some .string=>match SN P et with
      |some (.agg z)=>match Nat.beq z.size (g s).length&&z.toList.all Value.oneCell' with
       |true=>some ([],.tup [.agg (g s),.x (.bool (okf s))],none)
       |false=>none
      |_=>none
     |_=>none
    |_=>none
   |_=>none
  |_=>none
 |false=>none
theorem rB{P:Program}{e:UL}{w:World}{t:TypeId}{ok:Bool}{x k:AV}{vx vk:Value}{ns:List Prop}{val:AV}{add:Option GO}(h:TH P t ok x k=some (ns,val,add))
  (rx:Rep e w x vx)(rk:Rep e w k vk):add=none/\ ∃u,(Instr.lookup t vx vk ok).run P w= .ok u w/\Rep e w val u:=by
 unfold TH at h;split at h;split at h;rename_i g okf;split at h;rename_i s;cases rk.x_inv;split at h;rename_i kt et h1;split at h;rename_i h2;split at h;rename_i z hz;split at h;rename_i hb;simp only [HE,FF] at h;obtain ⟨rfl,rfl,rfl⟩:=h;simp only [GU] at hb;have HX:=GZ hb.1;have Ji4:(zeroValue et).run P w= .ok (.agg z) w:=by
  unfold SN at hz;split at hz;rename_i it O;simp [zeroValue,typeInfo,O,hz];cases hz
 cases rx with
 |mpr _ _ vals b es c g1 g2 g3 g4 g5 g6 g7 g8=>
  have hck:(Instr.checkKey es.isEmpty 10000 kt (.string s)).run P w= .ok () w:=by
   unfold Instr.checkKey;simp [run_underlying h2]
  cases ho:okf s with
  |true=>
   obtain ⟨j,hj⟩:=g5 s ho;refine ⟨rfl,.tuple #[.agg (vals s).toArray,.bool true],?_,Rep.tupL (U3.cons (Rep.aggL ⟨g7 s ho,λi a v ha A=>g8 s i a v ho ha A⟩) (U3.one (.x _)))⟩;simp [Instr.lookup,run_underlying h1,MapKept.run_getObj_map g4,hck,Instr.findKey,run_underlying h2,hj,Result.andThen]
  |false=>
   obtain ⟨hj,ht⟩:=g6 s ho;refine ⟨rfl,.tuple #[.agg z,.bool false],?_,Rep.tupL (U3.cons ?_ (U3.one (.x _)))⟩;simp [Instr.lookup,run_underlying h1,MapKept.run_getObj_map g4,hck,Instr.findKey,run_underlying h2,hj,Ji4,Result.andThen];have hza:z=z.toList.toArray:=VT;rw [hza];refine Rep.aggL ⟨by simp [←HX],λi a v ha A=>?_⟩
   rcases ht a (F5 ha) with rfl|rfl;exact .top v;exact .any1 v (B1.1 hb.2 v (F5 A))
 cases h;cases h;cases h;cases h;cases h;cases h;cases h
theorem TG{P:Program}{e:UL}{B:Nat}{w:World}{m:H2}{id:Nat}{t:TypeId}{ok:Bool}{x k:AV}{vx vk:Value}{ns:List Prop}{val:AV}{add:Option GO}(h:TH P t ok x k=some (ns,val,add))(hE:UY e B w)(hm:UV e m w)
  (rx:Rep e w x vx)(rk:Rep e w k vk): ∃u w',(Instr.lookup t vx vk ok).run P w= .ok u w'/\LM e B w m id val add u w':=by
 obtain ⟨rfl,u,h1,h2⟩:=rB h rx rk;exact ⟨u,w,h1,UK hE hm h2⟩
def aop(P:Program)(G:List (Nat×Spec))(id:Nat)(m:H2)(ρ:Operand->AV)(op:Op):Option Out:=
 match op with
 | .move x=>some ([],ρ x,none)
 | .assign x=>some ([],ρ x,none)
 | .pick c a b=>match ρ c with
  | .lit true=>some ([],ρ a,none)
  | .lit false=>some ([],ρ b,none)
  |_=>none
 | .alloc t=>match P.info? t with
  |some i=>match i.zero with
   |some z=>some ([],.ptr id 0,some (IY true t (z.cells.toList.map .x)))
   |none=>none
  |none=>none
 | .box t x=>match (ρ x).cellsOf with
  |some l=>some ([],.ptr id 0,some (IY false t l))
  |none=>none
 | .build t parts=>TM P t (parts.toList.map λp=>(p.1,ρ p.2))
 | .buildSlice t len parts=>match Nat.beq len 0&& !parts.toList.isEmpty with
  |true=>none
  |false=>zH P id t len (parts.toList.map λp=>(p.1,ρ p.2))
 | .load t x=>BI P m t (ρ x)
 | .nilCheck x=>match ρ x with
  | .ptr i o=>some ([],.ptr i o,none)
  | .ro l=>some ([],.ro l,none)
  | .elt a b c d=>some ([],.elt a b c d,none)
  | .roI a b c d=>some ([],.roI a b c d,none)
  | .fn (.func f) l l'=>some ([],.fn (.func f) l l',none)
  |_=>none
 | .binOp op t x y _=>match y with
  | .const .nilIface=>Wf2 P op t (ρ x)
  |_=>Wf5 P op t (ρ x) (ρ y)
 | .makeInterface t x=>TK P t (ρ x)
 | .typeAssert x _ t ok=>EJ P t ok (ρ x)
 | .unOp op _ x=>Zl6 op (ρ x)
 | .convert s d x=>oP P s d (ρ x)
 | .makeFunc fn first caps=>some ([],.fn fn (first.toList.map ρ) (caps.toList.map ρ),none)
 | .slice t x U O mx=>match mx with
  |none=>TF P t (ρ x) (U.map ρ) (O.map ρ)
  |some _=>none
 | .fieldAddr t x k=>w6 P t k (ρ x)
 | .field t x k=>AA P t k (ρ x)
 | .indexAddr t x i=>jX P m t (ρ x) (ρ i)
 | .index t x i=>TJ P t (ρ x) (ρ i)
 | .makeSlice t l c=>jV P id t (ρ l) (ρ c)
 | .lookup t x k ok=>TH P t ok (ρ x) (ρ k)
 | .extract x i=>match ρ x with
  | .tup l=>yR l[i]?
  |_=>none
 | .makeMap _ r=>match r with
  |none=>some ([],.mp id,some (.memo (λ_=>False) (λv=>v)))
  |some _=>none
 | .call c=>match c.callee with
  | .builtin b=>dO P m b c.argTypes.toList (c.args.toList.map ρ)
  | .value f=>Wf4 G m (ρ f) (c.args.toList.map ρ)
  |_=>none
 |_=>none
theorem Rep.ptr_inv{e:UL}{w:World}{i o:Nat}{v:Value}(h:Rep e w (.ptr i o) v): ∃ad,v= .pointer (some ad):=by cases h;exact ⟨_,rfl⟩
theorem Rep.ro_inv{e:UL}{w:World}{l:List AV}{v:Value}(h:Rep e w (.ro l) v): ∃ad,v= .pointer (some ad):=by cases h;exact ⟨_,rfl⟩
theorem Rep.roI_inv{e:UL}{w:World}{p:List AV}{i o:Nat}{f:Cg}{v:Value}(h:Rep e w (.roI p i f o) v): ∃ad,v= .pointer (some ad):=by cases h;exact ⟨_,rfl⟩
theorem Rep.elt_inv{e:UL}{w:World}{i o p q:Nat}{v:Value}(h:Rep e w (.elt i o p q) v): ∃ad,v= .pointer (some ad):=by cases h;exact ⟨_,rfl⟩
theorem D4{P:Program}{o:Oper}{a:Act}{w w':World}{v:Value}{K:Act->World->Prop}{Q:Exit->Act->World->Prop}(h:(execOp a.eval o).run P w= .ok (.value v) w')(k:K (a.put o.dst v) w'):o.wp P a w K Q:=by
 unfold Oper.wp;rw [h];exact k
theorem U3.ops{e:UL}{w:World}{ρ:Operand->AV}{a:Act}(I: ∀x,Rep e w (ρ x) (a.eval x)): ∀l:List Operand,U3 e w (l.map ρ) (l.map a.eval)
 |[]=>U3.nil e w
 |x::l=>U3.cons (I x) (U3.ops I l)
theorem NS{e:UL}{w:World}{ρ:Operand->AV}{a:Act}(I: ∀x,Rep e w (ρ x) (a.eval x))(ps:Array (Nat×Operand)):
  (ps.toList.map λp=>(p.1,ρ p.2)).map (·.1)=(ps.map λ(i,x)=>(i,a.eval x)).toList.map (·.1)/\
  U3 e w ((ps.toList.map λp=>(p.1,ρ p.2)).map (·.2)) ((ps.map λ(i,x)=>(i,a.eval x)).toList.map (·.2)):=by
 refine ⟨VT,?_⟩;have:=U3.ops I (ps.toList.map (·.2));simpa [List.map_map,Function.comp_def] using this
theorem S3{P:Program}{G:List (Nat×Spec)}(hG:VK P G){e:UL}{B:Nat}{w:World}{m:H2}{id:Nat}{ρ:Operand->AV}{o:Oper}{a:Act}{ns:List Prop}{val:AV}{add:Option GO}
  (h:aop P G id m ρ o.op=some (ns,val,add))(hn: ∀p∈ns,p)(hE:UY e B w)(hB:B<=w.heap.size)(hm:UV e m w)(hid: ¬e.live id)(I: ∀x,Rep e w (ρ x) (a.eval x))
  {K:Act->World->Prop}{Q:Exit->Act->World->Prop}(hK: ∀v w',LM e B w m id val add v w'->K (a.put o.dst v) w'):o.wp P a w K Q:=by
 obtain ⟨dst,op,type,pos,after,guard⟩:=o;have val1: ∀(s:Sem Value),execOp a.eval ⟨dst,op,type,pos,after,guard⟩=(do pure (.value (←s)))->(∃u w',s.run P w= .ok u w'/\LM e B w m id val add u w')->Oper.wp P ⟨dst,op,type,pos,after,guard⟩ a w K Q:=by
  rintro s hs ⟨u,w',h1,h2⟩;exact D4 (v:=u) (w':=w') (by rw [hs];simp [h1]) (hK u w' h2)
 cases op<;>try (simp [aop] at h;done)
 case move x=>
  simp only [aop,HE,FF] at h;obtain ⟨rfl,rfl,rfl⟩:=h;exact D4 (v:=a.eval x) (w':=w) (by simp [execOp]) (hK _ _ (UK hE hm (I x)))
 case assign x=>
  simp only [aop,HE,FF] at h;obtain ⟨rfl,rfl,rfl⟩:=h;exact D4 (v:=a.eval x) (w':=w) (by simp [execOp]) (hK _ _ (UK hE hm (I x)))
 case pick c x y=>
  simp only [aop] at h;have hc:=I c;split at h;rename_i heq;rw [heq] at hc;cases h;exact D4 (v:=a.eval x) (w':=w) (by simp [execOp,hc.lit_inv,asBool]) (hK _ _ (UK hE hm (I x)))
  rename_i heq;rw [heq] at hc;cases h;exact D4 (v:=a.eval y) (w':=w) (by simp [execOp,hc.lit_inv,asBool]) (hK _ _ (UK hE hm (I y)))
  cases h
 case alloc t=>
  simp only [aop] at h;split at h;rename_i i O;split at h;rename_i z hz;cases h;have hcm:=lW (e:=e) (B:=B) (w:=w) (m:=m) (id:=id) (T:=t) hE hB hm hid (U3.xs e w z.cells.toList);exact D4 (by simp [execOp,Instr.alloc,zeroValue,typeInfo,O,hz,newVar,newRow];exact ⟨rfl,rfl⟩) (hK _ _ (lX (by simpa using hcm)))
  cases h;cases h
 case box t x=>
  simp only [aop] at h;split at h;rename_i l hl;cases h;have hcm:=lW (e:=e) (B:=B) (w:=w) (m:=m) (id:=id) (T:=t) hE hB hm hid (wG hl (I x));exact D4 (by simp [execOp,Instr.box,newVar,newRow];exact ⟨rfl,rfl⟩) (hK _ _ (lX (by simpa using hcm)))
  cases h
 case build t parts=>
  simp only [aop] at h;obtain ⟨h1,h2⟩:=NS I parts;exact val1 _ rfl (MW (P:=P) h hE hm h1 h2)
 case buildSlice t len parts=>
  simp only [aop] at h;split at h;cases h;rename_i hc;obtain ⟨h1,h2⟩:=NS I parts;refine val1 _ rfl (vK (P:=P) h hE hB hm hid h1 h2 ?_);rintro rfl;have:parts=#[]:=by simpa using hc
  subst this;simp
 case load t x=>exact val1 _ rfl (TI (P:=P) (by simpa only [aop] using h) hn hE hm (I x))
 case nilCheck x=>
  simp only [aop] at h;have hx:=I x;have fin:val=ρ x->add=none->(∃ad,a.eval x= .pointer (some ad))\/(∃f l l',a.eval x= .func (.func f) l l')->Oper.wp P ⟨dst,.nilCheck x,type,pos,after,guard⟩ a w K Q:=by
   rintro rfl rfl A;refine D4 (v:=a.eval x) (w':=w) ?_ (hK _ _ (UK hE hm (I x)));rcases A with ⟨ad,A⟩|⟨f,l,l',A⟩<;>simp [execOp,A]
  split at h;rename_i heq;rw [heq] at hx;cases h;exact fin heq.symm rfl (.inl hx.ptr_inv);rename_i heq;rw [heq] at hx;cases h;exact fin heq.symm rfl (.inl hx.ro_inv);rename_i heq;rw [heq] at hx;cases h;exact fin heq.symm rfl (.inl hx.elt_inv);rename_i heq;rw [heq] at hx;cases h;exact fin heq.symm rfl (.inl hx.roI_inv);rename_i heq;rw [heq] at hx;cases h;obtain ⟨vs,vs',A,_⟩:=hx.fn_inv;exact fin heq.symm rfl (.inr ⟨_,_,_,A⟩);cases h
 case binOp op t x y t'=>
  simp only [aop] at h;split at h;exact val1 _ rfl (eM (P:=P) h hE hm (I x));exact val1 _ rfl (eR (P:=P) h hn hE hm (I x) (I y))
 case index t x i=>exact val1 _ rfl (MT (P:=P) (by simpa only [aop] using h) hn hE hm (I x) (I i))
 case makeInterface t x=>exact val1 _ rfl (MU (P:=P) (by simpa only [aop] using h) hE hm (I x))
 case lookup t x k ok=>exact val1 _ rfl (TG (P:=P) (by simpa only [aop] using h) hE hm (I x) (I k))
 case typeAssert x xt t ok=>exact val1 _ rfl (EI (P:=P) (by simpa only [aop] using h) hE hm (I x))
 case unOp op t x=>exact val1 _ rfl (oO (P:=P) (by simpa only [aop] using h) hn hE hm (I x))
 case convert s d x=>exact val1 _ rfl (TL (P:=P) (by simpa only [aop] using h) hn hE hB hm (I x))
 case makeMap t r=>
  cases r with
  |some r=>simp [aop] at h
  |none=>
   simp only [aop,HE,FF] at h;obtain ⟨rfl,rfl,rfl⟩:=h;refine D4 (v:= .map (some w.heap.size)) (w':=w.alloc (.map #[] 0)) ?_ (hK _ _ (Wv2 hE hB hm hid));simp [execOp,Instr.makeMap]
 case makeFunc fn first caps=>
  simp only [aop,HE,FF] at h;obtain ⟨rfl,rfl,rfl⟩:=h;have h1:=U3.ops I first.toList
  have h2:=U3.ops I caps.toList;refine D4 (v:= .func fn (first.toList.map a.eval).toArray (caps.toList.map a.eval).toArray) (w':=w) ?_ (hK _ _ (UK hE hm (.fn fn _ _ _ _ h1.1 h1.2 h2.1 h2.2)))
  have e1: ∀l:Array Operand,(l.toList.map a.eval).toArray=l.map a.eval:=λl=>Array.ext' VT;rw [e1,e1];simp [execOp,Instr.makeFunc]
 case slice t x U O mx=>
  simp only [aop] at h;split at h;refine val1 (Instr.sliceAt t (a.eval x) (U.map a.eval) (O.map a.eval) none) rfl (MS (P:=P) h hn hE hm (I x) ?_ ?_);cases U with|none=>trivial|some y=>exact I y
  cases O with|none=>trivial|some y=>exact I y
  cases h
 case fieldAddr t x k=>exact val1 _ rfl (uZ (P:=P) (by simpa only [aop] using h) hE hm (I x))
 case field t x k=>exact val1 _ rfl (MV (P:=P) (by simpa only [aop] using h) hE hm (I x))
 case indexAddr t x i=>exact val1 _ rfl (uY (P:=P) (by simpa only [aop] using h) hn hE hm (I x) (I i))
 case makeSlice t l c=>exact val1 _ rfl (uX (P:=P) (by simpa only [aop] using h) hn hE hB hm hid (I l) (I c))
 case extract x i=>
  simp only [aop] at h;have hx:=I x;split at h;rename_i l heq;rw [heq] at hx;obtain ⟨k1,rfl,rfl⟩:=RF h;obtain ⟨vs,A,hvs⟩:=hx.tup_inv;obtain ⟨u,Z,GK⟩:=hvs.get k1;exact val1 _ rfl ⟨u,w,by simp [Instr.extract,A,Z],UK hE hm GK⟩
  cases h
 case call c=>
  obtain ⟨callee,args,argTypes⟩:=c;have ha:=U3.ops I args.toList;cases callee with
  |builtin b=>
   simp only [aop] at h;obtain ⟨u,w',h1,h2⟩:=rU (P:=P) (ty:=type) (cs:=args.map λ| .const _=>true|_=>false) (id:=id) h hE hm ha
   have e1:(args.toList.map a.eval).toArray=args.map a.eval:=Array.ext' VT;rw [e1] at h1;exact D4 (v:=u) (w':=w') (by simp only [execOp,resolve,At,Bv,Au,invoke];exact h1) (hK u w' h2)
  |value f=>
   simp only [aop] at h;have hf:=I f;unfold Wf4 at h;split at h;rename_i g first caps heq
   rw [heq] at hf;obtain ⟨vs,vs',A,r1,r2⟩:=hf.fn_inv;split at h;rename_i s hs;split at h;rename_i ns' r F3;cases h;obtain ⟨PD,I4⟩:=hG _ (lE hs);have HZ:U3 e w (first++args.toList.map ρ++caps) (vs++args.toList.map a.eval++vs'):=(r1.append ha).append r2
   have gJ:=U3.map (DA m 40) (LA hE hm 40) HZ;have FJ:=I4 _ _ _ F3 hn e.view w _ (by
    rintro b (hb|⟨k,hb⟩);exact (hE.apart b hb).2;exact (hE.owned b k hb).2) (hE.glob.step (Step.view w)) (DU (RK hm 40) HZ) gJ
   unfold Oper.wp;have DP:(execOp a.eval ⟨dst,.call ⟨.value f,args,argTypes⟩,type,pos,after,guard⟩).run P w= .ok (.enter g (vs++args.toList.map a.eval++vs').toArray) w:=by
    have e1:(vs++args.toList.map a.eval++vs').toArray=vs.toArray++args.map a.eval++vs'.toArray:=Array.ext' VT;simp only [execOp,resolve,A,Deferred.ofValue,At,Bv,Au,invoke];rw [e1];exact LE PD _ w
   rw [DP,Oper.upon_enter];refine FJ.mono λen w' hq=>?_;obtain ⟨v,rfl,hb,GK⟩:=hq;exact hK v w' (OU hE hm hb GK);cases h;cases h;cases h
  |invoke r mm=>simp [aop] at h
def qG:H2->Nat->GO->H2
 |[],_,_=>[]
 |(k,q)::t,id,r=>match Nat.beq k id with
  |true=>(k,r)::qG t id r
  |false=>match HV id q with
   |true=>qG t id r
   |false=>(k,q)::qG t id r
def jF:H2->Nat->H2
 |[],_=>[]
 |(k,q)::t,id=>match Nat.beq k id||HV id q with
  |true=>jF t id
  |false=>(k,q)::jF t id
theorem FX{m:H2}{id:Nat}{r:GO}{p:Nat×GO}(h:p∈qG m id r):p=(id,r)\/(p∈m/\p.1≠id/\HV id p.2=false):=by
 induction m with
 |nil=>cases h
 |cons q t ih=>
  obtain ⟨k,q⟩:=q;unfold qG at h;split at h;rename_i hk;have hk':k=id:=GZ hk;rcases GM.1 h with rfl|h;exact .inl (by rw [hk'])
  exact (ih h).imp (λh=>h) (λh=>⟨HL _ h.1,h.2⟩);rename_i hk;have hk':k≠id:=λe=>by subst e;simp at hk
  split at h;exact (ih h).imp (λh=>h) (λh=>⟨HL _ h.1,h.2⟩);rename_i ha;rcases GM.1 h with rfl|h;exact .inr ⟨GD,hk',ha⟩;exact (ih h).imp (λh=>h) (λh=>⟨HL _ h.1,h.2⟩)
theorem L6{m:H2}{id:Nat}{p:Nat×GO}(h:p∈jF m id):p∈m/\p.1≠id/\HV id p.2=false:=by
 induction m with
 |nil=>cases h
 |cons q t ih=>
  obtain ⟨k,q⟩:=q;unfold jF at h;split at h;exact ⟨HL _ (ih h).1,(ih h).2⟩;rename_i hk;rw [Bool.or_eq_false_iff] at hk;have hk':k≠id:=λe=>by subst e;simp at hk
  rcases GM.1 h with rfl|h;exact ⟨GD,hk',hk.2⟩;exact ⟨HL _ (ih h).1,(ih h).2⟩
section
variable (e:UL)(B:Nat)(w:World)
def M6(id:Nat)(val:AV)(m':H2)(v:Value)(w':World):Prop:=
 ∃e',Below B w w'/\Step e e' w w'/\UY e' B w'/\Rep e' w' val v/\UV e' m' w'/\(∀k,e'.live k->e.live k\/k=id)/\(∀b,e'.ro b->e.ro b)
def bB(_id:Nat)(val:AV)(F:Nat->GO->Prop)(v:Value)(w':World):Prop:=
 ∃e',Below B w w'/\Step e e' w w'/\UY e' B w'/\Rep e' w' val v/\(∀k r,F k r->GH e' w' k r)/\(∀k,e'.live k->e.live k\/k=_id)/\(∀b,e'.ro b->e.ro b)
end
def uR(T:TypeId)(sz:Nat):GO->Bool
 | .row T' sz' _ _=>Nat.beq T' T&&Nat.beq sz' sz
 |_=>false
def w7(c:Bool):AV->AV->AV
 | .x (.int k a),.x (.int k' b)=>match decide (k=k') with
  |true=> .x (.int k (if c then a else b))
  |false=> .top
 | .x (.bool a),.x (.bool b)=> .x (.bool (if c then a else b))
 | .x (.bool a),.lit b=> .x (.bool (if c then a else b))
 | .lit a,.x (.bool b)=> .x (.bool (if c then a else b))
 |a,b=>match c with
  |true=>a
  |false=>b
theorem k8{e:UL}{w:World}{c:Bool}{a b:AV}{v:Value}(h:Rep e w (if c then a else b) v):Rep e w (w7 c a b) v:=by
 unfold w7;split;rename_i k a' k' b';split;rename_i hk;have hk':k=k':=B0 hk;subst hk';cases c<;>simpa using h;exact .top v;cases c<;>simpa using h;cases c;cases h;exact .x _;simpa using h;cases c;simpa using h;cases h;exact .x _;cases c<;>simpa using h
theorem eU{c:Bool}{a b:AV}(ha:Idf a)(hb:Idf b):Idf (w7 c a b):=by
 unfold w7;split;split;exact .x _;exact .top;exact .x _;exact .x _;exact .x _;cases c;exact hb;exact ha
def H6(c:Bool):List AV->List AV->List AV
 |a::l,b::l'=>w7 c a b::H6 c l l'
 |[],l'=>match c with
  |true=>[]
  |false=>l'
 |l,[]=>match c with
  |true=>l
  |false=>[]
theorem vL{c:Bool}: ∀(l l':List AV) (j:Nat) (a:AV),l.length=l'.length->(H6 c l l')[j]? =some a-> ∃x y,l[j]? =some x/\l'[j]? =some y/\a=w7 c x y
 |[],[],j,a,_,h=>by cases c<;>simp [H6] at h
 |x::l,y::l',0,a,_,h=>by simp [H6] at h;exact ⟨x,y,rfl,rfl,h.symm⟩
 |x::l,y::l',j+1,a,hl,h=>by simp only [H6,List.getElem?_cons_succ] at h ⊢;exact vL l l' j a (by simpa using hl) h
 |[],_::_,_,_,hl,_=>by simp at hl
 |_::_,[],_,_,hl,_=>by simp at hl
theorem yT{c:Bool}: ∀(l l':List AV),l.length=l'.length->(H6 c l l').length=l.length
 |[],[],_=>by cases c<;>rfl
 |x::l,y::l',hl=>by simp [H6,yT l l' (by simpa using hl)]
 |[],_::_,hl=>by simp at hl
 |_::_,[],hl=>by simp at hl
section
variable {P:Program}
def L2(P:Program)(m:H2)(t:TypeId)(x v:AV):Option (List Prop×H2):=
 match v.cellsOf with
 |some cs=>match P.info? t with
  |some i=>match Nat.beq i.size cs.length&&cs.all AV.one with
   |true=>match x with
    | .ptr id off=>match DG m id with
     |some (.cells T l)=>match Nat.ble (off+cs.length) l.length with
      |true=>some ([],qG m id (.cells T (H5 off cs l)))
      |false=>none
     |_=>none
    | .elt id sz p j=>match DG m id with
     |some (.row T sz' n f)=>match Nat.beq sz sz'&&cs.all AV.idf&&Nat.ble (j+cs.length) sz with
      |true=>some ([p<n],qG m id (.row T sz n (λk=>H6 (decide (k=p)) (H5 j cs (f k)) (f k))))
      |false=>none
     |_=>none
    |_=>none
   |false=>none
  |none=>none
 |none=>none
theorem wM: ∀(cs:List AV) (off:Nat) (cells:List AV),(H5 off cs cells).length=cells.length
 |[],_,_=>rfl
 |c::cs,off,cells=>by simp [H5,wM cs]
section
variable {e:UL}{B g id:Nat}{w w':World}
theorem F8(hE:UY e B w)(H9:e.own g=some id)(hsz:w'.heap.size=w.heap.size)(RY: ∀b,b≠g->w'.heap[b]? =w.heap[b]?):Step e e w w':=
 ⟨λb _ I=>⟨I,RY b (λhe=>by subst he;rw [(hE.apart b I).1] at H9;cases H9)⟩,λ_ h=>⟨h,rfl,rfl⟩,VJ⟩
theorem P4(hE:UY e B w)(H9:e.own g=some id)(hsz:w'.heap.size=w.heap.size)(RY: ∀b,b≠g->w'.heap[b]? =w.heap[b]?){k:Nat}{r:GO}(hne:k≠id/\HV id r=false)(h:GH e w k r):GH e w' k r:=by
 obtain ⟨hne,hak⟩:=hne;have st:=F8 hE H9 hsz RY;cases r with
 |cells T l=>
  obtain ⟨h1,h2,vs,h3,h4⟩:=h;refine ⟨h1,h2,vs,?_,h4.step st⟩;rw [RY _ (λhe=>hne (by rw [he,H9] at h2;exact (Bb h2).symm))]
  exact h3
 |row T sz n f=>
  obtain ⟨h1,h2,hf,xs,h3,h4⟩:=h;refine ⟨h1,h2,hf,xs,⟨h3.1,h3.2.imp (λh=>h) ?_⟩,λi j a v O ha A=>(h4 i j a v O ha A).step st⟩;rintro ⟨g',W,cur,A,hg,hh,rest⟩;refine ⟨g',W,cur,A,hg,?_,rest⟩;rw [RY g' (λhe=>hne (by have:=h2 g' (by rw [A];rfl);rw [he,H9] at this;exact (Bb this).symm))]
  exact hh
 |ints T pre n f=>
  obtain ⟨h1,h2,vs,h3,h4⟩:=h;refine ⟨h1,h2,vs,?_,h4.step st⟩;rw [RY _ (λhe=>hne (by rw [he,H9] at h2;exact (Bb h2).symm))]
  exact h3
 |memo h f=>
  obtain ⟨h1,h2,es,c,h3,h4⟩:=h;refine ⟨h1,h2,es,c,?_,h4⟩;rw [RY _ (λhe=>hne (by rw [he,H9] at h2;exact (Bb h2).symm))]
  exact h3
 |keep T l=>exact LH st h
 |aka r T sz n f=>
  obtain ⟨h1,h0,o,hor,h2,hf,xs,h3,h4⟩:=h;refine ⟨h1,h0,o,hor,h2,hf,xs,⟨h3.1,h3.2.imp (λh=>h) ?_⟩,λi j a v O ha A=>(h4 i j a v O ha A).step st⟩;rintro ⟨g',W,cur,A,hg,hh,rest⟩;refine ⟨g',W,cur,A,hg,?_,rest⟩;rw [RY g' (λhe=>?_)];exact hh;have h5:=h2 g' (by rw [A];rfl)
  rw [he,H9] at h5;have h6:id=o:=Bb h5;rcases hor with rfl|rfl;exact hne h6.symm;rw [h6] at hak;simp [HV] at hak
end
theorem L4{e:UL}{B:Nat}{w w':World}(hE:UY e B w)(hsz:w'.heap.size=w.heap.size)(st:Step e e w w'):UY e B w':=⟨λb h=>by rw [hsz];exact hE.apart b h,λb k h=>by rw [hsz];exact hE.owned b k h,hE.glob.step st⟩
theorem zZ{B g:Nat}(w:World)(cs:Array Value)(hB:B<=g):Below B w (w.setRow g cs):=
 ⟨rfl,rfl,rfl,VT,λk hk=>setRow_other w g k cs VJ⟩
theorem jK{e:UL}{w:World}{l cs:List AV}{vs us:List Value}(off:Nat)(hl:U3 e w l vs)(hc:U3 e w cs us)(hle:off+cs.length<=l.length):
  U3 e w (H5 off cs l) (vs.take off++us++vs.drop (off+us.length)):=by
 induction cs generalizing off l vs us with
 |nil=>cases hc.nil_inv;simpa [H5] using hl
 |cons c cs ih=>
  obtain ⟨u,us',rfl,Z,hus⟩:=hc.cons_inv;have HX:=hl.1;have:=ih (l:=l.set off c) (vs:=vs.set off u) (us:=us') (off+1) (hl.set Z off) hus (by simp at hle ⊢;omega)
  simp only [H5];have e1:(vs.set off u).take (off+1)++us'++(vs.set off u).drop (off+1+us'.length)=vs.take off++(u::us')++vs.drop (off+(u::us').length):=by
   have aF:off<vs.length:=by simp at hle;omega
   rw [List.take_succ_eq_append_getElem (by simpa using aF),List.take_set_of_le (Am _),List.drop_set_of_lt VJ]
   simp [Ba,Bh 1]
  rw [←e1];exact this
section
variable {e:UL}{B:Nat}{w:World}{m m':H2}{t:TypeId}
theorem EH{x y:AV}{vx vy:Value}{ns:List Prop}(h:L2 P m t x y=some (ns,m'))(hn: ∀p∈ns,p)
  (hE:UY e B w)(hm:UV e m w)(rx:Rep e w x vx)(ry:Rep e w y vy): ∃w',(Instr.storeAt t vx vy).run P w= .ok () w'/\ ∀(id:Nat) (v:Value),M6 e B w id .top m' v w':=by
 unfold L2 at h;split at h;rename_i cs hcs;have GK:=wG hcs ry;split at h;rename_i i O;split at h;rename_i hb;simp only [GU] at hb;have hsz:i.size=cs.length:=GZ hb.1;have iU: ∀u∈vy.cells.toList,u.oneCell'=true:=by
  intro u Z;obtain ⟨q,hq⟩:=wR.1 Z;have hlt:q<cs.length:=by rw [GK.1];exact (FV.1 hq).1
  exact AB (B1.1 hb.2 _ (List.getElem_mem hlt)) (GK.2 q _ u (D0 hlt) hq)
 have HX:vy.cells.size=i.size:=by rw [hsz,GK.1];simp
 split at h;rename_i k off;split at h;rename_i T l hg;split at h;rename_i hle;have hle:=qR hle;cases h;obtain ⟨h1,h2,vs,h3,h4⟩:=hm _ (UW hg)
 dsimp only at h1 h2 h3
 cases rx with
 |ptr _ _ hl=>
  have kF:off+0+vy.cells.toList.length<=vs.toArray.size:=by rw [←GK.1];simp [←h4.1];omega
  have hst:=run_storeCells_at P (e.blk k) off T vy.cells.toList 0 vs.toArray w h3 kF iU;simp only [Bg] at hst;have DP:(Instr.storeAt t (.pointer (some ⟨e.blk k,off,none⟩)) vy).run P w= .ok () (w.setRow (e.blk k) (vs.take off++vy.cells.toList++vs.drop (off+vy.cells.toList.length)).toArray):=by
   simp only [Instr.storeAt,Instr.sureAddr,storeVar,sizeOf,typeInfo,At,Bv,Au,run_program,O,HX,ne_eq,not_true_eq_false,if_false];exact hst
  refine ⟨_,DP,λid v=>?_⟩;have RY: ∀b,b≠e.blk k->(w.setRow (e.blk k) (vs.take off++vy.cells.toList++vs.drop (off+vy.cells.toList.length)).toArray).heap[b]? =w.heap[b]? :=λb hb=>setRow_other w _ b _ hb;have st:=F8 (w':=w.setRow (e.blk k) (vs.take off++vy.cells.toList++vs.drop (off+vy.cells.toList.length)).toArray) hE h2 VT RY;refine ⟨e,zZ w _ (hE.owned _ _ h2).1,st,L4 hE VT st,.top v,?_,λ_ h=> .inl h,λ_ h=>h⟩;intro p hp;rcases FX hp with rfl|⟨hp,hne⟩;refine ⟨h1,h2,_,setRow_heap w _ _ _ T _ h3,(jK off h4 GK hle).step st⟩;exact P4 hE h2 VT RY hne (hm p hp)
 cases h;cases h;rename_i k sz p j;split at h;rename_i T sz' n f hg;split at h;rename_i hb2;simp only [GU] at hb2;obtain ⟨⟨hb3,FP⟩,hb4⟩:=hb2;have hs':sz=sz':=GZ hb3;subst hs';have hle:=qR hb4;cases h;have hp:p<n:=hn _ VT;obtain ⟨h1,h2,hf,xs,hx,wB⟩:=hm _ (UW hg)
 dsimp only at h1 h2 hx
 cases rx with
 |elt _ _ _ _ b n' W hl A=>
  rcases hx.2 with ⟨hv0,hn0⟩|⟨g,cap',cur,hv0,_,hgg,hnc,hcm,hcs',kC⟩;omega;have hvv:=hv0;rw [A] at hvv;obtain ⟨rfl,rfl,rfl⟩:b=g/\n'=n/\W=cap':=by simpa using hvv
  have H9:e.own b=some k:=h2 b (by rw [A];rfl)
  have hpl:p*sz+sz<=n'*sz:=by
   have:=BJ sz (Az hp)
   rwa [Bq] at this
  have hnc':n'*sz<=W*sz:=BJ sz hnc;have kF:p*sz+j+0+vy.cells.toList.length<=cur.size:=by rw [←GK.1,hcs'];omega
  have hst:=run_storeCells_at P b (p*sz+j) T vy.cells.toList 0 cur w hgg kF iU;simp only [Bg] at hst;generalize hcur':(cur.toList.take (p*sz+j)++vy.cells.toList++cur.toList.drop (p*sz+j+vy.cells.toList.length))=cur' at hst;have DP:(Instr.storeAt t (.pointer (some ⟨b,p*sz+j,none⟩)) vy).run P w= .ok () (w.setRow b cur'.toArray):=by
   simp only [Instr.storeAt,Instr.sureAddr,storeVar,sizeOf,typeInfo,At,Bv,Au,run_program,O,HX,ne_eq,not_true_eq_false,if_false];exact hst
  refine ⟨_,DP,λid v=>?_⟩;have RY: ∀q,q≠b->(w.setRow b cur'.toArray).heap[q]? =w.heap[q]? :=λq hq=>setRow_other w _ q _ hq;have st:=F8 (w':=w.setRow b cur'.toArray) hE H9 VT RY;have hidf':=Qd4 GK FP;have Xw0:cur'.length=cur.size:=by
   have hcl:cur.toList.length=cur.size:=VT;rw [←hcur'];simp only [Be,List.length_take,List.length_drop,hcl];omega
  refine ⟨e,zZ w _ (hE.owned _ _ H9).1,st,L4 hE VT st,.top v,?_,λ_ h=> .inl h,λ_ h=>h⟩;intro q hq;rcases FX hq with rfl|⟨hq,hne⟩;have hsp: ∀l:List AV,(H5 j cs l).length=l.length:=λl=>wM cs j l;have hspi: ∀(cs:List AV) (j:Nat) (l:List AV),(∀a∈cs,Idf a)->(∀a∈l,Idf a)-> ∀a∈H5 j cs l,Idf a:=by
   intro cs
   induction cs with
   |nil=>intro j l _ hl' a ha;exact hl' a ha
   |cons c cs ih=>
    intro j l hc hl' a ha;refine ih (j+1) (l.set j c) (λa ha=>hc a (HL _ ha)) (λa ha=>?_) a ha;rcases List.mem_or_eq_of_mem_set ha with h|h;exact hl' a h;subst h;exact hc _ GD
  refine ⟨h1,h2,?_,cur'.take (n'*sz),⟨?_,.inr ⟨b,_,cur'.toArray,A,Ao _,setRow_heap w _ _ _ T _ hgg,hnc,hcm,by simp [Xw0,hcs'],rfl⟩⟩,?_⟩
  intro i' hi';refine ⟨by rw [yT _ _ (hsp _),hsp];exact (hf i' hi').1,λa ha=>?_⟩
  obtain ⟨q,hq⟩:=wR.1 ha;obtain ⟨x,y,hx',hy',rfl⟩:=vL _ _ _ _ (hsp _) hq;exact eU (hspi cs j (f i') hidf' (hf i' hi').2 x (F5 hx')) ((hf i' hi').2 y (F5 hy'));rw [List.length_take,Xw0,hcs'];omega;intro i' j' a u hi' ha Z;obtain ⟨x,y,hx',hy',rfl⟩:=vL _ _ _ _ (hsp _) ha;have hj':j'<sz:=by rw [←(hf i' hi').1];exact (FV.1 hy').1
  have hil:i'*sz+sz<=n'*sz:=by
   have:=BJ sz (Az hi')
   rwa [Bq] at this
  rw [List.getElem?_take] at Z;split at Z;apply k8;by_cases hip:i'=p;subst hip;rw [if_pos VT]
  have hR:U3 e w (f i') ((xs.drop (i'*sz)).take sz):=by
   refine ⟨by rw [(hf i' hi').1,List.length_take,List.length_drop,hx.1];omega,λq a v ha hv'=>?_⟩
   rw [List.getElem?_take] at hv';split at hv';rw [List.getElem?_drop] at hv';exact wB i' q a v hi' ha hv';cases hv'
  have hS:=jK j hR GK (by rw [(hf i' hi').1];exact hle)
  obtain ⟨u',hu',hru⟩:=hS.get hx';have:u'=u:=by
   have e2:cur'[i'*sz+j']? =some u':=by
    rw [←hu',←hcur'];have hcl:cur.toList.length=cur.size:=VT;have hus:vy.cells.toList.length=cs.length:=GK.1.symm;have hxs: ∀q,q<n'*sz->xs[q]? =cur.toList[q]? :=by
     intro q hq;rw [←kC,List.getElem?_take,if_pos hq]
    simp only [Ce,Be,List.length_take,List.length_drop,List.getElem?_take,List.getElem?_drop,hcl,hx.1,hus,hcs'];by_cases c1:j'<j;rw [if_pos VJ,if_pos VJ,if_pos VJ,if_pos VJ,if_pos VJ,if_pos VJ,if_pos VJ,hxs _ VJ];by_cases c2:j'<j+cs.length;rw [if_pos VJ,if_neg VJ,if_pos VJ,if_neg VJ]
    congr 1
    omega;rw [if_neg VJ,if_neg VJ,if_pos VJ,hxs _ VJ]
    congr 1
    omega
   rw [e2] at Z;exact Bb Z
  subst this;exact hru.step st;rw [if_neg (by simpa using hip)]
  have hxu:xs[i'*sz+j']? =some u:=by
   rw [←Z,←hcur',←kC,List.getElem?_take,if_pos VJ];have hcl:cur.toList.length=cur.size:=VT;have hus:vy.cells.toList.length=cs.length:=GK.1.symm;simp only [Ce,Be,List.length_take,List.getElem?_take,List.getElem?_drop,hcl,hus,hcs'];rcases Nat.lt_or_gt_of_ne hip with hlt|hgt;have:i'*sz+sz<=p*sz:=by
    have:=BJ sz (Az hlt)
    rwa [Bq] at this
   rw [if_pos VJ,if_pos VJ,if_pos VJ];have:p*sz+sz<=i'*sz:=by
    have:=BJ sz (Az hgt)
    rwa [Bq] at this
   rw [if_neg VJ]
   congr 1
   omega
  exact (wB i' j' y u hi' hy' hxu).step st;cases Z;exact P4 hE H9 VT RY hne (hm q hq)
 cases h;cases h;cases h;cases h;cases h;cases h
theorem BT{k off:Nat}{y:AV}{vx vy:Value}{ns:List Prop}(h:L2 P m t (.ptr k off) y=some (ns,m'))
  (hE:UY e B w)(hm:UV e m w)(rx:Rep e w (.ptr k off) vx)(ry:Rep e w y vy):
  ∃w',(Instr.storeAt t vx vy).run P w= .ok () w'/\e.own (e.blk k)=some k/\w'.heap.size=w.heap.size/\(∀b,b≠e.blk k->w'.heap[b]? =w.heap[b]?)/\Below B w w'/\UV e m' w':=by
 unfold L2 at h;split at h;rename_i cs hcs;have GK:=wG hcs ry;split at h;rename_i i O;split at h;rename_i hb;simp only [GU] at hb;have hsz:i.size=cs.length:=GZ hb.1;have iU: ∀u∈vy.cells.toList,u.oneCell'=true:=by
  intro u Z;obtain ⟨q,hq⟩:=wR.1 Z;have hlt:q<cs.length:=by rw [GK.1];exact (FV.1 hq).1
  exact AB (B1.1 hb.2 _ (List.getElem_mem hlt)) (GK.2 q _ u (D0 hlt) hq)
 have HX:vy.cells.size=i.size:=by rw [hsz,GK.1];simp
 simp only at h;split at h;rename_i T l hg;split at h;rename_i hle;have hle:=qR hle;cases h;obtain ⟨h1,h2,vs,h3,h4⟩:=hm _ (UW hg)
 dsimp only at h1 h2 h3
 cases rx with
 |ptr _ _ hl=>
  have kF:off+0+vy.cells.toList.length<=vs.toArray.size:=by rw [←GK.1];simp [←h4.1];omega
  have hst:=run_storeCells_at P (e.blk k) off T vy.cells.toList 0 vs.toArray w h3 kF iU;simp only [Bg] at hst;have DP:(Instr.storeAt t (.pointer (some ⟨e.blk k,off,none⟩)) vy).run P w= .ok () (w.setRow (e.blk k) (vs.take off++vy.cells.toList++vs.drop (off+vy.cells.toList.length)).toArray):=by
   simp only [Instr.storeAt,Instr.sureAddr,storeVar,sizeOf,typeInfo,At,Bv,Au,run_program,O,HX,ne_eq,not_true_eq_false,if_false];exact hst
  have RY: ∀b,b≠e.blk k->(w.setRow (e.blk k) (vs.take off++vy.cells.toList++vs.drop (off+vy.cells.toList.length)).toArray).heap[b]? =w.heap[b]? :=λb hb=>setRow_other w _ b _ hb;have st:=F8 (w':=w.setRow (e.blk k) (vs.take off++vy.cells.toList++vs.drop (off+vy.cells.toList.length)).toArray) hE h2 VT RY;refine ⟨_,DP,h2,VT,RY,zZ w _ (hE.owned _ _ h2).1,?_⟩;intro p hp;rcases FX hp with rfl|⟨hp,hne⟩;refine ⟨h1,h2,_,setRow_heap w _ _ _ T _ h3,(jK off h4 GK hle).step st⟩;exact P4 hE h2 VT RY hne (hm p hp)
 cases h;cases h;cases h;cases h;cases h
end
def US(q:Nat)(v:Int)(f:Cg):Cg:=λk=>if k=q then v else f k
def jE:Nat->List Int->(Cg)->Nat->Int
 |_,[],f=>f
 |q,v::vs,f=>jE (q+1) vs (US q v f)
theorem Qp3{n q:Nat}{v:Int}{f:Cg}:(HP n f).set q (.x (.int .i64 v))=HP n (US q v f):=by
 apply List.ext_getElem?;intro j;rw [List.getElem?_set];by_cases hj:j<n;rw [y8 (f:=US q v f) hj];by_cases hq:q=j;subst hq;rw [if_pos rfl,if_pos (by rw [LI];exact hj)]
 simp [US];rw [if_neg hq,y8 hj];simp [US,Ne.symm hq];have h1:(HP n (US q v f))[j]? =none:=Br (by rw [LI];omega)
 rw [h1];split;rw [if_neg (by rw [LI];omega)]
 exact Br (by rw [LI];omega)
theorem C0{pre L:List AV}: ∀(cs:List AV) (off:Nat),off+cs.length<=pre.length->H5 off cs (pre++L)=H5 off cs pre++L
 |[],_,_=>rfl
 |c::cs,off,h=>by
  simp only [Bj] at h;simp only [H5];rw [List.set_append_left _ _ VJ];have hl:(pre.set off c).length=pre.length:=VT;exact splice_go cs (off+1) (pre.set off c) (by rw [hl];omega)
where
 splice_go {L:List AV}: ∀(cs:List AV) (off:Nat) (pre:List AV),off+cs.length<=pre.length->H5 off cs (pre++L)=H5 off cs pre++L
 |[],_,_,_=>rfl
 |c::cs,off,pre,h=>by
  simp only [Bj] at h;simp only [H5];rw [List.set_append_left _ _ VJ];exact splice_go cs (off+1) (pre.set off c) (by simp;omega)
theorem jL{pre:List AV}{n:Nat}: ∀(vs:List Int) (off:Nat) (f:Cg),pre.length<=off->H5 off (vs.map λv=> .x (.int .i64 v)) (pre++HP n f)=pre++HP n (jE (off-pre.length) vs f)
 |[],_,_,_=>rfl
 |v::vs,off,f,h=>by
  simp only [List.map_cons,H5,jE];rw [List.set_append_right _ _ h,Qp3,jL vs (off+1) _ VJ,show off+1-pre.length=off-pre.length+1 by omega]
theorem C2: ∀(cs cs':List AV) (off:Nat) (L:List AV),H5 off (cs++cs') L=H5 (off+cs.length) cs' (H5 off cs L)
 |[],_,_,_=>rfl
 |c::cs,cs',off,L=>by
  simp only [List.cons_append,H5,C2 cs cs' (off+1),Bj];rw [show off+1+cs.length=off+(cs.length+1) by omega]
theorem C1: ∀(cs:List AV) (off:Nat) (L:List AV),(H5 off cs L).length=L.length
 |[],_,_=>rfl
 |c::cs,off,L=>by simp only [H5,C1 cs (off+1),List.length_set]
theorem vQ: ∀{l:List AV} {r:List Int},qL l=some r->l=r.map λv=> .x (.int .i64 v)
 |[],r,h=>by simp [qL] at h;subst h;rfl
 |a::l,r,h=>by
  unfold qL at h;split at h;rename_i n;split at h;rename_i r' I;cases h;rw [List.map_cons,←vQ I];cases h;cases h
def stI(T:TypeId)(cs pre:List AV)(n:Nat)(f:Cg)(off:Nat):Option (List Prop×GO):=
 match Nat.ble (off+1) pre.length with
 |true=>match Nat.ble (off+cs.length) pre.length with
  |true=>some ([],.ints T (H5 off cs pre) n f)
  |false=>match qL (cs.drop (pre.length-off)) with
   |some vs=>some ([vs.length<=n],.ints T (H5 off (cs.take (pre.length-off)) pre) n (jE 0 vs f))
   |none=>none
 |false=>match qL cs with
  |some vs=>some ([wW off pre+vs.length<=n],.ints T pre n (jE (wW off pre) vs f))
  |none=>none
def zG(P:Program)(m:H2)(t:TypeId)(x v:AV):Option (List Prop×H2):=
 match x with
 | .ptr id off=>match DG m id with
  |some (.ints T pre n f)=>match v.cellsOf with
   |some cs=>match P.info? t with
    |some i=>match Nat.beq i.size cs.length&&cs.all AV.one with
     |true=>match stI T cs pre n f off with
      |some (ns,r)=>some (ns,qG m id r)
      |none=>none
     |false=>none
    |none=>none
   |none=>none
  |some (.cells T l)=>match aX P t l with
   |some bs=>match L7 v with
    |some b=>match P.info? t with
     |some i=>match Nat.beq i.size 1 with
      |true=>some ([off<bs.length],qG m id (.cells T (r8 off b bs 0)))
      |false=>none
     |none=>none
    |none=>none
   |none=>L2 P m t (.ptr id off) v
  |_=>L2 P m t (.ptr id off) v
 |x=>L2 P m t x v
theorem stI_holds{T:TypeId}{cs pre:List AV}{n:Nat}{f:Cg}{off:Nat}{ns:List Prop}{r:GO}(h:stI T cs pre n f off=some (ns,r))(hn: ∀p∈ns,p):
  off+cs.length<=(pre++HP n f).length/\ ∀e w id,GH e w id (.cells T (H5 off cs (pre++HP n f)))->GH e w id r:=by
 unfold stI at h;rw [Be,LI];split at h;split at h;rename_i hb;have hle:=qR hb;cases h;refine ⟨VJ,λe w id hh=>?_⟩;rw [C0 cs off hle] at hh;exact hh;split at h
 ·rename_i _ hb _ hb2 _ vs hvs;have hof:=qR hb;cases h;have hsz:vs.length<=n:=hn _ VT;have hcs:=vQ hvs;have hl:(cs.drop (pre.length-off)).length=vs.length:=by rw [hcs];simp
  rw [List.length_drop] at hl;have hlt:pre.length-off<=cs.length:=by
   rcases An pre.length (off+cs.length) with h'|h';omega;rw [Nat.ble_eq_true_of_le h'] at hb2;cases hb2
  have htl:(cs.take (pre.length-off)).length=pre.length-off:=by rw [List.length_take];omega
  refine ⟨VJ,λe w id hh=>?_⟩;have e1:H5 off cs (pre++HP n f)=H5 off (cs.take (pre.length-off)) pre++HP n (jE 0 vs f):=by
   conv=>lhs;rw [←List.take_append_drop (pre.length-off) cs]
   rw [C2,htl,C0 _ _ VJ,hcs];have hpl:(H5 off (cs.take (pre.length-off)) pre).length=pre.length:=C1 _ _ _;rw [jL vs _ f VJ,hpl,show off+(pre.length-off)-pre.length=0 by omega]
  rw [e1] at hh;exact hh
 cases h;rename_i hb;have hle:pre.length<=off:=by
  rcases An off pre.length with h'|h';rw [Nat.ble_eq_true_of_le h'] at hb;cases hb;exact h'
 split at h;rename_i vs hvs;cases h;have hsz:wW off pre+vs.length<=n:=hn _ VT;have hcs:=vQ hvs;have hl:cs.length=vs.length:=by rw [hcs];simp
 rw [qV] at hsz;refine ⟨VJ,λe w id hh=>?_⟩;rw [hcs,jL vs off f hle,←qV] at hh;exact hh;cases h
theorem NL{m:H2}{id:Nat}{r:GO}{p:Nat×GO}(h:p∈m)(hne:p.1≠id/\HV id p.2=false):p∈qG m id r:=by
 induction m with
 |nil=>cases h
 |cons q t ih=>
  obtain ⟨k,q⟩:=q;unfold qG;rcases GM.1 h with rfl|h;split;rename_i hk;exact absurd (GZ hk) hne.1;split;rename_i ha;rw [hne.2] at ha;cases ha;exact GD;split;exact HL _ (ih h);split;exact ih h;exact HL _ (ih h)
section
variable {e:UL}{B:Nat}{w:World}{m m':H2}{t:TypeId}
theorem rA{k off:Nat}{y:AV}{vx vy:Value}{ns:List Prop}(h:zG P m t (.ptr k off) y=some (ns,m'))(hn: ∀p∈ns,p)
  (hE:UY e B w)(hm:UV e m w)(rx:Rep e w (.ptr k off) vx)(ry:Rep e w y vy):
  ∃w',(Instr.storeAt t vx vy).run P w= .ok () w'/\e.own (e.blk k)=some k/\w'.heap.size=w.heap.size/\(∀b,b≠e.blk k->w'.heap[b]? =w.heap[b]?)/\Below B w w'/\UV e m' w':=by
 unfold zG at h;simp only at h;split at h;rename_i T pre n f hg;split at h;rename_i cs hcs;split at h;rename_i i O;split at h;rename_i hb;split at h;rename_i ns' r hst;cases h;obtain ⟨hle,I⟩:=stI_holds hst hn;have hm2:UV e ((k,.cells T (pre++HP n f))::m) w:=by
  intro p hp;rcases GM.1 hp with rfl|hp;exact (show GH e w k (.ints T pre n f) from hm _ (UW hg));exact hm p hp
 have hc:L2 P ((k,.cells T (pre++HP n f))::m) t (.ptr k off) y=some ([],(k,.cells T (H5 off cs (pre++HP n f)))::qG m k (.cells T (H5 off cs (pre++HP n f)))):=by
  unfold L2;rw [hcs];simp only;rw [O];simp only;rw [hb];simp only [DG,Nat.beq_refl,qG];rw [Nat.ble_eq_true_of_le hle]
 obtain ⟨w',q1,q2,q3,q4,q5,q6⟩:=BT hc hE hm2 rx ry;refine ⟨w',q1,q2,q3,q4,q5,λp hp=>?_⟩;rcases FX hp with rfl|⟨hp,hne⟩;exact I _ _ _ (q6 (k,_) GD);exact q6 p (HL _ (NL hp hne));cases h;cases h;cases h;cases h;rename_i T l hg;split at h;rename_i bs hbs;split at h;rename_i b hb;split at h;rename_i i O;split at h;rename_i hsz;cases h;have aF:off<bs.length:=hn _ VT;obtain ⟨hbl,Z⟩:=IZ hbs;obtain ⟨HX,Qq7⟩:=vZ hbl;obtain ⟨c,hcs,hc1,hcb⟩: ∃c,y.cellsOf=some [c]/\c.one=true/\L7 c=some b:=by
  cases y with
  |lit b'=>exact ⟨_,rfl,rfl,hb⟩
  |x v'=>cases v'<;>simp [L7] at hb;exact ⟨_,rfl,rfl,by simp [L7,hb]⟩
  |_=>simp [L7] at hb
 have hm2:UV e ((k,.cells T l)::m) w:=by
  intro p hp;rcases GM.1 hp with rfl|hp;exact hm _ (UW hg);exact hm p hp
 have hcc:L2 P ((k,.cells T l)::m) t (.ptr k off) y=some ([],(k,.cells T (H5 off [c] l))::qG m k (.cells T (H5 off [c] l))):=by
  unfold L2;rw [hcs];simp only;rw [O];simp only;rw [show (Nat.beq i.size [c].length&&[c].all AV.one)=true by simp [hc1];simpa using hsz]
  simp only [DG,Nat.beq_refl,qG];rw [Nat.ble_eq_true_of_le (show off+[c].length<=l.length by simp;omega)]
 obtain ⟨w',q1,q2,q3,q4,q5,q6⟩:=BT hcc hE hm2 rx ry;refine ⟨w',q1,q2,q3,q4,q5,λp hp=>?_⟩;rcases FX hp with rfl|⟨hp,hne⟩;obtain ⟨g1,g2,us,g3,g4⟩:=q6 (k,_) GD;refine ⟨g1,g2,us,g3,?_⟩;have hul:us.length=l.length:=by rw [←g4.1,wM]
 refine ⟨by rw [uL,hul,HX],λj a u ha hu'=>?_⟩
 rw [NM off b bs 0 j a ha,Ap];have hj:j<l.length:=by rw [←hul];exact (FV.1 hu').1
 have hsp:(H5 off [c] l)[j]? =some (if j=off then c else l[j]):=by
  simp only [H5,List.getElem?_set];by_cases hjo:off=j;subst hjo;simp [hj];rw [if_neg hjo,if_neg (λh=>hjo h.symm),D0 hj]
 have I:=g4.2 j _ u hsp hu';have hbv:L7 (if j=off then c else l[j])=some (if j=off then b else bs.getD j false):=by
  split;exact hcb;exact Qq7 j _ (D0 hj)
 rw [PZ hbv I];exact .x _;exact q6 p (HL _ (NL hp hne));cases h;cases h;cases h;exact BT h hE hm rx ry;exact BT h hE hm rx ry
theorem MR{x y:AV}{vx vy:Value}{ns:List Prop}(h:zG P m t x y=some (ns,m'))(hn: ∀p∈ns,p)
  (hE:UY e B w)(hm:UV e m w)(rx:Rep e w x vx)(ry:Rep e w y vy): ∃w',(Instr.storeAt t vx vy).run P w= .ok () w'/\ ∀(id:Nat) (v:Value),M6 e B w id .top m' v w':=by
 cases x with
 |ptr k off=>
  obtain ⟨w',q1,q2,q3,q4,q5,q6⟩:=rA h hn hE hm rx ry;exact ⟨w',q1,λid v=>⟨e,q5,F8 hE q2 q3 q4,L4 hE q3 (F8 hE q2 q3 q4),.top v,q6,λ_ h=> .inl h,λ_ h=>h⟩⟩
 |_=>exact EH (P:=P) (by simpa only [zG] using h) hn hE hm rx ry
end
def Qa8(m:H2)(el sz:Nat):AV->Option (Nat×(Ci))
 | .row id=>match DG m id with
  |some (.row T sz' n f)=>match Nat.beq T el&&Nat.beq sz sz' with
   |true=>some (n,f)
   |false=>none
  |_=>none
 | .x (.slice none 0 0)=>some (0,λ_=>[])
 |_=>none
def Wb1(m:H2)(sz:Nat):AV->Option (Nat×(Ci))
 | .row id=>match DG m id with
  |some (.row _ sz' n f)=>match Nat.beq sz sz' with
   |true=>some (n,f)
   |false=>none
  |_=>none
 | .lst sz' n f=>match Nat.beq sz sz' with
  |true=>some (n,f)
  |false=>none
 | .x (.slice none 0 0)=>some (0,λ_=>[])
 |_=>none
def GI(n:Nat)(f g:Ci)(i:Nat):List AV:=H6 (decide (i<n)) (f i) (g (i-n))
def zU(m:H2):AV->H2
 | .row id=>jF m id
 |_=>m
section
variable (P:Program)(id:Nat)(m:H2)(t:TypeId)
def FY(s x:AV):Option (List Prop×AV×H2):=
 match P.underlying t with
 |some (.slice el)=>match P.info? el with
  |some ie=>match ie.zero with
   |some z=>match Nat.beq z.cells.size ie.size&&Nat.ble 1 ie.size&&Nat.ble 1 ie.bytes with
    |true=>match Qa8 m el ie.size s,Wb1 m ie.size x with
     |some (n1,f1),some (n2,f2)=>some ([(n1+n2)*ie.bytes<=140737488355328,∀i,i<n2-> ∀a∈f2 i,AV.one a=true],.row id,(id,.row el ie.size (n1+n2) (GI n1 f1 f2))::zU m s)
     |_,_=>none
    |false=>none
   |none=>none
  |none=>none
 |_=>none
def y5(q:Nat)(x:AV):Option (List Prop×GO):=
 match FY P id m t (.row q) x with
 |some (ns,_,(_,.row T sz n f)::_)=>match m.all (λp=>(!Nat.beq p.1 q||uR T sz p.2)&& !HV q p.2) with
  |true=>some (ns,.aka q T sz n f)
  |false=>none
 |_=>none
end
theorem L3{c:Bool}: ∀(l l':List AV),(H6 c l l').length=(if c then l else l').length/\
  ∀(j:Nat) (a:AV),(H6 c l l')[j]? =some a-> ∃y,(if c then l else l')[j]? =some y/\(∀(e:UL) (w:World) (v:Value),Rep e w y v->Rep e w a v)/\(Idf y->Idf a)
 |[],l'=>by
  cases c;simp only [H6,Bw,if_false,true_and];exact λj a h=>⟨a,h,λ_ _ _ h=>h,λh=>h⟩;simp [H6]
 |x::l,[]=>by
  cases c;simp [H6];simp only [H6,if_true,true_and];exact λj a h=>⟨a,h,λ_ _ _ h=>h,λh=>h⟩
 |x::l,y::l'=>by
  have ih:=L3 (c:=c) l l';refine ⟨?_,λj a h=>?_⟩;cases c<;>simpa [H6] using ih.1;cases j with
  |zero=>
   simp only [H6,List.getElem?_cons_zero,HE] at h;subst h;cases c;refine ⟨y,VT,λe w v h=>k8 (by simpa using h),λh=>?_⟩
   unfold w7;split;split;exact .x _;exact .top;exact .x _;exact .x _;exact .x _;exact h;refine ⟨x,VT,λe w v h=>k8 (by simpa using h),λh=>?_⟩
   unfold w7;split;split;exact .x _;exact .top;exact .x _;exact .x _;exact .x _;exact h
  |succ j=>
   simp only [H6,List.getElem?_cons_succ] at h;obtain ⟨z,h1,h2,h3⟩:=ih.2 j a h;exact ⟨z,by cases c<;>simpa using h1,h2,h3⟩
section
variable {e:UL}{w:World}{m:H2}
theorem dF{el sz n:Nat}{f:Ci}{s:AV}{v:Value}(h:Qa8 m el sz s=some (n,f))(hm:UV e m w)(r:Rep e w s v):
  (∀i,i<n->(f i).length=sz/\ ∀a∈f i,Idf a)/\(∀b,v.ownBlock=some b-> ∃id,s= .row id/\e.own b=some id)/\
   ∃xs:List Value,w.ownsRow 0 el sz v n xs/\ ∀(i j:Nat) (a:AV) (u:Value),i<n->(f i)[j]? =some a->xs[i*sz+j]? =some u->Rep e w a u:=by
 unfold Qa8 at h;split at h;rename_i id;split at h;rename_i T sz' n' f' hg;split at h;rename_i hb;simp only [GU] at hb;have h1:T=el:=GZ hb.1;have h2:sz=sz':=GZ hb.2;subst h1;subst h2;simp only [HE,FF] at h;obtain ⟨rfl,rfl⟩:=h;obtain ⟨_,H9,hf,xs,hx,GK⟩:=hm _ (UW hg);cases r with
 |row _ a n c hl A=>
  dsimp only at H9 hx
  rw [A] at H9 hx;exact ⟨hf,λb hb=>⟨id,rfl,H9 b hb⟩,xs,hx,GK⟩
 cases h;cases h;simp only [HE,FF] at h;obtain ⟨rfl,rfl⟩:=h;cases r.x_inv;exact ⟨λi O=>VJ,λb hb=>by simp [Value.ownBlock] at hb,[],World.ownsRow_nil w 0 el sz,λi j a u O=>VJ⟩
 cases h
theorem NH{sz n:Nat}{f:Ci}{x:AV}{v:Value}(h:Wb1 m sz x=some (n,f))(hm:UV e m w)(r:Rep e w x v):
  (∀i,i<n->(f i).length=sz/\ ∀a∈f i,Idf a)/\((v= .slice none 0 0/\n=0)\/ ∃(ad:Addr) (c:Nat) (us:List Value),v= .slice (some ad) n c/\us.length=n*sz/\(∀j u,us[j]? =some u->w.cell? (ad.add j)=some u)/\
   ∀(i j:Nat) (a:AV) (u:Value),i<n->(f i)[j]? =some a->us[i*sz+j]? =some u->Rep e w a u):=by
 unfold Wb1 at h;split at h;rename_i id;split at h;rename_i T sz' n' f' hg;split at h;rename_i hb;have h2:sz=sz':=GZ hb;subst h2;simp only [HE,FF] at h;obtain ⟨rfl,rfl⟩:=h;obtain ⟨_,H9,hf,xs,hx,GK⟩:=hm _ (UW hg);cases r with
 |row _ a n c hl A=>
  dsimp only at H9 hx
  rw [A] at hx;refine ⟨hf,?_⟩;rcases hx.2 with ⟨hv0,hn0⟩|⟨g,W,cur,hv0,_⟩;exact .inl ⟨hv0,hn0⟩;refine .inr ⟨⟨g,0,none⟩,W,xs,hv0,hx.1,λj u Z=>hx.cells (by rw [hv0];rfl) j u Z,GK⟩
 cases h;cases h;rename_i sz' n' f';split at h;rename_i hb;have h2:sz=sz':=GZ hb;subst h2;simp only [HE,FF] at h;obtain ⟨rfl,rfl⟩:=h;cases r with
 |lstNil sz f=>exact ⟨λi O=>VJ,.inl ⟨rfl,rfl⟩⟩
 |lst sz n f b o W g h1 h2 hid h3 h4 h5 h6 h7 ad had=>
  refine ⟨λi O=>⟨h6 i O,hid i O⟩,.inr ⟨ad,W,(List.range (n'*sz)).map (λq=>g (q / sz) (q%sz)),rfl,VT,?_,?_⟩⟩;intro j u Z;simp only [Bn,Ay] at Z;obtain ⟨q,hq,rfl⟩:=Z;obtain ⟨hq1,hq2⟩:=FV.1 hq;simp at hq1 hq2;subst hq2;have hsz:0<sz:=by
   rcases Nat.eq_zero_or_pos sz with h0|h0;subst h0;simp at hq1;exact h0
  have hd:j / sz<n':=(Nat.div_lt_iff_lt_mul hsz).2 hq1;have:=h5 (j / sz) (j%sz) hd (Nat.mod_lt _ hsz);rw [had (Nat.lt_of_le_of_lt (Ao _) hd),DK,←this]
  congr 2
  have:=Nat.div_add_mod j sz;rw [Bp] at this;omega;intro i j a u O ha Z;have hj:j<sz:=by rw [←h6 i O];exact (FV.1 ha).1
  simp only [Bn,Ay] at Z;obtain ⟨q,hq,rfl⟩:=Z;obtain ⟨hq1,hq2⟩:=FV.1 hq;simp at hq1 hq2;subst hq2;have e1:(i*sz+j) / sz=i:=by
   rw [Bp,Nat.mul_add_div VJ,Nat.div_eq_of_lt hj,Bg]
  have e2:(i*sz+j)%sz=j:=by
   rw [Bp,Nat.mul_add_mod,Nat.mod_eq_of_lt hj]
  rw [e1,e2];exact h7 i j a O ha
 cases h;simp only [HE,FF] at h;obtain ⟨rfl,rfl⟩:=h;cases r.x_inv;exact ⟨λi O=>VJ,.inl ⟨rfl,rfl⟩⟩;cases h
end
end
section
variable {P:Program}
theorem b8{w w':World}{t ty el:TypeId}{ie:TypeInfo}{z v v':Value}{n m c:Nat}{xs news:List Value}{ad:Addr}(ht:P.underlying t=some (.slice el))(O:P.info? el=some ie)(hz:ie.zero=some z)
  (H9:w.ownsRow 0 el ie.size v n xs)(hl:news.length=m*ie.size)(IB: ∀j u,news[j]? =some u->w.cell? (ad.add j)=some u)(h1: ∀u∈news,u.oneCell'=true)
  (h63:n+m<=maxLen)(RH:(n+m)*ie.bytes<=140737488355328)
  (I:(Builtin.append_ #[t,t] ty #[v,.slice (some ad) m c]).run P w= .ok v' w')(kD:v'= .slice none 0 0↔v= .slice none 0 0/\m=0):
  v'.ownBlock=v.ownBlock\/v'.ownBlock=some w.heap.size:=by
 have Wo3:n+m<=9223372036854775807:=by simp only [maxLen] at h63;omega
 rcases H9.2 with ⟨rfl,rfl⟩|⟨g,W,cur,rfl,hbg,hg,hnc,hcm,hcs,kC⟩;by_cases hm:m=0;rw [kD.2 ⟨rfl,hm⟩];exact .inl rfl;have h2:=run_append_nil (P:=P) w t ty el ie z ht O hz ad m c news hl IB VJ VJ (by have hb:=RH;simp only [Ap] at hb;omega)
 rw [h2] at I;injection I with I _
 rw [←I];exact .inr rfl;by_cases I6:n+m<=W;have h2:=run_append_room (P:=P) w t ty el ie ht O g n W cur hg ad m c news hl IB h1 I6 (by rw [hl,hcs,←Nat.add_mul];exact BJ _ I6)
 rw [h2] at I;injection I with I _
 rw [←I];exact .inl rfl;have h2:=run_append_grow (P:=P) w t ty el ie z ht O hz ⟨g,0,none⟩ n W xs H9.1 (H9.cells (g:=g) rfl) ad m c news hl IB VJ VJ (growslice_fits VJ RH);rw [h2] at I;injection I with I _
 rw [←I];exact .inr rfl
def UL.app(e:UL)(id:Nat)(v:Value):UL:=
 {ro:=e.ro,own:=λb=>if v.ownBlock=some b then some id else e.own b,live:=λk=>k=id\/e.live k,blk:=e.blk,val:=λk=>if k=id then v else e.val k}
theorem qJ{e:UL}{B:Nat}{w:World}{m m':H2}{id:Nat}{t ty:TypeId}{s x val:AV}{vs vx:Value}{ns:List Prop}(h:FY P id m t s x=some (ns,val,m'))(hn: ∀p∈ns,p)
  (hE:UY e B w)(hB:B<=w.heap.size)(hm:UV e m w)(hid: ¬e.live id)(rs:Rep e w s vs)(rx:Rep e w x vx):
  ∃u w',(Builtin.append_ #[t,t] ty #[vs,vx]).run P w= .ok u w'/\bB e B w id val (λk res=>(∃tl,m'=(id,res)::tl)/\k=id\/GH e w k res/\ ∀q,s= .row q->k≠q/\HV q res=false) u w'/\ ∃r,m'=(id,r)::zU m s:=by
 unfold FY at h;split at h;rename_i el ht;split at h;rename_i ie O;split at h;rename_i z hz;split at h;rename_i hb;simp only [GU] at hb;obtain ⟨⟨hb1,hb2⟩,hb3⟩:=hb;have hzs:z.cells.size=ie.size:=GZ hb1;have hsz:=qR hb2;have hby:=qR hb3;split at h;rename_i n1 f1 n2 f2 hro hso;simp only [HE,FF] at h;obtain ⟨rfl,rfl,rfl⟩:=h;have RH:(n1+n2)*ie.bytes<=140737488355328:=hn _ VT;have iU: ∀i,i<n2-> ∀a∈f2 i,AV.one a=true:=hn _ VT;obtain ⟨hf1,hob,xs,hx,gL⟩:=dF hro hm rs;obtain ⟨hf2,Zo4⟩:=NH hso hm rx;have h63:n1+n2<=maxLen:=by
  have:n1+n2<=(n1+n2)*ie.bytes:=Nat.le_mul_of_pos_right _ hby;unfold maxLen;omega
 have key: ∃(u:Value) (w':World) (us:List Value),(Builtin.append_ #[t,t] ty #[vs,vx]).run P w= .ok u w'/\w'.ownsRow 0 el ie.size u (n1+n2) (xs++us)/\w.grownBy w' vs.ownBlock/\
   (u.ownBlock=vs.ownBlock\/u.ownBlock=some w.heap.size)/\us.length=n2*ie.size/\(∀(i j:Nat) (a:AV) (v:Value),i<n2->(f2 i)[j]? =some a->us[i*ie.size+j]? =some v->Rep e w a v):=by
  rcases Zo4 with ⟨rfl,rfl⟩|⟨ad,c,us,rfl,hul,hus,wB⟩;refine ⟨vs,w,[],?_,by simpa using hx,⟨rfl,rfl,rfl,Am _,λ_ _ _=>rfl⟩,.inl rfl,VT,λi j a v O=>VJ⟩
  rcases hx.2 with ⟨rfl,rfl⟩|⟨g,W,cur,rfl,_,_,hnc,_⟩;simp [Builtin.append_,run_underlying ht,sizeOf,typeInfo,O,Builtin.lenOf,Builtin.firstCells];simp [Builtin.append_,run_underlying ht,sizeOf,typeInfo,O,Builtin.lenOf,Builtin.firstCells,hnc,storeCells];have h1: ∀u∈us,u.oneCell'=true:=by
   intro u Z;obtain ⟨q,hq⟩:=wR.1 Z;have hq1:q<n2*ie.size:=by rw [←hul];exact (FV.1 hq).1
   have hd:q / ie.size<n2:=(Nat.div_lt_iff_lt_mul hsz).2 hq1;have Zp3:=Nat.mod_lt q hsz;have hlt:q%ie.size<(f2 (q / ie.size)).length:=by rw [(hf2 _ hd).1];exact Zp3
   have he:q / ie.size*ie.size+q%ie.size=q:=by rw [Bp];exact Nat.div_add_mod q ie.size
   exact AB (iU _ hd _ (List.getElem_mem hlt)) (wB (q / ie.size) (q%ie.size) _ u hd (D0 hlt) (by rw [he];exact hq))
  obtain ⟨v',w',I,ho,hg,kD⟩:=run_append_own (P:=P) w 0 t ty el ie z ie.size ie.bytes ht O hz rfl rfl hzs VJ vs n1 xs hx ad n2 c us hul hus h1 h63 RH (Ao _);exact ⟨v',w',us,I,ho,hg,b8 ht O hz hx hul hus h1 h63 RH I kD,hul,wB⟩
 obtain ⟨u,w',us,I,ho,hg,dX,hul,wB⟩:=key;have hoB: ∀b,vs.ownBlock=some b->B<=b/\e.ro b=False/\ ∃k,s= .row k/\e.own b=some k:=by
  intro b hb;obtain ⟨k,hk,hk'⟩:=hob b hb;refine ⟨(hE.owned b k hk').1,?_,k,hk,hk'⟩;apply propext;exact ⟨(λI=>by rw [(hE.apart b I).1] at hk';cases hk'),False.elim⟩
 have I7: ∀b,e.ro b->some b≠vs.ownBlock:=by
  intro b hrb he;have:=(hoB b he.symm).2.1;rw [this] at hrb;exact hrb
 have Zo8: ∀b,e.ro b->u.ownBlock≠some b:=by
  intro b hrb he;rcases dX with h|h;exact I7 b hrb (by rw [←he,h])
  rw [h] at he;have:=(hE.apart b hrb).2;simp at he;omega
 have EZ: ∀b,u.ownBlock=some b->b<w'.heap.size:=λb hb=>(ho.lt b hb).2;have st:Step e (e.app id u) w w':=by
  refine ⟨λb hlt hrb=>⟨hrb,hg.block b hlt (I7 b hrb)⟩,λk hk=>?_,hg.size⟩;have hne:k≠id:=λhe=>hid (he▸hk);exact ⟨.inr hk,rfl,by simp [UL.app,hne]⟩
 refine ⟨u,w',I,⟨e.app id u,⟨hg.os,hg.tape,hg.output,hg.size,λk hk=>hg.block k VJ (λhe=>by have:=(hoB k he.symm).1;omega)⟩,st,⟨?_,?_,hE.glob.step st⟩,?_,?_,?_,λ_ h=>h⟩,_,rfl⟩
 intro b hrb;have h1:=hE.apart b hrb;have h2:=hg.size;refine ⟨?_,VJ⟩;simp only [UL.app];rw [if_neg (Zo8 b hrb)];exact h1.1;intro b k hk;simp only [UL.app] at hk;split at hk;rename_i hub;refine ⟨?_,EZ b hub⟩;rcases dX with h|h;exact (hoB b (by rw [←h];exact hub)).1
 rw [h] at hub;cases hub;exact hB;have:=hE.owned b k hk;have:=hg.size;exact ⟨(hE.owned b k hk).1,VJ⟩;rcases ho.2 with ⟨A,_⟩|⟨g,W,cur,A,_⟩;rw [A];exact .row id _ _ _ (.inl rfl) (by simp [UL.app])
 rw [A];exact .row id _ _ _ (.inl rfl) (by simp [UL.app])
 intro k0 res0 hp;rcases hp with ⟨⟨tl,htl⟩,rfl⟩|⟨hH,hpm⟩;have htl':=(List.cons.inj htl).1;cases htl';refine ⟨.inl rfl,?_,?_,xs++us,?_,?_⟩;intro b hb;simp only [UL.app,if_true] at hb ⊢;rw [if_pos hb];intro i hi';have hp:=L3 (c:=decide (i<n1)) (f1 i) (f2 (i-n1));by_cases hc:i<n1;have e1:decide (i<n1)=true:=by simpa using hc
 rw [e1] at hp;simp only [if_true] at hp;simp only [GI];rw [e1];refine ⟨by rw [hp.1];exact (hf1 i hc).1,λa ha=>?_⟩
 obtain ⟨q,hq⟩:=wR.1 ha;obtain ⟨y,hy,_,hy2⟩:=hp.2 q a hq;exact hy2 ((hf1 i hc).2 y (F5 hy));have e1:decide (i<n1)=false:=by simpa using hc
 rw [e1] at hp;simp only [Bw,if_false] at hp;simp only [GI];rw [e1];refine ⟨by rw [hp.1];exact (hf2 _ VJ).1,λa ha=>?_⟩
 obtain ⟨q,hq⟩:=wR.1 ha;obtain ⟨y,hy,_,hy2⟩:=hp.2 q a hq;exact hy2 ((hf2 _ VJ).2 y (F5 hy));simpa [UL.app] using ho;intro i j a v hi' ha A;have hp:=L3 (c:=decide (i<n1)) (f1 i) (f2 (i-n1));have hxl:xs.length=n1*ie.size:=hx.1;by_cases hc:i<n1;have e1:decide (i<n1)=true:=by simpa using hc
 rw [e1] at hp;simp only [if_true] at hp;simp only [GI] at ha;rw [e1] at ha;obtain ⟨y,hy,hy1,_⟩:=hp.2 j a ha;have hj:j<ie.size:=by rw [←(hf1 i hc).1];exact (FV.1 hy).1
 have hle:i*ie.size+ie.size<=n1*ie.size:=by
  have:=BJ ie.size (Az hc)
  rwa [Bq] at this
 rw [Ce,if_pos VJ] at A;exact (hy1 _ _ _ (gL i j y v hc hy A)).step st;have e1:decide (i<n1)=false:=by simpa using hc
 rw [e1] at hp;simp only [Bw,if_false] at hp;simp only [GI] at ha;rw [e1] at ha;obtain ⟨y,hy,hy1,_⟩:=hp.2 j a ha;have hge:n1*ie.size<=i*ie.size:=BJ _ VJ;rw [Ce,if_neg VJ] at A;have e2:i*ie.size+j-xs.length=(i-n1)*ie.size+j:=by rw [hxl,Nat.sub_mul];omega
 rw [e2] at A;exact (hy1 _ _ _ (wB (i-n1) j y v VJ hy A)).step st
 have hne:k0≠id:=by
  intro he;apply hid;rw [←he];exact hH.live
 have RY: ∀b k,e.own b=some k->k0=k->some b≠vs.ownBlock:=by
  intro b k hk hpk he;obtain ⟨_,_,k',hk',hk''⟩:=hoB b he.symm;rw [hk] at hk'';cases hk'';exact (hpm _ hk').1 hpk
 have hown': ∀b,e.own b=some k0->(e.app id u).own b=some k0/\w'.heap[b]? =w.heap[b]? :=by
  intro b hb;have N2:=(hE.owned b _ hb).2;have vU:=RY b _ hb rfl;refine ⟨?_,hg.block b N2 vU⟩;simp only [UL.app];rw [if_neg ?_];exact hb;intro he;rcases dX with h|h;exact vU (by rw [←he,h])
  rw [h] at he;simp at he;omega
 cases res0 with
 |cells T l=>
  obtain ⟨q1,q2,vs',q3,q4⟩:=hH;have hq:=hown' _ q2;exact ⟨.inr q1,hq.1,vs',hq.2.trans q3,q4.step st⟩
 |row T sz n f=>
  obtain ⟨q1,q2,q5,ys,q3,q4⟩:=hH;have ev:(e.app id u).val k0=e.val k0:=by simp only [UL.app];rw [if_neg hne]
  refine ⟨.inr q1,?_,q5,ys,?_,λi j a v O ha A=>(q4 i j a v O ha A).step st⟩;rw [ev];exact λb hb=>(hown' b (q2 b hb)).1;rw [ev];refine ⟨q3.1,q3.2.imp (λh=>h) ?_⟩;rintro ⟨g',W,cur,A,hg',hh,rest⟩;exact ⟨g',W,cur,A,hg',by rw [(hown' g' (q2 g' (by rw [A];rfl))).2];exact hh,rest⟩
 |ints T pre n f=>
  obtain ⟨q1,q2,vs',q3,q4⟩:=hH;have hq:=hown' _ q2;exact ⟨.inr q1,hq.1,vs',hq.2.trans q3,q4.step st⟩
 |memo h f=>
  obtain ⟨q1,q2,es,c,q3,q4⟩:=hH;have hq:=hown' _ q2;exact ⟨.inr q1,hq.1,es,c,hq.2.trans q3,q4⟩
 |keep T l=>exact LH st hH
 |aka r T sz n f=>
  obtain ⟨q1,q0,o,hor,q2,q5,ys,q3,q4⟩:=hH;have ev:(e.app id u).val k0=e.val k0:=by simp only [UL.app];rw [if_neg hne]
  have hoq: ∀q,s= .row q->o≠q:=by
   intro q hs;rcases hor with rfl|rfl;exact (hpm q hs).1;have:=(hpm q hs).2;rintro rfl;simp [HV] at this
  have iT: ∀b,e.own b=some o->(e.app id u).own b=some o/\w'.heap[b]? =w.heap[b]? :=by
   intro b hb;have N2:=(hE.owned b _ hb).2;have vU:some b≠vs.ownBlock:=by
    intro he;obtain ⟨_,_,k',hk',hk''⟩:=hoB b he.symm;rw [hb] at hk'';exact hoq _ hk' (Bb hk'')
   refine ⟨?_,hg.block b N2 vU⟩;simp only [UL.app];rw [if_neg ?_];exact hb;intro he;rcases dX with h|h;exact vU (by rw [←he,h])
   rw [h] at he;simp at he;omega
  refine ⟨.inr q1,.inr q0,o,hor,?_,q5,ys,?_,λi j a v O ha A=>(q4 i j a v O ha A).step st⟩;rw [ev];exact λb hb=>(iT b (q2 b hb)).1;rw [ev];refine ⟨q3.1,q3.2.imp (λh=>h) ?_⟩;rintro ⟨g',W,cur,A,hg',hh,rest⟩;exact ⟨g',W,cur,A,hg',by rw [(iT g' (q2 g' (by rw [A];rfl))).2];exact hh,rest⟩
 rintro k (rfl|hk);exact .inr rfl;exact .inl hk;cases h;cases h;cases h;cases h;cases h
theorem N8{w w':World}{t ty el:TypeId}{ie:TypeInfo}{z v v':Value}{n m c:Nat}{xs news:List Value}{ad:Addr}(ht:P.underlying t=some (.slice el))(O:P.info? el=some ie)(hz:ie.zero=some z)
  (H9:w.ownsRow 0 el ie.size v n xs)(hl:news.length=m*ie.size)(IB: ∀j u,news[j]? =some u->w.cell? (ad.add j)=some u)(h1: ∀u∈news,u.oneCell'=true)
  (h63:n+m<=maxLen)(RH:(n+m)*ie.bytes<=140737488355328)
  (I:(Builtin.append_ #[t,t] ty #[v,.slice (some ad) m c]).run P w= .ok v' w')(kD:v'= .slice none 0 0↔v= .slice none 0 0/\m=0):
  (v'.ownBlock=none/\v.ownBlock=none)\/(∃g W,v= .slice (some ⟨g,0,none⟩) n W/\v'= .slice (some ⟨g,0,none⟩) (n+m) W)\/(v'.ownBlock=some w.heap.size/\ ∀b,b<w.heap.size->w'.heap[b]? =w.heap[b]?):=by
 have Wo3:n+m<=9223372036854775807:=by simp only [maxLen] at h63;omega
 rcases H9.2 with ⟨rfl,rfl⟩|⟨g,W,cur,rfl,hbg,hg,hnc,hcm,hcs,kC⟩;by_cases hm:m=0;rw [kD.2 ⟨rfl,hm⟩];exact .inl ⟨rfl,rfl⟩;have h2:=run_append_nil (P:=P) w t ty el ie z ht O hz ad m c news hl IB VJ VJ (by have hb:=RH;simp only [Ap] at hb;omega)
 rw [h2] at I;injection I with I hw
 rw [←I,←hw];exact .inr (.inr ⟨rfl,λk hk=>heap_alloc_old w.drew _ hk⟩);by_cases I6:n+m<=W;have h2:=run_append_room (P:=P) w t ty el ie ht O g n W cur hg ad m c news hl IB h1 I6 (by rw [hl,hcs,←Nat.add_mul];exact BJ _ I6)
 rw [h2] at I;injection I with I _
 exact .inr (.inl ⟨g,W,rfl,I.symm⟩);have h2:=run_append_grow (P:=P) w t ty el ie z ht O hz ⟨g,0,none⟩ n W xs H9.1 (H9.cells (g:=g) rfl) ad m c news hl IB VJ VJ (growslice_fits VJ RH);rw [h2] at I;injection I with I hw
 rw [←I,←hw];exact .inr (.inr ⟨rfl,λk hk=>heap_alloc_old w.drew _ hk⟩)
def UL.aka(e:UL)(id:Nat)(v:Value):UL:=
 {ro:=e.ro,own:=λb=>match e.own b with|some k=>some k|none=>if v.ownBlock=some b then some id else none,live:=λk=>k=id\/e.live k,blk:=e.blk,val:=λk=>if k=id then v else e.val k}
theorem UL.aka_own{e:UL}{id b k:Nat}{v:Value}(h:e.own b=some k):(e.aka id v).own b=some k:=by simp [UL.aka,h]
section
variable {e:UL}{B:Nat}{w:World}
theorem rX{m:H2}{id:Nat}{t ty:TypeId}{q:Nat}{x:AV}{res:GO}{vs vx:Value}{ns:List Prop}(h:y5 P id m t q x=some (ns,res))(hn: ∀p∈ns,p)
  (hE:UY e B w)(hB:B<=w.heap.size)(hm:UV e m w)(hid: ¬e.live id)(rs:Rep e w (.row q) vs)(rx:Rep e w x vx):
  ∃(T:TypeId) (sz n:Nat) (f:Ci),res= .aka q T sz n f/\(∀p∈m,(p.1=q->uR T sz p.2=true)/\HV q p.2=false)/\
  ∃u w',(Builtin.append_ #[t,t] ty #[vs,vx]).run P w= .ok u w'/\bB e B w id (.row id) (λk r=>(k=id/\r= .aka q T sz n f)\/GH e w k r/\(k=q->uR T sz r=true)/\HV q r=false) u w':=by
 unfold y5 at h;split at h;rename_i ns' va id' T sz n f tl hap;split at h;rename_i HZ;simp only [HE,FF] at h;obtain ⟨rfl,rfl⟩:=h;refine ⟨T,sz,n,f,rfl,?_,?_⟩;intro p hp;have:=B1.1 HZ p hp;simp only [GU,Bl,Ax] at this;refine ⟨λhq=>?_,this.2⟩;rcases this.1 with h1|h1;rw [hq,Nat.beq_refl] at h1;cases h1;exact h1;unfold FY at hap;split at hap;rename_i el ht;split at hap;rename_i ie O;split at hap;rename_i z hz;split at hap;rename_i hb;simp only [GU] at hb;obtain ⟨⟨hb1,hb2⟩,hb3⟩:=hb;have hzs:z.cells.size=ie.size:=GZ hb1;have hsz:=qR hb2;have hby:=qR hb3;split at hap;rename_i n1 f1 n2 f2 hro hso;simp only [HE,FF,List.cons.injEq,GO.row.injEq] at hap;obtain ⟨rfl,rfl,⟨rfl,rfl,rfl,rfl,rfl⟩,rfl⟩:=hap;have RH:(n1+n2)*ie.bytes<=140737488355328:=hn _ VT;have iU: ∀i,i<n2-> ∀a∈f2 i,AV.one a=true:=hn _ VT;obtain ⟨hf1,hob,xs,hx,gL⟩:=dF hro hm rs;obtain ⟨hf2,Zo4⟩:=NH hso hm rx;have h63:n1+n2<=maxLen:=by
  have:n1+n2<=(n1+n2)*ie.bytes:=Nat.le_mul_of_pos_right _ hby;unfold maxLen;omega
 have hvq:e.val q=vs:=by
  cases rs with
  |row _ _ _ _ _ A=>exact A
 have key: ∃(u:Value) (w':World) (us:List Value),(Builtin.append_ #[t,t] ty #[vs,vx]).run P w= .ok u w'/\w'.ownsRow 0 el ie.size u (n1+n2) (xs++us)/\w.grownBy w' vs.ownBlock/\
   ((u.ownBlock=none/\vs.ownBlock=none)\/(∃g W,vs= .slice (some ⟨g,0,none⟩) n1 W/\u= .slice (some ⟨g,0,none⟩) (n1+n2) W)\/(u.ownBlock=some w.heap.size/\ ∀b,b<w.heap.size->w'.heap[b]? =w.heap[b]?))/\us.length=n2*ie.size/\(∀(i j:Nat) (a:AV) (v:Value),i<n2->(f2 i)[j]? =some a->us[i*ie.size+j]? =some v->Rep e w a v):=by
  rcases Zo4 with ⟨rfl,rfl⟩|⟨ad,c,us,rfl,hul,hus,wB⟩;refine ⟨vs,w,[],?_,by simpa using hx,⟨rfl,rfl,rfl,Am _,λ_ _ _=>rfl⟩,?_,VT,λi j a v O=>VJ⟩
  rcases hx.2 with ⟨rfl,rfl⟩|⟨g,W,cur,rfl,_,_,hnc,_⟩;simp [Builtin.append_,run_underlying ht,sizeOf,typeInfo,O,Builtin.lenOf,Builtin.firstCells];simp [Builtin.append_,run_underlying ht,sizeOf,typeInfo,O,Builtin.lenOf,Builtin.firstCells,hnc,storeCells];rcases hx.2 with ⟨rfl,rfl⟩|⟨g,W,cur,rfl,_⟩;exact .inl ⟨rfl,rfl⟩;exact .inr (.inl ⟨g,W,rfl,rfl⟩);have h1: ∀u∈us,u.oneCell'=true:=by
   intro u Z;obtain ⟨q,hq⟩:=wR.1 Z;have hq1:q<n2*ie.size:=by rw [←hul];exact (FV.1 hq).1
   have hd:q / ie.size<n2:=(Nat.div_lt_iff_lt_mul hsz).2 hq1;have Zp3:=Nat.mod_lt q hsz;have hlt:q%ie.size<(f2 (q / ie.size)).length:=by rw [(hf2 _ hd).1];exact Zp3
   have he:q / ie.size*ie.size+q%ie.size=q:=by rw [Bp];exact Nat.div_add_mod q ie.size
   exact AB (iU _ hd _ (List.getElem_mem hlt)) (wB (q / ie.size) (q%ie.size) _ u hd (D0 hlt) (by rw [he];exact hq))
  obtain ⟨v',w',I,ho,hg,kD⟩:=run_append_own (P:=P) w 0 t ty el ie z ie.size ie.bytes ht O hz rfl rfl hzs VJ vs n1 xs hx ad n2 c us hul hus h1 h63 RH (Ao _);exact ⟨v',w',us,I,ho,hg,N8 ht O hz hx hul hus h1 h63 RH I kD,hul,wB⟩
 obtain ⟨u,w',us,I,ho,hg,dX,hul,wB⟩:=key;have iK: ∀b,vs.ownBlock=some b->e.own b=some q:=by
  intro b hb;obtain ⟨k,hk,hk'⟩:=hob b hb;cases hk;exact hk'
 have I7: ∀b,e.ro b->some b≠vs.ownBlock:=by
  intro b hrb he;have h1:=iK b he.symm;rw [(hE.apart b hrb).1] at h1;cases h1
 have Jj0: ∀b k,e.own b=some k->k≠q->some b≠vs.ownBlock:=by
  intro b k hk hne he;have:=iK b he.symm;rw [hk] at this;exact hne (Bb this)
 have Wo0: ∀b,u.ownBlock=some b->e.own b=some q\/(e.own b=none/\b=w.heap.size):=by
  intro b hb;rcases dX with ⟨h,_⟩|⟨g,W,A,Z⟩|h;rw [h] at hb;cases hb;rw [Z] at hb;refine .inl (iK b ?_);rw [A];exact hb;rw [h.1] at hb;cases hb;refine .inr ⟨?_,rfl⟩;cases ho:e.own w.heap.size with
  |none=>rfl
  |some k=>have:=(hE.owned _ _ ho).2;omega
 have EZ: ∀b,u.ownBlock=some b->b<w'.heap.size:=λb hb=>(ho.lt b hb).2;have st:Step e (e.aka id u) w w':=by
  refine ⟨λb hlt hrb=>⟨hrb,hg.block b hlt (I7 b hrb)⟩,λk hk=>?_,hg.size⟩;have hne:k≠id:=λhe=>hid (he▸hk);exact ⟨.inr hk,rfl,by simp [UL.aka,hne]⟩
 refine ⟨u,w',I,e.aka id u,⟨hg.os,hg.tape,hg.output,hg.size,λk hk=>hg.block k VJ (λhe=>by have:=(hE.owned k _ (iK k he.symm)).1;omega)⟩,st,⟨?_,?_,hE.glob.step st⟩,?_,?_,?_,λ_ h=>h⟩
 intro b hrb;have h1:=hE.apart b hrb;have h2:=hg.size;refine ⟨?_,VJ⟩;simp only [UL.aka,h1.1];rw [if_neg];intro hb;rcases Wo0 b hb with h|⟨_,h⟩;rw [h1.1] at h;cases h;have:=h1.2;omega;intro b k hk;simp only [UL.aka] at hk;split at hk;rename_i k' hk';have:=hE.owned b k' hk';have:=hg.size;exact ⟨(hE.owned b k' hk').1,VJ⟩;rename_i hno;split at hk;rename_i hub;refine ⟨?_,EZ b hub⟩;rcases Wo0 b hub with h|⟨_,h⟩;rw [hno] at h;cases h;omega;cases hk;rcases ho.2 with ⟨A,_⟩|⟨g,W,cur,A,_⟩;rw [A];exact .row id _ _ _ (.inl rfl) (by simp [UL.aka])
 rw [A];exact .row id _ _ _ (.inl rfl) (by simp [UL.aka])
 rintro k0 res0 (⟨rfl,rfl⟩|⟨hH,hrq,hak⟩)
 have hlq:e.live q:=by cases rs with|row _ _ _ _ hl _=>exact hl
 refine ⟨.inl rfl,.inr hlq,?_⟩;have Zp7: ∀i,i<n1+n2->(GI n1 f1 f2 i).length=ie.size/\ ∀a∈GI n1 f1 f2 i,Idf a:=by
  intro i hi';have hp:=L3 (c:=decide (i<n1)) (f1 i) (f2 (i-n1));by_cases hc:i<n1;have e1:decide (i<n1)=true:=by simpa using hc
  rw [e1] at hp;simp only [if_true] at hp;simp only [GI];rw [e1];refine ⟨by rw [hp.1];exact (hf1 i hc).1,λa ha=>?_⟩
  obtain ⟨q,hq⟩:=wR.1 ha;obtain ⟨y,hy,_,hy2⟩:=hp.2 q a hq;exact hy2 ((hf1 i hc).2 y (F5 hy));have e1:decide (i<n1)=false:=by simpa using hc
  rw [e1] at hp;simp only [Bw,if_false] at hp;simp only [GI];rw [e1];refine ⟨by rw [hp.1];exact (hf2 _ VJ).1,λa ha=>?_⟩
  obtain ⟨q,hq⟩:=wR.1 ha;obtain ⟨y,hy,_,hy2⟩:=hp.2 q a hq;exact hy2 ((hf2 _ VJ).2 y (F5 hy))
 have Wo8: ∀(i j:Nat) (a:AV) (v:Value),i<n1+n2->(GI n1 f1 f2 i)[j]? =some a->(xs++us)[i*ie.size+j]? =some v->Rep (e.aka k0 u) w' a v:=by
  intro i j a v hi' ha A;have hp:=L3 (c:=decide (i<n1)) (f1 i) (f2 (i-n1));have hxl:xs.length=n1*ie.size:=hx.1;by_cases hc:i<n1;have e1:decide (i<n1)=true:=by simpa using hc
  rw [e1] at hp;simp only [if_true] at hp;simp only [GI] at ha;rw [e1] at ha;obtain ⟨y,hy,hy1,_⟩:=hp.2 j a ha;have hj:j<ie.size:=by rw [←(hf1 i hc).1];exact (FV.1 hy).1
  have hle:i*ie.size+ie.size<=n1*ie.size:=by
   have:=BJ ie.size (Az hc)
   rwa [Bq] at this
  rw [Ce,if_pos VJ] at A;exact (hy1 _ _ _ (gL i j y v hc hy A)).step st;have e1:decide (i<n1)=false:=by simpa using hc
  rw [e1] at hp;simp only [Bw,if_false] at hp;simp only [GI] at ha;rw [e1] at ha;obtain ⟨y,hy,hy1,_⟩:=hp.2 j a ha;have hge:n1*ie.size<=i*ie.size:=BJ _ VJ;rw [Ce,if_neg VJ] at A;have e2:i*ie.size+j-xs.length=(i-n1)*ie.size+j:=by rw [hxl,Nat.sub_mul];omega
  rw [e2] at A;exact (hy1 _ _ _ (wB (i-n1) j y v VJ hy A)).step st
 have N0:(e.aka k0 u).val k0=u:=by simp [UL.aka]
 rcases dX with ⟨h1,h2⟩|⟨g,W,A,Z⟩|hb;refine ⟨k0,.inl rfl,λb hb=>?_,Zp7,xs++us,by rw [N0];exact ho,Wo8⟩
 rw [N0,h1] at hb;cases hb;refine ⟨q,.inr rfl,λb hb=>?_,Zp7,xs++us,by rw [N0];exact ho,Wo8⟩
 rw [N0,Z] at hb;exact UL.aka_own (iK b (by rw [A];exact hb))
 refine ⟨k0,.inl rfl,λb hb'=>?_,Zp7,xs++us,by rw [N0];exact ho,Wo8⟩
 rw [N0] at hb';rcases Wo0 b hb' with h|⟨h,h2⟩;exfalso;rw [hb.1] at hb';cases hb';have:=(hE.owned _ _ h).2;omega;simp [UL.aka,h,hb'];have hne:k0≠id:=λhe=>hid (he▸hH.live);have ev:(e.aka id u).val k0=e.val k0:=by simp only [UL.aka];rw [if_neg hne]
 have hown': ∀b k,e.own b=some k->k≠q->(e.aka id u).own b=some k/\w'.heap[b]? =w.heap[b]? :=λb k hb hkq=>⟨UL.aka_own hb,hg.block b (hE.owned b _ hb).2 (Jj0 b k hb hkq)⟩;cases res0 with
 |cells T l=>
  have hkq:k0≠q:=λh=>by have:=hrq h;simp [uR] at this
  obtain ⟨q1,q2,vs',q3,q4⟩:=hH;have hq:=hown' _ _ q2 hkq;exact ⟨.inr q1,hq.1,vs',hq.2.trans q3,q4.step st⟩
 |ints T pre n f=>
  have hkq:k0≠q:=λh=>by have:=hrq h;simp [uR] at this
  obtain ⟨q1,q2,vs',q3,q4⟩:=hH;have hq:=hown' _ _ q2 hkq;exact ⟨.inr q1,hq.1,vs',hq.2.trans q3,q4.step st⟩
 |memo h f=>
  have hkq:k0≠q:=λh=>by have:=hrq h;simp [uR] at this
  obtain ⟨q1,q2,es,c,q3,q4⟩:=hH;have hq:=hown' _ _ q2 hkq;exact ⟨.inr q1,hq.1,es,c,hq.2.trans q3,q4⟩
 |keep T l=>exact LH st hH
 |aka r T sz n f=>
  have hkq:k0≠q:=λh=>by have:=hrq h;simp [uR] at this
  obtain ⟨q1,q0,o,hor,q2,q5,ys,q3,q4⟩:=hH;have hoq:o≠q:=by
   rcases hor with rfl|rfl;exact hkq;rintro rfl;simp [HV] at hak
  refine ⟨.inr q1,.inr q0,o,hor,?_,q5,ys,?_,λi j a v O ha A=>(q4 i j a v O ha A).step st⟩;rw [ev];exact λb hb=>(hown' b o (q2 b hb) hoq).1;rw [ev];refine ⟨q3.1,q3.2.imp (λh=>h) ?_⟩;rintro ⟨g',W,cur,A,hg',hh,rest⟩;exact ⟨g',W,cur,A,hg',by rw [(hown' g' o (q2 g' (by rw [A];rfl)) hoq).2];exact hh,rest⟩
 |row T' sz' n' f'=>
  obtain ⟨q1,q2,q5,ys,q3,q4⟩:=hH;refine ⟨.inr q1,?_,q5,ys,?_,λi j a v O ha A=>(q4 i j a v O ha A).step st⟩;rw [ev];exact λb hb=>UL.aka_own (q2 b hb);rw [ev];by_cases hkq:k0=q;have hT:=hrq hkq;subst hkq;simp only [uR,GU] at hT;have hT1:T'=el:=GZ hT.1;have hT2:sz'=ie.size:=GZ hT.2;subst hT1;subst hT2;refine ⟨q3.1,q3.2.imp (λh=>h) ?_⟩;rintro ⟨g',cap',cur',hv',hg',hh',r1,r2,r3,r4⟩;rw [hvq] at hv';rcases dX with ⟨h1,h2⟩|⟨g,W,A,Z⟩|hb;rw [hv'] at h2;cases h2;rw [A] at hv';injection hv' with e1 e2 e3
  injection e1 with e1
  injection e1 with e1
  subst e1;subst e2;subst e3;rcases ho.2 with ⟨hv2,_⟩|⟨g2,cap2,cur2,hv2,_,hh2,s1,s2,s3,s4⟩;rw [Z] at hv2;cases hv2;rw [Z] at hv2;injection hv2 with e1 e2 e3
  injection e1 with e1
  injection e1 with e1
  subst e1;subst e3;refine ⟨g,W,cur2,by rw [hvq,A],hg',hh2,r1,r2,s3,?_⟩
  have hxs:xs=ys:=by
   rcases hx.2 with ⟨hv3,_⟩|⟨g3,cap3,cur3,hv3,_,hh3,_,_,_,t4⟩;rw [A] at hv3;cases hv3;rw [A] at hv3;injection hv3 with e1 e2 e3
   injection e1 with e1
   injection e1 with e1
   subst e1;rw [hh'] at hh3;injection hh3 with hh3
   injection hh3 with hh3
   rw [←t4,←r4,hh3]
  rw [←hxs];have hxl:xs.length=n1*ie.size:=hx.1;have h5:=congrArg (List.take (n1*ie.size)) s4;rw [List.take_take,Cd (BJ _ (Nat.le_add_right _ _)),←hxl,List.take_left] at h5;rw [←hxl];exact h5;exact ⟨g',cap',cur',by rw [hvq,hv'],hg',(hb.2 _ (P7.1 hh').1).trans hh',r1,r2,r3,r4⟩
  refine ⟨q3.1,q3.2.imp (λh=>h) ?_⟩;rintro ⟨g',W,cur,A,hg',hh,rest⟩;exact ⟨g',W,cur,A,hg',by rw [(hown' g' k0 (q2 g' (by rw [A];rfl)) hkq).2];exact hh,rest⟩
 rintro k (rfl|hk);exact .inr rfl;exact .inl hk;cases hap;cases hap;cases hap;cases hap;cases hap;cases h;cases h
theorem EK{m m':H2}{id:Nat}{t ty:TypeId}{s x val:AV}{vs vx:Value}{ns:List Prop}(h:FY P id m t s x=some (ns,val,m'))(hn: ∀p∈ns,p)
  (hE:UY e B w)(hB:B<=w.heap.size)(hm:UV e m w)(hid: ¬e.live id)(rs:Rep e w s vs)(rx:Rep e w x vx):
  ∃u w',(Builtin.append_ #[t,t] ty #[vs,vx]).run P w= .ok u w'/\M6 e B w id val m' u w':=by
 obtain ⟨u,w',I,⟨e',h1,h2,h3,h4,h5,h6,h7⟩,r,hm'⟩:=qJ (ty:=ty) h hn hE hB hm hid rs rx;refine ⟨u,w',I,e',h1,h2,h3,h4,?_,h6,h7⟩;intro p hp;rw [hm'] at hp;rcases GM.1 hp with rfl|hp;exact h5 _ _ (.inl ⟨⟨_,hm'⟩,rfl⟩);have hpm:p∈m/\ ∀k,s= .row k->p.1≠k/\HV k p.2=false:=by
  cases s with
  |row k=>exact ⟨(L6 hp).1,λk' hk'=>by cases hk';exact (L6 hp).2⟩
  |_=>exact ⟨hp,λk hk=>by cases hk⟩
 exact h5 p.1 p.2 (.inr ⟨hm p hpm.1,hpm.2⟩)
end
end
structure FG (P:Program) (t:TypeId) (h:Value->Prop) (k z:Value):Prop where
 kt: ∃kt et fs,P.underlying t=some (.map kt et)/\P.underlying kt=some (.struct fs)/\
  (∀b w,(Instr.checkKey b 10000 kt k).run P w= .ok () w)/\
  (∀k',h k'-> ∀w,∃r,(Op.equal kt k k').run P w= .ok r w/\(r=true->k'=k))/\(∀w,(zeroValue et).run P w= .ok z w)
 bits:Instr.sameBits 10000 k k=true
theorem IN{fs:Array Field}{k:Value}: ∀(es:List MapEntry) (i:Nat),Instr.findNow (.struct fs) k es i=some none\/Instr.findNow (.struct fs) k es i=none
 |[],_=> .inl rfl
 |e::es,i=>by
  right;unfold Instr.findNow;cases k<;>cases e.key<;>rfl
theorem jO{P:Program}{kt:TypeId}{h:Value->Prop}{k:Value}(heq: ∀k',h k'-> ∀w,∃r,(Op.equal kt k k').run P w= .ok r w/\(r=true->k'=k))(w:World):
  ∀(es:List MapEntry) (i:Nat),(∀x∈es,h x.key)->(Instr.findAsking kt k es i).run P w= .ok none w\/ ∃j x,es[j]? =some x/\x.key=k/\(Instr.findAsking kt k es i).run P w= .ok (some (i+j,x.val)) w
 |[],i,_=> .inl rfl
 |e::es,i,hh=>by
  obtain ⟨r,h1,h2⟩:=heq e.key (hh e GD) w;cases r with
  |true=>exact .inr ⟨0,e,rfl,h2 rfl,by simp [Instr.findAsking,h1]⟩
  |false=>
   rcases jO heq w es (i+1) (λx hx=>hh x (HL _ hx)) with h3|⟨j,x,h3,h4,h5⟩
   exact .inl (by simp [Instr.findAsking,h1,h3])
   refine .inr ⟨j+1,x,by simpa using h3,h4,?_⟩
   simp only [Instr.findAsking,At,h1,Result.andThen,Bw,if_false,h5]
   congr 3
   omega
theorem uN{P:Program}{kt:TypeId}{fs:Array Field}(Z:P.underlying kt=some (.struct fs)){h:Value->Prop}{k:Value}(heq: ∀k',h k'-> ∀w,∃r,(Op.equal kt k k').run P w= .ok r w/\(r=true->k'=k))(w:World)
  (es:List MapEntry)(hh: ∀x∈es,h x.key):(Instr.findKey kt k es).run P w= .ok none w\/ ∃j x,es[j]? =some x/\x.key=k/\(Instr.findKey kt k es).run P w= .ok (some (j,x.val)) w:=by
 unfold Instr.findKey;rcases IN (fs:=fs) (k:=k) es 0 with h1|h1;exact .inl (by simp [run_underlying Z,h1])
 rcases jO heq w es 0 hh with h2|⟨j,x,h2,h3,h4⟩;exact .inl (by simp [run_underlying Z,h1,h2])
 refine .inr ⟨j,x,h2,h3,?_⟩;simp [run_underlying Z,h1,h4]
def ES(ok:Bool)(v:Value)(b:Bool):Value:=if ok then .tuple #[v,.bool b] else v
section
variable {P:Program}{t:TypeId}{h:Value->Prop}{f:Value->Value}
theorem Wc1{k z:Value}(mk:FG P t h k z){w:World}{b c:Nat}{es:Array MapEntry}(hb:w.heap[b]? =some (.map es c))(hes: ∀x∈es.toList,h x.key/\x.val=f x.key)(ok:Bool):
  ∃v,(Instr.lookup t (.map (some b)) k ok).run P w= .ok v w/\((h k/\v=ES ok (f k) true)\/v=ES ok z false):=by
 obtain ⟨⟨kt,et,fs,h1,h2,h3,h4,h5⟩,_⟩:=mk;rcases uN h2 h4 w es.toList (λx hx=>(hes x hx).1) with hf|⟨j,x,hx,hk,hf⟩
 refine ⟨ES ok z false,?_,.inr rfl⟩;simp [Instr.lookup,run_underlying h1,MapKept.run_getObj_map hb,h3,hf,h5,Result.andThen,ES];have hm:=hes x (F5 hx);refine ⟨ES ok (f k) true,?_,.inl ⟨hk▸hm.1,rfl⟩⟩;have A:x.val=f k:=by rw [hm.2,hk]
 simp [Instr.lookup,run_underlying h1,MapKept.run_getObj_map hb,h3,hf,A,Result.andThen,ES]
theorem Xg5{k z v:Value}(mk:FG P t h k z)(hk:h k)(A:v=f k){w:World}{b c:Nat}{es:Array MapEntry}(hb:w.heap[b]? =some (.map es c))(hes: ∀x∈es.toList,h x.key/\x.val=f x.key):
  ∃es' c',(Instr.mapUpdate t (.map (some b)) k v).run P w= .ok () {w with heap:=w.heap.setIfInBounds b (.map es' c') }/\ ∀x∈es'.toList,h x.key/\x.val=f x.key:=by
 obtain ⟨⟨kt,et,fs,h1,h2,h3,h4,h5⟩,h6⟩:=mk;rcases uN h2 h4 w es.toList (λx hx=>(hes x hx).1) with hf|⟨j,x,hx,hkx,hf⟩
 refine ⟨es.push {key:=k,val:=v,born:=c},c+1,?_,?_⟩;simp [Instr.mapUpdate,run_underlying h1,MapKept.run_getObj_map hb,h3,hf,MapKept.run_setObj_map _ hb,Result.andThen];intro y hy;rw [Array.toList_push,Bc,PM] at hy;rcases hy with hy|rfl;exact hes y hy;exact ⟨hk,A⟩;refine ⟨es.modify j λe=>{e with key:=k,val:=v},c,?_,?_⟩
 have hj:es[j]? =some x:=by simpa using hx
 simp [Instr.mapUpdate,run_underlying h1,MapKept.run_getObj_map hb,h3,hf,hj,hkx,Instr.keyThatStays,h6,MapKept.run_setObj_map _ hb,Result.andThen];intro y hy;rw [Array.toList_modify] at hy;obtain ⟨n,hn⟩:=wR.1 hy;rw [List.getElem?_modify] at hn;cases hq:es.toList[n]? with
 |none=>rw [hq] at hn;simp at hn
 |some q=>
  rw [hq] at hn;by_cases hjn:j=n;simp [hjn] at hn;subst hn;exact ⟨hk,A⟩;simp [hjn] at hn;subst hn;exact hes q (F5 hq)
theorem NE{k z v:Value}{e:UL}{B:Nat}{w:World}{m:H2}{i:Nat}(hg:DG m i=some (.memo h f))(mk:FG P t h k z)(hk:h k)(A:v=f k)(hE:UY e B w)(hm:UV e m w):
  ∃w',(Instr.mapUpdate t (.map (some (e.blk i))) k v).run P w= .ok () w'/\ ∀(id:Nat) (u:Value),M6 e B w id .top ((i,.memo h f)::jF m i) u w':=by
 obtain ⟨h1,h2,es,c,h3,h4⟩:=hm _ (UW hg);obtain ⟨es',c',I,hes⟩:=Xg5 mk hk A h3 h4;refine ⟨_,I,λid u=>?_⟩;have hlt:=(P7.1 h3).1;have hsz:({w with heap:=w.heap.setIfInBounds (e.blk i) (.map es' c') }:World).heap.size=w.heap.size:=VT
 have RY: ∀b,b≠e.blk i->({w with heap:=w.heap.setIfInBounds (e.blk i) (.map es' c') }:World).heap[b]? =w.heap[b]? :=λb hb=>by simp [Ne.symm hb]
 have hB:=(hE.owned _ _ h2).1;refine ⟨e,?_,F8 hE h2 hsz RY,L4 hE hsz (F8 hE h2 hsz RY),.top _,?_,λ_ h=> .inl h,λ_ h=>h⟩;exact ⟨rfl,rfl,rfl,VT,λb hb=>RY b (by dsimp only at hB;omega)⟩
 intro p hp;rcases GM.1 hp with rfl|hp;exact ⟨h1,h2,es',c',by simp [hlt],hes⟩
 exact P4 hE h2 hsz RY (L6 hp).2 (hm p (L6 hp).1)
end
def Qv5(P:Program)(t:TypeId):Option Value:=match P.underlying t with
 |some (.map _ et)=>match P.info? et with
  |some i=>i.zero
  |none=>none
 |_=>none
def oX(ok:Bool)(v:Value)(b:Bool):AV:=match ok with
 |true=> .tup [.x v,.lit b]
 |false=> .x v
theorem EU(e:UL)(w:World)(ok:Bool)(v:Value)(b:Bool):Rep e w (oX ok v b) (ES ok v b):=by
 cases ok with
 |true=>exact Rep.tupL (U3.cons (.x v) (U3.one (.lit b)))
 |false=>exact .x v
def Zn3:AV->Bool
 | .lit true=>true
 |_=>false
theorem FG.mono{P:Program}{t:TypeId}{h h0:Value->Prop}{k z:Value}(hm: ∀v,h v->h0 v)(mk:FG P t h0 k z):FG P t h k z:=by
 obtain ⟨⟨kt,et,fs,h1,h2,h3,h4,h5⟩,b⟩:=mk;exact ⟨⟨kt,et,fs,h1,h2,h3,λk' hk=>h4 k' (hm k' hk),h5⟩,b⟩
theorem Qz9{P:Program}{t:TypeId}{h:Value->Prop}{f:Value->Value}{k z v:Value}{e:UL}{B:Nat}{w:World}{m:H2}{i:Nat}(hg:DG m i=some (.memo h f))(hf: ∀u,h u->f u=v)(mk:FG P t (λu=>h u\/u=k) k z)(hE:UY e B w)(hm:UV e m w):
  ∃w',(Instr.mapUpdate t (.map (some (e.blk i))) k v).run P w= .ok () w'/\ ∀(id:Nat) (u:Value),M6 e B w id .top ((i,.memo (λu=>h u\/u=k) (λ_=>v))::jF m i) u w':=by
 have hm2:UV e ((i,.memo (λu=>h u\/u=k) (λ_=>v))::jF m i) w:=by
  intro p hp;rcases GM.1 hp with rfl|hp;obtain ⟨h1,h2,es,c,h3,h4⟩:=hm _ (UW hg);exact ⟨h1,h2,es,c,h3,λx hx=>⟨.inl (h4 x hx).1,(h4 x hx).2.trans (hf _ (h4 x hx).1)⟩⟩;exact hm p (L6 hp).1
 obtain ⟨w',q1,q2⟩:=NE (P:=P) (t:=t) (m:=(i,.memo (λu=>h u\/u=k) (λ_=>v))::jF m i) (i:=i) (h:=λu=>h u\/u=k) (f:=λ_=>v) (k:=k) (z:=z) (v:=v) (by simp [DG]) mk (.inr rfl) rfl hE hm2
 refine ⟨w',q1,λid u=>?_⟩;obtain ⟨e',g1,g2,g3,g4,g5,g6,g7⟩:=q2 id u;refine ⟨e',g1,g2,g3,g4,λp hp=>?_,g6,g7⟩;rcases GM.1 hp with rfl|hp;exact g5 _ GD;refine g5 p (HL _ ?_);have hne:=(L6 hp).2;have hd: ∀(l:H2),p∈l->p∈jF l i:=by
  intro l hl
  induction l with
  |nil=>cases hl
  |cons q t ih=>
   obtain ⟨k',q⟩:=q;unfold jF;rcases GM.1 hl with rfl|hl;split;rename_i hk;rw [Bl] at hk;rcases hk with hk|hk;exact absurd (GZ hk) hne.1;rw [hne.2] at hk;cases hk;exact GD;split;exact ih hl;exact HL _ (ih hl)
 have h1:p∈(i,GO.memo (λu=>h u\/u=k) (λ_=>v))::jF m i:=HL _ hp;exact hd _ h1
section
variable {P:Program}
theorem cE{s:ByteArray}{j:Nat}{v:Value}(h:(Lib.strCells s)[j]? =some v):v= .int .u8 (byN s j):=by
 unfold Lib.strCells at h;rw [Bn] at h;cases hd:s.data.toList[j]? with
 |none=>rw [hd] at h;cases h
 |some b=>
  rw [hd] at h;simp only [Bt,HE] at h;rw [←h];unfold byN;have hd':s.data[j]? =some b:=by rw [←hd,Array.getElem?_toList]
  have hg:s.data.getD j 0=b:=by rw [P2,hd'];rfl
  rw [hg]
def zB:Value->Bool
 | .int k n=>decide (k= .u8)&&decide (n=0)
 |_=>false
theorem Zx8{z:Value}(h:zB z=true):z= .int .u8 0:=by
 unfold zB at h;split at h;rw [GU,qQ,qQ] at h;rw [h.1,h.2];cases h
def kZ(P:Program)(id:Nat)(m:H2)(t u:TypeId)(s x:AV):Option (List Prop×AV×H2):=
 match x with
 | .x (.string str)=>match P.underlying t with
  |some (.slice el)=>match P.underlying u with
   |some .string=>match P.info? el with
    |some ie=>match ie.zero with
     |some z=>match zB z&&Nat.beq ie.size 1&&Nat.beq ie.bytes 1 with
      |true=>match Qa8 m el 1 s with
       |some (n1,f1)=>some ([n1+str.size<=140737488355328],.row id,(id,.row el 1 (n1+str.size) (GI n1 f1 (DQ str)))::zU m s)
       |none=>none
      |false=>none
     |none=>none
    |none=>none
   |_=>none
  |_=>none
 |_=>none
theorem N7{w w':World}{t u ty el:TypeId}{ie:TypeInfo}{v v':Value}{n:Nat}{xs:List Value}{s:ByteArray}(ht:P.underlying t=some (.slice el))(Z:P.underlying u=some .string)(O:P.info? el=some ie)(hz:ie.zero=some (.int .u8 0))
  (hs1:ie.size=1)(hb1:ie.bytes=1)(H9:w.ownsRow 0 el 1 v n xs)(h63:n+s.size<=maxLen)(RH:n+s.size<=140737488355328)
  (I:(Builtin.append_ #[t,u] ty #[v,.string s]).run P w= .ok v' w')(kD:v'= .slice none 0 0↔v= .slice none 0 0/\s.size=0):
  v'.ownBlock=v.ownBlock\/v'.ownBlock=some w.heap.size:=by
 have Wo3:n+s.size<=9223372036854775807:=by simp only [maxLen] at h63;omega
 rcases H9.2 with ⟨rfl,rfl⟩|⟨g,W,cur,rfl,hbg,hg,hnc,hcm,hcs,kC⟩;by_cases hm:s.size=0;rw [kD.2 ⟨rfl,hm⟩];exact .inl rfl;have h2:=run_append_nil_string (P:=P) w t u ty el ie (.int .u8 0) ht Z O hz s VJ VJ (by rw [hb1];omega)
 rw [h2] at I;injection I with I _
 rw [←I];exact .inr rfl;by_cases I6:n+s.size<=W;have h2:=Lib.run_append_room_string (P:=P) w t u ty el ie ht Z O hs1 g n W cur hg s I6 VJ;rw [h2] at I;injection I with I _
 rw [←I];exact .inl rfl;have h2:=Lib.run_append_grow_string (P:=P) w t u ty el ie (.int .u8 0) ht Z O hz ⟨g,0,none⟩ n W xs (by rw [hs1];simpa using H9.1) (H9.cells (g:=g) rfl) s VJ VJ (by rw [hb1];exact growslice_fits VJ VJ)
 rw [h2] at I;injection I with I _
 rw [←I];exact .inr rfl
section
variable {e:UL}{B:Nat}{w:World}
theorem b9{m:H2}{id:Nat}{t u0 ty el:TypeId}{ie:TypeInfo}{s:AV}{str:ByteArray}{vs:Value}{n1:Nat}{f1:Ci}{xs:List Value}(ht:P.underlying t=some (.slice el))(Z:P.underlying u0=some .string)(O:P.info? el=some ie)(hz:ie.zero=some (.int .u8 0))(hs1:ie.size=1)(hy1:ie.bytes=1)
  (hE:UY e B w)(hB:B<=w.heap.size)(hid: ¬e.live id)(RH:n1+str.size<=140737488355328)(h63:n1+str.size<=maxLen)
  (hf1: ∀i,i<n1->(f1 i).length=1/\ ∀a∈f1 i,Idf a)(hob: ∀b,vs.ownBlock=some b-> ∃k,s= .row k/\e.own b=some k)(hx:w.ownsRow 0 el 1 vs n1 xs)
  (gL: ∀(i j:Nat) (a:AV) (u:Value),i<n1->(f1 i)[j]? =some a->xs[i*1+j]? =some u->Rep e w a u):
  ∃u w',(Builtin.append_ #[t,u0] ty #[vs,.string str]).run P w= .ok u w'/\bB e B w id (.row id) (λk res=>(∃tl,(id,GO.row el 1 (n1+str.size) (GI n1 f1 (DQ str)))::zU m s=(id,res)::tl)/\k=id\/GH e w k res/\ ∀q,s= .row q->k≠q/\HV q res=false) u w'/\ ∃r,(id,GO.row el 1 (n1+str.size) (GI n1 f1 (DQ str)))::zU m s=(id,r)::zU m s:=by
    obtain ⟨u,w',I,ho,hg,kD⟩:=Lib.run_append_own_string (P:=P) w 0 t u0 ty el ie ht Z O hz hs1 hy1 vs n1 xs hx str h63 RH (Ao _);have dX:=N7 ht Z O hz hs1 hy1 hx h63 RH I kD;have hf2: ∀i,i<str.size->(DQ str i).length=1/\ ∀a∈DQ str i,Idf a:=λi _=>⟨rfl,λa ha=>by
     rw [PM.1 ha];exact .x _⟩
    have wB: ∀(i j:Nat) (a:AV) (v:Value),i<str.size->(DQ str i)[j]? =some a->(Lib.strCells str)[i*1+j]? =some v->Rep e w a v:=by
     intro i j a v hi' ha A;cases j with
     |zero=>
      simp only [DQ,List.getElem?_cons_zero,HE] at ha;rw [Nat.mul_one,Bg] at A;rw [←ha,cE A];exact .x _
     |succ j=>simp [DQ] at ha
    have hoB: ∀b,vs.ownBlock=some b->B<=b/\e.ro b=False/\ ∃k,s= .row k/\e.own b=some k:=by
     intro b hb;obtain ⟨k,hk,hk'⟩:=hob b hb;refine ⟨(hE.owned b k hk').1,?_,k,hk,hk'⟩;apply propext;exact ⟨(λI=>by rw [(hE.apart b I).1] at hk';cases hk'),False.elim⟩
    have I7: ∀b,e.ro b->some b≠vs.ownBlock:=by
     intro b hrb he;have:=(hoB b he.symm).2.1;rw [this] at hrb;exact hrb
    have Zo8: ∀b,e.ro b->u.ownBlock≠some b:=by
     intro b hrb he;rcases dX with h|h;exact I7 b hrb (by rw [←he,h])
     rw [h] at he;have:=(hE.apart b hrb).2;simp at he;omega
    have EZ: ∀b,u.ownBlock=some b->b<w'.heap.size:=λb hb=>(ho.lt b hb).2;have st:Step e (e.app id u) w w':=by
     refine ⟨λb hlt hrb=>⟨hrb,hg.block b hlt (I7 b hrb)⟩,λk hk=>?_,hg.size⟩;have hne:k≠id:=λhe=>hid (he▸hk);exact ⟨.inr hk,rfl,by simp [UL.app,hne]⟩
    refine ⟨u,w',I,⟨e.app id u,⟨hg.os,hg.tape,hg.output,hg.size,λk hk=>hg.block k VJ (λhe=>by have:=(hoB k he.symm).1;omega)⟩,st,⟨?_,?_,hE.glob.step st⟩,?_,?_,?_,λ_ h=>h⟩,_,rfl⟩
    intro b hrb;have h1:=hE.apart b hrb;have h2:=hg.size;refine ⟨?_,VJ⟩;simp only [UL.app];rw [if_neg (Zo8 b hrb)];exact h1.1;intro b k hk;simp only [UL.app] at hk;split at hk;rename_i hub;refine ⟨?_,EZ b hub⟩;rcases dX with h|h;exact (hoB b (by rw [←h];exact hub)).1
    rw [h] at hub;cases hub;exact hB;have:=hE.owned b k hk;have:=hg.size;exact ⟨(hE.owned b k hk).1,VJ⟩;rcases ho.2 with ⟨A,_⟩|⟨g,W,cur,A,_⟩;rw [A];exact .row id _ _ _ (.inl rfl) (by simp [UL.app])
    rw [A];exact .row id _ _ _ (.inl rfl) (by simp [UL.app])
    intro k0 res0 hp;rcases hp with ⟨⟨tl,htl⟩,rfl⟩|⟨hH,hpm⟩;have htl':=(List.cons.inj htl).1;cases htl';refine ⟨.inl rfl,?_,?_,xs++Lib.strCells str,?_,?_⟩;intro b hb;simp only [UL.app,if_true] at hb ⊢;rw [if_pos hb];intro i hi';have hp:=L3 (c:=decide (i<n1)) (f1 i) (DQ str (i-n1));by_cases hc:i<n1;have e1:decide (i<n1)=true:=by simpa using hc
    rw [e1] at hp;simp only [if_true] at hp;simp only [GI];rw [e1];refine ⟨by rw [hp.1];exact (hf1 i hc).1,λa ha=>?_⟩
    obtain ⟨q,hq⟩:=wR.1 ha;obtain ⟨y,hy,_,hy2⟩:=hp.2 q a hq;exact hy2 ((hf1 i hc).2 y (F5 hy));have e1:decide (i<n1)=false:=by simpa using hc
    rw [e1] at hp;simp only [Bw,if_false] at hp;simp only [GI];rw [e1];refine ⟨by rw [hp.1];exact (hf2 _ VJ).1,λa ha=>?_⟩
    obtain ⟨q,hq⟩:=wR.1 ha;obtain ⟨y,hy,_,hy2⟩:=hp.2 q a hq;exact hy2 ((hf2 _ VJ).2 y (F5 hy));simpa [UL.app] using ho;intro i j a v hi' ha A;have hp:=L3 (c:=decide (i<n1)) (f1 i) (DQ str (i-n1));have hxl:xs.length=n1*1:=hx.1;by_cases hc:i<n1;have e1:decide (i<n1)=true:=by simpa using hc
    rw [e1] at hp;simp only [if_true] at hp;simp only [GI] at ha;rw [e1] at ha;obtain ⟨y,hy,hy1,_⟩:=hp.2 j a ha;have hj:j<1:=by rw [←(hf1 i hc).1];exact (FV.1 hy).1
    have hle:i*1+1<=n1*1:=by
     have:=BJ 1 (Az hc)
     rwa [Bq] at this
    rw [Ce,if_pos VJ] at A;exact (hy1 _ _ _ (gL i j y v hc hy A)).step st;have e1:decide (i<n1)=false:=by simpa using hc
    rw [e1] at hp;simp only [Bw,if_false] at hp;simp only [GI] at ha;rw [e1] at ha;obtain ⟨y,hy,hy1,_⟩:=hp.2 j a ha;have hge:n1*1<=i*1:=BJ _ VJ;rw [Ce,if_neg VJ] at A;have e2:i*1+j-xs.length=(i-n1)*1+j:=by rw [hxl,Nat.sub_mul];omega
    rw [e2] at A;exact (hy1 _ _ _ (wB (i-n1) j y v VJ hy A)).step st
    have hne:k0≠id:=by
     intro he;apply hid;rw [←he];exact hH.live
    have RY: ∀b k,e.own b=some k->k0=k->some b≠vs.ownBlock:=by
     intro b k hk hpk he;obtain ⟨_,_,k',hk',hk''⟩:=hoB b he.symm;rw [hk] at hk'';cases hk'';exact (hpm _ hk').1 hpk
    have hown': ∀b,e.own b=some k0->(e.app id u).own b=some k0/\w'.heap[b]? =w.heap[b]? :=by
     intro b hb;have N2:=(hE.owned b _ hb).2;have vU:=RY b _ hb rfl;refine ⟨?_,hg.block b N2 vU⟩;simp only [UL.app];rw [if_neg ?_];exact hb;intro he;rcases dX with h|h;exact vU (by rw [←he,h])
     rw [h] at he;simp at he;omega
    cases res0 with
    |cells T l=>
     obtain ⟨q1,q2,vs',q3,q4⟩:=hH;have hq:=hown' _ q2;exact ⟨.inr q1,hq.1,vs',hq.2.trans q3,q4.step st⟩
    |row T sz n f=>
     obtain ⟨q1,q2,q5,ys,q3,q4⟩:=hH;have ev:(e.app id u).val k0=e.val k0:=by simp only [UL.app];rw [if_neg hne]
     refine ⟨.inr q1,?_,q5,ys,?_,λi j a v O ha A=>(q4 i j a v O ha A).step st⟩;rw [ev];exact λb hb=>(hown' b (q2 b hb)).1;rw [ev];refine ⟨q3.1,q3.2.imp (λh=>h) ?_⟩;rintro ⟨g',W,cur,A,hg',hh,rest⟩;exact ⟨g',W,cur,A,hg',by rw [(hown' g' (q2 g' (by rw [A];rfl))).2];exact hh,rest⟩
    |ints T pre n f=>
     obtain ⟨q1,q2,vs',q3,q4⟩:=hH;have hq:=hown' _ q2;exact ⟨.inr q1,hq.1,vs',hq.2.trans q3,q4.step st⟩
    |memo h f=>
     obtain ⟨q1,q2,es,c,q3,q4⟩:=hH;have hq:=hown' _ q2;exact ⟨.inr q1,hq.1,es,c,hq.2.trans q3,q4⟩
    |keep T l=>exact LH st hH
    |aka r T sz n f=>
     obtain ⟨q1,q0,o,hor,q2,q5,ys,q3,q4⟩:=hH;have ev:(e.app id u).val k0=e.val k0:=by simp only [UL.app];rw [if_neg hne]
     have hoq: ∀q,s= .row q->o≠q:=by
      intro q hs;rcases hor with rfl|rfl;exact (hpm q hs).1;have:=(hpm q hs).2;rintro rfl;simp [HV] at this
     have iT: ∀b,e.own b=some o->(e.app id u).own b=some o/\w'.heap[b]? =w.heap[b]? :=by
      intro b hb;have N2:=(hE.owned b _ hb).2;have vU:some b≠vs.ownBlock:=by
       intro he;obtain ⟨_,_,k',hk',hk''⟩:=hoB b he.symm;rw [hb] at hk'';exact hoq _ hk' (Bb hk'')
      refine ⟨?_,hg.block b N2 vU⟩;simp only [UL.app];rw [if_neg ?_];exact hb;intro he;rcases dX with h|h;exact vU (by rw [←he,h])
      rw [h] at he;simp at he;omega
     refine ⟨.inr q1,.inr q0,o,hor,?_,q5,ys,?_,λi j a v O ha A=>(q4 i j a v O ha A).step st⟩;rw [ev];exact λb hb=>(iT b (q2 b hb)).1;rw [ev];refine ⟨q3.1,q3.2.imp (λh=>h) ?_⟩;rintro ⟨g',W,cur,A,hg',hh,rest⟩;exact ⟨g',W,cur,A,hg',by rw [(iT g' (q2 g' (by rw [A];rfl))).2];exact hh,rest⟩
    rintro k (rfl|hk);exact .inr rfl;exact .inl hk
theorem rW{m m':H2}{id:Nat}{t u0 ty:TypeId}{s x val:AV}{vs vx:Value}{ns:List Prop}(h:kZ P id m t u0 s x=some (ns,val,m'))(hn: ∀p∈ns,p)
  (hE:UY e B w)(hB:B<=w.heap.size)(hm:UV e m w)(hid: ¬e.live id)(rs:Rep e w s vs)(rx:Rep e w x vx):
  ∃u w',(Builtin.append_ #[t,u0] ty #[vs,vx]).run P w= .ok u w'/\bB e B w id val (λk res=>(∃tl,m'=(id,res)::tl)/\k=id\/GH e w k res/\ ∀q,s= .row q->k≠q/\HV q res=false) u w'/\ ∃r,m'=(id,r)::zU m s:=by
 unfold kZ at h;split at h;rename_i str;cases rx.x_inv;split at h;rename_i el ht;split at h;rename_i Z;split at h;rename_i ie O;split at h;rename_i z hz;split at h;rename_i hb;simp only [GU] at hb;obtain ⟨⟨hb1,hb2⟩,hb3⟩:=hb;have hzz:=Zx8 hb1;subst hzz;have hs1:ie.size=1:=GZ hb2;have hy1:ie.bytes=1:=GZ hb3;split at h;rename_i n1 f1 hro;simp only [HE,FF] at h;obtain ⟨rfl,rfl,rfl⟩:=h;have RH:n1+str.size<=140737488355328:=hn _ VT;obtain ⟨hf1,hob,xs,hx,gL⟩:=dF hro hm rs;have h63:n1+str.size<=maxLen:=by unfold maxLen;omega
 exact b9 ht Z O hz hs1 hy1 hE hB hid RH h63 hf1 hob hx gL;cases h;cases h;cases h;cases h;cases h;cases h;cases h
theorem rV{m m':H2}{id:Nat}{t u0 ty:TypeId}{s x val:AV}{vs vx:Value}{ns:List Prop}(h:kZ P id m t u0 s x=some (ns,val,m'))(hn: ∀p∈ns,p)
  (hE:UY e B w)(hB:B<=w.heap.size)(hm:UV e m w)(hid: ¬e.live id)(rs:Rep e w s vs)(rx:Rep e w x vx):
  ∃u w',(Builtin.append_ #[t,u0] ty #[vs,vx]).run P w= .ok u w'/\M6 e B w id val m' u w':=by
 obtain ⟨u,w',I,⟨e',h1,h2,h3,h4,h5,h6,h7⟩,r,hm'⟩:=rW (ty:=ty) h hn hE hB hm hid rs rx;refine ⟨u,w',I,e',h1,h2,h3,h4,?_,h6,h7⟩;intro p hp;rw [hm'] at hp;rcases GM.1 hp with rfl|hp;exact h5 _ _ (.inl ⟨⟨_,hm'⟩,rfl⟩);have hpm:p∈m/\ ∀k,s= .row k->p.1≠k/\HV k p.2=false:=by
  cases s with
  |row k=>exact ⟨(L6 hp).1,λk' hk'=>by cases hk';exact (L6 hp).2⟩
  |_=>exact ⟨hp,λk hk=>by cases hk⟩
 exact h5 p.1 p.2 (.inr ⟨hm p hpm.1,hpm.2⟩)
end
end
