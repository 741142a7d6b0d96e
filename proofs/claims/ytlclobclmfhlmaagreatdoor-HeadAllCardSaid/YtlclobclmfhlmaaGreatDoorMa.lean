/- Contracts, put together. Conditions: those of each. -/
import Derived.Deep.Slices
import Derived.Great.BuildSlice
import Derived.Laws.IdiomStrings
import Derived.Laws.MakeOwn
import Derived.Lib.AppendStr
import Derived.MapKept
import Derived.Orders
import Derived.OrdersIn
import Derived.ProofKit
import Derived.RangeFuncNested
import Derived.RangeFuncOwn
import Derived.Scope
import Derived.SizedLaws
import Derived.Still
import Derived.WalkKit
import Derived.WalkLawsBesides
set_option linter.unusedSimpArgs false
set_option linter.unusedVariables false
namespace Go.Sx
open Go
def GP:Nat->Option (Obj->Prop)
 | 0=>some λo=> ∃te pe T fr,o= .cells #[.iface te pe] T fr
 | 1=>some λo=> ∃te pe T fr,o= .cells #[.iface te pe] T fr
 | 2=>some λo=> ∃T fr,o= .cells ((List.range 20).map λk=>Value.int .u64 ((10^k:Nat):Int)).toArray T fr
 | 3=>some λo=> ∃m T fr,o= .cells #[.int .i64 m] T fr
 |_=>none
open Go Go.RowKit
inductive AV where
 |top
 |lit (b:Bool)
 |x (v:Value)
 |agg (l:List AV)
 |tup (l:List AV)
 |fn (f:Fn) (first caps:List AV)
 |ptr (id off:Nat)
 |row (id:Nat)
 |elt (id sz i j:Nat)
 |ro (l:List AV)
 |lst (sz n:Nat) (f:Nat->List AV)
 |mp (id:Nat)
 |roI (pre:List AV) (n:Nat) (f:Nat->Int) (off:Nat)
 |mpr (g:ByteArray->List AV) (okf:ByteArray->Bool)
 |any1
def HK(n:Nat)(f:Nat->Int):List AV:=(List.range n).map λk=> .x (.int .i64 (f k))
inductive Idf:AV->Prop
 |top:Idf .top
 |lit (b:Bool):Idf (.lit b)
 |x (v:Value):Idf (.x v)
 |agg (l:List AV):(∀a∈l,Idf a)->Idf (.agg l)
 |tup (l:List AV):(∀a∈l,Idf a)->Idf (.tup l)
 |fn (f:Fn) (l l':List AV):(∀a∈l,Idf a)->(∀a∈l',Idf a)->Idf (.fn f l l')
 |ro (l:List AV):(∀a∈l,Idf a)->Idf (.ro l)
 |lst (sz n:Nat) (f:Nat->List AV):(∀i,i<n-> ∀a∈f i,Idf a)->Idf (.lst sz n f)
 |roI (pre:List AV) (n:Nat) (f:Nat->Int) (off:Nat):Idf (.ro (pre++HK n f))->Idf (.roI pre n f off)
 |mpr (g:ByteArray->List AV) (okf:ByteArray->Bool):(∀s,∀a∈g s,Idf a)->Idf (.mpr g okf)
 |any1:Idf .any1
structure UJ where
 ro:Nat->Prop
 own:Nat->Option Nat
 live:Nat->Prop
 blk:Nat->Nat
 val:Nat->Value
inductive Rep (e:UJ) (w:World):AV->Value->Prop
 |top (v:Value):Rep e w .top v
 |lit (b:Bool):Rep e w (.lit b) (.bool b)
 |x (v:Value):Rep e w (.x v) v
 |agg (l:List AV) (vs:List Value):l.length=vs.length->(∀(i:Nat) (a:AV) (v:Value),l[i]? =some a->vs[i]? =some v->Rep e w a v)->Rep e w (.agg l) (.agg vs.toArray)
 |tup (l:List AV) (vs:List Value):l.length=vs.length->(∀(i:Nat) (a:AV) (v:Value),l[i]? =some a->vs[i]? =some v->Rep e w a v)->Rep e w (.tup l) (.tuple vs.toArray)
 |fn (f:Fn) (l l':List AV) (vs vs':List Value):l.length=vs.length->(∀(i:Nat) (a:AV) (v:Value),l[i]? =some a->vs[i]? =some v->Rep e w a v)->
   l'.length=vs'.length->(∀(i:Nat) (a:AV) (v:Value),l'[i]? =some a->vs'[i]? =some v->Rep e w a v)->Rep e w (.fn f l l') (.func f vs.toArray vs'.toArray)
 |ptr (id off:Nat):e.live id->Rep e w (.ptr id off) (.pointer (some ⟨e.blk id,off,none⟩))
 |row (id:Nat) (a:Option Addr) (n c:Nat):e.live id->e.val id= .slice a n c->Rep e w (.row id) (.slice a n c)
 |elt (id sz i j b n cap:Nat):e.live id->e.val id= .slice (some ⟨b,0,none⟩) n cap->Rep e w (.elt id sz i j) (.pointer (some ⟨b,i*sz+j,none⟩))
 |ro (l:List AV) (vs:List Value) (b o:Nat):e.ro b->b<w.heap.size->(∀a∈l,Idf a)->l.length=vs.length->(∀(j:Nat) (v:Value),vs[j]? =some v->w.cell? ⟨b,o+j,none⟩=some v)->
   (∀(i:Nat) (a:AV) (v:Value),l[i]? =some a->vs[i]? =some v->Rep e w a v)->Rep e w (.ro l) (.pointer (some ⟨b,o,none⟩))
 |lstNil (sz:Nat) (f:Nat->List AV):Rep e w (.lst sz 0 f) (.slice none 0 0)
 |lst (sz n:Nat) (f:Nat->List AV) (b o cap:Nat) (g:Nat->Nat->Value):(0<n->e.ro b)->(0<n->b<w.heap.size)->(∀i,i<n-> ∀a∈f i,Idf a)->n<=cap->cap<=maxLen->
   (∀i j:Nat,i<n->j<sz->w.cell? ⟨b,o+(i*sz+j),none⟩=some (g i j))->(∀i:Nat,i<n->(f i).length=sz)->
   (∀(i j:Nat) (a:AV),i<n->(f i)[j]? =some a->Rep e w a (g i j))->(ad:Addr)->(0<n->ad=⟨b,o,none⟩)->Rep e w (.lst sz n f) (.slice (some ad) n cap)
 |mp (id:Nat):e.live id->Rep e w (.mp id) (.map (some (e.blk id)))
 |roI (pre:List AV) (n:Nat) (f:Nat->Int) (off b o:Nat):Rep e w (.ro (pre++HK n f)) (.pointer (some ⟨b,o,none⟩))->Rep e w (.roI pre n f off) (.pointer (some ⟨b,o+off,none⟩))
 |mpr (g:ByteArray->List AV) (okf:ByteArray->Bool) (vals:ByteArray->List Value) (b:Nat) (es:Array MapEntry) (c:Nat):e.ro b->b<w.heap.size->(∀s,∀a∈g s,Idf a)->w.heap[b]? =some (.map es c)->
   (∀s,okf s=true-> ∃j,Instr.findNow .string (.string s) es.toList 0=some (some (j,.agg (vals s).toArray)))->(∀s,okf s=false->Instr.findNow .string (.string s) es.toList 0=some none/\ ∀a∈g s,a= .top\/a= .any1)->
   (∀s,okf s=true->(g s).length=(vals s).length)->(∀(s:ByteArray) (i:Nat) (a:AV) (v:Value),okf s=true->(g s)[i]? =some a->(vals s)[i]? =some v->Rep e w a v)->Rep e w (.mpr g okf) (.map (some b))
 |any1 (v:Value):v.oneCell'=true->Rep e w .any1 v
def U1(e:UJ)(w:World)(l:List AV)(vs:List Value):Prop:=l.length=vs.length/\ ∀(i:Nat) (a:AV) (v:Value),l[i]? =some a->vs[i]? =some v->Rep e w a v
theorem U1.nil(e:UJ)(w:World):U1 e w [] []:=⟨rfl,λi a v h=>by simp at h⟩
theorem U1.cons{e:UJ}{w:World}{a:AV}{v:Value}{l:List AV}{vs:List Value}(h:Rep e w a v)(t:U1 e w l vs):U1 e w (a::l) (v::vs):=by
 refine ⟨by simp [t.1],λi b u hb hu=>?_⟩
 cases i with
 |zero=>simp at hb hu;subst hb;subst hu;exact h
 |succ i=>simp at hb hu;exact t.2 i b u hb hu
theorem U1.cons_inv{e:UJ}{w:World}{a:AV}{l:List AV}{vs:List Value}(h:U1 e w (a::l) vs): ∃v vs',vs=v::vs'/\Rep e w a v/\U1 e w l vs':=by
 cases vs with
 |nil=>have:=h.1;simp at this
 |cons v vs'=>
  refine ⟨v,vs',rfl,h.2 0 a v (by simp) (by simp),⟨by have:=h.1;simpa using this,λi b u hb hu=>h.2 (i+1) b u (by simpa using hb) (by simpa using hu)⟩⟩
theorem U1.nil_inv{e:UJ}{w:World}{vs:List Value}(h:U1 e w [] vs):vs=[]:=by
 exact List.eq_nil_of_length_eq_zero h.1.symm
theorem U1.append{e:UJ}{w:World}{l l':List AV}{vs vs':List Value}(h:U1 e w l vs)(h':U1 e w l' vs'):U1 e w (l++l') (vs++vs'):=by
 refine ⟨by simp [h.1,h'.1],λi a v ha hv=>?_⟩
 rw [List.getElem?_append] at ha hv;rw [←h.1] at hv;split at ha
 ·rename_i hi;rw [if_pos hi] at hv;exact h.2 _ _ _ ha hv
 ·rename_i hi;rw [if_neg hi] at hv;exact h'.2 _ _ _ ha hv
theorem U1.get{e:UJ}{w:World}{l:List AV}{vs:List Value}(h:U1 e w l vs){i:Nat}{a:AV}(ha:l[i]? =some a): ∃v,vs[i]? =some v/\Rep e w a v:=by
 have hi:i<vs.length:=by rw [←h.1];exact (List.getElem?_eq_some_iff.1 ha).1
 exact ⟨vs[i],List.getElem?_eq_getElem hi,h.2 i a _ ha (List.getElem?_eq_getElem hi)⟩
theorem U1.set{e:UJ}{w:World}{l:List AV}{vs:List Value}(h:U1 e w l vs){a:AV}{v:Value}(r:Rep e w a v)(k:Nat):U1 e w (l.set k a) (vs.set k v):=by
 refine ⟨by simp [h.1],λi b u hb hu=>?_⟩
 rw [List.getElem?_set] at hb hu;by_cases hk:k=i
 ·subst hk;simp only [if_true] at hb hu;split at hb
  ·rename_i h1;rw [if_pos (by rw [←h.1];exact h1)] at hu;cases hb;cases hu;exact r
  ·cases hb
 ·rw [if_neg hk] at hb hu;exact h.2 _ _ _ hb hu
theorem U1.take{e:UJ}{w:World}{l:List AV}{vs:List Value}(h:U1 e w l vs)(k:Nat):U1 e w (l.take k) (vs.take k):=by
 refine ⟨by simp [h.1],λi b u hb hu=>?_⟩
 rw [List.getElem?_take] at hb hu;split at hb
 ·rename_i hi;rw [if_pos hi] at hu;exact h.2 _ _ _ hb hu
 ·cases hb
theorem U1.drop{e:UJ}{w:World}{l:List AV}{vs:List Value}(h:U1 e w l vs)(k:Nat):U1 e w (l.drop k) (vs.drop k):=by
 refine ⟨by simp [h.1],λi b u hb hu=>?_⟩
 rw [List.getElem?_drop] at hb hu;exact h.2 _ _ _ hb hu
theorem Rep.aggL{e:UJ}{w:World}{l:List AV}{vs:List Value}(h:U1 e w l vs):Rep e w (.agg l) (.agg vs.toArray):= .agg l vs h.1 h.2
theorem Rep.tupL{e:UJ}{w:World}{l:List AV}{vs:List Value}(h:U1 e w l vs):Rep e w (.tup l) (.tuple vs.toArray):= .tup l vs h.1 h.2
theorem Rep.agg_inv{e:UJ}{w:World}{l:List AV}{v:Value}(h:Rep e w (.agg l) v): ∃vs:List Value,v= .agg vs.toArray/\U1 e w l vs:=by
 cases h with|agg l vs h1 h2=>exact ⟨vs,rfl,h1,h2⟩
theorem Rep.tup_inv{e:UJ}{w:World}{l:List AV}{v:Value}(h:Rep e w (.tup l) v): ∃vs:List Value,v= .tuple vs.toArray/\U1 e w l vs:=by
 cases h with|tup l vs h1 h2=>exact ⟨vs,rfl,h1,h2⟩
theorem Rep.fn_inv{e:UJ}{w:World}{f:Fn}{l l':List AV}{v:Value}(h:Rep e w (.fn f l l') v): ∃vs vs':List Value,v= .func f vs.toArray vs'.toArray/\U1 e w l vs/\U1 e w l' vs':=by
 cases h with|fn f l l' vs vs' h1 h2 h3 h4=>exact ⟨vs,vs',rfl,⟨h1,h2⟩,h3,h4⟩
theorem Rep.x_inv{e:UJ}{w:World}{u v:Value}(h:Rep e w (.x u) v):v=u:=by cases h;rfl
theorem Rep.lit_inv{e:UJ}{w:World}{b:Bool}{v:Value}(h:Rep e w (.lit b) v):v= .bool b:=by cases h;rfl
structure Step (e e':UJ) (w w':World):Prop where
 ro: ∀b,b<w.heap.size->e.ro b->e'.ro b/\w'.heap[b]? =w.heap[b]?
 live: ∀id,e.live id->e'.live id/\e'.blk id=e.blk id/\e'.val id=e.val id
 size:w.heap.size<=w'.heap.size
theorem Step.refl(e:UJ)(w:World):Step e e w w:=⟨λ_ _ h=>⟨h,rfl⟩,λ_ h=>⟨h,rfl,rfl⟩,Nat.le_refl _⟩
theorem Step.trans{e e' e'':UJ}{w w' w'':World}(h:Step e e' w w')(k:Step e' e'' w' w''):Step e e'' w w'':=by
 refine ⟨λb hb hr=>?_,λid hi=>?_,Nat.le_trans h.size k.size⟩
 ·obtain ⟨h1,h2⟩:=h.ro b hb hr;obtain ⟨k1,k2⟩:=k.ro b (Nat.lt_of_lt_of_le hb h.size) h1;exact ⟨k1,k2.trans h2⟩
 ·obtain ⟨h1,h2,h3⟩:=h.live id hi;obtain ⟨k1,k2,k3⟩:=k.live id h1;exact ⟨k1,k2.trans h2,k3.trans h3⟩
theorem Rep.step{e e':UJ}{w w':World}(s:Step e e' w w'){a:AV}{v:Value}(h:Rep e w a v):Rep e' w' a v:=by
 induction h with
 |top v=>exact .top v
 |lit b=>exact .lit b
 |x v=>exact .x v
 |agg l vs h1 h2 ih=>exact .agg l vs h1 ih
 |tup l vs h1 h2 ih=>exact .tup l vs h1 ih
 |fn f l l' vs vs' h1 h2 h3 h4 ih1 ih2=>exact .fn f l l' vs vs' h1 ih1 h3 ih2
 |ptr id off hl=>obtain ⟨h1,h2,h3⟩:=s.live id hl;rw [←h2];exact .ptr id off h1
 |row id a n c hl hv=>obtain ⟨h1,h2,h3⟩:=s.live id hl;exact .row id a n c h1 (h3.trans hv)
 |elt id sz i j b n cap hl hv=>obtain ⟨h1,h2,h3⟩:=s.live id hl;exact .elt id sz i j b n cap h1 (h3.trans hv)
 |ro l vs b o hr hb hf h1 h2 h3 ih=>
  obtain ⟨k1,k2⟩:=s.ro b hb hr;exact .ro l vs b o k1 (Nat.lt_of_lt_of_le hb s.size) hf h1 (λj v hj=>(World.cell?_of_block (a:=⟨b,o+j,none⟩) k2).trans (h2 j v hj)) ih
 |lstNil sz f=>exact .lstNil sz f
 |lst sz n f b o cap g hr hb hf hc hm h1 h2 h3 ad had ih=>
  exact .lst sz n f b o cap g (λh=>(s.ro b (hb h) (hr h)).1) (λh=>Nat.lt_of_lt_of_le (hb h) s.size) hf hc hm (λi j hi hj=>(World.cell?_of_block (a:=⟨b,o+(i*sz+j),none⟩) (s.ro b (hb (by omega)) (hr (by omega))).2).trans (h1 i j hi hj)) h2 ih ad had
 |mp id hl=>obtain ⟨h1,h2,h3⟩:=s.live id hl;rw [←h2];exact .mp id h1
 |roI pre n f off b o h ih=>exact .roI pre n f off b o ih
 |mpr g okf vals b es c hr hb hf h1 h2 h3 h4 h5 ih=>
  obtain ⟨k1,k2⟩:=s.ro b hb hr;exact .mpr g okf vals b es c k1 (Nat.lt_of_lt_of_le hb s.size) hf (k2.trans h1) h2 h3 h4 ih
 |any1 v hv=>exact .any1 v hv
theorem U1.step{e e':UJ}{w w':World}(s:Step e e' w w'){l:List AV}{vs:List Value}(h:U1 e w l vs):U1 e' w' l vs:=⟨h.1,λi a v ha hv=>(h.2 i a v ha hv).step s⟩
theorem Rep.idf{e e':UJ}{w:World}(hr: ∀b,e.ro b->e'.ro b){a:AV}{v:Value}(h:Rep e w a v)(k:Idf a):Rep e' w a v:=by
 induction h with
 |top v=>exact .top v
 |lit b=>exact .lit b
 |x v=>exact .x v
 |agg l vs h1 h2 ih=>cases k with|agg l k=>exact .agg l vs h1 (λi a v ha hv=>ih i a v ha hv (k a (List.mem_of_getElem? ha)))
 |tup l vs h1 h2 ih=>cases k with|tup l k=>exact .tup l vs h1 (λi a v ha hv=>ih i a v ha hv (k a (List.mem_of_getElem? ha)))
 |fn f l l' vs vs' h1 h2 h3 h4 ih1 ih2=>
  cases k with
  |fn f l l' k k'=>exact .fn f l l' vs vs' h1 (λi a v ha hv=>ih1 i a v ha hv (k a (List.mem_of_getElem? ha))) h3 (λi a v ha hv=>ih2 i a v ha hv (k' a (List.mem_of_getElem? ha)))
 |ptr id off hl=>cases k
 |row id a n c hl hv=>cases k
 |elt id sz i j b n cap hl hv=>cases k
 |ro l vs b o hb hlt hf h1 h2 h3 ih=>exact .ro l vs b o (hr b hb) hlt hf h1 h2 (λi a v ha hv=>ih i a v ha hv (hf a (List.mem_of_getElem? ha)))
 |lstNil sz f=>exact .lstNil sz f
 |lst sz n f b o cap g hb hlt hf hc hm h1 h2 h3 ad had ih=>exact .lst sz n f b o cap g (λh=>hr b (hb h)) hlt hf hc hm h1 h2 (λi j a hi ha=>ih i j a hi ha (hf i hi a (List.mem_of_getElem? ha))) ad had
 |mp id hl=>cases k
 |roI pre n f off b o h ih=>cases k with|roI _ _ _ _ k=>exact .roI pre n f off b o (ih k)
 |mpr g okf vals b es c hb hlt hf h1 h2 h3 h4 h5 ih=>exact .mpr g okf vals b es c (hr b hb) hlt hf h1 h2 h3 h4 (λs i a v ho ha hv=>ih s i a v ho ha hv (hf s a (List.mem_of_getElem? ha)))
 |any1 v hv=>exact .any1 v hv
inductive GM where
 |cells (T:TypeId) (l:List AV)
 |row (T:TypeId) (sz n:Nat) (f:Nat->List AV)
 |memo (h:Value->Prop) (f:Value->Value)
 |ints (T:TypeId) (pre:List AV) (n:Nat) (f:Nat->Int)
 |aka (r:Nat) (T:TypeId) (sz n:Nat) (f:Nat->List AV)
 |keep (T:TypeId) (l:List AV)
def Jm0(e:UJ)(w:World)(id o:Nat)(T:TypeId)(sz n:Nat)(f:Nat->List AV):Prop:=
 (∀b,(e.val id).ownBlock=some b->e.own b=some o)/\(∀i,i<n->(f i).length=sz/\ ∀a∈f i,Idf a)/\
   ∃xs:List Value,w.ownsRow 0 T sz (e.val id) n xs/\ ∀(i j:Nat) (a:AV) (v:Value),i<n->(f i)[j]? =some a->xs[i*sz+j]? =some v->Rep e w a v
def HR(i:Nat):GM->Bool
 | .aka r _ _ _ _=>Nat.beq r i
 |_=>false
def GF(e:UJ)(w:World)(id:Nat):GM->Prop
 | .cells T l=>e.live id/\e.own (e.blk id)=some id/\ ∃vs:List Value,w.heap[e.blk id]? =some (.cells vs.toArray T (0,0))/\U1 e w l vs
 | .row T sz n f=>e.live id/\(∀b,(e.val id).ownBlock=some b->e.own b=some id)/\(∀i,i<n->(f i).length=sz/\ ∀a∈f i,Idf a)/\
   ∃xs:List Value,w.ownsRow 0 T sz (e.val id) n xs/\ ∀(i j:Nat) (a:AV) (v:Value),i<n->(f i)[j]? =some a->xs[i*sz+j]? =some v->Rep e w a v
 | .memo h f=>e.live id/\e.own (e.blk id)=some id/\ ∃(es:Array MapEntry) (c:Nat),w.heap[e.blk id]? =some (.map es c)/\ ∀x∈es.toList,h x.key/\x.val=f x.key
 | .ints T pre n f=>e.live id/\e.own (e.blk id)=some id/\ ∃vs:List Value,w.heap[e.blk id]? =some (.cells vs.toArray T (0,0))/\U1 e w (pre++HK n f) vs
 | .aka r T sz n f=>e.live id/\e.live r/\ ∃o,(o=id\/o=r)/\Jm0 e w id o T sz n f
 | .keep T l=>e.live id/\e.ro (e.blk id)/\e.blk id<w.heap.size/\ ∃vs:List Value,w.heap[e.blk id]? =some (.cells vs.toArray T (0,0))/\U1 e w l vs
theorem GF.live{e:UJ}{w:World}{id:Nat}{r:GM}(h:GF e w id r):e.live id:=by
 cases r<;>exact h.1
theorem LC{e e':UJ}{w w':World}(s:Step e e' w w'){id:Nat}{T:TypeId}{l:List AV}(h:GF e w id (.keep T l)):GF e' w' id (.keep T l):=by
 obtain ⟨h1,h2,h3,vs,h4,h5⟩:=h;obtain ⟨l1,l2,l3⟩:=s.live id h1;obtain ⟨k1,k2⟩:=s.ro _ h3 h2;refine ⟨l1,by rw [l2];exact k1,by rw [l2];exact Nat.lt_of_lt_of_le h3 s.size,vs,?_,h5.step s⟩
 rw [l2,k2];exact h4
abbrev GY:=List (Nat×GM)
def UT(e:UJ)(m:GY)(w:World):Prop:= ∀p∈m,GF e w p.1 p.2
def DB(e:UJ)(w:World):Prop:= ∀b p,GP b=some p->e.ro b/\b<w.heap.size/\ ∃o,w.heap[b]? =some o/\o.isCells=true/\p o
theorem DB.step{e e':UJ}{w w':World}(h:DB e w)(s:Step e e' w w'):DB e' w':=λb p hp=>by
 obtain ⟨h1,h2,o,h3,h4⟩:=h b p hp;obtain ⟨k1,k2⟩:=s.ro b h2 h1;exact ⟨k1,Nat.lt_of_lt_of_le h2 s.size,o,k2.trans h3,h4⟩
structure UW (e:UJ) (B:Nat) (w:World):Prop where
 apart: ∀b,e.ro b->e.own b=none/\b<w.heap.size
 owned: ∀b id,e.own b=some id->B<=b/\b<w.heap.size
 glob:DB e w
end Go.Sx
namespace Go.Sx
abbrev VX.{u}{α:Sort u}(x:α):Prop:=x=x
abbrev HG(n:Nat)(l:List AV):List AV:=List.replicate n .top++l
abbrev rq4(a b u v:Nat->Int):Nat->List AV:=λk=>[.x (.int .i64 (a k)),.x (.int .i64 (b k)),.x (.int .i64 (u k)),.x (.int .i64 (v k))]
theorem lpE{β:Type}{S:β->Prop}{f:Option β}{b:β}(e:f=some b)(h:S b): ∀cj,f=some cj->S cj:=λcj hcj=>by rw [e] at hcj;cases hcj;exact h
theorem VI{p:Prop}(h:p:=by omega):p:=h
theorem VU{p:Prop}(h:p:=by simp):p:=h
theorem VS.{u}{α:Sort u}{a b:α}(h:a=b:=by kernel_rfl):a=b:=h
theorem UG:(∀p:Prop,(True/\p)=p)/\ ∀p:Prop,(p/\True)=p:=⟨true_and,and_true⟩
theorem H9:(∀{p:Prop} [Decidable p],(decide p=true)=p)/\ ∀{p:Prop} [Decidable p],(decide p=false)↔ ¬p:=⟨decide_eq_true_eq,decide_eq_false_iff_not⟩
theorem RF.{u}:(∀{α:Type u} [BEq α] [LawfulBEq α] {a b:α},(a != b)=true↔a≠b)/\(∀{α:Type u} (a b:α),(a≠b)= ¬(a=b))/\ ∀{α:Type u} [BEq α] [LawfulBEq α] {a b:α},(a != b)=false↔a=b:=⟨bne_iff_ne,ne_eq,bne_eq_false_iff_eq⟩
theorem L1.{u}:(∀{α:Type u} (a:α) (as:List α),(a::as).length=as.length+1)/\ ∀{α:Type u},([]:List α).length=0:=⟨λ_ _=>List.length_cons,List.length_nil⟩
theorem R0:((0:Nat):Int)=0/\ ∀n:Nat,((n:Int)).toNat=n:=⟨rfl,Int.toNat_natCast⟩
abbrev FM(s:ByteArray):AV:= .x (.string s)
abbrev GD:= @List.mem_cons_self
abbrev GW:= @Nat.eq_of_beq_eq_true
abbrev HX:= @List.getElem?_eq_getElem
abbrev HN:= @List.mem_cons_of_mem
abbrev DY:= @List.mem_of_getElem?
abbrev LY:= @Array.getD_eq_getD_getElem?
abbrev FR:= @List.getElem?_eq_some_iff
abbrev P5:= @Array.getElem?_eq_some_iff
abbrev wM:= @List.mem_iff_getElem?
abbrev PV:= @List.all_eq_true
abbrev xO:= @Nat.lt_of_lt_of_le
abbrev BC:= @Nat.mul_le_mul_right
abbrev qN:= @Nat.le_of_ble_eq_true
abbrev GK:= @List.mem_cons
abbrev GS:= @Option.getD_some
abbrev H2:= @Bool.and_eq_true
abbrev HC:= @Option.some.injEq
abbrev FA:= @Prod.mk.injEq
abbrev F9:= @Int.toNat_natCast
abbrev DQ:= @List.not_mem_nil
abbrev aDef:= @decide_eq_false_iff_not
abbrev j8:= @decide_eq_true_eq
abbrev qM:= @List.mem_singleton
abbrev qL:= @of_decide_eq_true
open Go Go.RowKit
abbrev Out:=List Prop×AV×Option GM
def Jh9(m:GY)(id:Nat):Option GM->GY
 |none=>m
 |some r=>(id,r)::m
def DA:GY->Nat->Option GM
 |[],_=>none
 |(k,r)::t,id=>match Nat.beq k id with
  |true=>some r
  |false=>DA t id
theorem UU{m:GY}{id:Nat}{r:GM}(h:DA m id=some r):(id,r)∈m:=by
 induction m with
 |nil=>simp [DA] at h
 |cons p t ih=>
  obtain ⟨k,r'⟩:=p;unfold DA at h;split at h
  ·rename_i hk;have:k=id:=GW hk;subst this;cases h;exact GD
  ·exact HN _ (ih h)
def LH(e:UJ)(B:Nat)(w:World)(m:GY)(id:Nat)(val:AV)(add:Option GM)(v:Value)(w':World):Prop:=
 ∃e',Below w.heap.size w w'/\Step e e' w w'/\UW e' B w'/\(∀b k,e.own b=some k->e'.own b=some k)/\Rep e' w' val v/\UT e' (Jh9 m id add) w'/\(∀k,e'.live k->e.live k\/k=id)/\(∀b,e'.ro b->e.ro b\/w.heap.size<=b)
theorem GF.ext{e e':UJ}{w w':World}(hb:Below w.heap.size w w')(s:Step e e' w w')(ho: ∀b k,e.own b=some k->e'.own b=some k){id:Nat}{r:GM}(h:GF e w id r):GF e' w' id r:=by
 cases r with
 |cells T l=>
  obtain ⟨h1,h2,vs,h3,h4⟩:=h;obtain ⟨l1,l2,l3⟩:=s.live id h1;refine ⟨l1,by rw [l2];exact ho _ _ h2,vs,?_,h4.step s⟩
  rw [l2,hb.block _ (P5.1 h3).1];exact h3
 |row T sz n f=>
  obtain ⟨h1,h2,hf,xs,h3,h4⟩:=h;obtain ⟨l1,l2,l3⟩:=s.live id h1;refine ⟨l1,by rw [l3];exact λb hbk=>ho _ _ (h2 b hbk),hf,xs,?_,λi j a v hi ha hv=>(h4 i j a v hi ha hv).step s⟩
  rw [l3];refine ⟨h3.1,h3.2.imp (λh=>h) ?_⟩
  rintro ⟨g,cap,cur,hv,hg,hh,rest⟩;exact ⟨g,cap,cur,hv,hg,by rw [hb.block _ (P5.1 hh).1];exact hh,rest⟩
 |ints T pre n f=>
  obtain ⟨h1,h2,vs,h3,h4⟩:=h;obtain ⟨l1,l2,l3⟩:=s.live id h1;refine ⟨l1,by rw [l2];exact ho _ _ h2,vs,?_,h4.step s⟩
  rw [l2,hb.block _ (P5.1 h3).1];exact h3
 |memo h f=>
  obtain ⟨h1,h2,es,c,h3,h4⟩:=h;obtain ⟨l1,l2,l3⟩:=s.live id h1;exact ⟨l1,by rw [l2];exact ho _ _ h2,es,c,by rw [l2,hb.block _ (P5.1 h3).1];exact h3,h4⟩
 |keep T l=>exact LC s h
 |aka r T sz n f=>
  obtain ⟨h1,h0,o,hor,h2,hf,xs,h3,h4⟩:=h;obtain ⟨l1,l2,l3⟩:=s.live id h1;refine ⟨l1,(s.live r h0).1,o,hor,by rw [l3];exact λb hbk=>ho _ _ (h2 b hbk),hf,xs,?_,λi j a v hi ha hv=>(h4 i j a v hi ha hv).step s⟩
  rw [l3];refine ⟨h3.1,h3.2.imp (λh=>h) ?_⟩
  rintro ⟨g,cap,cur,hv,hg,hh,rest⟩;exact ⟨g,cap,cur,hv,hg,by rw [hb.block _ (P5.1 hh).1];exact hh,rest⟩
theorem UT.ext{e e':UJ}{w w':World}(hb:Below w.heap.size w w')(s:Step e e' w w')(ho: ∀b k,e.own b=some k->e'.own b=some k){m:GY}(h:UT e m w):UT e' m w':=
 λp hp=>(h p hp).ext hb s ho
theorem UK{e:UJ}{B:Nat}{w:World}{m:GY}{id:Nat}{val:AV}{v:Value}(hE:UW e B w)(hm:UT e m w)(r:Rep e w val v):LH e B w m id val none v w:=
 ⟨e,Below.refl _ _,Step.refl e w,hE,λ_ _ h=>h,r,hm,λ_ h=> .inl h,λ_ h=> .inl h⟩
def UJ.new(e:UJ)(id b:Nat)(v:Value):UJ:=
 {ro:=e.ro,own:=λk=>if k=b then some id else e.own k,live:=λk=>k=id\/e.live k,blk:=λk=>if k=id then b else e.blk k,val:=λk=>if k=id then v else e.val k}
theorem Step.new{e:UJ}{w:World}{id:Nat}{v:Value}(o:Obj)(hid: ¬e.live id):Step e (e.new id w.heap.size v) w (w.alloc o):=by
 refine ⟨λb hb hr=>⟨hr,Below.heap_alloc w o b hb⟩,λk hk=>?_,VU⟩
 have hne:k≠id:=λh=>hid (h▸hk)
 exact ⟨.inr hk,by simp [UJ.new,hne],by simp [UJ.new,hne]⟩
theorem UW.new{e:UJ}{B:Nat}{w:World}(h:UW e B w)(hB:B<=w.heap.size)(id:Nat)(v:Value)(o:Obj):UW (e.new id w.heap.size v) B (w.alloc o):=by
 refine ⟨λb hr=>?_,λb k hk=>?_,λb p hp=>?_⟩
 ·obtain ⟨h1,h2⟩:=h.apart b hr;have:b≠w.heap.size:=VI;exact ⟨by simp [UJ.new,this,h1],by simp;omega⟩
 ·simp only [UJ.new] at hk;split at hk
  ·rename_i hb;subst hb;exact ⟨hB,VU⟩
  ·have:=h.owned b k hk;exact ⟨this.1,by simp;omega⟩
 ·obtain ⟨h1,h2,o',h3,h4⟩:=h.glob b p hp;exact ⟨h1,by simp;omega,o',(heap_alloc_old w o h2).trans h3,h4⟩
theorem kO{e:UJ}{B:Nat}{w:World}(h:UW e B w)(id:Nat)(v:Value): ∀b k,e.own b=some k->(e.new id w.heap.size v).own b=some k:=by
 intro b k hk;have:=(h.owned b k hk).2;have hne:b≠w.heap.size:=VI;simp [UJ.new,hne,hk]
theorem P4(w:World)(o:Obj):Below w.heap.size w (w.alloc o):=(Below.refl _ _).alloc (Nat.le_refl _) o
section
variable {e:UJ}{B:Nat}{w:World}{m:GY}{id:Nat}
theorem lD{T:TypeId}{l:List AV}{vs:List Value}(hE:UW e B w)(hB:B<=w.heap.size)(hm:UT e m w)(hid: ¬e.live id)(r:U1 e w l vs):
  LH e B w m id (.ptr id 0) (some (.cells T l)) (.pointer (some ⟨w.heap.size,0,none⟩)) (w.alloc (.cells vs.toArray T)):=by
 have st:=Step.new (e:=e) (w:=w) (id:=id) (v:= .nilIface) (.cells vs.toArray T) hid;refine ⟨e.new id w.heap.size .nilIface,P4 _ _,st,hE.new hB _ _ _,kO hE _ _,?_,?_,λk hk=>?_,λ_ h=> .inl h⟩
 ·have:=Rep.ptr (e:=e.new id w.heap.size .nilIface) (w:=w.alloc (.cells vs.toArray T)) id 0 (.inl rfl);simpa [UJ.new] using this
 ·intro p hp;rcases GK.1 hp with rfl|hp
  ·refine ⟨.inl rfl,by simp [UJ.new],vs,?_,r.step st⟩
   simp only [UJ.new,if_true];exact heap_alloc_new w _
  ·exact (hm p hp).ext (P4 _ _) st (kO hE _ _)
 ·rcases hk with rfl|hk
  ·exact .inr rfl
  ·exact .inl hk
theorem Wr5(hE:UW e B w)(hB:B<=w.heap.size)(hm:UT e m w)(hid: ¬e.live id):
  LH e B w m id (.mp id) (some (.memo (λ_=>False) (λv=>v))) (.map (some w.heap.size)) (w.alloc (.map #[] 0)):=by
 have st:=Step.new (e:=e) (w:=w) (id:=id) (v:= .nilIface) (.map #[] 0) hid;refine ⟨e.new id w.heap.size .nilIface,P4 _ _,st,hE.new hB _ _ _,kO hE _ _,?_,?_,λk hk=>?_,λ_ h=> .inl h⟩
 ·have:=Rep.mp (e:=e.new id w.heap.size .nilIface) (w:=w.alloc (.map #[] 0)) id (.inl rfl);simpa [UJ.new] using this
 ·intro p hp;rcases GK.1 hp with rfl|hp
  ·refine ⟨.inl rfl,by simp [UJ.new],#[],0,?_,λx hx=>by simp at hx⟩
   simp only [UJ.new,if_true];exact heap_alloc_new w _
  ·exact (hm p hp).ext (P4 _ _) st (kO hE _ _)
 ·rcases hk with rfl|hk
  ·exact .inr rfl
  ·exact .inl hk
theorem IJ{T:TypeId}{sz n c:Nat}{f:Nat->List AV}{cs:List Value}(hE:UW e B w)(hB:B<=w.heap.size)(hm:UT e m w)(hid: ¬e.live id)
  (hnc:n<=c)(hc:c<=maxLen)(HT:cs.length=c*sz)(hf: ∀i,i<n->(f i).length=sz/\ ∀a∈f i,Idf a)
  (r: ∀(i j:Nat) (a:AV) (v:Value),i<n->(f i)[j]? =some a->cs[i*sz+j]? =some v->Rep e w a v):
  LH e B w m id (.row id) (some (.row T sz n f)) (.slice (some ⟨w.heap.size,0,none⟩) n c) (w.alloc (.cells cs.toArray T)):=by
 have st:=Step.new (e:=e) (w:=w) (id:=id) (v:= .slice (some ⟨w.heap.size,0,none⟩) n c) (.cells cs.toArray T) hid;refine ⟨e.new id w.heap.size (.slice (some ⟨w.heap.size,0,none⟩) n c),P4 _ _,st,hE.new hB _ _ _,kO hE _ _,?_,?_,λk hk=>?_,λ_ h=> .inl h⟩
 ·exact .row id _ _ _ (.inl rfl) (by simp [UJ.new])
 ·intro p hp;rcases GK.1 hp with rfl|hp
  ·refine ⟨.inl rfl,?_,hf,cs.take (n*sz),?_,?_⟩
   ·intro b hb;simp only [UJ.new,if_true,Value.ownBlock,HC] at hb;subst hb;simp [UJ.new]
   ·refine ⟨by simp [HT,Nat.min_eq_left (BC sz hnc)],.inr ⟨w.heap.size,c,cs.toArray,by simp [UJ.new],Nat.zero_le _,heap_alloc_new w _,hnc,hc,by simp [HT],VU⟩⟩
   ·intro i j a v hi ha hv;have hj:j<sz:=by rw [←(hf i hi).1];exact (FR.1 ha).1
    rw [List.getElem?_take] at hv;split at hv
    ·exact (r i j a v hi ha hv).step st
    ·cases hv
  ·exact (hm p hp).ext (P4 _ _) st (kO hE _ _)
 ·rcases hk with rfl|hk
  ·exact .inr rfl
  ·exact .inl hk
end
def qG:List AV->Option (List Int)
 |[]=>some []
 |a::l=>match a with
  | .x (.int .i64 n)=>match qG l with
   |some r=>some (n::r)
   |none=>none
  |_=>none
def U7:List Int->Nat->Int
 |[],_=>0
 |n::_,0=>n
 |_::l,k+1=>U7 l k
theorem oS(n:Nat)(f:Nat->Int):HK (n+1) f= .x (.int .i64 (f 0))::HK n (λk=>f (k+1)):=by
 simp [HK,List.range_succ_eq_map,List.map_map,Function.comp_def]
theorem dG: ∀{l:List AV} {r:List Int},qG l=some r->l=HK r.length (U7 r)
 |[],r,h=>by simp [qG] at h;subst h;rfl
 |a::l,r,h=>by
  unfold qG at h;split at h
  ·rename_i n;split at h
   ·rename_i r' hr;cases h;have ih:=dG hr;rw [List.length_cons,oS,ih];rfl
   ·cases h
  ·cases h
def Xl1:List Int->Bool
 |[]=>true
 |n::l=>match decide (n=0) with
  |true=>Xl1 l
  |false=>false
theorem gM: ∀{l:List Int},Xl1 l=true-> ∀k,U7 l k=0
 |[],_,_=>rfl
 |n::l,h,k=>by
  unfold Xl1 at h;split at h
  ·rename_i hd;cases k with
   |zero=>exact qL hd
   |succ k=>exact gM h k
  ·cases h
def BE(l:List Int):Nat->Int:=match Xl1 l with
 |true=>λ_=>0
 |false=>U7 l
def gX:List AV->List AV×List Int
 |[]=>([],[])
 |a::l=>match qG (a::l) with
  |some r=>([],r)
  |none=>match gX l with
   |(p,r)=>(a::p,r)
theorem N7: ∀(l:List AV),l=(gX l).1++HK (gX l).2.length (U7 (gX l).2)
 |[]=>rfl
 |a::l=>by
  unfold gX;split
  ·rename_i r hr;exact dG hr
  ·have:=N7 l;simp only [List.cons_append];rw [←this]
theorem Wd3(r:List Int):BE r=U7 r:=by
 unfold BE;split
 ·rename_i hz;exact (funext (gM hz)).symm
 ·rfl
def IO(z:Bool)(T:TypeId)(l:List AV):GM:=match gX l with
 |(pre,r)=>match Nat.ble 6 r.length with
  |true=> .ints T pre r.length (match z with|true=>BE r|false=>U7 r)
  |false=> .cells T l
theorem boxRes_holds{e:UJ}{w:World}{id:Nat}{z:Bool}{T:TypeId}{l:List AV}(h:GF e w id (.cells T l)):GF e w id (IO z T l):=by
 unfold IO;split;rename_i pre r hs;split
 ·have:=N7 l;rw [hs] at this;rw [this] at h;cases z with
  |true=>simp only;rw [Wd3];exact h
  |false=>exact h
 ·exact h
theorem lE{e:UJ}{B:Nat}{w:World}{m:GY}{id:Nat}{val:AV}{z:Bool}{T:TypeId}{l:List AV}{v:Value}{w':World}(h:LH e B w m id val (some (.cells T l)) v w'):LH e B w m id val (some (IO z T l)) v w':=by
 obtain ⟨e',h1,h2,h3,h4,h5,h6,h7,h8⟩:=h;refine ⟨e',h1,h2,h3,h4,h5,λp hp=>?_,h7,h8⟩
 rcases GK.1 hp with rfl|hp
 ·exact boxRes_holds (h6 (id,.cells T l) GD)
 ·exact h6 p (HN _ hp)
def VK(n:Int):Prop:= -9223372036854775808<=n/\n<=9223372036854775807
theorem PZ{n:Int}(h:VK n):IntKind.i64.wrap n=n:=IntWalk.i64_in n h
def AV.cellsOf:AV->Option (List AV)
 | .agg l=>some l
 | .x v=>some (v.cells.toList.map .x)
 | .lit b=>some [.lit b]
 | .fn f a b=>some [.fn f a b]
 | .ptr a b=>some [.ptr a b]
 | .row a=>some [.row a]
 | .elt a b c d=>some [.elt a b c d]
 | .ro l=>some [.ro l]
 | .lst a b c=>some [.lst a b c]
 | .mp a=>some [.mp a]
 | .roI a b c d=>some [.roI a b c d]
 | .mpr a b=>some [.mpr a b]
 | .any1=>some [.any1]
 | .top=>none
 | .tup _=>none
theorem U1.one{e:UJ}{w:World}{a:AV}{v:Value}(h:Rep e w a v):U1 e w [a] [v]:=U1.cons h (U1.nil e w)
theorem U1.xs(e:UJ)(w:World)(vs:List Value):U1 e w (vs.map .x) vs:=by
 induction vs with
 |nil=>exact U1.nil e w
 |cons v vs ih=>exact U1.cons (.x v) ih
section
variable {e:UJ}{w:World}{a:AV}
theorem wB{v:Value}{l:List AV}(hc:a.cellsOf=some l)(h:Rep e w a v):U1 e w l v.cells.toList:=by
 cases h with
 |top v=>simp [AV.cellsOf] at hc
 |lit b=>simp [AV.cellsOf] at hc;subst hc;exact U1.one (.lit b)
 |x v=>simp [AV.cellsOf] at hc;subst hc;exact U1.xs e w _
 |agg l' vs h1 h2=>simp [AV.cellsOf] at hc;subst hc;exact ⟨h1,h2⟩
 |tup l' vs h1 h2=>simp [AV.cellsOf] at hc
 |fn f l1 l2 vs vs' h1 h2 h3 h4=>simp [AV.cellsOf] at hc;subst hc;exact U1.one (.fn f l1 l2 vs vs' h1 h2 h3 h4)
 |ptr id off h1=>simp [AV.cellsOf] at hc;subst hc;exact U1.one (.ptr id off h1)
 |row id a n c h1 h2=>simp [AV.cellsOf] at hc;subst hc;exact U1.one (.row id a n c h1 h2)
 |roI pre n f off b o h=>simp [AV.cellsOf] at hc;subst hc;exact U1.one (.roI pre n f off b o h)
 |elt id sz i j b n cap h1 h2=>simp [AV.cellsOf] at hc;subst hc;exact U1.one (.elt id sz i j b n cap h1 h2)
 |ro l' vs b o h1 h2 h3 h4 h5 h6=>simp [AV.cellsOf] at hc;subst hc;exact U1.one (.ro l' vs b o h1 h2 h3 h4 h5 h6)
 |lstNil sz f=>simp [AV.cellsOf] at hc;subst hc;exact U1.one (.lstNil sz f)
 |lst sz n f b o cap g h1 h2 h3 h4 h5 h6 h7 h8 ad had=>simp [AV.cellsOf] at hc;subst hc;exact U1.one (.lst sz n f b o cap g h1 h2 h3 h4 h5 h6 h7 h8 ad had)
 |mp id h1=>simp [AV.cellsOf] at hc;subst hc;exact U1.one (.mp id h1)
 |mpr g okf vals b es c h1 h2 h3 h4 h5 h6 h7 h8=>simp [AV.cellsOf] at hc;subst hc;exact U1.one (.mpr g okf vals b es c h1 h2 h3 h4 h5 h6 h7 h8)
 |any1 v hv=>
  simp [AV.cellsOf] at hc;subst hc;have:v.cells.toList=[v]:=by cases v<;>first|rfl|(simp [Value.oneCell'] at hv)
  rw [this];exact U1.one (.any1 v hv)
def AV.one:AV->Bool
 | .x v=>v.oneCell'
 | .lit _| .fn .. | .ptr .. | .row _| .elt .. | .ro _| .lst .. | .mp _| .roI .. | .mpr .. | .any1=>true
 | .top| .agg _| .tup _=>false
theorem rY{v:Value}(ho:a.one=true)(h:Rep e w a v):v.oneCell'=true:=by
 cases h<;>first|(simp [AV.one] at ho;done)|rfl|assumption|(simpa [AV.one] using ho)
end
section
variable {P:Program}
def ldL(P:Program)(t:TypeId)(l:List AV):Option AV:=
 match P.underlying t,P.info? t with
 |some (.struct _),some i=>match Nat.ble i.size l.length with|true=>some (.agg (l.take i.size))|false=>none
 |some (.array _ _),some i=>match Nat.ble i.size l.length with|true=>some (.agg (l.take i.size))|false=>none
 |some _,some _=>l.head?
 |_,_=>none
theorem pP{w:World}{b o:Nat}{vs:List Value}(hc: ∀(j:Nat) (v:Value),vs[j]? =some v->w.cell? ⟨b,o+j,none⟩=some v)(k:Nat):
  ∀(j:Nat) (v:Value),(vs.take k)[j]? =some v->w.cell? ((⟨b,o,none⟩:Addr).add j)=some v:=by
 intro j v hj;rw [List.getElem?_take] at hj;split at hj
 ·have:=hc j v hj;have ha:(⟨b,o,none⟩:Addr).add j=⟨b,o+j,none⟩:=by unfold Addr.add;split<;>simp_all
  rw [ha];exact this
 ·cases hj
theorem DL{e:UJ}{w:World}{t:TypeId}{l:List AV}{vs:List Value}{a:AV}{b o:Nat}(h:ldL P t l=some a)(hr:U1 e w l vs)
  (hc: ∀(j:Nat) (v:Value),vs[j]? =some v->w.cell? ⟨b,o+j,none⟩=some v): ∃v,(loadVar t ⟨b,o,none⟩).run P w= .ok v w/\Rep e w a v:=by
 have agg: ∀i:TypeInfo,P.info? t=some i->(isAgg t).run P w= .ok true w->i.size<=l.length->a= .agg (l.take i.size)-> ∃v,(loadVar t ⟨b,o,none⟩).run P w= .ok v w/\Rep e w a v:=by
  intro i hi hg hsz ha;subst ha;have HT:(vs.take i.size).length=i.size:=by rw [List.length_take,←hr.1];omega
  have hl:=run_loadCells_list (P:=P) (w:=w) ⟨b,o,none⟩ (vs.take i.size) (pP hc i.size);rw [HT] at hl;refine ⟨.agg (vs.take i.size).toArray,?_,Rep.aggL (hr.take _)⟩;simp [loadVar,hg,sizeOf,typeInfo,hi,hl]
 have flat:(isAgg t).run P w= .ok false w->l.head?=some a-> ∃v,(loadVar t ⟨b,o,none⟩).run P w= .ok v w/\Rep e w a v:=by
  intro hg hd;obtain ⟨v,hv,GH⟩:=hr.get (i:=0) (a:=a) (by rw [←List.head?_eq_getElem?];exact hd)
  refine ⟨v,?_,GH⟩;have:=hc 0 v hv;simp only [Nat.add_zero] at this;simp [loadVar,hg,this]
 unfold ldL at h;cases hu:P.underlying t with
 |none=>rw [hu] at h;simp at h
 |some d=>
  cases hi:P.info? t with
  |none=>rw [hu,hi] at h;cases d<;>simp at h
  |some i=>
   rw [hu,hi] at h;cases d with
   |struct fs=>
    simp only at h;split at h
    ·rename_i hb;exact agg i hi (by simp [isAgg,run_underlying hu]) (qN hb) (by cases h;rfl)
    ·cases h
   |array n el=>
    simp only at h;split at h
    ·rename_i hb;exact agg i hi (by simp [isAgg,run_underlying hu]) (qN hb) (by cases h;rfl)
    ·cases h
   |_=>exact flat (by simp [isAgg,run_underlying hu]) h
def cT(P:Program)(t:TypeId)(l:List AV)(off:Nat):Option AV:=
 match P.underlying t,P.info? t with
 |some (.struct _),some i=>match Nat.ble (off+i.size) l.length with|true=>some (.agg ((l.drop off).take i.size))|false=>none
 |some (.array _ _),some i=>match Nat.ble (off+i.size) l.length with|true=>some (.agg ((l.drop off).take i.size))|false=>none
 |some _,some _=>l[off]?
 |_,_=>none
theorem AX{e:UJ}{w:World}{t:TypeId}{l:List AV}{vs:List Value}{a:AV}{off:Nat}(h:cT P t l off=some a)(hr:U1 e w l vs):
  ∃v,(part t vs.toArray off).run P w= .ok v w/\Rep e w a v:=by
 have agg: ∀i:TypeInfo,P.info? t=some i->(isAgg t).run P w= .ok true w->a= .agg ((l.drop off).take i.size)-> ∃v,(part t vs.toArray off).run P w= .ok v w/\Rep e w a v:=by
  intro i hi hg ha;subst ha;refine ⟨.agg ((vs.drop off).take i.size).toArray,?_,Rep.aggL ((hr.drop off).take _)⟩;simp [part,hg,sizeOf,typeInfo,hi]
 unfold cT at h;cases hu:P.underlying t with
 |none=>rw [hu] at h;simp at h
 |some d=>
  cases hi:P.info? t with
  |none=>rw [hu,hi] at h;cases d<;>simp at h
  |some i=>
   rw [hu,hi] at h;cases d with
   |struct fs=>
    simp only at h;split at h
    ·exact agg i hi (by simp [isAgg,run_underlying hu]) (by cases h;rfl)
    ·cases h
   |array n el=>
    simp only at h;split at h
    ·exact agg i hi (by simp [isAgg,run_underlying hu]) (by cases h;rfl)
    ·cases h
   |_=>
    obtain ⟨v,hv,GH⟩:=hr.get h;exact ⟨v,by simp [part,isAgg,run_underlying hu,hv],GH⟩
end
section
variable {P:Program}
def yJ(a:Option AV):Option Out:=match a with|some r=>some ([],r,none)|none=>none
theorem RB{a:Option AV}{ns:List Prop}{r:AV}{add:Option GM}(h:yJ a=some (ns,r,add)):a=some r/\ns=[]/\add=none:=by
 cases a with
 |none=>simp [yJ] at h
 |some x=>simp only [yJ,HC,FA] at h;obtain ⟨rfl,rfl,rfl⟩:=h;exact ⟨rfl,rfl,rfl⟩
theorem DE(b o j:Nat):(⟨b,o,none⟩:Addr).add j=⟨b,o+j,none⟩:=by unfold Addr.add;split<;>simp_all
def EE:List AV->Option (Nat×List (Nat×(Nat->List AV)))
 |[]=>none
 | .lst sz n f::t=>match t with
  |[]=>some (sz,[(n,f)])
  |_::_=>match EE t with
   |some (sz',r)=>match Nat.beq sz sz' with
    |true=>some (sz,(n,f)::r)
    |false=>none
   |none=>none
 |_=>none
section
variable (l:List (Nat×(Nat->List AV)))(i:Nat)
def Zg6:Nat:=(l.getD i (0,λ_=>[])).1
def Zg7:Nat->List AV:=(l.getD i (0,λ_=>[])).2
end
theorem NQ: ∀{l:List AV} {sz:Nat} {r:List (Nat×(Nat->List AV))},EE l=some (sz,r)-> ∀i,i<l.length->l[i]? =some (.lst sz (Zg6 r i) (Zg7 r i))
 |[],_,_,h,_,_=>by simp [EE] at h
 |a::t,sz,r,h,i,hi=>by
  cases a with
  |lst sz1 n f=>
   cases t with
   |nil=>
    simp only [EE,HC,FA] at h;obtain ⟨rfl,rfl⟩:=h;have:i=0:=by simp at hi;omega
    subst this;rfl
   |cons b t=>
    simp only [EE] at h;split at h
    ·rename_i sz' r' hr;split at h
     ·rename_i hb;have:=GW hb;subst this;simp only [HC,FA] at h;obtain ⟨rfl,rfl⟩:=h;cases i with
      |zero=>rfl
      |succ i=>
       have:=NQ hr i (by simpa using hi)
       simpa [Zg6,Zg7] using this
     ·cases h
    ·cases h
  |_=>simp [EE] at h
def Xq7(P:Program)(t:TypeId)(l:List AV):Option (Nat×List (Nat×(Nat->List AV))):=
 match P.underlying t with
 |some (.slice _)=>match l with
  |_::_::_=>EE l
  |_=>none
 |_=>none
def L2:AV->Option Bool
 | .lit b=>some b
 | .x (.bool b)=>some b
 |_=>none
theorem PU{e:UJ}{w:World}{a:AV}{v:Value}{b:Bool}(h:L2 a=some b)(r:Rep e w a v):v= .bool b:=by
 cases r with
 |lit b'=>simp [L2] at h;rw [h]
 |x v=>cases v<;>simp [L2] at h;rw [h]
 |_=>simp [L2] at h
def dQ:List AV->Option (List Bool)
 |[]=>some []
 |a::t=>match L2 a with
  |some b=>match dQ t with
   |some r=>some (b::r)
   |none=>none
  |none=>none
theorem vN: ∀{l:List AV} {r:List Bool},dQ l=some r->l.length=r.length/\ ∀i a,l[i]? =some a->L2 a=some (r.getD i false)
 |[],r,h=>by
  simp only [dQ,HC] at h;subst h;exact ⟨rfl,λi a h=>by simp at h⟩
 |a::t,r,h=>by
  unfold dQ at h;split at h
  ·rename_i b hb;split at h
   ·rename_i r' hr;cases h;obtain ⟨h1,h2⟩:=vN hr;refine ⟨by simp [h1],λi c hc=>?_⟩
    cases i with
    |zero=>simp at hc;subst hc;simpa using hb
    |succ i=>simpa using h2 i c (by simpa using hc)
   ·cases h
  ·cases h
def aF(P:Program)(t:TypeId)(l:List AV):Option (List Bool):=
 match l with
 |a::_::_=>match L2 a with
  |some _=>match P.underlying t with
   |some .bool=>dQ l
   |_=>none
  |none=>none
 |_=>none
theorem IP{P:Program}{t:TypeId}{l:List AV}{r:List Bool}(h:aF P t l=some r):dQ l=some r/\P.underlying t=some .bool:=by
 unfold aF at h;split at h
 ·split at h
  ·split at h
   ·rename_i hu;exact ⟨h,hu⟩
   ·cases h
  ·cases h
 ·cases h
def fJ(off:Nat)(v:Bool):List Bool->Nat->List AV
 |[],_=>[]
 |b::t,k=> .x (.bool (if k=off then v else b))::fJ off v t (k+1)
theorem u7(off:Nat)(v:Bool): ∀(l:List Bool) (k:Nat),(fJ off v l k).length=l.length
 |[],_=>rfl
 |_::t,k=>by simp [fJ,u7 off v t]
theorem NB(off:Nat)(v:Bool): ∀(l:List Bool) (k i:Nat) (a:AV),(fJ off v l k)[i]? =some a->a= .x (.bool (if k+i=off then v else l.getD i false))
 |[],_,i,a,h=>by simp [fJ] at h
 |b::t,k,0,a,h=>by
  simp [fJ] at h;simp [←h]
 |b::t,k,i+1,a,h=>by
  simp only [fJ,List.getElem?_cons_succ] at h;rw [NB off v t (k+1) i a h];simp [show k+1+i=k+(i+1) by omega]
def wR:Nat->List AV->Nat
 |q,[]=>q
 |q,_::l=>wR (q-1) l
theorem qR: ∀(l:List AV) (q:Nat),wR q l=q-l.length
 |[],q=>rfl
 |_::l,q=>by simp only [wR,qR l,List.length_cons];omega
def ldI(P:Program)(t:TypeId)(pre:List AV)(n:Nat)(f:Nat->Int)(off:Nat):Option Out:=
 match Nat.ble (off+1) pre.length with
 |true=>yJ (ldL P t ((pre++HK n f).drop off))
 |false=>match P.underlying t,P.info? t with
  |some (.struct _),some i=>some ([wR off pre+i.size<=n],.agg ((List.range i.size).map λj=> .x (.int .i64 (f (wR off pre+j)))),none)
  |some (.array _ _),some i=>some ([wR off pre+i.size<=n],.agg ((List.range i.size).map λj=> .x (.int .i64 (f (wR off pre+j)))),none)
  |some _,some _=>some ([wR off pre<n],.x (.int .i64 (f (wR off pre))),none)
  |_,_=>none
theorem kU{n:Nat}{f:Nat->Int}{k:Nat}(h:k<n):(HK n f)[k]? =some (.x (.int .i64 (f k))):=by simp [HK,h]
theorem LD(n:Nat)(f:Nat->Int):(HK n f).length=n:=by simp [HK]
theorem We8{t:TypeId}{pre:List AV}{n:Nat}{f:Nat->Int}{off:Nat}{ns:List Prop}{val:AV}{add:Option GM}(h:ldI P t pre n f off=some (ns,val,add))(hn: ∀p∈ns,p):
  add=none/\ldL P t ((pre++HK n f).drop off)=some val:=by
 unfold ldI at h;split at h
 ·obtain ⟨h1,_,h2⟩:=RB h;exact ⟨h2,h1⟩
 ·rename_i hb;have hle:pre.length<=off:=by
   rcases Nat.lt_or_ge off pre.length with h'|h'
   ·rw [Nat.ble_eq_true_of_le h'] at hb;cases hb
   ·exact h'
  have hd: ∀j,((pre++HK n f).drop off)[j]? =(HK n f)[wR off pre+j]? :=by
   intro j;rw [List.getElem?_drop,List.getElem?_append,if_neg VI,qR]
   congr 1
   omega
  have agg: ∀sz,wR off pre+sz<=n->((pre++HK n f).drop off).take sz=(List.range sz).map λj=> .x (.int .i64 (f (wR off pre+j))):=by
   intro sz hsz;apply List.ext_getElem?;intro j;rw [List.getElem?_take];by_cases hj:j<sz
   ·rw [if_pos hj,hd,kU VI];simp [hj]
   ·rw [if_neg hj];simp [hj]
  have HT:((pre++HK n f).drop off).length=n-wR off pre:=by
   rw [List.length_drop,List.length_append,LD,qR];omega
  split at h
  ·rename_i fs i hu hi;simp only [HC,FA] at h;obtain ⟨rfl,rfl,rfl⟩:=h;have hsz:wR off pre+i.size<=n:=hn _ VU;refine ⟨rfl,?_⟩;unfold ldL;rw [hu,hi];simp only;rw [Nat.ble_eq_true_of_le (by rw [HT];omega),←agg _ hsz]
  ·rename_i k el i hu hi;simp only [HC,FA] at h;obtain ⟨rfl,rfl,rfl⟩:=h;have hsz:wR off pre+i.size<=n:=hn _ VU;refine ⟨rfl,?_⟩;unfold ldL;rw [hu,hi];simp only;rw [Nat.ble_eq_true_of_le (by rw [HT];omega),←agg _ hsz]
  ·rename_i u i h1 h2 hu hi;simp only [HC,FA] at h;obtain ⟨rfl,rfl,rfl⟩:=h;have hlt:wR off pre<n:=hn _ VU;refine ⟨rfl,?_⟩;unfold ldL;rw [hu,hi];have hh:((pre++HK n f).drop off).head?=some (.x (.int .i64 (f (wR off pre)))):=by
    rw [List.head?_eq_getElem?,hd,Nat.add_zero,kU hlt]
   split
   ·rename_i fs _ he _;cases he;exact absurd rfl (h1 _)
   ·rename_i k el _ he _;cases he;exact absurd rfl (h2 _ _)
   ·exact hh
   ·rename_i hno;exact (hno _ _ rfl rfl).elim
  ·cases h
def BB(P:Program)(m:GY)(t:TypeId):AV->Option Out
 | .ptr id off=>match DA m id with
  |some (.cells _ l)=>match Xq7 P t l with
   |some (sz,r)=>some ([off<l.length],.lst sz (Zg6 r off) (Zg7 r off),none)
   |none=>match aF P t l with
    |some bs=>some ([off<bs.length],.x (.bool (bs.getD off false)),none)
    |none=>yJ (ldL P t (l.drop off))
  |some (.ints _ pre n f)=>ldI P t pre n f off
  |some (.keep _ l)=>yJ (ldL P t (l.drop off))
  |_=>none
 | .roI pre n f off=>ldI P t pre n f off
 | .ro l=>yJ (ldL P t l)
 | .elt id sz i j=>match DA m id with
  |some (.row _ sz' n f)=>match Nat.beq sz sz' with
   |true=>match ldL P t ((f i).drop j) with
    |some r=>some ([i<n],r,none)
    |none=>none
   |false=>none
  |_=>none
 |_=>none
theorem PS{w:World}{b:Nat}{vs:List Value}{o:Nat}(hc: ∀(j:Nat) (v:Value),vs[j]? =some v->w.cell? ⟨b,o+j,none⟩=some v)(k:Nat):
  ∀(j:Nat) (v:Value),(vs.drop k)[j]? =some v->w.cell? ⟨b,o+k+j,none⟩=some v:=by
 intro j v hj;rw [List.getElem?_drop] at hj;have:=hc _ _ hj
 rwa [Nat.add_assoc]
theorem jN{e:UJ}{w:World}{m:GY}{t:TypeId}{a:AV}{v:Value}{ns:List Prop}{val:AV}{add:Option GM}(h:BB P m t a=some (ns,val,add))(hn: ∀p∈ns,p)
  (hm:UT e m w)(ra:Rep e w a v):add=none/\ ∃ad u,v= .pointer (some ad)/\(loadVar t ad).run P w= .ok u w/\Rep e w val u:=by
 cases ra with
 |ptr k off hl=>
  simp only [BB] at h;split at h
  ·rename_i T l hg;obtain ⟨_,_,vs,h3,h4⟩:=hm _ (UU hg);have hc: ∀(j:Nat) (v:Value),vs[j]? =some v->w.cell? ⟨e.blk k,0+j,none⟩=some v:=by
    intro j v hj;simp [World.cell?,h3,hj]
   split at h
   ·rename_i sz r hlt;simp only [HC,FA] at h;obtain ⟨rfl,rfl,rfl⟩:=h;have HT:off<l.length:=hn _ VU;unfold Xq7 at hlt;split at hlt
    ·rename_i el hu;split at hlt
     ·obtain ⟨v,hv,hr⟩:=h4.get (NQ hlt off HT);refine ⟨rfl,_,v,rfl,?_,hr⟩;have:=hc off v hv;simp only [Nat.zero_add] at this;simp [loadVar,isAgg,run_underlying hu,this]
     ·cases hlt
    ·cases hlt
   split at h
   ·rename_i bs hbs;simp only [HC,FA] at h;obtain ⟨rfl,rfl,rfl⟩:=h;obtain ⟨hbl,hu⟩:=IP hbs;obtain ⟨HT,Qo1⟩:=vN hbl;have TR:off<l.length:=by rw [HT];exact hn _ VU
    obtain ⟨v,hv,hr⟩:=h4.get (HX TR);have hbv:=PU (Qo1 off _ (HX TR)) hr;subst hbv;refine ⟨rfl,_,_,rfl,?_,.x _⟩;have:=hc off _ hv;simp only [Nat.zero_add] at this;simp [loadVar,isAgg,run_underlying hu,this]
   obtain ⟨h1,rfl,rfl⟩:=RB h;obtain ⟨u,hu,hr⟩:=DL (P:=P) h1 (h4.drop off) (PS hc off);simp only [Nat.zero_add] at hu;exact ⟨rfl,_,u,rfl,hu,hr⟩
  ·rename_i T pre n f hg;obtain ⟨_,_,vs,h3,h4⟩:=hm _ (UU hg);have hc: ∀(j:Nat) (v:Value),vs[j]? =some v->w.cell? ⟨e.blk k,0+j,none⟩=some v:=by
    intro j v hj;simp [World.cell?,h3,hj]
   obtain ⟨rfl,h1⟩:=We8 h hn;obtain ⟨u,hu,hr⟩:=DL (P:=P) h1 (h4.drop off) (PS hc off);simp only [Nat.zero_add] at hu;exact ⟨rfl,_,u,rfl,hu,hr⟩
  ·rename_i T l hg;obtain ⟨_,_,_,vs,h3,h4⟩:=hm _ (UU hg);have hc: ∀(j:Nat) (v:Value),vs[j]? =some v->w.cell? ⟨e.blk k,0+j,none⟩=some v:=by
    intro j v hj;simp [World.cell?,h3,hj]
   obtain ⟨h1,rfl,rfl⟩:=RB h;obtain ⟨u,hu,hr⟩:=DL (P:=P) h1 (h4.drop off) (PS hc off);simp only [Nat.zero_add] at hu;exact ⟨rfl,_,u,rfl,hu,hr⟩
  ·cases h
 |roI pre n f off b o hr0=>
  simp only [BB] at h;obtain ⟨rfl,h1⟩:=We8 h hn;cases hr0 with
  |ro l vs _ _ g1 g2 hf g3 g4 g5=>
   obtain ⟨u,hu,hr⟩:=DL (P:=P) h1 (U1.drop (⟨g3,g5⟩:U1 e w _ vs) off) (PS g4 off);exact ⟨rfl,_,u,rfl,hu,hr⟩
 |ro l vs b o h1 h2 hf h3 h4 h5=>
  simp only [BB] at h;obtain ⟨k1,rfl,rfl⟩:=RB h;obtain ⟨u,hu,hr⟩:=DL (P:=P) k1 (⟨h3,h5⟩:U1 e w l vs) h4;exact ⟨rfl,_,u,rfl,hu,hr⟩
 |elt k sz i j b n cap hl hv=>
  simp only [BB] at h;split at h
  ·rename_i T sz' n' f hg;split at h
   ·rename_i hs;have hs':sz=sz':=GW hs;subst hs';split at h
    ·rename_i r hr;simp only [HC,FA] at h;obtain ⟨rfl,rfl,rfl⟩:=h;have hi:i<n':=hn _ VU;obtain ⟨_,_,hf,xs,hx,GH⟩:=hm _ (UU hg);have gA: ∀(q:Nat) (u:Value),xs[q]? =some u->w.cell? ⟨b,q,none⟩=some u:=by
      intro q u hq;have:=hx.cells (g:=b) (by rw [hv];rfl) q u hq
      rwa [DE,Nat.zero_add] at this
     have hxl:xs.length=n'*sz:=hx.1;have hle:i*sz+sz<=n'*sz:=by
      have:=BC sz (Nat.succ_le_of_lt hi)
      rwa [Nat.succ_mul] at this
     have hR:U1 e w (f i) ((xs.drop (i*sz)).take sz):=by
      refine ⟨by rw [(hf i hi).1,List.length_take,List.length_drop,hxl];omega,λq a v ha hv'=>?_⟩
      rw [List.getElem?_take] at hv';split at hv'
      ·rw [List.getElem?_drop] at hv';exact GH i q a v hi ha hv'
      ·cases hv'
     have hc: ∀(q:Nat) (u:Value),((xs.drop (i*sz)).take sz)[q]? =some u->w.cell? ⟨b,i*sz+q,none⟩=some u:=by
      intro q u hq;rw [List.getElem?_take] at hq;split at hq
      ·rw [List.getElem?_drop] at hq;exact gA _ _ hq
      ·cases hq
     obtain ⟨u,hu,hr'⟩:=DL (P:=P) hr (hR.drop j) (PS hc j);exact ⟨rfl,_,u,rfl,hu,hr'⟩
    ·cases h
   ·cases h
  ·cases h
 |_=>simp [BB] at h
theorem T6{e:UJ}{B:Nat}{w:World}{m:GY}{id:Nat}{t:TypeId}{a:AV}{v:Value}{ns:List Prop}{val:AV}{add:Option GM}(h:BB P m t a=some (ns,val,add))(hn: ∀p∈ns,p)
  (hE:UW e B w)(hm:UT e m w)(ra:Rep e w a v): ∃u w',(Instr.loadAt t v).run P w= .ok u w'/\LH e B w m id val add u w':=by
 obtain ⟨rfl,ad,u,rfl,hu,hr⟩:=jN h hn hm ra;exact ⟨u,w,by simp [Instr.loadAt,Instr.sureAddr,hu],UK hE hm hr⟩
def rX(P:Program)(t:TypeId)(k:Nat):AV->Option Out
 | .agg l=>match P.underlying t with
  |some (.struct fs)=>match fs[k]? with
   |some f=>yJ (cT P f.type l f.offset)
   |none=>none
  |_=>none
 |_=>none
theorem ML{e:UJ}{B:Nat}{w:World}{m:GY}{id:Nat}{t:TypeId}{k:Nat}{a:AV}{v:Value}{ns:List Prop}{val:AV}{add:Option GM}(h:rX P t k a=some (ns,val,add))
  (hE:UW e B w)(hm:UT e m w)(ra:Rep e w a v): ∃u w',(Instr.field t v k).run P w= .ok u w'/\LH e B w m id val add u w':=by
 cases ra with
 |agg l vs h1 h2=>
  simp only [rX] at h;split at h
  ·rename_i fs hu;split at h
   ·rename_i f hf;obtain ⟨k1,rfl,rfl⟩:=RB h;obtain ⟨u,hu',hr⟩:=AX (P:=P) k1 (⟨h1,h2⟩:U1 e w l vs);exact ⟨u,w,by simp [Instr.field,run_underlying hu,hf,asAgg,hu'],UK hE hm hr⟩
   ·cases h
  ·cases h
 |_=>simp [rX] at h
def BZ(off:Nat):AV->Option AV
 | .ptr id o=>some (.ptr id (o+off))
 | .ro l=>match Nat.ble off l.length with
  |true=>some (.ro (l.drop off))
  |false=>none
 | .elt id sz i j=>some (.elt id sz i (j+off))
 | .roI pre n f o=>some (.roI pre n f (o+off))
 |_=>none
theorem yU{e:UJ}{w:World}{off:Nat}{a r:AV}{v:Value}(h:BZ off a=some r)(ra:Rep e w a v): ∃ad:Addr,v= .pointer (some ad)/\Rep e w r (.pointer (some (ad.add off))):=by
 cases ra with
 |ptr id o hl=>simp only [BZ,HC] at h;subst h;exact ⟨_,rfl,by rw [DE];exact .ptr id (o+off) hl⟩
 |elt id sz i j b n cap hl hv=>
  simp only [BZ,HC] at h;subst h;exact ⟨_,rfl,by rw [DE,Nat.add_assoc];exact .elt id sz i (j+off) b n cap hl hv⟩
 |roI pre n f o b o0 hr0=>
  simp only [BZ,HC] at h;subst h;exact ⟨_,rfl,by rw [DE,Nat.add_assoc];exact .roI pre n f (o+off) b o0 hr0⟩
 |ro l vs b o h1 h2 hf h3 h4 h5=>
  simp only [BZ] at h;split at h
  ·cases h;refine ⟨_,rfl,?_⟩;rw [DE];exact .ro _ (vs.drop off) b (o+off) h1 h2 (λa ha=>hf a (List.mem_of_mem_drop ha)) (by simp [h3]) (PS h4 off) (U1.drop (⟨h3,h5⟩:U1 e w l vs) off).2
  ·cases h
 |_=>simp [BZ] at h
def isI(m:GY):AV->Bool
 | .roI _ _ _ _=>true
 | .ptr id _=>match DA m id with
  |some (.ints _ _ _ _)=>true
  |_=>false
 |_=>false
def Zi3(m:GY)(off:Nat)(a:AV):Option AV:=match isI m a with
 |true=>match a with
  | .roI pre n f o=>some (.roI pre n f (off+o))
  | .ptr id o=>some (.ptr id (off+o))
  |_=>none
 |false=>BZ off a
theorem Xf2{m:GY}{off:Nat}{a r:AV}(h:Zi3 m off a=some r):BZ off a=some r:=by
 unfold Zi3 at h;split at h
 ·split at h
  ·cases h;simp only [BZ];rw [Nat.add_comm]
  ·cases h;simp only [BZ];rw [Nat.add_comm]
  ·cases h
 ·exact h
def qW(P:Program)(t:TypeId)(k:Nat)(a:AV):Option Out:=
 match P.underlying t with
 |some (.struct fs)=>match fs[k]? with
  |some f=>match P.info? f.type with
   |some i=>match i.size with
    | 0=>none
    |_+1=>yJ (BZ f.offset a)
   |none=>none
  |none=>none
 |_=>none
theorem uK{e:UJ}{B:Nat}{w:World}{m:GY}{id:Nat}{t:TypeId}{k:Nat}{a:AV}{v:Value}{ns:List Prop}{val:AV}{add:Option GM}(h:qW P t k a=some (ns,val,add))
  (hE:UW e B w)(hm:UT e m w)(ra:Rep e w a v): ∃u w',(Instr.fieldAt t v k).run P w= .ok u w'/\LH e B w m id val add u w':=by
 unfold qW at h;split at h
 ·rename_i fs hu;split at h
  ·rename_i f hf;split at h
   ·rename_i i hi;split at h
    ·cases h
    ·rename_i s hs;obtain ⟨k1,rfl,rfl⟩:=RB h;obtain ⟨ad,rfl,hr⟩:=yU k1 ra;exact ⟨_,w,by simp [Instr.fieldAt,run_underlying hu,hf,Instr.sureAddr,fieldPlace,sizeOf,typeInfo,hi,hs],UK hE hm hr⟩
   ·cases h
  ·cases h
 ·cases h
def jO(P:Program)(m:GY)(t:TypeId)(a ix:AV):Option Out:=
 match ix with
 | .x (.int _ i)=>match P.underlying t with
  |some (.slice el)=>match P.info? el with
   |some info=>match a with
    | .lst sz n f=>match Nat.beq info.size sz with
     |true=>some ([0<=i/\i<(n:Int)],.ro (f i.toNat),none)
     |false=>none
    | .row id=>match DA m id with
     |some (.row _ sz n _)=>match Nat.beq info.size sz with
      |true=>some ([0<=i/\i<(n:Int)],.elt id sz i.toNat 0,none)
      |false=>none
     |_=>none
    |_=>none
   |none=>none
  |some (.array n el)=>match P.info? el with
   |some info=>match Zi3 m (i.toNat*info.size) a with
    |some r=>some ([0<=i/\i<(n:Int)],r,none)
    |none=>none
   |none=>none
  |_=>none
 |_=>none
theorem Xi4{t el:TypeId}(hu:P.underlying t=some (.slice el)):P.elem t=el:=by simp [Program.elem,hu]
theorem uJ{e:UJ}{B:Nat}{w:World}{m:GY}{id:Nat}{t:TypeId}{a ix:AV}{v vi:Value}{ns:List Prop}{val:AV}{add:Option GM}(h:jO P m t a ix=some (ns,val,add))(hn: ∀p∈ns,p)
  (hE:UW e B w)(hm:UT e m w)(ra:Rep e w a v)(ri:Rep e w ix vi): ∃u w',(Instr.indexAt t v vi).run P w= .ok u w'/\LH e B w m id val add u w':=by
 unfold jO at h;split at h
 ·rename_i k i;cases ri.x_inv;split at h
  ·rename_i el hu;have hel:=Xi4 hu;split at h
   ·rename_i info hi;split at h
    ·rename_i sz n f;split at h
     ·rename_i hs;have hs':info.size=sz:=GW hs;subst hs';simp only [HC,FA] at h;obtain ⟨rfl,rfl,rfl⟩:=h;have hb:0<=i/\i<(n:Int):=hn _ VU;cases ra with
      |lstNil sz f=>omega
      |lst sz n f b o cap g h1 h2 hid h3 h3' h4 h5 h6 ad had=>
       have hlt:i.toNat<n:=VI;obtain rfl:=had VI;refine ⟨.pointer (some ⟨b,o+i.toNat*info.size,none⟩),w,?_,UK hE hm ?_⟩
       ·rw [run_indexAt_slice w t _ n cap k i (by rw [hel];exact hu),if_pos hb]
        simp [sizeOf,typeInfo,hel,hi,DE]
       ·refine .ro _ ((List.range info.size).map (g i.toNat)) b _ (h1 VI) (h2 VI) (hid _ hlt) (by simp [h5 _ hlt]) ?_ ?_
        ·intro j u hj;simp only [List.getElem?_map,Option.map_eq_some_iff] at hj;obtain ⟨q,hq,rfl⟩:=hj;obtain ⟨hq1,hq2⟩:=FR.1 hq;simp at hq1 hq2;subst hq2;rw [Nat.add_assoc];exact h4 _ _ hlt hq1
        ·intro j a u ha hj;simp only [List.getElem?_map,Option.map_eq_some_iff] at hj;obtain ⟨q,hq,rfl⟩:=hj;obtain ⟨hq1,hq2⟩:=FR.1 hq;simp at hq1 hq2;subst hq2;exact h6 _ _ _ hlt ha
     ·cases h
    ·rename_i k';split at h
     ·rename_i T sz n f hg;split at h
      ·rename_i hs;have hs':info.size=sz:=GW hs;subst hs';simp only [HC,FA] at h;obtain ⟨rfl,rfl,rfl⟩:=h;have hb:0<=i/\i<(n:Int):=hn _ VU;obtain ⟨hlv,H4,hf,xs,hx,GH⟩:=hm _ (UU hg);cases ra with
       |row _ a n' c hl hv=>
        rcases hx.2 with ⟨hv0,hn0⟩|⟨g,cap,cur,hv0,_,_⟩
        ·omega
        ·rw [hv] at hv0;cases hv0;refine ⟨.pointer (some ⟨g,i.toNat*info.size+0,none⟩),w,?_,UK hE hm (.elt _ _ _ _ g _ _ hl hv)⟩;rw [run_indexAt_slice w t _ _ _ k i (by rw [hel];exact hu),if_pos hb]
         simp [sizeOf,typeInfo,hel,hi,DE]
      ·cases h
     ·cases h
    ·cases h
   ·cases h
  ·rename_i n el hu;split at h
   ·rename_i info hi;split at h
    ·rename_i r hr;simp only [HC,FA] at h;obtain ⟨rfl,rfl,rfl⟩:=h;have hb:0<=i/\i<(n:Int):=hn _ VU;obtain ⟨ad,rfl,GH⟩:=yU (Xf2 hr) ra;refine ⟨.pointer (some (ad.add (i.toNat*info.size))),w,?_,UK hE hm GH⟩;have hel:P.elem t=el:=by simp [Program.elem,hu]
     have hal:P.arrayLen t=n:=by simp [Program.arrayLen,hu]
     rw [run_indexAt_array w t ad k i (by rw [hel,hal];exact hu),hal,if_pos hb]
     simp [sizeOf,typeInfo,hel,hi]
    ·cases h
   ·cases h
  ·cases h
 ·cases h
end
section
variable {P:Program}
def eqA(P:Program):Nat->TypeId->AV->AV->Option Bool
 | 0,_,_,_=>none
 |d+1,t,a,b=>
  match P.underlying t with
  |some (.int _)=>match a,b with
   | .x (.int k x),.x (.int k' y)=>match decide (k=k') with
    |true=>some (x==y)
    |false=>none
   |_,_=>none
  |some .bool=>match L2 a,L2 b with
   |some x,some y=>some (x==y)
   |_,_=>none
  |some .string=>match a,b with
   | .x (.string x),.x (.string y)=>some (x.toList==y.toList)
   |_,_=>none
  |some (.struct fs)=>match a,b with
   | .agg xs,.agg ys=>match P.stoodInHeld t with
    |true=>none
    |false=>fs.toList.foldr (λf acc=>match decide (f.name= "_") with
      |true=>acc
      |false=>match cT P f.type xs f.offset,cT P f.type ys f.offset with
       |some p,some q=>match eqA P d f.type p q,acc with
        |some r,some s=>some (r&&s)
        |_,_=>none
       |_,_=>none) (some true)
   |_,_=>none
  |_=>none
theorem xG{e:UJ}{w:World}: ∀(d:Nat) (t:TypeId) (a b:AV) (va vb:Value) (r:Bool),eqA P d t a b=some r->Rep e w a va->Rep e w b vb->(Op.equalIn d t va vb).run P w= .ok r w
 | 0,_,_,_,_,_,_,h,_,_=>by simp [eqA] at h
 |d+1,t,a,b,va,vb,r,h,ra,rb=>by
  unfold eqA at h;split at h
  ·rename_i k0 hu;split at h
   ·rename_i k x k' y;cases ra.x_inv;cases rb.x_inv;split at h
    ·rename_i hk;have hk':k=k':=qL hk;subst hk';cases h;exact run_equalIn_int w d t k k0 x y hu
    ·cases h
   ·cases h
  ·rename_i hu;split at h
   ·rename_i x y hx hy;cases PU hx ra;cases PU hy rb;cases h;exact run_equalIn_bool' w d t x y hu
   ·cases h
  ·rename_i hu;split at h
   ·rename_i x y;cases ra.x_inv;cases rb.x_inv;cases h;exact run_equalIn_string w d t x y hu
   ·cases h
  ·rename_i fs hu;split at h
   ·rename_i xs ys;obtain ⟨vs,rfl,hvs⟩:=ra.agg_inv;obtain ⟨us,rfl,hus⟩:=rb.agg_inv;split at h
    ·cases h
    ·rename_i hst;have hfs:P.fieldsOf t=fs:=by simp [Program.fieldsOf,hu]
     rw [run_equalIn_struct w d t _ _ (by rw [hfs];exact hu) hst,hfs]
     clear hfs hu;generalize fs.toList=l at h
     induction l generalizing r with
     |nil=>simp at h;subst h;rfl
     |cons f l ih=>
      simp only [List.foldr_cons] at h;split at h
      ·rename_i hn;have hn':f.name= "_":=qL hn;simp only [Op.eqFields,hn',ne_eq,not_true_eq_false,if_false];exact ih r h
      ·rename_i hn;have hn':f.name≠ "_":=of_decide_eq_false hn;split at h
       ·rename_i p q hp hq;split at h
        ·rename_i r1 s hr1 hacc;cases h;obtain ⟨v1,hv1,rep1⟩:=AX (P:=P) hp hvs;obtain ⟨v2,hv2,rep2⟩:=AX (P:=P) hq hus;have h1:=xG d f.type p q v1 v2 r1 hr1 rep1 rep2;have h2:=ih s hacc;simp only [Op.eqFields,hn',ne_eq,not_false_eq_true,if_true,Sem.run_bind,hv1,Result.andThen_ok,hv2,h1];cases r1
         ·simp
         ·simp [h2]
        ·cases h
       ·cases h
   ·cases h
  ·cases h
def Jg7(op:BinOp)(a b:Int):Option Bool:=
 match op with
 | .eql=>some (a==b)
 | .neq=>some (a != b)
 | .lss=>some (decide (a<b))
 | .leq=>some (decide (a<=b))
 | .gtr=>some (decide (a>b))
 | .geq=>some (decide (a>=b))
 |_=>none
def Xk6(a b:Int):Int:=IntKind.i64.wrap (BitVec.ofInt 64 a &&& BitVec.ofInt 64 b).toNat
def orI(a b:Int):Int:=IntKind.i64.wrap (BitVec.ofInt 64 a ||| BitVec.ofInt 64 b).toNat
def anI(a b:Int):Int:=IntKind.i64.wrap (BitVec.ofInt 64 a &&& ~~~(BitVec.ofInt 64 b)).toNat
def arI(op:BinOp)(a b:Int):Option (List Prop×Int):=
 match op with
 | .add=>some ([VK (a+b)],a+b)
 | .sub=>some ([VK (a-b)],a-b)
 | .mul=>some ([VK (a*b)],a*b)
 | .quo=>some ([b≠0,VK (a.tdiv b)],a.tdiv b)
 | .rem=>some ([b≠0],a.tmod b)
 | .and=>some ([],Xk6 a b)
 | .or=>some ([],orI a b)
 | .andNot=>some ([],anI a b)
 | .shl=>some ([0<=b/\b<=64,VK (a*2^b.toNat)],a*2^b.toNat)
 | .shr=>some ([0<=b/\b<=64],a / 2^b.toNat)
 |_=>none
def shI(op:BinOp)(k:IntKind)(a b:Int):Option (List Prop×Int):=match decide (k= .i64) with
 |true=>match op with
  | .shl=>some ([0<=b/\b<=64,VK (a*2^b.toNat)],a*2^b.toNat)
  | .shr=>some ([0<=b/\b<=64],a / 2^b.toNat)
  |_=>none
 |false=>match decide (k= .u64) with
  |true=>match op with
   | .shr=>some ([0<=b/\b<=64],a / 2^b.toNat)
   |_=>none
  |false=>none
theorem Qj5{op:BinOp}{k yk:IntKind}{a b r:Int}{t:TypeId}{ns:List Prop}(h:shI op k a b=some (ns,r))(hn: ∀p∈ns,p)(w:World):(binOp op t (.int k a) (.int yk b)).run P w= .ok (.int k r) w:=by
 unfold shI at h;split at h
 ·rename_i hk;have hk':k= .i64:=qL hk;subst hk';split at h
  ·cases h;have h1:0<=b/\b<=64:=hn _ VU;have h2:VK (a*2^b.toNat):=hn _ VU;have h3: ¬b<0:=VI;have h4:min b.toNat 64=b.toNat:=VI;simp [binOp,Op.shift,h3,IntKind.bits,h4,PZ h2]
  ·cases h;have h1:0<=b/\b<=64:=hn _ VU;have h3: ¬b<0:=VI;have h4:min b.toNat 64=b.toNat:=VI;simp [binOp,Op.shift,h3,IntKind.bits,h4]
  ·cases h
 ·split at h
  ·rename_i hk;have hk':k= .u64:=qL hk;subst hk';split at h
   ·cases h;have h1:0<=b/\b<=64:=hn _ VU;have h3: ¬b<0:=VI;have h4:min b.toNat 64=b.toNat:=VI;simp [binOp,Op.shift,h3,IntKind.bits,h4]
   ·cases h
  ·cases h
def Jh7(k:IntKind)(a b:Int):Int:=k.wrap (BitVec.ofInt k.bits a &&& BitVec.ofInt k.bits b).toNat
def Wc9(P:Program)(op:BinOp)(t:TypeId)(x y:AV):Option Out:=
 match x,y with
 | .x (.int k a),.x (.int k' b)=>match decide (k=k') with
  |true=>match Jg7 op a b with
   |some r=>some ([],.x (.bool r),none)
   |none=>match decide (k= .i64) with
    |true=>match arI op a b with
     |some (ns,r)=>some (ns,.x (.int .i64 r),none)
     |none=>none
    |false=>match op,decide (k= .u16) with
     | .quo,true=>some ([b≠0,0<=a.tdiv b/\a.tdiv b<=65535],.x (.int .u16 (a.tdiv b)),none)
     | .and,_=>some ([],.x (.int k (Jh7 k a b)),none)
     |_,_=>none
  |false=>match shI op k a b with
   |some (ns,r)=>some (ns,.x (.int k r),none)
   |none=>none
 | .x (.string a),.x (.string b)=>match op with
  | .eql=>some ([],.x (.bool (a.toList==b.toList)),none)
  | .neq=>some ([],.x (.bool (!(a.toList==b.toList))),none)
  | .add=>some ([((a.size+b.size:Nat):Int)<=9223372036854775807],.x (.string (a++b)),none)
  |_=>none
 | .agg l,.agg l'=>match P.eqGuardType P.depth t with
  |true=>none
  |false=>match op,eqA P 10000 t (.agg l) (.agg l') with
   | .eql,some r=>some ([],.x (.bool r),none)
   | .neq,some r=>some ([],.x (.bool !r),none)
   |_,_=>none
 |x,y=>match L2 x,L2 y,P.underlying t with
  |some a,some b,some .bool=>match op with
   | .eql=>some ([],.x (.bool (a==b)),none)
   | .neq=>some ([],.x (.bool (!(a==b))),none)
   |_=>none
  |_,_,_=>none
theorem cZ{e:UJ}{B:Nat}{w:World}{m:GY}{id:Nat}{op:BinOp}{t:TypeId}{ox oy:Operand}{x y:AV}{vx vy:Value}{ns:List Prop}{val:AV}{add:Option GM}(h:Wc9 P op t x y=some (ns,val,add))(hn: ∀p∈ns,p)
  (hE:UW e B w)(hm:UT e m w)(rx:Rep e w x vx)(ry:Rep e w y vy):
  ∃u w',(do eqGuard op t ox oy vx vy;binOp op t vx vy:Sem Value).run P w= .ok u w'/\LH e B w m id val add u w':=by
 unfold Wc9 at h;split at h
 ·rename_i k a k' b;cases rx.x_inv;cases ry.x_inv;have hg:(eqGuard op t ox oy (.int k a) (.int k' b)).run P w= .ok () w:=by cases op<;>simp [eqGuard]
  split at h
  ·rename_i hk;have hk':k=k':=qL hk;subst hk';split at h
   ·rename_i r hr;cases h;refine ⟨.bool r,w,?_,UK hE hm (.x _)⟩;rw [Sem.run_bind,hg];cases op<;>simp [Jg7] at hr<;>subst hr<;>simp [binOp,Op.intCmp]
   ·rename_i hr;split at h
    ·rename_i hi;have hi':k= .i64:=qL hi;subst hi';split at h
     ·rename_i ns' r har;cases h;refine ⟨.int .i64 r,w,?_,UK hE hm (.x _)⟩;rw [Sem.run_bind,hg];cases op<;>simp [arI] at har
      case add=>
       obtain ⟨rfl,rfl⟩:=har;have h1:VK (a+b):=hn _ VU;simp [binOp,Op.intArith,PZ h1]
      case sub=>
       obtain ⟨rfl,rfl⟩:=har;have h1:VK (a-b):=hn _ VU;simp [binOp,Op.intArith,PZ h1]
      case mul=>
       obtain ⟨rfl,rfl⟩:=har;have h1:VK (a*b):=hn _ VU;simp [binOp,Op.intArith,PZ h1]
      case quo=>
       obtain ⟨rfl,rfl⟩:=har;have h0:b≠0:=hn _ VU;have h1:VK (a.tdiv b):=hn _ VU;simp [binOp,Op.intDiv,h0,PZ h1]
      case rem=>
       obtain ⟨rfl,rfl⟩:=har;have h0:b≠0:=hn _ VU;simp [binOp,Op.intDiv,h0]
      case and=>
       obtain ⟨rfl,rfl⟩:=har;rfl
      case or=>
       obtain ⟨rfl,rfl⟩:=har;rfl
      case andNot=>
       obtain ⟨rfl,rfl⟩:=har;rfl
      case shl=>
       obtain ⟨rfl,rfl⟩:=har;have h1:0<=b/\b<=64:=hn _ VU;have h2:VK (a*2^b.toNat):=hn _ VU;have h3: ¬b<0:=VI;have h4:min b.toNat 64=b.toNat:=VI;simp [binOp,Op.shift,h3,IntKind.bits,h4,PZ h2]
      case shr=>
       obtain ⟨rfl,rfl⟩:=har;have h1:0<=b/\b<=64:=hn _ VU;have h3: ¬b<0:=VI;have h4:min b.toNat 64=b.toNat:=VI;simp [binOp,Op.shift,h3,IntKind.bits,h4]
     ·cases h
    ·split at h
     ·rename_i hk2;have hk3:k= .u16:=qL hk2;subst hk3;cases h;refine ⟨.int .u16 (a.tdiv b),w,?_,UK hE hm (.x _)⟩;rw [Sem.run_bind,hg];have h0:b≠0:=hn _ VU;have h1:0<=a.tdiv b/\a.tdiv b<=65535:=hn _ VU;have e:IntKind.u16.wrap (a.tdiv b)=a.tdiv b:=by
       have e1:IntKind.u16.wrap (a.tdiv b)=(a.tdiv b)%2^16:=rfl;rw [e1,Int.emod_eq_of_lt VI VI]
      simp [binOp,Op.intDiv,h0,e]
     ·cases h;refine ⟨.int k (Jh7 k a b),w,?_,UK hE hm (.x _)⟩;rw [Sem.run_bind,hg];cases k<;>rfl
     ·cases h
  ·split at h
   ·rename_i ns' r hsh;cases h;refine ⟨.int k r,w,?_,UK hE hm (.x _)⟩;rw [Sem.run_bind,hg];exact Qj5 hsh hn w
   ·cases h
 ·rename_i a b;cases rx.x_inv;cases ry.x_inv;have hg:(eqGuard op t ox oy (.string a) (.string b)).run P w= .ok () w:=by cases op<;>simp [eqGuard]
  split at h
  ·cases h;refine ⟨_,w,?_,UK hE hm (.x _)⟩;rw [Sem.run_bind,hg];simp [binOp,Op.stringOp]
  ·cases h;refine ⟨_,w,?_,UK hE hm (.x _)⟩;rw [Sem.run_bind,hg];simp [binOp,Op.stringOp]
  ·cases h;refine ⟨.string (a++b),w,?_,UK hE hm (.x _)⟩;have hb:((a.size+b.size:Nat):Int)<=9223372036854775807:=hn _ VU;have hb': ¬((a.size+b.size:Nat):Int)>IntKind.i64.max:=by
    show ¬((a.size+b.size:Nat):Int)>9223372036854775807;omega
   have h1:(Op.stringOp .add a b).run P w= .ok (.string (a++b)) w:=by
    unfold Op.stringOp;simp only [if_neg hb'];rfl
   rw [Sem.run_bind,hg];simp [binOp,h1]
  ·cases h
 ·rename_i l l';split at h
  ·cases h
  ·rename_i hgt;obtain ⟨vs,rfl,_⟩:=rx.agg_inv;obtain ⟨us,rfl,_⟩:=ry.agg_inv;have hg:=run_eqGuard_agg (P:=P) w op t ox oy vs.toArray us.toArray hgt;split at h
   ·rename_i r hr;cases h;have:=xG (P:=P) 10000 t _ _ _ _ r hr rx ry;refine ⟨_,w,?_,UK hE hm (.x _)⟩;rw [Sem.run_bind,hg,Result.andThen_ok,run_eql_struct,this];rfl
   ·rename_i r hr;cases h;have:=xG (P:=P) 10000 t _ _ _ _ r hr rx ry;refine ⟨_,w,?_,UK hE hm (.x _)⟩;rw [Sem.run_bind,hg,Result.andThen_ok,run_neq_struct,this];rfl
   ·cases h
 ·split at h
  ·rename_i a b ha hb hu;cases PU ha rx;cases PU hb ry;have hg:(eqGuard op t ox oy (.bool a) (.bool b)).run P w= .ok () w:=by cases op<;>simp [eqGuard]
   have he:(Op.equal t (.bool a) (.bool b)).run P w= .ok (a==b) w:=run_equalIn_bool' w 9999 t a b hu;split at h
   ·cases h;refine ⟨_,w,?_,UK hE hm (.x _)⟩;rw [Sem.run_bind,hg];simp [binOp,he]
   ·cases h;refine ⟨_,w,?_,UK hE hm (.x _)⟩;rw [Sem.run_bind,hg];simp [binOp,he]
   ·cases h
  ·cases h
end
section
variable {P:Program}
def Zg4(op:UnOp):AV->Option Out
 | .x (.int .i64 n)=>match op with
  | .neg=>some ([VK (-n)],.x (.int .i64 (-n)),none)
  |_=>none
 | .lit b=>match op with
  | .not=>some ([],.lit (!b),none)
  |_=>none
 | .x (.bool b)=>match op with
  | .not=>some ([],.x (.bool (!b)),none)
  |_=>none
 |_=>none
theorem nZ{e:UJ}{B:Nat}{w:World}{m:GY}{id:Nat}{op:UnOp}{x:AV}{v:Value}{ns:List Prop}{val:AV}{add:Option GM}(h:Zg4 op x=some (ns,val,add))(hn: ∀p∈ns,p)
  (hE:UW e B w)(hm:UT e m w)(rx:Rep e w x v): ∃u w',(Op.unary op v).run P w= .ok u w'/\LH e B w m id val add u w':=by
 unfold Zg4 at h;split at h
 ·rename_i n;cases rx.x_inv;split at h
  ·cases h;have h1:VK (-n):=hn _ VU;refine ⟨_,w,?_,UK hE hm (.x _)⟩;have h2:(0:Int)-n= -n:=VI;simp [Op.unary,Op.intArith,h2,PZ h1]
  ·cases h
 ·rename_i b;cases rx.lit_inv;split at h
  ·cases h;exact ⟨_,w,by simp [Op.unary],UK hE hm (.lit _)⟩
  ·cases h
 ·rename_i b;cases rx.x_inv;split at h
  ·cases h;exact ⟨_,w,by simp [Op.unary],UK hE hm (.x _)⟩
  ·cases h
 ·cases h
def byN(s:ByteArray)(j:Nat):Int:=((s.data.getD j 0).toNat:Int)
def DK(s:ByteArray)(j:Nat):List AV:=[.x (.int .u8 (byN s j))]
def byO:List AV->Nat
 |[.x (.int .u8 n)]=>n.toNat
 |_=>0
section
variable (n:Nat)(f:Nat->List AV)
def bsO:ByteArray:=⟨((List.range n).map λj=>UInt8.ofNat (byO (f j))).toArray⟩
def uS:Prop:= ∀j,j<n->byO (f j)<256/\f j=[.x (.int .u8 (byO (f j):Int))]
end
def o1(P:Program)(src dst:TypeId):AV->Option Out
 | .x (.int _ n)=>match P.underlying src,P.underlying dst with
  |some _,some (.int k)=>match decide (k= .i64) with
   |true=>some ([VK n],.x (.int .i64 n),none)
   |false=>some ([],.x (.int k (k.wrap n)),none)
  |_,_=>none
 | .x (.string s)=>match P.underlying src,P.underlying dst with
  |some .string,some .string=>some ([],.x (.string s),none)
  |some .string,some (.slice el)=>match P.underlying el with
   |some (.int .u8)=>some ([s.size<=4294967296],.lst 1 s.size (DK s),none)
   |_=>none
  |_,_=>none
 | .x (.slice none n c)=>match P.underlying src,P.underlying dst with
  |some (.slice el),some .string=>match P.underlying el with
   |some (.int .u8)=>some ([],.x (.string ByteArray.empty),none)
   |_=>none
  |_,_=>none
 | .lst sz n f=>match P.underlying src,P.underlying dst with
  |some (.slice el),some .string=>match P.underlying el with
   |some (.int .u8)=>match Nat.beq sz 1 with
    |true=>some ([uS n f],.x (.string (bsO n f)),none)
    |false=>none
   |_=>none
  |_,_=>none
 |_=>none
section
variable {e:UJ}{B:Nat}{w:World}{m:GY}{id:Nat}
theorem pQ{s:ByteArray}{el:TypeId}(hE:UW e B w)(hm:UT e m w)(h1:s.size<=4294967296):
  LH e B w m id (.lst 1 s.size (DK s)) none (.slice (some ⟨w.heap.size,0,none⟩) s.size (grownCap w s.size 0 el)) (w.drew.alloc (.cells (bytesRow s (grownCap w s.size 0 el)) el ((bytesRow s (grownCap w s.size 0 el)).size,(bytesRow s (grownCap w s.size 0 el)).size+1))):=by
 generalize hob:Obj.cells (bytesRow s (grownCap w s.size 0 el)) el ((bytesRow s (grownCap w s.size 0 el)).size,(bytesRow s (grownCap w s.size 0 el)).size+1)=ob
 let e':UJ:={ro:=λb=>e.ro b\/b=w.heap.size,own:=e.own,live:=e.live,blk:=e.blk,val:=e.val}
 have hsz:(w.drew.alloc ob).heap.size=w.heap.size+1:=VU;have dJ:Below w.heap.size w (w.drew.alloc ob):=((Below.refl w.heap.size w).drew).alloc (Nat.le_refl _) _;have st:Step e e' w (w.drew.alloc ob):=⟨λb hb hr=>⟨.inl hr,dJ.block b hb⟩,λk hk=>⟨hk,rfl,rfl⟩,VI⟩
 refine ⟨e',dJ,st,⟨λb hb=>?_,λb k hk=>?_,hE.glob.step st⟩,λ_ _ h=>h,?_,λp hp=>(hm p hp).ext dJ st (λ_ _ h=>h),λk hk=> .inl hk,λb hb=>?_⟩
 ·rcases hb with hb|rfl
  ·have:=hE.apart b hb;exact ⟨this.1,VI⟩
  ·refine ⟨?_,VI⟩;cases ho:e.own w.heap.size with
   |none=>rfl
   |some k=>have:=(hE.owned _ k ho).2;omega
 ·have:=hE.owned b k hk;exact ⟨this.1,VI⟩
 ·refine .lst 1 s.size (DK s) w.heap.size 0 _ (λi _=> .int .u8 (byN s i)) (λ_=>(show e.ro w.heap.size\/w.heap.size=w.heap.size from .inr rfl)) (λ_=>VI) (λi _ a ha=>?_) (by have:=grownCap_ge w s.size 0 el;omega) (grownCap_le_maxLen w s.size 0 el (by unfold maxLen;omega)) (λi j hi hj=>?_) (λ_ _=>rfl) (λi j a hi ha=>?_) _ (λ_=>rfl)
  ·rw [qM.1 ha];exact .x _
  ·obtain rfl:j=0:=VI;have hh:(w.drew.alloc ob).heap[w.heap.size]? =some ob:=heap_alloc_new w.drew ob;unfold World.cell?;rw [hh,←hob];have hi':i<s.data.size:=hi;have e0:0+(i*1+0)=i:=VI;show (bytesRow s _)[0+(i*1+0)]? =_;rw [e0,bytesRow_at s _ i hi'];unfold byN;rw [LY,Array.getElem?_eq_getElem hi'];rfl
  ·cases j with
   |zero=>
    simp only [DK,List.getElem?_cons_zero,HC] at ha;rw [←ha];exact .x _
   |succ j=>simp [DK] at ha
 ·rcases hb with hb|rfl
  ·exact .inl hb
  ·exact .inr (Nat.le_refl _)
theorem T9{src dst:TypeId}{x:AV}{v:Value}{ns:List Prop}{val:AV}{add:Option GM}(h:o1 P src dst x=some (ns,val,add))(hn: ∀p∈ns,p)
  (hE:UW e B w)(hB:B<=w.heap.size)(hm:UT e m w)(rx:Rep e w x v): ∃u w',(convert src dst v).run P w= .ok u w'/\LH e B w m id val add u w':=by
 unfold o1 at h;split at h
 ·rename_i k0 n;cases rx.x_inv;split at h
  ·rename_i d k hs hd;split at h
   ·rename_i hk;have hk':k= .i64:=qL hk;subst hk';cases h;have h1:VK n:=hn _ VU;exact ⟨_,w,by simp [convert,run_underlying hs,run_underlying hd,Conv.intToInt,PZ h1],UK hE hm (.x _)⟩
   ·cases h;exact ⟨_,w,by simp [convert,run_underlying hs,run_underlying hd,Conv.intToInt],UK hE hm (.x _)⟩
  ·cases h
 ·rename_i s;cases rx.x_inv;split at h
  ·rename_i hs hd;cases h;exact ⟨_,w,by simp [convert,run_underlying hs,run_underlying hd],UK hE hm (.x _)⟩
  ·rename_i el hs hd;split at h
   ·rename_i he;cases h;have h1:s.size<=4294967296:=hn _ VU;exact ⟨_,_,run_bytes_of_string w src dst el s hs hd he,pQ hE hm h1⟩
   ·cases h
  ·cases h
 ·rename_i n c;cases rx.x_inv;split at h
  ·rename_i el hs hd;split at h
   ·rename_i he;cases h;exact ⟨_,w,by rw [run_convert_bytes_string w src dst el none n c hs he hd];simp [Conv.bytesToString],UK hE hm (.x _)⟩
   ·cases h
  ·cases h
 ·rename_i sz n f;split at h
  ·rename_i el hs hd;split at h
   ·rename_i he;split at h
    ·rename_i hz;obtain rfl:sz=1:=GW hz;cases h;have h1:uS n f:=hn _ VU;refine ⟨.string (bsO n f),w,?_,UK hE hm (.x _)⟩;cases rx with
     |lstNil=>
      rw [run_convert_bytes_string w src dst el none 0 0 hs he hd];simp [Conv.bytesToString,bsO];rfl
     |lst _ _ _ b o cap g h2 h3 h4 h5 h6 h7 h8 h9 ad had=>
      have hl:((List.range n).map λj=>UInt8.ofNat (byO (f j))).length=n:=VU
      have hc: ∀j (hj:j<((List.range n).map λj=>UInt8.ofNat (byO (f j))).length),w.cell? (ad.add j)=some (.int .u8 ((((List.range n).map λj=>UInt8.ofNat (byO (f j)))[j]).toNat:Int)):=by
       intro j hj;have hj:j<n:=VI;rw [had VI];have h10:=h7 j 0 hj VI;have h11:=h9 j 0 (.x (.int .u8 (byO (f j):Int))) hj (by rw [(h1 j hj).2];rfl)
       have h12:=h11.x_inv;rw [h12] at h10;have e1:(⟨b,o,none⟩:Addr).add j=⟨b,o+(j*1+0),none⟩:=by
        simp [Addr.add]
       rw [e1,h10];have h13:=(h1 j hj).1;simp only [List.getElem_map,List.getElem_range];rw [UInt8.toNat_ofNat_of_lt' h13]
      have hk:=run_convert_bytes_back w src dst el ad cap ((List.range n).map λj=>UInt8.ofNat (byO (f j))) hs he hd hc
      rw [hl] at hk;exact hk
    ·cases h
   ·cases h
  ·cases h
 ·cases h
end
def H0(off:Nat):List AV->List AV->List AV
 |[],cells=>cells
 |c::cs,cells=>H0 (off+1) cs (cells.set off c)
theorem AN{e:UJ}{w:World}: ∀(cs:List AV) (vs:List Value) (off:Nat) (cells:List AV) (us:List Value),U1 e w cs vs->U1 e w cells us->
  U1 e w (H0 off cs cells) ((vs.zipIdx).foldl (λ(acc:List Value) (p:Value×Nat)=>acc.set (off+p.2) p.1) us)
 |[],vs,off,cells,us,h,k=>by cases h.nil_inv;simpa [H0] using k
 |c::cs,vs,off,cells,us,h,k=>by
  obtain ⟨v,vs',rfl,hv,hvs⟩:=h.cons_inv;have ih:=AN cs vs' (off+1) (cells.set off c) (us.set off v) hvs (k.set hv off);simp only [H0,List.zipIdx_cons,List.foldl_cons,Nat.add_zero,Nat.zero_add];have e1: ∀(l:List Value) (n:Nat) (acc:List Value),(l.zipIdx (n+1)).foldl (λ(acc:List Value) (p:Value×Nat)=>acc.set (off+p.2) p.1) acc=(l.zipIdx n).foldl (λ(acc:List Value) (p:Value×Nat)=>acc.set (off+1+p.2) p.1) acc:=by
   intro l
   induction l with
   |nil=>intro n acc;simp
   |cons a l ih=>intro n acc;simp only [List.zipIdx_cons,List.foldl_cons];rw [ih,show off+(n+1)=off+1+n by omega]
  rw [e1 vs' 0];exact ih
def IH(place:Nat->Option (Nat×Nat))(cells:List AV):List (Nat×AV)->Option (List AV)
 |[]=>some cells
 |(i,a)::rest=>match place i,a.cellsOf with
  |some (off,size),some cs=>match Nat.beq cs.length size&&Nat.ble (off+cs.length) cells.length with
   |true=>IH place (H0 off cs cells) rest
   |false=>none
  |_,_=>none
theorem w7(off:Nat): ∀(l:List (Value×Nat)) (us:List Value),l.foldl (λ(cs:Array Value) (x:Value×Nat)=>cs.setIfInBounds (off+x.2) x.1) us.toArray=(l.foldl (λ(acc:List Value) (p:Value×Nat)=>acc.set (off+p.2) p.1) us).toArray
 |[],us=>rfl
 |(v,j)::l,us=>by simp only [List.foldl_cons,List.setIfInBounds_toArray];exact w7 off l _
theorem w9{e:UJ}{w:World}{place:Nat->Option (Nat×Nat)}: ∀(parts:List (Nat×AV)) (vparts:List (Nat×Value)) (cells:List AV) (us:List Value) (r:List AV),IH place cells parts=some r->
  U1 e w cells us->parts.map (·.1)=vparts.map (·.1)->U1 e w (parts.map (·.2)) (vparts.map (·.2))-> ∃rs:List Value,Instr.fill place us.toArray vparts=some rs.toArray/\U1 e w r rs/\rs.length=us.length
 |[],vparts,cells,us,r,h,k,hi,hp=>by
  simp [IH] at h;subst h;have:vparts=[]:=by simpa using hi
  subst this;exact ⟨us,rfl,k,rfl⟩
 |(i,a)::rest,vparts,cells,us,r,h,k,hi,hp=>by
  cases vparts with
  |nil=>simp at hi
  |cons p vrest=>
   obtain ⟨i',v⟩:=p;simp only [List.map_cons,List.cons.injEq] at hi;obtain ⟨rfl,hi⟩:=hi;obtain ⟨v',vs',hvv,hv,hvs⟩:=U1.cons_inv (by simpa using hp)
   simp only [List.cons.injEq] at hvv;obtain ⟨rfl,rfl⟩:=hvv;unfold IH at h;split at h
   ·rename_i off size cs hpl hcs;split at h
    ·rename_i hb;simp only [H2] at hb;have h1:cs.length=size:=GW hb.1;have h2:off+cs.length<=cells.length:=qN hb.2;have hc:=wB hcs hv;have hs:=AN cs v.cells.toList off cells us hc k;obtain ⟨rs,g1,g2,g3⟩:=w9 rest vrest _ _ r h hs hi hvs;refine ⟨rs,?_,g2,?_⟩
     ·have hsz:v.cells.size=size:=by rw [←h1,hc.1];simp
      have hle: ¬off+v.cells.size>us.toArray.size:=by
       have:cs.length=v.cells.size:=by rw [hc.1];simp
       simp [←k.1];omega
      unfold Instr.fill;simp only [hpl];rw [if_neg (by simp [hsz] at hle ⊢;omega)]
      rw [←g1]
      congr 1
      rw [←Array.foldl_toList,Array.toList_zipIdx];exact w7 off _ us
     ·rw [g3,←hs.1];have hl: ∀(cs:List AV) (off:Nat) (cells:List AV),(H0 off cs cells).length=cells.length:=by
       intro cs
       induction cs with
       |nil=>intro off cells;rfl
       |cons c cs ih=>intro off cells;simp [H0,ih]
      rw [hl,k.1]
    ·cases h
   ·cases h
def TA(P:Program)(t:TypeId)(parts:List (Nat×AV)):Option Out:=
 match P.info? t,P.underlying t with
 |some it,some (.struct fields)=>match it.zero,fields.toList.mapM (λf=>(P.info? f.type).map λi=>(f.offset,i.size)) with
  |some z,some places=>match IH (places[·]?) (z.cells.toList.map .x) parts with
   |some l=>some ([],.agg l,none)
   |none=>none
  |_,_=>none
 |some it,some (.array _ el)=>match it.zero,P.info? el with
  |some z,some ie=>match IH (λi=>some (i*ie.size,ie.size)) (z.cells.toList.map .x) parts with
   |some l=>some ([],.agg l,none)
   |none=>none
  |_,_=>none
 |_,_=>none
theorem MM{e:UJ}{B:Nat}{w:World}{m:GY}{id:Nat}{t:TypeId}{parts:List (Nat×AV)}{vparts:Array (Nat×Value)}{ns:List Prop}{val:AV}{add:Option GM}(h:TA P t parts=some (ns,val,add))
  (hE:UW e B w)(hm:UT e m w)(hi:parts.map (·.1)=vparts.toList.map (·.1))(hp:U1 e w (parts.map (·.2)) (vparts.toList.map (·.2))):
  ∃u w',(Instr.build t vparts).run P w= .ok u w'/\LH e B w m id val add u w':=by
 unfold TA at h;split at h
 ·rename_i it fields hit hu;split at h
  ·rename_i z places hz hpl;split at h
   ·rename_i l hl;cases h;obtain ⟨rs,g1,g2,_⟩:=w9 parts vparts.toList _ _ l hl (U1.xs e w z.cells.toList) hi hp;refine ⟨.agg rs.toArray,w,run_build w t vparts rs.toArray ?_,UK hE hm (Rep.aggL g2)⟩;simp only [Program.built,hit,hu,hz,hpl];simpa using g1
   ·cases h
  ·cases h
 ·rename_i it n el hit hu;split at h
  ·rename_i z ie hz hie;split at h
   ·rename_i l hl;cases h;obtain ⟨rs,g1,g2,_⟩:=w9 parts vparts.toList _ _ l hl (U1.xs e w z.cells.toList) hi hp;refine ⟨.agg rs.toArray,w,run_build w t vparts rs.toArray ?_,UK hE hm (Rep.aggL g2)⟩;simp only [Program.built,hit,hu,hz,hie];simpa using g1
   ·cases h
  ·cases h
 ·cases h
def AV.idf:AV->Bool
 | .top| .lit _| .x _| .ro _| .lst .. | .roI .. | .mpr .. | .any1=>true
 |_=>false
theorem zG{e:UJ}{w:World}{a:AV}{v:Value}(h:Rep e w a v)(k:a.idf=true):Idf a:=by
 cases h with
 |top v=>exact .top
 |lit b=>exact .lit b
 |x v=>exact .x v
 |ro l vs b o h1 h2 h3 h4 h5 h6=>exact .ro l h3
 |lstNil sz f=>exact .lst sz 0 f (λi hi=>VI)
 |lst sz n f b o cap g h1 h2 h3 h4 h5 h6 h7 h8 ad had=>exact .lst sz n f h3
 |roI pre n f off b o hr=>cases hr with|ro _ vs _ _ h1 h2 h3 h4 h5 h6=>exact .roI pre n f off (.ro _ h3)
 |mpr g okf vals b es c h1 h2 h3 h4 h5 h6 h7 h8=>exact .mpr g okf h3
 |any1 v hv=>exact .any1
 |_=>simp [AV.idf] at k
theorem Qb0{e:UJ}{w:World}{l:List AV}{vs:List Value}(h:U1 e w l vs)(k:l.all AV.idf=true): ∀a∈l,Idf a:=by
 intro a ha;obtain ⟨i,hi⟩:=wM.1 ha;obtain ⟨v,hv,r⟩:=h.get hi;exact zG r (PV.1 k a ha)
def U4(sz:Nat)(l:List AV)(i:Nat):List AV:=(l.drop (i*sz)).take sz
def zA(P:Program)(id:Nat)(t:TypeId)(len:Nat)(parts:List (Nat×AV)):Option Out:=
 match P.underlying t with
 |some (.slice el)=>match P.info? el with
  |some ie=>match ie.zero with
   |some z=>match Nat.ble 1 (len*ie.size)&&Nat.ble (len*ie.size) 16777216&&Nat.ble 1 len with
    |true=>match IH (λi=>some (i*ie.size,ie.size)) (((List.range (len*ie.size)).map (z.cells[· %z.cells.size]!)).map .x) parts with
     |some l=>match l.all AV.idf with
      |true=>some ([],.row id,some (.row el ie.size len (U4 ie.size l)))
      |false=>none
     |none=>none
    |false=>match Nat.beq len 0 with
     |true=>some ([],.row id,some (.row el ie.size 0 (λ_=>[])))
     |false=>none
   |none=>none
  |none=>none
 |_=>none
theorem vA{e:UJ}{B:Nat}{w:World}{m:GY}{id:Nat}{t:TypeId}{len:Nat}{parts:List (Nat×AV)}{vparts:Array (Nat×Value)}{ns:List Prop}{val:AV}{add:Option GM}(h:zA P id t len parts=some (ns,val,add))
  (hE:UW e B w)(hB:B<=w.heap.size)(hm:UT e m w)(hid: ¬e.live id)(hi:parts.map (·.1)=vparts.toList.map (·.1))(hp:U1 e w (parts.map (·.2)) (vparts.toList.map (·.2)))(h0:len=0->vparts=#[]):
  ∃u w',(Instr.buildSlice t len vparts).run P w= .ok u w'/\LH e B w m id val add u w':=by
 unfold zA at h;split at h
 ·rename_i el hu;split at h
  ·rename_i ie hie;split at h
   ·rename_i z hz;split at h
    ·rename_i hb;simp only [H2] at hb;obtain ⟨⟨hb1,hb2⟩,hb3⟩:=hb;have hb1:=qN hb1;have hb2:=qN hb2;have hb3:=qN hb3;split at h
     ·rename_i l hl;split at h
      rotate_left
      ·cases h
      rename_i FL;cases h;obtain ⟨rs,g1,g2,g3⟩:=w9 parts vparts.toList _ _ l hl (U1.xs e w _) hi hp;have HT:rs.length=len*ie.size:=by rw [g3];simp
      have hll:l.length=len*ie.size:=by rw [g2.1,HT]
      have hsz:1<=ie.size:=by
       rcases Nat.eq_zero_or_pos ie.size with h0|h0
       ·rw [h0] at hb1;omega
       ·exact h0
      have hle:len<=len*ie.size:=Nat.le_mul_of_pos_right len hsz;have HW:=Qb0 g2 FL;have Zk2: ∀i,i<len->(U4 ie.size l i).length=ie.size/\ ∀a∈U4 ie.size l i,Idf a:=by
       intro i hi';refine ⟨?_,λa ha=>HW a (List.mem_of_mem_drop (List.mem_of_mem_take ha))⟩
       have:=BC ie.size (Nat.succ_le_of_lt hi');rw [Nat.succ_mul] at this;simp only [U4,List.length_take,List.length_drop,hll];omega
      refine ⟨_,_,run_buildSlice w t el len vparts rs.toArray ie z hu hie hz VI VI ?_,?_⟩
      ·rw [←g1];have hr:(Array.range (len*ie.size)).map (z.cells[· %z.cells.size]!)=((List.range (len*ie.size)).map (z.cells[· %z.cells.size]!)).toArray:=Array.ext' VU;rw [hr]
      ·refine IJ hE hB hm hid (Nat.le_refl _) (by unfold maxLen;omega) HT Zk2 ?_
       intro i j a v hi' ha hv;simp only [U4,List.getElem?_take,List.getElem?_drop] at ha;split at ha
       ·exact g2.2 _ _ _ ha hv
       ·cases ha
     ·cases h
    ·split at h
     ·rename_i hl;have hl':len=0:=GW hl;subst hl';cases h;cases h0 rfl;refine ⟨_,_,?_,IJ (cs:=[]) (c:=0) hE hB hm hid (Nat.le_refl _) (by unfold maxLen;omega) VU (λi hi=>VI) (λi j a v hi=>VI)⟩
      have hr:Array.range 0=#[]:=rfl;simp [Instr.buildSlice,run_underlying hu,sizeOf,typeInfo,hie,Instr.fill,newRow,hr]
     ·cases h
   ·cases h
  ·cases h
 ·cases h
def jM(P:Program)(id:Nat)(t:TypeId)(l c:AV):Option Out:=
 match l,c with
 | .x (.int _ n),.x (.int _ c)=>match P.underlying t with
  |some (.slice el)=>match P.info? el with
   |some ie=>match ie.zero with
    |some z=>match Nat.beq z.cells.size ie.size&&Nat.ble 1 ie.size&&Nat.ble ie.bytes 1000000 with
     |true=>some ([0<=n/\n<=1000000,n=c],.row id,some (.row el ie.size n.toNat (λ_=>z.cells.toList.map .x)))
     |false=>none
    |none=>none
   |none=>none
  |_=>none
 |_,_=>none
theorem uI{e:UJ}{B:Nat}{w:World}{m:GY}{id:Nat}{t:TypeId}{l c:AV}{vl vc:Value}{ns:List Prop}{val:AV}{add:Option GM}(h:jM P id t l c=some (ns,val,add))(hn: ∀p∈ns,p)
  (hE:UW e B w)(hB:B<=w.heap.size)(hm:UT e m w)(hid: ¬e.live id)(rl:Rep e w l vl)(rc:Rep e w c vc):
  ∃u w',(Instr.makeSlice t vl vc).run P w= .ok u w'/\LH e B w m id val add u w':=by
 unfold jM at h;split at h
 ·rename_i k n k' c';cases rl.x_inv;cases rc.x_inv;split at h
  ·rename_i el hu;split at h
   ·rename_i ie hie;split at h
    ·rename_i z hz;split at h
     ·rename_i hb;simp only [H2] at hb;obtain ⟨⟨hb1,hb2⟩,hb3⟩:=hb;have hb1:=GW hb1;have hb2:=qN hb2;have hb3:=qN hb3;cases h;obtain ⟨n0,n1⟩:0<=n/\n<=1000000:=hn _ VU;have hnc:n=c':=hn _ VU;subst hnc;have RD:(ie.bytes:Int)*n<=281474976710656:=by
       have h1:(ie.bytes:Int)*n<=1000000*1000000:=Int.mul_le_mul VI n1 n0 VI;omega
      refine ⟨_,_,run_make (P:=P) w t el ie z hu hie hz k k' n n n0 (Int.le_refl _) RD VI,?_⟩;have hcs:(madeCells z.cells (n.toNat*ie.size))=((madeCells z.cells (n.toNat*ie.size)).toList).toArray:=VU;rw [hcs];refine IJ hE hB hm hid (Nat.le_refl _) (by unfold maxLen;omega) (by simp [size_madeCells]) (λi hi=>⟨by simp [hb1],λa ha=>?_⟩) ?_
      ·obtain ⟨v,_,rfl⟩:=List.mem_map.1 ha;exact .x v
      ·intro i j a v hi ha hv;rw [List.getElem?_map] at ha;obtain ⟨v0,hv0,rfl⟩:=Option.map_eq_some_iff.1 ha;have hj:j<ie.size:=by
        have:=(FR.1 hv0).1;simp at this;omega
       have hv1:v=z.cells[(i*ie.size+j)%z.cells.size]! :=by
        have hlt:=(FR.1 hv).1;have:=(FR.1 hv).2;rw [←this];simp [madeCells]
       have hm:(i*ie.size+j)%z.cells.size=j:=by
        rw [hb1,Nat.mul_comm,Nat.mul_add_mod,Nat.mod_eq_of_lt hj]
       rw [hm] at hv1;have:v=v0:=by
        rw [hv1];have h1:z.cells[j]? =some v0:=by simpa using hv0
        rw [getElem!_def,h1]
       rw [this];exact .x _
     ·cases h
    ·cases h
   ·cases h
  ·cases h
 ·cases h
end
section
variable {P:Program}
def loI:Option AV->Option Int
 |none=>some 0
 |some (.x (.int _ i))=>some i
 |_=>none
def hiI(n:Nat):Option AV->Option Int
 |none=>some n
 |some (.x (.int _ i))=>some i
 |_=>none
def T3(P:Program)(t:TypeId)(x:AV)(lo hi:Option AV):Option Out:=
 match x with
 | .lst sz n f=>match P.underlying t with
  |some (.slice el)=>match P.info? el with
   |some info=>match Nat.beq info.size sz with
    |true=>match loI lo,hiI n hi with
     |some l,some h=>some ([0<=l/\l<=h/\h<=(n:Int)],.lst sz (h.toNat-l.toNat) (λi=>f (l.toNat+i)),none)
     |_,_=>none
    |false=>none
   |none=>none
  |_=>none
 | .x (.string s)=>match P.underlying t with
  |some .string=>match loI lo,hiI s.size hi with
   |some l,some h=>some ([0<=l/\l<=h/\h<=(s.size:Int)],.x (.string (s.extract l.toNat h.toNat)),none)
   |_,_=>none
  |_=>none
 | .ro l=>match P.underlying t with
  |some (.array cnt el)=>match P.info? el with
   |some info=>match Nat.beq info.size 1&&Nat.ble cnt l.length&&Nat.ble cnt 100000 with
    |true=>match lo,hiI cnt hi with
     |none,some h=>some ([0<=h/\h<=(cnt:Int)],.lst 1 h.toNat (λi=>[l.getD i .top]),none)
     |_,_=>none
    |false=>none
   |none=>none
  |_=>none
 |_=>none
def Xl3(e:UJ)(w:World):Option AV->Option Value->Prop
 |none,none=>True
 |some a,some v=>Rep e w a v
 |_,_=>False
theorem xX{e:UJ}{w:World}(isSlice:Bool)(len cap:Nat)(lo hi:Option AV)(vlo vhi:Option Value)(l h:Int)(hl:loI lo=some l)(hh:hiI len hi=some h)(rl:Xl3 e w lo vlo)(rh:Xl3 e w hi vhi)
  (b:0<=l/\l<=h/\h<=(len:Int))(hc:len<=cap):(Instr.sliceBounds isSlice len cap vlo vhi none).run P w= .ok (l.toNat,h.toNat,cap) w:=by
 obtain ⟨b1,b2,b3⟩:=b;have hhi:(match vhi with|some v=>Instr.sliceBound v cap (if isSlice then .sliceAcap else .sliceAlen)|none=>pure len:Sem Nat).run P w= .ok h.toNat w:=by
  cases hi with
  |none=>
   cases vhi with
   |none=>simp [hiI] at hh;subst hh;simp
   |some v=>exact rh.elim
  |some a=>
   cases vhi with
   |none=>exact rh.elim
   |some v=>
    cases a with
    |x u=>
     cases u<;>simp [hiI] at hh;rename_i k i;subst hh;cases Rep.x_inv rh;simp only [Instr.sliceBound,asIntOf,Sem.run_bind,Sem.run_pure,Result.andThen_ok,Sem.run_ite];rw [if_pos VI]
    |_=>simp [hiI] at hh
 have hlo: ∀hn:Nat,hn=h.toNat->(match vlo with|some v=>Instr.sliceBound v hn .sliceB|none=>pure 0:Sem Nat).run P w= .ok l.toNat w:=by
  intro hn hhn;subst hhn;cases lo with
  |none=>
   cases vlo with
   |none=>simp [loI] at hl;subst hl;simp
   |some v=>exact rl.elim
  |some a=>
   cases vlo with
   |none=>exact rl.elim
   |some v=>
    cases a with
    |x u=>
     cases u<;>simp [loI] at hl;rename_i k i;subst hl;cases Rep.x_inv rl;simp only [Instr.sliceBound,asIntOf,Sem.run_bind,Sem.run_pure,Result.andThen_ok,Sem.run_ite];rw [if_pos VI]
    |_=>simp [loI] at hl
 unfold Instr.sliceBounds;cases vhi<;>cases vlo<;>simp at hhi hlo ⊢ <;>simp [hhi,hlo]
theorem MH{e:UJ}{B:Nat}{w:World}{m:GY}{id:Nat}{t:TypeId}{x:AV}{lo hi:Option AV}{v:Value}{vlo vhi:Option Value}{ns:List Prop}{val:AV}{add:Option GM}(h:T3 P t x lo hi=some (ns,val,add))(hn: ∀p∈ns,p)
  (hE:UW e B w)(hm:UT e m w)(rx:Rep e w x v)(rl:Xl3 e w lo vlo)(rh:Xl3 e w hi vhi): ∃u w',(Instr.sliceAt t v vlo vhi none).run P w= .ok u w'/\LH e B w m id val add u w':=by
 unfold T3 at h;split at h
 ·rename_i sz n f;split at h
  ·rename_i el hu;split at h
   ·rename_i info hi';split at h
    ·rename_i hs;have hs':info.size=sz:=GW hs;subst hs';split at h
     ·rename_i l hh hl hhh;simp only [HC,FA] at h;obtain ⟨rfl,rfl,rfl⟩:=h;have b:=hn _ (qM.2 rfl);cases rx with
      |lstNil sz f=>
       have hb:=xX (P:=P) true 0 0 lo hi vlo vhi l hh hl hhh rl rh b (Nat.le_refl _);have hl0:l.toNat=0:=VI;have hh0:hh.toNat=0:=VI;refine ⟨.slice none 0 0,w,?_,UK hE hm ?_⟩
       ·simp [Instr.sliceAt,Instr.slice,run_underlying hu,hb,sizeOf,typeInfo,hi',hl0,hh0]
       ·rw [hl0,hh0];exact .lstNil _ _
      |lst sz n f bb o cap g h1 h2 hid h3 h3' h4 h5 h6 ad had=>
       have hb:=xX (P:=P) true n cap lo hi vlo vhi l hh hl hhh rl rh b h3;by_cases hz:cap=l.toNat
       ·subst hz;refine ⟨.slice (some ad) (hh.toNat-l.toNat) (l.toNat-l.toNat),w,?_,UK hE hm ?_⟩
        ·simp [Instr.sliceAt,Instr.slice,run_underlying hu,hb,sizeOf,typeInfo,hi']
        ·have hz0:hh.toNat-l.toNat=0:=VI;exact .lst _ _ _ bb o _ (λ_ _=> .nilIface) (λh=>VI) (λh=>VI) (λi hi=>VI) VI VI (λi j hi=>VI) (λi hi=>VI) (λi j a hi=>VI) ad (λh=>VI)
       ·refine ⟨.slice (some (ad.add (l.toNat*info.size))) (hh.toNat-l.toNat) (cap-l.toNat),w,?_,UK hE hm ?_⟩
        ·simp [Instr.sliceAt,Instr.slice,run_underlying hu,hb,sizeOf,typeInfo,hi',hz,DE]
        ·refine .lst _ _ _ bb _ _ (λi j=>g (l.toNat+i) j) (λh=>h1 VI) (λh=>h2 VI) (λi hi=>hid _ VI) VI VI ?_ ?_ ?_ _ (λh=>by rw [had VI,DE])
         ·intro i j hi hj;have:=h4 (l.toNat+i) j VI hj;rw [Nat.add_mul] at this;rw [←this]
          congr 2
          omega
         ·exact λi hi=>h5 _ VI
         ·exact λi j a hi ha=>h6 _ _ _ VI ha
     ·cases h
    ·cases h
   ·cases h
  ·cases h
 ·rename_i s;cases rx.x_inv;split at h
  ·rename_i hu;split at h
   ·rename_i l hh hl hhh;simp only [HC,FA] at h;obtain ⟨rfl,rfl,rfl⟩:=h;have b:=hn _ (qM.2 rfl);have hb:=xX (P:=P) false s.size s.size lo hi vlo vhi l hh hl hhh rl rh b (Nat.le_refl _);exact ⟨_,w,by simp [Instr.sliceAt,Instr.slice,run_underlying hu,hb],UK hE hm (.x _)⟩
   ·cases h
  ·cases h
 ·rename_i l;split at h
  ·rename_i cnt el hu;split at h
   ·rename_i info hi';split at h
    ·rename_i hs;rw [H2,H2] at hs;obtain ⟨⟨hs1,hs2⟩,hs3⟩:=hs;have hs1:info.size=1:=GW hs1;have hs2:=qN hs2;have hs3:=qN hs3;split at h
     ·rename_i hh hhh;simp only [HC,FA] at h;obtain ⟨rfl,rfl,rfl⟩:=h;have b:=hn _ (qM.2 rfl);cases vlo with
      |some v=>exact rl.elim
      |none=>
       cases rx with
       |ro _ vs bb o hr hlt hf HT gA GH=>
        have hb:=xX (P:=P) false cnt cnt none hi none vhi 0 hh rfl hhh rl rh ⟨Int.le_refl _,b.1,b.2⟩ (Nat.le_refl _);refine ⟨.slice (some (if cnt=0 then ⟨bb,o,none⟩ else (⟨bb,o,none⟩:Addr).add (0*info.size))) (hh.toNat-0) (cnt-0),w,?_,UK hE hm ?_⟩
        ·simp [Instr.sliceAt,Instr.sureAddr,run_underlying hu,hb,sizeOf,typeInfo,hi']
        ·have ha:(if cnt=0 then (⟨bb,o,none⟩:Addr) else (⟨bb,o,none⟩:Addr).add (0*info.size))=⟨bb,o,none⟩:=by
          split
          ·rfl
          ·simp [Addr.add]
         rw [ha,Nat.sub_zero,Nat.sub_zero];have hg: ∀i,i<hh.toNat-> ∃a v,l[i]? =some a/\vs[i]? =some v/\l.getD i .top=a/\vs.getD i .nilIface=v:=by
          intro i hi;have h1:i<l.length:=VI;have h2:i<vs.length:=VI;refine ⟨l[i],vs[i],HX h1,HX h2,?_,?_⟩
          ·rw [List.getD_eq_getElem?_getD,HX h1];rfl
          ·rw [List.getD_eq_getElem?_getD,HX h2];rfl
         refine .lst 1 hh.toNat _ bb o cnt (λi _=>vs.getD i .nilIface) (λ_=>hr) (λ_=>hlt) (λi hi a ha=>?_) VI (by unfold maxLen;omega) (λi j hi hj=>?_) (λ_ _=>rfl) (λi j a hi ha=>?_) _ (λ_=>rfl)
         ·obtain ⟨a0,v0,g1,g2,g3,g4⟩:=hg i hi;rw [qM.1 ha,g3];exact hf _ (DY g1)
         ·obtain ⟨a0,v0,g1,g2,g3,g4⟩:=hg i hi;have hj0:j=0:=VI;subst hj0;have e0:o+(i*1+0)=o+i:=VI;rw [e0,g4];exact gA i v0 g2
         ·obtain ⟨a0,v0,g1,g2,g3,g4⟩:=hg i hi;cases j with
          |zero=>
           simp only [List.getElem?_cons_zero,HC] at ha;rw [←ha,g3,g4];exact GH i a0 v0 g1 g2
          |succ j=>simp at ha
     ·cases h
    ·cases h
   ·cases h
  ·cases h
 ·cases h
def Wc7(P:Program)(m:GY)(t:TypeId)(x:AV):Option Out:=
 match P.underlying t with
 |some (.slice _)=>match x with
  | .lst _ n _=>some ([],.x (.int .i64 (n:Int)),none)
  | .row id=>match DA m id with
   |some (.row _ _ n _)=>some ([],.x (.int .i64 (n:Int)),none)
   |_=>none
  | .x (.slice _ n _)=>some ([],.x (.int .i64 (n:Int)),none)
  |_=>none
 |some .string=>match x with
  | .x (.string s)=>some ([],.x (.int .i64 (s.size:Int)),none)
  |_=>none
 |some (.array n _)=>some ([],.x (.int .i64 (n:Int)),none)
 |_=>none
theorem cY{e:UJ}{B:Nat}{w:World}{m:GY}{id:Nat}{t ty:TypeId}{x:AV}{v:Value}{ns:List Prop}{val:AV}{add:Option GM}(h:Wc7 P m t x=some (ns,val,add))
  (hE:UW e B w)(hm:UT e m w)(rx:Rep e w x v): ∃u w',(Builtin.len_ #[t] ty #[v]).run P w= .ok u w'/\LH e B w m id val add u w':=by
 unfold Wc7 at h;split at h
 ·rename_i el hu;have key: ∀(a:Option Addr) (n c:Nat),v= .slice a n c->val= .x (.int .i64 (n:Int))->add=none-> ∃u w',(Builtin.len_ #[t] ty #[v]).run P w= .ok u w'/\LH e B w m id val add u w':=by
   rintro a n c rfl rfl rfl;exact ⟨_,w,by simp [Builtin.len_,run_underlying hu,goInt],UK hE hm (.x _)⟩
  split at h
  ·rename_i sz n f;cases h;cases rx with
   |lstNil sz f=>exact key _ _ _ rfl rfl rfl
   |lst sz n f b o cap g h1 h2 hid h3 h3' h4 h5 h6 ad had=>exact key _ _ _ rfl rfl rfl
  ·rename_i k;split at h
   ·rename_i T sz n f hg;cases h;obtain ⟨hlv,H4,hf,xs,hx,GH⟩:=hm _ (UU hg);cases rx with
    |row _ a n' c hl hv=>
     rcases hx.2 with ⟨hv0,hn0⟩|⟨g,cap,cur,hv0,_,_⟩
     ·rw [hv] at hv0;cases hv0;subst hn0;exact key _ _ _ rfl rfl rfl
     ·rw [hv] at hv0;cases hv0;exact key _ _ _ rfl rfl rfl
   ·cases h
  ·rename_i a n c;cases h;cases rx.x_inv;exact key _ _ _ rfl rfl rfl
  ·cases h
 ·rename_i hu;split at h
  ·rename_i s;cases h;cases rx.x_inv;exact ⟨_,w,by simp [Builtin.len_,run_underlying hu,goInt],UK hE hm (.x _)⟩
  ·cases h
 ·rename_i n el hu;cases h;exact ⟨_,w,by simp [Builtin.len_,run_underlying hu,goInt],UK hE hm (.x _)⟩
 ·cases h
def uH(isMax:Bool)(acc:Int):List AV->Option Int
 |[]=>some acc
 | .x (.int .i64 b)::r=>uH isMax (match isMax with|true=>max acc b|false=>min acc b) r
 |_=>none
theorem NJ{e:UJ}{w:World}: ∀(l:List AV) (vs:List Value) (acc r:Int),uH false acc l=some r->U1 e w l vs->(vs.foldlM Builtin.min2 (.int .i64 acc)).run P w= .ok (.int .i64 r) w
 |[],vs,acc,r,h,k=>by cases k.nil_inv;simp [uH] at h;subst h;rfl
 |a::l,vs,acc,r,h,k=>by
  obtain ⟨v,vs',rfl,hv,hvs⟩:=k.cons_inv;unfold uH at h;split at h
  ·rename_i jW;cases jW
  ·rename_i b r' heq;cases heq;cases hv.x_inv;have hm:(if b<acc then b else acc)=min acc b:=VI
   simp only [List.foldlM_cons,Builtin.min2,hm,Sem.run_bind,Sem.run_pure,Result.andThen_ok];exact NJ l vs' _ r h hvs
  ·cases h
theorem NK{e:UJ}{w:World}: ∀(l:List AV) (vs:List Value) (acc r:Int),uH true acc l=some r->U1 e w l vs->(vs.foldlM Builtin.max2 (.int .i64 acc)).run P w= .ok (.int .i64 r) w
 |[],vs,acc,r,h,k=>by cases k.nil_inv;simp [uH] at h;subst h;rfl
 |a::l,vs,acc,r,h,k=>by
  obtain ⟨v,vs',rfl,hv,hvs⟩:=k.cons_inv;unfold uH at h;split at h
  ·rename_i jW;cases jW
  ·rename_i b r' heq;cases heq;cases hv.x_inv;have hm:(if b>acc then b else acc)=max acc b:=VI
   simp only [List.foldlM_cons,Builtin.max2,hm,Sem.run_bind,Sem.run_pure,Result.andThen_ok];exact NK l vs' _ r h hvs
  ·cases h
def d9(P:Program)(m:GY)(b:Builtin)(ts:List TypeId)(args:List AV):Option Out:=
 match b with
 | .len=>match ts,args with
  |[t],[x]=>Wc7 P m t x
  |_,_=>none
 | .min=>match args with
  | .x (.int .i64 a)::r=>match uH false a r with
   |some n=>some ([],.x (.int .i64 n),none)
   |none=>none
  |_=>none
 | .max=>match args with
  | .x (.int .i64 a)::r=>match uH true a r with
   |some n=>some ([],.x (.int .i64 n),none)
   |none=>none
  |_=>none
 |_=>none
theorem rH{e:UJ}{B:Nat}{w:World}{m:GY}{id:Nat}{b:Builtin}{ts:Array TypeId}{ty:TypeId}{cs:Array Bool}{args:List AV}{vs:List Value}{ns:List Prop}{val:AV}{add:Option GM}(h:d9 P m b ts.toList args=some (ns,val,add))
  (hE:UW e B w)(hm:UT e m w)(r:U1 e w args vs): ∃u w',(builtin b ts ty cs vs.toArray).run P w= .ok (.value u) w'/\LH e B w m id val add u w':=by
 unfold d9 at h;split at h
 ·split at h
  ·rename_i t x hts;obtain ⟨v,vs',rfl,hv,hvs⟩:=r.cons_inv;cases hvs.nil_inv;obtain ⟨u,w',h1,h2⟩:=cY (P:=P) (ty:=ty) (id:=id) h hE hm hv;have hts':ts=#[t]:=Array.ext' (by simpa using hts)
   exact ⟨u,w',by simp [builtin,hts',h1],h2⟩
  ·cases h
 ·split at h
  ·rename_i a l;split at h
   ·rename_i n hn;cases h;obtain ⟨v,vs',rfl,hv,hvs⟩:=r.cons_inv;cases hv.x_inv;exact ⟨_,w,by simp [builtin,Builtin.min_,NJ (P:=P) l vs' a n hn hvs],UK hE hm (.x _)⟩
   ·cases h
  ·cases h
 ·split at h
  ·rename_i a l;split at h
   ·rename_i n hn;cases h;obtain ⟨v,vs',rfl,hv,hvs⟩:=r.cons_inv;cases hv.x_inv;exact ⟨_,w,by simp [builtin,Builtin.max_,NK (P:=P) l vs' a n hn hvs],UK hE hm (.x _)⟩
   ·cases h
  ·cases h
 ·cases h
end
def Qs9:List AV->Option (List Value)
 |[]=>some []
 | .x v::t=>match Qs9 t with
  |some vs=>some (v::vs)
  |none=>none
 |_=>none
def AI:AV->Option Value
 | .x v=>some v
 | .lit b=>some (.bool b)
 | .agg l=>match Qs9 l with
  |some vs=>some (.agg vs.toArray)
  |none=>none
 |_=>none
theorem bF{e:UJ}{w:World}: ∀{l:List AV} {vs us:List Value},Qs9 l=some vs->U1 e w l us->us=vs
 |[],vs,us,h,r=>by
  simp only [Qs9,HC] at h;rw [r.nil_inv,←h]
 |a::l,vs,us,h,r=>by
  obtain ⟨u,us',rfl,hu,r'⟩:=r.cons_inv;unfold Qs9 at h;split at h
  ·rename_i heq;cases heq
  ·rename_i v t heq;cases heq;split at h
   ·rename_i vs' ht;cases h;rw [hu.x_inv,bF ht r']
   ·cases h
  ·cases h
theorem wP{e:UJ}{w:World}{a:AV}{v u:Value}(h:AI a=some v)(r:Rep e w a u):u=v:=by
 unfold AI at h;split at h
 ·cases h;exact r.x_inv
 ·cases h;exact r.lit_inv
 ·split at h
  ·rename_i vs hx;cases h;obtain ⟨us,rfl,hr⟩:=r.agg_inv;rw [bF hx hr]
  ·cases h
 ·cases h
def SJ(P:Program)(t:TypeId):Bool:=match P.underlying t with
 |some (.interface _)=>false
 |some _=>true
 |none=>false
def SD(P:Program)(t:TypeId):Option Value:=match P.info? t with
 |some i=>i.zero
 |none=>none
def Zm3:Value->AV
 | .agg xs=> .agg (xs.toList.map .x)
 | .bool b=> .lit b
 |v=> .x v
theorem lJ(e:UJ)(w:World)(v:Value):Rep e w (Zm3 v) v:=by
 cases v with
 |agg xs=>
  have:=U1.xs e w xs.toList;have:=Rep.aggL this;rw [Array.toArray_toList] at this;exact this
 |bool b=>exact .lit b
 |_=>exact .x _
def We0(P:Program)(t:TypeId):Option AV:=match SD P t with
 |some z=>some (.tup [Zm3 z,.lit false])
 |none=>none
theorem fI{P:Program}{t:TypeId}(h:SJ P t=true): ∃d,P.underlying t=some d/\ ∀l,d≠ .interface l:=by
 unfold SJ at h;split at h
 ·cases h
 ·rename_i d hd hu;exact ⟨d,hu,hd⟩
 ·cases h
theorem Ql5{P:Program}{t:TypeId}{av:AV}(h:We0 P t=some av)(e:UJ)(w:World): ∃z,(zeroValue t).run P w= .ok z w/\Rep e w av (.tuple #[z,.bool false]):=by
 unfold We0 SD at h;split at h
 ·rename_i z hz;split at hz
  ·rename_i i hi;cases h;refine ⟨z,by simp [zeroValue,typeInfo,hi,hz],?_⟩
   simpa using Rep.tupL (U1.cons (lJ e w z) (U1.cons (.lit false) (U1.nil e w)))
  ·cases hz
 ·cases h
section
variable (P:Program)(t:TypeId)
def T8(a:AV):Option Out:=match SJ P t with
 |true=>match AI a with
  |some v=>some ([],.x (.iface t v),none)
  |none=>none
 |false=>none
def tY:Option Out:=match We0 P t with
 |some a=>some ([],a,none)
 |none=>none
def E6(ok:Bool)(a:AV):Option Out:=match ok with
 |true=>match SJ P t with
  |true=>match a with
   | .x (.iface d v)=>match Nat.beq d t with
    |true=>some ([],.tup [Zm3 v,.lit true],none)
    |false=>tY P t
   | .x .nilIface=>tY P t
   |_=>none
  |false=>none
 |false=>none
end
def Wc6(P:Program)(op:BinOp)(t:TypeId)(a:AV):Option Out:=match P.underlying t with
 |some (.interface _)=>match op,a with
  | .eql,.x .nilIface=>some ([],.lit true,none)
  | .neq,.x .nilIface=>some ([],.lit false,none)
  | .eql,.x (.iface _ _)=>some ([],.lit false,none)
  | .neq,.x (.iface _ _)=>some ([],.lit true,none)
  |_,_=>none
 |_=>none
section
variable {P:Program}{e:UJ}{B:Nat}{w:World}{m:GY}{id:Nat}{ns:List Prop}{val:AV}{add:Option GM}
theorem MJ{t:TypeId}{a:AV}{v:Value}(h:T8 P t a=some (ns,val,add))(hE:UW e B w)(hm:UT e m w)(r:Rep e w a v):
  ∃u w',(Instr.makeInterface t v).run P w= .ok u w'/\LH e B w m id val add u w':=by
 unfold T8 at h;split at h
 ·rename_i hp;split at h
  ·rename_i v' hv;cases h;obtain ⟨d,hu,hd⟩:=fI hp;have hx:=wP hv r;subst hx;refine ⟨.iface t v,w,?_,UK hE hm (.x _)⟩;cases d<;>first|exact absurd rfl (hd _)|simp [Instr.makeInterface,run_underlying hu]
  ·cases h
 ·cases h
theorem NO{t:TypeId}(h:tY P t=some (ns,val,add))(hE:UW e B w)(hm:UT e m w): ∃z,(zeroValue t).run P w= .ok z w/\LH e B w m id val add (.tuple #[z,.bool false]) w:=by
 unfold tY at h;split at h
 ·rename_i a ha;cases h;obtain ⟨z,hz,GH⟩:=Ql5 ha e w;exact ⟨z,hz,UK hE hm GH⟩
 ·cases h
theorem E5{t xt:TypeId}{ok:Bool}{a:AV}{v:Value}(h:E6 P t ok a=some (ns,val,add))(hE:UW e B w)(hm:UT e m w)(r:Rep e w a v):
  ∃u w',(Instr.typeAssert v xt t ok).run P w= .ok u w'/\LH e B w m id val add u w':=by
 unfold E6 at h;split at h
 ·split at h
  ·rename_i hp;obtain ⟨d,hu,hd⟩:=fI hp;split at h
   ·rename_i k u;have hx:=r.x_inv;subst hx;split at h
    ·rename_i hk;cases h;have hk':k=t:=GW hk;subst hk';refine ⟨.tuple #[u,.bool true],w,?_,UK hE hm (Rep.tupL (U1.cons (lJ e w u) (U1.cons (.lit true) (U1.nil e w))))⟩;cases d<;>first|exact absurd rfl (hd _)|simp [Instr.typeAssert,run_underlying hu]
    ·rename_i hk;have hk':k≠t:=λhe=>by subst he;simp at hk
     obtain ⟨z,hz,hc⟩:=NO (id:=id) h hE hm;refine ⟨.tuple #[z,.bool false],w,?_,hc⟩;cases d<;>first|exact absurd rfl (hd _)|simp [Instr.typeAssert,run_underlying hu,hk',hz]
   ·have hx:=r.x_inv;subst hx;obtain ⟨z,hz,hc⟩:=NO (id:=id) h hE hm;refine ⟨.tuple #[z,.bool false],w,?_,hc⟩;cases d<;>first|exact absurd rfl (hd _)|simp [Instr.typeAssert,run_underlying hu,hz]
   ·cases h
  ·cases h
 ·cases h
theorem cX{t:TypeId}{op:BinOp}{ox:Operand}{a:AV}{v:Value}(h:Wc6 P op t a=some (ns,val,add))(hE:UW e B w)(hm:UT e m w)(r:Rep e w a v):
  ∃u w',(do eqGuard op t ox (.const .nilIface) v .nilIface;binOp op t v .nilIface:Sem Value).run P w= .ok u w'/\LH e B w m id val add u w':=by
 unfold Wc6 at h;split at h
 ·rename_i l hu;have e1:(Op.equal t .nilIface .nilIface).run P w= .ok true w:=by
   unfold Op.equal;rw [show Op.maxDepth=(Op.maxDepth-1)+1 by decide]
   simp [Op.equalIn,run_underlying hu]
  have e2: ∀d u,(Op.equal t (.iface d u) .nilIface).run P w= .ok false w:=by
   intro d u;unfold Op.equal;rw [show Op.maxDepth=(Op.maxDepth-1)+1 by decide]
   simp [Op.equalIn,run_underlying hu]
  split at h
  ·cases h;rw [r.x_inv];exact ⟨.bool true,w,by simp [eqGuard,binOp,e1],UK hE hm (.lit true)⟩
  ·cases h;rw [r.x_inv];exact ⟨.bool false,w,by simp [eqGuard,binOp,e1],UK hE hm (.lit false)⟩
  ·cases h;rw [r.x_inv];exact ⟨.bool false,w,by simp [eqGuard,binOp,e2],UK hE hm (.lit false)⟩
  ·cases h;rw [r.x_inv];exact ⟨.bool true,w,by simp [eqGuard,binOp,e2],UK hE hm (.lit true)⟩
  ·cases h
 ·cases h
end
def Wp3(P:Program)(t:TypeId):Bool:=match P.underlying t with
 |some (.struct _)=>false
 |some (.array _ _)=>false
 |some _=>true
 |none=>false
theorem pJ{P:Program}{t:TypeId}(h:Wp3 P t=true){w:World}{cs:Array Value}{off:Nat}{v:Value}(hv:cs[off]? =some v):(part t cs off).run P w= .ok v w:=by
 unfold Wp3 at h;cases hu:P.underlying t with
 |none=>rw [hu] at h;cases h
 |some d=>
  rw [hu] at h;cases d<;>first|(cases h;done)|simp [part,isAgg,run_underlying hu,hv]
def Wr6(s:ByteArray)(k:Nat):Int:=match s[k]? with
 |some b=>b.toNat
 |none=>0
def T7(P:Program)(t:TypeId)(a ix:AV):Option Out:=match ix with
 | .x (.int _ i)=>match P.underlying t with
  |some (.array n el)=>match a with
   | .agg l=>match qG l with
    |some js=>match P.info? el with
     |some info=>match Wp3 P el&&(Nat.beq info.size 1&&Nat.beq js.length n) with
      |true=>some ([0<=i/\i<(n:Int)],.x (.int .i64 (U7 js i.toNat)),none)
      |false=>none
     |none=>none
    |none=>none
   |_=>none
  |some .string=>match a with
   | .x (.string s)=>some ([0<=i/\i.toNat<s.size],.x (.int .u8 (Wr6 s i.toNat)),none)
   |_=>none
  |_=>none
 |_=>none
theorem MI{P:Program}{e:UJ}{B:Nat}{w:World}{m:GY}{id:Nat}{ns:List Prop}{val:AV}{add:Option GM}{t:TypeId}{a ix:AV}{v vi:Value}(h:T7 P t a ix=some (ns,val,add))(hn: ∀p∈ns,p)(hE:UW e B w)(hm:UT e m w)(ra:Rep e w a v)(ri:Rep e w ix vi):
  ∃u w',(Instr.index t v vi).run P w= .ok u w'/\LH e B w m id val add u w':=by
 unfold T7 at h;split at h
 ·rename_i k i;cases ri.x_inv;split at h
  ·rename_i n el hu;split at h
   ·rename_i l;split at h
    ·rename_i js hjs;split at h
     ·rename_i info hi;split at h
      ·rename_i hb;simp only [H2] at hb;obtain ⟨hf,h1,h2⟩:=hb;have h1:=GW h1;have h2:=GW h2;simp only [HC,FA] at h;obtain ⟨rfl,rfl,rfl⟩:=h;have hb:0<=i/\i<(n:Int):=hn _ VU;obtain ⟨vs,rfl,hr⟩:=ra.agg_inv;have hlt:i.toNat<js.length:=VI;have hl:l[i.toNat]? =some (.x (.int .i64 (U7 js i.toNat))):=by
        rw [dG hjs];simp [HK,List.getElem?_range hlt]
       obtain ⟨u,hu',GH⟩:=hr.get hl;refine ⟨u,w,?_,UK hE hm GH⟩;have hp:=pJ (w:=w) hf (cs:=vs.toArray) (off:=i.toNat) (v:=u) (by simpa using hu')
       simp [Instr.index,asIntOf,run_underlying hu,if_pos hb,sizeOf,typeInfo,hi,h1,hp]
      ·cases h
     ·cases h
    ·cases h
   ·cases h
  ·rename_i hu;split at h
   ·rename_i s;simp only [HC,FA] at h;obtain ⟨rfl,rfl,rfl⟩:=h;have hb:0<=i/\i.toNat<s.size:=hn _ VU;cases ra.x_inv;have hg:s[i.toNat]? =some s[i.toNat]:=getElem?_pos s i.toNat hb.2;refine ⟨.int .u8 (Wr6 s i.toNat),w,?_,UK hE hm (.x _)⟩;simp [Instr.index,asIntOf,run_underlying hu,if_pos hb.1,Wr6,hg]
   ·cases h
  ·cases h
 ·cases h
def D5(m:GY):Nat->AV->AV
 | 0,a=>match a with
  | .lit b=> .lit b
  | .x v=> .x v
  | .ro l=> .ro l
  | .lst a b c=> .lst a b c
  | .roI a b c d=> .roI a b c d
  |_=> .top
 |d+1,a=>match a with
  | .ptr id off=>match DA m id with
   |some (.cells _ l)=>match Nat.ble off l.length with
    |true=> .ro ((l.drop off).map (D5 m d))
    |false=> .top
   |some (.ints _ pre n f)=> .roI (pre.map (D5 m d)) n f off
   |some (.keep _ l)=> .ro ((l.drop off).map (D5 m d))
   |_=> .top
  | .row id=>match DA m id with
   |some (.row _ sz n f)=> .lst sz n f
   |_=> .top
  | .agg l=> .agg (l.map (D5 m d))
  | .tup l=> .tup (l.map (D5 m d))
  | .fn f l l'=> .fn f (l.map (D5 m d)) (l'.map (D5 m d))
  | .elt _ _ _ _=> .top
  | .mp _=> .top
  |a=>a
def UJ.view(e:UJ):UJ:={e with ro:=λb=>e.ro b\/ ∃id,e.own b=some id,own:=λ_=>none}
theorem Step.view{e:UJ}(w:World):Step e e.view w w:=⟨λ_ _ h=>⟨.inl h,rfl⟩,λ_ h=>⟨h,rfl,rfl⟩,Nat.le_refl _⟩
theorem U1.map{e e':UJ}{w:World}{l:List AV}{vs:List Value}(g:AV->AV)(hg: ∀a v,Rep e w a v->Rep e' w (g a) v)(h:U1 e w l vs):U1 e' w (l.map g) vs:=by
 refine ⟨by simp [h.1],λi a v ha hv=>?_⟩
 rw [List.getElem?_map,Option.map_eq_some_iff] at ha;obtain ⟨a',ha',rfl⟩:=ha;exact hg _ _ (h.2 i a' v ha' hv)
theorem DN{g:AV->AV}{e:UJ}{w:World}(hg: ∀a v,Rep e w a v->Idf (g a)){l:List AV}{vs:List Value}(h:U1 e w l vs): ∀a∈l.map g,Idf a:=by
 intro a ha;obtain ⟨b,hb,rfl⟩:=List.mem_map.1 ha;obtain ⟨i,hi⟩:=wM.1 hb;obtain ⟨v,hv,r⟩:=h.get hi;exact hg b v r
theorem AF(m:GY)(d:Nat)(pre:List AV)(n:Nat)(f:Nat->Int):(pre++HK n f).map (D5 m d)=pre.map (D5 m d)++HK n f:=by
 rw [List.map_append]
 congr 1
 unfold HK;rw [List.map_map]
 congr 1
 funext k;cases d<;>rfl
theorem RI{e:UJ}{w:World}{m:GY}(hm:UT e m w): ∀(d:Nat) (a:AV) (v:Value),Rep e w a v->Idf (D5 m d a)
 | 0,a,v,h=>by
  cases h with
  |lit b=>exact .lit b
  |x v=>exact .x v
  |ro l vs b o h1 h2 h3 h4 h5 h6=>exact .ro l h3
  |lstNil sz f=>exact .lst sz 0 f (λi hi=>VI)
  |lst sz n f b o cap g h1 h2 h3 h4 h5 h6 h7 h8 ad had=>exact .lst sz n f h3
  |roI pre n f off b o hr=>cases hr with|ro _ vs _ _ h1 h2 h3 h4 h5 h6=>exact .roI pre n f off (.ro _ h3)
  |_=>exact .top
 |d+1,a,v,h=>by
  have ih:=RI hm d;cases h with
  |top v=>exact .top
  |lit b=>exact .lit b
  |x v=>exact .x v
  |agg l vs h1 h2=>exact .agg _ (DN ih (⟨h1,h2⟩:U1 e w l vs))
  |tup l vs h1 h2=>exact .tup _ (DN ih (⟨h1,h2⟩:U1 e w l vs))
  |fn f l l' vs vs' h1 h2 h3 h4=>exact .fn f _ _ (DN ih (⟨h1,h2⟩:U1 e w l vs)) (DN ih (⟨h3,h4⟩:U1 e w l' vs'))
  |ptr id off hl=>
   simp only [D5];split
   ·rename_i T l hg;split
    ·obtain ⟨_,H4,vs,h3,h4⟩:=hm _ (UU hg);exact .ro _ (DN ih (h4.drop off))
    ·exact .top
   ·rename_i T pre n f hg;obtain ⟨_,H4,vs,h3,h4⟩:=hm _ (UU hg);have:=DN ih h4;rw [AF] at this;exact .roI _ n f off (.ro _ this)
   ·rename_i T l hg;obtain ⟨_,_,_,vs,h3,h4⟩:=hm _ (UU hg);exact .ro _ (DN ih (h4.drop off))
   ·exact .top
  |row id a n c hl hv=>
   simp only [D5];split
   ·rename_i T sz n' f hg;obtain ⟨_,H4,hf,_⟩:=hm _ (UU hg);exact .lst sz n' f (λi hi=>(hf i hi).2)
   ·exact .top
  |elt id sz i j b n cap hl hv=>exact .top
  |mp id hl=>exact .top
  |mpr g okf vals b es c h1 h2 h3 h4 h5 h6 h7 h8=>exact .mpr g okf h3
  |any1 v hv=>exact .any1
  |roI pre n f off b o hr=>cases hr with|ro _ vs _ _ h1 h2 h3 h4 h5 h6=>exact .roI pre n f off (.ro _ h3)
  |ro l vs b o h1 h2 h3 h4 h5 h6=>exact .ro l h3
  |lstNil sz f=>exact .lst sz 0 f (λi hi=>VI)
  |lst sz n f b o cap g h1 h2 h3 h4 h5 h6 h7 h8 ad had=>exact .lst sz n f h3
theorem L5{e:UJ}{B:Nat}{w:World}{m:GY}(hE:UW e B w)(hm:UT e m w): ∀(d:Nat) (a:AV) (v:Value),Rep e w a v->Rep e.view w (D5 m d a) v
 | 0,a,v,h=>by
  have:=h.step (Step.view w);cases a<;>first|exact this|exact .top v
 |d+1,a,v,h=>by
  have ih:=L5 hE hm d;have ihf:=RI hm d;cases h with
  |top v=>exact .top v
  |lit b=>exact .lit b
  |x v=>exact .x v
  |agg l vs h1 h2=>exact Rep.aggL (U1.map _ ih ⟨h1,h2⟩)
  |tup l vs h1 h2=>exact Rep.tupL (U1.map _ ih ⟨h1,h2⟩)
  |fn f l l' vs vs' h1 h2 h3 h4=>
   have k1:U1 e w l vs:=⟨h1,h2⟩;have k2:U1 e w l' vs':=⟨h3,h4⟩;exact .fn f _ _ vs vs' (U1.map _ ih k1).1 (U1.map _ ih k1).2 (U1.map _ ih k2).1 (U1.map _ ih k2).2
  |ptr id off hl=>
   simp only [D5];split
   ·rename_i T l hg;split
    ·obtain ⟨_,H4,vs,h3,h4⟩:=hm _ (UU hg);have hlt:=(hE.owned _ _ H4).2;have k:=U1.map (D5 m d) ih (h4.drop off);refine .ro _ (vs.drop off) (e.blk id) off (.inr ⟨_,H4⟩) hlt (DN ihf (h4.drop off)) k.1 ?_ k.2;intro j v hj;rw [List.getElem?_drop] at hj;simp [World.cell?,h3,hj]
    ·exact .top _
   ·rename_i T pre n f hg;obtain ⟨_,H4,vs,h3,h4⟩:=hm _ (UU hg);have hlt:=(hE.owned _ _ H4).2;have k:=U1.map (D5 m d) ih h4;have kf:=DN ihf h4;rw [AF] at k kf;have hc: ∀(j:Nat) (v:Value),vs[j]? =some v->w.cell? ⟨e.blk id,0+j,none⟩=some v:=by
     intro j v hj;simp [World.cell?,h3,hj]
    have:=Rep.roI (e:=e.view) (w:=w) (pre.map (D5 m d)) n f off (e.blk id) 0 (.ro _ vs _ 0 (.inr ⟨_,H4⟩) hlt kf k.1 hc k.2)
    rwa [Nat.zero_add] at this
   ·rename_i T l hg;obtain ⟨_,hro,hlt,vs,h3,h4⟩:=hm _ (UU hg);have k:=U1.map (D5 m d) ih (h4.drop off);refine .ro _ (vs.drop off) (e.blk id) off (.inl hro) hlt (DN ihf (h4.drop off)) k.1 ?_ k.2;intro j v hj;rw [List.getElem?_drop] at hj;simp [World.cell?,h3,hj]
   ·exact .top _
  |row id a n c hl hv=>
   simp only [D5];split
   ·rename_i T sz n' f hg;obtain ⟨_,H4,hf,xs,hx,GH⟩:=hm _ (UU hg);rcases hx.2 with ⟨hv0,hn0⟩|⟨g,cap,cur,hv0,_,hgg,hnc,hcm,hcs,jV⟩
    ·rw [hv] at hv0;cases hv0;subst hn0;exact .lstNil _ _
    ·have hob:e.own g=some id:=H4 g (by rw [hv0];rfl)
     have hlt:=(hE.owned _ _ hob).2;rw [hv] at hv0;cases hv0;refine Rep.lst (e:=e.view) (w:=w) sz _ _ g 0 _ (λi j=>xs.getD (i*sz+j) .nilIface) (λ_=> .inr ⟨_,hob⟩) (λ_=>hlt) (λi hi=>(hf i hi).2) hnc hcm ?_ (λi hi=>(hf i hi).1) ?_ _ (λ_=>rfl)
     ·intro i j hi hj;have hle:i*sz+sz<=n*sz:=by
       have:=BC sz (Nat.succ_le_of_lt hi)
       rwa [Nat.succ_mul] at this
      have jX:i*sz+j<xs.length:=by rw [hx.1];omega
      have hc:=hx.cells (g:=g) (by rw [hv];rfl) (i*sz+j) xs[i*sz+j] (HX jX)
      rw [DE] at hc;rw [hc];simp [List.getD,HX jX]
     ·intro i j a ha' ha;have hj:j<sz:=by rw [←(hf i ha').1];exact (FR.1 ha).1
      have hle:i*sz+sz<=n*sz:=by
       have:=BC sz (Nat.succ_le_of_lt ha')
       rwa [Nat.succ_mul] at this
      have jX:i*sz+j<xs.length:=by rw [hx.1];omega
      have:=GH i j a xs[i*sz+j] ha' ha (HX jX);simp only [List.getD,HX jX,GS];exact this.step (Step.view w)
   ·exact .top _
  |elt id sz i j b n cap hl hv=>exact .top _
  |mp id hl=>exact .top _
  |mpr g okf vals b es c h1 h2 h3 h4 h5 h6 h7 h8=>exact (Rep.mpr (e:=e) (w:=w) g okf vals b es c h1 h2 h3 h4 h5 h6 h7 h8).step (Step.view w)
  |any1 v hv=>exact .any1 v hv
  |roI pre n f off b o hr=>exact (Rep.roI (e:=e) (w:=w) pre n f off b o hr).step (Step.view w)
  |ro l vs b o h1 h2 h3 h4 h5 h6=>exact (Rep.ro (e:=e) (w:=w) l vs b o h1 h2 h3 h4 h5 h6).step (Step.view w)
  |lstNil sz f=>exact .lstNil sz f
  |lst sz n f b o cap g h1 h2 h3 h4 h5 h6 h7 h8 ad had=>exact (Rep.lst (e:=e) (w:=w) sz n f b o cap g h1 h2 h3 h4 h5 h6 h7 h8 ad had).step (Step.view w)
def PD(w w':World):UJ:={ro:=λb=>w.heap.size<=b/\b<w'.heap.size,own:=λ_=>none,live:=λ_=>False,blk:=λ_=>0,val:=λ_=> .nilIface}
section
variable (P:Program)(f:FuncId)
def VW(avs:List AV)(res:AV):Prop:=
 ∀(e:UJ) (w:World) (args:List Value),(∀b,e.ro b->b<w.heap.size)->DB e w->(∀a∈avs,Idf a)->U1 e w avs args->
  Calls P f args.toArray w λen w'=> ∃v,en= .returned v/\Below w.heap.size w w'/\Rep (PD w w') w' res v
abbrev Spec:=List AV->Option (List Prop×AV)
def Enters:Prop:= ∃fn,P.funcs[f]? =some fn/\(fn.name== "runtime.NumGoroutine")=false/\fn.body.isNone=false
def VO(s:Spec):Prop:=Enters P f/\ ∀avs ns res,s avs=some (ns,res)->(∀p∈ns,p)->VW P f avs res
end
def VJ(P:Program)(G:List (Nat×Spec)):Prop:= ∀p∈G,VO P p.1 p.2
theorem VJ.nil(P:Program):VJ P []:=λ_ h=>by cases h
theorem VJ.cons{P:Program}{f:Nat}{s:Spec}{G:List (Nat×Spec)}(h:VO P f s)(k:VJ P G):VJ P ((f,s)::G):=by
 intro p hp;rcases GK.1 hp with rfl|hp
 ·exact h
 ·exact k p hp
def pH:List (Nat×Spec)->Nat->Option Spec
 |[],_=>none
 |(k,s)::t,f=>match Nat.beq k f with
  |true=>some s
  |false=>pH t f
theorem iQ{G:List (Nat×Spec)}{f:Nat}{s:Spec}(h:pH G f=some s):(f,s)∈G:=by
 induction G with
 |nil=>simp [pH] at h
 |cons p t ih=>
  obtain ⟨k,r'⟩:=p;unfold pH at h;split at h
  ·rename_i hk;have:k=f:=GW hk;subst this;cases h;exact GD
  ·exact HN _ (ih h)
theorem L8{P:Program}{f:FuncId}(h:Enters P f)(args:Array Value)(w:World):(callFunc f args).run P w= .ok (.enter f args) w:=by
 obtain ⟨fn,h1,h2,h3⟩:=h;have h2':fn.name≠ "runtime.NumGoroutine":=by simpa using h2
 have h3':fn.body≠none:=by intro h;rw [h] at h3;cases h3
 simp [callFunc,h1,h2',h3']
def UJ.more(e:UJ)(w w':World):UJ:={e with ro:=λb=>e.ro b\/(w.heap.size<=b/\b<w'.heap.size) }
theorem OK{e:UJ}{B:Nat}{w w':World}{m:GY}{id:Nat}{res:AV}{v:Value}(hE:UW e B w)(hm:UT e m w)(hb:Below w.heap.size w w')(r:Rep (PD w w') w' res v):LH e B w m id res none v w':=by
 have st:Step e (e.more w w') w w':=⟨λb hlt hr=>⟨.inl hr,hb.block b hlt⟩,λ_ h=>⟨h,rfl,rfl⟩,hb.size⟩
 refine ⟨e.more w w',hb,st,⟨?_,?_,hE.glob.step st⟩,λ_ _ h=>h,?_,hm.ext hb st (λ_ _ h=>h),λ_ h=> .inl h,λ_ h=>h.imp (λh=>h) (λh=>h.1)⟩
 ·rintro b (hr|⟨h1,h2⟩)
  ·have:=hE.apart b hr;have:=hb.size;exact ⟨(hE.apart b hr).1,VI⟩
  ·refine ⟨?_,h2⟩;cases ho:(e.more w w').own b with
   |none=>rfl
   |some k=>have:=(hE.owned b k ho).2;omega
 ·intro b k hk;have:=hE.owned b k hk;have:=hb.size;exact ⟨(hE.owned b k hk).1,VI⟩
 ·have st2:Step (PD w w') (e.more w w') w' w':=⟨λb _ h=>⟨Or.inr h,rfl⟩,λ_ h=>False.elim h,Nat.le_refl _⟩
  exact r.step st2
def Wc8(G:List (Nat×Spec))(m:GY)(f:AV)(args:List AV):Option Out:=
 match f with
 | .fn (.func g) first caps=>match pH G g with
  |some s=>match s ((first++args++caps).map (D5 m 40)) with
   |some (ns,r)=>some (ns,r,none)
   |none=>none
  |none=>none
 |_=>none
def T5(P:Program)(t:TypeId)(ok:Bool)(x k:AV):Option Out:=match ok with
 |true=>match x with
  | .mpr g okf=>match k with
   | .x (.string s)=>match P.underlying t with
    |some (.map kt et)=>match P.underlying kt with
     |some .string=>match SD P et with
      |some (.agg z)=>match Nat.beq z.size (g s).length&&z.toList.all Value.oneCell' with
       |true=>some ([],.tup [.agg (g s),.x (.bool (okf s))],none)
       |false=>none
      |_=>none
     |_=>none
    |_=>none
   |_=>none
  |_=>none
 |false=>none
theorem fL{P:Program}{e:UJ}{w:World}{t:TypeId}{ok:Bool}{x k:AV}{vx vk:Value}{ns:List Prop}{val:AV}{add:Option GM}(h:T5 P t ok x k=some (ns,val,add))
  (rx:Rep e w x vx)(rk:Rep e w k vk):add=none/\ ∃u,(Instr.lookup t vx vk ok).run P w= .ok u w/\Rep e w val u:=by
 unfold T5 at h;split at h
 ·split at h
  ·rename_i g okf;split at h
   ·rename_i s;cases rk.x_inv;split at h
    ·rename_i kt et h1;split at h
     ·rename_i h2;split at h
      ·rename_i z hz;split at h
       ·rename_i hb;simp only [HC,FA] at h;obtain ⟨rfl,rfl,rfl⟩:=h;simp only [H2] at hb;have HT:=GW hb.1;have Jc0:(zeroValue et).run P w= .ok (.agg z) w:=by
         unfold SD at hz;split at hz
         ·rename_i it hi;simp [zeroValue,typeInfo,hi,hz]
         ·cases hz
        cases rx with
        |mpr _ _ vals b es c g1 g2 g3 g4 g5 g6 g7 g8=>
         have hck:(Instr.checkKey es.isEmpty 10000 kt (.string s)).run P w= .ok () w:=by
          unfold Instr.checkKey;simp [run_underlying h2]
         cases ho:okf s with
         |true=>
          obtain ⟨j,hj⟩:=g5 s ho;refine ⟨rfl,.tuple #[.agg (vals s).toArray,.bool true],?_,Rep.tupL (U1.cons (Rep.aggL ⟨g7 s ho,λi a v ha hv=>g8 s i a v ho ha hv⟩) (U1.one (.x _)))⟩
          simp [Instr.lookup,run_underlying h1,MapKept.run_getObj_map g4,hck,Instr.findKey,run_underlying h2,hj,Result.andThen]
         |false=>
          obtain ⟨hj,ht⟩:=g6 s ho;refine ⟨rfl,.tuple #[.agg z,.bool false],?_,Rep.tupL (U1.cons ?_ (U1.one (.x _)))⟩
          ·simp [Instr.lookup,run_underlying h1,MapKept.run_getObj_map g4,hck,Instr.findKey,run_underlying h2,hj,Jc0,Result.andThen]
          ·have hza:z=z.toList.toArray:=VU;rw [hza];refine Rep.aggL ⟨by simp [←HT],λi a v ha hv=>?_⟩
           rcases ht a (DY ha) with rfl|rfl
           ·exact .top v
           ·exact .any1 v (PV.1 hb.2 v (DY hv))
       ·cases h
      ·cases h
     ·cases h
    ·cases h
   ·cases h
  ·cases h
 ·cases h
theorem T4{P:Program}{e:UJ}{B:Nat}{w:World}{m:GY}{id:Nat}{t:TypeId}{ok:Bool}{x k:AV}{vx vk:Value}{ns:List Prop}{val:AV}{add:Option GM}(h:T5 P t ok x k=some (ns,val,add))(hE:UW e B w)(hm:UT e m w)
  (rx:Rep e w x vx)(rk:Rep e w k vk): ∃u w',(Instr.lookup t vx vk ok).run P w= .ok u w'/\LH e B w m id val add u w':=by
 obtain ⟨rfl,u,h1,h2⟩:=fL h rx rk;exact ⟨u,w,h1,UK hE hm h2⟩
def aop(P:Program)(G:List (Nat×Spec))(id:Nat)(m:GY)(ρ:Operand->AV)(op:Op):Option Out:=
 match op with
 | .move x=>some ([],ρ x,none)
 | .assign x=>some ([],ρ x,none)
 | .pick c a b=>match ρ c with
  | .lit true=>some ([],ρ a,none)
  | .lit false=>some ([],ρ b,none)
  |_=>none
 | .alloc t=>match P.info? t with
  |some i=>match i.zero with
   |some z=>some ([],.ptr id 0,some (IO true t (z.cells.toList.map .x)))
   |none=>none
  |none=>none
 | .box t x=>match (ρ x).cellsOf with
  |some l=>some ([],.ptr id 0,some (IO false t l))
  |none=>none
 | .build t parts=>TA P t (parts.toList.map λp=>(p.1,ρ p.2))
 | .buildSlice t len parts=>match Nat.beq len 0&& !parts.toList.isEmpty with
  |true=>none
  |false=>zA P id t len (parts.toList.map λp=>(p.1,ρ p.2))
 | .load t x=>BB P m t (ρ x)
 | .nilCheck x=>match ρ x with
  | .ptr i o=>some ([],.ptr i o,none)
  | .ro l=>some ([],.ro l,none)
  | .elt a b c d=>some ([],.elt a b c d,none)
  | .roI a b c d=>some ([],.roI a b c d,none)
  | .fn (.func f) l l'=>some ([],.fn (.func f) l l',none)
  |_=>none
 | .binOp op t x y _=>match y with
  | .const .nilIface=>Wc6 P op t (ρ x)
  |_=>Wc9 P op t (ρ x) (ρ y)
 | .makeInterface t x=>T8 P t (ρ x)
 | .typeAssert x _ t ok=>E6 P t ok (ρ x)
 | .unOp op _ x=>Zg4 op (ρ x)
 | .convert s d x=>o1 P s d (ρ x)
 | .makeFunc fn first caps=>some ([],.fn fn (first.toList.map ρ) (caps.toList.map ρ),none)
 | .slice t x lo hi mx=>match mx with
  |none=>T3 P t (ρ x) (lo.map ρ) (hi.map ρ)
  |some _=>none
 | .fieldAddr t x k=>qW P t k (ρ x)
 | .field t x k=>rX P t k (ρ x)
 | .indexAddr t x i=>jO P m t (ρ x) (ρ i)
 | .index t x i=>T7 P t (ρ x) (ρ i)
 | .makeSlice t l c=>jM P id t (ρ l) (ρ c)
 | .lookup t x k ok=>T5 P t ok (ρ x) (ρ k)
 | .extract x i=>match ρ x with
  | .tup l=>yJ l[i]?
  |_=>none
 | .makeMap _ r=>match r with
  |none=>some ([],.mp id,some (.memo (λ_=>False) (λv=>v)))
  |some _=>none
 | .call c=>match c.callee with
  | .builtin b=>d9 P m b c.argTypes.toList (c.args.toList.map ρ)
  | .value f=>Wc8 G m (ρ f) (c.args.toList.map ρ)
  |_=>none
 |_=>none
theorem Rep.ptr_inv{e:UJ}{w:World}{i o:Nat}{v:Value}(h:Rep e w (.ptr i o) v): ∃ad,v= .pointer (some ad):=by cases h;exact ⟨_,rfl⟩
theorem Rep.ro_inv{e:UJ}{w:World}{l:List AV}{v:Value}(h:Rep e w (.ro l) v): ∃ad,v= .pointer (some ad):=by cases h;exact ⟨_,rfl⟩
theorem Rep.roI_inv{e:UJ}{w:World}{p:List AV}{i o:Nat}{f:Nat->Int}{v:Value}(h:Rep e w (.roI p i f o) v): ∃ad,v= .pointer (some ad):=by cases h;exact ⟨_,rfl⟩
theorem Rep.elt_inv{e:UJ}{w:World}{i o p q:Nat}{v:Value}(h:Rep e w (.elt i o p q) v): ∃ad,v= .pointer (some ad):=by cases h;exact ⟨_,rfl⟩
theorem HZ{P:Program}{o:Oper}{a:Act}{w w':World}{v:Value}{K:Act->World->Prop}{Q:Exit->Act->World->Prop}(h:(execOp a.eval o).run P w= .ok (.value v) w')(k:K (a.put o.dst v) w'):o.wp P a w K Q:=by
 unfold Oper.wp;rw [h];exact k
theorem U1.ops{e:UJ}{w:World}{ρ:Operand->AV}{a:Act}(hr: ∀x,Rep e w (ρ x) (a.eval x)): ∀l:List Operand,U1 e w (l.map ρ) (l.map a.eval)
 |[]=>U1.nil e w
 |x::l=>U1.cons (hr x) (U1.ops hr l)
theorem NI{e:UJ}{w:World}{ρ:Operand->AV}{a:Act}(hr: ∀x,Rep e w (ρ x) (a.eval x))(ps:Array (Nat×Operand)):
  (ps.toList.map λp=>(p.1,ρ p.2)).map (·.1)=(ps.map λ(i,x)=>(i,a.eval x)).toList.map (·.1)/\
  U1 e w ((ps.toList.map λp=>(p.1,ρ p.2)).map (·.2)) ((ps.map λ(i,x)=>(i,a.eval x)).toList.map (·.2)):=by
 refine ⟨VU,?_⟩;have:=U1.ops hr (ps.toList.map (·.2));simpa [List.map_map,Function.comp_def] using this
theorem OU{P:Program}{G:List (Nat×Spec)}(hG:VJ P G){e:UJ}{B:Nat}{w:World}{m:GY}{id:Nat}{ρ:Operand->AV}{o:Oper}{a:Act}{ns:List Prop}{val:AV}{add:Option GM}
  (h:aop P G id m ρ o.op=some (ns,val,add))(hn: ∀p∈ns,p)(hE:UW e B w)(hB:B<=w.heap.size)(hm:UT e m w)(hid: ¬e.live id)(hr: ∀x,Rep e w (ρ x) (a.eval x))
  {K:Act->World->Prop}{Q:Exit->Act->World->Prop}(hK: ∀v w',LH e B w m id val add v w'->K (a.put o.dst v) w'):o.wp P a w K Q:=by
 obtain ⟨dst,op,type,pos,after,guard⟩:=o;have val1: ∀(s:Sem Value),execOp a.eval ⟨dst,op,type,pos,after,guard⟩=(do pure (.value (←s)))->(∃u w',s.run P w= .ok u w'/\LH e B w m id val add u w')->Oper.wp P ⟨dst,op,type,pos,after,guard⟩ a w K Q:=by
  rintro s hs ⟨u,w',h1,h2⟩;exact HZ (v:=u) (w':=w') (by rw [hs];simp [h1]) (hK u w' h2)
 cases op<;>try (simp [aop] at h;done)
 case move x=>
  simp only [aop,HC,FA] at h;obtain ⟨rfl,rfl,rfl⟩:=h;exact HZ (v:=a.eval x) (w':=w) (by simp [execOp]) (hK _ _ (UK hE hm (hr x)))
 case assign x=>
  simp only [aop,HC,FA] at h;obtain ⟨rfl,rfl,rfl⟩:=h;exact HZ (v:=a.eval x) (w':=w) (by simp [execOp]) (hK _ _ (UK hE hm (hr x)))
 case pick c x y=>
  simp only [aop] at h;have hc:=hr c;split at h
  ·rename_i heq;rw [heq] at hc;cases h;exact HZ (v:=a.eval x) (w':=w) (by simp [execOp,hc.lit_inv,asBool]) (hK _ _ (UK hE hm (hr x)))
  ·rename_i heq;rw [heq] at hc;cases h;exact HZ (v:=a.eval y) (w':=w) (by simp [execOp,hc.lit_inv,asBool]) (hK _ _ (UK hE hm (hr y)))
  ·cases h
 case alloc t=>
  simp only [aop] at h;split at h
  ·rename_i i hi;split at h
   ·rename_i z hz;cases h;have hcm:=lD (e:=e) (B:=B) (w:=w) (m:=m) (id:=id) (T:=t) hE hB hm hid (U1.xs e w z.cells.toList);exact HZ (by simp [execOp,Instr.alloc,zeroValue,typeInfo,hi,hz,newVar,newRow];exact ⟨rfl,rfl⟩) (hK _ _ (lE (by simpa using hcm)))
   ·cases h
  ·cases h
 case box t x=>
  simp only [aop] at h;split at h
  ·rename_i l hl;cases h;have hcm:=lD (e:=e) (B:=B) (w:=w) (m:=m) (id:=id) (T:=t) hE hB hm hid (wB hl (hr x));exact HZ (by simp [execOp,Instr.box,newVar,newRow];exact ⟨rfl,rfl⟩) (hK _ _ (lE (by simpa using hcm)))
  ·cases h
 case build t parts=>
  simp only [aop] at h;obtain ⟨h1,h2⟩:=NI hr parts;exact val1 _ rfl (MM (P:=P) h hE hm h1 h2)
 case buildSlice t len parts=>
  simp only [aop] at h;split at h
  ·cases h
  ·rename_i hc;obtain ⟨h1,h2⟩:=NI hr parts;refine val1 _ rfl (vA (P:=P) h hE hB hm hid h1 h2 ?_);rintro rfl;have:parts=#[]:=by simpa using hc
   subst this;simp
 case load t x=>exact val1 _ rfl (T6 (P:=P) (by simpa only [aop] using h) hn hE hm (hr x))
 case nilCheck x=>
  simp only [aop] at h;have hx:=hr x;have fin:val=ρ x->add=none->(∃ad,a.eval x= .pointer (some ad))\/(∃f l l',a.eval x= .func (.func f) l l')->Oper.wp P ⟨dst,.nilCheck x,type,pos,after,guard⟩ a w K Q:=by
   rintro rfl rfl hv;refine HZ (v:=a.eval x) (w':=w) ?_ (hK _ _ (UK hE hm (hr x)));rcases hv with ⟨ad,hv⟩|⟨f,l,l',hv⟩<;>simp [execOp,hv]
  split at h
  ·rename_i heq;rw [heq] at hx;cases h;exact fin heq.symm rfl (.inl hx.ptr_inv)
  ·rename_i heq;rw [heq] at hx;cases h;exact fin heq.symm rfl (.inl hx.ro_inv)
  ·rename_i heq;rw [heq] at hx;cases h;exact fin heq.symm rfl (.inl hx.elt_inv)
  ·rename_i heq;rw [heq] at hx;cases h;exact fin heq.symm rfl (.inl hx.roI_inv)
  ·rename_i heq;rw [heq] at hx;cases h;obtain ⟨vs,vs',hv,_⟩:=hx.fn_inv;exact fin heq.symm rfl (.inr ⟨_,_,_,hv⟩)
  ·cases h
 case binOp op t x y t'=>
  simp only [aop] at h;split at h
  ·exact val1 _ rfl (cX (P:=P) h hE hm (hr x))
  ·exact val1 _ rfl (cZ (P:=P) h hn hE hm (hr x) (hr y))
 case index t x i=>exact val1 _ rfl (MI (P:=P) (by simpa only [aop] using h) hn hE hm (hr x) (hr i))
 case makeInterface t x=>exact val1 _ rfl (MJ (P:=P) (by simpa only [aop] using h) hE hm (hr x))
 case lookup t x k ok=>exact val1 _ rfl (T4 (P:=P) (by simpa only [aop] using h) hE hm (hr x) (hr k))
 case typeAssert x xt t ok=>exact val1 _ rfl (E5 (P:=P) (by simpa only [aop] using h) hE hm (hr x))
 case unOp op t x=>exact val1 _ rfl (nZ (P:=P) (by simpa only [aop] using h) hn hE hm (hr x))
 case convert s d x=>exact val1 _ rfl (T9 (P:=P) (by simpa only [aop] using h) hn hE hB hm (hr x))
 case makeMap t r=>
  cases r with
  |some r=>simp [aop] at h
  |none=>
   simp only [aop,HC,FA] at h;obtain ⟨rfl,rfl,rfl⟩:=h;refine HZ (v:= .map (some w.heap.size)) (w':=w.alloc (.map #[] 0)) ?_ (hK _ _ (Wr5 hE hB hm hid));simp [execOp,Instr.makeMap]
 case makeFunc fn first caps=>
  simp only [aop,HC,FA] at h;obtain ⟨rfl,rfl,rfl⟩:=h;have h1:=U1.ops hr first.toList
  have h2:=U1.ops hr caps.toList;refine HZ (v:= .func fn (first.toList.map a.eval).toArray (caps.toList.map a.eval).toArray) (w':=w) ?_ (hK _ _ (UK hE hm (.fn fn _ _ _ _ h1.1 h1.2 h2.1 h2.2)))
  have e1: ∀l:Array Operand,(l.toList.map a.eval).toArray=l.map a.eval:=λl=>Array.ext' VU
  rw [e1,e1];simp [execOp,Instr.makeFunc]
 case slice t x lo hi mx=>
  simp only [aop] at h;split at h
  ·refine val1 (Instr.sliceAt t (a.eval x) (lo.map a.eval) (hi.map a.eval) none) rfl (MH (P:=P) h hn hE hm (hr x) ?_ ?_)
   ·cases lo with|none=>trivial|some y=>exact hr y
   ·cases hi with|none=>trivial|some y=>exact hr y
  ·cases h
 case fieldAddr t x k=>exact val1 _ rfl (uK (P:=P) (by simpa only [aop] using h) hE hm (hr x))
 case field t x k=>exact val1 _ rfl (ML (P:=P) (by simpa only [aop] using h) hE hm (hr x))
 case indexAddr t x i=>exact val1 _ rfl (uJ (P:=P) (by simpa only [aop] using h) hn hE hm (hr x) (hr i))
 case makeSlice t l c=>exact val1 _ rfl (uI (P:=P) (by simpa only [aop] using h) hn hE hB hm hid (hr l) (hr c))
 case extract x i=>
  simp only [aop] at h;have hx:=hr x;split at h
  ·rename_i l heq;rw [heq] at hx;obtain ⟨k1,rfl,rfl⟩:=RB h;obtain ⟨vs,hv,hvs⟩:=hx.tup_inv;obtain ⟨u,hu,GH⟩:=hvs.get k1;exact val1 _ rfl ⟨u,w,by simp [Instr.extract,hv,hu],UK hE hm GH⟩
  ·cases h
 case call c=>
  obtain ⟨callee,args,argTypes⟩:=c;have ha:=U1.ops hr args.toList;cases callee with
  |builtin b=>
   simp only [aop] at h;obtain ⟨u,w',h1,h2⟩:=rH (P:=P) (ty:=type) (cs:=args.map λ| .const _=>true|_=>false) (id:=id) h hE hm ha
   have e1:(args.toList.map a.eval).toArray=args.map a.eval:=Array.ext' VU;rw [e1] at h1;exact HZ (v:=u) (w':=w') (by simp only [execOp,resolve,Sem.run_bind,Sem.run_pure,Result.andThen_ok,invoke];exact h1) (hK u w' h2)
  |value f=>
   simp only [aop] at h;have hf:=hr f;unfold Wc8 at h;split at h
   ·rename_i g first caps heq
    rw [heq] at hf;obtain ⟨vs,vs',hv,r1,r2⟩:=hf.fn_inv;split at h
    ·rename_i s hs;split at h
     ·rename_i ns' r DX;cases h;obtain ⟨PC,EU⟩:=hG _ (iQ hs);have HW:U1 e w (first++args.toList.map ρ++caps) (vs++args.toList.map a.eval++vs'):=(r1.append ha).append r2
      have uT:=U1.map (D5 m 40) (L5 hE hm 40) HW;have FF:=EU _ _ _ DX hn e.view w _ (by
       rintro b (hb|⟨k,hb⟩)
       ·exact (hE.apart b hb).2
       ·exact (hE.owned b k hb).2) (hE.glob.step (Step.view w)) (DN (RI hm 40) HW) uT
      unfold Oper.wp;have DJ:(execOp a.eval ⟨dst,.call ⟨.value f,args,argTypes⟩,type,pos,after,guard⟩).run P w= .ok (.enter g (vs++args.toList.map a.eval++vs').toArray) w:=by
       have e1:(vs++args.toList.map a.eval++vs').toArray=vs.toArray++args.map a.eval++vs'.toArray:=Array.ext' VU;simp only [execOp,resolve,hv,Deferred.ofValue,Sem.run_bind,Sem.run_pure,Result.andThen_ok,invoke];rw [e1];exact L8 PC _ w
      rw [DJ,Oper.upon_enter];refine FF.mono λen w' hq=>?_
      obtain ⟨v,rfl,hb,GH⟩:=hq;exact hK v w' (OK hE hm hb GH)
     ·cases h
    ·cases h
   ·cases h
  |invoke r mm=>simp [aop] at h
def qA:GY->Nat->GM->GY
 |[],_,_=>[]
 |(k,q)::t,id,r=>match Nat.beq k id with
  |true=>(k,r)::qA t id r
  |false=>match HR id q with
   |true=>qA t id r
   |false=>(k,q)::qA t id r
def j6:GY->Nat->GY
 |[],_=>[]
 |(k,q)::t,id=>match Nat.beq k id||HR id q with
  |true=>j6 t id
  |false=>(k,q)::j6 t id
theorem FT{m:GY}{id:Nat}{r:GM}{p:Nat×GM}(h:p∈qA m id r):p=(id,r)\/(p∈m/\p.1≠id/\HR id p.2=false):=by
 induction m with
 |nil=>cases h
 |cons q t ih=>
  obtain ⟨k,q⟩:=q;unfold qA at h;split at h
  ·rename_i hk;have hk':k=id:=GW hk;rcases GK.1 h with rfl|h
   ·exact .inl (by rw [hk'])
   ·exact (ih h).imp (λh=>h) (λh=>⟨HN _ h.1,h.2⟩)
  ·rename_i hk;have hk':k≠id:=λe=>by subst e;simp at hk
   split at h
   ·exact (ih h).imp (λh=>h) (λh=>⟨HN _ h.1,h.2⟩)
   ·rename_i ha;rcases GK.1 h with rfl|h
    ·exact .inr ⟨GD,hk',ha⟩
    ·exact (ih h).imp (λh=>h) (λh=>⟨HN _ h.1,h.2⟩)
theorem L0{m:GY}{id:Nat}{p:Nat×GM}(h:p∈j6 m id):p∈m/\p.1≠id/\HR id p.2=false:=by
 induction m with
 |nil=>cases h
 |cons q t ih=>
  obtain ⟨k,q⟩:=q;unfold j6 at h;split at h
  ·exact ⟨HN _ (ih h).1,(ih h).2⟩
  ·rename_i hk;rw [Bool.or_eq_false_iff] at hk;have hk':k≠id:=λe=>by subst e;simp at hk
   rcases GK.1 h with rfl|h
   ·exact ⟨GD,hk',hk.2⟩
   ·exact ⟨HN _ (ih h).1,(ih h).2⟩
section
variable (e:UJ)(B:Nat)(w:World)
def IW(id:Nat)(val:AV)(m':GY)(v:Value)(w':World):Prop:=
 ∃e',Below B w w'/\Step e e' w w'/\UW e' B w'/\Rep e' w' val v/\UT e' m' w'/\(∀k,e'.live k->e.live k\/k=id)/\(∀b,e'.ro b->e.ro b)
def aM(_id:Nat)(val:AV)(F:Nat->GM->Prop)(v:Value)(w':World):Prop:=
 ∃e',Below B w w'/\Step e e' w w'/\UW e' B w'/\Rep e' w' val v/\(∀k r,F k r->GF e' w' k r)/\(∀k,e'.live k->e.live k\/k=_id)/\(∀b,e'.ro b->e.ro b)
end
def uD(T:TypeId)(sz:Nat):GM->Bool
 | .row T' sz' _ _=>Nat.beq T' T&&Nat.beq sz' sz
 |_=>false
def qX(c:Bool):AV->AV->AV
 | .x (.int k a),.x (.int k' b)=>match decide (k=k') with
  |true=> .x (.int k (if c then a else b))
  |false=> .top
 | .x (.bool a),.x (.bool b)=> .x (.bool (if c then a else b))
 |a,b=>match c with
  |true=>a
  |false=>b
theorem jS{e:UJ}{w:World}{c:Bool}{a b:AV}{v:Value}(h:Rep e w (if c then a else b) v):Rep e w (qX c a b) v:=by
 unfold qX;split
 ·rename_i k a' k' b';split
  ·rename_i hk;have hk':k=k':=qL hk;subst hk';cases c<;>simpa using h
  ·exact .top v
 ·cases c<;>simpa using h
 ·cases c<;>simpa using h
theorem e9{c:Bool}{a b:AV}(ha:Idf a)(hb:Idf b):Idf (qX c a b):=by
 unfold qX;split
 ·split
  ·exact .x _
  ·exact .top
 ·exact .x _
 ·cases c
  ·exact hb
  ·exact ha
def H6(c:Bool):List AV->List AV->List AV
 |a::l,b::l'=>qX c a b::H6 c l l'
 |[],l'=>match c with
  |true=>[]
  |false=>l'
 |l,[]=>match c with
  |true=>l
  |false=>[]
theorem vC{c:Bool}: ∀(l l':List AV) (j:Nat) (a:AV),l.length=l'.length->(H6 c l l')[j]? =some a-> ∃x y,l[j]? =some x/\l'[j]? =some y/\a=qX c x y
 |[],[],j,a,_,h=>by cases c<;>simp [H6] at h
 |x::l,y::l',0,a,_,h=>by simp [H6] at h;exact ⟨x,y,rfl,rfl,h.symm⟩
 |x::l,y::l',j+1,a,hl,h=>by simp only [H6,List.getElem?_cons_succ] at h ⊢;exact vC l l' j a (by simpa using hl) h
 |[],_::_,_,_,hl,_=>by simp at hl
 |_::_,[],_,_,hl,_=>by simp at hl
theorem yL{c:Bool}: ∀(l l':List AV),l.length=l'.length->(H6 c l l').length=l.length
 |[],[],_=>by cases c<;>rfl
 |x::l,y::l',hl=>by simp [H6,yL l l' (by simpa using hl)]
 |[],_::_,hl=>by simp at hl
 |_::_,[],hl=>by simp at hl
section
variable {P:Program}
def RX(P:Program)(m:GY)(t:TypeId)(x v:AV):Option (List Prop×GY):=
 match v.cellsOf with
 |some cs=>match P.info? t with
  |some i=>match Nat.beq i.size cs.length&&cs.all AV.one with
   |true=>match x with
    | .ptr id off=>match DA m id with
     |some (.cells T l)=>match Nat.ble (off+cs.length) l.length with
      |true=>some ([],qA m id (.cells T (H0 off cs l)))
      |false=>none
     |_=>none
    | .elt id sz p j=>match DA m id with
     |some (.row T sz' n f)=>match Nat.beq sz sz'&&cs.all AV.idf&&Nat.ble (j+cs.length) sz with
      |true=>some ([p<n],qA m id (.row T sz n (λk=>H6 (decide (k=p)) (H0 j cs (f k)) (f k))))
      |false=>none
     |_=>none
    |_=>none
   |false=>none
  |none=>none
 |none=>none
theorem wH: ∀(cs:List AV) (off:Nat) (cells:List AV),(H0 off cs cells).length=cells.length
 |[],_,_=>rfl
 |c::cs,off,cells=>by simp [H0,wH cs]
section
variable {e:UJ}{B g id:Nat}{w w':World}
theorem F2(hE:UW e B w)(H4:e.own g=some id)(hsz:w'.heap.size=w.heap.size)(RT: ∀b,b≠g->w'.heap[b]? =w.heap[b]?):Step e e w w':=
 ⟨λb _ hr=>⟨hr,RT b (λhe=>by subst he;rw [(hE.apart b hr).1] at H4;cases H4)⟩,λ_ h=>⟨h,rfl,rfl⟩,VI⟩
theorem P1(hE:UW e B w)(H4:e.own g=some id)(hsz:w'.heap.size=w.heap.size)(RT: ∀b,b≠g->w'.heap[b]? =w.heap[b]?){k:Nat}{r:GM}(hne:k≠id/\HR id r=false)(h:GF e w k r):GF e w' k r:=by
 obtain ⟨hne,hak⟩:=hne;have st:=F2 hE H4 hsz RT;cases r with
 |cells T l=>
  obtain ⟨h1,h2,vs,h3,h4⟩:=h;refine ⟨h1,h2,vs,?_,h4.step st⟩;rw [RT _ (λhe=>hne (by rw [he,H4] at h2;exact (Option.some.inj h2).symm))]
  exact h3
 |row T sz n f=>
  obtain ⟨h1,h2,hf,xs,h3,h4⟩:=h;refine ⟨h1,h2,hf,xs,⟨h3.1,h3.2.imp (λh=>h) ?_⟩,λi j a v hi ha hv=>(h4 i j a v hi ha hv).step st⟩
  rintro ⟨g',cap,cur,hv,hg,hh,rest⟩;refine ⟨g',cap,cur,hv,hg,?_,rest⟩;rw [RT g' (λhe=>hne (by have:=h2 g' (by rw [hv];rfl);rw [he,H4] at this;exact (Option.some.inj this).symm))]
  exact hh
 |ints T pre n f=>
  obtain ⟨h1,h2,vs,h3,h4⟩:=h;refine ⟨h1,h2,vs,?_,h4.step st⟩;rw [RT _ (λhe=>hne (by rw [he,H4] at h2;exact (Option.some.inj h2).symm))]
  exact h3
 |memo h f=>
  obtain ⟨h1,h2,es,c,h3,h4⟩:=h;refine ⟨h1,h2,es,c,?_,h4⟩;rw [RT _ (λhe=>hne (by rw [he,H4] at h2;exact (Option.some.inj h2).symm))]
  exact h3
 |keep T l=>exact LC st h
 |aka r T sz n f=>
  obtain ⟨h1,h0,o,hor,h2,hf,xs,h3,h4⟩:=h;refine ⟨h1,h0,o,hor,h2,hf,xs,⟨h3.1,h3.2.imp (λh=>h) ?_⟩,λi j a v hi ha hv=>(h4 i j a v hi ha hv).step st⟩
  rintro ⟨g',cap,cur,hv,hg,hh,rest⟩;refine ⟨g',cap,cur,hv,hg,?_,rest⟩;rw [RT g' (λhe=>?_)]
  ·exact hh
  ·have h5:=h2 g' (by rw [hv];rfl)
   rw [he,H4] at h5;have h6:id=o:=Option.some.inj h5;rcases hor with rfl|rfl
   ·exact hne h6.symm
   ·rw [h6] at hak;simp [HR] at hak
end
theorem RZ{e:UJ}{B:Nat}{w w':World}(hE:UW e B w)(hsz:w'.heap.size=w.heap.size)(st:Step e e w w'):UW e B w':=⟨λb h=>by rw [hsz];exact hE.apart b h,λb k h=>by rw [hsz];exact hE.owned b k h,hE.glob.step st⟩
theorem zR{B g:Nat}(w:World)(cs:Array Value)(hB:B<=g):Below B w (w.setRow g cs):=
 ⟨rfl,rfl,rfl,VU,λk hk=>setRow_other w g k cs VI⟩
theorem jB{e:UJ}{w:World}{l cs:List AV}{vs us:List Value}(off:Nat)(hl:U1 e w l vs)(hc:U1 e w cs us)(hle:off+cs.length<=l.length):
  U1 e w (H0 off cs l) (vs.take off++us++vs.drop (off+us.length)):=by
 induction cs generalizing off l vs us with
 |nil=>cases hc.nil_inv;simpa [H0] using hl
 |cons c cs ih=>
  obtain ⟨u,us',rfl,hu,hus⟩:=hc.cons_inv;have HT:=hl.1;have:=ih (l:=l.set off c) (vs:=vs.set off u) (us:=us') (off+1) (hl.set hu off) hus (by simp at hle ⊢;omega)
  simp only [H0];have e1:(vs.set off u).take (off+1)++us'++(vs.set off u).drop (off+1+us'.length)=vs.take off++(u::us')++vs.drop (off+(u::us').length):=by
   have TR:off<vs.length:=by simp at hle;omega
   rw [List.take_succ_eq_append_getElem (by simpa using TR),List.take_set_of_le (Nat.le_refl _),List.drop_set_of_lt VI]
   simp [Nat.add_assoc,Nat.add_comm 1]
  rw [←e1];exact this
section
variable {e:UJ}{B:Nat}{w:World}{m m':GY}{t:TypeId}
theorem E4{x y:AV}{vx vy:Value}{ns:List Prop}(h:RX P m t x y=some (ns,m'))(hn: ∀p∈ns,p)
  (hE:UW e B w)(hm:UT e m w)(rx:Rep e w x vx)(ry:Rep e w y vy): ∃w',(Instr.storeAt t vx vy).run P w= .ok () w'/\ ∀(id:Nat) (v:Value),IW e B w id .top m' v w':=by
 unfold RX at h;split at h
 ·rename_i cs hcs;have GH:=wB hcs ry;split at h
  ·rename_i i hi;split at h
   ·rename_i hb;simp only [H2] at hb;have hsz:i.size=cs.length:=GW hb.1;have iB: ∀u∈vy.cells.toList,u.oneCell'=true:=by
     intro u hu;obtain ⟨q,hq⟩:=wM.1 hu;have hlt:q<cs.length:=by rw [GH.1];exact (FR.1 hq).1
     exact rY (PV.1 hb.2 _ (List.getElem_mem hlt)) (GH.2 q _ u (HX hlt) hq)
    have HT:vy.cells.size=i.size:=by rw [hsz,GH.1];simp
    split at h
    ·rename_i k off;split at h
     ·rename_i T l hg;split at h
      ·rename_i hle;have hle:=qN hle;cases h;obtain ⟨h1,h2,vs,h3,h4⟩:=hm _ (UU hg)
       dsimp only at h1 h2 h3
       cases rx with
       |ptr _ _ hl=>
        have jY:off+0+vy.cells.toList.length<=vs.toArray.size:=by rw [←GH.1];simp [←h4.1];omega
        have hst:=run_storeCells_at P (e.blk k) off T vy.cells.toList 0 vs.toArray w h3 jY iB;simp only [Nat.add_zero] at hst;have DJ:(Instr.storeAt t (.pointer (some ⟨e.blk k,off,none⟩)) vy).run P w= .ok () (w.setRow (e.blk k) (vs.take off++vy.cells.toList++vs.drop (off+vy.cells.toList.length)).toArray):=by
         simp only [Instr.storeAt,Instr.sureAddr,storeVar,sizeOf,typeInfo,Sem.run_bind,Sem.run_pure,Result.andThen_ok,run_program,hi,HT,ne_eq,not_true_eq_false,if_false];exact hst
        refine ⟨_,DJ,λid v=>?_⟩
        have RT: ∀b,b≠e.blk k->(w.setRow (e.blk k) (vs.take off++vy.cells.toList++vs.drop (off+vy.cells.toList.length)).toArray).heap[b]? =w.heap[b]? :=λb hb=>setRow_other w _ b _ hb
        have st:=F2 (w':=w.setRow (e.blk k) (vs.take off++vy.cells.toList++vs.drop (off+vy.cells.toList.length)).toArray) hE h2 VU RT;refine ⟨e,zR w _ (hE.owned _ _ h2).1,st,RZ hE VU st,.top v,?_,λ_ h=> .inl h,λ_ h=>h⟩
        intro p hp;rcases FT hp with rfl|⟨hp,hne⟩
        ·refine ⟨h1,h2,_,setRow_heap w _ _ _ T _ h3,(jB off h4 GH hle).step st⟩
        ·exact P1 hE h2 VU RT hne (hm p hp)
      ·cases h
     ·cases h
    ·rename_i k sz p j;split at h
     ·rename_i T sz' n f hg;split at h
      ·rename_i hb2;simp only [H2] at hb2;obtain ⟨⟨hb3,FL⟩,hb4⟩:=hb2;have hs':sz=sz':=GW hb3;subst hs';have hle:=qN hb4;cases h;have hp:p<n:=hn _ VU;obtain ⟨h1,h2,hf,xs,hx,w6⟩:=hm _ (UU hg)
       dsimp only at h1 h2 hx
       cases rx with
       |elt _ _ _ _ b n' cap hl hv=>
        rcases hx.2 with ⟨hv0,hn0⟩|⟨g,cap',cur,hv0,_,hgg,hnc,hcm,hcs',jV⟩
        ·omega
        ·have hvv:=hv0;rw [hv] at hvv;obtain ⟨rfl,rfl,rfl⟩:b=g/\n'=n/\cap=cap':=by simpa using hvv
         have H4:e.own b=some k:=h2 b (by rw [hv];rfl)
         have hpl:p*sz+sz<=n'*sz:=by
          have:=BC sz (Nat.succ_le_of_lt hp)
          rwa [Nat.succ_mul] at this
         have hnc':n'*sz<=cap*sz:=BC sz hnc;have jY:p*sz+j+0+vy.cells.toList.length<=cur.size:=by rw [←GH.1,hcs'];omega
         have hst:=run_storeCells_at P b (p*sz+j) T vy.cells.toList 0 cur w hgg jY iB;simp only [Nat.add_zero] at hst;generalize hcur':(cur.toList.take (p*sz+j)++vy.cells.toList++cur.toList.drop (p*sz+j+vy.cells.toList.length))=cur' at hst;have DJ:(Instr.storeAt t (.pointer (some ⟨b,p*sz+j,none⟩)) vy).run P w= .ok () (w.setRow b cur'.toArray):=by
          simp only [Instr.storeAt,Instr.sureAddr,storeVar,sizeOf,typeInfo,Sem.run_bind,Sem.run_pure,Result.andThen_ok,run_program,hi,HT,ne_eq,not_true_eq_false,if_false];exact hst
         refine ⟨_,DJ,λid v=>?_⟩
         have RT: ∀q,q≠b->(w.setRow b cur'.toArray).heap[q]? =w.heap[q]? :=λq hq=>setRow_other w _ q _ hq
         have st:=F2 (w':=w.setRow b cur'.toArray) hE H4 VU RT;have hidf':=Qb0 GH FL;have Xr5:cur'.length=cur.size:=by
          have hcl:cur.toList.length=cur.size:=VU;rw [←hcur'];simp only [List.length_append,List.length_take,List.length_drop,hcl];omega
         refine ⟨e,zR w _ (hE.owned _ _ H4).1,st,RZ hE VU st,.top v,?_,λ_ h=> .inl h,λ_ h=>h⟩
         intro q hq;rcases FT hq with rfl|⟨hq,hne⟩
         ·have hsp: ∀l:List AV,(H0 j cs l).length=l.length:=λl=>wH cs j l
          have hspi: ∀(cs:List AV) (j:Nat) (l:List AV),(∀a∈cs,Idf a)->(∀a∈l,Idf a)-> ∀a∈H0 j cs l,Idf a:=by
           intro cs
           induction cs with
           |nil=>intro j l _ hl' a ha;exact hl' a ha
           |cons c cs ih=>
            intro j l hc hl' a ha;refine ih (j+1) (l.set j c) (λa ha=>hc a (HN _ ha)) (λa ha=>?_) a ha
            rcases List.mem_or_eq_of_mem_set ha with h|h
            ·exact hl' a h
            ·subst h;exact hc _ GD
          refine ⟨h1,h2,?_,cur'.take (n'*sz),⟨?_,.inr ⟨b,_,cur'.toArray,hv,Nat.zero_le _,setRow_heap w _ _ _ T _ hgg,hnc,hcm,by simp [Xr5,hcs'],rfl⟩⟩,?_⟩
          ·intro i' hi';refine ⟨by rw [yL _ _ (hsp _),hsp];exact (hf i' hi').1,λa ha=>?_⟩
           obtain ⟨q,hq⟩:=wM.1 ha;obtain ⟨x,y,hx',hy',rfl⟩:=vC _ _ _ _ (hsp _) hq;exact e9 (hspi cs j (f i') hidf' (hf i' hi').2 x (DY hx')) ((hf i' hi').2 y (DY hy'))
          ·rw [List.length_take,Xr5,hcs'];omega
          ·intro i' j' a u hi' ha hu;obtain ⟨x,y,hx',hy',rfl⟩:=vC _ _ _ _ (hsp _) ha;have hj':j'<sz:=by rw [←(hf i' hi').1];exact (FR.1 hy').1
           have hil:i'*sz+sz<=n'*sz:=by
            have:=BC sz (Nat.succ_le_of_lt hi')
            rwa [Nat.succ_mul] at this
           rw [List.getElem?_take] at hu;split at hu
           ·apply jS;by_cases hip:i'=p
            ·subst hip;rw [if_pos VU]
             -- the cells of the element, old and new
             have hR:U1 e w (f i') ((xs.drop (i'*sz)).take sz):=by
              refine ⟨by rw [(hf i' hi').1,List.length_take,List.length_drop,hx.1];omega,λq a v ha hv'=>?_⟩
              rw [List.getElem?_take] at hv';split at hv'
              ·rw [List.getElem?_drop] at hv';exact w6 i' q a v hi' ha hv'
              ·cases hv'
             have hS:=jB j hR GH (by rw [(hf i' hi').1];exact hle)
             obtain ⟨u',hu',hru⟩:=hS.get hx';have:u'=u:=by
              have e2:cur'[i'*sz+j']? =some u':=by
               rw [←hu',←hcur'];have hcl:cur.toList.length=cur.size:=VU;have hus:vy.cells.toList.length=cs.length:=GH.1.symm;have hxs: ∀q,q<n'*sz->xs[q]? =cur.toList[q]? :=by
                intro q hq;rw [←jV,List.getElem?_take,if_pos hq]
               simp only [List.getElem?_append,List.length_append,List.length_take,List.length_drop,List.getElem?_take,List.getElem?_drop,hcl,hx.1,hus,hcs'];by_cases c1:j'<j
               ·rw [if_pos VI,if_pos VI,if_pos VI,if_pos VI,if_pos VI,if_pos VI,if_pos VI,hxs _ VI]
               ·by_cases c2:j'<j+cs.length
                ·rw [if_pos VI,if_neg VI,if_pos VI,if_neg VI]
                 congr 1
                 omega
                ·rw [if_neg VI,if_neg VI,if_pos VI,hxs _ VI]
                 congr 1
                 omega
              rw [e2] at hu;exact Option.some.inj hu
             subst this;exact hru.step st
            ·rw [if_neg (by simpa using hip)]
             have hxu:xs[i'*sz+j']? =some u:=by
              rw [←hu,←hcur',←jV,List.getElem?_take,if_pos VI];have hcl:cur.toList.length=cur.size:=VU;have hus:vy.cells.toList.length=cs.length:=GH.1.symm;simp only [List.getElem?_append,List.length_append,List.length_take,List.getElem?_take,List.getElem?_drop,hcl,hus,hcs'];rcases Nat.lt_or_gt_of_ne hip with hlt|hgt
              ·have:i'*sz+sz<=p*sz:=by
                have:=BC sz (Nat.succ_le_of_lt hlt)
                rwa [Nat.succ_mul] at this
               rw [if_pos VI,if_pos VI,if_pos VI]
              ·have:p*sz+sz<=i'*sz:=by
                have:=BC sz (Nat.succ_le_of_lt hgt)
                rwa [Nat.succ_mul] at this
               rw [if_neg VI]
               congr 1
               omega
             exact (w6 i' j' y u hi' hy' hxu).step st
           ·cases hu
         ·exact P1 hE H4 VU RT hne (hm q hq)
      ·cases h
     ·cases h
    ·cases h
   ·cases h
  ·cases h
 ·cases h
theorem BO{k off:Nat}{y:AV}{vx vy:Value}{ns:List Prop}(h:RX P m t (.ptr k off) y=some (ns,m'))
  (hE:UW e B w)(hm:UT e m w)(rx:Rep e w (.ptr k off) vx)(ry:Rep e w y vy):
  ∃w',(Instr.storeAt t vx vy).run P w= .ok () w'/\e.own (e.blk k)=some k/\w'.heap.size=w.heap.size/\(∀b,b≠e.blk k->w'.heap[b]? =w.heap[b]?)/\Below B w w'/\UT e m' w':=by
 unfold RX at h;split at h
 ·rename_i cs hcs;have GH:=wB hcs ry;split at h
  ·rename_i i hi;split at h
   ·rename_i hb;simp only [H2] at hb;have hsz:i.size=cs.length:=GW hb.1;have iB: ∀u∈vy.cells.toList,u.oneCell'=true:=by
     intro u hu;obtain ⟨q,hq⟩:=wM.1 hu;have hlt:q<cs.length:=by rw [GH.1];exact (FR.1 hq).1
     exact rY (PV.1 hb.2 _ (List.getElem_mem hlt)) (GH.2 q _ u (HX hlt) hq)
    have HT:vy.cells.size=i.size:=by rw [hsz,GH.1];simp
    simp only at h;split at h
    ·rename_i T l hg;split at h
     ·rename_i hle;have hle:=qN hle;cases h;obtain ⟨h1,h2,vs,h3,h4⟩:=hm _ (UU hg)
      dsimp only at h1 h2 h3
      cases rx with
      |ptr _ _ hl=>
       have jY:off+0+vy.cells.toList.length<=vs.toArray.size:=by rw [←GH.1];simp [←h4.1];omega
       have hst:=run_storeCells_at P (e.blk k) off T vy.cells.toList 0 vs.toArray w h3 jY iB;simp only [Nat.add_zero] at hst;have DJ:(Instr.storeAt t (.pointer (some ⟨e.blk k,off,none⟩)) vy).run P w= .ok () (w.setRow (e.blk k) (vs.take off++vy.cells.toList++vs.drop (off+vy.cells.toList.length)).toArray):=by
        simp only [Instr.storeAt,Instr.sureAddr,storeVar,sizeOf,typeInfo,Sem.run_bind,Sem.run_pure,Result.andThen_ok,run_program,hi,HT,ne_eq,not_true_eq_false,if_false];exact hst
       have RT: ∀b,b≠e.blk k->(w.setRow (e.blk k) (vs.take off++vy.cells.toList++vs.drop (off+vy.cells.toList.length)).toArray).heap[b]? =w.heap[b]? :=λb hb=>setRow_other w _ b _ hb
       have st:=F2 (w':=w.setRow (e.blk k) (vs.take off++vy.cells.toList++vs.drop (off+vy.cells.toList.length)).toArray) hE h2 VU RT;refine ⟨_,DJ,h2,VU,RT,zR w _ (hE.owned _ _ h2).1,?_⟩;intro p hp;rcases FT hp with rfl|⟨hp,hne⟩
       ·refine ⟨h1,h2,_,setRow_heap w _ _ _ T _ h3,(jB off h4 GH hle).step st⟩
       ·exact P1 hE h2 VU RT hne (hm p hp)
     ·cases h
    ·cases h
   ·cases h
  ·cases h
 ·cases h
end
def UO(q:Nat)(v:Int)(f:Nat->Int):Nat->Int:=λk=>if k=q then v else f k
def j5:Nat->List Int->(Nat->Int)->Nat->Int
 |_,[],f=>f
 |q,v::vs,f=>j5 (q+1) vs (UO q v f)
theorem Qm7{n q:Nat}{v:Int}{f:Nat->Int}:(HK n f).set q (.x (.int .i64 v))=HK n (UO q v f):=by
 apply List.ext_getElem?;intro j;rw [List.getElem?_set];by_cases hj:j<n
 ·rw [kU (f:=UO q v f) hj];by_cases hq:q=j
  ·subst hq;rw [if_pos rfl,if_pos (by rw [LD];exact hj)]
   simp [UO]
  ·rw [if_neg hq,kU hj];simp [UO,Ne.symm hq]
 ·have h1:(HK n (UO q v f))[j]? =none:=List.getElem?_eq_none (by rw [LD];omega)
  rw [h1];split
  ·rw [if_neg (by rw [LD];omega)]
  ·exact List.getElem?_eq_none (by rw [LD];omega)
theorem AO{pre L:List AV}: ∀(cs:List AV) (off:Nat),off+cs.length<=pre.length->H0 off cs (pre++L)=H0 off cs pre++L
 |[],_,_=>rfl
 |c::cs,off,h=>by
  simp only [List.length_cons] at h;simp only [H0];rw [List.set_append_left _ _ VI];have hl:(pre.set off c).length=pre.length:=VU;exact splice_go cs (off+1) (pre.set off c) (by rw [hl];omega)
where
 splice_go {L:List AV}: ∀(cs:List AV) (off:Nat) (pre:List AV),off+cs.length<=pre.length->H0 off cs (pre++L)=H0 off cs pre++L
 |[],_,_,_=>rfl
 |c::cs,off,pre,h=>by
  simp only [List.length_cons] at h;simp only [H0];rw [List.set_append_left _ _ VI];exact splice_go cs (off+1) (pre.set off c) (by simp;omega)
theorem jC{pre:List AV}{n:Nat}: ∀(vs:List Int) (off:Nat) (f:Nat->Int),pre.length<=off->H0 off (vs.map λv=> .x (.int .i64 v)) (pre++HK n f)=pre++HK n (j5 (off-pre.length) vs f)
 |[],_,_,_=>rfl
 |v::vs,off,f,h=>by
  simp only [List.map_cons,H0,j5];rw [List.set_append_right _ _ h,Qm7,jC vs (off+1) _ VI,show off+1-pre.length=off-pre.length+1 by omega]
theorem AQ: ∀(cs cs':List AV) (off:Nat) (L:List AV),H0 off (cs++cs') L=H0 (off+cs.length) cs' (H0 off cs L)
 |[],_,_,_=>rfl
 |c::cs,cs',off,L=>by
  simp only [List.cons_append,H0,AQ cs cs' (off+1),List.length_cons];rw [show off+1+cs.length=off+(cs.length+1) by omega]
theorem AP: ∀(cs:List AV) (off:Nat) (L:List AV),(H0 off cs L).length=L.length
 |[],_,_=>rfl
 |c::cs,off,L=>by simp only [H0,AP cs (off+1),List.length_set]
theorem vH: ∀{l:List AV} {r:List Int},qG l=some r->l=r.map λv=> .x (.int .i64 v)
 |[],r,h=>by simp [qG] at h;subst h;rfl
 |a::l,r,h=>by
  unfold qG at h;split at h
  ·rename_i n;split at h
   ·rename_i r' hr;cases h;rw [List.map_cons,←vH hr]
   ·cases h
  ·cases h
def stI(T:TypeId)(cs pre:List AV)(n:Nat)(f:Nat->Int)(off:Nat):Option (List Prop×GM):=
 match Nat.ble (off+1) pre.length with
 |true=>match Nat.ble (off+cs.length) pre.length with
  |true=>some ([],.ints T (H0 off cs pre) n f)
  |false=>match qG (cs.drop (pre.length-off)) with
   |some vs=>some ([vs.length<=n],.ints T (H0 off (cs.take (pre.length-off)) pre) n (j5 0 vs f))
   |none=>none
 |false=>match qG cs with
  |some vs=>some ([wR off pre+vs.length<=n],.ints T pre n (j5 (wR off pre) vs f))
  |none=>none
def z9(P:Program)(m:GY)(t:TypeId)(x v:AV):Option (List Prop×GY):=
 match x with
 | .ptr id off=>match DA m id with
  |some (.ints T pre n f)=>match v.cellsOf with
   |some cs=>match P.info? t with
    |some i=>match Nat.beq i.size cs.length&&cs.all AV.one with
     |true=>match stI T cs pre n f off with
      |some (ns,r)=>some (ns,qA m id r)
      |none=>none
     |false=>none
    |none=>none
   |none=>none
  |some (.cells T l)=>match aF P t l with
   |some bs=>match L2 v with
    |some b=>match P.info? t with
     |some i=>match Nat.beq i.size 1 with
      |true=>some ([off<bs.length],qA m id (.cells T (fJ off b bs 0)))
      |false=>none
     |none=>none
    |none=>none
   |none=>RX P m t (.ptr id off) v
  |_=>RX P m t (.ptr id off) v
 |x=>RX P m t x v
theorem stI_holds{T:TypeId}{cs pre:List AV}{n:Nat}{f:Nat->Int}{off:Nat}{ns:List Prop}{r:GM}(h:stI T cs pre n f off=some (ns,r))(hn: ∀p∈ns,p):
  off+cs.length<=(pre++HK n f).length/\ ∀e w id,GF e w id (.cells T (H0 off cs (pre++HK n f)))->GF e w id r:=by
 unfold stI at h;rw [List.length_append,LD];split at h
 ·split at h
  ·rename_i hb;have hle:=qN hb;cases h;refine ⟨VI,λe w id hh=>?_⟩
   rw [AO cs off hle] at hh;exact hh
  ·split at h
   ·rename_i _ hb _ hb2 _ vs hvs;have hof:=qN hb;cases h;have hsz:vs.length<=n:=hn _ VU;have hcs:=vH hvs;have hl:(cs.drop (pre.length-off)).length=vs.length:=by rw [hcs];simp
    rw [List.length_drop] at hl;have hlt:pre.length-off<=cs.length:=by
     rcases Nat.lt_or_ge pre.length (off+cs.length) with h'|h'
     ·omega
     ·rw [Nat.ble_eq_true_of_le h'] at hb2;cases hb2
    have htl:(cs.take (pre.length-off)).length=pre.length-off:=by rw [List.length_take];omega
    refine ⟨VI,λe w id hh=>?_⟩
    have e1:H0 off cs (pre++HK n f)=H0 off (cs.take (pre.length-off)) pre++HK n (j5 0 vs f):=by
     conv=>lhs;rw [←List.take_append_drop (pre.length-off) cs]
     rw [AQ,htl,AO _ _ VI,hcs];have hpl:(H0 off (cs.take (pre.length-off)) pre).length=pre.length:=AP _ _ _;rw [jC vs _ f VI,hpl,show off+(pre.length-off)-pre.length=0 by omega]
    rw [e1] at hh;exact hh
   ·cases h
 ·rename_i hb;have hle:pre.length<=off:=by
   rcases Nat.lt_or_ge off pre.length with h'|h'
   ·rw [Nat.ble_eq_true_of_le h'] at hb;cases hb
   ·exact h'
  split at h
  ·rename_i vs hvs;cases h;have hsz:wR off pre+vs.length<=n:=hn _ VU;have hcs:=vH hvs;have hl:cs.length=vs.length:=by rw [hcs];simp
   rw [qR] at hsz;refine ⟨VI,λe w id hh=>?_⟩
   rw [hcs,jC vs off f hle,←qR] at hh;exact hh
  ·cases h
theorem NA{m:GY}{id:Nat}{r:GM}{p:Nat×GM}(h:p∈m)(hne:p.1≠id/\HR id p.2=false):p∈qA m id r:=by
 induction m with
 |nil=>cases h
 |cons q t ih=>
  obtain ⟨k,q⟩:=q;unfold qA;rcases GK.1 h with rfl|h
  ·split
   ·rename_i hk;exact absurd (GW hk) hne.1
   ·split
    ·rename_i ha;rw [hne.2] at ha;cases ha
    ·exact GD
  ·split
   ·exact HN _ (ih h)
   ·split
    ·exact ih h
    ·exact HN _ (ih h)
section
variable {e:UJ}{B:Nat}{w:World}{m m':GY}{t:TypeId}
theorem fK{k off:Nat}{y:AV}{vx vy:Value}{ns:List Prop}(h:z9 P m t (.ptr k off) y=some (ns,m'))(hn: ∀p∈ns,p)
  (hE:UW e B w)(hm:UT e m w)(rx:Rep e w (.ptr k off) vx)(ry:Rep e w y vy):
  ∃w',(Instr.storeAt t vx vy).run P w= .ok () w'/\e.own (e.blk k)=some k/\w'.heap.size=w.heap.size/\(∀b,b≠e.blk k->w'.heap[b]? =w.heap[b]?)/\Below B w w'/\UT e m' w':=by
 unfold z9 at h;simp only at h;split at h
 ·rename_i T pre n f hg;split at h
  ·rename_i cs hcs;split at h
   ·rename_i i hi;split at h
    ·rename_i hb;split at h
     ·rename_i ns' r hst;cases h;obtain ⟨hle,hr⟩:=stI_holds hst hn;have hm2:UT e ((k,.cells T (pre++HK n f))::m) w:=by
       intro p hp;rcases GK.1 hp with rfl|hp
       ·exact (show GF e w k (.ints T pre n f) from hm _ (UU hg))
       ·exact hm p hp
      have hc:RX P ((k,.cells T (pre++HK n f))::m) t (.ptr k off) y=some ([],(k,.cells T (H0 off cs (pre++HK n f)))::qA m k (.cells T (H0 off cs (pre++HK n f)))):=by
       unfold RX;rw [hcs];simp only;rw [hi];simp only;rw [hb];simp only [DA,Nat.beq_refl,qA];rw [Nat.ble_eq_true_of_le hle]
      obtain ⟨w',q1,q2,q3,q4,q5,q6⟩:=BO hc hE hm2 rx ry;refine ⟨w',q1,q2,q3,q4,q5,λp hp=>?_⟩
      rcases FT hp with rfl|⟨hp,hne⟩
      ·exact hr _ _ _ (q6 (k,_) GD)
      ·exact q6 p (HN _ (NA hp hne))
     ·cases h
    ·cases h
   ·cases h
  ·cases h
 ·rename_i T l hg;split at h
  ·rename_i bs hbs;split at h
   ·rename_i b hb;split at h
    ·rename_i i hi;split at h
     ·rename_i hsz;cases h;have TR:off<bs.length:=hn _ VU;obtain ⟨hbl,hu⟩:=IP hbs;obtain ⟨HT,Qo1⟩:=vN hbl;obtain ⟨c,hcs,hc1,hcb⟩: ∃c,y.cellsOf=some [c]/\c.one=true/\L2 c=some b:=by
       cases y with
       |lit b'=>exact ⟨_,rfl,rfl,hb⟩
       |x v'=>cases v'<;>simp [L2] at hb;exact ⟨_,rfl,rfl,by simp [L2,hb]⟩
       |_=>simp [L2] at hb
      have hm2:UT e ((k,.cells T l)::m) w:=by
       intro p hp;rcases GK.1 hp with rfl|hp
       ·exact hm _ (UU hg)
       ·exact hm p hp
      have hcc:RX P ((k,.cells T l)::m) t (.ptr k off) y=some ([],(k,.cells T (H0 off [c] l))::qA m k (.cells T (H0 off [c] l))):=by
       unfold RX;rw [hcs];simp only;rw [hi];simp only;rw [show (Nat.beq i.size [c].length&&[c].all AV.one)=true by simp [hc1];simpa using hsz]
       simp only [DA,Nat.beq_refl,qA];rw [Nat.ble_eq_true_of_le (show off+[c].length<=l.length by simp;omega)]
      obtain ⟨w',q1,q2,q3,q4,q5,q6⟩:=BO hcc hE hm2 rx ry;refine ⟨w',q1,q2,q3,q4,q5,λp hp=>?_⟩
      rcases FT hp with rfl|⟨hp,hne⟩
      ·obtain ⟨g1,g2,us,g3,g4⟩:=q6 (k,_) GD;refine ⟨g1,g2,us,g3,?_⟩;have hul:us.length=l.length:=by rw [←g4.1,wH]
       refine ⟨by rw [u7,hul,HT],λj a u ha hu'=>?_⟩
       rw [NB off b bs 0 j a ha,Nat.zero_add];have hj:j<l.length:=by rw [←hul];exact (FR.1 hu').1
       have hsp:(H0 off [c] l)[j]? =some (if j=off then c else l[j]):=by
        simp only [H0,List.getElem?_set];by_cases hjo:off=j
        ·subst hjo;simp [hj]
        ·rw [if_neg hjo,if_neg (λh=>hjo h.symm),HX hj]
       have hr:=g4.2 j _ u hsp hu';have hbv:L2 (if j=off then c else l[j])=some (if j=off then b else bs.getD j false):=by
        split
        ·exact hcb
        ·exact Qo1 j _ (HX hj)
       rw [PU hbv hr];exact .x _
      ·exact q6 p (HN _ (NA hp hne))
     ·cases h
    ·cases h
   ·cases h
  ·exact BO h hE hm rx ry
 ·exact BO h hE hm rx ry
theorem MG{x y:AV}{vx vy:Value}{ns:List Prop}(h:z9 P m t x y=some (ns,m'))(hn: ∀p∈ns,p)
  (hE:UW e B w)(hm:UT e m w)(rx:Rep e w x vx)(ry:Rep e w y vy): ∃w',(Instr.storeAt t vx vy).run P w= .ok () w'/\ ∀(id:Nat) (v:Value),IW e B w id .top m' v w':=by
 cases x with
 |ptr k off=>
  obtain ⟨w',q1,q2,q3,q4,q5,q6⟩:=fK h hn hE hm rx ry;exact ⟨w',q1,λid v=>⟨e,q5,F2 hE q2 q3 q4,RZ hE q3 (F2 hE q2 q3 q4),.top v,q6,λ_ h=> .inl h,λ_ h=>h⟩⟩
 |_=>exact E4 (P:=P) (by simpa only [z9] using h) hn hE hm rx ry
end
def tK(m:GY)(el sz:Nat):AV->Option (Nat×(Nat->List AV))
 | .row id=>match DA m id with
  |some (.row T sz' n f)=>match Nat.beq T el&&Nat.beq sz sz' with
   |true=>some (n,f)
   |false=>none
  |_=>none
 | .x (.slice none 0 0)=>some (0,λ_=>[])
 |_=>none
def Qy6(m:GY)(sz:Nat):AV->Option (Nat×(Nat->List AV))
 | .row id=>match DA m id with
  |some (.row _ sz' n f)=>match Nat.beq sz sz' with
   |true=>some (n,f)
   |false=>none
  |_=>none
 | .lst sz' n f=>match Nat.beq sz sz' with
  |true=>some (n,f)
  |false=>none
 | .x (.slice none 0 0)=>some (0,λ_=>[])
 |_=>none
def GG(n:Nat)(f g:Nat->List AV)(i:Nat):List AV:=H6 (decide (i<n)) (f i) (g (i-n))
def zM(m:GY):AV->GY
 | .row id=>j6 m id
 |_=>m
section
variable (P:Program)(id:Nat)(m:GY)(t:TypeId)
def FU(s x:AV):Option (List Prop×AV×GY):=
 match P.underlying t with
 |some (.slice el)=>match P.info? el with
  |some ie=>match ie.zero with
   |some z=>match Nat.beq z.cells.size ie.size&&Nat.ble 1 ie.size&&Nat.ble 1 ie.bytes with
    |true=>match tK m el ie.size s,Qy6 m ie.size x with
     |some (n1,f1),some (n2,f2)=>some ([(n1+n2)*ie.bytes<=140737488355328,∀i,i<n2-> ∀a∈f2 i,AV.one a=true],.row id,(id,.row el ie.size (n1+n2) (GG n1 f1 f2))::zM m s)
     |_,_=>none
    |false=>none
   |none=>none
  |none=>none
 |_=>none
def kR(q:Nat)(x:AV):Option (List Prop×GM):=
 match FU P id m t (.row q) x with
 |some (ns,_,(_,.row T sz n f)::_)=>match m.all (λp=>(!Nat.beq p.1 q||uD T sz p.2)&& !HR q p.2) with
  |true=>some (ns,.aka q T sz n f)
  |false=>none
 |_=>none
end
theorem RY{c:Bool}: ∀(l l':List AV),(H6 c l l').length=(if c then l else l').length/\
  ∀(j:Nat) (a:AV),(H6 c l l')[j]? =some a-> ∃y,(if c then l else l')[j]? =some y/\(∀(e:UJ) (w:World) (v:Value),Rep e w y v->Rep e w a v)/\(Idf y->Idf a)
 |[],l'=>by
  cases c
  ·simp only [H6,Bool.false_eq_true,if_false,true_and];exact λj a h=>⟨a,h,λ_ _ _ h=>h,λh=>h⟩
  ·simp [H6]
 |x::l,[]=>by
  cases c
  ·simp [H6]
  ·simp only [H6,if_true,true_and];exact λj a h=>⟨a,h,λ_ _ _ h=>h,λh=>h⟩
 |x::l,y::l'=>by
  have ih:=RY (c:=c) l l';refine ⟨?_,λj a h=>?_⟩
  ·cases c<;>simpa [H6] using ih.1
  ·cases j with
   |zero=>
    simp only [H6,List.getElem?_cons_zero,HC] at h;subst h;cases c
    ·refine ⟨y,VU,λe w v h=>jS (by simpa using h),λh=>?_⟩
     unfold qX;split
     ·split
      ·exact .x _
      ·exact .top
     ·exact .x _
     ·exact h
    ·refine ⟨x,VU,λe w v h=>jS (by simpa using h),λh=>?_⟩
     unfold qX;split
     ·split
      ·exact .x _
      ·exact .top
     ·exact .x _
     ·exact h
   |succ j=>
    simp only [H6,List.getElem?_cons_succ] at h;obtain ⟨z,h1,h2,h3⟩:=ih.2 j a h;exact ⟨z,by cases c<;>simpa using h1,h2,h3⟩
section
variable {e:UJ}{w:World}{m:GY}
theorem gZ{el sz n:Nat}{f:Nat->List AV}{s:AV}{v:Value}(h:tK m el sz s=some (n,f))(hm:UT e m w)(r:Rep e w s v):
  (∀i,i<n->(f i).length=sz/\ ∀a∈f i,Idf a)/\(∀b,v.ownBlock=some b-> ∃id,s= .row id/\e.own b=some id)/\
   ∃xs:List Value,w.ownsRow 0 el sz v n xs/\ ∀(i j:Nat) (a:AV) (u:Value),i<n->(f i)[j]? =some a->xs[i*sz+j]? =some u->Rep e w a u:=by
 unfold tK at h;split at h
 ·rename_i id;split at h
  ·rename_i T sz' n' f' hg;split at h
   ·rename_i hb;simp only [H2] at hb;have h1:T=el:=GW hb.1;have h2:sz=sz':=GW hb.2;subst h1;subst h2;simp only [HC,FA] at h;obtain ⟨rfl,rfl⟩:=h;obtain ⟨_,H4,hf,xs,hx,GH⟩:=hm _ (UU hg);cases r with
    |row _ a n c hl hv=>
     dsimp only at H4 hx
     rw [hv] at H4 hx;exact ⟨hf,λb hb=>⟨id,rfl,H4 b hb⟩,xs,hx,GH⟩
   ·cases h
  ·cases h
 ·simp only [HC,FA] at h;obtain ⟨rfl,rfl⟩:=h;cases r.x_inv;exact ⟨λi hi=>VI,λb hb=>by simp [Value.ownBlock] at hb,[],World.ownsRow_nil w 0 el sz,λi j a u hi=>VI⟩
 ·cases h
theorem N6{sz n:Nat}{f:Nat->List AV}{x:AV}{v:Value}(h:Qy6 m sz x=some (n,f))(hm:UT e m w)(r:Rep e w x v):
  (∀i,i<n->(f i).length=sz/\ ∀a∈f i,Idf a)/\((v= .slice none 0 0/\n=0)\/ ∃(ad:Addr) (c:Nat) (us:List Value),v= .slice (some ad) n c/\us.length=n*sz/\(∀j u,us[j]? =some u->w.cell? (ad.add j)=some u)/\
   ∀(i j:Nat) (a:AV) (u:Value),i<n->(f i)[j]? =some a->us[i*sz+j]? =some u->Rep e w a u):=by
 unfold Qy6 at h;split at h
 ·rename_i id;split at h
  ·rename_i T sz' n' f' hg;split at h
   ·rename_i hb;have h2:sz=sz':=GW hb;subst h2;simp only [HC,FA] at h;obtain ⟨rfl,rfl⟩:=h;obtain ⟨_,H4,hf,xs,hx,GH⟩:=hm _ (UU hg);cases r with
    |row _ a n c hl hv=>
     dsimp only at H4 hx
     rw [hv] at hx;refine ⟨hf,?_⟩;rcases hx.2 with ⟨hv0,hn0⟩|⟨g,cap,cur,hv0,_⟩
     ·exact .inl ⟨hv0,hn0⟩
     ·refine .inr ⟨⟨g,0,none⟩,cap,xs,hv0,hx.1,λj u hu=>hx.cells (by rw [hv0];rfl) j u hu,GH⟩
   ·cases h
  ·cases h
 ·rename_i sz' n' f';split at h
  ·rename_i hb;have h2:sz=sz':=GW hb;subst h2;simp only [HC,FA] at h;obtain ⟨rfl,rfl⟩:=h;cases r with
   |lstNil sz f=>exact ⟨λi hi=>VI,.inl ⟨rfl,rfl⟩⟩
   |lst sz n f b o cap g h1 h2 hid h3 h4 h5 h6 h7 ad had=>
    refine ⟨λi hi=>⟨h6 i hi,hid i hi⟩,.inr ⟨ad,cap,(List.range (n'*sz)).map (λq=>g (q / sz) (q%sz)),rfl,VU,?_,?_⟩⟩
    ·intro j u hu;simp only [List.getElem?_map,Option.map_eq_some_iff] at hu;obtain ⟨q,hq,rfl⟩:=hu;obtain ⟨hq1,hq2⟩:=FR.1 hq;simp at hq1 hq2;subst hq2;have hsz:0<sz:=by
      rcases Nat.eq_zero_or_pos sz with h0|h0
      ·subst h0;simp at hq1
      ·exact h0
     have hd:j / sz<n':=(Nat.div_lt_iff_lt_mul hsz).2 hq1;have:=h5 (j / sz) (j%sz) hd (Nat.mod_lt _ hsz);rw [had (Nat.lt_of_le_of_lt (Nat.zero_le _) hd),DE,←this]
     congr 2
     have:=Nat.div_add_mod j sz;rw [Nat.mul_comm] at this;omega
    ·intro i j a u hi ha hu;have hj:j<sz:=by rw [←h6 i hi];exact (FR.1 ha).1
     simp only [List.getElem?_map,Option.map_eq_some_iff] at hu;obtain ⟨q,hq,rfl⟩:=hu;obtain ⟨hq1,hq2⟩:=FR.1 hq;simp at hq1 hq2;subst hq2;have e1:(i*sz+j) / sz=i:=by
      rw [Nat.mul_comm,Nat.mul_add_div VI,Nat.div_eq_of_lt hj,Nat.add_zero]
     have e2:(i*sz+j)%sz=j:=by
      rw [Nat.mul_comm,Nat.mul_add_mod,Nat.mod_eq_of_lt hj]
     rw [e1,e2];exact h7 i j a hi ha
  ·cases h
 ·simp only [HC,FA] at h;obtain ⟨rfl,rfl⟩:=h;cases r.x_inv;exact ⟨λi hi=>VI,.inl ⟨rfl,rfl⟩⟩
 ·cases h
end
end
section
variable {P:Program}
theorem aJ{w w':World}{t ty el:TypeId}{ie:TypeInfo}{z v v':Value}{n m c:Nat}{xs news:List Value}{ad:Addr}(ht:P.underlying t=some (.slice el))(hi:P.info? el=some ie)(hz:ie.zero=some z)
  (H4:w.ownsRow 0 el ie.size v n xs)(hl:news.length=m*ie.size)(I2: ∀j u,news[j]? =some u->w.cell? (ad.add j)=some u)(h1: ∀u∈news,u.oneCell'=true)
  (h63:n+m<=maxLen)(RD:(n+m)*ie.bytes<=140737488355328)
  (hr:(Builtin.append_ #[t,t] ty #[v,.slice (some ad) m c]).run P w= .ok v' w')(jW:v'= .slice none 0 0↔v= .slice none 0 0/\m=0):
  v'.ownBlock=v.ownBlock\/v'.ownBlock=some w.heap.size:=by
 have Wk7:n+m<=9223372036854775807:=by simp only [maxLen] at h63;omega
 rcases H4.2 with ⟨rfl,rfl⟩|⟨g,cap,cur,rfl,hbg,hg,hnc,hcm,hcs,jV⟩
 ·by_cases hm:m=0
  ·rw [jW.2 ⟨rfl,hm⟩];exact .inl rfl
  ·have h2:=run_append_nil (P:=P) w t ty el ie z ht hi hz ad m c news hl I2 VI VI (by have hb:=RD;simp only [Nat.zero_add] at hb;omega)
   rw [h2] at hr;injection hr with hr _
   rw [←hr];exact .inr rfl
 ·by_cases EX:n+m<=cap
  ·have h2:=run_append_room (P:=P) w t ty el ie ht hi g n cap cur hg ad m c news hl I2 h1 EX (by rw [hl,hcs,←Nat.add_mul];exact BC _ EX)
   rw [h2] at hr;injection hr with hr _
   rw [←hr];exact .inl rfl
  ·have h2:=run_append_grow (P:=P) w t ty el ie z ht hi hz ⟨g,0,none⟩ n cap xs H4.1 (H4.cells (g:=g) rfl) ad m c news hl I2 VI VI (growslice_fits VI RD);rw [h2] at hr;injection hr with hr _
   rw [←hr];exact .inr rfl
def UJ.app(e:UJ)(id:Nat)(v:Value):UJ:=
 {ro:=e.ro,own:=λb=>if v.ownBlock=some b then some id else e.own b,live:=λk=>k=id\/e.live k,blk:=e.blk,val:=λk=>if k=id then v else e.val k}
theorem qE{e:UJ}{B:Nat}{w:World}{m m':GY}{id:Nat}{t ty:TypeId}{s x val:AV}{vs vx:Value}{ns:List Prop}(h:FU P id m t s x=some (ns,val,m'))(hn: ∀p∈ns,p)
  (hE:UW e B w)(hB:B<=w.heap.size)(hm:UT e m w)(hid: ¬e.live id)(rs:Rep e w s vs)(rx:Rep e w x vx):
  ∃u w',(Builtin.append_ #[t,t] ty #[vs,vx]).run P w= .ok u w'/\aM e B w id val (λk res=>(∃tl,m'=(id,res)::tl)/\k=id\/GF e w k res/\ ∀q,s= .row q->k≠q/\HR q res=false) u w'/\ ∃r,m'=(id,r)::zM m s:=by
 unfold FU at h;split at h
 ·rename_i el ht;split at h
  ·rename_i ie hi;split at h
   ·rename_i z hz;split at h
    ·rename_i hb;simp only [H2] at hb;obtain ⟨⟨hb1,hb2⟩,hb3⟩:=hb;have hzs:z.cells.size=ie.size:=GW hb1;have hsz:=qN hb2;have hby:=qN hb3;split at h
     ·rename_i n1 f1 n2 f2 hro hso;simp only [HC,FA] at h;obtain ⟨rfl,rfl,rfl⟩:=h;have RD:(n1+n2)*ie.bytes<=140737488355328:=hn _ VU;have iB: ∀i,i<n2-> ∀a∈f2 i,AV.one a=true:=hn _ VU;obtain ⟨hf1,hob,xs,hx,uV⟩:=gZ hro hm rs;obtain ⟨hf2,Zj0⟩:=N6 hso hm rx;have h63:n1+n2<=maxLen:=by
       have:n1+n2<=(n1+n2)*ie.bytes:=Nat.le_mul_of_pos_right _ hby;unfold maxLen;omega
      -- the run
      have key: ∃(u:Value) (w':World) (us:List Value),(Builtin.append_ #[t,t] ty #[vs,vx]).run P w= .ok u w'/\w'.ownsRow 0 el ie.size u (n1+n2) (xs++us)/\w.grownBy w' vs.ownBlock/\
        (u.ownBlock=vs.ownBlock\/u.ownBlock=some w.heap.size)/\us.length=n2*ie.size/\(∀(i j:Nat) (a:AV) (v:Value),i<n2->(f2 i)[j]? =some a->us[i*ie.size+j]? =some v->Rep e w a v):=by
       rcases Zj0 with ⟨rfl,rfl⟩|⟨ad,c,us,rfl,hul,hus,w6⟩
       ·refine ⟨vs,w,[],?_,by simpa using hx,⟨rfl,rfl,rfl,Nat.le_refl _,λ_ _ _=>rfl⟩,.inl rfl,VU,λi j a v hi=>VI⟩
        rcases hx.2 with ⟨rfl,rfl⟩|⟨g,cap,cur,rfl,_,_,hnc,_⟩
        ·simp [Builtin.append_,run_underlying ht,sizeOf,typeInfo,hi,Builtin.lenOf,Builtin.firstCells]
        ·simp [Builtin.append_,run_underlying ht,sizeOf,typeInfo,hi,Builtin.lenOf,Builtin.firstCells,hnc,storeCells]
       ·have h1: ∀u∈us,u.oneCell'=true:=by
         intro u hu;obtain ⟨q,hq⟩:=wM.1 hu;have hq1:q<n2*ie.size:=by rw [←hul];exact (FR.1 hq).1
         have hd:q / ie.size<n2:=(Nat.div_lt_iff_lt_mul hsz).2 hq1;have Zj9:=Nat.mod_lt q hsz;have hlt:q%ie.size<(f2 (q / ie.size)).length:=by rw [(hf2 _ hd).1];exact Zj9
         have he:q / ie.size*ie.size+q%ie.size=q:=by rw [Nat.mul_comm];exact Nat.div_add_mod q ie.size
         exact rY (iB _ hd _ (List.getElem_mem hlt)) (w6 (q / ie.size) (q%ie.size) _ u hd (HX hlt) (by rw [he];exact hq))
        obtain ⟨v',w',hr,ho,hg,jW⟩:=run_append_own (P:=P) w 0 t ty el ie z ie.size ie.bytes ht hi hz rfl rfl hzs VI vs n1 xs hx ad n2 c us hul hus h1 h63 RD (Nat.zero_le _);exact ⟨v',w',us,hr,ho,hg,aJ ht hi hz hx hul hus h1 h63 RD hr jW,hul,w6⟩
      obtain ⟨u,w',us,hr,ho,hg,dI,hul,w6⟩:=key;have hoB: ∀b,vs.ownBlock=some b->B<=b/\e.ro b=False/\ ∃k,s= .row k/\e.own b=some k:=by
       intro b hb;obtain ⟨k,hk,hk'⟩:=hob b hb;refine ⟨(hE.owned b k hk').1,?_,k,hk,hk'⟩;apply propext;exact ⟨(λhr=>by rw [(hE.apart b hr).1] at hk';cases hk'),False.elim⟩
      have EY: ∀b,e.ro b->some b≠vs.ownBlock:=by
       intro b hrb he;have:=(hoB b he.symm).2.1;rw [this] at hrb;exact hrb
      have Zj4: ∀b,e.ro b->u.ownBlock≠some b:=by
       intro b hrb he;rcases dI with h|h
       ·exact EY b hrb (by rw [←he,h])
       ·rw [h] at he;have:=(hE.apart b hrb).2;simp at he;omega
      have EO: ∀b,u.ownBlock=some b->b<w'.heap.size:=λb hb=>(ho.lt b hb).2
      have st:Step e (e.app id u) w w':=by
       refine ⟨λb hlt hrb=>⟨hrb,hg.block b hlt (EY b hrb)⟩,λk hk=>?_,hg.size⟩
       have hne:k≠id:=λhe=>hid (he▸hk)
       exact ⟨.inr hk,rfl,by simp [UJ.app,hne]⟩
      refine ⟨u,w',hr,⟨e.app id u,⟨hg.os,hg.tape,hg.output,hg.size,λk hk=>hg.block k VI (λhe=>by have:=(hoB k he.symm).1;omega)⟩,st,⟨?_,?_,hE.glob.step st⟩,?_,?_,?_,λ_ h=>h⟩,_,rfl⟩
      ·intro b hrb;have h1:=hE.apart b hrb;have h2:=hg.size;refine ⟨?_,VI⟩;simp only [UJ.app];rw [if_neg (Zj4 b hrb)];exact h1.1
      ·intro b k hk;simp only [UJ.app] at hk;split at hk
       ·rename_i hub;refine ⟨?_,EO b hub⟩;rcases dI with h|h
        ·exact (hoB b (by rw [←h];exact hub)).1
        ·rw [h] at hub;cases hub;exact hB
       ·have:=hE.owned b k hk;have:=hg.size;exact ⟨(hE.owned b k hk).1,VI⟩
      ·rcases ho.2 with ⟨hv,_⟩|⟨g,cap,cur,hv,_⟩
       ·rw [hv];exact .row id _ _ _ (.inl rfl) (by simp [UJ.app])
       ·rw [hv];exact .row id _ _ _ (.inl rfl) (by simp [UJ.app])
      ·intro k0 res0 hp;rcases hp with ⟨⟨tl,htl⟩,rfl⟩|⟨hH,hpm⟩
       ·have htl':=(List.cons.inj htl).1;cases htl';refine ⟨.inl rfl,?_,?_,xs++us,?_,?_⟩
        ·intro b hb;simp only [UJ.app,if_true] at hb ⊢;rw [if_pos hb]
        ·intro i hi';have hp:=RY (c:=decide (i<n1)) (f1 i) (f2 (i-n1));by_cases hc:i<n1
         ·have e1:decide (i<n1)=true:=by simpa using hc
          rw [e1] at hp;simp only [if_true] at hp;simp only [GG];rw [e1];refine ⟨by rw [hp.1];exact (hf1 i hc).1,λa ha=>?_⟩
          obtain ⟨q,hq⟩:=wM.1 ha;obtain ⟨y,hy,_,hy2⟩:=hp.2 q a hq;exact hy2 ((hf1 i hc).2 y (DY hy))
         ·have e1:decide (i<n1)=false:=by simpa using hc
          rw [e1] at hp;simp only [Bool.false_eq_true,if_false] at hp;simp only [GG];rw [e1];refine ⟨by rw [hp.1];exact (hf2 _ VI).1,λa ha=>?_⟩
          obtain ⟨q,hq⟩:=wM.1 ha;obtain ⟨y,hy,_,hy2⟩:=hp.2 q a hq;exact hy2 ((hf2 _ VI).2 y (DY hy))
        ·simpa [UJ.app] using ho
        ·intro i j a v hi' ha hv;have hp:=RY (c:=decide (i<n1)) (f1 i) (f2 (i-n1));have hxl:xs.length=n1*ie.size:=hx.1;by_cases hc:i<n1
         ·have e1:decide (i<n1)=true:=by simpa using hc
          rw [e1] at hp;simp only [if_true] at hp;simp only [GG] at ha;rw [e1] at ha;obtain ⟨y,hy,hy1,_⟩:=hp.2 j a ha;have hj:j<ie.size:=by rw [←(hf1 i hc).1];exact (FR.1 hy).1
          have hle:i*ie.size+ie.size<=n1*ie.size:=by
           have:=BC ie.size (Nat.succ_le_of_lt hc)
           rwa [Nat.succ_mul] at this
          rw [List.getElem?_append,if_pos VI] at hv;exact (hy1 _ _ _ (uV i j y v hc hy hv)).step st
         ·have e1:decide (i<n1)=false:=by simpa using hc
          rw [e1] at hp;simp only [Bool.false_eq_true,if_false] at hp;simp only [GG] at ha;rw [e1] at ha;obtain ⟨y,hy,hy1,_⟩:=hp.2 j a ha;have hge:n1*ie.size<=i*ie.size:=BC _ VI;rw [List.getElem?_append,if_neg VI] at hv;have e2:i*ie.size+j-xs.length=(i-n1)*ie.size+j:=by rw [hxl,Nat.sub_mul];omega
          rw [e2] at hv;exact (hy1 _ _ _ (w6 (i-n1) j y v VI hy hv)).step st
       ·-- the other rows
        have hne:k0≠id:=by
         intro he;apply hid;rw [←he];exact hH.live
        have RT: ∀b k,e.own b=some k->k0=k->some b≠vs.ownBlock:=by
         intro b k hk hpk he;obtain ⟨_,_,k',hk',hk''⟩:=hoB b he.symm;rw [hk] at hk'';cases hk'';exact (hpm _ hk').1 hpk
        have hown': ∀b,e.own b=some k0->(e.app id u).own b=some k0/\w'.heap[b]? =w.heap[b]? :=by
         intro b hb;have MS:=(hE.owned b _ hb).2;have vI:=RT b _ hb rfl;refine ⟨?_,hg.block b MS vI⟩;simp only [UJ.app];rw [if_neg ?_]
         ·exact hb
         ·intro he;rcases dI with h|h
          ·exact vI (by rw [←he,h])
          ·rw [h] at he;simp at he;omega
        cases res0 with
        |cells T l=>
         obtain ⟨q1,q2,vs',q3,q4⟩:=hH;have hq:=hown' _ q2;exact ⟨.inr q1,hq.1,vs',hq.2.trans q3,q4.step st⟩
        |row T sz n f=>
         obtain ⟨q1,q2,q5,ys,q3,q4⟩:=hH;have ev:(e.app id u).val k0=e.val k0:=by simp only [UJ.app];rw [if_neg hne]
         refine ⟨.inr q1,?_,q5,ys,?_,λi j a v hi ha hv=>(q4 i j a v hi ha hv).step st⟩
         ·rw [ev];exact λb hb=>(hown' b (q2 b hb)).1
         ·rw [ev];refine ⟨q3.1,q3.2.imp (λh=>h) ?_⟩
          rintro ⟨g',cap,cur,hv,hg',hh,rest⟩;exact ⟨g',cap,cur,hv,hg',by rw [(hown' g' (q2 g' (by rw [hv];rfl))).2];exact hh,rest⟩
        |ints T pre n f=>
         obtain ⟨q1,q2,vs',q3,q4⟩:=hH;have hq:=hown' _ q2;exact ⟨.inr q1,hq.1,vs',hq.2.trans q3,q4.step st⟩
        |memo h f=>
         obtain ⟨q1,q2,es,c,q3,q4⟩:=hH;have hq:=hown' _ q2;exact ⟨.inr q1,hq.1,es,c,hq.2.trans q3,q4⟩
        |keep T l=>exact LC st hH
        |aka r T sz n f=>
         obtain ⟨q1,q0,o,hor,q2,q5,ys,q3,q4⟩:=hH;have ev:(e.app id u).val k0=e.val k0:=by simp only [UJ.app];rw [if_neg hne]
         have hoq: ∀q,s= .row q->o≠q:=by
          intro q hs;rcases hor with rfl|rfl
          ·exact (hpm q hs).1
          ·have:=(hpm q hs).2;rintro rfl;simp [HR] at this
         have iA: ∀b,e.own b=some o->(e.app id u).own b=some o/\w'.heap[b]? =w.heap[b]? :=by
          intro b hb;have MS:=(hE.owned b _ hb).2;have vI:some b≠vs.ownBlock:=by
           intro he;obtain ⟨_,_,k',hk',hk''⟩:=hoB b he.symm;rw [hb] at hk'';exact hoq _ hk' (Option.some.inj hk'')
          refine ⟨?_,hg.block b MS vI⟩;simp only [UJ.app];rw [if_neg ?_]
          ·exact hb
          ·intro he;rcases dI with h|h
           ·exact vI (by rw [←he,h])
           ·rw [h] at he;simp at he;omega
         refine ⟨.inr q1,.inr q0,o,hor,?_,q5,ys,?_,λi j a v hi ha hv=>(q4 i j a v hi ha hv).step st⟩
         ·rw [ev];exact λb hb=>(iA b (q2 b hb)).1
         ·rw [ev];refine ⟨q3.1,q3.2.imp (λh=>h) ?_⟩
          rintro ⟨g',cap,cur,hv,hg',hh,rest⟩;exact ⟨g',cap,cur,hv,hg',by rw [(iA g' (q2 g' (by rw [hv];rfl))).2];exact hh,rest⟩
      ·rintro k (rfl|hk)
       ·exact .inr rfl
       ·exact .inl hk
     ·cases h
    ·cases h
   ·cases h
  ·cases h
 ·cases h
theorem MW{w w':World}{t ty el:TypeId}{ie:TypeInfo}{z v v':Value}{n m c:Nat}{xs news:List Value}{ad:Addr}(ht:P.underlying t=some (.slice el))(hi:P.info? el=some ie)(hz:ie.zero=some z)
  (H4:w.ownsRow 0 el ie.size v n xs)(hl:news.length=m*ie.size)(I2: ∀j u,news[j]? =some u->w.cell? (ad.add j)=some u)(h1: ∀u∈news,u.oneCell'=true)
  (h63:n+m<=maxLen)(RD:(n+m)*ie.bytes<=140737488355328)
  (hr:(Builtin.append_ #[t,t] ty #[v,.slice (some ad) m c]).run P w= .ok v' w')(jW:v'= .slice none 0 0↔v= .slice none 0 0/\m=0):
  (v'.ownBlock=none/\v.ownBlock=none)\/(∃g cap,v= .slice (some ⟨g,0,none⟩) n cap/\v'= .slice (some ⟨g,0,none⟩) (n+m) cap)\/(v'.ownBlock=some w.heap.size/\ ∀b,b<w.heap.size->w'.heap[b]? =w.heap[b]?):=by
 have Wk7:n+m<=9223372036854775807:=by simp only [maxLen] at h63;omega
 rcases H4.2 with ⟨rfl,rfl⟩|⟨g,cap,cur,rfl,hbg,hg,hnc,hcm,hcs,jV⟩
 ·by_cases hm:m=0
  ·rw [jW.2 ⟨rfl,hm⟩];exact .inl ⟨rfl,rfl⟩
  ·have h2:=run_append_nil (P:=P) w t ty el ie z ht hi hz ad m c news hl I2 VI VI (by have hb:=RD;simp only [Nat.zero_add] at hb;omega)
   rw [h2] at hr;injection hr with hr hw
   rw [←hr,←hw];exact .inr (.inr ⟨rfl,λk hk=>heap_alloc_old w.drew _ hk⟩)
 ·by_cases EX:n+m<=cap
  ·have h2:=run_append_room (P:=P) w t ty el ie ht hi g n cap cur hg ad m c news hl I2 h1 EX (by rw [hl,hcs,←Nat.add_mul];exact BC _ EX)
   rw [h2] at hr;injection hr with hr _
   exact .inr (.inl ⟨g,cap,rfl,hr.symm⟩)
  ·have h2:=run_append_grow (P:=P) w t ty el ie z ht hi hz ⟨g,0,none⟩ n cap xs H4.1 (H4.cells (g:=g) rfl) ad m c news hl I2 VI VI (growslice_fits VI RD);rw [h2] at hr;injection hr with hr hw
   rw [←hr,←hw];exact .inr (.inr ⟨rfl,λk hk=>heap_alloc_old w.drew _ hk⟩)
def UJ.aka(e:UJ)(id:Nat)(v:Value):UJ:=
 {ro:=e.ro,own:=λb=>match e.own b with|some k=>some k|none=>if v.ownBlock=some b then some id else none,live:=λk=>k=id\/e.live k,blk:=e.blk,val:=λk=>if k=id then v else e.val k}
theorem UJ.aka_own{e:UJ}{id b k:Nat}{v:Value}(h:e.own b=some k):(e.aka id v).own b=some k:=by simp [UJ.aka,h]
section
variable {e:UJ}{B:Nat}{w:World}
theorem rK{m:GY}{id:Nat}{t ty:TypeId}{q:Nat}{x:AV}{res:GM}{vs vx:Value}{ns:List Prop}(h:kR P id m t q x=some (ns,res))(hn: ∀p∈ns,p)
  (hE:UW e B w)(hB:B<=w.heap.size)(hm:UT e m w)(hid: ¬e.live id)(rs:Rep e w (.row q) vs)(rx:Rep e w x vx):
  ∃(T:TypeId) (sz n:Nat) (f:Nat->List AV),res= .aka q T sz n f/\(∀p∈m,(p.1=q->uD T sz p.2=true)/\HR q p.2=false)/\
  ∃u w',(Builtin.append_ #[t,t] ty #[vs,vx]).run P w= .ok u w'/\aM e B w id (.row id) (λk r=>(k=id/\r= .aka q T sz n f)\/GF e w k r/\(k=q->uD T sz r=true)/\HR q r=false) u w':=by
 unfold kR at h;split at h
 ·rename_i ns' va id' T sz n f tl hap;split at h
  ·rename_i HW;simp only [HC,FA] at h;obtain ⟨rfl,rfl⟩:=h;refine ⟨T,sz,n,f,rfl,?_,?_⟩
   ·intro p hp;have:=PV.1 HW p hp;simp only [H2,Bool.or_eq_true,Bool.not_eq_true'] at this;refine ⟨λhq=>?_,this.2⟩
    rcases this.1 with h1|h1
    ·rw [hq,Nat.beq_refl] at h1;cases h1
    ·exact h1
   unfold FU at hap;split at hap
   ·rename_i el ht;split at hap
    ·rename_i ie hi;split at hap
     ·rename_i z hz;split at hap
      ·rename_i hb;simp only [H2] at hb;obtain ⟨⟨hb1,hb2⟩,hb3⟩:=hb;have hzs:z.cells.size=ie.size:=GW hb1;have hsz:=qN hb2;have hby:=qN hb3;split at hap
       ·rename_i n1 f1 n2 f2 hro hso;simp only [HC,FA,List.cons.injEq,GM.row.injEq] at hap;obtain ⟨rfl,rfl,⟨rfl,rfl,rfl,rfl,rfl⟩,rfl⟩:=hap;have RD:(n1+n2)*ie.bytes<=140737488355328:=hn _ VU;have iB: ∀i,i<n2-> ∀a∈f2 i,AV.one a=true:=hn _ VU;obtain ⟨hf1,hob,xs,hx,uV⟩:=gZ hro hm rs;obtain ⟨hf2,Zj0⟩:=N6 hso hm rx;have h63:n1+n2<=maxLen:=by
         have:n1+n2<=(n1+n2)*ie.bytes:=Nat.le_mul_of_pos_right _ hby;unfold maxLen;omega
        have hvq:e.val q=vs:=by
         cases rs with
         |row _ _ _ _ _ hv=>exact hv
        have key: ∃(u:Value) (w':World) (us:List Value),(Builtin.append_ #[t,t] ty #[vs,vx]).run P w= .ok u w'/\w'.ownsRow 0 el ie.size u (n1+n2) (xs++us)/\w.grownBy w' vs.ownBlock/\
          ((u.ownBlock=none/\vs.ownBlock=none)\/(∃g cap,vs= .slice (some ⟨g,0,none⟩) n1 cap/\u= .slice (some ⟨g,0,none⟩) (n1+n2) cap)\/(u.ownBlock=some w.heap.size/\ ∀b,b<w.heap.size->w'.heap[b]? =w.heap[b]?))/\us.length=n2*ie.size/\(∀(i j:Nat) (a:AV) (v:Value),i<n2->(f2 i)[j]? =some a->us[i*ie.size+j]? =some v->Rep e w a v):=by
         rcases Zj0 with ⟨rfl,rfl⟩|⟨ad,c,us,rfl,hul,hus,w6⟩
         ·refine ⟨vs,w,[],?_,by simpa using hx,⟨rfl,rfl,rfl,Nat.le_refl _,λ_ _ _=>rfl⟩,?_,VU,λi j a v hi=>VI⟩
          ·rcases hx.2 with ⟨rfl,rfl⟩|⟨g,cap,cur,rfl,_,_,hnc,_⟩
           ·simp [Builtin.append_,run_underlying ht,sizeOf,typeInfo,hi,Builtin.lenOf,Builtin.firstCells]
           ·simp [Builtin.append_,run_underlying ht,sizeOf,typeInfo,hi,Builtin.lenOf,Builtin.firstCells,hnc,storeCells]
          ·rcases hx.2 with ⟨rfl,rfl⟩|⟨g,cap,cur,rfl,_⟩
           ·exact .inl ⟨rfl,rfl⟩
           ·exact .inr (.inl ⟨g,cap,rfl,rfl⟩)
         ·have h1: ∀u∈us,u.oneCell'=true:=by
           intro u hu;obtain ⟨q,hq⟩:=wM.1 hu;have hq1:q<n2*ie.size:=by rw [←hul];exact (FR.1 hq).1
           have hd:q / ie.size<n2:=(Nat.div_lt_iff_lt_mul hsz).2 hq1;have Zj9:=Nat.mod_lt q hsz;have hlt:q%ie.size<(f2 (q / ie.size)).length:=by rw [(hf2 _ hd).1];exact Zj9
           have he:q / ie.size*ie.size+q%ie.size=q:=by rw [Nat.mul_comm];exact Nat.div_add_mod q ie.size
           exact rY (iB _ hd _ (List.getElem_mem hlt)) (w6 (q / ie.size) (q%ie.size) _ u hd (HX hlt) (by rw [he];exact hq))
          obtain ⟨v',w',hr,ho,hg,jW⟩:=run_append_own (P:=P) w 0 t ty el ie z ie.size ie.bytes ht hi hz rfl rfl hzs VI vs n1 xs hx ad n2 c us hul hus h1 h63 RD (Nat.zero_le _);exact ⟨v',w',us,hr,ho,hg,MW ht hi hz hx hul hus h1 h63 RD hr jW,hul,w6⟩
        obtain ⟨u,w',us,hr,ho,hg,dI,hul,w6⟩:=key;have eU: ∀b,vs.ownBlock=some b->e.own b=some q:=by
         intro b hb;obtain ⟨k,hk,hk'⟩:=hob b hb;cases hk;exact hk'
        have EY: ∀b,e.ro b->some b≠vs.ownBlock:=by
         intro b hrb he;have h1:=eU b he.symm;rw [(hE.apart b hrb).1] at h1;cases h1
        have Jc6: ∀b k,e.own b=some k->k≠q->some b≠vs.ownBlock:=by
         intro b k hk hne he;have:=eU b he.symm;rw [hk] at this;exact hne (Option.some.inj this)
        have Wk4: ∀b,u.ownBlock=some b->e.own b=some q\/(e.own b=none/\b=w.heap.size):=by
         intro b hb;rcases dI with ⟨h,_⟩|⟨g,cap,hv,hu⟩|h
         ·rw [h] at hb;cases hb
         ·rw [hu] at hb;refine .inl (eU b ?_);rw [hv];exact hb
         ·rw [h.1] at hb;cases hb;refine .inr ⟨?_,rfl⟩;cases ho:e.own w.heap.size with
          |none=>rfl
          |some k=>have:=(hE.owned _ _ ho).2;omega
        have EO: ∀b,u.ownBlock=some b->b<w'.heap.size:=λb hb=>(ho.lt b hb).2
        have st:Step e (e.aka id u) w w':=by
         refine ⟨λb hlt hrb=>⟨hrb,hg.block b hlt (EY b hrb)⟩,λk hk=>?_,hg.size⟩
         have hne:k≠id:=λhe=>hid (he▸hk)
         exact ⟨.inr hk,rfl,by simp [UJ.aka,hne]⟩
        refine ⟨u,w',hr,e.aka id u,⟨hg.os,hg.tape,hg.output,hg.size,λk hk=>hg.block k VI (λhe=>by have:=(hE.owned k _ (eU k he.symm)).1;omega)⟩,st,⟨?_,?_,hE.glob.step st⟩,?_,?_,?_,λ_ h=>h⟩
        ·intro b hrb;have h1:=hE.apart b hrb;have h2:=hg.size;refine ⟨?_,VI⟩;simp only [UJ.aka,h1.1];rw [if_neg];intro hb;rcases Wk4 b hb with h|⟨_,h⟩
         ·rw [h1.1] at h;cases h
         ·have:=h1.2;omega
        ·intro b k hk;simp only [UJ.aka] at hk;split at hk
         ·rename_i k' hk';have:=hE.owned b k' hk';have:=hg.size;exact ⟨(hE.owned b k' hk').1,VI⟩
         ·rename_i hno;split at hk
          ·rename_i hub;refine ⟨?_,EO b hub⟩;rcases Wk4 b hub with h|⟨_,h⟩
           ·rw [hno] at h;cases h
           ·omega
          ·cases hk
        ·rcases ho.2 with ⟨hv,_⟩|⟨g,cap,cur,hv,_⟩
         ·rw [hv];exact .row id _ _ _ (.inl rfl) (by simp [UJ.aka])
         ·rw [hv];exact .row id _ _ _ (.inl rfl) (by simp [UJ.aka])
        ·rintro k0 res0 (⟨rfl,rfl⟩|⟨hH,hrq,hak⟩)
         ·-- the new list
          have hlq:e.live q:=by cases rs with|row _ _ _ _ hl _=>exact hl
          refine ⟨.inl rfl,.inr hlq,?_⟩;have Zk3: ∀i,i<n1+n2->(GG n1 f1 f2 i).length=ie.size/\ ∀a∈GG n1 f1 f2 i,Idf a:=by
           intro i hi';have hp:=RY (c:=decide (i<n1)) (f1 i) (f2 (i-n1));by_cases hc:i<n1
           ·have e1:decide (i<n1)=true:=by simpa using hc
            rw [e1] at hp;simp only [if_true] at hp;simp only [GG];rw [e1];refine ⟨by rw [hp.1];exact (hf1 i hc).1,λa ha=>?_⟩
            obtain ⟨q,hq⟩:=wM.1 ha;obtain ⟨y,hy,_,hy2⟩:=hp.2 q a hq;exact hy2 ((hf1 i hc).2 y (DY hy))
           ·have e1:decide (i<n1)=false:=by simpa using hc
            rw [e1] at hp;simp only [Bool.false_eq_true,if_false] at hp;simp only [GG];rw [e1];refine ⟨by rw [hp.1];exact (hf2 _ VI).1,λa ha=>?_⟩
            obtain ⟨q,hq⟩:=wM.1 ha;obtain ⟨y,hy,_,hy2⟩:=hp.2 q a hq;exact hy2 ((hf2 _ VI).2 y (DY hy))
          have Wl2: ∀(i j:Nat) (a:AV) (v:Value),i<n1+n2->(GG n1 f1 f2 i)[j]? =some a->(xs++us)[i*ie.size+j]? =some v->Rep (e.aka k0 u) w' a v:=by
           intro i j a v hi' ha hv;have hp:=RY (c:=decide (i<n1)) (f1 i) (f2 (i-n1));have hxl:xs.length=n1*ie.size:=hx.1;by_cases hc:i<n1
           ·have e1:decide (i<n1)=true:=by simpa using hc
            rw [e1] at hp;simp only [if_true] at hp;simp only [GG] at ha;rw [e1] at ha;obtain ⟨y,hy,hy1,_⟩:=hp.2 j a ha;have hj:j<ie.size:=by rw [←(hf1 i hc).1];exact (FR.1 hy).1
            have hle:i*ie.size+ie.size<=n1*ie.size:=by
             have:=BC ie.size (Nat.succ_le_of_lt hc)
             rwa [Nat.succ_mul] at this
            rw [List.getElem?_append,if_pos VI] at hv;exact (hy1 _ _ _ (uV i j y v hc hy hv)).step st
           ·have e1:decide (i<n1)=false:=by simpa using hc
            rw [e1] at hp;simp only [Bool.false_eq_true,if_false] at hp;simp only [GG] at ha;rw [e1] at ha;obtain ⟨y,hy,hy1,_⟩:=hp.2 j a ha;have hge:n1*ie.size<=i*ie.size:=BC _ VI;rw [List.getElem?_append,if_neg VI] at hv;have e2:i*ie.size+j-xs.length=(i-n1)*ie.size+j:=by rw [hxl,Nat.sub_mul];omega
            rw [e2] at hv;exact (hy1 _ _ _ (w6 (i-n1) j y v VI hy hv)).step st
          have MR:(e.aka k0 u).val k0=u:=by simp [UJ.aka]
          rcases dI with ⟨h1,h2⟩|⟨g,cap,hv,hu⟩|hb
          ·refine ⟨k0,.inl rfl,λb hb=>?_,Zk3,xs++us,by rw [MR];exact ho,Wl2⟩
           rw [MR,h1] at hb;cases hb
          ·refine ⟨q,.inr rfl,λb hb=>?_,Zk3,xs++us,by rw [MR];exact ho,Wl2⟩
           rw [MR,hu] at hb;exact UJ.aka_own (eU b (by rw [hv];exact hb))
          ·refine ⟨k0,.inl rfl,λb hb'=>?_,Zk3,xs++us,by rw [MR];exact ho,Wl2⟩
           rw [MR] at hb';rcases Wk4 b hb' with h|⟨h,h2⟩
           ·exfalso;rw [hb.1] at hb';cases hb';have:=(hE.owned _ _ h).2;omega
           ·simp [UJ.aka,h,hb']
         ·have hne:k0≠id:=λhe=>hid (he▸hH.live)
          have ev:(e.aka id u).val k0=e.val k0:=by simp only [UJ.aka];rw [if_neg hne]
          have hown': ∀b k,e.own b=some k->k≠q->(e.aka id u).own b=some k/\w'.heap[b]? =w.heap[b]? :=λb k hb hkq=>⟨UJ.aka_own hb,hg.block b (hE.owned b _ hb).2 (Jc6 b k hb hkq)⟩
          cases res0 with
          |cells T l=>
           have hkq:k0≠q:=λh=>by have:=hrq h;simp [uD] at this
           obtain ⟨q1,q2,vs',q3,q4⟩:=hH;have hq:=hown' _ _ q2 hkq;exact ⟨.inr q1,hq.1,vs',hq.2.trans q3,q4.step st⟩
          |ints T pre n f=>
           have hkq:k0≠q:=λh=>by have:=hrq h;simp [uD] at this
           obtain ⟨q1,q2,vs',q3,q4⟩:=hH;have hq:=hown' _ _ q2 hkq;exact ⟨.inr q1,hq.1,vs',hq.2.trans q3,q4.step st⟩
          |memo h f=>
           have hkq:k0≠q:=λh=>by have:=hrq h;simp [uD] at this
           obtain ⟨q1,q2,es,c,q3,q4⟩:=hH;have hq:=hown' _ _ q2 hkq;exact ⟨.inr q1,hq.1,es,c,hq.2.trans q3,q4⟩
          |keep T l=>exact LC st hH
          |aka r T sz n f=>
           have hkq:k0≠q:=λh=>by have:=hrq h;simp [uD] at this
           obtain ⟨q1,q0,o,hor,q2,q5,ys,q3,q4⟩:=hH;have hoq:o≠q:=by
            rcases hor with rfl|rfl
            ·exact hkq
            ·rintro rfl;simp [HR] at hak
           refine ⟨.inr q1,.inr q0,o,hor,?_,q5,ys,?_,λi j a v hi ha hv=>(q4 i j a v hi ha hv).step st⟩
           ·rw [ev];exact λb hb=>(hown' b o (q2 b hb) hoq).1
           ·rw [ev];refine ⟨q3.1,q3.2.imp (λh=>h) ?_⟩
            rintro ⟨g',cap,cur,hv,hg',hh,rest⟩;exact ⟨g',cap,cur,hv,hg',by rw [(hown' g' o (q2 g' (by rw [hv];rfl)) hoq).2];exact hh,rest⟩
          |row T' sz' n' f'=>
           obtain ⟨q1,q2,q5,ys,q3,q4⟩:=hH;refine ⟨.inr q1,?_,q5,ys,?_,λi j a v hi ha hv=>(q4 i j a v hi ha hv).step st⟩
           ·rw [ev];exact λb hb=>UJ.aka_own (q2 b hb)
           ·rw [ev];by_cases hkq:k0=q
            ·have hT:=hrq hkq;subst hkq;simp only [uD,H2] at hT;have hT1:T'=el:=GW hT.1;have hT2:sz'=ie.size:=GW hT.2;subst hT1;subst hT2;refine ⟨q3.1,q3.2.imp (λh=>h) ?_⟩
             rintro ⟨g',cap',cur',hv',hg',hh',r1,r2,r3,r4⟩;rw [hvq] at hv';rcases dI with ⟨h1,h2⟩|⟨g,cap,hv,hu⟩|hb
             ·rw [hv'] at h2;cases h2
             ·rw [hv] at hv';injection hv' with e1 e2 e3
              injection e1 with e1
              injection e1 with e1
              subst e1;subst e2;subst e3;rcases ho.2 with ⟨hv2,_⟩|⟨g2,cap2,cur2,hv2,_,hh2,s1,s2,s3,s4⟩
              ·rw [hu] at hv2;cases hv2
              ·rw [hu] at hv2;injection hv2 with e1 e2 e3
               injection e1 with e1
               injection e1 with e1
               subst e1;subst e3;refine ⟨g,cap,cur2,by rw [hvq,hv],hg',hh2,r1,r2,s3,?_⟩
               have hxs:xs=ys:=by
                rcases hx.2 with ⟨hv3,_⟩|⟨g3,cap3,cur3,hv3,_,hh3,_,_,_,t4⟩
                ·rw [hv] at hv3;cases hv3
                ·rw [hv] at hv3;injection hv3 with e1 e2 e3
                 injection e1 with e1
                 injection e1 with e1
                 subst e1;rw [hh'] at hh3;injection hh3 with hh3
                 injection hh3 with hh3
                 rw [←t4,←r4,hh3]
               rw [←hxs];have hxl:xs.length=n1*ie.size:=hx.1;have h5:=congrArg (List.take (n1*ie.size)) s4;rw [List.take_take,Nat.min_eq_left (BC _ (Nat.le_add_right _ _)),←hxl,List.take_left] at h5;rw [←hxl];exact h5
             ·exact ⟨g',cap',cur',by rw [hvq,hv'],hg',(hb.2 _ (P5.1 hh').1).trans hh',r1,r2,r3,r4⟩
            ·refine ⟨q3.1,q3.2.imp (λh=>h) ?_⟩
             rintro ⟨g',cap,cur,hv,hg',hh,rest⟩;exact ⟨g',cap,cur,hv,hg',by rw [(hown' g' k0 (q2 g' (by rw [hv];rfl)) hkq).2];exact hh,rest⟩
        ·rintro k (rfl|hk)
         ·exact .inr rfl
         ·exact .inl hk
       ·cases hap
      ·cases hap
     ·cases hap
    ·cases hap
   ·cases hap
  ·cases h
 ·cases h
theorem E7{m m':GY}{id:Nat}{t ty:TypeId}{s x val:AV}{vs vx:Value}{ns:List Prop}(h:FU P id m t s x=some (ns,val,m'))(hn: ∀p∈ns,p)
  (hE:UW e B w)(hB:B<=w.heap.size)(hm:UT e m w)(hid: ¬e.live id)(rs:Rep e w s vs)(rx:Rep e w x vx):
  ∃u w',(Builtin.append_ #[t,t] ty #[vs,vx]).run P w= .ok u w'/\IW e B w id val m' u w':=by
 obtain ⟨u,w',hr,⟨e',h1,h2,h3,h4,h5,h6,h7⟩,r,hm'⟩:=qE (ty:=ty) h hn hE hB hm hid rs rx;refine ⟨u,w',hr,e',h1,h2,h3,h4,?_,h6,h7⟩;intro p hp;rw [hm'] at hp;rcases GK.1 hp with rfl|hp
 ·exact h5 _ _ (.inl ⟨⟨_,hm'⟩,rfl⟩)
 ·have hpm:p∈m/\ ∀k,s= .row k->p.1≠k/\HR k p.2=false:=by
   cases s with
   |row k=>exact ⟨(L0 hp).1,λk' hk'=>by cases hk';exact (L0 hp).2⟩
   |_=>exact ⟨hp,λk hk=>by cases hk⟩
  exact h5 p.1 p.2 (.inr ⟨hm p hpm.1,hpm.2⟩)
end
end
structure FC (P:Program) (t:TypeId) (h:Value->Prop) (k z:Value):Prop where
 kt: ∃kt et fs,P.underlying t=some (.map kt et)/\P.underlying kt=some (.struct fs)/\
  (∀b w,(Instr.checkKey b 10000 kt k).run P w= .ok () w)/\
  (∀k',h k'-> ∀w,∃r,(Op.equal kt k k').run P w= .ok r w/\(r=true->k'=k))/\(∀w,(zeroValue et).run P w= .ok z w)
 bits:Instr.sameBits 10000 k k=true
theorem IE{fs:Array Field}{k:Value}: ∀(es:List MapEntry) (i:Nat),Instr.findNow (.struct fs) k es i=some none\/Instr.findNow (.struct fs) k es i=none
 |[],_=> .inl rfl
 |e::es,i=>by
  right;unfold Instr.findNow;cases k<;>cases e.key<;>rfl
theorem jF{P:Program}{kt:TypeId}{h:Value->Prop}{k:Value}(heq: ∀k',h k'-> ∀w,∃r,(Op.equal kt k k').run P w= .ok r w/\(r=true->k'=k))(w:World):
  ∀(es:List MapEntry) (i:Nat),(∀x∈es,h x.key)->(Instr.findAsking kt k es i).run P w= .ok none w\/ ∃j x,es[j]? =some x/\x.key=k/\(Instr.findAsking kt k es i).run P w= .ok (some (i+j,x.val)) w
 |[],i,_=> .inl rfl
 |e::es,i,hh=>by
  obtain ⟨r,h1,h2⟩:=heq e.key (hh e GD) w;cases r with
  |true=>exact .inr ⟨0,e,rfl,h2 rfl,by simp [Instr.findAsking,h1]⟩
  |false=>
   rcases jF heq w es (i+1) (λx hx=>hh x (HN _ hx)) with h3|⟨j,x,h3,h4,h5⟩
   ·exact .inl (by simp [Instr.findAsking,h1,h3])
   ·refine .inr ⟨j+1,x,by simpa using h3,h4,?_⟩
    simp only [Instr.findAsking,Sem.run_bind,h1,Result.andThen,Bool.false_eq_true,if_false,h5]
    congr 3
    omega
theorem u9{P:Program}{kt:TypeId}{fs:Array Field}(hu:P.underlying kt=some (.struct fs)){h:Value->Prop}{k:Value}(heq: ∀k',h k'-> ∀w,∃r,(Op.equal kt k k').run P w= .ok r w/\(r=true->k'=k))(w:World)
  (es:List MapEntry)(hh: ∀x∈es,h x.key):(Instr.findKey kt k es).run P w= .ok none w\/ ∃j x,es[j]? =some x/\x.key=k/\(Instr.findKey kt k es).run P w= .ok (some (j,x.val)) w:=by
 unfold Instr.findKey;rcases IE (fs:=fs) (k:=k) es 0 with h1|h1
 ·exact .inl (by simp [run_underlying hu,h1])
 ·rcases jF heq w es 0 hh with h2|⟨j,x,h2,h3,h4⟩
  ·exact .inl (by simp [run_underlying hu,h1,h2])
  ·refine .inr ⟨j,x,h2,h3,?_⟩;simp [run_underlying hu,h1,h4]
def EG(ok:Bool)(v:Value)(b:Bool):Value:=if ok then .tuple #[v,.bool b] else v
section
variable {P:Program}{t:TypeId}{h:Value->Prop}{f:Value->Value}
theorem Qz5{k z:Value}(mk:FC P t h k z){w:World}{b c:Nat}{es:Array MapEntry}(hb:w.heap[b]? =some (.map es c))(hes: ∀x∈es.toList,h x.key/\x.val=f x.key)(ok:Bool):
  ∃v,(Instr.lookup t (.map (some b)) k ok).run P w= .ok v w/\((h k/\v=EG ok (f k) true)\/v=EG ok z false):=by
 obtain ⟨⟨kt,et,fs,h1,h2,h3,h4,h5⟩,_⟩:=mk;rcases u9 h2 h4 w es.toList (λx hx=>(hes x hx).1) with hf|⟨j,x,hx,hk,hf⟩
 ·refine ⟨EG ok z false,?_,.inr rfl⟩;simp [Instr.lookup,run_underlying h1,MapKept.run_getObj_map hb,h3,hf,h5,Result.andThen,EG]
 ·have hm:=hes x (DY hx);refine ⟨EG ok (f k) true,?_,.inl ⟨hk▸hm.1,rfl⟩⟩;have hv:x.val=f k:=by rw [hm.2,hk]
  simp [Instr.lookup,run_underlying h1,MapKept.run_getObj_map hb,h3,hf,hv,Result.andThen,EG]
theorem Xc2{k z v:Value}(mk:FC P t h k z)(hk:h k)(hv:v=f k){w:World}{b c:Nat}{es:Array MapEntry}(hb:w.heap[b]? =some (.map es c))(hes: ∀x∈es.toList,h x.key/\x.val=f x.key):
  ∃es' c',(Instr.mapUpdate t (.map (some b)) k v).run P w= .ok () {w with heap:=w.heap.setIfInBounds b (.map es' c') }/\ ∀x∈es'.toList,h x.key/\x.val=f x.key:=by
 obtain ⟨⟨kt,et,fs,h1,h2,h3,h4,h5⟩,h6⟩:=mk;rcases u9 h2 h4 w es.toList (λx hx=>(hes x hx).1) with hf|⟨j,x,hx,hkx,hf⟩
 ·refine ⟨es.push {key:=k,val:=v,born:=c},c+1,?_,?_⟩
  ·simp [Instr.mapUpdate,run_underlying h1,MapKept.run_getObj_map hb,h3,hf,MapKept.run_setObj_map _ hb,Result.andThen]
  ·intro y hy;rw [Array.toList_push,List.mem_append,qM] at hy;rcases hy with hy|rfl
   ·exact hes y hy
   ·exact ⟨hk,hv⟩
 ·refine ⟨es.modify j λe=>{e with key:=k,val:=v},c,?_,?_⟩
  ·have hj:es[j]? =some x:=by simpa using hx
   simp [Instr.mapUpdate,run_underlying h1,MapKept.run_getObj_map hb,h3,hf,hj,hkx,Instr.keyThatStays,h6,MapKept.run_setObj_map _ hb,Result.andThen]
  ·intro y hy;rw [Array.toList_modify] at hy;obtain ⟨n,hn⟩:=wM.1 hy;rw [List.getElem?_modify] at hn;cases hq:es.toList[n]? with
   |none=>rw [hq] at hn;simp at hn
   |some q=>
    rw [hq] at hn;by_cases hjn:j=n
    ·simp [hjn] at hn;subst hn;exact ⟨hk,hv⟩
    ·simp [hjn] at hn;subst hn;exact hes q (DY hq)
theorem N3{k z v:Value}{e:UJ}{B:Nat}{w:World}{m:GY}{i:Nat}(hg:DA m i=some (.memo h f))(mk:FC P t h k z)(hk:h k)(hv:v=f k)(hE:UW e B w)(hm:UT e m w):
  ∃w',(Instr.mapUpdate t (.map (some (e.blk i))) k v).run P w= .ok () w'/\ ∀(id:Nat) (u:Value),IW e B w id .top ((i,.memo h f)::j6 m i) u w':=by
 obtain ⟨h1,h2,es,c,h3,h4⟩:=hm _ (UU hg);obtain ⟨es',c',hr,hes⟩:=Xc2 mk hk hv h3 h4;refine ⟨_,hr,λid u=>?_⟩
 have hlt:=(P5.1 h3).1;have hsz:({w with heap:=w.heap.setIfInBounds (e.blk i) (.map es' c') }:World).heap.size=w.heap.size:=VU
 have RT: ∀b,b≠e.blk i->({w with heap:=w.heap.setIfInBounds (e.blk i) (.map es' c') }:World).heap[b]? =w.heap[b]? :=λb hb=>by simp [Ne.symm hb]
 have hB:=(hE.owned _ _ h2).1;refine ⟨e,?_,F2 hE h2 hsz RT,RZ hE hsz (F2 hE h2 hsz RT),.top _,?_,λ_ h=> .inl h,λ_ h=>h⟩
 ·exact ⟨rfl,rfl,rfl,VU,λb hb=>RT b (by dsimp only at hB;omega)⟩
 ·intro p hp;rcases GK.1 hp with rfl|hp
  ·exact ⟨h1,h2,es',c',by simp [hlt],hes⟩
  ·exact P1 hE h2 hsz RT (L0 hp).2 (hm p (L0 hp).1)
end
def Qs8(P:Program)(t:TypeId):Option Value:=match P.underlying t with
 |some (.map _ et)=>match P.info? et with
  |some i=>i.zero
  |none=>none
 |_=>none
def oF(ok:Bool)(v:Value)(b:Bool):AV:=match ok with
 |true=> .tup [.x v,.lit b]
 |false=> .x v
theorem EH(e:UJ)(w:World)(ok:Bool)(v:Value)(b:Bool):Rep e w (oF ok v b) (EG ok v b):=by
 cases ok with
 |true=>exact Rep.tupL (U1.cons (.x v) (U1.one (.lit b)))
 |false=>exact .x v
def Zi0:AV->Bool
 | .lit true=>true
 |_=>false
theorem FC.mono{P:Program}{t:TypeId}{h h0:Value->Prop}{k z:Value}(hm: ∀v,h v->h0 v)(mk:FC P t h0 k z):FC P t h k z:=by
 obtain ⟨⟨kt,et,fs,h1,h2,h3,h4,h5⟩,b⟩:=mk;exact ⟨⟨kt,et,fs,h1,h2,h3,λk' hk=>h4 k' (hm k' hk),h5⟩,b⟩
theorem Qx2{P:Program}{t:TypeId}{h:Value->Prop}{f:Value->Value}{k z v:Value}{e:UJ}{B:Nat}{w:World}{m:GY}{i:Nat}(hg:DA m i=some (.memo h f))(hf: ∀u,h u->f u=v)(mk:FC P t (λu=>h u\/u=k) k z)(hE:UW e B w)(hm:UT e m w):
  ∃w',(Instr.mapUpdate t (.map (some (e.blk i))) k v).run P w= .ok () w'/\ ∀(id:Nat) (u:Value),IW e B w id .top ((i,.memo (λu=>h u\/u=k) (λ_=>v))::j6 m i) u w':=by
 have hm2:UT e ((i,.memo (λu=>h u\/u=k) (λ_=>v))::j6 m i) w:=by
  intro p hp;rcases GK.1 hp with rfl|hp
  ·obtain ⟨h1,h2,es,c,h3,h4⟩:=hm _ (UU hg);exact ⟨h1,h2,es,c,h3,λx hx=>⟨.inl (h4 x hx).1,(h4 x hx).2.trans (hf _ (h4 x hx).1)⟩⟩
  ·exact hm p (L0 hp).1
 obtain ⟨w',q1,q2⟩:=N3 (P:=P) (t:=t) (m:=(i,.memo (λu=>h u\/u=k) (λ_=>v))::j6 m i) (i:=i) (h:=λu=>h u\/u=k) (f:=λ_=>v) (k:=k) (z:=z) (v:=v) (by simp [DA]) mk (.inr rfl) rfl hE hm2
 refine ⟨w',q1,λid u=>?_⟩
 obtain ⟨e',g1,g2,g3,g4,g5,g6,g7⟩:=q2 id u;refine ⟨e',g1,g2,g3,g4,λp hp=>?_,g6,g7⟩
 rcases GK.1 hp with rfl|hp
 ·exact g5 _ GD
 ·refine g5 p (HN _ ?_);have hne:=(L0 hp).2;have hd: ∀(l:GY),p∈l->p∈j6 l i:=by
   intro l hl
   induction l with
   |nil=>cases hl
   |cons q t ih=>
    obtain ⟨k',q⟩:=q;unfold j6;rcases GK.1 hl with rfl|hl
    ·split
     ·rename_i hk;rw [Bool.or_eq_true] at hk;rcases hk with hk|hk
      ·exact absurd (GW hk) hne.1
      ·rw [hne.2] at hk;cases hk
     ·exact GD
    ·split
     ·exact ih hl
     ·exact HN _ (ih hl)
  have h1:p∈(i,GM.memo (λu=>h u\/u=k) (λ_=>v))::j6 m i:=HN _ hp
  exact hd _ h1
section
variable {P:Program}
theorem bR{s:ByteArray}{j:Nat}{v:Value}(h:(Lib.strCells s)[j]? =some v):v= .int .u8 (byN s j):=by
 unfold Lib.strCells at h;rw [List.getElem?_map] at h;cases hd:s.data.toList[j]? with
 |none=>rw [hd] at h;cases h
 |some b=>
  rw [hd] at h;simp only [Option.map_some,HC] at h;rw [←h];unfold byN;have hd':s.data[j]? =some b:=by rw [←hd,Array.getElem?_toList]
  have hg:s.data.getD j 0=b:=by rw [LY,hd'];rfl
  rw [hg]
def zB:Value->Bool
 | .int k n=>decide (k= .u8)&&decide (n=0)
 |_=>false
theorem Zs2{z:Value}(h:zB z=true):z= .int .u8 0:=by
 unfold zB at h;split at h
 ·rw [H2,j8,j8] at h;rw [h.1,h.2]
 ·cases h
def kQ(P:Program)(id:Nat)(m:GY)(t u:TypeId)(s x:AV):Option (List Prop×AV×GY):=
 match x with
 | .x (.string str)=>match P.underlying t with
  |some (.slice el)=>match P.underlying u with
   |some .string=>match P.info? el with
    |some ie=>match ie.zero with
     |some z=>match zB z&&Nat.beq ie.size 1&&Nat.beq ie.bytes 1 with
      |true=>match tK m el 1 s with
       |some (n1,f1)=>some ([n1+str.size<=140737488355328],.row id,(id,.row el 1 (n1+str.size) (GG n1 f1 (DK str)))::zM m s)
       |none=>none
      |false=>none
     |none=>none
    |none=>none
   |_=>none
  |_=>none
 |_=>none
theorem MV{w w':World}{t u ty el:TypeId}{ie:TypeInfo}{v v':Value}{n:Nat}{xs:List Value}{s:ByteArray}(ht:P.underlying t=some (.slice el))(hu:P.underlying u=some .string)(hi:P.info? el=some ie)(hz:ie.zero=some (.int .u8 0))
  (hs1:ie.size=1)(hb1:ie.bytes=1)(H4:w.ownsRow 0 el 1 v n xs)(h63:n+s.size<=maxLen)(RD:n+s.size<=140737488355328)
  (hr:(Builtin.append_ #[t,u] ty #[v,.string s]).run P w= .ok v' w')(jW:v'= .slice none 0 0↔v= .slice none 0 0/\s.size=0):
  v'.ownBlock=v.ownBlock\/v'.ownBlock=some w.heap.size:=by
 have Wk7:n+s.size<=9223372036854775807:=by simp only [maxLen] at h63;omega
 rcases H4.2 with ⟨rfl,rfl⟩|⟨g,cap,cur,rfl,hbg,hg,hnc,hcm,hcs,jV⟩
 ·by_cases hm:s.size=0
  ·rw [jW.2 ⟨rfl,hm⟩];exact .inl rfl
  ·have h2:=run_append_nil_string (P:=P) w t u ty el ie (.int .u8 0) ht hu hi hz s VI VI (by rw [hb1];omega)
   rw [h2] at hr;injection hr with hr _
   rw [←hr];exact .inr rfl
 ·by_cases EX:n+s.size<=cap
  ·have h2:=Lib.run_append_room_string (P:=P) w t u ty el ie ht hu hi hs1 g n cap cur hg s EX VI;rw [h2] at hr;injection hr with hr _
   rw [←hr];exact .inl rfl
  ·have h2:=Lib.run_append_grow_string (P:=P) w t u ty el ie (.int .u8 0) ht hu hi hz ⟨g,0,none⟩ n cap xs (by rw [hs1];simpa using H4.1) (H4.cells (g:=g) rfl) s VI VI (by rw [hb1];exact growslice_fits VI VI)
   rw [h2] at hr;injection hr with hr _
   rw [←hr];exact .inr rfl
section
variable {e:UJ}{B:Nat}{w:World}
theorem aK{m:GY}{id:Nat}{t u0 ty el:TypeId}{ie:TypeInfo}{s:AV}{str:ByteArray}{vs:Value}{n1:Nat}{f1:Nat->List AV}{xs:List Value}(ht:P.underlying t=some (.slice el))(hu:P.underlying u0=some .string)(hi:P.info? el=some ie)(hz:ie.zero=some (.int .u8 0))(hs1:ie.size=1)(hy1:ie.bytes=1)
  (hE:UW e B w)(hB:B<=w.heap.size)(hid: ¬e.live id)(RD:n1+str.size<=140737488355328)(h63:n1+str.size<=maxLen)
  (hf1: ∀i,i<n1->(f1 i).length=1/\ ∀a∈f1 i,Idf a)(hob: ∀b,vs.ownBlock=some b-> ∃k,s= .row k/\e.own b=some k)(hx:w.ownsRow 0 el 1 vs n1 xs)
  (uV: ∀(i j:Nat) (a:AV) (u:Value),i<n1->(f1 i)[j]? =some a->xs[i*1+j]? =some u->Rep e w a u):
  ∃u w',(Builtin.append_ #[t,u0] ty #[vs,.string str]).run P w= .ok u w'/\aM e B w id (.row id) (λk res=>(∃tl,(id,GM.row el 1 (n1+str.size) (GG n1 f1 (DK str)))::zM m s=(id,res)::tl)/\k=id\/GF e w k res/\ ∀q,s= .row q->k≠q/\HR q res=false) u w'/\ ∃r,(id,GM.row el 1 (n1+str.size) (GG n1 f1 (DK str)))::zM m s=(id,r)::zM m s:=by
    obtain ⟨u,w',hr,ho,hg,jW⟩:=Lib.run_append_own_string (P:=P) w 0 t u0 ty el ie ht hu hi hz hs1 hy1 vs n1 xs hx str h63 RD (Nat.zero_le _);have dI:=MV ht hu hi hz hs1 hy1 hx h63 RD hr jW;have hf2: ∀i,i<str.size->(DK str i).length=1/\ ∀a∈DK str i,Idf a:=λi _=>⟨rfl,λa ha=>by
     rw [qM.1 ha];exact .x _⟩
    have w6: ∀(i j:Nat) (a:AV) (v:Value),i<str.size->(DK str i)[j]? =some a->(Lib.strCells str)[i*1+j]? =some v->Rep e w a v:=by
     intro i j a v hi' ha hv;cases j with
     |zero=>
      simp only [DK,List.getElem?_cons_zero,HC] at ha;rw [Nat.mul_one,Nat.add_zero] at hv;rw [←ha,bR hv];exact .x _
     |succ j=>simp [DK] at ha
    have hoB: ∀b,vs.ownBlock=some b->B<=b/\e.ro b=False/\ ∃k,s= .row k/\e.own b=some k:=by
     intro b hb;obtain ⟨k,hk,hk'⟩:=hob b hb;refine ⟨(hE.owned b k hk').1,?_,k,hk,hk'⟩;apply propext;exact ⟨(λhr=>by rw [(hE.apart b hr).1] at hk';cases hk'),False.elim⟩
    have EY: ∀b,e.ro b->some b≠vs.ownBlock:=by
     intro b hrb he;have:=(hoB b he.symm).2.1;rw [this] at hrb;exact hrb
    have Zj4: ∀b,e.ro b->u.ownBlock≠some b:=by
     intro b hrb he;rcases dI with h|h
     ·exact EY b hrb (by rw [←he,h])
     ·rw [h] at he;have:=(hE.apart b hrb).2;simp at he;omega
    have EO: ∀b,u.ownBlock=some b->b<w'.heap.size:=λb hb=>(ho.lt b hb).2
    have st:Step e (e.app id u) w w':=by
     refine ⟨λb hlt hrb=>⟨hrb,hg.block b hlt (EY b hrb)⟩,λk hk=>?_,hg.size⟩
     have hne:k≠id:=λhe=>hid (he▸hk)
     exact ⟨.inr hk,rfl,by simp [UJ.app,hne]⟩
    refine ⟨u,w',hr,⟨e.app id u,⟨hg.os,hg.tape,hg.output,hg.size,λk hk=>hg.block k VI (λhe=>by have:=(hoB k he.symm).1;omega)⟩,st,⟨?_,?_,hE.glob.step st⟩,?_,?_,?_,λ_ h=>h⟩,_,rfl⟩
    ·intro b hrb;have h1:=hE.apart b hrb;have h2:=hg.size;refine ⟨?_,VI⟩;simp only [UJ.app];rw [if_neg (Zj4 b hrb)];exact h1.1
    ·intro b k hk;simp only [UJ.app] at hk;split at hk
     ·rename_i hub;refine ⟨?_,EO b hub⟩;rcases dI with h|h
      ·exact (hoB b (by rw [←h];exact hub)).1
      ·rw [h] at hub;cases hub;exact hB
     ·have:=hE.owned b k hk;have:=hg.size;exact ⟨(hE.owned b k hk).1,VI⟩
    ·rcases ho.2 with ⟨hv,_⟩|⟨g,cap,cur,hv,_⟩
     ·rw [hv];exact .row id _ _ _ (.inl rfl) (by simp [UJ.app])
     ·rw [hv];exact .row id _ _ _ (.inl rfl) (by simp [UJ.app])
    ·intro k0 res0 hp;rcases hp with ⟨⟨tl,htl⟩,rfl⟩|⟨hH,hpm⟩
     ·have htl':=(List.cons.inj htl).1;cases htl';refine ⟨.inl rfl,?_,?_,xs++Lib.strCells str,?_,?_⟩
      ·intro b hb;simp only [UJ.app,if_true] at hb ⊢;rw [if_pos hb]
      ·intro i hi';have hp:=RY (c:=decide (i<n1)) (f1 i) (DK str (i-n1));by_cases hc:i<n1
       ·have e1:decide (i<n1)=true:=by simpa using hc
        rw [e1] at hp;simp only [if_true] at hp;simp only [GG];rw [e1];refine ⟨by rw [hp.1];exact (hf1 i hc).1,λa ha=>?_⟩
        obtain ⟨q,hq⟩:=wM.1 ha;obtain ⟨y,hy,_,hy2⟩:=hp.2 q a hq;exact hy2 ((hf1 i hc).2 y (DY hy))
       ·have e1:decide (i<n1)=false:=by simpa using hc
        rw [e1] at hp;simp only [Bool.false_eq_true,if_false] at hp;simp only [GG];rw [e1];refine ⟨by rw [hp.1];exact (hf2 _ VI).1,λa ha=>?_⟩
        obtain ⟨q,hq⟩:=wM.1 ha;obtain ⟨y,hy,_,hy2⟩:=hp.2 q a hq;exact hy2 ((hf2 _ VI).2 y (DY hy))
      ·simpa [UJ.app] using ho
      ·intro i j a v hi' ha hv;have hp:=RY (c:=decide (i<n1)) (f1 i) (DK str (i-n1));have hxl:xs.length=n1*1:=hx.1;by_cases hc:i<n1
       ·have e1:decide (i<n1)=true:=by simpa using hc
        rw [e1] at hp;simp only [if_true] at hp;simp only [GG] at ha;rw [e1] at ha;obtain ⟨y,hy,hy1,_⟩:=hp.2 j a ha;have hj:j<1:=by rw [←(hf1 i hc).1];exact (FR.1 hy).1
        have hle:i*1+1<=n1*1:=by
         have:=BC 1 (Nat.succ_le_of_lt hc)
         rwa [Nat.succ_mul] at this
        rw [List.getElem?_append,if_pos VI] at hv;exact (hy1 _ _ _ (uV i j y v hc hy hv)).step st
       ·have e1:decide (i<n1)=false:=by simpa using hc
        rw [e1] at hp;simp only [Bool.false_eq_true,if_false] at hp;simp only [GG] at ha;rw [e1] at ha;obtain ⟨y,hy,hy1,_⟩:=hp.2 j a ha;have hge:n1*1<=i*1:=BC _ VI;rw [List.getElem?_append,if_neg VI] at hv;have e2:i*1+j-xs.length=(i-n1)*1+j:=by rw [hxl,Nat.sub_mul];omega
        rw [e2] at hv;exact (hy1 _ _ _ (w6 (i-n1) j y v VI hy hv)).step st
     ·-- the other rows
      have hne:k0≠id:=by
       intro he;apply hid;rw [←he];exact hH.live
      have RT: ∀b k,e.own b=some k->k0=k->some b≠vs.ownBlock:=by
       intro b k hk hpk he;obtain ⟨_,_,k',hk',hk''⟩:=hoB b he.symm;rw [hk] at hk'';cases hk'';exact (hpm _ hk').1 hpk
      have hown': ∀b,e.own b=some k0->(e.app id u).own b=some k0/\w'.heap[b]? =w.heap[b]? :=by
       intro b hb;have MS:=(hE.owned b _ hb).2;have vI:=RT b _ hb rfl;refine ⟨?_,hg.block b MS vI⟩;simp only [UJ.app];rw [if_neg ?_]
       ·exact hb
       ·intro he;rcases dI with h|h
        ·exact vI (by rw [←he,h])
        ·rw [h] at he;simp at he;omega
      cases res0 with
      |cells T l=>
       obtain ⟨q1,q2,vs',q3,q4⟩:=hH;have hq:=hown' _ q2;exact ⟨.inr q1,hq.1,vs',hq.2.trans q3,q4.step st⟩
      |row T sz n f=>
       obtain ⟨q1,q2,q5,ys,q3,q4⟩:=hH;have ev:(e.app id u).val k0=e.val k0:=by simp only [UJ.app];rw [if_neg hne]
       refine ⟨.inr q1,?_,q5,ys,?_,λi j a v hi ha hv=>(q4 i j a v hi ha hv).step st⟩
       ·rw [ev];exact λb hb=>(hown' b (q2 b hb)).1
       ·rw [ev];refine ⟨q3.1,q3.2.imp (λh=>h) ?_⟩
        rintro ⟨g',cap,cur,hv,hg',hh,rest⟩;exact ⟨g',cap,cur,hv,hg',by rw [(hown' g' (q2 g' (by rw [hv];rfl))).2];exact hh,rest⟩
      |ints T pre n f=>
       obtain ⟨q1,q2,vs',q3,q4⟩:=hH;have hq:=hown' _ q2;exact ⟨.inr q1,hq.1,vs',hq.2.trans q3,q4.step st⟩
      |memo h f=>
       obtain ⟨q1,q2,es,c,q3,q4⟩:=hH;have hq:=hown' _ q2;exact ⟨.inr q1,hq.1,es,c,hq.2.trans q3,q4⟩
      |keep T l=>exact LC st hH
      |aka r T sz n f=>
       obtain ⟨q1,q0,o,hor,q2,q5,ys,q3,q4⟩:=hH;have ev:(e.app id u).val k0=e.val k0:=by simp only [UJ.app];rw [if_neg hne]
       have hoq: ∀q,s= .row q->o≠q:=by
        intro q hs;rcases hor with rfl|rfl
        ·exact (hpm q hs).1
        ·have:=(hpm q hs).2;rintro rfl;simp [HR] at this
       have iA: ∀b,e.own b=some o->(e.app id u).own b=some o/\w'.heap[b]? =w.heap[b]? :=by
        intro b hb;have MS:=(hE.owned b _ hb).2;have vI:some b≠vs.ownBlock:=by
         intro he;obtain ⟨_,_,k',hk',hk''⟩:=hoB b he.symm;rw [hb] at hk'';exact hoq _ hk' (Option.some.inj hk'')
        refine ⟨?_,hg.block b MS vI⟩;simp only [UJ.app];rw [if_neg ?_]
        ·exact hb
        ·intro he;rcases dI with h|h
         ·exact vI (by rw [←he,h])
         ·rw [h] at he;simp at he;omega
       refine ⟨.inr q1,.inr q0,o,hor,?_,q5,ys,?_,λi j a v hi ha hv=>(q4 i j a v hi ha hv).step st⟩
       ·rw [ev];exact λb hb=>(iA b (q2 b hb)).1
       ·rw [ev];refine ⟨q3.1,q3.2.imp (λh=>h) ?_⟩
        rintro ⟨g',cap,cur,hv,hg',hh,rest⟩;exact ⟨g',cap,cur,hv,hg',by rw [(iA g' (q2 g' (by rw [hv];rfl))).2];exact hh,rest⟩
    ·rintro k (rfl|hk)
     ·exact .inr rfl
     ·exact .inl hk
theorem rJ{m m':GY}{id:Nat}{t u0 ty:TypeId}{s x val:AV}{vs vx:Value}{ns:List Prop}(h:kQ P id m t u0 s x=some (ns,val,m'))(hn: ∀p∈ns,p)
  (hE:UW e B w)(hB:B<=w.heap.size)(hm:UT e m w)(hid: ¬e.live id)(rs:Rep e w s vs)(rx:Rep e w x vx):
  ∃u w',(Builtin.append_ #[t,u0] ty #[vs,vx]).run P w= .ok u w'/\aM e B w id val (λk res=>(∃tl,m'=(id,res)::tl)/\k=id\/GF e w k res/\ ∀q,s= .row q->k≠q/\HR q res=false) u w'/\ ∃r,m'=(id,r)::zM m s:=by
 unfold kQ at h;split at h
 ·rename_i str;cases rx.x_inv;split at h
  ·rename_i el ht;split at h
   ·rename_i hu;split at h
    ·rename_i ie hi;split at h
     ·rename_i z hz;split at h
      ·rename_i hb;simp only [H2] at hb;obtain ⟨⟨hb1,hb2⟩,hb3⟩:=hb;have hzz:=Zs2 hb1;subst hzz;have hs1:ie.size=1:=GW hb2;have hy1:ie.bytes=1:=GW hb3;split at h
       ·rename_i n1 f1 hro;simp only [HC,FA] at h;obtain ⟨rfl,rfl,rfl⟩:=h;have RD:n1+str.size<=140737488355328:=hn _ VU;obtain ⟨hf1,hob,xs,hx,uV⟩:=gZ hro hm rs;have h63:n1+str.size<=maxLen:=by unfold maxLen;omega
        exact aK ht hu hi hz hs1 hy1 hE hB hid RD h63 hf1 hob hx uV
       ·cases h
      ·cases h
     ·cases h
    ·cases h
   ·cases h
  ·cases h
 ·cases h
theorem rI{m m':GY}{id:Nat}{t u0 ty:TypeId}{s x val:AV}{vs vx:Value}{ns:List Prop}(h:kQ P id m t u0 s x=some (ns,val,m'))(hn: ∀p∈ns,p)
  (hE:UW e B w)(hB:B<=w.heap.size)(hm:UT e m w)(hid: ¬e.live id)(rs:Rep e w s vs)(rx:Rep e w x vx):
  ∃u w',(Builtin.append_ #[t,u0] ty #[vs,vx]).run P w= .ok u w'/\IW e B w id val m' u w':=by
 obtain ⟨u,w',hr,⟨e',h1,h2,h3,h4,h5,h6,h7⟩,r,hm'⟩:=rJ (ty:=ty) h hn hE hB hm hid rs rx;refine ⟨u,w',hr,e',h1,h2,h3,h4,?_,h6,h7⟩;intro p hp;rw [hm'] at hp;rcases GK.1 hp with rfl|hp
 ·exact h5 _ _ (.inl ⟨⟨_,hm'⟩,rfl⟩)
 ·have hpm:p∈m/\ ∀k,s= .row k->p.1≠k/\HR k p.2=false:=by
   cases s with
   |row k=>exact ⟨(L0 hp).1,λk' hk'=>by cases hk';exact (L0 hp).2⟩
   |_=>exact ⟨hp,λk hk=>by cases hk⟩
  exact h5 p.1 p.2 (.inr ⟨hm p hpm.1,hpm.2⟩)
end
end
end Go.Sx
