/- Contracts, put together. Conditions: those of each. -/
import Derived.Test.YtakpdkmhclhlnaaGreatDoorMa
set_option linter.unusedSimpArgs false
set_option linter.unusedVariables false
namespace Go.Sx
open Go Go.RowKit
inductive VM (α:Type) where
 |fail
 |leaf (a:α)
 |branch (b:Bool) (t f:VM α)
 |need (ps:List Prop) (t:VM α)
 |may (p:Prop) (t f:VM α)
def UB:List Prop->Prop
 |[]=>True
 |[p]=>p
 |p::ps=>p/\UB ps
theorem GE: ∀{ps:List Prop},UB ps-> ∀p∈ps,p
 |[],_,_,h=>by cases h
 |[q],h,p,hp=>by rcases PM.1 hp with rfl;exact h
 |q::r::ps,h,p,hp=>by
  rcases GM.1 hp with rfl|hp;exact h.1;exact GE h.2 p hp
namespace VM
variable {α β:Type}
def bind:VM α->(α->VM β)->VM β
 | .fail,_=> .fail
 | .leaf a,g=>g a
 | .branch b t f,g=> .branch b (t.bind g) (f.bind g)
 | .need ps t,g=> .need ps (t.bind g)
 | .may p t f,g=> .may p (t.bind g) (f.bind g)
def sat(Q:α->Prop):VM α->Prop
 | .fail=>False
 | .leaf a=>Q a
 | .branch b t f=>(b=true->t.sat Q)/\(b=false->f.sat Q)
 | .need ps t=>UB ps/\t.sat Q
 | .may p t f=>(p->t.sat Q)/\f.sat Q
theorem sat_mono{Q Q':α->Prop}(h: ∀a,Q a->Q' a): ∀{t:VM α},t.sat Q->t.sat Q'
 | .fail,k=>k
 | .leaf _,k=>h _ k
 | .branch _ _ _,k=>⟨λe=>sat_mono h (k.1 e),λe=>sat_mono h (k.2 e)⟩
 | .need _ _,k=>⟨k.1,sat_mono h k.2⟩
 | .may _ _ _,k=>⟨λe=>sat_mono h (k.1 e),sat_mono h k.2⟩
theorem sat_bind{Q:β->Prop}{g:α->VM β}: ∀{t:VM α},(t.bind g).sat Q->t.sat (λa=>(g a).sat Q)
 | .fail,k=>k
 | .leaf _,k=>k
 | .branch _ _ _,k=>⟨λe=>sat_bind (k.1 e),λe=>sat_bind (k.2 e)⟩
 | .need _ _,k=>⟨k.1,sat_bind k.2⟩
 | .may _ _ _,k=>⟨λe=>sat_bind (k.1 e),sat_bind k.2⟩
def needT(ps:List Prop)(t:VM α):VM α:=match ps with
 |[]=>t
 |p::r=> .need (p::r) t
theorem sat_needT{Q:α->Prop}{ps:List Prop}{t:VM α}(h:(needT ps t).sat Q):UB ps/\t.sat Q:=by
 cases ps with
 |nil=>exact ⟨trivial,h⟩
 |cons p r=>exact h
end VM
structure St where
 σ:List AV
 m:H2
 nx:Nat
 gh:Option Nat:=none
 sv:List (List AV):=[]
def aW:Value->AV
 | .bool b=> .lit b
 |v=> .x v
def rho(σ:List AV):Operand->AV
 | .tmp t=>σ.getD t .top
 | .const v=>aW v
 | .global g=> .x (.pointer (some ⟨g,0,none⟩))
 | .func f=> .fn (.func f) [] []
theorem rL{e:UL}{w:World}(v:Value):Rep e w (aW v) v:=by
 unfold aW;split;exact .lit _;exact .x _
theorem FL{e:UL}{w:World}{σ:List AV}{a:Act}(h:U3 e w σ a.tmps.toList)(x:Operand):Rep e w (rho σ x) (a.eval x):=by
 cases x with
 |tmp t=>
  simp only [rho,Act.eval];by_cases ht:t<σ.length;obtain ⟨v,hv,r⟩:=h.get (List.getElem?_eq_getElem ht);have hv':a.tmps[t]? =some v:=by simpa using hv
  simpa [List.getD,List.getElem?_eq_getElem ht,Array.getD_eq_getD_getElem?,hv'] using r;have hno:σ[t]? =none:=Br (Nat.le_of_not_lt ht);rw [List.getD,hno];exact .top _
 |const v=>exact rL v
 |global g=>exact .x _
 |func f=>exact .fn (.func f) [] [] [] [] rfl (λi a v h=>by simp at h) rfl (λi a v h=>by simp at h)
structure Cx where
 M:Nat->Prop
 Φ:Option Nat->(Nat->Prop)->World->Prop
 K:Nat->Obj->Prop
 saved:List (List Value)
 sz:Nat:=0
def SL(M:Nat->Prop)(e:UL)(w:World)(ds:List Deferred):Prop:=(∀d∈ds,∃D,d={target:= .collected D,args:=#[] }/\e.ro D/\D<w.heap.size/\w.heap[D]? =some (.deferred (some []))/\M D)/\ds.Nodup
def L9(e:UL)(w:World)(l:List (List AV))(vs:List (List Value)):Prop:=l.length=vs.length/\ ∀(i:Nat) (a:List AV) (v:List Value),l[i]? =some a->vs[i]? =some v->U3 e w a v
theorem L9.step{e e':UL}{w w':World}(s:Step e e' w w'){l:List (List AV)}{vs:List (List Value)}(h:L9 e w l vs):L9 e' w' l vs:=⟨h.1,λi a v ha hv=>(h.2 i a v ha hv).step s⟩
theorem L9.cons{e:UL}{w:World}{a:List AV}{v:List Value}{l:List (List AV)}{vs:List (List Value)}(h:U3 e w a v)(t:L9 e w l vs):L9 e w (a::l) (v::vs):=by
 refine ⟨by simp [t.1],λi b u hb hu=>?_⟩
 cases i with
 |zero=>simp at hb hu;subst hb;subst hu;exact h
 |succ i=>simp at hb hu;exact t.2 i b u hb hu
theorem L9.cons_inv{e:UL}{w:World}{l:List (List AV)}{v:List Value}{vs:List (List Value)}(h:L9 e w l (v::vs)): ∃a l',l=a::l'/\U3 e w a v/\L9 e w l' vs:=by
 cases l with
 |nil=>have:=h.1;simp at this
 |cons a l'=>exact ⟨a,l',rfl,h.2 0 a v (by simp) (by simp),⟨by have:=h.1;simpa using this,λi b u hb hu=>h.2 (i+1) b u (by simpa using hb) (by simpa using hu)⟩⟩
theorem L9.map{e e':UL}{w w':World}{l:List (List AV)}{vs:List (List Value)}(g:AV->AV)(hg: ∀a v,Rep e w a v->Rep e' w' (g a) v)(h:L9 e w l vs):L9 e' w' (l.map (·.map g)) vs:=by
 refine ⟨by simp [h.1],λi a v ha hv=>?_⟩
 rw [Bn,Ay] at ha;obtain ⟨a',ha',rfl⟩:=ha;obtain ⟨h1,h2⟩:=h.2 i a' v ha' hv;refine ⟨by simp [h1],λj b u hb hu=>?_⟩
 rw [Bn,Ay] at hb;obtain ⟨b',hb',rfl⟩:=hb;exact hg _ _ (h2 j b' u hb' hu)
structure Xt (c:Cx) (e:UL) (sv:List (List AV)) (ds:List Deferred) (w:World):Prop where
 defers:SL c.M e w ds
 kept: ∀b o,c.K b o->e.ro b/\b<w.heap.size/\w.heap[b]? =some o
 saved:L9 e w sv c.saved
 size:c.sz<=w.heap.size
theorem SL.step{M:Nat->Prop}{e e':UL}{w w':World}(s:Step e e' w w'){ds:List Deferred}(h:SL M e w ds):SL M e' w' ds:=by
 refine ⟨λd hd=>?_,h.2⟩;obtain ⟨D,h1,h2,h3,h4,h5⟩:=h.1 d hd;obtain ⟨k1,k2⟩:=s.ro D h3 h2;exact ⟨D,h1,k1,Nat.lt_of_lt_of_le h3 s.size,k2.trans h4,h5⟩
theorem Xt.step{c:Cx}{e e':UL}{sv:List (List AV)}{ds:List Deferred}{w w':World}(h:Xt c e sv ds w)(s:Step e e' w w'):Xt c e' sv ds w':=by
 refine ⟨h.defers.step s,λb o hb=>?_,h.saved.step s,Ar h.size s.size⟩;obtain ⟨h1,h2,h3⟩:=h.kept b o hb;obtain ⟨k1,k2⟩:=s.ro b h2 h1;exact ⟨k1,Nat.lt_of_lt_of_le h2 s.size,k2.trans h3⟩
structure F7 (c:Cx) (w0:World) (T:Nat->Prop) (e:UL) (s:St) (a:Act) (w:World):Prop where
 env:UY e w0.heap.size w
 below:Below w0.heap.size w0 w
 mem:UV e s.m w
 live: ∀k,e.live k->k<s.nx
 foe: ∀b,T b->b<w0.heap.size/\ ¬e.ro b
 xt:Xt c e s.sv a.defers w
 slots:U3 e w s.σ a.tmps.toList
def Rel(c:Cx)(s:St)(a:Act)(w:World):Prop:= ∃w0 T e,c.Φ s.gh T w0/\F7 c w0 T e s a w
def wY(σ:List AV)(dst:Option Nat)(v:AV):List AV:=
 match dst with
 |some d=>σ.set d v
 |none=>σ
theorem BY{e:UL}{w:World}{σ:List AV}{a:Act}(h:U3 e w σ a.tmps.toList)(dst:Option Nat){av:AV}{v:Value}(r:Rep e w av v):U3 e w (wY σ dst av) (a.put dst v).tmps.toList:=by
 cases dst with
 |none=>exact h
 |some d=>simp only [wY,Act.put,Array.toList_setIfInBounds];exact h.set r d
theorem put_defers(a:Act)(dst:Option Nat)(v:Value):(a.put dst v).defers=a.defers:=by cases dst<;>rfl
theorem F7.hB{c:Cx}{w0:World}{T:Nat->Prop}{e:UL}{s:St}{a:Act}{w:World}(h:F7 c w0 T e s a w):w0.heap.size<=w.heap.size:=h.below.size
def fr(ro:Option Nat):Fence:={Fence.wide with round:=ro}
section
variable {ro:Option Nat}{n:Nat}{P:Program}
theorem IV{f:FuncId}{args:Array Value}{w:World}{R:Ending->World->Prop}(h:Calls P f args w R):CallsIn (fr ro) n P f args w R:=callsIn_wide (n:=n).2 h
theorem Qm3{row:String}{args:Array Value}{w:World}{R:Value->World->Prop}(h:Rows P row args w R):RowsIn (fr ro) n P row args w R:=λc cs _=>by
 obtain ⟨v,w',h1,h2⟩:=h c cs;exact ⟨v,w',h1,stepsIn_wide.2 h2⟩
theorem HO{o:Oper}{a:Act}{w:World}{K:Act->World->Prop}{Q:Exit->Act->World->Prop}(hd: ∀c,o.op≠ .defer c)(h:o.wp P a w K Q):o.wpIn (fr ro) n P a w K Q:=by
 refine ⟨λf _=>trivial,?_⟩;rw [Oper.semAt_eq _ _ _ hd];unfold Oper.wp at h;generalize (execOp a.eval o).run P w=r at h ⊢;have Xk9:(fr ro).depth.isSome=true->1<=n:=λh=>by cases h
 unfold Oper.upon at h;split at h;exact h;exact h;exact h;exact ⟨Xk9,IV h⟩;exact ⟨Xk9,Qm3 h⟩;exact h;exact h.elim
end
def mD(P:Program)(id:Nat)(m:H2)(ρ:Operand->AV)(op:Op):Option (List Prop×AV×H2):=
 match op with
 | .store t x y=>match zG P m t (ρ x) (ρ y) with
  |some (ns,m')=>some (ns,.top,m')
  |none=>none
 | .mapUpdate t x k y=>match ρ x,AT (ρ k),AT (ρ y),Qv5 P t with
  | .mp id,some kv,some yv,some z=>match DG m id with
   |some (.memo h f)=>match Zn3 (ρ y) with
    |true=>some ([∀u,h u->f u=yv,FG P t (λu=>h u\/u=kv) kv z],.top,(id,.memo (λu=>h u\/u=kv) (λ_=>yv))::jF m id)
    |false=>some ([FG P t h kv z,h kv,yv=f kv],.top,(id,.memo h f)::jF m id)
   |_=>none
  |_,_,_,_=>none
 | .call c=>match c.callee,c.args.toList,c.argTypes.toList with
  | .builtin .append,[s,x],[t,t']=>match Nat.beq t t' with
   |true=>FY P id m t (ρ s) (ρ x)
   |false=>kZ P id m t t' (ρ s) (ρ x)
  |_,_,_=>none
 |_=>none
def m9(P:Program)(m:H2)(ρ:Operand->AV)(op:Op):Option (List Prop×Prop×AV×AV):=
 match op with
 | .binOp .eql t x (.const (.slice none 0 0)) _=>match ρ x,P.underlying t with
  | .lst _ n _,some (.slice _)=>some ([],n=0,.lit true,.lit false)
  |_,_=>none
 | .binOp .neq t x (.const (.slice none 0 0)) _=>match ρ x,P.underlying t with
  | .lst _ n _,some (.slice _)=>some ([],n=0,.lit false,.lit true)
  |_,_=>none
 | .lookup t x k ok=>match ρ x,AT (ρ k),Qv5 P t with
  | .mp id,some kv,some z=>match DG m id with
   |some (.memo h f)=>some ([FG P t h kv z],h kv,oX ok (f kv) true,oX ok z false)
   |_=>none
  |_,_,_=>none
 |_=>none
abbrev DD:=List AV->Option (VM AV)
abbrev BM:=List AV->Option (List Prop×TypeId×Nat×Nat×(Ci))
abbrev D2:=List AV->H2->Nat->List (List AV)->Option (VM (AV×H2×Nat×List (List AV)))
def Xw3(o:Option Nat)(s:St)(p:AV×H2×Nat×List (List AV)):VM St:=match p.2.2.2 with
 |σ::t=> .leaf {s with σ:=wY σ o p.1,m:=p.2.1,nx:=p.2.2.1,sv:=t}
 |[]=> .fail
structure Ext where
 Y:Option (Nat×Nat×(Nat->List Value)):=none
 R:List (Nat×Spec):=[]
 H:List (Nat×D2):=[]
 C:List (Nat×DD):=[]
 F:List (Nat×BM):=[]
 D:List (Nat×DD):=[]
def Wr7:List (Nat×D2)->Nat->Option D2
 |[],_=>none
 |(k,s)::t,f=>match Nat.beq k f with
  |true=>some s
  |false=>Wr7 t f
theorem Wr6{G:List (Nat×D2)}{f:Nat}{s:D2}(h:Wr7 G f=some s):(f,s)∈G:=by
 induction G with
 |nil=>simp [Wr7] at h
 |cons p t ih=>
  obtain ⟨k,r'⟩:=p;unfold Wr7 at h;split at h;rename_i hk;have:k=f:=Nat.eq_of_beq_eq_true hk;subst this;cases h;exact List.mem_cons_self;exact List.mem_cons_of_mem _ (ih h)
def aJ:List (Nat×DD)->Nat->Option DD
 |[],_=>none
 |(k,s)::t,f=>match Nat.beq k f with
  |true=>some s
  |false=>aJ t f
def Wr9:List (Nat×BM)->Nat->Option BM
 |[],_=>none
 |(k,s)::t,f=>match Nat.beq k f with
  |true=>some s
  |false=>Wr9 t f
theorem Wr8{G:List (Nat×BM)}{f:Nat}{s:BM}(h:Wr9 G f=some s):(f,s)∈G:=by
 induction G with
 |nil=>simp [Wr9] at h
 |cons p t ih=>
  obtain ⟨k,s'⟩:=p;unfold Wr9 at h;split at h;rename_i hk;have:k=f:=Nat.eq_of_beq_eq_true hk;subst this;cases h;exact List.mem_cons_self;exact List.mem_cons_of_mem _ (ih h)
theorem ID{G:List (Nat×DD)}{f:Nat}{s:DD}(h:aJ G f=some s):(f,s)∈G:=by
 induction G with
 |nil=>simp [aJ] at h
 |cons p t ih=>
  obtain ⟨k,r'⟩:=p;unfold aJ at h;split at h;rename_i hk;have:k=f:=Nat.eq_of_beq_eq_true hk;subst this;cases h;exact List.mem_cons_self;exact List.mem_cons_of_mem _ (ih h)
def A3:Nat->AV->Bool
 | 0,a=>a.idf
 |d+1,a=>match a with
  | .agg l=>l.all (A3 d)
  | .tup l=>l.all (A3 d)
  | .fn _ l l'=>l.all (A3 d)&&l'.all (A3 d)
  |a=>a.idf
theorem kB{e:UL}{w:World}: ∀(d:Nat) (a:AV) (v:Value),Rep e w a v->A3 d a=true->Idf a
 | 0,_,_,r,h=>zN r h
 |d+1,a,v,r,h=>by
  have ih:=kB (e:=e) (w:=w) d;have all: ∀{l:List AV} {vs:List Value},U3 e w l vs->l.all (A3 d)=true-> ∀a∈l,Idf a:=by
   intro l vs Z hl a ha;obtain ⟨i,O⟩:=List.mem_iff_getElem?.1 ha;obtain ⟨v,hv,r⟩:=Z.get O;exact ih a v r (List.all_eq_true.1 hl a ha)
  cases r with
  |agg l vs h1 h2=>exact .agg l (all ⟨h1,h2⟩ h)
  |tup l vs h1 h2=>exact .tup l (all ⟨h1,h2⟩ h)
  |fn f l l' vs vs' h1 h2 h3 h4=>
   simp only [A3,Bool.and_eq_true] at h;exact .fn f l l' (all ⟨h1,h2⟩ h.1) (all ⟨h3,h4⟩ h.2)
  |top v=>exact .top
  |lit b=>exact .lit b
  |x v=>exact .x v
  |ro l vs b o h1 h2 h3 h4 h5 h6=>exact .ro l h3
  |lstNil sz f=>exact .lst sz 0 f (λi O=>by omega)
  |lst sz n f b o cap g h1 h2 h3 h4 h5 h6 h7 h8 ad had=>exact .lst sz n f h3
  |roI pre n f off b o Z=>exact zN (Rep.roI pre n f off b o Z) rfl
  |mpr g okf vals b es c h1 h2 h3 h4 h5 h6 h7 h8=>exact .mpr g okf h3
  |any1 v hv=>exact .any1
  |_=>simp [A3,AV.idf] at h
def AS:List AV->Option (List Value)
 |[]=>some []
 |a::t=>match AT a,AS t with
  |some v,some vs=>some (v::vs)
  |_,_=>none
theorem AR{e:UL}{w:World}: ∀{l:List AV} {vs us:List Value},AS l=some vs->U3 e w l us->us=vs
 |[],vs,us,h,r=>by
  simp only [AS,Option.some.injEq] at h;rw [r.nil_inv,←h]
 |a::l,vs,us,h,r=>by
  obtain ⟨u,us',rfl,hu,r'⟩:=r.cons_inv;unfold AS at h;split at h;rename_i v vs' h1 h2;cases h;rw [wU h1 hu,AR h2 r'];cases h
def opX(X:Ext)(o:Oper)(s:St):Option (VM St):=
 match o.op with
 | .call c=>match c.callee with
  | .value f=>match rho s.σ f with
   | .fn (.yield l) [] []=>match X.Y,s.gh,s.sv,AS (c.args.toList.map (rho s.σ)) with
    |some (l',N,vals),some k,[],some vs=>some (.need [l=l',k<N,vs=vals k]
      (.may True (.leaf {σ:=wY (s.σ.map (DA s.m 40)) o.dst (.lit true),m:=[],nx:=0,gh:=some (k+1),sv:=[] })
       (.leaf {σ:=wY (s.σ.map (DA s.m 40)) o.dst (.lit false),m:=[],nx:=0,gh:=none,sv:=[] })))
    |_,_,_,_=>none
   | .fn (.func g) first caps=>match pW X.R g with
    |some sp=>match (first++c.args.toList.map (rho s.σ)++caps).all (A3 6) with
     |true=>match sp (first++c.args.toList.map (rho s.σ)++caps) with
      |some (ns,r)=>some (.needT ns (.leaf {s with σ:=wY s.σ o.dst r,nx:=s.nx+1}))
      |none=>none
     |false=>none
    |none=>match Wr7 X.H g with
     |some h=>match h (first++c.args.toList.map (rho s.σ)++caps) s.m s.nx (s.σ::s.sv) with
      |some t=>some (t.bind (Xw3 o.dst s))
      |none=>none
     |none=>match aJ X.C g with
      |some sp=>match (first++c.args.toList.map (rho s.σ)++caps).all (A3 6) with
       |true=>match sp (first++c.args.toList.map (rho s.σ)++caps) with
        |some t=>some (t.bind λr=> .leaf {s with σ:=wY s.σ o.dst r,nx:=s.nx+1})
        |none=>none
       |false=>none
      |none=>none
   |_=>none
  |_=>none
 |_=>none
section
variable (P:Program)(f:FuncId)(avs:List AV)
def FQ(res:AV):Prop:=
 ∀(e:UL) (w:World) (args:List Value),(∀b,e.ro b->b<w.heap.size)->DH e w->(∀a∈avs,Idf a)->U3 e w avs args->
  Calls P f args.toArray w λen w'=> ∃v,en= .returned v/\Below w.heap.size w w'/\Rep {PE w w' with ro:=(e.more w w').ro} w' res v
def UN(t:VM AV):Prop:=
 ∀Q:AV->Prop,t.sat Q-> ∀(e:UL) (w:World) (args:List Value),(∀b,e.ro b->b<w.heap.size)->DH e w->(∀a∈avs,Idf a)->U3 e w avs args->
  Calls P f args.toArray w λen w'=> ∃v r,en= .returned v/\Q r/\Below w.heap.size w w'/\Rep {PE w w' with ro:=(e.more w w').ro} w' r v
def PJ(t:VM AV):Prop:=
 ∀Q:AV->Prop,t.sat Q-> ∀(e:UL) (w:World) (args:List Value),(∀b,e.ro b->b<w.heap.size)->DH e w->(∀a∈avs,Idf a)->U3 e w avs args->
  Calls P f args.toArray w λen w'=> ∃v r,en= .returned v/\Q r/\Below w.heap.size w w'/\Rep (PE w w') w' r v
def DO(T:TypeId)(sz n:Nat)(g:Ci):Prop:=
 ∀(e:UL) (w:World) (args:List Value),(∀b,e.ro b->b<w.heap.size)->DH e w->(∀a∈avs,Idf a)->U3 e w avs args->
  Calls P f args.toArray w λen w'=> ∃v xs,en= .returned v/\Below w.heap.size w w'/\w'.ownsRow 0 T sz v n xs/\(∀b,v.ownBlock=some b->w.heap.size<=b/\b<w'.heap.size)/\
   (∀i,i<n->(g i).length=sz/\ ∀a∈g i,∃u,a= .x u)/\ ∀(i j:Nat) (a:AV) (u:Value),i<n->(g i)[j]? =some a->xs[i*sz+j]? =some u->a= .x u
end
theorem IU{e:UL}{B:Nat}{w w':World}{m:H2}{id:Nat}{T:TypeId}{sz n:Nat}{g:Ci}{v:Value}{xs:List Value}(hE:UY e B w)(hB:B<=w.heap.size)(hm:UV e m w)(hid: ¬e.live id)
  (hb:Below w.heap.size w w')(ho:w'.ownsRow 0 T sz v n xs)(hn: ∀b,v.ownBlock=some b->w.heap.size<=b/\b<w'.heap.size)(hg: ∀i,i<n->(g i).length=sz/\ ∀a∈g i,∃u,a= .x u)
  (Z: ∀(i j:Nat) (a:AV) (u:Value),i<n->(g i)[j]? =some a->xs[i*sz+j]? =some u->a= .x u):
  LM e B w m id (.row id) (some (.row T sz n g)) v w':=by
 let e':UL:={ro:=λb=>e.ro b\/(w.heap.size<=b/\b<w'.heap.size/\v.ownBlock≠some b),own:=λb=>if v.ownBlock=some b then some id else e.own b,live:=λk=>k=id\/e.live k,blk:=e.blk,val:=λk=>if k=id then v else e.val k}
 have Wp0: ∀b,b<w.heap.size->v.ownBlock≠some b:=λb hb hv=>by have:=(hn b hv).1;omega
 have st:Step e e' w w':=by
  refine ⟨λb hlt Z=>⟨.inl Z,hb.block b hlt⟩,λk hk=>⟨.inr hk,rfl,?_⟩,hb.size⟩;have:k≠id:=λh=>hid (h▸hk);simp [e',this]
 have H9: ∀b k,e.own b=some k->e'.own b=some k:=by
  intro b k hk;have:=(hE.owned b k hk).2;show (if v.ownBlock=some b then some id else e.own b)=some k
  rw [if_neg (Wp0 b this)];exact hk
 have hE':UY e' B w':=by
  refine ⟨?_,λb k hk=>?_,hE.glob.step st⟩;rintro b (h|⟨h1,h2,h3⟩);have h4:=hE.apart b h;have:=hb.size;refine ⟨?_,by omega⟩
  show (if v.ownBlock=some b then some id else e.own b)=none
  rw [if_neg (Wp0 b h4.2)];exact h4.1;refine ⟨?_,h2⟩;show (if v.ownBlock=some b then some id else e.own b)=none
  rw [if_neg h3];cases ho:e.own b with
  |none=>rfl
  |some k=>have:=(hE.owned b k ho).2;omega
  have hk:(if v.ownBlock=some b then some id else e.own b)=some k:=hk
  split at hk;rename_i hv;have:=hn b hv;omega;have:=hE.owned b k hk;have:=hb.size;omega
 refine ⟨e',hb,st,hE',H9,?_,?_,λk hk=>hk.symm,λb h=>h.imp (λh=>h) (λh=>h.1)⟩;rcases ho.2 with ⟨rfl,rfl⟩|⟨gb,cap,cur,rfl,_⟩;exact .row id _ _ _ (.inl rfl) (by simp [e'])
 exact .row id _ _ _ (.inl rfl) (by simp [e'])
 intro p hp;rcases List.mem_cons.1 hp with rfl|hp;refine ⟨.inl rfl,λb hv=>?_,λi O=>⟨(hg i O).1,λa ha=>?_⟩,xs,?_,λi j a u O ha hu=>?_⟩;have hv:v.ownBlock=some b:=by simpa [e'] using hv
 show (if v.ownBlock=some b then some id else e.own b)=some id
 rw [if_pos hv];obtain ⟨u,rfl⟩:=(hg i O).2 a ha;exact .x u;show w'.ownsRow 0 T sz (if id=id then v else e.val id) n xs
 rw [if_pos rfl];exact ho;rw [Z i j a u O ha hu];exact .x u;exact (hm p hp).ext hb st H9
def GB(P:Program)(f:FuncId)(h:D2):Prop:=Enters P f/\ ∀avs m nx sv t,h avs m nx sv=some t-> ∀Q,t.sat Q-> ∀(c:Cx) (w0:World) (T:Nat->Prop) (e:UL) (ds:List Deferred) (args:List Value) (w:World),
 UY e w0.heap.size w->Below w0.heap.size w0 w->UV e m w->(∀k,e.live k->k<nx)->(∀b,T b->b<w0.heap.size/\ ¬e.ro b)->Xt c e sv ds w->U3 e w avs args->
  Calls P f args.toArray w λen w'=> ∃v r m' nx' sv' e',en= .returned v/\Q (r,m',nx',sv')/\UY e' w0.heap.size w'/\Below w0.heap.size w0 w'/\UV e' m' w'/\(∀k,e'.live k->k<nx')/\
   (∀b,T b->b<w0.heap.size/\ ¬e'.ro b)/\Xt c e' sv' ds w'/\Rep e' w' r v
def Zs1(P:Program)(c:Cx)(l N:Nat)(vals:Nat->List Value):Prop:=
 (∀k T w w',c.Φ (some k) T w->Below w.heap.size w w'->c.Φ (some k) T w')/\
 ∀k T w n,c.Φ (some k) T w->k<N->YieldAt (fr none) n P l (vals k).toArray w λen w'=>w.heap.size<=w'.heap.size/\(∀b,b<w.heap.size-> ¬T b->w'.heap[b]? =w.heap[b]?)/\
  ∃T',(∀b,T' b->b<w'.heap.size/\(T b\/w.heap.size<=b))/\((en= .returned (.bool true)/\c.Φ (some (k+1)) T' w')\/(en= .returned (.bool false)/\c.Φ none T' w'))
structure VW (P:Program) (X:Ext) (c:Cx):Prop where
 y: ∀l N vals,X.Y=some (l,N,vals)->Zs1 P c l N vals
 r: ∀p∈X.R,Enters P p.1/\ ∀avs ns res,p.2 avs=some (ns,res)->(∀p∈ns,p)->FQ P p.1 avs res
 h: ∀p∈X.H,GB P p.1 p.2
 c: ∀p∈X.C,Enters P p.1/\ ∀avs t,p.2 avs=some t->UN P p.1 avs t
 f: ∀p∈X.F,Enters P p.1/\ ∀avs ns T sz n g,p.2 avs=some (ns,T,sz,n,g)->(∀q∈ns,q)->DO P p.1 avs T sz n g
 d: ∀p∈X.D,Enters P p.1/\ ∀avs t,p.2 avs=some t->PJ P p.1 avs t
theorem VW.nil(P:Program)(c:Cx):VW P {} c:=⟨(λ_ _ _ h=>by cases h),(λ_ h=>by cases h),(λ_ h=>by cases h),(λ_ h=>by cases h),(λ_ h=>by cases h),(λ_ h=>by cases h)⟩
def Wc2(P:Program)(G:List (Nat×Spec))(X:Ext)(o:Oper)(s:St):VM St:=
 match aop P G s.nx s.m (rho s.σ) o.op with
 |some (ns,val,add)=> .needT ns (.leaf {s with σ:=wY s.σ o.dst val,m:=Jo5 s.m s.nx add,nx:=s.nx+1})
 |none=>match mD P s.nx s.m (rho s.σ) o.op with
  |some (ns,val,m')=> .needT ns (.leaf {s with σ:=wY s.σ o.dst val,m:=m',nx:=s.nx+1})
  |none=>match m9 P s.m (rho s.σ) o.op with
   |some (ns,p,v1,v2)=> .needT ns (.may p (.leaf {s with σ:=wY s.σ o.dst v1,nx:=s.nx+1}) (.leaf {s with σ:=wY s.σ o.dst v2,nx:=s.nx+1}))
   |none=>match opX X o s with
    |some t=>t
    |none=> .fail
section
variable {P:Program}
theorem sT{e:UL}{B:Nat}{w:World}{m m':H2}{id:Nat}{ρ:Operand->AV}{o:Oper}{a:Act}{ns:List Prop}{val:AV}
  (h:mD P id m ρ o.op=some (ns,val,m'))(hn: ∀p∈ns,p)(hE:UY e B w)(hB:B<=w.heap.size)(hm:UV e m w)(hid: ¬e.live id)(Z: ∀x,Rep e w (ρ x) (a.eval x))
  {K:Act->World->Prop}{Q:Exit->Act->World->Prop}(hK: ∀v w',M6 e B w id val m' v w'->K (a.put o.dst v) w'):o.wp P a w K Q:=by
 obtain ⟨dst,op,type,pos,after,guard⟩:=o;cases op<;>try (simp [mD] at h;done)
 case store t x y=>
  simp only [mD] at h;split at h;rename_i ns' m'' hs;cases h;obtain ⟨w',h1,h2⟩:=MR (P:=P) hs hn hE hm (Z x) (Z y);unfold Oper.wp;have DP:(execOp a.eval ⟨dst,.store t x y,type,pos,after,guard⟩).run P w= .ok .skip w':=by simp [execOp,h1]
  rw [DP];exact hK undef w' (h2 id undef);cases h
 case mapUpdate t x k y=>
  simp only [mD] at h;split at h;rename_i i kv yv z hx hkv hyv hz;split at h;rename_i g f hg;have rx:=Z x;rw [hx] at rx;have ek:=wU hkv (Z k);have ey:=wU hyv (Z y);split at h;cases h;cases hxv:a.eval x with
  |map b=>
   rw [hxv] at rx;cases rx with
   |mp _ hl=>
    obtain ⟨w',h1,h2⟩:=Qz9 hg (hn (∀u,g u->f u=yv) (by simp)) (hn (FG P t (λu=>g u\/u=kv) kv z) (by simp)) hE hm
    unfold Oper.wp;have DP:(execOp a.eval ⟨dst,.mapUpdate t x k y,type,pos,after,guard⟩).run P w= .ok .skip w':=by simp [execOp,hxv,ek,ey,h1]
    rw [DP];exact hK undef w' (h2 id undef)
  |_=>rw [hxv] at rx;cases rx
  cases h;cases hxv:a.eval x with
  |map b=>
   rw [hxv] at rx;cases rx with
   |mp _ hl=>
    obtain ⟨w',h1,h2⟩:=NE hg (hn (FG P t g kv z) (by simp)) (hn (g kv) (by simp)) (hn (yv=f kv) (by simp)) hE hm
    unfold Oper.wp;have DP:(execOp a.eval ⟨dst,.mapUpdate t x k y,type,pos,after,guard⟩).run P w= .ok .skip w':=by simp [execOp,hxv,ek,ey,h1]
    rw [DP];exact hK undef w' (h2 id undef)
  |_=>rw [hxv] at rx;cases rx
  cases h;cases h
 case call c=>
  obtain ⟨callee,args,argTypes⟩:=c;simp only [mD] at h;split at h;rename_i s x t t' hca hta;split at h;rename_i ht;have ht':t=t':=Nat.eq_of_beq_eq_true ht;subst ht';obtain ⟨u,w',h1,h2⟩:=EK (P:=P) (ty:=type) h hn hE hB hm hid (Z s) (Z x);have ha:args=#[s,x]:=Array.ext' (by simpa using hca)
  have hat:argTypes=#[t,t]:=Array.ext' (by simpa using hta)
  subst ha;subst hat;refine D4 (v:=u) (w':=w') ?_ (hK u w' h2);simp [execOp,resolve,invoke,builtin,h1];obtain ⟨u,w',h1,h2⟩:=rV (P:=P) (ty:=type) h hn hE hB hm hid (Z s) (Z x);have ha:args=#[s,x]:=Array.ext' (by simpa using hca)
  have hat:argTypes=#[t,t']:=Array.ext' (by simpa using hta)
  subst ha;subst hat;refine D4 (v:=u) (w':=w') ?_ (hK u w' h2);simp [execOp,resolve,invoke,builtin,h1];cases h
theorem NN{t el:TypeId}(hu:P.underlying t=some (.slice el))(op:BinOp)(ox:Operand)(w:World)(v:Value)(b:Bool)(hv:(v= .slice none 0 0/\b=true)\/(∃ad n c,v= .slice (some ad) n c/\b=false)):
  (op= .eql->(do eqGuard op t ox (.const (.slice none 0 0)) v (.slice none 0 0);binOp op t v (.slice none 0 0):Sem Value).run P w= .ok (.bool b) w)/\
  (op= .neq->(do eqGuard op t ox (.const (.slice none 0 0)) v (.slice none 0 0);binOp op t v (.slice none 0 0):Sem Value).run P w= .ok (.bool !b) w):=by
 have hg:op= .eql\/op= .neq->(eqGuard op t ox (.const (.slice none 0 0)) v (.slice none 0 0)).run P w= .ok () w:=by
  rintro (rfl|rfl)<;>rcases hv with ⟨rfl,_⟩|⟨ad,n,c,rfl,_⟩<;>simp [eqGuard]
 have he:(Op.equal t v (.slice none 0 0)).run P w= .ok b w:=by
  unfold Op.equal;rw [show Op.maxDepth=(Op.maxDepth-1)+1 by decide]
  rcases hv with ⟨rfl,rfl⟩|⟨ad,n,c,rfl,rfl⟩<;>simp [Op.equalIn,run_underlying hu]
 constructor;rintro rfl;rw [At,hg (.inl rfl)];rcases hv with ⟨rfl,rfl⟩|⟨ad,n,c,rfl,rfl⟩<;>simp [binOp,he];rintro rfl;rw [At,hg (.inr rfl)];rcases hv with ⟨rfl,rfl⟩|⟨ad,n,c,rfl,rfl⟩<;>simp [binOp,he]
theorem M1{e:UL}{w:World}{m:H2}{ρ:Operand->AV}{o:Oper}{a:Act}{ns:List Prop}{p:Prop}{v1 v2:AV}(h:m9 P m ρ o.op=some (ns,p,v1,v2))(hn: ∀p∈ns,p)(hm:UV e m w)(Z: ∀x,Rep e w (ρ x) (a.eval x))
  {K:Act->World->Prop}{Q:Exit->Act->World->Prop}(hK: ∀v,(p/\Rep e w v1 v)\/Rep e w v2 v->K (a.put o.dst v) w):o.wp P a w K Q:=by
 obtain ⟨dst,op,type,pos,after,guard⟩:=o;simp only at h;unfold m9 at h;split at h;rename_i t x t';split at h;rename_i sz n f el hx hu;cases h;have rx:=Z x;rw [hx] at rx;have hc: ∃b,((a.eval x= .slice none 0 0/\b=true)\/(∃ad n c,a.eval x= .slice (some ad) n c/\b=false))/\((n=0/\Rep e w (.lit true) (.bool b))\/Rep e w (.lit false) (.bool b)):=by
  generalize a.eval x=v at rx;cases rx with
  |lstNil=>exact ⟨true,.inl ⟨rfl,rfl⟩,.inl ⟨rfl,.lit true⟩⟩
  |lst _ _ _ b o cap g=>exact ⟨false,.inr ⟨_,_,_,rfl,rfl⟩,.inr (.lit false)⟩
 obtain ⟨b,h1,h2⟩:=hc;refine D4 (v:= .bool b) (w':=w) ?_ (hK _ h2);have:=(NN hu .eql x w _ b h1).1 rfl;have hs:execOp a.eval ⟨dst,.binOp .eql t x (.const (.slice none 0 0)) t',type,pos,after,guard⟩=(do pure (.value (←(do eqGuard .eql t x (.const (.slice none 0 0)) (a.eval x) (.slice none 0 0);binOp .eql t (a.eval x) (.slice none 0 0):Sem Value)))):=rfl;rw [hs,At,this];simp;cases h;rename_i t x t';split at h;rename_i sz n f el hx hu;cases h;have rx:=Z x;rw [hx] at rx;have hc: ∃b,((a.eval x= .slice none 0 0/\b=true)\/(∃ad n c,a.eval x= .slice (some ad) n c/\b=false))/\((n=0/\Rep e w (.lit false) (.bool !b))\/Rep e w (.lit true) (.bool !b)):=by
  generalize a.eval x=v at rx;cases rx with
  |lstNil=>exact ⟨true,.inl ⟨rfl,rfl⟩,.inl ⟨rfl,.lit false⟩⟩
  |lst _ _ _ b o cap g=>exact ⟨false,.inr ⟨_,_,_,rfl,rfl⟩,.inr (.lit true)⟩
 obtain ⟨b,h1,h2⟩:=hc;refine D4 (v:= .bool !b) (w':=w) ?_ (hK _ h2);have:=(NN hu .neq x w _ b h1).2 rfl;have hs:execOp a.eval ⟨dst,.binOp .neq t x (.const (.slice none 0 0)) t',type,pos,after,guard⟩=(do pure (.value (←(do eqGuard .neq t x (.const (.slice none 0 0)) (a.eval x) (.slice none 0 0);binOp .neq t (a.eval x) (.slice none 0 0):Sem Value)))):=rfl;rw [hs,At,this];simp;cases h;rename_i t x k ok;split at h;rename_i i kv z hx hkv hz;split at h;rename_i g f hg;cases h;have rx:=Z x;rw [hx] at rx;have ek:=wU hkv (Z k);cases hxv:a.eval x with
 |map b=>
  rw [hxv] at rx;cases rx with
  |mp _ hl=>
   obtain ⟨_,_,es,c,h3,h4⟩:=hm _ (UW hg);obtain ⟨v,h5,h6⟩:=Wc1 (hn (FG P t g kv z) (by simp)) h3 h4 ok
   refine D4 (v:=v) (w':=w) ?_ (hK v ?_);simp [execOp,hxv,ek,h5];rcases h6 with ⟨h6,rfl⟩|rfl;exact .inl ⟨h6,EU e w ok _ true⟩;exact .inr (EU e w ok _ false)
 |_=>rw [hxv] at rx;cases rx
 cases h;cases h;cases h
theorem gA{G:List (Nat×Spec)}{id:Nat}{m:H2}{ρ:Operand->AV}{op:Op}{x:Out}(h:aop P G id m ρ op=some x): ∀c,op≠ .defer c:=by
 rintro c rfl;simp [aop] at h
theorem MY{id:Nat}{m:H2}{ρ:Operand->AV}{op:Op}{x:List Prop×AV×H2}(h:mD P id m ρ op=some x): ∀c,op≠ .defer c:=by
 rintro c rfl;simp [mD] at h
theorem MX{m:H2}{ρ:Operand->AV}{op:Op}{x:List Prop×Prop×AV×AV}(h:m9 P m ρ op=some x): ∀c,op≠ .defer c:=by
 rintro c rfl;simp [m9] at h
theorem F7.next{c:Cx}{w0:World}{T:Nat->Prop}{e e':UL}{s:St}{a:Act}{w w':World}(r:F7 c w0 T e s a w)(hb:Below w0.heap.size w w')(st:Step e e' w w')(hE:UY e' w0.heap.size w')
  (hro: ∀b,e'.ro b->e.ro b\/w.heap.size<=b){m':H2}(hm:UV e' m' w'){nx':Nat}(hl: ∀k,e'.live k->k<nx')(dst:Option Nat){av:AV}{v:Value}(hv:Rep e' w' av v):
  F7 c w0 T e' {s with σ:=wY s.σ dst av,m:=m',nx:=nx'} (a.put dst v) w':=by
 refine ⟨hE,r.below.trans hb,hm,hl,λb hT=>⟨(r.foe b hT).1,λh=>?_⟩,by rw [put_defers];exact r.xt.step st,BY (r.slots.step st) dst hv⟩
 rcases hro b h with h|h;exact (r.foe b hT).2 h;have:=(r.foe b hT).1;have:=r.hB;omega
theorem cT{G:List (Nat×Spec)}{X:Ext}{c:Cx}(hG:VK P G)(hX:VW P X c){o:Oper}{s:St}{R:St->Prop}(h:(Wc2 P G X o s).sat R){w0:World}{T:Nat->Prop}{e:UL}{a:Act}{w:World}(hΦ:c.Φ s.gh T w0)(r:F7 c w0 T e s a w)
  {ro:Option Nat}{n:Nat}{K:Act->World->Prop}{Q:Exit->Act->World->Prop}(hK: ∀s' a' w',R s'->Rel c s' a' w'->K a' w'):o.wpIn (fr ro) n P a w K Q:=by
 have hid: ¬e.live s.nx:=λhl=>by have:=r.live _ hl;omega
 have lv: ∀{e':UL},(∀k,e'.live k->e.live k\/k=s.nx)-> ∀k,e'.live k->k<s.nx+1:=by
  intro e' hlv k hk;rcases hlv k hk with hk|rfl;exact Nat.lt_succ_of_lt (r.live k hk);exact Bk _
 unfold Wc2 at h;split at h
 ·rename_i ns val add ha
  replace h:=VM.sat_needT h
  refine HO (gA ha) (S3 hG ha (GE h.1) r.env r.hB r.mem hid (FL r.slots) (λv w' hc=>?_));obtain ⟨e',hb,st,hE',ho,GK,hm',hlv,hro⟩:=hc;exact hK _ _ _ h.2 ⟨w0,T,e',hΦ,r.next (hb.mono r.hB) st hE' hro hm' (lv hlv) o.dst GK⟩
 split at h
 ·rename_i ns val m' ha
  replace h:=VM.sat_needT h
  refine HO (MY ha) (sT ha (GE h.1) r.env r.hB r.mem hid (FL r.slots) (λv w' hc=>?_));obtain ⟨e',hb,st,hE',GK,hm',hlv,hro⟩:=hc;exact hK _ _ _ h.2 ⟨w0,T,e',hΦ,r.next hb st hE' (λb h=> .inl (hro b h)) hm' (lv hlv) o.dst GK⟩
 split at h
 ·rename_i ns p v1 v2 ha
  replace h:=VM.sat_needT h
  obtain ⟨hn,h⟩:=h;refine HO (MX ha) (M1 ha (GE hn) r.mem (FL r.slots) (λv hv=>?_));have keep: ∀{av:AV},Rep e w av v->Rel c {s with σ:=wY s.σ o.dst av,nx:=s.nx+1} (a.put o.dst v) w:=
   λGK=>⟨w0,T,e,hΦ,r.next (Below.refl _ _) (Step.refl e w) r.env (λ_ h=> .inl h) r.mem (λk hk=>Nat.lt_succ_of_lt (r.live k hk)) o.dst GK⟩
  rcases hv with ⟨hp,hv⟩|hv;exact hK _ _ _ (h.1 hp) (keep hv);exact hK _ _ _ h.2 (keep hv)
 split at h;rename_i t ht;obtain ⟨dst,op,type,pos,after,guard⟩:=o;unfold opX at ht;split at ht;rename_i cl hop;simp only at hop;subst hop;obtain ⟨callee,args,argTypes⟩:=cl;have ha:=U3.ops (FL r.slots) args.toList;split at ht;rename_i f gU;simp only at gU;subst gU;have hf:=FL r.slots f;split at ht
 rename_i l hfe;rw [hfe] at hf;obtain ⟨us,us',hv,r1,r2⟩:=hf.fn_inv;cases r1.nil_inv;cases r2.nil_inv;split at ht;rename_i l' N vals k vs hY hgh hsv hvs;cases ht;obtain ⟨hn,h⟩:=h;obtain ⟨rfl,hkN,hvk⟩:l=l'/\k<N/\vs=vals k:=hn;have OI:=AR hvs ha;rw [hgh] at hΦ;obtain ⟨hst,hy⟩:=hX.y l N vals hY;have hΦ':=hst k T w0 w hΦ (r.below);obtain ⟨fn,tmps,assign,body,hyr,zP⟩:=hy k T w (n-1) hΦ' hkN;refine ⟨λf _=>trivial,?_⟩;have hsem:Oper.semAt (fr ro).round a.eval ⟨dst,.call ⟨.value f,args,argTypes⟩,type,pos,after,guard⟩=execOp a.eval ⟨dst,.call ⟨.value f,args,argTypes⟩,type,pos,after,guard⟩:=Oper.semAt_eq _ _ _ (λc h=>by cases h)
 have e1:(args.toList.map a.eval).toArray=args.map a.eval:=Array.ext' (by simp)
 have DP:(execOp a.eval ⟨dst,.call ⟨.value f,args,argTypes⟩,type,pos,after,guard⟩).run P w= .ok (.round l fn tmps assign body) w:=by
  simp only [execOp,resolve,hv,Deferred.ofValue,At,Bv,Au,invoke];rw [←hvk,←OI,e1] at hyr;simpa using hyr
 rw [hsem,DP];refine ⟨(λh=>by cases h),?_⟩
 have hround':RoundIn (fr ro) (n-1) P l fn tmps assign body w _:=zP;refine hround'.mono λen w' hq=>?_;obtain ⟨hsz,xK,T',hT',F3⟩:=hq
 let e2:UL:={ro:=e.view.ro,own:=λ_=>none,live:=λ_=>False,blk:=λ_=>0,val:=λ_=> .nilIface}
 have hlt: ∀b,e2.ro b->b<w.heap.size:=by
  rintro b (h|⟨id,h⟩);exact (r.env.apart b h).2;exact (r.env.owned b id h).2
 have hnT: ∀b,e2.ro b-> ¬T b:=by
  rintro b (h|⟨id,h⟩) hT;exact (r.foe b hT).2 h;have:=(r.env.owned b id h).1;have:=(r.foe b hT).1;omega
 have st2:Step e2 e2 w w':=⟨λb hb Z=>⟨Z,xK b hb (hnT b Z)⟩,λ_ h=>h.elim,hsz⟩;have gJ:U3 e2 w' (s.σ.map (DA s.m 40)) a.tmps.toList:=
  (U3.map (DA s.m 40) (λx v hx=>Rep.idf (e:=e.view) (e':=e2) (λ_ h=>h) (LA r.env r.mem 40 x v hx) (RK r.mem 40 x v hx)) r.slots).step st2
 have hxt0:Xt c e2 [] a.defers w:=⟨⟨λd hd=>by obtain ⟨D,h1,h2,h3,h4,h5⟩:=r.xt.defers.1 d hd;exact ⟨D,h1,.inl h2,h3,h4,h5⟩,r.xt.defers.2⟩,λb o hb=>by obtain ⟨h1,h2,h3⟩:=r.xt.kept b o hb;exact ⟨.inl h1,h2,h3⟩,by
  have:=r.xt.saved.1;rw [hsv] at this;exact ⟨this,λi a v h=>by simp at h⟩,r.xt.size⟩
 have fin: ∀(b:Bool) (g:Option Nat),c.Φ g T' w'->Rel c {σ:=wY (s.σ.map (DA s.m 40)) dst (.lit b),m:=[],nx:=0,gh:=g,sv:=[] } (a.put dst (.bool b)) w':=by
  intro b g hg;refine ⟨w',T',e2,hg,⟨λb hb=>⟨rfl,Nat.lt_of_lt_of_le (hlt b hb) hsz⟩,(λb id h=>by cases h),DH.step (e:=e2) (w:=w) (λb p hp=>⟨.inl (r.env.glob b p hp).1,(r.env.glob b p hp).2⟩) st2⟩,Below.refl _ _,(λp hp=>by cases hp),(λk hk=>hk.elim),λb hb=>⟨(hT' b hb).1,λZ=>?_⟩,by rw [put_defers];exact hxt0.step st2,BY gJ dst (.lit b)⟩
  rcases (hT' b hb).2 with h|h;exact hnT b Z h;have:=hlt b Z;omega
 rcases F3 with ⟨rfl,hg⟩|⟨rfl,hg⟩;exact hK _ _ _ (h.1 trivial) (fin true _ hg);exact hK _ _ _ h.2 (fin false _ hg);cases ht
 rename_i g first caps hfe
 rw [hfe] at hf;obtain ⟨us,us',hv,r1,r2⟩:=hf.fn_inv;have HZ:U3 e w (first++args.toList.map (rho s.σ)++caps) (us++args.toList.map a.eval++us'):=(r1.append ha).append r2
 have DP:Enters P g->(execOp a.eval ⟨dst,.call ⟨.value f,args,argTypes⟩,type,pos,after,guard⟩).run P w= .ok (.enter g (us++args.toList.map a.eval++us').toArray) w:=by
  intro PD;have e1:(us++args.toList.map a.eval++us').toArray=us.toArray++args.map a.eval++us'.toArray:=Array.ext' (by simp)
  simp only [execOp,resolve,hv,Deferred.ofValue,At,Bv,Au,invoke];rw [e1];exact LE PD _ w
 split at ht;rename_i sp hsp;split at ht;rename_i FP;split at ht
 ·rename_i ns res F3;cases ht
  replace h:=VM.sat_needT h
  obtain ⟨PD,hs⟩:=hX.r _ (lE hsp);have hidf': ∀x∈first++args.toList.map (rho s.σ)++caps,Idf x:=by
   intro x hx;obtain ⟨i,O⟩:=List.mem_iff_getElem?.1 hx;obtain ⟨v,_,rv⟩:=HZ.get O;exact kB 6 x v rv (List.all_eq_true.1 FP x hx)
  have FJ:=hs _ _ _ F3 (GE h.1) e w _ (λb hb=>(r.env.apart b hb).2) r.env.glob hidf' HZ;refine HO (λc h=>by cases h) ?_
  unfold Oper.wp;rw [DP PD,Oper.upon_enter];refine FJ.mono λen w' hq=>?_;obtain ⟨v,rfl,hb,GK⟩:=hq;have st:Step e (e.more w w') w w':=⟨λb hlt Z=>⟨.inl Z,hb.block b hlt⟩,λ_ h=>⟨h,rfl,rfl⟩,hb.size⟩;have hE':UY (e.more w w') w0.heap.size w':=by
   refine ⟨?_,λb k hk=>?_,r.env.glob.step st⟩;rintro b (Z|⟨h1,h2⟩);have:=r.env.apart b Z;have:=hb.size;exact ⟨(r.env.apart b Z).1,by omega⟩
   refine ⟨?_,h2⟩;cases ho:(e.more w w').own b with
   |none=>rfl
   |some k=>have:=(r.env.owned b k ho).2;omega
   have:=r.env.owned b k hk;have:=hb.size;exact ⟨(r.env.owned b k hk).1,by omega⟩
  have st2:Step {PE w w' with ro:=(e.more w w').ro} (e.more w w') w' w':=⟨λb _ h=>⟨h,rfl⟩,λ_ h=>False.elim h,Am _⟩
  exact hK _ _ _ h.2 ⟨w0,T,e.more w w',hΦ,r.next (hb.mono r.hB) st hE' (λb h=>h.imp (λh=>h) (λh=>h.1)) (r.mem.ext hb st (λ_ _ h=>h)) (λk hk=>Nat.lt_succ_of_lt (r.live k hk)) dst (GK.step st2)⟩
 cases ht;cases ht;split at ht;rename_i hs hhs;split at ht;rename_i tr htr;cases ht;obtain ⟨PD,I4⟩:=hX.h _ (Wr6 hhs);have FJ:=I4 _ _ _ _ _ htr _ (VM.sat_bind h) {c with saved:=a.tmps.toList::c.saved} w0 T e a.defers _ w r.env r.below r.mem r.live r.foe ⟨r.xt.defers,r.xt.kept,L9.cons r.slots r.xt.saved,r.xt.size⟩ HZ
 refine HO (λc h=>by cases h) ?_
 unfold Oper.wp;rw [DP PD,Oper.upon_enter];refine FJ.mono λen w' hq=>?_;obtain ⟨v,rr,m',nx',sv',e',rfl,hQ,hE',hB',hm',hl',hT',hx',GK⟩:=hq;obtain ⟨a1,l1,he1,hs1,hs2⟩:=hx'.saved.cons_inv;subst he1;unfold Xw3 at hQ;exact hK _ _ _ hQ ⟨w0,T,e',hΦ,hE',hB',hm',hl',hT',by rw [put_defers];exact ⟨hx'.defers,hx'.kept,hs2,hx'.size⟩,BY hs1 dst GK⟩
 cases ht;split at ht;rename_i sp hsp;split at ht;rename_i FP;split at ht
 ·rename_i tr htr;cases ht;obtain ⟨PD,hs⟩:=hX.c _ (ID hsp);have hidf': ∀x∈first++args.toList.map (rho s.σ)++caps,Idf x:=by
   intro x hx;obtain ⟨i,O⟩:=List.mem_iff_getElem?.1 hx;obtain ⟨v,_,rv⟩:=HZ.get O;exact kB 6 x v rv (List.all_eq_true.1 FP x hx)
  have FJ:=hs _ _ htr _ (VM.sat_bind h) e w _ (λb hb=>(r.env.apart b hb).2) r.env.glob hidf' HZ;refine HO (λc h=>by cases h) ?_
  unfold Oper.wp;rw [DP PD,Oper.upon_enter];refine FJ.mono λen w' hq=>?_;obtain ⟨v,rr,rfl,hQ,hb,GK⟩:=hq;have st:Step e (e.more w w') w w':=⟨λb hlt Z=>⟨.inl Z,hb.block b hlt⟩,λ_ h=>⟨h,rfl,rfl⟩,hb.size⟩;have hE':UY (e.more w w') w0.heap.size w':=by
   refine ⟨?_,λb k hk=>?_,r.env.glob.step st⟩;rintro b (Z|⟨h1,h2⟩);have:=r.env.apart b Z;have:=hb.size;exact ⟨(r.env.apart b Z).1,by omega⟩
   refine ⟨?_,h2⟩;cases ho:(e.more w w').own b with
   |none=>rfl
   |some k=>have:=(r.env.owned b k ho).2;omega
   have:=r.env.owned b k hk;have:=hb.size;exact ⟨(r.env.owned b k hk).1,by omega⟩
  have st2:Step {PE w w' with ro:=(e.more w w').ro} (e.more w w') w' w':=⟨λb _ h=>⟨h,rfl⟩,λ_ h=>False.elim h,Am _⟩
  exact hK _ _ _ hQ ⟨w0,T,e.more w w',hΦ,r.next (hb.mono r.hB) st hE' (λb h=>h.imp (λh=>h) (λh=>h.1)) (r.mem.ext hb st (λ_ _ h=>h)) (λk hk=>Nat.lt_succ_of_lt (r.live k hk)) dst (GK.step st2)⟩
 cases ht;cases ht;cases ht;cases ht;cases ht;cases ht;exact h.elim
end
def C4(o:Oper)(s:St):St:={s with σ:=wY s.σ o.dst (.tup []) }
theorem NF(e:UL)(w:World):Rep e w (.tup []) undef:=Rep.tupL (U3.nil e w)
theorem cK{c:Cx}{w0:World}{T:Nat->Prop}{e:UL}{o:Oper}{s:St}{a:Act}{w:World}(r:F7 c w0 T e s a w):F7 c w0 T e (C4 o s) (a.put o.dst undef) w:=
 ⟨r.env,r.below,r.mem,r.live,r.foe,by rw [put_defers];exact r.xt,BY r.slots o.dst (NF _ _)⟩
def Xi5(s:St)(t:Nat)(b:Bool):St:={s with σ:=s.σ.set t (.lit b) }
theorem a7{c:Cx}{w0:World}{T:Nat->Prop}{e:UL}{s:St}{a:Act}{w:World}{t:Nat}{b d:Bool}(r:F7 c w0 T e s a w)(ht:s.σ.getD t .top= .x (.bool b))(hb:b=d):F7 c w0 T e (Xi5 s t d) a w:=by
 refine ⟨r.env,r.below,r.mem,r.live,r.foe,r.xt,?_⟩;have hlt:t<s.σ.length:=by
  rcases An t s.σ.length with h|h;exact h;rw [List.getD,Br h] at ht;cases ht
 obtain ⟨v,hv,rv⟩:=r.slots.get (List.getElem?_eq_getElem hlt);have he:s.σ[t]= .x (.bool b):=by simpa [List.getD,List.getElem?_eq_getElem hlt] using ht
 rw [he] at rv;cases rv.x_inv;have:=r.slots.set (a:= .lit d) (v:= .bool b) (by rw [←hb];exact .lit b) t
 have hset:a.tmps.toList.set t (.bool b)=a.tmps.toList:=by
  apply List.ext_getElem?;intro i;rw [List.getElem?_set];split;rename_i hti;subst hti;split;exact hv.symm;rename_i hnl;rw [Br (by omega)]
  rfl
 rw [hset] at this;exact this
def TB:Op->Option Nat
 | .pick (.tmp t) _ _=>some t
 |_=>none
def settle(s:St)(t:Option Nat)(g:St->VM St):VM St:=
 match t with
 |none=>g s
 |some t=>match s.σ.getD t .top with
  | .x (.bool b)=> .branch b (g (Xi5 s t true)) (g (Xi5 s t false))
  |_=>g s
theorem z8{c:Cx}{w0:World}{T:Nat->Prop}{e:UL}{s:St}{t:Option Nat}{g:St->VM St}{R:St->Prop}(h:(settle s t g).sat R){a:Act}{w:World}(r:F7 c w0 T e s a w): ∃s',F7 c w0 T e s' a w/\(g s').sat R/\s'.gh=s.gh:=by
 unfold settle at h;split at h;exact ⟨s,r,h,rfl⟩;split at h;rename_i b hb;cases b;exact ⟨_,a7 r hb rfl,h.2 rfl,rfl⟩;exact ⟨_,a7 r hb rfl,h.1 rfl,rfl⟩;exact ⟨s,r,h,rfl⟩
def DV(ops:List Oper)(o:Oper):Option Nat:=
 match o.guard with
 |none=>none
 |some (j,_)=>match ops[j]? with
  |some p=>p.dst
  |none=>none
def vX(i sz n:Nat)(f:Ci):Nat->AV->AV
 | 0,a=>match a with
  | .lit b=> .lit b
  | .x v=> .x v
  | .ro l=> .ro l
  | .lst a b c=> .lst a b c
  | .roI a b c d=> .roI a b c d
  |_=> .top
 |d+1,a=>match a with
  | .row k=>match Nat.beq k i with
   |true=> .lst sz n f
   |false=> .row k
  | .ptr k o=>match Nat.beq k i with
   |true=> .top
   |false=> .ptr k o
  | .elt k x y z=>match Nat.beq k i with
   |true=> .top
   |false=> .elt k x y z
  | .mp k=>match Nat.beq k i with
   |true=> .top
   |false=> .mp k
  | .agg l=> .agg (l.map (vX i sz n f d))
  | .tup l=> .tup (l.map (vX i sz n f d))
  | .fn g l l'=> .fn g (l.map (vX i sz n f d)) (l'.map (vX i sz n f d))
  |a=>a
def UL.frz(e:UL)(i:Nat):UL:=
 {ro:=λb=>e.ro b\/e.own b=some i,own:=λb=>match e.own b with|some k=>if k=i then none else some k|none=>none,
  live:=λk=>e.live k/\k≠i,blk:=e.blk,val:=e.val}
theorem zY{k i:Nat}(h:Nat.beq k i=false):k≠i:=by
 intro h2;subst h2;rw [Nat.beq_refl] at h;cases h
theorem cU{e e2:UL}{B:Nat}{w:World}{i T sz n:Nat}{f:Ci}(hE:UY e B w)(hh:GH e w i (.row T sz n f))(g1: ∀b,e.ro b->e2.ro b)(g2: ∀b,e.own b=some i->e2.ro b):Rep e2 w (.lst sz n f) (e.val i):=by
 obtain ⟨_,H9,hf,xs,hx,GK⟩:=hh;rcases hx.2 with ⟨hv0,hn0⟩|⟨g,cap,cur,hv0,_,hgg,hnc,hcm,hcs,kC⟩;rw [hv0];subst hn0;exact .lstNil _ _;have hob:e.own g=some i:=H9 g (by rw [hv0];rfl)
 have hlt:=(hE.owned _ _ hob).2;have hv1:=hv0;rw [hv0];refine Rep.lst (e:=e2) (w:=w) sz _ _ g 0 _ (λi j=>xs.getD (i*sz+j) .nilIface) (λ_=>g2 g hob) (λ_=>hlt) (λi O=>(hf i O).2) hnc hcm ?_ (λi O=>(hf i O).1) ?_ _ (λ_=>rfl);intro i j O hj;have hle:i*sz+sz<=n*sz:=by
  have:=Nat.mul_le_mul_right sz (Az O)
  rwa [Bq] at this
 have kE:i*sz+j<xs.length:=by rw [hx.1];omega
 have hc:=hx.cells (g:=g) (by rw [hv1];rfl) (i*sz+j) xs[i*sz+j] (List.getElem?_eq_getElem kE)
 rw [DK] at hc;rw [hc];simp [List.getD,List.getElem?_eq_getElem kE];intro q j a ha' ha;have hj:j<sz:=by rw [←(hf q ha').1];exact (List.getElem?_eq_some_iff.1 ha).1
 have hle:q*sz+sz<=n*sz:=by
  have:=Nat.mul_le_mul_right sz (Az ha')
  rwa [Bq] at this
 have kE:q*sz+j<xs.length:=by rw [hx.1];omega
 have:=GK q j a xs[q*sz+j] ha' ha (List.getElem?_eq_getElem kE);simp only [List.getD,List.getElem?_eq_getElem kE,Option.getD_some];exact Rep.idf g1 this ((hf q ha').2 a (Ca ha))
theorem Xg7{e:UL}{B:Nat}{w:World}{i T sz n:Nat}{f:Ci}(hE:UY e B w)(hh:GH e w i (.row T sz n f)):Rep (e.frz i) w (.lst sz n f) (e.val i):=cU hE hh (λ_ h=> .inl h) (λ_ h=> .inr h)
def UL.sol(e:UL)(i:Nat):UL:={e with ro:=λb=>e.ro b\/e.own b=some i,own:=λb=>match e.own b with|some k=>if k=i then none else some k|none=>none}
theorem Step.sol(e:UL)(i:Nat)(w:World):Step e (e.sol i) w w:=⟨λ_ _ h=>⟨.inl h,rfl⟩,λ_ h=>⟨h,rfl,rfl⟩,Am _⟩
theorem UY.sol{e:UL}{B:Nat}{w:World}(h:UY e B w)(i:Nat):UY (e.sol i) B w:=by
 refine ⟨λb hb=>?_,λb k hk=>?_,h.glob.step (Step.sol e i w)⟩;rcases hb with hb|hb;obtain ⟨h1,h2⟩:=h.apart b hb;exact ⟨by simp [UL.sol,h1],h2⟩
 exact ⟨by simp [UL.sol,hb],(h.owned b i hb).2⟩
 simp only [UL.sol] at hk;cases ho:e.own b with
 |none=>rw [ho] at hk;cases hk
 |some j=>exact h.owned b j ho
theorem GH.sol{e:UL}{w:World}{i k:Nat}{r:GO}(hne:k≠i/\HV i r=false)(h:GH e w k r):GH (e.sol i) w k r:=by
 obtain ⟨hne,hak⟩:=hne;have st:=Step.sol e i w;cases r with
 |cells T l=>
  obtain ⟨h1,h2,vs,h3,h4⟩:=h;exact ⟨h1,by simp [UL.sol,h2,hne],vs,h3,h4.step st⟩
 |row T sz n f=>
  obtain ⟨h1,h2,hf,xs,h3,h4⟩:=h;refine ⟨h1,λb hb=>?_,hf,xs,h3,λi j a v O ha hv=>(h4 i j a v O ha hv).step st⟩;have:=h2 b hb;simp [UL.sol,this,hne]
 |ints T pre n f=>
  obtain ⟨h1,h2,vs,h3,h4⟩:=h;exact ⟨h1,by simp [UL.sol,h2,hne],vs,h3,h4.step st⟩
 |memo g f=>
  obtain ⟨h1,h2,es,c,h3,h4⟩:=h;exact ⟨h1,by simp [UL.sol,h2,hne],es,c,h3,h4⟩
 |keep T l=>exact LH st h
 |aka r T sz n f=>
  obtain ⟨h1,h0,o,hor,h2,hf,xs,h3,h4⟩:=h;refine ⟨h1,h0,o,hor,λb hb=>?_,hf,xs,h3,λi j a v O ha hv=>(h4 i j a v O ha hv).step st⟩;have:=h2 b hb;have ho:o≠i:=by
   rcases hor with rfl|rfl;exact hne;rintro rfl;simp [HV] at hak
  simp [UL.sol,this,ho]
theorem uS{e:UL}{B:Nat}{w:World}{i T sz n:Nat}{f:Ci}(hE:UY e B w)(hh:GH e w i (.row T sz n f)): ∀(d:Nat) (a:AV) (v:Value),Rep e w a v->Rep (e.frz i) w (vX i sz n f d a) v
 | 0,a,v,r=>by
  have hro: ∀b,e.ro b->(e.frz i).ro b:=λ_ h=> .inl h;cases r with
  |lit b=>exact .lit b
  |x v=>exact .x v
  |roI pre n f off b o Z=>exact Rep.idf hro (.roI pre n f off b o Z) (zN (Rep.roI pre n f off b o Z) rfl)
  |ro l vs b o h1 h2 h3 h4 h5 h6=>exact Rep.idf hro (.ro l vs b o h1 h2 h3 h4 h5 h6) (.ro l h3)
  |lstNil sz f=>exact .lstNil sz f
  |lst sz n f b o cap g h1 h2 h3 h4 h5 h6 h7 h8 ad had=>exact Rep.idf hro (.lst sz n f b o cap g h1 h2 h3 h4 h5 h6 h7 h8 ad had) (.lst sz n f h3)
  |_=>exact .top _
 |d+1,a,v,r=>by
  have hro: ∀b,e.ro b->(e.frz i).ro b:=λ_ h=> .inl h;have ih:=uS hE hh d;cases r with
  |top v=>exact .top v
  |lit b=>exact .lit b
  |x v=>exact .x v
  |roI pre n f off b o Z=>exact Rep.idf hro (.roI pre n f off b o Z) (zN (Rep.roI pre n f off b o Z) rfl)
  |ptr id off hl=>
   simp only [vX];split;exact .top _;rename_i hb;exact .ptr (e:=e.frz i) id off ⟨hl,zY hb⟩
  |row id a n c hl hv=>
   simp only [vX];split;rename_i hb;have:=Nat.eq_of_beq_eq_true hb;subst this;rw [←hv];exact Xg7 hE hh;rename_i hb;exact .row (e:=e.frz i) id a n c ⟨hl,zY hb⟩ hv
  |elt id sz x y b n cap hl hv=>
   simp only [vX];split;exact .top _;rename_i hb;exact .elt (e:=e.frz i) id sz x y b n cap ⟨hl,zY hb⟩ hv
  |mp id hl=>
   simp only [vX];split;exact .top _;rename_i hb;exact .mp (e:=e.frz i) id ⟨hl,zY hb⟩
  |agg l vs h1 h2=>exact Rep.aggL (U3.map _ ih ⟨h1,h2⟩)
  |tup l vs h1 h2=>exact Rep.tupL (U3.map _ ih ⟨h1,h2⟩)
  |fn f l l' vs vs' h1 h2 h3 h4=>
   have k1:U3 e w l vs:=⟨h1,h2⟩;have k2:U3 e w l' vs':=⟨h3,h4⟩;exact .fn f _ _ vs vs' (U3.map _ ih k1).1 (U3.map _ ih k1).2 (U3.map _ ih k2).1 (U3.map _ ih k2).2
  |ro l vs b o h1 h2 h3 h4 h5 h6=>exact Rep.idf hro (.ro l vs b o h1 h2 h3 h4 h5 h6) (.ro l h3)
  |mpr g okf vals b es c h1 h2 h3 h4 h5 h6 h7 h8=>exact Rep.idf hro (.mpr g okf vals b es c h1 h2 h3 h4 h5 h6 h7 h8) (.mpr g okf h3)
  |any1 v hv=>exact .any1 v hv
  |lstNil sz f=>exact .lstNil sz f
  |lst sz n f b o cap g h1 h2 h3 h4 h5 h6 h7 h8 ad had=>exact Rep.idf hro (.lst sz n f b o cap g h1 h2 h3 h4 h5 h6 h7 h8 ad had) (.lst sz n f h3)
def Ws7(i sz n:Nat)(f:Ci):H2->H2
 |[]=>[]
 |(k,r)::t=>match Nat.beq k i||HV i r with
  |true=>Ws7 i sz n f t
  |false=>(k,match r with
   | .cells T l=> .cells T (l.map (vX i sz n f 6))
   | .ints T pre m g=> .ints T (pre.map (vX i sz n f 6)) m g
   | .keep T l=> .keep T (l.map (vX i sz n f 6))
   |r=>r)::Ws7 i sz n f t
theorem Qc2{e:UL}{B:Nat}{w:World}{i T sz n:Nat}{f:Ci}(hE:UY e B w)(hh:GH e w i (.row T sz n f)): ∀{m:H2},UV e m w->UV (e.frz i) (Ws7 i sz n f m) w
 |[],_=>λp hp=>by cases hp
 |(k,r)::t,h=>by
  have ih:=Qc2 hE hh (m:=t) (λp hp=>h p (List.mem_cons_of_mem _ hp));have hk:=h _ List.mem_cons_self;unfold Ws7;split;exact ih;rename_i hb;rw [Bool.or_eq_false_iff] at hb;obtain ⟨hb,hak⟩:=hb;have hne:=zY hb;intro p hp;rcases List.mem_cons.1 hp with rfl|hp;cases r with
  |aka r T' sz' n' f'=>
   obtain ⟨h1,h0,o,hor,h2,hf,xs,h3,h4⟩:=hk;refine ⟨⟨h1,hne⟩,⟨h0,zY hak⟩,o,hor,λb hb'=>?_,hf,xs,h3,λi' j a v O ha hv=>Rep.idf (e:=e) (e':=e.frz i) (λ_ h=>Or.inl h) (h4 i' j a v O ha hv) ((hf i' O).2 a (Ca ha))⟩;have:=h2 b hb';have ho:o≠i:=by
    rcases hor with rfl|rfl;exact hne;exact zY hak
   simp [UL.frz,this,ho]
  |row T' sz' n' f'=>
   obtain ⟨h1,h2,hf,xs,h3,h4⟩:=hk;refine ⟨⟨h1,hne⟩,λb hb'=>?_,hf,xs,h3,λi' j a v O ha hv=>Rep.idf (e:=e) (e':=e.frz i) (λ_ h=>Or.inl h) (h4 i' j a v O ha hv) ((hf i' O).2 a (Ca ha))⟩;have:=h2 b hb';simp [UL.frz,this,hne]
  |cells T' l=>
   obtain ⟨h1,h2,vs,h3,h4⟩:=hk;refine ⟨⟨h1,hne⟩,?_,vs,h3,U3.map _ (uS hE hh 6) h4⟩;simp only at h2;simp [UL.frz,h2,hne]
  |ints T' pre m g=>
   obtain ⟨h1,h2,vs,h3,h4⟩:=hk;refine ⟨⟨h1,hne⟩,?_,vs,h3,?_⟩;simp only at h2;simp [UL.frz,h2,hne];have:=U3.map _ (uS hE hh 6) h4;rw [List.map_append] at this;have hL:(HP m g).map (vX i sz n f 6)=HP m g:=by
    unfold HP;rw [List.map_map];rfl
   rw [hL] at this;exact this
  |keep T' l=>
   obtain ⟨h1,h2,h0,vs,h3,h4⟩:=hk;exact ⟨⟨h1,hne⟩,.inl h2,h0,vs,h3,U3.map _ (uS hE hh 6) h4⟩
  |memo g f'=>
   obtain ⟨h1,h2,es,c,h3,h4⟩:=hk;refine ⟨⟨h1,hne⟩,?_,es,c,h3,h4⟩;simp only at h2;simp [UL.frz,h2,hne]
  exact ih p hp
def Qs0(i:Nat)(s:St):St:=match DG s.m i with
 |some (.row _ sz n f)=>{s with σ:=s.σ.map (vX i sz n f 6),m:=Ws7 i sz n f s.m,sv:=s.sv.map (·.map (vX i sz n f 6)) }
 |_=>s
theorem lG{c:Cx}{w0:World}{F:Nat->Prop}{e:UL}{i:Nat}{s:St}{a:Act}{w:World}(r:F7 c w0 F e s a w): ∃e',F7 c w0 F e' (Qs0 i s) a w:=by
 unfold Qs0;split;rename_i T sz n f hg;have hh:=r.mem _ (UW hg);have rp:=uS r.env hh 6;refine ⟨e.frz i,⟨λb hb=>?_,λb k hk=>?_,λb p hp=>⟨.inl (r.env.glob b p hp).1,(r.env.glob b p hp).2⟩⟩,r.below,Qc2 r.env hh r.mem,λk hk=>r.live k hk.1,λb hb=>⟨(r.foe b hb).1,λZ=>?_⟩,⟨⟨λd hd=>?_,r.xt.defers.2⟩,λb o hk=>?_,L9.map _ rp r.xt.saved,r.xt.size⟩,U3.map _ rp r.slots⟩;rcases hb with hb|hb;obtain ⟨h1,h2⟩:=r.env.apart b hb;exact ⟨by simp [UL.frz,h1],h2⟩
 exact ⟨by simp [UL.frz,hb],(r.env.owned b i hb).2⟩
 simp only [UL.frz] at hk;cases ho:e.own b with
 |none=>rw [ho] at hk;cases hk
 |some j=>exact r.env.owned b j ho
 rcases Z with Z|Z;exact (r.foe b hb).2 Z;have:=(r.env.owned b i Z).1;have:=(r.foe b hb).1;omega;obtain ⟨D,g1,g2,g3⟩:=r.xt.defers.1 d hd;exact ⟨D,g1,.inl g2,g3⟩;obtain ⟨g1,g2⟩:=r.xt.kept b o hk;exact ⟨.inl g1,g2⟩;exact ⟨e,r⟩
def zR:List Nat->St->St
 |[],s=>s
 |i::l,s=>zR l (Qs0 i s)
theorem rH{c:Cx}{w0:World}{F:Nat->Prop}{a:Act}{w:World}: ∀(l:List Nat) {e:UL} {s:St},F7 c w0 F e s a w-> ∃e',F7 c w0 F e' (zR l s) a w
 |[],e,_,r=>⟨e,r⟩
 |i::l,_,_,r=>by
  obtain ⟨e1,r1⟩:=lG (i:=i) r;exact rH l r1
theorem Qe2(i:Nat)(s:St):(Qs0 i s).gh=s.gh:=by unfold Qs0;split<;>rfl
theorem OP: ∀(l:List Nat) (s:St),(zR l s).gh=s.gh
 |[],_=>rfl
 |i::l,s=>by rw [zR,OP l,Qe2]
def dE:Nat->AV->List Nat
 | 0,_=>[]
 |d+1,a=>match a with
  | .row k=>[k]
  | .agg l=>l.flatMap (dE d)
  | .tup l=>l.flatMap (dE d)
  |_=>[]
section
variable (X:Ext)(o:Oper)(s:St)
def IH:St:=
 match o.op with
 | .buildSlice _ _ parts=>zR (parts.toList.flatMap λp=>dE 3 (rho s.σ p.2)) s
 | .store _ x y=>match rho s.σ x with
  | .elt _ _ _ _=>zR (dE 3 (rho s.σ y)) s
  |_=>s
 | .call c=>match c.callee with
  | .value f=>match rho s.σ f with
   | .fn (.func g) _ _=>match pW X.R g with
    |some _=>zR (c.args.toList.flatMap λx=>dE 3 (rho s.σ x)) s
    |none=>match aJ X.C g with
     |some _=>zR (c.args.toList.flatMap λx=>dE 3 (rho s.σ x)) s
     |none=>s
   |_=>s
  |_=>s
 |_=>s
theorem OO: ∃l,IH X o s=zR l s:=by
 unfold IH;split;exact ⟨_,rfl⟩;split;exact ⟨_,rfl⟩;exact ⟨[],rfl⟩;split;split;split;exact ⟨_,rfl⟩;split;exact ⟨_,rfl⟩;exact ⟨[],rfl⟩;exact ⟨[],rfl⟩;exact ⟨[],rfl⟩;exact ⟨[],rfl⟩
end
theorem lH{X:Ext}{o:Oper}{c:Cx}{w0:World}{F:Nat->Prop}{e:UL}{s:St}{a:Act}{w:World}(r:F7 c w0 F e s a w): ∃e',F7 c w0 F e' (IH X o s) a w:=by
 obtain ⟨l,hl⟩:=OO X o s;rw [hl];exact rH l r
theorem Qs1(X:Ext)(o:Oper)(s:St):(IH X o s).gh=s.gh:=by
 obtain ⟨l,hl⟩:=OO X o s;rw [hl,OP]
def nS(P:Program)(G:List (Nat×Spec))(X:Ext)(o:Oper)(s:St):VM St:=Wc2 P G X o (IH X o s)
theorem uO{P:Program}{G:List (Nat×Spec)}{X:Ext}{c:Cx}(hG:VK P G)(hX:VW P X c){o:Oper}{s:St}{R:St->Prop}(h:(nS P G X o s).sat R){w0:World}{T:Nat->Prop}{e:UL}{a:Act}{w:World}(hΦ:c.Φ s.gh T w0)(r:F7 c w0 T e s a w)
  {ro:Option Nat}{n:Nat}{K:Act->World->Prop}{Q:Exit->Act->World->Prop}(hK: ∀s' a' w',R s'->Rel c s' a' w'->K a' w'):o.wpIn (fr ro) n P a w K Q:=by
 obtain ⟨e',r'⟩:=lH (X:=X) (o:=o) r;exact cT hG hX h (by rw [Qs1];exact hΦ) r' hK
def zF(P:Program)(G:List (Nat×Spec))(X:Ext)(ops:List Oper)(o:Oper)(s:St):VM St:=
 match o.guard with
 |none=>settle s (TB o.op) (nS P G X o)
 |some (_,want)=>settle s (DV ops o) λs=>match (match DV ops o with|some t=>s.σ.getD t .top|none=> .top) with
  | .lit b=>match b==want with
   |true=>settle s (TB o.op) (nS P G X o)
   |false=> .leaf (C4 o s)
  | .tup _=> .leaf (C4 o s)
  |_=> .fail
section
variable {e:UL}{w:World}{ops:Array Oper}{σ:List AV}{a:Act}{j t:Nat}{p:Oper}
theorem bU{b:Bool}(h:U3 e w σ a.tmps.toList)(hp:ops[j]? =some p)(hd:p.dst=some t)(hl:σ.getD t .top= .lit b):yielded ops a.tmps j=some b:=by
 have Z:=FL h (.tmp t);simp only [rho,hl] at Z;have:=Z.lit_inv;simp only [Act.eval] at this;have hg:a.tmps[t]? =some (.bool b):=by
  cases hq:a.tmps[t]? with
  |none=>rw [Array.getD_eq_getD_getElem?,hq] at this;simp [undef] at this
  |some v=>rw [Array.getD_eq_getD_getElem?,hq] at this;simpa using this
 unfold yielded;simp [hp,hd,hg]
theorem bT{l:List AV}(h:U3 e w σ a.tmps.toList)(hp:ops[j]? =some p)(hd:p.dst=some t)(hl:σ.getD t .top= .tup l):yielded ops a.tmps j=none:=by
 have Z:=FL h (.tmp t);simp only [rho,hl] at Z;obtain ⟨vs,hv,_⟩:=Z.tup_inv;simp only [Act.eval] at hv;unfold yielded;simp only [hp,hd,Option.bind_some];cases hq:a.tmps[t]? with
 |none=>rfl
 |some v=>
  rw [Array.getD_eq_getD_getElem?,hq] at hv;simp only [Option.getD_some] at hv;subst hv;rfl
end
theorem zE{P:Program}{G:List (Nat×Spec)}{X:Ext}{c:Cx}(hG:VK P G)(hX:VW P X c){ro:Option Nat}{n:Nat}{ops:Array Oper}{i:Nat}{o:Oper}(ho:ops[i]? =some o){s:St}{R:St->Prop}(h:(zF P G X ops.toList o s).sat R){a:Act}{w:World}(r:Rel c s a w)
  {K:Act->World->Prop}{Q:Exit->Act->World->Prop}(hK: ∀s' a' w',R s'->Rel c s' a' w'->K a' w'):wpOpIn (fr ro) n P ops Q i K a w:=by
 obtain ⟨w0,T,e,hΦ,r⟩:=r;unfold wpOpIn;simp only [ho];unfold zF at h;split at h;rename_i hg;obtain ⟨s1,r1,h1,hg1⟩:=z8 h r;rw [if_pos (by simp [Region.wanted,hg])]
 exact uO hG hX h1 (by rw [hg1];exact hΦ) r1 hK
 rename_i j want hg;obtain ⟨s1,r1,h1,hg1⟩:=z8 h r;unfold DV at h1;simp only [hg] at h1;cases hp:ops.toList[j]? with
 |none=>simp only [hp] at h1;exact h1.elim
 |some p=>
  simp only [hp] at h1;cases hd:p.dst with
  |none=>simp only [hd] at h1;exact h1.elim
  |some t=>
   simp only [hd] at h1;split at h1;rename_i b hb;have hy:=bU (ops:=ops) r1.slots (by simpa using hp) hd hb
   split at h1;rename_i hbw;obtain ⟨s2,r2,h2,hg2⟩:=z8 h1 r1;have hw:Region.wanted o (yielded ops a.tmps)=true:=by
    simp only [Region.wanted,hg,hy];simpa using hbw
   rw [if_pos hw];exact uO hG hX h2 (by rw [hg2,hg1];exact hΦ) r2 hK
   rename_i hbw;have hw: ¬Region.wanted o (yielded ops a.tmps)=true:=by
    simp only [Region.wanted,hg,hy];simpa using hbw
   rw [if_neg hw];exact ⟨λ_ _=>trivial,hK _ _ _ h1 ⟨w0,T,e,by rw [show (C4 o s1).gh=s1.gh from rfl,hg1];exact hΦ,cK r1⟩⟩
   rename_i l hb;have hy:=bT (ops:=ops) r1.slots (by simpa using hp) hd hb
   have hw: ¬Region.wanted o (yielded ops a.tmps)=true:=by
    simp [Region.wanted,hg,hy]
   rw [if_neg hw];exact ⟨λ_ _=>trivial,hK _ _ _ h1 ⟨w0,T,e,by rw [show (C4 o s1).gh=s1.gh from rfl,hg1];exact hΦ,cK r1⟩⟩
   exact h1.elim
def Wd1(P:Program)(G:List (Nat×Spec))(X:Ext)(ops:List Oper):List Oper->St->VM St
 |[],s=> .leaf s
 |o::rest,s=>(zF P G X ops o s).bind (Wd1 P G X ops rest)
theorem vA{P:Program}{G:List (Nat×Spec)}{X:Ext}{c:Cx}(hG:VK P G)(hX:VW P X c){ro:Option Nat}{n:Nat}{ops:Array Oper}{Q:Exit->Act->World->Prop}{R:St->Prop}(hQ: ∀s a w,R s->Rel c s a w->Q .normal a w):
  ∀(l:List Oper) (k:Nat),l=ops.toList.drop k-> ∀(s:St) (a:Act) (w:World),(Wd1 P G X ops.toList l s).sat R->Rel c s a w->wpOpsIn (fr ro) n P ops Q (List.range' k (ops.size-k)) a w
 |[],k,hk,s,a,w,h,r=>by
  have HX:ops.size-k=0:=by
   have:=congrArg List.length hk;simp at this;omega
  rw [HX];exact hQ s a w h r
 |o::rest,k,hk,s,a,w,h,r=>by
  have hlt:k<ops.size:=by
   have:=congrArg List.length hk;simp at this;omega
  have hok:ops[k]? =some o:=by
   have:=congrArg (·[0]?) hk;simp at this;exact this.symm
  have OD:rest=ops.toList.drop (k+1):=by
   have:=congrArg List.tail hk;simpa using this
  have e1:ops.size-k=(ops.size-(k+1))+1:=by omega
  rw [e1,List.range'_succ,wpOpsIn_cons];exact zE hG hX hok (VM.sat_bind h) r (λs' a' w' hs' hr'=>vA hG hX hQ rest (k+1) OD s' a' w' hs' hr')
open Go Go.RowKit
def HU(o:Oper):List Nat:=(o.after.toList.filter (Region.binds .any)).map (·.on)
def TV(acc:List Nat)(o:Oper):Nat:=(HU o).foldl (λs j=>s ||| (1 <<< j) ||| acc.getD j 0) 0
def HG:List Oper->List Nat->List Nat
 |[],acc=>acc
 |o::os,acc=>HG os (acc++[TV acc o])
theorem dQ: ∀(os:List Oper) (acc:List Nat) (k:Nat),k<acc.length->(HG os acc).getD k 0=acc.getD k 0
 |[],_,_,_=>rfl
 |o::os,acc,k,h=>by
  rw [HG,dQ os _ k (by simp;omega)]
  simp [List.getD,Ce,h]
theorem eX: ∀(os:List Oper) (acc:List Nat) (i:Nat) (o:Oper),os[i]? =some o-> ∃acc',(HG os acc).getD (acc.length+i) 0=TV acc' o/\acc'.length=acc.length+i/\ ∀j,j<acc.length+i->acc'.getD j 0=(HG os acc).getD j 0
 |[],_,_,_,h=>by simp at h
 |o'::os,acc,0,o,h=>by
  simp at h;subst h;refine ⟨acc,?_,VT,λj hj=>?_⟩;rw [HG,dQ os _ _ VT];simp [List.getD];rw [HG,dQ os _ j (by simp;omega)]
  simp only [Bg] at hj;simp [List.getD,Ce,hj]
 |o'::os,acc,i+1,o,h=>by
  simp at h;obtain ⟨acc',h1,h2,h3⟩:=eX os (acc++[TV acc o']) i o h;have e1:(acc++[TV acc o']).length+i=acc.length+(i+1):=by simp;omega
  rw [e1] at h1 h2 h3;exact ⟨acc',h1,h2,h3⟩
theorem lJ{A:Ch}: ∀(l:List Nat) (s i:Nat),(l.foldl (λs j=>s ||| (1 <<< j) ||| A j) s).testBit i=true->s.testBit i=true\/ ∃j∈l,i=j\/(A j).testBit i=true
 |[],s,i,h=> .inl h
 |j::l,s,i,h=>by
  rcases lJ l _ i h with h|⟨j',hj',h⟩;rw [Nat.testBit_or,Nat.testBit_or,Bl,Bl] at h;rcases h with (h|h)|h;exact .inl h;refine .inr ⟨j,GD,.inl ?_⟩;rw [Nat.one_shiftLeft,Nat.testBit_two_pow] at h;exact (B0 h).symm;exact .inr ⟨j,GD,.inr h⟩;exact .inr ⟨j',HL _ hj',h⟩
def inS(L:Array Bool)(k:Nat):Prop:=L.getD k false=true
def DC(ops:List Oper)(L:Array Bool):Prop:= ∀k o,ops[k]? =some o->inS L k-> ∀j∈HU o,inS L j
theorem w8{ops:List Oper}{L:Array Bool}(hd:DC ops L): ∀(k:Nat) (o:Oper),ops[k]? =some o->(∀j∈HU o,inS L j)-> ∀i,((HG ops []).getD k 0).testBit i=true->inS L i:=by
 intro k
 induction k using Nat.strongRecOn with
 |_ k ih=>
  intro o ho HZ i O;obtain ⟨acc',h1,h2,h3⟩:=eX ops [] k o ho;simp only [List.length_nil,Ap] at h1 h2 h3;rw [h1] at O;rcases lJ _ _ _ O with h|⟨j,hj,h⟩;simp at h;rcases h with rfl|h;exact HZ _ hj;have hjk:j<k:=by
   rcases An j k with h'|h';exact h';rw [List.getD,Br VJ] at h;simp at h
  rw [h3 j hjk] at h;have hlt:j<ops.length:=by have:=(FV.1 ho).1;omega
  exact ih j hjk ops[j] (D0 hlt) (hd j _ (D0 hlt) (HZ j hj)) i h
def VM.det{α:Type}:VM α->VM α
 | .may _ _ _=> .fail
 | .branch b t f=> .branch b t.det f.det
 | .need ps t=> .need ps t.det
 | .leaf a=> .leaf a
 | .fail=> .fail
theorem VM.det_sat{α:Type}{R:α->Prop}: ∀{t:VM α},t.det.sat R-> ∃r,t.sat (λx=>x=r)/\R r
 | .fail,h=>h.elim
 | .leaf a,h=>⟨a,rfl,h⟩
 | .branch true t f,h=>by
  obtain ⟨r,h1,h2⟩:=VM.det_sat (t:=t) (h.1 rfl);exact ⟨r,⟨λ_=>h1,λe=>by cases e⟩,h2⟩
 | .branch false t f,h=>by
  obtain ⟨r,h1,h2⟩:=VM.det_sat (t:=f) (h.2 rfl);exact ⟨r,⟨λe=>(by cases e),λ_=>h1⟩,h2⟩
 | .need ps t,h=>by
  obtain ⟨r,h1,h2⟩:=VM.det_sat (t:=t) h.2;exact ⟨r,⟨h.1,h1⟩,h2⟩
 | .may _ _ _,h=>h.elim
def lY(X:Ext)(id:Nat)(ρ:Operand->AV)(op:Op):Option (VM (AV×Option GO)):=
 match op with
 | .call c=>match c.callee with
  | .value f=>match ρ f with
   | .fn (.func g) first caps=>match (first++c.args.toList.map ρ++caps).all (A3 6) with
    |true=>match aJ X.C g with
     |some sp=>match sp (first++c.args.toList.map ρ++caps) with
      |some t=>some (t.bind λr=> .leaf (r,none))
      |none=>none
     |none=>match Wr9 X.F g with
      |some sp=>match sp (first++c.args.toList.map ρ++caps) with
       |some (ns,T,sz,n,l)=>some (.needT ns (.leaf (.row id,some (.row T sz n l))))
       |none=>none
      |none=>none
    |false=>none
   |_=>none
  |_=>none
 |_=>none
def Qf5(X:Ext)(m:H2)(ρ:Operand->AV)(op:Op):Option (VM (AV×Option GO)):=
 match op with
 | .call c=>match c.callee with
  | .value f=>match ρ f with
   | .fn (.func g) first caps=>match aJ X.D g with
    |some sp=>match sp ((first++c.args.toList.map ρ++caps).map (DA m 40)) with
     |some t=>some (t.bind λr=> .leaf (r,none))
     |none=>none
    |none=>none
   |_=>none
  |_=>none
 |_=>none
def Qf4(X:Ext)(id:Nat)(m:H2)(ρ:Operand->AV)(op:Op):Option (VM (AV×Option GO)):=
 match Qf5 X m ρ op with
 |some t=>some t
 |none=>lY X id ρ op
structure HM where
 val:AV
 add:Option GO
 upd:Option (Nat×GO)
 eat:Option Nat
def DB:HM:=⟨.top,none,none,none⟩
def kV:HM:=⟨.tup [],none,none,none⟩
def cL(want:Bool):AV->Bool
 | .lit b=>b != want
 | .tup _=>true
 |_=>false
def O4(M:List Nat)(mm i j:Nat):Bool:=Nat.testBit (M.getD i 0) j&&Nat.blt j mm&&(List.range mm).all λk=>Nat.beq k i|| !Nat.testBit (M.getD k 0) j||(Nat.testBit (M.getD k 0) i&&Nat.blt i k)
theorem PS{M:List Nat}{mm i j:Nat}(h:O4 M mm i j=true):(M.getD i 0).testBit j=true/\j<mm/\ ∀k,k<mm->k≠i->(M.getD k 0).testBit j=true->(M.getD k 0).testBit i=true/\i<k:=by
 simp only [O4,GU] at h;obtain ⟨⟨h1,h2⟩,h3⟩:=h;refine ⟨h1,by rw [Aw] at h2;exact h2,λk hk hne hb=>?_⟩
 have:=B1.1 h3 k (List.mem_range.2 hk);rw [hb] at this;simp only [Bl,Bool.not_true,GU,Bw,or_false] at this;rcases this with h|h;exact absurd (GZ h) hne;exact ⟨h.1,by have:=h.2;rwa [Aw] at this⟩
def Qs7(M:List Nat)(mm i j:Nat):Bool:=Nat.testBit (M.getD i 0) j&&Nat.blt j mm&&(List.range mm).all λk=>Nat.beq k i|| !Nat.testBit (M.getD k 0) j||((Nat.testBit (M.getD k 0) i&&Nat.blt i k)||Nat.testBit (M.getD i 0) k)
theorem Qs6{M:List Nat}{mm i j:Nat}(h:Qs7 M mm i j=true):(M.getD i 0).testBit j=true/\j<mm/\ ∀k,k<mm->k≠i->(M.getD k 0).testBit j=true->((M.getD k 0).testBit i=true/\i<k)\/(M.getD i 0).testBit k=true:=by
 simp only [Qs7,GU] at h;obtain ⟨⟨h1,h2⟩,h3⟩:=h;refine ⟨h1,by rw [Aw] at h2;exact h2,λk hk hne hb=>?_⟩
 have:=B1.1 h3 k (List.mem_range.2 hk);rw [hb] at this;simp only [Bl,Bool.not_true,GU,Bw,or_false] at this;rcases this with h|h|h;exact absurd (GZ h) hne;exact .inl ⟨h.1,by have:=h.2;rwa [Aw] at this⟩
 exact .inr h
def kJ(mask j:Nat):List HM->Nat->Bool
 |[],_=>false
 |c::t,k=>(match c.eat with
  |some q=>Nat.beq q j&&Nat.testBit mask k
  |none=>false)||(match c.upd with
  |some (q,_)=>Nat.beq q j&&Nat.testBit mask k
  |none=>false)||kJ mask j t (k+1)
theorem rK{mask j:Nat}: ∀{l:List HM} {k0 i:Nat} {c:HM},l[i]? =some c->c.eat=some j->mask.testBit (k0+i)=true->kJ mask j l k0=true
 |[],_,_,_,h,_,_=>by simp at h
 |c0::t,k0,i,c,h,he,hb=>by
  unfold kJ;cases i with
  |zero=>simp at h;subst h;rw [he];simp at hb;simp [hb]
  |succ i=>
   have:=rK (mask:=mask) (j:=j) (l:=t) (k0:=k0+1) (i:=i) (by simpa using h) he (by rw [show k0+1+i=k0+(i+1) by omega];exact hb)
   rw [this];simp
theorem IR{mask j:Nat}: ∀{l:List HM} {k0 i:Nat} {c:HM} {r:GO},l[i]? =some c->c.upd=some (j,r)->mask.testBit (k0+i)=true->kJ mask j l k0=true
 |[],_,_,_,_,h,_,_=>by simp at h
 |c0::t,k0,i,c,r,h,he,hb=>by
  unfold kJ;cases i with
  |zero=>simp at h;subst h;rw [he];simp at hb;simp [hb]
  |succ i=>
   have:=IR (mask:=mask) (j:=j) (l:=t) (k0:=k0+1) (i:=i) (by simpa using h) he (by rw [show k0+1+i=k0+(i+1) by omega];exact hb)
   rw [this];simp
def RS:List (Nat×Bool)->Nat->Option Bool
 |[],_=>none
 |(k,d)::t,i=>match Nat.beq k i with
  |true=>some d
  |false=>RS t i
def Qs8(dec:List (Nat×Bool))(k:Nat)(v:AV):AV:=match RS dec k with
 |some d=> .lit d
 |none=>v
def DE(t:Nat):List Oper->Nat->Option Nat
 |[],_=>none
 |o::os,i=>match o.dst with
  |some d=>match Nat.beq d t with
   |true=>some i
   |false=>DE t os (i+1)
  |none=>DE t os (i+1)
theorem RD{t:Nat}: ∀{ops:List Oper} {i k:Nat},DE t ops i=some k->i<=k/\ ∃o,ops[k-i]? =some o/\o.dst=some t
 |[],_,_,h=>by simp [DE] at h
 |o::os,i,k,h=>by
  unfold DE at h;split at h;rename_i d hd;split at h;rename_i hb;cases h;have:d=t:=GZ hb;exact ⟨Am _,o,VT,by rw [hd,this]⟩
  obtain ⟨h1,o',h2,h3⟩:=RD h;refine ⟨VJ,o',?_,h3⟩;rw [show k-i=(k-(i+1))+1 by omega];simpa using h2
  obtain ⟨h1,o',h2,h3⟩:=RD h;refine ⟨VJ,o',?_,h3⟩;rw [show k-i=(k-(i+1))+1 by omega];simpa using h2
def fU(n:Nat)(ops:List Oper):List Oper->Nat->Bool
 |[],_=>true
 |o::os,i=>(match o.dst with
  |some d=>(match DE d ops 0 with|some k=>Nat.beq k i&&Nat.blt d n|none=>false)
  |none=>true)&&(HU o).all (λj=>Nat.blt j i)&&fU n ops os (i+1)
theorem P8{n:Nat}{ops:List Oper}: ∀{os:List Oper} {i:Nat},fU n ops os i=true-> ∀k o,os[k]? =some o->(∀d,o.dst=some d->DE d ops 0=some (i+k)/\d<n)/\ ∀j∈HU o,j<i+k
 |[],_,_,k,o,h=>by simp at h
 |o'::os,i,hw,0,o,h=>by
  simp at h;subst h;simp only [fU,GU] at hw;obtain ⟨⟨h1,h2⟩,_⟩:=hw;refine ⟨λd hd=>?_,λj hj=>?_⟩;rw [hd] at h1;simp only at h1;split at h1;rename_i k hk;simp only [GU] at h1;exact ⟨by rw [hk,GZ h1.1];rfl,by simpa [Aw] using h1.2⟩
  cases h1;have:=B1.1 h2 j hj;simpa [Aw] using this
 |o'::os,i,hw,k+1,o,h=>by
  simp at h;simp only [fU,GU] at hw;have:=P8 hw.2 k o h;rw [show i+(k+1)=i+1+k by omega]
  exact this
section
variable (P:Program)(G:List (Nat×Spec))(X:Ext)(ops:List Oper)(M:List Nat)(σ0:List AV)(m0:H2)(nx0 mm:Nat)
section
variable (W:List HM)(dec:List (Nat×Bool))(i:Nat)
def LO:Operand->AV
 | .tmp t=>match DE t ops 0 with
  |none=>σ0.getD t .top
  |some k=>match Nat.testBit (M.getD i 0) k with
   |true=>Qs8 dec k (W.getD k DB).val
   |false=>match Nat.beq k i||Nat.testBit (M.getD k 0) i with
    |true=>σ0.getD t .top
    |false=> .top
 |x=>rho [] x
def FS(mask:Nat)(all:List HM):List HM->Nat->H2
 |[],_=>[]
 |o::os,j=>match Nat.testBit mask j with
  |true=>match o.add with
   |some r=>match kJ mask j all 0 with
    |true=>FS mask all os (j+1)
    |false=>(nx0+j,r)::FS mask all os (j+1)
   |none=>FS mask all os (j+1)
  |false=>FS mask all os (j+1)
abbrev DT:=List HM×List (Nat×Bool)
def uK(t:Option Nat)(g:List (Nat×Bool)->VM DT):VM DT:=
 match t with
 |none=>g dec
 |some t=>match DE t ops 0 with
  |some k=>match RS dec k with
   |some _=>g dec
   |none=>match Nat.testBit (M.getD i 0) k with
    |true=>match (W.getD k DB).val with
     | .x (.bool b)=> .branch b (g ((k,true)::dec)) (g ((k,false)::dec))
     |_=>g dec
    |false=>g dec
  |none=>g dec
end
section
variable (o:Oper)(i:Nat)(W:List HM)(dec:List (Nat×Bool))
def SS:Option (List Prop×Nat×GO):=
 match o.op with
 | .store t x y=>match LO ops M σ0 W dec i x with
  | .ptr id off=>match Nat.ble nx0 id&&O4 M mm i (id-nx0) with
   |true=>match zG P (FS nx0 (M.getD i 0) W W 0++m0) t (.ptr id off) (LO ops M σ0 W dec i y) with
    |some (ns,m')=>match DG m' id with
     |some r=>some (ns,id-nx0,r)
     |none=>none
    |none=>none
   |false=>none
  |_=>none
 |_=>none
def Qu6:Option (List Prop×AV×GO×Option Nat):=
 match o.op with
 | .call c=>match c.callee,c.args.toList,c.argTypes.toList with
  | .builtin .append,[s,x],[t,t']=>match Nat.beq t t' with
   |true=>match LO ops M σ0 W dec i s with
    | .row id=>match Nat.ble nx0 id&&Qs7 M mm i (id-nx0) with
     |true=>match FY P (nx0+i) (FS nx0 (M.getD i 0) W W 0++m0) t (.row id) (LO ops M σ0 W dec i x) with
      |some (ns,val,(_,r)::_)=>some (ns,val,r,some (id-nx0))
      |_=>none
     |false=>none
    | .x v=>match FY P (nx0+i) (FS nx0 (M.getD i 0) W W 0++m0) t (.x v) (LO ops M σ0 W dec i x) with
     |some (ns,val,(_,r)::_)=>some (ns,val,r,none)
     |_=>none
    |_=>none
   |false=>none
  |_,_,_=>none
 |_=>none
def Xo8:Option (List Prop×AV×GO):=
 match o.op with
 | .call c=>match c.callee,c.args.toList,c.argTypes.toList with
  | .builtin .append,[s,x],[t,t']=>match Nat.beq t t' with
   |true=>match LO ops M σ0 W dec i s with
    | .row id=>match Nat.blt id nx0 with
     |true=>match y5 P (nx0+i) (FS nx0 (M.getD i 0) W W 0++m0) t id (LO ops M σ0 W dec i x) with
      |some (ns,r)=>some (ns,.row (nx0+i),r)
      |none=>none
     |false=>none
    |_=>none
   |false=>none
  |_,_,_=>none
 |_=>none
end
def Wx1(X:Ext)(d:Nat):List Oper->Bool
 |[]=>false
 |o::os=>(match o.op with
  | .call c=>match c.callee with
   | .value (.func g)=>match aJ X.C g with
    |some _=>c.args.toList.any λx=>match x with
     | .tmp t=>Nat.beq t d
     |_=>false
    |none=>false
   |_=>false
  |_=>false)||Wx1 X d os
def Xo7(X:Ext)(o:Oper)(i:Nat)(W:List HM)(dec:List (Nat×Bool)):Option (List Prop×AV×Option Nat):=
 match o.dst with
 |some d=>match Wx1 X d ops with
  |true=>match Qu6 P ops M σ0 m0 nx0 mm o i W dec with
   |some (ns,_,.row _ sz n f,eat)=>some (ns,.lst sz n f,eat)
   |_=>none
  |false=>none
 |none=>none
def Xg6(o:Oper)(i:Nat)(W:List HM)(dec:List (Nat×Bool))(next:List HM->List (Nat×Bool)->VM DT):VM DT:=
 match aop P G (nx0+i) (FS nx0 (M.getD i 0) W W 0++m0) (LO ops M σ0 W dec i) o.op with
 |some (ns,val,add)=> .needT ns (next (W++[⟨val,add,none,none⟩]) dec)
 |none=>match SS P ops M σ0 m0 nx0 mm o i W dec with
  |some (ns,j,r)=> .needT ns (next (W++[⟨.top,none,some (j,r),none⟩]) dec)
  |none=>match Xo7 P ops M σ0 m0 nx0 mm X o i W dec with
   |some (ns,val,eat)=> .needT ns (next (W++[⟨val,none,none,eat⟩]) dec)
   |none=>match Qu6 P ops M σ0 m0 nx0 mm o i W dec with
    |some (ns,val,r,eat)=> .needT ns (next (W++[⟨val,some r,none,eat⟩]) dec)
    |none=>match Qf4 X (nx0+i) (FS nx0 (M.getD i 0) W W 0++m0) (LO ops M σ0 W dec i) o.op with
     |some t=>t.det.bind λr=>next (W++[⟨r.1,r.2,none,none⟩]) dec
     |none=>match Xo8 P ops M σ0 m0 nx0 o i W dec with
      |some (ns,val,r)=> .needT ns (next (W++[⟨val,some r,none,none⟩]) dec)
      |none=> .fail
def jC:List Oper->Nat->List HM->List (Nat×Bool)->VM DT
 |[],_,W,dec=> .leaf (W,dec)
 |o::rest,i,W,dec=>match o.guard with
  |none=>uK ops M W dec i (TB o.op) λdec=>Xg6 P G X ops M σ0 m0 nx0 mm o i W dec (jC rest (i+1))
  |some (_,want)=>uK ops M W dec i (DV ops o) λdec=>match (match DV ops o with|some t=>LO ops M σ0 W dec i (.tmp t)|none=> .top) with
   | .lit b=>match b==want with
    |true=>uK ops M W dec i (TB o.op) λdec=>Xg6 P G X ops M σ0 m0 nx0 mm o i W dec (jC rest (i+1))
    |false=>jC rest (i+1) (W++[kV]) dec
   | .tup _=>jC rest (i+1) (W++[kV]) dec
   |_=> .fail
section
variable (W:List HM)(dec:List (Nat×Bool))
def Qj1(i:Nat)(o:Oper):Prop:=
 ∃dec',(∀k d,RS dec' k=some d->RS dec k=some d)/\
  ((((∃ns,aop P G (nx0+i) (FS nx0 (M.getD i 0) (W.take i) (W.take i) 0++m0) (LO ops M σ0 (W.take i) dec' i) o.op=some (ns,(W.getD i DB).val,(W.getD i DB).add)/\(W.getD i DB).upd=none/\(W.getD i DB).eat=none/\ ∀p∈ns,p)\/
    (∃ns j r,SS P ops M σ0 m0 nx0 mm o i (W.take i) dec'=some (ns,j,r)/\W.getD i DB=⟨.top,none,some (j,r),none⟩/\ ∀p∈ns,p)\/
    (∃ns val r eat,Qu6 P ops M σ0 m0 nx0 mm o i (W.take i) dec'=some (ns,val,r,eat)/\W.getD i DB=⟨val,some r,none,eat⟩/\ ∀p∈ns,p)\/
    (∃t val,Qf4 X (nx0+i) (FS nx0 (M.getD i 0) (W.take i) (W.take i) 0++m0) (LO ops M σ0 (W.take i) dec' i) o.op=some t/\W.getD i DB=⟨val.1,val.2,none,none⟩/\t.sat (λr=>r=val))\/
    (∃ns val eat,Xo7 P ops M σ0 m0 nx0 mm X o i (W.take i) dec'=some (ns,val,eat)/\W.getD i DB=⟨val,none,none,eat⟩/\ ∀p∈ns,p)\/
    (∃ns val r,Xo8 P ops M σ0 m0 nx0 o i (W.take i) dec'=some (ns,val,r)/\W.getD i DB=⟨val,some r,none,none⟩/\ ∀p∈ns,p))/\
    (o.guard=none\/ ∃j want t,o.guard=some (j,want)/\DV ops o=some t/\LO ops M σ0 (W.take i) dec' i (.tmp t)= .lit want))\/
   (W.getD i DB=kV/\ ∃j want t,o.guard=some (j,want)/\DV ops o=some t/\cL want (LO ops M σ0 (W.take i) dec' i (.tmp t))=true))
def Xe2:Prop:= ∀k d,RS dec k=some d->k<W.length/\(W.getD k DB).val= .x (.bool d)
def LZ:Prop:=Xe2 W dec/\ ∀i o,i<W.length->ops[i]? =some o->Qj1 P G X ops M σ0 m0 nx0 mm W dec i o
end
end
section
variable {P:Program}{G:List (Nat×Spec)}{X:Ext}{ops:List Oper}{M:List Nat}{σ0:List AV}{m0:H2}{nx0 mm:Nat}
theorem vM{k:Nat}{d:Bool}{dec:List (Nat×Bool)}(hno:RS dec k=none): ∀i b,RS dec i=some b->RS ((k,d)::dec) i=some b:=by
 intro i b h;unfold RS;split;rename_i hb;have:k=i:=GZ hb;subst this;rw [hno] at h;cases h;exact h
theorem LZ.more{W:List HM}{dec dec2:List (Nat×Bool)}(h:LZ P G X ops M σ0 m0 nx0 mm W dec)(hd:Xe2 W dec2)(hs: ∀i b,RS dec i=some b->RS dec2 i=some b):LZ P G X ops M σ0 m0 nx0 mm W dec2:=
 ⟨hd,λi o O ho=>let ⟨dec',h1,h2⟩:=h.2 i o O ho;⟨dec',λk d hk=>hs k d (h1 k d hk),h2⟩⟩
theorem wN{W:List HM}{dec:List (Nat×Bool)}{i:Nat}{t:Option Nat}{g:List (Nat×Bool)->VM DT}{R:DT->Prop}(h:(uK ops M W dec i t g).sat R)(ha:LZ P G X ops M σ0 m0 nx0 mm W dec):
  ∃dec2,LZ P G X ops M σ0 m0 nx0 mm W dec2/\(g dec2).sat R/\ ∀i b,RS dec i=some b->RS dec2 i=some b:=by
 unfold uK at h;split at h;exact ⟨dec,ha,h,λ_ _ h=>h⟩;split at h;rename_i k hk;split at h;exact ⟨dec,ha,h,λ_ _ h=>h⟩;rename_i hno;split at h;split at h;rename_i b hb;have hlt:k<W.length:=by
  rcases An k W.length with h'|h';exact h';rw [List.getD,Br h'] at hb;simp [DB] at hb
 have key: ∀d,b=d->LZ P G X ops M σ0 m0 nx0 mm W ((k,d)::dec):=by
  intro d hd;refine ha.more ?_ (vM hno);intro i b' hl;unfold RS at hl;split at hl;rename_i hki;have:k=i:=GZ hki;subst this;cases hl;exact ⟨hlt,by rw [hb,hd]⟩
  exact ha.1 i b' hl
 cases b;exact ⟨_,key false rfl,h.2 rfl,vM hno⟩;exact ⟨_,key true rfl,h.1 rfl,vM hno⟩;exact ⟨dec,ha,h,λ_ _ h=>h⟩;exact ⟨dec,ha,h,λ_ _ h=>h⟩;exact ⟨dec,ha,h,λ_ _ h=>h⟩
theorem Wc8{W:List HM}{dec2 dec3:List (Nat×Bool)}{i t:Nat}{b:Bool}(Zp5: ∀i b,RS dec2 i=some b->RS dec3 i=some b)(hd:Xe2 W dec3)(h:LO ops M σ0 W dec2 i (.tmp t)= .lit b):LO ops M σ0 W dec3 i (.tmp t)= .lit b:=by
 simp only [LO] at h ⊢;split;rename_i hw;rw [hw] at h;exact h;rename_i k hw;rw [hw] at h;simp only at h;split;rename_i hb;rw [hb] at h;simp only [Qs8] at h ⊢;cases h2:RS dec2 k with
 |some d=>rw [h2] at h;rw [Zp5 _ _ h2];exact h
 |none=>
  rw [h2] at h;simp only at h;cases h3:RS dec3 k with
  |none=>exact h
  |some d=>have:=(hd k d h3).2;rw [this] at h;cases h
 rename_i hb;rw [hb] at h;exact h
theorem LZ.push{W:List HM}{dec:List (Nat×Bool)}{o:Oper}{c:HM}(h:LZ P G X ops M σ0 m0 nx0 mm W dec)(ho:ops[W.length]? =some o)(Z:Qj1 P G X ops M σ0 m0 nx0 mm (W++[c]) dec W.length o):
  LZ P G X ops M σ0 m0 nx0 mm (W++[c]) dec:=by
 have Qq7: ∀i,i<W.length->(W++[c]).getD i DB=W.getD i DB:=λi O=>by simp [List.getD,Ce,O]
 refine ⟨λk d hk=>?_,λi o' O ho'=>?_⟩;obtain ⟨h1,h2⟩:=h.1 k d hk;exact ⟨by simp;omega,by rw [Qq7 k h1];exact h2⟩
 by_cases hlt:i<W.length;obtain ⟨dec',h1,h2⟩:=h.2 i o' hlt ho';refine ⟨dec',h1,?_⟩;have ht:(W++[c]).take i=W.take i:=by rw [List.take_append_of_le_length VJ]
 rw [ht,Qq7 i hlt];exact h2;have:i=W.length:=by simp at O;omega
 subst this;rw [ho] at ho';cases ho';exact Z
theorem wF{R:DT->Prop}: ∀(rest:List Oper) (W:List HM) (dec:List (Nat×Bool)) (hh:List Oper),ops=hh++rest++(ops.drop (hh.length+rest.length))->hh.length=W.length->(jC P G X ops M σ0 m0 nx0 mm rest W.length W dec).sat R->
  LZ P G X ops M σ0 m0 nx0 mm W dec-> ∃outs' dec',R (outs',dec')/\LZ P G X ops M σ0 m0 nx0 mm outs' dec'/\outs'.length=W.length+rest.length
 |[],W,dec,hh,_,_,h,ha=>⟨W,dec,h,ha,VT⟩
 |o::rest,W,dec,hh,I9,HX,h,ha=>by
  have ho:ops[W.length]? =some o:=by
   rw [I9,List.append_assoc,←HX];simp
  have hops':ops=(hh++[o])++rest++(ops.drop ((hh++[o]).length+rest.length)):=by
   have e1:(hh++[o]).length+rest.length=hh.length+(o::rest).length:=by simp;omega
   rw [e1];simpa using I9
  have run: ∀dec2,LZ P G X ops M σ0 m0 nx0 mm W dec2->(Xg6 P G X ops M σ0 m0 nx0 mm o W.length W dec2 (jC P G X ops M σ0 m0 nx0 mm rest (W.length+1))).sat R->
    (o.guard=none\/ ∃j want t,o.guard=some (j,want)/\DV ops o=some t/\LO ops M σ0 W dec2 W.length (.tmp t)= .lit want)->
    ∃outs' dec',R (outs',dec')/\LZ P G X ops M σ0 m0 nx0 mm outs' dec'/\outs'.length=W.length+(o::rest).length:=by
   intro dec2 ha2 h2 hg;unfold Xg6 at h2;have fin: ∀c:HM,Qj1 P G X ops M σ0 m0 nx0 mm (W++[c]) dec2 W.length o->(jC P G X ops M σ0 m0 nx0 mm rest (W.length+1) (W++[c]) dec2).sat R->
     ∃outs' dec',R (outs',dec')/\LZ P G X ops M σ0 m0 nx0 mm outs' dec'/\outs'.length=W.length+(o::rest).length:=by
    intro c yJ h3;have HZ:=ha2.push ho yJ;have hl:(W++[c]).length=W.length+1:=VT;rw [←hl] at h3;obtain ⟨outs',dec',r1,r2,r3⟩:=wF rest _ dec2 (hh++[o]) hops' (by simp [HX]) h3 HZ
    exact ⟨outs',dec',r1,r2,by rw [r3];simp;omega⟩
   split at h2;rename_i ns val add Xl6
   replace h2:=VM.sat_needT h2
   refine fin ⟨val,add,none,none⟩ ⟨dec2,λ_ _ h=>h,.inl ⟨.inl ⟨ns,?_,?_,?_,GE h2.1⟩,?_⟩⟩ h2.2;simpa [List.getD] using Xl6;simp [List.getD];simp [List.getD];simpa using hg;split at h2;rename_i ns j r hst
   replace h2:=VM.sat_needT h2
   refine fin ⟨.top,none,some (j,r),none⟩ ⟨dec2,λ_ _ h=>h,.inl ⟨.inr (.inl ⟨ns,j,r,?_,?_,GE h2.1⟩),?_⟩⟩ h2.2;simpa using hst;simp [List.getD];simpa using hg;split at h2;rename_i ns val eat hap
   replace h2:=VM.sat_needT h2
   refine fin ⟨val,none,none,eat⟩ ⟨dec2,λ_ _ h=>h,.inl ⟨.inr (.inr (.inr (.inr (.inl ⟨ns,val,eat,?_,?_,GE h2.1⟩)))),?_⟩⟩ h2.2;simpa using hap;simp [List.getD];simpa using hg;split at h2;rename_i ns val r eat hap
   replace h2:=VM.sat_needT h2
   refine fin ⟨val,some r,none,eat⟩ ⟨dec2,λ_ _ h=>h,.inl ⟨.inr (.inr (.inl ⟨ns,val,r,eat,?_,?_,GE h2.1⟩)),?_⟩⟩ h2.2;simpa using hap;simp [List.getD];simpa using hg;split at h2;rename_i t hcd;obtain ⟨val,h3,h4⟩:=VM.det_sat (VM.sat_bind h2);refine fin ⟨val.1,val.2,none,none⟩ ⟨dec2,λ_ _ h=>h,.inl ⟨.inr (.inr (.inr (.inl ⟨t,val,?_,?_,h3⟩))),?_⟩⟩ h4;simpa using hcd;simp [List.getD];simpa using hg;split at h2;rename_i ns val r hap
   replace h2:=VM.sat_needT h2
   refine fin ⟨val,some r,none,none⟩ ⟨dec2,λ_ _ h=>h,.inl ⟨.inr (.inr (.inr (.inr (.inr ⟨ns,val,r,?_,?_,GE h2.1⟩)))),?_⟩⟩ h2.2;simpa using hap;simp [List.getD];simpa using hg;exact h2.elim
  have skip: ∀{dec2:List (Nat×Bool)} {j:Nat} {want:Bool} {t:Nat},LZ P G X ops M σ0 m0 nx0 mm W dec2->(jC P G X ops M σ0 m0 nx0 mm rest (W.length+1) (W++[kV]) dec2).sat R->o.guard=some (j,want)->DV ops o=some t->
    cL want (LO ops M σ0 W dec2 W.length (.tmp t))=true-> ∃outs' dec',R (outs',dec')/\LZ P G X ops M σ0 m0 nx0 mm outs' dec'/\outs'.length=W.length+(o::rest).length:=by
   intro dec2 j want t ha2 h2 hg hs hb;have yJ:Qj1 P G X ops M σ0 m0 nx0 mm (W++[kV]) dec2 W.length o:=by
    refine ⟨dec2,λ_ _ h=>h,.inr ⟨by simp [List.getD],j,want,t,hg,hs,?_⟩⟩
    simpa using hb
   have HZ:=ha2.push ho yJ;have hl:(W++[kV]).length=W.length+1:=VT;rw [←hl] at h2;obtain ⟨outs',dec',r1,r2,r3⟩:=wF rest _ dec2 (hh++[o]) hops' (by simp [HX]) h2 HZ
   exact ⟨outs',dec',r1,r2,by rw [r3];simp;omega⟩
  unfold jC at h;split at h;rename_i hg;obtain ⟨dec2,ha2,h2,_⟩:=wN h ha;exact run dec2 ha2 h2 (.inl hg);rename_i j want hg;obtain ⟨dec2,ha2,h2,_⟩:=wN h ha;cases hs:DV ops o with
  |none=>simp only [hs] at h2;exact h2.elim
  |some t=>
   simp only [hs] at h2;split at h2;rename_i b hb;split at h2;rename_i hbw;have hbw':b=want:=by simpa using hbw
   subst hbw';obtain ⟨dec3,ha3,h3,Zp5⟩:=wN h2 ha2;exact run dec3 ha3 h3 (.inr ⟨j,b,t,hg,hs,Wc8 Zp5 ha3.1 hb⟩);rename_i hbw;have hbw':b≠want:=by simpa using hbw
   exact skip ha2 h2 hg hs (by rw [hb];simpa [cL] using hbw')
   rename_i l hb;exact skip ha2 h2 hg hs (by rw [hb];rfl)
   exact h2.elim
end
def aN(M:List Nat)(k:Nat):Bool:=Nat.beq (Nat.land (M.getD k 0) (2^k-1)) (2^k-1)
theorem IJ{M:List Nat}{k:Nat}(h:aN M k=true){j:Nat}(hj:j<k):(M.getD k 0).testBit j=true:=by
 have h1:Nat.land (M.getD k 0) (2^k-1)=2^k-1:=GZ h;have h2:((M.getD k 0) &&& (2^k-1)).testBit j=(2^k-1).testBit j:=congrArg (·.testBit j) h1;rw [Nat.testBit_and,Nat.testBit_two_pow_sub_one] at h2;simpa [hj] using h2
def BV(M:List Nat):Nat->Nat
 | 0=>0
 |k+1=>match aN M k with
  |true=>BV M k
  |false=>k+1
theorem TU(M:List Nat): ∀n,BV M n<=n
 | 0=>Am _
 |k+1=>by
        unfold BV;split;exact Nat.le_succ_of_le (TU M k);exact Am _
theorem k6(M:List Nat): ∀n k,BV M n<=k->k<n->aN M k=true
 | 0,_,_,h=>VJ
 |n+1,k,h,hk=>by
  unfold BV at h;split at h;rename_i hf;by_cases he:k=n;subst he;exact hf;exact k6 M n k h VJ;omega
section
variable (ops:List Oper)(mm:Nat)(W:List HM)(dec:List (Nat×Bool))
def Xm0(t:Nat)(a:AV):AV:=match DE t ops 0 with
 |some k=>match Nat.blt k mm with
  |true=>Qs8 dec k (W.getD k DB).val
  |false=>a
 |none=>a
def gW:List AV->Nat->List AV
 |[],_=>[]
 |a::l,t=>Xm0 ops mm W dec t a::gW l (t+1)
theorem wD: ∀(l:List AV) (t:Nat),(gW ops mm W dec l t).length=l.length
 |[],_=>rfl
 |a::l,t=>by simp [gW,wD l]
theorem IP: ∀(l:List AV) (t i:Nat),(gW ops mm W dec l t)[i]? =(l[i]?).map (Xm0 ops mm W dec (t+i))
 |[],_,_=>rfl
 |a::l,t,0=>by simp [gW]
 |a::l,t,i+1=>by simp only [gW,List.getElem?_cons_succ];rw [IP l (t+1) i,show t+1+i=t+(i+1) by omega]
end
def j8(W:List HM)(j:Nat):Option GO:=
 match W with
 |[]=>none
 |c::os=>match c.upd with
  |some (k,r)=>match Nat.beq k j with
   |true=>some r
   |false=>j8 os j
  |none=>j8 os j
theorem xX{j:Nat}{r:GO}: ∀{W:List HM},j8 W j=some r-> ∃(i:Nat) (c:HM),W[i]? =some c/\c.upd=some (j,r)
 |[],h=>by simp [j8] at h
 |c::os,h=>by
  unfold j8 at h;split at h;rename_i k r' hu;split at h;rename_i hb;cases h;have:k=j:=GZ hb;exact ⟨0,c,rfl,by rw [hu,this]⟩
  obtain ⟨i,c',h1,h2⟩:=xX h;exact ⟨i+1,c',by simpa using h1,h2⟩
  obtain ⟨i,c',h1,h2⟩:=xX h;exact ⟨i+1,c',by simpa using h1,h2⟩
theorem xY{j:Nat}: ∀{W:List HM},j8 W j=none-> ∀(i:Nat) (c:HM) (r:GO),W[i]? =some c->c.upd≠some (j,r)
 |[],_,i,c,r,h=>by simp at h
 |c0::os,h,i,c,r,hc=>by
  unfold j8 at h;cases i with
  |zero=>
   simp at hc;subst hc;intro hu;rw [hu] at h;simp at h
  |succ i=>
   simp at hc;split at h;split at h;cases h;exact xY h i c r hc;exact xY h i c r hc
def Qu1(j:Nat):List HM->Bool
 |[]=>false
 |c::t=>(match c.eat with
  |some q=>Nat.beq q j
  |none=>false)||Qu1 j t
theorem fG{j:Nat}: ∀{l:List HM} {i:Nat} {c:HM},l[i]? =some c->c.eat=some j->Qu1 j l=true
 |[],_,_,h,_=>by simp at h
 |c0::t,i,c,h,he=>by
  unfold Qu1;cases i with
  |zero=>simp at h;subst h;rw [he];simp
  |succ i=>rw [fG (l:=t) (i:=i) (by simpa using h) he];simp
def RW(nx0:Nat)(all:List HM):List HM->Nat->H2
 |[],_=>[]
 |o::os,j=>match o.add with
  |some r=>match Qu1 j all with
   |true=>RW nx0 all os (j+1)
   |false=>(nx0+j,match j8 all j with|some r'=>r'|none=>r)::RW nx0 all os (j+1)
  |none=>RW nx0 all os (j+1)
theorem kN{nx0:Nat}{all:List HM}: ∀{W:List HM} {j0:Nat} {p:Nat×GO},p∈RW nx0 all W j0-> ∃j,∃c:HM,∃r,W[j]? =some c/\p.1=nx0+(j0+j)/\c.add=some r/\p.2=(match j8 all (j0+j) with|some r'=>r'|none=>r)/\Qu1 (j0+j) all=false
 |[],_,_,h=>by simp [RW] at h
 |c::W,j0,p,h=>by
  have tl:p∈RW nx0 all W (j0+1)-> ∃j,∃c':HM,∃r,(c::W)[j]? =some c'/\p.1=nx0+(j0+j)/\c'.add=some r/\p.2=(match j8 all (j0+j) with|some r'=>r'|none=>r)/\Qu1 (j0+j) all=false:=by
   intro h;obtain ⟨j,c',r,h1,h2,h3,h4,h5⟩:=kN h;refine ⟨j+1,c',r,by simpa using h1,?_,h3,?_,?_⟩
   rw [show j0+(j+1)=j0+1+j by omega];exact h2
   rw [show j0+(j+1)=j0+1+j by omega];exact h4
   rw [show j0+(j+1)=j0+1+j by omega];exact h5
  unfold RW at h;split at h;rename_i r Z;split at h;exact tl h;rename_i ha;rcases GM.1 h with rfl|h;exact ⟨0,c,r,rfl,rfl,Z,rfl,ha⟩;exact tl h;exact tl h
def O8:GO->Bool
 | .aka _ _ _ _ _=>true
 |_=>false
theorem xU{r:GO}(h:O8 r=false)(k:Nat):HV k r=false:=by
 cases r<;>first|rfl|(simp [O8] at h)
def Wx5(c:HM):Option Nat:=match c.add with
 |some (.aka q _ _ _ _)=>some q
 |_=>none
def TS(q:Nat):List HM->Bool
 |[]=>true
 |c::t=>(match Wx5 c with
  |some k=> !Nat.beq k q
  |none=>true)&&TS q t
def TO:List HM->Bool
 |[]=>true
 |c::t=>(match Wx5 c with
  |some q=>TS q t
  |none=>true)&&TO t
theorem Qg3{c:HM}{r:GO}{q:Nat}(h:c.add=some r)(hq:HV q r=true):Wx5 c=some q:=by
 unfold Wx5;rw [h];cases r with
 |aka q' T sz n f=>
  have:q'=q:=GZ hq;rw [this]
 |_=>simp [HV] at hq
def TX(nx0:Nat)(c:HM):Bool:=(match c.upd with
 |some (_,r)=> !O8 r
 |none=>true)&&(match c.add with
 |some (.aka q _ _ _ _)=>Nat.blt q nx0
 |_=>true)
def u9(nx0:Nat)(m:H2)(W:List HM):Bool:=m.all (λp=> !O8 p.2)&&(W.all (TX nx0)&&TO W)
structure Zc6 (nx0:Nat) (m:H2) (W:List HM):Prop where
 m0: ∀p∈m,O8 p.2=false
 upd: ∀(i:Nat) (c:HM) (j:Nat) (r:GO),W[i]? =some c->c.upd=some (j,r)->O8 r=false
 low: ∀(i:Nat) (c:HM) (r:GO) (q:Nat),W[i]? =some c->c.add=some r->HV q r=true->q<nx0
 one: ∀(i j:Nat) (ci cj:HM) (ri rj:GO) (q:Nat),W[i]? =some ci->W[j]? =some cj->ci.add=some ri->cj.add=some rj->HV q ri=true->HV q rj=true->i=j
theorem jZ{q:Nat}: ∀{l:List HM},TS q l=true-> ∀(i:Nat) (c:HM),l[i]? =some c->Wx5 c≠some q
 |[],_,i,c,h=>by simp at h
 |c0::t,h,i,c,hc=>by
  simp only [TS,GU] at h;cases i with
  |zero=>
   simp at hc;subst hc;intro he;have:=h.1;rw [he] at this;simp at this
  |succ i=>exact jZ h.2 i c (by simpa using hc)
theorem NV: ∀{l:List HM},TO l=true-> ∀(i j:Nat) (ci cj:HM) (ri rj:GO) (q:Nat),l[i]? =some ci->l[j]? =some cj->ci.add=some ri->cj.add=some rj->HV q ri=true->HV q rj=true->i=j
 |[],_,i,_,ci,_,_,_,_,h,_,_,_,_,_=>by simp at h
 |c0::t,h,i,j,ci,cj,ri,rj,q,h1,h2,h3,h4,h5,h6=>by
  simp only [TO,GU] at h;have e1:=Qg3 h3 h5;have e2:=Qg3 h4 h6;cases i with
  |zero=>
   cases j with
   |zero=>rfl
   |succ j=>
    simp at h1;subst h1;have:=h.1;rw [e1] at this;exact absurd e2 (jZ this j cj (by simpa using h2))
  |succ i=>
   cases j with
   |zero=>
    simp at h2;subst h2;have:=h.1;rw [e2] at this;exact absurd e1 (jZ this i ci (by simpa using h1))
   |succ j=>rw [NV h.2 i j ci cj ri rj q (by simpa using h1) (by simpa using h2) h3 h4 h5 h6]
theorem mC{nx0:Nat}{m:H2}{W:List HM}(h:u9 nx0 m W=true):Zc6 nx0 m W:=by
 simp only [u9,GU] at h;obtain ⟨h1,h2,h3⟩:=h;have hl: ∀(i:Nat) (c:HM),W[i]? =some c->TX nx0 c=true:=λi c hc=>B1.1 h2 c (F5 hc);refine ⟨λp hp=>by simpa using B1.1 h1 p hp,λi c j r hc hu=>?_,λi c r q hc Z hq=>?_,NV h3⟩
 have:=hl i c hc;simp only [TX,GU] at this;have h:=this.1;rw [hu] at h;simpa using h;have:=hl i c hc;simp only [TX,GU] at this;have h:=this.2;rw [Z] at h;cases r with
 |aka q' T sz n f=>
  simp only [Aw] at h;have:q'=q:=GZ hq;omega
 |_=>simp [HV] at hq
def Xh1(P:Program)(G:List (Nat×Spec))(X:Ext)(ops:List Oper)(s:St):VM St:=
 match fU s.σ.length ops ops 0 with
 |false=> .fail
 |true=>(jC P G X ops (HG ops []) s.σ s.m s.nx (BV (HG ops []) ops.length) (ops.take (BV (HG ops []) ops.length)) 0 [] []).bind λp=>match u9 s.nx s.m p.1 with
  |false=> .fail
  |true=>Wd1 P G X ops (ops.drop (BV (HG ops []) ops.length))
   {s with σ:=gW ops (BV (HG ops []) ops.length) p.1 p.2 s.σ 0,m:=RW s.nx p.1 p.1 0++s.m,nx:=s.nx+BV (HG ops []) ops.length}
theorem OT{p q:Nat->Bool}: ∀{l:List Nat},(∀i∈l,q i=true->p i=true)-> ∀{i},i∈l->p i=true->q i=false->l.countP q<l.countP p
 |[],_,_,h,_,_=>by cases h
 |a::l,hle,i,O,hp,hq=>by
  have hle':l.countP q<=l.countP p:=List.countP_mono_left λx hx=>hle x (HL _ hx);simp only [List.countP_cons];rcases GM.1 O with rfl|O;rw [hp,hq];simp;omega;have:=OT (λx hx=>hle x (HL _ hx)) O hp hq;have h2:(if q a=true then 1 else 0)<=(if p a=true then 1 else 0):=by
   by_cases hqa:q a=true;rw [hqa,hle a GD hqa];exact Am _;simp [hqa]
  omega
def unl(n:Nat)(L:Array Bool):Nat:=(List.range n).countP λi=> !L.getD i true
theorem HR{ops:Array Oper}{L:Array Bool}{i:Nat}(h:i∈Region.ready .any ops L):i<ops.size/\L.getD i true=false/\ ∃o,ops[i]? =some o/\ ∀j∈HU o,inS L j:=by
 unfold Region.ready at h;rw [List.mem_filter] at h;obtain ⟨h1,h2⟩:=h;simp only [GU,Ax,List.mem_range] at h1 h2;obtain ⟨h3,h4⟩:=h2;refine ⟨h1,h3,ops[i],by simp [h1],λj hj=>?_⟩
 have ho:ops[i]? =some ops[i]:=by simp [h1]
 rw [ho] at h4;simp only [Bt,GS] at h4;simp only [HU,List.mem_map,List.mem_filter] at hj;obtain ⟨ed,⟨he1,he2⟩,rfl⟩:=hj;have:=Array.all_eq_true_iff_forall_mem.1 h4 ed (by simpa using he1)
 simpa [he2,inS] using this
theorem AO{ro:Option Nat}{n:Nat}{P:Program}{ops:Array Oper}{Q:Exit->Act->World->Prop}(Inv:Array Bool->Act->World->Prop)
  (step: ∀L a w i,Inv L a w->i∈Region.ready .any ops L->wpOpIn (fr ro) n P ops Q i (λa' w'=>Inv (L.setIfInBounds i true) a' w') a w)
  (done: ∀L a w,Inv L a w->Region.ready .any ops L=[]->Q .normal a w)(hsz: ∀L a w,Inv L a w->L.size=ops.size):
  ∀(fuel:Nat) (L:Array Bool) (a:Act) (w:World),Inv L a w->unl ops.size L<=fuel->wpAnyIn (fr ro) n P .any ops Q fuel L a w
 | 0,L,a,w,hI,hu=>by
  have Z:Region.ready .any ops L=[]:=by
   rw [List.eq_nil_iff_forall_not_mem];intro i O;obtain ⟨h1,h2,_⟩:=HR O;have:0<unl ops.size L:=by
    unfold unl;rw [List.countP_pos_iff];exact ⟨i,List.mem_range.2 h1,by rw [h2];rfl⟩
   omega
  exact ⟨Z,done L a w hI Z⟩
 |fuel+1,L,a,w,hI,hu=>by
  refine ⟨done L a w hI,λi O=>?_⟩;obtain ⟨h1,h2,_⟩:=HR O;have hLs:=hsz L a w hI;refine wpOpIn_mono (λa' w' hI'=>AO Inv step done hsz fuel _ a' w' hI' ?_) (step L a w i hI O);have:unl ops.size (L.setIfInBounds i true)<unl ops.size L:=by
   unfold unl;refine OT (λj hj hq=>?_) (List.mem_range.2 h1) (by rw [h2];rfl) ?_
   by_cases hij:i=j;subst hij;simp [P2,hLs,h1] at hq;simpa [P2,Array.getElem?_setIfInBounds,hij] using hq;simp [P2,hLs,h1]
  omega
theorem UQ{L:Array Bool}{i k:Nat}(O:i<L.size):inS (L.setIfInBounds i true) k↔k=i\/inS L k:=by
 unfold inS;simp only [P2,Array.getElem?_setIfInBounds];by_cases h:i=k;subst h;simp [O];simp [h,Ne.symm h]
theorem BU{L:Array Bool}{i:Nat}(O:i<L.size)(h:L.getD i true=false): ¬inS L i:=by
 unfold inS;simp [P2,O] at h ⊢;exact h
theorem M4{nx0 mask:Nat}{all:List HM}: ∀{W:List HM} {j0:Nat} {p:Nat×GO},p∈FS nx0 mask all W j0-> ∃j,∃c:HM,W[j]? =some c/\mask.testBit (j0+j)=true/\p.1=nx0+(j0+j)/\c.add=some p.2/\kJ mask (j0+j) all 0=false
 |[],_,_,h=>by simp [FS] at h
 |c::W,j0,p,h=>by
  have tl:p∈FS nx0 mask all W (j0+1)-> ∃j,∃c':HM,(c::W)[j]? =some c'/\mask.testBit (j0+j)=true/\p.1=nx0+(j0+j)/\c'.add=some p.2/\kJ mask (j0+j) all 0=false:=by
   intro h;obtain ⟨j,c',h1,h2,h3,h4,h5⟩:=M4 h;exact ⟨j+1,c',by simpa using h1,by rw [show j0+(j+1)=j0+1+j by omega];exact h2,by rw [show j0+(j+1)=j0+1+j by omega];exact h3,h4,by rw [show j0+(j+1)=j0+1+j by omega];exact h5⟩
  unfold FS at h;split at h;rename_i hb;split at h;rename_i r Z;split at h;exact tl h;rename_i hea;rcases GM.1 h with rfl|h;exact ⟨0,c,rfl,by simpa using hb,rfl,Z,hea⟩
  exact tl h;exact tl h;exact tl h
section
variable {P:Program}{G:List (Nat×Spec)}{X:Ext}{ops:Array Oper}{c:Cx}{w0:World}{T:Nat->Prop}{s0:St}{W:List HM}{dec:List (Nat×Bool)}
def F9(ops:List Oper)(σ0:List AV)(W:List HM)(L:Array Bool)(t:Nat):AV:=match DE t ops 0 with
 |some k=>if L.getD k false=true then (W.getD k DB).val else σ0.getD t .top
 |none=>σ0.getD t .top
structure uB (ops:Array Oper) (c:Cx) (w0:World) (T:Nat->Prop) (s0:St) (W:List HM) (mm:Nat) (L:Array Bool) (a:Act) (w:World):Prop where
 size:L.size=ops.size
 dc:DC ops.toList L
 lt: ∀k,inS L k->k<mm
 rel: ∃e,UY e w0.heap.size w/\Below w0.heap.size w0 w/\UV e s0.m w/\(∀j c,inS L j->W[j]? =some c-> ∀r,c.add=some r->(∀i ci,inS L i->W[i]? =some ci->ci.eat≠some j)-> ∃r'',GH e w (s0.nx+j) r''/\(∀i ci r',inS L i->W[i]? =some ci->ci.upd=some (j,r')->r''=r')/\((∀i ci r',inS L i->W[i]? =some ci->ci.upd≠some (j,r'))->r''=r))/\
  (∀k,e.live k->k<s0.nx\/ ∃i,inS L i/\k=s0.nx+i)/\((∀b,T b->b<w0.heap.size/\ ¬e.ro b)/\Xt c e s0.sv a.defers w)/\a.tmps.size=s0.σ.length/\ ∀t v,a.tmps[t]? =some v->Rep e w (F9 ops.toList s0.σ W L t) v
theorem Rep.litOf{e:UL}{w:World}{d:Bool}{v:Value}(h:Rep e w (.x (.bool d)) v):Rep e w (.lit d) v:=by rw [h.x_inv];exact .lit d
section
variable {M:List Nat}
theorem fW{mm:Nat}{σ0:List AV}{m0:H2}{nx0:Nat}{opsL:List Oper}{o:Oper}{i j:Nat}{r:GO}{ns:List Prop}{W:List HM}{dec:List (Nat×Bool)}(h:SS P opsL M σ0 m0 nx0 mm o i W dec=some (ns,j,r)):
  ∃t x y off m',o.op= .store t x y/\LO opsL M σ0 W dec i x= .ptr (nx0+j) off/\O4 M mm i j=true/\zG P (FS nx0 (M.getD i 0) W W 0++m0) t (.ptr (nx0+j) off) (LO opsL M σ0 W dec i y)=some (ns,m')/\DG m' (nx0+j)=some r:=by
 unfold SS at h;split at h;rename_i t x y ho;split at h;rename_i id off hx;split at h;rename_i hb;simp only [GU] at hb;have hle:=qR hb.1;split at h;rename_i ns' m' hst;split at h;rename_i r' hg;simp only [HE,FF] at h;obtain ⟨rfl,rfl,rfl⟩:=h;have e1:nx0+(id-nx0)=id:=VJ;exact ⟨t,x,y,off,m',ho,by rw [e1];exact hx,hb.2,by rw [e1];exact hst,by rw [e1];exact hg⟩
 cases h;cases h;cases h;cases h;cases h
theorem Qz8{σ0:List AV}{m0:H2}{nx0 mm:Nat}{opsL:List Oper}(HZ:LZ P G X opsL M σ0 m0 nx0 mm W dec){i j:Nat}{c:HM}{r:GO}(hc:W[i]? =some c)(ho:i<opsL.length)(hu:c.upd=some (j,r)):O4 M mm i j=true:=by
 have O:i<W.length:=(FV.1 hc).1;have hg:W.getD i DB=c:=by simp [List.getD,hc]
 obtain ⟨dec',_,h|h⟩:=HZ.2 i opsL[i] O (D0 ho);rcases h.1 with ⟨ns,_,hn,_⟩|⟨ns,j',r',hst,he,_⟩|⟨ns,val,r',eat,hst,he,_⟩|⟨t,val,_,he,_⟩|⟨ns,val,eat,_,he,_⟩|⟨ns,val,r',_,he,_⟩;rw [hg,hu] at hn;cases hn;rw [hg] at he;subst he;simp only [HE,FF] at hu;obtain ⟨rfl,rfl⟩:=hu;obtain ⟨_,_,_,_,_,_,_,hl,_⟩:=fW hst;exact hl;rw [hg] at he;subst he;cases hu;rw [hg] at he;subst he;cases hu;rw [hg] at he;subst he;cases hu;rw [hg] at he;subst he;cases hu;rw [hg] at h;rw [h.1] at hu;cases hu
theorem yE{mm:Nat}{σ0:List AV}{m0:H2}{nx0:Nat}{opsL:List Oper}{o:Oper}{i:Nat}{val:AV}{r:GO}{eat:Option Nat}{ns:List Prop}{W:List HM}{dec:List (Nat×Bool)}(h:Qu6 P opsL M σ0 m0 nx0 mm o i W dec=some (ns,val,r,eat)):
  ∃c s x t tl,o.op= .call c/\c.callee= .builtin .append/\c.args.toList=[s,x]/\c.argTypes.toList=[t,t]/\FY P (nx0+i) (FS nx0 (M.getD i 0) W W 0++m0) t (LO opsL M σ0 W dec i s) (LO opsL M σ0 W dec i x)=some (ns,val,(nx0+i,r)::tl)/\
   ((∃j,eat=some j/\LO opsL M σ0 W dec i s= .row (nx0+j)/\Qs7 M mm i j=true)\/(eat=none/\ ∃v,LO opsL M σ0 W dec i s= .x v)):=by
 have hid: ∀{id:Nat} {m m':H2} {t:TypeId} {s x v:AV} {ns:List Prop} {p:Nat} {r:GO} {tl:H2},FY P id m t s x=some (ns,v,(p,r)::tl)->p=id:=by
  intro id m m' t s x v ns p r tl h;unfold FY at h
  repeat' split at h
  all_goals first|(simp only [HE,FF,List.cons.injEq] at h;exact h.2.2.1.1.symm)|cases h
 unfold Qu6 at h;split at h;rename_i c ho;split at h;rename_i s x t t' hc ha hta;split at h;rename_i htt;have:t=t':=GZ htt;subst this;split at h;rename_i id hs;split at h;rename_i hb;simp only [GU] at hb;have hle:=qR hb.1;split at h;rename_i ns' v' p r' tl hap;simp only [HE,FF] at h;obtain ⟨rfl,rfl,rfl,rfl⟩:=h;have hp:=hid (m':=[]) hap;subst hp;exact ⟨c,s,x,t,tl,ho,hc,ha,hta,by rw [hs];exact hap,.inl ⟨id-nx0,rfl,by rw [hs];congr 1;omega,hb.2⟩⟩
 cases h;cases h;rename_i v hs;split at h;rename_i ns' v' p r' tl hap;simp only [HE,FF] at h;obtain ⟨rfl,rfl,rfl,rfl⟩:=h;have hp:=hid (m':=[]) hap;subst hp;exact ⟨c,s,x,t,tl,ho,hc,ha,hta,by rw [hs];exact hap,.inr ⟨rfl,v,hs⟩⟩
 cases h;cases h;cases h;cases h;cases h
theorem S2{mm:Nat}{σ0:List AV}{m0:H2}{nx0:Nat}{opsL:List Oper}{o:Oper}{i:Nat}{val:AV}{eat:Option Nat}{ns:List Prop}{W:List HM}{dec:List (Nat×Bool)}(h:Xo7 P opsL M σ0 m0 nx0 mm X o i W dec=some (ns,val,eat)):
  ∃v0 T sz n f,Qu6 P opsL M σ0 m0 nx0 mm o i W dec=some (ns,v0,.row T sz n f,eat)/\val= .lst sz n f:=by
 unfold Xo7 at h;split at h;split at h;split at h;rename_i ns' v0 T sz n f eat' hap;simp only [HE,FF] at h;obtain ⟨rfl,rfl,rfl⟩:=h;exact ⟨v0,T,sz,n,f,hap,rfl⟩;cases h;cases h;cases h
theorem Qu5{σ0:List AV}{m0:H2}{nx0:Nat}{opsL:List Oper}{o:Oper}{i:Nat}{val:AV}{r:GO}{ns:List Prop}{W:List HM}{dec:List (Nat×Bool)}(h:Xo8 P opsL M σ0 m0 nx0 o i W dec=some (ns,val,r)):
  ∃c s x t q,o.op= .call c/\c.callee= .builtin .append/\c.args.toList=[s,x]/\c.argTypes.toList=[t,t]/\LO opsL M σ0 W dec i s= .row q/\q<nx0/\val= .row (nx0+i)/\
   y5 P (nx0+i) (FS nx0 (M.getD i 0) W W 0++m0) t q (LO opsL M σ0 W dec i x)=some (ns,r):=by
 unfold Xo8 at h;split at h;rename_i c ho;split at h;rename_i s x t t' hc ha hta;split at h;rename_i htt;have:t=t':=GZ htt;subst this;split at h;rename_i id hs;split at h;rename_i hb;split at h;rename_i ns' r' hap;simp only [HE,FF] at h;obtain ⟨rfl,rfl,rfl⟩:=h;exact ⟨c,s,x,t,id,ho,hc,ha,hta,hs,by simpa [Aw] using hb,rfl,hap⟩
 cases h;cases h;cases h;cases h;cases h;cases h
end
theorem TN{id:Nat}{m m':H2}{t:TypeId}{s x val:AV}{ns:List Prop}(h:FY P id m t s x=some (ns,val,m')):val= .row id:=by
 unfold FY at h;split at h;split at h;split at h;split at h;split at h;simp only [HE,FF] at h;exact h.2.1.symm;cases h;cases h;cases h;cases h;cases h
theorem Wt9{M:List Nat}{σ0:List AV}{m0:H2}{nx0 mm:Nat}{opsL:List Oper}(HZ:LZ P G X opsL M σ0 m0 nx0 mm W dec){i j:Nat}{c:HM}(hc:W[i]? =some c)(ho:i<opsL.length)(hu:c.eat=some j):Qs7 M mm i j=true:=by
 have O:i<W.length:=(FV.1 hc).1;have hg:W.getD i DB=c:=by simp [List.getD,hc]
 obtain ⟨dec',_,h|h⟩:=HZ.2 i opsL[i] O (D0 ho);rcases h.1 with ⟨ns,_,_,hn,_⟩|⟨ns,j',r',hst,he,_⟩|⟨ns,val,r',eat,hst,he,_⟩|⟨t,val,_,he,_⟩|⟨ns,val,eat,hsz,he,_⟩|⟨ns,val,r',_,he,_⟩;rw [hg,hu] at hn;cases hn;rw [hg] at he;subst he;cases hu;rw [hg] at he;subst he;simp only at hu;subst hu;obtain ⟨_,_,_,_,_,_,_,_,_,_,h|h⟩:=yE hst;obtain ⟨j',h1,_,h3⟩:=h;cases h1;exact h3;exact absurd h.1 VT;rw [hg] at he;subst he;cases hu;rw [hg] at he;subst he;simp only at hu;subst hu;obtain ⟨_,_,_,_,_,hst,_⟩:=S2 hsz;obtain ⟨_,_,_,_,_,_,_,_,_,_,h|h⟩:=yE hst;obtain ⟨j',h1,_,h3⟩:=h;cases h1;exact h3;exact absurd h.1 VT;rw [hg] at he;subst he;cases hu;rw [hg] at h;rw [h.1] at hu;cases hu
theorem sD{X:Ext}(hXc:(∀p∈X.C,Enters P p.1/\ ∀avs t,p.2 avs=some t->UN P p.1 avs t)/\(∀p∈X.F,Enters P p.1/\ ∀avs ns T sz n g,p.2 avs=some (ns,T,sz,n,g)->(∀q∈ns,q)->DO P p.1 avs T sz n g)/\ ∀p∈X.D,Enters P p.1/\ ∀avs t,p.2 avs=some t->PJ P p.1 avs t){e:UL}{B:Nat}{w:World}{m:H2}{id:Nat}{ρ:Operand->AV}{o:Oper}{a:Act}{t:VM (AV×Option GO)}{val:AV×Option GO}
  (h:lY X id ρ o.op=some t)(ht:t.sat (λr=>r=val))(hE:UY e B w)(hB:B<=w.heap.size)(hm:UV e m w)(hid: ¬e.live id)(Z: ∀x,Rep e w (ρ x) (a.eval x)){ro:Option Nat}{n:Nat}
  {K:Act->World->Prop}{Q:Exit->Act->World->Prop}(hK: ∀v w',LM e B w m id val.1 val.2 v w'->K (a.put o.dst v) w'):o.wpIn (fr ro) n P a w K Q:=by
 obtain ⟨dst,op,type,pos,after,guard⟩:=o;cases op<;>try (simp [lY] at h;done)
 case call c=>
  obtain ⟨callee,args,argTypes⟩:=c;have ha:=U3.ops Z args.toList;cases callee<;>try (simp [lY] at h;done)
  case value f=>
   simp only [lY] at h;have hf:=Z f;split at h;rename_i g first caps hfe
   rw [hfe] at hf;obtain ⟨us,us',hv,r1,r2⟩:=hf.fn_inv;have HZ:U3 e w (first++args.toList.map ρ++caps) (us++args.toList.map a.eval++us'):=(r1.append ha).append r2
   split at h;rename_i FP;have DP:Enters P g->(execOp a.eval ⟨dst,.call ⟨.value f,args,argTypes⟩,type,pos,after,guard⟩).run P w= .ok (.enter g (us++args.toList.map a.eval++us').toArray) w:=by
    intro PD;have e1:(us++args.toList.map a.eval++us').toArray=us.toArray++args.map a.eval++us'.toArray:=Array.ext' VT;simp only [execOp,resolve,hv,Deferred.ofValue,At,Bv,Au,invoke];rw [e1];exact LE PD _ w
   have hidf': ∀x∈first++args.toList.map ρ++caps,Idf x:=by
    intro x hx;obtain ⟨i,O⟩:=wR.1 hx;obtain ⟨v,_,rv⟩:=HZ.get O;exact kB 6 x v rv (B1.1 FP x hx)
   split at h;rename_i sp hsp;split at h;rename_i tr htr;cases h;obtain ⟨PD,hs⟩:=hXc.1 _ (ID hsp);have FJ:=hs _ _ htr _ (VM.sat_bind ht) e w _ (λb hb=>(hE.apart b hb).2) hE.glob hidf' HZ;refine HO (λc h=>by cases h) ?_
   unfold Oper.wp;rw [DP PD,Oper.upon_enter];refine FJ.mono λen w' hq=>?_;obtain ⟨v,rr,rfl,hQ,hb,GK⟩:=hq;have hQ:(rr,none)=val:=hQ;subst hQ;have st:Step e (e.more w w') w w':=⟨λb hlt Z=>⟨.inl Z,hb.block b hlt⟩,λ_ h=>⟨h,rfl,rfl⟩,hb.size⟩;have hE':UY (e.more w w') B w':=by
    refine ⟨?_,λb k hk=>?_,hE.glob.step st⟩;rintro b (Z|⟨h1,h2⟩);have:=hE.apart b Z;have:=hb.size;exact ⟨(hE.apart b Z).1,VJ⟩;refine ⟨?_,h2⟩;cases ho:(e.more w w').own b with
    |none=>rfl
    |some k=>have:=(hE.owned b k ho).2;omega
    have:=hE.owned b k hk;have:=hb.size;exact ⟨(hE.owned b k hk).1,VJ⟩
   have st2:Step {PE w w' with ro:=(e.more w w').ro} (e.more w w') w' w':=⟨λb _ h=>⟨h,rfl⟩,λ_ h=>False.elim h,Am _⟩
   exact hK _ _ ⟨e.more w w',hb,st,hE',λ_ _ h=>h,GK.step st2,hm.ext hb st (λ_ _ h=>h),λ_ h=> .inl h,λb h=>h.imp (λh=>h) (λh=>h.1)⟩;cases h;split at h;rename_i sp hsp;split at h;rename_i ns T sz nn l htr;cases h;obtain ⟨PD,hs⟩:=hXc.2.1 _ (Wr8 hsp);have hns:=VM.sat_needT ht;have FJ:=hs _ _ _ _ _ _ htr (GE hns.1) e w _ (λb hb=>(hE.apart b hb).2) hE.glob hidf' HZ;refine HO (λc h=>by cases h) ?_
   unfold Oper.wp;rw [DP PD,Oper.upon_enter];refine FJ.mono λen w' hq=>?_;obtain ⟨v,xs,rfl,hb,k1,k2,k3,k4⟩:=hq;have hQ:((AV.row id,some (GO.row T sz nn l)):AV×Option GO)=val:=hns.2;subst hQ;exact hK _ _ (IU hE hB hm hid hb k1 k2 k3 k4);cases h;cases h;cases h;cases h
theorem sC{X:Ext}(hXc:(∀p∈X.C,Enters P p.1/\ ∀avs t,p.2 avs=some t->UN P p.1 avs t)/\(∀p∈X.F,Enters P p.1/\ ∀avs ns T sz n g,p.2 avs=some (ns,T,sz,n,g)->(∀q∈ns,q)->DO P p.1 avs T sz n g)/\ ∀p∈X.D,Enters P p.1/\ ∀avs t,p.2 avs=some t->PJ P p.1 avs t){e:UL}{B:Nat}{w:World}{m:H2}{id:Nat}{ρ:Operand->AV}{o:Oper}{a:Act}{t:VM (AV×Option GO)}{val:AV×Option GO}
  (h:Qf4 X id m ρ o.op=some t)(ht:t.sat (λr=>r=val))(hE:UY e B w)(hB:B<=w.heap.size)(hm:UV e m w)(hid: ¬e.live id)(Z: ∀x,Rep e w (ρ x) (a.eval x)){ro:Option Nat}{n:Nat}
  {K:Act->World->Prop}{Q:Exit->Act->World->Prop}(hK: ∀v w',LM e B w m id val.1 val.2 v w'->K (a.put o.dst v) w'):o.wpIn (fr ro) n P a w K Q:=by
 unfold Qf4 at h;split at h
 ·rename_i t' hV;cases h;obtain ⟨dst,op,type,pos,after,guard⟩:=o;cases op<;>try (simp [Qf5] at hV;done)
  case call c=>
   obtain ⟨callee,args,argTypes⟩:=c;have ha:=U3.ops Z args.toList;cases callee<;>try (simp [Qf5] at hV;done)
   case value f=>
    simp only [Qf5] at hV;have hf:=Z f;split at hV;rename_i g first caps hfe
    rw [hfe] at hf;obtain ⟨us,us',hv,r1,r2⟩:=hf.fn_inv;have HZ:U3 e w (first++args.toList.map ρ++caps) (us++args.toList.map a.eval++us'):=(r1.append ha).append r2
    split at hV;rename_i sp hsp;split at hV;rename_i tr htr;cases hV;obtain ⟨PD,hs⟩:=hXc.2.2 _ (ID hsp);have gJ:=U3.map (DA m 40) (LA hE hm 40) HZ;have FJ:=hs _ _ htr _ (VM.sat_bind ht) e.view w _ (by
     rintro b (hb|⟨k,hb⟩);exact (hE.apart b hb).2;exact (hE.owned b k hb).2) (hE.glob.step (Step.view w)) (DU (RK hm 40) HZ) gJ
    have DP:(execOp a.eval ⟨dst,.call ⟨.value f,args,argTypes⟩,type,pos,after,guard⟩).run P w= .ok (.enter g (us++args.toList.map a.eval++us').toArray) w:=by
     have e1:(us++args.toList.map a.eval++us').toArray=us.toArray++args.map a.eval++us'.toArray:=Array.ext' VT;simp only [execOp,resolve,hv,Deferred.ofValue,At,Bv,Au,invoke];rw [e1];exact LE PD _ w
    refine HO (λc h=>by cases h) ?_
    unfold Oper.wp;rw [DP,Oper.upon_enter];refine FJ.mono λen w' hq=>?_;obtain ⟨v,rr,rfl,hQ,hb,GK⟩:=hq;have hQ:(rr,none)=val:=hQ;subst hQ;exact hK v w' (OU hE hm hb GK);cases hV;cases hV;cases hV
 exact sD hXc h ht hE hB hm hid Z hK
theorem Xu2(hG:VK P G)(hXc:(∀p∈X.C,Enters P p.1/\ ∀avs t,p.2 avs=some t->UN P p.1 avs t)/\(∀p∈X.F,Enters P p.1/\ ∀avs ns T sz n g,p.2 avs=some (ns,T,sz,n,g)->(∀q∈ns,q)->DO P p.1 avs T sz n g)/\ ∀p∈X.D,Enters P p.1/\ ∀avs t,p.2 avs=some t->PJ P p.1 avs t)(j9:fU s0.σ.length ops.toList ops.toList 0=true){mm:Nat}(HZ:LZ P G X ops.toList (HG ops.toList []) s0.σ s0.m s0.nx mm W dec)(HX:W.length=mm)(hmm:mm<=ops.size)(rF: ∀p∈s0.m,p.1<s0.nx)(hAk:Zc6 s0.nx s0.m W){L:Array Bool}{a:Act}{w:World}{i:Nat}{Q:Exit->Act->World->Prop}
  (hI:uB ops c w0 T s0 W mm L a w)(O:i∈Region.ready .any ops L)(him:i<mm){ro:Option Nat}{n:Nat}:wpOpIn (fr ro) n P ops Q i (λa' w'=>uB ops c w0 T s0 W mm (L.setIfInBounds i true) a' w') a w:=by
 obtain ⟨hin,hun,o,ho,gM⟩:=HR O;obtain ⟨e,hE,hB,hm0,yX,yV,BW,zO,qM⟩:=hI.rel;have hoL:ops.toList[i]? =some o:=by simpa using ho
 have hni: ¬inS L i:=BU (by rw [hI.size];exact hin) hun
 have pN: ∀k,((HG ops.toList []).getD i 0).testBit k=true->inS L k:=λk hk=>w8 hI.dc i o hoL gM k hk;have iN: ∀k,((HG ops.toList []).getD k 0).testBit i=true-> ¬inS L k:=by
  intro k hk hin';rcases An k ops.size with hkn|hkn;have hok:ops.toList[k]? =some ops[k]:=by simp [hkn]
  exact hni (w8 hI.dc k _ hok (hI.dc k _ hok hin') i hk);have:L.getD k false=false:=by
   rw [P2,Array.getElem?_eq_none (by rw [hI.size];exact hkn)];rfl
  unfold inS at hin';rw [this] at hin';cases hin'
 obtain ⟨dec',hdec',yJ⟩:=HZ.2 i o VJ hoL
 have N0: ∀k,inS L k-> ∀t v,DE t ops.toList 0=some k->a.tmps[t]? =some v->Rep e w ((W.getD k DB).val) v:=by
  intro k hk t v hwt hv;have:=qM t v hv;unfold F9 at this;rw [hwt] at this;simp only at this;rw [if_pos (show L.getD k false=true from hk)] at this;exact this
 have hσ: ∀t v,a.tmps[t]? =some v->(∀k,DE t ops.toList 0=some k-> ¬inS L k)->Rep e w (s0.σ.getD t .top) v:=by
  intro t v hv hno;have:=qM t v hv;unfold F9 at this;cases hwt:DE t ops.toList 0 with
  |none=>rw [hwt] at this;exact this
  |some k=>rw [hwt] at this;simp only at this;rw [if_neg (show ¬L.getD k false=true from hno k hwt)] at this;exact this
 have kC: ∀k,k<i->(W.take i).getD k DB=W.getD k DB:=by
  intro k hk;simp [List.getD,hk]
 have hρ: ∀x,Rep e w (LO ops.toList (HG ops.toList []) s0.σ (W.take i) dec' i x) (a.eval x):=by
  intro x;cases x with
  |tmp t=>
   simp only [Act.eval];cases hv:a.tmps[t]? with
   |none=>
    have hge:s0.σ.length<=t:=by
     rw [←zO];rcases An t a.tmps.size with h'|h';rw [Array.getElem?_eq_getElem h'] at hv;cases hv;exact h'
    have h0:s0.σ.getD t .top= .top:=by rw [List.getD,Br hge];rfl
    rw [P2,hv];simp only [LO];split;rw [h0];exact .top _;rename_i k hwt;obtain ⟨_,o',ho',hd'⟩:=RD hwt;have:=((P8 j9 k o' (by simpa using ho')).1 t hd').2
    omega
   |some v=>
    rw [P2,hv];simp only [GS,LO];split;rename_i hwt;exact hσ t v hv (λk hk=>by rw [hwt] at hk;cases hk)
    rename_i k hwt;split;rename_i hb;have hk:=pN k hb;have Z:=N0 k hk t v hwt hv;simp only [Qs8];cases hld:RS dec' k with
    |some d=>
     have:=(HZ.1 k d (hdec' k d hld)).2;rw [this] at Z;exact Z.litOf
    |none=>
     rcases An k i with hki|hki;rw [kC k hki];exact Z;have:(W.take i).getD k DB=DB:=by rw [List.getD,Br (by simp;omega)];rfl
     rw [this];exact .top _
    rename_i hb;split;rename_i hb2;refine hσ t v hv (λk' hk'=>?_);rw [hwt] at hk';cases hk';simp only [Bl] at hb2;rcases hb2 with h2|h2;rw [GZ h2];exact hni;exact iN k h2;exact .top _
  |const v=>exact rL v
  |global g=>exact .x _
  |func f=>exact .fn (.func f) [] [] [] [] rfl (λi a v h=>by simp at h) rfl (λi a v h=>by simp at h)
 have Wp1: ¬e.live (s0.nx+i):=by
  intro hl;rcases yV _ hl with h|⟨i',h1,h2⟩;omega;have:i'=i:=VJ;subst this;exact hni h1
 have iW: ∀i' c' j' r',W[i']? =some c'->c'.upd=some (j',r')->O4 (HG ops.toList []) mm i' j'=true:=by
  intro i' c' j' r' h1 h2;exact Qz8 HZ h1 (by have:=(FV.1 h1).1;simp;omega) h2
 have heat: ∀i' c' j',W[i']? =some c'->c'.eat=some j'->Qs7 (HG ops.toList []) mm i' j'=true:=by
  intro i' c' j' h1 h2;exact Wt9 HZ h1 (by have:=(FV.1 h1).1;simp;omega) h2
 have hmi:UV e (FS s0.nx ((HG ops.toList []).getD i 0) (W.take i) (W.take i) 0++s0.m) w:=by
  intro p hp;rcases List.mem_append.1 hp with hp|hp;obtain ⟨j,c,h1,h2,h3,h4,h5⟩:=M4 hp;simp only [Ap] at h2 h3 h5;have hj:W[j]? =some c:=by
   rw [List.getElem?_take] at h1;split at h1;exact h1;cases h1
  rw [h3];have Zp0: ∀i' ci,inS L i'->W[i']? =some ci->ci.eat≠some j:=by
   intro i' ci hi' hci he;have hne:i≠i':=λhq=>hni (hq▸hi');rcases (Qs6 (heat i' ci j hci he)).2.2 i him hne h2 with ⟨g1,g2⟩|g;have:(W.take i)[i']? =some ci:=by rw [List.getElem?_take,if_pos g2];exact hci
   rw [rK (k0:=0) this he (by simpa using g1)] at h5
   cases h5;exact iN i' g hi'
  have Jj5: ∀i' c' r',inS L i'->W[i']? =some c'->c'.upd≠some (j,r'):=by
   intro i' c' r' hi' hc' hu;obtain ⟨g1,g2⟩:=(PS (iW i' c' j r' hc' hu)).2.2 i him (λhe=>hni (he▸hi')) h2;have:(W.take i)[i']? =some c':=by rw [List.getElem?_take,if_pos g2];exact hc'
   rw [IR (k0:=0) this hu (by simpa using g1)] at h5
   cases h5
  obtain ⟨r'',hh,_,hk⟩:=yX j c (pN j h2) hj _ h4 Zp0;rw [hk Jj5] at hh;exact hh;exact hm0 p hp
 have Xk7: ∀(q:Nat) (c:HM) (res r'':GO),W[q]? =some c->c.add=some res->(∀i ci r',inS L i->W[i]? =some ci->ci.upd=some (q,r')->r''=r')->((∀i ci r',inS L i->W[i]? =some ci->ci.upd≠some (q,r'))->r''=res)->(∀k,s0.nx<=k->HV k r''=false)/\(∀k,HV k r''=true->HV k res=true):=by
  intro q c res r'' hc F3 hk1 hk2;rcases Classical.em (∀i ci r',inS L i->W[i]? =some ci->ci.upd≠some (q,r')) with h|h;obtain rfl:=hk2 h;refine ⟨λk hk=>?_,λ_ h=>h⟩;cases hq:HV k r'' with
  |false=>rfl
  |true=>have:=hAk.low q c _ k hc F3 hq;omega
  have hex: ∃i ci r',inS L i/\W[i]? =some ci/\ci.upd=some (q,r'):=by
   apply Classical.byContradiction;intro hno;exact h (λi ci r' h1 h2 h3=>hno ⟨i,ci,r',h1,h2,h3⟩)
  obtain ⟨i,ci,r',h1,h2,h3⟩:=hex;obtain rfl:=hk1 i ci r' h1 h2 h3;have:=hAk.upd i ci _ _ h2 h3;exact ⟨λk _=>xU this k,λk h=>by rw [xU this k] at h;cases h⟩
 have hiL:i<L.size:=by rw [hI.size];exact hin
 have hoi:W[i]? =some (W.getD i DB):=by
  have:i<W.length:=VJ;simp [List.getD,D0 this]
 have fin:(W.getD i DB).upd=none-> ∀v w',LM e w0.heap.size w (FS s0.nx ((HG ops.toList []).getD i 0) (W.take i) (W.take i) 0++s0.m) (s0.nx+i) (W.getD i DB).val (W.getD i DB).add v w'->uB ops c w0 T s0 W mm (L.setIfInBounds i true) (a.put o.dst v) w':=by
  rintro Xk5 v w' ⟨e',hb,st,hE',H9,GK,hm',hlv,hro⟩;refine ⟨by simp [hI.size],?_,?_,e',hE',hB.trans (hb.mono hB.size),?_,?_,?_,⟨λb hT=>⟨(BW.1 b hT).1,λh=>?_⟩,by rw [put_defers];exact BW.2.step st⟩,?_,?_⟩
  intro k o' ho' hk j hj;rw [UQ hiL] at hk ⊢;rcases hk with rfl|hk;rw [hoL] at ho';cases ho';exact .inr (gM j hj);exact .inr (hI.dc k o' ho' hk j hj);intro k hk;rw [UQ hiL] at hk;rcases hk with rfl|hk;exact him;exact hI.lt k hk;exact hm0.ext hb st H9;intro j c hj hc r Z hne;rw [UQ hiL] at hj;rcases hj with rfl|hj;rw [hoi] at hc;cases hc;refine ⟨r,hm' (s0.nx+j,r) ?_,?_,λ_=>rfl⟩;rw [Z];exact GD;intro i' ci r' hi' hci hu;exfalso;rw [UQ hiL] at hi';rcases hi' with rfl|hi';rw [hoi] at hci;cases hci;rw [Xk5] at hu;cases hu;exact iN i' (PS (iW i' ci j r' hci hu)).1 hi';obtain ⟨r'',hh,hk1,hk2⟩:=yX j c hj hc r Z (λi' ci hi'=>hne i' ci ((UQ hiL).2 (.inr hi')));refine ⟨r'',hh.ext hb st H9,?_,λhno=>hk2 (λi' ci r' hi' hci=>hno i' ci r' ((UQ hiL).2 (.inr hi')) hci)⟩;intro i' ci r' hi' hci hu;rw [UQ hiL] at hi';rcases hi' with rfl|hi';rw [hoi] at hci;cases hci;rw [Xk5] at hu;cases hu;exact hk1 i' ci r' hi' hci hu;intro k hk;rcases hlv k hk with hk|rfl;rcases yV k hk with h|⟨i',h1,h2⟩;exact .inl h;exact .inr ⟨i',(UQ hiL).2 (.inr h1),h2⟩;exact .inr ⟨i,(UQ hiL).2 (.inl rfl),rfl⟩;rcases hro b h with h|h;exact (BW.1 b hT).2 h;have:=(BW.1 b hT).1;have:=hB.size;omega;cases hd:o.dst with
  |none=>exact zO
  |some d=>simp [Act.put,zO]
  intro t u hu;have other:o.dst≠some t->a.tmps[t]? =some u->Rep e' w' (F9 ops.toList s0.σ W (L.setIfInBounds i true) t) u:=by
   intro hne hu';have:=(qM t u hu').step st;unfold F9 at this ⊢;cases hwt:DE t ops.toList 0 with
   |none=>rw [hwt] at this;exact this
   |some k=>
    rw [hwt] at this;simp only at this ⊢;have hki:k≠i:=by
     rintro rfl;obtain ⟨_,o',ho',hd'⟩:=RD hwt;simp only [Nat.sub_zero] at ho';rw [hoL] at ho';cases ho';exact hne hd'
    have e1:(L.setIfInBounds i true).getD k false=L.getD k false:=by
     simp [P2,Ne.symm hki]
    rw [e1];exact this
  cases hd:o.dst with
  |none=>rw [hd] at hu;exact other (by rw [hd];simp) hu
  |some d=>
   rw [hd] at hu;simp only [Act.put,Array.getElem?_setIfInBounds] at hu;by_cases hdt:d=t;subst hdt;obtain ⟨hw1,hw2⟩:=(P8 j9 i o hoL).1 d hd;rw [if_pos rfl,if_pos (by rw [zO];exact hw2)] at hu
   cases hu;unfold F9;rw [hw1];simp only [Ap];rw [if_pos (show (L.setIfInBounds i true).getD i false=true from (UQ hiL).2 (.inl rfl))];exact GK;rw [if_neg hdt] at hu;exact other (by rw [hd];simpa using hdt) hu
 have guardRun: ∀j want t b,o.guard=some (j,want)->DV ops.toList o=some t->LO ops.toList (HG ops.toList []) s0.σ (W.take i) dec' i (.tmp t)= .lit b->yielded ops a.tmps j=some b:=by
  intro j want t b hg hgs hl;have Z:=hρ (.tmp t);rw [hl] at Z;have hev:=Z.lit_inv;simp only [Act.eval] at hev;have hgt:a.tmps[t]? =some (.bool b):=by
   cases hq:a.tmps[t]? with
   |none=>rw [P2,hq] at hev;simp [undef] at hev
   |some v=>rw [P2,hq] at hev;simpa using hev
  unfold DV at hgs;rw [hg] at hgs;simp only at hgs;split at hgs;rename_i p hp;have hp':ops[j]? =some p:=by simpa using hp
  unfold yielded;simp [hp',hgs,hgt];cases hgs
 have guardTup: ∀j want t l,o.guard=some (j,want)->DV ops.toList o=some t->LO ops.toList (HG ops.toList []) s0.σ (W.take i) dec' i (.tmp t)= .tup l->yielded ops a.tmps j=none:=by
  intro j want t l hg hgs hl;have Z:=hρ (.tmp t);rw [hl] at Z;obtain ⟨vs,hv,_⟩:=Z.tup_inv;simp only [Act.eval] at hv;unfold DV at hgs;rw [hg] at hgs;simp only at hgs;split at hgs;rename_i p hp;have hp':ops[j]? =some p:=by simpa using hp
  unfold yielded;simp only [hp',hgs,Option.bind_some];cases hq:a.tmps[t]? with
  |none=>rfl
  |some v=>
   rw [P2,hq] at hv;simp only [GS] at hv;subst hv;rfl
  cases hgs
 unfold wpOpIn;simp only [ho];rcases yJ with ⟨DP,hg⟩|⟨hno,j,want,t,hg,hgs,hl⟩
 ·have hw:Region.wanted o (yielded ops a.tmps)=true:=by
   rcases hg with hg|⟨j,want,t,hg,hgs,hl⟩;simp [Region.wanted,hg];simp [Region.wanted,hg,guardRun j want t want hg hgs hl]
  rw [if_pos hw];rcases DP with ⟨ns,Xl6,Xk5,_,hns⟩|⟨ns,j,r,hst,gN,hns⟩|⟨ns,val,r,eat,hap,gN,hns⟩|⟨tC,valC,hcd,Wo9,Ji9⟩|⟨ns,val,eat,hapz,gN,hns⟩|⟨ns,val,r,hape,gN,hns⟩
  rotate_left 3
  have hu:(W.getD i DB).upd=none:=by rw [Wo9]
  have hv:(W.getD i DB).val=valC.1:=by rw [Wo9]
  have hd:(W.getD i DB).add=valC.2:=by rw [Wo9]
  have fin':=fin hu;rw [hv,hd] at fin';exact sC hXc hcd Ji9 hE hB.size hmi Wp1 hρ fin'
  obtain ⟨v0,T0,sz0,n0,f0,hap,Ji6⟩:=S2 hapz;subst Ji6;obtain ⟨cc,s,x,t,tl,hop,gU,hca,hta,I9,Wp5⟩:=yE hap;obtain ⟨callee,cargs,cats⟩:=cc;simp only at gU hca hta;have hca':cargs=#[s,x]:=Array.ext' (by simpa using hca)
  have hta':cats=#[t,t]:=Array.ext' (by simpa using hta)
  subst hca';subst hta';subst gU;obtain ⟨u,w',DP,⟨e1,dY,st1,hE1,gL,hF,hlv1,hro1⟩,_⟩:=qJ (P:=P) (ty:=o.type) I9 hns hE hB.size hmi Wp1 (hρ s) (hρ x);obtain rfl:=TN I9;have iV:GH e1 w' (s0.nx+i) (.row T0 sz0 n0 f0):=hF _ _ (.inl ⟨⟨_,rfl⟩,rfl⟩);have GK:Rep (e1.sol (s0.nx+i)) w' (.lst sz0 n0 f0) u:=by
   cases gL with
   |row _ a n c hl hv=>
    rw [←hv];exact cU hE1 iV (λ_ h=> .inl h) (λ_ h=> .inr h)
  obtain ⟨e',he'⟩: ∃e',e'=e1.sol (s0.nx+i):=⟨_,rfl⟩;have st:Step e e' w w':=by rw [he'];exact st1.trans (Step.sol e1 _ w')
  have hE':UY e' w0.heap.size w':=by rw [he'];exact hE1.sol _
  rw [←he'] at GK;have hlv: ∀k,e'.live k->e.live k\/k=s0.nx+i:=by rw [he'];exact hlv1
  have hro: ∀b,e'.ro b->e.ro b\/w0.heap.size<=b:=by
   intro b hb;rw [he'] at hb;rcases hb with hb|hb;exact .inl (hro1 b hb);exact .inr (hE1.owned b _ hb).1
  have xK: ∀(k:Nat) (res:GO),(k≠s0.nx+i/\HV (s0.nx+i) res=false)->(∀j,eat=some j->k≠s0.nx+j/\HV (s0.nx+j) res=false)->GH e w k res->GH e' w' k res:=by
   intro k res hki hk hh;rw [he'];refine GH.sol hki ?_;refine hF k res (.inr ⟨hh,λq hq=>?_⟩);rcases Wp5 with ⟨j,h1,h2,_⟩|⟨_,v,h2⟩;rw [h2] at hq;cases hq;exact hk j h1;rw [h2] at hq;cases hq
  have hout':W[i]? =some ⟨.lst sz0 n0 f0,none,none,eat⟩:=by rw [hoi,gN]
  have hnew':uB ops c w0 T s0 W mm (L.setIfInBounds i true) (a.put o.dst u) w':=by
   refine ⟨by simp [hI.size],?_,?_,e',hE',hB.trans dY,?_,?_,?_,⟨λb hT=>⟨(BW.1 b hT).1,λh=>?_⟩,by rw [put_defers];exact BW.2.step st⟩,?_,?_⟩
   intro k o' ho' hk q hq;rw [UQ hiL] at hk ⊢;rcases hk with rfl|hk;rw [hoL] at ho';cases ho';exact .inr (gM q hq);exact .inr (hI.dc k o' ho' hk q hq);intro k hk;rw [UQ hiL] at hk;rcases hk with rfl|hk;exact him;exact hI.lt k hk;intro p hp;exact xK p.1 p.2 ⟨by have:=rF p hp;omega,xU (hAk.m0 p hp) _⟩ (λj _=>⟨by have:=rF p hp;omega,xU (hAk.m0 p hp) _⟩) (hm0 p hp)
   intro q c hq hc res F3 hne;rw [UQ hiL] at hq;rcases hq with rfl|hq;rw [hout'] at hc;cases hc;cases F3;obtain ⟨r'',hh,hk1,hk2⟩:=yX q c hq hc res F3 (λi' ci hi'=>hne i' ci ((UQ hiL).2 (.inr hi')));have hqi:q≠i:=λh=>hni (h▸hq);have hna:=(Xk7 q c res r'' hc F3 hk1 hk2).1;refine ⟨r'',xK _ _ ⟨VJ,hna _ VJ⟩ (λj hj=>⟨λhe=>?_,hna _ VJ⟩) hh,?_,λhno=>hk2 (λi' ci r' hi' hci=>hno i' ci r' ((UQ hiL).2 (.inr hi')) hci)⟩;have hqj:q=j:=VJ;exact hne i _ ((UQ hiL).2 (.inl rfl)) hout' (by rw [hqj];exact hj)
   intro i' ci r' hi' hci hu;rw [UQ hiL] at hi';rcases hi' with rfl|hi';rw [hout'] at hci;cases hci;cases hu;exact hk1 i' ci r' hi' hci hu;intro k hk;rcases hlv k hk with hk|rfl;rcases yV k hk with h|⟨i',h1,h2⟩;exact .inl h;exact .inr ⟨i',(UQ hiL).2 (.inr h1),h2⟩;exact .inr ⟨i,(UQ hiL).2 (.inl rfl),rfl⟩;rcases hro b h with h|h;exact (BW.1 b hT).2 h;have:=(BW.1 b hT).1;omega;cases hd:o.dst with
   |none=>exact zO
   |some d=>simp [Act.put,zO]
   intro q v hu;have other:o.dst≠some q->a.tmps[q]? =some v->Rep e' w' (F9 ops.toList s0.σ W (L.setIfInBounds i true) q) v:=by
    intro hne hu';have:=(qM q v hu').step st;unfold F9 at this ⊢;cases hwt:DE q ops.toList 0 with
    |none=>rw [hwt] at this;exact this
    |some k=>
     rw [hwt] at this;simp only at this ⊢;have hki:k≠i:=by
      rintro rfl;obtain ⟨_,o',ho',hd'⟩:=RD hwt;simp only [Nat.sub_zero] at ho';rw [hoL] at ho';cases ho';exact hne hd'
     have e1:(L.setIfInBounds i true).getD k false=L.getD k false:=by
      simp [P2,Ne.symm hki]
     rw [e1];exact this
   cases hd:o.dst with
   |none=>rw [hd] at hu;exact other (by rw [hd];simp) hu
   |some d=>
    rw [hd] at hu;simp only [Act.put,Array.getElem?_setIfInBounds] at hu;by_cases hdt:d=q;subst hdt;obtain ⟨hw1,hw2⟩:=(P8 j9 i o hoL).1 d hd;rw [if_pos rfl,if_pos (by rw [zO];exact hw2)] at hu
    cases hu;unfold F9;rw [hw1];simp only [Ap];rw [if_pos (show (L.setIfInBounds i true).getD i false=true from (UQ hiL).2 (.inl rfl)),gN];exact GK;rw [if_neg hdt] at hu;exact other (by rw [hd];simpa using hdt) hu
  refine HO (λc h=>by rw [hop] at h;cases h) ?_
  refine D4 (v:=u) (w':=w') ?_ hnew';obtain ⟨dst,op,type,pos,after,guard⟩:=o;simp only at hop;subst hop;simp [execOp,resolve,invoke,builtin,DP]
  obtain ⟨cc,s,x,t,q0,hop,gU,hca,hta,hsq,hq0,rfl,I9⟩:=Qu5 hape;obtain ⟨callee,cargs,cats⟩:=cc;simp only at gU hca hta;have hca':cargs=#[s,x]:=Array.ext' (by simpa using hca)
  have hta':cats=#[t,t]:=Array.ext' (by simpa using hta)
  subst hca';subst hta';subst gU;have rs:=hρ s;rw [hsq] at rs;obtain ⟨T0,sz0,n0,f0,hr0,hmq,u,w',DP,⟨e',dY,st,hE',GK,hF,hlv,hro⟩⟩:=rX (P:=P) (ty:=o.type) I9 hns hE hB.size hmi Wp1 rs (hρ x);subst hr0;have xK: ∀(k:Nat) (res:GO),(k=q0->uR T0 sz0 res=true)->HV q0 res=false->GH e w k res->GH e' w' k res:=by
   intro k res hk1 hk2 hh;exact hF k res (.inr ⟨hh,hk1,hk2⟩)
  have iV:GH e' w' (s0.nx+i) (.aka q0 T0 sz0 n0 f0):=hF _ _ (.inl ⟨rfl,rfl⟩);have hout':W[i]? =some ⟨.row (s0.nx+i),some (.aka q0 T0 sz0 n0 f0),none,none⟩:=by rw [hoi,gN]
  have hnew':uB ops c w0 T s0 W mm (L.setIfInBounds i true) (a.put o.dst u) w':=by
   refine ⟨by simp [hI.size],?_,?_,e',hE',hB.trans dY,?_,?_,?_,⟨λb hT=>⟨(BW.1 b hT).1,λh=>(BW.1 b hT).2 (hro b h)⟩,by rw [put_defers];exact BW.2.step st⟩,?_,?_⟩
   intro k o' ho' hk q hq;rw [UQ hiL] at hk ⊢;rcases hk with rfl|hk;rw [hoL] at ho';cases ho';exact .inr (gM q hq);exact .inr (hI.dc k o' ho' hk q hq);intro k hk;rw [UQ hiL] at hk;rcases hk with rfl|hk;exact him;exact hI.lt k hk;intro p hp;have hq:=hmq p (As _ hp);exact xK p.1 p.2 hq.1 hq.2 (hm0 p hp);intro q c hq hc res F3 hne;rw [UQ hiL] at hq;rcases hq with rfl|hq;rw [hout'] at hc;cases hc;cases F3;refine ⟨_,iV,?_,λ_=>rfl⟩;intro i' ci r' hi' hci hu;exfalso;rw [UQ hiL] at hi';rcases hi' with rfl|hi';rw [hout'] at hci;cases hci;cases hu;exact iN i' (PS (iW i' ci q r' hci hu)).1 hi';obtain ⟨r'',hh,hk1,hk2⟩:=yX q c hq hc res F3 (λi' ci hi'=>hne i' ci ((UQ hiL).2 (.inr hi')));have hna:=(Xk7 q c res r'' hc F3 hk1 hk2).2;have hqi:q≠i:=λh=>hni (h▸hq);have hqa:HV q0 r''=false:=by
    cases h5:HV q0 r'' with
    |false=>rfl
    |true=>exact absurd (hAk.one q i c _ res _ q0 hc hout' F3 rfl (hna q0 h5) (Nat.beq_refl q0)) hqi
   refine ⟨r'',xK _ _ (λh=>VJ) hqa hh,?_,λhno=>hk2 (λi' ci r' hi' hci=>hno i' ci r' ((UQ hiL).2 (.inr hi')) hci)⟩;intro i' ci r' hi' hci hu;rw [UQ hiL] at hi';rcases hi' with rfl|hi';rw [hout'] at hci;cases hci;cases hu;exact hk1 i' ci r' hi' hci hu;intro k hk;rcases hlv k hk with hk|rfl;rcases yV k hk with h|⟨i',h1,h2⟩;exact .inl h;exact .inr ⟨i',(UQ hiL).2 (.inr h1),h2⟩;exact .inr ⟨i,(UQ hiL).2 (.inl rfl),rfl⟩;cases hd:o.dst with
   |none=>exact zO
   |some d=>simp [Act.put,zO]
   intro q v hu;have other:o.dst≠some q->a.tmps[q]? =some v->Rep e' w' (F9 ops.toList s0.σ W (L.setIfInBounds i true) q) v:=by
    intro hne hu';have:=(qM q v hu').step st;unfold F9 at this ⊢;cases hwt:DE q ops.toList 0 with
    |none=>rw [hwt] at this;exact this
    |some k=>
     rw [hwt] at this;simp only at this ⊢;have hki:k≠i:=by
      rintro rfl;obtain ⟨_,o',ho',hd'⟩:=RD hwt;simp only [Nat.sub_zero] at ho';rw [hoL] at ho';cases ho';exact hne hd'
     have e1:(L.setIfInBounds i true).getD k false=L.getD k false:=by
      simp [P2,Ne.symm hki]
     rw [e1];exact this
   cases hd:o.dst with
   |none=>rw [hd] at hu;exact other (by rw [hd];simp) hu
   |some d=>
    rw [hd] at hu;simp only [Act.put,Array.getElem?_setIfInBounds] at hu;by_cases hdt:d=q;subst hdt;obtain ⟨hw1,hw2⟩:=(P8 j9 i o hoL).1 d hd;rw [if_pos rfl,if_pos (by rw [zO];exact hw2)] at hu
    cases hu;unfold F9;rw [hw1];simp only [Ap];rw [if_pos (show (L.setIfInBounds i true).getD i false=true from (UQ hiL).2 (.inl rfl)),gN];exact GK;rw [if_neg hdt] at hu;exact other (by rw [hd];simpa using hdt) hu
  refine HO (λc h=>by rw [hop] at h;cases h) ?_
  refine D4 (v:=u) (w':=w') ?_ hnew';obtain ⟨dst,op,type,pos,after,guard⟩:=o;simp only at hop;subst hop;simp [execOp,resolve,invoke,builtin,DP];exact HO (gA Xl6) (S3 hG Xl6 hns hE hB.size hmi Wp1 hρ (fin Xk5))
  obtain ⟨t,x,y,off,m',hop,hx,hln,I9,hgm⟩:=fW hst;obtain ⟨hl1,hl2,hl3⟩:=PS hln;have rx:=hρ x;rw [hx] at rx;obtain ⟨w',DP,H9,hsz,RY,dY,hm'⟩:=rA (P:=P) I9 hns hE hmi rx (hρ y);have st:=F8 hE H9 hsz RY;have hE':=L4 hE hsz st;have xK: ∀(k:Nat) (res:GO),(k≠s0.nx+j/\HV (s0.nx+j) res=false)->GH e w k res->GH e w' k res:=λk res hne hh=>P4 hE H9 hsz RY hne hh;have hjS:=pN j hl1;have hnew':uB ops c w0 T s0 W mm (L.setIfInBounds i true) (a.put o.dst undef) w':=by
   refine ⟨by simp [hI.size],?_,?_,e,hE',hB.trans dY,?_,?_,?_,⟨BW.1,by rw [put_defers];exact BW.2.step st⟩,?_,?_⟩
   intro k o' ho' hk q hq;rw [UQ hiL] at hk ⊢;rcases hk with rfl|hk;rw [hoL] at ho';cases ho';exact .inr (gM q hq);exact .inr (hI.dc k o' ho' hk q hq);intro k hk;rw [UQ hiL] at hk;rcases hk with rfl|hk;exact him;exact hI.lt k hk;intro p hp;exact xK p.1 p.2 ⟨by have:=rF p hp;omega,xU (hAk.m0 p hp) _⟩ (hm0 p hp)
   intro q c hq hc res F3 hne;rw [UQ hiL] at hq;have hqS:inS L q:=by
    rcases hq with rfl|hq;rw [hoi,gN] at hc;cases hc;cases F3;exact hq
   obtain ⟨r'',hh,hk1,hk2⟩:=yX q c hqS hc res F3 (λi' ci hi'=>hne i' ci ((UQ hiL).2 (.inr hi')));by_cases hqj:q=j;subst hqj;refine ⟨r,hm' (s0.nx+q,r) (UW hgm),?_,?_⟩;intro i' ci r' hi' hci hu;by_cases hii:i'=i;subst hii;rw [hoi,gN] at hci;cases hci;simp only [HE,FF] at hu;exact hu.2;exfalso;have g:=PS (iW i' ci q r' hci hu);have hi2:inS L i':=by
    rw [UQ hiL] at hi';rcases hi' with h|h;exact absurd h hii;exact h
   have g1:=(g.2.2 i him (λhe=>hii he.symm) hl1).2;have g2:=(hl3 i' (hI.lt i' hi2) hii g.1).2;omega;intro hno;exact absurd (show (W.getD i DB).upd=some (q,r) by rw [gN]) (hno i _ r ((UQ hiL).2 (.inl rfl)) hoi)
   refine ⟨r'',xK _ _ ⟨VJ,(Xk7 q c res r'' hc F3 hk1 hk2).1 _ VJ⟩ hh,?_,λhno=>hk2 (λi' ci r' hi' hci=>hno i' ci r' ((UQ hiL).2 (.inr hi')) hci)⟩;intro i' ci r' hi' hci hu;rw [UQ hiL] at hi';rcases hi' with rfl|hi';rw [hoi,gN] at hci;cases hci;simp only [HE,FF] at hu;exact absurd hu.1.symm hqj;exact hk1 i' ci r' hi' hci hu;intro k hk;rcases yV k hk with h|⟨i',h1,h2⟩;exact .inl h;exact .inr ⟨i',(UQ hiL).2 (.inr h1),h2⟩;cases hd:o.dst with
   |none=>exact zO
   |some d=>simp [Act.put,zO]
   intro q u hu;have other:o.dst≠some q->a.tmps[q]? =some u->Rep e w' (F9 ops.toList s0.σ W (L.setIfInBounds i true) q) u:=by
    intro hne hu';have:=(qM q u hu').step st;unfold F9 at this ⊢;cases hwt:DE q ops.toList 0 with
    |none=>rw [hwt] at this;exact this
    |some k=>
     rw [hwt] at this;simp only at this ⊢;have hki:k≠i:=by
      rintro rfl;obtain ⟨_,o',ho',hd'⟩:=RD hwt;simp only [Nat.sub_zero] at ho';rw [hoL] at ho';cases ho';exact hne hd'
     have e1:(L.setIfInBounds i true).getD k false=L.getD k false:=by
      simp [P2,Ne.symm hki]
     rw [e1];exact this
   cases hd:o.dst with
   |none=>rw [hd] at hu;exact other (by rw [hd];simp) hu
   |some d=>
    rw [hd] at hu;simp only [Act.put,Array.getElem?_setIfInBounds] at hu;by_cases hdt:d=q;subst hdt;obtain ⟨hw1,hw2⟩:=(P8 j9 i o hoL).1 d hd;unfold F9;rw [hw1];simp only [Ap];rw [if_pos (show (L.setIfInBounds i true).getD i false=true from (UQ hiL).2 (.inl rfl)),gN];exact .top _;rw [if_neg hdt] at hu;exact other (by rw [hd];simpa using hdt) hu
  refine HO (λc h=>by rw [hop] at h;cases h) ?_
  unfold Oper.wp;have hex:(execOp a.eval o).run P w= .ok .skip w':=by
   obtain ⟨dst,op,type,pos,after,guard⟩:=o;simp only at hop;subst hop;simp [execOp,DP]
  rw [hex];exact hnew'
  obtain ⟨cc,s,x,t,tl,hop,gU,hca,hta,I9,Wp5⟩:=yE hap;obtain ⟨callee,cargs,cats⟩:=cc;simp only at gU hca hta;have hca':cargs=#[s,x]:=Array.ext' (by simpa using hca)
  have hta':cats=#[t,t]:=Array.ext' (by simpa using hta)
  subst hca';subst hta';subst gU;obtain ⟨u,w',DP,⟨e',dY,st,hE',GK,hF,hlv,hro⟩,_⟩:=qJ (P:=P) (ty:=o.type) I9 hns hE hB.size hmi Wp1 (hρ s) (hρ x);have xK: ∀(k:Nat) (res:GO),(∀j,eat=some j->k≠s0.nx+j/\HV (s0.nx+j) res=false)->GH e w k res->GH e' w' k res:=by
   intro k res hk hh;refine hF k res (.inr ⟨hh,λq hq=>?_⟩);rcases Wp5 with ⟨j,h1,h2,_⟩|⟨_,v,h2⟩;rw [h2] at hq;cases hq;exact hk j h1;rw [h2] at hq;cases hq
  have iV:GH e' w' (s0.nx+i) r:=hF _ _ (.inl ⟨⟨_,rfl⟩,rfl⟩);have hout':W[i]? =some ⟨val,some r,none,eat⟩:=by rw [hoi,gN]
  have hnew':uB ops c w0 T s0 W mm (L.setIfInBounds i true) (a.put o.dst u) w':=by
   refine ⟨by simp [hI.size],?_,?_,e',hE',hB.trans dY,?_,?_,?_,⟨λb hT=>⟨(BW.1 b hT).1,λh=>(BW.1 b hT).2 (hro b h)⟩,by rw [put_defers];exact BW.2.step st⟩,?_,?_⟩
   intro k o' ho' hk q hq;rw [UQ hiL] at hk ⊢;rcases hk with rfl|hk;rw [hoL] at ho';cases ho';exact .inr (gM q hq);exact .inr (hI.dc k o' ho' hk q hq);intro k hk;rw [UQ hiL] at hk;rcases hk with rfl|hk;exact him;exact hI.lt k hk;intro p hp;exact xK p.1 p.2 (λj _=>⟨by have:=rF p hp;omega,xU (hAk.m0 p hp) _⟩) (hm0 p hp)
   intro q c hq hc res F3 hne;rw [UQ hiL] at hq;rcases hq with rfl|hq;rw [hout'] at hc;cases hc;cases F3;refine ⟨r,iV,?_,λ_=>rfl⟩;intro i' ci r' hi' hci hu;exfalso;rw [UQ hiL] at hi';rcases hi' with rfl|hi';rw [hout'] at hci;cases hci;cases hu;exact iN i' (PS (iW i' ci q r' hci hu)).1 hi';obtain ⟨r'',hh,hk1,hk2⟩:=yX q c hq hc res F3 (λi' ci hi'=>hne i' ci ((UQ hiL).2 (.inr hi')));have hna:=(Xk7 q c res r'' hc F3 hk1 hk2).1;refine ⟨r'',xK _ _ (λj hj=>⟨λhe=>?_,hna _ VJ⟩) hh,?_,λhno=>hk2 (λi' ci r' hi' hci=>hno i' ci r' ((UQ hiL).2 (.inr hi')) hci)⟩;have hqj:q=j:=VJ;exact hne i _ ((UQ hiL).2 (.inl rfl)) hout' (by rw [hqj];exact hj)
   intro i' ci r' hi' hci hu;rw [UQ hiL] at hi';rcases hi' with rfl|hi';rw [hout'] at hci;cases hci;cases hu;exact hk1 i' ci r' hi' hci hu;intro k hk;rcases hlv k hk with hk|rfl;rcases yV k hk with h|⟨i',h1,h2⟩;exact .inl h;exact .inr ⟨i',(UQ hiL).2 (.inr h1),h2⟩;exact .inr ⟨i,(UQ hiL).2 (.inl rfl),rfl⟩;cases hd:o.dst with
   |none=>exact zO
   |some d=>simp [Act.put,zO]
   intro q v hu;have other:o.dst≠some q->a.tmps[q]? =some v->Rep e' w' (F9 ops.toList s0.σ W (L.setIfInBounds i true) q) v:=by
    intro hne hu';have:=(qM q v hu').step st;unfold F9 at this ⊢;cases hwt:DE q ops.toList 0 with
    |none=>rw [hwt] at this;exact this
    |some k=>
     rw [hwt] at this;simp only at this ⊢;have hki:k≠i:=by
      rintro rfl;obtain ⟨_,o',ho',hd'⟩:=RD hwt;simp only [Nat.sub_zero] at ho';rw [hoL] at ho';cases ho';exact hne hd'
     have e1:(L.setIfInBounds i true).getD k false=L.getD k false:=by
      simp [P2,Ne.symm hki]
     rw [e1];exact this
   cases hd:o.dst with
   |none=>rw [hd] at hu;exact other (by rw [hd];simp) hu
   |some d=>
    rw [hd] at hu;simp only [Act.put,Array.getElem?_setIfInBounds] at hu;by_cases hdt:d=q;subst hdt;obtain ⟨hw1,hw2⟩:=(P8 j9 i o hoL).1 d hd;rw [if_pos rfl,if_pos (by rw [zO];exact hw2)] at hu
    cases hu;unfold F9;rw [hw1];simp only [Ap];rw [if_pos (show (L.setIfInBounds i true).getD i false=true from (UQ hiL).2 (.inl rfl)),gN];exact GK;rw [if_neg hdt] at hu;exact other (by rw [hd];simpa using hdt) hu
  refine HO (λc h=>by rw [hop] at h;cases h) ?_
  refine D4 (v:=u) (w':=w') ?_ hnew';obtain ⟨dst,op,type,pos,after,guard⟩:=o;simp only at hop;subst hop;simp [execOp,resolve,invoke,builtin,DP]
 have hw: ¬Region.wanted o (yielded ops a.tmps)=true:=by
  cases hv:LO ops.toList (HG ops.toList []) s0.σ (W.take i) dec' i (.tmp t) with
  |lit b=>
   rw [hv] at hl;simp [cL] at hl;simp [Region.wanted,hg,guardRun j want t b hg hgs hv,hl]
  |tup l=>simp [Region.wanted,hg,guardTup j want t l hg hgs hv]
  |_=>rw [hv] at hl;simp [cL] at hl
 rw [if_neg hw];refine ⟨λ_ _=>trivial,fin (by rw [hno];rfl) undef w ?_⟩
 rw [hno];exact UK hE hmi (NF _ _)
end
theorem F7.drew{c:Cx}{w0:World}{T:Nat->Prop}{e:UL}{s:St}{a:Act}{w:World}(r:F7 c w0 T e s a w):F7 c w0 T e s a {w with drawn:=w.drawn+1}:=by
 have st:Step e e w {w with drawn:=w.drawn+1}:=⟨λ_ _ h=>⟨h,rfl⟩,λ_ h=>⟨h,rfl,rfl⟩,Am _⟩
 have hb:Below w.heap.size w {w with drawn:=w.drawn+1}:=⟨rfl,rfl,rfl,Am _,λ_ _=>rfl⟩
 exact ⟨⟨r.env.apart,r.env.owned,r.env.glob.step st⟩,r.below.trans (hb.mono r.hB),r.mem.ext hb st (λ_ _ h=>h),r.live,r.foe,r.xt.step st,r.slots.step st⟩
def Zj9{α:Type}(suf:List Oper->St->VM α)(P:Program)(G:List (Nat×Spec))(X:Ext)(ops:List Oper)(s:St):VM α:=
 match fU s.σ.length ops ops 0 with
 |false=> .fail
 |true=>(jC P G X ops (HG ops []) s.σ s.m s.nx (BV (HG ops []) ops.length) (ops.take (BV (HG ops []) ops.length)) 0 [] []).bind λp=>match u9 s.nx s.m p.1 with
  |false=> .fail
  |true=>suf (ops.drop (BV (HG ops []) ops.length))
   {s with σ:=gW ops (BV (HG ops []) ops.length) p.1 p.2 s.σ 0,m:=RW s.nx p.1 p.1 0++s.m,nx:=s.nx+BV (HG ops []) ops.length}
section
variable {P:Program}{G:List (Nat×Spec)}{X:Ext}{ops:Array Oper}{c:Cx}{w0:World}{T:Nat->Prop}{s0:St}{W:List HM}{dec:List (Nat×Bool)}
theorem wX{σ:List AV}{t:Nat}{v:AV}(h:σ[t]? =some v):σ.getD t .top=v:=by simp [List.getD,h]
theorem iH{mm:Nat}(HZ:LZ P G X ops.toList (HG ops.toList []) s0.σ s0.m s0.nx mm W dec)(HX:W.length=mm){L:Array Bool}{a:Act}{w:World}
  (hΦ:c.Φ s0.gh T w0)(hI:uB ops c w0 T s0 W mm L a w)(PC: ∀k,k<mm->inS L k):
  Rel c {s0 with σ:=gW ops.toList mm W dec s0.σ 0,m:=RW s0.nx W W 0++s0.m,nx:=s0.nx+mm} a w:=by
 obtain ⟨e,hE,hB,hm0,yX,yV,BW,zO,qM⟩:=hI.rel;refine ⟨w0,T,e,hΦ,hE,hB,?_,?_,BW.1,BW.2,?_,?_⟩;intro p hp;rcases List.mem_append.1 hp with hp|hp;obtain ⟨j,c,r,h1,h3,h4,h5,h6⟩:=kN hp;simp only [Ap] at h3 h5 h6;have hj:j<mm:=by rw [←HX];exact (FV.1 h1).1
 rw [h3,h5];obtain ⟨r'',hh,hk1,hk2⟩:=yX j c (PC j hj) h1 _ h4 (λi' ci _ hci he=>by rw [fG hci he] at h6;cases h6)
 cases hu:j8 W j with
 |some r'=>
  obtain ⟨i',ci,hi',hui⟩:=xX hu;have hi'm:i'<mm:=by rw [←HX];exact (FV.1 hi').1
  rw [←hk1 i' ci r' (PC i' hi'm) hi' hui];exact hh
 |none=>
  rw [←hk2 (λi' ci r' _ hci=>xY hu i' ci r' hci)];exact hh
 exact hm0 p hp;intro k hk;show k<s0.nx+mm;rcases yV k hk with h|⟨i,h1,h2⟩;omega;have:=hI.lt i h1;omega;rw [wD];simpa using zO.symm;intro t av v hav hv;rw [IP] at hav;have hv':a.tmps[t]? =some v:=by simpa using hv
 rw [Ay] at hav;obtain ⟨a0,ha0,rfl⟩:=hav;have hs:=qM t v hv';unfold F9 at hs;unfold Xm0;simp only [Ap];cases hwt:DE t ops.toList 0 with
 |none=>rw [hwt] at hs;simp only at hs ⊢;rw [wX ha0] at hs;exact hs
 |some k=>
  rw [hwt] at hs;simp only at hs ⊢;split;rename_i hb;have hk:k<mm:=by simpa [Aw] using hb
  rw [if_pos (show L.getD k false=true from PC k hk)] at hs;simp only [Qs8];cases hld:RS dec k with
  |some d=>
   have:=(HZ.1 k d hld).2;rw [this] at hs;exact hs.litOf
  |none=>exact hs
  rename_i hb;have hk: ¬k<mm:=λh=>by
   have h':Nat.blt k mm=true:=by rw [Aw];exact h
   rw [h'] at hb;cases hb
  rw [if_neg (show ¬L.getD k false=true from λh=>hk (hI.lt k h)),wX ha0] at hs;exact hs
def Zq2(n k:Nat)(L:Array Bool):Prop:=L.size=n/\ ∀j,inS L j↔j<k
theorem Qw1{ro:Option Nat}{n:Nat}{Q:Exit->Act->World->Prop}{i:Nat}{rest:List Nat}{a:Act}{w:World}(h:wpOpsIn (fr ro) n P ops Q (i::rest) a w):wpOpIn (fr ro) n P ops Q i (wpOpsIn (fr ro) n P ops Q rest) a w:=by
 rwa [wpOpsIn_cons] at h
theorem e7{α:Type}{suf:List Oper->St->VM α}(hG:VK P G)(hX:VW P X c)(GR:P.follows .mixedOrders=true){s:St}{R:α->Prop}{Q:Exit->Act->World->Prop}(h:(Zj9 suf P G X ops.toList s).sat R){a:Act}{w:World}(r:Rel c s a w){ro:Option Nat}{n:Nat}
  (hsuf: ∀(l:List Oper) (k:Nat),l=ops.toList.drop k-> ∀(s:St) (a:Act) (w:World),(suf l s).sat R->Rel c s a w->wpOpsIn (fr ro) n P ops Q (List.range' k (ops.size-k)) a w):wpAnyIn (fr ro) n P .any ops Q ops.size (Array.replicate ops.size false) a {w with drawn:=w.drawn+1}:=by
 obtain ⟨w0,T,e,hΦ,r⟩:=r;unfold Zj9 at h;split at h;exact h.elim;rename_i j9;have h2:=VM.sat_bind h;generalize hM:HG ops.toList []=M at h2;generalize hmm:BV M ops.toList.length=mm at h2;have OF:mm<=ops.size:=by rw [←hmm];have:=TU M ops.toList.length;simpa using this
 obtain ⟨W,dec,FK,HZ,HX⟩:=wF (P:=P) (G:=G) (X:=X) (ops:=ops.toList) (M:=M) (σ0:=s.σ) (m0:=s.m) (nx0:=s.nx) (mm:=mm) (ops.toList.take mm) [] [] [] (by simp [Cd OF]) rfl h2 ⟨λk d hk=>by simp [RS] at hk,λi o O=>by simp at O⟩
 have hlen':W.length=mm:=by rw [HX];simp;omega
 subst hM;have AF: ∀k j,mm<=k->k<ops.size->j<k->((HG ops.toList []).getD k 0).testBit j=true:=by
  intro k j h1 h2 h3;exact IJ (k6 _ _ k (by rw [hmm];exact h1) (by simpa using h2)) h3
 have pR: ∀k o,ops[k]? =some o-> ∀j∈HU o,j<k:=by
  intro k o ho j hj;have:=(P8 j9 k o (by simpa using ho)).2 j hj
  simpa using this
 have rF: ∀p∈s.m,p.1<s.nx:=by
  intro p hp;refine r.live p.1 ?_;have:=r.mem p hp;exact this.live
 obtain ⟨Zp8,FK⟩:u9 s.nx s.m W=true/\_:=by
  dsimp only at FK
  split at FK;exact FK.elim;rename_i hb;exact ⟨hb,FK⟩
 let s1:St:={s with σ:=gW ops.toList mm W dec s.σ 0,m:=RW s.nx W W 0++s.m,nx:=s.nx+mm}
 let Inv:Array Bool->Act->World->Prop:=λL a w=>(uB ops c w0 T s W mm L a w/\ ∃k,k<mm/\ ¬inS L k)\/(∃k,mm<=k/\k<=ops.size/\Zq2 ops.size k L/\wpOpsIn (fr ro) n P ops Q (List.range' k (ops.size-k)) a w)
 have gK: ∀L a w,uB ops c w0 T s W mm L a w->(∀k,k<mm->inS L k)->Inv L a w:=by
  intro L a w hI PC;refine .inr ⟨mm,Am _,OF,⟨hI.size,λj=>⟨hI.lt j,PC j⟩⟩,?_⟩;exact hsuf (ops.toList.drop mm) mm rfl s1 a w FK (iH HZ hlen' hΦ hI PC)
 have y9: ∀(L:Array Bool),L.size=ops.size->Region.ready .any ops L=[]-> ∀k,k<ops.size->inS L k:=by
  intro L hsz Z k
  induction k using Nat.strongRecOn with
  |_ k ih=>
   intro hk;rcases Classical.em (inS L k) with h'|h';exact h';exfalso;have gO:k∈Region.ready .any ops L:=by
    unfold Region.ready;rw [List.mem_filter];refine ⟨List.mem_range.2 hk,?_⟩;have hok:ops[k]? =some ops[k]:=by simp [hk]
    rw [hok];simp only [Bt,GS,GU,Ax];refine ⟨?_,?_⟩;unfold inS at h';simp [P2,hsz,hk] at h' ⊢;exact h';rw [Array.all_eq_true_iff_forall_mem];intro ed hed;cases hb:Region.binds .any ed with
    |false=>simp
    |true=>
     have hj:ed.on∈HU ops[k]:=by
      simp only [HU,List.mem_map,List.mem_filter];exact ⟨ed,⟨by simpa using hed,hb⟩,rfl⟩
     have hlt:=pR k _ hok _ hj;have:=ih ed.on hlt VJ;simpa [inS] using this
   rw [Z] at gO;cases gO
 refine AO Inv ?_ ?_ ?_ ops.size _ a _ ?_ ?_
 rintro L a w i (⟨hI,k0,hk0,hk0'⟩|⟨k,hk1,hk2,⟨hsz,hfl⟩,hwp⟩) O;obtain ⟨hin,hun,o,ho,gM⟩:=HR O;have him:i<mm:=by
  rcases An i mm with h'|h';exact h';exfalso;exact hk0' (w8 hI.dc i o (by simpa using ho) gM k0 (AF i k0 h' hin VJ))
 refine wpOpIn_mono (λa' w' hI'=>?_) (Xu2 hG ⟨hX.c,hX.f,hX.d⟩ j9 HZ hlen' OF rF (mC Zp8) hI O him);rcases Classical.em (∀k,k<mm->inS (L.setIfInBounds i true) k) with hf|hf;exact gK _ _ _ hI' hf;refine .inl ⟨hI',?_⟩;rcases Classical.not_forall.1 hf with ⟨k,hk⟩;exact ⟨k,(Classical.not_imp.1 hk).1,(Classical.not_imp.1 hk).2⟩;obtain ⟨hin,hun,o,ho,gM⟩:=HR O;have hni: ¬inS L i:=BU (by rw [hsz];exact hin) hun
 have hki:k<=i:=by
             rcases An i k with h'|h';exact absurd ((hfl i).2 h') hni;exact h'
 have hdc:DC ops.toList L:=by
  intro k' o' ho' hk' j hj;have:=pR k' o' (by simpa using ho') j hj
  have:=(hfl k').1 hk';exact (hfl j).2 VJ
 have hik:i=k:=by
  rcases An k i with h'|h';exfalso;have:=w8 hdc i o (by simpa using ho) gM k (AF i k VJ hin h')
  have:=(hfl k).1 this;omega;omega
 subst hik;have e1:ops.size-i=(ops.size-(i+1))+1:=VJ;rw [e1,List.range'_succ] at hwp;refine wpOpIn_mono (λa' w' hwp'=>?_) (Qw1 hwp);refine .inr ⟨i+1,VJ,hin,⟨by simp [hsz],λj=>?_⟩,hwp'⟩
 rw [UQ (by rw [hsz];exact hin),hfl]
 omega;rintro L a w (⟨hI,k0,hk0,hk0'⟩|⟨k,hk1,hk2,⟨hsz,hfl⟩,hwp⟩) Z;exact absurd (y9 L hI.size Z k0 VJ) hk0';have hkn:k=ops.size:=by
  rcases An k ops.size with h'|h';have:=(hfl k).1 (y9 L hsz Z k h');omega;omega
 subst hkn;simpa [wpOpsIn] using hwp;rintro L a w (⟨hI,_⟩|⟨k,_,_,⟨hsz,_⟩,_⟩);exact hI.size;exact hsz
 have hno: ∀k,¬inS (Array.replicate ops.size false) k:=by
  intro k hk;unfold inS at hk;rw [P2,Array.getElem?_replicate] at hk;split at hk<;>cases hk
 have hI:uB ops c w0 T s W mm (Array.replicate ops.size false) a {w with drawn:=w.drawn+1}:=by
  have r:=r.drew;refine ⟨VT,λk o _ hk=>absurd hk (hno k),λk hk=>absurd hk (hno k),e,r.env,r.below,r.mem,λi c O=>absurd O (hno i),λk hk=> .inl (r.live k hk),⟨r.foe,r.xt⟩,by simpa using r.slots.1.symm,?_⟩
  intro t v hv;have hlt:t<s.σ.length:=by
   have h1:=r.slots.1;have h2:=(P7.1 hv).1;simp at h1;omega
  have Z:=r.slots.2 t s.σ[t] v (D0 hlt) (by simpa using hv)
  unfold F9;have hg:s.σ.getD t .top=s.σ[t]:=by simp [List.getD,D0 hlt]
  split;rename_i k hk;rw [if_neg (show ¬(Array.replicate ops.size false).getD k false=true from hno k),hg];exact Z;rw [hg];exact Z
 rcases Nat.eq_zero_or_pos mm with h0|h0;exact gK _ _ _ hI (λk hk=>VJ);exact .inl ⟨hI,0,h0,hno 0⟩;unfold unl;exact Ar List.countP_le_length VT
theorem CD(hG:VK P G)(hX:VW P X c)(GR:P.follows .mixedOrders=true){s:St}{R:St->Prop}{Q:Exit->Act->World->Prop}(h:(Xh1 P G X ops.toList s).sat R){a:Act}{w:World}(r:Rel c s a w){ro:Option Nat}{n:Nat}
  (hQ: ∀s a w,R s->Rel c s a w->Q .normal a w):wpAnyIn (fr ro) n P .any ops Q ops.size (Array.replicate ops.size false) a {w with drawn:=w.drawn+1}:=
 e7 (suf:=Wd1 P G X ops.toList) hG hX GR h r (vA hG hX hQ)
end
def kI(p:Nat)(o:Oper):Oper:={o with after:=o.after.push {on:=p,ground:= .data} }
def PN(p:Nat):Nat->List Oper->List Oper
 |_,[]=>[]
 | 0,o::l=>kI p o::l
 |s+1,o::l=>o::PN p s l
theorem xP(p:Nat): ∀(s:Nat) (l:List Oper) (i:Nat),(PN p s l)[i]? =if i=s then (l[i]?).map (kI p) else l[i]?
 |s,[],i=>by cases s<;>simp [PN]
 | 0,o::l,i=>by cases i<;>simp [PN]
 |s+1,o::l,i=>by
  cases i with
  |zero=>simp [PN]
  |succ i=>simp [PN,xP p s l i]
theorem PG(p:Nat): ∀(s:Nat) (l:List Oper),(PN p s l).length=l.length
 |s,[]=>by cases s<;>rfl
 | 0,o::l=>rfl
 |s+1,o::l=>by simp [PN,PG p s l]
def nR:Op->Bool
 | .pick _ _ _=>true
 | .move _=>true
 | .assign _=>true
 |_=>false
def dP(d:Nat):Operand->Bool
 | .tmp t=> !Nat.beq t d
 |_=>true
def exB(ops:List Oper)(p s:Nat):Bool:=match ops[p]?,ops[s]? with
 |some op,some os=>match op.dst,os.op with
  |some d,.store _ x y=> !Nat.beq p s&&nR op.op&&op.guard.isNone&&os.guard.isNone&&os.dst.isNone&&dP d x&&dP d y
    &&(HU op).all (λj=>Nat.testBit ((HG ops []).getD s 0) j)&&(List.range ops.length).all (λk=>Nat.beq k p||Nat.beq k s||Nat.testBit ((HG ops []).getD k 0) p||Nat.testBit ((HG ops []).getD s 0) k)
  |_,_=>false
 |_,_=>false
section
variable {P:Program}{F:Fence}{n:Nat}{Q:Exit->Act->World->Prop}
section
variable {Q':Exit->Act->World->Prop}
theorem Qz7(hq: ∀e a w,Q e a w->Q' e a w){o:Oper}{a:Act}{K:Act->World->Prop}{r:Result Next}(h:o.uponIn F n P a K Q r):o.uponIn F n P a K Q' r:=by
 have hl:LetsOut Q->LetsOut Q':=λ⟨a,w,h⟩=>⟨a,w,hq _ _ _ h⟩;cases r with
 |ok x w=>
  cases x<;>simp only [Oper.uponIn] at h ⊢ <;>first|exact h|skip
  refine ⟨h.1,CallsIn.mono h.2 λe w'' he=>?_⟩;cases e with
  |returned u=>exact he
  |panicked c=>exact hq _ _ _ he
  |outgrown=>exact hl he
  refine ⟨h.1,RoundIn.mono h.2 λe w'' he=>?_⟩;cases e with
  |returned u=>exact he
  |panicked c=>exact hq _ _ _ he
  |outgrown=>exact hl he
 |halt x w=>cases x<;>simp only [Oper.uponIn] at h ⊢ <;>first|exact h|exact hq _ _ _ h
theorem Qw2(hq: ∀e a w,Q e a w->Q' e a w){ops:Array Oper}{i:Nat}{K:Act->World->Prop}{a:Act}{w:World}(h:wpOpIn F n P ops Q i K a w):wpOpIn F n P ops Q' i K a w:=by
 unfold wpOpIn at h ⊢;split;rename_i ho;rw [ho] at h;exact h;rename_i o ho;rw [ho] at h;simp only at h;split;rename_i hw;rw [if_pos hw] at h;exact ⟨h.1,Qz7 hq h.2⟩;rename_i hw;rw [if_neg hw] at h;exact h
end
theorem ND{Q':Exit->Act->World->Prop}(hq: ∀e a w,Q e a w->Q' e a w){ops:Array Oper}{md:Region.Mode}: ∀{fuel:Nat} {L:Array Bool} {a:Act} {w:World},wpAnyIn F n P md ops Q fuel L a w->wpAnyIn F n P md ops Q' fuel L a w
 | 0,_,_,_,h=>⟨h.1,hq _ _ _ h.2⟩
 |fuel+1,_,_,_,h=>⟨λZ=>hq _ _ _ (h.1 Z),λi O=>Qw2 hq (wpOpIn_mono (λ_ _=>ND hq) (h.2 i O))⟩
section
variable {p s:Nat}{ops ops2:Array Oper}
theorem aT(h2:ops2.toList=PN p s ops.toList)(tmps:Array Value):yielded ops2 tmps=yielded ops tmps:=by
 have hg: ∀j,ops2[j]? =if j=s then (ops[j]?).map (kI p) else ops[j]? :=λj=>by
  have:=xP p s ops.toList j;rw [←h2] at this;simpa using this
 funext j;unfold yielded;rw [hg];by_cases hj:j=s;rw [if_pos hj];cases ops[j]? <;>rfl;rw [if_neg hj]
theorem xO(h2:ops2.toList=PN p s ops.toList){i:Nat}{K:Act->World->Prop}{a:Act}{w:World}:wpOpIn F n P ops2 Q i K a w↔wpOpIn F n P ops Q i K a w:=by
 have hg: ∀j,ops2[j]? =if j=s then (ops[j]?).map (kI p) else ops[j]? :=λj=>by
  have:=xP p s ops.toList j;rw [←h2] at this;simpa using this
 unfold wpOpIn;rw [hg,aT h2];by_cases hj:i=s;rw [if_pos hj];cases ops[i]? <;>exact Iff.rfl;rw [if_neg hj]
end
section
variable {ops:Array Oper}{i:Nat}{o:Oper}
theorem cH(hq: ∀c a w,¬Q (.panic c) a w)(ho:ops[i]? =some o)(hs:nR o.op=true)(hg:o.guard=none){K:Act->World->Prop}{a:Act}{w:World}(h:wpOpIn F n P ops Q i K a w):
  ∃v,K (a.put o.dst v) w/\ ∀(K':Act->World->Prop) w',K' (a.put o.dst v) w'->wpOpIn F n P ops Q i K' a w':=by
 have hw: ∀t,Region.wanted o (yielded ops t)=true:=λt=>by simp [Region.wanted,hg]
 have key: ∀v,(∀w,(o.semAt F.round a.eval).run P w= .ok (.value v) w)->(∀w,o.about P w a.eval=none)-> ∃v,K (a.put o.dst v) w/\ ∀(K':Act->World->Prop) w',K' (a.put o.dst v) w'->wpOpIn F n P ops Q i K' a w':=by
  intro v hv hab;refine ⟨v,?_,λK' w' hk=>?_⟩;unfold wpOpIn at h;rw [ho] at h;simp only [hw,if_true,Oper.wpIn,hv,Oper.uponIn] at h;exact h.2;unfold wpOpIn;rw [ho];simp only [hw,if_true,Oper.wpIn,hv,Oper.uponIn];exact ⟨λf hf=>(by rw [hab w'] at hf;cases hf),hk⟩
 obtain ⟨dst,op,type,pos,after,guard⟩:=o;simp only at hs hg;subst hg;cases op with
 |move x=>
  refine key (a.eval x) (λw=>?_) (λw=>rfl);rw [Oper.semAt_eq _ _ _ (λc h=>by cases h)]
  rfl
 |assign x=>
  refine key (a.eval x) (λw=>?_) (λw=>rfl);rw [Oper.semAt_eq _ _ _ (λc h=>by cases h)]
  rfl
 |pick c x y=>
  have he: ∀w,(Oper.semAt F.round a.eval ⟨dst,.pick c x y,type,pos,after,none⟩).run P w=(execOp a.eval ⟨dst,.pick c x y,type,pos,after,none⟩).run P w:=λw=>by
   rw [Oper.semAt_eq _ _ _ (λc h=>by cases h)]
  rcases Classical.em (∃b,a.eval c= .bool b) with ⟨b,hb⟩|hb;refine key (if b then a.eval x else a.eval y) (λw=>?_) (λw=>rfl)
  rw [he];simp [execOp,hb,asBool];exfalso;unfold wpOpIn at h;rw [ho] at h;simp only [hw,if_true,Oper.wpIn,he] at h;have h:=h.2;cases hc:a.eval c with
  |bool b=>exact hb ⟨b,hc⟩
  |_=>simp [execOp,hc,asBool,stuck,Oper.uponIn] at h
 |_=>simp [nR] at hs
theorem Qm0{t:TypeId}{x y:Operand}{d:Nat}{v:Value}(hq: ∀c a w,¬Q (.panic c) a w)(ho:ops[i]? =some o)(hop:o.op= .store t x y)(hg:o.guard=none)(hd:o.dst=none)(hx:dP d x=true)(hy:dP d y=true)
  {K:Act->World->Prop}{a:Act}{w:World}(h:wpOpIn F n P ops Q i K (a.put (some d) v) w):wpOpIn F n P ops Q i (λa' w'=>a'=a/\K (a.put (some d) v) w') a w:=by
 have hw: ∀t,Region.wanted o (yielded ops t)=true:=λt=>by simp [Region.wanted,hg]
 have ev: ∀z,dP d z=true->(a.put (some d) v).eval z=a.eval z:=λz hz=>Act.eval_put λd' hd'=>by
  cases hd';rintro rfl;simp [dP] at hz
 obtain ⟨dst,op,type,pos,after,guard⟩:=o;simp only at hop hg hd;subst hop hg hd;have he: ∀(b:Act),Oper.semAt F.round b.eval ⟨none,.store t x y,type,pos,after,none⟩=execOp b.eval ⟨none,.store t x y,type,pos,after,none⟩:=λb=>Oper.semAt_eq _ _ _ (λc h=>by cases h)
 have ex:execOp (a.put (some d) v).eval ⟨none,.store t x y,type,pos,after,none⟩=execOp a.eval ⟨none,.store t x y,type,pos,after,none⟩:=by
  simp only [execOp,ev x hx,ev y hy]
 unfold wpOpIn at h ⊢;rw [ho] at h ⊢;simp only [hw,if_true,Oper.wpIn,he,ex] at h ⊢;refine ⟨λf hf=>(by cases hf),?_⟩
 have h:=h.2;generalize Z:(execOp a.eval ⟨none,.store t x y,type,pos,after,none⟩).run P w=r at h;have hsk:(∃w',r= .ok .skip w')\/ ∃u w',r= .halt u w':=by
  rw [←Z];simp only [execOp,At];cases (Instr.storeAt t (a.eval x) (a.eval y)).run P w with
  |ok u w'=>exact .inl ⟨w',rfl⟩
  |halt u w'=>exact .inr ⟨u,w',rfl⟩
 rcases hsk with ⟨w',rfl⟩|⟨u,w',rfl⟩;simp only [Oper.uponIn] at h ⊢;exact ⟨rfl,h⟩;cases u<;>simp only [Oper.uponIn] at h ⊢;exact (hq _ _ _ h).elim
end
theorem Wn7{L:Array Bool}{i:Nat}(O:i<L.size)(h: ¬inS L i):L.getD i true=false:=by
 unfold inS at h;simp [P2,O] at h ⊢;exact h
theorem FB{ops:Array Oper}{L:Array Bool}{i:Nat}{o:Oper}(hsz:L.size=ops.size)(ho:ops[i]? =some o)(hn: ¬inS L i)(hd: ∀j∈HU o,inS L j):i∈Region.ready .any ops L:=by
 have O:i<ops.size:=(P7.1 ho).1;unfold Region.ready;rw [List.mem_filter];refine ⟨List.mem_range.2 O,?_⟩;rw [ho];simp only [Bt,GS,GU,Ax];refine ⟨Wn7 (by rw [hsz];exact O) hn,?_⟩
 rw [Array.all_eq_true_iff_forall_mem];intro ed hed;cases hb:Region.binds .any ed with
 |false=>simp
 |true=>
  have hj:ed.on∈HU o:=by
   simp only [HU,List.mem_map,List.mem_filter];exact ⟨ed,⟨by simpa using hed,hb⟩,rfl⟩
  have:=hd ed.on hj;simpa [inS] using this
theorem BX{p:Nat}{o:Oper}{j:Nat}:j∈HU (kI p o)↔j∈HU o\/j=p:=by
 have:HU (kI p o)=HU o++[p]:=by
  have h1:List.filter (Region.binds .any) [({on:=p,ground:= .data}:Edge)]=[{on:=p,ground:= .data}]:=rfl;simp [HU,kI,List.filter_append,h1]
 rw [this];simp
theorem Wt8{ops ops2:Array Oper}{p s:Nat}(h2:ops2.toList=PN p s ops.toList)(hex:exB ops.toList p s=true)(hq: ∀c a w,¬Q (.panic c) a w):
  ∀(fuel:Nat) (L:Array Bool) (a:Act) (w:World),L.size=ops.size->DC ops.toList L->(inS L p\/ ¬inS L s)->wpAnyIn F n P .any ops2 Q fuel L a w->wpAnyIn F n P .any ops Q fuel L a w:=by
 have hg: ∀j,ops2[j]? =if j=s then (ops[j]?).map (kI p) else ops[j]? :=λj=>by
  have:=xP p s ops.toList j;rw [←h2] at this;simpa using this
 have A4:ops2.size=ops.size:=by
  have:=PG p s ops.toList;rw [←h2] at this;simpa using this
 unfold exB at hex;split at hex
 rotate_left
 cases hex;rename_i op os hop hos;have hop:ops[p]? =some op:=by simpa using hop
 have hos:ops[s]? =some os:=by simpa using hos
 split at hex
 rotate_left
 cases hex;rename_i d t x y hd hst;simp only [GU,Option.isNone_iff_eq_none,Ax,B1,Bl,List.mem_range] at hex;obtain ⟨⟨⟨⟨⟨⟨⟨⟨hps,Ji8⟩,hgp⟩,hgs⟩,hds⟩,hx⟩,hy⟩,Xk9⟩,HZ⟩:=hex;have hps:p≠s:=λh=>by rw [h] at hps;simp at hps
 have hpl:p<ops.size:=(P7.1 hop).1;have hsl:s<ops.size:=(P7.1 hos).1
 have sub: ∀L i,L.size=ops.size->i∈Region.ready .any ops2 L->i∈Region.ready .any ops L:=by
  intro L i hL O;obtain ⟨g1,g2,o,g3,g4⟩:=HR O;have hn: ¬inS L i:=BU (by rw [hL,←A4];exact g1) g2
  rw [hg] at g3;by_cases his:i=s;rw [if_pos his,his,hos] at g3;cases g3;rw [his] at hn ⊢;exact FB hL hos hn λj hj=>g4 j (BX.2 (.inl hj));rw [if_neg his] at g3;exact FB hL g3 hn g4
 have sup: ∀L i,L.size=ops.size->i∈Region.ready .any ops L->(i≠s\/inS L p)->i∈Region.ready .any ops2 L:=by
  intro L i hL O hor;obtain ⟨g1,g2,o,g3,g4⟩:=HR O;have hn: ¬inS L i:=BU (by rw [hL];exact g1) g2
  by_cases his:i=s;subst his;rw [hos] at g3;cases g3;refine FB (by rw [hL,A4]) (o:=kI p os) (by rw [hg,if_pos rfl,hos];rfl) hn λj hj=>?_
  rcases BX.1 hj with hj|rfl;exact g4 j hj;exact hor.resolve_left (λh=>h rfl);exact FB (by rw [hL,A4]) (by rw [hg,if_neg his];exact g3) hn g4
 have rdp: ∀L,L.size=ops.size->DC ops.toList L->s∈Region.ready .any ops L-> ¬inS L p->p∈Region.ready .any ops L:=by
  intro L hL hdc hs hn;obtain ⟨g1,g2,o,g3,g4⟩:=HR hs;rw [hos] at g3;cases g3;exact FB hL hop hn λj hj=>w8 hdc s os (by simpa using hos) g4 j (Xk9 j hj)
 have dcs: ∀L i,L.size=ops.size->DC ops.toList L->i∈Region.ready .any ops L->DC ops.toList (L.setIfInBounds i true):=by
  intro L i hL hdc O k o ho hk j hj;obtain ⟨g1,g2,o',g3,g4⟩:=HR O;have hiL:i<L.size:=by rw [hL];exact g1
  rw [UQ hiL] at hk ⊢;right;rcases hk with rfl|hk;have ho:ops[k]? =some o:=by simpa using ho
  rw [g3] at ho;cases ho;exact g4 j hj;exact hdc k o ho hk j hj
 intro fuel
 induction fuel using Nat.strongRecOn with
 |_ fuel ih=>
 intro L a w hL hdc hor h;have kD:Region.ready .any ops2 L=[]->Region.ready .any ops L=[]:=by
  intro Z;rw [List.eq_nil_iff_forall_not_mem];intro i O;have: ∃k,k∈Region.ready .any ops2 L:=by
   by_cases hc:i≠s\/inS L p;exact ⟨i,sup L i hL O hc⟩;have his:i=s:=Classical.not_not.1 λh=>hc (.inl h);have hnp: ¬inS L p:=λh=>hc (.inr h);subst his;exact ⟨p,sup L p hL (rdp L hL hdc O hnp) (.inl hps)⟩
  obtain ⟨k,hk⟩:=this;rw [Z] at hk;cases hk
 have hnil':Region.ready .any ops L=[]->Region.ready .any ops2 L=[]:=by
  intro Z;rw [List.eq_nil_iff_forall_not_mem];intro i O;have:=sub L i hL O;rw [Z] at this;cases this
 cases fuel with
 |zero=>exact ⟨kD h.1,h.2⟩
 |succ fuel=>
  refine ⟨λZ=>h.1 (hnil' Z),λi O=>?_⟩;obtain ⟨g1,g2,o,g3,g4⟩:=HR O;have hiL:i<L.size:=by rw [hL];exact g1
  by_cases hc:i≠s\/inS L p;have h1:=(xO h2).1 (h.2 i (sup L i hL O hc));refine wpOpIn_mono (λa' w' h'=>ih fuel (Bk _) (L.setIfInBounds i true) a' w' (by simp [hL]) (dcs L i hL hdc O) ?_ h') h1
  rw [UQ hiL,UQ hiL];rcases hc with hc|hc;rcases hor with hor|hor;exact .inl (.inr hor);exact .inr (λh=>h.elim (λh=>hc h.symm) hor);exact .inl (.inr hc);have his:i=s:=Classical.not_not.1 λh=>hc (.inl h);have hnp: ¬inS L p:=λh=>hc (.inr h);subst his;have hpr:=rdp L hL hdc O hnp;have hpL:p<L.size:=by rw [hL];exact hpl
  have h1:=(xO h2).1 (h.2 p (sup L p hL hpr (.inl hps)));obtain ⟨v,h3,h4⟩:=cH hq hop Ji8 hgp h1;rw [hd] at h3 h4;have hsr:i∈Region.ready .any ops2 (L.setIfInBounds p true):=by
   have hn: ¬inS L i:=BU hiL g2;refine sup _ i (by simp [hL]) (FB (by simp [hL]) g3 (λhh=>?_) (λj hj=>(UQ hpL).2 (.inr (g4 j hj)))) (.inr ((UQ hpL).2 (.inl rfl)))
   rcases (UQ hpL).1 hh with hh|hh;exact hps hh.symm;exact hn hh
  cases fuel with
  |zero=>
   have:=h3.1;rw [this] at hsr;cases hsr
  |succ f=>
   have h5:=(xO h2).1 (h3.2 i hsr);have h6:=Qm0 hq hos hst hgs hds hx hy h5;refine wpOpIn_mono ?_ h6;rintro a' w' ⟨rfl,h7⟩;have Jj7: ¬inS (L.setIfInBounds i true) p:=λhh=>by
    rcases (UQ hiL).1 hh with hh|hh;exact hps hh;exact hnp hh
   have Jk3:=dcs L i hL hdc O;have Zo9:p∈Region.ready .any ops (L.setIfInBounds i true):=by
    obtain ⟨q1,q2,o',q3,q4⟩:=HR hpr;exact FB (by simp [hL]) q3 Jj7 λj hj=>(UQ hiL).2 (.inr (q4 j hj))
   refine ⟨λZ=>(by rw [Z] at Zo9;cases Zo9),λk hk=>?_⟩
   have hkp:k=p:=by
    obtain ⟨k1,k2,ok,k3,k4⟩:=HR hk;have hnk: ¬inS (L.setIfInBounds i true) k:=BU (by simp [hL];exact k1) k2
    have hks:k≠i:=λhh=>hnk ((UQ hiL).2 (.inl hh));rcases HZ k (by simpa using k1) with ((hh|hh)|hh)|hh
    exact GZ hh;exact absurd (GZ hh) hks;exact absurd (w8 Jk3 k ok (by simpa using k3) k4 p hh) Jj7
    exfalso;rw [hos] at g3;cases g3;exact hnk ((UQ hiL).2 (.inr (w8 hdc i os (by simpa using hos) g4 k hh)))
   subst hkp;refine h4 _ _ ?_;rw [Array.setIfInBounds_comm _ _ (Ne.symm hps)];refine ih f VJ _ _ _ (by simp [hL]) ?_ (.inl ?_) h7
   have:=dcs _ k (by simp [hL]) Jk3 Zo9
   rwa [Array.setIfInBounds_comm _ _ (Ne.symm hps)] at this
   rw [UQ (by simp [hL];exact g1),UQ hpL]
   exact .inr (.inl rfl)
end
def Qs4(ops:List Oper)(M:List Nat):List Nat->Option (Nat×Nat)
 |[]=>none
 |k::l=>match ops[k]? with
  |some o=>match o.op with
   | .store _ (.tmp t) _=>match DE t ops 0 with
    |none=>match (List.range k).find? (λp=> !Nat.testBit (M.getD k 0) p) with
     |some p=>some (p,k)
     |none=>Qs4 ops M l
    |some _=>Qs4 ops M l
   |_=>Qs4 ops M l
  |none=>none
def Xh0(P:Program)(G:List (Nat×Spec))(X:Ext)(ops:List Oper)(s:St):VM St:=match Qs4 ops (HG ops []) (List.range ops.length) with
 |some (p,k)=>match exB ops p k with
  |true=>Xh1 P G X (PN p k ops) s
  |false=>Xh1 P G X ops s
 |none=>Xh1 P G X ops s
def Wv7{α:Type}:List (VM α)->VM α
 |[]=> .fail
 |[t]=>t
 |t::u::l=> .may True t (Wv7 (u::l))
theorem OW{α:Type}{Q:α->Prop}: ∀{l:List (VM α)},(Wv7 l).sat Q-> ∀t∈l,t.sat Q
 |[],_,_,h=>by cases h
 |[t],h,u,hu=>by
  rcases PM.1 hu with rfl;exact h
 |t::u::l,h,v,hv=>by
  rcases GM.1 hv with rfl|hv;exact h.1 trivial;exact OW h.2 v hv
def sQ(P:Program)(G:List (Nat×Spec))(X:Ext)(ops:List Oper):Nat->Array Bool->St->VM St
 | 0,L,s=>match Region.ready .any ops.toArray L with
  |[]=> .leaf s
  |_::_=> .fail
 |f+1,L,s=>match Region.ready .any ops.toArray L with
  |[]=> .leaf s
  |l=>Wv7 (l.map λi=>match ops[i]? with
   |some o=>(zF P G X ops o s).bind (sQ P G X ops f (L.setIfInBounds i true))
   |none=> .fail)
theorem j6{P:Program}{G:List (Nat×Spec)}{X:Ext}{c:Cx}(hG:VK P G)(hX:VW P X c){ro:Option Nat}{n:Nat}{ops:Array Oper}{Q:Exit->Act->World->Prop}{R:St->Prop}(hQ: ∀s a w,R s->Rel c s a w->Q .normal a w):
  ∀(fuel:Nat) (L:Array Bool) (s:St) (a:Act) (w:World),(sQ P G X ops.toList fuel L s).sat R->Rel c s a w->wpAnyIn (fr ro) n P .any ops Q fuel L a w
 | 0,L,s,a,w,h,r=>by
  unfold sQ at h;split at h;rename_i Z;exact ⟨by simpa using Z,hQ s a w h r⟩
  exact h.elim
 |fuel+1,L,s,a,w,h,r=>by
  unfold sQ at h;split at h;rename_i Z;have Z:Region.ready .any ops L=[]:=by simpa using Z
  refine ⟨λ_=>hQ s a w h r,λi O=>?_⟩;rw [Z] at O;cases O;rename_i l hl;refine ⟨λZ=>absurd (by simpa using Z) hl,λi O=>?_⟩
  have hi':i∈Region.ready .any ops.toList.toArray L:=by simpa using O
  have h1:=OW h _ (List.mem_map.2 ⟨i,hi',rfl⟩);split at h1;rename_i o ho;exact zE hG hX (by simpa using ho) (VM.sat_bind h1) r (λs' a' w' hs' hr'=>j6 hG hX hQ fuel _ s' a' w' hs' hr')
  exact h1.elim
def A5(ops:List Oper)(p:Nat):List AV->List AV->Nat->List AV
 |a::l,b::l',t=>(match DE t ops 0 with
  |some k=>match Nat.beq k p with
   |true=>b
   |false=>a
  |none=>a)::A5 ops p l l' (t+1)
 |l,_,_=>l
theorem rJ(ops:List Oper)(p:Nat): ∀(l l':List AV) (t:Nat),(A5 ops p l l' t).length=l.length
 |[],_,_=>by simp [A5]
 |a::l,[],t=>by simp [A5]
 |a::l,b::l',t=>by simp [A5,rJ ops p l l' (t+1)]
theorem lM(ops:List Oper)(p:Nat): ∀(l l':List AV) (t i:Nat) (x:AV),(A5 ops p l l' t)[i]? =some x->
  (l[i]? =some x/\DE (t+i) ops 0≠some p)\/(l'[i]? =some x/\DE (t+i) ops 0=some p)\/(l[i]? =some x/\l'[i]? =none)
 |[],_,_,i,x,h=>by simp [A5] at h
 |a::l,[],t,i,x,h=> .inr (.inr ⟨by simpa [A5] using h,VT⟩)
 |a::l,b::l',t,0,x,h=>by
  unfold A5 at h;rw [List.getElem?_cons_zero] at h;split at h;rename_i k hk;split at h;rename_i hb;have:=GZ hb;subst this;exact .inr (.inl ⟨by simpa using h,by simpa using hk⟩)
  rename_i hb;exact .inl ⟨by simpa using h,λhe=>by rw [Bg,hk] at he;cases he;simp at hb⟩
  rename_i hk;exact .inl ⟨by simpa using h,λhe=>by rw [Bg,hk] at he;cases he⟩
 |a::l,b::l',t,i+1,x,h=>by
  unfold A5 at h;rw [List.getElem?_cons_succ] at h;rcases lM ops p l l' (t+1) i x h with h|h|h;exact .inl ⟨by simpa using h.1,by rw [show t+(i+1)=t+1+i by omega];exact h.2⟩
  exact .inr (.inl ⟨by simpa using h.1,by rw [show t+(i+1)=t+1+i by omega];exact h.2⟩)
  exact .inr (.inr ⟨by simpa using h.1,by simpa using h.2⟩)
def Qb0(c:HM):Bool:=match c.add,c.upd,c.eat with
 |none,none,none=>true
 |_,_,_=>false
def uE(p:Nat)(M:List Nat):List Nat:=M.map (λx=>Nat.lor x (2^p))
theorem Ql7{p:Nat}{M:List Nat}{k j:Nat}(h:((uE p M).getD k 0).testBit j=true)(hj:j≠p):(M.getD k 0).testBit j=true:=by
 unfold uE at h;rw [List.getD_eq_getElem?_getD,Bn] at h;rw [List.getD_eq_getElem?_getD];cases hm:M[k]? with
 |none=>rw [hm] at h;simp at h
 |some x=>
  rw [hm] at h;simp only [Bt,GS] at h;have h':(x ||| 2^p).testBit j=true:=h
  rw [Nat.testBit_or,Nat.testBit_two_pow] at h';simp only [Bl,qQ] at h';rcases h' with h'|h';exact h';exact absurd h'.symm hj
def Xj3(o:Oper):Bool:=match o.op with
 | .store _ _ _=>true
 |_=>false
def Jg9(ops:List Oper)(p mm m0:Nat):Bool:=match ops[p]? with
 |some o=>match o.op with
  | .load _ (.tmp t)=>match DE t ops 0 with
   |none=>((ops.take m0).drop mm).any Xj3
   |some _=>false
  |_=>false
 |none=>false
def II(ops:List Oper)(M:List Nat)(n m0:Nat):List Nat->Option (Nat×Nat)
 |[]=>none
 |p::l=>match Nat.blt p (BV (uE p M) n)&&(Nat.blt (BV (uE p M) n) m0&&Jg9 ops p (BV (uE p M) n) m0) with
  |true=>some (p,BV (uE p M) n)
  |false=>II ops M n m0 l
theorem kG{ops:List Oper}{M:List Nat}{n m0:Nat}{p mm:Nat}: ∀{l:List Nat},II ops M n m0 l=some (p,mm)->p<mm/\mm=BV (uE p M) n
 |[],h=>by cases h
 |q::l,h=>by
  unfold II at h;split at h;rename_i hb;cases h;simp only [GU,Aw] at hb;exact ⟨hb.1,rfl⟩;exact kG h
def rC(n mm:Nat)(p:Option Nat):Array Bool:=((List.range n).map λk=>Nat.blt k mm&&(match p with
 |some q=> !Nat.beq k q
 |none=>true)).toArray
theorem O5{n mm:Nat}{p:Option Nat}{k:Nat}:inS (rC n mm p) k↔k<n/\k<mm/\p≠some k:=by
 unfold inS rC;rw [P2];simp only [List.getElem?_toArray,Bn];rcases An k n with h|h;rw [List.getElem?_range h];simp only [Bt,GS,GU,Aw];cases p with
 |none=>simp [h]
 |some q=>
  simp only [Ax,ne_eq,HE];constructor;rintro ⟨h1,h2⟩;exact ⟨h,h1,λhe=>by subst he;simp at h2⟩
  rintro ⟨_,h1,h2⟩;refine ⟨h1,?_⟩;cases hb:Nat.beq k q;rfl;exact absurd (GZ hb).symm h2
 rw [Br (by simpa using h)]
 simp;omega
theorem EV(n mm:Nat)(p:Option Nat):(rC n mm p).size=n:=by simp [rC]
theorem Qg0{n:Nat}{L L':Array Bool}(h:L.size=n)(h':L'.size=n)(hk: ∀k,k<n->(inS L k↔inS L' k)):L=L':=by
 refine Array.ext VJ λk h1 h2=>?_;have:=hk k VJ;unfold inS at this;simp only [P2,Array.getElem?_eq_getElem h1,Array.getElem?_eq_getElem h2,GS] at this;exact Bool.eq_iff_iff.2 this
def Xg8(P:Program)(G:List (Nat×Spec))(X:Ext)(ops:List Oper)(p mm:Nat)(s:St):VM St:=
 match fU s.σ.length ops ops 0 with
 |false=> .fail
 |true=>(jC P G X ops (HG ops []) s.σ s.m s.nx mm (ops.take mm) 0 [] []).bind λq=>match u9 s.nx s.m q.1&&Qb0 (q.1.getD p DB) with
  |false=> .fail
  |true=> .may True (sQ P G X ops ops.length (rC ops.length mm none) {s with σ:=gW ops mm q.1 q.2 s.σ 0,m:=RW s.nx q.1 q.1 0++s.m,nx:=s.nx+mm})
    (sQ P G X ops ops.length (rC ops.length mm (some p)) {s with σ:=A5 ops p (gW ops mm q.1 q.2 s.σ 0) s.σ 0,m:=RW s.nx q.1 q.1 0++s.m,nx:=s.nx+mm})
section
variable {P:Program}{G:List (Nat×Spec)}{X:Ext}{ops:Array Oper}{c:Cx}{w0:World}{T:Nat->Prop}{s0:St}{W:List HM}{dec:List (Nat×Bool)}
theorem Wn1{mm p:Nat}(HZ:LZ P G X ops.toList (HG ops.toList []) s0.σ s0.m s0.nx mm W dec)(HX:W.length=mm){L:Array Bool}{a:Act}{w:World}
  (hΦ:c.Φ s0.gh T w0)(hI:uB ops c w0 T s0 W mm L a w)(PC: ∀k,k<mm->k≠p->inS L k)(hnp: ¬inS L p)(hpm:p<mm)(OE:Qb0 (W.getD p DB)=true):
  Rel c {s0 with σ:=A5 ops.toList p (gW ops.toList mm W dec s0.σ 0) s0.σ 0,m:=RW s0.nx W W 0++s0.m,nx:=s0.nx+mm} a w:=by
 have hpc: ∀cp,W[p]? =some cp->cp.add=none/\cp.upd=none/\cp.eat=none:=by
  intro cp hcp;have e:W.getD p DB=cp:=by rw [List.getD_eq_getElem?_getD,hcp];rfl
  rw [e] at OE;unfold Qb0 at OE;split at OE;rename_i h1 h2 h3;exact ⟨h1,h2,h3⟩;cases OE
 obtain ⟨e,hE,hB,hm0,yX,yV,BW,zO,qM⟩:=hI.rel;refine ⟨w0,T,e,hΦ,hE,hB,?_,?_,BW.1,BW.2,?_,?_⟩;intro q hq;rcases List.mem_append.1 hq with hq|hq;obtain ⟨j,c,r,h1,h3,h4,h5,h6⟩:=kN hq;simp only [Ap] at h3 h5 h6;have hj:j<mm:=by rw [←HX];exact (FV.1 h1).1
 have hjp:j≠p:=by
  rintro rfl;rw [(hpc c h1).1] at h4;cases h4
 rw [h3,h5];obtain ⟨r'',hh,hk1,hk2⟩:=yX j c (PC j hj hjp) h1 _ h4 (λi' ci _ hci he=>by rw [fG hci he] at h6;cases h6)
 cases hu:j8 W j with
 |some r'=>
  obtain ⟨i',ci,hi',hui⟩:=xX hu;have hi'm:i'<mm:=by rw [←HX];exact (FV.1 hi').1
  have hip:i'≠p:=by
   rintro rfl;rw [(hpc ci hi').2.1] at hui;cases hui
  rw [←hk1 i' ci r' (PC i' hi'm hip) hi' hui];exact hh
 |none=>
  rw [←hk2 (λi' ci r' _ hci=>xY hu i' ci r' hci)];exact hh
 exact hm0 q hq;intro k hk;show k<s0.nx+mm;rcases yV k hk with h|⟨i,h1,h2⟩;omega;have:=hI.lt i h1;omega;rw [rJ,wD];simpa using zO.symm;intro t av v hav hv;have hv':a.tmps[t]? =some v:=by simpa using hv
 have hs:=qM t v hv';have old: ∀x,(gW ops.toList mm W dec s0.σ 0)[t]? =some x->DE t ops.toList 0≠some p->Rep e w x v:=by
  intro x hav hwp;rw [IP] at hav;rw [Ay] at hav;obtain ⟨a0,ha0,rfl⟩:=hav;unfold F9 at hs;unfold Xm0;simp only [Ap];cases hwt:DE t ops.toList 0 with
  |none=>rw [hwt] at hs;simp only at hs ⊢;rw [wX ha0] at hs;exact hs
  |some k=>
   rw [hwt] at hs;have hkp:k≠p:=by
    rintro rfl;exact hwp hwt
   simp only at hs ⊢;split;rename_i hb;have hk:k<mm:=by simpa [Aw] using hb
   rw [if_pos (show L.getD k false=true from PC k hk hkp)] at hs;simp only [Qs8];cases hld:RS dec k with
   |some d=>
    have:=(HZ.1 k d hld).2;rw [this] at hs;exact hs.litOf
   |none=>exact hs
   rename_i hb;have hk: ¬k<mm:=λh=>by
    have h':Nat.blt k mm=true:=by rw [Aw];exact h
    rw [h'] at hb;cases hb
   rw [if_neg (show ¬L.getD k false=true from λh=>hk (hI.lt k h)),wX ha0] at hs;exact hs
 rcases lM ops.toList p _ _ 0 t av hav with ⟨h1,h2⟩|⟨h1,h2⟩|⟨h1,h2⟩;exact old av h1 (by simpa using h2)
 rw [Ap] at h2;unfold F9 at hs;rw [h2] at hs;simp only at hs;rw [if_neg (show ¬L.getD p false=true from hnp),wX h1] at hs;exact hs;exfalso;have hlt:=(FV.1 h1).1;rw [wD] at hlt;rw [D0 hlt] at h2;cases h2
theorem cX(hG:VK P G)(hX:VW P X c)(GR:P.follows .mixedOrders=true){p mm:Nat}(hpm:p<mm)(hmm:mm=BV (uE p (HG ops.toList [])) ops.toList.length){s:St}{R:St->Prop}{Q:Exit->Act->World->Prop}(h:(Xg8 P G X ops.toList p mm s).sat R){a:Act}{w:World}(r:Rel c s a w){ro:Option Nat}{n:Nat}
  (hQ: ∀s a w,R s->Rel c s a w->Q .normal a w):wpAnyIn (fr ro) n P .any ops Q ops.size (Array.replicate ops.size false) a {w with drawn:=w.drawn+1}:=by
 obtain ⟨w0,T,e,hΦ,r⟩:=r;unfold Xg8 at h;split at h;exact h.elim;rename_i j9;have h2:=VM.sat_bind h;have OF:mm<=ops.size:=by rw [hmm];have:=TU (uE p (HG ops.toList [])) ops.toList.length;simpa using this
 obtain ⟨W,dec,FK,HZ,HX⟩:=wF (P:=P) (G:=G) (X:=X) (ops:=ops.toList) (M:=HG ops.toList []) (σ0:=s.σ) (m0:=s.m) (nx0:=s.nx) (mm:=mm) (ops.toList.take mm) [] [] [] (by simp [Cd OF]) rfl h2 ⟨λk d hk=>by simp [RS] at hk,λi o O=>by simp at O⟩
 have hlen':W.length=mm:=by rw [HX];simp;omega
 have AF: ∀k j,mm<=k->k<ops.size->j<k->j≠p->((HG ops.toList []).getD k 0).testBit j=true:=by
  intro k j h1 h2 h3 h4;exact Ql7 (IJ (k6 _ _ k (by rw [←hmm];exact h1) (by simpa using h2)) h3) h4
 have pR: ∀k o,ops[k]? =some o-> ∀j∈HU o,j<k:=by
  intro k o ho j hj;have:=(P8 j9 k o (by simpa using ho)).2 j hj
  simpa using this
 have rF: ∀p∈s.m,p.1<s.nx:=by
  intro p hp;refine r.live p.1 ?_;have:=r.mem p hp;exact this.live
 obtain ⟨⟨Zp8,OE⟩,FK⟩:(u9 s.nx s.m W=true/\Qb0 (W.getD p DB)=true)/\_:=by
  dsimp only at FK
  split at FK;exact FK.elim;rename_i hb;rw [GU] at hb;exact ⟨hb,FK⟩
 have Qp8:ops.toList.length=ops.size:=VT
 let Inv:Array Bool->Act->World->Prop:=λL a w=>(uB ops c w0 T s W mm L a w/\ ∃k,k<mm/\k≠p/\ ¬inS L k)\/(L.size=ops.size/\ ∃fuel,wpAnyIn (fr ro) n P .any ops Q fuel L a w)
 have gK: ∀L a w,uB ops c w0 T s W mm L a w->(∀k,k<mm->k≠p->inS L k)->Inv L a w:=by
  intro L a w hI PC;rcases Classical.em (inS L p) with hp|hp;have hL:L=rC ops.toList.length mm none:=Qg0 hI.size (by rw [EV];exact Qp8) λk hk=>by
   rw [O5];refine ⟨λh=>⟨VJ,hI.lt k h,VT⟩,λh=>?_⟩;rcases Nat.decEq k p with he|he;exact PC k h.2.1 he;rw [he];exact hp
  refine .inr ⟨hI.size,ops.toList.length,?_⟩;rw [hL];exact j6 hG hX hQ _ _ _ a w (FK.1 trivial) (iH HZ hlen' hΦ hI λk hk=>by
   rcases Nat.decEq k p with he|he;exact PC k hk he;rw [he];exact hp)
  have hL:L=rC ops.toList.length mm (some p):=Qg0 hI.size (by rw [EV];exact Qp8) λk hk=>by
   rw [O5];refine ⟨λh=>⟨VJ,hI.lt k h,λhe=>by cases he;exact hp h⟩,λh=>PC k h.2.1 λhe=>h.2.2 (by rw [he])⟩
  refine .inr ⟨hI.size,ops.toList.length,?_⟩;rw [hL];exact j6 hG hX hQ _ _ _ a w FK.2 (Wn1 HZ hlen' hΦ hI PC hp hpm OE)
 have y9: ∀(L:Array Bool),L.size=ops.size->Region.ready .any ops L=[]-> ∀k,k<ops.size->inS L k:=by
  intro L hsz Z k
  induction k using Nat.strongRecOn with
  |_ k ih=>
   intro hk;rcases Classical.em (inS L k) with h'|h';exact h';exfalso;have gO:k∈Region.ready .any ops L:=by
    unfold Region.ready;rw [List.mem_filter];refine ⟨List.mem_range.2 hk,?_⟩;have hok:ops[k]? =some ops[k]:=by simp [hk]
    rw [hok];simp only [Bt,GS,GU,Ax];refine ⟨?_,?_⟩;unfold inS at h';simp [P2,hsz,hk] at h' ⊢;exact h';rw [Array.all_eq_true_iff_forall_mem];intro ed hed;cases hb:Region.binds .any ed with
    |false=>simp
    |true=>
     have hj:ed.on∈HU ops[k]:=by
      simp only [HU,List.mem_map,List.mem_filter];exact ⟨ed,⟨by simpa using hed,hb⟩,rfl⟩
     have hlt:=pR k _ hok _ hj;have:=ih ed.on hlt VJ;simpa [inS] using this
   rw [Z] at gO;cases gO
 refine AO Inv ?_ ?_ ?_ ops.size _ a _ ?_ ?_
 rintro L a w i (⟨hI,k0,hk0,hkp,hk0'⟩|⟨hsz,fuel,hwp⟩) O;obtain ⟨hin,hun,o,ho,gM⟩:=HR O;have him:i<mm:=by
  rcases An i mm with h'|h';exact h';exfalso;exact hk0' (w8 hI.dc i o (by simpa using ho) gM k0 (AF i k0 h' hin VJ hkp))
 refine wpOpIn_mono (λa' w' hI'=>?_) (Xu2 hG ⟨hX.c,hX.f,hX.d⟩ j9 HZ hlen' OF rF (mC Zp8) hI O him);rcases Classical.em (∀k,k<mm->k≠p->inS (L.setIfInBounds i true) k) with hf|hf;exact gK _ _ _ hI' hf;refine .inl ⟨hI',?_⟩;rcases Classical.not_forall.1 hf with ⟨k,hk⟩;obtain ⟨h1,h2⟩:=Classical.not_imp.1 hk;obtain ⟨h3,h4⟩:=Classical.not_imp.1 h2;exact ⟨k,h1,h3,h4⟩;cases fuel with
 |zero=>
  have h1:Region.ready .any ops L=[]:=hwp.1;rw [h1] at O;cases O
 |succ fuel=>
  refine wpOpIn_mono (λa' w' hwp'=> .inr ⟨by simp [hsz],fuel,hwp'⟩) (hwp.2 i O)
 rintro L a w (⟨hI,k0,hk0,hkp,hk0'⟩|⟨hsz,fuel,hwp⟩) Z;exact absurd (y9 L hI.size Z k0 VJ) hk0';cases fuel with
 |zero=>exact hwp.2
 |succ fuel=>exact hwp.1 Z
 rintro L a w (⟨hI,_⟩|⟨hsz,_⟩);exact hI.size;exact hsz
 have hno: ∀k,¬inS (Array.replicate ops.size false) k:=by
  intro k hk;unfold inS at hk;rw [P2,Array.getElem?_replicate] at hk;split at hk<;>cases hk
 have hI:uB ops c w0 T s W mm (Array.replicate ops.size false) a {w with drawn:=w.drawn+1}:=by
  have r:=r.drew;refine ⟨VT,λk o _ hk=>absurd hk (hno k),λk hk=>absurd hk (hno k),e,r.env,r.below,r.mem,λi c O=>absurd O (hno i),λk hk=> .inl (r.live k hk),⟨r.foe,r.xt⟩,by simpa using r.slots.1.symm,?_⟩
  intro t v hv;have hlt:t<s.σ.length:=by
   have h1:=r.slots.1;have h2:=(P7.1 hv).1;simp at h1;omega
  have Z:=r.slots.2 t s.σ[t] v (D0 hlt) (by simpa using hv)
  unfold F9;have hg:s.σ.getD t .top=s.σ[t]:=by simp [List.getD,D0 hlt]
  split;rename_i k hk;rw [if_neg (show ¬(Array.replicate ops.size false).getD k false=true from hno k),hg];exact Z;rw [hg];exact Z
 rcases Classical.em (∀k,k<mm->k≠p->inS (Array.replicate ops.size false) k) with hf|hf;exact gK _ _ _ hI hf;refine .inl ⟨hI,?_⟩;rcases Classical.not_forall.1 hf with ⟨k,hk⟩;obtain ⟨h1,h2⟩:=Classical.not_imp.1 hk;obtain ⟨h3,h4⟩:=Classical.not_imp.1 h2;exact ⟨k,h1,h3,h4⟩;unfold unl;exact Ar List.countP_le_length VT
end
def nW(P:Program)(G:List (Nat×Spec))(X:Ext)(ops:List Oper)(s:St):VM St:=match Qs4 ops (HG ops []) (List.range ops.length) with
 |some _=>Xh0 P G X ops s
 |none=>match II ops (HG ops []) ops.length (BV (HG ops []) ops.length) (List.range ops.length) with
  |some (p,mm)=>Xg8 P G X ops p mm s
  |none=>Xh0 P G X ops s
section
variable {P:Program}{F:Fence}{n:Nat}{Q:Exit->Act->World->Prop}
def Wg4(ops:List Oper):Bool:=ops.all λo=>match o.op with
 | .defer _=>false
 | .select _ _=>false
 |_=>true
def mvB(ops:List Oper)(p s:Nat):Bool:=match ops[p]? with
 |some op=>match op.op,op.dst with
  | .move x,some d=> !Nat.beq p s&&op.guard.isNone&&(HU op).isEmpty&&Wg4 ops&&(List.range ops.length).all (λj=>Nat.beq j p||(match ops[j]? with
   |some oj=>(HU oj).any (Nat.beq p)||op.apart ops.toArray oj
   |none=>true))
  |_,_=>false
 |none=>false
section
variable {ops:Array Oper}
theorem NC{p:Nat}{op:Oper}{x:Operand}{v:Value}(ho:ops[p]? =some op)(hop:op.op= .move x)(hg:op.guard=none){K:Act->World->Prop}{a:Act}{w:World}(hv:a.eval x=v)(h:K (a.put op.dst v) w):wpOpIn F n P ops Q p K a w:=by
 obtain ⟨dst,o,type,pos,after,guard⟩:=op;simp only at hop hg h;subst hop hg;unfold wpOpIn;rw [ho];have hw:Region.wanted (⟨dst,.move x,type,pos,after,none⟩:Oper) (yielded ops a.tmps)=true:=by simp [Region.wanted]
 have hs:(Oper.semAt F.round a.eval ⟨dst,.move x,type,pos,after,none⟩).run P w= .ok (.value v) w:=by
  rw [Oper.semAt_eq _ _ _ (λc h=>by cases h)]
  simp [execOp,hv]
 simp only [hw,if_true,Oper.wpIn,hs,Oper.uponIn];exact ⟨λf hf=>(by cases hf),h⟩
theorem SO{j:Nat}{oi oj:Oper}{x:Operand}{v:Value}(hj:ops[j]? =some oj)(hap:oi.apart ops oj=true)(hmv:oi.op= .move x)
  (hdj: ∀c,oj.op≠ .defer c)(hsj: ∀cs b,oj.op≠ .select cs b)(hQ: ∀c a w,¬Q (.panic c) a w){K:Act->World->Prop}{a:Act}{w:World}
  (hy:a.eval x=v)(h:wpOpIn F n P ops Q j K (a.put oi.dst v) w):
  wpOpIn F n P ops Q j (λa' w'=>a'.eval x=v/\K (a'.put oi.dst v) w') a w:=by
 obtain ⟨h1,h2,h3⟩:=Oper.apart_spec hap;have keep: ∀u,(a.put oj.dst u).eval x=v:=λu=>by
  rw [Act.eval_put λd hd hxd=>h3 d hd ?_];exact hy;subst hxd;exact Bd _ (List.mem_filterMap.2 ⟨.tmp d,by rw [hmv];simp [Op.operands],rfl⟩)
 unfold wpOpIn at*;simp only [hj] at*;rw [wanted_put oj a oi.dst v h1,about_put oj w a oi.dst v h1] at h;split
 ·rename_i hw;simp only [hw,if_true] at h;unfold Oper.wpIn at*;rw [about_put oj w a oi.dst v h1] at h;refine ⟨h.1,?_⟩;have h:=h.2;rw [Oper.semAt_eq _ _ _ hdj,execOp_put oj hsj a oi.dst v h1] at h;rw [Oper.semAt_eq _ _ _ hdj];generalize (execOp a.eval oj).run P w=r at*;cases r with
  |ok y w'=>
   cases y<;>simp only [Oper.uponIn] at h ⊢
   case value u=>exact ⟨keep u,by rw [←Act.put_comm a v u h2];exact h⟩
   case skip=>exact ⟨keep _,by rw [←Act.put_comm a v undef h2];exact h⟩
   case defer d=>
    refine ⟨?_,?_⟩;rw [show (({a with defers:=d::a.defers}:Act).put oj.dst undef).eval x=(a.put oj.dst undef).eval x from by cases oj.dst<;>cases x<;>rfl]
    exact keep undef;rw [←Act.put_comm _ v undef h2,←Act.put_defers];exact h
   case enter f args=>
    refine ⟨h.1,CallsIn.mono h.2 λe w'' he=>?_⟩;cases e with
    |returned u=>exact ⟨keep u,by rw [←Act.put_comm a v u h2];exact he⟩
    |panicked c=>exact (hQ _ _ _ he).elim
    |outgrown=>exact he
   case row row args=>exact ⟨h.1,RowsIn.mono h.2 λu w'' he=>⟨keep u,by rw [←Act.put_comm a v u h2];exact he⟩⟩
   case round l f tmps assign body=>
    refine ⟨h.1,RoundIn.mono h.2 λe w'' he=>?_⟩;cases e with
    |returned u=>exact ⟨keep u,by rw [←Act.put_comm a v u h2];exact he⟩
    |panicked c=>exact (hQ _ _ _ he).elim
    |outgrown=>exact he
  |halt u w'=>
   cases u<;>simp only [Oper.uponIn] at h ⊢
   case panic u=>exact (hQ _ _ _ h).elim
 rename_i hw;simp only [hw] at h;exact ⟨h.1,keep _,by rw [←Act.put_comm a v undef h2];exact h.2⟩
theorem oU{p:Nat}{op:Oper}{x:Operand}{v:Value}(O:ops[p]? =some op)(hop:op.op= .move x)(hg:op.guard=none)
  (hnd: ∀(j:Nat) (o:Oper),ops[j]? =some o->(∀c,o.op≠ .defer c)/\ ∀cs b,o.op≠ .select cs b)(hQ: ∀c a w,¬Q (.panic c) a w)
  (Wp3: ∀j oj,ops[j]? =some oj->j≠p->(∀k∈HU oj,k≠p)->op.apart ops oj=true):
  ∀(fuel:Nat) (L:Array Bool) (a:Act) (w:World),L.size=ops.size-> ¬inS L p->p∈Region.ready .any ops L->a.eval x=v->
   wpAnyIn F n P .any ops Q fuel (L.setIfInBounds p true) (a.put op.dst v) w->wpAnyIn F n P .any ops Q (fuel+1) L a w:=by
 have hpl:p<ops.size:=(P7.1 O).1;have mono: ∀(L:Array Bool) (j:Nat),L.size=ops.size->j∈Region.ready .any ops L->j≠p->j∈Region.ready .any ops (L.setIfInBounds p true):=by
  intro L j hL hj hne;obtain ⟨g1,g2,o,g3,g4⟩:=HR hj;have hpL:p<L.size:=by rw [hL];exact hpl
  refine FB (by simp [hL]) g3 (λhh=>?_) (λk hk=>(UQ hpL).2 (.inr (g4 k hk)))
  rcases (UQ hpL).1 hh with hh|hh;exact hne hh;exact BU (by rw [hL];exact g1) g2 hh
 intro fuel
 induction fuel with
 |zero=>
  intro L a w hL hn Z hy H;refine ⟨λh=>(by rw [h] at Z;cases Z),λj hj=>?_⟩
  by_cases hjp:j=p;subst hjp;exact NC O hop hg hy H;have:=mono L j hL hj hjp;rw [H.1] at this;cases this
 |succ fuel ih=>
  intro L a w hL hn Z hy H;refine ⟨λh=>(by rw [h] at Z;cases Z),λj hj=>?_⟩
  by_cases hjp:j=p;subst hjp;exact NC O hop hg hy H;have h1:=H.2 j (mono L j hL hj hjp);obtain ⟨g1,g2,oj,g3,g4⟩:=HR hj;have hap:=Wp3 j oj g3 hjp λk hk he=>hn (he▸g4 k hk);have h2:=SO g3 hap hop (hnd j oj g3).1 (hnd j oj g3).2 hQ hy h1;have hjL:j<L.size:=by rw [hL];exact g1
  refine wpOpIn_mono (λa' w' h3=>ih (L.setIfInBounds j true) a' w' (by simp [hL]) (λhh=>?_) ?_ h3.1 ?_) h2
  rcases (UQ hjL).1 hh with hh|hh;exact hjp hh.symm;exact hn hh;obtain ⟨q1,q2,o',q3,q4⟩:=HR Z;refine FB (by simp [hL]) q3 (λhh=>?_) λk hk=>(UQ hjL).2 (.inr (q4 k hk))
  rcases (UQ hjL).1 hh with hh|hh;exact hjp hh.symm;exact hn hh;rw [Array.setIfInBounds_comm _ _ hjp];exact h3.2
end
theorem Qs5{ops ops2:Array Oper}{p s:Nat}(h2:ops2.toList=PN p s ops.toList)(hmv:mvB ops.toList p s=true)(hq: ∀c a w,¬Q (.panic c) a w){a:Act}{w:World}
  (h:wpAnyIn F n P .any ops2 Q ops.size (Array.replicate ops.size false) a w):wpAnyIn F n P .any ops Q ops.size (Array.replicate ops.size false) a w:=by
 have hg: ∀j,ops2[j]? =if j=s then (ops[j]?).map (kI p) else ops[j]? :=λj=>by
  have:=xP p s ops.toList j;rw [←h2] at this;simpa using this
 have A4:ops2.size=ops.size:=by
  have:=PG p s ops.toList;rw [←h2] at this;simpa using this
 unfold mvB at hmv;split at hmv
 rotate_left
 cases hmv;rename_i op hop;have hop:ops[p]? =some op:=by simpa using hop
 split at hmv
 rotate_left
 cases hmv;rename_i x d hx hd;simp only [GU,Option.isNone_iff_eq_none,Ax,B1,Bl,List.mem_range,List.isEmpty_iff] at hmv;obtain ⟨⟨⟨⟨hps,hgd⟩,pR⟩,hnd⟩,HZ⟩:=hmv;have hps:p≠s:=λh=>by rw [h] at hps;simp at hps
 have hpl:p<ops.size:=(P7.1 hop).1;have hnd': ∀(j:Nat) (o:Oper),ops[j]? =some o->(∀c,o.op≠ .defer c)/\ ∀cs b,o.op≠ .select cs b:=by
  intro j o ho;unfold Wg4 at hnd;have:=B1.1 hnd o (by
   have:ops.toList[j]? =some o:=by simpa using ho
   exact F5 this)
  exact ⟨λc hc=>(by rw [hc] at this;cases this),λcs b hc=>(by rw [hc] at this;cases this)⟩
 have Wp3: ∀j oj,ops[j]? =some oj->j≠p->(∀k∈HU oj,k≠p)->op.apart ops oj=true:=by
  intro j oj hj hne hno;have hjl:j<ops.toList.length:=by simpa using (P7.1 hj).1
  rcases HZ j hjl with h|h;exact absurd (GZ h) hne;have hj':ops.toList[j]? =some oj:=by simpa using hj
  rw [hj'] at h;simp only [Bl] at h;rcases h with h|h;exfalso;obtain ⟨k,hk,hb⟩:=List.any_eq_true.1 h;exact hno k hk (GZ hb).symm;simpa using h
 have sub: ∀L i,L.size=ops.size->i∈Region.ready .any ops2 L->i∈Region.ready .any ops L:=by
  intro L i hL O;obtain ⟨g1,g2,o,g3,g4⟩:=HR O;have hn: ¬inS L i:=BU (by rw [hL,←A4];exact g1) g2
  rw [hg] at g3;by_cases his:i=s;rw [if_pos his,Ay] at g3;obtain ⟨os,hos,rfl⟩:=g3;exact FB hL hos hn λj hj=>g4 j (BX.2 (.inl hj));rw [if_neg his] at g3;exact FB hL g3 hn g4
 have sup: ∀L i,L.size=ops.size->i∈Region.ready .any ops L->inS L p->i∈Region.ready .any ops2 L:=by
  intro L i hL O hp;obtain ⟨g1,g2,o,g3,g4⟩:=HR O;have hn: ¬inS L i:=BU (by rw [hL];exact g1) g2
  by_cases his:i=s;refine FB (by rw [hL,A4]) (o:=kI p o) (by rw [hg,if_pos his,g3];rfl) hn λj hj=>?_
  rcases BX.1 hj with hj|rfl;exact g4 j hj;exact hp;exact FB (by rw [hL,A4]) (by rw [hg,if_neg his];exact g3) hn g4
 have hA: ∀(fuel:Nat) (L:Array Bool) (a:Act) (w:World),L.size=ops.size->inS L p->wpAnyIn F n P .any ops2 Q fuel L a w->wpAnyIn F n P .any ops Q fuel L a w:=by
  intro fuel
  induction fuel with
  |zero=>
   intro L a w hL hp h;refine ⟨?_,h.2⟩;rw [List.eq_nil_iff_forall_not_mem];intro i O;have:=sup L i hL O hp;rw [h.1] at this;cases this
  |succ fuel ih=>
   intro L a w hL hp h;refine ⟨λZ=>h.1 ?_,λi O=>?_⟩;rw [List.eq_nil_iff_forall_not_mem];intro i O;have:=sub L i hL O;rw [Z] at this;cases this;have hiL:i<L.size:=by rw [hL];exact (HR O).1
   exact wpOpIn_mono (λa' w' h'=>ih (L.setIfInBounds i true) a' w' (by simp [hL]) ((UQ hiL).2 (.inr hp)) h') ((xO h2).1 (h.2 i (sup L i hL O hp)))
 have hno: ∀j,¬inS (Array.replicate ops.size false) j:=by
  intro j hj;unfold inS at hj;rw [P2,Array.getElem?_replicate] at hj;split at hj<;>cases hj
 have hL0:(Array.replicate ops.size false).size=ops.size:=VT;obtain ⟨f,hf⟩: ∃f,ops.size=f+1:=⟨ops.size-1,VJ⟩;rw [show wpAnyIn F n P .any ops2 Q ops.size (Array.replicate ops.size false) a w=wpAnyIn F n P .any ops2 Q (f+1) (Array.replicate ops.size false) a w by rw [←hf]] at h
 rw [show wpAnyIn F n P .any ops Q ops.size (Array.replicate ops.size false) a w=wpAnyIn F n P .any ops Q (f+1) (Array.replicate ops.size false) a w by rw [←hf]]
 have hp0:p∈Region.ready .any ops (Array.replicate ops.size false):=FB hL0 hop (hno p) (λj hj=>by rw [pR] at hj;cases hj)
 have hp2:p∈Region.ready .any ops2 (Array.replicate ops.size false):=FB (by rw [hL0,A4]) (o:=op) (by rw [hg,if_neg hps];exact hop) (hno p) (λj hj=>by rw [pR] at hj;cases hj)
 have h3:=(xO h2).1 (h.2 p hp2)
 have h4:wpAnyIn F n P .any ops2 Q f ((Array.replicate ops.size false).setIfInBounds p true) (a.put op.dst (a.eval x)) w:=by
  obtain ⟨dst,o,type,pos,after,guard⟩:=op;simp only at hx hgd;subst hx hgd;unfold wpOpIn at h3;rw [hop] at h3;have hw:Region.wanted (⟨dst,.move x,type,pos,after,none⟩:Oper) (yielded ops a.tmps)=true:=by simp [Region.wanted]
  have hs:(Oper.semAt F.round a.eval ⟨dst,.move x,type,pos,after,none⟩).run P w= .ok (.value (a.eval x)) w:=by
   rw [Oper.semAt_eq _ _ _ (λc h=>by cases h)]
   simp [execOp]
  simp only [hw,if_true,Oper.wpIn,hs,Oper.uponIn] at h3;exact h3.2
 exact oU hop hx hgd hnd' hq Wp3 f _ a w hL0 (hno p) hp0 rfl (hA f _ _ w VT ((UQ (by simpa using hpl)).2 (.inl rfl)) h4)
end
def mvGo(ops:List Oper)(k:Nat):Option Nat:=(List.range k).find? λp=> !Nat.testBit ((HG ops []).getD k 0) p&&mvB ops p k
def Wd2(P:Program)(G:List (Nat×Spec))(X:Ext):Nat->List Oper->St->VM St
 | 0,ops,s=>nW P G X ops s
 |f+1,ops,s=>match Qs4 ops (HG ops []) (List.range ops.length) with
  |some (p,k)=>match exB ops p k with
   |true=>nW P G X ops s
   |false=>match mvGo ops k with
    |some q=>match mvB ops q k with
     |true=>Wd2 P G X f (PN q k ops) s
     |false=>nW P G X ops s
    |none=>match II ops (HG ops []) ops.length (BV (HG ops []) ops.length) (List.range ops.length) with
     |some (p,mm)=>Xg8 P G X ops p mm s
     |none=>nW P G X ops s
  |none=>nW P G X ops s
theorem jQ{P:Program}{G:List (Nat×Spec)}{X:Ext}{ops:Array Oper}{c:Cx}(hG:VK P G)(hX:VW P X c)(GR:P.follows .mixedOrders=true){s:St}{R:St->Prop}{Q:Exit->Act->World->Prop}(h:(nW P G X ops.toList s).sat R){a:Act}{w:World}(r:Rel c s a w){ro:Option Nat}{n:Nat}
  (hQ: ∀s a w,R s->Rel c s a w->Q .normal a w)(hno: ∀c a w,¬Q (.panic c) a w):wpAnyIn (fr ro) n P .any ops Q ops.size (Array.replicate ops.size false) a {w with drawn:=w.drawn+1}:=by
 have hE: ∀h:(Xh0 P G X ops.toList s).sat R,wpAnyIn (fr ro) n P .any ops Q ops.size (Array.replicate ops.size false) a {w with drawn:=w.drawn+1}:=by
  intro h;unfold Xh0 at h;split at h;rename_i p k _;split at h;rename_i hex;have h1:=CD (ops:=(PN p k ops.toList).toArray) (Q:=Q) hG hX GR (ro:=ro) (n:=n) (R:=R) (by simpa using h) r hQ
  have hs:(PN p k ops.toList).toArray.size=ops.size:=by simp [PG]
  rw [hs] at h1;have hno': ∀j,¬inS (Array.replicate ops.size false) j:=by
   intro j hj;unfold inS at hj;rw [P2,Array.getElem?_replicate] at hj;split at hj<;>cases hj
  exact Wt8 rfl hex hno ops.size _ a _ VT (λj o _ hj=>absurd hj (hno' j)) (.inr (hno' k)) h1;exact CD hG hX GR h r hQ;exact CD hG hX GR h r hQ
 unfold nW at h;split at h;exact hE h;split at h;rename_i p mm hf;obtain ⟨h1,h2⟩:=kG hf;exact cX hG hX GR h1 h2 h r hQ;exact hE h
theorem cZ{P:Program}{G:List (Nat×Spec)}{X:Ext}{c:Cx}(hG:VK P G)(hX:VW P X c)(GR:P.follows .mixedOrders=true){s:St}{R:St->Prop}{Q:Exit->Act->World->Prop}{a:Act}{w:World}(r:Rel c s a w){ro:Option Nat}{n:Nat}
  (hQ: ∀s a w,R s->Rel c s a w->Q .normal a w)(hno: ∀c a w,¬Q (.panic c) a w): ∀(f:Nat) (ops:Array Oper),(Wd2 P G X f ops.toList s).sat R->wpAnyIn (fr ro) n P .any ops Q ops.size (Array.replicate ops.size false) a {w with drawn:=w.drawn+1}
 | 0,ops,h=>jQ hG hX GR h r hQ hno
 |f+1,ops,h=>by
  unfold Wd2 at h;split at h;rename_i p0 k _;split at h;exact jQ hG hX GR h r hQ hno;split at h;rename_i q _;split at h;rename_i hb;have h1:=cZ (ro:=ro) (n:=n) hG hX GR r hQ hno f (PN q k ops.toList).toArray (by simpa using h)
  have hs:(PN q k ops.toList).toArray.size=ops.size:=by simp [PG]
  rw [hs] at h1;exact Qs5 rfl hb hno h1;exact jQ hG hX GR h r hQ hno;split at h;rename_i p mm hf;obtain ⟨h1,h2⟩:=kG hf;exact cX hG hX GR h1 h2 h r hQ;exact jQ hG hX GR h r hQ hno;exact jQ hG hX GR h r hQ hno
theorem nY{P:Program}{G:List (Nat×Spec)}{X:Ext}{f:Nat}{ops:Array Oper}{c:Cx}(hG:VK P G)(hX:VW P X c)(GR:P.follows .mixedOrders=true){id:Nat}{s:St}{R:St->Prop}{Q:Exit->Act->World->Prop}(h:(Wd2 P G X f ops.toList s).sat R){a:Act}{w:World}(r:Rel c s a w){ro:Option Nat}{n:Nat}
  (hQ: ∀s a w,R s->Rel c s a w->Q .normal a w):(Code.region id ops true).wpIn (fr ro) n P Q a w:=by
 refine wpIn_region_any GR ?_
 let Q':Exit->Act->World->Prop:=λe a w=>match e with
  | .normal=>Q .normal a w
  |_=>False
 refine ND (Q:=Q') (λe a w hq=>?_) (cZ (Q:=Q') hG hX GR r hQ (λc a w hq=>hq) f ops h);cases e<;>first|exact hq|exact hq.elim
def z7:Op->Bool
 | .move _=>true
 | .assign _=>true
 | .extract _ _=>true
 | .nilCheck _=>true
 | .fieldAddr _ _ _=>true
 | .load _ _=>true
 | .lookup _ _ _ _=>true
 |_=>false
def Zm7:Op->Bool
 | .lookup _ _ _ _=>true
 |_=>false
section
variable {P:Program}
def stT(P:Program):List Oper->St->VM St
 |[],s=> .leaf s
 |o::rest,s=>match o.guard with
  |some _=> .fail
  |none=>match z7 o.op with
   |false=> .fail
   |true=>match aop P [] s.nx s.m (rho s.σ) o.op with
    |some (ns,val,_)=> .needT ns (stT P rest {s with σ:=wY s.σ o.dst val})
    |none=>match m9 P s.m (rho s.σ) o.op with
     |some (ns,p,v1,v2)=> .needT ns (.may p (stT P rest {s with σ:=wY s.σ o.dst v1}) (stT P rest {s with σ:=wY s.σ o.dst v2}))
     |none=> .fail
section
variable {o:Oper}{a:Act}{w:World}
theorem L0{v:Value}{K:Act->Prop}(h:(execOp a.eval o).run P w= .ok (.value v) w)(k:K (a.put o.dst v)):o.still P a w K:=by
 unfold Oper.still;rw [h];exact ⟨rfl,k⟩
theorem cG{s:Sem Value}{K:Act->Prop}(hs:execOp a.eval o=(do pure (.value (←s))))(h:o.wp P a w (λa' w'=>w'=w/\K a') (λ_ _ _=>False)):o.still P a w K:=by
 unfold Oper.wp at h;rw [hs,At] at h;unfold Oper.still;rw [hs,At];cases Z:s.run P w with
 |ok u w'=>
  rw [Z] at h;simp only [Au,Bv,Oper.upon] at h;simp only [Au,Bv,Oper.stillUpon];exact h
 |halt x w'=>
  rw [Z] at h;cases x<;>simp [Result.andThen,Oper.upon] at h
end
section
variable {e:UL}{w:World}{m:H2}
theorem Qu7{id:Nat}{ρ:Operand->AV}{o:Oper}{a:Act}{ns:List Prop}{val:AV}{add:Option GO}(ho:z7 o.op=true)
  (h:aop P [] id m ρ o.op=some (ns,val,add))(hn: ∀p∈ns,p)(hm:UV e m w)(Z: ∀x,Rep e w (ρ x) (a.eval x))
  {K:Act->Prop}(hK: ∀v,Rep e w val v->K (a.put o.dst v)):o.still P a w K:=by
 obtain ⟨dst,op,type,pos,after,guard⟩:=o;cases op<;>try (simp [z7] at ho;done)
 case move x=>
  simp only [aop,HE,FF] at h;obtain ⟨rfl,rfl,rfl⟩:=h;exact L0 (v:=a.eval x) (by simp [execOp]) (hK _ (Z x))
 case assign x=>
  simp only [aop,HE,FF] at h;obtain ⟨rfl,rfl,rfl⟩:=h;exact L0 (v:=a.eval x) (by simp [execOp]) (hK _ (Z x))
 case load t x=>
  obtain ⟨rfl,ad,u,hv,hu,GK⟩:=jW (P:=P) (by simpa only [aop] using h) hn hm (Z x)
  exact L0 (v:=u) (by simp [execOp,Instr.loadAt,Instr.sureAddr,hv,hu]) (hK _ GK)
 case nilCheck x=>
  simp only [aop] at h;have hx:=Z x;have fin:val=ρ x->(∃ad,a.eval x= .pointer (some ad))\/(∃f l l',a.eval x= .func (.func f) l l')->Oper.still P ⟨dst,.nilCheck x,type,pos,after,guard⟩ a w K:=by
   rintro rfl hv;refine L0 (v:=a.eval x) ?_ (hK _ (Z x));rcases hv with ⟨ad,hv⟩|⟨f,l,l',hv⟩<;>simp [execOp,hv]
  split at h;rename_i heq;rw [heq] at hx;cases h;exact fin heq.symm (.inl hx.ptr_inv);rename_i heq;rw [heq] at hx;cases h;exact fin heq.symm (.inl hx.ro_inv);rename_i heq;rw [heq] at hx;cases h;exact fin heq.symm (.inl hx.elt_inv);rename_i heq;rw [heq] at hx;cases h;exact fin heq.symm (.inl hx.roI_inv);rename_i heq;rw [heq] at hx;cases h;obtain ⟨vs,vs',hv,_⟩:=hx.fn_inv;exact fin heq.symm (.inr ⟨_,_,_,hv⟩);cases h
 case fieldAddr t x k=>
  simp only [aop] at h;unfold w6 at h;split at h;rename_i fs hu;split at h;rename_i f hf;split at h;rename_i i O;split at h;cases h;rename_i s hs;obtain ⟨k1,rfl,rfl⟩:=RF h;obtain ⟨ad,hv,GK⟩:=v9 k1 (Z x);refine L0 (v:=_) ?_ (hK _ GK);simp [execOp,hv,Instr.fieldAt,run_underlying hu,hf,Instr.sureAddr,fieldPlace,sizeOf,typeInfo,O,hs];cases h;cases h;cases h
 case extract x i=>
  simp only [aop] at h;have hx:=Z x;split at h;rename_i l heq;rw [heq] at hx;obtain ⟨k1,rfl,rfl⟩:=RF h;obtain ⟨vs,hv,hvs⟩:=hx.tup_inv;obtain ⟨u,hu,GK⟩:=hvs.get k1;exact L0 (v:=u) (by simp [execOp,Instr.extract,hv,hu]) (hK _ GK)
  cases h
 case lookup t x k ok=>
  obtain ⟨rfl,u,h1,h2⟩:=rB (P:=P) (by simpa only [aop] using h) (Z x) (Z k)
  exact L0 (v:=u) (by simp [execOp,h1]) (hK _ h2)
theorem sP{ρ:Operand->AV}{o:Oper}{a:Act}{ns:List Prop}{p:Prop}{v1 v2:AV}(ho:z7 o.op=true)(h:m9 P m ρ o.op=some (ns,p,v1,v2))(hn: ∀p∈ns,p)(hm:UV e m w)(Z: ∀x,Rep e w (ρ x) (a.eval x))
  {K:Act->Prop}(hK: ∀v,(p/\Rep e w v1 v)\/Rep e w v2 v->K (a.put o.dst v)):o.still P a w K:=by
 have hwp:=M1 (P:=P) (o:=o) (a:=a) (K:=λa' w'=>w'=w/\K a') (Q:=λ_ _ _=>False) h hn hm Z (λv hv=>⟨rfl,hK v hv⟩);obtain ⟨dst,op,type,pos,after,guard⟩:=o;cases op<;>try (simp [z7] at ho;done)
 case lookup t x k ok=>exact cG rfl hwp
 all_goals simp [m9] at h
end
theorem kU{ops:Array Oper}{c:Cx}{w0:World}{T:Nat->Prop}{e:UL}{w:World}{R:St->Prop}{g:Option Nat}: ∀(l:List Oper) (s:St) (a:Act),(stT P l s).sat R->s.gh=g->F7 c w0 T e s a w->
  wpStill P ops w (λa'=> ∃s',R s'/\s'.gh=g/\F7 c w0 T e s' a' w) l a
 |[],s,a,h,hg,r=>⟨s,h,hg,r⟩
 |o::rest,s,a,h,hgh,r=>by
  unfold stT at h;split at h;exact h.elim;rename_i hg;split at h;exact h.elim;rename_i ho;have hw:Region.wanted o (yielded ops a.tmps)=true:=by simp [Region.wanted,hg]
  unfold wpStill;rw [if_pos hw];have keep: ∀{av:AV} {v:Value},Rep e w av v->F7 c w0 T e {s with σ:=wY s.σ o.dst av} (a.put o.dst v) w:=λGK=>
   ⟨r.env,r.below,r.mem,r.live,r.foe,by rw [put_defers];exact r.xt,BY r.slots o.dst GK⟩
  split at h;rename_i ns val add ha;obtain ⟨hn,h⟩:=VM.sat_needT h;exact Qu7 ho ha (GE hn) r.mem (FL r.slots) λv hv=>kU rest _ _ h hgh (keep hv);split at h;rename_i ns p v1 v2 ha;obtain ⟨hn,h⟩:=VM.sat_needT h;refine sP ho ha (GE hn) r.mem (FL r.slots) λv hv=>?_;rcases hv with ⟨hp,hv⟩|hv;exact kU rest _ _ (h.1 hp) hgh (keep hv);exact kU rest _ _ h.2 hgh (keep hv);exact h.elim
theorem wS{ops:Array Oper}{md:Region.Mode}{w:World}{ro:Option Nat}{n:Nat}{Q:Act->Prop}{Q':Exit->Act->World->Prop}(hnd: ∀(j:Nat) (o:Oper),ops[j]? =some o-> ∀c,o.op≠ .defer c)(hQ: ∀a,Q a->Q' .normal a w):
  ∀(fuel:Nat) (listed:Array Bool) (a:Act),wpAnyS P md ops w Q fuel listed a->wpAnyIn (fr ro) n P md ops Q' fuel listed a w
 | 0,_,_,h=>⟨h.1,hQ _ h.2⟩
 |fuel+1,listed,a,h=>⟨λh0=>hQ _ (h.1 h0),λi O=>by
  have h:=h.2 i O;have ih:=λl a=>wS (md:=md) (ro:=ro) (n:=n) hnd hQ fuel l a;unfold stOp at h;unfold wpOpIn;cases ho:ops[i]? with
  |none=>
   simp only [ho] at h;exact ih _ _ h
  |some o=>
   simp only [ho] at h;simp only;by_cases hw:Region.wanted o (yielded ops a.tmps)=true;rw [if_pos hw] at h ⊢;exact HO (hnd i o ho) (Oper.wp_of_still (λa' h'=>ih _ a' h') h);rw [if_neg hw] at h ⊢;exact ⟨λf _=>trivial,ih _ _ h⟩⟩
def M3(ops:List Oper):Bool:=ops.any (λo=>Zm7 o.op)&&(ops.all (λo=>z7 o.op)&&Region.lexB .any ops.toArray)
theorem cF{ops:Array Oper}{c:Cx}(GR:P.follows .mixedOrders=true){id:Nat}{s:St}{R:St->Prop}{Q:Exit->Act->World->Prop}(hB:M3 ops.toList=true)(h:(stT P ops.toList s).sat R){a:Act}{w:World}(r:Rel c s a w){ro:Option Nat}{n:Nat}
  (hQ: ∀s a w,R s->Rel c s a w->Q .normal a w):(Code.region id ops true).wpIn (fr ro) n P Q a w:=by
 obtain ⟨w0,T,e,hΦ,r⟩:=r;unfold M3 at hB;simp only [GU] at hB;obtain ⟨_,hs,Wp2⟩:=hB;have Wp2:Region.lexB .any ops=true:=by simpa using Wp2
 simp only [Region.lexB,GU] at Wp2;refine wpIn_region_any GR ?_;have h1:=kU (ops:=ops) ops.toList s a h rfl r.drew;have h2:=wpAnyS_lex (md:= .any) Wp2.1 ops.toList 0 (Array.replicate ops.size false) a VT (by simpa using Wp2.2) h1
 refine wS (Q:=λa'=> ∃s',R s'/\s'.gh=s.gh/\F7 c w0 T e s' a' {w with drawn:=w.drawn+1}) (λj o hj c hc=>?_) ?_ ops.size _ a (by simpa using h2)
 rotate_left
 rintro a' ⟨s',hR,hgh,r'⟩;exact hQ s' a' _ hR ⟨w0,T,e,by rw [hgh];exact hΦ,r'⟩
 have:=B1.1 hs o (by
  have:ops.toList[j]? =some o:=by simpa using hj
  exact F5 this)
 rw [hc] at this;simp [z7] at this
end
def Xg9(P:Program)(G:List (Nat×Spec))(X:Ext)(ops:List Oper)(s:St):VM St:=match M3 ops with
 |true=>stT P ops s
 |false=>Wd2 P G X 4 ops s
theorem CC{P:Program}{G:List (Nat×Spec)}{X:Ext}{ops:Array Oper}{c:Cx}(hG:VK P G)(hX:VW P X c)(GR:P.follows .mixedOrders=true){id:Nat}{s:St}{R:St->Prop}{Q:Exit->Act->World->Prop}(h:(Xg9 P G X ops.toList s).sat R){a:Act}{w:World}(r:Rel c s a w){ro:Option Nat}{n:Nat}
  (hQ: ∀s a w,R s->Rel c s a w->Q .normal a w):(Code.region id ops true).wpIn (fr ro) n P Q a w:=by
 unfold Xg9 at h;split at h;rename_i hB;exact cF GR hB h r hQ;exact nY hG hX GR h r hQ
inductive G5 where
 |normal
 |exit (id:Nat)
 |ret
def G5.ex:G5->Exit
 | .normal=> .normal
 | .exit id=> .exit id
 | .ret=> .ret
abbrev CT:=VM (G5×St)
def CJ(cx:Cx)(Q:G5×St->Prop):Exit->Act->World->Prop:=λe a w=> ∃x s,e=G5.ex x/\Q (x,s)/\Rel cx s a w
abbrev UG:=St->Option CT
def HN(P:Program)(ro:Option Nat)(cx:Cx)(c:Code)(sp:UG):Prop:= ∀(n:Nat) (s:St) (t:CT),sp s=some t-> ∀Q:G5×St->Prop,t.sat Q-> ∀(a:Act) (w:World),Rel cx s a w->c.wpIn (fr ro) n P (CJ cx Q) a w
def G6(P:Program)(c:Code)(sp:UG):Prop:= ∀(ro:Option Nat) (cx:Cx),HN P ro cx c sp
def GG:Code->Nat
 | .seq a b=>GG a+GG b
 | .cond _ a b=>GG a+GG b
 | .block _ c=>GG c
 | .scope c=>GG c
 | .loop _=>1
 | .rangeFunc .. =>1
 |_=>0
def VS:Code->Nat->Option Code
 | .seq a b,j=>match Nat.blt j (GG a) with
  |true=>VS a j
  |false=>VS b (j-GG a)
 | .cond _ a b,j=>match Nat.blt j (GG a) with
  |true=>VS a j
  |false=>VS b (j-GG a)
 | .block _ c,j=>VS c j
 | .scope c,j=>VS c j
 | .loop c,j=>match j with
  | 0=>some (.loop c)
  |_+1=>none
 | .rangeFunc f ps a b,j=>match j with
  | 0=>some (.rangeFunc f ps a b)
  |_+1=>none
 |_,_=>none
theorem P3: ∀(c:Code) (j:Nat),GG c<=j->VS c j=none:=by
 intro c
 induction c with
 |seq a b iha ihb=>
  intro j hj;simp only [GG] at hj;unfold VS;have:Nat.blt j (GG a)=false:=by
   rw [Cb,ne_eq,Aw];omega
  rw [this];exact ihb _ VJ
 |cond t a b iha ihb=>
  intro j hj;simp only [GG] at hj;unfold VS;have:Nat.blt j (GG a)=false:=by
   rw [Cb,ne_eq,Aw];omega
  rw [this];exact ihb _ VJ
 |block id c ih=>intro j hj;exact ih j hj
 |scope c ih=>intro j hj;exact ih j hj
 |loop c ih=>intro j hj;simp only [GG] at hj;cases j with|zero=>omega|succ j=>rfl
 |rangeFunc f ps a b iha ihb=>intro j hj;simp only [GG] at hj;cases j with|zero=>omega|succ j=>rfl
 |_=>intro j _;rfl
def lO(s:St):Operand->Bool->St
 | .tmp t,b=>Xi5 s t b
 |_,_=>s
theorem AN{F:Fence}{n:Nat}{P:Program}{Q:Exit->Act->World->Prop}{a:Act}{w:World}{c:Code}(h:c.wpIn F n P (Exit.noGoto Q) a w):(Code.scope c).wpIn F n P Q a w:=by
 intro b k cs hro hb Z;obtain ⟨e,a₁,w₁,hq,vV⟩:=h b (.inScope c::k) cs hro hb Z;have s1:step P (lone (b.atR a (.code (.scope c)::k)) cs w)= .next (lone (b.atR a (.code c:: .inScope c::k)) cs w):=step_lone_go (by simp [stepG,stepG.exec,Frame.atR])
 have s2:step P (lone (b.atR a₁ (.inScope c::k)) cs w₁)= .next (lone (b.atR a₁ k) cs w₁):=step_lone_go (by simp [stepG,stepG.exec,Frame.atR])
 have h0:(lone (b.atR a (.code (.scope c)::k)) cs w).fenced P F:=fenced_calm hb Z rfl;cases e with
 |normal=>exact ⟨.normal,a₁,w₁,hq,.head h0 s1 (StepsIn.trans vV (.one (fenced_calm hb Z rfl) s2))⟩
 |exit id=>
  have hx:exitTo id (.inScope c::k)=exitTo id k:=by simp [exitTo]
  exact ⟨.exit id,a₁,w₁,hq,λk' hk=> .head h0 s1 (vV.1 k' (by rw [hx];exact hk)),λhr' hk=>let ⟨k₁,h1,h2⟩:=vV.2 hr' (by rw [hx];exact hk);⟨k₁,h1,.head h0 s1 h2⟩⟩
 |goto l=>exact hq.elim
 |ret=>exact ⟨_,a₁,w₁,hq,.of_steps (.one h0 s1) vV⟩
 |panic ch=>exact ⟨_,a₁,w₁,hq,.of_steps (.one h0 s1) vV⟩
 |outgrown=>exact ⟨_,a₁,w₁,hq,.of_steps (.one h0 s1) vV⟩
def D6(P:Program)(G:List (Nat×Spec))(X:Ext)(L:List UG):Code->Nat->St->CT
 | .skip,_,s=> .leaf (.normal,s)
 | .label _,_,s=> .leaf (.normal,s)
 | .region _ ops draw,_,s=>match draw with
  |true=>(Xg9 P G X ops.toList s).bind λs=> .leaf (.normal,s)
  |false=>(Wd1 P G X ops.toList ops.toList s).bind λs=> .leaf (.normal,s)
 | .seq a b,off,s=>(D6 P G X L a off s).bind λp=>match p.1 with
  | .normal=>D6 P G X L b (off+GG a) p.2
  |x=> .leaf (x,p.2)
 | .cond c a b,off,s=>match rho s.σ c with
  | .lit true=>D6 P G X L a off s
  | .lit false=>D6 P G X L b (off+GG a) s
  | .x (.bool t)=> .branch t (D6 P G X L a off (lO s c true)) (D6 P G X L b (off+GG a) (lO s c false))
  |_=> .fail
 | .block id c,off,s=>(D6 P G X L c off s).bind λp=>match p.1 with
  | .exit i=>match Nat.beq i id with
   |true=> .leaf (.normal,p.2)
   |false=> .leaf (.exit i,p.2)
  |x=> .leaf (x,p.2)
 | .scope c,off,s=>D6 P G X L c off s
 | .loop _,off,s=>match L[off]? with
  |some f=>match f s with
   |some t=>t
   |none=> .fail
  |none=> .fail
 | .rangeFunc _ _ _ _,off,s=>match L[off]? with
  |some f=>match f s with
   |some t=>t
   |none=> .fail
  |none=> .fail
 | .exit id,_,s=> .leaf (.exit id,s)
 | .ret,_,s=> .leaf (.ret,s)
 | .goto _,_,_=> .fail
 | .refuse _,_,_=> .fail
theorem hO{cx:Cx}{s:St}{a:Act}{w:World}{c:Operand}{b d:Bool}(r:Rel cx s a w)(hc:rho s.σ c= .x (.bool b))(hb:b=d):Rel cx (lO s c d) a w:=by
 obtain ⟨w0,T,e,hΦ,r⟩:=r;cases c with
 |tmp t=>exact ⟨w0,T,e,hΦ,a7 r hc hb⟩
 |_=>exact ⟨w0,T,e,hΦ,r⟩
theorem D8{P:Program}{G:List (Nat×Spec)}{X:Ext}{cx:Cx}{L:List UG}(hG:VK P G)(hX:VW P X cx)(GR:P.follows .mixedOrders=true){ro:Option Nat}{n:Nat}:
  ∀(c:Code) (off:Nat) (s:St) (Q:G5×St->Prop) (a:Act) (w:World),(∀j cj,VS c j=some cj-> ∀sp,L[off+j]? =some sp->HN P ro cx cj sp)->(D6 P G X L c off s).sat Q->Rel cx s a w->c.wpIn (fr ro) n P (CJ cx Q) a w:=by
 intro c
 induction c with
 |skip=>intro off s Q a w _ h r;exact wpIn_skip ⟨.normal,s,rfl,h,r⟩
 |label l=>intro off s Q a w _ h r;exact wpIn_label ⟨.normal,s,rfl,h,r⟩
 |region id ops draw=>
  intro off s Q a w _ h r;unfold D6 at h;cases draw with
  |true=>exact CC hG hX GR (VM.sat_bind h) r (λs' a' w' hs Z=>⟨.normal,s',rfl,hs,Z⟩)
  |false=>
   refine wpIn_region ?_;have:=vA hG hX (ro:=ro) (n:=n) (ops:=ops) (Q:=CJ cx Q) (R:=λs=>Q (.normal,s)) (λs' a' w' hs Z=>⟨.normal,s',rfl,hs,Z⟩) ops.toList 0 VT s a w (VM.sat_bind h) r
   rwa [Nat.sub_zero,←List.range_eq_range'] at this
 |seq x y ihx ihy=>
  intro off s Q a w hL h r;unfold D6 at h;refine wpIn_seq ?_;have hx:=ihx off s _ a w (λj cj hj sp hsp=>hL j cj (by
   unfold VS;have hlt:j<GG x:=by
    rcases An j (GG x) with h'|h';exact h';exfalso;rw [P3 x j h'] at hj;cases hj
   have:Nat.blt j (GG x)=true:=by rw [Aw];exact hlt
   rw [this];exact hj) sp hsp) (VM.sat_bind h) r
  refine wpIn_mono hx ?_;rintro e a' w' ⟨ex,s',rfl,hq,Z⟩;cases ex with
  |normal=>
   simp only [G5.ex,Exit.then]
   refine ihy (off+GG x) s' Q a' w' (λj cj hj sp hsp=>hL (GG x+j) cj ?_ sp (by rw [←Ba];exact hsp)) hq Z
   unfold VS;have:Nat.blt (GG x+j) (GG x)=false:=by rw [Cb,ne_eq,Aw];omega
   rw [this];simpa using hj
  |exit i=>exact ⟨.exit i,s',rfl,hq,Z⟩
  |ret=>exact ⟨.ret,s',rfl,hq,Z⟩
 |cond t x y ihx ihy=>
  intro off s Q a w hL h r;have hLx: ∀j cj,VS x j=some cj-> ∀sp,L[off+j]? =some sp->HN P ro cx cj sp:=by
   intro j cj hj sp hsp;refine hL j cj ?_ sp hsp;unfold VS;split;exact hj;rename_i hb;exfalso;have hge:GG x<=j:=by
    rw [Cb,ne_eq,Aw] at hb;omega
   rw [P3 x j hge] at hj;cases hj
  have hLy: ∀j cj,VS y j=some cj-> ∀sp,L[off+GG x+j]? =some sp->HN P ro cx cj sp:=by
   intro j cj hj sp hsp;refine hL (GG x+j) cj ?_ sp (by rw [←Ba];exact hsp)
   unfold VS;have:Nat.blt (GG x+j) (GG x)=false:=by rw [Cb,ne_eq,Aw];omega
   rw [this];simpa using hj
  unfold D6 at h;have r0:=r;obtain ⟨w0,T,e,hΦ,re⟩:=r;have hc:=FL re.slots t;split at h;rename_i heq;rw [heq] at hc;exact wpIn_cond_true hc.lit_inv (ihx off s Q a w hLx h r0);rename_i heq;rw [heq] at hc;exact wpIn_cond_false hc.lit_inv (ihy _ s Q a w hLy h r0);rename_i b heq;rw [heq] at hc;cases b;exact wpIn_cond_false hc.x_inv (ihy _ _ Q a w hLy (h.2 rfl) (hO r0 heq rfl));exact wpIn_cond_true hc.x_inv (ihx _ _ Q a w hLx (h.1 rfl) (hO r0 heq rfl));exact h.elim
 |block id c ih=>
  intro off s Q a w hL h r;unfold D6 at h;refine wpIn_block (wpIn_mono (ih off s _ a w hL (VM.sat_bind h) r) ?_);rintro e a' w' ⟨ex,s',rfl,hq,Z⟩;cases ex with
  |normal=>exact ⟨.normal,s',rfl,hq,Z⟩
  |ret=>exact ⟨.ret,s',rfl,hq,Z⟩
  |exit i=>
   simp only [G5.ex,Exit.inBlock];simp only at hq;split at hq;rename_i hb;rw [if_pos (GZ hb)];exact ⟨.normal,s',rfl,hq,Z⟩;rename_i hb;rw [if_neg (λhe=>by subst he;simp at hb)]
   exact ⟨.exit i,s',rfl,hq,Z⟩
 |scope c ih=>
  intro off s Q a w hL h r;unfold D6 at h;refine AN (wpIn_mono (ih off s Q a w hL h r) ?_);rintro e a' w' ⟨ex,s',rfl,hq,Z⟩;cases ex with
  |normal=>exact ⟨.normal,s',rfl,hq,Z⟩
  |ret=>exact ⟨.ret,s',rfl,hq,Z⟩
  |exit i=>exact ⟨.exit i,s',rfl,hq,Z⟩
 |loop c ih=>
  intro off s Q a w hL h r;unfold D6 at h;split at h;rename_i f hf;split at h;rename_i t ht;exact hL 0 _ rfl f (by simpa using hf) n s t ht Q h a w r
  exact h.elim;exact h.elim
 |rangeFunc f ps x y ihx ihy=>
  intro off s Q a w hL h r;unfold D6 at h;split at h;rename_i f hf;split at h;rename_i t ht;exact hL 0 _ rfl f (by simpa using hf) n s t ht Q h a w r
  exact h.elim;exact h.elim
 |exit id=>intro off s Q a w _ h r;exact wpIn_exit ⟨.exit id,s,rfl,h,r⟩
 |ret=>intro off s Q a w _ h r;exact wpIn_ret ⟨.ret,s,rfl,h,r⟩
 |goto l=>intro off s Q a w _ h r;exact h.elim
 |refuse y=>intro off s Q a w _ h r;exact h.elim
def Ws6(P:Program)(m:H2)(t:TypeId):AV->Bool
 | .ptr id off=>match Nat.beq off 0 with
  |true=>match DG m id with
   |some (.ints _ pre n _)=>match pre with
    |[]=>match P.info? t with
     |some i=>Nat.ble i.size n&&Nat.blt 0 n
     |none=>false
    |_::_=>false
   |_=>false
  |false=>false
 |_=>false
theorem pX{P:Program}{m:H2}{t:TypeId}{a:AV}{ns:List Prop}{v:AV}{add:Option GO}(h:Ws6 P m t a=true)(hl:BI P m t a=some (ns,v,add)): ∀p∈ns,p:=by
 unfold Ws6 at h;split at h;rename_i id off;split at h;rename_i aF;have aF:=GZ aF;subst aF;split at h;rename_i T pre n f hg;split at h;split at h;rename_i i O;simp only [GU] at h;have h1:=qR h.1;have h2:0<n:=by have:=h.2;simp [Nat.blt] at this;omega
 simp only [BI,hg] at hl;unfold ldI at hl;split at hl;rename_i hb;simp at hb;split at hl;rename_i fs i' hu hi';rw [O] at hi';cases hi';simp only [HE,FF] at hl;obtain ⟨rfl,_,_⟩:=hl;intro p hp;rw [PM.1 hp,qV];simpa using h1;rename_i fs i' hu hi';rw [O] at hi';cases hi';simp only [HE,FF] at hl;obtain ⟨rfl,_,_⟩:=hl;intro p hp;rw [PM.1 hp,qV];simpa using h1;simp only [HE,FF] at hl;obtain ⟨rfl,_,_⟩:=hl;intro p hp;rw [PM.1 hp,qV];simpa using h2;cases hl;cases h;cases h;cases h;cases h;cases h
def T6(P:Program)(s:St):ResultVar->Option AV
 | .tmp t=>some (s.σ.getD t .top)
 | .cell t T=>match BI P s.m T (s.σ.getD t .top) with
  |some ([],v,none)=>some v
  |some (_::_,v,none)=>match Ws6 P s.m T (s.σ.getD t .top) with
   |true=>some v
   |false=>none
  |_=>none
def Qm6(P:Program)(s:St):List ResultVar->Option (List AV)
 |[]=>some []
 |r::rs=>match T6 P s r,Qm6 P s rs with
  |some v,some vs=>some (v::vs)
  |_,_=>none
def BQ(P:Program)(s:St)(rs:List ResultVar):Option AV:=
 match Qm6 P s rs with
 |some [v]=>some v
 |some vs=>some (.tup vs)
 |none=>none
def C9(tmps:Array Value):ResultVar->Sem Value
 | .tmp t=>pure (tmps.getD t undef)
 | .cell p t=>do loadVar t (←asAddr (tmps.getD p undef))
theorem nV(fn:Func)(tmps:Array Value):results fn tmps=(do let vs ←fn.results.mapM (C9 tmps);pure (if h:vs.size=1 then vs[0] else .tuple vs)):=by
 unfold results
 congr 1
theorem T5{P:Program}{e:UL}{s:St}{tmps:Array Value}{w:World}(hm:UV e s.m w)(hs:U3 e w s.σ tmps.toList){x:ResultVar}{v:AV}(h:T6 P s x=some v):
  ∃u,(C9 tmps x).run P w= .ok u w/\Rep e w v u:=by
 cases x with
 |tmp t=>
  simp only [T6,HE] at h;subst h;exact ⟨_,rfl,FL (a:={tmps:=tmps,defers:=[] }) hs (.tmp t)⟩
 |cell p T=>
  simp only [T6] at h;have fin: ∀(ns:List Prop) (v':AV),BI P s.m T (s.σ.getD p .top)=some (ns,v',none)->(∀p∈ns,p)->v'=v-> ∃u,(C9 tmps (.cell p T)).run P w= .ok u w/\Rep e w v u:=by
   rintro ns v' hl hn rfl;have Z:=FL (a:={tmps:=tmps,defers:=[] }) hs (.tmp p);simp only [rho,Act.eval] at Z;obtain ⟨_,ad,u,had,hu,GK⟩:=jW (P:=P) hl hn hm Z;exact ⟨u,by simp only [C9,had,asAddr,At,Bv,Au,hu],GK⟩
  split at h;rename_i v' hl;cases h;exact fin _ _ hl (λp hp=>by cases hp) rfl
  rename_i q qs v' hl;split at h;rename_i hf;cases h;exact fin _ _ hl (pX hf hl) rfl;cases h;cases h
theorem CA{P:Program}{e:UL}{s:St}{tmps:Array Value}{w:World}(hm:UV e s.m w)(hs:U3 e w s.σ tmps.toList): ∀{rs:List ResultVar} {vs:List AV},Qm6 P s rs=some vs->
  ∃us:List Value,(rs.mapM (C9 tmps)).run P w= .ok us w/\U3 e w vs us
 |[],vs,h=>by simp [Qm6] at h;subst h;exact ⟨[],VT,U3.nil e w⟩
 |x::rs,vs,h=>by
  unfold Qm6 at h;split at h;rename_i v vs' h1 h2;cases h;obtain ⟨u,hu,Z⟩:=T5 hm hs h1;obtain ⟨us,hus,hrs⟩:=CA hm hs h2;exact ⟨u::us,by simp only [List.mapM_cons,At,hu,Au,hus,Bv],U3.cons Z hrs⟩
  cases h
theorem DM{P:Program}{e:UL}{s:St}{tmps:Array Value}{w:World}(hm:UV e s.m w)(hs:U3 e w s.σ tmps.toList){fn:Func}{v:AV}(h:BQ P s fn.results.toList=some v): ∃u,(results fn tmps).run P w= .ok u w/\Rep e w v u:=by
 unfold BQ at h;have key: ∀vs,Qm6 P s fn.results.toList=some vs-> ∃us:List Value,U3 e w vs us/\(results fn tmps).run P w= .ok (if h:us.toArray.size=1 then us.toArray[0] else .tuple us.toArray) w:=by
  intro vs hvs;obtain ⟨us,hus,hrs⟩:=CA hm hs hvs;refine ⟨us,hrs,?_⟩;rw [nV,Array.mapM_eq_mapM_toList];simp only [At,Sem.run_map,hus,Au,Bv]
 split at h;rename_i v' hv;cases h;obtain ⟨us,hrs,DP⟩:=key _ hv;obtain ⟨u,us',rfl,hu,hus⟩:=hrs.cons_inv;cases hus.nil_inv;exact ⟨u,by simpa using DP,hu⟩
 rename_i vs hne hv;cases h;obtain ⟨us,hrs,DP⟩:=key _ hv;refine ⟨.tuple us.toArray,?_,Rep.tupL hrs⟩;have HX:us.toArray.size≠1:=by
  intro h1;simp at h1;have hvl:vs.length=1:=by rw [hrs.1,h1]
  obtain ⟨x,hx⟩:=List.length_eq_one_iff.1 hvl;exact hne x hx
 rw [dif_neg HX] at DP;exact DP;cases h
inductive jH (m:H2):AV->AV->Prop
 |top (r:AV):jH m r .top
 |x (v:Value):jH m (.x v) (.x v)
 |lit (b:Bool):jH m (.lit b) (.lit b)
 |litx (b:Bool):jH m (.lit b) (.x (.bool b))
 |agg (l l':List AV):l.length=l'.length->(∀(i:Nat) (a b:AV),l[i]? =some a->l'[i]? =some b->jH m a b)->jH m (.agg l) (.agg l')
 |tup (l l':List AV):l.length=l'.length->(∀(i:Nat) (a b:AV),l[i]? =some a->l'[i]? =some b->jH m a b)->jH m (.tup l) (.tup l')
 |row (id T sz n:Nat) (f f':Ci):DG m id=some (.row T sz n f)->(∀i,i<n->f i=f' i)->(∀i,i<n-> ∀a∈f' i,∃v,a= .x v)->jH m (.row id) (.lst sz n f')
 |nil (sz:Nat) (f:Ci):jH m (.x (.slice none 0 0)) (.lst sz 0 f)
 |fn0 (f:Fn):jH m (.fn f [] []) (.fn f [] [])
theorem jH.rep{e:UL}{B:Nat}{w0 w:World}{m:H2}(hE:UY e B w)(hB:w0.heap.size=B)(hm:UV e m w){r res:AV}{v:Value}(h:jH m r res)(k:Rep e w r v):Rep (PE w0 w) w res v:=by
 induction h generalizing v with
 |top r=>exact .top v
 |x u=>cases k.x_inv;exact .x _
 |lit b=>cases k.lit_inv;exact .lit _
 |litx b=>cases k.lit_inv;exact .x _
 |agg l l' hl hf ih=>
  obtain ⟨vs,rfl,h1,h2⟩:=k.agg_inv;refine .agg l' vs (by rw [←hl,h1]) (λi a u ha hu=>?_)
  have O:i<l.length:=by rw [hl];exact (FV.1 ha).1
  exact ih i _ a (D0 O) ha (h2 i _ u (D0 O) hu)
 |tup l l' hl hf ih=>
  obtain ⟨vs,rfl,h1,h2⟩:=k.tup_inv;refine .tup l' vs (by rw [←hl,h1]) (λi a u ha hu=>?_)
  have O:i<l.length:=by rw [hl];exact (FV.1 ha).1
  exact ih i _ a (D0 O) ha (h2 i _ u (D0 O) hu)
 |row id T sz n f f' hg hff hx=>
  obtain ⟨_,H9,hf,xs,ho,GK⟩:=hm _ (UW hg)
  dsimp only at H9 ho
  cases k with
  |row _ a n' c hl hv=>
   rw [hv] at ho H9;rcases ho.2 with ⟨hv0,hn0⟩|⟨g,cap,cur,hv0,_,hgg,hnc,hcm,hcs,kC⟩;cases hv0;subst hn0;exact .lstNil _ _;cases hv0;have hob:=H9 g rfl;have hbd:=hE.owned _ _ hob;refine Rep.lst (e:=PE w0 w) (w:=w) sz _ f' g 0 _ (λi j=>xs.getD (i*sz+j) .nilIface) (λ_=>⟨by rw [hB];exact hbd.1,hbd.2⟩) (λ_=>hbd.2) (λi O a ha=>?_) hnc hcm ?_ (λi O=>by rw [←hff i O];exact (hf i O).1) ?_ _ (λ_=>rfl)
   obtain ⟨u,rfl⟩:=hx i O a ha;exact .x u;intro i j O hj;have hle:i*sz+sz<=n*sz:=by
    have:=BJ sz (Az O)
    rwa [Bq] at this
   have kE:i*sz+j<xs.length:=by rw [ho.1];omega
   have hc:=ho.cells (g:=g) rfl (i*sz+j) xs[i*sz+j] (D0 kE);rw [DK] at hc;rw [hc];simp [List.getD,D0 kE];intro i j a O ha;have hj:j<sz:=by rw [←(hf i O).1,hff i O];exact (FV.1 ha).1
   have hle:i*sz+sz<=n*sz:=by
    have:=BJ sz (Az O)
    rwa [Bq] at this
   have kE:i*sz+j<xs.length:=by rw [ho.1];omega
   obtain ⟨u,rfl⟩:=hx i O a (F5 ha);have:=GK i j (.x u) xs[i*sz+j] O (by rw [hff i O];exact ha) (D0 kE)
   simp only [List.getD,D0 kE,GS];rw [this.x_inv];exact .x _
 |nil sz f=>cases k.x_inv;exact .lstNil sz f
 |fn0 f=>
  obtain ⟨vs,vs',rfl,h1,h2⟩:=k.fn_inv;cases h1.nil_inv;cases h2.nil_inv;exact .fn f [] [] [] [] rfl (λi a v h=>by simp at h) rfl (λi a v h=>by simp at h)
def HQ(fn:Func)(avs:List AV):St:={σ:=avs++List.replicate (fn.ntmps-avs.length) .top,m:=[],nx:=0}
def Xc7(P:Program)(fn:Func)(res:AV)(p:G5×St):Prop:=(match p.1 with| .exit _=>False|_=>True)/\ ∃r,BQ P p.2 fn.results.toList=some r/\jH p.2.m r res
def lT(P:Program)(G:List (Nat×Spec))(L:List UG)(c:Code)(off:Nat)(s:St):CT:=D6 P G {} L c off s
theorem Rep.sameCells{e:UL}{w w':World}(hsz:w'.heap.size=w.heap.size)(hc: ∀ad,w'.cell? ad=w.cell? ad)(hmp: ∀(b:Nat) (es:Array MapEntry) (c:Nat),w.heap[b]? =some (Obj.map es c)->w'.heap[b]? =some (Obj.map es c)){a:AV}{v:Value}(h:Rep e w a v):Rep e w' a v:=by
 induction h with
 |top v=>exact .top v
 |lit b=>exact .lit b
 |x v=>exact .x v
 |agg l vs h1 h2 ih=>exact .agg l vs h1 ih
 |tup l vs h1 h2 ih=>exact .tup l vs h1 ih
 |fn f l l' vs vs' h1 h2 h3 h4 ih1 ih2=>exact .fn f l l' vs vs' h1 ih1 h3 ih2
 |ptr id off hl=>exact .ptr id off hl
 |row id a n c hl hv=>exact .row id a n c hl hv
 |elt id sz i j b n cap hl hv=>exact .elt id sz i j b n cap hl hv
 |ro l vs b o Z hb hf h1 h2 h3 ih=>exact .ro l vs b o Z (by rw [hsz];exact hb) hf h1 (λj v hj=>by rw [hc];exact h2 j v hj) ih
 |lstNil sz f=>exact .lstNil sz f
 |lst sz n f b o cap g Z hb hf hcap hm h1 h2 h3 ad had ih=>exact .lst sz n f b o cap g Z (λh=>by rw [hsz];exact hb h) hf hcap hm (λi j O hj=>by rw [hc];exact h1 i j O hj) h2 ih ad had
 |mp id hl=>exact .mp id hl
 |mpr g okf vals b es c Z hb hf h1 h2 h3 h4 h5 ih=>exact .mpr g okf vals b es c Z (by rw [hsz];exact hb) hf (hmp _ _ _ h1) h2 h3 h4 ih
 |any1 v hv=>exact .any1 v hv
 |roI pre n f off b o h ih=>exact .roI pre n f off b o ih
theorem U3.sameCells{e:UL}{w w':World}(hsz:w'.heap.size=w.heap.size)(hc: ∀ad,w'.cell? ad=w.cell? ad)(hmp: ∀(b:Nat) (es:Array MapEntry) (c:Nat),w.heap[b]? =some (Obj.map es c)->w'.heap[b]? =some (Obj.map es c)){l:List AV}{vs:List Value}(h:U3 e w l vs):U3 e w' l vs:=⟨h.1,λi a v ha hv=>(h.2 i a v ha hv).sameCells hsz hc hmp⟩
theorem BD{w:World}{D:Nat}{o o':Obj}(h:w.heap[D]? =some o)(ho:o.isCells=false)(ho':o'.isCells=false)(ad:Addr):(w.putObj D o').cell? ad=w.cell? ad:=by
 have hlt:=(P7.1 h).1;unfold World.cell?;by_cases hb:ad.block=D;rw [hb,World.putObj_heap_same hlt,h];cases o<;>cases o'<;>simp_all [Obj.isCells];rw [Bu hb]
theorem aI{e:UL}{w:World}{l:Nat}{o o':Obj}(h:DH e w)(hl:w.heap[l]? =some o)(ho:o.isCells=false):DH e (w.putObj l o'):=λb p hp=>by
 obtain ⟨h1,h2,q,h3,h4,h5⟩:=h b p hp;have hne:b≠l:=by
  rintro rfl;rw [hl] at h3;cases h3;rw [ho] at h4;cases h4
 exact ⟨h1,by rw [World.putObj_size];exact h2,q,(Bu hne).trans h3,h4,h5⟩
theorem qK{w:World}{D:Nat}{o o':Obj}(h:w.heap[D]? =some o)(hom: ∀es c,o≠Obj.map es c): ∀(b:Nat) (es:Array MapEntry) (c:Nat),w.heap[b]? =some (Obj.map es c)->(w.putObj D o').heap[b]? =some (Obj.map es c):=by
 intro b es c hb;have hne:b≠D:=by
  rintro rfl;rw [h] at hb;exact hom es c (Bb hb)
 rw [Bu hne];exact hb
theorem GH.putObj{e:UL}{w:World}{D:Nat}{o o':Obj}(h:w.heap[D]? =some o)(hom: ∀es c,o≠Obj.map es c)(ho:o.isCells=false)(ho':o'.isCells=false)(H9:e.own D=none){id:Nat}{r:GO}(k:GH e w id r):GH e (w.putObj D o') id r:=by
 have hsz:(w.putObj D o').heap.size=w.heap.size:=World.putObj_size;have hc:=BD h ho ho';have hmp:=qK (o':=o') h hom;have I8: ∀b k,e.own b=some k->(w.putObj D o').heap[b]? =w.heap[b]? :=λb k hb=>Bu (λhe=>by rw [he,H9] at hb;cases hb)
 cases r with
 |cells T l=>
  obtain ⟨h1,h2,vs,h3,h4⟩:=k;exact ⟨h1,h2,vs,(I8 _ _ h2).trans h3,h4.sameCells hsz hc hmp⟩
 |row T sz n f=>
  obtain ⟨h1,h2,hf,xs,h3,h4⟩:=k;refine ⟨h1,h2,hf,xs,⟨h3.1,h3.2.imp (λh=>h) ?_⟩,λi j a v O ha hv=>(h4 i j a v O ha hv).sameCells hsz hc hmp⟩;rintro ⟨g',cap,cur,hv,hg,hh,rest⟩;exact ⟨g',cap,cur,hv,hg,(I8 g' id (h2 g' (by rw [hv];rfl))).trans hh,rest⟩
 |ints T pre n f=>
  obtain ⟨h1,h2,vs,h3,h4⟩:=k;exact ⟨h1,h2,vs,(I8 _ _ h2).trans h3,h4.sameCells hsz hc hmp⟩
 |memo h' f=>
  obtain ⟨h1,h2,es,c,h3,h4⟩:=k;exact ⟨h1,h2,es,c,(I8 _ _ h2).trans h3,h4⟩
 |keep T l=>
  obtain ⟨h1,h2,h0,vs,h3,h4⟩:=k;have hne:e.blk id≠D:=by
   rintro hD;rw [←hD,h3] at h;cases h;simp [Obj.isCells] at ho
  exact ⟨h1,h2,by rw [hsz];exact h0,vs,(Bu hne).trans h3,h4.sameCells hsz hc hmp⟩
 |aka r T sz n f=>
  obtain ⟨h1,h0,o,hor,h2,hf,xs,h3,h4⟩:=k;refine ⟨h1,h0,o,hor,h2,hf,xs,⟨h3.1,h3.2.imp (λh=>h) ?_⟩,λi j a v O ha hv=>(h4 i j a v O ha hv).sameCells hsz hc hmp⟩;rintro ⟨g',cap,cur,hv,hg,hh,rest⟩;exact ⟨g',cap,cur,hv,hg,(I8 g' o (h2 g' (by rw [hv];rfl))).trans hh,rest⟩
theorem zL{P:Program}{fn:Func}{R:Ending->World->Prop}{M:Nat->Prop}{w0:World}{e:UL}{s:St}{tmps:Array Value}{n:Nat}(hB: ∀D,M D->w0.heap.size<=D)
  (fin: ∀w',UY e w0.heap.size w'->Below w0.heap.size w0 w'->UV e s.m w'->U3 e w' s.σ tmps.toList-> ∃v,(results fn tmps).run P w'= .ok v w'/\R (.returned v) w'):
  ∀(ds:List Deferred) (w:World),SL M e w ds->UY e w0.heap.size w->Below w0.heap.size w0 w->UV e s.m w->U3 e w s.σ tmps.toList->LeavesInM (fr none) n P fn tmps R ds .returning w
 |[],w,_,hE,hb,hm,hs=>fin w hE hb hm hs
 |d::ds,w,hd,hE,hb,hm,hs=>by
  obtain ⟨D,h1,h2,h3,h4,h5⟩:=hd.1 d GD;refine ⟨VT,.inl ⟨D,_,by rw [h1],run_takeDeferred h4,?_⟩⟩
  have H9:=(hE.apart D h2).1;have hsz:(w.putObj D (.deferred none)).heap.size=w.heap.size:=World.putObj_size;refine zL hB fin ds _ ⟨λd' hd'=>?_,(List.nodup_cons.1 hd.2).2⟩ ⟨λb hb=>by rw [hsz];exact hE.apart b hb,λb k hk=>by rw [hsz];exact hE.owned b k hk,aI hE.glob h4 rfl⟩ ?_ (λp hp=>(hm p hp).putObj h4 (λ_ _ h=>by cases h) rfl rfl H9) (hs.sameCells hsz (BD h4 rfl rfl) (qK h4 (λ_ _ h=>by cases h)))
  obtain ⟨D',k1,k2,k3,k4,k5⟩:=hd.1 d' (HL _ hd');have hne:D'≠D:=by
   rintro rfl;exact (List.nodup_cons.1 hd.2).1 (by rw [h1,←k1];exact hd')
  exact ⟨D',k1,k2,by rw [hsz];exact k3,(Bu hne).trans k4,k5⟩
  exact hb.trans ((Below.refl w0.heap.size w).grown (grownBy_putObj' w D _) (by have:=hb.size;have:=hB D h5;omega) (λk he=>by cases he;exact hB D h5))
def lN(w:World)(T:Nat->Prop):Cx:={M:=λD=>w.heap.size<=D,Φ:=λ_ T' w0=>w0=w/\T'=T,K:=λ_ _=>False,saved:=[] }
theorem xR{P:Program}{G:List (Nat×Spec)}{X:Ext}{L:List UG}{f:FuncId}{fn:Func}{c:Code}{avs:List AV}(hG:VK P G)(GR:P.follows .mixedOrders=true)(hf:P.funcs[f]? =some fn)(hb:fn.body=some c)
  {cx:Cx}{gh:Option Nat}{w:World}{T:Nat->Prop}{e:UL}{args:List Value}(hX:VW P X cx)(hK: ∀b o,¬cx.K b o)(hsv:cx.saved=[])(Qp8:cx.sz=0)(hM: ∀g T w0 D,cx.Φ g T w0->cx.M D->w0.heap.size<=D)(hΦ:cx.Φ gh T w)
  (hT: ∀b,T b->b<w.heap.size/\ ¬e.ro b)(hro: ∀b,e.ro b->b<w.heap.size)(hgl:DH e w)(FP: ∀a∈avs,Idf a)(Z:U3 e w avs args)
  (hL: ∀j cj,VS c j=some cj-> ∀sp,L[j]? =some sp->HN P none cx cj sp){E:G5×St->Prop}(h:(D6 P G X L c 0 {HQ fn avs with gh:=gh}).sat E){R:Ending->World->Prop}
  (fin: ∀x s w0 T' e' tmps w',E (x,s)->cx.Φ s.gh T' w0->UY e' w0.heap.size w'->Below w0.heap.size w0 w'->UV e' s.m w'->(∀b,T' b-> ¬e'.ro b)->U3 e' w' s.σ tmps.toList-> ∃v,(results fn tmps).run P w'= .ok v w'/\R (.returned v) w')
  (hex: ∀x s,E (x,s)-> ∀i,x≠ .exit i):Calls P f args.toArray w R:=by
 let e0:UL:={ro:=e.ro,own:=λ_=>none,live:=λ_=>False,blk:=λ_=>0,val:=λ_=> .nilIface}
 have hr0:U3 e0 w avs args:=⟨Z.1,λi a v ha hv=>Rep.idf (e:=e) (e':=e0) (λ_ h=>h) (Z.2 i a v ha hv) (FP a (F5 ha))⟩;have yI:Rel cx {HQ fn avs with gh:=gh} {tmps:=args.toArray++Array.replicate (fn.ntmps-args.toArray.size) undef,defers:=[] } w:=by
  refine ⟨w,T,e0,hΦ,⟨λb hb=>⟨rfl,hro b hb⟩,(λb k hk=>by cases hk),hgl⟩,Below.refl _ _,(λp hp=>by cases hp),(λk hk=>False.elim hk),hT,⟨⟨(λd hd=>by cases hd),By⟩,(λb o h=>(hK b o h).elim),⟨by rw [hsv];rfl,(λi a v h=>by cases h)⟩,by rw [Qp8];exact Ao _⟩,?_⟩
  have I1:U3 e0 w (List.replicate (fn.ntmps-avs.length) .top) (List.replicate (fn.ntmps-avs.length) undef):=by
   refine ⟨VT,λi a v ha _=>?_⟩;have:=F5 ha;rw [List.mem_replicate] at this;rw [this.2];exact .top v
  have:=hr0.append I1;simpa [HQ,Z.1] using this
 refine callsIn_wide (n:=0).1 (callsIn_of_wp_marks (F:=fr none) hf hb trivial (wpIn_mono (D8 hG hX GR c 0 _ _ _ w (λj cj hj sp hsp=>hL j cj hj sp (by simpa using hsp)) h yI) ?_) rfl)
 rintro ex a' w' ⟨x,s',rfl,hE,w0,T',e',hΦ',re⟩;have hx:=hex x s' hE;have yK:LeavesInM (fr none) 0 P fn a'.tmps R a'.defers .returning w':=
  zL (M:=cx.M) (s:=s') (λD hD=>hM _ _ _ D hΦ' hD) (λw2 q1 q2 q3 q4=>fin x s' w0 T' e' a'.tmps w2 hE hΦ' q1 q2 q3 (λb hb=>(re.foe b hb).2) q4) a'.defers w' re.xt.defers re.env re.below re.mem re.slots
 cases x with
 |normal=>exact yK
 |ret=>exact yK
 |exit i=>exact (hx i rfl).elim
def Cx.fun(cx:Cx):Prop:= ∀g T w0 D,cx.Φ g T w0->w0.heap.size<=D->cx.sz<=D->cx.M D
theorem xQ(w:World)(T:Nat->Prop):(lN w T).fun:=by
 rintro g T' w0 D ⟨rfl,_⟩ h _;exact h
section
variable {P:Program}{G:List (Nat×Spec)}
theorem jM{X:Ext}{L:List UG}{f:FuncId}{fn:Func}{c:Code}{avs:List AV}{res:AV}(hG:VK P G)(hX: ∀cx,VW P X cx)(GR:P.follows .mixedOrders=true)(hf:P.funcs[f]? =some fn)(hb:fn.body=some c)
  (hL: ∀j cj,VS c j=some cj-> ∀sp,L[j]? =some sp-> ∀cx:Cx,cx.fun->HN P none cx cj sp)(h:(D6 P G X L c 0 (HQ fn avs)).sat (Xc7 P fn res)):VX P f avs res:=by
 intro e w args hro hgl FP Z;refine xR hG GR hf hb (cx:=lN w (λ_=>False)) (gh:=none) (T:=λ_=>False) (e:=e) (hX _) (λ_ _ h=>h) rfl rfl (by rintro g T w0 D ⟨rfl,_⟩ h;exact h) ⟨rfl,rfl⟩ (λb h=>h.elim) hro hgl FP Z (λj cj hj sp hsp=>hL j cj hj sp hsp _ (xQ _ _)) h ?_ ?_
 rintro x s w0 T' e' tmps w' ⟨hx,r,F3,kF⟩ ⟨rfl,_⟩ q1 q2 q3 _ q4;obtain ⟨u,hu,GK⟩:=DM (P:=P) q3 q4 F3;exact ⟨u,hu,u,rfl,q2,kF.rep q1 rfl q3 GK⟩;rintro x s ⟨hx,_⟩ i rfl;exact hx
theorem nQ{L:List UG}{f:FuncId}{fn:Func}{c:Code}{avs:List AV}{res:AV}(hG:VK P G)(GR:P.follows .mixedOrders=true)(hf:P.funcs[f]? =some fn)(hb:fn.body=some c)
  (hL: ∀j cj,VS c j=some cj-> ∀sp,L[j]? =some sp->G6 P cj sp)(h:(lT P G L c 0 (HQ fn avs)).sat (Xc7 P fn res)):VX P f avs res:=
 jM hG (VW.nil P) GR hf hb (λj cj hj sp hsp cx _=>hL j cj hj sp hsp none cx) h
end
inductive RV where
 |top
 |x (v:Value)
 |agg (l:List RV)
 |tup (l:List RV)
 |lst (sz n:Nat) (f:Ci)
 |fn (f:Fn)
def cC(m:H2):Nat->AV->RV
 | 0,a=>match a with
  | .lit b=> .x (.bool b)
  | .x v=> .x v
  |_=> .top
 |d+1,a=>match a with
  | .lit b=> .x (.bool b)
  | .x v=> .x v
  | .agg l=> .agg (l.map (cC m d))
  | .tup l=> .tup (l.map (cC m d))
  | .row id=>match DG m id with
   |some (.row _ sz n f)=> .lst sz n f
   |_=> .top
  | .fn f l l'=>match l,l' with
   |[],[]=> .fn f
   |_,_=> .top
  |_=> .top
def isX:AV->Prop
 | .x _=>True
 |_=>False
def UD:Value->Value->Prop
 | .int k a,.int k' b=>k=k'/\a=b
 | .bool a,.bool b=>a=b
 |u,v=>u=v
theorem c9{u v:Value}(h:UD u v):u=v:=by
 cases u<;>cases v<;>simp_all [UD]
def iF:Value->Prop
 | .slice none 0 0=>True
 |_=>False
theorem iE{v:Value}(h:iF v):v= .slice none 0 0:=by
 unfold iF at h;split at h;rfl;exact h.elim
mutual
def G0:RV->AV->Prop
 | .top,res=>match res with
  | .top=>True
  |_=>False
 | .x u,res=>match res with
  | .top=>True
  | .x v=>UD u v
  | .lst _ n _=>iF u/\n=0
  |_=>False
 | .agg l,res=>match res with
  | .top=>True
  | .agg l'=>GL l l'
  |_=>False
 | .tup l,res=>match res with
  | .top=>True
  | .tup l'=>GL l l'
  |_=>False
 | .lst sz n f,res=>match res with
  | .top=>True
  | .lst sz' n' f'=>sz=sz'/\n=n'/\ ∀i,i<n'->f i=f' i/\ ∀a∈f' i,isX a
  |_=>False
 | .fn f,res=>match res with
  | .top=>True
  | .fn g [] []=>f=g
  |_=>False
def GL:List RV->List AV->Prop
 |[],l'=>match l' with
  |[]=>True
  |_::_=>False
 |r::l,l'=>match l' with
  |a::l'=>G0 r a/\GL l l'
  |[]=>False
end
theorem IM: ∀{l:List RV} {l':List AV},GL l l'->l.length=l'.length/\ ∀(i:Nat) (r:RV) (a:AV),l[i]? =some r->l'[i]? =some a->G0 r a
 |[],[],_=>⟨rfl,λi r a h=>by simp at h⟩
 |r::l,a::l',h=>by
  unfold GL at h;obtain ⟨h1,h2⟩:=IM h.2;refine ⟨by simp [h1],λi r' a' Z ha=>?_⟩
  cases i with
  |zero=>simp at Z ha;subst Z;subst ha;exact h.1
  |succ i=>simp at Z ha;exact h2 i r' a' Z ha
 |[],_::_,h=>by simp [GL] at h
 |_::_,[],h=>by simp [GL] at h
theorem Wi9{a:AV}(h:isX a): ∃v,a= .x v:=by
 cases a<;>first|exact ⟨_,rfl⟩|exact h.elim
theorem aO{m:H2}{a:AV}{u:Value}{res:AV}(h:G0 (.x u) res)(ha: ∀v,u=v->jH m a (.x v))(hn:u= .slice none 0 0-> ∀sz f,jH m a (.lst sz 0 f)):jH m a res:=by
 cases res with
 |top=>exact .top a
 |x v=>exact ha v (c9 h)
 |lst sz n f=>obtain ⟨h1,h2⟩:=h;subst h2;exact hn (iE h1) sz f
 |_=>exact h.elim
theorem fA{m:H2}: ∀(d:Nat) (a res:AV),G0 (cC m d a) res->jH m a res
 | 0,a,res,h=>by
  cases a with
  |lit b=>exact aO h (λv hv=>by subst hv;exact .litx b) (λhu=>by cases hu)
  |x v=>exact aO h (λu hu=>by subst hu;exact .x v) (λhu sz f=>by subst hu;exact .nil sz f)
  |_=>cases res<;>first|exact .top _|exact h.elim
 |d+1,a,res,h=>by
  have ih:=fA (m:=m) d;cases a with
  |lit b=>exact aO h (λv hv=>by subst hv;exact .litx b) (λhu=>by cases hu)
  |x v=>exact aO h (λu hu=>by subst hu;exact .x v) (λhu sz f=>by subst hu;exact .nil sz f)
  |agg l=>
   cases res with
   |top=>exact .top _
   |agg l'=>
    obtain ⟨h1,h2⟩:=IM (show GL (l.map (cC m d)) l' from h);exact .agg l l' (by simpa using h1) (λi a b ha hb=>ih a b (h2 i _ b (by simp [ha]) hb))
   |_=>exact h.elim
  |tup l=>
   cases res with
   |top=>exact .top _
   |tup l'=>
    obtain ⟨h1,h2⟩:=IM (show GL (l.map (cC m d)) l' from h);exact .tup l l' (by simpa using h1) (λi a b ha hb=>ih a b (h2 i _ b (by simp [ha]) hb))
   |_=>exact h.elim
  |row id=>
   simp only [cC] at h;split at h;rename_i T sz n f hg;cases res with
   |top=>exact .top _
   |lst sz' n' f'=>
    obtain ⟨rfl,rfl,h3⟩:=h;exact .row id T sz n f f' hg (λi O=>(h3 i O).1) (λi O a ha=>Wi9 ((h3 i O).2 a ha))
   |_=>exact h.elim
   cases res<;>first|exact .top _|exact h.elim
  |fn f l l'=>
   simp only [cC] at h;split at h;unfold G0 at h;split at h;exact .top _;subst h;exact .fn0 _;exact h.elim;cases res<;>first|exact .top _|exact h.elim
  |_=>cases res<;>first|exact .top _|exact h.elim
def pZ(P:Program)(rs:List ResultVar)(t:CT):VM RV:=t.bind λp=>match p.1 with
 | .exit _=> .fail
 |_=>match BQ P p.2 rs with
  |some r=> .leaf (cC p.2.m 6 r)
  |none=> .fail
def HT(P:Program)(c:Code)(sp:UG):Prop:= ∀cx:Cx,cx.fun->HN P none cx c sp
theorem G6.N{P:Program}{c:Code}{sp:UG}(h:G6 P c sp):HT P c sp:=λcx _=>h none cx
section
variable {P:Program}
theorem xN{fn:Func}{res:AV}{t:CT}(h:(pZ P fn.results.toList t).sat (λr=>G0 r res)):t.sat (Xc7 P fn res):=by
 refine VM.sat_mono ?_ (VM.sat_bind h);rintro ⟨x,s⟩ hs;cases x with
 |exit i=>exact hs.elim
 |normal=>
  simp only at hs;split at hs;rename_i r Z;exact ⟨trivial,r,Z,fA 6 r res hs⟩;exact hs.elim
 |ret=>
  simp only at hs;split at hs;rename_i r Z;exact ⟨trivial,r,Z,fA 6 r res hs⟩;exact hs.elim
theorem U1{G:List (Nat×Spec)}{L:List UG}{f:FuncId}{fn:Func}{c:Code}{avs:List AV}{res:AV}{t:VM RV}(hG:VK P G)(GR:P.follows .mixedOrders=true)(hf:P.funcs[f]? =some fn)(hb:fn.body=some c)
  (hL: ∀j cj,VS c j=some cj-> ∀sp,L[j]? =some sp->G6 P cj sp)(ht:pZ P fn.results.toList (lT P G L c 0 (HQ fn avs))=t)(h:t.sat (λr=>G0 r res)):VX P f avs res:=by
 subst ht;exact nQ hG GR hf hb hL (xN h)
theorem GA{G:List (Nat×Spec)}{X:Ext}{L:List UG}{f:FuncId}{fn:Func}{c:Code}{avs:List AV}{res:AV}{t:VM RV}(hG:VK P G)(hX: ∀cx,VW P X cx)(GR:P.follows .mixedOrders=true)(hf:P.funcs[f]? =some fn)(hb:fn.body=some c)
  (hL: ∀j cj,VS c j=some cj-> ∀sp,L[j]? =some sp->HT P cj sp)(ht:pZ P fn.results.toList (D6 P G X L c 0 (HQ fn avs))=t)(h:t.sat (λr=>G0 r res)):VX P f avs res:=by
 subst ht;exact jM hG hX GR hf hb hL (xN h)
theorem U2{c:Code}: ∀j cj,VS c j=some cj-> ∀sp,([]:List UG)[j]? =some sp->G6 P cj sp:=λj cj _ sp hsp=>by simp at hsp
end
theorem G8{S:Code->UG->Prop}{c:Code}: ∀j cj,VS c j=some cj-> ∀sp,([]:List UG)[j]? =some sp->S cj sp:=λj cj _ sp hsp=>by simp at hsp
def qP(N:Nat):Nat->AV->Bool
 | 0,a=>a.idf
 |d+1,a=>match a with
  | .ptr id _=>Nat.blt id N
  | .row id=>Nat.blt id N
  | .elt id _ _ _=>Nat.blt id N
  | .mp id=>Nat.blt id N
  | .agg l=>l.all (qP N d)
  | .tup l=>l.all (qP N d)
  | .fn _ l l'=>l.all (qP N d)&&l'.all (qP N d)
  |a=>a.idf
def UL.kill(e:UL)(N:Nat):UL:={e with live:=λk=>e.live k/\k<N}
theorem x7{e:UL}{w:World}{N:Nat}: ∀(d:Nat) (a:AV) (v:Value),qP N d a=true->Rep e w a v->Rep (e.kill N) w a v
 | 0,a,v,h,r=>Rep.idf (e:=e) (e':=e.kill N) (λ_ h=>h) r (zN r h)
 |d+1,a,v,h,r=>by
  have ih:=x7 (e:=e) (w:=w) (N:=N) d;have lt: ∀id,Nat.blt id N=true->id<N:=λid hb=>by rw [Aw] at hb;exact hb
  cases r with
  |ptr id off hl=>exact .ptr (e:=e.kill N) id off ⟨hl,lt id h⟩
  |row id a n c hl hv=>exact .row (e:=e.kill N) id a n c ⟨hl,lt id h⟩ hv
  |elt id sz i j b n cap hl hv=>exact .elt (e:=e.kill N) id sz i j b n cap ⟨hl,lt id h⟩ hv
  |mp id hl=>exact .mp (e:=e.kill N) id ⟨hl,lt id h⟩
  |agg l vs h1 h2=>exact .agg l vs h1 (λi a v ha hv=>ih a v (B1.1 h a (F5 ha)) (h2 i a v ha hv))
  |tup l vs h1 h2=>exact .tup l vs h1 (λi a v ha hv=>ih a v (B1.1 h a (F5 ha)) (h2 i a v ha hv))
  |fn f l l' vs vs' h1 h2 h3 h4=>
   simp only [qP,GU] at h;exact .fn f l l' vs vs' h1 (λi a v ha hv=>ih a v (B1.1 h.1 a (F5 ha)) (h2 i a v ha hv)) h3 (λi a v ha hv=>ih a v (B1.1 h.2 a (F5 ha)) (h4 i a v ha hv))
  |top v=>exact .top v
  |lit b=>exact .lit b
  |x v=>exact .x v
  |ro l vs b o h1 h2 h3 h4 h5 h6=>exact Rep.idf (e:=e) (e':=e.kill N) (λ_ h=>h) (.ro l vs b o h1 h2 h3 h4 h5 h6) (.ro l h3)
  |mpr g okf vals b es c h1 h2 h3 h4 h5 h6 h7 h8=>exact Rep.idf (e:=e) (e':=e.kill N) (λ_ h=>h) (.mpr g okf vals b es c h1 h2 h3 h4 h5 h6 h7 h8) (.mpr g okf h3)
  |any1 v hv=>exact .any1 v hv
  |lstNil sz f=>exact .lstNil sz f
  |roI pre n f off b o Z=>exact Rep.idf (e:=e) (e':=e.kill N) (λ_ h=>h) (.roI pre n f off b o Z) (zN (Rep.roI pre n f off b o Z) rfl)
  |lst sz n f b o cap g h1 h2 h3 h4 h5 h6 h7 h8 ad had=>exact Rep.idf (e:=e) (e':=e.kill N) (λ_ h=>h) (.lst sz n f b o cap g h1 h2 h3 h4 h5 h6 h7 h8 ad had) (.lst sz n f h3)
def gB:List AV->List AV->List Prop
 |a::l,b::l'=>match b with
  | .top=>gB l l'
  | .x (.int k y)=>match a with
   | .x (.int k' x)=>match decide (k=k') with
    |true=>(x=y)::gB l l'
    |false=>[False]
   |_=>[False]
  | .x (.bool y)=>match a with
   | .x (.bool x)=>(x=y)::gB l l'
   | .lit x=>(x=y)::gB l l'
   |_=>[False]
  |b=>(a=b)::gB l l'
 |[],[]=>[]
 |_,_=>[False]
theorem LT{e:UL}{w:World}: ∀{l l':List AV} {vs:List Value},(∀p∈gB l l',p)->U3 e w l vs->U3 e w l' vs
 |[],[],vs,_,r=>r
 |a::l,b::l',vs,h,r=>by
  obtain ⟨v,vs',rfl,hv,hvs⟩:=r.cons_inv;unfold gB at h;split at h;exact U3.cons (.top v) (LT h hvs);split at h;split at h;rename_i hk;have hk':=B0 hk;subst hk';have:_=_:=h _ GD;subst this;exact U3.cons hv (LT (λp hp=>h p (HL _ hp)) hvs);exact (h False VT).elim;exact (h False VT).elim;split at h;have:_=_:=h _ GD;subst this;exact U3.cons hv (LT (λp hp=>h p (HL _ hp)) hvs);have:_=_:=h _ GD;subst this;cases hv;exact U3.cons (.x _) (LT (λp hp=>h p (HL _ hp)) hvs);exact (h False VT).elim;have:_=_:=h _ GD;subst this;exact U3.cons hv (LT (λp hp=>h p (HL _ hp)) hvs)
 |[],_::_,_,h,_=>(h False (by simp [gB])).elim
 |_::_,[],_,h,_=>(h False (by simp [gB])).elim
def DY:GO->GO->List Prop
 | .cells T l,.cells T' l'=>match Nat.beq T T' with
  |true=>gB l l'
  |false=>[False]
 | .row T sz n f,.row T' sz' n' f'=>match Nat.beq T T'&&Nat.beq sz sz' with
  |true=>[n=n',∀i,i<n'->f i=f' i]
  |false=>[False]
 | .memo h f,.memo h' f'=>[∀k,h k->h' k/\f k=f' k]
 | .ints T pre n f,.ints T' pre' n' f'=>match Nat.beq T T' with
  |true=>gB pre pre'++[n=n',∀k,k<n'->f k=f' k]
  |false=>[False]
 | .keep T l,.keep T' l'=>match Nat.beq T T' with
  |true=>gB l l'
  |false=>[False]
 |_,_=>[False]
theorem resEq_holds{e:UL}{w:World}{id:Nat}{r r':GO}(h: ∀p∈DY r r',p)(k:GH e w id r):GH e w id r':=by
 cases r with
 |cells T l=>
  cases r' with
  |cells T' l'=>
   simp only [DY] at h;split at h;rename_i hb;have:T=T':=GZ hb;subst this;obtain ⟨h1,h2,vs,h3,h4⟩:=k;exact ⟨h1,h2,vs,h3,LT h h4⟩;exact (h False VT).elim
  |row _ _ _ _=>exact (h False (by simp [DY])).elim
  |memo _ _=>exact (h False (by simp [DY])).elim
  |ints _ _ _ _=>exact (h False (by simp [DY])).elim
  |aka _ _ _ _ _=>exact (h False (by simp [DY])).elim
  |keep _ _=>exact (h False (by simp [DY])).elim
 |aka _ _ _ _ _=>cases r'<;>exact (h False (by simp [DY])).elim
 |keep T l=>
  cases r' with
  |keep T' l'=>
   simp only [DY] at h;split at h;rename_i hb;have:T=T':=GZ hb;subst this;obtain ⟨h1,h2,h0,vs,h3,h4⟩:=k;exact ⟨h1,h2,h0,vs,h3,LT h h4⟩;exact (h False VT).elim
  |row _ _ _ _=>exact (h False (by simp [DY])).elim
  |memo _ _=>exact (h False (by simp [DY])).elim
  |ints _ _ _ _=>exact (h False (by simp [DY])).elim
  |cells _ _=>exact (h False (by simp [DY])).elim
  |aka _ _ _ _ _=>exact (h False (by simp [DY])).elim
 |ints T pre n f=>
  cases r' with
  |cells _ _=>exact (h False (by simp [DY])).elim
  |row _ _ _ _=>exact (h False (by simp [DY])).elim
  |memo _ _=>exact (h False (by simp [DY])).elim
  |aka _ _ _ _ _=>exact (h False (by simp [DY])).elim
  |keep _ _=>exact (h False (by simp [DY])).elim
  |ints T' pre' n' f'=>
   simp only [DY] at h;split at h;rename_i hb;have:T=T':=GZ hb;subst this;obtain ⟨h1,h2,vs,h3,h4⟩:=k;have hn:n=n':=h _ VT;subst hn;have hf: ∀k,k<n->f k=f' k:=h _ VT;have hL:HP n f=HP n f':=List.map_congr_left (λk hk=>by rw [hf k (List.mem_range.1 hk)])
   refine ⟨h1,h2,vs,h3,?_⟩;rw [hL] at h4;have h5:=h4.take pre.length;have h6:=h4.drop pre.length;rw [List.take_left] at h5;rw [List.drop_left] at h6;have h7:=(LT (λp hp=>h p (Bd _ hp)) h5).append h6
   rwa [List.take_append_drop] at h7
   exact (h False VT).elim
 |memo g f=>
  cases r' with
  |cells _ _=>exact (h False (by simp [DY])).elim
  |row _ _ _ _=>exact (h False (by simp [DY])).elim
  |ints _ _ _ _=>exact (h False (by simp [DY])).elim
  |aka _ _ _ _ _=>exact (h False (by simp [DY])).elim
  |keep _ _=>exact (h False (by simp [DY])).elim
  |memo g' f'=>
   have hh: ∀k,g k->g' k/\f k=f' k:=h _ (by simp [DY])
   obtain ⟨h1,h2,es,c,h3,h4⟩:=k;exact ⟨h1,h2,es,c,h3,λx hx=>⟨(hh _ (h4 x hx).1).1,(h4 x hx).2.trans (hh _ (h4 x hx).1).2⟩⟩
 |row T sz n f=>
  cases r' with
  |memo _ _=>exact (h False (by simp [DY])).elim
  |cells _ _=>exact (h False (by simp [DY])).elim
  |ints _ _ _ _=>exact (h False (by simp [DY])).elim
  |aka _ _ _ _ _=>exact (h False (by simp [DY])).elim
  |keep _ _=>exact (h False (by simp [DY])).elim
  |row T' sz' n' f'=>
   simp only [DY] at h;split at h;rename_i hb;simp only [GU] at hb;have h1:T=T':=GZ hb.1;have h2:sz=sz':=GZ hb.2;subst h1;subst h2;have h3:n=n':=h _ VT;subst h3;have h4: ∀i,i<n->f i=f' i:=h _ VT;obtain ⟨q1,q2,q3,xs,q4,q5⟩:=k;exact ⟨q1,q2,λi O=>by rw [←h4 i O];exact q3 i O,xs,q4,λi j a v O ha hv=>q5 i j a v O (by rw [h4 i O];exact ha) hv⟩
   exact (h False VT).elim
def Wt1:GO->Bool
 | .cells _ [.x _]=>true
 | .cells _ (_::_::_::_:: .x (.slice _ _ _):: .x (.slice _ _ _)::_)=>true
 |_=>false
def Ws0:H2->Nat->Option GO
 |[],_=>none
 |(k,r)::t,id=>match Nat.beq k id&&Wt1 r with
  |true=>some r
  |false=>Ws0 t id
theorem lF{id:Nat}{r:GO}: ∀{m:H2},Ws0 m id=some r->(id,r)∈m
 |[],h=>by simp [Ws0] at h
 |(k,q)::t,h=>by
  unfold Ws0 at h;split at h;rename_i hk;rw [GU] at hk;have:k=id:=GZ hk.1;subst this;cases h;exact GD;exact HL _ (lF h)
def Qb2(sm:H2)(id:Nat)(r:GO):Option GO:=match Wt1 r with
 |true=>match Ws0 sm id with
  |some r'=>some r'
  |none=>DG sm id
 |false=>DG sm id
theorem Qn7{sm:H2}{id:Nat}{r r':GO}(h:Qb2 sm id r=some r'):(id,r')∈sm:=by
 unfold Qb2 at h;split at h;split at h;rename_i hg;cases h;exact lF hg;exact UW h;exact UW h
def Wg9(sm:H2):H2->List Prop
 |[]=>[]
 |(id,r)::t=>(match Qb2 sm id r with
  |some r'=>DY r' r
  |none=>[False])++Wg9 sm t
def svP:List (List AV)->List (List AV)->List Prop
 |[],[]=>[]
 |a::l,b::l'=>gB a b++svP l l'
 |_,_=>[False]
def ghP:Option Nat->Option Nat->List Prop
 |none,none=>[]
 |some a,some b=>[a=b]
 |_,_=>[False]
theorem tX{e:UL}{w:World}: ∀{l l':List (List AV)} {vs:List (List Value)},(∀p∈svP l l',p)->L9 e w l vs->L9 e w l' vs
 |[],[],_,_,r=>r
 |a::l,b::l',vs,h,r=>by
  cases vs with
  |nil=>have:=r.1;simp at this
  |cons v vs=>
   obtain ⟨a',l'',he,h1,h2⟩:=r.cons_inv;cases he;exact L9.cons (LT (λp hp=>h p (Bd _ hp)) h1) (tX (λp hp=>h p (As _ hp)) h2)
 |[],_::_,_,h,_=>(h False (by simp [svP])).elim
 |_::_,[],_,h,_=>(h False (by simp [svP])).elim
theorem Zp9{a b:Option Nat}(h: ∀p∈ghP a b,p):a=b:=by
 cases a<;>cases b;rfl;exact (h False (by simp [ghP])).elim
 exact (h False (by simp [ghP])).elim
 rename_i x y;have:x=y:=h _ (by simp [ghP])
 rw [this]
def BH(s E:St):List Prop:=gB s.σ E.σ++(Wg9 s.m E.m++(svP s.sv E.sv++ghP s.gh E.gh))
def cW(N:Nat):GO->Bool
 | .cells _ l=>l.all (qP N 6)
 | .row _ _ _ _=>true
 | .memo _ _=>true
 | .ints _ pre _ _=>pre.all (qP N 6)
 | .aka _ _ _ _ _=>false
 | .keep _ l=>l.all (qP N 6)
def okB(E:St):Bool:=E.σ.all (qP E.nx 6)&&(E.m.all (λp=>Nat.blt p.1 E.nx&&cW E.nx p.2)&&E.sv.all (λl=>l.all (qP E.nx 6)))
theorem memP_holds{e:UL}{w:World}{sm:H2}(hm:UV e sm w): ∀{m:H2},(∀p∈Wg9 sm m,p)->UV e m w
 |[],_=>λp hp=>by cases hp
 |(id,r)::t,h=>by
  intro p hp;rcases GM.1 hp with rfl|hp;unfold Wg9 at h;cases hg:Qb2 sm id r with
  |none=>rw [hg] at h;exact (h False VT).elim
  |some r'=>
   rw [hg] at h;exact resEq_holds (λp hp=>h p (Bd _ hp)) (hm _ (Qn7 hg))
  exact memP_holds hm (m:=t) (λq hq=>h q (by unfold Wg9;exact As _ hq)) p hp
theorem FW{cx:Cx}{s E:St}{a:Act}{w:World}(h: ∀p∈BH s E,p)(hok:okB E=true)(r:Rel cx s a w):Rel cx E a w:=by
 obtain ⟨w0,T,e,hΦ,r⟩:=r;simp only [okB,GU] at hok;obtain ⟨ok1,ok2,ok3⟩:=hok;have hσ:=LT (λp hp=>h p (Bd _ hp)) r.slots;have hm:=memP_holds r.mem (λp hp=>h p (As _ (Bd _ hp)));have hsv:=tX (λp hp=>h p (As _ (As _ (Bd _ hp)))) r.xt.saved;have hgh:=Zp9 (λp hp=>h p (As _ (As _ (As _ hp))));rw [hgh] at hΦ;refine ⟨w0,T,e.kill E.nx,hΦ,⟨r.env.apart,r.env.owned,r.env.glob⟩,r.below,?_,λk hk=>hk.2,r.foe,⟨r.xt.defers,r.xt.kept,⟨hsv.1,λi a v ha hv=>⟨(hsv.2 i a v ha hv).1,λj b u hb hu=>x7 6 b u (B1.1 (B1.1 ok3 a (F5 ha)) b (F5 hb)) ((hsv.2 i a v ha hv).2 j b u hb hu)⟩⟩,r.xt.size⟩,⟨hσ.1,λi a v ha hv=>x7 6 a v (B1.1 ok1 a (F5 ha)) (hσ.2 i a v ha hv)⟩⟩;intro p hp;have hk:=hm p hp;have hb:=B1.1 ok2 p hp;simp only [GU] at hb;have hlt:p.1<E.nx:=by have:=hb.1;rw [Aw] at this;exact this
 obtain ⟨id,res⟩:=p;cases res with
 |cells T l=>
  obtain ⟨h1,h2,vs,h3,h4⟩:=hk;exact ⟨⟨h1,hlt⟩,h2,vs,h3,h4.1,λi a v ha hv=>x7 6 a v (B1.1 hb.2 a (F5 ha)) (h4.2 i a v ha hv)⟩
 |memo g f=>
  obtain ⟨h1,h2,es,c,h3,h4⟩:=hk;exact ⟨⟨h1,hlt⟩,h2,es,c,h3,h4⟩
 |aka _ _ _ _ _=>simp [cW] at hb
 |keep T l=>
  obtain ⟨h1,h2,h0,vs,h3,h4⟩:=hk;exact ⟨⟨h1,hlt⟩,h2,h0,vs,h3,h4.1,λi a v ha hv=>x7 6 a v (B1.1 hb.2 a (F5 ha)) (h4.2 i a v ha hv)⟩
 |ints T pre n f=>
  obtain ⟨h1,h2,vs,h3,h4⟩:=hk;refine ⟨⟨h1,hlt⟩,h2,vs,h3,h4.1,λi a v ha hv=>x7 6 a v ?_ (h4.2 i a v ha hv)⟩;rcases List.mem_append.1 (F5 ha) with hm|hm;exact B1.1 hb.2 a hm;obtain ⟨k,_,rfl⟩:=List.mem_map.1 hm;rfl
 |row T sz n f=>
  obtain ⟨h1,h2,h3,xs,h4,h5⟩:=hk;exact ⟨⟨h1,hlt⟩,h2,h3,xs,h4,λi j a v O ha hv=>Rep.idf (e:=e) (e':=e.kill E.nx) (λ_ h=>h) (h5 i j a v O ha hv) ((h3 i O).2 a (F5 ha))⟩
theorem TZ{F:Fence}{n:Nat}{P:Program}{Q:Exit->Act->World->Prop}{body:Code}{X:Type}(μ:X->Nat)(Inv:X->Act->World->Prop)
  (round: ∀x a w,Inv x a w->body.wpIn F n P (Exit.then (λa' w'=> ∃x',μ x'<μ x/\Inv x' a' w') Q) a w){x:X}{a:Act}{w:World}(h:Inv x a w):(Code.loop body).wpIn F n P Q a w:=by
 intro b k cs hro hb Z;have key: ∀j x a w,μ x=j->Inv x a w->
   ∃e a' w',Q e a' w'/\ArrivesIn (Machine.fenced P F) P (lone (b.atR a (.code body:: .inLoop body::k)) cs w) b k cs e a' w':=by
  intro j
  induction j using Nat.strongRecOn with
  |_ j ih=>
   intro x a w hn hI;obtain ⟨e,a₁,w₁,hq,vV⟩:=round x a w hI b (.inLoop body::k) cs hro hb Z;cases e with
   |normal=>
    obtain ⟨x',hlt,hI₁⟩:=hq;obtain ⟨e₂,a₂,w₂,hq₂,harr₂⟩:=ih (μ x') (hn▸hlt) x' a₁ w₁ rfl hI₁;exact ⟨e₂,a₂,w₂,hq₂,.of_steps (StepsIn.trans vV (.one (fenced_calm hb Z rfl) stepR_inLoop)) harr₂⟩
   |exit id=>exact ⟨_,a₁,w₁,hq,.pass (x:= .inLoop body) rfl (λ_ _=> .inl VT) vV⟩
   |goto l=>exact ⟨_,a₁,w₁,hq,.pass (x:= .inLoop body) rfl (λ_ _=> .inl VT) vV⟩
   |ret=>exact ⟨_,a₁,w₁,hq,.pass (x:= .inLoop body) rfl (λ_ _=> .inl VT) vV⟩
   |panic ch=>exact ⟨_,a₁,w₁,hq,.pass (x:= .inLoop body) rfl (λ_ _=> .inl VT) vV⟩
   |outgrown=>exact ⟨_,a₁,w₁,hq,.pass (x:= .inLoop body) rfl (λ_ _=> .inl VT) vV⟩
 obtain ⟨e,a',w',hq,vV⟩:=key _ x a w rfl h;exact ⟨e,a',w',hq,.of_steps (.one (fenced_calm hb Z rfl) stepR_loop) vV⟩
def HF(E:St)(t:CT):UG:=λs=>some (.needT (BH s E) t)
theorem jJ{P:Program}{ro:Option Nat}{cx:Cx}{c:Code}{E:St}{t:CT}(hok:okB E=true)(h: ∀(n:Nat) (Q:G5×St->Prop),t.sat Q-> ∀(a:Act) (w:World),Rel cx E a w->c.wpIn (fr ro) n P (CJ cx Q) a w):HN P ro cx c (HF E t):=by
 intro n s t' ht Q FK a w r;simp only [HF,HE] at ht;subst ht
 replace FK:=VM.sat_needT FK
 exact h n Q FK.2 a w (FW (GE FK.1) hok r)
def kR(P:Program)(G:List (Nat×Spec))(X:Ext)(L:List UG)(body:Code):Nat->St->CT
 | 0,_=> .fail
 |k+1,s=>(D6 P G X L body 0 s).bind λp=>match p.1 with
  | .normal=>kR P G X L body k p.2
  |x=> .leaf (x,p.2)
def xZ(P:Program)(G:List (Nat×Spec))(L:List UG)(body:Code)(n:Nat)(s:St):CT:=kR P G {} L body n s
section
variable {P:Program}{G:List (Nat×Spec)}
theorem yL{X:Ext}{L:List UG}{ro:Option Nat}{cx:Cx}(hG:VK P G)(hX:VW P X cx)(GR:P.follows .mixedOrders=true){body:Code}(hL: ∀j cj,VS body j=some cj-> ∀sp,L[j]? =some sp->HN P ro cx cj sp)(m:Nat):
  HN P ro cx (.loop body) (λs=>some (kR P G X L body m s)):=by
 intro n s t ht Q FK a w r;simp only [HE] at ht;subst ht;refine TZ (X:=Nat×St) (λp=>p.1) (λp a w=>(kR P G X L body p.1 p.2).sat Q/\Rel cx p.2 a w) ?_ (x:=(m,s)) ⟨FK,r⟩;rintro ⟨k,s⟩ a w ⟨h,Z⟩;cases k with
 |zero=>exact h.elim
 |succ k=>
  refine wpIn_mono (D8 hG hX GR body 0 s _ a w (λj cj hj sp hsp=>hL j cj hj sp (by simpa using hsp)) (VM.sat_bind h) Z) ?_
  rintro ex a₁ w₁ ⟨y,s',rfl,hq,hr'⟩;cases y with
  |normal=>exact ⟨(k,s'),Bk _,hq,hr'⟩
  |exit id=>exact ⟨.exit id,s',rfl,hq,hr'⟩
  |ret=>exact ⟨.ret,s',rfl,hq,hr'⟩
theorem LC{L:List UG}(hG:VK P G)(GR:P.follows .mixedOrders=true){body:Code}(hL: ∀j cj,VS body j=some cj-> ∀sp,L[j]? =some sp->G6 P cj sp)(n:Nat):
  G6 P (.loop body) (λs=>some (xZ P G L body n s)):=λro cx=>yL hG (VW.nil P cx) GR (λj cj hj sp hsp=>hL j cj hj sp hsp ro cx) n
end
def U9:Option Code->Code
 |some (.loop c)=>c
 |_=> .skip
def U7(f:Func):Code:=match f.body with
 |some c=>c
 |none=> .skip
theorem G7{S:Code->UG->Prop}{c:Code}{sp:UG}(h: ∀cj,VS c 0=some cj->S cj sp): ∀j cj,VS c j=some cj-> ∀s,[sp][j]? =some s->S cj s:=by
 intro j cj hj s hs;cases j with
 |zero=>simp at hs;subst hs;exact h cj hj
 |succ j=>simp at hs
def Xv3:List (Nat×AV)->Nat->AV
 |[],_=> .top
 |(k,a)::t,i=>match Nat.beq k i with
  |true=>a
  |false=>Xv3 t i
def mkS(n:Nat)(l:List (Nat×AV)):List AV:=(List.range n).map (Xv3 l)
def Wn2(l:List AV)(j:Nat):Int:=match l[j]? with
 |some (.x (.int _ n))=>n
 |_=>0
def Je2:Nat->(Cg)->List AV
 | 0,_=>[]
 |k+1,g=> .x (.int .i64 (g 0))::Je2 k (λj=>g (j+1))
def UF(sz n:Nat)(f:Ci):Prop:= ∀k,k<n->f k=Je2 sz (Wn2 (f k))
theorem VX.args{P:Program}{f:FuncId}{avs avs':List AV}{res:AV}(h:VX P f avs' res)(Z: ∀e w vs,U3 e w avs vs->U3 e w avs' vs)(O:(∀a∈avs,Idf a)-> ∀a∈avs',Idf a):VX P f avs res:=
 λe w args hro hgl FP GK=>h e w args hro hgl (O FP) (Z e w args GK)
inductive uA:AV->AV->Prop
 |refl (a:AV):uA a a
 |lst (sz n:Nat) (f g:Ci):(∀k,k<n->f k=g k)->uA (.lst sz n f) (.lst sz n g)
 |nil (sz:Nat) (g:Ci):uA (.x (.slice none 0 0)) (.lst sz 0 g)
 |agg (l l':List AV):l.length=l'.length->(∀(j:Nat) (a b:AV),l[j]? =some a->l'[j]? =some b->uA a b)->uA (.agg l) (.agg l')
 |deep (sz n:Nat) (f g:Ci):(∀k,k<n->(f k).length=(g k).length)->(∀(k j:Nat) (a b:AV),k<n->(f k)[j]? =some a->(g k)[j]? =some b->uA a b)->uA (.lst sz n f) (.lst sz n g)
theorem uA.idf{a b:AV}(h:uA a b)(k:Idf a):Idf b:=by
 induction h with
 |refl=>exact k
 |lst sz n f g hfg=>cases k with|lst _ _ _ k=>exact .lst sz n g (λi O a ha=>k i O a (by rw [hfg i O];exact ha))
 |nil sz g=>exact .lst sz 0 g (λi O=>VJ)
 |deep sz n f g hl _ ih=>
  cases k with
  |lst _ _ _ k=>
   refine .lst sz n g λi O b hb=>?_;obtain ⟨j,hj⟩:=wR.1 hb;have hjl:j<(f i).length:=by rw [hl i O];exact (FV.1 hj).1
   exact ih i j _ b O (D0 hjl) hj (k i O _ (List.getElem_mem hjl))
 |agg l l' hl _ ih=>
  cases k with
  |agg _ k=>
   refine .agg l' λb hb=>?_;obtain ⟨j,hj⟩:=wR.1 hb;have hjl:j<l.length:=by rw [hl];exact (FV.1 hj).1
   exact ih j l[j] b (D0 hjl) hj (k _ (List.getElem_mem hjl))
theorem uA.rep{e:UL}{w:World}{a b:AV}{v:Value}(h:uA a b)(r:Rep e w a v):Rep e w b v:=by
 induction h generalizing v with
 |refl=>exact r
 |lst sz n f g hfg=>
  cases r with
  |lstNil sz f=>exact .lstNil sz g
  |lst sz n f b o cap gg h1 h2 h3 h4 h5 h6 h7 h8 ad had=>
   exact .lst sz n g b o cap gg h1 h2 (λi O a ha=>h3 i O a (by rw [hfg i O];exact ha)) h4 h5 h6 (λi O=>by rw [←hfg i O];exact h7 i O) (λi j a O ha=>h8 i j a O (by rw [hfg i O];exact ha)) ad had
 |deep sz n f g hl hsm ih=>
  cases r with
  |lstNil sz f=>exact .lstNil sz g
  |lst sz n f b o cap gg h1 h2 h3 h4 h5 h6 h7 h8 ad had=>
   have get: ∀i j b,i<n->(g i)[j]? =some b-> ∃a,(f i)[j]? =some a:=λi j b O hb=>by
    have hj:j<(f i).length:=by rw [hl i O];exact (FV.1 hb).1
    exact ⟨_,D0 hj⟩
   refine .lst sz n g b o cap gg h1 h2 (λi O b hb=>?_) h4 h5 h6 (λi O=>by rw [←hl i O];exact h7 i O) (λi j b O hb=>?_) ad had
   obtain ⟨j,hj⟩:=wR.1 hb;obtain ⟨a,ha⟩:=get i j b O hj;exact (hsm i j a b O ha hj).idf (h3 i O a (F5 ha));obtain ⟨a,ha⟩:=get i j b O hb;exact ih i j a b O ha hb (h8 i j a O ha)
 |nil sz g=>cases r.x_inv;exact .lstNil sz g
 |agg l l' hl _ ih=>
  obtain ⟨vs,rfl,Z⟩:=r.agg_inv;refine Rep.aggL ⟨by rw [←hl];exact Z.1,λj b v hb hv=>?_⟩
  have hj:j<l.length:=by rw [hl];exact (FV.1 hb).1
  exact ih j l[j] b (D0 hj) hb (Z.2 j _ v (D0 hj) hv)
inductive LX:List AV->List AV->Prop
 |nil:LX [] []
 |cons {a b:AV} {l l':List AV}:uA a b->LX l l'->LX (a::l) (b::l')
theorem LX.same{l l':List AV}(h:LX l l'):uA (.agg l) (.agg l'):=by
 have key:l.length=l'.length/\ ∀(j:Nat) (a b:AV),l[j]? =some a->l'[j]? =some b->uA a b:=by
  induction h with
  |nil=>exact ⟨rfl,λj a b h=>by simp at h⟩
  |cons h1 _ ih=>
   refine ⟨by simp [ih.1],λj a b ha hb=>?_⟩
   cases j with
   |zero=>simp at ha hb;subst ha;subst hb;exact h1
   |succ j=>exact ih.2 j a b (by simpa using ha) (by simpa using hb)
 exact .agg l l' key.1 key.2
theorem LX.rep{e:UL}{w:World}{l l':List AV}(h:LX l l'): ∀{vs:List Value},U3 e w l vs->U3 e w l' vs:=by
 induction h with
 |nil=>exact λr=>r
 |cons h1 _ ih=>
  intro vs r;obtain ⟨v,vs',rfl,hv,hvs⟩:=r.cons_inv;exact U3.cons (h1.rep hv) (ih hvs)
theorem LX.idf{l l':List AV}(h:LX l l'):(∀a∈l,Idf a)-> ∀a∈l',Idf a:=by
 induction h with
 |nil=>exact λ_ a ha=>by cases ha
 |cons h1 _ ih=>
  intro k a ha;rcases GM.1 ha with rfl|ha;exact h1.idf (k _ GD);exact ih (λa ha=>k a (HL _ ha)) a ha
theorem VX.same{P:Program}{f:FuncId}{avs avs':List AV}{res:AV}(h:VX P f avs' res)(k:LX avs avs'):VX P f avs res:=h.args (λ_ _ _ r=>k.rep r) k.idf
def GY:List (Nat×AV)->List AV->List AV
 |[],σ=>σ
 |(k,a)::t,σ=>(GY t σ).set k a
def Wc5(P:Program)(G:List (Nat×Spec))(L:List UG)(body:Code)(s nxt:St)(out:G5->Option St):VM G5:=
 (lT P G L body 0 s).bind λp=>match p.1 with
  | .normal=> .needT (BH p.2 nxt) (.leaf .normal)
  | .exit id=>match out (.exit id) with
   |some E=> .needT (BH p.2 E) (.leaf (.exit id))
   |none=> .fail
  | .ret=>match out .ret with
   |some E=> .needT (BH p.2 E) (.leaf .ret)
   |none=> .fail
section
variable {P:Program}{G:List (Nat×Spec)}{L:List UG}
theorem nT{body:Code}{s nxt:St}{out:G5->Option St}{R:G5->Prop}(h:(Wc5 P G L body s nxt out).sat R):
  (lT P G L body 0 s).sat (λp=>match p.1 with
   | .normal=>R .normal/\UB (BH p.2 nxt)
   |y=> ∃E,out y=some E/\R y/\UB (BH p.2 E)):=by
 refine VM.sat_mono ?_ (VM.sat_bind h);rintro ⟨y,s'⟩ hp;cases y with
 |normal=>exact ⟨(VM.sat_needT hp).2,(VM.sat_needT hp).1⟩
 |exit id=>
  dsimp only at hp ⊢
  split at hp;rename_i E hE;exact ⟨E,hE,(VM.sat_needT hp).2,(VM.sat_needT hp).1⟩;exact hp.elim
 |ret=>
  dsimp only at hp ⊢
  split at hp;rename_i E hE;exact ⟨E,hE,(VM.sat_needT hp).2,(VM.sat_needT hp).1⟩;exact hp.elim
theorem HH(hG:VK P G)(GR:P.follows .mixedOrders=true){body:Code}(hL: ∀j cj,VS body j=some cj-> ∀sp,L[j]? =some sp->G6 P cj sp)
  {X:Type}(inv:X->St)(I:X->Prop)(μ:X->Nat)(out:X->G5->Option St){t:CT}{x0:X}(h0:I x0)
  (hok: ∀x,okB (inv x)=true)(qT: ∀x y E,out x y=some E->okB E=true)
  (round: ∀(Q:G5×St->Prop),t.sat Q-> ∀x,I x-> ∃x',(Wc5 P G L body (inv x) (inv x') (out x)).sat (λy=>match y with
   | .normal=>I x'/\μ x'<μ x
   |y=> ∀E,out x y=some E->Q (y,E))):G6 P (.loop body) (HF (inv x0) t):=by
 intro ro cx;refine jJ (hok x0) ?_;intro n Q hQ a w r;refine TZ μ (λx a w=>I x/\Rel cx (inv x) a w) ?_ ⟨h0,r⟩;rintro x a w ⟨hx,Z⟩;obtain ⟨x',zP⟩:=round Q hQ x hx;refine wpIn_mono (D8 hG (VW.nil P cx) GR body 0 (inv x) _ a w (λj cj hj sp hsp=>hL j cj hj sp (by simpa using hsp) ro cx) (nT zP) Z) ?_
 rintro ex a₁ w₁ ⟨y,s',rfl,hq,hr'⟩;cases y with
 |normal=>
  obtain ⟨⟨h1,h2⟩,h3⟩:=hq;exact ⟨x',h2,h1,FW (GE h3) (hok x') hr'⟩
 |exit id=>
  obtain ⟨E,hE,h1,h3⟩:=hq;exact ⟨.exit id,E,rfl,h1 E hE,FW (GE h3) (qT x _ E hE) hr'⟩
 |ret=>
  obtain ⟨E,hE,h1,h3⟩:=hq;exact ⟨.ret,E,rfl,h1 E hE,FW (GE h3) (qT x _ E hE) hr'⟩
end
def GX(p:Nat->Bool):Nat->Nat
 | 0=>0
 |n+1=>match Nat.blt (GX p n) n with
  |true=>GX p n
  |false=>match p n with
   |true=>n
   |false=>n+1
theorem F6(p:Nat->Bool): ∀n,GX p n<=n/\(∀j,j<GX p n->p j=false)/\(GX p n<n->p (GX p n)=true)
 | 0=>by simp [GX]
 |n+1=>by
  obtain ⟨h1,h2,h3⟩:=F6 p n;unfold GX;split;rename_i hb;rw [Aw] at hb;exact ⟨VJ,h2,λ_=>h3 hb⟩;rename_i hb;rw [←Bool.not_eq_true,Aw] at hb;have:GX p n=n:=VJ;rw [this] at h2;split;rename_i hp;exact ⟨VJ,h2,λ_=>hp⟩;rename_i hp;refine ⟨VJ,λj hj=>?_,λh=>VJ⟩;rcases (show j<n\/j=n by omega) with h|rfl
  exact h2 j h;exact hp
theorem zQ{p:Nat->Bool}{n k:Nat}(hk:k<n)(hp:p k=true)(hb: ∀j,j<k->p j=false):GX p n=k:=by
 obtain ⟨h1,h2,h3⟩:=F6 p n;rcases Nat.lt_trichotomy (GX p n) k with h|h|h;have:=h3 VJ;rw [hb _ h] at this;cases this;exact h;rw [h2 k h] at hp;cases hp
theorem qB{p:Nat->Bool}{n:Nat}(hb: ∀j,j<n->p j=false):GX p n=n:=by
 obtain ⟨h1,h2,h3⟩:=F6 p n;rcases An (GX p n) n with h|h;have:=h3 h;rw [hb _ h] at this;cases this;omega
def D3(p:Nat->Bool):Nat->Bool
 | 0=>true
 |n+1=>D3 p n&&p n
theorem GC{p:Nat->Bool}: ∀{n:Nat},D3 p n=true↔ ∀j,j<n->p j=true
 | 0=>by simp [D3]
 |n+1=>by
  rw [D3,GU,GC];constructor;rintro ⟨h1,h2⟩ j hj;rcases (show j<n\/j=n by omega) with h|rfl
  exact h1 j h;exact h2;exact λh=>⟨λj hj=>h j VJ,h n VJ⟩
theorem kM{p:Nat->Bool}{n:Nat}:D3 p n=decide (GX (λk=> !p k) n=n):=by
 obtain ⟨h1,h2,h3⟩:=F6 (λk=> !p k) n;rw [Bool.eq_iff_iff,GC,qQ];constructor;intro h;exact qB (λj hj=>by simp [h j hj])
 intro h j hj;have:=h2 j VJ;simpa using this
