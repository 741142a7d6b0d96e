/- Contracts, put together. Conditions: those of each. -/
import Derived.Test.YtakpdkmhclhlnaaGreatDoorMa
set_option linter.unusedSimpArgs false
set_option linter.unusedVariables false
namespace Go.Sx
open Go Go.RowKit
inductive U6 (α:Type) where
 |fail
 |leaf (a:α)
 |branch (b:Bool) (t f:U6 α)
 |need (ps:List Prop) (t:U6 α)
 |may (p:Prop) (t f:U6 α)
def UU:List Prop->Prop
 |[]=>True
 |[p]=>p
 |p::ps=>p/\UU ps
theorem GY: ∀{ps:List Prop},UU ps-> ∀p∈ps,p
 |[],_,_,h=>by cases h
 |[q],h,p,hp=>by rcases BE.1 hp with rfl;exact h
 |q::r::ps,h,p,hp=>by
  rcases HA.1 hp with rfl|hp;exact h.1;exact GY h.2 p hp
namespace U6
variable {α β:Type}
def bind:U6 α->(α->U6 β)->U6 β
 | .fail,_=> .fail
 | .leaf a,g=>g a
 | .branch b t f,g=> .branch b (t.bind g) (f.bind g)
 | .need ps t,g=> .need ps (t.bind g)
 | .may p t f,g=> .may p (t.bind g) (f.bind g)
def sat(Q:α->Prop):U6 α->Prop
 | .fail=>False
 | .leaf a=>Q a
 | .branch b t f=>(b=true->t.sat Q)/\(b=false->f.sat Q)
 | .need ps t=>UU ps/\t.sat Q
 | .may p t f=>(p->t.sat Q)/\f.sat Q
theorem sat_mono{Q Q':α->Prop}(h: ∀a,Q a->Q' a): ∀{t:U6 α},t.sat Q->t.sat Q'
 | .fail,k=>k
 | .leaf _,k=>h _ k
 | .branch _ _ _,k=>⟨λe=>sat_mono h (k.1 e),λe=>sat_mono h (k.2 e)⟩
 | .need _ _,k=>⟨k.1,sat_mono h k.2⟩
 | .may _ _ _,k=>⟨λe=>sat_mono h (k.1 e),sat_mono h k.2⟩
theorem sat_bind{Q:β->Prop}{g:α->U6 β}: ∀{t:U6 α},(t.bind g).sat Q->t.sat (λa=>(g a).sat Q)
 | .fail,k=>k
 | .leaf _,k=>k
 | .branch _ _ _,k=>⟨λe=>sat_bind (k.1 e),λe=>sat_bind (k.2 e)⟩
 | .need _ _,k=>⟨k.1,sat_bind k.2⟩
 | .may _ _ _,k=>⟨λe=>sat_bind (k.1 e),sat_bind k.2⟩
def needT(ps:List Prop)(t:U6 α):U6 α:=match ps with
 |[]=>t
 |p::r=> .need (p::r) t
theorem sat_needT{Q:α->Prop}{ps:List Prop}{t:U6 α}(h:(needT ps t).sat Q):UU ps/\t.sat Q:=by
 cases ps with
 |nil=>exact ⟨trivial,h⟩
 |cons p r=>exact h
end U6
structure St where
 σ:List AV
 m:HO
 nx:Nat
 gh:Option Nat:=none
 sv:List (List AV):=[]
def cH:Value->AV
 | .bool b=> .lit b
 |v=> .x v
def rho(σ:List AV):Operand->AV
 | .tmp t=>σ.getD t .top
 | .const v=>cH v
 | .global g=> .x (.pointer (some ⟨g,0,none⟩))
 | .func f=> .fn (.func f) [] []
theorem AP{e:G8}{w:World}(v:Value):Rep e w (cH v) v:=by
 unfold cH;split;exact .lit _;exact .x _
theorem RI{e:G8}{w:World}{σ:List AV}{a:Act}(h:UM e w σ a.tmps.toList)(x:Operand):Rep e w (rho σ x) (a.eval x):=by
 cases x with
 |tmp t=>
  simp only [rho,Act.eval];by_cases ht:t<σ.length;obtain ⟨v,hv,r⟩:=h.get (List.getElem?_eq_getElem ht);have hv':a.tmps[t]? =some v:=by simpa using hv
  simpa [List.getD,List.getElem?_eq_getElem ht,Array.getD_eq_getD_getElem?,hv'] using r;have hno:σ[t]? =none:=Br (Nat.le_of_not_lt ht);rw [List.getD,hno];exact .top _
 |const v=>exact AP v
 |global g=>exact .x _
 |func f=>exact .fn (.func f) [] [] [] [] rfl (λi a v h=>by simp at h) rfl (λi a v h=>by simp at h)
structure Cx where
 M:Nat->Prop
 Φ:Option Nat->(Nat->Prop)->World->Prop
 K:Nat->Obj->Prop
 saved:List (List Value)
 sz:Nat:=0
def NT(M:Nat->Prop)(e:G8)(w:World)(ds:List Deferred):Prop:=(∀d∈ds,∃D,d={target:= .collected D,args:=#[] }/\e.ro D/\D<w.heap.size/\w.heap[D]? =some (.deferred (some []))/\M D)/\ds.Nodup
def LM(e:G8)(w:World)(l:List (List AV))(vs:List (List Value)):Prop:=l.length=vs.length/\ ∀(i:Nat) (a:List AV) (v:List Value),l[i]? =some a->vs[i]? =some v->UM e w a v
theorem LM.step{e e':G8}{w w':World}(s:Step e e' w w'){l:List (List AV)}{vs:List (List Value)}(h:LM e w l vs):LM e' w' l vs:=⟨h.1,λi a v ha hv=>(h.2 i a v ha hv).step s⟩
theorem LM.cons{e:G8}{w:World}{a:List AV}{v:List Value}{l:List (List AV)}{vs:List (List Value)}(h:UM e w a v)(t:LM e w l vs):LM e w (a::l) (v::vs):=by
 refine ⟨by simp [t.1],λi b u hb hu=>?_⟩
 cases i with
 |zero=>simp at hb hu;subst hb;subst hu;exact h
 |succ i=>simp at hb hu;exact t.2 i b u hb hu
theorem LM.cons_inv{e:G8}{w:World}{l:List (List AV)}{v:List Value}{vs:List (List Value)}(h:LM e w l (v::vs)): ∃a l',l=a::l'/\UM e w a v/\LM e w l' vs:=by
 cases l with
 |nil=>have:=h.1;simp at this
 |cons a l'=>exact ⟨a,l',rfl,h.2 0 a v (by simp) (by simp),⟨by have:=h.1;simpa using this,λi b u hb hu=>h.2 (i+1) b u (by simpa using hb) (by simpa using hu)⟩⟩
theorem LM.map{e e':G8}{w w':World}{l:List (List AV)}{vs:List (List Value)}(g:AV->AV)(hg: ∀a v,Rep e w a v->Rep e' w' (g a) v)(h:LM e w l vs):LM e' w' (l.map (·.map g)) vs:=by
 refine ⟨by simp [h.1],λi a v ha hv=>?_⟩
 rw [Bn,Ay] at ha;obtain ⟨a',ha',rfl⟩:=ha;obtain ⟨h1,h2⟩:=h.2 i a' v ha' hv;refine ⟨by simp [h1],λj b u hb hu=>?_⟩
 rw [Bn,Ay] at hb;obtain ⟨b',hb',rfl⟩:=hb;exact hg _ _ (h2 j b' u hb' hu)
structure Xt (c:Cx) (e:G8) (sv:List (List AV)) (ds:List Deferred) (w:World):Prop where
 defers:NT c.M e w ds
 kept: ∀b o,c.K b o->e.ro b/\b<w.heap.size/\w.heap[b]? =some o
 saved:LM e w sv c.saved
 size:c.sz<=w.heap.size
theorem NT.step{M:Nat->Prop}{e e':G8}{w w':World}(s:Step e e' w w'){ds:List Deferred}(h:NT M e w ds):NT M e' w' ds:=by
 refine ⟨λd hd=>?_,h.2⟩;obtain ⟨D,h1,h2,h3,h4,h5⟩:=h.1 d hd;obtain ⟨k1,k2⟩:=s.ro D h3 h2;exact ⟨D,h1,k1,Nat.lt_of_lt_of_le h3 s.size,k2.trans h4,h5⟩
theorem Xt.step{c:Cx}{e e':G8}{sv:List (List AV)}{ds:List Deferred}{w w':World}(h:Xt c e sv ds w)(s:Step e e' w w'):Xt c e' sv ds w':=by
 refine ⟨h.defers.step s,λb o hb=>?_,h.saved.step s,Ar h.size s.size⟩;obtain ⟨h1,h2,h3⟩:=h.kept b o hb;obtain ⟨k1,k2⟩:=s.ro b h2 h1;exact ⟨k1,Nat.lt_of_lt_of_le h2 s.size,k2.trans h3⟩
structure FT (c:Cx) (w0:World) (T:Nat->Prop) (e:G8) (s:St) (a:Act) (w:World):Prop where
 env:GK e w0.heap.size w
 below:Below w0.heap.size w0 w
 mem:GH e s.m w
 live: ∀k,e.live k->k<s.nx
 foe: ∀b,T b->b<w0.heap.size/\ ¬e.ro b
 xt:Xt c e s.sv a.defers w
 slots:UM e w s.σ a.tmps.toList
def Rel(c:Cx)(s:St)(a:Act)(w:World):Prop:= ∃w0 T e,c.Φ s.gh T w0/\FT c w0 T e s a w
def z8(σ:List AV)(dst:Option Nat)(v:AV):List AV:=
 match dst with
 |some d=>σ.set d v
 |none=>σ
theorem qZ{e:G8}{w:World}{σ:List AV}{a:Act}(h:UM e w σ a.tmps.toList)(dst:Option Nat){av:AV}{v:Value}(r:Rep e w av v):UM e w (z8 σ dst av) (a.put dst v).tmps.toList:=by
 cases dst with
 |none=>exact h
 |some d=>simp only [z8,Act.put,Array.toList_setIfInBounds];exact h.set r d
theorem put_defers(a:Act)(dst:Option Nat)(v:Value):(a.put dst v).defers=a.defers:=by cases dst<;>rfl
theorem FT.hB{c:Cx}{w0:World}{T:Nat->Prop}{e:G8}{s:St}{a:Act}{w:World}(h:FT c w0 T e s a w):w0.heap.size<=w.heap.size:=h.below.size
def fr(ro:Option Nat):Fence:={Fence.wide with round:=ro}
section
variable {ro:Option Nat}{n:Nat}{P:Program}
theorem MY{f:FuncId}{args:Array Value}{w:World}{R:Ending->World->Prop}(h:Calls P f args w R):CallsIn (fr ro) n P f args w R:=callsIn_wide (n:=n).2 h
theorem Qs2{row:String}{args:Array Value}{w:World}{R:Value->World->Prop}(h:Rows P row args w R):RowsIn (fr ro) n P row args w R:=λc cs _=>by
 obtain ⟨v,w',h1,h2⟩:=h c cs;exact ⟨v,w',h1,stepsIn_wide.2 h2⟩
theorem D9{o:Oper}{a:Act}{w:World}{K:Act->World->Prop}{Q:Exit->Act->World->Prop}(hd: ∀c,o.op≠ .defer c)(h:o.wp P a w K Q):o.wpIn (fr ro) n P a w K Q:=by
 refine ⟨λf _=>trivial,?_⟩;rw [Oper.semAt_eq _ _ _ hd];unfold Oper.wp at h;generalize (execOp a.eval o).run P w=r at h ⊢;have Xq7:(fr ro).depth.isSome=true->1<=n:=λh=>by cases h
 unfold Oper.upon at h;split at h;exact h;exact h;exact h;exact ⟨Xq7,MY h⟩;exact ⟨Xq7,Qs2 h⟩;exact h;exact h.elim
end
def nX(P:Program)(id:Nat)(m:HO)(ρ:Operand->AV)(op:Op):Option (List Prop×AV×HO):=
 match op with
 | .store t x y=>match jI P m t (ρ x) (ρ y) with
  |some (ns,m')=>some (ns,.top,m')
  |none=>none
 | .mapUpdate t x k y=>match ρ x,CZ (ρ k),CZ (ρ y),Wb4 P t with
  | .mp id,some kv,some yv,some z=>match DY m id with
   |some (.memo h f)=>match Zt2 (ρ y) with
    |true=>some ([∀u,h u->f u=yv,RC P t (λu=>h u\/u=kv) kv z],.top,(id,.memo (λu=>h u\/u=kv) (λ_=>yv))::kL m id)
    |false=>some ([RC P t h kv z,h kv,yv=f kv],.top,(id,.memo h f)::kL m id)
   |_=>none
  |_,_,_,_=>none
 | .call c=>match c.callee,c.args.toList,c.argTypes.toList with
  | .builtin .append,[s,x],[t,t']=>match Nat.beq t t' with
   |true=>RR P id m t (ρ s) (ρ x)
   |false=>v7 P id m t t' (ρ s) (ρ x)
  |_,_,_=>none
 |_=>none
def nT(P:Program)(m:HO)(ρ:Operand->AV)(op:Op):Option (List Prop×Prop×AV×AV):=
 match op with
 | .binOp .eql t x (.const (.slice none 0 0)) _=>match ρ x,P.underlying t with
  | .lst _ n _,some (.slice _)=>some ([],n=0,.lit true,.lit false)
  |_,_=>none
 | .binOp .neq t x (.const (.slice none 0 0)) _=>match ρ x,P.underlying t with
  | .lst _ n _,some (.slice _)=>some ([],n=0,.lit false,.lit true)
  |_,_=>none
 | .lookup t x k ok=>match ρ x,CZ (ρ k),Wb4 P t with
  | .mp id,some kv,some z=>match DY m id with
   |some (.memo h f)=>some ([RC P t h kv z],h kv,sZ ok (f kv) true,sZ ok z false)
   |_=>none
  |_,_,_=>none
 |_=>none
abbrev DX:=List AV->Option (U6 AV)
abbrev qN:=List AV->Option (List Prop×TypeId×Nat×Nat×(Ci))
abbrev DK:=List AV->HO->Nat->List (List AV)->Option (U6 (AV×HO×Nat×List (List AV)))
def Zb9(o:Option Nat)(s:St)(p:AV×HO×Nat×List (List AV)):U6 St:=match p.2.2.2 with
 |σ::t=> .leaf {s with σ:=z8 σ o p.1,m:=p.2.1,nx:=p.2.2.1,sv:=t}
 |[]=> .fail
structure Ext where
 Y:Option (Nat×Nat×(Nat->List Value)):=none
 R:List (Nat×Spec):=[]
 H:List (Nat×DK):=[]
 C:List (Nat×DX):=[]
 F:List (Nat×qN):=[]
 D:List (Nat×DX):=[]
def Wx3:List (Nat×DK)->Nat->Option DK
 |[],_=>none
 |(k,s)::t,f=>match Nat.beq k f with
  |true=>some s
  |false=>Wx3 t f
theorem Wx2{G:List (Nat×DK)}{f:Nat}{s:DK}(h:Wx3 G f=some s):(f,s)∈G:=by
 induction G with
 |nil=>simp [Wx3] at h
 |cons p t ih=>
  obtain ⟨k,r'⟩:=p;unfold Wx3 at h;split at h;rename_i hk;have:k=f:=Nat.eq_of_beq_eq_true hk;subst this;cases h;exact List.mem_cons_self;exact List.mem_cons_of_mem _ (ih h)
def bY:List (Nat×DX)->Nat->Option DX
 |[],_=>none
 |(k,s)::t,f=>match Nat.beq k f with
  |true=>some s
  |false=>bY t f
def Wx5:List (Nat×qN)->Nat->Option qN
 |[],_=>none
 |(k,s)::t,f=>match Nat.beq k f with
  |true=>some s
  |false=>Wx5 t f
theorem Wx4{G:List (Nat×qN)}{f:Nat}{s:qN}(h:Wx5 G f=some s):(f,s)∈G:=by
 induction G with
 |nil=>simp [Wx5] at h
 |cons p t ih=>
  obtain ⟨k,s'⟩:=p;unfold Wx5 at h;split at h;rename_i hk;have:k=f:=Nat.eq_of_beq_eq_true hk;subst this;cases h;exact List.mem_cons_self;exact List.mem_cons_of_mem _ (ih h)
theorem MG{G:List (Nat×DX)}{f:Nat}{s:DX}(h:bY G f=some s):(f,s)∈G:=by
 induction G with
 |nil=>simp [bY] at h
 |cons p t ih=>
  obtain ⟨k,r'⟩:=p;unfold bY at h;split at h;rename_i hk;have:k=f:=Nat.eq_of_beq_eq_true hk;subst this;cases h;exact List.mem_cons_self;exact List.mem_cons_of_mem _ (ih h)
def C6:Nat->AV->Bool
 | 0,a=>a.idf
 |d+1,a=>match a with
  | .agg l=>l.all (C6 d)
  | .tup l=>l.all (C6 d)
  | .fn _ l l'=>l.all (C6 d)&&l'.all (C6 d)
  |a=>a.idf
theorem yB{e:G8}{w:World}: ∀(d:Nat) (a:AV) (v:Value),Rep e w a v->C6 d a=true->Idf a
 | 0,_,_,r,h=>jO r h
 |d+1,a,v,r,h=>by
  have ih:=yB (e:=e) (w:=w) d;have all: ∀{l:List AV} {vs:List Value},UM e w l vs->l.all (C6 d)=true-> ∀a∈l,Idf a:=by
   intro l vs hr hl a ha;obtain ⟨i,O⟩:=List.mem_iff_getElem?.1 ha;obtain ⟨v,hv,r⟩:=hr.get O;exact ih a v r (List.all_eq_true.1 hl a ha)
  cases r with
  |agg l vs h1 h2=>exact .agg l (all ⟨h1,h2⟩ h)
  |tup l vs h1 h2=>exact .tup l (all ⟨h1,h2⟩ h)
  |fn f l l' vs vs' h1 h2 h3 h4=>
   simp only [C6,Bool.and_eq_true] at h;exact .fn f l l' (all ⟨h1,h2⟩ h.1) (all ⟨h3,h4⟩ h.2)
  |top v=>exact .top
  |lit b=>exact .lit b
  |x v=>exact .x v
  |ro l vs b o h1 h2 h3 h4 h5 h6=>exact .ro l h3
  |lstNil sz f=>exact .lst sz 0 f (λi O=>by omega)
  |lst sz n f b o cap g h1 h2 h3 h4 h5 h6 h7 h8 ad had=>exact .lst sz n f h3
  |roI pre n f off b o hr=>exact jO (Rep.roI pre n f off b o hr) rfl
  |mpr g okf vals b es c h1 h2 h3 h4 h5 h6 h7 h8=>exact .mpr g okf h3
  |any1 v hv=>exact .any1
  |_=>simp [C6,AV.idf] at h
def CY:List AV->Option (List Value)
 |[]=>some []
 |a::t=>match CZ a,CY t with
  |some v,some vs=>some (v::vs)
  |_,_=>none
theorem CX{e:G8}{w:World}: ∀{l:List AV} {vs us:List Value},CY l=some vs->UM e w l us->us=vs
 |[],vs,us,h,r=>by
  simp only [CY,Option.some.injEq] at h;rw [r.nil_inv,←h]
 |a::l,vs,us,h,r=>by
  obtain ⟨u,us',rfl,hu,r'⟩:=r.cons_inv;unfold CY at h;split at h;rename_i v vs' h1 h2;cases h;rw [xY h1 hu,CX h2 r'];cases h
def opX(X:Ext)(o:Oper)(s:St):Option (U6 St):=
 match o.op with
 | .call c=>match c.callee with
  | .value f=>match rho s.σ f with
   | .fn (.yield l) [] []=>match X.Y,s.gh,s.sv,CY (c.args.toList.map (rho s.σ)) with
    |some (l',N,vals),some k,[],some vs=>some (.need [l=l',k<N,vs=vals k]
      (.may True (.leaf {σ:=z8 (s.σ.map (F3 s.m 40)) o.dst (.lit true),m:=[],nx:=0,gh:=some (k+1),sv:=[] })
       (.leaf {σ:=z8 (s.σ.map (F3 s.m 40)) o.dst (.lit false),m:=[],nx:=0,gh:=none,sv:=[] })))
    |_,_,_,_=>none
   | .fn (.func g) first caps=>match Qa4 X.R g with
    |some sp=>match (first++c.args.toList.map (rho s.σ)++caps).all (C6 6) with
     |true=>match sp (first++c.args.toList.map (rho s.σ)++caps) with
      |some (ns,r)=>some (.needT ns (.leaf {s with σ:=z8 s.σ o.dst r,nx:=s.nx+1}))
      |none=>none
     |false=>none
    |none=>match Wx3 X.H g with
     |some h=>match h (first++c.args.toList.map (rho s.σ)++caps) s.m s.nx (s.σ::s.sv) with
      |some t=>some (t.bind (Zb9 o.dst s))
      |none=>none
     |none=>match bY X.C g with
      |some sp=>match (first++c.args.toList.map (rho s.σ)++caps).all (C6 6) with
       |true=>match sp (first++c.args.toList.map (rho s.σ)++caps) with
        |some t=>some (t.bind λr=> .leaf {s with σ:=z8 s.σ o.dst r,nx:=s.nx+1})
        |none=>none
       |false=>none
      |none=>none
   |_=>none
  |_=>none
 |_=>none
section
variable (P:Program)(f:FuncId)(avs:List AV)
def RB(res:AV):Prop:=
 ∀(e:G8) (w:World) (args:List Value),(∀b,e.ro b->b<w.heap.size)->DQ e w->(∀a∈avs,Idf a)->UM e w avs args->
  Calls P f args.toArray w λen w'=> ∃v,en= .returned v/\Below w.heap.size w w'/\Rep {BA w w' with ro:=(e.more w w').ro} w' res v
def G6(t:U6 AV):Prop:=
 ∀Q:AV->Prop,t.sat Q-> ∀(e:G8) (w:World) (args:List Value),(∀b,e.ro b->b<w.heap.size)->DQ e w->(∀a∈avs,Idf a)->UM e w avs args->
  Calls P f args.toArray w λen w'=> ∃v r,en= .returned v/\Q r/\Below w.heap.size w w'/\Rep {BA w w' with ro:=(e.more w w').ro} w' r v
def BG(t:U6 AV):Prop:=
 ∀Q:AV->Prop,t.sat Q-> ∀(e:G8) (w:World) (args:List Value),(∀b,e.ro b->b<w.heap.size)->DQ e w->(∀a∈avs,Idf a)->UM e w avs args->
  Calls P f args.toArray w λen w'=> ∃v r,en= .returned v/\Q r/\Below w.heap.size w w'/\Rep (BA w w') w' r v
def FC(T:TypeId)(sz n:Nat)(g:Ci):Prop:=
 ∀(e:G8) (w:World) (args:List Value),(∀b,e.ro b->b<w.heap.size)->DQ e w->(∀a∈avs,Idf a)->UM e w avs args->
  Calls P f args.toArray w λen w'=> ∃v xs,en= .returned v/\Below w.heap.size w w'/\w'.ownsRow 0 T sz v n xs/\(∀b,v.ownBlock=some b->w.heap.size<=b/\b<w'.heap.size)/\
   (∀i,i<n->(g i).length=sz/\ ∀a∈g i,∃u,a= .x u)/\ ∀(i j:Nat) (a:AV) (u:Value),i<n->(g i)[j]? =some a->xs[i*sz+j]? =some u->a= .x u
end
theorem MX{e:G8}{B:Nat}{w w':World}{m:HO}{id:Nat}{T:TypeId}{sz n:Nat}{g:Ci}{v:Value}{xs:List Value}(hE:GK e B w)(hB:B<=w.heap.size)(hm:GH e m w)(hid: ¬e.live id)
  (hb:Below w.heap.size w w')(ho:w'.ownsRow 0 T sz v n xs)(hn: ∀b,v.ownBlock=some b->w.heap.size<=b/\b<w'.heap.size)(hg: ∀i,i<n->(g i).length=sz/\ ∀a∈g i,∃u,a= .x u)
  (hr: ∀(i j:Nat) (a:AV) (u:Value),i<n->(g i)[j]? =some a->xs[i*sz+j]? =some u->a= .x u):
  PB e B w m id (.row id) (some (.row T sz n g)) v w':=by
 let e':G8:={ro:=λb=>e.ro b\/(w.heap.size<=b/\b<w'.heap.size/\v.ownBlock≠some b),own:=λb=>if v.ownBlock=some b then some id else e.own b,live:=λk=>k=id\/e.live k,blk:=e.blk,val:=λk=>if k=id then v else e.val k}
 have Wu5: ∀b,b<w.heap.size->v.ownBlock≠some b:=λb hb hv=>by have:=(hn b hv).1;omega
 have st:Step e e' w w':=by
  refine ⟨λb hlt hr=>⟨.inl hr,hb.block b hlt⟩,λk hk=>⟨.inr hk,rfl,?_⟩,hb.size⟩;have:k≠id:=λh=>hid (h▸hk);simp [e',this]
 have HQ: ∀b k,e.own b=some k->e'.own b=some k:=by
  intro b k hk;have:=(hE.owned b k hk).2;show (if v.ownBlock=some b then some id else e.own b)=some k
  rw [if_neg (Wu5 b this)];exact hk
 have hE':GK e' B w':=by
  refine ⟨?_,λb k hk=>?_,hE.glob.step st⟩;rintro b (h|⟨h1,h2,h3⟩);have h4:=hE.apart b h;have:=hb.size;refine ⟨?_,by omega⟩
  show (if v.ownBlock=some b then some id else e.own b)=none
  rw [if_neg (Wu5 b h4.2)];exact h4.1;refine ⟨?_,h2⟩;show (if v.ownBlock=some b then some id else e.own b)=none
  rw [if_neg h3];cases ho:e.own b with
  |none=>rfl
  |some k=>have:=(hE.owned b k ho).2;omega
  have hk:(if v.ownBlock=some b then some id else e.own b)=some k:=hk
  split at hk;rename_i hv;have:=hn b hv;omega;have:=hE.owned b k hk;have:=hb.size;omega
 refine ⟨e',hb,st,hE',HQ,?_,?_,λk hk=>hk.symm,λb h=>h.imp (λh=>h) (λh=>h.1)⟩;rcases ho.2 with ⟨rfl,rfl⟩|⟨gb,cap,cur,rfl,_⟩;exact .row id _ _ _ (.inl rfl) (by simp [e'])
 exact .row id _ _ _ (.inl rfl) (by simp [e'])
 intro p hp;rcases List.mem_cons.1 hp with rfl|hp;refine ⟨.inl rfl,λb hv=>?_,λi O=>⟨(hg i O).1,λa ha=>?_⟩,xs,?_,λi j a u O ha hu=>?_⟩;have hv:v.ownBlock=some b:=by simpa [e'] using hv
 show (if v.ownBlock=some b then some id else e.own b)=some id
 rw [if_pos hv];obtain ⟨u,rfl⟩:=(hg i O).2 a ha;exact .x u;show w'.ownsRow 0 T sz (if id=id then v else e.val id) n xs
 rw [if_pos rfl];exact ho;rw [hr i j a u O ha hu];exact .x u;exact (hm p hp).ext hb st HQ
def GT(P:Program)(f:FuncId)(h:DK):Prop:=Enters P f/\ ∀avs m nx sv t,h avs m nx sv=some t-> ∀Q,t.sat Q-> ∀(c:Cx) (w0:World) (T:Nat->Prop) (e:G8) (ds:List Deferred) (args:List Value) (w:World),
 GK e w0.heap.size w->Below w0.heap.size w0 w->GH e m w->(∀k,e.live k->k<nx)->(∀b,T b->b<w0.heap.size/\ ¬e.ro b)->Xt c e sv ds w->UM e w avs args->
  Calls P f args.toArray w λen w'=> ∃v r m' nx' sv' e',en= .returned v/\Q (r,m',nx',sv')/\GK e' w0.heap.size w'/\Below w0.heap.size w0 w'/\GH e' m' w'/\(∀k,e'.live k->k<nx')/\
   (∀b,T b->b<w0.heap.size/\ ¬e'.ro b)/\Xt c e' sv' ds w'/\Rep e' w' r v
def Zx7(P:Program)(c:Cx)(l N:Nat)(vals:Nat->List Value):Prop:=
 (∀k T w w',c.Φ (some k) T w->Below w.heap.size w w'->c.Φ (some k) T w')/\
 ∀k T w n,c.Φ (some k) T w->k<N->YieldAt (fr none) n P l (vals k).toArray w λen w'=>w.heap.size<=w'.heap.size/\(∀b,b<w.heap.size-> ¬T b->w'.heap[b]? =w.heap[b]?)/\
  ∃T',(∀b,T' b->b<w'.heap.size/\(T b\/w.heap.size<=b))/\((en= .returned (.bool true)/\c.Φ (some (k+1)) T' w')\/(en= .returned (.bool false)/\c.Φ none T' w'))
structure UG (P:Program) (X:Ext) (c:Cx):Prop where
 y: ∀l N vals,X.Y=some (l,N,vals)->Zx7 P c l N vals
 r: ∀p∈X.R,Enters P p.1/\ ∀avs ns res,p.2 avs=some (ns,res)->(∀p∈ns,p)->RB P p.1 avs res
 h: ∀p∈X.H,GT P p.1 p.2
 c: ∀p∈X.C,Enters P p.1/\ ∀avs t,p.2 avs=some t->G6 P p.1 avs t
 f: ∀p∈X.F,Enters P p.1/\ ∀avs ns T sz n g,p.2 avs=some (ns,T,sz,n,g)->(∀q∈ns,q)->FC P p.1 avs T sz n g
 d: ∀p∈X.D,Enters P p.1/\ ∀avs t,p.2 avs=some t->BG P p.1 avs t
theorem UG.nil(P:Program)(c:Cx):UG P {} c:=⟨(λ_ _ _ h=>by cases h),(λ_ h=>by cases h),(λ_ h=>by cases h),(λ_ h=>by cases h),(λ_ h=>by cases h),(λ_ h=>by cases h)⟩
def Wi1(P:Program)(G:List (Nat×Spec))(X:Ext)(o:Oper)(s:St):U6 St:=
 match aop P G s.nx s.m (rho s.σ) o.op with
 |some (ns,val,add)=> .needT ns (.leaf {s with σ:=z8 s.σ o.dst val,m:=Jt5 s.m s.nx add,nx:=s.nx+1})
 |none=>match nX P s.nx s.m (rho s.σ) o.op with
  |some (ns,val,m')=> .needT ns (.leaf {s with σ:=z8 s.σ o.dst val,m:=m',nx:=s.nx+1})
  |none=>match nT P s.m (rho s.σ) o.op with
   |some (ns,p,v1,v2)=> .needT ns (.may p (.leaf {s with σ:=z8 s.σ o.dst v1,nx:=s.nx+1}) (.leaf {s with σ:=z8 s.σ o.dst v2,nx:=s.nx+1}))
   |none=>match opX X o s with
    |some t=>t
    |none=> .fail
section
variable {P:Program}
theorem Qc7{e:G8}{B:Nat}{w:World}{m m':HO}{id:Nat}{ρ:Operand->AV}{o:Oper}{a:Act}{ns:List Prop}{val:AV}
  (h:nX P id m ρ o.op=some (ns,val,m'))(hn: ∀p∈ns,p)(hE:GK e B w)(hB:B<=w.heap.size)(hm:GH e m w)(hid: ¬e.live id)(hr: ∀x,Rep e w (ρ x) (a.eval x))
  {K:Act->World->Prop}{Q:Exit->Act->World->Prop}(hK: ∀v w',NC e B w id val m' v w'->K (a.put o.dst v) w'):o.wp P a w K Q:=by
 obtain ⟨dst,op,type,pos,after,guard⟩:=o;cases op<;>try (simp [nX] at h;done)
 case store t x y=>
  simp only [nX] at h;split at h;rename_i ns' m'' hs;cases h;obtain ⟨w',h1,h2⟩:=NY (P:=P) hs hn hE hm (hr x) (hr y);unfold Oper.wp;have FD:(execOp a.eval ⟨dst,.store t x y,type,pos,after,guard⟩).run P w= .ok .skip w':=by simp [execOp,h1]
  rw [FD];exact hK undef w' (h2 id undef);cases h
 case mapUpdate t x k y=>
  simp only [nX] at h;split at h;rename_i i kv yv z hx hkv hyv hz;split at h;rename_i g f hg;have rx:=hr x;rw [hx] at rx;have ek:=xY hkv (hr k);have ey:=xY hyv (hr y);split at h;cases h;cases hxv:a.eval x with
  |map b=>
   rw [hxv] at rx;cases rx with
   |mp _ hl=>
    obtain ⟨w',h1,h2⟩:=Wf9 hg (hn (∀u,g u->f u=yv) (by simp)) (hn (RC P t (λu=>g u\/u=kv) kv z) (by simp)) hE hm
    unfold Oper.wp;have FD:(execOp a.eval ⟨dst,.mapUpdate t x k y,type,pos,after,guard⟩).run P w= .ok .skip w':=by simp [execOp,hxv,ek,ey,h1]
    rw [FD];exact hK undef w' (h2 id undef)
  |_=>rw [hxv] at rx;cases rx
  cases h;cases hxv:a.eval x with
  |map b=>
   rw [hxv] at rx;cases rx with
   |mp _ hl=>
    obtain ⟨w',h1,h2⟩:=OO hg (hn (RC P t g kv z) (by simp)) (hn (g kv) (by simp)) (hn (yv=f kv) (by simp)) hE hm
    unfold Oper.wp;have FD:(execOp a.eval ⟨dst,.mapUpdate t x k y,type,pos,after,guard⟩).run P w= .ok .skip w':=by simp [execOp,hxv,ek,ey,h1]
    rw [FD];exact hK undef w' (h2 id undef)
  |_=>rw [hxv] at rx;cases rx
  cases h;cases h
 case call c=>
  obtain ⟨callee,args,argTypes⟩:=c;simp only [nX] at h;split at h;rename_i s x t t' hca hta;split at h;rename_i ht;have ht':t=t':=Nat.eq_of_beq_eq_true ht;subst ht';obtain ⟨u,w',h1,h2⟩:=IO (P:=P) (ty:=type) h hn hE hB hm hid (hr s) (hr x);have ha:args=#[s,x]:=Array.ext' (by simpa using hca)
  have hat:argTypes=#[t,t]:=Array.ext' (by simpa using hta)
  subst ha;subst hat;refine DS (v:=u) (w':=w') ?_ (hK u w' h2);simp [execOp,resolve,invoke,builtin,h1];obtain ⟨u,w',h1,h2⟩:=C0 (P:=P) (ty:=type) h hn hE hB hm hid (hr s) (hr x);have ha:args=#[s,x]:=Array.ext' (by simpa using hca)
  have hat:argTypes=#[t,t']:=Array.ext' (by simpa using hta)
  subst ha;subst hat;refine DS (v:=u) (w':=w') ?_ (hK u w' h2);simp [execOp,resolve,invoke,builtin,h1];cases h
theorem OZ{t el:TypeId}(hu:P.underlying t=some (.slice el))(op:BinOp)(ox:Operand)(w:World)(v:Value)(b:Bool)(hv:(v= .slice none 0 0/\b=true)\/(∃ad n c,v= .slice (some ad) n c/\b=false)):
  (op= .eql->(do eqGuard op t ox (.const (.slice none 0 0)) v (.slice none 0 0);binOp op t v (.slice none 0 0):Sem Value).run P w= .ok (.bool b) w)/\
  (op= .neq->(do eqGuard op t ox (.const (.slice none 0 0)) v (.slice none 0 0);binOp op t v (.slice none 0 0):Sem Value).run P w= .ok (.bool !b) w):=by
 have hg:op= .eql\/op= .neq->(eqGuard op t ox (.const (.slice none 0 0)) v (.slice none 0 0)).run P w= .ok () w:=by
  rintro (rfl|rfl)<;>rcases hv with ⟨rfl,_⟩|⟨ad,n,c,rfl,_⟩<;>simp [eqGuard]
 have he:(Op.equal t v (.slice none 0 0)).run P w= .ok b w:=by
  unfold Op.equal;rw [show Op.maxDepth=(Op.maxDepth-1)+1 by decide]
  rcases hv with ⟨rfl,rfl⟩|⟨ad,n,c,rfl,rfl⟩<;>simp [Op.equalIn,run_underlying hu]
 constructor;rintro rfl;rw [At,hg (.inl rfl)];rcases hv with ⟨rfl,rfl⟩|⟨ad,n,c,rfl,rfl⟩<;>simp [binOp,he];rintro rfl;rw [At,hg (.inr rfl)];rcases hv with ⟨rfl,rfl⟩|⟨ad,n,c,rfl,rfl⟩<;>simp [binOp,he]
theorem N7{e:G8}{w:World}{m:HO}{ρ:Operand->AV}{o:Oper}{a:Act}{ns:List Prop}{p:Prop}{v1 v2:AV}(h:nT P m ρ o.op=some (ns,p,v1,v2))(hn: ∀p∈ns,p)(hm:GH e m w)(hr: ∀x,Rep e w (ρ x) (a.eval x))
  {K:Act->World->Prop}{Q:Exit->Act->World->Prop}(hK: ∀v,(p/\Rep e w v1 v)\/Rep e w v2 v->K (a.put o.dst v) w):o.wp P a w K Q:=by
 obtain ⟨dst,op,type,pos,after,guard⟩:=o;simp only at h;unfold nT at h;split at h;rename_i t x t';split at h;rename_i sz n f el hx hu;cases h;have rx:=hr x;rw [hx] at rx;have hc: ∃b,((a.eval x= .slice none 0 0/\b=true)\/(∃ad n c,a.eval x= .slice (some ad) n c/\b=false))/\((n=0/\Rep e w (.lit true) (.bool b))\/Rep e w (.lit false) (.bool b)):=by
  generalize a.eval x=v at rx;cases rx with
  |lstNil=>exact ⟨true,.inl ⟨rfl,rfl⟩,.inl ⟨rfl,.lit true⟩⟩
  |lst _ _ _ b o cap g=>exact ⟨false,.inr ⟨_,_,_,rfl,rfl⟩,.inr (.lit false)⟩
 obtain ⟨b,h1,h2⟩:=hc;refine DS (v:= .bool b) (w':=w) ?_ (hK _ h2);have:=(OZ hu .eql x w _ b h1).1 rfl;have hs:execOp a.eval ⟨dst,.binOp .eql t x (.const (.slice none 0 0)) t',type,pos,after,guard⟩=(do pure (.value (←(do eqGuard .eql t x (.const (.slice none 0 0)) (a.eval x) (.slice none 0 0);binOp .eql t (a.eval x) (.slice none 0 0):Sem Value)))):=rfl;rw [hs,At,this];simp;cases h;rename_i t x t';split at h;rename_i sz n f el hx hu;cases h;have rx:=hr x;rw [hx] at rx;have hc: ∃b,((a.eval x= .slice none 0 0/\b=true)\/(∃ad n c,a.eval x= .slice (some ad) n c/\b=false))/\((n=0/\Rep e w (.lit false) (.bool !b))\/Rep e w (.lit true) (.bool !b)):=by
  generalize a.eval x=v at rx;cases rx with
  |lstNil=>exact ⟨true,.inl ⟨rfl,rfl⟩,.inl ⟨rfl,.lit false⟩⟩
  |lst _ _ _ b o cap g=>exact ⟨false,.inr ⟨_,_,_,rfl,rfl⟩,.inr (.lit true)⟩
 obtain ⟨b,h1,h2⟩:=hc;refine DS (v:= .bool !b) (w':=w) ?_ (hK _ h2);have:=(OZ hu .neq x w _ b h1).2 rfl;have hs:execOp a.eval ⟨dst,.binOp .neq t x (.const (.slice none 0 0)) t',type,pos,after,guard⟩=(do pure (.value (←(do eqGuard .neq t x (.const (.slice none 0 0)) (a.eval x) (.slice none 0 0);binOp .neq t (a.eval x) (.slice none 0 0):Sem Value)))):=rfl;rw [hs,At,this];simp;cases h;rename_i t x k ok;split at h;rename_i i kv z hx hkv hz;split at h;rename_i g f hg;cases h;have rx:=hr x;rw [hx] at rx;have ek:=xY hkv (hr k);cases hxv:a.eval x with
 |map b=>
  rw [hxv] at rx;cases rx with
  |mp _ hl=>
   obtain ⟨_,_,es,c,h3,h4⟩:=hm _ (GI hg);obtain ⟨v,h5,h6⟩:=Wi0 (hn (RC P t g kv z) (by simp)) h3 h4 ok
   refine DS (v:=v) (w':=w) ?_ (hK v ?_);simp [execOp,hxv,ek,h5];rcases h6 with ⟨h6,rfl⟩|rfl;exact .inl ⟨h6,IX e w ok _ true⟩;exact .inr (IX e w ok _ false)
 |_=>rw [hxv] at rx;cases rx
 cases h;cases h;cases h
theorem dG{G:List (Nat×Spec)}{id:Nat}{m:HO}{ρ:Operand->AV}{op:Op}{x:Out}(h:aop P G id m ρ op=some x): ∀c,op≠ .defer c:=by
 rintro c rfl;simp [aop] at h
theorem O9{id:Nat}{m:HO}{ρ:Operand->AV}{op:Op}{x:List Prop×AV×HO}(h:nX P id m ρ op=some x): ∀c,op≠ .defer c:=by
 rintro c rfl;simp [nX] at h
theorem O8{m:HO}{ρ:Operand->AV}{op:Op}{x:List Prop×Prop×AV×AV}(h:nT P m ρ op=some x): ∀c,op≠ .defer c:=by
 rintro c rfl;simp [nT] at h
theorem FT.next{c:Cx}{w0:World}{T:Nat->Prop}{e e':G8}{s:St}{a:Act}{w w':World}(r:FT c w0 T e s a w)(hb:Below w0.heap.size w w')(st:Step e e' w w')(hE:GK e' w0.heap.size w')
  (hro: ∀b,e'.ro b->e.ro b\/w.heap.size<=b){m':HO}(hm:GH e' m' w'){nx':Nat}(hl: ∀k,e'.live k->k<nx')(dst:Option Nat){av:AV}{v:Value}(hv:Rep e' w' av v):
  FT c w0 T e' {s with σ:=z8 s.σ dst av,m:=m',nx:=nx'} (a.put dst v) w':=by
 refine ⟨hE,r.below.trans hb,hm,hl,λb hT=>⟨(r.foe b hT).1,λh=>?_⟩,by rw [put_defers];exact r.xt.step st,qZ (r.slots.step st) dst hv⟩
 rcases hro b h with h|h;exact (r.foe b hT).2 h;have:=(r.foe b hT).1;have:=r.hB;omega
theorem iQ{G:List (Nat×Spec)}{X:Ext}{c:Cx}(hG:U4 P G)(hX:UG P X c){o:Oper}{s:St}{R:St->Prop}(h:(Wi1 P G X o s).sat R){w0:World}{T:Nat->Prop}{e:G8}{a:Act}{w:World}(hΦ:c.Φ s.gh T w0)(r:FT c w0 T e s a w)
  {ro:Option Nat}{n:Nat}{K:Act->World->Prop}{Q:Exit->Act->World->Prop}(hK: ∀s' a' w',R s'->Rel c s' a' w'->K a' w'):o.wpIn (fr ro) n P a w K Q:=by
 have hid: ¬e.live s.nx:=λhl=>by have:=r.live _ hl;omega
 have lv: ∀{e':G8},(∀k,e'.live k->e.live k\/k=s.nx)-> ∀k,e'.live k->k<s.nx+1:=by
  intro e' hlv k hk;rcases hlv k hk with hk|rfl;exact Nat.lt_succ_of_lt (r.live k hk);exact Bk _
 unfold Wi1 at h;split at h
 ·rename_i ns val add ha
  replace h:=U6.sat_needT h
  refine D9 (dG ha) (TI hG ha (GY h.1) r.env r.hB r.mem hid (RI r.slots) (λv w' hc=>?_));obtain ⟨e',hb,st,hE',ho,H5,hm',hlv,hro⟩:=hc;exact hK _ _ _ h.2 ⟨w0,T,e',hΦ,r.next (hb.mono r.hB) st hE' hro hm' (lv hlv) o.dst H5⟩
 split at h
 ·rename_i ns val m' ha
  replace h:=U6.sat_needT h
  refine D9 (O9 ha) (Qc7 ha (GY h.1) r.env r.hB r.mem hid (RI r.slots) (λv w' hc=>?_));obtain ⟨e',hb,st,hE',H5,hm',hlv,hro⟩:=hc;exact hK _ _ _ h.2 ⟨w0,T,e',hΦ,r.next hb st hE' (λb h=> .inl (hro b h)) hm' (lv hlv) o.dst H5⟩
 split at h
 ·rename_i ns p v1 v2 ha
  replace h:=U6.sat_needT h
  obtain ⟨hn,h⟩:=h;refine D9 (O8 ha) (N7 ha (GY hn) r.mem (RI r.slots) (λv hv=>?_));have keep: ∀{av:AV},Rep e w av v->Rel c {s with σ:=z8 s.σ o.dst av,nx:=s.nx+1} (a.put o.dst v) w:=
   λH5=>⟨w0,T,e,hΦ,r.next (Below.refl _ _) (Step.refl e w) r.env (λ_ h=> .inl h) r.mem (λk hk=>Nat.lt_succ_of_lt (r.live k hk)) o.dst H5⟩
  rcases hv with ⟨hp,hv⟩|hv;exact hK _ _ _ (h.1 hp) (keep hv);exact hK _ _ _ h.2 (keep hv)
 split at h;rename_i t ht;obtain ⟨dst,op,type,pos,after,guard⟩:=o;unfold opX at ht;split at ht;rename_i cl hop;simp only at hop;subst hop;obtain ⟨callee,args,argTypes⟩:=cl;have ha:=UM.ops (RI r.slots) args.toList;split at ht;rename_i f dW;simp only at dW;subst dW;have hf:=RI r.slots f;split at ht
 rename_i l hfe;rw [hfe] at hf;obtain ⟨us,us',hv,r1,r2⟩:=hf.fn_inv;cases r1.nil_inv;cases r2.nil_inv;split at ht;rename_i l' N vals k vs hY hgh hsv hvs;cases ht;obtain ⟨hn,h⟩:=h;obtain ⟨rfl,hkN,hvk⟩:l=l'/\k<N/\vs=vals k:=hn;have SU:=CX hvs ha;rw [hgh] at hΦ;obtain ⟨hst,hy⟩:=hX.y l N vals hY;have hΦ':=hst k T w0 w hΦ (r.below);obtain ⟨fn,tmps,assign,body,hyr,jR⟩:=hy k T w (n-1) hΦ' hkN;refine ⟨λf _=>trivial,?_⟩;have hsem:Oper.semAt (fr ro).round a.eval ⟨dst,.call ⟨.value f,args,argTypes⟩,type,pos,after,guard⟩=execOp a.eval ⟨dst,.call ⟨.value f,args,argTypes⟩,type,pos,after,guard⟩:=Oper.semAt_eq _ _ _ (λc h=>by cases h)
 have e1:(args.toList.map a.eval).toArray=args.map a.eval:=Array.ext' (by simp)
 have FD:(execOp a.eval ⟨dst,.call ⟨.value f,args,argTypes⟩,type,pos,after,guard⟩).run P w= .ok (.round l fn tmps assign body) w:=by
  simp only [execOp,resolve,hv,Deferred.ofValue,At,Bv,Au,invoke];rw [←hvk,←SU,e1] at hyr;simpa using hyr
 rw [hsem,FD];refine ⟨(λh=>by cases h),?_⟩
 have hround':RoundIn (fr ro) (n-1) P l fn tmps assign body w _:=jR;refine hround'.mono λen w' hq=>?_;obtain ⟨hsz,zO,T',hT',FL⟩:=hq
 let e2:G8:={ro:=e.view.ro,own:=λ_=>none,live:=λ_=>False,blk:=λ_=>0,val:=λ_=> .nilIface}
 have hlt: ∀b,e2.ro b->b<w.heap.size:=by
  rintro b (h|⟨id,h⟩);exact (r.env.apart b h).2;exact (r.env.owned b id h).2
 have hnT: ∀b,e2.ro b-> ¬T b:=by
  rintro b (h|⟨id,h⟩) hT;exact (r.foe b hT).2 h;have:=(r.env.owned b id h).1;have:=(r.foe b hT).1;omega
 have st2:Step e2 e2 w w':=⟨λb hb hr=>⟨hr,zO b hb (hnT b hr)⟩,λ_ h=>h.elim,hsz⟩;have dP:UM e2 w' (s.σ.map (F3 s.m 40)) a.tmps.toList:=
  (UM.map (F3 s.m 40) (λx v hx=>Rep.idf (e:=e.view) (e':=e2) (λ_ h=>h) (LZ r.env r.mem 40 x v hx) (LC r.mem 40 x v hx)) r.slots).step st2
 have hxt0:Xt c e2 [] a.defers w:=⟨⟨λd hd=>by obtain ⟨D,h1,h2,h3,h4,h5⟩:=r.xt.defers.1 d hd;exact ⟨D,h1,.inl h2,h3,h4,h5⟩,r.xt.defers.2⟩,λb o hb=>by obtain ⟨h1,h2,h3⟩:=r.xt.kept b o hb;exact ⟨.inl h1,h2,h3⟩,by
  have:=r.xt.saved.1;rw [hsv] at this;exact ⟨this,λi a v h=>by simp at h⟩,r.xt.size⟩
 have fin: ∀(b:Bool) (g:Option Nat),c.Φ g T' w'->Rel c {σ:=z8 (s.σ.map (F3 s.m 40)) dst (.lit b),m:=[],nx:=0,gh:=g,sv:=[] } (a.put dst (.bool b)) w':=by
  intro b g hg;refine ⟨w',T',e2,hg,⟨λb hb=>⟨rfl,Nat.lt_of_lt_of_le (hlt b hb) hsz⟩,(λb id h=>by cases h),DQ.step (e:=e2) (w:=w) (λb p hp=>⟨.inl (r.env.glob b p hp).1,(r.env.glob b p hp).2⟩) st2⟩,Below.refl _ _,(λp hp=>by cases hp),(λk hk=>hk.elim),λb hb=>⟨(hT' b hb).1,λhr=>?_⟩,by rw [put_defers];exact hxt0.step st2,qZ dP dst (.lit b)⟩
  rcases (hT' b hb).2 with h|h;exact hnT b hr h;have:=hlt b hr;omega
 rcases FL with ⟨rfl,hg⟩|⟨rfl,hg⟩;exact hK _ _ _ (h.1 trivial) (fin true _ hg);exact hK _ _ _ h.2 (fin false _ hg);cases ht
 rename_i g first caps hfe
 rw [hfe] at hf;obtain ⟨us,us',hv,r1,r2⟩:=hf.fn_inv;have DM:UM e w (first++args.toList.map (rho s.σ)++caps) (us++args.toList.map a.eval++us'):=(r1.append ha).append r2
 have FD:Enters P g->(execOp a.eval ⟨dst,.call ⟨.value f,args,argTypes⟩,type,pos,after,guard⟩).run P w= .ok (.enter g (us++args.toList.map a.eval++us').toArray) w:=by
  intro PQ;have e1:(us++args.toList.map a.eval++us').toArray=us.toArray++args.map a.eval++us'.toArray:=Array.ext' (by simp)
  simp only [execOp,resolve,hv,Deferred.ofValue,At,Bv,Au,invoke];rw [e1];exact P3 PQ _ w
 split at ht;rename_i sp hsp;split at ht;rename_i RL;split at ht
 ·rename_i ns res FL;cases ht
  replace h:=U6.sat_needT h
  obtain ⟨PQ,hs⟩:=hX.r _ (mW hsp);have hidf': ∀x∈first++args.toList.map (rho s.σ)++caps,Idf x:=by
   intro x hx;obtain ⟨i,O⟩:=List.mem_iff_getElem?.1 hx;obtain ⟨v,_,rv⟩:=DM.get O;exact yB 6 x v rv (List.all_eq_true.1 RL x hx)
  have RG:=hs _ _ _ FL (GY h.1) e w _ (λb hb=>(r.env.apart b hb).2) r.env.glob hidf' DM;refine D9 (λc h=>by cases h) ?_
  unfold Oper.wp;rw [FD PQ,Oper.upon_enter];refine RG.mono λen w' hq=>?_;obtain ⟨v,rfl,hb,H5⟩:=hq;have st:Step e (e.more w w') w w':=⟨λb hlt hr=>⟨.inl hr,hb.block b hlt⟩,λ_ h=>⟨h,rfl,rfl⟩,hb.size⟩;have hE':GK (e.more w w') w0.heap.size w':=by
   refine ⟨?_,λb k hk=>?_,r.env.glob.step st⟩;rintro b (hr|⟨h1,h2⟩);have:=r.env.apart b hr;have:=hb.size;exact ⟨(r.env.apart b hr).1,by omega⟩
   refine ⟨?_,h2⟩;cases ho:(e.more w w').own b with
   |none=>rfl
   |some k=>have:=(r.env.owned b k ho).2;omega
   have:=r.env.owned b k hk;have:=hb.size;exact ⟨(r.env.owned b k hk).1,by omega⟩
  have st2:Step {BA w w' with ro:=(e.more w w').ro} (e.more w w') w' w':=⟨λb _ h=>⟨h,rfl⟩,λ_ h=>False.elim h,Am _⟩
  exact hK _ _ _ h.2 ⟨w0,T,e.more w w',hΦ,r.next (hb.mono r.hB) st hE' (λb h=>h.imp (λh=>h) (λh=>h.1)) (r.mem.ext hb st (λ_ _ h=>h)) (λk hk=>Nat.lt_succ_of_lt (r.live k hk)) dst (H5.step st2)⟩
 cases ht;cases ht;split at ht;rename_i hs hhs;split at ht;rename_i tr htr;cases ht;obtain ⟨PQ,M6⟩:=hX.h _ (Wx2 hhs);have RG:=M6 _ _ _ _ _ htr _ (U6.sat_bind h) {c with saved:=a.tmps.toList::c.saved} w0 T e a.defers _ w r.env r.below r.mem r.live r.foe ⟨r.xt.defers,r.xt.kept,LM.cons r.slots r.xt.saved,r.xt.size⟩ DM
 refine D9 (λc h=>by cases h) ?_
 unfold Oper.wp;rw [FD PQ,Oper.upon_enter];refine RG.mono λen w' hq=>?_;obtain ⟨v,rr,m',nx',sv',e',rfl,hQ,hE',hB',hm',hl',hT',hx',H5⟩:=hq;obtain ⟨a1,l1,he1,hs1,hs2⟩:=hx'.saved.cons_inv;subst he1;unfold Zb9 at hQ;exact hK _ _ _ hQ ⟨w0,T,e',hΦ,hE',hB',hm',hl',hT',by rw [put_defers];exact ⟨hx'.defers,hx'.kept,hs2,hx'.size⟩,qZ hs1 dst H5⟩
 cases ht;split at ht;rename_i sp hsp;split at ht;rename_i RL;split at ht
 ·rename_i tr htr;cases ht;obtain ⟨PQ,hs⟩:=hX.c _ (MG hsp);have hidf': ∀x∈first++args.toList.map (rho s.σ)++caps,Idf x:=by
   intro x hx;obtain ⟨i,O⟩:=List.mem_iff_getElem?.1 hx;obtain ⟨v,_,rv⟩:=DM.get O;exact yB 6 x v rv (List.all_eq_true.1 RL x hx)
  have RG:=hs _ _ htr _ (U6.sat_bind h) e w _ (λb hb=>(r.env.apart b hb).2) r.env.glob hidf' DM;refine D9 (λc h=>by cases h) ?_
  unfold Oper.wp;rw [FD PQ,Oper.upon_enter];refine RG.mono λen w' hq=>?_;obtain ⟨v,rr,rfl,hQ,hb,H5⟩:=hq;have st:Step e (e.more w w') w w':=⟨λb hlt hr=>⟨.inl hr,hb.block b hlt⟩,λ_ h=>⟨h,rfl,rfl⟩,hb.size⟩;have hE':GK (e.more w w') w0.heap.size w':=by
   refine ⟨?_,λb k hk=>?_,r.env.glob.step st⟩;rintro b (hr|⟨h1,h2⟩);have:=r.env.apart b hr;have:=hb.size;exact ⟨(r.env.apart b hr).1,by omega⟩
   refine ⟨?_,h2⟩;cases ho:(e.more w w').own b with
   |none=>rfl
   |some k=>have:=(r.env.owned b k ho).2;omega
   have:=r.env.owned b k hk;have:=hb.size;exact ⟨(r.env.owned b k hk).1,by omega⟩
  have st2:Step {BA w w' with ro:=(e.more w w').ro} (e.more w w') w' w':=⟨λb _ h=>⟨h,rfl⟩,λ_ h=>False.elim h,Am _⟩
  exact hK _ _ _ hQ ⟨w0,T,e.more w w',hΦ,r.next (hb.mono r.hB) st hE' (λb h=>h.imp (λh=>h) (λh=>h.1)) (r.mem.ext hb st (λ_ _ h=>h)) (λk hk=>Nat.lt_succ_of_lt (r.live k hk)) dst (H5.step st2)⟩
 cases ht;cases ht;cases ht;cases ht;cases ht;cases ht;exact h.elim
end
def E9(o:Oper)(s:St):St:={s with σ:=z8 s.σ o.dst (.tup []) }
theorem OP(e:G8)(w:World):Rep e w (.tup []) undef:=Rep.tupL (UM.nil e w)
theorem iJ{c:Cx}{w0:World}{T:Nat->Prop}{e:G8}{o:Oper}{s:St}{a:Act}{w:World}(r:FT c w0 T e s a w):FT c w0 T e (E9 o s) (a.put o.dst undef) w:=
 ⟨r.env,r.below,r.mem,r.live,r.foe,by rw [put_defers];exact r.xt,qZ r.slots o.dst (OP _ _)⟩
def Xo5(s:St)(t:Nat)(b:Bool):St:={s with σ:=s.σ.set t (.lit b) }
theorem bN{c:Cx}{w0:World}{T:Nat->Prop}{e:G8}{s:St}{a:Act}{w:World}{t:Nat}{b d:Bool}(r:FT c w0 T e s a w)(ht:s.σ.getD t .top= .x (.bool b))(hb:b=d):FT c w0 T e (Xo5 s t d) a w:=by
 refine ⟨r.env,r.below,r.mem,r.live,r.foe,r.xt,?_⟩;have hlt:t<s.σ.length:=by
  rcases An t s.σ.length with h|h;exact h;rw [List.getD,Br h] at ht;cases ht
 obtain ⟨v,hv,rv⟩:=r.slots.get (List.getElem?_eq_getElem hlt);have he:s.σ[t]= .x (.bool b):=by simpa [List.getD,List.getElem?_eq_getElem hlt] using ht
 rw [he] at rv;cases rv.x_inv;have:=r.slots.set (a:= .lit d) (v:= .bool b) (by rw [←hb];exact .lit b) t
 have hset:a.tmps.toList.set t (.bool b)=a.tmps.toList:=by
  apply List.ext_getElem?;intro i;rw [List.getElem?_set];split;rename_i hti;subst hti;split;exact hv.symm;rename_i hnl;rw [Br (by omega)]
  rfl
 rw [hset] at this;exact this
def aQ:Op->Option Nat
 | .pick (.tmp t) _ _=>some t
 |_=>none
def settle(s:St)(t:Option Nat)(g:St->U6 St):U6 St:=
 match t with
 |none=>g s
 |some t=>match s.σ.getD t .top with
  | .x (.bool b)=> .branch b (g (Xo5 s t true)) (g (Xo5 s t false))
  |_=>g s
theorem jB{c:Cx}{w0:World}{T:Nat->Prop}{e:G8}{s:St}{t:Option Nat}{g:St->U6 St}{R:St->Prop}(h:(settle s t g).sat R){a:Act}{w:World}(r:FT c w0 T e s a w): ∃s',FT c w0 T e s' a w/\(g s').sat R/\s'.gh=s.gh:=by
 unfold settle at h;split at h;exact ⟨s,r,h,rfl⟩;split at h;rename_i b hb;cases b;exact ⟨_,bN r hb rfl,h.2 rfl,rfl⟩;exact ⟨_,bN r hb rfl,h.1 rfl,rfl⟩;exact ⟨s,r,h,rfl⟩
def FH(ops:List Oper)(o:Oper):Option Nat:=
 match o.guard with
 |none=>none
 |some (j,_)=>match ops[j]? with
  |some p=>p.dst
  |none=>none
def gE(i sz n:Nat)(f:Ci):Nat->AV->AV
 | 0,a=>match a with
  | .lit b=> .lit b
  | .x v=> .x v
  | .ro l=> .ro l
  | .lst a b c=> .lst a b c
  | .roI a b c d=> .roI a b c d
  |_=> .top
 |d+1,a=>match a with
  | .row k=>match Nat.beq k i with
   |true=> .lst sz n f
   |false=> .row k
  | .ptr k o=>match Nat.beq k i with
   |true=> .top
   |false=> .ptr k o
  | .elt k x y z=>match Nat.beq k i with
   |true=> .top
   |false=> .elt k x y z
  | .mp k=>match Nat.beq k i with
   |true=> .top
   |false=> .mp k
  | .agg l=> .agg (l.map (gE i sz n f d))
  | .tup l=> .tup (l.map (gE i sz n f d))
  | .fn g l l'=> .fn g (l.map (gE i sz n f d)) (l'.map (gE i sz n f d))
  |a=>a
def G8.frz(e:G8)(i:Nat):G8:=
 {ro:=λb=>e.ro b\/e.own b=some i,own:=λb=>match e.own b with|some k=>if k=i then none else some k|none=>none,
  live:=λk=>e.live k/\k≠i,blk:=e.blk,val:=e.val}
theorem k8{k i:Nat}(h:Nat.beq k i=false):k≠i:=by
 intro h2;subst h2;rw [Nat.beq_refl] at h;cases h
theorem iR{e e2:G8}{B:Nat}{w:World}{i T sz n:Nat}{f:Ci}(hE:GK e B w)(hh:H2 e w i (.row T sz n f))(g1: ∀b,e.ro b->e2.ro b)(g2: ∀b,e.own b=some i->e2.ro b):Rep e2 w (.lst sz n f) (e.val i):=by
 obtain ⟨_,HQ,hf,xs,hx,H5⟩:=hh;rcases hx.2 with ⟨hv0,hn0⟩|⟨g,cap,cur,hv0,_,hgg,hnc,hcm,hcs,yC⟩;rw [hv0];subst hn0;exact .lstNil _ _;have hob:e.own g=some i:=HQ g (by rw [hv0];rfl)
 have hlt:=(hE.owned _ _ hob).2;have hv1:=hv0;rw [hv0];refine Rep.lst (e:=e2) (w:=w) sz _ _ g 0 _ (λi j=>xs.getD (i*sz+j) .nilIface) (λ_=>g2 g hob) (λ_=>hlt) (λi O=>(hf i O).2) hnc hcm ?_ (λi O=>(hf i O).1) ?_ _ (λ_=>rfl);intro i j O hj;have hle:i*sz+sz<=n*sz:=by
  have:=Nat.mul_le_mul_right sz (Az O)
  rwa [Bq] at this
 have yE:i*sz+j<xs.length:=by rw [hx.1];omega
 have hc:=hx.cells (g:=g) (by rw [hv1];rfl) (i*sz+j) xs[i*sz+j] (List.getElem?_eq_getElem yE)
 rw [F2] at hc;rw [hc];simp [List.getD,List.getElem?_eq_getElem yE];intro q j a ha' ha;have hj:j<sz:=by rw [←(hf q ha').1];exact (List.getElem?_eq_some_iff.1 ha).1
 have hle:q*sz+sz<=n*sz:=by
  have:=Nat.mul_le_mul_right sz (Az ha')
  rwa [Bq] at this
 have yE:q*sz+j<xs.length:=by rw [hx.1];omega
 have:=H5 q j a xs[q*sz+j] ha' ha (List.getElem?_eq_getElem yE);simp only [List.getD,List.getElem?_eq_getElem yE,Option.getD_some];exact Rep.idf g1 this ((hf q ha').2 a (Ca ha))
theorem Xm4{e:G8}{B:Nat}{w:World}{i T sz n:Nat}{f:Ci}(hE:GK e B w)(hh:H2 e w i (.row T sz n f)):Rep (e.frz i) w (.lst sz n f) (e.val i):=iR hE hh (λ_ h=> .inl h) (λ_ h=> .inr h)
def G8.sol(e:G8)(i:Nat):G8:={e with ro:=λb=>e.ro b\/e.own b=some i,own:=λb=>match e.own b with|some k=>if k=i then none else some k|none=>none}
theorem Step.sol(e:G8)(i:Nat)(w:World):Step e (e.sol i) w w:=⟨λ_ _ h=>⟨.inl h,rfl⟩,λ_ h=>⟨h,rfl,rfl⟩,Am _⟩
theorem GK.sol{e:G8}{B:Nat}{w:World}(h:GK e B w)(i:Nat):GK (e.sol i) B w:=by
 refine ⟨λb hb=>?_,λb k hk=>?_,h.glob.step (Step.sol e i w)⟩;rcases hb with hb|hb;obtain ⟨h1,h2⟩:=h.apart b hb;exact ⟨by simp [G8.sol,h1],h2⟩
 exact ⟨by simp [G8.sol,hb],(h.owned b i hb).2⟩
 simp only [G8.sol] at hk;cases ho:e.own b with
 |none=>rw [ho] at hk;cases hk
 |some j=>exact h.owned b j ho
theorem H2.sol{e:G8}{w:World}{i k:Nat}{r:H9}(hne:k≠i/\DI i r=false)(h:H2 e w k r):H2 (e.sol i) w k r:=by
 obtain ⟨hne,hak⟩:=hne;have st:=Step.sol e i w;cases r with
 |cells T l=>
  obtain ⟨h1,h2,vs,h3,h4⟩:=h;exact ⟨h1,by simp [G8.sol,h2,hne],vs,h3,h4.step st⟩
 |row T sz n f=>
  obtain ⟨h1,h2,hf,xs,h3,h4⟩:=h;refine ⟨h1,λb hb=>?_,hf,xs,h3,λi j a v O ha hv=>(h4 i j a v O ha hv).step st⟩;have:=h2 b hb;simp [G8.sol,this,hne]
 |ints T pre n f=>
  obtain ⟨h1,h2,vs,h3,h4⟩:=h;exact ⟨h1,by simp [G8.sol,h2,hne],vs,h3,h4.step st⟩
 |memo g f=>
  obtain ⟨h1,h2,es,c,h3,h4⟩:=h;exact ⟨h1,by simp [G8.sol,h2,hne],es,c,h3,h4⟩
 |keep T l=>exact P6 st h
 |aka r T sz n f=>
  obtain ⟨h1,h0,o,hor,h2,hf,xs,h3,h4⟩:=h;refine ⟨h1,h0,o,hor,λb hb=>?_,hf,xs,h3,λi j a v O ha hv=>(h4 i j a v O ha hv).step st⟩;have:=h2 b hb;have ho:o≠i:=by
   rcases hor with rfl|rfl;exact hne;rintro rfl;simp [DI] at hak
  simp [G8.sol,this,ho]
theorem d7{e:G8}{B:Nat}{w:World}{i T sz n:Nat}{f:Ci}(hE:GK e B w)(hh:H2 e w i (.row T sz n f)): ∀(d:Nat) (a:AV) (v:Value),Rep e w a v->Rep (e.frz i) w (gE i sz n f d a) v
 | 0,a,v,r=>by
  have hro: ∀b,e.ro b->(e.frz i).ro b:=λ_ h=> .inl h;cases r with
  |lit b=>exact .lit b
  |x v=>exact .x v
  |roI pre n f off b o hr=>exact Rep.idf hro (.roI pre n f off b o hr) (jO (Rep.roI pre n f off b o hr) rfl)
  |ro l vs b o h1 h2 h3 h4 h5 h6=>exact Rep.idf hro (.ro l vs b o h1 h2 h3 h4 h5 h6) (.ro l h3)
  |lstNil sz f=>exact .lstNil sz f
  |lst sz n f b o cap g h1 h2 h3 h4 h5 h6 h7 h8 ad had=>exact Rep.idf hro (.lst sz n f b o cap g h1 h2 h3 h4 h5 h6 h7 h8 ad had) (.lst sz n f h3)
  |_=>exact .top _
 |d+1,a,v,r=>by
  have hro: ∀b,e.ro b->(e.frz i).ro b:=λ_ h=> .inl h;have ih:=d7 hE hh d;cases r with
  |top v=>exact .top v
  |lit b=>exact .lit b
  |x v=>exact .x v
  |roI pre n f off b o hr=>exact Rep.idf hro (.roI pre n f off b o hr) (jO (Rep.roI pre n f off b o hr) rfl)
  |ptr id off hl=>
   simp only [gE];split;exact .top _;rename_i hb;exact .ptr (e:=e.frz i) id off ⟨hl,k8 hb⟩
  |row id a n c hl hv=>
   simp only [gE];split;rename_i hb;have:=Nat.eq_of_beq_eq_true hb;subst this;rw [←hv];exact Xm4 hE hh;rename_i hb;exact .row (e:=e.frz i) id a n c ⟨hl,k8 hb⟩ hv
  |elt id sz x y b n cap hl hv=>
   simp only [gE];split;exact .top _;rename_i hb;exact .elt (e:=e.frz i) id sz x y b n cap ⟨hl,k8 hb⟩ hv
  |mp id hl=>
   simp only [gE];split;exact .top _;rename_i hb;exact .mp (e:=e.frz i) id ⟨hl,k8 hb⟩
  |agg l vs h1 h2=>exact Rep.aggL (UM.map _ ih ⟨h1,h2⟩)
  |tup l vs h1 h2=>exact Rep.tupL (UM.map _ ih ⟨h1,h2⟩)
  |fn f l l' vs vs' h1 h2 h3 h4=>
   have k1:UM e w l vs:=⟨h1,h2⟩;have k2:UM e w l' vs':=⟨h3,h4⟩;exact .fn f _ _ vs vs' (UM.map _ ih k1).1 (UM.map _ ih k1).2 (UM.map _ ih k2).1 (UM.map _ ih k2).2
  |ro l vs b o h1 h2 h3 h4 h5 h6=>exact Rep.idf hro (.ro l vs b o h1 h2 h3 h4 h5 h6) (.ro l h3)
  |mpr g okf vals b es c h1 h2 h3 h4 h5 h6 h7 h8=>exact Rep.idf hro (.mpr g okf vals b es c h1 h2 h3 h4 h5 h6 h7 h8) (.mpr g okf h3)
  |any1 v hv=>exact .any1 v hv
  |lstNil sz f=>exact .lstNil sz f
  |lst sz n f b o cap g h1 h2 h3 h4 h5 h6 h7 h8 ad had=>exact Rep.idf hro (.lst sz n f b o cap g h1 h2 h3 h4 h5 h6 h7 h8 ad had) (.lst sz n f h3)
def Wy3(i sz n:Nat)(f:Ci):HO->HO
 |[]=>[]
 |(k,r)::t=>match Nat.beq k i||DI i r with
  |true=>Wy3 i sz n f t
  |false=>(k,match r with
   | .cells T l=> .cells T (l.map (gE i sz n f 6))
   | .ints T pre m g=> .ints T (pre.map (gE i sz n f 6)) m g
   | .keep T l=> .keep T (l.map (gE i sz n f 6))
   |r=>r)::Wy3 i sz n f t
theorem Qh7{e:G8}{B:Nat}{w:World}{i T sz n:Nat}{f:Ci}(hE:GK e B w)(hh:H2 e w i (.row T sz n f)): ∀{m:HO},GH e m w->GH (e.frz i) (Wy3 i sz n f m) w
 |[],_=>λp hp=>by cases hp
 |(k,r)::t,h=>by
  have ih:=Qh7 hE hh (m:=t) (λp hp=>h p (List.mem_cons_of_mem _ hp));have hk:=h _ List.mem_cons_self;unfold Wy3;split;exact ih;rename_i hb;rw [Bool.or_eq_false_iff] at hb;obtain ⟨hb,hak⟩:=hb;have hne:=k8 hb;intro p hp;rcases List.mem_cons.1 hp with rfl|hp;cases r with
  |aka r T' sz' n' f'=>
   obtain ⟨h1,h0,o,hor,h2,hf,xs,h3,h4⟩:=hk;refine ⟨⟨h1,hne⟩,⟨h0,k8 hak⟩,o,hor,λb hb'=>?_,hf,xs,h3,λi' j a v O ha hv=>Rep.idf (e:=e) (e':=e.frz i) (λ_ h=>Or.inl h) (h4 i' j a v O ha hv) ((hf i' O).2 a (Ca ha))⟩;have:=h2 b hb';have ho:o≠i:=by
    rcases hor with rfl|rfl;exact hne;exact k8 hak
   simp [G8.frz,this,ho]
  |row T' sz' n' f'=>
   obtain ⟨h1,h2,hf,xs,h3,h4⟩:=hk;refine ⟨⟨h1,hne⟩,λb hb'=>?_,hf,xs,h3,λi' j a v O ha hv=>Rep.idf (e:=e) (e':=e.frz i) (λ_ h=>Or.inl h) (h4 i' j a v O ha hv) ((hf i' O).2 a (Ca ha))⟩;have:=h2 b hb';simp [G8.frz,this,hne]
  |cells T' l=>
   obtain ⟨h1,h2,vs,h3,h4⟩:=hk;refine ⟨⟨h1,hne⟩,?_,vs,h3,UM.map _ (d7 hE hh 6) h4⟩;simp only at h2;simp [G8.frz,h2,hne]
  |ints T' pre m g=>
   obtain ⟨h1,h2,vs,h3,h4⟩:=hk;refine ⟨⟨h1,hne⟩,?_,vs,h3,?_⟩;simp only at h2;simp [G8.frz,h2,hne];have:=UM.map _ (d7 hE hh 6) h4;rw [List.map_append] at this;have hL:(DE m g).map (gE i sz n f 6)=DE m g:=by
    unfold DE;rw [List.map_map];rfl
   rw [hL] at this;exact this
  |keep T' l=>
   obtain ⟨h1,h2,h0,vs,h3,h4⟩:=hk;exact ⟨⟨h1,hne⟩,.inl h2,h0,vs,h3,UM.map _ (d7 hE hh 6) h4⟩
  |memo g f'=>
   obtain ⟨h1,h2,es,c,h3,h4⟩:=hk;refine ⟨⟨h1,hne⟩,?_,es,c,h3,h4⟩;simp only at h2;simp [G8.frz,h2,hne]
  exact ih p hp
def Qx9(i:Nat)(s:St):St:=match DY s.m i with
 |some (.row _ sz n f)=>{s with σ:=s.σ.map (gE i sz n f 6),m:=Wy3 i sz n f s.m,sv:=s.sv.map (·.map (gE i sz n f 6)) }
 |_=>s
theorem mY{c:Cx}{w0:World}{F:Nat->Prop}{e:G8}{i:Nat}{s:St}{a:Act}{w:World}(r:FT c w0 F e s a w): ∃e',FT c w0 F e' (Qx9 i s) a w:=by
 unfold Qx9;split;rename_i T sz n f hg;have hh:=r.mem _ (GI hg);have rp:=d7 r.env hh 6;refine ⟨e.frz i,⟨λb hb=>?_,λb k hk=>?_,λb p hp=>⟨.inl (r.env.glob b p hp).1,(r.env.glob b p hp).2⟩⟩,r.below,Qh7 r.env hh r.mem,λk hk=>r.live k hk.1,λb hb=>⟨(r.foe b hb).1,λhr=>?_⟩,⟨⟨λd hd=>?_,r.xt.defers.2⟩,λb o hk=>?_,LM.map _ rp r.xt.saved,r.xt.size⟩,UM.map _ rp r.slots⟩;rcases hb with hb|hb;obtain ⟨h1,h2⟩:=r.env.apart b hb;exact ⟨by simp [G8.frz,h1],h2⟩
 exact ⟨by simp [G8.frz,hb],(r.env.owned b i hb).2⟩
 simp only [G8.frz] at hk;cases ho:e.own b with
 |none=>rw [ho] at hk;cases hk
 |some j=>exact r.env.owned b j ho
 rcases hr with hr|hr;exact (r.foe b hb).2 hr;have:=(r.env.owned b i hr).1;have:=(r.foe b hb).1;omega;obtain ⟨D,g1,g2,g3⟩:=r.xt.defers.1 d hd;exact ⟨D,g1,.inl g2,g3⟩;obtain ⟨g1,g2⟩:=r.xt.kept b o hk;exact ⟨.inl g1,g2⟩;exact ⟨e,r⟩
def jU:List Nat->St->St
 |[],s=>s
 |i::l,s=>jU l (Qx9 i s)
theorem AL{c:Cx}{w0:World}{F:Nat->Prop}{a:Act}{w:World}: ∀(l:List Nat) {e:G8} {s:St},FT c w0 F e s a w-> ∃e',FT c w0 F e' (jU l s) a w
 |[],e,_,r=>⟨e,r⟩
 |i::l,_,_,r=>by
  obtain ⟨e1,r1⟩:=mY (i:=i) r;exact AL l r1
theorem Qk0(i:Nat)(s:St):(Qx9 i s).gh=s.gh:=by unfold Qx9;split<;>rfl
theorem T5: ∀(l:List Nat) (s:St),(jU l s).gh=s.gh
 |[],_=>rfl
 |i::l,s=>by rw [jU,T5 l,Qk0]
def fU:Nat->AV->List Nat
 | 0,_=>[]
 |d+1,a=>match a with
  | .row k=>[k]
  | .agg l=>l.flatMap (fU d)
  | .tup l=>l.flatMap (fU d)
  |_=>[]
section
variable (X:Ext)(o:Oper)(s:St)
def ML:St:=
 match o.op with
 | .buildSlice _ _ parts=>jU (parts.toList.flatMap λp=>fU 3 (rho s.σ p.2)) s
 | .store _ x y=>match rho s.σ x with
  | .elt _ _ _ _=>jU (fU 3 (rho s.σ y)) s
  |_=>s
 | .call c=>match c.callee with
  | .value f=>match rho s.σ f with
   | .fn (.func g) _ _=>match Qa4 X.R g with
    |some _=>jU (c.args.toList.flatMap λx=>fU 3 (rho s.σ x)) s
    |none=>match bY X.C g with
     |some _=>jU (c.args.toList.flatMap λx=>fU 3 (rho s.σ x)) s
     |none=>s
   |_=>s
  |_=>s
 |_=>s
theorem T4: ∃l,ML X o s=jU l s:=by
 unfold ML;split;exact ⟨_,rfl⟩;split;exact ⟨_,rfl⟩;exact ⟨[],rfl⟩;split;split;split;exact ⟨_,rfl⟩;split;exact ⟨_,rfl⟩;exact ⟨[],rfl⟩;exact ⟨[],rfl⟩;exact ⟨[],rfl⟩;exact ⟨[],rfl⟩
end
theorem mZ{X:Ext}{o:Oper}{c:Cx}{w0:World}{F:Nat->Prop}{e:G8}{s:St}{a:Act}{w:World}(r:FT c w0 F e s a w): ∃e',FT c w0 F e' (ML X o s) a w:=by
 obtain ⟨l,hl⟩:=T4 X o s;rw [hl];exact AL l r
theorem Qy0(X:Ext)(o:Oper)(s:St):(ML X o s).gh=s.gh:=by
 obtain ⟨l,hl⟩:=T4 X o s;rw [hl,T5]
def pO(P:Program)(G:List (Nat×Spec))(X:Ext)(o:Oper)(s:St):U6 St:=Wi1 P G X o (ML X o s)
theorem gZ{P:Program}{G:List (Nat×Spec)}{X:Ext}{c:Cx}(hG:U4 P G)(hX:UG P X c){o:Oper}{s:St}{R:St->Prop}(h:(pO P G X o s).sat R){w0:World}{T:Nat->Prop}{e:G8}{a:Act}{w:World}(hΦ:c.Φ s.gh T w0)(r:FT c w0 T e s a w)
  {ro:Option Nat}{n:Nat}{K:Act->World->Prop}{Q:Exit->Act->World->Prop}(hK: ∀s' a' w',R s'->Rel c s' a' w'->K a' w'):o.wpIn (fr ro) n P a w K Q:=by
 obtain ⟨e',r'⟩:=mZ (X:=X) (o:=o) r;exact iQ hG hX h (by rw [Qy0];exact hΦ) r' hK
def jH(P:Program)(G:List (Nat×Spec))(X:Ext)(ops:List Oper)(o:Oper)(s:St):U6 St:=
 match o.guard with
 |none=>settle s (aQ o.op) (pO P G X o)
 |some (_,want)=>settle s (FH ops o) λs=>match (match FH ops o with|some t=>s.σ.getD t .top|none=> .top) with
  | .lit b=>match b==want with
   |true=>settle s (aQ o.op) (pO P G X o)
   |false=> .leaf (E9 o s)
  | .tup _=> .leaf (E9 o s)
  |_=> .fail
section
variable {e:G8}{w:World}{ops:Array Oper}{σ:List AV}{a:Act}{j t:Nat}{p:Oper}
theorem eR{b:Bool}(h:UM e w σ a.tmps.toList)(hp:ops[j]? =some p)(hd:p.dst=some t)(hl:σ.getD t .top= .lit b):yielded ops a.tmps j=some b:=by
 have hr:=RI h (.tmp t);simp only [rho,hl] at hr;have:=hr.lit_inv;simp only [Act.eval] at this;have hg:a.tmps[t]? =some (.bool b):=by
  cases hq:a.tmps[t]? with
  |none=>rw [Array.getD_eq_getD_getElem?,hq] at this;simp [undef] at this
  |some v=>rw [Array.getD_eq_getD_getElem?,hq] at this;simpa using this
 unfold yielded;simp [hp,hd,hg]
theorem eO{l:List AV}(h:UM e w σ a.tmps.toList)(hp:ops[j]? =some p)(hd:p.dst=some t)(hl:σ.getD t .top= .tup l):yielded ops a.tmps j=none:=by
 have hr:=RI h (.tmp t);simp only [rho,hl] at hr;obtain ⟨vs,hv,_⟩:=hr.tup_inv;simp only [Act.eval] at hv;unfold yielded;simp only [hp,hd,Option.bind_some];cases hq:a.tmps[t]? with
 |none=>rfl
 |some v=>
  rw [Array.getD_eq_getD_getElem?,hq] at hv;simp only [Option.getD_some] at hv;subst hv;rfl
end
theorem jG{P:Program}{G:List (Nat×Spec)}{X:Ext}{c:Cx}(hG:U4 P G)(hX:UG P X c){ro:Option Nat}{n:Nat}{ops:Array Oper}{i:Nat}{o:Oper}(ho:ops[i]? =some o){s:St}{R:St->Prop}(h:(jH P G X ops.toList o s).sat R){a:Act}{w:World}(r:Rel c s a w)
  {K:Act->World->Prop}{Q:Exit->Act->World->Prop}(hK: ∀s' a' w',R s'->Rel c s' a' w'->K a' w'):wpOpIn (fr ro) n P ops Q i K a w:=by
 obtain ⟨w0,T,e,hΦ,r⟩:=r;unfold wpOpIn;simp only [ho];unfold jH at h;split at h;rename_i hg;obtain ⟨s1,r1,h1,hg1⟩:=jB h r;rw [if_pos (by simp [Region.wanted,hg])]
 exact gZ hG hX h1 (by rw [hg1];exact hΦ) r1 hK
 rename_i j want hg;obtain ⟨s1,r1,h1,hg1⟩:=jB h r;unfold FH at h1;simp only [hg] at h1;cases hp:ops.toList[j]? with
 |none=>simp only [hp] at h1;exact h1.elim
 |some p=>
  simp only [hp] at h1;cases hd:p.dst with
  |none=>simp only [hd] at h1;exact h1.elim
  |some t=>
   simp only [hd] at h1;split at h1;rename_i b hb;have hy:=eR (ops:=ops) r1.slots (by simpa using hp) hd hb
   split at h1;rename_i hbw;obtain ⟨s2,r2,h2,hg2⟩:=jB h1 r1;have hw:Region.wanted o (yielded ops a.tmps)=true:=by
    simp only [Region.wanted,hg,hy];simpa using hbw
   rw [if_pos hw];exact gZ hG hX h2 (by rw [hg2,hg1];exact hΦ) r2 hK
   rename_i hbw;have hw: ¬Region.wanted o (yielded ops a.tmps)=true:=by
    simp only [Region.wanted,hg,hy];simpa using hbw
   rw [if_neg hw];exact ⟨λ_ _=>trivial,hK _ _ _ h1 ⟨w0,T,e,by rw [show (E9 o s1).gh=s1.gh from rfl,hg1];exact hΦ,iJ r1⟩⟩
   rename_i l hb;have hy:=eO (ops:=ops) r1.slots (by simpa using hp) hd hb
   have hw: ¬Region.wanted o (yielded ops a.tmps)=true:=by
    simp [Region.wanted,hg,hy]
   rw [if_neg hw];exact ⟨λ_ _=>trivial,hK _ _ _ h1 ⟨w0,T,e,by rw [show (E9 o s1).gh=s1.gh from rfl,hg1];exact hΦ,iJ r1⟩⟩
   exact h1.elim
def Wj1(P:Program)(G:List (Nat×Spec))(X:Ext)(ops:List Oper):List Oper->St->U6 St
 |[],s=> .leaf s
 |o::rest,s=>(jH P G X ops o s).bind (Wj1 P G X ops rest)
theorem uL{P:Program}{G:List (Nat×Spec)}{X:Ext}{c:Cx}(hG:U4 P G)(hX:UG P X c){ro:Option Nat}{n:Nat}{ops:Array Oper}{Q:Exit->Act->World->Prop}{R:St->Prop}(hQ: ∀s a w,R s->Rel c s a w->Q .normal a w):
  ∀(l:List Oper) (k:Nat),l=ops.toList.drop k-> ∀(s:St) (a:Act) (w:World),(Wj1 P G X ops.toList l s).sat R->Rel c s a w->wpOpsIn (fr ro) n P ops Q (List.range' k (ops.size-k)) a w
 |[],k,hk,s,a,w,h,r=>by
  have DJ:ops.size-k=0:=by
   have:=congrArg List.length hk;simp at this;omega
  rw [DJ];exact hQ s a w h r
 |o::rest,k,hk,s,a,w,h,r=>by
  have hlt:k<ops.size:=by
   have:=congrArg List.length hk;simp at this;omega
  have hok:ops[k]? =some o:=by
   have:=congrArg (·[0]?) hk;simp at this;exact this.symm
  have SN:rest=ops.toList.drop (k+1):=by
   have:=congrArg List.tail hk;simpa using this
  have e1:ops.size-k=(ops.size-(k+1))+1:=by omega
  rw [e1,List.range'_succ,wpOpsIn_cons];exact jG hG hX hok (U6.sat_bind h) r (λs' a' w' hs' hr'=>uL hG hX hQ rest (k+1) SN s' a' w' hs' hr')
open Go Go.RowKit
def DH(o:Oper):List Nat:=(o.after.toList.filter (Region.binds .any)).map (·.on)
def bI(acc:List Nat)(o:Oper):Nat:=(DH o).foldl (λs j=>s ||| (1 <<< j) ||| acc.getD j 0) 0
def HY:List Oper->List Nat->List Nat
 |[],acc=>acc
 |o::os,acc=>HY os (acc++[bI acc o])
theorem rD: ∀(os:List Oper) (acc:List Nat) (k:Nat),k<acc.length->(HY os acc).getD k 0=acc.getD k 0
 |[],_,_,_=>rfl
 |o::os,acc,k,h=>by
  rw [HY,rD os _ k (by simp;omega)]
  simp [List.getD,Ce,h]
theorem lN: ∀(os:List Oper) (acc:List Nat) (i:Nat) (o:Oper),os[i]? =some o-> ∃acc',(HY os acc).getD (acc.length+i) 0=bI acc' o/\acc'.length=acc.length+i/\ ∀j,j<acc.length+i->acc'.getD j 0=(HY os acc).getD j 0
 |[],_,_,_,h=>by simp at h
 |o'::os,acc,0,o,h=>by
  simp at h;subst h;refine ⟨acc,?_,UE,λj hj=>?_⟩;rw [HY,rD os _ _ UE];simp [List.getD];rw [HY,rD os _ j (by simp;omega)]
  simp only [Bg] at hj;simp [List.getD,Ce,hj]
 |o'::os,acc,i+1,o,h=>by
  simp at h;obtain ⟨acc',h1,h2,h3⟩:=lN os (acc++[bI acc o']) i o h;have e1:(acc++[bI acc o']).length+i=acc.length+(i+1):=by simp;omega
  rw [e1] at h1 h2 h3;exact ⟨acc',h1,h2,h3⟩
theorem nB{A:Ch}: ∀(l:List Nat) (s i:Nat),(l.foldl (λs j=>s ||| (1 <<< j) ||| A j) s).testBit i=true->s.testBit i=true\/ ∃j∈l,i=j\/(A j).testBit i=true
 |[],s,i,h=> .inl h
 |j::l,s,i,h=>by
  rcases nB l _ i h with h|⟨j',hj',h⟩;rw [Nat.testBit_or,Nat.testBit_or,Bl,Bl] at h;rcases h with (h|h)|h;exact .inl h;refine .inr ⟨j,H0,.inl ?_⟩;rw [Nat.one_shiftLeft,Nat.testBit_two_pow] at h;exact (BI h).symm;exact .inr ⟨j,H0,.inr h⟩;exact .inr ⟨j',DB _ hj',h⟩
def inS(L:Array Bool)(k:Nat):Prop:=L.getD k false=true
def DC(ops:List Oper)(L:Array Bool):Prop:= ∀k o,ops[k]? =some o->inS L k-> ∀j∈DH o,inS L j
theorem x8{ops:List Oper}{L:Array Bool}(hd:DC ops L): ∀(k:Nat) (o:Oper),ops[k]? =some o->(∀j∈DH o,inS L j)-> ∀i,((HY ops []).getD k 0).testBit i=true->inS L i:=by
 intro k
 induction k using Nat.strongRecOn with
 |_ k ih=>
  intro o ho DM i O;obtain ⟨acc',h1,h2,h3⟩:=lN ops [] k o ho;simp only [List.length_nil,Ap] at h1 h2 h3;rw [h1] at O;rcases nB _ _ _ O with h|⟨j,hj,h⟩;simp at h;rcases h with rfl|h;exact DM _ hj;have hjk:j<k:=by
   rcases An j k with h'|h';exact h';rw [List.getD,Br U3] at h;simp at h
  rw [h3 j hjk] at h;have hlt:j<ops.length:=by have:=(RO.1 ho).1;omega
  exact ih j hjk ops[j] (DP hlt) (hd j _ (DP hlt) (DM j hj)) i h
def U6.det{α:Type}:U6 α->U6 α
 | .may _ _ _=> .fail
 | .branch b t f=> .branch b t.det f.det
 | .need ps t=> .need ps t.det
 | .leaf a=> .leaf a
 | .fail=> .fail
theorem U6.det_sat{α:Type}{R:α->Prop}: ∀{t:U6 α},t.det.sat R-> ∃r,t.sat (λx=>x=r)/\R r
 | .fail,h=>h.elim
 | .leaf a,h=>⟨a,rfl,h⟩
 | .branch true t f,h=>by
  obtain ⟨r,h1,h2⟩:=U6.det_sat (t:=t) (h.1 rfl);exact ⟨r,⟨λ_=>h1,λe=>by cases e⟩,h2⟩
 | .branch false t f,h=>by
  obtain ⟨r,h1,h2⟩:=U6.det_sat (t:=f) (h.2 rfl);exact ⟨r,⟨λe=>(by cases e),λ_=>h1⟩,h2⟩
 | .need ps t,h=>by
  obtain ⟨r,h1,h2⟩:=U6.det_sat (t:=t) h.2;exact ⟨r,⟨h.1,h1⟩,h2⟩
 | .may _ _ _,h=>h.elim
def nM(X:Ext)(id:Nat)(ρ:Operand->AV)(op:Op):Option (U6 (AV×Option H9)):=
 match op with
 | .call c=>match c.callee with
  | .value f=>match ρ f with
   | .fn (.func g) first caps=>match (first++c.args.toList.map ρ++caps).all (C6 6) with
    |true=>match bY X.C g with
     |some sp=>match sp (first++c.args.toList.map ρ++caps) with
      |some t=>some (t.bind λr=> .leaf (r,none))
      |none=>none
     |none=>match Wx5 X.F g with
      |some sp=>match sp (first++c.args.toList.map ρ++caps) with
       |some (ns,T,sz,n,l)=>some (.needT ns (.leaf (.row id,some (.row T sz n l))))
       |none=>none
      |none=>none
    |false=>none
   |_=>none
  |_=>none
 |_=>none
def Ql3(X:Ext)(m:HO)(ρ:Operand->AV)(op:Op):Option (U6 (AV×Option H9)):=
 match op with
 | .call c=>match c.callee with
  | .value f=>match ρ f with
   | .fn (.func g) first caps=>match bY X.D g with
    |some sp=>match sp ((first++c.args.toList.map ρ++caps).map (F3 m 40)) with
     |some t=>some (t.bind λr=> .leaf (r,none))
     |none=>none
    |none=>none
   |_=>none
  |_=>none
 |_=>none
def Ql2(X:Ext)(id:Nat)(m:HO)(ρ:Operand->AV)(op:Op):Option (U6 (AV×Option H9)):=
 match Ql3 X m ρ op with
 |some t=>some t
 |none=>nM X id ρ op
structure DD where
 val:AV
 add:Option H9
 upd:Option (Nat×H9)
 eat:Option Nat
def F5:DD:=⟨.top,none,none,none⟩
def yV:DD:=⟨.tup [],none,none,none⟩
def iK(want:Bool):AV->Bool
 | .lit b=>b != want
 | .tup _=>true
 |_=>false
def SC(M:List Nat)(mm i j:Nat):Bool:=Nat.testBit (M.getD i 0) j&&Nat.blt j mm&&(List.range mm).all λk=>Nat.beq k i|| !Nat.testBit (M.getD k 0) j
theorem BO{M:List Nat}{mm i j:Nat}(h:SC M mm i j=true):(M.getD i 0).testBit j=true/\j<mm/\ ∀k,k<mm->k≠i->(M.getD k 0).testBit j=false:=by
 simp only [SC,HV] at h;obtain ⟨⟨h1,h2⟩,h3⟩:=h;refine ⟨h1,by rw [Aw] at h2;exact h2,λk hk hne=>?_⟩
 have:=BU.1 h3 k (List.mem_range.2 hk);simp only [Bl,Ax] at this;rcases this with h|h;exact absurd (HK h) hne;exact h
def Qy6(M:List Nat)(mm i j:Nat):Bool:=Nat.testBit (M.getD i 0) j&&Nat.blt j mm&&(List.range mm).all λk=>Nat.beq k i|| !Nat.testBit (M.getD k 0) j||(Nat.testBit (M.getD k 0) i&&Nat.blt i k)
theorem Qy5{M:List Nat}{mm i j:Nat}(h:Qy6 M mm i j=true):(M.getD i 0).testBit j=true/\j<mm/\ ∀k,k<mm->k≠i->(M.getD k 0).testBit j=true->(M.getD k 0).testBit i=true/\i<k:=by
 simp only [Qy6,HV] at h;obtain ⟨⟨h1,h2⟩,h3⟩:=h;refine ⟨h1,by rw [Aw] at h2;exact h2,λk hk hne hb=>?_⟩
 have:=BU.1 h3 k (List.mem_range.2 hk);rw [hb] at this;simp only [Bl,Bool.not_true,HV,Bw,or_false] at this;rcases this with h|h;exact absurd (HK h) hne;exact ⟨h.1,by have:=h.2;rwa [Aw] at this⟩
def rT(mask j:Nat):List DD->Nat->Bool
 |[],_=>false
 |c::t,k=>(match c.eat with
  |some q=>Nat.beq q j&&Nat.testBit mask k
  |none=>false)||rT mask j t (k+1)
theorem AO{mask j:Nat}: ∀{l:List DD} {k0 i:Nat} {c:DD},l[i]? =some c->c.eat=some j->mask.testBit (k0+i)=true->rT mask j l k0=true
 |[],_,_,_,h,_,_=>by simp at h
 |c0::t,k0,i,c,h,he,hb=>by
  unfold rT;cases i with
  |zero=>simp at h;subst h;rw [he];simp at hb;simp [hb]
  |succ i=>
   have:=AO (mask:=mask) (j:=j) (l:=t) (k0:=k0+1) (i:=i) (by simpa using h) he (by rw [show k0+1+i=k0+(i+1) by omega];exact hb)
   rw [this];simp
def LH:List (Nat×Bool)->Nat->Option Bool
 |[],_=>none
 |(k,d)::t,i=>match Nat.beq k i with
  |true=>some d
  |false=>LH t i
def Qy7(dec:List (Nat×Bool))(k:Nat)(v:AV):AV:=match LH dec k with
 |some d=> .lit d
 |none=>v
def F6(t:Nat):List Oper->Nat->Option Nat
 |[],_=>none
 |o::os,i=>match o.dst with
  |some d=>match Nat.beq d t with
   |true=>some i
   |false=>F6 t os (i+1)
  |none=>F6 t os (i+1)
theorem L2{t:Nat}: ∀{ops:List Oper} {i k:Nat},F6 t ops i=some k->i<=k/\ ∃o,ops[k-i]? =some o/\o.dst=some t
 |[],_,_,h=>by simp [F6] at h
 |o::os,i,k,h=>by
  unfold F6 at h;split at h;rename_i d hd;split at h;rename_i hb;cases h;have:d=t:=HK hb;exact ⟨Am _,o,UE,by rw [hd,this]⟩
  obtain ⟨h1,o',h2,h3⟩:=L2 h;refine ⟨U3,o',?_,h3⟩;rw [show k-i=(k-(i+1))+1 by omega];simpa using h2
  obtain ⟨h1,o',h2,h3⟩:=L2 h;refine ⟨U3,o',?_,h3⟩;rw [show k-i=(k-(i+1))+1 by omega];simpa using h2
def A7(n:Nat)(ops:List Oper):List Oper->Nat->Bool
 |[],_=>true
 |o::os,i=>(match o.dst with
  |some d=>(match F6 d ops 0 with|some k=>Nat.beq k i&&Nat.blt d n|none=>false)
  |none=>true)&&(DH o).all (λj=>Nat.blt j i)&&A7 n ops os (i+1)
theorem B2{n:Nat}{ops:List Oper}: ∀{os:List Oper} {i:Nat},A7 n ops os i=true-> ∀k o,os[k]? =some o->(∀d,o.dst=some d->F6 d ops 0=some (i+k)/\d<n)/\ ∀j∈DH o,j<i+k
 |[],_,_,k,o,h=>by simp at h
 |o'::os,i,hw,0,o,h=>by
  simp at h;subst h;simp only [A7,HV] at hw;obtain ⟨⟨h1,h2⟩,_⟩:=hw;refine ⟨λd hd=>?_,λj hj=>?_⟩;rw [hd] at h1;simp only at h1;split at h1;rename_i k hk;simp only [HV] at h1;exact ⟨by rw [hk,HK h1.1];rfl,by simpa [Aw] using h1.2⟩
  cases h1;have:=BU.1 h2 j hj;simpa [Aw] using this
 |o'::os,i,hw,k+1,o,h=>by
  simp at h;simp only [A7,HV] at hw;have:=B2 hw.2 k o h;rw [show i+(k+1)=i+1+k by omega]
  exact this
section
variable (P:Program)(G:List (Nat×Spec))(X:Ext)(ops:List Oper)(M:List Nat)(σ0:List AV)(m0:HO)(nx0 mm:Nat)
section
variable (W:List DD)(dec:List (Nat×Bool))(i:Nat)
def PE:Operand->AV
 | .tmp t=>match F6 t ops 0 with
  |none=>σ0.getD t .top
  |some k=>match Nat.testBit (M.getD i 0) k with
   |true=>Qy7 dec k (W.getD k F5).val
   |false=>match Nat.beq k i||Nat.testBit (M.getD k 0) i with
    |true=>σ0.getD t .top
    |false=> .top
 |x=>rho [] x
def RN(mask:Nat)(all:List DD):List DD->Nat->HO
 |[],_=>[]
 |o::os,j=>match Nat.testBit mask j with
  |true=>match o.add with
   |some r=>match rT mask j all 0 with
    |true=>RN mask all os (j+1)
    |false=>(nx0+j,r)::RN mask all os (j+1)
   |none=>RN mask all os (j+1)
  |false=>RN mask all os (j+1)
abbrev DT:=List DD×List (Nat×Bool)
def gW(t:Option Nat)(g:List (Nat×Bool)->U6 DT):U6 DT:=
 match t with
 |none=>g dec
 |some t=>match F6 t ops 0 with
  |some k=>match LH dec k with
   |some _=>g dec
   |none=>match Nat.testBit (M.getD i 0) k with
    |true=>match (W.getD k F5).val with
     | .x (.bool b)=> .branch b (g ((k,true)::dec)) (g ((k,false)::dec))
     |_=>g dec
    |false=>g dec
  |none=>g dec
end
section
variable (o:Oper)(i:Nat)(W:List DD)(dec:List (Nat×Bool))
def aA:Option (List Prop×Nat×H9):=
 match o.op with
 | .store t x y=>match PE ops M σ0 W dec i x with
  | .ptr id off=>match Nat.ble nx0 id&&SC M mm i (id-nx0) with
   |true=>match jI P (RN nx0 (M.getD i 0) W W 0++m0) t (.ptr id off) (PE ops M σ0 W dec i y) with
    |some (ns,m')=>match DY m' id with
     |some r=>some (ns,id-nx0,r)
     |none=>none
    |none=>none
   |false=>none
  |_=>none
 |_=>none
def Wa5:Option (List Prop×AV×H9×Option Nat):=
 match o.op with
 | .call c=>match c.callee,c.args.toList,c.argTypes.toList with
  | .builtin .append,[s,x],[t,t']=>match Nat.beq t t' with
   |true=>match PE ops M σ0 W dec i s with
    | .row id=>match Nat.ble nx0 id&&Qy6 M mm i (id-nx0) with
     |true=>match RR P (nx0+i) (RN nx0 (M.getD i 0) W W 0++m0) t (.row id) (PE ops M σ0 W dec i x) with
      |some (ns,val,(_,r)::_)=>some (ns,val,r,some (id-nx0))
      |_=>none
     |false=>none
    | .x v=>match RR P (nx0+i) (RN nx0 (M.getD i 0) W W 0++m0) t (.x v) (PE ops M σ0 W dec i x) with
     |some (ns,val,(_,r)::_)=>some (ns,val,r,none)
     |_=>none
    |_=>none
   |false=>none
  |_,_,_=>none
 |_=>none
def Xu7:Option (List Prop×AV×H9):=
 match o.op with
 | .call c=>match c.callee,c.args.toList,c.argTypes.toList with
  | .builtin .append,[s,x],[t,t']=>match Nat.beq t t' with
   |true=>match PE ops M σ0 W dec i s with
    | .row id=>match Nat.blt id nx0 with
     |true=>match v8 P (nx0+i) (RN nx0 (M.getD i 0) W W 0++m0) t id (PE ops M σ0 W dec i x) with
      |some (ns,r)=>some (ns,.row (nx0+i),r)
      |none=>none
     |false=>none
    |_=>none
   |false=>none
  |_,_,_=>none
 |_=>none
end
def Xc7(X:Ext)(d:Nat):List Oper->Bool
 |[]=>false
 |o::os=>(match o.op with
  | .call c=>match c.callee with
   | .value (.func g)=>match bY X.C g with
    |some _=>c.args.toList.any λx=>match x with
     | .tmp t=>Nat.beq t d
     |_=>false
    |none=>false
   |_=>false
  |_=>false)||Xc7 X d os
def Xu6(X:Ext)(o:Oper)(i:Nat)(W:List DD)(dec:List (Nat×Bool)):Option (List Prop×AV×Option Nat):=
 match o.dst with
 |some d=>match Xc7 X d ops with
  |true=>match Wa5 P ops M σ0 m0 nx0 mm o i W dec with
   |some (ns,_,.row _ sz n f,eat)=>some (ns,.lst sz n f,eat)
   |_=>none
  |false=>none
 |none=>none
def Xm2(o:Oper)(i:Nat)(W:List DD)(dec:List (Nat×Bool))(next:List DD->List (Nat×Bool)->U6 DT):U6 DT:=
 match aop P G (nx0+i) (RN nx0 (M.getD i 0) W W 0++m0) (PE ops M σ0 W dec i) o.op with
 |some (ns,val,add)=> .needT ns (next (W++[⟨val,add,none,none⟩]) dec)
 |none=>match aA P ops M σ0 m0 nx0 mm o i W dec with
  |some (ns,j,r)=> .needT ns (next (W++[⟨.top,none,some (j,r),none⟩]) dec)
  |none=>match Xu6 P ops M σ0 m0 nx0 mm X o i W dec with
   |some (ns,val,eat)=> .needT ns (next (W++[⟨val,none,none,eat⟩]) dec)
   |none=>match Wa5 P ops M σ0 m0 nx0 mm o i W dec with
    |some (ns,val,r,eat)=> .needT ns (next (W++[⟨val,some r,none,eat⟩]) dec)
    |none=>match Ql2 X (nx0+i) (RN nx0 (M.getD i 0) W W 0++m0) (PE ops M σ0 W dec i) o.op with
     |some t=>t.det.bind λr=>next (W++[⟨r.1,r.2,none,none⟩]) dec
     |none=>match Xu7 P ops M σ0 m0 nx0 o i W dec with
      |some (ns,val,r)=> .needT ns (next (W++[⟨val,some r,none,none⟩]) dec)
      |none=> .fail
def kH:List Oper->Nat->List DD->List (Nat×Bool)->U6 DT
 |[],_,W,dec=> .leaf (W,dec)
 |o::rest,i,W,dec=>match o.guard with
  |none=>gW ops M W dec i (aQ o.op) λdec=>Xm2 P G X ops M σ0 m0 nx0 mm o i W dec (kH rest (i+1))
  |some (_,want)=>gW ops M W dec i (FH ops o) λdec=>match (match FH ops o with|some t=>PE ops M σ0 W dec i (.tmp t)|none=> .top) with
   | .lit b=>match b==want with
    |true=>gW ops M W dec i (aQ o.op) λdec=>Xm2 P G X ops M σ0 m0 nx0 mm o i W dec (kH rest (i+1))
    |false=>kH rest (i+1) (W++[yV]) dec
   | .tup _=>kH rest (i+1) (W++[yV]) dec
   |_=> .fail
section
variable (W:List DD)(dec:List (Nat×Bool))
def Qo9(i:Nat)(o:Oper):Prop:=
 ∃dec',(∀k d,LH dec' k=some d->LH dec k=some d)/\
  ((((∃ns,aop P G (nx0+i) (RN nx0 (M.getD i 0) (W.take i) (W.take i) 0++m0) (PE ops M σ0 (W.take i) dec' i) o.op=some (ns,(W.getD i F5).val,(W.getD i F5).add)/\(W.getD i F5).upd=none/\(W.getD i F5).eat=none/\ ∀p∈ns,p)\/
    (∃ns j r,aA P ops M σ0 m0 nx0 mm o i (W.take i) dec'=some (ns,j,r)/\W.getD i F5=⟨.top,none,some (j,r),none⟩/\ ∀p∈ns,p)\/
    (∃ns val r eat,Wa5 P ops M σ0 m0 nx0 mm o i (W.take i) dec'=some (ns,val,r,eat)/\W.getD i F5=⟨val,some r,none,eat⟩/\ ∀p∈ns,p)\/
    (∃t val,Ql2 X (nx0+i) (RN nx0 (M.getD i 0) (W.take i) (W.take i) 0++m0) (PE ops M σ0 (W.take i) dec' i) o.op=some t/\W.getD i F5=⟨val.1,val.2,none,none⟩/\t.sat (λr=>r=val))\/
    (∃ns val eat,Xu6 P ops M σ0 m0 nx0 mm X o i (W.take i) dec'=some (ns,val,eat)/\W.getD i F5=⟨val,none,none,eat⟩/\ ∀p∈ns,p)\/
    (∃ns val r,Xu7 P ops M σ0 m0 nx0 o i (W.take i) dec'=some (ns,val,r)/\W.getD i F5=⟨val,some r,none,none⟩/\ ∀p∈ns,p))/\
    (o.guard=none\/ ∃j want t,o.guard=some (j,want)/\FH ops o=some t/\PE ops M σ0 (W.take i) dec' i (.tmp t)= .lit want))\/
   (W.getD i F5=yV/\ ∃j want t,o.guard=some (j,want)/\FH ops o=some t/\iK want (PE ops M σ0 (W.take i) dec' i (.tmp t))=true))
def Xj8:Prop:= ∀k d,LH dec k=some d->k<W.length/\(W.getD k F5).val= .x (.bool d)
def PO:Prop:=Xj8 W dec/\ ∀i o,i<W.length->ops[i]? =some o->Qo9 P G X ops M σ0 m0 nx0 mm W dec i o
end
end
section
variable {P:Program}{G:List (Nat×Spec)}{X:Ext}{ops:List Oper}{M:List Nat}{σ0:List AV}{m0:HO}{nx0 mm:Nat}
theorem uW{k:Nat}{d:Bool}{dec:List (Nat×Bool)}(hno:LH dec k=none): ∀i b,LH dec i=some b->LH ((k,d)::dec) i=some b:=by
 intro i b h;unfold LH;split;rename_i hb;have:k=i:=HK hb;subst this;rw [hno] at h;cases h;exact h
theorem PO.more{W:List DD}{dec dec2:List (Nat×Bool)}(h:PO P G X ops M σ0 m0 nx0 mm W dec)(hd:Xj8 W dec2)(hs: ∀i b,LH dec i=some b->LH dec2 i=some b):PO P G X ops M σ0 m0 nx0 mm W dec2:=
 ⟨hd,λi o O ho=>let ⟨dec',h1,h2⟩:=h.2 i o O ho;⟨dec',λk d hk=>hs k d (h1 k d hk),h2⟩⟩
theorem xO{W:List DD}{dec:List (Nat×Bool)}{i:Nat}{t:Option Nat}{g:List (Nat×Bool)->U6 DT}{R:DT->Prop}(h:(gW ops M W dec i t g).sat R)(ha:PO P G X ops M σ0 m0 nx0 mm W dec):
  ∃dec2,PO P G X ops M σ0 m0 nx0 mm W dec2/\(g dec2).sat R/\ ∀i b,LH dec i=some b->LH dec2 i=some b:=by
 unfold gW at h;split at h;exact ⟨dec,ha,h,λ_ _ h=>h⟩;split at h;rename_i k hk;split at h;exact ⟨dec,ha,h,λ_ _ h=>h⟩;rename_i hno;split at h;split at h;rename_i b hb;have hlt:k<W.length:=by
  rcases An k W.length with h'|h';exact h';rw [List.getD,Br h'] at hb;simp [F5] at hb
 have key: ∀d,b=d->PO P G X ops M σ0 m0 nx0 mm W ((k,d)::dec):=by
  intro d hd;refine ha.more ?_ (uW hno);intro i b' hl;unfold LH at hl;split at hl;rename_i hki;have:k=i:=HK hki;subst this;cases hl;exact ⟨hlt,by rw [hb,hd]⟩
  exact ha.1 i b' hl
 cases b;exact ⟨_,key false rfl,h.2 rfl,uW hno⟩;exact ⟨_,key true rfl,h.1 rfl,uW hno⟩;exact ⟨dec,ha,h,λ_ _ h=>h⟩;exact ⟨dec,ha,h,λ_ _ h=>h⟩;exact ⟨dec,ha,h,λ_ _ h=>h⟩
theorem Wi8{W:List DD}{dec2 dec3:List (Nat×Bool)}{i t:Nat}{b:Bool}(Zv2: ∀i b,LH dec2 i=some b->LH dec3 i=some b)(hd:Xj8 W dec3)(h:PE ops M σ0 W dec2 i (.tmp t)= .lit b):PE ops M σ0 W dec3 i (.tmp t)= .lit b:=by
 simp only [PE] at h ⊢;split;rename_i hw;rw [hw] at h;exact h;rename_i k hw;rw [hw] at h;simp only at h;split;rename_i hb;rw [hb] at h;simp only [Qy7] at h ⊢;cases h2:LH dec2 k with
 |some d=>rw [h2] at h;rw [Zv2 _ _ h2];exact h
 |none=>
  rw [h2] at h;simp only at h;cases h3:LH dec3 k with
  |none=>exact h
  |some d=>have:=(hd k d h3).2;rw [this] at h;cases h
 rename_i hb;rw [hb] at h;exact h
theorem PO.push{W:List DD}{dec:List (Nat×Bool)}{o:Oper}{c:DD}(h:PO P G X ops M σ0 m0 nx0 mm W dec)(ho:ops[W.length]? =some o)(hr:Qo9 P G X ops M σ0 m0 nx0 mm (W++[c]) dec W.length o):
  PO P G X ops M σ0 m0 nx0 mm (W++[c]) dec:=by
 have Qw8: ∀i,i<W.length->(W++[c]).getD i F5=W.getD i F5:=λi O=>by simp [List.getD,Ce,O]
 refine ⟨λk d hk=>?_,λi o' O ho'=>?_⟩;obtain ⟨h1,h2⟩:=h.1 k d hk;exact ⟨by simp;omega,by rw [Qw8 k h1];exact h2⟩
 by_cases hlt:i<W.length;obtain ⟨dec',h1,h2⟩:=h.2 i o' hlt ho';refine ⟨dec',h1,?_⟩;have ht:(W++[c]).take i=W.take i:=by rw [List.take_append_of_le_length U3]
 rw [ht,Qw8 i hlt];exact h2;have:i=W.length:=by simp at O;omega
 subst this;rw [ho] at ho';cases ho';exact hr
theorem xF{R:DT->Prop}: ∀(rest:List Oper) (W:List DD) (dec:List (Nat×Bool)) (hh:List Oper),ops=hh++rest++(ops.drop (hh.length+rest.length))->hh.length=W.length->(kH P G X ops M σ0 m0 nx0 mm rest W.length W dec).sat R->
  PO P G X ops M σ0 m0 nx0 mm W dec-> ∃outs' dec',R (outs',dec')/\PO P G X ops M σ0 m0 nx0 mm outs' dec'/\outs'.length=W.length+rest.length
 |[],W,dec,hh,_,_,h,ha=>⟨W,dec,h,ha,UE⟩
 |o::rest,W,dec,hh,MC,DJ,h,ha=>by
  have ho:ops[W.length]? =some o:=by
   rw [MC,List.append_assoc,←DJ];simp
  have hops':ops=(hh++[o])++rest++(ops.drop ((hh++[o]).length+rest.length)):=by
   have e1:(hh++[o]).length+rest.length=hh.length+(o::rest).length:=by simp;omega
   rw [e1];simpa using MC
  have run: ∀dec2,PO P G X ops M σ0 m0 nx0 mm W dec2->(Xm2 P G X ops M σ0 m0 nx0 mm o W.length W dec2 (kH P G X ops M σ0 m0 nx0 mm rest (W.length+1))).sat R->
    (o.guard=none\/ ∃j want t,o.guard=some (j,want)/\FH ops o=some t/\PE ops M σ0 W dec2 W.length (.tmp t)= .lit want)->
    ∃outs' dec',R (outs',dec')/\PO P G X ops M σ0 m0 nx0 mm outs' dec'/\outs'.length=W.length+(o::rest).length:=by
   intro dec2 ha2 h2 hg;unfold Xm2 at h2;have fin: ∀c:DD,Qo9 P G X ops M σ0 m0 nx0 mm (W++[c]) dec2 W.length o->(kH P G X ops M σ0 m0 nx0 mm rest (W.length+1) (W++[c]) dec2).sat R->
     ∃outs' dec',R (outs',dec')/\PO P G X ops M σ0 m0 nx0 mm outs' dec'/\outs'.length=W.length+(o::rest).length:=by
    intro c vQ h3;have DM:=ha2.push ho vQ;have hl:(W++[c]).length=W.length+1:=UE;rw [←hl] at h3;obtain ⟨outs',dec',r1,r2,r3⟩:=xF rest _ dec2 (hh++[o]) hops' (by simp [DJ]) h3 DM
    exact ⟨outs',dec',r1,r2,by rw [r3];simp;omega⟩
   split at h2;rename_i ns val add Xr4
   replace h2:=U6.sat_needT h2
   refine fin ⟨val,add,none,none⟩ ⟨dec2,λ_ _ h=>h,.inl ⟨.inl ⟨ns,?_,?_,?_,GY h2.1⟩,?_⟩⟩ h2.2;simpa [List.getD] using Xr4;simp [List.getD];simp [List.getD];simpa using hg;split at h2;rename_i ns j r hst
   replace h2:=U6.sat_needT h2
   refine fin ⟨.top,none,some (j,r),none⟩ ⟨dec2,λ_ _ h=>h,.inl ⟨.inr (.inl ⟨ns,j,r,?_,?_,GY h2.1⟩),?_⟩⟩ h2.2;simpa using hst;simp [List.getD];simpa using hg;split at h2;rename_i ns val eat hap
   replace h2:=U6.sat_needT h2
   refine fin ⟨val,none,none,eat⟩ ⟨dec2,λ_ _ h=>h,.inl ⟨.inr (.inr (.inr (.inr (.inl ⟨ns,val,eat,?_,?_,GY h2.1⟩)))),?_⟩⟩ h2.2;simpa using hap;simp [List.getD];simpa using hg;split at h2;rename_i ns val r eat hap
   replace h2:=U6.sat_needT h2
   refine fin ⟨val,some r,none,eat⟩ ⟨dec2,λ_ _ h=>h,.inl ⟨.inr (.inr (.inl ⟨ns,val,r,eat,?_,?_,GY h2.1⟩)),?_⟩⟩ h2.2;simpa using hap;simp [List.getD];simpa using hg;split at h2;rename_i t hcd;obtain ⟨val,h3,h4⟩:=U6.det_sat (U6.sat_bind h2);refine fin ⟨val.1,val.2,none,none⟩ ⟨dec2,λ_ _ h=>h,.inl ⟨.inr (.inr (.inr (.inl ⟨t,val,?_,?_,h3⟩))),?_⟩⟩ h4;simpa using hcd;simp [List.getD];simpa using hg;split at h2;rename_i ns val r hap
   replace h2:=U6.sat_needT h2
   refine fin ⟨val,some r,none,none⟩ ⟨dec2,λ_ _ h=>h,.inl ⟨.inr (.inr (.inr (.inr (.inr ⟨ns,val,r,?_,?_,GY h2.1⟩)))),?_⟩⟩ h2.2;simpa using hap;simp [List.getD];simpa using hg;exact h2.elim
  have skip: ∀{dec2:List (Nat×Bool)} {j:Nat} {want:Bool} {t:Nat},PO P G X ops M σ0 m0 nx0 mm W dec2->(kH P G X ops M σ0 m0 nx0 mm rest (W.length+1) (W++[yV]) dec2).sat R->o.guard=some (j,want)->FH ops o=some t->
    iK want (PE ops M σ0 W dec2 W.length (.tmp t))=true-> ∃outs' dec',R (outs',dec')/\PO P G X ops M σ0 m0 nx0 mm outs' dec'/\outs'.length=W.length+(o::rest).length:=by
   intro dec2 j want t ha2 h2 hg hs hb;have vQ:Qo9 P G X ops M σ0 m0 nx0 mm (W++[yV]) dec2 W.length o:=by
    refine ⟨dec2,λ_ _ h=>h,.inr ⟨by simp [List.getD],j,want,t,hg,hs,?_⟩⟩
    simpa using hb
   have DM:=ha2.push ho vQ;have hl:(W++[yV]).length=W.length+1:=UE;rw [←hl] at h2;obtain ⟨outs',dec',r1,r2,r3⟩:=xF rest _ dec2 (hh++[o]) hops' (by simp [DJ]) h2 DM
   exact ⟨outs',dec',r1,r2,by rw [r3];simp;omega⟩
  unfold kH at h;split at h;rename_i hg;obtain ⟨dec2,ha2,h2,_⟩:=xO h ha;exact run dec2 ha2 h2 (.inl hg);rename_i j want hg;obtain ⟨dec2,ha2,h2,_⟩:=xO h ha;cases hs:FH ops o with
  |none=>simp only [hs] at h2;exact h2.elim
  |some t=>
   simp only [hs] at h2;split at h2;rename_i b hb;split at h2;rename_i hbw;have hbw':b=want:=by simpa using hbw
   subst hbw';obtain ⟨dec3,ha3,h3,Zv2⟩:=xO h2 ha2;exact run dec3 ha3 h3 (.inr ⟨j,b,t,hg,hs,Wi8 Zv2 ha3.1 hb⟩);rename_i hbw;have hbw':b≠want:=by simpa using hbw
   exact skip ha2 h2 hg hs (by rw [hb];simpa [iK] using hbw')
   rename_i l hb;exact skip ha2 h2 hg hs (by rw [hb];rfl)
   exact h2.elim
end
def c9(M:List Nat)(k:Nat):Bool:=Nat.beq (Nat.land (M.getD k 0) (2^k-1)) (2^k-1)
theorem MN{M:List Nat}{k:Nat}(h:c9 M k=true){j:Nat}(hj:j<k):(M.getD k 0).testBit j=true:=by
 have h1:Nat.land (M.getD k 0) (2^k-1)=2^k-1:=HK h;have h2:((M.getD k 0) &&& (2^k-1)).testBit j=(2^k-1).testBit j:=congrArg (·.testBit j) h1;rw [Nat.testBit_and,Nat.testBit_two_pow_sub_one] at h2;simpa [hj] using h2
def qV(M:List Nat):Nat->Nat
 | 0=>0
 |k+1=>match c9 M k with
  |true=>qV M k
  |false=>k+1
theorem bH(M:List Nat): ∀n,qV M n<=n
 | 0=>Am _
 |k+1=>by
        unfold qV;split;exact Nat.le_succ_of_le (bH M k);exact Am _
theorem y8(M:List Nat): ∀n k,qV M n<=k->k<n->c9 M k=true
 | 0,_,_,h=>U3
 |n+1,k,h,hk=>by
  unfold qV at h;split at h;rename_i hf;by_cases he:k=n;subst he;exact hf;exact y8 M n k h U3;omega
section
variable (ops:List Oper)(mm:Nat)(W:List DD)(dec:List (Nat×Bool))
def Xr9(t:Nat)(a:AV):AV:=match F6 t ops 0 with
 |some k=>match Nat.blt k mm with
  |true=>Qy7 dec k (W.getD k F5).val
  |false=>a
 |none=>a
def fA:List AV->Nat->List AV
 |[],_=>[]
 |a::l,t=>Xr9 ops mm W dec t a::fA l (t+1)
theorem xD: ∀(l:List AV) (t:Nat),(fA ops mm W dec l t).length=l.length
 |[],_=>rfl
 |a::l,t=>by simp [fA,xD l]
theorem MT: ∀(l:List AV) (t i:Nat),(fA ops mm W dec l t)[i]? =(l[i]?).map (Xr9 ops mm W dec (t+i))
 |[],_,_=>rfl
 |a::l,t,0=>by simp [fA]
 |a::l,t,i+1=>by simp only [fA,List.getElem?_cons_succ];rw [MT l (t+1) i,show t+1+i=t+(i+1) by omega]
end
def kD(W:List DD)(j:Nat):Option H9:=
 match W with
 |[]=>none
 |c::os=>match c.upd with
  |some (k,r)=>match Nat.beq k j with
   |true=>some r
   |false=>kD os j
  |none=>kD os j
theorem j6{j:Nat}{r:H9}: ∀{W:List DD},kD W j=some r-> ∃(i:Nat) (c:DD),W[i]? =some c/\c.upd=some (j,r)
 |[],h=>by simp [kD] at h
 |c::os,h=>by
  unfold kD at h;split at h;rename_i k r' hu;split at h;rename_i hb;cases h;have:k=j:=HK hb;exact ⟨0,c,rfl,by rw [hu,this]⟩
  obtain ⟨i,c',h1,h2⟩:=j6 h;exact ⟨i+1,c',by simpa using h1,h2⟩
  obtain ⟨i,c',h1,h2⟩:=j6 h;exact ⟨i+1,c',by simpa using h1,h2⟩
theorem j7{j:Nat}: ∀{W:List DD},kD W j=none-> ∀(i:Nat) (c:DD) (r:H9),W[i]? =some c->c.upd≠some (j,r)
 |[],_,i,c,r,h=>by simp at h
 |c0::os,h,i,c,r,hc=>by
  unfold kD at h;cases i with
  |zero=>
   simp at hc;subst hc;intro hu;rw [hu] at h;simp at h
  |succ i=>
   simp at hc;split at h;split at h;cases h;exact j7 h i c r hc;exact j7 h i c r hc
def Wa0(j:Nat):List DD->Bool
 |[]=>false
 |c::t=>(match c.eat with
  |some q=>Nat.beq q j
  |none=>false)||Wa0 j t
theorem rX{j:Nat}: ∀{l:List DD} {i:Nat} {c:DD},l[i]? =some c->c.eat=some j->Wa0 j l=true
 |[],_,_,h,_=>by simp at h
 |c0::t,i,c,h,he=>by
  unfold Wa0;cases i with
  |zero=>simp at h;subst h;rw [he];simp
  |succ i=>rw [rX (l:=t) (i:=i) (by simpa using h) he];simp
def LK(nx0:Nat)(all:List DD):List DD->Nat->HO
 |[],_=>[]
 |o::os,j=>match o.add with
  |some r=>match Wa0 j all with
   |true=>LK nx0 all os (j+1)
   |false=>(nx0+j,match kD all j with|some r'=>r'|none=>r)::LK nx0 all os (j+1)
  |none=>LK nx0 all os (j+1)
theorem yM{nx0:Nat}{all:List DD}: ∀{W:List DD} {j0:Nat} {p:Nat×H9},p∈LK nx0 all W j0-> ∃j,∃c:DD,∃r,W[j]? =some c/\p.1=nx0+(j0+j)/\c.add=some r/\p.2=(match kD all (j0+j) with|some r'=>r'|none=>r)/\Wa0 (j0+j) all=false
 |[],_,_,h=>by simp [LK] at h
 |c::W,j0,p,h=>by
  have tl:p∈LK nx0 all W (j0+1)-> ∃j,∃c':DD,∃r,(c::W)[j]? =some c'/\p.1=nx0+(j0+j)/\c'.add=some r/\p.2=(match kD all (j0+j) with|some r'=>r'|none=>r)/\Wa0 (j0+j) all=false:=by
   intro h;obtain ⟨j,c',r,h1,h2,h3,h4,h5⟩:=yM h;refine ⟨j+1,c',r,by simpa using h1,?_,h3,?_,?_⟩
   rw [show j0+(j+1)=j0+1+j by omega];exact h2
   rw [show j0+(j+1)=j0+1+j by omega];exact h4
   rw [show j0+(j+1)=j0+1+j by omega];exact h5
  unfold LK at h;split at h;rename_i r hr;split at h;exact tl h;rename_i ha;rcases HA.1 h with rfl|h;exact ⟨0,c,r,rfl,rfl,hr,rfl,ha⟩;exact tl h;exact tl h
def SH:H9->Bool
 | .aka _ _ _ _ _=>true
 |_=>false
theorem zY{r:H9}(h:SH r=false)(k:Nat):DI k r=false:=by
 cases r<;>first|rfl|(simp [SH] at h)
def Xd1(c:DD):Option Nat:=match c.add with
 |some (.aka q _ _ _ _)=>some q
 |_=>none
def bG(q:Nat):List DD->Bool
 |[]=>true
 |c::t=>(match Xd1 c with
  |some k=> !Nat.beq k q
  |none=>true)&&bG q t
def bD:List DD->Bool
 |[]=>true
 |c::t=>(match Xd1 c with
  |some q=>bG q t
  |none=>true)&&bD t
theorem Qm1{c:DD}{r:H9}{q:Nat}(h:c.add=some r)(hq:DI q r=true):Xd1 c=some q:=by
 unfold Xd1;rw [h];cases r with
 |aka q' T sz n f=>
  have:q'=q:=HK hq;rw [this]
 |_=>simp [DI] at hq
def bJ(nx0:Nat)(c:DD):Bool:=(match c.upd with
 |some (_,r)=> !SH r
 |none=>true)&&(match c.add with
 |some (.aka q _ _ _ _)=>Nat.blt q nx0
 |_=>true)
def gJ(nx0:Nat)(m:HO)(W:List DD):Bool:=m.all (λp=> !SH p.2)&&(W.all (bJ nx0)&&bD W)
structure Zi3 (nx0:Nat) (m:HO) (W:List DD):Prop where
 m0: ∀p∈m,SH p.2=false
 upd: ∀(i:Nat) (c:DD) (j:Nat) (r:H9),W[i]? =some c->c.upd=some (j,r)->SH r=false
 low: ∀(i:Nat) (c:DD) (r:H9) (q:Nat),W[i]? =some c->c.add=some r->DI q r=true->q<nx0
 one: ∀(i j:Nat) (ci cj:DD) (ri rj:H9) (q:Nat),W[i]? =some ci->W[j]? =some cj->ci.add=some ri->cj.add=some rj->DI q ri=true->DI q rj=true->i=j
theorem y7{q:Nat}: ∀{l:List DD},bG q l=true-> ∀(i:Nat) (c:DD),l[i]? =some c->Xd1 c≠some q
 |[],_,i,c,h=>by simp at h
 |c0::t,h,i,c,hc=>by
  simp only [bG,HV] at h;cases i with
  |zero=>
   simp at hc;subst hc;intro he;have:=h.1;rw [he] at this;simp at this
  |succ i=>exact y7 h.2 i c (by simpa using hc)
theorem S6: ∀{l:List DD},bD l=true-> ∀(i j:Nat) (ci cj:DD) (ri rj:H9) (q:Nat),l[i]? =some ci->l[j]? =some cj->ci.add=some ri->cj.add=some rj->DI q ri=true->DI q rj=true->i=j
 |[],_,i,_,ci,_,_,_,_,h,_,_,_,_,_=>by simp at h
 |c0::t,h,i,j,ci,cj,ri,rj,q,h1,h2,h3,h4,h5,h6=>by
  simp only [bD,HV] at h;have e1:=Qm1 h3 h5;have e2:=Qm1 h4 h6;cases i with
  |zero=>
   cases j with
   |zero=>rfl
   |succ j=>
    simp at h1;subst h1;have:=h.1;rw [e1] at this;exact absurd e2 (y7 this j cj (by simpa using h2))
  |succ i=>
   cases j with
   |zero=>
    simp at h2;subst h2;have:=h.1;rw [e2] at this;exact absurd e1 (y7 this i ci (by simpa using h1))
   |succ j=>rw [S6 h.2 i j ci cj ri rj q (by simpa using h1) (by simpa using h2) h3 h4 h5 h6]
theorem nW{nx0:Nat}{m:HO}{W:List DD}(h:gJ nx0 m W=true):Zi3 nx0 m W:=by
 simp only [gJ,HV] at h;obtain ⟨h1,h2,h3⟩:=h;have hl: ∀(i:Nat) (c:DD),W[i]? =some c->bJ nx0 c=true:=λi c hc=>BU.1 h2 c (FN hc);refine ⟨λp hp=>by simpa using BU.1 h1 p hp,λi c j r hc hu=>?_,λi c r q hc hr hq=>?_,S6 h3⟩
 have:=hl i c hc;simp only [bJ,HV] at this;have h:=this.1;rw [hu] at h;simpa using h;have:=hl i c hc;simp only [bJ,HV] at this;have h:=this.2;rw [hr] at h;cases r with
 |aka q' T sz n f=>
  simp only [Aw] at h;have:q'=q:=HK hq;omega
 |_=>simp [DI] at hq
def Xm9(P:Program)(G:List (Nat×Spec))(X:Ext)(ops:List Oper)(s:St):U6 St:=
 match A7 s.σ.length ops ops 0 with
 |false=> .fail
 |true=>(kH P G X ops (HY ops []) s.σ s.m s.nx (qV (HY ops []) ops.length) (ops.take (qV (HY ops []) ops.length)) 0 [] []).bind λp=>match gJ s.nx s.m p.1 with
  |false=> .fail
  |true=>Wj1 P G X ops (ops.drop (qV (HY ops []) ops.length))
   {s with σ:=fA ops (qV (HY ops []) ops.length) p.1 p.2 s.σ 0,m:=LK s.nx p.1 p.1 0++s.m,nx:=s.nx+qV (HY ops []) ops.length}
theorem T8{p q:Nat->Bool}: ∀{l:List Nat},(∀i∈l,q i=true->p i=true)-> ∀{i},i∈l->p i=true->q i=false->l.countP q<l.countP p
 |[],_,_,h,_,_=>by cases h
 |a::l,hle,i,O,hp,hq=>by
  have hle':l.countP q<=l.countP p:=List.countP_mono_left λx hx=>hle x (DB _ hx);simp only [List.countP_cons];rcases HA.1 O with rfl|O;rw [hp,hq];simp;omega;have:=T8 (λx hx=>hle x (DB _ hx)) O hp hq;have h2:(if q a=true then 1 else 0)<=(if p a=true then 1 else 0):=by
   by_cases hqa:q a=true;rw [hqa,hle a H0 hqa];exact Am _;simp [hqa]
  omega
def unl(n:Nat)(L:Array Bool):Nat:=(List.range n).countP λi=> !L.getD i true
theorem DG{ops:Array Oper}{L:Array Bool}{i:Nat}(h:i∈Region.ready .any ops L):i<ops.size/\L.getD i true=false/\ ∃o,ops[i]? =some o/\ ∀j∈DH o,inS L j:=by
 unfold Region.ready at h;rw [List.mem_filter] at h;obtain ⟨h1,h2⟩:=h;simp only [HV,Ax,List.mem_range] at h1 h2;obtain ⟨h3,h4⟩:=h2;refine ⟨h1,h3,ops[i],by simp [h1],λj hj=>?_⟩
 have ho:ops[i]? =some ops[i]:=by simp [h1]
 rw [ho] at h4;simp only [Bt,HF] at h4;simp only [DH,List.mem_map,List.mem_filter] at hj;obtain ⟨ed,⟨he1,he2⟩,rfl⟩:=hj;have:=Array.all_eq_true_iff_forall_mem.1 h4 ed (by simpa using he1)
 simpa [he2,inS] using this
theorem CS{ro:Option Nat}{n:Nat}{P:Program}{ops:Array Oper}{Q:Exit->Act->World->Prop}(Inv:Array Bool->Act->World->Prop)
  (step: ∀L a w i,Inv L a w->i∈Region.ready .any ops L->wpOpIn (fr ro) n P ops Q i (λa' w'=>Inv (L.setIfInBounds i true) a' w') a w)
  (done: ∀L a w,Inv L a w->Region.ready .any ops L=[]->Q .normal a w)(hsz: ∀L a w,Inv L a w->L.size=ops.size):
  ∀(fuel:Nat) (L:Array Bool) (a:Act) (w:World),Inv L a w->unl ops.size L<=fuel->wpAnyIn (fr ro) n P .any ops Q fuel L a w
 | 0,L,a,w,hI,hu=>by
  have hr:Region.ready .any ops L=[]:=by
   rw [List.eq_nil_iff_forall_not_mem];intro i O;obtain ⟨h1,h2,_⟩:=DG O;have:0<unl ops.size L:=by
    unfold unl;rw [List.countP_pos_iff];exact ⟨i,List.mem_range.2 h1,by rw [h2];rfl⟩
   omega
  exact ⟨hr,done L a w hI hr⟩
 |fuel+1,L,a,w,hI,hu=>by
  refine ⟨done L a w hI,λi O=>?_⟩;obtain ⟨h1,h2,_⟩:=DG O;have hLs:=hsz L a w hI;refine wpOpIn_mono (λa' w' hI'=>CS Inv step done hsz fuel _ a' w' hI' ?_) (step L a w i hI O);have:unl ops.size (L.setIfInBounds i true)<unl ops.size L:=by
   unfold unl;refine T8 (λj hj hq=>?_) (List.mem_range.2 h1) (by rw [h2];rfl) ?_
   by_cases hij:i=j;subst hij;simp [PF,hLs,h1] at hq;simpa [PF,Array.getElem?_setIfInBounds,hij] using hq;simp [PF,hLs,h1]
  omega
theorem GC{L:Array Bool}{i k:Nat}(O:i<L.size):inS (L.setIfInBounds i true) k↔k=i\/inS L k:=by
 unfold inS;simp only [PF,Array.getElem?_setIfInBounds];by_cases h:i=k;subst h;simp [O];simp [h,Ne.symm h]
theorem qU{L:Array Bool}{i:Nat}(O:i<L.size)(h:L.getD i true=false): ¬inS L i:=by
 unfold inS;simp [PF,O] at h ⊢;exact h
theorem NA{nx0 mask:Nat}{all:List DD}: ∀{W:List DD} {j0:Nat} {p:Nat×H9},p∈RN nx0 mask all W j0-> ∃j,∃c:DD,W[j]? =some c/\mask.testBit (j0+j)=true/\p.1=nx0+(j0+j)/\c.add=some p.2/\rT mask (j0+j) all 0=false
 |[],_,_,h=>by simp [RN] at h
 |c::W,j0,p,h=>by
  have tl:p∈RN nx0 mask all W (j0+1)-> ∃j,∃c':DD,(c::W)[j]? =some c'/\mask.testBit (j0+j)=true/\p.1=nx0+(j0+j)/\c'.add=some p.2/\rT mask (j0+j) all 0=false:=by
   intro h;obtain ⟨j,c',h1,h2,h3,h4,h5⟩:=NA h;exact ⟨j+1,c',by simpa using h1,by rw [show j0+(j+1)=j0+1+j by omega];exact h2,by rw [show j0+(j+1)=j0+1+j by omega];exact h3,h4,by rw [show j0+(j+1)=j0+1+j by omega];exact h5⟩
  unfold RN at h;split at h;rename_i hb;split at h;rename_i r hr;split at h;exact tl h;rename_i hea;rcases HA.1 h with rfl|h;exact ⟨0,c,rfl,by simpa using hb,rfl,hr,hea⟩
  exact tl h;exact tl h;exact tl h
section
variable {P:Program}{G:List (Nat×Spec)}{X:Ext}{ops:Array Oper}{c:Cx}{w0:World}{T:Nat->Prop}{s0:St}{W:List DD}{dec:List (Nat×Bool)}
def FW(ops:List Oper)(σ0:List AV)(W:List DD)(L:Array Bool)(t:Nat):AV:=match F6 t ops 0 with
 |some k=>if L.getD k false=true then (W.getD k F5).val else σ0.getD t .top
 |none=>σ0.getD t .top
structure gL (ops:Array Oper) (c:Cx) (w0:World) (T:Nat->Prop) (s0:St) (W:List DD) (mm:Nat) (L:Array Bool) (a:Act) (w:World):Prop where
 size:L.size=ops.size
 dc:DC ops.toList L
 lt: ∀k,inS L k->k<mm
 rel: ∃e,GK e w0.heap.size w/\Below w0.heap.size w0 w/\GH e s0.m w/\(∀j c,inS L j->W[j]? =some c-> ∀r,c.add=some r->(∀i ci,inS L i->W[i]? =some ci->ci.eat≠some j)-> ∃r'',H2 e w (s0.nx+j) r''/\(∀i ci r',inS L i->W[i]? =some ci->ci.upd=some (j,r')->r''=r')/\((∀i ci r',inS L i->W[i]? =some ci->ci.upd≠some (j,r'))->r''=r))/\
  (∀k,e.live k->k<s0.nx\/ ∃i,inS L i/\k=s0.nx+i)/\((∀b,T b->b<w0.heap.size/\ ¬e.ro b)/\Xt c e s0.sv a.defers w)/\a.tmps.size=s0.σ.length/\ ∀t v,a.tmps[t]? =some v->Rep e w (FW ops.toList s0.σ W L t) v
theorem Rep.litOf{e:G8}{w:World}{d:Bool}{v:Value}(h:Rep e w (.x (.bool d)) v):Rep e w (.lit d) v:=by rw [h.x_inv];exact .lit d
section
variable {M:List Nat}
theorem A9{mm:Nat}{σ0:List AV}{m0:HO}{nx0:Nat}{opsL:List Oper}{o:Oper}{i j:Nat}{r:H9}{ns:List Prop}{W:List DD}{dec:List (Nat×Bool)}(h:aA P opsL M σ0 m0 nx0 mm o i W dec=some (ns,j,r)):
  ∃t x y off m',o.op= .store t x y/\PE opsL M σ0 W dec i x= .ptr (nx0+j) off/\SC M mm i j=true/\jI P (RN nx0 (M.getD i 0) W W 0++m0) t (.ptr (nx0+j) off) (PE opsL M σ0 W dec i y)=some (ns,m')/\DY m' (nx0+j)=some r:=by
 unfold aA at h;split at h;rename_i t x y ho;split at h;rename_i id off hx;split at h;rename_i hb;simp only [HV] at hb;have hle:=wP hb.1;split at h;rename_i ns' m' hst;split at h;rename_i r' hg;simp only [D0,RA] at h;obtain ⟨rfl,rfl,rfl⟩:=h;have e1:nx0+(id-nx0)=id:=U3;exact ⟨t,x,y,off,m',ho,by rw [e1];exact hx,hb.2,by rw [e1];exact hst,by rw [e1];exact hg⟩
 cases h;cases h;cases h;cases h;cases h
theorem Wf8{σ0:List AV}{m0:HO}{nx0 mm:Nat}{opsL:List Oper}(DM:PO P G X opsL M σ0 m0 nx0 mm W dec){i j:Nat}{c:DD}{r:H9}(hc:W[i]? =some c)(ho:i<opsL.length)(hu:c.upd=some (j,r)):SC M mm i j=true:=by
 have O:i<W.length:=(RO.1 hc).1;have hg:W.getD i F5=c:=by simp [List.getD,hc]
 obtain ⟨dec',_,h|h⟩:=DM.2 i opsL[i] O (DP ho);rcases h.1 with ⟨ns,_,hn,_⟩|⟨ns,j',r',hst,he,_⟩|⟨ns,val,r',eat,hst,he,_⟩|⟨t,val,_,he,_⟩|⟨ns,val,eat,_,he,_⟩|⟨ns,val,r',_,he,_⟩;rw [hg,hu] at hn;cases hn;rw [hg] at he;subst he;simp only [D0,RA] at hu;obtain ⟨rfl,rfl⟩:=hu;obtain ⟨_,_,_,_,_,_,_,hl,_⟩:=A9 hst;exact hl;rw [hg] at he;subst he;cases hu;rw [hg] at he;subst he;cases hu;rw [hg] at he;subst he;cases hu;rw [hg] at he;subst he;cases hu;rw [hg] at h;rw [h.1] at hu;cases hu
theorem vL{mm:Nat}{σ0:List AV}{m0:HO}{nx0:Nat}{opsL:List Oper}{o:Oper}{i:Nat}{val:AV}{r:H9}{eat:Option Nat}{ns:List Prop}{W:List DD}{dec:List (Nat×Bool)}(h:Wa5 P opsL M σ0 m0 nx0 mm o i W dec=some (ns,val,r,eat)):
  ∃c s x t tl,o.op= .call c/\c.callee= .builtin .append/\c.args.toList=[s,x]/\c.argTypes.toList=[t,t]/\RR P (nx0+i) (RN nx0 (M.getD i 0) W W 0++m0) t (PE opsL M σ0 W dec i s) (PE opsL M σ0 W dec i x)=some (ns,val,(nx0+i,r)::tl)/\
   ((∃j,eat=some j/\PE opsL M σ0 W dec i s= .row (nx0+j)/\Qy6 M mm i j=true)\/(eat=none/\ ∃v,PE opsL M σ0 W dec i s= .x v)):=by
 have hid: ∀{id:Nat} {m m':HO} {t:TypeId} {s x v:AV} {ns:List Prop} {p:Nat} {r:H9} {tl:HO},RR P id m t s x=some (ns,v,(p,r)::tl)->p=id:=by
  intro id m m' t s x v ns p r tl h;unfold RR at h
  repeat' split at h
  all_goals first|(simp only [D0,RA,List.cons.injEq] at h;exact h.2.2.1.1.symm)|cases h
 unfold Wa5 at h;split at h;rename_i c ho;split at h;rename_i s x t t' hc ha hta;split at h;rename_i htt;have:t=t':=HK htt;subst this;split at h;rename_i id hs;split at h;rename_i hb;simp only [HV] at hb;have hle:=wP hb.1;split at h;rename_i ns' v' p r' tl hap;simp only [D0,RA] at h;obtain ⟨rfl,rfl,rfl,rfl⟩:=h;have hp:=hid (m':=[]) hap;subst hp;exact ⟨c,s,x,t,tl,ho,hc,ha,hta,by rw [hs];exact hap,.inl ⟨id-nx0,rfl,by rw [hs];congr 1;omega,hb.2⟩⟩
 cases h;cases h;rename_i v hs;split at h;rename_i ns' v' p r' tl hap;simp only [D0,RA] at h;obtain ⟨rfl,rfl,rfl,rfl⟩:=h;have hp:=hid (m':=[]) hap;subst hp;exact ⟨c,s,x,t,tl,ho,hc,ha,hta,by rw [hs];exact hap,.inr ⟨rfl,v,hs⟩⟩
 cases h;cases h;cases h;cases h;cases h
theorem TH{mm:Nat}{σ0:List AV}{m0:HO}{nx0:Nat}{opsL:List Oper}{o:Oper}{i:Nat}{val:AV}{eat:Option Nat}{ns:List Prop}{W:List DD}{dec:List (Nat×Bool)}(h:Xu6 P opsL M σ0 m0 nx0 mm X o i W dec=some (ns,val,eat)):
  ∃v0 T sz n f,Wa5 P opsL M σ0 m0 nx0 mm o i W dec=some (ns,v0,.row T sz n f,eat)/\val= .lst sz n f:=by
 unfold Xu6 at h;split at h;split at h;split at h;rename_i ns' v0 T sz n f eat' hap;simp only [D0,RA] at h;obtain ⟨rfl,rfl,rfl⟩:=h;exact ⟨v0,T,sz,n,f,hap,rfl⟩;cases h;cases h;cases h
theorem Wa4{σ0:List AV}{m0:HO}{nx0:Nat}{opsL:List Oper}{o:Oper}{i:Nat}{val:AV}{r:H9}{ns:List Prop}{W:List DD}{dec:List (Nat×Bool)}(h:Xu7 P opsL M σ0 m0 nx0 o i W dec=some (ns,val,r)):
  ∃c s x t q,o.op= .call c/\c.callee= .builtin .append/\c.args.toList=[s,x]/\c.argTypes.toList=[t,t]/\PE opsL M σ0 W dec i s= .row q/\q<nx0/\val= .row (nx0+i)/\
   v8 P (nx0+i) (RN nx0 (M.getD i 0) W W 0++m0) t q (PE opsL M σ0 W dec i x)=some (ns,r):=by
 unfold Xu7 at h;split at h;rename_i c ho;split at h;rename_i s x t t' hc ha hta;split at h;rename_i htt;have:t=t':=HK htt;subst this;split at h;rename_i id hs;split at h;rename_i hb;split at h;rename_i ns' r' hap;simp only [D0,RA] at h;obtain ⟨rfl,rfl,rfl⟩:=h;exact ⟨c,s,x,t,id,ho,hc,ha,hta,hs,by simpa [Aw] using hb,rfl,hap⟩
 cases h;cases h;cases h;cases h;cases h;cases h
end
theorem bC{id:Nat}{m m':HO}{t:TypeId}{s x val:AV}{ns:List Prop}(h:RR P id m t s x=some (ns,val,m')):val= .row id:=by
 unfold RR at h;split at h;split at h;split at h;split at h;split at h;simp only [D0,RA] at h;exact h.2.1.symm;cases h;cases h;cases h;cases h;cases h
theorem Wz6{M:List Nat}{σ0:List AV}{m0:HO}{nx0 mm:Nat}{opsL:List Oper}(DM:PO P G X opsL M σ0 m0 nx0 mm W dec){i j:Nat}{c:DD}(hc:W[i]? =some c)(ho:i<opsL.length)(hu:c.eat=some j):Qy6 M mm i j=true:=by
 have O:i<W.length:=(RO.1 hc).1;have hg:W.getD i F5=c:=by simp [List.getD,hc]
 obtain ⟨dec',_,h|h⟩:=DM.2 i opsL[i] O (DP ho);rcases h.1 with ⟨ns,_,_,hn,_⟩|⟨ns,j',r',hst,he,_⟩|⟨ns,val,r',eat,hst,he,_⟩|⟨t,val,_,he,_⟩|⟨ns,val,eat,hsz,he,_⟩|⟨ns,val,r',_,he,_⟩;rw [hg,hu] at hn;cases hn;rw [hg] at he;subst he;cases hu;rw [hg] at he;subst he;simp only at hu;subst hu;obtain ⟨_,_,_,_,_,_,_,_,_,_,h|h⟩:=vL hst;obtain ⟨j',h1,_,h3⟩:=h;cases h1;exact h3;exact absurd h.1 UE;rw [hg] at he;subst he;cases hu;rw [hg] at he;subst he;simp only at hu;subst hu;obtain ⟨_,_,_,_,_,hst,_⟩:=TH hsz;obtain ⟨_,_,_,_,_,_,_,_,_,_,h|h⟩:=vL hst;obtain ⟨j',h1,_,h3⟩:=h;cases h1;exact h3;exact absurd h.1 UE;rw [hg] at he;subst he;cases hu;rw [hg] at h;rw [h.1] at hu;cases hu
theorem Qb5{X:Ext}(hXc:(∀p∈X.C,Enters P p.1/\ ∀avs t,p.2 avs=some t->G6 P p.1 avs t)/\(∀p∈X.F,Enters P p.1/\ ∀avs ns T sz n g,p.2 avs=some (ns,T,sz,n,g)->(∀q∈ns,q)->FC P p.1 avs T sz n g)/\ ∀p∈X.D,Enters P p.1/\ ∀avs t,p.2 avs=some t->BG P p.1 avs t){e:G8}{B:Nat}{w:World}{m:HO}{id:Nat}{ρ:Operand->AV}{o:Oper}{a:Act}{t:U6 (AV×Option H9)}{val:AV×Option H9}
  (h:nM X id ρ o.op=some t)(ht:t.sat (λr=>r=val))(hE:GK e B w)(hB:B<=w.heap.size)(hm:GH e m w)(hid: ¬e.live id)(hr: ∀x,Rep e w (ρ x) (a.eval x)){ro:Option Nat}{n:Nat}
  {K:Act->World->Prop}{Q:Exit->Act->World->Prop}(hK: ∀v w',PB e B w m id val.1 val.2 v w'->K (a.put o.dst v) w'):o.wpIn (fr ro) n P a w K Q:=by
 obtain ⟨dst,op,type,pos,after,guard⟩:=o;cases op<;>try (simp [nM] at h;done)
 case call c=>
  obtain ⟨callee,args,argTypes⟩:=c;have ha:=UM.ops hr args.toList;cases callee<;>try (simp [nM] at h;done)
  case value f=>
   simp only [nM] at h;have hf:=hr f;split at h;rename_i g first caps hfe
   rw [hfe] at hf;obtain ⟨us,us',hv,r1,r2⟩:=hf.fn_inv;have DM:UM e w (first++args.toList.map ρ++caps) (us++args.toList.map a.eval++us'):=(r1.append ha).append r2
   split at h;rename_i RL;have FD:Enters P g->(execOp a.eval ⟨dst,.call ⟨.value f,args,argTypes⟩,type,pos,after,guard⟩).run P w= .ok (.enter g (us++args.toList.map a.eval++us').toArray) w:=by
    intro PQ;have e1:(us++args.toList.map a.eval++us').toArray=us.toArray++args.map a.eval++us'.toArray:=Array.ext' UE;simp only [execOp,resolve,hv,Deferred.ofValue,At,Bv,Au,invoke];rw [e1];exact P3 PQ _ w
   have hidf': ∀x∈first++args.toList.map ρ++caps,Idf x:=by
    intro x hx;obtain ⟨i,O⟩:=xU.1 hx;obtain ⟨v,_,rv⟩:=DM.get O;exact yB 6 x v rv (BU.1 RL x hx)
   split at h;rename_i sp hsp;split at h;rename_i tr htr;cases h;obtain ⟨PQ,hs⟩:=hXc.1 _ (MG hsp);have RG:=hs _ _ htr _ (U6.sat_bind ht) e w _ (λb hb=>(hE.apart b hb).2) hE.glob hidf' DM;refine D9 (λc h=>by cases h) ?_
   unfold Oper.wp;rw [FD PQ,Oper.upon_enter];refine RG.mono λen w' hq=>?_;obtain ⟨v,rr,rfl,hQ,hb,H5⟩:=hq;have hQ:(rr,none)=val:=hQ;subst hQ;have st:Step e (e.more w w') w w':=⟨λb hlt hr=>⟨.inl hr,hb.block b hlt⟩,λ_ h=>⟨h,rfl,rfl⟩,hb.size⟩;have hE':GK (e.more w w') B w':=by
    refine ⟨?_,λb k hk=>?_,hE.glob.step st⟩;rintro b (hr|⟨h1,h2⟩);have:=hE.apart b hr;have:=hb.size;exact ⟨(hE.apart b hr).1,U3⟩;refine ⟨?_,h2⟩;cases ho:(e.more w w').own b with
    |none=>rfl
    |some k=>have:=(hE.owned b k ho).2;omega
    have:=hE.owned b k hk;have:=hb.size;exact ⟨(hE.owned b k hk).1,U3⟩
   have st2:Step {BA w w' with ro:=(e.more w w').ro} (e.more w w') w' w':=⟨λb _ h=>⟨h,rfl⟩,λ_ h=>False.elim h,Am _⟩
   exact hK _ _ ⟨e.more w w',hb,st,hE',λ_ _ h=>h,H5.step st2,hm.ext hb st (λ_ _ h=>h),λ_ h=> .inl h,λb h=>h.imp (λh=>h) (λh=>h.1)⟩;cases h;split at h;rename_i sp hsp;split at h;rename_i ns T sz nn l htr;cases h;obtain ⟨PQ,hs⟩:=hXc.2.1 _ (Wx4 hsp);have hns:=U6.sat_needT ht;have RG:=hs _ _ _ _ _ _ htr (GY hns.1) e w _ (λb hb=>(hE.apart b hb).2) hE.glob hidf' DM;refine D9 (λc h=>by cases h) ?_
   unfold Oper.wp;rw [FD PQ,Oper.upon_enter];refine RG.mono λen w' hq=>?_;obtain ⟨v,xs,rfl,hb,k1,k2,k3,k4⟩:=hq;have hQ:((AV.row id,some (H9.row T sz nn l)):AV×Option H9)=val:=hns.2;subst hQ;exact hK _ _ (MX hE hB hm hid hb k1 k2 k3 k4);cases h;cases h;cases h;cases h
theorem Qb4{X:Ext}(hXc:(∀p∈X.C,Enters P p.1/\ ∀avs t,p.2 avs=some t->G6 P p.1 avs t)/\(∀p∈X.F,Enters P p.1/\ ∀avs ns T sz n g,p.2 avs=some (ns,T,sz,n,g)->(∀q∈ns,q)->FC P p.1 avs T sz n g)/\ ∀p∈X.D,Enters P p.1/\ ∀avs t,p.2 avs=some t->BG P p.1 avs t){e:G8}{B:Nat}{w:World}{m:HO}{id:Nat}{ρ:Operand->AV}{o:Oper}{a:Act}{t:U6 (AV×Option H9)}{val:AV×Option H9}
  (h:Ql2 X id m ρ o.op=some t)(ht:t.sat (λr=>r=val))(hE:GK e B w)(hB:B<=w.heap.size)(hm:GH e m w)(hid: ¬e.live id)(hr: ∀x,Rep e w (ρ x) (a.eval x)){ro:Option Nat}{n:Nat}
  {K:Act->World->Prop}{Q:Exit->Act->World->Prop}(hK: ∀v w',PB e B w m id val.1 val.2 v w'->K (a.put o.dst v) w'):o.wpIn (fr ro) n P a w K Q:=by
 unfold Ql2 at h;split at h
 ·rename_i t' hV;cases h;obtain ⟨dst,op,type,pos,after,guard⟩:=o;cases op<;>try (simp [Ql3] at hV;done)
  case call c=>
   obtain ⟨callee,args,argTypes⟩:=c;have ha:=UM.ops hr args.toList;cases callee<;>try (simp [Ql3] at hV;done)
   case value f=>
    simp only [Ql3] at hV;have hf:=hr f;split at hV;rename_i g first caps hfe
    rw [hfe] at hf;obtain ⟨us,us',hv,r1,r2⟩:=hf.fn_inv;have DM:UM e w (first++args.toList.map ρ++caps) (us++args.toList.map a.eval++us'):=(r1.append ha).append r2
    split at hV;rename_i sp hsp;split at hV;rename_i tr htr;cases hV;obtain ⟨PQ,hs⟩:=hXc.2.2 _ (MG hsp);have dP:=UM.map (F3 m 40) (LZ hE hm 40) DM;have RG:=hs _ _ htr _ (U6.sat_bind ht) e.view w _ (by
     rintro b (hb|⟨k,hb⟩);exact (hE.apart b hb).2;exact (hE.owned b k hb).2) (hE.glob.step (Step.view w)) (FG (LC hm 40) DM) dP
    have FD:(execOp a.eval ⟨dst,.call ⟨.value f,args,argTypes⟩,type,pos,after,guard⟩).run P w= .ok (.enter g (us++args.toList.map a.eval++us').toArray) w:=by
     have e1:(us++args.toList.map a.eval++us').toArray=us.toArray++args.map a.eval++us'.toArray:=Array.ext' UE;simp only [execOp,resolve,hv,Deferred.ofValue,At,Bv,Au,invoke];rw [e1];exact P3 PQ _ w
    refine D9 (λc h=>by cases h) ?_
    unfold Oper.wp;rw [FD,Oper.upon_enter];refine RG.mono λen w' hq=>?_;obtain ⟨v,rr,rfl,hQ,hb,H5⟩:=hq;have hQ:(rr,none)=val:=hQ;subst hQ;exact hK v w' (TA hE hm hb H5);cases hV;cases hV;cases hV
 exact Qb5 hXc h ht hE hB hm hid hr hK
theorem Za0(hG:U4 P G)(hXc:(∀p∈X.C,Enters P p.1/\ ∀avs t,p.2 avs=some t->G6 P p.1 avs t)/\(∀p∈X.F,Enters P p.1/\ ∀avs ns T sz n g,p.2 avs=some (ns,T,sz,n,g)->(∀q∈ns,q)->FC P p.1 avs T sz n g)/\ ∀p∈X.D,Enters P p.1/\ ∀avs t,p.2 avs=some t->BG P p.1 avs t)(kE:A7 s0.σ.length ops.toList ops.toList 0=true){mm:Nat}(DM:PO P G X ops.toList (HY ops.toList []) s0.σ s0.m s0.nx mm W dec)(DJ:W.length=mm)(hmm:mm<=ops.size)(AJ: ∀p∈s0.m,p.1<s0.nx)(hAk:Zi3 s0.nx s0.m W){L:Array Bool}{a:Act}{w:World}{i:Nat}{Q:Exit->Act->World->Prop}
  (hI:gL ops c w0 T s0 W mm L a w)(O:i∈Region.ready .any ops L)(him:i<mm){ro:Option Nat}{n:Nat}:wpOpIn (fr ro) n P ops Q i (λa' w'=>gL ops c w0 T s0 W mm (L.setIfInBounds i true) a' w') a w:=by
 obtain ⟨hin,hun,o,ho,dS⟩:=DG O;obtain ⟨e,hE,hB,hm0,uF,uD,qW,jP,wL⟩:=hI.rel;have hoL:ops.toList[i]? =some o:=by simpa using ho
 have hni: ¬inS L i:=qU (by rw [hI.size];exact hin) hun
 have tV: ∀k,((HY ops.toList []).getD i 0).testBit k=true->inS L k:=λk hk=>x8 hI.dc i o hoL dS k hk;have Qj3: ∀k,((HY ops.toList []).getD k 0).testBit i=true-> ¬inS L k:=by
  intro k hk hin';rcases An k ops.size with hkn|hkn;have hok:ops.toList[k]? =some ops[k]:=by simp [hkn]
  exact hni (x8 hI.dc k _ hok (hI.dc k _ hok hin') i hk);have:L.getD k false=false:=by
   rw [PF,Array.getElem?_eq_none (by rw [hI.size];exact hkn)];rfl
  unfold inS at hin';rw [this] at hin';cases hin'
 obtain ⟨dec',hdec',vQ⟩:=DM.2 i o U3 hoL
 have OB: ∀k,inS L k-> ∀t v,F6 t ops.toList 0=some k->a.tmps[t]? =some v->Rep e w ((W.getD k F5).val) v:=by
  intro k hk t v hwt hv;have:=wL t v hv;unfold FW at this;rw [hwt] at this;simp only at this;rw [if_pos (show L.getD k false=true from hk)] at this;exact this
 have hσ: ∀t v,a.tmps[t]? =some v->(∀k,F6 t ops.toList 0=some k-> ¬inS L k)->Rep e w (s0.σ.getD t .top) v:=by
  intro t v hv hno;have:=wL t v hv;unfold FW at this;cases hwt:F6 t ops.toList 0 with
  |none=>rw [hwt] at this;exact this
  |some k=>rw [hwt] at this;simp only at this;rw [if_neg (show ¬L.getD k false=true from hno k hwt)] at this;exact this
 have yC: ∀k,k<i->(W.take i).getD k F5=W.getD k F5:=by
  intro k hk;simp [List.getD,hk]
 have hρ: ∀x,Rep e w (PE ops.toList (HY ops.toList []) s0.σ (W.take i) dec' i x) (a.eval x):=by
  intro x;cases x with
  |tmp t=>
   simp only [Act.eval];cases hv:a.tmps[t]? with
   |none=>
    have hge:s0.σ.length<=t:=by
     rw [←jP];rcases An t a.tmps.size with h'|h';rw [Array.getElem?_eq_getElem h'] at hv;cases hv;exact h'
    have h0:s0.σ.getD t .top= .top:=by rw [List.getD,Br hge];rfl
    rw [PF,hv];simp only [PE];split;rw [h0];exact .top _;rename_i k hwt;obtain ⟨_,o',ho',hd'⟩:=L2 hwt;have:=((B2 kE k o' (by simpa using ho')).1 t hd').2
    omega
   |some v=>
    rw [PF,hv];simp only [HF,PE];split;rename_i hwt;exact hσ t v hv (λk hk=>by rw [hwt] at hk;cases hk)
    rename_i k hwt;split;rename_i hb;have hk:=tV k hb;have hr:=OB k hk t v hwt hv;simp only [Qy7];cases hld:LH dec' k with
    |some d=>
     have:=(DM.1 k d (hdec' k d hld)).2;rw [this] at hr;exact hr.litOf
    |none=>
     rcases An k i with hki|hki;rw [yC k hki];exact hr;have:(W.take i).getD k F5=F5:=by rw [List.getD,Br (by simp;omega)];rfl
     rw [this];exact .top _
    rename_i hb;split;rename_i hb2;refine hσ t v hv (λk' hk'=>?_);rw [hwt] at hk';cases hk';simp only [Bl] at hb2;rcases hb2 with h2|h2;rw [HK h2];exact hni;exact Qj3 k h2;exact .top _
  |const v=>exact AP v
  |global g=>exact .x _
  |func f=>exact .fn (.func f) [] [] [] [] rfl (λi a v h=>by simp at h) rfl (λi a v h=>by simp at h)
 have Wu6: ¬e.live (s0.nx+i):=by
  intro hl;rcases uD _ hl with h|⟨i',h1,h2⟩;omega;have:i'=i:=U3;subst this;exact hni h1
 have mL: ∀i' c' j' r',W[i']? =some c'->c'.upd=some (j',r')->SC (HY ops.toList []) mm i' j'=true:=by
  intro i' c' j' r' h1 h2;exact Wf8 DM h1 (by have:=(RO.1 h1).1;simp;omega) h2
 have heat: ∀i' c' j',W[i']? =some c'->c'.eat=some j'->Qy6 (HY ops.toList []) mm i' j'=true:=by
  intro i' c' j' h1 h2;exact Wz6 DM h1 (by have:=(RO.1 h1).1;simp;omega) h2
 have Jo7: ∀j',((HY ops.toList []).getD i 0).testBit j'=true-> ∀i' c' r',inS L i'->W[i']? =some c'->c'.upd≠some (j',r'):=by
  intro j' hj' i' c' r' hi' hc' hu;have:=(BO (mL i' c' j' r' hc' hu)).2.2 i him (λhe=>hni (he▸hi'));rw [this] at hj';cases hj'
 have hmi:GH e (RN s0.nx ((HY ops.toList []).getD i 0) (W.take i) (W.take i) 0++s0.m) w:=by
  intro p hp;rcases List.mem_append.1 hp with hp|hp;obtain ⟨j,c,h1,h2,h3,h4,h5⟩:=NA hp;simp only [Ap] at h2 h3 h5;have hj:W[j]? =some c:=by
   rw [List.getElem?_take] at h1;split at h1;exact h1;cases h1
  rw [h3];have Zu7: ∀i' ci,inS L i'->W[i']? =some ci->ci.eat≠some j:=by
   intro i' ci hi' hci he;have hne:i≠i':=λhq=>hni (hq▸hi');obtain ⟨g1,g2⟩:=(Qy5 (heat i' ci j hci he)).2.2 i him hne h2;have:(W.take i)[i']? =some ci:=by rw [List.getElem?_take,if_pos g2];exact hci
   rw [AO (k0:=0) this he (by simpa using g1)] at h5
   cases h5
  obtain ⟨r'',hh,_,hk⟩:=uF j c (tV j h2) hj _ h4 Zu7;rw [hk (Jo7 j h2)] at hh;exact hh;exact hm0 p hp
 have Xq5: ∀(q:Nat) (c:DD) (res r'':H9),W[q]? =some c->c.add=some res->(∀i ci r',inS L i->W[i]? =some ci->ci.upd=some (q,r')->r''=r')->((∀i ci r',inS L i->W[i]? =some ci->ci.upd≠some (q,r'))->r''=res)->(∀k,s0.nx<=k->DI k r''=false)/\(∀k,DI k r''=true->DI k res=true):=by
  intro q c res r'' hc FL hk1 hk2;rcases Classical.em (∀i ci r',inS L i->W[i]? =some ci->ci.upd≠some (q,r')) with h|h;obtain rfl:=hk2 h;refine ⟨λk hk=>?_,λ_ h=>h⟩;cases hq:DI k r'' with
  |false=>rfl
  |true=>have:=hAk.low q c _ k hc FL hq;omega
  have hex: ∃i ci r',inS L i/\W[i]? =some ci/\ci.upd=some (q,r'):=by
   apply Classical.byContradiction;intro hno;exact h (λi ci r' h1 h2 h3=>hno ⟨i,ci,r',h1,h2,h3⟩)
  obtain ⟨i,ci,r',h1,h2,h3⟩:=hex;obtain rfl:=hk1 i ci r' h1 h2 h3;have:=hAk.upd i ci _ _ h2 h3;exact ⟨λk _=>zY this k,λk h=>by rw [zY this k] at h;cases h⟩
 have hiL:i<L.size:=by rw [hI.size];exact hin
 have hoi:W[i]? =some (W.getD i F5):=by
  have:i<W.length:=U3;simp [List.getD,DP this]
 have fin:(W.getD i F5).upd=none-> ∀v w',PB e w0.heap.size w (RN s0.nx ((HY ops.toList []).getD i 0) (W.take i) (W.take i) 0++s0.m) (s0.nx+i) (W.getD i F5).val (W.getD i F5).add v w'->gL ops c w0 T s0 W mm (L.setIfInBounds i true) (a.put o.dst v) w':=by
  rintro Xq3 v w' ⟨e',hb,st,hE',HQ,H5,hm',hlv,hro⟩;refine ⟨by simp [hI.size],?_,?_,e',hE',hB.trans (hb.mono hB.size),?_,?_,?_,⟨λb hT=>⟨(qW.1 b hT).1,λh=>?_⟩,by rw [put_defers];exact qW.2.step st⟩,?_,?_⟩
  intro k o' ho' hk j hj;rw [GC hiL] at hk ⊢;rcases hk with rfl|hk;rw [hoL] at ho';cases ho';exact .inr (dS j hj);exact .inr (hI.dc k o' ho' hk j hj);intro k hk;rw [GC hiL] at hk;rcases hk with rfl|hk;exact him;exact hI.lt k hk;exact hm0.ext hb st HQ;intro j c hj hc r hr hne;rw [GC hiL] at hj;rcases hj with rfl|hj;rw [hoi] at hc;cases hc;refine ⟨r,hm' (s0.nx+j,r) ?_,?_,λ_=>rfl⟩;rw [hr];exact H0;intro i' ci r' hi' hci hu;exfalso;rw [GC hiL] at hi';rcases hi' with rfl|hi';rw [hoi] at hci;cases hci;rw [Xq3] at hu;cases hu;exact Qj3 i' (BO (mL i' ci j r' hci hu)).1 hi';obtain ⟨r'',hh,hk1,hk2⟩:=uF j c hj hc r hr (λi' ci hi'=>hne i' ci ((GC hiL).2 (.inr hi')));refine ⟨r'',hh.ext hb st HQ,?_,λhno=>hk2 (λi' ci r' hi' hci=>hno i' ci r' ((GC hiL).2 (.inr hi')) hci)⟩;intro i' ci r' hi' hci hu;rw [GC hiL] at hi';rcases hi' with rfl|hi';rw [hoi] at hci;cases hci;rw [Xq3] at hu;cases hu;exact hk1 i' ci r' hi' hci hu;intro k hk;rcases hlv k hk with hk|rfl;rcases uD k hk with h|⟨i',h1,h2⟩;exact .inl h;exact .inr ⟨i',(GC hiL).2 (.inr h1),h2⟩;exact .inr ⟨i,(GC hiL).2 (.inl rfl),rfl⟩;rcases hro b h with h|h;exact (qW.1 b hT).2 h;have:=(qW.1 b hT).1;have:=hB.size;omega;cases hd:o.dst with
  |none=>exact jP
  |some d=>simp [Act.put,jP]
  intro t u hu;have other:o.dst≠some t->a.tmps[t]? =some u->Rep e' w' (FW ops.toList s0.σ W (L.setIfInBounds i true) t) u:=by
   intro hne hu';have:=(wL t u hu').step st;unfold FW at this ⊢;cases hwt:F6 t ops.toList 0 with
   |none=>rw [hwt] at this;exact this
   |some k=>
    rw [hwt] at this;simp only at this ⊢;have hki:k≠i:=by
     rintro rfl;obtain ⟨_,o',ho',hd'⟩:=L2 hwt;simp only [Nat.sub_zero] at ho';rw [hoL] at ho';cases ho';exact hne hd'
    have e1:(L.setIfInBounds i true).getD k false=L.getD k false:=by
     simp [PF,Ne.symm hki]
    rw [e1];exact this
  cases hd:o.dst with
  |none=>rw [hd] at hu;exact other (by rw [hd];simp) hu
  |some d=>
   rw [hd] at hu;simp only [Act.put,Array.getElem?_setIfInBounds] at hu;by_cases hdt:d=t;subst hdt;obtain ⟨hw1,hw2⟩:=(B2 kE i o hoL).1 d hd;rw [if_pos rfl,if_pos (by rw [jP];exact hw2)] at hu
   cases hu;unfold FW;rw [hw1];simp only [Ap];rw [if_pos (show (L.setIfInBounds i true).getD i false=true from (GC hiL).2 (.inl rfl))];exact H5;rw [if_neg hdt] at hu;exact other (by rw [hd];simpa using hdt) hu
 have guardRun: ∀j want t b,o.guard=some (j,want)->FH ops.toList o=some t->PE ops.toList (HY ops.toList []) s0.σ (W.take i) dec' i (.tmp t)= .lit b->yielded ops a.tmps j=some b:=by
  intro j want t b hg hgs hl;have hr:=hρ (.tmp t);rw [hl] at hr;have hev:=hr.lit_inv;simp only [Act.eval] at hev;have hgt:a.tmps[t]? =some (.bool b):=by
   cases hq:a.tmps[t]? with
   |none=>rw [PF,hq] at hev;simp [undef] at hev
   |some v=>rw [PF,hq] at hev;simpa using hev
  unfold FH at hgs;rw [hg] at hgs;simp only at hgs;split at hgs;rename_i p hp;have hp':ops[j]? =some p:=by simpa using hp
  unfold yielded;simp [hp',hgs,hgt];cases hgs
 have guardTup: ∀j want t l,o.guard=some (j,want)->FH ops.toList o=some t->PE ops.toList (HY ops.toList []) s0.σ (W.take i) dec' i (.tmp t)= .tup l->yielded ops a.tmps j=none:=by
  intro j want t l hg hgs hl;have hr:=hρ (.tmp t);rw [hl] at hr;obtain ⟨vs,hv,_⟩:=hr.tup_inv;simp only [Act.eval] at hv;unfold FH at hgs;rw [hg] at hgs;simp only at hgs;split at hgs;rename_i p hp;have hp':ops[j]? =some p:=by simpa using hp
  unfold yielded;simp only [hp',hgs,Option.bind_some];cases hq:a.tmps[t]? with
  |none=>rfl
  |some v=>
   rw [PF,hq] at hv;simp only [HF] at hv;subst hv;rfl
  cases hgs
 unfold wpOpIn;simp only [ho];rcases vQ with ⟨FD,hg⟩|⟨hno,j,want,t,hg,hgs,hl⟩
 ·have hw:Region.wanted o (yielded ops a.tmps)=true:=by
   rcases hg with hg|⟨j,want,t,hg,hgs,hl⟩;simp [Region.wanted,hg];simp [Region.wanted,hg,guardRun j want t want hg hgs hl]
  rw [if_pos hw];rcases FD with ⟨ns,Xr4,Xq3,_,hns⟩|⟨ns,j,r,hst,dT,hns⟩|⟨ns,val,r,eat,hap,dT,hns⟩|⟨tC,valC,hcd,Wu4,Jo1⟩|⟨ns,val,eat,hapz,dT,hns⟩|⟨ns,val,r,hape,dT,hns⟩
  rotate_left 3
  have hu:(W.getD i F5).upd=none:=by rw [Wu4]
  have hv:(W.getD i F5).val=valC.1:=by rw [Wu4]
  have hd:(W.getD i F5).add=valC.2:=by rw [Wu4]
  have fin':=fin hu;rw [hv,hd] at fin';exact Qb4 hXc hcd Jo1 hE hB.size hmi Wu6 hρ fin'
  obtain ⟨v0,T0,sz0,n0,f0,hap,Jn7⟩:=TH hapz;subst Jn7;obtain ⟨cc,s,x,t,tl,hop,dW,hca,hta,MC,Wv0⟩:=vL hap;obtain ⟨callee,cargs,cats⟩:=cc;simp only at dW hca hta;have hca':cargs=#[s,x]:=Array.ext' (by simpa using hca)
  have hta':cats=#[t,t]:=Array.ext' (by simpa using hta)
  subst hca';subst hta';subst dW;obtain ⟨u,w',FD,⟨e1,rM,st1,hE1,dR,hF,hlv1,hro1⟩,_⟩:=wJ (P:=P) (ty:=o.type) MC hns hE hB.size hmi Wu6 (hρ s) (hρ x);obtain rfl:=bC MC;have mK:H2 e1 w' (s0.nx+i) (.row T0 sz0 n0 f0):=hF _ _ (.inl ⟨⟨_,rfl⟩,rfl⟩);have H5:Rep (e1.sol (s0.nx+i)) w' (.lst sz0 n0 f0) u:=by
   cases dR with
   |row _ a n c hl hv=>
    rw [←hv];exact iR hE1 mK (λ_ h=> .inl h) (λ_ h=> .inr h)
  obtain ⟨e',he'⟩: ∃e',e'=e1.sol (s0.nx+i):=⟨_,rfl⟩;have st:Step e e' w w':=by rw [he'];exact st1.trans (Step.sol e1 _ w')
  have hE':GK e' w0.heap.size w':=by rw [he'];exact hE1.sol _
  rw [←he'] at H5;have hlv: ∀k,e'.live k->e.live k\/k=s0.nx+i:=by rw [he'];exact hlv1
  have hro: ∀b,e'.ro b->e.ro b\/w0.heap.size<=b:=by
   intro b hb;rw [he'] at hb;rcases hb with hb|hb;exact .inl (hro1 b hb);exact .inr (hE1.owned b _ hb).1
  have zO: ∀(k:Nat) (res:H9),(k≠s0.nx+i/\DI (s0.nx+i) res=false)->(∀j,eat=some j->k≠s0.nx+j/\DI (s0.nx+j) res=false)->H2 e w k res->H2 e' w' k res:=by
   intro k res hki hk hh;rw [he'];refine H2.sol hki ?_;refine hF k res (.inr ⟨hh,λq hq=>?_⟩);rcases Wv0 with ⟨j,h1,h2,_⟩|⟨_,v,h2⟩;rw [h2] at hq;cases hq;exact hk j h1;rw [h2] at hq;cases hq
  have hout':W[i]? =some ⟨.lst sz0 n0 f0,none,none,eat⟩:=by rw [hoi,dT]
  have hnew':gL ops c w0 T s0 W mm (L.setIfInBounds i true) (a.put o.dst u) w':=by
   refine ⟨by simp [hI.size],?_,?_,e',hE',hB.trans rM,?_,?_,?_,⟨λb hT=>⟨(qW.1 b hT).1,λh=>?_⟩,by rw [put_defers];exact qW.2.step st⟩,?_,?_⟩
   intro k o' ho' hk q hq;rw [GC hiL] at hk ⊢;rcases hk with rfl|hk;rw [hoL] at ho';cases ho';exact .inr (dS q hq);exact .inr (hI.dc k o' ho' hk q hq);intro k hk;rw [GC hiL] at hk;rcases hk with rfl|hk;exact him;exact hI.lt k hk;intro p hp;exact zO p.1 p.2 ⟨by have:=AJ p hp;omega,zY (hAk.m0 p hp) _⟩ (λj _=>⟨by have:=AJ p hp;omega,zY (hAk.m0 p hp) _⟩) (hm0 p hp)
   intro q c hq hc res FL hne;rw [GC hiL] at hq;rcases hq with rfl|hq;rw [hout'] at hc;cases hc;cases FL;obtain ⟨r'',hh,hk1,hk2⟩:=uF q c hq hc res FL (λi' ci hi'=>hne i' ci ((GC hiL).2 (.inr hi')));have hqi:q≠i:=λh=>hni (h▸hq);have hna:=(Xq5 q c res r'' hc FL hk1 hk2).1;refine ⟨r'',zO _ _ ⟨U3,hna _ U3⟩ (λj hj=>⟨λhe=>?_,hna _ U3⟩) hh,?_,λhno=>hk2 (λi' ci r' hi' hci=>hno i' ci r' ((GC hiL).2 (.inr hi')) hci)⟩;have hqj:q=j:=U3;exact hne i _ ((GC hiL).2 (.inl rfl)) hout' (by rw [hqj];exact hj)
   intro i' ci r' hi' hci hu;rw [GC hiL] at hi';rcases hi' with rfl|hi';rw [hout'] at hci;cases hci;cases hu;exact hk1 i' ci r' hi' hci hu;intro k hk;rcases hlv k hk with hk|rfl;rcases uD k hk with h|⟨i',h1,h2⟩;exact .inl h;exact .inr ⟨i',(GC hiL).2 (.inr h1),h2⟩;exact .inr ⟨i,(GC hiL).2 (.inl rfl),rfl⟩;rcases hro b h with h|h;exact (qW.1 b hT).2 h;have:=(qW.1 b hT).1;omega;cases hd:o.dst with
   |none=>exact jP
   |some d=>simp [Act.put,jP]
   intro q v hu;have other:o.dst≠some q->a.tmps[q]? =some v->Rep e' w' (FW ops.toList s0.σ W (L.setIfInBounds i true) q) v:=by
    intro hne hu';have:=(wL q v hu').step st;unfold FW at this ⊢;cases hwt:F6 q ops.toList 0 with
    |none=>rw [hwt] at this;exact this
    |some k=>
     rw [hwt] at this;simp only at this ⊢;have hki:k≠i:=by
      rintro rfl;obtain ⟨_,o',ho',hd'⟩:=L2 hwt;simp only [Nat.sub_zero] at ho';rw [hoL] at ho';cases ho';exact hne hd'
     have e1:(L.setIfInBounds i true).getD k false=L.getD k false:=by
      simp [PF,Ne.symm hki]
     rw [e1];exact this
   cases hd:o.dst with
   |none=>rw [hd] at hu;exact other (by rw [hd];simp) hu
   |some d=>
    rw [hd] at hu;simp only [Act.put,Array.getElem?_setIfInBounds] at hu;by_cases hdt:d=q;subst hdt;obtain ⟨hw1,hw2⟩:=(B2 kE i o hoL).1 d hd;rw [if_pos rfl,if_pos (by rw [jP];exact hw2)] at hu
    cases hu;unfold FW;rw [hw1];simp only [Ap];rw [if_pos (show (L.setIfInBounds i true).getD i false=true from (GC hiL).2 (.inl rfl)),dT];exact H5;rw [if_neg hdt] at hu;exact other (by rw [hd];simpa using hdt) hu
  refine D9 (λc h=>by rw [hop] at h;cases h) ?_
  refine DS (v:=u) (w':=w') ?_ hnew';obtain ⟨dst,op,type,pos,after,guard⟩:=o;simp only at hop;subst hop;simp [execOp,resolve,invoke,builtin,FD]
  obtain ⟨cc,s,x,t,q0,hop,dW,hca,hta,hsq,hq0,rfl,MC⟩:=Wa4 hape;obtain ⟨callee,cargs,cats⟩:=cc;simp only at dW hca hta;have hca':cargs=#[s,x]:=Array.ext' (by simpa using hca)
  have hta':cats=#[t,t]:=Array.ext' (by simpa using hta)
  subst hca';subst hta';subst dW;have rs:=hρ s;rw [hsq] at rs;obtain ⟨T0,sz0,n0,f0,hr0,hmq,u,w',FD,⟨e',rM,st,hE',H5,hF,hlv,hro⟩⟩:=C2 (P:=P) (ty:=o.type) MC hns hE hB.size hmi Wu6 rs (hρ x);subst hr0;have zO: ∀(k:Nat) (res:H9),(k=q0->d6 T0 sz0 res=true)->DI q0 res=false->H2 e w k res->H2 e' w' k res:=by
   intro k res hk1 hk2 hh;exact hF k res (.inr ⟨hh,hk1,hk2⟩)
  have mK:H2 e' w' (s0.nx+i) (.aka q0 T0 sz0 n0 f0):=hF _ _ (.inl ⟨rfl,rfl⟩);have hout':W[i]? =some ⟨.row (s0.nx+i),some (.aka q0 T0 sz0 n0 f0),none,none⟩:=by rw [hoi,dT]
  have hnew':gL ops c w0 T s0 W mm (L.setIfInBounds i true) (a.put o.dst u) w':=by
   refine ⟨by simp [hI.size],?_,?_,e',hE',hB.trans rM,?_,?_,?_,⟨λb hT=>⟨(qW.1 b hT).1,λh=>(qW.1 b hT).2 (hro b h)⟩,by rw [put_defers];exact qW.2.step st⟩,?_,?_⟩
   intro k o' ho' hk q hq;rw [GC hiL] at hk ⊢;rcases hk with rfl|hk;rw [hoL] at ho';cases ho';exact .inr (dS q hq);exact .inr (hI.dc k o' ho' hk q hq);intro k hk;rw [GC hiL] at hk;rcases hk with rfl|hk;exact him;exact hI.lt k hk;intro p hp;have hq:=hmq p (As _ hp);exact zO p.1 p.2 hq.1 hq.2 (hm0 p hp);intro q c hq hc res FL hne;rw [GC hiL] at hq;rcases hq with rfl|hq;rw [hout'] at hc;cases hc;cases FL;refine ⟨_,mK,?_,λ_=>rfl⟩;intro i' ci r' hi' hci hu;exfalso;rw [GC hiL] at hi';rcases hi' with rfl|hi';rw [hout'] at hci;cases hci;cases hu;exact Qj3 i' (BO (mL i' ci q r' hci hu)).1 hi';obtain ⟨r'',hh,hk1,hk2⟩:=uF q c hq hc res FL (λi' ci hi'=>hne i' ci ((GC hiL).2 (.inr hi')));have hna:=(Xq5 q c res r'' hc FL hk1 hk2).2;have hqi:q≠i:=λh=>hni (h▸hq);have hqa:DI q0 r''=false:=by
    cases h5:DI q0 r'' with
    |false=>rfl
    |true=>exact absurd (hAk.one q i c _ res _ q0 hc hout' FL rfl (hna q0 h5) (Nat.beq_refl q0)) hqi
   refine ⟨r'',zO _ _ (λh=>U3) hqa hh,?_,λhno=>hk2 (λi' ci r' hi' hci=>hno i' ci r' ((GC hiL).2 (.inr hi')) hci)⟩;intro i' ci r' hi' hci hu;rw [GC hiL] at hi';rcases hi' with rfl|hi';rw [hout'] at hci;cases hci;cases hu;exact hk1 i' ci r' hi' hci hu;intro k hk;rcases hlv k hk with hk|rfl;rcases uD k hk with h|⟨i',h1,h2⟩;exact .inl h;exact .inr ⟨i',(GC hiL).2 (.inr h1),h2⟩;exact .inr ⟨i,(GC hiL).2 (.inl rfl),rfl⟩;cases hd:o.dst with
   |none=>exact jP
   |some d=>simp [Act.put,jP]
   intro q v hu;have other:o.dst≠some q->a.tmps[q]? =some v->Rep e' w' (FW ops.toList s0.σ W (L.setIfInBounds i true) q) v:=by
    intro hne hu';have:=(wL q v hu').step st;unfold FW at this ⊢;cases hwt:F6 q ops.toList 0 with
    |none=>rw [hwt] at this;exact this
    |some k=>
     rw [hwt] at this;simp only at this ⊢;have hki:k≠i:=by
      rintro rfl;obtain ⟨_,o',ho',hd'⟩:=L2 hwt;simp only [Nat.sub_zero] at ho';rw [hoL] at ho';cases ho';exact hne hd'
     have e1:(L.setIfInBounds i true).getD k false=L.getD k false:=by
      simp [PF,Ne.symm hki]
     rw [e1];exact this
   cases hd:o.dst with
   |none=>rw [hd] at hu;exact other (by rw [hd];simp) hu
   |some d=>
    rw [hd] at hu;simp only [Act.put,Array.getElem?_setIfInBounds] at hu;by_cases hdt:d=q;subst hdt;obtain ⟨hw1,hw2⟩:=(B2 kE i o hoL).1 d hd;rw [if_pos rfl,if_pos (by rw [jP];exact hw2)] at hu
    cases hu;unfold FW;rw [hw1];simp only [Ap];rw [if_pos (show (L.setIfInBounds i true).getD i false=true from (GC hiL).2 (.inl rfl)),dT];exact H5;rw [if_neg hdt] at hu;exact other (by rw [hd];simpa using hdt) hu
  refine D9 (λc h=>by rw [hop] at h;cases h) ?_
  refine DS (v:=u) (w':=w') ?_ hnew';obtain ⟨dst,op,type,pos,after,guard⟩:=o;simp only at hop;subst hop;simp [execOp,resolve,invoke,builtin,FD];exact D9 (dG Xr4) (TI hG Xr4 hns hE hB.size hmi Wu6 hρ (fin Xq3))
  obtain ⟨t,x,y,off,m',hop,hx,hln,MC,hgm⟩:=A9 hst;obtain ⟨hl1,hl2,hl3⟩:=BO hln;have rx:=hρ x;rw [hx] at rx;obtain ⟨w',FD,HQ,hsz,LO,rM,hm'⟩:=AE (P:=P) MC hns hE hmi rx (hρ y);have st:=FU hE HQ hsz LO;have hE':=LU hE hsz st;have zO: ∀(k:Nat) (res:H9),(k≠s0.nx+j/\DI (s0.nx+j) res=false)->H2 e w k res->H2 e w' k res:=λk res hne hh=>PV hE HQ hsz LO hne hh;have hjS:=tV j hl1;have hnew':gL ops c w0 T s0 W mm (L.setIfInBounds i true) (a.put o.dst undef) w':=by
   refine ⟨by simp [hI.size],?_,?_,e,hE',hB.trans rM,?_,?_,?_,⟨qW.1,by rw [put_defers];exact qW.2.step st⟩,?_,?_⟩
   intro k o' ho' hk q hq;rw [GC hiL] at hk ⊢;rcases hk with rfl|hk;rw [hoL] at ho';cases ho';exact .inr (dS q hq);exact .inr (hI.dc k o' ho' hk q hq);intro k hk;rw [GC hiL] at hk;rcases hk with rfl|hk;exact him;exact hI.lt k hk;intro p hp;exact zO p.1 p.2 ⟨by have:=AJ p hp;omega,zY (hAk.m0 p hp) _⟩ (hm0 p hp)
   intro q c hq hc res FL hne;rw [GC hiL] at hq;have hqS:inS L q:=by
    rcases hq with rfl|hq;rw [hoi,dT] at hc;cases hc;cases FL;exact hq
   obtain ⟨r'',hh,hk1,hk2⟩:=uF q c hqS hc res FL (λi' ci hi'=>hne i' ci ((GC hiL).2 (.inr hi')));by_cases hqj:q=j;subst hqj;refine ⟨r,hm' (s0.nx+q,r) (GI hgm),?_,?_⟩;intro i' ci r' hi' hci hu;by_cases hii:i'=i;subst hii;rw [hoi,dT] at hci;cases hci;simp only [D0,RA] at hu;exact hu.2;exfalso;have:=(BO (mL i' ci q r' hci hu)).2.2 i him (λhe=>hii he.symm);rw [this] at hl1;cases hl1;intro hno;exact absurd (show (W.getD i F5).upd=some (q,r) by rw [dT]) (hno i _ r ((GC hiL).2 (.inl rfl)) hoi)
   refine ⟨r'',zO _ _ ⟨U3,(Xq5 q c res r'' hc FL hk1 hk2).1 _ U3⟩ hh,?_,λhno=>hk2 (λi' ci r' hi' hci=>hno i' ci r' ((GC hiL).2 (.inr hi')) hci)⟩;intro i' ci r' hi' hci hu;rw [GC hiL] at hi';rcases hi' with rfl|hi';rw [hoi,dT] at hci;cases hci;simp only [D0,RA] at hu;exact absurd hu.1.symm hqj;exact hk1 i' ci r' hi' hci hu;intro k hk;rcases uD k hk with h|⟨i',h1,h2⟩;exact .inl h;exact .inr ⟨i',(GC hiL).2 (.inr h1),h2⟩;cases hd:o.dst with
   |none=>exact jP
   |some d=>simp [Act.put,jP]
   intro q u hu;have other:o.dst≠some q->a.tmps[q]? =some u->Rep e w' (FW ops.toList s0.σ W (L.setIfInBounds i true) q) u:=by
    intro hne hu';have:=(wL q u hu').step st;unfold FW at this ⊢;cases hwt:F6 q ops.toList 0 with
    |none=>rw [hwt] at this;exact this
    |some k=>
     rw [hwt] at this;simp only at this ⊢;have hki:k≠i:=by
      rintro rfl;obtain ⟨_,o',ho',hd'⟩:=L2 hwt;simp only [Nat.sub_zero] at ho';rw [hoL] at ho';cases ho';exact hne hd'
     have e1:(L.setIfInBounds i true).getD k false=L.getD k false:=by
      simp [PF,Ne.symm hki]
     rw [e1];exact this
   cases hd:o.dst with
   |none=>rw [hd] at hu;exact other (by rw [hd];simp) hu
   |some d=>
    rw [hd] at hu;simp only [Act.put,Array.getElem?_setIfInBounds] at hu;by_cases hdt:d=q;subst hdt;obtain ⟨hw1,hw2⟩:=(B2 kE i o hoL).1 d hd;unfold FW;rw [hw1];simp only [Ap];rw [if_pos (show (L.setIfInBounds i true).getD i false=true from (GC hiL).2 (.inl rfl)),dT];exact .top _;rw [if_neg hdt] at hu;exact other (by rw [hd];simpa using hdt) hu
  refine D9 (λc h=>by rw [hop] at h;cases h) ?_
  unfold Oper.wp;have hex:(execOp a.eval o).run P w= .ok .skip w':=by
   obtain ⟨dst,op,type,pos,after,guard⟩:=o;simp only at hop;subst hop;simp [execOp,FD]
  rw [hex];exact hnew'
  obtain ⟨cc,s,x,t,tl,hop,dW,hca,hta,MC,Wv0⟩:=vL hap;obtain ⟨callee,cargs,cats⟩:=cc;simp only at dW hca hta;have hca':cargs=#[s,x]:=Array.ext' (by simpa using hca)
  have hta':cats=#[t,t]:=Array.ext' (by simpa using hta)
  subst hca';subst hta';subst dW;obtain ⟨u,w',FD,⟨e',rM,st,hE',H5,hF,hlv,hro⟩,_⟩:=wJ (P:=P) (ty:=o.type) MC hns hE hB.size hmi Wu6 (hρ s) (hρ x);have zO: ∀(k:Nat) (res:H9),(∀j,eat=some j->k≠s0.nx+j/\DI (s0.nx+j) res=false)->H2 e w k res->H2 e' w' k res:=by
   intro k res hk hh;refine hF k res (.inr ⟨hh,λq hq=>?_⟩);rcases Wv0 with ⟨j,h1,h2,_⟩|⟨_,v,h2⟩;rw [h2] at hq;cases hq;exact hk j h1;rw [h2] at hq;cases hq
  have mK:H2 e' w' (s0.nx+i) r:=hF _ _ (.inl ⟨⟨_,rfl⟩,rfl⟩);have hout':W[i]? =some ⟨val,some r,none,eat⟩:=by rw [hoi,dT]
  have hnew':gL ops c w0 T s0 W mm (L.setIfInBounds i true) (a.put o.dst u) w':=by
   refine ⟨by simp [hI.size],?_,?_,e',hE',hB.trans rM,?_,?_,?_,⟨λb hT=>⟨(qW.1 b hT).1,λh=>(qW.1 b hT).2 (hro b h)⟩,by rw [put_defers];exact qW.2.step st⟩,?_,?_⟩
   intro k o' ho' hk q hq;rw [GC hiL] at hk ⊢;rcases hk with rfl|hk;rw [hoL] at ho';cases ho';exact .inr (dS q hq);exact .inr (hI.dc k o' ho' hk q hq);intro k hk;rw [GC hiL] at hk;rcases hk with rfl|hk;exact him;exact hI.lt k hk;intro p hp;exact zO p.1 p.2 (λj _=>⟨by have:=AJ p hp;omega,zY (hAk.m0 p hp) _⟩) (hm0 p hp)
   intro q c hq hc res FL hne;rw [GC hiL] at hq;rcases hq with rfl|hq;rw [hout'] at hc;cases hc;cases FL;refine ⟨r,mK,?_,λ_=>rfl⟩;intro i' ci r' hi' hci hu;exfalso;rw [GC hiL] at hi';rcases hi' with rfl|hi';rw [hout'] at hci;cases hci;cases hu;exact Qj3 i' (BO (mL i' ci q r' hci hu)).1 hi';obtain ⟨r'',hh,hk1,hk2⟩:=uF q c hq hc res FL (λi' ci hi'=>hne i' ci ((GC hiL).2 (.inr hi')));have hna:=(Xq5 q c res r'' hc FL hk1 hk2).1;refine ⟨r'',zO _ _ (λj hj=>⟨λhe=>?_,hna _ U3⟩) hh,?_,λhno=>hk2 (λi' ci r' hi' hci=>hno i' ci r' ((GC hiL).2 (.inr hi')) hci)⟩;have hqj:q=j:=U3;exact hne i _ ((GC hiL).2 (.inl rfl)) hout' (by rw [hqj];exact hj)
   intro i' ci r' hi' hci hu;rw [GC hiL] at hi';rcases hi' with rfl|hi';rw [hout'] at hci;cases hci;cases hu;exact hk1 i' ci r' hi' hci hu;intro k hk;rcases hlv k hk with hk|rfl;rcases uD k hk with h|⟨i',h1,h2⟩;exact .inl h;exact .inr ⟨i',(GC hiL).2 (.inr h1),h2⟩;exact .inr ⟨i,(GC hiL).2 (.inl rfl),rfl⟩;cases hd:o.dst with
   |none=>exact jP
   |some d=>simp [Act.put,jP]
   intro q v hu;have other:o.dst≠some q->a.tmps[q]? =some v->Rep e' w' (FW ops.toList s0.σ W (L.setIfInBounds i true) q) v:=by
    intro hne hu';have:=(wL q v hu').step st;unfold FW at this ⊢;cases hwt:F6 q ops.toList 0 with
    |none=>rw [hwt] at this;exact this
    |some k=>
     rw [hwt] at this;simp only at this ⊢;have hki:k≠i:=by
      rintro rfl;obtain ⟨_,o',ho',hd'⟩:=L2 hwt;simp only [Nat.sub_zero] at ho';rw [hoL] at ho';cases ho';exact hne hd'
     have e1:(L.setIfInBounds i true).getD k false=L.getD k false:=by
      simp [PF,Ne.symm hki]
     rw [e1];exact this
   cases hd:o.dst with
   |none=>rw [hd] at hu;exact other (by rw [hd];simp) hu
   |some d=>
    rw [hd] at hu;simp only [Act.put,Array.getElem?_setIfInBounds] at hu;by_cases hdt:d=q;subst hdt;obtain ⟨hw1,hw2⟩:=(B2 kE i o hoL).1 d hd;rw [if_pos rfl,if_pos (by rw [jP];exact hw2)] at hu
    cases hu;unfold FW;rw [hw1];simp only [Ap];rw [if_pos (show (L.setIfInBounds i true).getD i false=true from (GC hiL).2 (.inl rfl)),dT];exact H5;rw [if_neg hdt] at hu;exact other (by rw [hd];simpa using hdt) hu
  refine D9 (λc h=>by rw [hop] at h;cases h) ?_
  refine DS (v:=u) (w':=w') ?_ hnew';obtain ⟨dst,op,type,pos,after,guard⟩:=o;simp only at hop;subst hop;simp [execOp,resolve,invoke,builtin,FD]
 have hw: ¬Region.wanted o (yielded ops a.tmps)=true:=by
  cases hv:PE ops.toList (HY ops.toList []) s0.σ (W.take i) dec' i (.tmp t) with
  |lit b=>
   rw [hv] at hl;simp [iK] at hl;simp [Region.wanted,hg,guardRun j want t b hg hgs hv,hl]
  |tup l=>simp [Region.wanted,hg,guardTup j want t l hg hgs hv]
  |_=>rw [hv] at hl;simp [iK] at hl
 rw [if_neg hw];refine ⟨λ_ _=>trivial,fin (by rw [hno];rfl) undef w ?_⟩
 rw [hno];exact G9 hE hmi (OP _ _)
end
theorem FT.drew{c:Cx}{w0:World}{T:Nat->Prop}{e:G8}{s:St}{a:Act}{w:World}(r:FT c w0 T e s a w):FT c w0 T e s a {w with drawn:=w.drawn+1}:=by
 have st:Step e e w {w with drawn:=w.drawn+1}:=⟨λ_ _ h=>⟨h,rfl⟩,λ_ h=>⟨h,rfl,rfl⟩,Am _⟩
 have hb:Below w.heap.size w {w with drawn:=w.drawn+1}:=⟨rfl,rfl,rfl,Am _,λ_ _=>rfl⟩
 exact ⟨⟨r.env.apart,r.env.owned,r.env.glob.step st⟩,r.below.trans (hb.mono r.hB),r.mem.ext hb st (λ_ _ h=>h),r.live,r.foe,r.xt.step st,r.slots.step st⟩
def Zp9{α:Type}(suf:List Oper->St->U6 α)(P:Program)(G:List (Nat×Spec))(X:Ext)(ops:List Oper)(s:St):U6 α:=
 match A7 s.σ.length ops ops 0 with
 |false=> .fail
 |true=>(kH P G X ops (HY ops []) s.σ s.m s.nx (qV (HY ops []) ops.length) (ops.take (qV (HY ops []) ops.length)) 0 [] []).bind λp=>match gJ s.nx s.m p.1 with
  |false=> .fail
  |true=>suf (ops.drop (qV (HY ops []) ops.length))
   {s with σ:=fA ops (qV (HY ops []) ops.length) p.1 p.2 s.σ 0,m:=LK s.nx p.1 p.1 0++s.m,nx:=s.nx+qV (HY ops []) ops.length}
section
variable {P:Program}{G:List (Nat×Spec)}{X:Ext}{ops:Array Oper}{c:Cx}{w0:World}{T:Nat->Prop}{s0:St}{W:List DD}{dec:List (Nat×Bool)}
theorem z7{σ:List AV}{t:Nat}{v:AV}(h:σ[t]? =some v):σ.getD t .top=v:=by simp [List.getD,h]
theorem m8{mm:Nat}(DM:PO P G X ops.toList (HY ops.toList []) s0.σ s0.m s0.nx mm W dec)(DJ:W.length=mm){L:Array Bool}{a:Act}{w:World}
  (hΦ:c.Φ s0.gh T w0)(hI:gL ops c w0 T s0 W mm L a w)(B9: ∀k,k<mm->inS L k):
  Rel c {s0 with σ:=fA ops.toList mm W dec s0.σ 0,m:=LK s0.nx W W 0++s0.m,nx:=s0.nx+mm} a w:=by
 obtain ⟨e,hE,hB,hm0,uF,uD,qW,jP,wL⟩:=hI.rel;refine ⟨w0,T,e,hΦ,hE,hB,?_,?_,qW.1,qW.2,?_,?_⟩;intro p hp;rcases List.mem_append.1 hp with hp|hp;obtain ⟨j,c,r,h1,h3,h4,h5,h6⟩:=yM hp;simp only [Ap] at h3 h5 h6;have hj:j<mm:=by rw [←DJ];exact (RO.1 h1).1
 rw [h3,h5];obtain ⟨r'',hh,hk1,hk2⟩:=uF j c (B9 j hj) h1 _ h4 (λi' ci _ hci he=>by rw [rX hci he] at h6;cases h6)
 cases hu:kD W j with
 |some r'=>
  obtain ⟨i',ci,hi',hui⟩:=j6 hu;have hi'm:i'<mm:=by rw [←DJ];exact (RO.1 hi').1
  rw [←hk1 i' ci r' (B9 i' hi'm) hi' hui];exact hh
 |none=>
  rw [←hk2 (λi' ci r' _ hci=>j7 hu i' ci r' hci)];exact hh
 exact hm0 p hp;intro k hk;show k<s0.nx+mm;rcases uD k hk with h|⟨i,h1,h2⟩;omega;have:=hI.lt i h1;omega;rw [xD];simpa using jP.symm;intro t av v hav hv;rw [MT] at hav;have hv':a.tmps[t]? =some v:=by simpa using hv
 rw [Ay] at hav;obtain ⟨a0,ha0,rfl⟩:=hav;have hs:=wL t v hv';unfold FW at hs;unfold Xr9;simp only [Ap];cases hwt:F6 t ops.toList 0 with
 |none=>rw [hwt] at hs;simp only at hs ⊢;rw [z7 ha0] at hs;exact hs
 |some k=>
  rw [hwt] at hs;simp only at hs ⊢;split;rename_i hb;have hk:k<mm:=by simpa [Aw] using hb
  rw [if_pos (show L.getD k false=true from B9 k hk)] at hs;simp only [Qy7];cases hld:LH dec k with
  |some d=>
   have:=(DM.1 k d hld).2;rw [this] at hs;exact hs.litOf
  |none=>exact hs
  rename_i hb;have hk: ¬k<mm:=λh=>by
   have h':Nat.blt k mm=true:=by rw [Aw];exact h
   rw [h'] at hb;cases hb
  rw [if_neg (show ¬L.getD k false=true from λh=>hk (hI.lt k h)),z7 ha0] at hs;exact hs
def Zw0(n k:Nat)(L:Array Bool):Prop:=L.size=n/\ ∀j,inS L j↔j<k
theorem Wc0{ro:Option Nat}{n:Nat}{Q:Exit->Act->World->Prop}{i:Nat}{rest:List Nat}{a:Act}{w:World}(h:wpOpsIn (fr ro) n P ops Q (i::rest) a w):wpOpIn (fr ro) n P ops Q i (wpOpsIn (fr ro) n P ops Q rest) a w:=by
 rwa [wpOpsIn_cons] at h
theorem iX{α:Type}{suf:List Oper->St->U6 α}(hG:U4 P G)(hX:UG P X c)(HE:P.follows .mixedOrders=true){s:St}{R:α->Prop}{Q:Exit->Act->World->Prop}(h:(Zp9 suf P G X ops.toList s).sat R){a:Act}{w:World}(r:Rel c s a w){ro:Option Nat}{n:Nat}
  (hsuf: ∀(l:List Oper) (k:Nat),l=ops.toList.drop k-> ∀(s:St) (a:Act) (w:World),(suf l s).sat R->Rel c s a w->wpOpsIn (fr ro) n P ops Q (List.range' k (ops.size-k)) a w):wpAnyIn (fr ro) n P .any ops Q ops.size (Array.replicate ops.size false) a {w with drawn:=w.drawn+1}:=by
 obtain ⟨w0,T,e,hΦ,r⟩:=r;unfold Zp9 at h;split at h;exact h.elim;rename_i kE;have h2:=U6.sat_bind h;generalize hM:HY ops.toList []=M at h2;generalize hmm:qV M ops.toList.length=mm at h2;have SP:mm<=ops.size:=by rw [←hmm];have:=bH M ops.toList.length;simpa using this
 obtain ⟨W,dec,R0,DM,DJ⟩:=xF (P:=P) (G:=G) (X:=X) (ops:=ops.toList) (M:=M) (σ0:=s.σ) (m0:=s.m) (nx0:=s.nx) (mm:=mm) (ops.toList.take mm) [] [] [] (by simp [Cd SP]) rfl h2 ⟨λk d hk=>by simp [LH] at hk,λi o O=>by simp at O⟩
 have hlen':W.length=mm:=by rw [DJ];simp;omega
 subst hM;have CG: ∀k j,mm<=k->k<ops.size->j<k->((HY ops.toList []).getD k 0).testBit j=true:=by
  intro k j h1 h2 h3;exact MN (y8 _ _ k (by rw [hmm];exact h1) (by simpa using h2)) h3
 have tZ: ∀k o,ops[k]? =some o-> ∀j∈DH o,j<k:=by
  intro k o ho j hj;have:=(B2 kE k o (by simpa using ho)).2 j hj
  simpa using this
 have AJ: ∀p∈s.m,p.1<s.nx:=by
  intro p hp;refine r.live p.1 ?_;have:=r.mem p hp;exact this.live
 obtain ⟨Zv5,R0⟩:gJ s.nx s.m W=true/\_:=by
  dsimp only at R0
  split at R0;exact R0.elim;rename_i hb;exact ⟨hb,R0⟩
 let s1:St:={s with σ:=fA ops.toList mm W dec s.σ 0,m:=LK s.nx W W 0++s.m,nx:=s.nx+mm}
 let Inv:Array Bool->Act->World->Prop:=λL a w=>(gL ops c w0 T s W mm L a w/\ ∃k,k<mm/\ ¬inS L k)\/(∃k,mm<=k/\k<=ops.size/\Zw0 ops.size k L/\wpOpsIn (fr ro) n P ops Q (List.range' k (ops.size-k)) a w)
 have dQ: ∀L a w,gL ops c w0 T s W mm L a w->(∀k,k<mm->inS L k)->Inv L a w:=by
  intro L a w hI B9;refine .inr ⟨mm,Am _,SP,⟨hI.size,λj=>⟨hI.lt j,B9 j⟩⟩,?_⟩;exact hsuf (ops.toList.drop mm) mm rfl s1 a w R0 (m8 DM hlen' hΦ hI B9)
 have vE: ∀(L:Array Bool),L.size=ops.size->Region.ready .any ops L=[]-> ∀k,k<ops.size->inS L k:=by
  intro L hsz hr k
  induction k using Nat.strongRecOn with
  |_ k ih=>
   intro hk;rcases Classical.em (inS L k) with h'|h';exact h';exfalso;have dU:k∈Region.ready .any ops L:=by
    unfold Region.ready;rw [List.mem_filter];refine ⟨List.mem_range.2 hk,?_⟩;have hok:ops[k]? =some ops[k]:=by simp [hk]
    rw [hok];simp only [Bt,HF,HV,Ax];refine ⟨?_,?_⟩;unfold inS at h';simp [PF,hsz,hk] at h' ⊢;exact h';rw [Array.all_eq_true_iff_forall_mem];intro ed hed;cases hb:Region.binds .any ed with
    |false=>simp
    |true=>
     have hj:ed.on∈DH ops[k]:=by
      simp only [DH,List.mem_map,List.mem_filter];exact ⟨ed,⟨by simpa using hed,hb⟩,rfl⟩
     have hlt:=tZ k _ hok _ hj;have:=ih ed.on hlt U3;simpa [inS] using this
   rw [hr] at dU;cases dU
 refine CS Inv ?_ ?_ ?_ ops.size _ a _ ?_ ?_
 rintro L a w i (⟨hI,k0,hk0,hk0'⟩|⟨k,hk1,hk2,⟨hsz,hfl⟩,hwp⟩) O;obtain ⟨hin,hun,o,ho,dS⟩:=DG O;have him:i<mm:=by
  rcases An i mm with h'|h';exact h';exfalso;exact hk0' (x8 hI.dc i o (by simpa using ho) dS k0 (CG i k0 h' hin U3))
 refine wpOpIn_mono (λa' w' hI'=>?_) (Za0 hG ⟨hX.c,hX.f,hX.d⟩ kE DM hlen' SP AJ (nW Zv5) hI O him);rcases Classical.em (∀k,k<mm->inS (L.setIfInBounds i true) k) with hf|hf;exact dQ _ _ _ hI' hf;refine .inl ⟨hI',?_⟩;rcases Classical.not_forall.1 hf with ⟨k,hk⟩;exact ⟨k,(Classical.not_imp.1 hk).1,(Classical.not_imp.1 hk).2⟩;obtain ⟨hin,hun,o,ho,dS⟩:=DG O;have hni: ¬inS L i:=qU (by rw [hsz];exact hin) hun
 have hki:k<=i:=by
             rcases An i k with h'|h';exact absurd ((hfl i).2 h') hni;exact h'
 have hdc:DC ops.toList L:=by
  intro k' o' ho' hk' j hj;have:=tZ k' o' (by simpa using ho') j hj
  have:=(hfl k').1 hk';exact (hfl j).2 U3
 have hik:i=k:=by
  rcases An k i with h'|h';exfalso;have:=x8 hdc i o (by simpa using ho) dS k (CG i k U3 hin h')
  have:=(hfl k).1 this;omega;omega
 subst hik;have e1:ops.size-i=(ops.size-(i+1))+1:=U3;rw [e1,List.range'_succ] at hwp;refine wpOpIn_mono (λa' w' hwp'=>?_) (Wc0 hwp);refine .inr ⟨i+1,U3,hin,⟨by simp [hsz],λj=>?_⟩,hwp'⟩
 rw [GC (by rw [hsz];exact hin),hfl]
 omega;rintro L a w (⟨hI,k0,hk0,hk0'⟩|⟨k,hk1,hk2,⟨hsz,hfl⟩,hwp⟩) hr;exact absurd (vE L hI.size hr k0 U3) hk0';have hkn:k=ops.size:=by
  rcases An k ops.size with h'|h';have:=(hfl k).1 (vE L hsz hr k h');omega;omega
 subst hkn;simpa [wpOpsIn] using hwp;rintro L a w (⟨hI,_⟩|⟨k,_,_,⟨hsz,_⟩,_⟩);exact hI.size;exact hsz
 have hno: ∀k,¬inS (Array.replicate ops.size false) k:=by
  intro k hk;unfold inS at hk;rw [PF,Array.getElem?_replicate] at hk;split at hk<;>cases hk
 have hI:gL ops c w0 T s W mm (Array.replicate ops.size false) a {w with drawn:=w.drawn+1}:=by
  have r:=r.drew;refine ⟨UE,λk o _ hk=>absurd hk (hno k),λk hk=>absurd hk (hno k),e,r.env,r.below,r.mem,λi c O=>absurd O (hno i),λk hk=> .inl (r.live k hk),⟨r.foe,r.xt⟩,by simpa using r.slots.1.symm,?_⟩
  intro t v hv;have hlt:t<s.σ.length:=by
   have h1:=r.slots.1;have h2:=(B1.1 hv).1;simp at h1;omega
  have hr:=r.slots.2 t s.σ[t] v (DP hlt) (by simpa using hv)
  unfold FW;have hg:s.σ.getD t .top=s.σ[t]:=by simp [List.getD,DP hlt]
  split;rename_i k hk;rw [if_neg (show ¬(Array.replicate ops.size false).getD k false=true from hno k),hg];exact hr;rw [hg];exact hr
 rcases Nat.eq_zero_or_pos mm with h0|h0;exact dQ _ _ _ hI (λk hk=>U3);exact .inl ⟨hI,0,h0,hno 0⟩;unfold unl;exact Ar List.countP_le_length UE
theorem EK(hG:U4 P G)(hX:UG P X c)(HE:P.follows .mixedOrders=true){s:St}{R:St->Prop}{Q:Exit->Act->World->Prop}(h:(Xm9 P G X ops.toList s).sat R){a:Act}{w:World}(r:Rel c s a w){ro:Option Nat}{n:Nat}
  (hQ: ∀s a w,R s->Rel c s a w->Q .normal a w):wpAnyIn (fr ro) n P .any ops Q ops.size (Array.replicate ops.size false) a {w with drawn:=w.drawn+1}:=
 iX (suf:=Wj1 P G X ops.toList) hG hX HE h r (uL hG hX hQ)
end
def yI(p:Nat)(o:Oper):Oper:={o with after:=o.after.push {on:=p,ground:= .data} }
def BK(p:Nat):Nat->List Oper->List Oper
 |_,[]=>[]
 | 0,o::l=>yI p o::l
 |s+1,o::l=>o::BK p s l
theorem zT(p:Nat): ∀(s:Nat) (l:List Oper) (i:Nat),(BK p s l)[i]? =if i=s then (l[i]?).map (yI p) else l[i]?
 |s,[],i=>by cases s<;>simp [BK]
 | 0,o::l,i=>by cases i<;>simp [BK]
 |s+1,o::l,i=>by
  cases i with
  |zero=>simp [BK]
  |succ i=>simp [BK,zT p s l i]
theorem BC(p:Nat): ∀(s:Nat) (l:List Oper),(BK p s l).length=l.length
 |s,[]=>by cases s<;>rfl
 | 0,o::l=>rfl
 |s+1,o::l=>by simp [BK,BC p s l]
def pN:Op->Bool
 | .pick _ _ _=>true
 | .move _=>true
 | .assign _=>true
 |_=>false
def rC(d:Nat):Operand->Bool
 | .tmp t=> !Nat.beq t d
 |_=>true
def exB(ops:List Oper)(p s:Nat):Bool:=match ops[p]?,ops[s]? with
 |some op,some os=>match op.dst,os.op with
  |some d,.store _ x y=> !Nat.beq p s&&pN op.op&&op.guard.isNone&&os.guard.isNone&&os.dst.isNone&&rC d x&&rC d y
    &&(DH op).all (λj=>Nat.testBit ((HY ops []).getD s 0) j)&&(List.range ops.length).all (λk=>Nat.beq k p||Nat.beq k s||Nat.testBit ((HY ops []).getD k 0) p||Nat.testBit ((HY ops []).getD s 0) k)
  |_,_=>false
 |_,_=>false
section
variable {P:Program}{F:Fence}{n:Nat}{Q:Exit->Act->World->Prop}
section
variable {Q':Exit->Act->World->Prop}
theorem Wf7(hq: ∀e a w,Q e a w->Q' e a w){o:Oper}{a:Act}{K:Act->World->Prop}{r:Result Next}(h:o.uponIn F n P a K Q r):o.uponIn F n P a K Q' r:=by
 have hl:LetsOut Q->LetsOut Q':=λ⟨a,w,h⟩=>⟨a,w,hq _ _ _ h⟩;cases r with
 |ok x w=>
  cases x<;>simp only [Oper.uponIn] at h ⊢ <;>first|exact h|skip
  refine ⟨h.1,CallsIn.mono h.2 λe w'' he=>?_⟩;cases e with
  |returned u=>exact he
  |panicked c=>exact hq _ _ _ he
  |outgrown=>exact hl he
  refine ⟨h.1,RoundIn.mono h.2 λe w'' he=>?_⟩;cases e with
  |returned u=>exact he
  |panicked c=>exact hq _ _ _ he
  |outgrown=>exact hl he
 |halt x w=>cases x<;>simp only [Oper.uponIn] at h ⊢ <;>first|exact h|exact hq _ _ _ h
theorem Wc1(hq: ∀e a w,Q e a w->Q' e a w){ops:Array Oper}{i:Nat}{K:Act->World->Prop}{a:Act}{w:World}(h:wpOpIn F n P ops Q i K a w):wpOpIn F n P ops Q' i K a w:=by
 unfold wpOpIn at h ⊢;split;rename_i ho;rw [ho] at h;exact h;rename_i o ho;rw [ho] at h;simp only at h;split;rename_i hw;rw [if_pos hw] at h;exact ⟨h.1,Wf7 hq h.2⟩;rename_i hw;rw [if_neg hw] at h;exact h
end
theorem ON{Q':Exit->Act->World->Prop}(hq: ∀e a w,Q e a w->Q' e a w){ops:Array Oper}{md:Region.Mode}: ∀{fuel:Nat} {L:Array Bool} {a:Act} {w:World},wpAnyIn F n P md ops Q fuel L a w->wpAnyIn F n P md ops Q' fuel L a w
 | 0,_,_,_,h=>⟨h.1,hq _ _ _ h.2⟩
 |fuel+1,_,_,_,h=>⟨λhr=>hq _ _ _ (h.1 hr),λi O=>Wc1 hq (wpOpIn_mono (λ_ _=>ON hq) (h.2 i O))⟩
section
variable {p s:Nat}{ops ops2:Array Oper}
theorem cE(h2:ops2.toList=BK p s ops.toList)(tmps:Array Value):yielded ops2 tmps=yielded ops tmps:=by
 have hg: ∀j,ops2[j]? =if j=s then (ops[j]?).map (yI p) else ops[j]? :=λj=>by
  have:=zT p s ops.toList j;rw [←h2] at this;simpa using this
 funext j;unfold yielded;rw [hg];by_cases hj:j=s;rw [if_pos hj];cases ops[j]? <;>rfl;rw [if_neg hj]
theorem zS(h2:ops2.toList=BK p s ops.toList){i:Nat}{K:Act->World->Prop}{a:Act}{w:World}:wpOpIn F n P ops2 Q i K a w↔wpOpIn F n P ops Q i K a w:=by
 have hg: ∀j,ops2[j]? =if j=s then (ops[j]?).map (yI p) else ops[j]? :=λj=>by
  have:=zT p s ops.toList j;rw [←h2] at this;simpa using this
 unfold wpOpIn;rw [hg,cE h2];by_cases hj:i=s;rw [if_pos hj];cases ops[i]? <;>exact Iff.rfl;rw [if_neg hj]
end
section
variable {ops:Array Oper}{i:Nat}{o:Oper}
theorem iF(hq: ∀c a w,¬Q (.panic c) a w)(ho:ops[i]? =some o)(hs:pN o.op=true)(hg:o.guard=none){K:Act->World->Prop}{a:Act}{w:World}(h:wpOpIn F n P ops Q i K a w):
  ∃v,K (a.put o.dst v) w/\ ∀(K':Act->World->Prop) w',K' (a.put o.dst v) w'->wpOpIn F n P ops Q i K' a w':=by
 have hw: ∀t,Region.wanted o (yielded ops t)=true:=λt=>by simp [Region.wanted,hg]
 have key: ∀v,(∀w,(o.semAt F.round a.eval).run P w= .ok (.value v) w)->(∀w,o.about P w a.eval=none)-> ∃v,K (a.put o.dst v) w/\ ∀(K':Act->World->Prop) w',K' (a.put o.dst v) w'->wpOpIn F n P ops Q i K' a w':=by
  intro v hv hab;refine ⟨v,?_,λK' w' hk=>?_⟩;unfold wpOpIn at h;rw [ho] at h;simp only [hw,if_true,Oper.wpIn,hv,Oper.uponIn] at h;exact h.2;unfold wpOpIn;rw [ho];simp only [hw,if_true,Oper.wpIn,hv,Oper.uponIn];exact ⟨λf hf=>(by rw [hab w'] at hf;cases hf),hk⟩
 obtain ⟨dst,op,type,pos,after,guard⟩:=o;simp only at hs hg;subst hg;cases op with
 |move x=>
  refine key (a.eval x) (λw=>?_) (λw=>rfl);rw [Oper.semAt_eq _ _ _ (λc h=>by cases h)]
  rfl
 |assign x=>
  refine key (a.eval x) (λw=>?_) (λw=>rfl);rw [Oper.semAt_eq _ _ _ (λc h=>by cases h)]
  rfl
 |pick c x y=>
  have he: ∀w,(Oper.semAt F.round a.eval ⟨dst,.pick c x y,type,pos,after,none⟩).run P w=(execOp a.eval ⟨dst,.pick c x y,type,pos,after,none⟩).run P w:=λw=>by
   rw [Oper.semAt_eq _ _ _ (λc h=>by cases h)]
  rcases Classical.em (∃b,a.eval c= .bool b) with ⟨b,hb⟩|hb;refine key (if b then a.eval x else a.eval y) (λw=>?_) (λw=>rfl)
  rw [he];simp [execOp,hb,asBool];exfalso;unfold wpOpIn at h;rw [ho] at h;simp only [hw,if_true,Oper.wpIn,he] at h;have h:=h.2;cases hc:a.eval c with
  |bool b=>exact hb ⟨b,hc⟩
  |_=>simp [execOp,hc,asBool,stuck,Oper.uponIn] at h
 |_=>simp [pN] at hs
theorem Qr9{t:TypeId}{x y:Operand}{d:Nat}{v:Value}(hq: ∀c a w,¬Q (.panic c) a w)(ho:ops[i]? =some o)(hop:o.op= .store t x y)(hg:o.guard=none)(hd:o.dst=none)(hx:rC d x=true)(hy:rC d y=true)
  {K:Act->World->Prop}{a:Act}{w:World}(h:wpOpIn F n P ops Q i K (a.put (some d) v) w):wpOpIn F n P ops Q i (λa' w'=>a'=a/\K (a.put (some d) v) w') a w:=by
 have hw: ∀t,Region.wanted o (yielded ops t)=true:=λt=>by simp [Region.wanted,hg]
 have ev: ∀z,rC d z=true->(a.put (some d) v).eval z=a.eval z:=λz hz=>Act.eval_put λd' hd'=>by
  cases hd';rintro rfl;simp [rC] at hz
 obtain ⟨dst,op,type,pos,after,guard⟩:=o;simp only at hop hg hd;subst hop hg hd;have he: ∀(b:Act),Oper.semAt F.round b.eval ⟨none,.store t x y,type,pos,after,none⟩=execOp b.eval ⟨none,.store t x y,type,pos,after,none⟩:=λb=>Oper.semAt_eq _ _ _ (λc h=>by cases h)
 have ex:execOp (a.put (some d) v).eval ⟨none,.store t x y,type,pos,after,none⟩=execOp a.eval ⟨none,.store t x y,type,pos,after,none⟩:=by
  simp only [execOp,ev x hx,ev y hy]
 unfold wpOpIn at h ⊢;rw [ho] at h ⊢;simp only [hw,if_true,Oper.wpIn,he,ex] at h ⊢;refine ⟨λf hf=>(by cases hf),?_⟩
 have h:=h.2;generalize hr:(execOp a.eval ⟨none,.store t x y,type,pos,after,none⟩).run P w=r at h;have hsk:(∃w',r= .ok .skip w')\/ ∃u w',r= .halt u w':=by
  rw [←hr];simp only [execOp,At];cases (Instr.storeAt t (a.eval x) (a.eval y)).run P w with
  |ok u w'=>exact .inl ⟨w',rfl⟩
  |halt u w'=>exact .inr ⟨u,w',rfl⟩
 rcases hsk with ⟨w',rfl⟩|⟨u,w',rfl⟩;simp only [Oper.uponIn] at h ⊢;exact ⟨rfl,h⟩;cases u<;>simp only [Oper.uponIn] at h ⊢;exact (hq _ _ _ h).elim
end
theorem Ws9{L:Array Bool}{i:Nat}(O:i<L.size)(h: ¬inS L i):L.getD i true=false:=by
 unfold inS at h;simp [PF,O] at h ⊢;exact h
theorem FZ{ops:Array Oper}{L:Array Bool}{i:Nat}{o:Oper}(hsz:L.size=ops.size)(ho:ops[i]? =some o)(hn: ¬inS L i)(hd: ∀j∈DH o,inS L j):i∈Region.ready .any ops L:=by
 have O:i<ops.size:=(B1.1 ho).1;unfold Region.ready;rw [List.mem_filter];refine ⟨List.mem_range.2 O,?_⟩;rw [ho];simp only [Bt,HF,HV,Ax];refine ⟨Ws9 (by rw [hsz];exact O) hn,?_⟩
 rw [Array.all_eq_true_iff_forall_mem];intro ed hed;cases hb:Region.binds .any ed with
 |false=>simp
 |true=>
  have hj:ed.on∈DH o:=by
   simp only [DH,List.mem_map,List.mem_filter];exact ⟨ed,⟨by simpa using hed,hb⟩,rfl⟩
  have:=hd ed.on hj;simpa [inS] using this
theorem qX{p:Nat}{o:Oper}{j:Nat}:j∈DH (yI p o)↔j∈DH o\/j=p:=by
 have:DH (yI p o)=DH o++[p]:=by
  have h1:List.filter (Region.binds .any) [({on:=p,ground:= .data}:Edge)]=[{on:=p,ground:= .data}]:=rfl;simp [DH,yI,List.filter_append,h1]
 rw [this];simp
theorem Wz5{ops ops2:Array Oper}{p s:Nat}(h2:ops2.toList=BK p s ops.toList)(hex:exB ops.toList p s=true)(hq: ∀c a w,¬Q (.panic c) a w):
  ∀(fuel:Nat) (L:Array Bool) (a:Act) (w:World),L.size=ops.size->DC ops.toList L->(inS L p\/ ¬inS L s)->wpAnyIn F n P .any ops2 Q fuel L a w->wpAnyIn F n P .any ops Q fuel L a w:=by
 have hg: ∀j,ops2[j]? =if j=s then (ops[j]?).map (yI p) else ops[j]? :=λj=>by
  have:=zT p s ops.toList j;rw [←h2] at this;simpa using this
 have gB:ops2.size=ops.size:=by
  have:=BC p s ops.toList;rw [←h2] at this;simpa using this
 unfold exB at hex;split at hex
 rotate_left
 cases hex;rename_i op os hop hos;have hop:ops[p]? =some op:=by simpa using hop
 have hos:ops[s]? =some os:=by simpa using hos
 split at hex
 rotate_left
 cases hex;rename_i d t x y hd hst;simp only [HV,Option.isNone_iff_eq_none,Ax,BU,Bl,List.mem_range] at hex;obtain ⟨⟨⟨⟨⟨⟨⟨⟨hps,Jo0⟩,hgp⟩,hgs⟩,hds⟩,hx⟩,hy⟩,Xq7⟩,DM⟩:=hex;have hps:p≠s:=λh=>by rw [h] at hps;simp at hps
 have hpl:p<ops.size:=(B1.1 hop).1;have hsl:s<ops.size:=(B1.1 hos).1
 have sub: ∀L i,L.size=ops.size->i∈Region.ready .any ops2 L->i∈Region.ready .any ops L:=by
  intro L i hL O;obtain ⟨g1,g2,o,g3,g4⟩:=DG O;have hn: ¬inS L i:=qU (by rw [hL,←gB];exact g1) g2
  rw [hg] at g3;by_cases his:i=s;rw [if_pos his,his,hos] at g3;cases g3;rw [his] at hn ⊢;exact FZ hL hos hn λj hj=>g4 j (qX.2 (.inl hj));rw [if_neg his] at g3;exact FZ hL g3 hn g4
 have sup: ∀L i,L.size=ops.size->i∈Region.ready .any ops L->(i≠s\/inS L p)->i∈Region.ready .any ops2 L:=by
  intro L i hL O hor;obtain ⟨g1,g2,o,g3,g4⟩:=DG O;have hn: ¬inS L i:=qU (by rw [hL];exact g1) g2
  by_cases his:i=s;subst his;rw [hos] at g3;cases g3;refine FZ (by rw [hL,gB]) (o:=yI p os) (by rw [hg,if_pos rfl,hos];rfl) hn λj hj=>?_
  rcases qX.1 hj with hj|rfl;exact g4 j hj;exact hor.resolve_left (λh=>h rfl);exact FZ (by rw [hL,gB]) (by rw [hg,if_neg his];exact g3) hn g4
 have rdp: ∀L,L.size=ops.size->DC ops.toList L->s∈Region.ready .any ops L-> ¬inS L p->p∈Region.ready .any ops L:=by
  intro L hL hdc hs hn;obtain ⟨g1,g2,o,g3,g4⟩:=DG hs;rw [hos] at g3;cases g3;exact FZ hL hop hn λj hj=>x8 hdc s os (by simpa using hos) g4 j (Xq7 j hj)
 have dcs: ∀L i,L.size=ops.size->DC ops.toList L->i∈Region.ready .any ops L->DC ops.toList (L.setIfInBounds i true):=by
  intro L i hL hdc O k o ho hk j hj;obtain ⟨g1,g2,o',g3,g4⟩:=DG O;have hiL:i<L.size:=by rw [hL];exact g1
  rw [GC hiL] at hk ⊢;right;rcases hk with rfl|hk;have ho:ops[k]? =some o:=by simpa using ho
  rw [g3] at ho;cases ho;exact g4 j hj;exact hdc k o ho hk j hj
 intro fuel
 induction fuel using Nat.strongRecOn with
 |_ fuel ih=>
 intro L a w hL hdc hor h;have yD:Region.ready .any ops2 L=[]->Region.ready .any ops L=[]:=by
  intro hr;rw [List.eq_nil_iff_forall_not_mem];intro i O;have: ∃k,k∈Region.ready .any ops2 L:=by
   by_cases hc:i≠s\/inS L p;exact ⟨i,sup L i hL O hc⟩;have his:i=s:=Classical.not_not.1 λh=>hc (.inl h);have hnp: ¬inS L p:=λh=>hc (.inr h);subst his;exact ⟨p,sup L p hL (rdp L hL hdc O hnp) (.inl hps)⟩
  obtain ⟨k,hk⟩:=this;rw [hr] at hk;cases hk
 have hnil':Region.ready .any ops L=[]->Region.ready .any ops2 L=[]:=by
  intro hr;rw [List.eq_nil_iff_forall_not_mem];intro i O;have:=sub L i hL O;rw [hr] at this;cases this
 cases fuel with
 |zero=>exact ⟨yD h.1,h.2⟩
 |succ fuel=>
  refine ⟨λhr=>h.1 (hnil' hr),λi O=>?_⟩;obtain ⟨g1,g2,o,g3,g4⟩:=DG O;have hiL:i<L.size:=by rw [hL];exact g1
  by_cases hc:i≠s\/inS L p;have h1:=(zS h2).1 (h.2 i (sup L i hL O hc));refine wpOpIn_mono (λa' w' h'=>ih fuel (Bk _) (L.setIfInBounds i true) a' w' (by simp [hL]) (dcs L i hL hdc O) ?_ h') h1
  rw [GC hiL,GC hiL];rcases hc with hc|hc;rcases hor with hor|hor;exact .inl (.inr hor);exact .inr (λh=>h.elim (λh=>hc h.symm) hor);exact .inl (.inr hc);have his:i=s:=Classical.not_not.1 λh=>hc (.inl h);have hnp: ¬inS L p:=λh=>hc (.inr h);subst his;have hpr:=rdp L hL hdc O hnp;have hpL:p<L.size:=by rw [hL];exact hpl
  have h1:=(zS h2).1 (h.2 p (sup L p hL hpr (.inl hps)));obtain ⟨v,h3,h4⟩:=iF hq hop Jo0 hgp h1;rw [hd] at h3 h4;have hsr:i∈Region.ready .any ops2 (L.setIfInBounds p true):=by
   have hn: ¬inS L i:=qU hiL g2;refine sup _ i (by simp [hL]) (FZ (by simp [hL]) g3 (λhh=>?_) (λj hj=>(GC hpL).2 (.inr (g4 j hj)))) (.inr ((GC hpL).2 (.inl rfl)))
   rcases (GC hpL).1 hh with hh|hh;exact hps hh.symm;exact hn hh
  cases fuel with
  |zero=>
   have:=h3.1;rw [this] at hsr;cases hsr
  |succ f=>
   have h5:=(zS h2).1 (h3.2 i hsr);have h6:=Qr9 hq hos hst hgs hds hx hy h5;refine wpOpIn_mono ?_ h6;rintro a' w' ⟨rfl,h7⟩;have Jo9: ¬inS (L.setIfInBounds i true) p:=λhh=>by
    rcases (GC hiL).1 hh with hh|hh;exact hps hh;exact hnp hh
   have Jp5:=dcs L i hL hdc O;have Zu6:p∈Region.ready .any ops (L.setIfInBounds i true):=by
    obtain ⟨q1,q2,o',q3,q4⟩:=DG hpr;exact FZ (by simp [hL]) q3 Jo9 λj hj=>(GC hiL).2 (.inr (q4 j hj))
   refine ⟨λhr=>(by rw [hr] at Zu6;cases Zu6),λk hk=>?_⟩
   have hkp:k=p:=by
    obtain ⟨k1,k2,ok,k3,k4⟩:=DG hk;have hnk: ¬inS (L.setIfInBounds i true) k:=qU (by simp [hL];exact k1) k2
    have hks:k≠i:=λhh=>hnk ((GC hiL).2 (.inl hh));rcases DM k (by simpa using k1) with ((hh|hh)|hh)|hh
    exact HK hh;exact absurd (HK hh) hks;exact absurd (x8 Jp5 k ok (by simpa using k3) k4 p hh) Jo9
    exfalso;rw [hos] at g3;cases g3;exact hnk ((GC hiL).2 (.inr (x8 hdc i os (by simpa using hos) g4 k hh)))
   subst hkp;refine h4 _ _ ?_;rw [Array.setIfInBounds_comm _ _ (Ne.symm hps)];refine ih f U3 _ _ _ (by simp [hL]) ?_ (.inl ?_) h7
   have:=dcs _ k (by simp [hL]) Jp5 Zu6
   rwa [Array.setIfInBounds_comm _ _ (Ne.symm hps)] at this
   rw [GC (by simp [hL];exact g1),GC hpL]
   exact .inr (.inl rfl)
end
def Qy3(ops:List Oper)(M:List Nat):List Nat->Option (Nat×Nat)
 |[]=>none
 |k::l=>match ops[k]? with
  |some o=>match o.op with
   | .store _ (.tmp t) _=>match F6 t ops 0 with
    |none=>match (List.range k).find? (λp=> !Nat.testBit (M.getD k 0) p) with
     |some p=>some (p,k)
     |none=>Qy3 ops M l
    |some _=>Qy3 ops M l
   |_=>Qy3 ops M l
  |none=>none
def Xm8(P:Program)(G:List (Nat×Spec))(X:Ext)(ops:List Oper)(s:St):U6 St:=match Qy3 ops (HY ops []) (List.range ops.length) with
 |some (p,k)=>match exB ops p k with
  |true=>Xm9 P G X (BK p k ops) s
  |false=>Xm9 P G X ops s
 |none=>Xm9 P G X ops s
def Xb3{α:Type}:List (U6 α)->U6 α
 |[]=> .fail
 |[t]=>t
 |t::u::l=> .may True t (Xb3 (u::l))
theorem TC{α:Type}{Q:α->Prop}: ∀{l:List (U6 α)},(Xb3 l).sat Q-> ∀t∈l,t.sat Q
 |[],_,_,h=>by cases h
 |[t],h,u,hu=>by
  rcases BE.1 hu with rfl;exact h
 |t::u::l,h,v,hv=>by
  rcases HA.1 hv with rfl|hv;exact h.1 trivial;exact TC h.2 v hv
def Qc6(P:Program)(G:List (Nat×Spec))(X:Ext)(ops:List Oper):Nat->Array Bool->St->U6 St
 | 0,L,s=>match Region.ready .any ops.toArray L with
  |[]=> .leaf s
  |_::_=> .fail
 |f+1,L,s=>match Region.ready .any ops.toArray L with
  |[]=> .leaf s
  |l=>Xb3 (l.map λi=>match ops[i]? with
   |some o=>(jH P G X ops o s).bind (Qc6 P G X ops f (L.setIfInBounds i true))
   |none=> .fail)
theorem kB{P:Program}{G:List (Nat×Spec)}{X:Ext}{c:Cx}(hG:U4 P G)(hX:UG P X c){ro:Option Nat}{n:Nat}{ops:Array Oper}{Q:Exit->Act->World->Prop}{R:St->Prop}(hQ: ∀s a w,R s->Rel c s a w->Q .normal a w):
  ∀(fuel:Nat) (L:Array Bool) (s:St) (a:Act) (w:World),(Qc6 P G X ops.toList fuel L s).sat R->Rel c s a w->wpAnyIn (fr ro) n P .any ops Q fuel L a w
 | 0,L,s,a,w,h,r=>by
  unfold Qc6 at h;split at h;rename_i hr;exact ⟨by simpa using hr,hQ s a w h r⟩
  exact h.elim
 |fuel+1,L,s,a,w,h,r=>by
  unfold Qc6 at h;split at h;rename_i hr;have hr:Region.ready .any ops L=[]:=by simpa using hr
  refine ⟨λ_=>hQ s a w h r,λi O=>?_⟩;rw [hr] at O;cases O;rename_i l hl;refine ⟨λhr=>absurd (by simpa using hr) hl,λi O=>?_⟩
  have hi':i∈Region.ready .any ops.toList.toArray L:=by simpa using O
  have h1:=TC h _ (List.mem_map.2 ⟨i,hi',rfl⟩);split at h1;rename_i o ho;exact jG hG hX (by simpa using ho) (U6.sat_bind h1) r (λs' a' w' hs' hr'=>kB hG hX hQ fuel _ s' a' w' hs' hr')
  exact h1.elim
def C7(ops:List Oper)(p:Nat):List AV->List AV->Nat->List AV
 |a::l,b::l',t=>(match F6 t ops 0 with
  |some k=>match Nat.beq k p with
   |true=>b
   |false=>a
  |none=>a)::C7 ops p l l' (t+1)
 |l,_,_=>l
theorem AN(ops:List Oper)(p:Nat): ∀(l l':List AV) (t:Nat),(C7 ops p l l' t).length=l.length
 |[],_,_=>by simp [C7]
 |a::l,[],t=>by simp [C7]
 |a::l,b::l',t=>by simp [C7,AN ops p l l' (t+1)]
theorem nD(ops:List Oper)(p:Nat): ∀(l l':List AV) (t i:Nat) (x:AV),(C7 ops p l l' t)[i]? =some x->
  (l[i]? =some x/\F6 (t+i) ops 0≠some p)\/(l'[i]? =some x/\F6 (t+i) ops 0=some p)\/(l[i]? =some x/\l'[i]? =none)
 |[],_,_,i,x,h=>by simp [C7] at h
 |a::l,[],t,i,x,h=> .inr (.inr ⟨by simpa [C7] using h,UE⟩)
 |a::l,b::l',t,0,x,h=>by
  unfold C7 at h;rw [List.getElem?_cons_zero] at h;split at h;rename_i k hk;split at h;rename_i hb;have:=HK hb;subst this;exact .inr (.inl ⟨by simpa using h,by simpa using hk⟩)
  rename_i hb;exact .inl ⟨by simpa using h,λhe=>by rw [Bg,hk] at he;cases he;simp at hb⟩
  rename_i hk;exact .inl ⟨by simpa using h,λhe=>by rw [Bg,hk] at he;cases he⟩
 |a::l,b::l',t,i+1,x,h=>by
  unfold C7 at h;rw [List.getElem?_cons_succ] at h;rcases nD ops p l l' (t+1) i x h with h|h|h;exact .inl ⟨by simpa using h.1,by rw [show t+(i+1)=t+1+i by omega];exact h.2⟩
  exact .inr (.inl ⟨by simpa using h.1,by rw [show t+(i+1)=t+1+i by omega];exact h.2⟩)
  exact .inr (.inr ⟨by simpa using h.1,by simpa using h.2⟩)
def Qg3(c:DD):Bool:=match c.add,c.upd,c.eat with
 |none,none,none=>true
 |_,_,_=>false
def gO(p:Nat)(M:List Nat):List Nat:=M.map (λx=>Nat.lor x (2^p))
theorem Qr5{p:Nat}{M:List Nat}{k j:Nat}(h:((gO p M).getD k 0).testBit j=true)(hj:j≠p):(M.getD k 0).testBit j=true:=by
 unfold gO at h;rw [List.getD_eq_getElem?_getD,Bn] at h;rw [List.getD_eq_getElem?_getD];cases hm:M[k]? with
 |none=>rw [hm] at h;simp at h
 |some x=>
  rw [hm] at h;simp only [Bt,HF] at h;have h':(x ||| 2^p).testBit j=true:=h
  rw [Nat.testBit_or,Nat.testBit_two_pow] at h';simp only [Bl,yN] at h';rcases h' with h'|h';exact h';exact absurd h'.symm hj
def Xp1(o:Oper):Bool:=match o.op with
 | .store _ _ _=>true
 |_=>false
def Jm4(ops:List Oper)(p mm m0:Nat):Bool:=match ops[p]? with
 |some o=>match o.op with
  | .load _ (.tmp t)=>match F6 t ops 0 with
   |none=>((ops.take m0).drop mm).any Xp1
   |some _=>false
  |_=>false
 |none=>false
def MM(ops:List Oper)(M:List Nat)(n m0:Nat):List Nat->Option (Nat×Nat)
 |[]=>none
 |p::l=>match Nat.blt p (qV (gO p M) n)&&(Nat.blt (qV (gO p M) n) m0&&Jm4 ops p (qV (gO p M) n) m0) with
  |true=>some (p,qV (gO p M) n)
  |false=>MM ops M n m0 l
theorem yG{ops:List Oper}{M:List Nat}{n m0:Nat}{p mm:Nat}: ∀{l:List Nat},MM ops M n m0 l=some (p,mm)->p<mm/\mm=qV (gO p M) n
 |[],h=>by cases h
 |q::l,h=>by
  unfold MM at h;split at h;rename_i hb;cases h;simp only [HV,Aw] at hb;exact ⟨hb.1,rfl⟩;exact yG h
def AG(n mm:Nat)(p:Option Nat):Array Bool:=((List.range n).map λk=>Nat.blt k mm&&(match p with
 |some q=> !Nat.beq k q
 |none=>true)).toArray
theorem SD{n mm:Nat}{p:Option Nat}{k:Nat}:inS (AG n mm p) k↔k<n/\k<mm/\p≠some k:=by
 unfold inS AG;rw [PF];simp only [List.getElem?_toArray,Bn];rcases An k n with h|h;rw [List.getElem?_range h];simp only [Bt,HF,HV,Aw];cases p with
 |none=>simp [h]
 |some q=>
  simp only [Ax,ne_eq,D0];constructor;rintro ⟨h1,h2⟩;exact ⟨h,h1,λhe=>by subst he;simp at h2⟩
  rintro ⟨_,h1,h2⟩;refine ⟨h1,?_⟩;cases hb:Nat.beq k q;rfl;exact absurd (HK hb).symm h2
 rw [Br (by simpa using h)]
 simp;omega
theorem IY(n mm:Nat)(p:Option Nat):(AG n mm p).size=n:=by simp [AG]
theorem Ql9{n:Nat}{L L':Array Bool}(h:L.size=n)(h':L'.size=n)(hk: ∀k,k<n->(inS L k↔inS L' k)):L=L':=by
 refine Array.ext U3 λk h1 h2=>?_;have:=hk k U3;unfold inS at this;simp only [PF,Array.getElem?_eq_getElem h1,Array.getElem?_eq_getElem h2,HF] at this;exact Bool.eq_iff_iff.2 this
def Xm6(P:Program)(G:List (Nat×Spec))(X:Ext)(ops:List Oper)(p mm:Nat)(s:St):U6 St:=
 match A7 s.σ.length ops ops 0 with
 |false=> .fail
 |true=>(kH P G X ops (HY ops []) s.σ s.m s.nx mm (ops.take mm) 0 [] []).bind λq=>match gJ s.nx s.m q.1&&Qg3 (q.1.getD p F5) with
  |false=> .fail
  |true=> .may True (Qc6 P G X ops ops.length (AG ops.length mm none) {s with σ:=fA ops mm q.1 q.2 s.σ 0,m:=LK s.nx q.1 q.1 0++s.m,nx:=s.nx+mm})
    (Qc6 P G X ops ops.length (AG ops.length mm (some p)) {s with σ:=C7 ops p (fA ops mm q.1 q.2 s.σ 0) s.σ 0,m:=LK s.nx q.1 q.1 0++s.m,nx:=s.nx+mm})
section
variable {P:Program}{G:List (Nat×Spec)}{X:Ext}{ops:Array Oper}{c:Cx}{w0:World}{T:Nat->Prop}{s0:St}{W:List DD}{dec:List (Nat×Bool)}
theorem Ws3{mm p:Nat}(DM:PO P G X ops.toList (HY ops.toList []) s0.σ s0.m s0.nx mm W dec)(DJ:W.length=mm){L:Array Bool}{a:Act}{w:World}
  (hΦ:c.Φ s0.gh T w0)(hI:gL ops c w0 T s0 W mm L a w)(B9: ∀k,k<mm->k≠p->inS L k)(hnp: ¬inS L p)(hpm:p<mm)(SO:Qg3 (W.getD p F5)=true):
  Rel c {s0 with σ:=C7 ops.toList p (fA ops.toList mm W dec s0.σ 0) s0.σ 0,m:=LK s0.nx W W 0++s0.m,nx:=s0.nx+mm} a w:=by
 have hpc: ∀cp,W[p]? =some cp->cp.add=none/\cp.upd=none/\cp.eat=none:=by
  intro cp hcp;have e:W.getD p F5=cp:=by rw [List.getD_eq_getElem?_getD,hcp];rfl
  rw [e] at SO;unfold Qg3 at SO;split at SO;rename_i h1 h2 h3;exact ⟨h1,h2,h3⟩;cases SO
 obtain ⟨e,hE,hB,hm0,uF,uD,qW,jP,wL⟩:=hI.rel;refine ⟨w0,T,e,hΦ,hE,hB,?_,?_,qW.1,qW.2,?_,?_⟩;intro q hq;rcases List.mem_append.1 hq with hq|hq;obtain ⟨j,c,r,h1,h3,h4,h5,h6⟩:=yM hq;simp only [Ap] at h3 h5 h6;have hj:j<mm:=by rw [←DJ];exact (RO.1 h1).1
 have hjp:j≠p:=by
  rintro rfl;rw [(hpc c h1).1] at h4;cases h4
 rw [h3,h5];obtain ⟨r'',hh,hk1,hk2⟩:=uF j c (B9 j hj hjp) h1 _ h4 (λi' ci _ hci he=>by rw [rX hci he] at h6;cases h6)
 cases hu:kD W j with
 |some r'=>
  obtain ⟨i',ci,hi',hui⟩:=j6 hu;have hi'm:i'<mm:=by rw [←DJ];exact (RO.1 hi').1
  have hip:i'≠p:=by
   rintro rfl;rw [(hpc ci hi').2.1] at hui;cases hui
  rw [←hk1 i' ci r' (B9 i' hi'm hip) hi' hui];exact hh
 |none=>
  rw [←hk2 (λi' ci r' _ hci=>j7 hu i' ci r' hci)];exact hh
 exact hm0 q hq;intro k hk;show k<s0.nx+mm;rcases uD k hk with h|⟨i,h1,h2⟩;omega;have:=hI.lt i h1;omega;rw [AN,xD];simpa using jP.symm;intro t av v hav hv;have hv':a.tmps[t]? =some v:=by simpa using hv
 have hs:=wL t v hv';have old: ∀x,(fA ops.toList mm W dec s0.σ 0)[t]? =some x->F6 t ops.toList 0≠some p->Rep e w x v:=by
  intro x hav hwp;rw [MT] at hav;rw [Ay] at hav;obtain ⟨a0,ha0,rfl⟩:=hav;unfold FW at hs;unfold Xr9;simp only [Ap];cases hwt:F6 t ops.toList 0 with
  |none=>rw [hwt] at hs;simp only at hs ⊢;rw [z7 ha0] at hs;exact hs
  |some k=>
   rw [hwt] at hs;have hkp:k≠p:=by
    rintro rfl;exact hwp hwt
   simp only at hs ⊢;split;rename_i hb;have hk:k<mm:=by simpa [Aw] using hb
   rw [if_pos (show L.getD k false=true from B9 k hk hkp)] at hs;simp only [Qy7];cases hld:LH dec k with
   |some d=>
    have:=(DM.1 k d hld).2;rw [this] at hs;exact hs.litOf
   |none=>exact hs
   rename_i hb;have hk: ¬k<mm:=λh=>by
    have h':Nat.blt k mm=true:=by rw [Aw];exact h
    rw [h'] at hb;cases hb
   rw [if_neg (show ¬L.getD k false=true from λh=>hk (hI.lt k h)),z7 ha0] at hs;exact hs
 rcases nD ops.toList p _ _ 0 t av hav with ⟨h1,h2⟩|⟨h1,h2⟩|⟨h1,h2⟩;exact old av h1 (by simpa using h2)
 rw [Ap] at h2;unfold FW at hs;rw [h2] at hs;simp only at hs;rw [if_neg (show ¬L.getD p false=true from hnp),z7 h1] at hs;exact hs;exfalso;have hlt:=(RO.1 h1).1;rw [xD] at hlt;rw [DP hlt] at h2;cases h2
theorem iU(hG:U4 P G)(hX:UG P X c)(HE:P.follows .mixedOrders=true){p mm:Nat}(hpm:p<mm)(hmm:mm=qV (gO p (HY ops.toList [])) ops.toList.length){s:St}{R:St->Prop}{Q:Exit->Act->World->Prop}(h:(Xm6 P G X ops.toList p mm s).sat R){a:Act}{w:World}(r:Rel c s a w){ro:Option Nat}{n:Nat}
  (hQ: ∀s a w,R s->Rel c s a w->Q .normal a w):wpAnyIn (fr ro) n P .any ops Q ops.size (Array.replicate ops.size false) a {w with drawn:=w.drawn+1}:=by
 obtain ⟨w0,T,e,hΦ,r⟩:=r;unfold Xm6 at h;split at h;exact h.elim;rename_i kE;have h2:=U6.sat_bind h;have SP:mm<=ops.size:=by rw [hmm];have:=bH (gO p (HY ops.toList [])) ops.toList.length;simpa using this
 obtain ⟨W,dec,R0,DM,DJ⟩:=xF (P:=P) (G:=G) (X:=X) (ops:=ops.toList) (M:=HY ops.toList []) (σ0:=s.σ) (m0:=s.m) (nx0:=s.nx) (mm:=mm) (ops.toList.take mm) [] [] [] (by simp [Cd SP]) rfl h2 ⟨λk d hk=>by simp [LH] at hk,λi o O=>by simp at O⟩
 have hlen':W.length=mm:=by rw [DJ];simp;omega
 have CG: ∀k j,mm<=k->k<ops.size->j<k->j≠p->((HY ops.toList []).getD k 0).testBit j=true:=by
  intro k j h1 h2 h3 h4;exact Qr5 (MN (y8 _ _ k (by rw [←hmm];exact h1) (by simpa using h2)) h3) h4
 have tZ: ∀k o,ops[k]? =some o-> ∀j∈DH o,j<k:=by
  intro k o ho j hj;have:=(B2 kE k o (by simpa using ho)).2 j hj
  simpa using this
 have AJ: ∀p∈s.m,p.1<s.nx:=by
  intro p hp;refine r.live p.1 ?_;have:=r.mem p hp;exact this.live
 obtain ⟨⟨Zv5,SO⟩,R0⟩:(gJ s.nx s.m W=true/\Qg3 (W.getD p F5)=true)/\_:=by
  dsimp only at R0
  split at R0;exact R0.elim;rename_i hb;rw [HV] at hb;exact ⟨hb,R0⟩
 have Qv9:ops.toList.length=ops.size:=UE
 let Inv:Array Bool->Act->World->Prop:=λL a w=>(gL ops c w0 T s W mm L a w/\ ∃k,k<mm/\k≠p/\ ¬inS L k)\/(L.size=ops.size/\ ∃fuel,wpAnyIn (fr ro) n P .any ops Q fuel L a w)
 have dQ: ∀L a w,gL ops c w0 T s W mm L a w->(∀k,k<mm->k≠p->inS L k)->Inv L a w:=by
  intro L a w hI B9;rcases Classical.em (inS L p) with hp|hp;have hL:L=AG ops.toList.length mm none:=Ql9 hI.size (by rw [IY];exact Qv9) λk hk=>by
   rw [SD];refine ⟨λh=>⟨U3,hI.lt k h,UE⟩,λh=>?_⟩;rcases Nat.decEq k p with he|he;exact B9 k h.2.1 he;rw [he];exact hp
  refine .inr ⟨hI.size,ops.toList.length,?_⟩;rw [hL];exact kB hG hX hQ _ _ _ a w (R0.1 trivial) (m8 DM hlen' hΦ hI λk hk=>by
   rcases Nat.decEq k p with he|he;exact B9 k hk he;rw [he];exact hp)
  have hL:L=AG ops.toList.length mm (some p):=Ql9 hI.size (by rw [IY];exact Qv9) λk hk=>by
   rw [SD];refine ⟨λh=>⟨U3,hI.lt k h,λhe=>by cases he;exact hp h⟩,λh=>B9 k h.2.1 λhe=>h.2.2 (by rw [he])⟩
  refine .inr ⟨hI.size,ops.toList.length,?_⟩;rw [hL];exact kB hG hX hQ _ _ _ a w R0.2 (Ws3 DM hlen' hΦ hI B9 hp hpm SO)
 have vE: ∀(L:Array Bool),L.size=ops.size->Region.ready .any ops L=[]-> ∀k,k<ops.size->inS L k:=by
  intro L hsz hr k
  induction k using Nat.strongRecOn with
  |_ k ih=>
   intro hk;rcases Classical.em (inS L k) with h'|h';exact h';exfalso;have dU:k∈Region.ready .any ops L:=by
    unfold Region.ready;rw [List.mem_filter];refine ⟨List.mem_range.2 hk,?_⟩;have hok:ops[k]? =some ops[k]:=by simp [hk]
    rw [hok];simp only [Bt,HF,HV,Ax];refine ⟨?_,?_⟩;unfold inS at h';simp [PF,hsz,hk] at h' ⊢;exact h';rw [Array.all_eq_true_iff_forall_mem];intro ed hed;cases hb:Region.binds .any ed with
    |false=>simp
    |true=>
     have hj:ed.on∈DH ops[k]:=by
      simp only [DH,List.mem_map,List.mem_filter];exact ⟨ed,⟨by simpa using hed,hb⟩,rfl⟩
     have hlt:=tZ k _ hok _ hj;have:=ih ed.on hlt U3;simpa [inS] using this
   rw [hr] at dU;cases dU
 refine CS Inv ?_ ?_ ?_ ops.size _ a _ ?_ ?_
 rintro L a w i (⟨hI,k0,hk0,hkp,hk0'⟩|⟨hsz,fuel,hwp⟩) O;obtain ⟨hin,hun,o,ho,dS⟩:=DG O;have him:i<mm:=by
  rcases An i mm with h'|h';exact h';exfalso;exact hk0' (x8 hI.dc i o (by simpa using ho) dS k0 (CG i k0 h' hin U3 hkp))
 refine wpOpIn_mono (λa' w' hI'=>?_) (Za0 hG ⟨hX.c,hX.f,hX.d⟩ kE DM hlen' SP AJ (nW Zv5) hI O him);rcases Classical.em (∀k,k<mm->k≠p->inS (L.setIfInBounds i true) k) with hf|hf;exact dQ _ _ _ hI' hf;refine .inl ⟨hI',?_⟩;rcases Classical.not_forall.1 hf with ⟨k,hk⟩;obtain ⟨h1,h2⟩:=Classical.not_imp.1 hk;obtain ⟨h3,h4⟩:=Classical.not_imp.1 h2;exact ⟨k,h1,h3,h4⟩;cases fuel with
 |zero=>
  have h1:Region.ready .any ops L=[]:=hwp.1;rw [h1] at O;cases O
 |succ fuel=>
  refine wpOpIn_mono (λa' w' hwp'=> .inr ⟨by simp [hsz],fuel,hwp'⟩) (hwp.2 i O)
 rintro L a w (⟨hI,k0,hk0,hkp,hk0'⟩|⟨hsz,fuel,hwp⟩) hr;exact absurd (vE L hI.size hr k0 U3) hk0';cases fuel with
 |zero=>exact hwp.2
 |succ fuel=>exact hwp.1 hr
 rintro L a w (⟨hI,_⟩|⟨hsz,_⟩);exact hI.size;exact hsz
 have hno: ∀k,¬inS (Array.replicate ops.size false) k:=by
  intro k hk;unfold inS at hk;rw [PF,Array.getElem?_replicate] at hk;split at hk<;>cases hk
 have hI:gL ops c w0 T s W mm (Array.replicate ops.size false) a {w with drawn:=w.drawn+1}:=by
  have r:=r.drew;refine ⟨UE,λk o _ hk=>absurd hk (hno k),λk hk=>absurd hk (hno k),e,r.env,r.below,r.mem,λi c O=>absurd O (hno i),λk hk=> .inl (r.live k hk),⟨r.foe,r.xt⟩,by simpa using r.slots.1.symm,?_⟩
  intro t v hv;have hlt:t<s.σ.length:=by
   have h1:=r.slots.1;have h2:=(B1.1 hv).1;simp at h1;omega
  have hr:=r.slots.2 t s.σ[t] v (DP hlt) (by simpa using hv)
  unfold FW;have hg:s.σ.getD t .top=s.σ[t]:=by simp [List.getD,DP hlt]
  split;rename_i k hk;rw [if_neg (show ¬(Array.replicate ops.size false).getD k false=true from hno k),hg];exact hr;rw [hg];exact hr
 rcases Classical.em (∀k,k<mm->k≠p->inS (Array.replicate ops.size false) k) with hf|hf;exact dQ _ _ _ hI hf;refine .inl ⟨hI,?_⟩;rcases Classical.not_forall.1 hf with ⟨k,hk⟩;obtain ⟨h1,h2⟩:=Classical.not_imp.1 hk;obtain ⟨h3,h4⟩:=Classical.not_imp.1 h2;exact ⟨k,h1,h3,h4⟩;unfold unl;exact Ar List.countP_le_length UE
end
def pS(P:Program)(G:List (Nat×Spec))(X:Ext)(ops:List Oper)(s:St):U6 St:=match Qy3 ops (HY ops []) (List.range ops.length) with
 |some _=>Xm8 P G X ops s
 |none=>match MM ops (HY ops []) ops.length (qV (HY ops []) ops.length) (List.range ops.length) with
  |some (p,mm)=>Xm6 P G X ops p mm s
  |none=>Xm8 P G X ops s
section
variable {P:Program}{F:Fence}{n:Nat}{Q:Exit->Act->World->Prop}
def Wm4(ops:List Oper):Bool:=ops.all λo=>match o.op with
 | .defer _=>false
 | .select _ _=>false
 |_=>true
def mvB(ops:List Oper)(p s:Nat):Bool:=match ops[p]? with
 |some op=>match op.op,op.dst with
  | .move x,some d=> !Nat.beq p s&&op.guard.isNone&&(DH op).isEmpty&&Wm4 ops&&(List.range ops.length).all (λj=>Nat.beq j p||(match ops[j]? with
   |some oj=>(DH oj).any (Nat.beq p)||op.apart ops.toArray oj
   |none=>true))
  |_,_=>false
 |none=>false
section
variable {ops:Array Oper}
theorem OL{p:Nat}{op:Oper}{x:Operand}{v:Value}(ho:ops[p]? =some op)(hop:op.op= .move x)(hg:op.guard=none){K:Act->World->Prop}{a:Act}{w:World}(hv:a.eval x=v)(h:K (a.put op.dst v) w):wpOpIn F n P ops Q p K a w:=by
 obtain ⟨dst,o,type,pos,after,guard⟩:=op;simp only at hop hg h;subst hop hg;unfold wpOpIn;rw [ho];have hw:Region.wanted (⟨dst,.move x,type,pos,after,none⟩:Oper) (yielded ops a.tmps)=true:=by simp [Region.wanted]
 have hs:(Oper.semAt F.round a.eval ⟨dst,.move x,type,pos,after,none⟩).run P w= .ok (.value v) w:=by
  rw [Oper.semAt_eq _ _ _ (λc h=>by cases h)]
  simp [execOp,hv]
 simp only [hw,if_true,Oper.wpIn,hs,Oper.uponIn];exact ⟨λf hf=>(by cases hf),h⟩
theorem a6{j:Nat}{oi oj:Oper}{x:Operand}{v:Value}(hj:ops[j]? =some oj)(hap:oi.apart ops oj=true)(hmv:oi.op= .move x)
  (hdj: ∀c,oj.op≠ .defer c)(hsj: ∀cs b,oj.op≠ .select cs b)(hQ: ∀c a w,¬Q (.panic c) a w){K:Act->World->Prop}{a:Act}{w:World}
  (hy:a.eval x=v)(h:wpOpIn F n P ops Q j K (a.put oi.dst v) w):
  wpOpIn F n P ops Q j (λa' w'=>a'.eval x=v/\K (a'.put oi.dst v) w') a w:=by
 obtain ⟨h1,h2,h3⟩:=Oper.apart_spec hap;have keep: ∀u,(a.put oj.dst u).eval x=v:=λu=>by
  rw [Act.eval_put λd hd hxd=>h3 d hd ?_];exact hy;subst hxd;exact Bd _ (List.mem_filterMap.2 ⟨.tmp d,by rw [hmv];simp [Op.operands],rfl⟩)
 unfold wpOpIn at*;simp only [hj] at*;rw [wanted_put oj a oi.dst v h1,about_put oj w a oi.dst v h1] at h;split
 ·rename_i hw;simp only [hw,if_true] at h;unfold Oper.wpIn at*;rw [about_put oj w a oi.dst v h1] at h;refine ⟨h.1,?_⟩;have h:=h.2;rw [Oper.semAt_eq _ _ _ hdj,execOp_put oj hsj a oi.dst v h1] at h;rw [Oper.semAt_eq _ _ _ hdj];generalize (execOp a.eval oj).run P w=r at*;cases r with
  |ok y w'=>
   cases y<;>simp only [Oper.uponIn] at h ⊢
   case value u=>exact ⟨keep u,by rw [←Act.put_comm a v u h2];exact h⟩
   case skip=>exact ⟨keep _,by rw [←Act.put_comm a v undef h2];exact h⟩
   case defer d=>
    refine ⟨?_,?_⟩;rw [show (({a with defers:=d::a.defers}:Act).put oj.dst undef).eval x=(a.put oj.dst undef).eval x from by cases oj.dst<;>cases x<;>rfl]
    exact keep undef;rw [←Act.put_comm _ v undef h2,←Act.put_defers];exact h
   case enter f args=>
    refine ⟨h.1,CallsIn.mono h.2 λe w'' he=>?_⟩;cases e with
    |returned u=>exact ⟨keep u,by rw [←Act.put_comm a v u h2];exact he⟩
    |panicked c=>exact (hQ _ _ _ he).elim
    |outgrown=>exact he
   case row row args=>exact ⟨h.1,RowsIn.mono h.2 λu w'' he=>⟨keep u,by rw [←Act.put_comm a v u h2];exact he⟩⟩
   case round l f tmps assign body=>
    refine ⟨h.1,RoundIn.mono h.2 λe w'' he=>?_⟩;cases e with
    |returned u=>exact ⟨keep u,by rw [←Act.put_comm a v u h2];exact he⟩
    |panicked c=>exact (hQ _ _ _ he).elim
    |outgrown=>exact he
  |halt u w'=>
   cases u<;>simp only [Oper.uponIn] at h ⊢
   case panic u=>exact (hQ _ _ _ h).elim
 rename_i hw;simp only [hw] at h;exact ⟨h.1,keep _,by rw [←Act.put_comm a v undef h2];exact h.2⟩
theorem sW{p:Nat}{op:Oper}{x:Operand}{v:Value}(O:ops[p]? =some op)(hop:op.op= .move x)(hg:op.guard=none)
  (hnd: ∀(j:Nat) (o:Oper),ops[j]? =some o->(∀c,o.op≠ .defer c)/\ ∀cs b,o.op≠ .select cs b)(hQ: ∀c a w,¬Q (.panic c) a w)
  (Wu8: ∀j oj,ops[j]? =some oj->j≠p->(∀k∈DH oj,k≠p)->op.apart ops oj=true):
  ∀(fuel:Nat) (L:Array Bool) (a:Act) (w:World),L.size=ops.size-> ¬inS L p->p∈Region.ready .any ops L->a.eval x=v->
   wpAnyIn F n P .any ops Q fuel (L.setIfInBounds p true) (a.put op.dst v) w->wpAnyIn F n P .any ops Q (fuel+1) L a w:=by
 have hpl:p<ops.size:=(B1.1 O).1;have mono: ∀(L:Array Bool) (j:Nat),L.size=ops.size->j∈Region.ready .any ops L->j≠p->j∈Region.ready .any ops (L.setIfInBounds p true):=by
  intro L j hL hj hne;obtain ⟨g1,g2,o,g3,g4⟩:=DG hj;have hpL:p<L.size:=by rw [hL];exact hpl
  refine FZ (by simp [hL]) g3 (λhh=>?_) (λk hk=>(GC hpL).2 (.inr (g4 k hk)))
  rcases (GC hpL).1 hh with hh|hh;exact hne hh;exact qU (by rw [hL];exact g1) g2 hh
 intro fuel
 induction fuel with
 |zero=>
  intro L a w hL hn hr hy H;refine ⟨λh=>(by rw [h] at hr;cases hr),λj hj=>?_⟩
  by_cases hjp:j=p;subst hjp;exact OL O hop hg hy H;have:=mono L j hL hj hjp;rw [H.1] at this;cases this
 |succ fuel ih=>
  intro L a w hL hn hr hy H;refine ⟨λh=>(by rw [h] at hr;cases hr),λj hj=>?_⟩
  by_cases hjp:j=p;subst hjp;exact OL O hop hg hy H;have h1:=H.2 j (mono L j hL hj hjp);obtain ⟨g1,g2,oj,g3,g4⟩:=DG hj;have hap:=Wu8 j oj g3 hjp λk hk he=>hn (he▸g4 k hk);have h2:=a6 g3 hap hop (hnd j oj g3).1 (hnd j oj g3).2 hQ hy h1;have hjL:j<L.size:=by rw [hL];exact g1
  refine wpOpIn_mono (λa' w' h3=>ih (L.setIfInBounds j true) a' w' (by simp [hL]) (λhh=>?_) ?_ h3.1 ?_) h2
  rcases (GC hjL).1 hh with hh|hh;exact hjp hh.symm;exact hn hh;obtain ⟨q1,q2,o',q3,q4⟩:=DG hr;refine FZ (by simp [hL]) q3 (λhh=>?_) λk hk=>(GC hjL).2 (.inr (q4 k hk))
  rcases (GC hjL).1 hh with hh|hh;exact hjp hh.symm;exact hn hh;rw [Array.setIfInBounds_comm _ _ hjp];exact h3.2
end
theorem Qy4{ops ops2:Array Oper}{p s:Nat}(h2:ops2.toList=BK p s ops.toList)(hmv:mvB ops.toList p s=true)(hq: ∀c a w,¬Q (.panic c) a w){a:Act}{w:World}
  (h:wpAnyIn F n P .any ops2 Q ops.size (Array.replicate ops.size false) a w):wpAnyIn F n P .any ops Q ops.size (Array.replicate ops.size false) a w:=by
 have hg: ∀j,ops2[j]? =if j=s then (ops[j]?).map (yI p) else ops[j]? :=λj=>by
  have:=zT p s ops.toList j;rw [←h2] at this;simpa using this
 have gB:ops2.size=ops.size:=by
  have:=BC p s ops.toList;rw [←h2] at this;simpa using this
 unfold mvB at hmv;split at hmv
 rotate_left
 cases hmv;rename_i op hop;have hop:ops[p]? =some op:=by simpa using hop
 split at hmv
 rotate_left
 cases hmv;rename_i x d hx hd;simp only [HV,Option.isNone_iff_eq_none,Ax,BU,Bl,List.mem_range,List.isEmpty_iff] at hmv;obtain ⟨⟨⟨⟨hps,hgd⟩,tZ⟩,hnd⟩,DM⟩:=hmv;have hps:p≠s:=λh=>by rw [h] at hps;simp at hps
 have hpl:p<ops.size:=(B1.1 hop).1;have hnd': ∀(j:Nat) (o:Oper),ops[j]? =some o->(∀c,o.op≠ .defer c)/\ ∀cs b,o.op≠ .select cs b:=by
  intro j o ho;unfold Wm4 at hnd;have:=BU.1 hnd o (by
   have:ops.toList[j]? =some o:=by simpa using ho
   exact FN this)
  exact ⟨λc hc=>(by rw [hc] at this;cases this),λcs b hc=>(by rw [hc] at this;cases this)⟩
 have Wu8: ∀j oj,ops[j]? =some oj->j≠p->(∀k∈DH oj,k≠p)->op.apart ops oj=true:=by
  intro j oj hj hne hno;have hjl:j<ops.toList.length:=by simpa using (B1.1 hj).1
  rcases DM j hjl with h|h;exact absurd (HK h) hne;have hj':ops.toList[j]? =some oj:=by simpa using hj
  rw [hj'] at h;simp only [Bl] at h;rcases h with h|h;exfalso;obtain ⟨k,hk,hb⟩:=List.any_eq_true.1 h;exact hno k hk (HK hb).symm;simpa using h
 have sub: ∀L i,L.size=ops.size->i∈Region.ready .any ops2 L->i∈Region.ready .any ops L:=by
  intro L i hL O;obtain ⟨g1,g2,o,g3,g4⟩:=DG O;have hn: ¬inS L i:=qU (by rw [hL,←gB];exact g1) g2
  rw [hg] at g3;by_cases his:i=s;rw [if_pos his,Ay] at g3;obtain ⟨os,hos,rfl⟩:=g3;exact FZ hL hos hn λj hj=>g4 j (qX.2 (.inl hj));rw [if_neg his] at g3;exact FZ hL g3 hn g4
 have sup: ∀L i,L.size=ops.size->i∈Region.ready .any ops L->inS L p->i∈Region.ready .any ops2 L:=by
  intro L i hL O hp;obtain ⟨g1,g2,o,g3,g4⟩:=DG O;have hn: ¬inS L i:=qU (by rw [hL];exact g1) g2
  by_cases his:i=s;refine FZ (by rw [hL,gB]) (o:=yI p o) (by rw [hg,if_pos his,g3];rfl) hn λj hj=>?_
  rcases qX.1 hj with hj|rfl;exact g4 j hj;exact hp;exact FZ (by rw [hL,gB]) (by rw [hg,if_neg his];exact g3) hn g4
 have hA: ∀(fuel:Nat) (L:Array Bool) (a:Act) (w:World),L.size=ops.size->inS L p->wpAnyIn F n P .any ops2 Q fuel L a w->wpAnyIn F n P .any ops Q fuel L a w:=by
  intro fuel
  induction fuel with
  |zero=>
   intro L a w hL hp h;refine ⟨?_,h.2⟩;rw [List.eq_nil_iff_forall_not_mem];intro i O;have:=sup L i hL O hp;rw [h.1] at this;cases this
  |succ fuel ih=>
   intro L a w hL hp h;refine ⟨λhr=>h.1 ?_,λi O=>?_⟩;rw [List.eq_nil_iff_forall_not_mem];intro i O;have:=sub L i hL O;rw [hr] at this;cases this;have hiL:i<L.size:=by rw [hL];exact (DG O).1
   exact wpOpIn_mono (λa' w' h'=>ih (L.setIfInBounds i true) a' w' (by simp [hL]) ((GC hiL).2 (.inr hp)) h') ((zS h2).1 (h.2 i (sup L i hL O hp)))
 have hno: ∀j,¬inS (Array.replicate ops.size false) j:=by
  intro j hj;unfold inS at hj;rw [PF,Array.getElem?_replicate] at hj;split at hj<;>cases hj
 have hL0:(Array.replicate ops.size false).size=ops.size:=UE;obtain ⟨f,hf⟩: ∃f,ops.size=f+1:=⟨ops.size-1,U3⟩;rw [show wpAnyIn F n P .any ops2 Q ops.size (Array.replicate ops.size false) a w=wpAnyIn F n P .any ops2 Q (f+1) (Array.replicate ops.size false) a w by rw [←hf]] at h
 rw [show wpAnyIn F n P .any ops Q ops.size (Array.replicate ops.size false) a w=wpAnyIn F n P .any ops Q (f+1) (Array.replicate ops.size false) a w by rw [←hf]]
 have hp0:p∈Region.ready .any ops (Array.replicate ops.size false):=FZ hL0 hop (hno p) (λj hj=>by rw [tZ] at hj;cases hj)
 have hp2:p∈Region.ready .any ops2 (Array.replicate ops.size false):=FZ (by rw [hL0,gB]) (o:=op) (by rw [hg,if_neg hps];exact hop) (hno p) (λj hj=>by rw [tZ] at hj;cases hj)
 have h3:=(zS h2).1 (h.2 p hp2)
 have h4:wpAnyIn F n P .any ops2 Q f ((Array.replicate ops.size false).setIfInBounds p true) (a.put op.dst (a.eval x)) w:=by
  obtain ⟨dst,o,type,pos,after,guard⟩:=op;simp only at hx hgd;subst hx hgd;unfold wpOpIn at h3;rw [hop] at h3;have hw:Region.wanted (⟨dst,.move x,type,pos,after,none⟩:Oper) (yielded ops a.tmps)=true:=by simp [Region.wanted]
  have hs:(Oper.semAt F.round a.eval ⟨dst,.move x,type,pos,after,none⟩).run P w= .ok (.value (a.eval x)) w:=by
   rw [Oper.semAt_eq _ _ _ (λc h=>by cases h)]
   simp [execOp]
  simp only [hw,if_true,Oper.wpIn,hs,Oper.uponIn] at h3;exact h3.2
 exact sW hop hx hgd hnd' hq Wu8 f _ a w hL0 (hno p) hp0 rfl (hA f _ _ w UE ((GC (by simpa using hpl)).2 (.inl rfl)) h4)
end
def mvGo(ops:List Oper)(k:Nat):Option Nat:=(List.range k).find? λp=> !Nat.testBit ((HY ops []).getD k 0) p&&mvB ops p k
def Wj2(P:Program)(G:List (Nat×Spec))(X:Ext):Nat->List Oper->St->U6 St
 | 0,ops,s=>pS P G X ops s
 |f+1,ops,s=>match Qy3 ops (HY ops []) (List.range ops.length) with
  |some (p,k)=>match exB ops p k with
   |true=>pS P G X ops s
   |false=>match mvGo ops k with
    |some q=>match mvB ops q k with
     |true=>Wj2 P G X f (BK q k ops) s
     |false=>pS P G X ops s
    |none=>match MM ops (HY ops []) ops.length (qV (HY ops []) ops.length) (List.range ops.length) with
     |some (p,mm)=>Xm6 P G X ops p mm s
     |none=>pS P G X ops s
  |none=>pS P G X ops s
theorem kT{P:Program}{G:List (Nat×Spec)}{X:Ext}{ops:Array Oper}{c:Cx}(hG:U4 P G)(hX:UG P X c)(HE:P.follows .mixedOrders=true){s:St}{R:St->Prop}{Q:Exit->Act->World->Prop}(h:(pS P G X ops.toList s).sat R){a:Act}{w:World}(r:Rel c s a w){ro:Option Nat}{n:Nat}
  (hQ: ∀s a w,R s->Rel c s a w->Q .normal a w)(hno: ∀c a w,¬Q (.panic c) a w):wpAnyIn (fr ro) n P .any ops Q ops.size (Array.replicate ops.size false) a {w with drawn:=w.drawn+1}:=by
 have hE: ∀h:(Xm8 P G X ops.toList s).sat R,wpAnyIn (fr ro) n P .any ops Q ops.size (Array.replicate ops.size false) a {w with drawn:=w.drawn+1}:=by
  intro h;unfold Xm8 at h;split at h;rename_i p k _;split at h;rename_i hex;have h1:=EK (ops:=(BK p k ops.toList).toArray) (Q:=Q) hG hX HE (ro:=ro) (n:=n) (R:=R) (by simpa using h) r hQ
  have hs:(BK p k ops.toList).toArray.size=ops.size:=by simp [BC]
  rw [hs] at h1;have hno': ∀j,¬inS (Array.replicate ops.size false) j:=by
   intro j hj;unfold inS at hj;rw [PF,Array.getElem?_replicate] at hj;split at hj<;>cases hj
  exact Wz5 rfl hex hno ops.size _ a _ UE (λj o _ hj=>absurd hj (hno' j)) (.inr (hno' k)) h1;exact EK hG hX HE h r hQ;exact EK hG hX HE h r hQ
 unfold pS at h;split at h;exact hE h;split at h;rename_i p mm hf;obtain ⟨h1,h2⟩:=yG hf;exact iU hG hX HE h1 h2 h r hQ;exact hE h
theorem iW{P:Program}{G:List (Nat×Spec)}{X:Ext}{c:Cx}(hG:U4 P G)(hX:UG P X c)(HE:P.follows .mixedOrders=true){s:St}{R:St->Prop}{Q:Exit->Act->World->Prop}{a:Act}{w:World}(r:Rel c s a w){ro:Option Nat}{n:Nat}
  (hQ: ∀s a w,R s->Rel c s a w->Q .normal a w)(hno: ∀c a w,¬Q (.panic c) a w): ∀(f:Nat) (ops:Array Oper),(Wj2 P G X f ops.toList s).sat R->wpAnyIn (fr ro) n P .any ops Q ops.size (Array.replicate ops.size false) a {w with drawn:=w.drawn+1}
 | 0,ops,h=>kT hG hX HE h r hQ hno
 |f+1,ops,h=>by
  unfold Wj2 at h;split at h;rename_i p0 k _;split at h;exact kT hG hX HE h r hQ hno;split at h;rename_i q _;split at h;rename_i hb;have h1:=iW (ro:=ro) (n:=n) hG hX HE r hQ hno f (BK q k ops.toList).toArray (by simpa using h)
  have hs:(BK q k ops.toList).toArray.size=ops.size:=by simp [BC]
  rw [hs] at h1;exact Qy4 rfl hb hno h1;exact kT hG hX HE h r hQ hno;split at h;rename_i p mm hf;obtain ⟨h1,h2⟩:=yG hf;exact iU hG hX HE h1 h2 h r hQ;exact kT hG hX HE h r hQ hno;exact kT hG hX HE h r hQ hno
theorem pU{P:Program}{G:List (Nat×Spec)}{X:Ext}{f:Nat}{ops:Array Oper}{c:Cx}(hG:U4 P G)(hX:UG P X c)(HE:P.follows .mixedOrders=true){id:Nat}{s:St}{R:St->Prop}{Q:Exit->Act->World->Prop}(h:(Wj2 P G X f ops.toList s).sat R){a:Act}{w:World}(r:Rel c s a w){ro:Option Nat}{n:Nat}
  (hQ: ∀s a w,R s->Rel c s a w->Q .normal a w):(Code.region id ops true).wpIn (fr ro) n P Q a w:=by
 refine wpIn_region_any HE ?_
 let Q':Exit->Act->World->Prop:=λe a w=>match e with
  | .normal=>Q .normal a w
  |_=>False
 refine ON (Q:=Q') (λe a w hq=>?_) (iW (Q:=Q') hG hX HE r hQ (λc a w hq=>hq) f ops h);cases e<;>first|exact hq|exact hq.elim
def jA:Op->Bool
 | .move _=>true
 | .assign _=>true
 | .extract _ _=>true
 | .nilCheck _=>true
 | .fieldAddr _ _ _=>true
 | .load _ _=>true
 | .lookup _ _ _ _=>true
 |_=>false
def Zs7:Op->Bool
 | .lookup _ _ _ _=>true
 |_=>false
section
variable {P:Program}
def stT(P:Program):List Oper->St->U6 St
 |[],s=> .leaf s
 |o::rest,s=>match o.guard with
  |some _=> .fail
  |none=>match jA o.op with
   |false=> .fail
   |true=>match aop P [] s.nx s.m (rho s.σ) o.op with
    |some (ns,val,_)=> .needT ns (stT P rest {s with σ:=z8 s.σ o.dst val})
    |none=>match nT P s.m (rho s.σ) o.op with
     |some (ns,p,v1,v2)=> .needT ns (.may p (stT P rest {s with σ:=z8 s.σ o.dst v1}) (stT P rest {s with σ:=z8 s.σ o.dst v2}))
     |none=> .fail
section
variable {o:Oper}{a:Act}{w:World}
theorem LQ{v:Value}{K:Act->Prop}(h:(execOp a.eval o).run P w= .ok (.value v) w)(k:K (a.put o.dst v)):o.still P a w K:=by
 unfold Oper.still;rw [h];exact ⟨rfl,k⟩
theorem iD{s:Sem Value}{K:Act->Prop}(hs:execOp a.eval o=(do pure (.value (←s))))(h:o.wp P a w (λa' w'=>w'=w/\K a') (λ_ _ _=>False)):o.still P a w K:=by
 unfold Oper.wp at h;rw [hs,At] at h;unfold Oper.still;rw [hs,At];cases hr:s.run P w with
 |ok u w'=>
  rw [hr] at h;simp only [Au,Bv,Oper.upon] at h;simp only [Au,Bv,Oper.stillUpon];exact h
 |halt x w'=>
  rw [hr] at h;cases x<;>simp [Result.andThen,Oper.upon] at h
end
section
variable {e:G8}{w:World}{m:HO}
theorem Wa6{id:Nat}{ρ:Operand->AV}{o:Oper}{a:Act}{ns:List Prop}{val:AV}{add:Option H9}(ho:jA o.op=true)
  (h:aop P [] id m ρ o.op=some (ns,val,add))(hn: ∀p∈ns,p)(hm:GH e m w)(hr: ∀x,Rep e w (ρ x) (a.eval x))
  {K:Act->Prop}(hK: ∀v,Rep e w val v->K (a.put o.dst v)):o.still P a w K:=by
 obtain ⟨dst,op,type,pos,after,guard⟩:=o;cases op<;>try (simp [jA] at ho;done)
 case move x=>
  simp only [aop,D0,RA] at h;obtain ⟨rfl,rfl,rfl⟩:=h;exact LQ (v:=a.eval x) (by simp [execOp]) (hK _ (hr x))
 case assign x=>
  simp only [aop,D0,RA] at h;obtain ⟨rfl,rfl,rfl⟩:=h;exact LQ (v:=a.eval x) (by simp [execOp]) (hK _ (hr x))
 case load t x=>
  obtain ⟨rfl,ad,u,hv,hu,H5⟩:=kZ (P:=P) (by simpa only [aop] using h) hn hm (hr x)
  exact LQ (v:=u) (by simp [execOp,Instr.loadAt,Instr.sureAddr,hv,hu]) (hK _ H5)
 case nilCheck x=>
  simp only [aop] at h;have hx:=hr x;have fin:val=ρ x->(∃ad,a.eval x= .pointer (some ad))\/(∃f l l',a.eval x= .func (.func f) l l')->Oper.still P ⟨dst,.nilCheck x,type,pos,after,guard⟩ a w K:=by
   rintro rfl hv;refine LQ (v:=a.eval x) ?_ (hK _ (hr x));rcases hv with ⟨ad,hv⟩|⟨f,l,l',hv⟩<;>simp [execOp,hv]
  split at h;rename_i heq;rw [heq] at hx;cases h;exact fin heq.symm (.inl hx.ptr_inv);rename_i heq;rw [heq] at hx;cases h;exact fin heq.symm (.inl hx.ro_inv);rename_i heq;rw [heq] at hx;cases h;exact fin heq.symm (.inl hx.elt_inv);rename_i heq;rw [heq] at hx;cases h;exact fin heq.symm (.inl hx.roI_inv);rename_i heq;rw [heq] at hx;cases h;obtain ⟨vs,vs',hv,_⟩:=hx.fn_inv;exact fin heq.symm (.inr ⟨_,_,_,hv⟩);cases h
 case fieldAddr t x k=>
  simp only [aop] at h;unfold x6 at h;split at h;rename_i fs hu;split at h;rename_i f hf;split at h;rename_i i O;split at h;cases h;rename_i s hs;obtain ⟨k1,rfl,rfl⟩:=L5 h;obtain ⟨ad,hv,H5⟩:=uK k1 (hr x);refine LQ (v:=_) ?_ (hK _ H5);simp [execOp,hv,Instr.fieldAt,run_underlying hu,hf,Instr.sureAddr,fieldPlace,sizeOf,typeInfo,O,hs];cases h;cases h;cases h
 case extract x i=>
  simp only [aop] at h;have hx:=hr x;split at h;rename_i l heq;rw [heq] at hx;obtain ⟨k1,rfl,rfl⟩:=L5 h;obtain ⟨vs,hv,hvs⟩:=hx.tup_inv;obtain ⟨u,hu,H5⟩:=hvs.get k1;exact LQ (v:=u) (by simp [execOp,Instr.extract,hv,hu]) (hK _ H5)
  cases h
 case lookup t x k ok=>
  obtain ⟨rfl,u,h1,h2⟩:=AF (P:=P) (by simpa only [aop] using h) (hr x) (hr k)
  exact LQ (v:=u) (by simp [execOp,h1]) (hK _ h2)
theorem Qc5{ρ:Operand->AV}{o:Oper}{a:Act}{ns:List Prop}{p:Prop}{v1 v2:AV}(ho:jA o.op=true)(h:nT P m ρ o.op=some (ns,p,v1,v2))(hn: ∀p∈ns,p)(hm:GH e m w)(hr: ∀x,Rep e w (ρ x) (a.eval x))
  {K:Act->Prop}(hK: ∀v,(p/\Rep e w v1 v)\/Rep e w v2 v->K (a.put o.dst v)):o.still P a w K:=by
 have hwp:=N7 (P:=P) (o:=o) (a:=a) (K:=λa' w'=>w'=w/\K a') (Q:=λ_ _ _=>False) h hn hm hr (λv hv=>⟨rfl,hK v hv⟩);obtain ⟨dst,op,type,pos,after,guard⟩:=o;cases op<;>try (simp [jA] at ho;done)
 case lookup t x k ok=>exact iD rfl hwp
 all_goals simp [nT] at h
end
theorem yU{ops:Array Oper}{c:Cx}{w0:World}{T:Nat->Prop}{e:G8}{w:World}{R:St->Prop}{g:Option Nat}: ∀(l:List Oper) (s:St) (a:Act),(stT P l s).sat R->s.gh=g->FT c w0 T e s a w->
  wpStill P ops w (λa'=> ∃s',R s'/\s'.gh=g/\FT c w0 T e s' a' w) l a
 |[],s,a,h,hg,r=>⟨s,h,hg,r⟩
 |o::rest,s,a,h,hgh,r=>by
  unfold stT at h;split at h;exact h.elim;rename_i hg;split at h;exact h.elim;rename_i ho;have hw:Region.wanted o (yielded ops a.tmps)=true:=by simp [Region.wanted,hg]
  unfold wpStill;rw [if_pos hw];have keep: ∀{av:AV} {v:Value},Rep e w av v->FT c w0 T e {s with σ:=z8 s.σ o.dst av} (a.put o.dst v) w:=λH5=>
   ⟨r.env,r.below,r.mem,r.live,r.foe,by rw [put_defers];exact r.xt,qZ r.slots o.dst H5⟩
  split at h;rename_i ns val add ha;obtain ⟨hn,h⟩:=U6.sat_needT h;exact Wa6 ho ha (GY hn) r.mem (RI r.slots) λv hv=>yU rest _ _ h hgh (keep hv);split at h;rename_i ns p v1 v2 ha;obtain ⟨hn,h⟩:=U6.sat_needT h;refine Qc5 ho ha (GY hn) r.mem (RI r.slots) λv hv=>?_;rcases hv with ⟨hp,hv⟩|hv;exact yU rest _ _ (h.1 hp) hgh (keep hv);exact yU rest _ _ h.2 hgh (keep hv);exact h.elim
theorem xW{ops:Array Oper}{md:Region.Mode}{w:World}{ro:Option Nat}{n:Nat}{Q:Act->Prop}{Q':Exit->Act->World->Prop}(hnd: ∀(j:Nat) (o:Oper),ops[j]? =some o-> ∀c,o.op≠ .defer c)(hQ: ∀a,Q a->Q' .normal a w):
  ∀(fuel:Nat) (listed:Array Bool) (a:Act),wpAnyS P md ops w Q fuel listed a->wpAnyIn (fr ro) n P md ops Q' fuel listed a w
 | 0,_,_,h=>⟨h.1,hQ _ h.2⟩
 |fuel+1,listed,a,h=>⟨λh0=>hQ _ (h.1 h0),λi O=>by
  have h:=h.2 i O;have ih:=λl a=>xW (md:=md) (ro:=ro) (n:=n) hnd hQ fuel l a;unfold stOp at h;unfold wpOpIn;cases ho:ops[i]? with
  |none=>
   simp only [ho] at h;exact ih _ _ h
  |some o=>
   simp only [ho] at h;simp only;by_cases hw:Region.wanted o (yielded ops a.tmps)=true;rw [if_pos hw] at h ⊢;exact D9 (hnd i o ho) (Oper.wp_of_still (λa' h'=>ih _ a' h') h);rw [if_neg hw] at h ⊢;exact ⟨λf _=>trivial,ih _ _ h⟩⟩
def N9(ops:List Oper):Bool:=ops.any (λo=>Zs7 o.op)&&(ops.all (λo=>jA o.op)&&Region.lexB .any ops.toArray)
theorem iC{ops:Array Oper}{c:Cx}(HE:P.follows .mixedOrders=true){id:Nat}{s:St}{R:St->Prop}{Q:Exit->Act->World->Prop}(hB:N9 ops.toList=true)(h:(stT P ops.toList s).sat R){a:Act}{w:World}(r:Rel c s a w){ro:Option Nat}{n:Nat}
  (hQ: ∀s a w,R s->Rel c s a w->Q .normal a w):(Code.region id ops true).wpIn (fr ro) n P Q a w:=by
 obtain ⟨w0,T,e,hΦ,r⟩:=r;unfold N9 at hB;simp only [HV] at hB;obtain ⟨_,hs,Wu7⟩:=hB;have Wu7:Region.lexB .any ops=true:=by simpa using Wu7
 simp only [Region.lexB,HV] at Wu7;refine wpIn_region_any HE ?_;have h1:=yU (ops:=ops) ops.toList s a h rfl r.drew;have h2:=wpAnyS_lex (md:= .any) Wu7.1 ops.toList 0 (Array.replicate ops.size false) a UE (by simpa using Wu7.2) h1
 refine xW (Q:=λa'=> ∃s',R s'/\s'.gh=s.gh/\FT c w0 T e s' a' {w with drawn:=w.drawn+1}) (λj o hj c hc=>?_) ?_ ops.size _ a (by simpa using h2)
 rotate_left
 rintro a' ⟨s',hR,hgh,r'⟩;exact hQ s' a' _ hR ⟨w0,T,e,by rw [hgh];exact hΦ,r'⟩
 have:=BU.1 hs o (by
  have:ops.toList[j]? =some o:=by simpa using hj
  exact FN this)
 rw [hc] at this;simp [jA] at this
end
def Xm7(P:Program)(G:List (Nat×Spec))(X:Ext)(ops:List Oper)(s:St):U6 St:=match N9 ops with
 |true=>stT P ops s
 |false=>Wj2 P G X 4 ops s
theorem EJ{P:Program}{G:List (Nat×Spec)}{X:Ext}{ops:Array Oper}{c:Cx}(hG:U4 P G)(hX:UG P X c)(HE:P.follows .mixedOrders=true){id:Nat}{s:St}{R:St->Prop}{Q:Exit->Act->World->Prop}(h:(Xm7 P G X ops.toList s).sat R){a:Act}{w:World}(r:Rel c s a w){ro:Option Nat}{n:Nat}
  (hQ: ∀s a w,R s->Rel c s a w->Q .normal a w):(Code.region id ops true).wpIn (fr ro) n P Q a w:=by
 unfold Xm7 at h;split at h;rename_i hB;exact iC HE hB h r hQ;exact pU hG hX HE h r hQ
inductive GR where
 |normal
 |exit (id:Nat)
 |ret
def GR.ex:GR->Exit
 | .normal=> .normal
 | .exit id=> .exit id
 | .ret=> .ret
abbrev CT:=U6 (GR×St)
def ES(cx:Cx)(Q:GR×St->Prop):Exit->Act->World->Prop:=λe a w=> ∃x s,e=GR.ex x/\Q (x,s)/\Rel cx s a w
abbrev G5:=St->Option CT
def D7(P:Program)(ro:Option Nat)(cx:Cx)(c:Code)(sp:G5):Prop:= ∀(n:Nat) (s:St) (t:CT),sp s=some t-> ∀Q:GR×St->Prop,t.sat Q-> ∀(a:Act) (w:World),Rel cx s a w->c.wpIn (fr ro) n P (ES cx Q) a w
def GU(P:Program)(c:Code)(sp:G5):Prop:= ∀(ro:Option Nat) (cx:Cx),D7 P ro cx c sp
def H3:Code->Nat
 | .seq a b=>H3 a+H3 b
 | .cond _ a b=>H3 a+H3 b
 | .block _ c=>H3 c
 | .scope c=>H3 c
 | .loop _=>1
 | .rangeFunc .. =>1
 |_=>0
def UC:Code->Nat->Option Code
 | .seq a b,j=>match Nat.blt j (H3 a) with
  |true=>UC a j
  |false=>UC b (j-H3 a)
 | .cond _ a b,j=>match Nat.blt j (H3 a) with
  |true=>UC a j
  |false=>UC b (j-H3 a)
 | .block _ c,j=>UC c j
 | .scope c,j=>UC c j
 | .loop c,j=>match j with
  | 0=>some (.loop c)
  |_+1=>none
 | .rangeFunc f ps a b,j=>match j with
  | 0=>some (.rangeFunc f ps a b)
  |_+1=>none
 |_,_=>none
theorem PU: ∀(c:Code) (j:Nat),H3 c<=j->UC c j=none:=by
 intro c
 induction c with
 |seq a b iha ihb=>
  intro j hj;simp only [H3] at hj;unfold UC;have:Nat.blt j (H3 a)=false:=by
   rw [Cb,ne_eq,Aw];omega
  rw [this];exact ihb _ U3
 |cond t a b iha ihb=>
  intro j hj;simp only [H3] at hj;unfold UC;have:Nat.blt j (H3 a)=false:=by
   rw [Cb,ne_eq,Aw];omega
  rw [this];exact ihb _ U3
 |block id c ih=>intro j hj;exact ih j hj
 |scope c ih=>intro j hj;exact ih j hj
 |loop c ih=>intro j hj;simp only [H3] at hj;cases j with|zero=>omega|succ j=>rfl
 |rangeFunc f ps a b iha ihb=>intro j hj;simp only [H3] at hj;cases j with|zero=>omega|succ j=>rfl
 |_=>intro j _;rfl
def nF(s:St):Operand->Bool->St
 | .tmp t,b=>Xo5 s t b
 |_,_=>s
theorem CR{F:Fence}{n:Nat}{P:Program}{Q:Exit->Act->World->Prop}{a:Act}{w:World}{c:Code}(h:c.wpIn F n P (Exit.noGoto Q) a w):(Code.scope c).wpIn F n P Q a w:=by
 intro b k cs hro hb hr;obtain ⟨e,a₁,w₁,hq,gD⟩:=h b (.inScope c::k) cs hro hb hr;have s1:step P (lone (b.atR a (.code (.scope c)::k)) cs w)= .next (lone (b.atR a (.code c:: .inScope c::k)) cs w):=step_lone_go (by simp [stepG,stepG.exec,Frame.atR])
 have s2:step P (lone (b.atR a₁ (.inScope c::k)) cs w₁)= .next (lone (b.atR a₁ k) cs w₁):=step_lone_go (by simp [stepG,stepG.exec,Frame.atR])
 have h0:(lone (b.atR a (.code (.scope c)::k)) cs w).fenced P F:=fenced_calm hb hr rfl;cases e with
 |normal=>exact ⟨.normal,a₁,w₁,hq,.head h0 s1 (StepsIn.trans gD (.one (fenced_calm hb hr rfl) s2))⟩
 |exit id=>
  have hx:exitTo id (.inScope c::k)=exitTo id k:=by simp [exitTo]
  exact ⟨.exit id,a₁,w₁,hq,λk' hk=> .head h0 s1 (gD.1 k' (by rw [hx];exact hk)),λhr' hk=>let ⟨k₁,h1,h2⟩:=gD.2 hr' (by rw [hx];exact hk);⟨k₁,h1,.head h0 s1 h2⟩⟩
 |goto l=>exact hq.elim
 |ret=>exact ⟨_,a₁,w₁,hq,.of_steps (.one h0 s1) gD⟩
 |panic ch=>exact ⟨_,a₁,w₁,hq,.of_steps (.one h0 s1) gD⟩
 |outgrown=>exact ⟨_,a₁,w₁,hq,.of_steps (.one h0 s1) gD⟩
def DR(P:Program)(G:List (Nat×Spec))(X:Ext)(L:List G5):Code->Nat->St->CT
 | .skip,_,s=> .leaf (.normal,s)
 | .label _,_,s=> .leaf (.normal,s)
 | .region _ ops draw,_,s=>match draw with
  |true=>(Xm7 P G X ops.toList s).bind λs=> .leaf (.normal,s)
  |false=>(Wj1 P G X ops.toList ops.toList s).bind λs=> .leaf (.normal,s)
 | .seq a b,off,s=>(DR P G X L a off s).bind λp=>match p.1 with
  | .normal=>DR P G X L b (off+H3 a) p.2
  |x=> .leaf (x,p.2)
 | .cond c a b,off,s=>match rho s.σ c with
  | .lit true=>DR P G X L a off s
  | .lit false=>DR P G X L b (off+H3 a) s
  | .x (.bool t)=> .branch t (DR P G X L a off (nF s c true)) (DR P G X L b (off+H3 a) (nF s c false))
  |_=> .fail
 | .block id c,off,s=>(DR P G X L c off s).bind λp=>match p.1 with
  | .exit i=>match Nat.beq i id with
   |true=> .leaf (.normal,p.2)
   |false=> .leaf (.exit i,p.2)
  |x=> .leaf (x,p.2)
 | .scope c,off,s=>DR P G X L c off s
 | .loop _,off,s=>match L[off]? with
  |some f=>match f s with
   |some t=>t
   |none=> .fail
  |none=> .fail
 | .rangeFunc _ _ _ _,off,s=>match L[off]? with
  |some f=>match f s with
   |some t=>t
   |none=> .fail
  |none=> .fail
 | .exit id,_,s=> .leaf (.exit id,s)
 | .ret,_,s=> .leaf (.ret,s)
 | .goto _,_,_=> .fail
 | .refuse _,_,_=> .fail
theorem fF{cx:Cx}{s:St}{a:Act}{w:World}{c:Operand}{b d:Bool}(r:Rel cx s a w)(hc:rho s.σ c= .x (.bool b))(hb:b=d):Rel cx (nF s c d) a w:=by
 obtain ⟨w0,T,e,hΦ,r⟩:=r;cases c with
 |tmp t=>exact ⟨w0,T,e,hΦ,bN r hc hb⟩
 |_=>exact ⟨w0,T,e,hΦ,r⟩
theorem DN{P:Program}{G:List (Nat×Spec)}{X:Ext}{cx:Cx}{L:List G5}(hG:U4 P G)(hX:UG P X cx)(HE:P.follows .mixedOrders=true){ro:Option Nat}{n:Nat}:
  ∀(c:Code) (off:Nat) (s:St) (Q:GR×St->Prop) (a:Act) (w:World),(∀j cj,UC c j=some cj-> ∀sp,L[off+j]? =some sp->D7 P ro cx cj sp)->(DR P G X L c off s).sat Q->Rel cx s a w->c.wpIn (fr ro) n P (ES cx Q) a w:=by
 intro c
 induction c with
 |skip=>intro off s Q a w _ h r;exact wpIn_skip ⟨.normal,s,rfl,h,r⟩
 |label l=>intro off s Q a w _ h r;exact wpIn_label ⟨.normal,s,rfl,h,r⟩
 |region id ops draw=>
  intro off s Q a w _ h r;unfold DR at h;cases draw with
  |true=>exact EJ hG hX HE (U6.sat_bind h) r (λs' a' w' hs hr=>⟨.normal,s',rfl,hs,hr⟩)
  |false=>
   refine wpIn_region ?_;have:=uL hG hX (ro:=ro) (n:=n) (ops:=ops) (Q:=ES cx Q) (R:=λs=>Q (.normal,s)) (λs' a' w' hs hr=>⟨.normal,s',rfl,hs,hr⟩) ops.toList 0 UE s a w (U6.sat_bind h) r
   rwa [Nat.sub_zero,←List.range_eq_range'] at this
 |seq x y ihx ihy=>
  intro off s Q a w hL h r;unfold DR at h;refine wpIn_seq ?_;have hx:=ihx off s _ a w (λj cj hj sp hsp=>hL j cj (by
   unfold UC;have hlt:j<H3 x:=by
    rcases An j (H3 x) with h'|h';exact h';exfalso;rw [PU x j h'] at hj;cases hj
   have:Nat.blt j (H3 x)=true:=by rw [Aw];exact hlt
   rw [this];exact hj) sp hsp) (U6.sat_bind h) r
  refine wpIn_mono hx ?_;rintro e a' w' ⟨ex,s',rfl,hq,hr⟩;cases ex with
  |normal=>
   simp only [GR.ex,Exit.then]
   refine ihy (off+H3 x) s' Q a' w' (λj cj hj sp hsp=>hL (H3 x+j) cj ?_ sp (by rw [←Ba];exact hsp)) hq hr
   unfold UC;have:Nat.blt (H3 x+j) (H3 x)=false:=by rw [Cb,ne_eq,Aw];omega
   rw [this];simpa using hj
  |exit i=>exact ⟨.exit i,s',rfl,hq,hr⟩
  |ret=>exact ⟨.ret,s',rfl,hq,hr⟩
 |cond t x y ihx ihy=>
  intro off s Q a w hL h r;have hLx: ∀j cj,UC x j=some cj-> ∀sp,L[off+j]? =some sp->D7 P ro cx cj sp:=by
   intro j cj hj sp hsp;refine hL j cj ?_ sp hsp;unfold UC;split;exact hj;rename_i hb;exfalso;have hge:H3 x<=j:=by
    rw [Cb,ne_eq,Aw] at hb;omega
   rw [PU x j hge] at hj;cases hj
  have hLy: ∀j cj,UC y j=some cj-> ∀sp,L[off+H3 x+j]? =some sp->D7 P ro cx cj sp:=by
   intro j cj hj sp hsp;refine hL (H3 x+j) cj ?_ sp (by rw [←Ba];exact hsp)
   unfold UC;have:Nat.blt (H3 x+j) (H3 x)=false:=by rw [Cb,ne_eq,Aw];omega
   rw [this];simpa using hj
  unfold DR at h;have r0:=r;obtain ⟨w0,T,e,hΦ,re⟩:=r;have hc:=RI re.slots t;split at h;rename_i heq;rw [heq] at hc;exact wpIn_cond_true hc.lit_inv (ihx off s Q a w hLx h r0);rename_i heq;rw [heq] at hc;exact wpIn_cond_false hc.lit_inv (ihy _ s Q a w hLy h r0);rename_i b heq;rw [heq] at hc;cases b;exact wpIn_cond_false hc.x_inv (ihy _ _ Q a w hLy (h.2 rfl) (fF r0 heq rfl));exact wpIn_cond_true hc.x_inv (ihx _ _ Q a w hLx (h.1 rfl) (fF r0 heq rfl));exact h.elim
 |block id c ih=>
  intro off s Q a w hL h r;unfold DR at h;refine wpIn_block (wpIn_mono (ih off s _ a w hL (U6.sat_bind h) r) ?_);rintro e a' w' ⟨ex,s',rfl,hq,hr⟩;cases ex with
  |normal=>exact ⟨.normal,s',rfl,hq,hr⟩
  |ret=>exact ⟨.ret,s',rfl,hq,hr⟩
  |exit i=>
   simp only [GR.ex,Exit.inBlock];simp only at hq;split at hq;rename_i hb;rw [if_pos (HK hb)];exact ⟨.normal,s',rfl,hq,hr⟩;rename_i hb;rw [if_neg (λhe=>by subst he;simp at hb)]
   exact ⟨.exit i,s',rfl,hq,hr⟩
 |scope c ih=>
  intro off s Q a w hL h r;unfold DR at h;refine CR (wpIn_mono (ih off s Q a w hL h r) ?_);rintro e a' w' ⟨ex,s',rfl,hq,hr⟩;cases ex with
  |normal=>exact ⟨.normal,s',rfl,hq,hr⟩
  |ret=>exact ⟨.ret,s',rfl,hq,hr⟩
  |exit i=>exact ⟨.exit i,s',rfl,hq,hr⟩
 |loop c ih=>
  intro off s Q a w hL h r;unfold DR at h;split at h;rename_i f hf;split at h;rename_i t ht;exact hL 0 _ rfl f (by simpa using hf) n s t ht Q h a w r
  exact h.elim;exact h.elim
 |rangeFunc f ps x y ihx ihy=>
  intro off s Q a w hL h r;unfold DR at h;split at h;rename_i f hf;split at h;rename_i t ht;exact hL 0 _ rfl f (by simpa using hf) n s t ht Q h a w r
  exact h.elim;exact h.elim
 |exit id=>intro off s Q a w _ h r;exact wpIn_exit ⟨.exit id,s,rfl,h,r⟩
 |ret=>intro off s Q a w _ h r;exact wpIn_ret ⟨.ret,s,rfl,h,r⟩
 |goto l=>intro off s Q a w _ h r;exact h.elim
 |refuse y=>intro off s Q a w _ h r;exact h.elim
def Wy2(P:Program)(m:HO)(t:TypeId):AV->Bool
 | .ptr id off=>match Nat.beq off 0 with
  |true=>match DY m id with
   |some (.ints _ pre n _)=>match pre with
    |[]=>match P.info? t with
     |some i=>Nat.ble i.size n&&Nat.blt 0 n
     |none=>false
    |_::_=>false
   |_=>false
  |false=>false
 |_=>false
theorem Qa5{P:Program}{m:HO}{t:TypeId}{a:AV}{ns:List Prop}{v:AV}{add:Option H9}(h:Wy2 P m t a=true)(hl:qI P m t a=some (ns,v,add)): ∀p∈ns,p:=by
 unfold Wy2 at h;split at h;rename_i id off;split at h;rename_i bT;have bT:=HK bT;subst bT;split at h;rename_i T pre n f hg;split at h;split at h;rename_i i O;simp only [HV] at h;have h1:=wP h.1;have h2:0<n:=by have:=h.2;simp [Nat.blt] at this;omega
 simp only [qI,hg] at hl;unfold ldI at hl;split at hl;rename_i hb;simp at hb;split at hl;rename_i fs i' hu hi';rw [O] at hi';cases hi';simp only [D0,RA] at hl;obtain ⟨rfl,_,_⟩:=hl;intro p hp;rw [BE.1 hp,wT];simpa using h1;rename_i fs i' hu hi';rw [O] at hi';cases hi';simp only [D0,RA] at hl;obtain ⟨rfl,_,_⟩:=hl;intro p hp;rw [BE.1 hp,wT];simpa using h1;simp only [D0,RA] at hl;obtain ⟨rfl,_,_⟩:=hl;intro p hp;rw [BE.1 hp,wT];simpa using h2;cases hl;cases h;cases h;cases h;cases h;cases h
def aK(P:Program)(s:St):ResultVar->Option AV
 | .tmp t=>some (s.σ.getD t .top)
 | .cell t T=>match qI P s.m T (s.σ.getD t .top) with
  |some ([],v,none)=>some v
  |some (_::_,v,none)=>match Wy2 P s.m T (s.σ.getD t .top) with
   |true=>some v
   |false=>none
  |_=>none
def Qs5(P:Program)(s:St):List ResultVar->Option (List AV)
 |[]=>some []
 |r::rs=>match aK P s r,Qs5 P s rs with
  |some v,some vs=>some (v::vs)
  |_,_=>none
def qH(P:Program)(s:St)(rs:List ResultVar):Option AV:=
 match Qs5 P s rs with
 |some [v]=>some v
 |some vs=>some (.tup vs)
 |none=>none
def EG(tmps:Array Value):ResultVar->Sem Value
 | .tmp t=>pure (tmps.getD t undef)
 | .cell p t=>do loadVar t (←asAddr (tmps.getD p undef))
theorem pR(fn:Func)(tmps:Array Value):results fn tmps=(do let vs ←fn.results.mapM (EG tmps);pure (if h:vs.size=1 then vs[0] else .tuple vs)):=by
 unfold results
 congr 1
theorem aJ{P:Program}{e:G8}{s:St}{tmps:Array Value}{w:World}(hm:GH e s.m w)(hs:UM e w s.σ tmps.toList){x:ResultVar}{v:AV}(h:aK P s x=some v):
  ∃u,(EG tmps x).run P w= .ok u w/\Rep e w v u:=by
 cases x with
 |tmp t=>
  simp only [aK,D0] at h;subst h;exact ⟨_,rfl,RI (a:={tmps:=tmps,defers:=[] }) hs (.tmp t)⟩
 |cell p T=>
  simp only [aK] at h;have fin: ∀(ns:List Prop) (v':AV),qI P s.m T (s.σ.getD p .top)=some (ns,v',none)->(∀p∈ns,p)->v'=v-> ∃u,(EG tmps (.cell p T)).run P w= .ok u w/\Rep e w v u:=by
   rintro ns v' hl hn rfl;have hr:=RI (a:={tmps:=tmps,defers:=[] }) hs (.tmp p);simp only [rho,Act.eval] at hr;obtain ⟨_,ad,u,had,hu,H5⟩:=kZ (P:=P) hl hn hm hr;exact ⟨u,by simp only [EG,had,asAddr,At,Bv,Au,hu],H5⟩
  split at h;rename_i v' hl;cases h;exact fin _ _ hl (λp hp=>by cases hp) rfl
  rename_i q qs v' hl;split at h;rename_i hf;cases h;exact fin _ _ hl (Qa5 hf hl) rfl;cases h;cases h
theorem EH{P:Program}{e:G8}{s:St}{tmps:Array Value}{w:World}(hm:GH e s.m w)(hs:UM e w s.σ tmps.toList): ∀{rs:List ResultVar} {vs:List AV},Qs5 P s rs=some vs->
  ∃us:List Value,(rs.mapM (EG tmps)).run P w= .ok us w/\UM e w vs us
 |[],vs,h=>by simp [Qs5] at h;subst h;exact ⟨[],UE,UM.nil e w⟩
 |x::rs,vs,h=>by
  unfold Qs5 at h;split at h;rename_i v vs' h1 h2;cases h;obtain ⟨u,hu,hr⟩:=aJ hm hs h1;obtain ⟨us,hus,hrs⟩:=EH hm hs h2;exact ⟨u::us,by simp only [List.mapM_cons,At,hu,Au,hus,Bv],UM.cons hr hrs⟩
  cases h
theorem F0{P:Program}{e:G8}{s:St}{tmps:Array Value}{w:World}(hm:GH e s.m w)(hs:UM e w s.σ tmps.toList){fn:Func}{v:AV}(h:qH P s fn.results.toList=some v): ∃u,(results fn tmps).run P w= .ok u w/\Rep e w v u:=by
 unfold qH at h;have key: ∀vs,Qs5 P s fn.results.toList=some vs-> ∃us:List Value,UM e w vs us/\(results fn tmps).run P w= .ok (if h:us.toArray.size=1 then us.toArray[0] else .tuple us.toArray) w:=by
  intro vs hvs;obtain ⟨us,hus,hrs⟩:=EH hm hs hvs;refine ⟨us,hrs,?_⟩;rw [pR,Array.mapM_eq_mapM_toList];simp only [At,Sem.run_map,hus,Au,Bv]
 split at h;rename_i v' hv;cases h;obtain ⟨us,hrs,FD⟩:=key _ hv;obtain ⟨u,us',rfl,hu,hus⟩:=hrs.cons_inv;cases hus.nil_inv;exact ⟨u,by simpa using FD,hu⟩
 rename_i vs hne hv;cases h;obtain ⟨us,hrs,FD⟩:=key _ hv;refine ⟨.tuple us.toArray,?_,Rep.tupL hrs⟩;have DJ:us.toArray.size≠1:=by
  intro h1;simp at h1;have hvl:vs.length=1:=by rw [hrs.1,h1]
  obtain ⟨x,hx⟩:=List.length_eq_one_iff.1 hvl;exact hne x hx
 rw [dif_neg DJ] at FD;exact FD;cases h
inductive kN (m:HO):AV->AV->Prop
 |top (r:AV):kN m r .top
 |x (v:Value):kN m (.x v) (.x v)
 |lit (b:Bool):kN m (.lit b) (.lit b)
 |litx (b:Bool):kN m (.lit b) (.x (.bool b))
 |agg (l l':List AV):l.length=l'.length->(∀(i:Nat) (a b:AV),l[i]? =some a->l'[i]? =some b->kN m a b)->kN m (.agg l) (.agg l')
 |tup (l l':List AV):l.length=l'.length->(∀(i:Nat) (a b:AV),l[i]? =some a->l'[i]? =some b->kN m a b)->kN m (.tup l) (.tup l')
 |row (id T sz n:Nat) (f f':Ci):DY m id=some (.row T sz n f)->(∀i,i<n->f i=f' i)->(∀i,i<n-> ∀a∈f' i,∃v,a= .x v)->kN m (.row id) (.lst sz n f')
 |nil (sz:Nat) (f:Ci):kN m (.x (.slice none 0 0)) (.lst sz 0 f)
 |fn0 (f:Fn):kN m (.fn f [] []) (.fn f [] [])
theorem kN.rep{e:G8}{B:Nat}{w0 w:World}{m:HO}(hE:GK e B w)(hB:w0.heap.size=B)(hm:GH e m w){r res:AV}{v:Value}(h:kN m r res)(k:Rep e w r v):Rep (BA w0 w) w res v:=by
 induction h generalizing v with
 |top r=>exact .top v
 |x u=>cases k.x_inv;exact .x _
 |lit b=>cases k.lit_inv;exact .lit _
 |litx b=>cases k.lit_inv;exact .x _
 |agg l l' hl hf ih=>
  obtain ⟨vs,rfl,h1,h2⟩:=k.agg_inv;refine .agg l' vs (by rw [←hl,h1]) (λi a u ha hu=>?_)
  have O:i<l.length:=by rw [hl];exact (RO.1 ha).1
  exact ih i _ a (DP O) ha (h2 i _ u (DP O) hu)
 |tup l l' hl hf ih=>
  obtain ⟨vs,rfl,h1,h2⟩:=k.tup_inv;refine .tup l' vs (by rw [←hl,h1]) (λi a u ha hu=>?_)
  have O:i<l.length:=by rw [hl];exact (RO.1 ha).1
  exact ih i _ a (DP O) ha (h2 i _ u (DP O) hu)
 |row id T sz n f f' hg hff hx=>
  obtain ⟨_,HQ,hf,xs,ho,H5⟩:=hm _ (GI hg)
  dsimp only at HQ ho
  cases k with
  |row _ a n' c hl hv=>
   rw [hv] at ho HQ;rcases ho.2 with ⟨hv0,hn0⟩|⟨g,cap,cur,hv0,_,hgg,hnc,hcm,hcs,yC⟩;cases hv0;subst hn0;exact .lstNil _ _;cases hv0;have hob:=HQ g rfl;have hbd:=hE.owned _ _ hob;refine Rep.lst (e:=BA w0 w) (w:=w) sz _ f' g 0 _ (λi j=>xs.getD (i*sz+j) .nilIface) (λ_=>⟨by rw [hB];exact hbd.1,hbd.2⟩) (λ_=>hbd.2) (λi O a ha=>?_) hnc hcm ?_ (λi O=>by rw [←hff i O];exact (hf i O).1) ?_ _ (λ_=>rfl)
   obtain ⟨u,rfl⟩:=hx i O a ha;exact .x u;intro i j O hj;have hle:i*sz+sz<=n*sz:=by
    have:=qJ sz (Az O)
    rwa [Bq] at this
   have yE:i*sz+j<xs.length:=by rw [ho.1];omega
   have hc:=ho.cells (g:=g) rfl (i*sz+j) xs[i*sz+j] (DP yE);rw [F2] at hc;rw [hc];simp [List.getD,DP yE];intro i j a O ha;have hj:j<sz:=by rw [←(hf i O).1,hff i O];exact (RO.1 ha).1
   have hle:i*sz+sz<=n*sz:=by
    have:=qJ sz (Az O)
    rwa [Bq] at this
   have yE:i*sz+j<xs.length:=by rw [ho.1];omega
   obtain ⟨u,rfl⟩:=hx i O a (FN ha);have:=H5 i j (.x u) xs[i*sz+j] O (by rw [hff i O];exact ha) (DP yE)
   simp only [List.getD,DP yE,HF];rw [this.x_inv];exact .x _
 |nil sz f=>cases k.x_inv;exact .lstNil sz f
 |fn0 f=>
  obtain ⟨vs,vs',rfl,h1,h2⟩:=k.fn_inv;cases h1.nil_inv;cases h2.nil_inv;exact .fn f [] [] [] [] rfl (λi a v h=>by simp at h) rfl (λi a v h=>by simp at h)
def D5(fn:Func)(avs:List AV):St:={σ:=avs++List.replicate (fn.ntmps-avs.length) .top,m:=[],nx:=0}
def Xi3(P:Program)(fn:Func)(res:AV)(p:GR×St):Prop:=(match p.1 with| .exit _=>False|_=>True)/\ ∃r,qH P p.2 fn.results.toList=some r/\kN p.2.m r res
def nI(P:Program)(G:List (Nat×Spec))(L:List G5)(c:Code)(off:Nat)(s:St):CT:=DR P G {} L c off s
theorem Rep.sameCells{e:G8}{w w':World}(hsz:w'.heap.size=w.heap.size)(hc: ∀ad,w'.cell? ad=w.cell? ad)(hmp: ∀(b:Nat) (es:Array MapEntry) (c:Nat),w.heap[b]? =some (Obj.map es c)->w'.heap[b]? =some (Obj.map es c)){a:AV}{v:Value}(h:Rep e w a v):Rep e w' a v:=by
 induction h with
 |top v=>exact .top v
 |lit b=>exact .lit b
 |x v=>exact .x v
 |agg l vs h1 h2 ih=>exact .agg l vs h1 ih
 |tup l vs h1 h2 ih=>exact .tup l vs h1 ih
 |fn f l l' vs vs' h1 h2 h3 h4 ih1 ih2=>exact .fn f l l' vs vs' h1 ih1 h3 ih2
 |ptr id off hl=>exact .ptr id off hl
 |row id a n c hl hv=>exact .row id a n c hl hv
 |elt id sz i j b n cap hl hv=>exact .elt id sz i j b n cap hl hv
 |ro l vs b o hr hb hf h1 h2 h3 ih=>exact .ro l vs b o hr (by rw [hsz];exact hb) hf h1 (λj v hj=>by rw [hc];exact h2 j v hj) ih
 |lstNil sz f=>exact .lstNil sz f
 |lst sz n f b o cap g hr hb hf Jp7 hm h1 h2 h3 ad had ih=>exact .lst sz n f b o cap g hr (λh=>by rw [hsz];exact hb h) hf Jp7 hm (λi j O hj=>by rw [hc];exact h1 i j O hj) h2 ih ad had
 |mp id hl=>exact .mp id hl
 |mpr g okf vals b es c hr hb hf h1 h2 h3 h4 h5 ih=>exact .mpr g okf vals b es c hr (by rw [hsz];exact hb) hf (hmp _ _ _ h1) h2 h3 h4 ih
 |any1 v hv=>exact .any1 v hv
 |roI pre n f off b o h ih=>exact .roI pre n f off b o ih
theorem UM.sameCells{e:G8}{w w':World}(hsz:w'.heap.size=w.heap.size)(hc: ∀ad,w'.cell? ad=w.cell? ad)(hmp: ∀(b:Nat) (es:Array MapEntry) (c:Nat),w.heap[b]? =some (Obj.map es c)->w'.heap[b]? =some (Obj.map es c)){l:List AV}{vs:List Value}(h:UM e w l vs):UM e w' l vs:=⟨h.1,λi a v ha hv=>(h.2 i a v ha hv).sameCells hsz hc hmp⟩
theorem LW{w:World}{D:Nat}{o o':Obj}(h:w.heap[D]? =some o)(ho:o.isCells=false)(ho':o'.isCells=false)(ad:Addr):(w.putObj D o').cell? ad=w.cell? ad:=by
 have hlt:=(B1.1 h).1;unfold World.cell?;by_cases hb:ad.block=D;rw [hb,World.putObj_heap_same hlt,h];cases o<;>cases o'<;>simp_all [Obj.isCells];rw [Bu hb]
theorem CI{e:G8}{w:World}{l:Nat}{o o':Obj}(h:DQ e w)(hl:w.heap[l]? =some o)(ho:o.isCells=false):DQ e (w.putObj l o'):=λb p hp=>by
 obtain ⟨h1,h2,q,h3,h4,h5⟩:=h b p hp;have hne:b≠l:=by
  rintro rfl;rw [hl] at h3;cases h3;rw [ho] at h4;cases h4
 exact ⟨h1,by rw [World.putObj_size];exact h2,q,(Bu hne).trans h3,h4,h5⟩
theorem PP{w:World}{D:Nat}{o o':Obj}(h:w.heap[D]? =some o)(hom: ∀es c,o≠Obj.map es c): ∀(b:Nat) (es:Array MapEntry) (c:Nat),w.heap[b]? =some (Obj.map es c)->(w.putObj D o').heap[b]? =some (Obj.map es c):=by
 intro b es c hb;have hne:b≠D:=by
  rintro rfl;rw [h] at hb;exact hom es c (Bb hb)
 rw [Bu hne];exact hb
theorem H2.putObj{e:G8}{w:World}{D:Nat}{o o':Obj}(h:w.heap[D]? =some o)(hom: ∀es c,o≠Obj.map es c)(ho:o.isCells=false)(ho':o'.isCells=false)(HQ:e.own D=none){id:Nat}{r:H9}(k:H2 e w id r):H2 e (w.putObj D o') id r:=by
 have hsz:(w.putObj D o').heap.size=w.heap.size:=World.putObj_size;have hc:=LW h ho ho';have hmp:=PP (o':=o') h hom;have MB: ∀b k,e.own b=some k->(w.putObj D o').heap[b]? =w.heap[b]? :=λb k hb=>Bu (λhe=>by rw [he,HQ] at hb;cases hb)
 cases r with
 |cells T l=>
  obtain ⟨h1,h2,vs,h3,h4⟩:=k;exact ⟨h1,h2,vs,(MB _ _ h2).trans h3,h4.sameCells hsz hc hmp⟩
 |row T sz n f=>
  obtain ⟨h1,h2,hf,xs,h3,h4⟩:=k;refine ⟨h1,h2,hf,xs,⟨h3.1,h3.2.imp (λh=>h) ?_⟩,λi j a v O ha hv=>(h4 i j a v O ha hv).sameCells hsz hc hmp⟩;rintro ⟨g',cap,cur,hv,hg,hh,rest⟩;exact ⟨g',cap,cur,hv,hg,(MB g' id (h2 g' (by rw [hv];rfl))).trans hh,rest⟩
 |ints T pre n f=>
  obtain ⟨h1,h2,vs,h3,h4⟩:=k;exact ⟨h1,h2,vs,(MB _ _ h2).trans h3,h4.sameCells hsz hc hmp⟩
 |memo h' f=>
  obtain ⟨h1,h2,es,c,h3,h4⟩:=k;exact ⟨h1,h2,es,c,(MB _ _ h2).trans h3,h4⟩
 |keep T l=>
  obtain ⟨h1,h2,h0,vs,h3,h4⟩:=k;have hne:e.blk id≠D:=by
   rintro hD;rw [←hD,h3] at h;cases h;simp [Obj.isCells] at ho
  exact ⟨h1,h2,by rw [hsz];exact h0,vs,(Bu hne).trans h3,h4.sameCells hsz hc hmp⟩
 |aka r T sz n f=>
  obtain ⟨h1,h0,o,hor,h2,hf,xs,h3,h4⟩:=k;refine ⟨h1,h0,o,hor,h2,hf,xs,⟨h3.1,h3.2.imp (λh=>h) ?_⟩,λi j a v O ha hv=>(h4 i j a v O ha hv).sameCells hsz hc hmp⟩;rintro ⟨g',cap,cur,hv,hg,hh,rest⟩;exact ⟨g',cap,cur,hv,hg,(MB g' o (h2 g' (by rw [hv];rfl))).trans hh,rest⟩
theorem jN{P:Program}{fn:Func}{R:Ending->World->Prop}{M:Nat->Prop}{w0:World}{e:G8}{s:St}{tmps:Array Value}{n:Nat}(hB: ∀D,M D->w0.heap.size<=D)
  (fin: ∀w',GK e w0.heap.size w'->Below w0.heap.size w0 w'->GH e s.m w'->UM e w' s.σ tmps.toList-> ∃v,(results fn tmps).run P w'= .ok v w'/\R (.returned v) w'):
  ∀(ds:List Deferred) (w:World),NT M e w ds->GK e w0.heap.size w->Below w0.heap.size w0 w->GH e s.m w->UM e w s.σ tmps.toList->LeavesInM (fr none) n P fn tmps R ds .returning w
 |[],w,_,hE,hb,hm,hs=>fin w hE hb hm hs
 |d::ds,w,hd,hE,hb,hm,hs=>by
  obtain ⟨D,h1,h2,h3,h4,h5⟩:=hd.1 d H0;refine ⟨UE,.inl ⟨D,_,by rw [h1],run_takeDeferred h4,?_⟩⟩
  have HQ:=(hE.apart D h2).1;have hsz:(w.putObj D (.deferred none)).heap.size=w.heap.size:=World.putObj_size;refine jN hB fin ds _ ⟨λd' hd'=>?_,(List.nodup_cons.1 hd.2).2⟩ ⟨λb hb=>by rw [hsz];exact hE.apart b hb,λb k hk=>by rw [hsz];exact hE.owned b k hk,CI hE.glob h4 rfl⟩ ?_ (λp hp=>(hm p hp).putObj h4 (λ_ _ h=>by cases h) rfl rfl HQ) (hs.sameCells hsz (LW h4 rfl rfl) (PP h4 (λ_ _ h=>by cases h)))
  obtain ⟨D',k1,k2,k3,k4,k5⟩:=hd.1 d' (DB _ hd');have hne:D'≠D:=by
   rintro rfl;exact (List.nodup_cons.1 hd.2).1 (by rw [h1,←k1];exact hd')
  exact ⟨D',k1,k2,by rw [hsz];exact k3,(Bu hne).trans k4,k5⟩
  exact hb.trans ((Below.refl w0.heap.size w).grown (grownBy_putObj' w D _) (by have:=hb.size;have:=hB D h5;omega) (λk he=>by cases he;exact hB D h5))
def nE(w:World)(T:Nat->Prop):Cx:={M:=λD=>w.heap.size<=D,Φ:=λ_ T' w0=>w0=w/\T'=T,K:=λ_ _=>False,saved:=[] }
theorem zV{P:Program}{G:List (Nat×Spec)}{X:Ext}{L:List G5}{f:FuncId}{fn:Func}{c:Code}{avs:List AV}(hG:U4 P G)(HE:P.follows .mixedOrders=true)(hf:P.funcs[f]? =some fn)(hb:fn.body=some c)
  {cx:Cx}{gh:Option Nat}{w:World}{T:Nat->Prop}{e:G8}{args:List Value}(hX:UG P X cx)(hK: ∀b o,¬cx.K b o)(hsv:cx.saved=[])(Qv9:cx.sz=0)(hM: ∀g T w0 D,cx.Φ g T w0->cx.M D->w0.heap.size<=D)(hΦ:cx.Φ gh T w)
  (hT: ∀b,T b->b<w.heap.size/\ ¬e.ro b)(hro: ∀b,e.ro b->b<w.heap.size)(hgl:DQ e w)(RL: ∀a∈avs,Idf a)(hr:UM e w avs args)
  (hL: ∀j cj,UC c j=some cj-> ∀sp,L[j]? =some sp->D7 P none cx cj sp){E:GR×St->Prop}(h:(DR P G X L c 0 {D5 fn avs with gh:=gh}).sat E){R:Ending->World->Prop}
  (fin: ∀x s w0 T' e' tmps w',E (x,s)->cx.Φ s.gh T' w0->GK e' w0.heap.size w'->Below w0.heap.size w0 w'->GH e' s.m w'->(∀b,T' b-> ¬e'.ro b)->UM e' w' s.σ tmps.toList-> ∃v,(results fn tmps).run P w'= .ok v w'/\R (.returned v) w')
  (hex: ∀x s,E (x,s)-> ∀i,x≠ .exit i):Calls P f args.toArray w R:=by
 let e0:G8:={ro:=e.ro,own:=λ_=>none,live:=λ_=>False,blk:=λ_=>0,val:=λ_=> .nilIface}
 have hr0:UM e0 w avs args:=⟨hr.1,λi a v ha hv=>Rep.idf (e:=e) (e':=e0) (λ_ h=>h) (hr.2 i a v ha hv) (RL a (FN ha))⟩;have kK:Rel cx {D5 fn avs with gh:=gh} {tmps:=args.toArray++Array.replicate (fn.ntmps-args.toArray.size) undef,defers:=[] } w:=by
  refine ⟨w,T,e0,hΦ,⟨λb hb=>⟨rfl,hro b hb⟩,(λb k hk=>by cases hk),hgl⟩,Below.refl _ _,(λp hp=>by cases hp),(λk hk=>False.elim hk),hT,⟨⟨(λd hd=>by cases hd),By⟩,(λb o h=>(hK b o h).elim),⟨by rw [hsv];rfl,(λi a v h=>by cases h)⟩,by rw [Qv9];exact Ao _⟩,?_⟩
  have rJ:UM e0 w (List.replicate (fn.ntmps-avs.length) .top) (List.replicate (fn.ntmps-avs.length) undef):=by
   refine ⟨UE,λi a v ha _=>?_⟩;have:=FN ha;rw [List.mem_replicate] at this;rw [this.2];exact .top v
  have:=hr0.append rJ;simpa [D5,hr.1] using this
 refine callsIn_wide (n:=0).1 (callsIn_of_wp_marks (F:=fr none) hf hb trivial (wpIn_mono (DN hG hX HE c 0 _ _ _ w (λj cj hj sp hsp=>hL j cj hj sp (by simpa using hsp)) h kK) ?_) rfl)
 rintro ex a' w' ⟨x,s',rfl,hE,w0,T',e',hΦ',re⟩;have hx:=hex x s' hE;have jS:LeavesInM (fr none) 0 P fn a'.tmps R a'.defers .returning w':=
  jN (M:=cx.M) (s:=s') (λD hD=>hM _ _ _ D hΦ' hD) (λw2 q1 q2 q3 q4=>fin x s' w0 T' e' a'.tmps w2 hE hΦ' q1 q2 q3 (λb hb=>(re.foe b hb).2) q4) a'.defers w' re.xt.defers re.env re.below re.mem re.slots
 cases x with
 |normal=>exact jS
 |ret=>exact jS
 |exit i=>exact (hx i rfl).elim
def Cx.fun(cx:Cx):Prop:= ∀g T w0 D,cx.Φ g T w0->w0.heap.size<=D->cx.sz<=D->cx.M D
theorem zU(w:World)(T:Nat->Prop):(nE w T).fun:=by
 rintro g T' w0 D ⟨rfl,_⟩ h _;exact h
section
variable {P:Program}{G:List (Nat×Spec)}
theorem kR{X:Ext}{L:List G5}{f:FuncId}{fn:Func}{c:Code}{avs:List AV}{res:AV}(hG:U4 P G)(hX: ∀cx,UG P X cx)(HE:P.follows .mixedOrders=true)(hf:P.funcs[f]? =some fn)(hb:fn.body=some c)
  (hL: ∀j cj,UC c j=some cj-> ∀sp,L[j]? =some sp-> ∀cx:Cx,cx.fun->D7 P none cx cj sp)(h:(DR P G X L c 0 (D5 fn avs)).sat (Xi3 P fn res)):UH P f avs res:=by
 intro e w args hro hgl RL hr;refine zV hG HE hf hb (cx:=nE w (λ_=>False)) (gh:=none) (T:=λ_=>False) (e:=e) (hX _) (λ_ _ h=>h) rfl rfl (by rintro g T w0 D ⟨rfl,_⟩ h;exact h) ⟨rfl,rfl⟩ (λb h=>h.elim) hro hgl RL hr (λj cj hj sp hsp=>hL j cj hj sp hsp _ (zU _ _)) h ?_ ?_
 rintro x s w0 T' e' tmps w' ⟨hx,r,FL,yF⟩ ⟨rfl,_⟩ q1 q2 q3 _ q4;obtain ⟨u,hu,H5⟩:=F0 (P:=P) q3 q4 FL;exact ⟨u,hu,u,rfl,q2,yF.rep q1 rfl q3 H5⟩;rintro x s ⟨hx,_⟩ i rfl;exact hx
theorem pM{L:List G5}{f:FuncId}{fn:Func}{c:Code}{avs:List AV}{res:AV}(hG:U4 P G)(HE:P.follows .mixedOrders=true)(hf:P.funcs[f]? =some fn)(hb:fn.body=some c)
  (hL: ∀j cj,UC c j=some cj-> ∀sp,L[j]? =some sp->GU P cj sp)(h:(nI P G L c 0 (D5 fn avs)).sat (Xi3 P fn res)):UH P f avs res:=
 kR hG (UG.nil P) HE hf hb (λj cj hj sp hsp cx _=>hL j cj hj sp hsp none cx) h
end
inductive RV where
 |top
 |x (v:Value)
 |agg (l:List RV)
 |tup (l:List RV)
 |lst (sz n:Nat) (f:Ci)
 |fn (f:Fn)
def i9(m:HO):Nat->AV->RV
 | 0,a=>match a with
  | .lit b=> .x (.bool b)
  | .x v=> .x v
  |_=> .top
 |d+1,a=>match a with
  | .lit b=> .x (.bool b)
  | .x v=> .x v
  | .agg l=> .agg (l.map (i9 m d))
  | .tup l=> .tup (l.map (i9 m d))
  | .row id=>match DY m id with
   |some (.row _ sz n f)=> .lst sz n f
   |_=> .top
  | .fn f l l'=>match l,l' with
   |[],[]=> .fn f
   |_,_=> .top
  |_=> .top
def isX:AV->Prop
 | .x _=>True
 |_=>False
def UX:Value->Value->Prop
 | .int k a,.int k' b=>k=k'/\a=b
 | .bool a,.bool b=>a=b
 |u,v=>u=v
theorem eY{u v:Value}(h:UX u v):u=v:=by
 cases u<;>cases v<;>simp_all [UX]
def m6:Value->Prop
 | .slice none 0 0=>True
 |_=>False
theorem lZ{v:Value}(h:m6 v):v= .slice none 0 0:=by
 unfold m6 at h;split at h;rfl;exact h.elim
mutual
def GS:RV->AV->Prop
 | .top,res=>match res with
  | .top=>True
  |_=>False
 | .x u,res=>match res with
  | .top=>True
  | .x v=>UX u v
  | .lst _ n _=>m6 u/\n=0
  |_=>False
 | .agg l,res=>match res with
  | .top=>True
  | .agg l'=>H6 l l'
  |_=>False
 | .tup l,res=>match res with
  | .top=>True
  | .tup l'=>H6 l l'
  |_=>False
 | .lst sz n f,res=>match res with
  | .top=>True
  | .lst sz' n' f'=>sz=sz'/\n=n'/\ ∀i,i<n'->f i=f' i/\ ∀a∈f' i,isX a
  |_=>False
 | .fn f,res=>match res with
  | .top=>True
  | .fn g [] []=>f=g
  |_=>False
def H6:List RV->List AV->Prop
 |[],l'=>match l' with
  |[]=>True
  |_::_=>False
 |r::l,l'=>match l' with
  |a::l'=>GS r a/\H6 l l'
  |[]=>False
end
theorem MQ: ∀{l:List RV} {l':List AV},H6 l l'->l.length=l'.length/\ ∀(i:Nat) (r:RV) (a:AV),l[i]? =some r->l'[i]? =some a->GS r a
 |[],[],_=>⟨rfl,λi r a h=>by simp at h⟩
 |r::l,a::l',h=>by
  unfold H6 at h;obtain ⟨h1,h2⟩:=MQ h.2;refine ⟨by simp [h1],λi r' a' hr ha=>?_⟩
  cases i with
  |zero=>simp at hr ha;subst hr;subst ha;exact h.1
  |succ i=>simp at hr ha;exact h2 i r' a' hr ha
 |[],_::_,h=>by simp [H6] at h
 |_::_,[],h=>by simp [H6] at h
theorem Wo7{a:AV}(h:isX a): ∃v,a= .x v:=by
 cases a<;>first|exact ⟨_,rfl⟩|exact h.elim
theorem cB{m:HO}{a:AV}{u:Value}{res:AV}(h:GS (.x u) res)(ha: ∀v,u=v->kN m a (.x v))(hn:u= .slice none 0 0-> ∀sz f,kN m a (.lst sz 0 f)):kN m a res:=by
 cases res with
 |top=>exact .top a
 |x v=>exact ha v (eY h)
 |lst sz n f=>obtain ⟨h1,h2⟩:=h;subst h2;exact hn (lZ h1) sz f
 |_=>exact h.elim
theorem rR{m:HO}: ∀(d:Nat) (a res:AV),GS (i9 m d a) res->kN m a res
 | 0,a,res,h=>by
  cases a with
  |lit b=>exact cB h (λv hv=>by subst hv;exact .litx b) (λhu=>by cases hu)
  |x v=>exact cB h (λu hu=>by subst hu;exact .x v) (λhu sz f=>by subst hu;exact .nil sz f)
  |_=>cases res<;>first|exact .top _|exact h.elim
 |d+1,a,res,h=>by
  have ih:=rR (m:=m) d;cases a with
  |lit b=>exact cB h (λv hv=>by subst hv;exact .litx b) (λhu=>by cases hu)
  |x v=>exact cB h (λu hu=>by subst hu;exact .x v) (λhu sz f=>by subst hu;exact .nil sz f)
  |agg l=>
   cases res with
   |top=>exact .top _
   |agg l'=>
    obtain ⟨h1,h2⟩:=MQ (show H6 (l.map (i9 m d)) l' from h);exact .agg l l' (by simpa using h1) (λi a b ha hb=>ih a b (h2 i _ b (by simp [ha]) hb))
   |_=>exact h.elim
  |tup l=>
   cases res with
   |top=>exact .top _
   |tup l'=>
    obtain ⟨h1,h2⟩:=MQ (show H6 (l.map (i9 m d)) l' from h);exact .tup l l' (by simpa using h1) (λi a b ha hb=>ih a b (h2 i _ b (by simp [ha]) hb))
   |_=>exact h.elim
  |row id=>
   simp only [i9] at h;split at h;rename_i T sz n f hg;cases res with
   |top=>exact .top _
   |lst sz' n' f'=>
    obtain ⟨rfl,rfl,h3⟩:=h;exact .row id T sz n f f' hg (λi O=>(h3 i O).1) (λi O a ha=>Wo7 ((h3 i O).2 a ha))
   |_=>exact h.elim
   cases res<;>first|exact .top _|exact h.elim
  |fn f l l'=>
   simp only [i9] at h;split at h;unfold GS at h;split at h;exact .top _;subst h;exact .fn0 _;exact h.elim;cases res<;>first|exact .top _|exact h.elim
  |_=>cases res<;>first|exact .top _|exact h.elim
def Qa7(P:Program)(rs:List ResultVar)(t:CT):U6 RV:=t.bind λp=>match p.1 with
 | .exit _=> .fail
 |_=>match qH P p.2 rs with
  |some r=> .leaf (i9 p.2.m 6 r)
  |none=> .fail
def D3(P:Program)(c:Code)(sp:G5):Prop:= ∀cx:Cx,cx.fun->D7 P none cx c sp
theorem GU.N{P:Program}{c:Code}{sp:G5}(h:GU P c sp):D3 P c sp:=λcx _=>h none cx
section
variable {P:Program}
theorem zR{fn:Func}{res:AV}{t:CT}(h:(Qa7 P fn.results.toList t).sat (λr=>GS r res)):t.sat (Xi3 P fn res):=by
 refine U6.sat_mono ?_ (U6.sat_bind h);rintro ⟨x,s⟩ hs;cases x with
 |exit i=>exact hs.elim
 |normal=>
  simp only at hs;split at hs;rename_i r hr;exact ⟨trivial,r,hr,rR 6 r res hs⟩;exact hs.elim
 |ret=>
  simp only at hs;split at hs;rename_i r hr;exact ⟨trivial,r,hr,rR 6 r res hs⟩;exact hs.elim
theorem UL{G:List (Nat×Spec)}{L:List G5}{f:FuncId}{fn:Func}{c:Code}{avs:List AV}{res:AV}{t:U6 RV}(hG:U4 P G)(HE:P.follows .mixedOrders=true)(hf:P.funcs[f]? =some fn)(hb:fn.body=some c)
  (hL: ∀j cj,UC c j=some cj-> ∀sp,L[j]? =some sp->GU P cj sp)(ht:Qa7 P fn.results.toList (nI P G L c 0 (D5 fn avs))=t)(h:t.sat (λr=>GS r res)):UH P f avs res:=by
 subst ht;exact pM hG HE hf hb hL (zR h)
theorem GW{G:List (Nat×Spec)}{X:Ext}{L:List G5}{f:FuncId}{fn:Func}{c:Code}{avs:List AV}{res:AV}{t:U6 RV}(hG:U4 P G)(hX: ∀cx,UG P X cx)(HE:P.follows .mixedOrders=true)(hf:P.funcs[f]? =some fn)(hb:fn.body=some c)
  (hL: ∀j cj,UC c j=some cj-> ∀sp,L[j]? =some sp->D3 P cj sp)(ht:Qa7 P fn.results.toList (DR P G X L c 0 (D5 fn avs))=t)(h:t.sat (λr=>GS r res)):UH P f avs res:=by
 subst ht;exact kR hG hX HE hf hb hL (zR h)
theorem UN{c:Code}: ∀j cj,UC c j=some cj-> ∀sp,([]:List G5)[j]? =some sp->GU P cj sp:=λj cj _ sp hsp=>by simp at hsp
end
theorem GN{S:Code->G5->Prop}{c:Code}: ∀j cj,UC c j=some cj-> ∀sp,([]:List G5)[j]? =some sp->S cj sp:=λj cj _ sp hsp=>by simp at hsp
def wO(N:Nat):Nat->AV->Bool
 | 0,a=>a.idf
 |d+1,a=>match a with
  | .ptr id _=>Nat.blt id N
  | .row id=>Nat.blt id N
  | .elt id _ _ _=>Nat.blt id N
  | .mp id=>Nat.blt id N
  | .agg l=>l.all (wO N d)
  | .tup l=>l.all (wO N d)
  | .fn _ l l'=>l.all (wO N d)&&l'.all (wO N d)
  |a=>a.idf
def G8.kill(e:G8)(N:Nat):G8:={e with live:=λk=>e.live k/\k<N}
theorem zA{e:G8}{w:World}{N:Nat}: ∀(d:Nat) (a:AV) (v:Value),wO N d a=true->Rep e w a v->Rep (e.kill N) w a v
 | 0,a,v,h,r=>Rep.idf (e:=e) (e':=e.kill N) (λ_ h=>h) r (jO r h)
 |d+1,a,v,h,r=>by
  have ih:=zA (e:=e) (w:=w) (N:=N) d;have lt: ∀id,Nat.blt id N=true->id<N:=λid hb=>by rw [Aw] at hb;exact hb
  cases r with
  |ptr id off hl=>exact .ptr (e:=e.kill N) id off ⟨hl,lt id h⟩
  |row id a n c hl hv=>exact .row (e:=e.kill N) id a n c ⟨hl,lt id h⟩ hv
  |elt id sz i j b n cap hl hv=>exact .elt (e:=e.kill N) id sz i j b n cap ⟨hl,lt id h⟩ hv
  |mp id hl=>exact .mp (e:=e.kill N) id ⟨hl,lt id h⟩
  |agg l vs h1 h2=>exact .agg l vs h1 (λi a v ha hv=>ih a v (BU.1 h a (FN ha)) (h2 i a v ha hv))
  |tup l vs h1 h2=>exact .tup l vs h1 (λi a v ha hv=>ih a v (BU.1 h a (FN ha)) (h2 i a v ha hv))
  |fn f l l' vs vs' h1 h2 h3 h4=>
   simp only [wO,HV] at h;exact .fn f l l' vs vs' h1 (λi a v ha hv=>ih a v (BU.1 h.1 a (FN ha)) (h2 i a v ha hv)) h3 (λi a v ha hv=>ih a v (BU.1 h.2 a (FN ha)) (h4 i a v ha hv))
  |top v=>exact .top v
  |lit b=>exact .lit b
  |x v=>exact .x v
  |ro l vs b o h1 h2 h3 h4 h5 h6=>exact Rep.idf (e:=e) (e':=e.kill N) (λ_ h=>h) (.ro l vs b o h1 h2 h3 h4 h5 h6) (.ro l h3)
  |mpr g okf vals b es c h1 h2 h3 h4 h5 h6 h7 h8=>exact Rep.idf (e:=e) (e':=e.kill N) (λ_ h=>h) (.mpr g okf vals b es c h1 h2 h3 h4 h5 h6 h7 h8) (.mpr g okf h3)
  |any1 v hv=>exact .any1 v hv
  |lstNil sz f=>exact .lstNil sz f
  |roI pre n f off b o hr=>exact Rep.idf (e:=e) (e':=e.kill N) (λ_ h=>h) (.roI pre n f off b o hr) (jO (Rep.roI pre n f off b o hr) rfl)
  |lst sz n f b o cap g h1 h2 h3 h4 h5 h6 h7 h8 ad had=>exact Rep.idf (e:=e) (e':=e.kill N) (λ_ h=>h) (.lst sz n f b o cap g h1 h2 h3 h4 h5 h6 h7 h8 ad had) (.lst sz n f h3)
def dI:List AV->List AV->List Prop
 |a::l,b::l'=>match b with
  | .top=>dI l l'
  | .x (.int k y)=>match a with
   | .x (.int k' x)=>match decide (k=k') with
    |true=>(x=y)::dI l l'
    |false=>[False]
   |_=>[False]
  | .x (.bool y)=>match a with
   | .x (.bool x)=>(x=y)::dI l l'
   | .lit x=>(x=y)::dI l l'
   |_=>[False]
  |b=>(a=b)::dI l l'
 |[],[]=>[]
 |_,_=>[False]
theorem PI{e:G8}{w:World}: ∀{l l':List AV} {vs:List Value},(∀p∈dI l l',p)->UM e w l vs->UM e w l' vs
 |[],[],vs,_,r=>r
 |a::l,b::l',vs,h,r=>by
  obtain ⟨v,vs',rfl,hv,hvs⟩:=r.cons_inv;unfold dI at h;split at h;exact UM.cons (.top v) (PI h hvs);split at h;split at h;rename_i hk;have hk':=BI hk;subst hk';have:_=_:=h _ H0;subst this;exact UM.cons hv (PI (λp hp=>h p (DB _ hp)) hvs);exact (h False UE).elim;exact (h False UE).elim;split at h;have:_=_:=h _ H0;subst this;exact UM.cons hv (PI (λp hp=>h p (DB _ hp)) hvs);have:_=_:=h _ H0;subst this;cases hv;exact UM.cons (.x _) (PI (λp hp=>h p (DB _ hp)) hvs);exact (h False UE).elim;have:_=_:=h _ H0;subst this;exact UM.cons hv (PI (λp hp=>h p (DB _ hp)) hvs)
 |[],_::_,_,h,_=>(h False (by simp [dI])).elim
 |_::_,[],_,h,_=>(h False (by simp [dI])).elim
def FM:H9->H9->List Prop
 | .cells T l,.cells T' l'=>match Nat.beq T T' with
  |true=>dI l l'
  |false=>[False]
 | .row T sz n f,.row T' sz' n' f'=>match Nat.beq T T'&&Nat.beq sz sz' with
  |true=>[n=n',∀i,i<n'->f i=f' i]
  |false=>[False]
 | .memo h f,.memo h' f'=>[∀k,h k->h' k/\f k=f' k]
 | .ints T pre n f,.ints T' pre' n' f'=>match Nat.beq T T' with
  |true=>dI pre pre'++[n=n',∀k,k<n'->f k=f' k]
  |false=>[False]
 | .keep T l,.keep T' l'=>match Nat.beq T T' with
  |true=>dI l l'
  |false=>[False]
 |_,_=>[False]
theorem resEq_holds{e:G8}{w:World}{id:Nat}{r r':H9}(h: ∀p∈FM r r',p)(k:H2 e w id r):H2 e w id r':=by
 cases r with
 |cells T l=>
  cases r' with
  |cells T' l'=>
   simp only [FM] at h;split at h;rename_i hb;have:T=T':=HK hb;subst this;obtain ⟨h1,h2,vs,h3,h4⟩:=k;exact ⟨h1,h2,vs,h3,PI h h4⟩;exact (h False UE).elim
  |row _ _ _ _=>exact (h False (by simp [FM])).elim
  |memo _ _=>exact (h False (by simp [FM])).elim
  |ints _ _ _ _=>exact (h False (by simp [FM])).elim
  |aka _ _ _ _ _=>exact (h False (by simp [FM])).elim
  |keep _ _=>exact (h False (by simp [FM])).elim
 |aka _ _ _ _ _=>cases r'<;>exact (h False (by simp [FM])).elim
 |keep T l=>
  cases r' with
  |keep T' l'=>
   simp only [FM] at h;split at h;rename_i hb;have:T=T':=HK hb;subst this;obtain ⟨h1,h2,h0,vs,h3,h4⟩:=k;exact ⟨h1,h2,h0,vs,h3,PI h h4⟩;exact (h False UE).elim
  |row _ _ _ _=>exact (h False (by simp [FM])).elim
  |memo _ _=>exact (h False (by simp [FM])).elim
  |ints _ _ _ _=>exact (h False (by simp [FM])).elim
  |cells _ _=>exact (h False (by simp [FM])).elim
  |aka _ _ _ _ _=>exact (h False (by simp [FM])).elim
 |ints T pre n f=>
  cases r' with
  |cells _ _=>exact (h False (by simp [FM])).elim
  |row _ _ _ _=>exact (h False (by simp [FM])).elim
  |memo _ _=>exact (h False (by simp [FM])).elim
  |aka _ _ _ _ _=>exact (h False (by simp [FM])).elim
  |keep _ _=>exact (h False (by simp [FM])).elim
  |ints T' pre' n' f'=>
   simp only [FM] at h;split at h;rename_i hb;have:T=T':=HK hb;subst this;obtain ⟨h1,h2,vs,h3,h4⟩:=k;have hn:n=n':=h _ UE;subst hn;have hf: ∀k,k<n->f k=f' k:=h _ UE;have hL:DE n f=DE n f':=List.map_congr_left (λk hk=>by rw [hf k (List.mem_range.1 hk)])
   refine ⟨h1,h2,vs,h3,?_⟩;rw [hL] at h4;have h5:=h4.take pre.length;have h6:=h4.drop pre.length;rw [List.take_left] at h5;rw [List.drop_left] at h6;have h7:=(PI (λp hp=>h p (Bd _ hp)) h5).append h6
   rwa [List.take_append_drop] at h7
   exact (h False UE).elim
 |memo g f=>
  cases r' with
  |cells _ _=>exact (h False (by simp [FM])).elim
  |row _ _ _ _=>exact (h False (by simp [FM])).elim
  |ints _ _ _ _=>exact (h False (by simp [FM])).elim
  |aka _ _ _ _ _=>exact (h False (by simp [FM])).elim
  |keep _ _=>exact (h False (by simp [FM])).elim
  |memo g' f'=>
   have hh: ∀k,g k->g' k/\f k=f' k:=h _ (by simp [FM])
   obtain ⟨h1,h2,es,c,h3,h4⟩:=k;exact ⟨h1,h2,es,c,h3,λx hx=>⟨(hh _ (h4 x hx).1).1,(h4 x hx).2.trans (hh _ (h4 x hx).1).2⟩⟩
 |row T sz n f=>
  cases r' with
  |memo _ _=>exact (h False (by simp [FM])).elim
  |cells _ _=>exact (h False (by simp [FM])).elim
  |ints _ _ _ _=>exact (h False (by simp [FM])).elim
  |aka _ _ _ _ _=>exact (h False (by simp [FM])).elim
  |keep _ _=>exact (h False (by simp [FM])).elim
  |row T' sz' n' f'=>
   simp only [FM] at h;split at h;rename_i hb;simp only [HV] at hb;have h1:T=T':=HK hb.1;have h2:sz=sz':=HK hb.2;subst h1;subst h2;have h3:n=n':=h _ UE;subst h3;have h4: ∀i,i<n->f i=f' i:=h _ UE;obtain ⟨q1,q2,q3,xs,q4,q5⟩:=k;exact ⟨q1,q2,λi O=>by rw [←h4 i O];exact q3 i O,xs,q4,λi j a v O ha hv=>q5 i j a v O (by rw [h4 i O];exact ha) hv⟩
   exact (h False UE).elim
def Wy8:H9->Bool
 | .cells _ [.x _]=>true
 | .cells _ (_::_::_::_:: .x (.slice _ _ _):: .x (.slice _ _ _)::_)=>true
 |_=>false
def Wx6:HO->Nat->Option H9
 |[],_=>none
 |(k,r)::t,id=>match Nat.beq k id&&Wy8 r with
  |true=>some r
  |false=>Wx6 t id
theorem mX{id:Nat}{r:H9}: ∀{m:HO},Wx6 m id=some r->(id,r)∈m
 |[],h=>by simp [Wx6] at h
 |(k,q)::t,h=>by
  unfold Wx6 at h;split at h;rename_i hk;rw [HV] at hk;have:k=id:=HK hk.1;subst this;cases h;exact H0;exact DB _ (mX h)
def Qg6(sm:HO)(id:Nat)(r:H9):Option H9:=match Wy8 r with
 |true=>match Wx6 sm id with
  |some r'=>some r'
  |none=>DY sm id
 |false=>DY sm id
theorem Qt6{sm:HO}{id:Nat}{r r':H9}(h:Qg6 sm id r=some r'):(id,r')∈sm:=by
 unfold Qg6 at h;split at h;split at h;rename_i hg;cases h;exact mX hg;exact GI h;exact GI h
def Wn0(sm:HO):HO->List Prop
 |[]=>[]
 |(id,r)::t=>(match Qg6 sm id r with
  |some r'=>FM r' r
  |none=>[False])++Wn0 sm t
def svP:List (List AV)->List (List AV)->List Prop
 |[],[]=>[]
 |a::l,b::l'=>dI a b++svP l l'
 |_,_=>[False]
def ghP:Option Nat->Option Nat->List Prop
 |none,none=>[]
 |some a,some b=>[a=b]
 |_,_=>[False]
theorem Qf3{e:G8}{w:World}: ∀{l l':List (List AV)} {vs:List (List Value)},(∀p∈svP l l',p)->LM e w l vs->LM e w l' vs
 |[],[],_,_,r=>r
 |a::l,b::l',vs,h,r=>by
  cases vs with
  |nil=>have:=r.1;simp at this
  |cons v vs=>
   obtain ⟨a',l'',he,h1,h2⟩:=r.cons_inv;cases he;exact LM.cons (PI (λp hp=>h p (Bd _ hp)) h1) (Qf3 (λp hp=>h p (As _ hp)) h2)
 |[],_::_,_,h,_=>(h False (by simp [svP])).elim
 |_::_,[],_,h,_=>(h False (by simp [svP])).elim
theorem Zv7{a b:Option Nat}(h: ∀p∈ghP a b,p):a=b:=by
 cases a<;>cases b;rfl;exact (h False (by simp [ghP])).elim
 exact (h False (by simp [ghP])).elim
 rename_i x y;have:x=y:=h _ (by simp [ghP])
 rw [this]
def qG(s E:St):List Prop:=dI s.σ E.σ++(Wn0 s.m E.m++(svP s.sv E.sv++ghP s.gh E.gh))
def iT(N:Nat):H9->Bool
 | .cells _ l=>l.all (wO N 6)
 | .row _ _ _ _=>true
 | .memo _ _=>true
 | .ints _ pre _ _=>pre.all (wO N 6)
 | .aka _ _ _ _ _=>false
 | .keep _ l=>l.all (wO N 6)
def okB(E:St):Bool:=E.σ.all (wO E.nx 6)&&(E.m.all (λp=>Nat.blt p.1 E.nx&&iT E.nx p.2)&&E.sv.all (λl=>l.all (wO E.nx 6)))
theorem memP_holds{e:G8}{w:World}{sm:HO}(hm:GH e sm w): ∀{m:HO},(∀p∈Wn0 sm m,p)->GH e m w
 |[],_=>λp hp=>by cases hp
 |(id,r)::t,h=>by
  intro p hp;rcases HA.1 hp with rfl|hp;unfold Wn0 at h;cases hg:Qg6 sm id r with
  |none=>rw [hg] at h;exact (h False UE).elim
  |some r'=>
   rw [hg] at h;exact resEq_holds (λp hp=>h p (Bd _ hp)) (hm _ (Qt6 hg))
  exact memP_holds hm (m:=t) (λq hq=>h q (by unfold Wn0;exact As _ hq)) p hp
theorem RP{cx:Cx}{s E:St}{a:Act}{w:World}(h: ∀p∈qG s E,p)(hok:okB E=true)(r:Rel cx s a w):Rel cx E a w:=by
 obtain ⟨w0,T,e,hΦ,r⟩:=r;simp only [okB,HV] at hok;obtain ⟨ok1,ok2,ok3⟩:=hok;have hσ:=PI (λp hp=>h p (Bd _ hp)) r.slots;have hm:=memP_holds r.mem (λp hp=>h p (As _ (Bd _ hp)));have hsv:=Qf3 (λp hp=>h p (As _ (As _ (Bd _ hp)))) r.xt.saved;have hgh:=Zv7 (λp hp=>h p (As _ (As _ (As _ hp))));rw [hgh] at hΦ;refine ⟨w0,T,e.kill E.nx,hΦ,⟨r.env.apart,r.env.owned,r.env.glob⟩,r.below,?_,λk hk=>hk.2,r.foe,⟨r.xt.defers,r.xt.kept,⟨hsv.1,λi a v ha hv=>⟨(hsv.2 i a v ha hv).1,λj b u hb hu=>zA 6 b u (BU.1 (BU.1 ok3 a (FN ha)) b (FN hb)) ((hsv.2 i a v ha hv).2 j b u hb hu)⟩⟩,r.xt.size⟩,⟨hσ.1,λi a v ha hv=>zA 6 a v (BU.1 ok1 a (FN ha)) (hσ.2 i a v ha hv)⟩⟩;intro p hp;have hk:=hm p hp;have hb:=BU.1 ok2 p hp;simp only [HV] at hb;have hlt:p.1<E.nx:=by have:=hb.1;rw [Aw] at this;exact this
 obtain ⟨id,res⟩:=p;cases res with
 |cells T l=>
  obtain ⟨h1,h2,vs,h3,h4⟩:=hk;exact ⟨⟨h1,hlt⟩,h2,vs,h3,h4.1,λi a v ha hv=>zA 6 a v (BU.1 hb.2 a (FN ha)) (h4.2 i a v ha hv)⟩
 |memo g f=>
  obtain ⟨h1,h2,es,c,h3,h4⟩:=hk;exact ⟨⟨h1,hlt⟩,h2,es,c,h3,h4⟩
 |aka _ _ _ _ _=>simp [iT] at hb
 |keep T l=>
  obtain ⟨h1,h2,h0,vs,h3,h4⟩:=hk;exact ⟨⟨h1,hlt⟩,h2,h0,vs,h3,h4.1,λi a v ha hv=>zA 6 a v (BU.1 hb.2 a (FN ha)) (h4.2 i a v ha hv)⟩
 |ints T pre n f=>
  obtain ⟨h1,h2,vs,h3,h4⟩:=hk;refine ⟨⟨h1,hlt⟩,h2,vs,h3,h4.1,λi a v ha hv=>zA 6 a v ?_ (h4.2 i a v ha hv)⟩;rcases List.mem_append.1 (FN ha) with hm|hm;exact BU.1 hb.2 a hm;obtain ⟨k,_,rfl⟩:=List.mem_map.1 hm;rfl
 |row T sz n f=>
  obtain ⟨h1,h2,h3,xs,h4,h5⟩:=hk;exact ⟨⟨h1,hlt⟩,h2,h3,xs,h4,λi j a v O ha hv=>Rep.idf (e:=e) (e':=e.kill E.nx) (λ_ h=>h) (h5 i j a v O ha hv) ((h3 i O).2 a (FN ha))⟩
theorem bL{F:Fence}{n:Nat}{P:Program}{Q:Exit->Act->World->Prop}{body:Code}{X:Type}(μ:X->Nat)(Inv:X->Act->World->Prop)
  (round: ∀x a w,Inv x a w->body.wpIn F n P (Exit.then (λa' w'=> ∃x',μ x'<μ x/\Inv x' a' w') Q) a w){x:X}{a:Act}{w:World}(h:Inv x a w):(Code.loop body).wpIn F n P Q a w:=by
 intro b k cs hro hb hr;have key: ∀j x a w,μ x=j->Inv x a w->
   ∃e a' w',Q e a' w'/\ArrivesIn (Machine.fenced P F) P (lone (b.atR a (.code body:: .inLoop body::k)) cs w) b k cs e a' w':=by
  intro j
  induction j using Nat.strongRecOn with
  |_ j ih=>
   intro x a w hn hI;obtain ⟨e,a₁,w₁,hq,gD⟩:=round x a w hI b (.inLoop body::k) cs hro hb hr;cases e with
   |normal=>
    obtain ⟨x',hlt,hI₁⟩:=hq;obtain ⟨e₂,a₂,w₂,hq₂,harr₂⟩:=ih (μ x') (hn▸hlt) x' a₁ w₁ rfl hI₁;exact ⟨e₂,a₂,w₂,hq₂,.of_steps (StepsIn.trans gD (.one (fenced_calm hb hr rfl) stepR_inLoop)) harr₂⟩
   |exit id=>exact ⟨_,a₁,w₁,hq,.pass (x:= .inLoop body) rfl (λ_ _=> .inl UE) gD⟩
   |goto l=>exact ⟨_,a₁,w₁,hq,.pass (x:= .inLoop body) rfl (λ_ _=> .inl UE) gD⟩
   |ret=>exact ⟨_,a₁,w₁,hq,.pass (x:= .inLoop body) rfl (λ_ _=> .inl UE) gD⟩
   |panic ch=>exact ⟨_,a₁,w₁,hq,.pass (x:= .inLoop body) rfl (λ_ _=> .inl UE) gD⟩
   |outgrown=>exact ⟨_,a₁,w₁,hq,.pass (x:= .inLoop body) rfl (λ_ _=> .inl UE) gD⟩
 obtain ⟨e,a',w',hq,gD⟩:=key _ x a w rfl h;exact ⟨e,a',w',hq,.of_steps (.one (fenced_calm hb hr rfl) stepR_loop) gD⟩
def D1(E:St)(t:CT):G5:=λs=>some (.needT (qG s E) t)
theorem kO{P:Program}{ro:Option Nat}{cx:Cx}{c:Code}{E:St}{t:CT}(hok:okB E=true)(h: ∀(n:Nat) (Q:GR×St->Prop),t.sat Q-> ∀(a:Act) (w:World),Rel cx E a w->c.wpIn (fr ro) n P (ES cx Q) a w):D7 P ro cx c (D1 E t):=by
 intro n s t' ht Q R0 a w r;simp only [D1,D0] at ht;subst ht
 replace R0:=U6.sat_needT R0
 exact h n Q R0.2 a w (RP (GY R0.1) hok r)
def yR(P:Program)(G:List (Nat×Spec))(X:Ext)(L:List G5)(body:Code):Nat->St->CT
 | 0,_=> .fail
 |k+1,s=>(DR P G X L body 0 s).bind λp=>match p.1 with
  | .normal=>yR P G X L body k p.2
  |x=> .leaf (x,p.2)
def j8(P:Program)(G:List (Nat×Spec))(L:List G5)(body:Code)(n:Nat)(s:St):CT:=yR P G {} L body n s
section
variable {P:Program}{G:List (Nat×Spec)}
theorem vU{X:Ext}{L:List G5}{ro:Option Nat}{cx:Cx}(hG:U4 P G)(hX:UG P X cx)(HE:P.follows .mixedOrders=true){body:Code}(hL: ∀j cj,UC body j=some cj-> ∀sp,L[j]? =some sp->D7 P ro cx cj sp)(m:Nat):
  D7 P ro cx (.loop body) (λs=>some (yR P G X L body m s)):=by
 intro n s t ht Q R0 a w r;simp only [D0] at ht;subst ht;refine bL (X:=Nat×St) (λp=>p.1) (λp a w=>(yR P G X L body p.1 p.2).sat Q/\Rel cx p.2 a w) ?_ (x:=(m,s)) ⟨R0,r⟩;rintro ⟨k,s⟩ a w ⟨h,hr⟩;cases k with
 |zero=>exact h.elim
 |succ k=>
  refine wpIn_mono (DN hG hX HE body 0 s _ a w (λj cj hj sp hsp=>hL j cj hj sp (by simpa using hsp)) (U6.sat_bind h) hr) ?_
  rintro ex a₁ w₁ ⟨y,s',rfl,hq,hr'⟩;cases y with
  |normal=>exact ⟨(k,s'),Bk _,hq,hr'⟩
  |exit id=>exact ⟨.exit id,s',rfl,hq,hr'⟩
  |ret=>exact ⟨.ret,s',rfl,hq,hr'⟩
theorem P0{L:List G5}(hG:U4 P G)(HE:P.follows .mixedOrders=true){body:Code}(hL: ∀j cj,UC body j=some cj-> ∀sp,L[j]? =some sp->GU P cj sp)(n:Nat):
  GU P (.loop body) (λs=>some (j8 P G L body n s)):=λro cx=>vU hG (UG.nil P cx) HE (λj cj hj sp hsp=>hL j cj hj sp hsp ro cx) n
end
def UT:Option Code->Code
 |some (.loop c)=>c
 |_=> .skip
def UP(f:Func):Code:=match f.body with
 |some c=>c
 |none=> .skip
theorem GJ{S:Code->G5->Prop}{c:Code}{sp:G5}(h: ∀cj,UC c 0=some cj->S cj sp): ∀j cj,UC c j=some cj-> ∀s,[sp][j]? =some s->S cj s:=by
 intro j cj hj s hs;cases j with
 |zero=>simp at hs;subst hs;exact h cj hj
 |succ j=>simp at hs
def Zb2:List (Nat×AV)->Nat->AV
 |[],_=> .top
 |(k,a)::t,i=>match Nat.beq k i with
  |true=>a
  |false=>Zb2 t i
def mkS(n:Nat)(l:List (Nat×AV)):List AV:=(List.range n).map (Zb2 l)
def Ws4(l:List AV)(j:Nat):Int:=match l[j]? with
 |some (.x (.int _ n))=>n
 |_=>0
def Jj7:Nat->(Cg)->List AV
 | 0,_=>[]
 |k+1,g=> .x (.int .i64 (g 0))::Jj7 k (λj=>g (j+1))
def G0(sz n:Nat)(f:Ci):Prop:= ∀k,k<n->f k=Jj7 sz (Ws4 (f k))
theorem UH.args{P:Program}{f:FuncId}{avs avs':List AV}{res:AV}(h:UH P f avs' res)(hr: ∀e w vs,UM e w avs vs->UM e w avs' vs)(O:(∀a∈avs,Idf a)-> ∀a∈avs',Idf a):UH P f avs res:=
 λe w args hro hgl RL H5=>h e w args hro hgl (O RL) (hr e w args H5)
inductive gK:AV->AV->Prop
 |refl (a:AV):gK a a
 |lst (sz n:Nat) (f g:Ci):(∀k,k<n->f k=g k)->gK (.lst sz n f) (.lst sz n g)
 |nil (sz:Nat) (g:Ci):gK (.x (.slice none 0 0)) (.lst sz 0 g)
 |agg (l l':List AV):l.length=l'.length->(∀(j:Nat) (a b:AV),l[j]? =some a->l'[j]? =some b->gK a b)->gK (.agg l) (.agg l')
 |deep (sz n:Nat) (f g:Ci):(∀k,k<n->(f k).length=(g k).length)->(∀(k j:Nat) (a b:AV),k<n->(f k)[j]? =some a->(g k)[j]? =some b->gK a b)->gK (.lst sz n f) (.lst sz n g)
theorem gK.idf{a b:AV}(h:gK a b)(k:Idf a):Idf b:=by
 induction h with
 |refl=>exact k
 |lst sz n f g hfg=>cases k with|lst _ _ _ k=>exact .lst sz n g (λi O a ha=>k i O a (by rw [hfg i O];exact ha))
 |nil sz g=>exact .lst sz 0 g (λi O=>U3)
 |deep sz n f g hl _ ih=>
  cases k with
  |lst _ _ _ k=>
   refine .lst sz n g λi O b hb=>?_;obtain ⟨j,hj⟩:=xU.1 hb;have hjl:j<(f i).length:=by rw [hl i O];exact (RO.1 hj).1
   exact ih i j _ b O (DP hjl) hj (k i O _ (List.getElem_mem hjl))
 |agg l l' hl _ ih=>
  cases k with
  |agg _ k=>
   refine .agg l' λb hb=>?_;obtain ⟨j,hj⟩:=xU.1 hb;have hjl:j<l.length:=by rw [hl];exact (RO.1 hj).1
   exact ih j l[j] b (DP hjl) hj (k _ (List.getElem_mem hjl))
theorem gK.rep{e:G8}{w:World}{a b:AV}{v:Value}(h:gK a b)(r:Rep e w a v):Rep e w b v:=by
 induction h generalizing v with
 |refl=>exact r
 |lst sz n f g hfg=>
  cases r with
  |lstNil sz f=>exact .lstNil sz g
  |lst sz n f b o cap gg h1 h2 h3 h4 h5 h6 h7 h8 ad had=>
   exact .lst sz n g b o cap gg h1 h2 (λi O a ha=>h3 i O a (by rw [hfg i O];exact ha)) h4 h5 h6 (λi O=>by rw [←hfg i O];exact h7 i O) (λi j a O ha=>h8 i j a O (by rw [hfg i O];exact ha)) ad had
 |deep sz n f g hl hsm ih=>
  cases r with
  |lstNil sz f=>exact .lstNil sz g
  |lst sz n f b o cap gg h1 h2 h3 h4 h5 h6 h7 h8 ad had=>
   have get: ∀i j b,i<n->(g i)[j]? =some b-> ∃a,(f i)[j]? =some a:=λi j b O hb=>by
    have hj:j<(f i).length:=by rw [hl i O];exact (RO.1 hb).1
    exact ⟨_,DP hj⟩
   refine .lst sz n g b o cap gg h1 h2 (λi O b hb=>?_) h4 h5 h6 (λi O=>by rw [←hl i O];exact h7 i O) (λi j b O hb=>?_) ad had
   obtain ⟨j,hj⟩:=xU.1 hb;obtain ⟨a,ha⟩:=get i j b O hj;exact (hsm i j a b O ha hj).idf (h3 i O a (FN ha));obtain ⟨a,ha⟩:=get i j b O hb;exact ih i j a b O ha hb (h8 i j a O ha)
 |nil sz g=>cases r.x_inv;exact .lstNil sz g
 |agg l l' hl _ ih=>
  obtain ⟨vs,rfl,hr⟩:=r.agg_inv;refine Rep.aggL ⟨by rw [←hl];exact hr.1,λj b v hb hv=>?_⟩
  have hj:j<l.length:=by rw [hl];exact (RO.1 hb).1
  exact ih j l[j] b (DP hj) hb (hr.2 j _ v (DP hj) hv)
inductive PM:List AV->List AV->Prop
 |nil:PM [] []
 |cons {a b:AV} {l l':List AV}:gK a b->PM l l'->PM (a::l) (b::l')
theorem PM.same{l l':List AV}(h:PM l l'):gK (.agg l) (.agg l'):=by
 have key:l.length=l'.length/\ ∀(j:Nat) (a b:AV),l[j]? =some a->l'[j]? =some b->gK a b:=by
  induction h with
  |nil=>exact ⟨rfl,λj a b h=>by simp at h⟩
  |cons h1 _ ih=>
   refine ⟨by simp [ih.1],λj a b ha hb=>?_⟩
   cases j with
   |zero=>simp at ha hb;subst ha;subst hb;exact h1
   |succ j=>exact ih.2 j a b (by simpa using ha) (by simpa using hb)
 exact .agg l l' key.1 key.2
theorem PM.rep{e:G8}{w:World}{l l':List AV}(h:PM l l'): ∀{vs:List Value},UM e w l vs->UM e w l' vs:=by
 induction h with
 |nil=>exact λr=>r
 |cons h1 _ ih=>
  intro vs r;obtain ⟨v,vs',rfl,hv,hvs⟩:=r.cons_inv;exact UM.cons (h1.rep hv) (ih hvs)
theorem PM.idf{l l':List AV}(h:PM l l'):(∀a∈l,Idf a)-> ∀a∈l',Idf a:=by
 induction h with
 |nil=>exact λ_ a ha=>by cases ha
 |cons h1 _ ih=>
  intro k a ha;rcases HA.1 ha with rfl|ha;exact h1.idf (k _ H0);exact ih (λa ha=>k a (DB _ ha)) a ha
theorem UH.same{P:Program}{f:FuncId}{avs avs':List AV}{res:AV}(h:UH P f avs' res)(k:PM avs avs'):UH P f avs res:=h.args (λ_ _ _ r=>k.rep r) k.idf
def HI:List (Nat×AV)->List AV->List AV
 |[],σ=>σ
 |(k,a)::t,σ=>(HI t σ).set k a
def Wi5(P:Program)(G:List (Nat×Spec))(L:List G5)(body:Code)(s nxt:St)(out:GR->Option St):U6 GR:=
 (nI P G L body 0 s).bind λp=>match p.1 with
  | .normal=> .needT (qG p.2 nxt) (.leaf .normal)
  | .exit id=>match out (.exit id) with
   |some E=> .needT (qG p.2 E) (.leaf (.exit id))
   |none=> .fail
  | .ret=>match out .ret with
   |some E=> .needT (qG p.2 E) (.leaf .ret)
   |none=> .fail
section
variable {P:Program}{G:List (Nat×Spec)}{L:List G5}
theorem pP{body:Code}{s nxt:St}{out:GR->Option St}{R:GR->Prop}(h:(Wi5 P G L body s nxt out).sat R):
  (nI P G L body 0 s).sat (λp=>match p.1 with
   | .normal=>R .normal/\UU (qG p.2 nxt)
   |y=> ∃E,out y=some E/\R y/\UU (qG p.2 E)):=by
 refine U6.sat_mono ?_ (U6.sat_bind h);rintro ⟨y,s'⟩ hp;cases y with
 |normal=>exact ⟨(U6.sat_needT hp).2,(U6.sat_needT hp).1⟩
 |exit id=>
  dsimp only at hp ⊢
  split at hp;rename_i E hE;exact ⟨E,hE,(U6.sat_needT hp).2,(U6.sat_needT hp).1⟩;exact hp.elim
 |ret=>
  dsimp only at hp ⊢
  split at hp;rename_i E hE;exact ⟨E,hE,(U6.sat_needT hp).2,(U6.sat_needT hp).1⟩;exact hp.elim
theorem D4(hG:U4 P G)(HE:P.follows .mixedOrders=true){body:Code}(hL: ∀j cj,UC body j=some cj-> ∀sp,L[j]? =some sp->GU P cj sp)
  {X:Type}(inv:X->St)(I:X->Prop)(μ:X->Nat)(out:X->GR->Option St){t:CT}{x0:X}(h0:I x0)
  (hok: ∀x,okB (inv x)=true)(wR: ∀x y E,out x y=some E->okB E=true)
  (round: ∀(Q:GR×St->Prop),t.sat Q-> ∀x,I x-> ∃x',(Wi5 P G L body (inv x) (inv x') (out x)).sat (λy=>match y with
   | .normal=>I x'/\μ x'<μ x
   |y=> ∀E,out x y=some E->Q (y,E))):GU P (.loop body) (D1 (inv x0) t):=by
 intro ro cx;refine kO (hok x0) ?_;intro n Q hQ a w r;refine bL μ (λx a w=>I x/\Rel cx (inv x) a w) ?_ ⟨h0,r⟩;rintro x a w ⟨hx,hr⟩;obtain ⟨x',jR⟩:=round Q hQ x hx;refine wpIn_mono (DN hG (UG.nil P cx) HE body 0 (inv x) _ a w (λj cj hj sp hsp=>hL j cj hj sp (by simpa using hsp) ro cx) (pP jR) hr) ?_
 rintro ex a₁ w₁ ⟨y,s',rfl,hq,hr'⟩;cases y with
 |normal=>
  obtain ⟨⟨h1,h2⟩,h3⟩:=hq;exact ⟨x',h2,h1,RP (GY h3) (hok x') hr'⟩
 |exit id=>
  obtain ⟨E,hE,h1,h3⟩:=hq;exact ⟨.exit id,E,rfl,h1 E hE,RP (GY h3) (wR x _ E hE) hr'⟩
 |ret=>
  obtain ⟨E,hE,h1,h3⟩:=hq;exact ⟨.ret,E,rfl,h1 E hE,RP (GY h3) (wR x _ E hE) hr'⟩
end
def HJ(p:Nat->Bool):Nat->Nat
 | 0=>0
 |n+1=>match Nat.blt (HJ p n) n with
  |true=>HJ p n
  |false=>match p n with
   |true=>n
   |false=>n+1
theorem FI(p:Nat->Bool): ∀n,HJ p n<=n/\(∀j,j<HJ p n->p j=false)/\(HJ p n<n->p (HJ p n)=true)
 | 0=>by simp [HJ]
 |n+1=>by
  obtain ⟨h1,h2,h3⟩:=FI p n;unfold HJ;split;rename_i hb;rw [Aw] at hb;exact ⟨U3,h2,λ_=>h3 hb⟩;rename_i hb;rw [←Bool.not_eq_true,Aw] at hb;have:HJ p n=n:=U3;rw [this] at h2;split;rename_i hp;exact ⟨U3,h2,λ_=>hp⟩;rename_i hp;refine ⟨U3,λj hj=>?_,λh=>U3⟩;rcases (show j<n\/j=n by omega) with h|rfl
  exact h2 j h;exact hp
theorem jT{p:Nat->Bool}{n k:Nat}(hk:k<n)(hp:p k=true)(hb: ∀j,j<k->p j=false):HJ p n=k:=by
 obtain ⟨h1,h2,h3⟩:=FI p n;rcases Nat.lt_trichotomy (HJ p n) k with h|h|h;have:=h3 U3;rw [hb _ h] at this;cases this;exact h;rw [h2 k h] at hp;cases hp
theorem wA{p:Nat->Bool}{n:Nat}(hb: ∀j,j<n->p j=false):HJ p n=n:=by
 obtain ⟨h1,h2,h3⟩:=FI p n;rcases An (HJ p n) n with h|h;have:=h3 h;rw [hb _ h] at this;cases this;omega
def F1(p:Nat->Bool):Nat->Bool
 | 0=>true
 |n+1=>F1 p n&&p n
theorem HG{p:Nat->Bool}: ∀{n:Nat},F1 p n=true↔ ∀j,j<n->p j=true
 | 0=>by simp [F1]
 |n+1=>by
  rw [F1,HV,HG];constructor;rintro ⟨h1,h2⟩ j hj;rcases (show j<n\/j=n by omega) with h|rfl
  exact h1 j h;exact h2;exact λh=>⟨λj hj=>h j U3,h n U3⟩
theorem yL{p:Nat->Bool}{n:Nat}:F1 p n=decide (HJ (λk=> !p k) n=n):=by
 obtain ⟨h1,h2,h3⟩:=FI (λk=> !p k) n;rw [Bool.eq_iff_iff,HG,yN];constructor;intro h;exact wA (λj hj=>by simp [h j hj])
 intro h j hj;have:=h2 j U3;simpa using this
