/- Contracts, put together. Conditions: those of each. -/
import Derived.Test.YtlclobclmfhlmaaGreatDoorMa
set_option linter.unusedSimpArgs false
set_option linter.unusedVariables false
namespace Go.Sx
open Go Go.RowKit
inductive VP (α:Type) where
 |fail
 |leaf (a:α)
 |branch (b:Bool) (t f:VP α)
 |need (ps:List Prop) (t:VP α)
 |may (p:Prop) (t f:VP α)
def UD:List Prop->Prop
 |[]=>True
 |[p]=>p
 |p::ps=>p/\UD ps
theorem GF: ∀{ps:List Prop},UD ps-> ∀p∈ps,p
 |[],_,_,h=>by cases h
 |[q],h,p,hp=>by rcases B6.1 hp with rfl;exact h
 |q::r::ps,h,p,hp=>by
  rcases GQ.1 hp with rfl|hp
  ·exact h.1
  ·exact GF h.2 p hp
namespace VP
variable {α β:Type}
def bind:VP α->(α->VP β)->VP β
 | .fail,_=> .fail
 | .leaf a,g=>g a
 | .branch b t f,g=> .branch b (t.bind g) (f.bind g)
 | .need ps t,g=> .need ps (t.bind g)
 | .may p t f,g=> .may p (t.bind g) (f.bind g)
def sat(Q:α->Prop):VP α->Prop
 | .fail=>False
 | .leaf a=>Q a
 | .branch b t f=>(b=true->t.sat Q)/\(b=false->f.sat Q)
 | .need ps t=>UD ps/\t.sat Q
 | .may p t f=>(p->t.sat Q)/\f.sat Q
theorem sat_mono{Q Q':α->Prop}(h: ∀a,Q a->Q' a): ∀{t:VP α},t.sat Q->t.sat Q'
 | .fail,k=>k
 | .leaf _,k=>h _ k
 | .branch _ _ _,k=>⟨λe=>sat_mono h (k.1 e),λe=>sat_mono h (k.2 e)⟩
 | .need _ _,k=>⟨k.1,sat_mono h k.2⟩
 | .may _ _ _,k=>⟨λe=>sat_mono h (k.1 e),sat_mono h k.2⟩
theorem sat_bind{Q:β->Prop}{g:α->VP β}: ∀{t:VP α},(t.bind g).sat Q->t.sat (λa=>(g a).sat Q)
 | .fail,k=>k
 | .leaf _,k=>k
 | .branch _ _ _,k=>⟨λe=>sat_bind (k.1 e),λe=>sat_bind (k.2 e)⟩
 | .need _ _,k=>⟨k.1,sat_bind k.2⟩
 | .may _ _ _,k=>⟨λe=>sat_bind (k.1 e),sat_bind k.2⟩
def needT(ps:List Prop)(t:VP α):VP α:=match ps with
 |[]=>t
 |p::r=> .need (p::r) t
theorem sat_needT{Q:α->Prop}{ps:List Prop}{t:VP α}(h:(needT ps t).sat Q):UD ps/\t.sat Q:=by
 cases ps with
 |nil=>exact ⟨trivial,h⟩
 |cons p r=>exact h
end VP
structure St where
 σ:List AV
 m:H5
 nx:Nat
 gh:Option Nat:=none
 sv:List (List AV):=[]
def b9:Value->AV
 | .bool b=> .lit b
 |v=> .x v
def rho(σ:List AV):Operand->AV
 | .tmp t=>σ.getD t .top
 | .const v=>b9 v
 | .global g=> .x (.pointer (some ⟨g,0,none⟩))
 | .func f=> .fn (.func f) [] []
theorem rT{e:UN}{w:World}(v:Value):Rep e w (b9 v) v:=by
 unfold b9;split
 ·exact .lit _
 ·exact .x _
theorem FM{e:UN}{w:World}{σ:List AV}{a:Act}(h:U5 e w σ a.tmps.toList)(x:Operand):Rep e w (rho σ x) (a.eval x):=by
 cases x with
 |tmp t=>
  simp only [rho,Act.eval];by_cases ht:t<σ.length
  ·obtain ⟨v,hv,r⟩:=h.get (List.getElem?_eq_getElem ht);have hv':a.tmps[t]? =some v:=by simpa using hv
   simpa [List.getD,List.getElem?_eq_getElem ht,Array.getD_eq_getD_getElem?,hv'] using r
  ·have hno:σ[t]? =none:=Br (Nat.le_of_not_lt ht);rw [List.getD,hno];exact .top _
 |const v=>exact rT v
 |global g=>exact .x _
 |func f=>exact .fn (.func f) [] [] [] [] rfl (λi a v h=>by simp at h) rfl (λi a v h=>by simp at h)
structure Cx where
 M:Nat->Prop
 Φ:Option Nat->(Nat->Prop)->World->Prop
 K:Nat->Obj->Prop
 saved:List (List Value)
 sz:Nat:=0
def SX(M:Nat->Prop)(e:UN)(w:World)(ds:List Deferred):Prop:=(∀d∈ds,∃D,d={target:= .collected D,args:=#[] }/\e.ro D/\D<w.heap.size/\w.heap[D]? =some (.deferred (some []))/\M D)/\ds.Nodup
def LC(e:UN)(w:World)(l:List (List AV))(vs:List (List Value)):Prop:=l.length=vs.length/\ ∀(i:Nat) (a:List AV) (v:List Value),l[i]? =some a->vs[i]? =some v->U5 e w a v
theorem LC.step{e e':UN}{w w':World}(s:Step e e' w w'){l:List (List AV)}{vs:List (List Value)}(h:LC e w l vs):LC e' w' l vs:=⟨h.1,λi a v ha hv=>(h.2 i a v ha hv).step s⟩
theorem LC.cons{e:UN}{w:World}{a:List AV}{v:List Value}{l:List (List AV)}{vs:List (List Value)}(h:U5 e w a v)(t:LC e w l vs):LC e w (a::l) (v::vs):=by
 refine ⟨by simp [t.1],λi b u hb hu=>?_⟩
 cases i with
 |zero=>simp at hb hu;subst hb;subst hu;exact h
 |succ i=>simp at hb hu;exact t.2 i b u hb hu
theorem LC.cons_inv{e:UN}{w:World}{l:List (List AV)}{v:List Value}{vs:List (List Value)}(h:LC e w l (v::vs)): ∃a l',l=a::l'/\U5 e w a v/\LC e w l' vs:=by
 cases l with
 |nil=>have:=h.1;simp at this
 |cons a l'=>exact ⟨a,l',rfl,h.2 0 a v (by simp) (by simp),⟨by have:=h.1;simpa using this,λi b u hb hu=>h.2 (i+1) b u (by simpa using hb) (by simpa using hu)⟩⟩
theorem LC.map{e e':UN}{w w':World}{l:List (List AV)}{vs:List (List Value)}(g:AV->AV)(hg: ∀a v,Rep e w a v->Rep e' w' (g a) v)(h:LC e w l vs):LC e' w' (l.map (·.map g)) vs:=by
 refine ⟨by simp [h.1],λi a v ha hv=>?_⟩
 rw [Bn,Ay] at ha;obtain ⟨a',ha',rfl⟩:=ha;obtain ⟨h1,h2⟩:=h.2 i a' v ha' hv;refine ⟨by simp [h1],λj b u hb hu=>?_⟩
 rw [Bn,Ay] at hb;obtain ⟨b',hb',rfl⟩:=hb;exact hg _ _ (h2 j b' u hb' hu)
structure Xt (c:Cx) (e:UN) (sv:List (List AV)) (ds:List Deferred) (w:World):Prop where
 defers:SX c.M e w ds
 kept: ∀b o,c.K b o->e.ro b/\b<w.heap.size/\w.heap[b]? =some o
 saved:LC e w sv c.saved
 size:c.sz<=w.heap.size
theorem SX.step{M:Nat->Prop}{e e':UN}{w w':World}(s:Step e e' w w'){ds:List Deferred}(h:SX M e w ds):SX M e' w' ds:=by
 refine ⟨λd hd=>?_,h.2⟩
 obtain ⟨D,h1,h2,h3,h4,h5⟩:=h.1 d hd;obtain ⟨k1,k2⟩:=s.ro D h3 h2;exact ⟨D,h1,k1,Nat.lt_of_lt_of_le h3 s.size,k2.trans h4,h5⟩
theorem Xt.step{c:Cx}{e e':UN}{sv:List (List AV)}{ds:List Deferred}{w w':World}(h:Xt c e sv ds w)(s:Step e e' w w'):Xt c e' sv ds w':=by
 refine ⟨h.defers.step s,λb o hb=>?_,h.saved.step s,Ar h.size s.size⟩
 obtain ⟨h1,h2,h3⟩:=h.kept b o hb;obtain ⟨k1,k2⟩:=s.ro b h2 h1;exact ⟨k1,Nat.lt_of_lt_of_le h2 s.size,k2.trans h3⟩
structure F7 (c:Cx) (w0:World) (T:Nat->Prop) (e:UN) (s:St) (a:Act) (w:World):Prop where
 env:G4 e w0.heap.size w
 below:Below w0.heap.size w0 w
 mem:UX e s.m w
 live: ∀k,e.live k->k<s.nx
 foe: ∀b,T b->b<w0.heap.size/\ ¬e.ro b
 xt:Xt c e s.sv a.defers w
 slots:U5 e w s.σ a.tmps.toList
def Rel(c:Cx)(s:St)(a:Act)(w:World):Prop:= ∃w0 T e,c.Φ s.gh T w0/\F7 c w0 T e s a w
def xJ(σ:List AV)(dst:Option Nat)(v:AV):List AV:=
 match dst with
 |some d=>σ.set d v
 |none=>σ
theorem qE{e:UN}{w:World}{σ:List AV}{a:Act}(h:U5 e w σ a.tmps.toList)(dst:Option Nat){av:AV}{v:Value}(r:Rep e w av v):U5 e w (xJ σ dst av) (a.put dst v).tmps.toList:=by
 cases dst with
 |none=>exact h
 |some d=>simp only [xJ,Act.put,Array.toList_setIfInBounds];exact h.set r d
theorem put_defers(a:Act)(dst:Option Nat)(v:Value):(a.put dst v).defers=a.defers:=by cases dst<;>rfl
theorem F7.hB{c:Cx}{w0:World}{T:Nat->Prop}{e:UN}{s:St}{a:Act}{w:World}(h:F7 c w0 T e s a w):w0.heap.size<=w.heap.size:=h.below.size
def fr(ro:Option Nat):Fence:={Fence.wide with round:=ro}
section
variable {ro:Option Nat}{n:Nat}{P:Program}
theorem IZ{f:FuncId}{args:Array Value}{w:World}{R:Ending->World->Prop}(h:Calls P f args w R):CallsIn (fr ro) n P f args w R:=callsIn_wide (n:=n).2 h
theorem Qn7{row:String}{args:Array Value}{w:World}{R:Value->World->Prop}(h:Rows P row args w R):RowsIn (fr ro) n P row args w R:=λc cs _=>by
 obtain ⟨v,w',h1,h2⟩:=h c cs;exact ⟨v,w',h1,stepsIn_wide.2 h2⟩
theorem HO{o:Oper}{a:Act}{w:World}{K:Act->World->Prop}{Q:Exit->Act->World->Prop}(hd: ∀c,o.op≠ .defer c)(h:o.wp P a w K Q):o.wpIn (fr ro) n P a w K Q:=by
 refine ⟨λf _=>trivial,?_⟩
 rw [Oper.semAt_eq _ _ _ hd];unfold Oper.wp at h;generalize (execOp a.eval o).run P w=r at h ⊢;have Xl6:(fr ro).depth.isSome=true->1<=n:=λh=>by cases h
 unfold Oper.upon at h;split at h
 ·exact h
 ·exact h
 ·exact h
 ·exact ⟨Xl6,IZ h⟩
 ·exact ⟨Xl6,Qn7 h⟩
 ·exact h
 ·exact h.elim
end
def mL(P:Program)(id:Nat)(m:H5)(ρ:Operand->AV)(op:Op):Option (List Prop×AV×H5):=
 match op with
 | .store t x y=>match zW P m t (ρ x) (ρ y) with
  |some (ns,m')=>some (ns,.top,m')
  |none=>none
 | .mapUpdate t x k y=>match ρ x,AY (ρ k),AY (ρ y),Qx2 P t with
  | .mp id,some kv,some yv,some z=>match DJ m id with
   |some (.memo h f)=>match Zm8 (ρ y) with
    |true=>some ([∀u,h u->f u=yv,FG P t (λu=>h u\/u=kv) kv z],.top,(id,.memo (λu=>h u\/u=kv) (λ_=>yv))::jU m id)
    |false=>some ([FG P t h kv z,h kv,yv=f kv],.top,(id,.memo h f)::jU m id)
   |_=>none
  |_,_,_,_=>none
 | .call c=>match c.callee,c.args.toList,c.argTypes.toList with
  | .builtin .append,[s,x],[t,t']=>match Nat.beq t t' with
   |true=>R0 P id m t (ρ s) (ρ x)
   |false=>yH P id m t t' (ρ s) (ρ x)
  |_,_,_=>none
 |_=>none
def mH(P:Program)(m:H5)(ρ:Operand->AV)(op:Op):Option (List Prop×Prop×AV×AV):=
 match op with
 | .binOp .eql t x (.const (.slice none 0 0)) _=>match ρ x,P.underlying t with
  | .lst _ n _,some (.slice _)=>some ([],n=0,.lit true,.lit false)
  |_,_=>none
 | .binOp .neq t x (.const (.slice none 0 0)) _=>match ρ x,P.underlying t with
  | .lst _ n _,some (.slice _)=>some ([],n=0,.lit false,.lit true)
  |_,_=>none
 | .lookup t x k ok=>match ρ x,AY (ρ k),Qx2 P t with
  | .mp id,some kv,some z=>match DJ m id with
   |some (.memo h f)=>some ([FG P t h kv z],h kv,pK ok (f kv) true,pK ok z false)
   |_=>none
  |_,_,_=>none
 |_=>none
abbrev DK:=List AV->Option (VP AV)
abbrev BQ:=List AV->Option (List Prop×TypeId×Nat×Nat×(Nat->List AV))
abbrev D6:=List AV->H5->Nat->List (List AV)->Option (VP (AV×H5×Nat×List (List AV)))
def Xw7(o:Option Nat)(s:St)(p:AV×H5×Nat×List (List AV)):VP St:=match p.2.2.2 with
 |σ::t=> .leaf {s with σ:=xJ σ o p.1,m:=p.2.1,nx:=p.2.2.1,sv:=t}
 |[]=> .fail
structure Ext where
 Y:Option (Nat×Nat×(Nat->List Value)):=none
 R:List (Nat×Spec):=[]
 H:List (Nat×D6):=[]
 C:List (Nat×DK):=[]
 F:List (Nat×BQ):=[]
 D:List (Nat×DK):=[]
def Wt1:List (Nat×D6)->Nat->Option D6
 |[],_=>none
 |(k,s)::t,f=>match Nat.beq k f with
  |true=>some s
  |false=>Wt1 t f
theorem Wt0{G:List (Nat×D6)}{f:Nat}{s:D6}(h:Wt1 G f=some s):(f,s)∈G:=by
 induction G with
 |nil=>simp [Wt1] at h
 |cons p t ih=>
  obtain ⟨k,r'⟩:=p;unfold Wt1 at h;split at h
  ·rename_i hk;have:k=f:=Nat.eq_of_beq_eq_true hk;subst this;cases h;exact List.mem_cons_self
  ·exact List.mem_cons_of_mem _ (ih h)
def aP:List (Nat×DK)->Nat->Option DK
 |[],_=>none
 |(k,s)::t,f=>match Nat.beq k f with
  |true=>some s
  |false=>aP t f
def Wt3:List (Nat×BQ)->Nat->Option BQ
 |[],_=>none
 |(k,s)::t,f=>match Nat.beq k f with
  |true=>some s
  |false=>Wt3 t f
theorem Wt2{G:List (Nat×BQ)}{f:Nat}{s:BQ}(h:Wt3 G f=some s):(f,s)∈G:=by
 induction G with
 |nil=>simp [Wt3] at h
 |cons p t ih=>
  obtain ⟨k,s'⟩:=p;unfold Wt3 at h;split at h
  ·rename_i hk;have:k=f:=Nat.eq_of_beq_eq_true hk;subst this;cases h;exact List.mem_cons_self
  ·exact List.mem_cons_of_mem _ (ih h)
theorem IF{G:List (Nat×DK)}{f:Nat}{s:DK}(h:aP G f=some s):(f,s)∈G:=by
 induction G with
 |nil=>simp [aP] at h
 |cons p t ih=>
  obtain ⟨k,r'⟩:=p;unfold aP at h;split at h
  ·rename_i hk;have:k=f:=Nat.eq_of_beq_eq_true hk;subst this;cases h;exact List.mem_cons_self
  ·exact List.mem_cons_of_mem _ (ih h)
def AA:Nat->AV->Bool
 | 0,a=>a.idf
 |d+1,a=>match a with
  | .agg l=>l.all (AA d)
  | .tup l=>l.all (AA d)
  | .fn _ l l'=>l.all (AA d)&&l'.all (AA d)
  |a=>a.idf
theorem kN{e:UN}{w:World}: ∀(d:Nat) (a:AV) (v:Value),Rep e w a v->AA d a=true->Idf a
 | 0,_,_,r,h=>j7 r h
 |d+1,a,v,r,h=>by
  have ih:=kN (e:=e) (w:=w) d;have all: ∀{l:List AV} {vs:List Value},U5 e w l vs->l.all (AA d)=true-> ∀a∈l,Idf a:=by
   intro l vs Z hl a ha;obtain ⟨i,O⟩:=List.mem_iff_getElem?.1 ha;obtain ⟨v,hv,r⟩:=Z.get O;exact ih a v r (List.all_eq_true.1 hl a ha)
  cases r with
  |agg l vs h1 h2=>exact .agg l (all ⟨h1,h2⟩ h)
  |tup l vs h1 h2=>exact .tup l (all ⟨h1,h2⟩ h)
  |fn f l l' vs vs' h1 h2 h3 h4=>
   simp only [AA,Bool.and_eq_true] at h;exact .fn f l l' (all ⟨h1,h2⟩ h.1) (all ⟨h3,h4⟩ h.2)
  |top v=>exact .top
  |lit b=>exact .lit b
  |x v=>exact .x v
  |ro l vs b o h1 h2 h3 h4 h5 h6=>exact .ro l h3
  |lstNil sz f=>exact .lst sz 0 f (λi O=>by omega)
  |lst sz n f b o cap g h1 h2 h3 h4 h5 h6 h7 h8 ad had=>exact .lst sz n f h3
  |roI pre n f off b o Z=>exact j7 (Rep.roI pre n f off b o Z) rfl
  |mpr g okf vals b es c h1 h2 h3 h4 h5 h6 h7 h8=>exact .mpr g okf h3
  |any1 v hv=>exact .any1
  |_=>simp [AA,AV.idf] at h
def AX:List AV->Option (List Value)
 |[]=>some []
 |a::t=>match AY a,AX t with
  |some v,some vs=>some (v::vs)
  |_,_=>none
theorem AW{e:UN}{w:World}: ∀{l:List AV} {vs us:List Value},AX l=some vs->U5 e w l us->us=vs
 |[],vs,us,h,r=>by
  simp only [AX,Option.some.injEq] at h;rw [r.nil_inv,←h]
 |a::l,vs,us,h,r=>by
  obtain ⟨u,us',rfl,hu,r'⟩:=r.cons_inv;unfold AX at h;split at h
  ·rename_i v vs' h1 h2;cases h;rw [xF h1 hu,AW h2 r']
  ·cases h
def opX(X:Ext)(o:Oper)(s:St):Option (VP St):=
 match o.op with
 | .call c=>match c.callee with
  | .value f=>match rho s.σ f with
   | .fn (.yield l) [] []=>match X.Y,s.gh,s.sv,AX (c.args.toList.map (rho s.σ)) with
    |some (l',N,vals),some k,[],some vs=>some (.need [l=l',k<N,vs=vals k]
      (.may True (.leaf {σ:=xJ (s.σ.map (DF s.m 40)) o.dst (.lit true),m:=[],nx:=0,gh:=some (k+1),sv:=[] })
       (.leaf {σ:=xJ (s.σ.map (DF s.m 40)) o.dst (.lit false),m:=[],nx:=0,gh:=none,sv:=[] })))
    |_,_,_,_=>none
   | .fn (.func g) first caps=>match sH X.R g with
    |some sp=>match (first++c.args.toList.map (rho s.σ)++caps).all (AA 6) with
     |true=>match sp (first++c.args.toList.map (rho s.σ)++caps) with
      |some (ns,r)=>some (.needT ns (.leaf {s with σ:=xJ s.σ o.dst r,nx:=s.nx+1}))
      |none=>none
     |false=>none
    |none=>match Wt1 X.H g with
     |some h=>match h (first++c.args.toList.map (rho s.σ)++caps) s.m s.nx (s.σ::s.sv) with
      |some t=>some (t.bind (Xw7 o.dst s))
      |none=>none
     |none=>match aP X.C g with
      |some sp=>match (first++c.args.toList.map (rho s.σ)++caps).all (AA 6) with
       |true=>match sp (first++c.args.toList.map (rho s.σ)++caps) with
        |some t=>some (t.bind λr=> .leaf {s with σ:=xJ s.σ o.dst r,nx:=s.nx+1})
        |none=>none
       |false=>none
      |none=>none
   |_=>none
  |_=>none
 |_=>none
section
variable (P:Program)(f:FuncId)(avs:List AV)
def FF(res:AV):Prop:=
 ∀(e:UN) (w:World) (args:List Value),(∀b,e.ro b->b<w.heap.size)->D5 e w->(∀a∈avs,Idf a)->U5 e w avs args->
  Calls P f args.toArray w λen w'=> ∃v,en= .returned v/\Below w.heap.size w w'/\Rep {PJ w w' with ro:=(e.more w w').ro} w' res v
def UQ(t:VP AV):Prop:=
 ∀Q:AV->Prop,t.sat Q-> ∀(e:UN) (w:World) (args:List Value),(∀b,e.ro b->b<w.heap.size)->D5 e w->(∀a∈avs,Idf a)->U5 e w avs args->
  Calls P f args.toArray w λen w'=> ∃v r,en= .returned v/\Q r/\Below w.heap.size w w'/\Rep {PJ w w' with ro:=(e.more w w').ro} w' r v
def PO(t:VP AV):Prop:=
 ∀Q:AV->Prop,t.sat Q-> ∀(e:UN) (w:World) (args:List Value),(∀b,e.ro b->b<w.heap.size)->D5 e w->(∀a∈avs,Idf a)->U5 e w avs args->
  Calls P f args.toArray w λen w'=> ∃v r,en= .returned v/\Q r/\Below w.heap.size w w'/\Rep (PJ w w') w' r v
def DR(T:TypeId)(sz n:Nat)(g:Nat->List AV):Prop:=
 ∀(e:UN) (w:World) (args:List Value),(∀b,e.ro b->b<w.heap.size)->D5 e w->(∀a∈avs,Idf a)->U5 e w avs args->
  Calls P f args.toArray w λen w'=> ∃v xs,en= .returned v/\Below w.heap.size w w'/\w'.ownsRow 0 T sz v n xs/\(∀b,v.ownBlock=some b->w.heap.size<=b/\b<w'.heap.size)/\
   (∀i,i<n->(g i).length=sz/\ ∀a∈g i,∃u,a= .x u)/\ ∀(i j:Nat) (a:AV) (u:Value),i<n->(g i)[j]? =some a->xs[i*sz+j]? =some u->a= .x u
end
theorem IY{e:UN}{B:Nat}{w w':World}{m:H5}{id:Nat}{T:TypeId}{sz n:Nat}{g:Nat->List AV}{v:Value}{xs:List Value}(hE:G4 e B w)(hB:B<=w.heap.size)(hm:UX e m w)(hid: ¬e.live id)
  (hb:Below w.heap.size w w')(ho:w'.ownsRow 0 T sz v n xs)(hn: ∀b,v.ownBlock=some b->w.heap.size<=b/\b<w'.heap.size)(hg: ∀i,i<n->(g i).length=sz/\ ∀a∈g i,∃u,a= .x u)
  (Z: ∀(i j:Nat) (a:AV) (u:Value),i<n->(g i)[j]? =some a->xs[i*sz+j]? =some u->a= .x u):
  LP e B w m id (.row id) (some (.row T sz n g)) v w':=by
 let e':UN:={ro:=λb=>e.ro b\/(w.heap.size<=b/\b<w'.heap.size/\v.ownBlock≠some b),own:=λb=>if v.ownBlock=some b then some id else e.own b,live:=λk=>k=id\/e.live k,blk:=e.blk,val:=λk=>if k=id then v else e.val k}
 have Wq2: ∀b,b<w.heap.size->v.ownBlock≠some b:=λb hb hv=>by have:=(hn b hv).1;omega
 have st:Step e e' w w':=by
  refine ⟨λb hlt Z=>⟨.inl Z,hb.block b hlt⟩,λk hk=>⟨.inr hk,rfl,?_⟩,hb.size⟩
  have:k≠id:=λh=>hid (h▸hk)
  simp [e',this]
 have HA: ∀b k,e.own b=some k->e'.own b=some k:=by
  intro b k hk;have:=(hE.owned b k hk).2;show (if v.ownBlock=some b then some id else e.own b)=some k
  rw [if_neg (Wq2 b this)];exact hk
 have hE':G4 e' B w':=by
  refine ⟨?_,λb k hk=>?_,hE.glob.step st⟩
  ·rintro b (h|⟨h1,h2,h3⟩)
   ·have h4:=hE.apart b h;have:=hb.size;refine ⟨?_,by omega⟩
    show (if v.ownBlock=some b then some id else e.own b)=none
    rw [if_neg (Wq2 b h4.2)];exact h4.1
   ·refine ⟨?_,h2⟩;show (if v.ownBlock=some b then some id else e.own b)=none
    rw [if_neg h3];cases ho:e.own b with
    |none=>rfl
    |some k=>have:=(hE.owned b k ho).2;omega
  ·have hk:(if v.ownBlock=some b then some id else e.own b)=some k:=hk
   split at hk
   ·rename_i hv;have:=hn b hv;omega
   ·have:=hE.owned b k hk;have:=hb.size;omega
 refine ⟨e',hb,st,hE',HA,?_,?_,λk hk=>hk.symm,λb h=>h.imp (λh=>h) (λh=>h.1)⟩
 ·rcases ho.2 with ⟨rfl,rfl⟩|⟨gb,cap,cur,rfl,_⟩
  ·exact .row id _ _ _ (.inl rfl) (by simp [e'])
  ·exact .row id _ _ _ (.inl rfl) (by simp [e'])
 ·intro p hp;rcases List.mem_cons.1 hp with rfl|hp
  ·refine ⟨.inl rfl,λb hv=>?_,λi O=>⟨(hg i O).1,λa ha=>?_⟩,xs,?_,λi j a u O ha hu=>?_⟩
   ·have hv:v.ownBlock=some b:=by simpa [e'] using hv
    show (if v.ownBlock=some b then some id else e.own b)=some id
    rw [if_pos hv]
   ·obtain ⟨u,rfl⟩:=(hg i O).2 a ha;exact .x u
   ·show w'.ownsRow 0 T sz (if id=id then v else e.val id) n xs
    rw [if_pos rfl];exact ho
   ·rw [Z i j a u O ha hu];exact .x u
  ·exact (hm p hp).ext hb st HA
def GE(P:Program)(f:FuncId)(h:D6):Prop:=Enters P f/\ ∀avs m nx sv t,h avs m nx sv=some t-> ∀Q,t.sat Q-> ∀(c:Cx) (w0:World) (T:Nat->Prop) (e:UN) (ds:List Deferred) (args:List Value) (w:World),
 G4 e w0.heap.size w->Below w0.heap.size w0 w->UX e m w->(∀k,e.live k->k<nx)->(∀b,T b->b<w0.heap.size/\ ¬e.ro b)->Xt c e sv ds w->U5 e w avs args->
  Calls P f args.toArray w λen w'=> ∃v r m' nx' sv' e',en= .returned v/\Q (r,m',nx',sv')/\G4 e' w0.heap.size w'/\Below w0.heap.size w0 w'/\UX e' m' w'/\(∀k,e'.live k->k<nx')/\
   (∀b,T b->b<w0.heap.size/\ ¬e'.ro b)/\Xt c e' sv' ds w'/\Rep e' w' r v
def Zr4(P:Program)(c:Cx)(l N:Nat)(vals:Nat->List Value):Prop:=
 (∀k T w w',c.Φ (some k) T w->Below w.heap.size w w'->c.Φ (some k) T w')/\
 ∀k T w n,c.Φ (some k) T w->k<N->YieldAt (fr none) n P l (vals k).toArray w λen w'=>w.heap.size<=w'.heap.size/\(∀b,b<w.heap.size-> ¬T b->w'.heap[b]? =w.heap[b]?)/\
  ∃T',(∀b,T' b->b<w'.heap.size/\(T b\/w.heap.size<=b))/\((en= .returned (.bool true)/\c.Φ (some (k+1)) T' w')\/(en= .returned (.bool false)/\c.Φ none T' w'))
structure VZ (P:Program) (X:Ext) (c:Cx):Prop where
 y: ∀l N vals,X.Y=some (l,N,vals)->Zr4 P c l N vals
 r: ∀p∈X.R,Enters P p.1/\ ∀avs ns res,p.2 avs=some (ns,res)->(∀p∈ns,p)->FF P p.1 avs res
 h: ∀p∈X.H,GE P p.1 p.2
 c: ∀p∈X.C,Enters P p.1/\ ∀avs t,p.2 avs=some t->UQ P p.1 avs t
 f: ∀p∈X.F,Enters P p.1/\ ∀avs ns T sz n g,p.2 avs=some (ns,T,sz,n,g)->(∀q∈ns,q)->DR P p.1 avs T sz n g
 d: ∀p∈X.D,Enters P p.1/\ ∀avs t,p.2 avs=some t->PO P p.1 avs t
theorem VZ.nil(P:Program)(c:Cx):VZ P {} c:=⟨(λ_ _ _ h=>by cases h),(λ_ h=>by cases h),(λ_ h=>by cases h),(λ_ h=>by cases h),(λ_ h=>by cases h),(λ_ h=>by cases h)⟩
def Wd9(P:Program)(G:List (Nat×Spec))(X:Ext)(o:Oper)(s:St):VP St:=
 match aop P G s.nx s.m (rho s.σ) o.op with
 |some (ns,val,add)=> .needT ns (.leaf {s with σ:=xJ s.σ o.dst val,m:=Jn1 s.m s.nx add,nx:=s.nx+1})
 |none=>match mL P s.nx s.m (rho s.σ) o.op with
  |some (ns,val,m')=> .needT ns (.leaf {s with σ:=xJ s.σ o.dst val,m:=m',nx:=s.nx+1})
  |none=>match mH P s.m (rho s.σ) o.op with
   |some (ns,p,v1,v2)=> .needT ns (.may p (.leaf {s with σ:=xJ s.σ o.dst v1,nx:=s.nx+1}) (.leaf {s with σ:=xJ s.σ o.dst v2,nx:=s.nx+1}))
   |none=>match opX X o s with
    |some t=>t
    |none=> .fail
section
variable {P:Program}
theorem tI{e:UN}{B:Nat}{w:World}{m m':H5}{id:Nat}{ρ:Operand->AV}{o:Oper}{a:Act}{ns:List Prop}{val:AV}
  (h:mL P id m ρ o.op=some (ns,val,m'))(hn: ∀p∈ns,p)(hE:G4 e B w)(hB:B<=w.heap.size)(hm:UX e m w)(hid: ¬e.live id)(Z: ∀x,Rep e w (ρ x) (a.eval x))
  {K:Act->World->Prop}{Q:Exit->Act->World->Prop}(hK: ∀v w',MB e B w id val m' v w'->K (a.put o.dst v) w'):o.wp P a w K Q:=by
 obtain ⟨dst,op,type,pos,after,guard⟩:=o;cases op<;>try (simp [mL] at h;done)
 case store t x y=>
  simp only [mL] at h;split at h
  ·rename_i ns' m'' hs;cases h;obtain ⟨w',h1,h2⟩:=MZ (P:=P) hs hn hE hm (Z x) (Z y);unfold Oper.wp;have DS:(execOp a.eval ⟨dst,.store t x y,type,pos,after,guard⟩).run P w= .ok .skip w':=by simp [execOp,h1]
   rw [DS];exact hK undef w' (h2 id undef)
  ·cases h
 case mapUpdate t x k y=>
  simp only [mL] at h;split at h
  ·rename_i i kv yv z hx hkv hyv hz;split at h
   ·rename_i g f hg;have rx:=Z x;rw [hx] at rx;have ek:=xF hkv (Z k);have ey:=xF hyv (Z y);split at h
    ·cases h;cases hxv:a.eval x with
     |map b=>
      rw [hxv] at rx;cases rx with
      |mp _ hl=>
       obtain ⟨w',h1,h2⟩:=Wb7 hg (hn (∀u,g u->f u=yv) (by simp)) (hn (FG P t (λu=>g u\/u=kv) kv z) (by simp)) hE hm
       unfold Oper.wp;have DS:(execOp a.eval ⟨dst,.mapUpdate t x k y,type,pos,after,guard⟩).run P w= .ok .skip w':=by simp [execOp,hxv,ek,ey,h1]
       rw [DS];exact hK undef w' (h2 id undef)
     |_=>rw [hxv] at rx;cases rx
    cases h;cases hxv:a.eval x with
    |map b=>
     rw [hxv] at rx;cases rx with
     |mp _ hl=>
      obtain ⟨w',h1,h2⟩:=NM hg (hn (FG P t g kv z) (by simp)) (hn (g kv) (by simp)) (hn (yv=f kv) (by simp)) hE hm
      unfold Oper.wp;have DS:(execOp a.eval ⟨dst,.mapUpdate t x k y,type,pos,after,guard⟩).run P w= .ok .skip w':=by simp [execOp,hxv,ek,ey,h1]
      rw [DS];exact hK undef w' (h2 id undef)
    |_=>rw [hxv] at rx;cases rx
   ·cases h
  ·cases h
 case call c=>
  obtain ⟨callee,args,argTypes⟩:=c;simp only [mL] at h;split at h
  ·rename_i s x t t' hca hta;split at h
   ·rename_i ht;have ht':t=t':=Nat.eq_of_beq_eq_true ht;subst ht';obtain ⟨u,w',h1,h2⟩:=EL (P:=P) (ty:=type) h hn hE hB hm hid (Z s) (Z x);have ha:args=#[s,x]:=Array.ext' (by simpa using hca)
    have hat:argTypes=#[t,t]:=Array.ext' (by simpa using hta)
    subst ha;subst hat;refine D7 (v:=u) (w':=w') ?_ (hK u w' h2);simp [execOp,resolve,invoke,builtin,h1]
   ·obtain ⟨u,w',h1,h2⟩:=A3 (P:=P) (ty:=type) h hn hE hB hm hid (Z s) (Z x);have ha:args=#[s,x]:=Array.ext' (by simpa using hca)
    have hat:argTypes=#[t,t']:=Array.ext' (by simpa using hta)
    subst ha;subst hat;refine D7 (v:=u) (w':=w') ?_ (hK u w' h2);simp [execOp,resolve,invoke,builtin,h1]
  ·cases h
theorem NV{t el:TypeId}(hu:P.underlying t=some (.slice el))(op:BinOp)(ox:Operand)(w:World)(v:Value)(b:Bool)(hv:(v= .slice none 0 0/\b=true)\/(∃ad n c,v= .slice (some ad) n c/\b=false)):
  (op= .eql->(do eqGuard op t ox (.const (.slice none 0 0)) v (.slice none 0 0);binOp op t v (.slice none 0 0):Sem Value).run P w= .ok (.bool b) w)/\
  (op= .neq->(do eqGuard op t ox (.const (.slice none 0 0)) v (.slice none 0 0);binOp op t v (.slice none 0 0):Sem Value).run P w= .ok (.bool !b) w):=by
 have hg:op= .eql\/op= .neq->(eqGuard op t ox (.const (.slice none 0 0)) v (.slice none 0 0)).run P w= .ok () w:=by
  rintro (rfl|rfl)<;>rcases hv with ⟨rfl,_⟩|⟨ad,n,c,rfl,_⟩<;>simp [eqGuard]
 have he:(Op.equal t v (.slice none 0 0)).run P w= .ok b w:=by
  unfold Op.equal;rw [show Op.maxDepth=(Op.maxDepth-1)+1 by decide]
  rcases hv with ⟨rfl,rfl⟩|⟨ad,n,c,rfl,rfl⟩<;>simp [Op.equalIn,run_underlying hu]
 constructor
 ·rintro rfl;rw [At,hg (.inl rfl)];rcases hv with ⟨rfl,rfl⟩|⟨ad,n,c,rfl,rfl⟩<;>simp [binOp,he]
 ·rintro rfl;rw [At,hg (.inr rfl)];rcases hv with ⟨rfl,rfl⟩|⟨ad,n,c,rfl,rfl⟩<;>simp [binOp,he]
theorem M6{e:UN}{w:World}{m:H5}{ρ:Operand->AV}{o:Oper}{a:Act}{ns:List Prop}{p:Prop}{v1 v2:AV}(h:mH P m ρ o.op=some (ns,p,v1,v2))(hn: ∀p∈ns,p)(hm:UX e m w)(Z: ∀x,Rep e w (ρ x) (a.eval x))
  {K:Act->World->Prop}{Q:Exit->Act->World->Prop}(hK: ∀v,(p/\Rep e w v1 v)\/Rep e w v2 v->K (a.put o.dst v) w):o.wp P a w K Q:=by
 obtain ⟨dst,op,type,pos,after,guard⟩:=o;simp only at h;unfold mH at h;split at h
 ·rename_i t x t';split at h
  ·rename_i sz n f el hx hu;cases h;have rx:=Z x;rw [hx] at rx;have hc: ∃b,((a.eval x= .slice none 0 0/\b=true)\/(∃ad n c,a.eval x= .slice (some ad) n c/\b=false))/\((n=0/\Rep e w (.lit true) (.bool b))\/Rep e w (.lit false) (.bool b)):=by
    generalize a.eval x=v at rx;cases rx with
    |lstNil=>exact ⟨true,.inl ⟨rfl,rfl⟩,.inl ⟨rfl,.lit true⟩⟩
    |lst _ _ _ b o cap g=>exact ⟨false,.inr ⟨_,_,_,rfl,rfl⟩,.inr (.lit false)⟩
   obtain ⟨b,h1,h2⟩:=hc;refine D7 (v:= .bool b) (w':=w) ?_ (hK _ h2);have:=(NV hu .eql x w _ b h1).1 rfl;have hs:execOp a.eval ⟨dst,.binOp .eql t x (.const (.slice none 0 0)) t',type,pos,after,guard⟩=(do pure (.value (←(do eqGuard .eql t x (.const (.slice none 0 0)) (a.eval x) (.slice none 0 0);binOp .eql t (a.eval x) (.slice none 0 0):Sem Value)))):=rfl;rw [hs,At,this];simp
  ·cases h
 ·rename_i t x t';split at h
  ·rename_i sz n f el hx hu;cases h;have rx:=Z x;rw [hx] at rx;have hc: ∃b,((a.eval x= .slice none 0 0/\b=true)\/(∃ad n c,a.eval x= .slice (some ad) n c/\b=false))/\((n=0/\Rep e w (.lit false) (.bool !b))\/Rep e w (.lit true) (.bool !b)):=by
    generalize a.eval x=v at rx;cases rx with
    |lstNil=>exact ⟨true,.inl ⟨rfl,rfl⟩,.inl ⟨rfl,.lit false⟩⟩
    |lst _ _ _ b o cap g=>exact ⟨false,.inr ⟨_,_,_,rfl,rfl⟩,.inr (.lit true)⟩
   obtain ⟨b,h1,h2⟩:=hc;refine D7 (v:= .bool !b) (w':=w) ?_ (hK _ h2);have:=(NV hu .neq x w _ b h1).2 rfl;have hs:execOp a.eval ⟨dst,.binOp .neq t x (.const (.slice none 0 0)) t',type,pos,after,guard⟩=(do pure (.value (←(do eqGuard .neq t x (.const (.slice none 0 0)) (a.eval x) (.slice none 0 0);binOp .neq t (a.eval x) (.slice none 0 0):Sem Value)))):=rfl;rw [hs,At,this];simp
  ·cases h
 ·rename_i t x k ok;split at h
  ·rename_i i kv z hx hkv hz;split at h
   ·rename_i g f hg;cases h;have rx:=Z x;rw [hx] at rx;have ek:=xF hkv (Z k);cases hxv:a.eval x with
    |map b=>
     rw [hxv] at rx;cases rx with
     |mp _ hl=>
      obtain ⟨_,_,es,c,h3,h4⟩:=hm _ (G0 hg);obtain ⟨v,h5,h6⟩:=Wd8 (hn (FG P t g kv z) (by simp)) h3 h4 ok
      refine D7 (v:=v) (w':=w) ?_ (hK v ?_)
      ·simp [execOp,hxv,ek,h5]
      ·rcases h6 with ⟨h6,rfl⟩|rfl
       ·exact .inl ⟨h6,EV e w ok _ true⟩
       ·exact .inr (EV e w ok _ false)
    |_=>rw [hxv] at rx;cases rx
   ·cases h
  ·cases h
 ·cases h
theorem gJ{G:List (Nat×Spec)}{id:Nat}{m:H5}{ρ:Operand->AV}{op:Op}{x:Out}(h:aop P G id m ρ op=some x): ∀c,op≠ .defer c:=by
 rintro c rfl;simp [aop] at h
theorem N8{id:Nat}{m:H5}{ρ:Operand->AV}{op:Op}{x:List Prop×AV×H5}(h:mL P id m ρ op=some x): ∀c,op≠ .defer c:=by
 rintro c rfl;simp [mL] at h
theorem N7{m:H5}{ρ:Operand->AV}{op:Op}{x:List Prop×Prop×AV×AV}(h:mH P m ρ op=some x): ∀c,op≠ .defer c:=by
 rintro c rfl;simp [mH] at h
theorem F7.next{c:Cx}{w0:World}{T:Nat->Prop}{e e':UN}{s:St}{a:Act}{w w':World}(r:F7 c w0 T e s a w)(hb:Below w0.heap.size w w')(st:Step e e' w w')(hE:G4 e' w0.heap.size w')
  (hro: ∀b,e'.ro b->e.ro b\/w.heap.size<=b){m':H5}(hm:UX e' m' w'){nx':Nat}(hl: ∀k,e'.live k->k<nx')(dst:Option Nat){av:AV}{v:Value}(hv:Rep e' w' av v):
  F7 c w0 T e' {s with σ:=xJ s.σ dst av,m:=m',nx:=nx'} (a.put dst v) w':=by
 refine ⟨hE,r.below.trans hb,hm,hl,λb hT=>⟨(r.foe b hT).1,λh=>?_⟩,by rw [put_defers];exact r.xt.step st,qE (r.slots.step st) dst hv⟩
 rcases hro b h with h|h
 ·exact (r.foe b hT).2 h
 ·have:=(r.foe b hT).1;have:=r.hB;omega
theorem eE{G:List (Nat×Spec)}{X:Ext}{c:Cx}(hG:VN P G)(hX:VZ P X c){o:Oper}{s:St}{R:St->Prop}(h:(Wd9 P G X o s).sat R){w0:World}{T:Nat->Prop}{e:UN}{a:Act}{w:World}(hΦ:c.Φ s.gh T w0)(r:F7 c w0 T e s a w)
  {ro:Option Nat}{n:Nat}{K:Act->World->Prop}{Q:Exit->Act->World->Prop}(hK: ∀s' a' w',R s'->Rel c s' a' w'->K a' w'):o.wpIn (fr ro) n P a w K Q:=by
 have hid: ¬e.live s.nx:=λhl=>by have:=r.live _ hl;omega
 have lv: ∀{e':UN},(∀k,e'.live k->e.live k\/k=s.nx)-> ∀k,e'.live k->k<s.nx+1:=by
  intro e' hlv k hk;rcases hlv k hk with hk|rfl
  ·exact Nat.lt_succ_of_lt (r.live k hk)
  ·exact Bk _
 unfold Wd9 at h;split at h
 ·rename_i ns val add ha
  replace h:=VP.sat_needT h
  refine HO (gJ ha) (SG hG ha (GF h.1) r.env r.hB r.mem hid (FM r.slots) (λv w' hc=>?_))
  obtain ⟨e',hb,st,hE',ho,GN,hm',hlv,hro⟩:=hc;exact hK _ _ _ h.2 ⟨w0,T,e',hΦ,r.next (hb.mono r.hB) st hE' hro hm' (lv hlv) o.dst GN⟩
 ·split at h
  ·rename_i ns val m' ha
   replace h:=VP.sat_needT h
   refine HO (N8 ha) (tI ha (GF h.1) r.env r.hB r.mem hid (FM r.slots) (λv w' hc=>?_))
   obtain ⟨e',hb,st,hE',GN,hm',hlv,hro⟩:=hc;exact hK _ _ _ h.2 ⟨w0,T,e',hΦ,r.next hb st hE' (λb h=> .inl (hro b h)) hm' (lv hlv) o.dst GN⟩
  ·split at h
   ·rename_i ns p v1 v2 ha
    replace h:=VP.sat_needT h
    obtain ⟨hn,h⟩:=h;refine HO (N7 ha) (M6 ha (GF hn) r.mem (FM r.slots) (λv hv=>?_))
    have keep: ∀{av:AV},Rep e w av v->Rel c {s with σ:=xJ s.σ o.dst av,nx:=s.nx+1} (a.put o.dst v) w:=
     λGN=>⟨w0,T,e,hΦ,r.next (Below.refl _ _) (Step.refl e w) r.env (λ_ h=> .inl h) r.mem (λk hk=>Nat.lt_succ_of_lt (r.live k hk)) o.dst GN⟩
    rcases hv with ⟨hp,hv⟩|hv
    ·exact hK _ _ _ (h.1 hp) (keep hv)
    ·exact hK _ _ _ h.2 (keep hv)
   ·split at h
    ·rename_i t ht;obtain ⟨dst,op,type,pos,after,guard⟩:=o;unfold opX at ht;split at ht
     ·rename_i cl hop;simp only at hop;subst hop;obtain ⟨callee,args,argTypes⟩:=cl;have ha:=U5.ops (FM r.slots) args.toList;split at ht
      ·rename_i f hU;simp only at hU;subst hU;have hf:=FM r.slots f;split at ht
       ·-- yield
        rename_i l hfe;rw [hfe] at hf;obtain ⟨us,us',hv,r1,r2⟩:=hf.fn_inv;cases r1.nil_inv;cases r2.nil_inv;split at ht
        ·rename_i l' N vals k vs hY hgh hsv hvs;cases ht;obtain ⟨hn,h⟩:=h;obtain ⟨rfl,hkN,hvk⟩:l=l'/\k<N/\vs=vals k:=hn;have OU:=AW hvs ha;rw [hgh] at hΦ;obtain ⟨hst,hy⟩:=hX.y l N vals hY;have hΦ':=hst k T w0 w hΦ (r.below);obtain ⟨fn,tmps,assign,body,hyr,jA⟩:=hy k T w (n-1) hΦ' hkN;refine ⟨λf _=>trivial,?_⟩
         have hsem:Oper.semAt (fr ro).round a.eval ⟨dst,.call ⟨.value f,args,argTypes⟩,type,pos,after,guard⟩=execOp a.eval ⟨dst,.call ⟨.value f,args,argTypes⟩,type,pos,after,guard⟩:=Oper.semAt_eq _ _ _ (λc h=>by cases h)
         have e1:(args.toList.map a.eval).toArray=args.map a.eval:=Array.ext' (by simp)
         have DS:(execOp a.eval ⟨dst,.call ⟨.value f,args,argTypes⟩,type,pos,after,guard⟩).run P w= .ok (.round l fn tmps assign body) w:=by
          simp only [execOp,resolve,hv,Deferred.ofValue,At,Sem.run_pure,Au,invoke];rw [←hvk,←OU,e1] at hyr;simpa using hyr
         rw [hsem,DS];refine ⟨(λh=>by cases h),?_⟩
         have hround':RoundIn (fr ro) (n-1) P l fn tmps assign body w _:=jA;refine hround'.mono λen w' hq=>?_
         obtain ⟨hsz,xY,T',hT',F3⟩:=hq
         let e2:UN:={ro:=e.view.ro,own:=λ_=>none,live:=λ_=>False,blk:=λ_=>0,val:=λ_=> .nilIface}
         have hlt: ∀b,e2.ro b->b<w.heap.size:=by
          rintro b (h|⟨id,h⟩)
          ·exact (r.env.apart b h).2
          ·exact (r.env.owned b id h).2
         have hnT: ∀b,e2.ro b-> ¬T b:=by
          rintro b (h|⟨id,h⟩) hT
          ·exact (r.foe b hT).2 h
          ·have:=(r.env.owned b id h).1;have:=(r.foe b hT).1;omega
         have st2:Step e2 e2 w w':=⟨λb hb Z=>⟨Z,xY b hb (hnT b Z)⟩,λ_ h=>h.elim,hsz⟩
         have gU:U5 e2 w' (s.σ.map (DF s.m 40)) a.tmps.toList:=
          (U5.map (DF s.m 40) (λx v hx=>Rep.idf (e:=e.view) (e':=e2) (λ_ h=>h) (LD r.env r.mem 40 x v hx) (RN r.mem 40 x v hx)) r.slots).step st2
         have hxt0:Xt c e2 [] a.defers w:=⟨⟨λd hd=>by obtain ⟨D,h1,h2,h3,h4,h5⟩:=r.xt.defers.1 d hd;exact ⟨D,h1,.inl h2,h3,h4,h5⟩,r.xt.defers.2⟩,λb o hb=>by obtain ⟨h1,h2,h3⟩:=r.xt.kept b o hb;exact ⟨.inl h1,h2,h3⟩,by
          have:=r.xt.saved.1;rw [hsv] at this;exact ⟨this,λi a v h=>by simp at h⟩,r.xt.size⟩
         have fin: ∀(b:Bool) (g:Option Nat),c.Φ g T' w'->Rel c {σ:=xJ (s.σ.map (DF s.m 40)) dst (.lit b),m:=[],nx:=0,gh:=g,sv:=[] } (a.put dst (.bool b)) w':=by
          intro b g hg;refine ⟨w',T',e2,hg,⟨λb hb=>⟨rfl,Nat.lt_of_lt_of_le (hlt b hb) hsz⟩,(λb id h=>by cases h),D5.step (e:=e2) (w:=w) (λb p hp=>⟨.inl (r.env.glob b p hp).1,(r.env.glob b p hp).2⟩) st2⟩,Below.refl _ _,(λp hp=>by cases hp),(λk hk=>hk.elim),λb hb=>⟨(hT' b hb).1,λZ=>?_⟩,by rw [put_defers];exact hxt0.step st2,qE gU dst (.lit b)⟩
          rcases (hT' b hb).2 with h|h
          ·exact hnT b Z h
          ·have:=hlt b Z;omega
         rcases F3 with ⟨rfl,hg⟩|⟨rfl,hg⟩
         ·exact hK _ _ _ (h.1 trivial) (fin true _ hg)
         ·exact hK _ _ _ h.2 (fin false _ hg)
        ·cases ht
       ·-- a function by its contract
        rename_i g first caps hfe
        rw [hfe] at hf;obtain ⟨us,us',hv,r1,r2⟩:=hf.fn_inv;have D3:U5 e w (first++args.toList.map (rho s.σ)++caps) (us++args.toList.map a.eval++us'):=(r1.append ha).append r2
        have DS:Enters P g->(execOp a.eval ⟨dst,.call ⟨.value f,args,argTypes⟩,type,pos,after,guard⟩).run P w= .ok (.enter g (us++args.toList.map a.eval++us').toArray) w:=by
         intro PH;have e1:(us++args.toList.map a.eval++us').toArray=us.toArray++args.map a.eval++us'.toArray:=Array.ext' (by simp)
         simp only [execOp,resolve,hv,Deferred.ofValue,At,Sem.run_pure,Au,invoke];rw [e1];exact LG PH _ w
        split at ht
        ·rename_i sp hsp;split at ht
         ·rename_i FP;split at ht
          ·rename_i ns res F3;cases ht
           replace h:=VP.sat_needT h
           obtain ⟨PH,hs⟩:=hX.r _ (lM hsp);have hidf': ∀x∈first++args.toList.map (rho s.σ)++caps,Idf x:=by
            intro x hx;obtain ⟨i,O⟩:=List.mem_iff_getElem?.1 hx;obtain ⟨v,_,rv⟩:=D3.get O;exact kN 6 x v rv (List.all_eq_true.1 FP x hx)
           have FK:=hs _ _ _ F3 (GF h.1) e w _ (λb hb=>(r.env.apart b hb).2) r.env.glob hidf' D3
           refine HO (λc h=>by cases h) ?_
           unfold Oper.wp;rw [DS PH,Oper.upon_enter];refine FK.mono λen w' hq=>?_
           obtain ⟨v,rfl,hb,GN⟩:=hq;have st:Step e (e.more w w') w w':=⟨λb hlt Z=>⟨.inl Z,hb.block b hlt⟩,λ_ h=>⟨h,rfl,rfl⟩,hb.size⟩
           have hE':G4 (e.more w w') w0.heap.size w':=by
            refine ⟨?_,λb k hk=>?_,r.env.glob.step st⟩
            ·rintro b (Z|⟨h1,h2⟩)
             ·have:=r.env.apart b Z;have:=hb.size;exact ⟨(r.env.apart b Z).1,by omega⟩
             ·refine ⟨?_,h2⟩;cases ho:(e.more w w').own b with
              |none=>rfl
              |some k=>have:=(r.env.owned b k ho).2;omega
            ·have:=r.env.owned b k hk;have:=hb.size;exact ⟨(r.env.owned b k hk).1,by omega⟩
           have st2:Step {PJ w w' with ro:=(e.more w w').ro} (e.more w w') w' w':=⟨λb _ h=>⟨h,rfl⟩,λ_ h=>False.elim h,Am _⟩
           exact hK _ _ _ h.2 ⟨w0,T,e.more w w',hΦ,r.next (hb.mono r.hB) st hE' (λb h=>h.imp (λh=>h) (λh=>h.1)) (r.mem.ext hb st (λ_ _ h=>h)) (λk hk=>Nat.lt_succ_of_lt (r.live k hk)) dst (GN.step st2)⟩
          ·cases ht
         ·cases ht
        ·split at ht
         ·rename_i hs hhs;split at ht
          ·rename_i tr htr;cases ht;obtain ⟨PH,I6⟩:=hX.h _ (Wt0 hhs);have FK:=I6 _ _ _ _ _ htr _ (VP.sat_bind h) {c with saved:=a.tmps.toList::c.saved} w0 T e a.defers _ w r.env r.below r.mem r.live r.foe ⟨r.xt.defers,r.xt.kept,LC.cons r.slots r.xt.saved,r.xt.size⟩ D3
           refine HO (λc h=>by cases h) ?_
           unfold Oper.wp;rw [DS PH,Oper.upon_enter];refine FK.mono λen w' hq=>?_
           obtain ⟨v,rr,m',nx',sv',e',rfl,hQ,hE',hB',hm',hl',hT',hx',GN⟩:=hq;obtain ⟨a1,l1,he1,hs1,hs2⟩:=hx'.saved.cons_inv;subst he1;unfold Xw7 at hQ;exact hK _ _ _ hQ ⟨w0,T,e',hΦ,hE',hB',hm',hl',hT',by rw [put_defers];exact ⟨hx'.defers,hx'.kept,hs2,hx'.size⟩,qE hs1 dst GN⟩
          ·cases ht
         ·split at ht
          ·rename_i sp hsp;split at ht
           ·rename_i FP;split at ht
            ·rename_i tr htr;cases ht;obtain ⟨PH,hs⟩:=hX.c _ (IF hsp);have hidf': ∀x∈first++args.toList.map (rho s.σ)++caps,Idf x:=by
              intro x hx;obtain ⟨i,O⟩:=List.mem_iff_getElem?.1 hx;obtain ⟨v,_,rv⟩:=D3.get O;exact kN 6 x v rv (List.all_eq_true.1 FP x hx)
             have FK:=hs _ _ htr _ (VP.sat_bind h) e w _ (λb hb=>(r.env.apart b hb).2) r.env.glob hidf' D3
             refine HO (λc h=>by cases h) ?_
             unfold Oper.wp;rw [DS PH,Oper.upon_enter];refine FK.mono λen w' hq=>?_
             obtain ⟨v,rr,rfl,hQ,hb,GN⟩:=hq;have st:Step e (e.more w w') w w':=⟨λb hlt Z=>⟨.inl Z,hb.block b hlt⟩,λ_ h=>⟨h,rfl,rfl⟩,hb.size⟩
             have hE':G4 (e.more w w') w0.heap.size w':=by
              refine ⟨?_,λb k hk=>?_,r.env.glob.step st⟩
              ·rintro b (Z|⟨h1,h2⟩)
               ·have:=r.env.apart b Z;have:=hb.size;exact ⟨(r.env.apart b Z).1,by omega⟩
               ·refine ⟨?_,h2⟩;cases ho:(e.more w w').own b with
                |none=>rfl
                |some k=>have:=(r.env.owned b k ho).2;omega
              ·have:=r.env.owned b k hk;have:=hb.size;exact ⟨(r.env.owned b k hk).1,by omega⟩
             have st2:Step {PJ w w' with ro:=(e.more w w').ro} (e.more w w') w' w':=⟨λb _ h=>⟨h,rfl⟩,λ_ h=>False.elim h,Am _⟩
             exact hK _ _ _ hQ ⟨w0,T,e.more w w',hΦ,r.next (hb.mono r.hB) st hE' (λb h=>h.imp (λh=>h) (λh=>h.1)) (r.mem.ext hb st (λ_ _ h=>h)) (λk hk=>Nat.lt_succ_of_lt (r.live k hk)) dst (GN.step st2)⟩
            ·cases ht
           ·cases ht
          ·cases ht
       ·cases ht
      ·cases ht
     ·cases ht
    ·exact h.elim
end
def C8(o:Oper)(s:St):St:={s with σ:=xJ s.σ o.dst (.tup []) }
theorem NN(e:UN)(w:World):Rep e w (.tup []) undef:=Rep.tupL (U5.nil e w)
theorem cY{c:Cx}{w0:World}{T:Nat->Prop}{e:UN}{o:Oper}{s:St}{a:Act}{w:World}(r:F7 c w0 T e s a w):F7 c w0 T e (C8 o s) (a.put o.dst undef) w:=
 ⟨r.env,r.below,r.mem,r.live,r.foe,by rw [put_defers];exact r.xt,qE r.slots o.dst (NN _ _)⟩
def Xj4(s:St)(t:Nat)(b:Bool):St:={s with σ:=s.σ.set t (.lit b) }
theorem aF{c:Cx}{w0:World}{T:Nat->Prop}{e:UN}{s:St}{a:Act}{w:World}{t:Nat}{b d:Bool}(r:F7 c w0 T e s a w)(ht:s.σ.getD t .top= .x (.bool b))(hb:b=d):F7 c w0 T e (Xj4 s t d) a w:=by
 refine ⟨r.env,r.below,r.mem,r.live,r.foe,r.xt,?_⟩;have hlt:t<s.σ.length:=by
  rcases An t s.σ.length with h|h
  ·exact h
  ·rw [List.getD,Br h] at ht;cases ht
 obtain ⟨v,hv,rv⟩:=r.slots.get (List.getElem?_eq_getElem hlt);have he:s.σ[t]= .x (.bool b):=by simpa [List.getD,List.getElem?_eq_getElem hlt] using ht
 rw [he] at rv;cases rv.x_inv;have:=r.slots.set (a:= .lit d) (v:= .bool b) (by rw [←hb];exact .lit b) t
 have hset:a.tmps.toList.set t (.bool b)=a.tmps.toList:=by
  apply List.ext_getElem?;intro i;rw [List.getElem?_set];split
  ·rename_i hti;subst hti;split
   ·exact hv.symm
   ·rename_i hnl;rw [Br (by omega)]
  ·rfl
 rw [hset] at this;exact this
def TL:Op->Option Nat
 | .pick (.tmp t) _ _=>some t
 |_=>none
def settle(s:St)(t:Option Nat)(g:St->VP St):VP St:=
 match t with
 |none=>g s
 |some t=>match s.σ.getD t .top with
  | .x (.bool b)=> .branch b (g (Xj4 s t true)) (g (Xj4 s t false))
  |_=>g s
theorem zO{c:Cx}{w0:World}{T:Nat->Prop}{e:UN}{s:St}{t:Option Nat}{g:St->VP St}{R:St->Prop}(h:(settle s t g).sat R){a:Act}{w:World}(r:F7 c w0 T e s a w): ∃s',F7 c w0 T e s' a w/\(g s').sat R/\s'.gh=s.gh:=by
 unfold settle at h;split at h
 ·exact ⟨s,r,h,rfl⟩
 ·split at h
  ·rename_i b hb;cases b
   ·exact ⟨_,aF r hb rfl,h.2 rfl,rfl⟩
   ·exact ⟨_,aF r hb rfl,h.1 rfl,rfl⟩
  ·exact ⟨s,r,h,rfl⟩
def DX(ops:List Oper)(o:Oper):Option Nat:=
 match o.guard with
 |none=>none
 |some (j,_)=>match ops[j]? with
  |some p=>p.dst
  |none=>none
def uH(i sz n:Nat)(f:Nat->List AV):Nat->AV->AV
 | 0,a=>match a with
  | .lit b=> .lit b
  | .x v=> .x v
  | .ro l=> .ro l
  | .lst a b c=> .lst a b c
  | .roI a b c d=> .roI a b c d
  |_=> .top
 |d+1,a=>match a with
  | .row k=>match Nat.beq k i with
   |true=> .lst sz n f
   |false=> .row k
  | .ptr k o=>match Nat.beq k i with
   |true=> .top
   |false=> .ptr k o
  | .elt k x y z=>match Nat.beq k i with
   |true=> .top
   |false=> .elt k x y z
  | .mp k=>match Nat.beq k i with
   |true=> .top
   |false=> .mp k
  | .agg l=> .agg (l.map (uH i sz n f d))
  | .tup l=> .tup (l.map (uH i sz n f d))
  | .fn g l l'=> .fn g (l.map (uH i sz n f d)) (l'.map (uH i sz n f d))
  |a=>a
def UN.frz(e:UN)(i:Nat):UN:=
 {ro:=λb=>e.ro b\/e.own b=some i,own:=λb=>match e.own b with|some k=>if k=i then none else some k|none=>none,
  live:=λk=>e.live k/\k≠i,blk:=e.blk,val:=e.val}
theorem jJ{k i:Nat}(h:Nat.beq k i=false):k≠i:=by
 intro h2;subst h2;rw [Nat.beq_refl] at h;cases h
theorem eF{e e2:UN}{B:Nat}{w:World}{i T sz n:Nat}{f:Nat->List AV}(hE:G4 e B w)(hh:GK e w i (.row T sz n f))(g1: ∀b,e.ro b->e2.ro b)(g2: ∀b,e.own b=some i->e2.ro b):Rep e2 w (.lst sz n f) (e.val i):=by
 obtain ⟨_,HA,hf,xs,hx,GN⟩:=hh;rcases hx.2 with ⟨hv0,hn0⟩|⟨g,cap,cur,hv0,_,hgg,hnc,hcm,hcs,kO⟩
 ·rw [hv0];subst hn0;exact .lstNil _ _
 ·have hob:e.own g=some i:=HA g (by rw [hv0];rfl)
  have hlt:=(hE.owned _ _ hob).2;have hv1:=hv0;rw [hv0];refine Rep.lst (e:=e2) (w:=w) sz _ _ g 0 _ (λi j=>xs.getD (i*sz+j) .nilIface) (λ_=>g2 g hob) (λ_=>hlt) (λi O=>(hf i O).2) hnc hcm ?_ (λi O=>(hf i O).1) ?_ _ (λ_=>rfl)
  ·intro i j O hj;have hle:i*sz+sz<=n*sz:=by
    have:=Nat.mul_le_mul_right sz (Az O)
    rwa [Bq] at this
   have kQ:i*sz+j<xs.length:=by rw [hx.1];omega
   have hc:=hx.cells (g:=g) (by rw [hv1];rfl) (i*sz+j) xs[i*sz+j] (List.getElem?_eq_getElem kQ)
   rw [DE] at hc;rw [hc];simp [List.getD,List.getElem?_eq_getElem kQ]
  ·intro q j a ha' ha;have hj:j<sz:=by rw [←(hf q ha').1];exact (List.getElem?_eq_some_iff.1 ha).1
   have hle:q*sz+sz<=n*sz:=by
    have:=Nat.mul_le_mul_right sz (Az ha')
    rwa [Bq] at this
   have kQ:q*sz+j<xs.length:=by rw [hx.1];omega
   have:=GN q j a xs[q*sz+j] ha' ha (List.getElem?_eq_getElem kQ);simp only [List.getD,List.getElem?_eq_getElem kQ,Option.getD_some];exact Rep.idf g1 this ((hf q ha').2 a (List.mem_of_getElem? ha))
theorem Xh5{e:UN}{B:Nat}{w:World}{i T sz n:Nat}{f:Nat->List AV}(hE:G4 e B w)(hh:GK e w i (.row T sz n f)):Rep (e.frz i) w (.lst sz n f) (e.val i):=eF hE hh (λ_ h=> .inl h) (λ_ h=> .inr h)
def UN.sol(e:UN)(i:Nat):UN:={e with ro:=λb=>e.ro b\/e.own b=some i,own:=λb=>match e.own b with|some k=>if k=i then none else some k|none=>none}
theorem Step.sol(e:UN)(i:Nat)(w:World):Step e (e.sol i) w w:=⟨λ_ _ h=>⟨.inl h,rfl⟩,λ_ h=>⟨h,rfl,rfl⟩,Am _⟩
theorem G4.sol{e:UN}{B:Nat}{w:World}(h:G4 e B w)(i:Nat):G4 (e.sol i) B w:=by
 refine ⟨λb hb=>?_,λb k hk=>?_,h.glob.step (Step.sol e i w)⟩
 ·rcases hb with hb|hb
  ·obtain ⟨h1,h2⟩:=h.apart b hb;exact ⟨by simp [UN.sol,h1],h2⟩
  ·exact ⟨by simp [UN.sol,hb],(h.owned b i hb).2⟩
 ·simp only [UN.sol] at hk;cases ho:e.own b with
  |none=>rw [ho] at hk;cases hk
  |some j=>exact h.owned b j ho
theorem GK.sol{e:UN}{w:World}{i k:Nat}{r:GS}(hne:k≠i/\HY i r=false)(h:GK e w k r):GK (e.sol i) w k r:=by
 obtain ⟨hne,hak⟩:=hne;have st:=Step.sol e i w;cases r with
 |cells T l=>
  obtain ⟨h1,h2,vs,h3,h4⟩:=h;exact ⟨h1,by simp [UN.sol,h2,hne],vs,h3,h4.step st⟩
 |row T sz n f=>
  obtain ⟨h1,h2,hf,xs,h3,h4⟩:=h;refine ⟨h1,λb hb=>?_,hf,xs,h3,λi j a v O ha hv=>(h4 i j a v O ha hv).step st⟩
  have:=h2 b hb;simp [UN.sol,this,hne]
 |ints T pre n f=>
  obtain ⟨h1,h2,vs,h3,h4⟩:=h;exact ⟨h1,by simp [UN.sol,h2,hne],vs,h3,h4.step st⟩
 |memo g f=>
  obtain ⟨h1,h2,es,c,h3,h4⟩:=h;exact ⟨h1,by simp [UN.sol,h2,hne],es,c,h3,h4⟩
 |keep T l=>exact LK st h
 |aka r T sz n f=>
  obtain ⟨h1,h0,o,hor,h2,hf,xs,h3,h4⟩:=h;refine ⟨h1,h0,o,hor,λb hb=>?_,hf,xs,h3,λi j a v O ha hv=>(h4 i j a v O ha hv).step st⟩
  have:=h2 b hb;have ho:o≠i:=by
   rcases hor with rfl|rfl
   ·exact hne
   ·rintro rfl;simp [HY] at hak
  simp [UN.sol,this,ho]
theorem gB{e:UN}{B:Nat}{w:World}{i T sz n:Nat}{f:Nat->List AV}(hE:G4 e B w)(hh:GK e w i (.row T sz n f)): ∀(d:Nat) (a:AV) (v:Value),Rep e w a v->Rep (e.frz i) w (uH i sz n f d a) v
 | 0,a,v,r=>by
  have hro: ∀b,e.ro b->(e.frz i).ro b:=λ_ h=> .inl h
  cases r with
  |lit b=>exact .lit b
  |x v=>exact .x v
  |roI pre n f off b o Z=>exact Rep.idf hro (.roI pre n f off b o Z) (j7 (Rep.roI pre n f off b o Z) rfl)
  |ro l vs b o h1 h2 h3 h4 h5 h6=>exact Rep.idf hro (.ro l vs b o h1 h2 h3 h4 h5 h6) (.ro l h3)
  |lstNil sz f=>exact .lstNil sz f
  |lst sz n f b o cap g h1 h2 h3 h4 h5 h6 h7 h8 ad had=>exact Rep.idf hro (.lst sz n f b o cap g h1 h2 h3 h4 h5 h6 h7 h8 ad had) (.lst sz n f h3)
  |_=>exact .top _
 |d+1,a,v,r=>by
  have hro: ∀b,e.ro b->(e.frz i).ro b:=λ_ h=> .inl h
  have ih:=gB hE hh d;cases r with
  |top v=>exact .top v
  |lit b=>exact .lit b
  |x v=>exact .x v
  |roI pre n f off b o Z=>exact Rep.idf hro (.roI pre n f off b o Z) (j7 (Rep.roI pre n f off b o Z) rfl)
  |ptr id off hl=>
   simp only [uH];split
   ·exact .top _
   ·rename_i hb;exact .ptr (e:=e.frz i) id off ⟨hl,jJ hb⟩
  |row id a n c hl hv=>
   simp only [uH];split
   ·rename_i hb;have:=Nat.eq_of_beq_eq_true hb;subst this;rw [←hv];exact Xh5 hE hh
   ·rename_i hb;exact .row (e:=e.frz i) id a n c ⟨hl,jJ hb⟩ hv
  |elt id sz x y b n cap hl hv=>
   simp only [uH];split
   ·exact .top _
   ·rename_i hb;exact .elt (e:=e.frz i) id sz x y b n cap ⟨hl,jJ hb⟩ hv
  |mp id hl=>
   simp only [uH];split
   ·exact .top _
   ·rename_i hb;exact .mp (e:=e.frz i) id ⟨hl,jJ hb⟩
  |agg l vs h1 h2=>exact Rep.aggL (U5.map _ ih ⟨h1,h2⟩)
  |tup l vs h1 h2=>exact Rep.tupL (U5.map _ ih ⟨h1,h2⟩)
  |fn f l l' vs vs' h1 h2 h3 h4=>
   have k1:U5 e w l vs:=⟨h1,h2⟩;have k2:U5 e w l' vs':=⟨h3,h4⟩;exact .fn f _ _ vs vs' (U5.map _ ih k1).1 (U5.map _ ih k1).2 (U5.map _ ih k2).1 (U5.map _ ih k2).2
  |ro l vs b o h1 h2 h3 h4 h5 h6=>exact Rep.idf hro (.ro l vs b o h1 h2 h3 h4 h5 h6) (.ro l h3)
  |mpr g okf vals b es c h1 h2 h3 h4 h5 h6 h7 h8=>exact Rep.idf hro (.mpr g okf vals b es c h1 h2 h3 h4 h5 h6 h7 h8) (.mpr g okf h3)
  |any1 v hv=>exact .any1 v hv
  |lstNil sz f=>exact .lstNil sz f
  |lst sz n f b o cap g h1 h2 h3 h4 h5 h6 h7 h8 ad had=>exact Rep.idf hro (.lst sz n f b o cap g h1 h2 h3 h4 h5 h6 h7 h8 ad had) (.lst sz n f h3)
def Wu1(i sz n:Nat)(f:Nat->List AV):H5->H5
 |[]=>[]
 |(k,r)::t=>match Nat.beq k i||HY i r with
  |true=>Wu1 i sz n f t
  |false=>(k,match r with
   | .cells T l=> .cells T (l.map (uH i sz n f 6))
   | .ints T pre m g=> .ints T (pre.map (uH i sz n f 6)) m g
   | .keep T l=> .keep T (l.map (uH i sz n f 6))
   |r=>r)::Wu1 i sz n f t
theorem Qd5{e:UN}{B:Nat}{w:World}{i T sz n:Nat}{f:Nat->List AV}(hE:G4 e B w)(hh:GK e w i (.row T sz n f)): ∀{m:H5},UX e m w->UX (e.frz i) (Wu1 i sz n f m) w
 |[],_=>λp hp=>by cases hp
 |(k,r)::t,h=>by
  have ih:=Qd5 hE hh (m:=t) (λp hp=>h p (List.mem_cons_of_mem _ hp))
  have hk:=h _ List.mem_cons_self;unfold Wu1;split
  ·exact ih
  ·rename_i hb;rw [Bool.or_eq_false_iff] at hb;obtain ⟨hb,hak⟩:=hb;have hne:=jJ hb;intro p hp;rcases List.mem_cons.1 hp with rfl|hp
   ·cases r with
    |aka r T' sz' n' f'=>
     obtain ⟨h1,h0,o,hor,h2,hf,xs,h3,h4⟩:=hk;refine ⟨⟨h1,hne⟩,⟨h0,jJ hak⟩,o,hor,λb hb'=>?_,hf,xs,h3,λi' j a v O ha hv=>Rep.idf (e:=e) (e':=e.frz i) (λ_ h=>Or.inl h) (h4 i' j a v O ha hv) ((hf i' O).2 a (List.mem_of_getElem? ha))⟩
     have:=h2 b hb';have ho:o≠i:=by
      rcases hor with rfl|rfl
      ·exact hne
      ·exact jJ hak
     simp [UN.frz,this,ho]
    |row T' sz' n' f'=>
     obtain ⟨h1,h2,hf,xs,h3,h4⟩:=hk;refine ⟨⟨h1,hne⟩,λb hb'=>?_,hf,xs,h3,λi' j a v O ha hv=>Rep.idf (e:=e) (e':=e.frz i) (λ_ h=>Or.inl h) (h4 i' j a v O ha hv) ((hf i' O).2 a (List.mem_of_getElem? ha))⟩
     have:=h2 b hb';simp [UN.frz,this,hne]
    |cells T' l=>
     obtain ⟨h1,h2,vs,h3,h4⟩:=hk;refine ⟨⟨h1,hne⟩,?_,vs,h3,U5.map _ (gB hE hh 6) h4⟩;simp only at h2;simp [UN.frz,h2,hne]
    |ints T' pre m g=>
     obtain ⟨h1,h2,vs,h3,h4⟩:=hk;refine ⟨⟨h1,hne⟩,?_,vs,h3,?_⟩
     ·simp only at h2;simp [UN.frz,h2,hne]
     ·have:=U5.map _ (gB hE hh 6) h4;rw [List.map_append] at this;have hL:(HR m g).map (uH i sz n f 6)=HR m g:=by
       unfold HR;rw [List.map_map];rfl
      rw [hL] at this;exact this
    |keep T' l=>
     obtain ⟨h1,h2,h0,vs,h3,h4⟩:=hk;exact ⟨⟨h1,hne⟩,.inl h2,h0,vs,h3,U5.map _ (gB hE hh 6) h4⟩
    |memo g f'=>
     obtain ⟨h1,h2,es,c,h3,h4⟩:=hk;refine ⟨⟨h1,hne⟩,?_,es,c,h3,h4⟩;simp only at h2;simp [UN.frz,h2,hne]
   ·exact ih p hp
def Qt7(i:Nat)(s:St):St:=match DJ s.m i with
 |some (.row _ sz n f)=>{s with σ:=s.σ.map (uH i sz n f 6),m:=Wu1 i sz n f s.m,sv:=s.sv.map (·.map (uH i sz n f 6)) }
 |_=>s
theorem lO{c:Cx}{w0:World}{F:Nat->Prop}{e:UN}{i:Nat}{s:St}{a:Act}{w:World}(r:F7 c w0 F e s a w): ∃e',F7 c w0 F e' (Qt7 i s) a w:=by
 unfold Qt7;split
 ·rename_i T sz n f hg;have hh:=r.mem _ (G0 hg);have rp:=gB r.env hh 6;refine ⟨e.frz i,⟨λb hb=>?_,λb k hk=>?_,λb p hp=>⟨.inl (r.env.glob b p hp).1,(r.env.glob b p hp).2⟩⟩,r.below,Qd5 r.env hh r.mem,λk hk=>r.live k hk.1,λb hb=>⟨(r.foe b hb).1,λZ=>?_⟩,⟨⟨λd hd=>?_,r.xt.defers.2⟩,λb o hk=>?_,LC.map _ rp r.xt.saved,r.xt.size⟩,U5.map _ rp r.slots⟩
  ·rcases hb with hb|hb
   ·obtain ⟨h1,h2⟩:=r.env.apart b hb;exact ⟨by simp [UN.frz,h1],h2⟩
   ·exact ⟨by simp [UN.frz,hb],(r.env.owned b i hb).2⟩
  ·simp only [UN.frz] at hk;cases ho:e.own b with
   |none=>rw [ho] at hk;cases hk
   |some j=>exact r.env.owned b j ho
  ·rcases Z with Z|Z
   ·exact (r.foe b hb).2 Z
   ·have:=(r.env.owned b i Z).1;have:=(r.foe b hb).1;omega
  ·obtain ⟨D,g1,g2,g3⟩:=r.xt.defers.1 d hd;exact ⟨D,g1,.inl g2,g3⟩
  ·obtain ⟨g1,g2⟩:=r.xt.kept b o hk;exact ⟨.inl g1,g2⟩
 ·exact ⟨e,r⟩
def jC:List Nat->St->St
 |[],s=>s
 |i::l,s=>jC l (Qt7 i s)
theorem rP{c:Cx}{w0:World}{F:Nat->Prop}{a:Act}{w:World}: ∀(l:List Nat) {e:UN} {s:St},F7 c w0 F e s a w-> ∃e',F7 c w0 F e' (jC l s) a w
 |[],e,_,r=>⟨e,r⟩
 |i::l,_,_,r=>by
  obtain ⟨e1,r1⟩:=lO (i:=i) r;exact rP l r1
theorem Qf4(i:Nat)(s:St):(Qt7 i s).gh=s.gh:=by unfold Qt7;split<;>rfl
theorem S2: ∀(l:List Nat) (s:St),(jC l s).gh=s.gh
 |[],_=>rfl
 |i::l,s=>by rw [jC,S2 l,Qf4]
def dM:Nat->AV->List Nat
 | 0,_=>[]
 |d+1,a=>match a with
  | .row k=>[k]
  | .agg l=>l.flatMap (dM d)
  | .tup l=>l.flatMap (dM d)
  |_=>[]
section
variable (X:Ext)(o:Oper)(s:St)
def IJ:St:=
 match o.op with
 | .buildSlice _ _ parts=>jC (parts.toList.flatMap λp=>dM 3 (rho s.σ p.2)) s
 | .store _ x y=>match rho s.σ x with
  | .elt _ _ _ _=>jC (dM 3 (rho s.σ y)) s
  |_=>s
 | .call c=>match c.callee with
  | .value f=>match rho s.σ f with
   | .fn (.func g) _ _=>match sH X.R g with
    |some _=>jC (c.args.toList.flatMap λx=>dM 3 (rho s.σ x)) s
    |none=>match aP X.C g with
     |some _=>jC (c.args.toList.flatMap λx=>dM 3 (rho s.σ x)) s
     |none=>s
   |_=>s
  |_=>s
 |_=>s
theorem S1: ∃l,IJ X o s=jC l s:=by
 unfold IJ;split
 ·exact ⟨_,rfl⟩
 ·split
  ·exact ⟨_,rfl⟩
  ·exact ⟨[],rfl⟩
 ·split
  ·split
   ·split
    ·exact ⟨_,rfl⟩
    ·split
     ·exact ⟨_,rfl⟩
     ·exact ⟨[],rfl⟩
   ·exact ⟨[],rfl⟩
  ·exact ⟨[],rfl⟩
 ·exact ⟨[],rfl⟩
end
theorem lP{X:Ext}{o:Oper}{c:Cx}{w0:World}{F:Nat->Prop}{e:UN}{s:St}{a:Act}{w:World}(r:F7 c w0 F e s a w): ∃e',F7 c w0 F e' (IJ X o s) a w:=by
 obtain ⟨l,hl⟩:=S1 X o s;rw [hl];exact rP l r
theorem Qt8(X:Ext)(o:Oper)(s:St):(IJ X o s).gh=s.gh:=by
 obtain ⟨l,hl⟩:=S1 X o s;rw [hl,S2]
def oA(P:Program)(G:List (Nat×Spec))(X:Ext)(o:Oper)(s:St):VP St:=Wd9 P G X o (IJ X o s)
theorem uX{P:Program}{G:List (Nat×Spec)}{X:Ext}{c:Cx}(hG:VN P G)(hX:VZ P X c){o:Oper}{s:St}{R:St->Prop}(h:(oA P G X o s).sat R){w0:World}{T:Nat->Prop}{e:UN}{a:Act}{w:World}(hΦ:c.Φ s.gh T w0)(r:F7 c w0 T e s a w)
  {ro:Option Nat}{n:Nat}{K:Act->World->Prop}{Q:Exit->Act->World->Prop}(hK: ∀s' a' w',R s'->Rel c s' a' w'->K a' w'):o.wpIn (fr ro) n P a w K Q:=by
 obtain ⟨e',r'⟩:=lP (X:=X) (o:=o) r;exact eE hG hX h (by rw [Qt8];exact hΦ) r' hK
def zV(P:Program)(G:List (Nat×Spec))(X:Ext)(ops:List Oper)(o:Oper)(s:St):VP St:=
 match o.guard with
 |none=>settle s (TL o.op) (oA P G X o)
 |some (_,want)=>settle s (DX ops o) λs=>match (match DX ops o with|some t=>s.σ.getD t .top|none=> .top) with
  | .lit b=>match b==want with
   |true=>settle s (TL o.op) (oA P G X o)
   |false=> .leaf (C8 o s)
  | .tup _=> .leaf (C8 o s)
  |_=> .fail
section
variable {e:UN}{w:World}{ops:Array Oper}{σ:List AV}{a:Act}{j t:Nat}{p:Oper}
theorem cC{b:Bool}(h:U5 e w σ a.tmps.toList)(hp:ops[j]? =some p)(hd:p.dst=some t)(hl:σ.getD t .top= .lit b):yielded ops a.tmps j=some b:=by
 have Z:=FM h (.tmp t);simp only [rho,hl] at Z;have:=Z.lit_inv;simp only [Act.eval] at this;have hg:a.tmps[t]? =some (.bool b):=by
  cases hq:a.tmps[t]? with
  |none=>rw [Array.getD_eq_getD_getElem?,hq] at this;simp [undef] at this
  |some v=>rw [Array.getD_eq_getD_getElem?,hq] at this;simpa using this
 unfold yielded;simp [hp,hd,hg]
theorem cB{l:List AV}(h:U5 e w σ a.tmps.toList)(hp:ops[j]? =some p)(hd:p.dst=some t)(hl:σ.getD t .top= .tup l):yielded ops a.tmps j=none:=by
 have Z:=FM h (.tmp t);simp only [rho,hl] at Z;obtain ⟨vs,hv,_⟩:=Z.tup_inv;simp only [Act.eval] at hv;unfold yielded;simp only [hp,hd,Option.bind_some];cases hq:a.tmps[t]? with
 |none=>rfl
 |some v=>
  rw [Array.getD_eq_getD_getElem?,hq] at hv;simp only [Option.getD_some] at hv;subst hv;rfl
end
theorem zU{P:Program}{G:List (Nat×Spec)}{X:Ext}{c:Cx}(hG:VN P G)(hX:VZ P X c){ro:Option Nat}{n:Nat}{ops:Array Oper}{i:Nat}{o:Oper}(ho:ops[i]? =some o){s:St}{R:St->Prop}(h:(zV P G X ops.toList o s).sat R){a:Act}{w:World}(r:Rel c s a w)
  {K:Act->World->Prop}{Q:Exit->Act->World->Prop}(hK: ∀s' a' w',R s'->Rel c s' a' w'->K a' w'):wpOpIn (fr ro) n P ops Q i K a w:=by
 obtain ⟨w0,T,e,hΦ,r⟩:=r;unfold wpOpIn;simp only [ho];unfold zV at h;split at h
 ·rename_i hg;obtain ⟨s1,r1,h1,hg1⟩:=zO h r;rw [if_pos (by simp [Region.wanted,hg])]
  exact uX hG hX h1 (by rw [hg1];exact hΦ) r1 hK
 ·rename_i j want hg;obtain ⟨s1,r1,h1,hg1⟩:=zO h r;unfold DX at h1;simp only [hg] at h1;cases hp:ops.toList[j]? with
  |none=>simp only [hp] at h1;exact h1.elim
  |some p=>
   simp only [hp] at h1;cases hd:p.dst with
   |none=>simp only [hd] at h1;exact h1.elim
   |some t=>
    simp only [hd] at h1;split at h1
    ·rename_i b hb;have hy:=cC (ops:=ops) r1.slots (by simpa using hp) hd hb
     split at h1
     ·rename_i hbw;obtain ⟨s2,r2,h2,hg2⟩:=zO h1 r1;have hw:Region.wanted o (yielded ops a.tmps)=true:=by
       simp only [Region.wanted,hg,hy];simpa using hbw
      rw [if_pos hw];exact uX hG hX h2 (by rw [hg2,hg1];exact hΦ) r2 hK
     ·rename_i hbw;have hw: ¬Region.wanted o (yielded ops a.tmps)=true:=by
       simp only [Region.wanted,hg,hy];simpa using hbw
      rw [if_neg hw];exact ⟨λ_ _=>trivial,hK _ _ _ h1 ⟨w0,T,e,by rw [show (C8 o s1).gh=s1.gh from rfl,hg1];exact hΦ,cY r1⟩⟩
    ·rename_i l hb;have hy:=cB (ops:=ops) r1.slots (by simpa using hp) hd hb
     have hw: ¬Region.wanted o (yielded ops a.tmps)=true:=by
      simp [Region.wanted,hg,hy]
     rw [if_neg hw];exact ⟨λ_ _=>trivial,hK _ _ _ h1 ⟨w0,T,e,by rw [show (C8 o s1).gh=s1.gh from rfl,hg1];exact hΦ,cY r1⟩⟩
    ·exact h1.elim
def We8(P:Program)(G:List (Nat×Spec))(X:Ext)(ops:List Oper):List Oper->St->VP St
 |[],s=> .leaf s
 |o::rest,s=>(zV P G X ops o s).bind (We8 P G X ops rest)
theorem vO{P:Program}{G:List (Nat×Spec)}{X:Ext}{c:Cx}(hG:VN P G)(hX:VZ P X c){ro:Option Nat}{n:Nat}{ops:Array Oper}{Q:Exit->Act->World->Prop}{R:St->Prop}(hQ: ∀s a w,R s->Rel c s a w->Q .normal a w):
  ∀(l:List Oper) (k:Nat),l=ops.toList.drop k-> ∀(s:St) (a:Act) (w:World),(We8 P G X ops.toList l s).sat R->Rel c s a w->wpOpsIn (fr ro) n P ops Q (List.range' k (ops.size-k)) a w
 |[],k,hk,s,a,w,h,r=>by
  have HZ:ops.size-k=0:=by
   have:=congrArg List.length hk;simp at this;omega
  rw [HZ];exact hQ s a w h r
 |o::rest,k,hk,s,a,w,h,r=>by
  have hlt:k<ops.size:=by
   have:=congrArg List.length hk;simp at this;omega
  have hok:ops[k]? =some o:=by
   have:=congrArg (·[0]?) hk;simp at this;exact this.symm
  have ON:rest=ops.toList.drop (k+1):=by
   have:=congrArg List.tail hk;simpa using this
  have e1:ops.size-k=(ops.size-(k+1))+1:=by omega
  rw [e1,List.range'_succ,wpOpsIn_cons];exact zU hG hX hok (VP.sat_bind h) r (λs' a' w' hs' hr'=>vO hG hX hQ rest (k+1) ON s' a' w' hs' hr')
end Go.Sx
namespace Go.Sx
open Go Go.RowKit
def HX(o:Oper):List Nat:=(o.after.toList.filter (Region.binds .any)).map (·.on)
def aA(acc:List Nat)(o:Oper):Nat:=(HX o).foldl (λs j=>s ||| (1 <<< j) ||| acc.getD j 0) 0
def HF:List Oper->List Nat->List Nat
 |[],acc=>acc
 |o::os,acc=>HF os (acc++[aA acc o])
theorem dW: ∀(os:List Oper) (acc:List Nat) (k:Nat),k<acc.length->(HF os acc).getD k 0=acc.getD k 0
 |[],_,_,_=>rfl
 |o::os,acc,k,h=>by
  rw [HF,dW os _ k (by simp;omega)]
  simp [List.getD,List.getElem?_append,h]
theorem iG: ∀(os:List Oper) (acc:List Nat) (i:Nat) (o:Oper),os[i]? =some o-> ∃acc',(HF os acc).getD (acc.length+i) 0=aA acc' o/\acc'.length=acc.length+i/\ ∀j,j<acc.length+i->acc'.getD j 0=(HF os acc).getD j 0
 |[],_,_,_,h=>by simp at h
 |o'::os,acc,0,o,h=>by
  simp at h;subst h;refine ⟨acc,?_,VX,λj hj=>?_⟩
  ·rw [HF,dW os _ _ VX];simp [List.getD]
  ·rw [HF,dW os _ j (by simp;omega)]
   simp only [Bg] at hj;simp [List.getD,List.getElem?_append,hj]
 |o'::os,acc,i+1,o,h=>by
  simp at h;obtain ⟨acc',h1,h2,h3⟩:=iG os (acc++[aA acc o']) i o h;have e1:(acc++[aA acc o']).length+i=acc.length+(i+1):=by simp;omega
  rw [e1] at h1 h2 h3;exact ⟨acc',h1,h2,h3⟩
theorem lT{A:Nat->Nat}: ∀(l:List Nat) (s i:Nat),(l.foldl (λs j=>s ||| (1 <<< j) ||| A j) s).testBit i=true->s.testBit i=true\/ ∃j∈l,i=j\/(A j).testBit i=true
 |[],s,i,h=> .inl h
 |j::l,s,i,h=>by
  rcases lT l _ i h with h|⟨j',hj',h⟩
  ·rw [Nat.testBit_or,Nat.testBit_or,Bl,Bl] at h;rcases h with (h|h)|h
   ·exact .inl h
   ·refine .inr ⟨j,GJ,.inl ?_⟩;rw [Nat.one_shiftLeft,Nat.testBit_two_pow] at h;exact (qC h).symm
   ·exact .inr ⟨j,GJ,.inr h⟩
  ·exact .inr ⟨j',HW _ hj',h⟩
def inS(L:Array Bool)(k:Nat):Prop:=L.getD k false=true
def DC(ops:List Oper)(L:Array Bool):Prop:= ∀k o,ops[k]? =some o->inS L k-> ∀j∈HX o,inS L j
theorem wK{ops:List Oper}{L:Array Bool}(hd:DC ops L): ∀(k:Nat) (o:Oper),ops[k]? =some o->(∀j∈HX o,inS L j)-> ∀i,((HF ops []).getD k 0).testBit i=true->inS L i:=by
 intro k
 induction k using Nat.strongRecOn with
 |_ k ih=>
  intro o ho D3 i O;obtain ⟨acc',h1,h2,h3⟩:=iG ops [] k o ho;simp only [List.length_nil,Ap] at h1 h2 h3;rw [h1] at O;rcases lT _ _ _ O with h|⟨j,hj,h⟩
  ·simp at h
  ·rcases h with rfl|h
   ·exact D3 _ hj
   ·have hjk:j<k:=by
     rcases An j k with h'|h'
     ·exact h'
     ·rw [List.getD,Br VM] at h;simp at h
    rw [h3 j hjk] at h;have hlt:j<ops.length:=by have:=(FW.1 ho).1;omega
    exact ih j hjk ops[j] (D4 hlt) (hd j _ (D4 hlt) (D3 j hj)) i h
def VP.det{α:Type}:VP α->VP α
 | .may _ _ _=> .fail
 | .branch b t f=> .branch b t.det f.det
 | .need ps t=> .need ps t.det
 | .leaf a=> .leaf a
 | .fail=> .fail
theorem VP.det_sat{α:Type}{R:α->Prop}: ∀{t:VP α},t.det.sat R-> ∃r,t.sat (λx=>x=r)/\R r
 | .fail,h=>h.elim
 | .leaf a,h=>⟨a,rfl,h⟩
 | .branch true t f,h=>by
  obtain ⟨r,h1,h2⟩:=VP.det_sat (t:=t) (h.1 rfl);exact ⟨r,⟨λ_=>h1,λe=>by cases e⟩,h2⟩
 | .branch false t f,h=>by
  obtain ⟨r,h1,h2⟩:=VP.det_sat (t:=f) (h.2 rfl);exact ⟨r,⟨λe=>(by cases e),λ_=>h1⟩,h2⟩
 | .need ps t,h=>by
  obtain ⟨r,h1,h2⟩:=VP.det_sat (t:=t) h.2;exact ⟨r,⟨h.1,h1⟩,h2⟩
 | .may _ _ _,h=>h.elim
def mA(X:Ext)(id:Nat)(ρ:Operand->AV)(op:Op):Option (VP (AV×Option GS)):=
 match op with
 | .call c=>match c.callee with
  | .value f=>match ρ f with
   | .fn (.func g) first caps=>match (first++c.args.toList.map ρ++caps).all (AA 6) with
    |true=>match aP X.C g with
     |some sp=>match sp (first++c.args.toList.map ρ++caps) with
      |some t=>some (t.bind λr=> .leaf (r,none))
      |none=>none
     |none=>match Wt3 X.F g with
      |some sp=>match sp (first++c.args.toList.map ρ++caps) with
       |some (ns,T,sz,n,l)=>some (.needT ns (.leaf (.row id,some (.row T sz n l))))
       |none=>none
      |none=>none
    |false=>none
   |_=>none
  |_=>none
 |_=>none
def Qg6(X:Ext)(m:H5)(ρ:Operand->AV)(op:Op):Option (VP (AV×Option GS)):=
 match op with
 | .call c=>match c.callee with
  | .value f=>match ρ f with
   | .fn (.func g) first caps=>match aP X.D g with
    |some sp=>match sp ((first++c.args.toList.map ρ++caps).map (DF m 40)) with
     |some t=>some (t.bind λr=> .leaf (r,none))
     |none=>none
    |none=>none
   |_=>none
  |_=>none
 |_=>none
def Qg5(X:Ext)(id:Nat)(m:H5)(ρ:Operand->AV)(op:Op):Option (VP (AV×Option GS)):=
 match Qg6 X m ρ op with
 |some t=>some t
 |none=>mA X id ρ op
structure HQ where
 val:AV
 add:Option GS
 upd:Option (Nat×GS)
 eat:Option Nat
def DG:HQ:=⟨.top,none,none,none⟩
def yD:HQ:=⟨.tup [],none,none,none⟩
def cZ(want:Bool):AV->Bool
 | .lit b=>b != want
 | .tup _=>true
 |_=>false
def OC(M:List Nat)(mm i j:Nat):Bool:=Nat.testBit (M.getD i 0) j&&Nat.blt j mm&&(List.range mm).all λk=>Nat.beq k i|| !Nat.testBit (M.getD k 0) j
theorem PY{M:List Nat}{mm i j:Nat}(h:OC M mm i j=true):(M.getD i 0).testBit j=true/\j<mm/\ ∀k,k<mm->k≠i->(M.getD k 0).testBit j=false:=by
 simp only [OC,HC] at h;obtain ⟨⟨h1,h2⟩,h3⟩:=h;refine ⟨h1,by rw [Aw] at h2;exact h2,λk hk hne=>?_⟩
 have:=B7.1 h3 k (List.mem_range.2 hk);simp only [Bl,Ax] at this;rcases this with h|h
 ·exact absurd (H2 h) hne
 ·exact h
def Qu4(M:List Nat)(mm i j:Nat):Bool:=Nat.testBit (M.getD i 0) j&&Nat.blt j mm&&(List.range mm).all λk=>Nat.beq k i|| !Nat.testBit (M.getD k 0) j||(Nat.testBit (M.getD k 0) i&&Nat.blt i k)
theorem Qu3{M:List Nat}{mm i j:Nat}(h:Qu4 M mm i j=true):(M.getD i 0).testBit j=true/\j<mm/\ ∀k,k<mm->k≠i->(M.getD k 0).testBit j=true->(M.getD k 0).testBit i=true/\i<k:=by
 simp only [Qu4,HC] at h;obtain ⟨⟨h1,h2⟩,h3⟩:=h;refine ⟨h1,by rw [Aw] at h2;exact h2,λk hk hne hb=>?_⟩
 have:=B7.1 h3 k (List.mem_range.2 hk);rw [hb] at this;simp only [Bl,Bool.not_true,HC,Bool.false_eq_true,or_false] at this;rcases this with h|h
 ·exact absurd (H2 h) hne
 ·exact ⟨h.1,by have:=h.2;rwa [Aw] at this⟩
def fJ(mask j:Nat):List HQ->Nat->Bool
 |[],_=>false
 |c::t,k=>(match c.eat with
  |some q=>Nat.beq q j&&Nat.testBit mask k
  |none=>false)||fJ mask j t (k+1)
theorem rS{mask j:Nat}: ∀{l:List HQ} {k0 i:Nat} {c:HQ},l[i]? =some c->c.eat=some j->mask.testBit (k0+i)=true->fJ mask j l k0=true
 |[],_,_,_,h,_,_=>by simp at h
 |c0::t,k0,i,c,h,he,hb=>by
  unfold fJ;cases i with
  |zero=>simp at h;subst h;rw [he];simp at hb;simp [hb]
  |succ i=>
   have:=rS (mask:=mask) (j:=j) (l:=t) (k0:=k0+1) (i:=i) (by simpa using h) he (by rw [show k0+1+i=k0+(i+1) by omega];exact hb)
   rw [this];simp
def RT:List (Nat×Bool)->Nat->Option Bool
 |[],_=>none
 |(k,d)::t,i=>match Nat.beq k i with
  |true=>some d
  |false=>RT t i
def Qu5(dec:List (Nat×Bool))(k:Nat)(v:AV):AV:=match RT dec k with
 |some d=> .lit d
 |none=>v
def DH(t:Nat):List Oper->Nat->Option Nat
 |[],_=>none
 |o::os,i=>match o.dst with
  |some d=>match Nat.beq d t with
   |true=>some i
   |false=>DH t os (i+1)
  |none=>DH t os (i+1)
theorem RG{t:Nat}: ∀{ops:List Oper} {i k:Nat},DH t ops i=some k->i<=k/\ ∃o,ops[k-i]? =some o/\o.dst=some t
 |[],_,_,h=>by simp [DH] at h
 |o::os,i,k,h=>by
  unfold DH at h;split at h
  ·rename_i d hd;split at h
   ·rename_i hb;cases h;have:d=t:=H2 hb;exact ⟨Am _,o,VX,by rw [hd,this]⟩
   ·obtain ⟨h1,o',h2,h3⟩:=RG h;refine ⟨VM,o',?_,h3⟩;rw [show k-i=(k-(i+1))+1 by omega];simpa using h2
  ·obtain ⟨h1,o',h2,h3⟩:=RG h;refine ⟨VM,o',?_,h3⟩;rw [show k-i=(k-(i+1))+1 by omega];simpa using h2
def rA(n:Nat)(ops:List Oper):List Oper->Nat->Bool
 |[],_=>true
 |o::os,i=>(match o.dst with
  |some d=>(match DH d ops 0 with|some k=>Nat.beq k i&&Nat.blt d n|none=>false)
  |none=>true)&&(HX o).all (λj=>Nat.blt j i)&&rA n ops os (i+1)
theorem PC{n:Nat}{ops:List Oper}: ∀{os:List Oper} {i:Nat},rA n ops os i=true-> ∀k o,os[k]? =some o->(∀d,o.dst=some d->DH d ops 0=some (i+k)/\d<n)/\ ∀j∈HX o,j<i+k
 |[],_,_,k,o,h=>by simp at h
 |o'::os,i,hw,0,o,h=>by
  simp at h;subst h;simp only [rA,HC] at hw;obtain ⟨⟨h1,h2⟩,_⟩:=hw;refine ⟨λd hd=>?_,λj hj=>?_⟩
  ·rw [hd] at h1;simp only at h1;split at h1
   ·rename_i k hk;simp only [HC] at h1;exact ⟨by rw [hk,H2 h1.1];rfl,by simpa [Aw] using h1.2⟩
   ·cases h1
  ·have:=B7.1 h2 j hj;simpa [Aw] using this
 |o'::os,i,hw,k+1,o,h=>by
  simp at h;simp only [rA,HC] at hw;have:=PC hw.2 k o h;rw [show i+(k+1)=i+1+k by omega]
  exact this
section
variable (P:Program)(G:List (Nat×Spec))(X:Ext)(ops:List Oper)(M:List Nat)(σ0:List AV)(m0:H5)(nx0 mm:Nat)
section
variable (W:List HQ)(dec:List (Nat×Bool))(i:Nat)
def LR:Operand->AV
 | .tmp t=>match DH t ops 0 with
  |none=>σ0.getD t .top
  |some k=>match Nat.testBit (M.getD i 0) k with
   |true=>Qu5 dec k (W.getD k DG).val
   |false=>match Nat.beq k i||Nat.testBit (M.getD k 0) i with
    |true=>σ0.getD t .top
    |false=> .top
 |x=>rho [] x
def FV(mask:Nat)(all:List HQ):List HQ->Nat->H5
 |[],_=>[]
 |o::os,j=>match Nat.testBit mask j with
  |true=>match o.add with
   |some r=>match fJ mask j all 0 with
    |true=>FV mask all os (j+1)
    |false=>(nx0+j,r)::FV mask all os (j+1)
   |none=>FV mask all os (j+1)
  |false=>FV mask all os (j+1)
abbrev DT:=List HQ×List (Nat×Bool)
def uT(t:Option Nat)(g:List (Nat×Bool)->VP DT):VP DT:=
 match t with
 |none=>g dec
 |some t=>match DH t ops 0 with
  |some k=>match RT dec k with
   |some _=>g dec
   |none=>match Nat.testBit (M.getD i 0) k with
    |true=>match (W.getD k DG).val with
     | .x (.bool b)=> .branch b (g ((k,true)::dec)) (g ((k,false)::dec))
     |_=>g dec
    |false=>g dec
  |none=>g dec
end
section
variable (o:Oper)(i:Nat)(W:List HQ)(dec:List (Nat×Bool))
def T7:Option (List Prop×Nat×GS):=
 match o.op with
 | .store t x y=>match LR ops M σ0 W dec i x with
  | .ptr id off=>match Nat.ble nx0 id&&OC M mm i (id-nx0) with
   |true=>match zW P (FV nx0 (M.getD i 0) W W 0++m0) t (.ptr id off) (LR ops M σ0 W dec i y) with
    |some (ns,m')=>match DJ m' id with
     |some r=>some (ns,id-nx0,r)
     |none=>none
    |none=>none
   |false=>none
  |_=>none
 |_=>none
def Qw3:Option (List Prop×AV×GS×Option Nat):=
 match o.op with
 | .call c=>match c.callee,c.args.toList,c.argTypes.toList with
  | .builtin .append,[s,x],[t,t']=>match Nat.beq t t' with
   |true=>match LR ops M σ0 W dec i s with
    | .row id=>match Nat.ble nx0 id&&Qu4 M mm i (id-nx0) with
     |true=>match R0 P (nx0+i) (FV nx0 (M.getD i 0) W W 0++m0) t (.row id) (LR ops M σ0 W dec i x) with
      |some (ns,val,(_,r)::_)=>some (ns,val,r,some (id-nx0))
      |_=>none
     |false=>none
    | .x v=>match R0 P (nx0+i) (FV nx0 (M.getD i 0) W W 0++m0) t (.x v) (LR ops M σ0 W dec i x) with
     |some (ns,val,(_,r)::_)=>some (ns,val,r,none)
     |_=>none
    |_=>none
   |false=>none
  |_,_,_=>none
 |_=>none
def Xp7:Option (List Prop×AV×GS):=
 match o.op with
 | .call c=>match c.callee,c.args.toList,c.argTypes.toList with
  | .builtin .append,[s,x],[t,t']=>match Nat.beq t t' with
   |true=>match LR ops M σ0 W dec i s with
    | .row id=>match Nat.blt id nx0 with
     |true=>match yI P (nx0+i) (FV nx0 (M.getD i 0) W W 0++m0) t id (LR ops M σ0 W dec i x) with
      |some (ns,r)=>some (ns,.row (nx0+i),r)
      |none=>none
     |false=>none
    |_=>none
   |false=>none
  |_,_,_=>none
 |_=>none
end
def Wy5(X:Ext)(d:Nat):List Oper->Bool
 |[]=>false
 |o::os=>(match o.op with
  | .call c=>match c.callee with
   | .value (.func g)=>match aP X.C g with
    |some _=>c.args.toList.any λx=>match x with
     | .tmp t=>Nat.beq t d
     |_=>false
    |none=>false
   |_=>false
  |_=>false)||Wy5 X d os
def Xp6(X:Ext)(o:Oper)(i:Nat)(W:List HQ)(dec:List (Nat×Bool)):Option (List Prop×AV×Option Nat):=
 match o.dst with
 |some d=>match Wy5 X d ops with
  |true=>match Qw3 P ops M σ0 m0 nx0 mm o i W dec with
   |some (ns,_,.row _ sz n f,eat)=>some (ns,.lst sz n f,eat)
   |_=>none
  |false=>none
 |none=>none
def Xh4(o:Oper)(i:Nat)(W:List HQ)(dec:List (Nat×Bool))(next:List HQ->List (Nat×Bool)->VP DT):VP DT:=
 match aop P G (nx0+i) (FV nx0 (M.getD i 0) W W 0++m0) (LR ops M σ0 W dec i) o.op with
 |some (ns,val,add)=> .needT ns (next (W++[⟨val,add,none,none⟩]) dec)
 |none=>match T7 P ops M σ0 m0 nx0 mm o i W dec with
  |some (ns,j,r)=> .needT ns (next (W++[⟨.top,none,some (j,r),none⟩]) dec)
  |none=>match Xp6 P ops M σ0 m0 nx0 mm X o i W dec with
   |some (ns,val,eat)=> .needT ns (next (W++[⟨val,none,none,eat⟩]) dec)
   |none=>match Qw3 P ops M σ0 m0 nx0 mm o i W dec with
    |some (ns,val,r,eat)=> .needT ns (next (W++[⟨val,some r,none,eat⟩]) dec)
    |none=>match Qg5 X (nx0+i) (FV nx0 (M.getD i 0) W W 0++m0) (LR ops M σ0 W dec i) o.op with
     |some t=>t.det.bind λr=>next (W++[⟨r.1,r.2,none,none⟩]) dec
     |none=>match Xp7 P ops M σ0 m0 nx0 o i W dec with
      |some (ns,val,r)=> .needT ns (next (W++[⟨val,some r,none,none⟩]) dec)
      |none=> .fail
def jR:List Oper->Nat->List HQ->List (Nat×Bool)->VP DT
 |[],_,W,dec=> .leaf (W,dec)
 |o::rest,i,W,dec=>match o.guard with
  |none=>uT ops M W dec i (TL o.op) λdec=>Xh4 P G X ops M σ0 m0 nx0 mm o i W dec (jR rest (i+1))
  |some (_,want)=>uT ops M W dec i (DX ops o) λdec=>match (match DX ops o with|some t=>LR ops M σ0 W dec i (.tmp t)|none=> .top) with
   | .lit b=>match b==want with
    |true=>uT ops M W dec i (TL o.op) λdec=>Xh4 P G X ops M σ0 m0 nx0 mm o i W dec (jR rest (i+1))
    |false=>jR rest (i+1) (W++[yD]) dec
   | .tup _=>jR rest (i+1) (W++[yD]) dec
   |_=> .fail
section
variable (W:List HQ)(dec:List (Nat×Bool))
def Qk4(i:Nat)(o:Oper):Prop:=
 ∃dec',(∀k d,RT dec' k=some d->RT dec k=some d)/\
  ((((∃ns,aop P G (nx0+i) (FV nx0 (M.getD i 0) (W.take i) (W.take i) 0++m0) (LR ops M σ0 (W.take i) dec' i) o.op=some (ns,(W.getD i DG).val,(W.getD i DG).add)/\(W.getD i DG).upd=none/\(W.getD i DG).eat=none/\ ∀p∈ns,p)\/
    (∃ns j r,T7 P ops M σ0 m0 nx0 mm o i (W.take i) dec'=some (ns,j,r)/\W.getD i DG=⟨.top,none,some (j,r),none⟩/\ ∀p∈ns,p)\/
    (∃ns val r eat,Qw3 P ops M σ0 m0 nx0 mm o i (W.take i) dec'=some (ns,val,r,eat)/\W.getD i DG=⟨val,some r,none,eat⟩/\ ∀p∈ns,p)\/
    (∃t val,Qg5 X (nx0+i) (FV nx0 (M.getD i 0) (W.take i) (W.take i) 0++m0) (LR ops M σ0 (W.take i) dec' i) o.op=some t/\W.getD i DG=⟨val.1,val.2,none,none⟩/\t.sat (λr=>r=val))\/
    (∃ns val eat,Xp6 P ops M σ0 m0 nx0 mm X o i (W.take i) dec'=some (ns,val,eat)/\W.getD i DG=⟨val,none,none,eat⟩/\ ∀p∈ns,p)\/
    (∃ns val r,Xp7 P ops M σ0 m0 nx0 o i (W.take i) dec'=some (ns,val,r)/\W.getD i DG=⟨val,some r,none,none⟩/\ ∀p∈ns,p))/\
    (o.guard=none\/ ∃j want t,o.guard=some (j,want)/\DX ops o=some t/\LR ops M σ0 (W.take i) dec' i (.tmp t)= .lit want))\/
   (W.getD i DG=yD/\ ∃j want t,o.guard=some (j,want)/\DX ops o=some t/\cZ want (LR ops M σ0 (W.take i) dec' i (.tmp t))=true))
def Xf2:Prop:= ∀k d,RT dec k=some d->k<W.length/\(W.getD k DG).val= .x (.bool d)
def P3:Prop:=Xf2 W dec/\ ∀i o,i<W.length->ops[i]? =some o->Qk4 P G X ops M σ0 m0 nx0 mm W dec i o
end
end
section
variable {P:Program}{G:List (Nat×Spec)}{X:Ext}{ops:List Oper}{M:List Nat}{σ0:List AV}{m0:H5}{nx0 mm:Nat}
theorem u9{k:Nat}{d:Bool}{dec:List (Nat×Bool)}(hno:RT dec k=none): ∀i b,RT dec i=some b->RT ((k,d)::dec) i=some b:=by
 intro i b h;unfold RT;split
 ·rename_i hb;have:k=i:=H2 hb;subst this;rw [hno] at h;cases h
 ·exact h
theorem P3.more{W:List HQ}{dec dec2:List (Nat×Bool)}(h:P3 P G X ops M σ0 m0 nx0 mm W dec)(hd:Xf2 W dec2)(hs: ∀i b,RT dec i=some b->RT dec2 i=some b):P3 P G X ops M σ0 m0 nx0 mm W dec2:=
 ⟨hd,λi o O ho=>let ⟨dec',h1,h2⟩:=h.2 i o O ho;⟨dec',λk d hk=>hs k d (h1 k d hk),h2⟩⟩
theorem x7{W:List HQ}{dec:List (Nat×Bool)}{i:Nat}{t:Option Nat}{g:List (Nat×Bool)->VP DT}{R:DT->Prop}(h:(uT ops M W dec i t g).sat R)(ha:P3 P G X ops M σ0 m0 nx0 mm W dec):
  ∃dec2,P3 P G X ops M σ0 m0 nx0 mm W dec2/\(g dec2).sat R/\ ∀i b,RT dec i=some b->RT dec2 i=some b:=by
 unfold uT at h;split at h
 ·exact ⟨dec,ha,h,λ_ _ h=>h⟩
 ·split at h
  ·rename_i k hk;split at h
   ·exact ⟨dec,ha,h,λ_ _ h=>h⟩
   ·rename_i hno;split at h
    ·split at h
     ·rename_i b hb;have hlt:k<W.length:=by
       rcases An k W.length with h'|h'
       ·exact h'
       ·rw [List.getD,Br h'] at hb;simp [DG] at hb
      have key: ∀d,b=d->P3 P G X ops M σ0 m0 nx0 mm W ((k,d)::dec):=by
       intro d hd;refine ha.more ?_ (u9 hno);intro i b' hl;unfold RT at hl;split at hl
       ·rename_i hki;have:k=i:=H2 hki;subst this;cases hl;exact ⟨hlt,by rw [hb,hd]⟩
       ·exact ha.1 i b' hl
      cases b
      ·exact ⟨_,key false rfl,h.2 rfl,u9 hno⟩
      ·exact ⟨_,key true rfl,h.1 rfl,u9 hno⟩
     ·exact ⟨dec,ha,h,λ_ _ h=>h⟩
    ·exact ⟨dec,ha,h,λ_ _ h=>h⟩
  ·exact ⟨dec,ha,h,λ_ _ h=>h⟩
theorem We5{W:List HQ}{dec2 dec3:List (Nat×Bool)}{i t:Nat}{b:Bool}(Zo9: ∀i b,RT dec2 i=some b->RT dec3 i=some b)(hd:Xf2 W dec3)(h:LR ops M σ0 W dec2 i (.tmp t)= .lit b):LR ops M σ0 W dec3 i (.tmp t)= .lit b:=by
 simp only [LR] at h ⊢;split
 ·rename_i hw;rw [hw] at h;exact h
 ·rename_i k hw;rw [hw] at h;simp only at h;split
  ·rename_i hb;rw [hb] at h;simp only [Qu5] at h ⊢;cases h2:RT dec2 k with
   |some d=>rw [h2] at h;rw [Zo9 _ _ h2];exact h
   |none=>
    rw [h2] at h;simp only at h;cases h3:RT dec3 k with
    |none=>exact h
    |some d=>have:=(hd k d h3).2;rw [this] at h;cases h
  ·rename_i hb;rw [hb] at h;exact h
theorem P3.push{W:List HQ}{dec:List (Nat×Bool)}{o:Oper}{c:HQ}(h:P3 P G X ops M σ0 m0 nx0 mm W dec)(ho:ops[W.length]? =some o)(Z:Qk4 P G X ops M σ0 m0 nx0 mm (W++[c]) dec W.length o):
  P3 P G X ops M σ0 m0 nx0 mm (W++[c]) dec:=by
 have Qs5: ∀i,i<W.length->(W++[c]).getD i DG=W.getD i DG:=λi O=>by simp [List.getD,List.getElem?_append,O]
 refine ⟨λk d hk=>?_,λi o' O ho'=>?_⟩
 ·obtain ⟨h1,h2⟩:=h.1 k d hk;exact ⟨by simp;omega,by rw [Qs5 k h1];exact h2⟩
 ·by_cases hlt:i<W.length
  ·obtain ⟨dec',h1,h2⟩:=h.2 i o' hlt ho';refine ⟨dec',h1,?_⟩;have ht:(W++[c]).take i=W.take i:=by rw [List.take_append_of_le_length VM]
   rw [ht,Qs5 i hlt];exact h2
  ·have:i=W.length:=by simp at O;omega
   subst this;rw [ho] at ho';cases ho';exact Z
theorem wS{R:DT->Prop}: ∀(rest:List Oper) (W:List HQ) (dec:List (Nat×Bool)) (hh:List Oper),ops=hh++rest++(ops.drop (hh.length+rest.length))->hh.length=W.length->(jR P G X ops M σ0 m0 nx0 mm rest W.length W dec).sat R->
  P3 P G X ops M σ0 m0 nx0 mm W dec-> ∃outs' dec',R (outs',dec')/\P3 P G X ops M σ0 m0 nx0 mm outs' dec'/\outs'.length=W.length+rest.length
 |[],W,dec,hh,_,_,h,ha=>⟨W,dec,h,ha,VX⟩
 |o::rest,W,dec,hh,IB,HZ,h,ha=>by
  have ho:ops[W.length]? =some o:=by
   rw [IB,List.append_assoc,←HZ];simp
  have hops':ops=(hh++[o])++rest++(ops.drop ((hh++[o]).length+rest.length)):=by
   have e1:(hh++[o]).length+rest.length=hh.length+(o::rest).length:=by simp;omega
   rw [e1];simpa using IB
  have run: ∀dec2,P3 P G X ops M σ0 m0 nx0 mm W dec2->(Xh4 P G X ops M σ0 m0 nx0 mm o W.length W dec2 (jR P G X ops M σ0 m0 nx0 mm rest (W.length+1))).sat R->
    (o.guard=none\/ ∃j want t,o.guard=some (j,want)/\DX ops o=some t/\LR ops M σ0 W dec2 W.length (.tmp t)= .lit want)->
    ∃outs' dec',R (outs',dec')/\P3 P G X ops M σ0 m0 nx0 mm outs' dec'/\outs'.length=W.length+(o::rest).length:=by
   intro dec2 ha2 h2 hg;unfold Xh4 at h2;have fin: ∀c:HQ,Qk4 P G X ops M σ0 m0 nx0 mm (W++[c]) dec2 W.length o->(jR P G X ops M σ0 m0 nx0 mm rest (W.length+1) (W++[c]) dec2).sat R->
     ∃outs' dec',R (outs',dec')/\P3 P G X ops M σ0 m0 nx0 mm outs' dec'/\outs'.length=W.length+(o::rest).length:=by
    intro c yX h3;have D3:=ha2.push ho yX;have hl:(W++[c]).length=W.length+1:=VX;rw [←hl] at h3;obtain ⟨outs',dec',r1,r2,r3⟩:=wS rest _ dec2 (hh++[o]) hops' (by simp [HZ]) h3 D3
    exact ⟨outs',dec',r1,r2,by rw [r3];simp;omega⟩
   split at h2
   ·rename_i ns val add Xm3
    replace h2:=VP.sat_needT h2
    refine fin ⟨val,add,none,none⟩ ⟨dec2,λ_ _ h=>h,.inl ⟨.inl ⟨ns,?_,?_,?_,GF h2.1⟩,?_⟩⟩ h2.2
    ·simpa [List.getD] using Xm3
    ·simp [List.getD]
    ·simp [List.getD]
    ·simpa using hg
   ·split at h2
    ·rename_i ns j r hst
     replace h2:=VP.sat_needT h2
     refine fin ⟨.top,none,some (j,r),none⟩ ⟨dec2,λ_ _ h=>h,.inl ⟨.inr (.inl ⟨ns,j,r,?_,?_,GF h2.1⟩),?_⟩⟩ h2.2
     ·simpa using hst
     ·simp [List.getD]
     ·simpa using hg
    ·split at h2
     ·rename_i ns val eat hap
      replace h2:=VP.sat_needT h2
      refine fin ⟨val,none,none,eat⟩ ⟨dec2,λ_ _ h=>h,.inl ⟨.inr (.inr (.inr (.inr (.inl ⟨ns,val,eat,?_,?_,GF h2.1⟩)))),?_⟩⟩ h2.2
      ·simpa using hap
      ·simp [List.getD]
      ·simpa using hg
     ·split at h2
      ·rename_i ns val r eat hap
       replace h2:=VP.sat_needT h2
       refine fin ⟨val,some r,none,eat⟩ ⟨dec2,λ_ _ h=>h,.inl ⟨.inr (.inr (.inl ⟨ns,val,r,eat,?_,?_,GF h2.1⟩)),?_⟩⟩ h2.2
       ·simpa using hap
       ·simp [List.getD]
       ·simpa using hg
      ·split at h2
       ·rename_i t hcd;obtain ⟨val,h3,h4⟩:=VP.det_sat (VP.sat_bind h2);refine fin ⟨val.1,val.2,none,none⟩ ⟨dec2,λ_ _ h=>h,.inl ⟨.inr (.inr (.inr (.inl ⟨t,val,?_,?_,h3⟩))),?_⟩⟩ h4
        ·simpa using hcd
        ·simp [List.getD]
        ·simpa using hg
       ·split at h2
        ·rename_i ns val r hap
         replace h2:=VP.sat_needT h2
         refine fin ⟨val,some r,none,none⟩ ⟨dec2,λ_ _ h=>h,.inl ⟨.inr (.inr (.inr (.inr (.inr ⟨ns,val,r,?_,?_,GF h2.1⟩)))),?_⟩⟩ h2.2
         ·simpa using hap
         ·simp [List.getD]
         ·simpa using hg
        ·exact h2.elim
  have skip: ∀{dec2:List (Nat×Bool)} {j:Nat} {want:Bool} {t:Nat},P3 P G X ops M σ0 m0 nx0 mm W dec2->(jR P G X ops M σ0 m0 nx0 mm rest (W.length+1) (W++[yD]) dec2).sat R->o.guard=some (j,want)->DX ops o=some t->
    cZ want (LR ops M σ0 W dec2 W.length (.tmp t))=true-> ∃outs' dec',R (outs',dec')/\P3 P G X ops M σ0 m0 nx0 mm outs' dec'/\outs'.length=W.length+(o::rest).length:=by
   intro dec2 j want t ha2 h2 hg hs hb;have yX:Qk4 P G X ops M σ0 m0 nx0 mm (W++[yD]) dec2 W.length o:=by
    refine ⟨dec2,λ_ _ h=>h,.inr ⟨by simp [List.getD],j,want,t,hg,hs,?_⟩⟩
    simpa using hb
   have D3:=ha2.push ho yX;have hl:(W++[yD]).length=W.length+1:=VX;rw [←hl] at h2;obtain ⟨outs',dec',r1,r2,r3⟩:=wS rest _ dec2 (hh++[o]) hops' (by simp [HZ]) h2 D3
   exact ⟨outs',dec',r1,r2,by rw [r3];simp;omega⟩
  unfold jR at h;split at h
  ·rename_i hg;obtain ⟨dec2,ha2,h2,_⟩:=x7 h ha;exact run dec2 ha2 h2 (.inl hg)
  ·rename_i j want hg;obtain ⟨dec2,ha2,h2,_⟩:=x7 h ha;cases hs:DX ops o with
   |none=>simp only [hs] at h2;exact h2.elim
   |some t=>
    simp only [hs] at h2;split at h2
    ·rename_i b hb;split at h2
     ·rename_i hbw;have hbw':b=want:=by simpa using hbw
      subst hbw';obtain ⟨dec3,ha3,h3,Zo9⟩:=x7 h2 ha2;exact run dec3 ha3 h3 (.inr ⟨j,b,t,hg,hs,We5 Zo9 ha3.1 hb⟩)
     ·rename_i hbw;have hbw':b≠want:=by simpa using hbw
      exact skip ha2 h2 hg hs (by rw [hb];simpa [cZ] using hbw')
    ·rename_i l hb;exact skip ha2 h2 hg hs (by rw [hb];rfl)
    ·exact h2.elim
end
def aV(M:List Nat)(k:Nat):Bool:=Nat.beq (Nat.land (M.getD k 0) (2^k-1)) (2^k-1)
theorem IL{M:List Nat}{k:Nat}(h:aV M k=true){j:Nat}(hj:j<k):(M.getD k 0).testBit j=true:=by
 have h1:Nat.land (M.getD k 0) (2^k-1)=2^k-1:=H2 h;have h2:((M.getD k 0) &&& (2^k-1)).testBit j=(2^k-1).testBit j:=congrArg (·.testBit j) h1;rw [Nat.testBit_and,Nat.testBit_two_pow_sub_one] at h2;simpa [hj] using h2
def BZ(M:List Nat):Nat->Nat
 | 0=>0
 |k+1=>match aV M k with
  |true=>BZ M k
  |false=>k+1
theorem a9(M:List Nat): ∀n,BZ M n<=n
 | 0=>Am _
 |k+1=>by
        unfold BZ;split
        ·exact Nat.le_succ_of_le (a9 M k)
        ·exact Am _
theorem kK(M:List Nat): ∀n k,BZ M n<=k->k<n->aV M k=true
 | 0,_,_,h=>VM
 |n+1,k,h,hk=>by
  unfold BZ at h;split at h
  ·rename_i hf;by_cases he:k=n
   ·subst he;exact hf
   ·exact kK M n k h VM
  ·omega
section
variable (ops:List Oper)(mm:Nat)(W:List HQ)(dec:List (Nat×Bool))
def Xm8(t:Nat)(a:AV):AV:=match DH t ops 0 with
 |some k=>match Nat.blt k mm with
  |true=>Qu5 dec k (W.getD k DG).val
  |false=>a
 |none=>a
def d6:List AV->Nat->List AV
 |[],_=>[]
 |a::l,t=>Xm8 ops mm W dec t a::d6 l (t+1)
theorem wQ: ∀(l:List AV) (t:Nat),(d6 ops mm W dec l t).length=l.length
 |[],_=>rfl
 |a::l,t=>by simp [d6,wQ l]
theorem IS: ∀(l:List AV) (t i:Nat),(d6 ops mm W dec l t)[i]? =(l[i]?).map (Xm8 ops mm W dec (t+i))
 |[],_,_=>rfl
 |a::l,t,0=>by simp [d6]
 |a::l,t,i+1=>by simp only [d6,List.getElem?_cons_succ];rw [IS l (t+1) i,show t+1+i=t+(i+1) by omega]
end
def jN(W:List HQ)(j:Nat):Option GS:=
 match W with
 |[]=>none
 |c::os=>match c.upd with
  |some (k,r)=>match Nat.beq k j with
   |true=>some r
   |false=>jN os j
  |none=>jN os j
theorem zI{j:Nat}{r:GS}: ∀{W:List HQ},jN W j=some r-> ∃(i:Nat) (c:HQ),W[i]? =some c/\c.upd=some (j,r)
 |[],h=>by simp [jN] at h
 |c::os,h=>by
  unfold jN at h;split at h
  ·rename_i k r' hu;split at h
   ·rename_i hb;cases h;have:k=j:=H2 hb;exact ⟨0,c,rfl,by rw [hu,this]⟩
   ·obtain ⟨i,c',h1,h2⟩:=zI h;exact ⟨i+1,c',by simpa using h1,h2⟩
  ·obtain ⟨i,c',h1,h2⟩:=zI h;exact ⟨i+1,c',by simpa using h1,h2⟩
theorem zJ{j:Nat}: ∀{W:List HQ},jN W j=none-> ∀(i:Nat) (c:HQ) (r:GS),W[i]? =some c->c.upd≠some (j,r)
 |[],_,i,c,r,h=>by simp at h
 |c0::os,h,i,c,r,hc=>by
  unfold jN at h;cases i with
  |zero=>
   simp at hc;subst hc;intro hu;rw [hu] at h;simp at h
  |succ i=>
   simp at hc;split at h
   ·split at h
    ·cases h
    ·exact zJ h i c r hc
   ·exact zJ h i c r hc
def Qv8(j:Nat):List HQ->Bool
 |[]=>false
 |c::t=>(match c.eat with
  |some q=>Nat.beq q j
  |none=>false)||Qv8 j t
theorem fN{j:Nat}: ∀{l:List HQ} {i:Nat} {c:HQ},l[i]? =some c->c.eat=some j->Qv8 j l=true
 |[],_,_,h,_=>by simp at h
 |c0::t,i,c,h,he=>by
  unfold Qv8;cases i with
  |zero=>simp at h;subst h;rw [he];simp
  |succ i=>rw [fN (l:=t) (i:=i) (by simpa using h) he];simp
def RX(nx0:Nat)(all:List HQ):List HQ->Nat->H5
 |[],_=>[]
 |o::os,j=>match o.add with
  |some r=>match Qv8 j all with
   |true=>RX nx0 all os (j+1)
   |false=>(nx0+j,match jN all j with|some r'=>r'|none=>r)::RX nx0 all os (j+1)
  |none=>RX nx0 all os (j+1)
theorem kZ{nx0:Nat}{all:List HQ}: ∀{W:List HQ} {j0:Nat} {p:Nat×GS},p∈RX nx0 all W j0-> ∃j,∃c:HQ,∃r,W[j]? =some c/\p.1=nx0+(j0+j)/\c.add=some r/\p.2=(match jN all (j0+j) with|some r'=>r'|none=>r)/\Qv8 (j0+j) all=false
 |[],_,_,h=>by simp [RX] at h
 |c::W,j0,p,h=>by
  have tl:p∈RX nx0 all W (j0+1)-> ∃j,∃c':HQ,∃r,(c::W)[j]? =some c'/\p.1=nx0+(j0+j)/\c'.add=some r/\p.2=(match jN all (j0+j) with|some r'=>r'|none=>r)/\Qv8 (j0+j) all=false:=by
   intro h;obtain ⟨j,c',r,h1,h2,h3,h4,h5⟩:=kZ h;refine ⟨j+1,c',r,by simpa using h1,?_,h3,?_,?_⟩
   ·rw [show j0+(j+1)=j0+1+j by omega];exact h2
   ·rw [show j0+(j+1)=j0+1+j by omega];exact h4
   ·rw [show j0+(j+1)=j0+1+j by omega];exact h5
  unfold RX at h;split at h
  ·rename_i r Z;split at h
   ·exact tl h
   ·rename_i ha;rcases GQ.1 h with rfl|h
    ·exact ⟨0,c,r,rfl,rfl,Z,rfl,ha⟩
    ·exact tl h
  ·exact tl h
def OH:GS->Bool
 | .aka _ _ _ _ _=>true
 |_=>false
theorem zF{r:GS}(h:OH r=false)(k:Nat):HY k r=false:=by
 cases r<;>first|rfl|(simp [OH] at h)
def Wy9(c:HQ):Option Nat:=match c.add with
 |some (.aka q _ _ _ _)=>some q
 |_=>none
def a8(q:Nat):List HQ->Bool
 |[]=>true
 |c::t=>(match Wy9 c with
  |some k=> !Nat.beq k q
  |none=>true)&&a8 q t
def TZ:List HQ->Bool
 |[]=>true
 |c::t=>(match Wy9 c with
  |some q=>a8 q t
  |none=>true)&&TZ t
theorem Qh5{c:HQ}{r:GS}{q:Nat}(h:c.add=some r)(hq:HY q r=true):Wy9 c=some q:=by
 unfold Wy9;rw [h];cases r with
 |aka q' T sz n f=>
  have:q'=q:=H2 hq;rw [this]
 |_=>simp [HY] at hq
def aB(nx0:Nat)(c:HQ):Bool:=(match c.upd with
 |some (_,r)=> !OH r
 |none=>true)&&(match c.add with
 |some (.aka q _ _ _ _)=>Nat.blt q nx0
 |_=>true)
def uL(nx0:Nat)(m:H5)(W:List HQ):Bool:=m.all (λp=> !OH p.2)&&(W.all (aB nx0)&&TZ W)
structure Zc5 (nx0:Nat) (m:H5) (W:List HQ):Prop where
 m0: ∀p∈m,OH p.2=false
 upd: ∀(i:Nat) (c:HQ) (j:Nat) (r:GS),W[i]? =some c->c.upd=some (j,r)->OH r=false
 low: ∀(i:Nat) (c:HQ) (r:GS) (q:Nat),W[i]? =some c->c.add=some r->HY q r=true->q<nx0
 one: ∀(i j:Nat) (ci cj:HQ) (ri rj:GS) (q:Nat),W[i]? =some ci->W[j]? =some cj->ci.add=some ri->cj.add=some rj->HY q ri=true->HY q rj=true->i=j
theorem kJ{q:Nat}: ∀{l:List HQ},a8 q l=true-> ∀(i:Nat) (c:HQ),l[i]? =some c->Wy9 c≠some q
 |[],_,i,c,h=>by simp at h
 |c0::t,h,i,c,hc=>by
  simp only [a8,HC] at h;cases i with
  |zero=>
   simp at hc;subst hc;intro he;have:=h.1;rw [he] at this;simp at this
  |succ i=>exact kJ h.2 i c (by simpa using hc)
theorem O6: ∀{l:List HQ},TZ l=true-> ∀(i j:Nat) (ci cj:HQ) (ri rj:GS) (q:Nat),l[i]? =some ci->l[j]? =some cj->ci.add=some ri->cj.add=some rj->HY q ri=true->HY q rj=true->i=j
 |[],_,i,_,ci,_,_,_,_,h,_,_,_,_,_=>by simp at h
 |c0::t,h,i,j,ci,cj,ri,rj,q,h1,h2,h3,h4,h5,h6=>by
  simp only [TZ,HC] at h;have e1:=Qh5 h3 h5;have e2:=Qh5 h4 h6;cases i with
  |zero=>
   cases j with
   |zero=>rfl
   |succ j=>
    simp at h1;subst h1;have:=h.1;rw [e1] at this;exact absurd e2 (kJ this j cj (by simpa using h2))
  |succ i=>
   cases j with
   |zero=>
    simp at h2;subst h2;have:=h.1;rw [e2] at this;exact absurd e1 (kJ this i ci (by simpa using h1))
   |succ j=>rw [O6 h.2 i j ci cj ri rj q (by simpa using h1) (by simpa using h2) h3 h4 h5 h6]
theorem mK{nx0:Nat}{m:H5}{W:List HQ}(h:uL nx0 m W=true):Zc5 nx0 m W:=by
 simp only [uL,HC] at h;obtain ⟨h1,h2,h3⟩:=h;have hl: ∀(i:Nat) (c:HQ),W[i]? =some c->aB nx0 c=true:=λi c hc=>B7.1 h2 c (F4 hc)
 refine ⟨λp hp=>by simpa using B7.1 h1 p hp,λi c j r hc hu=>?_,λi c r q hc Z hq=>?_,O6 h3⟩
 ·have:=hl i c hc;simp only [aB,HC] at this;have h:=this.1;rw [hu] at h;simpa using h
 ·have:=hl i c hc;simp only [aB,HC] at this;have h:=this.2;rw [Z] at h;cases r with
  |aka q' T sz n f=>
   simp only [Aw] at h;have:q'=q:=H2 hq;omega
  |_=>simp [HY] at hq
def Xh9(P:Program)(G:List (Nat×Spec))(X:Ext)(ops:List Oper)(s:St):VP St:=
 match rA s.σ.length ops ops 0 with
 |false=> .fail
 |true=>(jR P G X ops (HF ops []) s.σ s.m s.nx (BZ (HF ops []) ops.length) (ops.take (BZ (HF ops []) ops.length)) 0 [] []).bind λp=>match uL s.nx s.m p.1 with
  |false=> .fail
  |true=>We8 P G X ops (ops.drop (BZ (HF ops []) ops.length))
   {s with σ:=d6 ops (BZ (HF ops []) ops.length) p.1 p.2 s.σ 0,m:=RX s.nx p.1 p.1 0++s.m,nx:=s.nx+BZ (HF ops []) ops.length}
theorem S5{p q:Nat->Bool}: ∀{l:List Nat},(∀i∈l,q i=true->p i=true)-> ∀{i},i∈l->p i=true->q i=false->l.countP q<l.countP p
 |[],_,_,h,_,_=>by cases h
 |a::l,hle,i,O,hp,hq=>by
  have hle':l.countP q<=l.countP p:=List.countP_mono_left λx hx=>hle x (HW _ hx)
  simp only [List.countP_cons];rcases GQ.1 O with rfl|O
  ·rw [hp,hq];simp;omega
  ·have:=S5 (λx hx=>hle x (HW _ hx)) O hp hq
   have h2:(if q a=true then 1 else 0)<=(if p a=true then 1 else 0):=by
    by_cases hqa:q a=true
    ·rw [hqa,hle a GJ hqa];exact Am _
    ·simp [hqa]
   omega
def unl(n:Nat)(L:Array Bool):Nat:=(List.range n).countP λi=> !L.getD i true
theorem HV{ops:Array Oper}{L:Array Bool}{i:Nat}(h:i∈Region.ready .any ops L):i<ops.size/\L.getD i true=false/\ ∃o,ops[i]? =some o/\ ∀j∈HX o,inS L j:=by
 unfold Region.ready at h;rw [List.mem_filter] at h;obtain ⟨h1,h2⟩:=h;simp only [HC,Ax,List.mem_range] at h1 h2;obtain ⟨h3,h4⟩:=h2;refine ⟨h1,h3,ops[i],by simp [h1],λj hj=>?_⟩
 have ho:ops[i]? =some ops[i]:=by simp [h1]
 rw [ho] at h4;simp only [Bt,GX] at h4;simp only [HX,List.mem_map,List.mem_filter] at hj;obtain ⟨ed,⟨he1,he2⟩,rfl⟩:=hj;have:=Array.all_eq_true_iff_forall_mem.1 h4 ed (by simpa using he1)
 simpa [he2,inS] using this
theorem AR{ro:Option Nat}{n:Nat}{P:Program}{ops:Array Oper}{Q:Exit->Act->World->Prop}(Inv:Array Bool->Act->World->Prop)
  (step: ∀L a w i,Inv L a w->i∈Region.ready .any ops L->wpOpIn (fr ro) n P ops Q i (λa' w'=>Inv (L.setIfInBounds i true) a' w') a w)
  (done: ∀L a w,Inv L a w->Region.ready .any ops L=[]->Q .normal a w)(hsz: ∀L a w,Inv L a w->L.size=ops.size):
  ∀(fuel:Nat) (L:Array Bool) (a:Act) (w:World),Inv L a w->unl ops.size L<=fuel->wpAnyIn (fr ro) n P .any ops Q fuel L a w
 | 0,L,a,w,hI,hu=>by
  have Z:Region.ready .any ops L=[]:=by
   rw [List.eq_nil_iff_forall_not_mem];intro i O;obtain ⟨h1,h2,_⟩:=HV O;have:0<unl ops.size L:=by
    unfold unl;rw [List.countP_pos_iff];exact ⟨i,List.mem_range.2 h1,by rw [h2];rfl⟩
   omega
  exact ⟨Z,done L a w hI Z⟩
 |fuel+1,L,a,w,hI,hu=>by
  refine ⟨done L a w hI,λi O=>?_⟩
  obtain ⟨h1,h2,_⟩:=HV O;have hLs:=hsz L a w hI;refine wpOpIn_mono (λa' w' hI'=>AR Inv step done hsz fuel _ a' w' hI' ?_) (step L a w i hI O)
  have:unl ops.size (L.setIfInBounds i true)<unl ops.size L:=by
   unfold unl;refine S5 (λj hj hq=>?_) (List.mem_range.2 h1) (by rw [h2];rfl) ?_
   ·by_cases hij:i=j
    ·subst hij;simp [L9,hLs,h1] at hq
    ·simpa [L9,Array.getElem?_setIfInBounds,hij] using hq
   ·simp [L9,hLs,h1]
  omega
theorem US{L:Array Bool}{i k:Nat}(O:i<L.size):inS (L.setIfInBounds i true) k↔k=i\/inS L k:=by
 unfold inS;simp only [L9,Array.getElem?_setIfInBounds];by_cases h:i=k
 ·subst h;simp [O]
 ·simp [h,Ne.symm h]
theorem BY{L:Array Bool}{i:Nat}(O:i<L.size)(h:L.getD i true=false): ¬inS L i:=by
 unfold inS;simp [L9,O] at h ⊢;exact h
theorem M9{nx0 mask:Nat}{all:List HQ}: ∀{W:List HQ} {j0:Nat} {p:Nat×GS},p∈FV nx0 mask all W j0-> ∃j,∃c:HQ,W[j]? =some c/\mask.testBit (j0+j)=true/\p.1=nx0+(j0+j)/\c.add=some p.2/\fJ mask (j0+j) all 0=false
 |[],_,_,h=>by simp [FV] at h
 |c::W,j0,p,h=>by
  have tl:p∈FV nx0 mask all W (j0+1)-> ∃j,∃c':HQ,(c::W)[j]? =some c'/\mask.testBit (j0+j)=true/\p.1=nx0+(j0+j)/\c'.add=some p.2/\fJ mask (j0+j) all 0=false:=by
   intro h;obtain ⟨j,c',h1,h2,h3,h4,h5⟩:=M9 h;exact ⟨j+1,c',by simpa using h1,by rw [show j0+(j+1)=j0+1+j by omega];exact h2,by rw [show j0+(j+1)=j0+1+j by omega];exact h3,h4,by rw [show j0+(j+1)=j0+1+j by omega];exact h5⟩
  unfold FV at h;split at h
  ·rename_i hb;split at h
   ·rename_i r Z;split at h
    ·exact tl h
    ·rename_i hea;rcases GQ.1 h with rfl|h
     ·exact ⟨0,c,rfl,by simpa using hb,rfl,Z,hea⟩
     ·exact tl h
   ·exact tl h
  ·exact tl h
section
variable {P:Program}{G:List (Nat×Spec)}{X:Ext}{ops:Array Oper}{c:Cx}{w0:World}{T:Nat->Prop}{s0:St}{W:List HQ}{dec:List (Nat×Bool)}
def FA(ops:List Oper)(σ0:List AV)(W:List HQ)(L:Array Bool)(t:Nat):AV:=match DH t ops 0 with
 |some k=>if L.getD k false=true then (W.getD k DG).val else σ0.getD t .top
 |none=>σ0.getD t .top
structure uN (ops:Array Oper) (c:Cx) (w0:World) (T:Nat->Prop) (s0:St) (W:List HQ) (mm:Nat) (L:Array Bool) (a:Act) (w:World):Prop where
 size:L.size=ops.size
 dc:DC ops.toList L
 lt: ∀k,inS L k->k<mm
 rel: ∃e,G4 e w0.heap.size w/\Below w0.heap.size w0 w/\UX e s0.m w/\(∀j c,inS L j->W[j]? =some c-> ∀r,c.add=some r->(∀i ci,inS L i->W[i]? =some ci->ci.eat≠some j)-> ∃r'',GK e w (s0.nx+j) r''/\(∀i ci r',inS L i->W[i]? =some ci->ci.upd=some (j,r')->r''=r')/\((∀i ci r',inS L i->W[i]? =some ci->ci.upd≠some (j,r'))->r''=r))/\
  (∀k,e.live k->k<s0.nx\/ ∃i,inS L i/\k=s0.nx+i)/\((∀b,T b->b<w0.heap.size/\ ¬e.ro b)/\Xt c e s0.sv a.defers w)/\a.tmps.size=s0.σ.length/\ ∀t v,a.tmps[t]? =some v->Rep e w (FA ops.toList s0.σ W L t) v
theorem Rep.litOf{e:UN}{w:World}{d:Bool}{v:Value}(h:Rep e w (.x (.bool d)) v):Rep e w (.lit d) v:=by rw [h.x_inv];exact .lit d
section
variable {M:List Nat}
theorem rC{mm:Nat}{σ0:List AV}{m0:H5}{nx0:Nat}{opsL:List Oper}{o:Oper}{i j:Nat}{r:GS}{ns:List Prop}{W:List HQ}{dec:List (Nat×Bool)}(h:T7 P opsL M σ0 m0 nx0 mm o i W dec=some (ns,j,r)):
  ∃t x y off m',o.op= .store t x y/\LR opsL M σ0 W dec i x= .ptr (nx0+j) off/\OC M mm i j=true/\zW P (FV nx0 (M.getD i 0) W W 0++m0) t (.ptr (nx0+j) off) (LR opsL M σ0 W dec i y)=some (ns,m')/\DJ m' (nx0+j)=some r:=by
 unfold T7 at h;split at h
 ·rename_i t x y ho;split at h
  ·rename_i id off hx;split at h
   ·rename_i hb;simp only [HC] at hb;have hle:=qY hb.1;split at h
    ·rename_i ns' m' hst;split at h
     ·rename_i r' hg;simp only [HH,FE] at h;obtain ⟨rfl,rfl,rfl⟩:=h;have e1:nx0+(id-nx0)=id:=VM;exact ⟨t,x,y,off,m',ho,by rw [e1];exact hx,hb.2,by rw [e1];exact hst,by rw [e1];exact hg⟩
     ·cases h
    ·cases h
   ·cases h
  ·cases h
 ·cases h
theorem Wb6{σ0:List AV}{m0:H5}{nx0 mm:Nat}{opsL:List Oper}(D3:P3 P G X opsL M σ0 m0 nx0 mm W dec){i j:Nat}{c:HQ}{r:GS}(hc:W[i]? =some c)(ho:i<opsL.length)(hu:c.upd=some (j,r)):OC M mm i j=true:=by
 have O:i<W.length:=(FW.1 hc).1;have hg:W.getD i DG=c:=by simp [List.getD,hc]
 obtain ⟨dec',_,h|h⟩:=D3.2 i opsL[i] O (D4 ho)
 ·rcases h.1 with ⟨ns,_,hn,_⟩|⟨ns,j',r',hst,he,_⟩|⟨ns,val,r',eat,hst,he,_⟩|⟨t,val,_,he,_⟩|⟨ns,val,eat,_,he,_⟩|⟨ns,val,r',_,he,_⟩
  ·rw [hg,hu] at hn;cases hn
  ·rw [hg] at he;subst he;simp only [HH,FE] at hu;obtain ⟨rfl,rfl⟩:=hu;obtain ⟨_,_,_,_,_,_,_,hl,_⟩:=rC hst;exact hl
  ·rw [hg] at he;subst he;cases hu
  ·rw [hg] at he;subst he;cases hu
  ·rw [hg] at he;subst he;cases hu
  ·rw [hg] at he;subst he;cases hu
 ·rw [hg] at h;rw [h.1] at hu;cases hu
theorem yS{mm:Nat}{σ0:List AV}{m0:H5}{nx0:Nat}{opsL:List Oper}{o:Oper}{i:Nat}{val:AV}{r:GS}{eat:Option Nat}{ns:List Prop}{W:List HQ}{dec:List (Nat×Bool)}(h:Qw3 P opsL M σ0 m0 nx0 mm o i W dec=some (ns,val,r,eat)):
  ∃c s x t tl,o.op= .call c/\c.callee= .builtin .append/\c.args.toList=[s,x]/\c.argTypes.toList=[t,t]/\R0 P (nx0+i) (FV nx0 (M.getD i 0) W W 0++m0) t (LR opsL M σ0 W dec i s) (LR opsL M σ0 W dec i x)=some (ns,val,(nx0+i,r)::tl)/\
   ((∃j,eat=some j/\LR opsL M σ0 W dec i s= .row (nx0+j)/\Qu4 M mm i j=true)\/(eat=none/\ ∃v,LR opsL M σ0 W dec i s= .x v)):=by
 have hid: ∀{id:Nat} {m m':H5} {t:TypeId} {s x v:AV} {ns:List Prop} {p:Nat} {r:GS} {tl:H5},R0 P id m t s x=some (ns,v,(p,r)::tl)->p=id:=by
  intro id m m' t s x v ns p r tl h;unfold R0 at h
  repeat' split at h
  all_goals first|(simp only [HH,FE,List.cons.injEq] at h;exact h.2.2.1.1.symm)|cases h
 unfold Qw3 at h;split at h
 ·rename_i c ho;split at h
  ·rename_i s x t t' hc ha hta;split at h
   ·rename_i htt;have:t=t':=H2 htt;subst this;split at h
    ·rename_i id hs;split at h
     ·rename_i hb;simp only [HC] at hb;have hle:=qY hb.1;split at h
      ·rename_i ns' v' p r' tl hap;simp only [HH,FE] at h;obtain ⟨rfl,rfl,rfl,rfl⟩:=h;have hp:=hid (m':=[]) hap;subst hp;exact ⟨c,s,x,t,tl,ho,hc,ha,hta,by rw [hs];exact hap,.inl ⟨id-nx0,rfl,by rw [hs];congr 1;omega,hb.2⟩⟩
      ·cases h
     ·cases h
    ·rename_i v hs;split at h
     ·rename_i ns' v' p r' tl hap;simp only [HH,FE] at h;obtain ⟨rfl,rfl,rfl,rfl⟩:=h;have hp:=hid (m':=[]) hap;subst hp;exact ⟨c,s,x,t,tl,ho,hc,ha,hta,by rw [hs];exact hap,.inr ⟨rfl,v,hs⟩⟩
     ·cases h
    ·cases h
   ·cases h
  ·cases h
 ·cases h
theorem SF{mm:Nat}{σ0:List AV}{m0:H5}{nx0:Nat}{opsL:List Oper}{o:Oper}{i:Nat}{val:AV}{eat:Option Nat}{ns:List Prop}{W:List HQ}{dec:List (Nat×Bool)}(h:Xp6 P opsL M σ0 m0 nx0 mm X o i W dec=some (ns,val,eat)):
  ∃v0 T sz n f,Qw3 P opsL M σ0 m0 nx0 mm o i W dec=some (ns,v0,.row T sz n f,eat)/\val= .lst sz n f:=by
 unfold Xp6 at h;split at h
 ·split at h
  ·split at h
   ·rename_i ns' v0 T sz n f eat' hap;simp only [HH,FE] at h;obtain ⟨rfl,rfl,rfl⟩:=h;exact ⟨v0,T,sz,n,f,hap,rfl⟩
   ·cases h
  ·cases h
 ·cases h
theorem Qw2{σ0:List AV}{m0:H5}{nx0:Nat}{opsL:List Oper}{o:Oper}{i:Nat}{val:AV}{r:GS}{ns:List Prop}{W:List HQ}{dec:List (Nat×Bool)}(h:Xp7 P opsL M σ0 m0 nx0 o i W dec=some (ns,val,r)):
  ∃c s x t q,o.op= .call c/\c.callee= .builtin .append/\c.args.toList=[s,x]/\c.argTypes.toList=[t,t]/\LR opsL M σ0 W dec i s= .row q/\q<nx0/\val= .row (nx0+i)/\
   yI P (nx0+i) (FV nx0 (M.getD i 0) W W 0++m0) t q (LR opsL M σ0 W dec i x)=some (ns,r):=by
 unfold Xp7 at h;split at h
 ·rename_i c ho;split at h
  ·rename_i s x t t' hc ha hta;split at h
   ·rename_i htt;have:t=t':=H2 htt;subst this;split at h
    ·rename_i id hs;split at h
     ·rename_i hb;split at h
      ·rename_i ns' r' hap;simp only [HH,FE] at h;obtain ⟨rfl,rfl,rfl⟩:=h;exact ⟨c,s,x,t,id,ho,hc,ha,hta,hs,by simpa [Aw] using hb,rfl,hap⟩
      ·cases h
     ·cases h
    ·cases h
   ·cases h
  ·cases h
 ·cases h
end
theorem TY{id:Nat}{m m':H5}{t:TypeId}{s x val:AV}{ns:List Prop}(h:R0 P id m t s x=some (ns,val,m')):val= .row id:=by
 unfold R0 at h;split at h
 ·split at h
  ·split at h
   ·split at h
    ·split at h
     ·simp only [HH,FE] at h;exact h.2.1.symm
     ·cases h
    ·cases h
   ·cases h
  ·cases h
 ·cases h
theorem Wv4{M:List Nat}{σ0:List AV}{m0:H5}{nx0 mm:Nat}{opsL:List Oper}(D3:P3 P G X opsL M σ0 m0 nx0 mm W dec){i j:Nat}{c:HQ}(hc:W[i]? =some c)(ho:i<opsL.length)(hu:c.eat=some j):Qu4 M mm i j=true:=by
 have O:i<W.length:=(FW.1 hc).1;have hg:W.getD i DG=c:=by simp [List.getD,hc]
 obtain ⟨dec',_,h|h⟩:=D3.2 i opsL[i] O (D4 ho)
 ·rcases h.1 with ⟨ns,_,_,hn,_⟩|⟨ns,j',r',hst,he,_⟩|⟨ns,val,r',eat,hst,he,_⟩|⟨t,val,_,he,_⟩|⟨ns,val,eat,hsz,he,_⟩|⟨ns,val,r',_,he,_⟩
  ·rw [hg,hu] at hn;cases hn
  ·rw [hg] at he;subst he;cases hu
  ·rw [hg] at he;subst he;simp only at hu;subst hu;obtain ⟨_,_,_,_,_,_,_,_,_,_,h|h⟩:=yS hst
   ·obtain ⟨j',h1,_,h3⟩:=h;cases h1;exact h3
   ·exact absurd h.1 VX
  ·rw [hg] at he;subst he;cases hu
  ·rw [hg] at he;subst he;simp only at hu;subst hu;obtain ⟨_,_,_,_,_,hst,_⟩:=SF hsz;obtain ⟨_,_,_,_,_,_,_,_,_,_,h|h⟩:=yS hst
   ·obtain ⟨j',h1,_,h3⟩:=h;cases h1;exact h3
   ·exact absurd h.1 VX
  ·rw [hg] at he;subst he;cases hu
 ·rw [hg] at h;rw [h.1] at hu;cases hu
theorem sX{X:Ext}(hXc:(∀p∈X.C,Enters P p.1/\ ∀avs t,p.2 avs=some t->UQ P p.1 avs t)/\(∀p∈X.F,Enters P p.1/\ ∀avs ns T sz n g,p.2 avs=some (ns,T,sz,n,g)->(∀q∈ns,q)->DR P p.1 avs T sz n g)/\ ∀p∈X.D,Enters P p.1/\ ∀avs t,p.2 avs=some t->PO P p.1 avs t){e:UN}{B:Nat}{w:World}{m:H5}{id:Nat}{ρ:Operand->AV}{o:Oper}{a:Act}{t:VP (AV×Option GS)}{val:AV×Option GS}
  (h:mA X id ρ o.op=some t)(ht:t.sat (λr=>r=val))(hE:G4 e B w)(hB:B<=w.heap.size)(hm:UX e m w)(hid: ¬e.live id)(Z: ∀x,Rep e w (ρ x) (a.eval x)){ro:Option Nat}{n:Nat}
  {K:Act->World->Prop}{Q:Exit->Act->World->Prop}(hK: ∀v w',LP e B w m id val.1 val.2 v w'->K (a.put o.dst v) w'):o.wpIn (fr ro) n P a w K Q:=by
 obtain ⟨dst,op,type,pos,after,guard⟩:=o;cases op<;>try (simp [mA] at h;done)
 case call c=>
  obtain ⟨callee,args,argTypes⟩:=c;have ha:=U5.ops Z args.toList;cases callee<;>try (simp [mA] at h;done)
  case value f=>
   simp only [mA] at h;have hf:=Z f;split at h
   ·rename_i g first caps hfe
    rw [hfe] at hf;obtain ⟨us,us',hv,r1,r2⟩:=hf.fn_inv;have D3:U5 e w (first++args.toList.map ρ++caps) (us++args.toList.map a.eval++us'):=(r1.append ha).append r2
    split at h
    ·rename_i FP;have DS:Enters P g->(execOp a.eval ⟨dst,.call ⟨.value f,args,argTypes⟩,type,pos,after,guard⟩).run P w= .ok (.enter g (us++args.toList.map a.eval++us').toArray) w:=by
      intro PH;have e1:(us++args.toList.map a.eval++us').toArray=us.toArray++args.map a.eval++us'.toArray:=Array.ext' VX;simp only [execOp,resolve,hv,Deferred.ofValue,At,Sem.run_pure,Au,invoke];rw [e1];exact LG PH _ w
     have hidf': ∀x∈first++args.toList.map ρ++caps,Idf x:=by
      intro x hx;obtain ⟨i,O⟩:=xC.1 hx;obtain ⟨v,_,rv⟩:=D3.get O;exact kN 6 x v rv (B7.1 FP x hx)
     split at h
     ·rename_i sp hsp;split at h
      ·rename_i tr htr;cases h;obtain ⟨PH,hs⟩:=hXc.1 _ (IF hsp);have FK:=hs _ _ htr _ (VP.sat_bind ht) e w _ (λb hb=>(hE.apart b hb).2) hE.glob hidf' D3
       refine HO (λc h=>by cases h) ?_
       unfold Oper.wp;rw [DS PH,Oper.upon_enter];refine FK.mono λen w' hq=>?_
       obtain ⟨v,rr,rfl,hQ,hb,GN⟩:=hq;have hQ:(rr,none)=val:=hQ;subst hQ;have st:Step e (e.more w w') w w':=⟨λb hlt Z=>⟨.inl Z,hb.block b hlt⟩,λ_ h=>⟨h,rfl,rfl⟩,hb.size⟩
       have hE':G4 (e.more w w') B w':=by
        refine ⟨?_,λb k hk=>?_,hE.glob.step st⟩
        ·rintro b (Z|⟨h1,h2⟩)
         ·have:=hE.apart b Z;have:=hb.size;exact ⟨(hE.apart b Z).1,VM⟩
         ·refine ⟨?_,h2⟩;cases ho:(e.more w w').own b with
          |none=>rfl
          |some k=>have:=(hE.owned b k ho).2;omega
        ·have:=hE.owned b k hk;have:=hb.size;exact ⟨(hE.owned b k hk).1,VM⟩
       have st2:Step {PJ w w' with ro:=(e.more w w').ro} (e.more w w') w' w':=⟨λb _ h=>⟨h,rfl⟩,λ_ h=>False.elim h,Am _⟩
       exact hK _ _ ⟨e.more w w',hb,st,hE',λ_ _ h=>h,GN.step st2,hm.ext hb st (λ_ _ h=>h),λ_ h=> .inl h,λb h=>h.imp (λh=>h) (λh=>h.1)⟩
      ·cases h
     ·split at h
      ·rename_i sp hsp;split at h
       ·rename_i ns T sz nn l htr;cases h;obtain ⟨PH,hs⟩:=hXc.2.1 _ (Wt2 hsp);have hns:=VP.sat_needT ht;have FK:=hs _ _ _ _ _ _ htr (GF hns.1) e w _ (λb hb=>(hE.apart b hb).2) hE.glob hidf' D3
        refine HO (λc h=>by cases h) ?_
        unfold Oper.wp;rw [DS PH,Oper.upon_enter];refine FK.mono λen w' hq=>?_
        obtain ⟨v,xs,rfl,hb,k1,k2,k3,k4⟩:=hq;have hQ:((AV.row id,some (GS.row T sz nn l)):AV×Option GS)=val:=hns.2;subst hQ;exact hK _ _ (IY hE hB hm hid hb k1 k2 k3 k4)
       ·cases h
      ·cases h
    ·cases h
   ·cases h
theorem sW{X:Ext}(hXc:(∀p∈X.C,Enters P p.1/\ ∀avs t,p.2 avs=some t->UQ P p.1 avs t)/\(∀p∈X.F,Enters P p.1/\ ∀avs ns T sz n g,p.2 avs=some (ns,T,sz,n,g)->(∀q∈ns,q)->DR P p.1 avs T sz n g)/\ ∀p∈X.D,Enters P p.1/\ ∀avs t,p.2 avs=some t->PO P p.1 avs t){e:UN}{B:Nat}{w:World}{m:H5}{id:Nat}{ρ:Operand->AV}{o:Oper}{a:Act}{t:VP (AV×Option GS)}{val:AV×Option GS}
  (h:Qg5 X id m ρ o.op=some t)(ht:t.sat (λr=>r=val))(hE:G4 e B w)(hB:B<=w.heap.size)(hm:UX e m w)(hid: ¬e.live id)(Z: ∀x,Rep e w (ρ x) (a.eval x)){ro:Option Nat}{n:Nat}
  {K:Act->World->Prop}{Q:Exit->Act->World->Prop}(hK: ∀v w',LP e B w m id val.1 val.2 v w'->K (a.put o.dst v) w'):o.wpIn (fr ro) n P a w K Q:=by
 unfold Qg5 at h;split at h
 ·rename_i t' hV;cases h;obtain ⟨dst,op,type,pos,after,guard⟩:=o;cases op<;>try (simp [Qg6] at hV;done)
  case call c=>
   obtain ⟨callee,args,argTypes⟩:=c;have ha:=U5.ops Z args.toList;cases callee<;>try (simp [Qg6] at hV;done)
   case value f=>
    simp only [Qg6] at hV;have hf:=Z f;split at hV
    ·rename_i g first caps hfe
     rw [hfe] at hf;obtain ⟨us,us',hv,r1,r2⟩:=hf.fn_inv;have D3:U5 e w (first++args.toList.map ρ++caps) (us++args.toList.map a.eval++us'):=(r1.append ha).append r2
     split at hV
     ·rename_i sp hsp;split at hV
      ·rename_i tr htr;cases hV;obtain ⟨PH,hs⟩:=hXc.2.2 _ (IF hsp);have gU:=U5.map (DF m 40) (LD hE hm 40) D3;have FK:=hs _ _ htr _ (VP.sat_bind ht) e.view w _ (by
        rintro b (hb|⟨k,hb⟩)
        ·exact (hE.apart b hb).2
        ·exact (hE.owned b k hb).2) (hE.glob.step (Step.view w)) (DW (RN hm 40) D3) gU
       have DS:(execOp a.eval ⟨dst,.call ⟨.value f,args,argTypes⟩,type,pos,after,guard⟩).run P w= .ok (.enter g (us++args.toList.map a.eval++us').toArray) w:=by
        have e1:(us++args.toList.map a.eval++us').toArray=us.toArray++args.map a.eval++us'.toArray:=Array.ext' VX;simp only [execOp,resolve,hv,Deferred.ofValue,At,Sem.run_pure,Au,invoke];rw [e1];exact LG PH _ w
       refine HO (λc h=>by cases h) ?_
       unfold Oper.wp;rw [DS,Oper.upon_enter];refine FK.mono λen w' hq=>?_
       obtain ⟨v,rr,rfl,hQ,hb,GN⟩:=hq;have hQ:(rr,none)=val:=hQ;subst hQ;exact hK v w' (S8 hE hm hb GN)
      ·cases hV
     ·cases hV
    ·cases hV
 ·exact sX hXc h ht hE hB hm hid Z hK
theorem Xu9(hG:VN P G)(hXc:(∀p∈X.C,Enters P p.1/\ ∀avs t,p.2 avs=some t->UQ P p.1 avs t)/\(∀p∈X.F,Enters P p.1/\ ∀avs ns T sz n g,p.2 avs=some (ns,T,sz,n,g)->(∀q∈ns,q)->DR P p.1 avs T sz n g)/\ ∀p∈X.D,Enters P p.1/\ ∀avs t,p.2 avs=some t->PO P p.1 avs t)(jO:rA s0.σ.length ops.toList ops.toList 0=true){mm:Nat}(D3:P3 P G X ops.toList (HF ops.toList []) s0.σ s0.m s0.nx mm W dec)(HZ:W.length=mm)(hmm:mm<=ops.size)(rN: ∀p∈s0.m,p.1<s0.nx)(hAk:Zc5 s0.nx s0.m W){L:Array Bool}{a:Act}{w:World}{i:Nat}{Q:Exit->Act->World->Prop}
  (hI:uN ops c w0 T s0 W mm L a w)(O:i∈Region.ready .any ops L)(him:i<mm){ro:Option Nat}{n:Nat}:wpOpIn (fr ro) n P ops Q i (λa' w'=>uN ops c w0 T s0 W mm (L.setIfInBounds i true) a' w') a w:=by
 obtain ⟨hin,hun,o,ho,gX⟩:=HV O;obtain ⟨e,hE,hB,hm0,vI,vG,qA,j8,qT⟩:=hI.rel;have hoL:ops.toList[i]? =some o:=by simpa using ho
 have hni: ¬inS L i:=BY (by rw [hI.size];exact hin) hun
 have s7: ∀k,((HF ops.toList []).getD i 0).testBit k=true->inS L k:=λk hk=>wK hI.dc i o hoL gX k hk
 have Qe7: ∀k,((HF ops.toList []).getD k 0).testBit i=true-> ¬inS L k:=by
  intro k hk hin';rcases An k ops.size with hkn|hkn
  ·have hok:ops.toList[k]? =some ops[k]:=by simp [hkn]
   exact hni (wK hI.dc k _ hok (hI.dc k _ hok hin') i hk)
  ·have:L.getD k false=false:=by
    rw [L9,Array.getElem?_eq_none (by rw [hI.size];exact hkn)];rfl
   unfold inS at hin';rw [this] at hin';cases hin'
 obtain ⟨dec',hdec',yX⟩:=D3.2 i o VM hoL
 -- what the operands are
 have NA: ∀k,inS L k-> ∀t v,DH t ops.toList 0=some k->a.tmps[t]? =some v->Rep e w ((W.getD k DG).val) v:=by
  intro k hk t v hwt hv;have:=qT t v hv;unfold FA at this;rw [hwt] at this;simp only at this;rw [if_pos (show L.getD k false=true from hk)] at this;exact this
 have hσ: ∀t v,a.tmps[t]? =some v->(∀k,DH t ops.toList 0=some k-> ¬inS L k)->Rep e w (s0.σ.getD t .top) v:=by
  intro t v hv hno;have:=qT t v hv;unfold FA at this;cases hwt:DH t ops.toList 0 with
  |none=>rw [hwt] at this;exact this
  |some k=>rw [hwt] at this;simp only at this;rw [if_neg (show ¬L.getD k false=true from hno k hwt)] at this;exact this
 have kO: ∀k,k<i->(W.take i).getD k DG=W.getD k DG:=by
  intro k hk;simp [List.getD,hk]
 have hρ: ∀x,Rep e w (LR ops.toList (HF ops.toList []) s0.σ (W.take i) dec' i x) (a.eval x):=by
  intro x;cases x with
  |tmp t=>
   simp only [Act.eval];cases hv:a.tmps[t]? with
   |none=>
    have hge:s0.σ.length<=t:=by
     rw [←j8];rcases An t a.tmps.size with h'|h'
     ·rw [Array.getElem?_eq_getElem h'] at hv;cases hv
     ·exact h'
    have h0:s0.σ.getD t .top= .top:=by rw [List.getD,Br hge];rfl
    rw [L9,hv];simp only [LR];split
    ·rw [h0];exact .top _
    ·rename_i k hwt;obtain ⟨_,o',ho',hd'⟩:=RG hwt;have:=((PC jO k o' (by simpa using ho')).1 t hd').2
     omega
   |some v=>
    rw [L9,hv];simp only [GX,LR];split
    ·rename_i hwt;exact hσ t v hv (λk hk=>by rw [hwt] at hk;cases hk)
    ·rename_i k hwt;split
     ·rename_i hb;have hk:=s7 k hb;have Z:=NA k hk t v hwt hv;simp only [Qu5];cases hld:RT dec' k with
      |some d=>
       have:=(D3.1 k d (hdec' k d hld)).2;rw [this] at Z;exact Z.litOf
      |none=>
       rcases An k i with hki|hki
       ·rw [kO k hki];exact Z
       ·have:(W.take i).getD k DG=DG:=by rw [List.getD,Br (by simp;omega)];rfl
        rw [this];exact .top _
     ·rename_i hb;split
      ·rename_i hb2;refine hσ t v hv (λk' hk'=>?_)
       rw [hwt] at hk';cases hk';simp only [Bl] at hb2;rcases hb2 with h2|h2
       ·rw [H2 h2];exact hni
       ·exact Qe7 k h2
      ·exact .top _
  |const v=>exact rT v
  |global g=>exact .x _
  |func f=>exact .fn (.func f) [] [] [] [] rfl (λi a v h=>by simp at h) rfl (λi a v h=>by simp at h)
 have Wq3: ¬e.live (s0.nx+i):=by
  intro hl;rcases vG _ hl with h|⟨i',h1,h2⟩
  ·omega
  ·have:i'=i:=VM;subst this;exact hni h1
 have lC: ∀i' c' j' r',W[i']? =some c'->c'.upd=some (j',r')->OC (HF ops.toList []) mm i' j'=true:=by
  intro i' c' j' r' h1 h2;exact Wb6 D3 h1 (by have:=(FW.1 h1).1;simp;omega) h2
 have heat: ∀i' c' j',W[i']? =some c'->c'.eat=some j'->Qu4 (HF ops.toList []) mm i' j'=true:=by
  intro i' c' j' h1 h2;exact Wv4 D3 h1 (by have:=(FW.1 h1).1;simp;omega) h2
 have Ji3: ∀j',((HF ops.toList []).getD i 0).testBit j'=true-> ∀i' c' r',inS L i'->W[i']? =some c'->c'.upd≠some (j',r'):=by
  intro j' hj' i' c' r' hi' hc' hu;have:=(PY (lC i' c' j' r' hc' hu)).2.2 i him (λhe=>hni (he▸hi'))
  rw [this] at hj';cases hj'
 have hmi:UX e (FV s0.nx ((HF ops.toList []).getD i 0) (W.take i) (W.take i) 0++s0.m) w:=by
  intro p hp;rcases List.mem_append.1 hp with hp|hp
  ·obtain ⟨j,c,h1,h2,h3,h4,h5⟩:=M9 hp;simp only [Ap] at h2 h3 h5;have hj:W[j]? =some c:=by
    rw [List.getElem?_take] at h1;split at h1
    ·exact h1
    ·cases h1
   rw [h3];have Zo4: ∀i' ci,inS L i'->W[i']? =some ci->ci.eat≠some j:=by
    intro i' ci hi' hci he;have hne:i≠i':=λhq=>hni (hq▸hi')
    obtain ⟨g1,g2⟩:=(Qu3 (heat i' ci j hci he)).2.2 i him hne h2;have:(W.take i)[i']? =some ci:=by rw [List.getElem?_take,if_pos g2];exact hci
    rw [rS (k0:=0) this he (by simpa using g1)] at h5
    cases h5
   obtain ⟨r'',hh,_,hk⟩:=vI j c (s7 j h2) hj _ h4 Zo4;rw [hk (Ji3 j h2)] at hh;exact hh
  ·exact hm0 p hp
 have Xl4: ∀(q:Nat) (c:HQ) (res r'':GS),W[q]? =some c->c.add=some res->(∀i ci r',inS L i->W[i]? =some ci->ci.upd=some (q,r')->r''=r')->((∀i ci r',inS L i->W[i]? =some ci->ci.upd≠some (q,r'))->r''=res)->(∀k,s0.nx<=k->HY k r''=false)/\(∀k,HY k r''=true->HY k res=true):=by
  intro q c res r'' hc F3 hk1 hk2;rcases Classical.em (∀i ci r',inS L i->W[i]? =some ci->ci.upd≠some (q,r')) with h|h
  ·obtain rfl:=hk2 h;refine ⟨λk hk=>?_,λ_ h=>h⟩
   cases hq:HY k r'' with
   |false=>rfl
   |true=>have:=hAk.low q c _ k hc F3 hq;omega
  ·have hex: ∃i ci r',inS L i/\W[i]? =some ci/\ci.upd=some (q,r'):=by
    apply Classical.byContradiction;intro hno;exact h (λi ci r' h1 h2 h3=>hno ⟨i,ci,r',h1,h2,h3⟩)
   obtain ⟨i,ci,r',h1,h2,h3⟩:=hex;obtain rfl:=hk1 i ci r' h1 h2 h3;have:=hAk.upd i ci _ _ h2 h3;exact ⟨λk _=>zF this k,λk h=>by rw [zF this k] at h;cases h⟩
 have hiL:i<L.size:=by rw [hI.size];exact hin
 have hoi:W[i]? =some (W.getD i DG):=by
  have:i<W.length:=VM;simp [List.getD,D4 this]
 -- the new frame
 have fin:(W.getD i DG).upd=none-> ∀v w',LP e w0.heap.size w (FV s0.nx ((HF ops.toList []).getD i 0) (W.take i) (W.take i) 0++s0.m) (s0.nx+i) (W.getD i DG).val (W.getD i DG).add v w'->uN ops c w0 T s0 W mm (L.setIfInBounds i true) (a.put o.dst v) w':=by
  rintro Xl2 v w' ⟨e',hb,st,hE',HA,GN,hm',hlv,hro⟩;refine ⟨by simp [hI.size],?_,?_,e',hE',hB.trans (hb.mono hB.size),?_,?_,?_,⟨λb hT=>⟨(qA.1 b hT).1,λh=>?_⟩,by rw [put_defers];exact qA.2.step st⟩,?_,?_⟩
  ·intro k o' ho' hk j hj;rw [US hiL] at hk ⊢;rcases hk with rfl|hk
   ·rw [hoL] at ho';cases ho';exact .inr (gX j hj)
   ·exact .inr (hI.dc k o' ho' hk j hj)
  ·intro k hk;rw [US hiL] at hk;rcases hk with rfl|hk
   ·exact him
   ·exact hI.lt k hk
  ·exact hm0.ext hb st HA
  ·intro j c hj hc r Z hne;rw [US hiL] at hj;rcases hj with rfl|hj
   ·rw [hoi] at hc;cases hc;refine ⟨r,hm' (s0.nx+j,r) ?_,?_,λ_=>rfl⟩
    ·rw [Z];exact GJ
    ·intro i' ci r' hi' hci hu;exfalso;rw [US hiL] at hi';rcases hi' with rfl|hi'
     ·rw [hoi] at hci;cases hci;rw [Xl2] at hu;cases hu
     ·exact Qe7 i' (PY (lC i' ci j r' hci hu)).1 hi'
   ·obtain ⟨r'',hh,hk1,hk2⟩:=vI j c hj hc r Z (λi' ci hi'=>hne i' ci ((US hiL).2 (.inr hi')))
    refine ⟨r'',hh.ext hb st HA,?_,λhno=>hk2 (λi' ci r' hi' hci=>hno i' ci r' ((US hiL).2 (.inr hi')) hci)⟩
    intro i' ci r' hi' hci hu;rw [US hiL] at hi';rcases hi' with rfl|hi'
    ·rw [hoi] at hci;cases hci;rw [Xl2] at hu;cases hu
    ·exact hk1 i' ci r' hi' hci hu
  ·intro k hk;rcases hlv k hk with hk|rfl
   ·rcases vG k hk with h|⟨i',h1,h2⟩
    ·exact .inl h
    ·exact .inr ⟨i',(US hiL).2 (.inr h1),h2⟩
   ·exact .inr ⟨i,(US hiL).2 (.inl rfl),rfl⟩
  ·rcases hro b h with h|h
   ·exact (qA.1 b hT).2 h
   ·have:=(qA.1 b hT).1;have:=hB.size;omega
  ·cases hd:o.dst with
   |none=>exact j8
   |some d=>simp [Act.put,j8]
  ·intro t u hu;have other:o.dst≠some t->a.tmps[t]? =some u->Rep e' w' (FA ops.toList s0.σ W (L.setIfInBounds i true) t) u:=by
    intro hne hu';have:=(qT t u hu').step st;unfold FA at this ⊢;cases hwt:DH t ops.toList 0 with
    |none=>rw [hwt] at this;exact this
    |some k=>
     rw [hwt] at this;simp only at this ⊢;have hki:k≠i:=by
      rintro rfl;obtain ⟨_,o',ho',hd'⟩:=RG hwt;simp only [Nat.sub_zero] at ho';rw [hoL] at ho';cases ho';exact hne hd'
     have e1:(L.setIfInBounds i true).getD k false=L.getD k false:=by
      simp [L9,Ne.symm hki]
     rw [e1];exact this
   cases hd:o.dst with
   |none=>rw [hd] at hu;exact other (by rw [hd];simp) hu
   |some d=>
    rw [hd] at hu;simp only [Act.put,Array.getElem?_setIfInBounds] at hu;by_cases hdt:d=t
    ·subst hdt;obtain ⟨hw1,hw2⟩:=(PC jO i o hoL).1 d hd;rw [if_pos rfl,if_pos (by rw [j8];exact hw2)] at hu
     cases hu;unfold FA;rw [hw1];simp only [Ap];rw [if_pos (show (L.setIfInBounds i true).getD i false=true from (US hiL).2 (.inl rfl))];exact GN
    ·rw [if_neg hdt] at hu;exact other (by rw [hd];simpa using hdt) hu
 have guardRun: ∀j want t b,o.guard=some (j,want)->DX ops.toList o=some t->LR ops.toList (HF ops.toList []) s0.σ (W.take i) dec' i (.tmp t)= .lit b->yielded ops a.tmps j=some b:=by
  intro j want t b hg hgs hl;have Z:=hρ (.tmp t);rw [hl] at Z;have hev:=Z.lit_inv;simp only [Act.eval] at hev;have hgt:a.tmps[t]? =some (.bool b):=by
   cases hq:a.tmps[t]? with
   |none=>rw [L9,hq] at hev;simp [undef] at hev
   |some v=>rw [L9,hq] at hev;simpa using hev
  unfold DX at hgs;rw [hg] at hgs;simp only at hgs;split at hgs
  ·rename_i p hp;have hp':ops[j]? =some p:=by simpa using hp
   unfold yielded;simp [hp',hgs,hgt]
  ·cases hgs
 have guardTup: ∀j want t l,o.guard=some (j,want)->DX ops.toList o=some t->LR ops.toList (HF ops.toList []) s0.σ (W.take i) dec' i (.tmp t)= .tup l->yielded ops a.tmps j=none:=by
  intro j want t l hg hgs hl;have Z:=hρ (.tmp t);rw [hl] at Z;obtain ⟨vs,hv,_⟩:=Z.tup_inv;simp only [Act.eval] at hv;unfold DX at hgs;rw [hg] at hgs;simp only at hgs;split at hgs
  ·rename_i p hp;have hp':ops[j]? =some p:=by simpa using hp
   unfold yielded;simp only [hp',hgs,Option.bind_some];cases hq:a.tmps[t]? with
   |none=>rfl
   |some v=>
    rw [L9,hq] at hv;simp only [GX] at hv;subst hv;rfl
  ·cases hgs
 unfold wpOpIn;simp only [ho];rcases yX with ⟨DS,hg⟩|⟨hno,j,want,t,hg,hgs,hl⟩
 ·have hw:Region.wanted o (yielded ops a.tmps)=true:=by
   rcases hg with hg|⟨j,want,t,hg,hgs,hl⟩
   ·simp [Region.wanted,hg]
   ·simp [Region.wanted,hg,guardRun j want t want hg hgs hl]
  rw [if_pos hw];rcases DS with ⟨ns,Xm3,Xl2,_,hns⟩|⟨ns,j,r,hst,gY,hns⟩|⟨ns,val,r,eat,hap,gY,hns⟩|⟨tC,valC,hcd,Wq1,Jh7⟩|⟨ns,val,eat,hapz,gY,hns⟩|⟨ns,val,r,hape,gY,hns⟩
  rotate_left 3
  ·have hu:(W.getD i DG).upd=none:=by rw [Wq1]
   have hv:(W.getD i DG).val=valC.1:=by rw [Wq1]
   have hd:(W.getD i DG).add=valC.2:=by rw [Wq1]
   have fin':=fin hu;rw [hv,hd] at fin';exact sW hXc hcd Jh7 hE hB.size hmi Wq3 hρ fin'
  ·-- an append whose result nobody writes
   obtain ⟨v0,T0,sz0,n0,f0,hap,Jh3⟩:=SF hapz;subst Jh3;obtain ⟨cc,s,x,t,tl,hop,hU,hca,hta,IB,Wq7⟩:=yS hap;obtain ⟨callee,cargs,cats⟩:=cc;simp only at hU hca hta;have hca':cargs=#[s,x]:=Array.ext' (by simpa using hca)
   have hta':cats=#[t,t]:=Array.ext' (by simpa using hta)
   subst hca';subst hta';subst hU;obtain ⟨u,w',DS,⟨e1,fD,st1,hE1,gW,hF,hlv1,hro1⟩,_⟩:=qQ (P:=P) (ty:=o.type) IB hns hE hB.size hmi Wq3 (hρ s) (hρ x);obtain rfl:=TY IB;have lB:GK e1 w' (s0.nx+i) (.row T0 sz0 n0 f0):=hF _ _ (.inl ⟨⟨_,rfl⟩,rfl⟩);have GN:Rep (e1.sol (s0.nx+i)) w' (.lst sz0 n0 f0) u:=by
    cases gW with
    |row _ a n c hl hv=>
     rw [←hv];exact eF hE1 lB (λ_ h=> .inl h) (λ_ h=> .inr h)
   obtain ⟨e',he'⟩: ∃e',e'=e1.sol (s0.nx+i):=⟨_,rfl⟩;have st:Step e e' w w':=by rw [he'];exact st1.trans (Step.sol e1 _ w')
   have hE':G4 e' w0.heap.size w':=by rw [he'];exact hE1.sol _
   rw [←he'] at GN;have hlv: ∀k,e'.live k->e.live k\/k=s0.nx+i:=by rw [he'];exact hlv1
   have hro: ∀b,e'.ro b->e.ro b\/w0.heap.size<=b:=by
    intro b hb;rw [he'] at hb;rcases hb with hb|hb
    ·exact .inl (hro1 b hb)
    ·exact .inr (hE1.owned b _ hb).1
   have xY: ∀(k:Nat) (res:GS),(k≠s0.nx+i/\HY (s0.nx+i) res=false)->(∀j,eat=some j->k≠s0.nx+j/\HY (s0.nx+j) res=false)->GK e w k res->GK e' w' k res:=by
    intro k res hki hk hh;rw [he'];refine GK.sol hki ?_;refine hF k res (.inr ⟨hh,λq hq=>?_⟩)
    rcases Wq7 with ⟨j,h1,h2,_⟩|⟨_,v,h2⟩
    ·rw [h2] at hq;cases hq;exact hk j h1
    ·rw [h2] at hq;cases hq
   have hout':W[i]? =some ⟨.lst sz0 n0 f0,none,none,eat⟩:=by rw [hoi,gY]
   have hnew':uN ops c w0 T s0 W mm (L.setIfInBounds i true) (a.put o.dst u) w':=by
    refine ⟨by simp [hI.size],?_,?_,e',hE',hB.trans fD,?_,?_,?_,⟨λb hT=>⟨(qA.1 b hT).1,λh=>?_⟩,by rw [put_defers];exact qA.2.step st⟩,?_,?_⟩
    ·intro k o' ho' hk q hq;rw [US hiL] at hk ⊢;rcases hk with rfl|hk
     ·rw [hoL] at ho';cases ho';exact .inr (gX q hq)
     ·exact .inr (hI.dc k o' ho' hk q hq)
    ·intro k hk;rw [US hiL] at hk;rcases hk with rfl|hk
     ·exact him
     ·exact hI.lt k hk
    ·intro p hp;exact xY p.1 p.2 ⟨by have:=rN p hp;omega,zF (hAk.m0 p hp) _⟩ (λj _=>⟨by have:=rN p hp;omega,zF (hAk.m0 p hp) _⟩) (hm0 p hp)
    ·intro q c hq hc res F3 hne;rw [US hiL] at hq;rcases hq with rfl|hq
     ·rw [hout'] at hc;cases hc;cases F3
     ·obtain ⟨r'',hh,hk1,hk2⟩:=vI q c hq hc res F3 (λi' ci hi'=>hne i' ci ((US hiL).2 (.inr hi')))
      have hqi:q≠i:=λh=>hni (h▸hq)
      have hna:=(Xl4 q c res r'' hc F3 hk1 hk2).1;refine ⟨r'',xY _ _ ⟨VM,hna _ VM⟩ (λj hj=>⟨λhe=>?_,hna _ VM⟩) hh,?_,λhno=>hk2 (λi' ci r' hi' hci=>hno i' ci r' ((US hiL).2 (.inr hi')) hci)⟩
      ·have hqj:q=j:=VM;exact hne i _ ((US hiL).2 (.inl rfl)) hout' (by rw [hqj];exact hj)
      ·intro i' ci r' hi' hci hu;rw [US hiL] at hi';rcases hi' with rfl|hi'
       ·rw [hout'] at hci;cases hci;cases hu
       ·exact hk1 i' ci r' hi' hci hu
    ·intro k hk;rcases hlv k hk with hk|rfl
     ·rcases vG k hk with h|⟨i',h1,h2⟩
      ·exact .inl h
      ·exact .inr ⟨i',(US hiL).2 (.inr h1),h2⟩
     ·exact .inr ⟨i,(US hiL).2 (.inl rfl),rfl⟩
    ·rcases hro b h with h|h
     ·exact (qA.1 b hT).2 h
     ·have:=(qA.1 b hT).1;omega
    ·cases hd:o.dst with
     |none=>exact j8
     |some d=>simp [Act.put,j8]
    ·intro q v hu;have other:o.dst≠some q->a.tmps[q]? =some v->Rep e' w' (FA ops.toList s0.σ W (L.setIfInBounds i true) q) v:=by
      intro hne hu';have:=(qT q v hu').step st;unfold FA at this ⊢;cases hwt:DH q ops.toList 0 with
      |none=>rw [hwt] at this;exact this
      |some k=>
       rw [hwt] at this;simp only at this ⊢;have hki:k≠i:=by
        rintro rfl;obtain ⟨_,o',ho',hd'⟩:=RG hwt;simp only [Nat.sub_zero] at ho';rw [hoL] at ho';cases ho';exact hne hd'
       have e1:(L.setIfInBounds i true).getD k false=L.getD k false:=by
        simp [L9,Ne.symm hki]
       rw [e1];exact this
     cases hd:o.dst with
     |none=>rw [hd] at hu;exact other (by rw [hd];simp) hu
     |some d=>
      rw [hd] at hu;simp only [Act.put,Array.getElem?_setIfInBounds] at hu;by_cases hdt:d=q
      ·subst hdt;obtain ⟨hw1,hw2⟩:=(PC jO i o hoL).1 d hd;rw [if_pos rfl,if_pos (by rw [j8];exact hw2)] at hu
       cases hu;unfold FA;rw [hw1];simp only [Ap];rw [if_pos (show (L.setIfInBounds i true).getD i false=true from (US hiL).2 (.inl rfl)),gY];exact GN
      ·rw [if_neg hdt] at hu;exact other (by rw [hd];simpa using hdt) hu
   refine HO (λc h=>by rw [hop] at h;cases h) ?_
   refine D7 (v:=u) (w':=w') ?_ hnew';obtain ⟨dst,op,type,pos,after,guard⟩:=o;simp only at hop;subst hop;simp [execOp,resolve,invoke,builtin,DS]
  ·-- an append to a row that stays
   obtain ⟨cc,s,x,t,q0,hop,hU,hca,hta,hsq,hq0,rfl,IB⟩:=Qw2 hape;obtain ⟨callee,cargs,cats⟩:=cc;simp only at hU hca hta;have hca':cargs=#[s,x]:=Array.ext' (by simpa using hca)
   have hta':cats=#[t,t]:=Array.ext' (by simpa using hta)
   subst hca';subst hta';subst hU;have rs:=hρ s;rw [hsq] at rs;obtain ⟨T0,sz0,n0,f0,hr0,hmq,u,w',DS,⟨e',fD,st,hE',GN,hF,hlv,hro⟩⟩:=A5 (P:=P) (ty:=o.type) IB hns hE hB.size hmi Wq3 rs (hρ x);subst hr0;have xY: ∀(k:Nat) (res:GS),(k=q0->gA T0 sz0 res=true)->HY q0 res=false->GK e w k res->GK e' w' k res:=by
    intro k res hk1 hk2 hh;exact hF k res (.inr ⟨hh,hk1,hk2⟩)
   have lB:GK e' w' (s0.nx+i) (.aka q0 T0 sz0 n0 f0):=hF _ _ (.inl ⟨rfl,rfl⟩);have hout':W[i]? =some ⟨.row (s0.nx+i),some (.aka q0 T0 sz0 n0 f0),none,none⟩:=by rw [hoi,gY]
   have hnew':uN ops c w0 T s0 W mm (L.setIfInBounds i true) (a.put o.dst u) w':=by
    refine ⟨by simp [hI.size],?_,?_,e',hE',hB.trans fD,?_,?_,?_,⟨λb hT=>⟨(qA.1 b hT).1,λh=>(qA.1 b hT).2 (hro b h)⟩,by rw [put_defers];exact qA.2.step st⟩,?_,?_⟩
    ·intro k o' ho' hk q hq;rw [US hiL] at hk ⊢;rcases hk with rfl|hk
     ·rw [hoL] at ho';cases ho';exact .inr (gX q hq)
     ·exact .inr (hI.dc k o' ho' hk q hq)
    ·intro k hk;rw [US hiL] at hk;rcases hk with rfl|hk
     ·exact him
     ·exact hI.lt k hk
    ·intro p hp;have hq:=hmq p (As _ hp);exact xY p.1 p.2 hq.1 hq.2 (hm0 p hp)
    ·intro q c hq hc res F3 hne;rw [US hiL] at hq;rcases hq with rfl|hq
     ·rw [hout'] at hc;cases hc;cases F3;refine ⟨_,lB,?_,λ_=>rfl⟩
      intro i' ci r' hi' hci hu;exfalso;rw [US hiL] at hi';rcases hi' with rfl|hi'
      ·rw [hout'] at hci;cases hci;cases hu
      ·exact Qe7 i' (PY (lC i' ci q r' hci hu)).1 hi'
     ·obtain ⟨r'',hh,hk1,hk2⟩:=vI q c hq hc res F3 (λi' ci hi'=>hne i' ci ((US hiL).2 (.inr hi')))
      have hna:=(Xl4 q c res r'' hc F3 hk1 hk2).2;have hqi:q≠i:=λh=>hni (h▸hq)
      have hqa:HY q0 r''=false:=by
       cases h5:HY q0 r'' with
       |false=>rfl
       |true=>exact absurd (hAk.one q i c _ res _ q0 hc hout' F3 rfl (hna q0 h5) (Nat.beq_refl q0)) hqi
      refine ⟨r'',xY _ _ (λh=>VM) hqa hh,?_,λhno=>hk2 (λi' ci r' hi' hci=>hno i' ci r' ((US hiL).2 (.inr hi')) hci)⟩
      ·intro i' ci r' hi' hci hu;rw [US hiL] at hi';rcases hi' with rfl|hi'
       ·rw [hout'] at hci;cases hci;cases hu
       ·exact hk1 i' ci r' hi' hci hu
    ·intro k hk;rcases hlv k hk with hk|rfl
     ·rcases vG k hk with h|⟨i',h1,h2⟩
      ·exact .inl h
      ·exact .inr ⟨i',(US hiL).2 (.inr h1),h2⟩
     ·exact .inr ⟨i,(US hiL).2 (.inl rfl),rfl⟩
    ·cases hd:o.dst with
     |none=>exact j8
     |some d=>simp [Act.put,j8]
    ·intro q v hu;have other:o.dst≠some q->a.tmps[q]? =some v->Rep e' w' (FA ops.toList s0.σ W (L.setIfInBounds i true) q) v:=by
      intro hne hu';have:=(qT q v hu').step st;unfold FA at this ⊢;cases hwt:DH q ops.toList 0 with
      |none=>rw [hwt] at this;exact this
      |some k=>
       rw [hwt] at this;simp only at this ⊢;have hki:k≠i:=by
        rintro rfl;obtain ⟨_,o',ho',hd'⟩:=RG hwt;simp only [Nat.sub_zero] at ho';rw [hoL] at ho';cases ho';exact hne hd'
       have e1:(L.setIfInBounds i true).getD k false=L.getD k false:=by
        simp [L9,Ne.symm hki]
       rw [e1];exact this
     cases hd:o.dst with
     |none=>rw [hd] at hu;exact other (by rw [hd];simp) hu
     |some d=>
      rw [hd] at hu;simp only [Act.put,Array.getElem?_setIfInBounds] at hu;by_cases hdt:d=q
      ·subst hdt;obtain ⟨hw1,hw2⟩:=(PC jO i o hoL).1 d hd;rw [if_pos rfl,if_pos (by rw [j8];exact hw2)] at hu
       cases hu;unfold FA;rw [hw1];simp only [Ap];rw [if_pos (show (L.setIfInBounds i true).getD i false=true from (US hiL).2 (.inl rfl)),gY];exact GN
      ·rw [if_neg hdt] at hu;exact other (by rw [hd];simpa using hdt) hu
   refine HO (λc h=>by rw [hop] at h;cases h) ?_
   refine D7 (v:=u) (w':=w') ?_ hnew';obtain ⟨dst,op,type,pos,after,guard⟩:=o;simp only at hop;subst hop;simp [execOp,resolve,invoke,builtin,DS]
  ·exact HO (gJ Xm3) (SG hG Xm3 hns hE hB.size hmi Wq3 hρ (fin Xl2))
  ·-- a store into a block that the region has laid
   obtain ⟨t,x,y,off,m',hop,hx,hln,IB,hgm⟩:=rC hst;obtain ⟨hl1,hl2,hl3⟩:=PY hln;have rx:=hρ x;rw [hx] at rx;obtain ⟨w',DS,HA,hsz,L0,fD,hm'⟩:=rI (P:=P) IB hns hE hmi rx (hρ y);have st:=F8 hE HA hsz L0;have hE':=L5 hE hsz st;have xY: ∀(k:Nat) (res:GS),(k≠s0.nx+j/\HY (s0.nx+j) res=false)->GK e w k res->GK e w' k res:=λk res hne hh=>P7 hE HA hsz L0 hne hh
   have hjS:=s7 j hl1;have hnew':uN ops c w0 T s0 W mm (L.setIfInBounds i true) (a.put o.dst undef) w':=by
    refine ⟨by simp [hI.size],?_,?_,e,hE',hB.trans fD,?_,?_,?_,⟨qA.1,by rw [put_defers];exact qA.2.step st⟩,?_,?_⟩
    ·intro k o' ho' hk q hq;rw [US hiL] at hk ⊢;rcases hk with rfl|hk
     ·rw [hoL] at ho';cases ho';exact .inr (gX q hq)
     ·exact .inr (hI.dc k o' ho' hk q hq)
    ·intro k hk;rw [US hiL] at hk;rcases hk with rfl|hk
     ·exact him
     ·exact hI.lt k hk
    ·intro p hp;exact xY p.1 p.2 ⟨by have:=rN p hp;omega,zF (hAk.m0 p hp) _⟩ (hm0 p hp)
    ·intro q c hq hc res F3 hne;rw [US hiL] at hq;have hqS:inS L q:=by
      rcases hq with rfl|hq
      ·rw [hoi,gY] at hc;cases hc;cases F3
      ·exact hq
     obtain ⟨r'',hh,hk1,hk2⟩:=vI q c hqS hc res F3 (λi' ci hi'=>hne i' ci ((US hiL).2 (.inr hi')))
     by_cases hqj:q=j
     ·subst hqj;refine ⟨r,hm' (s0.nx+q,r) (G0 hgm),?_,?_⟩
      ·intro i' ci r' hi' hci hu;by_cases hii:i'=i
       ·subst hii;rw [hoi,gY] at hci;cases hci;simp only [HH,FE] at hu;exact hu.2
       ·exfalso;have:=(PY (lC i' ci q r' hci hu)).2.2 i him (λhe=>hii he.symm)
        rw [this] at hl1;cases hl1
      ·intro hno;exact absurd (show (W.getD i DG).upd=some (q,r) by rw [gY]) (hno i _ r ((US hiL).2 (.inl rfl)) hoi)
     ·refine ⟨r'',xY _ _ ⟨VM,(Xl4 q c res r'' hc F3 hk1 hk2).1 _ VM⟩ hh,?_,λhno=>hk2 (λi' ci r' hi' hci=>hno i' ci r' ((US hiL).2 (.inr hi')) hci)⟩
      intro i' ci r' hi' hci hu;rw [US hiL] at hi';rcases hi' with rfl|hi'
      ·rw [hoi,gY] at hci;cases hci;simp only [HH,FE] at hu;exact absurd hu.1.symm hqj
      ·exact hk1 i' ci r' hi' hci hu
    ·intro k hk;rcases vG k hk with h|⟨i',h1,h2⟩
     ·exact .inl h
     ·exact .inr ⟨i',(US hiL).2 (.inr h1),h2⟩
    ·cases hd:o.dst with
     |none=>exact j8
     |some d=>simp [Act.put,j8]
    ·intro q u hu;have other:o.dst≠some q->a.tmps[q]? =some u->Rep e w' (FA ops.toList s0.σ W (L.setIfInBounds i true) q) u:=by
      intro hne hu';have:=(qT q u hu').step st;unfold FA at this ⊢;cases hwt:DH q ops.toList 0 with
      |none=>rw [hwt] at this;exact this
      |some k=>
       rw [hwt] at this;simp only at this ⊢;have hki:k≠i:=by
        rintro rfl;obtain ⟨_,o',ho',hd'⟩:=RG hwt;simp only [Nat.sub_zero] at ho';rw [hoL] at ho';cases ho';exact hne hd'
       have e1:(L.setIfInBounds i true).getD k false=L.getD k false:=by
        simp [L9,Ne.symm hki]
       rw [e1];exact this
     cases hd:o.dst with
     |none=>rw [hd] at hu;exact other (by rw [hd];simp) hu
     |some d=>
      rw [hd] at hu;simp only [Act.put,Array.getElem?_setIfInBounds] at hu;by_cases hdt:d=q
      ·subst hdt;obtain ⟨hw1,hw2⟩:=(PC jO i o hoL).1 d hd;unfold FA;rw [hw1];simp only [Ap];rw [if_pos (show (L.setIfInBounds i true).getD i false=true from (US hiL).2 (.inl rfl)),gY];exact .top _
      ·rw [if_neg hdt] at hu;exact other (by rw [hd];simpa using hdt) hu
   refine HO (λc h=>by rw [hop] at h;cases h) ?_
   unfold Oper.wp;have hex:(execOp a.eval o).run P w= .ok .skip w':=by
    obtain ⟨dst,op,type,pos,after,guard⟩:=o;simp only at hop;subst hop;simp [execOp,DS]
   rw [hex];exact hnew'
  ·-- an append
   obtain ⟨cc,s,x,t,tl,hop,hU,hca,hta,IB,Wq7⟩:=yS hap;obtain ⟨callee,cargs,cats⟩:=cc;simp only at hU hca hta;have hca':cargs=#[s,x]:=Array.ext' (by simpa using hca)
   have hta':cats=#[t,t]:=Array.ext' (by simpa using hta)
   subst hca';subst hta';subst hU;obtain ⟨u,w',DS,⟨e',fD,st,hE',GN,hF,hlv,hro⟩,_⟩:=qQ (P:=P) (ty:=o.type) IB hns hE hB.size hmi Wq3 (hρ s) (hρ x);have xY: ∀(k:Nat) (res:GS),(∀j,eat=some j->k≠s0.nx+j/\HY (s0.nx+j) res=false)->GK e w k res->GK e' w' k res:=by
    intro k res hk hh;refine hF k res (.inr ⟨hh,λq hq=>?_⟩)
    rcases Wq7 with ⟨j,h1,h2,_⟩|⟨_,v,h2⟩
    ·rw [h2] at hq;cases hq;exact hk j h1
    ·rw [h2] at hq;cases hq
   have lB:GK e' w' (s0.nx+i) r:=hF _ _ (.inl ⟨⟨_,rfl⟩,rfl⟩);have hout':W[i]? =some ⟨val,some r,none,eat⟩:=by rw [hoi,gY]
   have hnew':uN ops c w0 T s0 W mm (L.setIfInBounds i true) (a.put o.dst u) w':=by
    refine ⟨by simp [hI.size],?_,?_,e',hE',hB.trans fD,?_,?_,?_,⟨λb hT=>⟨(qA.1 b hT).1,λh=>(qA.1 b hT).2 (hro b h)⟩,by rw [put_defers];exact qA.2.step st⟩,?_,?_⟩
    ·intro k o' ho' hk q hq;rw [US hiL] at hk ⊢;rcases hk with rfl|hk
     ·rw [hoL] at ho';cases ho';exact .inr (gX q hq)
     ·exact .inr (hI.dc k o' ho' hk q hq)
    ·intro k hk;rw [US hiL] at hk;rcases hk with rfl|hk
     ·exact him
     ·exact hI.lt k hk
    ·intro p hp;exact xY p.1 p.2 (λj _=>⟨by have:=rN p hp;omega,zF (hAk.m0 p hp) _⟩) (hm0 p hp)
    ·intro q c hq hc res F3 hne;rw [US hiL] at hq;rcases hq with rfl|hq
     ·rw [hout'] at hc;cases hc;cases F3;refine ⟨r,lB,?_,λ_=>rfl⟩
      intro i' ci r' hi' hci hu;exfalso;rw [US hiL] at hi';rcases hi' with rfl|hi'
      ·rw [hout'] at hci;cases hci;cases hu
      ·exact Qe7 i' (PY (lC i' ci q r' hci hu)).1 hi'
     ·obtain ⟨r'',hh,hk1,hk2⟩:=vI q c hq hc res F3 (λi' ci hi'=>hne i' ci ((US hiL).2 (.inr hi')))
      have hna:=(Xl4 q c res r'' hc F3 hk1 hk2).1;refine ⟨r'',xY _ _ (λj hj=>⟨λhe=>?_,hna _ VM⟩) hh,?_,λhno=>hk2 (λi' ci r' hi' hci=>hno i' ci r' ((US hiL).2 (.inr hi')) hci)⟩
      ·have hqj:q=j:=VM;exact hne i _ ((US hiL).2 (.inl rfl)) hout' (by rw [hqj];exact hj)
      ·intro i' ci r' hi' hci hu;rw [US hiL] at hi';rcases hi' with rfl|hi'
       ·rw [hout'] at hci;cases hci;cases hu
       ·exact hk1 i' ci r' hi' hci hu
    ·intro k hk;rcases hlv k hk with hk|rfl
     ·rcases vG k hk with h|⟨i',h1,h2⟩
      ·exact .inl h
      ·exact .inr ⟨i',(US hiL).2 (.inr h1),h2⟩
     ·exact .inr ⟨i,(US hiL).2 (.inl rfl),rfl⟩
    ·cases hd:o.dst with
     |none=>exact j8
     |some d=>simp [Act.put,j8]
    ·intro q v hu;have other:o.dst≠some q->a.tmps[q]? =some v->Rep e' w' (FA ops.toList s0.σ W (L.setIfInBounds i true) q) v:=by
      intro hne hu';have:=(qT q v hu').step st;unfold FA at this ⊢;cases hwt:DH q ops.toList 0 with
      |none=>rw [hwt] at this;exact this
      |some k=>
       rw [hwt] at this;simp only at this ⊢;have hki:k≠i:=by
        rintro rfl;obtain ⟨_,o',ho',hd'⟩:=RG hwt;simp only [Nat.sub_zero] at ho';rw [hoL] at ho';cases ho';exact hne hd'
       have e1:(L.setIfInBounds i true).getD k false=L.getD k false:=by
        simp [L9,Ne.symm hki]
       rw [e1];exact this
     cases hd:o.dst with
     |none=>rw [hd] at hu;exact other (by rw [hd];simp) hu
     |some d=>
      rw [hd] at hu;simp only [Act.put,Array.getElem?_setIfInBounds] at hu;by_cases hdt:d=q
      ·subst hdt;obtain ⟨hw1,hw2⟩:=(PC jO i o hoL).1 d hd;rw [if_pos rfl,if_pos (by rw [j8];exact hw2)] at hu
       cases hu;unfold FA;rw [hw1];simp only [Ap];rw [if_pos (show (L.setIfInBounds i true).getD i false=true from (US hiL).2 (.inl rfl)),gY];exact GN
      ·rw [if_neg hdt] at hu;exact other (by rw [hd];simpa using hdt) hu
   refine HO (λc h=>by rw [hop] at h;cases h) ?_
   refine D7 (v:=u) (w':=w') ?_ hnew';obtain ⟨dst,op,type,pos,after,guard⟩:=o;simp only at hop;subst hop;simp [execOp,resolve,invoke,builtin,DS]
 ·have hw: ¬Region.wanted o (yielded ops a.tmps)=true:=by
   cases hv:LR ops.toList (HF ops.toList []) s0.σ (W.take i) dec' i (.tmp t) with
   |lit b=>
    rw [hv] at hl;simp [cZ] at hl;simp [Region.wanted,hg,guardRun j want t b hg hgs hv,hl]
   |tup l=>simp [Region.wanted,hg,guardTup j want t l hg hgs hv]
   |_=>rw [hv] at hl;simp [cZ] at hl
  rw [if_neg hw];refine ⟨λ_ _=>trivial,fin (by rw [hno];rfl) undef w ?_⟩
  rw [hno];exact UO hE hmi (NN _ _)
end
theorem F7.drew{c:Cx}{w0:World}{T:Nat->Prop}{e:UN}{s:St}{a:Act}{w:World}(r:F7 c w0 T e s a w):F7 c w0 T e s a {w with drawn:=w.drawn+1}:=by
 have st:Step e e w {w with drawn:=w.drawn+1}:=⟨λ_ _ h=>⟨h,rfl⟩,λ_ h=>⟨h,rfl,rfl⟩,Am _⟩
 have hb:Below w.heap.size w {w with drawn:=w.drawn+1}:=⟨rfl,rfl,rfl,Am _,λ_ _=>rfl⟩
 exact ⟨⟨r.env.apart,r.env.owned,r.env.glob.step st⟩,r.below.trans (hb.mono r.hB),r.mem.ext hb st (λ_ _ h=>h),r.live,r.foe,r.xt.step st,r.slots.step st⟩
def Zj7{α:Type}(suf:List Oper->St->VP α)(P:Program)(G:List (Nat×Spec))(X:Ext)(ops:List Oper)(s:St):VP α:=
 match rA s.σ.length ops ops 0 with
 |false=> .fail
 |true=>(jR P G X ops (HF ops []) s.σ s.m s.nx (BZ (HF ops []) ops.length) (ops.take (BZ (HF ops []) ops.length)) 0 [] []).bind λp=>match uL s.nx s.m p.1 with
  |false=> .fail
  |true=>suf (ops.drop (BZ (HF ops []) ops.length))
   {s with σ:=d6 ops (BZ (HF ops []) ops.length) p.1 p.2 s.σ 0,m:=RX s.nx p.1 p.1 0++s.m,nx:=s.nx+BZ (HF ops []) ops.length}
section
variable {P:Program}{G:List (Nat×Spec)}{X:Ext}{ops:Array Oper}{c:Cx}{w0:World}{T:Nat->Prop}{s0:St}{W:List HQ}{dec:List (Nat×Bool)}
theorem xI{σ:List AV}{t:Nat}{v:AV}(h:σ[t]? =some v):σ.getD t .top=v:=by simp [List.getD,h]
theorem iS{mm:Nat}(D3:P3 P G X ops.toList (HF ops.toList []) s0.σ s0.m s0.nx mm W dec)(HZ:W.length=mm){L:Array Bool}{a:Act}{w:World}
  (hΦ:c.Φ s0.gh T w0)(hI:uN ops c w0 T s0 W mm L a w)(PG: ∀k,k<mm->inS L k):
  Rel c {s0 with σ:=d6 ops.toList mm W dec s0.σ 0,m:=RX s0.nx W W 0++s0.m,nx:=s0.nx+mm} a w:=by
 obtain ⟨e,hE,hB,hm0,vI,vG,qA,j8,qT⟩:=hI.rel;refine ⟨w0,T,e,hΦ,hE,hB,?_,?_,qA.1,qA.2,?_,?_⟩
 ·intro p hp;rcases List.mem_append.1 hp with hp|hp
  ·obtain ⟨j,c,r,h1,h3,h4,h5,h6⟩:=kZ hp;simp only [Ap] at h3 h5 h6;have hj:j<mm:=by rw [←HZ];exact (FW.1 h1).1
   rw [h3,h5];obtain ⟨r'',hh,hk1,hk2⟩:=vI j c (PG j hj) h1 _ h4 (λi' ci _ hci he=>by rw [fN hci he] at h6;cases h6)
   cases hu:jN W j with
   |some r'=>
    obtain ⟨i',ci,hi',hui⟩:=zI hu;have hi'm:i'<mm:=by rw [←HZ];exact (FW.1 hi').1
    rw [←hk1 i' ci r' (PG i' hi'm) hi' hui];exact hh
   |none=>
    rw [←hk2 (λi' ci r' _ hci=>zJ hu i' ci r' hci)];exact hh
  ·exact hm0 p hp
 ·intro k hk;show k<s0.nx+mm;rcases vG k hk with h|⟨i,h1,h2⟩
  ·omega
  ·have:=hI.lt i h1;omega
 ·rw [wQ];simpa using j8.symm
 ·intro t av v hav hv;rw [IS] at hav;have hv':a.tmps[t]? =some v:=by simpa using hv
  rw [Ay] at hav;obtain ⟨a0,ha0,rfl⟩:=hav;have hs:=qT t v hv';unfold FA at hs;unfold Xm8;simp only [Ap];cases hwt:DH t ops.toList 0 with
  |none=>rw [hwt] at hs;simp only at hs ⊢;rw [xI ha0] at hs;exact hs
  |some k=>
   rw [hwt] at hs;simp only at hs ⊢;split
   ·rename_i hb;have hk:k<mm:=by simpa [Aw] using hb
    rw [if_pos (show L.getD k false=true from PG k hk)] at hs;simp only [Qu5];cases hld:RT dec k with
    |some d=>
     have:=(D3.1 k d hld).2;rw [this] at hs;exact hs.litOf
    |none=>exact hs
   ·rename_i hb;have hk: ¬k<mm:=λh=>by
     have h':Nat.blt k mm=true:=by rw [Aw];exact h
     rw [h'] at hb;cases hb
    rw [if_neg (show ¬L.getD k false=true from λh=>hk (hI.lt k h)),xI ha0] at hs
    exact hs
def Zp6(n k:Nat)(L:Array Bool):Prop:=L.size=n/\ ∀j,inS L j↔j<k
theorem Qx9{ro:Option Nat}{n:Nat}{Q:Exit->Act->World->Prop}{i:Nat}{rest:List Nat}{a:Act}{w:World}(h:wpOpsIn (fr ro) n P ops Q (i::rest) a w):wpOpIn (fr ro) n P ops Q i (wpOpsIn (fr ro) n P ops Q rest) a w:=by
 rwa [wpOpsIn_cons] at h
theorem eM{α:Type}{suf:List Oper->St->VP α}(hG:VN P G)(hX:VZ P X c)(GU:P.follows .mixedOrders=true){s:St}{R:α->Prop}{Q:Exit->Act->World->Prop}(h:(Zj7 suf P G X ops.toList s).sat R){a:Act}{w:World}(r:Rel c s a w){ro:Option Nat}{n:Nat}
  (hsuf: ∀(l:List Oper) (k:Nat),l=ops.toList.drop k-> ∀(s:St) (a:Act) (w:World),(suf l s).sat R->Rel c s a w->wpOpsIn (fr ro) n P ops Q (List.range' k (ops.size-k)) a w):wpAnyIn (fr ro) n P .any ops Q ops.size (Array.replicate ops.size false) a {w with drawn:=w.drawn+1}:=by
 obtain ⟨w0,T,e,hΦ,r⟩:=r;unfold Zj7 at h;split at h
 ·exact h.elim
 rename_i jO;have h2:=VP.sat_bind h;generalize hM:HF ops.toList []=M at h2;generalize hmm:BZ M ops.toList.length=mm at h2;have OQ:mm<=ops.size:=by rw [←hmm];have:=a9 M ops.toList.length;simpa using this
 obtain ⟨W,dec,FL,D3,HZ⟩:=wS (P:=P) (G:=G) (X:=X) (ops:=ops.toList) (M:=M) (σ0:=s.σ) (m0:=s.m) (nx0:=s.nx) (mm:=mm) (ops.toList.take mm) [] [] [] (by simp [Nat.min_eq_left OQ]) rfl h2 ⟨λk d hk=>by simp [RT] at hk,λi o O=>by simp at O⟩
 have hlen':W.length=mm:=by rw [HZ];simp;omega
 subst hM;have AJ: ∀k j,mm<=k->k<ops.size->j<k->((HF ops.toList []).getD k 0).testBit j=true:=by
  intro k j h1 h2 h3;exact IL (kK _ _ k (by rw [hmm];exact h1) (by simpa using h2)) h3
 have sB: ∀k o,ops[k]? =some o-> ∀j∈HX o,j<k:=by
  intro k o ho j hj;have:=(PC jO k o (by simpa using ho)).2 j hj
  simpa using this
 have rN: ∀p∈s.m,p.1<s.nx:=by
  intro p hp;refine r.live p.1 ?_;have:=r.mem p hp;exact this.live
 obtain ⟨Zp2,FL⟩:uL s.nx s.m W=true/\_:=by
  dsimp only at FL
  split at FL
  ·exact FL.elim
  ·rename_i hb;exact ⟨hb,FL⟩
 -- the two phases
 let s1:St:={s with σ:=d6 ops.toList mm W dec s.σ 0,m:=RX s.nx W W 0++s.m,nx:=s.nx+mm}
 let Inv:Array Bool->Act->World->Prop:=λL a w=>(uN ops c w0 T s W mm L a w/\ ∃k,k<mm/\ ¬inS L k)\/(∃k,mm<=k/\k<=ops.size/\Zp6 ops.size k L/\wpOpsIn (fr ro) n P ops Q (List.range' k (ops.size-k)) a w)
 have gV: ∀L a w,uN ops c w0 T s W mm L a w->(∀k,k<mm->inS L k)->Inv L a w:=by
  intro L a w hI PG;refine .inr ⟨mm,Am _,OQ,⟨hI.size,λj=>⟨hI.lt j,PG j⟩⟩,?_⟩
  exact hsuf (ops.toList.drop mm) mm rfl s1 a w FL (iS D3 hlen' hΦ hI PG)
 have yM: ∀(L:Array Bool),L.size=ops.size->Region.ready .any ops L=[]-> ∀k,k<ops.size->inS L k:=by
  intro L hsz Z k
  induction k using Nat.strongRecOn with
  |_ k ih=>
   intro hk;rcases Classical.em (inS L k) with h'|h'
   ·exact h'
   ·exfalso;have gZ:k∈Region.ready .any ops L:=by
     unfold Region.ready;rw [List.mem_filter];refine ⟨List.mem_range.2 hk,?_⟩;have hok:ops[k]? =some ops[k]:=by simp [hk]
     rw [hok];simp only [Bt,GX,HC,Ax];refine ⟨?_,?_⟩
     ·unfold inS at h';simp [L9,hsz,hk] at h' ⊢;exact h'
     ·rw [Array.all_eq_true_iff_forall_mem];intro ed hed;cases hb:Region.binds .any ed with
      |false=>simp
      |true=>
       have hj:ed.on∈HX ops[k]:=by
        simp only [HX,List.mem_map,List.mem_filter];exact ⟨ed,⟨by simpa using hed,hb⟩,rfl⟩
       have hlt:=sB k _ hok _ hj;have:=ih ed.on hlt VM;simpa [inS] using this
    rw [Z] at gZ;cases gZ
 refine AR Inv ?_ ?_ ?_ ops.size _ a _ ?_ ?_
 ·-- a step
  rintro L a w i (⟨hI,k0,hk0,hk0'⟩|⟨k,hk1,hk2,⟨hsz,hfl⟩,hwp⟩) O
  ·obtain ⟨hin,hun,o,ho,gX⟩:=HV O;have him:i<mm:=by
    rcases An i mm with h'|h'
    ·exact h'
    ·exfalso;exact hk0' (wK hI.dc i o (by simpa using ho) gX k0 (AJ i k0 h' hin VM))
   refine wpOpIn_mono (λa' w' hI'=>?_) (Xu9 hG ⟨hX.c,hX.f,hX.d⟩ jO D3 hlen' OQ rN (mK Zp2) hI O him)
   rcases Classical.em (∀k,k<mm->inS (L.setIfInBounds i true) k) with hf|hf
   ·exact gV _ _ _ hI' hf
   ·refine .inl ⟨hI',?_⟩;rcases Classical.not_forall.1 hf with ⟨k,hk⟩
    exact ⟨k,(Classical.not_imp.1 hk).1,(Classical.not_imp.1 hk).2⟩
  ·obtain ⟨hin,hun,o,ho,gX⟩:=HV O;have hni: ¬inS L i:=BY (by rw [hsz];exact hin) hun
   have hki:k<=i:=by
               rcases An i k with h'|h'
               ·exact absurd ((hfl i).2 h') hni
               ·exact h'
   have hdc:DC ops.toList L:=by
    intro k' o' ho' hk' j hj;have:=sB k' o' (by simpa using ho') j hj
    have:=(hfl k').1 hk';exact (hfl j).2 VM
   have hik:i=k:=by
    rcases An k i with h'|h'
    ·exfalso;have:=wK hdc i o (by simpa using ho) gX k (AJ i k VM hin h')
     have:=(hfl k).1 this;omega
    ·omega
   subst hik;have e1:ops.size-i=(ops.size-(i+1))+1:=VM;rw [e1,List.range'_succ] at hwp;refine wpOpIn_mono (λa' w' hwp'=>?_) (Qx9 hwp)
   refine .inr ⟨i+1,VM,hin,⟨by simp [hsz],λj=>?_⟩,hwp'⟩
   rw [US (by rw [hsz];exact hin),hfl]
   omega
 ·rintro L a w (⟨hI,k0,hk0,hk0'⟩|⟨k,hk1,hk2,⟨hsz,hfl⟩,hwp⟩) Z
  ·exact absurd (yM L hI.size Z k0 VM) hk0'
  ·have hkn:k=ops.size:=by
    rcases An k ops.size with h'|h'
    ·have:=(hfl k).1 (yM L hsz Z k h');omega
    ·omega
   subst hkn;simpa [wpOpsIn] using hwp
 ·rintro L a w (⟨hI,_⟩|⟨k,_,_,⟨hsz,_⟩,_⟩)
  ·exact hI.size
  ·exact hsz
 ·-- the start
  have hno: ∀k,¬inS (Array.replicate ops.size false) k:=by
   intro k hk;unfold inS at hk;rw [L9,Array.getElem?_replicate] at hk;split at hk<;>cases hk
  have hI:uN ops c w0 T s W mm (Array.replicate ops.size false) a {w with drawn:=w.drawn+1}:=by
   have r:=r.drew;refine ⟨VX,λk o _ hk=>absurd hk (hno k),λk hk=>absurd hk (hno k),e,r.env,r.below,r.mem,λi c O=>absurd O (hno i),λk hk=> .inl (r.live k hk),⟨r.foe,r.xt⟩,by simpa using r.slots.1.symm,?_⟩
   intro t v hv;have hlt:t<s.σ.length:=by
    have h1:=r.slots.1;have h2:=(PB.1 hv).1;simp at h1;omega
   have Z:=r.slots.2 t s.σ[t] v (D4 hlt) (by simpa using hv)
   unfold FA;have hg:s.σ.getD t .top=s.σ[t]:=by simp [List.getD,D4 hlt]
   split
   ·rename_i k hk;rw [if_neg (show ¬(Array.replicate ops.size false).getD k false=true from hno k),hg];exact Z
   ·rw [hg];exact Z
  rcases Nat.eq_zero_or_pos mm with h0|h0
  ·exact gV _ _ _ hI (λk hk=>VM)
  ·exact .inl ⟨hI,0,h0,hno 0⟩
 ·unfold unl;exact Ar List.countP_le_length VX
theorem CG(hG:VN P G)(hX:VZ P X c)(GU:P.follows .mixedOrders=true){s:St}{R:St->Prop}{Q:Exit->Act->World->Prop}(h:(Xh9 P G X ops.toList s).sat R){a:Act}{w:World}(r:Rel c s a w){ro:Option Nat}{n:Nat}
  (hQ: ∀s a w,R s->Rel c s a w->Q .normal a w):wpAnyIn (fr ro) n P .any ops Q ops.size (Array.replicate ops.size false) a {w with drawn:=w.drawn+1}:=
 eM (suf:=We8 P G X ops.toList) hG hX GU h r (vO hG hX hQ)
end
def kV(p:Nat)(o:Oper):Oper:={o with after:=o.after.push {on:=p,ground:= .data} }
def PS(p:Nat):Nat->List Oper->List Oper
 |_,[]=>[]
 | 0,o::l=>kV p o::l
 |s+1,o::l=>o::PS p s l
theorem z9(p:Nat): ∀(s:Nat) (l:List Oper) (i:Nat),(PS p s l)[i]? =if i=s then (l[i]?).map (kV p) else l[i]?
 |s,[],i=>by cases s<;>simp [PS]
 | 0,o::l,i=>by cases i<;>simp [PS]
 |s+1,o::l,i=>by
  cases i with
  |zero=>simp [PS]
  |succ i=>simp [PS,z9 p s l i]
theorem PL(p:Nat): ∀(s:Nat) (l:List Oper),(PS p s l).length=l.length
 |s,[]=>by cases s<;>rfl
 | 0,o::l=>rfl
 |s+1,o::l=>by simp [PS,PL p s l]
def o8:Op->Bool
 | .pick _ _ _=>true
 | .move _=>true
 | .assign _=>true
 |_=>false
def dV(d:Nat):Operand->Bool
 | .tmp t=> !Nat.beq t d
 |_=>true
def exB(ops:List Oper)(p s:Nat):Bool:=match ops[p]?,ops[s]? with
 |some op,some os=>match op.dst,os.op with
  |some d,.store _ x y=> !Nat.beq p s&&o8 op.op&&op.guard.isNone&&os.guard.isNone&&os.dst.isNone&&dV d x&&dV d y
    &&(HX op).all (λj=>Nat.testBit ((HF ops []).getD s 0) j)&&(List.range ops.length).all (λk=>Nat.beq k p||Nat.beq k s||Nat.testBit ((HF ops []).getD k 0) p||Nat.testBit ((HF ops []).getD s 0) k)
  |_,_=>false
 |_,_=>false
section
variable {P:Program}{F:Fence}{n:Nat}{Q:Exit->Act->World->Prop}
section
variable {Q':Exit->Act->World->Prop}
theorem Wb5(hq: ∀e a w,Q e a w->Q' e a w){o:Oper}{a:Act}{K:Act->World->Prop}{r:Result Next}(h:o.uponIn F n P a K Q r):o.uponIn F n P a K Q' r:=by
 have hl:LetsOut Q->LetsOut Q':=λ⟨a,w,h⟩=>⟨a,w,hq _ _ _ h⟩
 cases r with
 |ok x w=>
  cases x<;>simp only [Oper.uponIn] at h ⊢ <;>first|exact h|skip
  ·refine ⟨h.1,CallsIn.mono h.2 λe w'' he=>?_⟩
   cases e with
   |returned u=>exact he
   |panicked c=>exact hq _ _ _ he
   |outgrown=>exact hl he
  ·refine ⟨h.1,RoundIn.mono h.2 λe w'' he=>?_⟩
   cases e with
   |returned u=>exact he
   |panicked c=>exact hq _ _ _ he
   |outgrown=>exact hl he
 |halt x w=>cases x<;>simp only [Oper.uponIn] at h ⊢ <;>first|exact h|exact hq _ _ _ h
theorem Qy0(hq: ∀e a w,Q e a w->Q' e a w){ops:Array Oper}{i:Nat}{K:Act->World->Prop}{a:Act}{w:World}(h:wpOpIn F n P ops Q i K a w):wpOpIn F n P ops Q' i K a w:=by
 unfold wpOpIn at h ⊢;split
 ·rename_i ho;rw [ho] at h;exact h
 ·rename_i o ho;rw [ho] at h;simp only at h;split
  ·rename_i hw;rw [if_pos hw] at h;exact ⟨h.1,Wb5 hq h.2⟩
  ·rename_i hw;rw [if_neg hw] at h;exact h
end
theorem NL{Q':Exit->Act->World->Prop}(hq: ∀e a w,Q e a w->Q' e a w){ops:Array Oper}{md:Region.Mode}: ∀{fuel:Nat} {L:Array Bool} {a:Act} {w:World},wpAnyIn F n P md ops Q fuel L a w->wpAnyIn F n P md ops Q' fuel L a w
 | 0,_,_,_,h=>⟨h.1,hq _ _ _ h.2⟩
 |fuel+1,_,_,_,h=>⟨λZ=>hq _ _ _ (h.1 Z),λi O=>Qy0 hq (wpOpIn_mono (λ_ _=>NL hq) (h.2 i O))⟩
section
variable {p s:Nat}{ops ops2:Array Oper}
theorem aZ(h2:ops2.toList=PS p s ops.toList)(tmps:Array Value):yielded ops2 tmps=yielded ops tmps:=by
 have hg: ∀j,ops2[j]? =if j=s then (ops[j]?).map (kV p) else ops[j]? :=λj=>by
  have:=z9 p s ops.toList j;rw [←h2] at this;simpa using this
 funext j;unfold yielded;rw [hg];by_cases hj:j=s
 ·rw [if_pos hj];cases ops[j]? <;>rfl
 ·rw [if_neg hj]
theorem z8(h2:ops2.toList=PS p s ops.toList){i:Nat}{K:Act->World->Prop}{a:Act}{w:World}:wpOpIn F n P ops2 Q i K a w↔wpOpIn F n P ops Q i K a w:=by
 have hg: ∀j,ops2[j]? =if j=s then (ops[j]?).map (kV p) else ops[j]? :=λj=>by
  have:=z9 p s ops.toList j;rw [←h2] at this;simpa using this
 unfold wpOpIn;rw [hg,aZ h2];by_cases hj:i=s
 ·rw [if_pos hj];cases ops[i]? <;>exact Iff.rfl
 ·rw [if_neg hj]
end
section
variable {ops:Array Oper}{i:Nat}{o:Oper}
theorem cV(hq: ∀c a w,¬Q (.panic c) a w)(ho:ops[i]? =some o)(hs:o8 o.op=true)(hg:o.guard=none){K:Act->World->Prop}{a:Act}{w:World}(h:wpOpIn F n P ops Q i K a w):
  ∃v,K (a.put o.dst v) w/\ ∀(K':Act->World->Prop) w',K' (a.put o.dst v) w'->wpOpIn F n P ops Q i K' a w':=by
 have hw: ∀t,Region.wanted o (yielded ops t)=true:=λt=>by simp [Region.wanted,hg]
 have key: ∀v,(∀w,(o.semAt F.round a.eval).run P w= .ok (.value v) w)->(∀w,o.about P w a.eval=none)-> ∃v,K (a.put o.dst v) w/\ ∀(K':Act->World->Prop) w',K' (a.put o.dst v) w'->wpOpIn F n P ops Q i K' a w':=by
  intro v hv hab;refine ⟨v,?_,λK' w' hk=>?_⟩
  ·unfold wpOpIn at h;rw [ho] at h;simp only [hw,if_true,Oper.wpIn,hv,Oper.uponIn] at h;exact h.2
  ·unfold wpOpIn;rw [ho];simp only [hw,if_true,Oper.wpIn,hv,Oper.uponIn];exact ⟨λf hf=>(by rw [hab w'] at hf;cases hf),hk⟩
 obtain ⟨dst,op,type,pos,after,guard⟩:=o;simp only at hs hg;subst hg;cases op with
 |move x=>
  refine key (a.eval x) (λw=>?_) (λw=>rfl)
  rw [Oper.semAt_eq _ _ _ (λc h=>by cases h)]
  rfl
 |assign x=>
  refine key (a.eval x) (λw=>?_) (λw=>rfl)
  rw [Oper.semAt_eq _ _ _ (λc h=>by cases h)]
  rfl
 |pick c x y=>
  have he: ∀w,(Oper.semAt F.round a.eval ⟨dst,.pick c x y,type,pos,after,none⟩).run P w=(execOp a.eval ⟨dst,.pick c x y,type,pos,after,none⟩).run P w:=λw=>by
   rw [Oper.semAt_eq _ _ _ (λc h=>by cases h)]
  rcases Classical.em (∃b,a.eval c= .bool b) with ⟨b,hb⟩|hb
  ·refine key (if b then a.eval x else a.eval y) (λw=>?_) (λw=>rfl)
   rw [he];simp [execOp,hb,asBool]
  ·exfalso;unfold wpOpIn at h;rw [ho] at h;simp only [hw,if_true,Oper.wpIn,he] at h;have h:=h.2;cases hc:a.eval c with
   |bool b=>exact hb ⟨b,hc⟩
   |_=>simp [execOp,hc,asBool,stuck,Oper.uponIn] at h
 |_=>simp [o8] at hs
theorem Qn4{t:TypeId}{x y:Operand}{d:Nat}{v:Value}(hq: ∀c a w,¬Q (.panic c) a w)(ho:ops[i]? =some o)(hop:o.op= .store t x y)(hg:o.guard=none)(hd:o.dst=none)(hx:dV d x=true)(hy:dV d y=true)
  {K:Act->World->Prop}{a:Act}{w:World}(h:wpOpIn F n P ops Q i K (a.put (some d) v) w):wpOpIn F n P ops Q i (λa' w'=>a'=a/\K (a.put (some d) v) w') a w:=by
 have hw: ∀t,Region.wanted o (yielded ops t)=true:=λt=>by simp [Region.wanted,hg]
 have ev: ∀z,dV d z=true->(a.put (some d) v).eval z=a.eval z:=λz hz=>Act.eval_put λd' hd'=>by
  cases hd';rintro rfl;simp [dV] at hz
 obtain ⟨dst,op,type,pos,after,guard⟩:=o;simp only at hop hg hd;subst hop hg hd;have he: ∀(b:Act),Oper.semAt F.round b.eval ⟨none,.store t x y,type,pos,after,none⟩=execOp b.eval ⟨none,.store t x y,type,pos,after,none⟩:=λb=>Oper.semAt_eq _ _ _ (λc h=>by cases h)
 have ex:execOp (a.put (some d) v).eval ⟨none,.store t x y,type,pos,after,none⟩=execOp a.eval ⟨none,.store t x y,type,pos,after,none⟩:=by
  simp only [execOp,ev x hx,ev y hy]
 unfold wpOpIn at h ⊢;rw [ho] at h ⊢;simp only [hw,if_true,Oper.wpIn,he,ex] at h ⊢;refine ⟨λf hf=>(by cases hf),?_⟩
 have h:=h.2;generalize Z:(execOp a.eval ⟨none,.store t x y,type,pos,after,none⟩).run P w=r at h;have hsk:(∃w',r= .ok .skip w')\/ ∃u w',r= .halt u w':=by
  rw [←Z];simp only [execOp,At];cases (Instr.storeAt t (a.eval x) (a.eval y)).run P w with
  |ok u w'=>exact .inl ⟨w',rfl⟩
  |halt u w'=>exact .inr ⟨u,w',rfl⟩
 rcases hsk with ⟨w',rfl⟩|⟨u,w',rfl⟩
 ·simp only [Oper.uponIn] at h ⊢;exact ⟨rfl,h⟩
 ·cases u<;>simp only [Oper.uponIn] at h ⊢;exact (hq _ _ _ h).elim
end
theorem Wo6{L:Array Bool}{i:Nat}(O:i<L.size)(h: ¬inS L i):L.getD i true=false:=by
 unfold inS at h;simp [L9,O] at h ⊢;exact h
theorem FC{ops:Array Oper}{L:Array Bool}{i:Nat}{o:Oper}(hsz:L.size=ops.size)(ho:ops[i]? =some o)(hn: ¬inS L i)(hd: ∀j∈HX o,inS L j):i∈Region.ready .any ops L:=by
 have O:i<ops.size:=(PB.1 ho).1;unfold Region.ready;rw [List.mem_filter];refine ⟨List.mem_range.2 O,?_⟩;rw [ho];simp only [Bt,GX,HC,Ax];refine ⟨Wo6 (by rw [hsz];exact O) hn,?_⟩
 rw [Array.all_eq_true_iff_forall_mem];intro ed hed;cases hb:Region.binds .any ed with
 |false=>simp
 |true=>
  have hj:ed.on∈HX o:=by
   simp only [HX,List.mem_map,List.mem_filter];exact ⟨ed,⟨by simpa using hed,hb⟩,rfl⟩
  have:=hd ed.on hj;simpa [inS] using this
theorem qB{p:Nat}{o:Oper}{j:Nat}:j∈HX (kV p o)↔j∈HX o\/j=p:=by
 have:HX (kV p o)=HX o++[p]:=by
  have h1:List.filter (Region.binds .any) [({on:=p,ground:= .data}:Edge)]=[{on:=p,ground:= .data}]:=rfl;simp [HX,kV,List.filter_append,h1]
 rw [this];simp
theorem Wv3{ops ops2:Array Oper}{p s:Nat}(h2:ops2.toList=PS p s ops.toList)(hex:exB ops.toList p s=true)(hq: ∀c a w,¬Q (.panic c) a w):
  ∀(fuel:Nat) (L:Array Bool) (a:Act) (w:World),L.size=ops.size->DC ops.toList L->(inS L p\/ ¬inS L s)->wpAnyIn F n P .any ops2 Q fuel L a w->wpAnyIn F n P .any ops Q fuel L a w:=by
 have hg: ∀j,ops2[j]? =if j=s then (ops[j]?).map (kV p) else ops[j]? :=λj=>by
  have:=z9 p s ops.toList j;rw [←h2] at this;simpa using this
 have uE:ops2.size=ops.size:=by
  have:=PL p s ops.toList;rw [←h2] at this;simpa using this
 unfold exB at hex;split at hex
 rotate_left
 ·cases hex
 rename_i op os hop hos;have hop:ops[p]? =some op:=by simpa using hop
 have hos:ops[s]? =some os:=by simpa using hos
 split at hex
 rotate_left
 ·cases hex
 rename_i d t x y hd hst;simp only [HC,Option.isNone_iff_eq_none,Ax,B7,Bl,List.mem_range] at hex;obtain ⟨⟨⟨⟨⟨⟨⟨⟨hps,Jh6⟩,hgp⟩,hgs⟩,hds⟩,hx⟩,hy⟩,Xl6⟩,D3⟩:=hex;have hps:p≠s:=λh=>by rw [h] at hps;simp at hps
 have hpl:p<ops.size:=(PB.1 hop).1;have hsl:s<ops.size:=(PB.1 hos).1
 -- what is ready
 have sub: ∀L i,L.size=ops.size->i∈Region.ready .any ops2 L->i∈Region.ready .any ops L:=by
  intro L i hL O;obtain ⟨g1,g2,o,g3,g4⟩:=HV O;have hn: ¬inS L i:=BY (by rw [hL,←uE];exact g1) g2
  rw [hg] at g3;by_cases his:i=s
  ·rw [if_pos his,his,hos] at g3;cases g3;rw [his] at hn ⊢;exact FC hL hos hn λj hj=>g4 j (qB.2 (.inl hj))
  ·rw [if_neg his] at g3;exact FC hL g3 hn g4
 have sup: ∀L i,L.size=ops.size->i∈Region.ready .any ops L->(i≠s\/inS L p)->i∈Region.ready .any ops2 L:=by
  intro L i hL O hor;obtain ⟨g1,g2,o,g3,g4⟩:=HV O;have hn: ¬inS L i:=BY (by rw [hL];exact g1) g2
  by_cases his:i=s
  ·subst his;rw [hos] at g3;cases g3;refine FC (by rw [hL,uE]) (o:=kV p os) (by rw [hg,if_pos rfl,hos];rfl) hn λj hj=>?_
   rcases qB.1 hj with hj|rfl
   ·exact g4 j hj
   ·exact hor.resolve_left (λh=>h rfl)
  ·exact FC (by rw [hL,uE]) (by rw [hg,if_neg his];exact g3) hn g4
 have rdp: ∀L,L.size=ops.size->DC ops.toList L->s∈Region.ready .any ops L-> ¬inS L p->p∈Region.ready .any ops L:=by
  intro L hL hdc hs hn;obtain ⟨g1,g2,o,g3,g4⟩:=HV hs;rw [hos] at g3;cases g3;exact FC hL hop hn λj hj=>wK hdc s os (by simpa using hos) g4 j (Xl6 j hj)
 have dcs: ∀L i,L.size=ops.size->DC ops.toList L->i∈Region.ready .any ops L->DC ops.toList (L.setIfInBounds i true):=by
  intro L i hL hdc O k o ho hk j hj;obtain ⟨g1,g2,o',g3,g4⟩:=HV O;have hiL:i<L.size:=by rw [hL];exact g1
  rw [US hiL] at hk ⊢;right;rcases hk with rfl|hk
  ·have ho:ops[k]? =some o:=by simpa using ho
   rw [g3] at ho;cases ho;exact g4 j hj
  ·exact hdc k o ho hk j hj
 intro fuel
 induction fuel using Nat.strongRecOn with
 |_ fuel ih=>
 intro L a w hL hdc hor h;have kP:Region.ready .any ops2 L=[]->Region.ready .any ops L=[]:=by
  intro Z;rw [List.eq_nil_iff_forall_not_mem];intro i O;have: ∃k,k∈Region.ready .any ops2 L:=by
   by_cases hc:i≠s\/inS L p
   ·exact ⟨i,sup L i hL O hc⟩
   ·have his:i=s:=Classical.not_not.1 λh=>hc (.inl h)
    have hnp: ¬inS L p:=λh=>hc (.inr h)
    subst his;exact ⟨p,sup L p hL (rdp L hL hdc O hnp) (.inl hps)⟩
  obtain ⟨k,hk⟩:=this;rw [Z] at hk;cases hk
 have hnil':Region.ready .any ops L=[]->Region.ready .any ops2 L=[]:=by
  intro Z;rw [List.eq_nil_iff_forall_not_mem];intro i O;have:=sub L i hL O;rw [Z] at this;cases this
 cases fuel with
 |zero=>exact ⟨kP h.1,h.2⟩
 |succ fuel=>
  refine ⟨λZ=>h.1 (hnil' Z),λi O=>?_⟩
  obtain ⟨g1,g2,o,g3,g4⟩:=HV O;have hiL:i<L.size:=by rw [hL];exact g1
  by_cases hc:i≠s\/inS L p
  ·have h1:=(z8 h2).1 (h.2 i (sup L i hL O hc));refine wpOpIn_mono (λa' w' h'=>ih fuel (Bk _) (L.setIfInBounds i true) a' w' (by simp [hL]) (dcs L i hL hdc O) ?_ h') h1
   rw [US hiL,US hiL];rcases hc with hc|hc
   ·rcases hor with hor|hor
    ·exact .inl (.inr hor)
    ·exact .inr (λh=>h.elim (λh=>hc h.symm) hor)
   ·exact .inl (.inr hc)
  ·have his:i=s:=Classical.not_not.1 λh=>hc (.inl h)
   have hnp: ¬inS L p:=λh=>hc (.inr h)
   subst his;have hpr:=rdp L hL hdc O hnp;have hpL:p<L.size:=by rw [hL];exact hpl
   have h1:=(z8 h2).1 (h.2 p (sup L p hL hpr (.inl hps)));obtain ⟨v,h3,h4⟩:=cV hq hop Jh6 hgp h1;rw [hd] at h3 h4;have hsr:i∈Region.ready .any ops2 (L.setIfInBounds p true):=by
    have hn: ¬inS L i:=BY hiL g2;refine sup _ i (by simp [hL]) (FC (by simp [hL]) g3 (λhh=>?_) (λj hj=>(US hpL).2 (.inr (g4 j hj)))) (.inr ((US hpL).2 (.inl rfl)))
    rcases (US hpL).1 hh with hh|hh
    ·exact hps hh.symm
    ·exact hn hh
   cases fuel with
   |zero=>
    have:=h3.1;rw [this] at hsr;cases hsr
   |succ f=>
    have h5:=(z8 h2).1 (h3.2 i hsr);have h6:=Qn4 hq hos hst hgs hds hx hy h5;refine wpOpIn_mono ?_ h6;rintro a' w' ⟨rfl,h7⟩;have Ji5: ¬inS (L.setIfInBounds i true) p:=λhh=>by
     rcases (US hiL).1 hh with hh|hh
     ·exact hps hh
     ·exact hnp hh
    have Jj1:=dcs L i hL hdc O;have Zo3:p∈Region.ready .any ops (L.setIfInBounds i true):=by
     obtain ⟨q1,q2,o',q3,q4⟩:=HV hpr;exact FC (by simp [hL]) q3 Ji5 λj hj=>(US hiL).2 (.inr (q4 j hj))
    refine ⟨λZ=>(by rw [Z] at Zo3;cases Zo3),λk hk=>?_⟩
    have hkp:k=p:=by
     obtain ⟨k1,k2,ok,k3,k4⟩:=HV hk;have hnk: ¬inS (L.setIfInBounds i true) k:=BY (by simp [hL];exact k1) k2
     have hks:k≠i:=λhh=>hnk ((US hiL).2 (.inl hh))
     rcases D3 k (by simpa using k1) with ((hh|hh)|hh)|hh
     ·exact H2 hh
     ·exact absurd (H2 hh) hks
     ·exact absurd (wK Jj1 k ok (by simpa using k3) k4 p hh) Ji5
     ·exfalso;rw [hos] at g3;cases g3;exact hnk ((US hiL).2 (.inr (wK hdc i os (by simpa using hos) g4 k hh)))
    subst hkp;refine h4 _ _ ?_;rw [Array.setIfInBounds_comm _ _ (Ne.symm hps)];refine ih f VM _ _ _ (by simp [hL]) ?_ (.inl ?_) h7
    ·have:=dcs _ k (by simp [hL]) Jj1 Zo3
     rwa [Array.setIfInBounds_comm _ _ (Ne.symm hps)] at this
    ·rw [US (by simp [hL];exact g1),US hpL]
     exact .inr (.inl rfl)
end
def Qu1(ops:List Oper)(M:List Nat):List Nat->Option (Nat×Nat)
 |[]=>none
 |k::l=>match ops[k]? with
  |some o=>match o.op with
   | .store _ (.tmp t) _=>match DH t ops 0 with
    |none=>match (List.range k).find? (λp=> !Nat.testBit (M.getD k 0) p) with
     |some p=>some (p,k)
     |none=>Qu1 ops M l
    |some _=>Qu1 ops M l
   |_=>Qu1 ops M l
  |none=>none
def Xh8(P:Program)(G:List (Nat×Spec))(X:Ext)(ops:List Oper)(s:St):VP St:=match Qu1 ops (HF ops []) (List.range ops.length) with
 |some (p,k)=>match exB ops p k with
  |true=>Xh9 P G X (PS p k ops) s
  |false=>Xh9 P G X ops s
 |none=>Xh9 P G X ops s
def Wx1{α:Type}:List (VP α)->VP α
 |[]=> .fail
 |[t]=>t
 |t::u::l=> .may True t (Wx1 (u::l))
theorem SA{α:Type}{Q:α->Prop}: ∀{l:List (VP α)},(Wx1 l).sat Q-> ∀t∈l,t.sat Q
 |[],_,_,h=>by cases h
 |[t],h,u,hu=>by
  rcases B6.1 hu with rfl
  exact h
 |t::u::l,h,v,hv=>by
  rcases GQ.1 hv with rfl|hv
  ·exact h.1 trivial
  ·exact SA h.2 v hv
def tH(P:Program)(G:List (Nat×Spec))(X:Ext)(ops:List Oper):Nat->Array Bool->St->VP St
 | 0,L,s=>match Region.ready .any ops.toArray L with
  |[]=> .leaf s
  |_::_=> .fail
 |f+1,L,s=>match Region.ready .any ops.toArray L with
  |[]=> .leaf s
  |l=>Wx1 (l.map λi=>match ops[i]? with
   |some o=>(zV P G X ops o s).bind (tH P G X ops f (L.setIfInBounds i true))
   |none=> .fail)
theorem jL{P:Program}{G:List (Nat×Spec)}{X:Ext}{c:Cx}(hG:VN P G)(hX:VZ P X c){ro:Option Nat}{n:Nat}{ops:Array Oper}{Q:Exit->Act->World->Prop}{R:St->Prop}(hQ: ∀s a w,R s->Rel c s a w->Q .normal a w):
  ∀(fuel:Nat) (L:Array Bool) (s:St) (a:Act) (w:World),(tH P G X ops.toList fuel L s).sat R->Rel c s a w->wpAnyIn (fr ro) n P .any ops Q fuel L a w
 | 0,L,s,a,w,h,r=>by
  unfold tH at h;split at h
  ·rename_i Z;exact ⟨by simpa using Z,hQ s a w h r⟩
  ·exact h.elim
 |fuel+1,L,s,a,w,h,r=>by
  unfold tH at h;split at h
  ·rename_i Z;have Z:Region.ready .any ops L=[]:=by simpa using Z
   refine ⟨λ_=>hQ s a w h r,λi O=>?_⟩
   rw [Z] at O;cases O
  ·rename_i l hl;refine ⟨λZ=>absurd (by simpa using Z) hl,λi O=>?_⟩
   have hi':i∈Region.ready .any ops.toList.toArray L:=by simpa using O
   have h1:=SA h _ (List.mem_map.2 ⟨i,hi',rfl⟩);split at h1
   ·rename_i o ho;exact zU hG hX (by simpa using ho) (VP.sat_bind h1) r (λs' a' w' hs' hr'=>jL hG hX hQ fuel _ s' a' w' hs' hr')
   ·exact h1.elim
def AB(ops:List Oper)(p:Nat):List AV->List AV->Nat->List AV
 |a::l,b::l',t=>(match DH t ops 0 with
  |some k=>match Nat.beq k p with
   |true=>b
   |false=>a
  |none=>a)::AB ops p l l' (t+1)
 |l,_,_=>l
theorem rR(ops:List Oper)(p:Nat): ∀(l l':List AV) (t:Nat),(AB ops p l l' t).length=l.length
 |[],_,_=>by simp [AB]
 |a::l,[],t=>by simp [AB]
 |a::l,b::l',t=>by simp [AB,rR ops p l l' (t+1)]
theorem lV(ops:List Oper)(p:Nat): ∀(l l':List AV) (t i:Nat) (x:AV),(AB ops p l l' t)[i]? =some x->
  (l[i]? =some x/\DH (t+i) ops 0≠some p)\/(l'[i]? =some x/\DH (t+i) ops 0=some p)\/(l[i]? =some x/\l'[i]? =none)
 |[],_,_,i,x,h=>by simp [AB] at h
 |a::l,[],t,i,x,h=> .inr (.inr ⟨by simpa [AB] using h,VX⟩)
 |a::l,b::l',t,0,x,h=>by
  unfold AB at h;rw [List.getElem?_cons_zero] at h;split at h
  ·rename_i k hk;split at h
   ·rename_i hb;have:=H2 hb;subst this;exact .inr (.inl ⟨by simpa using h,by simpa using hk⟩)
   ·rename_i hb;exact .inl ⟨by simpa using h,λhe=>by rw [Bg,hk] at he;cases he;simp at hb⟩
  ·rename_i hk;exact .inl ⟨by simpa using h,λhe=>by rw [Bg,hk] at he;cases he⟩
 |a::l,b::l',t,i+1,x,h=>by
  unfold AB at h;rw [List.getElem?_cons_succ] at h;rcases lV ops p l l' (t+1) i x h with h|h|h
  ·exact .inl ⟨by simpa using h.1,by rw [show t+(i+1)=t+1+i by omega];exact h.2⟩
  ·exact .inr (.inl ⟨by simpa using h.1,by rw [show t+(i+1)=t+1+i by omega];exact h.2⟩)
  ·exact .inr (.inr ⟨by simpa using h.1,by simpa using h.2⟩)
def Qc2(c:HQ):Bool:=match c.add,c.upd,c.eat with
 |none,none,none=>true
 |_,_,_=>false
def uQ(p:Nat)(M:List Nat):List Nat:=M.map (λx=>Nat.lor x (2^p))
theorem Qn0{p:Nat}{M:List Nat}{k j:Nat}(h:((uQ p M).getD k 0).testBit j=true)(hj:j≠p):(M.getD k 0).testBit j=true:=by
 unfold uQ at h;rw [List.getD_eq_getElem?_getD,Bn] at h;rw [List.getD_eq_getElem?_getD];cases hm:M[k]? with
 |none=>rw [hm] at h;simp at h
 |some x=>
  rw [hm] at h;simp only [Bt,GX] at h;have h':(x ||| 2^p).testBit j=true:=h
  rw [Nat.testBit_or,Nat.testBit_two_pow] at h';simp only [Bl,y5] at h';rcases h' with h'|h'
  ·exact h'
  ·exact absurd h'.symm hj
def Xk0(o:Oper):Bool:=match o.op with
 | .store _ _ _=>true
 |_=>false
def Jg0(ops:List Oper)(p mm m0:Nat):Bool:=match ops[p]? with
 |some o=>match o.op with
  | .load _ (.tmp t)=>match DH t ops 0 with
   |none=>((ops.take m0).drop mm).any Xk0
   |some _=>false
  |_=>false
 |none=>false
def IK(ops:List Oper)(M:List Nat)(n m0:Nat):List Nat->Option (Nat×Nat)
 |[]=>none
 |p::l=>match Nat.blt p (BZ (uQ p M) n)&&(Nat.blt (BZ (uQ p M) n) m0&&Jg0 ops p (BZ (uQ p M) n) m0) with
  |true=>some (p,BZ (uQ p M) n)
  |false=>IK ops M n m0 l
theorem kS{ops:List Oper}{M:List Nat}{n m0:Nat}{p mm:Nat}: ∀{l:List Nat},IK ops M n m0 l=some (p,mm)->p<mm/\mm=BZ (uQ p M) n
 |[],h=>by cases h
 |q::l,h=>by
  unfold IK at h;split at h
  ·rename_i hb;cases h;simp only [HC,Aw] at hb;exact ⟨hb.1,rfl⟩
  ·exact kS h
def rK(n mm:Nat)(p:Option Nat):Array Bool:=((List.range n).map λk=>Nat.blt k mm&&(match p with
 |some q=> !Nat.beq k q
 |none=>true)).toArray
theorem OD{n mm:Nat}{p:Option Nat}{k:Nat}:inS (rK n mm p) k↔k<n/\k<mm/\p≠some k:=by
 unfold inS rK;rw [L9];simp only [List.getElem?_toArray,Bn];rcases An k n with h|h
 ·rw [List.getElem?_range h];simp only [Bt,GX,HC,Aw];cases p with
  |none=>simp [h]
  |some q=>
   simp only [Ax,ne_eq,HH];constructor
   ·rintro ⟨h1,h2⟩;exact ⟨h,h1,λhe=>by subst he;simp at h2⟩
   ·rintro ⟨_,h1,h2⟩;refine ⟨h1,?_⟩;cases hb:Nat.beq k q
    ·rfl
    ·exact absurd (H2 hb).symm h2
 ·rw [Br (by simpa using h)]
  simp;omega
theorem EW(n mm:Nat)(p:Option Nat):(rK n mm p).size=n:=by simp [rK]
theorem Qh3{n:Nat}{L L':Array Bool}(h:L.size=n)(h':L'.size=n)(hk: ∀k,k<n->(inS L k↔inS L' k)):L=L':=by
 refine Array.ext VM λk h1 h2=>?_
 have:=hk k VM;unfold inS at this;simp only [L9,Array.getElem?_eq_getElem h1,Array.getElem?_eq_getElem h2,GX] at this;exact Bool.eq_iff_iff.2 this
def Xh6(P:Program)(G:List (Nat×Spec))(X:Ext)(ops:List Oper)(p mm:Nat)(s:St):VP St:=
 match rA s.σ.length ops ops 0 with
 |false=> .fail
 |true=>(jR P G X ops (HF ops []) s.σ s.m s.nx mm (ops.take mm) 0 [] []).bind λq=>match uL s.nx s.m q.1&&Qc2 (q.1.getD p DG) with
  |false=> .fail
  |true=> .may True (tH P G X ops ops.length (rK ops.length mm none) {s with σ:=d6 ops mm q.1 q.2 s.σ 0,m:=RX s.nx q.1 q.1 0++s.m,nx:=s.nx+mm})
    (tH P G X ops ops.length (rK ops.length mm (some p)) {s with σ:=AB ops p (d6 ops mm q.1 q.2 s.σ 0) s.σ 0,m:=RX s.nx q.1 q.1 0++s.m,nx:=s.nx+mm})
section
variable {P:Program}{G:List (Nat×Spec)}{X:Ext}{ops:Array Oper}{c:Cx}{w0:World}{T:Nat->Prop}{s0:St}{W:List HQ}{dec:List (Nat×Bool)}
theorem Wo0{mm p:Nat}(D3:P3 P G X ops.toList (HF ops.toList []) s0.σ s0.m s0.nx mm W dec)(HZ:W.length=mm){L:Array Bool}{a:Act}{w:World}
  (hΦ:c.Φ s0.gh T w0)(hI:uN ops c w0 T s0 W mm L a w)(PG: ∀k,k<mm->k≠p->inS L k)(hnp: ¬inS L p)(hpm:p<mm)(OP:Qc2 (W.getD p DG)=true):
  Rel c {s0 with σ:=AB ops.toList p (d6 ops.toList mm W dec s0.σ 0) s0.σ 0,m:=RX s0.nx W W 0++s0.m,nx:=s0.nx+mm} a w:=by
 have hpc: ∀cp,W[p]? =some cp->cp.add=none/\cp.upd=none/\cp.eat=none:=by
  intro cp hcp;have e:W.getD p DG=cp:=by rw [List.getD_eq_getElem?_getD,hcp];rfl
  rw [e] at OP;unfold Qc2 at OP;split at OP
  ·rename_i h1 h2 h3;exact ⟨h1,h2,h3⟩
  ·cases OP
 obtain ⟨e,hE,hB,hm0,vI,vG,qA,j8,qT⟩:=hI.rel;refine ⟨w0,T,e,hΦ,hE,hB,?_,?_,qA.1,qA.2,?_,?_⟩
 ·intro q hq;rcases List.mem_append.1 hq with hq|hq
  ·obtain ⟨j,c,r,h1,h3,h4,h5,h6⟩:=kZ hq;simp only [Ap] at h3 h5 h6;have hj:j<mm:=by rw [←HZ];exact (FW.1 h1).1
   have hjp:j≠p:=by
    rintro rfl;rw [(hpc c h1).1] at h4;cases h4
   rw [h3,h5];obtain ⟨r'',hh,hk1,hk2⟩:=vI j c (PG j hj hjp) h1 _ h4 (λi' ci _ hci he=>by rw [fN hci he] at h6;cases h6)
   cases hu:jN W j with
   |some r'=>
    obtain ⟨i',ci,hi',hui⟩:=zI hu;have hi'm:i'<mm:=by rw [←HZ];exact (FW.1 hi').1
    have hip:i'≠p:=by
     rintro rfl;rw [(hpc ci hi').2.1] at hui;cases hui
    rw [←hk1 i' ci r' (PG i' hi'm hip) hi' hui];exact hh
   |none=>
    rw [←hk2 (λi' ci r' _ hci=>zJ hu i' ci r' hci)];exact hh
  ·exact hm0 q hq
 ·intro k hk;show k<s0.nx+mm;rcases vG k hk with h|⟨i,h1,h2⟩
  ·omega
  ·have:=hI.lt i h1;omega
 ·rw [rR,wQ];simpa using j8.symm
 ·intro t av v hav hv;have hv':a.tmps[t]? =some v:=by simpa using hv
  have hs:=qT t v hv';have old: ∀x,(d6 ops.toList mm W dec s0.σ 0)[t]? =some x->DH t ops.toList 0≠some p->Rep e w x v:=by
   intro x hav hwp;rw [IS] at hav;rw [Ay] at hav;obtain ⟨a0,ha0,rfl⟩:=hav;unfold FA at hs;unfold Xm8;simp only [Ap];cases hwt:DH t ops.toList 0 with
   |none=>rw [hwt] at hs;simp only at hs ⊢;rw [xI ha0] at hs;exact hs
   |some k=>
    rw [hwt] at hs;have hkp:k≠p:=by
     rintro rfl;exact hwp hwt
    simp only at hs ⊢;split
    ·rename_i hb;have hk:k<mm:=by simpa [Aw] using hb
     rw [if_pos (show L.getD k false=true from PG k hk hkp)] at hs;simp only [Qu5];cases hld:RT dec k with
     |some d=>
      have:=(D3.1 k d hld).2;rw [this] at hs;exact hs.litOf
     |none=>exact hs
    ·rename_i hb;have hk: ¬k<mm:=λh=>by
      have h':Nat.blt k mm=true:=by rw [Aw];exact h
      rw [h'] at hb;cases hb
     rw [if_neg (show ¬L.getD k false=true from λh=>hk (hI.lt k h)),xI ha0] at hs
     exact hs
  rcases lV ops.toList p _ _ 0 t av hav with ⟨h1,h2⟩|⟨h1,h2⟩|⟨h1,h2⟩
  ·exact old av h1 (by simpa using h2)
  ·rw [Ap] at h2;unfold FA at hs;rw [h2] at hs;simp only at hs;rw [if_neg (show ¬L.getD p false=true from hnp),xI h1] at hs;exact hs
  ·exfalso;have hlt:=(FW.1 h1).1;rw [wQ] at hlt;rw [D4 hlt] at h2;cases h2
theorem eI(hG:VN P G)(hX:VZ P X c)(GU:P.follows .mixedOrders=true){p mm:Nat}(hpm:p<mm)(hmm:mm=BZ (uQ p (HF ops.toList [])) ops.toList.length){s:St}{R:St->Prop}{Q:Exit->Act->World->Prop}(h:(Xh6 P G X ops.toList p mm s).sat R){a:Act}{w:World}(r:Rel c s a w){ro:Option Nat}{n:Nat}
  (hQ: ∀s a w,R s->Rel c s a w->Q .normal a w):wpAnyIn (fr ro) n P .any ops Q ops.size (Array.replicate ops.size false) a {w with drawn:=w.drawn+1}:=by
 obtain ⟨w0,T,e,hΦ,r⟩:=r;unfold Xh6 at h;split at h
 ·exact h.elim
 rename_i jO;have h2:=VP.sat_bind h;have OQ:mm<=ops.size:=by rw [hmm];have:=a9 (uQ p (HF ops.toList [])) ops.toList.length;simpa using this
 obtain ⟨W,dec,FL,D3,HZ⟩:=wS (P:=P) (G:=G) (X:=X) (ops:=ops.toList) (M:=HF ops.toList []) (σ0:=s.σ) (m0:=s.m) (nx0:=s.nx) (mm:=mm) (ops.toList.take mm) [] [] [] (by simp [Nat.min_eq_left OQ]) rfl h2 ⟨λk d hk=>by simp [RT] at hk,λi o O=>by simp at O⟩
 have hlen':W.length=mm:=by rw [HZ];simp;omega
 have AJ: ∀k j,mm<=k->k<ops.size->j<k->j≠p->((HF ops.toList []).getD k 0).testBit j=true:=by
  intro k j h1 h2 h3 h4;exact Qn0 (IL (kK _ _ k (by rw [←hmm];exact h1) (by simpa using h2)) h3) h4
 have sB: ∀k o,ops[k]? =some o-> ∀j∈HX o,j<k:=by
  intro k o ho j hj;have:=(PC jO k o (by simpa using ho)).2 j hj
  simpa using this
 have rN: ∀p∈s.m,p.1<s.nx:=by
  intro p hp;refine r.live p.1 ?_;have:=r.mem p hp;exact this.live
 obtain ⟨⟨Zp2,OP⟩,FL⟩:(uL s.nx s.m W=true/\Qc2 (W.getD p DG)=true)/\_:=by
  dsimp only at FL
  split at FL
  ·exact FL.elim
  ·rename_i hb;rw [HC] at hb;exact ⟨hb,FL⟩
 have Qr6:ops.toList.length=ops.size:=VX
 -- the two phases
 let Inv:Array Bool->Act->World->Prop:=λL a w=>(uN ops c w0 T s W mm L a w/\ ∃k,k<mm/\k≠p/\ ¬inS L k)\/(L.size=ops.size/\ ∃fuel,wpAnyIn (fr ro) n P .any ops Q fuel L a w)
 have gV: ∀L a w,uN ops c w0 T s W mm L a w->(∀k,k<mm->k≠p->inS L k)->Inv L a w:=by
  intro L a w hI PG;rcases Classical.em (inS L p) with hp|hp
  ·have hL:L=rK ops.toList.length mm none:=Qh3 hI.size (by rw [EW];exact Qr6) λk hk=>by
    rw [OD];refine ⟨λh=>⟨VM,hI.lt k h,VX⟩,λh=>?_⟩
    rcases Nat.decEq k p with he|he
    ·exact PG k h.2.1 he
    ·rw [he];exact hp
   refine .inr ⟨hI.size,ops.toList.length,?_⟩;rw [hL];exact jL hG hX hQ _ _ _ a w (FL.1 trivial) (iS D3 hlen' hΦ hI λk hk=>by
    rcases Nat.decEq k p with he|he
    ·exact PG k hk he
    ·rw [he];exact hp)
  ·have hL:L=rK ops.toList.length mm (some p):=Qh3 hI.size (by rw [EW];exact Qr6) λk hk=>by
    rw [OD];refine ⟨λh=>⟨VM,hI.lt k h,λhe=>by cases he;exact hp h⟩,λh=>PG k h.2.1 λhe=>h.2.2 (by rw [he])⟩
   refine .inr ⟨hI.size,ops.toList.length,?_⟩;rw [hL];exact jL hG hX hQ _ _ _ a w FL.2 (Wo0 D3 hlen' hΦ hI PG hp hpm OP)
 have yM: ∀(L:Array Bool),L.size=ops.size->Region.ready .any ops L=[]-> ∀k,k<ops.size->inS L k:=by
  intro L hsz Z k
  induction k using Nat.strongRecOn with
  |_ k ih=>
   intro hk;rcases Classical.em (inS L k) with h'|h'
   ·exact h'
   ·exfalso;have gZ:k∈Region.ready .any ops L:=by
     unfold Region.ready;rw [List.mem_filter];refine ⟨List.mem_range.2 hk,?_⟩;have hok:ops[k]? =some ops[k]:=by simp [hk]
     rw [hok];simp only [Bt,GX,HC,Ax];refine ⟨?_,?_⟩
     ·unfold inS at h';simp [L9,hsz,hk] at h' ⊢;exact h'
     ·rw [Array.all_eq_true_iff_forall_mem];intro ed hed;cases hb:Region.binds .any ed with
      |false=>simp
      |true=>
       have hj:ed.on∈HX ops[k]:=by
        simp only [HX,List.mem_map,List.mem_filter];exact ⟨ed,⟨by simpa using hed,hb⟩,rfl⟩
       have hlt:=sB k _ hok _ hj;have:=ih ed.on hlt VM;simpa [inS] using this
    rw [Z] at gZ;cases gZ
 refine AR Inv ?_ ?_ ?_ ops.size _ a _ ?_ ?_
 ·-- a step
  rintro L a w i (⟨hI,k0,hk0,hkp,hk0'⟩|⟨hsz,fuel,hwp⟩) O
  ·obtain ⟨hin,hun,o,ho,gX⟩:=HV O;have him:i<mm:=by
    rcases An i mm with h'|h'
    ·exact h'
    ·exfalso;exact hk0' (wK hI.dc i o (by simpa using ho) gX k0 (AJ i k0 h' hin VM hkp))
   refine wpOpIn_mono (λa' w' hI'=>?_) (Xu9 hG ⟨hX.c,hX.f,hX.d⟩ jO D3 hlen' OQ rN (mK Zp2) hI O him)
   rcases Classical.em (∀k,k<mm->k≠p->inS (L.setIfInBounds i true) k) with hf|hf
   ·exact gV _ _ _ hI' hf
   ·refine .inl ⟨hI',?_⟩;rcases Classical.not_forall.1 hf with ⟨k,hk⟩
    obtain ⟨h1,h2⟩:=Classical.not_imp.1 hk;obtain ⟨h3,h4⟩:=Classical.not_imp.1 h2;exact ⟨k,h1,h3,h4⟩
  ·cases fuel with
   |zero=>
    have h1:Region.ready .any ops L=[]:=hwp.1;rw [h1] at O;cases O
   |succ fuel=>
    refine wpOpIn_mono (λa' w' hwp'=> .inr ⟨by simp [hsz],fuel,hwp'⟩) (hwp.2 i O)
 ·rintro L a w (⟨hI,k0,hk0,hkp,hk0'⟩|⟨hsz,fuel,hwp⟩) Z
  ·exact absurd (yM L hI.size Z k0 VM) hk0'
  ·cases fuel with
   |zero=>exact hwp.2
   |succ fuel=>exact hwp.1 Z
 ·rintro L a w (⟨hI,_⟩|⟨hsz,_⟩)
  ·exact hI.size
  ·exact hsz
 ·-- the start
  have hno: ∀k,¬inS (Array.replicate ops.size false) k:=by
   intro k hk;unfold inS at hk;rw [L9,Array.getElem?_replicate] at hk;split at hk<;>cases hk
  have hI:uN ops c w0 T s W mm (Array.replicate ops.size false) a {w with drawn:=w.drawn+1}:=by
   have r:=r.drew;refine ⟨VX,λk o _ hk=>absurd hk (hno k),λk hk=>absurd hk (hno k),e,r.env,r.below,r.mem,λi c O=>absurd O (hno i),λk hk=> .inl (r.live k hk),⟨r.foe,r.xt⟩,by simpa using r.slots.1.symm,?_⟩
   intro t v hv;have hlt:t<s.σ.length:=by
    have h1:=r.slots.1;have h2:=(PB.1 hv).1;simp at h1;omega
   have Z:=r.slots.2 t s.σ[t] v (D4 hlt) (by simpa using hv)
   unfold FA;have hg:s.σ.getD t .top=s.σ[t]:=by simp [List.getD,D4 hlt]
   split
   ·rename_i k hk;rw [if_neg (show ¬(Array.replicate ops.size false).getD k false=true from hno k),hg];exact Z
   ·rw [hg];exact Z
  rcases Classical.em (∀k,k<mm->k≠p->inS (Array.replicate ops.size false) k) with hf|hf
  ·exact gV _ _ _ hI hf
  ·refine .inl ⟨hI,?_⟩;rcases Classical.not_forall.1 hf with ⟨k,hk⟩
   obtain ⟨h1,h2⟩:=Classical.not_imp.1 hk;obtain ⟨h3,h4⟩:=Classical.not_imp.1 h2;exact ⟨k,h1,h3,h4⟩
 ·unfold unl;exact Ar List.countP_le_length VX
end
def oE(P:Program)(G:List (Nat×Spec))(X:Ext)(ops:List Oper)(s:St):VP St:=match Qu1 ops (HF ops []) (List.range ops.length) with
 |some _=>Xh8 P G X ops s
 |none=>match IK ops (HF ops []) ops.length (BZ (HF ops []) ops.length) (List.range ops.length) with
  |some (p,mm)=>Xh6 P G X ops p mm s
  |none=>Xh8 P G X ops s
section
variable {P:Program}{F:Fence}{n:Nat}{Q:Exit->Act->World->Prop}
def Wi3(ops:List Oper):Bool:=ops.all λo=>match o.op with
 | .defer _=>false
 | .select _ _=>false
 |_=>true
def mvB(ops:List Oper)(p s:Nat):Bool:=match ops[p]? with
 |some op=>match op.op,op.dst with
  | .move x,some d=> !Nat.beq p s&&op.guard.isNone&&(HX op).isEmpty&&Wi3 ops&&(List.range ops.length).all (λj=>Nat.beq j p||(match ops[j]? with
   |some oj=>(HX oj).any (Nat.beq p)||op.apart ops.toArray oj
   |none=>true))
  |_,_=>false
 |none=>false
section
variable {ops:Array Oper}
theorem NK{p:Nat}{op:Oper}{x:Operand}{v:Value}(ho:ops[p]? =some op)(hop:op.op= .move x)(hg:op.guard=none){K:Act->World->Prop}{a:Act}{w:World}(hv:a.eval x=v)(h:K (a.put op.dst v) w):wpOpIn F n P ops Q p K a w:=by
 obtain ⟨dst,o,type,pos,after,guard⟩:=op;simp only at hop hg h;subst hop hg;unfold wpOpIn;rw [ho];have hw:Region.wanted (⟨dst,.move x,type,pos,after,none⟩:Oper) (yielded ops a.tmps)=true:=by simp [Region.wanted]
 have hs:(Oper.semAt F.round a.eval ⟨dst,.move x,type,pos,after,none⟩).run P w= .ok (.value v) w:=by
  rw [Oper.semAt_eq _ _ _ (λc h=>by cases h)]
  simp [execOp,hv]
 simp only [hw,if_true,Oper.wpIn,hs,Oper.uponIn];exact ⟨λf hf=>(by cases hf),h⟩
theorem T3{j:Nat}{oi oj:Oper}{x:Operand}{v:Value}(hj:ops[j]? =some oj)(hap:oi.apart ops oj=true)(hmv:oi.op= .move x)
  (hdj: ∀c,oj.op≠ .defer c)(hsj: ∀cs b,oj.op≠ .select cs b)(hQ: ∀c a w,¬Q (.panic c) a w){K:Act->World->Prop}{a:Act}{w:World}
  (hy:a.eval x=v)(h:wpOpIn F n P ops Q j K (a.put oi.dst v) w):
  wpOpIn F n P ops Q j (λa' w'=>a'.eval x=v/\K (a'.put oi.dst v) w') a w:=by
 obtain ⟨h1,h2,h3⟩:=Oper.apart_spec hap;have keep: ∀u,(a.put oj.dst u).eval x=v:=λu=>by
  rw [Act.eval_put λd hd hxd=>h3 d hd ?_]
  ·exact hy
  ·subst hxd;exact Bd _ (List.mem_filterMap.2 ⟨.tmp d,by rw [hmv];simp [Op.operands],rfl⟩)
 unfold wpOpIn at*;simp only [hj] at*;rw [wanted_put oj a oi.dst v h1,about_put oj w a oi.dst v h1] at h;split
 ·rename_i hw;simp only [hw,if_true] at h;unfold Oper.wpIn at*;rw [about_put oj w a oi.dst v h1] at h;refine ⟨h.1,?_⟩;have h:=h.2;rw [Oper.semAt_eq _ _ _ hdj,execOp_put oj hsj a oi.dst v h1] at h;rw [Oper.semAt_eq _ _ _ hdj];generalize (execOp a.eval oj).run P w=r at*;cases r with
  |ok y w'=>
   cases y<;>simp only [Oper.uponIn] at h ⊢
   case value u=>exact ⟨keep u,by rw [←Act.put_comm a v u h2];exact h⟩
   case skip=>exact ⟨keep _,by rw [←Act.put_comm a v undef h2];exact h⟩
   case defer d=>
    refine ⟨?_,?_⟩
    ·rw [show (({a with defers:=d::a.defers}:Act).put oj.dst undef).eval x=(a.put oj.dst undef).eval x from by cases oj.dst<;>cases x<;>rfl]
     exact keep undef
    ·rw [←Act.put_comm _ v undef h2,←Act.put_defers];exact h
   case enter f args=>
    refine ⟨h.1,CallsIn.mono h.2 λe w'' he=>?_⟩
    cases e with
    |returned u=>exact ⟨keep u,by rw [←Act.put_comm a v u h2];exact he⟩
    |panicked c=>exact (hQ _ _ _ he).elim
    |outgrown=>exact he
   case row row args=>exact ⟨h.1,RowsIn.mono h.2 λu w'' he=>⟨keep u,by rw [←Act.put_comm a v u h2];exact he⟩⟩
   case round l f tmps assign body=>
    refine ⟨h.1,RoundIn.mono h.2 λe w'' he=>?_⟩
    cases e with
    |returned u=>exact ⟨keep u,by rw [←Act.put_comm a v u h2];exact he⟩
    |panicked c=>exact (hQ _ _ _ he).elim
    |outgrown=>exact he
  |halt u w'=>
   cases u<;>simp only [Oper.uponIn] at h ⊢
   case panic u=>exact (hQ _ _ _ h).elim
 ·rename_i hw;simp only [hw] at h;exact ⟨h.1,keep _,by rw [←Act.put_comm a v undef h2];exact h.2⟩
theorem pH{p:Nat}{op:Oper}{x:Operand}{v:Value}(O:ops[p]? =some op)(hop:op.op= .move x)(hg:op.guard=none)
  (hnd: ∀(j:Nat) (o:Oper),ops[j]? =some o->(∀c,o.op≠ .defer c)/\ ∀cs b,o.op≠ .select cs b)(hQ: ∀c a w,¬Q (.panic c) a w)
  (Wq5: ∀j oj,ops[j]? =some oj->j≠p->(∀k∈HX oj,k≠p)->op.apart ops oj=true):
  ∀(fuel:Nat) (L:Array Bool) (a:Act) (w:World),L.size=ops.size-> ¬inS L p->p∈Region.ready .any ops L->a.eval x=v->
   wpAnyIn F n P .any ops Q fuel (L.setIfInBounds p true) (a.put op.dst v) w->wpAnyIn F n P .any ops Q (fuel+1) L a w:=by
 have hpl:p<ops.size:=(PB.1 O).1;have mono: ∀(L:Array Bool) (j:Nat),L.size=ops.size->j∈Region.ready .any ops L->j≠p->j∈Region.ready .any ops (L.setIfInBounds p true):=by
  intro L j hL hj hne;obtain ⟨g1,g2,o,g3,g4⟩:=HV hj;have hpL:p<L.size:=by rw [hL];exact hpl
  refine FC (by simp [hL]) g3 (λhh=>?_) (λk hk=>(US hpL).2 (.inr (g4 k hk)))
  rcases (US hpL).1 hh with hh|hh
  ·exact hne hh
  ·exact BY (by rw [hL];exact g1) g2 hh
 intro fuel
 induction fuel with
 |zero=>
  intro L a w hL hn Z hy H;refine ⟨λh=>(by rw [h] at Z;cases Z),λj hj=>?_⟩
  by_cases hjp:j=p
  ·subst hjp;exact NK O hop hg hy H
  ·have:=mono L j hL hj hjp;rw [H.1] at this;cases this
 |succ fuel ih=>
  intro L a w hL hn Z hy H;refine ⟨λh=>(by rw [h] at Z;cases Z),λj hj=>?_⟩
  by_cases hjp:j=p
  ·subst hjp;exact NK O hop hg hy H
  ·have h1:=H.2 j (mono L j hL hj hjp);obtain ⟨g1,g2,oj,g3,g4⟩:=HV hj;have hap:=Wq5 j oj g3 hjp λk hk he=>hn (he▸g4 k hk)
   have h2:=T3 g3 hap hop (hnd j oj g3).1 (hnd j oj g3).2 hQ hy h1;have hjL:j<L.size:=by rw [hL];exact g1
   refine wpOpIn_mono (λa' w' h3=>ih (L.setIfInBounds j true) a' w' (by simp [hL]) (λhh=>?_) ?_ h3.1 ?_) h2
   ·rcases (US hjL).1 hh with hh|hh
    ·exact hjp hh.symm
    ·exact hn hh
   ·obtain ⟨q1,q2,o',q3,q4⟩:=HV Z;refine FC (by simp [hL]) q3 (λhh=>?_) λk hk=>(US hjL).2 (.inr (q4 k hk))
    rcases (US hjL).1 hh with hh|hh
    ·exact hjp hh.symm
    ·exact hn hh
   ·rw [Array.setIfInBounds_comm _ _ hjp];exact h3.2
end
theorem Qu2{ops ops2:Array Oper}{p s:Nat}(h2:ops2.toList=PS p s ops.toList)(hmv:mvB ops.toList p s=true)(hq: ∀c a w,¬Q (.panic c) a w){a:Act}{w:World}
  (h:wpAnyIn F n P .any ops2 Q ops.size (Array.replicate ops.size false) a w):wpAnyIn F n P .any ops Q ops.size (Array.replicate ops.size false) a w:=by
 have hg: ∀j,ops2[j]? =if j=s then (ops[j]?).map (kV p) else ops[j]? :=λj=>by
  have:=z9 p s ops.toList j;rw [←h2] at this;simpa using this
 have uE:ops2.size=ops.size:=by
  have:=PL p s ops.toList;rw [←h2] at this;simpa using this
 unfold mvB at hmv;split at hmv
 rotate_left
 ·cases hmv
 rename_i op hop;have hop:ops[p]? =some op:=by simpa using hop
 split at hmv
 rotate_left
 ·cases hmv
 rename_i x d hx hd;simp only [HC,Option.isNone_iff_eq_none,Ax,B7,Bl,List.mem_range,List.isEmpty_iff] at hmv;obtain ⟨⟨⟨⟨hps,hgd⟩,sB⟩,hnd⟩,D3⟩:=hmv;have hps:p≠s:=λh=>by rw [h] at hps;simp at hps
 have hpl:p<ops.size:=(PB.1 hop).1;have hnd': ∀(j:Nat) (o:Oper),ops[j]? =some o->(∀c,o.op≠ .defer c)/\ ∀cs b,o.op≠ .select cs b:=by
  intro j o ho;unfold Wi3 at hnd;have:=B7.1 hnd o (by
   have:ops.toList[j]? =some o:=by simpa using ho
   exact F4 this)
  exact ⟨λc hc=>(by rw [hc] at this;cases this),λcs b hc=>(by rw [hc] at this;cases this)⟩
 have Wq5: ∀j oj,ops[j]? =some oj->j≠p->(∀k∈HX oj,k≠p)->op.apart ops oj=true:=by
  intro j oj hj hne hno;have hjl:j<ops.toList.length:=by simpa using (PB.1 hj).1
  rcases D3 j hjl with h|h
  ·exact absurd (H2 h) hne
  ·have hj':ops.toList[j]? =some oj:=by simpa using hj
   rw [hj'] at h;simp only [Bl] at h;rcases h with h|h
   ·exfalso;obtain ⟨k,hk,hb⟩:=List.any_eq_true.1 h;exact hno k hk (H2 hb).symm
   ·simpa using h
 -- with the move behind us both regions are one
 have sub: ∀L i,L.size=ops.size->i∈Region.ready .any ops2 L->i∈Region.ready .any ops L:=by
  intro L i hL O;obtain ⟨g1,g2,o,g3,g4⟩:=HV O;have hn: ¬inS L i:=BY (by rw [hL,←uE];exact g1) g2
  rw [hg] at g3;by_cases his:i=s
  ·rw [if_pos his,Ay] at g3;obtain ⟨os,hos,rfl⟩:=g3;exact FC hL hos hn λj hj=>g4 j (qB.2 (.inl hj))
  ·rw [if_neg his] at g3;exact FC hL g3 hn g4
 have sup: ∀L i,L.size=ops.size->i∈Region.ready .any ops L->inS L p->i∈Region.ready .any ops2 L:=by
  intro L i hL O hp;obtain ⟨g1,g2,o,g3,g4⟩:=HV O;have hn: ¬inS L i:=BY (by rw [hL];exact g1) g2
  by_cases his:i=s
  ·refine FC (by rw [hL,uE]) (o:=kV p o) (by rw [hg,if_pos his,g3];rfl) hn λj hj=>?_
   rcases qB.1 hj with hj|rfl
   ·exact g4 j hj
   ·exact hp
  ·exact FC (by rw [hL,uE]) (by rw [hg,if_neg his];exact g3) hn g4
 have hA: ∀(fuel:Nat) (L:Array Bool) (a:Act) (w:World),L.size=ops.size->inS L p->wpAnyIn F n P .any ops2 Q fuel L a w->wpAnyIn F n P .any ops Q fuel L a w:=by
  intro fuel
  induction fuel with
  |zero=>
   intro L a w hL hp h;refine ⟨?_,h.2⟩;rw [List.eq_nil_iff_forall_not_mem];intro i O;have:=sup L i hL O hp;rw [h.1] at this;cases this
  |succ fuel ih=>
   intro L a w hL hp h;refine ⟨λZ=>h.1 ?_,λi O=>?_⟩
   ·rw [List.eq_nil_iff_forall_not_mem];intro i O;have:=sub L i hL O;rw [Z] at this;cases this
   ·have hiL:i<L.size:=by rw [hL];exact (HV O).1
    exact wpOpIn_mono (λa' w' h'=>ih (L.setIfInBounds i true) a' w' (by simp [hL]) ((US hiL).2 (.inr hp)) h') ((z8 h2).1 (h.2 i (sup L i hL O hp)))
 have hno: ∀j,¬inS (Array.replicate ops.size false) j:=by
  intro j hj;unfold inS at hj;rw [L9,Array.getElem?_replicate] at hj;split at hj<;>cases hj
 have hL0:(Array.replicate ops.size false).size=ops.size:=VX;obtain ⟨f,hf⟩: ∃f,ops.size=f+1:=⟨ops.size-1,VM⟩;rw [show wpAnyIn F n P .any ops2 Q ops.size (Array.replicate ops.size false) a w=wpAnyIn F n P .any ops2 Q (f+1) (Array.replicate ops.size false) a w by rw [←hf]] at h
 rw [show wpAnyIn F n P .any ops Q ops.size (Array.replicate ops.size false) a w=wpAnyIn F n P .any ops Q (f+1) (Array.replicate ops.size false) a w by rw [←hf]]
 have hp0:p∈Region.ready .any ops (Array.replicate ops.size false):=FC hL0 hop (hno p) (λj hj=>by rw [sB] at hj;cases hj)
 have hp2:p∈Region.ready .any ops2 (Array.replicate ops.size false):=FC (by rw [hL0,uE]) (o:=op) (by rw [hg,if_neg hps];exact hop) (hno p) (λj hj=>by rw [sB] at hj;cases hj)
 have h3:=(z8 h2).1 (h.2 p hp2)
 -- the move is done
 have h4:wpAnyIn F n P .any ops2 Q f ((Array.replicate ops.size false).setIfInBounds p true) (a.put op.dst (a.eval x)) w:=by
  obtain ⟨dst,o,type,pos,after,guard⟩:=op;simp only at hx hgd;subst hx hgd;unfold wpOpIn at h3;rw [hop] at h3;have hw:Region.wanted (⟨dst,.move x,type,pos,after,none⟩:Oper) (yielded ops a.tmps)=true:=by simp [Region.wanted]
  have hs:(Oper.semAt F.round a.eval ⟨dst,.move x,type,pos,after,none⟩).run P w= .ok (.value (a.eval x)) w:=by
   rw [Oper.semAt_eq _ _ _ (λc h=>by cases h)]
   simp [execOp]
  simp only [hw,if_true,Oper.wpIn,hs,Oper.uponIn] at h3;exact h3.2
 exact pH hop hx hgd hnd' hq Wq5 f _ a w hL0 (hno p) hp0 rfl (hA f _ _ w VX ((US (by simpa using hpl)).2 (.inl rfl)) h4)
end
def mvGo(ops:List Oper)(k:Nat):Option Nat:=(List.range k).find? λp=> !Nat.testBit ((HF ops []).getD k 0) p&&mvB ops p k
def We9(P:Program)(G:List (Nat×Spec))(X:Ext):Nat->List Oper->St->VP St
 | 0,ops,s=>oE P G X ops s
 |f+1,ops,s=>match Qu1 ops (HF ops []) (List.range ops.length) with
  |some (p,k)=>match exB ops p k with
   |true=>oE P G X ops s
   |false=>match mvGo ops k with
    |some q=>match mvB ops q k with
     |true=>We9 P G X f (PS q k ops) s
     |false=>oE P G X ops s
    |none=>match IK ops (HF ops []) ops.length (BZ (HF ops []) ops.length) (List.range ops.length) with
     |some (p,mm)=>Xh6 P G X ops p mm s
     |none=>oE P G X ops s
  |none=>oE P G X ops s
theorem kA{P:Program}{G:List (Nat×Spec)}{X:Ext}{ops:Array Oper}{c:Cx}(hG:VN P G)(hX:VZ P X c)(GU:P.follows .mixedOrders=true){s:St}{R:St->Prop}{Q:Exit->Act->World->Prop}(h:(oE P G X ops.toList s).sat R){a:Act}{w:World}(r:Rel c s a w){ro:Option Nat}{n:Nat}
  (hQ: ∀s a w,R s->Rel c s a w->Q .normal a w)(hno: ∀c a w,¬Q (.panic c) a w):wpAnyIn (fr ro) n P .any ops Q ops.size (Array.replicate ops.size false) a {w with drawn:=w.drawn+1}:=by
 have hE: ∀h:(Xh8 P G X ops.toList s).sat R,wpAnyIn (fr ro) n P .any ops Q ops.size (Array.replicate ops.size false) a {w with drawn:=w.drawn+1}:=by
  intro h;unfold Xh8 at h;split at h
  ·rename_i p k _;split at h
   ·rename_i hex;have h1:=CG (ops:=(PS p k ops.toList).toArray) (Q:=Q) hG hX GU (ro:=ro) (n:=n) (R:=R) (by simpa using h) r hQ
    have hs:(PS p k ops.toList).toArray.size=ops.size:=by simp [PL]
    rw [hs] at h1;have hno': ∀j,¬inS (Array.replicate ops.size false) j:=by
     intro j hj;unfold inS at hj;rw [L9,Array.getElem?_replicate] at hj;split at hj<;>cases hj
    exact Wv3 rfl hex hno ops.size _ a _ VX (λj o _ hj=>absurd hj (hno' j)) (.inr (hno' k)) h1
   ·exact CG hG hX GU h r hQ
  ·exact CG hG hX GU h r hQ
 unfold oE at h;split at h
 ·exact hE h
 ·split at h
  ·rename_i p mm hf;obtain ⟨h1,h2⟩:=kS hf;exact eI hG hX GU h1 h2 h r hQ
  ·exact hE h
theorem eL{P:Program}{G:List (Nat×Spec)}{X:Ext}{c:Cx}(hG:VN P G)(hX:VZ P X c)(GU:P.follows .mixedOrders=true){s:St}{R:St->Prop}{Q:Exit->Act->World->Prop}{a:Act}{w:World}(r:Rel c s a w){ro:Option Nat}{n:Nat}
  (hQ: ∀s a w,R s->Rel c s a w->Q .normal a w)(hno: ∀c a w,¬Q (.panic c) a w): ∀(f:Nat) (ops:Array Oper),(We9 P G X f ops.toList s).sat R->wpAnyIn (fr ro) n P .any ops Q ops.size (Array.replicate ops.size false) a {w with drawn:=w.drawn+1}
 | 0,ops,h=>kA hG hX GU h r hQ hno
 |f+1,ops,h=>by
  unfold We9 at h;split at h
  ·rename_i p0 k _;split at h
   ·exact kA hG hX GU h r hQ hno
   ·split at h
    ·rename_i q _;split at h
     ·rename_i hb;have h1:=eL (ro:=ro) (n:=n) hG hX GU r hQ hno f (PS q k ops.toList).toArray (by simpa using h)
      have hs:(PS q k ops.toList).toArray.size=ops.size:=by simp [PL]
      rw [hs] at h1;exact Qu2 rfl hb hno h1
     ·exact kA hG hX GU h r hQ hno
    ·split at h
     ·rename_i p mm hf;obtain ⟨h1,h2⟩:=kS hf;exact eI hG hX GU h1 h2 h r hQ
     ·exact kA hG hX GU h r hQ hno
  ·exact kA hG hX GU h r hQ hno
theorem oG{P:Program}{G:List (Nat×Spec)}{X:Ext}{f:Nat}{ops:Array Oper}{c:Cx}(hG:VN P G)(hX:VZ P X c)(GU:P.follows .mixedOrders=true){id:Nat}{s:St}{R:St->Prop}{Q:Exit->Act->World->Prop}(h:(We9 P G X f ops.toList s).sat R){a:Act}{w:World}(r:Rel c s a w){ro:Option Nat}{n:Nat}
  (hQ: ∀s a w,R s->Rel c s a w->Q .normal a w):(Code.region id ops true).wpIn (fr ro) n P Q a w:=by
 refine wpIn_region_any GU ?_
 let Q':Exit->Act->World->Prop:=λe a w=>match e with
  | .normal=>Q .normal a w
  |_=>False
 refine NL (Q:=Q') (λe a w hq=>?_) (eL (Q:=Q') hG hX GU r hQ (λc a w hq=>hq) f ops h)
 cases e<;>first|exact hq|exact hq.elim
def zN:Op->Bool
 | .move _=>true
 | .assign _=>true
 | .extract _ _=>true
 | .nilCheck _=>true
 | .fieldAddr _ _ _=>true
 | .load _ _=>true
 | .lookup _ _ _ _=>true
 |_=>false
def Zm3:Op->Bool
 | .lookup _ _ _ _=>true
 |_=>false
section
variable {P:Program}
def stT(P:Program):List Oper->St->VP St
 |[],s=> .leaf s
 |o::rest,s=>match o.guard with
  |some _=> .fail
  |none=>match zN o.op with
   |false=> .fail
   |true=>match aop P [] s.nx s.m (rho s.σ) o.op with
    |some (ns,val,_)=> .needT ns (stT P rest {s with σ:=xJ s.σ o.dst val})
    |none=>match mH P s.m (rho s.σ) o.op with
     |some (ns,p,v1,v2)=> .needT ns (.may p (stT P rest {s with σ:=xJ s.σ o.dst v1}) (stT P rest {s with σ:=xJ s.σ o.dst v2}))
     |none=> .fail
section
variable {o:Oper}{a:Act}{w:World}
theorem L1{v:Value}{K:Act->Prop}(h:(execOp a.eval o).run P w= .ok (.value v) w)(k:K (a.put o.dst v)):o.still P a w K:=by
 unfold Oper.still;rw [h];exact ⟨rfl,k⟩
theorem cT{s:Sem Value}{K:Act->Prop}(hs:execOp a.eval o=(do pure (.value (←s))))(h:o.wp P a w (λa' w'=>w'=w/\K a') (λ_ _ _=>False)):o.still P a w K:=by
 unfold Oper.wp at h;rw [hs,At] at h;unfold Oper.still;rw [hs,At];cases Z:s.run P w with
 |ok u w'=>
  rw [Z] at h;simp only [Au,Sem.run_pure,Oper.upon] at h;simp only [Au,Sem.run_pure,Oper.stillUpon];exact h
 |halt x w'=>
  rw [Z] at h;cases x<;>simp [Result.andThen,Oper.upon] at h
end
section
variable {e:UN}{w:World}{m:H5}
theorem Qw4{id:Nat}{ρ:Operand->AV}{o:Oper}{a:Act}{ns:List Prop}{val:AV}{add:Option GS}(ho:zN o.op=true)
  (h:aop P [] id m ρ o.op=some (ns,val,add))(hn: ∀p∈ns,p)(hm:UX e m w)(Z: ∀x,Rep e w (ρ x) (a.eval x))
  {K:Act->Prop}(hK: ∀v,Rep e w val v->K (a.put o.dst v)):o.still P a w K:=by
 obtain ⟨dst,op,type,pos,after,guard⟩:=o;cases op<;>try (simp [zN] at ho;done)
 case move x=>
  simp only [aop,HH,FE] at h;obtain ⟨rfl,rfl,rfl⟩:=h;exact L1 (v:=a.eval x) (by simp [execOp]) (hK _ (Z x))
 case assign x=>
  simp only [aop,HH,FE] at h;obtain ⟨rfl,rfl,rfl⟩:=h;exact L1 (v:=a.eval x) (by simp [execOp]) (hK _ (Z x))
 case load t x=>
  obtain ⟨rfl,ad,u,hv,hu,GN⟩:=kG (P:=P) (by simpa only [aop] using h) hn hm (Z x)
  exact L1 (v:=u) (by simp [execOp,Instr.loadAt,Instr.sureAddr,hv,hu]) (hK _ GN)
 case nilCheck x=>
  simp only [aop] at h;have hx:=Z x;have fin:val=ρ x->(∃ad,a.eval x= .pointer (some ad))\/(∃f l l',a.eval x= .func (.func f) l l')->Oper.still P ⟨dst,.nilCheck x,type,pos,after,guard⟩ a w K:=by
   rintro rfl hv;refine L1 (v:=a.eval x) ?_ (hK _ (Z x));rcases hv with ⟨ad,hv⟩|⟨f,l,l',hv⟩<;>simp [execOp,hv]
  split at h
  ·rename_i heq;rw [heq] at hx;cases h;exact fin heq.symm (.inl hx.ptr_inv)
  ·rename_i heq;rw [heq] at hx;cases h;exact fin heq.symm (.inl hx.ro_inv)
  ·rename_i heq;rw [heq] at hx;cases h;exact fin heq.symm (.inl hx.elt_inv)
  ·rename_i heq;rw [heq] at hx;cases h;exact fin heq.symm (.inl hx.roI_inv)
  ·rename_i heq;rw [heq] at hx;cases h;obtain ⟨vs,vs',hv,_⟩:=hx.fn_inv;exact fin heq.symm (.inr ⟨_,_,_,hv⟩)
  ·cases h
 case fieldAddr t x k=>
  simp only [aop] at h;unfold wI at h;split at h
  ·rename_i fs hu;split at h
   ·rename_i f hf;split at h
    ·rename_i i O;split at h
     ·cases h
     ·rename_i s hs;obtain ⟨k1,rfl,rfl⟩:=RI h;obtain ⟨ad,hv,GN⟩:=vN k1 (Z x);refine L1 (v:=_) ?_ (hK _ GN);simp [execOp,hv,Instr.fieldAt,run_underlying hu,hf,Instr.sureAddr,fieldPlace,sizeOf,typeInfo,O,hs]
    ·cases h
   ·cases h
  ·cases h
 case extract x i=>
  simp only [aop] at h;have hx:=Z x;split at h
  ·rename_i l heq;rw [heq] at hx;obtain ⟨k1,rfl,rfl⟩:=RI h;obtain ⟨vs,hv,hvs⟩:=hx.tup_inv;obtain ⟨u,hu,GN⟩:=hvs.get k1;exact L1 (v:=u) (by simp [execOp,Instr.extract,hv,hu]) (hK _ GN)
  ·cases h
 case lookup t x k ok=>
  obtain ⟨rfl,u,h1,h2⟩:=rJ (P:=P) (by simpa only [aop] using h) (Z x) (Z k)
  exact L1 (v:=u) (by simp [execOp,h1]) (hK _ h2)
theorem tG{ρ:Operand->AV}{o:Oper}{a:Act}{ns:List Prop}{p:Prop}{v1 v2:AV}(ho:zN o.op=true)(h:mH P m ρ o.op=some (ns,p,v1,v2))(hn: ∀p∈ns,p)(hm:UX e m w)(Z: ∀x,Rep e w (ρ x) (a.eval x))
  {K:Act->Prop}(hK: ∀v,(p/\Rep e w v1 v)\/Rep e w v2 v->K (a.put o.dst v)):o.still P a w K:=by
 have hwp:=M6 (P:=P) (o:=o) (a:=a) (K:=λa' w'=>w'=w/\K a') (Q:=λ_ _ _=>False) h hn hm Z (λv hv=>⟨rfl,hK v hv⟩)
 obtain ⟨dst,op,type,pos,after,guard⟩:=o;cases op<;>try (simp [zN] at ho;done)
 case lookup t x k ok=>exact cT rfl hwp
 all_goals simp [mH] at h
end
theorem yC{ops:Array Oper}{c:Cx}{w0:World}{T:Nat->Prop}{e:UN}{w:World}{R:St->Prop}{g:Option Nat}: ∀(l:List Oper) (s:St) (a:Act),(stT P l s).sat R->s.gh=g->F7 c w0 T e s a w->
  wpStill P ops w (λa'=> ∃s',R s'/\s'.gh=g/\F7 c w0 T e s' a' w) l a
 |[],s,a,h,hg,r=>⟨s,h,hg,r⟩
 |o::rest,s,a,h,hgh,r=>by
  unfold stT at h;split at h
  ·exact h.elim
  ·rename_i hg;split at h
   ·exact h.elim
   ·rename_i ho;have hw:Region.wanted o (yielded ops a.tmps)=true:=by simp [Region.wanted,hg]
    unfold wpStill;rw [if_pos hw];have keep: ∀{av:AV} {v:Value},Rep e w av v->F7 c w0 T e {s with σ:=xJ s.σ o.dst av} (a.put o.dst v) w:=λGN=>
     ⟨r.env,r.below,r.mem,r.live,r.foe,by rw [put_defers];exact r.xt,qE r.slots o.dst GN⟩
    split at h
    ·rename_i ns val add ha;obtain ⟨hn,h⟩:=VP.sat_needT h;exact Qw4 ho ha (GF hn) r.mem (FM r.slots) λv hv=>yC rest _ _ h hgh (keep hv)
    ·split at h
     ·rename_i ns p v1 v2 ha;obtain ⟨hn,h⟩:=VP.sat_needT h;refine tG ho ha (GF hn) r.mem (FM r.slots) λv hv=>?_
      rcases hv with ⟨hp,hv⟩|hv
      ·exact yC rest _ _ (h.1 hp) hgh (keep hv)
      ·exact yC rest _ _ h.2 hgh (keep hv)
     ·exact h.elim
theorem xD{ops:Array Oper}{md:Region.Mode}{w:World}{ro:Option Nat}{n:Nat}{Q:Act->Prop}{Q':Exit->Act->World->Prop}(hnd: ∀(j:Nat) (o:Oper),ops[j]? =some o-> ∀c,o.op≠ .defer c)(hQ: ∀a,Q a->Q' .normal a w):
  ∀(fuel:Nat) (listed:Array Bool) (a:Act),wpAnyS P md ops w Q fuel listed a->wpAnyIn (fr ro) n P md ops Q' fuel listed a w
 | 0,_,_,h=>⟨h.1,hQ _ h.2⟩
 |fuel+1,listed,a,h=>⟨λh0=>hQ _ (h.1 h0),λi O=>by
  have h:=h.2 i O;have ih:=λl a=>xD (md:=md) (ro:=ro) (n:=n) hnd hQ fuel l a
  unfold stOp at h;unfold wpOpIn;cases ho:ops[i]? with
  |none=>
   simp only [ho] at h;exact ih _ _ h
  |some o=>
   simp only [ho] at h;simp only;by_cases hw:Region.wanted o (yielded ops a.tmps)=true
   ·rw [if_pos hw] at h ⊢;exact HO (hnd i o ho) (Oper.wp_of_still (λa' h'=>ih _ a' h') h)
   ·rw [if_neg hw] at h ⊢;exact ⟨λf _=>trivial,ih _ _ h⟩⟩
def M8(ops:List Oper):Bool:=ops.any (λo=>Zm3 o.op)&&(ops.all (λo=>zN o.op)&&Region.lexB .any ops.toArray)
theorem cS{ops:Array Oper}{c:Cx}(GU:P.follows .mixedOrders=true){id:Nat}{s:St}{R:St->Prop}{Q:Exit->Act->World->Prop}(hB:M8 ops.toList=true)(h:(stT P ops.toList s).sat R){a:Act}{w:World}(r:Rel c s a w){ro:Option Nat}{n:Nat}
  (hQ: ∀s a w,R s->Rel c s a w->Q .normal a w):(Code.region id ops true).wpIn (fr ro) n P Q a w:=by
 obtain ⟨w0,T,e,hΦ,r⟩:=r;unfold M8 at hB;simp only [HC] at hB;obtain ⟨_,hs,Wq4⟩:=hB;have Wq4:Region.lexB .any ops=true:=by simpa using Wq4
 simp only [Region.lexB,HC] at Wq4;refine wpIn_region_any GU ?_;have h1:=yC (ops:=ops) ops.toList s a h rfl r.drew;have h2:=wpAnyS_lex (md:= .any) Wq4.1 ops.toList 0 (Array.replicate ops.size false) a VX (by simpa using Wq4.2) h1
 refine xD (Q:=λa'=> ∃s',R s'/\s'.gh=s.gh/\F7 c w0 T e s' a' {w with drawn:=w.drawn+1}) (λj o hj c hc=>?_) ?_ ops.size _ a (by simpa using h2)
 rotate_left
 ·rintro a' ⟨s',hR,hgh,r'⟩;exact hQ s' a' _ hR ⟨w0,T,e,by rw [hgh];exact hΦ,r'⟩
 have:=B7.1 hs o (by
  have:ops.toList[j]? =some o:=by simpa using hj
  exact F4 this)
 rw [hc] at this;simp [zN] at this
end
def Xh7(P:Program)(G:List (Nat×Spec))(X:Ext)(ops:List Oper)(s:St):VP St:=match M8 ops with
 |true=>stT P ops s
 |false=>We9 P G X 4 ops s
theorem CF{P:Program}{G:List (Nat×Spec)}{X:Ext}{ops:Array Oper}{c:Cx}(hG:VN P G)(hX:VZ P X c)(GU:P.follows .mixedOrders=true){id:Nat}{s:St}{R:St->Prop}{Q:Exit->Act->World->Prop}(h:(Xh7 P G X ops.toList s).sat R){a:Act}{w:World}(r:Rel c s a w){ro:Option Nat}{n:Nat}
  (hQ: ∀s a w,R s->Rel c s a w->Q .normal a w):(Code.region id ops true).wpIn (fr ro) n P Q a w:=by
 unfold Xh7 at h;split at h
 ·rename_i hB;exact cS GU hB h r hQ
 ·exact oG hG hX GU h r hQ
inductive G9 where
 |normal
 |exit (id:Nat)
 |ret
def G9.ex:G9->Exit
 | .normal=> .normal
 | .exit id=> .exit id
 | .ret=> .ret
abbrev CT:=VP (G9×St)
def CN(cx:Cx)(Q:G9×St->Prop):Exit->Act->World->Prop:=λe a w=> ∃x s,e=G9.ex x/\Q (x,s)/\Rel cx s a w
abbrev UL:=St->Option CT
def HL(P:Program)(ro:Option Nat)(cx:Cx)(c:Code)(sp:UL):Prop:= ∀(n:Nat) (s:St) (t:CT),sp s=some t-> ∀Q:G9×St->Prop,t.sat Q-> ∀(a:Act) (w:World),Rel cx s a w->c.wpIn (fr ro) n P (CN cx Q) a w
def GA(P:Program)(c:Code)(sp:UL):Prop:= ∀(ro:Option Nat) (cx:Cx),HL P ro cx c sp
def GH:Code->Nat
 | .seq a b=>GH a+GH b
 | .cond _ a b=>GH a+GH b
 | .block _ c=>GH c
 | .scope c=>GH c
 | .loop _=>1
 | .rangeFunc .. =>1
 |_=>0
def VV:Code->Nat->Option Code
 | .seq a b,j=>match Nat.blt j (GH a) with
  |true=>VV a j
  |false=>VV b (j-GH a)
 | .cond _ a b,j=>match Nat.blt j (GH a) with
  |true=>VV a j
  |false=>VV b (j-GH a)
 | .block _ c,j=>VV c j
 | .scope c,j=>VV c j
 | .loop c,j=>match j with
  | 0=>some (.loop c)
  |_+1=>none
 | .rangeFunc f ps a b,j=>match j with
  | 0=>some (.rangeFunc f ps a b)
  |_+1=>none
 |_,_=>none
theorem P6: ∀(c:Code) (j:Nat),GH c<=j->VV c j=none:=by
 intro c
 induction c with
 |seq a b iha ihb=>
  intro j hj;simp only [GH] at hj;unfold VV;have:Nat.blt j (GH a)=false:=by
   rw [Bool.eq_false_iff,ne_eq,Aw];omega
  rw [this];exact ihb _ VM
 |cond t a b iha ihb=>
  intro j hj;simp only [GH] at hj;unfold VV;have:Nat.blt j (GH a)=false:=by
   rw [Bool.eq_false_iff,ne_eq,Aw];omega
  rw [this];exact ihb _ VM
 |block id c ih=>intro j hj;exact ih j hj
 |scope c ih=>intro j hj;exact ih j hj
 |loop c ih=>intro j hj;simp only [GH] at hj;cases j with|zero=>omega|succ j=>rfl
 |rangeFunc f ps a b iha ihb=>intro j hj;simp only [GH] at hj;cases j with|zero=>omega|succ j=>rfl
 |_=>intro j _;rfl
def lX(s:St):Operand->Bool->St
 | .tmp t,b=>Xj4 s t b
 |_,_=>s
theorem AQ{F:Fence}{n:Nat}{P:Program}{Q:Exit->Act->World->Prop}{a:Act}{w:World}{c:Code}(h:c.wpIn F n P (Exit.noGoto Q) a w):(Code.scope c).wpIn F n P Q a w:=by
 intro b k cs hro hb Z;obtain ⟨e,a₁,w₁,hq,uG⟩:=h b (.inScope c::k) cs hro hb Z;have s1:step P (lone (b.atR a (.code (.scope c)::k)) cs w)= .next (lone (b.atR a (.code c:: .inScope c::k)) cs w):=step_lone_go (by simp [stepG,stepG.exec,Frame.atR])
 have s2:step P (lone (b.atR a₁ (.inScope c::k)) cs w₁)= .next (lone (b.atR a₁ k) cs w₁):=step_lone_go (by simp [stepG,stepG.exec,Frame.atR])
 have h0:(lone (b.atR a (.code (.scope c)::k)) cs w).fenced P F:=fenced_calm hb Z rfl;cases e with
 |normal=>exact ⟨.normal,a₁,w₁,hq,.head h0 s1 (StepsIn.trans uG (.one (fenced_calm hb Z rfl) s2))⟩
 |exit id=>
  have hx:exitTo id (.inScope c::k)=exitTo id k:=by simp [exitTo]
  exact ⟨.exit id,a₁,w₁,hq,λk' hk=> .head h0 s1 (uG.1 k' (by rw [hx];exact hk)),λhr' hk=>let ⟨k₁,h1,h2⟩:=uG.2 hr' (by rw [hx];exact hk);⟨k₁,h1,.head h0 s1 h2⟩⟩
 |goto l=>exact hq.elim
 |ret=>exact ⟨_,a₁,w₁,hq,.of_steps (.one h0 s1) uG⟩
 |panic ch=>exact ⟨_,a₁,w₁,hq,.of_steps (.one h0 s1) uG⟩
 |outgrown=>exact ⟨_,a₁,w₁,hq,.of_steps (.one h0 s1) uG⟩
def D9(P:Program)(G:List (Nat×Spec))(X:Ext)(L:List UL):Code->Nat->St->CT
 | .skip,_,s=> .leaf (.normal,s)
 | .label _,_,s=> .leaf (.normal,s)
 | .region _ ops draw,_,s=>match draw with
  |true=>(Xh7 P G X ops.toList s).bind λs=> .leaf (.normal,s)
  |false=>(We8 P G X ops.toList ops.toList s).bind λs=> .leaf (.normal,s)
 | .seq a b,off,s=>(D9 P G X L a off s).bind λp=>match p.1 with
  | .normal=>D9 P G X L b (off+GH a) p.2
  |x=> .leaf (x,p.2)
 | .cond c a b,off,s=>match rho s.σ c with
  | .lit true=>D9 P G X L a off s
  | .lit false=>D9 P G X L b (off+GH a) s
  | .x (.bool t)=> .branch t (D9 P G X L a off (lX s c true)) (D9 P G X L b (off+GH a) (lX s c false))
  |_=> .fail
 | .block id c,off,s=>(D9 P G X L c off s).bind λp=>match p.1 with
  | .exit i=>match Nat.beq i id with
   |true=> .leaf (.normal,p.2)
   |false=> .leaf (.exit i,p.2)
  |x=> .leaf (x,p.2)
 | .scope c,off,s=>D9 P G X L c off s
 | .loop _,off,s=>match L[off]? with
  |some f=>match f s with
   |some t=>t
   |none=> .fail
  |none=> .fail
 | .rangeFunc _ _ _ _,off,s=>match L[off]? with
  |some f=>match f s with
   |some t=>t
   |none=> .fail
  |none=> .fail
 | .exit id,_,s=> .leaf (.exit id,s)
 | .ret,_,s=> .leaf (.ret,s)
 | .goto _,_,_=> .fail
 | .refuse _,_,_=> .fail
theorem dB{cx:Cx}{s:St}{a:Act}{w:World}{c:Operand}{b d:Bool}(r:Rel cx s a w)(hc:rho s.σ c= .x (.bool b))(hb:b=d):Rel cx (lX s c d) a w:=by
 obtain ⟨w0,T,e,hΦ,r⟩:=r;cases c with
 |tmp t=>exact ⟨w0,T,e,hΦ,aF r hc hb⟩
 |_=>exact ⟨w0,T,e,hΦ,r⟩
theorem DB{P:Program}{G:List (Nat×Spec)}{X:Ext}{cx:Cx}{L:List UL}(hG:VN P G)(hX:VZ P X cx)(GU:P.follows .mixedOrders=true){ro:Option Nat}{n:Nat}:
  ∀(c:Code) (off:Nat) (s:St) (Q:G9×St->Prop) (a:Act) (w:World),(∀j cj,VV c j=some cj-> ∀sp,L[off+j]? =some sp->HL P ro cx cj sp)->(D9 P G X L c off s).sat Q->Rel cx s a w->c.wpIn (fr ro) n P (CN cx Q) a w:=by
 intro c
 induction c with
 |skip=>intro off s Q a w _ h r;exact wpIn_skip ⟨.normal,s,rfl,h,r⟩
 |label l=>intro off s Q a w _ h r;exact wpIn_label ⟨.normal,s,rfl,h,r⟩
 |region id ops draw=>
  intro off s Q a w _ h r;unfold D9 at h;cases draw with
  |true=>exact CF hG hX GU (VP.sat_bind h) r (λs' a' w' hs Z=>⟨.normal,s',rfl,hs,Z⟩)
  |false=>
   refine wpIn_region ?_;have:=vO hG hX (ro:=ro) (n:=n) (ops:=ops) (Q:=CN cx Q) (R:=λs=>Q (.normal,s)) (λs' a' w' hs Z=>⟨.normal,s',rfl,hs,Z⟩) ops.toList 0 VX s a w (VP.sat_bind h) r
   rwa [Nat.sub_zero,←List.range_eq_range'] at this
 |seq x y ihx ihy=>
  intro off s Q a w hL h r;unfold D9 at h;refine wpIn_seq ?_;have hx:=ihx off s _ a w (λj cj hj sp hsp=>hL j cj (by
   unfold VV;have hlt:j<GH x:=by
    rcases An j (GH x) with h'|h'
    ·exact h'
    ·exfalso;rw [P6 x j h'] at hj;cases hj
   have:Nat.blt j (GH x)=true:=by rw [Aw];exact hlt
   rw [this];exact hj) sp hsp) (VP.sat_bind h) r
  refine wpIn_mono hx ?_;rintro e a' w' ⟨ex,s',rfl,hq,Z⟩;cases ex with
  |normal=>
   simp only [G9.ex,Exit.then]
   refine ihy (off+GH x) s' Q a' w' (λj cj hj sp hsp=>hL (GH x+j) cj ?_ sp (by rw [←Ba];exact hsp)) hq Z
   unfold VV;have:Nat.blt (GH x+j) (GH x)=false:=by rw [Bool.eq_false_iff,ne_eq,Aw];omega
   rw [this];simpa using hj
  |exit i=>exact ⟨.exit i,s',rfl,hq,Z⟩
  |ret=>exact ⟨.ret,s',rfl,hq,Z⟩
 |cond t x y ihx ihy=>
  intro off s Q a w hL h r;have hLx: ∀j cj,VV x j=some cj-> ∀sp,L[off+j]? =some sp->HL P ro cx cj sp:=by
   intro j cj hj sp hsp;refine hL j cj ?_ sp hsp;unfold VV;split
   ·exact hj
   ·rename_i hb;exfalso;have hge:GH x<=j:=by
     rw [Bool.eq_false_iff,ne_eq,Aw] at hb;omega
    rw [P6 x j hge] at hj;cases hj
  have hLy: ∀j cj,VV y j=some cj-> ∀sp,L[off+GH x+j]? =some sp->HL P ro cx cj sp:=by
   intro j cj hj sp hsp;refine hL (GH x+j) cj ?_ sp (by rw [←Ba];exact hsp)
   unfold VV;have:Nat.blt (GH x+j) (GH x)=false:=by rw [Bool.eq_false_iff,ne_eq,Aw];omega
   rw [this];simpa using hj
  unfold D9 at h;have r0:=r;obtain ⟨w0,T,e,hΦ,re⟩:=r;have hc:=FM re.slots t;split at h
  ·rename_i heq;rw [heq] at hc;exact wpIn_cond_true hc.lit_inv (ihx off s Q a w hLx h r0)
  ·rename_i heq;rw [heq] at hc;exact wpIn_cond_false hc.lit_inv (ihy _ s Q a w hLy h r0)
  ·rename_i b heq;rw [heq] at hc;cases b
   ·exact wpIn_cond_false hc.x_inv (ihy _ _ Q a w hLy (h.2 rfl) (dB r0 heq rfl))
   ·exact wpIn_cond_true hc.x_inv (ihx _ _ Q a w hLx (h.1 rfl) (dB r0 heq rfl))
  ·exact h.elim
 |block id c ih=>
  intro off s Q a w hL h r;unfold D9 at h;refine wpIn_block (wpIn_mono (ih off s _ a w hL (VP.sat_bind h) r) ?_);rintro e a' w' ⟨ex,s',rfl,hq,Z⟩;cases ex with
  |normal=>exact ⟨.normal,s',rfl,hq,Z⟩
  |ret=>exact ⟨.ret,s',rfl,hq,Z⟩
  |exit i=>
   simp only [G9.ex,Exit.inBlock];simp only at hq;split at hq
   ·rename_i hb;rw [if_pos (H2 hb)];exact ⟨.normal,s',rfl,hq,Z⟩
   ·rename_i hb;rw [if_neg (λhe=>by subst he;simp at hb)]
    exact ⟨.exit i,s',rfl,hq,Z⟩
 |scope c ih=>
  intro off s Q a w hL h r;unfold D9 at h;refine AQ (wpIn_mono (ih off s Q a w hL h r) ?_);rintro e a' w' ⟨ex,s',rfl,hq,Z⟩;cases ex with
  |normal=>exact ⟨.normal,s',rfl,hq,Z⟩
  |ret=>exact ⟨.ret,s',rfl,hq,Z⟩
  |exit i=>exact ⟨.exit i,s',rfl,hq,Z⟩
 |loop c ih=>
  intro off s Q a w hL h r;unfold D9 at h;split at h
  ·rename_i f hf;split at h
   ·rename_i t ht;exact hL 0 _ rfl f (by simpa using hf) n s t ht Q h a w r
   ·exact h.elim
  ·exact h.elim
 |rangeFunc f ps x y ihx ihy=>
  intro off s Q a w hL h r;unfold D9 at h;split at h
  ·rename_i f hf;split at h
   ·rename_i t ht;exact hL 0 _ rfl f (by simpa using hf) n s t ht Q h a w r
   ·exact h.elim
  ·exact h.elim
 |exit id=>intro off s Q a w _ h r;exact wpIn_exit ⟨.exit id,s,rfl,h,r⟩
 |ret=>intro off s Q a w _ h r;exact wpIn_ret ⟨.ret,s,rfl,h,r⟩
 |goto l=>intro off s Q a w _ h r;exact h.elim
 |refuse y=>intro off s Q a w _ h r;exact h.elim
def Wu0(P:Program)(m:H5)(t:TypeId):AV->Bool
 | .ptr id off=>match Nat.beq off 0 with
  |true=>match DJ m id with
   |some (.ints _ pre n _)=>match pre with
    |[]=>match P.info? t with
     |some i=>Nat.ble i.size n&&Nat.blt 0 n
     |none=>false
    |_::_=>false
   |_=>false
  |false=>false
 |_=>false
theorem sI{P:Program}{m:H5}{t:TypeId}{a:AV}{ns:List Prop}{v:AV}{add:Option GS}(h:Wu0 P m t a=true)(hl:BL P m t a=some (ns,v,add)): ∀p∈ns,p:=by
 unfold Wu0 at h;split at h
 ·rename_i id off;split at h
  ·rename_i aK;have aK:=H2 aK;subst aK;split at h
   ·rename_i T pre n f hg;split at h
    ·split at h
     ·rename_i i O;simp only [HC] at h;have h1:=qY h.1;have h2:0<n:=by have:=h.2;simp [Nat.blt] at this;omega
      simp only [BL,hg] at hl;unfold ldI at hl;split at hl
      ·rename_i hb;simp at hb
      ·split at hl
       ·rename_i fs i' hu hi';rw [O] at hi';cases hi';simp only [HH,FE] at hl;obtain ⟨rfl,_,_⟩:=hl;intro p hp;rw [B6.1 hp,wA];simpa using h1
       ·rename_i fs i' hu hi';rw [O] at hi';cases hi';simp only [HH,FE] at hl;obtain ⟨rfl,_,_⟩:=hl;intro p hp;rw [B6.1 hp,wA];simpa using h1
       ·simp only [HH,FE] at hl;obtain ⟨rfl,_,_⟩:=hl;intro p hp;rw [B6.1 hp,wA];simpa using h2
       ·cases hl
     ·cases h
    ·cases h
   ·cases h
  ·cases h
 ·cases h
def TG(P:Program)(s:St):ResultVar->Option AV
 | .tmp t=>some (s.σ.getD t .top)
 | .cell t T=>match BL P s.m T (s.σ.getD t .top) with
  |some ([],v,none)=>some v
  |some (_::_,v,none)=>match Wu0 P s.m T (s.σ.getD t .top) with
   |true=>some v
   |false=>none
  |_=>none
def Qo0(P:Program)(s:St):List ResultVar->Option (List AV)
 |[]=>some []
 |r::rs=>match TG P s r,Qo0 P s rs with
  |some v,some vs=>some (v::vs)
  |_,_=>none
def BT(P:Program)(s:St)(rs:List ResultVar):Option AV:=
 match Qo0 P s rs with
 |some [v]=>some v
 |some vs=>some (.tup vs)
 |none=>none
def CC(tmps:Array Value):ResultVar->Sem Value
 | .tmp t=>pure (tmps.getD t undef)
 | .cell p t=>do loadVar t (←asAddr (tmps.getD p undef))
theorem oD(fn:Func)(tmps:Array Value):results fn tmps=(do let vs ←fn.results.mapM (CC tmps);pure (if h:vs.size=1 then vs[0] else .tuple vs)):=by
 unfold results
 congr 1
theorem TF{P:Program}{e:UN}{s:St}{tmps:Array Value}{w:World}(hm:UX e s.m w)(hs:U5 e w s.σ tmps.toList){x:ResultVar}{v:AV}(h:TG P s x=some v):
  ∃u,(CC tmps x).run P w= .ok u w/\Rep e w v u:=by
 cases x with
 |tmp t=>
  simp only [TG,HH] at h;subst h;exact ⟨_,rfl,FM (a:={tmps:=tmps,defers:=[] }) hs (.tmp t)⟩
 |cell p T=>
  simp only [TG] at h;have fin: ∀(ns:List Prop) (v':AV),BL P s.m T (s.σ.getD p .top)=some (ns,v',none)->(∀p∈ns,p)->v'=v-> ∃u,(CC tmps (.cell p T)).run P w= .ok u w/\Rep e w v u:=by
   rintro ns v' hl hn rfl;have Z:=FM (a:={tmps:=tmps,defers:=[] }) hs (.tmp p);simp only [rho,Act.eval] at Z;obtain ⟨_,ad,u,had,hu,GN⟩:=kG (P:=P) hl hn hm Z;exact ⟨u,by simp only [CC,had,asAddr,At,Sem.run_pure,Au,hu],GN⟩
  split at h
  ·rename_i v' hl;cases h;exact fin _ _ hl (λp hp=>by cases hp) rfl
  ·rename_i q qs v' hl;split at h
   ·rename_i hf;cases h;exact fin _ _ hl (sI hf hl) rfl
   ·cases h
  ·cases h
theorem CD{P:Program}{e:UN}{s:St}{tmps:Array Value}{w:World}(hm:UX e s.m w)(hs:U5 e w s.σ tmps.toList): ∀{rs:List ResultVar} {vs:List AV},Qo0 P s rs=some vs->
  ∃us:List Value,(rs.mapM (CC tmps)).run P w= .ok us w/\U5 e w vs us
 |[],vs,h=>by simp [Qo0] at h;subst h;exact ⟨[],VX,U5.nil e w⟩
 |x::rs,vs,h=>by
  unfold Qo0 at h;split at h
  ·rename_i v vs' h1 h2;cases h;obtain ⟨u,hu,Z⟩:=TF hm hs h1;obtain ⟨us,hus,hrs⟩:=CD hm hs h2;exact ⟨u::us,by simp only [List.mapM_cons,At,hu,Au,hus,Sem.run_pure],U5.cons Z hrs⟩
  ·cases h
theorem DN{P:Program}{e:UN}{s:St}{tmps:Array Value}{w:World}(hm:UX e s.m w)(hs:U5 e w s.σ tmps.toList){fn:Func}{v:AV}(h:BT P s fn.results.toList=some v): ∃u,(results fn tmps).run P w= .ok u w/\Rep e w v u:=by
 unfold BT at h;have key: ∀vs,Qo0 P s fn.results.toList=some vs-> ∃us:List Value,U5 e w vs us/\(results fn tmps).run P w= .ok (if h:us.toArray.size=1 then us.toArray[0] else .tuple us.toArray) w:=by
  intro vs hvs;obtain ⟨us,hus,hrs⟩:=CD hm hs hvs;refine ⟨us,hrs,?_⟩;rw [oD,Array.mapM_eq_mapM_toList];simp only [At,Sem.run_map,hus,Au,Sem.run_pure]
 split at h
 ·rename_i v' hv;cases h;obtain ⟨us,hrs,DS⟩:=key _ hv;obtain ⟨u,us',rfl,hu,hus⟩:=hrs.cons_inv;cases hus.nil_inv;exact ⟨u,by simpa using DS,hu⟩
 ·rename_i vs hne hv;cases h;obtain ⟨us,hrs,DS⟩:=key _ hv;refine ⟨.tuple us.toArray,?_,Rep.tupL hrs⟩;have HZ:us.toArray.size≠1:=by
   intro h1;simp at h1;have hvl:vs.length=1:=by rw [hrs.1,h1]
   obtain ⟨x,hx⟩:=List.length_eq_one_iff.1 hvl;exact hne x hx
  rw [dif_neg HZ] at DS;exact DS
 ·cases h
inductive jW (m:H5):AV->AV->Prop
 |top (r:AV):jW m r .top
 |x (v:Value):jW m (.x v) (.x v)
 |lit (b:Bool):jW m (.lit b) (.lit b)
 |litx (b:Bool):jW m (.lit b) (.x (.bool b))
 |agg (l l':List AV):l.length=l'.length->(∀(i:Nat) (a b:AV),l[i]? =some a->l'[i]? =some b->jW m a b)->jW m (.agg l) (.agg l')
 |tup (l l':List AV):l.length=l'.length->(∀(i:Nat) (a b:AV),l[i]? =some a->l'[i]? =some b->jW m a b)->jW m (.tup l) (.tup l')
 |row (id T sz n:Nat) (f f':Nat->List AV):DJ m id=some (.row T sz n f)->(∀i,i<n->f i=f' i)->(∀i,i<n-> ∀a∈f' i,∃v,a= .x v)->jW m (.row id) (.lst sz n f')
 |nil (sz:Nat) (f:Nat->List AV):jW m (.x (.slice none 0 0)) (.lst sz 0 f)
 |fn0 (f:Fn):jW m (.fn f [] []) (.fn f [] [])
theorem jW.rep{e:UN}{B:Nat}{w0 w:World}{m:H5}(hE:G4 e B w)(hB:w0.heap.size=B)(hm:UX e m w){r res:AV}{v:Value}(h:jW m r res)(k:Rep e w r v):Rep (PJ w0 w) w res v:=by
 induction h generalizing v with
 |top r=>exact .top v
 |x u=>cases k.x_inv;exact .x _
 |lit b=>cases k.lit_inv;exact .lit _
 |litx b=>cases k.lit_inv;exact .x _
 |agg l l' hl hf ih=>
  obtain ⟨vs,rfl,h1,h2⟩:=k.agg_inv;refine .agg l' vs (by rw [←hl,h1]) (λi a u ha hu=>?_)
  have O:i<l.length:=by rw [hl];exact (FW.1 ha).1
  exact ih i _ a (D4 O) ha (h2 i _ u (D4 O) hu)
 |tup l l' hl hf ih=>
  obtain ⟨vs,rfl,h1,h2⟩:=k.tup_inv;refine .tup l' vs (by rw [←hl,h1]) (λi a u ha hu=>?_)
  have O:i<l.length:=by rw [hl];exact (FW.1 ha).1
  exact ih i _ a (D4 O) ha (h2 i _ u (D4 O) hu)
 |row id T sz n f f' hg hff hx=>
  obtain ⟨_,HA,hf,xs,ho,GN⟩:=hm _ (G0 hg)
  dsimp only at HA ho
  cases k with
  |row _ a n' c hl hv=>
   rw [hv] at ho HA;rcases ho.2 with ⟨hv0,hn0⟩|⟨g,cap,cur,hv0,_,hgg,hnc,hcm,hcs,kO⟩
   ·cases hv0;subst hn0;exact .lstNil _ _
   ·cases hv0;have hob:=HA g rfl;have hbd:=hE.owned _ _ hob;refine Rep.lst (e:=PJ w0 w) (w:=w) sz _ f' g 0 _ (λi j=>xs.getD (i*sz+j) .nilIface) (λ_=>⟨by rw [hB];exact hbd.1,hbd.2⟩) (λ_=>hbd.2) (λi O a ha=>?_) hnc hcm ?_ (λi O=>by rw [←hff i O];exact (hf i O).1) ?_ _ (λ_=>rfl)
    ·obtain ⟨u,rfl⟩:=hx i O a ha;exact .x u
    ·intro i j O hj;have hle:i*sz+sz<=n*sz:=by
      have:=BM sz (Az O)
      rwa [Bq] at this
     have kQ:i*sz+j<xs.length:=by rw [ho.1];omega
     have hc:=ho.cells (g:=g) rfl (i*sz+j) xs[i*sz+j] (D4 kQ);rw [DE] at hc;rw [hc];simp [List.getD,D4 kQ]
    ·intro i j a O ha;have hj:j<sz:=by rw [←(hf i O).1,hff i O];exact (FW.1 ha).1
     have hle:i*sz+sz<=n*sz:=by
      have:=BM sz (Az O)
      rwa [Bq] at this
     have kQ:i*sz+j<xs.length:=by rw [ho.1];omega
     obtain ⟨u,rfl⟩:=hx i O a (F4 ha);have:=GN i j (.x u) xs[i*sz+j] O (by rw [hff i O];exact ha) (D4 kQ)
     simp only [List.getD,D4 kQ,GX];rw [this.x_inv];exact .x _
 |nil sz f=>cases k.x_inv;exact .lstNil sz f
 |fn0 f=>
  obtain ⟨vs,vs',rfl,h1,h2⟩:=k.fn_inv;cases h1.nil_inv;cases h2.nil_inv;exact .fn f [] [] [] [] rfl (λi a v h=>by simp at h) rfl (λi a v h=>by simp at h)
def HT(fn:Func)(avs:List AV):St:={σ:=avs++List.replicate (fn.ntmps-avs.length) .top,m:=[],nx:=0}
def Xd9(P:Program)(fn:Func)(res:AV)(p:G9×St):Prop:=(match p.1 with| .exit _=>False|_=>True)/\ ∃r,BT P p.2 fn.results.toList=some r/\jW p.2.m r res
def m6(P:Program)(G:List (Nat×Spec))(L:List UL)(c:Code)(off:Nat)(s:St):CT:=D9 P G {} L c off s
theorem Rep.sameCells{e:UN}{w w':World}(hsz:w'.heap.size=w.heap.size)(hc: ∀ad,w'.cell? ad=w.cell? ad)(hmp: ∀(b:Nat) (es:Array MapEntry) (c:Nat),w.heap[b]? =some (Obj.map es c)->w'.heap[b]? =some (Obj.map es c)){a:AV}{v:Value}(h:Rep e w a v):Rep e w' a v:=by
 induction h with
 |top v=>exact .top v
 |lit b=>exact .lit b
 |x v=>exact .x v
 |agg l vs h1 h2 ih=>exact .agg l vs h1 ih
 |tup l vs h1 h2 ih=>exact .tup l vs h1 ih
 |fn f l l' vs vs' h1 h2 h3 h4 ih1 ih2=>exact .fn f l l' vs vs' h1 ih1 h3 ih2
 |ptr id off hl=>exact .ptr id off hl
 |row id a n c hl hv=>exact .row id a n c hl hv
 |elt id sz i j b n cap hl hv=>exact .elt id sz i j b n cap hl hv
 |ro l vs b o Z hb hf h1 h2 h3 ih=>exact .ro l vs b o Z (by rw [hsz];exact hb) hf h1 (λj v hj=>by rw [hc];exact h2 j v hj) ih
 |lstNil sz f=>exact .lstNil sz f
 |lst sz n f b o cap g Z hb hf Jj3 hm h1 h2 h3 ad had ih=>exact .lst sz n f b o cap g Z (λh=>by rw [hsz];exact hb h) hf Jj3 hm (λi j O hj=>by rw [hc];exact h1 i j O hj) h2 ih ad had
 |mp id hl=>exact .mp id hl
 |mpr g okf vals b es c Z hb hf h1 h2 h3 h4 h5 ih=>exact .mpr g okf vals b es c Z (by rw [hsz];exact hb) hf (hmp _ _ _ h1) h2 h3 h4 ih
 |any1 v hv=>exact .any1 v hv
 |roI pre n f off b o h ih=>exact .roI pre n f off b o ih
theorem U5.sameCells{e:UN}{w w':World}(hsz:w'.heap.size=w.heap.size)(hc: ∀ad,w'.cell? ad=w.cell? ad)(hmp: ∀(b:Nat) (es:Array MapEntry) (c:Nat),w.heap[b]? =some (Obj.map es c)->w'.heap[b]? =some (Obj.map es c)){l:List AV}{vs:List Value}(h:U5 e w l vs):U5 e w' l vs:=⟨h.1,λi a v ha hv=>(h.2 i a v ha hv).sameCells hsz hc hmp⟩
theorem BH{w:World}{D:Nat}{o o':Obj}(h:w.heap[D]? =some o)(ho:o.isCells=false)(ho':o'.isCells=false)(ad:Addr):(w.putObj D o').cell? ad=w.cell? ad:=by
 have hlt:=(PB.1 h).1;unfold World.cell?;by_cases hb:ad.block=D
 ·rw [hb,World.putObj_heap_same hlt,h];cases o<;>cases o'<;>simp_all [Obj.isCells]
 ·rw [World.putObj_heap_other hb]
theorem aO{e:UN}{w:World}{l:Nat}{o o':Obj}(h:D5 e w)(hl:w.heap[l]? =some o)(ho:o.isCells=false):D5 e (w.putObj l o'):=λb p hp=>by
 obtain ⟨h1,h2,q,h3,h4,h5⟩:=h b p hp;have hne:b≠l:=by
  rintro rfl;rw [hl] at h3;cases h3;rw [ho] at h4;cases h4
 exact ⟨h1,by rw [World.putObj_size];exact h2,q,(World.putObj_heap_other hne).trans h3,h4,h5⟩
theorem qR{w:World}{D:Nat}{o o':Obj}(h:w.heap[D]? =some o)(hom: ∀es c,o≠Obj.map es c): ∀(b:Nat) (es:Array MapEntry) (c:Nat),w.heap[b]? =some (Obj.map es c)->(w.putObj D o').heap[b]? =some (Obj.map es c):=by
 intro b es c hb;have hne:b≠D:=by
  rintro rfl;rw [h] at hb;exact hom es c (Bb hb)
 rw [World.putObj_heap_other hne];exact hb
theorem GK.putObj{e:UN}{w:World}{D:Nat}{o o':Obj}(h:w.heap[D]? =some o)(hom: ∀es c,o≠Obj.map es c)(ho:o.isCells=false)(ho':o'.isCells=false)(HA:e.own D=none){id:Nat}{r:GS}(k:GK e w id r):GK e (w.putObj D o') id r:=by
 have hsz:(w.putObj D o').heap.size=w.heap.size:=World.putObj_size;have hc:=BH h ho ho';have hmp:=qR (o':=o') h hom;have IA: ∀b k,e.own b=some k->(w.putObj D o').heap[b]? =w.heap[b]? :=λb k hb=>World.putObj_heap_other (λhe=>by rw [he,HA] at hb;cases hb)
 cases r with
 |cells T l=>
  obtain ⟨h1,h2,vs,h3,h4⟩:=k;exact ⟨h1,h2,vs,(IA _ _ h2).trans h3,h4.sameCells hsz hc hmp⟩
 |row T sz n f=>
  obtain ⟨h1,h2,hf,xs,h3,h4⟩:=k;refine ⟨h1,h2,hf,xs,⟨h3.1,h3.2.imp (λh=>h) ?_⟩,λi j a v O ha hv=>(h4 i j a v O ha hv).sameCells hsz hc hmp⟩
  rintro ⟨g',cap,cur,hv,hg,hh,rest⟩;exact ⟨g',cap,cur,hv,hg,(IA g' id (h2 g' (by rw [hv];rfl))).trans hh,rest⟩
 |ints T pre n f=>
  obtain ⟨h1,h2,vs,h3,h4⟩:=k;exact ⟨h1,h2,vs,(IA _ _ h2).trans h3,h4.sameCells hsz hc hmp⟩
 |memo h' f=>
  obtain ⟨h1,h2,es,c,h3,h4⟩:=k;exact ⟨h1,h2,es,c,(IA _ _ h2).trans h3,h4⟩
 |keep T l=>
  obtain ⟨h1,h2,h0,vs,h3,h4⟩:=k;have hne:e.blk id≠D:=by
   rintro hD;rw [←hD,h3] at h;cases h;simp [Obj.isCells] at ho
  exact ⟨h1,h2,by rw [hsz];exact h0,vs,(World.putObj_heap_other hne).trans h3,h4.sameCells hsz hc hmp⟩
 |aka r T sz n f=>
  obtain ⟨h1,h0,o,hor,h2,hf,xs,h3,h4⟩:=k;refine ⟨h1,h0,o,hor,h2,hf,xs,⟨h3.1,h3.2.imp (λh=>h) ?_⟩,λi j a v O ha hv=>(h4 i j a v O ha hv).sameCells hsz hc hmp⟩
  rintro ⟨g',cap,cur,hv,hg,hh,rest⟩;exact ⟨g',cap,cur,hv,hg,(IA g' o (h2 g' (by rw [hv];rfl))).trans hh,rest⟩
theorem j6{P:Program}{fn:Func}{R:Ending->World->Prop}{M:Nat->Prop}{w0:World}{e:UN}{s:St}{tmps:Array Value}{n:Nat}(hB: ∀D,M D->w0.heap.size<=D)
  (fin: ∀w',G4 e w0.heap.size w'->Below w0.heap.size w0 w'->UX e s.m w'->U5 e w' s.σ tmps.toList-> ∃v,(results fn tmps).run P w'= .ok v w'/\R (.returned v) w'):
  ∀(ds:List Deferred) (w:World),SX M e w ds->G4 e w0.heap.size w->Below w0.heap.size w0 w->UX e s.m w->U5 e w s.σ tmps.toList->LeavesInM (fr none) n P fn tmps R ds .returning w
 |[],w,_,hE,hb,hm,hs=>fin w hE hb hm hs
 |d::ds,w,hd,hE,hb,hm,hs=>by
  obtain ⟨D,h1,h2,h3,h4,h5⟩:=hd.1 d GJ;refine ⟨VX,.inl ⟨D,_,by rw [h1],run_takeDeferred h4,?_⟩⟩
  have HA:=(hE.apart D h2).1;have hsz:(w.putObj D (.deferred none)).heap.size=w.heap.size:=World.putObj_size;refine j6 hB fin ds _ ⟨λd' hd'=>?_,(List.nodup_cons.1 hd.2).2⟩ ⟨λb hb=>by rw [hsz];exact hE.apart b hb,λb k hk=>by rw [hsz];exact hE.owned b k hk,aO hE.glob h4 rfl⟩ ?_ (λp hp=>(hm p hp).putObj h4 (λ_ _ h=>by cases h) rfl rfl HA) (hs.sameCells hsz (BH h4 rfl rfl) (qR h4 (λ_ _ h=>by cases h)))
  ·obtain ⟨D',k1,k2,k3,k4,k5⟩:=hd.1 d' (HW _ hd');have hne:D'≠D:=by
    rintro rfl;exact (List.nodup_cons.1 hd.2).1 (by rw [h1,←k1];exact hd')
   exact ⟨D',k1,k2,by rw [hsz];exact k3,(World.putObj_heap_other hne).trans k4,k5⟩
  ·exact hb.trans ((Below.refl w0.heap.size w).grown (grownBy_putObj' w D _) (by have:=hb.size;have:=hB D h5;omega) (λk he=>by cases he;exact hB D h5))
def lW(w:World)(T:Nat->Prop):Cx:={M:=λD=>w.heap.size<=D,Φ:=λ_ T' w0=>w0=w/\T'=T,K:=λ_ _=>False,saved:=[] }
theorem zC{P:Program}{G:List (Nat×Spec)}{X:Ext}{L:List UL}{f:FuncId}{fn:Func}{c:Code}{avs:List AV}(hG:VN P G)(GU:P.follows .mixedOrders=true)(hf:P.funcs[f]? =some fn)(hb:fn.body=some c)
  {cx:Cx}{gh:Option Nat}{w:World}{T:Nat->Prop}{e:UN}{args:List Value}(hX:VZ P X cx)(hK: ∀b o,¬cx.K b o)(hsv:cx.saved=[])(Qr6:cx.sz=0)(hM: ∀g T w0 D,cx.Φ g T w0->cx.M D->w0.heap.size<=D)(hΦ:cx.Φ gh T w)
  (hT: ∀b,T b->b<w.heap.size/\ ¬e.ro b)(hro: ∀b,e.ro b->b<w.heap.size)(hgl:D5 e w)(FP: ∀a∈avs,Idf a)(Z:U5 e w avs args)
  (hL: ∀j cj,VV c j=some cj-> ∀sp,L[j]? =some sp->HL P none cx cj sp){E:G9×St->Prop}(h:(D9 P G X L c 0 {HT fn avs with gh:=gh}).sat E){R:Ending->World->Prop}
  (fin: ∀x s w0 T' e' tmps w',E (x,s)->cx.Φ s.gh T' w0->G4 e' w0.heap.size w'->Below w0.heap.size w0 w'->UX e' s.m w'->(∀b,T' b-> ¬e'.ro b)->U5 e' w' s.σ tmps.toList-> ∃v,(results fn tmps).run P w'= .ok v w'/\R (.returned v) w')
  (hex: ∀x s,E (x,s)-> ∀i,x≠ .exit i):Calls P f args.toArray w R:=by
 let e0:UN:={ro:=e.ro,own:=λ_=>none,live:=λ_=>False,blk:=λ_=>0,val:=λ_=> .nilIface}
 have hr0:U5 e0 w avs args:=⟨Z.1,λi a v ha hv=>Rep.idf (e:=e) (e':=e0) (λ_ h=>h) (Z.2 i a v ha hv) (FP a (F4 ha))⟩
 have yW:Rel cx {HT fn avs with gh:=gh} {tmps:=args.toArray++Array.replicate (fn.ntmps-args.toArray.size) undef,defers:=[] } w:=by
  refine ⟨w,T,e0,hΦ,⟨λb hb=>⟨rfl,hro b hb⟩,(λb k hk=>by cases hk),hgl⟩,Below.refl _ _,(λp hp=>by cases hp),(λk hk=>False.elim hk),hT,⟨⟨(λd hd=>by cases hd),List.nodup_nil⟩,(λb o h=>(hK b o h).elim),⟨by rw [hsv];rfl,(λi a v h=>by cases h)⟩,by rw [Qr6];exact Ao _⟩,?_⟩
  have I3:U5 e0 w (List.replicate (fn.ntmps-avs.length) .top) (List.replicate (fn.ntmps-avs.length) undef):=by
   refine ⟨VX,λi a v ha _=>?_⟩
   have:=F4 ha;rw [List.mem_replicate] at this;rw [this.2];exact .top v
  have:=hr0.append I3;simpa [HT,Z.1] using this
 refine callsIn_wide (n:=0).1 (callsIn_of_wp_marks (F:=fr none) hf hb trivial (wpIn_mono (DB hG hX GU c 0 _ _ _ w (λj cj hj sp hsp=>hL j cj hj sp (by simpa using hsp)) h yW) ?_) rfl)
 rintro ex a' w' ⟨x,s',rfl,hE,w0,T',e',hΦ',re⟩;have hx:=hex x s' hE;have yY:LeavesInM (fr none) 0 P fn a'.tmps R a'.defers .returning w':=
  j6 (M:=cx.M) (s:=s') (λD hD=>hM _ _ _ D hΦ' hD) (λw2 q1 q2 q3 q4=>fin x s' w0 T' e' a'.tmps w2 hE hΦ' q1 q2 q3 (λb hb=>(re.foe b hb).2) q4) a'.defers w' re.xt.defers re.env re.below re.mem re.slots
 cases x with
 |normal=>exact yY
 |ret=>exact yY
 |exit i=>exact (hx i rfl).elim
def Cx.fun(cx:Cx):Prop:= ∀g T w0 D,cx.Φ g T w0->w0.heap.size<=D->cx.sz<=D->cx.M D
theorem zA(w:World)(T:Nat->Prop):(lW w T).fun:=by
 rintro g T' w0 D ⟨rfl,_⟩ h _;exact h
section
variable {P:Program}{G:List (Nat×Spec)}
theorem k6{X:Ext}{L:List UL}{f:FuncId}{fn:Func}{c:Code}{avs:List AV}{res:AV}(hG:VN P G)(hX: ∀cx,VZ P X cx)(GU:P.follows .mixedOrders=true)(hf:P.funcs[f]? =some fn)(hb:fn.body=some c)
  (hL: ∀j cj,VV c j=some cj-> ∀sp,L[j]? =some sp-> ∀cx:Cx,cx.fun->HL P none cx cj sp)(h:(D9 P G X L c 0 (HT fn avs)).sat (Xd9 P fn res)):U0 P f avs res:=by
 intro e w args hro hgl FP Z;refine zC hG GU hf hb (cx:=lW w (λ_=>False)) (gh:=none) (T:=λ_=>False) (e:=e) (hX _) (λ_ _ h=>h) rfl rfl (by rintro g T w0 D ⟨rfl,_⟩ h;exact h) ⟨rfl,rfl⟩ (λb h=>h.elim) hro hgl FP Z (λj cj hj sp hsp=>hL j cj hj sp hsp _ (zA _ _)) h ?_ ?_
 ·rintro x s w0 T' e' tmps w' ⟨hx,r,F3,kR⟩ ⟨rfl,_⟩ q1 q2 q3 _ q4;obtain ⟨u,hu,GN⟩:=DN (P:=P) q3 q4 F3;exact ⟨u,hu,u,rfl,q2,kR.rep q1 rfl q3 GN⟩
 ·rintro x s ⟨hx,_⟩ i rfl;exact hx
theorem o2{L:List UL}{f:FuncId}{fn:Func}{c:Code}{avs:List AV}{res:AV}(hG:VN P G)(GU:P.follows .mixedOrders=true)(hf:P.funcs[f]? =some fn)(hb:fn.body=some c)
  (hL: ∀j cj,VV c j=some cj-> ∀sp,L[j]? =some sp->GA P cj sp)(h:(m6 P G L c 0 (HT fn avs)).sat (Xd9 P fn res)):U0 P f avs res:=
 k6 hG (VZ.nil P) GU hf hb (λj cj hj sp hsp cx _=>hL j cj hj sp hsp none cx) h
end
inductive RV where
 |top
 |x (v:Value)
 |agg (l:List RV)
 |tup (l:List RV)
 |lst (sz n:Nat) (f:Nat->List AV)
 |fn (f:Fn)
def cO(m:H5):Nat->AV->RV
 | 0,a=>match a with
  | .lit b=> .x (.bool b)
  | .x v=> .x v
  |_=> .top
 |d+1,a=>match a with
  | .lit b=> .x (.bool b)
  | .x v=> .x v
  | .agg l=> .agg (l.map (cO m d))
  | .tup l=> .tup (l.map (cO m d))
  | .row id=>match DJ m id with
   |some (.row _ sz n f)=> .lst sz n f
   |_=> .top
  | .fn f l l'=>match l,l' with
   |[],[]=> .fn f
   |_,_=> .top
  |_=> .top
def isX:AV->Prop
 | .x _=>True
 |_=>False
def UG:Value->Value->Prop
 | .int k a,.int k' b=>k=k'/\a=b
 | .bool a,.bool b=>a=b
 |u,v=>u=v
theorem cK{u v:Value}(h:UG u v):u=v:=by
 cases u<;>cases v<;>simp_all [UG]
def iQ:Value->Prop
 | .slice none 0 0=>True
 |_=>False
theorem iP{v:Value}(h:iQ v):v= .slice none 0 0:=by
 unfold iQ at h;split at h
 ·rfl
 ·exact h.elim
mutual
def G8:RV->AV->Prop
 | .top,res=>match res with
  | .top=>True
  |_=>False
 | .x u,res=>match res with
  | .top=>True
  | .x v=>UG u v
  | .lst _ n _=>iQ u/\n=0
  |_=>False
 | .agg l,res=>match res with
  | .top=>True
  | .agg l'=>GO l l'
  |_=>False
 | .tup l,res=>match res with
  | .top=>True
  | .tup l'=>GO l l'
  |_=>False
 | .lst sz n f,res=>match res with
  | .top=>True
  | .lst sz' n' f'=>sz=sz'/\n=n'/\ ∀i,i<n'->f i=f' i/\ ∀a∈f' i,isX a
  |_=>False
 | .fn f,res=>match res with
  | .top=>True
  | .fn g [] []=>f=g
  |_=>False
def GO:List RV->List AV->Prop
 |[],l'=>match l' with
  |[]=>True
  |_::_=>False
 |r::l,l'=>match l' with
  |a::l'=>G8 r a/\GO l l'
  |[]=>False
end
theorem IP: ∀{l:List RV} {l':List AV},GO l l'->l.length=l'.length/\ ∀(i:Nat) (r:RV) (a:AV),l[i]? =some r->l'[i]? =some a->G8 r a
 |[],[],_=>⟨rfl,λi r a h=>by simp at h⟩
 |r::l,a::l',h=>by
  unfold GO at h;obtain ⟨h1,h2⟩:=IP h.2;refine ⟨by simp [h1],λi r' a' Z ha=>?_⟩
  cases i with
  |zero=>simp at Z ha;subst Z;subst ha;exact h.1
  |succ i=>simp at Z ha;exact h2 i r' a' Z ha
 |[],_::_,h=>by simp [GO] at h
 |_::_,[],h=>by simp [GO] at h
theorem Wk3{a:AV}(h:isX a): ∃v,a= .x v:=by
 cases a<;>first|exact ⟨_,rfl⟩|exact h.elim
theorem aW{m:H5}{a:AV}{u:Value}{res:AV}(h:G8 (.x u) res)(ha: ∀v,u=v->jW m a (.x v))(hn:u= .slice none 0 0-> ∀sz f,jW m a (.lst sz 0 f)):jW m a res:=by
 cases res with
 |top=>exact .top a
 |x v=>exact ha v (cK h)
 |lst sz n f=>obtain ⟨h1,h2⟩:=h;subst h2;exact hn (iP h1) sz f
 |_=>exact h.elim
theorem fH{m:H5}: ∀(d:Nat) (a res:AV),G8 (cO m d a) res->jW m a res
 | 0,a,res,h=>by
  cases a with
  |lit b=>exact aW h (λv hv=>by subst hv;exact .litx b) (λhu=>by cases hu)
  |x v=>exact aW h (λu hu=>by subst hu;exact .x v) (λhu sz f=>by subst hu;exact .nil sz f)
  |_=>cases res<;>first|exact .top _|exact h.elim
 |d+1,a,res,h=>by
  have ih:=fH (m:=m) d;cases a with
  |lit b=>exact aW h (λv hv=>by subst hv;exact .litx b) (λhu=>by cases hu)
  |x v=>exact aW h (λu hu=>by subst hu;exact .x v) (λhu sz f=>by subst hu;exact .nil sz f)
  |agg l=>
   cases res with
   |top=>exact .top _
   |agg l'=>
    obtain ⟨h1,h2⟩:=IP (show GO (l.map (cO m d)) l' from h);exact .agg l l' (by simpa using h1) (λi a b ha hb=>ih a b (h2 i _ b (by simp [ha]) hb))
   |_=>exact h.elim
  |tup l=>
   cases res with
   |top=>exact .top _
   |tup l'=>
    obtain ⟨h1,h2⟩:=IP (show GO (l.map (cO m d)) l' from h);exact .tup l l' (by simpa using h1) (λi a b ha hb=>ih a b (h2 i _ b (by simp [ha]) hb))
   |_=>exact h.elim
  |row id=>
   simp only [cO] at h;split at h
   ·rename_i T sz n f hg;cases res with
    |top=>exact .top _
    |lst sz' n' f'=>
     obtain ⟨rfl,rfl,h3⟩:=h;exact .row id T sz n f f' hg (λi O=>(h3 i O).1) (λi O a ha=>Wk3 ((h3 i O).2 a ha))
    |_=>exact h.elim
   ·cases res<;>first|exact .top _|exact h.elim
  |fn f l l'=>
   simp only [cO] at h;split at h
   ·unfold G8 at h;split at h
    ·exact .top _
    ·subst h;exact .fn0 _
    ·exact h.elim
   ·cases res<;>first|exact .top _|exact h.elim
  |_=>cases res<;>first|exact .top _|exact h.elim
def sL(P:Program)(rs:List ResultVar)(t:CT):VP RV:=t.bind λp=>match p.1 with
 | .exit _=> .fail
 |_=>match BT P p.2 rs with
  |some r=> .leaf (cO p.2.m 6 r)
  |none=> .fail
def HN(P:Program)(c:Code)(sp:UL):Prop:= ∀cx:Cx,cx.fun->HL P none cx c sp
theorem GA.N{P:Program}{c:Code}{sp:UL}(h:GA P c sp):HN P c sp:=λcx _=>h none cx
section
variable {P:Program}
theorem z7{fn:Func}{res:AV}{t:CT}(h:(sL P fn.results.toList t).sat (λr=>G8 r res)):t.sat (Xd9 P fn res):=by
 refine VP.sat_mono ?_ (VP.sat_bind h);rintro ⟨x,s⟩ hs;cases x with
 |exit i=>exact hs.elim
 |normal=>
  simp only at hs;split at hs
  ·rename_i r Z;exact ⟨trivial,r,Z,fH 6 r res hs⟩
  ·exact hs.elim
 |ret=>
  simp only at hs;split at hs
  ·rename_i r Z;exact ⟨trivial,r,Z,fH 6 r res hs⟩
  ·exact hs.elim
theorem U4{G:List (Nat×Spec)}{L:List UL}{f:FuncId}{fn:Func}{c:Code}{avs:List AV}{res:AV}{t:VP RV}(hG:VN P G)(GU:P.follows .mixedOrders=true)(hf:P.funcs[f]? =some fn)(hb:fn.body=some c)
  (hL: ∀j cj,VV c j=some cj-> ∀sp,L[j]? =some sp->GA P cj sp)(ht:sL P fn.results.toList (m6 P G L c 0 (HT fn avs))=t)(h:t.sat (λr=>G8 r res)):U0 P f avs res:=by
 subst ht;exact o2 hG GU hf hb hL (z7 h)
theorem GD{G:List (Nat×Spec)}{X:Ext}{L:List UL}{f:FuncId}{fn:Func}{c:Code}{avs:List AV}{res:AV}{t:VP RV}(hG:VN P G)(hX: ∀cx,VZ P X cx)(GU:P.follows .mixedOrders=true)(hf:P.funcs[f]? =some fn)(hb:fn.body=some c)
  (hL: ∀j cj,VV c j=some cj-> ∀sp,L[j]? =some sp->HN P cj sp)(ht:sL P fn.results.toList (D9 P G X L c 0 (HT fn avs))=t)(h:t.sat (λr=>G8 r res)):U0 P f avs res:=by
 subst ht;exact k6 hG hX GU hf hb hL (z7 h)
theorem U6{c:Code}: ∀j cj,VV c j=some cj-> ∀sp,([]:List UL)[j]? =some sp->GA P cj sp:=λj cj _ sp hsp=>by simp at hsp
end
theorem G7{S:Code->UL->Prop}{c:Code}: ∀j cj,VV c j=some cj-> ∀sp,([]:List UL)[j]? =some sp->S cj sp:=λj cj _ sp hsp=>by simp at hsp
def qX(N:Nat):Nat->AV->Bool
 | 0,a=>a.idf
 |d+1,a=>match a with
  | .ptr id _=>Nat.blt id N
  | .row id=>Nat.blt id N
  | .elt id _ _ _=>Nat.blt id N
  | .mp id=>Nat.blt id N
  | .agg l=>l.all (qX N d)
  | .tup l=>l.all (qX N d)
  | .fn _ l l'=>l.all (qX N d)&&l'.all (qX N d)
  |a=>a.idf
def UN.kill(e:UN)(N:Nat):UN:={e with live:=λk=>e.live k/\k<N}
theorem xL{e:UN}{w:World}{N:Nat}: ∀(d:Nat) (a:AV) (v:Value),qX N d a=true->Rep e w a v->Rep (e.kill N) w a v
 | 0,a,v,h,r=>Rep.idf (e:=e) (e':=e.kill N) (λ_ h=>h) r (j7 r h)
 |d+1,a,v,h,r=>by
  have ih:=xL (e:=e) (w:=w) (N:=N) d;have lt: ∀id,Nat.blt id N=true->id<N:=λid hb=>by rw [Aw] at hb;exact hb
  cases r with
  |ptr id off hl=>exact .ptr (e:=e.kill N) id off ⟨hl,lt id h⟩
  |row id a n c hl hv=>exact .row (e:=e.kill N) id a n c ⟨hl,lt id h⟩ hv
  |elt id sz i j b n cap hl hv=>exact .elt (e:=e.kill N) id sz i j b n cap ⟨hl,lt id h⟩ hv
  |mp id hl=>exact .mp (e:=e.kill N) id ⟨hl,lt id h⟩
  |agg l vs h1 h2=>exact .agg l vs h1 (λi a v ha hv=>ih a v (B7.1 h a (F4 ha)) (h2 i a v ha hv))
  |tup l vs h1 h2=>exact .tup l vs h1 (λi a v ha hv=>ih a v (B7.1 h a (F4 ha)) (h2 i a v ha hv))
  |fn f l l' vs vs' h1 h2 h3 h4=>
   simp only [qX,HC] at h;exact .fn f l l' vs vs' h1 (λi a v ha hv=>ih a v (B7.1 h.1 a (F4 ha)) (h2 i a v ha hv)) h3 (λi a v ha hv=>ih a v (B7.1 h.2 a (F4 ha)) (h4 i a v ha hv))
  |top v=>exact .top v
  |lit b=>exact .lit b
  |x v=>exact .x v
  |ro l vs b o h1 h2 h3 h4 h5 h6=>exact Rep.idf (e:=e) (e':=e.kill N) (λ_ h=>h) (.ro l vs b o h1 h2 h3 h4 h5 h6) (.ro l h3)
  |mpr g okf vals b es c h1 h2 h3 h4 h5 h6 h7 h8=>exact Rep.idf (e:=e) (e':=e.kill N) (λ_ h=>h) (.mpr g okf vals b es c h1 h2 h3 h4 h5 h6 h7 h8) (.mpr g okf h3)
  |any1 v hv=>exact .any1 v hv
  |lstNil sz f=>exact .lstNil sz f
  |roI pre n f off b o Z=>exact Rep.idf (e:=e) (e':=e.kill N) (λ_ h=>h) (.roI pre n f off b o Z) (j7 (Rep.roI pre n f off b o Z) rfl)
  |lst sz n f b o cap g h1 h2 h3 h4 h5 h6 h7 h8 ad had=>exact Rep.idf (e:=e) (e':=e.kill N) (λ_ h=>h) (.lst sz n f b o cap g h1 h2 h3 h4 h5 h6 h7 h8 ad had) (.lst sz n f h3)
def gK:List AV->List AV->List Prop
 |a::l,b::l'=>match b with
  | .top=>gK l l'
  | .x (.int k y)=>match a with
   | .x (.int k' x)=>match decide (k=k') with
    |true=>(x=y)::gK l l'
    |false=>[False]
   |_=>[False]
  | .x (.bool y)=>match a with
   | .x (.bool x)=>(x=y)::gK l l'
   | .lit x=>(x=y)::gK l l'
   |_=>[False]
  |b=>(a=b)::gK l l'
 |[],[]=>[]
 |_,_=>[False]
theorem LX{e:UN}{w:World}: ∀{l l':List AV} {vs:List Value},(∀p∈gK l l',p)->U5 e w l vs->U5 e w l' vs
 |[],[],vs,_,r=>r
 |a::l,b::l',vs,h,r=>by
  obtain ⟨v,vs',rfl,hv,hvs⟩:=r.cons_inv;unfold gK at h;split at h
  ·exact U5.cons (.top v) (LX h hvs)
  ·split at h
   ·split at h
    ·rename_i hk;have hk':=qC hk;subst hk';have:_=_:=h _ GJ;subst this;exact U5.cons hv (LX (λp hp=>h p (HW _ hp)) hvs)
    ·exact (h False VX).elim
   ·exact (h False VX).elim
  ·split at h
   ·have:_=_:=h _ GJ;subst this;exact U5.cons hv (LX (λp hp=>h p (HW _ hp)) hvs)
   ·have:_=_:=h _ GJ;subst this;cases hv;exact U5.cons (.x _) (LX (λp hp=>h p (HW _ hp)) hvs)
   ·exact (h False VX).elim
  ·have:_=_:=h _ GJ;subst this;exact U5.cons hv (LX (λp hp=>h p (HW _ hp)) hvs)
 |[],_::_,_,h,_=>(h False (by simp [gK])).elim
 |_::_,[],_,h,_=>(h False (by simp [gK])).elim
def DZ:GS->GS->List Prop
 | .cells T l,.cells T' l'=>match Nat.beq T T' with
  |true=>gK l l'
  |false=>[False]
 | .row T sz n f,.row T' sz' n' f'=>match Nat.beq T T'&&Nat.beq sz sz' with
  |true=>[n=n',∀i,i<n'->f i=f' i]
  |false=>[False]
 | .memo h f,.memo h' f'=>[∀k,h k->h' k/\f k=f' k]
 | .ints T pre n f,.ints T' pre' n' f'=>match Nat.beq T T' with
  |true=>gK pre pre'++[n=n',∀k,k<n'->f k=f' k]
  |false=>[False]
 | .keep T l,.keep T' l'=>match Nat.beq T T' with
  |true=>gK l l'
  |false=>[False]
 |_,_=>[False]
theorem resEq_holds{e:UN}{w:World}{id:Nat}{r r':GS}(h: ∀p∈DZ r r',p)(k:GK e w id r):GK e w id r':=by
 cases r with
 |cells T l=>
  cases r' with
  |cells T' l'=>
   simp only [DZ] at h;split at h
   ·rename_i hb;have:T=T':=H2 hb;subst this;obtain ⟨h1,h2,vs,h3,h4⟩:=k;exact ⟨h1,h2,vs,h3,LX h h4⟩
   ·exact (h False VX).elim
  |row _ _ _ _=>exact (h False (by simp [DZ])).elim
  |memo _ _=>exact (h False (by simp [DZ])).elim
  |ints _ _ _ _=>exact (h False (by simp [DZ])).elim
  |aka _ _ _ _ _=>exact (h False (by simp [DZ])).elim
  |keep _ _=>exact (h False (by simp [DZ])).elim
 |aka _ _ _ _ _=>cases r'<;>exact (h False (by simp [DZ])).elim
 |keep T l=>
  cases r' with
  |keep T' l'=>
   simp only [DZ] at h;split at h
   ·rename_i hb;have:T=T':=H2 hb;subst this;obtain ⟨h1,h2,h0,vs,h3,h4⟩:=k;exact ⟨h1,h2,h0,vs,h3,LX h h4⟩
   ·exact (h False VX).elim
  |row _ _ _ _=>exact (h False (by simp [DZ])).elim
  |memo _ _=>exact (h False (by simp [DZ])).elim
  |ints _ _ _ _=>exact (h False (by simp [DZ])).elim
  |cells _ _=>exact (h False (by simp [DZ])).elim
  |aka _ _ _ _ _=>exact (h False (by simp [DZ])).elim
 |ints T pre n f=>
  cases r' with
  |cells _ _=>exact (h False (by simp [DZ])).elim
  |row _ _ _ _=>exact (h False (by simp [DZ])).elim
  |memo _ _=>exact (h False (by simp [DZ])).elim
  |aka _ _ _ _ _=>exact (h False (by simp [DZ])).elim
  |keep _ _=>exact (h False (by simp [DZ])).elim
  |ints T' pre' n' f'=>
   simp only [DZ] at h;split at h
   ·rename_i hb;have:T=T':=H2 hb;subst this;obtain ⟨h1,h2,vs,h3,h4⟩:=k;have hn:n=n':=h _ VX;subst hn;have hf: ∀k,k<n->f k=f' k:=h _ VX;have hL:HR n f=HR n f':=List.map_congr_left (λk hk=>by rw [hf k (List.mem_range.1 hk)])
    refine ⟨h1,h2,vs,h3,?_⟩;rw [hL] at h4;have h5:=h4.take pre.length;have h6:=h4.drop pre.length;rw [List.take_left] at h5;rw [List.drop_left] at h6;have h7:=(LX (λp hp=>h p (Bd _ hp)) h5).append h6
    rwa [List.take_append_drop] at h7
   ·exact (h False VX).elim
 |memo g f=>
  cases r' with
  |cells _ _=>exact (h False (by simp [DZ])).elim
  |row _ _ _ _=>exact (h False (by simp [DZ])).elim
  |ints _ _ _ _=>exact (h False (by simp [DZ])).elim
  |aka _ _ _ _ _=>exact (h False (by simp [DZ])).elim
  |keep _ _=>exact (h False (by simp [DZ])).elim
  |memo g' f'=>
   have hh: ∀k,g k->g' k/\f k=f' k:=h _ (by simp [DZ])
   obtain ⟨h1,h2,es,c,h3,h4⟩:=k;exact ⟨h1,h2,es,c,h3,λx hx=>⟨(hh _ (h4 x hx).1).1,(h4 x hx).2.trans (hh _ (h4 x hx).1).2⟩⟩
 |row T sz n f=>
  cases r' with
  |memo _ _=>exact (h False (by simp [DZ])).elim
  |cells _ _=>exact (h False (by simp [DZ])).elim
  |ints _ _ _ _=>exact (h False (by simp [DZ])).elim
  |aka _ _ _ _ _=>exact (h False (by simp [DZ])).elim
  |keep _ _=>exact (h False (by simp [DZ])).elim
  |row T' sz' n' f'=>
   simp only [DZ] at h;split at h
   ·rename_i hb;simp only [HC] at hb;have h1:T=T':=H2 hb.1;have h2:sz=sz':=H2 hb.2;subst h1;subst h2;have h3:n=n':=h _ VX;subst h3;have h4: ∀i,i<n->f i=f' i:=h _ VX;obtain ⟨q1,q2,q3,xs,q4,q5⟩:=k;exact ⟨q1,q2,λi O=>by rw [←h4 i O];exact q3 i O,xs,q4,λi j a v O ha hv=>q5 i j a v O (by rw [h4 i O];exact ha) hv⟩
   ·exact (h False VX).elim
def Wu6:GS->Bool
 | .cells _ [.x _]=>true
 | .cells _ (_::_::_::_:: .x (.slice _ _ _):: .x (.slice _ _ _)::_)=>true
 |_=>false
def Wt4:H5->Nat->Option GS
 |[],_=>none
 |(k,r)::t,id=>match Nat.beq k id&&Wu6 r with
  |true=>some r
  |false=>Wt4 t id
theorem lN{id:Nat}{r:GS}: ∀{m:H5},Wt4 m id=some r->(id,r)∈m
 |[],h=>by simp [Wt4] at h
 |(k,q)::t,h=>by
  unfold Wt4 at h;split at h
  ·rename_i hk;rw [HC] at hk;have:k=id:=H2 hk.1;subst this;cases h;exact GJ
  ·exact HW _ (lN h)
def Qc4(sm:H5)(id:Nat)(r:GS):Option GS:=match Wu6 r with
 |true=>match Wt4 sm id with
  |some r'=>some r'
  |none=>DJ sm id
 |false=>DJ sm id
theorem Qp2{sm:H5}{id:Nat}{r r':GS}(h:Qc4 sm id r=some r'):(id,r')∈sm:=by
 unfold Qc4 at h;split at h
 ·split at h
  ·rename_i hg;cases h;exact lN hg
  ·exact G0 h
 ·exact G0 h
def Wi8(sm:H5):H5->List Prop
 |[]=>[]
 |(id,r)::t=>(match Qc4 sm id r with
  |some r'=>DZ r' r
  |none=>[False])++Wi8 sm t
def svP:List (List AV)->List (List AV)->List Prop
 |[],[]=>[]
 |a::l,b::l'=>gK a b++svP l l'
 |_,_=>[False]
def ghP:Option Nat->Option Nat->List Prop
 |none,none=>[]
 |some a,some b=>[a=b]
 |_,_=>[False]
theorem Qb0{e:UN}{w:World}: ∀{l l':List (List AV)} {vs:List (List Value)},(∀p∈svP l l',p)->LC e w l vs->LC e w l' vs
 |[],[],_,_,r=>r
 |a::l,b::l',vs,h,r=>by
  cases vs with
  |nil=>have:=r.1;simp at this
  |cons v vs=>
   obtain ⟨a',l'',he,h1,h2⟩:=r.cons_inv;cases he;exact LC.cons (LX (λp hp=>h p (Bd _ hp)) h1) (Qb0 (λp hp=>h p (As _ hp)) h2)
 |[],_::_,_,h,_=>(h False (by simp [svP])).elim
 |_::_,[],_,h,_=>(h False (by simp [svP])).elim
theorem Zp3{a b:Option Nat}(h: ∀p∈ghP a b,p):a=b:=by
 cases a<;>cases b
 ·rfl
 ·exact (h False (by simp [ghP])).elim
 ·exact (h False (by simp [ghP])).elim
 ·rename_i x y;have:x=y:=h _ (by simp [ghP])
  rw [this]
def BK(s E:St):List Prop:=gK s.σ E.σ++(Wi8 s.m E.m++(svP s.sv E.sv++ghP s.gh E.gh))
def eH(N:Nat):GS->Bool
 | .cells _ l=>l.all (qX N 6)
 | .row _ _ _ _=>true
 | .memo _ _=>true
 | .ints _ pre _ _=>pre.all (qX N 6)
 | .aka _ _ _ _ _=>false
 | .keep _ l=>l.all (qX N 6)
def okB(E:St):Bool:=E.σ.all (qX E.nx 6)&&(E.m.all (λp=>Nat.blt p.1 E.nx&&eH E.nx p.2)&&E.sv.all (λl=>l.all (qX E.nx 6)))
theorem memP_holds{e:UN}{w:World}{sm:H5}(hm:UX e sm w): ∀{m:H5},(∀p∈Wi8 sm m,p)->UX e m w
 |[],_=>λp hp=>by cases hp
 |(id,r)::t,h=>by
  intro p hp;rcases GQ.1 hp with rfl|hp
  ·unfold Wi8 at h;cases hg:Qc4 sm id r with
   |none=>rw [hg] at h;exact (h False VX).elim
   |some r'=>
    rw [hg] at h;exact resEq_holds (λp hp=>h p (Bd _ hp)) (hm _ (Qp2 hg))
  ·exact memP_holds hm (m:=t) (λq hq=>h q (by unfold Wi8;exact As _ hq)) p hp
theorem FX{cx:Cx}{s E:St}{a:Act}{w:World}(h: ∀p∈BK s E,p)(hok:okB E=true)(r:Rel cx s a w):Rel cx E a w:=by
 obtain ⟨w0,T,e,hΦ,r⟩:=r;simp only [okB,HC] at hok;obtain ⟨ok1,ok2,ok3⟩:=hok;have hσ:=LX (λp hp=>h p (Bd _ hp)) r.slots
 have hm:=memP_holds r.mem (λp hp=>h p (As _ (Bd _ hp)))
 have hsv:=Qb0 (λp hp=>h p (As _ (As _ (Bd _ hp)))) r.xt.saved
 have hgh:=Zp3 (λp hp=>h p (As _ (As _ (As _ hp))))
 rw [hgh] at hΦ;refine ⟨w0,T,e.kill E.nx,hΦ,⟨r.env.apart,r.env.owned,r.env.glob⟩,r.below,?_,λk hk=>hk.2,r.foe,⟨r.xt.defers,r.xt.kept,⟨hsv.1,λi a v ha hv=>⟨(hsv.2 i a v ha hv).1,λj b u hb hu=>xL 6 b u (B7.1 (B7.1 ok3 a (F4 ha)) b (F4 hb)) ((hsv.2 i a v ha hv).2 j b u hb hu)⟩⟩,r.xt.size⟩,⟨hσ.1,λi a v ha hv=>xL 6 a v (B7.1 ok1 a (F4 ha)) (hσ.2 i a v ha hv)⟩⟩
 intro p hp;have hk:=hm p hp;have hb:=B7.1 ok2 p hp;simp only [HC] at hb;have hlt:p.1<E.nx:=by have:=hb.1;rw [Aw] at this;exact this
 obtain ⟨id,res⟩:=p;cases res with
 |cells T l=>
  obtain ⟨h1,h2,vs,h3,h4⟩:=hk;exact ⟨⟨h1,hlt⟩,h2,vs,h3,h4.1,λi a v ha hv=>xL 6 a v (B7.1 hb.2 a (F4 ha)) (h4.2 i a v ha hv)⟩
 |memo g f=>
  obtain ⟨h1,h2,es,c,h3,h4⟩:=hk;exact ⟨⟨h1,hlt⟩,h2,es,c,h3,h4⟩
 |aka _ _ _ _ _=>simp [eH] at hb
 |keep T l=>
  obtain ⟨h1,h2,h0,vs,h3,h4⟩:=hk;exact ⟨⟨h1,hlt⟩,h2,h0,vs,h3,h4.1,λi a v ha hv=>xL 6 a v (B7.1 hb.2 a (F4 ha)) (h4.2 i a v ha hv)⟩
 |ints T pre n f=>
  obtain ⟨h1,h2,vs,h3,h4⟩:=hk;refine ⟨⟨h1,hlt⟩,h2,vs,h3,h4.1,λi a v ha hv=>xL 6 a v ?_ (h4.2 i a v ha hv)⟩
  rcases List.mem_append.1 (F4 ha) with hm|hm
  ·exact B7.1 hb.2 a hm
  ·obtain ⟨k,_,rfl⟩:=List.mem_map.1 hm;rfl
 |row T sz n f=>
  obtain ⟨h1,h2,h3,xs,h4,h5⟩:=hk;exact ⟨⟨h1,hlt⟩,h2,h3,xs,h4,λi j a v O ha hv=>Rep.idf (e:=e) (e':=e.kill E.nx) (λ_ h=>h) (h5 i j a v O ha hv) ((h3 i O).2 a (F4 ha))⟩
theorem aD{F:Fence}{n:Nat}{P:Program}{Q:Exit->Act->World->Prop}{body:Code}{X:Type}(μ:X->Nat)(Inv:X->Act->World->Prop)
  (round: ∀x a w,Inv x a w->body.wpIn F n P (Exit.then (λa' w'=> ∃x',μ x'<μ x/\Inv x' a' w') Q) a w){x:X}{a:Act}{w:World}(h:Inv x a w):(Code.loop body).wpIn F n P Q a w:=by
 intro b k cs hro hb Z;have key: ∀j x a w,μ x=j->Inv x a w->
   ∃e a' w',Q e a' w'/\ArrivesIn (Machine.fenced P F) P (lone (b.atR a (.code body:: .inLoop body::k)) cs w) b k cs e a' w':=by
  intro j
  induction j using Nat.strongRecOn with
  |_ j ih=>
   intro x a w hn hI;obtain ⟨e,a₁,w₁,hq,uG⟩:=round x a w hI b (.inLoop body::k) cs hro hb Z;cases e with
   |normal=>
    obtain ⟨x',hlt,hI₁⟩:=hq;obtain ⟨e₂,a₂,w₂,hq₂,harr₂⟩:=ih (μ x') (hn▸hlt) x' a₁ w₁ rfl hI₁;exact ⟨e₂,a₂,w₂,hq₂,.of_steps (StepsIn.trans uG (.one (fenced_calm hb Z rfl) stepR_inLoop)) harr₂⟩
   |exit id=>exact ⟨_,a₁,w₁,hq,.pass (x:= .inLoop body) rfl (λ_ _=> .inl VX) uG⟩
   |goto l=>exact ⟨_,a₁,w₁,hq,.pass (x:= .inLoop body) rfl (λ_ _=> .inl VX) uG⟩
   |ret=>exact ⟨_,a₁,w₁,hq,.pass (x:= .inLoop body) rfl (λ_ _=> .inl VX) uG⟩
   |panic ch=>exact ⟨_,a₁,w₁,hq,.pass (x:= .inLoop body) rfl (λ_ _=> .inl VX) uG⟩
   |outgrown=>exact ⟨_,a₁,w₁,hq,.pass (x:= .inLoop body) rfl (λ_ _=> .inl VX) uG⟩
 obtain ⟨e,a',w',hq,uG⟩:=key _ x a w rfl h;exact ⟨e,a',w',hq,.of_steps (.one (fenced_calm hb Z rfl) stepR_loop) uG⟩
def HK(E:St)(t:CT):UL:=λs=>some (.needT (BK s E) t)
theorem jX{P:Program}{ro:Option Nat}{cx:Cx}{c:Code}{E:St}{t:CT}(hok:okB E=true)(h: ∀(n:Nat) (Q:G9×St->Prop),t.sat Q-> ∀(a:Act) (w:World),Rel cx E a w->c.wpIn (fr ro) n P (CN cx Q) a w):HL P ro cx c (HK E t):=by
 intro n s t' ht Q FL a w r;simp only [HK,HH] at ht;subst ht
 replace FL:=VP.sat_needT FL
 exact h n Q FL.2 a w (FX (GF FL.1) hok r)
def y9(P:Program)(G:List (Nat×Spec))(X:Ext)(L:List UL)(body:Code):Nat->St->CT
 | 0,_=> .fail
 |k+1,s=>(D9 P G X L body 0 s).bind λp=>match p.1 with
  | .normal=>y9 P G X L body k p.2
  |x=> .leaf (x,p.2)
def zK(P:Program)(G:List (Nat×Spec))(L:List UL)(body:Code)(n:Nat)(s:St):CT:=y9 P G {} L body n s
section
variable {P:Program}{G:List (Nat×Spec)}
theorem yZ{X:Ext}{L:List UL}{ro:Option Nat}{cx:Cx}(hG:VN P G)(hX:VZ P X cx)(GU:P.follows .mixedOrders=true){body:Code}(hL: ∀j cj,VV body j=some cj-> ∀sp,L[j]? =some sp->HL P ro cx cj sp)(m:Nat):
  HL P ro cx (.loop body) (λs=>some (y9 P G X L body m s)):=by
 intro n s t ht Q FL a w r;simp only [HH] at ht;subst ht;refine aD (X:=Nat×St) (λp=>p.1) (λp a w=>(y9 P G X L body p.1 p.2).sat Q/\Rel cx p.2 a w) ?_ (x:=(m,s)) ⟨FL,r⟩
 rintro ⟨k,s⟩ a w ⟨h,Z⟩;cases k with
 |zero=>exact h.elim
 |succ k=>
  refine wpIn_mono (DB hG hX GU body 0 s _ a w (λj cj hj sp hsp=>hL j cj hj sp (by simpa using hsp)) (VP.sat_bind h) Z) ?_
  rintro ex a₁ w₁ ⟨y,s',rfl,hq,hr'⟩;cases y with
  |normal=>exact ⟨(k,s'),Bk _,hq,hr'⟩
  |exit id=>exact ⟨.exit id,s',rfl,hq,hr'⟩
  |ret=>exact ⟨.ret,s',rfl,hq,hr'⟩
theorem LE{L:List UL}(hG:VN P G)(GU:P.follows .mixedOrders=true){body:Code}(hL: ∀j cj,VV body j=some cj-> ∀sp,L[j]? =some sp->GA P cj sp)(n:Nat):
  GA P (.loop body) (λs=>some (zK P G L body n s)):=λro cx=>yZ hG (VZ.nil P cx) GU (λj cj hj sp hsp=>hL j cj hj sp hsp ro cx) n
end
def UC:Option Code->Code
 |some (.loop c)=>c
 |_=> .skip
def U9(f:Func):Code:=match f.body with
 |some c=>c
 |none=> .skip
theorem UZ{S:Code->UL->Prop}{c:Code}{sp:UL}(h: ∀cj,VV c 0=some cj->S cj sp): ∀j cj,VV c j=some cj-> ∀s,[sp][j]? =some s->S cj s:=by
 intro j cj hj s hs;cases j with
 |zero=>simp at hs;subst hs;exact h cj hj
 |succ j=>simp at hs
def Xw0:List (Nat×AV)->Nat->AV
 |[],_=> .top
 |(k,a)::t,i=>match Nat.beq k i with
  |true=>a
  |false=>Xw0 t i
def mkS(n:Nat)(l:List (Nat×AV)):List AV:=(List.range n).map (Xw0 l)
def Wo1(l:List AV)(j:Nat):Int:=match l[j]? with
 |some (.x (.int _ n))=>n
 |_=>0
def Jd3:Nat->(Nat->Int)->List AV
 | 0,_=>[]
 |k+1,g=> .x (.int .i64 (g 0))::Jd3 k (λj=>g (j+1))
def UH(sz n:Nat)(f:Nat->List AV):Prop:= ∀k,k<n->f k=Jd3 sz (Wo1 (f k))
theorem U0.args{P:Program}{f:FuncId}{avs avs':List AV}{res:AV}(h:U0 P f avs' res)(Z: ∀e w vs,U5 e w avs vs->U5 e w avs' vs)(O:(∀a∈avs,Idf a)-> ∀a∈avs',Idf a):U0 P f avs res:=
 λe w args hro hgl FP GN=>h e w args hro hgl (O FP) (Z e w args GN)
inductive uM:AV->AV->Prop
 |refl (a:AV):uM a a
 |lst (sz n:Nat) (f g:Nat->List AV):(∀k,k<n->f k=g k)->uM (.lst sz n f) (.lst sz n g)
 |nil (sz:Nat) (g:Nat->List AV):uM (.x (.slice none 0 0)) (.lst sz 0 g)
 |agg (l l':List AV):l.length=l'.length->(∀(j:Nat) (a b:AV),l[j]? =some a->l'[j]? =some b->uM a b)->uM (.agg l) (.agg l')
 |deep (sz n:Nat) (f g:Nat->List AV):(∀k,k<n->(f k).length=(g k).length)->(∀(k j:Nat) (a b:AV),k<n->(f k)[j]? =some a->(g k)[j]? =some b->uM a b)->uM (.lst sz n f) (.lst sz n g)
theorem uM.idf{a b:AV}(h:uM a b)(k:Idf a):Idf b:=by
 induction h with
 |refl=>exact k
 |lst sz n f g hfg=>cases k with|lst _ _ _ k=>exact .lst sz n g (λi O a ha=>k i O a (by rw [hfg i O];exact ha))
 |nil sz g=>exact .lst sz 0 g (λi O=>VM)
 |deep sz n f g hl _ ih=>
  cases k with
  |lst _ _ _ k=>
   refine .lst sz n g λi O b hb=>?_
   obtain ⟨j,hj⟩:=xC.1 hb;have hjl:j<(f i).length:=by rw [hl i O];exact (FW.1 hj).1
   exact ih i j _ b O (D4 hjl) hj (k i O _ (List.getElem_mem hjl))
 |agg l l' hl _ ih=>
  cases k with
  |agg _ k=>
   refine .agg l' λb hb=>?_
   obtain ⟨j,hj⟩:=xC.1 hb;have hjl:j<l.length:=by rw [hl];exact (FW.1 hj).1
   exact ih j l[j] b (D4 hjl) hj (k _ (List.getElem_mem hjl))
theorem uM.rep{e:UN}{w:World}{a b:AV}{v:Value}(h:uM a b)(r:Rep e w a v):Rep e w b v:=by
 induction h generalizing v with
 |refl=>exact r
 |lst sz n f g hfg=>
  cases r with
  |lstNil sz f=>exact .lstNil sz g
  |lst sz n f b o cap gg h1 h2 h3 h4 h5 h6 h7 h8 ad had=>
   exact .lst sz n g b o cap gg h1 h2 (λi O a ha=>h3 i O a (by rw [hfg i O];exact ha)) h4 h5 h6 (λi O=>by rw [←hfg i O];exact h7 i O) (λi j a O ha=>h8 i j a O (by rw [hfg i O];exact ha)) ad had
 |deep sz n f g hl hsm ih=>
  cases r with
  |lstNil sz f=>exact .lstNil sz g
  |lst sz n f b o cap gg h1 h2 h3 h4 h5 h6 h7 h8 ad had=>
   have get: ∀i j b,i<n->(g i)[j]? =some b-> ∃a,(f i)[j]? =some a:=λi j b O hb=>by
    have hj:j<(f i).length:=by rw [hl i O];exact (FW.1 hb).1
    exact ⟨_,D4 hj⟩
   refine .lst sz n g b o cap gg h1 h2 (λi O b hb=>?_) h4 h5 h6 (λi O=>by rw [←hl i O];exact h7 i O) (λi j b O hb=>?_) ad had
   ·obtain ⟨j,hj⟩:=xC.1 hb;obtain ⟨a,ha⟩:=get i j b O hj;exact (hsm i j a b O ha hj).idf (h3 i O a (F4 ha))
   ·obtain ⟨a,ha⟩:=get i j b O hb;exact ih i j a b O ha hb (h8 i j a O ha)
 |nil sz g=>cases r.x_inv;exact .lstNil sz g
 |agg l l' hl _ ih=>
  obtain ⟨vs,rfl,Z⟩:=r.agg_inv;refine Rep.aggL ⟨by rw [←hl];exact Z.1,λj b v hb hv=>?_⟩
  have hj:j<l.length:=by rw [hl];exact (FW.1 hb).1
  exact ih j l[j] b (D4 hj) hb (Z.2 j _ v (D4 hj) hv)
inductive P1:List AV->List AV->Prop
 |nil:P1 [] []
 |cons {a b:AV} {l l':List AV}:uM a b->P1 l l'->P1 (a::l) (b::l')
theorem P1.same{l l':List AV}(h:P1 l l'):uM (.agg l) (.agg l'):=by
 have key:l.length=l'.length/\ ∀(j:Nat) (a b:AV),l[j]? =some a->l'[j]? =some b->uM a b:=by
  induction h with
  |nil=>exact ⟨rfl,λj a b h=>by simp at h⟩
  |cons h1 _ ih=>
   refine ⟨by simp [ih.1],λj a b ha hb=>?_⟩
   cases j with
   |zero=>simp at ha hb;subst ha;subst hb;exact h1
   |succ j=>exact ih.2 j a b (by simpa using ha) (by simpa using hb)
 exact .agg l l' key.1 key.2
theorem P1.rep{e:UN}{w:World}{l l':List AV}(h:P1 l l'): ∀{vs:List Value},U5 e w l vs->U5 e w l' vs:=by
 induction h with
 |nil=>exact λr=>r
 |cons h1 _ ih=>
  intro vs r;obtain ⟨v,vs',rfl,hv,hvs⟩:=r.cons_inv;exact U5.cons (h1.rep hv) (ih hvs)
theorem P1.idf{l l':List AV}(h:P1 l l'):(∀a∈l,Idf a)-> ∀a∈l',Idf a:=by
 induction h with
 |nil=>exact λ_ a ha=>by cases ha
 |cons h1 _ ih=>
  intro k a ha;rcases GQ.1 ha with rfl|ha
  ·exact h1.idf (k _ GJ)
  ·exact ih (λa ha=>k a (HW _ ha)) a ha
theorem U0.same{P:Program}{f:FuncId}{avs avs':List AV}{res:AV}(h:U0 P f avs' res)(k:P1 avs avs'):U0 P f avs res:=h.args (λ_ _ _ r=>k.rep r) k.idf
def H4:List (Nat×AV)->List AV->List AV
 |[],σ=>σ
 |(k,a)::t,σ=>(H4 t σ).set k a
def We2(P:Program)(G:List (Nat×Spec))(L:List UL)(body:Code)(s nxt:St)(out:G9->Option St):VP G9:=
 (m6 P G L body 0 s).bind λp=>match p.1 with
  | .normal=> .needT (BK p.2 nxt) (.leaf .normal)
  | .exit id=>match out (.exit id) with
   |some E=> .needT (BK p.2 E) (.leaf (.exit id))
   |none=> .fail
  | .ret=>match out .ret with
   |some E=> .needT (BK p.2 E) (.leaf .ret)
   |none=> .fail
section
variable {P:Program}{G:List (Nat×Spec)}{L:List UL}
theorem oB{body:Code}{s nxt:St}{out:G9->Option St}{R:G9->Prop}(h:(We2 P G L body s nxt out).sat R):
  (m6 P G L body 0 s).sat (λp=>match p.1 with
   | .normal=>R .normal/\UD (BK p.2 nxt)
   |y=> ∃E,out y=some E/\R y/\UD (BK p.2 E)):=by
 refine VP.sat_mono ?_ (VP.sat_bind h);rintro ⟨y,s'⟩ hp;cases y with
 |normal=>exact ⟨(VP.sat_needT hp).2,(VP.sat_needT hp).1⟩
 |exit id=>
  dsimp only at hp ⊢
  split at hp
  ·rename_i E hE;exact ⟨E,hE,(VP.sat_needT hp).2,(VP.sat_needT hp).1⟩
  ·exact hp.elim
 |ret=>
  dsimp only at hp ⊢
  split at hp
  ·rename_i E hE;exact ⟨E,hE,(VP.sat_needT hp).2,(VP.sat_needT hp).1⟩
  ·exact hp.elim
theorem HJ(hG:VN P G)(GU:P.follows .mixedOrders=true){body:Code}(hL: ∀j cj,VV body j=some cj-> ∀sp,L[j]? =some sp->GA P cj sp)
  {X:Type}(inv:X->St)(I:X->Prop)(μ:X->Nat)(out:X->G9->Option St){t:CT}{x0:X}(h0:I x0)
  (hok: ∀x,okB (inv x)=true)(w8: ∀x y E,out x y=some E->okB E=true)
  (round: ∀(Q:G9×St->Prop),t.sat Q-> ∀x,I x-> ∃x',(We2 P G L body (inv x) (inv x') (out x)).sat (λy=>match y with
   | .normal=>I x'/\μ x'<μ x
   |y=> ∀E,out x y=some E->Q (y,E))):GA P (.loop body) (HK (inv x0) t):=by
 intro ro cx;refine jX (hok x0) ?_;intro n Q hQ a w r;refine aD μ (λx a w=>I x/\Rel cx (inv x) a w) ?_ ⟨h0,r⟩
 rintro x a w ⟨hx,Z⟩;obtain ⟨x',jA⟩:=round Q hQ x hx;refine wpIn_mono (DB hG (VZ.nil P cx) GU body 0 (inv x) _ a w (λj cj hj sp hsp=>hL j cj hj sp (by simpa using hsp) ro cx) (oB jA) Z) ?_
 rintro ex a₁ w₁ ⟨y,s',rfl,hq,hr'⟩;cases y with
 |normal=>
  obtain ⟨⟨h1,h2⟩,h3⟩:=hq;exact ⟨x',h2,h1,FX (GF h3) (hok x') hr'⟩
 |exit id=>
  obtain ⟨E,hE,h1,h3⟩:=hq;exact ⟨.exit id,E,rfl,h1 E hE,FX (GF h3) (w8 x _ E hE) hr'⟩
 |ret=>
  obtain ⟨E,hE,h1,h3⟩:=hq;exact ⟨.ret,E,rfl,h1 E hE,FX (GF h3) (w8 x _ E hE) hr'⟩
end
def H0(p:Nat->Bool):Nat->Nat
 | 0=>0
 |n+1=>match Nat.blt (H0 p n) n with
  |true=>H0 p n
  |false=>match p n with
   |true=>n
   |false=>n+1
theorem F6(p:Nat->Bool): ∀n,H0 p n<=n/\(∀j,j<H0 p n->p j=false)/\(H0 p n<n->p (H0 p n)=true)
 | 0=>by simp [H0]
 |n+1=>by
  obtain ⟨h1,h2,h3⟩:=F6 p n;unfold H0;split
  ·rename_i hb;rw [Aw] at hb;exact ⟨VM,h2,λ_=>h3 hb⟩
  ·rename_i hb;rw [←Bool.not_eq_true,Aw] at hb;have:H0 p n=n:=VM;rw [this] at h2;split
   ·rename_i hp;exact ⟨VM,h2,λ_=>hp⟩
   ·rename_i hp;refine ⟨VM,λj hj=>?_,λh=>VM⟩
    rcases (show j<n\/j=n by omega) with h|rfl
    ·exact h2 j h
    ·exact hp
theorem jB{p:Nat->Bool}{n k:Nat}(hk:k<n)(hp:p k=true)(hb: ∀j,j<k->p j=false):H0 p n=k:=by
 obtain ⟨h1,h2,h3⟩:=F6 p n;rcases Nat.lt_trichotomy (H0 p n) k with h|h|h
 ·have:=h3 VM;rw [hb _ h] at this;cases this
 ·exact h
 ·rw [h2 k h] at hp;cases hp
theorem qH{p:Nat->Bool}{n:Nat}(hb: ∀j,j<n->p j=false):H0 p n=n:=by
 obtain ⟨h1,h2,h3⟩:=F6 p n;rcases An (H0 p n) n with h|h
 ·have:=h3 h;rw [hb _ h] at this;cases this
 ·omega
def DD(p:Nat->Bool):Nat->Bool
 | 0=>true
 |n+1=>DD p n&&p n
theorem GW{p:Nat->Bool}: ∀{n:Nat},DD p n=true↔ ∀j,j<n->p j=true
 | 0=>by simp [DD]
 |n+1=>by
  rw [DD,HC,GW];constructor
  ·rintro ⟨h1,h2⟩ j hj;rcases (show j<n\/j=n by omega) with h|rfl
   ·exact h1 j h
   ·exact h2
  ·exact λh=>⟨λj hj=>h j VM,h n VM⟩
theorem kY{p:Nat->Bool}{n:Nat}:DD p n=decide (H0 (λk=> !p k) n=n):=by
 obtain ⟨h1,h2,h3⟩:=F6 (λk=> !p k) n
 rw [Bool.eq_iff_iff,GW,y5];constructor
 ·intro h;exact qH (λj hj=>by simp [h j hj])
 ·intro h j hj;have:=h2 j VM;simpa using this
end Go.Sx
