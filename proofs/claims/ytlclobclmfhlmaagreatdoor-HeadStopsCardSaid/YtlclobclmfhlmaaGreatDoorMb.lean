/- Contracts, put together. Conditions: those of each. -/
import Derived.Test.YtlclobclmfhlmaaGreatDoorMa
set_option linter.unusedSimpArgs false
set_option linter.unusedVariables false
namespace Go.Sx
open Go Go.RowKit
inductive VR (α:Type) where
 |fail
 |leaf (a:α)
 |branch (b:Bool) (t f:VR α)
 |need (ps:List Prop) (t:VR α)
 |may (p:Prop) (t f:VR α)
def UF:List Prop->Prop
 |[]=>True
 |[p]=>p
 |p::ps=>p/\UF ps
theorem GH: ∀{ps:List Prop},UF ps-> ∀p∈ps,p
 |[],_,_,h=>by cases h
 |[q],h,p,hp=>by rcases B9.1 hp with rfl;exact h
 |q::r::ps,h,p,hp=>by
  rcases GS.1 hp with rfl|hp
  ·exact h.1
  ·exact GH h.2 p hp
namespace VR
variable {α β:Type}
def bind:VR α->(α->VR β)->VR β
 | .fail,_=> .fail
 | .leaf a,g=>g a
 | .branch b t f,g=> .branch b (t.bind g) (f.bind g)
 | .need ps t,g=> .need ps (t.bind g)
 | .may p t f,g=> .may p (t.bind g) (f.bind g)
def sat(Q:α->Prop):VR α->Prop
 | .fail=>False
 | .leaf a=>Q a
 | .branch b t f=>(b=true->t.sat Q)/\(b=false->f.sat Q)
 | .need ps t=>UF ps/\t.sat Q
 | .may p t f=>(p->t.sat Q)/\f.sat Q
theorem sat_mono{Q Q':α->Prop}(h: ∀a,Q a->Q' a): ∀{t:VR α},t.sat Q->t.sat Q'
 | .fail,k=>k
 | .leaf _,k=>h _ k
 | .branch _ _ _,k=>⟨λe=>sat_mono h (k.1 e),λe=>sat_mono h (k.2 e)⟩
 | .need _ _,k=>⟨k.1,sat_mono h k.2⟩
 | .may _ _ _,k=>⟨λe=>sat_mono h (k.1 e),sat_mono h k.2⟩
theorem sat_bind{Q:β->Prop}{g:α->VR β}: ∀{t:VR α},(t.bind g).sat Q->t.sat (λa=>(g a).sat Q)
 | .fail,k=>k
 | .leaf _,k=>k
 | .branch _ _ _,k=>⟨λe=>sat_bind (k.1 e),λe=>sat_bind (k.2 e)⟩
 | .need _ _,k=>⟨k.1,sat_bind k.2⟩
 | .may _ _ _,k=>⟨λe=>sat_bind (k.1 e),sat_bind k.2⟩
def needT(ps:List Prop)(t:VR α):VR α:=match ps with
 |[]=>t
 |p::r=> .need (p::r) t
theorem sat_needT{Q:α->Prop}{ps:List Prop}{t:VR α}(h:(needT ps t).sat Q):UF ps/\t.sat Q:=by
 cases ps with
 |nil=>exact ⟨trivial,h⟩
 |cons p r=>exact h
end VR
structure St where
 σ:List AV
 m:H9
 nx:Nat
 gh:Option Nat:=none
 sv:List (List AV):=[]
def bA:Value->AV
 | .bool b=> .lit b
 |v=> .x v
def rho(σ:List AV):Operand->AV
 | .tmp t=>σ.getD t .top
 | .const v=>bA v
 | .global g=> .x (.pointer (some ⟨g,0,none⟩))
 | .func f=> .fn (.func f) [] []
theorem rW{e:UP}{w:World}(v:Value):Rep e w (bA v) v:=by
 unfold bA;split
 ·exact .lit _
 ·exact .x _
theorem FP{e:UP}{w:World}{σ:List AV}{a:Act}(h:U7 e w σ a.tmps.toList)(x:Operand):Rep e w (rho σ x) (a.eval x):=by
 cases x with
 |tmp t=>
  simp only [rho,Act.eval];by_cases ht:t<σ.length
  ·obtain ⟨v,hv,r⟩:=h.get (List.getElem?_eq_getElem ht);have hv':a.tmps[t]? =some v:=by simpa using hv
   simpa [List.getD,List.getElem?_eq_getElem ht,Array.getD_eq_getD_getElem?,hv'] using r
  ·have hno:σ[t]? =none:=Br (Nat.le_of_not_lt ht);rw [List.getD,hno];exact .top _
 |const v=>exact rW v
 |global g=>exact .x _
 |func f=>exact .fn (.func f) [] [] [] [] rfl (λi a v h=>by simp at h) rfl (λi a v h=>by simp at h)
structure Cx where
 M:Nat->Prop
 Φ:Option Nat->(Nat->Prop)->World->Prop
 K:Nat->Obj->Prop
 saved:List (List Value)
 sz:Nat:=0
def SY(M:Nat->Prop)(e:UP)(w:World)(ds:List Deferred):Prop:=(∀d∈ds,∃D,d={target:= .collected D,args:=#[] }/\e.ro D/\D<w.heap.size/\w.heap[D]? =some (.deferred (some []))/\M D)/\ds.Nodup
def LD(e:UP)(w:World)(l:List (List AV))(vs:List (List Value)):Prop:=l.length=vs.length/\ ∀(i:Nat) (a:List AV) (v:List Value),l[i]? =some a->vs[i]? =some v->U7 e w a v
theorem LD.step{e e':UP}{w w':World}(s:Step e e' w w'){l:List (List AV)}{vs:List (List Value)}(h:LD e w l vs):LD e' w' l vs:=⟨h.1,λi a v ha hv=>(h.2 i a v ha hv).step s⟩
theorem LD.cons{e:UP}{w:World}{a:List AV}{v:List Value}{l:List (List AV)}{vs:List (List Value)}(h:U7 e w a v)(t:LD e w l vs):LD e w (a::l) (v::vs):=by
 refine ⟨by simp [t.1],λi b u hb hu=>?_⟩
 cases i with
 |zero=>simp at hb hu;subst hb;subst hu;exact h
 |succ i=>simp at hb hu;exact t.2 i b u hb hu
theorem LD.cons_inv{e:UP}{w:World}{l:List (List AV)}{v:List Value}{vs:List (List Value)}(h:LD e w l (v::vs)): ∃a l',l=a::l'/\U7 e w a v/\LD e w l' vs:=by
 cases l with
 |nil=>have:=h.1;simp at this
 |cons a l'=>exact ⟨a,l',rfl,h.2 0 a v (by simp) (by simp),⟨by have:=h.1;simpa using this,λi b u hb hu=>h.2 (i+1) b u (by simpa using hb) (by simpa using hu)⟩⟩
theorem LD.map{e e':UP}{w w':World}{l:List (List AV)}{vs:List (List Value)}(g:AV->AV)(hg: ∀a v,Rep e w a v->Rep e' w' (g a) v)(h:LD e w l vs):LD e' w' (l.map (·.map g)) vs:=by
 refine ⟨by simp [h.1],λi a v ha hv=>?_⟩
 rw [Bn,Ay] at ha;obtain ⟨a',ha',rfl⟩:=ha;obtain ⟨h1,h2⟩:=h.2 i a' v ha' hv;refine ⟨by simp [h1],λj b u hb hu=>?_⟩
 rw [Bn,Ay] at hb;obtain ⟨b',hb',rfl⟩:=hb;exact hg _ _ (h2 j b' u hb' hu)
structure Xt (c:Cx) (e:UP) (sv:List (List AV)) (ds:List Deferred) (w:World):Prop where
 defers:SY c.M e w ds
 kept: ∀b o,c.K b o->e.ro b/\b<w.heap.size/\w.heap[b]? =some o
 saved:LD e w sv c.saved
 size:c.sz<=w.heap.size
theorem SY.step{M:Nat->Prop}{e e':UP}{w w':World}(s:Step e e' w w'){ds:List Deferred}(h:SY M e w ds):SY M e' w' ds:=by
 refine ⟨λd hd=>?_,h.2⟩
 obtain ⟨D,h1,h2,h3,h4,h5⟩:=h.1 d hd;obtain ⟨k1,k2⟩:=s.ro D h3 h2;exact ⟨D,h1,k1,Nat.lt_of_lt_of_le h3 s.size,k2.trans h4,h5⟩
theorem Xt.step{c:Cx}{e e':UP}{sv:List (List AV)}{ds:List Deferred}{w w':World}(h:Xt c e sv ds w)(s:Step e e' w w'):Xt c e' sv ds w':=by
 refine ⟨h.defers.step s,λb o hb=>?_,h.saved.step s,Ar h.size s.size⟩
 obtain ⟨h1,h2,h3⟩:=h.kept b o hb;obtain ⟨k1,k2⟩:=s.ro b h2 h1;exact ⟨k1,Nat.lt_of_lt_of_le h2 s.size,k2.trans h3⟩
structure F9 (c:Cx) (w0:World) (T:Nat->Prop) (e:UP) (s:St) (a:Act) (w:World):Prop where
 env:G6 e w0.heap.size w
 below:Below w0.heap.size w0 w
 mem:UZ e s.m w
 live: ∀k,e.live k->k<s.nx
 foe: ∀b,T b->b<w0.heap.size/\ ¬e.ro b
 xt:Xt c e s.sv a.defers w
 slots:U7 e w s.σ a.tmps.toList
def Rel(c:Cx)(s:St)(a:Act)(w:World):Prop:= ∃w0 T e,c.Φ s.gh T w0/\F9 c w0 T e s a w
def xM(σ:List AV)(dst:Option Nat)(v:AV):List AV:=
 match dst with
 |some d=>σ.set d v
 |none=>σ
theorem qG{e:UP}{w:World}{σ:List AV}{a:Act}(h:U7 e w σ a.tmps.toList)(dst:Option Nat){av:AV}{v:Value}(r:Rep e w av v):U7 e w (xM σ dst av) (a.put dst v).tmps.toList:=by
 cases dst with
 |none=>exact h
 |some d=>simp only [xM,Act.put,Array.toList_setIfInBounds];exact h.set r d
theorem put_defers(a:Act)(dst:Option Nat)(v:Value):(a.put dst v).defers=a.defers:=by cases dst<;>rfl
theorem F9.hB{c:Cx}{w0:World}{T:Nat->Prop}{e:UP}{s:St}{a:Act}{w:World}(h:F9 c w0 T e s a w):w0.heap.size<=w.heap.size:=h.below.size
def fr(ro:Option Nat):Fence:={Fence.wide with round:=ro}
section
variable {ro:Option Nat}{n:Nat}{P:Program}
theorem M1{f:FuncId}{args:Array Value}{w:World}{R:Ending->World->Prop}(h:Calls P f args w R):CallsIn (fr ro) n P f args w R:=callsIn_wide (n:=n).2 h
theorem Qn8{row:String}{args:Array Value}{w:World}{R:Value->World->Prop}(h:Rows P row args w R):RowsIn (fr ro) n P row args w R:=λc cs _=>by
 obtain ⟨v,w',h1,h2⟩:=h c cs;exact ⟨v,w',h1,stepsIn_wide.2 h2⟩
theorem HQ{o:Oper}{a:Act}{w:World}{K:Act->World->Prop}{Q:Exit->Act->World->Prop}(hd: ∀c,o.op≠ .defer c)(h:o.wp P a w K Q):o.wpIn (fr ro) n P a w K Q:=by
 refine ⟨λf _=>trivial,?_⟩
 rw [Oper.semAt_eq _ _ _ hd];unfold Oper.wp at h;generalize (execOp a.eval o).run P w=r at h ⊢;have Xl5:(fr ro).depth.isSome=true->1<=n:=λh=>by cases h
 unfold Oper.upon at h;split at h
 ·exact h
 ·exact h
 ·exact h
 ·exact ⟨Xl5,M1 h⟩
 ·exact ⟨Xl5,Qn8 h⟩
 ·exact h
 ·exact h.elim
end
def mM(P:Program)(id:Nat)(m:H9)(ρ:Operand->AV)(op:Op):Option (List Prop×AV×H9):=
 match op with
 | .store t x y=>match zY P m t (ρ x) (ρ y) with
  |some (ns,m')=>some (ns,.top,m')
  |none=>none
 | .mapUpdate t x k y=>match ρ x,C2 (ρ k),C2 (ρ y),Qx4 P t with
  | .mp id,some kv,some yv,some z=>match DL m id with
   |some (.memo h f)=>match Zm4 (ρ y) with
    |true=>some ([∀u,h u->f u=yv,FI P t (λu=>h u\/u=kv) kv z],.top,(id,.memo (λu=>h u\/u=kv) (λ_=>yv))::jW m id)
    |false=>some ([FI P t h kv z,h kv,yv=f kv],.top,(id,.memo h f)::jW m id)
   |_=>none
  |_,_,_,_=>none
 | .call c=>match c.callee,c.args.toList,c.argTypes.toList with
  | .builtin .append,[s,x],[t,t']=>match Nat.beq t t' with
   |true=>R9 P id m t (ρ s) (ρ x)
   |false=>yI P id m t t' (ρ s) (ρ x)
  |_,_,_=>none
 |_=>none
def mI(P:Program)(m:H9)(ρ:Operand->AV)(op:Op):Option (List Prop×Prop×AV×AV):=
 match op with
 | .binOp .eql t x (.const (.slice none 0 0)) _=>match ρ x,P.underlying t with
  | .lst _ n _,some (.slice _)=>some ([],n=0,.lit true,.lit false)
  |_,_=>none
 | .binOp .neq t x (.const (.slice none 0 0)) _=>match ρ x,P.underlying t with
  | .lst _ n _,some (.slice _)=>some ([],n=0,.lit false,.lit true)
  |_,_=>none
 | .lookup t x k ok=>match ρ x,C2 (ρ k),Qx4 P t with
  | .mp id,some kv,some z=>match DL m id with
   |some (.memo h f)=>some ([FI P t h kv z],h kv,pM ok (f kv) true,pM ok z false)
   |_=>none
  |_,_,_=>none
 |_=>none
abbrev DM:=List AV->Option (VR AV)
abbrev BT:=List AV->Option (List Prop×TypeId×Nat×Nat×(Nat->List AV))
abbrev D7:=List AV->H9->Nat->List (List AV)->Option (VR (AV×H9×Nat×List (List AV)))
def Xw4(o:Option Nat)(s:St)(p:AV×H9×Nat×List (List AV)):VR St:=match p.2.2.2 with
 |σ::t=> .leaf {s with σ:=xM σ o p.1,m:=p.2.1,nx:=p.2.2.1,sv:=t}
 |[]=> .fail
structure Ext where
 Y:Option (Nat×Nat×(Nat->List Value)):=none
 R:List (Nat×Spec):=[]
 H:List (Nat×D7):=[]
 C:List (Nat×DM):=[]
 F:List (Nat×BT):=[]
 D:List (Nat×DM):=[]
def Ws9:List (Nat×D7)->Nat->Option D7
 |[],_=>none
 |(k,s)::t,f=>match Nat.beq k f with
  |true=>some s
  |false=>Ws9 t f
theorem Ws8{G:List (Nat×D7)}{f:Nat}{s:D7}(h:Ws9 G f=some s):(f,s)∈G:=by
 induction G with
 |nil=>simp [Ws9] at h
 |cons p t ih=>
  obtain ⟨k,r'⟩:=p;unfold Ws9 at h;split at h
  ·rename_i hk;have:k=f:=Nat.eq_of_beq_eq_true hk;subst this;cases h;exact List.mem_cons_self
  ·exact List.mem_cons_of_mem _ (ih h)
def aP:List (Nat×DM)->Nat->Option DM
 |[],_=>none
 |(k,s)::t,f=>match Nat.beq k f with
  |true=>some s
  |false=>aP t f
def Wt1:List (Nat×BT)->Nat->Option BT
 |[],_=>none
 |(k,s)::t,f=>match Nat.beq k f with
  |true=>some s
  |false=>Wt1 t f
theorem Wt0{G:List (Nat×BT)}{f:Nat}{s:BT}(h:Wt1 G f=some s):(f,s)∈G:=by
 induction G with
 |nil=>simp [Wt1] at h
 |cons p t ih=>
  obtain ⟨k,s'⟩:=p;unfold Wt1 at h;split at h
  ·rename_i hk;have:k=f:=Nat.eq_of_beq_eq_true hk;subst this;cases h;exact List.mem_cons_self
  ·exact List.mem_cons_of_mem _ (ih h)
theorem II{G:List (Nat×DM)}{f:Nat}{s:DM}(h:aP G f=some s):(f,s)∈G:=by
 induction G with
 |nil=>simp [aP] at h
 |cons p t ih=>
  obtain ⟨k,r'⟩:=p;unfold aP at h;split at h
  ·rename_i hk;have:k=f:=Nat.eq_of_beq_eq_true hk;subst this;cases h;exact List.mem_cons_self
  ·exact List.mem_cons_of_mem _ (ih h)
def AD:Nat->AV->Bool
 | 0,a=>a.idf
 |d+1,a=>match a with
  | .agg l=>l.all (AD d)
  | .tup l=>l.all (AD d)
  | .fn _ l l'=>l.all (AD d)&&l'.all (AD d)
  |a=>a.idf
theorem kO{e:UP}{w:World}: ∀(d:Nat) (a:AV) (v:Value),Rep e w a v->AD d a=true->Idf a
 | 0,_,_,r,h=>j9 r h
 |d+1,a,v,r,h=>by
  have ih:=kO (e:=e) (w:=w) d;have all: ∀{l:List AV} {vs:List Value},U7 e w l vs->l.all (AD d)=true-> ∀a∈l,Idf a:=by
   intro l vs Z hl a ha;obtain ⟨i,O⟩:=List.mem_iff_getElem?.1 ha;obtain ⟨v,hv,r⟩:=Z.get O;exact ih a v r (List.all_eq_true.1 hl a ha)
  cases r with
  |agg l vs h1 h2=>exact .agg l (all ⟨h1,h2⟩ h)
  |tup l vs h1 h2=>exact .tup l (all ⟨h1,h2⟩ h)
  |fn f l l' vs vs' h1 h2 h3 h4=>
   simp only [AD,Bool.and_eq_true] at h;exact .fn f l l' (all ⟨h1,h2⟩ h.1) (all ⟨h3,h4⟩ h.2)
  |top v=>exact .top
  |lit b=>exact .lit b
  |x v=>exact .x v
  |ro l vs b o h1 h2 h3 h4 h5 h6=>exact .ro l h3
  |lstNil sz f=>exact .lst sz 0 f (λi O=>by omega)
  |lst sz n f b o cap g h1 h2 h3 h4 h5 h6 h7 h8 ad had=>exact .lst sz n f h3
  |roI pre n f off b o Z=>exact j9 (Rep.roI pre n f off b o Z) rfl
  |mpr g okf vals b es c h1 h2 h3 h4 h5 h6 h7 h8=>exact .mpr g okf h3
  |any1 v hv=>exact .any1
  |_=>simp [AD,AV.idf] at h
def C1:List AV->Option (List Value)
 |[]=>some []
 |a::t=>match C2 a,C1 t with
  |some v,some vs=>some (v::vs)
  |_,_=>none
theorem C0{e:UP}{w:World}: ∀{l:List AV} {vs us:List Value},C1 l=some vs->U7 e w l us->us=vs
 |[],vs,us,h,r=>by
  simp only [C1,Option.some.injEq] at h;rw [r.nil_inv,←h]
 |a::l,vs,us,h,r=>by
  obtain ⟨u,us',rfl,hu,r'⟩:=r.cons_inv;unfold C1 at h;split at h
  ·rename_i v vs' h1 h2;cases h;rw [xI h1 hu,C0 h2 r']
  ·cases h
def opX(X:Ext)(o:Oper)(s:St):Option (VR St):=
 match o.op with
 | .call c=>match c.callee with
  | .value f=>match rho s.σ f with
   | .fn (.yield l) [] []=>match X.Y,s.gh,s.sv,C1 (c.args.toList.map (rho s.σ)) with
    |some (l',N,vals),some k,[],some vs=>some (.need [l=l',k<N,vs=vals k]
      (.may True (.leaf {σ:=xM (s.σ.map (DH s.m 40)) o.dst (.lit true),m:=[],nx:=0,gh:=some (k+1),sv:=[] })
       (.leaf {σ:=xM (s.σ.map (DH s.m 40)) o.dst (.lit false),m:=[],nx:=0,gh:=none,sv:=[] })))
    |_,_,_,_=>none
   | .fn (.func g) first caps=>match sJ X.R g with
    |some sp=>match (first++c.args.toList.map (rho s.σ)++caps).all (AD 6) with
     |true=>match sp (first++c.args.toList.map (rho s.σ)++caps) with
      |some (ns,r)=>some (.needT ns (.leaf {s with σ:=xM s.σ o.dst r,nx:=s.nx+1}))
      |none=>none
     |false=>none
    |none=>match Ws9 X.H g with
     |some h=>match h (first++c.args.toList.map (rho s.σ)++caps) s.m s.nx (s.σ::s.sv) with
      |some t=>some (t.bind (Xw4 o.dst s))
      |none=>none
     |none=>match aP X.C g with
      |some sp=>match (first++c.args.toList.map (rho s.σ)++caps).all (AD 6) with
       |true=>match sp (first++c.args.toList.map (rho s.σ)++caps) with
        |some t=>some (t.bind λr=> .leaf {s with σ:=xM s.σ o.dst r,nx:=s.nx+1})
        |none=>none
       |false=>none
      |none=>none
   |_=>none
  |_=>none
 |_=>none
section
variable (P:Program)(f:FuncId)(avs:List AV)
def FH(res:AV):Prop:=
 ∀(e:UP) (w:World) (args:List Value),(∀b,e.ro b->b<w.heap.size)->D6 e w->(∀a∈avs,Idf a)->U7 e w avs args->
  Calls P f args.toArray w λen w'=> ∃v,en= .returned v/\Below w.heap.size w w'/\Rep {PM w w' with ro:=(e.more w w').ro} w' res v
def US(t:VR AV):Prop:=
 ∀Q:AV->Prop,t.sat Q-> ∀(e:UP) (w:World) (args:List Value),(∀b,e.ro b->b<w.heap.size)->D6 e w->(∀a∈avs,Idf a)->U7 e w avs args->
  Calls P f args.toArray w λen w'=> ∃v r,en= .returned v/\Q r/\Below w.heap.size w w'/\Rep {PM w w' with ro:=(e.more w w').ro} w' r v
def PR(t:VR AV):Prop:=
 ∀Q:AV->Prop,t.sat Q-> ∀(e:UP) (w:World) (args:List Value),(∀b,e.ro b->b<w.heap.size)->D6 e w->(∀a∈avs,Idf a)->U7 e w avs args->
  Calls P f args.toArray w λen w'=> ∃v r,en= .returned v/\Q r/\Below w.heap.size w w'/\Rep (PM w w') w' r v
def DU(T:TypeId)(sz n:Nat)(g:Nat->List AV):Prop:=
 ∀(e:UP) (w:World) (args:List Value),(∀b,e.ro b->b<w.heap.size)->D6 e w->(∀a∈avs,Idf a)->U7 e w avs args->
  Calls P f args.toArray w λen w'=> ∃v xs,en= .returned v/\Below w.heap.size w w'/\w'.ownsRow 0 T sz v n xs/\(∀b,v.ownBlock=some b->w.heap.size<=b/\b<w'.heap.size)/\
   (∀i,i<n->(g i).length=sz/\ ∀a∈g i,∃u,a= .x u)/\ ∀(i j:Nat) (a:AV) (u:Value),i<n->(g i)[j]? =some a->xs[i*sz+j]? =some u->a= .x u
end
theorem M0{e:UP}{B:Nat}{w w':World}{m:H9}{id:Nat}{T:TypeId}{sz n:Nat}{g:Nat->List AV}{v:Value}{xs:List Value}(hE:G6 e B w)(hB:B<=w.heap.size)(hm:UZ e m w)(hid: ¬e.live id)
  (hb:Below w.heap.size w w')(ho:w'.ownsRow 0 T sz v n xs)(hn: ∀b,v.ownBlock=some b->w.heap.size<=b/\b<w'.heap.size)(hg: ∀i,i<n->(g i).length=sz/\ ∀a∈g i,∃u,a= .x u)
  (Z: ∀(i j:Nat) (a:AV) (u:Value),i<n->(g i)[j]? =some a->xs[i*sz+j]? =some u->a= .x u):
  LQ e B w m id (.row id) (some (.row T sz n g)) v w':=by
 let e':UP:={ro:=λb=>e.ro b\/(w.heap.size<=b/\b<w'.heap.size/\v.ownBlock≠some b),own:=λb=>if v.ownBlock=some b then some id else e.own b,live:=λk=>k=id\/e.live k,blk:=e.blk,val:=λk=>if k=id then v else e.val k}
 have Wq0: ∀b,b<w.heap.size->v.ownBlock≠some b:=λb hb hv=>by have:=(hn b hv).1;omega
 have st:Step e e' w w':=by
  refine ⟨λb hlt Z=>⟨.inl Z,hb.block b hlt⟩,λk hk=>⟨.inr hk,rfl,?_⟩,hb.size⟩
  have:k≠id:=λh=>hid (h▸hk)
  simp [e',this]
 have HC: ∀b k,e.own b=some k->e'.own b=some k:=by
  intro b k hk;have:=(hE.owned b k hk).2;show (if v.ownBlock=some b then some id else e.own b)=some k
  rw [if_neg (Wq0 b this)];exact hk
 have hE':G6 e' B w':=by
  refine ⟨?_,λb k hk=>?_,hE.glob.step st⟩
  ·rintro b (h|⟨h1,h2,h3⟩)
   ·have h4:=hE.apart b h;have:=hb.size;refine ⟨?_,by omega⟩
    show (if v.ownBlock=some b then some id else e.own b)=none
    rw [if_neg (Wq0 b h4.2)];exact h4.1
   ·refine ⟨?_,h2⟩;show (if v.ownBlock=some b then some id else e.own b)=none
    rw [if_neg h3];cases ho:e.own b with
    |none=>rfl
    |some k=>have:=(hE.owned b k ho).2;omega
  ·have hk:(if v.ownBlock=some b then some id else e.own b)=some k:=hk
   split at hk
   ·rename_i hv;have:=hn b hv;omega
   ·have:=hE.owned b k hk;have:=hb.size;omega
 refine ⟨e',hb,st,hE',HC,?_,?_,λk hk=>hk.symm,λb h=>h.imp (λh=>h) (λh=>h.1)⟩
 ·rcases ho.2 with ⟨rfl,rfl⟩|⟨gb,cap,cur,rfl,_⟩
  ·exact .row id _ _ _ (.inl rfl) (by simp [e'])
  ·exact .row id _ _ _ (.inl rfl) (by simp [e'])
 ·intro p hp;rcases List.mem_cons.1 hp with rfl|hp
  ·refine ⟨.inl rfl,λb hv=>?_,λi O=>⟨(hg i O).1,λa ha=>?_⟩,xs,?_,λi j a u O ha hu=>?_⟩
   ·have hv:v.ownBlock=some b:=by simpa [e'] using hv
    show (if v.ownBlock=some b then some id else e.own b)=some id
    rw [if_pos hv]
   ·obtain ⟨u,rfl⟩:=(hg i O).2 a ha;exact .x u
   ·show w'.ownsRow 0 T sz (if id=id then v else e.val id) n xs
    rw [if_pos rfl];exact ho
   ·rw [Z i j a u O ha hu];exact .x u
  ·exact (hm p hp).ext hb st HC
def GG(P:Program)(f:FuncId)(h:D7):Prop:=Enters P f/\ ∀avs m nx sv t,h avs m nx sv=some t-> ∀Q,t.sat Q-> ∀(c:Cx) (w0:World) (T:Nat->Prop) (e:UP) (ds:List Deferred) (args:List Value) (w:World),
 G6 e w0.heap.size w->Below w0.heap.size w0 w->UZ e m w->(∀k,e.live k->k<nx)->(∀b,T b->b<w0.heap.size/\ ¬e.ro b)->Xt c e sv ds w->U7 e w avs args->
  Calls P f args.toArray w λen w'=> ∃v r m' nx' sv' e',en= .returned v/\Q (r,m',nx',sv')/\G6 e' w0.heap.size w'/\Below w0.heap.size w0 w'/\UZ e' m' w'/\(∀k,e'.live k->k<nx')/\
   (∀b,T b->b<w0.heap.size/\ ¬e'.ro b)/\Xt c e' sv' ds w'/\Rep e' w' r v
def Zq9(P:Program)(c:Cx)(l N:Nat)(vals:Nat->List Value):Prop:=
 (∀k T w w',c.Φ (some k) T w->Below w.heap.size w w'->c.Φ (some k) T w')/\
 ∀k T w n,c.Φ (some k) T w->k<N->YieldAt (fr none) n P l (vals k).toArray w λen w'=>w.heap.size<=w'.heap.size/\(∀b,b<w.heap.size-> ¬T b->w'.heap[b]? =w.heap[b]?)/\
  ∃T',(∀b,T' b->b<w'.heap.size/\(T b\/w.heap.size<=b))/\((en= .returned (.bool true)/\c.Φ (some (k+1)) T' w')\/(en= .returned (.bool false)/\c.Φ none T' w'))
structure U1 (P:Program) (X:Ext) (c:Cx):Prop where
 y: ∀l N vals,X.Y=some (l,N,vals)->Zq9 P c l N vals
 r: ∀p∈X.R,Enters P p.1/\ ∀avs ns res,p.2 avs=some (ns,res)->(∀p∈ns,p)->FH P p.1 avs res
 h: ∀p∈X.H,GG P p.1 p.2
 c: ∀p∈X.C,Enters P p.1/\ ∀avs t,p.2 avs=some t->US P p.1 avs t
 f: ∀p∈X.F,Enters P p.1/\ ∀avs ns T sz n g,p.2 avs=some (ns,T,sz,n,g)->(∀q∈ns,q)->DU P p.1 avs T sz n g
 d: ∀p∈X.D,Enters P p.1/\ ∀avs t,p.2 avs=some t->PR P p.1 avs t
theorem U1.nil(P:Program)(c:Cx):U1 P {} c:=⟨(λ_ _ _ h=>by cases h),(λ_ h=>by cases h),(λ_ h=>by cases h),(λ_ h=>by cases h),(λ_ h=>by cases h),(λ_ h=>by cases h)⟩
def We0(P:Program)(G:List (Nat×Spec))(X:Ext)(o:Oper)(s:St):VR St:=
 match aop P G s.nx s.m (rho s.σ) o.op with
 |some (ns,val,add)=> .needT ns (.leaf {s with σ:=xM s.σ o.dst val,m:=Jm6 s.m s.nx add,nx:=s.nx+1})
 |none=>match mM P s.nx s.m (rho s.σ) o.op with
  |some (ns,val,m')=> .needT ns (.leaf {s with σ:=xM s.σ o.dst val,m:=m',nx:=s.nx+1})
  |none=>match mI P s.m (rho s.σ) o.op with
   |some (ns,p,v1,v2)=> .needT ns (.may p (.leaf {s with σ:=xM s.σ o.dst v1,nx:=s.nx+1}) (.leaf {s with σ:=xM s.σ o.dst v2,nx:=s.nx+1}))
   |none=>match opX X o s with
    |some t=>t
    |none=> .fail
section
variable {P:Program}
theorem tJ{e:UP}{B:Nat}{w:World}{m m':H9}{id:Nat}{ρ:Operand->AV}{o:Oper}{a:Act}{ns:List Prop}{val:AV}
  (h:mM P id m ρ o.op=some (ns,val,m'))(hn: ∀p∈ns,p)(hE:G6 e B w)(hB:B<=w.heap.size)(hm:UZ e m w)(hid: ¬e.live id)(Z: ∀x,Rep e w (ρ x) (a.eval x))
  {K:Act->World->Prop}{Q:Exit->Act->World->Prop}(hK: ∀v w',MD e B w id val m' v w'->K (a.put o.dst v) w'):o.wp P a w K Q:=by
 obtain ⟨dst,op,type,pos,after,guard⟩:=o;cases op<;>try (simp [mM] at h;done)
 case store t x y=>
  simp only [mM] at h;split at h
  ·rename_i ns' m'' hs;cases h;obtain ⟨w',h1,h2⟩:=N2 (P:=P) hs hn hE hm (Z x) (Z y);unfold Oper.wp;have DV:(execOp a.eval ⟨dst,.store t x y,type,pos,after,guard⟩).run P w= .ok .skip w':=by simp [execOp,h1]
   rw [DV];exact hK undef w' (h2 id undef)
  ·cases h
 case mapUpdate t x k y=>
  simp only [mM] at h;split at h
  ·rename_i i kv yv z hx hkv hyv hz;split at h
   ·rename_i g f hg;have rx:=Z x;rw [hx] at rx;have ek:=xI hkv (Z k);have ey:=xI hyv (Z y);split at h
    ·cases h;cases hxv:a.eval x with
     |map b=>
      rw [hxv] at rx;cases rx with
      |mp _ hl=>
       obtain ⟨w',h1,h2⟩:=Wb9 hg (hn (∀u,g u->f u=yv) (by simp)) (hn (FI P t (λu=>g u\/u=kv) kv z) (by simp)) hE hm
       unfold Oper.wp;have DV:(execOp a.eval ⟨dst,.mapUpdate t x k y,type,pos,after,guard⟩).run P w= .ok .skip w':=by simp [execOp,hxv,ek,ey,h1]
       rw [DV];exact hK undef w' (h2 id undef)
     |_=>rw [hxv] at rx;cases rx
    cases h;cases hxv:a.eval x with
    |map b=>
     rw [hxv] at rx;cases rx with
     |mp _ hl=>
      obtain ⟨w',h1,h2⟩:=NO hg (hn (FI P t g kv z) (by simp)) (hn (g kv) (by simp)) (hn (yv=f kv) (by simp)) hE hm
      unfold Oper.wp;have DV:(execOp a.eval ⟨dst,.mapUpdate t x k y,type,pos,after,guard⟩).run P w= .ok .skip w':=by simp [execOp,hxv,ek,ey,h1]
      rw [DV];exact hK undef w' (h2 id undef)
    |_=>rw [hxv] at rx;cases rx
   ·cases h
  ·cases h
 case call c=>
  obtain ⟨callee,args,argTypes⟩:=c;simp only [mM] at h;split at h
  ·rename_i s x t t' hca hta;split at h
   ·rename_i ht;have ht':t=t':=Nat.eq_of_beq_eq_true ht;subst ht';obtain ⟨u,w',h1,h2⟩:=EO (P:=P) (ty:=type) h hn hE hB hm hid (Z s) (Z x);have ha:args=#[s,x]:=Array.ext' (by simpa using hca)
    have hat:argTypes=#[t,t]:=Array.ext' (by simpa using hta)
    subst ha;subst hat;refine D8 (v:=u) (w':=w') ?_ (hK u w' h2);simp [execOp,resolve,invoke,builtin,h1]
   ·obtain ⟨u,w',h1,h2⟩:=A6 (P:=P) (ty:=type) h hn hE hB hm hid (Z s) (Z x);have ha:args=#[s,x]:=Array.ext' (by simpa using hca)
    have hat:argTypes=#[t,t']:=Array.ext' (by simpa using hta)
    subst ha;subst hat;refine D8 (v:=u) (w':=w') ?_ (hK u w' h2);simp [execOp,resolve,invoke,builtin,h1]
  ·cases h
theorem NX{t el:TypeId}(hu:P.underlying t=some (.slice el))(op:BinOp)(ox:Operand)(w:World)(v:Value)(b:Bool)(hv:(v= .slice none 0 0/\b=true)\/(∃ad n c,v= .slice (some ad) n c/\b=false)):
  (op= .eql->(do eqGuard op t ox (.const (.slice none 0 0)) v (.slice none 0 0);binOp op t v (.slice none 0 0):Sem Value).run P w= .ok (.bool b) w)/\
  (op= .neq->(do eqGuard op t ox (.const (.slice none 0 0)) v (.slice none 0 0);binOp op t v (.slice none 0 0):Sem Value).run P w= .ok (.bool !b) w):=by
 have hg:op= .eql\/op= .neq->(eqGuard op t ox (.const (.slice none 0 0)) v (.slice none 0 0)).run P w= .ok () w:=by
  rintro (rfl|rfl)<;>rcases hv with ⟨rfl,_⟩|⟨ad,n,c,rfl,_⟩<;>simp [eqGuard]
 have he:(Op.equal t v (.slice none 0 0)).run P w= .ok b w:=by
  unfold Op.equal;rw [show Op.maxDepth=(Op.maxDepth-1)+1 by decide]
  rcases hv with ⟨rfl,rfl⟩|⟨ad,n,c,rfl,rfl⟩<;>simp [Op.equalIn,run_underlying hu]
 constructor
 ·rintro rfl;rw [At,hg (.inl rfl)];rcases hv with ⟨rfl,rfl⟩|⟨ad,n,c,rfl,rfl⟩<;>simp [binOp,he]
 ·rintro rfl;rw [At,hg (.inr rfl)];rcases hv with ⟨rfl,rfl⟩|⟨ad,n,c,rfl,rfl⟩<;>simp [binOp,he]
theorem M8{e:UP}{w:World}{m:H9}{ρ:Operand->AV}{o:Oper}{a:Act}{ns:List Prop}{p:Prop}{v1 v2:AV}(h:mI P m ρ o.op=some (ns,p,v1,v2))(hn: ∀p∈ns,p)(hm:UZ e m w)(Z: ∀x,Rep e w (ρ x) (a.eval x))
  {K:Act->World->Prop}{Q:Exit->Act->World->Prop}(hK: ∀v,(p/\Rep e w v1 v)\/Rep e w v2 v->K (a.put o.dst v) w):o.wp P a w K Q:=by
 obtain ⟨dst,op,type,pos,after,guard⟩:=o;simp only at h;unfold mI at h;split at h
 ·rename_i t x t';split at h
  ·rename_i sz n f el hx hu;cases h;have rx:=Z x;rw [hx] at rx;have hc: ∃b,((a.eval x= .slice none 0 0/\b=true)\/(∃ad n c,a.eval x= .slice (some ad) n c/\b=false))/\((n=0/\Rep e w (.lit true) (.bool b))\/Rep e w (.lit false) (.bool b)):=by
    generalize a.eval x=v at rx;cases rx with
    |lstNil=>exact ⟨true,.inl ⟨rfl,rfl⟩,.inl ⟨rfl,.lit true⟩⟩
    |lst _ _ _ b o cap g=>exact ⟨false,.inr ⟨_,_,_,rfl,rfl⟩,.inr (.lit false)⟩
   obtain ⟨b,h1,h2⟩:=hc;refine D8 (v:= .bool b) (w':=w) ?_ (hK _ h2);have:=(NX hu .eql x w _ b h1).1 rfl;have hs:execOp a.eval ⟨dst,.binOp .eql t x (.const (.slice none 0 0)) t',type,pos,after,guard⟩=(do pure (.value (←(do eqGuard .eql t x (.const (.slice none 0 0)) (a.eval x) (.slice none 0 0);binOp .eql t (a.eval x) (.slice none 0 0):Sem Value)))):=rfl;rw [hs,At,this];simp
  ·cases h
 ·rename_i t x t';split at h
  ·rename_i sz n f el hx hu;cases h;have rx:=Z x;rw [hx] at rx;have hc: ∃b,((a.eval x= .slice none 0 0/\b=true)\/(∃ad n c,a.eval x= .slice (some ad) n c/\b=false))/\((n=0/\Rep e w (.lit false) (.bool !b))\/Rep e w (.lit true) (.bool !b)):=by
    generalize a.eval x=v at rx;cases rx with
    |lstNil=>exact ⟨true,.inl ⟨rfl,rfl⟩,.inl ⟨rfl,.lit false⟩⟩
    |lst _ _ _ b o cap g=>exact ⟨false,.inr ⟨_,_,_,rfl,rfl⟩,.inr (.lit true)⟩
   obtain ⟨b,h1,h2⟩:=hc;refine D8 (v:= .bool !b) (w':=w) ?_ (hK _ h2);have:=(NX hu .neq x w _ b h1).2 rfl;have hs:execOp a.eval ⟨dst,.binOp .neq t x (.const (.slice none 0 0)) t',type,pos,after,guard⟩=(do pure (.value (←(do eqGuard .neq t x (.const (.slice none 0 0)) (a.eval x) (.slice none 0 0);binOp .neq t (a.eval x) (.slice none 0 0):Sem Value)))):=rfl;rw [hs,At,this];simp
  ·cases h
 ·rename_i t x k ok;split at h
  ·rename_i i kv z hx hkv hz;split at h
   ·rename_i g f hg;cases h;have rx:=Z x;rw [hx] at rx;have ek:=xI hkv (Z k);cases hxv:a.eval x with
    |map b=>
     rw [hxv] at rx;cases rx with
     |mp _ hl=>
      obtain ⟨_,_,es,c,h3,h4⟩:=hm _ (G5 hg);obtain ⟨v,h5,h6⟩:=Wd9 (hn (FI P t g kv z) (by simp)) h3 h4 ok
      refine D8 (v:=v) (w':=w) ?_ (hK v ?_)
      ·simp [execOp,hxv,ek,h5]
      ·rcases h6 with ⟨h6,rfl⟩|rfl
       ·exact .inl ⟨h6,EY e w ok _ true⟩
       ·exact .inr (EY e w ok _ false)
    |_=>rw [hxv] at rx;cases rx
   ·cases h
  ·cases h
 ·cases h
theorem gM{G:List (Nat×Spec)}{id:Nat}{m:H9}{ρ:Operand->AV}{op:Op}{x:Out}(h:aop P G id m ρ op=some x): ∀c,op≠ .defer c:=by
 rintro c rfl;simp [aop] at h
theorem NA{id:Nat}{m:H9}{ρ:Operand->AV}{op:Op}{x:List Prop×AV×H9}(h:mM P id m ρ op=some x): ∀c,op≠ .defer c:=by
 rintro c rfl;simp [mM] at h
theorem N9{m:H9}{ρ:Operand->AV}{op:Op}{x:List Prop×Prop×AV×AV}(h:mI P m ρ op=some x): ∀c,op≠ .defer c:=by
 rintro c rfl;simp [mI] at h
theorem F9.next{c:Cx}{w0:World}{T:Nat->Prop}{e e':UP}{s:St}{a:Act}{w w':World}(r:F9 c w0 T e s a w)(hb:Below w0.heap.size w w')(st:Step e e' w w')(hE:G6 e' w0.heap.size w')
  (hro: ∀b,e'.ro b->e.ro b\/w.heap.size<=b){m':H9}(hm:UZ e' m' w'){nx':Nat}(hl: ∀k,e'.live k->k<nx')(dst:Option Nat){av:AV}{v:Value}(hv:Rep e' w' av v):
  F9 c w0 T e' {s with σ:=xM s.σ dst av,m:=m',nx:=nx'} (a.put dst v) w':=by
 refine ⟨hE,r.below.trans hb,hm,hl,λb hT=>⟨(r.foe b hT).1,λh=>?_⟩,by rw [put_defers];exact r.xt.step st,qG (r.slots.step st) dst hv⟩
 rcases hro b h with h|h
 ·exact (r.foe b hT).2 h
 ·have:=(r.foe b hT).1;have:=r.hB;omega
theorem eF{G:List (Nat×Spec)}{X:Ext}{c:Cx}(hG:VP P G)(hX:U1 P X c){o:Oper}{s:St}{R:St->Prop}(h:(We0 P G X o s).sat R){w0:World}{T:Nat->Prop}{e:UP}{a:Act}{w:World}(hΦ:c.Φ s.gh T w0)(r:F9 c w0 T e s a w)
  {ro:Option Nat}{n:Nat}{K:Act->World->Prop}{Q:Exit->Act->World->Prop}(hK: ∀s' a' w',R s'->Rel c s' a' w'->K a' w'):o.wpIn (fr ro) n P a w K Q:=by
 have hid: ¬e.live s.nx:=λhl=>by have:=r.live _ hl;omega
 have lv: ∀{e':UP},(∀k,e'.live k->e.live k\/k=s.nx)-> ∀k,e'.live k->k<s.nx+1:=by
  intro e' hlv k hk;rcases hlv k hk with hk|rfl
  ·exact Nat.lt_succ_of_lt (r.live k hk)
  ·exact Bk _
 unfold We0 at h;split at h
 ·rename_i ns val add ha
  replace h:=VR.sat_needT h
  refine HQ (gM ha) (SH hG ha (GH h.1) r.env r.hB r.mem hid (FP r.slots) (λv w' hc=>?_))
  obtain ⟨e',hb,st,hE',ho,GQ,hm',hlv,hro⟩:=hc;exact hK _ _ _ h.2 ⟨w0,T,e',hΦ,r.next (hb.mono r.hB) st hE' hro hm' (lv hlv) o.dst GQ⟩
 ·split at h
  ·rename_i ns val m' ha
   replace h:=VR.sat_needT h
   refine HQ (NA ha) (tJ ha (GH h.1) r.env r.hB r.mem hid (FP r.slots) (λv w' hc=>?_))
   obtain ⟨e',hb,st,hE',GQ,hm',hlv,hro⟩:=hc;exact hK _ _ _ h.2 ⟨w0,T,e',hΦ,r.next hb st hE' (λb h=> .inl (hro b h)) hm' (lv hlv) o.dst GQ⟩
  ·split at h
   ·rename_i ns p v1 v2 ha
    replace h:=VR.sat_needT h
    obtain ⟨hn,h⟩:=h;refine HQ (N9 ha) (M8 ha (GH hn) r.mem (FP r.slots) (λv hv=>?_))
    have keep: ∀{av:AV},Rep e w av v->Rel c {s with σ:=xM s.σ o.dst av,nx:=s.nx+1} (a.put o.dst v) w:=
     λGQ=>⟨w0,T,e,hΦ,r.next (Below.refl _ _) (Step.refl e w) r.env (λ_ h=> .inl h) r.mem (λk hk=>Nat.lt_succ_of_lt (r.live k hk)) o.dst GQ⟩
    rcases hv with ⟨hp,hv⟩|hv
    ·exact hK _ _ _ (h.1 hp) (keep hv)
    ·exact hK _ _ _ h.2 (keep hv)
   ·split at h
    ·rename_i t ht;obtain ⟨dst,op,type,pos,after,guard⟩:=o;unfold opX at ht;split at ht
     ·rename_i cl hop;simp only at hop;subst hop;obtain ⟨callee,args,argTypes⟩:=cl;have ha:=U7.ops (FP r.slots) args.toList;split at ht
      ·rename_i f d7;simp only at d7;subst d7;have hf:=FP r.slots f;split at ht
       ·-- yield
        rename_i l hfe;rw [hfe] at hf;obtain ⟨us,us',hv,r1,r2⟩:=hf.fn_inv;cases r1.nil_inv;cases r2.nil_inv;split at ht
        ·rename_i l' N vals k vs hY hgh hsv hvs;cases ht;obtain ⟨hn,h⟩:=h;obtain ⟨rfl,hkN,hvk⟩:l=l'/\k<N/\vs=vals k:=hn;have OW:=C0 hvs ha;rw [hgh] at hΦ;obtain ⟨hst,hy⟩:=hX.y l N vals hY;have hΦ':=hst k T w0 w hΦ (r.below);obtain ⟨fn,tmps,assign,body,hyr,jC⟩:=hy k T w (n-1) hΦ' hkN;refine ⟨λf _=>trivial,?_⟩
         have hsem:Oper.semAt (fr ro).round a.eval ⟨dst,.call ⟨.value f,args,argTypes⟩,type,pos,after,guard⟩=execOp a.eval ⟨dst,.call ⟨.value f,args,argTypes⟩,type,pos,after,guard⟩:=Oper.semAt_eq _ _ _ (λc h=>by cases h)
         have e1:(args.toList.map a.eval).toArray=args.map a.eval:=Array.ext' (by simp)
         have DV:(execOp a.eval ⟨dst,.call ⟨.value f,args,argTypes⟩,type,pos,after,guard⟩).run P w= .ok (.round l fn tmps assign body) w:=by
          simp only [execOp,resolve,hv,Deferred.ofValue,At,Sem.run_pure,Au,invoke];rw [←hvk,←OW,e1] at hyr;simpa using hyr
         rw [hsem,DV];refine ⟨(λh=>by cases h),?_⟩
         have hround':RoundIn (fr ro) (n-1) P l fn tmps assign body w _:=jC;refine hround'.mono λen w' hq=>?_
         obtain ⟨hsz,z7,T',hT',F6⟩:=hq
         let e2:UP:={ro:=e.view.ro,own:=λ_=>none,live:=λ_=>False,blk:=λ_=>0,val:=λ_=> .nilIface}
         have hlt: ∀b,e2.ro b->b<w.heap.size:=by
          rintro b (h|⟨id,h⟩)
          ·exact (r.env.apart b h).2
          ·exact (r.env.owned b id h).2
         have hnT: ∀b,e2.ro b-> ¬T b:=by
          rintro b (h|⟨id,h⟩) hT
          ·exact (r.foe b hT).2 h
          ·have:=(r.env.owned b id h).1;have:=(r.foe b hT).1;omega
         have st2:Step e2 e2 w w':=⟨λb hb Z=>⟨Z,z7 b hb (hnT b Z)⟩,λ_ h=>h.elim,hsz⟩
         have gX:U7 e2 w' (s.σ.map (DH s.m 40)) a.tmps.toList:=
          (U7.map (DH s.m 40) (λx v hx=>Rep.idf (e:=e.view) (e':=e2) (λ_ h=>h) (LE r.env r.mem 40 x v hx) (RO r.mem 40 x v hx)) r.slots).step st2
         have hxt0:Xt c e2 [] a.defers w:=⟨⟨λd hd=>by obtain ⟨D,h1,h2,h3,h4,h5⟩:=r.xt.defers.1 d hd;exact ⟨D,h1,.inl h2,h3,h4,h5⟩,r.xt.defers.2⟩,λb o hb=>by obtain ⟨h1,h2,h3⟩:=r.xt.kept b o hb;exact ⟨.inl h1,h2,h3⟩,by
          have:=r.xt.saved.1;rw [hsv] at this;exact ⟨this,λi a v h=>by simp at h⟩,r.xt.size⟩
         have fin: ∀(b:Bool) (g:Option Nat),c.Φ g T' w'->Rel c {σ:=xM (s.σ.map (DH s.m 40)) dst (.lit b),m:=[],nx:=0,gh:=g,sv:=[] } (a.put dst (.bool b)) w':=by
          intro b g hg;refine ⟨w',T',e2,hg,⟨λb hb=>⟨rfl,Nat.lt_of_lt_of_le (hlt b hb) hsz⟩,(λb id h=>by cases h),D6.step (e:=e2) (w:=w) (λb p hp=>⟨.inl (r.env.glob b p hp).1,(r.env.glob b p hp).2⟩) st2⟩,Below.refl _ _,(λp hp=>by cases hp),(λk hk=>hk.elim),λb hb=>⟨(hT' b hb).1,λZ=>?_⟩,by rw [put_defers];exact hxt0.step st2,qG gX dst (.lit b)⟩
          rcases (hT' b hb).2 with h|h
          ·exact hnT b Z h
          ·have:=hlt b Z;omega
         rcases F6 with ⟨rfl,hg⟩|⟨rfl,hg⟩
         ·exact hK _ _ _ (h.1 trivial) (fin true _ hg)
         ·exact hK _ _ _ h.2 (fin false _ hg)
        ·cases ht
       ·-- a function by its contract
        rename_i g first caps hfe
        rw [hfe] at hf;obtain ⟨us,us',hv,r1,r2⟩:=hf.fn_inv;have D4:U7 e w (first++args.toList.map (rho s.σ)++caps) (us++args.toList.map a.eval++us'):=(r1.append ha).append r2
        have DV:Enters P g->(execOp a.eval ⟨dst,.call ⟨.value f,args,argTypes⟩,type,pos,after,guard⟩).run P w= .ok (.enter g (us++args.toList.map a.eval++us').toArray) w:=by
         intro PK;have e1:(us++args.toList.map a.eval++us').toArray=us.toArray++args.map a.eval++us'.toArray:=Array.ext' (by simp)
         simp only [execOp,resolve,hv,Deferred.ofValue,At,Sem.run_pure,Au,invoke];rw [e1];exact LH PK _ w
        split at ht
        ·rename_i sp hsp;split at ht
         ·rename_i FS;split at ht
          ·rename_i ns res F6;cases ht
           replace h:=VR.sat_needT h
           obtain ⟨PK,hs⟩:=hX.r _ (lN hsp);have hidf': ∀x∈first++args.toList.map (rho s.σ)++caps,Idf x:=by
            intro x hx;obtain ⟨i,O⟩:=List.mem_iff_getElem?.1 hx;obtain ⟨v,_,rv⟩:=D4.get O;exact kO 6 x v rv (List.all_eq_true.1 FS x hx)
           have FM:=hs _ _ _ F6 (GH h.1) e w _ (λb hb=>(r.env.apart b hb).2) r.env.glob hidf' D4
           refine HQ (λc h=>by cases h) ?_
           unfold Oper.wp;rw [DV PK,Oper.upon_enter];refine FM.mono λen w' hq=>?_
           obtain ⟨v,rfl,hb,GQ⟩:=hq;have st:Step e (e.more w w') w w':=⟨λb hlt Z=>⟨.inl Z,hb.block b hlt⟩,λ_ h=>⟨h,rfl,rfl⟩,hb.size⟩
           have hE':G6 (e.more w w') w0.heap.size w':=by
            refine ⟨?_,λb k hk=>?_,r.env.glob.step st⟩
            ·rintro b (Z|⟨h1,h2⟩)
             ·have:=r.env.apart b Z;have:=hb.size;exact ⟨(r.env.apart b Z).1,by omega⟩
             ·refine ⟨?_,h2⟩;cases ho:(e.more w w').own b with
              |none=>rfl
              |some k=>have:=(r.env.owned b k ho).2;omega
            ·have:=r.env.owned b k hk;have:=hb.size;exact ⟨(r.env.owned b k hk).1,by omega⟩
           have st2:Step {PM w w' with ro:=(e.more w w').ro} (e.more w w') w' w':=⟨λb _ h=>⟨h,rfl⟩,λ_ h=>False.elim h,Am _⟩
           exact hK _ _ _ h.2 ⟨w0,T,e.more w w',hΦ,r.next (hb.mono r.hB) st hE' (λb h=>h.imp (λh=>h) (λh=>h.1)) (r.mem.ext hb st (λ_ _ h=>h)) (λk hk=>Nat.lt_succ_of_lt (r.live k hk)) dst (GQ.step st2)⟩
          ·cases ht
         ·cases ht
        ·split at ht
         ·rename_i hs hhs;split at ht
          ·rename_i tr htr;cases ht;obtain ⟨PK,I9⟩:=hX.h _ (Ws8 hhs);have FM:=I9 _ _ _ _ _ htr _ (VR.sat_bind h) {c with saved:=a.tmps.toList::c.saved} w0 T e a.defers _ w r.env r.below r.mem r.live r.foe ⟨r.xt.defers,r.xt.kept,LD.cons r.slots r.xt.saved,r.xt.size⟩ D4
           refine HQ (λc h=>by cases h) ?_
           unfold Oper.wp;rw [DV PK,Oper.upon_enter];refine FM.mono λen w' hq=>?_
           obtain ⟨v,rr,m',nx',sv',e',rfl,hQ,hE',hB',hm',hl',hT',hx',GQ⟩:=hq;obtain ⟨a1,l1,he1,hs1,hs2⟩:=hx'.saved.cons_inv;subst he1;unfold Xw4 at hQ;exact hK _ _ _ hQ ⟨w0,T,e',hΦ,hE',hB',hm',hl',hT',by rw [put_defers];exact ⟨hx'.defers,hx'.kept,hs2,hx'.size⟩,qG hs1 dst GQ⟩
          ·cases ht
         ·split at ht
          ·rename_i sp hsp;split at ht
           ·rename_i FS;split at ht
            ·rename_i tr htr;cases ht;obtain ⟨PK,hs⟩:=hX.c _ (II hsp);have hidf': ∀x∈first++args.toList.map (rho s.σ)++caps,Idf x:=by
              intro x hx;obtain ⟨i,O⟩:=List.mem_iff_getElem?.1 hx;obtain ⟨v,_,rv⟩:=D4.get O;exact kO 6 x v rv (List.all_eq_true.1 FS x hx)
             have FM:=hs _ _ htr _ (VR.sat_bind h) e w _ (λb hb=>(r.env.apart b hb).2) r.env.glob hidf' D4
             refine HQ (λc h=>by cases h) ?_
             unfold Oper.wp;rw [DV PK,Oper.upon_enter];refine FM.mono λen w' hq=>?_
             obtain ⟨v,rr,rfl,hQ,hb,GQ⟩:=hq;have st:Step e (e.more w w') w w':=⟨λb hlt Z=>⟨.inl Z,hb.block b hlt⟩,λ_ h=>⟨h,rfl,rfl⟩,hb.size⟩
             have hE':G6 (e.more w w') w0.heap.size w':=by
              refine ⟨?_,λb k hk=>?_,r.env.glob.step st⟩
              ·rintro b (Z|⟨h1,h2⟩)
               ·have:=r.env.apart b Z;have:=hb.size;exact ⟨(r.env.apart b Z).1,by omega⟩
               ·refine ⟨?_,h2⟩;cases ho:(e.more w w').own b with
                |none=>rfl
                |some k=>have:=(r.env.owned b k ho).2;omega
              ·have:=r.env.owned b k hk;have:=hb.size;exact ⟨(r.env.owned b k hk).1,by omega⟩
             have st2:Step {PM w w' with ro:=(e.more w w').ro} (e.more w w') w' w':=⟨λb _ h=>⟨h,rfl⟩,λ_ h=>False.elim h,Am _⟩
             exact hK _ _ _ hQ ⟨w0,T,e.more w w',hΦ,r.next (hb.mono r.hB) st hE' (λb h=>h.imp (λh=>h) (λh=>h.1)) (r.mem.ext hb st (λ_ _ h=>h)) (λk hk=>Nat.lt_succ_of_lt (r.live k hk)) dst (GQ.step st2)⟩
            ·cases ht
           ·cases ht
          ·cases ht
       ·cases ht
      ·cases ht
     ·cases ht
    ·exact h.elim
end
def CC(o:Oper)(s:St):St:={s with σ:=xM s.σ o.dst (.tup []) }
theorem NP(e:UP)(w:World):Rep e w (.tup []) undef:=Rep.tupL (U7.nil e w)
theorem cZ{c:Cx}{w0:World}{T:Nat->Prop}{e:UP}{o:Oper}{s:St}{a:Act}{w:World}(r:F9 c w0 T e s a w):F9 c w0 T e (CC o s) (a.put o.dst undef) w:=
 ⟨r.env,r.below,r.mem,r.live,r.foe,by rw [put_defers];exact r.xt,qG r.slots o.dst (NP _ _)⟩
def Xj3(s:St)(t:Nat)(b:Bool):St:={s with σ:=s.σ.set t (.lit b) }
theorem aG{c:Cx}{w0:World}{T:Nat->Prop}{e:UP}{s:St}{a:Act}{w:World}{t:Nat}{b d:Bool}(r:F9 c w0 T e s a w)(ht:s.σ.getD t .top= .x (.bool b))(hb:b=d):F9 c w0 T e (Xj3 s t d) a w:=by
 refine ⟨r.env,r.below,r.mem,r.live,r.foe,r.xt,?_⟩;have hlt:t<s.σ.length:=by
  rcases An t s.σ.length with h|h
  ·exact h
  ·rw [List.getD,Br h] at ht;cases ht
 obtain ⟨v,hv,rv⟩:=r.slots.get (List.getElem?_eq_getElem hlt);have he:s.σ[t]= .x (.bool b):=by simpa [List.getD,List.getElem?_eq_getElem hlt] using ht
 rw [he] at rv;cases rv.x_inv;have:=r.slots.set (a:= .lit d) (v:= .bool b) (by rw [←hb];exact .lit b) t
 have hset:a.tmps.toList.set t (.bool b)=a.tmps.toList:=by
  apply List.ext_getElem?;intro i;rw [List.getElem?_set];split
  ·rename_i hti;subst hti;split
   ·exact hv.symm
   ·rename_i hnl;rw [Br (by omega)]
  ·rfl
 rw [hset] at this;exact this
def TM:Op->Option Nat
 | .pick (.tmp t) _ _=>some t
 |_=>none
def settle(s:St)(t:Option Nat)(g:St->VR St):VR St:=
 match t with
 |none=>g s
 |some t=>match s.σ.getD t .top with
  | .x (.bool b)=> .branch b (g (Xj3 s t true)) (g (Xj3 s t false))
  |_=>g s
theorem zQ{c:Cx}{w0:World}{T:Nat->Prop}{e:UP}{s:St}{t:Option Nat}{g:St->VR St}{R:St->Prop}(h:(settle s t g).sat R){a:Act}{w:World}(r:F9 c w0 T e s a w): ∃s',F9 c w0 T e s' a w/\(g s').sat R/\s'.gh=s.gh:=by
 unfold settle at h;split at h
 ·exact ⟨s,r,h,rfl⟩
 ·split at h
  ·rename_i b hb;cases b
   ·exact ⟨_,aG r hb rfl,h.2 rfl,rfl⟩
   ·exact ⟨_,aG r hb rfl,h.1 rfl,rfl⟩
  ·exact ⟨s,r,h,rfl⟩
def DZ(ops:List Oper)(o:Oper):Option Nat:=
 match o.guard with
 |none=>none
 |some (j,_)=>match ops[j]? with
  |some p=>p.dst
  |none=>none
def uJ(i sz n:Nat)(f:Nat->List AV):Nat->AV->AV
 | 0,a=>match a with
  | .lit b=> .lit b
  | .x v=> .x v
  | .ro l=> .ro l
  | .lst a b c=> .lst a b c
  | .roI a b c d=> .roI a b c d
  |_=> .top
 |d+1,a=>match a with
  | .row k=>match Nat.beq k i with
   |true=> .lst sz n f
   |false=> .row k
  | .ptr k o=>match Nat.beq k i with
   |true=> .top
   |false=> .ptr k o
  | .elt k x y z=>match Nat.beq k i with
   |true=> .top
   |false=> .elt k x y z
  | .mp k=>match Nat.beq k i with
   |true=> .top
   |false=> .mp k
  | .agg l=> .agg (l.map (uJ i sz n f d))
  | .tup l=> .tup (l.map (uJ i sz n f d))
  | .fn g l l'=> .fn g (l.map (uJ i sz n f d)) (l'.map (uJ i sz n f d))
  |a=>a
def UP.frz(e:UP)(i:Nat):UP:=
 {ro:=λb=>e.ro b\/e.own b=some i,own:=λb=>match e.own b with|some k=>if k=i then none else some k|none=>none,
  live:=λk=>e.live k/\k≠i,blk:=e.blk,val:=e.val}
theorem jL{k i:Nat}(h:Nat.beq k i=false):k≠i:=by
 intro h2;subst h2;rw [Nat.beq_refl] at h;cases h
theorem eG{e e2:UP}{B:Nat}{w:World}{i T sz n:Nat}{f:Nat->List AV}(hE:G6 e B w)(hh:GL e w i (.row T sz n f))(g1: ∀b,e.ro b->e2.ro b)(g2: ∀b,e.own b=some i->e2.ro b):Rep e2 w (.lst sz n f) (e.val i):=by
 obtain ⟨_,HC,hf,xs,hx,GQ⟩:=hh;rcases hx.2 with ⟨hv0,hn0⟩|⟨g,cap,cur,hv0,_,hgg,hnc,hcm,hcs,kP⟩
 ·rw [hv0];subst hn0;exact .lstNil _ _
 ·have hob:e.own g=some i:=HC g (by rw [hv0];rfl)
  have hlt:=(hE.owned _ _ hob).2;have hv1:=hv0;rw [hv0];refine Rep.lst (e:=e2) (w:=w) sz _ _ g 0 _ (λi j=>xs.getD (i*sz+j) .nilIface) (λ_=>g2 g hob) (λ_=>hlt) (λi O=>(hf i O).2) hnc hcm ?_ (λi O=>(hf i O).1) ?_ _ (λ_=>rfl)
  ·intro i j O hj;have hle:i*sz+sz<=n*sz:=by
    have:=Nat.mul_le_mul_right sz (Az O)
    rwa [Bq] at this
   have kR:i*sz+j<xs.length:=by rw [hx.1];omega
   have hc:=hx.cells (g:=g) (by rw [hv1];rfl) (i*sz+j) xs[i*sz+j] (List.getElem?_eq_getElem kR)
   rw [DG] at hc;rw [hc];simp [List.getD,List.getElem?_eq_getElem kR]
  ·intro q j a ha' ha;have hj:j<sz:=by rw [←(hf q ha').1];exact (List.getElem?_eq_some_iff.1 ha).1
   have hle:q*sz+sz<=n*sz:=by
    have:=Nat.mul_le_mul_right sz (Az ha')
    rwa [Bq] at this
   have kR:q*sz+j<xs.length:=by rw [hx.1];omega
   have:=GQ q j a xs[q*sz+j] ha' ha (List.getElem?_eq_getElem kR);simp only [List.getD,List.getElem?_eq_getElem kR,Option.getD_some];exact Rep.idf g1 this ((hf q ha').2 a (List.mem_of_getElem? ha))
theorem Xh4{e:UP}{B:Nat}{w:World}{i T sz n:Nat}{f:Nat->List AV}(hE:G6 e B w)(hh:GL e w i (.row T sz n f)):Rep (e.frz i) w (.lst sz n f) (e.val i):=eG hE hh (λ_ h=> .inl h) (λ_ h=> .inr h)
def UP.sol(e:UP)(i:Nat):UP:={e with ro:=λb=>e.ro b\/e.own b=some i,own:=λb=>match e.own b with|some k=>if k=i then none else some k|none=>none}
theorem Step.sol(e:UP)(i:Nat)(w:World):Step e (e.sol i) w w:=⟨λ_ _ h=>⟨.inl h,rfl⟩,λ_ h=>⟨h,rfl,rfl⟩,Am _⟩
theorem G6.sol{e:UP}{B:Nat}{w:World}(h:G6 e B w)(i:Nat):G6 (e.sol i) B w:=by
 refine ⟨λb hb=>?_,λb k hk=>?_,h.glob.step (Step.sol e i w)⟩
 ·rcases hb with hb|hb
  ·obtain ⟨h1,h2⟩:=h.apart b hb;exact ⟨by simp [UP.sol,h1],h2⟩
  ·exact ⟨by simp [UP.sol,hb],(h.owned b i hb).2⟩
 ·simp only [UP.sol] at hk;cases ho:e.own b with
  |none=>rw [ho] at hk;cases hk
  |some j=>exact h.owned b j ho
theorem GL.sol{e:UP}{w:World}{i k:Nat}{r:GU}(hne:k≠i/\D0 i r=false)(h:GL e w k r):GL (e.sol i) w k r:=by
 obtain ⟨hne,hak⟩:=hne;have st:=Step.sol e i w;cases r with
 |cells T l=>
  obtain ⟨h1,h2,vs,h3,h4⟩:=h;exact ⟨h1,by simp [UP.sol,h2,hne],vs,h3,h4.step st⟩
 |row T sz n f=>
  obtain ⟨h1,h2,hf,xs,h3,h4⟩:=h;refine ⟨h1,λb hb=>?_,hf,xs,h3,λi j a v O ha hv=>(h4 i j a v O ha hv).step st⟩
  have:=h2 b hb;simp [UP.sol,this,hne]
 |ints T pre n f=>
  obtain ⟨h1,h2,vs,h3,h4⟩:=h;exact ⟨h1,by simp [UP.sol,h2,hne],vs,h3,h4.step st⟩
 |memo g f=>
  obtain ⟨h1,h2,es,c,h3,h4⟩:=h;exact ⟨h1,by simp [UP.sol,h2,hne],es,c,h3,h4⟩
 |keep T l=>exact LL st h
 |aka r T sz n f=>
  obtain ⟨h1,h0,o,hor,h2,hf,xs,h3,h4⟩:=h;refine ⟨h1,h0,o,hor,λb hb=>?_,hf,xs,h3,λi j a v O ha hv=>(h4 i j a v O ha hv).step st⟩
  have:=h2 b hb;have ho:o≠i:=by
   rcases hor with rfl|rfl
   ·exact hne
   ·rintro rfl;simp [D0] at hak
  simp [UP.sol,this,ho]
theorem gE{e:UP}{B:Nat}{w:World}{i T sz n:Nat}{f:Nat->List AV}(hE:G6 e B w)(hh:GL e w i (.row T sz n f)): ∀(d:Nat) (a:AV) (v:Value),Rep e w a v->Rep (e.frz i) w (uJ i sz n f d a) v
 | 0,a,v,r=>by
  have hro: ∀b,e.ro b->(e.frz i).ro b:=λ_ h=> .inl h
  cases r with
  |lit b=>exact .lit b
  |x v=>exact .x v
  |roI pre n f off b o Z=>exact Rep.idf hro (.roI pre n f off b o Z) (j9 (Rep.roI pre n f off b o Z) rfl)
  |ro l vs b o h1 h2 h3 h4 h5 h6=>exact Rep.idf hro (.ro l vs b o h1 h2 h3 h4 h5 h6) (.ro l h3)
  |lstNil sz f=>exact .lstNil sz f
  |lst sz n f b o cap g h1 h2 h3 h4 h5 h6 h7 h8 ad had=>exact Rep.idf hro (.lst sz n f b o cap g h1 h2 h3 h4 h5 h6 h7 h8 ad had) (.lst sz n f h3)
  |_=>exact .top _
 |d+1,a,v,r=>by
  have hro: ∀b,e.ro b->(e.frz i).ro b:=λ_ h=> .inl h
  have ih:=gE hE hh d;cases r with
  |top v=>exact .top v
  |lit b=>exact .lit b
  |x v=>exact .x v
  |roI pre n f off b o Z=>exact Rep.idf hro (.roI pre n f off b o Z) (j9 (Rep.roI pre n f off b o Z) rfl)
  |ptr id off hl=>
   simp only [uJ];split
   ·exact .top _
   ·rename_i hb;exact .ptr (e:=e.frz i) id off ⟨hl,jL hb⟩
  |row id a n c hl hv=>
   simp only [uJ];split
   ·rename_i hb;have:=Nat.eq_of_beq_eq_true hb;subst this;rw [←hv];exact Xh4 hE hh
   ·rename_i hb;exact .row (e:=e.frz i) id a n c ⟨hl,jL hb⟩ hv
  |elt id sz x y b n cap hl hv=>
   simp only [uJ];split
   ·exact .top _
   ·rename_i hb;exact .elt (e:=e.frz i) id sz x y b n cap ⟨hl,jL hb⟩ hv
  |mp id hl=>
   simp only [uJ];split
   ·exact .top _
   ·rename_i hb;exact .mp (e:=e.frz i) id ⟨hl,jL hb⟩
  |agg l vs h1 h2=>exact Rep.aggL (U7.map _ ih ⟨h1,h2⟩)
  |tup l vs h1 h2=>exact Rep.tupL (U7.map _ ih ⟨h1,h2⟩)
  |fn f l l' vs vs' h1 h2 h3 h4=>
   have k1:U7 e w l vs:=⟨h1,h2⟩;have k2:U7 e w l' vs':=⟨h3,h4⟩;exact .fn f _ _ vs vs' (U7.map _ ih k1).1 (U7.map _ ih k1).2 (U7.map _ ih k2).1 (U7.map _ ih k2).2
  |ro l vs b o h1 h2 h3 h4 h5 h6=>exact Rep.idf hro (.ro l vs b o h1 h2 h3 h4 h5 h6) (.ro l h3)
  |mpr g okf vals b es c h1 h2 h3 h4 h5 h6 h7 h8=>exact Rep.idf hro (.mpr g okf vals b es c h1 h2 h3 h4 h5 h6 h7 h8) (.mpr g okf h3)
  |any1 v hv=>exact .any1 v hv
  |lstNil sz f=>exact .lstNil sz f
  |lst sz n f b o cap g h1 h2 h3 h4 h5 h6 h7 h8 ad had=>exact Rep.idf hro (.lst sz n f b o cap g h1 h2 h3 h4 h5 h6 h7 h8 ad had) (.lst sz n f h3)
def Wt9(i sz n:Nat)(f:Nat->List AV):H9->H9
 |[]=>[]
 |(k,r)::t=>match Nat.beq k i||D0 i r with
  |true=>Wt9 i sz n f t
  |false=>(k,match r with
   | .cells T l=> .cells T (l.map (uJ i sz n f 6))
   | .ints T pre m g=> .ints T (pre.map (uJ i sz n f 6)) m g
   | .keep T l=> .keep T (l.map (uJ i sz n f 6))
   |r=>r)::Wt9 i sz n f t
theorem Qd6{e:UP}{B:Nat}{w:World}{i T sz n:Nat}{f:Nat->List AV}(hE:G6 e B w)(hh:GL e w i (.row T sz n f)): ∀{m:H9},UZ e m w->UZ (e.frz i) (Wt9 i sz n f m) w
 |[],_=>λp hp=>by cases hp
 |(k,r)::t,h=>by
  have ih:=Qd6 hE hh (m:=t) (λp hp=>h p (List.mem_cons_of_mem _ hp))
  have hk:=h _ List.mem_cons_self;unfold Wt9;split
  ·exact ih
  ·rename_i hb;rw [Bool.or_eq_false_iff] at hb;obtain ⟨hb,hak⟩:=hb;have hne:=jL hb;intro p hp;rcases List.mem_cons.1 hp with rfl|hp
   ·cases r with
    |aka r T' sz' n' f'=>
     obtain ⟨h1,h0,o,hor,h2,hf,xs,h3,h4⟩:=hk;refine ⟨⟨h1,hne⟩,⟨h0,jL hak⟩,o,hor,λb hb'=>?_,hf,xs,h3,λi' j a v O ha hv=>Rep.idf (e:=e) (e':=e.frz i) (λ_ h=>Or.inl h) (h4 i' j a v O ha hv) ((hf i' O).2 a (List.mem_of_getElem? ha))⟩
     have:=h2 b hb';have ho:o≠i:=by
      rcases hor with rfl|rfl
      ·exact hne
      ·exact jL hak
     simp [UP.frz,this,ho]
    |row T' sz' n' f'=>
     obtain ⟨h1,h2,hf,xs,h3,h4⟩:=hk;refine ⟨⟨h1,hne⟩,λb hb'=>?_,hf,xs,h3,λi' j a v O ha hv=>Rep.idf (e:=e) (e':=e.frz i) (λ_ h=>Or.inl h) (h4 i' j a v O ha hv) ((hf i' O).2 a (List.mem_of_getElem? ha))⟩
     have:=h2 b hb';simp [UP.frz,this,hne]
    |cells T' l=>
     obtain ⟨h1,h2,vs,h3,h4⟩:=hk;refine ⟨⟨h1,hne⟩,?_,vs,h3,U7.map _ (gE hE hh 6) h4⟩;simp only at h2;simp [UP.frz,h2,hne]
    |ints T' pre m g=>
     obtain ⟨h1,h2,vs,h3,h4⟩:=hk;refine ⟨⟨h1,hne⟩,?_,vs,h3,?_⟩
     ·simp only at h2;simp [UP.frz,h2,hne]
     ·have:=U7.map _ (gE hE hh 6) h4;rw [List.map_append] at this;have hL:(HU m g).map (uJ i sz n f 6)=HU m g:=by
       unfold HU;rw [List.map_map];rfl
      rw [hL] at this;exact this
    |keep T' l=>
     obtain ⟨h1,h2,h0,vs,h3,h4⟩:=hk;exact ⟨⟨h1,hne⟩,.inl h2,h0,vs,h3,U7.map _ (gE hE hh 6) h4⟩
    |memo g f'=>
     obtain ⟨h1,h2,es,c,h3,h4⟩:=hk;refine ⟨⟨h1,hne⟩,?_,es,c,h3,h4⟩;simp only at h2;simp [UP.frz,h2,hne]
   ·exact ih p hp
def Qt8(i:Nat)(s:St):St:=match DL s.m i with
 |some (.row _ sz n f)=>{s with σ:=s.σ.map (uJ i sz n f 6),m:=Wt9 i sz n f s.m,sv:=s.sv.map (·.map (uJ i sz n f 6)) }
 |_=>s
theorem lP{c:Cx}{w0:World}{F:Nat->Prop}{e:UP}{i:Nat}{s:St}{a:Act}{w:World}(r:F9 c w0 F e s a w): ∃e',F9 c w0 F e' (Qt8 i s) a w:=by
 unfold Qt8;split
 ·rename_i T sz n f hg;have hh:=r.mem _ (G5 hg);have rp:=gE r.env hh 6;refine ⟨e.frz i,⟨λb hb=>?_,λb k hk=>?_,λb p hp=>⟨.inl (r.env.glob b p hp).1,(r.env.glob b p hp).2⟩⟩,r.below,Qd6 r.env hh r.mem,λk hk=>r.live k hk.1,λb hb=>⟨(r.foe b hb).1,λZ=>?_⟩,⟨⟨λd hd=>?_,r.xt.defers.2⟩,λb o hk=>?_,LD.map _ rp r.xt.saved,r.xt.size⟩,U7.map _ rp r.slots⟩
  ·rcases hb with hb|hb
   ·obtain ⟨h1,h2⟩:=r.env.apart b hb;exact ⟨by simp [UP.frz,h1],h2⟩
   ·exact ⟨by simp [UP.frz,hb],(r.env.owned b i hb).2⟩
  ·simp only [UP.frz] at hk;cases ho:e.own b with
   |none=>rw [ho] at hk;cases hk
   |some j=>exact r.env.owned b j ho
  ·rcases Z with Z|Z
   ·exact (r.foe b hb).2 Z
   ·have:=(r.env.owned b i Z).1;have:=(r.foe b hb).1;omega
  ·obtain ⟨D,g1,g2,g3⟩:=r.xt.defers.1 d hd;exact ⟨D,g1,.inl g2,g3⟩
  ·obtain ⟨g1,g2⟩:=r.xt.kept b o hk;exact ⟨.inl g1,g2⟩
 ·exact ⟨e,r⟩
def jE:List Nat->St->St
 |[],s=>s
 |i::l,s=>jE l (Qt8 i s)
theorem rS{c:Cx}{w0:World}{F:Nat->Prop}{a:Act}{w:World}: ∀(l:List Nat) {e:UP} {s:St},F9 c w0 F e s a w-> ∃e',F9 c w0 F e' (jE l s) a w
 |[],e,_,r=>⟨e,r⟩
 |i::l,_,_,r=>by
  obtain ⟨e1,r1⟩:=lP (i:=i) r;exact rS l r1
theorem Qf5(i:Nat)(s:St):(Qt8 i s).gh=s.gh:=by unfold Qt8;split<;>rfl
theorem S4: ∀(l:List Nat) (s:St),(jE l s).gh=s.gh
 |[],_=>rfl
 |i::l,s=>by rw [jE,S4 l,Qf5]
def dP:Nat->AV->List Nat
 | 0,_=>[]
 |d+1,a=>match a with
  | .row k=>[k]
  | .agg l=>l.flatMap (dP d)
  | .tup l=>l.flatMap (dP d)
  |_=>[]
section
variable (X:Ext)(o:Oper)(s:St)
def IM:St:=
 match o.op with
 | .buildSlice _ _ parts=>jE (parts.toList.flatMap λp=>dP 3 (rho s.σ p.2)) s
 | .store _ x y=>match rho s.σ x with
  | .elt _ _ _ _=>jE (dP 3 (rho s.σ y)) s
  |_=>s
 | .call c=>match c.callee with
  | .value f=>match rho s.σ f with
   | .fn (.func g) _ _=>match sJ X.R g with
    |some _=>jE (c.args.toList.flatMap λx=>dP 3 (rho s.σ x)) s
    |none=>match aP X.C g with
     |some _=>jE (c.args.toList.flatMap λx=>dP 3 (rho s.σ x)) s
     |none=>s
   |_=>s
  |_=>s
 |_=>s
theorem S3: ∃l,IM X o s=jE l s:=by
 unfold IM;split
 ·exact ⟨_,rfl⟩
 ·split
  ·exact ⟨_,rfl⟩
  ·exact ⟨[],rfl⟩
 ·split
  ·split
   ·split
    ·exact ⟨_,rfl⟩
    ·split
     ·exact ⟨_,rfl⟩
     ·exact ⟨[],rfl⟩
   ·exact ⟨[],rfl⟩
  ·exact ⟨[],rfl⟩
 ·exact ⟨[],rfl⟩
end
theorem lR{X:Ext}{o:Oper}{c:Cx}{w0:World}{F:Nat->Prop}{e:UP}{s:St}{a:Act}{w:World}(r:F9 c w0 F e s a w): ∃e',F9 c w0 F e' (IM X o s) a w:=by
 obtain ⟨l,hl⟩:=S3 X o s;rw [hl];exact rS l r
theorem Qt9(X:Ext)(o:Oper)(s:St):(IM X o s).gh=s.gh:=by
 obtain ⟨l,hl⟩:=S3 X o s;rw [hl,S4]
def oC(P:Program)(G:List (Nat×Spec))(X:Ext)(o:Oper)(s:St):VR St:=We0 P G X o (IM X o s)
theorem gA{P:Program}{G:List (Nat×Spec)}{X:Ext}{c:Cx}(hG:VP P G)(hX:U1 P X c){o:Oper}{s:St}{R:St->Prop}(h:(oC P G X o s).sat R){w0:World}{T:Nat->Prop}{e:UP}{a:Act}{w:World}(hΦ:c.Φ s.gh T w0)(r:F9 c w0 T e s a w)
  {ro:Option Nat}{n:Nat}{K:Act->World->Prop}{Q:Exit->Act->World->Prop}(hK: ∀s' a' w',R s'->Rel c s' a' w'->K a' w'):o.wpIn (fr ro) n P a w K Q:=by
 obtain ⟨e',r'⟩:=lR (X:=X) (o:=o) r;exact eF hG hX h (by rw [Qt9];exact hΦ) r' hK
def zX(P:Program)(G:List (Nat×Spec))(X:Ext)(ops:List Oper)(o:Oper)(s:St):VR St:=
 match o.guard with
 |none=>settle s (TM o.op) (oC P G X o)
 |some (_,want)=>settle s (DZ ops o) λs=>match (match DZ ops o with|some t=>s.σ.getD t .top|none=> .top) with
  | .lit b=>match b==want with
   |true=>settle s (TM o.op) (oC P G X o)
   |false=> .leaf (CC o s)
  | .tup _=> .leaf (CC o s)
  |_=> .fail
section
variable {e:UP}{w:World}{ops:Array Oper}{σ:List AV}{a:Act}{j t:Nat}{p:Oper}
theorem cE{b:Bool}(h:U7 e w σ a.tmps.toList)(hp:ops[j]? =some p)(hd:p.dst=some t)(hl:σ.getD t .top= .lit b):yielded ops a.tmps j=some b:=by
 have Z:=FP h (.tmp t);simp only [rho,hl] at Z;have:=Z.lit_inv;simp only [Act.eval] at this;have hg:a.tmps[t]? =some (.bool b):=by
  cases hq:a.tmps[t]? with
  |none=>rw [Array.getD_eq_getD_getElem?,hq] at this;simp [undef] at this
  |some v=>rw [Array.getD_eq_getD_getElem?,hq] at this;simpa using this
 unfold yielded;simp [hp,hd,hg]
theorem cD{l:List AV}(h:U7 e w σ a.tmps.toList)(hp:ops[j]? =some p)(hd:p.dst=some t)(hl:σ.getD t .top= .tup l):yielded ops a.tmps j=none:=by
 have Z:=FP h (.tmp t);simp only [rho,hl] at Z;obtain ⟨vs,hv,_⟩:=Z.tup_inv;simp only [Act.eval] at hv;unfold yielded;simp only [hp,hd,Option.bind_some];cases hq:a.tmps[t]? with
 |none=>rfl
 |some v=>
  rw [Array.getD_eq_getD_getElem?,hq] at hv;simp only [Option.getD_some] at hv;subst hv;rfl
end
theorem zW{P:Program}{G:List (Nat×Spec)}{X:Ext}{c:Cx}(hG:VP P G)(hX:U1 P X c){ro:Option Nat}{n:Nat}{ops:Array Oper}{i:Nat}{o:Oper}(ho:ops[i]? =some o){s:St}{R:St->Prop}(h:(zX P G X ops.toList o s).sat R){a:Act}{w:World}(r:Rel c s a w)
  {K:Act->World->Prop}{Q:Exit->Act->World->Prop}(hK: ∀s' a' w',R s'->Rel c s' a' w'->K a' w'):wpOpIn (fr ro) n P ops Q i K a w:=by
 obtain ⟨w0,T,e,hΦ,r⟩:=r;unfold wpOpIn;simp only [ho];unfold zX at h;split at h
 ·rename_i hg;obtain ⟨s1,r1,h1,hg1⟩:=zQ h r;rw [if_pos (by simp [Region.wanted,hg])]
  exact gA hG hX h1 (by rw [hg1];exact hΦ) r1 hK
 ·rename_i j want hg;obtain ⟨s1,r1,h1,hg1⟩:=zQ h r;unfold DZ at h1;simp only [hg] at h1;cases hp:ops.toList[j]? with
  |none=>simp only [hp] at h1;exact h1.elim
  |some p=>
   simp only [hp] at h1;cases hd:p.dst with
   |none=>simp only [hd] at h1;exact h1.elim
   |some t=>
    simp only [hd] at h1;split at h1
    ·rename_i b hb;have hy:=cE (ops:=ops) r1.slots (by simpa using hp) hd hb
     split at h1
     ·rename_i hbw;obtain ⟨s2,r2,h2,hg2⟩:=zQ h1 r1;have hw:Region.wanted o (yielded ops a.tmps)=true:=by
       simp only [Region.wanted,hg,hy];simpa using hbw
      rw [if_pos hw];exact gA hG hX h2 (by rw [hg2,hg1];exact hΦ) r2 hK
     ·rename_i hbw;have hw: ¬Region.wanted o (yielded ops a.tmps)=true:=by
       simp only [Region.wanted,hg,hy];simpa using hbw
      rw [if_neg hw];exact ⟨λ_ _=>trivial,hK _ _ _ h1 ⟨w0,T,e,by rw [show (CC o s1).gh=s1.gh from rfl,hg1];exact hΦ,cZ r1⟩⟩
    ·rename_i l hb;have hy:=cD (ops:=ops) r1.slots (by simpa using hp) hd hb
     have hw: ¬Region.wanted o (yielded ops a.tmps)=true:=by
      simp [Region.wanted,hg,hy]
     rw [if_neg hw];exact ⟨λ_ _=>trivial,hK _ _ _ h1 ⟨w0,T,e,by rw [show (CC o s1).gh=s1.gh from rfl,hg1];exact hΦ,cZ r1⟩⟩
    ·exact h1.elim
def We9(P:Program)(G:List (Nat×Spec))(X:Ext)(ops:List Oper):List Oper->St->VR St
 |[],s=> .leaf s
 |o::rest,s=>(zX P G X ops o s).bind (We9 P G X ops rest)
theorem vP{P:Program}{G:List (Nat×Spec)}{X:Ext}{c:Cx}(hG:VP P G)(hX:U1 P X c){ro:Option Nat}{n:Nat}{ops:Array Oper}{Q:Exit->Act->World->Prop}{R:St->Prop}(hQ: ∀s a w,R s->Rel c s a w->Q .normal a w):
  ∀(l:List Oper) (k:Nat),l=ops.toList.drop k-> ∀(s:St) (a:Act) (w:World),(We9 P G X ops.toList l s).sat R->Rel c s a w->wpOpsIn (fr ro) n P ops Q (List.range' k (ops.size-k)) a w
 |[],k,hk,s,a,w,h,r=>by
  have D1:ops.size-k=0:=by
   have:=congrArg List.length hk;simp at this;omega
  rw [D1];exact hQ s a w h r
 |o::rest,k,hk,s,a,w,h,r=>by
  have hlt:k<ops.size:=by
   have:=congrArg List.length hk;simp at this;omega
  have hok:ops[k]? =some o:=by
   have:=congrArg (·[0]?) hk;simp at this;exact this.symm
  have OP:rest=ops.toList.drop (k+1):=by
   have:=congrArg List.tail hk;simpa using this
  have e1:ops.size-k=(ops.size-(k+1))+1:=by omega
  rw [e1,List.range'_succ,wpOpsIn_cons];exact zW hG hX hok (VR.sat_bind h) r (λs' a' w' hs' hr'=>vP hG hX hQ rest (k+1) OP s' a' w' hs' hr')
end Go.Sx
namespace Go.Sx
open Go Go.RowKit
def HZ(o:Oper):List Nat:=(o.after.toList.filter (Region.binds .any)).map (·.on)
def aB(acc:List Nat)(o:Oper):Nat:=(HZ o).foldl (λs j=>s ||| (1 <<< j) ||| acc.getD j 0) 0
def HH:List Oper->List Nat->List Nat
 |[],acc=>acc
 |o::os,acc=>HH os (acc++[aB acc o])
theorem dZ: ∀(os:List Oper) (acc:List Nat) (k:Nat),k<acc.length->(HH os acc).getD k 0=acc.getD k 0
 |[],_,_,_=>rfl
 |o::os,acc,k,h=>by
  rw [HH,dZ os _ k (by simp;omega)]
  simp [List.getD,List.getElem?_append,h]
theorem iH: ∀(os:List Oper) (acc:List Nat) (i:Nat) (o:Oper),os[i]? =some o-> ∃acc',(HH os acc).getD (acc.length+i) 0=aB acc' o/\acc'.length=acc.length+i/\ ∀j,j<acc.length+i->acc'.getD j 0=(HH os acc).getD j 0
 |[],_,_,_,h=>by simp at h
 |o'::os,acc,0,o,h=>by
  simp at h;subst h;refine ⟨acc,?_,VZ,λj hj=>?_⟩
  ·rw [HH,dZ os _ _ VZ];simp [List.getD]
  ·rw [HH,dZ os _ j (by simp;omega)]
   simp only [Bg] at hj;simp [List.getD,List.getElem?_append,hj]
 |o'::os,acc,i+1,o,h=>by
  simp at h;obtain ⟨acc',h1,h2,h3⟩:=iH os (acc++[aB acc o']) i o h;have e1:(acc++[aB acc o']).length+i=acc.length+(i+1):=by simp;omega
  rw [e1] at h1 h2 h3;exact ⟨acc',h1,h2,h3⟩
theorem lU{A:Nat->Nat}: ∀(l:List Nat) (s i:Nat),(l.foldl (λs j=>s ||| (1 <<< j) ||| A j) s).testBit i=true->s.testBit i=true\/ ∃j∈l,i=j\/(A j).testBit i=true
 |[],s,i,h=> .inl h
 |j::l,s,i,h=>by
  rcases lU l _ i h with h|⟨j',hj',h⟩
  ·rw [Nat.testBit_or,Nat.testBit_or,Bl,Bl] at h;rcases h with (h|h)|h
   ·exact .inl h
   ·refine .inr ⟨j,GK,.inl ?_⟩;rw [Nat.one_shiftLeft,Nat.testBit_two_pow] at h;exact (BO h).symm
   ·exact .inr ⟨j,GK,.inr h⟩
  ·exact .inr ⟨j',HX _ hj',h⟩
def inS(L:Array Bool)(k:Nat):Prop:=L.getD k false=true
def DC(ops:List Oper)(L:Array Bool):Prop:= ∀k o,ops[k]? =some o->inS L k-> ∀j∈HZ o,inS L j
theorem wN{ops:List Oper}{L:Array Bool}(hd:DC ops L): ∀(k:Nat) (o:Oper),ops[k]? =some o->(∀j∈HZ o,inS L j)-> ∀i,((HH ops []).getD k 0).testBit i=true->inS L i:=by
 intro k
 induction k using Nat.strongRecOn with
 |_ k ih=>
  intro o ho D4 i O;obtain ⟨acc',h1,h2,h3⟩:=iH ops [] k o ho;simp only [List.length_nil,Ap] at h1 h2 h3;rw [h1] at O;rcases lU _ _ _ O with h|⟨j,hj,h⟩
  ·simp at h
  ·rcases h with rfl|h
   ·exact D4 _ hj
   ·have hjk:j<k:=by
     rcases An j k with h'|h'
     ·exact h'
     ·rw [List.getD,Br VO] at h;simp at h
    rw [h3 j hjk] at h;have hlt:j<ops.length:=by have:=(FY.1 ho).1;omega
    exact ih j hjk ops[j] (D5 hlt) (hd j _ (D5 hlt) (D4 j hj)) i h
def VR.det{α:Type}:VR α->VR α
 | .may _ _ _=> .fail
 | .branch b t f=> .branch b t.det f.det
 | .need ps t=> .need ps t.det
 | .leaf a=> .leaf a
 | .fail=> .fail
theorem VR.det_sat{α:Type}{R:α->Prop}: ∀{t:VR α},t.det.sat R-> ∃r,t.sat (λx=>x=r)/\R r
 | .fail,h=>h.elim
 | .leaf a,h=>⟨a,rfl,h⟩
 | .branch true t f,h=>by
  obtain ⟨r,h1,h2⟩:=VR.det_sat (t:=t) (h.1 rfl);exact ⟨r,⟨λ_=>h1,λe=>by cases e⟩,h2⟩
 | .branch false t f,h=>by
  obtain ⟨r,h1,h2⟩:=VR.det_sat (t:=f) (h.2 rfl);exact ⟨r,⟨λe=>(by cases e),λ_=>h1⟩,h2⟩
 | .need ps t,h=>by
  obtain ⟨r,h1,h2⟩:=VR.det_sat (t:=t) h.2;exact ⟨r,⟨h.1,h1⟩,h2⟩
 | .may _ _ _,h=>h.elim
def mB(X:Ext)(id:Nat)(ρ:Operand->AV)(op:Op):Option (VR (AV×Option GU)):=
 match op with
 | .call c=>match c.callee with
  | .value f=>match ρ f with
   | .fn (.func g) first caps=>match (first++c.args.toList.map ρ++caps).all (AD 6) with
    |true=>match aP X.C g with
     |some sp=>match sp (first++c.args.toList.map ρ++caps) with
      |some t=>some (t.bind λr=> .leaf (r,none))
      |none=>none
     |none=>match Wt1 X.F g with
      |some sp=>match sp (first++c.args.toList.map ρ++caps) with
       |some (ns,T,sz,n,l)=>some (.needT ns (.leaf (.row id,some (.row T sz n l))))
       |none=>none
      |none=>none
    |false=>none
   |_=>none
  |_=>none
 |_=>none
def Qg7(X:Ext)(m:H9)(ρ:Operand->AV)(op:Op):Option (VR (AV×Option GU)):=
 match op with
 | .call c=>match c.callee with
  | .value f=>match ρ f with
   | .fn (.func g) first caps=>match aP X.D g with
    |some sp=>match sp ((first++c.args.toList.map ρ++caps).map (DH m 40)) with
     |some t=>some (t.bind λr=> .leaf (r,none))
     |none=>none
    |none=>none
   |_=>none
  |_=>none
 |_=>none
def Qg6(X:Ext)(id:Nat)(m:H9)(ρ:Operand->AV)(op:Op):Option (VR (AV×Option GU)):=
 match Qg7 X m ρ op with
 |some t=>some t
 |none=>mB X id ρ op
structure HT where
 val:AV
 add:Option GU
 upd:Option (Nat×GU)
 eat:Option Nat
def DI:HT:=⟨.top,none,none,none⟩
def yE:HT:=⟨.tup [],none,none,none⟩
def e7(want:Bool):AV->Bool
 | .lit b=>b != want
 | .tup _=>true
 |_=>false
def OE(M:List Nat)(mm i j:Nat):Bool:=Nat.testBit (M.getD i 0) j&&Nat.blt j mm&&(List.range mm).all λk=>Nat.beq k i|| !Nat.testBit (M.getD k 0) j
theorem B1{M:List Nat}{mm i j:Nat}(h:OE M mm i j=true):(M.getD i 0).testBit j=true/\j<mm/\ ∀k,k<mm->k≠i->(M.getD k 0).testBit j=false:=by
 simp only [OE,HE] at h;obtain ⟨⟨h1,h2⟩,h3⟩:=h;refine ⟨h1,by rw [Aw] at h2;exact h2,λk hk hne=>?_⟩
 have:=BA.1 h3 k (List.mem_range.2 hk);simp only [Bl,Ax] at this;rcases this with h|h
 ·exact absurd (H4 h) hne
 ·exact h
def Qu5(M:List Nat)(mm i j:Nat):Bool:=Nat.testBit (M.getD i 0) j&&Nat.blt j mm&&(List.range mm).all λk=>Nat.beq k i|| !Nat.testBit (M.getD k 0) j||(Nat.testBit (M.getD k 0) i&&Nat.blt i k)
theorem Qu4{M:List Nat}{mm i j:Nat}(h:Qu5 M mm i j=true):(M.getD i 0).testBit j=true/\j<mm/\ ∀k,k<mm->k≠i->(M.getD k 0).testBit j=true->(M.getD k 0).testBit i=true/\i<k:=by
 simp only [Qu5,HE] at h;obtain ⟨⟨h1,h2⟩,h3⟩:=h;refine ⟨h1,by rw [Aw] at h2;exact h2,λk hk hne hb=>?_⟩
 have:=BA.1 h3 k (List.mem_range.2 hk);rw [hb] at this;simp only [Bl,Bool.not_true,HE,Bool.false_eq_true,or_false] at this;rcases this with h|h
 ·exact absurd (H4 h) hne
 ·exact ⟨h.1,by have:=h.2;rwa [Aw] at this⟩
def fM(mask j:Nat):List HT->Nat->Bool
 |[],_=>false
 |c::t,k=>(match c.eat with
  |some q=>Nat.beq q j&&Nat.testBit mask k
  |none=>false)||fM mask j t (k+1)
theorem rV{mask j:Nat}: ∀{l:List HT} {k0 i:Nat} {c:HT},l[i]? =some c->c.eat=some j->mask.testBit (k0+i)=true->fM mask j l k0=true
 |[],_,_,_,h,_,_=>by simp at h
 |c0::t,k0,i,c,h,he,hb=>by
  unfold fM;cases i with
  |zero=>simp at h;subst h;rw [he];simp at hb;simp [hb]
  |succ i=>
   have:=rV (mask:=mask) (j:=j) (l:=t) (k0:=k0+1) (i:=i) (by simpa using h) he (by rw [show k0+1+i=k0+(i+1) by omega];exact hb)
   rw [this];simp
def RU:List (Nat×Bool)->Nat->Option Bool
 |[],_=>none
 |(k,d)::t,i=>match Nat.beq k i with
  |true=>some d
  |false=>RU t i
def Qu6(dec:List (Nat×Bool))(k:Nat)(v:AV):AV:=match RU dec k with
 |some d=> .lit d
 |none=>v
def DJ(t:Nat):List Oper->Nat->Option Nat
 |[],_=>none
 |o::os,i=>match o.dst with
  |some d=>match Nat.beq d t with
   |true=>some i
   |false=>DJ t os (i+1)
  |none=>DJ t os (i+1)
theorem RH{t:Nat}: ∀{ops:List Oper} {i k:Nat},DJ t ops i=some k->i<=k/\ ∃o,ops[k-i]? =some o/\o.dst=some t
 |[],_,_,h=>by simp [DJ] at h
 |o::os,i,k,h=>by
  unfold DJ at h;split at h
  ·rename_i d hd;split at h
   ·rename_i hb;cases h;have:d=t:=H4 hb;exact ⟨Am _,o,VZ,by rw [hd,this]⟩
   ·obtain ⟨h1,o',h2,h3⟩:=RH h;refine ⟨VO,o',?_,h3⟩;rw [show k-i=(k-(i+1))+1 by omega];simpa using h2
  ·obtain ⟨h1,o',h2,h3⟩:=RH h;refine ⟨VO,o',?_,h3⟩;rw [show k-i=(k-(i+1))+1 by omega];simpa using h2
def rD(n:Nat)(ops:List Oper):List Oper->Nat->Bool
 |[],_=>true
 |o::os,i=>(match o.dst with
  |some d=>(match DJ d ops 0 with|some k=>Nat.beq k i&&Nat.blt d n|none=>false)
  |none=>true)&&(HZ o).all (λj=>Nat.blt j i)&&rD n ops os (i+1)
theorem PE{n:Nat}{ops:List Oper}: ∀{os:List Oper} {i:Nat},rD n ops os i=true-> ∀k o,os[k]? =some o->(∀d,o.dst=some d->DJ d ops 0=some (i+k)/\d<n)/\ ∀j∈HZ o,j<i+k
 |[],_,_,k,o,h=>by simp at h
 |o'::os,i,hw,0,o,h=>by
  simp at h;subst h;simp only [rD,HE] at hw;obtain ⟨⟨h1,h2⟩,_⟩:=hw;refine ⟨λd hd=>?_,λj hj=>?_⟩
  ·rw [hd] at h1;simp only at h1;split at h1
   ·rename_i k hk;simp only [HE] at h1;exact ⟨by rw [hk,H4 h1.1];rfl,by simpa [Aw] using h1.2⟩
   ·cases h1
  ·have:=BA.1 h2 j hj;simpa [Aw] using this
 |o'::os,i,hw,k+1,o,h=>by
  simp at h;simp only [rD,HE] at hw;have:=PE hw.2 k o h;rw [show i+(k+1)=i+1+k by omega]
  exact this
section
variable (P:Program)(G:List (Nat×Spec))(X:Ext)(ops:List Oper)(M:List Nat)(σ0:List AV)(m0:H9)(nx0 mm:Nat)
section
variable (W:List HT)(dec:List (Nat×Bool))(i:Nat)
def LS:Operand->AV
 | .tmp t=>match DJ t ops 0 with
  |none=>σ0.getD t .top
  |some k=>match Nat.testBit (M.getD i 0) k with
   |true=>Qu6 dec k (W.getD k DI).val
   |false=>match Nat.beq k i||Nat.testBit (M.getD k 0) i with
    |true=>σ0.getD t .top
    |false=> .top
 |x=>rho [] x
def FX(mask:Nat)(all:List HT):List HT->Nat->H9
 |[],_=>[]
 |o::os,j=>match Nat.testBit mask j with
  |true=>match o.add with
   |some r=>match fM mask j all 0 with
    |true=>FX mask all os (j+1)
    |false=>(nx0+j,r)::FX mask all os (j+1)
   |none=>FX mask all os (j+1)
  |false=>FX mask all os (j+1)
abbrev DT:=List HT×List (Nat×Bool)
def uW(t:Option Nat)(g:List (Nat×Bool)->VR DT):VR DT:=
 match t with
 |none=>g dec
 |some t=>match DJ t ops 0 with
  |some k=>match RU dec k with
   |some _=>g dec
   |none=>match Nat.testBit (M.getD i 0) k with
    |true=>match (W.getD k DI).val with
     | .x (.bool b)=> .branch b (g ((k,true)::dec)) (g ((k,false)::dec))
     |_=>g dec
    |false=>g dec
  |none=>g dec
end
section
variable (o:Oper)(i:Nat)(W:List HT)(dec:List (Nat×Bool))
def T8:Option (List Prop×Nat×GU):=
 match o.op with
 | .store t x y=>match LS ops M σ0 W dec i x with
  | .ptr id off=>match Nat.ble nx0 id&&OE M mm i (id-nx0) with
   |true=>match zY P (FX nx0 (M.getD i 0) W W 0++m0) t (.ptr id off) (LS ops M σ0 W dec i y) with
    |some (ns,m')=>match DL m' id with
     |some r=>some (ns,id-nx0,r)
     |none=>none
    |none=>none
   |false=>none
  |_=>none
 |_=>none
def Qw4:Option (List Prop×AV×GU×Option Nat):=
 match o.op with
 | .call c=>match c.callee,c.args.toList,c.argTypes.toList with
  | .builtin .append,[s,x],[t,t']=>match Nat.beq t t' with
   |true=>match LS ops M σ0 W dec i s with
    | .row id=>match Nat.ble nx0 id&&Qu5 M mm i (id-nx0) with
     |true=>match R9 P (nx0+i) (FX nx0 (M.getD i 0) W W 0++m0) t (.row id) (LS ops M σ0 W dec i x) with
      |some (ns,val,(_,r)::_)=>some (ns,val,r,some (id-nx0))
      |_=>none
     |false=>none
    | .x v=>match R9 P (nx0+i) (FX nx0 (M.getD i 0) W W 0++m0) t (.x v) (LS ops M σ0 W dec i x) with
     |some (ns,val,(_,r)::_)=>some (ns,val,r,none)
     |_=>none
    |_=>none
   |false=>none
  |_,_,_=>none
 |_=>none
def Xp4:Option (List Prop×AV×GU):=
 match o.op with
 | .call c=>match c.callee,c.args.toList,c.argTypes.toList with
  | .builtin .append,[s,x],[t,t']=>match Nat.beq t t' with
   |true=>match LS ops M σ0 W dec i s with
    | .row id=>match Nat.blt id nx0 with
     |true=>match yJ P (nx0+i) (FX nx0 (M.getD i 0) W W 0++m0) t id (LS ops M σ0 W dec i x) with
      |some (ns,r)=>some (ns,.row (nx0+i),r)
      |none=>none
     |false=>none
    |_=>none
   |false=>none
  |_,_,_=>none
 |_=>none
end
def Wy4(X:Ext)(d:Nat):List Oper->Bool
 |[]=>false
 |o::os=>(match o.op with
  | .call c=>match c.callee with
   | .value (.func g)=>match aP X.C g with
    |some _=>c.args.toList.any λx=>match x with
     | .tmp t=>Nat.beq t d
     |_=>false
    |none=>false
   |_=>false
  |_=>false)||Wy4 X d os
def Xp3(X:Ext)(o:Oper)(i:Nat)(W:List HT)(dec:List (Nat×Bool)):Option (List Prop×AV×Option Nat):=
 match o.dst with
 |some d=>match Wy4 X d ops with
  |true=>match Qw4 P ops M σ0 m0 nx0 mm o i W dec with
   |some (ns,_,.row _ sz n f,eat)=>some (ns,.lst sz n f,eat)
   |_=>none
  |false=>none
 |none=>none
def Xh3(o:Oper)(i:Nat)(W:List HT)(dec:List (Nat×Bool))(next:List HT->List (Nat×Bool)->VR DT):VR DT:=
 match aop P G (nx0+i) (FX nx0 (M.getD i 0) W W 0++m0) (LS ops M σ0 W dec i) o.op with
 |some (ns,val,add)=> .needT ns (next (W++[⟨val,add,none,none⟩]) dec)
 |none=>match T8 P ops M σ0 m0 nx0 mm o i W dec with
  |some (ns,j,r)=> .needT ns (next (W++[⟨.top,none,some (j,r),none⟩]) dec)
  |none=>match Xp3 P ops M σ0 m0 nx0 mm X o i W dec with
   |some (ns,val,eat)=> .needT ns (next (W++[⟨val,none,none,eat⟩]) dec)
   |none=>match Qw4 P ops M σ0 m0 nx0 mm o i W dec with
    |some (ns,val,r,eat)=> .needT ns (next (W++[⟨val,some r,none,eat⟩]) dec)
    |none=>match Qg6 X (nx0+i) (FX nx0 (M.getD i 0) W W 0++m0) (LS ops M σ0 W dec i) o.op with
     |some t=>t.det.bind λr=>next (W++[⟨r.1,r.2,none,none⟩]) dec
     |none=>match Xp4 P ops M σ0 m0 nx0 o i W dec with
      |some (ns,val,r)=> .needT ns (next (W++[⟨val,some r,none,none⟩]) dec)
      |none=> .fail
def jT:List Oper->Nat->List HT->List (Nat×Bool)->VR DT
 |[],_,W,dec=> .leaf (W,dec)
 |o::rest,i,W,dec=>match o.guard with
  |none=>uW ops M W dec i (TM o.op) λdec=>Xh3 P G X ops M σ0 m0 nx0 mm o i W dec (jT rest (i+1))
  |some (_,want)=>uW ops M W dec i (DZ ops o) λdec=>match (match DZ ops o with|some t=>LS ops M σ0 W dec i (.tmp t)|none=> .top) with
   | .lit b=>match b==want with
    |true=>uW ops M W dec i (TM o.op) λdec=>Xh3 P G X ops M σ0 m0 nx0 mm o i W dec (jT rest (i+1))
    |false=>jT rest (i+1) (W++[yE]) dec
   | .tup _=>jT rest (i+1) (W++[yE]) dec
   |_=> .fail
section
variable (W:List HT)(dec:List (Nat×Bool))
def Qk5(i:Nat)(o:Oper):Prop:=
 ∃dec',(∀k d,RU dec' k=some d->RU dec k=some d)/\
  ((((∃ns,aop P G (nx0+i) (FX nx0 (M.getD i 0) (W.take i) (W.take i) 0++m0) (LS ops M σ0 (W.take i) dec' i) o.op=some (ns,(W.getD i DI).val,(W.getD i DI).add)/\(W.getD i DI).upd=none/\(W.getD i DI).eat=none/\ ∀p∈ns,p)\/
    (∃ns j r,T8 P ops M σ0 m0 nx0 mm o i (W.take i) dec'=some (ns,j,r)/\W.getD i DI=⟨.top,none,some (j,r),none⟩/\ ∀p∈ns,p)\/
    (∃ns val r eat,Qw4 P ops M σ0 m0 nx0 mm o i (W.take i) dec'=some (ns,val,r,eat)/\W.getD i DI=⟨val,some r,none,eat⟩/\ ∀p∈ns,p)\/
    (∃t val,Qg6 X (nx0+i) (FX nx0 (M.getD i 0) (W.take i) (W.take i) 0++m0) (LS ops M σ0 (W.take i) dec' i) o.op=some t/\W.getD i DI=⟨val.1,val.2,none,none⟩/\t.sat (λr=>r=val))\/
    (∃ns val eat,Xp3 P ops M σ0 m0 nx0 mm X o i (W.take i) dec'=some (ns,val,eat)/\W.getD i DI=⟨val,none,none,eat⟩/\ ∀p∈ns,p)\/
    (∃ns val r,Xp4 P ops M σ0 m0 nx0 o i (W.take i) dec'=some (ns,val,r)/\W.getD i DI=⟨val,some r,none,none⟩/\ ∀p∈ns,p))/\
    (o.guard=none\/ ∃j want t,o.guard=some (j,want)/\DZ ops o=some t/\LS ops M σ0 (W.take i) dec' i (.tmp t)= .lit want))\/
   (W.getD i DI=yE/\ ∃j want t,o.guard=some (j,want)/\DZ ops o=some t/\e7 want (LS ops M σ0 (W.take i) dec' i (.tmp t))=true))
def Xf1:Prop:= ∀k d,RU dec k=some d->k<W.length/\(W.getD k DI).val= .x (.bool d)
def P5:Prop:=Xf1 W dec/\ ∀i o,i<W.length->ops[i]? =some o->Qk5 P G X ops M σ0 m0 nx0 mm W dec i o
end
end
section
variable {P:Program}{G:List (Nat×Spec)}{X:Ext}{ops:List Oper}{M:List Nat}{σ0:List AV}{m0:H9}{nx0 mm:Nat}
theorem uA{k:Nat}{d:Bool}{dec:List (Nat×Bool)}(hno:RU dec k=none): ∀i b,RU dec i=some b->RU ((k,d)::dec) i=some b:=by
 intro i b h;unfold RU;split
 ·rename_i hb;have:k=i:=H4 hb;subst this;rw [hno] at h;cases h
 ·exact h
theorem P5.more{W:List HT}{dec dec2:List (Nat×Bool)}(h:P5 P G X ops M σ0 m0 nx0 mm W dec)(hd:Xf1 W dec2)(hs: ∀i b,RU dec i=some b->RU dec2 i=some b):P5 P G X ops M σ0 m0 nx0 mm W dec2:=
 ⟨hd,λi o O ho=>let ⟨dec',h1,h2⟩:=h.2 i o O ho;⟨dec',λk d hk=>hs k d (h1 k d hk),h2⟩⟩
theorem xA{W:List HT}{dec:List (Nat×Bool)}{i:Nat}{t:Option Nat}{g:List (Nat×Bool)->VR DT}{R:DT->Prop}(h:(uW ops M W dec i t g).sat R)(ha:P5 P G X ops M σ0 m0 nx0 mm W dec):
  ∃dec2,P5 P G X ops M σ0 m0 nx0 mm W dec2/\(g dec2).sat R/\ ∀i b,RU dec i=some b->RU dec2 i=some b:=by
 unfold uW at h;split at h
 ·exact ⟨dec,ha,h,λ_ _ h=>h⟩
 ·split at h
  ·rename_i k hk;split at h
   ·exact ⟨dec,ha,h,λ_ _ h=>h⟩
   ·rename_i hno;split at h
    ·split at h
     ·rename_i b hb;have hlt:k<W.length:=by
       rcases An k W.length with h'|h'
       ·exact h'
       ·rw [List.getD,Br h'] at hb;simp [DI] at hb
      have key: ∀d,b=d->P5 P G X ops M σ0 m0 nx0 mm W ((k,d)::dec):=by
       intro d hd;refine ha.more ?_ (uA hno);intro i b' hl;unfold RU at hl;split at hl
       ·rename_i hki;have:k=i:=H4 hki;subst this;cases hl;exact ⟨hlt,by rw [hb,hd]⟩
       ·exact ha.1 i b' hl
      cases b
      ·exact ⟨_,key false rfl,h.2 rfl,uA hno⟩
      ·exact ⟨_,key true rfl,h.1 rfl,uA hno⟩
     ·exact ⟨dec,ha,h,λ_ _ h=>h⟩
    ·exact ⟨dec,ha,h,λ_ _ h=>h⟩
  ·exact ⟨dec,ha,h,λ_ _ h=>h⟩
theorem We6{W:List HT}{dec2 dec3:List (Nat×Bool)}{i t:Nat}{b:Bool}(Zo5: ∀i b,RU dec2 i=some b->RU dec3 i=some b)(hd:Xf1 W dec3)(h:LS ops M σ0 W dec2 i (.tmp t)= .lit b):LS ops M σ0 W dec3 i (.tmp t)= .lit b:=by
 simp only [LS] at h ⊢;split
 ·rename_i hw;rw [hw] at h;exact h
 ·rename_i k hw;rw [hw] at h;simp only at h;split
  ·rename_i hb;rw [hb] at h;simp only [Qu6] at h ⊢;cases h2:RU dec2 k with
   |some d=>rw [h2] at h;rw [Zo5 _ _ h2];exact h
   |none=>
    rw [h2] at h;simp only at h;cases h3:RU dec3 k with
    |none=>exact h
    |some d=>have:=(hd k d h3).2;rw [this] at h;cases h
  ·rename_i hb;rw [hb] at h;exact h
theorem P5.push{W:List HT}{dec:List (Nat×Bool)}{o:Oper}{c:HT}(h:P5 P G X ops M σ0 m0 nx0 mm W dec)(ho:ops[W.length]? =some o)(Z:Qk5 P G X ops M σ0 m0 nx0 mm (W++[c]) dec W.length o):
  P5 P G X ops M σ0 m0 nx0 mm (W++[c]) dec:=by
 have Qs6: ∀i,i<W.length->(W++[c]).getD i DI=W.getD i DI:=λi O=>by simp [List.getD,List.getElem?_append,O]
 refine ⟨λk d hk=>?_,λi o' O ho'=>?_⟩
 ·obtain ⟨h1,h2⟩:=h.1 k d hk;exact ⟨by simp;omega,by rw [Qs6 k h1];exact h2⟩
 ·by_cases hlt:i<W.length
  ·obtain ⟨dec',h1,h2⟩:=h.2 i o' hlt ho';refine ⟨dec',h1,?_⟩;have ht:(W++[c]).take i=W.take i:=by rw [List.take_append_of_le_length VO]
   rw [ht,Qs6 i hlt];exact h2
  ·have:i=W.length:=by simp at O;omega
   subst this;rw [ho] at ho';cases ho';exact Z
theorem wV{R:DT->Prop}: ∀(rest:List Oper) (W:List HT) (dec:List (Nat×Bool)) (hh:List Oper),ops=hh++rest++(ops.drop (hh.length+rest.length))->hh.length=W.length->(jT P G X ops M σ0 m0 nx0 mm rest W.length W dec).sat R->
  P5 P G X ops M σ0 m0 nx0 mm W dec-> ∃outs' dec',R (outs',dec')/\P5 P G X ops M σ0 m0 nx0 mm outs' dec'/\outs'.length=W.length+rest.length
 |[],W,dec,hh,_,_,h,ha=>⟨W,dec,h,ha,VZ⟩
 |o::rest,W,dec,hh,IE,D1,h,ha=>by
  have ho:ops[W.length]? =some o:=by
   rw [IE,List.append_assoc,←D1];simp
  have hops':ops=(hh++[o])++rest++(ops.drop ((hh++[o]).length+rest.length)):=by
   have e1:(hh++[o]).length+rest.length=hh.length+(o::rest).length:=by simp;omega
   rw [e1];simpa using IE
  have run: ∀dec2,P5 P G X ops M σ0 m0 nx0 mm W dec2->(Xh3 P G X ops M σ0 m0 nx0 mm o W.length W dec2 (jT P G X ops M σ0 m0 nx0 mm rest (W.length+1))).sat R->
    (o.guard=none\/ ∃j want t,o.guard=some (j,want)/\DZ ops o=some t/\LS ops M σ0 W dec2 W.length (.tmp t)= .lit want)->
    ∃outs' dec',R (outs',dec')/\P5 P G X ops M σ0 m0 nx0 mm outs' dec'/\outs'.length=W.length+(o::rest).length:=by
   intro dec2 ha2 h2 hg;unfold Xh3 at h2;have fin: ∀c:HT,Qk5 P G X ops M σ0 m0 nx0 mm (W++[c]) dec2 W.length o->(jT P G X ops M σ0 m0 nx0 mm rest (W.length+1) (W++[c]) dec2).sat R->
     ∃outs' dec',R (outs',dec')/\P5 P G X ops M σ0 m0 nx0 mm outs' dec'/\outs'.length=W.length+(o::rest).length:=by
    intro c yY h3;have D4:=ha2.push ho yY;have hl:(W++[c]).length=W.length+1:=VZ;rw [←hl] at h3;obtain ⟨outs',dec',r1,r2,r3⟩:=wV rest _ dec2 (hh++[o]) hops' (by simp [D1]) h3 D4
    exact ⟨outs',dec',r1,r2,by rw [r3];simp;omega⟩
   split at h2
   ·rename_i ns val add Xm2
    replace h2:=VR.sat_needT h2
    refine fin ⟨val,add,none,none⟩ ⟨dec2,λ_ _ h=>h,.inl ⟨.inl ⟨ns,?_,?_,?_,GH h2.1⟩,?_⟩⟩ h2.2
    ·simpa [List.getD] using Xm2
    ·simp [List.getD]
    ·simp [List.getD]
    ·simpa using hg
   ·split at h2
    ·rename_i ns j r hst
     replace h2:=VR.sat_needT h2
     refine fin ⟨.top,none,some (j,r),none⟩ ⟨dec2,λ_ _ h=>h,.inl ⟨.inr (.inl ⟨ns,j,r,?_,?_,GH h2.1⟩),?_⟩⟩ h2.2
     ·simpa using hst
     ·simp [List.getD]
     ·simpa using hg
    ·split at h2
     ·rename_i ns val eat hap
      replace h2:=VR.sat_needT h2
      refine fin ⟨val,none,none,eat⟩ ⟨dec2,λ_ _ h=>h,.inl ⟨.inr (.inr (.inr (.inr (.inl ⟨ns,val,eat,?_,?_,GH h2.1⟩)))),?_⟩⟩ h2.2
      ·simpa using hap
      ·simp [List.getD]
      ·simpa using hg
     ·split at h2
      ·rename_i ns val r eat hap
       replace h2:=VR.sat_needT h2
       refine fin ⟨val,some r,none,eat⟩ ⟨dec2,λ_ _ h=>h,.inl ⟨.inr (.inr (.inl ⟨ns,val,r,eat,?_,?_,GH h2.1⟩)),?_⟩⟩ h2.2
       ·simpa using hap
       ·simp [List.getD]
       ·simpa using hg
      ·split at h2
       ·rename_i t hcd;obtain ⟨val,h3,h4⟩:=VR.det_sat (VR.sat_bind h2);refine fin ⟨val.1,val.2,none,none⟩ ⟨dec2,λ_ _ h=>h,.inl ⟨.inr (.inr (.inr (.inl ⟨t,val,?_,?_,h3⟩))),?_⟩⟩ h4
        ·simpa using hcd
        ·simp [List.getD]
        ·simpa using hg
       ·split at h2
        ·rename_i ns val r hap
         replace h2:=VR.sat_needT h2
         refine fin ⟨val,some r,none,none⟩ ⟨dec2,λ_ _ h=>h,.inl ⟨.inr (.inr (.inr (.inr (.inr ⟨ns,val,r,?_,?_,GH h2.1⟩)))),?_⟩⟩ h2.2
         ·simpa using hap
         ·simp [List.getD]
         ·simpa using hg
        ·exact h2.elim
  have skip: ∀{dec2:List (Nat×Bool)} {j:Nat} {want:Bool} {t:Nat},P5 P G X ops M σ0 m0 nx0 mm W dec2->(jT P G X ops M σ0 m0 nx0 mm rest (W.length+1) (W++[yE]) dec2).sat R->o.guard=some (j,want)->DZ ops o=some t->
    e7 want (LS ops M σ0 W dec2 W.length (.tmp t))=true-> ∃outs' dec',R (outs',dec')/\P5 P G X ops M σ0 m0 nx0 mm outs' dec'/\outs'.length=W.length+(o::rest).length:=by
   intro dec2 j want t ha2 h2 hg hs hb;have yY:Qk5 P G X ops M σ0 m0 nx0 mm (W++[yE]) dec2 W.length o:=by
    refine ⟨dec2,λ_ _ h=>h,.inr ⟨by simp [List.getD],j,want,t,hg,hs,?_⟩⟩
    simpa using hb
   have D4:=ha2.push ho yY;have hl:(W++[yE]).length=W.length+1:=VZ;rw [←hl] at h2;obtain ⟨outs',dec',r1,r2,r3⟩:=wV rest _ dec2 (hh++[o]) hops' (by simp [D1]) h2 D4
   exact ⟨outs',dec',r1,r2,by rw [r3];simp;omega⟩
  unfold jT at h;split at h
  ·rename_i hg;obtain ⟨dec2,ha2,h2,_⟩:=xA h ha;exact run dec2 ha2 h2 (.inl hg)
  ·rename_i j want hg;obtain ⟨dec2,ha2,h2,_⟩:=xA h ha;cases hs:DZ ops o with
   |none=>simp only [hs] at h2;exact h2.elim
   |some t=>
    simp only [hs] at h2;split at h2
    ·rename_i b hb;split at h2
     ·rename_i hbw;have hbw':b=want:=by simpa using hbw
      subst hbw';obtain ⟨dec3,ha3,h3,Zo5⟩:=xA h2 ha2;exact run dec3 ha3 h3 (.inr ⟨j,b,t,hg,hs,We6 Zo5 ha3.1 hb⟩)
     ·rename_i hbw;have hbw':b≠want:=by simpa using hbw
      exact skip ha2 h2 hg hs (by rw [hb];simpa [e7] using hbw')
    ·rename_i l hb;exact skip ha2 h2 hg hs (by rw [hb];rfl)
    ·exact h2.elim
end
def aV(M:List Nat)(k:Nat):Bool:=Nat.beq (Nat.land (M.getD k 0) (2^k-1)) (2^k-1)
theorem IO{M:List Nat}{k:Nat}(h:aV M k=true){j:Nat}(hj:j<k):(M.getD k 0).testBit j=true:=by
 have h1:Nat.land (M.getD k 0) (2^k-1)=2^k-1:=H4 h;have h2:((M.getD k 0) &&& (2^k-1)).testBit j=(2^k-1).testBit j:=congrArg (·.testBit j) h1;rw [Nat.testBit_and,Nat.testBit_two_pow_sub_one] at h2;simpa [hj] using h2
def qC(M:List Nat):Nat->Nat
 | 0=>0
 |k+1=>match aV M k with
  |true=>qC M k
  |false=>k+1
theorem aA(M:List Nat): ∀n,qC M n<=n
 | 0=>Am _
 |k+1=>by
        unfold qC;split
        ·exact Nat.le_succ_of_le (aA M k)
        ·exact Am _
theorem kL(M:List Nat): ∀n k,qC M n<=k->k<n->aV M k=true
 | 0,_,_,h=>VO
 |n+1,k,h,hk=>by
  unfold qC at h;split at h
  ·rename_i hf;by_cases he:k=n
   ·subst he;exact hf
   ·exact kL M n k h VO
  ·omega
section
variable (ops:List Oper)(mm:Nat)(W:List HT)(dec:List (Nat×Bool))
def Xm7(t:Nat)(a:AV):AV:=match DJ t ops 0 with
 |some k=>match Nat.blt k mm with
  |true=>Qu6 dec k (W.getD k DI).val
  |false=>a
 |none=>a
def d9:List AV->Nat->List AV
 |[],_=>[]
 |a::l,t=>Xm7 ops mm W dec t a::d9 l (t+1)
theorem wT: ∀(l:List AV) (t:Nat),(d9 ops mm W dec l t).length=l.length
 |[],_=>rfl
 |a::l,t=>by simp [d9,wT l]
theorem IU: ∀(l:List AV) (t i:Nat),(d9 ops mm W dec l t)[i]? =(l[i]?).map (Xm7 ops mm W dec (t+i))
 |[],_,_=>rfl
 |a::l,t,0=>by simp [d9]
 |a::l,t,i+1=>by simp only [d9,List.getElem?_cons_succ];rw [IU l (t+1) i,show t+1+i=t+(i+1) by omega]
end
def jP(W:List HT)(j:Nat):Option GU:=
 match W with
 |[]=>none
 |c::os=>match c.upd with
  |some (k,r)=>match Nat.beq k j with
   |true=>some r
   |false=>jP os j
  |none=>jP os j
theorem zL{j:Nat}{r:GU}: ∀{W:List HT},jP W j=some r-> ∃(i:Nat) (c:HT),W[i]? =some c/\c.upd=some (j,r)
 |[],h=>by simp [jP] at h
 |c::os,h=>by
  unfold jP at h;split at h
  ·rename_i k r' hu;split at h
   ·rename_i hb;cases h;have:k=j:=H4 hb;exact ⟨0,c,rfl,by rw [hu,this]⟩
   ·obtain ⟨i,c',h1,h2⟩:=zL h;exact ⟨i+1,c',by simpa using h1,h2⟩
  ·obtain ⟨i,c',h1,h2⟩:=zL h;exact ⟨i+1,c',by simpa using h1,h2⟩
theorem zM{j:Nat}: ∀{W:List HT},jP W j=none-> ∀(i:Nat) (c:HT) (r:GU),W[i]? =some c->c.upd≠some (j,r)
 |[],_,i,c,r,h=>by simp at h
 |c0::os,h,i,c,r,hc=>by
  unfold jP at h;cases i with
  |zero=>
   simp at hc;subst hc;intro hu;rw [hu] at h;simp at h
  |succ i=>
   simp at hc;split at h
   ·split at h
    ·cases h
    ·exact zM h i c r hc
   ·exact zM h i c r hc
def Qv9(j:Nat):List HT->Bool
 |[]=>false
 |c::t=>(match c.eat with
  |some q=>Nat.beq q j
  |none=>false)||Qv9 j t
theorem fQ{j:Nat}: ∀{l:List HT} {i:Nat} {c:HT},l[i]? =some c->c.eat=some j->Qv9 j l=true
 |[],_,_,h,_=>by simp at h
 |c0::t,i,c,h,he=>by
  unfold Qv9;cases i with
  |zero=>simp at h;subst h;rw [he];simp
  |succ i=>rw [fQ (l:=t) (i:=i) (by simpa using h) he];simp
def RZ(nx0:Nat)(all:List HT):List HT->Nat->H9
 |[],_=>[]
 |o::os,j=>match o.add with
  |some r=>match Qv9 j all with
   |true=>RZ nx0 all os (j+1)
   |false=>(nx0+j,match jP all j with|some r'=>r'|none=>r)::RZ nx0 all os (j+1)
  |none=>RZ nx0 all os (j+1)
theorem y5{nx0:Nat}{all:List HT}: ∀{W:List HT} {j0:Nat} {p:Nat×GU},p∈RZ nx0 all W j0-> ∃j,∃c:HT,∃r,W[j]? =some c/\p.1=nx0+(j0+j)/\c.add=some r/\p.2=(match jP all (j0+j) with|some r'=>r'|none=>r)/\Qv9 (j0+j) all=false
 |[],_,_,h=>by simp [RZ] at h
 |c::W,j0,p,h=>by
  have tl:p∈RZ nx0 all W (j0+1)-> ∃j,∃c':HT,∃r,(c::W)[j]? =some c'/\p.1=nx0+(j0+j)/\c'.add=some r/\p.2=(match jP all (j0+j) with|some r'=>r'|none=>r)/\Qv9 (j0+j) all=false:=by
   intro h;obtain ⟨j,c',r,h1,h2,h3,h4,h5⟩:=y5 h;refine ⟨j+1,c',r,by simpa using h1,?_,h3,?_,?_⟩
   ·rw [show j0+(j+1)=j0+1+j by omega];exact h2
   ·rw [show j0+(j+1)=j0+1+j by omega];exact h4
   ·rw [show j0+(j+1)=j0+1+j by omega];exact h5
  unfold RZ at h;split at h
  ·rename_i r Z;split at h
   ·exact tl h
   ·rename_i ha;rcases GS.1 h with rfl|h
    ·exact ⟨0,c,r,rfl,rfl,Z,rfl,ha⟩
    ·exact tl h
  ·exact tl h
def OJ:GU->Bool
 | .aka _ _ _ _ _=>true
 |_=>false
theorem zI{r:GU}(h:OJ r=false)(k:Nat):D0 k r=false:=by
 cases r<;>first|rfl|(simp [OJ] at h)
def Wy8(c:HT):Option Nat:=match c.add with
 |some (.aka q _ _ _ _)=>some q
 |_=>none
def a9(q:Nat):List HT->Bool
 |[]=>true
 |c::t=>(match Wy8 c with
  |some k=> !Nat.beq k q
  |none=>true)&&a9 q t
def a6:List HT->Bool
 |[]=>true
 |c::t=>(match Wy8 c with
  |some q=>a9 q t
  |none=>true)&&a6 t
theorem Qh6{c:HT}{r:GU}{q:Nat}(h:c.add=some r)(hq:D0 q r=true):Wy8 c=some q:=by
 unfold Wy8;rw [h];cases r with
 |aka q' T sz n f=>
  have:q'=q:=H4 hq;rw [this]
 |_=>simp [D0] at hq
def aC(nx0:Nat)(c:HT):Bool:=(match c.upd with
 |some (_,r)=> !OJ r
 |none=>true)&&(match c.add with
 |some (.aka q _ _ _ _)=>Nat.blt q nx0
 |_=>true)
def uN(nx0:Nat)(m:H9)(W:List HT):Bool:=m.all (λp=> !OJ p.2)&&(W.all (aC nx0)&&a6 W)
structure Zc0 (nx0:Nat) (m:H9) (W:List HT):Prop where
 m0: ∀p∈m,OJ p.2=false
 upd: ∀(i:Nat) (c:HT) (j:Nat) (r:GU),W[i]? =some c->c.upd=some (j,r)->OJ r=false
 low: ∀(i:Nat) (c:HT) (r:GU) (q:Nat),W[i]? =some c->c.add=some r->D0 q r=true->q<nx0
 one: ∀(i j:Nat) (ci cj:HT) (ri rj:GU) (q:Nat),W[i]? =some ci->W[j]? =some cj->ci.add=some ri->cj.add=some rj->D0 q ri=true->D0 q rj=true->i=j
theorem kK{q:Nat}: ∀{l:List HT},a9 q l=true-> ∀(i:Nat) (c:HT),l[i]? =some c->Wy8 c≠some q
 |[],_,i,c,h=>by simp at h
 |c0::t,h,i,c,hc=>by
  simp only [a9,HE] at h;cases i with
  |zero=>
   simp at hc;subst hc;intro he;have:=h.1;rw [he] at this;simp at this
  |succ i=>exact kK h.2 i c (by simpa using hc)
theorem O8: ∀{l:List HT},a6 l=true-> ∀(i j:Nat) (ci cj:HT) (ri rj:GU) (q:Nat),l[i]? =some ci->l[j]? =some cj->ci.add=some ri->cj.add=some rj->D0 q ri=true->D0 q rj=true->i=j
 |[],_,i,_,ci,_,_,_,_,h,_,_,_,_,_=>by simp at h
 |c0::t,h,i,j,ci,cj,ri,rj,q,h1,h2,h3,h4,h5,h6=>by
  simp only [a6,HE] at h;have e1:=Qh6 h3 h5;have e2:=Qh6 h4 h6;cases i with
  |zero=>
   cases j with
   |zero=>rfl
   |succ j=>
    simp at h1;subst h1;have:=h.1;rw [e1] at this;exact absurd e2 (kK this j cj (by simpa using h2))
  |succ i=>
   cases j with
   |zero=>
    simp at h2;subst h2;have:=h.1;rw [e2] at this;exact absurd e1 (kK this i ci (by simpa using h1))
   |succ j=>rw [O8 h.2 i j ci cj ri rj q (by simpa using h1) (by simpa using h2) h3 h4 h5 h6]
theorem mL{nx0:Nat}{m:H9}{W:List HT}(h:uN nx0 m W=true):Zc0 nx0 m W:=by
 simp only [uN,HE] at h;obtain ⟨h1,h2,h3⟩:=h;have hl: ∀(i:Nat) (c:HT),W[i]? =some c->aC nx0 c=true:=λi c hc=>BA.1 h2 c (F7 hc)
 refine ⟨λp hp=>by simpa using BA.1 h1 p hp,λi c j r hc hu=>?_,λi c r q hc Z hq=>?_,O8 h3⟩
 ·have:=hl i c hc;simp only [aC,HE] at this;have h:=this.1;rw [hu] at h;simpa using h
 ·have:=hl i c hc;simp only [aC,HE] at this;have h:=this.2;rw [Z] at h;cases r with
  |aka q' T sz n f=>
   simp only [Aw] at h;have:q'=q:=H4 hq;omega
  |_=>simp [D0] at hq
def Xh8(P:Program)(G:List (Nat×Spec))(X:Ext)(ops:List Oper)(s:St):VR St:=
 match rD s.σ.length ops ops 0 with
 |false=> .fail
 |true=>(jT P G X ops (HH ops []) s.σ s.m s.nx (qC (HH ops []) ops.length) (ops.take (qC (HH ops []) ops.length)) 0 [] []).bind λp=>match uN s.nx s.m p.1 with
  |false=> .fail
  |true=>We9 P G X ops (ops.drop (qC (HH ops []) ops.length))
   {s with σ:=d9 ops (qC (HH ops []) ops.length) p.1 p.2 s.σ 0,m:=RZ s.nx p.1 p.1 0++s.m,nx:=s.nx+qC (HH ops []) ops.length}
theorem S7{p q:Nat->Bool}: ∀{l:List Nat},(∀i∈l,q i=true->p i=true)-> ∀{i},i∈l->p i=true->q i=false->l.countP q<l.countP p
 |[],_,_,h,_,_=>by cases h
 |a::l,hle,i,O,hp,hq=>by
  have hle':l.countP q<=l.countP p:=List.countP_mono_left λx hx=>hle x (HX _ hx)
  simp only [List.countP_cons];rcases GS.1 O with rfl|O
  ·rw [hp,hq];simp;omega
  ·have:=S7 (λx hx=>hle x (HX _ hx)) O hp hq
   have h2:(if q a=true then 1 else 0)<=(if p a=true then 1 else 0):=by
    by_cases hqa:q a=true
    ·rw [hqa,hle a GK hqa];exact Am _
    ·simp [hqa]
   omega
def unl(n:Nat)(L:Array Bool):Nat:=(List.range n).countP λi=> !L.getD i true
theorem HW{ops:Array Oper}{L:Array Bool}{i:Nat}(h:i∈Region.ready .any ops L):i<ops.size/\L.getD i true=false/\ ∃o,ops[i]? =some o/\ ∀j∈HZ o,inS L j:=by
 unfold Region.ready at h;rw [List.mem_filter] at h;obtain ⟨h1,h2⟩:=h;simp only [HE,Ax,List.mem_range] at h1 h2;obtain ⟨h3,h4⟩:=h2;refine ⟨h1,h3,ops[i],by simp [h1],λj hj=>?_⟩
 have ho:ops[i]? =some ops[i]:=by simp [h1]
 rw [ho] at h4;simp only [Bt,GZ] at h4;simp only [HZ,List.mem_map,List.mem_filter] at hj;obtain ⟨ed,⟨he1,he2⟩,rfl⟩:=hj;have:=Array.all_eq_true_iff_forall_mem.1 h4 ed (by simpa using he1)
 simpa [he2,inS] using this
theorem AU{ro:Option Nat}{n:Nat}{P:Program}{ops:Array Oper}{Q:Exit->Act->World->Prop}(Inv:Array Bool->Act->World->Prop)
  (step: ∀L a w i,Inv L a w->i∈Region.ready .any ops L->wpOpIn (fr ro) n P ops Q i (λa' w'=>Inv (L.setIfInBounds i true) a' w') a w)
  (done: ∀L a w,Inv L a w->Region.ready .any ops L=[]->Q .normal a w)(hsz: ∀L a w,Inv L a w->L.size=ops.size):
  ∀(fuel:Nat) (L:Array Bool) (a:Act) (w:World),Inv L a w->unl ops.size L<=fuel->wpAnyIn (fr ro) n P .any ops Q fuel L a w
 | 0,L,a,w,hI,hu=>by
  have Z:Region.ready .any ops L=[]:=by
   rw [List.eq_nil_iff_forall_not_mem];intro i O;obtain ⟨h1,h2,_⟩:=HW O;have:0<unl ops.size L:=by
    unfold unl;rw [List.countP_pos_iff];exact ⟨i,List.mem_range.2 h1,by rw [h2];rfl⟩
   omega
  exact ⟨Z,done L a w hI Z⟩
 |fuel+1,L,a,w,hI,hu=>by
  refine ⟨done L a w hI,λi O=>?_⟩
  obtain ⟨h1,h2,_⟩:=HW O;have hLs:=hsz L a w hI;refine wpOpIn_mono (λa' w' hI'=>AU Inv step done hsz fuel _ a' w' hI' ?_) (step L a w i hI O)
  have:unl ops.size (L.setIfInBounds i true)<unl ops.size L:=by
   unfold unl;refine S7 (λj hj hq=>?_) (List.mem_range.2 h1) (by rw [h2];rfl) ?_
   ·by_cases hij:i=j
    ·subst hij;simp [LV,hLs,h1] at hq
    ·simpa [LV,Array.getElem?_setIfInBounds,hij] using hq
   ·simp [LV,hLs,h1]
  omega
theorem UU{L:Array Bool}{i k:Nat}(O:i<L.size):inS (L.setIfInBounds i true) k↔k=i\/inS L k:=by
 unfold inS;simp only [LV,Array.getElem?_setIfInBounds];by_cases h:i=k
 ·subst h;simp [O]
 ·simp [h,Ne.symm h]
theorem qB{L:Array Bool}{i:Nat}(O:i<L.size)(h:L.getD i true=false): ¬inS L i:=by
 unfold inS;simp [LV,O] at h ⊢;exact h
theorem MB{nx0 mask:Nat}{all:List HT}: ∀{W:List HT} {j0:Nat} {p:Nat×GU},p∈FX nx0 mask all W j0-> ∃j,∃c:HT,W[j]? =some c/\mask.testBit (j0+j)=true/\p.1=nx0+(j0+j)/\c.add=some p.2/\fM mask (j0+j) all 0=false
 |[],_,_,h=>by simp [FX] at h
 |c::W,j0,p,h=>by
  have tl:p∈FX nx0 mask all W (j0+1)-> ∃j,∃c':HT,(c::W)[j]? =some c'/\mask.testBit (j0+j)=true/\p.1=nx0+(j0+j)/\c'.add=some p.2/\fM mask (j0+j) all 0=false:=by
   intro h;obtain ⟨j,c',h1,h2,h3,h4,h5⟩:=MB h;exact ⟨j+1,c',by simpa using h1,by rw [show j0+(j+1)=j0+1+j by omega];exact h2,by rw [show j0+(j+1)=j0+1+j by omega];exact h3,h4,by rw [show j0+(j+1)=j0+1+j by omega];exact h5⟩
  unfold FX at h;split at h
  ·rename_i hb;split at h
   ·rename_i r Z;split at h
    ·exact tl h
    ·rename_i hea;rcases GS.1 h with rfl|h
     ·exact ⟨0,c,rfl,by simpa using hb,rfl,Z,hea⟩
     ·exact tl h
   ·exact tl h
  ·exact tl h
section
variable {P:Program}{G:List (Nat×Spec)}{X:Ext}{ops:Array Oper}{c:Cx}{w0:World}{T:Nat->Prop}{s0:St}{W:List HT}{dec:List (Nat×Bool)}
def FC(ops:List Oper)(σ0:List AV)(W:List HT)(L:Array Bool)(t:Nat):AV:=match DJ t ops 0 with
 |some k=>if L.getD k false=true then (W.getD k DI).val else σ0.getD t .top
 |none=>σ0.getD t .top
structure uP (ops:Array Oper) (c:Cx) (w0:World) (T:Nat->Prop) (s0:St) (W:List HT) (mm:Nat) (L:Array Bool) (a:Act) (w:World):Prop where
 size:L.size=ops.size
 dc:DC ops.toList L
 lt: ∀k,inS L k->k<mm
 rel: ∃e,G6 e w0.heap.size w/\Below w0.heap.size w0 w/\UZ e s0.m w/\(∀j c,inS L j->W[j]? =some c-> ∀r,c.add=some r->(∀i ci,inS L i->W[i]? =some ci->ci.eat≠some j)-> ∃r'',GL e w (s0.nx+j) r''/\(∀i ci r',inS L i->W[i]? =some ci->ci.upd=some (j,r')->r''=r')/\((∀i ci r',inS L i->W[i]? =some ci->ci.upd≠some (j,r'))->r''=r))/\
  (∀k,e.live k->k<s0.nx\/ ∃i,inS L i/\k=s0.nx+i)/\((∀b,T b->b<w0.heap.size/\ ¬e.ro b)/\Xt c e s0.sv a.defers w)/\a.tmps.size=s0.σ.length/\ ∀t v,a.tmps[t]? =some v->Rep e w (FC ops.toList s0.σ W L t) v
theorem Rep.litOf{e:UP}{w:World}{d:Bool}{v:Value}(h:Rep e w (.x (.bool d)) v):Rep e w (.lit d) v:=by rw [h.x_inv];exact .lit d
section
variable {M:List Nat}
theorem rF{mm:Nat}{σ0:List AV}{m0:H9}{nx0:Nat}{opsL:List Oper}{o:Oper}{i j:Nat}{r:GU}{ns:List Prop}{W:List HT}{dec:List (Nat×Bool)}(h:T8 P opsL M σ0 m0 nx0 mm o i W dec=some (ns,j,r)):
  ∃t x y off m',o.op= .store t x y/\LS opsL M σ0 W dec i x= .ptr (nx0+j) off/\OE M mm i j=true/\zY P (FX nx0 (M.getD i 0) W W 0++m0) t (.ptr (nx0+j) off) (LS opsL M σ0 W dec i y)=some (ns,m')/\DL m' (nx0+j)=some r:=by
 unfold T8 at h;split at h
 ·rename_i t x y ho;split at h
  ·rename_i id off hx;split at h
   ·rename_i hb;simp only [HE] at hb;have hle:=w9 hb.1;split at h
    ·rename_i ns' m' hst;split at h
     ·rename_i r' hg;simp only [HJ,FG] at h;obtain ⟨rfl,rfl,rfl⟩:=h;have e1:nx0+(id-nx0)=id:=VO;exact ⟨t,x,y,off,m',ho,by rw [e1];exact hx,hb.2,by rw [e1];exact hst,by rw [e1];exact hg⟩
     ·cases h
    ·cases h
   ·cases h
  ·cases h
 ·cases h
theorem Wb8{σ0:List AV}{m0:H9}{nx0 mm:Nat}{opsL:List Oper}(D4:P5 P G X opsL M σ0 m0 nx0 mm W dec){i j:Nat}{c:HT}{r:GU}(hc:W[i]? =some c)(ho:i<opsL.length)(hu:c.upd=some (j,r)):OE M mm i j=true:=by
 have O:i<W.length:=(FY.1 hc).1;have hg:W.getD i DI=c:=by simp [List.getD,hc]
 obtain ⟨dec',_,h|h⟩:=D4.2 i opsL[i] O (D5 ho)
 ·rcases h.1 with ⟨ns,_,hn,_⟩|⟨ns,j',r',hst,he,_⟩|⟨ns,val,r',eat,hst,he,_⟩|⟨t,val,_,he,_⟩|⟨ns,val,eat,_,he,_⟩|⟨ns,val,r',_,he,_⟩
  ·rw [hg,hu] at hn;cases hn
  ·rw [hg] at he;subst he;simp only [HJ,FG] at hu;obtain ⟨rfl,rfl⟩:=hu;obtain ⟨_,_,_,_,_,_,_,hl,_⟩:=rF hst;exact hl
  ·rw [hg] at he;subst he;cases hu
  ·rw [hg] at he;subst he;cases hu
  ·rw [hg] at he;subst he;cases hu
  ·rw [hg] at he;subst he;cases hu
 ·rw [hg] at h;rw [h.1] at hu;cases hu
theorem yT{mm:Nat}{σ0:List AV}{m0:H9}{nx0:Nat}{opsL:List Oper}{o:Oper}{i:Nat}{val:AV}{r:GU}{eat:Option Nat}{ns:List Prop}{W:List HT}{dec:List (Nat×Bool)}(h:Qw4 P opsL M σ0 m0 nx0 mm o i W dec=some (ns,val,r,eat)):
  ∃c s x t tl,o.op= .call c/\c.callee= .builtin .append/\c.args.toList=[s,x]/\c.argTypes.toList=[t,t]/\R9 P (nx0+i) (FX nx0 (M.getD i 0) W W 0++m0) t (LS opsL M σ0 W dec i s) (LS opsL M σ0 W dec i x)=some (ns,val,(nx0+i,r)::tl)/\
   ((∃j,eat=some j/\LS opsL M σ0 W dec i s= .row (nx0+j)/\Qu5 M mm i j=true)\/(eat=none/\ ∃v,LS opsL M σ0 W dec i s= .x v)):=by
 have hid: ∀{id:Nat} {m m':H9} {t:TypeId} {s x v:AV} {ns:List Prop} {p:Nat} {r:GU} {tl:H9},R9 P id m t s x=some (ns,v,(p,r)::tl)->p=id:=by
  intro id m m' t s x v ns p r tl h;unfold R9 at h
  repeat' split at h
  all_goals first|(simp only [HJ,FG,List.cons.injEq] at h;exact h.2.2.1.1.symm)|cases h
 unfold Qw4 at h;split at h
 ·rename_i c ho;split at h
  ·rename_i s x t t' hc ha hta;split at h
   ·rename_i htt;have:t=t':=H4 htt;subst this;split at h
    ·rename_i id hs;split at h
     ·rename_i hb;simp only [HE] at hb;have hle:=w9 hb.1;split at h
      ·rename_i ns' v' p r' tl hap;simp only [HJ,FG] at h;obtain ⟨rfl,rfl,rfl,rfl⟩:=h;have hp:=hid (m':=[]) hap;subst hp;exact ⟨c,s,x,t,tl,ho,hc,ha,hta,by rw [hs];exact hap,.inl ⟨id-nx0,rfl,by rw [hs];congr 1;omega,hb.2⟩⟩
      ·cases h
     ·cases h
    ·rename_i v hs;split at h
     ·rename_i ns' v' p r' tl hap;simp only [HJ,FG] at h;obtain ⟨rfl,rfl,rfl,rfl⟩:=h;have hp:=hid (m':=[]) hap;subst hp;exact ⟨c,s,x,t,tl,ho,hc,ha,hta,by rw [hs];exact hap,.inr ⟨rfl,v,hs⟩⟩
     ·cases h
    ·cases h
   ·cases h
  ·cases h
 ·cases h
theorem SG{mm:Nat}{σ0:List AV}{m0:H9}{nx0:Nat}{opsL:List Oper}{o:Oper}{i:Nat}{val:AV}{eat:Option Nat}{ns:List Prop}{W:List HT}{dec:List (Nat×Bool)}(h:Xp3 P opsL M σ0 m0 nx0 mm X o i W dec=some (ns,val,eat)):
  ∃v0 T sz n f,Qw4 P opsL M σ0 m0 nx0 mm o i W dec=some (ns,v0,.row T sz n f,eat)/\val= .lst sz n f:=by
 unfold Xp3 at h;split at h
 ·split at h
  ·split at h
   ·rename_i ns' v0 T sz n f eat' hap;simp only [HJ,FG] at h;obtain ⟨rfl,rfl,rfl⟩:=h;exact ⟨v0,T,sz,n,f,hap,rfl⟩
   ·cases h
  ·cases h
 ·cases h
theorem Qw3{σ0:List AV}{m0:H9}{nx0:Nat}{opsL:List Oper}{o:Oper}{i:Nat}{val:AV}{r:GU}{ns:List Prop}{W:List HT}{dec:List (Nat×Bool)}(h:Xp4 P opsL M σ0 m0 nx0 o i W dec=some (ns,val,r)):
  ∃c s x t q,o.op= .call c/\c.callee= .builtin .append/\c.args.toList=[s,x]/\c.argTypes.toList=[t,t]/\LS opsL M σ0 W dec i s= .row q/\q<nx0/\val= .row (nx0+i)/\
   yJ P (nx0+i) (FX nx0 (M.getD i 0) W W 0++m0) t q (LS opsL M σ0 W dec i x)=some (ns,r):=by
 unfold Xp4 at h;split at h
 ·rename_i c ho;split at h
  ·rename_i s x t t' hc ha hta;split at h
   ·rename_i htt;have:t=t':=H4 htt;subst this;split at h
    ·rename_i id hs;split at h
     ·rename_i hb;split at h
      ·rename_i ns' r' hap;simp only [HJ,FG] at h;obtain ⟨rfl,rfl,rfl⟩:=h;exact ⟨c,s,x,t,id,ho,hc,ha,hta,hs,by simpa [Aw] using hb,rfl,hap⟩
      ·cases h
     ·cases h
    ·cases h
   ·cases h
  ·cases h
 ·cases h
end
theorem TZ{id:Nat}{m m':H9}{t:TypeId}{s x val:AV}{ns:List Prop}(h:R9 P id m t s x=some (ns,val,m')):val= .row id:=by
 unfold R9 at h;split at h
 ·split at h
  ·split at h
   ·split at h
    ·split at h
     ·simp only [HJ,FG] at h;exact h.2.1.symm
     ·cases h
    ·cases h
   ·cases h
  ·cases h
 ·cases h
theorem Wv2{M:List Nat}{σ0:List AV}{m0:H9}{nx0 mm:Nat}{opsL:List Oper}(D4:P5 P G X opsL M σ0 m0 nx0 mm W dec){i j:Nat}{c:HT}(hc:W[i]? =some c)(ho:i<opsL.length)(hu:c.eat=some j):Qu5 M mm i j=true:=by
 have O:i<W.length:=(FY.1 hc).1;have hg:W.getD i DI=c:=by simp [List.getD,hc]
 obtain ⟨dec',_,h|h⟩:=D4.2 i opsL[i] O (D5 ho)
 ·rcases h.1 with ⟨ns,_,_,hn,_⟩|⟨ns,j',r',hst,he,_⟩|⟨ns,val,r',eat,hst,he,_⟩|⟨t,val,_,he,_⟩|⟨ns,val,eat,hsz,he,_⟩|⟨ns,val,r',_,he,_⟩
  ·rw [hg,hu] at hn;cases hn
  ·rw [hg] at he;subst he;cases hu
  ·rw [hg] at he;subst he;simp only at hu;subst hu;obtain ⟨_,_,_,_,_,_,_,_,_,_,h|h⟩:=yT hst
   ·obtain ⟨j',h1,_,h3⟩:=h;cases h1;exact h3
   ·exact absurd h.1 VZ
  ·rw [hg] at he;subst he;cases hu
  ·rw [hg] at he;subst he;simp only at hu;subst hu;obtain ⟨_,_,_,_,_,hst,_⟩:=SG hsz;obtain ⟨_,_,_,_,_,_,_,_,_,_,h|h⟩:=yT hst
   ·obtain ⟨j',h1,_,h3⟩:=h;cases h1;exact h3
   ·exact absurd h.1 VZ
  ·rw [hg] at he;subst he;cases hu
 ·rw [hg] at h;rw [h.1] at hu;cases hu
theorem sY{X:Ext}(hXc:(∀p∈X.C,Enters P p.1/\ ∀avs t,p.2 avs=some t->US P p.1 avs t)/\(∀p∈X.F,Enters P p.1/\ ∀avs ns T sz n g,p.2 avs=some (ns,T,sz,n,g)->(∀q∈ns,q)->DU P p.1 avs T sz n g)/\ ∀p∈X.D,Enters P p.1/\ ∀avs t,p.2 avs=some t->PR P p.1 avs t){e:UP}{B:Nat}{w:World}{m:H9}{id:Nat}{ρ:Operand->AV}{o:Oper}{a:Act}{t:VR (AV×Option GU)}{val:AV×Option GU}
  (h:mB X id ρ o.op=some t)(ht:t.sat (λr=>r=val))(hE:G6 e B w)(hB:B<=w.heap.size)(hm:UZ e m w)(hid: ¬e.live id)(Z: ∀x,Rep e w (ρ x) (a.eval x)){ro:Option Nat}{n:Nat}
  {K:Act->World->Prop}{Q:Exit->Act->World->Prop}(hK: ∀v w',LQ e B w m id val.1 val.2 v w'->K (a.put o.dst v) w'):o.wpIn (fr ro) n P a w K Q:=by
 obtain ⟨dst,op,type,pos,after,guard⟩:=o;cases op<;>try (simp [mB] at h;done)
 case call c=>
  obtain ⟨callee,args,argTypes⟩:=c;have ha:=U7.ops Z args.toList;cases callee<;>try (simp [mB] at h;done)
  case value f=>
   simp only [mB] at h;have hf:=Z f;split at h
   ·rename_i g first caps hfe
    rw [hfe] at hf;obtain ⟨us,us',hv,r1,r2⟩:=hf.fn_inv;have D4:U7 e w (first++args.toList.map ρ++caps) (us++args.toList.map a.eval++us'):=(r1.append ha).append r2
    split at h
    ·rename_i FS;have DV:Enters P g->(execOp a.eval ⟨dst,.call ⟨.value f,args,argTypes⟩,type,pos,after,guard⟩).run P w= .ok (.enter g (us++args.toList.map a.eval++us').toArray) w:=by
      intro PK;have e1:(us++args.toList.map a.eval++us').toArray=us.toArray++args.map a.eval++us'.toArray:=Array.ext' VZ;simp only [execOp,resolve,hv,Deferred.ofValue,At,Sem.run_pure,Au,invoke];rw [e1];exact LH PK _ w
     have hidf': ∀x∈first++args.toList.map ρ++caps,Idf x:=by
      intro x hx;obtain ⟨i,O⟩:=xF.1 hx;obtain ⟨v,_,rv⟩:=D4.get O;exact kO 6 x v rv (BA.1 FS x hx)
     split at h
     ·rename_i sp hsp;split at h
      ·rename_i tr htr;cases h;obtain ⟨PK,hs⟩:=hXc.1 _ (II hsp);have FM:=hs _ _ htr _ (VR.sat_bind ht) e w _ (λb hb=>(hE.apart b hb).2) hE.glob hidf' D4
       refine HQ (λc h=>by cases h) ?_
       unfold Oper.wp;rw [DV PK,Oper.upon_enter];refine FM.mono λen w' hq=>?_
       obtain ⟨v,rr,rfl,hQ,hb,GQ⟩:=hq;have hQ:(rr,none)=val:=hQ;subst hQ;have st:Step e (e.more w w') w w':=⟨λb hlt Z=>⟨.inl Z,hb.block b hlt⟩,λ_ h=>⟨h,rfl,rfl⟩,hb.size⟩
       have hE':G6 (e.more w w') B w':=by
        refine ⟨?_,λb k hk=>?_,hE.glob.step st⟩
        ·rintro b (Z|⟨h1,h2⟩)
         ·have:=hE.apart b Z;have:=hb.size;exact ⟨(hE.apart b Z).1,VO⟩
         ·refine ⟨?_,h2⟩;cases ho:(e.more w w').own b with
          |none=>rfl
          |some k=>have:=(hE.owned b k ho).2;omega
        ·have:=hE.owned b k hk;have:=hb.size;exact ⟨(hE.owned b k hk).1,VO⟩
       have st2:Step {PM w w' with ro:=(e.more w w').ro} (e.more w w') w' w':=⟨λb _ h=>⟨h,rfl⟩,λ_ h=>False.elim h,Am _⟩
       exact hK _ _ ⟨e.more w w',hb,st,hE',λ_ _ h=>h,GQ.step st2,hm.ext hb st (λ_ _ h=>h),λ_ h=> .inl h,λb h=>h.imp (λh=>h) (λh=>h.1)⟩
      ·cases h
     ·split at h
      ·rename_i sp hsp;split at h
       ·rename_i ns T sz nn l htr;cases h;obtain ⟨PK,hs⟩:=hXc.2.1 _ (Wt0 hsp);have hns:=VR.sat_needT ht;have FM:=hs _ _ _ _ _ _ htr (GH hns.1) e w _ (λb hb=>(hE.apart b hb).2) hE.glob hidf' D4
        refine HQ (λc h=>by cases h) ?_
        unfold Oper.wp;rw [DV PK,Oper.upon_enter];refine FM.mono λen w' hq=>?_
        obtain ⟨v,xs,rfl,hb,k1,k2,k3,k4⟩:=hq;have hQ:((AV.row id,some (GU.row T sz nn l)):AV×Option GU)=val:=hns.2;subst hQ;exact hK _ _ (M0 hE hB hm hid hb k1 k2 k3 k4)
       ·cases h
      ·cases h
    ·cases h
   ·cases h
theorem sX{X:Ext}(hXc:(∀p∈X.C,Enters P p.1/\ ∀avs t,p.2 avs=some t->US P p.1 avs t)/\(∀p∈X.F,Enters P p.1/\ ∀avs ns T sz n g,p.2 avs=some (ns,T,sz,n,g)->(∀q∈ns,q)->DU P p.1 avs T sz n g)/\ ∀p∈X.D,Enters P p.1/\ ∀avs t,p.2 avs=some t->PR P p.1 avs t){e:UP}{B:Nat}{w:World}{m:H9}{id:Nat}{ρ:Operand->AV}{o:Oper}{a:Act}{t:VR (AV×Option GU)}{val:AV×Option GU}
  (h:Qg6 X id m ρ o.op=some t)(ht:t.sat (λr=>r=val))(hE:G6 e B w)(hB:B<=w.heap.size)(hm:UZ e m w)(hid: ¬e.live id)(Z: ∀x,Rep e w (ρ x) (a.eval x)){ro:Option Nat}{n:Nat}
  {K:Act->World->Prop}{Q:Exit->Act->World->Prop}(hK: ∀v w',LQ e B w m id val.1 val.2 v w'->K (a.put o.dst v) w'):o.wpIn (fr ro) n P a w K Q:=by
 unfold Qg6 at h;split at h
 ·rename_i t' hV;cases h;obtain ⟨dst,op,type,pos,after,guard⟩:=o;cases op<;>try (simp [Qg7] at hV;done)
  case call c=>
   obtain ⟨callee,args,argTypes⟩:=c;have ha:=U7.ops Z args.toList;cases callee<;>try (simp [Qg7] at hV;done)
   case value f=>
    simp only [Qg7] at hV;have hf:=Z f;split at hV
    ·rename_i g first caps hfe
     rw [hfe] at hf;obtain ⟨us,us',hv,r1,r2⟩:=hf.fn_inv;have D4:U7 e w (first++args.toList.map ρ++caps) (us++args.toList.map a.eval++us'):=(r1.append ha).append r2
     split at hV
     ·rename_i sp hsp;split at hV
      ·rename_i tr htr;cases hV;obtain ⟨PK,hs⟩:=hXc.2.2 _ (II hsp);have gX:=U7.map (DH m 40) (LE hE hm 40) D4;have FM:=hs _ _ htr _ (VR.sat_bind ht) e.view w _ (by
        rintro b (hb|⟨k,hb⟩)
        ·exact (hE.apart b hb).2
        ·exact (hE.owned b k hb).2) (hE.glob.step (Step.view w)) (DY (RO hm 40) D4) gX
       have DV:(execOp a.eval ⟨dst,.call ⟨.value f,args,argTypes⟩,type,pos,after,guard⟩).run P w= .ok (.enter g (us++args.toList.map a.eval++us').toArray) w:=by
        have e1:(us++args.toList.map a.eval++us').toArray=us.toArray++args.map a.eval++us'.toArray:=Array.ext' VZ;simp only [execOp,resolve,hv,Deferred.ofValue,At,Sem.run_pure,Au,invoke];rw [e1];exact LH PK _ w
       refine HQ (λc h=>by cases h) ?_
       unfold Oper.wp;rw [DV,Oper.upon_enter];refine FM.mono λen w' hq=>?_
       obtain ⟨v,rr,rfl,hQ,hb,GQ⟩:=hq;have hQ:(rr,none)=val:=hQ;subst hQ;exact hK v w' (S9 hE hm hb GQ)
      ·cases hV
     ·cases hV
    ·cases hV
 ·exact sY hXc h ht hE hB hm hid Z hK
theorem Xu6(hG:VP P G)(hXc:(∀p∈X.C,Enters P p.1/\ ∀avs t,p.2 avs=some t->US P p.1 avs t)/\(∀p∈X.F,Enters P p.1/\ ∀avs ns T sz n g,p.2 avs=some (ns,T,sz,n,g)->(∀q∈ns,q)->DU P p.1 avs T sz n g)/\ ∀p∈X.D,Enters P p.1/\ ∀avs t,p.2 avs=some t->PR P p.1 avs t)(jQ:rD s0.σ.length ops.toList ops.toList 0=true){mm:Nat}(D4:P5 P G X ops.toList (HH ops.toList []) s0.σ s0.m s0.nx mm W dec)(D1:W.length=mm)(hmm:mm<=ops.size)(rQ: ∀p∈s0.m,p.1<s0.nx)(hAk:Zc0 s0.nx s0.m W){L:Array Bool}{a:Act}{w:World}{i:Nat}{Q:Exit->Act->World->Prop}
  (hI:uP ops c w0 T s0 W mm L a w)(O:i∈Region.ready .any ops L)(him:i<mm){ro:Option Nat}{n:Nat}:wpOpIn (fr ro) n P ops Q i (λa' w'=>uP ops c w0 T s0 W mm (L.setIfInBounds i true) a' w') a w:=by
 obtain ⟨hin,hun,o,ho,hO⟩:=HW O;obtain ⟨e,hE,hB,hm0,vJ,vH,qD,jA,qV⟩:=hI.rel;have hoL:ops.toList[i]? =some o:=by simpa using ho
 have hni: ¬inS L i:=qB (by rw [hI.size];exact hin) hun
 have s9: ∀k,((HH ops.toList []).getD i 0).testBit k=true->inS L k:=λk hk=>wN hI.dc i o hoL hO k hk
 have Qe8: ∀k,((HH ops.toList []).getD k 0).testBit i=true-> ¬inS L k:=by
  intro k hk hin';rcases An k ops.size with hkn|hkn
  ·have hok:ops.toList[k]? =some ops[k]:=by simp [hkn]
   exact hni (wN hI.dc k _ hok (hI.dc k _ hok hin') i hk)
  ·have:L.getD k false=false:=by
    rw [LV,Array.getElem?_eq_none (by rw [hI.size];exact hkn)];rfl
   unfold inS at hin';rw [this] at hin';cases hin'
 obtain ⟨dec',hdec',yY⟩:=D4.2 i o VO hoL
 -- what the operands are
 have NC: ∀k,inS L k-> ∀t v,DJ t ops.toList 0=some k->a.tmps[t]? =some v->Rep e w ((W.getD k DI).val) v:=by
  intro k hk t v hwt hv;have:=qV t v hv;unfold FC at this;rw [hwt] at this;simp only at this;rw [if_pos (show L.getD k false=true from hk)] at this;exact this
 have hσ: ∀t v,a.tmps[t]? =some v->(∀k,DJ t ops.toList 0=some k-> ¬inS L k)->Rep e w (s0.σ.getD t .top) v:=by
  intro t v hv hno;have:=qV t v hv;unfold FC at this;cases hwt:DJ t ops.toList 0 with
  |none=>rw [hwt] at this;exact this
  |some k=>rw [hwt] at this;simp only at this;rw [if_neg (show ¬L.getD k false=true from hno k hwt)] at this;exact this
 have kP: ∀k,k<i->(W.take i).getD k DI=W.getD k DI:=by
  intro k hk;simp [List.getD,hk]
 have hρ: ∀x,Rep e w (LS ops.toList (HH ops.toList []) s0.σ (W.take i) dec' i x) (a.eval x):=by
  intro x;cases x with
  |tmp t=>
   simp only [Act.eval];cases hv:a.tmps[t]? with
   |none=>
    have hge:s0.σ.length<=t:=by
     rw [←jA];rcases An t a.tmps.size with h'|h'
     ·rw [Array.getElem?_eq_getElem h'] at hv;cases hv
     ·exact h'
    have h0:s0.σ.getD t .top= .top:=by rw [List.getD,Br hge];rfl
    rw [LV,hv];simp only [LS];split
    ·rw [h0];exact .top _
    ·rename_i k hwt;obtain ⟨_,o',ho',hd'⟩:=RH hwt;have:=((PE jQ k o' (by simpa using ho')).1 t hd').2
     omega
   |some v=>
    rw [LV,hv];simp only [GZ,LS];split
    ·rename_i hwt;exact hσ t v hv (λk hk=>by rw [hwt] at hk;cases hk)
    ·rename_i k hwt;split
     ·rename_i hb;have hk:=s9 k hb;have Z:=NC k hk t v hwt hv;simp only [Qu6];cases hld:RU dec' k with
      |some d=>
       have:=(D4.1 k d (hdec' k d hld)).2;rw [this] at Z;exact Z.litOf
      |none=>
       rcases An k i with hki|hki
       ·rw [kP k hki];exact Z
       ·have:(W.take i).getD k DI=DI:=by rw [List.getD,Br (by simp;omega)];rfl
        rw [this];exact .top _
     ·rename_i hb;split
      ·rename_i hb2;refine hσ t v hv (λk' hk'=>?_)
       rw [hwt] at hk';cases hk';simp only [Bl] at hb2;rcases hb2 with h2|h2
       ·rw [H4 h2];exact hni
       ·exact Qe8 k h2
      ·exact .top _
  |const v=>exact rW v
  |global g=>exact .x _
  |func f=>exact .fn (.func f) [] [] [] [] rfl (λi a v h=>by simp at h) rfl (λi a v h=>by simp at h)
 have Wq1: ¬e.live (s0.nx+i):=by
  intro hl;rcases vH _ hl with h|⟨i',h1,h2⟩
  ·omega
  ·have:i'=i:=VO;subst this;exact hni h1
 have lD: ∀i' c' j' r',W[i']? =some c'->c'.upd=some (j',r')->OE (HH ops.toList []) mm i' j'=true:=by
  intro i' c' j' r' h1 h2;exact Wb8 D4 h1 (by have:=(FY.1 h1).1;simp;omega) h2
 have heat: ∀i' c' j',W[i']? =some c'->c'.eat=some j'->Qu5 (HH ops.toList []) mm i' j'=true:=by
  intro i' c' j' h1 h2;exact Wv2 D4 h1 (by have:=(FY.1 h1).1;simp;omega) h2
 have Jh8: ∀j',((HH ops.toList []).getD i 0).testBit j'=true-> ∀i' c' r',inS L i'->W[i']? =some c'->c'.upd≠some (j',r'):=by
  intro j' hj' i' c' r' hi' hc' hu;have:=(B1 (lD i' c' j' r' hc' hu)).2.2 i him (λhe=>hni (he▸hi'))
  rw [this] at hj';cases hj'
 have hmi:UZ e (FX s0.nx ((HH ops.toList []).getD i 0) (W.take i) (W.take i) 0++s0.m) w:=by
  intro p hp;rcases List.mem_append.1 hp with hp|hp
  ·obtain ⟨j,c,h1,h2,h3,h4,h5⟩:=MB hp;simp only [Ap] at h2 h3 h5;have hj:W[j]? =some c:=by
    rw [List.getElem?_take] at h1;split at h1
    ·exact h1
    ·cases h1
   rw [h3];have Zo0: ∀i' ci,inS L i'->W[i']? =some ci->ci.eat≠some j:=by
    intro i' ci hi' hci he;have hne:i≠i':=λhq=>hni (hq▸hi')
    obtain ⟨g1,g2⟩:=(Qu4 (heat i' ci j hci he)).2.2 i him hne h2;have:(W.take i)[i']? =some ci:=by rw [List.getElem?_take,if_pos g2];exact hci
    rw [rV (k0:=0) this he (by simpa using g1)] at h5
    cases h5
   obtain ⟨r'',hh,_,hk⟩:=vJ j c (s9 j h2) hj _ h4 Zo0;rw [hk (Jh8 j h2)] at hh;exact hh
  ·exact hm0 p hp
 have Xl3: ∀(q:Nat) (c:HT) (res r'':GU),W[q]? =some c->c.add=some res->(∀i ci r',inS L i->W[i]? =some ci->ci.upd=some (q,r')->r''=r')->((∀i ci r',inS L i->W[i]? =some ci->ci.upd≠some (q,r'))->r''=res)->(∀k,s0.nx<=k->D0 k r''=false)/\(∀k,D0 k r''=true->D0 k res=true):=by
  intro q c res r'' hc F6 hk1 hk2;rcases Classical.em (∀i ci r',inS L i->W[i]? =some ci->ci.upd≠some (q,r')) with h|h
  ·obtain rfl:=hk2 h;refine ⟨λk hk=>?_,λ_ h=>h⟩
   cases hq:D0 k r'' with
   |false=>rfl
   |true=>have:=hAk.low q c _ k hc F6 hq;omega
  ·have hex: ∃i ci r',inS L i/\W[i]? =some ci/\ci.upd=some (q,r'):=by
    apply Classical.byContradiction;intro hno;exact h (λi ci r' h1 h2 h3=>hno ⟨i,ci,r',h1,h2,h3⟩)
   obtain ⟨i,ci,r',h1,h2,h3⟩:=hex;obtain rfl:=hk1 i ci r' h1 h2 h3;have:=hAk.upd i ci _ _ h2 h3;exact ⟨λk _=>zI this k,λk h=>by rw [zI this k] at h;cases h⟩
 have hiL:i<L.size:=by rw [hI.size];exact hin
 have hoi:W[i]? =some (W.getD i DI):=by
  have:i<W.length:=VO;simp [List.getD,D5 this]
 -- the new frame
 have fin:(W.getD i DI).upd=none-> ∀v w',LQ e w0.heap.size w (FX s0.nx ((HH ops.toList []).getD i 0) (W.take i) (W.take i) 0++s0.m) (s0.nx+i) (W.getD i DI).val (W.getD i DI).add v w'->uP ops c w0 T s0 W mm (L.setIfInBounds i true) (a.put o.dst v) w':=by
  rintro Xl1 v w' ⟨e',hb,st,hE',HC,GQ,hm',hlv,hro⟩;refine ⟨by simp [hI.size],?_,?_,e',hE',hB.trans (hb.mono hB.size),?_,?_,?_,⟨λb hT=>⟨(qD.1 b hT).1,λh=>?_⟩,by rw [put_defers];exact qD.2.step st⟩,?_,?_⟩
  ·intro k o' ho' hk j hj;rw [UU hiL] at hk ⊢;rcases hk with rfl|hk
   ·rw [hoL] at ho';cases ho';exact .inr (hO j hj)
   ·exact .inr (hI.dc k o' ho' hk j hj)
  ·intro k hk;rw [UU hiL] at hk;rcases hk with rfl|hk
   ·exact him
   ·exact hI.lt k hk
  ·exact hm0.ext hb st HC
  ·intro j c hj hc r Z hne;rw [UU hiL] at hj;rcases hj with rfl|hj
   ·rw [hoi] at hc;cases hc;refine ⟨r,hm' (s0.nx+j,r) ?_,?_,λ_=>rfl⟩
    ·rw [Z];exact GK
    ·intro i' ci r' hi' hci hu;exfalso;rw [UU hiL] at hi';rcases hi' with rfl|hi'
     ·rw [hoi] at hci;cases hci;rw [Xl1] at hu;cases hu
     ·exact Qe8 i' (B1 (lD i' ci j r' hci hu)).1 hi'
   ·obtain ⟨r'',hh,hk1,hk2⟩:=vJ j c hj hc r Z (λi' ci hi'=>hne i' ci ((UU hiL).2 (.inr hi')))
    refine ⟨r'',hh.ext hb st HC,?_,λhno=>hk2 (λi' ci r' hi' hci=>hno i' ci r' ((UU hiL).2 (.inr hi')) hci)⟩
    intro i' ci r' hi' hci hu;rw [UU hiL] at hi';rcases hi' with rfl|hi'
    ·rw [hoi] at hci;cases hci;rw [Xl1] at hu;cases hu
    ·exact hk1 i' ci r' hi' hci hu
  ·intro k hk;rcases hlv k hk with hk|rfl
   ·rcases vH k hk with h|⟨i',h1,h2⟩
    ·exact .inl h
    ·exact .inr ⟨i',(UU hiL).2 (.inr h1),h2⟩
   ·exact .inr ⟨i,(UU hiL).2 (.inl rfl),rfl⟩
  ·rcases hro b h with h|h
   ·exact (qD.1 b hT).2 h
   ·have:=(qD.1 b hT).1;have:=hB.size;omega
  ·cases hd:o.dst with
   |none=>exact jA
   |some d=>simp [Act.put,jA]
  ·intro t u hu;have other:o.dst≠some t->a.tmps[t]? =some u->Rep e' w' (FC ops.toList s0.σ W (L.setIfInBounds i true) t) u:=by
    intro hne hu';have:=(qV t u hu').step st;unfold FC at this ⊢;cases hwt:DJ t ops.toList 0 with
    |none=>rw [hwt] at this;exact this
    |some k=>
     rw [hwt] at this;simp only at this ⊢;have hki:k≠i:=by
      rintro rfl;obtain ⟨_,o',ho',hd'⟩:=RH hwt;simp only [Nat.sub_zero] at ho';rw [hoL] at ho';cases ho';exact hne hd'
     have e1:(L.setIfInBounds i true).getD k false=L.getD k false:=by
      simp [LV,Ne.symm hki]
     rw [e1];exact this
   cases hd:o.dst with
   |none=>rw [hd] at hu;exact other (by rw [hd];simp) hu
   |some d=>
    rw [hd] at hu;simp only [Act.put,Array.getElem?_setIfInBounds] at hu;by_cases hdt:d=t
    ·subst hdt;obtain ⟨hw1,hw2⟩:=(PE jQ i o hoL).1 d hd;rw [if_pos rfl,if_pos (by rw [jA];exact hw2)] at hu
     cases hu;unfold FC;rw [hw1];simp only [Ap];rw [if_pos (show (L.setIfInBounds i true).getD i false=true from (UU hiL).2 (.inl rfl))];exact GQ
    ·rw [if_neg hdt] at hu;exact other (by rw [hd];simpa using hdt) hu
 have guardRun: ∀j want t b,o.guard=some (j,want)->DZ ops.toList o=some t->LS ops.toList (HH ops.toList []) s0.σ (W.take i) dec' i (.tmp t)= .lit b->yielded ops a.tmps j=some b:=by
  intro j want t b hg hgs hl;have Z:=hρ (.tmp t);rw [hl] at Z;have hev:=Z.lit_inv;simp only [Act.eval] at hev;have hgt:a.tmps[t]? =some (.bool b):=by
   cases hq:a.tmps[t]? with
   |none=>rw [LV,hq] at hev;simp [undef] at hev
   |some v=>rw [LV,hq] at hev;simpa using hev
  unfold DZ at hgs;rw [hg] at hgs;simp only at hgs;split at hgs
  ·rename_i p hp;have hp':ops[j]? =some p:=by simpa using hp
   unfold yielded;simp [hp',hgs,hgt]
  ·cases hgs
 have guardTup: ∀j want t l,o.guard=some (j,want)->DZ ops.toList o=some t->LS ops.toList (HH ops.toList []) s0.σ (W.take i) dec' i (.tmp t)= .tup l->yielded ops a.tmps j=none:=by
  intro j want t l hg hgs hl;have Z:=hρ (.tmp t);rw [hl] at Z;obtain ⟨vs,hv,_⟩:=Z.tup_inv;simp only [Act.eval] at hv;unfold DZ at hgs;rw [hg] at hgs;simp only at hgs;split at hgs
  ·rename_i p hp;have hp':ops[j]? =some p:=by simpa using hp
   unfold yielded;simp only [hp',hgs,Option.bind_some];cases hq:a.tmps[t]? with
   |none=>rfl
   |some v=>
    rw [LV,hq] at hv;simp only [GZ] at hv;subst hv;rfl
  ·cases hgs
 unfold wpOpIn;simp only [ho];rcases yY with ⟨DV,hg⟩|⟨hno,j,want,t,hg,hgs,hl⟩
 ·have hw:Region.wanted o (yielded ops a.tmps)=true:=by
   rcases hg with hg|⟨j,want,t,hg,hgs,hl⟩
   ·simp [Region.wanted,hg]
   ·simp [Region.wanted,hg,guardRun j want t want hg hgs hl]
  rw [if_pos hw];rcases DV with ⟨ns,Xm2,Xl1,_,hns⟩|⟨ns,j,r,hst,hU,hns⟩|⟨ns,val,r,eat,hap,hU,hns⟩|⟨tC,valC,hcd,Wp9,Jh2⟩|⟨ns,val,eat,hapz,hU,hns⟩|⟨ns,val,r,hape,hU,hns⟩
  rotate_left 3
  ·have hu:(W.getD i DI).upd=none:=by rw [Wp9]
   have hv:(W.getD i DI).val=valC.1:=by rw [Wp9]
   have hd:(W.getD i DI).add=valC.2:=by rw [Wp9]
   have fin':=fin hu;rw [hv,hd] at fin';exact sX hXc hcd Jh2 hE hB.size hmi Wq1 hρ fin'
  ·-- an append whose result nobody writes
   obtain ⟨v0,T0,sz0,n0,f0,hap,Jg8⟩:=SG hapz;subst Jg8;obtain ⟨cc,s,x,t,tl,hop,d7,hca,hta,IE,Wq5⟩:=yT hap;obtain ⟨callee,cargs,cats⟩:=cc;simp only at d7 hca hta;have hca':cargs=#[s,x]:=Array.ext' (by simpa using hca)
   have hta':cats=#[t,t]:=Array.ext' (by simpa using hta)
   subst hca';subst hta';subst d7;obtain ⟨u,w',DV,⟨e1,fG,st1,hE1,gZ,hF,hlv1,hro1⟩,_⟩:=qS (P:=P) (ty:=o.type) IE hns hE hB.size hmi Wq1 (hρ s) (hρ x);obtain rfl:=TZ IE;have lC:GL e1 w' (s0.nx+i) (.row T0 sz0 n0 f0):=hF _ _ (.inl ⟨⟨_,rfl⟩,rfl⟩);have GQ:Rep (e1.sol (s0.nx+i)) w' (.lst sz0 n0 f0) u:=by
    cases gZ with
    |row _ a n c hl hv=>
     rw [←hv];exact eG hE1 lC (λ_ h=> .inl h) (λ_ h=> .inr h)
   obtain ⟨e',he'⟩: ∃e',e'=e1.sol (s0.nx+i):=⟨_,rfl⟩;have st:Step e e' w w':=by rw [he'];exact st1.trans (Step.sol e1 _ w')
   have hE':G6 e' w0.heap.size w':=by rw [he'];exact hE1.sol _
   rw [←he'] at GQ;have hlv: ∀k,e'.live k->e.live k\/k=s0.nx+i:=by rw [he'];exact hlv1
   have hro: ∀b,e'.ro b->e.ro b\/w0.heap.size<=b:=by
    intro b hb;rw [he'] at hb;rcases hb with hb|hb
    ·exact .inl (hro1 b hb)
    ·exact .inr (hE1.owned b _ hb).1
   have z7: ∀(k:Nat) (res:GU),(k≠s0.nx+i/\D0 (s0.nx+i) res=false)->(∀j,eat=some j->k≠s0.nx+j/\D0 (s0.nx+j) res=false)->GL e w k res->GL e' w' k res:=by
    intro k res hki hk hh;rw [he'];refine GL.sol hki ?_;refine hF k res (.inr ⟨hh,λq hq=>?_⟩)
    rcases Wq5 with ⟨j,h1,h2,_⟩|⟨_,v,h2⟩
    ·rw [h2] at hq;cases hq;exact hk j h1
    ·rw [h2] at hq;cases hq
   have hout':W[i]? =some ⟨.lst sz0 n0 f0,none,none,eat⟩:=by rw [hoi,hU]
   have hnew':uP ops c w0 T s0 W mm (L.setIfInBounds i true) (a.put o.dst u) w':=by
    refine ⟨by simp [hI.size],?_,?_,e',hE',hB.trans fG,?_,?_,?_,⟨λb hT=>⟨(qD.1 b hT).1,λh=>?_⟩,by rw [put_defers];exact qD.2.step st⟩,?_,?_⟩
    ·intro k o' ho' hk q hq;rw [UU hiL] at hk ⊢;rcases hk with rfl|hk
     ·rw [hoL] at ho';cases ho';exact .inr (hO q hq)
     ·exact .inr (hI.dc k o' ho' hk q hq)
    ·intro k hk;rw [UU hiL] at hk;rcases hk with rfl|hk
     ·exact him
     ·exact hI.lt k hk
    ·intro p hp;exact z7 p.1 p.2 ⟨by have:=rQ p hp;omega,zI (hAk.m0 p hp) _⟩ (λj _=>⟨by have:=rQ p hp;omega,zI (hAk.m0 p hp) _⟩) (hm0 p hp)
    ·intro q c hq hc res F6 hne;rw [UU hiL] at hq;rcases hq with rfl|hq
     ·rw [hout'] at hc;cases hc;cases F6
     ·obtain ⟨r'',hh,hk1,hk2⟩:=vJ q c hq hc res F6 (λi' ci hi'=>hne i' ci ((UU hiL).2 (.inr hi')))
      have hqi:q≠i:=λh=>hni (h▸hq)
      have hna:=(Xl3 q c res r'' hc F6 hk1 hk2).1;refine ⟨r'',z7 _ _ ⟨VO,hna _ VO⟩ (λj hj=>⟨λhe=>?_,hna _ VO⟩) hh,?_,λhno=>hk2 (λi' ci r' hi' hci=>hno i' ci r' ((UU hiL).2 (.inr hi')) hci)⟩
      ·have hqj:q=j:=VO;exact hne i _ ((UU hiL).2 (.inl rfl)) hout' (by rw [hqj];exact hj)
      ·intro i' ci r' hi' hci hu;rw [UU hiL] at hi';rcases hi' with rfl|hi'
       ·rw [hout'] at hci;cases hci;cases hu
       ·exact hk1 i' ci r' hi' hci hu
    ·intro k hk;rcases hlv k hk with hk|rfl
     ·rcases vH k hk with h|⟨i',h1,h2⟩
      ·exact .inl h
      ·exact .inr ⟨i',(UU hiL).2 (.inr h1),h2⟩
     ·exact .inr ⟨i,(UU hiL).2 (.inl rfl),rfl⟩
    ·rcases hro b h with h|h
     ·exact (qD.1 b hT).2 h
     ·have:=(qD.1 b hT).1;omega
    ·cases hd:o.dst with
     |none=>exact jA
     |some d=>simp [Act.put,jA]
    ·intro q v hu;have other:o.dst≠some q->a.tmps[q]? =some v->Rep e' w' (FC ops.toList s0.σ W (L.setIfInBounds i true) q) v:=by
      intro hne hu';have:=(qV q v hu').step st;unfold FC at this ⊢;cases hwt:DJ q ops.toList 0 with
      |none=>rw [hwt] at this;exact this
      |some k=>
       rw [hwt] at this;simp only at this ⊢;have hki:k≠i:=by
        rintro rfl;obtain ⟨_,o',ho',hd'⟩:=RH hwt;simp only [Nat.sub_zero] at ho';rw [hoL] at ho';cases ho';exact hne hd'
       have e1:(L.setIfInBounds i true).getD k false=L.getD k false:=by
        simp [LV,Ne.symm hki]
       rw [e1];exact this
     cases hd:o.dst with
     |none=>rw [hd] at hu;exact other (by rw [hd];simp) hu
     |some d=>
      rw [hd] at hu;simp only [Act.put,Array.getElem?_setIfInBounds] at hu;by_cases hdt:d=q
      ·subst hdt;obtain ⟨hw1,hw2⟩:=(PE jQ i o hoL).1 d hd;rw [if_pos rfl,if_pos (by rw [jA];exact hw2)] at hu
       cases hu;unfold FC;rw [hw1];simp only [Ap];rw [if_pos (show (L.setIfInBounds i true).getD i false=true from (UU hiL).2 (.inl rfl)),hU];exact GQ
      ·rw [if_neg hdt] at hu;exact other (by rw [hd];simpa using hdt) hu
   refine HQ (λc h=>by rw [hop] at h;cases h) ?_
   refine D8 (v:=u) (w':=w') ?_ hnew';obtain ⟨dst,op,type,pos,after,guard⟩:=o;simp only at hop;subst hop;simp [execOp,resolve,invoke,builtin,DV]
  ·-- an append to a row that stays
   obtain ⟨cc,s,x,t,q0,hop,d7,hca,hta,hsq,hq0,rfl,IE⟩:=Qw3 hape;obtain ⟨callee,cargs,cats⟩:=cc;simp only at d7 hca hta;have hca':cargs=#[s,x]:=Array.ext' (by simpa using hca)
   have hta':cats=#[t,t]:=Array.ext' (by simpa using hta)
   subst hca';subst hta';subst d7;have rs:=hρ s;rw [hsq] at rs;obtain ⟨T0,sz0,n0,f0,hr0,hmq,u,w',DV,⟨e',fG,st,hE',GQ,hF,hlv,hro⟩⟩:=A8 (P:=P) (ty:=o.type) IE hns hE hB.size hmi Wq1 rs (hρ x);subst hr0;have z7: ∀(k:Nat) (res:GU),(k=q0->gD T0 sz0 res=true)->D0 q0 res=false->GL e w k res->GL e' w' k res:=by
    intro k res hk1 hk2 hh;exact hF k res (.inr ⟨hh,hk1,hk2⟩)
   have lC:GL e' w' (s0.nx+i) (.aka q0 T0 sz0 n0 f0):=hF _ _ (.inl ⟨rfl,rfl⟩);have hout':W[i]? =some ⟨.row (s0.nx+i),some (.aka q0 T0 sz0 n0 f0),none,none⟩:=by rw [hoi,hU]
   have hnew':uP ops c w0 T s0 W mm (L.setIfInBounds i true) (a.put o.dst u) w':=by
    refine ⟨by simp [hI.size],?_,?_,e',hE',hB.trans fG,?_,?_,?_,⟨λb hT=>⟨(qD.1 b hT).1,λh=>(qD.1 b hT).2 (hro b h)⟩,by rw [put_defers];exact qD.2.step st⟩,?_,?_⟩
    ·intro k o' ho' hk q hq;rw [UU hiL] at hk ⊢;rcases hk with rfl|hk
     ·rw [hoL] at ho';cases ho';exact .inr (hO q hq)
     ·exact .inr (hI.dc k o' ho' hk q hq)
    ·intro k hk;rw [UU hiL] at hk;rcases hk with rfl|hk
     ·exact him
     ·exact hI.lt k hk
    ·intro p hp;have hq:=hmq p (As _ hp);exact z7 p.1 p.2 hq.1 hq.2 (hm0 p hp)
    ·intro q c hq hc res F6 hne;rw [UU hiL] at hq;rcases hq with rfl|hq
     ·rw [hout'] at hc;cases hc;cases F6;refine ⟨_,lC,?_,λ_=>rfl⟩
      intro i' ci r' hi' hci hu;exfalso;rw [UU hiL] at hi';rcases hi' with rfl|hi'
      ·rw [hout'] at hci;cases hci;cases hu
      ·exact Qe8 i' (B1 (lD i' ci q r' hci hu)).1 hi'
     ·obtain ⟨r'',hh,hk1,hk2⟩:=vJ q c hq hc res F6 (λi' ci hi'=>hne i' ci ((UU hiL).2 (.inr hi')))
      have hna:=(Xl3 q c res r'' hc F6 hk1 hk2).2;have hqi:q≠i:=λh=>hni (h▸hq)
      have hqa:D0 q0 r''=false:=by
       cases h5:D0 q0 r'' with
       |false=>rfl
       |true=>exact absurd (hAk.one q i c _ res _ q0 hc hout' F6 rfl (hna q0 h5) (Nat.beq_refl q0)) hqi
      refine ⟨r'',z7 _ _ (λh=>VO) hqa hh,?_,λhno=>hk2 (λi' ci r' hi' hci=>hno i' ci r' ((UU hiL).2 (.inr hi')) hci)⟩
      ·intro i' ci r' hi' hci hu;rw [UU hiL] at hi';rcases hi' with rfl|hi'
       ·rw [hout'] at hci;cases hci;cases hu
       ·exact hk1 i' ci r' hi' hci hu
    ·intro k hk;rcases hlv k hk with hk|rfl
     ·rcases vH k hk with h|⟨i',h1,h2⟩
      ·exact .inl h
      ·exact .inr ⟨i',(UU hiL).2 (.inr h1),h2⟩
     ·exact .inr ⟨i,(UU hiL).2 (.inl rfl),rfl⟩
    ·cases hd:o.dst with
     |none=>exact jA
     |some d=>simp [Act.put,jA]
    ·intro q v hu;have other:o.dst≠some q->a.tmps[q]? =some v->Rep e' w' (FC ops.toList s0.σ W (L.setIfInBounds i true) q) v:=by
      intro hne hu';have:=(qV q v hu').step st;unfold FC at this ⊢;cases hwt:DJ q ops.toList 0 with
      |none=>rw [hwt] at this;exact this
      |some k=>
       rw [hwt] at this;simp only at this ⊢;have hki:k≠i:=by
        rintro rfl;obtain ⟨_,o',ho',hd'⟩:=RH hwt;simp only [Nat.sub_zero] at ho';rw [hoL] at ho';cases ho';exact hne hd'
       have e1:(L.setIfInBounds i true).getD k false=L.getD k false:=by
        simp [LV,Ne.symm hki]
       rw [e1];exact this
     cases hd:o.dst with
     |none=>rw [hd] at hu;exact other (by rw [hd];simp) hu
     |some d=>
      rw [hd] at hu;simp only [Act.put,Array.getElem?_setIfInBounds] at hu;by_cases hdt:d=q
      ·subst hdt;obtain ⟨hw1,hw2⟩:=(PE jQ i o hoL).1 d hd;rw [if_pos rfl,if_pos (by rw [jA];exact hw2)] at hu
       cases hu;unfold FC;rw [hw1];simp only [Ap];rw [if_pos (show (L.setIfInBounds i true).getD i false=true from (UU hiL).2 (.inl rfl)),hU];exact GQ
      ·rw [if_neg hdt] at hu;exact other (by rw [hd];simpa using hdt) hu
   refine HQ (λc h=>by rw [hop] at h;cases h) ?_
   refine D8 (v:=u) (w':=w') ?_ hnew';obtain ⟨dst,op,type,pos,after,guard⟩:=o;simp only at hop;subst hop;simp [execOp,resolve,invoke,builtin,DV]
  ·exact HQ (gM Xm2) (SH hG Xm2 hns hE hB.size hmi Wq1 hρ (fin Xl1))
  ·-- a store into a block that the region has laid
   obtain ⟨t,x,y,off,m',hop,hx,hln,IE,hgm⟩:=rF hst;obtain ⟨hl1,hl2,hl3⟩:=B1 hln;have rx:=hρ x;rw [hx] at rx;obtain ⟨w',DV,HC,hsz,L2,fG,hm'⟩:=rL (P:=P) IE hns hE hmi rx (hρ y);have st:=FA hE HC hsz L2;have hE':=L7 hE hsz st;have z7: ∀(k:Nat) (res:GU),(k≠s0.nx+j/\D0 (s0.nx+j) res=false)->GL e w k res->GL e w' k res:=λk res hne hh=>P9 hE HC hsz L2 hne hh
   have hjS:=s9 j hl1;have hnew':uP ops c w0 T s0 W mm (L.setIfInBounds i true) (a.put o.dst undef) w':=by
    refine ⟨by simp [hI.size],?_,?_,e,hE',hB.trans fG,?_,?_,?_,⟨qD.1,by rw [put_defers];exact qD.2.step st⟩,?_,?_⟩
    ·intro k o' ho' hk q hq;rw [UU hiL] at hk ⊢;rcases hk with rfl|hk
     ·rw [hoL] at ho';cases ho';exact .inr (hO q hq)
     ·exact .inr (hI.dc k o' ho' hk q hq)
    ·intro k hk;rw [UU hiL] at hk;rcases hk with rfl|hk
     ·exact him
     ·exact hI.lt k hk
    ·intro p hp;exact z7 p.1 p.2 ⟨by have:=rQ p hp;omega,zI (hAk.m0 p hp) _⟩ (hm0 p hp)
    ·intro q c hq hc res F6 hne;rw [UU hiL] at hq;have hqS:inS L q:=by
      rcases hq with rfl|hq
      ·rw [hoi,hU] at hc;cases hc;cases F6
      ·exact hq
     obtain ⟨r'',hh,hk1,hk2⟩:=vJ q c hqS hc res F6 (λi' ci hi'=>hne i' ci ((UU hiL).2 (.inr hi')))
     by_cases hqj:q=j
     ·subst hqj;refine ⟨r,hm' (s0.nx+q,r) (G5 hgm),?_,?_⟩
      ·intro i' ci r' hi' hci hu;by_cases hii:i'=i
       ·subst hii;rw [hoi,hU] at hci;cases hci;simp only [HJ,FG] at hu;exact hu.2
       ·exfalso;have:=(B1 (lD i' ci q r' hci hu)).2.2 i him (λhe=>hii he.symm)
        rw [this] at hl1;cases hl1
      ·intro hno;exact absurd (show (W.getD i DI).upd=some (q,r) by rw [hU]) (hno i _ r ((UU hiL).2 (.inl rfl)) hoi)
     ·refine ⟨r'',z7 _ _ ⟨VO,(Xl3 q c res r'' hc F6 hk1 hk2).1 _ VO⟩ hh,?_,λhno=>hk2 (λi' ci r' hi' hci=>hno i' ci r' ((UU hiL).2 (.inr hi')) hci)⟩
      intro i' ci r' hi' hci hu;rw [UU hiL] at hi';rcases hi' with rfl|hi'
      ·rw [hoi,hU] at hci;cases hci;simp only [HJ,FG] at hu;exact absurd hu.1.symm hqj
      ·exact hk1 i' ci r' hi' hci hu
    ·intro k hk;rcases vH k hk with h|⟨i',h1,h2⟩
     ·exact .inl h
     ·exact .inr ⟨i',(UU hiL).2 (.inr h1),h2⟩
    ·cases hd:o.dst with
     |none=>exact jA
     |some d=>simp [Act.put,jA]
    ·intro q u hu;have other:o.dst≠some q->a.tmps[q]? =some u->Rep e w' (FC ops.toList s0.σ W (L.setIfInBounds i true) q) u:=by
      intro hne hu';have:=(qV q u hu').step st;unfold FC at this ⊢;cases hwt:DJ q ops.toList 0 with
      |none=>rw [hwt] at this;exact this
      |some k=>
       rw [hwt] at this;simp only at this ⊢;have hki:k≠i:=by
        rintro rfl;obtain ⟨_,o',ho',hd'⟩:=RH hwt;simp only [Nat.sub_zero] at ho';rw [hoL] at ho';cases ho';exact hne hd'
       have e1:(L.setIfInBounds i true).getD k false=L.getD k false:=by
        simp [LV,Ne.symm hki]
       rw [e1];exact this
     cases hd:o.dst with
     |none=>rw [hd] at hu;exact other (by rw [hd];simp) hu
     |some d=>
      rw [hd] at hu;simp only [Act.put,Array.getElem?_setIfInBounds] at hu;by_cases hdt:d=q
      ·subst hdt;obtain ⟨hw1,hw2⟩:=(PE jQ i o hoL).1 d hd;unfold FC;rw [hw1];simp only [Ap];rw [if_pos (show (L.setIfInBounds i true).getD i false=true from (UU hiL).2 (.inl rfl)),hU];exact .top _
      ·rw [if_neg hdt] at hu;exact other (by rw [hd];simpa using hdt) hu
   refine HQ (λc h=>by rw [hop] at h;cases h) ?_
   unfold Oper.wp;have hex:(execOp a.eval o).run P w= .ok .skip w':=by
    obtain ⟨dst,op,type,pos,after,guard⟩:=o;simp only at hop;subst hop;simp [execOp,DV]
   rw [hex];exact hnew'
  ·-- an append
   obtain ⟨cc,s,x,t,tl,hop,d7,hca,hta,IE,Wq5⟩:=yT hap;obtain ⟨callee,cargs,cats⟩:=cc;simp only at d7 hca hta;have hca':cargs=#[s,x]:=Array.ext' (by simpa using hca)
   have hta':cats=#[t,t]:=Array.ext' (by simpa using hta)
   subst hca';subst hta';subst d7;obtain ⟨u,w',DV,⟨e',fG,st,hE',GQ,hF,hlv,hro⟩,_⟩:=qS (P:=P) (ty:=o.type) IE hns hE hB.size hmi Wq1 (hρ s) (hρ x);have z7: ∀(k:Nat) (res:GU),(∀j,eat=some j->k≠s0.nx+j/\D0 (s0.nx+j) res=false)->GL e w k res->GL e' w' k res:=by
    intro k res hk hh;refine hF k res (.inr ⟨hh,λq hq=>?_⟩)
    rcases Wq5 with ⟨j,h1,h2,_⟩|⟨_,v,h2⟩
    ·rw [h2] at hq;cases hq;exact hk j h1
    ·rw [h2] at hq;cases hq
   have lC:GL e' w' (s0.nx+i) r:=hF _ _ (.inl ⟨⟨_,rfl⟩,rfl⟩);have hout':W[i]? =some ⟨val,some r,none,eat⟩:=by rw [hoi,hU]
   have hnew':uP ops c w0 T s0 W mm (L.setIfInBounds i true) (a.put o.dst u) w':=by
    refine ⟨by simp [hI.size],?_,?_,e',hE',hB.trans fG,?_,?_,?_,⟨λb hT=>⟨(qD.1 b hT).1,λh=>(qD.1 b hT).2 (hro b h)⟩,by rw [put_defers];exact qD.2.step st⟩,?_,?_⟩
    ·intro k o' ho' hk q hq;rw [UU hiL] at hk ⊢;rcases hk with rfl|hk
     ·rw [hoL] at ho';cases ho';exact .inr (hO q hq)
     ·exact .inr (hI.dc k o' ho' hk q hq)
    ·intro k hk;rw [UU hiL] at hk;rcases hk with rfl|hk
     ·exact him
     ·exact hI.lt k hk
    ·intro p hp;exact z7 p.1 p.2 (λj _=>⟨by have:=rQ p hp;omega,zI (hAk.m0 p hp) _⟩) (hm0 p hp)
    ·intro q c hq hc res F6 hne;rw [UU hiL] at hq;rcases hq with rfl|hq
     ·rw [hout'] at hc;cases hc;cases F6;refine ⟨r,lC,?_,λ_=>rfl⟩
      intro i' ci r' hi' hci hu;exfalso;rw [UU hiL] at hi';rcases hi' with rfl|hi'
      ·rw [hout'] at hci;cases hci;cases hu
      ·exact Qe8 i' (B1 (lD i' ci q r' hci hu)).1 hi'
     ·obtain ⟨r'',hh,hk1,hk2⟩:=vJ q c hq hc res F6 (λi' ci hi'=>hne i' ci ((UU hiL).2 (.inr hi')))
      have hna:=(Xl3 q c res r'' hc F6 hk1 hk2).1;refine ⟨r'',z7 _ _ (λj hj=>⟨λhe=>?_,hna _ VO⟩) hh,?_,λhno=>hk2 (λi' ci r' hi' hci=>hno i' ci r' ((UU hiL).2 (.inr hi')) hci)⟩
      ·have hqj:q=j:=VO;exact hne i _ ((UU hiL).2 (.inl rfl)) hout' (by rw [hqj];exact hj)
      ·intro i' ci r' hi' hci hu;rw [UU hiL] at hi';rcases hi' with rfl|hi'
       ·rw [hout'] at hci;cases hci;cases hu
       ·exact hk1 i' ci r' hi' hci hu
    ·intro k hk;rcases hlv k hk with hk|rfl
     ·rcases vH k hk with h|⟨i',h1,h2⟩
      ·exact .inl h
      ·exact .inr ⟨i',(UU hiL).2 (.inr h1),h2⟩
     ·exact .inr ⟨i,(UU hiL).2 (.inl rfl),rfl⟩
    ·cases hd:o.dst with
     |none=>exact jA
     |some d=>simp [Act.put,jA]
    ·intro q v hu;have other:o.dst≠some q->a.tmps[q]? =some v->Rep e' w' (FC ops.toList s0.σ W (L.setIfInBounds i true) q) v:=by
      intro hne hu';have:=(qV q v hu').step st;unfold FC at this ⊢;cases hwt:DJ q ops.toList 0 with
      |none=>rw [hwt] at this;exact this
      |some k=>
       rw [hwt] at this;simp only at this ⊢;have hki:k≠i:=by
        rintro rfl;obtain ⟨_,o',ho',hd'⟩:=RH hwt;simp only [Nat.sub_zero] at ho';rw [hoL] at ho';cases ho';exact hne hd'
       have e1:(L.setIfInBounds i true).getD k false=L.getD k false:=by
        simp [LV,Ne.symm hki]
       rw [e1];exact this
     cases hd:o.dst with
     |none=>rw [hd] at hu;exact other (by rw [hd];simp) hu
     |some d=>
      rw [hd] at hu;simp only [Act.put,Array.getElem?_setIfInBounds] at hu;by_cases hdt:d=q
      ·subst hdt;obtain ⟨hw1,hw2⟩:=(PE jQ i o hoL).1 d hd;rw [if_pos rfl,if_pos (by rw [jA];exact hw2)] at hu
       cases hu;unfold FC;rw [hw1];simp only [Ap];rw [if_pos (show (L.setIfInBounds i true).getD i false=true from (UU hiL).2 (.inl rfl)),hU];exact GQ
      ·rw [if_neg hdt] at hu;exact other (by rw [hd];simpa using hdt) hu
   refine HQ (λc h=>by rw [hop] at h;cases h) ?_
   refine D8 (v:=u) (w':=w') ?_ hnew';obtain ⟨dst,op,type,pos,after,guard⟩:=o;simp only at hop;subst hop;simp [execOp,resolve,invoke,builtin,DV]
 ·have hw: ¬Region.wanted o (yielded ops a.tmps)=true:=by
   cases hv:LS ops.toList (HH ops.toList []) s0.σ (W.take i) dec' i (.tmp t) with
   |lit b=>
    rw [hv] at hl;simp [e7] at hl;simp [Region.wanted,hg,guardRun j want t b hg hgs hv,hl]
   |tup l=>simp [Region.wanted,hg,guardTup j want t l hg hgs hv]
   |_=>rw [hv] at hl;simp [e7] at hl
  rw [if_neg hw];refine ⟨λ_ _=>trivial,fin (by rw [hno];rfl) undef w ?_⟩
  rw [hno];exact UQ hE hmi (NP _ _)
end
theorem F9.drew{c:Cx}{w0:World}{T:Nat->Prop}{e:UP}{s:St}{a:Act}{w:World}(r:F9 c w0 T e s a w):F9 c w0 T e s a {w with drawn:=w.drawn+1}:=by
 have st:Step e e w {w with drawn:=w.drawn+1}:=⟨λ_ _ h=>⟨h,rfl⟩,λ_ h=>⟨h,rfl,rfl⟩,Am _⟩
 have hb:Below w.heap.size w {w with drawn:=w.drawn+1}:=⟨rfl,rfl,rfl,Am _,λ_ _=>rfl⟩
 exact ⟨⟨r.env.apart,r.env.owned,r.env.glob.step st⟩,r.below.trans (hb.mono r.hB),r.mem.ext hb st (λ_ _ h=>h),r.live,r.foe,r.xt.step st,r.slots.step st⟩
def Zj2{α:Type}(suf:List Oper->St->VR α)(P:Program)(G:List (Nat×Spec))(X:Ext)(ops:List Oper)(s:St):VR α:=
 match rD s.σ.length ops ops 0 with
 |false=> .fail
 |true=>(jT P G X ops (HH ops []) s.σ s.m s.nx (qC (HH ops []) ops.length) (ops.take (qC (HH ops []) ops.length)) 0 [] []).bind λp=>match uN s.nx s.m p.1 with
  |false=> .fail
  |true=>suf (ops.drop (qC (HH ops []) ops.length))
   {s with σ:=d9 ops (qC (HH ops []) ops.length) p.1 p.2 s.σ 0,m:=RZ s.nx p.1 p.1 0++s.m,nx:=s.nx+qC (HH ops []) ops.length}
section
variable {P:Program}{G:List (Nat×Spec)}{X:Ext}{ops:Array Oper}{c:Cx}{w0:World}{T:Nat->Prop}{s0:St}{W:List HT}{dec:List (Nat×Bool)}
theorem xL{σ:List AV}{t:Nat}{v:AV}(h:σ[t]? =some v):σ.getD t .top=v:=by simp [List.getD,h]
theorem iT{mm:Nat}(D4:P5 P G X ops.toList (HH ops.toList []) s0.σ s0.m s0.nx mm W dec)(D1:W.length=mm){L:Array Bool}{a:Act}{w:World}
  (hΦ:c.Φ s0.gh T w0)(hI:uP ops c w0 T s0 W mm L a w)(PJ: ∀k,k<mm->inS L k):
  Rel c {s0 with σ:=d9 ops.toList mm W dec s0.σ 0,m:=RZ s0.nx W W 0++s0.m,nx:=s0.nx+mm} a w:=by
 obtain ⟨e,hE,hB,hm0,vJ,vH,qD,jA,qV⟩:=hI.rel;refine ⟨w0,T,e,hΦ,hE,hB,?_,?_,qD.1,qD.2,?_,?_⟩
 ·intro p hp;rcases List.mem_append.1 hp with hp|hp
  ·obtain ⟨j,c,r,h1,h3,h4,h5,h6⟩:=y5 hp;simp only [Ap] at h3 h5 h6;have hj:j<mm:=by rw [←D1];exact (FY.1 h1).1
   rw [h3,h5];obtain ⟨r'',hh,hk1,hk2⟩:=vJ j c (PJ j hj) h1 _ h4 (λi' ci _ hci he=>by rw [fQ hci he] at h6;cases h6)
   cases hu:jP W j with
   |some r'=>
    obtain ⟨i',ci,hi',hui⟩:=zL hu;have hi'm:i'<mm:=by rw [←D1];exact (FY.1 hi').1
    rw [←hk1 i' ci r' (PJ i' hi'm) hi' hui];exact hh
   |none=>
    rw [←hk2 (λi' ci r' _ hci=>zM hu i' ci r' hci)];exact hh
  ·exact hm0 p hp
 ·intro k hk;show k<s0.nx+mm;rcases vH k hk with h|⟨i,h1,h2⟩
  ·omega
  ·have:=hI.lt i h1;omega
 ·rw [wT];simpa using jA.symm
 ·intro t av v hav hv;rw [IU] at hav;have hv':a.tmps[t]? =some v:=by simpa using hv
  rw [Ay] at hav;obtain ⟨a0,ha0,rfl⟩:=hav;have hs:=qV t v hv';unfold FC at hs;unfold Xm7;simp only [Ap];cases hwt:DJ t ops.toList 0 with
  |none=>rw [hwt] at hs;simp only at hs ⊢;rw [xL ha0] at hs;exact hs
  |some k=>
   rw [hwt] at hs;simp only at hs ⊢;split
   ·rename_i hb;have hk:k<mm:=by simpa [Aw] using hb
    rw [if_pos (show L.getD k false=true from PJ k hk)] at hs;simp only [Qu6];cases hld:RU dec k with
    |some d=>
     have:=(D4.1 k d hld).2;rw [this] at hs;exact hs.litOf
    |none=>exact hs
   ·rename_i hb;have hk: ¬k<mm:=λh=>by
     have h':Nat.blt k mm=true:=by rw [Aw];exact h
     rw [h'] at hb;cases hb
    rw [if_neg (show ¬L.getD k false=true from λh=>hk (hI.lt k h)),xL ha0] at hs
    exact hs
def Zp2(n k:Nat)(L:Array Bool):Prop:=L.size=n/\ ∀j,inS L j↔j<k
theorem Qy1{ro:Option Nat}{n:Nat}{Q:Exit->Act->World->Prop}{i:Nat}{rest:List Nat}{a:Act}{w:World}(h:wpOpsIn (fr ro) n P ops Q (i::rest) a w):wpOpIn (fr ro) n P ops Q i (wpOpsIn (fr ro) n P ops Q rest) a w:=by
 rwa [wpOpsIn_cons] at h
theorem eO{α:Type}{suf:List Oper->St->VR α}(hG:VP P G)(hX:U1 P X c)(GW:P.follows .mixedOrders=true){s:St}{R:α->Prop}{Q:Exit->Act->World->Prop}(h:(Zj2 suf P G X ops.toList s).sat R){a:Act}{w:World}(r:Rel c s a w){ro:Option Nat}{n:Nat}
  (hsuf: ∀(l:List Oper) (k:Nat),l=ops.toList.drop k-> ∀(s:St) (a:Act) (w:World),(suf l s).sat R->Rel c s a w->wpOpsIn (fr ro) n P ops Q (List.range' k (ops.size-k)) a w):wpAnyIn (fr ro) n P .any ops Q ops.size (Array.replicate ops.size false) a {w with drawn:=w.drawn+1}:=by
 obtain ⟨w0,T,e,hΦ,r⟩:=r;unfold Zj2 at h;split at h
 ·exact h.elim
 rename_i jQ;have h2:=VR.sat_bind h;generalize hM:HH ops.toList []=M at h2;generalize hmm:qC M ops.toList.length=mm at h2;have OT:mm<=ops.size:=by rw [←hmm];have:=aA M ops.toList.length;simpa using this
 obtain ⟨W,dec,FN,D4,D1⟩:=wV (P:=P) (G:=G) (X:=X) (ops:=ops.toList) (M:=M) (σ0:=s.σ) (m0:=s.m) (nx0:=s.nx) (mm:=mm) (ops.toList.take mm) [] [] [] (by simp [Nat.min_eq_left OT]) rfl h2 ⟨λk d hk=>by simp [RU] at hk,λi o O=>by simp at O⟩
 have hlen':W.length=mm:=by rw [D1];simp;omega
 subst hM;have AM: ∀k j,mm<=k->k<ops.size->j<k->((HH ops.toList []).getD k 0).testBit j=true:=by
  intro k j h1 h2 h3;exact IO (kL _ _ k (by rw [hmm];exact h1) (by simpa using h2)) h3
 have sD: ∀k o,ops[k]? =some o-> ∀j∈HZ o,j<k:=by
  intro k o ho j hj;have:=(PE jQ k o (by simpa using ho)).2 j hj
  simpa using this
 have rQ: ∀p∈s.m,p.1<s.nx:=by
  intro p hp;refine r.live p.1 ?_;have:=r.mem p hp;exact this.live
 obtain ⟨Zo8,FN⟩:uN s.nx s.m W=true/\_:=by
  dsimp only at FN
  split at FN
  ·exact FN.elim
  ·rename_i hb;exact ⟨hb,FN⟩
 -- the two phases
 let s1:St:={s with σ:=d9 ops.toList mm W dec s.σ 0,m:=RZ s.nx W W 0++s.m,nx:=s.nx+mm}
 let Inv:Array Bool->Act->World->Prop:=λL a w=>(uP ops c w0 T s W mm L a w/\ ∃k,k<mm/\ ¬inS L k)\/(∃k,mm<=k/\k<=ops.size/\Zp2 ops.size k L/\wpOpsIn (fr ro) n P ops Q (List.range' k (ops.size-k)) a w)
 have gY: ∀L a w,uP ops c w0 T s W mm L a w->(∀k,k<mm->inS L k)->Inv L a w:=by
  intro L a w hI PJ;refine .inr ⟨mm,Am _,OT,⟨hI.size,λj=>⟨hI.lt j,PJ j⟩⟩,?_⟩
  exact hsuf (ops.toList.drop mm) mm rfl s1 a w FN (iT D4 hlen' hΦ hI PJ)
 have yN: ∀(L:Array Bool),L.size=ops.size->Region.ready .any ops L=[]-> ∀k,k<ops.size->inS L k:=by
  intro L hsz Z k
  induction k using Nat.strongRecOn with
  |_ k ih=>
   intro hk;rcases Classical.em (inS L k) with h'|h'
   ·exact h'
   ·exfalso;have hZ:k∈Region.ready .any ops L:=by
     unfold Region.ready;rw [List.mem_filter];refine ⟨List.mem_range.2 hk,?_⟩;have hok:ops[k]? =some ops[k]:=by simp [hk]
     rw [hok];simp only [Bt,GZ,HE,Ax];refine ⟨?_,?_⟩
     ·unfold inS at h';simp [LV,hsz,hk] at h' ⊢;exact h'
     ·rw [Array.all_eq_true_iff_forall_mem];intro ed hed;cases hb:Region.binds .any ed with
      |false=>simp
      |true=>
       have hj:ed.on∈HZ ops[k]:=by
        simp only [HZ,List.mem_map,List.mem_filter];exact ⟨ed,⟨by simpa using hed,hb⟩,rfl⟩
       have hlt:=sD k _ hok _ hj;have:=ih ed.on hlt VO;simpa [inS] using this
    rw [Z] at hZ;cases hZ
 refine AU Inv ?_ ?_ ?_ ops.size _ a _ ?_ ?_
 ·-- a step
  rintro L a w i (⟨hI,k0,hk0,hk0'⟩|⟨k,hk1,hk2,⟨hsz,hfl⟩,hwp⟩) O
  ·obtain ⟨hin,hun,o,ho,hO⟩:=HW O;have him:i<mm:=by
    rcases An i mm with h'|h'
    ·exact h'
    ·exfalso;exact hk0' (wN hI.dc i o (by simpa using ho) hO k0 (AM i k0 h' hin VO))
   refine wpOpIn_mono (λa' w' hI'=>?_) (Xu6 hG ⟨hX.c,hX.f,hX.d⟩ jQ D4 hlen' OT rQ (mL Zo8) hI O him)
   rcases Classical.em (∀k,k<mm->inS (L.setIfInBounds i true) k) with hf|hf
   ·exact gY _ _ _ hI' hf
   ·refine .inl ⟨hI',?_⟩;rcases Classical.not_forall.1 hf with ⟨k,hk⟩
    exact ⟨k,(Classical.not_imp.1 hk).1,(Classical.not_imp.1 hk).2⟩
  ·obtain ⟨hin,hun,o,ho,hO⟩:=HW O;have hni: ¬inS L i:=qB (by rw [hsz];exact hin) hun
   have hki:k<=i:=by
               rcases An i k with h'|h'
               ·exact absurd ((hfl i).2 h') hni
               ·exact h'
   have hdc:DC ops.toList L:=by
    intro k' o' ho' hk' j hj;have:=sD k' o' (by simpa using ho') j hj
    have:=(hfl k').1 hk';exact (hfl j).2 VO
   have hik:i=k:=by
    rcases An k i with h'|h'
    ·exfalso;have:=wN hdc i o (by simpa using ho) hO k (AM i k VO hin h')
     have:=(hfl k).1 this;omega
    ·omega
   subst hik;have e1:ops.size-i=(ops.size-(i+1))+1:=VO;rw [e1,List.range'_succ] at hwp;refine wpOpIn_mono (λa' w' hwp'=>?_) (Qy1 hwp)
   refine .inr ⟨i+1,VO,hin,⟨by simp [hsz],λj=>?_⟩,hwp'⟩
   rw [UU (by rw [hsz];exact hin),hfl]
   omega
 ·rintro L a w (⟨hI,k0,hk0,hk0'⟩|⟨k,hk1,hk2,⟨hsz,hfl⟩,hwp⟩) Z
  ·exact absurd (yN L hI.size Z k0 VO) hk0'
  ·have hkn:k=ops.size:=by
    rcases An k ops.size with h'|h'
    ·have:=(hfl k).1 (yN L hsz Z k h');omega
    ·omega
   subst hkn;simpa [wpOpsIn] using hwp
 ·rintro L a w (⟨hI,_⟩|⟨k,_,_,⟨hsz,_⟩,_⟩)
  ·exact hI.size
  ·exact hsz
 ·-- the start
  have hno: ∀k,¬inS (Array.replicate ops.size false) k:=by
   intro k hk;unfold inS at hk;rw [LV,Array.getElem?_replicate] at hk;split at hk<;>cases hk
  have hI:uP ops c w0 T s W mm (Array.replicate ops.size false) a {w with drawn:=w.drawn+1}:=by
   have r:=r.drew;refine ⟨VZ,λk o _ hk=>absurd hk (hno k),λk hk=>absurd hk (hno k),e,r.env,r.below,r.mem,λi c O=>absurd O (hno i),λk hk=> .inl (r.live k hk),⟨r.foe,r.xt⟩,by simpa using r.slots.1.symm,?_⟩
   intro t v hv;have hlt:t<s.σ.length:=by
    have h1:=r.slots.1;have h2:=(PD.1 hv).1;simp at h1;omega
   have Z:=r.slots.2 t s.σ[t] v (D5 hlt) (by simpa using hv)
   unfold FC;have hg:s.σ.getD t .top=s.σ[t]:=by simp [List.getD,D5 hlt]
   split
   ·rename_i k hk;rw [if_neg (show ¬(Array.replicate ops.size false).getD k false=true from hno k),hg];exact Z
   ·rw [hg];exact Z
  rcases Nat.eq_zero_or_pos mm with h0|h0
  ·exact gY _ _ _ hI (λk hk=>VO)
  ·exact .inl ⟨hI,0,h0,hno 0⟩
 ·unfold unl;exact Ar List.countP_le_length VZ
theorem CK(hG:VP P G)(hX:U1 P X c)(GW:P.follows .mixedOrders=true){s:St}{R:St->Prop}{Q:Exit->Act->World->Prop}(h:(Xh8 P G X ops.toList s).sat R){a:Act}{w:World}(r:Rel c s a w){ro:Option Nat}{n:Nat}
  (hQ: ∀s a w,R s->Rel c s a w->Q .normal a w):wpAnyIn (fr ro) n P .any ops Q ops.size (Array.replicate ops.size false) a {w with drawn:=w.drawn+1}:=
 eO (suf:=We9 P G X ops.toList) hG hX GW h r (vP hG hX hQ)
end
def kW(p:Nat)(o:Oper):Oper:={o with after:=o.after.push {on:=p,ground:= .data} }
def PW(p:Nat):Nat->List Oper->List Oper
 |_,[]=>[]
 | 0,o::l=>kW p o::l
 |s+1,o::l=>o::PW p s l
theorem zD(p:Nat): ∀(s:Nat) (l:List Oper) (i:Nat),(PW p s l)[i]? =if i=s then (l[i]?).map (kW p) else l[i]?
 |s,[],i=>by cases s<;>simp [PW]
 | 0,o::l,i=>by cases i<;>simp [PW]
 |s+1,o::l,i=>by
  cases i with
  |zero=>simp [PW]
  |succ i=>simp [PW,zD p s l i]
theorem PO(p:Nat): ∀(s:Nat) (l:List Oper),(PW p s l).length=l.length
 |s,[]=>by cases s<;>rfl
 | 0,o::l=>rfl
 |s+1,o::l=>by simp [PW,PO p s l]
def oB:Op->Bool
 | .pick _ _ _=>true
 | .move _=>true
 | .assign _=>true
 |_=>false
def dY(d:Nat):Operand->Bool
 | .tmp t=> !Nat.beq t d
 |_=>true
def exB(ops:List Oper)(p s:Nat):Bool:=match ops[p]?,ops[s]? with
 |some op,some os=>match op.dst,os.op with
  |some d,.store _ x y=> !Nat.beq p s&&oB op.op&&op.guard.isNone&&os.guard.isNone&&os.dst.isNone&&dY d x&&dY d y
    &&(HZ op).all (λj=>Nat.testBit ((HH ops []).getD s 0) j)&&(List.range ops.length).all (λk=>Nat.beq k p||Nat.beq k s||Nat.testBit ((HH ops []).getD k 0) p||Nat.testBit ((HH ops []).getD s 0) k)
  |_,_=>false
 |_,_=>false
section
variable {P:Program}{F:Fence}{n:Nat}{Q:Exit->Act->World->Prop}
section
variable {Q':Exit->Act->World->Prop}
theorem Wb7(hq: ∀e a w,Q e a w->Q' e a w){o:Oper}{a:Act}{K:Act->World->Prop}{r:Result Next}(h:o.uponIn F n P a K Q r):o.uponIn F n P a K Q' r:=by
 have hl:LetsOut Q->LetsOut Q':=λ⟨a,w,h⟩=>⟨a,w,hq _ _ _ h⟩
 cases r with
 |ok x w=>
  cases x<;>simp only [Oper.uponIn] at h ⊢ <;>first|exact h|skip
  ·refine ⟨h.1,CallsIn.mono h.2 λe w'' he=>?_⟩
   cases e with
   |returned u=>exact he
   |panicked c=>exact hq _ _ _ he
   |outgrown=>exact hl he
  ·refine ⟨h.1,RoundIn.mono h.2 λe w'' he=>?_⟩
   cases e with
   |returned u=>exact he
   |panicked c=>exact hq _ _ _ he
   |outgrown=>exact hl he
 |halt x w=>cases x<;>simp only [Oper.uponIn] at h ⊢ <;>first|exact h|exact hq _ _ _ h
theorem Qy2(hq: ∀e a w,Q e a w->Q' e a w){ops:Array Oper}{i:Nat}{K:Act->World->Prop}{a:Act}{w:World}(h:wpOpIn F n P ops Q i K a w):wpOpIn F n P ops Q' i K a w:=by
 unfold wpOpIn at h ⊢;split
 ·rename_i ho;rw [ho] at h;exact h
 ·rename_i o ho;rw [ho] at h;simp only at h;split
  ·rename_i hw;rw [if_pos hw] at h;exact ⟨h.1,Wb7 hq h.2⟩
  ·rename_i hw;rw [if_neg hw] at h;exact h
end
theorem NN{Q':Exit->Act->World->Prop}(hq: ∀e a w,Q e a w->Q' e a w){ops:Array Oper}{md:Region.Mode}: ∀{fuel:Nat} {L:Array Bool} {a:Act} {w:World},wpAnyIn F n P md ops Q fuel L a w->wpAnyIn F n P md ops Q' fuel L a w
 | 0,_,_,_,h=>⟨h.1,hq _ _ _ h.2⟩
 |fuel+1,_,_,_,h=>⟨λZ=>hq _ _ _ (h.1 Z),λi O=>Qy2 hq (wpOpIn_mono (λ_ _=>NN hq) (h.2 i O))⟩
section
variable {p s:Nat}{ops ops2:Array Oper}
theorem b6(h2:ops2.toList=PW p s ops.toList)(tmps:Array Value):yielded ops2 tmps=yielded ops tmps:=by
 have hg: ∀j,ops2[j]? =if j=s then (ops[j]?).map (kW p) else ops[j]? :=λj=>by
  have:=zD p s ops.toList j;rw [←h2] at this;simpa using this
 funext j;unfold yielded;rw [hg];by_cases hj:j=s
 ·rw [if_pos hj];cases ops[j]? <;>rfl
 ·rw [if_neg hj]
theorem zC(h2:ops2.toList=PW p s ops.toList){i:Nat}{K:Act->World->Prop}{a:Act}{w:World}:wpOpIn F n P ops2 Q i K a w↔wpOpIn F n P ops Q i K a w:=by
 have hg: ∀j,ops2[j]? =if j=s then (ops[j]?).map (kW p) else ops[j]? :=λj=>by
  have:=zD p s ops.toList j;rw [←h2] at this;simpa using this
 unfold wpOpIn;rw [hg,b6 h2];by_cases hj:i=s
 ·rw [if_pos hj];cases ops[i]? <;>exact Iff.rfl
 ·rw [if_neg hj]
end
section
variable {ops:Array Oper}{i:Nat}{o:Oper}
theorem cW(hq: ∀c a w,¬Q (.panic c) a w)(ho:ops[i]? =some o)(hs:oB o.op=true)(hg:o.guard=none){K:Act->World->Prop}{a:Act}{w:World}(h:wpOpIn F n P ops Q i K a w):
  ∃v,K (a.put o.dst v) w/\ ∀(K':Act->World->Prop) w',K' (a.put o.dst v) w'->wpOpIn F n P ops Q i K' a w':=by
 have hw: ∀t,Region.wanted o (yielded ops t)=true:=λt=>by simp [Region.wanted,hg]
 have key: ∀v,(∀w,(o.semAt F.round a.eval).run P w= .ok (.value v) w)->(∀w,o.about P w a.eval=none)-> ∃v,K (a.put o.dst v) w/\ ∀(K':Act->World->Prop) w',K' (a.put o.dst v) w'->wpOpIn F n P ops Q i K' a w':=by
  intro v hv hab;refine ⟨v,?_,λK' w' hk=>?_⟩
  ·unfold wpOpIn at h;rw [ho] at h;simp only [hw,if_true,Oper.wpIn,hv,Oper.uponIn] at h;exact h.2
  ·unfold wpOpIn;rw [ho];simp only [hw,if_true,Oper.wpIn,hv,Oper.uponIn];exact ⟨λf hf=>(by rw [hab w'] at hf;cases hf),hk⟩
 obtain ⟨dst,op,type,pos,after,guard⟩:=o;simp only at hs hg;subst hg;cases op with
 |move x=>
  refine key (a.eval x) (λw=>?_) (λw=>rfl)
  rw [Oper.semAt_eq _ _ _ (λc h=>by cases h)]
  rfl
 |assign x=>
  refine key (a.eval x) (λw=>?_) (λw=>rfl)
  rw [Oper.semAt_eq _ _ _ (λc h=>by cases h)]
  rfl
 |pick c x y=>
  have he: ∀w,(Oper.semAt F.round a.eval ⟨dst,.pick c x y,type,pos,after,none⟩).run P w=(execOp a.eval ⟨dst,.pick c x y,type,pos,after,none⟩).run P w:=λw=>by
   rw [Oper.semAt_eq _ _ _ (λc h=>by cases h)]
  rcases Classical.em (∃b,a.eval c= .bool b) with ⟨b,hb⟩|hb
  ·refine key (if b then a.eval x else a.eval y) (λw=>?_) (λw=>rfl)
   rw [he];simp [execOp,hb,asBool]
  ·exfalso;unfold wpOpIn at h;rw [ho] at h;simp only [hw,if_true,Oper.wpIn,he] at h;have h:=h.2;cases hc:a.eval c with
   |bool b=>exact hb ⟨b,hc⟩
   |_=>simp [execOp,hc,asBool,stuck,Oper.uponIn] at h
 |_=>simp [oB] at hs
theorem Qn5{t:TypeId}{x y:Operand}{d:Nat}{v:Value}(hq: ∀c a w,¬Q (.panic c) a w)(ho:ops[i]? =some o)(hop:o.op= .store t x y)(hg:o.guard=none)(hd:o.dst=none)(hx:dY d x=true)(hy:dY d y=true)
  {K:Act->World->Prop}{a:Act}{w:World}(h:wpOpIn F n P ops Q i K (a.put (some d) v) w):wpOpIn F n P ops Q i (λa' w'=>a'=a/\K (a.put (some d) v) w') a w:=by
 have hw: ∀t,Region.wanted o (yielded ops t)=true:=λt=>by simp [Region.wanted,hg]
 have ev: ∀z,dY d z=true->(a.put (some d) v).eval z=a.eval z:=λz hz=>Act.eval_put λd' hd'=>by
  cases hd';rintro rfl;simp [dY] at hz
 obtain ⟨dst,op,type,pos,after,guard⟩:=o;simp only at hop hg hd;subst hop hg hd;have he: ∀(b:Act),Oper.semAt F.round b.eval ⟨none,.store t x y,type,pos,after,none⟩=execOp b.eval ⟨none,.store t x y,type,pos,after,none⟩:=λb=>Oper.semAt_eq _ _ _ (λc h=>by cases h)
 have ex:execOp (a.put (some d) v).eval ⟨none,.store t x y,type,pos,after,none⟩=execOp a.eval ⟨none,.store t x y,type,pos,after,none⟩:=by
  simp only [execOp,ev x hx,ev y hy]
 unfold wpOpIn at h ⊢;rw [ho] at h ⊢;simp only [hw,if_true,Oper.wpIn,he,ex] at h ⊢;refine ⟨λf hf=>(by cases hf),?_⟩
 have h:=h.2;generalize Z:(execOp a.eval ⟨none,.store t x y,type,pos,after,none⟩).run P w=r at h;have hsk:(∃w',r= .ok .skip w')\/ ∃u w',r= .halt u w':=by
  rw [←Z];simp only [execOp,At];cases (Instr.storeAt t (a.eval x) (a.eval y)).run P w with
  |ok u w'=>exact .inl ⟨w',rfl⟩
  |halt u w'=>exact .inr ⟨u,w',rfl⟩
 rcases hsk with ⟨w',rfl⟩|⟨u,w',rfl⟩
 ·simp only [Oper.uponIn] at h ⊢;exact ⟨rfl,h⟩
 ·cases u<;>simp only [Oper.uponIn] at h ⊢;exact (hq _ _ _ h).elim
end
theorem Wo4{L:Array Bool}{i:Nat}(O:i<L.size)(h: ¬inS L i):L.getD i true=false:=by
 unfold inS at h;simp [LV,O] at h ⊢;exact h
theorem FE{ops:Array Oper}{L:Array Bool}{i:Nat}{o:Oper}(hsz:L.size=ops.size)(ho:ops[i]? =some o)(hn: ¬inS L i)(hd: ∀j∈HZ o,inS L j):i∈Region.ready .any ops L:=by
 have O:i<ops.size:=(PD.1 ho).1;unfold Region.ready;rw [List.mem_filter];refine ⟨List.mem_range.2 O,?_⟩;rw [ho];simp only [Bt,GZ,HE,Ax];refine ⟨Wo4 (by rw [hsz];exact O) hn,?_⟩
 rw [Array.all_eq_true_iff_forall_mem];intro ed hed;cases hb:Region.binds .any ed with
 |false=>simp
 |true=>
  have hj:ed.on∈HZ o:=by
   simp only [HZ,List.mem_map,List.mem_filter];exact ⟨ed,⟨by simpa using hed,hb⟩,rfl⟩
  have:=hd ed.on hj;simpa [inS] using this
theorem qE{p:Nat}{o:Oper}{j:Nat}:j∈HZ (kW p o)↔j∈HZ o\/j=p:=by
 have:HZ (kW p o)=HZ o++[p]:=by
  have h1:List.filter (Region.binds .any) [({on:=p,ground:= .data}:Edge)]=[{on:=p,ground:= .data}]:=rfl;simp [HZ,kW,List.filter_append,h1]
 rw [this];simp
theorem Wv1{ops ops2:Array Oper}{p s:Nat}(h2:ops2.toList=PW p s ops.toList)(hex:exB ops.toList p s=true)(hq: ∀c a w,¬Q (.panic c) a w):
  ∀(fuel:Nat) (L:Array Bool) (a:Act) (w:World),L.size=ops.size->DC ops.toList L->(inS L p\/ ¬inS L s)->wpAnyIn F n P .any ops2 Q fuel L a w->wpAnyIn F n P .any ops Q fuel L a w:=by
 have hg: ∀j,ops2[j]? =if j=s then (ops[j]?).map (kW p) else ops[j]? :=λj=>by
  have:=zD p s ops.toList j;rw [←h2] at this;simpa using this
 have uG:ops2.size=ops.size:=by
  have:=PO p s ops.toList;rw [←h2] at this;simpa using this
 unfold exB at hex;split at hex
 rotate_left
 ·cases hex
 rename_i op os hop hos;have hop:ops[p]? =some op:=by simpa using hop
 have hos:ops[s]? =some os:=by simpa using hos
 split at hex
 rotate_left
 ·cases hex
 rename_i d t x y hd hst;simp only [HE,Option.isNone_iff_eq_none,Ax,BA,Bl,List.mem_range] at hex;obtain ⟨⟨⟨⟨⟨⟨⟨⟨hps,Jh1⟩,hgp⟩,hgs⟩,hds⟩,hx⟩,hy⟩,Xl5⟩,D4⟩:=hex;have hps:p≠s:=λh=>by rw [h] at hps;simp at hps
 have hpl:p<ops.size:=(PD.1 hop).1;have hsl:s<ops.size:=(PD.1 hos).1
 -- what is ready
 have sub: ∀L i,L.size=ops.size->i∈Region.ready .any ops2 L->i∈Region.ready .any ops L:=by
  intro L i hL O;obtain ⟨g1,g2,o,g3,g4⟩:=HW O;have hn: ¬inS L i:=qB (by rw [hL,←uG];exact g1) g2
  rw [hg] at g3;by_cases his:i=s
  ·rw [if_pos his,his,hos] at g3;cases g3;rw [his] at hn ⊢;exact FE hL hos hn λj hj=>g4 j (qE.2 (.inl hj))
  ·rw [if_neg his] at g3;exact FE hL g3 hn g4
 have sup: ∀L i,L.size=ops.size->i∈Region.ready .any ops L->(i≠s\/inS L p)->i∈Region.ready .any ops2 L:=by
  intro L i hL O hor;obtain ⟨g1,g2,o,g3,g4⟩:=HW O;have hn: ¬inS L i:=qB (by rw [hL];exact g1) g2
  by_cases his:i=s
  ·subst his;rw [hos] at g3;cases g3;refine FE (by rw [hL,uG]) (o:=kW p os) (by rw [hg,if_pos rfl,hos];rfl) hn λj hj=>?_
   rcases qE.1 hj with hj|rfl
   ·exact g4 j hj
   ·exact hor.resolve_left (λh=>h rfl)
  ·exact FE (by rw [hL,uG]) (by rw [hg,if_neg his];exact g3) hn g4
 have rdp: ∀L,L.size=ops.size->DC ops.toList L->s∈Region.ready .any ops L-> ¬inS L p->p∈Region.ready .any ops L:=by
  intro L hL hdc hs hn;obtain ⟨g1,g2,o,g3,g4⟩:=HW hs;rw [hos] at g3;cases g3;exact FE hL hop hn λj hj=>wN hdc s os (by simpa using hos) g4 j (Xl5 j hj)
 have dcs: ∀L i,L.size=ops.size->DC ops.toList L->i∈Region.ready .any ops L->DC ops.toList (L.setIfInBounds i true):=by
  intro L i hL hdc O k o ho hk j hj;obtain ⟨g1,g2,o',g3,g4⟩:=HW O;have hiL:i<L.size:=by rw [hL];exact g1
  rw [UU hiL] at hk ⊢;right;rcases hk with rfl|hk
  ·have ho:ops[k]? =some o:=by simpa using ho
   rw [g3] at ho;cases ho;exact g4 j hj
  ·exact hdc k o ho hk j hj
 intro fuel
 induction fuel using Nat.strongRecOn with
 |_ fuel ih=>
 intro L a w hL hdc hor h;have kQ:Region.ready .any ops2 L=[]->Region.ready .any ops L=[]:=by
  intro Z;rw [List.eq_nil_iff_forall_not_mem];intro i O;have: ∃k,k∈Region.ready .any ops2 L:=by
   by_cases hc:i≠s\/inS L p
   ·exact ⟨i,sup L i hL O hc⟩
   ·have his:i=s:=Classical.not_not.1 λh=>hc (.inl h)
    have hnp: ¬inS L p:=λh=>hc (.inr h)
    subst his;exact ⟨p,sup L p hL (rdp L hL hdc O hnp) (.inl hps)⟩
  obtain ⟨k,hk⟩:=this;rw [Z] at hk;cases hk
 have hnil':Region.ready .any ops L=[]->Region.ready .any ops2 L=[]:=by
  intro Z;rw [List.eq_nil_iff_forall_not_mem];intro i O;have:=sub L i hL O;rw [Z] at this;cases this
 cases fuel with
 |zero=>exact ⟨kQ h.1,h.2⟩
 |succ fuel=>
  refine ⟨λZ=>h.1 (hnil' Z),λi O=>?_⟩
  obtain ⟨g1,g2,o,g3,g4⟩:=HW O;have hiL:i<L.size:=by rw [hL];exact g1
  by_cases hc:i≠s\/inS L p
  ·have h1:=(zC h2).1 (h.2 i (sup L i hL O hc));refine wpOpIn_mono (λa' w' h'=>ih fuel (Bk _) (L.setIfInBounds i true) a' w' (by simp [hL]) (dcs L i hL hdc O) ?_ h') h1
   rw [UU hiL,UU hiL];rcases hc with hc|hc
   ·rcases hor with hor|hor
    ·exact .inl (.inr hor)
    ·exact .inr (λh=>h.elim (λh=>hc h.symm) hor)
   ·exact .inl (.inr hc)
  ·have his:i=s:=Classical.not_not.1 λh=>hc (.inl h)
   have hnp: ¬inS L p:=λh=>hc (.inr h)
   subst his;have hpr:=rdp L hL hdc O hnp;have hpL:p<L.size:=by rw [hL];exact hpl
   have h1:=(zC h2).1 (h.2 p (sup L p hL hpr (.inl hps)));obtain ⟨v,h3,h4⟩:=cW hq hop Jh1 hgp h1;rw [hd] at h3 h4;have hsr:i∈Region.ready .any ops2 (L.setIfInBounds p true):=by
    have hn: ¬inS L i:=qB hiL g2;refine sup _ i (by simp [hL]) (FE (by simp [hL]) g3 (λhh=>?_) (λj hj=>(UU hpL).2 (.inr (g4 j hj)))) (.inr ((UU hpL).2 (.inl rfl)))
    rcases (UU hpL).1 hh with hh|hh
    ·exact hps hh.symm
    ·exact hn hh
   cases fuel with
   |zero=>
    have:=h3.1;rw [this] at hsr;cases hsr
   |succ f=>
    have h5:=(zC h2).1 (h3.2 i hsr);have h6:=Qn5 hq hos hst hgs hds hx hy h5;refine wpOpIn_mono ?_ h6;rintro a' w' ⟨rfl,h7⟩;have Ji0: ¬inS (L.setIfInBounds i true) p:=λhh=>by
     rcases (UU hiL).1 hh with hh|hh
     ·exact hps hh
     ·exact hnp hh
    have Ji6:=dcs L i hL hdc O;have Zn9:p∈Region.ready .any ops (L.setIfInBounds i true):=by
     obtain ⟨q1,q2,o',q3,q4⟩:=HW hpr;exact FE (by simp [hL]) q3 Ji0 λj hj=>(UU hiL).2 (.inr (q4 j hj))
    refine ⟨λZ=>(by rw [Z] at Zn9;cases Zn9),λk hk=>?_⟩
    have hkp:k=p:=by
     obtain ⟨k1,k2,ok,k3,k4⟩:=HW hk;have hnk: ¬inS (L.setIfInBounds i true) k:=qB (by simp [hL];exact k1) k2
     have hks:k≠i:=λhh=>hnk ((UU hiL).2 (.inl hh))
     rcases D4 k (by simpa using k1) with ((hh|hh)|hh)|hh
     ·exact H4 hh
     ·exact absurd (H4 hh) hks
     ·exact absurd (wN Ji6 k ok (by simpa using k3) k4 p hh) Ji0
     ·exfalso;rw [hos] at g3;cases g3;exact hnk ((UU hiL).2 (.inr (wN hdc i os (by simpa using hos) g4 k hh)))
    subst hkp;refine h4 _ _ ?_;rw [Array.setIfInBounds_comm _ _ (Ne.symm hps)];refine ih f VO _ _ _ (by simp [hL]) ?_ (.inl ?_) h7
    ·have:=dcs _ k (by simp [hL]) Ji6 Zn9
     rwa [Array.setIfInBounds_comm _ _ (Ne.symm hps)] at this
    ·rw [UU (by simp [hL];exact g1),UU hpL]
     exact .inr (.inl rfl)
end
def Qu2(ops:List Oper)(M:List Nat):List Nat->Option (Nat×Nat)
 |[]=>none
 |k::l=>match ops[k]? with
  |some o=>match o.op with
   | .store _ (.tmp t) _=>match DJ t ops 0 with
    |none=>match (List.range k).find? (λp=> !Nat.testBit (M.getD k 0) p) with
     |some p=>some (p,k)
     |none=>Qu2 ops M l
    |some _=>Qu2 ops M l
   |_=>Qu2 ops M l
  |none=>none
def Xh7(P:Program)(G:List (Nat×Spec))(X:Ext)(ops:List Oper)(s:St):VR St:=match Qu2 ops (HH ops []) (List.range ops.length) with
 |some (p,k)=>match exB ops p k with
  |true=>Xh8 P G X (PW p k ops) s
  |false=>Xh8 P G X ops s
 |none=>Xh8 P G X ops s
def Wx0{α:Type}:List (VR α)->VR α
 |[]=> .fail
 |[t]=>t
 |t::u::l=> .may True t (Wx0 (u::l))
theorem SB{α:Type}{Q:α->Prop}: ∀{l:List (VR α)},(Wx0 l).sat Q-> ∀t∈l,t.sat Q
 |[],_,_,h=>by cases h
 |[t],h,u,hu=>by
  rcases B9.1 hu with rfl
  exact h
 |t::u::l,h,v,hv=>by
  rcases GS.1 hv with rfl|hv
  ·exact h.1 trivial
  ·exact SB h.2 v hv
def tI(P:Program)(G:List (Nat×Spec))(X:Ext)(ops:List Oper):Nat->Array Bool->St->VR St
 | 0,L,s=>match Region.ready .any ops.toArray L with
  |[]=> .leaf s
  |_::_=> .fail
 |f+1,L,s=>match Region.ready .any ops.toArray L with
  |[]=> .leaf s
  |l=>Wx0 (l.map λi=>match ops[i]? with
   |some o=>(zX P G X ops o s).bind (tI P G X ops f (L.setIfInBounds i true))
   |none=> .fail)
theorem jN{P:Program}{G:List (Nat×Spec)}{X:Ext}{c:Cx}(hG:VP P G)(hX:U1 P X c){ro:Option Nat}{n:Nat}{ops:Array Oper}{Q:Exit->Act->World->Prop}{R:St->Prop}(hQ: ∀s a w,R s->Rel c s a w->Q .normal a w):
  ∀(fuel:Nat) (L:Array Bool) (s:St) (a:Act) (w:World),(tI P G X ops.toList fuel L s).sat R->Rel c s a w->wpAnyIn (fr ro) n P .any ops Q fuel L a w
 | 0,L,s,a,w,h,r=>by
  unfold tI at h;split at h
  ·rename_i Z;exact ⟨by simpa using Z,hQ s a w h r⟩
  ·exact h.elim
 |fuel+1,L,s,a,w,h,r=>by
  unfold tI at h;split at h
  ·rename_i Z;have Z:Region.ready .any ops L=[]:=by simpa using Z
   refine ⟨λ_=>hQ s a w h r,λi O=>?_⟩
   rw [Z] at O;cases O
  ·rename_i l hl;refine ⟨λZ=>absurd (by simpa using Z) hl,λi O=>?_⟩
   have hi':i∈Region.ready .any ops.toList.toArray L:=by simpa using O
   have h1:=SB h _ (List.mem_map.2 ⟨i,hi',rfl⟩);split at h1
   ·rename_i o ho;exact zW hG hX (by simpa using ho) (VR.sat_bind h1) r (λs' a' w' hs' hr'=>jN hG hX hQ fuel _ s' a' w' hs' hr')
   ·exact h1.elim
def AE(ops:List Oper)(p:Nat):List AV->List AV->Nat->List AV
 |a::l,b::l',t=>(match DJ t ops 0 with
  |some k=>match Nat.beq k p with
   |true=>b
   |false=>a
  |none=>a)::AE ops p l l' (t+1)
 |l,_,_=>l
theorem rU(ops:List Oper)(p:Nat): ∀(l l':List AV) (t:Nat),(AE ops p l l' t).length=l.length
 |[],_,_=>by simp [AE]
 |a::l,[],t=>by simp [AE]
 |a::l,b::l',t=>by simp [AE,rU ops p l l' (t+1)]
theorem lW(ops:List Oper)(p:Nat): ∀(l l':List AV) (t i:Nat) (x:AV),(AE ops p l l' t)[i]? =some x->
  (l[i]? =some x/\DJ (t+i) ops 0≠some p)\/(l'[i]? =some x/\DJ (t+i) ops 0=some p)\/(l[i]? =some x/\l'[i]? =none)
 |[],_,_,i,x,h=>by simp [AE] at h
 |a::l,[],t,i,x,h=> .inr (.inr ⟨by simpa [AE] using h,VZ⟩)
 |a::l,b::l',t,0,x,h=>by
  unfold AE at h;rw [List.getElem?_cons_zero] at h;split at h
  ·rename_i k hk;split at h
   ·rename_i hb;have:=H4 hb;subst this;exact .inr (.inl ⟨by simpa using h,by simpa using hk⟩)
   ·rename_i hb;exact .inl ⟨by simpa using h,λhe=>by rw [Bg,hk] at he;cases he;simp at hb⟩
  ·rename_i hk;exact .inl ⟨by simpa using h,λhe=>by rw [Bg,hk] at he;cases he⟩
 |a::l,b::l',t,i+1,x,h=>by
  unfold AE at h;rw [List.getElem?_cons_succ] at h;rcases lW ops p l l' (t+1) i x h with h|h|h
  ·exact .inl ⟨by simpa using h.1,by rw [show t+(i+1)=t+1+i by omega];exact h.2⟩
  ·exact .inr (.inl ⟨by simpa using h.1,by rw [show t+(i+1)=t+1+i by omega];exact h.2⟩)
  ·exact .inr (.inr ⟨by simpa using h.1,by simpa using h.2⟩)
def Qc3(c:HT):Bool:=match c.add,c.upd,c.eat with
 |none,none,none=>true
 |_,_,_=>false
def uS(p:Nat)(M:List Nat):List Nat:=M.map (λx=>Nat.lor x (2^p))
theorem Qn1{p:Nat}{M:List Nat}{k j:Nat}(h:((uS p M).getD k 0).testBit j=true)(hj:j≠p):(M.getD k 0).testBit j=true:=by
 unfold uS at h;rw [List.getD_eq_getElem?_getD,Bn] at h;rw [List.getD_eq_getElem?_getD];cases hm:M[k]? with
 |none=>rw [hm] at h;simp at h
 |some x=>
  rw [hm] at h;simp only [Bt,GZ] at h;have h':(x ||| 2^p).testBit j=true:=h
  rw [Nat.testBit_or,Nat.testBit_two_pow] at h';simp only [Bl,y6] at h';rcases h' with h'|h'
  ·exact h'
  ·exact absurd h'.symm hj
def Xj9(o:Oper):Bool:=match o.op with
 | .store _ _ _=>true
 |_=>false
def Jf5(ops:List Oper)(p mm m0:Nat):Bool:=match ops[p]? with
 |some o=>match o.op with
  | .load _ (.tmp t)=>match DJ t ops 0 with
   |none=>((ops.take m0).drop mm).any Xj9
   |some _=>false
  |_=>false
 |none=>false
def IN(ops:List Oper)(M:List Nat)(n m0:Nat):List Nat->Option (Nat×Nat)
 |[]=>none
 |p::l=>match Nat.blt p (qC (uS p M) n)&&(Nat.blt (qC (uS p M) n) m0&&Jf5 ops p (qC (uS p M) n) m0) with
  |true=>some (p,qC (uS p M) n)
  |false=>IN ops M n m0 l
theorem kT{ops:List Oper}{M:List Nat}{n m0:Nat}{p mm:Nat}: ∀{l:List Nat},IN ops M n m0 l=some (p,mm)->p<mm/\mm=qC (uS p M) n
 |[],h=>by cases h
 |q::l,h=>by
  unfold IN at h;split at h
  ·rename_i hb;cases h;simp only [HE,Aw] at hb;exact ⟨hb.1,rfl⟩
  ·exact kT h
def rN(n mm:Nat)(p:Option Nat):Array Bool:=((List.range n).map λk=>Nat.blt k mm&&(match p with
 |some q=> !Nat.beq k q
 |none=>true)).toArray
theorem OF{n mm:Nat}{p:Option Nat}{k:Nat}:inS (rN n mm p) k↔k<n/\k<mm/\p≠some k:=by
 unfold inS rN;rw [LV];simp only [List.getElem?_toArray,Bn];rcases An k n with h|h
 ·rw [List.getElem?_range h];simp only [Bt,GZ,HE,Aw];cases p with
  |none=>simp [h]
  |some q=>
   simp only [Ax,ne_eq,HJ];constructor
   ·rintro ⟨h1,h2⟩;exact ⟨h,h1,λhe=>by subst he;simp at h2⟩
   ·rintro ⟨_,h1,h2⟩;refine ⟨h1,?_⟩;cases hb:Nat.beq k q
    ·rfl
    ·exact absurd (H4 hb).symm h2
 ·rw [Br (by simpa using h)]
  simp;omega
theorem EZ(n mm:Nat)(p:Option Nat):(rN n mm p).size=n:=by simp [rN]
theorem Qh4{n:Nat}{L L':Array Bool}(h:L.size=n)(h':L'.size=n)(hk: ∀k,k<n->(inS L k↔inS L' k)):L=L':=by
 refine Array.ext VO λk h1 h2=>?_
 have:=hk k VO;unfold inS at this;simp only [LV,Array.getElem?_eq_getElem h1,Array.getElem?_eq_getElem h2,GZ] at this;exact Bool.eq_iff_iff.2 this
def Xh5(P:Program)(G:List (Nat×Spec))(X:Ext)(ops:List Oper)(p mm:Nat)(s:St):VR St:=
 match rD s.σ.length ops ops 0 with
 |false=> .fail
 |true=>(jT P G X ops (HH ops []) s.σ s.m s.nx mm (ops.take mm) 0 [] []).bind λq=>match uN s.nx s.m q.1&&Qc3 (q.1.getD p DI) with
  |false=> .fail
  |true=> .may True (tI P G X ops ops.length (rN ops.length mm none) {s with σ:=d9 ops mm q.1 q.2 s.σ 0,m:=RZ s.nx q.1 q.1 0++s.m,nx:=s.nx+mm})
    (tI P G X ops ops.length (rN ops.length mm (some p)) {s with σ:=AE ops p (d9 ops mm q.1 q.2 s.σ 0) s.σ 0,m:=RZ s.nx q.1 q.1 0++s.m,nx:=s.nx+mm})
section
variable {P:Program}{G:List (Nat×Spec)}{X:Ext}{ops:Array Oper}{c:Cx}{w0:World}{T:Nat->Prop}{s0:St}{W:List HT}{dec:List (Nat×Bool)}
theorem Wn8{mm p:Nat}(D4:P5 P G X ops.toList (HH ops.toList []) s0.σ s0.m s0.nx mm W dec)(D1:W.length=mm){L:Array Bool}{a:Act}{w:World}
  (hΦ:c.Φ s0.gh T w0)(hI:uP ops c w0 T s0 W mm L a w)(PJ: ∀k,k<mm->k≠p->inS L k)(hnp: ¬inS L p)(hpm:p<mm)(OR:Qc3 (W.getD p DI)=true):
  Rel c {s0 with σ:=AE ops.toList p (d9 ops.toList mm W dec s0.σ 0) s0.σ 0,m:=RZ s0.nx W W 0++s0.m,nx:=s0.nx+mm} a w:=by
 have hpc: ∀cp,W[p]? =some cp->cp.add=none/\cp.upd=none/\cp.eat=none:=by
  intro cp hcp;have e:W.getD p DI=cp:=by rw [List.getD_eq_getElem?_getD,hcp];rfl
  rw [e] at OR;unfold Qc3 at OR;split at OR
  ·rename_i h1 h2 h3;exact ⟨h1,h2,h3⟩
  ·cases OR
 obtain ⟨e,hE,hB,hm0,vJ,vH,qD,jA,qV⟩:=hI.rel;refine ⟨w0,T,e,hΦ,hE,hB,?_,?_,qD.1,qD.2,?_,?_⟩
 ·intro q hq;rcases List.mem_append.1 hq with hq|hq
  ·obtain ⟨j,c,r,h1,h3,h4,h5,h6⟩:=y5 hq;simp only [Ap] at h3 h5 h6;have hj:j<mm:=by rw [←D1];exact (FY.1 h1).1
   have hjp:j≠p:=by
    rintro rfl;rw [(hpc c h1).1] at h4;cases h4
   rw [h3,h5];obtain ⟨r'',hh,hk1,hk2⟩:=vJ j c (PJ j hj hjp) h1 _ h4 (λi' ci _ hci he=>by rw [fQ hci he] at h6;cases h6)
   cases hu:jP W j with
   |some r'=>
    obtain ⟨i',ci,hi',hui⟩:=zL hu;have hi'm:i'<mm:=by rw [←D1];exact (FY.1 hi').1
    have hip:i'≠p:=by
     rintro rfl;rw [(hpc ci hi').2.1] at hui;cases hui
    rw [←hk1 i' ci r' (PJ i' hi'm hip) hi' hui];exact hh
   |none=>
    rw [←hk2 (λi' ci r' _ hci=>zM hu i' ci r' hci)];exact hh
  ·exact hm0 q hq
 ·intro k hk;show k<s0.nx+mm;rcases vH k hk with h|⟨i,h1,h2⟩
  ·omega
  ·have:=hI.lt i h1;omega
 ·rw [rU,wT];simpa using jA.symm
 ·intro t av v hav hv;have hv':a.tmps[t]? =some v:=by simpa using hv
  have hs:=qV t v hv';have old: ∀x,(d9 ops.toList mm W dec s0.σ 0)[t]? =some x->DJ t ops.toList 0≠some p->Rep e w x v:=by
   intro x hav hwp;rw [IU] at hav;rw [Ay] at hav;obtain ⟨a0,ha0,rfl⟩:=hav;unfold FC at hs;unfold Xm7;simp only [Ap];cases hwt:DJ t ops.toList 0 with
   |none=>rw [hwt] at hs;simp only at hs ⊢;rw [xL ha0] at hs;exact hs
   |some k=>
    rw [hwt] at hs;have hkp:k≠p:=by
     rintro rfl;exact hwp hwt
    simp only at hs ⊢;split
    ·rename_i hb;have hk:k<mm:=by simpa [Aw] using hb
     rw [if_pos (show L.getD k false=true from PJ k hk hkp)] at hs;simp only [Qu6];cases hld:RU dec k with
     |some d=>
      have:=(D4.1 k d hld).2;rw [this] at hs;exact hs.litOf
     |none=>exact hs
    ·rename_i hb;have hk: ¬k<mm:=λh=>by
      have h':Nat.blt k mm=true:=by rw [Aw];exact h
      rw [h'] at hb;cases hb
     rw [if_neg (show ¬L.getD k false=true from λh=>hk (hI.lt k h)),xL ha0] at hs
     exact hs
  rcases lW ops.toList p _ _ 0 t av hav with ⟨h1,h2⟩|⟨h1,h2⟩|⟨h1,h2⟩
  ·exact old av h1 (by simpa using h2)
  ·rw [Ap] at h2;unfold FC at hs;rw [h2] at hs;simp only at hs;rw [if_neg (show ¬L.getD p false=true from hnp),xL h1] at hs;exact hs
  ·exfalso;have hlt:=(FY.1 h1).1;rw [wT] at hlt;rw [D5 hlt] at h2;cases h2
theorem eJ(hG:VP P G)(hX:U1 P X c)(GW:P.follows .mixedOrders=true){p mm:Nat}(hpm:p<mm)(hmm:mm=qC (uS p (HH ops.toList [])) ops.toList.length){s:St}{R:St->Prop}{Q:Exit->Act->World->Prop}(h:(Xh5 P G X ops.toList p mm s).sat R){a:Act}{w:World}(r:Rel c s a w){ro:Option Nat}{n:Nat}
  (hQ: ∀s a w,R s->Rel c s a w->Q .normal a w):wpAnyIn (fr ro) n P .any ops Q ops.size (Array.replicate ops.size false) a {w with drawn:=w.drawn+1}:=by
 obtain ⟨w0,T,e,hΦ,r⟩:=r;unfold Xh5 at h;split at h
 ·exact h.elim
 rename_i jQ;have h2:=VR.sat_bind h;have OT:mm<=ops.size:=by rw [hmm];have:=aA (uS p (HH ops.toList [])) ops.toList.length;simpa using this
 obtain ⟨W,dec,FN,D4,D1⟩:=wV (P:=P) (G:=G) (X:=X) (ops:=ops.toList) (M:=HH ops.toList []) (σ0:=s.σ) (m0:=s.m) (nx0:=s.nx) (mm:=mm) (ops.toList.take mm) [] [] [] (by simp [Nat.min_eq_left OT]) rfl h2 ⟨λk d hk=>by simp [RU] at hk,λi o O=>by simp at O⟩
 have hlen':W.length=mm:=by rw [D1];simp;omega
 have AM: ∀k j,mm<=k->k<ops.size->j<k->j≠p->((HH ops.toList []).getD k 0).testBit j=true:=by
  intro k j h1 h2 h3 h4;exact Qn1 (IO (kL _ _ k (by rw [←hmm];exact h1) (by simpa using h2)) h3) h4
 have sD: ∀k o,ops[k]? =some o-> ∀j∈HZ o,j<k:=by
  intro k o ho j hj;have:=(PE jQ k o (by simpa using ho)).2 j hj
  simpa using this
 have rQ: ∀p∈s.m,p.1<s.nx:=by
  intro p hp;refine r.live p.1 ?_;have:=r.mem p hp;exact this.live
 obtain ⟨⟨Zo8,OR⟩,FN⟩:(uN s.nx s.m W=true/\Qc3 (W.getD p DI)=true)/\_:=by
  dsimp only at FN
  split at FN
  ·exact FN.elim
  ·rename_i hb;rw [HE] at hb;exact ⟨hb,FN⟩
 have Qr7:ops.toList.length=ops.size:=VZ
 -- the two phases
 let Inv:Array Bool->Act->World->Prop:=λL a w=>(uP ops c w0 T s W mm L a w/\ ∃k,k<mm/\k≠p/\ ¬inS L k)\/(L.size=ops.size/\ ∃fuel,wpAnyIn (fr ro) n P .any ops Q fuel L a w)
 have gY: ∀L a w,uP ops c w0 T s W mm L a w->(∀k,k<mm->k≠p->inS L k)->Inv L a w:=by
  intro L a w hI PJ;rcases Classical.em (inS L p) with hp|hp
  ·have hL:L=rN ops.toList.length mm none:=Qh4 hI.size (by rw [EZ];exact Qr7) λk hk=>by
    rw [OF];refine ⟨λh=>⟨VO,hI.lt k h,VZ⟩,λh=>?_⟩
    rcases Nat.decEq k p with he|he
    ·exact PJ k h.2.1 he
    ·rw [he];exact hp
   refine .inr ⟨hI.size,ops.toList.length,?_⟩;rw [hL];exact jN hG hX hQ _ _ _ a w (FN.1 trivial) (iT D4 hlen' hΦ hI λk hk=>by
    rcases Nat.decEq k p with he|he
    ·exact PJ k hk he
    ·rw [he];exact hp)
  ·have hL:L=rN ops.toList.length mm (some p):=Qh4 hI.size (by rw [EZ];exact Qr7) λk hk=>by
    rw [OF];refine ⟨λh=>⟨VO,hI.lt k h,λhe=>by cases he;exact hp h⟩,λh=>PJ k h.2.1 λhe=>h.2.2 (by rw [he])⟩
   refine .inr ⟨hI.size,ops.toList.length,?_⟩;rw [hL];exact jN hG hX hQ _ _ _ a w FN.2 (Wn8 D4 hlen' hΦ hI PJ hp hpm OR)
 have yN: ∀(L:Array Bool),L.size=ops.size->Region.ready .any ops L=[]-> ∀k,k<ops.size->inS L k:=by
  intro L hsz Z k
  induction k using Nat.strongRecOn with
  |_ k ih=>
   intro hk;rcases Classical.em (inS L k) with h'|h'
   ·exact h'
   ·exfalso;have hZ:k∈Region.ready .any ops L:=by
     unfold Region.ready;rw [List.mem_filter];refine ⟨List.mem_range.2 hk,?_⟩;have hok:ops[k]? =some ops[k]:=by simp [hk]
     rw [hok];simp only [Bt,GZ,HE,Ax];refine ⟨?_,?_⟩
     ·unfold inS at h';simp [LV,hsz,hk] at h' ⊢;exact h'
     ·rw [Array.all_eq_true_iff_forall_mem];intro ed hed;cases hb:Region.binds .any ed with
      |false=>simp
      |true=>
       have hj:ed.on∈HZ ops[k]:=by
        simp only [HZ,List.mem_map,List.mem_filter];exact ⟨ed,⟨by simpa using hed,hb⟩,rfl⟩
       have hlt:=sD k _ hok _ hj;have:=ih ed.on hlt VO;simpa [inS] using this
    rw [Z] at hZ;cases hZ
 refine AU Inv ?_ ?_ ?_ ops.size _ a _ ?_ ?_
 ·-- a step
  rintro L a w i (⟨hI,k0,hk0,hkp,hk0'⟩|⟨hsz,fuel,hwp⟩) O
  ·obtain ⟨hin,hun,o,ho,hO⟩:=HW O;have him:i<mm:=by
    rcases An i mm with h'|h'
    ·exact h'
    ·exfalso;exact hk0' (wN hI.dc i o (by simpa using ho) hO k0 (AM i k0 h' hin VO hkp))
   refine wpOpIn_mono (λa' w' hI'=>?_) (Xu6 hG ⟨hX.c,hX.f,hX.d⟩ jQ D4 hlen' OT rQ (mL Zo8) hI O him)
   rcases Classical.em (∀k,k<mm->k≠p->inS (L.setIfInBounds i true) k) with hf|hf
   ·exact gY _ _ _ hI' hf
   ·refine .inl ⟨hI',?_⟩;rcases Classical.not_forall.1 hf with ⟨k,hk⟩
    obtain ⟨h1,h2⟩:=Classical.not_imp.1 hk;obtain ⟨h3,h4⟩:=Classical.not_imp.1 h2;exact ⟨k,h1,h3,h4⟩
  ·cases fuel with
   |zero=>
    have h1:Region.ready .any ops L=[]:=hwp.1;rw [h1] at O;cases O
   |succ fuel=>
    refine wpOpIn_mono (λa' w' hwp'=> .inr ⟨by simp [hsz],fuel,hwp'⟩) (hwp.2 i O)
 ·rintro L a w (⟨hI,k0,hk0,hkp,hk0'⟩|⟨hsz,fuel,hwp⟩) Z
  ·exact absurd (yN L hI.size Z k0 VO) hk0'
  ·cases fuel with
   |zero=>exact hwp.2
   |succ fuel=>exact hwp.1 Z
 ·rintro L a w (⟨hI,_⟩|⟨hsz,_⟩)
  ·exact hI.size
  ·exact hsz
 ·-- the start
  have hno: ∀k,¬inS (Array.replicate ops.size false) k:=by
   intro k hk;unfold inS at hk;rw [LV,Array.getElem?_replicate] at hk;split at hk<;>cases hk
  have hI:uP ops c w0 T s W mm (Array.replicate ops.size false) a {w with drawn:=w.drawn+1}:=by
   have r:=r.drew;refine ⟨VZ,λk o _ hk=>absurd hk (hno k),λk hk=>absurd hk (hno k),e,r.env,r.below,r.mem,λi c O=>absurd O (hno i),λk hk=> .inl (r.live k hk),⟨r.foe,r.xt⟩,by simpa using r.slots.1.symm,?_⟩
   intro t v hv;have hlt:t<s.σ.length:=by
    have h1:=r.slots.1;have h2:=(PD.1 hv).1;simp at h1;omega
   have Z:=r.slots.2 t s.σ[t] v (D5 hlt) (by simpa using hv)
   unfold FC;have hg:s.σ.getD t .top=s.σ[t]:=by simp [List.getD,D5 hlt]
   split
   ·rename_i k hk;rw [if_neg (show ¬(Array.replicate ops.size false).getD k false=true from hno k),hg];exact Z
   ·rw [hg];exact Z
  rcases Classical.em (∀k,k<mm->k≠p->inS (Array.replicate ops.size false) k) with hf|hf
  ·exact gY _ _ _ hI hf
  ·refine .inl ⟨hI,?_⟩;rcases Classical.not_forall.1 hf with ⟨k,hk⟩
   obtain ⟨h1,h2⟩:=Classical.not_imp.1 hk;obtain ⟨h3,h4⟩:=Classical.not_imp.1 h2;exact ⟨k,h1,h3,h4⟩
 ·unfold unl;exact Ar List.countP_le_length VZ
end
def oG(P:Program)(G:List (Nat×Spec))(X:Ext)(ops:List Oper)(s:St):VR St:=match Qu2 ops (HH ops []) (List.range ops.length) with
 |some _=>Xh7 P G X ops s
 |none=>match IN ops (HH ops []) ops.length (qC (HH ops []) ops.length) (List.range ops.length) with
  |some (p,mm)=>Xh5 P G X ops p mm s
  |none=>Xh7 P G X ops s
section
variable {P:Program}{F:Fence}{n:Nat}{Q:Exit->Act->World->Prop}
def Wi2(ops:List Oper):Bool:=ops.all λo=>match o.op with
 | .defer _=>false
 | .select _ _=>false
 |_=>true
def mvB(ops:List Oper)(p s:Nat):Bool:=match ops[p]? with
 |some op=>match op.op,op.dst with
  | .move x,some d=> !Nat.beq p s&&op.guard.isNone&&(HZ op).isEmpty&&Wi2 ops&&(List.range ops.length).all (λj=>Nat.beq j p||(match ops[j]? with
   |some oj=>(HZ oj).any (Nat.beq p)||op.apart ops.toArray oj
   |none=>true))
  |_,_=>false
 |none=>false
section
variable {ops:Array Oper}
theorem NM{p:Nat}{op:Oper}{x:Operand}{v:Value}(ho:ops[p]? =some op)(hop:op.op= .move x)(hg:op.guard=none){K:Act->World->Prop}{a:Act}{w:World}(hv:a.eval x=v)(h:K (a.put op.dst v) w):wpOpIn F n P ops Q p K a w:=by
 obtain ⟨dst,o,type,pos,after,guard⟩:=op;simp only at hop hg h;subst hop hg;unfold wpOpIn;rw [ho];have hw:Region.wanted (⟨dst,.move x,type,pos,after,none⟩:Oper) (yielded ops a.tmps)=true:=by simp [Region.wanted]
 have hs:(Oper.semAt F.round a.eval ⟨dst,.move x,type,pos,after,none⟩).run P w= .ok (.value v) w:=by
  rw [Oper.semAt_eq _ _ _ (λc h=>by cases h)]
  simp [execOp,hv]
 simp only [hw,if_true,Oper.wpIn,hs,Oper.uponIn];exact ⟨λf hf=>(by cases hf),h⟩
theorem T4{j:Nat}{oi oj:Oper}{x:Operand}{v:Value}(hj:ops[j]? =some oj)(hap:oi.apart ops oj=true)(hmv:oi.op= .move x)
  (hdj: ∀c,oj.op≠ .defer c)(hsj: ∀cs b,oj.op≠ .select cs b)(hQ: ∀c a w,¬Q (.panic c) a w){K:Act->World->Prop}{a:Act}{w:World}
  (hy:a.eval x=v)(h:wpOpIn F n P ops Q j K (a.put oi.dst v) w):
  wpOpIn F n P ops Q j (λa' w'=>a'.eval x=v/\K (a'.put oi.dst v) w') a w:=by
 obtain ⟨h1,h2,h3⟩:=Oper.apart_spec hap;have keep: ∀u,(a.put oj.dst u).eval x=v:=λu=>by
  rw [Act.eval_put λd hd hxd=>h3 d hd ?_]
  ·exact hy
  ·subst hxd;exact Bd _ (List.mem_filterMap.2 ⟨.tmp d,by rw [hmv];simp [Op.operands],rfl⟩)
 unfold wpOpIn at*;simp only [hj] at*;rw [wanted_put oj a oi.dst v h1,about_put oj w a oi.dst v h1] at h;split
 ·rename_i hw;simp only [hw,if_true] at h;unfold Oper.wpIn at*;rw [about_put oj w a oi.dst v h1] at h;refine ⟨h.1,?_⟩;have h:=h.2;rw [Oper.semAt_eq _ _ _ hdj,execOp_put oj hsj a oi.dst v h1] at h;rw [Oper.semAt_eq _ _ _ hdj];generalize (execOp a.eval oj).run P w=r at*;cases r with
  |ok y w'=>
   cases y<;>simp only [Oper.uponIn] at h ⊢
   case value u=>exact ⟨keep u,by rw [←Act.put_comm a v u h2];exact h⟩
   case skip=>exact ⟨keep _,by rw [←Act.put_comm a v undef h2];exact h⟩
   case defer d=>
    refine ⟨?_,?_⟩
    ·rw [show (({a with defers:=d::a.defers}:Act).put oj.dst undef).eval x=(a.put oj.dst undef).eval x from by cases oj.dst<;>cases x<;>rfl]
     exact keep undef
    ·rw [←Act.put_comm _ v undef h2,←Act.put_defers];exact h
   case enter f args=>
    refine ⟨h.1,CallsIn.mono h.2 λe w'' he=>?_⟩
    cases e with
    |returned u=>exact ⟨keep u,by rw [←Act.put_comm a v u h2];exact he⟩
    |panicked c=>exact (hQ _ _ _ he).elim
    |outgrown=>exact he
   case row row args=>exact ⟨h.1,RowsIn.mono h.2 λu w'' he=>⟨keep u,by rw [←Act.put_comm a v u h2];exact he⟩⟩
   case round l f tmps assign body=>
    refine ⟨h.1,RoundIn.mono h.2 λe w'' he=>?_⟩
    cases e with
    |returned u=>exact ⟨keep u,by rw [←Act.put_comm a v u h2];exact he⟩
    |panicked c=>exact (hQ _ _ _ he).elim
    |outgrown=>exact he
  |halt u w'=>
   cases u<;>simp only [Oper.uponIn] at h ⊢
   case panic u=>exact (hQ _ _ _ h).elim
 ·rename_i hw;simp only [hw] at h;exact ⟨h.1,keep _,by rw [←Act.put_comm a v undef h2];exact h.2⟩
theorem pJ{p:Nat}{op:Oper}{x:Operand}{v:Value}(O:ops[p]? =some op)(hop:op.op= .move x)(hg:op.guard=none)
  (hnd: ∀(j:Nat) (o:Oper),ops[j]? =some o->(∀c,o.op≠ .defer c)/\ ∀cs b,o.op≠ .select cs b)(hQ: ∀c a w,¬Q (.panic c) a w)
  (Wq3: ∀j oj,ops[j]? =some oj->j≠p->(∀k∈HZ oj,k≠p)->op.apart ops oj=true):
  ∀(fuel:Nat) (L:Array Bool) (a:Act) (w:World),L.size=ops.size-> ¬inS L p->p∈Region.ready .any ops L->a.eval x=v->
   wpAnyIn F n P .any ops Q fuel (L.setIfInBounds p true) (a.put op.dst v) w->wpAnyIn F n P .any ops Q (fuel+1) L a w:=by
 have hpl:p<ops.size:=(PD.1 O).1;have mono: ∀(L:Array Bool) (j:Nat),L.size=ops.size->j∈Region.ready .any ops L->j≠p->j∈Region.ready .any ops (L.setIfInBounds p true):=by
  intro L j hL hj hne;obtain ⟨g1,g2,o,g3,g4⟩:=HW hj;have hpL:p<L.size:=by rw [hL];exact hpl
  refine FE (by simp [hL]) g3 (λhh=>?_) (λk hk=>(UU hpL).2 (.inr (g4 k hk)))
  rcases (UU hpL).1 hh with hh|hh
  ·exact hne hh
  ·exact qB (by rw [hL];exact g1) g2 hh
 intro fuel
 induction fuel with
 |zero=>
  intro L a w hL hn Z hy H;refine ⟨λh=>(by rw [h] at Z;cases Z),λj hj=>?_⟩
  by_cases hjp:j=p
  ·subst hjp;exact NM O hop hg hy H
  ·have:=mono L j hL hj hjp;rw [H.1] at this;cases this
 |succ fuel ih=>
  intro L a w hL hn Z hy H;refine ⟨λh=>(by rw [h] at Z;cases Z),λj hj=>?_⟩
  by_cases hjp:j=p
  ·subst hjp;exact NM O hop hg hy H
  ·have h1:=H.2 j (mono L j hL hj hjp);obtain ⟨g1,g2,oj,g3,g4⟩:=HW hj;have hap:=Wq3 j oj g3 hjp λk hk he=>hn (he▸g4 k hk)
   have h2:=T4 g3 hap hop (hnd j oj g3).1 (hnd j oj g3).2 hQ hy h1;have hjL:j<L.size:=by rw [hL];exact g1
   refine wpOpIn_mono (λa' w' h3=>ih (L.setIfInBounds j true) a' w' (by simp [hL]) (λhh=>?_) ?_ h3.1 ?_) h2
   ·rcases (UU hjL).1 hh with hh|hh
    ·exact hjp hh.symm
    ·exact hn hh
   ·obtain ⟨q1,q2,o',q3,q4⟩:=HW Z;refine FE (by simp [hL]) q3 (λhh=>?_) λk hk=>(UU hjL).2 (.inr (q4 k hk))
    rcases (UU hjL).1 hh with hh|hh
    ·exact hjp hh.symm
    ·exact hn hh
   ·rw [Array.setIfInBounds_comm _ _ hjp];exact h3.2
end
theorem Qu3{ops ops2:Array Oper}{p s:Nat}(h2:ops2.toList=PW p s ops.toList)(hmv:mvB ops.toList p s=true)(hq: ∀c a w,¬Q (.panic c) a w){a:Act}{w:World}
  (h:wpAnyIn F n P .any ops2 Q ops.size (Array.replicate ops.size false) a w):wpAnyIn F n P .any ops Q ops.size (Array.replicate ops.size false) a w:=by
 have hg: ∀j,ops2[j]? =if j=s then (ops[j]?).map (kW p) else ops[j]? :=λj=>by
  have:=zD p s ops.toList j;rw [←h2] at this;simpa using this
 have uG:ops2.size=ops.size:=by
  have:=PO p s ops.toList;rw [←h2] at this;simpa using this
 unfold mvB at hmv;split at hmv
 rotate_left
 ·cases hmv
 rename_i op hop;have hop:ops[p]? =some op:=by simpa using hop
 split at hmv
 rotate_left
 ·cases hmv
 rename_i x d hx hd;simp only [HE,Option.isNone_iff_eq_none,Ax,BA,Bl,List.mem_range,List.isEmpty_iff] at hmv;obtain ⟨⟨⟨⟨hps,hgd⟩,sD⟩,hnd⟩,D4⟩:=hmv;have hps:p≠s:=λh=>by rw [h] at hps;simp at hps
 have hpl:p<ops.size:=(PD.1 hop).1;have hnd': ∀(j:Nat) (o:Oper),ops[j]? =some o->(∀c,o.op≠ .defer c)/\ ∀cs b,o.op≠ .select cs b:=by
  intro j o ho;unfold Wi2 at hnd;have:=BA.1 hnd o (by
   have:ops.toList[j]? =some o:=by simpa using ho
   exact F7 this)
  exact ⟨λc hc=>(by rw [hc] at this;cases this),λcs b hc=>(by rw [hc] at this;cases this)⟩
 have Wq3: ∀j oj,ops[j]? =some oj->j≠p->(∀k∈HZ oj,k≠p)->op.apart ops oj=true:=by
  intro j oj hj hne hno;have hjl:j<ops.toList.length:=by simpa using (PD.1 hj).1
  rcases D4 j hjl with h|h
  ·exact absurd (H4 h) hne
  ·have hj':ops.toList[j]? =some oj:=by simpa using hj
   rw [hj'] at h;simp only [Bl] at h;rcases h with h|h
   ·exfalso;obtain ⟨k,hk,hb⟩:=List.any_eq_true.1 h;exact hno k hk (H4 hb).symm
   ·simpa using h
 -- with the move behind us both regions are one
 have sub: ∀L i,L.size=ops.size->i∈Region.ready .any ops2 L->i∈Region.ready .any ops L:=by
  intro L i hL O;obtain ⟨g1,g2,o,g3,g4⟩:=HW O;have hn: ¬inS L i:=qB (by rw [hL,←uG];exact g1) g2
  rw [hg] at g3;by_cases his:i=s
  ·rw [if_pos his,Ay] at g3;obtain ⟨os,hos,rfl⟩:=g3;exact FE hL hos hn λj hj=>g4 j (qE.2 (.inl hj))
  ·rw [if_neg his] at g3;exact FE hL g3 hn g4
 have sup: ∀L i,L.size=ops.size->i∈Region.ready .any ops L->inS L p->i∈Region.ready .any ops2 L:=by
  intro L i hL O hp;obtain ⟨g1,g2,o,g3,g4⟩:=HW O;have hn: ¬inS L i:=qB (by rw [hL];exact g1) g2
  by_cases his:i=s
  ·refine FE (by rw [hL,uG]) (o:=kW p o) (by rw [hg,if_pos his,g3];rfl) hn λj hj=>?_
   rcases qE.1 hj with hj|rfl
   ·exact g4 j hj
   ·exact hp
  ·exact FE (by rw [hL,uG]) (by rw [hg,if_neg his];exact g3) hn g4
 have hA: ∀(fuel:Nat) (L:Array Bool) (a:Act) (w:World),L.size=ops.size->inS L p->wpAnyIn F n P .any ops2 Q fuel L a w->wpAnyIn F n P .any ops Q fuel L a w:=by
  intro fuel
  induction fuel with
  |zero=>
   intro L a w hL hp h;refine ⟨?_,h.2⟩;rw [List.eq_nil_iff_forall_not_mem];intro i O;have:=sup L i hL O hp;rw [h.1] at this;cases this
  |succ fuel ih=>
   intro L a w hL hp h;refine ⟨λZ=>h.1 ?_,λi O=>?_⟩
   ·rw [List.eq_nil_iff_forall_not_mem];intro i O;have:=sub L i hL O;rw [Z] at this;cases this
   ·have hiL:i<L.size:=by rw [hL];exact (HW O).1
    exact wpOpIn_mono (λa' w' h'=>ih (L.setIfInBounds i true) a' w' (by simp [hL]) ((UU hiL).2 (.inr hp)) h') ((zC h2).1 (h.2 i (sup L i hL O hp)))
 have hno: ∀j,¬inS (Array.replicate ops.size false) j:=by
  intro j hj;unfold inS at hj;rw [LV,Array.getElem?_replicate] at hj;split at hj<;>cases hj
 have hL0:(Array.replicate ops.size false).size=ops.size:=VZ;obtain ⟨f,hf⟩: ∃f,ops.size=f+1:=⟨ops.size-1,VO⟩;rw [show wpAnyIn F n P .any ops2 Q ops.size (Array.replicate ops.size false) a w=wpAnyIn F n P .any ops2 Q (f+1) (Array.replicate ops.size false) a w by rw [←hf]] at h
 rw [show wpAnyIn F n P .any ops Q ops.size (Array.replicate ops.size false) a w=wpAnyIn F n P .any ops Q (f+1) (Array.replicate ops.size false) a w by rw [←hf]]
 have hp0:p∈Region.ready .any ops (Array.replicate ops.size false):=FE hL0 hop (hno p) (λj hj=>by rw [sD] at hj;cases hj)
 have hp2:p∈Region.ready .any ops2 (Array.replicate ops.size false):=FE (by rw [hL0,uG]) (o:=op) (by rw [hg,if_neg hps];exact hop) (hno p) (λj hj=>by rw [sD] at hj;cases hj)
 have h3:=(zC h2).1 (h.2 p hp2)
 -- the move is done
 have h4:wpAnyIn F n P .any ops2 Q f ((Array.replicate ops.size false).setIfInBounds p true) (a.put op.dst (a.eval x)) w:=by
  obtain ⟨dst,o,type,pos,after,guard⟩:=op;simp only at hx hgd;subst hx hgd;unfold wpOpIn at h3;rw [hop] at h3;have hw:Region.wanted (⟨dst,.move x,type,pos,after,none⟩:Oper) (yielded ops a.tmps)=true:=by simp [Region.wanted]
  have hs:(Oper.semAt F.round a.eval ⟨dst,.move x,type,pos,after,none⟩).run P w= .ok (.value (a.eval x)) w:=by
   rw [Oper.semAt_eq _ _ _ (λc h=>by cases h)]
   simp [execOp]
  simp only [hw,if_true,Oper.wpIn,hs,Oper.uponIn] at h3;exact h3.2
 exact pJ hop hx hgd hnd' hq Wq3 f _ a w hL0 (hno p) hp0 rfl (hA f _ _ w VZ ((UU (by simpa using hpl)).2 (.inl rfl)) h4)
end
def mvGo(ops:List Oper)(k:Nat):Option Nat:=(List.range k).find? λp=> !Nat.testBit ((HH ops []).getD k 0) p&&mvB ops p k
def Wf0(P:Program)(G:List (Nat×Spec))(X:Ext):Nat->List Oper->St->VR St
 | 0,ops,s=>oG P G X ops s
 |f+1,ops,s=>match Qu2 ops (HH ops []) (List.range ops.length) with
  |some (p,k)=>match exB ops p k with
   |true=>oG P G X ops s
   |false=>match mvGo ops k with
    |some q=>match mvB ops q k with
     |true=>Wf0 P G X f (PW q k ops) s
     |false=>oG P G X ops s
    |none=>match IN ops (HH ops []) ops.length (qC (HH ops []) ops.length) (List.range ops.length) with
     |some (p,mm)=>Xh5 P G X ops p mm s
     |none=>oG P G X ops s
  |none=>oG P G X ops s
theorem kC{P:Program}{G:List (Nat×Spec)}{X:Ext}{ops:Array Oper}{c:Cx}(hG:VP P G)(hX:U1 P X c)(GW:P.follows .mixedOrders=true){s:St}{R:St->Prop}{Q:Exit->Act->World->Prop}(h:(oG P G X ops.toList s).sat R){a:Act}{w:World}(r:Rel c s a w){ro:Option Nat}{n:Nat}
  (hQ: ∀s a w,R s->Rel c s a w->Q .normal a w)(hno: ∀c a w,¬Q (.panic c) a w):wpAnyIn (fr ro) n P .any ops Q ops.size (Array.replicate ops.size false) a {w with drawn:=w.drawn+1}:=by
 have hE: ∀h:(Xh7 P G X ops.toList s).sat R,wpAnyIn (fr ro) n P .any ops Q ops.size (Array.replicate ops.size false) a {w with drawn:=w.drawn+1}:=by
  intro h;unfold Xh7 at h;split at h
  ·rename_i p k _;split at h
   ·rename_i hex;have h1:=CK (ops:=(PW p k ops.toList).toArray) (Q:=Q) hG hX GW (ro:=ro) (n:=n) (R:=R) (by simpa using h) r hQ
    have hs:(PW p k ops.toList).toArray.size=ops.size:=by simp [PO]
    rw [hs] at h1;have hno': ∀j,¬inS (Array.replicate ops.size false) j:=by
     intro j hj;unfold inS at hj;rw [LV,Array.getElem?_replicate] at hj;split at hj<;>cases hj
    exact Wv1 rfl hex hno ops.size _ a _ VZ (λj o _ hj=>absurd hj (hno' j)) (.inr (hno' k)) h1
   ·exact CK hG hX GW h r hQ
  ·exact CK hG hX GW h r hQ
 unfold oG at h;split at h
 ·exact hE h
 ·split at h
  ·rename_i p mm hf;obtain ⟨h1,h2⟩:=kT hf;exact eJ hG hX GW h1 h2 h r hQ
  ·exact hE h
theorem eM{P:Program}{G:List (Nat×Spec)}{X:Ext}{c:Cx}(hG:VP P G)(hX:U1 P X c)(GW:P.follows .mixedOrders=true){s:St}{R:St->Prop}{Q:Exit->Act->World->Prop}{a:Act}{w:World}(r:Rel c s a w){ro:Option Nat}{n:Nat}
  (hQ: ∀s a w,R s->Rel c s a w->Q .normal a w)(hno: ∀c a w,¬Q (.panic c) a w): ∀(f:Nat) (ops:Array Oper),(Wf0 P G X f ops.toList s).sat R->wpAnyIn (fr ro) n P .any ops Q ops.size (Array.replicate ops.size false) a {w with drawn:=w.drawn+1}
 | 0,ops,h=>kC hG hX GW h r hQ hno
 |f+1,ops,h=>by
  unfold Wf0 at h;split at h
  ·rename_i p0 k _;split at h
   ·exact kC hG hX GW h r hQ hno
   ·split at h
    ·rename_i q _;split at h
     ·rename_i hb;have h1:=eM (ro:=ro) (n:=n) hG hX GW r hQ hno f (PW q k ops.toList).toArray (by simpa using h)
      have hs:(PW q k ops.toList).toArray.size=ops.size:=by simp [PO]
      rw [hs] at h1;exact Qu3 rfl hb hno h1
     ·exact kC hG hX GW h r hQ hno
    ·split at h
     ·rename_i p mm hf;obtain ⟨h1,h2⟩:=kT hf;exact eJ hG hX GW h1 h2 h r hQ
     ·exact kC hG hX GW h r hQ hno
  ·exact kC hG hX GW h r hQ hno
theorem oJ{P:Program}{G:List (Nat×Spec)}{X:Ext}{f:Nat}{ops:Array Oper}{c:Cx}(hG:VP P G)(hX:U1 P X c)(GW:P.follows .mixedOrders=true){id:Nat}{s:St}{R:St->Prop}{Q:Exit->Act->World->Prop}(h:(Wf0 P G X f ops.toList s).sat R){a:Act}{w:World}(r:Rel c s a w){ro:Option Nat}{n:Nat}
  (hQ: ∀s a w,R s->Rel c s a w->Q .normal a w):(Code.region id ops true).wpIn (fr ro) n P Q a w:=by
 refine wpIn_region_any GW ?_
 let Q':Exit->Act->World->Prop:=λe a w=>match e with
  | .normal=>Q .normal a w
  |_=>False
 refine NN (Q:=Q') (λe a w hq=>?_) (eM (Q:=Q') hG hX GW r hQ (λc a w hq=>hq) f ops h)
 cases e<;>first|exact hq|exact hq.elim
def zP:Op->Bool
 | .move _=>true
 | .assign _=>true
 | .extract _ _=>true
 | .nilCheck _=>true
 | .fieldAddr _ _ _=>true
 | .load _ _=>true
 | .lookup _ _ _ _=>true
 |_=>false
def Zl9:Op->Bool
 | .lookup _ _ _ _=>true
 |_=>false
section
variable {P:Program}
def stT(P:Program):List Oper->St->VR St
 |[],s=> .leaf s
 |o::rest,s=>match o.guard with
  |some _=> .fail
  |none=>match zP o.op with
   |false=> .fail
   |true=>match aop P [] s.nx s.m (rho s.σ) o.op with
    |some (ns,val,_)=> .needT ns (stT P rest {s with σ:=xM s.σ o.dst val})
    |none=>match mI P s.m (rho s.σ) o.op with
     |some (ns,p,v1,v2)=> .needT ns (.may p (stT P rest {s with σ:=xM s.σ o.dst v1}) (stT P rest {s with σ:=xM s.σ o.dst v2}))
     |none=> .fail
section
variable {o:Oper}{a:Act}{w:World}
theorem L3{v:Value}{K:Act->Prop}(h:(execOp a.eval o).run P w= .ok (.value v) w)(k:K (a.put o.dst v)):o.still P a w K:=by
 unfold Oper.still;rw [h];exact ⟨rfl,k⟩
theorem cU{s:Sem Value}{K:Act->Prop}(hs:execOp a.eval o=(do pure (.value (←s))))(h:o.wp P a w (λa' w'=>w'=w/\K a') (λ_ _ _=>False)):o.still P a w K:=by
 unfold Oper.wp at h;rw [hs,At] at h;unfold Oper.still;rw [hs,At];cases Z:s.run P w with
 |ok u w'=>
  rw [Z] at h;simp only [Au,Sem.run_pure,Oper.upon] at h;simp only [Au,Sem.run_pure,Oper.stillUpon];exact h
 |halt x w'=>
  rw [Z] at h;cases x<;>simp [Result.andThen,Oper.upon] at h
end
section
variable {e:UP}{w:World}{m:H9}
theorem Qw5{id:Nat}{ρ:Operand->AV}{o:Oper}{a:Act}{ns:List Prop}{val:AV}{add:Option GU}(ho:zP o.op=true)
  (h:aop P [] id m ρ o.op=some (ns,val,add))(hn: ∀p∈ns,p)(hm:UZ e m w)(Z: ∀x,Rep e w (ρ x) (a.eval x))
  {K:Act->Prop}(hK: ∀v,Rep e w val v->K (a.put o.dst v)):o.still P a w K:=by
 obtain ⟨dst,op,type,pos,after,guard⟩:=o;cases op<;>try (simp [zP] at ho;done)
 case move x=>
  simp only [aop,HJ,FG] at h;obtain ⟨rfl,rfl,rfl⟩:=h;exact L3 (v:=a.eval x) (by simp [execOp]) (hK _ (Z x))
 case assign x=>
  simp only [aop,HJ,FG] at h;obtain ⟨rfl,rfl,rfl⟩:=h;exact L3 (v:=a.eval x) (by simp [execOp]) (hK _ (Z x))
 case load t x=>
  obtain ⟨rfl,ad,u,hv,hu,GQ⟩:=kH (P:=P) (by simpa only [aop] using h) hn hm (Z x)
  exact L3 (v:=u) (by simp [execOp,Instr.loadAt,Instr.sureAddr,hv,hu]) (hK _ GQ)
 case nilCheck x=>
  simp only [aop] at h;have hx:=Z x;have fin:val=ρ x->(∃ad,a.eval x= .pointer (some ad))\/(∃f l l',a.eval x= .func (.func f) l l')->Oper.still P ⟨dst,.nilCheck x,type,pos,after,guard⟩ a w K:=by
   rintro rfl hv;refine L3 (v:=a.eval x) ?_ (hK _ (Z x));rcases hv with ⟨ad,hv⟩|⟨f,l,l',hv⟩<;>simp [execOp,hv]
  split at h
  ·rename_i heq;rw [heq] at hx;cases h;exact fin heq.symm (.inl hx.ptr_inv)
  ·rename_i heq;rw [heq] at hx;cases h;exact fin heq.symm (.inl hx.ro_inv)
  ·rename_i heq;rw [heq] at hx;cases h;exact fin heq.symm (.inl hx.elt_inv)
  ·rename_i heq;rw [heq] at hx;cases h;exact fin heq.symm (.inl hx.roI_inv)
  ·rename_i heq;rw [heq] at hx;cases h;obtain ⟨vs,vs',hv,_⟩:=hx.fn_inv;exact fin heq.symm (.inr ⟨_,_,_,hv⟩)
  ·cases h
 case fieldAddr t x k=>
  simp only [aop] at h;unfold wL at h;split at h
  ·rename_i fs hu;split at h
   ·rename_i f hf;split at h
    ·rename_i i O;split at h
     ·cases h
     ·rename_i s hs;obtain ⟨k1,rfl,rfl⟩:=RJ h;obtain ⟨ad,hv,GQ⟩:=vO k1 (Z x);refine L3 (v:=_) ?_ (hK _ GQ);simp [execOp,hv,Instr.fieldAt,run_underlying hu,hf,Instr.sureAddr,fieldPlace,sizeOf,typeInfo,O,hs]
    ·cases h
   ·cases h
  ·cases h
 case extract x i=>
  simp only [aop] at h;have hx:=Z x;split at h
  ·rename_i l heq;rw [heq] at hx;obtain ⟨k1,rfl,rfl⟩:=RJ h;obtain ⟨vs,hv,hvs⟩:=hx.tup_inv;obtain ⟨u,hu,GQ⟩:=hvs.get k1;exact L3 (v:=u) (by simp [execOp,Instr.extract,hv,hu]) (hK _ GQ)
  ·cases h
 case lookup t x k ok=>
  obtain ⟨rfl,u,h1,h2⟩:=rM (P:=P) (by simpa only [aop] using h) (Z x) (Z k)
  exact L3 (v:=u) (by simp [execOp,h1]) (hK _ h2)
theorem tH{ρ:Operand->AV}{o:Oper}{a:Act}{ns:List Prop}{p:Prop}{v1 v2:AV}(ho:zP o.op=true)(h:mI P m ρ o.op=some (ns,p,v1,v2))(hn: ∀p∈ns,p)(hm:UZ e m w)(Z: ∀x,Rep e w (ρ x) (a.eval x))
  {K:Act->Prop}(hK: ∀v,(p/\Rep e w v1 v)\/Rep e w v2 v->K (a.put o.dst v)):o.still P a w K:=by
 have hwp:=M8 (P:=P) (o:=o) (a:=a) (K:=λa' w'=>w'=w/\K a') (Q:=λ_ _ _=>False) h hn hm Z (λv hv=>⟨rfl,hK v hv⟩)
 obtain ⟨dst,op,type,pos,after,guard⟩:=o;cases op<;>try (simp [zP] at ho;done)
 case lookup t x k ok=>exact cU rfl hwp
 all_goals simp [mI] at h
end
theorem yD{ops:Array Oper}{c:Cx}{w0:World}{T:Nat->Prop}{e:UP}{w:World}{R:St->Prop}{g:Option Nat}: ∀(l:List Oper) (s:St) (a:Act),(stT P l s).sat R->s.gh=g->F9 c w0 T e s a w->
  wpStill P ops w (λa'=> ∃s',R s'/\s'.gh=g/\F9 c w0 T e s' a' w) l a
 |[],s,a,h,hg,r=>⟨s,h,hg,r⟩
 |o::rest,s,a,h,hgh,r=>by
  unfold stT at h;split at h
  ·exact h.elim
  ·rename_i hg;split at h
   ·exact h.elim
   ·rename_i ho;have hw:Region.wanted o (yielded ops a.tmps)=true:=by simp [Region.wanted,hg]
    unfold wpStill;rw [if_pos hw];have keep: ∀{av:AV} {v:Value},Rep e w av v->F9 c w0 T e {s with σ:=xM s.σ o.dst av} (a.put o.dst v) w:=λGQ=>
     ⟨r.env,r.below,r.mem,r.live,r.foe,by rw [put_defers];exact r.xt,qG r.slots o.dst GQ⟩
    split at h
    ·rename_i ns val add ha;obtain ⟨hn,h⟩:=VR.sat_needT h;exact Qw5 ho ha (GH hn) r.mem (FP r.slots) λv hv=>yD rest _ _ h hgh (keep hv)
    ·split at h
     ·rename_i ns p v1 v2 ha;obtain ⟨hn,h⟩:=VR.sat_needT h;refine tH ho ha (GH hn) r.mem (FP r.slots) λv hv=>?_
      rcases hv with ⟨hp,hv⟩|hv
      ·exact yD rest _ _ (h.1 hp) hgh (keep hv)
      ·exact yD rest _ _ h.2 hgh (keep hv)
     ·exact h.elim
theorem xG{ops:Array Oper}{md:Region.Mode}{w:World}{ro:Option Nat}{n:Nat}{Q:Act->Prop}{Q':Exit->Act->World->Prop}(hnd: ∀(j:Nat) (o:Oper),ops[j]? =some o-> ∀c,o.op≠ .defer c)(hQ: ∀a,Q a->Q' .normal a w):
  ∀(fuel:Nat) (listed:Array Bool) (a:Act),wpAnyS P md ops w Q fuel listed a->wpAnyIn (fr ro) n P md ops Q' fuel listed a w
 | 0,_,_,h=>⟨h.1,hQ _ h.2⟩
 |fuel+1,listed,a,h=>⟨λh0=>hQ _ (h.1 h0),λi O=>by
  have h:=h.2 i O;have ih:=λl a=>xG (md:=md) (ro:=ro) (n:=n) hnd hQ fuel l a
  unfold stOp at h;unfold wpOpIn;cases ho:ops[i]? with
  |none=>
   simp only [ho] at h;exact ih _ _ h
  |some o=>
   simp only [ho] at h;simp only;by_cases hw:Region.wanted o (yielded ops a.tmps)=true
   ·rw [if_pos hw] at h ⊢;exact HQ (hnd i o ho) (Oper.wp_of_still (λa' h'=>ih _ a' h') h)
   ·rw [if_neg hw] at h ⊢;exact ⟨λf _=>trivial,ih _ _ h⟩⟩
def MA(ops:List Oper):Bool:=ops.any (λo=>Zl9 o.op)&&(ops.all (λo=>zP o.op)&&Region.lexB .any ops.toArray)
theorem cT{ops:Array Oper}{c:Cx}(GW:P.follows .mixedOrders=true){id:Nat}{s:St}{R:St->Prop}{Q:Exit->Act->World->Prop}(hB:MA ops.toList=true)(h:(stT P ops.toList s).sat R){a:Act}{w:World}(r:Rel c s a w){ro:Option Nat}{n:Nat}
  (hQ: ∀s a w,R s->Rel c s a w->Q .normal a w):(Code.region id ops true).wpIn (fr ro) n P Q a w:=by
 obtain ⟨w0,T,e,hΦ,r⟩:=r;unfold MA at hB;simp only [HE] at hB;obtain ⟨_,hs,Wq2⟩:=hB;have Wq2:Region.lexB .any ops=true:=by simpa using Wq2
 simp only [Region.lexB,HE] at Wq2;refine wpIn_region_any GW ?_;have h1:=yD (ops:=ops) ops.toList s a h rfl r.drew;have h2:=wpAnyS_lex (md:= .any) Wq2.1 ops.toList 0 (Array.replicate ops.size false) a VZ (by simpa using Wq2.2) h1
 refine xG (Q:=λa'=> ∃s',R s'/\s'.gh=s.gh/\F9 c w0 T e s' a' {w with drawn:=w.drawn+1}) (λj o hj c hc=>?_) ?_ ops.size _ a (by simpa using h2)
 rotate_left
 ·rintro a' ⟨s',hR,hgh,r'⟩;exact hQ s' a' _ hR ⟨w0,T,e,by rw [hgh];exact hΦ,r'⟩
 have:=BA.1 hs o (by
  have:ops.toList[j]? =some o:=by simpa using hj
  exact F7 this)
 rw [hc] at this;simp [zP] at this
end
def Xh6(P:Program)(G:List (Nat×Spec))(X:Ext)(ops:List Oper)(s:St):VR St:=match MA ops with
 |true=>stT P ops s
 |false=>Wf0 P G X 4 ops s
theorem CJ{P:Program}{G:List (Nat×Spec)}{X:Ext}{ops:Array Oper}{c:Cx}(hG:VP P G)(hX:U1 P X c)(GW:P.follows .mixedOrders=true){id:Nat}{s:St}{R:St->Prop}{Q:Exit->Act->World->Prop}(h:(Xh6 P G X ops.toList s).sat R){a:Act}{w:World}(r:Rel c s a w){ro:Option Nat}{n:Nat}
  (hQ: ∀s a w,R s->Rel c s a w->Q .normal a w):(Code.region id ops true).wpIn (fr ro) n P Q a w:=by
 unfold Xh6 at h;split at h
 ·rename_i hB;exact cT GW hB h r hQ
 ·exact oJ hG hX GW h r hQ
inductive GB where
 |normal
 |exit (id:Nat)
 |ret
def GB.ex:GB->Exit
 | .normal=> .normal
 | .exit id=> .exit id
 | .ret=> .ret
abbrev CT:=VR (GB×St)
def CR(cx:Cx)(Q:GB×St->Prop):Exit->Act->World->Prop:=λe a w=> ∃x s,e=GB.ex x/\Q (x,s)/\Rel cx s a w
abbrev UN:=St->Option CT
def HN(P:Program)(ro:Option Nat)(cx:Cx)(c:Code)(sp:UN):Prop:= ∀(n:Nat) (s:St) (t:CT),sp s=some t-> ∀Q:GB×St->Prop,t.sat Q-> ∀(a:Act) (w:World),Rel cx s a w->c.wpIn (fr ro) n P (CR cx Q) a w
def GC(P:Program)(c:Code)(sp:UN):Prop:= ∀(ro:Option Nat) (cx:Cx),HN P ro cx c sp
def GJ:Code->Nat
 | .seq a b=>GJ a+GJ b
 | .cond _ a b=>GJ a+GJ b
 | .block _ c=>GJ c
 | .scope c=>GJ c
 | .loop _=>1
 | .rangeFunc .. =>1
 |_=>0
def VX:Code->Nat->Option Code
 | .seq a b,j=>match Nat.blt j (GJ a) with
  |true=>VX a j
  |false=>VX b (j-GJ a)
 | .cond _ a b,j=>match Nat.blt j (GJ a) with
  |true=>VX a j
  |false=>VX b (j-GJ a)
 | .block _ c,j=>VX c j
 | .scope c,j=>VX c j
 | .loop c,j=>match j with
  | 0=>some (.loop c)
  |_+1=>none
 | .rangeFunc f ps a b,j=>match j with
  | 0=>some (.rangeFunc f ps a b)
  |_+1=>none
 |_,_=>none
theorem P8: ∀(c:Code) (j:Nat),GJ c<=j->VX c j=none:=by
 intro c
 induction c with
 |seq a b iha ihb=>
  intro j hj;simp only [GJ] at hj;unfold VX;have:Nat.blt j (GJ a)=false:=by
   rw [Bool.eq_false_iff,ne_eq,Aw];omega
  rw [this];exact ihb _ VO
 |cond t a b iha ihb=>
  intro j hj;simp only [GJ] at hj;unfold VX;have:Nat.blt j (GJ a)=false:=by
   rw [Bool.eq_false_iff,ne_eq,Aw];omega
  rw [this];exact ihb _ VO
 |block id c ih=>intro j hj;exact ih j hj
 |scope c ih=>intro j hj;exact ih j hj
 |loop c ih=>intro j hj;simp only [GJ] at hj;cases j with|zero=>omega|succ j=>rfl
 |rangeFunc f ps a b iha ihb=>intro j hj;simp only [GJ] at hj;cases j with|zero=>omega|succ j=>rfl
 |_=>intro j _;rfl
def lY(s:St):Operand->Bool->St
 | .tmp t,b=>Xj3 s t b
 |_,_=>s
theorem AT{F:Fence}{n:Nat}{P:Program}{Q:Exit->Act->World->Prop}{a:Act}{w:World}{c:Code}(h:c.wpIn F n P (Exit.noGoto Q) a w):(Code.scope c).wpIn F n P Q a w:=by
 intro b k cs hro hb Z;obtain ⟨e,a₁,w₁,hq,uI⟩:=h b (.inScope c::k) cs hro hb Z;have s1:step P (lone (b.atR a (.code (.scope c)::k)) cs w)= .next (lone (b.atR a (.code c:: .inScope c::k)) cs w):=step_lone_go (by simp [stepG,stepG.exec,Frame.atR])
 have s2:step P (lone (b.atR a₁ (.inScope c::k)) cs w₁)= .next (lone (b.atR a₁ k) cs w₁):=step_lone_go (by simp [stepG,stepG.exec,Frame.atR])
 have h0:(lone (b.atR a (.code (.scope c)::k)) cs w).fenced P F:=fenced_calm hb Z rfl;cases e with
 |normal=>exact ⟨.normal,a₁,w₁,hq,.head h0 s1 (StepsIn.trans uI (.one (fenced_calm hb Z rfl) s2))⟩
 |exit id=>
  have hx:exitTo id (.inScope c::k)=exitTo id k:=by simp [exitTo]
  exact ⟨.exit id,a₁,w₁,hq,λk' hk=> .head h0 s1 (uI.1 k' (by rw [hx];exact hk)),λhr' hk=>let ⟨k₁,h1,h2⟩:=uI.2 hr' (by rw [hx];exact hk);⟨k₁,h1,.head h0 s1 h2⟩⟩
 |goto l=>exact hq.elim
 |ret=>exact ⟨_,a₁,w₁,hq,.of_steps (.one h0 s1) uI⟩
 |panic ch=>exact ⟨_,a₁,w₁,hq,.of_steps (.one h0 s1) uI⟩
 |outgrown=>exact ⟨_,a₁,w₁,hq,.of_steps (.one h0 s1) uI⟩
def DA(P:Program)(G:List (Nat×Spec))(X:Ext)(L:List UN):Code->Nat->St->CT
 | .skip,_,s=> .leaf (.normal,s)
 | .label _,_,s=> .leaf (.normal,s)
 | .region _ ops draw,_,s=>match draw with
  |true=>(Xh6 P G X ops.toList s).bind λs=> .leaf (.normal,s)
  |false=>(We9 P G X ops.toList ops.toList s).bind λs=> .leaf (.normal,s)
 | .seq a b,off,s=>(DA P G X L a off s).bind λp=>match p.1 with
  | .normal=>DA P G X L b (off+GJ a) p.2
  |x=> .leaf (x,p.2)
 | .cond c a b,off,s=>match rho s.σ c with
  | .lit true=>DA P G X L a off s
  | .lit false=>DA P G X L b (off+GJ a) s
  | .x (.bool t)=> .branch t (DA P G X L a off (lY s c true)) (DA P G X L b (off+GJ a) (lY s c false))
  |_=> .fail
 | .block id c,off,s=>(DA P G X L c off s).bind λp=>match p.1 with
  | .exit i=>match Nat.beq i id with
   |true=> .leaf (.normal,p.2)
   |false=> .leaf (.exit i,p.2)
  |x=> .leaf (x,p.2)
 | .scope c,off,s=>DA P G X L c off s
 | .loop _,off,s=>match L[off]? with
  |some f=>match f s with
   |some t=>t
   |none=> .fail
  |none=> .fail
 | .rangeFunc _ _ _ _,off,s=>match L[off]? with
  |some f=>match f s with
   |some t=>t
   |none=> .fail
  |none=> .fail
 | .exit id,_,s=> .leaf (.exit id,s)
 | .ret,_,s=> .leaf (.ret,s)
 | .goto _,_,_=> .fail
 | .refuse _,_,_=> .fail
theorem dE{cx:Cx}{s:St}{a:Act}{w:World}{c:Operand}{b d:Bool}(r:Rel cx s a w)(hc:rho s.σ c= .x (.bool b))(hb:b=d):Rel cx (lY s c d) a w:=by
 obtain ⟨w0,T,e,hΦ,r⟩:=r;cases c with
 |tmp t=>exact ⟨w0,T,e,hΦ,aG r hc hb⟩
 |_=>exact ⟨w0,T,e,hΦ,r⟩
theorem DE{P:Program}{G:List (Nat×Spec)}{X:Ext}{cx:Cx}{L:List UN}(hG:VP P G)(hX:U1 P X cx)(GW:P.follows .mixedOrders=true){ro:Option Nat}{n:Nat}:
  ∀(c:Code) (off:Nat) (s:St) (Q:GB×St->Prop) (a:Act) (w:World),(∀j cj,VX c j=some cj-> ∀sp,L[off+j]? =some sp->HN P ro cx cj sp)->(DA P G X L c off s).sat Q->Rel cx s a w->c.wpIn (fr ro) n P (CR cx Q) a w:=by
 intro c
 induction c with
 |skip=>intro off s Q a w _ h r;exact wpIn_skip ⟨.normal,s,rfl,h,r⟩
 |label l=>intro off s Q a w _ h r;exact wpIn_label ⟨.normal,s,rfl,h,r⟩
 |region id ops draw=>
  intro off s Q a w _ h r;unfold DA at h;cases draw with
  |true=>exact CJ hG hX GW (VR.sat_bind h) r (λs' a' w' hs Z=>⟨.normal,s',rfl,hs,Z⟩)
  |false=>
   refine wpIn_region ?_;have:=vP hG hX (ro:=ro) (n:=n) (ops:=ops) (Q:=CR cx Q) (R:=λs=>Q (.normal,s)) (λs' a' w' hs Z=>⟨.normal,s',rfl,hs,Z⟩) ops.toList 0 VZ s a w (VR.sat_bind h) r
   rwa [Nat.sub_zero,←List.range_eq_range'] at this
 |seq x y ihx ihy=>
  intro off s Q a w hL h r;unfold DA at h;refine wpIn_seq ?_;have hx:=ihx off s _ a w (λj cj hj sp hsp=>hL j cj (by
   unfold VX;have hlt:j<GJ x:=by
    rcases An j (GJ x) with h'|h'
    ·exact h'
    ·exfalso;rw [P8 x j h'] at hj;cases hj
   have:Nat.blt j (GJ x)=true:=by rw [Aw];exact hlt
   rw [this];exact hj) sp hsp) (VR.sat_bind h) r
  refine wpIn_mono hx ?_;rintro e a' w' ⟨ex,s',rfl,hq,Z⟩;cases ex with
  |normal=>
   simp only [GB.ex,Exit.then]
   refine ihy (off+GJ x) s' Q a' w' (λj cj hj sp hsp=>hL (GJ x+j) cj ?_ sp (by rw [←Ba];exact hsp)) hq Z
   unfold VX;have:Nat.blt (GJ x+j) (GJ x)=false:=by rw [Bool.eq_false_iff,ne_eq,Aw];omega
   rw [this];simpa using hj
  |exit i=>exact ⟨.exit i,s',rfl,hq,Z⟩
  |ret=>exact ⟨.ret,s',rfl,hq,Z⟩
 |cond t x y ihx ihy=>
  intro off s Q a w hL h r;have hLx: ∀j cj,VX x j=some cj-> ∀sp,L[off+j]? =some sp->HN P ro cx cj sp:=by
   intro j cj hj sp hsp;refine hL j cj ?_ sp hsp;unfold VX;split
   ·exact hj
   ·rename_i hb;exfalso;have hge:GJ x<=j:=by
     rw [Bool.eq_false_iff,ne_eq,Aw] at hb;omega
    rw [P8 x j hge] at hj;cases hj
  have hLy: ∀j cj,VX y j=some cj-> ∀sp,L[off+GJ x+j]? =some sp->HN P ro cx cj sp:=by
   intro j cj hj sp hsp;refine hL (GJ x+j) cj ?_ sp (by rw [←Ba];exact hsp)
   unfold VX;have:Nat.blt (GJ x+j) (GJ x)=false:=by rw [Bool.eq_false_iff,ne_eq,Aw];omega
   rw [this];simpa using hj
  unfold DA at h;have r0:=r;obtain ⟨w0,T,e,hΦ,re⟩:=r;have hc:=FP re.slots t;split at h
  ·rename_i heq;rw [heq] at hc;exact wpIn_cond_true hc.lit_inv (ihx off s Q a w hLx h r0)
  ·rename_i heq;rw [heq] at hc;exact wpIn_cond_false hc.lit_inv (ihy _ s Q a w hLy h r0)
  ·rename_i b heq;rw [heq] at hc;cases b
   ·exact wpIn_cond_false hc.x_inv (ihy _ _ Q a w hLy (h.2 rfl) (dE r0 heq rfl))
   ·exact wpIn_cond_true hc.x_inv (ihx _ _ Q a w hLx (h.1 rfl) (dE r0 heq rfl))
  ·exact h.elim
 |block id c ih=>
  intro off s Q a w hL h r;unfold DA at h;refine wpIn_block (wpIn_mono (ih off s _ a w hL (VR.sat_bind h) r) ?_);rintro e a' w' ⟨ex,s',rfl,hq,Z⟩;cases ex with
  |normal=>exact ⟨.normal,s',rfl,hq,Z⟩
  |ret=>exact ⟨.ret,s',rfl,hq,Z⟩
  |exit i=>
   simp only [GB.ex,Exit.inBlock];simp only at hq;split at hq
   ·rename_i hb;rw [if_pos (H4 hb)];exact ⟨.normal,s',rfl,hq,Z⟩
   ·rename_i hb;rw [if_neg (λhe=>by subst he;simp at hb)]
    exact ⟨.exit i,s',rfl,hq,Z⟩
 |scope c ih=>
  intro off s Q a w hL h r;unfold DA at h;refine AT (wpIn_mono (ih off s Q a w hL h r) ?_);rintro e a' w' ⟨ex,s',rfl,hq,Z⟩;cases ex with
  |normal=>exact ⟨.normal,s',rfl,hq,Z⟩
  |ret=>exact ⟨.ret,s',rfl,hq,Z⟩
  |exit i=>exact ⟨.exit i,s',rfl,hq,Z⟩
 |loop c ih=>
  intro off s Q a w hL h r;unfold DA at h;split at h
  ·rename_i f hf;split at h
   ·rename_i t ht;exact hL 0 _ rfl f (by simpa using hf) n s t ht Q h a w r
   ·exact h.elim
  ·exact h.elim
 |rangeFunc f ps x y ihx ihy=>
  intro off s Q a w hL h r;unfold DA at h;split at h
  ·rename_i f hf;split at h
   ·rename_i t ht;exact hL 0 _ rfl f (by simpa using hf) n s t ht Q h a w r
   ·exact h.elim
  ·exact h.elim
 |exit id=>intro off s Q a w _ h r;exact wpIn_exit ⟨.exit id,s,rfl,h,r⟩
 |ret=>intro off s Q a w _ h r;exact wpIn_ret ⟨.ret,s,rfl,h,r⟩
 |goto l=>intro off s Q a w _ h r;exact h.elim
 |refuse y=>intro off s Q a w _ h r;exact h.elim
def Wt8(P:Program)(m:H9)(t:TypeId):AV->Bool
 | .ptr id off=>match Nat.beq off 0 with
  |true=>match DL m id with
   |some (.ints _ pre n _)=>match pre with
    |[]=>match P.info? t with
     |some i=>Nat.ble i.size n&&Nat.blt 0 n
     |none=>false
    |_::_=>false
   |_=>false
  |false=>false
 |_=>false
theorem sL{P:Program}{m:H9}{t:TypeId}{a:AV}{ns:List Prop}{v:AV}{add:Option GU}(h:Wt8 P m t a=true)(hl:BN P m t a=some (ns,v,add)): ∀p∈ns,p:=by
 unfold Wt8 at h;split at h
 ·rename_i id off;split at h
  ·rename_i aK;have aK:=H4 aK;subst aK;split at h
   ·rename_i T pre n f hg;split at h
    ·split at h
     ·rename_i i O;simp only [HE] at h;have h1:=w9 h.1;have h2:0<n:=by have:=h.2;simp [Nat.blt] at this;omega
      simp only [BN,hg] at hl;unfold ldI at hl;split at hl
      ·rename_i hb;simp at hb
      ·split at hl
       ·rename_i fs i' hu hi';rw [O] at hi';cases hi';simp only [HJ,FG] at hl;obtain ⟨rfl,_,_⟩:=hl;intro p hp;rw [B9.1 hp,wD];simpa using h1
       ·rename_i fs i' hu hi';rw [O] at hi';cases hi';simp only [HJ,FG] at hl;obtain ⟨rfl,_,_⟩:=hl;intro p hp;rw [B9.1 hp,wD];simpa using h1
       ·simp only [HJ,FG] at hl;obtain ⟨rfl,_,_⟩:=hl;intro p hp;rw [B9.1 hp,wD];simpa using h2
       ·cases hl
     ·cases h
    ·cases h
   ·cases h
  ·cases h
 ·cases h
def TH(P:Program)(s:St):ResultVar->Option AV
 | .tmp t=>some (s.σ.getD t .top)
 | .cell t T=>match BN P s.m T (s.σ.getD t .top) with
  |some ([],v,none)=>some v
  |some (_::_,v,none)=>match Wt8 P s.m T (s.σ.getD t .top) with
   |true=>some v
   |false=>none
  |_=>none
def Qo1(P:Program)(s:St):List ResultVar->Option (List AV)
 |[]=>some []
 |r::rs=>match TH P s r,Qo1 P s rs with
  |some v,some vs=>some (v::vs)
  |_,_=>none
def BW(P:Program)(s:St)(rs:List ResultVar):Option AV:=
 match Qo1 P s rs with
 |some [v]=>some v
 |some vs=>some (.tup vs)
 |none=>none
def CG(tmps:Array Value):ResultVar->Sem Value
 | .tmp t=>pure (tmps.getD t undef)
 | .cell p t=>do loadVar t (←asAddr (tmps.getD p undef))
theorem oF(fn:Func)(tmps:Array Value):results fn tmps=(do let vs ←fn.results.mapM (CG tmps);pure (if h:vs.size=1 then vs[0] else .tuple vs)):=by
 unfold results
 congr 1
theorem TG{P:Program}{e:UP}{s:St}{tmps:Array Value}{w:World}(hm:UZ e s.m w)(hs:U7 e w s.σ tmps.toList){x:ResultVar}{v:AV}(h:TH P s x=some v):
  ∃u,(CG tmps x).run P w= .ok u w/\Rep e w v u:=by
 cases x with
 |tmp t=>
  simp only [TH,HJ] at h;subst h;exact ⟨_,rfl,FP (a:={tmps:=tmps,defers:=[] }) hs (.tmp t)⟩
 |cell p T=>
  simp only [TH] at h;have fin: ∀(ns:List Prop) (v':AV),BN P s.m T (s.σ.getD p .top)=some (ns,v',none)->(∀p∈ns,p)->v'=v-> ∃u,(CG tmps (.cell p T)).run P w= .ok u w/\Rep e w v u:=by
   rintro ns v' hl hn rfl;have Z:=FP (a:={tmps:=tmps,defers:=[] }) hs (.tmp p);simp only [rho,Act.eval] at Z;obtain ⟨_,ad,u,had,hu,GQ⟩:=kH (P:=P) hl hn hm Z;exact ⟨u,by simp only [CG,had,asAddr,At,Sem.run_pure,Au,hu],GQ⟩
  split at h
  ·rename_i v' hl;cases h;exact fin _ _ hl (λp hp=>by cases hp) rfl
  ·rename_i q qs v' hl;split at h
   ·rename_i hf;cases h;exact fin _ _ hl (sL hf hl) rfl
   ·cases h
  ·cases h
theorem CH{P:Program}{e:UP}{s:St}{tmps:Array Value}{w:World}(hm:UZ e s.m w)(hs:U7 e w s.σ tmps.toList): ∀{rs:List ResultVar} {vs:List AV},Qo1 P s rs=some vs->
  ∃us:List Value,(rs.mapM (CG tmps)).run P w= .ok us w/\U7 e w vs us
 |[],vs,h=>by simp [Qo1] at h;subst h;exact ⟨[],VZ,U7.nil e w⟩
 |x::rs,vs,h=>by
  unfold Qo1 at h;split at h
  ·rename_i v vs' h1 h2;cases h;obtain ⟨u,hu,Z⟩:=TG hm hs h1;obtain ⟨us,hus,hrs⟩:=CH hm hs h2;exact ⟨u::us,by simp only [List.mapM_cons,At,hu,Au,hus,Sem.run_pure],U7.cons Z hrs⟩
  ·cases h
theorem DP{P:Program}{e:UP}{s:St}{tmps:Array Value}{w:World}(hm:UZ e s.m w)(hs:U7 e w s.σ tmps.toList){fn:Func}{v:AV}(h:BW P s fn.results.toList=some v): ∃u,(results fn tmps).run P w= .ok u w/\Rep e w v u:=by
 unfold BW at h;have key: ∀vs,Qo1 P s fn.results.toList=some vs-> ∃us:List Value,U7 e w vs us/\(results fn tmps).run P w= .ok (if h:us.toArray.size=1 then us.toArray[0] else .tuple us.toArray) w:=by
  intro vs hvs;obtain ⟨us,hus,hrs⟩:=CH hm hs hvs;refine ⟨us,hrs,?_⟩;rw [oF,Array.mapM_eq_mapM_toList];simp only [At,Sem.run_map,hus,Au,Sem.run_pure]
 split at h
 ·rename_i v' hv;cases h;obtain ⟨us,hrs,DV⟩:=key _ hv;obtain ⟨u,us',rfl,hu,hus⟩:=hrs.cons_inv;cases hus.nil_inv;exact ⟨u,by simpa using DV,hu⟩
 ·rename_i vs hne hv;cases h;obtain ⟨us,hrs,DV⟩:=key _ hv;refine ⟨.tuple us.toArray,?_,Rep.tupL hrs⟩;have D1:us.toArray.size≠1:=by
   intro h1;simp at h1;have hvl:vs.length=1:=by rw [hrs.1,h1]
   obtain ⟨x,hx⟩:=List.length_eq_one_iff.1 hvl;exact hne x hx
  rw [dif_neg D1] at DV;exact DV
 ·cases h
inductive jY (m:H9):AV->AV->Prop
 |top (r:AV):jY m r .top
 |x (v:Value):jY m (.x v) (.x v)
 |lit (b:Bool):jY m (.lit b) (.lit b)
 |litx (b:Bool):jY m (.lit b) (.x (.bool b))
 |agg (l l':List AV):l.length=l'.length->(∀(i:Nat) (a b:AV),l[i]? =some a->l'[i]? =some b->jY m a b)->jY m (.agg l) (.agg l')
 |tup (l l':List AV):l.length=l'.length->(∀(i:Nat) (a b:AV),l[i]? =some a->l'[i]? =some b->jY m a b)->jY m (.tup l) (.tup l')
 |row (id T sz n:Nat) (f f':Nat->List AV):DL m id=some (.row T sz n f)->(∀i,i<n->f i=f' i)->(∀i,i<n-> ∀a∈f' i,∃v,a= .x v)->jY m (.row id) (.lst sz n f')
 |nil (sz:Nat) (f:Nat->List AV):jY m (.x (.slice none 0 0)) (.lst sz 0 f)
 |fn0 (f:Fn):jY m (.fn f [] []) (.fn f [] [])
theorem jY.rep{e:UP}{B:Nat}{w0 w:World}{m:H9}(hE:G6 e B w)(hB:w0.heap.size=B)(hm:UZ e m w){r res:AV}{v:Value}(h:jY m r res)(k:Rep e w r v):Rep (PM w0 w) w res v:=by
 induction h generalizing v with
 |top r=>exact .top v
 |x u=>cases k.x_inv;exact .x _
 |lit b=>cases k.lit_inv;exact .lit _
 |litx b=>cases k.lit_inv;exact .x _
 |agg l l' hl hf ih=>
  obtain ⟨vs,rfl,h1,h2⟩:=k.agg_inv;refine .agg l' vs (by rw [←hl,h1]) (λi a u ha hu=>?_)
  have O:i<l.length:=by rw [hl];exact (FY.1 ha).1
  exact ih i _ a (D5 O) ha (h2 i _ u (D5 O) hu)
 |tup l l' hl hf ih=>
  obtain ⟨vs,rfl,h1,h2⟩:=k.tup_inv;refine .tup l' vs (by rw [←hl,h1]) (λi a u ha hu=>?_)
  have O:i<l.length:=by rw [hl];exact (FY.1 ha).1
  exact ih i _ a (D5 O) ha (h2 i _ u (D5 O) hu)
 |row id T sz n f f' hg hff hx=>
  obtain ⟨_,HC,hf,xs,ho,GQ⟩:=hm _ (G5 hg)
  dsimp only at HC ho
  cases k with
  |row _ a n' c hl hv=>
   rw [hv] at ho HC;rcases ho.2 with ⟨hv0,hn0⟩|⟨g,cap,cur,hv0,_,hgg,hnc,hcm,hcs,kP⟩
   ·cases hv0;subst hn0;exact .lstNil _ _
   ·cases hv0;have hob:=HC g rfl;have hbd:=hE.owned _ _ hob;refine Rep.lst (e:=PM w0 w) (w:=w) sz _ f' g 0 _ (λi j=>xs.getD (i*sz+j) .nilIface) (λ_=>⟨by rw [hB];exact hbd.1,hbd.2⟩) (λ_=>hbd.2) (λi O a ha=>?_) hnc hcm ?_ (λi O=>by rw [←hff i O];exact (hf i O).1) ?_ _ (λ_=>rfl)
    ·obtain ⟨u,rfl⟩:=hx i O a ha;exact .x u
    ·intro i j O hj;have hle:i*sz+sz<=n*sz:=by
      have:=BP sz (Az O)
      rwa [Bq] at this
     have kR:i*sz+j<xs.length:=by rw [ho.1];omega
     have hc:=ho.cells (g:=g) rfl (i*sz+j) xs[i*sz+j] (D5 kR);rw [DG] at hc;rw [hc];simp [List.getD,D5 kR]
    ·intro i j a O ha;have hj:j<sz:=by rw [←(hf i O).1,hff i O];exact (FY.1 ha).1
     have hle:i*sz+sz<=n*sz:=by
      have:=BP sz (Az O)
      rwa [Bq] at this
     have kR:i*sz+j<xs.length:=by rw [ho.1];omega
     obtain ⟨u,rfl⟩:=hx i O a (F7 ha);have:=GQ i j (.x u) xs[i*sz+j] O (by rw [hff i O];exact ha) (D5 kR)
     simp only [List.getD,D5 kR,GZ];rw [this.x_inv];exact .x _
 |nil sz f=>cases k.x_inv;exact .lstNil sz f
 |fn0 f=>
  obtain ⟨vs,vs',rfl,h1,h2⟩:=k.fn_inv;cases h1.nil_inv;cases h2.nil_inv;exact .fn f [] [] [] [] rfl (λi a v h=>by simp at h) rfl (λi a v h=>by simp at h)
def HV(fn:Func)(avs:List AV):St:={σ:=avs++List.replicate (fn.ntmps-avs.length) .top,m:=[],nx:=0}
def Xd9(P:Program)(fn:Func)(res:AV)(p:GB×St):Prop:=(match p.1 with| .exit _=>False|_=>True)/\ ∃r,BW P p.2 fn.results.toList=some r/\jY p.2.m r res
def m7(P:Program)(G:List (Nat×Spec))(L:List UN)(c:Code)(off:Nat)(s:St):CT:=DA P G {} L c off s
theorem Rep.sameCells{e:UP}{w w':World}(hsz:w'.heap.size=w.heap.size)(hc: ∀ad,w'.cell? ad=w.cell? ad)(hmp: ∀(b:Nat) (es:Array MapEntry) (c:Nat),w.heap[b]? =some (Obj.map es c)->w'.heap[b]? =some (Obj.map es c)){a:AV}{v:Value}(h:Rep e w a v):Rep e w' a v:=by
 induction h with
 |top v=>exact .top v
 |lit b=>exact .lit b
 |x v=>exact .x v
 |agg l vs h1 h2 ih=>exact .agg l vs h1 ih
 |tup l vs h1 h2 ih=>exact .tup l vs h1 ih
 |fn f l l' vs vs' h1 h2 h3 h4 ih1 ih2=>exact .fn f l l' vs vs' h1 ih1 h3 ih2
 |ptr id off hl=>exact .ptr id off hl
 |row id a n c hl hv=>exact .row id a n c hl hv
 |elt id sz i j b n cap hl hv=>exact .elt id sz i j b n cap hl hv
 |ro l vs b o Z hb hf h1 h2 h3 ih=>exact .ro l vs b o Z (by rw [hsz];exact hb) hf h1 (λj v hj=>by rw [hc];exact h2 j v hj) ih
 |lstNil sz f=>exact .lstNil sz f
 |lst sz n f b o cap g Z hb hf Ji8 hm h1 h2 h3 ad had ih=>exact .lst sz n f b o cap g Z (λh=>by rw [hsz];exact hb h) hf Ji8 hm (λi j O hj=>by rw [hc];exact h1 i j O hj) h2 ih ad had
 |mp id hl=>exact .mp id hl
 |mpr g okf vals b es c Z hb hf h1 h2 h3 h4 h5 ih=>exact .mpr g okf vals b es c Z (by rw [hsz];exact hb) hf (hmp _ _ _ h1) h2 h3 h4 ih
 |any1 v hv=>exact .any1 v hv
 |roI pre n f off b o h ih=>exact .roI pre n f off b o ih
theorem U7.sameCells{e:UP}{w w':World}(hsz:w'.heap.size=w.heap.size)(hc: ∀ad,w'.cell? ad=w.cell? ad)(hmp: ∀(b:Nat) (es:Array MapEntry) (c:Nat),w.heap[b]? =some (Obj.map es c)->w'.heap[b]? =some (Obj.map es c)){l:List AV}{vs:List Value}(h:U7 e w l vs):U7 e w' l vs:=⟨h.1,λi a v ha hv=>(h.2 i a v ha hv).sameCells hsz hc hmp⟩
theorem BJ{w:World}{D:Nat}{o o':Obj}(h:w.heap[D]? =some o)(ho:o.isCells=false)(ho':o'.isCells=false)(ad:Addr):(w.putObj D o').cell? ad=w.cell? ad:=by
 have hlt:=(PD.1 h).1;unfold World.cell?;by_cases hb:ad.block=D
 ·rw [hb,World.putObj_heap_same hlt,h];cases o<;>cases o'<;>simp_all [Obj.isCells]
 ·rw [World.putObj_heap_other hb]
theorem aO{e:UP}{w:World}{l:Nat}{o o':Obj}(h:D6 e w)(hl:w.heap[l]? =some o)(ho:o.isCells=false):D6 e (w.putObj l o'):=λb p hp=>by
 obtain ⟨h1,h2,q,h3,h4,h5⟩:=h b p hp;have hne:b≠l:=by
  rintro rfl;rw [hl] at h3;cases h3;rw [ho] at h4;cases h4
 exact ⟨h1,by rw [World.putObj_size];exact h2,q,(World.putObj_heap_other hne).trans h3,h4,h5⟩
theorem qT{w:World}{D:Nat}{o o':Obj}(h:w.heap[D]? =some o)(hom: ∀es c,o≠Obj.map es c): ∀(b:Nat) (es:Array MapEntry) (c:Nat),w.heap[b]? =some (Obj.map es c)->(w.putObj D o').heap[b]? =some (Obj.map es c):=by
 intro b es c hb;have hne:b≠D:=by
  rintro rfl;rw [h] at hb;exact hom es c (Bb hb)
 rw [World.putObj_heap_other hne];exact hb
theorem GL.putObj{e:UP}{w:World}{D:Nat}{o o':Obj}(h:w.heap[D]? =some o)(hom: ∀es c,o≠Obj.map es c)(ho:o.isCells=false)(ho':o'.isCells=false)(HC:e.own D=none){id:Nat}{r:GU}(k:GL e w id r):GL e (w.putObj D o') id r:=by
 have hsz:(w.putObj D o').heap.size=w.heap.size:=World.putObj_size;have hc:=BJ h ho ho';have hmp:=qT (o':=o') h hom;have ID: ∀b k,e.own b=some k->(w.putObj D o').heap[b]? =w.heap[b]? :=λb k hb=>World.putObj_heap_other (λhe=>by rw [he,HC] at hb;cases hb)
 cases r with
 |cells T l=>
  obtain ⟨h1,h2,vs,h3,h4⟩:=k;exact ⟨h1,h2,vs,(ID _ _ h2).trans h3,h4.sameCells hsz hc hmp⟩
 |row T sz n f=>
  obtain ⟨h1,h2,hf,xs,h3,h4⟩:=k;refine ⟨h1,h2,hf,xs,⟨h3.1,h3.2.imp (λh=>h) ?_⟩,λi j a v O ha hv=>(h4 i j a v O ha hv).sameCells hsz hc hmp⟩
  rintro ⟨g',cap,cur,hv,hg,hh,rest⟩;exact ⟨g',cap,cur,hv,hg,(ID g' id (h2 g' (by rw [hv];rfl))).trans hh,rest⟩
 |ints T pre n f=>
  obtain ⟨h1,h2,vs,h3,h4⟩:=k;exact ⟨h1,h2,vs,(ID _ _ h2).trans h3,h4.sameCells hsz hc hmp⟩
 |memo h' f=>
  obtain ⟨h1,h2,es,c,h3,h4⟩:=k;exact ⟨h1,h2,es,c,(ID _ _ h2).trans h3,h4⟩
 |keep T l=>
  obtain ⟨h1,h2,h0,vs,h3,h4⟩:=k;have hne:e.blk id≠D:=by
   rintro hD;rw [←hD,h3] at h;cases h;simp [Obj.isCells] at ho
  exact ⟨h1,h2,by rw [hsz];exact h0,vs,(World.putObj_heap_other hne).trans h3,h4.sameCells hsz hc hmp⟩
 |aka r T sz n f=>
  obtain ⟨h1,h0,o,hor,h2,hf,xs,h3,h4⟩:=k;refine ⟨h1,h0,o,hor,h2,hf,xs,⟨h3.1,h3.2.imp (λh=>h) ?_⟩,λi j a v O ha hv=>(h4 i j a v O ha hv).sameCells hsz hc hmp⟩
  rintro ⟨g',cap,cur,hv,hg,hh,rest⟩;exact ⟨g',cap,cur,hv,hg,(ID g' o (h2 g' (by rw [hv];rfl))).trans hh,rest⟩
theorem j8{P:Program}{fn:Func}{R:Ending->World->Prop}{M:Nat->Prop}{w0:World}{e:UP}{s:St}{tmps:Array Value}{n:Nat}(hB: ∀D,M D->w0.heap.size<=D)
  (fin: ∀w',G6 e w0.heap.size w'->Below w0.heap.size w0 w'->UZ e s.m w'->U7 e w' s.σ tmps.toList-> ∃v,(results fn tmps).run P w'= .ok v w'/\R (.returned v) w'):
  ∀(ds:List Deferred) (w:World),SY M e w ds->G6 e w0.heap.size w->Below w0.heap.size w0 w->UZ e s.m w->U7 e w s.σ tmps.toList->LeavesInM (fr none) n P fn tmps R ds .returning w
 |[],w,_,hE,hb,hm,hs=>fin w hE hb hm hs
 |d::ds,w,hd,hE,hb,hm,hs=>by
  obtain ⟨D,h1,h2,h3,h4,h5⟩:=hd.1 d GK;refine ⟨VZ,.inl ⟨D,_,by rw [h1],run_takeDeferred h4,?_⟩⟩
  have HC:=(hE.apart D h2).1;have hsz:(w.putObj D (.deferred none)).heap.size=w.heap.size:=World.putObj_size;refine j8 hB fin ds _ ⟨λd' hd'=>?_,(List.nodup_cons.1 hd.2).2⟩ ⟨λb hb=>by rw [hsz];exact hE.apart b hb,λb k hk=>by rw [hsz];exact hE.owned b k hk,aO hE.glob h4 rfl⟩ ?_ (λp hp=>(hm p hp).putObj h4 (λ_ _ h=>by cases h) rfl rfl HC) (hs.sameCells hsz (BJ h4 rfl rfl) (qT h4 (λ_ _ h=>by cases h)))
  ·obtain ⟨D',k1,k2,k3,k4,k5⟩:=hd.1 d' (HX _ hd');have hne:D'≠D:=by
    rintro rfl;exact (List.nodup_cons.1 hd.2).1 (by rw [h1,←k1];exact hd')
   exact ⟨D',k1,k2,by rw [hsz];exact k3,(World.putObj_heap_other hne).trans k4,k5⟩
  ·exact hb.trans ((Below.refl w0.heap.size w).grown (grownBy_putObj' w D _) (by have:=hb.size;have:=hB D h5;omega) (λk he=>by cases he;exact hB D h5))
def lX(w:World)(T:Nat->Prop):Cx:={M:=λD=>w.heap.size<=D,Φ:=λ_ T' w0=>w0=w/\T'=T,K:=λ_ _=>False,saved:=[] }
theorem zF{P:Program}{G:List (Nat×Spec)}{X:Ext}{L:List UN}{f:FuncId}{fn:Func}{c:Code}{avs:List AV}(hG:VP P G)(GW:P.follows .mixedOrders=true)(hf:P.funcs[f]? =some fn)(hb:fn.body=some c)
  {cx:Cx}{gh:Option Nat}{w:World}{T:Nat->Prop}{e:UP}{args:List Value}(hX:U1 P X cx)(hK: ∀b o,¬cx.K b o)(hsv:cx.saved=[])(Qr7:cx.sz=0)(hM: ∀g T w0 D,cx.Φ g T w0->cx.M D->w0.heap.size<=D)(hΦ:cx.Φ gh T w)
  (hT: ∀b,T b->b<w.heap.size/\ ¬e.ro b)(hro: ∀b,e.ro b->b<w.heap.size)(hgl:D6 e w)(FS: ∀a∈avs,Idf a)(Z:U7 e w avs args)
  (hL: ∀j cj,VX c j=some cj-> ∀sp,L[j]? =some sp->HN P none cx cj sp){E:GB×St->Prop}(h:(DA P G X L c 0 {HV fn avs with gh:=gh}).sat E){R:Ending->World->Prop}
  (fin: ∀x s w0 T' e' tmps w',E (x,s)->cx.Φ s.gh T' w0->G6 e' w0.heap.size w'->Below w0.heap.size w0 w'->UZ e' s.m w'->(∀b,T' b-> ¬e'.ro b)->U7 e' w' s.σ tmps.toList-> ∃v,(results fn tmps).run P w'= .ok v w'/\R (.returned v) w')
  (hex: ∀x s,E (x,s)-> ∀i,x≠ .exit i):Calls P f args.toArray w R:=by
 let e0:UP:={ro:=e.ro,own:=λ_=>none,live:=λ_=>False,blk:=λ_=>0,val:=λ_=> .nilIface}
 have hr0:U7 e0 w avs args:=⟨Z.1,λi a v ha hv=>Rep.idf (e:=e) (e':=e0) (λ_ h=>h) (Z.2 i a v ha hv) (FS a (F7 ha))⟩
 have yX:Rel cx {HV fn avs with gh:=gh} {tmps:=args.toArray++Array.replicate (fn.ntmps-args.toArray.size) undef,defers:=[] } w:=by
  refine ⟨w,T,e0,hΦ,⟨λb hb=>⟨rfl,hro b hb⟩,(λb k hk=>by cases hk),hgl⟩,Below.refl _ _,(λp hp=>by cases hp),(λk hk=>False.elim hk),hT,⟨⟨(λd hd=>by cases hd),List.nodup_nil⟩,(λb o h=>(hK b o h).elim),⟨by rw [hsv];rfl,(λi a v h=>by cases h)⟩,by rw [Qr7];exact Ao _⟩,?_⟩
  have I6:U7 e0 w (List.replicate (fn.ntmps-avs.length) .top) (List.replicate (fn.ntmps-avs.length) undef):=by
   refine ⟨VZ,λi a v ha _=>?_⟩
   have:=F7 ha;rw [List.mem_replicate] at this;rw [this.2];exact .top v
  have:=hr0.append I6;simpa [HV,Z.1] using this
 refine callsIn_wide (n:=0).1 (callsIn_of_wp_marks (F:=fr none) hf hb trivial (wpIn_mono (DE hG hX GW c 0 _ _ _ w (λj cj hj sp hsp=>hL j cj hj sp (by simpa using hsp)) h yX) ?_) rfl)
 rintro ex a' w' ⟨x,s',rfl,hE,w0,T',e',hΦ',re⟩;have hx:=hex x s' hE;have yZ:LeavesInM (fr none) 0 P fn a'.tmps R a'.defers .returning w':=
  j8 (M:=cx.M) (s:=s') (λD hD=>hM _ _ _ D hΦ' hD) (λw2 q1 q2 q3 q4=>fin x s' w0 T' e' a'.tmps w2 hE hΦ' q1 q2 q3 (λb hb=>(re.foe b hb).2) q4) a'.defers w' re.xt.defers re.env re.below re.mem re.slots
 cases x with
 |normal=>exact yZ
 |ret=>exact yZ
 |exit i=>exact (hx i rfl).elim
def Cx.fun(cx:Cx):Prop:= ∀g T w0 D,cx.Φ g T w0->w0.heap.size<=D->cx.sz<=D->cx.M D
theorem zE(w:World)(T:Nat->Prop):(lX w T).fun:=by
 rintro g T' w0 D ⟨rfl,_⟩ h _;exact h
section
variable {P:Program}{G:List (Nat×Spec)}
theorem kA{X:Ext}{L:List UN}{f:FuncId}{fn:Func}{c:Code}{avs:List AV}{res:AV}(hG:VP P G)(hX: ∀cx,U1 P X cx)(GW:P.follows .mixedOrders=true)(hf:P.funcs[f]? =some fn)(hb:fn.body=some c)
  (hL: ∀j cj,VX c j=some cj-> ∀sp,L[j]? =some sp-> ∀cx:Cx,cx.fun->HN P none cx cj sp)(h:(DA P G X L c 0 (HV fn avs)).sat (Xd9 P fn res)):U2 P f avs res:=by
 intro e w args hro hgl FS Z;refine zF hG GW hf hb (cx:=lX w (λ_=>False)) (gh:=none) (T:=λ_=>False) (e:=e) (hX _) (λ_ _ h=>h) rfl rfl (by rintro g T w0 D ⟨rfl,_⟩ h;exact h) ⟨rfl,rfl⟩ (λb h=>h.elim) hro hgl FS Z (λj cj hj sp hsp=>hL j cj hj sp hsp _ (zE _ _)) h ?_ ?_
 ·rintro x s w0 T' e' tmps w' ⟨hx,r,F6,kS⟩ ⟨rfl,_⟩ q1 q2 q3 _ q4;obtain ⟨u,hu,GQ⟩:=DP (P:=P) q3 q4 F6;exact ⟨u,hu,u,rfl,q2,kS.rep q1 rfl q3 GQ⟩
 ·rintro x s ⟨hx,_⟩ i rfl;exact hx
theorem oA{L:List UN}{f:FuncId}{fn:Func}{c:Code}{avs:List AV}{res:AV}(hG:VP P G)(GW:P.follows .mixedOrders=true)(hf:P.funcs[f]? =some fn)(hb:fn.body=some c)
  (hL: ∀j cj,VX c j=some cj-> ∀sp,L[j]? =some sp->GC P cj sp)(h:(m7 P G L c 0 (HV fn avs)).sat (Xd9 P fn res)):U2 P f avs res:=
 kA hG (U1.nil P) GW hf hb (λj cj hj sp hsp cx _=>hL j cj hj sp hsp none cx) h
end
inductive RV where
 |top
 |x (v:Value)
 |agg (l:List RV)
 |tup (l:List RV)
 |lst (sz n:Nat) (f:Nat->List AV)
 |fn (f:Fn)
def cP(m:H9):Nat->AV->RV
 | 0,a=>match a with
  | .lit b=> .x (.bool b)
  | .x v=> .x v
  |_=> .top
 |d+1,a=>match a with
  | .lit b=> .x (.bool b)
  | .x v=> .x v
  | .agg l=> .agg (l.map (cP m d))
  | .tup l=> .tup (l.map (cP m d))
  | .row id=>match DL m id with
   |some (.row _ sz n f)=> .lst sz n f
   |_=> .top
  | .fn f l l'=>match l,l' with
   |[],[]=> .fn f
   |_,_=> .top
  |_=> .top
def isX:AV->Prop
 | .x _=>True
 |_=>False
def UI:Value->Value->Prop
 | .int k a,.int k' b=>k=k'/\a=b
 | .bool a,.bool b=>a=b
 |u,v=>u=v
theorem cM{u v:Value}(h:UI u v):u=v:=by
 cases u<;>cases v<;>simp_all [UI]
def iR:Value->Prop
 | .slice none 0 0=>True
 |_=>False
theorem iQ{v:Value}(h:iR v):v= .slice none 0 0:=by
 unfold iR at h;split at h
 ·rfl
 ·exact h.elim
mutual
def GA:RV->AV->Prop
 | .top,res=>match res with
  | .top=>True
  |_=>False
 | .x u,res=>match res with
  | .top=>True
  | .x v=>UI u v
  | .lst _ n _=>iR u/\n=0
  |_=>False
 | .agg l,res=>match res with
  | .top=>True
  | .agg l'=>GR l l'
  |_=>False
 | .tup l,res=>match res with
  | .top=>True
  | .tup l'=>GR l l'
  |_=>False
 | .lst sz n f,res=>match res with
  | .top=>True
  | .lst sz' n' f'=>sz=sz'/\n=n'/\ ∀i,i<n'->f i=f' i/\ ∀a∈f' i,isX a
  |_=>False
 | .fn f,res=>match res with
  | .top=>True
  | .fn g [] []=>f=g
  |_=>False
def GR:List RV->List AV->Prop
 |[],l'=>match l' with
  |[]=>True
  |_::_=>False
 |r::l,l'=>match l' with
  |a::l'=>GA r a/\GR l l'
  |[]=>False
end
theorem IR: ∀{l:List RV} {l':List AV},GR l l'->l.length=l'.length/\ ∀(i:Nat) (r:RV) (a:AV),l[i]? =some r->l'[i]? =some a->GA r a
 |[],[],_=>⟨rfl,λi r a h=>by simp at h⟩
 |r::l,a::l',h=>by
  unfold GR at h;obtain ⟨h1,h2⟩:=IR h.2;refine ⟨by simp [h1],λi r' a' Z ha=>?_⟩
  cases i with
  |zero=>simp at Z ha;subst Z;subst ha;exact h.1
  |succ i=>simp at Z ha;exact h2 i r' a' Z ha
 |[],_::_,h=>by simp [GR] at h
 |_::_,[],h=>by simp [GR] at h
theorem Wk2{a:AV}(h:isX a): ∃v,a= .x v:=by
 cases a<;>first|exact ⟨_,rfl⟩|exact h.elim
theorem aX{m:H9}{a:AV}{u:Value}{res:AV}(h:GA (.x u) res)(ha: ∀v,u=v->jY m a (.x v))(hn:u= .slice none 0 0-> ∀sz f,jY m a (.lst sz 0 f)):jY m a res:=by
 cases res with
 |top=>exact .top a
 |x v=>exact ha v (cM h)
 |lst sz n f=>obtain ⟨h1,h2⟩:=h;subst h2;exact hn (iQ h1) sz f
 |_=>exact h.elim
theorem fK{m:H9}: ∀(d:Nat) (a res:AV),GA (cP m d a) res->jY m a res
 | 0,a,res,h=>by
  cases a with
  |lit b=>exact aX h (λv hv=>by subst hv;exact .litx b) (λhu=>by cases hu)
  |x v=>exact aX h (λu hu=>by subst hu;exact .x v) (λhu sz f=>by subst hu;exact .nil sz f)
  |_=>cases res<;>first|exact .top _|exact h.elim
 |d+1,a,res,h=>by
  have ih:=fK (m:=m) d;cases a with
  |lit b=>exact aX h (λv hv=>by subst hv;exact .litx b) (λhu=>by cases hu)
  |x v=>exact aX h (λu hu=>by subst hu;exact .x v) (λhu sz f=>by subst hu;exact .nil sz f)
  |agg l=>
   cases res with
   |top=>exact .top _
   |agg l'=>
    obtain ⟨h1,h2⟩:=IR (show GR (l.map (cP m d)) l' from h);exact .agg l l' (by simpa using h1) (λi a b ha hb=>ih a b (h2 i _ b (by simp [ha]) hb))
   |_=>exact h.elim
  |tup l=>
   cases res with
   |top=>exact .top _
   |tup l'=>
    obtain ⟨h1,h2⟩:=IR (show GR (l.map (cP m d)) l' from h);exact .tup l l' (by simpa using h1) (λi a b ha hb=>ih a b (h2 i _ b (by simp [ha]) hb))
   |_=>exact h.elim
  |row id=>
   simp only [cP] at h;split at h
   ·rename_i T sz n f hg;cases res with
    |top=>exact .top _
    |lst sz' n' f'=>
     obtain ⟨rfl,rfl,h3⟩:=h;exact .row id T sz n f f' hg (λi O=>(h3 i O).1) (λi O a ha=>Wk2 ((h3 i O).2 a ha))
    |_=>exact h.elim
   ·cases res<;>first|exact .top _|exact h.elim
  |fn f l l'=>
   simp only [cP] at h;split at h
   ·unfold GA at h;split at h
    ·exact .top _
    ·subst h;exact .fn0 _
    ·exact h.elim
   ·cases res<;>first|exact .top _|exact h.elim
  |_=>cases res<;>first|exact .top _|exact h.elim
def sN(P:Program)(rs:List ResultVar)(t:CT):VR RV:=t.bind λp=>match p.1 with
 | .exit _=> .fail
 |_=>match BW P p.2 rs with
  |some r=> .leaf (cP p.2.m 6 r)
  |none=> .fail
def HP(P:Program)(c:Code)(sp:UN):Prop:= ∀cx:Cx,cx.fun->HN P none cx c sp
theorem GC.N{P:Program}{c:Code}{sp:UN}(h:GC P c sp):HP P c sp:=λcx _=>h none cx
section
variable {P:Program}
theorem zA{fn:Func}{res:AV}{t:CT}(h:(sN P fn.results.toList t).sat (λr=>GA r res)):t.sat (Xd9 P fn res):=by
 refine VR.sat_mono ?_ (VR.sat_bind h);rintro ⟨x,s⟩ hs;cases x with
 |exit i=>exact hs.elim
 |normal=>
  simp only at hs;split at hs
  ·rename_i r Z;exact ⟨trivial,r,Z,fK 6 r res hs⟩
  ·exact hs.elim
 |ret=>
  simp only at hs;split at hs
  ·rename_i r Z;exact ⟨trivial,r,Z,fK 6 r res hs⟩
  ·exact hs.elim
theorem U6{G:List (Nat×Spec)}{L:List UN}{f:FuncId}{fn:Func}{c:Code}{avs:List AV}{res:AV}{t:VR RV}(hG:VP P G)(GW:P.follows .mixedOrders=true)(hf:P.funcs[f]? =some fn)(hb:fn.body=some c)
  (hL: ∀j cj,VX c j=some cj-> ∀sp,L[j]? =some sp->GC P cj sp)(ht:sN P fn.results.toList (m7 P G L c 0 (HV fn avs))=t)(h:t.sat (λr=>GA r res)):U2 P f avs res:=by
 subst ht;exact oA hG GW hf hb hL (zA h)
theorem GF{G:List (Nat×Spec)}{X:Ext}{L:List UN}{f:FuncId}{fn:Func}{c:Code}{avs:List AV}{res:AV}{t:VR RV}(hG:VP P G)(hX: ∀cx,U1 P X cx)(GW:P.follows .mixedOrders=true)(hf:P.funcs[f]? =some fn)(hb:fn.body=some c)
  (hL: ∀j cj,VX c j=some cj-> ∀sp,L[j]? =some sp->HP P cj sp)(ht:sN P fn.results.toList (DA P G X L c 0 (HV fn avs))=t)(h:t.sat (λr=>GA r res)):U2 P f avs res:=by
 subst ht;exact kA hG hX GW hf hb hL (zA h)
theorem U8{c:Code}: ∀j cj,VX c j=some cj-> ∀sp,([]:List UN)[j]? =some sp->GC P cj sp:=λj cj _ sp hsp=>by simp at hsp
end
theorem G9{S:Code->UN->Prop}{c:Code}: ∀j cj,VX c j=some cj-> ∀sp,([]:List UN)[j]? =some sp->S cj sp:=λj cj _ sp hsp=>by simp at hsp
def w8(N:Nat):Nat->AV->Bool
 | 0,a=>a.idf
 |d+1,a=>match a with
  | .ptr id _=>Nat.blt id N
  | .row id=>Nat.blt id N
  | .elt id _ _ _=>Nat.blt id N
  | .mp id=>Nat.blt id N
  | .agg l=>l.all (w8 N d)
  | .tup l=>l.all (w8 N d)
  | .fn _ l l'=>l.all (w8 N d)&&l'.all (w8 N d)
  |a=>a.idf
def UP.kill(e:UP)(N:Nat):UP:={e with live:=λk=>e.live k/\k<N}
theorem xO{e:UP}{w:World}{N:Nat}: ∀(d:Nat) (a:AV) (v:Value),w8 N d a=true->Rep e w a v->Rep (e.kill N) w a v
 | 0,a,v,h,r=>Rep.idf (e:=e) (e':=e.kill N) (λ_ h=>h) r (j9 r h)
 |d+1,a,v,h,r=>by
  have ih:=xO (e:=e) (w:=w) (N:=N) d;have lt: ∀id,Nat.blt id N=true->id<N:=λid hb=>by rw [Aw] at hb;exact hb
  cases r with
  |ptr id off hl=>exact .ptr (e:=e.kill N) id off ⟨hl,lt id h⟩
  |row id a n c hl hv=>exact .row (e:=e.kill N) id a n c ⟨hl,lt id h⟩ hv
  |elt id sz i j b n cap hl hv=>exact .elt (e:=e.kill N) id sz i j b n cap ⟨hl,lt id h⟩ hv
  |mp id hl=>exact .mp (e:=e.kill N) id ⟨hl,lt id h⟩
  |agg l vs h1 h2=>exact .agg l vs h1 (λi a v ha hv=>ih a v (BA.1 h a (F7 ha)) (h2 i a v ha hv))
  |tup l vs h1 h2=>exact .tup l vs h1 (λi a v ha hv=>ih a v (BA.1 h a (F7 ha)) (h2 i a v ha hv))
  |fn f l l' vs vs' h1 h2 h3 h4=>
   simp only [w8,HE] at h;exact .fn f l l' vs vs' h1 (λi a v ha hv=>ih a v (BA.1 h.1 a (F7 ha)) (h2 i a v ha hv)) h3 (λi a v ha hv=>ih a v (BA.1 h.2 a (F7 ha)) (h4 i a v ha hv))
  |top v=>exact .top v
  |lit b=>exact .lit b
  |x v=>exact .x v
  |ro l vs b o h1 h2 h3 h4 h5 h6=>exact Rep.idf (e:=e) (e':=e.kill N) (λ_ h=>h) (.ro l vs b o h1 h2 h3 h4 h5 h6) (.ro l h3)
  |mpr g okf vals b es c h1 h2 h3 h4 h5 h6 h7 h8=>exact Rep.idf (e:=e) (e':=e.kill N) (λ_ h=>h) (.mpr g okf vals b es c h1 h2 h3 h4 h5 h6 h7 h8) (.mpr g okf h3)
  |any1 v hv=>exact .any1 v hv
  |lstNil sz f=>exact .lstNil sz f
  |roI pre n f off b o Z=>exact Rep.idf (e:=e) (e':=e.kill N) (λ_ h=>h) (.roI pre n f off b o Z) (j9 (Rep.roI pre n f off b o Z) rfl)
  |lst sz n f b o cap g h1 h2 h3 h4 h5 h6 h7 h8 ad had=>exact Rep.idf (e:=e) (e':=e.kill N) (λ_ h=>h) (.lst sz n f b o cap g h1 h2 h3 h4 h5 h6 h7 h8 ad had) (.lst sz n f h3)
def gN:List AV->List AV->List Prop
 |a::l,b::l'=>match b with
  | .top=>gN l l'
  | .x (.int k y)=>match a with
   | .x (.int k' x)=>match decide (k=k') with
    |true=>(x=y)::gN l l'
    |false=>[False]
   |_=>[False]
  | .x (.bool y)=>match a with
   | .x (.bool x)=>(x=y)::gN l l'
   | .lit x=>(x=y)::gN l l'
   |_=>[False]
  |b=>(a=b)::gN l l'
 |[],[]=>[]
 |_,_=>[False]
theorem LZ{e:UP}{w:World}: ∀{l l':List AV} {vs:List Value},(∀p∈gN l l',p)->U7 e w l vs->U7 e w l' vs
 |[],[],vs,_,r=>r
 |a::l,b::l',vs,h,r=>by
  obtain ⟨v,vs',rfl,hv,hvs⟩:=r.cons_inv;unfold gN at h;split at h
  ·exact U7.cons (.top v) (LZ h hvs)
  ·split at h
   ·split at h
    ·rename_i hk;have hk':=BO hk;subst hk';have:_=_:=h _ GK;subst this;exact U7.cons hv (LZ (λp hp=>h p (HX _ hp)) hvs)
    ·exact (h False VZ).elim
   ·exact (h False VZ).elim
  ·split at h
   ·have:_=_:=h _ GK;subst this;exact U7.cons hv (LZ (λp hp=>h p (HX _ hp)) hvs)
   ·have:_=_:=h _ GK;subst this;cases hv;exact U7.cons (.x _) (LZ (λp hp=>h p (HX _ hp)) hvs)
   ·exact (h False VZ).elim
  ·have:_=_:=h _ GK;subst this;exact U7.cons hv (LZ (λp hp=>h p (HX _ hp)) hvs)
 |[],_::_,_,h,_=>(h False (by simp [gN])).elim
 |_::_,[],_,h,_=>(h False (by simp [gN])).elim
def F2:GU->GU->List Prop
 | .cells T l,.cells T' l'=>match Nat.beq T T' with
  |true=>gN l l'
  |false=>[False]
 | .row T sz n f,.row T' sz' n' f'=>match Nat.beq T T'&&Nat.beq sz sz' with
  |true=>[n=n',∀i,i<n'->f i=f' i]
  |false=>[False]
 | .memo h f,.memo h' f'=>[∀k,h k->h' k/\f k=f' k]
 | .ints T pre n f,.ints T' pre' n' f'=>match Nat.beq T T' with
  |true=>gN pre pre'++[n=n',∀k,k<n'->f k=f' k]
  |false=>[False]
 | .keep T l,.keep T' l'=>match Nat.beq T T' with
  |true=>gN l l'
  |false=>[False]
 |_,_=>[False]
theorem resEq_holds{e:UP}{w:World}{id:Nat}{r r':GU}(h: ∀p∈F2 r r',p)(k:GL e w id r):GL e w id r':=by
 cases r with
 |cells T l=>
  cases r' with
  |cells T' l'=>
   simp only [F2] at h;split at h
   ·rename_i hb;have:T=T':=H4 hb;subst this;obtain ⟨h1,h2,vs,h3,h4⟩:=k;exact ⟨h1,h2,vs,h3,LZ h h4⟩
   ·exact (h False VZ).elim
  |row _ _ _ _=>exact (h False (by simp [F2])).elim
  |memo _ _=>exact (h False (by simp [F2])).elim
  |ints _ _ _ _=>exact (h False (by simp [F2])).elim
  |aka _ _ _ _ _=>exact (h False (by simp [F2])).elim
  |keep _ _=>exact (h False (by simp [F2])).elim
 |aka _ _ _ _ _=>cases r'<;>exact (h False (by simp [F2])).elim
 |keep T l=>
  cases r' with
  |keep T' l'=>
   simp only [F2] at h;split at h
   ·rename_i hb;have:T=T':=H4 hb;subst this;obtain ⟨h1,h2,h0,vs,h3,h4⟩:=k;exact ⟨h1,h2,h0,vs,h3,LZ h h4⟩
   ·exact (h False VZ).elim
  |row _ _ _ _=>exact (h False (by simp [F2])).elim
  |memo _ _=>exact (h False (by simp [F2])).elim
  |ints _ _ _ _=>exact (h False (by simp [F2])).elim
  |cells _ _=>exact (h False (by simp [F2])).elim
  |aka _ _ _ _ _=>exact (h False (by simp [F2])).elim
 |ints T pre n f=>
  cases r' with
  |cells _ _=>exact (h False (by simp [F2])).elim
  |row _ _ _ _=>exact (h False (by simp [F2])).elim
  |memo _ _=>exact (h False (by simp [F2])).elim
  |aka _ _ _ _ _=>exact (h False (by simp [F2])).elim
  |keep _ _=>exact (h False (by simp [F2])).elim
  |ints T' pre' n' f'=>
   simp only [F2] at h;split at h
   ·rename_i hb;have:T=T':=H4 hb;subst this;obtain ⟨h1,h2,vs,h3,h4⟩:=k;have hn:n=n':=h _ VZ;subst hn;have hf: ∀k,k<n->f k=f' k:=h _ VZ;have hL:HU n f=HU n f':=List.map_congr_left (λk hk=>by rw [hf k (List.mem_range.1 hk)])
    refine ⟨h1,h2,vs,h3,?_⟩;rw [hL] at h4;have h5:=h4.take pre.length;have h6:=h4.drop pre.length;rw [List.take_left] at h5;rw [List.drop_left] at h6;have h7:=(LZ (λp hp=>h p (Bd _ hp)) h5).append h6
    rwa [List.take_append_drop] at h7
   ·exact (h False VZ).elim
 |memo g f=>
  cases r' with
  |cells _ _=>exact (h False (by simp [F2])).elim
  |row _ _ _ _=>exact (h False (by simp [F2])).elim
  |ints _ _ _ _=>exact (h False (by simp [F2])).elim
  |aka _ _ _ _ _=>exact (h False (by simp [F2])).elim
  |keep _ _=>exact (h False (by simp [F2])).elim
  |memo g' f'=>
   have hh: ∀k,g k->g' k/\f k=f' k:=h _ (by simp [F2])
   obtain ⟨h1,h2,es,c,h3,h4⟩:=k;exact ⟨h1,h2,es,c,h3,λx hx=>⟨(hh _ (h4 x hx).1).1,(h4 x hx).2.trans (hh _ (h4 x hx).1).2⟩⟩
 |row T sz n f=>
  cases r' with
  |memo _ _=>exact (h False (by simp [F2])).elim
  |cells _ _=>exact (h False (by simp [F2])).elim
  |ints _ _ _ _=>exact (h False (by simp [F2])).elim
  |aka _ _ _ _ _=>exact (h False (by simp [F2])).elim
  |keep _ _=>exact (h False (by simp [F2])).elim
  |row T' sz' n' f'=>
   simp only [F2] at h;split at h
   ·rename_i hb;simp only [HE] at hb;have h1:T=T':=H4 hb.1;have h2:sz=sz':=H4 hb.2;subst h1;subst h2;have h3:n=n':=h _ VZ;subst h3;have h4: ∀i,i<n->f i=f' i:=h _ VZ;obtain ⟨q1,q2,q3,xs,q4,q5⟩:=k;exact ⟨q1,q2,λi O=>by rw [←h4 i O];exact q3 i O,xs,q4,λi j a v O ha hv=>q5 i j a v O (by rw [h4 i O];exact ha) hv⟩
   ·exact (h False VZ).elim
def Wu4:GU->Bool
 | .cells _ [.x _]=>true
 | .cells _ (_::_::_::_:: .x (.slice _ _ _):: .x (.slice _ _ _)::_)=>true
 |_=>false
def Wt2:H9->Nat->Option GU
 |[],_=>none
 |(k,r)::t,id=>match Nat.beq k id&&Wu4 r with
  |true=>some r
  |false=>Wt2 t id
theorem lO{id:Nat}{r:GU}: ∀{m:H9},Wt2 m id=some r->(id,r)∈m
 |[],h=>by simp [Wt2] at h
 |(k,q)::t,h=>by
  unfold Wt2 at h;split at h
  ·rename_i hk;rw [HE] at hk;have:k=id:=H4 hk.1;subst this;cases h;exact GK
  ·exact HX _ (lO h)
def Qc5(sm:H9)(id:Nat)(r:GU):Option GU:=match Wu4 r with
 |true=>match Wt2 sm id with
  |some r'=>some r'
  |none=>DL sm id
 |false=>DL sm id
theorem Qp3{sm:H9}{id:Nat}{r r':GU}(h:Qc5 sm id r=some r'):(id,r')∈sm:=by
 unfold Qc5 at h;split at h
 ·split at h
  ·rename_i hg;cases h;exact lO hg
  ·exact G5 h
 ·exact G5 h
def Wi7(sm:H9):H9->List Prop
 |[]=>[]
 |(id,r)::t=>(match Qc5 sm id r with
  |some r'=>F2 r' r
  |none=>[False])++Wi7 sm t
def svP:List (List AV)->List (List AV)->List Prop
 |[],[]=>[]
 |a::l,b::l'=>gN a b++svP l l'
 |_,_=>[False]
def ghP:Option Nat->Option Nat->List Prop
 |none,none=>[]
 |some a,some b=>[a=b]
 |_,_=>[False]
theorem Qb1{e:UP}{w:World}: ∀{l l':List (List AV)} {vs:List (List Value)},(∀p∈svP l l',p)->LD e w l vs->LD e w l' vs
 |[],[],_,_,r=>r
 |a::l,b::l',vs,h,r=>by
  cases vs with
  |nil=>have:=r.1;simp at this
  |cons v vs=>
   obtain ⟨a',l'',he,h1,h2⟩:=r.cons_inv;cases he;exact LD.cons (LZ (λp hp=>h p (Bd _ hp)) h1) (Qb1 (λp hp=>h p (As _ hp)) h2)
 |[],_::_,_,h,_=>(h False (by simp [svP])).elim
 |_::_,[],_,h,_=>(h False (by simp [svP])).elim
theorem Zo9{a b:Option Nat}(h: ∀p∈ghP a b,p):a=b:=by
 cases a<;>cases b
 ·rfl
 ·exact (h False (by simp [ghP])).elim
 ·exact (h False (by simp [ghP])).elim
 ·rename_i x y;have:x=y:=h _ (by simp [ghP])
  rw [this]
def BM(s E:St):List Prop:=gN s.σ E.σ++(Wi7 s.m E.m++(svP s.sv E.sv++ghP s.gh E.gh))
def eI(N:Nat):GU->Bool
 | .cells _ l=>l.all (w8 N 6)
 | .row _ _ _ _=>true
 | .memo _ _=>true
 | .ints _ pre _ _=>pre.all (w8 N 6)
 | .aka _ _ _ _ _=>false
 | .keep _ l=>l.all (w8 N 6)
def okB(E:St):Bool:=E.σ.all (w8 E.nx 6)&&(E.m.all (λp=>Nat.blt p.1 E.nx&&eI E.nx p.2)&&E.sv.all (λl=>l.all (w8 E.nx 6)))
theorem memP_holds{e:UP}{w:World}{sm:H9}(hm:UZ e sm w): ∀{m:H9},(∀p∈Wi7 sm m,p)->UZ e m w
 |[],_=>λp hp=>by cases hp
 |(id,r)::t,h=>by
  intro p hp;rcases GS.1 hp with rfl|hp
  ·unfold Wi7 at h;cases hg:Qc5 sm id r with
   |none=>rw [hg] at h;exact (h False VZ).elim
   |some r'=>
    rw [hg] at h;exact resEq_holds (λp hp=>h p (Bd _ hp)) (hm _ (Qp3 hg))
  ·exact memP_holds hm (m:=t) (λq hq=>h q (by unfold Wi7;exact As _ hq)) p hp
theorem FZ{cx:Cx}{s E:St}{a:Act}{w:World}(h: ∀p∈BM s E,p)(hok:okB E=true)(r:Rel cx s a w):Rel cx E a w:=by
 obtain ⟨w0,T,e,hΦ,r⟩:=r;simp only [okB,HE] at hok;obtain ⟨ok1,ok2,ok3⟩:=hok;have hσ:=LZ (λp hp=>h p (Bd _ hp)) r.slots
 have hm:=memP_holds r.mem (λp hp=>h p (As _ (Bd _ hp)))
 have hsv:=Qb1 (λp hp=>h p (As _ (As _ (Bd _ hp)))) r.xt.saved
 have hgh:=Zo9 (λp hp=>h p (As _ (As _ (As _ hp))))
 rw [hgh] at hΦ;refine ⟨w0,T,e.kill E.nx,hΦ,⟨r.env.apart,r.env.owned,r.env.glob⟩,r.below,?_,λk hk=>hk.2,r.foe,⟨r.xt.defers,r.xt.kept,⟨hsv.1,λi a v ha hv=>⟨(hsv.2 i a v ha hv).1,λj b u hb hu=>xO 6 b u (BA.1 (BA.1 ok3 a (F7 ha)) b (F7 hb)) ((hsv.2 i a v ha hv).2 j b u hb hu)⟩⟩,r.xt.size⟩,⟨hσ.1,λi a v ha hv=>xO 6 a v (BA.1 ok1 a (F7 ha)) (hσ.2 i a v ha hv)⟩⟩
 intro p hp;have hk:=hm p hp;have hb:=BA.1 ok2 p hp;simp only [HE] at hb;have hlt:p.1<E.nx:=by have:=hb.1;rw [Aw] at this;exact this
 obtain ⟨id,res⟩:=p;cases res with
 |cells T l=>
  obtain ⟨h1,h2,vs,h3,h4⟩:=hk;exact ⟨⟨h1,hlt⟩,h2,vs,h3,h4.1,λi a v ha hv=>xO 6 a v (BA.1 hb.2 a (F7 ha)) (h4.2 i a v ha hv)⟩
 |memo g f=>
  obtain ⟨h1,h2,es,c,h3,h4⟩:=hk;exact ⟨⟨h1,hlt⟩,h2,es,c,h3,h4⟩
 |aka _ _ _ _ _=>simp [eI] at hb
 |keep T l=>
  obtain ⟨h1,h2,h0,vs,h3,h4⟩:=hk;exact ⟨⟨h1,hlt⟩,h2,h0,vs,h3,h4.1,λi a v ha hv=>xO 6 a v (BA.1 hb.2 a (F7 ha)) (h4.2 i a v ha hv)⟩
 |ints T pre n f=>
  obtain ⟨h1,h2,vs,h3,h4⟩:=hk;refine ⟨⟨h1,hlt⟩,h2,vs,h3,h4.1,λi a v ha hv=>xO 6 a v ?_ (h4.2 i a v ha hv)⟩
  rcases List.mem_append.1 (F7 ha) with hm|hm
  ·exact BA.1 hb.2 a hm
  ·obtain ⟨k,_,rfl⟩:=List.mem_map.1 hm;rfl
 |row T sz n f=>
  obtain ⟨h1,h2,h3,xs,h4,h5⟩:=hk;exact ⟨⟨h1,hlt⟩,h2,h3,xs,h4,λi j a v O ha hv=>Rep.idf (e:=e) (e':=e.kill E.nx) (λ_ h=>h) (h5 i j a v O ha hv) ((h3 i O).2 a (F7 ha))⟩
theorem aE{F:Fence}{n:Nat}{P:Program}{Q:Exit->Act->World->Prop}{body:Code}{X:Type}(μ:X->Nat)(Inv:X->Act->World->Prop)
  (round: ∀x a w,Inv x a w->body.wpIn F n P (Exit.then (λa' w'=> ∃x',μ x'<μ x/\Inv x' a' w') Q) a w){x:X}{a:Act}{w:World}(h:Inv x a w):(Code.loop body).wpIn F n P Q a w:=by
 intro b k cs hro hb Z;have key: ∀j x a w,μ x=j->Inv x a w->
   ∃e a' w',Q e a' w'/\ArrivesIn (Machine.fenced P F) P (lone (b.atR a (.code body:: .inLoop body::k)) cs w) b k cs e a' w':=by
  intro j
  induction j using Nat.strongRecOn with
  |_ j ih=>
   intro x a w hn hI;obtain ⟨e,a₁,w₁,hq,uI⟩:=round x a w hI b (.inLoop body::k) cs hro hb Z;cases e with
   |normal=>
    obtain ⟨x',hlt,hI₁⟩:=hq;obtain ⟨e₂,a₂,w₂,hq₂,harr₂⟩:=ih (μ x') (hn▸hlt) x' a₁ w₁ rfl hI₁;exact ⟨e₂,a₂,w₂,hq₂,.of_steps (StepsIn.trans uI (.one (fenced_calm hb Z rfl) stepR_inLoop)) harr₂⟩
   |exit id=>exact ⟨_,a₁,w₁,hq,.pass (x:= .inLoop body) rfl (λ_ _=> .inl VZ) uI⟩
   |goto l=>exact ⟨_,a₁,w₁,hq,.pass (x:= .inLoop body) rfl (λ_ _=> .inl VZ) uI⟩
   |ret=>exact ⟨_,a₁,w₁,hq,.pass (x:= .inLoop body) rfl (λ_ _=> .inl VZ) uI⟩
   |panic ch=>exact ⟨_,a₁,w₁,hq,.pass (x:= .inLoop body) rfl (λ_ _=> .inl VZ) uI⟩
   |outgrown=>exact ⟨_,a₁,w₁,hq,.pass (x:= .inLoop body) rfl (λ_ _=> .inl VZ) uI⟩
 obtain ⟨e,a',w',hq,uI⟩:=key _ x a w rfl h;exact ⟨e,a',w',hq,.of_steps (.one (fenced_calm hb Z rfl) stepR_loop) uI⟩
def HM(E:St)(t:CT):UN:=λs=>some (.needT (BM s E) t)
theorem jZ{P:Program}{ro:Option Nat}{cx:Cx}{c:Code}{E:St}{t:CT}(hok:okB E=true)(h: ∀(n:Nat) (Q:GB×St->Prop),t.sat Q-> ∀(a:Act) (w:World),Rel cx E a w->c.wpIn (fr ro) n P (CR cx Q) a w):HN P ro cx c (HM E t):=by
 intro n s t' ht Q FN a w r;simp only [HM,HJ] at ht;subst ht
 replace FN:=VR.sat_needT FN
 exact h n Q FN.2 a w (FZ (GH FN.1) hok r)
def yA(P:Program)(G:List (Nat×Spec))(X:Ext)(L:List UN)(body:Code):Nat->St->CT
 | 0,_=> .fail
 |k+1,s=>(DA P G X L body 0 s).bind λp=>match p.1 with
  | .normal=>yA P G X L body k p.2
  |x=> .leaf (x,p.2)
def zN(P:Program)(G:List (Nat×Spec))(L:List UN)(body:Code)(n:Nat)(s:St):CT:=yA P G {} L body n s
section
variable {P:Program}{G:List (Nat×Spec)}
theorem v6{X:Ext}{L:List UN}{ro:Option Nat}{cx:Cx}(hG:VP P G)(hX:U1 P X cx)(GW:P.follows .mixedOrders=true){body:Code}(hL: ∀j cj,VX body j=some cj-> ∀sp,L[j]? =some sp->HN P ro cx cj sp)(m:Nat):
  HN P ro cx (.loop body) (λs=>some (yA P G X L body m s)):=by
 intro n s t ht Q FN a w r;simp only [HJ] at ht;subst ht;refine aE (X:=Nat×St) (λp=>p.1) (λp a w=>(yA P G X L body p.1 p.2).sat Q/\Rel cx p.2 a w) ?_ (x:=(m,s)) ⟨FN,r⟩
 rintro ⟨k,s⟩ a w ⟨h,Z⟩;cases k with
 |zero=>exact h.elim
 |succ k=>
  refine wpIn_mono (DE hG hX GW body 0 s _ a w (λj cj hj sp hsp=>hL j cj hj sp (by simpa using hsp)) (VR.sat_bind h) Z) ?_
  rintro ex a₁ w₁ ⟨y,s',rfl,hq,hr'⟩;cases y with
  |normal=>exact ⟨(k,s'),Bk _,hq,hr'⟩
  |exit id=>exact ⟨.exit id,s',rfl,hq,hr'⟩
  |ret=>exact ⟨.ret,s',rfl,hq,hr'⟩
theorem LF{L:List UN}(hG:VP P G)(GW:P.follows .mixedOrders=true){body:Code}(hL: ∀j cj,VX body j=some cj-> ∀sp,L[j]? =some sp->GC P cj sp)(n:Nat):
  GC P (.loop body) (λs=>some (zN P G L body n s)):=λro cx=>v6 hG (U1.nil P cx) GW (λj cj hj sp hsp=>hL j cj hj sp hsp ro cx) n
end
def UE:Option Code->Code
 |some (.loop c)=>c
 |_=> .skip
def UB(f:Func):Code:=match f.body with
 |some c=>c
 |none=> .skip
theorem G4{S:Code->UN->Prop}{c:Code}{sp:UN}(h: ∀cj,VX c 0=some cj->S cj sp): ∀j cj,VX c j=some cj-> ∀s,[sp][j]? =some s->S cj s:=by
 intro j cj hj s hs;cases j with
 |zero=>simp at hs;subst hs;exact h cj hj
 |succ j=>simp at hs
def Xv7:List (Nat×AV)->Nat->AV
 |[],_=> .top
 |(k,a)::t,i=>match Nat.beq k i with
  |true=>a
  |false=>Xv7 t i
def mkS(n:Nat)(l:List (Nat×AV)):List AV:=(List.range n).map (Xv7 l)
def Wn9(l:List AV)(j:Nat):Int:=match l[j]? with
 |some (.x (.int _ n))=>n
 |_=>0
def Jc9:Nat->(Nat->Int)->List AV
 | 0,_=>[]
 |k+1,g=> .x (.int .i64 (g 0))::Jc9 k (λj=>g (j+1))
def UJ(sz n:Nat)(f:Nat->List AV):Prop:= ∀k,k<n->f k=Jc9 sz (Wn9 (f k))
theorem U2.args{P:Program}{f:FuncId}{avs avs':List AV}{res:AV}(h:U2 P f avs' res)(Z: ∀e w vs,U7 e w avs vs->U7 e w avs' vs)(O:(∀a∈avs,Idf a)-> ∀a∈avs',Idf a):U2 P f avs res:=
 λe w args hro hgl FS GQ=>h e w args hro hgl (O FS) (Z e w args GQ)
inductive uO:AV->AV->Prop
 |refl (a:AV):uO a a
 |lst (sz n:Nat) (f g:Nat->List AV):(∀k,k<n->f k=g k)->uO (.lst sz n f) (.lst sz n g)
 |nil (sz:Nat) (g:Nat->List AV):uO (.x (.slice none 0 0)) (.lst sz 0 g)
 |agg (l l':List AV):l.length=l'.length->(∀(j:Nat) (a b:AV),l[j]? =some a->l'[j]? =some b->uO a b)->uO (.agg l) (.agg l')
 |deep (sz n:Nat) (f g:Nat->List AV):(∀k,k<n->(f k).length=(g k).length)->(∀(k j:Nat) (a b:AV),k<n->(f k)[j]? =some a->(g k)[j]? =some b->uO a b)->uO (.lst sz n f) (.lst sz n g)
theorem uO.idf{a b:AV}(h:uO a b)(k:Idf a):Idf b:=by
 induction h with
 |refl=>exact k
 |lst sz n f g hfg=>cases k with|lst _ _ _ k=>exact .lst sz n g (λi O a ha=>k i O a (by rw [hfg i O];exact ha))
 |nil sz g=>exact .lst sz 0 g (λi O=>VO)
 |deep sz n f g hl _ ih=>
  cases k with
  |lst _ _ _ k=>
   refine .lst sz n g λi O b hb=>?_
   obtain ⟨j,hj⟩:=xF.1 hb;have hjl:j<(f i).length:=by rw [hl i O];exact (FY.1 hj).1
   exact ih i j _ b O (D5 hjl) hj (k i O _ (List.getElem_mem hjl))
 |agg l l' hl _ ih=>
  cases k with
  |agg _ k=>
   refine .agg l' λb hb=>?_
   obtain ⟨j,hj⟩:=xF.1 hb;have hjl:j<l.length:=by rw [hl];exact (FY.1 hj).1
   exact ih j l[j] b (D5 hjl) hj (k _ (List.getElem_mem hjl))
theorem uO.rep{e:UP}{w:World}{a b:AV}{v:Value}(h:uO a b)(r:Rep e w a v):Rep e w b v:=by
 induction h generalizing v with
 |refl=>exact r
 |lst sz n f g hfg=>
  cases r with
  |lstNil sz f=>exact .lstNil sz g
  |lst sz n f b o cap gg h1 h2 h3 h4 h5 h6 h7 h8 ad had=>
   exact .lst sz n g b o cap gg h1 h2 (λi O a ha=>h3 i O a (by rw [hfg i O];exact ha)) h4 h5 h6 (λi O=>by rw [←hfg i O];exact h7 i O) (λi j a O ha=>h8 i j a O (by rw [hfg i O];exact ha)) ad had
 |deep sz n f g hl hsm ih=>
  cases r with
  |lstNil sz f=>exact .lstNil sz g
  |lst sz n f b o cap gg h1 h2 h3 h4 h5 h6 h7 h8 ad had=>
   have get: ∀i j b,i<n->(g i)[j]? =some b-> ∃a,(f i)[j]? =some a:=λi j b O hb=>by
    have hj:j<(f i).length:=by rw [hl i O];exact (FY.1 hb).1
    exact ⟨_,D5 hj⟩
   refine .lst sz n g b o cap gg h1 h2 (λi O b hb=>?_) h4 h5 h6 (λi O=>by rw [←hl i O];exact h7 i O) (λi j b O hb=>?_) ad had
   ·obtain ⟨j,hj⟩:=xF.1 hb;obtain ⟨a,ha⟩:=get i j b O hj;exact (hsm i j a b O ha hj).idf (h3 i O a (F7 ha))
   ·obtain ⟨a,ha⟩:=get i j b O hb;exact ih i j a b O ha hb (h8 i j a O ha)
 |nil sz g=>cases r.x_inv;exact .lstNil sz g
 |agg l l' hl _ ih=>
  obtain ⟨vs,rfl,Z⟩:=r.agg_inv;refine Rep.aggL ⟨by rw [←hl];exact Z.1,λj b v hb hv=>?_⟩
  have hj:j<l.length:=by rw [hl];exact (FY.1 hb).1
  exact ih j l[j] b (D5 hj) hb (Z.2 j _ v (D5 hj) hv)
inductive P3:List AV->List AV->Prop
 |nil:P3 [] []
 |cons {a b:AV} {l l':List AV}:uO a b->P3 l l'->P3 (a::l) (b::l')
theorem P3.same{l l':List AV}(h:P3 l l'):uO (.agg l) (.agg l'):=by
 have key:l.length=l'.length/\ ∀(j:Nat) (a b:AV),l[j]? =some a->l'[j]? =some b->uO a b:=by
  induction h with
  |nil=>exact ⟨rfl,λj a b h=>by simp at h⟩
  |cons h1 _ ih=>
   refine ⟨by simp [ih.1],λj a b ha hb=>?_⟩
   cases j with
   |zero=>simp at ha hb;subst ha;subst hb;exact h1
   |succ j=>exact ih.2 j a b (by simpa using ha) (by simpa using hb)
 exact .agg l l' key.1 key.2
theorem P3.rep{e:UP}{w:World}{l l':List AV}(h:P3 l l'): ∀{vs:List Value},U7 e w l vs->U7 e w l' vs:=by
 induction h with
 |nil=>exact λr=>r
 |cons h1 _ ih=>
  intro vs r;obtain ⟨v,vs',rfl,hv,hvs⟩:=r.cons_inv;exact U7.cons (h1.rep hv) (ih hvs)
theorem P3.idf{l l':List AV}(h:P3 l l'):(∀a∈l,Idf a)-> ∀a∈l',Idf a:=by
 induction h with
 |nil=>exact λ_ a ha=>by cases ha
 |cons h1 _ ih=>
  intro k a ha;rcases GS.1 ha with rfl|ha
  ·exact h1.idf (k _ GK)
  ·exact ih (λa ha=>k a (HX _ ha)) a ha
theorem U2.same{P:Program}{f:FuncId}{avs avs':List AV}{res:AV}(h:U2 P f avs' res)(k:P3 avs avs'):U2 P f avs res:=h.args (λ_ _ _ r=>k.rep r) k.idf
def H6:List (Nat×AV)->List AV->List AV
 |[],σ=>σ
 |(k,a)::t,σ=>(H6 t σ).set k a
def We3(P:Program)(G:List (Nat×Spec))(L:List UN)(body:Code)(s nxt:St)(out:GB->Option St):VR GB:=
 (m7 P G L body 0 s).bind λp=>match p.1 with
  | .normal=> .needT (BM p.2 nxt) (.leaf .normal)
  | .exit id=>match out (.exit id) with
   |some E=> .needT (BM p.2 E) (.leaf (.exit id))
   |none=> .fail
  | .ret=>match out .ret with
   |some E=> .needT (BM p.2 E) (.leaf .ret)
   |none=> .fail
section
variable {P:Program}{G:List (Nat×Spec)}{L:List UN}
theorem oD{body:Code}{s nxt:St}{out:GB->Option St}{R:GB->Prop}(h:(We3 P G L body s nxt out).sat R):
  (m7 P G L body 0 s).sat (λp=>match p.1 with
   | .normal=>R .normal/\UF (BM p.2 nxt)
   |y=> ∃E,out y=some E/\R y/\UF (BM p.2 E)):=by
 refine VR.sat_mono ?_ (VR.sat_bind h);rintro ⟨y,s'⟩ hp;cases y with
 |normal=>exact ⟨(VR.sat_needT hp).2,(VR.sat_needT hp).1⟩
 |exit id=>
  dsimp only at hp ⊢
  split at hp
  ·rename_i E hE;exact ⟨E,hE,(VR.sat_needT hp).2,(VR.sat_needT hp).1⟩
  ·exact hp.elim
 |ret=>
  dsimp only at hp ⊢
  split at hp
  ·rename_i E hE;exact ⟨E,hE,(VR.sat_needT hp).2,(VR.sat_needT hp).1⟩
  ·exact hp.elim
theorem HL(hG:VP P G)(GW:P.follows .mixedOrders=true){body:Code}(hL: ∀j cj,VX body j=some cj-> ∀sp,L[j]? =some sp->GC P cj sp)
  {X:Type}(inv:X->St)(I:X->Prop)(μ:X->Nat)(out:X->GB->Option St){t:CT}{x0:X}(h0:I x0)
  (hok: ∀x,okB (inv x)=true)(wB: ∀x y E,out x y=some E->okB E=true)
  (round: ∀(Q:GB×St->Prop),t.sat Q-> ∀x,I x-> ∃x',(We3 P G L body (inv x) (inv x') (out x)).sat (λy=>match y with
   | .normal=>I x'/\μ x'<μ x
   |y=> ∀E,out x y=some E->Q (y,E))):GC P (.loop body) (HM (inv x0) t):=by
 intro ro cx;refine jZ (hok x0) ?_;intro n Q hQ a w r;refine aE μ (λx a w=>I x/\Rel cx (inv x) a w) ?_ ⟨h0,r⟩
 rintro x a w ⟨hx,Z⟩;obtain ⟨x',jC⟩:=round Q hQ x hx;refine wpIn_mono (DE hG (U1.nil P cx) GW body 0 (inv x) _ a w (λj cj hj sp hsp=>hL j cj hj sp (by simpa using hsp) ro cx) (oD jC) Z) ?_
 rintro ex a₁ w₁ ⟨y,s',rfl,hq,hr'⟩;cases y with
 |normal=>
  obtain ⟨⟨h1,h2⟩,h3⟩:=hq;exact ⟨x',h2,h1,FZ (GH h3) (hok x') hr'⟩
 |exit id=>
  obtain ⟨E,hE,h1,h3⟩:=hq;exact ⟨.exit id,E,rfl,h1 E hE,FZ (GH h3) (wB x _ E hE) hr'⟩
 |ret=>
  obtain ⟨E,hE,h1,h3⟩:=hq;exact ⟨.ret,E,rfl,h1 E hE,FZ (GH h3) (wB x _ E hE) hr'⟩
end
def H0(p:Nat->Bool):Nat->Nat
 | 0=>0
 |n+1=>match Nat.blt (H0 p n) n with
  |true=>H0 p n
  |false=>match p n with
   |true=>n
   |false=>n+1
theorem F0(p:Nat->Bool): ∀n,H0 p n<=n/\(∀j,j<H0 p n->p j=false)/\(H0 p n<n->p (H0 p n)=true)
 | 0=>by simp [H0]
 |n+1=>by
  obtain ⟨h1,h2,h3⟩:=F0 p n;unfold H0;split
  ·rename_i hb;rw [Aw] at hb;exact ⟨VO,h2,λ_=>h3 hb⟩
  ·rename_i hb;rw [←Bool.not_eq_true,Aw] at hb;have:H0 p n=n:=VO;rw [this] at h2;split
   ·rename_i hp;exact ⟨VO,h2,λ_=>hp⟩
   ·rename_i hp;refine ⟨VO,λj hj=>?_,λh=>VO⟩
    rcases (show j<n\/j=n by omega) with h|rfl
    ·exact h2 j h
    ·exact hp
theorem jD{p:Nat->Bool}{n k:Nat}(hk:k<n)(hp:p k=true)(hb: ∀j,j<k->p j=false):H0 p n=k:=by
 obtain ⟨h1,h2,h3⟩:=F0 p n;rcases Nat.lt_trichotomy (H0 p n) k with h|h|h
 ·have:=h3 VO;rw [hb _ h] at this;cases this
 ·exact h
 ·rw [h2 k h] at hp;cases hp
theorem qJ{p:Nat->Bool}{n:Nat}(hb: ∀j,j<n->p j=false):H0 p n=n:=by
 obtain ⟨h1,h2,h3⟩:=F0 p n;rcases An (H0 p n) n with h|h
 ·have:=h3 h;rw [hb _ h] at this;cases this
 ·omega
def DF(p:Nat->Bool):Nat->Bool
 | 0=>true
 |n+1=>DF p n&&p n
theorem GY{p:Nat->Bool}: ∀{n:Nat},DF p n=true↔ ∀j,j<n->p j=true
 | 0=>by simp [DF]
 |n+1=>by
  rw [DF,HE,GY];constructor
  ·rintro ⟨h1,h2⟩ j hj;rcases (show j<n\/j=n by omega) with h|rfl
   ·exact h1 j h
   ·exact h2
  ·exact λh=>⟨λj hj=>h j VO,h n VO⟩
theorem kZ{p:Nat->Bool}{n:Nat}:DF p n=decide (H0 (λk=> !p k) n=n):=by
 obtain ⟨h1,h2,h3⟩:=F0 (λk=> !p k) n
 rw [Bool.eq_iff_iff,GY,y6];constructor
 ·intro h;exact qJ (λj hj=>by simp [h j hj])
 ·intro h j hj;have:=h2 j VO;simpa using this
end Go.Sx
