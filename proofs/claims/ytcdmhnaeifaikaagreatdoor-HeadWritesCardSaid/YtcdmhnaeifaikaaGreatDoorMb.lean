/- Contracts, put together. Conditions: those of each. -/
import Derived.Test.YtcdmhnaeifaikaaGreatDoorMa
set_option linter.unusedSimpArgs false
set_option linter.unusedVariables false
namespace Go.Sx
open Go Go.RowKit
inductive VR (α:Type) where
 |fail
 |leaf (a:α)
 |branch (b:Bool) (t f:VR α)
 |need (ps:List Prop) (t:VR α)
 |may (p:Prop) (t f:VR α)
def UF:List Prop->Prop
 |[]=>True
 |[p]=>p
 |p::ps=>p/\UF ps
theorem GI: ∀{ps:List Prop},UF ps-> ∀p∈ps,p
 |[],_,_,h=>by cases h
 |[q],h,p,hp=>by rcases B2.1 hp with rfl;exact h
 |q::r::ps,h,p,hp=>by
  rcases GT.1 hp with rfl|hp;exact h.1;exact GI h.2 p hp
namespace VR
variable {α β:Type}
def bind:VR α->(α->VR β)->VR β
 | .fail,_=> .fail
 | .leaf a,g=>g a
 | .branch b t f,g=> .branch b (t.bind g) (f.bind g)
 | .need ps t,g=> .need ps (t.bind g)
 | .may p t f,g=> .may p (t.bind g) (f.bind g)
def sat(Q:α->Prop):VR α->Prop
 | .fail=>False
 | .leaf a=>Q a
 | .branch b t f=>(b=true->t.sat Q)/\(b=false->f.sat Q)
 | .need ps t=>UF ps/\t.sat Q
 | .may p t f=>(p->t.sat Q)/\f.sat Q
theorem sat_mono{Q Q':α->Prop}(h: ∀a,Q a->Q' a): ∀{t:VR α},t.sat Q->t.sat Q'
 | .fail,k=>k
 | .leaf _,k=>h _ k
 | .branch _ _ _,k=>⟨λe=>sat_mono h (k.1 e),λe=>sat_mono h (k.2 e)⟩
 | .need _ _,k=>⟨k.1,sat_mono h k.2⟩
 | .may _ _ _,k=>⟨λe=>sat_mono h (k.1 e),sat_mono h k.2⟩
theorem sat_bind{Q:β->Prop}{g:α->VR β}: ∀{t:VR α},(t.bind g).sat Q->t.sat (λa=>(g a).sat Q)
 | .fail,k=>k
 | .leaf _,k=>k
 | .branch _ _ _,k=>⟨λe=>sat_bind (k.1 e),λe=>sat_bind (k.2 e)⟩
 | .need _ _,k=>⟨k.1,sat_bind k.2⟩
 | .may _ _ _,k=>⟨λe=>sat_bind (k.1 e),sat_bind k.2⟩
def needT(ps:List Prop)(t:VR α):VR α:=match ps with
 |[]=>t
 |p::r=> .need (p::r) t
theorem sat_needT{Q:α->Prop}{ps:List Prop}{t:VR α}(h:(needT ps t).sat Q):UF ps/\t.sat Q:=by
 cases ps with
 |nil=>exact ⟨trivial,h⟩
 |cons p r=>exact h
end VR
structure St where
 σ:List AV
 m:HA
 nx:Nat
 gh:Option Nat:=none
 sv:List (List AV):=[]
def cD:Value->AV
 | .bool b=> .lit b
 |v=> .x v
def rho(σ:List AV):Operand->AV
 | .tmp t=>σ.getD t .top
 | .const v=>cD v
 | .global g=> .x (.pointer (some ⟨g,0,none⟩))
 | .func f=> .fn (.func f) [] []
theorem AE{e:UP}{w:World}(v:Value):Rep e w (cD v) v:=by
 unfold cD;split;exact .lit _;exact .x _
theorem FR{e:UP}{w:World}{σ:List AV}{a:Act}(h:U8 e w σ a.tmps.toList)(x:Operand):Rep e w (rho σ x) (a.eval x):=by
 cases x with
 |tmp t=>
  simp only [rho,Act.eval];by_cases ht:t<σ.length;obtain ⟨v,hv,r⟩:=h.get (List.getElem?_eq_getElem ht);have hv':a.tmps[t]? =some v:=by simpa using hv
  simpa [List.getD,List.getElem?_eq_getElem ht,Array.getD_eq_getD_getElem?,hv'] using r;have hno:σ[t]? =none:=Br (Nat.le_of_not_lt ht);rw [List.getD,hno];exact .top _
 |const v=>exact AE v
 |global g=>exact .x _
 |func f=>exact .fn (.func f) [] [] [] [] rfl (λi a v h=>by simp at h) rfl (λi a v h=>by simp at h)
structure Cx where
 M:Nat->Prop
 Φ:Option Nat->(Nat->Prop)->World->Prop
 K:Nat->Obj->Prop
 saved:List (List Value)
 sz:Nat:=0
def TZ(M:Nat->Prop)(e:UP)(w:World)(ds:List Deferred):Prop:=(∀d∈ds,∃D,d={target:= .collected D,args:=#[] }/\e.ro D/\D<w.heap.size/\w.heap[D]? =some (.deferred (some []))/\M D)/\ds.Nodup
def LK(e:UP)(w:World)(l:List (List AV))(vs:List (List Value)):Prop:=l.length=vs.length/\ ∀(i:Nat) (a:List AV) (v:List Value),l[i]? =some a->vs[i]? =some v->U8 e w a v
theorem LK.step{e e':UP}{w w':World}(s:Step e e' w w'){l:List (List AV)}{vs:List (List Value)}(h:LK e w l vs):LK e' w' l vs:=⟨h.1,λi a v ha hv=>(h.2 i a v ha hv).step s⟩
theorem LK.cons{e:UP}{w:World}{a:List AV}{v:List Value}{l:List (List AV)}{vs:List (List Value)}(h:U8 e w a v)(t:LK e w l vs):LK e w (a::l) (v::vs):=by
 refine ⟨by simp [t.1],λi b u hb hu=>?_⟩
 cases i with
 |zero=>simp at hb hu;subst hb;subst hu;exact h
 |succ i=>simp at hb hu;exact t.2 i b u hb hu
theorem LK.cons_inv{e:UP}{w:World}{l:List (List AV)}{v:List Value}{vs:List (List Value)}(h:LK e w l (v::vs)): ∃a l',l=a::l'/\U8 e w a v/\LK e w l' vs:=by
 cases l with
 |nil=>have:=h.1;simp at this
 |cons a l'=>exact ⟨a,l',rfl,h.2 0 a v (by simp) (by simp),⟨by have:=h.1;simpa using this,λi b u hb hu=>h.2 (i+1) b u (by simpa using hb) (by simpa using hu)⟩⟩
theorem LK.map{e e':UP}{w w':World}{l:List (List AV)}{vs:List (List Value)}(g:AV->AV)(hg: ∀a v,Rep e w a v->Rep e' w' (g a) v)(h:LK e w l vs):LK e' w' (l.map (·.map g)) vs:=by
 refine ⟨by simp [h.1],λi a v ha hv=>?_⟩
 rw [Bn,Ay] at ha;obtain ⟨a',ha',rfl⟩:=ha;obtain ⟨h1,h2⟩:=h.2 i a' v ha' hv;refine ⟨by simp [h1],λj b u hb hu=>?_⟩
 rw [Bn,Ay] at hb;obtain ⟨b',hb',rfl⟩:=hb;exact hg _ _ (h2 j b' u hb' hu)
structure Xt (c:Cx) (e:UP) (sv:List (List AV)) (ds:List Deferred) (w:World):Prop where
 defers:TZ c.M e w ds
 kept: ∀b o,c.K b o->e.ro b/\b<w.heap.size/\w.heap[b]? =some o
 saved:LK e w sv c.saved
 size:c.sz<=w.heap.size
theorem TZ.step{M:Nat->Prop}{e e':UP}{w w':World}(s:Step e e' w w'){ds:List Deferred}(h:TZ M e w ds):TZ M e' w' ds:=by
 refine ⟨λd hd=>?_,h.2⟩;obtain ⟨D,h1,h2,h3,h4,h5⟩:=h.1 d hd;obtain ⟨k1,k2⟩:=s.ro D h3 h2;exact ⟨D,h1,k1,Nat.lt_of_lt_of_le h3 s.size,k2.trans h4,h5⟩
theorem Xt.step{c:Cx}{e e':UP}{sv:List (List AV)}{ds:List Deferred}{w w':World}(h:Xt c e sv ds w)(s:Step e e' w w'):Xt c e' sv ds w':=by
 refine ⟨h.defers.step s,λb o hb=>?_,h.saved.step s,Ar h.size s.size⟩;obtain ⟨h1,h2,h3⟩:=h.kept b o hb;obtain ⟨k1,k2⟩:=s.ro b h2 h1;exact ⟨k1,Nat.lt_of_lt_of_le h2 s.size,k2.trans h3⟩
structure FB (c:Cx) (w0:World) (T:Nat->Prop) (e:UP) (s:St) (a:Act) (w:World):Prop where
 env:GB e w0.heap.size w
 below:Below w0.heap.size w0 w
 mem:G5 e s.m w
 live: ∀k,e.live k->k<s.nx
 foe: ∀b,T b->b<w0.heap.size/\ ¬e.ro b
 xt:Xt c e s.sv a.defers w
 slots:U8 e w s.σ a.tmps.toList
def Rel(c:Cx)(s:St)(a:Act)(w:World):Prop:= ∃w0 T e,c.Φ s.gh T w0/\FB c w0 T e s a w
def xQ(σ:List AV)(dst:Option Nat)(v:AV):List AV:=
 match dst with
 |some d=>σ.set d v
 |none=>σ
theorem qL{e:UP}{w:World}{σ:List AV}{a:Act}(h:U8 e w σ a.tmps.toList)(dst:Option Nat){av:AV}{v:Value}(r:Rep e w av v):U8 e w (xQ σ dst av) (a.put dst v).tmps.toList:=by
 cases dst with
 |none=>exact h
 |some d=>simp only [xQ,Act.put,Array.toList_setIfInBounds];exact h.set r d
theorem put_defers(a:Act)(dst:Option Nat)(v:Value):(a.put dst v).defers=a.defers:=by cases dst<;>rfl
theorem FB.hB{c:Cx}{w0:World}{T:Nat->Prop}{e:UP}{s:St}{a:Act}{w:World}(h:FB c w0 T e s a w):w0.heap.size<=w.heap.size:=h.below.size
def fr(ro:Option Nat):Fence:={Fence.wide with round:=ro}
section
variable {ro:Option Nat}{n:Nat}{P:Program}
theorem MV{f:FuncId}{args:Array Value}{w:World}{R:Ending->World->Prop}(h:Calls P f args w R):CallsIn (fr ro) n P f args w R:=callsIn_wide (n:=n).2 h
theorem Qq8{row:String}{args:Array Value}{w:World}{R:Value->World->Prop}(h:Rows P row args w R):RowsIn (fr ro) n P row args w R:=λc cs _=>by
 obtain ⟨v,w',h1,h2⟩:=h c cs;exact ⟨v,w',h1,stepsIn_wide.2 h2⟩
theorem HV{o:Oper}{a:Act}{w:World}{K:Act->World->Prop}{Q:Exit->Act->World->Prop}(hd: ∀c,o.op≠ .defer c)(h:o.wp P a w K Q):o.wpIn (fr ro) n P a w K Q:=by
 refine ⟨λf _=>trivial,?_⟩;rw [Oper.semAt_eq _ _ _ hd];unfold Oper.wp at h;generalize (execOp a.eval o).run P w=r at h ⊢;have Xr7:(fr ro).depth.isSome=true->1<=n:=λh=>by cases h
 unfold Oper.upon at h;split at h;exact h;exact h;exact h;exact ⟨Xr7,MV h⟩;exact ⟨Xr7,Qq8 h⟩;exact h;exact h.elim
end
def nT(P:Program)(id:Nat)(m:HA)(ρ:Operand->AV)(op:Op):Option (List Prop×AV×HA):=
 match op with
 | .store t x y=>match j9 P m t (ρ x) (ρ y) with
  |some (ns,m')=>some (ns,.top,m')
  |none=>none
 | .mapUpdate t x k y=>match ρ x,CO (ρ k),CO (ρ y),Wb0 P t with
  | .mp id,some kv,some yv,some z=>match DN m id with
   |some (.memo h f)=>match Zu2 (ρ y) with
    |true=>some ([∀u,h u->f u=yv,FK P t (λu=>h u\/u=kv) kv z],.top,(id,.memo (λu=>h u\/u=kv) (λ_=>yv))::kB m id)
    |false=>some ([FK P t h kv z,h kv,yv=f kv],.top,(id,.memo h f)::kB m id)
   |_=>none
  |_,_,_,_=>none
 | .call c=>match c.callee,c.args.toList,c.argTypes.toList with
  | .builtin .append,[s,x],[t,t']=>match Nat.beq t t' with
   |true=>RD P id m t (ρ s) (ρ x)
   |false=>yU P id m t t' (ρ s) (ρ x)
  |_,_,_=>none
 |_=>none
def nP(P:Program)(m:HA)(ρ:Operand->AV)(op:Op):Option (List Prop×Prop×AV×AV):=
 match op with
 | .binOp .eql t x (.const (.slice none 0 0)) _=>match ρ x,P.underlying t with
  | .lst _ n _,some (.slice _)=>some ([],n=0,.lit true,.lit false)
  |_,_=>none
 | .binOp .neq t x (.const (.slice none 0 0)) _=>match ρ x,P.underlying t with
  | .lst _ n _,some (.slice _)=>some ([],n=0,.lit false,.lit true)
  |_,_=>none
 | .lookup t x k ok=>match ρ x,CO (ρ k),Wb0 P t with
  | .mp id,some kv,some z=>match DN m id with
   |some (.memo h f)=>some ([FK P t h kv z],h kv,sU ok (f kv) true,sU ok z false)
   |_=>none
  |_,_,_=>none
 |_=>none
abbrev DP:=List AV->Option (VR AV)
abbrev BZ:=List AV->Option (List Prop×TypeId×Nat×Nat×(Ci))
abbrev D9:=List AV->HA->Nat->List (List AV)->Option (VR (AV×HA×Nat×List (List AV)))
def Zd3(o:Option Nat)(s:St)(p:AV×HA×Nat×List (List AV)):VR St:=match p.2.2.2 with
 |σ::t=> .leaf {s with σ:=xQ σ o p.1,m:=p.2.1,nx:=p.2.2.1,sv:=t}
 |[]=> .fail
structure Ext where
 Y:Option (Nat×Nat×(Nat->List Value)):=none
 R:List (Nat×Spec):=[]
 H:List (Nat×D9):=[]
 C:List (Nat×DP):=[]
 F:List (Nat×BZ):=[]
 D:List (Nat×DP):=[]
def Wx8:List (Nat×D9)->Nat->Option D9
 |[],_=>none
 |(k,s)::t,f=>match Nat.beq k f with
  |true=>some s
  |false=>Wx8 t f
theorem Wx7{G:List (Nat×D9)}{f:Nat}{s:D9}(h:Wx8 G f=some s):(f,s)∈G:=by
 induction G with
 |nil=>simp [Wx8] at h
 |cons p t ih=>
  obtain ⟨k,r'⟩:=p;unfold Wx8 at h;split at h;rename_i hk;have:k=f:=Nat.eq_of_beq_eq_true hk;subst this;cases h;exact List.mem_cons_self;exact List.mem_cons_of_mem _ (ih h)
def bU:List (Nat×DP)->Nat->Option DP
 |[],_=>none
 |(k,s)::t,f=>match Nat.beq k f with
  |true=>some s
  |false=>bU t f
def Wy0:List (Nat×BZ)->Nat->Option BZ
 |[],_=>none
 |(k,s)::t,f=>match Nat.beq k f with
  |true=>some s
  |false=>Wy0 t f
theorem Wx9{G:List (Nat×BZ)}{f:Nat}{s:BZ}(h:Wy0 G f=some s):(f,s)∈G:=by
 induction G with
 |nil=>simp [Wy0] at h
 |cons p t ih=>
  obtain ⟨k,s'⟩:=p;unfold Wy0 at h;split at h;rename_i hk;have:k=f:=Nat.eq_of_beq_eq_true hk;subst this;cases h;exact List.mem_cons_self;exact List.mem_cons_of_mem _ (ih h)
theorem MB{G:List (Nat×DP)}{f:Nat}{s:DP}(h:bU G f=some s):(f,s)∈G:=by
 induction G with
 |nil=>simp [bU] at h
 |cons p t ih=>
  obtain ⟨k,r'⟩:=p;unfold bU at h;split at h;rename_i hk;have:k=f:=Nat.eq_of_beq_eq_true hk;subst this;cases h;exact List.mem_cons_self;exact List.mem_cons_of_mem _ (ih h)
def AW:Nat->AV->Bool
 | 0,a=>a.idf
 |d+1,a=>match a with
  | .agg l=>l.all (AW d)
  | .tup l=>l.all (AW d)
  | .fn _ l l'=>l.all (AW d)&&l'.all (AW d)
  |a=>a.idf
theorem kW{e:UP}{w:World}: ∀(d:Nat) (a:AV) (v:Value),Rep e w a v->AW d a=true->Idf a
 | 0,_,_,r,h=>jF r h
 |d+1,a,v,r,h=>by
  have ih:=kW (e:=e) (w:=w) d;have all: ∀{l:List AV} {vs:List Value},U8 e w l vs->l.all (AW d)=true-> ∀a∈l,Idf a:=by
   intro l vs Z hl a ha;obtain ⟨i,O⟩:=List.mem_iff_getElem?.1 ha;obtain ⟨v,hv,r⟩:=Z.get O;exact ih a v r (List.all_eq_true.1 hl a ha)
  cases r with
  |agg l vs h1 h2=>exact .agg l (all ⟨h1,h2⟩ h)
  |tup l vs h1 h2=>exact .tup l (all ⟨h1,h2⟩ h)
  |fn f l l' vs vs' h1 h2 h3 h4=>
   simp only [AW,Bool.and_eq_true] at h;exact .fn f l l' (all ⟨h1,h2⟩ h.1) (all ⟨h3,h4⟩ h.2)
  |top v=>exact .top
  |lit b=>exact .lit b
  |x v=>exact .x v
  |ro l vs b o h1 h2 h3 h4 h5 h6=>exact .ro l h3
  |lstNil sz f=>exact .lst sz 0 f (λi O=>by omega)
  |lst sz n f b o cap g h1 h2 h3 h4 h5 h6 h7 h8 ad had=>exact .lst sz n f h3
  |roI pre n f off b o Z=>exact jF (Rep.roI pre n f off b o Z) rfl
  |mpr g okf vals b es c h1 h2 h3 h4 h5 h6 h7 h8=>exact .mpr g okf h3
  |any1 v hv=>exact .any1
  |_=>simp [AW,AV.idf] at h
def CN:List AV->Option (List Value)
 |[]=>some []
 |a::t=>match CO a,CN t with
  |some v,some vs=>some (v::vs)
  |_,_=>none
theorem CM{e:UP}{w:World}: ∀{l:List AV} {vs us:List Value},CN l=some vs->U8 e w l us->us=vs
 |[],vs,us,h,r=>by
  simp only [CN,Option.some.injEq] at h;rw [r.nil_inv,←h]
 |a::l,vs,us,h,r=>by
  obtain ⟨u,us',rfl,hu,r'⟩:=r.cons_inv;unfold CN at h;split at h;rename_i v vs' h1 h2;cases h;rw [xM h1 hu,CM h2 r'];cases h
def opX(X:Ext)(o:Oper)(s:St):Option (VR St):=
 match o.op with
 | .call c=>match c.callee with
  | .value f=>match rho s.σ f with
   | .fn (.yield l) [] []=>match X.Y,s.gh,s.sv,CN (c.args.toList.map (rho s.σ)) with
    |some (l',N,vals),some k,[],some vs=>some (.need [l=l',k<N,vs=vals k]
      (.may True (.leaf {σ:=xQ (s.σ.map (DJ s.m 40)) o.dst (.lit true),m:=[],nx:=0,gh:=some (k+1),sv:=[] })
       (.leaf {σ:=xQ (s.σ.map (DJ s.m 40)) o.dst (.lit false),m:=[],nx:=0,gh:=none,sv:=[] })))
    |_,_,_,_=>none
   | .fn (.func g) first caps=>match tW X.R g with
    |some sp=>match (first++c.args.toList.map (rho s.σ)++caps).all (AW 6) with
     |true=>match sp (first++c.args.toList.map (rho s.σ)++caps) with
      |some (ns,r)=>some (.needT ns (.leaf {s with σ:=xQ s.σ o.dst r,nx:=s.nx+1}))
      |none=>none
     |false=>none
    |none=>match Wx8 X.H g with
     |some h=>match h (first++c.args.toList.map (rho s.σ)++caps) s.m s.nx (s.σ::s.sv) with
      |some t=>some (t.bind (Zd3 o.dst s))
      |none=>none
     |none=>match bU X.C g with
      |some sp=>match (first++c.args.toList.map (rho s.σ)++caps).all (AW 6) with
       |true=>match sp (first++c.args.toList.map (rho s.σ)++caps) with
        |some t=>some (t.bind λr=> .leaf {s with σ:=xQ s.σ o.dst r,nx:=s.nx+1})
        |none=>none
       |false=>none
      |none=>none
   |_=>none
  |_=>none
 |_=>none
section
variable (P:Program)(f:FuncId)(avs:List AV)
def FJ(res:AV):Prop:=
 ∀(e:UP) (w:World) (args:List Value),(∀b,e.ro b->b<w.heap.size)->D2 e w->(∀a∈avs,Idf a)->U8 e w avs args->
  Calls P f args.toArray w λen w'=> ∃v,en= .returned v/\Below w.heap.size w w'/\Rep {PS w w' with ro:=(e.more w w').ro} w' res v
def US(t:VR AV):Prop:=
 ∀Q:AV->Prop,t.sat Q-> ∀(e:UP) (w:World) (args:List Value),(∀b,e.ro b->b<w.heap.size)->D2 e w->(∀a∈avs,Idf a)->U8 e w avs args->
  Calls P f args.toArray w λen w'=> ∃v r,en= .returned v/\Q r/\Below w.heap.size w w'/\Rep {PS w w' with ro:=(e.more w w').ro} w' r v
def B0(t:VR AV):Prop:=
 ∀Q:AV->Prop,t.sat Q-> ∀(e:UP) (w:World) (args:List Value),(∀b,e.ro b->b<w.heap.size)->D2 e w->(∀a∈avs,Idf a)->U8 e w avs args->
  Calls P f args.toArray w λen w'=> ∃v r,en= .returned v/\Q r/\Below w.heap.size w w'/\Rep (PS w w') w' r v
def DV(T:TypeId)(sz n:Nat)(g:Ci):Prop:=
 ∀(e:UP) (w:World) (args:List Value),(∀b,e.ro b->b<w.heap.size)->D2 e w->(∀a∈avs,Idf a)->U8 e w avs args->
  Calls P f args.toArray w λen w'=> ∃v xs,en= .returned v/\Below w.heap.size w w'/\w'.ownsRow 0 T sz v n xs/\(∀b,v.ownBlock=some b->w.heap.size<=b/\b<w'.heap.size)/\
   (∀i,i<n->(g i).length=sz/\ ∀a∈g i,∃u,a= .x u)/\ ∀(i j:Nat) (a:AV) (u:Value),i<n->(g i)[j]? =some a->xs[i*sz+j]? =some u->a= .x u
end
theorem MU{e:UP}{B:Nat}{w w':World}{m:HA}{id:Nat}{T:TypeId}{sz n:Nat}{g:Ci}{v:Value}{xs:List Value}(hE:GB e B w)(hB:B<=w.heap.size)(hm:G5 e m w)(hid: ¬e.live id)
  (hb:Below w.heap.size w w')(ho:w'.ownsRow 0 T sz v n xs)(hn: ∀b,v.ownBlock=some b->w.heap.size<=b/\b<w'.heap.size)(hg: ∀i,i<n->(g i).length=sz/\ ∀a∈g i,∃u,a= .x u)
  (Z: ∀(i j:Nat) (a:AV) (u:Value),i<n->(g i)[j]? =some a->xs[i*sz+j]? =some u->a= .x u):
  LY e B w m id (.row id) (some (.row T sz n g)) v w':=by
 let e':UP:={ro:=λb=>e.ro b\/(w.heap.size<=b/\b<w'.heap.size/\v.ownBlock≠some b),own:=λb=>if v.ownBlock=some b then some id else e.own b,live:=λk=>k=id\/e.live k,blk:=e.blk,val:=λk=>if k=id then v else e.val k}
 have Wu9: ∀b,b<w.heap.size->v.ownBlock≠some b:=λb hb hv=>by have:=(hn b hv).1;omega
 have st:Step e e' w w':=by
  refine ⟨λb hlt Z=>⟨.inl Z,hb.block b hlt⟩,λk hk=>⟨.inr hk,rfl,?_⟩,hb.size⟩;have:k≠id:=λh=>hid (h▸hk);simp [e',this]
 have HD: ∀b k,e.own b=some k->e'.own b=some k:=by
  intro b k hk;have:=(hE.owned b k hk).2;show (if v.ownBlock=some b then some id else e.own b)=some k
  rw [if_neg (Wu9 b this)];exact hk
 have hE':GB e' B w':=by
  refine ⟨?_,λb k hk=>?_,hE.glob.step st⟩;rintro b (h|⟨h1,h2,h3⟩);have h4:=hE.apart b h;have:=hb.size;refine ⟨?_,by omega⟩
  show (if v.ownBlock=some b then some id else e.own b)=none
  rw [if_neg (Wu9 b h4.2)];exact h4.1;refine ⟨?_,h2⟩;show (if v.ownBlock=some b then some id else e.own b)=none
  rw [if_neg h3];cases ho:e.own b with
  |none=>rfl
  |some k=>have:=(hE.owned b k ho).2;omega
  have hk:(if v.ownBlock=some b then some id else e.own b)=some k:=hk
  split at hk;rename_i hv;have:=hn b hv;omega;have:=hE.owned b k hk;have:=hb.size;omega
 refine ⟨e',hb,st,hE',HD,?_,?_,λk hk=>hk.symm,λb h=>h.imp (λh=>h) (λh=>h.1)⟩;rcases ho.2 with ⟨rfl,rfl⟩|⟨gb,cap,cur,rfl,_⟩;exact .row id _ _ _ (.inl rfl) (by simp [e'])
 exact .row id _ _ _ (.inl rfl) (by simp [e'])
 intro p hp;rcases List.mem_cons.1 hp with rfl|hp;refine ⟨.inl rfl,λb hv=>?_,λi O=>⟨(hg i O).1,λa ha=>?_⟩,xs,?_,λi j a u O ha hu=>?_⟩;have hv:v.ownBlock=some b:=by simpa [e'] using hv
 show (if v.ownBlock=some b then some id else e.own b)=some id
 rw [if_pos hv];obtain ⟨u,rfl⟩:=(hg i O).2 a ha;exact .x u;show w'.ownsRow 0 T sz (if id=id then v else e.val id) n xs
 rw [if_pos rfl];exact ho;rw [Z i j a u O ha hu];exact .x u;exact (hm p hp).ext hb st HD
def GH(P:Program)(f:FuncId)(h:D9):Prop:=Enters P f/\ ∀avs m nx sv t,h avs m nx sv=some t-> ∀Q,t.sat Q-> ∀(c:Cx) (w0:World) (T:Nat->Prop) (e:UP) (ds:List Deferred) (args:List Value) (w:World),
 GB e w0.heap.size w->Below w0.heap.size w0 w->G5 e m w->(∀k,e.live k->k<nx)->(∀b,T b->b<w0.heap.size/\ ¬e.ro b)->Xt c e sv ds w->U8 e w avs args->
  Calls P f args.toArray w λen w'=> ∃v r m' nx' sv' e',en= .returned v/\Q (r,m',nx',sv')/\GB e' w0.heap.size w'/\Below w0.heap.size w0 w'/\G5 e' m' w'/\(∀k,e'.live k->k<nx')/\
   (∀b,T b->b<w0.heap.size/\ ¬e'.ro b)/\Xt c e' sv' ds w'/\Rep e' w' r v
def Zz1(P:Program)(c:Cx)(l N:Nat)(vals:Nat->List Value):Prop:=
 (∀k T w w',c.Φ (some k) T w->Below w.heap.size w w'->c.Φ (some k) T w')/\
 ∀k T w n,c.Φ (some k) T w->k<N->YieldAt (fr none) n P l (vals k).toArray w λen w'=>w.heap.size<=w'.heap.size/\(∀b,b<w.heap.size-> ¬T b->w'.heap[b]? =w.heap[b]?)/\
  ∃T',(∀b,T' b->b<w'.heap.size/\(T b\/w.heap.size<=b))/\((en= .returned (.bool true)/\c.Φ (some (k+1)) T' w')\/(en= .returned (.bool false)/\c.Φ none T' w'))
structure U0 (P:Program) (X:Ext) (c:Cx):Prop where
 y: ∀l N vals,X.Y=some (l,N,vals)->Zz1 P c l N vals
 r: ∀p∈X.R,Enters P p.1/\ ∀avs ns res,p.2 avs=some (ns,res)->(∀p∈ns,p)->FJ P p.1 avs res
 h: ∀p∈X.H,GH P p.1 p.2
 c: ∀p∈X.C,Enters P p.1/\ ∀avs t,p.2 avs=some t->US P p.1 avs t
 f: ∀p∈X.F,Enters P p.1/\ ∀avs ns T sz n g,p.2 avs=some (ns,T,sz,n,g)->(∀q∈ns,q)->DV P p.1 avs T sz n g
 d: ∀p∈X.D,Enters P p.1/\ ∀avs t,p.2 avs=some t->B0 P p.1 avs t
theorem U0.nil(P:Program)(c:Cx):U0 P {} c:=⟨(λ_ _ _ h=>by cases h),(λ_ h=>by cases h),(λ_ h=>by cases h),(λ_ h=>by cases h),(λ_ h=>by cases h),(λ_ h=>by cases h)⟩
def Wh7(P:Program)(G:List (Nat×Spec))(X:Ext)(o:Oper)(s:St):VR St:=
 match aop P G s.nx s.m (rho s.σ) o.op with
 |some (ns,val,add)=> .needT ns (.leaf {s with σ:=xQ s.σ o.dst val,m:=Jv6 s.m s.nx add,nx:=s.nx+1})
 |none=>match nT P s.nx s.m (rho s.σ) o.op with
  |some (ns,val,m')=> .needT ns (.leaf {s with σ:=xQ s.σ o.dst val,m:=m',nx:=s.nx+1})
  |none=>match nP P s.m (rho s.σ) o.op with
   |some (ns,p,v1,v2)=> .needT ns (.may p (.leaf {s with σ:=xQ s.σ o.dst v1,nx:=s.nx+1}) (.leaf {s with σ:=xQ s.σ o.dst v2,nx:=s.nx+1}))
   |none=>match opX X o s with
    |some t=>t
    |none=> .fail
section
variable {P:Program}
theorem Qb9{e:UP}{B:Nat}{w:World}{m m':HA}{id:Nat}{ρ:Operand->AV}{o:Oper}{a:Act}{ns:List Prop}{val:AV}
  (h:nT P id m ρ o.op=some (ns,val,m'))(hn: ∀p∈ns,p)(hE:GB e B w)(hB:B<=w.heap.size)(hm:G5 e m w)(hid: ¬e.live id)(Z: ∀x,Rep e w (ρ x) (a.eval x))
  {K:Act->World->Prop}{Q:Exit->Act->World->Prop}(hK: ∀v w',NA e B w id val m' v w'->K (a.put o.dst v) w'):o.wp P a w K Q:=by
 obtain ⟨dst,op,type,pos,after,guard⟩:=o;cases op<;>try (simp [nT] at h;done)
 case store t x y=>
  simp only [nT] at h;split at h;rename_i ns' m'' hs;cases h;obtain ⟨w',h1,h2⟩:=NY (P:=P) hs hn hE hm (Z x) (Z y);unfold Oper.wp;have DW:(execOp a.eval ⟨dst,.store t x y,type,pos,after,guard⟩).run P w= .ok .skip w':=by simp [execOp,h1]
  rw [DW];exact hK undef w' (h2 id undef);cases h
 case mapUpdate t x k y=>
  simp only [nT] at h;split at h;rename_i i kv yv z hx hkv hyv hz;split at h;rename_i g f hg;have rx:=Z x;rw [hx] at rx;have ek:=xM hkv (Z k);have ey:=xM hyv (Z y);split at h;cases h;cases hxv:a.eval x with
  |map b=>
   rw [hxv] at rx;cases rx with
   |mp _ hl=>
    obtain ⟨w',h1,h2⟩:=Wf5 hg (hn (∀u,g u->f u=yv) (by simp)) (hn (FK P t (λu=>g u\/u=kv) kv z) (by simp)) hE hm
    unfold Oper.wp;have DW:(execOp a.eval ⟨dst,.mapUpdate t x k y,type,pos,after,guard⟩).run P w= .ok .skip w':=by simp [execOp,hxv,ek,ey,h1]
    rw [DW];exact hK undef w' (h2 id undef)
  |_=>rw [hxv] at rx;cases rx
  cases h;cases hxv:a.eval x with
  |map b=>
   rw [hxv] at rx;cases rx with
   |mp _ hl=>
    obtain ⟨w',h1,h2⟩:=OP hg (hn (FK P t g kv z) (by simp)) (hn (g kv) (by simp)) (hn (yv=f kv) (by simp)) hE hm
    unfold Oper.wp;have DW:(execOp a.eval ⟨dst,.mapUpdate t x k y,type,pos,after,guard⟩).run P w= .ok .skip w':=by simp [execOp,hxv,ek,ey,h1]
    rw [DW];exact hK undef w' (h2 id undef)
  |_=>rw [hxv] at rx;cases rx
  cases h;cases h
 case call c=>
  obtain ⟨callee,args,argTypes⟩:=c;simp only [nT] at h;split at h;rename_i s x t t' hca hta;split at h;rename_i ht;have ht':t=t':=Nat.eq_of_beq_eq_true ht;subst ht';obtain ⟨u,w',h1,h2⟩:=IH (P:=P) (ty:=type) h hn hE hB hm hid (Z s) (Z x);have ha:args=#[s,x]:=Array.ext' (by simpa using hca)
  have hat:argTypes=#[t,t]:=Array.ext' (by simpa using hta)
  subst ha;subst hat;refine DA (v:=u) (w':=w') ?_ (hK u w' h2);simp [execOp,resolve,invoke,builtin,h1];obtain ⟨u,w',h1,h2⟩:=AO (P:=P) (ty:=type) h hn hE hB hm hid (Z s) (Z x);have ha:args=#[s,x]:=Array.ext' (by simpa using hca)
  have hat:argTypes=#[t,t']:=Array.ext' (by simpa using hta)
  subst ha;subst hat;refine DA (v:=u) (w':=w') ?_ (hK u w' h2);simp [execOp,resolve,invoke,builtin,h1];cases h
theorem S0{t el:TypeId}(hu:P.underlying t=some (.slice el))(op:BinOp)(ox:Operand)(w:World)(v:Value)(b:Bool)(hv:(v= .slice none 0 0/\b=true)\/(∃ad n c,v= .slice (some ad) n c/\b=false)):
  (op= .eql->(do eqGuard op t ox (.const (.slice none 0 0)) v (.slice none 0 0);binOp op t v (.slice none 0 0):Sem Value).run P w= .ok (.bool b) w)/\
  (op= .neq->(do eqGuard op t ox (.const (.slice none 0 0)) v (.slice none 0 0);binOp op t v (.slice none 0 0):Sem Value).run P w= .ok (.bool !b) w):=by
 have hg:op= .eql\/op= .neq->(eqGuard op t ox (.const (.slice none 0 0)) v (.slice none 0 0)).run P w= .ok () w:=by
  rintro (rfl|rfl)<;>rcases hv with ⟨rfl,_⟩|⟨ad,n,c,rfl,_⟩<;>simp [eqGuard]
 have he:(Op.equal t v (.slice none 0 0)).run P w= .ok b w:=by
  unfold Op.equal;rw [show Op.maxDepth=(Op.maxDepth-1)+1 by decide]
  rcases hv with ⟨rfl,rfl⟩|⟨ad,n,c,rfl,rfl⟩<;>simp [Op.equalIn,run_underlying hu]
 constructor;rintro rfl;rw [At,hg (.inl rfl)];rcases hv with ⟨rfl,rfl⟩|⟨ad,n,c,rfl,rfl⟩<;>simp [binOp,he];rintro rfl;rw [At,hg (.inr rfl)];rcases hv with ⟨rfl,rfl⟩|⟨ad,n,c,rfl,rfl⟩<;>simp [binOp,he]
theorem N5{e:UP}{w:World}{m:HA}{ρ:Operand->AV}{o:Oper}{a:Act}{ns:List Prop}{p:Prop}{v1 v2:AV}(h:nP P m ρ o.op=some (ns,p,v1,v2))(hn: ∀p∈ns,p)(hm:G5 e m w)(Z: ∀x,Rep e w (ρ x) (a.eval x))
  {K:Act->World->Prop}{Q:Exit->Act->World->Prop}(hK: ∀v,(p/\Rep e w v1 v)\/Rep e w v2 v->K (a.put o.dst v) w):o.wp P a w K Q:=by
 obtain ⟨dst,op,type,pos,after,guard⟩:=o;simp only at h;unfold nP at h;split at h;rename_i t x t';split at h;rename_i sz n f el hx hu;cases h;have rx:=Z x;rw [hx] at rx;have hc: ∃b,((a.eval x= .slice none 0 0/\b=true)\/(∃ad n c,a.eval x= .slice (some ad) n c/\b=false))/\((n=0/\Rep e w (.lit true) (.bool b))\/Rep e w (.lit false) (.bool b)):=by
  generalize a.eval x=v at rx;cases rx with
  |lstNil=>exact ⟨true,.inl ⟨rfl,rfl⟩,.inl ⟨rfl,.lit true⟩⟩
  |lst _ _ _ b o cap g=>exact ⟨false,.inr ⟨_,_,_,rfl,rfl⟩,.inr (.lit false)⟩
 obtain ⟨b,h1,h2⟩:=hc;refine DA (v:= .bool b) (w':=w) ?_ (hK _ h2);have:=(S0 hu .eql x w _ b h1).1 rfl;have hs:execOp a.eval ⟨dst,.binOp .eql t x (.const (.slice none 0 0)) t',type,pos,after,guard⟩=(do pure (.value (←(do eqGuard .eql t x (.const (.slice none 0 0)) (a.eval x) (.slice none 0 0);binOp .eql t (a.eval x) (.slice none 0 0):Sem Value)))):=rfl;rw [hs,At,this];simp;cases h;rename_i t x t';split at h;rename_i sz n f el hx hu;cases h;have rx:=Z x;rw [hx] at rx;have hc: ∃b,((a.eval x= .slice none 0 0/\b=true)\/(∃ad n c,a.eval x= .slice (some ad) n c/\b=false))/\((n=0/\Rep e w (.lit false) (.bool !b))\/Rep e w (.lit true) (.bool !b)):=by
  generalize a.eval x=v at rx;cases rx with
  |lstNil=>exact ⟨true,.inl ⟨rfl,rfl⟩,.inl ⟨rfl,.lit false⟩⟩
  |lst _ _ _ b o cap g=>exact ⟨false,.inr ⟨_,_,_,rfl,rfl⟩,.inr (.lit true)⟩
 obtain ⟨b,h1,h2⟩:=hc;refine DA (v:= .bool !b) (w':=w) ?_ (hK _ h2);have:=(S0 hu .neq x w _ b h1).2 rfl;have hs:execOp a.eval ⟨dst,.binOp .neq t x (.const (.slice none 0 0)) t',type,pos,after,guard⟩=(do pure (.value (←(do eqGuard .neq t x (.const (.slice none 0 0)) (a.eval x) (.slice none 0 0);binOp .neq t (a.eval x) (.slice none 0 0):Sem Value)))):=rfl;rw [hs,At,this];simp;cases h;rename_i t x k ok;split at h;rename_i i kv z hx hkv hz;split at h;rename_i g f hg;cases h;have rx:=Z x;rw [hx] at rx;have ek:=xM hkv (Z k);cases hxv:a.eval x with
 |map b=>
  rw [hxv] at rx;cases rx with
  |mp _ hl=>
   obtain ⟨_,_,es,c,h3,h4⟩:=hm _ (GA hg);obtain ⟨v,h5,h6⟩:=Wh6 (hn (FK P t g kv z) (by simp)) h3 h4 ok
   refine DA (v:=v) (w':=w) ?_ (hK v ?_);simp [execOp,hxv,ek,h5];rcases h6 with ⟨h6,rfl⟩|rfl;exact .inl ⟨h6,IR e w ok _ true⟩;exact .inr (IR e w ok _ false)
 |_=>rw [hxv] at rx;cases rx
 cases h;cases h;cases h
theorem d8{G:List (Nat×Spec)}{id:Nat}{m:HA}{ρ:Operand->AV}{op:Op}{x:Out}(h:aop P G id m ρ op=some x): ∀c,op≠ .defer c:=by
 rintro c rfl;simp [aop] at h
theorem O9{id:Nat}{m:HA}{ρ:Operand->AV}{op:Op}{x:List Prop×AV×HA}(h:nT P id m ρ op=some x): ∀c,op≠ .defer c:=by
 rintro c rfl;simp [nT] at h
theorem O8{m:HA}{ρ:Operand->AV}{op:Op}{x:List Prop×Prop×AV×AV}(h:nP P m ρ op=some x): ∀c,op≠ .defer c:=by
 rintro c rfl;simp [nP] at h
theorem FB.next{c:Cx}{w0:World}{T:Nat->Prop}{e e':UP}{s:St}{a:Act}{w w':World}(r:FB c w0 T e s a w)(hb:Below w0.heap.size w w')(st:Step e e' w w')(hE:GB e' w0.heap.size w')
  (hro: ∀b,e'.ro b->e.ro b\/w.heap.size<=b){m':HA}(hm:G5 e' m' w'){nx':Nat}(hl: ∀k,e'.live k->k<nx')(dst:Option Nat){av:AV}{v:Value}(hv:Rep e' w' av v):
  FB c w0 T e' {s with σ:=xQ s.σ dst av,m:=m',nx:=nx'} (a.put dst v) w':=by
 refine ⟨hE,r.below.trans hb,hm,hl,λb hT=>⟨(r.foe b hT).1,λh=>?_⟩,by rw [put_defers];exact r.xt.step st,qL (r.slots.step st) dst hv⟩
 rcases hro b h with h|h;exact (r.foe b hT).2 h;have:=(r.foe b hT).1;have:=r.hB;omega
theorem iN{G:List (Nat×Spec)}{X:Ext}{c:Cx}(hG:VP P G)(hX:U0 P X c){o:Oper}{s:St}{R:St->Prop}(h:(Wh7 P G X o s).sat R){w0:World}{T:Nat->Prop}{e:UP}{a:Act}{w:World}(hΦ:c.Φ s.gh T w0)(r:FB c w0 T e s a w)
  {ro:Option Nat}{n:Nat}{K:Act->World->Prop}{Q:Exit->Act->World->Prop}(hK: ∀s' a' w',R s'->Rel c s' a' w'->K a' w'):o.wpIn (fr ro) n P a w K Q:=by
 have hid: ¬e.live s.nx:=λhl=>by have:=r.live _ hl;omega
 have lv: ∀{e':UP},(∀k,e'.live k->e.live k\/k=s.nx)-> ∀k,e'.live k->k<s.nx+1:=by
  intro e' hlv k hk;rcases hlv k hk with hk|rfl;exact Nat.lt_succ_of_lt (r.live k hk);exact Bk _
 unfold Wh7 at h;split at h
 ·rename_i ns val add ha
  replace h:=VR.sat_needT h
  refine HV (d8 ha) (TJ hG ha (GI h.1) r.env r.hB r.mem hid (FR r.slots) (λv w' hc=>?_));obtain ⟨e',hb,st,hE',ho,GS,hm',hlv,hro⟩:=hc;exact hK _ _ _ h.2 ⟨w0,T,e',hΦ,r.next (hb.mono r.hB) st hE' hro hm' (lv hlv) o.dst GS⟩
 split at h
 ·rename_i ns val m' ha
  replace h:=VR.sat_needT h
  refine HV (O9 ha) (Qb9 ha (GI h.1) r.env r.hB r.mem hid (FR r.slots) (λv w' hc=>?_));obtain ⟨e',hb,st,hE',GS,hm',hlv,hro⟩:=hc;exact hK _ _ _ h.2 ⟨w0,T,e',hΦ,r.next hb st hE' (λb h=> .inl (hro b h)) hm' (lv hlv) o.dst GS⟩
 split at h
 ·rename_i ns p v1 v2 ha
  replace h:=VR.sat_needT h
  obtain ⟨hn,h⟩:=h;refine HV (O8 ha) (N5 ha (GI hn) r.mem (FR r.slots) (λv hv=>?_));have keep: ∀{av:AV},Rep e w av v->Rel c {s with σ:=xQ s.σ o.dst av,nx:=s.nx+1} (a.put o.dst v) w:=
   λGS=>⟨w0,T,e,hΦ,r.next (Below.refl _ _) (Step.refl e w) r.env (λ_ h=> .inl h) r.mem (λk hk=>Nat.lt_succ_of_lt (r.live k hk)) o.dst GS⟩
  rcases hv with ⟨hp,hv⟩|hv;exact hK _ _ _ (h.1 hp) (keep hv);exact hK _ _ _ h.2 (keep hv)
 split at h;rename_i t ht;obtain ⟨dst,op,type,pos,after,guard⟩:=o;unfold opX at ht;split at ht;rename_i cl hop;simp only at hop;subst hop;obtain ⟨callee,args,argTypes⟩:=cl;have ha:=U8.ops (FR r.slots) args.toList;split at ht;rename_i f dN;simp only at dN;subst dN;have hf:=FR r.slots f;split at ht
 rename_i l hfe;rw [hfe] at hf;obtain ⟨us,us',hv,r1,r2⟩:=hf.fn_inv;cases r1.nil_inv;cases r2.nil_inv;split at ht;rename_i l' N vals k vs hY hgh hsv hvs;cases ht;obtain ⟨hn,h⟩:=h;obtain ⟨rfl,hkN,hvk⟩:l=l'/\k<N/\vs=vals k:=hn;have SV:=CM hvs ha;rw [hgh] at hΦ;obtain ⟨hst,hy⟩:=hX.y l N vals hY;have hΦ':=hst k T w0 w hΦ (r.below);obtain ⟨fn,tmps,assign,body,hyr,jI⟩:=hy k T w (n-1) hΦ' hkN;refine ⟨λf _=>trivial,?_⟩;have hsem:Oper.semAt (fr ro).round a.eval ⟨dst,.call ⟨.value f,args,argTypes⟩,type,pos,after,guard⟩=execOp a.eval ⟨dst,.call ⟨.value f,args,argTypes⟩,type,pos,after,guard⟩:=Oper.semAt_eq _ _ _ (λc h=>by cases h)
 have e1:(args.toList.map a.eval).toArray=args.map a.eval:=Array.ext' (by simp)
 have DW:(execOp a.eval ⟨dst,.call ⟨.value f,args,argTypes⟩,type,pos,after,guard⟩).run P w= .ok (.round l fn tmps assign body) w:=by
  simp only [execOp,resolve,hv,Deferred.ofValue,At,Bv,Au,invoke];rw [←hvk,←SV,e1] at hyr;simpa using hyr
 rw [hsem,DW];refine ⟨(λh=>by cases h),?_⟩
 have hround':RoundIn (fr ro) (n-1) P l fn tmps assign body w _:=jI;refine hround'.mono λen w' hq=>?_;obtain ⟨hsz,zE,T',hT',F8⟩:=hq
 let e2:UP:={ro:=e.view.ro,own:=λ_=>none,live:=λ_=>False,blk:=λ_=>0,val:=λ_=> .nilIface}
 have hlt: ∀b,e2.ro b->b<w.heap.size:=by
  rintro b (h|⟨id,h⟩);exact (r.env.apart b h).2;exact (r.env.owned b id h).2
 have hnT: ∀b,e2.ro b-> ¬T b:=by
  rintro b (h|⟨id,h⟩) hT;exact (r.foe b hT).2 h;have:=(r.env.owned b id h).1;have:=(r.foe b hT).1;omega
 have st2:Step e2 e2 w w':=⟨λb hb Z=>⟨Z,zE b hb (hnT b Z)⟩,λ_ h=>h.elim,hsz⟩;have dG:U8 e2 w' (s.σ.map (DJ s.m 40)) a.tmps.toList:=
  (U8.map (DJ s.m 40) (λx v hx=>Rep.idf (e:=e.view) (e':=e2) (λ_ h=>h) (LL r.env r.mem 40 x v hx) (RS r.mem 40 x v hx)) r.slots).step st2
 have hxt0:Xt c e2 [] a.defers w:=⟨⟨λd hd=>by obtain ⟨D,h1,h2,h3,h4,h5⟩:=r.xt.defers.1 d hd;exact ⟨D,h1,.inl h2,h3,h4,h5⟩,r.xt.defers.2⟩,λb o hb=>by obtain ⟨h1,h2,h3⟩:=r.xt.kept b o hb;exact ⟨.inl h1,h2,h3⟩,by
  have:=r.xt.saved.1;rw [hsv] at this;exact ⟨this,λi a v h=>by simp at h⟩,r.xt.size⟩
 have fin: ∀(b:Bool) (g:Option Nat),c.Φ g T' w'->Rel c {σ:=xQ (s.σ.map (DJ s.m 40)) dst (.lit b),m:=[],nx:=0,gh:=g,sv:=[] } (a.put dst (.bool b)) w':=by
  intro b g hg;refine ⟨w',T',e2,hg,⟨λb hb=>⟨rfl,Nat.lt_of_lt_of_le (hlt b hb) hsz⟩,(λb id h=>by cases h),D2.step (e:=e2) (w:=w) (λb p hp=>⟨.inl (r.env.glob b p hp).1,(r.env.glob b p hp).2⟩) st2⟩,Below.refl _ _,(λp hp=>by cases hp),(λk hk=>hk.elim),λb hb=>⟨(hT' b hb).1,λZ=>?_⟩,by rw [put_defers];exact hxt0.step st2,qL dG dst (.lit b)⟩
  rcases (hT' b hb).2 with h|h;exact hnT b Z h;have:=hlt b Z;omega
 rcases F8 with ⟨rfl,hg⟩|⟨rfl,hg⟩;exact hK _ _ _ (h.1 trivial) (fin true _ hg);exact hK _ _ _ h.2 (fin false _ hg);cases ht
 rename_i g first caps hfe
 rw [hfe] at hf;obtain ⟨us,us',hv,r1,r2⟩:=hf.fn_inv;have D7:U8 e w (first++args.toList.map (rho s.σ)++caps) (us++args.toList.map a.eval++us'):=(r1.append ha).append r2
 have DW:Enters P g->(execOp a.eval ⟨dst,.call ⟨.value f,args,argTypes⟩,type,pos,after,guard⟩).run P w= .ok (.enter g (us++args.toList.map a.eval++us').toArray) w:=by
  intro PQ;have e1:(us++args.toList.map a.eval++us').toArray=us.toArray++args.map a.eval++us'.toArray:=Array.ext' (by simp)
  simp only [execOp,resolve,hv,Deferred.ofValue,At,Bv,Au,invoke];rw [e1];exact LP PQ _ w
 split at ht;rename_i sp hsp;split at ht;rename_i FU;split at ht
 ·rename_i ns res F8;cases ht
  replace h:=VR.sat_needT h
  obtain ⟨PQ,hs⟩:=hX.r _ (mQ hsp);have hidf': ∀x∈first++args.toList.map (rho s.σ)++caps,Idf x:=by
   intro x hx;obtain ⟨i,O⟩:=List.mem_iff_getElem?.1 hx;obtain ⟨v,_,rv⟩:=D7.get O;exact kW 6 x v rv (List.all_eq_true.1 FU x hx)
  have FO:=hs _ _ _ F8 (GI h.1) e w _ (λb hb=>(r.env.apart b hb).2) r.env.glob hidf' D7;refine HV (λc h=>by cases h) ?_
  unfold Oper.wp;rw [DW PQ,Oper.upon_enter];refine FO.mono λen w' hq=>?_;obtain ⟨v,rfl,hb,GS⟩:=hq;have st:Step e (e.more w w') w w':=⟨λb hlt Z=>⟨.inl Z,hb.block b hlt⟩,λ_ h=>⟨h,rfl,rfl⟩,hb.size⟩;have hE':GB (e.more w w') w0.heap.size w':=by
   refine ⟨?_,λb k hk=>?_,r.env.glob.step st⟩;rintro b (Z|⟨h1,h2⟩);have:=r.env.apart b Z;have:=hb.size;exact ⟨(r.env.apart b Z).1,by omega⟩
   refine ⟨?_,h2⟩;cases ho:(e.more w w').own b with
   |none=>rfl
   |some k=>have:=(r.env.owned b k ho).2;omega
   have:=r.env.owned b k hk;have:=hb.size;exact ⟨(r.env.owned b k hk).1,by omega⟩
  have st2:Step {PS w w' with ro:=(e.more w w').ro} (e.more w w') w' w':=⟨λb _ h=>⟨h,rfl⟩,λ_ h=>False.elim h,Am _⟩
  exact hK _ _ _ h.2 ⟨w0,T,e.more w w',hΦ,r.next (hb.mono r.hB) st hE' (λb h=>h.imp (λh=>h) (λh=>h.1)) (r.mem.ext hb st (λ_ _ h=>h)) (λk hk=>Nat.lt_succ_of_lt (r.live k hk)) dst (GS.step st2)⟩
 cases ht;cases ht;split at ht;rename_i hs hhs;split at ht;rename_i tr htr;cases ht;obtain ⟨PQ,M2⟩:=hX.h _ (Wx7 hhs);have FO:=M2 _ _ _ _ _ htr _ (VR.sat_bind h) {c with saved:=a.tmps.toList::c.saved} w0 T e a.defers _ w r.env r.below r.mem r.live r.foe ⟨r.xt.defers,r.xt.kept,LK.cons r.slots r.xt.saved,r.xt.size⟩ D7
 refine HV (λc h=>by cases h) ?_
 unfold Oper.wp;rw [DW PQ,Oper.upon_enter];refine FO.mono λen w' hq=>?_;obtain ⟨v,rr,m',nx',sv',e',rfl,hQ,hE',hB',hm',hl',hT',hx',GS⟩:=hq;obtain ⟨a1,l1,he1,hs1,hs2⟩:=hx'.saved.cons_inv;subst he1;unfold Zd3 at hQ;exact hK _ _ _ hQ ⟨w0,T,e',hΦ,hE',hB',hm',hl',hT',by rw [put_defers];exact ⟨hx'.defers,hx'.kept,hs2,hx'.size⟩,qL hs1 dst GS⟩
 cases ht;split at ht;rename_i sp hsp;split at ht;rename_i FU;split at ht
 ·rename_i tr htr;cases ht;obtain ⟨PQ,hs⟩:=hX.c _ (MB hsp);have hidf': ∀x∈first++args.toList.map (rho s.σ)++caps,Idf x:=by
   intro x hx;obtain ⟨i,O⟩:=List.mem_iff_getElem?.1 hx;obtain ⟨v,_,rv⟩:=D7.get O;exact kW 6 x v rv (List.all_eq_true.1 FU x hx)
  have FO:=hs _ _ htr _ (VR.sat_bind h) e w _ (λb hb=>(r.env.apart b hb).2) r.env.glob hidf' D7;refine HV (λc h=>by cases h) ?_
  unfold Oper.wp;rw [DW PQ,Oper.upon_enter];refine FO.mono λen w' hq=>?_;obtain ⟨v,rr,rfl,hQ,hb,GS⟩:=hq;have st:Step e (e.more w w') w w':=⟨λb hlt Z=>⟨.inl Z,hb.block b hlt⟩,λ_ h=>⟨h,rfl,rfl⟩,hb.size⟩;have hE':GB (e.more w w') w0.heap.size w':=by
   refine ⟨?_,λb k hk=>?_,r.env.glob.step st⟩;rintro b (Z|⟨h1,h2⟩);have:=r.env.apart b Z;have:=hb.size;exact ⟨(r.env.apart b Z).1,by omega⟩
   refine ⟨?_,h2⟩;cases ho:(e.more w w').own b with
   |none=>rfl
   |some k=>have:=(r.env.owned b k ho).2;omega
   have:=r.env.owned b k hk;have:=hb.size;exact ⟨(r.env.owned b k hk).1,by omega⟩
  have st2:Step {PS w w' with ro:=(e.more w w').ro} (e.more w w') w' w':=⟨λb _ h=>⟨h,rfl⟩,λ_ h=>False.elim h,Am _⟩
  exact hK _ _ _ hQ ⟨w0,T,e.more w w',hΦ,r.next (hb.mono r.hB) st hE' (λb h=>h.imp (λh=>h) (λh=>h.1)) (r.mem.ext hb st (λ_ _ h=>h)) (λk hk=>Nat.lt_succ_of_lt (r.live k hk)) dst (GS.step st2)⟩
 cases ht;cases ht;cases ht;cases ht;cases ht;cases ht;exact h.elim
end
def E1(o:Oper)(s:St):St:={s with σ:=xQ s.σ o.dst (.tup []) }
theorem OQ(e:UP)(w:World):Rep e w (.tup []) undef:=Rep.tupL (U8.nil e w)
theorem iF{c:Cx}{w0:World}{T:Nat->Prop}{e:UP}{o:Oper}{s:St}{a:Act}{w:World}(r:FB c w0 T e s a w):FB c w0 T e (E1 o s) (a.put o.dst undef) w:=
 ⟨r.env,r.below,r.mem,r.live,r.foe,by rw [put_defers];exact r.xt,qL r.slots o.dst (OQ _ _)⟩
def Xp5(s:St)(t:Nat)(b:Bool):St:={s with σ:=s.σ.set t (.lit b) }
theorem bK{c:Cx}{w0:World}{T:Nat->Prop}{e:UP}{s:St}{a:Act}{w:World}{t:Nat}{b d:Bool}(r:FB c w0 T e s a w)(ht:s.σ.getD t .top= .x (.bool b))(hb:b=d):FB c w0 T e (Xp5 s t d) a w:=by
 refine ⟨r.env,r.below,r.mem,r.live,r.foe,r.xt,?_⟩;have hlt:t<s.σ.length:=by
  rcases An t s.σ.length with h|h;exact h;rw [List.getD,Br h] at ht;cases ht
 obtain ⟨v,hv,rv⟩:=r.slots.get (List.getElem?_eq_getElem hlt);have he:s.σ[t]= .x (.bool b):=by simpa [List.getD,List.getElem?_eq_getElem hlt] using ht
 rw [he] at rv;cases rv.x_inv;have:=r.slots.set (a:= .lit d) (v:= .bool b) (by rw [←hb];exact .lit b) t
 have hset:a.tmps.toList.set t (.bool b)=a.tmps.toList:=by
  apply List.ext_getElem?;intro i;rw [List.getElem?_set];split;rename_i hti;subst hti;split;exact hv.symm;rename_i hnl;rw [Br (by omega)]
  rfl
 rw [hset] at this;exact this
def aO:Op->Option Nat
 | .pick (.tmp t) _ _=>some t
 |_=>none
def settle(s:St)(t:Option Nat)(g:St->VR St):VR St:=
 match t with
 |none=>g s
 |some t=>match s.σ.getD t .top with
  | .x (.bool b)=> .branch b (g (Xp5 s t true)) (g (Xp5 s t false))
  |_=>g s
theorem zX{c:Cx}{w0:World}{T:Nat->Prop}{e:UP}{s:St}{t:Option Nat}{g:St->VR St}{R:St->Prop}(h:(settle s t g).sat R){a:Act}{w:World}(r:FB c w0 T e s a w): ∃s',FB c w0 T e s' a w/\(g s').sat R/\s'.gh=s.gh:=by
 unfold settle at h;split at h;exact ⟨s,r,h,rfl⟩;split at h;rename_i b hb;cases b;exact ⟨_,bK r hb rfl,h.2 rfl,rfl⟩;exact ⟨_,bK r hb rfl,h.1 rfl,rfl⟩;exact ⟨s,r,h,rfl⟩
def F0(ops:List Oper)(o:Oper):Option Nat:=
 match o.guard with
 |none=>none
 |some (j,_)=>match ops[j]? with
  |some p=>p.dst
  |none=>none
def uY(i sz n:Nat)(f:Ci):Nat->AV->AV
 | 0,a=>match a with
  | .lit b=> .lit b
  | .x v=> .x v
  | .ro l=> .ro l
  | .lst a b c=> .lst a b c
  | .roI a b c d=> .roI a b c d
  |_=> .top
 |d+1,a=>match a with
  | .row k=>match Nat.beq k i with
   |true=> .lst sz n f
   |false=> .row k
  | .ptr k o=>match Nat.beq k i with
   |true=> .top
   |false=> .ptr k o
  | .elt k x y z=>match Nat.beq k i with
   |true=> .top
   |false=> .elt k x y z
  | .mp k=>match Nat.beq k i with
   |true=> .top
   |false=> .mp k
  | .agg l=> .agg (l.map (uY i sz n f d))
  | .tup l=> .tup (l.map (uY i sz n f d))
  | .fn g l l'=> .fn g (l.map (uY i sz n f d)) (l'.map (uY i sz n f d))
  |a=>a
def UP.frz(e:UP)(i:Nat):UP:=
 {ro:=λb=>e.ro b\/e.own b=some i,own:=λb=>match e.own b with|some k=>if k=i then none else some k|none=>none,
  live:=λk=>e.live k/\k≠i,blk:=e.blk,val:=e.val}
theorem jS{k i:Nat}(h:Nat.beq k i=false):k≠i:=by
 intro h2;subst h2;rw [Nat.beq_refl] at h;cases h
theorem iO{e e2:UP}{B:Nat}{w:World}{i T sz n:Nat}{f:Ci}(hE:GB e B w)(hh:GM e w i (.row T sz n f))(g1: ∀b,e.ro b->e2.ro b)(g2: ∀b,e.own b=some i->e2.ro b):Rep e2 w (.lst sz n f) (e.val i):=by
 obtain ⟨_,HD,hf,xs,hx,GS⟩:=hh;rcases hx.2 with ⟨hv0,hn0⟩|⟨g,cap,cur,hv0,_,hgg,hnc,hcm,hcs,kX⟩;rw [hv0];subst hn0;exact .lstNil _ _;have hob:e.own g=some i:=HD g (by rw [hv0];rfl)
 have hlt:=(hE.owned _ _ hob).2;have hv1:=hv0;rw [hv0];refine Rep.lst (e:=e2) (w:=w) sz _ _ g 0 _ (λi j=>xs.getD (i*sz+j) .nilIface) (λ_=>g2 g hob) (λ_=>hlt) (λi O=>(hf i O).2) hnc hcm ?_ (λi O=>(hf i O).1) ?_ _ (λ_=>rfl);intro i j O hj;have hle:i*sz+sz<=n*sz:=by
  have:=Nat.mul_le_mul_right sz (Az O)
  rwa [Bq] at this
 have kZ:i*sz+j<xs.length:=by rw [hx.1];omega
 have hc:=hx.cells (g:=g) (by rw [hv1];rfl) (i*sz+j) xs[i*sz+j] (List.getElem?_eq_getElem kZ)
 rw [DI] at hc;rw [hc];simp [List.getD,List.getElem?_eq_getElem kZ];intro q j a ha' ha;have hj:j<sz:=by rw [←(hf q ha').1];exact (List.getElem?_eq_some_iff.1 ha).1
 have hle:q*sz+sz<=n*sz:=by
  have:=Nat.mul_le_mul_right sz (Az ha')
  rwa [Bq] at this
 have kZ:q*sz+j<xs.length:=by rw [hx.1];omega
 have:=GS q j a xs[q*sz+j] ha' ha (List.getElem?_eq_getElem kZ);simp only [List.getD,List.getElem?_eq_getElem kZ,Option.getD_some];exact Rep.idf g1 this ((hf q ha').2 a (Ca ha))
theorem Xn5{e:UP}{B:Nat}{w:World}{i T sz n:Nat}{f:Ci}(hE:GB e B w)(hh:GM e w i (.row T sz n f)):Rep (e.frz i) w (.lst sz n f) (e.val i):=iO hE hh (λ_ h=> .inl h) (λ_ h=> .inr h)
def UP.sol(e:UP)(i:Nat):UP:={e with ro:=λb=>e.ro b\/e.own b=some i,own:=λb=>match e.own b with|some k=>if k=i then none else some k|none=>none}
theorem Step.sol(e:UP)(i:Nat)(w:World):Step e (e.sol i) w w:=⟨λ_ _ h=>⟨.inl h,rfl⟩,λ_ h=>⟨h,rfl,rfl⟩,Am _⟩
theorem GB.sol{e:UP}{B:Nat}{w:World}(h:GB e B w)(i:Nat):GB (e.sol i) B w:=by
 refine ⟨λb hb=>?_,λb k hk=>?_,h.glob.step (Step.sol e i w)⟩;rcases hb with hb|hb;obtain ⟨h1,h2⟩:=h.apart b hb;exact ⟨by simp [UP.sol,h1],h2⟩
 exact ⟨by simp [UP.sol,hb],(h.owned b i hb).2⟩
 simp only [UP.sol] at hk;cases ho:e.own b with
 |none=>rw [ho] at hk;cases hk
 |some j=>exact h.owned b j ho
theorem GM.sol{e:UP}{w:World}{i k:Nat}{r:GU}(hne:k≠i/\D4 i r=false)(h:GM e w k r):GM (e.sol i) w k r:=by
 obtain ⟨hne,hak⟩:=hne;have st:=Step.sol e i w;cases r with
 |cells T l=>
  obtain ⟨h1,h2,vs,h3,h4⟩:=h;exact ⟨h1,by simp [UP.sol,h2,hne],vs,h3,h4.step st⟩
 |row T sz n f=>
  obtain ⟨h1,h2,hf,xs,h3,h4⟩:=h;refine ⟨h1,λb hb=>?_,hf,xs,h3,λi j a v O ha hv=>(h4 i j a v O ha hv).step st⟩;have:=h2 b hb;simp [UP.sol,this,hne]
 |ints T pre n f=>
  obtain ⟨h1,h2,vs,h3,h4⟩:=h;exact ⟨h1,by simp [UP.sol,h2,hne],vs,h3,h4.step st⟩
 |memo g f=>
  obtain ⟨h1,h2,es,c,h3,h4⟩:=h;exact ⟨h1,by simp [UP.sol,h2,hne],es,c,h3,h4⟩
 |keep T l=>exact LT st h
 |aka r T sz n f=>
  obtain ⟨h1,h0,o,hor,h2,hf,xs,h3,h4⟩:=h;refine ⟨h1,h0,o,hor,λb hb=>?_,hf,xs,h3,λi j a v O ha hv=>(h4 i j a v O ha hv).step st⟩;have:=h2 b hb;have ho:o≠i:=by
   rcases hor with rfl|rfl;exact hne;rintro rfl;simp [D4] at hak
  simp [UP.sol,this,ho]
theorem gY{e:UP}{B:Nat}{w:World}{i T sz n:Nat}{f:Ci}(hE:GB e B w)(hh:GM e w i (.row T sz n f)): ∀(d:Nat) (a:AV) (v:Value),Rep e w a v->Rep (e.frz i) w (uY i sz n f d a) v
 | 0,a,v,r=>by
  have hro: ∀b,e.ro b->(e.frz i).ro b:=λ_ h=> .inl h;cases r with
  |lit b=>exact .lit b
  |x v=>exact .x v
  |roI pre n f off b o Z=>exact Rep.idf hro (.roI pre n f off b o Z) (jF (Rep.roI pre n f off b o Z) rfl)
  |ro l vs b o h1 h2 h3 h4 h5 h6=>exact Rep.idf hro (.ro l vs b o h1 h2 h3 h4 h5 h6) (.ro l h3)
  |lstNil sz f=>exact .lstNil sz f
  |lst sz n f b o cap g h1 h2 h3 h4 h5 h6 h7 h8 ad had=>exact Rep.idf hro (.lst sz n f b o cap g h1 h2 h3 h4 h5 h6 h7 h8 ad had) (.lst sz n f h3)
  |_=>exact .top _
 |d+1,a,v,r=>by
  have hro: ∀b,e.ro b->(e.frz i).ro b:=λ_ h=> .inl h;have ih:=gY hE hh d;cases r with
  |top v=>exact .top v
  |lit b=>exact .lit b
  |x v=>exact .x v
  |roI pre n f off b o Z=>exact Rep.idf hro (.roI pre n f off b o Z) (jF (Rep.roI pre n f off b o Z) rfl)
  |ptr id off hl=>
   simp only [uY];split;exact .top _;rename_i hb;exact .ptr (e:=e.frz i) id off ⟨hl,jS hb⟩
  |row id a n c hl hv=>
   simp only [uY];split;rename_i hb;have:=Nat.eq_of_beq_eq_true hb;subst this;rw [←hv];exact Xn5 hE hh;rename_i hb;exact .row (e:=e.frz i) id a n c ⟨hl,jS hb⟩ hv
  |elt id sz x y b n cap hl hv=>
   simp only [uY];split;exact .top _;rename_i hb;exact .elt (e:=e.frz i) id sz x y b n cap ⟨hl,jS hb⟩ hv
  |mp id hl=>
   simp only [uY];split;exact .top _;rename_i hb;exact .mp (e:=e.frz i) id ⟨hl,jS hb⟩
  |agg l vs h1 h2=>exact Rep.aggL (U8.map _ ih ⟨h1,h2⟩)
  |tup l vs h1 h2=>exact Rep.tupL (U8.map _ ih ⟨h1,h2⟩)
  |fn f l l' vs vs' h1 h2 h3 h4=>
   have k1:U8 e w l vs:=⟨h1,h2⟩;have k2:U8 e w l' vs':=⟨h3,h4⟩;exact .fn f _ _ vs vs' (U8.map _ ih k1).1 (U8.map _ ih k1).2 (U8.map _ ih k2).1 (U8.map _ ih k2).2
  |ro l vs b o h1 h2 h3 h4 h5 h6=>exact Rep.idf hro (.ro l vs b o h1 h2 h3 h4 h5 h6) (.ro l h3)
  |mpr g okf vals b es c h1 h2 h3 h4 h5 h6 h7 h8=>exact Rep.idf hro (.mpr g okf vals b es c h1 h2 h3 h4 h5 h6 h7 h8) (.mpr g okf h3)
  |any1 v hv=>exact .any1 v hv
  |lstNil sz f=>exact .lstNil sz f
  |lst sz n f b o cap g h1 h2 h3 h4 h5 h6 h7 h8 ad had=>exact Rep.idf hro (.lst sz n f b o cap g h1 h2 h3 h4 h5 h6 h7 h8 ad had) (.lst sz n f h3)
def Wy8(i sz n:Nat)(f:Ci):HA->HA
 |[]=>[]
 |(k,r)::t=>match Nat.beq k i||D4 i r with
  |true=>Wy8 i sz n f t
  |false=>(k,match r with
   | .cells T l=> .cells T (l.map (uY i sz n f 6))
   | .ints T pre m g=> .ints T (pre.map (uY i sz n f 6)) m g
   | .keep T l=> .keep T (l.map (uY i sz n f 6))
   |r=>r)::Wy8 i sz n f t
theorem Qh0{e:UP}{B:Nat}{w:World}{i T sz n:Nat}{f:Ci}(hE:GB e B w)(hh:GM e w i (.row T sz n f)): ∀{m:HA},G5 e m w->G5 (e.frz i) (Wy8 i sz n f m) w
 |[],_=>λp hp=>by cases hp
 |(k,r)::t,h=>by
  have ih:=Qh0 hE hh (m:=t) (λp hp=>h p (List.mem_cons_of_mem _ hp));have hk:=h _ List.mem_cons_self;unfold Wy8;split;exact ih;rename_i hb;rw [Bool.or_eq_false_iff] at hb;obtain ⟨hb,hak⟩:=hb;have hne:=jS hb;intro p hp;rcases List.mem_cons.1 hp with rfl|hp;cases r with
  |aka r T' sz' n' f'=>
   obtain ⟨h1,h0,o,hor,h2,hf,xs,h3,h4⟩:=hk;refine ⟨⟨h1,hne⟩,⟨h0,jS hak⟩,o,hor,λb hb'=>?_,hf,xs,h3,λi' j a v O ha hv=>Rep.idf (e:=e) (e':=e.frz i) (λ_ h=>Or.inl h) (h4 i' j a v O ha hv) ((hf i' O).2 a (Ca ha))⟩;have:=h2 b hb';have ho:o≠i:=by
    rcases hor with rfl|rfl;exact hne;exact jS hak
   simp [UP.frz,this,ho]
  |row T' sz' n' f'=>
   obtain ⟨h1,h2,hf,xs,h3,h4⟩:=hk;refine ⟨⟨h1,hne⟩,λb hb'=>?_,hf,xs,h3,λi' j a v O ha hv=>Rep.idf (e:=e) (e':=e.frz i) (λ_ h=>Or.inl h) (h4 i' j a v O ha hv) ((hf i' O).2 a (Ca ha))⟩;have:=h2 b hb';simp [UP.frz,this,hne]
  |cells T' l=>
   obtain ⟨h1,h2,vs,h3,h4⟩:=hk;refine ⟨⟨h1,hne⟩,?_,vs,h3,U8.map _ (gY hE hh 6) h4⟩;simp only at h2;simp [UP.frz,h2,hne]
  |ints T' pre m g=>
   obtain ⟨h1,h2,vs,h3,h4⟩:=hk;refine ⟨⟨h1,hne⟩,?_,vs,h3,?_⟩;simp only at h2;simp [UP.frz,h2,hne];have:=U8.map _ (gY hE hh 6) h4;rw [List.map_append] at this;have hL:(HY m g).map (uY i sz n f 6)=HY m g:=by
    unfold HY;rw [List.map_map];rfl
   rw [hL] at this;exact this
  |keep T' l=>
   obtain ⟨h1,h2,h0,vs,h3,h4⟩:=hk;exact ⟨⟨h1,hne⟩,.inl h2,h0,vs,h3,U8.map _ (gY hE hh 6) h4⟩
  |memo g f'=>
   obtain ⟨h1,h2,es,c,h3,h4⟩:=hk;refine ⟨⟨h1,hne⟩,?_,es,c,h3,h4⟩;simp only at h2;simp [UP.frz,h2,hne]
  exact ih p hp
def Qx3(i:Nat)(s:St):St:=match DN s.m i with
 |some (.row _ sz n f)=>{s with σ:=s.σ.map (uY i sz n f 6),m:=Wy8 i sz n f s.m,sv:=s.sv.map (·.map (uY i sz n f 6)) }
 |_=>s
theorem mS{c:Cx}{w0:World}{F:Nat->Prop}{e:UP}{i:Nat}{s:St}{a:Act}{w:World}(r:FB c w0 F e s a w): ∃e',FB c w0 F e' (Qx3 i s) a w:=by
 unfold Qx3;split;rename_i T sz n f hg;have hh:=r.mem _ (GA hg);have rp:=gY r.env hh 6;refine ⟨e.frz i,⟨λb hb=>?_,λb k hk=>?_,λb p hp=>⟨.inl (r.env.glob b p hp).1,(r.env.glob b p hp).2⟩⟩,r.below,Qh0 r.env hh r.mem,λk hk=>r.live k hk.1,λb hb=>⟨(r.foe b hb).1,λZ=>?_⟩,⟨⟨λd hd=>?_,r.xt.defers.2⟩,λb o hk=>?_,LK.map _ rp r.xt.saved,r.xt.size⟩,U8.map _ rp r.slots⟩;rcases hb with hb|hb;obtain ⟨h1,h2⟩:=r.env.apart b hb;exact ⟨by simp [UP.frz,h1],h2⟩
 exact ⟨by simp [UP.frz,hb],(r.env.owned b i hb).2⟩
 simp only [UP.frz] at hk;cases ho:e.own b with
 |none=>rw [ho] at hk;cases hk
 |some j=>exact r.env.owned b j ho
 rcases Z with Z|Z;exact (r.foe b hb).2 Z;have:=(r.env.owned b i Z).1;have:=(r.foe b hb).1;omega;obtain ⟨D,g1,g2,g3⟩:=r.xt.defers.1 d hd;exact ⟨D,g1,.inl g2,g3⟩;obtain ⟨g1,g2⟩:=r.xt.kept b o hk;exact ⟨.inl g1,g2⟩;exact ⟨e,r⟩
def jK:List Nat->St->St
 |[],s=>s
 |i::l,s=>jK l (Qx3 i s)
theorem AA{c:Cx}{w0:World}{F:Nat->Prop}{a:Act}{w:World}: ∀(l:List Nat) {e:UP} {s:St},FB c w0 F e s a w-> ∃e',FB c w0 F e' (jK l s) a w
 |[],e,_,r=>⟨e,r⟩
 |i::l,_,_,r=>by
  obtain ⟨e1,r1⟩:=mS (i:=i) r;exact AA l r1
theorem Qi8(i:Nat)(s:St):(Qx3 i s).gh=s.gh:=by unfold Qx3;split<;>rfl
theorem T5: ∀(l:List Nat) (s:St),(jK l s).gh=s.gh
 |[],_=>rfl
 |i::l,s=>by rw [jK,T5 l,Qi8]
def fF:Nat->AV->List Nat
 | 0,_=>[]
 |d+1,a=>match a with
  | .row k=>[k]
  | .agg l=>l.flatMap (fF d)
  | .tup l=>l.flatMap (fF d)
  |_=>[]
section
variable (X:Ext)(o:Oper)(s:St)
def MF:St:=
 match o.op with
 | .buildSlice _ _ parts=>jK (parts.toList.flatMap λp=>fF 3 (rho s.σ p.2)) s
 | .store _ x y=>match rho s.σ x with
  | .elt _ _ _ _=>jK (fF 3 (rho s.σ y)) s
  |_=>s
 | .call c=>match c.callee with
  | .value f=>match rho s.σ f with
   | .fn (.func g) _ _=>match tW X.R g with
    |some _=>jK (c.args.toList.flatMap λx=>fF 3 (rho s.σ x)) s
    |none=>match bU X.C g with
     |some _=>jK (c.args.toList.flatMap λx=>fF 3 (rho s.σ x)) s
     |none=>s
   |_=>s
  |_=>s
 |_=>s
theorem T4: ∃l,MF X o s=jK l s:=by
 unfold MF;split;exact ⟨_,rfl⟩;split;exact ⟨_,rfl⟩;exact ⟨[],rfl⟩;split;split;split;exact ⟨_,rfl⟩;split;exact ⟨_,rfl⟩;exact ⟨[],rfl⟩;exact ⟨[],rfl⟩;exact ⟨[],rfl⟩;exact ⟨[],rfl⟩
end
theorem mT{X:Ext}{o:Oper}{c:Cx}{w0:World}{F:Nat->Prop}{e:UP}{s:St}{a:Act}{w:World}(r:FB c w0 F e s a w): ∃e',FB c w0 F e' (MF X o s) a w:=by
 obtain ⟨l,hl⟩:=T4 X o s;rw [hl];exact AA l r
theorem Qx4(X:Ext)(o:Oper)(s:St):(MF X o s).gh=s.gh:=by
 obtain ⟨l,hl⟩:=T4 X o s;rw [hl,T5]
def pN(P:Program)(G:List (Nat×Spec))(X:Ext)(o:Oper)(s:St):VR St:=Wh7 P G X o (MF X o s)
theorem gU{P:Program}{G:List (Nat×Spec)}{X:Ext}{c:Cx}(hG:VP P G)(hX:U0 P X c){o:Oper}{s:St}{R:St->Prop}(h:(pN P G X o s).sat R){w0:World}{T:Nat->Prop}{e:UP}{a:Act}{w:World}(hΦ:c.Φ s.gh T w0)(r:FB c w0 T e s a w)
  {ro:Option Nat}{n:Nat}{K:Act->World->Prop}{Q:Exit->Act->World->Prop}(hK: ∀s' a' w',R s'->Rel c s' a' w'->K a' w'):o.wpIn (fr ro) n P a w K Q:=by
 obtain ⟨e',r'⟩:=mT (X:=X) (o:=o) r;exact iN hG hX h (by rw [Qx4];exact hΦ) r' hK
def j8(P:Program)(G:List (Nat×Spec))(X:Ext)(ops:List Oper)(o:Oper)(s:St):VR St:=
 match o.guard with
 |none=>settle s (aO o.op) (pN P G X o)
 |some (_,want)=>settle s (F0 ops o) λs=>match (match F0 ops o with|some t=>s.σ.getD t .top|none=> .top) with
  | .lit b=>match b==want with
   |true=>settle s (aO o.op) (pN P G X o)
   |false=> .leaf (E1 o s)
  | .tup _=> .leaf (E1 o s)
  |_=> .fail
section
variable {e:UP}{w:World}{ops:Array Oper}{σ:List AV}{a:Act}{j t:Nat}{p:Oper}
theorem eJ{b:Bool}(h:U8 e w σ a.tmps.toList)(hp:ops[j]? =some p)(hd:p.dst=some t)(hl:σ.getD t .top= .lit b):yielded ops a.tmps j=some b:=by
 have Z:=FR h (.tmp t);simp only [rho,hl] at Z;have:=Z.lit_inv;simp only [Act.eval] at this;have hg:a.tmps[t]? =some (.bool b):=by
  cases hq:a.tmps[t]? with
  |none=>rw [Array.getD_eq_getD_getElem?,hq] at this;simp [undef] at this
  |some v=>rw [Array.getD_eq_getD_getElem?,hq] at this;simpa using this
 unfold yielded;simp [hp,hd,hg]
theorem eI{l:List AV}(h:U8 e w σ a.tmps.toList)(hp:ops[j]? =some p)(hd:p.dst=some t)(hl:σ.getD t .top= .tup l):yielded ops a.tmps j=none:=by
 have Z:=FR h (.tmp t);simp only [rho,hl] at Z;obtain ⟨vs,hv,_⟩:=Z.tup_inv;simp only [Act.eval] at hv;unfold yielded;simp only [hp,hd,Option.bind_some];cases hq:a.tmps[t]? with
 |none=>rfl
 |some v=>
  rw [Array.getD_eq_getD_getElem?,hq] at hv;simp only [Option.getD_some] at hv;subst hv;rfl
end
theorem j7{P:Program}{G:List (Nat×Spec)}{X:Ext}{c:Cx}(hG:VP P G)(hX:U0 P X c){ro:Option Nat}{n:Nat}{ops:Array Oper}{i:Nat}{o:Oper}(ho:ops[i]? =some o){s:St}{R:St->Prop}(h:(j8 P G X ops.toList o s).sat R){a:Act}{w:World}(r:Rel c s a w)
  {K:Act->World->Prop}{Q:Exit->Act->World->Prop}(hK: ∀s' a' w',R s'->Rel c s' a' w'->K a' w'):wpOpIn (fr ro) n P ops Q i K a w:=by
 obtain ⟨w0,T,e,hΦ,r⟩:=r;unfold wpOpIn;simp only [ho];unfold j8 at h;split at h;rename_i hg;obtain ⟨s1,r1,h1,hg1⟩:=zX h r;rw [if_pos (by simp [Region.wanted,hg])]
 exact gU hG hX h1 (by rw [hg1];exact hΦ) r1 hK
 rename_i j want hg;obtain ⟨s1,r1,h1,hg1⟩:=zX h r;unfold F0 at h1;simp only [hg] at h1;cases hp:ops.toList[j]? with
 |none=>simp only [hp] at h1;exact h1.elim
 |some p=>
  simp only [hp] at h1;cases hd:p.dst with
  |none=>simp only [hd] at h1;exact h1.elim
  |some t=>
   simp only [hd] at h1;split at h1;rename_i b hb;have hy:=eJ (ops:=ops) r1.slots (by simpa using hp) hd hb
   split at h1;rename_i hbw;obtain ⟨s2,r2,h2,hg2⟩:=zX h1 r1;have hw:Region.wanted o (yielded ops a.tmps)=true:=by
    simp only [Region.wanted,hg,hy];simpa using hbw
   rw [if_pos hw];exact gU hG hX h2 (by rw [hg2,hg1];exact hΦ) r2 hK
   rename_i hbw;have hw: ¬Region.wanted o (yielded ops a.tmps)=true:=by
    simp only [Region.wanted,hg,hy];simpa using hbw
   rw [if_neg hw];exact ⟨λ_ _=>trivial,hK _ _ _ h1 ⟨w0,T,e,by rw [show (E1 o s1).gh=s1.gh from rfl,hg1];exact hΦ,iF r1⟩⟩
   rename_i l hb;have hy:=eI (ops:=ops) r1.slots (by simpa using hp) hd hb
   have hw: ¬Region.wanted o (yielded ops a.tmps)=true:=by
    simp [Region.wanted,hg,hy]
   rw [if_neg hw];exact ⟨λ_ _=>trivial,hK _ _ _ h1 ⟨w0,T,e,by rw [show (E1 o s1).gh=s1.gh from rfl,hg1];exact hΦ,iF r1⟩⟩
   exact h1.elim
def Wi6(P:Program)(G:List (Nat×Spec))(X:Ext)(ops:List Oper):List Oper->St->VR St
 |[],s=> .leaf s
 |o::rest,s=>(j8 P G X ops o s).bind (Wi6 P G X ops rest)
theorem uF{P:Program}{G:List (Nat×Spec)}{X:Ext}{c:Cx}(hG:VP P G)(hX:U0 P X c){ro:Option Nat}{n:Nat}{ops:Array Oper}{Q:Exit->Act->World->Prop}{R:St->Prop}(hQ: ∀s a w,R s->Rel c s a w->Q .normal a w):
  ∀(l:List Oper) (k:Nat),l=ops.toList.drop k-> ∀(s:St) (a:Act) (w:World),(Wi6 P G X ops.toList l s).sat R->Rel c s a w->wpOpsIn (fr ro) n P ops Q (List.range' k (ops.size-k)) a w
 |[],k,hk,s,a,w,h,r=>by
  have D5:ops.size-k=0:=by
   have:=congrArg List.length hk;simp at this;omega
  rw [D5];exact hQ s a w h r
 |o::rest,k,hk,s,a,w,h,r=>by
  have hlt:k<ops.size:=by
   have:=congrArg List.length hk;simp at this;omega
  have hok:ops[k]? =some o:=by
   have:=congrArg (·[0]?) hk;simp at this;exact this.symm
  have SN:rest=ops.toList.drop (k+1):=by
   have:=congrArg List.tail hk;simpa using this
  have e1:ops.size-k=(ops.size-(k+1))+1:=by omega
  rw [e1,List.range'_succ,wpOpsIn_cons];exact j7 hG hX hok (VR.sat_bind h) r (λs' a' w' hs' hr'=>uF hG hX hQ rest (k+1) SN s' a' w' hs' hr')
open Go Go.RowKit
def D3(o:Oper):List Nat:=(o.after.toList.filter (Region.binds .any)).map (·.on)
def bF(acc:List Nat)(o:Oper):Nat:=(D3 o).foldl (λs j=>s ||| (1 <<< j) ||| acc.getD j 0) 0
def HM:List Oper->List Nat->List Nat
 |[],acc=>acc
 |o::os,acc=>HM os (acc++[bF acc o])
theorem fQ: ∀(os:List Oper) (acc:List Nat) (k:Nat),k<acc.length->(HM os acc).getD k 0=acc.getD k 0
 |[],_,_,_=>rfl
 |o::os,acc,k,h=>by
  rw [HM,fQ os _ k (by simp;omega)]
  simp [List.getD,Ce,h]
theorem lJ: ∀(os:List Oper) (acc:List Nat) (i:Nat) (o:Oper),os[i]? =some o-> ∃acc',(HM os acc).getD (acc.length+i) 0=bF acc' o/\acc'.length=acc.length+i/\ ∀j,j<acc.length+i->acc'.getD j 0=(HM os acc).getD j 0
 |[],_,_,_,h=>by simp at h
 |o'::os,acc,0,o,h=>by
  simp at h;subst h;refine ⟨acc,?_,VY,λj hj=>?_⟩;rw [HM,fQ os _ _ VY];simp [List.getD];rw [HM,fQ os _ j (by simp;omega)]
  simp only [Bg] at hj;simp [List.getD,Ce,hj]
 |o'::os,acc,i+1,o,h=>by
  simp at h;obtain ⟨acc',h1,h2,h3⟩:=lJ os (acc++[bF acc o']) i o h;have e1:(acc++[bF acc o']).length+i=acc.length+(i+1):=by simp;omega
  rw [e1] at h1 h2 h3;exact ⟨acc',h1,h2,h3⟩
theorem mV{A:Ch}: ∀(l:List Nat) (s i:Nat),(l.foldl (λs j=>s ||| (1 <<< j) ||| A j) s).testBit i=true->s.testBit i=true\/ ∃j∈l,i=j\/(A j).testBit i=true
 |[],s,i,h=> .inl h
 |j::l,s,i,h=>by
  rcases mV l _ i h with h|⟨j',hj',h⟩;rw [Nat.testBit_or,Nat.testBit_or,Bl,Bl] at h;rcases h with (h|h)|h;exact .inl h;refine .inr ⟨j,GN,.inl ?_⟩;rw [Nat.one_shiftLeft,Nat.testBit_two_pow] at h;exact (wC h).symm;exact .inr ⟨j,GN,.inr h⟩;exact .inr ⟨j',D1 _ hj',h⟩
def inS(L:Array Bool)(k:Nat):Prop:=L.getD k false=true
def DC(ops:List Oper)(L:Array Bool):Prop:= ∀k o,ops[k]? =some o->inS L k-> ∀j∈D3 o,inS L j
theorem wR{ops:List Oper}{L:Array Bool}(hd:DC ops L): ∀(k:Nat) (o:Oper),ops[k]? =some o->(∀j∈D3 o,inS L j)-> ∀i,((HM ops []).getD k 0).testBit i=true->inS L i:=by
 intro k
 induction k using Nat.strongRecOn with
 |_ k ih=>
  intro o ho D7 i O;obtain ⟨acc',h1,h2,h3⟩:=lJ ops [] k o ho;simp only [List.length_nil,Ap] at h1 h2 h3;rw [h1] at O;rcases mV _ _ _ O with h|⟨j,hj,h⟩;simp at h;rcases h with rfl|h;exact D7 _ hj;have hjk:j<k:=by
   rcases An j k with h'|h';exact h';rw [List.getD,Br VO] at h;simp at h
  rw [h3 j hjk] at h;have hlt:j<ops.length:=by have:=(RA.1 ho).1;omega
  exact ih j hjk ops[j] (D8 hlt) (hd j _ (D8 hlt) (D7 j hj)) i h
def VR.det{α:Type}:VR α->VR α
 | .may _ _ _=> .fail
 | .branch b t f=> .branch b t.det f.det
 | .need ps t=> .need ps t.det
 | .leaf a=> .leaf a
 | .fail=> .fail
theorem VR.det_sat{α:Type}{R:α->Prop}: ∀{t:VR α},t.det.sat R-> ∃r,t.sat (λx=>x=r)/\R r
 | .fail,h=>h.elim
 | .leaf a,h=>⟨a,rfl,h⟩
 | .branch true t f,h=>by
  obtain ⟨r,h1,h2⟩:=VR.det_sat (t:=t) (h.1 rfl);exact ⟨r,⟨λ_=>h1,λe=>by cases e⟩,h2⟩
 | .branch false t f,h=>by
  obtain ⟨r,h1,h2⟩:=VR.det_sat (t:=f) (h.2 rfl);exact ⟨r,⟨λe=>(by cases e),λ_=>h1⟩,h2⟩
 | .need ps t,h=>by
  obtain ⟨r,h1,h2⟩:=VR.det_sat (t:=t) h.2;exact ⟨r,⟨h.1,h1⟩,h2⟩
 | .may _ _ _,h=>h.elim
def nI(X:Ext)(id:Nat)(ρ:Operand->AV)(op:Op):Option (VR (AV×Option GU)):=
 match op with
 | .call c=>match c.callee with
  | .value f=>match ρ f with
   | .fn (.func g) first caps=>match (first++c.args.toList.map ρ++caps).all (AW 6) with
    |true=>match bU X.C g with
     |some sp=>match sp (first++c.args.toList.map ρ++caps) with
      |some t=>some (t.bind λr=> .leaf (r,none))
      |none=>none
     |none=>match Wy0 X.F g with
      |some sp=>match sp (first++c.args.toList.map ρ++caps) with
       |some (ns,T,sz,n,l)=>some (.needT ns (.leaf (.row id,some (.row T sz n l))))
       |none=>none
      |none=>none
    |false=>none
   |_=>none
  |_=>none
 |_=>none
def Qk0(X:Ext)(m:HA)(ρ:Operand->AV)(op:Op):Option (VR (AV×Option GU)):=
 match op with
 | .call c=>match c.callee with
  | .value f=>match ρ f with
   | .fn (.func g) first caps=>match bU X.D g with
    |some sp=>match sp ((first++c.args.toList.map ρ++caps).map (DJ m 40)) with
     |some t=>some (t.bind λr=> .leaf (r,none))
     |none=>none
    |none=>none
   |_=>none
  |_=>none
 |_=>none
def Qj9(X:Ext)(id:Nat)(m:HA)(ρ:Operand->AV)(op:Op):Option (VR (AV×Option GU)):=
 match Qk0 X m ρ op with
 |some t=>some t
 |none=>nI X id ρ op
structure HT where
 val:AV
 add:Option GU
 upd:Option (Nat×GU)
 eat:Option Nat
def DK:HT:=⟨.top,none,none,none⟩
def yQ:HT:=⟨.tup [],none,none,none⟩
def iG(want:Bool):AV->Bool
 | .lit b=>b != want
 | .tup _=>true
 |_=>false
def SE(M:List Nat)(mm i j:Nat):Bool:=Nat.testBit (M.getD i 0) j&&Nat.blt j mm&&(List.range mm).all λk=>Nat.beq k i|| !Nat.testBit (M.getD k 0) j||(Nat.testBit (M.getD k 0) i&&Nat.blt i k)
theorem B8{M:List Nat}{mm i j:Nat}(h:SE M mm i j=true):(M.getD i 0).testBit j=true/\j<mm/\ ∀k,k<mm->k≠i->(M.getD k 0).testBit j=true->(M.getD k 0).testBit i=true/\i<k:=by
 simp only [SE,HF] at h;obtain ⟨⟨h1,h2⟩,h3⟩:=h;refine ⟨h1,by rw [Aw] at h2;exact h2,λk hk hne hb=>?_⟩
 have:=BF.1 h3 k (List.mem_range.2 hk);rw [hb] at this;simp only [Bl,Bool.not_true,HF,Bw,or_false] at this;rcases this with h|h;exact absurd (H5 h) hne;exact ⟨h.1,by have:=h.2;rwa [Aw] at this⟩
def Qy1(M:List Nat)(mm i j:Nat):Bool:=Nat.testBit (M.getD i 0) j&&Nat.blt j mm&&(List.range mm).all λk=>Nat.beq k i|| !Nat.testBit (M.getD k 0) j||((Nat.testBit (M.getD k 0) i&&Nat.blt i k)||Nat.testBit (M.getD i 0) k)
theorem Qy0{M:List Nat}{mm i j:Nat}(h:Qy1 M mm i j=true):(M.getD i 0).testBit j=true/\j<mm/\ ∀k,k<mm->k≠i->(M.getD k 0).testBit j=true->((M.getD k 0).testBit i=true/\i<k)\/(M.getD i 0).testBit k=true:=by
 simp only [Qy1,HF] at h;obtain ⟨⟨h1,h2⟩,h3⟩:=h;refine ⟨h1,by rw [Aw] at h2;exact h2,λk hk hne hb=>?_⟩
 have:=BF.1 h3 k (List.mem_range.2 hk);rw [hb] at this;simp only [Bl,Bool.not_true,HF,Bw,or_false] at this;rcases this with h|h|h;exact absurd (H5 h) hne;exact .inl ⟨h.1,by have:=h.2;rwa [Aw] at this⟩
 exact .inr h
def yB(mask j:Nat):List HT->Nat->Bool
 |[],_=>false
 |c::t,k=>(match c.eat with
  |some q=>Nat.beq q j&&Nat.testBit mask k
  |none=>false)||(match c.upd with
  |some (q,_)=>Nat.beq q j&&Nat.testBit mask k
  |none=>false)||yB mask j t (k+1)
theorem AD{mask j:Nat}: ∀{l:List HT} {k0 i:Nat} {c:HT},l[i]? =some c->c.eat=some j->mask.testBit (k0+i)=true->yB mask j l k0=true
 |[],_,_,_,h,_,_=>by simp at h
 |c0::t,k0,i,c,h,he,hb=>by
  unfold yB;cases i with
  |zero=>simp at h;subst h;rw [he];simp at hb;simp [hb]
  |succ i=>
   have:=AD (mask:=mask) (j:=j) (l:=t) (k0:=k0+1) (i:=i) (by simpa using h) he (by rw [show k0+1+i=k0+(i+1) by omega];exact hb)
   rw [this];simp
theorem MR{mask j:Nat}: ∀{l:List HT} {k0 i:Nat} {c:HT} {r:GU},l[i]? =some c->c.upd=some (j,r)->mask.testBit (k0+i)=true->yB mask j l k0=true
 |[],_,_,_,_,h,_,_=>by simp at h
 |c0::t,k0,i,c,r,h,he,hb=>by
  unfold yB;cases i with
  |zero=>simp at h;subst h;rw [he];simp at hb;simp [hb]
  |succ i=>
   have:=MR (mask:=mask) (j:=j) (l:=t) (k0:=k0+1) (i:=i) (by simpa using h) he (by rw [show k0+1+i=k0+(i+1) by omega];exact hb)
   rw [this];simp
def L1:List (Nat×Bool)->Nat->Option Bool
 |[],_=>none
 |(k,d)::t,i=>match Nat.beq k i with
  |true=>some d
  |false=>L1 t i
def Qy2(dec:List (Nat×Bool))(k:Nat)(v:AV):AV:=match L1 dec k with
 |some d=> .lit d
 |none=>v
def DL(t:Nat):List Oper->Nat->Option Nat
 |[],_=>none
 |o::os,i=>match o.dst with
  |some d=>match Nat.beq d t with
   |true=>some i
   |false=>DL t os (i+1)
  |none=>DL t os (i+1)
theorem RJ{t:Nat}: ∀{ops:List Oper} {i k:Nat},DL t ops i=some k->i<=k/\ ∃o,ops[k-i]? =some o/\o.dst=some t
 |[],_,_,h=>by simp [DL] at h
 |o::os,i,k,h=>by
  unfold DL at h;split at h;rename_i d hd;split at h;rename_i hb;cases h;have:d=t:=H5 hb;exact ⟨Am _,o,VY,by rw [hd,this]⟩
  obtain ⟨h1,o',h2,h3⟩:=RJ h;refine ⟨VO,o',?_,h3⟩;rw [show k-i=(k-(i+1))+1 by omega];simpa using h2
  obtain ⟨h1,o',h2,h3⟩:=RJ h;refine ⟨VO,o',?_,h3⟩;rw [show k-i=(k-(i+1))+1 by omega];simpa using h2
def rV(n:Nat)(ops:List Oper):List Oper->Nat->Bool
 |[],_=>true
 |o::os,i=>(match o.dst with
  |some d=>(match DL d ops 0 with|some k=>Nat.beq k i&&Nat.blt d n|none=>false)
  |none=>true)&&(D3 o).all (λj=>Nat.blt j i)&&rV n ops os (i+1)
theorem PL{n:Nat}{ops:List Oper}: ∀{os:List Oper} {i:Nat},rV n ops os i=true-> ∀k o,os[k]? =some o->(∀d,o.dst=some d->DL d ops 0=some (i+k)/\d<n)/\ ∀j∈D3 o,j<i+k
 |[],_,_,k,o,h=>by simp at h
 |o'::os,i,hw,0,o,h=>by
  simp at h;subst h;simp only [rV,HF] at hw;obtain ⟨⟨h1,h2⟩,_⟩:=hw;refine ⟨λd hd=>?_,λj hj=>?_⟩;rw [hd] at h1;simp only at h1;split at h1;rename_i k hk;simp only [HF] at h1;exact ⟨by rw [hk,H5 h1.1];rfl,by simpa [Aw] using h1.2⟩
  cases h1;have:=BF.1 h2 j hj;simpa [Aw] using this
 |o'::os,i,hw,k+1,o,h=>by
  simp at h;simp only [rV,HF] at hw;have:=PL hw.2 k o h;rw [show i+(k+1)=i+1+k by omega]
  exact this
section
variable (P:Program)(G:List (Nat×Spec))(X:Ext)(ops:List Oper)(M:List Nat)(σ0:List AV)(m0:HA)(nx0 mm:Nat)
section
variable (W:List HT)(dec:List (Nat×Bool))(i:Nat)
def P0:Operand->AV
 | .tmp t=>match DL t ops 0 with
  |none=>σ0.getD t .top
  |some k=>match Nat.testBit (M.getD i 0) k with
   |true=>Qy2 dec k (W.getD k DK).val
   |false=>match Nat.beq k i||Nat.testBit (M.getD k 0) i with
    |true=>σ0.getD t .top
    |false=> .top
 |x=>rho [] x
def R0(mask:Nat)(all:List HT):List HT->Nat->HA
 |[],_=>[]
 |o::os,j=>match Nat.testBit mask j with
  |true=>match o.add with
   |some r=>match yB mask j all 0 with
    |true=>R0 mask all os (j+1)
    |false=>(nx0+j,r)::R0 mask all os (j+1)
   |none=>R0 mask all os (j+1)
  |false=>R0 mask all os (j+1)
abbrev DT:=List HT×List (Nat×Bool)
def gN(t:Option Nat)(g:List (Nat×Bool)->VR DT):VR DT:=
 match t with
 |none=>g dec
 |some t=>match DL t ops 0 with
  |some k=>match L1 dec k with
   |some _=>g dec
   |none=>match Nat.testBit (M.getD i 0) k with
    |true=>match (W.getD k DK).val with
     | .x (.bool b)=> .branch b (g ((k,true)::dec)) (g ((k,false)::dec))
     |_=>g dec
    |false=>g dec
  |none=>g dec
end
section
variable (o:Oper)(i:Nat)(W:List HT)(dec:List (Nat×Bool))
def aA:Option (List Prop×Nat×GU):=
 match o.op with
 | .store t x y=>match P0 ops M σ0 W dec i x with
  | .ptr id off=>match Nat.ble nx0 id&&SE M mm i (id-nx0) with
   |true=>match j9 P (R0 nx0 (M.getD i 0) W W 0++m0) t (.ptr id off) (P0 ops M σ0 W dec i y) with
    |some (ns,m')=>match DN m' id with
     |some r=>some (ns,id-nx0,r)
     |none=>none
    |none=>none
   |false=>none
  |_=>none
 |_=>none
def Wa0:Option (List Prop×AV×GU×Option Nat):=
 match o.op with
 | .call c=>match c.callee,c.args.toList,c.argTypes.toList with
  | .builtin .append,[s,x],[t,t']=>match Nat.beq t t' with
   |true=>match P0 ops M σ0 W dec i s with
    | .row id=>match Nat.ble nx0 id&&Qy1 M mm i (id-nx0) with
     |true=>match RD P (nx0+i) (R0 nx0 (M.getD i 0) W W 0++m0) t (.row id) (P0 ops M σ0 W dec i x) with
      |some (ns,val,(_,r)::_)=>some (ns,val,r,some (id-nx0))
      |_=>none
     |false=>none
    | .x v=>match RD P (nx0+i) (R0 nx0 (M.getD i 0) W W 0++m0) t (.x v) (P0 ops M σ0 W dec i x) with
     |some (ns,val,(_,r)::_)=>some (ns,val,r,none)
     |_=>none
    |_=>none
   |false=>none
  |_,_,_=>none
 |_=>none
def Xw0:Option (List Prop×AV×GU):=
 match o.op with
 | .call c=>match c.callee,c.args.toList,c.argTypes.toList with
  | .builtin .append,[s,x],[t,t']=>match Nat.beq t t' with
   |true=>match P0 ops M σ0 W dec i s with
    | .row id=>match Nat.blt id nx0 with
     |true=>match yV P (nx0+i) (R0 nx0 (M.getD i 0) W W 0++m0) t id (P0 ops M σ0 W dec i x) with
      |some (ns,r)=>some (ns,.row (nx0+i),r)
      |none=>none
     |false=>none
    |_=>none
   |false=>none
  |_,_,_=>none
 |_=>none
end
def Xd6(X:Ext)(d:Nat):List Oper->Bool
 |[]=>false
 |o::os=>(match o.op with
  | .call c=>match c.callee with
   | .value (.func g)=>match bU X.C g with
    |some _=>c.args.toList.any λx=>match x with
     | .tmp t=>Nat.beq t d
     |_=>false
    |none=>false
   |_=>false
  |_=>false)||Xd6 X d os
def Xv9(X:Ext)(o:Oper)(i:Nat)(W:List HT)(dec:List (Nat×Bool)):Option (List Prop×AV×Option Nat):=
 match o.dst with
 |some d=>match Xd6 X d ops with
  |true=>match Wa0 P ops M σ0 m0 nx0 mm o i W dec with
   |some (ns,_,.row _ sz n f,eat)=>some (ns,.lst sz n f,eat)
   |_=>none
  |false=>none
 |none=>none
def Xn4(o:Oper)(i:Nat)(W:List HT)(dec:List (Nat×Bool))(next:List HT->List (Nat×Bool)->VR DT):VR DT:=
 match aop P G (nx0+i) (R0 nx0 (M.getD i 0) W W 0++m0) (P0 ops M σ0 W dec i) o.op with
 |some (ns,val,add)=> .needT ns (next (W++[⟨val,add,none,none⟩]) dec)
 |none=>match aA P ops M σ0 m0 nx0 mm o i W dec with
  |some (ns,j,r)=> .needT ns (next (W++[⟨.top,none,some (j,r),none⟩]) dec)
  |none=>match Xv9 P ops M σ0 m0 nx0 mm X o i W dec with
   |some (ns,val,eat)=> .needT ns (next (W++[⟨val,none,none,eat⟩]) dec)
   |none=>match Wa0 P ops M σ0 m0 nx0 mm o i W dec with
    |some (ns,val,r,eat)=> .needT ns (next (W++[⟨val,some r,none,eat⟩]) dec)
    |none=>match Qj9 X (nx0+i) (R0 nx0 (M.getD i 0) W W 0++m0) (P0 ops M σ0 W dec i) o.op with
     |some t=>t.det.bind λr=>next (W++[⟨r.1,r.2,none,none⟩]) dec
     |none=>match Xw0 P ops M σ0 m0 nx0 o i W dec with
      |some (ns,val,r)=> .needT ns (next (W++[⟨val,some r,none,none⟩]) dec)
      |none=> .fail
def k6:List Oper->Nat->List HT->List (Nat×Bool)->VR DT
 |[],_,W,dec=> .leaf (W,dec)
 |o::rest,i,W,dec=>match o.guard with
  |none=>gN ops M W dec i (aO o.op) λdec=>Xn4 P G X ops M σ0 m0 nx0 mm o i W dec (k6 rest (i+1))
  |some (_,want)=>gN ops M W dec i (F0 ops o) λdec=>match (match F0 ops o with|some t=>P0 ops M σ0 W dec i (.tmp t)|none=> .top) with
   | .lit b=>match b==want with
    |true=>gN ops M W dec i (aO o.op) λdec=>Xn4 P G X ops M σ0 m0 nx0 mm o i W dec (k6 rest (i+1))
    |false=>k6 rest (i+1) (W++[yQ]) dec
   | .tup _=>k6 rest (i+1) (W++[yQ]) dec
   |_=> .fail
section
variable (W:List HT)(dec:List (Nat×Bool))
def Qn6(i:Nat)(o:Oper):Prop:=
 ∃dec',(∀k d,L1 dec' k=some d->L1 dec k=some d)/\
  ((((∃ns,aop P G (nx0+i) (R0 nx0 (M.getD i 0) (W.take i) (W.take i) 0++m0) (P0 ops M σ0 (W.take i) dec' i) o.op=some (ns,(W.getD i DK).val,(W.getD i DK).add)/\(W.getD i DK).upd=none/\(W.getD i DK).eat=none/\ ∀p∈ns,p)\/
    (∃ns j r,aA P ops M σ0 m0 nx0 mm o i (W.take i) dec'=some (ns,j,r)/\W.getD i DK=⟨.top,none,some (j,r),none⟩/\ ∀p∈ns,p)\/
    (∃ns val r eat,Wa0 P ops M σ0 m0 nx0 mm o i (W.take i) dec'=some (ns,val,r,eat)/\W.getD i DK=⟨val,some r,none,eat⟩/\ ∀p∈ns,p)\/
    (∃t val,Qj9 X (nx0+i) (R0 nx0 (M.getD i 0) (W.take i) (W.take i) 0++m0) (P0 ops M σ0 (W.take i) dec' i) o.op=some t/\W.getD i DK=⟨val.1,val.2,none,none⟩/\t.sat (λr=>r=val))\/
    (∃ns val eat,Xv9 P ops M σ0 m0 nx0 mm X o i (W.take i) dec'=some (ns,val,eat)/\W.getD i DK=⟨val,none,none,eat⟩/\ ∀p∈ns,p)\/
    (∃ns val r,Xw0 P ops M σ0 m0 nx0 o i (W.take i) dec'=some (ns,val,r)/\W.getD i DK=⟨val,some r,none,none⟩/\ ∀p∈ns,p))/\
    (o.guard=none\/ ∃j want t,o.guard=some (j,want)/\F0 ops o=some t/\P0 ops M σ0 (W.take i) dec' i (.tmp t)= .lit want))\/
   (W.getD i DK=yQ/\ ∃j want t,o.guard=some (j,want)/\F0 ops o=some t/\iG want (P0 ops M σ0 (W.take i) dec' i (.tmp t))=true))
def Xk9:Prop:= ∀k d,L1 dec k=some d->k<W.length/\(W.getD k DK).val= .x (.bool d)
def PC:Prop:=Xk9 W dec/\ ∀i o,i<W.length->ops[i]? =some o->Qn6 P G X ops M σ0 m0 nx0 mm W dec i o
end
end
section
variable {P:Program}{G:List (Nat×Spec)}{X:Ext}{ops:List Oper}{M:List Nat}{σ0:List AV}{m0:HA}{nx0 mm:Nat}
theorem uR{k:Nat}{d:Bool}{dec:List (Nat×Bool)}(hno:L1 dec k=none): ∀i b,L1 dec i=some b->L1 ((k,d)::dec) i=some b:=by
 intro i b h;unfold L1;split;rename_i hb;have:k=i:=H5 hb;subst this;rw [hno] at h;cases h;exact h
theorem PC.more{W:List HT}{dec dec2:List (Nat×Bool)}(h:PC P G X ops M σ0 m0 nx0 mm W dec)(hd:Xk9 W dec2)(hs: ∀i b,L1 dec i=some b->L1 dec2 i=some b):PC P G X ops M σ0 m0 nx0 mm W dec2:=
 ⟨hd,λi o O ho=>let ⟨dec',h1,h2⟩:=h.2 i o O ho;⟨dec',λk d hk=>hs k d (h1 k d hk),h2⟩⟩
theorem xD{W:List HT}{dec:List (Nat×Bool)}{i:Nat}{t:Option Nat}{g:List (Nat×Bool)->VR DT}{R:DT->Prop}(h:(gN ops M W dec i t g).sat R)(ha:PC P G X ops M σ0 m0 nx0 mm W dec):
  ∃dec2,PC P G X ops M σ0 m0 nx0 mm W dec2/\(g dec2).sat R/\ ∀i b,L1 dec i=some b->L1 dec2 i=some b:=by
 unfold gN at h;split at h;exact ⟨dec,ha,h,λ_ _ h=>h⟩;split at h;rename_i k hk;split at h;exact ⟨dec,ha,h,λ_ _ h=>h⟩;rename_i hno;split at h;split at h;rename_i b hb;have hlt:k<W.length:=by
  rcases An k W.length with h'|h';exact h';rw [List.getD,Br h'] at hb;simp [DK] at hb
 have key: ∀d,b=d->PC P G X ops M σ0 m0 nx0 mm W ((k,d)::dec):=by
  intro d hd;refine ha.more ?_ (uR hno);intro i b' hl;unfold L1 at hl;split at hl;rename_i hki;have:k=i:=H5 hki;subst this;cases hl;exact ⟨hlt,by rw [hb,hd]⟩
  exact ha.1 i b' hl
 cases b;exact ⟨_,key false rfl,h.2 rfl,uR hno⟩;exact ⟨_,key true rfl,h.1 rfl,uR hno⟩;exact ⟨dec,ha,h,λ_ _ h=>h⟩;exact ⟨dec,ha,h,λ_ _ h=>h⟩;exact ⟨dec,ha,h,λ_ _ h=>h⟩
theorem Wi3{W:List HT}{dec2 dec3:List (Nat×Bool)}{i t:Nat}{b:Bool}(Zw5: ∀i b,L1 dec2 i=some b->L1 dec3 i=some b)(hd:Xk9 W dec3)(h:P0 ops M σ0 W dec2 i (.tmp t)= .lit b):P0 ops M σ0 W dec3 i (.tmp t)= .lit b:=by
 simp only [P0] at h ⊢;split;rename_i hw;rw [hw] at h;exact h;rename_i k hw;rw [hw] at h;simp only at h;split;rename_i hb;rw [hb] at h;simp only [Qy2] at h ⊢;cases h2:L1 dec2 k with
 |some d=>rw [h2] at h;rw [Zw5 _ _ h2];exact h
 |none=>
  rw [h2] at h;simp only at h;cases h3:L1 dec3 k with
  |none=>exact h
  |some d=>have:=(hd k d h3).2;rw [this] at h;cases h
 rename_i hb;rw [hb] at h;exact h
theorem PC.push{W:List HT}{dec:List (Nat×Bool)}{o:Oper}{c:HT}(h:PC P G X ops M σ0 m0 nx0 mm W dec)(ho:ops[W.length]? =some o)(Z:Qn6 P G X ops M σ0 m0 nx0 mm (W++[c]) dec W.length o):
  PC P G X ops M σ0 m0 nx0 mm (W++[c]) dec:=by
 have Qw1: ∀i,i<W.length->(W++[c]).getD i DK=W.getD i DK:=λi O=>by simp [List.getD,Ce,O]
 refine ⟨λk d hk=>?_,λi o' O ho'=>?_⟩;obtain ⟨h1,h2⟩:=h.1 k d hk;exact ⟨by simp;omega,by rw [Qw1 k h1];exact h2⟩
 by_cases hlt:i<W.length;obtain ⟨dec',h1,h2⟩:=h.2 i o' hlt ho';refine ⟨dec',h1,?_⟩;have ht:(W++[c]).take i=W.take i:=by rw [List.take_append_of_le_length VO]
 rw [ht,Qw1 i hlt];exact h2;have:i=W.length:=by simp at O;omega
 subst this;rw [ho] at ho';cases ho';exact Z
theorem wY{R:DT->Prop}: ∀(rest:List Oper) (W:List HT) (dec:List (Nat×Bool)) (hh:List Oper),ops=hh++rest++(ops.drop (hh.length+rest.length))->hh.length=W.length->(k6 P G X ops M σ0 m0 nx0 mm rest W.length W dec).sat R->
  PC P G X ops M σ0 m0 nx0 mm W dec-> ∃outs' dec',R (outs',dec')/\PC P G X ops M σ0 m0 nx0 mm outs' dec'/\outs'.length=W.length+rest.length
 |[],W,dec,hh,_,_,h,ha=>⟨W,dec,h,ha,VY⟩
 |o::rest,W,dec,hh,M7,D5,h,ha=>by
  have ho:ops[W.length]? =some o:=by
   rw [M7,List.append_assoc,←D5];simp
  have hops':ops=(hh++[o])++rest++(ops.drop ((hh++[o]).length+rest.length)):=by
   have e1:(hh++[o]).length+rest.length=hh.length+(o::rest).length:=by simp;omega
   rw [e1];simpa using M7
  have run: ∀dec2,PC P G X ops M σ0 m0 nx0 mm W dec2->(Xn4 P G X ops M σ0 m0 nx0 mm o W.length W dec2 (k6 P G X ops M σ0 m0 nx0 mm rest (W.length+1))).sat R->
    (o.guard=none\/ ∃j want t,o.guard=some (j,want)/\F0 ops o=some t/\P0 ops M σ0 W dec2 W.length (.tmp t)= .lit want)->
    ∃outs' dec',R (outs',dec')/\PC P G X ops M σ0 m0 nx0 mm outs' dec'/\outs'.length=W.length+(o::rest).length:=by
   intro dec2 ha2 h2 hg;unfold Xn4 at h2;have fin: ∀c:HT,Qn6 P G X ops M σ0 m0 nx0 mm (W++[c]) dec2 W.length o->(k6 P G X ops M σ0 m0 nx0 mm rest (W.length+1) (W++[c]) dec2).sat R->
     ∃outs' dec',R (outs',dec')/\PC P G X ops M σ0 m0 nx0 mm outs' dec'/\outs'.length=W.length+(o::rest).length:=by
    intro c vI h3;have D7:=ha2.push ho vI;have hl:(W++[c]).length=W.length+1:=VY;rw [←hl] at h3;obtain ⟨outs',dec',r1,r2,r3⟩:=wY rest _ dec2 (hh++[o]) hops' (by simp [D5]) h3 D7
    exact ⟨outs',dec',r1,r2,by rw [r3];simp;omega⟩
   split at h2;rename_i ns val add Xs5
   replace h2:=VR.sat_needT h2
   refine fin ⟨val,add,none,none⟩ ⟨dec2,λ_ _ h=>h,.inl ⟨.inl ⟨ns,?_,?_,?_,GI h2.1⟩,?_⟩⟩ h2.2;simpa [List.getD] using Xs5;simp [List.getD];simp [List.getD];simpa using hg;split at h2;rename_i ns j r hst
   replace h2:=VR.sat_needT h2
   refine fin ⟨.top,none,some (j,r),none⟩ ⟨dec2,λ_ _ h=>h,.inl ⟨.inr (.inl ⟨ns,j,r,?_,?_,GI h2.1⟩),?_⟩⟩ h2.2;simpa using hst;simp [List.getD];simpa using hg;split at h2;rename_i ns val eat hap
   replace h2:=VR.sat_needT h2
   refine fin ⟨val,none,none,eat⟩ ⟨dec2,λ_ _ h=>h,.inl ⟨.inr (.inr (.inr (.inr (.inl ⟨ns,val,eat,?_,?_,GI h2.1⟩)))),?_⟩⟩ h2.2;simpa using hap;simp [List.getD];simpa using hg;split at h2;rename_i ns val r eat hap
   replace h2:=VR.sat_needT h2
   refine fin ⟨val,some r,none,eat⟩ ⟨dec2,λ_ _ h=>h,.inl ⟨.inr (.inr (.inl ⟨ns,val,r,eat,?_,?_,GI h2.1⟩)),?_⟩⟩ h2.2;simpa using hap;simp [List.getD];simpa using hg;split at h2;rename_i t hcd;obtain ⟨val,h3,h4⟩:=VR.det_sat (VR.sat_bind h2);refine fin ⟨val.1,val.2,none,none⟩ ⟨dec2,λ_ _ h=>h,.inl ⟨.inr (.inr (.inr (.inl ⟨t,val,?_,?_,h3⟩))),?_⟩⟩ h4;simpa using hcd;simp [List.getD];simpa using hg;split at h2;rename_i ns val r hap
   replace h2:=VR.sat_needT h2
   refine fin ⟨val,some r,none,none⟩ ⟨dec2,λ_ _ h=>h,.inl ⟨.inr (.inr (.inr (.inr (.inr ⟨ns,val,r,?_,?_,GI h2.1⟩)))),?_⟩⟩ h2.2;simpa using hap;simp [List.getD];simpa using hg;exact h2.elim
  have skip: ∀{dec2:List (Nat×Bool)} {j:Nat} {want:Bool} {t:Nat},PC P G X ops M σ0 m0 nx0 mm W dec2->(k6 P G X ops M σ0 m0 nx0 mm rest (W.length+1) (W++[yQ]) dec2).sat R->o.guard=some (j,want)->F0 ops o=some t->
    iG want (P0 ops M σ0 W dec2 W.length (.tmp t))=true-> ∃outs' dec',R (outs',dec')/\PC P G X ops M σ0 m0 nx0 mm outs' dec'/\outs'.length=W.length+(o::rest).length:=by
   intro dec2 j want t ha2 h2 hg hs hb;have vI:Qn6 P G X ops M σ0 m0 nx0 mm (W++[yQ]) dec2 W.length o:=by
    refine ⟨dec2,λ_ _ h=>h,.inr ⟨by simp [List.getD],j,want,t,hg,hs,?_⟩⟩
    simpa using hb
   have D7:=ha2.push ho vI;have hl:(W++[yQ]).length=W.length+1:=VY;rw [←hl] at h2;obtain ⟨outs',dec',r1,r2,r3⟩:=wY rest _ dec2 (hh++[o]) hops' (by simp [D5]) h2 D7
   exact ⟨outs',dec',r1,r2,by rw [r3];simp;omega⟩
  unfold k6 at h;split at h;rename_i hg;obtain ⟨dec2,ha2,h2,_⟩:=xD h ha;exact run dec2 ha2 h2 (.inl hg);rename_i j want hg;obtain ⟨dec2,ha2,h2,_⟩:=xD h ha;cases hs:F0 ops o with
  |none=>simp only [hs] at h2;exact h2.elim
  |some t=>
   simp only [hs] at h2;split at h2;rename_i b hb;split at h2;rename_i hbw;have hbw':b=want:=by simpa using hbw
   subst hbw';obtain ⟨dec3,ha3,h3,Zw5⟩:=xD h2 ha2;exact run dec3 ha3 h3 (.inr ⟨j,b,t,hg,hs,Wi3 Zw5 ha3.1 hb⟩);rename_i hbw;have hbw':b≠want:=by simpa using hbw
   exact skip ha2 h2 hg hs (by rw [hb];simpa [iG] using hbw')
   rename_i l hb;exact skip ha2 h2 hg hs (by rw [hb];rfl)
   exact h2.elim
end
def bZ(M:List Nat)(k:Nat):Bool:=Nat.beq (Nat.land (M.getD k 0) (2^k-1)) (2^k-1)
theorem MH{M:List Nat}{k:Nat}(h:bZ M k=true){j:Nat}(hj:j<k):(M.getD k 0).testBit j=true:=by
 have h1:Nat.land (M.getD k 0) (2^k-1)=2^k-1:=H5 h;have h2:((M.getD k 0) &&& (2^k-1)).testBit j=(2^k-1).testBit j:=congrArg (·.testBit j) h1;rw [Nat.testBit_and,Nat.testBit_two_pow_sub_one] at h2;simpa [hj] using h2
def qI(M:List Nat):Nat->Nat
 | 0=>0
 |k+1=>match bZ M k with
  |true=>qI M k
  |false=>k+1
theorem bE(M:List Nat): ∀n,qI M n<=n
 | 0=>Am _
 |k+1=>by
        unfold qI;split;exact Nat.le_succ_of_le (bE M k);exact Am _
theorem kT(M:List Nat): ∀n k,qI M n<=k->k<n->bZ M k=true
 | 0,_,_,h=>VO
 |n+1,k,h,hk=>by
  unfold qI at h;split at h;rename_i hf;by_cases he:k=n;subst he;exact hf;exact kT M n k h VO;omega
section
variable (ops:List Oper)(mm:Nat)(W:List HT)(dec:List (Nat×Bool))
def Xt0(t:Nat)(a:AV):AV:=match DL t ops 0 with
 |some k=>match Nat.blt k mm with
  |true=>Qy2 dec k (W.getD k DK).val
  |false=>a
 |none=>a
def dP:List AV->Nat->List AV
 |[],_=>[]
 |a::l,t=>Xt0 ops mm W dec t a::dP l (t+1)
theorem wW: ∀(l:List AV) (t:Nat),(dP ops mm W dec l t).length=l.length
 |[],_=>rfl
 |a::l,t=>by simp [dP,wW l]
theorem MP: ∀(l:List AV) (t i:Nat),(dP ops mm W dec l t)[i]? =(l[i]?).map (Xt0 ops mm W dec (t+i))
 |[],_,_=>rfl
 |a::l,t,0=>by simp [dP]
 |a::l,t,i+1=>by simp only [dP,List.getElem?_cons_succ];rw [MP l (t+1) i,show t+1+i=t+(i+1) by omega]
end
def jW(W:List HT)(j:Nat):Option GU:=
 match W with
 |[]=>none
 |c::os=>match c.upd with
  |some (k,r)=>match Nat.beq k j with
   |true=>some r
   |false=>jW os j
  |none=>jW os j
theorem zR{j:Nat}{r:GU}: ∀{W:List HT},jW W j=some r-> ∃(i:Nat) (c:HT),W[i]? =some c/\c.upd=some (j,r)
 |[],h=>by simp [jW] at h
 |c::os,h=>by
  unfold jW at h;split at h;rename_i k r' hu;split at h;rename_i hb;cases h;have:k=j:=H5 hb;exact ⟨0,c,rfl,by rw [hu,this]⟩
  obtain ⟨i,c',h1,h2⟩:=zR h;exact ⟨i+1,c',by simpa using h1,h2⟩
  obtain ⟨i,c',h1,h2⟩:=zR h;exact ⟨i+1,c',by simpa using h1,h2⟩
theorem zS{j:Nat}: ∀{W:List HT},jW W j=none-> ∀(i:Nat) (c:HT) (r:GU),W[i]? =some c->c.upd≠some (j,r)
 |[],_,i,c,r,h=>by simp at h
 |c0::os,h,i,c,r,hc=>by
  unfold jW at h;cases i with
  |zero=>
   simp at hc;subst hc;intro hu;rw [hu] at h;simp at h
  |succ i=>
   simp at hc;split at h;split at h;cases h;exact zS h i c r hc;exact zS h i c r hc
def Qz5(j:Nat):List HT->Bool
 |[]=>false
 |c::t=>(match c.eat with
  |some q=>Nat.beq q j
  |none=>false)||Qz5 j t
theorem rK{j:Nat}: ∀{l:List HT} {i:Nat} {c:HT},l[i]? =some c->c.eat=some j->Qz5 j l=true
 |[],_,_,h,_=>by simp at h
 |c0::t,i,c,h,he=>by
  unfold Qz5;cases i with
  |zero=>simp at h;subst h;rw [he];simp
  |succ i=>rw [rK (l:=t) (i:=i) (by simpa using h) he];simp
def L5(nx0:Nat)(all:List HT):List HT->Nat->HA
 |[],_=>[]
 |o::os,j=>match o.add with
  |some r=>match Qz5 j all with
   |true=>L5 nx0 all os (j+1)
   |false=>(nx0+j,match jW all j with|some r'=>r'|none=>r)::L5 nx0 all os (j+1)
  |none=>L5 nx0 all os (j+1)
theorem yG{nx0:Nat}{all:List HT}: ∀{W:List HT} {j0:Nat} {p:Nat×GU},p∈L5 nx0 all W j0-> ∃j,∃c:HT,∃r,W[j]? =some c/\p.1=nx0+(j0+j)/\c.add=some r/\p.2=(match jW all (j0+j) with|some r'=>r'|none=>r)/\Qz5 (j0+j) all=false
 |[],_,_,h=>by simp [L5] at h
 |c::W,j0,p,h=>by
  have tl:p∈L5 nx0 all W (j0+1)-> ∃j,∃c':HT,∃r,(c::W)[j]? =some c'/\p.1=nx0+(j0+j)/\c'.add=some r/\p.2=(match jW all (j0+j) with|some r'=>r'|none=>r)/\Qz5 (j0+j) all=false:=by
   intro h;obtain ⟨j,c',r,h1,h2,h3,h4,h5⟩:=yG h;refine ⟨j+1,c',r,by simpa using h1,?_,h3,?_,?_⟩
   rw [show j0+(j+1)=j0+1+j by omega];exact h2
   rw [show j0+(j+1)=j0+1+j by omega];exact h4
   rw [show j0+(j+1)=j0+1+j by omega];exact h5
  unfold L5 at h;split at h;rename_i r Z;split at h;exact tl h;rename_i ha;rcases GT.1 h with rfl|h;exact ⟨0,c,r,rfl,rfl,Z,rfl,ha⟩;exact tl h;exact tl h
def SH:GU->Bool
 | .aka _ _ _ _ _=>true
 |_=>false
theorem zN{r:GU}(h:SH r=false)(k:Nat):D4 k r=false:=by
 cases r<;>first|rfl|(simp [SH] at h)
def Xe0(c:HT):Option Nat:=match c.add with
 |some (.aka q _ _ _ _)=>some q
 |_=>none
def bD(q:Nat):List HT->Bool
 |[]=>true
 |c::t=>(match Xe0 c with
  |some k=> !Nat.beq k q
  |none=>true)&&bD q t
def bA:List HT->Bool
 |[]=>true
 |c::t=>(match Xe0 c with
  |some q=>bD q t
  |none=>true)&&bA t
theorem Qk8{c:HT}{r:GU}{q:Nat}(h:c.add=some r)(hq:D4 q r=true):Xe0 c=some q:=by
 unfold Xe0;rw [h];cases r with
 |aka q' T sz n f=>
  have:q'=q:=H5 hq;rw [this]
 |_=>simp [D4] at hq
def bG(nx0:Nat)(c:HT):Bool:=(match c.upd with
 |some (_,r)=> !SH r
 |none=>true)&&(match c.add with
 |some (.aka q _ _ _ _)=>Nat.blt q nx0
 |_=>true)
def gC(nx0:Nat)(m:HA)(W:List HT):Bool:=m.all (λp=> !SH p.2)&&(W.all (bG nx0)&&bA W)
structure Zj4 (nx0:Nat) (m:HA) (W:List HT):Prop where
 m0: ∀p∈m,SH p.2=false
 upd: ∀(i:Nat) (c:HT) (j:Nat) (r:GU),W[i]? =some c->c.upd=some (j,r)->SH r=false
 low: ∀(i:Nat) (c:HT) (r:GU) (q:Nat),W[i]? =some c->c.add=some r->D4 q r=true->q<nx0
 one: ∀(i j:Nat) (ci cj:HT) (ri rj:GU) (q:Nat),W[i]? =some ci->W[j]? =some cj->ci.add=some ri->cj.add=some rj->D4 q ri=true->D4 q rj=true->i=j
theorem kS{q:Nat}: ∀{l:List HT},bD q l=true-> ∀(i:Nat) (c:HT),l[i]? =some c->Xe0 c≠some q
 |[],_,i,c,h=>by simp at h
 |c0::t,h,i,c,hc=>by
  simp only [bD,HF] at h;cases i with
  |zero=>
   simp at hc;subst hc;intro he;have:=h.1;rw [he] at this;simp at this
  |succ i=>exact kS h.2 i c (by simpa using hc)
theorem S8: ∀{l:List HT},bA l=true-> ∀(i j:Nat) (ci cj:HT) (ri rj:GU) (q:Nat),l[i]? =some ci->l[j]? =some cj->ci.add=some ri->cj.add=some rj->D4 q ri=true->D4 q rj=true->i=j
 |[],_,i,_,ci,_,_,_,_,h,_,_,_,_,_=>by simp at h
 |c0::t,h,i,j,ci,cj,ri,rj,q,h1,h2,h3,h4,h5,h6=>by
  simp only [bA,HF] at h;have e1:=Qk8 h3 h5;have e2:=Qk8 h4 h6;cases i with
  |zero=>
   cases j with
   |zero=>rfl
   |succ j=>
    simp at h1;subst h1;have:=h.1;rw [e1] at this;exact absurd e2 (kS this j cj (by simpa using h2))
  |succ i=>
   cases j with
   |zero=>
    simp at h2;subst h2;have:=h.1;rw [e2] at this;exact absurd e1 (kS this i ci (by simpa using h1))
   |succ j=>rw [S8 h.2 i j ci cj ri rj q (by simpa using h1) (by simpa using h2) h3 h4 h5 h6]
theorem nS{nx0:Nat}{m:HA}{W:List HT}(h:gC nx0 m W=true):Zj4 nx0 m W:=by
 simp only [gC,HF] at h;obtain ⟨h1,h2,h3⟩:=h;have hl: ∀(i:Nat) (c:HT),W[i]? =some c->bG nx0 c=true:=λi c hc=>BF.1 h2 c (F9 hc);refine ⟨λp hp=>by simpa using BF.1 h1 p hp,λi c j r hc hu=>?_,λi c r q hc Z hq=>?_,S8 h3⟩
 have:=hl i c hc;simp only [bG,HF] at this;have h:=this.1;rw [hu] at h;simpa using h;have:=hl i c hc;simp only [bG,HF] at this;have h:=this.2;rw [Z] at h;cases r with
 |aka q' T sz n f=>
  simp only [Aw] at h;have:q'=q:=H5 hq;omega
 |_=>simp [D4] at hq
def Xn9(P:Program)(G:List (Nat×Spec))(X:Ext)(ops:List Oper)(s:St):VR St:=
 match rV s.σ.length ops ops 0 with
 |false=> .fail
 |true=>(k6 P G X ops (HM ops []) s.σ s.m s.nx (qI (HM ops []) ops.length) (ops.take (qI (HM ops []) ops.length)) 0 [] []).bind λp=>match gC s.nx s.m p.1 with
  |false=> .fail
  |true=>Wi6 P G X ops (ops.drop (qI (HM ops []) ops.length))
   {s with σ:=dP ops (qI (HM ops []) ops.length) p.1 p.2 s.σ 0,m:=L5 s.nx p.1 p.1 0++s.m,nx:=s.nx+qI (HM ops []) ops.length}
theorem T8{p q:Nat->Bool}: ∀{l:List Nat},(∀i∈l,q i=true->p i=true)-> ∀{i},i∈l->p i=true->q i=false->l.countP q<l.countP p
 |[],_,_,h,_,_=>by cases h
 |a::l,hle,i,O,hp,hq=>by
  have hle':l.countP q<=l.countP p:=List.countP_mono_left λx hx=>hle x (D1 _ hx);simp only [List.countP_cons];rcases GT.1 O with rfl|O;rw [hp,hq];simp;omega;have:=T8 (λx hx=>hle x (D1 _ hx)) O hp hq;have h2:(if q a=true then 1 else 0)<=(if p a=true then 1 else 0):=by
   by_cases hqa:q a=true;rw [hqa,hle a GN hqa];exact Am _;simp [hqa]
  omega
def unl(n:Nat)(L:Array Bool):Nat:=(List.range n).countP λi=> !L.getD i true
theorem D0{ops:Array Oper}{L:Array Bool}{i:Nat}(h:i∈Region.ready .any ops L):i<ops.size/\L.getD i true=false/\ ∃o,ops[i]? =some o/\ ∀j∈D3 o,inS L j:=by
 unfold Region.ready at h;rw [List.mem_filter] at h;obtain ⟨h1,h2⟩:=h;simp only [HF,Ax,List.mem_range] at h1 h2;obtain ⟨h3,h4⟩:=h2;refine ⟨h1,h3,ops[i],by simp [h1],λj hj=>?_⟩
 have ho:ops[i]? =some ops[i]:=by simp [h1]
 rw [ho] at h4;simp only [Bt,GW] at h4;simp only [D3,List.mem_map,List.mem_filter] at hj;obtain ⟨ed,⟨he1,he2⟩,rfl⟩:=hj;have:=Array.all_eq_true_iff_forall_mem.1 h4 ed (by simpa using he1)
 simpa [he2,inS] using this
theorem CI{ro:Option Nat}{n:Nat}{P:Program}{ops:Array Oper}{Q:Exit->Act->World->Prop}(Inv:Array Bool->Act->World->Prop)
  (step: ∀L a w i,Inv L a w->i∈Region.ready .any ops L->wpOpIn (fr ro) n P ops Q i (λa' w'=>Inv (L.setIfInBounds i true) a' w') a w)
  (done: ∀L a w,Inv L a w->Region.ready .any ops L=[]->Q .normal a w)(hsz: ∀L a w,Inv L a w->L.size=ops.size):
  ∀(fuel:Nat) (L:Array Bool) (a:Act) (w:World),Inv L a w->unl ops.size L<=fuel->wpAnyIn (fr ro) n P .any ops Q fuel L a w
 | 0,L,a,w,hI,hu=>by
  have Z:Region.ready .any ops L=[]:=by
   rw [List.eq_nil_iff_forall_not_mem];intro i O;obtain ⟨h1,h2,_⟩:=D0 O;have:0<unl ops.size L:=by
    unfold unl;rw [List.countP_pos_iff];exact ⟨i,List.mem_range.2 h1,by rw [h2];rfl⟩
   omega
  exact ⟨Z,done L a w hI Z⟩
 |fuel+1,L,a,w,hI,hu=>by
  refine ⟨done L a w hI,λi O=>?_⟩;obtain ⟨h1,h2,_⟩:=D0 O;have hLs:=hsz L a w hI;refine wpOpIn_mono (λa' w' hI'=>CI Inv step done hsz fuel _ a' w' hI' ?_) (step L a w i hI O);have:unl ops.size (L.setIfInBounds i true)<unl ops.size L:=by
   unfold unl;refine T8 (λj hj hq=>?_) (List.mem_range.2 h1) (by rw [h2];rfl) ?_
   by_cases hij:i=j;subst hij;simp [L0,hLs,h1] at hq;simpa [L0,Array.getElem?_setIfInBounds,hij] using hq;simp [L0,hLs,h1]
  omega
theorem UU{L:Array Bool}{i k:Nat}(O:i<L.size):inS (L.setIfInBounds i true) k↔k=i\/inS L k:=by
 unfold inS;simp only [L0,Array.getElem?_setIfInBounds];by_cases h:i=k;subst h;simp [O];simp [h,Ne.symm h]
theorem qH{L:Array Bool}{i:Nat}(O:i<L.size)(h:L.getD i true=false): ¬inS L i:=by
 unfold inS;simp [L0,O] at h ⊢;exact h
theorem N8{nx0 mask:Nat}{all:List HT}: ∀{W:List HT} {j0:Nat} {p:Nat×GU},p∈R0 nx0 mask all W j0-> ∃j,∃c:HT,W[j]? =some c/\mask.testBit (j0+j)=true/\p.1=nx0+(j0+j)/\c.add=some p.2/\yB mask (j0+j) all 0=false
 |[],_,_,h=>by simp [R0] at h
 |c::W,j0,p,h=>by
  have tl:p∈R0 nx0 mask all W (j0+1)-> ∃j,∃c':HT,(c::W)[j]? =some c'/\mask.testBit (j0+j)=true/\p.1=nx0+(j0+j)/\c'.add=some p.2/\yB mask (j0+j) all 0=false:=by
   intro h;obtain ⟨j,c',h1,h2,h3,h4,h5⟩:=N8 h;exact ⟨j+1,c',by simpa using h1,by rw [show j0+(j+1)=j0+1+j by omega];exact h2,by rw [show j0+(j+1)=j0+1+j by omega];exact h3,h4,by rw [show j0+(j+1)=j0+1+j by omega];exact h5⟩
  unfold R0 at h;split at h;rename_i hb;split at h;rename_i r Z;split at h;exact tl h;rename_i hea;rcases GT.1 h with rfl|h;exact ⟨0,c,rfl,by simpa using hb,rfl,Z,hea⟩
  exact tl h;exact tl h;exact tl h
section
variable {P:Program}{G:List (Nat×Spec)}{X:Ext}{ops:Array Oper}{c:Cx}{w0:World}{T:Nat->Prop}{s0:St}{W:List HT}{dec:List (Nat×Bool)}
def FE(ops:List Oper)(σ0:List AV)(W:List HT)(L:Array Bool)(t:Nat):AV:=match DL t ops 0 with
 |some k=>if L.getD k false=true then (W.getD k DK).val else σ0.getD t .top
 |none=>σ0.getD t .top
structure gE (ops:Array Oper) (c:Cx) (w0:World) (T:Nat->Prop) (s0:St) (W:List HT) (mm:Nat) (L:Array Bool) (a:Act) (w:World):Prop where
 size:L.size=ops.size
 dc:DC ops.toList L
 lt: ∀k,inS L k->k<mm
 rel: ∃e,GB e w0.heap.size w/\Below w0.heap.size w0 w/\G5 e s0.m w/\(∀j c,inS L j->W[j]? =some c-> ∀r,c.add=some r->(∀i ci,inS L i->W[i]? =some ci->ci.eat≠some j)-> ∃r'',GM e w (s0.nx+j) r''/\(∀i ci r',inS L i->W[i]? =some ci->ci.upd=some (j,r')->r''=r')/\((∀i ci r',inS L i->W[i]? =some ci->ci.upd≠some (j,r'))->r''=r))/\
  (∀k,e.live k->k<s0.nx\/ ∃i,inS L i/\k=s0.nx+i)/\((∀b,T b->b<w0.heap.size/\ ¬e.ro b)/\Xt c e s0.sv a.defers w)/\a.tmps.size=s0.σ.length/\ ∀t v,a.tmps[t]? =some v->Rep e w (FE ops.toList s0.σ W L t) v
theorem Rep.litOf{e:UP}{w:World}{d:Bool}{v:Value}(h:Rep e w (.x (.bool d)) v):Rep e w (.lit d) v:=by rw [h.x_inv];exact .lit d
section
variable {M:List Nat}
theorem rX{mm:Nat}{σ0:List AV}{m0:HA}{nx0:Nat}{opsL:List Oper}{o:Oper}{i j:Nat}{r:GU}{ns:List Prop}{W:List HT}{dec:List (Nat×Bool)}(h:aA P opsL M σ0 m0 nx0 mm o i W dec=some (ns,j,r)):
  ∃t x y off m',o.op= .store t x y/\P0 opsL M σ0 W dec i x= .ptr (nx0+j) off/\SE M mm i j=true/\j9 P (R0 nx0 (M.getD i 0) W W 0++m0) t (.ptr (nx0+j) off) (P0 opsL M σ0 W dec i y)=some (ns,m')/\DN m' (nx0+j)=some r:=by
 unfold aA at h;split at h;rename_i t x y ho;split at h;rename_i id off hx;split at h;rename_i hb;simp only [HF] at hb;have hle:=wD hb.1;split at h;rename_i ns' m' hst;split at h;rename_i r' hg;simp only [HL,FI] at h;obtain ⟨rfl,rfl,rfl⟩:=h;have e1:nx0+(id-nx0)=id:=VO;exact ⟨t,x,y,off,m',ho,by rw [e1];exact hx,hb.2,by rw [e1];exact hst,by rw [e1];exact hg⟩
 cases h;cases h;cases h;cases h;cases h
theorem Wf4{σ0:List AV}{m0:HA}{nx0 mm:Nat}{opsL:List Oper}(D7:PC P G X opsL M σ0 m0 nx0 mm W dec){i j:Nat}{c:HT}{r:GU}(hc:W[i]? =some c)(ho:i<opsL.length)(hu:c.upd=some (j,r)):SE M mm i j=true:=by
 have O:i<W.length:=(RA.1 hc).1;have hg:W.getD i DK=c:=by simp [List.getD,hc]
 obtain ⟨dec',_,h|h⟩:=D7.2 i opsL[i] O (D8 ho);rcases h.1 with ⟨ns,_,hn,_⟩|⟨ns,j',r',hst,he,_⟩|⟨ns,val,r',eat,hst,he,_⟩|⟨t,val,_,he,_⟩|⟨ns,val,eat,_,he,_⟩|⟨ns,val,r',_,he,_⟩;rw [hg,hu] at hn;cases hn;rw [hg] at he;subst he;simp only [HL,FI] at hu;obtain ⟨rfl,rfl⟩:=hu;obtain ⟨_,_,_,_,_,_,_,hl,_⟩:=rX hst;exact hl;rw [hg] at he;subst he;cases hu;rw [hg] at he;subst he;cases hu;rw [hg] at he;subst he;cases hu;rw [hg] at he;subst he;cases hu;rw [hg] at h;rw [h.1] at hu;cases hu
theorem vD{mm:Nat}{σ0:List AV}{m0:HA}{nx0:Nat}{opsL:List Oper}{o:Oper}{i:Nat}{val:AV}{r:GU}{eat:Option Nat}{ns:List Prop}{W:List HT}{dec:List (Nat×Bool)}(h:Wa0 P opsL M σ0 m0 nx0 mm o i W dec=some (ns,val,r,eat)):
  ∃c s x t tl,o.op= .call c/\c.callee= .builtin .append/\c.args.toList=[s,x]/\c.argTypes.toList=[t,t]/\RD P (nx0+i) (R0 nx0 (M.getD i 0) W W 0++m0) t (P0 opsL M σ0 W dec i s) (P0 opsL M σ0 W dec i x)=some (ns,val,(nx0+i,r)::tl)/\
   ((∃j,eat=some j/\P0 opsL M σ0 W dec i s= .row (nx0+j)/\Qy1 M mm i j=true)\/(eat=none/\ ∃v,P0 opsL M σ0 W dec i s= .x v)):=by
 have hid: ∀{id:Nat} {m m':HA} {t:TypeId} {s x v:AV} {ns:List Prop} {p:Nat} {r:GU} {tl:HA},RD P id m t s x=some (ns,v,(p,r)::tl)->p=id:=by
  intro id m m' t s x v ns p r tl h;unfold RD at h
  repeat' split at h
  all_goals first|(simp only [HL,FI,List.cons.injEq] at h;exact h.2.2.1.1.symm)|cases h
 unfold Wa0 at h;split at h;rename_i c ho;split at h;rename_i s x t t' hc ha hta;split at h;rename_i htt;have:t=t':=H5 htt;subst this;split at h;rename_i id hs;split at h;rename_i hb;simp only [HF] at hb;have hle:=wD hb.1;split at h;rename_i ns' v' p r' tl hap;simp only [HL,FI] at h;obtain ⟨rfl,rfl,rfl,rfl⟩:=h;have hp:=hid (m':=[]) hap;subst hp;exact ⟨c,s,x,t,tl,ho,hc,ha,hta,by rw [hs];exact hap,.inl ⟨id-nx0,rfl,by rw [hs];congr 1;omega,hb.2⟩⟩
 cases h;cases h;rename_i v hs;split at h;rename_i ns' v' p r' tl hap;simp only [HL,FI] at h;obtain ⟨rfl,rfl,rfl,rfl⟩:=h;have hp:=hid (m':=[]) hap;subst hp;exact ⟨c,s,x,t,tl,ho,hc,ha,hta,by rw [hs];exact hap,.inr ⟨rfl,v,hs⟩⟩
 cases h;cases h;cases h;cases h;cases h
theorem TI{mm:Nat}{σ0:List AV}{m0:HA}{nx0:Nat}{opsL:List Oper}{o:Oper}{i:Nat}{val:AV}{eat:Option Nat}{ns:List Prop}{W:List HT}{dec:List (Nat×Bool)}(h:Xv9 P opsL M σ0 m0 nx0 mm X o i W dec=some (ns,val,eat)):
  ∃v0 T sz n f,Wa0 P opsL M σ0 m0 nx0 mm o i W dec=some (ns,v0,.row T sz n f,eat)/\val= .lst sz n f:=by
 unfold Xv9 at h;split at h;split at h;split at h;rename_i ns' v0 T sz n f eat' hap;simp only [HL,FI] at h;obtain ⟨rfl,rfl,rfl⟩:=h;exact ⟨v0,T,sz,n,f,hap,rfl⟩;cases h;cases h;cases h
theorem Qz9{σ0:List AV}{m0:HA}{nx0:Nat}{opsL:List Oper}{o:Oper}{i:Nat}{val:AV}{r:GU}{ns:List Prop}{W:List HT}{dec:List (Nat×Bool)}(h:Xw0 P opsL M σ0 m0 nx0 o i W dec=some (ns,val,r)):
  ∃c s x t q,o.op= .call c/\c.callee= .builtin .append/\c.args.toList=[s,x]/\c.argTypes.toList=[t,t]/\P0 opsL M σ0 W dec i s= .row q/\q<nx0/\val= .row (nx0+i)/\
   yV P (nx0+i) (R0 nx0 (M.getD i 0) W W 0++m0) t q (P0 opsL M σ0 W dec i x)=some (ns,r):=by
 unfold Xw0 at h;split at h;rename_i c ho;split at h;rename_i s x t t' hc ha hta;split at h;rename_i htt;have:t=t':=H5 htt;subst this;split at h;rename_i id hs;split at h;rename_i hb;split at h;rename_i ns' r' hap;simp only [HL,FI] at h;obtain ⟨rfl,rfl,rfl⟩:=h;exact ⟨c,s,x,t,id,ho,hc,ha,hta,hs,by simpa [Aw] using hb,rfl,hap⟩
 cases h;cases h;cases h;cases h;cases h;cases h
end
theorem b9{id:Nat}{m m':HA}{t:TypeId}{s x val:AV}{ns:List Prop}(h:RD P id m t s x=some (ns,val,m')):val= .row id:=by
 unfold RD at h;split at h;split at h;split at h;split at h;split at h;simp only [HL,FI] at h;exact h.2.1.symm;cases h;cases h;cases h;cases h;cases h
theorem Xa4{M:List Nat}{σ0:List AV}{m0:HA}{nx0 mm:Nat}{opsL:List Oper}(D7:PC P G X opsL M σ0 m0 nx0 mm W dec){i j:Nat}{c:HT}(hc:W[i]? =some c)(ho:i<opsL.length)(hu:c.eat=some j):Qy1 M mm i j=true:=by
 have O:i<W.length:=(RA.1 hc).1;have hg:W.getD i DK=c:=by simp [List.getD,hc]
 obtain ⟨dec',_,h|h⟩:=D7.2 i opsL[i] O (D8 ho);rcases h.1 with ⟨ns,_,_,hn,_⟩|⟨ns,j',r',hst,he,_⟩|⟨ns,val,r',eat,hst,he,_⟩|⟨t,val,_,he,_⟩|⟨ns,val,eat,hsz,he,_⟩|⟨ns,val,r',_,he,_⟩;rw [hg,hu] at hn;cases hn;rw [hg] at he;subst he;cases hu;rw [hg] at he;subst he;simp only at hu;subst hu;obtain ⟨_,_,_,_,_,_,_,_,_,_,h|h⟩:=vD hst;obtain ⟨j',h1,_,h3⟩:=h;cases h1;exact h3;exact absurd h.1 VY;rw [hg] at he;subst he;cases hu;rw [hg] at he;subst he;simp only at hu;subst hu;obtain ⟨_,_,_,_,_,hst,_⟩:=TI hsz;obtain ⟨_,_,_,_,_,_,_,_,_,_,h|h⟩:=vD hst;obtain ⟨j',h1,_,h3⟩:=h;cases h1;exact h3;exact absurd h.1 VY;rw [hg] at he;subst he;cases hu;rw [hg] at h;rw [h.1] at hu;cases hu
theorem Qa7{X:Ext}(hXc:(∀p∈X.C,Enters P p.1/\ ∀avs t,p.2 avs=some t->US P p.1 avs t)/\(∀p∈X.F,Enters P p.1/\ ∀avs ns T sz n g,p.2 avs=some (ns,T,sz,n,g)->(∀q∈ns,q)->DV P p.1 avs T sz n g)/\ ∀p∈X.D,Enters P p.1/\ ∀avs t,p.2 avs=some t->B0 P p.1 avs t){e:UP}{B:Nat}{w:World}{m:HA}{id:Nat}{ρ:Operand->AV}{o:Oper}{a:Act}{t:VR (AV×Option GU)}{val:AV×Option GU}
  (h:nI X id ρ o.op=some t)(ht:t.sat (λr=>r=val))(hE:GB e B w)(hB:B<=w.heap.size)(hm:G5 e m w)(hid: ¬e.live id)(Z: ∀x,Rep e w (ρ x) (a.eval x)){ro:Option Nat}{n:Nat}
  {K:Act->World->Prop}{Q:Exit->Act->World->Prop}(hK: ∀v w',LY e B w m id val.1 val.2 v w'->K (a.put o.dst v) w'):o.wpIn (fr ro) n P a w K Q:=by
 obtain ⟨dst,op,type,pos,after,guard⟩:=o;cases op<;>try (simp [nI] at h;done)
 case call c=>
  obtain ⟨callee,args,argTypes⟩:=c;have ha:=U8.ops Z args.toList;cases callee<;>try (simp [nI] at h;done)
  case value f=>
   simp only [nI] at h;have hf:=Z f;split at h;rename_i g first caps hfe
   rw [hfe] at hf;obtain ⟨us,us',hv,r1,r2⟩:=hf.fn_inv;have D7:U8 e w (first++args.toList.map ρ++caps) (us++args.toList.map a.eval++us'):=(r1.append ha).append r2
   split at h;rename_i FU;have DW:Enters P g->(execOp a.eval ⟨dst,.call ⟨.value f,args,argTypes⟩,type,pos,after,guard⟩).run P w= .ok (.enter g (us++args.toList.map a.eval++us').toArray) w:=by
    intro PQ;have e1:(us++args.toList.map a.eval++us').toArray=us.toArray++args.map a.eval++us'.toArray:=Array.ext' VY;simp only [execOp,resolve,hv,Deferred.ofValue,At,Bv,Au,invoke];rw [e1];exact LP PQ _ w
   have hidf': ∀x∈first++args.toList.map ρ++caps,Idf x:=by
    intro x hx;obtain ⟨i,O⟩:=xJ.1 hx;obtain ⟨v,_,rv⟩:=D7.get O;exact kW 6 x v rv (BF.1 FU x hx)
   split at h;rename_i sp hsp;split at h;rename_i tr htr;cases h;obtain ⟨PQ,hs⟩:=hXc.1 _ (MB hsp);have FO:=hs _ _ htr _ (VR.sat_bind ht) e w _ (λb hb=>(hE.apart b hb).2) hE.glob hidf' D7;refine HV (λc h=>by cases h) ?_
   unfold Oper.wp;rw [DW PQ,Oper.upon_enter];refine FO.mono λen w' hq=>?_;obtain ⟨v,rr,rfl,hQ,hb,GS⟩:=hq;have hQ:(rr,none)=val:=hQ;subst hQ;have st:Step e (e.more w w') w w':=⟨λb hlt Z=>⟨.inl Z,hb.block b hlt⟩,λ_ h=>⟨h,rfl,rfl⟩,hb.size⟩;have hE':GB (e.more w w') B w':=by
    refine ⟨?_,λb k hk=>?_,hE.glob.step st⟩;rintro b (Z|⟨h1,h2⟩);have:=hE.apart b Z;have:=hb.size;exact ⟨(hE.apart b Z).1,VO⟩;refine ⟨?_,h2⟩;cases ho:(e.more w w').own b with
    |none=>rfl
    |some k=>have:=(hE.owned b k ho).2;omega
    have:=hE.owned b k hk;have:=hb.size;exact ⟨(hE.owned b k hk).1,VO⟩
   have st2:Step {PS w w' with ro:=(e.more w w').ro} (e.more w w') w' w':=⟨λb _ h=>⟨h,rfl⟩,λ_ h=>False.elim h,Am _⟩
   exact hK _ _ ⟨e.more w w',hb,st,hE',λ_ _ h=>h,GS.step st2,hm.ext hb st (λ_ _ h=>h),λ_ h=> .inl h,λb h=>h.imp (λh=>h) (λh=>h.1)⟩;cases h;split at h;rename_i sp hsp;split at h;rename_i ns T sz nn l htr;cases h;obtain ⟨PQ,hs⟩:=hXc.2.1 _ (Wx9 hsp);have hns:=VR.sat_needT ht;have FO:=hs _ _ _ _ _ _ htr (GI hns.1) e w _ (λb hb=>(hE.apart b hb).2) hE.glob hidf' D7;refine HV (λc h=>by cases h) ?_
   unfold Oper.wp;rw [DW PQ,Oper.upon_enter];refine FO.mono λen w' hq=>?_;obtain ⟨v,xs,rfl,hb,k1,k2,k3,k4⟩:=hq;have hQ:((AV.row id,some (GU.row T sz nn l)):AV×Option GU)=val:=hns.2;subst hQ;exact hK _ _ (MU hE hB hm hid hb k1 k2 k3 k4);cases h;cases h;cases h;cases h
theorem Qa6{X:Ext}(hXc:(∀p∈X.C,Enters P p.1/\ ∀avs t,p.2 avs=some t->US P p.1 avs t)/\(∀p∈X.F,Enters P p.1/\ ∀avs ns T sz n g,p.2 avs=some (ns,T,sz,n,g)->(∀q∈ns,q)->DV P p.1 avs T sz n g)/\ ∀p∈X.D,Enters P p.1/\ ∀avs t,p.2 avs=some t->B0 P p.1 avs t){e:UP}{B:Nat}{w:World}{m:HA}{id:Nat}{ρ:Operand->AV}{o:Oper}{a:Act}{t:VR (AV×Option GU)}{val:AV×Option GU}
  (h:Qj9 X id m ρ o.op=some t)(ht:t.sat (λr=>r=val))(hE:GB e B w)(hB:B<=w.heap.size)(hm:G5 e m w)(hid: ¬e.live id)(Z: ∀x,Rep e w (ρ x) (a.eval x)){ro:Option Nat}{n:Nat}
  {K:Act->World->Prop}{Q:Exit->Act->World->Prop}(hK: ∀v w',LY e B w m id val.1 val.2 v w'->K (a.put o.dst v) w'):o.wpIn (fr ro) n P a w K Q:=by
 unfold Qj9 at h;split at h
 ·rename_i t' hV;cases h;obtain ⟨dst,op,type,pos,after,guard⟩:=o;cases op<;>try (simp [Qk0] at hV;done)
  case call c=>
   obtain ⟨callee,args,argTypes⟩:=c;have ha:=U8.ops Z args.toList;cases callee<;>try (simp [Qk0] at hV;done)
   case value f=>
    simp only [Qk0] at hV;have hf:=Z f;split at hV;rename_i g first caps hfe
    rw [hfe] at hf;obtain ⟨us,us',hv,r1,r2⟩:=hf.fn_inv;have D7:U8 e w (first++args.toList.map ρ++caps) (us++args.toList.map a.eval++us'):=(r1.append ha).append r2
    split at hV;rename_i sp hsp;split at hV;rename_i tr htr;cases hV;obtain ⟨PQ,hs⟩:=hXc.2.2 _ (MB hsp);have dG:=U8.map (DJ m 40) (LL hE hm 40) D7;have FO:=hs _ _ htr _ (VR.sat_bind ht) e.view w _ (by
     rintro b (hb|⟨k,hb⟩);exact (hE.apart b hb).2;exact (hE.owned b k hb).2) (hE.glob.step (Step.view w)) (DZ (RS hm 40) D7) dG
    have DW:(execOp a.eval ⟨dst,.call ⟨.value f,args,argTypes⟩,type,pos,after,guard⟩).run P w= .ok (.enter g (us++args.toList.map a.eval++us').toArray) w:=by
     have e1:(us++args.toList.map a.eval++us').toArray=us.toArray++args.map a.eval++us'.toArray:=Array.ext' VY;simp only [execOp,resolve,hv,Deferred.ofValue,At,Bv,Au,invoke];rw [e1];exact LP PQ _ w
    refine HV (λc h=>by cases h) ?_
    unfold Oper.wp;rw [DW,Oper.upon_enter];refine FO.mono λen w' hq=>?_;obtain ⟨v,rr,rfl,hQ,hb,GS⟩:=hq;have hQ:(rr,none)=val:=hQ;subst hQ;exact hK v w' (TB hE hm hb GS);cases hV;cases hV;cases hV
 exact Qa7 hXc h ht hE hB hm hid Z hK
theorem Zb5(hG:VP P G)(hXc:(∀p∈X.C,Enters P p.1/\ ∀avs t,p.2 avs=some t->US P p.1 avs t)/\(∀p∈X.F,Enters P p.1/\ ∀avs ns T sz n g,p.2 avs=some (ns,T,sz,n,g)->(∀q∈ns,q)->DV P p.1 avs T sz n g)/\ ∀p∈X.D,Enters P p.1/\ ∀avs t,p.2 avs=some t->B0 P p.1 avs t)(jX:rV s0.σ.length ops.toList ops.toList 0=true){mm:Nat}(D7:PC P G X ops.toList (HM ops.toList []) s0.σ s0.m s0.nx mm W dec)(D5:W.length=mm)(hmm:mm<=ops.size)(A8: ∀p∈s0.m,p.1<s0.nx)(hAk:Zj4 s0.nx s0.m W){L:Array Bool}{a:Act}{w:World}{i:Nat}{Q:Exit->Act->World->Prop}
  (hI:gE ops c w0 T s0 W mm L a w)(O:i∈Region.ready .any ops L)(him:i<mm){ro:Option Nat}{n:Nat}:wpOpIn (fr ro) n P ops Q i (λa' w'=>gE ops c w0 T s0 W mm (L.setIfInBounds i true) a' w') a w:=by
 obtain ⟨hin,hun,o,ho,dJ⟩:=D0 O;obtain ⟨e,hE,hB,hm0,u7,vY,qJ,jG,w8⟩:=hI.rel;have hoL:ops.toList[i]? =some o:=by simpa using ho
 have hni: ¬inS L i:=qH (by rw [hI.size];exact hin) hun
 have tK: ∀k,((HM ops.toList []).getD i 0).testBit k=true->inS L k:=λk hk=>wR hI.dc i o hoL dJ k hk;have m8: ∀k,((HM ops.toList []).getD k 0).testBit i=true-> ¬inS L k:=by
  intro k hk hin';rcases An k ops.size with hkn|hkn;have hok:ops.toList[k]? =some ops[k]:=by simp [hkn]
  exact hni (wR hI.dc k _ hok (hI.dc k _ hok hin') i hk);have:L.getD k false=false:=by
   rw [L0,Array.getElem?_eq_none (by rw [hI.size];exact hkn)];rfl
  unfold inS at hin';rw [this] at hin';cases hin'
 obtain ⟨dec',hdec',vI⟩:=D7.2 i o VO hoL
 have OC: ∀k,inS L k-> ∀t v,DL t ops.toList 0=some k->a.tmps[t]? =some v->Rep e w ((W.getD k DK).val) v:=by
  intro k hk t v hwt hv;have:=w8 t v hv;unfold FE at this;rw [hwt] at this;simp only at this;rw [if_pos (show L.getD k false=true from hk)] at this;exact this
 have hσ: ∀t v,a.tmps[t]? =some v->(∀k,DL t ops.toList 0=some k-> ¬inS L k)->Rep e w (s0.σ.getD t .top) v:=by
  intro t v hv hno;have:=w8 t v hv;unfold FE at this;cases hwt:DL t ops.toList 0 with
  |none=>rw [hwt] at this;exact this
  |some k=>rw [hwt] at this;simp only at this;rw [if_neg (show ¬L.getD k false=true from hno k hwt)] at this;exact this
 have kX: ∀k,k<i->(W.take i).getD k DK=W.getD k DK:=by
  intro k hk;simp [List.getD,hk]
 have hρ: ∀x,Rep e w (P0 ops.toList (HM ops.toList []) s0.σ (W.take i) dec' i x) (a.eval x):=by
  intro x;cases x with
  |tmp t=>
   simp only [Act.eval];cases hv:a.tmps[t]? with
   |none=>
    have hge:s0.σ.length<=t:=by
     rw [←jG];rcases An t a.tmps.size with h'|h';rw [Array.getElem?_eq_getElem h'] at hv;cases hv;exact h'
    have h0:s0.σ.getD t .top= .top:=by rw [List.getD,Br hge];rfl
    rw [L0,hv];simp only [P0];split;rw [h0];exact .top _;rename_i k hwt;obtain ⟨_,o',ho',hd'⟩:=RJ hwt;have:=((PL jX k o' (by simpa using ho')).1 t hd').2
    omega
   |some v=>
    rw [L0,hv];simp only [GW,P0];split;rename_i hwt;exact hσ t v hv (λk hk=>by rw [hwt] at hk;cases hk)
    rename_i k hwt;split;rename_i hb;have hk:=tK k hb;have Z:=OC k hk t v hwt hv;simp only [Qy2];cases hld:L1 dec' k with
    |some d=>
     have:=(D7.1 k d (hdec' k d hld)).2;rw [this] at Z;exact Z.litOf
    |none=>
     rcases An k i with hki|hki;rw [kX k hki];exact Z;have:(W.take i).getD k DK=DK:=by rw [List.getD,Br (by simp;omega)];rfl
     rw [this];exact .top _
    rename_i hb;split;rename_i hb2;refine hσ t v hv (λk' hk'=>?_);rw [hwt] at hk';cases hk';simp only [Bl] at hb2;rcases hb2 with h2|h2;rw [H5 h2];exact hni;exact m8 k h2;exact .top _
  |const v=>exact AE v
  |global g=>exact .x _
  |func f=>exact .fn (.func f) [] [] [] [] rfl (λi a v h=>by simp at h) rfl (λi a v h=>by simp at h)
 have Wv0: ¬e.live (s0.nx+i):=by
  intro hl;rcases vY _ hl with h|⟨i',h1,h2⟩;omega;have:i'=i:=VO;subst this;exact hni h1
 have mG: ∀i' c' j' r',W[i']? =some c'->c'.upd=some (j',r')->SE (HM ops.toList []) mm i' j'=true:=by
  intro i' c' j' r' h1 h2;exact Wf4 D7 h1 (by have:=(RA.1 h1).1;simp;omega) h2
 have heat: ∀i' c' j',W[i']? =some c'->c'.eat=some j'->Qy1 (HM ops.toList []) mm i' j'=true:=by
  intro i' c' j' h1 h2;exact Xa4 D7 h1 (by have:=(RA.1 h1).1;simp;omega) h2
 have hmi:G5 e (R0 s0.nx ((HM ops.toList []).getD i 0) (W.take i) (W.take i) 0++s0.m) w:=by
  intro p hp;rcases List.mem_append.1 hp with hp|hp;obtain ⟨j,c,h1,h2,h3,h4,h5⟩:=N8 hp;simp only [Ap] at h2 h3 h5;have hj:W[j]? =some c:=by
   rw [List.getElem?_take] at h1;split at h1;exact h1;cases h1
  rw [h3];have Zw0: ∀i' ci,inS L i'->W[i']? =some ci->ci.eat≠some j:=by
   intro i' ci hi' hci he;have hne:i≠i':=λhq=>hni (hq▸hi');rcases (Qy0 (heat i' ci j hci he)).2.2 i him hne h2 with ⟨g1,g2⟩|g;have:(W.take i)[i']? =some ci:=by rw [List.getElem?_take,if_pos g2];exact hci
   rw [AD (k0:=0) this he (by simpa using g1)] at h5
   cases h5;exact m8 i' g hi'
  have Jq7: ∀i' c' r',inS L i'->W[i']? =some c'->c'.upd≠some (j,r'):=by
   intro i' c' r' hi' hc' hu;obtain ⟨g1,g2⟩:=(B8 (mG i' c' j r' hc' hu)).2.2 i him (λhe=>hni (he▸hi')) h2;have:(W.take i)[i']? =some c':=by rw [List.getElem?_take,if_pos g2];exact hc'
   rw [MR (k0:=0) this hu (by simpa using g1)] at h5
   cases h5
  obtain ⟨r'',hh,_,hk⟩:=u7 j c (tK j h2) hj _ h4 Zw0;rw [hk Jq7] at hh;exact hh;exact hm0 p hp
 have Xr5: ∀(q:Nat) (c:HT) (res r'':GU),W[q]? =some c->c.add=some res->(∀i ci r',inS L i->W[i]? =some ci->ci.upd=some (q,r')->r''=r')->((∀i ci r',inS L i->W[i]? =some ci->ci.upd≠some (q,r'))->r''=res)->(∀k,s0.nx<=k->D4 k r''=false)/\(∀k,D4 k r''=true->D4 k res=true):=by
  intro q c res r'' hc F8 hk1 hk2;rcases Classical.em (∀i ci r',inS L i->W[i]? =some ci->ci.upd≠some (q,r')) with h|h;obtain rfl:=hk2 h;refine ⟨λk hk=>?_,λ_ h=>h⟩;cases hq:D4 k r'' with
  |false=>rfl
  |true=>have:=hAk.low q c _ k hc F8 hq;omega
  have hex: ∃i ci r',inS L i/\W[i]? =some ci/\ci.upd=some (q,r'):=by
   apply Classical.byContradiction;intro hno;exact h (λi ci r' h1 h2 h3=>hno ⟨i,ci,r',h1,h2,h3⟩)
  obtain ⟨i,ci,r',h1,h2,h3⟩:=hex;obtain rfl:=hk1 i ci r' h1 h2 h3;have:=hAk.upd i ci _ _ h2 h3;exact ⟨λk _=>zN this k,λk h=>by rw [zN this k] at h;cases h⟩
 have hiL:i<L.size:=by rw [hI.size];exact hin
 have hoi:W[i]? =some (W.getD i DK):=by
  have:i<W.length:=VO;simp [List.getD,D8 this]
 have fin:(W.getD i DK).upd=none-> ∀v w',LY e w0.heap.size w (R0 s0.nx ((HM ops.toList []).getD i 0) (W.take i) (W.take i) 0++s0.m) (s0.nx+i) (W.getD i DK).val (W.getD i DK).add v w'->gE ops c w0 T s0 W mm (L.setIfInBounds i true) (a.put o.dst v) w':=by
  rintro Xr3 v w' ⟨e',hb,st,hE',HD,GS,hm',hlv,hro⟩;refine ⟨by simp [hI.size],?_,?_,e',hE',hB.trans (hb.mono hB.size),?_,?_,?_,⟨λb hT=>⟨(qJ.1 b hT).1,λh=>?_⟩,by rw [put_defers];exact qJ.2.step st⟩,?_,?_⟩
  intro k o' ho' hk j hj;rw [UU hiL] at hk ⊢;rcases hk with rfl|hk;rw [hoL] at ho';cases ho';exact .inr (dJ j hj);exact .inr (hI.dc k o' ho' hk j hj);intro k hk;rw [UU hiL] at hk;rcases hk with rfl|hk;exact him;exact hI.lt k hk;exact hm0.ext hb st HD;intro j c hj hc r Z hne;rw [UU hiL] at hj;rcases hj with rfl|hj;rw [hoi] at hc;cases hc;refine ⟨r,hm' (s0.nx+j,r) ?_,?_,λ_=>rfl⟩;rw [Z];exact GN;intro i' ci r' hi' hci hu;exfalso;rw [UU hiL] at hi';rcases hi' with rfl|hi';rw [hoi] at hci;cases hci;rw [Xr3] at hu;cases hu;exact m8 i' (B8 (mG i' ci j r' hci hu)).1 hi';obtain ⟨r'',hh,hk1,hk2⟩:=u7 j c hj hc r Z (λi' ci hi'=>hne i' ci ((UU hiL).2 (.inr hi')));refine ⟨r'',hh.ext hb st HD,?_,λhno=>hk2 (λi' ci r' hi' hci=>hno i' ci r' ((UU hiL).2 (.inr hi')) hci)⟩;intro i' ci r' hi' hci hu;rw [UU hiL] at hi';rcases hi' with rfl|hi';rw [hoi] at hci;cases hci;rw [Xr3] at hu;cases hu;exact hk1 i' ci r' hi' hci hu;intro k hk;rcases hlv k hk with hk|rfl;rcases vY k hk with h|⟨i',h1,h2⟩;exact .inl h;exact .inr ⟨i',(UU hiL).2 (.inr h1),h2⟩;exact .inr ⟨i,(UU hiL).2 (.inl rfl),rfl⟩;rcases hro b h with h|h;exact (qJ.1 b hT).2 h;have:=(qJ.1 b hT).1;have:=hB.size;omega;cases hd:o.dst with
  |none=>exact jG
  |some d=>simp [Act.put,jG]
  intro t u hu;have other:o.dst≠some t->a.tmps[t]? =some u->Rep e' w' (FE ops.toList s0.σ W (L.setIfInBounds i true) t) u:=by
   intro hne hu';have:=(w8 t u hu').step st;unfold FE at this ⊢;cases hwt:DL t ops.toList 0 with
   |none=>rw [hwt] at this;exact this
   |some k=>
    rw [hwt] at this;simp only at this ⊢;have hki:k≠i:=by
     rintro rfl;obtain ⟨_,o',ho',hd'⟩:=RJ hwt;simp only [Nat.sub_zero] at ho';rw [hoL] at ho';cases ho';exact hne hd'
    have e1:(L.setIfInBounds i true).getD k false=L.getD k false:=by
     simp [L0,Ne.symm hki]
    rw [e1];exact this
  cases hd:o.dst with
  |none=>rw [hd] at hu;exact other (by rw [hd];simp) hu
  |some d=>
   rw [hd] at hu;simp only [Act.put,Array.getElem?_setIfInBounds] at hu;by_cases hdt:d=t;subst hdt;obtain ⟨hw1,hw2⟩:=(PL jX i o hoL).1 d hd;rw [if_pos rfl,if_pos (by rw [jG];exact hw2)] at hu
   cases hu;unfold FE;rw [hw1];simp only [Ap];rw [if_pos (show (L.setIfInBounds i true).getD i false=true from (UU hiL).2 (.inl rfl))];exact GS;rw [if_neg hdt] at hu;exact other (by rw [hd];simpa using hdt) hu
 have guardRun: ∀j want t b,o.guard=some (j,want)->F0 ops.toList o=some t->P0 ops.toList (HM ops.toList []) s0.σ (W.take i) dec' i (.tmp t)= .lit b->yielded ops a.tmps j=some b:=by
  intro j want t b hg hgs hl;have Z:=hρ (.tmp t);rw [hl] at Z;have hev:=Z.lit_inv;simp only [Act.eval] at hev;have hgt:a.tmps[t]? =some (.bool b):=by
   cases hq:a.tmps[t]? with
   |none=>rw [L0,hq] at hev;simp [undef] at hev
   |some v=>rw [L0,hq] at hev;simpa using hev
  unfold F0 at hgs;rw [hg] at hgs;simp only at hgs;split at hgs;rename_i p hp;have hp':ops[j]? =some p:=by simpa using hp
  unfold yielded;simp [hp',hgs,hgt];cases hgs
 have guardTup: ∀j want t l,o.guard=some (j,want)->F0 ops.toList o=some t->P0 ops.toList (HM ops.toList []) s0.σ (W.take i) dec' i (.tmp t)= .tup l->yielded ops a.tmps j=none:=by
  intro j want t l hg hgs hl;have Z:=hρ (.tmp t);rw [hl] at Z;obtain ⟨vs,hv,_⟩:=Z.tup_inv;simp only [Act.eval] at hv;unfold F0 at hgs;rw [hg] at hgs;simp only at hgs;split at hgs;rename_i p hp;have hp':ops[j]? =some p:=by simpa using hp
  unfold yielded;simp only [hp',hgs,Option.bind_some];cases hq:a.tmps[t]? with
  |none=>rfl
  |some v=>
   rw [L0,hq] at hv;simp only [GW] at hv;subst hv;rfl
  cases hgs
 unfold wpOpIn;simp only [ho];rcases vI with ⟨DW,hg⟩|⟨hno,j,want,t,hg,hgs,hl⟩
 ·have hw:Region.wanted o (yielded ops a.tmps)=true:=by
   rcases hg with hg|⟨j,want,t,hg,hgs,hl⟩;simp [Region.wanted,hg];simp [Region.wanted,hg,guardRun j want t want hg hgs hl]
  rw [if_pos hw];rcases DW with ⟨ns,Xs5,Xr3,_,hns⟩|⟨ns,j,r,hst,dK,hns⟩|⟨ns,val,r,eat,hap,dK,hns⟩|⟨tC,valC,hcd,Wu8,Jq1⟩|⟨ns,val,eat,hapz,dK,hns⟩|⟨ns,val,r,hape,dK,hns⟩
  rotate_left 3
  have hu:(W.getD i DK).upd=none:=by rw [Wu8]
  have hv:(W.getD i DK).val=valC.1:=by rw [Wu8]
  have hd:(W.getD i DK).add=valC.2:=by rw [Wu8]
  have fin':=fin hu;rw [hv,hd] at fin';exact Qa6 hXc hcd Jq1 hE hB.size hmi Wv0 hρ fin'
  obtain ⟨v0,T0,sz0,n0,f0,hap,Jp8⟩:=TI hapz;subst Jp8;obtain ⟨cc,s,x,t,tl,hop,dN,hca,hta,M7,Wv4⟩:=vD hap;obtain ⟨callee,cargs,cats⟩:=cc;simp only at dN hca hta;have hca':cargs=#[s,x]:=Array.ext' (by simpa using hca)
  have hta':cats=#[t,t]:=Array.ext' (by simpa using hta)
  subst hca';subst hta';subst dN;obtain ⟨u,w',DW,⟨e1,rA,st1,hE1,dI,hF,hlv1,hro1⟩,_⟩:=qX (P:=P) (ty:=o.type) M7 hns hE hB.size hmi Wv0 (hρ s) (hρ x);obtain rfl:=b9 M7;have mF:GM e1 w' (s0.nx+i) (.row T0 sz0 n0 f0):=hF _ _ (.inl ⟨⟨_,rfl⟩,rfl⟩);have GS:Rep (e1.sol (s0.nx+i)) w' (.lst sz0 n0 f0) u:=by
   cases dI with
   |row _ a n c hl hv=>
    rw [←hv];exact iO hE1 mF (λ_ h=> .inl h) (λ_ h=> .inr h)
  obtain ⟨e',he'⟩: ∃e',e'=e1.sol (s0.nx+i):=⟨_,rfl⟩;have st:Step e e' w w':=by rw [he'];exact st1.trans (Step.sol e1 _ w')
  have hE':GB e' w0.heap.size w':=by rw [he'];exact hE1.sol _
  rw [←he'] at GS;have hlv: ∀k,e'.live k->e.live k\/k=s0.nx+i:=by rw [he'];exact hlv1
  have hro: ∀b,e'.ro b->e.ro b\/w0.heap.size<=b:=by
   intro b hb;rw [he'] at hb;rcases hb with hb|hb;exact .inl (hro1 b hb);exact .inr (hE1.owned b _ hb).1
  have zE: ∀(k:Nat) (res:GU),(k≠s0.nx+i/\D4 (s0.nx+i) res=false)->(∀j,eat=some j->k≠s0.nx+j/\D4 (s0.nx+j) res=false)->GM e w k res->GM e' w' k res:=by
   intro k res hki hk hh;rw [he'];refine GM.sol hki ?_;refine hF k res (.inr ⟨hh,λq hq=>?_⟩);rcases Wv4 with ⟨j,h1,h2,_⟩|⟨_,v,h2⟩;rw [h2] at hq;cases hq;exact hk j h1;rw [h2] at hq;cases hq
  have hout':W[i]? =some ⟨.lst sz0 n0 f0,none,none,eat⟩:=by rw [hoi,dK]
  have hnew':gE ops c w0 T s0 W mm (L.setIfInBounds i true) (a.put o.dst u) w':=by
   refine ⟨by simp [hI.size],?_,?_,e',hE',hB.trans rA,?_,?_,?_,⟨λb hT=>⟨(qJ.1 b hT).1,λh=>?_⟩,by rw [put_defers];exact qJ.2.step st⟩,?_,?_⟩
   intro k o' ho' hk q hq;rw [UU hiL] at hk ⊢;rcases hk with rfl|hk;rw [hoL] at ho';cases ho';exact .inr (dJ q hq);exact .inr (hI.dc k o' ho' hk q hq);intro k hk;rw [UU hiL] at hk;rcases hk with rfl|hk;exact him;exact hI.lt k hk;intro p hp;exact zE p.1 p.2 ⟨by have:=A8 p hp;omega,zN (hAk.m0 p hp) _⟩ (λj _=>⟨by have:=A8 p hp;omega,zN (hAk.m0 p hp) _⟩) (hm0 p hp)
   intro q c hq hc res F8 hne;rw [UU hiL] at hq;rcases hq with rfl|hq;rw [hout'] at hc;cases hc;cases F8;obtain ⟨r'',hh,hk1,hk2⟩:=u7 q c hq hc res F8 (λi' ci hi'=>hne i' ci ((UU hiL).2 (.inr hi')));have hqi:q≠i:=λh=>hni (h▸hq);have hna:=(Xr5 q c res r'' hc F8 hk1 hk2).1;refine ⟨r'',zE _ _ ⟨VO,hna _ VO⟩ (λj hj=>⟨λhe=>?_,hna _ VO⟩) hh,?_,λhno=>hk2 (λi' ci r' hi' hci=>hno i' ci r' ((UU hiL).2 (.inr hi')) hci)⟩;have hqj:q=j:=VO;exact hne i _ ((UU hiL).2 (.inl rfl)) hout' (by rw [hqj];exact hj)
   intro i' ci r' hi' hci hu;rw [UU hiL] at hi';rcases hi' with rfl|hi';rw [hout'] at hci;cases hci;cases hu;exact hk1 i' ci r' hi' hci hu;intro k hk;rcases hlv k hk with hk|rfl;rcases vY k hk with h|⟨i',h1,h2⟩;exact .inl h;exact .inr ⟨i',(UU hiL).2 (.inr h1),h2⟩;exact .inr ⟨i,(UU hiL).2 (.inl rfl),rfl⟩;rcases hro b h with h|h;exact (qJ.1 b hT).2 h;have:=(qJ.1 b hT).1;omega;cases hd:o.dst with
   |none=>exact jG
   |some d=>simp [Act.put,jG]
   intro q v hu;have other:o.dst≠some q->a.tmps[q]? =some v->Rep e' w' (FE ops.toList s0.σ W (L.setIfInBounds i true) q) v:=by
    intro hne hu';have:=(w8 q v hu').step st;unfold FE at this ⊢;cases hwt:DL q ops.toList 0 with
    |none=>rw [hwt] at this;exact this
    |some k=>
     rw [hwt] at this;simp only at this ⊢;have hki:k≠i:=by
      rintro rfl;obtain ⟨_,o',ho',hd'⟩:=RJ hwt;simp only [Nat.sub_zero] at ho';rw [hoL] at ho';cases ho';exact hne hd'
     have e1:(L.setIfInBounds i true).getD k false=L.getD k false:=by
      simp [L0,Ne.symm hki]
     rw [e1];exact this
   cases hd:o.dst with
   |none=>rw [hd] at hu;exact other (by rw [hd];simp) hu
   |some d=>
    rw [hd] at hu;simp only [Act.put,Array.getElem?_setIfInBounds] at hu;by_cases hdt:d=q;subst hdt;obtain ⟨hw1,hw2⟩:=(PL jX i o hoL).1 d hd;rw [if_pos rfl,if_pos (by rw [jG];exact hw2)] at hu
    cases hu;unfold FE;rw [hw1];simp only [Ap];rw [if_pos (show (L.setIfInBounds i true).getD i false=true from (UU hiL).2 (.inl rfl)),dK];exact GS;rw [if_neg hdt] at hu;exact other (by rw [hd];simpa using hdt) hu
  refine HV (λc h=>by rw [hop] at h;cases h) ?_
  refine DA (v:=u) (w':=w') ?_ hnew';obtain ⟨dst,op,type,pos,after,guard⟩:=o;simp only at hop;subst hop;simp [execOp,resolve,invoke,builtin,DW]
  obtain ⟨cc,s,x,t,q0,hop,dN,hca,hta,hsq,hq0,rfl,M7⟩:=Qz9 hape;obtain ⟨callee,cargs,cats⟩:=cc;simp only at dN hca hta;have hca':cargs=#[s,x]:=Array.ext' (by simpa using hca)
  have hta':cats=#[t,t]:=Array.ext' (by simpa using hta)
  subst hca';subst hta';subst dN;have rs:=hρ s;rw [hsq] at rs;obtain ⟨T0,sz0,n0,f0,hr0,hmq,u,w',DW,⟨e',rA,st,hE',GS,hF,hlv,hro⟩⟩:=AQ (P:=P) (ty:=o.type) M7 hns hE hB.size hmi Wv0 rs (hρ x);subst hr0;have zE: ∀(k:Nat) (res:GU),(k=q0->gX T0 sz0 res=true)->D4 q0 res=false->GM e w k res->GM e' w' k res:=by
   intro k res hk1 hk2 hh;exact hF k res (.inr ⟨hh,hk1,hk2⟩)
  have mF:GM e' w' (s0.nx+i) (.aka q0 T0 sz0 n0 f0):=hF _ _ (.inl ⟨rfl,rfl⟩);have hout':W[i]? =some ⟨.row (s0.nx+i),some (.aka q0 T0 sz0 n0 f0),none,none⟩:=by rw [hoi,dK]
  have hnew':gE ops c w0 T s0 W mm (L.setIfInBounds i true) (a.put o.dst u) w':=by
   refine ⟨by simp [hI.size],?_,?_,e',hE',hB.trans rA,?_,?_,?_,⟨λb hT=>⟨(qJ.1 b hT).1,λh=>(qJ.1 b hT).2 (hro b h)⟩,by rw [put_defers];exact qJ.2.step st⟩,?_,?_⟩
   intro k o' ho' hk q hq;rw [UU hiL] at hk ⊢;rcases hk with rfl|hk;rw [hoL] at ho';cases ho';exact .inr (dJ q hq);exact .inr (hI.dc k o' ho' hk q hq);intro k hk;rw [UU hiL] at hk;rcases hk with rfl|hk;exact him;exact hI.lt k hk;intro p hp;have hq:=hmq p (As _ hp);exact zE p.1 p.2 hq.1 hq.2 (hm0 p hp);intro q c hq hc res F8 hne;rw [UU hiL] at hq;rcases hq with rfl|hq;rw [hout'] at hc;cases hc;cases F8;refine ⟨_,mF,?_,λ_=>rfl⟩;intro i' ci r' hi' hci hu;exfalso;rw [UU hiL] at hi';rcases hi' with rfl|hi';rw [hout'] at hci;cases hci;cases hu;exact m8 i' (B8 (mG i' ci q r' hci hu)).1 hi';obtain ⟨r'',hh,hk1,hk2⟩:=u7 q c hq hc res F8 (λi' ci hi'=>hne i' ci ((UU hiL).2 (.inr hi')));have hna:=(Xr5 q c res r'' hc F8 hk1 hk2).2;have hqi:q≠i:=λh=>hni (h▸hq);have hqa:D4 q0 r''=false:=by
    cases h5:D4 q0 r'' with
    |false=>rfl
    |true=>exact absurd (hAk.one q i c _ res _ q0 hc hout' F8 rfl (hna q0 h5) (Nat.beq_refl q0)) hqi
   refine ⟨r'',zE _ _ (λh=>VO) hqa hh,?_,λhno=>hk2 (λi' ci r' hi' hci=>hno i' ci r' ((UU hiL).2 (.inr hi')) hci)⟩;intro i' ci r' hi' hci hu;rw [UU hiL] at hi';rcases hi' with rfl|hi';rw [hout'] at hci;cases hci;cases hu;exact hk1 i' ci r' hi' hci hu;intro k hk;rcases hlv k hk with hk|rfl;rcases vY k hk with h|⟨i',h1,h2⟩;exact .inl h;exact .inr ⟨i',(UU hiL).2 (.inr h1),h2⟩;exact .inr ⟨i,(UU hiL).2 (.inl rfl),rfl⟩;cases hd:o.dst with
   |none=>exact jG
   |some d=>simp [Act.put,jG]
   intro q v hu;have other:o.dst≠some q->a.tmps[q]? =some v->Rep e' w' (FE ops.toList s0.σ W (L.setIfInBounds i true) q) v:=by
    intro hne hu';have:=(w8 q v hu').step st;unfold FE at this ⊢;cases hwt:DL q ops.toList 0 with
    |none=>rw [hwt] at this;exact this
    |some k=>
     rw [hwt] at this;simp only at this ⊢;have hki:k≠i:=by
      rintro rfl;obtain ⟨_,o',ho',hd'⟩:=RJ hwt;simp only [Nat.sub_zero] at ho';rw [hoL] at ho';cases ho';exact hne hd'
     have e1:(L.setIfInBounds i true).getD k false=L.getD k false:=by
      simp [L0,Ne.symm hki]
     rw [e1];exact this
   cases hd:o.dst with
   |none=>rw [hd] at hu;exact other (by rw [hd];simp) hu
   |some d=>
    rw [hd] at hu;simp only [Act.put,Array.getElem?_setIfInBounds] at hu;by_cases hdt:d=q;subst hdt;obtain ⟨hw1,hw2⟩:=(PL jX i o hoL).1 d hd;rw [if_pos rfl,if_pos (by rw [jG];exact hw2)] at hu
    cases hu;unfold FE;rw [hw1];simp only [Ap];rw [if_pos (show (L.setIfInBounds i true).getD i false=true from (UU hiL).2 (.inl rfl)),dK];exact GS;rw [if_neg hdt] at hu;exact other (by rw [hd];simpa using hdt) hu
  refine HV (λc h=>by rw [hop] at h;cases h) ?_
  refine DA (v:=u) (w':=w') ?_ hnew';obtain ⟨dst,op,type,pos,after,guard⟩:=o;simp only at hop;subst hop;simp [execOp,resolve,invoke,builtin,DW];exact HV (d8 Xs5) (TJ hG Xs5 hns hE hB.size hmi Wv0 hρ (fin Xr3))
  obtain ⟨t,x,y,off,m',hop,hx,hln,M7,hgm⟩:=rX hst;obtain ⟨hl1,hl2,hl3⟩:=B8 hln;have rx:=hρ x;rw [hx] at rx;obtain ⟨w',DW,HD,hsz,L7,rA,hm'⟩:=A3 (P:=P) M7 hns hE hmi rx (hρ y);have st:=FC hE HD hsz L7;have hE':=LD hE hsz st;have zE: ∀(k:Nat) (res:GU),(k≠s0.nx+j/\D4 (s0.nx+j) res=false)->GM e w k res->GM e w' k res:=λk res hne hh=>PG hE HD hsz L7 hne hh;have hjS:=tK j hl1;have hnew':gE ops c w0 T s0 W mm (L.setIfInBounds i true) (a.put o.dst undef) w':=by
   refine ⟨by simp [hI.size],?_,?_,e,hE',hB.trans rA,?_,?_,?_,⟨qJ.1,by rw [put_defers];exact qJ.2.step st⟩,?_,?_⟩
   intro k o' ho' hk q hq;rw [UU hiL] at hk ⊢;rcases hk with rfl|hk;rw [hoL] at ho';cases ho';exact .inr (dJ q hq);exact .inr (hI.dc k o' ho' hk q hq);intro k hk;rw [UU hiL] at hk;rcases hk with rfl|hk;exact him;exact hI.lt k hk;intro p hp;exact zE p.1 p.2 ⟨by have:=A8 p hp;omega,zN (hAk.m0 p hp) _⟩ (hm0 p hp)
   intro q c hq hc res F8 hne;rw [UU hiL] at hq;have hqS:inS L q:=by
    rcases hq with rfl|hq;rw [hoi,dK] at hc;cases hc;cases F8;exact hq
   obtain ⟨r'',hh,hk1,hk2⟩:=u7 q c hqS hc res F8 (λi' ci hi'=>hne i' ci ((UU hiL).2 (.inr hi')));by_cases hqj:q=j;subst hqj;refine ⟨r,hm' (s0.nx+q,r) (GA hgm),?_,?_⟩;intro i' ci r' hi' hci hu;by_cases hii:i'=i;subst hii;rw [hoi,dK] at hci;cases hci;simp only [HL,FI] at hu;exact hu.2;exfalso;have g:=B8 (mG i' ci q r' hci hu);have hi2:inS L i':=by
    rw [UU hiL] at hi';rcases hi' with h|h;exact absurd h hii;exact h
   have g1:=(g.2.2 i him (λhe=>hii he.symm) hl1).2;have g2:=(hl3 i' (hI.lt i' hi2) hii g.1).2;omega;intro hno;exact absurd (show (W.getD i DK).upd=some (q,r) by rw [dK]) (hno i _ r ((UU hiL).2 (.inl rfl)) hoi)
   refine ⟨r'',zE _ _ ⟨VO,(Xr5 q c res r'' hc F8 hk1 hk2).1 _ VO⟩ hh,?_,λhno=>hk2 (λi' ci r' hi' hci=>hno i' ci r' ((UU hiL).2 (.inr hi')) hci)⟩;intro i' ci r' hi' hci hu;rw [UU hiL] at hi';rcases hi' with rfl|hi';rw [hoi,dK] at hci;cases hci;simp only [HL,FI] at hu;exact absurd hu.1.symm hqj;exact hk1 i' ci r' hi' hci hu;intro k hk;rcases vY k hk with h|⟨i',h1,h2⟩;exact .inl h;exact .inr ⟨i',(UU hiL).2 (.inr h1),h2⟩;cases hd:o.dst with
   |none=>exact jG
   |some d=>simp [Act.put,jG]
   intro q u hu;have other:o.dst≠some q->a.tmps[q]? =some u->Rep e w' (FE ops.toList s0.σ W (L.setIfInBounds i true) q) u:=by
    intro hne hu';have:=(w8 q u hu').step st;unfold FE at this ⊢;cases hwt:DL q ops.toList 0 with
    |none=>rw [hwt] at this;exact this
    |some k=>
     rw [hwt] at this;simp only at this ⊢;have hki:k≠i:=by
      rintro rfl;obtain ⟨_,o',ho',hd'⟩:=RJ hwt;simp only [Nat.sub_zero] at ho';rw [hoL] at ho';cases ho';exact hne hd'
     have e1:(L.setIfInBounds i true).getD k false=L.getD k false:=by
      simp [L0,Ne.symm hki]
     rw [e1];exact this
   cases hd:o.dst with
   |none=>rw [hd] at hu;exact other (by rw [hd];simp) hu
   |some d=>
    rw [hd] at hu;simp only [Act.put,Array.getElem?_setIfInBounds] at hu;by_cases hdt:d=q;subst hdt;obtain ⟨hw1,hw2⟩:=(PL jX i o hoL).1 d hd;unfold FE;rw [hw1];simp only [Ap];rw [if_pos (show (L.setIfInBounds i true).getD i false=true from (UU hiL).2 (.inl rfl)),dK];exact .top _;rw [if_neg hdt] at hu;exact other (by rw [hd];simpa using hdt) hu
  refine HV (λc h=>by rw [hop] at h;cases h) ?_
  unfold Oper.wp;have hex:(execOp a.eval o).run P w= .ok .skip w':=by
   obtain ⟨dst,op,type,pos,after,guard⟩:=o;simp only at hop;subst hop;simp [execOp,DW]
  rw [hex];exact hnew'
  obtain ⟨cc,s,x,t,tl,hop,dN,hca,hta,M7,Wv4⟩:=vD hap;obtain ⟨callee,cargs,cats⟩:=cc;simp only at dN hca hta;have hca':cargs=#[s,x]:=Array.ext' (by simpa using hca)
  have hta':cats=#[t,t]:=Array.ext' (by simpa using hta)
  subst hca';subst hta';subst dN;obtain ⟨u,w',DW,⟨e',rA,st,hE',GS,hF,hlv,hro⟩,_⟩:=qX (P:=P) (ty:=o.type) M7 hns hE hB.size hmi Wv0 (hρ s) (hρ x);have zE: ∀(k:Nat) (res:GU),(∀j,eat=some j->k≠s0.nx+j/\D4 (s0.nx+j) res=false)->GM e w k res->GM e' w' k res:=by
   intro k res hk hh;refine hF k res (.inr ⟨hh,λq hq=>?_⟩);rcases Wv4 with ⟨j,h1,h2,_⟩|⟨_,v,h2⟩;rw [h2] at hq;cases hq;exact hk j h1;rw [h2] at hq;cases hq
  have mF:GM e' w' (s0.nx+i) r:=hF _ _ (.inl ⟨⟨_,rfl⟩,rfl⟩);have hout':W[i]? =some ⟨val,some r,none,eat⟩:=by rw [hoi,dK]
  have hnew':gE ops c w0 T s0 W mm (L.setIfInBounds i true) (a.put o.dst u) w':=by
   refine ⟨by simp [hI.size],?_,?_,e',hE',hB.trans rA,?_,?_,?_,⟨λb hT=>⟨(qJ.1 b hT).1,λh=>(qJ.1 b hT).2 (hro b h)⟩,by rw [put_defers];exact qJ.2.step st⟩,?_,?_⟩
   intro k o' ho' hk q hq;rw [UU hiL] at hk ⊢;rcases hk with rfl|hk;rw [hoL] at ho';cases ho';exact .inr (dJ q hq);exact .inr (hI.dc k o' ho' hk q hq);intro k hk;rw [UU hiL] at hk;rcases hk with rfl|hk;exact him;exact hI.lt k hk;intro p hp;exact zE p.1 p.2 (λj _=>⟨by have:=A8 p hp;omega,zN (hAk.m0 p hp) _⟩) (hm0 p hp)
   intro q c hq hc res F8 hne;rw [UU hiL] at hq;rcases hq with rfl|hq;rw [hout'] at hc;cases hc;cases F8;refine ⟨r,mF,?_,λ_=>rfl⟩;intro i' ci r' hi' hci hu;exfalso;rw [UU hiL] at hi';rcases hi' with rfl|hi';rw [hout'] at hci;cases hci;cases hu;exact m8 i' (B8 (mG i' ci q r' hci hu)).1 hi';obtain ⟨r'',hh,hk1,hk2⟩:=u7 q c hq hc res F8 (λi' ci hi'=>hne i' ci ((UU hiL).2 (.inr hi')));have hna:=(Xr5 q c res r'' hc F8 hk1 hk2).1;refine ⟨r'',zE _ _ (λj hj=>⟨λhe=>?_,hna _ VO⟩) hh,?_,λhno=>hk2 (λi' ci r' hi' hci=>hno i' ci r' ((UU hiL).2 (.inr hi')) hci)⟩;have hqj:q=j:=VO;exact hne i _ ((UU hiL).2 (.inl rfl)) hout' (by rw [hqj];exact hj)
   intro i' ci r' hi' hci hu;rw [UU hiL] at hi';rcases hi' with rfl|hi';rw [hout'] at hci;cases hci;cases hu;exact hk1 i' ci r' hi' hci hu;intro k hk;rcases hlv k hk with hk|rfl;rcases vY k hk with h|⟨i',h1,h2⟩;exact .inl h;exact .inr ⟨i',(UU hiL).2 (.inr h1),h2⟩;exact .inr ⟨i,(UU hiL).2 (.inl rfl),rfl⟩;cases hd:o.dst with
   |none=>exact jG
   |some d=>simp [Act.put,jG]
   intro q v hu;have other:o.dst≠some q->a.tmps[q]? =some v->Rep e' w' (FE ops.toList s0.σ W (L.setIfInBounds i true) q) v:=by
    intro hne hu';have:=(w8 q v hu').step st;unfold FE at this ⊢;cases hwt:DL q ops.toList 0 with
    |none=>rw [hwt] at this;exact this
    |some k=>
     rw [hwt] at this;simp only at this ⊢;have hki:k≠i:=by
      rintro rfl;obtain ⟨_,o',ho',hd'⟩:=RJ hwt;simp only [Nat.sub_zero] at ho';rw [hoL] at ho';cases ho';exact hne hd'
     have e1:(L.setIfInBounds i true).getD k false=L.getD k false:=by
      simp [L0,Ne.symm hki]
     rw [e1];exact this
   cases hd:o.dst with
   |none=>rw [hd] at hu;exact other (by rw [hd];simp) hu
   |some d=>
    rw [hd] at hu;simp only [Act.put,Array.getElem?_setIfInBounds] at hu;by_cases hdt:d=q;subst hdt;obtain ⟨hw1,hw2⟩:=(PL jX i o hoL).1 d hd;rw [if_pos rfl,if_pos (by rw [jG];exact hw2)] at hu
    cases hu;unfold FE;rw [hw1];simp only [Ap];rw [if_pos (show (L.setIfInBounds i true).getD i false=true from (UU hiL).2 (.inl rfl)),dK];exact GS;rw [if_neg hdt] at hu;exact other (by rw [hd];simpa using hdt) hu
  refine HV (λc h=>by rw [hop] at h;cases h) ?_
  refine DA (v:=u) (w':=w') ?_ hnew';obtain ⟨dst,op,type,pos,after,guard⟩:=o;simp only at hop;subst hop;simp [execOp,resolve,invoke,builtin,DW]
 have hw: ¬Region.wanted o (yielded ops a.tmps)=true:=by
  cases hv:P0 ops.toList (HM ops.toList []) s0.σ (W.take i) dec' i (.tmp t) with
  |lit b=>
   rw [hv] at hl;simp [iG] at hl;simp [Region.wanted,hg,guardRun j want t b hg hgs hv,hl]
  |tup l=>simp [Region.wanted,hg,guardTup j want t l hg hgs hv]
  |_=>rw [hv] at hl;simp [iG] at hl
 rw [if_neg hw];refine ⟨λ_ _=>trivial,fin (by rw [hno];rfl) undef w ?_⟩
 rw [hno];exact UQ hE hmi (OQ _ _)
end
theorem FB.drew{c:Cx}{w0:World}{T:Nat->Prop}{e:UP}{s:St}{a:Act}{w:World}(r:FB c w0 T e s a w):FB c w0 T e s a {w with drawn:=w.drawn+1}:=by
 have st:Step e e w {w with drawn:=w.drawn+1}:=⟨λ_ _ h=>⟨h,rfl⟩,λ_ h=>⟨h,rfl,rfl⟩,Am _⟩
 have hb:Below w.heap.size w {w with drawn:=w.drawn+1}:=⟨rfl,rfl,rfl,Am _,λ_ _=>rfl⟩
 exact ⟨⟨r.env.apart,r.env.owned,r.env.glob.step st⟩,r.below.trans (hb.mono r.hB),r.mem.ext hb st (λ_ _ h=>h),r.live,r.foe,r.xt.step st,r.slots.step st⟩
def Zq8{α:Type}(suf:List Oper->St->VR α)(P:Program)(G:List (Nat×Spec))(X:Ext)(ops:List Oper)(s:St):VR α:=
 match rV s.σ.length ops ops 0 with
 |false=> .fail
 |true=>(k6 P G X ops (HM ops []) s.σ s.m s.nx (qI (HM ops []) ops.length) (ops.take (qI (HM ops []) ops.length)) 0 [] []).bind λp=>match gC s.nx s.m p.1 with
  |false=> .fail
  |true=>suf (ops.drop (qI (HM ops []) ops.length))
   {s with σ:=dP ops (qI (HM ops []) ops.length) p.1 p.2 s.σ 0,m:=L5 s.nx p.1 p.1 0++s.m,nx:=s.nx+qI (HM ops []) ops.length}
section
variable {P:Program}{G:List (Nat×Spec)}{X:Ext}{ops:Array Oper}{c:Cx}{w0:World}{T:Nat->Prop}{s0:St}{W:List HT}{dec:List (Nat×Bool)}
theorem xP{σ:List AV}{t:Nat}{v:AV}(h:σ[t]? =some v):σ.getD t .top=v:=by simp [List.getD,h]
theorem lW{mm:Nat}(D7:PC P G X ops.toList (HM ops.toList []) s0.σ s0.m s0.nx mm W dec)(D5:W.length=mm){L:Array Bool}{a:Act}{w:World}
  (hΦ:c.Φ s0.gh T w0)(hI:gE ops c w0 T s0 W mm L a w)(PP: ∀k,k<mm->inS L k):
  Rel c {s0 with σ:=dP ops.toList mm W dec s0.σ 0,m:=L5 s0.nx W W 0++s0.m,nx:=s0.nx+mm} a w:=by
 obtain ⟨e,hE,hB,hm0,u7,vY,qJ,jG,w8⟩:=hI.rel;refine ⟨w0,T,e,hΦ,hE,hB,?_,?_,qJ.1,qJ.2,?_,?_⟩;intro p hp;rcases List.mem_append.1 hp with hp|hp;obtain ⟨j,c,r,h1,h3,h4,h5,h6⟩:=yG hp;simp only [Ap] at h3 h5 h6;have hj:j<mm:=by rw [←D5];exact (RA.1 h1).1
 rw [h3,h5];obtain ⟨r'',hh,hk1,hk2⟩:=u7 j c (PP j hj) h1 _ h4 (λi' ci _ hci he=>by rw [rK hci he] at h6;cases h6)
 cases hu:jW W j with
 |some r'=>
  obtain ⟨i',ci,hi',hui⟩:=zR hu;have hi'm:i'<mm:=by rw [←D5];exact (RA.1 hi').1
  rw [←hk1 i' ci r' (PP i' hi'm) hi' hui];exact hh
 |none=>
  rw [←hk2 (λi' ci r' _ hci=>zS hu i' ci r' hci)];exact hh
 exact hm0 p hp;intro k hk;show k<s0.nx+mm;rcases vY k hk with h|⟨i,h1,h2⟩;omega;have:=hI.lt i h1;omega;rw [wW];simpa using jG.symm;intro t av v hav hv;rw [MP] at hav;have hv':a.tmps[t]? =some v:=by simpa using hv
 rw [Ay] at hav;obtain ⟨a0,ha0,rfl⟩:=hav;have hs:=w8 t v hv';unfold FE at hs;unfold Xt0;simp only [Ap];cases hwt:DL t ops.toList 0 with
 |none=>rw [hwt] at hs;simp only at hs ⊢;rw [xP ha0] at hs;exact hs
 |some k=>
  rw [hwt] at hs;simp only at hs ⊢;split;rename_i hb;have hk:k<mm:=by simpa [Aw] using hb
  rw [if_pos (show L.getD k false=true from PP k hk)] at hs;simp only [Qy2];cases hld:L1 dec k with
  |some d=>
   have:=(D7.1 k d hld).2;rw [this] at hs;exact hs.litOf
  |none=>exact hs
  rename_i hb;have hk: ¬k<mm:=λh=>by
   have h':Nat.blt k mm=true:=by rw [Aw];exact h
   rw [h'] at hb;cases hb
  rw [if_neg (show ¬L.getD k false=true from λh=>hk (hI.lt k h)),xP ha0] at hs;exact hs
def Zx2(n k:Nat)(L:Array Bool):Prop:=L.size=n/\ ∀j,inS L j↔j<k
theorem Wb6{ro:Option Nat}{n:Nat}{Q:Exit->Act->World->Prop}{i:Nat}{rest:List Nat}{a:Act}{w:World}(h:wpOpsIn (fr ro) n P ops Q (i::rest) a w):wpOpIn (fr ro) n P ops Q i (wpOpsIn (fr ro) n P ops Q rest) a w:=by
 rwa [wpOpsIn_cons] at h
theorem iU{α:Type}{suf:List Oper->St->VR α}(hG:VP P G)(hX:U0 P X c)(GX:P.follows .mixedOrders=true){s:St}{R:α->Prop}{Q:Exit->Act->World->Prop}(h:(Zq8 suf P G X ops.toList s).sat R){a:Act}{w:World}(r:Rel c s a w){ro:Option Nat}{n:Nat}
  (hsuf: ∀(l:List Oper) (k:Nat),l=ops.toList.drop k-> ∀(s:St) (a:Act) (w:World),(suf l s).sat R->Rel c s a w->wpOpsIn (fr ro) n P ops Q (List.range' k (ops.size-k)) a w):wpAnyIn (fr ro) n P .any ops Q ops.size (Array.replicate ops.size false) a {w with drawn:=w.drawn+1}:=by
 obtain ⟨w0,T,e,hΦ,r⟩:=r;unfold Zq8 at h;split at h;exact h.elim;rename_i jX;have h2:=VR.sat_bind h;generalize hM:HM ops.toList []=M at h2;generalize hmm:qI M ops.toList.length=mm at h2;have SR:mm<=ops.size:=by rw [←hmm];have:=bE M ops.toList.length;simpa using this
 obtain ⟨W,dec,FQ,D7,D5⟩:=wY (P:=P) (G:=G) (X:=X) (ops:=ops.toList) (M:=M) (σ0:=s.σ) (m0:=s.m) (nx0:=s.nx) (mm:=mm) (ops.toList.take mm) [] [] [] (by simp [Cd SR]) rfl h2 ⟨λk d hk=>by simp [L1] at hk,λi o O=>by simp at O⟩
 have hlen':W.length=mm:=by rw [D5];simp;omega
 subst hM;have C6: ∀k j,mm<=k->k<ops.size->j<k->((HM ops.toList []).getD k 0).testBit j=true:=by
  intro k j h1 h2 h3;exact MH (kT _ _ k (by rw [hmm];exact h1) (by simpa using h2)) h3
 have tO: ∀k o,ops[k]? =some o-> ∀j∈D3 o,j<k:=by
  intro k o ho j hj;have:=(PL jX k o (by simpa using ho)).2 j hj
  simpa using this
 have A8: ∀p∈s.m,p.1<s.nx:=by
  intro p hp;refine r.live p.1 ?_;have:=r.mem p hp;exact this.live
 obtain ⟨Zw8,FQ⟩:gC s.nx s.m W=true/\_:=by
  dsimp only at FQ
  split at FQ;exact FQ.elim;rename_i hb;exact ⟨hb,FQ⟩
 let s1:St:={s with σ:=dP ops.toList mm W dec s.σ 0,m:=L5 s.nx W W 0++s.m,nx:=s.nx+mm}
 let Inv:Array Bool->Act->World->Prop:=λL a w=>(gE ops c w0 T s W mm L a w/\ ∃k,k<mm/\ ¬inS L k)\/(∃k,mm<=k/\k<=ops.size/\Zx2 ops.size k L/\wpOpsIn (fr ro) n P ops Q (List.range' k (ops.size-k)) a w)
 have dH: ∀L a w,gE ops c w0 T s W mm L a w->(∀k,k<mm->inS L k)->Inv L a w:=by
  intro L a w hI PP;refine .inr ⟨mm,Am _,SR,⟨hI.size,λj=>⟨hI.lt j,PP j⟩⟩,?_⟩;exact hsuf (ops.toList.drop mm) mm rfl s1 a w FQ (lW D7 hlen' hΦ hI PP)
 have yZ: ∀(L:Array Bool),L.size=ops.size->Region.ready .any ops L=[]-> ∀k,k<ops.size->inS L k:=by
  intro L hsz Z k
  induction k using Nat.strongRecOn with
  |_ k ih=>
   intro hk;rcases Classical.em (inS L k) with h'|h';exact h';exfalso;have dL:k∈Region.ready .any ops L:=by
    unfold Region.ready;rw [List.mem_filter];refine ⟨List.mem_range.2 hk,?_⟩;have hok:ops[k]? =some ops[k]:=by simp [hk]
    rw [hok];simp only [Bt,GW,HF,Ax];refine ⟨?_,?_⟩;unfold inS at h';simp [L0,hsz,hk] at h' ⊢;exact h';rw [Array.all_eq_true_iff_forall_mem];intro ed hed;cases hb:Region.binds .any ed with
    |false=>simp
    |true=>
     have hj:ed.on∈D3 ops[k]:=by
      simp only [D3,List.mem_map,List.mem_filter];exact ⟨ed,⟨by simpa using hed,hb⟩,rfl⟩
     have hlt:=tO k _ hok _ hj;have:=ih ed.on hlt VO;simpa [inS] using this
   rw [Z] at dL;cases dL
 refine CI Inv ?_ ?_ ?_ ops.size _ a _ ?_ ?_
 rintro L a w i (⟨hI,k0,hk0,hk0'⟩|⟨k,hk1,hk2,⟨hsz,hfl⟩,hwp⟩) O;obtain ⟨hin,hun,o,ho,dJ⟩:=D0 O;have him:i<mm:=by
  rcases An i mm with h'|h';exact h';exfalso;exact hk0' (wR hI.dc i o (by simpa using ho) dJ k0 (C6 i k0 h' hin VO))
 refine wpOpIn_mono (λa' w' hI'=>?_) (Zb5 hG ⟨hX.c,hX.f,hX.d⟩ jX D7 hlen' SR A8 (nS Zw8) hI O him);rcases Classical.em (∀k,k<mm->inS (L.setIfInBounds i true) k) with hf|hf;exact dH _ _ _ hI' hf;refine .inl ⟨hI',?_⟩;rcases Classical.not_forall.1 hf with ⟨k,hk⟩;exact ⟨k,(Classical.not_imp.1 hk).1,(Classical.not_imp.1 hk).2⟩;obtain ⟨hin,hun,o,ho,dJ⟩:=D0 O;have hni: ¬inS L i:=qH (by rw [hsz];exact hin) hun
 have hki:k<=i:=by
             rcases An i k with h'|h';exact absurd ((hfl i).2 h') hni;exact h'
 have hdc:DC ops.toList L:=by
  intro k' o' ho' hk' j hj;have:=tO k' o' (by simpa using ho') j hj
  have:=(hfl k').1 hk';exact (hfl j).2 VO
 have hik:i=k:=by
  rcases An k i with h'|h';exfalso;have:=wR hdc i o (by simpa using ho) dJ k (C6 i k VO hin h')
  have:=(hfl k).1 this;omega;omega
 subst hik;have e1:ops.size-i=(ops.size-(i+1))+1:=VO;rw [e1,List.range'_succ] at hwp;refine wpOpIn_mono (λa' w' hwp'=>?_) (Wb6 hwp);refine .inr ⟨i+1,VO,hin,⟨by simp [hsz],λj=>?_⟩,hwp'⟩
 rw [UU (by rw [hsz];exact hin),hfl]
 omega;rintro L a w (⟨hI,k0,hk0,hk0'⟩|⟨k,hk1,hk2,⟨hsz,hfl⟩,hwp⟩) Z;exact absurd (yZ L hI.size Z k0 VO) hk0';have hkn:k=ops.size:=by
  rcases An k ops.size with h'|h';have:=(hfl k).1 (yZ L hsz Z k h');omega;omega
 subst hkn;simpa [wpOpsIn] using hwp;rintro L a w (⟨hI,_⟩|⟨k,_,_,⟨hsz,_⟩,_⟩);exact hI.size;exact hsz
 have hno: ∀k,¬inS (Array.replicate ops.size false) k:=by
  intro k hk;unfold inS at hk;rw [L0,Array.getElem?_replicate] at hk;split at hk<;>cases hk
 have hI:gE ops c w0 T s W mm (Array.replicate ops.size false) a {w with drawn:=w.drawn+1}:=by
  have r:=r.drew;refine ⟨VY,λk o _ hk=>absurd hk (hno k),λk hk=>absurd hk (hno k),e,r.env,r.below,r.mem,λi c O=>absurd O (hno i),λk hk=> .inl (r.live k hk),⟨r.foe,r.xt⟩,by simpa using r.slots.1.symm,?_⟩
  intro t v hv;have hlt:t<s.σ.length:=by
   have h1:=r.slots.1;have h2:=(PK.1 hv).1;simp at h1;omega
  have Z:=r.slots.2 t s.σ[t] v (D8 hlt) (by simpa using hv)
  unfold FE;have hg:s.σ.getD t .top=s.σ[t]:=by simp [List.getD,D8 hlt]
  split;rename_i k hk;rw [if_neg (show ¬(Array.replicate ops.size false).getD k false=true from hno k),hg];exact Z;rw [hg];exact Z
 rcases Nat.eq_zero_or_pos mm with h0|h0;exact dH _ _ _ hI (λk hk=>VO);exact .inl ⟨hI,0,h0,hno 0⟩;unfold unl;exact Ar List.countP_le_length VY
theorem E8(hG:VP P G)(hX:U0 P X c)(GX:P.follows .mixedOrders=true){s:St}{R:St->Prop}{Q:Exit->Act->World->Prop}(h:(Xn9 P G X ops.toList s).sat R){a:Act}{w:World}(r:Rel c s a w){ro:Option Nat}{n:Nat}
  (hQ: ∀s a w,R s->Rel c s a w->Q .normal a w):wpAnyIn (fr ro) n P .any ops Q ops.size (Array.replicate ops.size false) a {w with drawn:=w.drawn+1}:=
 iU (suf:=Wi6 P G X ops.toList) hG hX GX h r (uF hG hX hQ)
end
def yA(p:Nat)(o:Oper):Oper:={o with after:=o.after.push {on:=p,ground:= .data} }
def B4(p:Nat):Nat->List Oper->List Oper
 |_,[]=>[]
 | 0,o::l=>yA p o::l
 |s+1,o::l=>o::B4 p s l
theorem zJ(p:Nat): ∀(s:Nat) (l:List Oper) (i:Nat),(B4 p s l)[i]? =if i=s then (l[i]?).map (yA p) else l[i]?
 |s,[],i=>by cases s<;>simp [B4]
 | 0,o::l,i=>by cases i<;>simp [B4]
 |s+1,o::l,i=>by
  cases i with
  |zero=>simp [B4]
  |succ i=>simp [B4,zJ p s l i]
theorem PW(p:Nat): ∀(s:Nat) (l:List Oper),(B4 p s l).length=l.length
 |s,[]=>by cases s<;>rfl
 | 0,o::l=>rfl
 |s+1,o::l=>by simp [B4,PW p s l]
def pL:Op->Bool
 | .pick _ _ _=>true
 | .move _=>true
 | .assign _=>true
 |_=>false
def fP(d:Nat):Operand->Bool
 | .tmp t=> !Nat.beq t d
 |_=>true
def exB(ops:List Oper)(p s:Nat):Bool:=match ops[p]?,ops[s]? with
 |some op,some os=>match op.dst,os.op with
  |some d,.store _ x y=> !Nat.beq p s&&pL op.op&&op.guard.isNone&&os.guard.isNone&&os.dst.isNone&&fP d x&&fP d y
    &&(D3 op).all (λj=>Nat.testBit ((HM ops []).getD s 0) j)&&(List.range ops.length).all (λk=>Nat.beq k p||Nat.beq k s||Nat.testBit ((HM ops []).getD k 0) p||Nat.testBit ((HM ops []).getD s 0) k)
  |_,_=>false
 |_,_=>false
section
variable {P:Program}{F:Fence}{n:Nat}{Q:Exit->Act->World->Prop}
section
variable {Q':Exit->Act->World->Prop}
theorem Wf3(hq: ∀e a w,Q e a w->Q' e a w){o:Oper}{a:Act}{K:Act->World->Prop}{r:Result Next}(h:o.uponIn F n P a K Q r):o.uponIn F n P a K Q' r:=by
 have hl:LetsOut Q->LetsOut Q':=λ⟨a,w,h⟩=>⟨a,w,hq _ _ _ h⟩;cases r with
 |ok x w=>
  cases x<;>simp only [Oper.uponIn] at h ⊢ <;>first|exact h|skip
  refine ⟨h.1,CallsIn.mono h.2 λe w'' he=>?_⟩;cases e with
  |returned u=>exact he
  |panicked c=>exact hq _ _ _ he
  |outgrown=>exact hl he
  refine ⟨h.1,RoundIn.mono h.2 λe w'' he=>?_⟩;cases e with
  |returned u=>exact he
  |panicked c=>exact hq _ _ _ he
  |outgrown=>exact hl he
 |halt x w=>cases x<;>simp only [Oper.uponIn] at h ⊢ <;>first|exact h|exact hq _ _ _ h
theorem Wb7(hq: ∀e a w,Q e a w->Q' e a w){ops:Array Oper}{i:Nat}{K:Act->World->Prop}{a:Act}{w:World}(h:wpOpIn F n P ops Q i K a w):wpOpIn F n P ops Q' i K a w:=by
 unfold wpOpIn at h ⊢;split;rename_i ho;rw [ho] at h;exact h;rename_i o ho;rw [ho] at h;simp only at h;split;rename_i hw;rw [if_pos hw] at h;exact ⟨h.1,Wf3 hq h.2⟩;rename_i hw;rw [if_neg hw] at h;exact h
end
theorem OO{Q':Exit->Act->World->Prop}(hq: ∀e a w,Q e a w->Q' e a w){ops:Array Oper}{md:Region.Mode}: ∀{fuel:Nat} {L:Array Bool} {a:Act} {w:World},wpAnyIn F n P md ops Q fuel L a w->wpAnyIn F n P md ops Q' fuel L a w
 | 0,_,_,_,h=>⟨h.1,hq _ _ _ h.2⟩
 |fuel+1,_,_,_,h=>⟨λZ=>hq _ _ _ (h.1 Z),λi O=>Wb7 hq (wpOpIn_mono (λ_ _=>OO hq) (h.2 i O))⟩
section
variable {p s:Nat}{ops ops2:Array Oper}
theorem cA(h2:ops2.toList=B4 p s ops.toList)(tmps:Array Value):yielded ops2 tmps=yielded ops tmps:=by
 have hg: ∀j,ops2[j]? =if j=s then (ops[j]?).map (yA p) else ops[j]? :=λj=>by
  have:=zJ p s ops.toList j;rw [←h2] at this;simpa using this
 funext j;unfold yielded;rw [hg];by_cases hj:j=s;rw [if_pos hj];cases ops[j]? <;>rfl;rw [if_neg hj]
theorem zI(h2:ops2.toList=B4 p s ops.toList){i:Nat}{K:Act->World->Prop}{a:Act}{w:World}:wpOpIn F n P ops2 Q i K a w↔wpOpIn F n P ops Q i K a w:=by
 have hg: ∀j,ops2[j]? =if j=s then (ops[j]?).map (yA p) else ops[j]? :=λj=>by
  have:=zJ p s ops.toList j;rw [←h2] at this;simpa using this
 unfold wpOpIn;rw [hg,cA h2];by_cases hj:i=s;rw [if_pos hj];cases ops[i]? <;>exact Iff.rfl;rw [if_neg hj]
end
section
variable {ops:Array Oper}{i:Nat}{o:Oper}
theorem iC(hq: ∀c a w,¬Q (.panic c) a w)(ho:ops[i]? =some o)(hs:pL o.op=true)(hg:o.guard=none){K:Act->World->Prop}{a:Act}{w:World}(h:wpOpIn F n P ops Q i K a w):
  ∃v,K (a.put o.dst v) w/\ ∀(K':Act->World->Prop) w',K' (a.put o.dst v) w'->wpOpIn F n P ops Q i K' a w':=by
 have hw: ∀t,Region.wanted o (yielded ops t)=true:=λt=>by simp [Region.wanted,hg]
 have key: ∀v,(∀w,(o.semAt F.round a.eval).run P w= .ok (.value v) w)->(∀w,o.about P w a.eval=none)-> ∃v,K (a.put o.dst v) w/\ ∀(K':Act->World->Prop) w',K' (a.put o.dst v) w'->wpOpIn F n P ops Q i K' a w':=by
  intro v hv hab;refine ⟨v,?_,λK' w' hk=>?_⟩;unfold wpOpIn at h;rw [ho] at h;simp only [hw,if_true,Oper.wpIn,hv,Oper.uponIn] at h;exact h.2;unfold wpOpIn;rw [ho];simp only [hw,if_true,Oper.wpIn,hv,Oper.uponIn];exact ⟨λf hf=>(by rw [hab w'] at hf;cases hf),hk⟩
 obtain ⟨dst,op,type,pos,after,guard⟩:=o;simp only at hs hg;subst hg;cases op with
 |move x=>
  refine key (a.eval x) (λw=>?_) (λw=>rfl);rw [Oper.semAt_eq _ _ _ (λc h=>by cases h)]
  rfl
 |assign x=>
  refine key (a.eval x) (λw=>?_) (λw=>rfl);rw [Oper.semAt_eq _ _ _ (λc h=>by cases h)]
  rfl
 |pick c x y=>
  have he: ∀w,(Oper.semAt F.round a.eval ⟨dst,.pick c x y,type,pos,after,none⟩).run P w=(execOp a.eval ⟨dst,.pick c x y,type,pos,after,none⟩).run P w:=λw=>by
   rw [Oper.semAt_eq _ _ _ (λc h=>by cases h)]
  rcases Classical.em (∃b,a.eval c= .bool b) with ⟨b,hb⟩|hb;refine key (if b then a.eval x else a.eval y) (λw=>?_) (λw=>rfl)
  rw [he];simp [execOp,hb,asBool];exfalso;unfold wpOpIn at h;rw [ho] at h;simp only [hw,if_true,Oper.wpIn,he] at h;have h:=h.2;cases hc:a.eval c with
  |bool b=>exact hb ⟨b,hc⟩
  |_=>simp [execOp,hc,asBool,stuck,Oper.uponIn] at h
 |_=>simp [pL] at hs
theorem Qq5{t:TypeId}{x y:Operand}{d:Nat}{v:Value}(hq: ∀c a w,¬Q (.panic c) a w)(ho:ops[i]? =some o)(hop:o.op= .store t x y)(hg:o.guard=none)(hd:o.dst=none)(hx:fP d x=true)(hy:fP d y=true)
  {K:Act->World->Prop}{a:Act}{w:World}(h:wpOpIn F n P ops Q i K (a.put (some d) v) w):wpOpIn F n P ops Q i (λa' w'=>a'=a/\K (a.put (some d) v) w') a w:=by
 have hw: ∀t,Region.wanted o (yielded ops t)=true:=λt=>by simp [Region.wanted,hg]
 have ev: ∀z,fP d z=true->(a.put (some d) v).eval z=a.eval z:=λz hz=>Act.eval_put λd' hd'=>by
  cases hd';rintro rfl;simp [fP] at hz
 obtain ⟨dst,op,type,pos,after,guard⟩:=o;simp only at hop hg hd;subst hop hg hd;have he: ∀(b:Act),Oper.semAt F.round b.eval ⟨none,.store t x y,type,pos,after,none⟩=execOp b.eval ⟨none,.store t x y,type,pos,after,none⟩:=λb=>Oper.semAt_eq _ _ _ (λc h=>by cases h)
 have ex:execOp (a.put (some d) v).eval ⟨none,.store t x y,type,pos,after,none⟩=execOp a.eval ⟨none,.store t x y,type,pos,after,none⟩:=by
  simp only [execOp,ev x hx,ev y hy]
 unfold wpOpIn at h ⊢;rw [ho] at h ⊢;simp only [hw,if_true,Oper.wpIn,he,ex] at h ⊢;refine ⟨λf hf=>(by cases hf),?_⟩
 have h:=h.2;generalize Z:(execOp a.eval ⟨none,.store t x y,type,pos,after,none⟩).run P w=r at h;have hsk:(∃w',r= .ok .skip w')\/ ∃u w',r= .halt u w':=by
  rw [←Z];simp only [execOp,At];cases (Instr.storeAt t (a.eval x) (a.eval y)).run P w with
  |ok u w'=>exact .inl ⟨w',rfl⟩
  |halt u w'=>exact .inr ⟨u,w',rfl⟩
 rcases hsk with ⟨w',rfl⟩|⟨u,w',rfl⟩;simp only [Oper.uponIn] at h ⊢;exact ⟨rfl,h⟩;cases u<;>simp only [Oper.uponIn] at h ⊢;exact (hq _ _ _ h).elim
end
theorem Wt4{L:Array Bool}{i:Nat}(O:i<L.size)(h: ¬inS L i):L.getD i true=false:=by
 unfold inS at h;simp [L0,O] at h ⊢;exact h
theorem FG{ops:Array Oper}{L:Array Bool}{i:Nat}{o:Oper}(hsz:L.size=ops.size)(ho:ops[i]? =some o)(hn: ¬inS L i)(hd: ∀j∈D3 o,inS L j):i∈Region.ready .any ops L:=by
 have O:i<ops.size:=(PK.1 ho).1;unfold Region.ready;rw [List.mem_filter];refine ⟨List.mem_range.2 O,?_⟩;rw [ho];simp only [Bt,GW,HF,Ax];refine ⟨Wt4 (by rw [hsz];exact O) hn,?_⟩
 rw [Array.all_eq_true_iff_forall_mem];intro ed hed;cases hb:Region.binds .any ed with
 |false=>simp
 |true=>
  have hj:ed.on∈D3 o:=by
   simp only [D3,List.mem_map,List.mem_filter];exact ⟨ed,⟨by simpa using hed,hb⟩,rfl⟩
  have:=hd ed.on hj;simpa [inS] using this
theorem qK{p:Nat}{o:Oper}{j:Nat}:j∈D3 (yA p o)↔j∈D3 o\/j=p:=by
 have:D3 (yA p o)=D3 o++[p]:=by
  have h1:List.filter (Region.binds .any) [({on:=p,ground:= .data}:Edge)]=[{on:=p,ground:= .data}]:=rfl;simp [D3,yA,List.filter_append,h1]
 rw [this];simp
theorem Xa3{ops ops2:Array Oper}{p s:Nat}(h2:ops2.toList=B4 p s ops.toList)(hex:exB ops.toList p s=true)(hq: ∀c a w,¬Q (.panic c) a w):
  ∀(fuel:Nat) (L:Array Bool) (a:Act) (w:World),L.size=ops.size->DC ops.toList L->(inS L p\/ ¬inS L s)->wpAnyIn F n P .any ops2 Q fuel L a w->wpAnyIn F n P .any ops Q fuel L a w:=by
 have hg: ∀j,ops2[j]? =if j=s then (ops[j]?).map (yA p) else ops[j]? :=λj=>by
  have:=zJ p s ops.toList j;rw [←h2] at this;simpa using this
 have z8:ops2.size=ops.size:=by
  have:=PW p s ops.toList;rw [←h2] at this;simpa using this
 unfold exB at hex;split at hex
 rotate_left
 cases hex;rename_i op os hop hos;have hop:ops[p]? =some op:=by simpa using hop
 have hos:ops[s]? =some os:=by simpa using hos
 split at hex
 rotate_left
 cases hex;rename_i d t x y hd hst;simp only [HF,Option.isNone_iff_eq_none,Ax,BF,Bl,List.mem_range] at hex;obtain ⟨⟨⟨⟨⟨⟨⟨⟨hps,Jq0⟩,hgp⟩,hgs⟩,hds⟩,hx⟩,hy⟩,Xr7⟩,D7⟩:=hex;have hps:p≠s:=λh=>by rw [h] at hps;simp at hps
 have hpl:p<ops.size:=(PK.1 hop).1;have hsl:s<ops.size:=(PK.1 hos).1
 have sub: ∀L i,L.size=ops.size->i∈Region.ready .any ops2 L->i∈Region.ready .any ops L:=by
  intro L i hL O;obtain ⟨g1,g2,o,g3,g4⟩:=D0 O;have hn: ¬inS L i:=qH (by rw [hL,←z8];exact g1) g2
  rw [hg] at g3;by_cases his:i=s;rw [if_pos his,his,hos] at g3;cases g3;rw [his] at hn ⊢;exact FG hL hos hn λj hj=>g4 j (qK.2 (.inl hj));rw [if_neg his] at g3;exact FG hL g3 hn g4
 have sup: ∀L i,L.size=ops.size->i∈Region.ready .any ops L->(i≠s\/inS L p)->i∈Region.ready .any ops2 L:=by
  intro L i hL O hor;obtain ⟨g1,g2,o,g3,g4⟩:=D0 O;have hn: ¬inS L i:=qH (by rw [hL];exact g1) g2
  by_cases his:i=s;subst his;rw [hos] at g3;cases g3;refine FG (by rw [hL,z8]) (o:=yA p os) (by rw [hg,if_pos rfl,hos];rfl) hn λj hj=>?_
  rcases qK.1 hj with hj|rfl;exact g4 j hj;exact hor.resolve_left (λh=>h rfl);exact FG (by rw [hL,z8]) (by rw [hg,if_neg his];exact g3) hn g4
 have rdp: ∀L,L.size=ops.size->DC ops.toList L->s∈Region.ready .any ops L-> ¬inS L p->p∈Region.ready .any ops L:=by
  intro L hL hdc hs hn;obtain ⟨g1,g2,o,g3,g4⟩:=D0 hs;rw [hos] at g3;cases g3;exact FG hL hop hn λj hj=>wR hdc s os (by simpa using hos) g4 j (Xr7 j hj)
 have dcs: ∀L i,L.size=ops.size->DC ops.toList L->i∈Region.ready .any ops L->DC ops.toList (L.setIfInBounds i true):=by
  intro L i hL hdc O k o ho hk j hj;obtain ⟨g1,g2,o',g3,g4⟩:=D0 O;have hiL:i<L.size:=by rw [hL];exact g1
  rw [UU hiL] at hk ⊢;right;rcases hk with rfl|hk;have ho:ops[k]? =some o:=by simpa using ho
  rw [g3] at ho;cases ho;exact g4 j hj;exact hdc k o ho hk j hj
 intro fuel
 induction fuel using Nat.strongRecOn with
 |_ fuel ih=>
 intro L a w hL hdc hor h;have kY:Region.ready .any ops2 L=[]->Region.ready .any ops L=[]:=by
  intro Z;rw [List.eq_nil_iff_forall_not_mem];intro i O;have: ∃k,k∈Region.ready .any ops2 L:=by
   by_cases hc:i≠s\/inS L p;exact ⟨i,sup L i hL O hc⟩;have his:i=s:=Classical.not_not.1 λh=>hc (.inl h);have hnp: ¬inS L p:=λh=>hc (.inr h);subst his;exact ⟨p,sup L p hL (rdp L hL hdc O hnp) (.inl hps)⟩
  obtain ⟨k,hk⟩:=this;rw [Z] at hk;cases hk
 have hnil':Region.ready .any ops L=[]->Region.ready .any ops2 L=[]:=by
  intro Z;rw [List.eq_nil_iff_forall_not_mem];intro i O;have:=sub L i hL O;rw [Z] at this;cases this
 cases fuel with
 |zero=>exact ⟨kY h.1,h.2⟩
 |succ fuel=>
  refine ⟨λZ=>h.1 (hnil' Z),λi O=>?_⟩;obtain ⟨g1,g2,o,g3,g4⟩:=D0 O;have hiL:i<L.size:=by rw [hL];exact g1
  by_cases hc:i≠s\/inS L p;have h1:=(zI h2).1 (h.2 i (sup L i hL O hc));refine wpOpIn_mono (λa' w' h'=>ih fuel (Bk _) (L.setIfInBounds i true) a' w' (by simp [hL]) (dcs L i hL hdc O) ?_ h') h1
  rw [UU hiL,UU hiL];rcases hc with hc|hc;rcases hor with hor|hor;exact .inl (.inr hor);exact .inr (λh=>h.elim (λh=>hc h.symm) hor);exact .inl (.inr hc);have his:i=s:=Classical.not_not.1 λh=>hc (.inl h);have hnp: ¬inS L p:=λh=>hc (.inr h);subst his;have hpr:=rdp L hL hdc O hnp;have hpL:p<L.size:=by rw [hL];exact hpl
  have h1:=(zI h2).1 (h.2 p (sup L p hL hpr (.inl hps)));obtain ⟨v,h3,h4⟩:=iC hq hop Jq0 hgp h1;rw [hd] at h3 h4;have hsr:i∈Region.ready .any ops2 (L.setIfInBounds p true):=by
   have hn: ¬inS L i:=qH hiL g2;refine sup _ i (by simp [hL]) (FG (by simp [hL]) g3 (λhh=>?_) (λj hj=>(UU hpL).2 (.inr (g4 j hj)))) (.inr ((UU hpL).2 (.inl rfl)))
   rcases (UU hpL).1 hh with hh|hh;exact hps hh.symm;exact hn hh
  cases fuel with
  |zero=>
   have:=h3.1;rw [this] at hsr;cases hsr
  |succ f=>
   have h5:=(zI h2).1 (h3.2 i hsr);have h6:=Qq5 hq hos hst hgs hds hx hy h5;refine wpOpIn_mono ?_ h6;rintro a' w' ⟨rfl,h7⟩;have Jq9: ¬inS (L.setIfInBounds i true) p:=λhh=>by
    rcases (UU hiL).1 hh with hh|hh;exact hps hh;exact hnp hh
   have Jr5:=dcs L i hL hdc O;have Zv9:p∈Region.ready .any ops (L.setIfInBounds i true):=by
    obtain ⟨q1,q2,o',q3,q4⟩:=D0 hpr;exact FG (by simp [hL]) q3 Jq9 λj hj=>(UU hiL).2 (.inr (q4 j hj))
   refine ⟨λZ=>(by rw [Z] at Zv9;cases Zv9),λk hk=>?_⟩
   have hkp:k=p:=by
    obtain ⟨k1,k2,ok,k3,k4⟩:=D0 hk;have hnk: ¬inS (L.setIfInBounds i true) k:=qH (by simp [hL];exact k1) k2
    have hks:k≠i:=λhh=>hnk ((UU hiL).2 (.inl hh));rcases D7 k (by simpa using k1) with ((hh|hh)|hh)|hh
    exact H5 hh;exact absurd (H5 hh) hks;exact absurd (wR Jr5 k ok (by simpa using k3) k4 p hh) Jq9
    exfalso;rw [hos] at g3;cases g3;exact hnk ((UU hiL).2 (.inr (wR hdc i os (by simpa using hos) g4 k hh)))
   subst hkp;refine h4 _ _ ?_;rw [Array.setIfInBounds_comm _ _ (Ne.symm hps)];refine ih f VO _ _ _ (by simp [hL]) ?_ (.inl ?_) h7
   have:=dcs _ k (by simp [hL]) Jr5 Zv9
   rwa [Array.setIfInBounds_comm _ _ (Ne.symm hps)] at this
   rw [UU (by simp [hL];exact g1),UU hpL]
   exact .inr (.inl rfl)
end
def Qx8(ops:List Oper)(M:List Nat):List Nat->Option (Nat×Nat)
 |[]=>none
 |k::l=>match ops[k]? with
  |some o=>match o.op with
   | .store _ (.tmp t) _=>match DL t ops 0 with
    |none=>match (List.range k).find? (λp=> !Nat.testBit (M.getD k 0) p) with
     |some p=>some (p,k)
     |none=>Qx8 ops M l
    |some _=>Qx8 ops M l
   |_=>Qx8 ops M l
  |none=>none
def Xn8(P:Program)(G:List (Nat×Spec))(X:Ext)(ops:List Oper)(s:St):VR St:=match Qx8 ops (HM ops []) (List.range ops.length) with
 |some (p,k)=>match exB ops p k with
  |true=>Xn9 P G X (B4 p k ops) s
  |false=>Xn9 P G X ops s
 |none=>Xn9 P G X ops s
def Xc1{α:Type}:List (VR α)->VR α
 |[]=> .fail
 |[t]=>t
 |t::u::l=> .may True t (Xc1 (u::l))
theorem TD{α:Type}{Q:α->Prop}: ∀{l:List (VR α)},(Xc1 l).sat Q-> ∀t∈l,t.sat Q
 |[],_,_,h=>by cases h
 |[t],h,u,hu=>by
  rcases B2.1 hu with rfl;exact h
 |t::u::l,h,v,hv=>by
  rcases GT.1 hv with rfl|hv;exact h.1 trivial;exact TD h.2 v hv
def Qb8(P:Program)(G:List (Nat×Spec))(X:Ext)(ops:List Oper):Nat->Array Bool->St->VR St
 | 0,L,s=>match Region.ready .any ops.toArray L with
  |[]=> .leaf s
  |_::_=> .fail
 |f+1,L,s=>match Region.ready .any ops.toArray L with
  |[]=> .leaf s
  |l=>Xc1 (l.map λi=>match ops[i]? with
   |some o=>(j8 P G X ops o s).bind (Qb8 P G X ops f (L.setIfInBounds i true))
   |none=> .fail)
theorem jU{P:Program}{G:List (Nat×Spec)}{X:Ext}{c:Cx}(hG:VP P G)(hX:U0 P X c){ro:Option Nat}{n:Nat}{ops:Array Oper}{Q:Exit->Act->World->Prop}{R:St->Prop}(hQ: ∀s a w,R s->Rel c s a w->Q .normal a w):
  ∀(fuel:Nat) (L:Array Bool) (s:St) (a:Act) (w:World),(Qb8 P G X ops.toList fuel L s).sat R->Rel c s a w->wpAnyIn (fr ro) n P .any ops Q fuel L a w
 | 0,L,s,a,w,h,r=>by
  unfold Qb8 at h;split at h;rename_i Z;exact ⟨by simpa using Z,hQ s a w h r⟩
  exact h.elim
 |fuel+1,L,s,a,w,h,r=>by
  unfold Qb8 at h;split at h;rename_i Z;have Z:Region.ready .any ops L=[]:=by simpa using Z
  refine ⟨λ_=>hQ s a w h r,λi O=>?_⟩;rw [Z] at O;cases O;rename_i l hl;refine ⟨λZ=>absurd (by simpa using Z) hl,λi O=>?_⟩
  have hi':i∈Region.ready .any ops.toList.toArray L:=by simpa using O
  have h1:=TD h _ (List.mem_map.2 ⟨i,hi',rfl⟩);split at h1;rename_i o ho;exact j7 hG hX (by simpa using ho) (VR.sat_bind h1) r (λs' a' w' hs' hr'=>jU hG hX hQ fuel _ s' a' w' hs' hr')
  exact h1.elim
def AX(ops:List Oper)(p:Nat):List AV->List AV->Nat->List AV
 |a::l,b::l',t=>(match DL t ops 0 with
  |some k=>match Nat.beq k p with
   |true=>b
   |false=>a
  |none=>a)::AX ops p l l' (t+1)
 |l,_,_=>l
theorem AC(ops:List Oper)(p:Nat): ∀(l l':List AV) (t:Nat),(AX ops p l l' t).length=l.length
 |[],_,_=>by simp [AX]
 |a::l,[],t=>by simp [AX]
 |a::l,b::l',t=>by simp [AX,AC ops p l l' (t+1)]
theorem mX(ops:List Oper)(p:Nat): ∀(l l':List AV) (t i:Nat) (x:AV),(AX ops p l l' t)[i]? =some x->
  (l[i]? =some x/\DL (t+i) ops 0≠some p)\/(l'[i]? =some x/\DL (t+i) ops 0=some p)\/(l[i]? =some x/\l'[i]? =none)
 |[],_,_,i,x,h=>by simp [AX] at h
 |a::l,[],t,i,x,h=> .inr (.inr ⟨by simpa [AX] using h,VY⟩)
 |a::l,b::l',t,0,x,h=>by
  unfold AX at h;rw [List.getElem?_cons_zero] at h;split at h;rename_i k hk;split at h;rename_i hb;have:=H5 hb;subst this;exact .inr (.inl ⟨by simpa using h,by simpa using hk⟩)
  rename_i hb;exact .inl ⟨by simpa using h,λhe=>by rw [Bg,hk] at he;cases he;simp at hb⟩
  rename_i hk;exact .inl ⟨by simpa using h,λhe=>by rw [Bg,hk] at he;cases he⟩
 |a::l,b::l',t,i+1,x,h=>by
  unfold AX at h;rw [List.getElem?_cons_succ] at h;rcases mX ops p l l' (t+1) i x h with h|h|h;exact .inl ⟨by simpa using h.1,by rw [show t+(i+1)=t+1+i by omega];exact h.2⟩
  exact .inr (.inl ⟨by simpa using h.1,by rw [show t+(i+1)=t+1+i by omega];exact h.2⟩)
  exact .inr (.inr ⟨by simpa using h.1,by simpa using h.2⟩)
def Qf8(c:HT):Bool:=match c.add,c.upd,c.eat with
 |none,none,none=>true
 |_,_,_=>false
def gJ(p:Nat)(M:List Nat):List Nat:=M.map (λx=>Nat.lor x (2^p))
theorem Qq2{p:Nat}{M:List Nat}{k j:Nat}(h:((gJ p M).getD k 0).testBit j=true)(hj:j≠p):(M.getD k 0).testBit j=true:=by
 unfold gJ at h;rw [List.getD_eq_getElem?_getD,Bn] at h;rw [List.getD_eq_getElem?_getD];cases hm:M[k]? with
 |none=>rw [hm] at h;simp at h
 |some x=>
  rw [hm] at h;simp only [Bt,GW] at h;have h':(x ||| 2^p).testBit j=true:=h
  rw [Nat.testBit_or,Nat.testBit_two_pow] at h';simp only [Bl,vK] at h';rcases h' with h'|h';exact h';exact absurd h'.symm hj
def Xq1(o:Oper):Bool:=match o.op with
 | .store _ _ _=>true
 |_=>false
def Jo6(ops:List Oper)(p mm m0:Nat):Bool:=match ops[p]? with
 |some o=>match o.op with
  | .load _ (.tmp t)=>match DL t ops 0 with
   |none=>((ops.take m0).drop mm).any Xq1
   |some _=>false
  |_=>false
 |none=>false
def MG(ops:List Oper)(M:List Nat)(n m0:Nat):List Nat->Option (Nat×Nat)
 |[]=>none
 |p::l=>match Nat.blt p (qI (gJ p M) n)&&(Nat.blt (qI (gJ p M) n) m0&&Jo6 ops p (qI (gJ p M) n) m0) with
  |true=>some (p,qI (gJ p M) n)
  |false=>MG ops M n m0 l
theorem y6{ops:List Oper}{M:List Nat}{n m0:Nat}{p mm:Nat}: ∀{l:List Nat},MG ops M n m0 l=some (p,mm)->p<mm/\mm=qI (gJ p M) n
 |[],h=>by cases h
 |q::l,h=>by
  unfold MG at h;split at h;rename_i hb;cases h;simp only [HF,Aw] at hb;exact ⟨hb.1,rfl⟩;exact y6 h
def A5(n mm:Nat)(p:Option Nat):Array Bool:=((List.range n).map λk=>Nat.blt k mm&&(match p with
 |some q=> !Nat.beq k q
 |none=>true)).toArray
theorem SF{n mm:Nat}{p:Option Nat}{k:Nat}:inS (A5 n mm p) k↔k<n/\k<mm/\p≠some k:=by
 unfold inS A5;rw [L0];simp only [List.getElem?_toArray,Bn];rcases An k n with h|h;rw [List.getElem?_range h];simp only [Bt,GW,HF,Aw];cases p with
 |none=>simp [h]
 |some q=>
  simp only [Ax,ne_eq,HL];constructor;rintro ⟨h1,h2⟩;exact ⟨h,h1,λhe=>by subst he;simp at h2⟩
  rintro ⟨_,h1,h2⟩;refine ⟨h1,?_⟩;cases hb:Nat.beq k q;rfl;exact absurd (H5 hb).symm h2
 rw [Br (by simpa using h)]
 simp;omega
theorem IS(n mm:Nat)(p:Option Nat):(A5 n mm p).size=n:=by simp [A5]
theorem Qk6{n:Nat}{L L':Array Bool}(h:L.size=n)(h':L'.size=n)(hk: ∀k,k<n->(inS L k↔inS L' k)):L=L':=by
 refine Array.ext VO λk h1 h2=>?_;have:=hk k VO;unfold inS at this;simp only [L0,Array.getElem?_eq_getElem h1,Array.getElem?_eq_getElem h2,GW] at this;exact Bool.eq_iff_iff.2 this
def Xn6(P:Program)(G:List (Nat×Spec))(X:Ext)(ops:List Oper)(p mm:Nat)(s:St):VR St:=
 match rV s.σ.length ops ops 0 with
 |false=> .fail
 |true=>(k6 P G X ops (HM ops []) s.σ s.m s.nx mm (ops.take mm) 0 [] []).bind λq=>match gC s.nx s.m q.1&&Qf8 (q.1.getD p DK) with
  |false=> .fail
  |true=> .may True (Qb8 P G X ops ops.length (A5 ops.length mm none) {s with σ:=dP ops mm q.1 q.2 s.σ 0,m:=L5 s.nx q.1 q.1 0++s.m,nx:=s.nx+mm})
    (Qb8 P G X ops ops.length (A5 ops.length mm (some p)) {s with σ:=AX ops p (dP ops mm q.1 q.2 s.σ 0) s.σ 0,m:=L5 s.nx q.1 q.1 0++s.m,nx:=s.nx+mm})
section
variable {P:Program}{G:List (Nat×Spec)}{X:Ext}{ops:Array Oper}{c:Cx}{w0:World}{T:Nat->Prop}{s0:St}{W:List HT}{dec:List (Nat×Bool)}
theorem Ws8{mm p:Nat}(D7:PC P G X ops.toList (HM ops.toList []) s0.σ s0.m s0.nx mm W dec)(D5:W.length=mm){L:Array Bool}{a:Act}{w:World}
  (hΦ:c.Φ s0.gh T w0)(hI:gE ops c w0 T s0 W mm L a w)(PP: ∀k,k<mm->k≠p->inS L k)(hnp: ¬inS L p)(hpm:p<mm)(SQ:Qf8 (W.getD p DK)=true):
  Rel c {s0 with σ:=AX ops.toList p (dP ops.toList mm W dec s0.σ 0) s0.σ 0,m:=L5 s0.nx W W 0++s0.m,nx:=s0.nx+mm} a w:=by
 have hpc: ∀cp,W[p]? =some cp->cp.add=none/\cp.upd=none/\cp.eat=none:=by
  intro cp hcp;have e:W.getD p DK=cp:=by rw [List.getD_eq_getElem?_getD,hcp];rfl
  rw [e] at SQ;unfold Qf8 at SQ;split at SQ;rename_i h1 h2 h3;exact ⟨h1,h2,h3⟩;cases SQ
 obtain ⟨e,hE,hB,hm0,u7,vY,qJ,jG,w8⟩:=hI.rel;refine ⟨w0,T,e,hΦ,hE,hB,?_,?_,qJ.1,qJ.2,?_,?_⟩;intro q hq;rcases List.mem_append.1 hq with hq|hq;obtain ⟨j,c,r,h1,h3,h4,h5,h6⟩:=yG hq;simp only [Ap] at h3 h5 h6;have hj:j<mm:=by rw [←D5];exact (RA.1 h1).1
 have hjp:j≠p:=by
  rintro rfl;rw [(hpc c h1).1] at h4;cases h4
 rw [h3,h5];obtain ⟨r'',hh,hk1,hk2⟩:=u7 j c (PP j hj hjp) h1 _ h4 (λi' ci _ hci he=>by rw [rK hci he] at h6;cases h6)
 cases hu:jW W j with
 |some r'=>
  obtain ⟨i',ci,hi',hui⟩:=zR hu;have hi'm:i'<mm:=by rw [←D5];exact (RA.1 hi').1
  have hip:i'≠p:=by
   rintro rfl;rw [(hpc ci hi').2.1] at hui;cases hui
  rw [←hk1 i' ci r' (PP i' hi'm hip) hi' hui];exact hh
 |none=>
  rw [←hk2 (λi' ci r' _ hci=>zS hu i' ci r' hci)];exact hh
 exact hm0 q hq;intro k hk;show k<s0.nx+mm;rcases vY k hk with h|⟨i,h1,h2⟩;omega;have:=hI.lt i h1;omega;rw [AC,wW];simpa using jG.symm;intro t av v hav hv;have hv':a.tmps[t]? =some v:=by simpa using hv
 have hs:=w8 t v hv';have old: ∀x,(dP ops.toList mm W dec s0.σ 0)[t]? =some x->DL t ops.toList 0≠some p->Rep e w x v:=by
  intro x hav hwp;rw [MP] at hav;rw [Ay] at hav;obtain ⟨a0,ha0,rfl⟩:=hav;unfold FE at hs;unfold Xt0;simp only [Ap];cases hwt:DL t ops.toList 0 with
  |none=>rw [hwt] at hs;simp only at hs ⊢;rw [xP ha0] at hs;exact hs
  |some k=>
   rw [hwt] at hs;have hkp:k≠p:=by
    rintro rfl;exact hwp hwt
   simp only at hs ⊢;split;rename_i hb;have hk:k<mm:=by simpa [Aw] using hb
   rw [if_pos (show L.getD k false=true from PP k hk hkp)] at hs;simp only [Qy2];cases hld:L1 dec k with
   |some d=>
    have:=(D7.1 k d hld).2;rw [this] at hs;exact hs.litOf
   |none=>exact hs
   rename_i hb;have hk: ¬k<mm:=λh=>by
    have h':Nat.blt k mm=true:=by rw [Aw];exact h
    rw [h'] at hb;cases hb
   rw [if_neg (show ¬L.getD k false=true from λh=>hk (hI.lt k h)),xP ha0] at hs;exact hs
 rcases mX ops.toList p _ _ 0 t av hav with ⟨h1,h2⟩|⟨h1,h2⟩|⟨h1,h2⟩;exact old av h1 (by simpa using h2)
 rw [Ap] at h2;unfold FE at hs;rw [h2] at hs;simp only at hs;rw [if_neg (show ¬L.getD p false=true from hnp),xP h1] at hs;exact hs;exfalso;have hlt:=(RA.1 h1).1;rw [wW] at hlt;rw [D8 hlt] at h2;cases h2
theorem iR(hG:VP P G)(hX:U0 P X c)(GX:P.follows .mixedOrders=true){p mm:Nat}(hpm:p<mm)(hmm:mm=qI (gJ p (HM ops.toList [])) ops.toList.length){s:St}{R:St->Prop}{Q:Exit->Act->World->Prop}(h:(Xn6 P G X ops.toList p mm s).sat R){a:Act}{w:World}(r:Rel c s a w){ro:Option Nat}{n:Nat}
  (hQ: ∀s a w,R s->Rel c s a w->Q .normal a w):wpAnyIn (fr ro) n P .any ops Q ops.size (Array.replicate ops.size false) a {w with drawn:=w.drawn+1}:=by
 obtain ⟨w0,T,e,hΦ,r⟩:=r;unfold Xn6 at h;split at h;exact h.elim;rename_i jX;have h2:=VR.sat_bind h;have SR:mm<=ops.size:=by rw [hmm];have:=bE (gJ p (HM ops.toList [])) ops.toList.length;simpa using this
 obtain ⟨W,dec,FQ,D7,D5⟩:=wY (P:=P) (G:=G) (X:=X) (ops:=ops.toList) (M:=HM ops.toList []) (σ0:=s.σ) (m0:=s.m) (nx0:=s.nx) (mm:=mm) (ops.toList.take mm) [] [] [] (by simp [Cd SR]) rfl h2 ⟨λk d hk=>by simp [L1] at hk,λi o O=>by simp at O⟩
 have hlen':W.length=mm:=by rw [D5];simp;omega
 have C6: ∀k j,mm<=k->k<ops.size->j<k->j≠p->((HM ops.toList []).getD k 0).testBit j=true:=by
  intro k j h1 h2 h3 h4;exact Qq2 (MH (kT _ _ k (by rw [←hmm];exact h1) (by simpa using h2)) h3) h4
 have tO: ∀k o,ops[k]? =some o-> ∀j∈D3 o,j<k:=by
  intro k o ho j hj;have:=(PL jX k o (by simpa using ho)).2 j hj
  simpa using this
 have A8: ∀p∈s.m,p.1<s.nx:=by
  intro p hp;refine r.live p.1 ?_;have:=r.mem p hp;exact this.live
 obtain ⟨⟨Zw8,SQ⟩,FQ⟩:(gC s.nx s.m W=true/\Qf8 (W.getD p DK)=true)/\_:=by
  dsimp only at FQ
  split at FQ;exact FQ.elim;rename_i hb;rw [HF] at hb;exact ⟨hb,FQ⟩
 have Qv1:ops.toList.length=ops.size:=VY
 let Inv:Array Bool->Act->World->Prop:=λL a w=>(gE ops c w0 T s W mm L a w/\ ∃k,k<mm/\k≠p/\ ¬inS L k)\/(L.size=ops.size/\ ∃fuel,wpAnyIn (fr ro) n P .any ops Q fuel L a w)
 have dH: ∀L a w,gE ops c w0 T s W mm L a w->(∀k,k<mm->k≠p->inS L k)->Inv L a w:=by
  intro L a w hI PP;rcases Classical.em (inS L p) with hp|hp;have hL:L=A5 ops.toList.length mm none:=Qk6 hI.size (by rw [IS];exact Qv1) λk hk=>by
   rw [SF];refine ⟨λh=>⟨VO,hI.lt k h,VY⟩,λh=>?_⟩;rcases Nat.decEq k p with he|he;exact PP k h.2.1 he;rw [he];exact hp
  refine .inr ⟨hI.size,ops.toList.length,?_⟩;rw [hL];exact jU hG hX hQ _ _ _ a w (FQ.1 trivial) (lW D7 hlen' hΦ hI λk hk=>by
   rcases Nat.decEq k p with he|he;exact PP k hk he;rw [he];exact hp)
  have hL:L=A5 ops.toList.length mm (some p):=Qk6 hI.size (by rw [IS];exact Qv1) λk hk=>by
   rw [SF];refine ⟨λh=>⟨VO,hI.lt k h,λhe=>by cases he;exact hp h⟩,λh=>PP k h.2.1 λhe=>h.2.2 (by rw [he])⟩
  refine .inr ⟨hI.size,ops.toList.length,?_⟩;rw [hL];exact jU hG hX hQ _ _ _ a w FQ.2 (Ws8 D7 hlen' hΦ hI PP hp hpm SQ)
 have yZ: ∀(L:Array Bool),L.size=ops.size->Region.ready .any ops L=[]-> ∀k,k<ops.size->inS L k:=by
  intro L hsz Z k
  induction k using Nat.strongRecOn with
  |_ k ih=>
   intro hk;rcases Classical.em (inS L k) with h'|h';exact h';exfalso;have dL:k∈Region.ready .any ops L:=by
    unfold Region.ready;rw [List.mem_filter];refine ⟨List.mem_range.2 hk,?_⟩;have hok:ops[k]? =some ops[k]:=by simp [hk]
    rw [hok];simp only [Bt,GW,HF,Ax];refine ⟨?_,?_⟩;unfold inS at h';simp [L0,hsz,hk] at h' ⊢;exact h';rw [Array.all_eq_true_iff_forall_mem];intro ed hed;cases hb:Region.binds .any ed with
    |false=>simp
    |true=>
     have hj:ed.on∈D3 ops[k]:=by
      simp only [D3,List.mem_map,List.mem_filter];exact ⟨ed,⟨by simpa using hed,hb⟩,rfl⟩
     have hlt:=tO k _ hok _ hj;have:=ih ed.on hlt VO;simpa [inS] using this
   rw [Z] at dL;cases dL
 refine CI Inv ?_ ?_ ?_ ops.size _ a _ ?_ ?_
 rintro L a w i (⟨hI,k0,hk0,hkp,hk0'⟩|⟨hsz,fuel,hwp⟩) O;obtain ⟨hin,hun,o,ho,dJ⟩:=D0 O;have him:i<mm:=by
  rcases An i mm with h'|h';exact h';exfalso;exact hk0' (wR hI.dc i o (by simpa using ho) dJ k0 (C6 i k0 h' hin VO hkp))
 refine wpOpIn_mono (λa' w' hI'=>?_) (Zb5 hG ⟨hX.c,hX.f,hX.d⟩ jX D7 hlen' SR A8 (nS Zw8) hI O him);rcases Classical.em (∀k,k<mm->k≠p->inS (L.setIfInBounds i true) k) with hf|hf;exact dH _ _ _ hI' hf;refine .inl ⟨hI',?_⟩;rcases Classical.not_forall.1 hf with ⟨k,hk⟩;obtain ⟨h1,h2⟩:=Classical.not_imp.1 hk;obtain ⟨h3,h4⟩:=Classical.not_imp.1 h2;exact ⟨k,h1,h3,h4⟩;cases fuel with
 |zero=>
  have h1:Region.ready .any ops L=[]:=hwp.1;rw [h1] at O;cases O
 |succ fuel=>
  refine wpOpIn_mono (λa' w' hwp'=> .inr ⟨by simp [hsz],fuel,hwp'⟩) (hwp.2 i O)
 rintro L a w (⟨hI,k0,hk0,hkp,hk0'⟩|⟨hsz,fuel,hwp⟩) Z;exact absurd (yZ L hI.size Z k0 VO) hk0';cases fuel with
 |zero=>exact hwp.2
 |succ fuel=>exact hwp.1 Z
 rintro L a w (⟨hI,_⟩|⟨hsz,_⟩);exact hI.size;exact hsz
 have hno: ∀k,¬inS (Array.replicate ops.size false) k:=by
  intro k hk;unfold inS at hk;rw [L0,Array.getElem?_replicate] at hk;split at hk<;>cases hk
 have hI:gE ops c w0 T s W mm (Array.replicate ops.size false) a {w with drawn:=w.drawn+1}:=by
  have r:=r.drew;refine ⟨VY,λk o _ hk=>absurd hk (hno k),λk hk=>absurd hk (hno k),e,r.env,r.below,r.mem,λi c O=>absurd O (hno i),λk hk=> .inl (r.live k hk),⟨r.foe,r.xt⟩,by simpa using r.slots.1.symm,?_⟩
  intro t v hv;have hlt:t<s.σ.length:=by
   have h1:=r.slots.1;have h2:=(PK.1 hv).1;simp at h1;omega
  have Z:=r.slots.2 t s.σ[t] v (D8 hlt) (by simpa using hv)
  unfold FE;have hg:s.σ.getD t .top=s.σ[t]:=by simp [List.getD,D8 hlt]
  split;rename_i k hk;rw [if_neg (show ¬(Array.replicate ops.size false).getD k false=true from hno k),hg];exact Z;rw [hg];exact Z
 rcases Classical.em (∀k,k<mm->k≠p->inS (Array.replicate ops.size false) k) with hf|hf;exact dH _ _ _ hI hf;refine .inl ⟨hI,?_⟩;rcases Classical.not_forall.1 hf with ⟨k,hk⟩;obtain ⟨h1,h2⟩:=Classical.not_imp.1 hk;obtain ⟨h3,h4⟩:=Classical.not_imp.1 h2;exact ⟨k,h1,h3,h4⟩;unfold unl;exact Ar List.countP_le_length VY
end
def pR(P:Program)(G:List (Nat×Spec))(X:Ext)(ops:List Oper)(s:St):VR St:=match Qx8 ops (HM ops []) (List.range ops.length) with
 |some _=>Xn8 P G X ops s
 |none=>match MG ops (HM ops []) ops.length (qI (HM ops []) ops.length) (List.range ops.length) with
  |some (p,mm)=>Xn6 P G X ops p mm s
  |none=>Xn8 P G X ops s
section
variable {P:Program}{F:Fence}{n:Nat}{Q:Exit->Act->World->Prop}
def Wm6(ops:List Oper):Bool:=ops.all λo=>match o.op with
 | .defer _=>false
 | .select _ _=>false
 |_=>true
def mvB(ops:List Oper)(p s:Nat):Bool:=match ops[p]? with
 |some op=>match op.op,op.dst with
  | .move x,some d=> !Nat.beq p s&&op.guard.isNone&&(D3 op).isEmpty&&Wm6 ops&&(List.range ops.length).all (λj=>Nat.beq j p||(match ops[j]? with
   |some oj=>(D3 oj).any (Nat.beq p)||op.apart ops.toArray oj
   |none=>true))
  |_,_=>false
 |none=>false
section
variable {ops:Array Oper}
theorem ON{p:Nat}{op:Oper}{x:Operand}{v:Value}(ho:ops[p]? =some op)(hop:op.op= .move x)(hg:op.guard=none){K:Act->World->Prop}{a:Act}{w:World}(hv:a.eval x=v)(h:K (a.put op.dst v) w):wpOpIn F n P ops Q p K a w:=by
 obtain ⟨dst,o,type,pos,after,guard⟩:=op;simp only at hop hg h;subst hop hg;unfold wpOpIn;rw [ho];have hw:Region.wanted (⟨dst,.move x,type,pos,after,none⟩:Oper) (yielded ops a.tmps)=true:=by simp [Region.wanted]
 have hs:(Oper.semAt F.round a.eval ⟨dst,.move x,type,pos,after,none⟩).run P w= .ok (.value v) w:=by
  rw [Oper.semAt_eq _ _ _ (λc h=>by cases h)]
  simp [execOp,hv]
 simp only [hw,if_true,Oper.wpIn,hs,Oper.uponIn];exact ⟨λf hf=>(by cases hf),h⟩
theorem a8{j:Nat}{oi oj:Oper}{x:Operand}{v:Value}(hj:ops[j]? =some oj)(hap:oi.apart ops oj=true)(hmv:oi.op= .move x)
  (hdj: ∀c,oj.op≠ .defer c)(hsj: ∀cs b,oj.op≠ .select cs b)(hQ: ∀c a w,¬Q (.panic c) a w){K:Act->World->Prop}{a:Act}{w:World}
  (hy:a.eval x=v)(h:wpOpIn F n P ops Q j K (a.put oi.dst v) w):
  wpOpIn F n P ops Q j (λa' w'=>a'.eval x=v/\K (a'.put oi.dst v) w') a w:=by
 obtain ⟨h1,h2,h3⟩:=Oper.apart_spec hap;have keep: ∀u,(a.put oj.dst u).eval x=v:=λu=>by
  rw [Act.eval_put λd hd hxd=>h3 d hd ?_];exact hy;subst hxd;exact Bd _ (List.mem_filterMap.2 ⟨.tmp d,by rw [hmv];simp [Op.operands],rfl⟩)
 unfold wpOpIn at*;simp only [hj] at*;rw [wanted_put oj a oi.dst v h1,about_put oj w a oi.dst v h1] at h;split
 ·rename_i hw;simp only [hw,if_true] at h;unfold Oper.wpIn at*;rw [about_put oj w a oi.dst v h1] at h;refine ⟨h.1,?_⟩;have h:=h.2;rw [Oper.semAt_eq _ _ _ hdj,execOp_put oj hsj a oi.dst v h1] at h;rw [Oper.semAt_eq _ _ _ hdj];generalize (execOp a.eval oj).run P w=r at*;cases r with
  |ok y w'=>
   cases y<;>simp only [Oper.uponIn] at h ⊢
   case value u=>exact ⟨keep u,by rw [←Act.put_comm a v u h2];exact h⟩
   case skip=>exact ⟨keep _,by rw [←Act.put_comm a v undef h2];exact h⟩
   case defer d=>
    refine ⟨?_,?_⟩;rw [show (({a with defers:=d::a.defers}:Act).put oj.dst undef).eval x=(a.put oj.dst undef).eval x from by cases oj.dst<;>cases x<;>rfl]
    exact keep undef;rw [←Act.put_comm _ v undef h2,←Act.put_defers];exact h
   case enter f args=>
    refine ⟨h.1,CallsIn.mono h.2 λe w'' he=>?_⟩;cases e with
    |returned u=>exact ⟨keep u,by rw [←Act.put_comm a v u h2];exact he⟩
    |panicked c=>exact (hQ _ _ _ he).elim
    |outgrown=>exact he
   case row row args=>exact ⟨h.1,RowsIn.mono h.2 λu w'' he=>⟨keep u,by rw [←Act.put_comm a v u h2];exact he⟩⟩
   case round l f tmps assign body=>
    refine ⟨h.1,RoundIn.mono h.2 λe w'' he=>?_⟩;cases e with
    |returned u=>exact ⟨keep u,by rw [←Act.put_comm a v u h2];exact he⟩
    |panicked c=>exact (hQ _ _ _ he).elim
    |outgrown=>exact he
  |halt u w'=>
   cases u<;>simp only [Oper.uponIn] at h ⊢
   case panic u=>exact (hQ _ _ _ h).elim
 rename_i hw;simp only [hw] at h;exact ⟨h.1,keep _,by rw [←Act.put_comm a v undef h2];exact h.2⟩
theorem sP{p:Nat}{op:Oper}{x:Operand}{v:Value}(O:ops[p]? =some op)(hop:op.op= .move x)(hg:op.guard=none)
  (hnd: ∀(j:Nat) (o:Oper),ops[j]? =some o->(∀c,o.op≠ .defer c)/\ ∀cs b,o.op≠ .select cs b)(hQ: ∀c a w,¬Q (.panic c) a w)
  (Wv2: ∀j oj,ops[j]? =some oj->j≠p->(∀k∈D3 oj,k≠p)->op.apart ops oj=true):
  ∀(fuel:Nat) (L:Array Bool) (a:Act) (w:World),L.size=ops.size-> ¬inS L p->p∈Region.ready .any ops L->a.eval x=v->
   wpAnyIn F n P .any ops Q fuel (L.setIfInBounds p true) (a.put op.dst v) w->wpAnyIn F n P .any ops Q (fuel+1) L a w:=by
 have hpl:p<ops.size:=(PK.1 O).1;have mono: ∀(L:Array Bool) (j:Nat),L.size=ops.size->j∈Region.ready .any ops L->j≠p->j∈Region.ready .any ops (L.setIfInBounds p true):=by
  intro L j hL hj hne;obtain ⟨g1,g2,o,g3,g4⟩:=D0 hj;have hpL:p<L.size:=by rw [hL];exact hpl
  refine FG (by simp [hL]) g3 (λhh=>?_) (λk hk=>(UU hpL).2 (.inr (g4 k hk)))
  rcases (UU hpL).1 hh with hh|hh;exact hne hh;exact qH (by rw [hL];exact g1) g2 hh
 intro fuel
 induction fuel with
 |zero=>
  intro L a w hL hn Z hy H;refine ⟨λh=>(by rw [h] at Z;cases Z),λj hj=>?_⟩
  by_cases hjp:j=p;subst hjp;exact ON O hop hg hy H;have:=mono L j hL hj hjp;rw [H.1] at this;cases this
 |succ fuel ih=>
  intro L a w hL hn Z hy H;refine ⟨λh=>(by rw [h] at Z;cases Z),λj hj=>?_⟩
  by_cases hjp:j=p;subst hjp;exact ON O hop hg hy H;have h1:=H.2 j (mono L j hL hj hjp);obtain ⟨g1,g2,oj,g3,g4⟩:=D0 hj;have hap:=Wv2 j oj g3 hjp λk hk he=>hn (he▸g4 k hk);have h2:=a8 g3 hap hop (hnd j oj g3).1 (hnd j oj g3).2 hQ hy h1;have hjL:j<L.size:=by rw [hL];exact g1
  refine wpOpIn_mono (λa' w' h3=>ih (L.setIfInBounds j true) a' w' (by simp [hL]) (λhh=>?_) ?_ h3.1 ?_) h2
  rcases (UU hjL).1 hh with hh|hh;exact hjp hh.symm;exact hn hh;obtain ⟨q1,q2,o',q3,q4⟩:=D0 Z;refine FG (by simp [hL]) q3 (λhh=>?_) λk hk=>(UU hjL).2 (.inr (q4 k hk))
  rcases (UU hjL).1 hh with hh|hh;exact hjp hh.symm;exact hn hh;rw [Array.setIfInBounds_comm _ _ hjp];exact h3.2
end
theorem Qx9{ops ops2:Array Oper}{p s:Nat}(h2:ops2.toList=B4 p s ops.toList)(hmv:mvB ops.toList p s=true)(hq: ∀c a w,¬Q (.panic c) a w){a:Act}{w:World}
  (h:wpAnyIn F n P .any ops2 Q ops.size (Array.replicate ops.size false) a w):wpAnyIn F n P .any ops Q ops.size (Array.replicate ops.size false) a w:=by
 have hg: ∀j,ops2[j]? =if j=s then (ops[j]?).map (yA p) else ops[j]? :=λj=>by
  have:=zJ p s ops.toList j;rw [←h2] at this;simpa using this
 have z8:ops2.size=ops.size:=by
  have:=PW p s ops.toList;rw [←h2] at this;simpa using this
 unfold mvB at hmv;split at hmv
 rotate_left
 cases hmv;rename_i op hop;have hop:ops[p]? =some op:=by simpa using hop
 split at hmv
 rotate_left
 cases hmv;rename_i x d hx hd;simp only [HF,Option.isNone_iff_eq_none,Ax,BF,Bl,List.mem_range,List.isEmpty_iff] at hmv;obtain ⟨⟨⟨⟨hps,hgd⟩,tO⟩,hnd⟩,D7⟩:=hmv;have hps:p≠s:=λh=>by rw [h] at hps;simp at hps
 have hpl:p<ops.size:=(PK.1 hop).1;have hnd': ∀(j:Nat) (o:Oper),ops[j]? =some o->(∀c,o.op≠ .defer c)/\ ∀cs b,o.op≠ .select cs b:=by
  intro j o ho;unfold Wm6 at hnd;have:=BF.1 hnd o (by
   have:ops.toList[j]? =some o:=by simpa using ho
   exact F9 this)
  exact ⟨λc hc=>(by rw [hc] at this;cases this),λcs b hc=>(by rw [hc] at this;cases this)⟩
 have Wv2: ∀j oj,ops[j]? =some oj->j≠p->(∀k∈D3 oj,k≠p)->op.apart ops oj=true:=by
  intro j oj hj hne hno;have hjl:j<ops.toList.length:=by simpa using (PK.1 hj).1
  rcases D7 j hjl with h|h;exact absurd (H5 h) hne;have hj':ops.toList[j]? =some oj:=by simpa using hj
  rw [hj'] at h;simp only [Bl] at h;rcases h with h|h;exfalso;obtain ⟨k,hk,hb⟩:=List.any_eq_true.1 h;exact hno k hk (H5 hb).symm;simpa using h
 have sub: ∀L i,L.size=ops.size->i∈Region.ready .any ops2 L->i∈Region.ready .any ops L:=by
  intro L i hL O;obtain ⟨g1,g2,o,g3,g4⟩:=D0 O;have hn: ¬inS L i:=qH (by rw [hL,←z8];exact g1) g2
  rw [hg] at g3;by_cases his:i=s;rw [if_pos his,Ay] at g3;obtain ⟨os,hos,rfl⟩:=g3;exact FG hL hos hn λj hj=>g4 j (qK.2 (.inl hj));rw [if_neg his] at g3;exact FG hL g3 hn g4
 have sup: ∀L i,L.size=ops.size->i∈Region.ready .any ops L->inS L p->i∈Region.ready .any ops2 L:=by
  intro L i hL O hp;obtain ⟨g1,g2,o,g3,g4⟩:=D0 O;have hn: ¬inS L i:=qH (by rw [hL];exact g1) g2
  by_cases his:i=s;refine FG (by rw [hL,z8]) (o:=yA p o) (by rw [hg,if_pos his,g3];rfl) hn λj hj=>?_
  rcases qK.1 hj with hj|rfl;exact g4 j hj;exact hp;exact FG (by rw [hL,z8]) (by rw [hg,if_neg his];exact g3) hn g4
 have hA: ∀(fuel:Nat) (L:Array Bool) (a:Act) (w:World),L.size=ops.size->inS L p->wpAnyIn F n P .any ops2 Q fuel L a w->wpAnyIn F n P .any ops Q fuel L a w:=by
  intro fuel
  induction fuel with
  |zero=>
   intro L a w hL hp h;refine ⟨?_,h.2⟩;rw [List.eq_nil_iff_forall_not_mem];intro i O;have:=sup L i hL O hp;rw [h.1] at this;cases this
  |succ fuel ih=>
   intro L a w hL hp h;refine ⟨λZ=>h.1 ?_,λi O=>?_⟩;rw [List.eq_nil_iff_forall_not_mem];intro i O;have:=sub L i hL O;rw [Z] at this;cases this;have hiL:i<L.size:=by rw [hL];exact (D0 O).1
   exact wpOpIn_mono (λa' w' h'=>ih (L.setIfInBounds i true) a' w' (by simp [hL]) ((UU hiL).2 (.inr hp)) h') ((zI h2).1 (h.2 i (sup L i hL O hp)))
 have hno: ∀j,¬inS (Array.replicate ops.size false) j:=by
  intro j hj;unfold inS at hj;rw [L0,Array.getElem?_replicate] at hj;split at hj<;>cases hj
 have hL0:(Array.replicate ops.size false).size=ops.size:=VY;obtain ⟨f,hf⟩: ∃f,ops.size=f+1:=⟨ops.size-1,VO⟩;rw [show wpAnyIn F n P .any ops2 Q ops.size (Array.replicate ops.size false) a w=wpAnyIn F n P .any ops2 Q (f+1) (Array.replicate ops.size false) a w by rw [←hf]] at h
 rw [show wpAnyIn F n P .any ops Q ops.size (Array.replicate ops.size false) a w=wpAnyIn F n P .any ops Q (f+1) (Array.replicate ops.size false) a w by rw [←hf]]
 have hp0:p∈Region.ready .any ops (Array.replicate ops.size false):=FG hL0 hop (hno p) (λj hj=>by rw [tO] at hj;cases hj)
 have hp2:p∈Region.ready .any ops2 (Array.replicate ops.size false):=FG (by rw [hL0,z8]) (o:=op) (by rw [hg,if_neg hps];exact hop) (hno p) (λj hj=>by rw [tO] at hj;cases hj)
 have h3:=(zI h2).1 (h.2 p hp2)
 have h4:wpAnyIn F n P .any ops2 Q f ((Array.replicate ops.size false).setIfInBounds p true) (a.put op.dst (a.eval x)) w:=by
  obtain ⟨dst,o,type,pos,after,guard⟩:=op;simp only at hx hgd;subst hx hgd;unfold wpOpIn at h3;rw [hop] at h3;have hw:Region.wanted (⟨dst,.move x,type,pos,after,none⟩:Oper) (yielded ops a.tmps)=true:=by simp [Region.wanted]
  have hs:(Oper.semAt F.round a.eval ⟨dst,.move x,type,pos,after,none⟩).run P w= .ok (.value (a.eval x)) w:=by
   rw [Oper.semAt_eq _ _ _ (λc h=>by cases h)]
   simp [execOp]
  simp only [hw,if_true,Oper.wpIn,hs,Oper.uponIn] at h3;exact h3.2
 exact sP hop hx hgd hnd' hq Wv2 f _ a w hL0 (hno p) hp0 rfl (hA f _ _ w VY ((UU (by simpa using hpl)).2 (.inl rfl)) h4)
end
def mvGo(ops:List Oper)(k:Nat):Option Nat:=(List.range k).find? λp=> !Nat.testBit ((HM ops []).getD k 0) p&&mvB ops p k
def Wi7(P:Program)(G:List (Nat×Spec))(X:Ext):Nat->List Oper->St->VR St
 | 0,ops,s=>pR P G X ops s
 |f+1,ops,s=>match Qx8 ops (HM ops []) (List.range ops.length) with
  |some (p,k)=>match exB ops p k with
   |true=>pR P G X ops s
   |false=>match mvGo ops k with
    |some q=>match mvB ops q k with
     |true=>Wi7 P G X f (B4 q k ops) s
     |false=>pR P G X ops s
    |none=>match MG ops (HM ops []) ops.length (qI (HM ops []) ops.length) (List.range ops.length) with
     |some (p,mm)=>Xn6 P G X ops p mm s
     |none=>pR P G X ops s
  |none=>pR P G X ops s
theorem kJ{P:Program}{G:List (Nat×Spec)}{X:Ext}{ops:Array Oper}{c:Cx}(hG:VP P G)(hX:U0 P X c)(GX:P.follows .mixedOrders=true){s:St}{R:St->Prop}{Q:Exit->Act->World->Prop}(h:(pR P G X ops.toList s).sat R){a:Act}{w:World}(r:Rel c s a w){ro:Option Nat}{n:Nat}
  (hQ: ∀s a w,R s->Rel c s a w->Q .normal a w)(hno: ∀c a w,¬Q (.panic c) a w):wpAnyIn (fr ro) n P .any ops Q ops.size (Array.replicate ops.size false) a {w with drawn:=w.drawn+1}:=by
 have hE: ∀h:(Xn8 P G X ops.toList s).sat R,wpAnyIn (fr ro) n P .any ops Q ops.size (Array.replicate ops.size false) a {w with drawn:=w.drawn+1}:=by
  intro h;unfold Xn8 at h;split at h;rename_i p k _;split at h;rename_i hex;have h1:=E8 (ops:=(B4 p k ops.toList).toArray) (Q:=Q) hG hX GX (ro:=ro) (n:=n) (R:=R) (by simpa using h) r hQ
  have hs:(B4 p k ops.toList).toArray.size=ops.size:=by simp [PW]
  rw [hs] at h1;have hno': ∀j,¬inS (Array.replicate ops.size false) j:=by
   intro j hj;unfold inS at hj;rw [L0,Array.getElem?_replicate] at hj;split at hj<;>cases hj
  exact Xa3 rfl hex hno ops.size _ a _ VY (λj o _ hj=>absurd hj (hno' j)) (.inr (hno' k)) h1;exact E8 hG hX GX h r hQ;exact E8 hG hX GX h r hQ
 unfold pR at h;split at h;exact hE h;split at h;rename_i p mm hf;obtain ⟨h1,h2⟩:=y6 hf;exact iR hG hX GX h1 h2 h r hQ;exact hE h
theorem iT{P:Program}{G:List (Nat×Spec)}{X:Ext}{c:Cx}(hG:VP P G)(hX:U0 P X c)(GX:P.follows .mixedOrders=true){s:St}{R:St->Prop}{Q:Exit->Act->World->Prop}{a:Act}{w:World}(r:Rel c s a w){ro:Option Nat}{n:Nat}
  (hQ: ∀s a w,R s->Rel c s a w->Q .normal a w)(hno: ∀c a w,¬Q (.panic c) a w): ∀(f:Nat) (ops:Array Oper),(Wi7 P G X f ops.toList s).sat R->wpAnyIn (fr ro) n P .any ops Q ops.size (Array.replicate ops.size false) a {w with drawn:=w.drawn+1}
 | 0,ops,h=>kJ hG hX GX h r hQ hno
 |f+1,ops,h=>by
  unfold Wi7 at h;split at h;rename_i p0 k _;split at h;exact kJ hG hX GX h r hQ hno;split at h;rename_i q _;split at h;rename_i hb;have h1:=iT (ro:=ro) (n:=n) hG hX GX r hQ hno f (B4 q k ops.toList).toArray (by simpa using h)
  have hs:(B4 q k ops.toList).toArray.size=ops.size:=by simp [PW]
  rw [hs] at h1;exact Qx9 rfl hb hno h1;exact kJ hG hX GX h r hQ hno;split at h;rename_i p mm hf;obtain ⟨h1,h2⟩:=y6 hf;exact iR hG hX GX h1 h2 h r hQ;exact kJ hG hX GX h r hQ hno;exact kJ hG hX GX h r hQ hno
theorem pT{P:Program}{G:List (Nat×Spec)}{X:Ext}{f:Nat}{ops:Array Oper}{c:Cx}(hG:VP P G)(hX:U0 P X c)(GX:P.follows .mixedOrders=true){id:Nat}{s:St}{R:St->Prop}{Q:Exit->Act->World->Prop}(h:(Wi7 P G X f ops.toList s).sat R){a:Act}{w:World}(r:Rel c s a w){ro:Option Nat}{n:Nat}
  (hQ: ∀s a w,R s->Rel c s a w->Q .normal a w):(Code.region id ops true).wpIn (fr ro) n P Q a w:=by
 refine wpIn_region_any GX ?_
 let Q':Exit->Act->World->Prop:=λe a w=>match e with
  | .normal=>Q .normal a w
  |_=>False
 refine OO (Q:=Q') (λe a w hq=>?_) (iT (Q:=Q') hG hX GX r hQ (λc a w hq=>hq) f ops h);cases e<;>first|exact hq|exact hq.elim
def zW:Op->Bool
 | .move _=>true
 | .assign _=>true
 | .extract _ _=>true
 | .nilCheck _=>true
 | .fieldAddr _ _ _=>true
 | .load _ _=>true
 | .lookup _ _ _ _=>true
 |_=>false
def Zt6:Op->Bool
 | .lookup _ _ _ _=>true
 |_=>false
section
variable {P:Program}
def stT(P:Program):List Oper->St->VR St
 |[],s=> .leaf s
 |o::rest,s=>match o.guard with
  |some _=> .fail
  |none=>match zW o.op with
   |false=> .fail
   |true=>match aop P [] s.nx s.m (rho s.σ) o.op with
    |some (ns,val,_)=> .needT ns (stT P rest {s with σ:=xQ s.σ o.dst val})
    |none=>match nP P s.m (rho s.σ) o.op with
     |some (ns,p,v1,v2)=> .needT ns (.may p (stT P rest {s with σ:=xQ s.σ o.dst v1}) (stT P rest {s with σ:=xQ s.σ o.dst v2}))
     |none=> .fail
section
variable {o:Oper}{a:Act}{w:World}
theorem L8{v:Value}{K:Act->Prop}(h:(execOp a.eval o).run P w= .ok (.value v) w)(k:K (a.put o.dst v)):o.still P a w K:=by
 unfold Oper.still;rw [h];exact ⟨rfl,k⟩
theorem iA{s:Sem Value}{K:Act->Prop}(hs:execOp a.eval o=(do pure (.value (←s))))(h:o.wp P a w (λa' w'=>w'=w/\K a') (λ_ _ _=>False)):o.still P a w K:=by
 unfold Oper.wp at h;rw [hs,At] at h;unfold Oper.still;rw [hs,At];cases Z:s.run P w with
 |ok u w'=>
  rw [Z] at h;simp only [Au,Bv,Oper.upon] at h;simp only [Au,Bv,Oper.stillUpon];exact h
 |halt x w'=>
  rw [Z] at h;cases x<;>simp [Result.andThen,Oper.upon] at h
end
section
variable {e:UP}{w:World}{m:HA}
theorem Wa1{id:Nat}{ρ:Operand->AV}{o:Oper}{a:Act}{ns:List Prop}{val:AV}{add:Option GU}(ho:zW o.op=true)
  (h:aop P [] id m ρ o.op=some (ns,val,add))(hn: ∀p∈ns,p)(hm:G5 e m w)(Z: ∀x,Rep e w (ρ x) (a.eval x))
  {K:Act->Prop}(hK: ∀v,Rep e w val v->K (a.put o.dst v)):o.still P a w K:=by
 obtain ⟨dst,op,type,pos,after,guard⟩:=o;cases op<;>try (simp [zW] at ho;done)
 case move x=>
  simp only [aop,HL,FI] at h;obtain ⟨rfl,rfl,rfl⟩:=h;exact L8 (v:=a.eval x) (by simp [execOp]) (hK _ (Z x))
 case assign x=>
  simp only [aop,HL,FI] at h;obtain ⟨rfl,rfl,rfl⟩:=h;exact L8 (v:=a.eval x) (by simp [execOp]) (hK _ (Z x))
 case load t x=>
  obtain ⟨rfl,ad,u,hv,hu,GS⟩:=kP (P:=P) (by simpa only [aop] using h) hn hm (Z x)
  exact L8 (v:=u) (by simp [execOp,Instr.loadAt,Instr.sureAddr,hv,hu]) (hK _ GS)
 case nilCheck x=>
  simp only [aop] at h;have hx:=Z x;have fin:val=ρ x->(∃ad,a.eval x= .pointer (some ad))\/(∃f l l',a.eval x= .func (.func f) l l')->Oper.still P ⟨dst,.nilCheck x,type,pos,after,guard⟩ a w K:=by
   rintro rfl hv;refine L8 (v:=a.eval x) ?_ (hK _ (Z x));rcases hv with ⟨ad,hv⟩|⟨f,l,l',hv⟩<;>simp [execOp,hv]
  split at h;rename_i heq;rw [heq] at hx;cases h;exact fin heq.symm (.inl hx.ptr_inv);rename_i heq;rw [heq] at hx;cases h;exact fin heq.symm (.inl hx.ro_inv);rename_i heq;rw [heq] at hx;cases h;exact fin heq.symm (.inl hx.elt_inv);rename_i heq;rw [heq] at hx;cases h;exact fin heq.symm (.inl hx.roI_inv);rename_i heq;rw [heq] at hx;cases h;obtain ⟨vs,vs',hv,_⟩:=hx.fn_inv;exact fin heq.symm (.inr ⟨_,_,_,hv⟩);cases h
 case fieldAddr t x k=>
  simp only [aop] at h;unfold wP at h;split at h;rename_i fs hu;split at h;rename_i f hf;split at h;rename_i i O;split at h;cases h;rename_i s hs;obtain ⟨k1,rfl,rfl⟩:=RL h;obtain ⟨ad,hv,GS⟩:=uE k1 (Z x);refine L8 (v:=_) ?_ (hK _ GS);simp [execOp,hv,Instr.fieldAt,run_underlying hu,hf,Instr.sureAddr,fieldPlace,sizeOf,typeInfo,O,hs];cases h;cases h;cases h
 case extract x i=>
  simp only [aop] at h;have hx:=Z x;split at h;rename_i l heq;rw [heq] at hx;obtain ⟨k1,rfl,rfl⟩:=RL h;obtain ⟨vs,hv,hvs⟩:=hx.tup_inv;obtain ⟨u,hu,GS⟩:=hvs.get k1;exact L8 (v:=u) (by simp [execOp,Instr.extract,hv,hu]) (hK _ GS)
  cases h
 case lookup t x k ok=>
  obtain ⟨rfl,u,h1,h2⟩:=A4 (P:=P) (by simpa only [aop] using h) (Z x) (Z k)
  exact L8 (v:=u) (by simp [execOp,h1]) (hK _ h2)
theorem Qb7{ρ:Operand->AV}{o:Oper}{a:Act}{ns:List Prop}{p:Prop}{v1 v2:AV}(ho:zW o.op=true)(h:nP P m ρ o.op=some (ns,p,v1,v2))(hn: ∀p∈ns,p)(hm:G5 e m w)(Z: ∀x,Rep e w (ρ x) (a.eval x))
  {K:Act->Prop}(hK: ∀v,(p/\Rep e w v1 v)\/Rep e w v2 v->K (a.put o.dst v)):o.still P a w K:=by
 have hwp:=N5 (P:=P) (o:=o) (a:=a) (K:=λa' w'=>w'=w/\K a') (Q:=λ_ _ _=>False) h hn hm Z (λv hv=>⟨rfl,hK v hv⟩);obtain ⟨dst,op,type,pos,after,guard⟩:=o;cases op<;>try (simp [zW] at ho;done)
 case lookup t x k ok=>exact iA rfl hwp
 all_goals simp [nP] at h
end
theorem yO{ops:Array Oper}{c:Cx}{w0:World}{T:Nat->Prop}{e:UP}{w:World}{R:St->Prop}{g:Option Nat}: ∀(l:List Oper) (s:St) (a:Act),(stT P l s).sat R->s.gh=g->FB c w0 T e s a w->
  wpStill P ops w (λa'=> ∃s',R s'/\s'.gh=g/\FB c w0 T e s' a' w) l a
 |[],s,a,h,hg,r=>⟨s,h,hg,r⟩
 |o::rest,s,a,h,hgh,r=>by
  unfold stT at h;split at h;exact h.elim;rename_i hg;split at h;exact h.elim;rename_i ho;have hw:Region.wanted o (yielded ops a.tmps)=true:=by simp [Region.wanted,hg]
  unfold wpStill;rw [if_pos hw];have keep: ∀{av:AV} {v:Value},Rep e w av v->FB c w0 T e {s with σ:=xQ s.σ o.dst av} (a.put o.dst v) w:=λGS=>
   ⟨r.env,r.below,r.mem,r.live,r.foe,by rw [put_defers];exact r.xt,qL r.slots o.dst GS⟩
  split at h;rename_i ns val add ha;obtain ⟨hn,h⟩:=VR.sat_needT h;exact Wa1 ho ha (GI hn) r.mem (FR r.slots) λv hv=>yO rest _ _ h hgh (keep hv);split at h;rename_i ns p v1 v2 ha;obtain ⟨hn,h⟩:=VR.sat_needT h;refine Qb7 ho ha (GI hn) r.mem (FR r.slots) λv hv=>?_;rcases hv with ⟨hp,hv⟩|hv;exact yO rest _ _ (h.1 hp) hgh (keep hv);exact yO rest _ _ h.2 hgh (keep hv);exact h.elim
theorem xK{ops:Array Oper}{md:Region.Mode}{w:World}{ro:Option Nat}{n:Nat}{Q:Act->Prop}{Q':Exit->Act->World->Prop}(hnd: ∀(j:Nat) (o:Oper),ops[j]? =some o-> ∀c,o.op≠ .defer c)(hQ: ∀a,Q a->Q' .normal a w):
  ∀(fuel:Nat) (listed:Array Bool) (a:Act),wpAnyS P md ops w Q fuel listed a->wpAnyIn (fr ro) n P md ops Q' fuel listed a w
 | 0,_,_,h=>⟨h.1,hQ _ h.2⟩
 |fuel+1,listed,a,h=>⟨λh0=>hQ _ (h.1 h0),λi O=>by
  have h:=h.2 i O;have ih:=λl a=>xK (md:=md) (ro:=ro) (n:=n) hnd hQ fuel l a;unfold stOp at h;unfold wpOpIn;cases ho:ops[i]? with
  |none=>
   simp only [ho] at h;exact ih _ _ h
  |some o=>
   simp only [ho] at h;simp only;by_cases hw:Region.wanted o (yielded ops a.tmps)=true;rw [if_pos hw] at h ⊢;exact HV (hnd i o ho) (Oper.wp_of_still (λa' h'=>ih _ a' h') h);rw [if_neg hw] at h ⊢;exact ⟨λf _=>trivial,ih _ _ h⟩⟩
def N7(ops:List Oper):Bool:=ops.any (λo=>Zt6 o.op)&&(ops.all (λo=>zW o.op)&&Region.lexB .any ops.toArray)
theorem i9{ops:Array Oper}{c:Cx}(GX:P.follows .mixedOrders=true){id:Nat}{s:St}{R:St->Prop}{Q:Exit->Act->World->Prop}(hB:N7 ops.toList=true)(h:(stT P ops.toList s).sat R){a:Act}{w:World}(r:Rel c s a w){ro:Option Nat}{n:Nat}
  (hQ: ∀s a w,R s->Rel c s a w->Q .normal a w):(Code.region id ops true).wpIn (fr ro) n P Q a w:=by
 obtain ⟨w0,T,e,hΦ,r⟩:=r;unfold N7 at hB;simp only [HF] at hB;obtain ⟨_,hs,Wv1⟩:=hB;have Wv1:Region.lexB .any ops=true:=by simpa using Wv1
 simp only [Region.lexB,HF] at Wv1;refine wpIn_region_any GX ?_;have h1:=yO (ops:=ops) ops.toList s a h rfl r.drew;have h2:=wpAnyS_lex (md:= .any) Wv1.1 ops.toList 0 (Array.replicate ops.size false) a VY (by simpa using Wv1.2) h1
 refine xK (Q:=λa'=> ∃s',R s'/\s'.gh=s.gh/\FB c w0 T e s' a' {w with drawn:=w.drawn+1}) (λj o hj c hc=>?_) ?_ ops.size _ a (by simpa using h2)
 rotate_left
 rintro a' ⟨s',hR,hgh,r'⟩;exact hQ s' a' _ hR ⟨w0,T,e,by rw [hgh];exact hΦ,r'⟩
 have:=BF.1 hs o (by
  have:ops.toList[j]? =some o:=by simpa using hj
  exact F9 this)
 rw [hc] at this;simp [zW] at this
end
def Xn7(P:Program)(G:List (Nat×Spec))(X:Ext)(ops:List Oper)(s:St):VR St:=match N7 ops with
 |true=>stT P ops s
 |false=>Wi7 P G X 4 ops s
theorem E7{P:Program}{G:List (Nat×Spec)}{X:Ext}{ops:Array Oper}{c:Cx}(hG:VP P G)(hX:U0 P X c)(GX:P.follows .mixedOrders=true){id:Nat}{s:St}{R:St->Prop}{Q:Exit->Act->World->Prop}(h:(Xn7 P G X ops.toList s).sat R){a:Act}{w:World}(r:Rel c s a w){ro:Option Nat}{n:Nat}
  (hQ: ∀s a w,R s->Rel c s a w->Q .normal a w):(Code.region id ops true).wpIn (fr ro) n P Q a w:=by
 unfold Xn7 at h;split at h;rename_i hB;exact i9 GX hB h r hQ;exact pT hG hX GX h r hQ
inductive G8 where
 |normal
 |exit (id:Nat)
 |ret
def G8.ex:G8->Exit
 | .normal=> .normal
 | .exit id=> .exit id
 | .ret=> .ret
abbrev CT:=VR (G8×St)
def EG(cx:Cx)(Q:G8×St->Prop):Exit->Act->World->Prop:=λe a w=> ∃x s,e=G8.ex x/\Q (x,s)/\Rel cx s a w
abbrev UN:=St->Option CT
def HQ(P:Program)(ro:Option Nat)(cx:Cx)(c:Code)(sp:UN):Prop:= ∀(n:Nat) (s:St) (t:CT),sp s=some t-> ∀Q:G8×St->Prop,t.sat Q-> ∀(a:Act) (w:World),Rel cx s a w->c.wpIn (fr ro) n P (EG cx Q) a w
def GD(P:Program)(c:Code)(sp:UN):Prop:= ∀(ro:Option Nat) (cx:Cx),HQ P ro cx c sp
def GK:Code->Nat
 | .seq a b=>GK a+GK b
 | .cond _ a b=>GK a+GK b
 | .block _ c=>GK c
 | .scope c=>GK c
 | .loop _=>1
 | .rangeFunc .. =>1
 |_=>0
def VX:Code->Nat->Option Code
 | .seq a b,j=>match Nat.blt j (GK a) with
  |true=>VX a j
  |false=>VX b (j-GK a)
 | .cond _ a b,j=>match Nat.blt j (GK a) with
  |true=>VX a j
  |false=>VX b (j-GK a)
 | .block _ c,j=>VX c j
 | .scope c,j=>VX c j
 | .loop c,j=>match j with
  | 0=>some (.loop c)
  |_+1=>none
 | .rangeFunc f ps a b,j=>match j with
  | 0=>some (.rangeFunc f ps a b)
  |_+1=>none
 |_,_=>none
theorem PF: ∀(c:Code) (j:Nat),GK c<=j->VX c j=none:=by
 intro c
 induction c with
 |seq a b iha ihb=>
  intro j hj;simp only [GK] at hj;unfold VX;have:Nat.blt j (GK a)=false:=by
   rw [Cb,ne_eq,Aw];omega
  rw [this];exact ihb _ VO
 |cond t a b iha ihb=>
  intro j hj;simp only [GK] at hj;unfold VX;have:Nat.blt j (GK a)=false:=by
   rw [Cb,ne_eq,Aw];omega
  rw [this];exact ihb _ VO
 |block id c ih=>intro j hj;exact ih j hj
 |scope c ih=>intro j hj;exact ih j hj
 |loop c ih=>intro j hj;simp only [GK] at hj;cases j with|zero=>omega|succ j=>rfl
 |rangeFunc f ps a b iha ihb=>intro j hj;simp only [GK] at hj;cases j with|zero=>omega|succ j=>rfl
 |_=>intro j _;rfl
def nA(s:St):Operand->Bool->St
 | .tmp t,b=>Xp5 s t b
 |_,_=>s
theorem CH{F:Fence}{n:Nat}{P:Program}{Q:Exit->Act->World->Prop}{a:Act}{w:World}{c:Code}(h:c.wpIn F n P (Exit.noGoto Q) a w):(Code.scope c).wpIn F n P Q a w:=by
 intro b k cs hro hb Z;obtain ⟨e,a₁,w₁,hq,uX⟩:=h b (.inScope c::k) cs hro hb Z;have s1:step P (lone (b.atR a (.code (.scope c)::k)) cs w)= .next (lone (b.atR a (.code c:: .inScope c::k)) cs w):=step_lone_go (by simp [stepG,stepG.exec,Frame.atR])
 have s2:step P (lone (b.atR a₁ (.inScope c::k)) cs w₁)= .next (lone (b.atR a₁ k) cs w₁):=step_lone_go (by simp [stepG,stepG.exec,Frame.atR])
 have h0:(lone (b.atR a (.code (.scope c)::k)) cs w).fenced P F:=fenced_calm hb Z rfl;cases e with
 |normal=>exact ⟨.normal,a₁,w₁,hq,.head h0 s1 (StepsIn.trans uX (.one (fenced_calm hb Z rfl) s2))⟩
 |exit id=>
  have hx:exitTo id (.inScope c::k)=exitTo id k:=by simp [exitTo]
  exact ⟨.exit id,a₁,w₁,hq,λk' hk=> .head h0 s1 (uX.1 k' (by rw [hx];exact hk)),λhr' hk=>let ⟨k₁,h1,h2⟩:=uX.2 hr' (by rw [hx];exact hk);⟨k₁,h1,.head h0 s1 h2⟩⟩
 |goto l=>exact hq.elim
 |ret=>exact ⟨_,a₁,w₁,hq,.of_steps (.one h0 s1) uX⟩
 |panic ch=>exact ⟨_,a₁,w₁,hq,.of_steps (.one h0 s1) uX⟩
 |outgrown=>exact ⟨_,a₁,w₁,hq,.of_steps (.one h0 s1) uX⟩
def DD(P:Program)(G:List (Nat×Spec))(X:Ext)(L:List UN):Code->Nat->St->CT
 | .skip,_,s=> .leaf (.normal,s)
 | .label _,_,s=> .leaf (.normal,s)
 | .region _ ops draw,_,s=>match draw with
  |true=>(Xn7 P G X ops.toList s).bind λs=> .leaf (.normal,s)
  |false=>(Wi6 P G X ops.toList ops.toList s).bind λs=> .leaf (.normal,s)
 | .seq a b,off,s=>(DD P G X L a off s).bind λp=>match p.1 with
  | .normal=>DD P G X L b (off+GK a) p.2
  |x=> .leaf (x,p.2)
 | .cond c a b,off,s=>match rho s.σ c with
  | .lit true=>DD P G X L a off s
  | .lit false=>DD P G X L b (off+GK a) s
  | .x (.bool t)=> .branch t (DD P G X L a off (nA s c true)) (DD P G X L b (off+GK a) (nA s c false))
  |_=> .fail
 | .block id c,off,s=>(DD P G X L c off s).bind λp=>match p.1 with
  | .exit i=>match Nat.beq i id with
   |true=> .leaf (.normal,p.2)
   |false=> .leaf (.exit i,p.2)
  |x=> .leaf (x,p.2)
 | .scope c,off,s=>DD P G X L c off s
 | .loop _,off,s=>match L[off]? with
  |some f=>match f s with
   |some t=>t
   |none=> .fail
  |none=> .fail
 | .rangeFunc _ _ _ _,off,s=>match L[off]? with
  |some f=>match f s with
   |some t=>t
   |none=> .fail
  |none=> .fail
 | .exit id,_,s=> .leaf (.exit id,s)
 | .ret,_,s=> .leaf (.ret,s)
 | .goto _,_,_=> .fail
 | .refuse _,_,_=> .fail
theorem dT{cx:Cx}{s:St}{a:Act}{w:World}{c:Operand}{b d:Bool}(r:Rel cx s a w)(hc:rho s.σ c= .x (.bool b))(hb:b=d):Rel cx (nA s c d) a w:=by
 obtain ⟨w0,T,e,hΦ,r⟩:=r;cases c with
 |tmp t=>exact ⟨w0,T,e,hΦ,bK r hc hb⟩
 |_=>exact ⟨w0,T,e,hΦ,r⟩
theorem DF{P:Program}{G:List (Nat×Spec)}{X:Ext}{cx:Cx}{L:List UN}(hG:VP P G)(hX:U0 P X cx)(GX:P.follows .mixedOrders=true){ro:Option Nat}{n:Nat}:
  ∀(c:Code) (off:Nat) (s:St) (Q:G8×St->Prop) (a:Act) (w:World),(∀j cj,VX c j=some cj-> ∀sp,L[off+j]? =some sp->HQ P ro cx cj sp)->(DD P G X L c off s).sat Q->Rel cx s a w->c.wpIn (fr ro) n P (EG cx Q) a w:=by
 intro c
 induction c with
 |skip=>intro off s Q a w _ h r;exact wpIn_skip ⟨.normal,s,rfl,h,r⟩
 |label l=>intro off s Q a w _ h r;exact wpIn_label ⟨.normal,s,rfl,h,r⟩
 |region id ops draw=>
  intro off s Q a w _ h r;unfold DD at h;cases draw with
  |true=>exact E7 hG hX GX (VR.sat_bind h) r (λs' a' w' hs Z=>⟨.normal,s',rfl,hs,Z⟩)
  |false=>
   refine wpIn_region ?_;have:=uF hG hX (ro:=ro) (n:=n) (ops:=ops) (Q:=EG cx Q) (R:=λs=>Q (.normal,s)) (λs' a' w' hs Z=>⟨.normal,s',rfl,hs,Z⟩) ops.toList 0 VY s a w (VR.sat_bind h) r
   rwa [Nat.sub_zero,←List.range_eq_range'] at this
 |seq x y ihx ihy=>
  intro off s Q a w hL h r;unfold DD at h;refine wpIn_seq ?_;have hx:=ihx off s _ a w (λj cj hj sp hsp=>hL j cj (by
   unfold VX;have hlt:j<GK x:=by
    rcases An j (GK x) with h'|h';exact h';exfalso;rw [PF x j h'] at hj;cases hj
   have:Nat.blt j (GK x)=true:=by rw [Aw];exact hlt
   rw [this];exact hj) sp hsp) (VR.sat_bind h) r
  refine wpIn_mono hx ?_;rintro e a' w' ⟨ex,s',rfl,hq,Z⟩;cases ex with
  |normal=>
   simp only [G8.ex,Exit.then]
   refine ihy (off+GK x) s' Q a' w' (λj cj hj sp hsp=>hL (GK x+j) cj ?_ sp (by rw [←Ba];exact hsp)) hq Z
   unfold VX;have:Nat.blt (GK x+j) (GK x)=false:=by rw [Cb,ne_eq,Aw];omega
   rw [this];simpa using hj
  |exit i=>exact ⟨.exit i,s',rfl,hq,Z⟩
  |ret=>exact ⟨.ret,s',rfl,hq,Z⟩
 |cond t x y ihx ihy=>
  intro off s Q a w hL h r;have hLx: ∀j cj,VX x j=some cj-> ∀sp,L[off+j]? =some sp->HQ P ro cx cj sp:=by
   intro j cj hj sp hsp;refine hL j cj ?_ sp hsp;unfold VX;split;exact hj;rename_i hb;exfalso;have hge:GK x<=j:=by
    rw [Cb,ne_eq,Aw] at hb;omega
   rw [PF x j hge] at hj;cases hj
  have hLy: ∀j cj,VX y j=some cj-> ∀sp,L[off+GK x+j]? =some sp->HQ P ro cx cj sp:=by
   intro j cj hj sp hsp;refine hL (GK x+j) cj ?_ sp (by rw [←Ba];exact hsp)
   unfold VX;have:Nat.blt (GK x+j) (GK x)=false:=by rw [Cb,ne_eq,Aw];omega
   rw [this];simpa using hj
  unfold DD at h;have r0:=r;obtain ⟨w0,T,e,hΦ,re⟩:=r;have hc:=FR re.slots t;split at h;rename_i heq;rw [heq] at hc;exact wpIn_cond_true hc.lit_inv (ihx off s Q a w hLx h r0);rename_i heq;rw [heq] at hc;exact wpIn_cond_false hc.lit_inv (ihy _ s Q a w hLy h r0);rename_i b heq;rw [heq] at hc;cases b;exact wpIn_cond_false hc.x_inv (ihy _ _ Q a w hLy (h.2 rfl) (dT r0 heq rfl));exact wpIn_cond_true hc.x_inv (ihx _ _ Q a w hLx (h.1 rfl) (dT r0 heq rfl));exact h.elim
 |block id c ih=>
  intro off s Q a w hL h r;unfold DD at h;refine wpIn_block (wpIn_mono (ih off s _ a w hL (VR.sat_bind h) r) ?_);rintro e a' w' ⟨ex,s',rfl,hq,Z⟩;cases ex with
  |normal=>exact ⟨.normal,s',rfl,hq,Z⟩
  |ret=>exact ⟨.ret,s',rfl,hq,Z⟩
  |exit i=>
   simp only [G8.ex,Exit.inBlock];simp only at hq;split at hq;rename_i hb;rw [if_pos (H5 hb)];exact ⟨.normal,s',rfl,hq,Z⟩;rename_i hb;rw [if_neg (λhe=>by subst he;simp at hb)]
   exact ⟨.exit i,s',rfl,hq,Z⟩
 |scope c ih=>
  intro off s Q a w hL h r;unfold DD at h;refine CH (wpIn_mono (ih off s Q a w hL h r) ?_);rintro e a' w' ⟨ex,s',rfl,hq,Z⟩;cases ex with
  |normal=>exact ⟨.normal,s',rfl,hq,Z⟩
  |ret=>exact ⟨.ret,s',rfl,hq,Z⟩
  |exit i=>exact ⟨.exit i,s',rfl,hq,Z⟩
 |loop c ih=>
  intro off s Q a w hL h r;unfold DD at h;split at h;rename_i f hf;split at h;rename_i t ht;exact hL 0 _ rfl f (by simpa using hf) n s t ht Q h a w r
  exact h.elim;exact h.elim
 |rangeFunc f ps x y ihx ihy=>
  intro off s Q a w hL h r;unfold DD at h;split at h;rename_i f hf;split at h;rename_i t ht;exact hL 0 _ rfl f (by simpa using hf) n s t ht Q h a w r
  exact h.elim;exact h.elim
 |exit id=>intro off s Q a w _ h r;exact wpIn_exit ⟨.exit id,s,rfl,h,r⟩
 |ret=>intro off s Q a w _ h r;exact wpIn_ret ⟨.ret,s,rfl,h,r⟩
 |goto l=>intro off s Q a w _ h r;exact h.elim
 |refuse y=>intro off s Q a w _ h r;exact h.elim
def Wy7(P:Program)(m:HA)(t:TypeId):AV->Bool
 | .ptr id off=>match Nat.beq off 0 with
  |true=>match DN m id with
   |some (.ints _ pre n _)=>match pre with
    |[]=>match P.info? t with
     |some i=>Nat.ble i.size n&&Nat.blt 0 n
     |none=>false
    |_::_=>false
   |_=>false
  |false=>false
 |_=>false
theorem tX{P:Program}{m:HA}{t:TypeId}{a:AV}{ns:List Prop}{v:AV}{add:Option GU}(h:Wy7 P m t a=true)(hl:BW P m t a=some (ns,v,add)): ∀p∈ns,p:=by
 unfold Wy7 at h;split at h;rename_i id off;split at h;rename_i bP;have bP:=H5 bP;subst bP;split at h;rename_i T pre n f hg;split at h;split at h;rename_i i O;simp only [HF] at h;have h1:=wD h.1;have h2:0<n:=by have:=h.2;simp [Nat.blt] at this;omega
 simp only [BW,hg] at hl;unfold ldI at hl;split at hl;rename_i hb;simp at hb;split at hl;rename_i fs i' hu hi';rw [O] at hi';cases hi';simp only [HL,FI] at hl;obtain ⟨rfl,_,_⟩:=hl;intro p hp;rw [B2.1 hp,wH];simpa using h1;rename_i fs i' hu hi';rw [O] at hi';cases hi';simp only [HL,FI] at hl;obtain ⟨rfl,_,_⟩:=hl;intro p hp;rw [B2.1 hp,wH];simpa using h1;simp only [HL,FI] at hl;obtain ⟨rfl,_,_⟩:=hl;intro p hp;rw [B2.1 hp,wH];simpa using h2;cases hl;cases h;cases h;cases h;cases h;cases h
def aI(P:Program)(s:St):ResultVar->Option AV
 | .tmp t=>some (s.σ.getD t .top)
 | .cell t T=>match BW P s.m T (s.σ.getD t .top) with
  |some ([],v,none)=>some v
  |some (_::_,v,none)=>match Wy7 P s.m T (s.σ.getD t .top) with
   |true=>some v
   |false=>none
  |_=>none
def Qr1(P:Program)(s:St):List ResultVar->Option (List AV)
 |[]=>some []
 |r::rs=>match aI P s r,Qr1 P s rs with
  |some v,some vs=>some (v::vs)
  |_,_=>none
def qC(P:Program)(s:St)(rs:List ResultVar):Option AV:=
 match Qr1 P s rs with
 |some [v]=>some v
 |some vs=>some (.tup vs)
 |none=>none
def E4(tmps:Array Value):ResultVar->Sem Value
 | .tmp t=>pure (tmps.getD t undef)
 | .cell p t=>do loadVar t (←asAddr (tmps.getD p undef))
theorem pQ(fn:Func)(tmps:Array Value):results fn tmps=(do let vs ←fn.results.mapM (E4 tmps);pure (if h:vs.size=1 then vs[0] else .tuple vs)):=by
 unfold results
 congr 1
theorem aH{P:Program}{e:UP}{s:St}{tmps:Array Value}{w:World}(hm:G5 e s.m w)(hs:U8 e w s.σ tmps.toList){x:ResultVar}{v:AV}(h:aI P s x=some v):
  ∃u,(E4 tmps x).run P w= .ok u w/\Rep e w v u:=by
 cases x with
 |tmp t=>
  simp only [aI,HL] at h;subst h;exact ⟨_,rfl,FR (a:={tmps:=tmps,defers:=[] }) hs (.tmp t)⟩
 |cell p T=>
  simp only [aI] at h;have fin: ∀(ns:List Prop) (v':AV),BW P s.m T (s.σ.getD p .top)=some (ns,v',none)->(∀p∈ns,p)->v'=v-> ∃u,(E4 tmps (.cell p T)).run P w= .ok u w/\Rep e w v u:=by
   rintro ns v' hl hn rfl;have Z:=FR (a:={tmps:=tmps,defers:=[] }) hs (.tmp p);simp only [rho,Act.eval] at Z;obtain ⟨_,ad,u,had,hu,GS⟩:=kP (P:=P) hl hn hm Z;exact ⟨u,by simp only [E4,had,asAddr,At,Bv,Au,hu],GS⟩
  split at h;rename_i v' hl;cases h;exact fin _ _ hl (λp hp=>by cases hp) rfl
  rename_i q qs v' hl;split at h;rename_i hf;cases h;exact fin _ _ hl (tX hf hl) rfl;cases h;cases h
theorem E5{P:Program}{e:UP}{s:St}{tmps:Array Value}{w:World}(hm:G5 e s.m w)(hs:U8 e w s.σ tmps.toList): ∀{rs:List ResultVar} {vs:List AV},Qr1 P s rs=some vs->
  ∃us:List Value,(rs.mapM (E4 tmps)).run P w= .ok us w/\U8 e w vs us
 |[],vs,h=>by simp [Qr1] at h;subst h;exact ⟨[],VY,U8.nil e w⟩
 |x::rs,vs,h=>by
  unfold Qr1 at h;split at h;rename_i v vs' h1 h2;cases h;obtain ⟨u,hu,Z⟩:=aH hm hs h1;obtain ⟨us,hus,hrs⟩:=E5 hm hs h2;exact ⟨u::us,by simp only [List.mapM_cons,At,hu,Au,hus,Bv],U8.cons Z hrs⟩
  cases h
theorem DS{P:Program}{e:UP}{s:St}{tmps:Array Value}{w:World}(hm:G5 e s.m w)(hs:U8 e w s.σ tmps.toList){fn:Func}{v:AV}(h:qC P s fn.results.toList=some v): ∃u,(results fn tmps).run P w= .ok u w/\Rep e w v u:=by
 unfold qC at h;have key: ∀vs,Qr1 P s fn.results.toList=some vs-> ∃us:List Value,U8 e w vs us/\(results fn tmps).run P w= .ok (if h:us.toArray.size=1 then us.toArray[0] else .tuple us.toArray) w:=by
  intro vs hvs;obtain ⟨us,hus,hrs⟩:=E5 hm hs hvs;refine ⟨us,hrs,?_⟩;rw [pQ,Array.mapM_eq_mapM_toList];simp only [At,Sem.run_map,hus,Au,Bv]
 split at h;rename_i v' hv;cases h;obtain ⟨us,hrs,DW⟩:=key _ hv;obtain ⟨u,us',rfl,hu,hus⟩:=hrs.cons_inv;cases hus.nil_inv;exact ⟨u,by simpa using DW,hu⟩
 rename_i vs hne hv;cases h;obtain ⟨us,hrs,DW⟩:=key _ hv;refine ⟨.tuple us.toArray,?_,Rep.tupL hrs⟩;have D5:us.toArray.size≠1:=by
  intro h1;simp at h1;have hvl:vs.length=1:=by rw [hrs.1,h1]
  obtain ⟨x,hx⟩:=List.length_eq_one_iff.1 hvl;exact hne x hx
 rw [dif_neg D5] at DW;exact DW;cases h
inductive kD (m:HA):AV->AV->Prop
 |top (r:AV):kD m r .top
 |x (v:Value):kD m (.x v) (.x v)
 |lit (b:Bool):kD m (.lit b) (.lit b)
 |litx (b:Bool):kD m (.lit b) (.x (.bool b))
 |agg (l l':List AV):l.length=l'.length->(∀(i:Nat) (a b:AV),l[i]? =some a->l'[i]? =some b->kD m a b)->kD m (.agg l) (.agg l')
 |tup (l l':List AV):l.length=l'.length->(∀(i:Nat) (a b:AV),l[i]? =some a->l'[i]? =some b->kD m a b)->kD m (.tup l) (.tup l')
 |row (id T sz n:Nat) (f f':Ci):DN m id=some (.row T sz n f)->(∀i,i<n->f i=f' i)->(∀i,i<n-> ∀a∈f' i,∃v,a= .x v)->kD m (.row id) (.lst sz n f')
 |nil (sz:Nat) (f:Ci):kD m (.x (.slice none 0 0)) (.lst sz 0 f)
 |fn0 (f:Fn):kD m (.fn f [] []) (.fn f [] [])
theorem kD.rep{e:UP}{B:Nat}{w0 w:World}{m:HA}(hE:GB e B w)(hB:w0.heap.size=B)(hm:G5 e m w){r res:AV}{v:Value}(h:kD m r res)(k:Rep e w r v):Rep (PS w0 w) w res v:=by
 induction h generalizing v with
 |top r=>exact .top v
 |x u=>cases k.x_inv;exact .x _
 |lit b=>cases k.lit_inv;exact .lit _
 |litx b=>cases k.lit_inv;exact .x _
 |agg l l' hl hf ih=>
  obtain ⟨vs,rfl,h1,h2⟩:=k.agg_inv;refine .agg l' vs (by rw [←hl,h1]) (λi a u ha hu=>?_)
  have O:i<l.length:=by rw [hl];exact (RA.1 ha).1
  exact ih i _ a (D8 O) ha (h2 i _ u (D8 O) hu)
 |tup l l' hl hf ih=>
  obtain ⟨vs,rfl,h1,h2⟩:=k.tup_inv;refine .tup l' vs (by rw [←hl,h1]) (λi a u ha hu=>?_)
  have O:i<l.length:=by rw [hl];exact (RA.1 ha).1
  exact ih i _ a (D8 O) ha (h2 i _ u (D8 O) hu)
 |row id T sz n f f' hg hff hx=>
  obtain ⟨_,HD,hf,xs,ho,GS⟩:=hm _ (GA hg)
  dsimp only at HD ho
  cases k with
  |row _ a n' c hl hv=>
   rw [hv] at ho HD;rcases ho.2 with ⟨hv0,hn0⟩|⟨g,cap,cur,hv0,_,hgg,hnc,hcm,hcs,kX⟩;cases hv0;subst hn0;exact .lstNil _ _;cases hv0;have hob:=HD g rfl;have hbd:=hE.owned _ _ hob;refine Rep.lst (e:=PS w0 w) (w:=w) sz _ f' g 0 _ (λi j=>xs.getD (i*sz+j) .nilIface) (λ_=>⟨by rw [hB];exact hbd.1,hbd.2⟩) (λ_=>hbd.2) (λi O a ha=>?_) hnc hcm ?_ (λi O=>by rw [←hff i O];exact (hf i O).1) ?_ _ (λ_=>rfl)
   obtain ⟨u,rfl⟩:=hx i O a ha;exact .x u;intro i j O hj;have hle:i*sz+sz<=n*sz:=by
    have:=BS sz (Az O)
    rwa [Bq] at this
   have kZ:i*sz+j<xs.length:=by rw [ho.1];omega
   have hc:=ho.cells (g:=g) rfl (i*sz+j) xs[i*sz+j] (D8 kZ);rw [DI] at hc;rw [hc];simp [List.getD,D8 kZ];intro i j a O ha;have hj:j<sz:=by rw [←(hf i O).1,hff i O];exact (RA.1 ha).1
   have hle:i*sz+sz<=n*sz:=by
    have:=BS sz (Az O)
    rwa [Bq] at this
   have kZ:i*sz+j<xs.length:=by rw [ho.1];omega
   obtain ⟨u,rfl⟩:=hx i O a (F9 ha);have:=GS i j (.x u) xs[i*sz+j] O (by rw [hff i O];exact ha) (D8 kZ)
   simp only [List.getD,D8 kZ,GW];rw [this.x_inv];exact .x _
 |nil sz f=>cases k.x_inv;exact .lstNil sz f
 |fn0 f=>
  obtain ⟨vs,vs',rfl,h1,h2⟩:=k.fn_inv;cases h1.nil_inv;cases h2.nil_inv;exact .fn f [] [] [] [] rfl (λi a v h=>by simp at h) rfl (λi a v h=>by simp at h)
def HZ(fn:Func)(avs:List AV):St:={σ:=avs++List.replicate (fn.ntmps-avs.length) .top,m:=[],nx:=0}
def Xj6(P:Program)(fn:Func)(res:AV)(p:G8×St):Prop:=(match p.1 with| .exit _=>False|_=>True)/\ ∃r,qC P p.2 fn.results.toList=some r/\kD p.2.m r res
def nD(P:Program)(G:List (Nat×Spec))(L:List UN)(c:Code)(off:Nat)(s:St):CT:=DD P G {} L c off s
theorem Rep.sameCells{e:UP}{w w':World}(hsz:w'.heap.size=w.heap.size)(hc: ∀ad,w'.cell? ad=w.cell? ad)(hmp: ∀(b:Nat) (es:Array MapEntry) (c:Nat),w.heap[b]? =some (Obj.map es c)->w'.heap[b]? =some (Obj.map es c)){a:AV}{v:Value}(h:Rep e w a v):Rep e w' a v:=by
 induction h with
 |top v=>exact .top v
 |lit b=>exact .lit b
 |x v=>exact .x v
 |agg l vs h1 h2 ih=>exact .agg l vs h1 ih
 |tup l vs h1 h2 ih=>exact .tup l vs h1 ih
 |fn f l l' vs vs' h1 h2 h3 h4 ih1 ih2=>exact .fn f l l' vs vs' h1 ih1 h3 ih2
 |ptr id off hl=>exact .ptr id off hl
 |row id a n c hl hv=>exact .row id a n c hl hv
 |elt id sz i j b n cap hl hv=>exact .elt id sz i j b n cap hl hv
 |ro l vs b o Z hb hf h1 h2 h3 ih=>exact .ro l vs b o Z (by rw [hsz];exact hb) hf h1 (λj v hj=>by rw [hc];exact h2 j v hj) ih
 |lstNil sz f=>exact .lstNil sz f
 |lst sz n f b o cap g Z hb hf Xs4 hm h1 h2 h3 ad had ih=>exact .lst sz n f b o cap g Z (λh=>by rw [hsz];exact hb h) hf Xs4 hm (λi j O hj=>by rw [hc];exact h1 i j O hj) h2 ih ad had
 |mp id hl=>exact .mp id hl
 |mpr g okf vals b es c Z hb hf h1 h2 h3 h4 h5 ih=>exact .mpr g okf vals b es c Z (by rw [hsz];exact hb) hf (hmp _ _ _ h1) h2 h3 h4 ih
 |any1 v hv=>exact .any1 v hv
 |roI pre n f off b o h ih=>exact .roI pre n f off b o ih
theorem U8.sameCells{e:UP}{w w':World}(hsz:w'.heap.size=w.heap.size)(hc: ∀ad,w'.cell? ad=w.cell? ad)(hmp: ∀(b:Nat) (es:Array MapEntry) (c:Nat),w.heap[b]? =some (Obj.map es c)->w'.heap[b]? =some (Obj.map es c)){l:List AV}{vs:List Value}(h:U8 e w l vs):U8 e w' l vs:=⟨h.1,λi a v ha hv=>(h.2 i a v ha hv).sameCells hsz hc hmp⟩
theorem BR{w:World}{D:Nat}{o o':Obj}(h:w.heap[D]? =some o)(ho:o.isCells=false)(ho':o'.isCells=false)(ad:Addr):(w.putObj D o').cell? ad=w.cell? ad:=by
 have hlt:=(PK.1 h).1;unfold World.cell?;by_cases hb:ad.block=D;rw [hb,World.putObj_heap_same hlt,h];cases o<;>cases o'<;>simp_all [Obj.isCells];rw [Bu hb]
theorem bT{e:UP}{w:World}{l:Nat}{o o':Obj}(h:D2 e w)(hl:w.heap[l]? =some o)(ho:o.isCells=false):D2 e (w.putObj l o'):=λb p hp=>by
 obtain ⟨h1,h2,q,h3,h4,h5⟩:=h b p hp;have hne:b≠l:=by
  rintro rfl;rw [hl] at h3;cases h3;rw [ho] at h4;cases h4
 exact ⟨h1,by rw [World.putObj_size];exact h2,q,(Bu hne).trans h3,h4,h5⟩
theorem qY{w:World}{D:Nat}{o o':Obj}(h:w.heap[D]? =some o)(hom: ∀es c,o≠Obj.map es c): ∀(b:Nat) (es:Array MapEntry) (c:Nat),w.heap[b]? =some (Obj.map es c)->(w.putObj D o').heap[b]? =some (Obj.map es c):=by
 intro b es c hb;have hne:b≠D:=by
  rintro rfl;rw [h] at hb;exact hom es c (Bb hb)
 rw [Bu hne];exact hb
theorem GM.putObj{e:UP}{w:World}{D:Nat}{o o':Obj}(h:w.heap[D]? =some o)(hom: ∀es c,o≠Obj.map es c)(ho:o.isCells=false)(ho':o'.isCells=false)(HD:e.own D=none){id:Nat}{r:GU}(k:GM e w id r):GM e (w.putObj D o') id r:=by
 have hsz:(w.putObj D o').heap.size=w.heap.size:=World.putObj_size;have hc:=BR h ho ho';have hmp:=qY (o':=o') h hom;have M6: ∀b k,e.own b=some k->(w.putObj D o').heap[b]? =w.heap[b]? :=λb k hb=>Bu (λhe=>by rw [he,HD] at hb;cases hb)
 cases r with
 |cells T l=>
  obtain ⟨h1,h2,vs,h3,h4⟩:=k;exact ⟨h1,h2,vs,(M6 _ _ h2).trans h3,h4.sameCells hsz hc hmp⟩
 |row T sz n f=>
  obtain ⟨h1,h2,hf,xs,h3,h4⟩:=k;refine ⟨h1,h2,hf,xs,⟨h3.1,h3.2.imp (λh=>h) ?_⟩,λi j a v O ha hv=>(h4 i j a v O ha hv).sameCells hsz hc hmp⟩;rintro ⟨g',cap,cur,hv,hg,hh,rest⟩;exact ⟨g',cap,cur,hv,hg,(M6 g' id (h2 g' (by rw [hv];rfl))).trans hh,rest⟩
 |ints T pre n f=>
  obtain ⟨h1,h2,vs,h3,h4⟩:=k;exact ⟨h1,h2,vs,(M6 _ _ h2).trans h3,h4.sameCells hsz hc hmp⟩
 |memo h' f=>
  obtain ⟨h1,h2,es,c,h3,h4⟩:=k;exact ⟨h1,h2,es,c,(M6 _ _ h2).trans h3,h4⟩
 |keep T l=>
  obtain ⟨h1,h2,h0,vs,h3,h4⟩:=k;have hne:e.blk id≠D:=by
   rintro hD;rw [←hD,h3] at h;cases h;simp [Obj.isCells] at ho
  exact ⟨h1,h2,by rw [hsz];exact h0,vs,(Bu hne).trans h3,h4.sameCells hsz hc hmp⟩
 |aka r T sz n f=>
  obtain ⟨h1,h0,o,hor,h2,hf,xs,h3,h4⟩:=k;refine ⟨h1,h0,o,hor,h2,hf,xs,⟨h3.1,h3.2.imp (λh=>h) ?_⟩,λi j a v O ha hv=>(h4 i j a v O ha hv).sameCells hsz hc hmp⟩;rintro ⟨g',cap,cur,hv,hg,hh,rest⟩;exact ⟨g',cap,cur,hv,hg,(M6 g' o (h2 g' (by rw [hv];rfl))).trans hh,rest⟩
theorem jE{P:Program}{fn:Func}{R:Ending->World->Prop}{M:Nat->Prop}{w0:World}{e:UP}{s:St}{tmps:Array Value}{n:Nat}(hB: ∀D,M D->w0.heap.size<=D)
  (fin: ∀w',GB e w0.heap.size w'->Below w0.heap.size w0 w'->G5 e s.m w'->U8 e w' s.σ tmps.toList-> ∃v,(results fn tmps).run P w'= .ok v w'/\R (.returned v) w'):
  ∀(ds:List Deferred) (w:World),TZ M e w ds->GB e w0.heap.size w->Below w0.heap.size w0 w->G5 e s.m w->U8 e w s.σ tmps.toList->LeavesInM (fr none) n P fn tmps R ds .returning w
 |[],w,_,hE,hb,hm,hs=>fin w hE hb hm hs
 |d::ds,w,hd,hE,hb,hm,hs=>by
  obtain ⟨D,h1,h2,h3,h4,h5⟩:=hd.1 d GN;refine ⟨VY,.inl ⟨D,_,by rw [h1],run_takeDeferred h4,?_⟩⟩
  have HD:=(hE.apart D h2).1;have hsz:(w.putObj D (.deferred none)).heap.size=w.heap.size:=World.putObj_size;refine jE hB fin ds _ ⟨λd' hd'=>?_,(List.nodup_cons.1 hd.2).2⟩ ⟨λb hb=>by rw [hsz];exact hE.apart b hb,λb k hk=>by rw [hsz];exact hE.owned b k hk,bT hE.glob h4 rfl⟩ ?_ (λp hp=>(hm p hp).putObj h4 (λ_ _ h=>by cases h) rfl rfl HD) (hs.sameCells hsz (BR h4 rfl rfl) (qY h4 (λ_ _ h=>by cases h)))
  obtain ⟨D',k1,k2,k3,k4,k5⟩:=hd.1 d' (D1 _ hd');have hne:D'≠D:=by
   rintro rfl;exact (List.nodup_cons.1 hd.2).1 (by rw [h1,←k1];exact hd')
  exact ⟨D',k1,k2,by rw [hsz];exact k3,(Bu hne).trans k4,k5⟩
  exact hb.trans ((Below.refl w0.heap.size w).grown (grownBy_putObj' w D _) (by have:=hb.size;have:=hB D h5;omega) (λk he=>by cases he;exact hB D h5))
def mZ(w:World)(T:Nat->Prop):Cx:={M:=λD=>w.heap.size<=D,Φ:=λ_ T' w0=>w0=w/\T'=T,K:=λ_ _=>False,saved:=[] }
theorem zL{P:Program}{G:List (Nat×Spec)}{X:Ext}{L:List UN}{f:FuncId}{fn:Func}{c:Code}{avs:List AV}(hG:VP P G)(GX:P.follows .mixedOrders=true)(hf:P.funcs[f]? =some fn)(hb:fn.body=some c)
  {cx:Cx}{gh:Option Nat}{w:World}{T:Nat->Prop}{e:UP}{args:List Value}(hX:U0 P X cx)(hK: ∀b o,¬cx.K b o)(hsv:cx.saved=[])(Qv1:cx.sz=0)(hM: ∀g T w0 D,cx.Φ g T w0->cx.M D->w0.heap.size<=D)(hΦ:cx.Φ gh T w)
  (hT: ∀b,T b->b<w.heap.size/\ ¬e.ro b)(hro: ∀b,e.ro b->b<w.heap.size)(hgl:D2 e w)(FU: ∀a∈avs,Idf a)(Z:U8 e w avs args)
  (hL: ∀j cj,VX c j=some cj-> ∀sp,L[j]? =some sp->HQ P none cx cj sp){E:G8×St->Prop}(h:(DD P G X L c 0 {HZ fn avs with gh:=gh}).sat E){R:Ending->World->Prop}
  (fin: ∀x s w0 T' e' tmps w',E (x,s)->cx.Φ s.gh T' w0->GB e' w0.heap.size w'->Below w0.heap.size w0 w'->G5 e' s.m w'->(∀b,T' b-> ¬e'.ro b)->U8 e' w' s.σ tmps.toList-> ∃v,(results fn tmps).run P w'= .ok v w'/\R (.returned v) w')
  (hex: ∀x s,E (x,s)-> ∀i,x≠ .exit i):Calls P f args.toArray w R:=by
 let e0:UP:={ro:=e.ro,own:=λ_=>none,live:=λ_=>False,blk:=λ_=>0,val:=λ_=> .nilIface}
 have hr0:U8 e0 w avs args:=⟨Z.1,λi a v ha hv=>Rep.idf (e:=e) (e':=e0) (λ_ h=>h) (Z.2 i a v ha hv) (FU a (F9 ha))⟩;have vH:Rel cx {HZ fn avs with gh:=gh} {tmps:=args.toArray++Array.replicate (fn.ntmps-args.toArray.size) undef,defers:=[] } w:=by
  refine ⟨w,T,e0,hΦ,⟨λb hb=>⟨rfl,hro b hb⟩,(λb k hk=>by cases hk),hgl⟩,Below.refl _ _,(λp hp=>by cases hp),(λk hk=>False.elim hk),hT,⟨⟨(λd hd=>by cases hd),By⟩,(λb o h=>(hK b o h).elim),⟨by rw [hsv];rfl,(λi a v h=>by cases h)⟩,by rw [Qv1];exact Ao _⟩,?_⟩
  have IZ:U8 e0 w (List.replicate (fn.ntmps-avs.length) .top) (List.replicate (fn.ntmps-avs.length) undef):=by
   refine ⟨VY,λi a v ha _=>?_⟩;have:=F9 ha;rw [List.mem_replicate] at this;rw [this.2];exact .top v
  have:=hr0.append IZ;simpa [HZ,Z.1] using this
 refine callsIn_wide (n:=0).1 (callsIn_of_wp_marks (F:=fr none) hf hb trivial (wpIn_mono (DF hG hX GX c 0 _ _ _ w (λj cj hj sp hsp=>hL j cj hj sp (by simpa using hsp)) h vH) ?_) rfl)
 rintro ex a' w' ⟨x,s',rfl,hE,w0,T',e',hΦ',re⟩;have hx:=hex x s' hE;have vJ:LeavesInM (fr none) 0 P fn a'.tmps R a'.defers .returning w':=
  jE (M:=cx.M) (s:=s') (λD hD=>hM _ _ _ D hΦ' hD) (λw2 q1 q2 q3 q4=>fin x s' w0 T' e' a'.tmps w2 hE hΦ' q1 q2 q3 (λb hb=>(re.foe b hb).2) q4) a'.defers w' re.xt.defers re.env re.below re.mem re.slots
 cases x with
 |normal=>exact vJ
 |ret=>exact vJ
 |exit i=>exact (hx i rfl).elim
def Cx.fun(cx:Cx):Prop:= ∀g T w0 D,cx.Φ g T w0->w0.heap.size<=D->cx.sz<=D->cx.M D
theorem zK(w:World)(T:Nat->Prop):(mZ w T).fun:=by
 rintro g T' w0 D ⟨rfl,_⟩ h _;exact h
section
variable {P:Program}{G:List (Nat×Spec)}
theorem kH{X:Ext}{L:List UN}{f:FuncId}{fn:Func}{c:Code}{avs:List AV}{res:AV}(hG:VP P G)(hX: ∀cx,U0 P X cx)(GX:P.follows .mixedOrders=true)(hf:P.funcs[f]? =some fn)(hb:fn.body=some c)
  (hL: ∀j cj,VX c j=some cj-> ∀sp,L[j]? =some sp-> ∀cx:Cx,cx.fun->HQ P none cx cj sp)(h:(DD P G X L c 0 (HZ fn avs)).sat (Xj6 P fn res)):U2 P f avs res:=by
 intro e w args hro hgl FU Z;refine zL hG GX hf hb (cx:=mZ w (λ_=>False)) (gh:=none) (T:=λ_=>False) (e:=e) (hX _) (λ_ _ h=>h) rfl rfl (by rintro g T w0 D ⟨rfl,_⟩ h;exact h) ⟨rfl,rfl⟩ (λb h=>h.elim) hro hgl FU Z (λj cj hj sp hsp=>hL j cj hj sp hsp _ (zK _ _)) h ?_ ?_
 rintro x s w0 T' e' tmps w' ⟨hx,r,F8,y5⟩ ⟨rfl,_⟩ q1 q2 q3 _ q4;obtain ⟨u,hu,GS⟩:=DS (P:=P) q3 q4 F8;exact ⟨u,hu,u,rfl,q2,y5.rep q1 rfl q3 GS⟩;rintro x s ⟨hx,_⟩ i rfl;exact hx
theorem pK{L:List UN}{f:FuncId}{fn:Func}{c:Code}{avs:List AV}{res:AV}(hG:VP P G)(GX:P.follows .mixedOrders=true)(hf:P.funcs[f]? =some fn)(hb:fn.body=some c)
  (hL: ∀j cj,VX c j=some cj-> ∀sp,L[j]? =some sp->GD P cj sp)(h:(nD P G L c 0 (HZ fn avs)).sat (Xj6 P fn res)):U2 P f avs res:=
 kH hG (U0.nil P) GX hf hb (λj cj hj sp hsp cx _=>hL j cj hj sp hsp none cx) h
end
inductive RV where
 |top
 |x (v:Value)
 |agg (l:List RV)
 |tup (l:List RV)
 |lst (sz n:Nat) (f:Ci)
 |fn (f:Fn)
def eX(m:HA):Nat->AV->RV
 | 0,a=>match a with
  | .lit b=> .x (.bool b)
  | .x v=> .x v
  |_=> .top
 |d+1,a=>match a with
  | .lit b=> .x (.bool b)
  | .x v=> .x v
  | .agg l=> .agg (l.map (eX m d))
  | .tup l=> .tup (l.map (eX m d))
  | .row id=>match DN m id with
   |some (.row _ sz n f)=> .lst sz n f
   |_=> .top
  | .fn f l l'=>match l,l' with
   |[],[]=> .fn f
   |_,_=> .top
  |_=> .top
def isX:AV->Prop
 | .x _=>True
 |_=>False
def UH:Value->Value->Prop
 | .int k a,.int k' b=>k=k'/\a=b
 | .bool a,.bool b=>a=b
 |u,v=>u=v
theorem eV{u v:Value}(h:UH u v):u=v:=by
 cases u<;>cases v<;>simp_all [UH]
def lU:Value->Prop
 | .slice none 0 0=>True
 |_=>False
theorem lT{v:Value}(h:lU v):v= .slice none 0 0:=by
 unfold lU at h;split at h;rfl;exact h.elim
mutual
def G6:RV->AV->Prop
 | .top,res=>match res with
  | .top=>True
  |_=>False
 | .x u,res=>match res with
  | .top=>True
  | .x v=>UH u v
  | .lst _ n _=>lU u/\n=0
  |_=>False
 | .agg l,res=>match res with
  | .top=>True
  | .agg l'=>GQ l l'
  |_=>False
 | .tup l,res=>match res with
  | .top=>True
  | .tup l'=>GQ l l'
  |_=>False
 | .lst sz n f,res=>match res with
  | .top=>True
  | .lst sz' n' f'=>sz=sz'/\n=n'/\ ∀i,i<n'->f i=f' i/\ ∀a∈f' i,isX a
  |_=>False
 | .fn f,res=>match res with
  | .top=>True
  | .fn g [] []=>f=g
  |_=>False
def GQ:List RV->List AV->Prop
 |[],l'=>match l' with
  |[]=>True
  |_::_=>False
 |r::l,l'=>match l' with
  |a::l'=>G6 r a/\GQ l l'
  |[]=>False
end
theorem MM: ∀{l:List RV} {l':List AV},GQ l l'->l.length=l'.length/\ ∀(i:Nat) (r:RV) (a:AV),l[i]? =some r->l'[i]? =some a->G6 r a
 |[],[],_=>⟨rfl,λi r a h=>by simp at h⟩
 |r::l,a::l',h=>by
  unfold GQ at h;obtain ⟨h1,h2⟩:=MM h.2;refine ⟨by simp [h1],λi r' a' Z ha=>?_⟩
  cases i with
  |zero=>simp at Z ha;subst Z;subst ha;exact h.1
  |succ i=>simp at Z ha;exact h2 i r' a' Z ha
 |[],_::_,h=>by simp [GQ] at h
 |_::_,[],h=>by simp [GQ] at h
theorem Wo7{a:AV}(h:isX a): ∃v,a= .x v:=by
 cases a<;>first|exact ⟨_,rfl⟩|exact h.elim
theorem c7{m:HA}{a:AV}{u:Value}{res:AV}(h:G6 (.x u) res)(ha: ∀v,u=v->kD m a (.x v))(hn:u= .slice none 0 0-> ∀sz f,kD m a (.lst sz 0 f)):kD m a res:=by
 cases res with
 |top=>exact .top a
 |x v=>exact ha v (eV h)
 |lst sz n f=>obtain ⟨h1,h2⟩:=h;subst h2;exact hn (lT h1) sz f
 |_=>exact h.elim
theorem rF{m:HA}: ∀(d:Nat) (a res:AV),G6 (eX m d a) res->kD m a res
 | 0,a,res,h=>by
  cases a with
  |lit b=>exact c7 h (λv hv=>by subst hv;exact .litx b) (λhu=>by cases hu)
  |x v=>exact c7 h (λu hu=>by subst hu;exact .x v) (λhu sz f=>by subst hu;exact .nil sz f)
  |_=>cases res<;>first|exact .top _|exact h.elim
 |d+1,a,res,h=>by
  have ih:=rF (m:=m) d;cases a with
  |lit b=>exact c7 h (λv hv=>by subst hv;exact .litx b) (λhu=>by cases hu)
  |x v=>exact c7 h (λu hu=>by subst hu;exact .x v) (λhu sz f=>by subst hu;exact .nil sz f)
  |agg l=>
   cases res with
   |top=>exact .top _
   |agg l'=>
    obtain ⟨h1,h2⟩:=MM (show GQ (l.map (eX m d)) l' from h);exact .agg l l' (by simpa using h1) (λi a b ha hb=>ih a b (h2 i _ b (by simp [ha]) hb))
   |_=>exact h.elim
  |tup l=>
   cases res with
   |top=>exact .top _
   |tup l'=>
    obtain ⟨h1,h2⟩:=MM (show GQ (l.map (eX m d)) l' from h);exact .tup l l' (by simpa using h1) (λi a b ha hb=>ih a b (h2 i _ b (by simp [ha]) hb))
   |_=>exact h.elim
  |row id=>
   simp only [eX] at h;split at h;rename_i T sz n f hg;cases res with
   |top=>exact .top _
   |lst sz' n' f'=>
    obtain ⟨rfl,rfl,h3⟩:=h;exact .row id T sz n f f' hg (λi O=>(h3 i O).1) (λi O a ha=>Wo7 ((h3 i O).2 a ha))
   |_=>exact h.elim
   cases res<;>first|exact .top _|exact h.elim
  |fn f l l'=>
   simp only [eX] at h;split at h;unfold G6 at h;split at h;exact .top _;subst h;exact .fn0 _;exact h.elim;cases res<;>first|exact .top _|exact h.elim
  |_=>cases res<;>first|exact .top _|exact h.elim
def tZ(P:Program)(rs:List ResultVar)(t:CT):VR RV:=t.bind λp=>match p.1 with
 | .exit _=> .fail
 |_=>match qC P p.2 rs with
  |some r=> .leaf (eX p.2.m 6 r)
  |none=> .fail
def HU(P:Program)(c:Code)(sp:UN):Prop:= ∀cx:Cx,cx.fun->HQ P none cx c sp
theorem GD.N{P:Program}{c:Code}{sp:UN}(h:GD P c sp):HU P c sp:=λcx _=>h none cx
section
variable {P:Program}
theorem zH{fn:Func}{res:AV}{t:CT}(h:(tZ P fn.results.toList t).sat (λr=>G6 r res)):t.sat (Xj6 P fn res):=by
 refine VR.sat_mono ?_ (VR.sat_bind h);rintro ⟨x,s⟩ hs;cases x with
 |exit i=>exact hs.elim
 |normal=>
  simp only at hs;split at hs;rename_i r Z;exact ⟨trivial,r,Z,rF 6 r res hs⟩;exact hs.elim
 |ret=>
  simp only at hs;split at hs;rename_i r Z;exact ⟨trivial,r,Z,rF 6 r res hs⟩;exact hs.elim
theorem U6{G:List (Nat×Spec)}{L:List UN}{f:FuncId}{fn:Func}{c:Code}{avs:List AV}{res:AV}{t:VR RV}(hG:VP P G)(GX:P.follows .mixedOrders=true)(hf:P.funcs[f]? =some fn)(hb:fn.body=some c)
  (hL: ∀j cj,VX c j=some cj-> ∀sp,L[j]? =some sp->GD P cj sp)(ht:tZ P fn.results.toList (nD P G L c 0 (HZ fn avs))=t)(h:t.sat (λr=>G6 r res)):U2 P f avs res:=by
 subst ht;exact pK hG GX hf hb hL (zH h)
theorem G7{G:List (Nat×Spec)}{X:Ext}{L:List UN}{f:FuncId}{fn:Func}{c:Code}{avs:List AV}{res:AV}{t:VR RV}(hG:VP P G)(hX: ∀cx,U0 P X cx)(GX:P.follows .mixedOrders=true)(hf:P.funcs[f]? =some fn)(hb:fn.body=some c)
  (hL: ∀j cj,VX c j=some cj-> ∀sp,L[j]? =some sp->HU P cj sp)(ht:tZ P fn.results.toList (DD P G X L c 0 (HZ fn avs))=t)(h:t.sat (λr=>G6 r res)):U2 P f avs res:=by
 subst ht;exact kH hG hX GX hf hb hL (zH h)
theorem U7{c:Code}: ∀j cj,VX c j=some cj-> ∀sp,([]:List UN)[j]? =some sp->GD P cj sp:=λj cj _ sp hsp=>by simp at hsp
end
theorem G9{S:Code->UN->Prop}{c:Code}: ∀j cj,VX c j=some cj-> ∀sp,([]:List UN)[j]? =some sp->S cj sp:=λj cj _ sp hsp=>by simp at hsp
def wA(N:Nat):Nat->AV->Bool
 | 0,a=>a.idf
 |d+1,a=>match a with
  | .ptr id _=>Nat.blt id N
  | .row id=>Nat.blt id N
  | .elt id _ _ _=>Nat.blt id N
  | .mp id=>Nat.blt id N
  | .agg l=>l.all (wA N d)
  | .tup l=>l.all (wA N d)
  | .fn _ l l'=>l.all (wA N d)&&l'.all (wA N d)
  |a=>a.idf
def UP.kill(e:UP)(N:Nat):UP:={e with live:=λk=>e.live k/\k<N}
theorem xT{e:UP}{w:World}{N:Nat}: ∀(d:Nat) (a:AV) (v:Value),wA N d a=true->Rep e w a v->Rep (e.kill N) w a v
 | 0,a,v,h,r=>Rep.idf (e:=e) (e':=e.kill N) (λ_ h=>h) r (jF r h)
 |d+1,a,v,h,r=>by
  have ih:=xT (e:=e) (w:=w) (N:=N) d;have lt: ∀id,Nat.blt id N=true->id<N:=λid hb=>by rw [Aw] at hb;exact hb
  cases r with
  |ptr id off hl=>exact .ptr (e:=e.kill N) id off ⟨hl,lt id h⟩
  |row id a n c hl hv=>exact .row (e:=e.kill N) id a n c ⟨hl,lt id h⟩ hv
  |elt id sz i j b n cap hl hv=>exact .elt (e:=e.kill N) id sz i j b n cap ⟨hl,lt id h⟩ hv
  |mp id hl=>exact .mp (e:=e.kill N) id ⟨hl,lt id h⟩
  |agg l vs h1 h2=>exact .agg l vs h1 (λi a v ha hv=>ih a v (BF.1 h a (F9 ha)) (h2 i a v ha hv))
  |tup l vs h1 h2=>exact .tup l vs h1 (λi a v ha hv=>ih a v (BF.1 h a (F9 ha)) (h2 i a v ha hv))
  |fn f l l' vs vs' h1 h2 h3 h4=>
   simp only [wA,HF] at h;exact .fn f l l' vs vs' h1 (λi a v ha hv=>ih a v (BF.1 h.1 a (F9 ha)) (h2 i a v ha hv)) h3 (λi a v ha hv=>ih a v (BF.1 h.2 a (F9 ha)) (h4 i a v ha hv))
  |top v=>exact .top v
  |lit b=>exact .lit b
  |x v=>exact .x v
  |ro l vs b o h1 h2 h3 h4 h5 h6=>exact Rep.idf (e:=e) (e':=e.kill N) (λ_ h=>h) (.ro l vs b o h1 h2 h3 h4 h5 h6) (.ro l h3)
  |mpr g okf vals b es c h1 h2 h3 h4 h5 h6 h7 h8=>exact Rep.idf (e:=e) (e':=e.kill N) (λ_ h=>h) (.mpr g okf vals b es c h1 h2 h3 h4 h5 h6 h7 h8) (.mpr g okf h3)
  |any1 v hv=>exact .any1 v hv
  |lstNil sz f=>exact .lstNil sz f
  |roI pre n f off b o Z=>exact Rep.idf (e:=e) (e':=e.kill N) (λ_ h=>h) (.roI pre n f off b o Z) (jF (Rep.roI pre n f off b o Z) rfl)
  |lst sz n f b o cap g h1 h2 h3 h4 h5 h6 h7 h8 ad had=>exact Rep.idf (e:=e) (e':=e.kill N) (λ_ h=>h) (.lst sz n f b o cap g h1 h2 h3 h4 h5 h6 h7 h8 ad had) (.lst sz n f h3)
def d9:List AV->List AV->List Prop
 |a::l,b::l'=>match b with
  | .top=>d9 l l'
  | .x (.int k y)=>match a with
   | .x (.int k' x)=>match decide (k=k') with
    |true=>(x=y)::d9 l l'
    |false=>[False]
   |_=>[False]
  | .x (.bool y)=>match a with
   | .x (.bool x)=>(x=y)::d9 l l'
   | .lit x=>(x=y)::d9 l l'
   |_=>[False]
  |b=>(a=b)::d9 l l'
 |[],[]=>[]
 |_,_=>[False]
theorem P6{e:UP}{w:World}: ∀{l l':List AV} {vs:List Value},(∀p∈d9 l l',p)->U8 e w l vs->U8 e w l' vs
 |[],[],vs,_,r=>r
 |a::l,b::l',vs,h,r=>by
  obtain ⟨v,vs',rfl,hv,hvs⟩:=r.cons_inv;unfold d9 at h;split at h;exact U8.cons (.top v) (P6 h hvs);split at h;split at h;rename_i hk;have hk':=wC hk;subst hk';have:_=_:=h _ GN;subst this;exact U8.cons hv (P6 (λp hp=>h p (D1 _ hp)) hvs);exact (h False VY).elim;exact (h False VY).elim;split at h;have:_=_:=h _ GN;subst this;exact U8.cons hv (P6 (λp hp=>h p (D1 _ hp)) hvs);have:_=_:=h _ GN;subst this;cases hv;exact U8.cons (.x _) (P6 (λp hp=>h p (D1 _ hp)) hvs);exact (h False VY).elim;have:_=_:=h _ GN;subst this;exact U8.cons hv (P6 (λp hp=>h p (D1 _ hp)) hvs)
 |[],_::_,_,h,_=>(h False (by simp [d9])).elim
 |_::_,[],_,h,_=>(h False (by simp [d9])).elim
def F2:GU->GU->List Prop
 | .cells T l,.cells T' l'=>match Nat.beq T T' with
  |true=>d9 l l'
  |false=>[False]
 | .row T sz n f,.row T' sz' n' f'=>match Nat.beq T T'&&Nat.beq sz sz' with
  |true=>[n=n',∀i,i<n'->f i=f' i]
  |false=>[False]
 | .memo h f,.memo h' f'=>[∀k,h k->h' k/\f k=f' k]
 | .ints T pre n f,.ints T' pre' n' f'=>match Nat.beq T T' with
  |true=>d9 pre pre'++[n=n',∀k,k<n'->f k=f' k]
  |false=>[False]
 | .keep T l,.keep T' l'=>match Nat.beq T T' with
  |true=>d9 l l'
  |false=>[False]
 |_,_=>[False]
theorem resEq_holds{e:UP}{w:World}{id:Nat}{r r':GU}(h: ∀p∈F2 r r',p)(k:GM e w id r):GM e w id r':=by
 cases r with
 |cells T l=>
  cases r' with
  |cells T' l'=>
   simp only [F2] at h;split at h;rename_i hb;have:T=T':=H5 hb;subst this;obtain ⟨h1,h2,vs,h3,h4⟩:=k;exact ⟨h1,h2,vs,h3,P6 h h4⟩;exact (h False VY).elim
  |row _ _ _ _=>exact (h False (by simp [F2])).elim
  |memo _ _=>exact (h False (by simp [F2])).elim
  |ints _ _ _ _=>exact (h False (by simp [F2])).elim
  |aka _ _ _ _ _=>exact (h False (by simp [F2])).elim
  |keep _ _=>exact (h False (by simp [F2])).elim
 |aka _ _ _ _ _=>cases r'<;>exact (h False (by simp [F2])).elim
 |keep T l=>
  cases r' with
  |keep T' l'=>
   simp only [F2] at h;split at h;rename_i hb;have:T=T':=H5 hb;subst this;obtain ⟨h1,h2,h0,vs,h3,h4⟩:=k;exact ⟨h1,h2,h0,vs,h3,P6 h h4⟩;exact (h False VY).elim
  |row _ _ _ _=>exact (h False (by simp [F2])).elim
  |memo _ _=>exact (h False (by simp [F2])).elim
  |ints _ _ _ _=>exact (h False (by simp [F2])).elim
  |cells _ _=>exact (h False (by simp [F2])).elim
  |aka _ _ _ _ _=>exact (h False (by simp [F2])).elim
 |ints T pre n f=>
  cases r' with
  |cells _ _=>exact (h False (by simp [F2])).elim
  |row _ _ _ _=>exact (h False (by simp [F2])).elim
  |memo _ _=>exact (h False (by simp [F2])).elim
  |aka _ _ _ _ _=>exact (h False (by simp [F2])).elim
  |keep _ _=>exact (h False (by simp [F2])).elim
  |ints T' pre' n' f'=>
   simp only [F2] at h;split at h;rename_i hb;have:T=T':=H5 hb;subst this;obtain ⟨h1,h2,vs,h3,h4⟩:=k;have hn:n=n':=h _ VY;subst hn;have hf: ∀k,k<n->f k=f' k:=h _ VY;have hL:HY n f=HY n f':=List.map_congr_left (λk hk=>by rw [hf k (List.mem_range.1 hk)])
   refine ⟨h1,h2,vs,h3,?_⟩;rw [hL] at h4;have h5:=h4.take pre.length;have h6:=h4.drop pre.length;rw [List.take_left] at h5;rw [List.drop_left] at h6;have h7:=(P6 (λp hp=>h p (Bd _ hp)) h5).append h6
   rwa [List.take_append_drop] at h7
   exact (h False VY).elim
 |memo g f=>
  cases r' with
  |cells _ _=>exact (h False (by simp [F2])).elim
  |row _ _ _ _=>exact (h False (by simp [F2])).elim
  |ints _ _ _ _=>exact (h False (by simp [F2])).elim
  |aka _ _ _ _ _=>exact (h False (by simp [F2])).elim
  |keep _ _=>exact (h False (by simp [F2])).elim
  |memo g' f'=>
   have hh: ∀k,g k->g' k/\f k=f' k:=h _ (by simp [F2])
   obtain ⟨h1,h2,es,c,h3,h4⟩:=k;exact ⟨h1,h2,es,c,h3,λx hx=>⟨(hh _ (h4 x hx).1).1,(h4 x hx).2.trans (hh _ (h4 x hx).1).2⟩⟩
 |row T sz n f=>
  cases r' with
  |memo _ _=>exact (h False (by simp [F2])).elim
  |cells _ _=>exact (h False (by simp [F2])).elim
  |ints _ _ _ _=>exact (h False (by simp [F2])).elim
  |aka _ _ _ _ _=>exact (h False (by simp [F2])).elim
  |keep _ _=>exact (h False (by simp [F2])).elim
  |row T' sz' n' f'=>
   simp only [F2] at h;split at h;rename_i hb;simp only [HF] at hb;have h1:T=T':=H5 hb.1;have h2:sz=sz':=H5 hb.2;subst h1;subst h2;have h3:n=n':=h _ VY;subst h3;have h4: ∀i,i<n->f i=f' i:=h _ VY;obtain ⟨q1,q2,q3,xs,q4,q5⟩:=k;exact ⟨q1,q2,λi O=>by rw [←h4 i O];exact q3 i O,xs,q4,λi j a v O ha hv=>q5 i j a v O (by rw [h4 i O];exact ha) hv⟩
   exact (h False VY).elim
def Wz5:GU->Bool
 | .cells _ [.x _]=>true
 | .cells _ (_::_::_::_:: .x (.slice _ _ _):: .x (.slice _ _ _)::_)=>true
 |_=>false
def Wy1:HA->Nat->Option GU
 |[],_=>none
 |(k,r)::t,id=>match Nat.beq k id&&Wz5 r with
  |true=>some r
  |false=>Wy1 t id
theorem mR{id:Nat}{r:GU}: ∀{m:HA},Wy1 m id=some r->(id,r)∈m
 |[],h=>by simp [Wy1] at h
 |(k,q)::t,h=>by
  unfold Wy1 at h;split at h;rename_i hk;rw [HF] at hk;have:k=id:=H5 hk.1;subst this;cases h;exact GN;exact D1 _ (mR h)
def Qg0(sm:HA)(id:Nat)(r:GU):Option GU:=match Wz5 r with
 |true=>match Wy1 sm id with
  |some r'=>some r'
  |none=>DN sm id
 |false=>DN sm id
theorem Qs6{sm:HA}{id:Nat}{r r':GU}(h:Qg0 sm id r=some r'):(id,r')∈sm:=by
 unfold Qg0 at h;split at h;split at h;rename_i hg;cases h;exact mR hg;exact GA h;exact GA h
def Wn1(sm:HA):HA->List Prop
 |[]=>[]
 |(id,r)::t=>(match Qg0 sm id r with
  |some r'=>F2 r' r
  |none=>[False])++Wn1 sm t
def svP:List (List AV)->List (List AV)->List Prop
 |[],[]=>[]
 |a::l,b::l'=>d9 a b++svP l l'
 |_,_=>[False]
def ghP:Option Nat->Option Nat->List Prop
 |none,none=>[]
 |some a,some b=>[a=b]
 |_,_=>[False]
theorem Qe7{e:UP}{w:World}: ∀{l l':List (List AV)} {vs:List (List Value)},(∀p∈svP l l',p)->LK e w l vs->LK e w l' vs
 |[],[],_,_,r=>r
 |a::l,b::l',vs,h,r=>by
  cases vs with
  |nil=>have:=r.1;simp at this
  |cons v vs=>
   obtain ⟨a',l'',he,h1,h2⟩:=r.cons_inv;cases he;exact LK.cons (P6 (λp hp=>h p (Bd _ hp)) h1) (Qe7 (λp hp=>h p (As _ hp)) h2)
 |[],_::_,_,h,_=>(h False (by simp [svP])).elim
 |_::_,[],_,h,_=>(h False (by simp [svP])).elim
theorem Zw9{a b:Option Nat}(h: ∀p∈ghP a b,p):a=b:=by
 cases a<;>cases b;rfl;exact (h False (by simp [ghP])).elim
 exact (h False (by simp [ghP])).elim
 rename_i x y;have:x=y:=h _ (by simp [ghP])
 rw [this]
def BV(s E:St):List Prop:=d9 s.σ E.σ++(Wn1 s.m E.m++(svP s.sv E.sv++ghP s.gh E.gh))
def iQ(N:Nat):GU->Bool
 | .cells _ l=>l.all (wA N 6)
 | .row _ _ _ _=>true
 | .memo _ _=>true
 | .ints _ pre _ _=>pre.all (wA N 6)
 | .aka _ _ _ _ _=>false
 | .keep _ l=>l.all (wA N 6)
def okB(E:St):Bool:=E.σ.all (wA E.nx 6)&&(E.m.all (λp=>Nat.blt p.1 E.nx&&iQ E.nx p.2)&&E.sv.all (λl=>l.all (wA E.nx 6)))
theorem memP_holds{e:UP}{w:World}{sm:HA}(hm:G5 e sm w): ∀{m:HA},(∀p∈Wn1 sm m,p)->G5 e m w
 |[],_=>λp hp=>by cases hp
 |(id,r)::t,h=>by
  intro p hp;rcases GT.1 hp with rfl|hp;unfold Wn1 at h;cases hg:Qg0 sm id r with
  |none=>rw [hg] at h;exact (h False VY).elim
  |some r'=>
   rw [hg] at h;exact resEq_holds (λp hp=>h p (Bd _ hp)) (hm _ (Qs6 hg))
  exact memP_holds hm (m:=t) (λq hq=>h q (by unfold Wn1;exact As _ hq)) p hp
theorem RB{cx:Cx}{s E:St}{a:Act}{w:World}(h: ∀p∈BV s E,p)(hok:okB E=true)(r:Rel cx s a w):Rel cx E a w:=by
 obtain ⟨w0,T,e,hΦ,r⟩:=r;simp only [okB,HF] at hok;obtain ⟨ok1,ok2,ok3⟩:=hok;have hσ:=P6 (λp hp=>h p (Bd _ hp)) r.slots;have hm:=memP_holds r.mem (λp hp=>h p (As _ (Bd _ hp)));have hsv:=Qe7 (λp hp=>h p (As _ (As _ (Bd _ hp)))) r.xt.saved;have hgh:=Zw9 (λp hp=>h p (As _ (As _ (As _ hp))));rw [hgh] at hΦ;refine ⟨w0,T,e.kill E.nx,hΦ,⟨r.env.apart,r.env.owned,r.env.glob⟩,r.below,?_,λk hk=>hk.2,r.foe,⟨r.xt.defers,r.xt.kept,⟨hsv.1,λi a v ha hv=>⟨(hsv.2 i a v ha hv).1,λj b u hb hu=>xT 6 b u (BF.1 (BF.1 ok3 a (F9 ha)) b (F9 hb)) ((hsv.2 i a v ha hv).2 j b u hb hu)⟩⟩,r.xt.size⟩,⟨hσ.1,λi a v ha hv=>xT 6 a v (BF.1 ok1 a (F9 ha)) (hσ.2 i a v ha hv)⟩⟩;intro p hp;have hk:=hm p hp;have hb:=BF.1 ok2 p hp;simp only [HF] at hb;have hlt:p.1<E.nx:=by have:=hb.1;rw [Aw] at this;exact this
 obtain ⟨id,res⟩:=p;cases res with
 |cells T l=>
  obtain ⟨h1,h2,vs,h3,h4⟩:=hk;exact ⟨⟨h1,hlt⟩,h2,vs,h3,h4.1,λi a v ha hv=>xT 6 a v (BF.1 hb.2 a (F9 ha)) (h4.2 i a v ha hv)⟩
 |memo g f=>
  obtain ⟨h1,h2,es,c,h3,h4⟩:=hk;exact ⟨⟨h1,hlt⟩,h2,es,c,h3,h4⟩
 |aka _ _ _ _ _=>simp [iQ] at hb
 |keep T l=>
  obtain ⟨h1,h2,h0,vs,h3,h4⟩:=hk;exact ⟨⟨h1,hlt⟩,h2,h0,vs,h3,h4.1,λi a v ha hv=>xT 6 a v (BF.1 hb.2 a (F9 ha)) (h4.2 i a v ha hv)⟩
 |ints T pre n f=>
  obtain ⟨h1,h2,vs,h3,h4⟩:=hk;refine ⟨⟨h1,hlt⟩,h2,vs,h3,h4.1,λi a v ha hv=>xT 6 a v ?_ (h4.2 i a v ha hv)⟩;rcases List.mem_append.1 (F9 ha) with hm|hm;exact BF.1 hb.2 a hm;obtain ⟨k,_,rfl⟩:=List.mem_map.1 hm;rfl
 |row T sz n f=>
  obtain ⟨h1,h2,h3,xs,h4,h5⟩:=hk;exact ⟨⟨h1,hlt⟩,h2,h3,xs,h4,λi j a v O ha hv=>Rep.idf (e:=e) (e':=e.kill E.nx) (λ_ h=>h) (h5 i j a v O ha hv) ((h3 i O).2 a (F9 ha))⟩
theorem bI{F:Fence}{n:Nat}{P:Program}{Q:Exit->Act->World->Prop}{body:Code}{X:Type}(μ:X->Nat)(Inv:X->Act->World->Prop)
  (round: ∀x a w,Inv x a w->body.wpIn F n P (Exit.then (λa' w'=> ∃x',μ x'<μ x/\Inv x' a' w') Q) a w){x:X}{a:Act}{w:World}(h:Inv x a w):(Code.loop body).wpIn F n P Q a w:=by
 intro b k cs hro hb Z;have key: ∀j x a w,μ x=j->Inv x a w->
   ∃e a' w',Q e a' w'/\ArrivesIn (Machine.fenced P F) P (lone (b.atR a (.code body:: .inLoop body::k)) cs w) b k cs e a' w':=by
  intro j
  induction j using Nat.strongRecOn with
  |_ j ih=>
   intro x a w hn hI;obtain ⟨e,a₁,w₁,hq,uX⟩:=round x a w hI b (.inLoop body::k) cs hro hb Z;cases e with
   |normal=>
    obtain ⟨x',hlt,hI₁⟩:=hq;obtain ⟨e₂,a₂,w₂,hq₂,harr₂⟩:=ih (μ x') (hn▸hlt) x' a₁ w₁ rfl hI₁;exact ⟨e₂,a₂,w₂,hq₂,.of_steps (StepsIn.trans uX (.one (fenced_calm hb Z rfl) stepR_inLoop)) harr₂⟩
   |exit id=>exact ⟨_,a₁,w₁,hq,.pass (x:= .inLoop body) rfl (λ_ _=> .inl VY) uX⟩
   |goto l=>exact ⟨_,a₁,w₁,hq,.pass (x:= .inLoop body) rfl (λ_ _=> .inl VY) uX⟩
   |ret=>exact ⟨_,a₁,w₁,hq,.pass (x:= .inLoop body) rfl (λ_ _=> .inl VY) uX⟩
   |panic ch=>exact ⟨_,a₁,w₁,hq,.pass (x:= .inLoop body) rfl (λ_ _=> .inl VY) uX⟩
   |outgrown=>exact ⟨_,a₁,w₁,hq,.pass (x:= .inLoop body) rfl (λ_ _=> .inl VY) uX⟩
 obtain ⟨e,a',w',hq,uX⟩:=key _ x a w rfl h;exact ⟨e,a',w',hq,.of_steps (.one (fenced_calm hb Z rfl) stepR_loop) uX⟩
def HI(E:St)(t:CT):UN:=λs=>some (.needT (BV s E) t)
theorem kE{P:Program}{ro:Option Nat}{cx:Cx}{c:Code}{E:St}{t:CT}(hok:okB E=true)(h: ∀(n:Nat) (Q:G8×St->Prop),t.sat Q-> ∀(a:Act) (w:World),Rel cx E a w->c.wpIn (fr ro) n P (EG cx Q) a w):HQ P ro cx c (HI E t):=by
 intro n s t' ht Q FQ a w r;simp only [HI,HL] at ht;subst ht
 replace FQ:=VR.sat_needT FQ
 exact h n Q FQ.2 a w (RB (GI FQ.1) hok r)
def yL(P:Program)(G:List (Nat×Spec))(X:Ext)(L:List UN)(body:Code):Nat->St->CT
 | 0,_=> .fail
 |k+1,s=>(DD P G X L body 0 s).bind λp=>match p.1 with
  | .normal=>yL P G X L body k p.2
  |x=> .leaf (x,p.2)
def zT(P:Program)(G:List (Nat×Spec))(L:List UN)(body:Code)(n:Nat)(s:St):CT:=yL P G {} L body n s
section
variable {P:Program}{G:List (Nat×Spec)}
theorem vL{X:Ext}{L:List UN}{ro:Option Nat}{cx:Cx}(hG:VP P G)(hX:U0 P X cx)(GX:P.follows .mixedOrders=true){body:Code}(hL: ∀j cj,VX body j=some cj-> ∀sp,L[j]? =some sp->HQ P ro cx cj sp)(m:Nat):
  HQ P ro cx (.loop body) (λs=>some (yL P G X L body m s)):=by
 intro n s t ht Q FQ a w r;simp only [HL] at ht;subst ht;refine bI (X:=Nat×St) (λp=>p.1) (λp a w=>(yL P G X L body p.1 p.2).sat Q/\Rel cx p.2 a w) ?_ (x:=(m,s)) ⟨FQ,r⟩;rintro ⟨k,s⟩ a w ⟨h,Z⟩;cases k with
 |zero=>exact h.elim
 |succ k=>
  refine wpIn_mono (DF hG hX GX body 0 s _ a w (λj cj hj sp hsp=>hL j cj hj sp (by simpa using hsp)) (VR.sat_bind h) Z) ?_
  rintro ex a₁ w₁ ⟨y,s',rfl,hq,hr'⟩;cases y with
  |normal=>exact ⟨(k,s'),Bk _,hq,hr'⟩
  |exit id=>exact ⟨.exit id,s',rfl,hq,hr'⟩
  |ret=>exact ⟨.ret,s',rfl,hq,hr'⟩
theorem LM{L:List UN}(hG:VP P G)(GX:P.follows .mixedOrders=true){body:Code}(hL: ∀j cj,VX body j=some cj-> ∀sp,L[j]? =some sp->GD P cj sp)(n:Nat):
  GD P (.loop body) (λs=>some (zT P G L body n s)):=λro cx=>vL hG (U0.nil P cx) GX (λj cj hj sp hsp=>hL j cj hj sp hsp ro cx) n
end
def UD:Option Code->Code
 |some (.loop c)=>c
 |_=> .skip
def UB(f:Func):Code:=match f.body with
 |some c=>c
 |none=> .skip
theorem G0{S:Code->UN->Prop}{c:Code}{sp:UN}(h: ∀cj,VX c 0=some cj->S cj sp): ∀j cj,VX c j=some cj-> ∀s,[sp][j]? =some s->S cj s:=by
 intro j cj hj s hs;cases j with
 |zero=>simp at hs;subst hs;exact h cj hj
 |succ j=>simp at hs
def Zc6:List (Nat×AV)->Nat->AV
 |[],_=> .top
 |(k,a)::t,i=>match Nat.beq k i with
  |true=>a
  |false=>Zc6 t i
def mkS(n:Nat)(l:List (Nat×AV)):List AV:=(List.range n).map (Zc6 l)
def Ws9(l:List AV)(j:Nat):Int:=match l[j]? with
 |some (.x (.int _ n))=>n
 |_=>0
def Jm2:Nat->(Cg)->List AV
 | 0,_=>[]
 |k+1,g=> .x (.int .i64 (g 0))::Jm2 k (λj=>g (j+1))
def UL(sz n:Nat)(f:Ci):Prop:= ∀k,k<n->f k=Jm2 sz (Ws9 (f k))
theorem U2.args{P:Program}{f:FuncId}{avs avs':List AV}{res:AV}(h:U2 P f avs' res)(Z: ∀e w vs,U8 e w avs vs->U8 e w avs' vs)(O:(∀a∈avs,Idf a)-> ∀a∈avs',Idf a):U2 P f avs res:=
 λe w args hro hgl FU GS=>h e w args hro hgl (O FU) (Z e w args GS)
inductive gD:AV->AV->Prop
 |refl (a:AV):gD a a
 |lst (sz n:Nat) (f g:Ci):(∀k,k<n->f k=g k)->gD (.lst sz n f) (.lst sz n g)
 |nil (sz:Nat) (g:Ci):gD (.x (.slice none 0 0)) (.lst sz 0 g)
 |agg (l l':List AV):l.length=l'.length->(∀(j:Nat) (a b:AV),l[j]? =some a->l'[j]? =some b->gD a b)->gD (.agg l) (.agg l')
 |deep (sz n:Nat) (f g:Ci):(∀k,k<n->(f k).length=(g k).length)->(∀(k j:Nat) (a b:AV),k<n->(f k)[j]? =some a->(g k)[j]? =some b->gD a b)->gD (.lst sz n f) (.lst sz n g)
theorem gD.idf{a b:AV}(h:gD a b)(k:Idf a):Idf b:=by
 induction h with
 |refl=>exact k
 |lst sz n f g hfg=>cases k with|lst _ _ _ k=>exact .lst sz n g (λi O a ha=>k i O a (by rw [hfg i O];exact ha))
 |nil sz g=>exact .lst sz 0 g (λi O=>VO)
 |deep sz n f g hl _ ih=>
  cases k with
  |lst _ _ _ k=>
   refine .lst sz n g λi O b hb=>?_;obtain ⟨j,hj⟩:=xJ.1 hb;have hjl:j<(f i).length:=by rw [hl i O];exact (RA.1 hj).1
   exact ih i j _ b O (D8 hjl) hj (k i O _ (List.getElem_mem hjl))
 |agg l l' hl _ ih=>
  cases k with
  |agg _ k=>
   refine .agg l' λb hb=>?_;obtain ⟨j,hj⟩:=xJ.1 hb;have hjl:j<l.length:=by rw [hl];exact (RA.1 hj).1
   exact ih j l[j] b (D8 hjl) hj (k _ (List.getElem_mem hjl))
theorem gD.rep{e:UP}{w:World}{a b:AV}{v:Value}(h:gD a b)(r:Rep e w a v):Rep e w b v:=by
 induction h generalizing v with
 |refl=>exact r
 |lst sz n f g hfg=>
  cases r with
  |lstNil sz f=>exact .lstNil sz g
  |lst sz n f b o cap gg h1 h2 h3 h4 h5 h6 h7 h8 ad had=>
   exact .lst sz n g b o cap gg h1 h2 (λi O a ha=>h3 i O a (by rw [hfg i O];exact ha)) h4 h5 h6 (λi O=>by rw [←hfg i O];exact h7 i O) (λi j a O ha=>h8 i j a O (by rw [hfg i O];exact ha)) ad had
 |deep sz n f g hl hsm ih=>
  cases r with
  |lstNil sz f=>exact .lstNil sz g
  |lst sz n f b o cap gg h1 h2 h3 h4 h5 h6 h7 h8 ad had=>
   have get: ∀i j b,i<n->(g i)[j]? =some b-> ∃a,(f i)[j]? =some a:=λi j b O hb=>by
    have hj:j<(f i).length:=by rw [hl i O];exact (RA.1 hb).1
    exact ⟨_,D8 hj⟩
   refine .lst sz n g b o cap gg h1 h2 (λi O b hb=>?_) h4 h5 h6 (λi O=>by rw [←hl i O];exact h7 i O) (λi j b O hb=>?_) ad had
   obtain ⟨j,hj⟩:=xJ.1 hb;obtain ⟨a,ha⟩:=get i j b O hj;exact (hsm i j a b O ha hj).idf (h3 i O a (F9 ha));obtain ⟨a,ha⟩:=get i j b O hb;exact ih i j a b O ha hb (h8 i j a O ha)
 |nil sz g=>cases r.x_inv;exact .lstNil sz g
 |agg l l' hl _ ih=>
  obtain ⟨vs,rfl,Z⟩:=r.agg_inv;refine Rep.aggL ⟨by rw [←hl];exact Z.1,λj b v hb hv=>?_⟩
  have hj:j<l.length:=by rw [hl];exact (RA.1 hb).1
  exact ih j l[j] b (D8 hj) hb (Z.2 j _ v (D8 hj) hv)
inductive PA:List AV->List AV->Prop
 |nil:PA [] []
 |cons {a b:AV} {l l':List AV}:gD a b->PA l l'->PA (a::l) (b::l')
theorem PA.same{l l':List AV}(h:PA l l'):gD (.agg l) (.agg l'):=by
 have key:l.length=l'.length/\ ∀(j:Nat) (a b:AV),l[j]? =some a->l'[j]? =some b->gD a b:=by
  induction h with
  |nil=>exact ⟨rfl,λj a b h=>by simp at h⟩
  |cons h1 _ ih=>
   refine ⟨by simp [ih.1],λj a b ha hb=>?_⟩
   cases j with
   |zero=>simp at ha hb;subst ha;subst hb;exact h1
   |succ j=>exact ih.2 j a b (by simpa using ha) (by simpa using hb)
 exact .agg l l' key.1 key.2
theorem PA.rep{e:UP}{w:World}{l l':List AV}(h:PA l l'): ∀{vs:List Value},U8 e w l vs->U8 e w l' vs:=by
 induction h with
 |nil=>exact λr=>r
 |cons h1 _ ih=>
  intro vs r;obtain ⟨v,vs',rfl,hv,hvs⟩:=r.cons_inv;exact U8.cons (h1.rep hv) (ih hvs)
theorem PA.idf{l l':List AV}(h:PA l l'):(∀a∈l,Idf a)-> ∀a∈l',Idf a:=by
 induction h with
 |nil=>exact λ_ a ha=>by cases ha
 |cons h1 _ ih=>
  intro k a ha;rcases GT.1 ha with rfl|ha;exact h1.idf (k _ GN);exact ih (λa ha=>k a (D1 _ ha)) a ha
theorem U2.same{P:Program}{f:FuncId}{avs avs':List AV}{res:AV}(h:U2 P f avs' res)(k:PA avs avs'):U2 P f avs res:=h.args (λ_ _ _ r=>k.rep r) k.idf
def H4:List (Nat×AV)->List AV->List AV
 |[],σ=>σ
 |(k,a)::t,σ=>(H4 t σ).set k a
def Wi0(P:Program)(G:List (Nat×Spec))(L:List UN)(body:Code)(s nxt:St)(out:G8->Option St):VR G8:=
 (nD P G L body 0 s).bind λp=>match p.1 with
  | .normal=> .needT (BV p.2 nxt) (.leaf .normal)
  | .exit id=>match out (.exit id) with
   |some E=> .needT (BV p.2 E) (.leaf (.exit id))
   |none=> .fail
  | .ret=>match out .ret with
   |some E=> .needT (BV p.2 E) (.leaf .ret)
   |none=> .fail
section
variable {P:Program}{G:List (Nat×Spec)}{L:List UN}
theorem pO{body:Code}{s nxt:St}{out:G8->Option St}{R:G8->Prop}(h:(Wi0 P G L body s nxt out).sat R):
  (nD P G L body 0 s).sat (λp=>match p.1 with
   | .normal=>R .normal/\UF (BV p.2 nxt)
   |y=> ∃E,out y=some E/\R y/\UF (BV p.2 E)):=by
 refine VR.sat_mono ?_ (VR.sat_bind h);rintro ⟨y,s'⟩ hp;cases y with
 |normal=>exact ⟨(VR.sat_needT hp).2,(VR.sat_needT hp).1⟩
 |exit id=>
  dsimp only at hp ⊢
  split at hp;rename_i E hE;exact ⟨E,hE,(VR.sat_needT hp).2,(VR.sat_needT hp).1⟩;exact hp.elim
 |ret=>
  dsimp only at hp ⊢
  split at hp;rename_i E hE;exact ⟨E,hE,(VR.sat_needT hp).2,(VR.sat_needT hp).1⟩;exact hp.elim
theorem HO(hG:VP P G)(GX:P.follows .mixedOrders=true){body:Code}(hL: ∀j cj,VX body j=some cj-> ∀sp,L[j]? =some sp->GD P cj sp)
  {X:Type}(inv:X->St)(I:X->Prop)(μ:X->Nat)(out:X->G8->Option St){t:CT}{x0:X}(h0:I x0)
  (hok: ∀x,okB (inv x)=true)(wF: ∀x y E,out x y=some E->okB E=true)
  (round: ∀(Q:G8×St->Prop),t.sat Q-> ∀x,I x-> ∃x',(Wi0 P G L body (inv x) (inv x') (out x)).sat (λy=>match y with
   | .normal=>I x'/\μ x'<μ x
   |y=> ∀E,out x y=some E->Q (y,E))):GD P (.loop body) (HI (inv x0) t):=by
 intro ro cx;refine kE (hok x0) ?_;intro n Q hQ a w r;refine bI μ (λx a w=>I x/\Rel cx (inv x) a w) ?_ ⟨h0,r⟩;rintro x a w ⟨hx,Z⟩;obtain ⟨x',jI⟩:=round Q hQ x hx;refine wpIn_mono (DF hG (U0.nil P cx) GX body 0 (inv x) _ a w (λj cj hj sp hsp=>hL j cj hj sp (by simpa using hsp) ro cx) (pO jI) Z) ?_
 rintro ex a₁ w₁ ⟨y,s',rfl,hq,hr'⟩;cases y with
 |normal=>
  obtain ⟨⟨h1,h2⟩,h3⟩:=hq;exact ⟨x',h2,h1,RB (GI h3) (hok x') hr'⟩
 |exit id=>
  obtain ⟨E,hE,h1,h3⟩:=hq;exact ⟨.exit id,E,rfl,h1 E hE,RB (GI h3) (wF x _ E hE) hr'⟩
 |ret=>
  obtain ⟨E,hE,h1,h3⟩:=hq;exact ⟨.ret,E,rfl,h1 E hE,RB (GI h3) (wF x _ E hE) hr'⟩
end
def H2(p:Nat->Bool):Nat->Nat
 | 0=>0
 |n+1=>match Nat.blt (H2 p n) n with
  |true=>H2 p n
  |false=>match p n with
   |true=>n
   |false=>n+1
theorem FA(p:Nat->Bool): ∀n,H2 p n<=n/\(∀j,j<H2 p n->p j=false)/\(H2 p n<n->p (H2 p n)=true)
 | 0=>by simp [H2]
 |n+1=>by
  obtain ⟨h1,h2,h3⟩:=FA p n;unfold H2;split;rename_i hb;rw [Aw] at hb;exact ⟨VO,h2,λ_=>h3 hb⟩;rename_i hb;rw [←Bool.not_eq_true,Aw] at hb;have:H2 p n=n:=VO;rw [this] at h2;split;rename_i hp;exact ⟨VO,h2,λ_=>hp⟩;rename_i hp;refine ⟨VO,λj hj=>?_,λh=>VO⟩;rcases (show j<n\/j=n by omega) with h|rfl
  exact h2 j h;exact hp
theorem jJ{p:Nat->Bool}{n k:Nat}(hk:k<n)(hp:p k=true)(hb: ∀j,j<k->p j=false):H2 p n=k:=by
 obtain ⟨h1,h2,h3⟩:=FA p n;rcases Nat.lt_trichotomy (H2 p n) k with h|h|h;have:=h3 VO;rw [hb _ h] at this;cases this;exact h;rw [h2 k h] at hp;cases hp
theorem qO{p:Nat->Bool}{n:Nat}(hb: ∀j,j<n->p j=false):H2 p n=n:=by
 obtain ⟨h1,h2,h3⟩:=FA p n;rcases An (H2 p n) n with h|h;have:=h3 h;rw [hb _ h] at this;cases this;omega
def DH(p:Nat->Bool):Nat->Bool
 | 0=>true
 |n+1=>DH p n&&p n
theorem H3{p:Nat->Bool}: ∀{n:Nat},DH p n=true↔ ∀j,j<n->p j=true
 | 0=>by simp [DH]
 |n+1=>by
  rw [DH,HF,H3];constructor;rintro ⟨h1,h2⟩ j hj;rcases (show j<n\/j=n by omega) with h|rfl
  exact h1 j h;exact h2;exact λh=>⟨λj hj=>h j VO,h n VO⟩
theorem yF{p:Nat->Bool}{n:Nat}:DH p n=decide (H2 (λk=> !p k) n=n):=by
 obtain ⟨h1,h2,h3⟩:=FA (λk=> !p k) n;rw [Bool.eq_iff_iff,H3,vK];constructor;intro h;exact qO (λj hj=>by simp [h j hj])
 intro h j hj;have:=h2 j VO;simpa using this
