/- Contracts, put together. Conditions: those of each. -/
import Derived.Test.YtakpdkmhclhlnaaGreatDoorMb
import Derived.Test.YtakpdkmhclhlnaaGreatDoorRows
set_option linter.unusedSimpArgs false
set_option linter.unusedVariables false
set_option maxRecDepth 100000
namespace Go.Sx
open Go Go.RowKit
def vN(i R:Nat):Nat->AV->AV
 | 0,a=>match a with
  | .lit b=> .lit b
  | .x v=> .x v
  | .ro l=> .ro l
  | .lst a b c=> .lst a b c
  | .roI a b c d=> .roI a b c d
  |_=> .top
 |d+1,a=>match a with
  | .row k=>match Nat.beq k i with
   |true=> .row R
   |false=>match Nat.beq k R with
    |true=> .top
    |false=> .row k
  | .ptr k o=>match Nat.beq k i with
   |true=> .ptr R o
   |false=>match Nat.beq k R with
    |true=> .top
    |false=> .ptr k o
  | .elt k x y z=>match Nat.beq k i||Nat.beq k R with
   |true=> .top
   |false=> .elt k x y z
  | .mp k=>match Nat.beq k i||Nat.beq k R with
   |true=> .top
   |false=> .mp k
  | .agg l=> .agg (l.map (vN i R d))
  | .tup l=> .tup (l.map (vN i R d))
  | .fn f l l'=> .fn f (l.map (vN i R d)) (l'.map (vN i R d))
  |a=>a
def G8.ren(e:G8)(i R:Nat):G8:=
 {ro:=e.ro,own:=λb=>match e.own b with|some k=>if k=i then some R else if k=R then none else some k|none=>none,
  live:=λk=>(k=R/\e.live i)\/(e.live k/\k≠i/\k≠R),blk:=λk=>if k=R then e.blk i else e.blk k,val:=λk=>if k=R then e.val i else e.val k}
theorem RY{k i:Nat}(h:Nat.beq k i=false):k≠i:=by
 rintro rfl;rw [Nat.beq_refl] at h;cases h
theorem IK{k i R:Nat}(h:(Nat.beq k i||Nat.beq k R)=false):k≠i/\k≠R:=by
 rw [Bool.or_eq_false_iff] at h;exact ⟨RY h.1,RY h.2⟩
theorem jD{e:G8}{w:World}{i R:Nat}: ∀(d:Nat) (a:AV) (v:Value),Rep e w a v->Rep (e.ren i R) w (vN i R d a) v
 | 0,a,v,r=>by
  cases r with
  |lit b=>exact .lit b
  |x v=>exact .x v
  |roI pre n f off b o hr=>exact Rep.idf (e:=e) (e':=e.ren i R) (λ_ h=>h) (.roI pre n f off b o hr) (jO (Rep.roI pre n f off b o hr) rfl)
  |ro l vs b o h1 h2 h3 h4 h5 h6=>exact Rep.idf (e:=e) (e':=e.ren i R) (λ_ h=>h) (.ro l vs b o h1 h2 h3 h4 h5 h6) (.ro l h3)
  |lstNil sz f=>exact .lstNil sz f
  |lst sz n f b o cap g h1 h2 h3 h4 h5 h6 h7 h8 ad had=>exact Rep.idf (e:=e) (e':=e.ren i R) (λ_ h=>h) (.lst sz n f b o cap g h1 h2 h3 h4 h5 h6 h7 h8 ad had) (.lst sz n f h3)
  |_=>exact .top _
 |d+1,a,v,r=>by
  have ih:=jD (e:=e) (w:=w) (i:=i) (R:=R) d;cases r with
  |top v=>exact .top v
  |lit b=>exact .lit b
  |x v=>exact .x v
  |roI pre n f off b o hr=>exact Rep.idf (e:=e) (e':=e.ren i R) (λ_ h=>h) (.roI pre n f off b o hr) (jO (Rep.roI pre n f off b o hr) rfl)
  |ptr id off hl=>
   simp only [vN];split;rename_i hb;have:=HK hb;subst this;have h:=Rep.ptr (e:=e.ren id R) (w:=w) R off (.inl ⟨rfl,hl⟩)
   rwa [show (e.ren id R).blk R=e.blk id by simp [G8.ren]] at h
   rename_i hb;split;exact .top _;rename_i hb2;have h:=Rep.ptr (e:=e.ren i R) (w:=w) id off (.inr ⟨hl,RY hb,RY hb2⟩)
   rwa [show (e.ren i R).blk id=e.blk id by simp [G8.ren,RY hb2]] at h
  |row id a n c hl hv=>
   simp only [vN];split;rename_i hb;have:=HK hb;subst this;exact .row R a n c (.inl ⟨rfl,hl⟩) (by simp [G8.ren,hv])
   rename_i hb;split;exact .top _;rename_i hb2;exact .row id a n c (.inr ⟨hl,RY hb,RY hb2⟩) (by simp [G8.ren,RY hb2,hv])
  |elt id sz x y b n cap hl hv=>
   simp only [vN];split;exact .top _;rename_i hb;exact .elt (e:=e.ren i R) id sz x y b n cap (.inr ⟨hl,IK hb⟩) (by simp [G8.ren,(IK hb).2,hv])
  |mp id hl=>
   simp only [vN];split;exact .top _;rename_i hb;have h:=Rep.mp (e:=e.ren i R) (w:=w) id (.inr ⟨hl,IK hb⟩)
   rwa [show (e.ren i R).blk id=e.blk id by simp [G8.ren,(IK hb).2]] at h
  |agg l vs h1 h2=>exact Rep.aggL (UM.map _ ih ⟨h1,h2⟩)
  |tup l vs h1 h2=>exact Rep.tupL (UM.map _ ih ⟨h1,h2⟩)
  |fn f l l' vs vs' h1 h2 h3 h4=>
   have k1:UM e w l vs:=⟨h1,h2⟩;have k2:UM e w l' vs':=⟨h3,h4⟩;exact .fn f _ _ vs vs' (UM.map _ ih k1).1 (UM.map _ ih k1).2 (UM.map _ ih k2).1 (UM.map _ ih k2).2
  |ro l vs b o h1 h2 h3 h4 h5 h6=>exact Rep.idf (e:=e) (e':=e.ren i R) (λ_ h=>h) (.ro l vs b o h1 h2 h3 h4 h5 h6) (.ro l h3)
  |mpr g okf vals b es c h1 h2 h3 h4 h5 h6 h7 h8=>exact Rep.idf (e:=e) (e':=e.ren i R) (λ_ h=>h) (.mpr g okf vals b es c h1 h2 h3 h4 h5 h6 h7 h8) (.mpr g okf h3)
  |any1 v hv=>exact .any1 v hv
  |lstNil sz f=>exact .lstNil sz f
  |lst sz n f b o cap g h1 h2 h3 h4 h5 h6 h7 h8 ad had=>exact Rep.idf (e:=e) (e':=e.ren i R) (λ_ h=>h) (.lst sz n f b o cap g h1 h2 h3 h4 h5 h6 h7 h8 ad had) (.lst sz n f h3)
def zC(i R:Nat):HO->HO
 |[]=>[]
 |(k,.row T sz n f)::t=>match Nat.beq k i with
  |true=>(R,.row T sz n f)::zC i R t
  |false=>match Nat.beq k R with
   |true=>zC i R t
   |false=>(k,.row T sz n f)::zC i R t
 |(k,.cells T l)::t=>match Nat.beq k i with
  |true=>(R,.cells T (l.map (vN i R 6)))::zC i R t
  |false=>match Nat.beq k R with
   |true=>zC i R t
   |false=>(k,.cells T (l.map (vN i R 6)))::zC i R t
 |(k,.ints T pre n f)::t=>match Nat.beq k i||Nat.beq k R with
  |true=>zC i R t
  |false=>(k,.ints T (pre.map (vN i R 6)) n f)::zC i R t
 |(k,.memo h f)::t=>match Nat.beq k i||Nat.beq k R with
  |true=>zC i R t
  |false=>(k,.memo h f)::zC i R t
 |(_,.aka _ _ _ _ _)::t=>zC i R t
 |(k,.keep T l)::t=>match Nat.beq k i||Nat.beq k R with
  |true=>zC i R t
  |false=>(k,.keep T (l.map (vN i R 6)))::zC i R t
theorem jK{e:G8}{w:World}{i R:Nat}: ∀{m:HO},GH e m w->GH (e.ren i R) (zC i R m) w
 |[],_=>λp A=>by cases A
 |(k,.row T sz n f)::t,h=>by
  have ih:=jK (i:=i) (R:=R) (m:=t) (λp A=>h p (DB _ A));obtain ⟨h1,h2,hf,xs,h3,h4⟩:=h _ H0;have h4': ∀(i' j:Nat) (a:AV) (v:Value),i'<n->(f i')[j]? =some a->xs[i'*sz+j]? =some v->Rep (e.ren i R) w a v:=
   λi' j a v O ha hv=>Rep.idf (e:=e) (e':=e.ren i R) (λ_ h=>h) (h4 i' j a v O ha hv) ((hf i' O).2 a (FN ha))
  unfold zC;split;rename_i hb;have:=HK hb;subst this;intro p A;rcases HA.1 A with rfl|A;refine ⟨.inl ⟨rfl,h1⟩,λb hb'=>?_,hf,xs,?_,h4'⟩;simp only [G8.ren,if_true] at hb' ⊢;rw [h2 b hb'];simp;simp only [G8.ren,if_true];exact h3;exact ih p A;rename_i hb;split;exact ih;rename_i hb2;intro p A;rcases HA.1 A with rfl|A;refine ⟨.inr ⟨h1,RY hb,RY hb2⟩,λb hb'=>?_,hf,xs,?_,h4'⟩;simp only [G8.ren,RY hb2,if_false] at hb' ⊢;rw [h2 b hb'];simp [RY hb,RY hb2];simp only [G8.ren,RY hb2,if_false];exact h3;exact ih p A
 |(k,.cells T l)::t,h=>by
  have ih:=jK (i:=i) (R:=R) (m:=t) (λp A=>h p (DB _ A));obtain ⟨h1,h2,vs,h3,h4⟩:=h _ H0;unfold zC;split;rename_i hb;have:=HK hb;subst this;have eb:(e.ren k R).blk R=e.blk k:=by simp [G8.ren]
  intro p A;rcases HA.1 A with rfl|A;refine ⟨.inl ⟨rfl,h1⟩,?_,vs,by rw [eb];exact h3,UM.map _ (jD 6) h4⟩
  rw [eb];simp only [G8.ren];rw [h2];simp;exact ih p A;rename_i hb;split;exact ih;rename_i hb2;have n1:=RY hb;have n2:=RY hb2;have eb:(e.ren i R).blk k=e.blk k:=by simp [G8.ren,n2]
  intro p A;rcases HA.1 A with rfl|A;refine ⟨.inr ⟨h1,n1,n2⟩,?_,vs,by rw [eb];exact h3,UM.map _ (jD 6) h4⟩
  rw [eb];simp only [G8.ren];rw [h2];simp [n1,n2];exact ih p A
 |(k,.ints T pre n f)::t,h=>by
  have ih:=jK (i:=i) (R:=R) (m:=t) (λp A=>h p (DB _ A));obtain ⟨h1,h2,vs,h3,h4⟩:=h _ H0;unfold zC;split;exact ih;rename_i hb;obtain ⟨n1,n2⟩:=IK hb;intro p A;rcases HA.1 A with rfl|A;have eb:(e.ren i R).blk k=e.blk k:=by simp [G8.ren,n2]
  refine ⟨.inr ⟨h1,n1,n2⟩,?_,vs,by rw [eb];exact h3,?_⟩
  rw [eb];simp only [G8.ren];rw [h2];simp [n1,n2];have:=UM.map _ (jD (i:=i) (R:=R) 6) h4;rw [List.map_append] at this;have hL:(DE n f).map (vN i R 6)=DE n f:=by
   unfold DE;rw [List.map_map];rfl
  rw [hL] at this;exact this;exact ih p A
 |(k,.memo g f)::t,h=>by
  have ih:=jK (i:=i) (R:=R) (m:=t) (λp A=>h p (DB _ A));obtain ⟨h1,h2,es,c,h3,h4⟩:=h _ H0;unfold zC;split;exact ih;rename_i hb;obtain ⟨n1,n2⟩:=IK hb;intro p A;rcases HA.1 A with rfl|A;have eb:(e.ren i R).blk k=e.blk k:=by simp [G8.ren,n2]
  refine ⟨.inr ⟨h1,n1,n2⟩,?_,es,c,by rw [eb];exact h3,h4⟩
  rw [eb];simp only [G8.ren];rw [h2];simp [n1,n2];exact ih p A
 |(k,.keep T l)::t,h=>by
  have ih:=jK (i:=i) (R:=R) (m:=t) (λp A=>h p (DB _ A));obtain ⟨h1,h2,h0,vs,h3,h4⟩:=h _ H0;unfold zC;split;exact ih;rename_i hb;obtain ⟨n1,n2⟩:=IK hb;intro p A;rcases HA.1 A with rfl|A;have eb:(e.ren i R).blk k=e.blk k:=by simp [G8.ren,n2]
  exact ⟨.inr ⟨h1,n1,n2⟩,by rw [eb];exact h2,by rw [eb];exact h0,vs,by rw [eb];exact h3,UM.map _ (jD 6) h4⟩
  exact ih p A
 |(k,.aka _ _ _ _ _)::t,h=>jK (i:=i) (R:=R) (m:=t) (λp A=>h p (DB _ A))
def Qs6(i R:Nat)(s:St):St:={s with σ:=s.σ.map (vN i R 6),m:=zC i R s.m,nx:=match Nat.blt R s.nx with|true=>s.nx|false=>R+1,sv:=s.sv.map (·.map (vN i R 6)) }
theorem EI{cx:Cx}{w0:World}{F:Nat->Prop}{e:G8}{i R:Nat}{s:St}{a:Act}{w:World}(r:FT cx w0 F e s a w):FT cx w0 F (e.ren i R) (Qs6 i R s) a w:=by
 refine ⟨⟨λb hb=>?_,λb k hk=>?_,r.env.glob⟩,r.below,jK r.mem,λk hk=>?_,r.foe,⟨r.xt.defers,r.xt.kept,LM.map _ (jD 6) r.xt.saved,r.xt.size⟩,UM.map _ (jD 6) r.slots⟩;obtain ⟨h1,h2⟩:=r.env.apart b hb;exact ⟨by simp [G8.ren,h1],h2⟩
 simp only [G8.ren] at hk;cases ho:e.own b with
 |none=>rw [ho] at hk;cases hk
 |some j=>exact r.env.owned b j ho
 have hk':k=R\/k<s.nx:=by
  rcases hk with ⟨rfl,_⟩|⟨h,_⟩;exact .inl rfl;exact .inr (r.live k h)
 simp only [Qs6];split;rename_i hb;rw [Aw] at hb;omega;rename_i hb;rw [←Bool.not_eq_true,Aw] at hb;omega
inductive Pl where
 |slot (k:Nat)
 |cell (id off:Nat)
def Qj9(s:St):Pl->AV
 | .slot k=>s.σ.getD k .top
 | .cell id off=>match DY s.m id with
  |some (.cells _ l)=>l.getD off .top
  |_=> .top
def iO(s:St)(p:Pl)(v:AV):St:=match p with
 | .slot k=>{s with σ:=s.σ.set k v}
 | .cell id off=>match DY s.m id with
  |some (.cells T l)=>{s with m:=wG s.m id (.cells T (l.set off v)) }
  |_=>s
theorem UM.swap{e:G8}{w:World}{l:List AV}{vs:List Value}{k:Nat}{b:AV}(h:UM e w l vs)(hb: ∀v,Rep e w (l.getD k .top) v->vs[k]? =some v->Rep e w b v):UM e w (l.set k b) vs:=by
 refine ⟨by simp [h.1],λi a v ha hv=>?_⟩
 rw [List.getElem?_set] at ha;by_cases hk:k=i;subst hk;simp only [if_true] at ha;split at ha;rename_i hlt;cases ha;exact hb v (by simpa [List.getD,DP hlt] using h.2 k _ v (DP hlt) hv) hv
 cases ha;rw [if_neg hk] at ha;exact h.2 i a v ha hv
def G8.nil(e:G8)(R:Nat):G8:={e with live:=λk=>k=R\/e.live k,val:=λk=>if k=R then .slice none 0 0 else e.val k}
theorem Step.nil{e:G8}{w:World}{R:Nat}(h: ¬e.live R):Step e (e.nil R) w w:=by
 refine ⟨λ_ _ h=>⟨h,rfl⟩,λk hk=>⟨.inr hk,rfl,?_⟩,Am _⟩;have:k≠R:=λh'=>h (h'▸hk);simp [G8.nil,this]
def Zs1(p:Pl)(R:Nat)(T:TypeId)(sz:Nat)(s:St):St:=match Qj9 s p with
 | .x (.slice none 0 0)=>{s with σ:=(iO s p (.row R)).σ,m:=(R,.row T sz 0 (λ_=>[]))::(iO s p (.row R)).m}
 |_=>s
theorem Wm5{cx:Cx}{w0:World}{F:Nat->Prop}{e:G8}{p:Pl}{R:Nat}{T:TypeId}{sz:Nat}{s:St}{a:Act}{w:World}(hΦ:cx.Φ s.gh F w0)(r:FT cx w0 F e s a w)(hd: ¬e.live R)(hR:R<s.nx):Rel cx (Zs1 p R T sz s) a w:=by
 unfold Zs1;split;rename_i A;have st:Step e (e.nil R) w w:=Step.nil hd;have dU:GH (e.nil R) s.m w:=λq hq=>(r.mem q hq).ext (Below.refl _ _) st (λ_ _ h=>h);have M7:H2 (e.nil R) w R (.row T sz 0 (λ_=>[])):=by
  refine ⟨.inl rfl,λb hb=>?_,λi O=>U3,[],?_,λi j a v O=>U3⟩;simp [G8.nil,Value.ownBlock] at hb;simp only [G8.nil,if_true];exact World.ownsRow_nil w 0 T sz
 have H5: ∀v,Rep e w (.x (.slice none 0 0)) v->Rep (e.nil R) w (.row R) v:=by
  intro v hv;rw [hv.x_inv];exact .row R none 0 0 (.inl rfl) (by simp [G8.nil])
 refine ⟨w0,F,e.nil R,hΦ,⟨r.env.apart,r.env.owned,r.env.glob⟩,r.below,?_,λk hk=>?_,r.foe,r.xt.step st,?_⟩;intro q hq;rcases HA.1 hq with rfl|hq;exact M7;cases p with
 |slot k=>exact dU q hq
 |cell id off=>
  simp only [iO] at hq;split at hq;rename_i T' l hg;rcases RQ hq with rfl|⟨hq,_⟩
  ·obtain ⟨h1,h2,vs,h3,h4⟩:=r.mem _ (GI hg);obtain ⟨l1,l2,l3⟩:=st.live id h1;refine ⟨l1,by rw [l2];exact h2,vs,by rw [l2];exact h3,?_⟩
   refine UM.swap (h4.step st) ?_;intro v hv hv';simp only [Qj9,hg] at A;have hlt:off<l.length:=by
    rcases An off l.length with h|h;exact h;rw [List.getD,Br h] at A;cases A
   have:=h4.2 off _ v (DP hlt) hv';rw [List.getD,DP hlt] at A;simp only [HF] at A;rw [A] at this;exact H5 v this
  exact dU q hq;exact dU q hq
 rcases hk with rfl|hk;exact hR;exact r.live k hk
 ·cases p with
  |slot k=>
   simp only [iO];refine UM.swap (r.slots.step st) ?_;intro v hv hv';simp only [Qj9] at A;have hlt:k<s.σ.length:=by
    rcases An k s.σ.length with h|h;exact h;rw [List.getD,Br h] at A;cases A
   have:=r.slots.2 k _ v (DP hlt) hv';rw [List.getD,DP hlt] at A;simp only [HF] at A;rw [A] at this;exact H5 v this
  |cell id off=>
   simp only [iO];split;exact r.slots.step st;exact r.slots.step st
 exact ⟨w0,F,e,hΦ,r⟩
def AI(i:Nat):HO->HO
 |[]=>[]
 |(k,r)::t=>match Nat.beq k i with
  |true=>match r with
   | .cells T l=>(k,.keep T l)::AI i t
   | .keep T l=>(k,.keep T l)::AI i t
   |_=>AI i t
  |false=>match DI i r with
   |true=>AI i t
   |false=>(k,r)::AI i t
def Qi4(i:Nat)(s:St):St:={s with m:=AI i s.m}
theorem lM{e:G8}{B:Nat}{w:World}{i:Nat}(hE:GK e B w): ∀{m:HO},GH e m w->GH (e.sol i) (AI i m) w
 |[],_=>λp A=>by cases A
 |(k,r)::t,h=>by
  have ih:=lM (i:=i) hE (m:=t) (λp A=>h p (DB _ A));have hk:=h _ H0;unfold AI;split;rename_i hb;have:=HK hb;subst this;split;rename_i T l;intro p A;rcases HA.1 A with rfl|A;obtain ⟨h1,h2,vs,h3,h4⟩:=hk;exact ⟨h1,.inr h2,(hE.owned _ _ h2).2,vs,h3,h4.step (Step.sol e k w)⟩;exact ih p A;rename_i T l;intro p A;rcases HA.1 A with rfl|A;exact P6 (Step.sol e k w) hk;exact ih p A;exact ih;rename_i hb;split;exact ih;rename_i hak;intro p A;rcases HA.1 A with rfl|A;exact H2.sol ⟨RY hb,hak⟩ hk;exact ih p A
theorem SF{c:Cx}{w0:World}{F:Nat->Prop}{e:G8}{i:Nat}{s:St}{a:Act}{w:World}(r:FT c w0 F e s a w):FT c w0 F (e.sol i) (Qi4 i s) a w:=by
 have st:=Step.sol e i w;refine ⟨r.env.sol i,r.below,lM r.env r.mem,r.live,λb hb=>⟨(r.foe b hb).1,λhr=>?_⟩,r.xt.step st,r.slots.step st⟩;rcases hr with hr|hr;exact (r.foe b hb).2 hr;have:=(r.env.owned b i hr).1;have:=(r.foe b hb).1;omega
def G8.prom(e:G8)(i q:Nat):G8:={e with own:=λb=>match e.own b with|some k=>if k=q then some i else some k|none=>none}
def lB(i q:Nat):HO->HO
 |[]=>[]
 |(k,r)::t=>match Nat.beq k q||(Nat.beq k i||(DI q r||DI i r)) with
  |true=>lB i q t
  |false=>(k,r)::lB i q t
def lA(i:Nat)(s:St):St:=match DY s.m i with
 |some (.aka q T sz n f)=>{s with m:=(i,.row T sz n f)::lB i q s.m}
 |_=>s
theorem lL{e:G8}{w:World}{i q:Nat}: ∀{m:HO},GH e m w->GH (e.prom i q) (lB i q m) w
 |[],_=>λp A=>by cases A
 |(k,r)::t,h=>by
  have ih:=lL (i:=i) (q:=q) (m:=t) (λp A=>h p (DB _ A));have hk:=h _ H0;unfold lB;split;exact ih;rename_i hb;simp only [Bool.or_eq_false_iff] at hb;obtain ⟨hb1,hb2,hb3,hb4⟩:=hb;have n1:=RY hb1;have n2:=RY hb2;have st:Step e (e.prom i q) w w:=⟨λ_ _ h=>⟨h,rfl⟩,λ_ h=>⟨h,rfl,rfl⟩,Am _⟩;have ow: ∀b o,o≠q->e.own b=some o->(e.prom i q).own b=some o:=λb o ho hbo=>by simp [G8.prom,hbo,ho]
  intro p A;rcases HA.1 A with rfl|A;cases r with
  |cells T l=>
   obtain ⟨h1,h2,vs,h3,h4⟩:=hk;exact ⟨h1,ow _ _ n1 h2,vs,h3,h4.step st⟩
  |ints T pre n f=>
   obtain ⟨h1,h2,vs,h3,h4⟩:=hk;exact ⟨h1,ow _ _ n1 h2,vs,h3,h4.step st⟩
  |memo g f=>
   obtain ⟨h1,h2,es,c,h3,h4⟩:=hk;exact ⟨h1,ow _ _ n1 h2,es,c,h3,h4⟩
  |row T sz n f=>
   obtain ⟨h1,h2,hf,xs,h3,h4⟩:=hk;exact ⟨h1,λb hb=>ow _ _ n1 (h2 b hb),hf,xs,h3,λi j a v O ha hv=>(h4 i j a v O ha hv).step st⟩
  |keep T l=>exact P6 st hk
  |aka r T sz n f=>
   obtain ⟨h1,h0,o,hor,h2,hf,xs,h3,h4⟩:=hk;have ho:o≠q:=by
    rcases hor with rfl|rfl;exact n1;exact RY hb3
   exact ⟨h1,h0,o,hor,λb hb=>ow _ _ ho (h2 b hb),hf,xs,h3,λi j a v O ha hv=>(h4 i j a v O ha hv).step st⟩
  exact ih p A
theorem EQ{c:Cx}{i:Nat}{s:St}{a:Act}{w:World}(r:Rel c s a w):Rel c (lA i s) a w:=by
 unfold lA;split;rename_i q T sz n f hg;obtain ⟨w0,F,e,hΦ,r⟩:=r;have st:Step e (e.prom i q) w w:=⟨λ_ _ h=>⟨h,rfl⟩,λ_ h=>⟨h,rfl,rfl⟩,Am _⟩;refine ⟨w0,F,e.prom i q,hΦ,⟨⟨λb hb=>?_,λb k hk=>?_,r.env.glob.step st⟩,r.below,?_,r.live,r.foe,r.xt.step st,r.slots.step st⟩⟩;obtain ⟨h1,h2⟩:=r.env.apart b hb;exact ⟨by simp [G8.prom,h1],h2⟩
 simp only [G8.prom] at hk;cases ho:e.own b with
 |none=>rw [ho] at hk;cases hk
 |some j=>exact r.env.owned b j ho
 intro p A;rcases HA.1 A with rfl|A;obtain ⟨h1,h0,o,hor,h2,hf,xs,h3,h4⟩:=r.mem _ (GI hg);refine ⟨h1,λb hb=>?_,hf,xs,h3,λi' j a v O ha hv=>(h4 i' j a v O ha hv).step st⟩;have:=h2 b hb;rcases hor with rfl|rfl;simp [G8.prom,this];simp [G8.prom,this];exact lL r.mem p A;exact r
def Qi5:List AV->St->St
 |[],s=>s
 | .ptr i _::l,s=>Qi5 l (Qi4 i s)
 |_::l,s=>Qi5 l s
theorem rH{c:Cx}{a:Act}{w:World}: ∀{l:List AV} {s:St},Rel c s a w->Rel c (Qi5 l s) a w
 |[],_,r=>r
 |b::l,s,r=>by
  cases b with
  |ptr i o=>
   obtain ⟨w0,F,e,hΦ,r⟩:=r;exact rH (l:=l) (s:=Qi4 i s) ⟨w0,F,_,hΦ,SF r⟩
  |_=>exact rH (l:=l) (s:=s) r
def Wf4(s:St):St:=match s.sv with
 |[]=>{s with σ:=s.σ.map (F3 s.m 40),m:=[] }
 |_=>s
theorem Wf3{c:Cx}{s:St}{a:Act}{w:World}(r:Rel c s a w):Rel c (Wf4 s) a w:=by
 unfold Wf4;split;rename_i hsv;obtain ⟨w0,T,e,hΦ,r⟩:=r
 let e2:G8:={ro:=e.view.ro,own:=λ_=>none,live:=λ_=>False,blk:=λ_=>0,val:=λ_=> .nilIface}
 have hlt: ∀b,e2.ro b->b<w.heap.size:=by
  rintro b (h|⟨id,h⟩);exact (r.env.apart b h).2;exact (r.env.owned b id h).2
 have st2:Step e2 e2 w w:=⟨λb hb hr=>⟨hr,rfl⟩,λ_ h=>h.elim,Am _⟩;have dP:UM e2 w (s.σ.map (F3 s.m 40)) a.tmps.toList:=
  UM.map (F3 s.m 40) (λx v hx=>Rep.idf (e:=e.view) (e':=e2) (λ_ h=>h) (LZ r.env r.mem 40 x v hx) (LC r.mem 40 x v hx)) r.slots
 refine ⟨w0,T,e2,hΦ,⟨⟨λb hb=>⟨rfl,hlt b hb⟩,(λb id h=>by cases h),DQ.step (e:=e2) (w:=w) (λb p A=>⟨.inl (r.env.glob b p A).1,(r.env.glob b p A).2⟩) st2⟩,r.below,(λp A=>by cases A),(λk hk=>hk.elim),λb hb=>⟨(r.foe b hb).1,?_⟩,⟨⟨λd hd=>by obtain ⟨D,h1,h2,h3,h4,h5⟩:=r.xt.defers.1 d hd;exact ⟨D,h1,.inl h2,h3,h4,h5⟩,r.xt.defers.2⟩,λb o hb=>by obtain ⟨h1,h2,h3⟩:=r.xt.kept b o hb;exact ⟨.inl h1,h2,h3⟩,by
  have:=r.xt.saved.1;rw [hsv] at this;rw [hsv];exact ⟨this,λi a v h=>by simp at h⟩,r.xt.size⟩,dP⟩⟩
 rintro (h|⟨id,h⟩);exact (r.foe b hb).2 h;have:=(r.env.owned b id h).1;have:=(r.foe b hb).1;omega;exact r
def Qh5(p:Pl)(R:Nat)(T:TypeId)(sz:Nat)(s:St):St:=match Qj9 s p with
 | .row i=>match sz with
  | 0=>Qx9 i (lA i s)
  |_+1=>match T with
   | 0=>lA i s
   |_+1=>Qs6 i R (lA i s)
 | .ptr i _=>match sz with
  | 0=>Qi4 i s
  | 1=>Wf4 s
  |_+2=>Qs6 i R s
 | .fn _ _ l=>Qi5 l s
 | .x (.slice none 0 0)=>match T with
  | 0=>s
  |_+1=>Zs1 p R T sz (Qs6 s.nx R s)
 |_=>s
theorem Wm3{cx:Cx}{p:Pl}{R:Nat}{T:TypeId}{sz:Nat}{s:St}{a:Act}{w:World}(r:Rel cx s a w):Rel cx (Qh5 p R T sz s) a w:=by
 unfold Qh5;split;rename_i i _;split;obtain ⟨w0,F,e,hΦ,r⟩:=EQ (i:=i) r;obtain ⟨e',r'⟩:=mY (i:=i) r;exact ⟨w0,F,e',by rw [Qk0];exact hΦ,r'⟩
 split;exact EQ (i:=i) r;obtain ⟨w0,F,e,hΦ,r⟩:=EQ (i:=i) r;exact ⟨w0,F,_,hΦ,EI r⟩;split;obtain ⟨w0,F,e,hΦ,r⟩:=r;exact ⟨w0,F,_,hΦ,SF r⟩;exact Wf3 r;obtain ⟨w0,F,e,hΦ,r⟩:=r;exact ⟨w0,F,_,hΦ,EI r⟩;exact rH r;split;exact r;obtain ⟨w0,F,e,hΦ,r⟩:=r;refine Wm5 hΦ (EI r) ?_ ?_;rintro (⟨_,h⟩|⟨_,_,h⟩);exact Bf _ (r.live _ h);exact h rfl;simp only [Qs6];split;rename_i hb;rw [Aw] at hb;exact hb;exact Bk _;exact r
def RS:List (Pl×Nat×TypeId×Nat)->St->St
 |[],s=>s
 |(p,R,T,sz)::t,s=>RS t (Qh5 p R T sz s)
theorem F7{cx:Cx}{a:Act}{w:World}: ∀{l:List (Pl×Nat×TypeId×Nat)} {s:St},Rel cx s a w->Rel cx (RS l s) a w
 |[],_,r=>r
 |(p,R,T,sz)::t,s,r=>F7 (l:=t) (s:=Qh5 p R T sz s) (Wm3 r)
def H4(l:List (Pl×Nat×TypeId×Nat))(sp:G5):G5:=λs=>sp (RS l s)
theorem u9{P:Program}{ro:Option Nat}{cx:Cx}{c:Code}{l:List (Pl×Nat×TypeId×Nat)}{sp:G5}(h:D7 P ro cx c sp):D7 P ro cx c (H4 l sp):=
 λn s t ht Q hQ a w r=>h n (RS l s) t ht Q hQ a w (F7 r)
def Qa8(N:List (Pl×Nat×TypeId×Nat))(nxt:St)(out:GR->Option St)(p:GR×St):U6 GR:=match p.1 with
 | .normal=> .needT (qG (RS N p.2) nxt) (.leaf .normal)
 | .exit id=>match out (.exit id) with
  |some E=> .needT (qG (RS N p.2) E) (.leaf (.exit id))
  |none=> .fail
 | .ret=>match out .ret with
  |some E=> .needT (qG (RS N p.2) E) (.leaf .ret)
  |none=> .fail
theorem Wy9{N:List (Pl×Nat×TypeId×Nat)}{t:CT}{nxt:St}{out:GR->Option St}{R:GR->Prop}(h:(t.bind (Qa8 N nxt out)).sat R):
  t.sat (λp=>match p.1 with
   | .normal=>R .normal/\UU (qG (RS N p.2) nxt)
   |y=> ∃E,out y=some E/\R y/\UU (qG (RS N p.2) E)):=by
 refine U6.sat_mono ?_ (U6.sat_bind h);rintro ⟨y,s'⟩ A;cases y with
 |normal=>exact ⟨(U6.sat_needT A).2,(U6.sat_needT A).1⟩
 |exit id=>
  dsimp only [Qa8] at A ⊢
  split at A;rename_i E hE;exact ⟨E,hE,(U6.sat_needT A).2,(U6.sat_needT A).1⟩;exact A.elim
 |ret=>
  dsimp only [Qa8] at A ⊢
  split at A;rename_i E hE;exact ⟨E,hE,(U6.sat_needT A).2,(U6.sat_needT A).1⟩;exact A.elim
section
variable (P:Program)(G:List (Nat×Spec))
def DA(X:Ext)(L:List G5)(N:List (Pl×Nat×TypeId×Nat))(body:Code)(s nxt:St)(out:GR->Option St):U6 GR:=(DR P G X L body 0 s).bind (Qa8 N nxt out)
def Zn0(L:List G5)(N:List (Pl×Nat×TypeId×Nat))(body:Code)(s nxt:St)(out:GR->Option St):U6 GR:=DA P G {} L N body s nxt out
end
section
variable {P:Program}{G:List (Nat×Spec)}
theorem FQ{X:Ext}{L:List G5}{ro:Option Nat}{cx:Cx}(N:List (Pl×Nat×TypeId×Nat))(hG:U4 P G)(hX:UG P X cx)(HE:P.follows .mixedOrders=true){body:Code}(hL: ∀j cj,UC body j=some cj-> ∀sp,L[j]? =some sp->D7 P ro cx cj sp)
  {V:Type}(inv:V->St)(I:V->Prop)(μ:V->Nat)(out:V->GR->Option St){t:CT}{x0:V}(h0:I x0)
  (hok: ∀x,okB (inv x)=true)(wR: ∀x y E,out x y=some E->okB E=true)
  (round: ∀(Q:GR×St->Prop),t.sat Q-> ∀x,I x-> ∃x',(DA P G X L N body (inv x) (inv x') (out x)).sat (λy=>match y with
   | .normal=>I x'/\μ x'<μ x
   |y=> ∀E,out x y=some E->Q (y,E))):D7 P ro cx (.loop body) (H4 N (D1 (inv x0) t)):=by
 refine u9 (kO (hok x0) ?_);intro n Q hQ a w r;refine bL μ (λx a w=>I x/\Rel cx (inv x) a w) ?_ ⟨h0,r⟩;rintro x a w ⟨hx,hr⟩;obtain ⟨x',jR⟩:=round Q hQ x hx;refine wpIn_mono (DN hG hX HE body 0 (inv x) _ a w (λj cj hj sp hsp=>hL j cj hj sp (by simpa using hsp)) (Wy9 jR) hr) ?_
 rintro ex a₁ w₁ ⟨y,s',rfl,hq,hr'⟩;cases y with
 |normal=>
  obtain ⟨⟨h1,h2⟩,h3⟩:=hq;exact ⟨x',h2,h1,RP (GY h3) (hok x') (F7 hr')⟩
 |exit id=>
  obtain ⟨E,hE,h1,h3⟩:=hq;exact ⟨.exit id,E,rfl,h1 E hE,RP (GY h3) (wR x _ E hE) (F7 hr')⟩
 |ret=>
  obtain ⟨E,hE,h1,h3⟩:=hq;exact ⟨.ret,E,rfl,h1 E hE,RP (GY h3) (wR x _ E hE) (F7 hr')⟩
theorem jM{L:List G5}(N:List (Pl×Nat×TypeId×Nat))(hG:U4 P G)(HE:P.follows .mixedOrders=true){body:Code}(hL: ∀j cj,UC body j=some cj-> ∀sp,L[j]? =some sp->GU P cj sp)
  {X:Type}(inv:X->St)(I:X->Prop)(μ:X->Nat)(out:X->GR->Option St){t:CT}{x0:X}(h0:I x0)
  (hok: ∀x,okB (inv x)=true)(wR: ∀x y E,out x y=some E->okB E=true)
  (round: ∀(Q:GR×St->Prop),t.sat Q-> ∀x,I x-> ∃x',(Zn0 P G L N body (inv x) (inv x') (out x)).sat (λy=>match y with
   | .normal=>I x'/\μ x'<μ x
   |y=> ∀E,out x y=some E->Q (y,E))):GU P (.loop body) (H4 N (D1 (inv x0) t)):=
 λro cx=>FQ N hG (UG.nil P cx) HE (λj cj hj sp hsp=>hL j cj hj sp hsp ro cx) inv I μ out h0 hok wR round
end
def RH(ps:List Prop)(sp:G5):G5:=λs=>match sp s with
 |some t=>some (.need ps t)
 |none=>none
theorem xS{P:Program}{ro:Option Nat}{cx:Cx}{c:Code}{ps:List Prop}{sp:G5}(h:UU ps->D7 P ro cx c sp):D7 P ro cx c (RH ps sp):=by
 intro n s t ht Q hQ a w r;unfold RH at ht;split at ht;rename_i t' ht';cases ht;exact h hQ.1 n s t' ht' Q hQ.2 a w r;cases ht
theorem DU{P:Program}{c:Code}{ps:List Prop}{sp:G5}(h:UU ps->GU P c sp):GU P c (RH ps sp):=λro cx=>xS (λA=>h A ro cx)
section
variable {P:Program}
def Xs0(P:Program)(rs:List ResultVar)(t:CT):U6 AV:=t.bind λp=>match p.1 with
 | .exit _=> .fail
 |_=>match qH P p.2 rs with
  |some r=> .leaf (F3 p.2.m 40 r)
  |none=> .fail
mutual
def FR:AV->AV->Prop
 | .x u,b=>match b with
  | .top=>True
  | .x v=>UX u v
  | .lst _ n _=>m6 u/\n=0
  |b=>AV.x u=b
 | .lit c,b=>match b with
  | .top=>True
  | .x (.bool d)=>c=d
  |b=>AV.lit c=b
 | .lst sz n f,b=>match b with
  | .top=>True
  | .lst sz' n' f'=>sz=sz'/\n=n'/\ ∀i,i<n'->f i=f' i
  |b=>AV.lst sz n f=b
 | .agg l,b=>match b with
  | .top=>True
  | .agg l'=>wV l l'
  |b=>AV.agg l=b
 | .tup l,b=>match b with
  | .top=>True
  | .tup l'=>wV l l'
  |b=>AV.tup l=b
 | .roI pre n f off,b=>match b with
  | .top=>True
  | .roI pre' n' f' off'=>pre=pre'/\n=n'/\(∀k,k<n'->f k=f' k)/\off=off'
  |b=>AV.roI pre n f off=b
 |a,b=>match b with
  | .top=>True
  |b=>a=b
def wV:List AV->List AV->Prop
 |[],l'=>match l' with
  |[]=>True
  |_::_=>False
 |r::l,l'=>match l' with
  |a::l'=>FR r a/\wV l l'
  |[]=>False
end
mutual
theorem FY{e:G8}{w:World}: ∀{a b:AV} {v:Value},FR a b->Rep e w a v->Rep e w b v
 | .x u,b,v,h,r=>by
  unfold FR at h;split at h;exact .top v;rw [eY h] at r;exact r;obtain ⟨h1,rfl⟩:=h;cases r.x_inv;rw [lZ h1];exact .lstNil _ _;rw [←h];exact r
 | .lit c,b,v,h,r=>by
  unfold FR at h;split at h;exact .top v;subst h;cases r.lit_inv;exact .x _;rw [←h];exact r
 | .lst sz n f,b,v,h,r=>by
  unfold FR at h;split at h;exact .top v;obtain ⟨rfl,rfl,h3⟩:=h;exact gK.rep (.lst _ _ _ _ h3) r;rw [←h];exact r
 | .agg l,b,v,h,r=>by
  unfold FR at h;split at h;exact .top v;obtain ⟨vs,rfl,hr⟩:=r.agg_inv;exact Rep.aggL (yY h hr);rw [←h];exact r
 | .tup l,b,v,h,r=>by
  unfold FR at h;split at h;exact .top v;obtain ⟨vs,rfl,hr⟩:=r.tup_inv;exact Rep.tupL (yY h hr);rw [←h];exact r
 | .top,b,v,h,r=>by
  unfold FR at h;split at h;exact .top v;rw [←h];exact r
 | .fn _ _ _,b,v,h,r=>by
  unfold FR at h;split at h;exact .top v;rw [←h];exact r
 | .ptr _ _,b,v,h,r=>by
  unfold FR at h;split at h;exact .top v;rw [←h];exact r
 | .row _,b,v,h,r=>by
  unfold FR at h;split at h;exact .top v;rw [←h];exact r
 | .elt _ _ _ _,b,v,h,r=>by
  unfold FR at h;split at h;exact .top v;rw [←h];exact r
 | .ro _,b,v,h,r=>by
  unfold FR at h;split at h;exact .top v;rw [←h];exact r
 | .mp _,b,v,h,r=>by
  unfold FR at h;split at h;exact .top v;rw [←h];exact r
 | .any1,b,v,h,r=>by
  unfold FR at h;split at h;exact .top v;rw [←h];exact r
 | .mpr _ _,b,v,h,r=>by
  unfold FR at h;split at h;exact .top v;rw [←h];exact r
 | .roI pre n f off,b,v,h,r=>by
  unfold FR at h;split at h;exact .top v;obtain ⟨rfl,rfl,h3,rfl⟩:=h;cases r with
  |roI _ _ _ _ b o hr=>
   have hL:DE n f=DE n _:=List.map_congr_left (λk hk=>by rw [h3 k (List.mem_range.1 hk)])
   rw [hL] at hr;exact .roI _ _ _ _ b o hr
  rw [←h];exact r
theorem yY{e:G8}{w:World}: ∀{l l':List AV} {vs:List Value},wV l l'->UM e w l vs->UM e w l' vs
 |[],[],_,_,r=>r
 |[],_::_,_,h,_=>by simp [wV] at h
 |a::l,[],_,h,_=>by simp [wV] at h
 |a::l,b::l',vs,h,r=>by
  unfold wV at h;obtain ⟨v,vs',rfl,hv,hvs⟩:=r.cons_inv;exact UM.cons (FY h.1 hv) (yY h.2 hvs)
end
def EndR(P:Program)(fn:Func)(res:AV)(p:GR×St):Prop:=(match p.1 with| .exit _=>False|_=>True)/\ ∃r,qH P p.2 fn.results.toList=some r/\FR (F3 p.2.m 40 r) res
theorem Wz0{fn:Func}{res:AV}{t:CT}(h:(Xs0 P fn.results.toList t).sat (λr=>FR r res)):t.sat (EndR P fn res):=by
 refine U6.sat_mono ?_ (U6.sat_bind h);rintro ⟨x,s⟩ hs;cases x with
 |exit i=>exact hs.elim
 |normal=>
  simp only at hs;split at hs;rename_i r hr;exact ⟨trivial,r,hr,hs⟩;exact hs.elim
 |ret=>
  simp only at hs;split at hs;rename_i r hr;exact ⟨trivial,r,hr,hs⟩;exact hs.elim
def EndC(P:Program)(fn:Func)(Q:AV->Prop)(p:GR×St):Prop:=(match p.1 with| .exit _=>False|_=>True)/\ ∃r,qH P p.2 fn.results.toList=some r/\ ∃r',FR (F3 p.2.m 40 r) r'/\Q r'
theorem Wz4{fn:Func}{Q:AV->Prop}{t:CT}(h:(Xs0 P fn.results.toList t).sat (λr=> ∃r',FR r r'/\Q r')):t.sat (EndC P fn Q):=by
 refine U6.sat_mono ?_ (U6.sat_bind h);rintro ⟨x,s⟩ hs;cases x with
 |exit i=>exact hs.elim
 |normal=>
  simp only at hs;split at hs;rename_i r hr;exact ⟨trivial,r,hr,hs⟩;exact hs.elim
 |ret=>
  simp only at hs;split at hs;rename_i r hr;exact ⟨trivial,r,hr,hs⟩;exact hs.elim
section
variable {G:List (Nat×Spec)}{X:Ext}{L:List G5}{f:FuncId}{fn:Func}{c:Code}{avs:List AV}
theorem HD{sp t:U6 AV}(hG:U4 P G)(hX: ∀cx,UG P X cx)(HE:P.follows .mixedOrders=true)(hf:P.funcs[f]? =some fn)(hb:fn.body=some c)
  (hL: ∀j cj,UC c j=some cj-> ∀sp,L[j]? =some sp->D3 P cj sp)(ht:Xs0 P fn.results.toList (DR P G X L c 0 (D5 fn avs))=t)(h: ∀Q:AV->Prop,sp.sat Q->t.sat (λr=> ∃r',FR r r'/\Q r')):G6 P f avs sp:=by
 subst ht;intro Q hQ e w args hro hgl RL hr;refine zV hG HE hf hb (cx:=nE w (λb=>b<w.heap.size/\ ¬e.ro b)) (gh:=none) (T:=λb=>b<w.heap.size/\ ¬e.ro b) (e:=e) (hX _) (λ_ _ h=>h) rfl rfl (by rintro g T w0 D ⟨rfl,_⟩ h;exact h) ⟨rfl,rfl⟩ (λb h=>h) hro hgl RL hr (λj cj hj sp hsp=>hL j cj hj sp hsp _ (zU _ _)) (Wz4 (h Q hQ)) ?_ ?_
 rintro x s w0 T' e' tmps w' ⟨hx,r,FL,r',yF,hQr⟩ ⟨rfl,rfl⟩ q1 q2 q3 q5 q4;obtain ⟨u,hu,H5⟩:=F0 (P:=P) q3 q4 FL;refine ⟨u,hu,u,r',rfl,hQr,q2,?_⟩;refine FY yF (Rep.idf (e:=e'.view) ?_ (LZ q1 q3 40 r u H5) (LC q3 40 r u H5));rintro b (hb|⟨k,hb⟩);rcases An b w0.heap.size with h1|h1;refine .inl ?_;rcases Classical.em (e.ro b) with h2|h2;exact h2;exact (q5 b ⟨h1,h2⟩ hb).elim;exact .inr ⟨h1,(q1.apart b hb).2⟩;exact .inr ⟨(q1.owned b k hb).1,(q1.owned b k hb).2⟩;rintro x s ⟨hx,_⟩ i rfl;exact hx
theorem DL{res:AV}{t:U6 AV}(hG:U4 P G)(hX: ∀cx,UG P X cx)(HE:P.follows .mixedOrders=true)(hf:P.funcs[f]? =some fn)(hb:fn.body=some c)
  (hL: ∀j cj,UC c j=some cj-> ∀sp,L[j]? =some sp->D3 P cj sp)(ht:Xs0 P fn.results.toList (DR P G X L c 0 (D5 fn avs))=t)(h:t.sat (λr=>FR r res)):RB P f avs res:=by
 subst ht;intro e w args hro hgl RL hr;refine zV hG HE hf hb (cx:=nE w (λb=>b<w.heap.size/\ ¬e.ro b)) (gh:=none) (T:=λb=>b<w.heap.size/\ ¬e.ro b) (e:=e) (hX _) (λ_ _ h=>h) rfl rfl (by rintro g T w0 D ⟨rfl,_⟩ h;exact h) ⟨rfl,rfl⟩ (λb h=>h) hro hgl RL hr (λj cj hj sp hsp=>hL j cj hj sp hsp _ (zU _ _)) (Wz0 h) ?_ ?_
 rintro x s w0 T' e' tmps w' ⟨hx,r,FL,yF⟩ ⟨rfl,rfl⟩ q1 q2 q3 q5 q4;obtain ⟨u,hu,H5⟩:=F0 (P:=P) q3 q4 FL;refine ⟨u,hu,u,rfl,q2,?_⟩;refine FY yF (Rep.idf (e:=e'.view) ?_ (LZ q1 q3 40 r u H5) (LC q3 40 r u H5));rintro b (hb|⟨k,hb⟩);rcases An b w0.heap.size with h1|h1;refine .inl ?_;rcases Classical.em (e.ro b) with h2|h2;exact h2;exact (q5 b ⟨h1,h2⟩ hb).elim;exact .inr ⟨h1,(q1.apart b hb).2⟩;exact .inr ⟨(q1.owned b k hb).1,(q1.owned b k hb).2⟩;rintro x s ⟨hx,_⟩ i rfl;exact hx
end
def Jq7(P:Program)(rs:List ResultVar)(t:CT):U6 (Option (TypeId×Nat×Nat×(Ci))):=t.bind λp=>match p.1 with
 | .exit _=> .fail
 |_=>match qH P p.2 rs with
  |some (.row id)=>match DY p.2.m id with
   |some (.row T sz n f)=> .leaf (some (T,sz,n,f))
   |_=> .fail
  |some (.x (.slice none 0 0))=> .leaf none
  |_=> .fail
def Xr7(T:TypeId)(sz n:Nat)(g:Ci):Option (TypeId×Nat×Nat×(Ci))->Prop
 |none=>n=0
 |some (T',sz',n',f)=>T'=T/\sz'=sz/\n'=n/\ ∀i,i<n->f i=g i/\ ∀a∈g i,isX a
def EndF(P:Program)(fn:Func)(T:TypeId)(sz n:Nat)(g:Ci)(p:GR×St):Prop:=(match p.1 with| .exit _=>False|_=>True)/\
 ((∃id f,qH P p.2 fn.results.toList=some (.row id)/\DY p.2.m id=some (.row T sz n f)/\ ∀i,i<n->f i=g i/\ ∀a∈g i,isX a)\/(qH P p.2 fn.results.toList=some (.x (.slice none 0 0))/\n=0))
theorem Wz3{fn:Func}{T:TypeId}{sz n:Nat}{g:Ci}{t:CT}(h:(Jq7 P fn.results.toList t).sat (Xr7 T sz n g)):t.sat (EndF P fn T sz n g):=by
 refine U6.sat_mono ?_ (U6.sat_bind h);rintro ⟨x,s⟩ hs;have key:(match qH P s fn.results.toList with
  |some (.row id)=>match DY s.m id with
   |some (.row T sz n f)=>(.leaf (some (T,sz,n,f)):U6 (Option (TypeId×Nat×Nat×(Ci))))
   |_=> .fail
  |some (.x (.slice none 0 0))=> .leaf none
  |_=> .fail).sat (Xr7 T sz n g)->(∃id f,qH P s fn.results.toList=some (.row id)/\DY s.m id=some (.row T sz n f)/\ ∀i,i<n->f i=g i/\ ∀a∈g i,isX a)\/(qH P s fn.results.toList=some (.x (.slice none 0 0))/\n=0):=by
  intro h;split at h;rename_i id hid;split at h;rename_i T' sz' n' f hm;obtain ⟨rfl,rfl,rfl,h⟩:=h;exact .inl ⟨id,f,hid,hm,h⟩;exact h.elim;rename_i hid;exact .inr ⟨hid,h⟩;exact h.elim
 cases x with
 |exit i=>exact hs.elim
 |normal=>exact ⟨trivial,key hs⟩
 |ret=>exact ⟨trivial,key hs⟩
theorem qP{G:List (Nat×Spec)}{X:Ext}{L:List G5}{f:FuncId}{fn:Func}{c:Code}{avs:List AV}{T:TypeId}{sz n:Nat}{g:Ci}{t:U6 (Option (TypeId×Nat×Nat×(Ci)))}(hG:U4 P G)(hX: ∀cx,UG P X cx)(HE:P.follows .mixedOrders=true)(hf:P.funcs[f]? =some fn)(hb:fn.body=some c)
  (hL: ∀j cj,UC c j=some cj-> ∀sp,L[j]? =some sp->D3 P cj sp)(ht:Jq7 P fn.results.toList (DR P G X L c 0 (D5 fn avs))=t)(h:t.sat (Xr7 T sz n g))(DJ: ∀i,i<n->(g i).length=sz):FC P f avs T sz n g:=by
 subst ht;intro e w args hro hgl RL hr;refine zV hG HE hf hb (cx:=nE w (λb=>b<w.heap.size/\ ¬e.ro b)) (gh:=none) (T:=λb=>b<w.heap.size/\ ¬e.ro b) (e:=e) (hX _) (λ_ _ h=>h) rfl rfl (by rintro g T w0 D ⟨rfl,_⟩ h;exact h) ⟨rfl,rfl⟩ (λb h=>h) hro hgl RL hr (λj cj hj sp hsp=>hL j cj hj sp hsp _ (zU _ _)) (Wz3 h) ?_ ?_
 rintro x s w0 T' e' tmps w' ⟨hx,B0⟩ ⟨rfl,rfl⟩ q1 q2 q3 q5 q4;rcases B0 with ⟨id,ff,FL,hm,hfg⟩|⟨FL,rfl⟩;obtain ⟨u,hu,H5⟩:=F0 (P:=P) q3 q4 FL;obtain ⟨h1,h2,h3,xs,h4,h5⟩:=q3 _ (GI hm);cases H5 with
 |row _ a n' c' hl hv=>
  refine ⟨_,hu,_,xs,rfl,q2,?_,?_,λi O=>⟨DJ i O,λa ha=>Wo7 ((hfg i O).2 a ha)⟩,λi j a u O ha hu=>?_⟩;rw [←hv];exact h4;intro b hbv;rw [←hv] at hbv;exact q1.owned b id (h2 b hbv);have hx':=Wo7 ((hfg i O).2 a (FN ha));obtain ⟨z,rfl⟩:=hx';have:=h5 i j (.x z) u O (by rw [(hfg i O).1];exact ha) hu
  rw [this.x_inv]
 obtain ⟨u,hu,H5⟩:=F0 (P:=P) q3 q4 FL;obtain rfl:=H5.x_inv;exact ⟨_,hu,_,[],rfl,q2,World.ownsRow_nil _ _ _ _,(λb (hb:none=some b)=>by cases hb),λi O=>absurd O (Aq _),λi j a u O=>absurd O (Aq _)⟩
 rintro x s ⟨hx,_⟩ i rfl;exact hx
def BF(P:Program)(g:FuncId)(caps:List AV)(N:Nat)(vals:Nat->List Value):Prop:=
 Enters P g/\ ∀(e:G8) (lb:List Value) (w:World) (l:Nat) (Φ:Option Nat->(Nat->Prop)->World->Prop) (T:Nat->Prop),
  (∀b,e.ro b->b<w.heap.size/\ ¬T b)->DQ e w->(∀b,T b->b<w.heap.size)->(∀a∈caps,Idf a)->UM e w caps lb->
  (∀g T w w',Φ g T w->Below w.heap.size w w'->Φ g T w')->
  (∀k T w n,Φ (some k) T w->k<N->YieldAt (fr none) n P l (vals k).toArray w λen w'=>w.heap.size<=w'.heap.size/\(∀b,b<w.heap.size-> ¬T b->w'.heap[b]? =w.heap[b]?)/\
   ∃T',(∀b,T' b->b<w'.heap.size/\(T b\/w.heap.size<=b))/\((en= .returned (.bool true)/\Φ (some (k+1)) T' w')\/(en= .returned (.bool false)/\Φ none T' w')))->
  Φ (some 0) T w->
  Calls P g (.func (.yield l) #[] #[]::lb).toArray w λen w'=>(∃v,en= .returned v)/\((∃T',Φ (some N) T' w')\/(∃T',Φ none T' w'))
def Jq6(N:Nat)(t:CT):U6 Unit:=t.bind λp=>match p.1 with
 | .exit _=> .fail
 |_=>match p.2.gh with
  |none=> .leaf ()
  |some k=> .need [k=N] (.leaf ())
theorem Wy7{N:Nat}{t:CT}(h:(Jq6 N t).sat (λ_=>True)):t.sat (λp=>(∀i,p.1≠ .exit i)/\(p.2.gh=none\/p.2.gh=some N)):=by
 refine U6.sat_mono ?_ (U6.sat_bind h);rintro ⟨x,s⟩ hs;have key:(match s.gh with|none=>(.leaf ():U6 Unit)|some k=> .need [k=N] (.leaf ())).sat (λ_=>True)->s.gh=none\/s.gh=some N:=by
  cases hg:s.gh with
  |none=>exact λ_=> .inl rfl
  |some k=>
   intro h;have:k=N:=h.1;exact .inr (by rw [this])
 cases x with
 |exit i=>exact hs.elim
 |normal=>exact ⟨λi h=>(by cases h),key hs⟩
 |ret=>exact ⟨λi h=>(by cases h),key hs⟩
def cxY(w:World)(Φ:Option Nat->(Nat->Prop)->World->Prop):Cx:={M:=λ_=>False,Φ:=λg T w'=>w.heap.size<=w'.heap.size/\Φ g T w',K:=λ_ _=>False,saved:=[] }
theorem B5{G:List (Nat×Spec)}{L:Nat->List G5}{g:FuncId}{fn:Func}{c:Code}{caps:List AV}{N:Nat}{vals:Nat->List Value}{t:Nat->U6 Unit}(hG:U4 P G)(HE:P.follows .mixedOrders=true)(PQ:Enters P g)(hf:P.funcs[g]? =some fn)(hb:fn.body=some c)(hrs:fn.results=#[])
  (hL: ∀l cx,UG P {Y:=some (l,N,vals) } cx-> ∀j cj,UC c j=some cj-> ∀sp,(L l)[j]? =some sp->D7 P none cx cj sp)
  (ht: ∀l,Jq6 N (DR P G {Y:=some (l,N,vals) } (L l) c 0 {D5 fn (.fn (.yield l) [] []::caps) with gh:=some 0})=t l)(h: ∀l,(t l).sat (λ_=>True)):BF P g caps N vals:=by
 refine ⟨PQ,?_⟩;intro e lb w l Φ T hro hgl hT RL hr hst hy h0;have hX:UG P {Y:=some (l,N,vals) } (cxY w Φ):=by
  refine ⟨?_,(λ_ h=>by cases h),(λ_ h=>by cases h),(λ_ h=>by cases h),(λ_ h=>by cases h),(λ_ h=>by cases h)⟩
  intro l' N' vals' hY;cases hY;refine ⟨λk T w1 w2 h hb=>⟨Ar h.1 hb.size,hst _ T w1 w2 h.2 hb⟩,λk T w1 n h hk=>?_⟩;obtain ⟨fn,tmps,assign,body,h1,h2⟩:=hy k T w1 n h.2 hk;refine ⟨fn,tmps,assign,body,h1,h2.mono ?_⟩;rintro en w2 ⟨q1,q2,T',q3,q4⟩;refine ⟨q1,q2,T',q3,q4.imp (λq=>⟨q.1,?_,q.2⟩) (λq=>⟨q.1,?_,q.2⟩)⟩;exact Ar h.1 q1;exact Ar h.1 q1
 have hs:=h l;rw [←ht l] at hs;refine zV hG HE hf hb (cx:=cxY w Φ) (gh:=some 0) (T:=T) (e:=e) (avs:= .fn (.yield l) [] []::caps) hX (λ_ _ h=>h) rfl rfl (λ_ _ _ _ _ h=>h.elim) ⟨Am _,h0⟩ (λb hb=>⟨hT b hb,λhr=>(hro b hr).2 hb⟩) (λb hb=>(hro b hb).1) hgl ?_ (UM.cons (.fn (.yield l) [] [] [] [] rfl (λi a v h=>by simp at h) rfl (λi a v h=>by simp at h)) hr) (hL l _ hX) (Wy7 hs) ?_ ?_
 intro a ha;rcases HA.1 ha with rfl|ha;exact .fn _ [] [] (λa h=>by cases h) (λa h=>by cases h)
 exact RL a ha;rintro x s w0 T' e' tmps w' ⟨_,hgh⟩ ⟨_,hΦ⟩ _ q2 _ _ _;refine ⟨.tuple #[],?_,⟨_,rfl⟩,?_⟩;simp [results,hrs];have hΦ':=hst _ T' w0 w' hΦ q2;rcases hgh with hgh|hgh;rw [hgh] at hΦ';exact .inr ⟨T',hΦ'⟩;rw [hgh] at hΦ';exact .inl ⟨T',hΦ'⟩;exact λx s h=>h.1
end
section
variable {P:Program}{cx:Cx}{w0:World}{T:Nat->Prop}{e:G8}{s:St}{a:Act}{w:World}
theorem FT.grow(r:FT cx w0 T e s a w){w':World}(hb:Below w.heap.size w w'):FT cx w0 T e s a w':=by
 have st:Step e e w w':=⟨λb hlt hr=>⟨hr,hb.block b hlt⟩,λ_ h=>⟨h,rfl,rfl⟩,hb.size⟩;refine ⟨⟨λb hb'=>⟨(r.env.apart b hb').1,?_⟩,λb k hk=>⟨(r.env.owned b k hk).1,?_⟩,r.env.glob.step st⟩,r.below.trans (hb.mono r.hB),r.mem.ext hb st (λ_ _ h=>h),r.live,r.foe,r.xt.step st,r.slots.step st⟩;have:=(r.env.apart b hb').2;have:=hb.size;omega;have:=(r.env.owned b k hk).2;have:=hb.size;omega
theorem FT.moreRo(r:FT cx w0 T e s a w)(ro':Nat->Prop)(h1: ∀b,e.ro b->ro' b)(h2: ∀b,ro' b->e.own b=none/\b<w.heap.size)(h3: ∀b,ro' b-> ¬T b):FT cx w0 T {e with ro:=ro'} s a w:=by
 have st:Step e {e with ro:=ro'} w w:=⟨λb _ hr=>⟨h1 b hr,rfl⟩,λ_ h=>⟨h,rfl,rfl⟩,Am _⟩
 exact ⟨⟨h2,r.env.owned,r.env.glob.step st⟩,r.below,r.mem.ext (Below.refl _ _) st (λ_ _ h=>h),r.live,λb hb=>⟨(r.foe b hb).1,λh=>h3 b h hb⟩,r.xt.step st,r.slots.step st⟩
theorem FT.turn(r:FT cx w0 T e s a w){l:Nat}{o o':Obj}(hl:w.heap[l]? =some o)(ho:o.isCells=false)(ho':o'.isCells=false)(HQ:e.own l=none)(hB:w0.heap.size<=l)(hdl: ∃q,o= .loop q){K':Nat->Obj->Prop}
  (hK': ∀b q,K' b q->(b≠l/\cx.K b q)\/(b=l/\q=o'/\e.ro l)):FT {cx with K:=K'} w0 T e s a (w.putObj l o'):=by
 have hd: ∀x,o≠ .deferred x:=by rintro x rfl;obtain ⟨_,h⟩:=hdl;cases h
 have hom: ∀es c,o≠Obj.map es c:=by rintro es c rfl;obtain ⟨_,h⟩:=hdl;cases h
 have hmp:=PP (o':=o') hl hom;have hlt:=(B1.1 hl).1;have hsz:(w.putObj l o').heap.size=w.heap.size:=World.putObj_size;have hc:=LW (o':=o') hl ho ho';refine ⟨⟨λb hb=>by rw [hsz];exact r.env.apart b hb,λb k hk=>by rw [hsz];exact r.env.owned b k hk,CI r.env.glob hl ho⟩,?_,λp A=>(r.mem p A).putObj hl hom ho ho' HQ,r.live,r.foe,⟨⟨λd hd'=>?_,r.xt.defers.2⟩,λb q hq=>?_,⟨r.xt.saved.1,λi x v hx hv=>(r.xt.saved.2 i x v hx hv).sameCells hsz hc hmp⟩,by rw [hsz];exact r.xt.size⟩,r.slots.sameCells hsz hc hmp⟩
 exact r.below.trans ((Below.refl w0.heap.size w).grown (grownBy_putObj' w l _) (by have:=r.hB;omega) (λk he=>by cases he;exact hB))
 obtain ⟨D,k1,k2,k3,k4,k5⟩:=r.xt.defers.1 d hd';refine ⟨D,k1,k2,by rw [hsz];exact k3,?_,k5⟩
 rw [Bu (λhe=>by subst he;rw [hl] at k4;exact hd _ (Bb k4))]
 exact k4;rcases hK' b q hq with ⟨hne,hk⟩|⟨rfl,rfl,hro⟩;obtain ⟨q1,q2,q3⟩:=r.xt.kept b q hk;exact ⟨q1,by rw [hsz];exact q2,(Bu hne).trans q3⟩
 exact ⟨hro,by rw [hsz];exact hlt,World.putObj_heap_same hlt⟩
def Wh7:List Nat->List Value->List AV->List AV
 |p::ps,v::vs,σ=>Wh7 ps vs (σ.set p (.x v))
 |_,_,σ=>σ
theorem OV: ∀(ps:List Nat) (vs:List Value) (σ:List AV) (us:List Value),UM e w σ us->UM e w (Wh7 ps vs σ) ((ps.zip vs).foldl (λt (p:Nat×Value)=>t.set p.1 p.2) us)
 |[],_,_,_,h=>h
 |_::_,[],_,_,h=>h
 |p::ps,v::vs,_,_,h=>OV ps vs _ _ (h.set (.x v) p)
theorem AM: ∀(l:List (Nat×Value)) (t:Array Value),(l.foldl (λt (p:Nat×Value)=>t.setIfInBounds p.1 p.2) t).toList=l.foldl (λt (p:Nat×Value)=>t.set p.1 p.2) t.toList
 |[],_=>rfl
 |p::l,t=>by simp only [List.foldl_cons];rw [AM l];simp
def pJ(s:St)(ps:List Nat)(vs:List Value):St:={s with σ:=Wh7 ps vs s.σ,sv:=s.σ::s.sv}
def NX(s:St):St:=match s.sv with
 |σ::t=>{s with σ:=σ,sv:=t}
 |[]=>s
def EC(P:Program)(G:List (Nat×Spec))(X:Ext)(L:List G5)(N:List (Pl×Nat×TypeId×Nat))(ps:List Nat)(vs:List Value)(assign body:Code)(s nxt:St)(out:GR->Option St):U6 GR:=
 (DR P G X [] assign 0 (pJ s ps vs)).bind λp=>match p.1 with
  | .normal=>(DR P G X L body 0 p.2).bind λq=>Qa8 N nxt out (q.1,NX q.2)
  |_=> .fail
def GR.code:GR->Code
 | .normal=> .skip
 | .exit id=> .exit id
 | .ret=> .ret
end
section
variable {P:Program}{G:List (Nat×Spec)}{X:Ext}{L:List G5}
theorem pQ{N:List (Pl×Nat×TypeId×Nat)}{ps:List Nat}{vs:List Value}{assign body:Code}{s nxt:St}{out:GR->Option St}{R:GR->Prop}(h:(EC P G X L N ps vs assign body s nxt out).sat R):
  (DR P G X [] assign 0 (pJ s ps vs)).sat (λp=>p.1= .normal/\(DR P G X L body 0 p.2).sat (λq=>match q.1 with
   | .normal=>R .normal/\UU (qG (RS N (NX q.2)) nxt)
   |y=> ∃E,out y=some E/\R y/\UU (qG (RS N (NX q.2)) E))):=by
 refine U6.sat_mono ?_ (U6.sat_bind h);rintro ⟨y,s1⟩ h1;cases y with
 |normal=>
  refine ⟨rfl,U6.sat_mono ?_ (U6.sat_bind h1)⟩;rintro ⟨y,s'⟩ A;cases y with
  |normal=>exact ⟨(U6.sat_needT A).2,(U6.sat_needT A).1⟩
  |exit id=>
   dsimp only [Qa8] at A ⊢
   split at A;rename_i E hE;exact ⟨E,hE,(U6.sat_needT A).2,(U6.sat_needT A).1⟩;exact A.elim
  |ret=>
   dsimp only [Qa8] at A ⊢
   split at A;rename_i E hE;exact ⟨E,hE,(U6.sat_needT A).2,(U6.sat_needT A).1⟩;exact A.elim
 |exit id=>exact h1.elim
 |ret=>exact h1.elim
theorem u6(N:List (Pl×Nat×TypeId×Nat))(hG:U4 P G)(hX: ∀cx,UG P X cx)(HE:P.follows .mixedOrders=true){f:Operand}{ps:Array Nat}{assign body:Code}
  (hL: ∀j cj,UC body j=some cj-> ∀sp,L[j]? =some sp->GU P cj sp)
  {V:Type}(inv:V->St)(I:V->Prop)(idx:V->Nat)(out:V->GR->Option St){t:CT}{x0:V}(h0:I x0)(hi0:idx x0=0)
  (hok: ∀x,okB (inv x)=true)(wR: ∀x y E,out x y=some E->okB E=true)(hgh: ∀x,(inv x).gh=none)(Qw7: ∀x y E,out x y=some E->E.gh=none)
  {g:FuncId}{caps:List AV}{caps0:List AV}(hfv:rho (inv x0).σ f= .fn (.func g) [] caps0)(uE: ∀e w lb,GH e (inv x0).m w->UM e w caps0 lb->UM e w caps lb/\ ∀x∈caps,Idf x){M:Nat}{vals:Nat->List Value}(Qw2:BF P g caps M vals)(hps: ∀k,(vals k).length=ps.size)
  (round: ∀(Q:GR×St->Prop),t.sat Q-> ∀x,I x->(idx x<M-> ∃x',idx x'=idx x+1/\(EC P G X L N ps.toList (vals (idx x)) assign body (inv x) (inv x') (out x)).sat (λy=>match y with
   | .normal=>I x'
   |y=> ∀E,out x y=some E->Q (y,E)))/\(idx x=M->Q (.normal,inv x))):D3 P (.rangeFunc f ps assign body) (H4 N (D1 (inv x0) t)):=by
 intro cx Zv1;refine u9 (kO (hok x0) ?_);intro n Q hQ a w r;obtain ⟨w0,T0,e,hΦ0,r⟩:=r;rw [hgh] at hΦ0;refine wpIn_rangeFunc ?_;intro fn hfn;obtain ⟨rec,vQ⟩: ∃rec:LoopState->Option Code->Loop,rec=λst pe=>{state:=st,pending:=pe,fn,tmps:=a.tmps,params:=ps,assign,body,defers:=w.heap.size}:=⟨_,rfl⟩;obtain ⟨W1,hW1⟩: ∃W1,(w.alloc (.deferred (some []))).alloc (.loop (rec .ready none))=W1:=⟨_,rfl⟩;have hfe:=RI r.slots f;rw [hfv] at hfe;obtain ⟨us,lb,hv,ru,rl⟩:=hfe.fn_inv;cases ru.nil_inv;have hL1:W1.heap[w.heap.size+1]? =some (.loop (rec .ready none)):=by
  rw [←hW1];have:=World.alloc_heap_new (w.alloc (.deferred (some []))) (.loop (rec .ready none));rwa [World.size_alloc] at this
 have hD1:W1.heap[w.heap.size]? =some (.deferred (some [])):=by
  rw [←hW1];exact (Below.heap_alloc _ _ _ UE).trans (World.alloc_heap_new w _)
 have hS1:W1.heap.size=w.heap.size+2:=by rw [←hW1];simp
 have hb1:Below w.heap.size w W1:=by
  rw [←hW1];exact ((Below.refl _ w).alloc (Am _) _).alloc UE _
 have hw0:=r.hB
 obtain ⟨a',ha'⟩: ∃a':Act,a'={tmps:=a.tmps,defers:={target:= .collected w.heap.size,args:=#[] }::a.defers}:=⟨_,rfl⟩
 let own':G8->Nat->Prop:=λe b=>(∃id,e.own b=some id)\/b=w.heap.size+1
 let Φi:Option Nat->(Nat->Prop)->World->Prop:=λk T W=>match k with
  |some k=> ∃x e,I x/\idx x=k/\T=own' e/\FT cx w0 T0 e (inv x) a' W/\e.own (w.heap.size+1)=none/\W.heap[w.heap.size+1]? =some (.loop (rec .ready none))
  |none=> ∃y E e,y≠GR.normal/\Q (y,E)/\E.gh=none/\T=own' e/\FT cx w0 T0 e E a' W/\e.own (w.heap.size+1)=none/\W.heap[w.heap.size+1]? =some (.loop (rec .done (some y.code)))
 have hst: ∀g T w w',Φi g T w->Below w.heap.size w w'->Φi g T w':=by
  intro k T w1 w2 h hb;cases k with
  |some k=>
   obtain ⟨x,e,h1,h2,h3,h4,h5,h6⟩:=h;exact ⟨x,e,h1,h2,h3,h4.grow hb,h5,(hb.block _ (B1.1 h6).1).trans h6⟩
  |none=>
   obtain ⟨y,E,e,h1,h2,h2',h3,h4,h5,h6⟩:=h;exact ⟨y,E,e,h1,h2,h2',h3,h4.grow hb,h5,(hb.block _ (B1.1 h6).1).trans h6⟩
 have r1:=r.grow hb1;have hns: ∀d∈a.defers,d≠{target:= .collected w.heap.size,args:=#[] }:=by
  intro d hd he;obtain ⟨D,k1,k2,k3,k4,k5⟩:=r.xt.defers.1 d hd;rw [k1] at he;simp only [Deferred.mk.injEq,Target.collected.injEq,and_true] at he;omega
 let e1:G8:={e with ro:=λb=>e.ro b\/b=w.heap.size}
 have r2:FT cx w0 T0 e1 (inv x0) a W1:=by
  refine r1.moreRo _ (λb h=> .inl h) ?_ ?_;rintro b (h|rfl);exact r1.env.apart b h;refine ⟨?_,U3⟩;cases ho:e.own w.heap.size with
  |none=>rfl
  |some k=>have:=(r.env.owned _ k ho).2;omega
  rintro b (h|rfl) hT;exact (r.foe b hT).2 h;have:=(r.foe _ hT).1;omega
 have r3:FT cx w0 T0 e1 (inv x0) a' W1:=by
  rw [ha'];refine ⟨r2.env,r2.below,r2.mem,r2.live,r2.foe,⟨⟨λd hd=>?_,List.nodup_cons.2 ⟨λh=>hns _ h rfl,r2.xt.defers.2⟩⟩,r2.xt.kept,r2.xt.saved,r2.xt.size⟩,r2.slots⟩;rcases HA.1 hd with rfl|hd;exact ⟨w.heap.size,rfl,.inr rfl,U3,hD1,Zv1 _ _ _ _ hΦ0 hw0 r.xt.size⟩;exact r2.xt.defers.1 d hd
 have Jo6:e.own (w.heap.size+1)=none:=by
  cases ho:e.own (w.heap.size+1) with
  |none=>rfl
  |some k=>have:=(r.env.owned _ k ho).2;omega
 refine ⟨w.heap.size+1,[{target:= .collected w.heap.size,args:=#[] }],W1,{target:= .fn (.func g) lb.toArray,args:=#[.func (.yield (w.heap.size+1)) #[] #[]] },W1,g,
  #[.func (.yield (w.heap.size+1)) #[] #[]]++lb.toArray,W1,?_,?_,(λ_ _=>trivial),?_,(λh=>by cases h),?_⟩
 rw [←hW1,vQ];exact run_enterLoop_outer _ _ _ _ _;simp only [resolve,hv];simp [go_sem];simp only [invoke];exact P3 Qw2.1 _ W1;have SU:#[.func (.yield (w.heap.size+1)) #[] #[]]++lb.toArray=(Value.func (.yield (w.heap.size+1)) #[] #[]::lb).toArray:=Array.ext' UE;rw [SU];obtain ⟨rl,Jp6⟩:=uE e w lb r.mem rl;have stw:Step e e1 w W1:=⟨λb hlt hr=>⟨.inl hr,hb1.block b hlt⟩,λ_ h=>⟨h,rfl,rfl⟩,hb1.size⟩;have RG:=Qw2.2 e1 lb W1 (w.heap.size+1) Φi (own' e1) ?_ (r.env.glob.step stw) ?_ Jp6 (rl.step stw) hst ?_ ⟨x0,e1,h0,hi0,rfl,r3,Jo6,hL1⟩;refine MY (RG.mono ?_);have hw4: ∀{W:World} {s:St} {e:G8} {o:Loop} {o':Loop},FT cx w0 T0 e s a' W->e.own (w.heap.size+1)=none->W.heap[w.heap.size+1]? =some (.loop o)->s.gh=none->Rel cx s a' (W.putObj (w.heap.size+1) (.loop o')):=by
  intro W s e o o' hr ho hl hg;have hne: ∀b q,cx.K b q->b≠w.heap.size+1:=by
   rintro b q hk rfl;have h1:=r.xt.kept _ q hk;omega
  have:=hr.turn (K':=cx.K) hl rfl (o':= .loop o') rfl ho U3 ⟨_,rfl⟩ (λb q hk=> .inl ⟨hne b q hk,hk⟩);exact ⟨w0,T0,e,by rw [hg];exact hΦ0,this⟩
 rintro en W ⟨⟨v,rfl⟩,h⟩;rcases h with ⟨T',x,e',q1,q2,q3,q4,q5,q6⟩|⟨T',y,E,e',q1,q2,q2',q3,q4,q5,q6⟩;refine ⟨none,_,by have:=run_endLoop (P:=P) q6 (by rw [vQ];simp);rw [vQ] at this;exact this,?_⟩
 have:=hw4 (o':={rec .ready none with state:= .exhausted}) q4 q5 q6 (hgh x)
 rw [ha',vQ] at this;exact ⟨.normal,inv x,rfl,(round Q hQ x q1).2 q2,this⟩
 ·have B0:(Instr.endLoop (w.heap.size+1)).run P W= .ok (some y.code) (W.putObj (w.heap.size+1) (.loop {rec .done (some y.code) with state:= .exhausted})):=by
   have:=run_endLoop (P:=P) q6 (by rw [vQ];simp)
   rw [vQ] at this ⊢;exact this
  refine ⟨some y.code,_,B0,?_⟩;have:=hw4 (o':={rec .done (some y.code) with state:= .exhausted}) q4 q5 q6 q2'
  rw [ha'] at this;cases y with
  |normal=>exact (q1 rfl).elim
  |exit id=>exact wpIn_exit ⟨.exit id,E,rfl,q2,this⟩
  |ret=>exact wpIn_ret ⟨.ret,E,rfl,q2,this⟩
 rintro b (h|rfl);refine ⟨by have:=(r.env.apart b h).2;omega,?_⟩
 rintro (⟨id,h2⟩|rfl);have h2':e.own b=some id:=h2;rw [(r.env.apart b h).1] at h2';cases h2';have:=(r.env.apart _ h).2;omega;refine ⟨U3,?_⟩;rintro (⟨id,h2⟩|h2);have:=(r.env.owned _ id h2).2;omega;omega;rintro b (⟨id,h⟩|rfl);have:=(r.env.owned b id h).2;omega;omega
 ·-- a round
  rintro k T W m ⟨x,ek,hIx,rfl,rfl,rk,hkl,hkr⟩ hkM;obtain ⟨x',hx',jR⟩:=(round Q hQ x hIx).1 hkM;have hWl:=(B1.1 hkr).1;have hy:=run_yield (P:=P) (args:=(vals (idx x)).toArray) hkr (by rw [vQ];simp [hps])
  rw [vQ] at hy;refine ⟨fn,_,assign,body,hy,roundIn_of_wpIn hfn ?_⟩;clear hy
  let nown:Nat->Prop:=λb=>w0.heap.size<=b/\b<W.heap.size/\ek.own b=none
  let K0:Nat->Obj->Prop:=λb o=>(cx.K b o\/(nown b/\W.heap[b]? =some o)\/(∃d∈a'.defers,d={target:= .collected b,args:=#[] }/\o= .deferred (some [])))/\b≠w.heap.size+1
  let cxk:(Nat->Obj->Prop)->Cx:=λK=>{M:=λ_=>False,Φ:=λg T w=>g=none/\w=w0/\T=T0,K:=K,saved:=a.tmps.toList::cx.saved,sz:=W.heap.size}
  let e2:G8:={ek with ro:=λb=>ek.ro b\/nown b}
  have rk2:FT cx w0 T0 e2 (inv x) a' W:=by
   refine rk.moreRo _ (λb h=> .inl h) ?_ ?_;rintro b (h|⟨h1,h2,h3⟩);exact rk.env.apart b h;exact ⟨h3,h2⟩;rintro b (h|⟨h1,h2,h3⟩) hT;exact (rk.foe b hT).2 h;have:=(rk.foe b hT).1;omega
  have hKok: ∀b o,K0 b o->e2.ro b/\b<W.heap.size/\W.heap[b]? =some o:=by
   rintro b o ⟨h|⟨h1,h2⟩|⟨d,hd,h1,rfl⟩,_⟩;exact rk2.xt.kept b o h;exact ⟨.inr h1,h1.2.1,h2⟩;obtain ⟨D,k1,k2,k3,k4,k5⟩:=rk2.xt.defers.1 d hd;rw [h1] at k1;simp only [Deferred.mk.injEq,Target.collected.injEq,and_true] at k1;subst k1;exact ⟨k2,k3,k4⟩
  have hlro:e2.ro (w.heap.size+1):= .inr ⟨U3,hWl,hkl⟩;have rs:Rel (cxk (λb o=>K0 b o\/(b=w.heap.size+1/\o= .loop (rec .ready none)))) (pJ (inv x) ps.toList (vals (idx x))) {tmps:=(ps.zip (vals (idx x)).toArray).foldl (λt (p,v)=>t.setIfInBounds p v) a.tmps,defers:=[] } W:=by
   refine ⟨w0,T0,e2,⟨hgh x,rfl,rfl⟩,rk2.env,rk2.below,rk2.mem,rk2.live,rk2.foe,⟨⟨(λd hd=>by cases hd),By⟩,?_,LM.cons (by rw [ha'] at rk2;exact rk2.slots) rk2.xt.saved,Am _⟩,?_⟩
   rintro b o (h|⟨rfl,rfl⟩);exact hKok b o h;exact ⟨hlro,hWl,hkr⟩;have h1:=OV (e:=e2) (w:=W) ps.toList (vals (idx x)) (inv x).σ a.tmps.toList (by rw [ha'] at rk2;exact rk2.slots)
   have h2:((ps.zip (vals (idx x)).toArray).foldl (λt (p,v)=>t.setIfInBounds p v) a.tmps).toList=(ps.toList.zip (vals (idx x))).foldl (λt (p:Nat×Value)=>t.set p.1 p.2) a.tmps.toList:=by
    rw [←AM,←Array.foldl_toList];simp
   rw [h2];exact h1
  have R0:=pQ jR;refine wpIn_mono (DN hG (hX _) HE (ro:=some (w.heap.size+1)) assign 0 _ _ _ W GN R0 rs) ?_;rintro ex a1 W1' ⟨y1,s1,rfl,⟨hy1,Jp8⟩,w0',T',ea,⟨hg1,rfl,rfl⟩,ra⟩;cases hy1;obtain ⟨hlr,hll,hlh⟩:=ra.xt.kept (w.heap.size+1) (.loop (rec .ready none)) (.inr ⟨rfl,rfl⟩);refine ⟨_,run_beginRound hlh (by rw [vQ]),?_⟩
  have rb:=ra.turn (K':=λb o=>K0 b o\/(b=w.heap.size+1/\o= .loop {rec .ready none with state:= .busy})) hlh rfl (o':= .loop {rec .ready none with state:= .busy}) rfl (ra.env.apart _ hlr).1 U3 ⟨_,rfl⟩ (by
   rintro b q (h|⟨rfl,rfl⟩);exact .inl ⟨h.2,.inl h⟩;exact .inr ⟨rfl,rfl,hlr⟩)
  refine wpIn_mono (DN hG (hX _) HE (ro:=some (w.heap.size+1)) (cx:=cxk (λb o=>K0 b o\/(b=w.heap.size+1/\o= .loop {rec .ready none with state:= .busy}))) body 0 s1 _ a1 _ (λj cj hj sp hsp=>hL j cj hj sp (by simpa using hsp) _ _) Jp8 ⟨w0',T',ea,⟨hg1,rfl,rfl⟩,rb⟩) ?_
  rintro ex a3 W3 ⟨y,s3,rfl,hq,w0'',T'',eb,⟨hg3,hw0e,hT0e⟩,rc⟩;subst hw0e hT0e;obtain ⟨Jp3,hll3,Jp4⟩:=rc.xt.kept (w.heap.size+1) _ (.inr ⟨rfl,rfl⟩)
  have back: ∀(jump:Option Code) (E:St),UU (qG (RS N (NX s3)) E)->okB E=true->
    (Instr.endRound (w.heap.size+1) jump).run P W3= .ok (.bool jump.isNone) (W3.putObj (w.heap.size+1) (.loop (rec (if jump.isNone then .ready else .done) jump)))/\
    ∃ec,FT cx w0'' T'' ec E a' (W3.putObj (w.heap.size+1) (.loop (rec (if jump.isNone then .ready else .done) jump)))/\ec.own (w.heap.size+1)=none/\
     (W3.putObj (w.heap.size+1) (.loop (rec (if jump.isNone then .ready else .done) jump))).heap[w.heap.size+1]? =some (.loop (rec (if jump.isNone then .ready else .done) jump))/\
     W.heap.size<=(W3.putObj (w.heap.size+1) (.loop (rec (if jump.isNone then .ready else .done) jump))).heap.size/\
     (∀b,b<W.heap.size-> ¬own' ek b->(W3.putObj (w.heap.size+1) (.loop (rec (if jump.isNone then .ready else .done) jump))).heap[b]? =W.heap[b]?)/\
     ∀b,own' ec b->b<(W3.putObj (w.heap.size+1) (.loop (rec (if jump.isNone then .ready else .done) jump))).heap.size/\(own' ek b\/W.heap.size<=b):=by
   intro jump E tP hokE;have FD:=run_endRound (P:=P) jump Jp4;refine ⟨by rw [vQ] at FD ⊢;exact FD,?_⟩
   obtain ⟨W4,hW4⟩: ∃W4,W4=W3.putObj (w.heap.size+1) (.loop (rec (if jump.isNone then .ready else .done) jump)):=⟨_,rfl⟩
   rw [←hW4];have rd:=rc.turn (K':=K0) Jp4 rfl (o':= .loop (rec (if jump.isNone then .ready else .done) jump)) rfl (rc.env.apart _ Jp3).1 U3 ⟨_,rfl⟩ (λb q h=> .inl ⟨h.2,.inl h⟩)
   rw [←hW4] at rd;have hl4:W4.heap[w.heap.size+1]? =some (.loop (rec (if jump.isNone then .ready else .done) jump)):=by rw [hW4];exact World.putObj_heap_same hll3
   have Jn8:W.heap.size<=W4.heap.size:=rd.xt.size
   let cxp:Cx:={M:=λD=>cx.M D,Φ:=λg T w=>g=none/\w=w0''/\T=T'',K:=λb o=>K0 b o\/(b=w.heap.size+1/\o= .loop (rec (if jump.isNone then .ready else .done) jump)),saved:=cx.saved,sz:=cx.sz}
   have hpop:Rel cxp (NX s3) a' W4:=by
    obtain ⟨σ0,l',hsv,hs1,hs2⟩:=rd.xt.saved.cons_inv;refine ⟨w0'',T'',eb,?_,rd.env,rd.below,?_,?_,rd.foe,⟨⟨λd hd=>?_,?_⟩,?_,?_,Ar rk.xt.size Jn8⟩,?_⟩;exact ⟨by unfold NX;rw [hsv];exact hg3,rfl,rfl⟩
    unfold NX;rw [hsv];exact rd.mem;unfold NX;rw [hsv];exact rd.live;obtain ⟨D,k1,k2,k3,k4,k5⟩:=rk.xt.defers.1 d hd;have hDl:D≠w.heap.size+1:=by
     rintro rfl;rw [hkr] at k4;cases k4
    obtain ⟨q1,q2,q3⟩:=rd.xt.kept D (.deferred (some [])) ⟨.inr (.inr ⟨d,hd,k1,rfl⟩),hDl⟩;exact ⟨D,k1,q1,q2,q3,k5⟩;exact rk.xt.defers.2;rintro b o (h|⟨rfl,rfl⟩);exact rd.xt.kept b o h;exact ⟨Jp3,(B1.1 hl4).1,hl4⟩;unfold NX;rw [hsv];exact hs2;unfold NX;rw [hsv];rw [ha'];exact hs1
   obtain ⟨w0p,Tp,ec,⟨_,rfl,rfl⟩,re⟩:=RP (GY tP) hokE (F7 (l:=N) hpop);have hlec:=re.xt.kept _ _ (Or.inr ⟨rfl,rfl⟩);refine ⟨ec,⟨re.env,re.below,re.mem,re.live,re.foe,⟨re.xt.defers,λb o h=>?_,re.xt.saved,re.xt.size⟩,re.slots⟩,(re.env.apart _ hlec.1).1,hl4,Jn8,?_,?_⟩;refine re.xt.kept b o (.inl ⟨.inl h,?_⟩);rintro rfl;have h1:=r.xt.kept _ o h;omega;intro b hb hno;rcases An b w0p.heap.size with h1|h1;rw [re.below.block b h1,rk.below.block b h1];have hbn:ek.own b=none:=by
    cases ho:ek.own b with
    |none=>rfl
    |some id=>exact (hno (.inl ⟨id,ho⟩)).elim
   have hbl:b≠w.heap.size+1:=λh=>hno (.inr h);have hlt:b<W.heap.size:=hb;obtain ⟨_,_,q3⟩:=re.xt.kept b W.heap[b] (.inl ⟨.inr (.inl ⟨⟨h1,hlt,hbn⟩,by simp [hlt]⟩),hbl⟩)
   rw [q3];simp [hlt];rintro b (⟨id,h⟩|rfl);obtain ⟨q1,q2⟩:=re.env.owned b id h;refine ⟨q2,?_⟩;rcases An b W.heap.size with h1|h1;refine .inl ?_;cases ho:ek.own b with
   |some id'=>exact .inl ⟨id',ho⟩
   |none=>
    rcases Classical.em (b=w.heap.size+1) with h2|h2;exact .inr h2;exfalso;obtain ⟨q3,_,_⟩:=re.xt.kept b W.heap[b] (.inl ⟨.inr (.inl ⟨⟨q1,h1,ho⟩,by simp [h1]⟩),h2⟩)
    rw [(re.env.apart b q3).1] at h;cases h
   exact .inr h1;exact ⟨(B1.1 hl4).1,.inl (.inr rfl)⟩
  cases y with
  |normal=>
   obtain ⟨hI',tP⟩:=hq;obtain ⟨FD,ec,q1,q2,q3,q4,q5,q6⟩:=back none (inv x') tP (hok x');exact ⟨_,_,FD,q4,q5,own' ec,q6,.inl ⟨rfl,x',ec,hI',hx',rfl,q1,q2,q3⟩⟩
  |exit id=>
   obtain ⟨E,hE,hQE,tP⟩:=hq;obtain ⟨FD,ec,q1,q2,q3,q4,q5,q6⟩:=back (some (.exit id)) E tP (wR x _ E hE);exact ⟨_,_,FD,q4,q5,own' ec,q6,.inr ⟨rfl,.exit id,E,ec,(λh=>by cases h),hQE E hE,Qw7 x _ E hE,rfl,q1,q2,q3⟩⟩
  |ret=>
   obtain ⟨E,hE,hQE,tP⟩:=hq;obtain ⟨FD,ec,q1,q2,q3,q4,q5,q6⟩:=back (some .ret) E tP (wR x _ E hE);exact ⟨_,_,FD,q4,q5,own' ec,q6,.inr ⟨rfl,.ret,E,ec,(λh=>by cases h),hQE E hE,Qw7 x _ E hE,rfl,q1,q2,q3⟩⟩
theorem L4(N:List (Pl×Nat×TypeId×Nat))(hG:U4 P G)(hX: ∀cx,UG P X cx)(HE:P.follows .mixedOrders=true){f:Operand}{ps:Array Nat}{assign body:Code}
  (hL: ∀j cj,UC body j=some cj-> ∀sp,L[j]? =some sp->GU P cj sp)
  {V:Type}(inv:V->St)(I:V->Prop)(idx:V->Nat)(out:V->GR->Option St){t:CT}{x0:V}(h0:I x0)(hi0:idx x0=0)
  (hok: ∀x,okB (inv x)=true)(wR: ∀x y E,out x y=some E->okB E=true)(hgh: ∀x,(inv x).gh=none)(Qw7: ∀x y E,out x y=some E->E.gh=none)
  {g:FuncId}{caps:List AV}(hfv:rho (inv x0).σ f= .fn (.func g) [] caps)(uE:caps.all (C6 6)=true){M:Nat}{vals:Nat->List Value}(Qw2:BF P g caps M vals)(hps: ∀k,(vals k).length=ps.size)
  (round: ∀(Q:GR×St->Prop),t.sat Q-> ∀x,I x->(idx x<M-> ∃x',idx x'=idx x+1/\(EC P G X L N ps.toList (vals (idx x)) assign body (inv x) (inv x') (out x)).sat (λy=>match y with
   | .normal=>I x'
   |y=> ∀E,out x y=some E->Q (y,E)))/\(idx x=M->Q (.normal,inv x))):D3 P (.rangeFunc f ps assign body) (H4 N (D1 (inv x0) t)):=by
 refine u6 N hG hX HE hL inv I idx out h0 hi0 hok wR hgh Qw7 (caps:=caps) hfv ?_ Qw2 hps round;intro e w lb _ rl;refine ⟨rl,λx hx=>?_⟩;obtain ⟨i,O⟩:=xU.1 hx;obtain ⟨v,_,rv⟩:=rl.get O;exact yB 6 x v rv (BU.1 uE x hx)
def C4(m:HO):Nat->AV->AV
 | 0,a=>match a with
  | .lit b=> .lit b
  | .x v=> .x v
  | .ro l=> .ro l
  | .lst a b c=> .lst a b c
  | .roI a b c d=> .roI a b c d
  |_=> .top
 |d+1,a=>match a with
  | .ptr id off=>match DY m id with
   |some (.keep _ l)=> .ro ((l.drop off).map (C4 m d))
   |_=> .top
  | .agg l=> .agg (l.map (C4 m d))
  | .tup l=> .tup (l.map (C4 m d))
  | .fn f l l'=> .fn f (l.map (C4 m d)) (l'.map (C4 m d))
  | .row _=> .top
  | .elt _ _ _ _=> .top
  | .mp _=> .top
  |a=>a
theorem IZ{e:G8}{w:World}{m:HO}(hm:GH e m w): ∀(d:Nat) (a:AV) (v:Value),Rep e w a v->Idf (C4 m d a)
 | 0,a,v,h=>by
  cases h with
  |lit b=>exact .lit b
  |x v=>exact .x v
  |ro l vs b o h1 h2 h3 h4 h5 h6=>exact .ro l h3
  |lstNil sz f=>exact .lst sz 0 f (λi O=>U3)
  |lst sz n f b o cap g h1 h2 h3 h4 h5 h6 h7 h8 ad had=>exact .lst sz n f h3
  |roI pre n f off b o hr=>cases hr with|ro _ vs _ _ h1 h2 h3 h4 h5 h6=>exact .roI pre n f off (.ro _ h3)
  |_=>exact .top
 |d+1,a,v,h=>by
  have ih:=IZ hm d;cases h with
  |top v=>exact .top
  |lit b=>exact .lit b
  |x v=>exact .x v
  |agg l vs h1 h2=>exact .agg _ (FG ih (⟨h1,h2⟩:UM e w l vs))
  |tup l vs h1 h2=>exact .tup _ (FG ih (⟨h1,h2⟩:UM e w l vs))
  |fn f l l' vs vs' h1 h2 h3 h4=>exact .fn f _ _ (FG ih (⟨h1,h2⟩:UM e w l vs)) (FG ih (⟨h3,h4⟩:UM e w l' vs'))
  |ptr id off hl=>
   simp only [C4];split;rename_i T l hg;obtain ⟨_,_,_,vs,h3,h4⟩:=hm _ (GI hg);exact .ro _ (FG ih (h4.drop off));exact .top
  |row id a n c hl hv=>exact .top
  |elt id sz i j b n cap hl hv=>exact .top
  |mp id hl=>exact .top
  |mpr g okf vals b es c h1 h2 h3 h4 h5 h6 h7 h8=>exact .mpr g okf h3
  |any1 v hv=>exact .any1
  |roI pre n f off b o hr=>cases hr with|ro _ vs _ _ h1 h2 h3 h4 h5 h6=>exact .roI pre n f off (.ro _ h3)
  |ro l vs b o h1 h2 h3 h4 h5 h6=>exact .ro l h3
  |lstNil sz f=>exact .lst sz 0 f (λi O=>U3)
  |lst sz n f b o cap g h1 h2 h3 h4 h5 h6 h7 h8 ad had=>exact .lst sz n f h3
theorem lY{e:G8}{w:World}{m:HO}(hm:GH e m w): ∀(d:Nat) (a:AV) (v:Value),Rep e w a v->Rep e w (C4 m d a) v
 | 0,a,v,h=>by
  cases a<;>first|exact h|exact .top v
 |d+1,a,v,h=>by
  have ih:=lY hm d;have ihf:=IZ hm d;cases h with
  |agg l vs h1 h2=>exact Rep.aggL (UM.map _ ih ⟨h1,h2⟩)
  |tup l vs h1 h2=>exact Rep.tupL (UM.map _ ih ⟨h1,h2⟩)
  |fn f l l' vs vs' h1 h2 h3 h4=>
   have k1:UM e w l vs:=⟨h1,h2⟩;have k2:UM e w l' vs':=⟨h3,h4⟩;exact .fn f _ _ vs vs' (UM.map _ ih k1).1 (UM.map _ ih k1).2 (UM.map _ ih k2).1 (UM.map _ ih k2).2
  |ptr id off hl=>
   simp only [C4];split;rename_i T l hg;obtain ⟨_,hro,hlt,vs,h3,h4⟩:=hm _ (GI hg);have k:=UM.map (C4 m d) ih (h4.drop off);refine .ro _ (vs.drop off) (e.blk id) off hro hlt (FG ihf (h4.drop off)) k.1 ?_ k.2;intro j v hj;rw [List.getElem?_drop] at hj;simp [World.cell?,h3,hj];exact .top _
  |row id a n c hl hv=>exact .top _
  |elt id sz i j b n cap hl hv=>exact .top _
  |mp id hl=>exact .top _
  |mpr g okf vals b es c h1 h2 h3 h4 h5 h6 h7 h8=>exact .mpr g okf vals b es c h1 h2 h3 h4 h5 h6 h7 h8
  |any1 v hv=>exact .any1 v hv
  |top v=>exact .top v
  |lit b=>exact .lit b
  |x v=>exact .x v
  |roI pre n f off b o hr=>exact .roI pre n f off b o hr
  |ro l vs b o h1 h2 h3 h4 h5 h6=>exact .ro l vs b o h1 h2 h3 h4 h5 h6
  |lstNil sz f=>exact .lstNil sz f
  |lst sz n f b o cap g h1 h2 h3 h4 h5 h6 h7 h8 ad had=>exact .lst sz n f b o cap g h1 h2 h3 h4 h5 h6 h7 h8 ad had
theorem vZ(N:List (Pl×Nat×TypeId×Nat))(hG:U4 P G)(hX: ∀cx,UG P X cx)(HE:P.follows .mixedOrders=true){f:Operand}{ps:Array Nat}{assign body:Code}
  (hL: ∀j cj,UC body j=some cj-> ∀sp,L[j]? =some sp->GU P cj sp)
  {V:Type}(inv:V->St)(I:V->Prop)(idx:V->Nat)(out:V->GR->Option St){t:CT}{x0:V}(h0:I x0)(hi0:idx x0=0)
  (hok: ∀x,okB (inv x)=true)(wR: ∀x y E,out x y=some E->okB E=true)(hgh: ∀x,(inv x).gh=none)(Qw7: ∀x y E,out x y=some E->E.gh=none)
  {g:FuncId}{caps:List AV}{caps0:List AV}(hfv:rho (inv x0).σ f= .fn (.func g) [] caps0)(uE:caps0.map (C4 (inv x0).m 6)=caps){M:Nat}{vals:Nat->List Value}(Qw2:BF P g caps M vals)(hps: ∀k,(vals k).length=ps.size)
  (round: ∀(Q:GR×St->Prop),t.sat Q-> ∀x,I x->(idx x<M-> ∃x',idx x'=idx x+1/\(EC P G X L N ps.toList (vals (idx x)) assign body (inv x) (inv x') (out x)).sat (λy=>match y with
   | .normal=>I x'
   |y=> ∀E,out x y=some E->Q (y,E)))/\(idx x=M->Q (.normal,inv x))):D3 P (.rangeFunc f ps assign body) (H4 N (D1 (inv x0) t)):=by
 subst uE;refine u6 N hG hX HE hL inv I idx out h0 hi0 hok wR hgh Qw7 (caps:=caps0.map (C4 (inv x0).m 6)) hfv ?_ Qw2 hps round;intro e w lb hm rl;exact ⟨UM.map _ (lY hm 6) rl,FG (IZ hm 6) rl⟩
end
def PS(P:Program)(f:FuncId)(s:Spec):Prop:=Enters P f/\ ∀avs ns res,s avs=some (ns,res)->(∀p∈ns,p)->RB P f avs res
def U9(P:Program)(R:List (Nat×Spec)):Prop:= ∀p∈R,PS P p.1 p.2
def U7(P:Program)(H:List (Nat×DK)):Prop:= ∀p∈H,GT P p.1 p.2
theorem U9.nil(P:Program):U9 P []:=λ_ h=>by cases h
theorem U9.cons{P:Program}{f:Nat}{s:Spec}{R:List (Nat×Spec)}(h:PS P f s)(k:U9 P R):U9 P ((f,s)::R):=by
 intro p A;rcases HA.1 A with rfl|A;exact h;exact k p A
theorem U7.nil(P:Program):U7 P []:=λ_ h=>by cases h
theorem U7.cons{P:Program}{f:Nat}{s:DK}{R:List (Nat×DK)}(h:GT P f s)(k:U7 P R):U7 P ((f,s)::R):=by
 intro p A;rcases HA.1 A with rfl|A;exact h;exact k p A
theorem UG.of{P:Program}{R:List (Nat×Spec)}{H:List (Nat×DK)}(hR:U9 P R)(hH:U7 P H)(cx:Cx):UG P {R:=R,H:=H} cx:=⟨(λ_ _ _ h=>by cases h),hR,hH,(λ_ h=>by cases h),(λ_ h=>by cases h),(λ_ h=>by cases h)⟩
def UV(P:Program)(C:List (Nat×DX)):Prop:= ∀p∈C,Enters P p.1/\ ∀avs t,p.2 avs=some t->G6 P p.1 avs t
theorem UV.nil(P:Program):UV P []:=λ_ h=>by cases h
theorem UV.cons{P:Program}{f:Nat}{s:DX}{C:List (Nat×DX)}(h:Enters P f/\ ∀avs t,s avs=some t->G6 P f avs t)(k:UV P C):UV P ((f,s)::C):=by
 intro p A;rcases HA.1 A with rfl|A;exact h;exact k p A
theorem UG.ofC{P:Program}{R:List (Nat×Spec)}{H:List (Nat×DK)}{C:List (Nat×DX)}(hR:U9 P R)(hH:U7 P H)(hC:UV P C)(cx:Cx):UG P {R:=R,H:=H,C:=C} cx:=⟨(λ_ _ _ h=>by cases h),hR,hH,hC,(λ_ h=>by cases h),(λ_ h=>by cases h)⟩
def LL(P:Program)(F:List (Nat×qN)):Prop:= ∀p∈F,Enters P p.1/\ ∀avs ns T sz n g,p.2 avs=some (ns,T,sz,n,g)->(∀q∈ns,q)->FC P p.1 avs T sz n g
theorem LL.nil(P:Program):LL P []:=λ_ h=>by cases h
theorem LL.cons{P:Program}{f:Nat}{s:qN}{F:List (Nat×qN)}(h:Enters P f/\ ∀avs ns T sz n g,s avs=some (ns,T,sz,n,g)->(∀q∈ns,q)->FC P f avs T sz n g)(k:LL P F):LL P ((f,s)::F):=by
 intro p A;rcases HA.1 A with rfl|A;exact h;exact k p A
def BW(P:Program)(D:List (Nat×DX)):Prop:= ∀p∈D,Enters P p.1/\ ∀avs t,p.2 avs=some t->BG P p.1 avs t
theorem BW.nil(P:Program):BW P []:=λ_ h=>by cases h
theorem BW.cons{P:Program}{f:Nat}{s:DX}{D:List (Nat×DX)}(h:Enters P f/\ ∀avs t,s avs=some t->BG P f avs t)(k:BW P D):BW P ((f,s)::D):=by
 intro p A;rcases HA.1 A with rfl|A;exact h;exact k p A
theorem UG.ofF{P:Program}{R:List (Nat×Spec)}{H:List (Nat×DK)}{C:List (Nat×DX)}{F:List (Nat×qN)}{D:List (Nat×DX)}(hR:U9 P R)(hH:U7 P H)(hC:UV P C)(hF:LL P F)(hD:BW P D)(cx:Cx):UG P {R:=R,H:=H,C:=C,F:=F,D:=D} cx:=⟨(λ_ _ _ h=>by cases h),hR,hH,hC,hF,hD⟩
open Go Go.RowKit Go.ChangeShapes Go.WideShapes
inductive SK where
 |int (k:IntKind)
 |bool
 |str
def tE:SK->Value->Prop
 | .int k,v=> ∃n,v= .int k n/\(Lit.int k n).wf=true
 | .bool,v=> ∃b,v= .bool b
 | .str,v=> ∃s,v= .string s
def PD(ks:List SK)(vs:List Value):Prop:=ks.length=vs.length/\ ∀(j:Nat) (k:SK) (v:Value),ks[j]? =some k->vs[j]? =some v->tE k v
def MP(P:Program)(g:TypeId->Option (List SK)):List Field->Nat->Option (List SK)
 |[],_=>some []
 |f::fs,off=>match g f.type with
  |some ks=>match Nat.beq f.offset off&&Nat.beq ks.length (P.cellsOf f.type) with
   |true=>match MP P g fs (off+ks.length) with
    |some r=>some (ks++r)
    |none=>none
   |false=>none
  |none=>none
def RU(P:Program):Nat->TypeId->Option (List SK)
 | 0,_=>none
 |d+1,t=>match P.underlying t with
  |some (.int k)=>some [.int k]
  |some .bool=>some [.bool]
  |some .string=>some [.str]
  |some (.struct fs)=>match MP P (RU P d) fs.toList 0 with
   |some ks=>match Nat.beq ks.length (P.cellsOf t) with
    |true=>some ks
    |false=>none
   |none=>none
  |_=>none
inductive MK where
 |sc (k:SK)
 |sl (t e:TypeId) (ks:List SK)
def MO(P:Program)(g:TypeId->Option (List MK)):List Field->Nat->Option (List MK)
 |[],_=>some []
 |f::fs,off=>match g f.type with
  |some ks=>match Nat.beq f.offset off&&Nat.beq ks.length (P.cellsOf f.type) with
   |true=>match MO P g fs (off+ks.length) with
    |some r=>some (ks++r)
    |none=>none
   |false=>none
  |none=>none
def yH(P:Program):Nat->TypeId->Option (List MK)
 | 0,_=>none
 |d+1,t=>match P.underlying t with
  |some (.int k)=>some [.sc (.int k)]
  |some .bool=>some [.sc .bool]
  |some .string=>some [.sc .str]
  |some (.slice e)=>match RU P 9 e with
   |some ks=>match Nat.beq ks.length (P.cellsOf e) with
    |true=>some [.sl t e ks]
    |false=>none
   |none=>none
  |some (.struct fs)=>match MO P (yH P d) fs.toList 0 with
   |some ks=>match Nat.beq ks.length (P.cellsOf t) with
    |true=>some ks
    |false=>none
   |none=>none
  |_=>none
def fO:List TypeId->List MK->Bool
 |[],[]=>true
 |u::ts,.sl t _ _::ms=>Nat.beq u t&&fO ts ms
 |_::ts,.sc _::ms=>fO ts ms
 |_,_=>false
def Jf8(P:Program)(t:TypeId)(ms:List MK):Bool:=match P.cellTypes P.depth t with
 |some ts=>fO ts ms&&Nat.beq ms.length (P.cellsOf t)
 |none=>false
theorem E0: ∀{ts:List TypeId} {ms:List MK},fO ts ms=true->ts.length=ms.length
 |[],[],_=>rfl
 |[],_::_,h=>by simp [fO] at h
 |u::ts,[],h=>by simp [fO] at h
 |u::ts,.sl t _ _::ms,h=>by
  simp only [fO,HV] at h;rw [Bj,Bj,E0 h.2]
 |u::ts,.sc _::ms,h=>by
  simp only [fO] at h;rw [Bj,Bj,E0 h]
theorem E1: ∀{ts:List TypeId} {ms:List MK} {j:Nat} {t e:TypeId} {ks:List SK},fO ts ms=true->ms[j]? =some (.sl t e ks)->ts[j]? =some t
 |[],[],j,t,e,ks,_,hj=>by simp at hj
 |[],_::_,_,_,_,_,h,_=>by simp [fO] at h
 |u::ts,[],_,_,_,_,h,_=>by simp [fO] at h
 |u::ts,.sl t' _ _::ms,j,t,e,ks,h,hj=>by
  simp only [fO,HV] at h;cases j with
  |zero=>
   simp at hj;obtain ⟨rfl,_,_⟩:=hj;have:=HK h.1;simp [this]
  |succ j=>simpa using E1 h.2 (by simpa using hj)
 |u::ts,.sc _::ms,j,t,e,ks,h,hj=>by
  simp only [fO] at h;cases j with
  |zero=>simp at hj
  |succ j=>simpa using E1 h (by simpa using hj)
def OK(r:MK->Value->Prop)(ks:List MK)(vs:List Value):Prop:=ks.length=vs.length/\ ∀(j:Nat) (k:MK) (v:Value),ks[j]? =some k->vs[j]? =some v->r k v
theorem OK.append{r:MK->Value->Prop}{ks ks':List MK}{vs vs':List Value}(h:OK r ks vs)(h':OK r ks' vs'):OK r (ks++ks') (vs++vs'):=by
 refine ⟨by simp [h.1,h'.1],λj k v hk hv=>?_⟩
 rw [Ce] at hk hv;rw [←h.1] at hv;split at hk;rename_i O;rw [if_pos O] at hv;exact h.2 _ _ _ hk hv;rename_i O;rw [if_neg O] at hv;exact h'.2 _ _ _ hk hv
theorem OK.one{r:MK->Value->Prop}{k:MK}{v:Value}(h:r k v):OK r [k] [v]:=by
 refine ⟨rfl,λj k' v' hk hv=>?_⟩;cases j with
 |zero=>simp at hk hv;subst hk;subst hv;exact h
 |succ j=>simp at hk
section
variable {H:Type}{enc:TypeId×Value->H}{P:Program}{w:World}{base:Nat}{spare:Nat->Bool}{wS:Bool}
theorem PD.append{ks ks':List SK}{vs vs':List Value}(h:PD ks vs)(h':PD ks' vs'):PD (ks++ks') (vs++vs'):=by
 refine ⟨by simp [h.1,h'.1],λj k v hk hv=>?_⟩
 rw [Ce] at hk hv;rw [←h.1] at hv;split at hk;rename_i O;rw [if_pos O] at hv;exact h.2 _ _ _ hk hv;rename_i O;rw [if_neg O] at hv;exact h'.2 _ _ _ hk hv
theorem T7{g:TypeId->Option (List SK)}{cs:List Value}(hg: ∀t ks (off:Nat),g t=some ks->(∃n x,DataW.trod enc P w base spare wS n t ((cs.drop off).take (P.cellsOf t))=some x)->PD ks ((cs.drop off).take (P.cellsOf t))):
  ∀(fs:List Field) (off:Nat) (ks:List SK),MP P g fs off=some ks->off<=cs.length->(∀f∈fs,∃n x,DataW.trod enc P w base spare wS n f.type ((cs.drop f.offset).take (P.cellsOf f.type))=some x)->PD ks ((cs.drop off).take ks.length)
 |[],_,ks,h,_,_=>by
  simp only [MP,D0] at h;subst h;exact ⟨UE,λj k v h=>by simp at h⟩
 |f::fs,off,ks,h,ho,hf=>by
  unfold MP at h;split at h;rename_i ks1 h1;split at h;rename_i hb;simp only [HV] at hb;have e1:f.offset=off:=HK hb.1;have e2:ks1.length=P.cellsOf f.type:=HK hb.2;split at h;rename_i r hr;cases h;have h2:=hf f H0;rw [e1] at h2;have a1:=hg f.type ks1 off h1 h2;have hl:off+ks1.length<=cs.length:=by
   have:=a1.1;rw [List.length_take,List.length_drop,←e2] at this;omega
  have a2:=T7 hg fs (off+ks1.length) r hr hl (λf' hf'=>hf f' (DB _ hf'));have:=a1.append a2;rw [←e2] at this;rw [Be,List.take_add,List.drop_drop];exact this;cases h;cases h;cases h
theorem sP{k:SK}{v:Value}(h:tE k v):PD [k] [v]:=by
 refine ⟨rfl,λj k' v' hk hv=>?_⟩;cases j with
 |zero=>simp at hk hv;subst hk;subst hv;exact h
 |succ j=>simp at hk
theorem xZ: ∀(d:Nat) (t:TypeId) (ks:List SK) (fuel:Nat) (cs:List Value) (x:DataW H×List MemPlace),RU P d t=some ks->DataW.trod enc P w base spare wS fuel t cs=some x->PD ks cs
 | 0,_,_,_,_,_,h,_=>by simp [RU] at h
 |d+1,t,ks,fuel,cs,x,h,hx=>by
  unfold RU at h;split at h;rename_i k hu;cases h;obtain ⟨n,rfl,_,hw⟩:=DataW.trod_int hu hx;exact sP ⟨n,rfl,hw⟩;rename_i hu;cases h;obtain ⟨b,rfl,_⟩:=DataW.trod_bool hu hx;exact sP ⟨b,rfl⟩;rename_i hu;cases h;obtain ⟨s,rfl,_⟩:=DataW.trod_string hu hx;exact sP ⟨s,rfl⟩;rename_i fs hu;split at h;rename_i ks' hks;split at h;rename_i hb;cases h;have hl:ks.length=P.cellsOf t:=HK hb;obtain ⟨xs,n,_,_,DJ,hxl,hf⟩:=DataW.trod_struct hu hx;have:=T7 (enc:=enc) (w:=w) (base:=base) (spare:=spare) (wS:=wS) (cs:=cs) (g:=RU P d) (λt' ks' off hk ⟨n',x',hx'⟩=>xZ d t' ks' n' _ x' hk hx') fs.toList 0 ks hks (Ao _) (λf hf'=>by
   obtain ⟨i,O⟩:=xU.1 hf';have hi':fs[i]? =some f:=by simpa using O
   have hlt:i<xs.length:=by rw [hxl];exact (B1.1 hi').1
   exact ⟨n,xs[i],(hf i f hi').trans (DP hlt)⟩)
  rw [hl,←DJ] at this;simpa using this;cases h;cases h;cases h
def MOk(enc:TypeId×Value->H)(P:Program)(w:World)(base:Nat)(spare:Nat->Bool)(wS:Bool):MK->Value->Prop
 | .sc k,v=>tE k v
 | .sl t e ks,v=>P.underlying t=some (.slice e)/\RU P 9 e=some ks/\ks.length=P.cellsOf e/\ ∃n x,DataW.trod enc P w base spare wS n t [v]=some x/\ ∀q∈x.1.weights P t,q<=reachBytes
theorem gP: ∀{ts:List TypeId} {ds:List (DataW H)} {i:Nat} {t:TypeId} {d:DataW H} {q:Nat},ts[i]? =some t->ds[i]? =some d->q∈d.weights P t->q∈DataW.weightsEach P ts ds
 |[],_,i,_,_,_,h,_,_=>by simp at h
 |_::_,[],i,_,_,_,_,h,_=>by simp at h
 |t::ts,d::ds,i,t',d',q,h,h',hq=>by
  simp only [DataW.weightsEach,Bc];cases i with
  |zero=>simp at h h';subst h;subst h';exact .inl hq
  |succ i=>exact .inr (gP (by simpa using h) (by simpa using h') hq)
theorem T6{g:TypeId->Option (List MK)}{r:MK->Value->Prop}{cs:List Value}(hg: ∀t ks (off:Nat),g t=some ks->(∃n x,DataW.trod enc P w base spare wS n t ((cs.drop off).take (P.cellsOf t))=some x/\ ∀q∈x.1.weights P t,q<=reachBytes)->OK r ks ((cs.drop off).take (P.cellsOf t))):
  ∀(fs:List Field) (off:Nat) (ks:List MK),MO P g fs off=some ks->off<=cs.length->(∀f∈fs,∃n x,DataW.trod enc P w base spare wS n f.type ((cs.drop f.offset).take (P.cellsOf f.type))=some x/\ ∀q∈x.1.weights P f.type,q<=reachBytes)->OK r ks ((cs.drop off).take ks.length)
 |[],_,ks,h,_,_=>by
  simp only [MO,D0] at h;subst h;exact ⟨UE,λj k v h=>by simp at h⟩
 |f::fs,off,ks,h,ho,hf=>by
  unfold MO at h;split at h;rename_i ks1 h1;split at h;rename_i hb;simp only [HV] at hb;have e1:f.offset=off:=HK hb.1;have e2:ks1.length=P.cellsOf f.type:=HK hb.2;split at h;rename_i r' hr;cases h;have h2:=hf f H0;rw [e1] at h2;have a1:=hg f.type ks1 off h1 h2;have hl:off+ks1.length<=cs.length:=by
   have:=a1.1;rw [List.length_take,List.length_drop,←e2] at this;omega
  have a2:=T6 hg fs (off+ks1.length) r' hr hl (λf' hf'=>hf f' (DB _ hf'));have:=a1.append a2;rw [←e2] at this;rw [Be,List.take_add,List.drop_drop];exact this;cases h;cases h;cases h
theorem uH: ∀(d:Nat) (t:TypeId) (ks:List MK) (fuel:Nat) (cs:List Value) (x:DataW H×List MemPlace),yH P d t=some ks->DataW.trod enc P w base spare wS fuel t cs=some x->(∀q∈x.1.weights P t,q<=reachBytes)->OK (MOk enc P w base spare wS) ks cs
 | 0,_,_,_,_,_,h,_,_=>by simp [yH] at h
 |d+1,t,ks,fuel,cs,x,h,hx,hz=>by
  unfold yH at h;split at h;rename_i k hu;cases h;obtain ⟨n,rfl,_,hw⟩:=DataW.trod_int hu hx;exact .one ⟨n,rfl,hw⟩;rename_i hu;cases h;obtain ⟨b,rfl,_⟩:=DataW.trod_bool hu hx;exact .one ⟨b,rfl⟩;rename_i hu;cases h;obtain ⟨s,rfl,_⟩:=DataW.trod_string hu hx;exact .one ⟨s,rfl⟩;rename_i e hu;split at h;rename_i ks' hk;split at h;rename_i hb;cases h;have h1: ∃v,cs=[v]:=by
   rcases Go.Deep.open_slice hu hx with ⟨h0,_⟩|⟨a,len,cap,m,n,D,Pl,h0,_⟩<;>exact ⟨_,h0⟩
  obtain ⟨v,rfl⟩:=h1;exact .one ⟨hu,hk,HK hb,fuel,x,hx,hz⟩;cases h;cases h;rename_i fs hu;split at h;rename_i ks' hks;split at h;rename_i hb;cases h;have hl:ks.length=P.cellsOf t:=HK hb;obtain ⟨xs,n,_,hxe,DJ,hxl,hf⟩:=DataW.trod_struct hu hx;have hzz: ∀q∈DataW.weightsEach P (fs.toList.map (·.type)) (xs.map (·.1)),q<=reachBytes:=by
   intro q hq;refine hz q ?_;rw [hxe];simpa [DataW.weights,hu] using hq
  have:=T6 (enc:=enc) (w:=w) (base:=base) (spare:=spare) (wS:=wS) (cs:=cs) (g:=yH P d) (r:=MOk enc P w base spare wS) (λt' ks' off hk ⟨n',x',hx',hz'⟩=>uH d t' ks' n' _ x' hk hx' hz') fs.toList 0 ks hks (Ao _) (λf hf'=>by
   obtain ⟨i,O⟩:=xU.1 hf';have hi':fs[i]? =some f:=by simpa using O
   have hlt:i<xs.length:=by rw [hxl];exact (B1.1 hi').1
   exact ⟨n,xs[i],(hf i f hi').trans (DP hlt),λq hq=>hzz q (gP (i:=i) (by simp [hi']) (by simp [DP hlt]) hq)⟩)
  rw [hl,←DJ] at this;simpa using this;cases h;cases h;cases h
inductive AU (P:Program):MK->AV->Prop
 |sc (k:SK) (v:Value):tE k v->AU P (.sc k) (.x v)
 |sl (t e:TypeId) (ks:List SK) (n:Nat) (f:Nat->List Value):n<=maxLen->n*P.bytesOf e<=reachBytes->(∀i,i<n->PD ks (f i))->AU P (.sl t e ks) (.lst ks.length n (λi=>(f i).map .x))
def qK(P:Program)(ms:List MK)(l:List AV):Prop:=ms.length=l.length/\ ∀(j:Nat) (k:MK) (a:AV),ms[j]? =some k->l[j]? =some a->AU P k a
inductive xL (P:Program):TypeId->AV->Prop
 |sc (t:TypeId) (k:SK) (v:Value):(∀fs,P.underlying t≠some (.struct fs))->RU P 9 t=some [k]->tE k v->xL P t (.x v)
 |st (t:TypeId) (fs:Array Field) (ks:List SK) (vs:List Value):P.underlying t=some (.struct fs)->RU P 9 t=some ks->PD ks vs->xL P t (.agg (vs.map .x))
 |sl (t e:TypeId) (ks:List SK) (n:Nat) (f:Nat->List Value):P.underlying t=some (.slice e)->RU P 9 e=some ks->n<=maxLen->n*P.bytesOf e<=reachBytes->(∀i,i<n->PD ks (f i))->xL P t (.lst ks.length n (λi=>(f i).map .x))
 |mx (t:TypeId) (fs:Array Field) (ms:List MK) (l:List AV):P.underlying t=some (.struct fs)->RU P 9 t=none->yH P 9 t=some ms->qK P ms l->xL P t (.agg l)
 |sm (t e:TypeId) (fs:Array Field) (ms:List MK) (n:Nat) (f:Ci):P.underlying t=some (.slice e)->P.underlying e=some (.struct fs)->RU P 9 e=none->yH P 9 e=some ms->n<=maxLen->n*P.bytesOf e<=reachBytes->(∀i,i<n->qK P ms (f i))->xL P t (.lst ms.length n f)
def MI:List MK->Bool
 |[]=>true
 | .sc _::ms=>MI ms
 | .sl _ _ ks::ms=> !ks.isEmpty&&MI ms
def aP(P:Program)(t:TypeId):Bool:=match P.underlying t with
 |some (.int _)|some .bool|some .string=>(RU P 9 t).isSome
 |some (.struct _)=>match RU P 9 t with
  |some _=>true
  |none=>match yH P 9 t with
   |some ms=>Jf8 P t ms
   |none=>false
 |some (.slice e)=>match RU P 9 e with
  |some ks=>Nat.beq ks.length (P.cellsOf e)
  |none=>match P.underlying e,yH P 9 e with
   |some (.struct _),some ms=>Nat.beq ms.length (P.cellsOf e)&&(MI ms&& !ms.isEmpty)
   |_,_=>false
 |_=>false
def kM(w:World):G8:={ro:=λb=>b<w.heap.size,own:=λ_=>none,live:=λ_=>False,blk:=λ_=>0,val:=λ_=> .nilIface}
theorem iG{r:Reach}{b0:Nat}{t e:TypeId}{v:Value}{fuel:Nat}{x:DataW H×List MemPlace}{ks:List SK}(hu:P.underlying t=some (.slice e))(hk:RU P 9 e=some ks)(hl:ks.length=P.cellsOf e)(hv:Cell.okWide P w r b0 t v)(hf:DataW.trod enc P w 0 (λ_=>true) wS fuel t v.cells.toList=some x)(hz: ∀q∈x.1.weights P t,q<=reachBytes):
  ∃(n:Nat) (f:Nat->List Value),n<=maxLen/\n*P.bytesOf e<=reachBytes/\(∀i,i<n->PD ks (f i))/\Rep (kM w) w (.lst ks.length n (λi=>(f i).map .x)) v/\Idf (.lst ks.length n (λi=>(f i).map .x)):=by
 obtain ⟨a0,n0,c0,rfl⟩: ∃a0 n0 c0,v= .slice a0 n0 c0:=by
  have hx:=hv;simp only [Cell.okWide,Cell.ok,hu] at hx;split at hx<;>simp_all
 rcases Go.Deep.open_slice hu hf with ⟨h0,_⟩|⟨a,len,cap,m,n,D,Pl,h0,hb,hlc,hm,hmm,Wv1,O⟩;simp [Value.cells] at h0;obtain ⟨rfl,rfl,rfl⟩:=h0;exact ⟨0,λ_=>[],Ao _,UE,(λi O=>U3),.lstNil _ _,.lst _ _ _ (λi O=>U3)⟩;simp [Value.cells] at h0;obtain ⟨rfl,rfl,rfl⟩:=h0;simp only [if_true] at hmm;subst hmm;have hok:w.has P r b0 a e m:=by
  simp only [Value.okWide,hu,Cell.okWide,Cell.ok] at hv;exact hv.2.2
 obtain ⟨_,hsp,row,cells,hsh,_⟩:=hok;obtain ⟨ab,ao,ak⟩:=a;simp only at hsp;subst hsp;have OC:ab<w.heap.size:=by
  unfold World.shape? at hsh;cases hh:w.heap[ab]? with
  |none=>simp only [hh] at hsh;cases hsh
  |some o=>exact (B1.1 hh).1
 let F:Nat->List Value:=λi=>(w.cells? 0 ((⟨ab,ao,none⟩:Addr).add (i*P.cellsOf e)) (P.cellsOf e)).getD []
 have hF: ∀i,i<m->PD ks (F i)/\ ∀j,j<ks.length->w.cell? ⟨ab,ao+(i*ks.length+j),none⟩=(F i)[j]? :=by
  intro i hi';obtain ⟨cs',hcs,htr⟩:=O i hi';have e1:F i=cs':=by simp only [F,hcs,HF]
  rw [e1];refine ⟨xZ 9 e ks n cs' _ hk htr,λj hj=>?_⟩;obtain ⟨_,_,h3⟩:=World.cells?_some hcs;have:=h3 j U3;rw [F2,F2] at this;rw [hl,←this,Ba]
 have mE:n0*P.bytesOf e<=reachBytes:=by
  have hd:x.1= .slice ((List.range n0).map D) ((List.range (m-n0)).map λj=>D (n0+j)):=by
   have:=congrArg Prod.fst Wv1;exact this
  have h1:=hz ((((List.range n0).map D).length+((List.range (m-n0)).map λj=>D (n0+j)).length)*P.bytesOf e) (by rw [hd];simp [DataW.weights,hu])
  rw [Bm,List.length_range] at h1;exact Ar (qJ _ (Nat.le_add_right _ _)) h1
 refine ⟨n0,F,U3,mE,(λi hi'=>(hF i U3).1),?_,.lst _ _ _ (λi hi' a ha=>?_)⟩;refine .lst _ _ _ ab ao m (λi j=>(F i).getD j .nilIface) (λ_=>OC) (λ_=>OC) (λi hi' a ha=>?_) hlc hm (λi j hi' hj=>?_) (λi hi'=>?_) (λi j a hi' ha=>?_) _ (λ_=>rfl);obtain ⟨b,_,rfl⟩:=List.mem_map.1 ha;exact .x b;rw [(hF i U3).2 j hj];have hjl:j<(F i).length:=by rw [←(hF i U3).1.1];exact hj
 simp [List.getD,DP hjl];simp [(hF i U3).1.1];rw [Bn,Ay] at ha;obtain ⟨b,hb',rfl⟩:=ha;simp only [List.getD,hb',HF];exact .x b;obtain ⟨b,_,rfl⟩:=List.mem_map.1 ha;exact .x b
theorem rN: ∀{ms:List MK} {j:Nat} {t e:TypeId} {ks:List SK},MI ms=true->ms[j]? =some (.sl t e ks)->0<ks.length
 |[],j,t,e,ks,_,hj=>by simp at hj
 | .sc _::ms,j,t,e,ks,h,hj=>by
  cases j with
  |zero=>simp at hj
  |succ j=>exact rN (ms:=ms) h (by simpa using hj)
 | .sl _ _ ks'::ms,j,t,e,ks,h,hj=>by
  simp only [MI,HV] at h;cases j with
  |zero=>
   simp at hj;obtain ⟨_,_,rfl⟩:=hj;cases ks' with
   |nil=>simp at h
   |cons a b=>simp
  |succ j=>exact rN (ms:=ms) h.2 (by simpa using hj)
theorem iH{e:TypeId}{a:Addr}{cap:Nat}{D:Nat->DataW H}{Pl:Nat->List MemPlace}{n:Nat}(hc:0<P.cellsOf e)(O: ∀i,i<cap-> ∃cs',w.cells? 0 (a.add (i*P.cellsOf e)) (P.cellsOf e)=some cs'/\DataW.trod enc P w 0 (λ_=>true) wS n e cs'=some (D i,Pl i))(h:0<cap):a=⟨a.block,a.off,none⟩/\a.block<w.heap.size:=by
 obtain ⟨cs',h1,_⟩:=O 0 h;obtain ⟨_,h2,h3⟩:=World.cells?_some h1;have h4:=h3 0 hc;rw [Nat.zero_mul] at h4;have e0:(a.add 0).add 0=a:=by simp [Addr.add]
 rw [e0,DP U3] at h4;obtain ⟨ab,ao,ak⟩:=a;unfold World.cell? at h4;split at h4;rename_i c x y hb;have hlt:=(B1.1 hb).1;cases ak with
 |none=>exact ⟨rfl,hlt⟩
 |some s=>simp at h4
 cases h4
theorem Wh5{t e:TypeId}{v:Value}{fuel:Nat}{x:DataW H×List MemPlace}{ks:List SK}(hu:P.underlying t=some (.slice e))(hk:RU P 9 e=some ks)(hl:ks.length=P.cellsOf e)(Wu3:0<ks.length)(hf:DataW.trod enc P w 0 (λ_=>true) wS fuel t [v]=some x)(hz: ∀q∈x.1.weights P t,q<=reachBytes):
  ∃(n:Nat) (f:Nat->List Value),n<=maxLen/\n*P.bytesOf e<=reachBytes/\(∀i,i<n->PD ks (f i))/\Rep (kM w) w (.lst ks.length n (λi=>(f i).map .x)) v/\Idf (.lst ks.length n (λi=>(f i).map .x)):=by
 rcases Go.Deep.open_slice hu hf with ⟨h0,_⟩|⟨a,n0,cap,m,n,D,Pl,h0,hb,hlc,hm,hmm,Wv1,O⟩;simp at h0;subst h0;exact ⟨0,λ_=>[],Ao _,UE,(λi O=>U3),.lstNil _ _,.lst _ _ _ (λi O=>U3)⟩;simp at h0;subst h0;simp only [if_true] at hmm;subst hmm;have hat:0<m->a=⟨a.block,a.off,none⟩/\a.block<w.heap.size:=iH U3 O
 let F:Nat->List Value:=λi=>(w.cells? 0 (a.add (i*P.cellsOf e)) (P.cellsOf e)).getD []
 have hF: ∀i,i<m->PD ks (F i)/\ ∀j,j<ks.length->w.cell? ⟨a.block,a.off+(i*ks.length+j),none⟩=(F i)[j]? :=by
  intro i hi';obtain ⟨cs',hcs,htr⟩:=O i hi';have e1:F i=cs':=by simp only [F,hcs,HF]
  rw [e1];refine ⟨xZ 9 e ks n cs' _ hk htr,λj hj=>?_⟩;obtain ⟨_,_,h3⟩:=World.cells?_some hcs;have:=h3 j U3;rw [(hat U3).1,F2,F2] at this;rw [hl,←this,Ba]
 have mE:n0*P.bytesOf e<=reachBytes:=by
  have hd:x.1= .slice ((List.range n0).map D) ((List.range (m-n0)).map λj=>D (n0+j)):=by
   have:=congrArg Prod.fst Wv1;exact this
  have h1:=hz ((((List.range n0).map D).length+((List.range (m-n0)).map λj=>D (n0+j)).length)*P.bytesOf e) (by rw [hd];simp [DataW.weights,hu])
  rw [Bm,List.length_range] at h1;exact Ar (qJ _ (Nat.le_add_right _ _)) h1
 refine ⟨n0,F,U3,mE,(λi hi'=>(hF i U3).1),?_,.lst _ _ _ (λi hi' a ha=>?_)⟩;refine .lst _ _ _ a.block a.off m (λi j=>(F i).getD j .nilIface) (λh=>(hat U3).2) (λh=>(hat U3).2) (λi hi' a ha=>?_) hlc hm (λi j hi' hj=>?_) (λi hi'=>?_) (λi j a hi' ha=>?_) a (λh=>(hat U3).1);obtain ⟨b,_,rfl⟩:=List.mem_map.1 ha;exact .x b;rw [(hF i U3).2 j hj];have hjl:j<(F i).length:=by rw [←(hF i U3).1.1];exact hj
 simp [List.getD,DP hjl];simp [(hF i U3).1.1];rw [Bn,Ay] at ha;obtain ⟨b,hb',rfl⟩:=ha;simp only [List.getD,hb',HF];exact .x b;obtain ⟨b,_,rfl⟩:=List.mem_map.1 ha;exact .x b
theorem Xa5{ms:List MK}{vs:List Value}(B9:MI ms=true)(h:OK (MOk enc P w 0 (λ_=>true) wS) ms vs): ∃l,qK P ms l/\UM (kM w) w l vs/\ ∀a∈l,Idf a:=by
 have key: ∀(j:Nat) (k:MK) (v:Value),ms[j]? =some k->vs[j]? =some v-> ∃a,AU P k a/\Rep (kM w) w a v/\Idf a:=by
  intro j k v hj hvj;have h2:=h.2 j k v hj hvj;cases k with
  |sc k=>exact ⟨.x v,.sc k v h2,.x v,.x v⟩
  |sl t' e ks=>
   obtain ⟨hu',hk',hl',n',x',hx',hz'⟩:=h2;obtain ⟨n,f,g1,g2,g3,g4,g5⟩:=Wh5 hu' hk' hl' (rN B9 hj) hx' hz';exact ⟨_,.sl t' e ks n f g1 g2 g3,g4,g5⟩
 have all: ∀(ms:List MK) (vs:List Value),ms.length=vs.length->(∀(j:Nat) (k:MK) (v:Value),ms[j]? =some k->vs[j]? =some v-> ∃a,AU P k a/\Rep (kM w) w a v/\Idf a)-> ∃l,qK P ms l/\UM (kM w) w l vs/\ ∀a∈l,Idf a:=by
  intro ms
  induction ms with
  |nil=>
   intro vs hl _;cases vs with
   |nil=>exact ⟨[],⟨rfl,λj k a h=>by simp at h⟩,UM.nil _ _,λa ha=>by cases ha⟩
   |cons v vs=>simp at hl
  |cons k ms ih=>
   intro vs hl h;cases vs with
   |nil=>simp at hl
   |cons v vs=>
    obtain ⟨a,a1,a2,a3⟩:=h 0 k v rfl rfl;obtain ⟨l,l1,l2,l3⟩:=ih vs (by simpa using hl) (λj k v hk hv=>h (j+1) k v (by simpa using hk) (by simpa using hv))
    refine ⟨a::l,⟨by simp [l1.1],λj k' a' hk ha=>?_⟩,UM.cons a2 l2,λb hb=>?_⟩
    cases j with
    |zero=>simp at hk ha;subst hk;subst ha;exact a1
    |succ j=>exact l1.2 j k' a' (by simpa using hk) (by simpa using ha)
    rcases HA.1 hb with rfl|hb;exact a3;exact l3 b hb
 exact all ms vs h.1 key
theorem A8{e:TypeId}{d:DataW H}{q:Nat}: ∀{ds:List (DataW H)},d∈ds->q∈d.weights P e->q∈DataW.weightsAll P e ds
 |[],h,_=>by cases h
 |d'::ds,h,hq=>by
  simp only [DataW.weightsAll,Bc];rcases HA.1 h with rfl|h;exact .inl hq;exact .inr (A8 h hq)
theorem Wh4{t e:TypeId}{v:Value}{fuel:Nat}{x:DataW H×List MemPlace}{ms:List MK}(hu:P.underlying t=some (.slice e))(hk:yH P 9 e=some ms)(hl:ms.length=P.cellsOf e)(Wu3:0<ms.length)(B9:MI ms=true)(hf:DataW.trod enc P w 0 (λ_=>true) wS fuel t [v]=some x)(hz: ∀q∈x.1.weights P t,q<=reachBytes):
  ∃(n:Nat) (f:Ci),n<=maxLen/\n*P.bytesOf e<=reachBytes/\(∀i,i<n->qK P ms (f i))/\Rep (kM w) w (.lst ms.length n f) v/\Idf (.lst ms.length n f):=by
 rcases Go.Deep.open_slice hu hf with ⟨h0,_⟩|⟨a,n0,cap,m,n,D,Pl,h0,hb,hlc,hm,hmm,Wv1,O⟩;simp at h0;subst h0;exact ⟨0,λ_=>[],Ao _,UE,(λi O=>U3),.lstNil _ _,.lst _ _ _ (λi O=>U3)⟩;simp at h0;subst h0;simp only [if_true] at hmm;subst hmm;have hat:0<m->a=⟨a.block,a.off,none⟩/\a.block<w.heap.size:=iH U3 O;have hd:x.1= .slice ((List.range n0).map D) ((List.range (m-n0)).map λj=>D (n0+j)):=by
  have:=congrArg Prod.fst Wv1;exact this
 have mE:n0*P.bytesOf e<=reachBytes:=by
  have h1:=hz ((((List.range n0).map D).length+((List.range (m-n0)).map λj=>D (n0+j)).length)*P.bytesOf e) (by rw [hd];simp [DataW.weights,hu])
  rw [Bm,List.length_range] at h1;exact Ar (qJ _ (Nat.le_add_right _ _)) h1
 let F:Nat->List Value:=λi=>(w.cells? 0 (a.add (i*P.cellsOf e)) (P.cellsOf e)).getD []
 have hF: ∀i,i<n0-> ∃l,(qK P ms l/\UM (kM w) w l (F i)/\ ∀a∈l,Idf a)/\(F i).length=ms.length/\ ∀j,j<ms.length->w.cell? ⟨a.block,a.off+(i*ms.length+j),none⟩=(F i)[j]? :=by
  intro i hi';obtain ⟨cs',hcs,htr⟩:=O i U3;have e1:F i=cs':=by simp only [F,hcs,HF]
  rw [e1];have hzi: ∀q∈(D i).weights P e,q<=reachBytes:=λq hq=>hz q (by
   rw [hd];simp only [DataW.weights,hu,HA,Bc];exact .inr (.inl (A8 (List.mem_map.2 ⟨i,List.mem_range.2 hi',rfl⟩) hq)))
  have h1:=uH 9 e ms n cs' _ hk htr hzi;obtain ⟨l,h2⟩:=Xa5 B9 h1;refine ⟨l,h2,h1.1.symm,λj hj=>?_⟩;obtain ⟨_,_,h3⟩:=World.cells?_some hcs;have:=h3 j U3;rw [(hat U3).1,F2,F2] at this;rw [hl,←this,Ba]
 obtain ⟨f,hf'⟩:=Go.Deep.choose_lt hF;refine ⟨n0,f,U3,mE,(λi hi'=>(hf' i hi').1.1),?_,.lst _ _ _ (λi hi'=>(hf' i hi').1.2.2)⟩;refine .lst _ _ _ a.block a.off m (λi j=>(F i).getD j .nilIface) (λh=>(hat U3).2) (λh=>(hat U3).2) (λi hi'=>(hf' i hi').1.2.2) hlc hm (λi j hi' hj=>?_) (λi hi'=>?_) (λi j b hi' ha=>?_) a (λh=>(hat U3).1);have h1:=hf' i hi';rw [h1.2.2 j hj];have hjl:j<(F i).length:=by rw [h1.2.1];exact hj
 simp [List.getD,DP hjl];exact (hf' i hi').1.1.1.symm;have h1:=(hf' i hi').1.2.1;have hj:j<(F i).length:=by rw [←h1.1];exact (RO.1 ha).1
 have h2:=h1.2 j b (F i)[j] ha (DP hj);simpa only [List.getD,DP hj,HF] using h2
theorem Zx5{r:Reach}{b0:Nat}{t:TypeId}{v:Value}{d:DataW H}{p:List MemPlace}(A:aP P t=true)(hv:Value.okWide P w r b0 t v)(h:DataW.Trod enc P w 0 (λ_=>true) wS t v d p)(hz: ∀q∈d.weights P t,q<=reachBytes):
  ∃av,xL P t av/\Rep (kM w) w av v/\Idf av:=by
 unfold aP at A;obtain ⟨fuel,hf⟩:=h;have scal: ∀k,(∀fs,P.underlying t≠some (.struct fs))->RU P 9 t=some [k]->(∀cs,v≠ .agg cs)-> ∃av,xL P t av/\Rep (kM w) w av v/\Idf av:=by
  intro k hns hk hna;have h1:=xZ 9 t [k] fuel _ _ hk hf;have hc:v.cells.toList=[v]:=by cases v<;>first|rfl|exact absurd rfl (hna _)
  rw [hc] at h1;exact ⟨.x v,.sc t k v hns hk (h1.2 0 k v rfl rfl),.x v,.x v⟩
 split at A;rename_i k hu;obtain ⟨n,rfl⟩:=okWide_int hu hv;exact scal (.int k) (λfs h=>by rw [hu] at h;cases h) (by simp [RU,hu]) (λcs h=>by cases h)
 rename_i hu;obtain ⟨b,rfl⟩:=okWide_bool hu hv;exact scal .bool (λfs h=>by rw [hu] at h;cases h) (by simp [RU,hu]) (λcs h=>by cases h)
 rename_i hu;obtain ⟨s,rfl⟩:=okWide_string hu hv;exact scal .str (λfs h=>by rw [hu] at h;cases h) (by simp [RU,hu]) (λcs h=>by cases h)
 rename_i fs hu;cases hk:RU P 9 t with
 |none=>
  rw [hk] at A;simp only at A;cases hm:yH P 9 t with
  |none=>rw [hm] at A;cases A
  |some ms=>
   rw [hm] at A;simp only [Jf8] at A;split at A;rename_i ts hts;simp only [HV] at A;have hml:ms.length=P.cellsOf t:=HK A.2;have htl:=E0 A.1;simp only [Value.okWide,hu] at hv;obtain ⟨cs,rfl,hcs,ts',hts',_,M7⟩:=hv;rw [hts] at hts';cases hts';have h1:=uH 9 t ms fuel _ _ hm hf hz;simp only [Value.cells] at h1;have key: ∀(j:Nat) (k:MK) (v:Value),ms[j]? =some k->cs.toList[j]? =some v-> ∃a,AU P k a/\Rep (kM w) w a v/\Idf a:=by
    intro j k v hj hvj;have h2:=h1.2 j k v hj hvj;cases k with
    |sc k=>exact ⟨.x v,.sc k v h2,.x v,.x v⟩
    |sl t' e ks=>
     obtain ⟨hu',hk',hl',n',x',hx',hz'⟩:=h2;obtain ⟨u,hu2,hc⟩:=M7 j v (by simpa using hvj)
     have hjl:j<ts.length:=by rw [htl];exact (RO.1 hj).1
     rw [Nat.mod_eq_of_lt hjl,E1 A.1 hj] at hu2;cases hu2;have hvc:v.cells.toList=[v]:=by
      obtain ⟨a0,n0,c0,rfl⟩: ∃a0 n0 c0,v= .slice a0 n0 c0:=by
       have hx:=hc;simp only [Cell.okWide,Cell.ok,hu'] at hx;split at hx<;>simp_all
      rfl
     obtain ⟨n,f,g1,g2,g3,g4,g5⟩:=iG hu' hk' hl' hc (by rw [hvc];exact hx') hz'
     exact ⟨_,.sl t' e ks n f g1 g2 g3,g4,g5⟩
   have all: ∀(ms:List MK) (vs:List Value),ms.length=vs.length->(∀(j:Nat) (k:MK) (v:Value),ms[j]? =some k->vs[j]? =some v-> ∃a,AU P k a/\Rep (kM w) w a v/\Idf a)-> ∃l,qK P ms l/\UM (kM w) w l vs/\ ∀a∈l,Idf a:=by
    intro ms
    induction ms with
    |nil=>
     intro vs hl _;cases vs with
     |nil=>exact ⟨[],⟨rfl,λj k a h=>by simp at h⟩,UM.nil _ _,λa ha=>by cases ha⟩
     |cons v vs=>simp at hl
    |cons k ms ih=>
     intro vs hl h;cases vs with
     |nil=>simp at hl
     |cons v vs=>
      obtain ⟨a,a1,a2,a3⟩:=h 0 k v rfl rfl;obtain ⟨l,l1,l2,l3⟩:=ih vs (by simpa using hl) (λj k v hk hv=>h (j+1) k v (by simpa using hk) (by simpa using hv))
      refine ⟨a::l,⟨by simp [l1.1],λj k' a' hk ha=>?_⟩,UM.cons a2 l2,λb hb=>?_⟩
      cases j with
      |zero=>simp at hk ha;subst hk;subst ha;exact a1
      |succ j=>exact l1.2 j k' a' (by simpa using hk) (by simpa using ha)
      rcases HA.1 hb with rfl|hb;exact a3;exact l3 b hb
   obtain ⟨l,l1,l2,l3⟩:=all ms cs.toList h1.1 key;refine ⟨.agg l,.mx t fs ms l hu hk hm l1,?_,.agg _ l3⟩;have:=Rep.aggL l2;simpa using this;cases A
 |some ks=>
  obtain ⟨cs,rfl,_⟩:=okWide_struct hu hv;have h1:=xZ 9 t ks fuel _ _ hk hf;refine ⟨.agg (cs.toList.map .x),.st t fs ks cs.toList hu hk h1,?_,.agg _ (λa ha=>?_)⟩;have:=Rep.aggL (UM.xs (kM w) w cs.toList);simpa using this;obtain ⟨b,_,rfl⟩:=List.mem_map.1 ha;exact .x b
 rename_i e hu;cases hk:RU P 9 e with
 |none=>
  rw [hk] at A;simp only at A;split at A;rename_i fs ms hue hms;simp only [HV] at A;have hv':Cell.okWide P w r b0 t v:=by
   simpa only [Value.okWide,hu] using hv
  have hvc:v.cells.toList=[v]:=by
   obtain ⟨a0,n0,c0,rfl⟩: ∃a0 n0 c0,v= .slice a0 n0 c0:=by
    have hx:=hv';simp only [Cell.okWide,Cell.ok,hu] at hx;split at hx<;>simp_all
   rfl
  rw [hvc] at hf;have Wu3:0<ms.length:=by
   cases ms with
   |nil=>simp at A
   |cons a b=>simp
  obtain ⟨n,f,h1,h2,h3,h4,h5⟩:=Wh4 hu hms (HK A.1) Wu3 A.2.1 hf hz;exact ⟨_,.sm t e fs ms n f hu hue hk hms h1 h2 h3,h4,h5⟩;cases A
 |some ks=>
  rw [hk] at A;have hl:ks.length=P.cellsOf e:=HK A;have hv':Cell.okWide P w r b0 t v:=by
   simpa only [Value.okWide,hu] using hv
  obtain ⟨n,f,h1,h2,h3,h4,h5⟩:=iG hu hk hl hv' hf hz;exact ⟨_,.sl t e ks n f hu hk h1 h2 h3,h4,h5⟩
 cases A
inductive NW (P:Program):List TypeId->List AV->Prop
 |nil:NW P [] []
 |cons {t:TypeId} {a:AV} {ts:List TypeId} {l:List AV}:xL P t a->NW P ts l->NW P (t::ts) (a::l)
theorem Qm0{b0:Nat}{r:Reach}: ∀(ts:List TypeId) (vs:List Value) (ds:List (DataW H)) (p:List MemPlace),ts.all (aP P)=true->(∀(j:Nat) t v,ts[j]? =some t->vs[j]? =some v->Value.okWide P w r b0 t v)->
  DataW.TrodAll enc P w 0 (λ_=>true) wS ts vs ds p->(∀q∈DataW.weightsEach P ts ds,q<=reachBytes)-> ∃avs,NW P ts avs/\UM (kM w) w avs vs/\ ∀a∈avs,Idf a
 |[],vs,ds,p,_,_,h,_=>by
  cases vs with
  |nil=>exact ⟨[],.nil,UM.nil _ _,λa ha=>by cases ha⟩
  |cons v vs=>cases ds<;>simp [DataW.TrodAll] at h
 |t::ts,vs,ds,p,A,hv,h,hz=>by
  obtain ⟨v,vs',d,ds',p1,q1,rfl,rfl,rfl,h1,h2⟩:=trodAll_cons h;simp only [List.all_cons,HV] at A;obtain ⟨a,ha,hr,O⟩:=Zx5 A.1 (hv 0 t v rfl rfl) h1 (λq hq=>hz q (by simp only [DataW.weightsEach,Bc];exact .inl hq))
  obtain ⟨l,hl,hrl,hil⟩:=Qm0 ts vs' ds' q1 A.2 (λj t' v' ht hv'=>hv (j+1) t' v' (by simpa using ht) (by simpa using hv')) h2 (λq hq=>hz q (by simp only [DataW.weightsEach,Bc];exact .inr hq))
  refine ⟨a::l,.cons ha hl,UM.cons hr hrl,λx hx=>?_⟩;rcases HA.1 hx with rfl|hx;exact O;exact hil x hx
theorem Jc8{f:FuncId}{b0:Nat}{r:Reach}{ts:List TypeId}{vs:Array Value}{ds:List (DataW H)}{p:List MemPlace}(A:ts.all (aP P)=true)(hv: ∀(j:Nat) t v,ts[j]? =some t->vs.toList[j]? =some v->Value.okWide P w r b0 t v)
  (h:DataW.TrodAll enc P w 0 (λ_=>true) wS ts vs.toList ds p)(hz: ∀q∈DataW.weightsEach P ts ds,q<=reachBytes)(hs: ∀avs,NW P ts avs->UH P f avs (.x (.bool true)))(hgl:DQ (kM w) w:=by intro b p h;exact absurd h (by simp [GP])):Calls P f vs w λe w'=>e= .returned (.bool true)/\Below w.heap.size w w':=by
 obtain ⟨avs,h1,h2,h3⟩:=Qm0 ts vs.toList ds p A hv h hz;refine (hs avs h1 (kM w) w vs.toList (λb hb=>hb) hgl h3 h2).mono λe w' hq=>?_;obtain ⟨v,rfl,hb,hr⟩:=hq;rw [hr.x_inv];exact ⟨rfl,hb⟩
theorem TG{W W':World}{sp:Nat->Bool}(hl:laidOutB P=true)(hb:Below W.heap.size W W'): ∀(ts:List TypeId) (vs:List Value) (ds:List (DataW H)) (p:List MemPlace),ts.all (λt=>P.readableRec t&&decide (t<P.types.size))=true->
  DataW.TrodAll enc P W 0 (λ_=>true) true ts vs ds p->(∀x∈p,x.block<W.heap.size)->(∀x∈p,sp x.block=true)->DataW.TrodAll enc P W' 0 sp true ts vs ds p
 |[],vs,ds,p,_,h,_,_=>by
  cases vs<;>cases ds<;>simp [DataW.TrodAll] at h ⊢;exact h
 |t::ts,vs,ds,p,hr,h,hlt,hsp=>by
  obtain ⟨v,vs',d,ds',p1,q1,rfl,rfl,rfl,h1,h2⟩:=trodAll_cons h;simp only [List.all_cons,HV,yN] at hr;refine ⟨p1,q1,WideElems.Trod_stays hl hr.1.1 hr.1.2 h1 (λx hx=>hb.same (hlt x (Bd _ hx))) (λx hx=>hsp x (Bd _ hx)),TG hl hb ts vs' ds' q1 ?_ h2 (λx hx=>hlt x (As _ hx)) (λx hx=>hsp x (As _ hx)),rfl⟩;simpa using hr.2
theorem Jm3{f:Func}{s:ChangeSpec}{apart fresh CH again:Bool}{W W':World}{args:Array Value}{ds:List (DataW H)}{before:List MemPlace}{tb:TypeId}(hl:laidOutB P=true)(hr:f.params.toList.all (λt=>P.readableRec t&&decide (t<P.types.size))=true)(FL:f.resultTypes=#[tb])(hub:P.underlying tb=some .bool)
  (Jn6:s.vars=[])(hfr:(s.fn H ds).results=[.lit (.bool true)])(hfa:(s.fn H ds).args=ds)(hfv:(s.fn H ds).vars=[])
  (hW:DataW.Whole enc P f.params.toList s.vars apart W args.toList ds [] before)(hA:DataW.TrodAll enc P W 0 (λ_=>true) true f.params.toList args.toList ds before)(hb:Below W.heap.size W W'):
  s.post enc P f apart fresh CH again W args (.bool true) W':=by
 have hlt: ∀p∈before,p.block<W.heap.size:=λp A=>hW.lt p A;have Wu5: ∀p∈before,(λb=>decide (b<W.heap.size)) p.block=true:=λp A=>by simpa using hlt p A
 have hres': ∀(b:Nat) (sp:Nat->Bool) (hd:Bool),DataW.TrodAll enc P W' b sp hd f.resultTypes.toList ((Value.bool true).resultList f.resultTypes.size) (s.fn H (ds++[])).results []:=by
  intro b sp hd;rw [List.append_nil,hfr,FL];exact trodAll_mk1 (shut_bool hub true)
 have SU: ∀sp:Nat->Bool,(∀p∈before,sp p.block=true)->DataW.TrodAll enc P W' 0 sp true f.params.toList args.toList (s.fn H (ds++[])).args before:=by
  intro sp hsp;rw [List.append_nil,hfa];exact TG hl hb _ _ _ _ hr hA hlt hsp
 have hvars': ∀sp:Nat->Bool,(∀p∈before,sp p.block=true)->DataW.TrodVars enc P W' sp s.vars (s.fn H (ds++[])).vars []:=by
  intro sp _;rw [List.append_nil,hfv,Jn6];rfl
 refine ⟨ds,[],before,[],before,[],hW,hres' _ _ _,SU _ Wu5,hvars' _ Wu5,World.keptBut_mono (λp A=>⟨A,Or.inr (by simpa using A)⟩) (hb.frame (· ∈before)),λ_=>?_⟩
 obtain ⟨_,_,_,_,_,hz,hn⟩:=hW;refine ⟨ok_one FL rfl (okWide_bool_mk hub true),_,_,([]++before)++[],⟨[]++before,[],trodAll_append (SU _ (λ_ _=>rfl)) (hres' _ _ _),hvars' _ (λ_ _=>rfl),rfl,?_,?_⟩,?_⟩;intro b off A;have hin:MemPlace.cell b off∈before:=by simpa using A
 rw [hb.frozen (hlt _ hin)];exact hz b off hin;intro ha;have:=hn ha;simpa using this;intro p A _;simpa using A
end
section
variable {P:Program}
section
variable (P:Program)(t:TypeId)
def Qf4:Bool:=match P.underlying t with
 |some (.struct _)=>true
 |_=>false
def iP:Bool:=match P.underlying t with
 |some (.int _)|some .bool|some .string=>true
 |_=>false
def Qf6:Option TypeId:=match P.underlying t with
 |some (.slice e)=>some e
 |_=>none
end
theorem xL.agg{t:TypeId}{av:AV}{ks:List SK}(h:xL P t av)(hs:Qf4 P t=true)(hk:RU P 9 t=some ks): ∃vs,av= .agg (vs.map .x)/\PD ks vs:=by
 unfold Qf4 at hs;split at hs;rename_i fs hu;cases h with
 |sc k v h0 h1 h2=>exact absurd hu (h0 fs)
 |st fs' ks' vs h1 h2 h3=>rw [hk] at h2;cases h2;exact ⟨vs,rfl,h3⟩
 |sl e ks' n f h1 h2 h3 h5 h4=>rw [hu] at h1;cases h1
 |mx fs' ms l h1 h2 h3 h4=>rw [hk] at h2;cases h2
 |sm e fs' ms n f h1=>rw [hu] at h1;cases h1
 cases hs
theorem xL.one{t:TypeId}{av:AV}{k:SK}(h:xL P t av)(hs:iP P t=true)(hk:RU P 9 t=some [k]): ∃v,av= .x v/\tE k v:=by
 cases h with
 |sc k' v h0 h1 h2=>rw [hk] at h1;cases h1;exact ⟨v,rfl,h2⟩
 |st fs' ks' vs h1 h2 h3=>unfold iP at hs;rw [h1] at hs;cases hs
 |sl e ks' n f h1 h2 h3 h5 h4=>unfold iP at hs;rw [h1] at hs;cases hs
 |mx fs' ms l h1 h2 h3 h4=>unfold iP at hs;rw [h1] at hs;cases hs
 |sm e fs' ms n f h1=>unfold iP at hs;rw [h1] at hs;cases hs
theorem xL.list{t e:TypeId}{av:AV}{ks:List SK}(h:xL P t av)(hs:Qf6 P t=some e)(hk:RU P 9 e=some ks): ∃(n:Nat) (f:Nat->List Value),av= .lst ks.length n (λi=>(f i).map .x)/\(n<=maxLen/\n*P.bytesOf e<=reachBytes)/\ ∀i,i<n->PD ks (f i):=by
 unfold Qf6 at hs;split at hs;rename_i e' hu;cases hs;cases h with
 |sc k v h0 h1 h2=>simp [RU,hu] at h1
 |st fs' ks' vs h1 h2 h3=>rw [hu] at h1;cases h1
 |mx fs' ms l h1 h2 h3 h4=>rw [hu] at h1;cases h1
 |sm e' fs' ms n f h1 h2 h3=>rw [hu] at h1;cases h1;rw [hk] at h3;cases h3
 |sl e' ks' n f h1 h2 h3 h5 h4=>
  rw [hu] at h1;cases h1;rw [hk] at h2;cases h2;exact ⟨n,f,rfl,⟨h3,h5⟩,h4⟩
 cases hs
theorem qK.nil{l:List AV}(h:qK P [] l):l=[]:=List.eq_nil_of_length_eq_zero h.1.symm
theorem qK.cons{k:MK}{ms:List MK}{l:List AV}(h:qK P (k::ms) l): ∃a l',l=a::l'/\AU P k a/\qK P ms l':=by
 cases l with
 |nil=>have:=h.1;simp at this
 |cons a l=>exact ⟨a,l,rfl,h.2 0 k a rfl rfl,⟨by have:=h.1;simpa using this,λj k' a' hk ha=>h.2 (j+1) k' a' (by simpa using hk) (by simpa using ha)⟩⟩
theorem PD.nil{vs:List Value}(h:PD [] vs):vs=[]:=List.eq_nil_of_length_eq_zero h.1.symm
theorem PD.cons{k:SK}{ks:List SK}{vs:List Value}(h:PD (k::ks) vs): ∃v vs',vs=v::vs'/\tE k v/\PD ks vs':=by
 cases vs with
 |nil=>have:=h.1;simp at this
 |cons v vs=>exact ⟨v,vs,rfl,h.2 0 k v rfl rfl,⟨by have:=h.1;simpa using this,λj k' v' hk hv=>h.2 (j+1) k' v' (by simpa using hk) (by simpa using hv)⟩⟩
end
inductive Gd where
 |rest
 |go (b:Bool) (g:Gd)
 |both (g g':Gd)
def kG{α:Type}:U6 α->Gd->U6 α
 | .fail,_=> .fail
 | .leaf a,_=> .leaf a
 | .need ps t,g=> .need ps (kG t g)
 | .branch b t f,g=>match g with
  | .rest=> .branch b t f
  | .go true g=> .need [b=true] (kG t g)
  | .go false g=> .need [b=false] (kG f g)
  | .both g g'=> .branch b (kG t g) (kG f g')
 | .may p t f,g=>match g with
  | .rest=> .may p t f
  | .go true g=> .may p (kG t g) (kG f g)
  | .go false g=> .need [¬p] (kG f g)
  | .both g g'=> .may p (kG t g) (kG f g')
theorem Qx7{α:Type}{Q:α->Prop}{t:U6 α}: ∀{g:Gd},(kG t g).sat Q->t.sat Q:=by
 induction t with
 |fail=>intro g h;exact h
 |leaf a=>intro g h;exact h
 |need ps t ih=>intro g h;exact ⟨h.1,ih h.2⟩
 |branch b t f iht ihf=>
  intro g h;cases g with
  |rest=>exact h
  |go d g=>
   cases d;obtain ⟨h1,h2⟩:=h;exact ⟨λhb=>absurd ((show b=false from h1).symm.trans hb) (by decide),λ_=>ihf h2⟩
   obtain ⟨h1,h2⟩:=h;exact ⟨λ_=>iht h2,λhb=>absurd ((show b=true from h1).symm.trans hb) (by decide)⟩
  |both g g'=>exact ⟨λhb=>iht (h.1 hb),λhb=>ihf (h.2 hb)⟩
 |may p t f iht ihf=>
  intro g h;cases g with
  |rest=>exact h
  |go d g=>
   cases d;exact ⟨λA=>absurd A h.1,ihf h.2⟩;exact ⟨λA=>iht (h.1 A),ihf h.2⟩
  |both g g'=>exact ⟨λA=>iht (h.1 A),ihf h.2⟩
theorem gV{P:Program}{G:List (Nat×Spec)}{X:Ext}{L:List G5}{f:FuncId}{fn:Func}{c:Code}{avs:List AV}{res:AV}{t:U6 RV}(g:Gd)(hG:U4 P G)(hX: ∀cx,UG P X cx)(HE:P.follows .mixedOrders=true)(hf:P.funcs[f]? =some fn)(hb:fn.body=some c)
  (hL: ∀j cj,UC c j=some cj-> ∀sp,L[j]? =some sp->D3 P cj sp)(ht:kG (Qa7 P fn.results.toList (DR P G X L c 0 (D5 fn avs))) g=t)(h:t.sat (λr=>GS r res)):UH P f avs res:=by
 subst ht;exact kR hG hX HE hf hb hL (zR (Qx7 h))
def Qk9(P:Program)(G:List (Nat×Spec))(X:Ext)(L:List G5)(N:List (Pl×Nat×TypeId×Nat))(s2:St)(rest:Code->Nat->St->CT):Nat->Code->Nat->St->CT
 | 0,c,off,s=> .needT (qG (RS N s) s2) (rest c off s2)
 |k+1,c,off,s=>match c with
  | .seq a b=>(DR P G X L a off s).bind λp=>match p.1 with
   | .normal=>Qk9 P G X L N s2 rest k b (off+H3 a) p.2
   |x=> .leaf (x,p.2)
  |_=> .fail
def Qf0(P:Program)(cx:Cx)(L:List G5)(ev:Code->Nat->St->CT):Prop:=
 ∀(ro:Option Nat) (n:Nat) (c:Code) (off:Nat) (s:St) (Q:GR×St->Prop) (a:Act) (w:World),(∀j cj,UC c j=some cj-> ∀sp,L[off+j]? =some sp->D7 P ro cx cj sp)->(ev c off s).sat Q->Rel cx s a w->c.wpIn (fr ro) n P (ES cx Q) a w
theorem nH{P:Program}{G:List (Nat×Spec)}{X:Ext}{cx:Cx}{L:List G5}(hG:U4 P G)(hX:UG P X cx)(HE:P.follows .mixedOrders=true):Qf0 P cx L (DR P G X L):=
 λro n c off s Q a w hL h r=>DN hG hX HE c off s Q a w hL h r
theorem fG{P:Program}{G:List (Nat×Spec)}{X:Ext}{cx:Cx}{L:List G5}{N:List (Pl×Nat×TypeId×Nat)}{s2:St}{rest:Code->Nat->St->CT}(hG:U4 P G)(hX:UG P X cx)(HE:P.follows .mixedOrders=true)(SN:Qf0 P cx L rest)(hok:okB s2=true): ∀k,Qf0 P cx L (Qk9 P G X L N s2 rest k)
 | 0=>λro n c off s Q a w hL h r=>by
  have h2:=U6.sat_needT h;exact SN ro n c off s2 Q a w hL h2.2 (RP (GY h2.1) hok (F7 r))
 |k+1=>λro n c off s Q a w hL h r=>by
  unfold Qk9 at h;split at h;rename_i x y;refine wpIn_seq ?_;have hx:=DN hG hX HE (ro:=ro) (n:=n) x off s _ a w (λj cj hj sp hsp=>hL j cj (by
   unfold UC;have hlt:j<H3 x:=by
    rcases An j (H3 x) with h'|h';exact h';exfalso;rw [PU x j h'] at hj;cases hj
   have:Nat.blt j (H3 x)=true:=by rw [Aw];exact hlt
   rw [this];exact hj) sp hsp) (U6.sat_bind h) r
  refine wpIn_mono hx ?_;rintro e a' w' ⟨ex,s',rfl,hq,hr⟩;cases ex with
  |normal=>
   simp only [GR.ex,Exit.then]
   refine fG hG hX HE SN hok k ro n y (off+H3 x) s' Q a' w' (λj cj hj sp hsp=>hL (H3 x+j) cj ?_ sp (by rw [←Ba];exact hsp)) hq hr
   unfold UC;have:Nat.blt (H3 x+j) (H3 x)=false:=by rw [Cb,ne_eq,Aw];omega
   rw [this];simpa using hj
  |exit i=>exact ⟨.exit i,s',rfl,hq,hr⟩
  |ret=>exact ⟨.ret,s',rfl,hq,hr⟩
  exact h.elim
theorem TB{P:Program}{L:List G5}{f:FuncId}{fn:Func}{c:Code}{avs:List AV}{ev:Code->Nat->St->CT}(hf:P.funcs[f]? =some fn)(hb:fn.body=some c)
  {cx:Cx}{gh:Option Nat}{w:World}{T:Nat->Prop}{e:G8}{args:List Value}(hev:Qf0 P cx L ev)(hK: ∀b o,¬cx.K b o)(hsv:cx.saved=[])(Qv9:cx.sz=0)(hM: ∀g T w0 D,cx.Φ g T w0->cx.M D->w0.heap.size<=D)(hΦ:cx.Φ gh T w)
  (hT: ∀b,T b->b<w.heap.size/\ ¬e.ro b)(hro: ∀b,e.ro b->b<w.heap.size)(hgl:DQ e w)(RL: ∀a∈avs,Idf a)(hr:UM e w avs args)
  (hL: ∀j cj,UC c j=some cj-> ∀sp,L[j]? =some sp->D7 P none cx cj sp){E:GR×St->Prop}(h:(ev c 0 {D5 fn avs with gh:=gh}).sat E){R:Ending->World->Prop}
  (fin: ∀x s w0 T' e' tmps w',E (x,s)->cx.Φ s.gh T' w0->GK e' w0.heap.size w'->Below w0.heap.size w0 w'->GH e' s.m w'->(∀b,T' b-> ¬e'.ro b)->UM e' w' s.σ tmps.toList-> ∃v,(results fn tmps).run P w'= .ok v w'/\R (.returned v) w')
  (hex: ∀x s,E (x,s)-> ∀i,x≠ .exit i):Calls P f args.toArray w R:=by
 let e0:G8:={ro:=e.ro,own:=λ_=>none,live:=λ_=>False,blk:=λ_=>0,val:=λ_=> .nilIface}
 have hr0:UM e0 w avs args:=⟨hr.1,λi a v ha hv=>Rep.idf (e:=e) (e':=e0) (λ_ h=>h) (hr.2 i a v ha hv) (RL a (FN ha))⟩;have kK:Rel cx {D5 fn avs with gh:=gh} {tmps:=args.toArray++Array.replicate (fn.ntmps-args.toArray.size) undef,defers:=[] } w:=by
  refine ⟨w,T,e0,hΦ,⟨λb hb=>⟨rfl,hro b hb⟩,(λb k hk=>by cases hk),hgl⟩,Below.refl _ _,(λp A=>by cases A),(λk hk=>False.elim hk),hT,⟨⟨(λd hd=>by cases hd),By⟩,(λb o h=>(hK b o h).elim),⟨by rw [hsv];rfl,(λi a v h=>by cases h)⟩,by rw [Qv9];exact Ao _⟩,?_⟩
  have rJ:UM e0 w (List.replicate (fn.ntmps-avs.length) .top) (List.replicate (fn.ntmps-avs.length) undef):=by
   refine ⟨UE,λi a v ha _=>?_⟩;have:=FN ha;rw [List.mem_replicate] at this;rw [this.2];exact .top v
  have:=hr0.append rJ;simpa [D5,hr.1] using this
 refine callsIn_wide (n:=0).1 (callsIn_of_wp_marks (F:=fr none) hf hb trivial (wpIn_mono (hev none 0 c 0 _ _ _ w (λj cj hj sp hsp=>hL j cj hj sp (by simpa using hsp)) h kK) ?_) rfl)
 rintro ex a' w' ⟨x,s',rfl,hE,w0,T',e',hΦ',re⟩;have hx:=hex x s' hE;have jS:LeavesInM (fr none) 0 P fn a'.tmps R a'.defers .returning w':=
  jN (M:=cx.M) (s:=s') (λD hD=>hM _ _ _ D hΦ' hD) (λw2 q1 q2 q3 q4=>fin x s' w0 T' e' a'.tmps w2 hE hΦ' q1 q2 q3 (λb hb=>(re.foe b hb).2) q4) a'.defers w' re.xt.defers re.env re.below re.mem re.slots
 cases x with
 |normal=>exact jS
 |ret=>exact jS
 |exit i=>exact (hx i rfl).elim
theorem AB{P:Program}{G:List (Nat×Spec)}{X:Ext}{L:List G5}{f:FuncId}{fn:Func}{c:Code}{avs:List AV}{res:AV}{t:U6 RV}(k:Nat)(N:List (Pl×Nat×TypeId×Nat))(s2:St)(hG:U4 P G)(hX: ∀cx,UG P X cx)(HE:P.follows .mixedOrders=true)(hf:P.funcs[f]? =some fn)(hb:fn.body=some c)
  (hL: ∀j cj,UC c j=some cj-> ∀sp,L[j]? =some sp->D3 P cj sp)(hok:okB s2=true)(ht:Qa7 P fn.results.toList (Qk9 P G X L N s2 (DR P G X L) k c 0 (D5 fn avs))=t)(h:t.sat (λr=>GS r res)):UH P f avs res:=by
 subst ht;intro e w args hro hgl RL hr;refine TB hf hb (cx:=nE w (λ_=>False)) (gh:=none) (T:=λ_=>False) (e:=e) (fG hG (hX _) HE (nH hG (hX _) HE) hok k) (λ_ _ h=>h) rfl rfl (by rintro g T w0 D ⟨rfl,_⟩ h;exact h) ⟨rfl,rfl⟩ (λb h=>h.elim) hro hgl RL hr (λj cj hj sp hsp=>hL j cj hj sp hsp _ (zU _ _)) (zR h) ?_ ?_
 rintro x s w0 T' e' tmps w' ⟨hx,r,FL,yF⟩ ⟨rfl,_⟩ q1 q2 q3 _ q4;obtain ⟨u,hu,H5⟩:=F0 (P:=P) q3 q4 FL;exact ⟨u,hu,u,rfl,q2,yF.rep q1 rfl q3 H5⟩;rintro x s ⟨hx,_⟩ i rfl;exact hx
theorem aE{P:Program}{L:List G5}{f:FuncId}{fn:Func}{c:Code}{avs:List AV}{res:AV}{t:U6 RV}{ev:Code->Nat->St->CT}(hf:P.funcs[f]? =some fn)(hb:fn.body=some c)(hev: ∀cx,Qf0 P cx L ev)
  (hL: ∀j cj,UC c j=some cj-> ∀sp,L[j]? =some sp->D3 P cj sp)(ht:Qa7 P fn.results.toList (ev c 0 (D5 fn avs))=t)(h:t.sat (λr=>GS r res)):UH P f avs res:=by
 subst ht;intro e w args hro hgl RL hr;refine TB hf hb (cx:=nE w (λ_=>False)) (gh:=none) (T:=λ_=>False) (e:=e) (hev _) (λ_ _ h=>h) rfl rfl (by rintro g T w0 D ⟨rfl,_⟩ h;exact h) ⟨rfl,rfl⟩ (λb h=>h.elim) hro hgl RL hr (λj cj hj sp hsp=>hL j cj hj sp hsp _ (zU _ _)) (zR h) ?_ ?_
 rintro x s w0 T' e' tmps w' ⟨hx,r,FL,yF⟩ ⟨rfl,_⟩ q1 q2 q3 _ q4;obtain ⟨u,hu,H5⟩:=F0 (P:=P) q3 q4 FL;exact ⟨u,hu,u,rfl,q2,yF.rep q1 rfl q3 H5⟩;rintro x s ⟨hx,_⟩ i rfl;exact hx
def Ql0(P:Program)(G:List (Nat×Spec))(X:Ext)(L:List G5):Code->Nat->St->CT
 | .region id ops draw,off,s=>match draw with
  |true=>(Qc6 P G X ops.toList ops.size (Array.replicate ops.size false) s).bind λs=> .leaf (.normal,s)
  |false=>DR P G X L (.region id ops false) off s
 | .seq a b,off,s=>(Ql0 P G X L a off s).bind λp=>match p.1 with
  | .normal=>Ql0 P G X L b (off+H3 a) p.2
  |x=> .leaf (x,p.2)
 |c,off,s=>DR P G X L c off s
theorem Xa2{P:Program}{G:List (Nat×Spec)}{X:Ext}{cx:Cx}{L:List G5}(hG:U4 P G)(hX:UG P X cx)(HE:P.follows .mixedOrders=true):Qf0 P cx L (Ql0 P G X L):=by
 intro ro n c
 induction c with
 |region id ops draw=>
  intro off s Q a w hL h r;cases draw with
  |false=>exact DN hG hX HE _ off s Q a w hL h r
  |true=>
   obtain ⟨w0,T,e,hΦ,r⟩:=r;refine wpIn_region_any HE ?_;exact kB hG hX (λs' a' w' hs hr=>⟨.normal,s',rfl,hs,hr⟩) ops.size _ s a _ (U6.sat_bind h) ⟨w0,T,e,hΦ,r.drew⟩
 |seq x y ihx ihy=>
  intro off s Q a w hL h r;refine wpIn_seq ?_;have hx:=ihx off s _ a w (λj cj hj sp hsp=>hL j cj (by
    unfold UC;have hlt:j<H3 x:=by
     rcases An j (H3 x) with h'|h';exact h';exfalso;rw [PU x j h'] at hj;cases hj
    have:Nat.blt j (H3 x)=true:=by rw [Aw];exact hlt
    rw [this];exact hj) sp hsp) (U6.sat_bind h) r
  refine wpIn_mono hx ?_;rintro e a' w' ⟨ex,s',rfl,hq,hr⟩;cases ex with
  |normal=>
   simp only [GR.ex,Exit.then]
   refine ihy (off+H3 x) s' Q a' w' (λj cj hj sp hsp=>hL (H3 x+j) cj ?_ sp (by rw [←Ba];exact hsp)) hq hr
   unfold UC;have:Nat.blt (H3 x+j) (H3 x)=false:=by rw [Cb,ne_eq,Aw];omega
   rw [this];simpa using hj
  |exit i=>exact ⟨.exit i,s',rfl,hq,hr⟩
  |ret=>exact ⟨.ret,s',rfl,hq,hr⟩
 |_=>
  intro off s Q a w hL h r;exact DN hG hX HE _ off s Q a w hL h r
def vP(P:Program)(G:List (Nat×Spec))(X:Ext)(L:List G5)(fn:Func)(c:Code):DK:=λavs m nx sv=>
 some ((DR P G X L c 0 {D5 fn avs with m:=m,nx:=nx,sv:=sv}).bind λp=>match p.1 with
  | .exit _=> .fail
  |_=>match qH P p.2 fn.results.toList with
   |some r=> .leaf (r,p.2.m,p.2.nx,p.2.sv)
   |none=> .fail)
theorem RT{P:Program}{G:List (Nat×Spec)}{X:Ext}{L:List G5}{f:FuncId}{fn:Func}{c:Code}(hG:U4 P G)(hX: ∀cx,UG P X cx)(HE:P.follows .mixedOrders=true)(PQ:Enters P f)(hf:P.funcs[f]? =some fn)(hb:fn.body=some c)
  (hL: ∀j cj,UC c j=some cj-> ∀sp,L[j]? =some sp->GU P cj sp):GT P f (vP P G X L fn c):=by
 refine ⟨PQ,?_⟩;intro avs m nx sv t ht Q hQ cx w0 T e ds args w hE hB hm hl L8 hxt hr;unfold vP at ht;cases ht
 let K':Nat->Obj->Prop:=λb o=>cx.K b o\/(∃d∈ds,d={target:= .collected b,args:=#[] }/\o= .deferred (some []))
 let cx':Cx:={M:=λ_=>False,Φ:=λg T' w'=>g=none/\T'=T/\w'=w0,K:=K',saved:=cx.saved,sz:=cx.sz}
 have R0:(DR P G X L c 0 {D5 fn avs with m:=m,nx:=nx,sv:=sv}).sat (λp=>(∀i,p.1≠ .exit i)/\p.2.gh=p.2.gh/\ ∃r,qH P p.2 fn.results.toList=some r/\Q (r,p.2.m,p.2.nx,p.2.sv)):=by
  refine U6.sat_mono ?_ (U6.sat_bind hQ);rintro ⟨x,s⟩ hs;cases x with
  |exit i=>exact hs.elim
  |normal=>
   simp only at hs;split at hs;rename_i r hr;exact ⟨λi h=>(by cases h),rfl,r,hr,hs⟩
   exact hs.elim
  |ret=>
   simp only at hs;split at hs;rename_i r hr;exact ⟨λi h=>(by cases h),rfl,r,hr,hs⟩
   exact hs.elim
 have kK:Rel cx' {D5 fn avs with m:=m,nx:=nx,sv:=sv} {tmps:=args.toArray++Array.replicate (fn.ntmps-args.toArray.size) undef,defers:=[] } w:=by
  refine ⟨w0,T,e,⟨rfl,rfl,rfl⟩,hE,hB,hm,hl,L8,⟨⟨(λd hd=>by cases hd),By⟩,?_,hxt.saved,hxt.size⟩,?_⟩
  rintro b o (hk|⟨d,hd,h1,rfl⟩);exact hxt.kept b o hk;obtain ⟨D,g1,g2,g3,g4,g5⟩:=hxt.defers.1 d hd;rw [h1] at g1;injection g1 with g1 _
  injection g1 with g1
  subst g1;exact ⟨g2,g3,g4⟩;have rJ:UM e w (List.replicate (fn.ntmps-avs.length) .top) (List.replicate (fn.ntmps-avs.length) undef):=by
   refine ⟨UE,λi a v ha _=>?_⟩;have:=FN ha;rw [List.mem_replicate] at this;rw [this.2];exact .top v
  have:=hr.append rJ;simpa [D5,hr.1] using this
 refine callsIn_wide (n:=0).1 (callsIn_of_wp_marks (F:=fr none) hf hb trivial (wpIn_mono (DN hG (hX cx') HE c 0 _ _ _ w (λj cj hj sp hsp=>hL j cj hj sp (by simpa using hsp) none cx') R0 kK) ?_) rfl)
 rintro ex a' w' ⟨x,s',rfl,⟨hx,_,r,FL,hq⟩,w0',T',e',⟨_,rfl,rfl⟩,re⟩;have Qw5:a'.defers=[]:=by
  cases hd:a'.defers with
  |nil=>rfl
  |cons d l=>
   obtain ⟨D,_,_,_,_,g5⟩:=re.xt.defers.1 d (by rw [hd];exact H0)
   exact g5.elim
 obtain ⟨u,hu,H5⟩:=F0 (P:=P) re.mem re.slots FL;have jS:LeavesInM (fr none) 0 P fn a'.tmps (λen w'=> ∃v r m' nx' sv' e',en= .returned v/\Q (r,m',nx',sv')/\GK e' w0'.heap.size w'/\Below w0'.heap.size w0' w'/\GH e' m' w'/\(∀k,e'.live k->k<nx')/\
   (∀b,T' b->b<w0'.heap.size/\ ¬e'.ro b)/\Xt cx e' sv' ds w'/\Rep e' w' r v) a'.defers .returning w':=by
  rw [Qw5];refine ⟨u,hu,u,r,s'.m,s'.nx,s'.sv,e',rfl,hq,re.env,re.below,re.mem,re.live,re.foe,⟨⟨λd hd=>?_,hxt.defers.2⟩,λb o hk=>re.xt.kept b o (.inl hk),re.xt.saved,re.xt.size⟩,H5⟩;obtain ⟨D,g1,g2,g3,g4,g5⟩:=hxt.defers.1 d hd;obtain ⟨k1,k2,k3⟩:=re.xt.kept D (.deferred (some [])) (.inr ⟨d,hd,g1,rfl⟩);exact ⟨D,g1,k1,k2,k3,g5⟩
 cases x with
 |normal=>exact jS
 |ret=>exact jS
 |exit i=>exact (hx i rfl).elim
def qM(t:Nat)(F:Nat->G5):G5:=λs=>match s.σ.getD t .top with
 | .x (.int _ n)=>F n.toNat s
 |_=>none
theorem PW{P:Program}{c:Code}{t:Nat}{F:Nat->G5}(h: ∀k,GU P c (F k)):GU P c (qM t F):=by
 intro ro cx n s tr ht Q hQ a w r;unfold qM at ht;split at ht;exact h _ ro cx n s tr ht Q hQ a w r;cases ht
theorem GL{P:Program}{G:List (Nat×Spec)}{E:Ext}{L:List G5}(N:List (Pl×Nat×TypeId×Nat))(hG:U4 P G)(hX: ∀cx,UG P E cx)(HE:P.follows .mixedOrders=true){body:Code}(hL: ∀j cj,UC body j=some cj-> ∀sp,L[j]? =some sp->GU P cj sp)
  {X:Type}(inv:X->St)(I:X->Prop)(μ:X->Nat)(out:X->GR->Option St){t:CT}{x0:X}(h0:I x0)
  (hok: ∀x,okB (inv x)=true)(wR: ∀x y E,out x y=some E->okB E=true)
  (round: ∀(Q:GR×St->Prop),t.sat Q-> ∀x,I x-> ∃x',(DA P G E L N body (inv x) (inv x') (out x)).sat (λy=>match y with
   | .normal=>I x'/\μ x'<μ x
   |y=> ∀E,out x y=some E->Q (y,E))):GU P (.loop body) (H4 N (D1 (inv x0) t)):=
 λro cx=>FQ N hG (hX cx) HE (λj cj hj sp hsp=>hL j cj hj sp hsp ro cx) inv I μ out h0 hok wR round
theorem U7.inl{P:Program}{f:Nat}{h:DK}{H:List (Nat×DK)}(h1:GT P f h)(k:U7 P H):U7 P ((f,h)::H):=U7.cons h1 k
inductive Xg5 where
 |ret (a:AV)
 |pan (v:Value)
abbrev FO:=List AV->HO->Nat->List (List AV)->Option (U6 (Xg5×HO×Nat×List (List AV)))
def Zd4(e:G8)(w:World):Xg5->Ending->Prop
 | .ret a,en=> ∃v,en= .returned v/\Rep e w a v
 | .pan u,en=>en= .panicked [{v:=u,recovered:=false}]
def DW(P:Program)(f:FuncId)(h:FO):Prop:=Enters P f/\ ∀avs m nx sv t,h avs m nx sv=some t-> ∀Q,t.sat Q-> ∀(c:Cx) (w0:World) (T:Nat->Prop) (e:G8) (ds:List Deferred) (args:List Value) (w:World),
 GK e w0.heap.size w->Below w0.heap.size w0 w->GH e m w->(∀k,e.live k->k<nx)->(∀b,T b->b<w0.heap.size/\ ¬e.ro b)->Xt c e sv ds w->UM e w avs args->
  Calls P f args.toArray w λen w'=> ∃r m' nx' sv' e',Zd4 e' w' r en/\Q (r,m',nx',sv')/\GK e' w0.heap.size w'/\Below w0.heap.size w0 w'/\GH e' m' w'/\(∀k,e'.live k->k<nx')/\
   (∀b,T b->b<w0.heap.size/\ ¬e'.ro b)/\Xt c e' sv' ds w'
def GG(P:Program)(PX:List (Nat×FO)):Prop:= ∀p∈PX,DW P p.1 p.2
theorem GG.nil(P:Program):GG P []:=λ_ h=>by cases h
theorem GG.cons{P:Program}{f:Nat}{h:FO}{H:List (Nat×FO)}(h1:DW P f h)(k:GG P H):GG P ((f,h)::H):=by
 intro p A;rcases HA.1 A with rfl|A;exact h1;exact k p A
def Qx8:List (Nat×FO)->Nat->Option FO
 |[],_=>none
 |(k,s)::t,f=>match Nat.beq k f with
  |true=>some s
  |false=>Qx8 t f
theorem Wx1{G:List (Nat×FO)}{f:Nat}{s:FO}(h:Qx8 G f=some s):(f,s)∈G:=by
 induction G with
 |nil=>simp [Qx8] at h
 |cons p t ih=>
  obtain ⟨k,r'⟩:=p;unfold Qx8 at h;split at h;rename_i hk;have:k=f:=HK hk;subst this;cases h;exact H0;exact DB _ (ih h)
inductive PEx where
 |x (e:GR)
 |pan (v:Value)
def PEx.ex:PEx->Exit
 | .x e=>e.ex
 | .pan v=> .panic [{v,recovered:=false}]
abbrev PT:=U6 (PEx×St)
def ER(cx:Cx)(Q:PEx×St->Prop):Exit->Act->World->Prop:=λe a w=> ∃x s,e=PEx.ex x/\Q (x,s)/\Rel cx s a w
abbrev BH:=St->Option PT
def PN(P:Program)(ro:Option Nat)(cx:Cx)(c:Code)(sp:BH):Prop:= ∀(n:Nat) (s:St) (t:PT),sp s=some t-> ∀Q:PEx×St->Prop,t.sat Q-> ∀(a:Act) (w:World),Rel cx s a w->c.wpIn (fr ro) n P (ER cx Q) a w
def Jt1(dst:Option Nat)(s:St)(p:Xg5×HO×Nat×List (List AV)):PT:=match p.2.2.2 with
 |σ::sv=>match p.1 with
  | .ret a=> .leaf (.x .normal,{s with σ:=z8 σ dst a,m:=p.2.1,nx:=p.2.2.1,sv:=sv})
  | .pan v=> .leaf (.pan v,{s with σ:=σ,m:=p.2.1,nx:=p.2.2.1,sv:=sv})
 |[]=> .fail
def IR(s:St):PT:= .leaf (.x .normal,s)
def Wo1(P:Program)(G:List (Nat×Spec))(X:Ext)(PX:List (Nat×FO))(ops:List Oper)(o:Oper)(s:St):PT:=
 match o.op with
 | .call c=>match c.callee with
  | .value f=>match rho s.σ f with
   | .fn (.func g) first caps=>match Qx8 PX g with
    |some h=>match o.guard with
     |none=>match h (first++c.args.toList.map (rho s.σ)++caps) s.m s.nx (s.σ::s.sv) with
      |some t=>t.bind (Jt1 o.dst s)
      |none=> .fail
     |some _=> .fail
    |none=>(jH P G X ops o s).bind IR
   |_=>(jH P G X ops o s).bind IR
  |_=>(jH P G X ops o s).bind IR
 | .panic v=>match o.guard,rho s.σ v with
  |none,.x (.iface t u)=> .leaf (.pan (.iface t u),s)
  |_,_=> .fail
 |_=>(jH P G X ops o s).bind IR
def Jj6(f:St->PT)(p:PEx×St):PT:=match p.1 with
 | .x .normal=>f p.2
 |x=> .leaf (x,p.2)
def iV(P:Program)(G:List (Nat×Spec))(X:Ext)(PX:List (Nat×FO))(ops:List Oper):List Oper->St->PT
 |[],s=>IR s
 |o::rest,s=>(Wo1 P G X PX ops o s).bind (Jj6 (iV P G X PX ops rest))
section
variable (P:Program)(G:List (Nat×Spec))(X:Ext)
def Jj5(PX:List (Nat×FO))(ops:List Oper)(s:St):PT:=iV P G X PX ops ops s
def Jp9(PX:List (Nat×FO)):List Oper->Bool
 |[]=>false
 |o::os=>(match o.op with
  | .call c=>match c.callee with
   | .value (.func g)=>match Qx8 PX g with
    |some _=>true
    |none=>false
   |_=>false
  | .panic _=>true
  |_=>false)||Jp9 PX os
def Wj3(PX:List (Nat×FO))(ops:List Oper)(s:St):PT:=match Jp9 PX ops with
 |true=>Zp9 (iV P G X PX ops) P G X ops s
 |false=>(Xm7 P G X ops s).bind IR
end
def PY(P:Program)(G:List (Nat×Spec))(X:Ext)(PX:List (Nat×FO))(L:List BH):Code->Nat->St->PT
 | .skip,_,s=> .leaf (.x .normal,s)
 | .label _,_,s=> .leaf (.x .normal,s)
 | .region _ ops draw,_,s=>match draw with
  |true=>Wj3 P G X PX ops.toList s
  |false=>Jj5 P G X PX ops.toList s
 | .seq a b,off,s=>(PY P G X PX L a off s).bind λp=>match p.1 with
  | .x .normal=>PY P G X PX L b (off+H3 a) p.2
  |x=> .leaf (x,p.2)
 | .cond c a b,off,s=>match rho s.σ c with
  | .lit true=>PY P G X PX L a off s
  | .lit false=>PY P G X PX L b (off+H3 a) s
  | .x (.bool t)=> .branch t (PY P G X PX L a off (nF s c true)) (PY P G X PX L b (off+H3 a) (nF s c false))
  |_=> .fail
 | .block id c,off,s=>(PY P G X PX L c off s).bind λp=>match p.1 with
  | .x (.exit i)=>match Nat.beq i id with
   |true=> .leaf (.x .normal,p.2)
   |false=> .leaf (.x (.exit i),p.2)
  |x=> .leaf (x,p.2)
 | .scope c,off,s=>PY P G X PX L c off s
 | .loop _,off,s=>match L[off]? with
  |some f=>match f s with
   |some t=>t
   |none=> .fail
  |none=> .fail
 | .rangeFunc _ _ _ _,off,s=>match L[off]? with
  |some f=>match f s with
   |some t=>t
   |none=> .fail
  |none=> .fail
 | .exit id,_,s=> .leaf (.x (.exit id),s)
 | .ret,_,s=> .leaf (.x .ret,s)
 | .goto _,_,_=> .fail
 | .refuse _,_,_=> .fail
section
variable {P:Program}{G:List (Nat×Spec)}{X:Ext}{PX:List (Nat×FO)}{cx:Cx}
theorem lV(hG:U4 P G)(hX:UG P X cx)(hP:GG P PX){ro:Option Nat}{n:Nat}{ops:Array Oper}{i:Nat}{o:Oper}(ho:ops[i]? =some o){s:St}{Q R:PEx×St->Prop}{K:Act->World->Prop}(hK: ∀s a w,R (.x .normal,s)->Rel cx s a w->K a w)(hV: ∀v s,R (.pan v,s)->Q (.pan v,s))(h:(Wo1 P G X PX ops.toList o s).sat R){a:Act}{w:World}(r:Rel cx s a w):
  wpOpIn (fr ro) n P ops (ER cx Q) i K a w:=by
 have plain:((jH P G X ops.toList o s).bind IR).sat R->wpOpIn (fr ro) n P ops (ER cx Q) i K a w:=λh=>
  jG hG hX ho (U6.sat_bind h) r (λs' a' w' hs hr=>hK s' a' w' hs hr)
 unfold Wo1 at h;split at h;rename_i c hop;split at h;rename_i f dW;split at h;rename_i g first caps hfe
 split at h;rename_i hs hhs;split at h;rename_i hg;split at h;rename_i t ht;obtain ⟨w0,T,e,hΦ,r⟩:=r;obtain ⟨dst,op,type,pos,after,guard⟩:=o;simp only at hop hg;subst hop hg;obtain ⟨callee,args,argTypes⟩:=c;simp only at dW;subst dW;have ha:=UM.ops (RI r.slots) args.toList;have hf:=RI r.slots f;rw [hfe] at hf;obtain ⟨us,us',hv,r1,r2⟩:=hf.fn_inv;have DM:UM e w (first++args.toList.map (rho s.σ)++caps) (us++args.toList.map a.eval++us'):=(r1.append ha).append r2
 obtain ⟨PQ,M6⟩:=hP _ (Wx1 hhs);have RG:=M6 _ _ _ _ _ ht _ (U6.sat_bind h) {cx with saved:=a.tmps.toList::cx.saved} w0 T e a.defers _ w r.env r.below r.mem r.live r.foe ⟨r.xt.defers,r.xt.kept,LM.cons r.slots r.xt.saved,r.xt.size⟩ DM
 unfold wpOpIn;simp only [ho];rw [if_pos (by simp [Region.wanted])]
 refine D9 (λc h=>by cases h) ?_
 unfold Oper.wp;have FD:(execOp a.eval ⟨dst,.call ⟨.value f,args,argTypes⟩,type,pos,after,none⟩).run P w= .ok (.enter g (us++args.toList.map a.eval++us').toArray) w:=by
  have e1:(us++args.toList.map a.eval++us').toArray=us.toArray++args.map a.eval++us'.toArray:=Array.ext' UE;simp only [execOp,resolve,hv,Deferred.ofValue,At,Bv,Au,invoke];rw [e1];exact P3 PQ _ w
 rw [FD,Oper.upon_enter];refine RG.mono λen w' hq=>?_;obtain ⟨rr,m',nx',sv',e',B0,hQ,hE',hB',hm',hl',hT',hx'⟩:=hq;obtain ⟨a1,l1,he1,hs1,hs2⟩:=hx'.saved.cons_inv;subst he1;cases rr with
 |ret av=>
  obtain ⟨v,rfl,H5⟩:=B0;exact hK _ _ _ hQ ⟨w0,T,e',hΦ,hE',hB',hm',hl',hT',by rw [put_defers];exact ⟨hx'.defers,hx'.kept,hs2,hx'.size⟩,qZ hs1 dst H5⟩
 |pan u=>
  cases B0;exact ⟨.pan u,_,rfl,hV _ _ hQ,w0,T,e',hΦ,hE',hB',hm',hl',hT',⟨hx'.defers,hx'.kept,hs2,hx'.size⟩,hs1⟩
 exact h.elim;exact h.elim;exact plain h;exact plain h;exact plain h;rename_i v hop;split at h;rename_i t u hg hu;have r0:=r;obtain ⟨w0,T,e,hΦ,r⟩:=r;have hv:=RI r.slots v;rw [hu] at hv;have hv:=hv.x_inv;obtain ⟨dst,op,type,pos,after,guard⟩:=o;simp only at hop hg;subst hop hg;unfold wpOpIn;simp only [ho];rw [if_pos (by simp [Region.wanted])]
 refine D9 (λc h=>by cases h) ?_
 unfold Oper.wp;have FD:(execOp a.eval ⟨dst,.panic v,type,pos,after,none⟩).run P w= .halt (.panic (.iface t u)) w:=by
  simp [execOp,hv,Instr.panic,goPanic]
 rw [FD,Oper.upon_panic];exact ⟨.pan (.iface t u),s,rfl,hV _ _ h,r0⟩;exact h.elim;exact plain h
theorem kU(hG:U4 P G)(hX:UG P X cx)(hP:GG P PX){ro:Option Nat}{n:Nat}{ops:Array Oper}{Q:PEx×St->Prop}:
  ∀(l:List Oper) (k:Nat),l=ops.toList.drop k-> ∀(s:St) (a:Act) (w:World),(iV P G X PX ops.toList l s).sat Q->Rel cx s a w->wpOpsIn (fr ro) n P ops (ER cx Q) (List.range' k (ops.size-k)) a w
 |[],k,hk,s,a,w,h,r=>by
  have hl:ops.size-k=0:=by
   have:=congrArg List.length hk;simp at this;omega
  rw [hl];exact ⟨.x .normal,s,rfl,h,r⟩
 |o::rest,k,hk,s,a,w,h,r=>by
  have hlt:k<ops.size:=by
   have:=congrArg List.length hk;simp at this;omega
  have hok:ops[k]? =some o:=by
   have:=congrArg (·[0]?) hk;simp at this;exact this.symm
  have SN:rest=ops.toList.drop (k+1):=by
   have:=congrArg List.tail hk;simpa using this
  have e1:ops.size-k=(ops.size-(k+1))+1:=U3;rw [e1,List.range'_succ,wpOpsIn_cons];refine lV (Q:=Q) (R:=λp=>(Jj6 (iV P G X PX ops.toList rest) p).sat Q) hG hX hP hok ?_ (λv s' hs'=>hs') (U6.sat_bind h) r;exact λs' a' w' hs' hr'=>kU hG hX hP rest (k+1) SN s' a' w' hs' hr'
theorem pT(hG:U4 P G)(hX:UG P X cx)(hP:GG P PX){ro:Option Nat}{n:Nat}{id:Nat}{ops:Array Oper}{s:St}{Q:PEx×St->Prop}(h:(Jj5 P G X PX ops.toList s).sat Q){a:Act}{w:World}(r:Rel cx s a w):
  (Code.region id ops false).wpIn (fr ro) n P (ER cx Q) a w:=by
 refine wpIn_region ?_;rw [List.range_eq_range' (n:=ops.size)];have:=kU hG hX hP (ro:=ro) (n:=n) ops.toList 0 UE s a w h r;simpa using this
theorem iY(hG:U4 P G)(hX:UG P X cx)(hP:GG P PX)(HE:P.follows .mixedOrders=true){ro:Option Nat}{n:Nat}{id:Nat}{ops:Array Oper}{s:St}{Q:PEx×St->Prop}(h:(Wj3 P G X PX ops.toList s).sat Q){a:Act}{w:World}(r:Rel cx s a w):
  (Code.region id ops true).wpIn (fr ro) n P (ER cx Q) a w:=by
 unfold Wj3 at h;split at h;exact wpIn_region_any HE (iX hG hX HE h r (λl k hl s a w h r=>kU hG hX hP l k hl s a w h r));exact EJ hG hX HE (U6.sat_bind h) r (λs' a' w' hs hr=>⟨.x .normal,s',rfl,hs,hr⟩)
theorem AQ(hG:U4 P G)(hX:UG P X cx)(hP:GG P PX)(HE:P.follows .mixedOrders=true){L:List BH}{ro:Option Nat}{n:Nat}:
  ∀(c:Code) (off:Nat) (s:St) (Q:PEx×St->Prop) (a:Act) (w:World),(∀j cj,UC c j=some cj-> ∀sp,L[off+j]? =some sp->PN P ro cx cj sp)->(PY P G X PX L c off s).sat Q->Rel cx s a w->c.wpIn (fr ro) n P (ER cx Q) a w:=by
 intro c
 induction c with
 |skip=>intro off s Q a w _ h r;exact wpIn_skip ⟨.x .normal,s,rfl,h,r⟩
 |label l=>intro off s Q a w _ h r;exact wpIn_label ⟨.x .normal,s,rfl,h,r⟩
 |region id ops draw=>
  intro off s Q a w _ h r;unfold PY at h;cases draw with
  |true=>exact iY hG hX hP HE h r
  |false=>exact pT hG hX hP h r
 |seq x y ihx ihy=>
  intro off s Q a w hL h r;unfold PY at h;refine wpIn_seq ?_;have hx:=ihx off s _ a w (λj cj hj sp hsp=>hL j cj (by
   unfold UC;have hlt:j<H3 x:=by
    rcases An j (H3 x) with h'|h';exact h';exfalso;rw [PU x j h'] at hj;cases hj
   have:Nat.blt j (H3 x)=true:=by rw [Aw];exact hlt
   rw [this];exact hj) sp hsp) (U6.sat_bind h) r
  refine wpIn_mono hx ?_;rintro e a' w' ⟨ex,s',rfl,hq,hr⟩;cases ex with
  |pan v=>exact ⟨.pan v,s',rfl,hq,hr⟩
  |x ex=>
  cases ex with
  |normal=>
   simp only [PEx.ex,GR.ex,Exit.then]
   refine ihy (off+H3 x) s' Q a' w' (λj cj hj sp hsp=>hL (H3 x+j) cj ?_ sp (by rw [←Ba];exact hsp)) hq hr
   unfold UC;have:Nat.blt (H3 x+j) (H3 x)=false:=by rw [Cb,ne_eq,Aw];omega
   rw [this];simpa using hj
  |exit i=>exact ⟨.x (.exit i),s',rfl,hq,hr⟩
  |ret=>exact ⟨.x .ret,s',rfl,hq,hr⟩
 |cond t x y ihx ihy=>
  intro off s Q a w hL h r;have hLx: ∀j cj,UC x j=some cj-> ∀sp,L[off+j]? =some sp->PN P ro cx cj sp:=by
   intro j cj hj sp hsp;refine hL j cj ?_ sp hsp;unfold UC;split;exact hj;rename_i hb;exfalso;have hge:H3 x<=j:=by
    rw [Cb,ne_eq,Aw] at hb;omega
   rw [PU x j hge] at hj;cases hj
  have hLy: ∀j cj,UC y j=some cj-> ∀sp,L[off+H3 x+j]? =some sp->PN P ro cx cj sp:=by
   intro j cj hj sp hsp;refine hL (H3 x+j) cj ?_ sp (by rw [←Ba];exact hsp)
   unfold UC;have:Nat.blt (H3 x+j) (H3 x)=false:=by rw [Cb,ne_eq,Aw];omega
   rw [this];simpa using hj
  unfold PY at h;have r0:=r;obtain ⟨w0,T,e,hΦ,re⟩:=r;have hc:=RI re.slots t;split at h;rename_i heq;rw [heq] at hc;exact wpIn_cond_true hc.lit_inv (ihx off s Q a w hLx h r0);rename_i heq;rw [heq] at hc;exact wpIn_cond_false hc.lit_inv (ihy _ s Q a w hLy h r0);rename_i b heq;rw [heq] at hc;cases b;exact wpIn_cond_false hc.x_inv (ihy _ _ Q a w hLy (h.2 rfl) (fF r0 heq rfl));exact wpIn_cond_true hc.x_inv (ihx _ _ Q a w hLx (h.1 rfl) (fF r0 heq rfl));exact h.elim
 |block id c ih=>
  intro off s Q a w hL h r;unfold PY at h;refine wpIn_block (wpIn_mono (ih off s _ a w hL (U6.sat_bind h) r) ?_);rintro e a' w' ⟨ex,s',rfl,hq,hr⟩;cases ex with
  |pan v=>exact ⟨.pan v,s',rfl,hq,hr⟩
  |x ex=>
  cases ex with
  |normal=>exact ⟨.x .normal,s',rfl,hq,hr⟩
  |ret=>exact ⟨.x .ret,s',rfl,hq,hr⟩
  |exit i=>
   simp only [PEx.ex,GR.ex,Exit.inBlock];simp only at hq;split at hq;rename_i hb;rw [if_pos (HK hb)];exact ⟨.x .normal,s',rfl,hq,hr⟩;rename_i hb;rw [if_neg (λhe=>by subst he;simp at hb)]
   exact ⟨.x (.exit i),s',rfl,hq,hr⟩
 |scope c ih=>
  intro off s Q a w hL h r;unfold PY at h;refine CR (wpIn_mono (ih off s Q a w hL h r) ?_);rintro e a' w' ⟨ex,s',rfl,hq,hr⟩;cases ex with
  |pan v=>exact ⟨.pan v,s',rfl,hq,hr⟩
  |x ex=>
  cases ex with
  |normal=>exact ⟨.x .normal,s',rfl,hq,hr⟩
  |ret=>exact ⟨.x .ret,s',rfl,hq,hr⟩
  |exit i=>exact ⟨.x (.exit i),s',rfl,hq,hr⟩
 |loop c ih=>
  intro off s Q a w hL h r;unfold PY at h;split at h;rename_i f hf;split at h;rename_i t ht;exact hL 0 _ rfl f (by simpa using hf) n s t ht Q h a w r
  exact h.elim;exact h.elim
 |rangeFunc f ps x y ihx ihy=>
  intro off s Q a w hL h r;unfold PY at h;split at h;rename_i f hf;split at h;rename_i t ht;exact hL 0 _ rfl f (by simpa using hf) n s t ht Q h a w r
  exact h.elim;exact h.elim
 |exit id=>intro off s Q a w _ h r;exact wpIn_exit ⟨.x (.exit id),s,rfl,h,r⟩
 |ret=>intro off s Q a w _ h r;exact wpIn_ret ⟨.x .ret,s,rfl,h,r⟩
 |goto l=>intro off s Q a w _ h r;exact h.elim
 |refuse y=>intro off s Q a w _ h r;exact h.elim
end
def C5(P:Program)(G:List (Nat×Spec))(X:Ext)(PX:List (Nat×FO))(L:List BH)(fn:Func)(c:Code):FO:=λavs m nx sv=>
 some ((PY P G X PX L c 0 {D5 fn avs with m:=m,nx:=nx,sv:=sv}).bind λp=>match p.1 with
  | .pan v=> .leaf (.pan v,p.2.m,p.2.nx,p.2.sv)
  | .x (.exit _)=> .fail
  |_=>match qH P p.2 fn.results.toList with
   |some r=> .leaf (.ret r,p.2.m,p.2.nx,p.2.sv)
   |none=> .fail)
theorem RM{P:Program}{G:List (Nat×Spec)}{X:Ext}{PX:List (Nat×FO)}{L:List BH}{f:FuncId}{fn:Func}{c:Code}(hG:U4 P G)(hX: ∀cx,UG P X cx)(hP:GG P PX)(HE:P.follows .mixedOrders=true)(PQ:Enters P f)(hf:P.funcs[f]? =some fn)(hb:fn.body=some c)
  (hL: ∀j cj,UC c j=some cj-> ∀sp,L[j]? =some sp-> ∀ro cx,PN P ro cx cj sp):DW P f (C5 P G X PX L fn c):=by
 refine ⟨PQ,?_⟩;intro avs m nx sv t ht Q hQ cx w0 T e ds args w hE hB hm hl L8 hxt hr;unfold C5 at ht;cases ht
 let K':Nat->Obj->Prop:=λb o=>cx.K b o\/(∃d∈ds,d={target:= .collected b,args:=#[] }/\o= .deferred (some []))
 let cx':Cx:={M:=λ_=>False,Φ:=λg T' w'=>g=none/\T'=T/\w'=w0,K:=K',saved:=cx.saved,sz:=cx.sz}
 have R0:(PY P G X PX L c 0 {D5 fn avs with m:=m,nx:=nx,sv:=sv}).sat (λp=>match p.1 with
   | .pan v=>Q (.pan v,p.2.m,p.2.nx,p.2.sv)
   | .x (.exit _)=>False
   |_=> ∃r,qH P p.2 fn.results.toList=some r/\Q (.ret r,p.2.m,p.2.nx,p.2.sv)):=by
  refine U6.sat_mono ?_ (U6.sat_bind hQ);rintro ⟨x,s⟩ hs;cases x with
  |pan v=>exact hs
  |x x=>
  cases x with
  |exit i=>exact hs.elim
  |normal=>
   simp only at hs ⊢;split at hs;rename_i r hr;exact ⟨r,hr,hs⟩;exact hs.elim
  |ret=>
   simp only at hs ⊢;split at hs;rename_i r hr;exact ⟨r,hr,hs⟩;exact hs.elim
 have kK:Rel cx' {D5 fn avs with m:=m,nx:=nx,sv:=sv} {tmps:=args.toArray++Array.replicate (fn.ntmps-args.toArray.size) undef,defers:=[] } w:=by
  refine ⟨w0,T,e,⟨rfl,rfl,rfl⟩,hE,hB,hm,hl,L8,⟨⟨(λd hd=>by cases hd),By⟩,?_,hxt.saved,hxt.size⟩,?_⟩
  rintro b o (hk|⟨d,hd,h1,rfl⟩);exact hxt.kept b o hk;obtain ⟨D,g1,g2,g3,g4,g5⟩:=hxt.defers.1 d hd;rw [h1] at g1;injection g1 with g1 _
  injection g1 with g1
  subst g1;exact ⟨g2,g3,g4⟩;have rJ:UM e w (List.replicate (fn.ntmps-avs.length) .top) (List.replicate (fn.ntmps-avs.length) undef):=by
   refine ⟨UE,λi a v ha _=>?_⟩;have:=FN ha;rw [List.mem_replicate] at this;rw [this.2];exact .top v
  have:=hr.append rJ;simpa [D5,hr.1] using this
 refine callsIn_wide (n:=0).1 (callsIn_of_wp_marks (F:=fr none) hf hb trivial (wpIn_mono (AQ hG (hX cx') hP HE c 0 _ _ _ w (λj cj hj sp hsp=>hL j cj hj sp (by simpa using hsp) none cx') R0 kK) ?_) rfl)
 rintro ex a' w' ⟨x,s',rfl,hq,w0',T',e',⟨_,rfl,rfl⟩,re⟩;have Qw5:a'.defers=[]:=by
  cases hd:a'.defers with
  |nil=>rfl
  |cons d l=>
   obtain ⟨D,_,_,_,_,g5⟩:=re.xt.defers.1 d (by rw [hd];exact H0)
   exact g5.elim
 have hxt':Xt cx e' s'.sv ds w':=by
  refine ⟨⟨λd hd=>?_,hxt.defers.2⟩,λb o hk=>re.xt.kept b o (.inl hk),re.xt.saved,re.xt.size⟩;obtain ⟨D,g1,g2,g3,g4,g5⟩:=hxt.defers.1 d hd;obtain ⟨k1,k2,k3⟩:=re.xt.kept D (.deferred (some [])) (.inr ⟨d,hd,g1,rfl⟩);exact ⟨D,g1,k1,k2,k3,g5⟩
 have fin:(∃r,qH P s' fn.results.toList=some r/\Q (.ret r,s'.m,s'.nx,s'.sv))->LeavesInM (fr none) 0 P fn a'.tmps (λen w'=> ∃r m' nx' sv' e',Zd4 e' w' r en/\Q (r,m',nx',sv')/\GK e' w0'.heap.size w'/\Below w0'.heap.size w0' w'/\GH e' m' w'/\(∀k,e'.live k->k<nx')/\
   (∀b,T' b->b<w0'.heap.size/\ ¬e'.ro b)/\Xt cx e' sv' ds w') a'.defers .returning w':=by
  rintro ⟨r,FL,hq⟩;obtain ⟨u,hu,H5⟩:=F0 (P:=P) re.mem re.slots FL;rw [Qw5];exact ⟨u,hu,.ret r,s'.m,s'.nx,s'.sv,e',⟨u,rfl,H5⟩,hq,re.env,re.below,re.mem,re.live,re.foe,hxt'⟩
 cases x with
 |pan v=>
  show LeavesInM (fr none) 0 P fn a'.tmps _ a'.defers (.panicking [{v:=v,recovered:=false}]) w';rw [Qw5];exact ⟨.pan v,s'.m,s'.nx,s'.sv,e',rfl,hq,re.env,re.below,re.mem,re.live,re.foe,hxt'⟩
 |x x=>
 cases x with
 |normal=>exact fin hq
 |ret=>exact fin hq
 |exit i=>exact hq.elim
def Wz2(N:List (Pl×Nat×TypeId×Nat))(nxt:St)(out:PEx->Option St)(p:PEx×St):U6 PEx:=match p.1 with
 | .x .normal=> .needT (qG (RS N p.2) nxt) (.leaf (.x .normal))
 | .x (.exit id)=>match out (.x (.exit id)) with
  |some E=> .needT (qG (RS N p.2) E) (.leaf (.x (.exit id)))
  |none=> .fail
 | .x .ret=>match out (.x .ret) with
  |some E=> .needT (qG (RS N p.2) E) (.leaf (.x .ret))
  |none=> .fail
 | .pan v=>match out (.pan v) with
  |some E=> .needT (qG (RS N p.2) E) (.leaf (.pan v))
  |none=> .fail
theorem Wz1{N:List (Pl×Nat×TypeId×Nat)}{t:PT}{nxt:St}{out:PEx->Option St}{R:PEx->Prop}(h:(t.bind (Wz2 N nxt out)).sat R):
  t.sat (λp=>match p.1 with
   | .x .normal=>R (.x .normal)/\UU (qG (RS N p.2) nxt)
   |y=> ∃E,out y=some E/\R y/\UU (qG (RS N p.2) E)):=by
 refine U6.sat_mono ?_ (U6.sat_bind h);rintro ⟨y,s'⟩ A;cases y with
 |pan v=>
  dsimp only [Wz2] at A ⊢
  split at A;rename_i E hE;exact ⟨E,hE,(U6.sat_needT A).2,(U6.sat_needT A).1⟩;exact A.elim
 |x y=>
 cases y with
 |normal=>exact ⟨(U6.sat_needT A).2,(U6.sat_needT A).1⟩
 |exit id=>
  dsimp only [Wz2] at A ⊢
  split at A;rename_i E hE;exact ⟨E,hE,(U6.sat_needT A).2,(U6.sat_needT A).1⟩;exact A.elim
 |ret=>
  dsimp only [Wz2] at A ⊢
  split at A;rename_i E hE;exact ⟨E,hE,(U6.sat_needT A).2,(U6.sat_needT A).1⟩;exact A.elim
def Zm1(E:St)(t:PT):BH:=λs=>some (.needT (qG s E) t)
def bF(l:List (Pl×Nat×TypeId×Nat))(sp:BH):BH:=λs=>sp (RS l s)
def Zm9(P:Program)(G:List (Nat×Spec))(X:Ext)(PX:List (Nat×FO))(L:List BH)(N:List (Pl×Nat×TypeId×Nat))(body:Code)(s nxt:St)(out:PEx->Option St):U6 PEx:=(PY P G X PX L body 0 s).bind (Wz2 N nxt out)
theorem bK{P:Program}{G:List (Nat×Spec)}{X:Ext}{PX:List (Nat×FO)}{L:List BH}(N:List (Pl×Nat×TypeId×Nat))(hG:U4 P G)(hX: ∀cx,UG P X cx)(hP:GG P PX)(HE:P.follows .mixedOrders=true){body:Code}(hL: ∀j cj,UC body j=some cj-> ∀sp,L[j]? =some sp-> ∀ro cx,PN P ro cx cj sp)
  {V:Type}(inv:V->St)(I:V->Prop)(μ:V->Nat)(out:V->PEx->Option St){t:PT}{x0:V}(h0:I x0)
  (hok: ∀x,okB (inv x)=true)(wR: ∀x y E,out x y=some E->okB E=true)
  (round: ∀(Q:PEx×St->Prop),t.sat Q-> ∀x,I x-> ∃x',(Zm9 P G X PX L N body (inv x) (inv x') (out x)).sat (λy=>match y with
   | .x .normal=>I x'/\μ x'<μ x
   |y=> ∀E,out x y=some E->Q (y,E))): ∀ro cx,PN P ro cx (.loop body) (bF N (Zm1 (inv x0) t)):=by
 intro ro cx n s t' ht Q R0 a w r;simp only [bF,Zm1,D0] at ht;subst ht
 replace R0:=U6.sat_needT R0
 have hQ:=R0.2;have r:=RP (GY R0.1) (hok x0) (F7 r);refine bL μ (λx a w=>I x/\Rel cx (inv x) a w) ?_ ⟨h0,r⟩;rintro x a w ⟨hx,hr⟩;obtain ⟨x',jR⟩:=round Q hQ x hx;refine wpIn_mono (AQ hG (hX cx) hP HE body 0 (inv x) _ a w (λj cj hj sp hsp=>hL j cj hj sp (by simpa using hsp) ro cx) (Wz1 jR) hr) ?_
 rintro ex a₁ w₁ ⟨y,s',rfl,hq,hr'⟩;cases y with
 |pan v=>
  obtain ⟨E,hE,h1,h3⟩:=hq;exact ⟨.pan v,E,rfl,h1 E hE,RP (GY h3) (wR x _ E hE) (F7 hr')⟩
 |x y=>
 cases y with
 |normal=>
  obtain ⟨⟨h1,h2⟩,h3⟩:=hq;exact ⟨x',h2,h1,RP (GY h3) (hok x') (F7 hr')⟩
 |exit id=>
  obtain ⟨E,hE,h1,h3⟩:=hq;exact ⟨.x (.exit id),E,rfl,h1 E hE,RP (GY h3) (wR x _ E hE) (F7 hr')⟩
 |ret=>
  obtain ⟨E,hE,h1,h3⟩:=hq;exact ⟨.x .ret,E,rfl,h1 E hE,RP (GY h3) (wR x _ E hE) (F7 hr')⟩
theorem Step.app{e:G8}{id:Nat}(u:Value)(w:World)(hid: ¬e.live id):Step e (e.app id u) w w:=
 ⟨λb _ h=>⟨h,rfl⟩,λk hk=>⟨.inr hk,rfl,by
  have:k≠id:=λh=>hid (h▸hk);simp [G8.app,this]⟩,Am _⟩
def Ww6(sp:qN):DK:=λavs m nx sv=>match sp (avs.map (F3 m 40)) with
 |some (ns,T,sz,n,g)=>some (.needT ns (.leaf (.row nx,(nx,.row T sz n g)::m,nx+1,sv)))
 |none=>none
theorem E8{P:Program}{f:FuncId}{sp:qN}(h:Enters P f/\ ∀avs ns T sz n g,sp avs=some (ns,T,sz,n,g)->(∀q∈ns,q)->FC P f avs T sz n g):GT P f (Ww6 sp):=by
 refine ⟨h.1,?_⟩;intro avs m nx sv t ht Q hQ c w0 T e ds args w hE hB hm hl L8 hxt hr;unfold Ww6 at ht;split at ht;rename_i ns T' sz n g hsp;cases ht;obtain ⟨hns,hq⟩:=U6.sat_needT hQ;have dP:=UM.map (F3 m 40) (LZ hE hm 40) hr;have RG:=h.2 _ _ _ _ _ _ hsp (GY hns) e.view w _ (by
  rintro b (hb|⟨k,hb⟩);exact (hE.apart b hb).2;exact (hE.owned b k hb).2) (hE.glob.step (Step.view w)) (FG (LC hm 40) hr) dP
 refine RG.mono ?_;rintro en w' ⟨v,xs,rfl,hb,k1,k2,k3,k4⟩;obtain ⟨e',q1,q2,q3,q4,q5,q6,q7,q8⟩:=MX hE hB.size hm (λhlv=>Bf _ (hl _ hlv)) hb k1 k2 k3 k4;refine ⟨v,_,_,_,_,e',rfl,hq,q3,hB.trans (hb.mono hB.size),q6,λk hk=>?_,λb hT=>⟨(L8 b hT).1,λhro=>?_⟩,hxt.step q2,q5⟩;rcases q7 k hk with hk|rfl;exact Nat.lt_succ_of_lt (hl k hk);exact Bk _;rcases q8 b hro with hro|hro;exact (L8 b hT).2 hro;have:=(L8 b hT).1;have:=hB.size;omega;cases ht
theorem U6.bind_sat{α β:Type}{f:α->U6 β}{Q:β->Prop}: ∀{t:U6 α},t.sat (λa=>(f a).sat Q)->(t.bind f).sat Q
 | .fail,h=>h.elim
 | .leaf a,h=>h
 | .need ps t,h=>⟨h.1,U6.bind_sat h.2⟩
 | .branch b t t',h=>⟨λhb=>U6.bind_sat (h.1 hb),λhb=>U6.bind_sat (h.2 hb)⟩
 | .may p t t',h=>⟨λhb=>U6.bind_sat (h.1 hb),U6.bind_sat h.2⟩
def Qk4(N:List (Pl×Nat×TypeId×Nat))(ET EF:St)(x:AV×HO×Nat×List (List AV)):U6 Bool:=match x.1 with
 | .lit true=> .needT (qG (RS N {σ:=[],m:=x.2.1,nx:=x.2.2.1,sv:=x.2.2.2}) ET) (.leaf true)
 | .lit false=> .needT (qG (RS N {σ:=[],m:=x.2.1,nx:=x.2.2.1,sv:=x.2.2.2}) EF) (.leaf false)
 |_=> .fail
def inlT(P:Program)(G:List (Nat×Spec))(X:Ext)(L:List G5)(fn:Func)(c:Code)(avs:List AV)(m:HO)(nx:Nat)(sv:List (List AV))(N:List (Pl×Nat×TypeId×Nat))(ET EF:St):U6 Bool:=
 (DR P G X L c 0 {D5 fn avs with m:=m,nx:=nx,sv:=sv}).bind λp=>match p.1 with
  | .exit _=> .fail
  |_=>match qH P p.2 fn.results.toList with
   |some r=>Qk4 N ET EF (r,p.2.m,p.2.nx,p.2.sv)
   |none=> .fail
theorem uC{P:Program}{fn:Func}{R:Ending->World->Prop}{M:Nat->Prop}{w0:World}{e:G8}{s:St}{tmps:Array Value}{n:Nat}{J:World->Prop}(hB: ∀D,M D->w0.heap.size<=D)
  (hJ: ∀w D,M D->w.heap[D]? =some (.deferred (some []))->J w->J (w.putObj D (.deferred none)))
  (fin: ∀w',GK e w0.heap.size w'->Below w0.heap.size w0 w'->GH e s.m w'->UM e w' s.σ tmps.toList->J w'-> ∃v,(results fn tmps).run P w'= .ok v w'/\R (.returned v) w'):
  ∀(ds:List Deferred) (w:World),NT M e w ds->GK e w0.heap.size w->Below w0.heap.size w0 w->GH e s.m w->UM e w s.σ tmps.toList->J w->LeavesInM (fr none) n P fn tmps R ds .returning w
 |[],w,_,hE,hb,hm,hs,hj=>fin w hE hb hm hs hj
 |d::ds,w,hd,hE,hb,hm,hs,hj=>by
  obtain ⟨D,h1,h2,h3,h4,h5⟩:=hd.1 d H0;refine ⟨UE,.inl ⟨D,_,by rw [h1],run_takeDeferred h4,?_⟩⟩
  have HQ:=(hE.apart D h2).1;have hsz:(w.putObj D (.deferred none)).heap.size=w.heap.size:=World.putObj_size;refine uC hB hJ fin ds _ ⟨λd' hd'=>?_,(List.nodup_cons.1 hd.2).2⟩ ⟨λb hb=>by rw [hsz];exact hE.apart b hb,λb k hk=>by rw [hsz];exact hE.owned b k hk,CI hE.glob h4 rfl⟩ ?_ (λp A=>(hm p A).putObj h4 (λ_ _ h=>by cases h) rfl rfl HQ) (hs.sameCells hsz (LW h4 rfl rfl) (PP h4 (λ_ _ h=>by cases h))) (hJ _ _ h5 h4 hj)
  obtain ⟨D',k1,k2,k3,k4,k5⟩:=hd.1 d' (DB _ hd');have hne:D'≠D:=by
   rintro rfl;exact (List.nodup_cons.1 hd.2).1 (by rw [h1,←k1];exact hd')
  exact ⟨D',k1,k2,by rw [hsz];exact k3,(Bu hne).trans k4,k5⟩
  exact hb.trans ((Below.refl w0.heap.size w).grown (grownBy_putObj' w D _) (by have:=hb.size;have:=hB D h5;omega) (λk he=>by cases he;exact hB D h5))
def Xi2(P:Program)(f:FuncId)(avs:List AV)(m:HO)(nx:Nat)(sv:List (List AV))(ET EF:St)(b:Bool):Prop:=
 ∀(c:Cx) (w0:World) (T:Nat->Prop) (e:G8) (args:List Value) (w:World),
 GK e w0.heap.size w->Below w0.heap.size w0 w->GH e m w->(∀k,e.live k->k<nx)->(∀b,T b->b<w0.heap.size/\ ¬e.ro b)->Xt c e sv [] w->c.sz=w.heap.size->UM e w avs args->
  Calls P f args.toArray w λen w'=>en= .returned (.bool b)/\ ∃e',GK e' w0.heap.size w'/\Below w0.heap.size w0 w'/\GH e' (cond b ET EF).m w'/\(∀k,e'.live k->k<(cond b ET EF).nx)/\
   (∀b,T b->b<w0.heap.size/\ ¬e'.ro b)/\Xt c e' (cond b ET EF).sv [] w'
theorem Qv5{P:Program}{G:List (Nat×Spec)}{X:Ext}{L:List G5}{f:FuncId}{fn:Func}{c:Code}(hG:U4 P G)(hX: ∀cx,UG P X cx)(HE:P.follows .mixedOrders=true)(hf:P.funcs[f]? =some fn)(hb:fn.body=some c)
  (hL: ∀j cj,UC c j=some cj-> ∀sp,L[j]? =some sp->D3 P cj sp){avs:List AV}{m:HO}{nx:Nat}{sv:List (List AV)}{N:List (Pl×Nat×TypeId×Nat)}{ET EF:St}{b:Bool}{t:U6 Bool}
  (hT:okB ET=true)(hF:okB EF=true)(gT:ET.gh=none)(gF:EF.gh=none)(ht:inlT P G X L fn c avs m nx sv N ET EF=t)(R0:t.sat λr=>r=b):Xi2 P f avs m nx sv ET EF b:=by
 subst ht;intro cx w0 T e args w hE hB hm hl L8 hxt hsz hr
 let cx':Cx:={M:=λD=>w.heap.size<=D,Φ:=λg T' w'=>g=none/\T'=T/\w'=w0,K:=cx.K,saved:=cx.saved,sz:=w.heap.size}
 have Zv1:cx'.fun:=λ_ _ _ D _ _ h=>h;have kK:Rel cx' {D5 fn avs with m:=m,nx:=nx,sv:=sv} {tmps:=args.toArray++Array.replicate (fn.ntmps-args.toArray.size) undef,defers:=[] } w:=by
  refine ⟨w0,T,e,⟨rfl,rfl,rfl⟩,hE,hB,hm,hl,L8,⟨⟨(λd hd=>by cases hd),By⟩,hxt.kept,hxt.saved,Am _⟩,?_⟩
  have rJ:UM e w (List.replicate (fn.ntmps-avs.length) .top) (List.replicate (fn.ntmps-avs.length) undef):=by
   refine ⟨UE,λi a v ha _=>?_⟩;have:=FN ha;rw [List.mem_replicate] at this;rw [this.2];exact .top v
  have:=hr.append rJ;simpa [D5,hr.1] using this
 have hb2:=U6.sat_bind R0;refine callsIn_wide (n:=0).1 (callsIn_of_wp_marks (F:=fr none) hf hb trivial (wpIn_mono (DN hG (hX cx') HE c 0 _ _ _ w (λj cj hj sp hsp=>hL j cj hj sp (by simpa using hsp) cx' Zv1) hb2 kK) ?_) rfl)
 rintro ex a' w' ⟨x,s',rfl,hs,w0',T',e',⟨hgh',rfl,rfl⟩,re⟩
 let J:World->Prop:=λw2=>w.heap.size<=w2.heap.size/\Xt {cx' with sz:=0} e' s'.sv [] w2
 have hJ: ∀w2 D,w.heap.size<=D->w2.heap[D]? =some (.deferred (some []))->J w2->J (w2.putObj D (.deferred none)):=by
  rintro w2 D hD h4 ⟨j0,j1,j2,j3,j4⟩;have gB:(w2.putObj D (.deferred none)).heap.size=w2.heap.size:=World.putObj_size;refine ⟨by rw [gB];exact j0,⟨⟨λd hd=>(by cases hd),By⟩,λb o hk=>?_,⟨j3.1,λi a v ha hv=>(j3.2 i a v ha hv).sameCells gB (LW h4 rfl rfl) (PP h4 (λ_ _ h=>by cases h))⟩,Ao _⟩⟩
  obtain ⟨k1,k2,k3⟩:=j2 b o hk;have hlt:=(hxt.kept b o hk).2.1;exact ⟨k1,by rw [gB];exact k2,(Bu U3).trans k3⟩
 have hJ0:J w':=⟨re.xt.size,⟨⟨λd hd=>(by cases hd),By⟩,re.xt.kept,re.xt.saved,Ao _⟩⟩
 have main:(match x with| .exit _=>False|_=> ∃r,qH P s' fn.results.toList=some r/\(Qk4 N ET EF (r,s'.m,s'.nx,s'.sv)).sat λr=>r=b):=by
  cases x with
  |exit i=>exact hs.elim
  |normal=>
   simp only at hs ⊢;split at hs;rename_i r hr';exact ⟨r,hr',hs⟩;exact hs.elim
  |ret=>
   simp only at hs ⊢;split at hs;rename_i r hr';exact ⟨r,hr',hs⟩;exact hs.elim
 have jS:(∃r,qH P s' fn.results.toList=some r/\(Qk4 N ET EF (r,s'.m,s'.nx,s'.sv)).sat λr=>r=b)->LeavesInM (fr none) 0 P fn a'.tmps (λen w'=>en= .returned (.bool b)/\ ∃e',GK e' w0'.heap.size w'/\Below w0'.heap.size w0' w'/\GH e' (cond b ET EF).m w'/\(∀k,e'.live k->k<(cond b ET EF).nx)/\
   (∀b,T' b->b<w0'.heap.size/\ ¬e'.ro b)/\Xt cx e' (cond b ET EF).sv [] w') a'.defers .returning w':=by
  rintro ⟨r,FL,hq⟩;refine uC (M:=cx'.M) (s:=s') (J:=J) (λD hD=>Ar hB.size hD) hJ (λw2 q1 q2 q3 q4 q5=>?_) a'.defers w' re.xt.defers re.env re.below re.mem re.slots hJ0;obtain ⟨u,hu,H5⟩:=F0 (P:=P) q3 q4 FL
  let c2:Cx:={M:=cx.M,Φ:=λg T'' w''=>g=none/\T''=T'/\w''=w0',K:=cx.K,saved:=cx.saved,sz:=cx.sz}
  have Jo4:Rel c2 {σ:=[],m:=s'.m,nx:=s'.nx,sv:=s'.sv} {tmps:=#[],defers:=[] } w2:=
   ⟨w0',T',e',⟨rfl,rfl,rfl⟩,q1,q2,q3,re.live,re.foe,⟨⟨λd hd=>(by cases hd),By⟩,q5.2.kept,q5.2.saved,by show cx.sz<=_;rw [hsz];exact q5.1⟩,UM.nil _ _⟩
  have hn:=F7 (l:=N) Jo4;have fin: ∀E:St,Rel c2 E {tmps:=#[],defers:=[] } w2-> ∃e',GK e' w0'.heap.size w2/\Below w0'.heap.size w0' w2/\GH e' E.m w2/\(∀k,e'.live k->k<E.nx)/\(∀b,T' b->b<w0'.heap.size/\ ¬e'.ro b)/\Xt cx e' E.sv [] w2:=by
   rintro E ⟨w0'',T'',e2,⟨_,rfl,rfl⟩,r⟩;exact ⟨e2,r.env,r.below,r.mem,r.live,r.foe,⟨r.xt.defers,r.xt.kept,r.xt.saved,r.xt.size⟩⟩
  refine ⟨u,hu,?_⟩;unfold Qk4 at hq;split at hq;rename_i h1;simp only at h1;subst h1;obtain ⟨q1,q2⟩:=U6.sat_needT hq;have q2:true=b:=q2;subst q2;exact ⟨by rw [H5.lit_inv],fin ET (RP (GY q1) hT hn)⟩
  rename_i h1;simp only at h1;subst h1;obtain ⟨q1,q2⟩:=U6.sat_needT hq;have q2:false=b:=q2;subst q2;exact ⟨by rw [H5.lit_inv],fin EF (RP (GY q1) hF hn)⟩
  exact hq.elim
 cases x with
 |normal=>exact jS main
 |ret=>exact jS main
 |exit i=>exact main.elim
def Za9(N:List (Pl×Nat×TypeId×Nat))(h:DK):DK:=λavs m nx sv=>
 h (RS N {σ:=avs,m:=m,nx:=nx,sv:=sv}).σ (RS N {σ:=avs,m:=m,nx:=nx,sv:=sv}).m (RS N {σ:=avs,m:=m,nx:=nx,sv:=sv}).nx (RS N {σ:=avs,m:=m,nx:=nx,sv:=sv}).sv
theorem lI{P:Program}{f:FuncId}{N:List (Pl×Nat×TypeId×Nat)}{h:DK}(hs:GT P f h):GT P f (Za9 N h):=by
 refine ⟨hs.1,?_⟩;intro avs m nx sv t ht Q hQ c w0 T e ds args w hE hB hm hl L8 hxt hr
 let c':Cx:={M:=c.M,Φ:=λg T' w'=>g=none/\T'=T/\w'=w0,K:=c.K,saved:=c.saved,sz:=c.sz}
 have kK:Rel c' {σ:=avs,m:=m,nx:=nx,sv:=sv} {tmps:=args.toArray,defers:=ds} w:=
  ⟨w0,T,e,⟨rfl,rfl,rfl⟩,hE,hB,hm,hl,L8,⟨hxt.defers,hxt.kept,hxt.saved,hxt.size⟩,by simpa using hr⟩
 obtain ⟨w0',T',e2,⟨_,rfl,rfl⟩,r⟩:=F7 (l:=N) kK;exact hs.2 _ _ _ _ _ ht Q hQ c w0' T' e2 ds args w r.env r.below r.mem r.live r.foe ⟨r.xt.defers,r.xt.kept,r.xt.saved,r.xt.size⟩ (by simpa using r.slots)
def Zr4(D:TypeId):Value->Option Int
 | .iface T v=>match Nat.beq T D with
  |true=>match v with
   | .agg a=>match a.toList with
    |[.int .i64 k]=>some k
    |_=>none
   |_=>none
  |false=>none
 |_=>none
theorem Qt7{D:TypeId}{v:Value}{k:Int}(h:Zr4 D v=some k):v= .iface D (.agg #[.int .i64 k]):=by
 unfold Zr4 at h;split at h;split at h;rename_i hb;cases HK hb;split at h;rename_i a;split at h;rename_i k0 ha;cases h;have:a=#[Value.int .i64 k]:=Array.toList_inj.1 ha;rw [this];cases h;cases h;cases h;cases h
def Xs5(D:TypeId)(r:Bool×Int):Ending:=match r.1 with
 |true=> .returned (.tuple #[])
 |false=> .panicked [{v:= .iface D (.agg #[.int .i64 r.2]),recovered:=false}]
def rG(a b:AV):Prop:=match a,b with
 | .lst sz n f,.lst sz' n' f'=>sz=sz'/\n=n'/\ ∀i,i<n'->wV (f i) (f' i)/\ ∀x∈f' i,Idf x
 |a,b=>FR a b
def HW:List AV->List AV->Prop
 |[],[]=>True
 |a::l,b::m=>rG a b/\HW l m
 |_,_=>False
theorem lO{e:G8}{w:World}{a b:AV}{v:Value}(h:rG a b)(r:Rep e w a v):Rep e w b v:=by
 unfold rG at h;split at h;rename_i sz n f sz' n' f';obtain ⟨rfl,rfl,h⟩:=h;cases r with
 |lstNil=>exact .lstNil _ _
 |lst _ _ _ b o cap g h1 h2 h3 h4 h5 h6 h7 h8 ad had=>
  have key: ∀i,i<n->UM e w (f' i) ((List.range sz).map (g i)):=by
   intro i O;refine yY (h i O).1 ⟨by rw [h7 i O];simp,λj a v ha hv=>?_⟩
   have hj:j<sz:=by
    have:=(RO.1 ha).1
    rwa [h7 i O] at this
   rw [Bn,List.getElem?_range hj] at hv;simp only [Bt,D0] at hv;rw [←hv];exact h8 i j a O ha
  refine .lst sz n f' b o cap g h1 h2 (λi O=>(h i O).2) h4 h5 h6 (λi O=>by have:=(key i O).1;simpa using this) (λi j a O ha=>?_) ad had
  have hj:j<sz:=by
   have h9:=(key i O).1;have:=(RO.1 ha).1;simp at h9;omega
  exact (key i O).2 j a (g i j) ha (by rw [Bn,List.getElem?_range hj];rfl)
 exact FY h r
theorem rF{e:G8}{w:World}: ∀{l m:List AV} {vs:List Value},HW l m->UM e w l vs->UM e w m vs
 |[],[],_,_,r=>r
 |a::l,b::m,vs,h,r=>by
  obtain ⟨v,vs',rfl,r1,r2⟩:=r.cons_inv;exact .cons (lO h.1 r1) (rF h.2 r2)
 |[],_::_,_,h,_=>h.elim
 |_::_,[],_,h,_=>h.elim
def Qy2(m:HO):HO->List Prop
 |[]=>[]
 |(id,r)::t=>match r with
  | .cells T l=>match DY m id with
   |some (.cells T' l')=>match Nat.beq T' T with
    |true=>HW l' l::Qy2 m t
    |false=>[False]
   |_=>[False]
  | .row T sz n f=>match DY m id with
   |some (.row T' sz' n' f')=>((T',sz',n',f')=(T,sz,n,f))::Qy2 m t
   |_=>[False]
  |_=>[False]
theorem cC{e:G8}{w:World}{m:HO}(hm:GH e m w): ∀{m':HO},(∀p∈Qy2 m m',p)->GH e m' w
 |[],_,p,A=>by cases A
 |(id,r)::t,h,p,A=>by
  unfold Qy2 at h;split at h;rename_i T l;split at h;rename_i T' l' hg;split at h;rename_i hT;rcases HA.1 A with rfl|A;have h1:T'=T:=HK hT;have h2:HW l' l:=h _ H0;subst h1;obtain ⟨g1,g2,vs,g3,g4⟩:=hm _ (GI hg);exact ⟨g1,g2,vs,g3,rF h2 g4⟩;exact cC hm (m':=t) (λq hq=>h q (DB _ hq)) p A;exact (h False H0).elim;exact (h False H0).elim;rename_i T sz n f;split at h;rename_i T' sz' n' f' hg;rcases HA.1 A with rfl|A;have h2:(T',sz',n',f')=(T,sz,n,f):=h _ H0;cases h2;exact hm _ (GI hg);exact cC hm (m':=t) (λq hq=>h q (DB _ hq)) p A;exact (h False H0).elim;exact (h False H0).elim
def Wy6(s E:St):List Prop:=match Nat.ble s.nx E.nx with
 |true=>(s.sv=E.sv)::Qy2 s.m E.m
 |false=>[False]
theorem Xr8{s E:St}(h: ∀p∈Wy6 s E,p):s.nx<=E.nx/\s.sv=E.sv/\ ∀p∈Qy2 s.m E.m,p:=by
 unfold Wy6 at h;split at h;rename_i hb;exact ⟨wP hb,h _ H0,λp A=>h p (DB _ A)⟩;exact (h False H0).elim
def Qk5(D:TypeId)(N:List (Pl×Nat×TypeId×Nat))(ET EF:St)(x:Xg5×HO×Nat×List (List AV)):U6 (Bool×Int):=match x.1 with
 | .ret (.tup [])=> .needT (Wy6 (RS N {σ:=[],m:=x.2.1,nx:=x.2.2.1,sv:=x.2.2.2}) ET) (.leaf (true,0))
 | .pan v=>match Zr4 D v with
  |some k=> .needT (Wy6 {σ:=[],m:=x.2.1,nx:=x.2.2.1,sv:=x.2.2.2} EF) (.leaf (false,k))
  |none=> .fail
 |_=> .fail
def Jn4(P:Program)(G:List (Nat×Spec))(X:Ext)(PX:List (Nat×FO))(L:List BH)(fn:Func)(c:Code)(avs:List AV)(m:HO)(nx:Nat)(sv:List (List AV))(D:TypeId)(N:List (Pl×Nat×TypeId×Nat))(ET EF:St):U6 (Bool×Int):=
 (PY P G X PX L c 0 {D5 fn avs with m:=m,nx:=nx,sv:=sv}).bind λp=>match p.1 with
  | .pan v=>Qk5 D N ET EF (.pan v,p.2.m,p.2.nx,p.2.sv)
  | .x (.exit _)=> .fail
  |_=>match qH P p.2 fn.results.toList with
   |some r=>Qk5 D N ET EF (.ret r,p.2.m,p.2.nx,p.2.sv)
   |none=> .fail
def xK(P:Program)(f:FuncId)(avs:List AV)(m:HO)(nx:Nat)(sv:List (List AV))(D:TypeId)(ET EF:St)(res:Bool×Int):Prop:=
 ∀(c:Cx) (w0:World) (T:Nat->Prop) (e:G8) (ds:List Deferred) (args:List Value) (w:World),
 GK e w0.heap.size w->Below w0.heap.size w0 w->GH e m w->(∀k,e.live k->k<nx)->(∀b,T b->b<w0.heap.size/\ ¬e.ro b)->Xt c e sv ds w->UM e w avs args->
  Calls P f args.toArray w λen w'=>en=Xs5 D res/\ ∃e',GK e' w0.heap.size w'/\Below w0.heap.size w0 w'/\GH e' (cond res.1 ET EF).m w'/\(∀k,e'.live k->k<(cond res.1 ET EF).nx)/\
   (∀b,T b->b<w0.heap.size/\ ¬e'.ro b)/\Xt c e' (cond res.1 ET EF).sv ds w'
theorem Zr5{P:Program}{f:FuncId}{h:FO}(hs:DW P f h){avs:List AV}{m:HO}{nx:Nat}{sv:List (List AV)}{t:U6 (Xg5×HO×Nat×List (List AV))}{D:TypeId}{N:List (Pl×Nat×TypeId×Nat)}{ET EF:St}{res:Bool×Int}(ht:h avs m nx sv=some t)
  (R0:t.sat λx=>(Qk5 D N ET EF x).sat λr=>r=res):xK P f avs m nx sv D ET EF res:=by
 intro c w0 T e ds args w hE hB hm hl L8 hxt hr;refine (hs.2 _ _ _ _ _ ht _ R0 c w0 T e ds args w hE hB hm hl L8 hxt hr).mono ?_;rintro en w' ⟨r,m',nx',sv',e',hpe,hq,g1,g2,g3,g4,g5,g6⟩
 let c':Cx:={M:=c.M,Φ:=λg T' w'=>g=none/\T'=T/\w'=w0,K:=c.K,saved:=c.saved,sz:=c.sz}
 have kK:Rel c' {σ:=[],m:=m',nx:=nx',sv:=sv'} {tmps:=#[],defers:=ds} w':=
  ⟨w0,T,e',⟨rfl,rfl,rfl⟩,g1,g2,g3,g4,g5,⟨g6.defers,g6.kept,g6.saved,g6.size⟩,UM.nil _ _⟩
 have fin: ∀S E:St,Rel c' S {tmps:=#[],defers:=ds} w'->(∀p∈Wy6 S E,p)-> ∃e',GK e' w0.heap.size w'/\Below w0.heap.size w0 w'/\GH e' E.m w'/\(∀k,e'.live k->k<E.nx)/\(∀b,T b->b<w0.heap.size/\ ¬e'.ro b)/\Xt c e' E.sv ds w':=by
  rintro S E ⟨w0',T',e2,⟨_,rfl,rfl⟩,r⟩ hf;obtain ⟨h1,h2,h3⟩:=Xr8 hf;refine ⟨e2,r.env,r.below,cC r.mem h3,λk hk=>qY (r.live k hk) h1,r.foe,⟨r.xt.defers,r.xt.kept,?_,r.xt.size⟩⟩;rw [←h2];exact r.xt.saved
 unfold Qk5 at hq;split at hq;rename_i h1;simp only at h1;subst h1;obtain ⟨v,rfl,rv⟩:=hpe;obtain ⟨q1,q2⟩:=U6.sat_needT hq;have q2:(true,0)=res:=q2;subst q2;obtain ⟨us,rfl,hus⟩:=rv.tup_inv;obtain rfl:=hus.nil_inv;exact ⟨rfl,fin _ ET (F7 (l:=N) kK) (GY q1)⟩;rename_i v h1;simp only at h1;subst h1;split at hq;rename_i k hk;obtain ⟨q1,q2⟩:=U6.sat_needT hq;have q2:(false,k)=res:=q2;subst q2;have hpe:en= .panicked [{v:=v,recovered:=false}]:=hpe;rw [hpe,Qt7 hk];exact ⟨rfl,fin _ EF kK (GY q1)⟩;exact hq.elim;exact hq.elim
theorem P8{P:Program}{G:List (Nat×Spec)}{X:Ext}{PX:List (Nat×FO)}{L:List BH}{f:FuncId}{fn:Func}{c:Code}(hG:U4 P G)(hX: ∀cx,UG P X cx)(hP:GG P PX)(HE:P.follows .mixedOrders=true)(PQ:Enters P f)(hf:P.funcs[f]? =some fn)(hb:fn.body=some c)
  (hL: ∀j cj,UC c j=some cj-> ∀sp,L[j]? =some sp-> ∀ro cx,PN P ro cx cj sp){avs:List AV}{m:HO}{nx:Nat}{sv:List (List AV)}{D:TypeId}{N:List (Pl×Nat×TypeId×Nat)}{ET EF:St}{res:Bool×Int}{t:U6 (Bool×Int)}
  (ht:Jn4 P G X PX L fn c avs m nx sv D N ET EF=t)(R0:t.sat λr=>r=res):xK P f avs m nx sv D ET EF res:=by
 subst ht;refine Zr5 (RM hG hX hP HE PQ hf hb hL) (h:=C5 P G X PX L fn c) (N:=N) rfl (U6.bind_sat (U6.sat_mono ?_ (U6.sat_bind R0)));rintro ⟨x,s⟩ h;cases x with
 |pan v=>exact h
 |x y=>
  cases y with
  |exit i=>exact h.elim
  |normal=>
   simp only at h ⊢;split at h;rename_i r hr;first|exact h|(rw [hr];exact h)|(simp only [hr];exact h)
   exact h.elim
  |ret=>
   simp only at h ⊢;split at h;rename_i r hr;first|exact h|(rw [hr];exact h)|(simp only [hr];exact h)
   exact h.elim
def Ws5(P:Program)(ev:Code->Nat->St->CT)(fn:Func)(c:Code):DK:=λavs m nx sv=>
 some ((ev c 0 {D5 fn avs with m:=m,nx:=nx,sv:=sv}).bind λp=>match p.1 with
  | .exit _=> .fail
  |_=>match qH P p.2 fn.results.toList with
   |some r=> .leaf (r,p.2.m,p.2.nx,p.2.sv)
   |none=> .fail)
theorem tN{P:Program}{ev:Code->Nat->St->CT}{L:List G5}{f:FuncId}{fn:Func}{c:Code}(hev: ∀cx,Qf0 P cx L ev)(PQ:Enters P f)(hf:P.funcs[f]? =some fn)(hb:fn.body=some c)
  (hL: ∀j cj,UC c j=some cj-> ∀sp,L[j]? =some sp->GU P cj sp):GT P f (Ws5 P ev fn c):=by
 refine ⟨PQ,?_⟩;intro avs m nx sv t ht Q hQ cx w0 T e ds args w hE hB hm hl L8 hxt hr;unfold Ws5 at ht;cases ht
 let K':Nat->Obj->Prop:=λb o=>cx.K b o\/(∃d∈ds,d={target:= .collected b,args:=#[] }/\o= .deferred (some []))
 let cx':Cx:={M:=λ_=>False,Φ:=λg T' w'=>g=none/\T'=T/\w'=w0,K:=K',saved:=cx.saved,sz:=cx.sz}
 have R0:(ev c 0 {D5 fn avs with m:=m,nx:=nx,sv:=sv}).sat (λp=>(∀i,p.1≠ .exit i)/\p.2.gh=p.2.gh/\ ∃r,qH P p.2 fn.results.toList=some r/\Q (r,p.2.m,p.2.nx,p.2.sv)):=by
  refine U6.sat_mono ?_ (U6.sat_bind hQ);rintro ⟨x,s⟩ hs;cases x with
  |exit i=>exact hs.elim
  |normal=>
   simp only at hs;split at hs;rename_i r hr;exact ⟨λi h=>(by cases h),rfl,r,hr,hs⟩
   exact hs.elim
  |ret=>
   simp only at hs;split at hs;rename_i r hr;exact ⟨λi h=>(by cases h),rfl,r,hr,hs⟩
   exact hs.elim
 have kK:Rel cx' {D5 fn avs with m:=m,nx:=nx,sv:=sv} {tmps:=args.toArray++Array.replicate (fn.ntmps-args.toArray.size) undef,defers:=[] } w:=by
  refine ⟨w0,T,e,⟨rfl,rfl,rfl⟩,hE,hB,hm,hl,L8,⟨⟨(λd hd=>by cases hd),By⟩,?_,hxt.saved,hxt.size⟩,?_⟩
  rintro b o (hk|⟨d,hd,h1,rfl⟩);exact hxt.kept b o hk;obtain ⟨D,g1,g2,g3,g4,g5⟩:=hxt.defers.1 d hd;rw [h1] at g1;injection g1 with g1 _
  injection g1 with g1
  subst g1;exact ⟨g2,g3,g4⟩;have rJ:UM e w (List.replicate (fn.ntmps-avs.length) .top) (List.replicate (fn.ntmps-avs.length) undef):=by
   refine ⟨UE,λi a v ha _=>?_⟩;have:=FN ha;rw [List.mem_replicate] at this;rw [this.2];exact .top v
  have:=hr.append rJ;simpa [D5,hr.1] using this
 refine callsIn_wide (n:=0).1 (callsIn_of_wp_marks (F:=fr none) hf hb trivial (wpIn_mono (hev cx' none 0 c 0 _ _ _ w (λj cj hj sp hsp=>hL j cj hj sp (by simpa using hsp) none cx') R0 kK) ?_) rfl)
 rintro ex a' w' ⟨x,s',rfl,⟨hx,_,r,FL,hq⟩,w0',T',e',⟨_,rfl,rfl⟩,re⟩;have Qw5:a'.defers=[]:=by
  cases hd:a'.defers with
  |nil=>rfl
  |cons d l=>
   obtain ⟨D,_,_,_,_,g5⟩:=re.xt.defers.1 d (by rw [hd];exact H0)
   exact g5.elim
 obtain ⟨u,hu,H5⟩:=F0 (P:=P) re.mem re.slots FL;have jS:LeavesInM (fr none) 0 P fn a'.tmps (λen w'=> ∃v r m' nx' sv' e',en= .returned v/\Q (r,m',nx',sv')/\GK e' w0'.heap.size w'/\Below w0'.heap.size w0' w'/\GH e' m' w'/\(∀k,e'.live k->k<nx')/\
   (∀b,T' b->b<w0'.heap.size/\ ¬e'.ro b)/\Xt cx e' sv' ds w'/\Rep e' w' r v) a'.defers .returning w':=by
  rw [Qw5];refine ⟨u,hu,u,r,s'.m,s'.nx,s'.sv,e',rfl,hq,re.env,re.below,re.mem,re.live,re.foe,⟨⟨λd hd=>?_,hxt.defers.2⟩,λb o hk=>re.xt.kept b o (.inl hk),re.xt.saved,re.xt.size⟩,H5⟩;obtain ⟨D,g1,g2,g3,g4,g5⟩:=hxt.defers.1 d hd;obtain ⟨k1,k2,k3⟩:=re.xt.kept D (.deferred (some [])) (.inr ⟨d,hd,g1,rfl⟩);exact ⟨D,g1,k1,k2,k3,g5⟩
 cases x with
 |normal=>exact jS
 |ret=>exact jS
 |exit i=>exact (hx i rfl).elim
def cOf(h:DK)(avs:List AV):U6 AV:=match h avs [] 0 [] with
 |some t=>t.bind λx=> .leaf (F3 x.2.1 40 x.1)
 |none=> .fail
theorem aD{P:Program}{f:FuncId}{h:DK}(hs:GT P f h){avs:List AV}{sp t:U6 AV}(ht:cOf h avs=t)(jS: ∀Q:AV->Prop,sp.sat Q->t.sat (λr=> ∃r',rG r r'/\Q r')):G6 P f avs sp:=by
 intro Q hQ e w args hro hgl RL hr
 let T:Nat->Prop:=λb=>b<w.heap.size/\ ¬e.ro b
 let e0:G8:={ro:=e.ro,own:=λ_=>none,live:=λ_=>False,blk:=λ_=>0,val:=λ_=> .nilIface}
 have hr0:UM e0 w avs args:=⟨hr.1,λi a v ha hv=>Rep.idf (e:=e) (e':=e0) (λ_ h=>h) (hr.2 i a v ha hv) (RL a (FN ha))⟩;have R0:=jS Q hQ;subst ht;unfold cOf at R0;split at R0;rename_i t0 hh;refine (hs.2 avs [] 0 [] t0 hh _ (U6.sat_bind R0) (nE w T) w T e0 [] args w ⟨λb hb=>⟨rfl,hro b hb⟩,(λb k hk=>by cases hk),hgl⟩ (Below.refl _ _) (λp A=>by cases A) (λk hk=>False.elim hk) (λb h=>h) ⟨⟨(λd hd=>by cases hd),By⟩,(λb o h=>h.elim),⟨rfl,(λi a v h=>by cases h)⟩,Ao _⟩ hr0).mono ?_
 rintro en w' ⟨v,r,m',nx',sv',e',rfl,⟨r',yF,hq⟩,g1,g2,g3,g4,g5,g6,g7⟩;refine ⟨v,r',rfl,hq,g2,?_⟩;refine lO yF (Rep.idf (e:=e'.view) ?_ (LZ g1 g3 40 r v g7) (LC g3 40 r v g7));rintro b (hb|⟨k,hb⟩);rcases An b w.heap.size with h1|h1;refine .inl ?_;rcases Classical.em (e.ro b) with h2|h2;exact h2;exact ((g5 b ⟨h1,h2⟩).2 hb).elim;exact .inr ⟨h1,(g1.apart b hb).2⟩;exact .inr ⟨(g1.owned b k hb).1,(g1.owned b k hb).2⟩;exact R0.elim
abbrev upE(l:List (Nat×AV))(m:HO)(E:St):St:={σ:=HI l E.σ,m:=m,nx:=E.nx}
abbrev upM(l:List (Nat×AV))(E:St):St:={σ:=HI l E.σ,m:=E.m,nx:=E.nx}
section
variable {P:Program}{f:FuncId}{fn:Func}
theorem UZ(h:P.funcs[f]? =some fn)(h1:(fn.name== "runtime.NumGoroutine")=false:=by kernel_rfl)(h2:fn.body.isNone=false:=by kernel_rfl):Enters P f:=⟨fn,h,h1,h2⟩
abbrev GM:=Spec
theorem HL{avs:List AV}{res:AV}{t:U6 RV}(hf:P.funcs[f]? =some fn)(ht:Qa7 P fn.results.toList (nI P [] [] (UP fn) 0 (D5 fn avs))=t)(h:t.sat (λr=>GS r res))(hb:fn.body=some (UP fn):=by kernel_rfl)(HE:P.follows .mixedOrders=true:=by kernel_rfl):UH P f avs res:=UL (U4.nil _) HE hf hb UN ht h
end
abbrev HH{α:Type}(n:Nat)(f g:Nat->α):Prop:= ∀i,i<n->f i=g i
abbrev HB{α:Type}(n:Nat)(f:Nat->α):Prop:= ∀i,i<n->f i=f i
def eM(n:Nat):List Int:=List.replicate n 0
abbrev L0(n:Nat)(f:Ci):Prop:= ∀i,i<n-> ∀a,a∈f i->AV.one a=true
@[simp] abbrev G7 (a b:Int):Prop:=0<=a/\a<b
theorem GF(f:Func)(h:f.body=some (UP f):=by kernel_rfl):f.body=some (UP f):=h
theorem F4{α:Type}{T t:U6 α}{Q:α->Prop}(e:T=t)(h:t.sat Q):T.sat Q:=e▸h
section
variable {p:Prop}
theorem vV(h:p:=by
 with_reducible repeat' first|apply Al|intro _
 all_goals first|exact Ak|exact h0|exact UB|omega|exact hQ1 _ (by assumption) (Ww2 U3 (by simp_all))|(rename_i k hk;rcases (show k=0\/k=1\/k=2 by omega) with rfl|rfl|rfl<;>rfl)|rfl|with_reducible rfl|exact hQ2 _ (by assumption) (B0 U3)|(rename_i h;exact absurd h (Aq _))|exact hQ1 _ (by assumption)|(exfalso;omega)|exact dV (by simp_all) _ (by assumption)|exact BI (dV (by simp_all) _ (by assumption))|contradiction|assumption|exact hQ2 _ (by assumption)|(simp;done)|decide|exact BI (dV (decide_eq_true U3) _ (by assumption))):p:=h
theorem B4(h:p:=by first|exact Ak|omega|with_reducible rfl|(rename_i E hE;cases hE;exact hQ)|rfl):p:=h
theorem VG(h:p:=by
 simp only [U6.sat,UU,GS,H6,UX,G4,FA];all_goals exact vV):p:=h
theorem VI(h:p:=by
 rw [if_pos hc];obtain ⟨rfl,rfl⟩:=hc;by_cases h1:x=o;subst h1;by_cases h2:y=x;subst h2;refine ⟨U3,U3,λ_=>U3,λ_=>U3,λ_ _=>U3,λ_=>U3⟩;refine ⟨U3,U3,λ_=>by have:=hoo.2.2.2.2.1 rfl rfl;omega,λh=>absurd h h2,λ_ h=>absurd h h2,λ_=>U3⟩
 by_cases h2:y=o;subst h2;refine ⟨U3,U3,λh=>absurd h h1,λ_=>by have:=hoo.2.2.2.2.1 rfl rfl;omega,λh=>absurd h h1,λ_=>U3⟩
 have q1:=hfo.2.2.2.1 rfl;have q2:=hot.2.2.1 rfl;refine ⟨U3,U3,λh=>absurd h h1,λh=>absurd h h2,λh=>absurd h h1,λ_=>U3⟩):p:=h
theorem VM(h:p:=by exact vV):p:=h
theorem VQ(h:p:=by
 exact .lst _ _ _ λj hj x hx=>by
  simp only [HA,F8,or_false] at hx;rcases hx with rfl|rfl<;>exact .x _):p:=h
theorem VR(h:p:=by
 (with_reducible repeat' first|apply Al|intro _)
 all_goals first|exact B4|(assumption)):p:=h
theorem VT(h:p:=by
 simp only [U6.sat,UU,GS,UX,G4,HU];simp+contextual):p:=h
theorem VU(h:p:=by
 simp only [U6.sat,UU,GS,H6,UX,U5,G4];omega):p:=h
theorem VV(h:p:=by
 intro a ha;simp only [HA,F8,or_false] at ha;rcases ha with rfl|rfl;exact .lst _ _ _ λk _ x hx=>by rw [BE.1 hx];exact .x _
 exact .lst _ _ _ λk _ x hx=>by rw [BE.1 hx];exact .x _):p:=h
theorem VY(h:p:=by
 (with_reducible repeat' first|apply Al|intro _)
 all_goals first|exact B4|(rename_i j hj;rcases (show j<k\/j=k by omega) with h3|h3;exact hx.2 j h3;subst h3;omega)):p:=h
theorem VZ(h:p:=by
 intro a ha;rw [BE.1 ha];exact .lst _ _ _ λk _ x hx=>by rw [BE.1 hx];exact .x _):p:=h
theorem U1(h:p:=by
 (with_reducible repeat' first|apply Al|intro _)
 all_goals first|exact B4|(rename_i hs;exact hs.elim (λh=>sn1 _ h) (λh=>h▸sn2))):p:=h
theorem U2(h:p:=by
 exact .lst _ _ _ λk _ x hx=>by
  simp only [HA,F8,or_false] at hx;rcases hx with rfl|rfl|rfl|rfl|rfl<;>exact .x _):p:=h
end
end Go.Sx
namespace Go.Proofs.YtakpdkmhclhlnaaGreatDoor
noncomputable abbrev U8:Go.Program:=Tryz.prog
abbrev Ad:=Go.Sx.UG.of (Go.Sx.U9.nil U8) (Go.Sx.U7.nil U8)
abbrev Aa:=Go.Sx.U4.nil U8
abbrev Ab:=Go.Sx.U9.nil U8
abbrev Ac:=Go.Sx.U7.nil U8
abbrev Ae:=@Go.Sx.U4.cons
abbrev Af:=@Go.Sx.U9.cons
abbrev Ag:=@Go.Sx.U7.cons
abbrev Ah:=@Go.Sx.UV.cons
abbrev Ai:=@Go.Sx.UG.of
abbrev Aj:=@Go.Sx.UG.ofC
end Go.Proofs.YtakpdkmhclhlnaaGreatDoor
namespace Go.Proofs.YtakpdkmhclhlnaaGreatDoor.Pt
open Go Go.Sx Go.RowKit
open Go.Sx.U6 (need branch leaf)
open Go.Sx.AV (lst ptr agg roI tup top)
theorem UI:Tryz.prog.follows .mixedOrders=true:=UD
abbrev i(n:Int):AV:= .x (.int .i64 n)
abbrev iI(n:Int):AV:= .x (.int .i64 n)
abbrev bl(b:Bool):AV:= .x (.bool b)
def bt(U n O:Int):Bool:=decide (U<=n)&&decide (n<=O)
def insB(U a b O:Int):Bool:=decide (U<=a)&&decide (a<=b)&&decide (b<=O)
theorem insB_iff(U a b O:Int):insB U a b O=true↔U<=a/\a<=b/\b<=O:=by simp [insB,and_assoc]
def scB(a b:Int):Bool:=bt (-1000) a 1000&&bt (-1000) b 1000&&(a != b)
def qE:GM
 |[.x (.int .i64 n),.x (.int .i64 U),.x (.int .i64 O)]=>some ([],bl (bt U n O))
 |_=>none
theorem xX(n U O:Int):UH U8 190 [i n,i U,i O] (bl (bt U n O)):=by
 refine HL Tryz.func190 (t:=branch (decide (U<=n)) (leaf (RV.x (.bool (decide (n<=O))))) (leaf (RV.x (.bool false)))) UD ?_;simp only [U6.sat,UU,GS,H6,UX,G4];all_goals (simp+contextual [bt,insB,scB,Bool.and_assoc]);all_goals omega
theorem LA:UA U8 190 qE:=by
 refine ⟨(UZ Tryz.func190),?_⟩;intro avs ns res h I;unfold qE at h;split at h;cases h;exact xX _ _ _;cases h
def qF:GM
 |[.agg [.x (.int .i64 a),.x (.int .i64 b)],.x (.int .i64 U),.x (.int .i64 O)]=>some ([],bl (insB U a b O))
 |_=>none
theorem zJ(a b U O:Int):UH U8 153 [.agg [i a,i b],i U,i O] (bl (insB U a b O)):=by
 refine HL Tryz.func153 (t:=branch (decide (U<=a)) (branch (decide (a<=b)) (leaf (RV.x (.bool (decide (b<=O))))) (leaf (RV.x (.bool false)))) (leaf (RV.x (.bool false)))) UD ?_;simp only [U6.sat,UU,GS,H6,UX,G4];all_goals (simp+contextual [bt,insB,scB,Bool.and_assoc]);all_goals omega
theorem BQ:UA U8 153 qF:=by
 refine ⟨(UZ Tryz.func153),?_⟩;intro avs ns res h I;unfold qF at h;split at h;cases h;exact zJ _ _ _ _;cases h
theorem mul_bd{x y X Y:Int}(hx: -X<=x/\x<=X)(hy: -Y<=y/\y<=Y): -(X*Y)<=x*y/\x*y<=X*Y:=by
 have h1:x.natAbs<=X.natAbs:=U3;have h2:y.natAbs<=Y.natAbs:=U3;have h3:(x*y).natAbs<=(X*Y).natAbs:=by rw [Int.natAbs_mul,Int.natAbs_mul];exact Nat.mul_le_mul h1 h2
 have h4:0<=X*Y:=Bz U3 U3;omega
abbrev scs(n:Nat)(a b:Cg):AV:= .lst 2 n (λk=>[i (a k),i (b k)])
theorem isRec2(n:Nat)(a b:Cg):G0 2 n (λk=>[i (a k),i (b k)]):=λ_ _=>rfl
def col(j:Nat)(f:Ci):Cg:=λk=>Ws4 (f k) j
def E3(p q:Cg)(k:Nat):Bool:=bt 1 (p k) 2000&&(bt 1 (q k) 2000&&(decide (k=0)||(decide (p (k-1)<p k)&&decide (q (k-1)<q k))))
section
variable (n:Nat)
def j9(p q:Cg):Bool:=F1 (E3 p q) n
abbrev QT(p:Cg)(q:Cg):AV:=lst 2 n λk=>[iI (p k),iI (q k)]
def Xi6(p q:Cg):St:={σ:=[QT n p q]++D6 10 [QT n p q,iI (n:Int)]++D6 42 [],m:=[],nx:=10}
noncomputable def Jy9:Code:=UT (UC (UP Tryz.f152) 0)
def Wp1(p q:Cg)(k:Nat):St:=(upM [(13,i k)] (Xi6 n p q))
def uR(p q:Cg)(k:Nat):GR->Option St
 | .exit 0=>some (upM [] (Xi6 n p q))
 | .ret=>some (upM [(2,i 1)] (Xi6 n p q))
 |_=>none
def Ju0(p q:Cg):CT:= .branch (j9 n p q) (.leaf (.exit 0,(uR n p q 0 (.exit 0)).getD (Xi6 n p q))) (.leaf (.ret,(uR n p q 0 .ret).getD (Xi6 n p q)))
def Zd9(p q:Cg):G5:=(D1 (Wp1 n p q (0)) (Ju0 n p q))
abbrev JX(p:Cg)(q:Cg):Prop:=(QT n p q)=QT n p q
theorem Jg6(p q:Cg)(UB:n<=100000):GU U8 (.loop Jy9) (Zd9 n p q):=by
 refine D4 (L:=[]) (Ae LA Aa) UI UN (X:=Nat) (Wp1 n p q) (λk=>k<=n/\ ∀j,j<k->E3 p q j=true) (λk=>n-k) (uR n p q) (x0:=0) ⟨U3,λj hj=>U3⟩ ?_ ?_ ?_;rintro k;kernel_rfl;rintro k y E h;unfold uR at h;split at h;cases h;kernel_rfl;cases h;kernel_rfl;cases h
 ·rintro Q hQ k hx;refine ⟨(k+1),?_⟩;(with_reducible refine F4 (t:=let A:=(need [JX n p q,UJ (1:Int),JX n p q,UJ (n:Int)] (leaf GR.ret));let W:=(need [U5 ((k:Int)+1)] (need [JX n p q,JX n p q,UJ (n:Int),(k:Int)+1=(↑(k+1):Int)] (leaf GR.normal)));(branch (decide ((k:Int)<(n:Int))) (need [G7 k n] (branch (!bt (1:Int) (p k) (2000:Int)) A (branch (!bt (1:Int) (q k) (2000:Int)) A (branch (decide ((k:Int)>0)) (need [U5 ((k:Int)-1)] (need [G7 ((k:Int)-1) n] (branch (decide (p k<=p ((k:Int)-1).toNat)) A (need [U5 ((k:Int)-1)] (need [G7 ((k:Int)-1) n] (branch (decide (q k<=q ((k:Int)-1).toNat)) A W)))))) W)))) (need [JX n p q,JX n p q,UJ (n:Int)] (leaf (GR.exit 0))))) UD ?_);simp only [Ju0,uR,U6.sat,HF] at hQ;have Ww2:k<n->E3 p q k=false->j9 n p q=false:=by
   intro h1 h2;rw [←Bool.not_eq_true];intro h3;have:=HG.1 h3 k h1;rw [h2] at this;cases this
  have dV:E3 p q k=true-> ∀j,j<k+1->E3 p q j=true:=by
   intro h1 j hj;rcases (show j<k\/j=k by omega) with h|rfl
   exact hx.2 j h;exact h1
  have B0: ¬k<n->j9 n p q=true:=λh=>HG.2 (λj hj=>hx.2 j U3);have hQ1: ∀E,uR n p q k .ret=some E->j9 n p q=false->Q (.ret,E):=by
   intro E hE hf;cases hE;exact hQ.2 hf
  have hQ2: ∀E,uR n p q k (.exit 0)=some E->j9 n p q=true->Q (.exit 0,E):=by
   intro E hE hf;cases hE;exact hQ.1 hf
  have t1:((k:Int)-1).toNat=k-1:=U3;have hsb:E3 p q k=(bt 1 (p k) 2000&&(bt 1 (q k) 2000&&(decide (k=0)||(decide (p (k-1)<p k)&&decide (q (k-1)<q k))))):=rfl
  simp only [U6.sat,UU,G4,HU,U5,FA,t1]
  with_reducible repeat' first|apply Al|intro _
  all_goals first|exact Ak|omega|exact hQ1 _ (by assumption) (Ww2 U3 (by rw [hsb];grind))|exact hQ2 _ (by assumption) (B0 U3)|exact dV (by rw [hsb];grind) _ (by assumption)
def tbE(p q:Cg):Int:=if 8<n then 3 else if n<2 then 1 else if j9 n p q then 0 else 1
end
def Qm8:GM
 |[.lst 2 n f]=>some ([G0 2 n f,n<=100000],i (tbE n (col 0 f) (col 1 f)))
 |_=>none
abbrev KQ:Value:=Value.int IntKind.i64 (0:Int)
theorem Wg7(n:Nat)(p q:Cg)(UB:n<=100000):UH U8 152 [scs n p q] (i (tbE n p q)):=by
 refine UL (L:=[Zd9 n p q]) (Ae LA Aa) UI Tryz.func152 (GF Tryz.f152) (GJ (lpE (b:= .loop Jy9) UD<|Jg6 n p q UB)) (t:=let A:=(leaf (RV.x (.int .i64 (1:Int))));(branch (decide ((n:Int)>8)) (leaf (RV.x (.int .i64 (3:Int)))) (branch (decide ((n:Int)<2)) A (need [JX n p q,JX n p q,UJ (n:Int),(0:Int)=((0:Nat):Int)] (branch (j9 n p q) (leaf (RV.x (KQ))) A))))) UD ?_
 simp only [U6.sat,UU,GS,UX,G4,HU,tbE,Int.natCast_zero];refine ⟨λh=>?_,λh=>⟨λh2=>?_,λh2=>⟨λh3=>?_,λh3=>?_⟩⟩⟩;simp [show 8<n by omega]
 simp [show ¬8<n by omega,show n<2 by omega]
 simp [show ¬8<n by omega,show ¬n<2 by omega,h3]
 simp [show ¬8<n by omega,show ¬n<2 by omega,h3]
theorem Wg6:UA U8 152 Qm8:=by
 refine ⟨(UZ Tryz.func152),?_⟩;intro avs ns res h I;unfold Qm8 at h;split at h;rename_i n f;cases h;have hr:G0 2 n f:=I _ UE;exact (Wg7 n (col 0 f) (col 1 f) (I _ UE)).same (.cons (.lst 2 n _ _ hr) .nil);cases h
def LF(n:Nat)(p:Cg)(x:Int):Nat:=HJ (λk=>decide (x<=p (k+1))) (n-1)
def rW(p q:Cg)(x:Int)(k:Nat):Int:=q k+((q (k+1)-q k)*(x-p k)).tdiv (p (k+1)-p k)
def boilI(n:Nat)(p q:Cg)(x:Int):Int:=rW p q x (LF n p x)
theorem PG{n:Nat}{p q:Cg}(h:j9 n p q=true){k:Nat}(hk:k<n):1<=p k/\p k<=2000/\1<=q k/\q k<=2000/\(k=0\/p (k-1)<p k/\q (k-1)<q k):=by
 have:=HG.1 h k hk;simp only [E3,bt,HV,Bl,yN] at this;omega
theorem E2{n:Nat}{p q:Cg}(h:j9 n p q=true){j k:Nat}(hjk:j<=k)(hk:k<n):p j<=p k/\q j<=q k:=by
 induction k with
 |zero=>
      have:j=0:=U3;subst this;exact ⟨Int.le_refl _,Int.le_refl _⟩
 |succ k ih=>
  rcases (show j<=k\/j=k+1 by omega) with h1|rfl
  have:=ih h1 U3;have h2:=PG h hk;simp only [Bi] at h2;omega;exact ⟨Int.le_refl _,Int.le_refl _⟩
theorem Zm6{n:Nat}{p:Cg}{x:Int}(I:2<=n)(hx:x<=p (n-1)):LF n p x<n-1:=by
 obtain ⟨h1,h2,h3⟩:=FI (λk=>decide (x<=p (k+1))) (n-1);unfold LF;rcases An (HJ (λk=>decide (x<=p (k+1))) (n-1)) (n-1) with h|h
 exact h;have:=h2 (n-2) U3;rw [show n-2+1=n-1 by omega] at this
 simp at this;omega
theorem catF1{k j:Nat}{a:Cg}{x:Int}(h:j<k+1)(hx:x=a k):GX k (λk=>[i (a k)]) (UO 1 [i x]) j=[i (a j)]:=by
 have e:j-k=0:=U3;show HX (decide (j<k)) [i (a j)] (UO 1 [i x] (j-k))=_;rw [e];by_cases hj:j<k;rw [show decide (j<k)=true by simp [hj]]
 rfl;have hk:j=k:=U3;rw [show decide (j<k)=false by simp [hj],hk,hx]
 rfl
theorem Js3(a b:Cg):col 0 (λk=>[i (a k),i (b k)])=a:=rfl
theorem Js2(a b:Cg):col 1 (λk=>[i (a k),i (b k)])=b:=rfl
theorem EA{n:Nat}{p q:Cg}{x:Int}(I:2<=n)(ht:j9 n p q=true)(hx:p 0<=x/\x<=p (n-1)):LF n p x<n-1/\p (LF n p x)<=x/\x<=p (LF n p x+1):=by
 have h1:=Zm6 I hx.2;obtain ⟨f1,f2,f3⟩:=FI (λk=>decide (x<=p (k+1))) (n-1);have h3:=f3 h1;refine ⟨h1,?_,BI h3⟩;rcases Nat.eq_zero_or_pos (LF n p x) with h|h;rw [h];exact hx.1;have:=f2 (LF n p x-1) (by unfold LF at h ⊢;omega)
 rw [show LF n p x-1+1=LF n p x by omega] at this
 simp at this;omega
theorem rV{p q:Cg}{x:Int}{k:Nat}(hp:p k<p (k+1))(hq:q k<q (k+1))(h1:p k<=x)(h2:x<=p (k+1)):rW p q x k=q k+(q (k+1)-q k)*(x-p k) / (p (k+1)-p k)/\q k<=rW p q x k/\rW p q x k<=q (k+1):=by
 have m0:0<=(q (k+1)-q k)*(x-p k):=Bz U3 U3;have e:rW p q x k=q k+(q (k+1)-q k)*(x-p k) / (p (k+1)-p k):=by
  unfold rW;rw [Int.tdiv_eq_ediv_of_nonneg m0]
 have m1:(q (k+1)-q k)*(x-p k)<=(q (k+1)-q k)*(p (k+1)-p k):=Int.mul_le_mul_of_nonneg_left U3 U3;have d0:0<=(q (k+1)-q k)*(x-p k) / (p (k+1)-p k):=Int.ediv_nonneg m0 U3;have d1:(q (k+1)-q k)*(x-p k) / (p (k+1)-p k)<=q (k+1)-q k:=Int.ediv_le_of_le_mul U3 m1;rw [e];omega
theorem Wh8{n:Nat}{p:Cg}{x y:Int}(h:x<=y):LF n p x<=LF n p y:=by
 obtain ⟨f1,f2,f3⟩:=FI (λk=>decide (x<=p (k+1))) (n-1);obtain ⟨g1,g2,g3⟩:=FI (λk=>decide (y<=p (k+1))) (n-1);unfold LF;rcases An (HJ (λk=>decide (y<=p (k+1))) (n-1)) (HJ (λk=>decide (x<=p (k+1))) (n-1)) with hl|hl
 have a1:=f2 _ hl;have a2:=g3 U3;simp at a1 a2;omega;exact hl
theorem boil_spec{n:Nat}{p q:Cg}{x:Int}(I:2<=n)(ht:j9 n p q=true)(hx:p 0<=x/\x<=p (n-1)):q 0<=boilI n p q x/\boilI n p q x<=q (n-1)/\1<=boilI n p q x/\boilI n p q x<=2000:=by
 obtain ⟨h1,h2,h3⟩:=EA I ht hx;have s:=PG ht (show LF n p x+1<n by omega)
 simp only [Bi] at s;have b:=rV (p:=p) (q:=q) (x:=x) (k:=LF n p x) U3 U3 h2 h3;have m1:=E2 ht (show 0<=LF n p x by omega) (show LF n p x<n by omega)
 have m2:=E2 ht (show LF n p x+1<=n-1 by omega) (show n-1<n by omega)
 have z:=PG ht (show 0<n by omega)
 have z2:=PG ht (show n-1<n by omega)
 unfold boilI;omega
theorem boil_mono{n:Nat}{p q:Cg}{x y:Int}(I:2<=n)(ht:j9 n p q=true)(hx:p 0<=x)(hxy:x<=y)(hy:y<=p (n-1)):boilI n p q x<=boilI n p q y:=by
 obtain ⟨h1,h2,h3⟩:=EA I ht (x:=x) U3;obtain ⟨g1,g2,g3⟩:=EA I ht (x:=y) U3;have s:=PG ht (show LF n p x+1<n by omega)
 have s':=PG ht (show LF n p y+1<n by omega)
 simp only [Bi] at s s';have b:=rV (p:=p) (q:=q) (x:=x) (k:=LF n p x) U3 U3 h2 h3;have b':=rV (p:=p) (q:=q) (x:=y) (k:=LF n p y) U3 U3 g2 g3;have hm:=Wh8 (n:=n) (p:=p) hxy;unfold boilI;rcases An (LF n p x) (LF n p y) with hl|hl;have m:=E2 ht (show LF n p x+1<=LF n p y by omega) (show LF n p y<n by omega)
 omega;have e:LF n p x=LF n p y:=U3;rw [b.1,b'.1,e];rw [e] at s;have:=Int.ediv_le_ediv (show 0<p (LF n p y+1)-p (LF n p y) by omega) (Int.mul_le_mul_of_nonneg_left (show x-p (LF n p y)<=y-p (LF n p y) by omega) (show 0<=q (LF n p y+1)-q (LF n p y) by omega))
 omega
def cU:GM
 |[.lst 2 n f]=>some ([],.fn (.func 225) [] [.ro [.lst 2 n f]])
 |_=>none
theorem Wh3(n:Nat)(f:Ci):RB U8 191 [.lst 2 n f] (.fn (.func 225) [] [.ro [.lst 2 n f]]):=by
 refine DL (L:=[]) Aa Ad UI Tryz.func191 (GF Tryz.f191) GN (t:=leaf (AV.fn (Fn.func 225) [] [AV.ro [lst 2 n λa=>f a]])) UD ?_;exact rfl
theorem OU:PS U8 191 cU:=by
 refine ⟨(UZ Tryz.func191),?_⟩;intro avs ns res h I;unfold cU at h;split at h;cases h;exact Wh3 _ _;cases h
def stV(p q:Cg)(k:Nat):Value:= .agg #[.int .i64 (p k),.int .i64 (q k)]
def spV(p q:Cg)(k:Nat):List Value:=[stV p q k,stV p q (k+1)]
section
variable (l:Nat)
abbrev Y2:AV:=AV.fn (Fn.yield l) [] []
def Xi7(n:Nat)(p q:Cg):St:={σ:=[Y2 l,AV.ro [QT n p q],top,top,top,top,lst 2 (n-(1:Int).toNat) λi=>[iI (p ((1:Int).toNat+i)),iI (q ((1:Int).toNat+i))],iI (↑(n-(1:Int).toNat):Int)]++D6 14 [],m:=[],nx:=4,gh:=some 0}
noncomputable def Jb9:Code:=UT (UC (UP Tryz.f225) 0)
def bP(n:Nat)(p q:Cg)(k:Nat):St:={σ:=HI [(8,i k)] (Xi7 l n p q).σ,m:=[],nx:=0,gh:=some (k) }
def kV(n:Nat)(p q:Cg)(k:Nat):GR->Option St
 | .exit 0=>some {σ:=HI [] (Xi7 l n p q).σ,m:=[],nx:=0,gh:=some (n-1) }
 | .ret=>some {σ:=HI [] (Xi7 l n p q).σ,m:=[],nx:=0,gh:=none}
 |_=>none
def Ju2(n:Nat)(p q:Cg):CT:= .may True (.leaf (.exit 0,(kV l n p q 0 (.exit 0)).getD (Xi7 l n p q))) (.leaf (.ret,(kV l n p q 0 .ret).getD (Xi7 l n p q)))
def Ze1(n:Nat)(p q:Cg):G5:=H4 [] (D1 (bP l n p q (0)) (Ju2 l n p q))
theorem Jg9(n:Nat)(p q:Cg)(UB:1<=n/\n<=100000){cx:Cx}(hX:UG U8 {Y:=some (l,(n-1),(spV p q)) } cx):D7 U8 none cx (.loop Jb9) (Ze1 l n p q):=by
 refine FQ [] (L:=[]) Aa hX UI GN (V:=Nat) (bP l n p q) (λk=>k<=n-1) (λk=>n-k) (kV l n p q) (x0:=0) UE ?_ ?_ ?_;rintro k;kernel_rfl;rintro k y E h;unfold kV at h;split at h;cases h;kernel_rfl;cases h;kernel_rfl;cases h
 ·rintro Q hQ k hx;refine ⟨(k+1),?_⟩;have e:DA U8 [] {Y:=some (l,(n-1),(spV p q)) } [] [] Jb9 (bP l n p q k) (bP l n p q ((k+1))) (kV l n p q k)=(let A:=(UJ (lst 2 (n-(1:Int).toNat) λi=>[iI (p ((1:Int).toNat+i)),iI (q ((1:Int).toNat+i))]));let W:=(UJ (↑(n-(1:Int).toNat):Int));(branch (decide ((k:Int)<(↑(n-(1:Int).toNat):Int))) (need [G7 k (↑(n-(1:Int).toNat):Int)] (need [G7 k n] (need [l=l,k<n-1,[Value.agg {toList:=[Value.int IntKind.i64 (p k),Value.int IntKind.i64 (q k)] },Value.agg {toList:=[Value.int IntKind.i64 (p ((1:Int).toNat+k)),Value.int IntKind.i64 (q ((1:Int).toNat+k))] }]=[Value.agg {toList:=[Value.int IntKind.i64 (p k),Value.int IntKind.i64 (q k)] },Value.agg {toList:=[Value.int IntKind.i64 (p (k+1)),Value.int IntKind.i64 (q (k+1))] }]] (U6.may True (need [U5 ((k:Int)+1)] (need [Y2 l=Y2 l,UJ (AV.ro [QT n p q]),A,W,(k:Int)+1=(↑(k+1):Int),k+1=k+1] (leaf GR.normal))) (need [Y2 l=Y2 l,UJ (AV.ro [QT n p q]),A,W] (leaf GR.ret)))))) (need [Y2 l=Y2 l,UJ (AV.ro [QT n p q]),A,W,k=n-1] (leaf (GR.exit 0))))):=UD;rw [e];simp only [Ju2,kV,U6.sat,HF] at hQ;have hQ1: ∀E,kV l n p q k (.exit 0)=some E->Q (.exit 0,E):=λE hE=>by cases hE;exact hQ.1 trivial
  have hQ2: ∀E,kV l n p q k .ret=some E->Q (.ret,E):=λE hE=>by cases hE;exact hQ.2
  have t1:(1:Int).toNat=1:=rfl;have t2:1+k=k+1:=U3;simp only [U6.sat,UU,G4,HU,U5,FA,t1,t2];clear e hQ;all_goals exact VM
end
section
variable (n:Nat)
theorem pL(p q:Cg)(UB:1<=n/\n<=100000):BF Tryz.prog 225 [.ro [scs n p q]] ((n-1)) (spV p q):=by
 refine B5 (L:=λl=>[Ze1 l n p q]) Aa UI (UZ Tryz.func225) Tryz.func225 (GF Tryz.f225) UD (λl cx hX=>GJ (lpE (b:= .loop Jb9) UD<|Jg9 l n p q UB hX)) (t:=λl=>(need [(0:Int)<=1/\(1:Int)<=(n:Int)/\(n:Int)<=(n:Int)] (need [UJ (AV.fn (Fn.yield l) [] []),UJ (AV.ro [QT n p q]),UJ (lst 2 (n-(1:Int).toNat) λi=>[iI (p ((1:Int).toNat+i)),iI (q ((1:Int).toNat+i))]),UJ (↑(n-(1:Int).toNat):Int),(0:Int)=((0:Nat):Int),0=0] (U6.may True (need [n-1=n-1] (leaf PUnit.unit)) (leaf PUnit.unit))))) (λl=>UD) ?_
 intro l;simp only [U6.sat,UU,GS,H6,UX,U5,G4,HU,RW];all_goals exact VM
abbrev KB(p:Cg)(q:Cg):AV:=AV.fn (Fn.func 225) [] [AV.ro [QT n p q]]
def Qf2(p q:Cg)(y:Int):St:={σ:=[QT n p q,iI y,top,ptr 0 0,ptr 1 0,top,top,top,KB n p q]++D6 25 [],m:=[(1,H9.cells 3 [iI 0]),(0,H9.cells 3 [iI y])],nx:=4}
def rfF:Option Code->Operand
 |some (.rangeFunc f _ _ _)=>f
 |_=> .const .nilFunc
def xP:Option Code->Array Nat
 |some (.rangeFunc _ ps _ _)=>ps
 |_=>#[]
def EE:Option Code->Code
 |some (.rangeFunc _ _ a _)=>a
 |_=> .skip
def ED:Option Code->Code
 |some (.rangeFunc _ _ _ b)=>b
 |_=> .skip
noncomputable def Jc7:Code:=EE (UC (UP Tryz.f154) 0)
noncomputable def Wb3:Code:=ED (UC (UP Tryz.f154) 0)
def uZ(p q:Cg)(y:Int)(k:Nat):St:=(upM [] (Qf2 n p q y))
def BN(p q:Cg)(y:Int)(k:Nat):GR->Option St
 | .ret=>some (upE [] [(1,.cells 3 [i (boilI n p q y)])] (Qf2 n p q y))
 |_=>none
def Xd8(p q:Cg)(y:Int):CT:= .leaf (.ret,(BN n p q y 0 .ret).getD (Qf2 n p q y))
def oU(p q:Cg)(y:Int):G5:=H4 [] (D1 (uZ n p q y (0)) (Xd8 n p q y))
abbrev VB:Ext:={R:=[(191,cU)],H:=[] }
theorem Js9(p q:Cg)(y:Int)(UB:2<=n/\n<=100000)(UY:j9 n p q=true)(DF: -100000<=y/\y<=p (n-1)):D3 U8 (.rangeFunc (rfF (UC (UP Tryz.f154) 0)) (xP (UC (UP Tryz.f154) 0)) Jc7 Wb3) (oU n p q y):=by
 refine L4 [] (L:=[]) Aa (Ai (Af OU Ab) Ac) UI UN (V:=Nat) (uZ n p q y) (λk=>k<=n-1/\ ∀j,j<k->decide (y<=p (j+1))=false) (λk=>k) (BN n p q y) (x0:=0) ⟨U3,λj hj=>U3⟩ rfl ?_ ?_ ?_ ?_ (g:=225) (caps:=[.ro [scs n p q]]) UD UD (pL n p q U3) (λ_=>rfl) ?_;rintro k;kernel_rfl;rintro k y E h;unfold BN at h;split at h;cases h;kernel_rfl;cases h;rintro k;rfl;rintro k y E h;unfold BN at h;split at h;cases h;rfl;cases h;rintro Q hQ k hx;refine ⟨λhlt=>⟨(k+1),rfl,?_⟩,λB0=>?_⟩;have e:EC U8 [] VB [] [] (xP (UC (UP Tryz.f154) 0)).toList ((spV p q) (k)) Jc7 Wb3 (uZ n p q y k) (uZ n p q y ((k+1))) (BN n p q y k)=(branch (decide (y<=p (k+1))) (need [U5 (q (k+1)-q k)] (need [U5 (y-p k)] (need [U5 ((q (k+1)-q k)*(y-p k))] (need [U5 (p (k+1)-p k)] (need [p (k+1)-p k≠0,U5 (Int.tdiv ((q (k+1)-q k)*(y-p k)) (p (k+1)-p k))] (need [U5 (q k+Int.tdiv ((q (k+1)-q k)*(y-p k)) (p (k+1)-p k))] (need [JX n p q,y=y,UJ (ptr 0 0),UJ (ptr 1 0),UJ (KB n p q),q k+Int.tdiv ((q (k+1)-q k)*(y-p k)) (p (k+1)-p k)=boilI n p q y] (leaf GR.ret)))))))) (need [JX n p q,y=y,UJ (ptr 0 0),UJ (ptr 1 0),UJ (KB n p q),UJ (0:Int),y=y] (leaf GR.normal))):=UD;rw [e];simp only [Xd8,BN,U6.sat,HF] at hQ;have hQ2: ∀E,BN n p q y k .ret=some E->Q (.ret,E):=λE hE=>by cases hE;exact hQ
 simp only [U6.sat,UU,G4,HU,U5];clear e hQ;have sl:=PG UY (show n-1<n by omega)
 have s0:=PG UY (show k<n by omega)
 have s1:=PG UY (show k+1<n by omega)
 simp only [Bi] at s1;have m:=mul_bd (x:=q (k+1)-q k) (y:=y-p k) (X:=2000) (Y:=200000) U3 U3;have dv:(((q (k+1)-q k)*(y-p k)).tdiv (p (k+1)-p k)).natAbs<=((q (k+1)-q k)*(y-p k)).natAbs:=by
  rw [Int.natAbs_tdiv];exact Nat.div_le_self _ _
 refine ⟨λh=>?_,λh=>?_⟩
 ·have hf:LF n p y=k:=jT hlt (by simpa using h) hx.2
  have hbo:boilI n p q y=q k+((q (k+1)-q k)*(y-p k)).tdiv (p (k+1)-p k):=by unfold boilI;rw [hf];rfl
  rw [hbo];all_goals exact VM
 refine ⟨U3,λj hj=>?_⟩;rcases (show j<k\/j=k by omega) with h1|rfl
 have:=hx.2 j h1;simpa using this;exact h;exfalso;have:=hx.2 (n-2) U3;rw [show n-2+1=n-1 by omega] at this
 simp at this;omega
theorem Xt6(p q:Cg)(y:Int)(UB:2<=n/\n<=100000)(UY:j9 n p q=true)(DF: -100000<=y/\y<=p (n-1)):UH U8 154 [scs n p q,i y] (i (boilI n p q y)):=by
 refine GW (L:=[oU n p q y]) Aa (Ai (Af OU Ab) Ac) UI Tryz.func154 (GF Tryz.f154) (GJ (lpE (b:= .rangeFunc (rfF (UC (UP Tryz.f154) 0)) (xP (UC (UP Tryz.f154) 0)) Jc7 Wb3) UD<|Js9 n p q y UB UY DF)) (t:=need [JX n p q,y=y,UJ (ptr 0 0),UJ (ptr 1 0),UJ (KB n p q),UJ (0:Int),y=y] (leaf (RV.x (.int .i64 (boilI n p q y))))) UD ?_
 simp only [U6.sat,UU,GS,H6,UX,U5,G4];all_goals first|omega|grind
end
def Xe5:GM
 |[.lst 2 n f,.x (.int .i64 y)]=>some ([G0 2 n f,2<=n/\n<=100000,j9 n (col 0 f) (col 1 f)=true,-100000<=y/\y<=col 0 f (n-1)],i (boilI n (col 0 f) (col 1 f) y))
 |_=>none
theorem Xt5:UA U8 154 Xe5:=by
 refine ⟨(UZ Tryz.func154),?_⟩;intro avs ns res h I;unfold Xe5 at h;split at h;rename_i n f y;cases h;have hr:G0 2 n f:=I _ UE;exact (Xt6 n (col 0 f) (col 1 f) y (I _ UE) (I _ UE) (I _ UE)).same (.cons (.lst 2 n _ _ hr) (.cons (.refl _) .nil));cases h
section
variable (n:Nat)(p q:Cg)(U O:Int)
def blE:Int:=if tbE n p q=0 then (if insB (p 0) U O (p (n-1)) then 0 else 2) else tbE n p q
def blLo:Int:=if blE n p q U O=0 then boilI n p q U else 0
def blHi:Int:=if blE n p q U O=0 then boilI n p q O else 0
end
theorem Wg5{n:Nat}{p q:Cg}(h:tbE n p q=0):2<=n/\n<=8/\j9 n p q=true:=by
 unfold tbE at h;split at h;omega;split at h;omega;split at h;rename_i h3;exact ⟨U3,U3,h3⟩;omega
theorem Xj9(n:Nat)(p q:Cg)(U O:Int)(UB:n<=100000):UH U8 116 [scs n p q,.agg [i U,i O]] (.tup [.agg [i (blLo n p q U O),i (blHi n p q U O)],i (blE n p q U O)]):=by
 refine UL (L:=[]) (Ae Wg6 (Ae BQ (Ae Xt5 Aa))) UI Tryz.func116 (GF Tryz.f116) UN (t:=need [G0 2 n λk=>[i (p k),i (q k)],n<=100000] (branch (tbE n p q != 0) (leaf (RV.tup [RV.agg [RV.x (KQ),RV.x (KQ)],RV.x (.int .i64 (tbE n p q))])) (need [G7 0 n] (need [U5 ((n:Int)-1)] (need [G7 ((n:Int)-1) n] (branch (!insB (p (0:Int).toNat) U O (p ((n:Int)-1).toNat)) (leaf (RV.tup [RV.agg [RV.x (KQ),RV.x (KQ)],RV.x (.int .i64 (2:Int))])) (need [G0 2 n λk=>[i (p k),i (q k)],2<=n/\n<=100000,j9 n p q=true,(-100000:Int)<=U/\U<=p (n-1)] (need [G0 2 n λk=>[i (p k),i (q k)],2<=n/\n<=100000,j9 n p q=true,(-100000:Int)<=O/\O<=p (n-1)] (leaf (RV.tup [RV.agg [RV.x (.int .i64 (boilI n p q U)),RV.x (.int .i64 (boilI n p q O))],RV.x (KQ)])))))))))) UD ?_;simp only [U6.sat,UU,GS,H6,UX,G4,Js3,Js2,U5,show (0:Int).toNat=0 from rfl];refine ⟨⟨isRec2 n p q,UB⟩,λh=>?_,λh=>?_⟩;have h':tbE n p q≠0:=by simpa using h
 simp [blLo,blHi,blE,h'];have h':tbE n p q=0:=by simpa using h
 obtain ⟨t1,t2,t3⟩:=Wg5 h';have e1:((n:Int)-1).toNat=n-1:=U3;have s0:=PG t3 (show 0<n by omega)
 simp only [e1];refine ⟨U3,U3,U3,λh2=>?_,λh2=>?_⟩;have h2':insB (p 0) U O (p (n-1))=false:=by simpa using h2
 simp [blLo,blHi,blE,h',h2'];have h2':insB (p 0) U O (p (n-1))=true:=by simpa using h2
 have b:=(insB_iff _ _ _ _).1 h2';refine ⟨⟨isRec2 n p q,U3,t3,U3⟩,⟨isRec2 n p q,U3,t3,U3⟩,?_⟩;simp [blLo,blHi,blE,h',h2']
def Qo8:GM
 |[.lst 2 n f,.agg [.x (.int .i64 U),.x (.int .i64 O)]]=>some ([G0 2 n f,n<=100000],.tup [.agg [i (blLo n (col 0 f) (col 1 f) U O),i (blHi n (col 0 f) (col 1 f) U O)],i (blE n (col 0 f) (col 1 f) U O)])
 |_=>none
theorem blE_ok{n:Nat}{p q:Cg}{U O:Int}(h:blE n p q U O=0):2<=n/\n<=8/\j9 n p q=true/\p 0<=U/\U<=O/\O<=p (n-1):=by
 unfold blE at h;split at h;rename_i h1;obtain ⟨t1,t2,t3⟩:=Wg5 h1;split at h;rename_i h2;have:=(insB_iff _ _ _ _).1 h2;exact ⟨t1,t2,t3,this⟩;omega;contradiction
theorem Boils_ok:UA U8 116 Qo8:=by
 refine ⟨(UZ Tryz.func116),?_⟩;intro avs ns res h I;unfold Qo8 at h;split at h;rename_i n f U O;cases h;have hr:G0 2 n f:=I _ UE;exact (Xj9 n (col 0 f) (col 1 f) U O (I _ UE)).same (.cons (.lst 2 n _ _ hr) (.cons (.refl _) .nil));cases h
end Go.Proofs.YtakpdkmhclhlnaaGreatDoor.Pt
namespace Go.Proofs.YtakpdkmhclhlnaaGreatDoor.Bo
open Go Go.Sx Go.RowKit Go.ChangeShapes Go.WideShapes Go.ChangeAt
open Go.Sx.U6 (need branch leaf)
open Go.Sx.AV (lst ptr agg roI tup top)
theorem UI:Tryz.prog.follows .mixedOrders=true:=UD
abbrev i(n:Int):AV:= .x (.int .i64 n)
abbrev iI(n:Int):AV:= .x (.int .i64 n)
abbrev bl(b:Bool):AV:= .x (.bool b)
def bt(U n O:Int):Bool:=decide (U<=n)&&decide (n<=O)
theorem bt_iff(U n O:Int):bt U n O=true↔U<=n/\n<=O:=by simp [bt]
def insB(U a b O:Int):Bool:=decide (U<=a)&&decide (a<=b)&&decide (b<=O)
theorem insB_iff(U a b O:Int):insB U a b O=true↔U<=a/\a<=b/\b<=O:=by simp [insB,and_assoc]
def wC(c T U O:Int):Bool:=bt 1 c 10&&insB 1 U O 200&&bt 1 T 2000&&bt (c*U) T (c*O)
def rdB(c a b u v:Int):Bool:=bt 0 a (c-1)&&bt a b c&&insB 0 u v 2000
def qE:GM
 |[.x (.int .i64 n),.x (.int .i64 U),.x (.int .i64 O)]=>some ([],bl (bt U n O))
 |_=>none
abbrev YH:Value:=Value.bool false
theorem xX(n U O:Int):UH U8 155 [i n,i U,i O] (bl (bt U n O)):=by
 refine HL Tryz.func155 (t:=branch (decide (U<=n)) (leaf (RV.x (.bool (decide (n<=O))))) (leaf (RV.x (YH)))) UD ?_;simp only [U6.sat,UU,GS,H6,UX,G4];all_goals (simp+contextual [bt,insB,Bool.and_assoc]);all_goals omega
theorem LA:UA U8 155 qE:=by
 refine ⟨(UZ Tryz.func155),?_⟩;intro avs ns res h I;unfold qE at h;split at h;cases h;exact xX _ _ _;cases h
def qF:GM
 |[.agg [.x (.int .i64 a),.x (.int .i64 b)],.x (.int .i64 U),.x (.int .i64 O)]=>some ([],bl (insB U a b O))
 |_=>none
theorem zJ(a b U O:Int):UH U8 156 [.agg [i a,i b],i U,i O] (bl (insB U a b O)):=by
 refine HL Tryz.func156 (t:=branch (decide (U<=a)) (branch (decide (a<=b)) (leaf (RV.x (.bool (decide (b<=O))))) (leaf (RV.x (YH)))) (leaf (RV.x (YH)))) UD ?_;simp only [U6.sat,UU,GS,H6,UX,G4];all_goals (simp+contextual [bt,insB,Bool.and_assoc]);all_goals omega
theorem BQ:UA U8 156 qF:=by
 refine ⟨(UZ Tryz.func156),?_⟩;intro avs ns res h I;unfold qF at h;split at h;cases h;exact zJ _ _ _ _;cases h
theorem mul_bd{x y X Y:Int}(hx: -X<=x/\x<=X)(hy: -Y<=y/\y<=Y): -(X*Y)<=x*y/\x*y<=X*Y:=by
 have h1:=Bz (show 0<=X-x by omega) (show 0<=Y-y by omega)
 have h2:=Bz (show 0<=X+x by omega) (show 0<=Y+y by omega)
 have h3:=Bz (show 0<=X-x by omega) (show 0<=Y+y by omega)
 have h4:=Bz (show 0<=X+x by omega) (show 0<=Y-y by omega)
 rw [Int.sub_mul,Int.mul_sub,Int.mul_sub] at h1;rw [Int.add_mul,Int.mul_add,Int.mul_add] at h2;rw [Int.sub_mul,Int.mul_add,Int.mul_add] at h3;rw [Int.add_mul,Int.mul_sub,Int.mul_sub] at h4;omega
def AS:GM
 |[.agg [.x (.int .i64 c),.x (.int .i64 T),.x (.int .i64 U),.x (.int .i64 O)]]=>some ([],i (if wC c T U O then 0 else 1))
 |_=>none
abbrev K4:Value:=Value.int IntKind.i64 (0:Int)
abbrev YP:Value:=Value.int IntKind.i64 (1:Int)
theorem eG(c T U O:Int):UH U8 117 [.agg [i c,i T,i U,i O]] (i (if wC c T U O then 0 else 1)):=by
 refine UL (L:=[]) (Ae LA (Ae BQ Aa)) UI Tryz.func117 (GF Tryz.f117) UN (t:=branch (!bt (1:Int) c (10:Int)) (leaf (RV.x (YP))) (branch (!insB (1:Int) U O (200:Int)) (leaf (RV.x (YP))) (branch (!bt (1:Int) T (2000:Int)) (leaf (RV.x (YP))) (need [U5 (c*U)] (need [U5 (c*O)] (branch (!bt (c*U) T (c*O)) (leaf (RV.x (YP))) (leaf (RV.x (K4))))))))) UD ?_;simp only [U6.sat,UU,GS,UX,G4,U5,wC];rcases Bool.eq_false_or_eq_true (bt 1 c 10) with h1|h1
 rotate_left
 simp [h1];rcases Bool.eq_false_or_eq_true (insB 1 U O 200) with h2|h2
 rotate_left
 simp [h1,h2];rcases Bool.eq_false_or_eq_true (bt 1 T 2000) with h3|h3
 rotate_left
 simp [h1,h2,h3];have e1:=(bt_iff _ _ _).1 h1;have e2:=(insB_iff _ _ _ _).1 h2;have m1:=mul_bd (x:=c) (y:=U) (X:=10) (Y:=200) U3 U3;have m2:=mul_bd (x:=c) (y:=O) (X:=10) (Y:=200) U3 U3;rcases Bool.eq_false_or_eq_true (bt (c*U) T (c*O)) with h4|h4<;>simp [h1,h2,h3,h4]<;>omega
theorem CheckTube_ok:UA U8 117 AS:=by
 refine ⟨(UZ Tryz.func117),?_⟩;intro avs ns res h I;unfold AS at h;split at h;cases h;exact eG _ _ _ _;cases h
def TL:GM
 |[.agg [.x (.int .i64 c),.x (.int .i64 T),.x (.int .i64 U),.x (.int .i64 O)],.agg [.x (.int .i64 a),.x (.int .i64 b),.x (.int .i64 u),.x (.int .i64 v)]]=>some ([1<=c/\c<=10],bl (rdB c a b u v))
 |_=>none
theorem pX(c T U O a b u v:Int)(UB:1<=c/\c<=10):UH U8 192 [.agg [i c,i T,i U,i O],.agg [i a,i b,i u,i v]] (bl (rdB c a b u v)):=by
 refine UL (L:=[]) (Ae LA (Ae BQ Aa)) UI Tryz.func192 (GF Tryz.f192) UN (t:=need [U5 (c-1)] (branch (bt (0:Int) a (c-1)) (branch (bt a b c) (leaf (RV.x (.bool (insB (0:Int) u v (2000:Int))))) (leaf (RV.x (YH)))) (leaf (RV.x (YH))))) UD ?_;simp only [U6.sat,UU,GS,UX,G4,U5,rdB];refine ⟨U3,?_⟩;cases h1:bt 0 a (c-1)<;>cases h2:bt a b c<;>cases h3:insB 0 u v 2000<;>simp
theorem pW:UA U8 192 TL:=by
 refine ⟨(UZ Tryz.func192),?_⟩;intro avs ns res h I;unfold TL at h;split at h;cases h;exact pX _ _ _ _ _ _ _ _ (I _ UE);cases h
open Go Go.Sx Go.RowKit
theorem Xl9(a b:Int):UH U8 135 [.lst 1 2 (λk=>[i (if k=0 then a else b)])] (i (min a b)):=by
 refine UL (L:=[λs=>some (j8 Tryz.prog [] [] (UT (UC (UP Tryz.f135) 0)) 3 s)]) Aa UI Tryz.func135 (GF Tryz.f135) (GJ (lpE (b:= .loop (UT (UC (UP Tryz.f135) 0))) UD<|P0 Aa UI UN _)) (t:=let A:=(min (if (0:Int).toNat=0 then a else b) (if (1:Int).toNat=0 then a else b));(branch (decide (((2:Nat):Int)<1)) U6.fail (need [G7 0 2] (branch (decide ((1:Int)<((2:Nat):Int))) (need [G7 1 2] (need [U5 ((1:Int)+1)] (branch (decide ((1:Int)+1<((2:Nat):Int))) (need [(0:Int)<=1+1/\(1:Int)+1<((2:Nat):Int)] (need [U5 ((1:Int)+1+1)] (branch (decide ((1:Int)+1+1<((2:Nat):Int))) (need [(0:Int)<=1+1+1/\(1:Int)+1+1<((2:Nat):Int)] (need [U5 ((1:Int)+1+1+1)] U6.fail)) (leaf (RV.x (.int .i64 (min A (if ((1:Int)+1).toNat=0 then a else b)))))))) (leaf (RV.x (.int .i64 A)))))) (leaf (RV.x (.int .i64 (if (0:Int).toNat=0 then a else b)))))))) UD ?_
 simp [U6.sat,UU,GS,H6,UX,U5]
theorem Xm0(a b:Int):UH U8 136 [.lst 1 2 (λk=>[i (if k=0 then a else b)])] (i (max a b)):=by
 refine UL (L:=[λs=>some (j8 Tryz.prog [] [] (UT (UC (UP Tryz.f136) 0)) 3 s)]) Aa UI Tryz.func136 (GF Tryz.f136) (GJ (lpE (b:= .loop (UT (UC (UP Tryz.f136) 0))) UD<|P0 Aa UI UN _)) (t:=let A:=(max (if (0:Int).toNat=0 then a else b) (if (1:Int).toNat=0 then a else b));(branch (decide (((2:Nat):Int)<1)) U6.fail (need [G7 0 2] (branch (decide ((1:Int)<((2:Nat):Int))) (need [G7 1 2] (need [U5 ((1:Int)+1)] (branch (decide ((1:Int)+1<((2:Nat):Int))) (need [(0:Int)<=1+1/\(1:Int)+1<((2:Nat):Int)] (need [U5 ((1:Int)+1+1)] (branch (decide ((1:Int)+1+1<((2:Nat):Int))) (need [(0:Int)<=1+1+1/\(1:Int)+1+1<((2:Nat):Int)] (need [U5 ((1:Int)+1+1+1)] U6.fail)) (leaf (RV.x (.int .i64 (max A (if ((1:Int)+1).toNat=0 then a else b)))))))) (leaf (RV.x (.int .i64 A)))))) (leaf (RV.x (.int .i64 (if (0:Int).toNat=0 then a else b)))))))) UD ?_
 simp [U6.sat,UU,GS,H6,UX,U5]
def yO:GM
 |[.lst 1 2 f]=>(match f 0,f 1 with
  |[.x (.int .i64 a)],[.x (.int .i64 b)]=>some ([],i (min a b))
  |_,_=>none)
 |_=>none
theorem aI:UA U8 135 yO:=by
 refine ⟨(UZ Tryz.func135),?_⟩;intro avs ns res h I;unfold yO at h;split at h;rename_i f;split at h;rename_i a b h0 h1;cases h;refine (Xl9 a b).same (.cons (.lst 1 2 _ _ ?_) .nil);intro k hk;rcases (show k=0\/k=1 by omega) with rfl|rfl
 exact h0;exact h1;cases h;cases h
def rY:GM
 |[.lst 1 2 f]=>(match f 0,f 1 with
  |[.x (.int .i64 a)],[.x (.int .i64 b)]=>some ([],i (max a b))
  |_,_=>none)
 |_=>none
theorem Qf9:UA U8 136 rY:=by
 refine ⟨(UZ Tryz.func136),?_⟩;intro avs ns res h I;unfold rY at h;split at h;rename_i f;split at h;rename_i a b h0 h1;cases h;refine (Xm0 a b).same (.cons (.lst 1 2 _ _ ?_) .nil);intro k hk;rcases (show k=0\/k=1 by omega) with rfl|rfl
 exact h0;exact h1;cases h;cases h
theorem Wn7(a b:Int):UH U8 228 [.lst 1 2 (λk=>[i (if k=0 then a else b)])] (i (min a b)):=by
 refine UL (L:=[]) (Ae aI Aa) UI Tryz.func228 (GF Tryz.f228) UN (t:=leaf (RV.x (.int .i64 (min (if 0=0 then a else b) (if 1=0 then a else b))))) UD ?_
 simp [U6.sat,GS,UX]
def CM:GM:=yO
theorem PJ:UA U8 228 CM:=by
 refine ⟨(UZ Tryz.func228),?_⟩;intro avs ns res h I;unfold CM yO at h;split at h;rename_i f;split at h;rename_i a b h0 h1;cases h;refine (Wn7 a b).same (.cons (.lst 1 2 _ _ ?_) .nil);intro k hk;rcases (show k=0\/k=1 by omega) with rfl|rfl
 exact h0;exact h1;cases h;cases h
theorem mV(a b:Int):UH U8 251 [.lst 1 2 (λk=>[i (if k=0 then a else b)])] (i (max a b)):=by
 refine UL (L:=[]) (Ae Qf9 Aa) UI Tryz.func251 (GF Tryz.f251) UN (t:=leaf (RV.x (.int .i64 (max (if 0=0 then a else b) (if 1=0 then a else b))))) UD ?_
 simp [U6.sat,GS,UX]
def NJ:GM:=rY
theorem AK:UA U8 251 NJ:=by
 refine ⟨(UZ Tryz.func251),?_⟩;intro avs ns res h I;unfold NJ rY at h;split at h;rename_i f;split at h;rename_i a b h0 h1;cases h;refine (mV a b).same (.cons (.lst 1 2 _ _ ?_) .nil);intro k hk;rcases (show k=0\/k=1 by omega) with rfl|rfl
 exact h0;exact h1;cases h;cases h
noncomputable def Qq6:DK:=vP Tryz.prog [(228,CM)] {} [] Tryz.f194 (UP Tryz.f194)
abbrev JD:List (Nat×GM):=[(228,CM)]
theorem PA:GT U8 194 Qq6:=
 RT (G:=JD) (X:={}) (L:=[]) (Ae PJ Aa) Ad UI (UZ Tryz.func194) Tryz.func194 (GF Tryz.f194) UN
def UW(c T U O:Int)(M:Nat->Cg)(k:Nat):Int:=if k=0 then c else if k=1 then T else if k=2 then U else if k=3 then O else M ((k-4) / 11) ((k-4)%11)
section
variable (M:Nat->Cg)(a b:Nat)(v:Int)
def z9:Nat->Cg:=λx y=>if x=a/\y=b then v else M x y
def bnd:Nat->Cg:=z9 M a b (min (M a b) v)
end
def ini(c:Nat)(k j:Nat):Nat->Cg:=λx y=>if ((x<k/\y<=c)\/(x=k/\y<j))/\x≠y then 2000 else 0
theorem Wh6(c T U O:Int)(cc:Nat): ∀k,US (c::T::U::O::List.replicate 121 0) k=UW c T U O (ini cc 0 0) k:=by
 intro k;rcases k with _|_|_|_|k;rfl;rfl;rfl;rfl;have h:US (c::T::U::O::List.replicate 121 0) (k+4)=US (List.replicate 121 0) k:=rfl;rw [h,fI (by decide)]
 simp [UW,ini]
theorem HC(q:Nat)(v:Int)(f:Cg):kJ q [v] f=GE q v f:=rfl
section
variable (c T U O:Int)
theorem wE(M:Nat->Cg){a b q:Nat}(hq:q=4+a*11+b)(hb:b<11):UW c T U O M q=M a b:=by
 unfold UW;rw [if_neg U3,if_neg U3,if_neg U3,if_neg U3,show (q-4) / 11=a by omega,show (q-4)%11=b by omega]
theorem uJ{M M':Nat->Cg}(h: ∀x y,x<11->y<11->M x y=M' x y){k:Nat}(hk:k<125):UW c T U O M k=UW c T U O M' k:=by
 unfold UW;split;rfl;split;rfl;split;rfl;split;rfl;exact h _ _ U3 U3
theorem iL(M:Nat->Cg){a b q:Nat}(hq:q=4+a*11+b)(hb:b<11)(v:Int)(k:Nat):GE q v (UW c T U O M) k=UW c T U O (z9 M a b v) k:=by
 unfold GE;by_cases hk:k=q;rw [if_pos hk,wE _ _ _ _ _ (hk.trans hq) hb];simp [z9];rw [if_neg hk];unfold UW;by_cases h0:k=0;rw [if_pos h0,if_pos h0];by_cases h1:k=1;rw [if_neg h0,if_neg h0,if_pos h1,if_pos h1];by_cases h2:k=2;rw [if_neg h0,if_neg h0,if_neg h1,if_neg h1,if_pos h2,if_pos h2];by_cases h3:k=3;rw [if_neg h0,if_neg h0,if_neg h1,if_neg h1,if_neg h2,if_neg h2,if_pos h3,if_pos h3];rw [if_neg h0,if_neg h0,if_neg h1,if_neg h1,if_neg h2,if_neg h2,if_neg h3,if_neg h3];unfold z9;rw [if_neg U3]
end
theorem Ws6(c k j:Nat)(hj:j<=c)(h:k≠j)(x y:Nat):z9 (ini c k j) k j 2000 x y=ini c k (j+1) x y:=by
 unfold z9 ini;split;rename_i hxy;rw [if_pos ⟨.inr U3,U3⟩];rename_i hxy;by_cases h1:((x<k/\y<=c)\/(x=k/\y<j))/\x≠y;rw [if_pos h1,if_pos U3];rw [if_neg h1,if_neg U3]
theorem Ws7(c k:Nat)(x y:Nat):ini c k k x y=ini c k (k+1) x y:=by
 unfold ini;by_cases h1:((x<k/\y<=c)\/(x=k/\y<k))/\x≠y;rw [if_pos h1,if_pos U3];rw [if_neg h1,if_neg U3]
theorem Xp3(c k:Nat)(x y:Nat):ini c k (c+1) x y=ini c (k+1) 0 x y:=by
 unfold ini;by_cases h1:((x<k/\y<=c)\/(x=k/\y<c+1))/\x≠y;rw [if_pos h1,if_pos U3];rw [if_neg h1,if_neg U3]
abbrev rds(n:Nat)(a b u v:Cg):AV:= .lst 4 n (λk=>[i (a k),i (b k),i (u k),i (v k)])
abbrev QX:AV:=AV.x (.pointer none)
abbrev XA(n:Nat)(a:Cg)(b:Cg)(u:Cg)(v:Cg):AV:=lst 4 n λk=>[iI (a k),iI (b k),iI (u k),iI (v k)]
section
variable (c:Nat)(T U O:Int)(n:Nat)(a b u v:Cg)
def Zz9:St:={σ:=[agg [iI (c:Int),iI T,iI U,iI O],XA n a b u v,ptr 0 0,top,QX,AV.lit false,ptr 5 0]++D6 15 [iI ((c:Int)+1)]++D6 155 [],m:=[(5,H9.ints 301 [] 125 λa=>US ([(c:Int),T,U,O]++eM 121) a),(0,H9.cells 49 [iI (c:Int),iI T,iI U,iI O])],nx:=11}
noncomputable def Jc1:Code:=UT (UC (UP Tryz.f158) 0)
def Wp9(k:Nat):St:=(upE [(23,i k)] [(5,.ints 301 [] 125 (UW c T U O (ini c k 0))),(0,.cells 49 [i c,i T,i U,i O])] (Zz9 c T U O n a b u v))
def I0(k:Nat):GR->Option St
 | .exit 0=>some (upE [(23,i ((c:Int)+1))] [(5,.ints 301 [] 125 (UW c T U O (ini c (c+1) 0))),(0,.cells 49 [i c,i T,i U,i O])] (Zz9 c T U O n a b u v))
 |_=>none
def Jv0:CT:= .leaf (.exit 0,(I0 c T U O n a b u v 0 (.exit 0)).getD (Zz9 c T U O n a b u v))
def Ze9:G5:=H4 [] (D1 (Wp9 c T U O n a b u v (0)) (Jv0 c T U O n a b u v))
def Zz8(k:Nat):St:={σ:=[agg [iI (c:Int),iI T,iI U,iI O],XA n a b u v,ptr 0 0,top,QX,AV.lit false,ptr 5 0,iI (k:Int)]++D6 14 [iI ((c:Int)+1),iI (k:Int),top,top,top,top,iI ((c:Int)+1)]++D6 149 [],m:=[(5,H9.ints 301 [] 125 λk_1=>UW (c:Int) T U O (ini c k 0) k_1),(0,H9.cells 49 [iI (c:Int),iI T,iI U,iI O])],nx:=18}
noncomputable def Jz6:Code:=(UT (UC (UT (UC (UP Tryz.f158) 0)) 0))
def Wp8(k:Nat)(j:Nat):St:=(upE [(29,i j)] [(5,.ints 301 [] 125 (UW c T U O (ini c k j))),(0,.cells 49 [i c,i T,i U,i O])] (Zz8 c T U O n a b u v k))
def EZ(k:Nat)(j:Nat):GR->Option St
 | .exit 2=>some (upE [(29,i ((c:Int)+1))] [(5,.ints 301 [] 125 (UW c T U O (ini c k (c+1)))),(0,.cells 49 [i c,i T,i U,i O])] (Zz8 c T U O n a b u v k))
 |_=>none
def Ju9(k:Nat):CT:= .leaf (.exit 2,(EZ c T U O n a b u v k 0 (.exit 2)).getD (Zz8 c T U O n a b u v k))
def Ze8(k:Nat):G5:=H4 [] (D1 (Wp8 c T U O n a b u v k (0)) (Ju9 c T U O n a b u v k))
end
abbrev Q4(n:Nat)(a:Cg)(b:Cg)(u:Cg)(v:Cg):Prop:=(XA n a b u v)=lst 4 n λk=>[iI (a k),iI (b k),iI (u k),iI (v k)]
abbrev X6:Prop:=AV.lit false=AV.lit false
noncomputable abbrev XJ:Ext:={R:=[],H:=[(194,Qq6)] }
abbrev XL:Prop:=ptr 0 0=ptr 0 0
abbrev XY:Prop:=ptr 5 0=ptr 5 0
section
variable (c:Nat)(T U O:Int)(n:Nat)(a b u v:Cg)
theorem Jk6(k:Nat)(UB:1<=c/\c<=10)(UY:1<=U/\U<=O/\O<=200/\1<=T/\T<=2000)(DF:k<=c):GU U8 (.loop Jz6) (Ze8 c T U O n a b u v k):=by
 refine GL [] (L:=[]) (Ae PJ Aa) (Ai Ab (Ag PA Ac)) UI UN (X:=Nat) (Wp8 c T U O n a b u v k) (λj=>j<=c+1) (λj=>c+1-j) (EZ c T U O n a b u v k) (x0:=0) UE ?_ ?_ ?_;rintro j;kernel_rfl;rintro j y E h;unfold EZ at h;split at h;cases h;kernel_rfl;cases h;rintro Q hQ j hx;refine ⟨(j+1),?_⟩;(with_reducible refine F4 (t:=let A:=(UJ ((c:Int)+1));let W:=(UJ (agg [iI (c:Int),iI T,iI U,iI O]));(branch (decide ((j:Int)<(c:Int)+1)) (branch ((k:Int) != (j:Int)) (need [G7 k 11] (need [G7 j 11] (need [j*1+(k*11+4)+1<=125] (need [U5 ((j:Int)+1)] (need [W,Q4 n a b u v,XL,QX=QX,X6,XY,UJ (k:Int),A,UJ (k:Int),A,(j:Int)+1=(↑(j+1):Int),125=125,HH 125 (GE (j*1+(k*11+4)) (2000:Int) (UW (c:Int) T U O (ini c k j))) (UW (c:Int) T U O (ini c k (j+1))),UJ (c:Int),T=T,U=U,O=O] (leaf GR.normal)))))) (need [U5 ((j:Int)+1)] (need [W,Q4 n a b u v,XL,QX=QX,X6,XY,UJ (k:Int),A,UJ (k:Int),A,(j:Int)+1=(↑(j+1):Int),125=125,HH 125 (UW (c:Int) T U O (ini c k j)) (UW (c:Int) T U O (ini c k (j+1))),UJ (c:Int),T=T,U=U,O=O] (leaf GR.normal)))) (need [W,Q4 n a b u v,XL,QX=QX,X6,XY,UJ (k:Int),A,UJ (k:Int),A,(j:Int)=(c:Int)+1,125=125,HH 125 (UW (c:Int) T U O (ini c k j)) (UW (c:Int) T U O (ini c k (c+1))),UJ (c:Int),T=T,U=U,O=O] (leaf (GR.exit 2))))) UD ?_);simp only [Ju9,EZ,U6.sat,HF] at hQ;simp only [U6.sat,UU,GS,H6,UX,U5,G4,HU,RW,L1,LP,HC,EZ]
 refine ⟨λh=>⟨λhne=>?_,λheq=>?_⟩,λh=>?_⟩
 ·(with_reducible repeat' first|apply Al|intro _)
  all_goals first|exact B4|(exact (iL c T U O _ U3 U3 _ _).trans (uJ c T U O (λx y _ _=>Ws6 c k j U3 U3 x y) (by assumption)))
 ·obtain rfl:k=j:=U3
  (with_reducible repeat' first|apply Al|intro _)
  all_goals first|exact B4|(exact uJ c T U O (λx y _ _=>Ws7 c k x y) (by assumption))
 ·obtain rfl:j=c+1:=U3
  (with_reducible repeat' first|apply Al|intro _)
  all_goals first|exact Ak|omega|with_reducible rfl|(rename_i E hE;cases hE;exact hQ)|rfl
theorem Jk7(UB:1<=c/\c<=10)(UY:1<=U/\U<=O/\O<=200/\1<=T/\T<=2000):GU U8 (.loop Jc1) (Ze9 c T U O n a b u v):=by
 refine GL [] (L:=[qM 7 (λk=>RH [k<=c] (Ze8 c T U O n a b u v k))]) (Ae PJ Aa) (Ai Ab (Ag PA Ac)) UI (GJ (λcj hcj=>by
  have e:UC Jc1 0=some (.loop Jz6):=UD;rw [e] at hcj;cases hcj;exact PW (λk=>DU (λh=>Jk6 c T U O n a b u v k UB UY h)))) (X:=Nat) (Wp9 c T U O n a b u v) (λk=>k<=c+1) (λk=>c+1-k) (I0 c T U O n a b u v) (x0:=0) UE ?_ ?_ ?_
 rintro k;kernel_rfl;rintro k y E h;unfold I0 at h;split at h;cases h;kernel_rfl;cases h;rintro Q hQ k hx;refine ⟨(k+1),?_⟩;(with_reducible refine F4 (t:=let A:=(UJ (agg [iI (c:Int),iI T,iI U,iI O]));let W:=(UJ ((c:Int)+1));(branch (decide ((k:Int)<(c:Int)+1)) (need [U5 ((c:Int)+1)] (need [k<=c] (need [A,Q4 n a b u v,XL,QX=QX,X6,XY,UJ (k:Int),W,UJ (k:Int),W,(0:Int)=((0:Nat):Int),125=125,HB 125 (UW (c:Int) T U O (ini c k 0)),UJ (c:Int),T=T,U=U,O=O] (need [U5 ((k:Int)+1)] (need [A,Q4 n a b u v,XL,QX=QX,X6,XY,W,(k:Int)+1=(↑(k+1):Int),125=125,HH 125 (UW (c:Int) T U O (ini c k (c+1))) (UW (c:Int) T U O (ini c (k+1) 0)),UJ (c:Int),T=T,U=U,O=O] (leaf GR.normal)))))) (need [A,Q4 n a b u v,XL,QX=QX,X6,XY,W,(k:Int)=(c:Int)+1,125=125,HH 125 (UW (c:Int) T U O (ini c k 0)) (UW (c:Int) T U O (ini c (c+1) 0)),UJ (c:Int),T=T,U=U,O=O] (leaf (GR.exit 0))))) UD ?_);simp only [Jv0,I0,U6.sat,HF] at hQ;simp only [U6.sat,UU,GS,H6,UX,U5,G4,HU,RW,L1,LP,HC,I0]
 refine ⟨λh=>?_,λh=>?_⟩
 ·(with_reducible repeat' first|apply Al|intro _)
  all_goals first|exact B4|(exact uJ c T U O (λx y _ _=>Xp3 c k x y) (by assumption))
 ·obtain rfl:k=c+1:=U3
  (with_reducible repeat' first|apply Al|intro _)
  all_goals first|exact Ak|omega|with_reducible rfl|(rename_i E hE;cases hE;exact hQ)|rfl
end
def cel(c:Nat)(U O:Int):Nat->Nat->Nat->Int
 | 0=>ini c (c+1) 0
 |k+1=>bnd (bnd (cel c U O k) k (k+1) O) (k+1) k (-U)
theorem k6{c T U O:Int}{M:Nat->Cg}{a b q:Nat}{v:Int}(hq:q=4+a*11+b)(hb:b<11):GE q (min (UW c T U O M q) v) (UW c T U O M)=UW c T U O (bnd M a b v):=by
 funext k;rw [iL c T U O M hq hb,wE c T U O M hq hb];rfl
section
variable (c:Nat)(T U O:Int)(n:Nat)(a b u v:Cg)
def NS:St:={σ:=[agg [iI (c:Int),iI T,iI U,iI O],XA n a b u v,ptr 0 0,top,QX,AV.lit false,ptr 5 0]++D6 15 [iI ((c:Int)+1),iI ((c:Int)+1)]++D6 21 [iI (c:Int)]++D6 132 [],m:=[(5,H9.ints 301 [] 125 λk=>UW (c:Int) T U O (ini c (c+1) 0) k),(0,H9.cells 49 [iI (c:Int),iI T,iI U,iI O])],nx:=14}
noncomputable def eI:Code:=UT (UC (UP Tryz.f158) 1)
def BP(k:Nat):St:=(upE [(46,i k)] [(5,.ints 301 [] 125 (UW c T U O (cel c U O k))),(0,.cells 49 [i c,i T,i U,i O])] (NS c T U O n a b u v))
def xQ(k:Nat):GR->Option St
 | .exit 4=>some (upE [(46,i c)] [(5,.ints 301 [] 125 (UW c T U O (cel c U O c))),(0,.cells 49 [i c,i T,i U,i O])] (NS c T U O n a b u v))
 |_=>none
def Wa8:CT:= .leaf (.exit 4,(xQ c T U O n a b u v 0 (.exit 4)).getD (NS c T U O n a b u v))
def oT:G5:=H4 [] (D1 (BP c T U O n a b u v (0)) (Wa8 c T U O n a b u v))
theorem Jk3(UB:1<=c/\c<=10)(UY:1<=U/\U<=O/\O<=200/\1<=T/\T<=2000):GU U8 (.loop eI) (oT c T U O n a b u v):=by
 refine GL [] (L:=[]) (Ae PJ Aa) (Ai Ab (Ag PA Ac)) UI UN (X:=Nat) (BP c T U O n a b u v) (λk=>k<=c) (λk=>c-k) (xQ c T U O n a b u v) (x0:=0) UE ?_ ?_ ?_;rintro k;kernel_rfl;rintro k y E h;unfold xQ at h;split at h;cases h;kernel_rfl;cases h;rintro Q hQ k hx;refine ⟨(k+1),?_⟩;(with_reducible refine F4 (t:=let A:=(UW (c:Int) T U O (cel c U O k) (((k:Int)+1).toNat*1+(k*11+4)));let W:=(GE (((k:Int)+1).toNat*1+(k*11+4)) (min A O) (UW (c:Int) T U O (cel c U O k)) (k*1+(((k:Int)+1).toNat*11+4)));let z2:=(UJ ((c:Int)+1));(branch (decide ((k:Int)<(c:Int))) (need [U5 ((k:Int)+1)] (need [G7 k 11] (need [G7 ((k:Int)+1) 11] (need [((k:Int)+1).toNat*1+(k*11+4)<125] (need [G7 k 11] (need [G7 ((k:Int)+1) 11] (need [((k:Int)+1).toNat*1+(k*11+4)+List.length [min A O]<=125] (need [U5 ((k:Int)+1)] (need [U5 (-U)] (need [G7 ((k:Int)+1) 11] (need [G7 k 11] (need [k*1+(((k:Int)+1).toNat*11+4)<125] (need [G7 ((k:Int)+1) 11] (need [G7 k 11] (need [k*1+(((k:Int)+1).toNat*11+4)+List.length [min W (-U)]<=125] (need [U5 ((k:Int)+1)] (need [UJ (agg [iI (c:Int),iI T,iI U,iI O]),Q4 n a b u v,XL,QX=QX,X6,XY,z2,z2,UJ (c:Int),(k:Int)+1=(↑(k+1):Int),125=125,HH 125 (GE (k*1+(((k:Int)+1).toNat*11+4)) (min W (-U)) (kJ (((k:Int)+1).toNat*1+(k*11+4)) [min A O] (UW (c:Int) T U O (cel c U O k)))) (UW (c:Int) T U O (cel c U O (k+1))),UJ (c:Int),T=T,U=U,O=O] (leaf GR.normal)))))))))))))))))) (need [UJ (agg [iI (c:Int),iI T,iI U,iI O]),Q4 n a b u v,XL,QX=QX,X6,XY,z2,z2,UJ (c:Int),(k:Int)=(c:Int),125=125,HH 125 (UW (c:Int) T U O (cel c U O k)) (UW (c:Int) T U O (cel c U O c)),UJ (c:Int),T=T,U=U,O=O] (leaf (GR.exit 4))))) UD ?_);simp only [Wa8,xQ,U6.sat,HF] at hQ;simp only [U6.sat,UU,GS,H6,UX,U5,G4,HU,RW,L1,LP,HC,xQ]
 refine ⟨λh=>?_,λh=>?_⟩
 ·have h1: ∀M v,GE (((k:Int)+1).toNat*1+(k*11+4)) (min (UW c T U O M (((k:Int)+1).toNat*1+(k*11+4))) v) (UW c T U O M)=UW c T U O (bnd M k (k+1) v):=λM v=>k6 U3 U3;have h2: ∀M v,GE (k*1+(((k:Int)+1).toNat*11+4)) (min (UW c T U O M (k*1+(((k:Int)+1).toNat*11+4))) v) (UW c T U O M)=UW c T U O (bnd M (k+1) k v):=λM v=>k6 U3 U3;simp only [h1,h2]
  (with_reducible repeat' first|apply Al|intro _)
  all_goals first|exact Ak|omega|with_reducible rfl|(rename_i E hE;cases hE;exact hQ)|rfl
 ·obtain rfl:k=c:=U3
  (with_reducible repeat' first|apply Al|intro _)
  all_goals first|exact Ak|omega|with_reducible rfl|(rename_i E hE;cases hE;exact hQ)|rfl
end
def rdS(c:Nat)(M:Nat->Cg)(a b u v:Int):Nat->Cg:=if b<(c:Int) then bnd (bnd M a.toNat b.toNat v) (b+1).toNat a.toNat (-u-1) else bnd M a.toNat b.toNat v
def rdM(c:Nat)(T U O:Int)(a b u v:Cg):Nat->Nat->Nat->Int
 | 0=>bnd (bnd (cel c U O c) 0 c T) c 0 (-T)
 |j+1=>rdS c (rdM c T U O a b u v j) (a j) (b j) (u j) (v j)
def rdV(a b u v:Int):Value:= .agg #[.int .i64 a,.int .i64 b,.int .i64 u,.int .i64 v]
def sn(a b u v:Cg)(k:Nat)(x:Value):Prop:= ∃j,j<k/\x=rdV (a j) (b j) (u j) (v j)
def Jn0(x:Value):Prop:= ∃a b u v,x=rdV a b u v
theorem Wj0(a b u v:Int)(e:G8)(w:World):Rep e w (.agg [i a,i b,i u,i v]) (rdV a b u v):=
 Rep.aggL (UM.cons (.x _) (UM.cons (.x _) (UM.cons (.x _) (UM.one (.x _)))))
theorem Qu3(a b u v:Int):RC Tryz.prog 303 Jn0 (rdV a b u v) (.bool false):=by
 refine ⟨⟨145,4,(match Tryz.prog.underlying 145 with|some (.struct fs)=>fs|_=>#[]),UD,UD,?_,?_,?_⟩,by simp [Instr.sameBits,rdV]⟩
 intro b' w;kernel_rfl;rintro k' ⟨a',b',u',v',rfl⟩ w;refine ⟨a==a'&&(b==b'&&(u==u'&&(v==v'&&true)&&true)),zQ (P:=Tryz.prog) (e:=BA w w) Op.maxDepth 145 (.agg [i a,i b,i u,i v]) (.agg [i a',i b',i u',i v']) _ _ _ UD (Wj0 ..) (Wj0 ..),λh=>?_⟩;simp only [Bool.and_true,HV,beq_iff_eq] at h;obtain ⟨rfl,rfl,rfl,rfl⟩:=h;rfl;intro w;kernel_rfl
theorem Za2{a b u v:Cg}{k:Nat}{x:Value}(h:sn a b u v k x):Jn0 x:=by
 obtain ⟨j,_,h⟩:=h;exact ⟨_,_,_,_,h⟩
section
variable (M:Nat->Cg)(a b:Nat)(v:Int)
theorem xT(x y:Nat):bnd M a b v x y<=M x y:=by
 unfold bnd z9;split;rename_i h;rw [h.1,h.2];omega;omega
theorem cK:bnd M a b v a b<=v:=by
 unfold bnd z9;rw [if_pos ⟨rfl,rfl⟩];omega
end
theorem Xb4{M:Nat->Cg}{a b:Nat}{v:Int}(h:M a b<=v):bnd M a b v=M:=by
 funext x y;unfold bnd z9;split;rename_i h';rw [h'.1,h'.2];omega;rfl
section
variable (c:Nat)(M:Nat->Cg)(a b u v:Int)
theorem Zq2(x y:Nat):rdS c M a b u v x y<=M x y:=by
 unfold rdS;split;exact Bx (xT _ _ _ _ _ _) (xT _ _ _ _ _ _);exact xT _ _ _ _ _ _
theorem Zq4:rdS c M a b u v a.toNat b.toNat<=v/\(b<c->rdS c M a b u v (b+1).toNat a.toNat<= -u-1):=by
 unfold rdS;split;exact ⟨Bx (xT _ _ _ _ _ _) (cK _ _ _ _),λ_=>cK _ _ _ _⟩;exact ⟨cK _ _ _ _,λh=>U3⟩
end
theorem Zq3{c:Nat}{M:Nat->Cg}{a b u v:Int}(h:M a.toNat b.toNat<=v)(h2:b<c->M (b+1).toNat a.toNat<= -u-1):rdS c M a b u v=M:=by
 unfold rdS;rw [Xb4 h];split;rename_i hb;exact Xb4 (h2 hb);rfl
theorem EL(c:Nat)(T U O:Int)(a b u v:Cg)(j:Nat): ∀(k:Nat),j<=k-> ∀x y,rdM c T U O a b u v k x y<=rdM c T U O a b u v j x y
 | 0,h,x,y=>by
           obtain rfl:j=0:=U3;exact Int.le_refl _
 |k+1,h,x,y=>by
  rcases (show j=k+1\/j<=k by omega) with rfl|h
  exact Int.le_refl _;exact Bx (Zq2 _ _ _ _ _ _ _ _) (EL c T U O a b u v j k h x y)
theorem Wj6{c:Nat}{T U O:Int}{a b u v:Cg}{k:Nat}(h:sn a b u v k (rdV (a k) (b k) (u k) (v k))):rdM c T U O a b u v (k+1)=rdM c T U O a b u v k:=by
 obtain ⟨j,hj,he⟩:=h;unfold rdV at he;injection he with he
 injection he with he
 have e:a k=a j/\b k=b j/\u k=u j/\v k=v j:=by simpa using he
 have h1:=Zq4 c (rdM c T U O a b u v j) (a j) (b j) (u j) (v j);have m:=EL c T U O a b u v (j+1) k U3;refine Zq3 ?_ (λhb=>?_);rw [e.1,e.2.1,e.2.2.2];exact Bx (m _ _) h1.1;rw [e.1,e.2.1,e.2.2.1];exact Bx (m _ _) (h1.2 (by rw [←e.2.1];exact hb))
section
variable (c:Nat)(T U O:Int)(n:Nat)(a b u v:Cg)
def Zz7:St:={σ:=[agg [iI (c:Int),iI T,iI U,iI O],XA n a b u v,ptr 0 0,top,QX,AV.lit false,ptr 5 0,top,top,top,AV.mp 63]++D6 11 [iI ((c:Int)+1),iI ((c:Int)+1)]++D6 21 [iI (c:Int),iI (c:Int)]++D6 34 [XA n a b u v,iI (n:Int)]++D6 95 [],m:=[(63,H9.memo (λx=>False) λv=>v),(56,H9.row 3 1 2 (UO 1 [iI (GE (c*1+4) (min (UW (c:Int) T U O (cel c U O c) (c*1+4)) T) (UW (c:Int) T U O (cel c U O c)) (0+(c*11+4))),iI (-T)])),(31,H9.row 3 1 2 (UO 1 [iI (UW (c:Int) T U O (cel c U O c) (c*1+4)),iI T])),(5,H9.ints 301 [] 125 λa=>GE (0+(c*11+4)) (min (GE (c*1+4) (min (UW (c:Int) T U O (cel c U O c) (c*1+4)) T) (UW (c:Int) T U O (cel c U O c)) (0+(c*11+4))) (-T)) (kJ (c*1+4) [min (UW (c:Int) T U O (cel c U O c) (c*1+4)) T] (UW (c:Int) T U O (cel c U O c))) a),(0,H9.cells 49 [iI (c:Int),iI T,iI U,iI O])],nx:=68}
noncomputable def Jz5:Code:=UT (UC (UP Tryz.f158) 2)
def Wp7(k:Nat):St:=(upE [(83,i k)] [(5,.ints 301 [] 125 (UW c T U O (rdM c T U O a b u v k))),(0,.cells 49 [i c,i T,i U,i O]),(63,.memo (sn a b u v k) (λ_=> .bool true))] (Zz7 c T U O n a b u v))
def EY(k:Nat):GR->Option St
 | .exit 6=>some (upE [(83,i n)] [(5,.ints 301 [] 125 (UW c T U O (rdM c T U O a b u v n))),(0,.cells 49 [i c,i T,i U,i O]),(63,.memo (sn a b u v n) (λ_=> .bool true))] (Zz7 c T U O n a b u v))
 |_=>none
def Ju8:CT:= .leaf (.exit 6,(EY c T U O n a b u v 0 (.exit 6)).getD (Zz7 c T U O n a b u v))
def Ze7:G5:=H4 [] (D1 (Wp7 c T U O n a b u v (0)) (Ju8 c T U O n a b u v))
abbrev ZJ:Prop:=AV.mp 63=AV.mp 63
theorem Jj8(UB:1<=c/\c<=10)(UY:1<=U/\U<=O/\O<=200/\1<=T/\T<=2000)(DF:n<=1000)(FS:F1 (λk=>rdB c (a k) (b k) (u k) (v k)) n=true):GU U8 (.loop Jz5) (Ze7 c T U O n a b u v):=by
 refine GL [] (L:=[]) (Ae PJ Aa) (Ai Ab (Ag PA Ac)) UI UN (X:=Nat) (Wp7 c T U O n a b u v) (λk=>k<=n) (λk=>n-k) (EY c T U O n a b u v) (x0:=0) UE ?_ ?_ ?_;rintro k;kernel_rfl;rintro k y E h;unfold EY at h;split at h;cases h;kernel_rfl;cases h;rintro Q hQ k hx;refine ⟨(k+1),?_⟩
 (with_reducible refine F4 (t:=let z9:=sn a b u v k;let z3:=(Value.agg #[Value.int IntKind.i64 (a k),Value.int IntKind.i64 (b k),Value.int IntKind.i64 (u k),Value.int IntKind.i64 (v k)]);let z7:=(rdM c T U O a b u v k);let z2:=(UW (c:Int) T U O z7 ((b k).toNat*1+((a k).toNat*11+4)));let z10:=(UW (c:Int) T U O z7);let z5:=(GE ((b k).toNat*1+((a k).toNat*11+4)) (min z2 (v k)) z10 ((a k).toNat*1+((b k+1).toNat*11+4)));let z6:=(UJ (agg [iI (c:Int),iI T,iI U,iI O]));let z8:=Q4 n a b u v;let z4:=(UJ ((c:Int)+1));let z11:=(rdM c T U O a b u v (k+1));let A:=(need [∀(u_1:Value),z9 u_1->Value.bool true=Value.bool true,RC Tryz.prog 303 (λu_1=>z9 u_1\/u_1=Value.agg #[Value.int IntKind.i64 (a k),Value.int IntKind.i64 (b k),Value.int IntKind.i64 (u k),Value.int IntKind.i64 (v k)]) z3 (YH)] (need [G7 (a k) 11] (need [G7 (b k) 11] (need [(b k).toNat*1+((a k).toNat*11+4)<125] (need [G7 (a k) 11] (need [G7 (b k) 11] (need [(b k).toNat*1+((a k).toNat*11+4)+List.length [min z2 (v k)]<=125] (branch (decide (b k<(c:Int))) (need [U5 (b k+1)] (need [U5 (-u k)] (need [U5 (-u k-1)] (need [G7 (b k+1) 11] (need [G7 (a k) 11] (need [(a k).toNat*1+((b k+1).toNat*11+4)<125] (need [G7 (b k+1) 11] (need [G7 (a k) 11] (need [(a k).toNat*1+((b k+1).toNat*11+4)+List.length [min z5 (-u k-1)]<=125] (need [U5 ((k:Int)+1)] (need [z6,z8,XL,QX=QX,X6,XY,ZJ,z4,z4,UJ (c:Int),UJ (c:Int),z8,UJ (n:Int),(k:Int)+1=(↑(k+1):Int),125=125,HH 125 (GE ((a k).toNat*1+((b k+1).toNat*11+4)) (min z5 (-u k-1)) (kJ ((b k).toNat*1+((a k).toNat*11+4)) [min z2 (v k)] z10)) (UW (c:Int) T U O z11),UJ (c:Int),T=T,U=U,O=O,∀(k_1:Value),z9 k_1\/k_1=Value.agg #[Value.int IntKind.i64 (a k),Value.int IntKind.i64 (b k),Value.int IntKind.i64 (u k),Value.int IntKind.i64 (v k)]->sn a b u v (k+1) k_1/\Value.bool true=Value.bool true] (leaf GR.normal)))))))))))) (need [U5 ((k:Int)+1)] (need [z6,z8,XL,QX=QX,X6,XY,ZJ,z4,z4,UJ (c:Int),UJ (c:Int),z8,UJ (n:Int),(k:Int)+1=(↑(k+1):Int),125=125,HH 125 (GE ((b k).toNat*1+((a k).toNat*11+4)) (min z2 (v k)) z10) (UW (c:Int) T U O z11),UJ (c:Int),T=T,U=U,O=O,∀(k_1:Value),z9 k_1\/k_1=Value.agg #[Value.int IntKind.i64 (a k),Value.int IntKind.i64 (b k),Value.int IntKind.i64 (u k),Value.int IntKind.i64 (v k)]->sn a b u v (k+1) k_1/\Value.bool true=Value.bool true] (leaf GR.normal)))))))))));let W:=(need [U5 ((k:Int)+1)] (need [z6,z8,XL,QX=QX,X6,XY,ZJ,z4,z4,UJ (c:Int),UJ (c:Int),z8,UJ (n:Int),(k:Int)+1=(↑(k+1):Int),125=125,HH 125 (UW (c:Int) T U O z7) (UW (c:Int) T U O z11),UJ (c:Int),T=T,U=U,O=O,∀(k_1:Value),z9 k_1->sn a b u v (k+1) k_1/\Value.bool true=Value.bool true] (leaf GR.normal)));(branch (decide ((k:Int)<(n:Int))) (need [G7 k n] (need [RC Tryz.prog 303 (z9) z3 (YH)] (U6.may (z9 z3) (branch true W A) (branch false W A)))) (need [z6,z8,XL,QX=QX,X6,XY,ZJ,z4,z4,UJ (c:Int),UJ (c:Int),z8,UJ (n:Int),(k:Int)=(n:Int),125=125,HH 125 (UW (c:Int) T U O z7) (UW (c:Int) T U O (rdM c T U O a b u v n)),UJ (c:Int),T=T,U=U,O=O,∀(k_1:Value),z9 k_1->sn a b u v n k_1/\Value.bool true=Value.bool true] (leaf (GR.exit 6))))) UD ?_)
 simp only [Ju8,EY,U6.sat,HF] at hQ;simp only [U6.sat,UU,GS,H6,UX,U5,G4,HU,RW,L1,LP,HC,EY]
 have hv: ∀j,j<n->(0<=a j/\a j<=c-1)/\(a j<=b j/\b j<=c)/\0<=u j/\u j<=v j/\v j<=2000:=by
  intro j hj;have:=HG.1 FS j hj;simp only [rdB,HV,bt_iff,insB_iff] at this;omega
 refine ⟨λh=>?_,λh=>?_⟩;have hk:=hv k U3;have mk:=Qu3 (a k) (b k) (u k) (v k);have q1:RC Tryz.prog 303 (sn a b u v k) (rdV (a k) (b k) (u k) (v k)) (.bool false):=mk.mono (λx hx=>Za2 hx);have q2:RC Tryz.prog 303 (λx=>sn a b u v k x\/x=rdV (a k) (b k) (u k) (v k)) (rdV (a k) (b k) (u k) (v k)) (.bool false):=mk.mono (λx hx=>hx.elim Za2 (λhe=>⟨_,_,_,_,he⟩));have sn1: ∀x,sn a b u v k x->sn a b u v (k+1) x:=λx ⟨j,hj,he⟩=>⟨j,U3,he⟩;have sn2:sn a b u v (k+1) (rdV (a k) (b k) (u k) (v k)):=⟨k,U3,rfl⟩;refine ⟨U3,q1,λhs=>⟨λ_=>?_,λhc=>absurd hc (by decide)⟩,λhc=>absurd hc (by decide),λ_=>?_⟩
 ·rw [Wj6 hs]
  (with_reducible repeat' first|apply Al|intro _)
  all_goals first|exact B4|(exact sn1 _ (by assumption))
 have h1: ∀M w,GE ((b k).toNat*1+((a k).toNat*11+4)) (min (UW c T U O M ((b k).toNat*1+((a k).toNat*11+4))) w) (UW c T U O M)=UW c T U O (bnd M (a k).toNat (b k).toNat w):=λM w=>k6 U3 U3;refine ⟨⟨λ_ _=>trivial,q2⟩,?_⟩;simp only [h1];refine ⟨U3,U3,U3,U3,U3,U3,λhb=>?_,λhb=>?_⟩;have h2: ∀M w,GE ((a k).toNat*1+((b k+1).toNat*11+4)) (min (UW c T U O M ((a k).toNat*1+((b k+1).toNat*11+4))) w) (UW c T U O M)=UW c T U O (bnd M (b k+1).toNat (a k).toNat w):=λM w=>k6 U3 U3;have e3:rdM c T U O a b u v (k+1)=bnd (bnd (rdM c T U O a b u v k) (a k).toNat (b k).toNat (v k)) (b k+1).toNat (a k).toNat (-u k-1):=by
  show rdS _ _ _ _ _ _=_;unfold rdS;rw [if_pos hb]
 simp only [h2,e3];exact U1;have e3:rdM c T U O a b u v (k+1)=bnd (rdM c T U O a b u v k) (a k).toNat (b k).toNat (v k):=by
  show rdS _ _ _ _ _ _=_;unfold rdS;rw [if_neg hb]
 simp only [e3];exact U1;obtain rfl:k=n:=U3;exact VR
end
def fwS(M:Nat->Cg)(o f t:Nat):Nat->Cg:=bnd M f t (M f o+M o t)
def fwT(M:Nat->Cg)(o f:Nat):Nat->Nat->Nat->Int
 | 0=>M
 |t+1=>fwS (fwT M o f t) o f t
def fwF(c:Nat)(M:Nat->Cg)(o:Nat):Nat->Nat->Nat->Int
 | 0=>M
 |f+1=>fwT (fwF c M o f) o f (c+1)
def fwO(c:Nat)(M:Nat->Cg):Nat->Nat->Nat->Int
 | 0=>M
 |o+1=>fwF c (fwO c M o) o (c+1)
def LB(B:Int)(M:Nat->Cg):Prop:= ∀x y,-B<=M x y/\M x y<=2000
def JB(B:Int)(o f t:Nat)(M:Nat->Cg):Prop:= ∀x y,M x y<=2000/\ -(6*B)<=M x y/\(x=o-> -(3*B)<=M x y)/\(y=o-> -(3*B)<=M x y)/\(x=o->y=o-> -(2*B)<=M x y)/\(¬(x<f\/(x=f/\y<t))-> -B<=M x y)
theorem Xh4{B:Int}{o:Nat}{M:Nat->Cg}(hB:0<=B)(h:LB B M):JB B o 0 0 M:=by
 intro x y;have:=h x y;refine ⟨U3,U3,λ_=>U3,λ_=>U3,λ_ _=>U3,λ_=>U3⟩
theorem Xw4{B:Int}{o f t:Nat}{M:Nat->Cg}(hB:0<=B)(h:JB B o f t M):JB B o f (t+1) (fwS M o f t):=by
 have hft:=h f t;have hfo:=h f o;have hot:=h o t;have hoo:=h o o;have I:=hft.2.2.2.2.2 U3;intro x y;have hxy:=h x y;unfold fwS bnd z9;by_cases hc:x=f/\y=t;exact VI;rw [if_neg hc];exact ⟨hxy.1,hxy.2.1,hxy.2.2.1,hxy.2.2.2.1,hxy.2.2.2.2.1,λhv=>hxy.2.2.2.2.2 U3⟩
theorem Zz0{B:Int}{o f:Nat}{M:Nat->Cg}(hB:0<=B)(h:JB B o f 0 M): ∀t,JB B o f t (fwT M o f t)
 | 0=>h
 |t+1=>Xw4 hB (Zz0 hB h t)
theorem Zy9{B:Int}{o f t:Nat}{M:Nat->Cg}(h:JB B o f t M):JB B o (f+1) 0 M:=by
 intro x y;have hxy:=h x y;exact ⟨hxy.1,hxy.2.1,hxy.2.2.1,hxy.2.2.2.1,hxy.2.2.2.2.1,λhv=>hxy.2.2.2.2.2 U3⟩
theorem Zz1{B:Int}{c o:Nat}{M:Nat->Cg}(hB:0<=B)(h:LB B M): ∀f,JB B o f 0 (fwF c M o f)
 | 0=>Xh4 hB h
 |f+1=>Zy9 (Zz0 hB (Zz1 hB h f) (c+1))
theorem Zy8{c:Nat}{M:Nat->Cg}(h:LB 2001 M): ∀o,LB (2001*6^o) (fwO c M o)
 | 0=>by
  rw [show (2001:Int)*6^0=2001 by decide]
  exact h
 |o+1=>by
  have ih:=Zy8 (c:=c) h o;have hp:(0:Int)<=2001*6^o:=Bz U3 (Int.pow_nonneg U3);have hj:=Zz1 (c:=c) (o:=o) hp ih (c+1);intro x y;have:=hj x y;have e:(2001:Int)*6^(o+1)=6*(2001*6^o):=by rw [Int.pow_succ];omega
  rw [e];exact ⟨this.2.1,this.1⟩
theorem Jl0: ∀o:Nat,o<=10->(6:Int)^o<=60466176:=by
 intro o ho;rcases (show o=0\/o=1\/o=2\/o=3\/o=4\/o=5\/o=6\/o=7\/o=8\/o=9\/o=10 by omega) with rfl|rfl|rfl|rfl|rfl|rfl|rfl|rfl|rfl|rfl|rfl<;>decide
theorem Jq4{c:Nat}{M:Nat->Cg}(h:LB 2001 M){o f t:Nat}(ho:o<=10)(x y:Nat): -800000000000<=fwT (fwF c (fwO c M o) o f) o f t x y/\fwT (fwF c (fwO c M o) o f) o f t x y<=2000:=by
 have ih:=Zy8 (c:=c) h o;have hp:(0:Int)<=2001*6^o:=Bz U3 (Int.pow_nonneg U3);have hj:=Zz0 hp (Zz1 (c:=c) (o:=o) hp ih f) t x y;have:=Jl0 o ho;omega
theorem gI{B:Int}{M:Nat->Cg}(h:LB B M){a b:Nat}{v:Int}(hv: -B<=v):LB B (bnd M a b v):=by
 intro x y;have h1:=h a b;have h2:=h x y;unfold bnd z9;split<;>omega
theorem Xa6{c:Nat}{U O:Int}(h:1<=U/\U<=O/\O<=200): ∀k,LB 2001 (cel c U O k)
 | 0=>by
  intro x y;unfold cel ini;split<;>omega
 |k+1=>gI (gI (Xa6 h k) U3) U3
theorem s6{c:Nat}{T U O:Int}{a b u v:Cg}{n:Nat}(h:1<=U/\U<=O/\O<=200/\1<=T/\T<=2000)(hv: ∀j,j<n->0<=u j/\u j<=v j/\v j<=2000): ∀k,k<=n->LB 2001 (rdM c T U O a b u v k)
 | 0,_=>gI (gI (Xa6 U3 c) U3) U3
 |k+1,hk=>by
  have ih:=s6 (c:=c) (a:=a) (b:=b) h hv k U3;have:=hv k U3;show LB 2001 (rdS _ _ _ _ _ _);unfold rdS;split;exact gI (gI ih U3) U3;exact gI ih U3
section
variable (c:Nat)(T U O:Int)(n:Nat)(a b u v:Cg)
def Qf1:St:={σ:=[agg [iI (c:Int),iI T,iI U,iI O],XA n a b u v,ptr 0 0,top,QX,AV.lit false,ptr 5 0,top,top,top,AV.mp 63]++D6 11 [iI ((c:Int)+1),iI ((c:Int)+1)]++D6 21 [iI (c:Int),iI (c:Int)]++D6 34 [XA n a b u v,iI (n:Int),iI (n:Int)]++D6 37 [iI ((c:Int)+1)]++D6 56 [],m:=[(5,H9.ints 301 [] 125 λk=>UW (c:Int) T U O (rdM c T U O a b u v n) k),(0,H9.cells 49 [iI (c:Int),iI T,iI U,iI O]),(63,H9.memo (λx=>sn a b u v n x) λx=>Value.bool true)],nx:=72}
noncomputable def Wb2:Code:=UT (UC (UP Tryz.f158) 3)
def M1(o:Nat):St:=(upE [(122,i o)] [(5,.ints 301 [] 125 (UW c T U O (fwO c (rdM c T U O a b u v n) o))),(0,.cells 49 [i c,i T,i U,i O])] (Qf1 c T U O n a b u v))
def wI(o:Nat):GR->Option St
 | .exit 8=>some (upE [(122,i ((c:Int)+1))] [(5,.ints 301 [] 125 (UW c T U O (fwO c (rdM c T U O a b u v n) (c+1)))),(0,.cells 49 [i c,i T,i U,i O])] (Qf1 c T U O n a b u v))
 |_=>none
def Xd7:CT:= .leaf (.exit 8,(wI c T U O n a b u v 0 (.exit 8)).getD (Qf1 c T U O n a b u v))
def oS:G5:=H4 [] (D1 (M1 c T U O n a b u v (0)) (Xd7 c T U O n a b u v))
def Zz6(o:Nat):St:={σ:=[agg [iI (c:Int),iI T,iI U,iI O],XA n a b u v,ptr 0 0,top,QX,AV.lit false,ptr 5 0,top,top,top,AV.mp 63,top,top,iI (o:Int)]++D6 8 [iI ((c:Int)+1),iI ((c:Int)+1)]++D6 21 [iI (c:Int),iI (c:Int)]++D6 34 [XA n a b u v,iI (n:Int),iI (n:Int)]++D6 37 [iI ((c:Int)+1),iI (o:Int),top,top,top,top,iI ((c:Int)+1)]++D6 50 [],m:=[(5,H9.ints 301 [] 125 λk=>UW (c:Int) T U O (fwO c (rdM c T U O a b u v n) o) k),(0,H9.cells 49 [iI (c:Int),iI T,iI U,iI O])],nx:=79}
noncomputable def Jc0:Code:=(UT (UC (UT (UC (UP Tryz.f158) 3)) 0))
def Wp6(o:Nat)(f:Nat):St:=(upE [(128,i f)] [(5,.ints 301 [] 125 (UW c T U O (fwF c (fwO c (rdM c T U O a b u v n) o) o f))),(0,.cells 49 [i c,i T,i U,i O])] (Zz6 c T U O n a b u v o))
def EX(o:Nat)(f:Nat):GR->Option St
 | .exit 10=>some (upE [(128,i ((c:Int)+1))] [(5,.ints 301 [] 125 (UW c T U O (fwF c (fwO c (rdM c T U O a b u v n) o) o (c+1)))),(0,.cells 49 [i c,i T,i U,i O])] (Zz6 c T U O n a b u v o))
 |_=>none
def Ju7(o:Nat):CT:= .leaf (.exit 10,(EX c T U O n a b u v o 0 (.exit 10)).getD (Zz6 c T U O n a b u v o))
def Ze6(o:Nat):G5:=H4 [] (D1 (Wp6 c T U O n a b u v o (0)) (Ju7 c T U O n a b u v o))
def eF(o:Nat)(f:Nat):St:={σ:=[agg [iI (c:Int),iI T,iI U,iI O],XA n a b u v,ptr 0 0,top,QX,AV.lit false,ptr 5 0,top,top,top,AV.mp 63,top,top,iI (o:Int),iI (f:Int)]++D6 7 [iI ((c:Int)+1),iI ((c:Int)+1)]++D6 21 [iI (c:Int),iI (c:Int)]++D6 34 [XA n a b u v,iI (n:Int),iI (n:Int)]++D6 37 [iI ((c:Int)+1),iI (o:Int),top,top,top,top,iI ((c:Int)+1),iI (f:Int),top,top,top,top,iI ((c:Int)+1)]++D6 44 [],m:=[(5,H9.ints 301 [] 125 λk=>UW (c:Int) T U O (fwF c (fwO c (rdM c T U O a b u v n) o) o f) k),(0,H9.cells 49 [iI (c:Int),iI T,iI U,iI O])],nx:=86}
noncomputable def Xk2:Code:=(UT (UC (UT (UC (UT (UC (UP Tryz.f158) 3)) 0)) 0))
def M0(o:Nat)(f:Nat)(t:Nat):St:=(upE [(134,i t)] [(5,.ints 301 [] 125 (UW c T U O (fwT (fwF c (fwO c (rdM c T U O a b u v n) o) o f) o f t))),(0,.cells 49 [i c,i T,i U,i O])] (eF c T U O n a b u v o f))
def BM(o:Nat)(f:Nat)(t:Nat):GR->Option St
 | .exit 12=>some (upE [(134,i ((c:Int)+1))] [(5,.ints 301 [] 125 (UW c T U O (fwT (fwF c (fwO c (rdM c T U O a b u v n) o) o f) o f (c+1)))),(0,.cells 49 [i c,i T,i U,i O])] (eF c T U O n a b u v o f))
 |_=>none
def Xd6(o:Nat)(f:Nat):CT:= .leaf (.exit 12,(BM c T U O n a b u v o f 0 (.exit 12)).getD (eF c T U O n a b u v o f))
def oR(o:Nat)(f:Nat):G5:=H4 [] (D1 (M0 c T U O n a b u v o f (0)) (Xd6 c T U O n a b u v o f))
theorem Wi9(o:Nat)(f:Nat)(UB:1<=c/\c<=10)(UY:1<=U/\U<=O/\O<=200/\1<=T/\T<=2000)(DF:n<=1000)(FS:F1 (λk=>rdB c (a k) (b k) (u k) (v k)) n=true)(qQ:o<=c)(jF:f<=c):GU U8 (.loop Xk2) (oR c T U O n a b u v o f):=by
 refine GL [] (L:=[]) (Ae PJ Aa) (Ai Ab (Ag PA Ac)) UI UN (X:=Nat) (M0 c T U O n a b u v o f) (λt=>t<=c+1) (λt=>c+1-t) (BM c T U O n a b u v o f) (x0:=0) UE ?_ ?_ ?_;rintro t;kernel_rfl;rintro t y E h;unfold BM at h;split at h;cases h;kernel_rfl;cases h;rintro Q hQ t hx;refine ⟨(t+1),?_⟩;(with_reducible refine F4 (t:=let z2:=(fwF c (fwO c (rdM c T U O a b u v n) o) o f);let A:=(fwT z2 o f t);let W:=(UJ ((c:Int)+1));let z3:=(UW (c:Int) T U O A (t*1+(f*11+4)));(branch (decide ((t:Int)<(c:Int)+1)) (need [G7 f 11] (need [G7 o 11] (need [o*1+(f*11+4)<125] (need [G7 o 11] (need [G7 t 11] (need [t*1+(o*11+4)<125] (need [U5 (UW (c:Int) T U O A (o*1+(f*11+4))+UW (c:Int) T U O A (t*1+(o*11+4)))] (need [G7 f 11] (need [G7 t 11] (need [t*1+(f*11+4)<125] (need [G7 f 11] (need [G7 t 11] (need [t*1+(f*11+4)+List.length [min z3 (UW (c:Int) T U O A (o*1+(f*11+4))+UW (c:Int) T U O A (t*1+(o*11+4)))]<=125] (need [U5 ((t:Int)+1)] (need [UJ (agg [iI (c:Int),iI T,iI U,iI O]),Q4 n a b u v,XL,QX=QX,X6,XY,ZJ,UJ (o:Int),UJ (f:Int),W,W,UJ (c:Int),UJ (c:Int),Q4 n a b u v,UJ (n:Int),UJ (n:Int),W,UJ (o:Int),W,UJ (f:Int),W,(t:Int)+1=(↑(t+1):Int),125=125,HH 125 (GE (t*1+(f*11+4)) (min z3 (UW (c:Int) T U O A (o*1+(f*11+4))+UW (c:Int) T U O A (t*1+(o*11+4)))) (UW (c:Int) T U O A)) (UW (c:Int) T U O (fwT z2 o f (t+1))),UJ (c:Int),T=T,U=U,O=O] (leaf GR.normal)))))))))))))))) (need [UJ (agg [iI (c:Int),iI T,iI U,iI O]),Q4 n a b u v,XL,QX=QX,X6,XY,ZJ,UJ (o:Int),UJ (f:Int),W,W,UJ (c:Int),UJ (c:Int),Q4 n a b u v,UJ (n:Int),UJ (n:Int),W,UJ (o:Int),W,UJ (f:Int),W,(t:Int)=(c:Int)+1,125=125,HH 125 (UW (c:Int) T U O A) (UW (c:Int) T U O (fwT z2 o f (c+1))),UJ (c:Int),T=T,U=U,O=O] (leaf (GR.exit 12))))) UD ?_);simp only [Xd6,BM,U6.sat,HF] at hQ;simp only [U6.sat,UU,GS,H6,UX,U5,G4,HU,RW,L1,LP,HC,BM]
 have hv: ∀j,j<n->0<=u j/\u j<=v j/\v j<=2000:=by
  intro j hj;have:=HG.1 FS j hj;simp only [rdB,HV,bt_iff,insB_iff] at this;omega
 have hl:=λx y=>Jq4 (c:=c) (s6 (c:=c) (a:=a) (b:=b) UY hv n (Am _)) (o:=o) (f:=f) (t:=t) U3 x y;have hfo:=hl f o;have hot:=hl o t;refine ⟨λh=>?_,λh=>?_⟩
 ·have h1: ∀M,UW c T U O M (o*1+(f*11+4))=M f o:=λM=>wE _ _ _ _ _ U3 U3;have h2: ∀M,UW c T U O M (t*1+(o*11+4))=M o t:=λM=>wE _ _ _ _ _ U3 U3;have h3: ∀M v,GE (t*1+(f*11+4)) (min (UW c T U O M (t*1+(f*11+4))) v) (UW c T U O M)=UW c T U O (bnd M f t v):=λM v=>k6 U3 U3;simp only [h3];simp only [h1,h2]
  (with_reducible repeat' first|apply Al|intro _)
  all_goals first|exact Ak|omega|with_reducible rfl|(rename_i E hE;cases hE;exact hQ)|rfl
 ·obtain rfl:t=c+1:=U3
  (with_reducible repeat' first|apply Al|intro _)
  all_goals first|exact Ak|omega|with_reducible rfl|(rename_i E hE;cases hE;exact hQ)|rfl
theorem Jj4(o:Nat)(UB:1<=c/\c<=10)(UY:1<=U/\U<=O/\O<=200/\1<=T/\T<=2000)(DF:n<=1000)(FS:F1 (λk=>rdB c (a k) (b k) (u k) (v k)) n=true)(qQ:o<=c):GU U8 (.loop Jc0) (Ze6 c T U O n a b u v o):=by
 refine GL [] (L:=[qM 14 (λk=>RH [k<=c] (oR c T U O n a b u v o k))]) (Ae PJ Aa) (Ai Ab (Ag PA Ac)) UI (GJ (λcj hcj=>by
  have e:UC Jc0 0=some (.loop Xk2):=UD;rw [e] at hcj;cases hcj;exact PW (λk=>DU (λh=>Wi9 c T U O n a b u v o k UB UY DF FS qQ h)))) (X:=Nat) (Wp6 c T U O n a b u v o) (λf=>f<=c+1) (λf=>c+1-f) (EX c T U O n a b u v o) (x0:=0) UE ?_ ?_ ?_
 rintro f;kernel_rfl;rintro f y E h;unfold EX at h;split at h;cases h;kernel_rfl;cases h;rintro Q hQ f hx;refine ⟨(f+1),?_⟩;(with_reducible refine F4 (t:=let A:=(UJ ((c:Int)+1));let W:=(fwO c (rdM c T U O a b u v n) o);let z2:=(UJ (agg [iI (c:Int),iI T,iI U,iI O]));let z3:=Q4 n a b u v;(branch (decide ((f:Int)<(c:Int)+1)) (need [U5 ((c:Int)+1)] (need [f<=c] (need [z2,z3,XL,QX=QX,X6,XY,ZJ,UJ (o:Int),UJ (f:Int),A,A,UJ (c:Int),UJ (c:Int),z3,UJ (n:Int),UJ (n:Int),A,UJ (o:Int),A,UJ (f:Int),A,(0:Int)=((0:Nat):Int),125=125,HH 125 (UW (c:Int) T U O (fwF c W o f)) (UW (c:Int) T U O (fwT (fwF c W o f) o f 0)),UJ (c:Int),T=T,U=U,O=O] (need [U5 ((f:Int)+1)] (need [z2,z3,XL,QX=QX,X6,XY,ZJ,UJ (o:Int),A,A,UJ (c:Int),UJ (c:Int),z3,UJ (n:Int),UJ (n:Int),A,UJ (o:Int),A,(f:Int)+1=(↑(f+1):Int),125=125,HH 125 (UW (c:Int) T U O (fwT (fwF c W o f) o f (c+1))) (UW (c:Int) T U O (fwF c W o (f+1))),UJ (c:Int),T=T,U=U,O=O] (leaf GR.normal)))))) (need [z2,z3,XL,QX=QX,X6,XY,ZJ,UJ (o:Int),A,A,UJ (c:Int),UJ (c:Int),z3,UJ (n:Int),UJ (n:Int),A,UJ (o:Int),A,(f:Int)=(c:Int)+1,125=125,HH 125 (UW (c:Int) T U O (fwF c W o f)) (UW (c:Int) T U O (fwF c W o (c+1))),UJ (c:Int),T=T,U=U,O=O] (leaf (GR.exit 10))))) UD ?_);simp only [Ju7,EX,U6.sat,HF] at hQ;simp only [U6.sat,UU,GS,H6,UX,U5,G4,HU,RW,L1,LP,HC,EX]
 refine ⟨λh=>?_,λh=>?_⟩
 ·(with_reducible repeat' first|apply Al|intro _)
  all_goals first|exact Ak|omega|with_reducible rfl|(rename_i E hE;cases hE;exact hQ)|rfl
 ·obtain rfl:f=c+1:=U3
  (with_reducible repeat' first|apply Al|intro _)
  all_goals first|exact Ak|omega|with_reducible rfl|(rename_i E hE;cases hE;exact hQ)|rfl
theorem Wj4(UB:1<=c/\c<=10)(UY:1<=U/\U<=O/\O<=200/\1<=T/\T<=2000)(DF:n<=1000)(FS:F1 (λk=>rdB c (a k) (b k) (u k) (v k)) n=true):GU U8 (.loop Wb2) (oS c T U O n a b u v):=by
 refine GL [] (L:=[qM 13 (λk=>RH [k<=c] (Ze6 c T U O n a b u v k))]) (Ae PJ Aa) (Ai Ab (Ag PA Ac)) UI (GJ (λcj hcj=>by
  have e:UC Wb2 0=some (.loop Jc0):=UD;rw [e] at hcj;cases hcj;exact PW (λk=>DU (λh=>Jj4 c T U O n a b u v k UB UY DF FS h)))) (X:=Nat) (M1 c T U O n a b u v) (λo=>o<=c+1) (λo=>c+1-o) (wI c T U O n a b u v) (x0:=0) UE ?_ ?_ ?_
 rintro o;kernel_rfl;rintro o y E h;unfold wI at h;split at h;cases h;kernel_rfl;cases h;rintro Q hQ o hx;refine ⟨(o+1),?_⟩;(with_reducible refine F4 (t:=let A:=(UJ ((c:Int)+1));let W:=(rdM c T U O a b u v n);let z2:=(UJ (agg [iI (c:Int),iI T,iI U,iI O]));let z3:=Q4 n a b u v;(branch (decide ((o:Int)<(c:Int)+1)) (need [U5 ((c:Int)+1)] (need [o<=c] (need [z2,z3,XL,QX=QX,X6,XY,ZJ,UJ (o:Int),A,A,UJ (c:Int),UJ (c:Int),z3,UJ (n:Int),UJ (n:Int),A,UJ (o:Int),A,(0:Int)=((0:Nat):Int),125=125,HH 125 (UW (c:Int) T U O (fwO c W o)) (UW (c:Int) T U O (fwF c (fwO c W o) o 0)),UJ (c:Int),T=T,U=U,O=O] (need [U5 ((o:Int)+1)] (need [z2,z3,XL,QX=QX,X6,XY,ZJ,A,A,UJ (c:Int),UJ (c:Int),z3,UJ (n:Int),UJ (n:Int),A,(o:Int)+1=(↑(o+1):Int),125=125,HH 125 (UW (c:Int) T U O (fwF c (fwO c W o) o (c+1))) (UW (c:Int) T U O (fwO c W (o+1))),UJ (c:Int),T=T,U=U,O=O] (leaf GR.normal)))))) (need [z2,z3,XL,QX=QX,X6,XY,ZJ,A,A,UJ (c:Int),UJ (c:Int),z3,UJ (n:Int),UJ (n:Int),A,(o:Int)=(c:Int)+1,125=125,HH 125 (UW (c:Int) T U O (fwO c W o)) (UW (c:Int) T U O (fwO c W (c+1))),UJ (c:Int),T=T,U=U,O=O] (leaf (GR.exit 8))))) UD ?_);simp only [Xd7,wI,U6.sat,HF] at hQ;simp only [U6.sat,UU,GS,H6,UX,U5,G4,HU,RW,L1,LP,HC,wI]
 refine ⟨λh=>?_,λh=>?_⟩
 ·(with_reducible repeat' first|apply Al|intro _)
  all_goals first|exact Ak|omega|with_reducible rfl|(rename_i E hE;cases hE;exact hQ)|rfl
 ·obtain rfl:o=c+1:=U3
  (with_reducible repeat' first|apply Al|intro _)
  all_goals first|exact Ak|omega|with_reducible rfl|(rename_i E hE;cases hE;exact hQ)|rfl
def fwM:Nat->Cg:=fwO c (rdM c T U O a b u v n) (c+1)
def okR:Bool:=F1 (λk=>decide (0<=fwM c T U O n a b u v k k)) (c+1)
def Xi9:St:={σ:=[agg [iI (c:Int),iI T,iI U,iI O],XA n a b u v,ptr 0 0,top,top,top,ptr 5 0,top,top,top,AV.mp 63]++D6 11 [iI ((c:Int)+1),iI ((c:Int)+1)]++D6 21 [iI (c:Int),iI (c:Int)]++D6 34 [XA n a b u v,iI (n:Int),iI (n:Int)]++D6 37 [iI ((c:Int)+1),iI ((c:Int)+1)]++D6 40 [iI ((c:Int)+1)]++D6 14 [],m:=[(5,H9.ints 301 [] 125 λk=>UW (c:Int) T U O (fwO c (rdM c T U O a b u v n) (c+1)) k),(0,H9.cells 49 [iI (c:Int),iI T,iI U,iI O])],nx:=76}
noncomputable def Jz4:Code:=UT (UC (UP Tryz.f158) 4)
def Wp5(k:Nat):St:=(upE [(164,i k)] [(5,.ints 301 [] 125 (UW c T U O (fwM c T U O n a b u v))),(0,.cells 49 [i c,i T,i U,i O])] (Xi9 c T U O n a b u v))
def r8(k:Nat):GR->Option St
 | .ret=>some (upE [(4,.x (.pointer none)),(5,.lit false),(164,.top)] [(5,.ints 301 [] 125 (UW c T U O (fwM c T U O n a b u v))),(0,.cells 49 [i c,i T,i U,i O])] (Xi9 c T U O n a b u v))
 | .exit 14=>some (upE [(164,.top)] [(5,.ints 301 [] 125 (UW c T U O (fwM c T U O n a b u v))),(0,.cells 49 [i c,i T,i U,i O])] (Xi9 c T U O n a b u v))
 |_=>none
def Ju6:CT:= .branch (okR c T U O n a b u v) (.leaf (.exit 14,(r8 c T U O n a b u v 0 (.exit 14)).getD (Xi9 c T U O n a b u v))) (.leaf (.ret,(r8 c T U O n a b u v 0 .ret).getD (Xi9 c T U O n a b u v)))
def Ze5:G5:=H4 [] (D1 (Wp5 c T U O n a b u v (0)) (Ju6 c T U O n a b u v))
theorem Jj3(UB:1<=c/\c<=10)(UY:1<=U/\U<=O/\O<=200/\1<=T/\T<=2000)(DF:n<=1000)(FS:F1 (λk=>rdB c (a k) (b k) (u k) (v k)) n=true):GU U8 (.loop Jz4) (Ze5 c T U O n a b u v):=by
 refine GL [] (L:=[]) (Ae PJ Aa) (Ai Ab (Ag PA Ac)) UI UN (X:=Nat) (Wp5 c T U O n a b u v) (λk=>k<=c+1/\ ∀j,j<k->0<=fwM c T U O n a b u v j j) (λk=>c+1-k) (r8 c T U O n a b u v) (x0:=0) UE ?_ ?_ ?_;rintro k;kernel_rfl;rintro k y E h;unfold r8 at h;split at h;cases h;kernel_rfl;cases h;kernel_rfl;cases h;rintro Q hQ k hx;refine ⟨(k+1),?_⟩;(with_reducible refine F4 (t:=let A:=(UJ ((c:Int)+1));let W:=(fwM c T U O n a b u v);let z2:=(UJ (agg [iI (c:Int),iI T,iI U,iI O]));let z3:=Q4 n a b u v;(branch (decide ((k:Int)<(c:Int)+1)) (need [G7 k 11] (need [G7 k 11] (need [k*1+(k*11+4)<125] (branch (decide (UW (c:Int) T U O W (k*1+(k*11+4))<0)) (need [z2,z3,XL,QX=QX,X6,XY,ZJ,A,A,UJ (c:Int),UJ (c:Int),z3,UJ (n:Int),UJ (n:Int),A,A,A,125=125,HB 125 (UW (c:Int) T U O W),UJ (c:Int),T=T,U=U,O=O] (leaf GR.ret)) (need [U5 ((k:Int)+1)] (need [z2,z3,XL,XY,ZJ,A,A,UJ (c:Int),UJ (c:Int),z3,UJ (n:Int),UJ (n:Int),A,A,A,(k:Int)+1=(↑(k+1):Int),125=125,HB 125 (UW (c:Int) T U O W),UJ (c:Int),T=T,U=U,O=O] (leaf GR.normal))))))) (need [z2,z3,XL,XY,ZJ,A,A,UJ (c:Int),UJ (c:Int),z3,UJ (n:Int),UJ (n:Int),A,A,A,125=125,HB 125 (UW (c:Int) T U O W),UJ (c:Int),T=T,U=U,O=O] (leaf (GR.exit 14))))) UD ?_);simp only [Ju6,r8,U6.sat,HF] at hQ;simp only [U6.sat,UU,GS,H6,UX,U5,G4,HU,RW,L1,LP,HC,r8]
 have h1:UW c T U O (fwM c T U O n a b u v) (k*1+(k*11+4))=fwM c T U O n a b u v k k\/11<=k:=by
  rcases An k 11 with h|h;exact .inl (wE _ _ _ _ _ U3 h);exact .inr h
 refine ⟨λh=>?_,λh=>?_⟩;have h2:=h1.resolve_right U3;rw [h2];refine ⟨U3,U3,U3,λhneg=>?_,λWu3=>?_⟩
 ·have hno:okR c T U O n a b u v=false:=by
   cases ho:okR c T U O n a b u v;rfl;have:=HG.1 ho k U3;simp at this;omega
  (with_reducible repeat' first|apply Al|intro _)
  all_goals first|exact B4|(rename_i E hE;cases hE;exact hQ.2 hno)
 exact VY
 ·obtain ⟨hx1,hx2⟩:=hx;obtain rfl:k=c+1:=U3;have Wt0:okR c T U O n a b u v=true:=HG.2 (λj hj=>by simpa using hx2 j hj)
  (with_reducible repeat' first|apply Al|intro _)
  all_goals first|exact B4|(rename_i E hE;cases hE;exact hQ.1 Wt0)
end
theorem gG{S:Code->G5->Prop}{c:Code}{s0 s1 s2 s3 s4:G5}(h0: ∀cj,UC c 0=some cj->S cj s0)(h1: ∀cj,UC c 1=some cj->S cj s1)(h2: ∀cj,UC c 2=some cj->S cj s2)(h3: ∀cj,UC c 3=some cj->S cj s3)(h4: ∀cj,UC c 4=some cj->S cj s4):
  ∀j cj,UC c j=some cj-> ∀sp,[s0,s1,s2,s3,s4][j]? =some sp->S cj sp:=by
 intro j cj hj sp hsp
 match j with
 | 0=>simp at hsp;subst hsp;exact h0 cj hj
 | 1=>simp at hsp;subst hsp;exact h1 cj hj
 | 2=>simp at hsp;subst hsp;exact h2 cj hj
 | 3=>simp at hsp;subst hsp;exact h3 cj hj
 | 4=>simp at hsp;subst hsp;exact h4 cj hj
 |j+5=>simp at hsp
theorem G6.same{P:Program}{f:FuncId}{avs avs':List AV}{t:U6 AV}(h:G6 P f avs' t)(k:PM avs avs'):G6 P f avs t:=λQ hQ e w args hro hgl RL hr=>h Q hQ e w args hro hgl (k.idf RL) (k.rep hr)
section
variable (c:Nat)(T U O:Int)(n:Nat)(a b u v:Cg)
abbrev Qf7:AV:= .roI [] 125 (UW c T U O (fwM c T U O n a b u v)) 0
abbrev nilP:AV:= .x (.pointer none)
theorem aL(UB:1<=c/\c<=10)(UY:1<=U/\U<=O/\O<=200/\1<=T/\T<=2000)(DF:n<=1000)(FS:F1 (λk=>rdB c (a k) (b k) (u k) (v k)) n=true):G6 U8 158 [.agg [i c,i T,i U,i O],rds n a b u v] (.branch (okR c T U O n a b u v) (.leaf (.tup [Qf7 c T U O n a b u v,.lit true])) (.leaf (.tup [nilP,.lit false]))):=by
 refine HD (L:=[Ze9 c T U O n a b u v,oT c T U O n a b u v,Ze7 c T U O n a b u v,oS c T U O n a b u v,Ze5 c T U O n a b u v]) (Ae PJ Aa) (Ai Ab (Ag PA Ac)) UI Tryz.func158 (GF Tryz.f158) (gG (lpE (b:= .loop Jc1) UD<|(Jk7 c T U O n a b u v UB UY).N) (lpE (b:= .loop eI) UD<|(Jk3 c T U O n a b u v UB UY).N) (lpE (b:= .loop Jz5) UD<|(Jj8 c T U O n a b u v UB UY DF FS).N) (lpE (b:= .loop Wb2) UD<|(Wj4 c T U O n a b u v UB UY DF FS).N) (lpE (b:= .loop Jz4) UD<|(Jj3 c T U O n a b u v UB UY DF FS).N)) (t:=let A:=(UJ ((c:Int)+1));let W:=(UJ (agg [iI (c:Int),iI T,iI U,iI O]));let z2:=(UW (c:Int) T U O (cel c U O c) (c*1+4));let z3:=(GE (c*1+4) (min z2 T) (UW (c:Int) T U O (cel c U O c)) (0+(c*11+4)));let z4:=Q4 n a b u v;(need [U5 ((c:Int)+1)] (need [W,z4,XL,QX=QX,X6,XY,A,(0:Int)=((0:Nat):Int),List.length ([(c:Int),T,U,O]++eM 121)=125,HH 125 (US ([(c:Int),T,U,O]++eM 121)) (UW (c:Int) T U O (ini c 0 0)),UJ (c:Int),T=T,U=U,O=O] (need [W,z4,XL,QX=QX,X6,XY,A,A,UJ (c:Int),(0:Int)=((0:Nat):Int),125=125,HH 125 (UW (c:Int) T U O (ini c (c+1) 0)) (UW (c:Int) T U O (cel c U O 0)),UJ (c:Int),T=T,U=U,O=O] (need [G7 0 11] (need [G7 c 11] (need [c*1+4<125] (need [G7 0 11] (need [G7 c 11] (need [c*1+4+List.length [min z2 T]<=125] (need [U5 (-T)] (need [G7 c 11] (need [G7 0 11] (need [0+(c*11+4)<125] (need [G7 c 11] (need [G7 0 11] (need [0+(c*11+4)+List.length [min z3 (-T)]<=125] (need [W,z4,XL,QX=QX,X6,XY,ZJ,A,A,UJ (c:Int),UJ (c:Int),z4,UJ (n:Int),(0:Int)=((0:Nat):Int),125=125,HH 125 (GE (0+(c*11+4)) (min z3 (-T)) (kJ (c*1+4) [min z2 T] (UW (c:Int) T U O (cel c U O c)))) (UW (c:Int) T U O (rdM c T U O a b u v 0)),UJ (c:Int),T=T,U=U,O=O,∀(k:Value),False->sn a b u v 0 k/\k=Value.bool true] (need [U5 ((c:Int)+1)] (need [W,z4,XL,QX=QX,X6,XY,ZJ,A,A,UJ (c:Int),UJ (c:Int),z4,UJ (n:Int),UJ (n:Int),A,(0:Int)=((0:Nat):Int),125=125,HH 125 (UW (c:Int) T U O (rdM c T U O a b u v n)) (UW (c:Int) T U O (fwO c (rdM c T U O a b u v n) 0)),UJ (c:Int),T=T,U=U,O=O] (need [U5 ((c:Int)+1)] (need [W,z4,XL,XY,ZJ,A,A,UJ (c:Int),UJ (c:Int),z4,UJ (n:Int),UJ (n:Int),A,A,A,(0:Int)=((0:Nat):Int),125=125,HH 125 (UW (c:Int) T U O (fwO c (rdM c T U O a b u v n) (c+1))) (UW (c:Int) T U O (fwM c T U O n a b u v)),UJ (c:Int),T=T,U=U,O=O] (branch (okR c T U O n a b u v) (leaf (tup [roI [] 125 (λk=>UW (c:Int) T U O (fwM c T U O n a b u v) k) 0,AV.lit true])) (leaf (tup [QX,AV.lit false]))))))))))))))))))))))))) UD ?_
 intro Q hQ;have h1: ∀M w,GE (c*1+4) (min (UW c T U O M (c*1+4)) w) (UW c T U O M)=UW c T U O (bnd M 0 c w):=λM w=>k6 U3 U3;have h2: ∀M w,GE (0+(c*11+4)) (min (UW c T U O M (0+(c*11+4))) w) (UW c T U O M)=UW c T U O (bnd M c 0 w):=λM w=>k6 U3 U3;simp only [U6.sat,UU,G4,U5,LP,HC,h1,h2] at hQ ⊢
 (with_reducible repeat' first|apply Al|intro _)
 all_goals first|exact Ak|omega|with_reducible rfl|rfl|exact Wh6 _ _ _ _ _ _|(rename_i h;exact h.elim)|(rename_i h;exact ⟨.tup [Qf7 c T U O n a b u v,.lit true],⟨⟨rfl,rfl,λ_ _=>rfl,rfl⟩,rfl,Ak⟩,hQ.1 h⟩)|(rename_i h;exact ⟨.tup [nilP,.lit false],⟨rfl,rfl,Ak⟩,hQ.2 h⟩)
end
def col(j:Nat)(f:Ci):Cg:=λk=>Ws4 (f k) j
def A6:DX:=λl=>match l with
 |[.agg [.x (.int .i64 c),.x (.int .i64 T),.x (.int .i64 U),.x (.int .i64 O)],.lst 4 n f]=>some (.need [G0 4 n f,1<=c/\c<=10,1<=U/\U<=O/\O<=200/\1<=T/\T<=2000,n<=1000,F1 (λk=>rdB c (col 0 f k) (col 1 f k) (col 2 f k) (col 3 f k)) n=true]
   (.branch (okR c.toNat T U O n (col 0 f) (col 1 f) (col 2 f) (col 3 f)) (.leaf (.tup [Qf7 c.toNat T U O n (col 0 f) (col 1 f) (col 2 f) (col 3 f),.lit true])) (.leaf (.tup [nilP,.lit false]))))
 |_=>none
theorem zD:Enters U8 158/\ ∀avs t,A6 avs=some t->G6 U8 158 avs t:=by
 refine ⟨(UZ Tryz.func158),?_⟩;intro avs t h;unfold A6 at h;split at h;rename_i c T U O n f;cases h;intro Q hQ;have I:=GY hQ.1;have hr:G0 4 n f:=I _ UE;have hc:1<=c/\c<=10:=I _ UE;have DM:F1 (λk=>rdB c (col 0 f k) (col 1 f k) (col 2 f k) (col 3 f k)) n=true:=I _ UE;have e:((c.toNat:Nat):Int)=c:=U3;have h0:=aL c.toNat T U O n (col 0 f) (col 1 f) (col 2 f) (col 3 f) U3 (I _ UE) (I _ UE) (by rw [e];exact DM)
 rw [e] at h0;exact G6.same h0 (.cons (.refl _) (.cons (.lst 4 n _ _ hr) .nil)) Q hQ.2;cases h
theorem BG.same{P:Program}{f:FuncId}{avs avs':List AV}{t:U6 AV}(h:BG P f avs' t)(k:PM avs avs'):BG P f avs t:=λQ hQ e w args hro hgl RL hr=>h Q hQ e w args hro hgl (k.idf RL) (k.rep hr)
def Qo5:GM
 |[.agg [.x (.int .i64 a),.x (.int .i64 b),.x (.int .i64 u),.x (.int .i64 v)],.ro [.fn (.func 192) [.agg [.x (.int .i64 c),.x (.int .i64 T),.x (.int .i64 U),.x (.int .i64 O)]] []]]=>some ([1<=c/\c<=10],bl (!rdB c a b u v))
 |_=>none
theorem Xc9(c T U O a b u v:Int)(UB:1<=c/\c<=10):UH U8 227 [.agg [i a,i b,i u,i v],.ro [.fn (.func 192) [.agg [i c,i T,i U,i O]] []]] (bl (!rdB c a b u v)):=by
 refine UL (L:=[]) (Ae pW Aa) UI Tryz.func227 (GF Tryz.f227) UN (t:=need [(1:Int)<=c/\c<=10] (leaf (RV.x (.bool !rdB c a b u v)))) UD ?_;simp [U6.sat,UU,GS,UX];exact UB
theorem nU:UA U8 227 Qo5:=by
 refine ⟨(UZ Tryz.func227),?_⟩;intro avs ns res h I;unfold Qo5 at h;split at h;cases h;exact Xc9 _ _ _ _ _ _ _ _ (I _ UE);cases h
def vO(c:Int)(a b u v:Cg)(k:Nat):Bool:= !rdB c (a k) (b k) (u k) (v k)
def OI(c:Int)(n:Nat)(a b u v:Cg):Bool:=F1 (λk=>rdB c (a k) (b k) (u k) (v k)) n
abbrev X5(c:Int)(T:Int)(U:Int)(O:Int):AV:=AV.fn (Fn.func 227) [] [AV.ro [AV.fn (Fn.func 192) [agg [iI c,iI T,iI U,iI O]] []]]
section
variable (c T U O:Int)(n:Nat)(a b u v:Cg)
def pA:St:={σ:=[XA n a b u v,X5 c T U O]++D6 5 [iI (n:Int)]++D6 11 [],m:=[],nx:=4}
noncomputable def Zi0:Code:=UT (UC (UP Tryz.f245) 0)
def Qi7(k:Nat):St:=(upM [(8,i k)] (pA c T U O n a b u v))
def v6(k:Nat):GR->Option St
 | .ret=>some (upM [(4,i (HJ (vO c a b u v) n))] (pA c T U O n a b u v))
 | .exit 0=>some (upM [] (pA c T U O n a b u v))
 |_=>none
def Zc0:CT:= .branch (decide (HJ (vO c a b u v) n<n)) (.leaf (.ret,(v6 c T U O n a b u v 0 .ret).getD (pA c T U O n a b u v))) (.leaf (.exit 0,(v6 c T U O n a b u v 0 (.exit 0)).getD (pA c T U O n a b u v)))
def Xg6:G5:=(D1 (Qi7 c T U O n a b u v (0)) (Zc0 c T U O n a b u v))
theorem Zi6(UB:n<=100000)(UY:1<=c/\c<=10):GU U8 (.loop Zi0) (Xg6 c T U O n a b u v):=by
 refine D4 (L:=[]) (Ae nU Aa) UI UN (X:=Nat) (Qi7 c T U O n a b u v) (λk=>k<=n/\ ∀j,j<k->vO c a b u v j=false) (λk=>n-k) (v6 c T U O n a b u v) (x0:=0) UE ?_ ?_ ?_;rintro k;kernel_rfl;rintro k y E h;unfold v6 at h;split at h;cases h;kernel_rfl;cases h;kernel_rfl;cases h;rintro Q hQ k hx;refine ⟨(k+1),?_⟩;(with_reducible refine F4 (t:=branch (decide ((k:Int)<(n:Int))) (need [G7 k n] (need [(1:Int)<=c/\c<=10] (branch (!rdB c (a k) (b k) (u k) (v k)) (need [Q4 n a b u v,UJ (X5 c T U O),(k:Int)=(↑(HJ (vO c a b u v) n):Int),UJ (n:Int)] (leaf GR.ret)) (need [U5 ((k:Int)+1)] (need [Q4 n a b u v,UJ (X5 c T U O),UJ (n:Int),(k:Int)+1=(↑(k+1):Int)] (leaf GR.normal)))))) (need [Q4 n a b u v,UJ (X5 c T U O),UJ (n:Int)] (leaf (GR.exit 0)))) UD ?_);simp only [Zc0,v6,U6.sat,HF,HU] at hQ;simp only [U6.sat,UU,G4,HU,U5,v6,FA];refine ⟨λh=>⟨U3,UY,λhb=>?_,λhb=>?_⟩,λh=>?_⟩;have hf:HJ (vO c a b u v) n=k:=jT U3 hb hx.2;refine ⟨U3,λE hE=>?_⟩;cases hE;exact hQ.1 U3;refine ⟨U3,U3,⟨U3,λj hj=>?_⟩,U3⟩;rcases (show j<k\/j=k by omega) with h1|rfl
 exact hx.2 j h1;exact hb;have hf:HJ (vO c a b u v) n=n:=wA (λj hj=>hx.2 j U3);intro E hE;cases hE;exact hQ.2 U3
theorem Zi7(UB:n<=100000)(UY:1<=c/\c<=10):UH U8 245 [rds n a b u v,.fn (.func 227) [] [.ro [.fn (.func 192) [.agg [i c,i T,i U,i O]] []]]] (i (if HJ (vO c a b u v) n<n then (HJ (vO c a b u v) n:Int) else -1)):=by
 refine UL (L:=[Xg6 c T U O n a b u v]) (Ae nU Aa) UI Tryz.func245 (GF Tryz.f245) (GJ (lpE (b:= .loop Zi0) UD<|Zi6 c T U O n a b u v UB UY)) (t:=need [Q4 n a b u v,UJ (X5 c T U O),UJ (n:Int),(0:Int)=((0:Nat):Int)] (branch (decide (HJ (vO c a b u v) n<n)) (leaf (RV.x (.int .i64 (↑(HJ (vO c a b u v) n):Int)))) (leaf (RV.x (.int .i64 (-1:Int)))))) UD ?_
 exact VT
end
theorem isRec4(n:Nat)(a b u v:Cg):G0 4 n (λk=>[i (a k),i (b k),i (u k),i (v k)]):=λ_ _=>rfl
def Zc5:GM
 |[.lst 4 n f,.fn (.func 227) [] [.ro [.fn (.func 192) [.agg [.x (.int .i64 c),.x (.int .i64 T),.x (.int .i64 U),.x (.int .i64 O)]] []]]]=>some ([G0 4 n f,n<=100000,1<=c/\c<=10],i (if HJ (vO c (col 0 f) (col 1 f) (col 2 f) (col 3 f)) n<n then (HJ (vO c (col 0 f) (col 1 f) (col 2 f) (col 3 f)) n:Int) else -1))
 |_=>none
def Zd1:GM
 |[.lst 4 n f,.fn (.func 227) [] [.ro [.fn (.func 192) [.agg [.x (.int .i64 c),.x (.int .i64 T),.x (.int .i64 U),.x (.int .i64 O)]] []]]]=>some ([G0 4 n f,n<=100000,1<=c/\c<=10],bl (!OI c n (col 0 f) (col 1 f) (col 2 f) (col 3 f)))
 |_=>none
def Xe9:GM
 |[.lst 4 n f,.fn (.func 192) [.agg [.x (.int .i64 c),.x (.int .i64 T),.x (.int .i64 U),.x (.int .i64 O)]] []]=>some ([G0 4 n f,n<=100000,1<=c/\c<=10],bl (OI c n (col 0 f) (col 1 f) (col 2 f) (col 3 f)))
 |_=>none
def flt(c T U O:Int)(n:Nat)(a b u v:Cg):Int:=if wC c T U O then (if 12<n then 3 else if OI c n a b u v then 0 else 2) else 1
def Qn9:GM
 |[.agg [.x (.int .i64 c),.x (.int .i64 T),.x (.int .i64 U),.x (.int .i64 O)],.lst 4 n f]=>some ([G0 4 n f],i (flt c T U O n (col 0 f) (col 1 f) (col 2 f) (col 3 f)))
 |_=>none
theorem Zi5:UA U8 245 Zc5:=by
 refine ⟨(UZ Tryz.func245),?_⟩;intro avs ns res h I;unfold Zc5 at h;split at h;cases h;have hr:G0 4 _ _:=I _ (H0);exact (Zi7 _ _ _ _ _ (col 0 _) (col 1 _) (col 2 _) (col 3 _) (I _ UE) (I _ UE)).same (.cons (.lst 4 _ _ _ hr) (.cons (.refl _) .nil));cases h
section
variable (c T U O:Int)(n:Nat)(a b u v:Cg)
theorem Zw7(UB:n<=100000)(UY:1<=c/\c<=10):UH U8 226 [rds n a b u v,.fn (.func 227) [] [.ro [.fn (.func 192) [.agg [i c,i T,i U,i O]] []]]] (bl (!OI c n a b u v)):=by
 refine UL (L:=[]) (Ae Zi5 Aa) UI Tryz.func226 (GF Tryz.f226) UN (t:=need [G0 4 n λk=>[i (a k),i (b k),i (u k),i (v k)],n<=100000,(1:Int)<=c/\c<=10] (leaf (RV.x (.bool (decide ((if HJ (vO c a b u v) n<n then (↑(HJ (vO c a b u v) n):Int) else (-1:Int))>=(0:Int))))))) UD ?_
 simp only [U6.sat,UU,GS,UX,G4];refine ⟨⟨isRec4 n _ _ _ _,UB,UY⟩,?_⟩;unfold OI;rw [yL];have:=FI (vO c a b u v) n;have e:(λk=> !(λk=>rdB c (a k) (b k) (u k) (v k)) k)=vO c a b u v:=rfl;rw [e];split<;>simp<;>omega
theorem Zw6:UA U8 226 Zd1:=by
 refine ⟨(UZ Tryz.func226),?_⟩;intro avs ns res h I;unfold Zd1 at h;split at h;cases h;have hr:G0 4 _ _:=I _ (H0);exact (Zw7 _ _ _ _ _ (col 0 _) (col 1 _) (col 2 _) (col 3 _) (I _ UE) (I _ UE)).same (.cons (.lst 4 _ _ _ hr) (.cons (.refl _) .nil));cases h
theorem Xv0(UB:n<=100000)(UY:1<=c/\c<=10):UH U8 193 [rds n a b u v,.fn (.func 192) [.agg [i c,i T,i U,i O]] []] (bl (OI c n a b u v)):=by
 refine UL (L:=[]) (Ae Zw6 Aa) UI Tryz.func193 (GF Tryz.f193) UN (t:=need [G0 4 n λk=>[i (a k),i (b k),i (u k),i (v k)],n<=100000,(1:Int)<=c/\c<=10] (leaf (RV.x (.bool !!OI c n a b u v)))) UD ?_;simp only [U6.sat,UU,GS,UX,G4];refine ⟨⟨isRec4 n _ _ _ _,UB,UY⟩,?_⟩;simp
end
theorem Xu9:UA U8 193 Xe9:=by
 refine ⟨(UZ Tryz.func193),?_⟩;intro avs ns res h I;unfold Xe9 at h;split at h;cases h;have hr:G0 4 _ _:=I _ (H0);exact (Xv0 _ _ _ _ _ (col 0 _) (col 1 _) (col 2 _) (col 3 _) (I _ UE) (I _ UE)).same (.cons (.lst 4 _ _ _ hr) (.cons (.refl _) .nil));cases h
theorem qO{c T U O:Int}(h:wC c T U O=true):(1<=c/\c<=10)/\(1<=U/\U<=O/\O<=200/\1<=T/\T<=2000)/\c*U<=T/\T<=c*O:=by
 simp only [wC,HV,bt_iff,insB_iff] at h;omega
theorem Xa4(c T U O:Int)(n:Nat)(a b u v:Cg):UH U8 157 [.agg [i c,i T,i U,i O],rds n a b u v] (i (flt c T U O n a b u v)):=by
 refine UL (L:=[]) (Ae CheckTube_ok (Ae Xu9 Aa)) UI Tryz.func157 (GF Tryz.f157) UN (t:=branch ((if wC c T U O=true then (0:Int) else (1:Int)) != 0) (leaf (RV.x (.int .i64 (if wC c T U O=true then (0:Int) else (1:Int))))) (branch (decide ((n:Int)>12)) (leaf (RV.x (.int .i64 (3:Int)))) (need [G0 4 n λk=>[i (a k),i (b k),i (u k),i (v k)],n<=100000,(1:Int)<=c/\c<=10] (branch (!OI c n a b u v) (leaf (RV.x (.int .i64 (2:Int)))) (leaf (RV.x (K4))))))) UD ?_
 simp only [U6.sat,UU,GS,UX,G4,flt];by_cases ht:wC c T U O=true;have hb:=qO ht;by_cases I:12<n;simp [ht,I];omega;cases ha:OI c n a b u v<;>simp [ht,I,ha,isRec4 n a b u v]<;>omega;simp [ht]
theorem Xa3:UA U8 157 Qn9:=by
 refine ⟨(UZ Tryz.func157),?_⟩;intro avs ns res h I;unfold Qn9 at h;split at h;cases h;have hr:G0 4 _ _:=I _ (H0);exact (Xa4 _ _ _ _ _ (col 0 _) (col 1 _) (col 2 _) (col 3 _)).same (.cons (.refl _) (.cons (.lst 4 _ _ _ hr) .nil));cases h
theorem sY(f:Cg)(k:Nat)(UB:k<=10)(UY: -1000000000000<=f (k*11+4)/\f (k*11+4)<=1000000000000):UH U8 195 [.roI [] 125 f 0,i k] (i (-(f (k*11+4)))):=by
 refine HL Tryz.func195 (t:=need [G7 k 11] (need [G7 0 11] (need [0+(k*11+4)<125] (need [U5 (-f (0+(k*11+4)))] (leaf (RV.x (.int .i64 (-f (0+(k*11+4)))))))))) UD ?_;simp only [U6.sat,UU,GS,H6,UX,G4,FA];rw [show 0+(k*11+4)=k*11+4 by omega]
 simp only [U5];simp;omega
def o2:GM
 |[.roI [] 125 f 0,.x (.int .i64 k)]=>some ([0<=k/\k<=10,-1000000000000<=f (k.toNat*11+4)/\f (k.toNat*11+4)<=1000000000000],i (-(f (k.toNat*11+4))))
 |_=>none
theorem sX:UA U8 195 o2:=by
 refine ⟨(UZ Tryz.func195),?_⟩;intro avs ns res h I;unfold o2 at h;split at h;rename_i f k;cases h;have hk:0<=k/\k<=10:=I _ UE;have e:((k.toNat:Nat):Int)=k:=U3;have h0:=sY f k.toNat U3 (I _ UE);rw [e] at h0;exact h0;cases h
theorem bW(f:Cg)(k:Nat)(UB:k<=10)(UY: -1000000000000<=f (k*11+4)/\f (k*11+4)<=1000000000000):UH U8 196 [.roI [] 125 f 0,i k] (i (f (k+4))):=by
 refine HL Tryz.func196 (t:=need [G7 0 11] (need [G7 k 11] (need [k*1+4<125] (leaf (RV.x (.int .i64 (f (k*1+4)))))))) UD ?_;simp only [U6.sat,UU,GS,H6,UX,G4,FA];rw [show k*1+4=k+4 by omega]
 simp only [U5];simp;omega
def NG:GM
 |[.roI [] 125 f 0,.x (.int .i64 k)]=>some ([0<=k/\k<=10,-1000000000000<=f (k.toNat*11+4)/\f (k.toNat*11+4)<=1000000000000],i (f (k.toNat+4)))
 |_=>none
theorem bU:UA U8 196 NG:=by
 refine ⟨(UZ Tryz.func196),?_⟩;intro avs ns res h I;unfold NG at h;split at h;rename_i f k;cases h;have hk:0<=k/\k<=10:=I _ UE;have e:((k.toNat:Nat):Int)=k:=U3;have h0:=bW f k.toNat U3 (I _ UE);rw [e] at h0;exact h0;cases h
def o1:GM
 |[]=>some ([],.agg [.fn (.func 195) [] []])
 |_=>none
theorem Qu5:UH U8 159 [] (.agg [.fn (.func 195) [] []]):=by
 refine HL Tryz.func159 (t:=leaf (RV.agg [RV.fn (Fn.func 195)])) UD ?_;exact VG
theorem Qu4:UA U8 159 o1:=by
 refine ⟨(UZ Tryz.func159),?_⟩;intro avs ns res h I;unfold o1 at h;split at h;cases h;exact Qu5;cases h
def TO:GM
 |[]=>some ([],.agg [.fn (.func 196) [] []])
 |_=>none
theorem tY:UH U8 160 [] (.agg [.fn (.func 196) [] []]):=by
 refine HL Tryz.func160 (t:=leaf (RV.agg [RV.fn (Fn.func 196)])) UD ?_;exact VG
theorem tX:UA U8 160 TO:=by
 refine ⟨(UZ Tryz.func160),?_⟩;intro avs ns res h I;unfold TO at h;split at h;cases h;exact tY;cases h
theorem Qz3(f:Cg)(k:Nat)(UB:k<=10)(UY: -1000000000000<=f (k*11+4)/\f (k*11+4)<=1000000000000):UH U8 119 [.roI [] 125 f 0,i k] (.agg [i (-(f (k*11+4))),i (f (k+4))]):=by
 refine UL (L:=[]) (Ae sX (Ae bU (Ae Qu4 (Ae tX Aa)))) UI Tryz.func119 (GF Tryz.f119) UN (t:=need [(0:Int)<=(k:Int)/\(k:Int)<=10,(-1000000000000:Int)<=f (k*11+4)/\f (k*11+4)<=1000000000000] (need [(0:Int)<=(k:Int)/\(k:Int)<=10,(-1000000000000:Int)<=f (k*11+4)/\f (k*11+4)<=1000000000000] (leaf (RV.agg [RV.x (.int .i64 (-f (k*11+4))),RV.x (.int .i64 (f (k+4)))])))) UD ?_;exact VG
def oD:GM
 |[.roI [] 125 f 0,.x (.int .i64 k)]=>some ([0<=k/\k<=10,-1000000000000<=f (k.toNat*11+4)/\f (k.toNat*11+4)<=1000000000000],.agg [i (-(f (k.toNat*11+4))),i (f (k.toNat+4))])
 |_=>none
theorem zX:UA U8 119 oD:=by
 refine ⟨(UZ Tryz.func119),?_⟩;intro avs ns res h I;unfold oD at h;split at h;rename_i f k;cases h;have hk:0<=k/\k<=10:=I _ UE;have e:((k.toNat:Nat):Int)=k:=U3;have h0:=Qz3 f k.toNat U3 (I _ UE);rw [e] at h0;exact h0;cases h
def dbF(f:Cg):Nat->Int
 | 0=>0
 |k+1=>max (dbF f k) (f (k+4)- -(f (k*11+4)))
theorem Qa9{f:Cg}{c:Nat}(h: ∀k,k<=c->(-1000000000000<=f (k*11+4)/\f (k*11+4)<=1000000000000)/\(-1000000000000<=f (k+4)/\f (k+4)<=1000000000000)): ∀k,k<=c+1->0<=dbF f k/\dbF f k<=2000000000000
 | 0,_=>by simp [dbF]
 |k+1,hk=>by
  have:=Qa9 h k U3;have:=h k U3;simp only [dbF];omega
abbrev KO(f:Cg):AV:=roI [] 125 (λa=>f a) 0
def Jb6(c:Nat)(f:Cg):St:={σ:=[KO f]++D6 9 [iI (f 0+1)]++D6 16 [],m:=[],nx:=8}
noncomputable def Kb4:Code:=UT (UC (UP Tryz.f233) 0)
section
variable (c:Nat)(f:Cg)
def Ws0(k:Nat):St:=(upM [(2,i (dbF f k)),(11,i k)] (Jb6 c f))
def IH(k:Nat):GR->Option St
 | .exit 0=>some (upM [(2,i (dbF f (c+1))),(11,i ((c+1:Nat):Int))] (Jb6 c f))
 |_=>none
def Jx2:CT:= .leaf (.exit 0,(IH c f 0 (.exit 0)).getD (Jb6 c f))
def Zh4:G5:=(D1 (Ws0 c f (0)) (Jx2 c f))
theorem Jr8(UB:c<=10)(UY:f 0=c)(DF: ∀k,k<=c->(-1000000000000<=f (k*11+4)/\f (k*11+4)<=1000000000000)/\(-1000000000000<=f (k+4)/\f (k+4)<=1000000000000)):GU U8 (.loop Kb4) (Zh4 c f):=by
 refine D4 (L:=[]) (Ae zX (Ae AK Aa)) UI UN (X:=Nat) (Ws0 c f) (λk=>k<=c+1) (λk=>c+1-k) (IH c f) (x0:=0) UE ?_ ?_ ?_;rintro k;kernel_rfl;rintro k y E h;unfold IH at h;split at h;cases h;kernel_rfl;cases h;rintro Q hQ k hx;refine ⟨(k+1),?_⟩;(with_reducible refine F4 (t:=branch (decide ((k:Int)<f 0+1)) (need [(0:Int)<=(k:Int)/\(k:Int)<=10,(-1000000000000:Int)<=f (k*11+4)/\f (k*11+4)<=1000000000000] (need [U5 (f (k+4)- -f (k*11+4))] (need [U5 ((k:Int)+1)] (need [KO f=KO f,max (dbF f k) (f (k+4)- -f (k*11+4))=dbF f (k+1),UJ (f 0+1),(k:Int)+1=(↑(k+1):Int)] (leaf GR.normal))))) (need [KO f=KO f,dbF f k=dbF f (c+1),UJ (f 0+1),(k:Int)=(↑(c+1):Int)] (leaf (GR.exit 0)))) UD ?_);simp only [Jx2,IH,U6.sat,HF] at hQ;simp only [U6.sat,UU,G4,HU,U5,IH,FA];refine ⟨λh=>?_,λh=>?_⟩;have h1:=DF k U3;have h2:=Qa9 DF k U3;refine ⟨⟨U3,h1.1⟩,U3,U3,⟨rfl,U3⟩,U3,U3⟩;obtain rfl:k=c+1:=U3;exact ⟨⟨rfl,rfl⟩,λE hE=>by cases hE;exact hQ⟩
theorem Xa0(UB:c<=10)(UY:f 0=c)(DF: ∀k,k<=c->(-1000000000000<=f (k*11+4)/\f (k*11+4)<=1000000000000)/\(-1000000000000<=f (k+4)/\f (k+4)<=1000000000000)):UH U8 233 [.roI [] 125 f 0] (i (dbF f (c+1))):=by
 refine UL (L:=[Zh4 c f]) (Ae zX (Ae AK Aa)) UI Tryz.func233 (GF Tryz.f233) (GJ (lpE (b:= .loop Kb4) UD<|Jr8 c f UB UY DF)) (t:=need [0<125] (need [U5 (f 0+1)] (need [KO f=KO f,(0:Int)=dbF f 0,UJ (f 0+1),(0:Int)=((0:Nat):Int)] (leaf (RV.x (.int .i64 (dbF f (c+1)))))))) UD ?_
 simp only [U6.sat,UU,GS,H6,UX,G4,FA];simp only [U5];have h2:=Qa9 DF (c+1) U3;all_goals exact VM
end
def Qn8:GM
 |[.roI [] 125 f 0]=>some ([0<=f 0/\f 0<=10,∀k,k<=(f 0).toNat->(-1000000000000<=f (k*11+4)/\f (k*11+4)<=1000000000000)/\(-1000000000000<=f (k+4)/\f (k+4)<=1000000000000)],i (dbF f ((f 0).toNat+1)))
 |_=>none
theorem Wz9:UA U8 233 Qn8:=by
 refine ⟨(UZ Tryz.func233),?_⟩;intro avs ns res h I;unfold Qn8 at h;split at h;rename_i f;cases h;have hk:0<=f 0/\f 0<=10:=I _ UE;exact Xa0 (f 0).toNat f U3 U3 (I _ UE);cases h
section
variable (c T U O:Int)(n:Nat)(a b u v:Cg)
abbrev iM:AV:=Qf7 c.toNat T U O n a b u v
def okB:Bool:=okR c.toNat T U O n a b u v
def wN(r:Bool):Int:=if flt c T U O n a b u v=0 then (if r then (if okB c T U O n a b u v then 0 else 9) else 2) else flt c T U O n a b u v
end
section
variable {c T U O:Int}{n:Nat}{a b u v:Cg}
theorem vG:flt c T U O n a b u v=0↔wC c T U O=true/\n<=12/\F1 (λk=>rdB c (a k) (b k) (u k) (v k)) n=true:=by
 unfold flt OI;split;rename_i h1;split;rename_i h2;constructor;intro h;cases h;intro h;omega;rename_i h2;split;rename_i h3;exact ⟨λ_=>⟨h1,U3,h3⟩,λ_=>rfl⟩;rename_i h3;constructor;intro h;cases h;intro h;exact absurd h.2.2 h3;rename_i h1;constructor;intro h;cases h;intro h;exact absurd h.1 h1
theorem dX{r:Bool}:wN c T U O n a b u v r=0↔flt c T U O n a b u v=0/\r=true/\okB c T U O n a b u v=true:=by
 unfold wN;split;rename_i h1;split;rename_i h2;split;rename_i h3;simp [h1,h2,h3];rename_i h3;simp [h1,h2,h3];rename_i h2;simp [h1,h2];rename_i h1;simp [h1]
end
theorem eZ(c T U O:Int)(n:Nat)(a b u v:Cg)(r:Bool):G6 U8 118 [.agg [i c,i T,i U,i O],rds n a b u v,bl r] (.branch (decide (wN c T U O n a b u v r=0)) (.leaf (.tup [iM c T U O n a b u v,i 0])) (.leaf (.tup [nilP,i (wN c T U O n a b u v r)]))):=by
 refine HD (L:=[]) (Ae Xa3 Aa) (Aj Ab Ac (Ah zD (UV.nil _))) UI Tryz.func118 (GF Tryz.f118) GN (t:=need [G0 4 n λk=>[i (a k),i (b k),i (u k),i (v k)]] (branch (flt c T U O n a b u v != 0) (leaf (tup [QX,iI (flt c T U O n a b u v)])) (branch (!r) (leaf (tup [QX,iI 2])) (need [G0 4 n λk=>[i (a k),i (b k),i (u k),i (v k)],(1:Int)<=c/\c<=10,(1:Int)<=U/\U<=O/\O<=200/\(1:Int)<=T/\T<=2000,n<=1000,F1 (λk=>rdB c (a k) (b k) (u k) (v k)) n=true] (branch (okR (Int.toNat c) T U O n a b u v) (leaf (tup [roI [] 125 (λk=>UW (Int.toNat c:Int) T U O (fwM (Int.toNat c) T U O n a b u v) k) 0,iI 0])) (leaf (tup [QX,iI 9]))))))) UD ?_;intro Q hQ;have e:c.toNat=c\/c<0:=U3;simp only [U6.sat,UU,G4,L1,HU,Ax] at hQ ⊢;refine ⟨isRec4 n a b u v,λh1=>?_,λh1=>?_⟩;refine ⟨.tup [nilP,i (flt c T U O n a b u v)],⟨rfl,⟨rfl,rfl⟩,Ak⟩,?_⟩;have h2:wN c T U O n a b u v r=flt c T U O n a b u v:=by unfold wN;rw [if_neg h1]
 rw [h2] at hQ;exact hQ.2 h1;have hf:=vG.1 h1;have hb:=qO hf.1;refine ⟨λh2=>?_,λh2=>⟨⟨isRec4 n a b u v,hb.1,hb.2.1,by have:=hf.2.1;omega,hf.2.2⟩,λh3=>?_,λh3=>?_⟩⟩
 subst h2;have h4:wN c T U O n a b u v false=2:=by unfold wN;rw [if_pos h1];rfl
 rw [h4] at hQ;exact ⟨.tup [nilP,i 2],⟨rfl,⟨rfl,rfl⟩,Ak⟩,hQ.2 U3⟩;have h2:r=true:=by simpa using h2
 subst h2;have h4:wN c T U O n a b u v true=0:=dX.2 ⟨h1,rfl,h3⟩;exact ⟨.tup [iM c T U O n a b u v,i 0],⟨⟨rfl,rfl,λ_ _=>rfl,rfl⟩,⟨rfl,rfl⟩,Ak⟩,hQ.1 h4⟩;have h2:r=true:=by simpa using h2
 subst h2;have h4:wN c T U O n a b u v true=9:=by unfold wN okB;rw [if_pos h1,h3];rfl
 rw [h4] at hQ;exact ⟨.tup [nilP,i 9],⟨rfl,⟨rfl,rfl⟩,Ak⟩,hQ.2 U3⟩
def eH:DX:=λl=>match l with
 |[.agg [.x (.int .i64 c),.x (.int .i64 T),.x (.int .i64 U),.x (.int .i64 O)],.lst 4 n f,.x (.bool r)]=>some (.need [G0 4 n f] (.branch (decide (wN c T U O n (col 0 f) (col 1 f) (col 2 f) (col 3 f) r=0)) (.leaf (.tup [iM c T U O n (col 0 f) (col 1 f) (col 2 f) (col 3 f),i 0])) (.leaf (.tup [nilP,i (wN c T U O n (col 0 f) (col 1 f) (col 2 f) (col 3 f) r)]))))
 |[.agg [.x (.int .i64 c),.x (.int .i64 T),.x (.int .i64 U),.x (.int .i64 O)],.lst 4 n f,.lit r]=>some (.need [G0 4 n f] (.branch (decide (wN c T U O n (col 0 f) (col 1 f) (col 2 f) (col 3 f) r=0)) (.leaf (.tup [iM c T U O n (col 0 f) (col 1 f) (col 2 f) (col 3 f),i 0])) (.leaf (.tup [nilP,i (wN c T U O n (col 0 f) (col 1 f) (col 2 f) (col 3 f) r)]))))
 |_=>none
theorem UM.lits{e:G8}{w:World}{r:Bool}: ∀{l:List AV} {vs:List Value},UM e w (l++[.lit r]) vs->UM e w (l++[.x (.bool r)]) vs
 |[],vs,h=>by
  obtain ⟨v,vs',rfl,hv,hvs⟩:=h.cons_inv;cases hv;exact UM.cons (.x _) hvs
 |a::l,vs,h=>by
  obtain ⟨v,vs',rfl,hv,hvs⟩:=h.cons_inv;exact UM.cons hv (UM.lits hvs)
theorem G6.lits{P:Program}{f:FuncId}{l:List AV}{r:Bool}{t:U6 AV}(h:G6 P f (l++[.x (.bool r)]) t):G6 P f (l++[.lit r]) t:=λQ hQ e w args hro hgl RL hr=>h Q hQ e w args hro hgl (λa ha=>by
 rcases List.mem_append.1 ha with h1|h1;exact RL a (Bd _ h1);cases BE.1 h1;exact .x _) (UM.lits hr)
theorem fP:Enters U8 118/\ ∀avs t,eH avs=some t->G6 U8 118 avs t:=by
 refine ⟨(UZ Tryz.func118),?_⟩;intro avs t h;unfold eH at h;split at h;rename_i c T U O n f r;cases h;intro Q hQ;have hr:G0 4 n f:=GY hQ.1 _ UE;exact G6.same (eZ c T U O n (col 0 f) (col 1 f) (col 2 f) (col 3 f) r) (.cons (.refl _) (.cons (.lst 4 n _ _ hr) (.cons (.refl _) .nil))) Q hQ.2;rename_i c T U O n f r;cases h;intro Q hQ;have hr:G0 4 n f:=GY hQ.1 _ UE;exact G6.lits (l:=[.agg [.x (.int .i64 c),.x (.int .i64 T),.x (.int .i64 U),.x (.int .i64 O)],.lst 4 n f]) (G6.same (eZ c T U O n (col 0 f) (col 1 f) (col 2 f) (col 3 f) r) (.cons (.refl _) (.cons (.lst 4 n _ _ hr) (.cons (.refl _) .nil)))) Q hQ.2;cases h
section
variable (c T U O:Int)(n:Nat)(a b u v:Cg)
def eB:Int:=wN c T U O n a b u v true
def fwB:Nat->Cg:=fwM c.toNat T U O n a b u v
def sfB:Cg:=UW (c.toNat:Nat) T U O (fwB c T U O n a b u v)
def dtB:Int:=if eB c T U O n a b u v=0 then dbF (sfB c T U O n a b u v) (c.toNat+1) else 0
def C3:Nat:=if eB c T U O n a b u v=0 then c.toNat+1 else 0
end
theorem Za6{c a b u v:Int}(h:rdB c a b u v=true):(0<=a/\a<=c-1)/\(a<=b/\b<=c)/\0<=u/\u<=v/\v<=2000:=by
 simp only [rdB,HV,bt_iff,insB_iff] at h;omega
theorem c7{c T U O:Int}{n:Nat}{a b u v:Cg}(h:flt c T U O n a b u v=0)(x y:Nat): -1000000000000<=fwB c T U O n a b u v x y/\fwB c T U O n a b u v x y<=2000:=by
 have hf:=vG.1 h;have hb:=qO hf.1;have hl:=s6 (c:=c.toNat) (a:=a) (b:=b) hb.2.1 (λj hj=>(Za6 (HG.1 hf.2.2 j hj)).2.2) n (Am n);have h1:=Zy8 (c:=c.toNat) hl (c.toNat+1) x y;have h2:=Jl0 c.toNat U3;rw [Int.pow_succ] at h1;unfold fwB fwM;omega
section
variable (c T U O:Int)(n:Nat)(a b u v:Cg)
theorem Za3:sfB c T U O n a b u v 0=c.toNat:=rfl
theorem aH(k:Nat):sfB c T U O n a b u v (k*11+4)=fwB c T U O n a b u v k 0:=wE _ _ _ _ _ U3 U3
theorem iN{k:Nat}(hk:k<=10):sfB c T U O n a b u v (k+4)=fwB c T U O n a b u v 0 k:=wE _ _ _ _ _ U3 U3
abbrev YT:Ext:={R:=[],H:=[],C:=[(118,eH)] }
theorem Xj7:UH U8 203 [.agg [i c,i T,i U,i O],rds n a b u v] (.tup [i (dtB c T U O n a b u v),i (eB c T U O n a b u v)]):=by
 refine GW (L:=[]) (Ae Wz9 Aa) (Aj Ab Ac (Ah fP (UV.nil _))) UI Tryz.func203 (GF Tryz.f203) GN (t:=let A:=(fwM (Int.toNat c) T U O n a b u v);let W:=wN c T U O n a b u v true;(need [G0 4 n λk=>[i (a k),i (b k),i (u k),i (v k)]] (branch (decide (W=0)) (branch ((0:Int) != 0) (leaf (RV.tup [RV.x (K4),RV.x (K4)])) (need [(0:Int)<=UW (Int.toNat c:Int) T U O A 0/\UW (Int.toNat c:Int) T U O A 0<=10,∀(k:Nat),k<=(UW (Int.toNat c:Int) T U O A 0).toNat->((-1000000000000:Int)<=UW (Int.toNat c:Int) T U O A (k*11+4)/\UW (Int.toNat c:Int) T U O A (k*11+4)<=1000000000000)/\(-1000000000000:Int)<=UW (Int.toNat c:Int) T U O A (k+4)/\UW (Int.toNat c:Int) T U O A (k+4)<=1000000000000] (leaf (RV.tup [RV.x (.int .i64 (dbF (UW (Int.toNat c:Int) T U O A) ((UW (Int.toNat c:Int) T U O A 0).toNat+1))),RV.x (K4)])))) (branch (W != 0) (leaf (RV.tup [RV.x (K4),RV.x (.int .i64 (W))])) U6.fail)))) UD ?_;have eq: ∀k,UW (c.toNat:Nat) T U O (fwM c.toNat T U O n a b u v) k=sfB c T U O n a b u v k:=λ_=>rfl;simp only [U6.sat,UU,G4,L1,HU,Ax,not_true_eq_false,false_imp_iff,eq,GS];refine ⟨isRec4 n a b u v,λh1 _=>?_,λh1=>⟨λ_=>?_,λh2=>h1 h2⟩⟩;have hf:=(dX.1 h1).1;have hc:=(qO (vG.1 hf).1).1;have e0:(sfB c T U O n a b u v 0).toNat=c.toNat:=by rw [Za3];omega
 refine ⟨⟨by rw [Za3];omega,λk hk=>?_⟩,?_⟩
 rw [e0] at hk;rw [aH,iN _ _ _ _ _ _ _ _ _ U3];have h2:=c7 hf k 0;have h3:=c7 hf 0 k;omega;rw [e0];unfold dtB eB;rw [if_pos h1,h1];exact ⟨⟨rfl,rfl⟩,⟨rfl,rfl⟩,Ak⟩;unfold dtB eB;rw [if_neg h1];exact ⟨⟨rfl,rfl⟩,⟨rfl,rfl⟩,Ak⟩
end
section
variable {sz k:Nat}{l:List AV}{x:AV}
theorem Qy8(h:x∈UO sz l k):x∈l:=List.mem_of_mem_drop (List.mem_of_mem_take h)
theorem FK(hm:x∈UO sz l k)(h: ∀y∈l,AV.one y=true):AV.one x=true:=h x (Qy8 hm)
end
theorem Js6{k j:Nat}{a b:Cg}{x y:Int}(h:j<k+1)(hx:x=a k)(hy:y=b k):GX k (λk=>[i (a k),i (b k)]) (UO 2 [i x,i y]) j=[i (a j),i (b j)]:=by
 have e:j-k=0:=U3;show HX (decide (j<k)) [i (a j),i (b j)] (UO 2 [i x,i y] (j-k))=_;rw [e];by_cases hj:j<k;rw [show decide (j<k)=true by simp [hj]]
 rfl;have hk:j=k:=U3;rw [show decide (j<k)=false by simp [hj],hk,hx,hy]
 rfl
section
variable (c T U O:Int)(n:Nat)(a b u v:Cg)
def Ja5:St:={σ:=[.agg [i c,i T,i U,i O],rds n a b u v,.ptr 0 0,.top,.x (.slice none 0 0),i 0,iM c T U O n a b u v,i 0,.top,.top,.top,.top,.top,.top,.top,.top,.top,.top,.top,.top,.top,i (c+1),.top,.top,.top,.top,.top,.top,.top,.top,.top,.top,.top],m:=[(900,.row 47 2 0 (λ_=>[])),(0,.cells 49 [i c,i T,i U,i O])],nx:=901}
noncomputable def Ka4:Code:=UT (UC (UP Tryz.f75) 0)
def Wq8(k:Nat):St:=(upE [(8,.row 900),(22,i k)] [(900,.row 47 2 (k) (λk=>[i (-(fwB c T U O n a b u v k 0)),i (fwB c T U O n a b u v 0 k)])),(0,.cells 49 [i c,i T,i U,i O])] (Ja5 c T U O n a b u v))
def I6(k:Nat):GR->Option St
 | .exit 0=>some (upE [(8,.row 900)] [(900,.row 47 2 (c.toNat+1) (λk=>[i (-(fwB c T U O n a b u v k 0)),i (fwB c T U O n a b u v 0 k)])),(0,.cells 49 [i c,i T,i U,i O])] (Ja5 c T U O n a b u v))
 |_=>none
def Jw0:CT:= .leaf (.exit 0,(I6 c T U O n a b u v 0 (.exit 0)).getD (Ja5 c T U O n a b u v))
def Zg1:G5:=H4 [(.slot 8,900,47,2)] (D1 (Wq8 c T U O n a b u v (0)) (Jw0 c T U O n a b u v))
abbrev KN:AV:=AV.x (.slice none 0 0)
abbrev YE:Prop:=(0:Int)=0
theorem Jo3(UB:flt c T U O n a b u v=0):GU U8 (.loop Ka4) (Zg1 c T U O n a b u v):=by
 refine jM [(.slot 8,900,47,2)] (L:=[]) (Ae zX Aa) UI UN (X:=Nat) (Wq8 c T U O n a b u v) (λk=>k<=c.toNat+1) (λk=>c.toNat+1-k) (I6 c T U O n a b u v) (x0:=0) UE ?_ ?_ ?_;rintro k;kernel_rfl;rintro k y E h;unfold I6 at h;split at h;cases h;kernel_rfl;cases h;rintro Q hQ k hx;refine ⟨(k+1),?_⟩;(with_reducible refine F4 (t:=let A:=(fwM (Int.toNat c) T U O n a b u v);let W:=fwB c T U O n a b u v;let z2:=(UJ (roI [] 125 (λk=>UW (Int.toNat c:Int) T U O A k) 0));let z3:=(UW (Int.toNat c:Int) T U O A (k+4));(branch (decide ((k:Int)<c+1)) (need [(0:Int)<=(k:Int)/\(k:Int)<=10,(-1000000000000:Int)<=UW (Int.toNat c:Int) T U O A (k*11+4)/\UW (Int.toNat c:Int) T U O A (k*11+4)<=1000000000000] (need [(k+1)*16<=140737488355328,L0 1 (UO 2 [iI (-UW (Int.toNat c:Int) T U O A (k*11+4)),iI z3])] (need [U5 ((k:Int)+1)] (need [UJ (agg [iI c,iI T,iI U,iI O]),Q4 n a b u v,XL,KN=KN,YE,z2,YE,UJ (AV.row 900),UJ (c+1),(k:Int)+1=(↑(k+1):Int),k+1=k+1,HH (k+1) (GX k (λk=>[Bo.i (-W k 0),Bo.i (W 0 k)]) (UO 2 [iI (-UW (Int.toNat c:Int) T U O A (k*11+4)),iI z3])) (λi=>[Bo.i (-W i 0),Bo.i (W 0 i)]),c=c,T=T,U=U,O=O] (leaf GR.normal))))) (need [UJ (agg [iI c,iI T,iI U,iI O]),Q4 n a b u v,XL,KN=KN,YE,z2,YE,UJ (AV.row 900),UJ (c+1),k=Int.toNat c+1,∀(i:Nat),i<Int.toNat c+1->[Bo.i (-W i 0),Bo.i (W 0 i)]=[Bo.i (-W i 0),Bo.i (W 0 i)],c=c,T=T,U=U,O=O] (leaf (GR.exit 0))))) UD ?_)
 simp only [Jw0,I6,U6.sat,HF] at hQ;have hc:=(qO (vG.1 UB).1).1;have e0:((c.toNat:Nat):Int)=c:=U3;have eq: ∀k,UW c.toNat T U O (fwM c.toNat T U O n a b u v) k=sfB c T U O n a b u v k:=λ_=>rfl;simp only [U6.sat,UU,GS,H6,UX,U5,G4,HU,RW,I6,eq]
 refine ⟨λh=>?_,λh=>?_⟩;have h2:=c7 UB k 0;have h3:=c7 UB 0 k;refine ⟨⟨U3,by rw [aH];omega⟩,⟨U3,λi O a ha=>FK ha (by simp [AV.one,Value.oneCell'])⟩,U3,⟨U3,λi O=>Js6 O (by rw [aH]) (by rw [iN _ _ _ _ _ _ _ _ _ U3])⟩,U3,U3⟩
 obtain rfl:k=c.toNat+1:=U3;exact ⟨⟨rfl,λ_ _=>Ak⟩,λE hE=>by cases hE;exact hQ⟩
theorem oX(UB:wN c T U O n a b u v true=0)(UY:flt c T U O n a b u v=0):UH U8 75 [.agg [i c,i T,i U,i O],rds n a b u v] (.tup [.lst 2 (C3 c T U O n a b u v) (λk=>[i (-(fwB c T U O n a b u v k 0)),i (fwB c T U O n a b u v 0 k)]),i (eB c T U O n a b u v)]):=by
 refine gV (L:=[Zg1 c T U O n a b u v]) (Gd.go true (Gd.go false Gd.rest)) (Ae zX Aa) (Aj Ab Ac (Ah fP (UV.nil _))) UI Tryz.func75 (GF Tryz.f75) (GJ (lpE (b:= .loop Ka4) UD<|(Jo3 c T U O n a b u v UY).N)) (t:=let A:=fwB c T U O n a b u v;(need [G0 4 n λk=>[i (a k),i (b k),i (u k),i (v k)]] (need [decide (wN c T U O n a b u v true=0)=true] (need [((0:Int) != 0)=false] (need [U5 (c+1)] (need [UJ (agg [iI c,iI T,iI U,iI O]),Q4 n a b u v,XL,KN=KN,YE,UJ (roI [] 125 (λk=>UW (Int.toNat c:Int) T U O (fwM (Int.toNat c) T U O n a b u v) k) 0),YE,UJ (AV.row 900),UJ (c+1),(0:Int)=((0:Nat):Int),0=0,∀(i:Nat),i<0->[]=[Bo.i (-A i 0),Bo.i (A 0 i)],c=c,T=T,U=U,O=O] (leaf (RV.tup [RV.lst 2 (Int.toNat c+1) λk=>[iI (-A k 0),iI (A 0 k)],RV.x (K4)])))))))) UD ?_
 have hc:=(qO (vG.1 UY).1).1;have hl:C3 c T U O n a b u v=c.toNat+1:=if_pos UB;have he:eB c T U O n a b u v=0:=UB;rw [hl,he];simp only [U6.sat,UU,GS,H6,UX,U5,G4]
 (with_reducible repeat' first|apply Al|intro _)
 all_goals first|exact Ak|with_reducible rfl|omega|exact isRec4 _ _ _ _ _|(simp [*];done)|(rename_i hm;simp only [HA,F8,or_false] at hm;rcases hm with rfl|rfl<;>exact Ak)
theorem oY(UB:wN c T U O n a b u v true≠0):UH U8 75 [.agg [i c,i T,i U,i O],rds n a b u v] (.tup [.lst 2 (C3 c T U O n a b u v) (λk=>[i (-(fwB c T U O n a b u v k 0)),i (fwB c T U O n a b u v 0 k)]),i (eB c T U O n a b u v)]):=by
 refine gV (L:=[]) (Gd.go false (Gd.go true Gd.rest)) (Ae zX Aa) (Aj Ab Ac (Ah fP (UV.nil _))) UI Tryz.func75 (GF Tryz.f75) GN (t:=let A:=wN c T U O n a b u v true;(need [G0 4 n λk=>[i (a k),i (b k),i (u k),i (v k)]] (need [decide (A=0)=false] (need [(A != 0)=true] (leaf (RV.tup [RV.x (.slice none 0 0),RV.x (.int .i64 (A))])))))) UD ?_;have hl:C3 c T U O n a b u v=0:=if_neg UB;have he:eB c T U O n a b u v=wN c T U O n a b u v true:=rfl;rw [hl,he];simp only [U6.sat,UU,GS,H6,UX,U5,G4]
 (with_reducible repeat' first|apply Al|intro _)
 all_goals first|exact Ak|with_reducible rfl|omega|exact isRec4 _ _ _ _ _|(simp [*];done)
end
def S_Heights:GM
 |[.agg [.x (.int .i64 c),.x (.int .i64 T),.x (.int .i64 U),.x (.int .i64 O)],.lst 4 n f]=>some ([G0 4 n f],.tup [.lst 2 (C3 c T U O n (col 0 f) (col 1 f) (col 2 f) (col 3 f)) (λk=>[i (-(fwB c T U O n (col 0 f) (col 1 f) (col 2 f) (col 3 f) k 0)),i (fwB c T U O n (col 0 f) (col 1 f) (col 2 f) (col 3 f) 0 k)]),i (eB c T U O n (col 0 f) (col 1 f) (col 2 f) (col 3 f))])
 |_=>none
theorem gM(c T U O:Int)(n:Nat)(a b u v:Cg):UH U8 75 [.agg [i c,i T,i U,i O],rds n a b u v] (.tup [.lst 2 (C3 c T U O n a b u v) (λk=>[i (-(fwB c T U O n a b u v k 0)),i (fwB c T U O n a b u v 0 k)]),i (eB c T U O n a b u v)]):=by
 by_cases h:wN c T U O n a b u v true=0;exact oX c T U O n a b u v h (dX.1 h).1;exact oY c T U O n a b u v h
theorem Heights_ok:UA U8 75 S_Heights:=by
 refine ⟨(UZ Tryz.func75),?_⟩;intro avs ns res h I;unfold S_Heights at h;split at h;rename_i c T U O n f;cases h;have hr:G0 4 n f:=I _ (H0);exact (gM c T U O n (col 0 f) (col 1 f) (col 2 f) (col 3 f)).same (.cons (.refl _) (.cons (.lst 4 n _ _ hr) .nil));cases h
