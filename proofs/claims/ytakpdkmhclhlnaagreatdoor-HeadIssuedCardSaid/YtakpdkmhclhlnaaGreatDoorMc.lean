/- Contracts, put together. Conditions: those of each. -/
import Derived.Test.YtakpdkmhclhlnaaGreatDoorMb
import Derived.Test.YtakpdkmhclhlnaaGreatDoorRows
set_option linter.unusedSimpArgs false
set_option linter.unusedVariables false
set_option maxRecDepth 100000
namespace Go.Sx
open Go Go.RowKit
def yG(i R:Nat):Nat->AV->AV
 | 0,a=>match a with
  | .lit b=> .lit b
  | .x v=> .x v
  | .ro l=> .ro l
  | .lst a b c=> .lst a b c
  | .roI a b c d=> .roI a b c d
  |_=> .top
 |d+1,a=>match a with
  | .row k=>match Nat.beq k i with
   |true=> .row R
   |false=>match Nat.beq k R with
    |true=> .top
    |false=> .row k
  | .ptr k o=>match Nat.beq k i with
   |true=> .ptr R o
   |false=>match Nat.beq k R with
    |true=> .top
    |false=> .ptr k o
  | .elt k x y z=>match Nat.beq k i||Nat.beq k R with
   |true=> .top
   |false=> .elt k x y z
  | .mp k=>match Nat.beq k i||Nat.beq k R with
   |true=> .top
   |false=> .mp k
  | .agg l=> .agg (l.map (yG i R d))
  | .tup l=> .tup (l.map (yG i R d))
  | .fn f l l'=> .fn f (l.map (yG i R d)) (l'.map (yG i R d))
  |a=>a
def UL.ren(e:UL)(i R:Nat):UL:=
 {ro:=e.ro,own:=λb=>match e.own b with|some k=>if k=i then some R else if k=R then none else some k|none=>none,
  live:=λk=>(k=R/\e.live i)\/(e.live k/\k≠i/\k≠R),blk:=λk=>if k=R then e.blk i else e.blk k,val:=λk=>if k=R then e.val i else e.val k}
theorem RB{k i:Nat}(h:Nat.beq k i=false):k≠i:=by
 rintro rfl;rw [Nat.beq_refl] at h;cases h
theorem EG{k i R:Nat}(h:(Nat.beq k i||Nat.beq k R)=false):k≠i/\k≠R:=by
 rw [Bool.or_eq_false_iff] at h;exact ⟨RB h.1,RB h.2⟩
theorem zA{e:UL}{w:World}{i R:Nat}: ∀(d:Nat) (a:AV) (v:Value),Rep e w a v->Rep (e.ren i R) w (yG i R d a) v
 | 0,a,v,r=>by
  cases r with
  |lit b=>exact .lit b
  |x v=>exact .x v
  |roI pre n f off b o Z=>exact Rep.idf (e:=e) (e':=e.ren i R) (λ_ h=>h) (.roI pre n f off b o Z) (zN (Rep.roI pre n f off b o Z) rfl)
  |ro l vs b o h1 h2 h3 h4 h5 h6=>exact Rep.idf (e:=e) (e':=e.ren i R) (λ_ h=>h) (.ro l vs b o h1 h2 h3 h4 h5 h6) (.ro l h3)
  |lstNil sz f=>exact .lstNil sz f
  |lst sz n f b o cap g h1 h2 h3 h4 h5 h6 h7 h8 ad had=>exact Rep.idf (e:=e) (e':=e.ren i R) (λ_ h=>h) (.lst sz n f b o cap g h1 h2 h3 h4 h5 h6 h7 h8 ad had) (.lst sz n f h3)
  |_=>exact .top _
 |d+1,a,v,r=>by
  have ih:=zA (e:=e) (w:=w) (i:=i) (R:=R) d;cases r with
  |top v=>exact .top v
  |lit b=>exact .lit b
  |x v=>exact .x v
  |roI pre n f off b o Z=>exact Rep.idf (e:=e) (e':=e.ren i R) (λ_ h=>h) (.roI pre n f off b o Z) (zN (Rep.roI pre n f off b o Z) rfl)
  |ptr id off hl=>
   simp only [yG];split;rename_i hb;have:=GZ hb;subst this;have h:=Rep.ptr (e:=e.ren id R) (w:=w) R off (.inl ⟨rfl,hl⟩)
   rwa [show (e.ren id R).blk R=e.blk id by simp [UL.ren]] at h
   rename_i hb;split;exact .top _;rename_i hb2;have h:=Rep.ptr (e:=e.ren i R) (w:=w) id off (.inr ⟨hl,RB hb,RB hb2⟩)
   rwa [show (e.ren i R).blk id=e.blk id by simp [UL.ren,RB hb2]] at h
  |row id a n c hl hv=>
   simp only [yG];split;rename_i hb;have:=GZ hb;subst this;exact .row R a n c (.inl ⟨rfl,hl⟩) (by simp [UL.ren,hv])
   rename_i hb;split;exact .top _;rename_i hb2;exact .row id a n c (.inr ⟨hl,RB hb,RB hb2⟩) (by simp [UL.ren,RB hb2,hv])
  |elt id sz x y b n cap hl hv=>
   simp only [yG];split;exact .top _;rename_i hb;exact .elt (e:=e.ren i R) id sz x y b n cap (.inr ⟨hl,EG hb⟩) (by simp [UL.ren,(EG hb).2,hv])
  |mp id hl=>
   simp only [yG];split;exact .top _;rename_i hb;have h:=Rep.mp (e:=e.ren i R) (w:=w) id (.inr ⟨hl,EG hb⟩)
   rwa [show (e.ren i R).blk id=e.blk id by simp [UL.ren,(EG hb).2]] at h
  |agg l vs h1 h2=>exact Rep.aggL (U3.map _ ih ⟨h1,h2⟩)
  |tup l vs h1 h2=>exact Rep.tupL (U3.map _ ih ⟨h1,h2⟩)
  |fn f l l' vs vs' h1 h2 h3 h4=>
   have k1:U3 e w l vs:=⟨h1,h2⟩;have k2:U3 e w l' vs':=⟨h3,h4⟩;exact .fn f _ _ vs vs' (U3.map _ ih k1).1 (U3.map _ ih k1).2 (U3.map _ ih k2).1 (U3.map _ ih k2).2
  |ro l vs b o h1 h2 h3 h4 h5 h6=>exact Rep.idf (e:=e) (e':=e.ren i R) (λ_ h=>h) (.ro l vs b o h1 h2 h3 h4 h5 h6) (.ro l h3)
  |mpr g okf vals b es c h1 h2 h3 h4 h5 h6 h7 h8=>exact Rep.idf (e:=e) (e':=e.ren i R) (λ_ h=>h) (.mpr g okf vals b es c h1 h2 h3 h4 h5 h6 h7 h8) (.mpr g okf h3)
  |any1 v hv=>exact .any1 v hv
  |lstNil sz f=>exact .lstNil sz f
  |lst sz n f b o cap g h1 h2 h3 h4 h5 h6 h7 h8 ad had=>exact Rep.idf (e:=e) (e':=e.ren i R) (λ_ h=>h) (.lst sz n f b o cap g h1 h2 h3 h4 h5 h6 h7 h8 ad had) (.lst sz n f h3)
def x8(i R:Nat):H2->H2
 |[]=>[]
 |(k,.row T sz n f)::t=>match Nat.beq k i with
  |true=>(R,.row T sz n f)::x8 i R t
  |false=>match Nat.beq k R with
   |true=>x8 i R t
   |false=>(k,.row T sz n f)::x8 i R t
 |(k,.cells T l)::t=>match Nat.beq k i with
  |true=>(R,.cells T (l.map (yG i R 6)))::x8 i R t
  |false=>match Nat.beq k R with
   |true=>x8 i R t
   |false=>(k,.cells T (l.map (yG i R 6)))::x8 i R t
 |(k,.ints T pre n f)::t=>match Nat.beq k i||Nat.beq k R with
  |true=>x8 i R t
  |false=>(k,.ints T (pre.map (yG i R 6)) n f)::x8 i R t
 |(k,.memo h f)::t=>match Nat.beq k i||Nat.beq k R with
  |true=>x8 i R t
  |false=>(k,.memo h f)::x8 i R t
 |(_,.aka _ _ _ _ _)::t=>x8 i R t
 |(k,.keep T l)::t=>match Nat.beq k i||Nat.beq k R with
  |true=>x8 i R t
  |false=>(k,.keep T (l.map (yG i R 6)))::x8 i R t
theorem zI{e:UL}{w:World}{i R:Nat}: ∀{m:H2},UV e m w->UV (e.ren i R) (x8 i R m) w
 |[],_=>λp A=>by cases A
 |(k,.row T sz n f)::t,h=>by
  have ih:=zI (i:=i) (R:=R) (m:=t) (λp A=>h p (HL _ A));obtain ⟨h1,h2,hf,xs,h3,h4⟩:=h _ GD;have h4': ∀(i' j:Nat) (a:AV) (v:Value),i'<n->(f i')[j]? =some a->xs[i'*sz+j]? =some v->Rep (e.ren i R) w a v:=
   λi' j a v O ha hv=>Rep.idf (e:=e) (e':=e.ren i R) (λ_ h=>h) (h4 i' j a v O ha hv) ((hf i' O).2 a (F5 ha))
  unfold x8;split;rename_i hb;have:=GZ hb;subst this;intro p A;rcases GM.1 A with rfl|A;refine ⟨.inl ⟨rfl,h1⟩,λb hb'=>?_,hf,xs,?_,h4'⟩;simp only [UL.ren,if_true] at hb' ⊢;rw [h2 b hb'];simp;simp only [UL.ren,if_true];exact h3;exact ih p A;rename_i hb;split;exact ih;rename_i hb2;intro p A;rcases GM.1 A with rfl|A;refine ⟨.inr ⟨h1,RB hb,RB hb2⟩,λb hb'=>?_,hf,xs,?_,h4'⟩;simp only [UL.ren,RB hb2,if_false] at hb' ⊢;rw [h2 b hb'];simp [RB hb,RB hb2];simp only [UL.ren,RB hb2,if_false];exact h3;exact ih p A
 |(k,.cells T l)::t,h=>by
  have ih:=zI (i:=i) (R:=R) (m:=t) (λp A=>h p (HL _ A));obtain ⟨h1,h2,vs,h3,h4⟩:=h _ GD;unfold x8;split;rename_i hb;have:=GZ hb;subst this;have eb:(e.ren k R).blk R=e.blk k:=by simp [UL.ren]
  intro p A;rcases GM.1 A with rfl|A;refine ⟨.inl ⟨rfl,h1⟩,?_,vs,by rw [eb];exact h3,U3.map _ (zA 6) h4⟩
  rw [eb];simp only [UL.ren];rw [h2];simp;exact ih p A;rename_i hb;split;exact ih;rename_i hb2;have n1:=RB hb;have n2:=RB hb2;have eb:(e.ren i R).blk k=e.blk k:=by simp [UL.ren,n2]
  intro p A;rcases GM.1 A with rfl|A;refine ⟨.inr ⟨h1,n1,n2⟩,?_,vs,by rw [eb];exact h3,U3.map _ (zA 6) h4⟩
  rw [eb];simp only [UL.ren];rw [h2];simp [n1,n2];exact ih p A
 |(k,.ints T pre n f)::t,h=>by
  have ih:=zI (i:=i) (R:=R) (m:=t) (λp A=>h p (HL _ A));obtain ⟨h1,h2,vs,h3,h4⟩:=h _ GD;unfold x8;split;exact ih;rename_i hb;obtain ⟨n1,n2⟩:=EG hb;intro p A;rcases GM.1 A with rfl|A;have eb:(e.ren i R).blk k=e.blk k:=by simp [UL.ren,n2]
  refine ⟨.inr ⟨h1,n1,n2⟩,?_,vs,by rw [eb];exact h3,?_⟩
  rw [eb];simp only [UL.ren];rw [h2];simp [n1,n2];have:=U3.map _ (zA (i:=i) (R:=R) 6) h4;rw [List.map_append] at this;have hL:(HP n f).map (yG i R 6)=HP n f:=by
   unfold HP;rw [List.map_map];rfl
  rw [hL] at this;exact this;exact ih p A
 |(k,.memo g f)::t,h=>by
  have ih:=zI (i:=i) (R:=R) (m:=t) (λp A=>h p (HL _ A));obtain ⟨h1,h2,es,c,h3,h4⟩:=h _ GD;unfold x8;split;exact ih;rename_i hb;obtain ⟨n1,n2⟩:=EG hb;intro p A;rcases GM.1 A with rfl|A;have eb:(e.ren i R).blk k=e.blk k:=by simp [UL.ren,n2]
  refine ⟨.inr ⟨h1,n1,n2⟩,?_,es,c,by rw [eb];exact h3,h4⟩
  rw [eb];simp only [UL.ren];rw [h2];simp [n1,n2];exact ih p A
 |(k,.keep T l)::t,h=>by
  have ih:=zI (i:=i) (R:=R) (m:=t) (λp A=>h p (HL _ A));obtain ⟨h1,h2,h0,vs,h3,h4⟩:=h _ GD;unfold x8;split;exact ih;rename_i hb;obtain ⟨n1,n2⟩:=EG hb;intro p A;rcases GM.1 A with rfl|A;have eb:(e.ren i R).blk k=e.blk k:=by simp [UL.ren,n2]
  exact ⟨.inr ⟨h1,n1,n2⟩,by rw [eb];exact h2,by rw [eb];exact h0,vs,by rw [eb];exact h3,U3.map _ (zA 6) h4⟩
  exact ih p A
 |(k,.aka _ _ _ _ _)::t,h=>zI (i:=i) (R:=R) (m:=t) (λp A=>h p (HL _ A))
def Qm7(i R:Nat)(s:St):St:={s with σ:=s.σ.map (yG i R 6),m:=x8 i R s.m,nx:=match Nat.blt R s.nx with|true=>s.nx|false=>R+1,sv:=s.sv.map (·.map (yG i R 6)) }
theorem CB{cx:Cx}{w0:World}{F:Nat->Prop}{e:UL}{i R:Nat}{s:St}{a:Act}{w:World}(r:F7 cx w0 F e s a w):F7 cx w0 F (e.ren i R) (Qm7 i R s) a w:=by
 refine ⟨⟨λb hb=>?_,λb k hk=>?_,r.env.glob⟩,r.below,zI r.mem,λk hk=>?_,r.foe,⟨r.xt.defers,r.xt.kept,L9.map _ (zA 6) r.xt.saved,r.xt.size⟩,U3.map _ (zA 6) r.slots⟩;obtain ⟨h1,h2⟩:=r.env.apart b hb;exact ⟨by simp [UL.ren,h1],h2⟩
 simp only [UL.ren] at hk;cases ho:e.own b with
 |none=>rw [ho] at hk;cases hk
 |some j=>exact r.env.owned b j ho
 have hk':k=R\/k<s.nx:=by
  rcases hk with ⟨rfl,_⟩|⟨h,_⟩;exact .inl rfl;exact .inr (r.live k h)
 simp only [Qm7];split;rename_i hb;rw [Aw] at hb;omega;rename_i hb;rw [←Bool.not_eq_true,Aw] at hb;omega
inductive Pl where
 |slot (k:Nat)
 |cell (id off:Nat)
def Qe1(s:St):Pl->AV
 | .slot k=>s.σ.getD k .top
 | .cell id off=>match DG s.m id with
  |some (.cells _ l)=>l.getD off .top
  |_=> .top
def cQ(s:St)(p:Pl)(v:AV):St:=match p with
 | .slot k=>{s with σ:=s.σ.set k v}
 | .cell id off=>match DG s.m id with
  |some (.cells T l)=>{s with m:=qG s.m id (.cells T (l.set off v)) }
  |_=>s
theorem U3.swap{e:UL}{w:World}{l:List AV}{vs:List Value}{k:Nat}{b:AV}(h:U3 e w l vs)(hb: ∀v,Rep e w (l.getD k .top) v->vs[k]? =some v->Rep e w b v):U3 e w (l.set k b) vs:=by
 refine ⟨by simp [h.1],λi a v ha hv=>?_⟩
 rw [List.getElem?_set] at ha;by_cases hk:k=i;subst hk;simp only [if_true] at ha;split at ha;rename_i hlt;cases ha;exact hb v (by simpa [List.getD,D0 hlt] using h.2 k _ v (D0 hlt) hv) hv
 cases ha;rw [if_neg hk] at ha;exact h.2 i a v ha hv
def UL.nil(e:UL)(R:Nat):UL:={e with live:=λk=>k=R\/e.live k,val:=λk=>if k=R then .slice none 0 0 else e.val k}
theorem Step.nil{e:UL}{w:World}{R:Nat}(h: ¬e.live R):Step e (e.nil R) w w:=by
 refine ⟨λ_ _ h=>⟨h,rfl⟩,λk hk=>⟨.inr hk,rfl,?_⟩,Am _⟩;have:k≠R:=λh'=>h (h'▸hk);simp [UL.nil,this]
def Zm0(p:Pl)(R:Nat)(T:TypeId)(sz:Nat)(s:St):St:=match Qe1 s p with
 | .x (.slice none 0 0)=>{s with σ:=(cQ s p (.row R)).σ,m:=(R,.row T sz 0 (λ_=>[]))::(cQ s p (.row R)).m}
 |_=>s
theorem Wg5{cx:Cx}{w0:World}{F:Nat->Prop}{e:UL}{p:Pl}{R:Nat}{T:TypeId}{sz:Nat}{s:St}{a:Act}{w:World}(hΦ:cx.Φ s.gh F w0)(r:F7 cx w0 F e s a w)(hd: ¬e.live R)(hR:R<s.nx):Rel cx (Zm0 p R T sz s) a w:=by
 unfold Zm0;split;rename_i A;have st:Step e (e.nil R) w w:=Step.nil hd;have gO:UV (e.nil R) s.m w:=λq hq=>(r.mem q hq).ext (Below.refl _ _) st (λ_ _ h=>h);have I5:GH (e.nil R) w R (.row T sz 0 (λ_=>[])):=by
  refine ⟨.inl rfl,λb hb=>?_,λi O=>VJ,[],?_,λi j a v O=>VJ⟩;simp [UL.nil,Value.ownBlock] at hb;simp only [UL.nil,if_true];exact World.ownsRow_nil w 0 T sz
 have GK: ∀v,Rep e w (.x (.slice none 0 0)) v->Rep (e.nil R) w (.row R) v:=by
  intro v hv;rw [hv.x_inv];exact .row R none 0 0 (.inl rfl) (by simp [UL.nil])
 refine ⟨w0,F,e.nil R,hΦ,⟨r.env.apart,r.env.owned,r.env.glob⟩,r.below,?_,λk hk=>?_,r.foe,r.xt.step st,?_⟩;intro q hq;rcases GM.1 hq with rfl|hq;exact I5;cases p with
 |slot k=>exact gO q hq
 |cell id off=>
  simp only [cQ] at hq;split at hq;rename_i T' l hg;rcases FX hq with rfl|⟨hq,_⟩
  ·obtain ⟨h1,h2,vs,h3,h4⟩:=r.mem _ (UW hg);obtain ⟨l1,l2,l3⟩:=st.live id h1;refine ⟨l1,by rw [l2];exact h2,vs,by rw [l2];exact h3,?_⟩
   refine U3.swap (h4.step st) ?_;intro v hv hv';simp only [Qe1,hg] at A;have hlt:off<l.length:=by
    rcases An off l.length with h|h;exact h;rw [List.getD,Br h] at A;cases A
   have:=h4.2 off _ v (D0 hlt) hv';rw [List.getD,D0 hlt] at A;simp only [GS] at A;rw [A] at this;exact GK v this
  exact gO q hq;exact gO q hq
 rcases hk with rfl|hk;exact hR;exact r.live k hk
 ·cases p with
  |slot k=>
   simp only [cQ];refine U3.swap (r.slots.step st) ?_;intro v hv hv';simp only [Qe1] at A;have hlt:k<s.σ.length:=by
    rcases An k s.σ.length with h|h;exact h;rw [List.getD,Br h] at A;cases A
   have:=r.slots.2 k _ v (D0 hlt) hv';rw [List.getD,D0 hlt] at A;simp only [GS] at A;rw [A] at this;exact GK v this
  |cell id off=>
   simp only [cQ];split;exact r.slots.step st;exact r.slots.step st
 exact ⟨w0,F,e,hΦ,r⟩
def rE(i:Nat):H2->H2
 |[]=>[]
 |(k,r)::t=>match Nat.beq k i with
  |true=>match r with
   | .cells T l=>(k,.keep T l)::rE i t
   | .keep T l=>(k,.keep T l)::rE i t
   |_=>rE i t
  |false=>match HV i r with
   |true=>rE i t
   |false=>(k,r)::rE i t
def Qc8(i:Nat)(s:St):St:={s with m:=rE i s.m}
theorem eW{e:UL}{B:Nat}{w:World}{i:Nat}(hE:UY e B w): ∀{m:H2},UV e m w->UV (e.sol i) (rE i m) w
 |[],_=>λp A=>by cases A
 |(k,r)::t,h=>by
  have ih:=eW (i:=i) hE (m:=t) (λp A=>h p (HL _ A));have hk:=h _ GD;unfold rE;split;rename_i hb;have:=GZ hb;subst this;split;rename_i T l;intro p A;rcases GM.1 A with rfl|A;obtain ⟨h1,h2,vs,h3,h4⟩:=hk;exact ⟨h1,.inr h2,(hE.owned _ _ h2).2,vs,h3,h4.step (Step.sol e k w)⟩;exact ih p A;rename_i T l;intro p A;rcases GM.1 A with rfl|A;exact LH (Step.sol e k w) hk;exact ih p A;exact ih;rename_i hb;split;exact ih;rename_i hak;intro p A;rcases GM.1 A with rfl|A;exact GH.sol ⟨RB hb,hak⟩ hk;exact ih p A
theorem O6{c:Cx}{w0:World}{F:Nat->Prop}{e:UL}{i:Nat}{s:St}{a:Act}{w:World}(r:F7 c w0 F e s a w):F7 c w0 F (e.sol i) (Qc8 i s) a w:=by
 have st:=Step.sol e i w;refine ⟨r.env.sol i,r.below,eW r.env r.mem,r.live,λb hb=>⟨(r.foe b hb).1,λZ=>?_⟩,r.xt.step st,r.slots.step st⟩;rcases Z with Z|Z;exact (r.foe b hb).2 Z;have:=(r.env.owned b i Z).1;have:=(r.foe b hb).1;omega
def UL.prom(e:UL)(i q:Nat):UL:={e with own:=λb=>match e.own b with|some k=>if k=q then some i else some k|none=>none}
def eH(i q:Nat):H2->H2
 |[]=>[]
 |(k,r)::t=>match Nat.beq k q||(Nat.beq k i||(HV q r||HV i r)) with
  |true=>eH i q t
  |false=>(k,r)::eH i q t
def eG(i:Nat)(s:St):St:=match DG s.m i with
 |some (.aka q T sz n f)=>{s with m:=(i,.row T sz n f)::eH i q s.m}
 |_=>s
theorem eV{e:UL}{w:World}{i q:Nat}: ∀{m:H2},UV e m w->UV (e.prom i q) (eH i q m) w
 |[],_=>λp A=>by cases A
 |(k,r)::t,h=>by
  have ih:=eV (i:=i) (q:=q) (m:=t) (λp A=>h p (HL _ A));have hk:=h _ GD;unfold eH;split;exact ih;rename_i hb;simp only [Bool.or_eq_false_iff] at hb;obtain ⟨hb1,hb2,hb3,hb4⟩:=hb;have n1:=RB hb1;have n2:=RB hb2;have st:Step e (e.prom i q) w w:=⟨λ_ _ h=>⟨h,rfl⟩,λ_ h=>⟨h,rfl,rfl⟩,Am _⟩;have ow: ∀b o,o≠q->e.own b=some o->(e.prom i q).own b=some o:=λb o ho hbo=>by simp [UL.prom,hbo,ho]
  intro p A;rcases GM.1 A with rfl|A;cases r with
  |cells T l=>
   obtain ⟨h1,h2,vs,h3,h4⟩:=hk;exact ⟨h1,ow _ _ n1 h2,vs,h3,h4.step st⟩
  |ints T pre n f=>
   obtain ⟨h1,h2,vs,h3,h4⟩:=hk;exact ⟨h1,ow _ _ n1 h2,vs,h3,h4.step st⟩
  |memo g f=>
   obtain ⟨h1,h2,es,c,h3,h4⟩:=hk;exact ⟨h1,ow _ _ n1 h2,es,c,h3,h4⟩
  |row T sz n f=>
   obtain ⟨h1,h2,hf,xs,h3,h4⟩:=hk;exact ⟨h1,λb hb=>ow _ _ n1 (h2 b hb),hf,xs,h3,λi j a v O ha hv=>(h4 i j a v O ha hv).step st⟩
  |keep T l=>exact LH st hk
  |aka r T sz n f=>
   obtain ⟨h1,h0,o,hor,h2,hf,xs,h3,h4⟩:=hk;have ho:o≠q:=by
    rcases hor with rfl|rfl;exact n1;exact RB hb3
   exact ⟨h1,h0,o,hor,λb hb=>ow _ _ ho (h2 b hb),hf,xs,h3,λi j a v O ha hv=>(h4 i j a v O ha hv).step st⟩
  exact ih p A
theorem CH{c:Cx}{i:Nat}{s:St}{a:Act}{w:World}(r:Rel c s a w):Rel c (eG i s) a w:=by
 unfold eG;split;rename_i q T sz n f hg;obtain ⟨w0,F,e,hΦ,r⟩:=r;have st:Step e (e.prom i q) w w:=⟨λ_ _ h=>⟨h,rfl⟩,λ_ h=>⟨h,rfl,rfl⟩,Am _⟩;refine ⟨w0,F,e.prom i q,hΦ,⟨⟨λb hb=>?_,λb k hk=>?_,r.env.glob.step st⟩,r.below,?_,r.live,r.foe,r.xt.step st,r.slots.step st⟩⟩;obtain ⟨h1,h2⟩:=r.env.apart b hb;exact ⟨by simp [UL.prom,h1],h2⟩
 simp only [UL.prom] at hk;cases ho:e.own b with
 |none=>rw [ho] at hk;cases hk
 |some j=>exact r.env.owned b j ho
 intro p A;rcases GM.1 A with rfl|A;obtain ⟨h1,h0,o,hor,h2,hf,xs,h3,h4⟩:=r.mem _ (UW hg);refine ⟨h1,λb hb=>?_,hf,xs,h3,λi' j a v O ha hv=>(h4 i' j a v O ha hv).step st⟩;have:=h2 b hb;rcases hor with rfl|rfl;simp [UL.prom,this];simp [UL.prom,this];exact eV r.mem p A;exact r
def Qc9:List AV->St->St
 |[],s=>s
 | .ptr i _::l,s=>Qc9 l (Qc8 i s)
 |_::l,s=>Qc9 l s
theorem dU{c:Cx}{a:Act}{w:World}: ∀{l:List AV} {s:St},Rel c s a w->Rel c (Qc9 l s) a w
 |[],_,r=>r
 |b::l,s,r=>by
  cases b with
  |ptr i o=>
   obtain ⟨w0,F,e,hΦ,r⟩:=r;exact dU (l:=l) (s:=Qc8 i s) ⟨w0,F,_,hΦ,O6 r⟩
  |_=>exact dU (l:=l) (s:=s) r
def Qz4(s:St):St:=match s.sv with
 |[]=>{s with σ:=s.σ.map (DA s.m 40),m:=[] }
 |_=>s
theorem Qz3{c:Cx}{s:St}{a:Act}{w:World}(r:Rel c s a w):Rel c (Qz4 s) a w:=by
 unfold Qz4;split;rename_i hsv;obtain ⟨w0,T,e,hΦ,r⟩:=r
 let e2:UL:={ro:=e.view.ro,own:=λ_=>none,live:=λ_=>False,blk:=λ_=>0,val:=λ_=> .nilIface}
 have hlt: ∀b,e2.ro b->b<w.heap.size:=by
  rintro b (h|⟨id,h⟩);exact (r.env.apart b h).2;exact (r.env.owned b id h).2
 have st2:Step e2 e2 w w:=⟨λb hb Z=>⟨Z,rfl⟩,λ_ h=>h.elim,Am _⟩;have gJ:U3 e2 w (s.σ.map (DA s.m 40)) a.tmps.toList:=
  U3.map (DA s.m 40) (λx v hx=>Rep.idf (e:=e.view) (e':=e2) (λ_ h=>h) (LA r.env r.mem 40 x v hx) (RK r.mem 40 x v hx)) r.slots
 refine ⟨w0,T,e2,hΦ,⟨⟨λb hb=>⟨rfl,hlt b hb⟩,(λb id h=>by cases h),DH.step (e:=e2) (w:=w) (λb p A=>⟨.inl (r.env.glob b p A).1,(r.env.glob b p A).2⟩) st2⟩,r.below,(λp A=>by cases A),(λk hk=>hk.elim),λb hb=>⟨(r.foe b hb).1,?_⟩,⟨⟨λd hd=>by obtain ⟨D,h1,h2,h3,h4,h5⟩:=r.xt.defers.1 d hd;exact ⟨D,h1,.inl h2,h3,h4,h5⟩,r.xt.defers.2⟩,λb o hb=>by obtain ⟨h1,h2,h3⟩:=r.xt.kept b o hb;exact ⟨.inl h1,h2,h3⟩,by
  have:=r.xt.saved.1;rw [hsv] at this;rw [hsv];exact ⟨this,λi a v h=>by simp at h⟩,r.xt.size⟩,gJ⟩⟩
 rintro (h|⟨id,h⟩);exact (r.foe b hb).2 h;have:=(r.env.owned b id h).1;have:=(r.foe b hb).1;omega;exact r
def Qc0(p:Pl)(R:Nat)(T:TypeId)(sz:Nat)(s:St):St:=match Qe1 s p with
 | .row i=>match sz with
  | 0=>Qs0 i (eG i s)
  |_+1=>match T with
   | 0=>eG i s
   |_+1=>Qm7 i R (eG i s)
 | .ptr i _=>match sz with
  | 0=>Qc8 i s
  | 1=>Qz4 s
  |_+2=>Qm7 i R s
 | .fn _ _ l=>Qc9 l s
 | .x (.slice none 0 0)=>match T with
  | 0=>s
  |_+1=>Zm0 p R T sz (Qm7 s.nx R s)
 |_=>s
theorem Wg3{cx:Cx}{p:Pl}{R:Nat}{T:TypeId}{sz:Nat}{s:St}{a:Act}{w:World}(r:Rel cx s a w):Rel cx (Qc0 p R T sz s) a w:=by
 unfold Qc0;split;rename_i i _;split;obtain ⟨w0,F,e,hΦ,r⟩:=CH (i:=i) r;obtain ⟨e',r'⟩:=lG (i:=i) r;exact ⟨w0,F,e',by rw [Qe2];exact hΦ,r'⟩
 split;exact CH (i:=i) r;obtain ⟨w0,F,e,hΦ,r⟩:=CH (i:=i) r;exact ⟨w0,F,_,hΦ,CB r⟩;split;obtain ⟨w0,F,e,hΦ,r⟩:=r;exact ⟨w0,F,_,hΦ,O6 r⟩;exact Qz3 r;obtain ⟨w0,F,e,hΦ,r⟩:=r;exact ⟨w0,F,_,hΦ,CB r⟩;exact dU r;split;exact r;obtain ⟨w0,F,e,hΦ,r⟩:=r;refine Wg5 hΦ (CB r) ?_ ?_;rintro (⟨_,h⟩|⟨_,_,h⟩);exact Bf _ (r.live _ h);exact h rfl;simp only [Qm7];split;rename_i hb;rw [Aw] at hb;exact hb;exact Bk _;exact r
def FZ:List (Pl×Nat×TypeId×Nat)->St->St
 |[],s=>s
 |(p,R,T,sz)::t,s=>FZ t (Qc0 p R T sz s)
theorem DF{cx:Cx}{a:Act}{w:World}: ∀{l:List (Pl×Nat×TypeId×Nat)} {s:St},Rel cx s a w->Rel cx (FZ l s) a w
 |[],_,r=>r
 |(p,R,T,sz)::t,s,r=>DF (l:=t) (s:=Qc0 p R T sz s) (Wg3 r)
def GJ(l:List (Pl×Nat×TypeId×Nat))(sp:UG):UG:=λs=>sp (FZ l s)
theorem yS{P:Program}{ro:Option Nat}{cx:Cx}{c:Code}{l:List (Pl×Nat×TypeId×Nat)}{sp:UG}(h:HN P ro cx c sp):HN P ro cx c (GJ l sp):=
 λn s t ht Q hQ a w r=>h n (FZ l s) t ht Q hQ a w (DF r)
def s6(N:List (Pl×Nat×TypeId×Nat))(nxt:St)(out:G5->Option St)(p:G5×St):VM G5:=match p.1 with
 | .normal=> .needT (BH (FZ N p.2) nxt) (.leaf .normal)
 | .exit id=>match out (.exit id) with
  |some E=> .needT (BH (FZ N p.2) E) (.leaf (.exit id))
  |none=> .fail
 | .ret=>match out .ret with
  |some E=> .needT (BH (FZ N p.2) E) (.leaf .ret)
  |none=> .fail
theorem Wt2{N:List (Pl×Nat×TypeId×Nat)}{t:CT}{nxt:St}{out:G5->Option St}{R:G5->Prop}(h:(t.bind (s6 N nxt out)).sat R):
  t.sat (λp=>match p.1 with
   | .normal=>R .normal/\UB (BH (FZ N p.2) nxt)
   |y=> ∃E,out y=some E/\R y/\UB (BH (FZ N p.2) E)):=by
 refine VM.sat_mono ?_ (VM.sat_bind h);rintro ⟨y,s'⟩ A;cases y with
 |normal=>exact ⟨(VM.sat_needT A).2,(VM.sat_needT A).1⟩
 |exit id=>
  dsimp only [s6] at A ⊢
  split at A;rename_i E hE;exact ⟨E,hE,(VM.sat_needT A).2,(VM.sat_needT A).1⟩;exact A.elim
 |ret=>
  dsimp only [s6] at A ⊢
  split at A;rename_i E hE;exact ⟨E,hE,(VM.sat_needT A).2,(VM.sat_needT A).1⟩;exact A.elim
section
variable (P:Program)(G:List (Nat×Spec))
def HY(X:Ext)(L:List UG)(N:List (Pl×Nat×TypeId×Nat))(body:Code)(s nxt:St)(out:G5->Option St):VM G5:=(D6 P G X L body 0 s).bind (s6 N nxt out)
def Zh0(L:List UG)(N:List (Pl×Nat×TypeId×Nat))(body:Code)(s nxt:St)(out:G5->Option St):VM G5:=HY P G {} L N body s nxt out
end
section
variable {P:Program}{G:List (Nat×Spec)}
theorem FM{X:Ext}{L:List UG}{ro:Option Nat}{cx:Cx}(N:List (Pl×Nat×TypeId×Nat))(hG:VK P G)(hX:VW P X cx)(GR:P.follows .mixedOrders=true){body:Code}(hL: ∀j cj,VS body j=some cj-> ∀sp,L[j]? =some sp->HN P ro cx cj sp)
  {V:Type}(inv:V->St)(I:V->Prop)(μ:V->Nat)(out:V->G5->Option St){t:CT}{x0:V}(h0:I x0)
  (hok: ∀x,okB (inv x)=true)(qT: ∀x y E,out x y=some E->okB E=true)
  (round: ∀(Q:G5×St->Prop),t.sat Q-> ∀x,I x-> ∃x',(HY P G X L N body (inv x) (inv x') (out x)).sat (λy=>match y with
   | .normal=>I x'/\μ x'<μ x
   |y=> ∀E,out x y=some E->Q (y,E))):HN P ro cx (.loop body) (GJ N (HF (inv x0) t)):=by
 refine yS (jJ (hok x0) ?_);intro n Q hQ a w r;refine TZ μ (λx a w=>I x/\Rel cx (inv x) a w) ?_ ⟨h0,r⟩;rintro x a w ⟨hx,Z⟩;obtain ⟨x',zP⟩:=round Q hQ x hx;refine wpIn_mono (D8 hG hX GR body 0 (inv x) _ a w (λj cj hj sp hsp=>hL j cj hj sp (by simpa using hsp)) (Wt2 zP) Z) ?_
 rintro ex a₁ w₁ ⟨y,s',rfl,hq,hr'⟩;cases y with
 |normal=>
  obtain ⟨⟨h1,h2⟩,h3⟩:=hq;exact ⟨x',h2,h1,FW (GE h3) (hok x') (DF hr')⟩
 |exit id=>
  obtain ⟨E,hE,h1,h3⟩:=hq;exact ⟨.exit id,E,rfl,h1 E hE,FW (GE h3) (qT x _ E hE) (DF hr')⟩
 |ret=>
  obtain ⟨E,hE,h1,h3⟩:=hq;exact ⟨.ret,E,rfl,h1 E hE,FW (GE h3) (qT x _ E hE) (DF hr')⟩
theorem zK{L:List UG}(N:List (Pl×Nat×TypeId×Nat))(hG:VK P G)(GR:P.follows .mixedOrders=true){body:Code}(hL: ∀j cj,VS body j=some cj-> ∀sp,L[j]? =some sp->G6 P cj sp)
  {X:Type}(inv:X->St)(I:X->Prop)(μ:X->Nat)(out:X->G5->Option St){t:CT}{x0:X}(h0:I x0)
  (hok: ∀x,okB (inv x)=true)(qT: ∀x y E,out x y=some E->okB E=true)
  (round: ∀(Q:G5×St->Prop),t.sat Q-> ∀x,I x-> ∃x',(Zh0 P G L N body (inv x) (inv x') (out x)).sat (λy=>match y with
   | .normal=>I x'/\μ x'<μ x
   |y=> ∀E,out x y=some E->Q (y,E))):G6 P (.loop body) (GJ N (HF (inv x0) t)):=
 λro cx=>FM N hG (VW.nil P cx) GR (λj cj hj sp hsp=>hL j cj hj sp hsp ro cx) inv I μ out h0 hok qT round
end
def F2(ps:List Prop)(sp:UG):UG:=λs=>match sp s with
 |some t=>some (.need ps t)
 |none=>none
theorem wP{P:Program}{ro:Option Nat}{cx:Cx}{c:Code}{ps:List Prop}{sp:UG}(h:UB ps->HN P ro cx c sp):HN P ro cx c (F2 ps sp):=by
 intro n s t ht Q hQ a w r;unfold F2 at ht;split at ht;rename_i t' ht';cases ht;exact h hQ.1 n s t' ht' Q hQ.2 a w r;cases ht
theorem HJ{P:Program}{c:Code}{ps:List Prop}{sp:UG}(h:UB ps->G6 P c sp):G6 P c (F2 ps sp):=λro cx=>wP (λA=>h A ro cx)
section
variable {P:Program}
def Xm1(P:Program)(rs:List ResultVar)(t:CT):VM AV:=t.bind λp=>match p.1 with
 | .exit _=> .fail
 |_=>match BQ P p.2 rs with
  |some r=> .leaf (DA p.2.m 40 r)
  |none=> .fail
mutual
def DX:AV->AV->Prop
 | .x u,b=>match b with
  | .top=>True
  | .x v=>UD u v
  | .lst _ n _=>iF u/\n=0
  |b=>AV.x u=b
 | .lit c,b=>match b with
  | .top=>True
  | .x (.bool d)=>c=d
  |b=>AV.lit c=b
 | .lst sz n f,b=>match b with
  | .top=>True
  | .lst sz' n' f'=>sz=sz'/\n=n'/\ ∀i,i<n'->f i=f' i
  |b=>AV.lst sz n f=b
 | .agg l,b=>match b with
  | .top=>True
  | .agg l'=>qX l l'
  |b=>AV.agg l=b
 | .tup l,b=>match b with
  | .top=>True
  | .tup l'=>qX l l'
  |b=>AV.tup l=b
 | .roI pre n f off,b=>match b with
  | .top=>True
  | .roI pre' n' f' off'=>pre=pre'/\n=n'/\(∀k,k<n'->f k=f' k)/\off=off'
  |b=>AV.roI pre n f off=b
 |a,b=>match b with
  | .top=>True
  |b=>a=b
def qX:List AV->List AV->Prop
 |[],l'=>match l' with
  |[]=>True
  |_::_=>False
 |r::l,l'=>match l' with
  |a::l'=>DX r a/\qX l l'
  |[]=>False
end
mutual
theorem L1{e:UL}{w:World}: ∀{a b:AV} {v:Value},DX a b->Rep e w a v->Rep e w b v
 | .x u,b,v,h,r=>by
  unfold DX at h;split at h;exact .top v;rw [c9 h] at r;exact r;obtain ⟨h1,rfl⟩:=h;cases r.x_inv;rw [iE h1];exact .lstNil _ _;rw [←h];exact r
 | .lit c,b,v,h,r=>by
  unfold DX at h;split at h;exact .top v;subst h;cases r.lit_inv;exact .x _;rw [←h];exact r
 | .lst sz n f,b,v,h,r=>by
  unfold DX at h;split at h;exact .top v;obtain ⟨rfl,rfl,h3⟩:=h;exact uA.rep (.lst _ _ _ _ h3) r;rw [←h];exact r
 | .agg l,b,v,h,r=>by
  unfold DX at h;split at h;exact .top v;obtain ⟨vs,rfl,Z⟩:=r.agg_inv;exact Rep.aggL (kW h Z);rw [←h];exact r
 | .tup l,b,v,h,r=>by
  unfold DX at h;split at h;exact .top v;obtain ⟨vs,rfl,Z⟩:=r.tup_inv;exact Rep.tupL (kW h Z);rw [←h];exact r
 | .top,b,v,h,r=>by
  unfold DX at h;split at h;exact .top v;rw [←h];exact r
 | .fn _ _ _,b,v,h,r=>by
  unfold DX at h;split at h;exact .top v;rw [←h];exact r
 | .ptr _ _,b,v,h,r=>by
  unfold DX at h;split at h;exact .top v;rw [←h];exact r
 | .row _,b,v,h,r=>by
  unfold DX at h;split at h;exact .top v;rw [←h];exact r
 | .elt _ _ _ _,b,v,h,r=>by
  unfold DX at h;split at h;exact .top v;rw [←h];exact r
 | .ro _,b,v,h,r=>by
  unfold DX at h;split at h;exact .top v;rw [←h];exact r
 | .mp _,b,v,h,r=>by
  unfold DX at h;split at h;exact .top v;rw [←h];exact r
 | .any1,b,v,h,r=>by
  unfold DX at h;split at h;exact .top v;rw [←h];exact r
 | .mpr _ _,b,v,h,r=>by
  unfold DX at h;split at h;exact .top v;rw [←h];exact r
 | .roI pre n f off,b,v,h,r=>by
  unfold DX at h;split at h;exact .top v;obtain ⟨rfl,rfl,h3,rfl⟩:=h;cases r with
  |roI _ _ _ _ b o Z=>
   have hL:HP n f=HP n _:=List.map_congr_left (λk hk=>by rw [h3 k (List.mem_range.1 hk)])
   rw [hL] at Z;exact .roI _ _ _ _ b o Z
  rw [←h];exact r
theorem kW{e:UL}{w:World}: ∀{l l':List AV} {vs:List Value},qX l l'->U3 e w l vs->U3 e w l' vs
 |[],[],_,_,r=>r
 |[],_::_,_,h,_=>by simp [qX] at h
 |a::l,[],_,h,_=>by simp [qX] at h
 |a::l,b::l',vs,h,r=>by
  unfold qX at h;obtain ⟨v,vs',rfl,hv,hvs⟩:=r.cons_inv;exact U3.cons (L1 h.1 hv) (kW h.2 hvs)
end
def EndR(P:Program)(fn:Func)(res:AV)(p:G5×St):Prop:=(match p.1 with| .exit _=>False|_=>True)/\ ∃r,BQ P p.2 fn.results.toList=some r/\DX (DA p.2.m 40 r) res
theorem Wt3{fn:Func}{res:AV}{t:CT}(h:(Xm1 P fn.results.toList t).sat (λr=>DX r res)):t.sat (EndR P fn res):=by
 refine VM.sat_mono ?_ (VM.sat_bind h);rintro ⟨x,s⟩ hs;cases x with
 |exit i=>exact hs.elim
 |normal=>
  simp only at hs;split at hs;rename_i r Z;exact ⟨trivial,r,Z,hs⟩;exact hs.elim
 |ret=>
  simp only at hs;split at hs;rename_i r Z;exact ⟨trivial,r,Z,hs⟩;exact hs.elim
def EndC(P:Program)(fn:Func)(Q:AV->Prop)(p:G5×St):Prop:=(match p.1 with| .exit _=>False|_=>True)/\ ∃r,BQ P p.2 fn.results.toList=some r/\ ∃r',DX (DA p.2.m 40 r) r'/\Q r'
theorem Wt7{fn:Func}{Q:AV->Prop}{t:CT}(h:(Xm1 P fn.results.toList t).sat (λr=> ∃r',DX r r'/\Q r')):t.sat (EndC P fn Q):=by
 refine VM.sat_mono ?_ (VM.sat_bind h);rintro ⟨x,s⟩ hs;cases x with
 |exit i=>exact hs.elim
 |normal=>
  simp only at hs;split at hs;rename_i r Z;exact ⟨trivial,r,Z,hs⟩;exact hs.elim
 |ret=>
  simp only at hs;split at hs;rename_i r Z;exact ⟨trivial,r,Z,hs⟩;exact hs.elim
section
variable {G:List (Nat×Spec)}{X:Ext}{L:List UG}{f:FuncId}{fn:Func}{c:Code}{avs:List AV}
theorem GT{sp t:VM AV}(hG:VK P G)(hX: ∀cx,VW P X cx)(GR:P.follows .mixedOrders=true)(hf:P.funcs[f]? =some fn)(hb:fn.body=some c)
  (hL: ∀j cj,VS c j=some cj-> ∀sp,L[j]? =some sp->HT P cj sp)(ht:Xm1 P fn.results.toList (D6 P G X L c 0 (HQ fn avs))=t)(h: ∀Q:AV->Prop,sp.sat Q->t.sat (λr=> ∃r',DX r r'/\Q r')):UN P f avs sp:=by
 subst ht;intro Q hQ e w args hro hgl FP Z;refine xR hG GR hf hb (cx:=lN w (λb=>b<w.heap.size/\ ¬e.ro b)) (gh:=none) (T:=λb=>b<w.heap.size/\ ¬e.ro b) (e:=e) (hX _) (λ_ _ h=>h) rfl rfl (by rintro g T w0 D ⟨rfl,_⟩ h;exact h) ⟨rfl,rfl⟩ (λb h=>h) hro hgl FP Z (λj cj hj sp hsp=>hL j cj hj sp hsp _ (xQ _ _)) (Wt7 (h Q hQ)) ?_ ?_
 rintro x s w0 T' e' tmps w' ⟨hx,r,F3,r',kF,hQr⟩ ⟨rfl,rfl⟩ q1 q2 q3 q5 q4;obtain ⟨u,hu,GK⟩:=DM (P:=P) q3 q4 F3;refine ⟨u,hu,u,r',rfl,hQr,q2,?_⟩;refine L1 kF (Rep.idf (e:=e'.view) ?_ (LA q1 q3 40 r u GK) (RK q3 40 r u GK));rintro b (hb|⟨k,hb⟩);rcases An b w0.heap.size with h1|h1;refine .inl ?_;rcases Classical.em (e.ro b) with h2|h2;exact h2;exact (q5 b ⟨h1,h2⟩ hb).elim;exact .inr ⟨h1,(q1.apart b hb).2⟩;exact .inr ⟨(q1.owned b k hb).1,(q1.owned b k hb).2⟩;rintro x s ⟨hx,_⟩ i rfl;exact hx
theorem D5{res:AV}{t:VM AV}(hG:VK P G)(hX: ∀cx,VW P X cx)(GR:P.follows .mixedOrders=true)(hf:P.funcs[f]? =some fn)(hb:fn.body=some c)
  (hL: ∀j cj,VS c j=some cj-> ∀sp,L[j]? =some sp->HT P cj sp)(ht:Xm1 P fn.results.toList (D6 P G X L c 0 (HQ fn avs))=t)(h:t.sat (λr=>DX r res)):FQ P f avs res:=by
 subst ht;intro e w args hro hgl FP Z;refine xR hG GR hf hb (cx:=lN w (λb=>b<w.heap.size/\ ¬e.ro b)) (gh:=none) (T:=λb=>b<w.heap.size/\ ¬e.ro b) (e:=e) (hX _) (λ_ _ h=>h) rfl rfl (by rintro g T w0 D ⟨rfl,_⟩ h;exact h) ⟨rfl,rfl⟩ (λb h=>h) hro hgl FP Z (λj cj hj sp hsp=>hL j cj hj sp hsp _ (xQ _ _)) (Wt3 h) ?_ ?_
 rintro x s w0 T' e' tmps w' ⟨hx,r,F3,kF⟩ ⟨rfl,rfl⟩ q1 q2 q3 q5 q4;obtain ⟨u,hu,GK⟩:=DM (P:=P) q3 q4 F3;refine ⟨u,hu,u,rfl,q2,?_⟩;refine L1 kF (Rep.idf (e:=e'.view) ?_ (LA q1 q3 40 r u GK) (RK q3 40 r u GK));rintro b (hb|⟨k,hb⟩);rcases An b w0.heap.size with h1|h1;refine .inl ?_;rcases Classical.em (e.ro b) with h2|h2;exact h2;exact (q5 b ⟨h1,h2⟩ hb).elim;exact .inr ⟨h1,(q1.apart b hb).2⟩;exact .inr ⟨(q1.owned b k hb).1,(q1.owned b k hb).2⟩;rintro x s ⟨hx,_⟩ i rfl;exact hx
end
def Jl5(P:Program)(rs:List ResultVar)(t:CT):VM (Option (TypeId×Nat×Nat×(Ci))):=t.bind λp=>match p.1 with
 | .exit _=> .fail
 |_=>match BQ P p.2 rs with
  |some (.row id)=>match DG p.2.m id with
   |some (.row T sz n f)=> .leaf (some (T,sz,n,f))
   |_=> .fail
  |some (.x (.slice none 0 0))=> .leaf none
  |_=> .fail
def Xl8(T:TypeId)(sz n:Nat)(g:Ci):Option (TypeId×Nat×Nat×(Ci))->Prop
 |none=>n=0
 |some (T',sz',n',f)=>T'=T/\sz'=sz/\n'=n/\ ∀i,i<n->f i=g i/\ ∀a∈g i,isX a
def EndF(P:Program)(fn:Func)(T:TypeId)(sz n:Nat)(g:Ci)(p:G5×St):Prop:=(match p.1 with| .exit _=>False|_=>True)/\
 ((∃id f,BQ P p.2 fn.results.toList=some (.row id)/\DG p.2.m id=some (.row T sz n f)/\ ∀i,i<n->f i=g i/\ ∀a∈g i,isX a)\/(BQ P p.2 fn.results.toList=some (.x (.slice none 0 0))/\n=0))
theorem Wt6{fn:Func}{T:TypeId}{sz n:Nat}{g:Ci}{t:CT}(h:(Jl5 P fn.results.toList t).sat (Xl8 T sz n g)):t.sat (EndF P fn T sz n g):=by
 refine VM.sat_mono ?_ (VM.sat_bind h);rintro ⟨x,s⟩ hs;have key:(match BQ P s fn.results.toList with
  |some (.row id)=>match DG s.m id with
   |some (.row T sz n f)=>(.leaf (some (T,sz,n,f)):VM (Option (TypeId×Nat×Nat×(Ci))))
   |_=> .fail
  |some (.x (.slice none 0 0))=> .leaf none
  |_=> .fail).sat (Xl8 T sz n g)->(∃id f,BQ P s fn.results.toList=some (.row id)/\DG s.m id=some (.row T sz n f)/\ ∀i,i<n->f i=g i/\ ∀a∈g i,isX a)\/(BQ P s fn.results.toList=some (.x (.slice none 0 0))/\n=0):=by
  intro h;split at h;rename_i id hid;split at h;rename_i T' sz' n' f hm;obtain ⟨rfl,rfl,rfl,h⟩:=h;exact .inl ⟨id,f,hid,hm,h⟩;exact h.elim;rename_i hid;exact .inr ⟨hid,h⟩;exact h.elim
 cases x with
 |exit i=>exact hs.elim
 |normal=>exact ⟨trivial,key hs⟩
 |ret=>exact ⟨trivial,key hs⟩
theorem BO{G:List (Nat×Spec)}{X:Ext}{L:List UG}{f:FuncId}{fn:Func}{c:Code}{avs:List AV}{T:TypeId}{sz n:Nat}{g:Ci}{t:VM (Option (TypeId×Nat×Nat×(Ci)))}(hG:VK P G)(hX: ∀cx,VW P X cx)(GR:P.follows .mixedOrders=true)(hf:P.funcs[f]? =some fn)(hb:fn.body=some c)
  (hL: ∀j cj,VS c j=some cj-> ∀sp,L[j]? =some sp->HT P cj sp)(ht:Jl5 P fn.results.toList (D6 P G X L c 0 (HQ fn avs))=t)(h:t.sat (Xl8 T sz n g))(HX: ∀i,i<n->(g i).length=sz):DO P f avs T sz n g:=by
 subst ht;intro e w args hro hgl FP Z;refine xR hG GR hf hb (cx:=lN w (λb=>b<w.heap.size/\ ¬e.ro b)) (gh:=none) (T:=λb=>b<w.heap.size/\ ¬e.ro b) (e:=e) (hX _) (λ_ _ h=>h) rfl rfl (by rintro g T w0 D ⟨rfl,_⟩ h;exact h) ⟨rfl,rfl⟩ (λb h=>h) hro hgl FP Z (λj cj hj sp hsp=>hL j cj hj sp hsp _ (xQ _ _)) (Wt6 h) ?_ ?_
 rintro x s w0 T' e' tmps w' ⟨hx,PL⟩ ⟨rfl,rfl⟩ q1 q2 q3 q5 q4;rcases PL with ⟨id,ff,F3,hm,hfg⟩|⟨F3,rfl⟩;obtain ⟨u,hu,GK⟩:=DM (P:=P) q3 q4 F3;obtain ⟨h1,h2,h3,xs,h4,h5⟩:=q3 _ (UW hm);cases GK with
 |row _ a n' c' hl hv=>
  refine ⟨_,hu,_,xs,rfl,q2,?_,?_,λi O=>⟨HX i O,λa ha=>Wi9 ((hfg i O).2 a ha)⟩,λi j a u O ha hu=>?_⟩;rw [←hv];exact h4;intro b hbv;rw [←hv] at hbv;exact q1.owned b id (h2 b hbv);have hx':=Wi9 ((hfg i O).2 a (F5 ha));obtain ⟨z,rfl⟩:=hx';have:=h5 i j (.x z) u O (by rw [(hfg i O).1];exact ha) hu
  rw [this.x_inv]
 obtain ⟨u,hu,GK⟩:=DM (P:=P) q3 q4 F3;obtain rfl:=GK.x_inv;exact ⟨_,hu,_,[],rfl,q2,World.ownsRow_nil _ _ _ _,(λb (hb:none=some b)=>by cases hb),λi O=>absurd O (Aq _),λi j a u O=>absurd O (Aq _)⟩
 rintro x s ⟨hx,_⟩ i rfl;exact hx
def BE(P:Program)(g:FuncId)(caps:List AV)(N:Nat)(vals:Nat->List Value):Prop:=
 Enters P g/\ ∀(e:UL) (lb:List Value) (w:World) (l:Nat) (Φ:Option Nat->(Nat->Prop)->World->Prop) (T:Nat->Prop),
  (∀b,e.ro b->b<w.heap.size/\ ¬T b)->DH e w->(∀b,T b->b<w.heap.size)->(∀a∈caps,Idf a)->U3 e w caps lb->
  (∀g T w w',Φ g T w->Below w.heap.size w w'->Φ g T w')->
  (∀k T w n,Φ (some k) T w->k<N->YieldAt (fr none) n P l (vals k).toArray w λen w'=>w.heap.size<=w'.heap.size/\(∀b,b<w.heap.size-> ¬T b->w'.heap[b]? =w.heap[b]?)/\
   ∃T',(∀b,T' b->b<w'.heap.size/\(T b\/w.heap.size<=b))/\((en= .returned (.bool true)/\Φ (some (k+1)) T' w')\/(en= .returned (.bool false)/\Φ none T' w')))->
  Φ (some 0) T w->
  Calls P g (.func (.yield l) #[] #[]::lb).toArray w λen w'=>(∃v,en= .returned v)/\((∃T',Φ (some N) T' w')\/(∃T',Φ none T' w'))
def Jl4(N:Nat)(t:CT):VM Unit:=t.bind λp=>match p.1 with
 | .exit _=> .fail
 |_=>match p.2.gh with
  |none=> .leaf ()
  |some k=> .need [k=N] (.leaf ())
theorem Wt0{N:Nat}{t:CT}(h:(Jl4 N t).sat (λ_=>True)):t.sat (λp=>(∀i,p.1≠ .exit i)/\(p.2.gh=none\/p.2.gh=some N)):=by
 refine VM.sat_mono ?_ (VM.sat_bind h);rintro ⟨x,s⟩ hs;have key:(match s.gh with|none=>(.leaf ():VM Unit)|some k=> .need [k=N] (.leaf ())).sat (λ_=>True)->s.gh=none\/s.gh=some N:=by
  cases hg:s.gh with
  |none=>exact λ_=> .inl rfl
  |some k=>
   intro h;have:k=N:=h.1;exact .inr (by rw [this])
 cases x with
 |exit i=>exact hs.elim
 |normal=>exact ⟨λi h=>(by cases h),key hs⟩
 |ret=>exact ⟨λi h=>(by cases h),key hs⟩
def cxY(w:World)(Φ:Option Nat->(Nat->Prop)->World->Prop):Cx:={M:=λ_=>False,Φ:=λg T w'=>w.heap.size<=w'.heap.size/\Φ g T w',K:=λ_ _=>False,saved:=[] }
theorem BN{G:List (Nat×Spec)}{L:Nat->List UG}{g:FuncId}{fn:Func}{c:Code}{caps:List AV}{N:Nat}{vals:Nat->List Value}{t:Nat->VM Unit}(hG:VK P G)(GR:P.follows .mixedOrders=true)(PD:Enters P g)(hf:P.funcs[g]? =some fn)(hb:fn.body=some c)(hrs:fn.results=#[])
  (hL: ∀l cx,VW P {Y:=some (l,N,vals) } cx-> ∀j cj,VS c j=some cj-> ∀sp,(L l)[j]? =some sp->HN P none cx cj sp)
  (ht: ∀l,Jl4 N (D6 P G {Y:=some (l,N,vals) } (L l) c 0 {HQ fn (.fn (.yield l) [] []::caps) with gh:=some 0})=t l)(h: ∀l,(t l).sat (λ_=>True)):BE P g caps N vals:=by
 refine ⟨PD,?_⟩;intro e lb w l Φ T hro hgl hT FP Z hst hy h0;have hX:VW P {Y:=some (l,N,vals) } (cxY w Φ):=by
  refine ⟨?_,(λ_ h=>by cases h),(λ_ h=>by cases h),(λ_ h=>by cases h),(λ_ h=>by cases h),(λ_ h=>by cases h)⟩
  intro l' N' vals' hY;cases hY;refine ⟨λk T w1 w2 h hb=>⟨Ar h.1 hb.size,hst _ T w1 w2 h.2 hb⟩,λk T w1 n h hk=>?_⟩;obtain ⟨fn,tmps,assign,body,h1,h2⟩:=hy k T w1 n h.2 hk;refine ⟨fn,tmps,assign,body,h1,h2.mono ?_⟩;rintro en w2 ⟨q1,q2,T',q3,q4⟩;refine ⟨q1,q2,T',q3,q4.imp (λq=>⟨q.1,?_,q.2⟩) (λq=>⟨q.1,?_,q.2⟩)⟩;exact Ar h.1 q1;exact Ar h.1 q1
 have hs:=h l;rw [←ht l] at hs;refine xR hG GR hf hb (cx:=cxY w Φ) (gh:=some 0) (T:=T) (e:=e) (avs:= .fn (.yield l) [] []::caps) hX (λ_ _ h=>h) rfl rfl (λ_ _ _ _ _ h=>h.elim) ⟨Am _,h0⟩ (λb hb=>⟨hT b hb,λZ=>(hro b Z).2 hb⟩) (λb hb=>(hro b hb).1) hgl ?_ (U3.cons (.fn (.yield l) [] [] [] [] rfl (λi a v h=>by simp at h) rfl (λi a v h=>by simp at h)) Z) (hL l _ hX) (Wt0 hs) ?_ ?_
 intro a ha;rcases GM.1 ha with rfl|ha;exact .fn _ [] [] (λa h=>by cases h) (λa h=>by cases h)
 exact FP a ha;rintro x s w0 T' e' tmps w' ⟨_,hgh⟩ ⟨_,hΦ⟩ _ q2 _ _ _;refine ⟨.tuple #[],?_,⟨_,rfl⟩,?_⟩;simp [results,hrs];have hΦ':=hst _ T' w0 w' hΦ q2;rcases hgh with hgh|hgh;rw [hgh] at hΦ';exact .inr ⟨T',hΦ'⟩;rw [hgh] at hΦ';exact .inl ⟨T',hΦ'⟩;exact λx s h=>h.1
end
section
variable {P:Program}{cx:Cx}{w0:World}{T:Nat->Prop}{e:UL}{s:St}{a:Act}{w:World}
theorem F7.grow(r:F7 cx w0 T e s a w){w':World}(hb:Below w.heap.size w w'):F7 cx w0 T e s a w':=by
 have st:Step e e w w':=⟨λb hlt Z=>⟨Z,hb.block b hlt⟩,λ_ h=>⟨h,rfl,rfl⟩,hb.size⟩;refine ⟨⟨λb hb'=>⟨(r.env.apart b hb').1,?_⟩,λb k hk=>⟨(r.env.owned b k hk).1,?_⟩,r.env.glob.step st⟩,r.below.trans (hb.mono r.hB),r.mem.ext hb st (λ_ _ h=>h),r.live,r.foe,r.xt.step st,r.slots.step st⟩;have:=(r.env.apart b hb').2;have:=hb.size;omega;have:=(r.env.owned b k hk).2;have:=hb.size;omega
theorem F7.moreRo(r:F7 cx w0 T e s a w)(ro':Nat->Prop)(h1: ∀b,e.ro b->ro' b)(h2: ∀b,ro' b->e.own b=none/\b<w.heap.size)(h3: ∀b,ro' b-> ¬T b):F7 cx w0 T {e with ro:=ro'} s a w:=by
 have st:Step e {e with ro:=ro'} w w:=⟨λb _ Z=>⟨h1 b Z,rfl⟩,λ_ h=>⟨h,rfl,rfl⟩,Am _⟩
 exact ⟨⟨h2,r.env.owned,r.env.glob.step st⟩,r.below,r.mem.ext (Below.refl _ _) st (λ_ _ h=>h),r.live,λb hb=>⟨(r.foe b hb).1,λh=>h3 b h hb⟩,r.xt.step st,r.slots.step st⟩
theorem F7.turn(r:F7 cx w0 T e s a w){l:Nat}{o o':Obj}(hl:w.heap[l]? =some o)(ho:o.isCells=false)(ho':o'.isCells=false)(H9:e.own l=none)(hB:w0.heap.size<=l)(hdl: ∃q,o= .loop q){K':Nat->Obj->Prop}
  (hK': ∀b q,K' b q->(b≠l/\cx.K b q)\/(b=l/\q=o'/\e.ro l)):F7 {cx with K:=K'} w0 T e s a (w.putObj l o'):=by
 have hd: ∀x,o≠ .deferred x:=by rintro x rfl;obtain ⟨_,h⟩:=hdl;cases h
 have hom: ∀es c,o≠Obj.map es c:=by rintro es c rfl;obtain ⟨_,h⟩:=hdl;cases h
 have hmp:=qK (o':=o') hl hom;have hlt:=(P7.1 hl).1;have hsz:(w.putObj l o').heap.size=w.heap.size:=World.putObj_size;have hc:=BD (o':=o') hl ho ho';refine ⟨⟨λb hb=>by rw [hsz];exact r.env.apart b hb,λb k hk=>by rw [hsz];exact r.env.owned b k hk,aI r.env.glob hl ho⟩,?_,λp A=>(r.mem p A).putObj hl hom ho ho' H9,r.live,r.foe,⟨⟨λd hd'=>?_,r.xt.defers.2⟩,λb q hq=>?_,⟨r.xt.saved.1,λi x v hx hv=>(r.xt.saved.2 i x v hx hv).sameCells hsz hc hmp⟩,by rw [hsz];exact r.xt.size⟩,r.slots.sameCells hsz hc hmp⟩
 exact r.below.trans ((Below.refl w0.heap.size w).grown (grownBy_putObj' w l _) (by have:=r.hB;omega) (λk he=>by cases he;exact hB))
 obtain ⟨D,k1,k2,k3,k4,k5⟩:=r.xt.defers.1 d hd';refine ⟨D,k1,k2,by rw [hsz];exact k3,?_,k5⟩
 rw [Bu (λhe=>by subst he;rw [hl] at k4;exact hd _ (Bb k4))]
 exact k4;rcases hK' b q hq with ⟨hne,hk⟩|⟨rfl,rfl,hro⟩;obtain ⟨q1,q2,q3⟩:=r.xt.kept b q hk;exact ⟨q1,by rw [hsz];exact q2,(Bu hne).trans q3⟩
 exact ⟨hro,by rw [hsz];exact hlt,World.putObj_heap_same hlt⟩
def Wb7:List Nat->List Value->List AV->List AV
 |p::ps,v::vs,σ=>Wb7 ps vs (σ.set p (.x v))
 |_,_,σ=>σ
theorem NK: ∀(ps:List Nat) (vs:List Value) (σ:List AV) (us:List Value),U3 e w σ us->U3 e w (Wb7 ps vs σ) ((ps.zip vs).foldl (λt (p:Nat×Value)=>t.set p.1 p.2) us)
 |[],_,_,_,h=>h
 |_::_,[],_,_,h=>h
 |p::ps,v::vs,_,_,h=>NK ps vs _ _ (h.set (.x v) p)
theorem rI: ∀(l:List (Nat×Value)) (t:Array Value),(l.foldl (λt (p:Nat×Value)=>t.setIfInBounds p.1 p.2) t).toList=l.foldl (λt (p:Nat×Value)=>t.set p.1 p.2) t.toList
 |[],_=>rfl
 |p::l,t=>by simp only [List.foldl_cons];rw [rI l];simp
def nO(s:St)(ps:List Nat)(vs:List Value):St:={s with σ:=Wb7 ps vs s.σ,sv:=s.σ::s.sv}
def MQ(s:St):St:=match s.sv with
 |σ::t=>{s with σ:=σ,sv:=t}
 |[]=>s
def C8(P:Program)(G:List (Nat×Spec))(X:Ext)(L:List UG)(N:List (Pl×Nat×TypeId×Nat))(ps:List Nat)(vs:List Value)(assign body:Code)(s nxt:St)(out:G5->Option St):VM G5:=
 (D6 P G X [] assign 0 (nO s ps vs)).bind λp=>match p.1 with
  | .normal=>(D6 P G X L body 0 p.2).bind λq=>s6 N nxt out (q.1,MQ q.2)
  |_=> .fail
def G5.code:G5->Code
 | .normal=> .skip
 | .exit id=> .exit id
 | .ret=> .ret
end
section
variable {P:Program}{G:List (Nat×Spec)}{X:Ext}{L:List UG}
theorem nU{N:List (Pl×Nat×TypeId×Nat)}{ps:List Nat}{vs:List Value}{assign body:Code}{s nxt:St}{out:G5->Option St}{R:G5->Prop}(h:(C8 P G X L N ps vs assign body s nxt out).sat R):
  (D6 P G X [] assign 0 (nO s ps vs)).sat (λp=>p.1= .normal/\(D6 P G X L body 0 p.2).sat (λq=>match q.1 with
   | .normal=>R .normal/\UB (BH (FZ N (MQ q.2)) nxt)
   |y=> ∃E,out y=some E/\R y/\UB (BH (FZ N (MQ q.2)) E))):=by
 refine VM.sat_mono ?_ (VM.sat_bind h);rintro ⟨y,s1⟩ h1;cases y with
 |normal=>
  refine ⟨rfl,VM.sat_mono ?_ (VM.sat_bind h1)⟩;rintro ⟨y,s'⟩ A;cases y with
  |normal=>exact ⟨(VM.sat_needT A).2,(VM.sat_needT A).1⟩
  |exit id=>
   dsimp only [s6] at A ⊢
   split at A;rename_i E hE;exact ⟨E,hE,(VM.sat_needT A).2,(VM.sat_needT A).1⟩;exact A.elim
  |ret=>
   dsimp only [s6] at A ⊢
   split at A;rename_i E hE;exact ⟨E,hE,(VM.sat_needT A).2,(VM.sat_needT A).1⟩;exact A.elim
 |exit id=>exact h1.elim
 |ret=>exact h1.elim
theorem yQ(N:List (Pl×Nat×TypeId×Nat))(hG:VK P G)(hX: ∀cx,VW P X cx)(GR:P.follows .mixedOrders=true){f:Operand}{ps:Array Nat}{assign body:Code}
  (hL: ∀j cj,VS body j=some cj-> ∀sp,L[j]? =some sp->G6 P cj sp)
  {V:Type}(inv:V->St)(I:V->Prop)(idx:V->Nat)(out:V->G5->Option St){t:CT}{x0:V}(h0:I x0)(hi0:idx x0=0)
  (hok: ∀x,okB (inv x)=true)(qT: ∀x y E,out x y=some E->okB E=true)(hgh: ∀x,(inv x).gh=none)(Qq6: ∀x y E,out x y=some E->E.gh=none)
  {g:FuncId}{caps:List AV}{caps0:List AV}(hfv:rho (inv x0).σ f= .fn (.func g) [] caps0)(yW: ∀e w lb,UV e (inv x0).m w->U3 e w caps0 lb->U3 e w caps lb/\ ∀x∈caps,Idf x){M:Nat}{vals:Nat->List Value}(Qq1:BE P g caps M vals)(hps: ∀k,(vals k).length=ps.size)
  (round: ∀(Q:G5×St->Prop),t.sat Q-> ∀x,I x->(idx x<M-> ∃x',idx x'=idx x+1/\(C8 P G X L N ps.toList (vals (idx x)) assign body (inv x) (inv x') (out x)).sat (λy=>match y with
   | .normal=>I x'
   |y=> ∀E,out x y=some E->Q (y,E)))/\(idx x=M->Q (.normal,inv x))):HT P (.rangeFunc f ps assign body) (GJ N (HF (inv x0) t)):=by
 intro cx Zp4;refine yS (jJ (hok x0) ?_);intro n Q hQ a w r;obtain ⟨w0,T0,e,hΦ0,r⟩:=r;rw [hgh] at hΦ0;refine wpIn_rangeFunc ?_;intro fn hfn;obtain ⟨rec,yJ⟩: ∃rec:LoopState->Option Code->Loop,rec=λst pe=>{state:=st,pending:=pe,fn,tmps:=a.tmps,params:=ps,assign,body,defers:=w.heap.size}:=⟨_,rfl⟩;obtain ⟨W1,hW1⟩: ∃W1,(w.alloc (.deferred (some []))).alloc (.loop (rec .ready none))=W1:=⟨_,rfl⟩;have hfe:=FL r.slots f;rw [hfv] at hfe;obtain ⟨us,lb,hv,ru,rl⟩:=hfe.fn_inv;cases ru.nil_inv;have hL1:W1.heap[w.heap.size+1]? =some (.loop (rec .ready none)):=by
  rw [←hW1];have:=World.alloc_heap_new (w.alloc (.deferred (some []))) (.loop (rec .ready none));rwa [World.size_alloc] at this
 have hD1:W1.heap[w.heap.size]? =some (.deferred (some [])):=by
  rw [←hW1];exact (Below.heap_alloc _ _ _ VT).trans (World.alloc_heap_new w _)
 have hS1:W1.heap.size=w.heap.size+2:=by rw [←hW1];simp
 have hb1:Below w.heap.size w W1:=by
  rw [←hW1];exact ((Below.refl _ w).alloc (Am _) _).alloc VT _
 have hw0:=r.hB
 obtain ⟨a',ha'⟩: ∃a':Act,a'={tmps:=a.tmps,defers:={target:= .collected w.heap.size,args:=#[] }::a.defers}:=⟨_,rfl⟩
 let own':UL->Nat->Prop:=λe b=>(∃id,e.own b=some id)\/b=w.heap.size+1
 let Φi:Option Nat->(Nat->Prop)->World->Prop:=λk T W=>match k with
  |some k=> ∃x e,I x/\idx x=k/\T=own' e/\F7 cx w0 T0 e (inv x) a' W/\e.own (w.heap.size+1)=none/\W.heap[w.heap.size+1]? =some (.loop (rec .ready none))
  |none=> ∃y E e,y≠G5.normal/\Q (y,E)/\E.gh=none/\T=own' e/\F7 cx w0 T0 e E a' W/\e.own (w.heap.size+1)=none/\W.heap[w.heap.size+1]? =some (.loop (rec .done (some y.code)))
 have hst: ∀g T w w',Φi g T w->Below w.heap.size w w'->Φi g T w':=by
  intro k T w1 w2 h hb;cases k with
  |some k=>
   obtain ⟨x,e,h1,h2,h3,h4,h5,h6⟩:=h;exact ⟨x,e,h1,h2,h3,h4.grow hb,h5,(hb.block _ (P7.1 h6).1).trans h6⟩
  |none=>
   obtain ⟨y,E,e,h1,h2,h2',h3,h4,h5,h6⟩:=h;exact ⟨y,E,e,h1,h2,h2',h3,h4.grow hb,h5,(hb.block _ (P7.1 h6).1).trans h6⟩
 have r1:=r.grow hb1;have hns: ∀d∈a.defers,d≠{target:= .collected w.heap.size,args:=#[] }:=by
  intro d hd he;obtain ⟨D,k1,k2,k3,k4,k5⟩:=r.xt.defers.1 d hd;rw [k1] at he;simp only [Deferred.mk.injEq,Target.collected.injEq,and_true] at he;omega
 let e1:UL:={e with ro:=λb=>e.ro b\/b=w.heap.size}
 have r2:F7 cx w0 T0 e1 (inv x0) a W1:=by
  refine r1.moreRo _ (λb h=> .inl h) ?_ ?_;rintro b (h|rfl);exact r1.env.apart b h;refine ⟨?_,VJ⟩;cases ho:e.own w.heap.size with
  |none=>rfl
  |some k=>have:=(r.env.owned _ k ho).2;omega
  rintro b (h|rfl) hT;exact (r.foe b hT).2 h;have:=(r.foe _ hT).1;omega
 have r3:F7 cx w0 T0 e1 (inv x0) a' W1:=by
  rw [ha'];refine ⟨r2.env,r2.below,r2.mem,r2.live,r2.foe,⟨⟨λd hd=>?_,List.nodup_cons.2 ⟨λh=>hns _ h rfl,r2.xt.defers.2⟩⟩,r2.xt.kept,r2.xt.saved,r2.xt.size⟩,r2.slots⟩;rcases GM.1 hd with rfl|hd;exact ⟨w.heap.size,rfl,.inr rfl,VJ,hD1,Zp4 _ _ _ _ hΦ0 hw0 r.xt.size⟩;exact r2.xt.defers.1 d hd
 have Jj4:e.own (w.heap.size+1)=none:=by
  cases ho:e.own (w.heap.size+1) with
  |none=>rfl
  |some k=>have:=(r.env.owned _ k ho).2;omega
 refine ⟨w.heap.size+1,[{target:= .collected w.heap.size,args:=#[] }],W1,{target:= .fn (.func g) lb.toArray,args:=#[.func (.yield (w.heap.size+1)) #[] #[]] },W1,g,
  #[.func (.yield (w.heap.size+1)) #[] #[]]++lb.toArray,W1,?_,?_,(λ_ _=>trivial),?_,(λh=>by cases h),?_⟩
 rw [←hW1,yJ];exact run_enterLoop_outer _ _ _ _ _;simp only [resolve,hv];simp [go_sem];simp only [invoke];exact LE Qq1.1 _ W1;have OI:#[.func (.yield (w.heap.size+1)) #[] #[]]++lb.toArray=(Value.func (.yield (w.heap.size+1)) #[] #[]::lb).toArray:=Array.ext' VT;rw [OI];obtain ⟨rl,Jk4⟩:=yW e w lb r.mem rl;have stw:Step e e1 w W1:=⟨λb hlt Z=>⟨.inl Z,hb1.block b hlt⟩,λ_ h=>⟨h,rfl,rfl⟩,hb1.size⟩;have FJ:=Qq1.2 e1 lb W1 (w.heap.size+1) Φi (own' e1) ?_ (r.env.glob.step stw) ?_ Jk4 (rl.step stw) hst ?_ ⟨x0,e1,h0,hi0,rfl,r3,Jj4,hL1⟩;refine IV (FJ.mono ?_);have hw4: ∀{W:World} {s:St} {e:UL} {o:Loop} {o':Loop},F7 cx w0 T0 e s a' W->e.own (w.heap.size+1)=none->W.heap[w.heap.size+1]? =some (.loop o)->s.gh=none->Rel cx s a' (W.putObj (w.heap.size+1) (.loop o')):=by
  intro W s e o o' Z ho hl hg;have hne: ∀b q,cx.K b q->b≠w.heap.size+1:=by
   rintro b q hk rfl;have h1:=r.xt.kept _ q hk;omega
  have:=Z.turn (K':=cx.K) hl rfl (o':= .loop o') rfl ho VJ ⟨_,rfl⟩ (λb q hk=> .inl ⟨hne b q hk,hk⟩);exact ⟨w0,T0,e,by rw [hg];exact hΦ0,this⟩
 rintro en W ⟨⟨v,rfl⟩,h⟩;rcases h with ⟨T',x,e',q1,q2,q3,q4,q5,q6⟩|⟨T',y,E,e',q1,q2,q2',q3,q4,q5,q6⟩;refine ⟨none,_,by have:=run_endLoop (P:=P) q6 (by rw [yJ];simp);rw [yJ] at this;exact this,?_⟩
 have:=hw4 (o':={rec .ready none with state:= .exhausted}) q4 q5 q6 (hgh x)
 rw [ha',yJ] at this;exact ⟨.normal,inv x,rfl,(round Q hQ x q1).2 q2,this⟩
 ·have PL:(Instr.endLoop (w.heap.size+1)).run P W= .ok (some y.code) (W.putObj (w.heap.size+1) (.loop {rec .done (some y.code) with state:= .exhausted})):=by
   have:=run_endLoop (P:=P) q6 (by rw [yJ];simp)
   rw [yJ] at this ⊢;exact this
  refine ⟨some y.code,_,PL,?_⟩;have:=hw4 (o':={rec .done (some y.code) with state:= .exhausted}) q4 q5 q6 q2'
  rw [ha'] at this;cases y with
  |normal=>exact (q1 rfl).elim
  |exit id=>exact wpIn_exit ⟨.exit id,E,rfl,q2,this⟩
  |ret=>exact wpIn_ret ⟨.ret,E,rfl,q2,this⟩
 rintro b (h|rfl);refine ⟨by have:=(r.env.apart b h).2;omega,?_⟩
 rintro (⟨id,h2⟩|rfl);have h2':e.own b=some id:=h2;rw [(r.env.apart b h).1] at h2';cases h2';have:=(r.env.apart _ h).2;omega;refine ⟨VJ,?_⟩;rintro (⟨id,h2⟩|h2);have:=(r.env.owned _ id h2).2;omega;omega;rintro b (⟨id,h⟩|rfl);have:=(r.env.owned b id h).2;omega;omega
 ·-- a round
  rintro k T W m ⟨x,ek,hIx,rfl,rfl,rk,hkl,hkr⟩ hkM;obtain ⟨x',hx',zP⟩:=(round Q hQ x hIx).1 hkM;have hWl:=(P7.1 hkr).1;have hy:=run_yield (P:=P) (args:=(vals (idx x)).toArray) hkr (by rw [yJ];simp [hps])
  rw [yJ] at hy;refine ⟨fn,_,assign,body,hy,roundIn_of_wpIn hfn ?_⟩;clear hy
  let nown:Nat->Prop:=λb=>w0.heap.size<=b/\b<W.heap.size/\ek.own b=none
  let K0:Nat->Obj->Prop:=λb o=>(cx.K b o\/(nown b/\W.heap[b]? =some o)\/(∃d∈a'.defers,d={target:= .collected b,args:=#[] }/\o= .deferred (some [])))/\b≠w.heap.size+1
  let cxk:(Nat->Obj->Prop)->Cx:=λK=>{M:=λ_=>False,Φ:=λg T w=>g=none/\w=w0/\T=T0,K:=K,saved:=a.tmps.toList::cx.saved,sz:=W.heap.size}
  let e2:UL:={ek with ro:=λb=>ek.ro b\/nown b}
  have rk2:F7 cx w0 T0 e2 (inv x) a' W:=by
   refine rk.moreRo _ (λb h=> .inl h) ?_ ?_;rintro b (h|⟨h1,h2,h3⟩);exact rk.env.apart b h;exact ⟨h3,h2⟩;rintro b (h|⟨h1,h2,h3⟩) hT;exact (rk.foe b hT).2 h;have:=(rk.foe b hT).1;omega
  have hKok: ∀b o,K0 b o->e2.ro b/\b<W.heap.size/\W.heap[b]? =some o:=by
   rintro b o ⟨h|⟨h1,h2⟩|⟨d,hd,h1,rfl⟩,_⟩;exact rk2.xt.kept b o h;exact ⟨.inr h1,h1.2.1,h2⟩;obtain ⟨D,k1,k2,k3,k4,k5⟩:=rk2.xt.defers.1 d hd;rw [h1] at k1;simp only [Deferred.mk.injEq,Target.collected.injEq,and_true] at k1;subst k1;exact ⟨k2,k3,k4⟩
  have hlro:e2.ro (w.heap.size+1):= .inr ⟨VJ,hWl,hkl⟩;have rs:Rel (cxk (λb o=>K0 b o\/(b=w.heap.size+1/\o= .loop (rec .ready none)))) (nO (inv x) ps.toList (vals (idx x))) {tmps:=(ps.zip (vals (idx x)).toArray).foldl (λt (p,v)=>t.setIfInBounds p v) a.tmps,defers:=[] } W:=by
   refine ⟨w0,T0,e2,⟨hgh x,rfl,rfl⟩,rk2.env,rk2.below,rk2.mem,rk2.live,rk2.foe,⟨⟨(λd hd=>by cases hd),By⟩,?_,L9.cons (by rw [ha'] at rk2;exact rk2.slots) rk2.xt.saved,Am _⟩,?_⟩
   rintro b o (h|⟨rfl,rfl⟩);exact hKok b o h;exact ⟨hlro,hWl,hkr⟩;have h1:=NK (e:=e2) (w:=W) ps.toList (vals (idx x)) (inv x).σ a.tmps.toList (by rw [ha'] at rk2;exact rk2.slots)
   have h2:((ps.zip (vals (idx x)).toArray).foldl (λt (p,v)=>t.setIfInBounds p v) a.tmps).toList=(ps.toList.zip (vals (idx x))).foldl (λt (p:Nat×Value)=>t.set p.1 p.2) a.tmps.toList:=by
    rw [←rI,←Array.foldl_toList];simp
   rw [h2];exact h1
  have FK:=nU zP;refine wpIn_mono (D8 hG (hX _) GR (ro:=some (w.heap.size+1)) assign 0 _ _ _ W G8 FK rs) ?_;rintro ex a1 W1' ⟨y1,s1,rfl,⟨hy1,Jk5⟩,w0',T',ea,⟨hg1,rfl,rfl⟩,ra⟩;cases hy1;obtain ⟨hlr,hll,hlh⟩:=ra.xt.kept (w.heap.size+1) (.loop (rec .ready none)) (.inr ⟨rfl,rfl⟩);refine ⟨_,run_beginRound hlh (by rw [yJ]),?_⟩
  have rb:=ra.turn (K':=λb o=>K0 b o\/(b=w.heap.size+1/\o= .loop {rec .ready none with state:= .busy})) hlh rfl (o':= .loop {rec .ready none with state:= .busy}) rfl (ra.env.apart _ hlr).1 VJ ⟨_,rfl⟩ (by
   rintro b q (h|⟨rfl,rfl⟩);exact .inl ⟨h.2,.inl h⟩;exact .inr ⟨rfl,rfl,hlr⟩)
  refine wpIn_mono (D8 hG (hX _) GR (ro:=some (w.heap.size+1)) (cx:=cxk (λb o=>K0 b o\/(b=w.heap.size+1/\o= .loop {rec .ready none with state:= .busy}))) body 0 s1 _ a1 _ (λj cj hj sp hsp=>hL j cj hj sp (by simpa using hsp) _ _) Jk5 ⟨w0',T',ea,⟨hg1,rfl,rfl⟩,rb⟩) ?_
  rintro ex a3 W3 ⟨y,s3,rfl,hq,w0'',T'',eb,⟨hg3,hw0e,hT0e⟩,rc⟩;subst hw0e hT0e;obtain ⟨Jk1,hll3,Jk2⟩:=rc.xt.kept (w.heap.size+1) _ (.inr ⟨rfl,rfl⟩)
  have back: ∀(jump:Option Code) (E:St),UB (BH (FZ N (MQ s3)) E)->okB E=true->
    (Instr.endRound (w.heap.size+1) jump).run P W3= .ok (.bool jump.isNone) (W3.putObj (w.heap.size+1) (.loop (rec (if jump.isNone then .ready else .done) jump)))/\
    ∃ec,F7 cx w0'' T'' ec E a' (W3.putObj (w.heap.size+1) (.loop (rec (if jump.isNone then .ready else .done) jump)))/\ec.own (w.heap.size+1)=none/\
     (W3.putObj (w.heap.size+1) (.loop (rec (if jump.isNone then .ready else .done) jump))).heap[w.heap.size+1]? =some (.loop (rec (if jump.isNone then .ready else .done) jump))/\
     W.heap.size<=(W3.putObj (w.heap.size+1) (.loop (rec (if jump.isNone then .ready else .done) jump))).heap.size/\
     (∀b,b<W.heap.size-> ¬own' ek b->(W3.putObj (w.heap.size+1) (.loop (rec (if jump.isNone then .ready else .done) jump))).heap[b]? =W.heap[b]?)/\
     ∀b,own' ec b->b<(W3.putObj (w.heap.size+1) (.loop (rec (if jump.isNone then .ready else .done) jump))).heap.size/\(own' ek b\/W.heap.size<=b):=by
   intro jump E pL hokE;have DP:=run_endRound (P:=P) jump Jk2;refine ⟨by rw [yJ] at DP ⊢;exact DP,?_⟩
   obtain ⟨W4,hW4⟩: ∃W4,W4=W3.putObj (w.heap.size+1) (.loop (rec (if jump.isNone then .ready else .done) jump)):=⟨_,rfl⟩
   rw [←hW4];have rd:=rc.turn (K':=K0) Jk2 rfl (o':= .loop (rec (if jump.isNone then .ready else .done) jump)) rfl (rc.env.apart _ Jk1).1 VJ ⟨_,rfl⟩ (λb q h=> .inl ⟨h.2,.inl h⟩)
   rw [←hW4] at rd;have hl4:W4.heap[w.heap.size+1]? =some (.loop (rec (if jump.isNone then .ready else .done) jump)):=by rw [hW4];exact World.putObj_heap_same hll3
   have Ji7:W.heap.size<=W4.heap.size:=rd.xt.size
   let cxp:Cx:={M:=λD=>cx.M D,Φ:=λg T w=>g=none/\w=w0''/\T=T'',K:=λb o=>K0 b o\/(b=w.heap.size+1/\o= .loop (rec (if jump.isNone then .ready else .done) jump)),saved:=cx.saved,sz:=cx.sz}
   have hpop:Rel cxp (MQ s3) a' W4:=by
    obtain ⟨σ0,l',hsv,hs1,hs2⟩:=rd.xt.saved.cons_inv;refine ⟨w0'',T'',eb,?_,rd.env,rd.below,?_,?_,rd.foe,⟨⟨λd hd=>?_,?_⟩,?_,?_,Ar rk.xt.size Ji7⟩,?_⟩;exact ⟨by unfold MQ;rw [hsv];exact hg3,rfl,rfl⟩
    unfold MQ;rw [hsv];exact rd.mem;unfold MQ;rw [hsv];exact rd.live;obtain ⟨D,k1,k2,k3,k4,k5⟩:=rk.xt.defers.1 d hd;have hDl:D≠w.heap.size+1:=by
     rintro rfl;rw [hkr] at k4;cases k4
    obtain ⟨q1,q2,q3⟩:=rd.xt.kept D (.deferred (some [])) ⟨.inr (.inr ⟨d,hd,k1,rfl⟩),hDl⟩;exact ⟨D,k1,q1,q2,q3,k5⟩;exact rk.xt.defers.2;rintro b o (h|⟨rfl,rfl⟩);exact rd.xt.kept b o h;exact ⟨Jk1,(P7.1 hl4).1,hl4⟩;unfold MQ;rw [hsv];exact hs2;unfold MQ;rw [hsv];rw [ha'];exact hs1
   obtain ⟨w0p,Tp,ec,⟨_,rfl,rfl⟩,re⟩:=FW (GE pL) hokE (DF (l:=N) hpop);have hlec:=re.xt.kept _ _ (Or.inr ⟨rfl,rfl⟩);refine ⟨ec,⟨re.env,re.below,re.mem,re.live,re.foe,⟨re.xt.defers,λb o h=>?_,re.xt.saved,re.xt.size⟩,re.slots⟩,(re.env.apart _ hlec.1).1,hl4,Ji7,?_,?_⟩;refine re.xt.kept b o (.inl ⟨.inl h,?_⟩);rintro rfl;have h1:=r.xt.kept _ o h;omega;intro b hb hno;rcases An b w0p.heap.size with h1|h1;rw [re.below.block b h1,rk.below.block b h1];have hbn:ek.own b=none:=by
    cases ho:ek.own b with
    |none=>rfl
    |some id=>exact (hno (.inl ⟨id,ho⟩)).elim
   have hbl:b≠w.heap.size+1:=λh=>hno (.inr h);have hlt:b<W.heap.size:=hb;obtain ⟨_,_,q3⟩:=re.xt.kept b W.heap[b] (.inl ⟨.inr (.inl ⟨⟨h1,hlt,hbn⟩,by simp [hlt]⟩),hbl⟩)
   rw [q3];simp [hlt];rintro b (⟨id,h⟩|rfl);obtain ⟨q1,q2⟩:=re.env.owned b id h;refine ⟨q2,?_⟩;rcases An b W.heap.size with h1|h1;refine .inl ?_;cases ho:ek.own b with
   |some id'=>exact .inl ⟨id',ho⟩
   |none=>
    rcases Classical.em (b=w.heap.size+1) with h2|h2;exact .inr h2;exfalso;obtain ⟨q3,_,_⟩:=re.xt.kept b W.heap[b] (.inl ⟨.inr (.inl ⟨⟨q1,h1,ho⟩,by simp [h1]⟩),h2⟩)
    rw [(re.env.apart b q3).1] at h;cases h
   exact .inr h1;exact ⟨(P7.1 hl4).1,.inl (.inr rfl)⟩
  cases y with
  |normal=>
   obtain ⟨hI',pL⟩:=hq;obtain ⟨DP,ec,q1,q2,q3,q4,q5,q6⟩:=back none (inv x') pL (hok x');exact ⟨_,_,DP,q4,q5,own' ec,q6,.inl ⟨rfl,x',ec,hI',hx',rfl,q1,q2,q3⟩⟩
  |exit id=>
   obtain ⟨E,hE,hQE,pL⟩:=hq;obtain ⟨DP,ec,q1,q2,q3,q4,q5,q6⟩:=back (some (.exit id)) E pL (qT x _ E hE);exact ⟨_,_,DP,q4,q5,own' ec,q6,.inr ⟨rfl,.exit id,E,ec,(λh=>by cases h),hQE E hE,Qq6 x _ E hE,rfl,q1,q2,q3⟩⟩
  |ret=>
   obtain ⟨E,hE,hQE,pL⟩:=hq;obtain ⟨DP,ec,q1,q2,q3,q4,q5,q6⟩:=back (some .ret) E pL (qT x _ E hE);exact ⟨_,_,DP,q4,q5,own' ec,q6,.inr ⟨rfl,.ret,E,ec,(λh=>by cases h),hQE E hE,Qq6 x _ E hE,rfl,q1,q2,q3⟩⟩
theorem PA(N:List (Pl×Nat×TypeId×Nat))(hG:VK P G)(hX: ∀cx,VW P X cx)(GR:P.follows .mixedOrders=true){f:Operand}{ps:Array Nat}{assign body:Code}
  (hL: ∀j cj,VS body j=some cj-> ∀sp,L[j]? =some sp->G6 P cj sp)
  {V:Type}(inv:V->St)(I:V->Prop)(idx:V->Nat)(out:V->G5->Option St){t:CT}{x0:V}(h0:I x0)(hi0:idx x0=0)
  (hok: ∀x,okB (inv x)=true)(qT: ∀x y E,out x y=some E->okB E=true)(hgh: ∀x,(inv x).gh=none)(Qq6: ∀x y E,out x y=some E->E.gh=none)
  {g:FuncId}{caps:List AV}(hfv:rho (inv x0).σ f= .fn (.func g) [] caps)(yW:caps.all (A3 6)=true){M:Nat}{vals:Nat->List Value}(Qq1:BE P g caps M vals)(hps: ∀k,(vals k).length=ps.size)
  (round: ∀(Q:G5×St->Prop),t.sat Q-> ∀x,I x->(idx x<M-> ∃x',idx x'=idx x+1/\(C8 P G X L N ps.toList (vals (idx x)) assign body (inv x) (inv x') (out x)).sat (λy=>match y with
   | .normal=>I x'
   |y=> ∀E,out x y=some E->Q (y,E)))/\(idx x=M->Q (.normal,inv x))):HT P (.rangeFunc f ps assign body) (GJ N (HF (inv x0) t)):=by
 refine yQ N hG hX GR hL inv I idx out h0 hi0 hok qT hgh Qq6 (caps:=caps) hfv ?_ Qq1 hps round;intro e w lb _ rl;refine ⟨rl,λx hx=>?_⟩;obtain ⟨i,O⟩:=wR.1 hx;obtain ⟨v,_,rv⟩:=rl.get O;exact kB 6 x v rv (B1.1 yW x hx)
def A0(m:H2):Nat->AV->AV
 | 0,a=>match a with
  | .lit b=> .lit b
  | .x v=> .x v
  | .ro l=> .ro l
  | .lst a b c=> .lst a b c
  | .roI a b c d=> .roI a b c d
  |_=> .top
 |d+1,a=>match a with
  | .ptr id off=>match DG m id with
   |some (.keep _ l)=> .ro ((l.drop off).map (A0 m d))
   |_=> .top
  | .agg l=> .agg (l.map (A0 m d))
  | .tup l=> .tup (l.map (A0 m d))
  | .fn f l l'=> .fn f (l.map (A0 m d)) (l'.map (A0 m d))
  | .row _=> .top
  | .elt _ _ _ _=> .top
  | .mp _=> .top
  |a=>a
theorem EW{e:UL}{w:World}{m:H2}(hm:UV e m w): ∀(d:Nat) (a:AV) (v:Value),Rep e w a v->Idf (A0 m d a)
 | 0,a,v,h=>by
  cases h with
  |lit b=>exact .lit b
  |x v=>exact .x v
  |ro l vs b o h1 h2 h3 h4 h5 h6=>exact .ro l h3
  |lstNil sz f=>exact .lst sz 0 f (λi O=>VJ)
  |lst sz n f b o cap g h1 h2 h3 h4 h5 h6 h7 h8 ad had=>exact .lst sz n f h3
  |roI pre n f off b o Z=>cases Z with|ro _ vs _ _ h1 h2 h3 h4 h5 h6=>exact .roI pre n f off (.ro _ h3)
  |_=>exact .top
 |d+1,a,v,h=>by
  have ih:=EW hm d;cases h with
  |top v=>exact .top
  |lit b=>exact .lit b
  |x v=>exact .x v
  |agg l vs h1 h2=>exact .agg _ (DU ih (⟨h1,h2⟩:U3 e w l vs))
  |tup l vs h1 h2=>exact .tup _ (DU ih (⟨h1,h2⟩:U3 e w l vs))
  |fn f l l' vs vs' h1 h2 h3 h4=>exact .fn f _ _ (DU ih (⟨h1,h2⟩:U3 e w l vs)) (DU ih (⟨h3,h4⟩:U3 e w l' vs'))
  |ptr id off hl=>
   simp only [A0];split;rename_i T l hg;obtain ⟨_,_,_,vs,h3,h4⟩:=hm _ (UW hg);exact .ro _ (DU ih (h4.drop off));exact .top
  |row id a n c hl hv=>exact .top
  |elt id sz i j b n cap hl hv=>exact .top
  |mp id hl=>exact .top
  |mpr g okf vals b es c h1 h2 h3 h4 h5 h6 h7 h8=>exact .mpr g okf h3
  |any1 v hv=>exact .any1
  |roI pre n f off b o Z=>cases Z with|ro _ vs _ _ h1 h2 h3 h4 h5 h6=>exact .roI pre n f off (.ro _ h3)
  |ro l vs b o h1 h2 h3 h4 h5 h6=>exact .ro l h3
  |lstNil sz f=>exact .lst sz 0 f (λi O=>VJ)
  |lst sz n f b o cap g h1 h2 h3 h4 h5 h6 h7 h8 ad had=>exact .lst sz n f h3
theorem iD{e:UL}{w:World}{m:H2}(hm:UV e m w): ∀(d:Nat) (a:AV) (v:Value),Rep e w a v->Rep e w (A0 m d a) v
 | 0,a,v,h=>by
  cases a<;>first|exact h|exact .top v
 |d+1,a,v,h=>by
  have ih:=iD hm d;have ihf:=EW hm d;cases h with
  |agg l vs h1 h2=>exact Rep.aggL (U3.map _ ih ⟨h1,h2⟩)
  |tup l vs h1 h2=>exact Rep.tupL (U3.map _ ih ⟨h1,h2⟩)
  |fn f l l' vs vs' h1 h2 h3 h4=>
   have k1:U3 e w l vs:=⟨h1,h2⟩;have k2:U3 e w l' vs':=⟨h3,h4⟩;exact .fn f _ _ vs vs' (U3.map _ ih k1).1 (U3.map _ ih k1).2 (U3.map _ ih k2).1 (U3.map _ ih k2).2
  |ptr id off hl=>
   simp only [A0];split;rename_i T l hg;obtain ⟨_,hro,hlt,vs,h3,h4⟩:=hm _ (UW hg);have k:=U3.map (A0 m d) ih (h4.drop off);refine .ro _ (vs.drop off) (e.blk id) off hro hlt (DU ihf (h4.drop off)) k.1 ?_ k.2;intro j v hj;rw [List.getElem?_drop] at hj;simp [World.cell?,h3,hj];exact .top _
  |row id a n c hl hv=>exact .top _
  |elt id sz i j b n cap hl hv=>exact .top _
  |mp id hl=>exact .top _
  |mpr g okf vals b es c h1 h2 h3 h4 h5 h6 h7 h8=>exact .mpr g okf vals b es c h1 h2 h3 h4 h5 h6 h7 h8
  |any1 v hv=>exact .any1 v hv
  |top v=>exact .top v
  |lit b=>exact .lit b
  |x v=>exact .x v
  |roI pre n f off b o Z=>exact .roI pre n f off b o Z
  |ro l vs b o h1 h2 h3 h4 h5 h6=>exact .ro l vs b o h1 h2 h3 h4 h5 h6
  |lstNil sz f=>exact .lstNil sz f
  |lst sz n f b o cap g h1 h2 h3 h4 h5 h6 h7 h8 ad had=>exact .lst sz n f b o cap g h1 h2 h3 h4 h5 h6 h7 h8 ad had
theorem yP(N:List (Pl×Nat×TypeId×Nat))(hG:VK P G)(hX: ∀cx,VW P X cx)(GR:P.follows .mixedOrders=true){f:Operand}{ps:Array Nat}{assign body:Code}
  (hL: ∀j cj,VS body j=some cj-> ∀sp,L[j]? =some sp->G6 P cj sp)
  {V:Type}(inv:V->St)(I:V->Prop)(idx:V->Nat)(out:V->G5->Option St){t:CT}{x0:V}(h0:I x0)(hi0:idx x0=0)
  (hok: ∀x,okB (inv x)=true)(qT: ∀x y E,out x y=some E->okB E=true)(hgh: ∀x,(inv x).gh=none)(Qq6: ∀x y E,out x y=some E->E.gh=none)
  {g:FuncId}{caps:List AV}{caps0:List AV}(hfv:rho (inv x0).σ f= .fn (.func g) [] caps0)(yW:caps0.map (A0 (inv x0).m 6)=caps){M:Nat}{vals:Nat->List Value}(Qq1:BE P g caps M vals)(hps: ∀k,(vals k).length=ps.size)
  (round: ∀(Q:G5×St->Prop),t.sat Q-> ∀x,I x->(idx x<M-> ∃x',idx x'=idx x+1/\(C8 P G X L N ps.toList (vals (idx x)) assign body (inv x) (inv x') (out x)).sat (λy=>match y with
   | .normal=>I x'
   |y=> ∀E,out x y=some E->Q (y,E)))/\(idx x=M->Q (.normal,inv x))):HT P (.rangeFunc f ps assign body) (GJ N (HF (inv x0) t)):=by
 subst yW;refine yQ N hG hX GR hL inv I idx out h0 hi0 hok qT hgh Qq6 (caps:=caps0.map (A0 (inv x0).m 6)) hfv ?_ Qq1 hps round;intro e w lb hm rl;exact ⟨U3.map _ (iD hm 6) rl,DU (EW hm 6) rl⟩
end
def PI(P:Program)(f:FuncId)(s:Spec):Prop:=Enters P f/\ ∀avs ns res,s avs=some (ns,res)->(∀p∈ns,p)->FQ P f avs res
def VQ(P:Program)(R:List (Nat×Spec)):Prop:= ∀p∈R,PI P p.1 p.2
def VN(P:Program)(H:List (Nat×D2)):Prop:= ∀p∈H,GB P p.1 p.2
theorem VQ.nil(P:Program):VQ P []:=λ_ h=>by cases h
theorem VQ.cons{P:Program}{f:Nat}{s:Spec}{R:List (Nat×Spec)}(h:PI P f s)(k:VQ P R):VQ P ((f,s)::R):=by
 intro p A;rcases GM.1 A with rfl|A;exact h;exact k p A
theorem VN.nil(P:Program):VN P []:=λ_ h=>by cases h
theorem VN.cons{P:Program}{f:Nat}{s:D2}{R:List (Nat×D2)}(h:GB P f s)(k:VN P R):VN P ((f,s)::R):=by
 intro p A;rcases GM.1 A with rfl|A;exact h;exact k p A
theorem VW.of{P:Program}{R:List (Nat×Spec)}{H:List (Nat×D2)}(hR:VQ P R)(hH:VN P H)(cx:Cx):VW P {R:=R,H:=H} cx:=⟨(λ_ _ _ h=>by cases h),hR,hH,(λ_ h=>by cases h),(λ_ h=>by cases h),(λ_ h=>by cases h)⟩
def U8(P:Program)(C:List (Nat×DD)):Prop:= ∀p∈C,Enters P p.1/\ ∀avs t,p.2 avs=some t->UN P p.1 avs t
theorem U8.nil(P:Program):U8 P []:=λ_ h=>by cases h
theorem U8.cons{P:Program}{f:Nat}{s:DD}{C:List (Nat×DD)}(h:Enters P f/\ ∀avs t,s avs=some t->UN P f avs t)(k:U8 P C):U8 P ((f,s)::C):=by
 intro p A;rcases GM.1 A with rfl|A;exact h;exact k p A
theorem VW.ofC{P:Program}{R:List (Nat×Spec)}{H:List (Nat×D2)}{C:List (Nat×DD)}(hR:VQ P R)(hH:VN P H)(hC:U8 P C)(cx:Cx):VW P {R:=R,H:=H,C:=C} cx:=⟨(λ_ _ _ h=>by cases h),hR,hH,hC,(λ_ h=>by cases h),(λ_ h=>by cases h)⟩
def RX(P:Program)(F:List (Nat×BM)):Prop:= ∀p∈F,Enters P p.1/\ ∀avs ns T sz n g,p.2 avs=some (ns,T,sz,n,g)->(∀q∈ns,q)->DO P p.1 avs T sz n g
theorem RX.nil(P:Program):RX P []:=λ_ h=>by cases h
theorem RX.cons{P:Program}{f:Nat}{s:BM}{F:List (Nat×BM)}(h:Enters P f/\ ∀avs ns T sz n g,s avs=some (ns,T,sz,n,g)->(∀q∈ns,q)->DO P f avs T sz n g)(k:RX P F):RX P ((f,s)::F):=by
 intro p A;rcases GM.1 A with rfl|A;exact h;exact k p A
def B5(P:Program)(D:List (Nat×DD)):Prop:= ∀p∈D,Enters P p.1/\ ∀avs t,p.2 avs=some t->PJ P p.1 avs t
theorem B5.nil(P:Program):B5 P []:=λ_ h=>by cases h
theorem B5.cons{P:Program}{f:Nat}{s:DD}{D:List (Nat×DD)}(h:Enters P f/\ ∀avs t,s avs=some t->PJ P f avs t)(k:B5 P D):B5 P ((f,s)::D):=by
 intro p A;rcases GM.1 A with rfl|A;exact h;exact k p A
theorem VW.ofF{P:Program}{R:List (Nat×Spec)}{H:List (Nat×D2)}{C:List (Nat×DD)}{F:List (Nat×BM)}{D:List (Nat×DD)}(hR:VQ P R)(hH:VN P H)(hC:U8 P C)(hF:RX P F)(hD:B5 P D)(cx:Cx):VW P {R:=R,H:=H,C:=C,F:=F,D:=D} cx:=⟨(λ_ _ _ h=>by cases h),hR,hH,hC,hF,hD⟩
open Go Go.RowKit Go.ChangeShapes Go.WideShapes
inductive SK where
 |int (k:IntKind)
 |bool
 |str
def pB:SK->Value->Prop
 | .int k,v=> ∃n,v= .int k n/\(Lit.int k n).wf=true
 | .bool,v=> ∃b,v= .bool b
 | .str,v=> ∃s,v= .string s
def LN(ks:List SK)(vs:List Value):Prop:=ks.length=vs.length/\ ∀(j:Nat) (k:SK) (v:Value),ks[j]? =some k->vs[j]? =some v->pB k v
def IL(P:Program)(g:TypeId->Option (List SK)):List Field->Nat->Option (List SK)
 |[],_=>some []
 |f::fs,off=>match g f.type with
  |some ks=>match Nat.beq f.offset off&&Nat.beq ks.length (P.cellsOf f.type) with
   |true=>match IL P g fs (off+ks.length) with
    |some r=>some (ks++r)
    |none=>none
   |false=>none
  |none=>none
def R0(P:Program):Nat->TypeId->Option (List SK)
 | 0,_=>none
 |d+1,t=>match P.underlying t with
  |some (.int k)=>some [.int k]
  |some .bool=>some [.bool]
  |some .string=>some [.str]
  |some (.struct fs)=>match IL P (R0 P d) fs.toList 0 with
   |some ks=>match Nat.beq ks.length (P.cellsOf t) with
    |true=>some ks
    |false=>none
   |none=>none
  |_=>none
inductive MK where
 |sc (k:SK)
 |sl (t e:TypeId) (ks:List SK)
def IK(P:Program)(g:TypeId->Option (List MK)):List Field->Nat->Option (List MK)
 |[],_=>some []
 |f::fs,off=>match g f.type with
  |some ks=>match Nat.beq f.offset off&&Nat.beq ks.length (P.cellsOf f.type) with
   |true=>match IK P g fs (off+ks.length) with
    |some r=>some (ks++r)
    |none=>none
   |false=>none
  |none=>none
def kH(P:Program):Nat->TypeId->Option (List MK)
 | 0,_=>none
 |d+1,t=>match P.underlying t with
  |some (.int k)=>some [.sc (.int k)]
  |some .bool=>some [.sc .bool]
  |some .string=>some [.sc .str]
  |some (.slice e)=>match R0 P 9 e with
   |some ks=>match Nat.beq ks.length (P.cellsOf e) with
    |true=>some [.sl t e ks]
    |false=>none
   |none=>none
  |some (.struct fs)=>match IK P (kH P d) fs.toList 0 with
   |some ks=>match Nat.beq ks.length (P.cellsOf t) with
    |true=>some ks
    |false=>none
   |none=>none
  |_=>none
def dB:List TypeId->List MK->Bool
 |[],[]=>true
 |u::ts,.sl t _ _::ms=>Nat.beq u t&&dB ts ms
 |_::ts,.sc _::ms=>dB ts ms
 |_,_=>false
def Ja9(P:Program)(t:TypeId)(ms:List MK):Bool:=match P.cellTypes P.depth t with
 |some ts=>dB ts ms&&Nat.beq ms.length (P.cellsOf t)
 |none=>false
theorem AU: ∀{ts:List TypeId} {ms:List MK},dB ts ms=true->ts.length=ms.length
 |[],[],_=>rfl
 |[],_::_,h=>by simp [dB] at h
 |u::ts,[],h=>by simp [dB] at h
 |u::ts,.sl t _ _::ms,h=>by
  simp only [dB,GU] at h;rw [Bj,Bj,AU h.2]
 |u::ts,.sc _::ms,h=>by
  simp only [dB] at h;rw [Bj,Bj,AU h]
theorem AW: ∀{ts:List TypeId} {ms:List MK} {j:Nat} {t e:TypeId} {ks:List SK},dB ts ms=true->ms[j]? =some (.sl t e ks)->ts[j]? =some t
 |[],[],j,t,e,ks,_,hj=>by simp at hj
 |[],_::_,_,_,_,_,h,_=>by simp [dB] at h
 |u::ts,[],_,_,_,_,h,_=>by simp [dB] at h
 |u::ts,.sl t' _ _::ms,j,t,e,ks,h,hj=>by
  simp only [dB,GU] at h;cases j with
  |zero=>
   simp at hj;obtain ⟨rfl,_,_⟩:=hj;have:=GZ h.1;simp [this]
  |succ j=>simpa using AW h.2 (by simpa using hj)
 |u::ts,.sc _::ms,j,t,e,ks,h,hj=>by
  simp only [dB] at h;cases j with
  |zero=>simp at hj
  |succ j=>simpa using AW h (by simpa using hj)
def NB(r:MK->Value->Prop)(ks:List MK)(vs:List Value):Prop:=ks.length=vs.length/\ ∀(j:Nat) (k:MK) (v:Value),ks[j]? =some k->vs[j]? =some v->r k v
theorem NB.append{r:MK->Value->Prop}{ks ks':List MK}{vs vs':List Value}(h:NB r ks vs)(h':NB r ks' vs'):NB r (ks++ks') (vs++vs'):=by
 refine ⟨by simp [h.1,h'.1],λj k v hk hv=>?_⟩
 rw [Ce] at hk hv;rw [←h.1] at hv;split at hk;rename_i O;rw [if_pos O] at hv;exact h.2 _ _ _ hk hv;rename_i O;rw [if_neg O] at hv;exact h'.2 _ _ _ hk hv
theorem NB.one{r:MK->Value->Prop}{k:MK}{v:Value}(h:r k v):NB r [k] [v]:=by
 refine ⟨rfl,λj k' v' hk hv=>?_⟩;cases j with
 |zero=>simp at hk hv;subst hk;subst hv;exact h
 |succ j=>simp at hk
section
variable {H:Type}{enc:TypeId×Value->H}{P:Program}{w:World}{base:Nat}{spare:Nat->Bool}{qU:Bool}
theorem LN.append{ks ks':List SK}{vs vs':List Value}(h:LN ks vs)(h':LN ks' vs'):LN (ks++ks') (vs++vs'):=by
 refine ⟨by simp [h.1,h'.1],λj k v hk hv=>?_⟩
 rw [Ce] at hk hv;rw [←h.1] at hv;split at hk;rename_i O;rw [if_pos O] at hv;exact h.2 _ _ _ hk hv;rename_i O;rw [if_neg O] at hv;exact h'.2 _ _ _ hk hv
theorem OR{g:TypeId->Option (List SK)}{cs:List Value}(hg: ∀t ks (off:Nat),g t=some ks->(∃n x,DataW.trod enc P w base spare qU n t ((cs.drop off).take (P.cellsOf t))=some x)->LN ks ((cs.drop off).take (P.cellsOf t))):
  ∀(fs:List Field) (off:Nat) (ks:List SK),IL P g fs off=some ks->off<=cs.length->(∀f∈fs,∃n x,DataW.trod enc P w base spare qU n f.type ((cs.drop f.offset).take (P.cellsOf f.type))=some x)->LN ks ((cs.drop off).take ks.length)
 |[],_,ks,h,_,_=>by
  simp only [IL,HE] at h;subst h;exact ⟨VT,λj k v h=>by simp at h⟩
 |f::fs,off,ks,h,ho,hf=>by
  unfold IL at h;split at h;rename_i ks1 h1;split at h;rename_i hb;simp only [GU] at hb;have e1:f.offset=off:=GZ hb.1;have e2:ks1.length=P.cellsOf f.type:=GZ hb.2;split at h;rename_i r Z;cases h;have h2:=hf f GD;rw [e1] at h2;have a1:=hg f.type ks1 off h1 h2;have hl:off+ks1.length<=cs.length:=by
   have:=a1.1;rw [List.length_take,List.length_drop,←e2] at this;omega
  have a2:=OR hg fs (off+ks1.length) r Z hl (λf' hf'=>hf f' (HL _ hf'));have:=a1.append a2;rw [←e2] at this;rw [Be,List.take_add,List.drop_drop];exact this;cases h;cases h;cases h
theorem oQ{k:SK}{v:Value}(h:pB k v):LN [k] [v]:=by
 refine ⟨rfl,λj k' v' hk hv=>?_⟩;cases j with
 |zero=>simp at hk hv;subst hk;subst hv;exact h
 |succ j=>simp at hk
theorem wV: ∀(d:Nat) (t:TypeId) (ks:List SK) (fuel:Nat) (cs:List Value) (x:DataW H×List MemPlace),R0 P d t=some ks->DataW.trod enc P w base spare qU fuel t cs=some x->LN ks cs
 | 0,_,_,_,_,_,h,_=>by simp [R0] at h
 |d+1,t,ks,fuel,cs,x,h,hx=>by
  unfold R0 at h;split at h;rename_i k hu;cases h;obtain ⟨n,rfl,_,hw⟩:=DataW.trod_int hu hx;exact oQ ⟨n,rfl,hw⟩;rename_i hu;cases h;obtain ⟨b,rfl,_⟩:=DataW.trod_bool hu hx;exact oQ ⟨b,rfl⟩;rename_i hu;cases h;obtain ⟨s,rfl,_⟩:=DataW.trod_string hu hx;exact oQ ⟨s,rfl⟩;rename_i fs hu;split at h;rename_i ks' hks;split at h;rename_i hb;cases h;have hl:ks.length=P.cellsOf t:=GZ hb;obtain ⟨xs,n,_,_,HX,hxl,hf⟩:=DataW.trod_struct hu hx;have:=OR (enc:=enc) (w:=w) (base:=base) (spare:=spare) (qU:=qU) (cs:=cs) (g:=R0 P d) (λt' ks' off hk ⟨n',x',hx'⟩=>wV d t' ks' n' _ x' hk hx') fs.toList 0 ks hks (Ao _) (λf hf'=>by
   obtain ⟨i,O⟩:=wR.1 hf';have hi':fs[i]? =some f:=by simpa using O
   have hlt:i<xs.length:=by rw [hxl];exact (P7.1 hi').1
   exact ⟨n,xs[i],(hf i f hi').trans (D0 hlt)⟩)
  rw [hl,←HX] at this;simpa using this;cases h;cases h;cases h
def MOk(enc:TypeId×Value->H)(P:Program)(w:World)(base:Nat)(spare:Nat->Bool)(qU:Bool):MK->Value->Prop
 | .sc k,v=>pB k v
 | .sl t e ks,v=>P.underlying t=some (.slice e)/\R0 P 9 e=some ks/\ks.length=P.cellsOf e/\ ∃n x,DataW.trod enc P w base spare qU n t [v]=some x/\ ∀q∈x.1.weights P t,q<=reachBytes
theorem uF: ∀{ts:List TypeId} {ds:List (DataW H)} {i:Nat} {t:TypeId} {d:DataW H} {q:Nat},ts[i]? =some t->ds[i]? =some d->q∈d.weights P t->q∈DataW.weightsEach P ts ds
 |[],_,i,_,_,_,h,_,_=>by simp at h
 |_::_,[],i,_,_,_,_,h,_=>by simp at h
 |t::ts,d::ds,i,t',d',q,h,h',hq=>by
  simp only [DataW.weightsEach,Bc];cases i with
  |zero=>simp at h h';subst h;subst h';exact .inl hq
  |succ i=>exact .inr (uF (by simpa using h) (by simpa using h') hq)
theorem OQ{g:TypeId->Option (List MK)}{r:MK->Value->Prop}{cs:List Value}(hg: ∀t ks (off:Nat),g t=some ks->(∃n x,DataW.trod enc P w base spare qU n t ((cs.drop off).take (P.cellsOf t))=some x/\ ∀q∈x.1.weights P t,q<=reachBytes)->NB r ks ((cs.drop off).take (P.cellsOf t))):
  ∀(fs:List Field) (off:Nat) (ks:List MK),IK P g fs off=some ks->off<=cs.length->(∀f∈fs,∃n x,DataW.trod enc P w base spare qU n f.type ((cs.drop f.offset).take (P.cellsOf f.type))=some x/\ ∀q∈x.1.weights P f.type,q<=reachBytes)->NB r ks ((cs.drop off).take ks.length)
 |[],_,ks,h,_,_=>by
  simp only [IK,HE] at h;subst h;exact ⟨VT,λj k v h=>by simp at h⟩
 |f::fs,off,ks,h,ho,hf=>by
  unfold IK at h;split at h;rename_i ks1 h1;split at h;rename_i hb;simp only [GU] at hb;have e1:f.offset=off:=GZ hb.1;have e2:ks1.length=P.cellsOf f.type:=GZ hb.2;split at h;rename_i r' Z;cases h;have h2:=hf f GD;rw [e1] at h2;have a1:=hg f.type ks1 off h1 h2;have hl:off+ks1.length<=cs.length:=by
   have:=a1.1;rw [List.length_take,List.length_drop,←e2] at this;omega
  have a2:=OQ hg fs (off+ks1.length) r' Z hl (λf' hf'=>hf f' (HL _ hf'));have:=a1.append a2;rw [←e2] at this;rw [Be,List.take_add,List.drop_drop];exact this;cases h;cases h;cases h
theorem v6: ∀(d:Nat) (t:TypeId) (ks:List MK) (fuel:Nat) (cs:List Value) (x:DataW H×List MemPlace),kH P d t=some ks->DataW.trod enc P w base spare qU fuel t cs=some x->(∀q∈x.1.weights P t,q<=reachBytes)->NB (MOk enc P w base spare qU) ks cs
 | 0,_,_,_,_,_,h,_,_=>by simp [kH] at h
 |d+1,t,ks,fuel,cs,x,h,hx,hz=>by
  unfold kH at h;split at h;rename_i k hu;cases h;obtain ⟨n,rfl,_,hw⟩:=DataW.trod_int hu hx;exact .one ⟨n,rfl,hw⟩;rename_i hu;cases h;obtain ⟨b,rfl,_⟩:=DataW.trod_bool hu hx;exact .one ⟨b,rfl⟩;rename_i hu;cases h;obtain ⟨s,rfl,_⟩:=DataW.trod_string hu hx;exact .one ⟨s,rfl⟩;rename_i e hu;split at h;rename_i ks' hk;split at h;rename_i hb;cases h;have h1: ∃v,cs=[v]:=by
   rcases Go.Deep.open_slice hu hx with ⟨h0,_⟩|⟨a,len,cap,m,n,D,Pl,h0,_⟩<;>exact ⟨_,h0⟩
  obtain ⟨v,rfl⟩:=h1;exact .one ⟨hu,hk,GZ hb,fuel,x,hx,hz⟩;cases h;cases h;rename_i fs hu;split at h;rename_i ks' hks;split at h;rename_i hb;cases h;have hl:ks.length=P.cellsOf t:=GZ hb;obtain ⟨xs,n,_,hxe,HX,hxl,hf⟩:=DataW.trod_struct hu hx;have hzz: ∀q∈DataW.weightsEach P (fs.toList.map (·.type)) (xs.map (·.1)),q<=reachBytes:=by
   intro q hq;refine hz q ?_;rw [hxe];simpa [DataW.weights,hu] using hq
  have:=OQ (enc:=enc) (w:=w) (base:=base) (spare:=spare) (qU:=qU) (cs:=cs) (g:=kH P d) (r:=MOk enc P w base spare qU) (λt' ks' off hk ⟨n',x',hx',hz'⟩=>v6 d t' ks' n' _ x' hk hx' hz') fs.toList 0 ks hks (Ao _) (λf hf'=>by
   obtain ⟨i,O⟩:=wR.1 hf';have hi':fs[i]? =some f:=by simpa using O
   have hlt:i<xs.length:=by rw [hxl];exact (P7.1 hi').1
   exact ⟨n,xs[i],(hf i f hi').trans (D0 hlt),λq hq=>hzz q (uF (i:=i) (by simp [hi']) (by simp [D0 hlt]) hq)⟩)
  rw [hl,←HX] at this;simpa using this;cases h;cases h;cases h
inductive rQ (P:Program):MK->AV->Prop
 |sc (k:SK) (v:Value):pB k v->rQ P (.sc k) (.x v)
 |sl (t e:TypeId) (ks:List SK) (n:Nat) (f:Nat->List Value):n<=maxLen->n*P.bytesOf e<=reachBytes->(∀i,i<n->LN ks (f i))->rQ P (.sl t e ks) (.lst ks.length n (λi=>(f i).map .x))
def BK(P:Program)(ms:List MK)(l:List AV):Prop:=ms.length=l.length/\ ∀(j:Nat) (k:MK) (a:AV),ms[j]? =some k->l[j]? =some a->rQ P k a
inductive wK (P:Program):TypeId->AV->Prop
 |sc (t:TypeId) (k:SK) (v:Value):(∀fs,P.underlying t≠some (.struct fs))->R0 P 9 t=some [k]->pB k v->wK P t (.x v)
 |st (t:TypeId) (fs:Array Field) (ks:List SK) (vs:List Value):P.underlying t=some (.struct fs)->R0 P 9 t=some ks->LN ks vs->wK P t (.agg (vs.map .x))
 |sl (t e:TypeId) (ks:List SK) (n:Nat) (f:Nat->List Value):P.underlying t=some (.slice e)->R0 P 9 e=some ks->n<=maxLen->n*P.bytesOf e<=reachBytes->(∀i,i<n->LN ks (f i))->wK P t (.lst ks.length n (λi=>(f i).map .x))
 |mx (t:TypeId) (fs:Array Field) (ms:List MK) (l:List AV):P.underlying t=some (.struct fs)->R0 P 9 t=none->kH P 9 t=some ms->BK P ms l->wK P t (.agg l)
 |sm (t e:TypeId) (fs:Array Field) (ms:List MK) (n:Nat) (f:Ci):P.underlying t=some (.slice e)->P.underlying e=some (.struct fs)->R0 P 9 e=none->kH P 9 e=some ms->n<=maxLen->n*P.bytesOf e<=reachBytes->(∀i,i<n->BK P ms (f i))->wK P t (.lst ms.length n f)
def IF:List MK->Bool
 |[]=>true
 | .sc _::ms=>IF ms
 | .sl _ _ ks::ms=> !ks.isEmpty&&IF ms
def TA(P:Program)(t:TypeId):Bool:=match P.underlying t with
 |some (.int _)|some .bool|some .string=>(R0 P 9 t).isSome
 |some (.struct _)=>match R0 P 9 t with
  |some _=>true
  |none=>match kH P 9 t with
   |some ms=>Ja9 P t ms
   |none=>false
 |some (.slice e)=>match R0 P 9 e with
  |some ks=>Nat.beq ks.length (P.cellsOf e)
  |none=>match P.underlying e,kH P 9 e with
   |some (.struct _),some ms=>Nat.beq ms.length (P.cellsOf e)&&(IF ms&& !ms.isEmpty)
   |_,_=>false
 |_=>false
def jG(w:World):UL:={ro:=λb=>b<w.heap.size,own:=λ_=>none,live:=λ_=>False,blk:=λ_=>0,val:=λ_=> .nilIface}
theorem cI{r:Reach}{b0:Nat}{t e:TypeId}{v:Value}{fuel:Nat}{x:DataW H×List MemPlace}{ks:List SK}(hu:P.underlying t=some (.slice e))(hk:R0 P 9 e=some ks)(hl:ks.length=P.cellsOf e)(hv:Cell.okWide P w r b0 t v)(hf:DataW.trod enc P w 0 (λ_=>true) qU fuel t v.cells.toList=some x)(hz: ∀q∈x.1.weights P t,q<=reachBytes):
  ∃(n:Nat) (f:Nat->List Value),n<=maxLen/\n*P.bytesOf e<=reachBytes/\(∀i,i<n->LN ks (f i))/\Rep (jG w) w (.lst ks.length n (λi=>(f i).map .x)) v/\Idf (.lst ks.length n (λi=>(f i).map .x)):=by
 obtain ⟨a0,n0,c0,rfl⟩: ∃a0 n0 c0,v= .slice a0 n0 c0:=by
  have hx:=hv;simp only [Cell.okWide,Cell.ok,hu] at hx;split at hx<;>simp_all
 rcases Go.Deep.open_slice hu hf with ⟨h0,_⟩|⟨a,len,cap,m,n,D,Pl,h0,hb,hlc,hm,hmm,Wp6,O⟩;simp [Value.cells] at h0;obtain ⟨rfl,rfl,rfl⟩:=h0;exact ⟨0,λ_=>[],Ao _,VT,(λi O=>VJ),.lstNil _ _,.lst _ _ _ (λi O=>VJ)⟩;simp [Value.cells] at h0;obtain ⟨rfl,rfl,rfl⟩:=h0;simp only [if_true] at hmm;subst hmm;have hok:w.has P r b0 a e m:=by
  simp only [Value.okWide,hu,Cell.okWide,Cell.ok] at hv;exact hv.2.2
 obtain ⟨_,hsp,row,cells,hsh,_⟩:=hok;obtain ⟨ab,ao,ak⟩:=a;simp only at hsp;subst hsp;have N2:ab<w.heap.size:=by
  unfold World.shape? at hsh;cases hh:w.heap[ab]? with
  |none=>simp only [hh] at hsh;cases hsh
  |some o=>exact (P7.1 hh).1
 let F:Nat->List Value:=λi=>(w.cells? 0 ((⟨ab,ao,none⟩:Addr).add (i*P.cellsOf e)) (P.cellsOf e)).getD []
 have hF: ∀i,i<m->LN ks (F i)/\ ∀j,j<ks.length->w.cell? ⟨ab,ao+(i*ks.length+j),none⟩=(F i)[j]? :=by
  intro i hi';obtain ⟨cs',hcs,htr⟩:=O i hi';have e1:F i=cs':=by simp only [F,hcs,GS]
  rw [e1];refine ⟨wV 9 e ks n cs' _ hk htr,λj hj=>?_⟩;obtain ⟨_,_,h3⟩:=World.cells?_some hcs;have:=h3 j VJ;rw [DK,DK] at this;rw [hl,←this,Ba]
 have iP:n0*P.bytesOf e<=reachBytes:=by
  have hd:x.1= .slice ((List.range n0).map D) ((List.range (m-n0)).map λj=>D (n0+j)):=by
   have:=congrArg Prod.fst Wp6;exact this
  have h1:=hz ((((List.range n0).map D).length+((List.range (m-n0)).map λj=>D (n0+j)).length)*P.bytesOf e) (by rw [hd];simp [DataW.weights,hu])
  rw [Bm,List.length_range] at h1;exact Ar (BJ _ (Nat.le_add_right _ _)) h1
 refine ⟨n0,F,VJ,iP,(λi hi'=>(hF i VJ).1),?_,.lst _ _ _ (λi hi' a ha=>?_)⟩;refine .lst _ _ _ ab ao m (λi j=>(F i).getD j .nilIface) (λ_=>N2) (λ_=>N2) (λi hi' a ha=>?_) hlc hm (λi j hi' hj=>?_) (λi hi'=>?_) (λi j a hi' ha=>?_) _ (λ_=>rfl);obtain ⟨b,_,rfl⟩:=List.mem_map.1 ha;exact .x b;rw [(hF i VJ).2 j hj];have hjl:j<(F i).length:=by rw [←(hF i VJ).1.1];exact hj
 simp [List.getD,D0 hjl];simp [(hF i VJ).1.1];rw [Bn,Ay] at ha;obtain ⟨b,hb',rfl⟩:=ha;simp only [List.getD,hb',GS];exact .x b;obtain ⟨b,_,rfl⟩:=List.mem_map.1 ha;exact .x b
theorem dZ: ∀{ms:List MK} {j:Nat} {t e:TypeId} {ks:List SK},IF ms=true->ms[j]? =some (.sl t e ks)->0<ks.length
 |[],j,t,e,ks,_,hj=>by simp at hj
 | .sc _::ms,j,t,e,ks,h,hj=>by
  cases j with
  |zero=>simp at hj
  |succ j=>exact dZ (ms:=ms) h (by simpa using hj)
 | .sl _ _ ks'::ms,j,t,e,ks,h,hj=>by
  simp only [IF,GU] at h;cases j with
  |zero=>
   simp at hj;obtain ⟨_,_,rfl⟩:=hj;cases ks' with
   |nil=>simp at h
   |cons a b=>simp
  |succ j=>exact dZ (ms:=ms) h.2 (by simpa using hj)
theorem cJ{e:TypeId}{a:Addr}{cap:Nat}{D:Nat->DataW H}{Pl:Nat->List MemPlace}{n:Nat}(hc:0<P.cellsOf e)(O: ∀i,i<cap-> ∃cs',w.cells? 0 (a.add (i*P.cellsOf e)) (P.cellsOf e)=some cs'/\DataW.trod enc P w 0 (λ_=>true) qU n e cs'=some (D i,Pl i))(h:0<cap):a=⟨a.block,a.off,none⟩/\a.block<w.heap.size:=by
 obtain ⟨cs',h1,_⟩:=O 0 h;obtain ⟨_,h2,h3⟩:=World.cells?_some h1;have h4:=h3 0 hc;rw [Nat.zero_mul] at h4;have e0:(a.add 0).add 0=a:=by simp [Addr.add]
 rw [e0,D0 VJ] at h4;obtain ⟨ab,ao,ak⟩:=a;unfold World.cell? at h4;split at h4;rename_i c x y hb;have hlt:=(P7.1 hb).1;cases ak with
 |none=>exact ⟨rfl,hlt⟩
 |some s=>simp at h4
 cases h4
theorem Wb5{t e:TypeId}{v:Value}{fuel:Nat}{x:DataW H×List MemPlace}{ks:List SK}(hu:P.underlying t=some (.slice e))(hk:R0 P 9 e=some ks)(hl:ks.length=P.cellsOf e)(iR:0<ks.length)(hf:DataW.trod enc P w 0 (λ_=>true) qU fuel t [v]=some x)(hz: ∀q∈x.1.weights P t,q<=reachBytes):
  ∃(n:Nat) (f:Nat->List Value),n<=maxLen/\n*P.bytesOf e<=reachBytes/\(∀i,i<n->LN ks (f i))/\Rep (jG w) w (.lst ks.length n (λi=>(f i).map .x)) v/\Idf (.lst ks.length n (λi=>(f i).map .x)):=by
 rcases Go.Deep.open_slice hu hf with ⟨h0,_⟩|⟨a,n0,cap,m,n,D,Pl,h0,hb,hlc,hm,hmm,Wp6,O⟩;simp at h0;subst h0;exact ⟨0,λ_=>[],Ao _,VT,(λi O=>VJ),.lstNil _ _,.lst _ _ _ (λi O=>VJ)⟩;simp at h0;subst h0;simp only [if_true] at hmm;subst hmm;have hat:0<m->a=⟨a.block,a.off,none⟩/\a.block<w.heap.size:=cJ VJ O
 let F:Nat->List Value:=λi=>(w.cells? 0 (a.add (i*P.cellsOf e)) (P.cellsOf e)).getD []
 have hF: ∀i,i<m->LN ks (F i)/\ ∀j,j<ks.length->w.cell? ⟨a.block,a.off+(i*ks.length+j),none⟩=(F i)[j]? :=by
  intro i hi';obtain ⟨cs',hcs,htr⟩:=O i hi';have e1:F i=cs':=by simp only [F,hcs,GS]
  rw [e1];refine ⟨wV 9 e ks n cs' _ hk htr,λj hj=>?_⟩;obtain ⟨_,_,h3⟩:=World.cells?_some hcs;have:=h3 j VJ;rw [(hat VJ).1,DK,DK] at this;rw [hl,←this,Ba]
 have iP:n0*P.bytesOf e<=reachBytes:=by
  have hd:x.1= .slice ((List.range n0).map D) ((List.range (m-n0)).map λj=>D (n0+j)):=by
   have:=congrArg Prod.fst Wp6;exact this
  have h1:=hz ((((List.range n0).map D).length+((List.range (m-n0)).map λj=>D (n0+j)).length)*P.bytesOf e) (by rw [hd];simp [DataW.weights,hu])
  rw [Bm,List.length_range] at h1;exact Ar (BJ _ (Nat.le_add_right _ _)) h1
 refine ⟨n0,F,VJ,iP,(λi hi'=>(hF i VJ).1),?_,.lst _ _ _ (λi hi' a ha=>?_)⟩;refine .lst _ _ _ a.block a.off m (λi j=>(F i).getD j .nilIface) (λh=>(hat VJ).2) (λh=>(hat VJ).2) (λi hi' a ha=>?_) hlc hm (λi j hi' hj=>?_) (λi hi'=>?_) (λi j a hi' ha=>?_) a (λh=>(hat VJ).1);obtain ⟨b,_,rfl⟩:=List.mem_map.1 ha;exact .x b;rw [(hF i VJ).2 j hj];have hjl:j<(F i).length:=by rw [←(hF i VJ).1.1];exact hj
 simp [List.getD,D0 hjl];simp [(hF i VJ).1.1];rw [Bn,Ay] at ha;obtain ⟨b,hb',rfl⟩:=ha;simp only [List.getD,hb',GS];exact .x b;obtain ⟨b,_,rfl⟩:=List.mem_map.1 ha;exact .x b
theorem Wv0{ms:List MK}{vs:List Value}(PC:IF ms=true)(h:NB (MOk enc P w 0 (λ_=>true) qU) ms vs): ∃l,BK P ms l/\U3 (jG w) w l vs/\ ∀a∈l,Idf a:=by
 have key: ∀(j:Nat) (k:MK) (v:Value),ms[j]? =some k->vs[j]? =some v-> ∃a,rQ P k a/\Rep (jG w) w a v/\Idf a:=by
  intro j k v hj hvj;have h2:=h.2 j k v hj hvj;cases k with
  |sc k=>exact ⟨.x v,.sc k v h2,.x v,.x v⟩
  |sl t' e ks=>
   obtain ⟨hu',hk',hl',n',x',hx',hz'⟩:=h2;obtain ⟨n,f,g1,g2,g3,g4,g5⟩:=Wb5 hu' hk' hl' (dZ PC hj) hx' hz';exact ⟨_,.sl t' e ks n f g1 g2 g3,g4,g5⟩
 have all: ∀(ms:List MK) (vs:List Value),ms.length=vs.length->(∀(j:Nat) (k:MK) (v:Value),ms[j]? =some k->vs[j]? =some v-> ∃a,rQ P k a/\Rep (jG w) w a v/\Idf a)-> ∃l,BK P ms l/\U3 (jG w) w l vs/\ ∀a∈l,Idf a:=by
  intro ms
  induction ms with
  |nil=>
   intro vs hl _;cases vs with
   |nil=>exact ⟨[],⟨rfl,λj k a h=>by simp at h⟩,U3.nil _ _,λa ha=>by cases ha⟩
   |cons v vs=>simp at hl
  |cons k ms ih=>
   intro vs hl h;cases vs with
   |nil=>simp at hl
   |cons v vs=>
    obtain ⟨a,a1,a2,a3⟩:=h 0 k v rfl rfl;obtain ⟨l,l1,l2,l3⟩:=ih vs (by simpa using hl) (λj k v hk hv=>h (j+1) k v (by simpa using hk) (by simpa using hv))
    refine ⟨a::l,⟨by simp [l1.1],λj k' a' hk ha=>?_⟩,U3.cons a2 l2,λb hb=>?_⟩
    cases j with
    |zero=>simp at hk ha;subst hk;subst ha;exact a1
    |succ j=>exact l1.2 j k' a' (by simpa using hk) (by simpa using ha)
    rcases GM.1 hb with rfl|hb;exact a3;exact l3 b hb
 exact all ms vs h.1 key
theorem fV{e:TypeId}{d:DataW H}{q:Nat}: ∀{ds:List (DataW H)},d∈ds->q∈d.weights P e->q∈DataW.weightsAll P e ds
 |[],h,_=>by cases h
 |d'::ds,h,hq=>by
  simp only [DataW.weightsAll,Bc];rcases GM.1 h with rfl|h;exact .inl hq;exact .inr (fV h hq)
theorem Wb4{t e:TypeId}{v:Value}{fuel:Nat}{x:DataW H×List MemPlace}{ms:List MK}(hu:P.underlying t=some (.slice e))(hk:kH P 9 e=some ms)(hl:ms.length=P.cellsOf e)(iR:0<ms.length)(PC:IF ms=true)(hf:DataW.trod enc P w 0 (λ_=>true) qU fuel t [v]=some x)(hz: ∀q∈x.1.weights P t,q<=reachBytes):
  ∃(n:Nat) (f:Ci),n<=maxLen/\n*P.bytesOf e<=reachBytes/\(∀i,i<n->BK P ms (f i))/\Rep (jG w) w (.lst ms.length n f) v/\Idf (.lst ms.length n f):=by
 rcases Go.Deep.open_slice hu hf with ⟨h0,_⟩|⟨a,n0,cap,m,n,D,Pl,h0,hb,hlc,hm,hmm,Wp6,O⟩;simp at h0;subst h0;exact ⟨0,λ_=>[],Ao _,VT,(λi O=>VJ),.lstNil _ _,.lst _ _ _ (λi O=>VJ)⟩;simp at h0;subst h0;simp only [if_true] at hmm;subst hmm;have hat:0<m->a=⟨a.block,a.off,none⟩/\a.block<w.heap.size:=cJ VJ O;have hd:x.1= .slice ((List.range n0).map D) ((List.range (m-n0)).map λj=>D (n0+j)):=by
  have:=congrArg Prod.fst Wp6;exact this
 have iP:n0*P.bytesOf e<=reachBytes:=by
  have h1:=hz ((((List.range n0).map D).length+((List.range (m-n0)).map λj=>D (n0+j)).length)*P.bytesOf e) (by rw [hd];simp [DataW.weights,hu])
  rw [Bm,List.length_range] at h1;exact Ar (BJ _ (Nat.le_add_right _ _)) h1
 let F:Nat->List Value:=λi=>(w.cells? 0 (a.add (i*P.cellsOf e)) (P.cellsOf e)).getD []
 have hF: ∀i,i<n0-> ∃l,(BK P ms l/\U3 (jG w) w l (F i)/\ ∀a∈l,Idf a)/\(F i).length=ms.length/\ ∀j,j<ms.length->w.cell? ⟨a.block,a.off+(i*ms.length+j),none⟩=(F i)[j]? :=by
  intro i hi';obtain ⟨cs',hcs,htr⟩:=O i VJ;have e1:F i=cs':=by simp only [F,hcs,GS]
  rw [e1];have hzi: ∀q∈(D i).weights P e,q<=reachBytes:=λq hq=>hz q (by
   rw [hd];simp only [DataW.weights,hu,GM,Bc];exact .inr (.inl (fV (List.mem_map.2 ⟨i,List.mem_range.2 hi',rfl⟩) hq)))
  have h1:=v6 9 e ms n cs' _ hk htr hzi;obtain ⟨l,h2⟩:=Wv0 PC h1;refine ⟨l,h2,h1.1.symm,λj hj=>?_⟩;obtain ⟨_,_,h3⟩:=World.cells?_some hcs;have:=h3 j VJ;rw [(hat VJ).1,DK,DK] at this;rw [hl,←this,Ba]
 obtain ⟨f,hf'⟩:=Go.Deep.choose_lt hF;refine ⟨n0,f,VJ,iP,(λi hi'=>(hf' i hi').1.1),?_,.lst _ _ _ (λi hi'=>(hf' i hi').1.2.2)⟩;refine .lst _ _ _ a.block a.off m (λi j=>(F i).getD j .nilIface) (λh=>(hat VJ).2) (λh=>(hat VJ).2) (λi hi'=>(hf' i hi').1.2.2) hlc hm (λi j hi' hj=>?_) (λi hi'=>?_) (λi j b hi' ha=>?_) a (λh=>(hat VJ).1);have h1:=hf' i hi';rw [h1.2.2 j hj];have hjl:j<(F i).length:=by rw [h1.2.1];exact hj
 simp [List.getD,D0 hjl];exact (hf' i hi').1.1.1.symm;have h1:=(hf' i hi').1.2.1;have hj:j<(F i).length:=by rw [←h1.1];exact (FV.1 ha).1
 have h2:=h1.2 j b (F i)[j] ha (D0 hj);simpa only [List.getD,D0 hj,GS] using h2
theorem Zr9{r:Reach}{b0:Nat}{t:TypeId}{v:Value}{d:DataW H}{p:List MemPlace}(A:TA P t=true)(hv:Value.okWide P w r b0 t v)(h:DataW.Trod enc P w 0 (λ_=>true) qU t v d p)(hz: ∀q∈d.weights P t,q<=reachBytes):
  ∃av,wK P t av/\Rep (jG w) w av v/\Idf av:=by
 unfold TA at A;obtain ⟨fuel,hf⟩:=h;have scal: ∀k,(∀fs,P.underlying t≠some (.struct fs))->R0 P 9 t=some [k]->(∀cs,v≠ .agg cs)-> ∃av,wK P t av/\Rep (jG w) w av v/\Idf av:=by
  intro k hns hk hna;have h1:=wV 9 t [k] fuel _ _ hk hf;have hc:v.cells.toList=[v]:=by cases v<;>first|rfl|exact absurd rfl (hna _)
  rw [hc] at h1;exact ⟨.x v,.sc t k v hns hk (h1.2 0 k v rfl rfl),.x v,.x v⟩
 split at A;rename_i k hu;obtain ⟨n,rfl⟩:=okWide_int hu hv;exact scal (.int k) (λfs h=>by rw [hu] at h;cases h) (by simp [R0,hu]) (λcs h=>by cases h)
 rename_i hu;obtain ⟨b,rfl⟩:=okWide_bool hu hv;exact scal .bool (λfs h=>by rw [hu] at h;cases h) (by simp [R0,hu]) (λcs h=>by cases h)
 rename_i hu;obtain ⟨s,rfl⟩:=okWide_string hu hv;exact scal .str (λfs h=>by rw [hu] at h;cases h) (by simp [R0,hu]) (λcs h=>by cases h)
 rename_i fs hu;cases hk:R0 P 9 t with
 |none=>
  rw [hk] at A;simp only at A;cases hm:kH P 9 t with
  |none=>rw [hm] at A;cases A
  |some ms=>
   rw [hm] at A;simp only [Ja9] at A;split at A;rename_i ts hts;simp only [GU] at A;have hml:ms.length=P.cellsOf t:=GZ A.2;have htl:=AU A.1;simp only [Value.okWide,hu] at hv;obtain ⟨cs,rfl,hcs,ts',hts',_,I5⟩:=hv;rw [hts] at hts';cases hts';have h1:=v6 9 t ms fuel _ _ hm hf hz;simp only [Value.cells] at h1;have key: ∀(j:Nat) (k:MK) (v:Value),ms[j]? =some k->cs.toList[j]? =some v-> ∃a,rQ P k a/\Rep (jG w) w a v/\Idf a:=by
    intro j k v hj hvj;have h2:=h1.2 j k v hj hvj;cases k with
    |sc k=>exact ⟨.x v,.sc k v h2,.x v,.x v⟩
    |sl t' e ks=>
     obtain ⟨hu',hk',hl',n',x',hx',hz'⟩:=h2;obtain ⟨u,hu2,hc⟩:=I5 j v (by simpa using hvj)
     have hjl:j<ts.length:=by rw [htl];exact (FV.1 hj).1
     rw [Nat.mod_eq_of_lt hjl,AW A.1 hj] at hu2;cases hu2;have hvc:v.cells.toList=[v]:=by
      obtain ⟨a0,n0,c0,rfl⟩: ∃a0 n0 c0,v= .slice a0 n0 c0:=by
       have hx:=hc;simp only [Cell.okWide,Cell.ok,hu'] at hx;split at hx<;>simp_all
      rfl
     obtain ⟨n,f,g1,g2,g3,g4,g5⟩:=cI hu' hk' hl' hc (by rw [hvc];exact hx') hz'
     exact ⟨_,.sl t' e ks n f g1 g2 g3,g4,g5⟩
   have all: ∀(ms:List MK) (vs:List Value),ms.length=vs.length->(∀(j:Nat) (k:MK) (v:Value),ms[j]? =some k->vs[j]? =some v-> ∃a,rQ P k a/\Rep (jG w) w a v/\Idf a)-> ∃l,BK P ms l/\U3 (jG w) w l vs/\ ∀a∈l,Idf a:=by
    intro ms
    induction ms with
    |nil=>
     intro vs hl _;cases vs with
     |nil=>exact ⟨[],⟨rfl,λj k a h=>by simp at h⟩,U3.nil _ _,λa ha=>by cases ha⟩
     |cons v vs=>simp at hl
    |cons k ms ih=>
     intro vs hl h;cases vs with
     |nil=>simp at hl
     |cons v vs=>
      obtain ⟨a,a1,a2,a3⟩:=h 0 k v rfl rfl;obtain ⟨l,l1,l2,l3⟩:=ih vs (by simpa using hl) (λj k v hk hv=>h (j+1) k v (by simpa using hk) (by simpa using hv))
      refine ⟨a::l,⟨by simp [l1.1],λj k' a' hk ha=>?_⟩,U3.cons a2 l2,λb hb=>?_⟩
      cases j with
      |zero=>simp at hk ha;subst hk;subst ha;exact a1
      |succ j=>exact l1.2 j k' a' (by simpa using hk) (by simpa using ha)
      rcases GM.1 hb with rfl|hb;exact a3;exact l3 b hb
   obtain ⟨l,l1,l2,l3⟩:=all ms cs.toList h1.1 key;refine ⟨.agg l,.mx t fs ms l hu hk hm l1,?_,.agg _ l3⟩;have:=Rep.aggL l2;simpa using this;cases A
 |some ks=>
  obtain ⟨cs,rfl,_⟩:=okWide_struct hu hv;have h1:=wV 9 t ks fuel _ _ hk hf;refine ⟨.agg (cs.toList.map .x),.st t fs ks cs.toList hu hk h1,?_,.agg _ (λa ha=>?_)⟩;have:=Rep.aggL (U3.xs (jG w) w cs.toList);simpa using this;obtain ⟨b,_,rfl⟩:=List.mem_map.1 ha;exact .x b
 rename_i e hu;cases hk:R0 P 9 e with
 |none=>
  rw [hk] at A;simp only at A;split at A;rename_i fs ms hue hms;simp only [GU] at A;have hv':Cell.okWide P w r b0 t v:=by
   simpa only [Value.okWide,hu] using hv
  have hvc:v.cells.toList=[v]:=by
   obtain ⟨a0,n0,c0,rfl⟩: ∃a0 n0 c0,v= .slice a0 n0 c0:=by
    have hx:=hv';simp only [Cell.okWide,Cell.ok,hu] at hx;split at hx<;>simp_all
   rfl
  rw [hvc] at hf;have iR:0<ms.length:=by
   cases ms with
   |nil=>simp at A
   |cons a b=>simp
  obtain ⟨n,f,h1,h2,h3,h4,h5⟩:=Wb4 hu hms (GZ A.1) iR A.2.1 hf hz;exact ⟨_,.sm t e fs ms n f hu hue hk hms h1 h2 h3,h4,h5⟩;cases A
 |some ks=>
  rw [hk] at A;have hl:ks.length=P.cellsOf e:=GZ A;have hv':Cell.okWide P w r b0 t v:=by
   simpa only [Value.okWide,hu] using hv
  obtain ⟨n,f,h1,h2,h3,h4,h5⟩:=cI hu hk hl hv' hf hz;exact ⟨_,.sl t e ks n f hu hk h1 h2 h3,h4,h5⟩
 cases A
inductive MP (P:Program):List TypeId->List AV->Prop
 |nil:MP P [] []
 |cons {t:TypeId} {a:AV} {ts:List TypeId} {l:List AV}:wK P t a->MP P ts l->MP P (t::ts) (a::l)
theorem Qg1{b0:Nat}{r:Reach}: ∀(ts:List TypeId) (vs:List Value) (ds:List (DataW H)) (p:List MemPlace),ts.all (TA P)=true->(∀(j:Nat) t v,ts[j]? =some t->vs[j]? =some v->Value.okWide P w r b0 t v)->
  DataW.TrodAll enc P w 0 (λ_=>true) qU ts vs ds p->(∀q∈DataW.weightsEach P ts ds,q<=reachBytes)-> ∃avs,MP P ts avs/\U3 (jG w) w avs vs/\ ∀a∈avs,Idf a
 |[],vs,ds,p,_,_,h,_=>by
  cases vs with
  |nil=>exact ⟨[],.nil,U3.nil _ _,λa ha=>by cases ha⟩
  |cons v vs=>cases ds<;>simp [DataW.TrodAll] at h
 |t::ts,vs,ds,p,A,hv,h,hz=>by
  obtain ⟨v,vs',d,ds',p1,q1,rfl,rfl,rfl,h1,h2⟩:=trodAll_cons h;simp only [List.all_cons,GU] at A;obtain ⟨a,ha,Z,O⟩:=Zr9 A.1 (hv 0 t v rfl rfl) h1 (λq hq=>hz q (by simp only [DataW.weightsEach,Bc];exact .inl hq))
  obtain ⟨l,hl,hrl,hil⟩:=Qg1 ts vs' ds' q1 A.2 (λj t' v' ht hv'=>hv (j+1) t' v' (by simpa using ht) (by simpa using hv')) h2 (λq hq=>hz q (by simp only [DataW.weightsEach,Bc];exact .inr hq))
  refine ⟨a::l,.cons ha hl,U3.cons Z hrl,λx hx=>?_⟩;rcases GM.1 hx with rfl|hx;exact O;exact hil x hx
theorem Zx7{f:FuncId}{b0:Nat}{r:Reach}{ts:List TypeId}{vs:Array Value}{ds:List (DataW H)}{p:List MemPlace}(A:ts.all (TA P)=true)(hv: ∀(j:Nat) t v,ts[j]? =some t->vs.toList[j]? =some v->Value.okWide P w r b0 t v)
  (h:DataW.TrodAll enc P w 0 (λ_=>true) qU ts vs.toList ds p)(hz: ∀q∈DataW.weightsEach P ts ds,q<=reachBytes)(hs: ∀avs,MP P ts avs->VX P f avs (.x (.bool true)))(hgl:DH (jG w) w:=by intro b p h;exact absurd h (by simp [GP])):Calls P f vs w λe w'=>e= .returned (.bool true)/\Below w.heap.size w w':=by
 obtain ⟨avs,h1,h2,h3⟩:=Qg1 ts vs.toList ds p A hv h hz;refine (hs avs h1 (jG w) w vs.toList (λb hb=>hb) hgl h3 h2).mono λe w' hq=>?_;obtain ⟨v,rfl,hb,Z⟩:=hq;rw [Z.x_inv];exact ⟨rfl,hb⟩
theorem S1{W W':World}{sp:Nat->Bool}(hl:laidOutB P=true)(hb:Below W.heap.size W W'): ∀(ts:List TypeId) (vs:List Value) (ds:List (DataW H)) (p:List MemPlace),ts.all (λt=>P.readableRec t&&decide (t<P.types.size))=true->
  DataW.TrodAll enc P W 0 (λ_=>true) true ts vs ds p->(∀x∈p,x.block<W.heap.size)->(∀x∈p,sp x.block=true)->DataW.TrodAll enc P W' 0 sp true ts vs ds p
 |[],vs,ds,p,_,h,_,_=>by
  cases vs<;>cases ds<;>simp [DataW.TrodAll] at h ⊢;exact h
 |t::ts,vs,ds,p,Z,h,hlt,hsp=>by
  obtain ⟨v,vs',d,ds',p1,q1,rfl,rfl,rfl,h1,h2⟩:=trodAll_cons h;simp only [List.all_cons,GU,qQ] at Z;refine ⟨p1,q1,WideElems.Trod_stays hl Z.1.1 Z.1.2 h1 (λx hx=>hb.same (hlt x (Bd _ hx))) (λx hx=>hsp x (Bd _ hx)),S1 hl hb ts vs' ds' q1 ?_ h2 (λx hx=>hlt x (As _ hx)) (λx hx=>hsp x (As _ hx)),rfl⟩;simpa using Z.2
theorem Jg8{f:Func}{s:ChangeSpec}{apart fresh AG again:Bool}{W W':World}{args:Array Value}{ds:List (DataW H)}{before:List MemPlace}{tb:TypeId}(hl:laidOutB P=true)(Z:f.params.toList.all (λt=>P.readableRec t&&decide (t<P.types.size))=true)(F3:f.resultTypes=#[tb])(hub:P.underlying tb=some .bool)
  (Ji5:s.vars=[])(hfr:(s.fn H ds).results=[.lit (.bool true)])(hfa:(s.fn H ds).args=ds)(hfv:(s.fn H ds).vars=[])
  (hW:DataW.Whole enc P f.params.toList s.vars apart W args.toList ds [] before)(hA:DataW.TrodAll enc P W 0 (λ_=>true) true f.params.toList args.toList ds before)(hb:Below W.heap.size W W'):
  s.post enc P f apart fresh AG again W args (.bool true) W':=by
 have hlt: ∀p∈before,p.block<W.heap.size:=λp A=>hW.lt p A;have Wp0: ∀p∈before,(λb=>decide (b<W.heap.size)) p.block=true:=λp A=>by simpa using hlt p A
 have hres': ∀(b:Nat) (sp:Nat->Bool) (hd:Bool),DataW.TrodAll enc P W' b sp hd f.resultTypes.toList ((Value.bool true).resultList f.resultTypes.size) (s.fn H (ds++[])).results []:=by
  intro b sp hd;rw [List.append_nil,hfr,F3];exact trodAll_mk1 (shut_bool hub true)
 have OI: ∀sp:Nat->Bool,(∀p∈before,sp p.block=true)->DataW.TrodAll enc P W' 0 sp true f.params.toList args.toList (s.fn H (ds++[])).args before:=by
  intro sp hsp;rw [List.append_nil,hfa];exact S1 hl hb _ _ _ _ Z hA hlt hsp
 have hvars': ∀sp:Nat->Bool,(∀p∈before,sp p.block=true)->DataW.TrodVars enc P W' sp s.vars (s.fn H (ds++[])).vars []:=by
  intro sp _;rw [List.append_nil,hfv,Ji5];rfl
 refine ⟨ds,[],before,[],before,[],hW,hres' _ _ _,OI _ Wp0,hvars' _ Wp0,World.keptBut_mono (λp A=>⟨A,Or.inr (by simpa using A)⟩) (hb.frame (· ∈before)),λ_=>?_⟩
 obtain ⟨_,_,_,_,_,hz,hn⟩:=hW;refine ⟨ok_one F3 rfl (okWide_bool_mk hub true),_,_,([]++before)++[],⟨[]++before,[],trodAll_append (OI _ (λ_ _=>rfl)) (hres' _ _ _),hvars' _ (λ_ _=>rfl),rfl,?_,?_⟩,?_⟩;intro b off A;have hin:MemPlace.cell b off∈before:=by simpa using A
 rw [hb.frozen (hlt _ hin)];exact hz b off hin;intro ha;have:=hn ha;simpa using this;intro p A _;simpa using A
end
section
variable {P:Program}
section
variable (P:Program)(t:TypeId)
def tY:Bool:=match P.underlying t with
 |some (.struct _)=>true
 |_=>false
def cS:Bool:=match P.underlying t with
 |some (.int _)|some .bool|some .string=>true
 |_=>false
def Qa3:Option TypeId:=match P.underlying t with
 |some (.slice e)=>some e
 |_=>none
end
theorem wK.agg{t:TypeId}{av:AV}{ks:List SK}(h:wK P t av)(hs:tY P t=true)(hk:R0 P 9 t=some ks): ∃vs,av= .agg (vs.map .x)/\LN ks vs:=by
 unfold tY at hs;split at hs;rename_i fs hu;cases h with
 |sc k v h0 h1 h2=>exact absurd hu (h0 fs)
 |st fs' ks' vs h1 h2 h3=>rw [hk] at h2;cases h2;exact ⟨vs,rfl,h3⟩
 |sl e ks' n f h1 h2 h3 h5 h4=>rw [hu] at h1;cases h1
 |mx fs' ms l h1 h2 h3 h4=>rw [hk] at h2;cases h2
 |sm e fs' ms n f h1=>rw [hu] at h1;cases h1
 cases hs
theorem wK.one{t:TypeId}{av:AV}{k:SK}(h:wK P t av)(hs:cS P t=true)(hk:R0 P 9 t=some [k]): ∃v,av= .x v/\pB k v:=by
 cases h with
 |sc k' v h0 h1 h2=>rw [hk] at h1;cases h1;exact ⟨v,rfl,h2⟩
 |st fs' ks' vs h1 h2 h3=>unfold cS at hs;rw [h1] at hs;cases hs
 |sl e ks' n f h1 h2 h3 h5 h4=>unfold cS at hs;rw [h1] at hs;cases hs
 |mx fs' ms l h1 h2 h3 h4=>unfold cS at hs;rw [h1] at hs;cases hs
 |sm e fs' ms n f h1=>unfold cS at hs;rw [h1] at hs;cases hs
theorem wK.list{t e:TypeId}{av:AV}{ks:List SK}(h:wK P t av)(hs:Qa3 P t=some e)(hk:R0 P 9 e=some ks): ∃(n:Nat) (f:Nat->List Value),av= .lst ks.length n (λi=>(f i).map .x)/\(n<=maxLen/\n*P.bytesOf e<=reachBytes)/\ ∀i,i<n->LN ks (f i):=by
 unfold Qa3 at hs;split at hs;rename_i e' hu;cases hs;cases h with
 |sc k v h0 h1 h2=>simp [R0,hu] at h1
 |st fs' ks' vs h1 h2 h3=>rw [hu] at h1;cases h1
 |mx fs' ms l h1 h2 h3 h4=>rw [hu] at h1;cases h1
 |sm e' fs' ms n f h1 h2 h3=>rw [hu] at h1;cases h1;rw [hk] at h3;cases h3
 |sl e' ks' n f h1 h2 h3 h5 h4=>
  rw [hu] at h1;cases h1;rw [hk] at h2;cases h2;exact ⟨n,f,rfl,⟨h3,h5⟩,h4⟩
 cases hs
theorem BK.nil{l:List AV}(h:BK P [] l):l=[]:=List.eq_nil_of_length_eq_zero h.1.symm
theorem BK.cons{k:MK}{ms:List MK}{l:List AV}(h:BK P (k::ms) l): ∃a l',l=a::l'/\rQ P k a/\BK P ms l':=by
 cases l with
 |nil=>have:=h.1;simp at this
 |cons a l=>exact ⟨a,l,rfl,h.2 0 k a rfl rfl,⟨by have:=h.1;simpa using this,λj k' a' hk ha=>h.2 (j+1) k' a' (by simpa using hk) (by simpa using ha)⟩⟩
theorem LN.nil{vs:List Value}(h:LN [] vs):vs=[]:=List.eq_nil_of_length_eq_zero h.1.symm
theorem LN.cons{k:SK}{ks:List SK}{vs:List Value}(h:LN (k::ks) vs): ∃v vs',vs=v::vs'/\pB k v/\LN ks vs':=by
 cases vs with
 |nil=>have:=h.1;simp at this
 |cons v vs=>exact ⟨v,vs,rfl,h.2 0 k v rfl rfl,⟨by have:=h.1;simpa using this,λj k' v' hk hv=>h.2 (j+1) k' v' (by simpa using hk) (by simpa using hv)⟩⟩
end
inductive Gd where
 |rest
 |go (b:Bool) (g:Gd)
 |both (g g':Gd)
def jB{α:Type}:VM α->Gd->VM α
 | .fail,_=> .fail
 | .leaf a,_=> .leaf a
 | .need ps t,g=> .need ps (jB t g)
 | .branch b t f,g=>match g with
  | .rest=> .branch b t f
  | .go true g=> .need [b=true] (jB t g)
  | .go false g=> .need [b=false] (jB f g)
  | .both g g'=> .branch b (jB t g) (jB f g')
 | .may p t f,g=>match g with
  | .rest=> .may p t f
  | .go true g=> .may p (jB t g) (jB f g)
  | .go false g=> .need [¬p] (jB f g)
  | .both g g'=> .may p (jB t g) (jB f g')
theorem Qr8{α:Type}{Q:α->Prop}{t:VM α}: ∀{g:Gd},(jB t g).sat Q->t.sat Q:=by
 induction t with
 |fail=>intro g h;exact h
 |leaf a=>intro g h;exact h
 |need ps t ih=>intro g h;exact ⟨h.1,ih h.2⟩
 |branch b t f iht ihf=>
  intro g h;cases g with
  |rest=>exact h
  |go d g=>
   cases d;obtain ⟨h1,h2⟩:=h;exact ⟨λhb=>absurd ((show b=false from h1).symm.trans hb) (by decide),λ_=>ihf h2⟩
   obtain ⟨h1,h2⟩:=h;exact ⟨λ_=>iht h2,λhb=>absurd ((show b=true from h1).symm.trans hb) (by decide)⟩
  |both g g'=>exact ⟨λhb=>iht (h.1 hb),λhb=>ihf (h.2 hb)⟩
 |may p t f iht ihf=>
  intro g h;cases g with
  |rest=>exact h
  |go d g=>
   cases d;exact ⟨λA=>absurd A h.1,ihf h.2⟩;exact ⟨λA=>iht (h.1 A),ihf h.2⟩
  |both g g'=>exact ⟨λA=>iht (h.1 A),ihf h.2⟩
theorem uJ{P:Program}{G:List (Nat×Spec)}{X:Ext}{L:List UG}{f:FuncId}{fn:Func}{c:Code}{avs:List AV}{res:AV}{t:VM RV}(g:Gd)(hG:VK P G)(hX: ∀cx,VW P X cx)(GR:P.follows .mixedOrders=true)(hf:P.funcs[f]? =some fn)(hb:fn.body=some c)
  (hL: ∀j cj,VS c j=some cj-> ∀sp,L[j]? =some sp->HT P cj sp)(ht:jB (pZ P fn.results.toList (D6 P G X L c 0 (HQ fn avs))) g=t)(h:t.sat (λr=>G0 r res)):VX P f avs res:=by
 subst ht;exact jM hG hX GR hf hb hL (xN (Qr8 h))
def Qf2(P:Program)(G:List (Nat×Spec))(X:Ext)(L:List UG)(N:List (Pl×Nat×TypeId×Nat))(s2:St)(rest:Code->Nat->St->CT):Nat->Code->Nat->St->CT
 | 0,c,off,s=> .needT (BH (FZ N s) s2) (rest c off s2)
 |k+1,c,off,s=>match c with
  | .seq a b=>(D6 P G X L a off s).bind λp=>match p.1 with
   | .normal=>Qf2 P G X L N s2 rest k b (off+GG a) p.2
   |x=> .leaf (x,p.2)
  |_=> .fail
def tO(P:Program)(cx:Cx)(L:List UG)(ev:Code->Nat->St->CT):Prop:=
 ∀(ro:Option Nat) (n:Nat) (c:Code) (off:Nat) (s:St) (Q:G5×St->Prop) (a:Act) (w:World),(∀j cj,VS c j=some cj-> ∀sp,L[off+j]? =some sp->HN P ro cx cj sp)->(ev c off s).sat Q->Rel cx s a w->c.wpIn (fr ro) n P (CJ cx Q) a w
theorem lR{P:Program}{G:List (Nat×Spec)}{X:Ext}{cx:Cx}{L:List UG}(hG:VK P G)(hX:VW P X cx)(GR:P.follows .mixedOrders=true):tO P cx L (D6 P G X L):=
 λro n c off s Q a w hL h r=>D8 hG hX GR c off s Q a w hL h r
theorem hU{P:Program}{G:List (Nat×Spec)}{X:Ext}{cx:Cx}{L:List UG}{N:List (Pl×Nat×TypeId×Nat)}{s2:St}{rest:Code->Nat->St->CT}(hG:VK P G)(hX:VW P X cx)(GR:P.follows .mixedOrders=true)(OD:tO P cx L rest)(hok:okB s2=true): ∀k,tO P cx L (Qf2 P G X L N s2 rest k)
 | 0=>λro n c off s Q a w hL h r=>by
  have h2:=VM.sat_needT h;exact OD ro n c off s2 Q a w hL h2.2 (FW (GE h2.1) hok (DF r))
 |k+1=>λro n c off s Q a w hL h r=>by
  unfold Qf2 at h;split at h;rename_i x y;refine wpIn_seq ?_;have hx:=D8 hG hX GR (ro:=ro) (n:=n) x off s _ a w (λj cj hj sp hsp=>hL j cj (by
   unfold VS;have hlt:j<GG x:=by
    rcases An j (GG x) with h'|h';exact h';exfalso;rw [P3 x j h'] at hj;cases hj
   have:Nat.blt j (GG x)=true:=by rw [Aw];exact hlt
   rw [this];exact hj) sp hsp) (VM.sat_bind h) r
  refine wpIn_mono hx ?_;rintro e a' w' ⟨ex,s',rfl,hq,Z⟩;cases ex with
  |normal=>
   simp only [G5.ex,Exit.then]
   refine hU hG hX GR OD hok k ro n y (off+GG x) s' Q a' w' (λj cj hj sp hsp=>hL (GG x+j) cj ?_ sp (by rw [←Ba];exact hsp)) hq Z
   unfold VS;have:Nat.blt (GG x+j) (GG x)=false:=by rw [Cb,ne_eq,Aw];omega
   rw [this];simpa using hj
  |exit i=>exact ⟨.exit i,s',rfl,hq,Z⟩
  |ret=>exact ⟨.ret,s',rfl,hq,Z⟩
  exact h.elim
theorem OV{P:Program}{L:List UG}{f:FuncId}{fn:Func}{c:Code}{avs:List AV}{ev:Code->Nat->St->CT}(hf:P.funcs[f]? =some fn)(hb:fn.body=some c)
  {cx:Cx}{gh:Option Nat}{w:World}{T:Nat->Prop}{e:UL}{args:List Value}(hev:tO P cx L ev)(hK: ∀b o,¬cx.K b o)(hsv:cx.saved=[])(Qp8:cx.sz=0)(hM: ∀g T w0 D,cx.Φ g T w0->cx.M D->w0.heap.size<=D)(hΦ:cx.Φ gh T w)
  (hT: ∀b,T b->b<w.heap.size/\ ¬e.ro b)(hro: ∀b,e.ro b->b<w.heap.size)(hgl:DH e w)(FP: ∀a∈avs,Idf a)(Z:U3 e w avs args)
  (hL: ∀j cj,VS c j=some cj-> ∀sp,L[j]? =some sp->HN P none cx cj sp){E:G5×St->Prop}(h:(ev c 0 {HQ fn avs with gh:=gh}).sat E){R:Ending->World->Prop}
  (fin: ∀x s w0 T' e' tmps w',E (x,s)->cx.Φ s.gh T' w0->UY e' w0.heap.size w'->Below w0.heap.size w0 w'->UV e' s.m w'->(∀b,T' b-> ¬e'.ro b)->U3 e' w' s.σ tmps.toList-> ∃v,(results fn tmps).run P w'= .ok v w'/\R (.returned v) w')
  (hex: ∀x s,E (x,s)-> ∀i,x≠ .exit i):Calls P f args.toArray w R:=by
 let e0:UL:={ro:=e.ro,own:=λ_=>none,live:=λ_=>False,blk:=λ_=>0,val:=λ_=> .nilIface}
 have hr0:U3 e0 w avs args:=⟨Z.1,λi a v ha hv=>Rep.idf (e:=e) (e':=e0) (λ_ h=>h) (Z.2 i a v ha hv) (FP a (F5 ha))⟩;have yI:Rel cx {HQ fn avs with gh:=gh} {tmps:=args.toArray++Array.replicate (fn.ntmps-args.toArray.size) undef,defers:=[] } w:=by
  refine ⟨w,T,e0,hΦ,⟨λb hb=>⟨rfl,hro b hb⟩,(λb k hk=>by cases hk),hgl⟩,Below.refl _ _,(λp A=>by cases A),(λk hk=>False.elim hk),hT,⟨⟨(λd hd=>by cases hd),By⟩,(λb o h=>(hK b o h).elim),⟨by rw [hsv];rfl,(λi a v h=>by cases h)⟩,by rw [Qp8];exact Ao _⟩,?_⟩
  have I1:U3 e0 w (List.replicate (fn.ntmps-avs.length) .top) (List.replicate (fn.ntmps-avs.length) undef):=by
   refine ⟨VT,λi a v ha _=>?_⟩;have:=F5 ha;rw [List.mem_replicate] at this;rw [this.2];exact .top v
  have:=hr0.append I1;simpa [HQ,Z.1] using this
 refine callsIn_wide (n:=0).1 (callsIn_of_wp_marks (F:=fr none) hf hb trivial (wpIn_mono (hev none 0 c 0 _ _ _ w (λj cj hj sp hsp=>hL j cj hj sp (by simpa using hsp)) h yI) ?_) rfl)
 rintro ex a' w' ⟨x,s',rfl,hE,w0,T',e',hΦ',re⟩;have hx:=hex x s' hE;have yK:LeavesInM (fr none) 0 P fn a'.tmps R a'.defers .returning w':=
  zL (M:=cx.M) (s:=s') (λD hD=>hM _ _ _ D hΦ' hD) (λw2 q1 q2 q3 q4=>fin x s' w0 T' e' a'.tmps w2 hE hΦ' q1 q2 q3 (λb hb=>(re.foe b hb).2) q4) a'.defers w' re.xt.defers re.env re.below re.mem re.slots
 cases x with
 |normal=>exact yK
 |ret=>exact yK
 |exit i=>exact (hx i rfl).elim
theorem fY{P:Program}{G:List (Nat×Spec)}{X:Ext}{L:List UG}{f:FuncId}{fn:Func}{c:Code}{avs:List AV}{res:AV}{t:VM RV}(k:Nat)(N:List (Pl×Nat×TypeId×Nat))(s2:St)(hG:VK P G)(hX: ∀cx,VW P X cx)(GR:P.follows .mixedOrders=true)(hf:P.funcs[f]? =some fn)(hb:fn.body=some c)
  (hL: ∀j cj,VS c j=some cj-> ∀sp,L[j]? =some sp->HT P cj sp)(hok:okB s2=true)(ht:pZ P fn.results.toList (Qf2 P G X L N s2 (D6 P G X L) k c 0 (HQ fn avs))=t)(h:t.sat (λr=>G0 r res)):VX P f avs res:=by
 subst ht;intro e w args hro hgl FP Z;refine OV hf hb (cx:=lN w (λ_=>False)) (gh:=none) (T:=λ_=>False) (e:=e) (hU hG (hX _) GR (lR hG (hX _) GR) hok k) (λ_ _ h=>h) rfl rfl (by rintro g T w0 D ⟨rfl,_⟩ h;exact h) ⟨rfl,rfl⟩ (λb h=>h.elim) hro hgl FP Z (λj cj hj sp hsp=>hL j cj hj sp hsp _ (xQ _ _)) (xN h) ?_ ?_
 rintro x s w0 T' e' tmps w' ⟨hx,r,F3,kF⟩ ⟨rfl,_⟩ q1 q2 q3 _ q4;obtain ⟨u,hu,GK⟩:=DM (P:=P) q3 q4 F3;exact ⟨u,hu,u,rfl,q2,kF.rep q1 rfl q3 GK⟩;rintro x s ⟨hx,_⟩ i rfl;exact hx
theorem SU{P:Program}{L:List UG}{f:FuncId}{fn:Func}{c:Code}{avs:List AV}{res:AV}{t:VM RV}{ev:Code->Nat->St->CT}(hf:P.funcs[f]? =some fn)(hb:fn.body=some c)(hev: ∀cx,tO P cx L ev)
  (hL: ∀j cj,VS c j=some cj-> ∀sp,L[j]? =some sp->HT P cj sp)(ht:pZ P fn.results.toList (ev c 0 (HQ fn avs))=t)(h:t.sat (λr=>G0 r res)):VX P f avs res:=by
 subst ht;intro e w args hro hgl FP Z;refine OV hf hb (cx:=lN w (λ_=>False)) (gh:=none) (T:=λ_=>False) (e:=e) (hev _) (λ_ _ h=>h) rfl rfl (by rintro g T w0 D ⟨rfl,_⟩ h;exact h) ⟨rfl,rfl⟩ (λb h=>h.elim) hro hgl FP Z (λj cj hj sp hsp=>hL j cj hj sp hsp _ (xQ _ _)) (xN h) ?_ ?_
 rintro x s w0 T' e' tmps w' ⟨hx,r,F3,kF⟩ ⟨rfl,_⟩ q1 q2 q3 _ q4;obtain ⟨u,hu,GK⟩:=DM (P:=P) q3 q4 F3;exact ⟨u,hu,u,rfl,q2,kF.rep q1 rfl q3 GK⟩;rintro x s ⟨hx,_⟩ i rfl;exact hx
def Qf3(P:Program)(G:List (Nat×Spec))(X:Ext)(L:List UG):Code->Nat->St->CT
 | .region id ops draw,off,s=>match draw with
  |true=>(sQ P G X ops.toList ops.size (Array.replicate ops.size false) s).bind λs=> .leaf (.normal,s)
  |false=>D6 P G X L (.region id ops false) off s
 | .seq a b,off,s=>(Qf3 P G X L a off s).bind λp=>match p.1 with
  | .normal=>Qf3 P G X L b (off+GG a) p.2
  |x=> .leaf (x,p.2)
 |c,off,s=>D6 P G X L c off s
theorem Wu6{P:Program}{G:List (Nat×Spec)}{X:Ext}{cx:Cx}{L:List UG}(hG:VK P G)(hX:VW P X cx)(GR:P.follows .mixedOrders=true):tO P cx L (Qf3 P G X L):=by
 intro ro n c
 induction c with
 |region id ops draw=>
  intro off s Q a w hL h r;cases draw with
  |false=>exact D8 hG hX GR _ off s Q a w hL h r
  |true=>
   obtain ⟨w0,T,e,hΦ,r⟩:=r;refine wpIn_region_any GR ?_;exact j6 hG hX (λs' a' w' hs Z=>⟨.normal,s',rfl,hs,Z⟩) ops.size _ s a _ (VM.sat_bind h) ⟨w0,T,e,hΦ,r.drew⟩
 |seq x y ihx ihy=>
  intro off s Q a w hL h r;refine wpIn_seq ?_;have hx:=ihx off s _ a w (λj cj hj sp hsp=>hL j cj (by
    unfold VS;have hlt:j<GG x:=by
     rcases An j (GG x) with h'|h';exact h';exfalso;rw [P3 x j h'] at hj;cases hj
    have:Nat.blt j (GG x)=true:=by rw [Aw];exact hlt
    rw [this];exact hj) sp hsp) (VM.sat_bind h) r
  refine wpIn_mono hx ?_;rintro e a' w' ⟨ex,s',rfl,hq,Z⟩;cases ex with
  |normal=>
   simp only [G5.ex,Exit.then]
   refine ihy (off+GG x) s' Q a' w' (λj cj hj sp hsp=>hL (GG x+j) cj ?_ sp (by rw [←Ba];exact hsp)) hq Z
   unfold VS;have:Nat.blt (GG x+j) (GG x)=false:=by rw [Cb,ne_eq,Aw];omega
   rw [this];simpa using hj
  |exit i=>exact ⟨.exit i,s',rfl,hq,Z⟩
  |ret=>exact ⟨.ret,s',rfl,hq,Z⟩
 |_=>
  intro off s Q a w hL h r;exact D8 hG hX GR _ off s Q a w hL h r
def A2(P:Program)(G:List (Nat×Spec))(X:Ext)(L:List UG)(fn:Func)(c:Code):D2:=λavs m nx sv=>
 some ((D6 P G X L c 0 {HQ fn avs with m:=m,nx:=nx,sv:=sv}).bind λp=>match p.1 with
  | .exit _=> .fail
  |_=>match BQ P p.2 fn.results.toList with
   |some r=> .leaf (r,p.2.m,p.2.nx,p.2.sv)
   |none=> .fail)
theorem RL{P:Program}{G:List (Nat×Spec)}{X:Ext}{L:List UG}{f:FuncId}{fn:Func}{c:Code}(hG:VK P G)(hX: ∀cx,VW P X cx)(GR:P.follows .mixedOrders=true)(PD:Enters P f)(hf:P.funcs[f]? =some fn)(hb:fn.body=some c)
  (hL: ∀j cj,VS c j=some cj-> ∀sp,L[j]? =some sp->G6 P cj sp):GB P f (A2 P G X L fn c):=by
 refine ⟨PD,?_⟩;intro avs m nx sv t ht Q hQ cx w0 T e ds args w hE hB hm hl LQ hxt Z;unfold A2 at ht;cases ht
 let K':Nat->Obj->Prop:=λb o=>cx.K b o\/(∃d∈ds,d={target:= .collected b,args:=#[] }/\o= .deferred (some []))
 let cx':Cx:={M:=λ_=>False,Φ:=λg T' w'=>g=none/\T'=T/\w'=w0,K:=K',saved:=cx.saved,sz:=cx.sz}
 have FK:(D6 P G X L c 0 {HQ fn avs with m:=m,nx:=nx,sv:=sv}).sat (λp=>(∀i,p.1≠ .exit i)/\p.2.gh=p.2.gh/\ ∃r,BQ P p.2 fn.results.toList=some r/\Q (r,p.2.m,p.2.nx,p.2.sv)):=by
  refine VM.sat_mono ?_ (VM.sat_bind hQ);rintro ⟨x,s⟩ hs;cases x with
  |exit i=>exact hs.elim
  |normal=>
   simp only at hs;split at hs;rename_i r Z;exact ⟨λi h=>(by cases h),rfl,r,Z,hs⟩
   exact hs.elim
  |ret=>
   simp only at hs;split at hs;rename_i r Z;exact ⟨λi h=>(by cases h),rfl,r,Z,hs⟩
   exact hs.elim
 have yI:Rel cx' {HQ fn avs with m:=m,nx:=nx,sv:=sv} {tmps:=args.toArray++Array.replicate (fn.ntmps-args.toArray.size) undef,defers:=[] } w:=by
  refine ⟨w0,T,e,⟨rfl,rfl,rfl⟩,hE,hB,hm,hl,LQ,⟨⟨(λd hd=>by cases hd),By⟩,?_,hxt.saved,hxt.size⟩,?_⟩
  rintro b o (hk|⟨d,hd,h1,rfl⟩);exact hxt.kept b o hk;obtain ⟨D,g1,g2,g3,g4,g5⟩:=hxt.defers.1 d hd;rw [h1] at g1;injection g1 with g1 _
  injection g1 with g1
  subst g1;exact ⟨g2,g3,g4⟩;have I1:U3 e w (List.replicate (fn.ntmps-avs.length) .top) (List.replicate (fn.ntmps-avs.length) undef):=by
   refine ⟨VT,λi a v ha _=>?_⟩;have:=F5 ha;rw [List.mem_replicate] at this;rw [this.2];exact .top v
  have:=Z.append I1;simpa [HQ,Z.1] using this
 refine callsIn_wide (n:=0).1 (callsIn_of_wp_marks (F:=fr none) hf hb trivial (wpIn_mono (D8 hG (hX cx') GR c 0 _ _ _ w (λj cj hj sp hsp=>hL j cj hj sp (by simpa using hsp) none cx') FK yI) ?_) rfl)
 rintro ex a' w' ⟨x,s',rfl,⟨hx,_,r,F3,hq⟩,w0',T',e',⟨_,rfl,rfl⟩,re⟩;have Qq4:a'.defers=[]:=by
  cases hd:a'.defers with
  |nil=>rfl
  |cons d l=>
   obtain ⟨D,_,_,_,_,g5⟩:=re.xt.defers.1 d (by rw [hd];exact GD)
   exact g5.elim
 obtain ⟨u,hu,GK⟩:=DM (P:=P) re.mem re.slots F3;have yK:LeavesInM (fr none) 0 P fn a'.tmps (λen w'=> ∃v r m' nx' sv' e',en= .returned v/\Q (r,m',nx',sv')/\UY e' w0'.heap.size w'/\Below w0'.heap.size w0' w'/\UV e' m' w'/\(∀k,e'.live k->k<nx')/\
   (∀b,T' b->b<w0'.heap.size/\ ¬e'.ro b)/\Xt cx e' sv' ds w'/\Rep e' w' r v) a'.defers .returning w':=by
  rw [Qq4];refine ⟨u,hu,u,r,s'.m,s'.nx,s'.sv,e',rfl,hq,re.env,re.below,re.mem,re.live,re.foe,⟨⟨λd hd=>?_,hxt.defers.2⟩,λb o hk=>re.xt.kept b o (.inl hk),re.xt.saved,re.xt.size⟩,GK⟩;obtain ⟨D,g1,g2,g3,g4,g5⟩:=hxt.defers.1 d hd;obtain ⟨k1,k2,k3⟩:=re.xt.kept D (.deferred (some [])) (.inr ⟨d,hd,g1,rfl⟩);exact ⟨D,g1,k1,k2,k3,g5⟩
 cases x with
 |normal=>exact yK
 |ret=>exact yK
 |exit i=>exact (hx i rfl).elim
def BC(t:Nat)(F:Nat->UG):UG:=λs=>match s.σ.getD t .top with
 | .x (.int _ n)=>F n.toNat s
 |_=>none
theorem L5{P:Program}{c:Code}{t:Nat}{F:Nat->UG}(h: ∀k,G6 P c (F k)):G6 P c (BC t F):=by
 intro ro cx n s tr ht Q hQ a w r;unfold BC at ht;split at ht;exact h _ ro cx n s tr ht Q hQ a w r;cases ht
theorem UR{P:Program}{G:List (Nat×Spec)}{E:Ext}{L:List UG}(N:List (Pl×Nat×TypeId×Nat))(hG:VK P G)(hX: ∀cx,VW P E cx)(GR:P.follows .mixedOrders=true){body:Code}(hL: ∀j cj,VS body j=some cj-> ∀sp,L[j]? =some sp->G6 P cj sp)
  {X:Type}(inv:X->St)(I:X->Prop)(μ:X->Nat)(out:X->G5->Option St){t:CT}{x0:X}(h0:I x0)
  (hok: ∀x,okB (inv x)=true)(qT: ∀x y E,out x y=some E->okB E=true)
  (round: ∀(Q:G5×St->Prop),t.sat Q-> ∀x,I x-> ∃x',(HY P G E L N body (inv x) (inv x') (out x)).sat (λy=>match y with
   | .normal=>I x'/\μ x'<μ x
   |y=> ∀E,out x y=some E->Q (y,E))):G6 P (.loop body) (GJ N (HF (inv x0) t)):=
 λro cx=>FM N hG (hX cx) GR (λj cj hj sp hsp=>hL j cj hj sp hsp ro cx) inv I μ out h0 hok qT round
theorem VN.inl{P:Program}{f:Nat}{h:D2}{H:List (Nat×D2)}(h1:GB P f h)(k:VN P H):VN P ((f,h)::H):=VN.cons h1 k
inductive Xb0 where
 |ret (a:AV)
 |pan (v:Value)
abbrev DZ:=List AV->H2->Nat->List (List AV)->Option (VM (Xb0×H2×Nat×List (List AV)))
def Xx6(e:UL)(w:World):Xb0->Ending->Prop
 | .ret a,en=> ∃v,en= .returned v/\Rep e w a v
 | .pan u,en=>en= .panicked [{v:=u,recovered:=false}]
def D7(P:Program)(f:FuncId)(h:DZ):Prop:=Enters P f/\ ∀avs m nx sv t,h avs m nx sv=some t-> ∀Q,t.sat Q-> ∀(c:Cx) (w0:World) (T:Nat->Prop) (e:UL) (ds:List Deferred) (args:List Value) (w:World),
 UY e w0.heap.size w->Below w0.heap.size w0 w->UV e m w->(∀k,e.live k->k<nx)->(∀b,T b->b<w0.heap.size/\ ¬e.ro b)->Xt c e sv ds w->U3 e w avs args->
  Calls P f args.toArray w λen w'=> ∃r m' nx' sv' e',Xx6 e' w' r en/\Q (r,m',nx',sv')/\UY e' w0.heap.size w'/\Below w0.heap.size w0 w'/\UV e' m' w'/\(∀k,e'.live k->k<nx')/\
   (∀b,T b->b<w0.heap.size/\ ¬e'.ro b)/\Xt c e' sv' ds w'
def UT(P:Program)(PX:List (Nat×DZ)):Prop:= ∀p∈PX,D7 P p.1 p.2
theorem UT.nil(P:Program):UT P []:=λ_ h=>by cases h
theorem UT.cons{P:Program}{f:Nat}{h:DZ}{H:List (Nat×DZ)}(h1:D7 P f h)(k:UT P H):UT P ((f,h)::H):=by
 intro p A;rcases GM.1 A with rfl|A;exact h1;exact k p A
def Qr9:List (Nat×DZ)->Nat->Option DZ
 |[],_=>none
 |(k,s)::t,f=>match Nat.beq k f with
  |true=>some s
  |false=>Qr9 t f
theorem Wr5{G:List (Nat×DZ)}{f:Nat}{s:DZ}(h:Qr9 G f=some s):(f,s)∈G:=by
 induction G with
 |nil=>simp [Qr9] at h
 |cons p t ih=>
  obtain ⟨k,r'⟩:=p;unfold Qr9 at h;split at h;rename_i hk;have:k=f:=GZ hk;subst this;cases h;exact GD;exact HL _ (ih h)
inductive PEx where
 |x (e:G5)
 |pan (v:Value)
def PEx.ex:PEx->Exit
 | .x e=>e.ex
 | .pan v=> .panic [{v,recovered:=false}]
abbrev PT:=VM (PEx×St)
def CI(cx:Cx)(Q:PEx×St->Prop):Exit->Act->World->Prop:=λe a w=> ∃x s,e=PEx.ex x/\Q (x,s)/\Rel cx s a w
abbrev PK:=St->Option PT
def LY(P:Program)(ro:Option Nat)(cx:Cx)(c:Code)(sp:PK):Prop:= ∀(n:Nat) (s:St) (t:PT),sp s=some t-> ∀Q:PEx×St->Prop,t.sat Q-> ∀(a:Act) (w:World),Rel cx s a w->c.wpIn (fr ro) n P (CI cx Q) a w
def Jo1(dst:Option Nat)(s:St)(p:Xb0×H2×Nat×List (List AV)):PT:=match p.2.2.2 with
 |σ::sv=>match p.1 with
  | .ret a=> .leaf (.x .normal,{s with σ:=wY σ dst a,m:=p.2.1,nx:=p.2.2.1,sv:=sv})
  | .pan v=> .leaf (.pan v,{s with σ:=σ,m:=p.2.1,nx:=p.2.2.1,sv:=sv})
 |[]=> .fail
def EN(s:St):PT:= .leaf (.x .normal,s)
def Wi2(P:Program)(G:List (Nat×Spec))(X:Ext)(PX:List (Nat×DZ))(ops:List Oper)(o:Oper)(s:St):PT:=
 match o.op with
 | .call c=>match c.callee with
  | .value f=>match rho s.σ f with
   | .fn (.func g) first caps=>match Qr9 PX g with
    |some h=>match o.guard with
     |none=>match h (first++c.args.toList.map (rho s.σ)++caps) s.m s.nx (s.σ::s.sv) with
      |some t=>t.bind (Jo1 o.dst s)
      |none=> .fail
     |some _=> .fail
    |none=>(zF P G X ops o s).bind EN
   |_=>(zF P G X ops o s).bind EN
  |_=>(zF P G X ops o s).bind EN
 | .panic v=>match o.guard,rho s.σ v with
  |none,.x (.iface t u)=> .leaf (.pan (.iface t u),s)
  |_,_=> .fail
 |_=>(zF P G X ops o s).bind EN
def Je1(f:St->PT)(p:PEx×St):PT:=match p.1 with
 | .x .normal=>f p.2
 |x=> .leaf (x,p.2)
def cY(P:Program)(G:List (Nat×Spec))(X:Ext)(PX:List (Nat×DZ))(ops:List Oper):List Oper->St->PT
 |[],s=>EN s
 |o::rest,s=>(Wi2 P G X PX ops o s).bind (Je1 (cY P G X PX ops rest))
section
variable (P:Program)(G:List (Nat×Spec))(X:Ext)
def Je0(PX:List (Nat×DZ))(ops:List Oper)(s:St):PT:=cY P G X PX ops ops s
def Jk6(PX:List (Nat×DZ)):List Oper->Bool
 |[]=>false
 |o::os=>(match o.op with
  | .call c=>match c.callee with
   | .value (.func g)=>match Qr9 PX g with
    |some _=>true
    |none=>false
   |_=>false
  | .panic _=>true
  |_=>false)||Jk6 PX os
def Wd3(PX:List (Nat×DZ))(ops:List Oper)(s:St):PT:=match Jk6 PX ops with
 |true=>Zj9 (cY P G X PX ops) P G X ops s
 |false=>(Xg9 P G X ops s).bind EN
end
def P5(P:Program)(G:List (Nat×Spec))(X:Ext)(PX:List (Nat×DZ))(L:List PK):Code->Nat->St->PT
 | .skip,_,s=> .leaf (.x .normal,s)
 | .label _,_,s=> .leaf (.x .normal,s)
 | .region _ ops draw,_,s=>match draw with
  |true=>Wd3 P G X PX ops.toList s
  |false=>Je0 P G X PX ops.toList s
 | .seq a b,off,s=>(P5 P G X PX L a off s).bind λp=>match p.1 with
  | .x .normal=>P5 P G X PX L b (off+GG a) p.2
  |x=> .leaf (x,p.2)
 | .cond c a b,off,s=>match rho s.σ c with
  | .lit true=>P5 P G X PX L a off s
  | .lit false=>P5 P G X PX L b (off+GG a) s
  | .x (.bool t)=> .branch t (P5 P G X PX L a off (lO s c true)) (P5 P G X PX L b (off+GG a) (lO s c false))
  |_=> .fail
 | .block id c,off,s=>(P5 P G X PX L c off s).bind λp=>match p.1 with
  | .x (.exit i)=>match Nat.beq i id with
   |true=> .leaf (.x .normal,p.2)
   |false=> .leaf (.x (.exit i),p.2)
  |x=> .leaf (x,p.2)
 | .scope c,off,s=>P5 P G X PX L c off s
 | .loop _,off,s=>match L[off]? with
  |some f=>match f s with
   |some t=>t
   |none=> .fail
  |none=> .fail
 | .rangeFunc _ _ _ _,off,s=>match L[off]? with
  |some f=>match f s with
   |some t=>t
   |none=> .fail
  |none=> .fail
 | .exit id,_,s=> .leaf (.x (.exit id),s)
 | .ret,_,s=> .leaf (.x .ret,s)
 | .goto _,_,_=> .fail
 | .refuse _,_,_=> .fail
section
variable {P:Program}{G:List (Nat×Spec)}{X:Ext}{PX:List (Nat×DZ)}{cx:Cx}
theorem iC(hG:VK P G)(hX:VW P X cx)(hP:UT P PX){ro:Option Nat}{n:Nat}{ops:Array Oper}{i:Nat}{o:Oper}(ho:ops[i]? =some o){s:St}{Q R:PEx×St->Prop}{K:Act->World->Prop}(hK: ∀s a w,R (.x .normal,s)->Rel cx s a w->K a w)(hV: ∀v s,R (.pan v,s)->Q (.pan v,s))(h:(Wi2 P G X PX ops.toList o s).sat R){a:Act}{w:World}(r:Rel cx s a w):
  wpOpIn (fr ro) n P ops (CI cx Q) i K a w:=by
 have plain:((zF P G X ops.toList o s).bind EN).sat R->wpOpIn (fr ro) n P ops (CI cx Q) i K a w:=λh=>
  zE hG hX ho (VM.sat_bind h) r (λs' a' w' hs Z=>hK s' a' w' hs Z)
 unfold Wi2 at h;split at h;rename_i c hop;split at h;rename_i f gU;split at h;rename_i g first caps hfe
 split at h;rename_i hs hhs;split at h;rename_i hg;split at h;rename_i t ht;obtain ⟨w0,T,e,hΦ,r⟩:=r;obtain ⟨dst,op,type,pos,after,guard⟩:=o;simp only at hop hg;subst hop hg;obtain ⟨callee,args,argTypes⟩:=c;simp only at gU;subst gU;have ha:=U3.ops (FL r.slots) args.toList;have hf:=FL r.slots f;rw [hfe] at hf;obtain ⟨us,us',hv,r1,r2⟩:=hf.fn_inv;have HZ:U3 e w (first++args.toList.map (rho s.σ)++caps) (us++args.toList.map a.eval++us'):=(r1.append ha).append r2
 obtain ⟨PD,I4⟩:=hP _ (Wr5 hhs);have FJ:=I4 _ _ _ _ _ ht _ (VM.sat_bind h) {cx with saved:=a.tmps.toList::cx.saved} w0 T e a.defers _ w r.env r.below r.mem r.live r.foe ⟨r.xt.defers,r.xt.kept,L9.cons r.slots r.xt.saved,r.xt.size⟩ HZ
 unfold wpOpIn;simp only [ho];rw [if_pos (by simp [Region.wanted])]
 refine HO (λc h=>by cases h) ?_
 unfold Oper.wp;have DP:(execOp a.eval ⟨dst,.call ⟨.value f,args,argTypes⟩,type,pos,after,none⟩).run P w= .ok (.enter g (us++args.toList.map a.eval++us').toArray) w:=by
  have e1:(us++args.toList.map a.eval++us').toArray=us.toArray++args.map a.eval++us'.toArray:=Array.ext' VT;simp only [execOp,resolve,hv,Deferred.ofValue,At,Bv,Au,invoke];rw [e1];exact LE PD _ w
 rw [DP,Oper.upon_enter];refine FJ.mono λen w' hq=>?_;obtain ⟨rr,m',nx',sv',e',PL,hQ,hE',hB',hm',hl',hT',hx'⟩:=hq;obtain ⟨a1,l1,he1,hs1,hs2⟩:=hx'.saved.cons_inv;subst he1;cases rr with
 |ret av=>
  obtain ⟨v,rfl,GK⟩:=PL;exact hK _ _ _ hQ ⟨w0,T,e',hΦ,hE',hB',hm',hl',hT',by rw [put_defers];exact ⟨hx'.defers,hx'.kept,hs2,hx'.size⟩,BY hs1 dst GK⟩
 |pan u=>
  cases PL;exact ⟨.pan u,_,rfl,hV _ _ hQ,w0,T,e',hΦ,hE',hB',hm',hl',hT',⟨hx'.defers,hx'.kept,hs2,hx'.size⟩,hs1⟩
 exact h.elim;exact h.elim;exact plain h;exact plain h;exact plain h;rename_i v hop;split at h;rename_i t u hg hu;have r0:=r;obtain ⟨w0,T,e,hΦ,r⟩:=r;have hv:=FL r.slots v;rw [hu] at hv;have hv:=hv.x_inv;obtain ⟨dst,op,type,pos,after,guard⟩:=o;simp only at hop hg;subst hop hg;unfold wpOpIn;simp only [ho];rw [if_pos (by simp [Region.wanted])]
 refine HO (λc h=>by cases h) ?_
 unfold Oper.wp;have DP:(execOp a.eval ⟨dst,.panic v,type,pos,after,none⟩).run P w= .halt (.panic (.iface t u)) w:=by
  simp [execOp,hv,Instr.panic,goPanic]
 rw [DP,Oper.upon_panic];exact ⟨.pan (.iface t u),s,rfl,hV _ _ h,r0⟩;exact h.elim;exact plain h
theorem jR(hG:VK P G)(hX:VW P X cx)(hP:UT P PX){ro:Option Nat}{n:Nat}{ops:Array Oper}{Q:PEx×St->Prop}:
  ∀(l:List Oper) (k:Nat),l=ops.toList.drop k-> ∀(s:St) (a:Act) (w:World),(cY P G X PX ops.toList l s).sat Q->Rel cx s a w->wpOpsIn (fr ro) n P ops (CI cx Q) (List.range' k (ops.size-k)) a w
 |[],k,hk,s,a,w,h,r=>by
  have hl:ops.size-k=0:=by
   have:=congrArg List.length hk;simp at this;omega
  rw [hl];exact ⟨.x .normal,s,rfl,h,r⟩
 |o::rest,k,hk,s,a,w,h,r=>by
  have hlt:k<ops.size:=by
   have:=congrArg List.length hk;simp at this;omega
  have hok:ops[k]? =some o:=by
   have:=congrArg (·[0]?) hk;simp at this;exact this.symm
  have OD:rest=ops.toList.drop (k+1):=by
   have:=congrArg List.tail hk;simpa using this
  have e1:ops.size-k=(ops.size-(k+1))+1:=VJ;rw [e1,List.range'_succ,wpOpsIn_cons];refine iC (Q:=Q) (R:=λp=>(Je1 (cY P G X PX ops.toList rest) p).sat Q) hG hX hP hok ?_ (λv s' hs'=>hs') (VM.sat_bind h) r;exact λs' a' w' hs' hr'=>jR hG hX hP rest (k+1) OD s' a' w' hs' hr'
theorem nX(hG:VK P G)(hX:VW P X cx)(hP:UT P PX){ro:Option Nat}{n:Nat}{id:Nat}{ops:Array Oper}{s:St}{Q:PEx×St->Prop}(h:(Je0 P G X PX ops.toList s).sat Q){a:Act}{w:World}(r:Rel cx s a w):
  (Code.region id ops false).wpIn (fr ro) n P (CI cx Q) a w:=by
 refine wpIn_region ?_;rw [List.range_eq_range' (n:=ops.size)];have:=jR hG hX hP (ro:=ro) (n:=n) ops.toList 0 VT s a w h r;simpa using this
theorem e8(hG:VK P G)(hX:VW P X cx)(hP:UT P PX)(GR:P.follows .mixedOrders=true){ro:Option Nat}{n:Nat}{id:Nat}{ops:Array Oper}{s:St}{Q:PEx×St->Prop}(h:(Wd3 P G X PX ops.toList s).sat Q){a:Act}{w:World}(r:Rel cx s a w):
  (Code.region id ops true).wpIn (fr ro) n P (CI cx Q) a w:=by
 unfold Wd3 at h;split at h;exact wpIn_region_any GR (e7 hG hX GR h r (λl k hl s a w h r=>jR hG hX hP l k hl s a w h r));exact CC hG hX GR (VM.sat_bind h) r (λs' a' w' hs Z=>⟨.x .normal,s',rfl,hs,Z⟩)
theorem rM(hG:VK P G)(hX:VW P X cx)(hP:UT P PX)(GR:P.follows .mixedOrders=true){L:List PK}{ro:Option Nat}{n:Nat}:
  ∀(c:Code) (off:Nat) (s:St) (Q:PEx×St->Prop) (a:Act) (w:World),(∀j cj,VS c j=some cj-> ∀sp,L[off+j]? =some sp->LY P ro cx cj sp)->(P5 P G X PX L c off s).sat Q->Rel cx s a w->c.wpIn (fr ro) n P (CI cx Q) a w:=by
 intro c
 induction c with
 |skip=>intro off s Q a w _ h r;exact wpIn_skip ⟨.x .normal,s,rfl,h,r⟩
 |label l=>intro off s Q a w _ h r;exact wpIn_label ⟨.x .normal,s,rfl,h,r⟩
 |region id ops draw=>
  intro off s Q a w _ h r;unfold P5 at h;cases draw with
  |true=>exact e8 hG hX hP GR h r
  |false=>exact nX hG hX hP h r
 |seq x y ihx ihy=>
  intro off s Q a w hL h r;unfold P5 at h;refine wpIn_seq ?_;have hx:=ihx off s _ a w (λj cj hj sp hsp=>hL j cj (by
   unfold VS;have hlt:j<GG x:=by
    rcases An j (GG x) with h'|h';exact h';exfalso;rw [P3 x j h'] at hj;cases hj
   have:Nat.blt j (GG x)=true:=by rw [Aw];exact hlt
   rw [this];exact hj) sp hsp) (VM.sat_bind h) r
  refine wpIn_mono hx ?_;rintro e a' w' ⟨ex,s',rfl,hq,Z⟩;cases ex with
  |pan v=>exact ⟨.pan v,s',rfl,hq,Z⟩
  |x ex=>
  cases ex with
  |normal=>
   simp only [PEx.ex,G5.ex,Exit.then]
   refine ihy (off+GG x) s' Q a' w' (λj cj hj sp hsp=>hL (GG x+j) cj ?_ sp (by rw [←Ba];exact hsp)) hq Z
   unfold VS;have:Nat.blt (GG x+j) (GG x)=false:=by rw [Cb,ne_eq,Aw];omega
   rw [this];simpa using hj
  |exit i=>exact ⟨.x (.exit i),s',rfl,hq,Z⟩
  |ret=>exact ⟨.x .ret,s',rfl,hq,Z⟩
 |cond t x y ihx ihy=>
  intro off s Q a w hL h r;have hLx: ∀j cj,VS x j=some cj-> ∀sp,L[off+j]? =some sp->LY P ro cx cj sp:=by
   intro j cj hj sp hsp;refine hL j cj ?_ sp hsp;unfold VS;split;exact hj;rename_i hb;exfalso;have hge:GG x<=j:=by
    rw [Cb,ne_eq,Aw] at hb;omega
   rw [P3 x j hge] at hj;cases hj
  have hLy: ∀j cj,VS y j=some cj-> ∀sp,L[off+GG x+j]? =some sp->LY P ro cx cj sp:=by
   intro j cj hj sp hsp;refine hL (GG x+j) cj ?_ sp (by rw [←Ba];exact hsp)
   unfold VS;have:Nat.blt (GG x+j) (GG x)=false:=by rw [Cb,ne_eq,Aw];omega
   rw [this];simpa using hj
  unfold P5 at h;have r0:=r;obtain ⟨w0,T,e,hΦ,re⟩:=r;have hc:=FL re.slots t;split at h;rename_i heq;rw [heq] at hc;exact wpIn_cond_true hc.lit_inv (ihx off s Q a w hLx h r0);rename_i heq;rw [heq] at hc;exact wpIn_cond_false hc.lit_inv (ihy _ s Q a w hLy h r0);rename_i b heq;rw [heq] at hc;cases b;exact wpIn_cond_false hc.x_inv (ihy _ _ Q a w hLy (h.2 rfl) (hO r0 heq rfl));exact wpIn_cond_true hc.x_inv (ihx _ _ Q a w hLx (h.1 rfl) (hO r0 heq rfl));exact h.elim
 |block id c ih=>
  intro off s Q a w hL h r;unfold P5 at h;refine wpIn_block (wpIn_mono (ih off s _ a w hL (VM.sat_bind h) r) ?_);rintro e a' w' ⟨ex,s',rfl,hq,Z⟩;cases ex with
  |pan v=>exact ⟨.pan v,s',rfl,hq,Z⟩
  |x ex=>
  cases ex with
  |normal=>exact ⟨.x .normal,s',rfl,hq,Z⟩
  |ret=>exact ⟨.x .ret,s',rfl,hq,Z⟩
  |exit i=>
   simp only [PEx.ex,G5.ex,Exit.inBlock];simp only at hq;split at hq;rename_i hb;rw [if_pos (GZ hb)];exact ⟨.x .normal,s',rfl,hq,Z⟩;rename_i hb;rw [if_neg (λhe=>by subst he;simp at hb)]
   exact ⟨.x (.exit i),s',rfl,hq,Z⟩
 |scope c ih=>
  intro off s Q a w hL h r;unfold P5 at h;refine AN (wpIn_mono (ih off s Q a w hL h r) ?_);rintro e a' w' ⟨ex,s',rfl,hq,Z⟩;cases ex with
  |pan v=>exact ⟨.pan v,s',rfl,hq,Z⟩
  |x ex=>
  cases ex with
  |normal=>exact ⟨.x .normal,s',rfl,hq,Z⟩
  |ret=>exact ⟨.x .ret,s',rfl,hq,Z⟩
  |exit i=>exact ⟨.x (.exit i),s',rfl,hq,Z⟩
 |loop c ih=>
  intro off s Q a w hL h r;unfold P5 at h;split at h;rename_i f hf;split at h;rename_i t ht;exact hL 0 _ rfl f (by simpa using hf) n s t ht Q h a w r
  exact h.elim;exact h.elim
 |rangeFunc f ps x y ihx ihy=>
  intro off s Q a w hL h r;unfold P5 at h;split at h;rename_i f hf;split at h;rename_i t ht;exact hL 0 _ rfl f (by simpa using hf) n s t ht Q h a w r
  exact h.elim;exact h.elim
 |exit id=>intro off s Q a w _ h r;exact wpIn_exit ⟨.x (.exit id),s,rfl,h,r⟩
 |ret=>intro off s Q a w _ h r;exact wpIn_ret ⟨.x .ret,s,rfl,h,r⟩
 |goto l=>intro off s Q a w _ h r;exact h.elim
 |refuse y=>intro off s Q a w _ h r;exact h.elim
end
def A1(P:Program)(G:List (Nat×Spec))(X:Ext)(PX:List (Nat×DZ))(L:List PK)(fn:Func)(c:Code):DZ:=λavs m nx sv=>
 some ((P5 P G X PX L c 0 {HQ fn avs with m:=m,nx:=nx,sv:=sv}).bind λp=>match p.1 with
  | .pan v=> .leaf (.pan v,p.2.m,p.2.nx,p.2.sv)
  | .x (.exit _)=> .fail
  |_=>match BQ P p.2 fn.results.toList with
   |some r=> .leaf (.ret r,p.2.m,p.2.nx,p.2.sv)
   |none=> .fail)
theorem FR{P:Program}{G:List (Nat×Spec)}{X:Ext}{PX:List (Nat×DZ)}{L:List PK}{f:FuncId}{fn:Func}{c:Code}(hG:VK P G)(hX: ∀cx,VW P X cx)(hP:UT P PX)(GR:P.follows .mixedOrders=true)(PD:Enters P f)(hf:P.funcs[f]? =some fn)(hb:fn.body=some c)
  (hL: ∀j cj,VS c j=some cj-> ∀sp,L[j]? =some sp-> ∀ro cx,LY P ro cx cj sp):D7 P f (A1 P G X PX L fn c):=by
 refine ⟨PD,?_⟩;intro avs m nx sv t ht Q hQ cx w0 T e ds args w hE hB hm hl LQ hxt Z;unfold A1 at ht;cases ht
 let K':Nat->Obj->Prop:=λb o=>cx.K b o\/(∃d∈ds,d={target:= .collected b,args:=#[] }/\o= .deferred (some []))
 let cx':Cx:={M:=λ_=>False,Φ:=λg T' w'=>g=none/\T'=T/\w'=w0,K:=K',saved:=cx.saved,sz:=cx.sz}
 have FK:(P5 P G X PX L c 0 {HQ fn avs with m:=m,nx:=nx,sv:=sv}).sat (λp=>match p.1 with
   | .pan v=>Q (.pan v,p.2.m,p.2.nx,p.2.sv)
   | .x (.exit _)=>False
   |_=> ∃r,BQ P p.2 fn.results.toList=some r/\Q (.ret r,p.2.m,p.2.nx,p.2.sv)):=by
  refine VM.sat_mono ?_ (VM.sat_bind hQ);rintro ⟨x,s⟩ hs;cases x with
  |pan v=>exact hs
  |x x=>
  cases x with
  |exit i=>exact hs.elim
  |normal=>
   simp only at hs ⊢;split at hs;rename_i r Z;exact ⟨r,Z,hs⟩;exact hs.elim
  |ret=>
   simp only at hs ⊢;split at hs;rename_i r Z;exact ⟨r,Z,hs⟩;exact hs.elim
 have yI:Rel cx' {HQ fn avs with m:=m,nx:=nx,sv:=sv} {tmps:=args.toArray++Array.replicate (fn.ntmps-args.toArray.size) undef,defers:=[] } w:=by
  refine ⟨w0,T,e,⟨rfl,rfl,rfl⟩,hE,hB,hm,hl,LQ,⟨⟨(λd hd=>by cases hd),By⟩,?_,hxt.saved,hxt.size⟩,?_⟩
  rintro b o (hk|⟨d,hd,h1,rfl⟩);exact hxt.kept b o hk;obtain ⟨D,g1,g2,g3,g4,g5⟩:=hxt.defers.1 d hd;rw [h1] at g1;injection g1 with g1 _
  injection g1 with g1
  subst g1;exact ⟨g2,g3,g4⟩;have I1:U3 e w (List.replicate (fn.ntmps-avs.length) .top) (List.replicate (fn.ntmps-avs.length) undef):=by
   refine ⟨VT,λi a v ha _=>?_⟩;have:=F5 ha;rw [List.mem_replicate] at this;rw [this.2];exact .top v
  have:=Z.append I1;simpa [HQ,Z.1] using this
 refine callsIn_wide (n:=0).1 (callsIn_of_wp_marks (F:=fr none) hf hb trivial (wpIn_mono (rM hG (hX cx') hP GR c 0 _ _ _ w (λj cj hj sp hsp=>hL j cj hj sp (by simpa using hsp) none cx') FK yI) ?_) rfl)
 rintro ex a' w' ⟨x,s',rfl,hq,w0',T',e',⟨_,rfl,rfl⟩,re⟩;have Qq4:a'.defers=[]:=by
  cases hd:a'.defers with
  |nil=>rfl
  |cons d l=>
   obtain ⟨D,_,_,_,_,g5⟩:=re.xt.defers.1 d (by rw [hd];exact GD)
   exact g5.elim
 have hxt':Xt cx e' s'.sv ds w':=by
  refine ⟨⟨λd hd=>?_,hxt.defers.2⟩,λb o hk=>re.xt.kept b o (.inl hk),re.xt.saved,re.xt.size⟩;obtain ⟨D,g1,g2,g3,g4,g5⟩:=hxt.defers.1 d hd;obtain ⟨k1,k2,k3⟩:=re.xt.kept D (.deferred (some [])) (.inr ⟨d,hd,g1,rfl⟩);exact ⟨D,g1,k1,k2,k3,g5⟩
 have fin:(∃r,BQ P s' fn.results.toList=some r/\Q (.ret r,s'.m,s'.nx,s'.sv))->LeavesInM (fr none) 0 P fn a'.tmps (λen w'=> ∃r m' nx' sv' e',Xx6 e' w' r en/\Q (r,m',nx',sv')/\UY e' w0'.heap.size w'/\Below w0'.heap.size w0' w'/\UV e' m' w'/\(∀k,e'.live k->k<nx')/\
   (∀b,T' b->b<w0'.heap.size/\ ¬e'.ro b)/\Xt cx e' sv' ds w') a'.defers .returning w':=by
  rintro ⟨r,F3,hq⟩;obtain ⟨u,hu,GK⟩:=DM (P:=P) re.mem re.slots F3;rw [Qq4];exact ⟨u,hu,.ret r,s'.m,s'.nx,s'.sv,e',⟨u,rfl,GK⟩,hq,re.env,re.below,re.mem,re.live,re.foe,hxt'⟩
 cases x with
 |pan v=>
  show LeavesInM (fr none) 0 P fn a'.tmps _ a'.defers (.panicking [{v:=v,recovered:=false}]) w';rw [Qq4];exact ⟨.pan v,s'.m,s'.nx,s'.sv,e',rfl,hq,re.env,re.below,re.mem,re.live,re.foe,hxt'⟩
 |x x=>
 cases x with
 |normal=>exact fin hq
 |ret=>exact fin hq
 |exit i=>exact hq.elim
def Wt5(N:List (Pl×Nat×TypeId×Nat))(nxt:St)(out:PEx->Option St)(p:PEx×St):VM PEx:=match p.1 with
 | .x .normal=> .needT (BH (FZ N p.2) nxt) (.leaf (.x .normal))
 | .x (.exit id)=>match out (.x (.exit id)) with
  |some E=> .needT (BH (FZ N p.2) E) (.leaf (.x (.exit id)))
  |none=> .fail
 | .x .ret=>match out (.x .ret) with
  |some E=> .needT (BH (FZ N p.2) E) (.leaf (.x .ret))
  |none=> .fail
 | .pan v=>match out (.pan v) with
  |some E=> .needT (BH (FZ N p.2) E) (.leaf (.pan v))
  |none=> .fail
theorem Wt4{N:List (Pl×Nat×TypeId×Nat)}{t:PT}{nxt:St}{out:PEx->Option St}{R:PEx->Prop}(h:(t.bind (Wt5 N nxt out)).sat R):
  t.sat (λp=>match p.1 with
   | .x .normal=>R (.x .normal)/\UB (BH (FZ N p.2) nxt)
   |y=> ∃E,out y=some E/\R y/\UB (BH (FZ N p.2) E)):=by
 refine VM.sat_mono ?_ (VM.sat_bind h);rintro ⟨y,s'⟩ A;cases y with
 |pan v=>
  dsimp only [Wt5] at A ⊢
  split at A;rename_i E hE;exact ⟨E,hE,(VM.sat_needT A).2,(VM.sat_needT A).1⟩;exact A.elim
 |x y=>
 cases y with
 |normal=>exact ⟨(VM.sat_needT A).2,(VM.sat_needT A).1⟩
 |exit id=>
  dsimp only [Wt5] at A ⊢
  split at A;rename_i E hE;exact ⟨E,hE,(VM.sat_needT A).2,(VM.sat_needT A).1⟩;exact A.elim
 |ret=>
  dsimp only [Wt5] at A ⊢
  split at A;rename_i E hE;exact ⟨E,hE,(VM.sat_needT A).2,(VM.sat_needT A).1⟩;exact A.elim
def Zg2(E:St)(t:PT):PK:=λs=>some (.needT (BH s E) t)
def TR(l:List (Pl×Nat×TypeId×Nat))(sp:PK):PK:=λs=>sp (FZ l s)
def Zg9(P:Program)(G:List (Nat×Spec))(X:Ext)(PX:List (Nat×DZ))(L:List PK)(N:List (Pl×Nat×TypeId×Nat))(body:Code)(s nxt:St)(out:PEx->Option St):VM PEx:=(P5 P G X PX L body 0 s).bind (Wt5 N nxt out)
theorem TY{P:Program}{G:List (Nat×Spec)}{X:Ext}{PX:List (Nat×DZ)}{L:List PK}(N:List (Pl×Nat×TypeId×Nat))(hG:VK P G)(hX: ∀cx,VW P X cx)(hP:UT P PX)(GR:P.follows .mixedOrders=true){body:Code}(hL: ∀j cj,VS body j=some cj-> ∀sp,L[j]? =some sp-> ∀ro cx,LY P ro cx cj sp)
  {V:Type}(inv:V->St)(I:V->Prop)(μ:V->Nat)(out:V->PEx->Option St){t:PT}{x0:V}(h0:I x0)
  (hok: ∀x,okB (inv x)=true)(qT: ∀x y E,out x y=some E->okB E=true)
  (round: ∀(Q:PEx×St->Prop),t.sat Q-> ∀x,I x-> ∃x',(Zg9 P G X PX L N body (inv x) (inv x') (out x)).sat (λy=>match y with
   | .x .normal=>I x'/\μ x'<μ x
   |y=> ∀E,out x y=some E->Q (y,E))): ∀ro cx,LY P ro cx (.loop body) (TR N (Zg2 (inv x0) t)):=by
 intro ro cx n s t' ht Q FK a w r;simp only [TR,Zg2,HE] at ht;subst ht
 replace FK:=VM.sat_needT FK
 have hQ:=FK.2;have r:=FW (GE FK.1) (hok x0) (DF r);refine TZ μ (λx a w=>I x/\Rel cx (inv x) a w) ?_ ⟨h0,r⟩;rintro x a w ⟨hx,Z⟩;obtain ⟨x',zP⟩:=round Q hQ x hx;refine wpIn_mono (rM hG (hX cx) hP GR body 0 (inv x) _ a w (λj cj hj sp hsp=>hL j cj hj sp (by simpa using hsp) ro cx) (Wt4 zP) Z) ?_
 rintro ex a₁ w₁ ⟨y,s',rfl,hq,hr'⟩;cases y with
 |pan v=>
  obtain ⟨E,hE,h1,h3⟩:=hq;exact ⟨.pan v,E,rfl,h1 E hE,FW (GE h3) (qT x _ E hE) (DF hr')⟩
 |x y=>
 cases y with
 |normal=>
  obtain ⟨⟨h1,h2⟩,h3⟩:=hq;exact ⟨x',h2,h1,FW (GE h3) (hok x') (DF hr')⟩
 |exit id=>
  obtain ⟨E,hE,h1,h3⟩:=hq;exact ⟨.x (.exit id),E,rfl,h1 E hE,FW (GE h3) (qT x _ E hE) (DF hr')⟩
 |ret=>
  obtain ⟨E,hE,h1,h3⟩:=hq;exact ⟨.x .ret,E,rfl,h1 E hE,FW (GE h3) (qT x _ E hE) (DF hr')⟩
theorem Step.app{e:UL}{id:Nat}(u:Value)(w:World)(hid: ¬e.live id):Step e (e.app id u) w w:=
 ⟨λb _ h=>⟨h,rfl⟩,λk hk=>⟨.inr hk,rfl,by
  have:k≠id:=λh=>hid (h▸hk);simp [UL.app,this]⟩,Am _⟩
def Wr0(sp:BM):D2:=λavs m nx sv=>match sp (avs.map (DA m 40)) with
 |some (ns,T,sz,n,g)=>some (.needT ns (.leaf (.row nx,(nx,.row T sz n g)::m,nx+1,sv)))
 |none=>none
theorem C3{P:Program}{f:FuncId}{sp:BM}(h:Enters P f/\ ∀avs ns T sz n g,sp avs=some (ns,T,sz,n,g)->(∀q∈ns,q)->DO P f avs T sz n g):GB P f (Wr0 sp):=by
 refine ⟨h.1,?_⟩;intro avs m nx sv t ht Q hQ c w0 T e ds args w hE hB hm hl LQ hxt Z;unfold Wr0 at ht;split at ht;rename_i ns T' sz n g hsp;cases ht;obtain ⟨hns,hq⟩:=VM.sat_needT hQ;have gJ:=U3.map (DA m 40) (LA hE hm 40) Z;have FJ:=h.2 _ _ _ _ _ _ hsp (GE hns) e.view w _ (by
  rintro b (hb|⟨k,hb⟩);exact (hE.apart b hb).2;exact (hE.owned b k hb).2) (hE.glob.step (Step.view w)) (DU (RK hm 40) Z) gJ
 refine FJ.mono ?_;rintro en w' ⟨v,xs,rfl,hb,k1,k2,k3,k4⟩;obtain ⟨e',q1,q2,q3,q4,q5,q6,q7,q8⟩:=IU hE hB.size hm (λhlv=>Bf _ (hl _ hlv)) hb k1 k2 k3 k4;refine ⟨v,_,_,_,_,e',rfl,hq,q3,hB.trans (hb.mono hB.size),q6,λk hk=>?_,λb hT=>⟨(LQ b hT).1,λhro=>?_⟩,hxt.step q2,q5⟩;rcases q7 k hk with hk|rfl;exact Nat.lt_succ_of_lt (hl k hk);exact Bk _;rcases q8 b hro with hro|hro;exact (LQ b hT).2 hro;have:=(LQ b hT).1;have:=hB.size;omega;cases ht
theorem VM.bind_sat{α β:Type}{f:α->VM β}{Q:β->Prop}: ∀{t:VM α},t.sat (λa=>(f a).sat Q)->(t.bind f).sat Q
 | .fail,h=>h.elim
 | .leaf a,h=>h
 | .need ps t,h=>⟨h.1,VM.bind_sat h.2⟩
 | .branch b t t',h=>⟨λhb=>VM.bind_sat (h.1 hb),λhb=>VM.bind_sat (h.2 hb)⟩
 | .may p t t',h=>⟨λhb=>VM.bind_sat (h.1 hb),VM.bind_sat h.2⟩
def Qe6(N:List (Pl×Nat×TypeId×Nat))(ET EF:St)(x:AV×H2×Nat×List (List AV)):VM Bool:=match x.1 with
 | .lit true=> .needT (BH (FZ N {σ:=[],m:=x.2.1,nx:=x.2.2.1,sv:=x.2.2.2}) ET) (.leaf true)
 | .lit false=> .needT (BH (FZ N {σ:=[],m:=x.2.1,nx:=x.2.2.1,sv:=x.2.2.2}) EF) (.leaf false)
 |_=> .fail
def inlT(P:Program)(G:List (Nat×Spec))(X:Ext)(L:List UG)(fn:Func)(c:Code)(avs:List AV)(m:H2)(nx:Nat)(sv:List (List AV))(N:List (Pl×Nat×TypeId×Nat))(ET EF:St):VM Bool:=
 (D6 P G X L c 0 {HQ fn avs with m:=m,nx:=nx,sv:=sv}).bind λp=>match p.1 with
  | .exit _=> .fail
  |_=>match BQ P p.2 fn.results.toList with
   |some r=>Qe6 N ET EF (r,p.2.m,p.2.nx,p.2.sv)
   |none=> .fail
theorem yU{P:Program}{fn:Func}{R:Ending->World->Prop}{M:Nat->Prop}{w0:World}{e:UL}{s:St}{tmps:Array Value}{n:Nat}{J:World->Prop}(hB: ∀D,M D->w0.heap.size<=D)
  (hJ: ∀w D,M D->w.heap[D]? =some (.deferred (some []))->J w->J (w.putObj D (.deferred none)))
  (fin: ∀w',UY e w0.heap.size w'->Below w0.heap.size w0 w'->UV e s.m w'->U3 e w' s.σ tmps.toList->J w'-> ∃v,(results fn tmps).run P w'= .ok v w'/\R (.returned v) w'):
  ∀(ds:List Deferred) (w:World),SL M e w ds->UY e w0.heap.size w->Below w0.heap.size w0 w->UV e s.m w->U3 e w s.σ tmps.toList->J w->LeavesInM (fr none) n P fn tmps R ds .returning w
 |[],w,_,hE,hb,hm,hs,hj=>fin w hE hb hm hs hj
 |d::ds,w,hd,hE,hb,hm,hs,hj=>by
  obtain ⟨D,h1,h2,h3,h4,h5⟩:=hd.1 d GD;refine ⟨VT,.inl ⟨D,_,by rw [h1],run_takeDeferred h4,?_⟩⟩
  have H9:=(hE.apart D h2).1;have hsz:(w.putObj D (.deferred none)).heap.size=w.heap.size:=World.putObj_size;refine yU hB hJ fin ds _ ⟨λd' hd'=>?_,(List.nodup_cons.1 hd.2).2⟩ ⟨λb hb=>by rw [hsz];exact hE.apart b hb,λb k hk=>by rw [hsz];exact hE.owned b k hk,aI hE.glob h4 rfl⟩ ?_ (λp A=>(hm p A).putObj h4 (λ_ _ h=>by cases h) rfl rfl H9) (hs.sameCells hsz (BD h4 rfl rfl) (qK h4 (λ_ _ h=>by cases h))) (hJ _ _ h5 h4 hj)
  obtain ⟨D',k1,k2,k3,k4,k5⟩:=hd.1 d' (HL _ hd');have hne:D'≠D:=by
   rintro rfl;exact (List.nodup_cons.1 hd.2).1 (by rw [h1,←k1];exact hd')
  exact ⟨D',k1,k2,by rw [hsz];exact k3,(Bu hne).trans k4,k5⟩
  exact hb.trans ((Below.refl w0.heap.size w).grown (grownBy_putObj' w D _) (by have:=hb.size;have:=hB D h5;omega) (λk he=>by cases he;exact hB D h5))
def Xc6(P:Program)(f:FuncId)(avs:List AV)(m:H2)(nx:Nat)(sv:List (List AV))(ET EF:St)(b:Bool):Prop:=
 ∀(c:Cx) (w0:World) (T:Nat->Prop) (e:UL) (args:List Value) (w:World),
 UY e w0.heap.size w->Below w0.heap.size w0 w->UV e m w->(∀k,e.live k->k<nx)->(∀b,T b->b<w0.heap.size/\ ¬e.ro b)->Xt c e sv [] w->c.sz=w.heap.size->U3 e w avs args->
  Calls P f args.toArray w λen w'=>en= .returned (.bool b)/\ ∃e',UY e' w0.heap.size w'/\Below w0.heap.size w0 w'/\UV e' (cond b ET EF).m w'/\(∀k,e'.live k->k<(cond b ET EF).nx)/\
   (∀b,T b->b<w0.heap.size/\ ¬e'.ro b)/\Xt c e' (cond b ET EF).sv [] w'
theorem Qp4{P:Program}{G:List (Nat×Spec)}{X:Ext}{L:List UG}{f:FuncId}{fn:Func}{c:Code}(hG:VK P G)(hX: ∀cx,VW P X cx)(GR:P.follows .mixedOrders=true)(hf:P.funcs[f]? =some fn)(hb:fn.body=some c)
  (hL: ∀j cj,VS c j=some cj-> ∀sp,L[j]? =some sp->HT P cj sp){avs:List AV}{m:H2}{nx:Nat}{sv:List (List AV)}{N:List (Pl×Nat×TypeId×Nat)}{ET EF:St}{b:Bool}{t:VM Bool}
  (hT:okB ET=true)(hF:okB EF=true)(gT:ET.gh=none)(gF:EF.gh=none)(ht:inlT P G X L fn c avs m nx sv N ET EF=t)(FK:t.sat λr=>r=b):Xc6 P f avs m nx sv ET EF b:=by
 subst ht;intro cx w0 T e args w hE hB hm hl LQ hxt hsz Z
 let cx':Cx:={M:=λD=>w.heap.size<=D,Φ:=λg T' w'=>g=none/\T'=T/\w'=w0,K:=cx.K,saved:=cx.saved,sz:=w.heap.size}
 have Zp4:cx'.fun:=λ_ _ _ D _ _ h=>h;have yI:Rel cx' {HQ fn avs with m:=m,nx:=nx,sv:=sv} {tmps:=args.toArray++Array.replicate (fn.ntmps-args.toArray.size) undef,defers:=[] } w:=by
  refine ⟨w0,T,e,⟨rfl,rfl,rfl⟩,hE,hB,hm,hl,LQ,⟨⟨(λd hd=>by cases hd),By⟩,hxt.kept,hxt.saved,Am _⟩,?_⟩
  have I1:U3 e w (List.replicate (fn.ntmps-avs.length) .top) (List.replicate (fn.ntmps-avs.length) undef):=by
   refine ⟨VT,λi a v ha _=>?_⟩;have:=F5 ha;rw [List.mem_replicate] at this;rw [this.2];exact .top v
  have:=Z.append I1;simpa [HQ,Z.1] using this
 have hb2:=VM.sat_bind FK;refine callsIn_wide (n:=0).1 (callsIn_of_wp_marks (F:=fr none) hf hb trivial (wpIn_mono (D8 hG (hX cx') GR c 0 _ _ _ w (λj cj hj sp hsp=>hL j cj hj sp (by simpa using hsp) cx' Zp4) hb2 yI) ?_) rfl)
 rintro ex a' w' ⟨x,s',rfl,hs,w0',T',e',⟨hgh',rfl,rfl⟩,re⟩
 let J:World->Prop:=λw2=>w.heap.size<=w2.heap.size/\Xt {cx' with sz:=0} e' s'.sv [] w2
 have hJ: ∀w2 D,w.heap.size<=D->w2.heap[D]? =some (.deferred (some []))->J w2->J (w2.putObj D (.deferred none)):=by
  rintro w2 D hD h4 ⟨j0,j1,j2,j3,j4⟩;have A4:(w2.putObj D (.deferred none)).heap.size=w2.heap.size:=World.putObj_size;refine ⟨by rw [A4];exact j0,⟨⟨λd hd=>(by cases hd),By⟩,λb o hk=>?_,⟨j3.1,λi a v ha hv=>(j3.2 i a v ha hv).sameCells A4 (BD h4 rfl rfl) (qK h4 (λ_ _ h=>by cases h))⟩,Ao _⟩⟩
  obtain ⟨k1,k2,k3⟩:=j2 b o hk;have hlt:=(hxt.kept b o hk).2.1;exact ⟨k1,by rw [A4];exact k2,(Bu VJ).trans k3⟩
 have hJ0:J w':=⟨re.xt.size,⟨⟨λd hd=>(by cases hd),By⟩,re.xt.kept,re.xt.saved,Ao _⟩⟩
 have main:(match x with| .exit _=>False|_=> ∃r,BQ P s' fn.results.toList=some r/\(Qe6 N ET EF (r,s'.m,s'.nx,s'.sv)).sat λr=>r=b):=by
  cases x with
  |exit i=>exact hs.elim
  |normal=>
   simp only at hs ⊢;split at hs;rename_i r hr';exact ⟨r,hr',hs⟩;exact hs.elim
  |ret=>
   simp only at hs ⊢;split at hs;rename_i r hr';exact ⟨r,hr',hs⟩;exact hs.elim
 have yK:(∃r,BQ P s' fn.results.toList=some r/\(Qe6 N ET EF (r,s'.m,s'.nx,s'.sv)).sat λr=>r=b)->LeavesInM (fr none) 0 P fn a'.tmps (λen w'=>en= .returned (.bool b)/\ ∃e',UY e' w0'.heap.size w'/\Below w0'.heap.size w0' w'/\UV e' (cond b ET EF).m w'/\(∀k,e'.live k->k<(cond b ET EF).nx)/\
   (∀b,T' b->b<w0'.heap.size/\ ¬e'.ro b)/\Xt cx e' (cond b ET EF).sv [] w') a'.defers .returning w':=by
  rintro ⟨r,F3,hq⟩;refine yU (M:=cx'.M) (s:=s') (J:=J) (λD hD=>Ar hB.size hD) hJ (λw2 q1 q2 q3 q4 q5=>?_) a'.defers w' re.xt.defers re.env re.below re.mem re.slots hJ0;obtain ⟨u,hu,GK⟩:=DM (P:=P) q3 q4 F3
  let c2:Cx:={M:=cx.M,Φ:=λg T'' w''=>g=none/\T''=T'/\w''=w0',K:=cx.K,saved:=cx.saved,sz:=cx.sz}
  have Jj2:Rel c2 {σ:=[],m:=s'.m,nx:=s'.nx,sv:=s'.sv} {tmps:=#[],defers:=[] } w2:=
   ⟨w0',T',e',⟨rfl,rfl,rfl⟩,q1,q2,q3,re.live,re.foe,⟨⟨λd hd=>(by cases hd),By⟩,q5.2.kept,q5.2.saved,by show cx.sz<=_;rw [hsz];exact q5.1⟩,U3.nil _ _⟩
  have hn:=DF (l:=N) Jj2;have fin: ∀E:St,Rel c2 E {tmps:=#[],defers:=[] } w2-> ∃e',UY e' w0'.heap.size w2/\Below w0'.heap.size w0' w2/\UV e' E.m w2/\(∀k,e'.live k->k<E.nx)/\(∀b,T' b->b<w0'.heap.size/\ ¬e'.ro b)/\Xt cx e' E.sv [] w2:=by
   rintro E ⟨w0'',T'',e2,⟨_,rfl,rfl⟩,r⟩;exact ⟨e2,r.env,r.below,r.mem,r.live,r.foe,⟨r.xt.defers,r.xt.kept,r.xt.saved,r.xt.size⟩⟩
  refine ⟨u,hu,?_⟩;unfold Qe6 at hq;split at hq;rename_i h1;simp only at h1;subst h1;obtain ⟨q1,q2⟩:=VM.sat_needT hq;have q2:true=b:=q2;subst q2;exact ⟨by rw [GK.lit_inv],fin ET (FW (GE q1) hT hn)⟩
  rename_i h1;simp only at h1;subst h1;obtain ⟨q1,q2⟩:=VM.sat_needT hq;have q2:false=b:=q2;subst q2;exact ⟨by rw [GK.lit_inv],fin EF (FW (GE q1) hF hn)⟩
  exact hq.elim
 cases x with
 |normal=>exact yK main
 |ret=>exact yK main
 |exit i=>exact main.elim
def Xv0(N:List (Pl×Nat×TypeId×Nat))(h:D2):D2:=λavs m nx sv=>
 h (FZ N {σ:=avs,m:=m,nx:=nx,sv:=sv}).σ (FZ N {σ:=avs,m:=m,nx:=nx,sv:=sv}).m (FZ N {σ:=avs,m:=m,nx:=nx,sv:=sv}).nx (FZ N {σ:=avs,m:=m,nx:=nx,sv:=sv}).sv
theorem eS{P:Program}{f:FuncId}{N:List (Pl×Nat×TypeId×Nat)}{h:D2}(hs:GB P f h):GB P f (Xv0 N h):=by
 refine ⟨hs.1,?_⟩;intro avs m nx sv t ht Q hQ c w0 T e ds args w hE hB hm hl LQ hxt Z
 let c':Cx:={M:=c.M,Φ:=λg T' w'=>g=none/\T'=T/\w'=w0,K:=c.K,saved:=c.saved,sz:=c.sz}
 have yI:Rel c' {σ:=avs,m:=m,nx:=nx,sv:=sv} {tmps:=args.toArray,defers:=ds} w:=
  ⟨w0,T,e,⟨rfl,rfl,rfl⟩,hE,hB,hm,hl,LQ,⟨hxt.defers,hxt.kept,hxt.saved,hxt.size⟩,by simpa using Z⟩
 obtain ⟨w0',T',e2,⟨_,rfl,rfl⟩,r⟩:=DF (l:=N) yI;exact hs.2 _ _ _ _ _ ht Q hQ c w0' T' e2 ds args w r.env r.below r.mem r.live r.foe ⟨r.xt.defers,r.xt.kept,r.xt.saved,r.xt.size⟩ (by simpa using r.slots)
def Zl3(D:TypeId):Value->Option Int
 | .iface T v=>match Nat.beq T D with
  |true=>match v with
   | .agg a=>match a.toList with
    |[.int .i64 k]=>some k
    |_=>none
   |_=>none
  |false=>none
 |_=>none
theorem Qn8{D:TypeId}{v:Value}{k:Int}(h:Zl3 D v=some k):v= .iface D (.agg #[.int .i64 k]):=by
 unfold Zl3 at h;split at h;split at h;rename_i hb;cases GZ hb;split at h;rename_i a;split at h;rename_i k0 ha;cases h;have:a=#[Value.int .i64 k]:=Array.toList_inj.1 ha;rw [this];cases h;cases h;cases h;cases h
def Xm6(D:TypeId)(r:Bool×Int):Ending:=match r.1 with
 |true=> .returned (.tuple #[])
 |false=> .panicked [{v:= .iface D (.agg #[.int .i64 r.2]),recovered:=false}]
def dT(a b:AV):Prop:=match a,b with
 | .lst sz n f,.lst sz' n' f'=>sz=sz'/\n=n'/\ ∀i,i<n'->qX (f i) (f' i)/\ ∀x∈f' i,Idf x
 |a,b=>DX a b
def HC:List AV->List AV->Prop
 |[],[]=>True
 |a::l,b::m=>dT a b/\HC l m
 |_,_=>False
theorem eY{e:UL}{w:World}{a b:AV}{v:Value}(h:dT a b)(r:Rep e w a v):Rep e w b v:=by
 unfold dT at h;split at h;rename_i sz n f sz' n' f';obtain ⟨rfl,rfl,h⟩:=h;cases r with
 |lstNil=>exact .lstNil _ _
 |lst _ _ _ b o cap g h1 h2 h3 h4 h5 h6 h7 h8 ad had=>
  have key: ∀i,i<n->U3 e w (f' i) ((List.range sz).map (g i)):=by
   intro i O;refine kW (h i O).1 ⟨by rw [h7 i O];simp,λj a v ha hv=>?_⟩
   have hj:j<sz:=by
    have:=(FV.1 ha).1
    rwa [h7 i O] at this
   rw [Bn,List.getElem?_range hj] at hv;simp only [Bt,HE] at hv;rw [←hv];exact h8 i j a O ha
  refine .lst sz n f' b o cap g h1 h2 (λi O=>(h i O).2) h4 h5 h6 (λi O=>by have:=(key i O).1;simpa using this) (λi j a O ha=>?_) ad had
  have hj:j<sz:=by
   have h9:=(key i O).1;have:=(FV.1 ha).1;simp at h9;omega
  exact (key i O).2 j a (g i j) ha (by rw [Bn,List.getElem?_range hj];rfl)
 exact L1 h r
theorem dS{e:UL}{w:World}: ∀{l m:List AV} {vs:List Value},HC l m->U3 e w l vs->U3 e w m vs
 |[],[],_,_,r=>r
 |a::l,b::m,vs,h,r=>by
  obtain ⟨v,vs',rfl,r1,r2⟩:=r.cons_inv;exact .cons (eY h.1 r1) (dS h.2 r2)
 |[],_::_,_,h,_=>h.elim
 |_::_,[],_,h,_=>h.elim
def Qs3(m:H2):H2->List Prop
 |[]=>[]
 |(id,r)::t=>match r with
  | .cells T l=>match DG m id with
   |some (.cells T' l')=>match Nat.beq T' T with
    |true=>HC l' l::Qs3 m t
    |false=>[False]
   |_=>[False]
  | .row T sz n f=>match DG m id with
   |some (.row T' sz' n' f')=>((T',sz',n',f')=(T,sz,n,f))::Qs3 m t
   |_=>[False]
  |_=>[False]
theorem aP{e:UL}{w:World}{m:H2}(hm:UV e m w): ∀{m':H2},(∀p∈Qs3 m m',p)->UV e m' w
 |[],_,p,A=>by cases A
 |(id,r)::t,h,p,A=>by
  unfold Qs3 at h;split at h;rename_i T l;split at h;rename_i T' l' hg;split at h;rename_i hT;rcases GM.1 A with rfl|A;have h1:T'=T:=GZ hT;have h2:HC l' l:=h _ GD;subst h1;obtain ⟨g1,g2,vs,g3,g4⟩:=hm _ (UW hg);exact ⟨g1,g2,vs,g3,dS h2 g4⟩;exact aP hm (m':=t) (λq hq=>h q (HL _ hq)) p A;exact (h False GD).elim;exact (h False GD).elim;rename_i T sz n f;split at h;rename_i T' sz' n' f' hg;rcases GM.1 A with rfl|A;have h2:(T',sz',n',f')=(T,sz,n,f):=h _ GD;cases h2;exact hm _ (UW hg);exact aP hm (m':=t) (λq hq=>h q (HL _ hq)) p A;exact (h False GD).elim;exact (h False GD).elim
def Ws9(s E:St):List Prop:=match Nat.ble s.nx E.nx with
 |true=>(s.sv=E.sv)::Qs3 s.m E.m
 |false=>[False]
theorem Xl9{s E:St}(h: ∀p∈Ws9 s E,p):s.nx<=E.nx/\s.sv=E.sv/\ ∀p∈Qs3 s.m E.m,p:=by
 unfold Ws9 at h;split at h;rename_i hb;exact ⟨qR hb,h _ GD,λp A=>h p (HL _ A)⟩;exact (h False GD).elim
def Qe7(D:TypeId)(N:List (Pl×Nat×TypeId×Nat))(ET EF:St)(x:Xb0×H2×Nat×List (List AV)):VM (Bool×Int):=match x.1 with
 | .ret (.tup [])=> .needT (Ws9 (FZ N {σ:=[],m:=x.2.1,nx:=x.2.2.1,sv:=x.2.2.2}) ET) (.leaf (true,0))
 | .pan v=>match Zl3 D v with
  |some k=> .needT (Ws9 {σ:=[],m:=x.2.1,nx:=x.2.2.1,sv:=x.2.2.2} EF) (.leaf (false,k))
  |none=> .fail
 |_=> .fail
def Jh9(P:Program)(G:List (Nat×Spec))(X:Ext)(PX:List (Nat×DZ))(L:List PK)(fn:Func)(c:Code)(avs:List AV)(m:H2)(nx:Nat)(sv:List (List AV))(D:TypeId)(N:List (Pl×Nat×TypeId×Nat))(ET EF:St):VM (Bool×Int):=
 (P5 P G X PX L c 0 {HQ fn avs with m:=m,nx:=nx,sv:=sv}).bind λp=>match p.1 with
  | .pan v=>Qe7 D N ET EF (.pan v,p.2.m,p.2.nx,p.2.sv)
  | .x (.exit _)=> .fail
  |_=>match BQ P p.2 fn.results.toList with
   |some r=>Qe7 D N ET EF (.ret r,p.2.m,p.2.nx,p.2.sv)
   |none=> .fail
def wJ(P:Program)(f:FuncId)(avs:List AV)(m:H2)(nx:Nat)(sv:List (List AV))(D:TypeId)(ET EF:St)(res:Bool×Int):Prop:=
 ∀(c:Cx) (w0:World) (T:Nat->Prop) (e:UL) (ds:List Deferred) (args:List Value) (w:World),
 UY e w0.heap.size w->Below w0.heap.size w0 w->UV e m w->(∀k,e.live k->k<nx)->(∀b,T b->b<w0.heap.size/\ ¬e.ro b)->Xt c e sv ds w->U3 e w avs args->
  Calls P f args.toArray w λen w'=>en=Xm6 D res/\ ∃e',UY e' w0.heap.size w'/\Below w0.heap.size w0 w'/\UV e' (cond res.1 ET EF).m w'/\(∀k,e'.live k->k<(cond res.1 ET EF).nx)/\
   (∀b,T b->b<w0.heap.size/\ ¬e'.ro b)/\Xt c e' (cond res.1 ET EF).sv ds w'
theorem Zl4{P:Program}{f:FuncId}{h:DZ}(hs:D7 P f h){avs:List AV}{m:H2}{nx:Nat}{sv:List (List AV)}{t:VM (Xb0×H2×Nat×List (List AV))}{D:TypeId}{N:List (Pl×Nat×TypeId×Nat)}{ET EF:St}{res:Bool×Int}(ht:h avs m nx sv=some t)
  (FK:t.sat λx=>(Qe7 D N ET EF x).sat λr=>r=res):wJ P f avs m nx sv D ET EF res:=by
 intro c w0 T e ds args w hE hB hm hl LQ hxt Z;refine (hs.2 _ _ _ _ _ ht _ FK c w0 T e ds args w hE hB hm hl LQ hxt Z).mono ?_;rintro en w' ⟨r,m',nx',sv',e',hpe,hq,g1,g2,g3,g4,g5,g6⟩
 let c':Cx:={M:=c.M,Φ:=λg T' w'=>g=none/\T'=T/\w'=w0,K:=c.K,saved:=c.saved,sz:=c.sz}
 have yI:Rel c' {σ:=[],m:=m',nx:=nx',sv:=sv'} {tmps:=#[],defers:=ds} w':=
  ⟨w0,T,e',⟨rfl,rfl,rfl⟩,g1,g2,g3,g4,g5,⟨g6.defers,g6.kept,g6.saved,g6.size⟩,U3.nil _ _⟩
 have fin: ∀S E:St,Rel c' S {tmps:=#[],defers:=ds} w'->(∀p∈Ws9 S E,p)-> ∃e',UY e' w0.heap.size w'/\Below w0.heap.size w0 w'/\UV e' E.m w'/\(∀k,e'.live k->k<E.nx)/\(∀b,T b->b<w0.heap.size/\ ¬e'.ro b)/\Xt c e' E.sv ds w':=by
  rintro S E ⟨w0',T',e2,⟨_,rfl,rfl⟩,r⟩ hf;obtain ⟨h1,h2,h3⟩:=Xl9 hf;refine ⟨e2,r.env,r.below,aP r.mem h3,λk hk=>xV (r.live k hk) h1,r.foe,⟨r.xt.defers,r.xt.kept,?_,r.xt.size⟩⟩;rw [←h2];exact r.xt.saved
 unfold Qe7 at hq;split at hq;rename_i h1;simp only at h1;subst h1;obtain ⟨v,rfl,rv⟩:=hpe;obtain ⟨q1,q2⟩:=VM.sat_needT hq;have q2:(true,0)=res:=q2;subst q2;obtain ⟨us,rfl,hus⟩:=rv.tup_inv;obtain rfl:=hus.nil_inv;exact ⟨rfl,fin _ ET (DF (l:=N) yI) (GE q1)⟩;rename_i v h1;simp only at h1;subst h1;split at hq;rename_i k hk;obtain ⟨q1,q2⟩:=VM.sat_needT hq;have q2:(false,k)=res:=q2;subst q2;have hpe:en= .panicked [{v:=v,recovered:=false}]:=hpe;rw [hpe,Qn8 hk];exact ⟨rfl,fin _ EF yI (GE q1)⟩;exact hq.elim;exact hq.elim
theorem LJ{P:Program}{G:List (Nat×Spec)}{X:Ext}{PX:List (Nat×DZ)}{L:List PK}{f:FuncId}{fn:Func}{c:Code}(hG:VK P G)(hX: ∀cx,VW P X cx)(hP:UT P PX)(GR:P.follows .mixedOrders=true)(PD:Enters P f)(hf:P.funcs[f]? =some fn)(hb:fn.body=some c)
  (hL: ∀j cj,VS c j=some cj-> ∀sp,L[j]? =some sp-> ∀ro cx,LY P ro cx cj sp){avs:List AV}{m:H2}{nx:Nat}{sv:List (List AV)}{D:TypeId}{N:List (Pl×Nat×TypeId×Nat)}{ET EF:St}{res:Bool×Int}{t:VM (Bool×Int)}
  (ht:Jh9 P G X PX L fn c avs m nx sv D N ET EF=t)(FK:t.sat λr=>r=res):wJ P f avs m nx sv D ET EF res:=by
 subst ht;refine Zl4 (FR hG hX hP GR PD hf hb hL) (h:=A1 P G X PX L fn c) (N:=N) rfl (VM.bind_sat (VM.sat_mono ?_ (VM.sat_bind FK)));rintro ⟨x,s⟩ h;cases x with
 |pan v=>exact h
 |x y=>
  cases y with
  |exit i=>exact h.elim
  |normal=>
   simp only at h ⊢;split at h;rename_i r Z;first|exact h|(rw [Z];exact h)|(simp only [Z];exact h)
   exact h.elim
  |ret=>
   simp only at h ⊢;split at h;rename_i r Z;first|exact h|(rw [Z];exact h)|(simp only [Z];exact h)
   exact h.elim
def Wn3(P:Program)(ev:Code->Nat->St->CT)(fn:Func)(c:Code):D2:=λavs m nx sv=>
 some ((ev c 0 {HQ fn avs with m:=m,nx:=nx,sv:=sv}).bind λp=>match p.1 with
  | .exit _=> .fail
  |_=>match BQ P p.2 fn.results.toList with
   |some r=> .leaf (r,p.2.m,p.2.nx,p.2.sv)
   |none=> .fail)
theorem pI{P:Program}{ev:Code->Nat->St->CT}{L:List UG}{f:FuncId}{fn:Func}{c:Code}(hev: ∀cx,tO P cx L ev)(PD:Enters P f)(hf:P.funcs[f]? =some fn)(hb:fn.body=some c)
  (hL: ∀j cj,VS c j=some cj-> ∀sp,L[j]? =some sp->G6 P cj sp):GB P f (Wn3 P ev fn c):=by
 refine ⟨PD,?_⟩;intro avs m nx sv t ht Q hQ cx w0 T e ds args w hE hB hm hl LQ hxt Z;unfold Wn3 at ht;cases ht
 let K':Nat->Obj->Prop:=λb o=>cx.K b o\/(∃d∈ds,d={target:= .collected b,args:=#[] }/\o= .deferred (some []))
 let cx':Cx:={M:=λ_=>False,Φ:=λg T' w'=>g=none/\T'=T/\w'=w0,K:=K',saved:=cx.saved,sz:=cx.sz}
 have FK:(ev c 0 {HQ fn avs with m:=m,nx:=nx,sv:=sv}).sat (λp=>(∀i,p.1≠ .exit i)/\p.2.gh=p.2.gh/\ ∃r,BQ P p.2 fn.results.toList=some r/\Q (r,p.2.m,p.2.nx,p.2.sv)):=by
  refine VM.sat_mono ?_ (VM.sat_bind hQ);rintro ⟨x,s⟩ hs;cases x with
  |exit i=>exact hs.elim
  |normal=>
   simp only at hs;split at hs;rename_i r Z;exact ⟨λi h=>(by cases h),rfl,r,Z,hs⟩
   exact hs.elim
  |ret=>
   simp only at hs;split at hs;rename_i r Z;exact ⟨λi h=>(by cases h),rfl,r,Z,hs⟩
   exact hs.elim
 have yI:Rel cx' {HQ fn avs with m:=m,nx:=nx,sv:=sv} {tmps:=args.toArray++Array.replicate (fn.ntmps-args.toArray.size) undef,defers:=[] } w:=by
  refine ⟨w0,T,e,⟨rfl,rfl,rfl⟩,hE,hB,hm,hl,LQ,⟨⟨(λd hd=>by cases hd),By⟩,?_,hxt.saved,hxt.size⟩,?_⟩
  rintro b o (hk|⟨d,hd,h1,rfl⟩);exact hxt.kept b o hk;obtain ⟨D,g1,g2,g3,g4,g5⟩:=hxt.defers.1 d hd;rw [h1] at g1;injection g1 with g1 _
  injection g1 with g1
  subst g1;exact ⟨g2,g3,g4⟩;have I1:U3 e w (List.replicate (fn.ntmps-avs.length) .top) (List.replicate (fn.ntmps-avs.length) undef):=by
   refine ⟨VT,λi a v ha _=>?_⟩;have:=F5 ha;rw [List.mem_replicate] at this;rw [this.2];exact .top v
  have:=Z.append I1;simpa [HQ,Z.1] using this
 refine callsIn_wide (n:=0).1 (callsIn_of_wp_marks (F:=fr none) hf hb trivial (wpIn_mono (hev cx' none 0 c 0 _ _ _ w (λj cj hj sp hsp=>hL j cj hj sp (by simpa using hsp) none cx') FK yI) ?_) rfl)
 rintro ex a' w' ⟨x,s',rfl,⟨hx,_,r,F3,hq⟩,w0',T',e',⟨_,rfl,rfl⟩,re⟩;have Qq4:a'.defers=[]:=by
  cases hd:a'.defers with
  |nil=>rfl
  |cons d l=>
   obtain ⟨D,_,_,_,_,g5⟩:=re.xt.defers.1 d (by rw [hd];exact GD)
   exact g5.elim
 obtain ⟨u,hu,GK⟩:=DM (P:=P) re.mem re.slots F3;have yK:LeavesInM (fr none) 0 P fn a'.tmps (λen w'=> ∃v r m' nx' sv' e',en= .returned v/\Q (r,m',nx',sv')/\UY e' w0'.heap.size w'/\Below w0'.heap.size w0' w'/\UV e' m' w'/\(∀k,e'.live k->k<nx')/\
   (∀b,T' b->b<w0'.heap.size/\ ¬e'.ro b)/\Xt cx e' sv' ds w'/\Rep e' w' r v) a'.defers .returning w':=by
  rw [Qq4];refine ⟨u,hu,u,r,s'.m,s'.nx,s'.sv,e',rfl,hq,re.env,re.below,re.mem,re.live,re.foe,⟨⟨λd hd=>?_,hxt.defers.2⟩,λb o hk=>re.xt.kept b o (.inl hk),re.xt.saved,re.xt.size⟩,GK⟩;obtain ⟨D,g1,g2,g3,g4,g5⟩:=hxt.defers.1 d hd;obtain ⟨k1,k2,k3⟩:=re.xt.kept D (.deferred (some [])) (.inr ⟨d,hd,g1,rfl⟩);exact ⟨D,g1,k1,k2,k3,g5⟩
 cases x with
 |normal=>exact yK
 |ret=>exact yK
 |exit i=>exact (hx i rfl).elim
def cOf(h:D2)(avs:List AV):VM AV:=match h avs [] 0 [] with
 |some t=>t.bind λx=> .leaf (DA x.2.1 40 x.1)
 |none=> .fail
theorem ST{P:Program}{f:FuncId}{h:D2}(hs:GB P f h){avs:List AV}{sp t:VM AV}(ht:cOf h avs=t)(yK: ∀Q:AV->Prop,sp.sat Q->t.sat (λr=> ∃r',dT r r'/\Q r')):UN P f avs sp:=by
 intro Q hQ e w args hro hgl FP Z
 let T:Nat->Prop:=λb=>b<w.heap.size/\ ¬e.ro b
 let e0:UL:={ro:=e.ro,own:=λ_=>none,live:=λ_=>False,blk:=λ_=>0,val:=λ_=> .nilIface}
 have hr0:U3 e0 w avs args:=⟨Z.1,λi a v ha hv=>Rep.idf (e:=e) (e':=e0) (λ_ h=>h) (Z.2 i a v ha hv) (FP a (F5 ha))⟩;have FK:=yK Q hQ;subst ht;unfold cOf at FK;split at FK;rename_i t0 hh;refine (hs.2 avs [] 0 [] t0 hh _ (VM.sat_bind FK) (lN w T) w T e0 [] args w ⟨λb hb=>⟨rfl,hro b hb⟩,(λb k hk=>by cases hk),hgl⟩ (Below.refl _ _) (λp A=>by cases A) (λk hk=>False.elim hk) (λb h=>h) ⟨⟨(λd hd=>by cases hd),By⟩,(λb o h=>h.elim),⟨rfl,(λi a v h=>by cases h)⟩,Ao _⟩ hr0).mono ?_
 rintro en w' ⟨v,r,m',nx',sv',e',rfl,⟨r',kF,hq⟩,g1,g2,g3,g4,g5,g6,g7⟩;refine ⟨v,r',rfl,hq,g2,?_⟩;refine eY kF (Rep.idf (e:=e'.view) ?_ (LA g1 g3 40 r v g7) (RK g3 40 r v g7));rintro b (hb|⟨k,hb⟩);rcases An b w.heap.size with h1|h1;refine .inl ?_;rcases Classical.em (e.ro b) with h2|h2;exact h2;exact ((g5 b ⟨h1,h2⟩).2 hb).elim;exact .inr ⟨h1,(g1.apart b hb).2⟩;exact .inr ⟨(g1.owned b k hb).1,(g1.owned b k hb).2⟩;exact FK.elim
abbrev upE(l:List (Nat×AV))(m:H2)(E:St):St:={σ:=GY l E.σ,m:=m,nx:=E.nx}
abbrev upM(l:List (Nat×AV))(E:St):St:={σ:=GY l E.σ,m:=E.m,nx:=E.nx}
section
variable {P:Program}{f:FuncId}{fn:Func}
theorem UJ(h:P.funcs[f]? =some fn)(h1:(fn.name== "runtime.NumGoroutine")=false:=by kernel_rfl)(h2:fn.body.isNone=false:=by kernel_rfl):Enters P f:=⟨fn,h,h1,h2⟩
abbrev UX:=Spec
theorem GW{avs:List AV}{res:AV}{t:VM RV}(hf:P.funcs[f]? =some fn)(ht:pZ P fn.results.toList (lT P [] [] (U7 fn) 0 (HQ fn avs))=t)(h:t.sat (λr=>G0 r res))(hb:fn.body=some (U7 fn):=by kernel_rfl)(GR:P.follows .mixedOrders=true:=by kernel_rfl):VX P f avs res:=U1 (VK.nil _) GR hf hb U2 ht h
end
abbrev GV{α:Type}(n:Nat)(f g:Nat->α):Prop:= ∀i,i<n->f i=g i
abbrev GQ{α:Type}(n:Nat)(f:Nat->α):Prop:= ∀i,i<n->f i=f i
def bS(n:Nat):List Int:=List.replicate n 0
abbrev RP(n:Nat)(f:Ci):Prop:= ∀i,i<n-> ∀a,a∈f i->AV.one a=true
@[simp] abbrev UI (a b:Int):Prop:=0<=a/\a<b
theorem UU(f:Func)(h:f.body=some (U7 f):=by kernel_rfl):f.body=some (U7 f):=h
theorem D9{α:Type}{T t:VM α}{Q:α->Prop}(e:T=t)(h:t.sat Q):T.sat Q:=e▸h
section
variable {p:Prop}
theorem yM(h:p:=by
 with_reducible repeat' first|apply Al|intro _
 all_goals first|exact Ak|exact h0|exact VR|omega|exact hQ1 _ (by assumption) (N3 VJ (by simp_all))|(rename_i k hk;rcases (show k=0\/k=1\/k=2 by omega) with rfl|rfl|rfl<;>rfl)|rfl|with_reducible rfl|exact hQ2 _ (by assumption) (PL VJ)|(rename_i h;exact absurd h (Aq _))|exact hQ1 _ (by assumption)|(exfalso;omega)|exact gP (by simp_all) _ (by assumption)|exact B0 (gP (by simp_all) _ (by assumption))|contradiction|assumption|exact hQ2 _ (by assumption)|(simp;done)|decide|exact B0 (gP (decide_eq_true VJ) _ (by assumption))):p:=h
theorem PO(h:p:=by first|exact Ak|omega|with_reducible rfl|(rename_i E hE;cases hE;exact hQ)|rfl):p:=h
theorem V1(h:p:=by
 simp only [VM.sat,UB,G0,GL,UD,UH,F4];all_goals exact yM):p:=h
theorem V3(h:p:=by
 rw [if_pos hc];obtain ⟨rfl,rfl⟩:=hc;by_cases h1:x=o;subst h1;by_cases h2:y=x;subst h2;refine ⟨VJ,VJ,λ_=>VJ,λ_=>VJ,λ_ _=>VJ,λ_=>VJ⟩;refine ⟨VJ,VJ,λ_=>by have:=hoo.2.2.2.2.1 rfl rfl;omega,λh=>absurd h h2,λ_ h=>absurd h h2,λ_=>VJ⟩
 by_cases h2:y=o;subst h2;refine ⟨VJ,VJ,λh=>absurd h h1,λ_=>by have:=hoo.2.2.2.2.1 rfl rfl;omega,λh=>absurd h h1,λ_=>VJ⟩
 have q1:=hfo.2.2.2.1 rfl;have q2:=hot.2.2.1 rfl;refine ⟨VJ,VJ,λh=>absurd h h1,λh=>absurd h h2,λh=>absurd h h1,λ_=>VJ⟩):p:=h
theorem V7(h:p:=by exact yM):p:=h
theorem VB(h:p:=by
 exact .lst _ _ _ λj hj x hx=>by
  simp only [GM,DL,or_false] at hx;rcases hx with rfl|rfl<;>exact .x _):p:=h
theorem VC(h:p:=by
 simp only [VM.sat,UB,G0,UD,UH,HA];simp+contextual):p:=h
theorem VD(h:p:=by
 simp only [VM.sat,UB,G0,GL,UD,VL,UH];omega):p:=h
theorem VF(h:p:=by
 (with_reducible repeat' first|apply Al|intro _)
 all_goals first|exact PO|(rename_i j hj;rcases (show j<k\/j=k by omega) with h3|h3;exact hx.2 j h3;subst h3;omega)):p:=h
theorem VH(h:p:=by
 (with_reducible repeat' first|apply Al|intro _)
 all_goals first|exact PO|(rename_i hs;exact hs.elim (λh=>sn1 _ h) (λh=>h▸sn2))):p:=h
theorem VI(h:p:=by
 exact .lst _ _ _ λk _ x hx=>by
  simp only [GM,DL,or_false] at hx;rcases hx with rfl|rfl|rfl|rfl|rfl<;>exact .x _):p:=h
end
end Go.Sx
namespace Go.Proofs.YtakpdkmhclhlnaaGreatDoor
noncomputable abbrev VO:Go.Program:=Tryz.prog
abbrev Ad:=Go.Sx.VW.of (Go.Sx.VQ.nil VO) (Go.Sx.VN.nil VO)
abbrev Aa:=Go.Sx.VK.nil VO
abbrev Ab:=Go.Sx.VQ.nil VO
abbrev Ac:=Go.Sx.VN.nil VO
abbrev Ae:=@Go.Sx.VK.cons
abbrev Af:=@Go.Sx.VQ.cons
abbrev Ag:=@Go.Sx.VN.cons
abbrev Ah:=@Go.Sx.U8.cons
abbrev Ai:=@Go.Sx.VW.of
abbrev Aj:=@Go.Sx.VW.ofC
end Go.Proofs.YtakpdkmhclhlnaaGreatDoor
namespace Go.Proofs.YtakpdkmhclhlnaaGreatDoor.Pt
open Go Go.Sx Go.RowKit
open Go.Sx.VM (need branch leaf)
open Go.Sx.AV (lst ptr agg roI tup top)
theorem VZ:Tryz.prog.follows .mixedOrders=true:=VU
abbrev i(n:Int):AV:= .x (.int .i64 n)
abbrev iI(n:Int):AV:= .x (.int .i64 n)
abbrev bl(b:Bool):AV:= .x (.bool b)
def bt(U n O:Int):Bool:=decide (U<=n)&&decide (n<=O)
def insB(U a b O:Int):Bool:=decide (U<=a)&&decide (a<=b)&&decide (b<=O)
theorem insB_iff(U a b O:Int):insB U a b O=true↔U<=a/\a<=b/\b<=O:=by simp [insB,and_assoc]
def scB(a b:Int):Bool:=bt (-1000) a 1000&&bt (-1000) b 1000&&(a != b)
def BF:UX
 |[.x (.int .i64 n),.x (.int .i64 U),.x (.int .i64 O)]=>some ([],bl (bt U n O))
 |_=>none
theorem wT(n U O:Int):VX VO 190 [i n,i U,i O] (bl (bt U n O)):=by
 refine GW Tryz.func190 (t:=branch (decide (U<=n)) (leaf (RV.x (.bool (decide (n<=O))))) (leaf (RV.x (.bool false)))) VU ?_;simp only [VM.sat,UB,G0,GL,UD,UH];all_goals (simp+contextual [bt,insB,scB,Bool.and_assoc]);all_goals omega
theorem RJ:VP VO 190 BF:=by
 refine ⟨(UJ Tryz.func190),?_⟩;intro avs ns Z h I;unfold BF at h;split at h;cases h;exact wT _ _ _;cases h
def BG:UX
 |[.agg [.x (.int .i64 a),.x (.int .i64 b)],.x (.int .i64 U),.x (.int .i64 O)]=>some ([],bl (insB U a b O))
 |_=>none
theorem xF(a b U O:Int):VX VO 153 [.agg [i a,i b],i U,i O] (bl (insB U a b O)):=by
 refine GW Tryz.func153 (t:=branch (decide (U<=a)) (branch (decide (a<=b)) (leaf (RV.x (.bool (decide (b<=O))))) (leaf (RV.x (.bool false)))) (leaf (RV.x (.bool false)))) VU ?_;simp only [VM.sat,UB,G0,GL,UD,UH];all_goals (simp+contextual [bt,insB,scB,Bool.and_assoc]);all_goals omega
theorem PU:VP VO 153 BG:=by
 refine ⟨(UJ Tryz.func153),?_⟩;intro avs ns Z h I;unfold BG at h;split at h;cases h;exact xF _ _ _ _;cases h
theorem mul_bd{x y X Y:Int}(hx: -X<=x/\x<=X)(hy: -Y<=y/\y<=Y): -(X*Y)<=x*y/\x*y<=X*Y:=by
 have h1:x.natAbs<=X.natAbs:=VJ;have h2:y.natAbs<=Y.natAbs:=VJ;have h3:(x*y).natAbs<=(X*Y).natAbs:=by rw [Int.natAbs_mul,Int.natAbs_mul];exact Nat.mul_le_mul h1 h2
 have h4:0<=X*Y:=Bz VJ VJ;omega
abbrev scs(n:Nat)(a b:Cg):AV:= .lst 2 n (λk=>[i (a k),i (b k)])
theorem isRec2(n:Nat)(a b:Cg):UF 2 n (λk=>[i (a k),i (b k)]):=λ_ _=>rfl
def col(j:Nat)(f:Ci):Cg:=λk=>Wn2 (f k) j
def AY(p q:Cg)(k:Nat):Bool:=bt 1 (p k) 2000&&(bt 1 (q k) 2000&&(decide (k=0)||(decide (p (k-1)<p k)&&decide (q (k-1)<q k))))
section
variable (n:Nat)
def z6(p q:Cg):Bool:=D3 (AY p q) n
abbrev QS(p:Cg)(q:Cg):AV:=lst 2 n λk=>[iI (p k),iI (q k)]
def Xd0(p q:Cg):St:={σ:=[QS n p q]++HI 10 [QS n p q,iI (n:Int)]++HI 42 [],m:=[],nx:=10}
noncomputable def Ju1:Code:=U9 (VS (U7 Tryz.f152) 0)
def Wj3(p q:Cg)(k:Nat):St:=(upM [(13,i k)] (Xd0 n p q))
def vH(p q:Cg)(k:Nat):G5->Option St
 | .exit 0=>some (upM [] (Xd0 n p q))
 | .ret=>some (upM [(2,i 1)] (Xd0 n p q))
 |_=>none
def Jo9(p q:Cg):CT:= .branch (z6 n p q) (.leaf (.exit 0,(vH n p q 0 (.exit 0)).getD (Xd0 n p q))) (.leaf (.ret,(vH n p q 0 .ret).getD (Xd0 n p q)))
def Xy1(p q:Cg):UG:=(HF (Wj3 n p q (0)) (Jo9 n p q))
abbrev JS(p:Cg)(q:Cg):Prop:=(QS n p q)=QS n p q
theorem Jb4(p q:Cg)(VR:n<=100000):G6 VO (.loop Ju1) (Xy1 n p q):=by
 refine HH (L:=[]) (Ae RJ Aa) VZ U2 (X:=Nat) (Wj3 n p q) (λk=>k<=n/\ ∀j,j<k->AY p q j=true) (λk=>n-k) (vH n p q) (x0:=0) ⟨VJ,λj hj=>VJ⟩ ?_ ?_ ?_;rintro k;kernel_rfl;rintro k y E h;unfold vH at h;split at h;cases h;kernel_rfl;cases h;kernel_rfl;cases h
 ·rintro Q hQ k hx;refine ⟨(k+1),?_⟩;(with_reducible refine D9 (t:=let A:=(need [JS n p q,VY (1:Int),JS n p q,VY (n:Int)] (leaf G5.ret));let W:=(need [VL ((k:Int)+1)] (need [JS n p q,JS n p q,VY (n:Int),(k:Int)+1=(↑(k+1):Int)] (leaf G5.normal)));(branch (decide ((k:Int)<(n:Int))) (need [UI k n] (branch (!bt (1:Int) (p k) (2000:Int)) A (branch (!bt (1:Int) (q k) (2000:Int)) A (branch (decide ((k:Int)>0)) (need [VL ((k:Int)-1)] (need [UI ((k:Int)-1) n] (branch (decide (p k<=p ((k:Int)-1).toNat)) A (need [VL ((k:Int)-1)] (need [UI ((k:Int)-1) n] (branch (decide (q k<=q ((k:Int)-1).toNat)) A W)))))) W)))) (need [JS n p q,JS n p q,VY (n:Int)] (leaf (G5.exit 0))))) VU ?_);simp only [Jo9,vH,VM.sat,GS] at hQ;have N3:k<n->AY p q k=false->z6 n p q=false:=by
   intro h1 h2;rw [←Bool.not_eq_true];intro h3;have:=GC.1 h3 k h1;rw [h2] at this;cases this
  have gP:AY p q k=true-> ∀j,j<k+1->AY p q j=true:=by
   intro h1 j hj;rcases (show j<k\/j=k by omega) with h|rfl
   exact hx.2 j h;exact h1
  have PL: ¬k<n->z6 n p q=true:=λh=>GC.2 (λj hj=>hx.2 j VJ);have hQ1: ∀E,vH n p q k .ret=some E->z6 n p q=false->Q (.ret,E):=by
   intro E hE hf;cases hE;exact hQ.2 hf
  have hQ2: ∀E,vH n p q k (.exit 0)=some E->z6 n p q=true->Q (.exit 0,E):=by
   intro E hE hf;cases hE;exact hQ.1 hf
  have t1:((k:Int)-1).toNat=k-1:=VJ;have hsb:AY p q k=(bt 1 (p k) 2000&&(bt 1 (q k) 2000&&(decide (k=0)||(decide (p (k-1)<p k)&&decide (q (k-1)<q k))))):=rfl
  simp only [VM.sat,UB,UH,HA,VL,F4,t1]
  with_reducible repeat' first|apply Al|intro _
  all_goals first|exact Ak|omega|exact hQ1 _ (by assumption) (N3 VJ (by rw [hsb];grind))|exact hQ2 _ (by assumption) (PL VJ)|exact gP (by rw [hsb];grind) _ (by assumption)
def tbE(p q:Cg):Int:=if 8<n then 3 else if n<2 then 1 else if z6 n p q then 0 else 1
end
def Qh0:UX
 |[.lst 2 n f]=>some ([UF 2 n f,n<=100000],i (tbE n (col 0 f) (col 1 f)))
 |_=>none
abbrev KB:Value:=Value.int IntKind.i64 (0:Int)
theorem Wa8(n:Nat)(p q:Cg)(VR:n<=100000):VX VO 152 [scs n p q] (i (tbE n p q)):=by
 refine U1 (L:=[Xy1 n p q]) (Ae RJ Aa) VZ Tryz.func152 (UU Tryz.f152) (G7 (lpE (b:= .loop Ju1) VU<|Jb4 n p q VR)) (t:=let A:=(leaf (RV.x (.int .i64 (1:Int))));(branch (decide ((n:Int)>8)) (leaf (RV.x (.int .i64 (3:Int)))) (branch (decide ((n:Int)<2)) A (need [JS n p q,JS n p q,VY (n:Int),(0:Int)=((0:Nat):Int)] (branch (z6 n p q) (leaf (RV.x (KB))) A))))) VU ?_
 simp only [VM.sat,UB,G0,UD,UH,HA,tbE,Int.natCast_zero];refine ⟨λh=>?_,λh=>⟨λh2=>?_,λh2=>⟨λh3=>?_,λh3=>?_⟩⟩⟩;simp [show 8<n by omega]
 simp [show ¬8<n by omega,show n<2 by omega]
 simp [show ¬8<n by omega,show ¬n<2 by omega,h3]
 simp [show ¬8<n by omega,show ¬n<2 by omega,h3]
theorem Wa7:VP VO 152 Qh0:=by
 refine ⟨(UJ Tryz.func152),?_⟩;intro avs ns Z h I;unfold Qh0 at h;split at h;rename_i n f;cases h;have hr:UF 2 n f:=I _ VT;exact (Wa8 n (col 0 f) (col 1 f) (I _ VT)).same (.cons (.lst 2 n _ _ hr) .nil);cases h
def RO(n:Nat)(p:Cg)(x:Int):Nat:=GX (λk=>decide (x<=p (k+1))) (n-1)
def fF(p q:Cg)(x:Int)(k:Nat):Int:=q k+((q (k+1)-q k)*(x-p k)).tdiv (p (k+1)-p k)
def boilI(n:Nat)(p q:Cg)(x:Int):Int:=fF p q x (RO n p x)
theorem LR{n:Nat}{p q:Cg}(h:z6 n p q=true){k:Nat}(hk:k<n):1<=p k/\p k<=2000/\1<=q k/\q k<=2000/\(k=0\/p (k-1)<p k/\q (k-1)<q k):=by
 have:=GC.1 h k hk;simp only [AY,bt,GU,Bl,qQ] at this;omega
theorem AX{n:Nat}{p q:Cg}(h:z6 n p q=true){j k:Nat}(hjk:j<=k)(hk:k<n):p j<=p k/\q j<=q k:=by
 induction k with
 |zero=>
      have:j=0:=VJ;subst this;exact ⟨Int.le_refl _,Int.le_refl _⟩
 |succ k ih=>
  rcases (show j<=k\/j=k+1 by omega) with h1|rfl
  have:=ih h1 VJ;have h2:=LR h hk;simp only [Bi] at h2;omega;exact ⟨Int.le_refl _,Int.le_refl _⟩
theorem Zg8{n:Nat}{p:Cg}{x:Int}(I:2<=n)(hx:x<=p (n-1)):RO n p x<n-1:=by
 obtain ⟨h1,h2,h3⟩:=F6 (λk=>decide (x<=p (k+1))) (n-1);unfold RO;rcases An (GX (λk=>decide (x<=p (k+1))) (n-1)) (n-1) with h|h
 exact h;have:=h2 (n-2) VJ;rw [show n-2+1=n-1 by omega] at this
 simp at this;omega
theorem catF1{k j:Nat}{a:Cg}{x:Int}(h:j<k+1)(hx:x=a k):GI k (λk=>[i (a k)]) (U4 1 [i x]) j=[i (a j)]:=by
 have e:j-k=0:=VJ;show H6 (decide (j<k)) [i (a j)] (U4 1 [i x] (j-k))=_;rw [e];by_cases hj:j<k;rw [show decide (j<k)=true by simp [hj]]
 rfl;have hk:j=k:=VJ;rw [show decide (j<k)=false by simp [hj],hk,hx]
 rfl
theorem Jn4(a b:Cg):col 0 (λk=>[i (a k),i (b k)])=a:=rfl
theorem Jn3(a b:Cg):col 1 (λk=>[i (a k),i (b k)])=b:=rfl
theorem C5{n:Nat}{p q:Cg}{x:Int}(I:2<=n)(ht:z6 n p q=true)(hx:p 0<=x/\x<=p (n-1)):RO n p x<n-1/\p (RO n p x)<=x/\x<=p (RO n p x+1):=by
 have h1:=Zg8 I hx.2;obtain ⟨f1,f2,f3⟩:=F6 (λk=>decide (x<=p (k+1))) (n-1);have h3:=f3 h1;refine ⟨h1,?_,B0 h3⟩;rcases Nat.eq_zero_or_pos (RO n p x) with h|h;rw [h];exact hx.1;have:=f2 (RO n p x-1) (by unfold RO at h ⊢;omega)
 rw [show RO n p x-1+1=RO n p x by omega] at this
 simp at this;omega
theorem fE{p q:Cg}{x:Int}{k:Nat}(hp:p k<p (k+1))(hq:q k<q (k+1))(h1:p k<=x)(h2:x<=p (k+1)):fF p q x k=q k+(q (k+1)-q k)*(x-p k) / (p (k+1)-p k)/\q k<=fF p q x k/\fF p q x k<=q (k+1):=by
 have m0:0<=(q (k+1)-q k)*(x-p k):=Bz VJ VJ;have e:fF p q x k=q k+(q (k+1)-q k)*(x-p k) / (p (k+1)-p k):=by
  unfold fF;rw [Int.tdiv_eq_ediv_of_nonneg m0]
 have m1:(q (k+1)-q k)*(x-p k)<=(q (k+1)-q k)*(p (k+1)-p k):=Int.mul_le_mul_of_nonneg_left VJ VJ;have d0:0<=(q (k+1)-q k)*(x-p k) / (p (k+1)-p k):=Int.ediv_nonneg m0 VJ;have d1:(q (k+1)-q k)*(x-p k) / (p (k+1)-p k)<=q (k+1)-q k:=Int.ediv_le_of_le_mul VJ m1;rw [e];omega
theorem Wb8{n:Nat}{p:Cg}{x y:Int}(h:x<=y):RO n p x<=RO n p y:=by
 obtain ⟨f1,f2,f3⟩:=F6 (λk=>decide (x<=p (k+1))) (n-1);obtain ⟨g1,g2,g3⟩:=F6 (λk=>decide (y<=p (k+1))) (n-1);unfold RO;rcases An (GX (λk=>decide (y<=p (k+1))) (n-1)) (GX (λk=>decide (x<=p (k+1))) (n-1)) with hl|hl
 have a1:=f2 _ hl;have a2:=g3 VJ;simp at a1 a2;omega;exact hl
theorem boil_spec{n:Nat}{p q:Cg}{x:Int}(I:2<=n)(ht:z6 n p q=true)(hx:p 0<=x/\x<=p (n-1)):q 0<=boilI n p q x/\boilI n p q x<=q (n-1)/\1<=boilI n p q x/\boilI n p q x<=2000:=by
 obtain ⟨h1,h2,h3⟩:=C5 I ht hx;have s:=LR ht (show RO n p x+1<n by omega)
 simp only [Bi] at s;have b:=fE (p:=p) (q:=q) (x:=x) (k:=RO n p x) VJ VJ h2 h3;have m1:=AX ht (show 0<=RO n p x by omega) (show RO n p x<n by omega)
 have m2:=AX ht (show RO n p x+1<=n-1 by omega) (show n-1<n by omega)
 have z:=LR ht (show 0<n by omega)
 have z2:=LR ht (show n-1<n by omega)
 unfold boilI;omega
theorem boil_mono{n:Nat}{p q:Cg}{x y:Int}(I:2<=n)(ht:z6 n p q=true)(hx:p 0<=x)(hxy:x<=y)(hy:y<=p (n-1)):boilI n p q x<=boilI n p q y:=by
 obtain ⟨h1,h2,h3⟩:=C5 I ht (x:=x) VJ;obtain ⟨g1,g2,g3⟩:=C5 I ht (x:=y) VJ;have s:=LR ht (show RO n p x+1<n by omega)
 have s':=LR ht (show RO n p y+1<n by omega)
 simp only [Bi] at s s';have b:=fE (p:=p) (q:=q) (x:=x) (k:=RO n p x) VJ VJ h2 h3;have b':=fE (p:=p) (q:=q) (x:=y) (k:=RO n p y) VJ VJ g2 g3;have hm:=Wb8 (n:=n) (p:=p) hxy;unfold boilI;rcases An (RO n p x) (RO n p y) with hl|hl;have m:=AX ht (show RO n p x+1<=RO n p y by omega) (show RO n p y<n by omega)
 omega;have e:RO n p x=RO n p y:=VJ;rw [b.1,b'.1,e];rw [e] at s;have:=Int.ediv_le_ediv (show 0<p (RO n p y+1)-p (RO n p y) by omega) (Int.mul_le_mul_of_nonneg_left (show x-p (RO n p y)<=y-p (RO n p y) by omega) (show 0<=q (RO n p y+1)-q (RO n p y) by omega))
 omega
def bD:UX
 |[.lst 2 n f]=>some ([],.fn (.func 225) [] [.ro [.lst 2 n f]])
 |_=>none
theorem Wb3(n:Nat)(f:Ci):FQ VO 191 [.lst 2 n f] (.fn (.func 225) [] [.ro [.lst 2 n f]]):=by
 refine D5 (L:=[]) Aa Ad VZ Tryz.func191 (UU Tryz.f191) G8 (t:=leaf (AV.fn (Fn.func 225) [] [AV.ro [lst 2 n λa=>f a]])) VU ?_;exact rfl
theorem NJ:PI VO 191 bD:=by
 refine ⟨(UJ Tryz.func191),?_⟩;intro avs ns Z h I;unfold bD at h;split at h;cases h;exact Wb3 _ _;cases h
def stV(p q:Cg)(k:Nat):Value:= .agg #[.int .i64 (p k),.int .i64 (q k)]
def spV(p q:Cg)(k:Nat):List Value:=[stV p q k,stV p q (k+1)]
section
variable (l:Nat)
abbrev KY:AV:=AV.fn (Fn.yield l) [] []
def Xd1(n:Nat)(p q:Cg):St:={σ:=[KY l,AV.ro [QS n p q],top,top,top,top,lst 2 (n-(1:Int).toNat) λi=>[iI (p ((1:Int).toNat+i)),iI (q ((1:Int).toNat+i))],iI (↑(n-(1:Int).toNat):Int)]++HI 14 [],m:=[],nx:=4,gh:=some 0}
noncomputable def Zw8:Code:=U9 (VS (U7 Tryz.f225) 0)
def aA(n:Nat)(p q:Cg)(k:Nat):St:={σ:=GY [(8,i k)] (Xd1 l n p q).σ,m:=[],nx:=0,gh:=some (k) }
def jS(n:Nat)(p q:Cg)(k:Nat):G5->Option St
 | .exit 0=>some {σ:=GY [] (Xd1 l n p q).σ,m:=[],nx:=0,gh:=some (n-1) }
 | .ret=>some {σ:=GY [] (Xd1 l n p q).σ,m:=[],nx:=0,gh:=none}
 |_=>none
def Jp1(n:Nat)(p q:Cg):CT:= .may True (.leaf (.exit 0,(jS l n p q 0 (.exit 0)).getD (Xd1 l n p q))) (.leaf (.ret,(jS l n p q 0 .ret).getD (Xd1 l n p q)))
def Xy3(n:Nat)(p q:Cg):UG:=GJ [] (HF (aA l n p q (0)) (Jp1 l n p q))
theorem Jb8(n:Nat)(p q:Cg)(VR:1<=n/\n<=100000){cx:Cx}(hX:VW VO {Y:=some (l,(n-1),(spV p q)) } cx):HN VO none cx (.loop Zw8) (Xy3 l n p q):=by
 refine FM [] (L:=[]) Aa hX VZ G8 (V:=Nat) (aA l n p q) (λk=>k<=n-1) (λk=>n-k) (jS l n p q) (x0:=0) VT ?_ ?_ ?_;rintro k;kernel_rfl;rintro k y E h;unfold jS at h;split at h;cases h;kernel_rfl;cases h;kernel_rfl;cases h
 ·rintro Q hQ k hx;refine ⟨(k+1),?_⟩;have e:HY VO [] {Y:=some (l,(n-1),(spV p q)) } [] [] Zw8 (aA l n p q k) (aA l n p q ((k+1))) (jS l n p q k)=(let A:=(VY (lst 2 (n-(1:Int).toNat) λi=>[iI (p ((1:Int).toNat+i)),iI (q ((1:Int).toNat+i))]));let W:=(VY (↑(n-(1:Int).toNat):Int));(branch (decide ((k:Int)<(↑(n-(1:Int).toNat):Int))) (need [UI k (↑(n-(1:Int).toNat):Int)] (need [UI k n] (need [l=l,k<n-1,[Value.agg {toList:=[Value.int IntKind.i64 (p k),Value.int IntKind.i64 (q k)] },Value.agg {toList:=[Value.int IntKind.i64 (p ((1:Int).toNat+k)),Value.int IntKind.i64 (q ((1:Int).toNat+k))] }]=[Value.agg {toList:=[Value.int IntKind.i64 (p k),Value.int IntKind.i64 (q k)] },Value.agg {toList:=[Value.int IntKind.i64 (p (k+1)),Value.int IntKind.i64 (q (k+1))] }]] (VM.may True (need [VL ((k:Int)+1)] (need [KY l=KY l,VY (AV.ro [QS n p q]),A,W,(k:Int)+1=(↑(k+1):Int),k+1=k+1] (leaf G5.normal))) (need [KY l=KY l,VY (AV.ro [QS n p q]),A,W] (leaf G5.ret)))))) (need [KY l=KY l,VY (AV.ro [QS n p q]),A,W,k=n-1] (leaf (G5.exit 0))))):=VU;rw [e];simp only [Jp1,jS,VM.sat,GS] at hQ;have hQ1: ∀E,jS l n p q k (.exit 0)=some E->Q (.exit 0,E):=λE hE=>by cases hE;exact hQ.1 trivial
  have hQ2: ∀E,jS l n p q k .ret=some E->Q (.ret,E):=λE hE=>by cases hE;exact hQ.2
  have t1:(1:Int).toNat=1:=rfl;have t2:1+k=k+1:=VJ;simp only [VM.sat,UB,UH,HA,VL,F4,t1,t2];clear e hQ;all_goals exact V7
end
section
variable (n:Nat)
theorem nP(p q:Cg)(VR:1<=n/\n<=100000):BE Tryz.prog 225 [.ro [scs n p q]] ((n-1)) (spV p q):=by
 refine BN (L:=λl=>[Xy3 l n p q]) Aa VZ (UJ Tryz.func225) Tryz.func225 (UU Tryz.f225) VU (λl cx hX=>G7 (lpE (b:= .loop Zw8) VU<|Jb8 l n p q VR hX)) (t:=λl=>(need [(0:Int)<=1/\(1:Int)<=(n:Int)/\(n:Int)<=(n:Int)] (need [VY (AV.fn (Fn.yield l) [] []),VY (AV.ro [QS n p q]),VY (lst 2 (n-(1:Int).toNat) λi=>[iI (p ((1:Int).toNat+i)),iI (q ((1:Int).toNat+i))]),VY (↑(n-(1:Int).toNat):Int),(0:Int)=((0:Nat):Int),0=0] (VM.may True (need [n-1=n-1] (leaf PUnit.unit)) (leaf PUnit.unit))))) (λl=>VU) ?_
 intro l;simp only [VM.sat,UB,G0,GL,UD,VL,UH,HA,FU];all_goals exact V7
abbrev K5(p:Cg)(q:Cg):AV:=AV.fn (Fn.func 225) [] [AV.ro [QS n p q]]
def tQ(p q:Cg)(y:Int):St:={σ:=[QS n p q,iI y,top,ptr 0 0,ptr 1 0,top,top,top,K5 n p q]++HI 25 [],m:=[(1,GO.cells 3 [iI 0]),(0,GO.cells 3 [iI y])],nx:=4}
def rfF:Option Code->Operand
 |some (.rangeFunc f _ _ _)=>f
 |_=> .const .nilFunc
def jP:Option Code->Array Nat
 |some (.rangeFunc _ ps _ _)=>ps
 |_=>#[]
def T4:Option Code->Code
 |some (.rangeFunc _ _ a _)=>a
 |_=> .skip
def T3:Option Code->Code
 |some (.rangeFunc _ _ _ b)=>b
 |_=> .skip
noncomputable def Zx6:Code:=T4 (VS (U7 Tryz.f154) 0)
noncomputable def Qv4:Code:=T3 (VS (U7 Tryz.f154) 0)
def vP(p q:Cg)(y:Int)(k:Nat):St:=(upM [] (tQ n p q y))
def PR(p q:Cg)(y:Int)(k:Nat):G5->Option St
 | .ret=>some (upE [] [(1,.cells 3 [i (boilI n p q y)])] (tQ n p q y))
 |_=>none
def Wy2(p q:Cg)(y:Int):CT:= .leaf (.ret,(PR n p q y 0 .ret).getD (tQ n p q y))
def nB(p q:Cg)(y:Int):UG:=GJ [] (HF (vP n p q y (0)) (Wy2 n p q y))
abbrev YX:Ext:={R:=[(191,bD)],H:=[] }
theorem Jn9(p q:Cg)(y:Int)(VR:2<=n/\n<=100000)(UE:z6 n p q=true)(HK: -100000<=y/\y<=p (n-1)):HT VO (.rangeFunc (rfF (VS (U7 Tryz.f154) 0)) (jP (VS (U7 Tryz.f154) 0)) Zx6 Qv4) (nB n p q y):=by
 refine PA [] (L:=[]) Aa (Ai (Af NJ Ab) Ac) VZ U2 (V:=Nat) (vP n p q y) (λk=>k<=n-1/\ ∀j,j<k->decide (y<=p (j+1))=false) (λk=>k) (PR n p q y) (x0:=0) ⟨VJ,λj hj=>VJ⟩ rfl ?_ ?_ ?_ ?_ (g:=225) (caps:=[.ro [scs n p q]]) VU VU (nP n p q VJ) (λ_=>rfl) ?_;rintro k;kernel_rfl;rintro k y E h;unfold PR at h;split at h;cases h;kernel_rfl;cases h;rintro k;rfl;rintro k y E h;unfold PR at h;split at h;cases h;rfl;cases h;rintro Q hQ k hx;refine ⟨λhlt=>⟨(k+1),rfl,?_⟩,λPL=>?_⟩;have e:C8 VO [] YX [] [] (jP (VS (U7 Tryz.f154) 0)).toList ((spV p q) (k)) Zx6 Qv4 (vP n p q y k) (vP n p q y ((k+1))) (PR n p q y k)=(branch (decide (y<=p (k+1))) (need [VL (q (k+1)-q k)] (need [VL (y-p k)] (need [VL ((q (k+1)-q k)*(y-p k))] (need [VL (p (k+1)-p k)] (need [p (k+1)-p k≠0,VL (Int.tdiv ((q (k+1)-q k)*(y-p k)) (p (k+1)-p k))] (need [VL (q k+Int.tdiv ((q (k+1)-q k)*(y-p k)) (p (k+1)-p k))] (need [JS n p q,y=y,VY (ptr 0 0),VY (ptr 1 0),VY (K5 n p q),q k+Int.tdiv ((q (k+1)-q k)*(y-p k)) (p (k+1)-p k)=boilI n p q y] (leaf G5.ret)))))))) (need [JS n p q,y=y,VY (ptr 0 0),VY (ptr 1 0),VY (K5 n p q),VY (0:Int),y=y] (leaf G5.normal))):=VU;rw [e];simp only [Wy2,PR,VM.sat,GS] at hQ;have hQ2: ∀E,PR n p q y k .ret=some E->Q (.ret,E):=λE hE=>by cases hE;exact hQ
 simp only [VM.sat,UB,UH,HA,VL];clear e hQ;have sl:=LR UE (show n-1<n by omega)
 have s0:=LR UE (show k<n by omega)
 have s1:=LR UE (show k+1<n by omega)
 simp only [Bi] at s1;have m:=mul_bd (x:=q (k+1)-q k) (y:=y-p k) (X:=2000) (Y:=200000) VJ VJ;have dv:(((q (k+1)-q k)*(y-p k)).tdiv (p (k+1)-p k)).natAbs<=((q (k+1)-q k)*(y-p k)).natAbs:=by
  rw [Int.natAbs_tdiv];exact Nat.div_le_self _ _
 refine ⟨λh=>?_,λh=>?_⟩
 ·have hf:RO n p y=k:=zQ hlt (by simpa using h) hx.2
  have hbo:boilI n p q y=q k+((q (k+1)-q k)*(y-p k)).tdiv (p (k+1)-p k):=by unfold boilI;rw [hf];rfl
  rw [hbo];all_goals exact V7
 refine ⟨VJ,λj hj=>?_⟩;rcases (show j<k\/j=k by omega) with h1|rfl
 have:=hx.2 j h1;simpa using this;exact h;exfalso;have:=hx.2 (n-2) VJ;rw [show n-2+1=n-1 by omega] at this
 simp at this;omega
theorem Xn7(p q:Cg)(y:Int)(VR:2<=n/\n<=100000)(UE:z6 n p q=true)(HK: -100000<=y/\y<=p (n-1)):VX VO 154 [scs n p q,i y] (i (boilI n p q y)):=by
 refine GA (L:=[nB n p q y]) Aa (Ai (Af NJ Ab) Ac) VZ Tryz.func154 (UU Tryz.f154) (G7 (lpE (b:= .rangeFunc (rfF (VS (U7 Tryz.f154) 0)) (jP (VS (U7 Tryz.f154) 0)) Zx6 Qv4) VU<|Jn9 n p q y VR UE HK)) (t:=need [JS n p q,y=y,VY (ptr 0 0),VY (ptr 1 0),VY (K5 n p q),VY (0:Int),y=y] (leaf (RV.x (.int .i64 (boilI n p q y))))) VU ?_
 simp only [VM.sat,UB,G0,GL,UD,VL,UH];all_goals first|omega|grind
end
def Wy9:UX
 |[.lst 2 n f,.x (.int .i64 y)]=>some ([UF 2 n f,2<=n/\n<=100000,z6 n (col 0 f) (col 1 f)=true,-100000<=y/\y<=col 0 f (n-1)],i (boilI n (col 0 f) (col 1 f) y))
 |_=>none
theorem Xn6:VP VO 154 Wy9:=by
 refine ⟨(UJ Tryz.func154),?_⟩;intro avs ns Z h I;unfold Wy9 at h;split at h;rename_i n f y;cases h;have hr:UF 2 n f:=I _ VT;exact (Xn7 n (col 0 f) (col 1 f) y (I _ VT) (I _ VT) (I _ VT)).same (.cons (.lst 2 n _ _ hr) (.cons (.refl _) .nil));cases h
section
variable (n:Nat)(p q:Cg)(U O:Int)
def blE:Int:=if tbE n p q=0 then (if insB (p 0) U O (p (n-1)) then 0 else 2) else tbE n p q
def blLo:Int:=if blE n p q U O=0 then boilI n p q U else 0
def blHi:Int:=if blE n p q U O=0 then boilI n p q O else 0
end
theorem Wa6{n:Nat}{p q:Cg}(h:tbE n p q=0):2<=n/\n<=8/\z6 n p q=true:=by
 unfold tbE at h;split at h;omega;split at h;omega;split at h;rename_i h3;exact ⟨VJ,VJ,h3⟩;omega
theorem Xe3(n:Nat)(p q:Cg)(U O:Int)(VR:n<=100000):VX VO 116 [scs n p q,.agg [i U,i O]] (.tup [.agg [i (blLo n p q U O),i (blHi n p q U O)],i (blE n p q U O)]):=by
 refine U1 (L:=[]) (Ae Wa7 (Ae PU (Ae Xn6 Aa))) VZ Tryz.func116 (UU Tryz.f116) U2 (t:=need [UF 2 n λk=>[i (p k),i (q k)],n<=100000] (branch (tbE n p q != 0) (leaf (RV.tup [RV.agg [RV.x (KB),RV.x (KB)],RV.x (.int .i64 (tbE n p q))])) (need [UI 0 n] (need [VL ((n:Int)-1)] (need [UI ((n:Int)-1) n] (branch (!insB (p (0:Int).toNat) U O (p ((n:Int)-1).toNat)) (leaf (RV.tup [RV.agg [RV.x (KB),RV.x (KB)],RV.x (.int .i64 (2:Int))])) (need [UF 2 n λk=>[i (p k),i (q k)],2<=n/\n<=100000,z6 n p q=true,(-100000:Int)<=U/\U<=p (n-1)] (need [UF 2 n λk=>[i (p k),i (q k)],2<=n/\n<=100000,z6 n p q=true,(-100000:Int)<=O/\O<=p (n-1)] (leaf (RV.tup [RV.agg [RV.x (.int .i64 (boilI n p q U)),RV.x (.int .i64 (boilI n p q O))],RV.x (KB)])))))))))) VU ?_;simp only [VM.sat,UB,G0,GL,UD,UH,Jn4,Jn3,VL,show (0:Int).toNat=0 from rfl];refine ⟨⟨isRec2 n p q,VR⟩,λh=>?_,λh=>?_⟩;have h':tbE n p q≠0:=by simpa using h
 simp [blLo,blHi,blE,h'];have h':tbE n p q=0:=by simpa using h
 obtain ⟨t1,t2,t3⟩:=Wa6 h';have e1:((n:Int)-1).toNat=n-1:=VJ;have s0:=LR t3 (show 0<n by omega)
 simp only [e1];refine ⟨VJ,VJ,VJ,λh2=>?_,λh2=>?_⟩;have h2':insB (p 0) U O (p (n-1))=false:=by simpa using h2
 simp [blLo,blHi,blE,h',h2'];have h2':insB (p 0) U O (p (n-1))=true:=by simpa using h2
 have b:=(insB_iff _ _ _ _).1 h2';refine ⟨⟨isRec2 n p q,VJ,t3,VJ⟩,⟨isRec2 n p q,VJ,t3,VJ⟩,?_⟩;simp [blLo,blHi,blE,h',h2']
def Qj0:UX
 |[.lst 2 n f,.agg [.x (.int .i64 U),.x (.int .i64 O)]]=>some ([UF 2 n f,n<=100000],.tup [.agg [i (blLo n (col 0 f) (col 1 f) U O),i (blHi n (col 0 f) (col 1 f) U O)],i (blE n (col 0 f) (col 1 f) U O)])
 |_=>none
theorem blE_ok{n:Nat}{p q:Cg}{U O:Int}(h:blE n p q U O=0):2<=n/\n<=8/\z6 n p q=true/\p 0<=U/\U<=O/\O<=p (n-1):=by
 unfold blE at h;split at h;rename_i h1;obtain ⟨t1,t2,t3⟩:=Wa6 h1;split at h;rename_i h2;have:=(insB_iff _ _ _ _).1 h2;exact ⟨t1,t2,t3,this⟩;omega;contradiction
theorem Boils_ok:VP VO 116 Qj0:=by
 refine ⟨(UJ Tryz.func116),?_⟩;intro avs ns Z h I;unfold Qj0 at h;split at h;rename_i n f U O;cases h;have hr:UF 2 n f:=I _ VT;exact (Xe3 n (col 0 f) (col 1 f) U O (I _ VT)).same (.cons (.lst 2 n _ _ hr) (.cons (.refl _) .nil));cases h
end Go.Proofs.YtakpdkmhclhlnaaGreatDoor.Pt
namespace Go.Proofs.YtakpdkmhclhlnaaGreatDoor.Bo
open Go Go.Sx Go.RowKit Go.ChangeShapes Go.WideShapes Go.ChangeAt
open Go.Sx.VM (need branch leaf)
open Go.Sx.AV (lst ptr agg roI tup top)
theorem VZ:Tryz.prog.follows .mixedOrders=true:=VU
abbrev i(n:Int):AV:= .x (.int .i64 n)
abbrev iI(n:Int):AV:= .x (.int .i64 n)
abbrev bl(b:Bool):AV:= .x (.bool b)
def bt(U n O:Int):Bool:=decide (U<=n)&&decide (n<=O)
theorem bt_iff(U n O:Int):bt U n O=true↔U<=n/\n<=O:=by simp [bt]
def insB(U a b O:Int):Bool:=decide (U<=a)&&decide (a<=b)&&decide (b<=O)
theorem insB_iff(U a b O:Int):insB U a b O=true↔U<=a/\a<=b/\b<=O:=by simp [insB,and_assoc]
def qD(c T U O:Int):Bool:=bt 1 c 10&&insB 1 U O 200&&bt 1 T 2000&&bt (c*U) T (c*O)
def rdB(c a b u v:Int):Bool:=bt 0 a (c-1)&&bt a b c&&insB 0 u v 2000
def BF:UX
 |[.x (.int .i64 n),.x (.int .i64 U),.x (.int .i64 O)]=>some ([],bl (bt U n O))
 |_=>none
abbrev YG:Value:=Value.bool false
theorem wT(n U O:Int):VX VO 155 [i n,i U,i O] (bl (bt U n O)):=by
 refine GW Tryz.func155 (t:=branch (decide (U<=n)) (leaf (RV.x (.bool (decide (n<=O))))) (leaf (RV.x (YG)))) VU ?_;simp only [VM.sat,UB,G0,GL,UD,UH];all_goals (simp+contextual [bt,insB,Bool.and_assoc]);all_goals omega
theorem RJ:VP VO 155 BF:=by
 refine ⟨(UJ Tryz.func155),?_⟩;intro avs ns Z h I;unfold BF at h;split at h;cases h;exact wT _ _ _;cases h
def BG:UX
 |[.agg [.x (.int .i64 a),.x (.int .i64 b)],.x (.int .i64 U),.x (.int .i64 O)]=>some ([],bl (insB U a b O))
 |_=>none
theorem xF(a b U O:Int):VX VO 156 [.agg [i a,i b],i U,i O] (bl (insB U a b O)):=by
 refine GW Tryz.func156 (t:=branch (decide (U<=a)) (branch (decide (a<=b)) (leaf (RV.x (.bool (decide (b<=O))))) (leaf (RV.x (YG)))) (leaf (RV.x (YG)))) VU ?_;simp only [VM.sat,UB,G0,GL,UD,UH];all_goals (simp+contextual [bt,insB,Bool.and_assoc]);all_goals omega
theorem PU:VP VO 156 BG:=by
 refine ⟨(UJ Tryz.func156),?_⟩;intro avs ns Z h I;unfold BG at h;split at h;cases h;exact xF _ _ _ _;cases h
theorem mul_bd{x y X Y:Int}(hx: -X<=x/\x<=X)(hy: -Y<=y/\y<=Y): -(X*Y)<=x*y/\x*y<=X*Y:=by
 have h1:=Bz (show 0<=X-x by omega) (show 0<=Y-y by omega)
 have h2:=Bz (show 0<=X+x by omega) (show 0<=Y+y by omega)
 have h3:=Bz (show 0<=X-x by omega) (show 0<=Y+y by omega)
 have h4:=Bz (show 0<=X+x by omega) (show 0<=Y-y by omega)
 rw [Int.sub_mul,Int.mul_sub,Int.mul_sub] at h1;rw [Int.add_mul,Int.mul_add,Int.mul_add] at h2;rw [Int.sub_mul,Int.mul_add,Int.mul_add] at h3;rw [Int.add_mul,Int.mul_sub,Int.mul_sub] at h4;omega
def rO:UX
 |[.agg [.x (.int .i64 c),.x (.int .i64 T),.x (.int .i64 U),.x (.int .i64 O)]]=>some ([],i (if qD c T U O then 0 else 1))
 |_=>none
abbrev JX:Value:=Value.int IntKind.i64 (0:Int)
abbrev YE:Value:=Value.int IntKind.i64 (1:Int)
theorem bO(c T U O:Int):VX VO 117 [.agg [i c,i T,i U,i O]] (i (if qD c T U O then 0 else 1)):=by
 refine U1 (L:=[]) (Ae RJ (Ae PU Aa)) VZ Tryz.func117 (UU Tryz.f117) U2 (t:=branch (!bt (1:Int) c (10:Int)) (leaf (RV.x (YE))) (branch (!insB (1:Int) U O (200:Int)) (leaf (RV.x (YE))) (branch (!bt (1:Int) T (2000:Int)) (leaf (RV.x (YE))) (need [VL (c*U)] (need [VL (c*O)] (branch (!bt (c*U) T (c*O)) (leaf (RV.x (YE))) (leaf (RV.x (JX))))))))) VU ?_;simp only [VM.sat,UB,G0,UD,UH,VL,qD];rcases Bool.eq_false_or_eq_true (bt 1 c 10) with h1|h1
 rotate_left
 simp [h1];rcases Bool.eq_false_or_eq_true (insB 1 U O 200) with h2|h2
 rotate_left
 simp [h1,h2];rcases Bool.eq_false_or_eq_true (bt 1 T 2000) with h3|h3
 rotate_left
 simp [h1,h2,h3];have e1:=(bt_iff _ _ _).1 h1;have e2:=(insB_iff _ _ _ _).1 h2;have m1:=mul_bd (x:=c) (y:=U) (X:=10) (Y:=200) VJ VJ;have m2:=mul_bd (x:=c) (y:=O) (X:=10) (Y:=200) VJ VJ;rcases Bool.eq_false_or_eq_true (bt (c*U) T (c*O)) with h4|h4<;>simp [h1,h2,h3,h4]<;>omega
theorem CheckTube_ok:VP VO 117 rO:=by
 refine ⟨(UJ Tryz.func117),?_⟩;intro avs ns Z h I;unfold rO at h;split at h;cases h;exact bO _ _ _ _;cases h
def S6:UX
 |[.agg [.x (.int .i64 c),.x (.int .i64 T),.x (.int .i64 U),.x (.int .i64 O)],.agg [.x (.int .i64 a),.x (.int .i64 b),.x (.int .i64 u),.x (.int .i64 v)]]=>some ([1<=c/\c<=10],bl (rdB c a b u v))
 |_=>none
theorem o2(c T U O a b u v:Int)(VR:1<=c/\c<=10):VX VO 192 [.agg [i c,i T,i U,i O],.agg [i a,i b,i u,i v]] (bl (rdB c a b u v)):=by
 refine U1 (L:=[]) (Ae RJ (Ae PU Aa)) VZ Tryz.func192 (UU Tryz.f192) U2 (t:=need [VL (c-1)] (branch (bt (0:Int) a (c-1)) (branch (bt a b c) (leaf (RV.x (.bool (insB (0:Int) u v (2000:Int))))) (leaf (RV.x (YG)))) (leaf (RV.x (YG))))) VU ?_;simp only [VM.sat,UB,G0,UD,UH,VL,rdB];refine ⟨VJ,?_⟩;cases h1:bt 0 a (c-1)<;>cases h2:bt a b c<;>cases h3:insB 0 u v 2000<;>simp
theorem o1:VP VO 192 S6:=by
 refine ⟨(UJ Tryz.func192),?_⟩;intro avs ns Z h I;unfold S6 at h;split at h;cases h;exact o2 _ _ _ _ _ _ _ _ (I _ VT);cases h
open Go Go.Sx Go.RowKit
theorem Xg3(a b:Int):VX VO 135 [.lst 1 2 (λk=>[i (if k=0 then a else b)])] (i (min a b)):=by
 refine U1 (L:=[λs=>some (xZ Tryz.prog [] [] (U9 (VS (U7 Tryz.f135) 0)) 3 s)]) Aa VZ Tryz.func135 (UU Tryz.f135) (G7 (lpE (b:= .loop (U9 (VS (U7 Tryz.f135) 0))) VU<|LC Aa VZ U2 _)) (t:=let A:=(min (if (0:Int).toNat=0 then a else b) (if (1:Int).toNat=0 then a else b));(branch (decide (((2:Nat):Int)<1)) VM.fail (need [UI 0 2] (branch (decide ((1:Int)<((2:Nat):Int))) (need [UI 1 2] (need [VL ((1:Int)+1)] (branch (decide ((1:Int)+1<((2:Nat):Int))) (need [(0:Int)<=1+1/\(1:Int)+1<((2:Nat):Int)] (need [VL ((1:Int)+1+1)] (branch (decide ((1:Int)+1+1<((2:Nat):Int))) (need [(0:Int)<=1+1+1/\(1:Int)+1+1<((2:Nat):Int)] (need [VL ((1:Int)+1+1+1)] VM.fail)) (leaf (RV.x (.int .i64 (min A (if ((1:Int)+1).toNat=0 then a else b)))))))) (leaf (RV.x (.int .i64 A)))))) (leaf (RV.x (.int .i64 (if (0:Int).toNat=0 then a else b)))))))) VU ?_
 simp [VM.sat,UB,G0,GL,UD,VL]
theorem Xg4(a b:Int):VX VO 136 [.lst 1 2 (λk=>[i (if k=0 then a else b)])] (i (max a b)):=by
 refine U1 (L:=[λs=>some (xZ Tryz.prog [] [] (U9 (VS (U7 Tryz.f136) 0)) 3 s)]) Aa VZ Tryz.func136 (UU Tryz.f136) (G7 (lpE (b:= .loop (U9 (VS (U7 Tryz.f136) 0))) VU<|LC Aa VZ U2 _)) (t:=let A:=(max (if (0:Int).toNat=0 then a else b) (if (1:Int).toNat=0 then a else b));(branch (decide (((2:Nat):Int)<1)) VM.fail (need [UI 0 2] (branch (decide ((1:Int)<((2:Nat):Int))) (need [UI 1 2] (need [VL ((1:Int)+1)] (branch (decide ((1:Int)+1<((2:Nat):Int))) (need [(0:Int)<=1+1/\(1:Int)+1<((2:Nat):Int)] (need [VL ((1:Int)+1+1)] (branch (decide ((1:Int)+1+1<((2:Nat):Int))) (need [(0:Int)<=1+1+1/\(1:Int)+1+1<((2:Nat):Int)] (need [VL ((1:Int)+1+1+1)] VM.fail)) (leaf (RV.x (.int .i64 (max A (if ((1:Int)+1).toNat=0 then a else b)))))))) (leaf (RV.x (.int .i64 A)))))) (leaf (RV.x (.int .i64 (if (0:Int).toNat=0 then a else b)))))))) VU ?_
 simp [VM.sat,UB,G0,GL,UD,VL]
def kO:UX
 |[.lst 1 2 f]=>(match f 0,f 1 with
  |[.x (.int .i64 a)],[.x (.int .i64 b)]=>some ([],i (min a b))
  |_,_=>none)
 |_=>none
theorem SZ:VP VO 135 kO:=by
 refine ⟨(UJ Tryz.func135),?_⟩;intro avs ns Z h I;unfold kO at h;split at h;rename_i f;split at h;rename_i a b h0 h1;cases h;refine (Xg3 a b).same (.cons (.lst 1 2 _ _ ?_) .nil);intro k hk;rcases (show k=0\/k=1 by omega) with rfl|rfl
 exact h0;exact h1;cases h;cases h
def fH:UX
 |[.lst 1 2 f]=>(match f 0,f 1 with
  |[.x (.int .i64 a)],[.x (.int .i64 b)]=>some ([],i (max a b))
  |_,_=>none)
 |_=>none
theorem Qa6:VP VO 136 fH:=by
 refine ⟨(UJ Tryz.func136),?_⟩;intro avs ns Z h I;unfold fH at h;split at h;rename_i f;split at h;rename_i a b h0 h1;cases h;refine (Xg4 a b).same (.cons (.lst 1 2 _ _ ?_) .nil);intro k hk;rcases (show k=0\/k=1 by omega) with rfl|rfl
 exact h0;exact h1;cases h;cases h
theorem Wh8(a b:Int):VX VO 228 [.lst 1 2 (λk=>[i (if k=0 then a else b)])] (i (min a b)):=by
 refine U1 (L:=[]) (Ae SZ Aa) VZ Tryz.func228 (UU Tryz.f228) U2 (t:=leaf (RV.x (.int .i64 (min (if 0=0 then a else b) (if 1=0 then a else b))))) VU ?_
 simp [VM.sat,G0,UD]
def AJ:UX:=kO
theorem LU:VP VO 228 AJ:=by
 refine ⟨(UJ Tryz.func228),?_⟩;intro avs ns Z h I;unfold AJ kO at h;split at h;rename_i f;split at h;rename_i a b h0 h1;cases h;refine (Wh8 a b).same (.cons (.lst 1 2 _ _ ?_) .nil);intro k hk;rcases (show k=0\/k=1 by omega) with rfl|rfl
 exact h0;exact h1;cases h;cases h
theorem lD(a b:Int):VX VO 251 [.lst 1 2 (λk=>[i (if k=0 then a else b)])] (i (max a b)):=by
 refine U1 (L:=[]) (Ae Qa6 Aa) VZ Tryz.func251 (UU Tryz.f251) U2 (t:=leaf (RV.x (.int .i64 (max (if 0=0 then a else b) (if 1=0 then a else b))))) VU ?_
 simp [VM.sat,G0,UD]
def MD:UX:=fH
theorem rG:VP VO 251 MD:=by
 refine ⟨(UJ Tryz.func251),?_⟩;intro avs ns Z h I;unfold MD fH at h;split at h;rename_i f;split at h;rename_i a b h0 h1;cases h;refine (lD a b).same (.cons (.lst 1 2 _ _ ?_) .nil);intro k hk;rcases (show k=0\/k=1 by omega) with rfl|rfl
 exact h0;exact h1;cases h;cases h
noncomputable def Qk8:D2:=A2 Tryz.prog [(228,AJ)] {} [] Tryz.f194 (U7 Tryz.f194)
abbrev JG:List (Nat×UX):=[(228,AJ)]
theorem LL:GB VO 194 Qk8:=
 RL (G:=JG) (X:={}) (L:=[]) (Ae LU Aa) Ad VZ (UJ Tryz.func194) Tryz.func194 (UU Tryz.f194) U2
def UC(c T U O:Int)(M:Nat->Cg)(k:Nat):Int:=if k=0 then c else if k=1 then T else if k=2 then U else if k=3 then O else M ((k-4) / 11) ((k-4)%11)
section
variable (M:Nat->Cg)(a b:Nat)(v:Int)
def wZ:Nat->Cg:=λx y=>if x=a/\y=b then v else M x y
def bnd:Nat->Cg:=wZ M a b (min (M a b) v)
end
def ini(c:Nat)(k j:Nat):Nat->Cg:=λx y=>if ((x<k/\y<=c)\/(x=k/\y<j))/\x≠y then 2000 else 0
theorem Wb6(c T U O:Int)(cc:Nat): ∀k,UA (c::T::U::O::List.replicate 121 0) k=UC c T U O (ini cc 0 0) k:=by
 intro k;rcases k with _|_|_|_|k;rfl;rfl;rfl;rfl;have h:UA (c::T::U::O::List.replicate 121 0) (k+4)=UA (List.replicate 121 0) k:=rfl;rw [h,d6 (by decide)]
 simp [UC,ini]
theorem GN(q:Nat)(v:Int)(f:Cg):jE q [v] f=US q v f:=rfl
section
variable (c T U O:Int)
theorem qE(M:Nat->Cg){a b q:Nat}(hq:q=4+a*11+b)(hb:b<11):UC c T U O M q=M a b:=by
 unfold UC;rw [if_neg VJ,if_neg VJ,if_neg VJ,if_neg VJ,show (q-4) / 11=a by omega,show (q-4)%11=b by omega]
theorem v8{M M':Nat->Cg}(h: ∀x y,x<11->y<11->M x y=M' x y){k:Nat}(hk:k<125):UC c T U O M k=UC c T U O M' k:=by
 unfold UC;split;rfl;split;rfl;split;rfl;split;rfl;exact h _ _ VJ VJ
theorem cM(M:Nat->Cg){a b q:Nat}(hq:q=4+a*11+b)(hb:b<11)(v:Int)(k:Nat):US q v (UC c T U O M) k=UC c T U O (wZ M a b v) k:=by
 unfold US;by_cases hk:k=q;rw [if_pos hk,qE _ _ _ _ _ (hk.trans hq) hb];simp [wZ];rw [if_neg hk];unfold UC;by_cases h0:k=0;rw [if_pos h0,if_pos h0];by_cases h1:k=1;rw [if_neg h0,if_neg h0,if_pos h1,if_pos h1];by_cases h2:k=2;rw [if_neg h0,if_neg h0,if_neg h1,if_neg h1,if_pos h2,if_pos h2];by_cases h3:k=3;rw [if_neg h0,if_neg h0,if_neg h1,if_neg h1,if_neg h2,if_neg h2,if_pos h3,if_pos h3];rw [if_neg h0,if_neg h0,if_neg h1,if_neg h1,if_neg h2,if_neg h2,if_neg h3,if_neg h3];unfold wZ;rw [if_neg VJ]
end
theorem Wn4(c k j:Nat)(hj:j<=c)(h:k≠j)(x y:Nat):wZ (ini c k j) k j 2000 x y=ini c k (j+1) x y:=by
 unfold wZ ini;split;rename_i hxy;rw [if_pos ⟨.inr VJ,VJ⟩];rename_i hxy;by_cases h1:((x<k/\y<=c)\/(x=k/\y<j))/\x≠y;rw [if_pos h1,if_pos VJ];rw [if_neg h1,if_neg VJ]
theorem Wn5(c k:Nat)(x y:Nat):ini c k k x y=ini c k (k+1) x y:=by
 unfold ini;by_cases h1:((x<k/\y<=c)\/(x=k/\y<k))/\x≠y;rw [if_pos h1,if_pos VJ];rw [if_neg h1,if_neg VJ]
theorem Xj5(c k:Nat)(x y:Nat):ini c k (c+1) x y=ini c (k+1) 0 x y:=by
 unfold ini;by_cases h1:((x<k/\y<=c)\/(x=k/\y<c+1))/\x≠y;rw [if_pos h1,if_pos VJ];rw [if_neg h1,if_neg VJ]
abbrev rds(n:Nat)(a b u v:Cg):AV:= .lst 4 n (λk=>[i (a k),i (b k),i (u k),i (v k)])
abbrev QU:AV:=AV.x (.pointer none)
abbrev X9(n:Nat)(a:Cg)(b:Cg)(u:Cg)(v:Cg):AV:=lst 4 n λk=>[iI (a k),iI (b k),iI (u k),iI (v k)]
section
variable (c:Nat)(T U O:Int)(n:Nat)(a b u v:Cg)
def Zu5:St:={σ:=[agg [iI (c:Int),iI T,iI U,iI O],X9 n a b u v,ptr 0 0,top,QU,AV.lit false,ptr 5 0]++HI 15 [iI ((c:Int)+1)]++HI 155 [],m:=[(5,GO.ints 301 [] 125 λa=>UA ([(c:Int),T,U,O]++bS 121) a),(0,GO.cells 49 [iI (c:Int),iI T,iI U,iI O])],nx:=11}
noncomputable def Zx0:Code:=U9 (VS (U7 Tryz.f158) 0)
def Wk2(k:Nat):St:=(upE [(23,i k)] [(5,.ints 301 [] 125 (UC c T U O (ini c k 0))),(0,.cells 49 [i c,i T,i U,i O])] (Zu5 c T U O n a b u v))
def CR(k:Nat):G5->Option St
 | .exit 0=>some (upE [(23,i ((c:Int)+1))] [(5,.ints 301 [] 125 (UC c T U O (ini c (c+1) 0))),(0,.cells 49 [i c,i T,i U,i O])] (Zu5 c T U O n a b u v))
 |_=>none
def Jp9:CT:= .leaf (.exit 0,(CR c T U O n a b u v 0 (.exit 0)).getD (Zu5 c T U O n a b u v))
def Xz1:UG:=GJ [] (HF (Wk2 c T U O n a b u v (0)) (Jp9 c T U O n a b u v))
def Zu4(k:Nat):St:={σ:=[agg [iI (c:Int),iI T,iI U,iI O],X9 n a b u v,ptr 0 0,top,QU,AV.lit false,ptr 5 0,iI (k:Int)]++HI 14 [iI ((c:Int)+1),iI (k:Int),top,top,top,top,iI ((c:Int)+1)]++HI 149 [],m:=[(5,GO.ints 301 [] 125 λk_1=>UC (c:Int) T U O (ini c k 0) k_1),(0,GO.cells 49 [iI (c:Int),iI T,iI U,iI O])],nx:=18}
noncomputable def Ju8:Code:=(U9 (VS (U9 (VS (U7 Tryz.f158) 0)) 0))
def Wk1(k:Nat)(j:Nat):St:=(upE [(29,i j)] [(5,.ints 301 [] 125 (UC c T U O (ini c k j))),(0,.cells 49 [i c,i T,i U,i O])] (Zu4 c T U O n a b u v k))
def CQ(k:Nat)(j:Nat):G5->Option St
 | .exit 2=>some (upE [(29,i ((c:Int)+1))] [(5,.ints 301 [] 125 (UC c T U O (ini c k (c+1)))),(0,.cells 49 [i c,i T,i U,i O])] (Zu4 c T U O n a b u v k))
 |_=>none
def Jp8(k:Nat):CT:= .leaf (.exit 2,(CQ c T U O n a b u v k 0 (.exit 2)).getD (Zu4 c T U O n a b u v k))
def Xz0(k:Nat):UG:=GJ [] (HF (Wk1 c T U O n a b u v k (0)) (Jp8 c T U O n a b u v k))
end
abbrev Q4(n:Nat)(a:Cg)(b:Cg)(u:Cg)(v:Cg):Prop:=(X9 n a b u v)=lst 4 n λk=>[iI (a k),iI (b k),iI (u k),iI (v k)]
abbrev X6:Prop:=AV.lit false=AV.lit false
noncomputable abbrev XJ:Ext:={R:=[],H:=[(194,Qk8)] }
abbrev XM:Prop:=ptr 0 0=ptr 0 0
abbrev XY:Prop:=ptr 5 0=ptr 5 0
section
variable (c:Nat)(T U O:Int)(n:Nat)(a b u v:Cg)
theorem Je6(k:Nat)(VR:1<=c/\c<=10)(UE:1<=U/\U<=O/\O<=200/\1<=T/\T<=2000)(HK:k<=c):G6 VO (.loop Ju8) (Xz0 c T U O n a b u v k):=by
 refine UR [] (L:=[]) (Ae LU Aa) (Ai Ab (Ag LL Ac)) VZ U2 (X:=Nat) (Wk1 c T U O n a b u v k) (λj=>j<=c+1) (λj=>c+1-j) (CQ c T U O n a b u v k) (x0:=0) VT ?_ ?_ ?_;rintro j;kernel_rfl;rintro j y E h;unfold CQ at h;split at h;cases h;kernel_rfl;cases h;rintro Q hQ j hx;refine ⟨(j+1),?_⟩;(with_reducible refine D9 (t:=let A:=(VY ((c:Int)+1));let W:=(VY (agg [iI (c:Int),iI T,iI U,iI O]));(branch (decide ((j:Int)<(c:Int)+1)) (branch ((k:Int) != (j:Int)) (need [UI k 11] (need [UI j 11] (need [j*1+(k*11+4)+1<=125] (need [VL ((j:Int)+1)] (need [W,Q4 n a b u v,XM,QU=QU,X6,XY,VY (k:Int),A,VY (k:Int),A,(j:Int)+1=(↑(j+1):Int),125=125,GV 125 (US (j*1+(k*11+4)) (2000:Int) (UC (c:Int) T U O (ini c k j))) (UC (c:Int) T U O (ini c k (j+1))),VY (c:Int),T=T,U=U,O=O] (leaf G5.normal)))))) (need [VL ((j:Int)+1)] (need [W,Q4 n a b u v,XM,QU=QU,X6,XY,VY (k:Int),A,VY (k:Int),A,(j:Int)+1=(↑(j+1):Int),125=125,GV 125 (UC (c:Int) T U O (ini c k j)) (UC (c:Int) T U O (ini c k (j+1))),VY (c:Int),T=T,U=U,O=O] (leaf G5.normal)))) (need [W,Q4 n a b u v,XM,QU=QU,X6,XY,VY (k:Int),A,VY (k:Int),A,(j:Int)=(c:Int)+1,125=125,GV 125 (UC (c:Int) T U O (ini c k j)) (UC (c:Int) T U O (ini c k (c+1))),VY (c:Int),T=T,U=U,O=O] (leaf (G5.exit 2))))) VU ?_);simp only [Jp8,CQ,VM.sat,GS] at hQ;simp only [VM.sat,UB,G0,GL,UD,VL,UH,HA,FU,R9,RQ,GN,CQ]
 refine ⟨λh=>⟨λhne=>?_,λheq=>?_⟩,λh=>?_⟩
 ·(with_reducible repeat' first|apply Al|intro _)
  all_goals first|exact PO|(exact (cM c T U O _ VJ VJ _ _).trans (v8 c T U O (λx y _ _=>Wn4 c k j VJ VJ x y) (by assumption)))
 ·obtain rfl:k=j:=VJ
  (with_reducible repeat' first|apply Al|intro _)
  all_goals first|exact PO|(exact v8 c T U O (λx y _ _=>Wn5 c k x y) (by assumption))
 ·obtain rfl:j=c+1:=VJ
  (with_reducible repeat' first|apply Al|intro _)
  all_goals first|exact Ak|omega|with_reducible rfl|(rename_i E hE;cases hE;exact hQ)|rfl
theorem Je7(VR:1<=c/\c<=10)(UE:1<=U/\U<=O/\O<=200/\1<=T/\T<=2000):G6 VO (.loop Zx0) (Xz1 c T U O n a b u v):=by
 refine UR [] (L:=[BC 7 (λk=>F2 [k<=c] (Xz0 c T U O n a b u v k))]) (Ae LU Aa) (Ai Ab (Ag LL Ac)) VZ (G7 (λcj hcj=>by
  have e:VS Zx0 0=some (.loop Ju8):=VU;rw [e] at hcj;cases hcj;exact L5 (λk=>HJ (λh=>Je6 c T U O n a b u v k VR UE h)))) (X:=Nat) (Wk2 c T U O n a b u v) (λk=>k<=c+1) (λk=>c+1-k) (CR c T U O n a b u v) (x0:=0) VT ?_ ?_ ?_
 rintro k;kernel_rfl;rintro k y E h;unfold CR at h;split at h;cases h;kernel_rfl;cases h;rintro Q hQ k hx;refine ⟨(k+1),?_⟩;(with_reducible refine D9 (t:=let A:=(VY (agg [iI (c:Int),iI T,iI U,iI O]));let W:=(VY ((c:Int)+1));(branch (decide ((k:Int)<(c:Int)+1)) (need [VL ((c:Int)+1)] (need [k<=c] (need [A,Q4 n a b u v,XM,QU=QU,X6,XY,VY (k:Int),W,VY (k:Int),W,(0:Int)=((0:Nat):Int),125=125,GQ 125 (UC (c:Int) T U O (ini c k 0)),VY (c:Int),T=T,U=U,O=O] (need [VL ((k:Int)+1)] (need [A,Q4 n a b u v,XM,QU=QU,X6,XY,W,(k:Int)+1=(↑(k+1):Int),125=125,GV 125 (UC (c:Int) T U O (ini c k (c+1))) (UC (c:Int) T U O (ini c (k+1) 0)),VY (c:Int),T=T,U=U,O=O] (leaf G5.normal)))))) (need [A,Q4 n a b u v,XM,QU=QU,X6,XY,W,(k:Int)=(c:Int)+1,125=125,GV 125 (UC (c:Int) T U O (ini c k 0)) (UC (c:Int) T U O (ini c (c+1) 0)),VY (c:Int),T=T,U=U,O=O] (leaf (G5.exit 0))))) VU ?_);simp only [Jp9,CR,VM.sat,GS] at hQ;simp only [VM.sat,UB,G0,GL,UD,VL,UH,HA,FU,R9,RQ,GN,CR]
 refine ⟨λh=>?_,λh=>?_⟩
 ·(with_reducible repeat' first|apply Al|intro _)
  all_goals first|exact PO|(exact v8 c T U O (λx y _ _=>Xj5 c k x y) (by assumption))
 ·obtain rfl:k=c+1:=VJ
  (with_reducible repeat' first|apply Al|intro _)
  all_goals first|exact Ak|omega|with_reducible rfl|(rename_i E hE;cases hE;exact hQ)|rfl
end
def cel(c:Nat)(U O:Int):Nat->Nat->Nat->Int
 | 0=>ini c (c+1) 0
 |k+1=>bnd (bnd (cel c U O k) k (k+1) O) (k+1) k (-U)
theorem zX{c T U O:Int}{M:Nat->Cg}{a b q:Nat}{v:Int}(hq:q=4+a*11+b)(hb:b<11):US q (min (UC c T U O M q) v) (UC c T U O M)=UC c T U O (bnd M a b v):=by
 funext k;rw [cM c T U O M hq hb,qE c T U O M hq hb];rfl
section
variable (c:Nat)(T U O:Int)(n:Nat)(a b u v:Cg)
def Zu3:St:={σ:=[agg [iI (c:Int),iI T,iI U,iI O],X9 n a b u v,ptr 0 0,top,QU,AV.lit false,ptr 5 0]++HI 15 [iI ((c:Int)+1),iI ((c:Int)+1)]++HI 21 [iI (c:Int)]++HI 132 [],m:=[(5,GO.ints 301 [] 125 λk=>UC (c:Int) T U O (ini c (c+1) 0) k),(0,GO.cells 49 [iI (c:Int),iI T,iI U,iI O])],nx:=14}
noncomputable def Ju7:Code:=U9 (VS (U7 Tryz.f158) 1)
def Wk0(k:Nat):St:=(upE [(46,i k)] [(5,.ints 301 [] 125 (UC c T U O (cel c U O k))),(0,.cells 49 [i c,i T,i U,i O])] (Zu3 c T U O n a b u v))
def CP(k:Nat):G5->Option St
 | .exit 4=>some (upE [(46,i c)] [(5,.ints 301 [] 125 (UC c T U O (cel c U O c))),(0,.cells 49 [i c,i T,i U,i O])] (Zu3 c T U O n a b u v))
 |_=>none
def Jp7:CT:= .leaf (.exit 4,(CP c T U O n a b u v 0 (.exit 4)).getD (Zu3 c T U O n a b u v))
def Xy9:UG:=GJ [] (HF (Wk0 c T U O n a b u v (0)) (Jp7 c T U O n a b u v))
theorem Je5(VR:1<=c/\c<=10)(UE:1<=U/\U<=O/\O<=200/\1<=T/\T<=2000):G6 VO (.loop Ju7) (Xy9 c T U O n a b u v):=by
 refine UR [] (L:=[]) (Ae LU Aa) (Ai Ab (Ag LL Ac)) VZ U2 (X:=Nat) (Wk0 c T U O n a b u v) (λk=>k<=c) (λk=>c-k) (CP c T U O n a b u v) (x0:=0) VT ?_ ?_ ?_;rintro k;kernel_rfl;rintro k y E h;unfold CP at h;split at h;cases h;kernel_rfl;cases h;rintro Q hQ k hx;refine ⟨(k+1),?_⟩;(with_reducible refine D9 (t:=let A:=(UC (c:Int) T U O (cel c U O k) (((k:Int)+1).toNat*1+(k*11+4)));let W:=(US (((k:Int)+1).toNat*1+(k*11+4)) (min A O) (UC (c:Int) T U O (cel c U O k)) (k*1+(((k:Int)+1).toNat*11+4)));let z2:=(VY ((c:Int)+1));(branch (decide ((k:Int)<(c:Int))) (need [VL ((k:Int)+1)] (need [UI k 11] (need [UI ((k:Int)+1) 11] (need [((k:Int)+1).toNat*1+(k*11+4)<125] (need [UI k 11] (need [UI ((k:Int)+1) 11] (need [((k:Int)+1).toNat*1+(k*11+4)+List.length [min A O]<=125] (need [VL ((k:Int)+1)] (need [VL (-U)] (need [UI ((k:Int)+1) 11] (need [UI k 11] (need [k*1+(((k:Int)+1).toNat*11+4)<125] (need [UI ((k:Int)+1) 11] (need [UI k 11] (need [k*1+(((k:Int)+1).toNat*11+4)+List.length [min W (-U)]<=125] (need [VL ((k:Int)+1)] (need [VY (agg [iI (c:Int),iI T,iI U,iI O]),Q4 n a b u v,XM,QU=QU,X6,XY,z2,z2,VY (c:Int),(k:Int)+1=(↑(k+1):Int),125=125,GV 125 (US (k*1+(((k:Int)+1).toNat*11+4)) (min W (-U)) (jE (((k:Int)+1).toNat*1+(k*11+4)) [min A O] (UC (c:Int) T U O (cel c U O k)))) (UC (c:Int) T U O (cel c U O (k+1))),VY (c:Int),T=T,U=U,O=O] (leaf G5.normal)))))))))))))))))) (need [VY (agg [iI (c:Int),iI T,iI U,iI O]),Q4 n a b u v,XM,QU=QU,X6,XY,z2,z2,VY (c:Int),(k:Int)=(c:Int),125=125,GV 125 (UC (c:Int) T U O (cel c U O k)) (UC (c:Int) T U O (cel c U O c)),VY (c:Int),T=T,U=U,O=O] (leaf (G5.exit 4))))) VU ?_);simp only [Jp7,CP,VM.sat,GS] at hQ;simp only [VM.sat,UB,G0,GL,UD,VL,UH,HA,FU,R9,RQ,GN,CP]
 refine ⟨λh=>?_,λh=>?_⟩
 ·have h1: ∀M v,US (((k:Int)+1).toNat*1+(k*11+4)) (min (UC c T U O M (((k:Int)+1).toNat*1+(k*11+4))) v) (UC c T U O M)=UC c T U O (bnd M k (k+1) v):=λM v=>zX VJ VJ;have h2: ∀M v,US (k*1+(((k:Int)+1).toNat*11+4)) (min (UC c T U O M (k*1+(((k:Int)+1).toNat*11+4))) v) (UC c T U O M)=UC c T U O (bnd M (k+1) k v):=λM v=>zX VJ VJ;simp only [h1,h2]
  (with_reducible repeat' first|apply Al|intro _)
  all_goals first|exact Ak|omega|with_reducible rfl|(rename_i E hE;cases hE;exact hQ)|rfl
 ·obtain rfl:k=c:=VJ
  (with_reducible repeat' first|apply Al|intro _)
  all_goals first|exact Ak|omega|with_reducible rfl|(rename_i E hE;cases hE;exact hQ)|rfl
end
def rdS(c:Nat)(M:Nat->Cg)(a b u v:Int):Nat->Cg:=if b<(c:Int) then bnd (bnd M a.toNat b.toNat v) (b+1).toNat a.toNat (-u-1) else bnd M a.toNat b.toNat v
def rdM(c:Nat)(T U O:Int)(a b u v:Cg):Nat->Nat->Nat->Int
 | 0=>bnd (bnd (cel c U O c) 0 c T) c 0 (-T)
 |j+1=>rdS c (rdM c T U O a b u v j) (a j) (b j) (u j) (v j)
def rdV(a b u v:Int):Value:= .agg #[.int .i64 a,.int .i64 b,.int .i64 u,.int .i64 v]
def sn(a b u v:Cg)(k:Nat)(x:Value):Prop:= ∃j,j<k/\x=rdV (a j) (b j) (u j) (v j)
def Jh5(x:Value):Prop:= ∃a b u v,x=rdV a b u v
theorem Wd0(a b u v:Int)(e:UL)(w:World):Rep e w (.agg [i a,i b,i u,i v]) (rdV a b u v):=
 Rep.aggL (U3.cons (.x _) (U3.cons (.x _) (U3.cons (.x _) (U3.one (.x _)))))
theorem Qo4(a b u v:Int):FG Tryz.prog 303 Jh5 (rdV a b u v) (.bool false):=by
 refine ⟨⟨145,4,(match Tryz.prog.underlying 145 with|some (.struct fs)=>fs|_=>#[]),VU,VU,?_,?_,?_⟩,by simp [Instr.sameBits,rdV]⟩
 intro b' w;kernel_rfl;rintro k' ⟨a',b',u',v',rfl⟩ w;refine ⟨a==a'&&(b==b'&&(u==u'&&(v==v'&&true)&&true)),xM (P:=Tryz.prog) (e:=PE w w) Op.maxDepth 145 (.agg [i a,i b,i u,i v]) (.agg [i a',i b',i u',i v']) _ _ _ VU (Wd0 ..) (Wd0 ..),λh=>?_⟩;simp only [Bool.and_true,GU,beq_iff_eq] at h;obtain ⟨rfl,rfl,rfl,rfl⟩:=h;rfl;intro w;kernel_rfl
theorem Xu5{a b u v:Cg}{k:Nat}{x:Value}(h:sn a b u v k x):Jh5 x:=by
 obtain ⟨j,_,h⟩:=h;exact ⟨_,_,_,_,h⟩
section
variable (M:Nat->Cg)(a b:Nat)(v:Int)
theorem wQ(x y:Nat):bnd M a b v x y<=M x y:=by
 unfold bnd wZ;split;rename_i h;rw [h.1,h.2];omega;omega
theorem aY:bnd M a b v a b<=v:=by
 unfold bnd wZ;rw [if_pos ⟨rfl,rfl⟩];omega
end
theorem Wv8{M:Nat->Cg}{a b:Nat}{v:Int}(h:M a b<=v):bnd M a b v=M:=by
 funext x y;unfold bnd wZ;split;rename_i h';rw [h'.1,h'.2];omega;rfl
section
variable (c:Nat)(M:Nat->Cg)(a b u v:Int)
theorem Zk2(x y:Nat):rdS c M a b u v x y<=M x y:=by
 unfold rdS;split;exact Bx (wQ _ _ _ _ _ _) (wQ _ _ _ _ _ _);exact wQ _ _ _ _ _ _
theorem Zk4:rdS c M a b u v a.toNat b.toNat<=v/\(b<c->rdS c M a b u v (b+1).toNat a.toNat<= -u-1):=by
 unfold rdS;split;exact ⟨Bx (wQ _ _ _ _ _ _) (aY _ _ _ _),λ_=>aY _ _ _ _⟩;exact ⟨aY _ _ _ _,λh=>VJ⟩
end
theorem Zk3{c:Nat}{M:Nat->Cg}{a b u v:Int}(h:M a.toNat b.toNat<=v)(h2:b<c->M (b+1).toNat a.toNat<= -u-1):rdS c M a b u v=M:=by
 unfold rdS;rw [Wv8 h];split;rename_i hb;exact Wv8 (h2 hb);rfl
theorem CE(c:Nat)(T U O:Int)(a b u v:Cg)(j:Nat): ∀(k:Nat),j<=k-> ∀x y,rdM c T U O a b u v k x y<=rdM c T U O a b u v j x y
 | 0,h,x,y=>by
           obtain rfl:j=0:=VJ;exact Int.le_refl _
 |k+1,h,x,y=>by
  rcases (show j=k+1\/j<=k by omega) with rfl|h
  exact Int.le_refl _;exact Bx (Zk2 _ _ _ _ _ _ _ _) (CE c T U O a b u v j k h x y)
theorem Wd6{c:Nat}{T U O:Int}{a b u v:Cg}{k:Nat}(h:sn a b u v k (rdV (a k) (b k) (u k) (v k))):rdM c T U O a b u v (k+1)=rdM c T U O a b u v k:=by
 obtain ⟨j,hj,he⟩:=h;unfold rdV at he;injection he with he
 injection he with he
 have e:a k=a j/\b k=b j/\u k=u j/\v k=v j:=by simpa using he
 have h1:=Zk4 c (rdM c T U O a b u v j) (a j) (b j) (u j) (v j);have m:=CE c T U O a b u v (j+1) k VJ;refine Zk3 ?_ (λhb=>?_);rw [e.1,e.2.1,e.2.2.2];exact Bx (m _ _) h1.1;rw [e.1,e.2.1,e.2.2.1];exact Bx (m _ _) (h1.2 (by rw [←e.2.1];exact hb))
section
variable (c:Nat)(T U O:Int)(n:Nat)(a b u v:Cg)
def Zu2:St:={σ:=[agg [iI (c:Int),iI T,iI U,iI O],X9 n a b u v,ptr 0 0,top,QU,AV.lit false,ptr 5 0,top,top,top,AV.mp 63]++HI 11 [iI ((c:Int)+1),iI ((c:Int)+1)]++HI 21 [iI (c:Int),iI (c:Int)]++HI 34 [X9 n a b u v,iI (n:Int)]++HI 95 [],m:=[(63,GO.memo (λx=>False) λv=>v),(56,GO.row 3 1 2 (U4 1 [iI (US (c*1+4) (min (UC (c:Int) T U O (cel c U O c) (c*1+4)) T) (UC (c:Int) T U O (cel c U O c)) (0+(c*11+4))),iI (-T)])),(31,GO.row 3 1 2 (U4 1 [iI (UC (c:Int) T U O (cel c U O c) (c*1+4)),iI T])),(5,GO.ints 301 [] 125 λa=>US (0+(c*11+4)) (min (US (c*1+4) (min (UC (c:Int) T U O (cel c U O c) (c*1+4)) T) (UC (c:Int) T U O (cel c U O c)) (0+(c*11+4))) (-T)) (jE (c*1+4) [min (UC (c:Int) T U O (cel c U O c) (c*1+4)) T] (UC (c:Int) T U O (cel c U O c))) a),(0,GO.cells 49 [iI (c:Int),iI T,iI U,iI O])],nx:=68}
noncomputable def Ju6:Code:=U9 (VS (U7 Tryz.f158) 2)
def Wj9(k:Nat):St:=(upE [(83,i k)] [(5,.ints 301 [] 125 (UC c T U O (rdM c T U O a b u v k))),(0,.cells 49 [i c,i T,i U,i O]),(63,.memo (sn a b u v k) (λ_=> .bool true))] (Zu2 c T U O n a b u v))
def CO(k:Nat):G5->Option St
 | .exit 6=>some (upE [(83,i n)] [(5,.ints 301 [] 125 (UC c T U O (rdM c T U O a b u v n))),(0,.cells 49 [i c,i T,i U,i O]),(63,.memo (sn a b u v n) (λ_=> .bool true))] (Zu2 c T U O n a b u v))
 |_=>none
def Jp6:CT:= .leaf (.exit 6,(CO c T U O n a b u v 0 (.exit 6)).getD (Zu2 c T U O n a b u v))
def Xy8:UG:=GJ [] (HF (Wj9 c T U O n a b u v (0)) (Jp6 c T U O n a b u v))
abbrev ZM:Prop:=AV.mp 63=AV.mp 63
theorem Je3(VR:1<=c/\c<=10)(UE:1<=U/\U<=O/\O<=200/\1<=T/\T<=2000)(HK:n<=1000)(F1:D3 (λk=>rdB c (a k) (b k) (u k) (v k)) n=true):G6 VO (.loop Ju6) (Xy8 c T U O n a b u v):=by
 refine UR [] (L:=[]) (Ae LU Aa) (Ai Ab (Ag LL Ac)) VZ U2 (X:=Nat) (Wj9 c T U O n a b u v) (λk=>k<=n) (λk=>n-k) (CO c T U O n a b u v) (x0:=0) VT ?_ ?_ ?_;rintro k;kernel_rfl;rintro k y E h;unfold CO at h;split at h;cases h;kernel_rfl;cases h;rintro Q hQ k hx;refine ⟨(k+1),?_⟩
 (with_reducible refine D9 (t:=let z9:=sn a b u v k;let z3:=(Value.agg #[Value.int IntKind.i64 (a k),Value.int IntKind.i64 (b k),Value.int IntKind.i64 (u k),Value.int IntKind.i64 (v k)]);let z7:=(rdM c T U O a b u v k);let z2:=(UC (c:Int) T U O z7 ((b k).toNat*1+((a k).toNat*11+4)));let z10:=(UC (c:Int) T U O z7);let z5:=(US ((b k).toNat*1+((a k).toNat*11+4)) (min z2 (v k)) z10 ((a k).toNat*1+((b k+1).toNat*11+4)));let z6:=(VY (agg [iI (c:Int),iI T,iI U,iI O]));let z8:=Q4 n a b u v;let z4:=(VY ((c:Int)+1));let z11:=(rdM c T U O a b u v (k+1));let A:=(need [∀(u_1:Value),z9 u_1->Value.bool true=Value.bool true,FG Tryz.prog 303 (λu_1=>z9 u_1\/u_1=Value.agg #[Value.int IntKind.i64 (a k),Value.int IntKind.i64 (b k),Value.int IntKind.i64 (u k),Value.int IntKind.i64 (v k)]) z3 (YG)] (need [UI (a k) 11] (need [UI (b k) 11] (need [(b k).toNat*1+((a k).toNat*11+4)<125] (need [UI (a k) 11] (need [UI (b k) 11] (need [(b k).toNat*1+((a k).toNat*11+4)+List.length [min z2 (v k)]<=125] (branch (decide (b k<(c:Int))) (need [VL (b k+1)] (need [VL (-u k)] (need [VL (-u k-1)] (need [UI (b k+1) 11] (need [UI (a k) 11] (need [(a k).toNat*1+((b k+1).toNat*11+4)<125] (need [UI (b k+1) 11] (need [UI (a k) 11] (need [(a k).toNat*1+((b k+1).toNat*11+4)+List.length [min z5 (-u k-1)]<=125] (need [VL ((k:Int)+1)] (need [z6,z8,XM,QU=QU,X6,XY,ZM,z4,z4,VY (c:Int),VY (c:Int),z8,VY (n:Int),(k:Int)+1=(↑(k+1):Int),125=125,GV 125 (US ((a k).toNat*1+((b k+1).toNat*11+4)) (min z5 (-u k-1)) (jE ((b k).toNat*1+((a k).toNat*11+4)) [min z2 (v k)] z10)) (UC (c:Int) T U O z11),VY (c:Int),T=T,U=U,O=O,∀(k_1:Value),z9 k_1\/k_1=Value.agg #[Value.int IntKind.i64 (a k),Value.int IntKind.i64 (b k),Value.int IntKind.i64 (u k),Value.int IntKind.i64 (v k)]->sn a b u v (k+1) k_1/\Value.bool true=Value.bool true] (leaf G5.normal)))))))))))) (need [VL ((k:Int)+1)] (need [z6,z8,XM,QU=QU,X6,XY,ZM,z4,z4,VY (c:Int),VY (c:Int),z8,VY (n:Int),(k:Int)+1=(↑(k+1):Int),125=125,GV 125 (US ((b k).toNat*1+((a k).toNat*11+4)) (min z2 (v k)) z10) (UC (c:Int) T U O z11),VY (c:Int),T=T,U=U,O=O,∀(k_1:Value),z9 k_1\/k_1=Value.agg #[Value.int IntKind.i64 (a k),Value.int IntKind.i64 (b k),Value.int IntKind.i64 (u k),Value.int IntKind.i64 (v k)]->sn a b u v (k+1) k_1/\Value.bool true=Value.bool true] (leaf G5.normal)))))))))));let W:=(need [VL ((k:Int)+1)] (need [z6,z8,XM,QU=QU,X6,XY,ZM,z4,z4,VY (c:Int),VY (c:Int),z8,VY (n:Int),(k:Int)+1=(↑(k+1):Int),125=125,GV 125 (UC (c:Int) T U O z7) (UC (c:Int) T U O z11),VY (c:Int),T=T,U=U,O=O,∀(k_1:Value),z9 k_1->sn a b u v (k+1) k_1/\Value.bool true=Value.bool true] (leaf G5.normal)));(branch (decide ((k:Int)<(n:Int))) (need [UI k n] (need [FG Tryz.prog 303 (z9) z3 (YG)] (VM.may (z9 z3) (branch true W A) (branch false W A)))) (need [z6,z8,XM,QU=QU,X6,XY,ZM,z4,z4,VY (c:Int),VY (c:Int),z8,VY (n:Int),(k:Int)=(n:Int),125=125,GV 125 (UC (c:Int) T U O z7) (UC (c:Int) T U O (rdM c T U O a b u v n)),VY (c:Int),T=T,U=U,O=O,∀(k_1:Value),z9 k_1->sn a b u v n k_1/\Value.bool true=Value.bool true] (leaf (G5.exit 6))))) VU ?_)
 simp only [Jp6,CO,VM.sat,GS] at hQ;simp only [VM.sat,UB,G0,GL,UD,VL,UH,HA,FU,R9,RQ,GN,CO]
 have hv: ∀j,j<n->(0<=a j/\a j<=c-1)/\(a j<=b j/\b j<=c)/\0<=u j/\u j<=v j/\v j<=2000:=by
  intro j hj;have:=GC.1 F1 j hj;simp only [rdB,GU,bt_iff,insB_iff] at this;omega
 refine ⟨λh=>?_,λh=>?_⟩;have hk:=hv k VJ;have mk:=Qo4 (a k) (b k) (u k) (v k);have q1:FG Tryz.prog 303 (sn a b u v k) (rdV (a k) (b k) (u k) (v k)) (.bool false):=mk.mono (λx hx=>Xu5 hx);have q2:FG Tryz.prog 303 (λx=>sn a b u v k x\/x=rdV (a k) (b k) (u k) (v k)) (rdV (a k) (b k) (u k) (v k)) (.bool false):=mk.mono (λx hx=>hx.elim Xu5 (λhe=>⟨_,_,_,_,he⟩));have sn1: ∀x,sn a b u v k x->sn a b u v (k+1) x:=λx ⟨j,hj,he⟩=>⟨j,VJ,he⟩;have sn2:sn a b u v (k+1) (rdV (a k) (b k) (u k) (v k)):=⟨k,VJ,rfl⟩;refine ⟨VJ,q1,λhs=>⟨λ_=>?_,λhc=>absurd hc (by decide)⟩,λhc=>absurd hc (by decide),λ_=>?_⟩
 ·rw [Wd6 hs]
  (with_reducible repeat' first|apply Al|intro _)
  all_goals first|exact PO|(exact sn1 _ (by assumption))
 have h1: ∀M w,US ((b k).toNat*1+((a k).toNat*11+4)) (min (UC c T U O M ((b k).toNat*1+((a k).toNat*11+4))) w) (UC c T U O M)=UC c T U O (bnd M (a k).toNat (b k).toNat w):=λM w=>zX VJ VJ;refine ⟨⟨λ_ _=>trivial,q2⟩,?_⟩;simp only [h1];refine ⟨VJ,VJ,VJ,VJ,VJ,VJ,λhb=>?_,λhb=>?_⟩;have h2: ∀M w,US ((a k).toNat*1+((b k+1).toNat*11+4)) (min (UC c T U O M ((a k).toNat*1+((b k+1).toNat*11+4))) w) (UC c T U O M)=UC c T U O (bnd M (b k+1).toNat (a k).toNat w):=λM w=>zX VJ VJ;have e3:rdM c T U O a b u v (k+1)=bnd (bnd (rdM c T U O a b u v k) (a k).toNat (b k).toNat (v k)) (b k+1).toNat (a k).toNat (-u k-1):=by
  show rdS _ _ _ _ _ _=_;unfold rdS;rw [if_pos hb]
 simp only [h2,e3];exact VH;have e3:rdM c T U O a b u v (k+1)=bnd (rdM c T U O a b u v k) (a k).toNat (b k).toNat (v k):=by
  show rdS _ _ _ _ _ _=_;unfold rdS;rw [if_neg hb]
 simp only [e3];exact VH
 ·obtain rfl:k=n:=VJ
  (with_reducible repeat' first|apply Al|intro _)
  all_goals first|exact PO|(assumption)
end
def fwS(M:Nat->Cg)(o f t:Nat):Nat->Cg:=bnd M f t (M f o+M o t)
def fwT(M:Nat->Cg)(o f:Nat):Nat->Nat->Nat->Int
 | 0=>M
 |t+1=>fwS (fwT M o f t) o f t
def fwF(c:Nat)(M:Nat->Cg)(o:Nat):Nat->Nat->Nat->Int
 | 0=>M
 |f+1=>fwT (fwF c M o f) o f (c+1)
def fwO(c:Nat)(M:Nat->Cg):Nat->Nat->Nat->Int
 | 0=>M
 |o+1=>fwF c (fwO c M o) o (c+1)
def LB(B:Int)(M:Nat->Cg):Prop:= ∀x y,-B<=M x y/\M x y<=2000
def JB(B:Int)(o f t:Nat)(M:Nat->Cg):Prop:= ∀x y,M x y<=2000/\ -(6*B)<=M x y/\(x=o-> -(3*B)<=M x y)/\(y=o-> -(3*B)<=M x y)/\(x=o->y=o-> -(2*B)<=M x y)/\(¬(x<f\/(x=f/\y<t))-> -B<=M x y)
theorem Xb9{B:Int}{o:Nat}{M:Nat->Cg}(hB:0<=B)(h:LB B M):JB B o 0 0 M:=by
 intro x y;have:=h x y;refine ⟨VJ,VJ,λ_=>VJ,λ_=>VJ,λ_ _=>VJ,λ_=>VJ⟩
theorem Xq4{B:Int}{o f t:Nat}{M:Nat->Cg}(hB:0<=B)(h:JB B o f t M):JB B o f (t+1) (fwS M o f t):=by
 have hft:=h f t;have hfo:=h f o;have hot:=h o t;have hoo:=h o o;have I:=hft.2.2.2.2.2 VJ;intro x y;have hxy:=h x y;unfold fwS bnd wZ;by_cases hc:x=f/\y=t;exact V3;rw [if_neg hc];exact ⟨hxy.1,hxy.2.1,hxy.2.2.1,hxy.2.2.2.1,hxy.2.2.2.2.1,λhv=>hxy.2.2.2.2.2 VJ⟩
theorem Zt5{B:Int}{o f:Nat}{M:Nat->Cg}(hB:0<=B)(h:JB B o f 0 M): ∀t,JB B o f t (fwT M o f t)
 | 0=>h
 |t+1=>Xq4 hB (Zt5 hB h t)
theorem Zt4{B:Int}{o f t:Nat}{M:Nat->Cg}(h:JB B o f t M):JB B o (f+1) 0 M:=by
 intro x y;have hxy:=h x y;exact ⟨hxy.1,hxy.2.1,hxy.2.2.1,hxy.2.2.2.1,hxy.2.2.2.2.1,λhv=>hxy.2.2.2.2.2 VJ⟩
theorem Zt6{B:Int}{c o:Nat}{M:Nat->Cg}(hB:0<=B)(h:LB B M): ∀f,JB B o f 0 (fwF c M o f)
 | 0=>Xb9 hB h
 |f+1=>Zt4 (Zt5 hB (Zt6 hB h f) (c+1))
theorem Zt3{c:Nat}{M:Nat->Cg}(h:LB 2001 M): ∀o,LB (2001*6^o) (fwO c M o)
 | 0=>by
  rw [show (2001:Int)*6^0=2001 by decide]
  exact h
 |o+1=>by
  have ih:=Zt3 (c:=c) h o;have hp:(0:Int)<=2001*6^o:=Bz VJ (Int.pow_nonneg VJ);have hj:=Zt6 (c:=c) (o:=o) hp ih (c+1);intro x y;have:=hj x y;have e:(2001:Int)*6^(o+1)=6*(2001*6^o):=by rw [Int.pow_succ];omega
  rw [e];exact ⟨this.2.1,this.1⟩
theorem Jf3: ∀o:Nat,o<=10->(6:Int)^o<=60466176:=by
 intro o ho;rcases (show o=0\/o=1\/o=2\/o=3\/o=4\/o=5\/o=6\/o=7\/o=8\/o=9\/o=10 by omega) with rfl|rfl|rfl|rfl|rfl|rfl|rfl|rfl|rfl|rfl|rfl<;>decide
theorem Jl2{c:Nat}{M:Nat->Cg}(h:LB 2001 M){o f t:Nat}(ho:o<=10)(x y:Nat): -800000000000<=fwT (fwF c (fwO c M o) o f) o f t x y/\fwT (fwF c (fwO c M o) o f) o f t x y<=2000:=by
 have ih:=Zt3 (c:=c) h o;have hp:(0:Int)<=2001*6^o:=Bz VJ (Int.pow_nonneg VJ);have hj:=Zt5 hp (Zt6 (c:=c) (o:=o) hp ih f) t x y;have:=Jf3 o ho;omega
theorem u6{B:Int}{M:Nat->Cg}(h:LB B M){a b:Nat}{v:Int}(hv: -B<=v):LB B (bnd M a b v):=by
 intro x y;have h1:=h a b;have h2:=h x y;unfold bnd wZ;split<;>omega
theorem Wv1{c:Nat}{U O:Int}(h:1<=U/\U<=O/\O<=200): ∀k,LB 2001 (cel c U O k)
 | 0=>by
  intro x y;unfold cel ini;split<;>omega
 |k+1=>u6 (u6 (Wv1 h k) VJ) VJ
theorem o8{c:Nat}{T U O:Int}{a b u v:Cg}{n:Nat}(h:1<=U/\U<=O/\O<=200/\1<=T/\T<=2000)(hv: ∀j,j<n->0<=u j/\u j<=v j/\v j<=2000): ∀k,k<=n->LB 2001 (rdM c T U O a b u v k)
 | 0,_=>u6 (u6 (Wv1 VJ c) VJ) VJ
 |k+1,hk=>by
  have ih:=o8 (c:=c) (a:=a) (b:=b) h hv k VJ;have:=hv k VJ;show LB 2001 (rdS _ _ _ _ _ _);unfold rdS;split;exact u6 (u6 ih VJ) VJ;exact u6 ih VJ
section
variable (c:Nat)(T U O:Int)(n:Nat)(a b u v:Cg)
def tP:St:={σ:=[agg [iI (c:Int),iI T,iI U,iI O],X9 n a b u v,ptr 0 0,top,QU,AV.lit false,ptr 5 0,top,top,top,AV.mp 63]++HI 11 [iI ((c:Int)+1),iI ((c:Int)+1)]++HI 21 [iI (c:Int),iI (c:Int)]++HI 34 [X9 n a b u v,iI (n:Int),iI (n:Int)]++HI 37 [iI ((c:Int)+1)]++HI 56 [],m:=[(5,GO.ints 301 [] 125 λk=>UC (c:Int) T U O (rdM c T U O a b u v n) k),(0,GO.cells 49 [iI (c:Int),iI T,iI U,iI O]),(63,GO.memo (λx=>sn a b u v n x) λx=>Value.bool true)],nx:=72}
noncomputable def Qv3:Code:=U9 (VS (U7 Tryz.f158) 3)
def EY(o:Nat):St:=(upE [(122,i o)] [(5,.ints 301 [] 125 (UC c T U O (fwO c (rdM c T U O a b u v n) o))),(0,.cells 49 [i c,i T,i U,i O])] (tP c T U O n a b u v))
def qI(o:Nat):G5->Option St
 | .exit 8=>some (upE [(122,i ((c:Int)+1))] [(5,.ints 301 [] 125 (UC c T U O (fwO c (rdM c T U O a b u v n) (c+1)))),(0,.cells 49 [i c,i T,i U,i O])] (tP c T U O n a b u v))
 |_=>none
def Wy1:CT:= .leaf (.exit 8,(qI c T U O n a b u v 0 (.exit 8)).getD (tP c T U O n a b u v))
def nA:UG:=GJ [] (HF (EY c T U O n a b u v (0)) (Wy1 c T U O n a b u v))
def Zu1(o:Nat):St:={σ:=[agg [iI (c:Int),iI T,iI U,iI O],X9 n a b u v,ptr 0 0,top,QU,AV.lit false,ptr 5 0,top,top,top,AV.mp 63,top,top,iI (o:Int)]++HI 8 [iI ((c:Int)+1),iI ((c:Int)+1)]++HI 21 [iI (c:Int),iI (c:Int)]++HI 34 [X9 n a b u v,iI (n:Int),iI (n:Int)]++HI 37 [iI ((c:Int)+1),iI (o:Int),top,top,top,top,iI ((c:Int)+1)]++HI 50 [],m:=[(5,GO.ints 301 [] 125 λk=>UC (c:Int) T U O (fwO c (rdM c T U O a b u v n) o) k),(0,GO.cells 49 [iI (c:Int),iI T,iI U,iI O])],nx:=79}
noncomputable def Zw9:Code:=(U9 (VS (U9 (VS (U7 Tryz.f158) 3)) 0))
def Wj8(o:Nat)(f:Nat):St:=(upE [(128,i f)] [(5,.ints 301 [] 125 (UC c T U O (fwF c (fwO c (rdM c T U O a b u v n) o) o f))),(0,.cells 49 [i c,i T,i U,i O])] (Zu1 c T U O n a b u v o))
def CN(o:Nat)(f:Nat):G5->Option St
 | .exit 10=>some (upE [(128,i ((c:Int)+1))] [(5,.ints 301 [] 125 (UC c T U O (fwF c (fwO c (rdM c T U O a b u v n) o) o (c+1)))),(0,.cells 49 [i c,i T,i U,i O])] (Zu1 c T U O n a b u v o))
 |_=>none
def Jp5(o:Nat):CT:= .leaf (.exit 10,(CN c T U O n a b u v o 0 (.exit 10)).getD (Zu1 c T U O n a b u v o))
def Xy7(o:Nat):UG:=GJ [] (HF (Wj8 c T U O n a b u v o (0)) (Jp5 c T U O n a b u v o))
def bN(o:Nat)(f:Nat):St:={σ:=[agg [iI (c:Int),iI T,iI U,iI O],X9 n a b u v,ptr 0 0,top,QU,AV.lit false,ptr 5 0,top,top,top,AV.mp 63,top,top,iI (o:Int),iI (f:Int)]++HI 7 [iI ((c:Int)+1),iI ((c:Int)+1)]++HI 21 [iI (c:Int),iI (c:Int)]++HI 34 [X9 n a b u v,iI (n:Int),iI (n:Int)]++HI 37 [iI ((c:Int)+1),iI (o:Int),top,top,top,top,iI ((c:Int)+1),iI (f:Int),top,top,top,top,iI ((c:Int)+1)]++HI 44 [],m:=[(5,GO.ints 301 [] 125 λk=>UC (c:Int) T U O (fwF c (fwO c (rdM c T U O a b u v n) o) o f) k),(0,GO.cells 49 [iI (c:Int),iI T,iI U,iI O])],nx:=86}
noncomputable def Xe5:Code:=(U9 (VS (U9 (VS (U9 (VS (U7 Tryz.f158) 3)) 0)) 0))
def EX(o:Nat)(f:Nat)(t:Nat):St:=(upE [(134,i t)] [(5,.ints 301 [] 125 (UC c T U O (fwT (fwF c (fwO c (rdM c T U O a b u v n) o) o f) o f t))),(0,.cells 49 [i c,i T,i U,i O])] (bN c T U O n a b u v o f))
def PQ(o:Nat)(f:Nat)(t:Nat):G5->Option St
 | .exit 12=>some (upE [(134,i ((c:Int)+1))] [(5,.ints 301 [] 125 (UC c T U O (fwT (fwF c (fwO c (rdM c T U O a b u v n) o) o f) o f (c+1)))),(0,.cells 49 [i c,i T,i U,i O])] (bN c T U O n a b u v o f))
 |_=>none
def Wy0(o:Nat)(f:Nat):CT:= .leaf (.exit 12,(PQ c T U O n a b u v o f 0 (.exit 12)).getD (bN c T U O n a b u v o f))
def mZ(o:Nat)(f:Nat):UG:=GJ [] (HF (EX c T U O n a b u v o f (0)) (Wy0 c T U O n a b u v o f))
theorem Wc9(o:Nat)(f:Nat)(VR:1<=c/\c<=10)(UE:1<=U/\U<=O/\O<=200/\1<=T/\T<=2000)(HK:n<=1000)(F1:D3 (λk=>rdB c (a k) (b k) (u k) (v k)) n=true)(BR:o<=c)(zD:f<=c):G6 VO (.loop Xe5) (mZ c T U O n a b u v o f):=by
 refine UR [] (L:=[]) (Ae LU Aa) (Ai Ab (Ag LL Ac)) VZ U2 (X:=Nat) (EX c T U O n a b u v o f) (λt=>t<=c+1) (λt=>c+1-t) (PQ c T U O n a b u v o f) (x0:=0) VT ?_ ?_ ?_;rintro t;kernel_rfl;rintro t y E h;unfold PQ at h;split at h;cases h;kernel_rfl;cases h;rintro Q hQ t hx;refine ⟨(t+1),?_⟩;(with_reducible refine D9 (t:=let z2:=(fwF c (fwO c (rdM c T U O a b u v n) o) o f);let A:=(fwT z2 o f t);let W:=(VY ((c:Int)+1));let z3:=(UC (c:Int) T U O A (t*1+(f*11+4)));(branch (decide ((t:Int)<(c:Int)+1)) (need [UI f 11] (need [UI o 11] (need [o*1+(f*11+4)<125] (need [UI o 11] (need [UI t 11] (need [t*1+(o*11+4)<125] (need [VL (UC (c:Int) T U O A (o*1+(f*11+4))+UC (c:Int) T U O A (t*1+(o*11+4)))] (need [UI f 11] (need [UI t 11] (need [t*1+(f*11+4)<125] (need [UI f 11] (need [UI t 11] (need [t*1+(f*11+4)+List.length [min z3 (UC (c:Int) T U O A (o*1+(f*11+4))+UC (c:Int) T U O A (t*1+(o*11+4)))]<=125] (need [VL ((t:Int)+1)] (need [VY (agg [iI (c:Int),iI T,iI U,iI O]),Q4 n a b u v,XM,QU=QU,X6,XY,ZM,VY (o:Int),VY (f:Int),W,W,VY (c:Int),VY (c:Int),Q4 n a b u v,VY (n:Int),VY (n:Int),W,VY (o:Int),W,VY (f:Int),W,(t:Int)+1=(↑(t+1):Int),125=125,GV 125 (US (t*1+(f*11+4)) (min z3 (UC (c:Int) T U O A (o*1+(f*11+4))+UC (c:Int) T U O A (t*1+(o*11+4)))) (UC (c:Int) T U O A)) (UC (c:Int) T U O (fwT z2 o f (t+1))),VY (c:Int),T=T,U=U,O=O] (leaf G5.normal)))))))))))))))) (need [VY (agg [iI (c:Int),iI T,iI U,iI O]),Q4 n a b u v,XM,QU=QU,X6,XY,ZM,VY (o:Int),VY (f:Int),W,W,VY (c:Int),VY (c:Int),Q4 n a b u v,VY (n:Int),VY (n:Int),W,VY (o:Int),W,VY (f:Int),W,(t:Int)=(c:Int)+1,125=125,GV 125 (UC (c:Int) T U O A) (UC (c:Int) T U O (fwT z2 o f (c+1))),VY (c:Int),T=T,U=U,O=O] (leaf (G5.exit 12))))) VU ?_);simp only [Wy0,PQ,VM.sat,GS] at hQ;simp only [VM.sat,UB,G0,GL,UD,VL,UH,HA,FU,R9,RQ,GN,PQ]
 have hv: ∀j,j<n->0<=u j/\u j<=v j/\v j<=2000:=by
  intro j hj;have:=GC.1 F1 j hj;simp only [rdB,GU,bt_iff,insB_iff] at this;omega
 have hl:=λx y=>Jl2 (c:=c) (o8 (c:=c) (a:=a) (b:=b) UE hv n (Am _)) (o:=o) (f:=f) (t:=t) VJ x y;have hfo:=hl f o;have hot:=hl o t;refine ⟨λh=>?_,λh=>?_⟩
 ·have h1: ∀M,UC c T U O M (o*1+(f*11+4))=M f o:=λM=>qE _ _ _ _ _ VJ VJ;have h2: ∀M,UC c T U O M (t*1+(o*11+4))=M o t:=λM=>qE _ _ _ _ _ VJ VJ;have h3: ∀M v,US (t*1+(f*11+4)) (min (UC c T U O M (t*1+(f*11+4))) v) (UC c T U O M)=UC c T U O (bnd M f t v):=λM v=>zX VJ VJ;simp only [h3];simp only [h1,h2]
  (with_reducible repeat' first|apply Al|intro _)
  all_goals first|exact Ak|omega|with_reducible rfl|(rename_i E hE;cases hE;exact hQ)|rfl
 ·obtain rfl:t=c+1:=VJ
  (with_reducible repeat' first|apply Al|intro _)
  all_goals first|exact Ak|omega|with_reducible rfl|(rename_i E hE;cases hE;exact hQ)|rfl
theorem Jd9(o:Nat)(VR:1<=c/\c<=10)(UE:1<=U/\U<=O/\O<=200/\1<=T/\T<=2000)(HK:n<=1000)(F1:D3 (λk=>rdB c (a k) (b k) (u k) (v k)) n=true)(BR:o<=c):G6 VO (.loop Zw9) (Xy7 c T U O n a b u v o):=by
 refine UR [] (L:=[BC 14 (λk=>F2 [k<=c] (mZ c T U O n a b u v o k))]) (Ae LU Aa) (Ai Ab (Ag LL Ac)) VZ (G7 (λcj hcj=>by
  have e:VS Zw9 0=some (.loop Xe5):=VU;rw [e] at hcj;cases hcj;exact L5 (λk=>HJ (λh=>Wc9 c T U O n a b u v o k VR UE HK F1 BR h)))) (X:=Nat) (Wj8 c T U O n a b u v o) (λf=>f<=c+1) (λf=>c+1-f) (CN c T U O n a b u v o) (x0:=0) VT ?_ ?_ ?_
 rintro f;kernel_rfl;rintro f y E h;unfold CN at h;split at h;cases h;kernel_rfl;cases h;rintro Q hQ f hx;refine ⟨(f+1),?_⟩;(with_reducible refine D9 (t:=let A:=(VY ((c:Int)+1));let W:=(fwO c (rdM c T U O a b u v n) o);let z2:=(VY (agg [iI (c:Int),iI T,iI U,iI O]));let z3:=Q4 n a b u v;(branch (decide ((f:Int)<(c:Int)+1)) (need [VL ((c:Int)+1)] (need [f<=c] (need [z2,z3,XM,QU=QU,X6,XY,ZM,VY (o:Int),VY (f:Int),A,A,VY (c:Int),VY (c:Int),z3,VY (n:Int),VY (n:Int),A,VY (o:Int),A,VY (f:Int),A,(0:Int)=((0:Nat):Int),125=125,GV 125 (UC (c:Int) T U O (fwF c W o f)) (UC (c:Int) T U O (fwT (fwF c W o f) o f 0)),VY (c:Int),T=T,U=U,O=O] (need [VL ((f:Int)+1)] (need [z2,z3,XM,QU=QU,X6,XY,ZM,VY (o:Int),A,A,VY (c:Int),VY (c:Int),z3,VY (n:Int),VY (n:Int),A,VY (o:Int),A,(f:Int)+1=(↑(f+1):Int),125=125,GV 125 (UC (c:Int) T U O (fwT (fwF c W o f) o f (c+1))) (UC (c:Int) T U O (fwF c W o (f+1))),VY (c:Int),T=T,U=U,O=O] (leaf G5.normal)))))) (need [z2,z3,XM,QU=QU,X6,XY,ZM,VY (o:Int),A,A,VY (c:Int),VY (c:Int),z3,VY (n:Int),VY (n:Int),A,VY (o:Int),A,(f:Int)=(c:Int)+1,125=125,GV 125 (UC (c:Int) T U O (fwF c W o f)) (UC (c:Int) T U O (fwF c W o (c+1))),VY (c:Int),T=T,U=U,O=O] (leaf (G5.exit 10))))) VU ?_);simp only [Jp5,CN,VM.sat,GS] at hQ;simp only [VM.sat,UB,G0,GL,UD,VL,UH,HA,FU,R9,RQ,GN,CN]
 refine ⟨λh=>?_,λh=>?_⟩
 ·(with_reducible repeat' first|apply Al|intro _)
  all_goals first|exact Ak|omega|with_reducible rfl|(rename_i E hE;cases hE;exact hQ)|rfl
 ·obtain rfl:f=c+1:=VJ
  (with_reducible repeat' first|apply Al|intro _)
  all_goals first|exact Ak|omega|with_reducible rfl|(rename_i E hE;cases hE;exact hQ)|rfl
theorem Wd4(VR:1<=c/\c<=10)(UE:1<=U/\U<=O/\O<=200/\1<=T/\T<=2000)(HK:n<=1000)(F1:D3 (λk=>rdB c (a k) (b k) (u k) (v k)) n=true):G6 VO (.loop Qv3) (nA c T U O n a b u v):=by
 refine UR [] (L:=[BC 13 (λk=>F2 [k<=c] (Xy7 c T U O n a b u v k))]) (Ae LU Aa) (Ai Ab (Ag LL Ac)) VZ (G7 (λcj hcj=>by
  have e:VS Qv3 0=some (.loop Zw9):=VU;rw [e] at hcj;cases hcj;exact L5 (λk=>HJ (λh=>Jd9 c T U O n a b u v k VR UE HK F1 h)))) (X:=Nat) (EY c T U O n a b u v) (λo=>o<=c+1) (λo=>c+1-o) (qI c T U O n a b u v) (x0:=0) VT ?_ ?_ ?_
 rintro o;kernel_rfl;rintro o y E h;unfold qI at h;split at h;cases h;kernel_rfl;cases h;rintro Q hQ o hx;refine ⟨(o+1),?_⟩;(with_reducible refine D9 (t:=let A:=(VY ((c:Int)+1));let W:=(rdM c T U O a b u v n);let z2:=(VY (agg [iI (c:Int),iI T,iI U,iI O]));let z3:=Q4 n a b u v;(branch (decide ((o:Int)<(c:Int)+1)) (need [VL ((c:Int)+1)] (need [o<=c] (need [z2,z3,XM,QU=QU,X6,XY,ZM,VY (o:Int),A,A,VY (c:Int),VY (c:Int),z3,VY (n:Int),VY (n:Int),A,VY (o:Int),A,(0:Int)=((0:Nat):Int),125=125,GV 125 (UC (c:Int) T U O (fwO c W o)) (UC (c:Int) T U O (fwF c (fwO c W o) o 0)),VY (c:Int),T=T,U=U,O=O] (need [VL ((o:Int)+1)] (need [z2,z3,XM,QU=QU,X6,XY,ZM,A,A,VY (c:Int),VY (c:Int),z3,VY (n:Int),VY (n:Int),A,(o:Int)+1=(↑(o+1):Int),125=125,GV 125 (UC (c:Int) T U O (fwF c (fwO c W o) o (c+1))) (UC (c:Int) T U O (fwO c W (o+1))),VY (c:Int),T=T,U=U,O=O] (leaf G5.normal)))))) (need [z2,z3,XM,QU=QU,X6,XY,ZM,A,A,VY (c:Int),VY (c:Int),z3,VY (n:Int),VY (n:Int),A,(o:Int)=(c:Int)+1,125=125,GV 125 (UC (c:Int) T U O (fwO c W o)) (UC (c:Int) T U O (fwO c W (c+1))),VY (c:Int),T=T,U=U,O=O] (leaf (G5.exit 8))))) VU ?_);simp only [Wy1,qI,VM.sat,GS] at hQ;simp only [VM.sat,UB,G0,GL,UD,VL,UH,HA,FU,R9,RQ,GN,qI]
 refine ⟨λh=>?_,λh=>?_⟩
 ·(with_reducible repeat' first|apply Al|intro _)
  all_goals first|exact Ak|omega|with_reducible rfl|(rename_i E hE;cases hE;exact hQ)|rfl
 ·obtain rfl:o=c+1:=VJ
  (with_reducible repeat' first|apply Al|intro _)
  all_goals first|exact Ak|omega|with_reducible rfl|(rename_i E hE;cases hE;exact hQ)|rfl
def fwM:Nat->Cg:=fwO c (rdM c T U O a b u v n) (c+1)
def okR:Bool:=D3 (λk=>decide (0<=fwM c T U O n a b u v k k)) (c+1)
def Xd2:St:={σ:=[agg [iI (c:Int),iI T,iI U,iI O],X9 n a b u v,ptr 0 0,top,top,top,ptr 5 0,top,top,top,AV.mp 63]++HI 11 [iI ((c:Int)+1),iI ((c:Int)+1)]++HI 21 [iI (c:Int),iI (c:Int)]++HI 34 [X9 n a b u v,iI (n:Int),iI (n:Int)]++HI 37 [iI ((c:Int)+1),iI ((c:Int)+1)]++HI 40 [iI ((c:Int)+1)]++HI 14 [],m:=[(5,GO.ints 301 [] 125 λk=>UC (c:Int) T U O (fwO c (rdM c T U O a b u v n) (c+1)) k),(0,GO.cells 49 [iI (c:Int),iI T,iI U,iI O])],nx:=76}
noncomputable def Ju5:Code:=U9 (VS (U7 Tryz.f158) 4)
def Wj7(k:Nat):St:=(upE [(164,i k)] [(5,.ints 301 [] 125 (UC c T U O (fwM c T U O n a b u v))),(0,.cells 49 [i c,i T,i U,i O])] (Xd2 c T U O n a b u v))
def dK(k:Nat):G5->Option St
 | .ret=>some (upE [(4,.x (.pointer none)),(5,.lit false),(164,.top)] [(5,.ints 301 [] 125 (UC c T U O (fwM c T U O n a b u v))),(0,.cells 49 [i c,i T,i U,i O])] (Xd2 c T U O n a b u v))
 | .exit 14=>some (upE [(164,.top)] [(5,.ints 301 [] 125 (UC c T U O (fwM c T U O n a b u v))),(0,.cells 49 [i c,i T,i U,i O])] (Xd2 c T U O n a b u v))
 |_=>none
def Jp4:CT:= .branch (okR c T U O n a b u v) (.leaf (.exit 14,(dK c T U O n a b u v 0 (.exit 14)).getD (Xd2 c T U O n a b u v))) (.leaf (.ret,(dK c T U O n a b u v 0 .ret).getD (Xd2 c T U O n a b u v)))
def Xy6:UG:=GJ [] (HF (Wj7 c T U O n a b u v (0)) (Jp4 c T U O n a b u v))
theorem Jd8(VR:1<=c/\c<=10)(UE:1<=U/\U<=O/\O<=200/\1<=T/\T<=2000)(HK:n<=1000)(F1:D3 (λk=>rdB c (a k) (b k) (u k) (v k)) n=true):G6 VO (.loop Ju5) (Xy6 c T U O n a b u v):=by
 refine UR [] (L:=[]) (Ae LU Aa) (Ai Ab (Ag LL Ac)) VZ U2 (X:=Nat) (Wj7 c T U O n a b u v) (λk=>k<=c+1/\ ∀j,j<k->0<=fwM c T U O n a b u v j j) (λk=>c+1-k) (dK c T U O n a b u v) (x0:=0) VT ?_ ?_ ?_;rintro k;kernel_rfl;rintro k y E h;unfold dK at h;split at h;cases h;kernel_rfl;cases h;kernel_rfl;cases h;rintro Q hQ k hx;refine ⟨(k+1),?_⟩;(with_reducible refine D9 (t:=let A:=(VY ((c:Int)+1));let W:=(fwM c T U O n a b u v);let z2:=(VY (agg [iI (c:Int),iI T,iI U,iI O]));let z3:=Q4 n a b u v;(branch (decide ((k:Int)<(c:Int)+1)) (need [UI k 11] (need [UI k 11] (need [k*1+(k*11+4)<125] (branch (decide (UC (c:Int) T U O W (k*1+(k*11+4))<0)) (need [z2,z3,XM,QU=QU,X6,XY,ZM,A,A,VY (c:Int),VY (c:Int),z3,VY (n:Int),VY (n:Int),A,A,A,125=125,GQ 125 (UC (c:Int) T U O W),VY (c:Int),T=T,U=U,O=O] (leaf G5.ret)) (need [VL ((k:Int)+1)] (need [z2,z3,XM,XY,ZM,A,A,VY (c:Int),VY (c:Int),z3,VY (n:Int),VY (n:Int),A,A,A,(k:Int)+1=(↑(k+1):Int),125=125,GQ 125 (UC (c:Int) T U O W),VY (c:Int),T=T,U=U,O=O] (leaf G5.normal))))))) (need [z2,z3,XM,XY,ZM,A,A,VY (c:Int),VY (c:Int),z3,VY (n:Int),VY (n:Int),A,A,A,125=125,GQ 125 (UC (c:Int) T U O W),VY (c:Int),T=T,U=U,O=O] (leaf (G5.exit 14))))) VU ?_);simp only [Jp4,dK,VM.sat,GS] at hQ;simp only [VM.sat,UB,G0,GL,UD,VL,UH,HA,FU,R9,RQ,GN,dK]
 have h1:UC c T U O (fwM c T U O n a b u v) (k*1+(k*11+4))=fwM c T U O n a b u v k k\/11<=k:=by
  rcases An k 11 with h|h;exact .inl (qE _ _ _ _ _ VJ h);exact .inr h
 refine ⟨λh=>?_,λh=>?_⟩;have h2:=h1.resolve_right VJ;rw [h2];refine ⟨VJ,VJ,VJ,λhneg=>?_,λiR=>?_⟩
 ·have hno:okR c T U O n a b u v=false:=by
   cases ho:okR c T U O n a b u v;rfl;have:=GC.1 ho k VJ;simp at this;omega
  (with_reducible repeat' first|apply Al|intro _)
  all_goals first|exact PO|(rename_i E hE;cases hE;exact hQ.2 hno)
 exact VF
 ·obtain ⟨hx1,hx2⟩:=hx;obtain rfl:k=c+1:=VJ;have iJ:okR c T U O n a b u v=true:=GC.2 (λj hj=>by simpa using hx2 j hj)
  (with_reducible repeat' first|apply Al|intro _)
  all_goals first|exact PO|(rename_i E hE;cases hE;exact hQ.1 iJ)
end
theorem vY{S:Code->UG->Prop}{c:Code}{s0 s1 s2 s3 s4:UG}(h0: ∀cj,VS c 0=some cj->S cj s0)(h1: ∀cj,VS c 1=some cj->S cj s1)(h2: ∀cj,VS c 2=some cj->S cj s2)(h3: ∀cj,VS c 3=some cj->S cj s3)(h4: ∀cj,VS c 4=some cj->S cj s4):
  ∀j cj,VS c j=some cj-> ∀sp,[s0,s1,s2,s3,s4][j]? =some sp->S cj sp:=by
 intro j cj hj sp hsp
 match j with
 | 0=>simp at hsp;subst hsp;exact h0 cj hj
 | 1=>simp at hsp;subst hsp;exact h1 cj hj
 | 2=>simp at hsp;subst hsp;exact h2 cj hj
 | 3=>simp at hsp;subst hsp;exact h3 cj hj
 | 4=>simp at hsp;subst hsp;exact h4 cj hj
 |j+5=>simp at hsp
theorem UN.same{P:Program}{f:FuncId}{avs avs':List AV}{t:VM AV}(h:UN P f avs' t)(k:LX avs avs'):UN P f avs t:=λQ hQ e w args hro hgl FP hr=>h Q hQ e w args hro hgl (k.idf FP) (k.rep hr)
section
variable (c:Nat)(T U O:Int)(n:Nat)(a b u v:Cg)
abbrev Qa4:AV:= .roI [] 125 (UC c T U O (fwM c T U O n a b u v)) 0
abbrev nilP:AV:= .x (.pointer none)
theorem T7(VR:1<=c/\c<=10)(UE:1<=U/\U<=O/\O<=200/\1<=T/\T<=2000)(HK:n<=1000)(F1:D3 (λk=>rdB c (a k) (b k) (u k) (v k)) n=true):UN VO 158 [.agg [i c,i T,i U,i O],rds n a b u v] (.branch (okR c T U O n a b u v) (.leaf (.tup [Qa4 c T U O n a b u v,.lit true])) (.leaf (.tup [nilP,.lit false]))):=by
 refine GT (L:=[Xz1 c T U O n a b u v,Xy9 c T U O n a b u v,Xy8 c T U O n a b u v,nA c T U O n a b u v,Xy6 c T U O n a b u v]) (Ae LU Aa) (Ai Ab (Ag LL Ac)) VZ Tryz.func158 (UU Tryz.f158) (vY (lpE (b:= .loop Zx0) VU<|(Je7 c T U O n a b u v VR UE).N) (lpE (b:= .loop Ju7) VU<|(Je5 c T U O n a b u v VR UE).N) (lpE (b:= .loop Ju6) VU<|(Je3 c T U O n a b u v VR UE HK F1).N) (lpE (b:= .loop Qv3) VU<|(Wd4 c T U O n a b u v VR UE HK F1).N) (lpE (b:= .loop Ju5) VU<|(Jd8 c T U O n a b u v VR UE HK F1).N)) (t:=let A:=(VY ((c:Int)+1));let W:=(VY (agg [iI (c:Int),iI T,iI U,iI O]));let z2:=(UC (c:Int) T U O (cel c U O c) (c*1+4));let z3:=(US (c*1+4) (min z2 T) (UC (c:Int) T U O (cel c U O c)) (0+(c*11+4)));let z4:=Q4 n a b u v;(need [VL ((c:Int)+1)] (need [W,z4,XM,QU=QU,X6,XY,A,(0:Int)=((0:Nat):Int),List.length ([(c:Int),T,U,O]++bS 121)=125,GV 125 (UA ([(c:Int),T,U,O]++bS 121)) (UC (c:Int) T U O (ini c 0 0)),VY (c:Int),T=T,U=U,O=O] (need [W,z4,XM,QU=QU,X6,XY,A,A,VY (c:Int),(0:Int)=((0:Nat):Int),125=125,GV 125 (UC (c:Int) T U O (ini c (c+1) 0)) (UC (c:Int) T U O (cel c U O 0)),VY (c:Int),T=T,U=U,O=O] (need [UI 0 11] (need [UI c 11] (need [c*1+4<125] (need [UI 0 11] (need [UI c 11] (need [c*1+4+List.length [min z2 T]<=125] (need [VL (-T)] (need [UI c 11] (need [UI 0 11] (need [0+(c*11+4)<125] (need [UI c 11] (need [UI 0 11] (need [0+(c*11+4)+List.length [min z3 (-T)]<=125] (need [W,z4,XM,QU=QU,X6,XY,ZM,A,A,VY (c:Int),VY (c:Int),z4,VY (n:Int),(0:Int)=((0:Nat):Int),125=125,GV 125 (US (0+(c*11+4)) (min z3 (-T)) (jE (c*1+4) [min z2 T] (UC (c:Int) T U O (cel c U O c)))) (UC (c:Int) T U O (rdM c T U O a b u v 0)),VY (c:Int),T=T,U=U,O=O,∀(k:Value),False->sn a b u v 0 k/\k=Value.bool true] (need [VL ((c:Int)+1)] (need [W,z4,XM,QU=QU,X6,XY,ZM,A,A,VY (c:Int),VY (c:Int),z4,VY (n:Int),VY (n:Int),A,(0:Int)=((0:Nat):Int),125=125,GV 125 (UC (c:Int) T U O (rdM c T U O a b u v n)) (UC (c:Int) T U O (fwO c (rdM c T U O a b u v n) 0)),VY (c:Int),T=T,U=U,O=O] (need [VL ((c:Int)+1)] (need [W,z4,XM,XY,ZM,A,A,VY (c:Int),VY (c:Int),z4,VY (n:Int),VY (n:Int),A,A,A,(0:Int)=((0:Nat):Int),125=125,GV 125 (UC (c:Int) T U O (fwO c (rdM c T U O a b u v n) (c+1))) (UC (c:Int) T U O (fwM c T U O n a b u v)),VY (c:Int),T=T,U=U,O=O] (branch (okR c T U O n a b u v) (leaf (tup [roI [] 125 (λk=>UC (c:Int) T U O (fwM c T U O n a b u v) k) 0,AV.lit true])) (leaf (tup [QU,AV.lit false]))))))))))))))))))))))))) VU ?_
 intro Q hQ;have h1: ∀M w,US (c*1+4) (min (UC c T U O M (c*1+4)) w) (UC c T U O M)=UC c T U O (bnd M 0 c w):=λM w=>zX VJ VJ;have h2: ∀M w,US (0+(c*11+4)) (min (UC c T U O M (0+(c*11+4))) w) (UC c T U O M)=UC c T U O (bnd M c 0 w):=λM w=>zX VJ VJ;simp only [VM.sat,UB,UH,VL,RQ,GN,h1,h2] at hQ ⊢
 (with_reducible repeat' first|apply Al|intro _)
 all_goals first|exact Ak|omega|with_reducible rfl|rfl|exact Wb6 _ _ _ _ _ _|(rename_i h;exact h.elim)|(rename_i h;exact ⟨.tup [Qa4 c T U O n a b u v,.lit true],⟨⟨rfl,rfl,λ_ _=>rfl,rfl⟩,rfl,Ak⟩,hQ.1 h⟩)|(rename_i h;exact ⟨.tup [nilP,.lit false],⟨rfl,rfl,Ak⟩,hQ.2 h⟩)
end
def col(j:Nat)(f:Ci):Cg:=λk=>Wn2 (f k) j
def fQ:DD:=λl=>match l with
 |[.agg [.x (.int .i64 c),.x (.int .i64 T),.x (.int .i64 U),.x (.int .i64 O)],.lst 4 n f]=>some (.need [UF 4 n f,1<=c/\c<=10,1<=U/\U<=O/\O<=200/\1<=T/\T<=2000,n<=1000,D3 (λk=>rdB c (col 0 f k) (col 1 f k) (col 2 f k) (col 3 f k)) n=true]
   (.branch (okR c.toNat T U O n (col 0 f) (col 1 f) (col 2 f) (col 3 f)) (.leaf (.tup [Qa4 c.toNat T U O n (col 0 f) (col 1 f) (col 2 f) (col 3 f),.lit true])) (.leaf (.tup [nilP,.lit false]))))
 |_=>none
theorem x9:Enters VO 158/\ ∀avs t,fQ avs=some t->UN VO 158 avs t:=by
 refine ⟨(UJ Tryz.func158),?_⟩;intro avs t h;unfold fQ at h;split at h;rename_i c T U O n f;cases h;intro Q hQ;have I:=GE hQ.1;have hr:UF 4 n f:=I _ VT;have hc:1<=c/\c<=10:=I _ VT;have HZ:D3 (λk=>rdB c (col 0 f k) (col 1 f k) (col 2 f k) (col 3 f k)) n=true:=I _ VT;have e:((c.toNat:Nat):Int)=c:=VJ;have h0:=T7 c.toNat T U O n (col 0 f) (col 1 f) (col 2 f) (col 3 f) VJ (I _ VT) (I _ VT) (by rw [e];exact HZ)
 rw [e] at h0;exact UN.same h0 (.cons (.refl _) (.cons (.lst 4 n _ _ hr) .nil)) Q hQ.2;cases h
theorem PJ.same{P:Program}{f:FuncId}{avs avs':List AV}{t:VM AV}(h:PJ P f avs' t)(k:LX avs avs'):PJ P f avs t:=λQ hQ e w args hro hgl FP hr=>h Q hQ e w args hro hgl (k.idf FP) (k.rep hr)
def Qi7:UX
 |[.agg [.x (.int .i64 a),.x (.int .i64 b),.x (.int .i64 u),.x (.int .i64 v)],.ro [.fn (.func 192) [.agg [.x (.int .i64 c),.x (.int .i64 T),.x (.int .i64 U),.x (.int .i64 O)]] []]]=>some ([1<=c/\c<=10],bl (!rdB c a b u v))
 |_=>none
theorem Wx3(c T U O a b u v:Int)(VR:1<=c/\c<=10):VX VO 227 [.agg [i a,i b,i u,i v],.ro [.fn (.func 192) [.agg [i c,i T,i U,i O]] []]] (bl (!rdB c a b u v)):=by
 refine U1 (L:=[]) (Ae o1 Aa) VZ Tryz.func227 (UU Tryz.f227) U2 (t:=need [(1:Int)<=c/\c<=10] (leaf (RV.x (.bool !rdB c a b u v)))) VU ?_;simp [VM.sat,UB,G0,UD];exact VR
theorem mA:VP VO 227 Qi7:=by
 refine ⟨(UJ Tryz.func227),?_⟩;intro avs ns Z h I;unfold Qi7 at h;split at h;cases h;exact Wx3 _ _ _ _ _ _ _ _ (I _ VT);cases h
def yH(c:Int)(a b u v:Cg)(k:Nat):Bool:= !rdB c (a k) (b k) (u k) (v k)
def N9(c:Int)(n:Nat)(a b u v:Cg):Bool:=D3 (λk=>rdB c (a k) (b k) (u k) (v k)) n
abbrev X5(c:Int)(T:Int)(U:Int)(O:Int):AV:=AV.fn (Fn.func 227) [] [AV.ro [AV.fn (Fn.func 192) [agg [iI c,iI T,iI U,iI O]] []]]
section
variable (c T U O:Int)(n:Nat)(a b u v:Cg)
def nI:St:={σ:=[X9 n a b u v,X5 c T U O]++HI 5 [iI (n:Int)]++HI 11 [],m:=[],nx:=4}
noncomputable def Zc5:Code:=U9 (VS (U7 Tryz.f245) 0)
def Qd1(k:Nat):St:=(upM [(8,i k)] (nI c T U O n a b u v))
def kY(k:Nat):G5->Option St
 | .ret=>some (upM [(4,i (GX (yH c a b u v) n))] (nI c T U O n a b u v))
 | .exit 0=>some (upM [] (nI c T U O n a b u v))
 |_=>none
def Xw5:CT:= .branch (decide (GX (yH c a b u v) n<n)) (.leaf (.ret,(kY c T U O n a b u v 0 .ret).getD (nI c T U O n a b u v))) (.leaf (.exit 0,(kY c T U O n a b u v 0 (.exit 0)).getD (nI c T U O n a b u v)))
def Xb1:UG:=(HF (Qd1 c T U O n a b u v (0)) (Xw5 c T U O n a b u v))
theorem Zc8(VR:n<=100000)(UE:1<=c/\c<=10):G6 VO (.loop Zc5) (Xb1 c T U O n a b u v):=by
 refine HH (L:=[]) (Ae mA Aa) VZ U2 (X:=Nat) (Qd1 c T U O n a b u v) (λk=>k<=n/\ ∀j,j<k->yH c a b u v j=false) (λk=>n-k) (kY c T U O n a b u v) (x0:=0) VT ?_ ?_ ?_;rintro k;kernel_rfl;rintro k y E h;unfold kY at h;split at h;cases h;kernel_rfl;cases h;kernel_rfl;cases h;rintro Q hQ k hx;refine ⟨(k+1),?_⟩;(with_reducible refine D9 (t:=branch (decide ((k:Int)<(n:Int))) (need [UI k n] (need [(1:Int)<=c/\c<=10] (branch (!rdB c (a k) (b k) (u k) (v k)) (need [Q4 n a b u v,VY (X5 c T U O),(k:Int)=(↑(GX (yH c a b u v) n):Int),VY (n:Int)] (leaf G5.ret)) (need [VL ((k:Int)+1)] (need [Q4 n a b u v,VY (X5 c T U O),VY (n:Int),(k:Int)+1=(↑(k+1):Int)] (leaf G5.normal)))))) (need [Q4 n a b u v,VY (X5 c T U O),VY (n:Int)] (leaf (G5.exit 0)))) VU ?_);simp only [Xw5,kY,VM.sat,GS,HA] at hQ;simp only [VM.sat,UB,UH,HA,VL,kY,F4];refine ⟨λh=>⟨VJ,UE,λhb=>?_,λhb=>?_⟩,λh=>?_⟩;have hf:GX (yH c a b u v) n=k:=zQ VJ hb hx.2;refine ⟨VJ,λE hE=>?_⟩;cases hE;exact hQ.1 VJ;refine ⟨VJ,VJ,⟨VJ,λj hj=>?_⟩,VJ⟩;rcases (show j<k\/j=k by omega) with h1|rfl
 exact hx.2 j h1;exact hb;have hf:GX (yH c a b u v) n=n:=qB (λj hj=>hx.2 j VJ);intro E hE;cases hE;exact hQ.2 VJ
theorem Zc9(VR:n<=100000)(UE:1<=c/\c<=10):VX VO 245 [rds n a b u v,.fn (.func 227) [] [.ro [.fn (.func 192) [.agg [i c,i T,i U,i O]] []]]] (i (if GX (yH c a b u v) n<n then (GX (yH c a b u v) n:Int) else -1)):=by
 refine U1 (L:=[Xb1 c T U O n a b u v]) (Ae mA Aa) VZ Tryz.func245 (UU Tryz.f245) (G7 (lpE (b:= .loop Zc5) VU<|Zc8 c T U O n a b u v VR UE)) (t:=need [Q4 n a b u v,VY (X5 c T U O),VY (n:Int),(0:Int)=((0:Nat):Int)] (branch (decide (GX (yH c a b u v) n<n)) (leaf (RV.x (.int .i64 (↑(GX (yH c a b u v) n):Int)))) (leaf (RV.x (.int .i64 (-1:Int)))))) VU ?_
 exact VC
end
theorem isRec4(n:Nat)(a b u v:Cg):UF 4 n (λk=>[i (a k),i (b k),i (u k),i (v k)]):=λ_ _=>rfl
def Xw8:UX
 |[.lst 4 n f,.fn (.func 227) [] [.ro [.fn (.func 192) [.agg [.x (.int .i64 c),.x (.int .i64 T),.x (.int .i64 U),.x (.int .i64 O)]] []]]]=>some ([UF 4 n f,n<=100000,1<=c/\c<=10],i (if GX (yH c (col 0 f) (col 1 f) (col 2 f) (col 3 f)) n<n then (GX (yH c (col 0 f) (col 1 f) (col 2 f) (col 3 f)) n:Int) else -1))
 |_=>none
def Xx3:UX
 |[.lst 4 n f,.fn (.func 227) [] [.ro [.fn (.func 192) [.agg [.x (.int .i64 c),.x (.int .i64 T),.x (.int .i64 U),.x (.int .i64 O)]] []]]]=>some ([UF 4 n f,n<=100000,1<=c/\c<=10],bl (!N9 c n (col 0 f) (col 1 f) (col 2 f) (col 3 f)))
 |_=>none
def Wz3:UX
 |[.lst 4 n f,.fn (.func 192) [.agg [.x (.int .i64 c),.x (.int .i64 T),.x (.int .i64 U),.x (.int .i64 O)]] []]=>some ([UF 4 n f,n<=100000,1<=c/\c<=10],bl (N9 c n (col 0 f) (col 1 f) (col 2 f) (col 3 f)))
 |_=>none
def flt(c T U O:Int)(n:Nat)(a b u v:Cg):Int:=if qD c T U O then (if 12<n then 3 else if N9 c n a b u v then 0 else 2) else 1
def Qi1:UX
 |[.agg [.x (.int .i64 c),.x (.int .i64 T),.x (.int .i64 U),.x (.int .i64 O)],.lst 4 n f]=>some ([UF 4 n f],i (flt c T U O n (col 0 f) (col 1 f) (col 2 f) (col 3 f)))
 |_=>none
theorem Zc7:VP VO 245 Xw8:=by
 refine ⟨(UJ Tryz.func245),?_⟩;intro avs ns Z h I;unfold Xw8 at h;split at h;cases h;have hr:UF 4 _ _:=I _ (GD);exact (Zc9 _ _ _ _ _ (col 0 _) (col 1 _) (col 2 _) (col 3 _) (I _ VT) (I _ VT)).same (.cons (.lst 4 _ _ _ hr) (.cons (.refl _) .nil));cases h
section
variable (c T U O:Int)(n:Nat)(a b u v:Cg)
theorem Zr0(VR:n<=100000)(UE:1<=c/\c<=10):VX VO 226 [rds n a b u v,.fn (.func 227) [] [.ro [.fn (.func 192) [.agg [i c,i T,i U,i O]] []]]] (bl (!N9 c n a b u v)):=by
 refine U1 (L:=[]) (Ae Zc7 Aa) VZ Tryz.func226 (UU Tryz.f226) U2 (t:=need [UF 4 n λk=>[i (a k),i (b k),i (u k),i (v k)],n<=100000,(1:Int)<=c/\c<=10] (leaf (RV.x (.bool (decide ((if GX (yH c a b u v) n<n then (↑(GX (yH c a b u v) n):Int) else (-1:Int))>=(0:Int))))))) VU ?_
 simp only [VM.sat,UB,G0,UD,UH];refine ⟨⟨isRec4 n _ _ _ _,VR,UE⟩,?_⟩;unfold N9;rw [kM];have:=F6 (yH c a b u v) n;have e:(λk=> !(λk=>rdB c (a k) (b k) (u k) (v k)) k)=yH c a b u v:=rfl;rw [e];split<;>simp<;>omega
theorem Zq9:VP VO 226 Xx3:=by
 refine ⟨(UJ Tryz.func226),?_⟩;intro avs ns Z h I;unfold Xx3 at h;split at h;cases h;have hr:UF 4 _ _:=I _ (GD);exact (Zr0 _ _ _ _ _ (col 0 _) (col 1 _) (col 2 _) (col 3 _) (I _ VT) (I _ VT)).same (.cons (.lst 4 _ _ _ hr) (.cons (.refl _) .nil));cases h
theorem Xp1(VR:n<=100000)(UE:1<=c/\c<=10):VX VO 193 [rds n a b u v,.fn (.func 192) [.agg [i c,i T,i U,i O]] []] (bl (N9 c n a b u v)):=by
 refine U1 (L:=[]) (Ae Zq9 Aa) VZ Tryz.func193 (UU Tryz.f193) U2 (t:=need [UF 4 n λk=>[i (a k),i (b k),i (u k),i (v k)],n<=100000,(1:Int)<=c/\c<=10] (leaf (RV.x (.bool !!N9 c n a b u v)))) VU ?_;simp only [VM.sat,UB,G0,UD,UH];refine ⟨⟨isRec4 n _ _ _ _,VR,UE⟩,?_⟩;simp
end
theorem Xp0:VP VO 193 Wz3:=by
 refine ⟨(UJ Tryz.func193),?_⟩;intro avs ns Z h I;unfold Wz3 at h;split at h;cases h;have hr:UF 4 _ _:=I _ (GD);exact (Xp1 _ _ _ _ _ (col 0 _) (col 1 _) (col 2 _) (col 3 _) (I _ VT) (I _ VT)).same (.cons (.lst 4 _ _ _ hr) (.cons (.refl _) .nil));cases h
theorem P0{c T U O:Int}(h:qD c T U O=true):(1<=c/\c<=10)/\(1<=U/\U<=O/\O<=200/\1<=T/\T<=2000)/\c*U<=T/\T<=c*O:=by
 simp only [qD,GU,bt_iff,insB_iff] at h;omega
theorem Wu9(c T U O:Int)(n:Nat)(a b u v:Cg):VX VO 157 [.agg [i c,i T,i U,i O],rds n a b u v] (i (flt c T U O n a b u v)):=by
 refine U1 (L:=[]) (Ae CheckTube_ok (Ae Xp0 Aa)) VZ Tryz.func157 (UU Tryz.f157) U2 (t:=branch ((if qD c T U O=true then (0:Int) else (1:Int)) != 0) (leaf (RV.x (.int .i64 (if qD c T U O=true then (0:Int) else (1:Int))))) (branch (decide ((n:Int)>12)) (leaf (RV.x (.int .i64 (3:Int)))) (need [UF 4 n λk=>[i (a k),i (b k),i (u k),i (v k)],n<=100000,(1:Int)<=c/\c<=10] (branch (!N9 c n a b u v) (leaf (RV.x (.int .i64 (2:Int)))) (leaf (RV.x (JX))))))) VU ?_
 simp only [VM.sat,UB,G0,UD,UH,flt];by_cases ht:qD c T U O=true;have hb:=P0 ht;by_cases I:12<n;simp [ht,I];omega;cases ha:N9 c n a b u v<;>simp [ht,I,ha,isRec4 n a b u v]<;>omega;simp [ht]
theorem Wu8:VP VO 157 Qi1:=by
 refine ⟨(UJ Tryz.func157),?_⟩;intro avs ns Z h I;unfold Qi1 at h;split at h;cases h;have hr:UF 4 _ _:=I _ (GD);exact (Wu9 _ _ _ _ _ (col 0 _) (col 1 _) (col 2 _) (col 3 _)).same (.cons (.refl _) (.cons (.lst 4 _ _ _ hr) .nil));cases h
theorem oW(f:Cg)(k:Nat)(VR:k<=10)(UE: -1000000000000<=f (k*11+4)/\f (k*11+4)<=1000000000000):VX VO 195 [.roI [] 125 f 0,i k] (i (-(f (k*11+4)))):=by
 refine GW Tryz.func195 (t:=need [UI k 11] (need [UI 0 11] (need [0+(k*11+4)<125] (need [VL (-f (0+(k*11+4)))] (leaf (RV.x (.int .i64 (-f (0+(k*11+4)))))))))) VU ?_;simp only [VM.sat,UB,G0,GL,UD,UH,F4];rw [show 0+(k*11+4)=k*11+4 by omega]
 simp only [VL];simp;omega
def mH:UX
 |[.roI [] 125 f 0,.x (.int .i64 k)]=>some ([0<=k/\k<=10,-1000000000000<=f (k.toNat*11+4)/\f (k.toNat*11+4)<=1000000000000],i (-(f (k.toNat*11+4))))
 |_=>none
theorem oV:VP VO 195 mH:=by
 refine ⟨(UJ Tryz.func195),?_⟩;intro avs ns Z h I;unfold mH at h;split at h;rename_i f k;cases h;have hk:0<=k/\k<=10:=I _ VT;have e:((k.toNat:Nat):Int)=k:=VJ;have h0:=oW f k.toNat VJ (I _ VT);rw [e] at h0;exact h0;cases h
theorem aH(f:Cg)(k:Nat)(VR:k<=10)(UE: -1000000000000<=f (k*11+4)/\f (k*11+4)<=1000000000000):VX VO 196 [.roI [] 125 f 0,i k] (i (f (k+4))):=by
 refine GW Tryz.func196 (t:=need [UI 0 11] (need [UI k 11] (need [k*1+4<125] (leaf (RV.x (.int .i64 (f (k*1+4)))))))) VU ?_;simp only [VM.sat,UB,G0,GL,UD,UH,F4];rw [show k*1+4=k+4 by omega]
 simp only [VL];simp;omega
def MA:UX
 |[.roI [] 125 f 0,.x (.int .i64 k)]=>some ([0<=k/\k<=10,-1000000000000<=f (k.toNat*11+4)/\f (k.toNat*11+4)<=1000000000000],i (f (k.toNat+4)))
 |_=>none
theorem aG:VP VO 196 MA:=by
 refine ⟨(UJ Tryz.func196),?_⟩;intro avs ns Z h I;unfold MA at h;split at h;rename_i f k;cases h;have hk:0<=k/\k<=10:=I _ VT;have e:((k.toNat:Nat):Int)=k:=VJ;have h0:=aH f k.toNat VJ (I _ VT);rw [e] at h0;exact h0;cases h
def mG:UX
 |[]=>some ([],.agg [.fn (.func 195) [] []])
 |_=>none
theorem Qo6:VX VO 159 [] (.agg [.fn (.func 195) [] []]):=by
 refine GW Tryz.func159 (t:=leaf (RV.agg [RV.fn (Fn.func 195)])) VU ?_;exact V1
theorem Qo5:VP VO 159 mG:=by
 refine ⟨(UJ Tryz.func159),?_⟩;intro avs ns Z h I;unfold mG at h;split at h;cases h;exact Qo6;cases h
def SA:UX
 |[]=>some ([],.agg [.fn (.func 196) [] []])
 |_=>none
theorem pQ:VX VO 160 [] (.agg [.fn (.func 196) [] []]):=by
 refine GW Tryz.func160 (t:=leaf (RV.agg [RV.fn (Fn.func 196)])) VU ?_;exact V1
theorem pP:VP VO 160 SA:=by
 refine ⟨(UJ Tryz.func160),?_⟩;intro avs ns Z h I;unfold SA at h;split at h;cases h;exact pQ;cases h
theorem Qt4(f:Cg)(k:Nat)(VR:k<=10)(UE: -1000000000000<=f (k*11+4)/\f (k*11+4)<=1000000000000):VX VO 119 [.roI [] 125 f 0,i k] (.agg [i (-(f (k*11+4))),i (f (k+4))]):=by
 refine U1 (L:=[]) (Ae oV (Ae aG (Ae Qo5 (Ae pP Aa)))) VZ Tryz.func119 (UU Tryz.f119) U2 (t:=need [(0:Int)<=(k:Int)/\(k:Int)<=10,(-1000000000000:Int)<=f (k*11+4)/\f (k*11+4)<=1000000000000] (need [(0:Int)<=(k:Int)/\(k:Int)<=10,(-1000000000000:Int)<=f (k*11+4)/\f (k*11+4)<=1000000000000] (leaf (RV.agg [RV.x (.int .i64 (-f (k*11+4))),RV.x (.int .i64 (f (k+4)))])))) VU ?_;exact V1
def mL:UX
 |[.roI [] 125 f 0,.x (.int .i64 k)]=>some ([0<=k/\k<=10,-1000000000000<=f (k.toNat*11+4)/\f (k.toNat*11+4)<=1000000000000],.agg [i (-(f (k.toNat*11+4))),i (f (k.toNat+4))])
 |_=>none
theorem xT:VP VO 119 mL:=by
 refine ⟨(UJ Tryz.func119),?_⟩;intro avs ns Z h I;unfold mL at h;split at h;rename_i f k;cases h;have hk:0<=k/\k<=10:=I _ VT;have e:((k.toNat:Nat):Int)=k:=VJ;have h0:=Qt4 f k.toNat VJ (I _ VT);rw [e] at h0;exact h0;cases h
def dbF(f:Cg):Nat->Int
 | 0=>0
 |k+1=>max (dbF f k) (f (k+4)- -(f (k*11+4)))
theorem s7{f:Cg}{c:Nat}(h: ∀k,k<=c->(-1000000000000<=f (k*11+4)/\f (k*11+4)<=1000000000000)/\(-1000000000000<=f (k+4)/\f (k+4)<=1000000000000)): ∀k,k<=c+1->0<=dbF f k/\dbF f k<=2000000000000
 | 0,_=>by simp [dbF]
 |k+1,hk=>by
  have:=s7 h k VJ;have:=h k VJ;simp only [dbF];omega
abbrev KJ(f:Cg):AV:=roI [] 125 (λa=>f a) 0
def Zw5(c:Nat)(f:Cg):St:={σ:=[KJ f]++HI 9 [iI (f 0+1)]++HI 16 [],m:=[],nx:=8}
noncomputable def Jx0:Code:=U9 (VS (U7 Tryz.f233) 0)
section
variable (c:Nat)(f:Cg)
def Wm8(k:Nat):St:=(upM [(2,i (dbF f k)),(11,i k)] (Zw5 c f))
def EC(k:Nat):G5->Option St
 | .exit 0=>some (upM [(2,i (dbF f (c+1))),(11,i ((c+1:Nat):Int))] (Zw5 c f))
 |_=>none
def Js6:CT:= .leaf (.exit 0,(EC c f 0 (.exit 0)).getD (Zw5 c f))
def Zc1:UG:=(HF (Wm8 c f (0)) (Js6 c f))
theorem Jm7(VR:c<=10)(UE:f 0=c)(HK: ∀k,k<=c->(-1000000000000<=f (k*11+4)/\f (k*11+4)<=1000000000000)/\(-1000000000000<=f (k+4)/\f (k+4)<=1000000000000)):G6 VO (.loop Jx0) (Zc1 c f):=by
 refine HH (L:=[]) (Ae xT (Ae rG Aa)) VZ U2 (X:=Nat) (Wm8 c f) (λk=>k<=c+1) (λk=>c+1-k) (EC c f) (x0:=0) VT ?_ ?_ ?_;rintro k;kernel_rfl;rintro k y E h;unfold EC at h;split at h;cases h;kernel_rfl;cases h;rintro Q hQ k hx;refine ⟨(k+1),?_⟩;(with_reducible refine D9 (t:=branch (decide ((k:Int)<f 0+1)) (need [(0:Int)<=(k:Int)/\(k:Int)<=10,(-1000000000000:Int)<=f (k*11+4)/\f (k*11+4)<=1000000000000] (need [VL (f (k+4)- -f (k*11+4))] (need [VL ((k:Int)+1)] (need [KJ f=KJ f,max (dbF f k) (f (k+4)- -f (k*11+4))=dbF f (k+1),VY (f 0+1),(k:Int)+1=(↑(k+1):Int)] (leaf G5.normal))))) (need [KJ f=KJ f,dbF f k=dbF f (c+1),VY (f 0+1),(k:Int)=(↑(c+1):Int)] (leaf (G5.exit 0)))) VU ?_);simp only [Js6,EC,VM.sat,GS] at hQ;simp only [VM.sat,UB,UH,HA,VL,EC,F4];refine ⟨λh=>?_,λh=>?_⟩;have h1:=HK k VJ;have h2:=s7 HK k VJ;refine ⟨⟨VJ,h1.1⟩,VJ,VJ,⟨rfl,VJ⟩,VJ,VJ⟩;obtain rfl:k=c+1:=VJ;exact ⟨⟨rfl,rfl⟩,λE hE=>by cases hE;exact hQ⟩
theorem Wu4(VR:c<=10)(UE:f 0=c)(HK: ∀k,k<=c->(-1000000000000<=f (k*11+4)/\f (k*11+4)<=1000000000000)/\(-1000000000000<=f (k+4)/\f (k+4)<=1000000000000)):VX VO 233 [.roI [] 125 f 0] (i (dbF f (c+1))):=by
 refine U1 (L:=[Zc1 c f]) (Ae xT (Ae rG Aa)) VZ Tryz.func233 (UU Tryz.f233) (G7 (lpE (b:= .loop Jx0) VU<|Jm7 c f VR UE HK)) (t:=need [0<125] (need [VL (f 0+1)] (need [KJ f=KJ f,(0:Int)=dbF f 0,VY (f 0+1),(0:Int)=((0:Nat):Int)] (leaf (RV.x (.int .i64 (dbF f (c+1)))))))) VU ?_
 simp only [VM.sat,UB,G0,GL,UD,UH,F4];simp only [VL];have h2:=s7 HK (c+1) VJ;all_goals exact V7
end
def Qi0:UX
 |[.roI [] 125 f 0]=>some ([0<=f 0/\f 0<=10,∀k,k<=(f 0).toNat->(-1000000000000<=f (k*11+4)/\f (k*11+4)<=1000000000000)/\(-1000000000000<=f (k+4)/\f (k+4)<=1000000000000)],i (dbF f ((f 0).toNat+1)))
 |_=>none
theorem Wu3:VP VO 233 Qi0:=by
 refine ⟨(UJ Tryz.func233),?_⟩;intro avs ns Z h I;unfold Qi0 at h;split at h;rename_i f;cases h;have hk:0<=f 0/\f 0<=10:=I _ VT;exact Wu4 (f 0).toNat f VJ VJ (I _ VT);cases h
section
variable (c T U O:Int)(n:Nat)(a b u v:Cg)
abbrev cO:AV:=Qa4 c.toNat T U O n a b u v
def okB:Bool:=okR c.toNat T U O n a b u v
def qN(r:Bool):Int:=if flt c T U O n a b u v=0 then (if r then (if okB c T U O n a b u v then 0 else 9) else 2) else flt c T U O n a b u v
end
section
variable {c T U O:Int}{n:Nat}{a b u v:Cg}
theorem B4:flt c T U O n a b u v=0↔qD c T U O=true/\n<=12/\D3 (λk=>rdB c (a k) (b k) (u k) (v k)) n=true:=by
 unfold flt N9;split;rename_i h1;split;rename_i h2;constructor;intro h;cases h;intro h;omega;rename_i h2;split;rename_i h3;exact ⟨λ_=>⟨h1,VJ,h3⟩,λ_=>rfl⟩;rename_i h3;constructor;intro h;cases h;intro h;exact absurd h.2.2 h3;rename_i h1;constructor;intro h;cases h;intro h;exact absurd h.1 h1
theorem BB{r:Bool}:qN c T U O n a b u v r=0↔flt c T U O n a b u v=0/\r=true/\okB c T U O n a b u v=true:=by
 unfold qN;split;rename_i h1;split;rename_i h2;split;rename_i h3;simp [h1,h2,h3];rename_i h3;simp [h1,h2,h3];rename_i h2;simp [h1,h2];rename_i h1;simp [h1]
end
theorem cA(c T U O:Int)(n:Nat)(a b u v:Cg)(r:Bool):UN VO 118 [.agg [i c,i T,i U,i O],rds n a b u v,bl r] (.branch (decide (qN c T U O n a b u v r=0)) (.leaf (.tup [cO c T U O n a b u v,i 0])) (.leaf (.tup [nilP,i (qN c T U O n a b u v r)]))):=by
 refine GT (L:=[]) (Ae Wu8 Aa) (Aj Ab Ac (Ah x9 (U8.nil _))) VZ Tryz.func118 (UU Tryz.f118) G8 (t:=need [UF 4 n λk=>[i (a k),i (b k),i (u k),i (v k)]] (branch (flt c T U O n a b u v != 0) (leaf (tup [QU,iI (flt c T U O n a b u v)])) (branch (!r) (leaf (tup [QU,iI 2])) (need [UF 4 n λk=>[i (a k),i (b k),i (u k),i (v k)],(1:Int)<=c/\c<=10,(1:Int)<=U/\U<=O/\O<=200/\(1:Int)<=T/\T<=2000,n<=1000,D3 (λk=>rdB c (a k) (b k) (u k) (v k)) n=true] (branch (okR (Int.toNat c) T U O n a b u v) (leaf (tup [roI [] 125 (λk=>UC (Int.toNat c:Int) T U O (fwM (Int.toNat c) T U O n a b u v) k) 0,iI 0])) (leaf (tup [QU,iI 9]))))))) VU ?_;intro Q hQ;have e:c.toNat=c\/c<0:=VJ;simp only [VM.sat,UB,UH,R9,HA,Ax] at hQ ⊢;refine ⟨isRec4 n a b u v,λh1=>?_,λh1=>?_⟩;refine ⟨.tup [nilP,i (flt c T U O n a b u v)],⟨rfl,⟨rfl,rfl⟩,Ak⟩,?_⟩;have h2:qN c T U O n a b u v r=flt c T U O n a b u v:=by unfold qN;rw [if_neg h1]
 rw [h2] at hQ;exact hQ.2 h1;have hf:=B4.1 h1;have hb:=P0 hf.1;refine ⟨λh2=>?_,λh2=>⟨⟨isRec4 n a b u v,hb.1,hb.2.1,by have:=hf.2.1;omega,hf.2.2⟩,λh3=>?_,λh3=>?_⟩⟩
 subst h2;have h4:qN c T U O n a b u v false=2:=by unfold qN;rw [if_pos h1];rfl
 rw [h4] at hQ;exact ⟨.tup [nilP,i 2],⟨rfl,⟨rfl,rfl⟩,Ak⟩,hQ.2 VJ⟩;have h2:r=true:=by simpa using h2
 subst h2;have h4:qN c T U O n a b u v true=0:=BB.2 ⟨h1,rfl,h3⟩;exact ⟨.tup [cO c T U O n a b u v,i 0],⟨⟨rfl,rfl,λ_ _=>rfl,rfl⟩,⟨rfl,rfl⟩,Ak⟩,hQ.1 h4⟩;have h2:r=true:=by simpa using h2
 subst h2;have h4:qN c T U O n a b u v true=9:=by unfold qN okB;rw [if_pos h1,h3];rfl
 rw [h4] at hQ;exact ⟨.tup [nilP,i 9],⟨rfl,⟨rfl,rfl⟩,Ak⟩,hQ.2 VJ⟩
def bP:DD:=λl=>match l with
 |[.agg [.x (.int .i64 c),.x (.int .i64 T),.x (.int .i64 U),.x (.int .i64 O)],.lst 4 n f,.x (.bool r)]=>some (.need [UF 4 n f] (.branch (decide (qN c T U O n (col 0 f) (col 1 f) (col 2 f) (col 3 f) r=0)) (.leaf (.tup [cO c T U O n (col 0 f) (col 1 f) (col 2 f) (col 3 f),i 0])) (.leaf (.tup [nilP,i (qN c T U O n (col 0 f) (col 1 f) (col 2 f) (col 3 f) r)]))))
 |[.agg [.x (.int .i64 c),.x (.int .i64 T),.x (.int .i64 U),.x (.int .i64 O)],.lst 4 n f,.lit r]=>some (.need [UF 4 n f] (.branch (decide (qN c T U O n (col 0 f) (col 1 f) (col 2 f) (col 3 f) r=0)) (.leaf (.tup [cO c T U O n (col 0 f) (col 1 f) (col 2 f) (col 3 f),i 0])) (.leaf (.tup [nilP,i (qN c T U O n (col 0 f) (col 1 f) (col 2 f) (col 3 f) r)]))))
 |_=>none
theorem U3.lits{e:UL}{w:World}{r:Bool}: ∀{l:List AV} {vs:List Value},U3 e w (l++[.lit r]) vs->U3 e w (l++[.x (.bool r)]) vs
 |[],vs,h=>by
  obtain ⟨v,vs',rfl,hv,hvs⟩:=h.cons_inv;cases hv;exact U3.cons (.x _) hvs
 |a::l,vs,h=>by
  obtain ⟨v,vs',rfl,hv,hvs⟩:=h.cons_inv;exact U3.cons hv (U3.lits hvs)
theorem UN.lits{P:Program}{f:FuncId}{l:List AV}{r:Bool}{t:VM AV}(h:UN P f (l++[.x (.bool r)]) t):UN P f (l++[.lit r]) t:=λQ hQ e w args hro hgl FP hr=>h Q hQ e w args hro hgl (λa ha=>by
 rcases List.mem_append.1 ha with h1|h1;exact FP a (Bd _ h1);cases PM.1 h1;exact .x _) (U3.lits hr)
theorem dC:Enters VO 118/\ ∀avs t,bP avs=some t->UN VO 118 avs t:=by
 refine ⟨(UJ Tryz.func118),?_⟩;intro avs t h;unfold bP at h;split at h;rename_i c T U O n f r;cases h;intro Q hQ;have hr:UF 4 n f:=GE hQ.1 _ VT;exact UN.same (cA c T U O n (col 0 f) (col 1 f) (col 2 f) (col 3 f) r) (.cons (.refl _) (.cons (.lst 4 n _ _ hr) (.cons (.refl _) .nil))) Q hQ.2;rename_i c T U O n f r;cases h;intro Q hQ;have hr:UF 4 n f:=GE hQ.1 _ VT;exact UN.lits (l:=[.agg [.x (.int .i64 c),.x (.int .i64 T),.x (.int .i64 U),.x (.int .i64 O)],.lst 4 n f]) (UN.same (cA c T U O n (col 0 f) (col 1 f) (col 2 f) (col 3 f) r) (.cons (.refl _) (.cons (.lst 4 n _ _ hr) (.cons (.refl _) .nil)))) Q hQ.2;cases h
section
variable (c T U O:Int)(n:Nat)(a b u v:Cg)
def eB:Int:=qN c T U O n a b u v true
def fwB:Nat->Cg:=fwM c.toNat T U O n a b u v
def sfB:Cg:=UC (c.toNat:Nat) T U O (fwB c T U O n a b u v)
def dtB:Int:=if eB c T U O n a b u v=0 then dbF (sfB c T U O n a b u v) (c.toNat+1) else 0
def rZ:Nat:=if eB c T U O n a b u v=0 then c.toNat+1 else 0
end
theorem Xu7{c a b u v:Int}(h:rdB c a b u v=true):(0<=a/\a<=c-1)/\(a<=b/\b<=c)/\0<=u/\u<=v/\v<=2000:=by
 simp only [rdB,GU,bt_iff,insB_iff] at h;omega
theorem aL{c T U O:Int}{n:Nat}{a b u v:Cg}(h:flt c T U O n a b u v=0)(x y:Nat): -1000000000000<=fwB c T U O n a b u v x y/\fwB c T U O n a b u v x y<=2000:=by
 have hf:=B4.1 h;have hb:=P0 hf.1;have hl:=o8 (c:=c.toNat) (a:=a) (b:=b) hb.2.1 (λj hj=>(Xu7 (GC.1 hf.2.2 j hj)).2.2) n (Am n);have h1:=Zt3 (c:=c.toNat) hl (c.toNat+1) x y;have h2:=Jf3 c.toNat VJ;rw [Int.pow_succ] at h1;unfold fwB fwM;omega
section
variable (c T U O:Int)(n:Nat)(a b u v:Cg)
theorem Xu6:sfB c T U O n a b u v 0=c.toNat:=rfl
theorem SX(k:Nat):sfB c T U O n a b u v (k*11+4)=fwB c T U O n a b u v k 0:=qE _ _ _ _ _ VJ VJ
theorem cP{k:Nat}(hk:k<=10):sfB c T U O n a b u v (k+4)=fwB c T U O n a b u v 0 k:=qE _ _ _ _ _ VJ VJ
abbrev YI:Ext:={R:=[],H:=[],C:=[(118,bP)] }
theorem Xe1:VX VO 203 [.agg [i c,i T,i U,i O],rds n a b u v] (.tup [i (dtB c T U O n a b u v),i (eB c T U O n a b u v)]):=by
 refine GA (L:=[]) (Ae Wu3 Aa) (Aj Ab Ac (Ah dC (U8.nil _))) VZ Tryz.func203 (UU Tryz.f203) G8 (t:=let A:=(fwM (Int.toNat c) T U O n a b u v);let W:=qN c T U O n a b u v true;(need [UF 4 n λk=>[i (a k),i (b k),i (u k),i (v k)]] (branch (decide (W=0)) (branch ((0:Int) != 0) (leaf (RV.tup [RV.x (JX),RV.x (JX)])) (need [(0:Int)<=UC (Int.toNat c:Int) T U O A 0/\UC (Int.toNat c:Int) T U O A 0<=10,∀(k:Nat),k<=(UC (Int.toNat c:Int) T U O A 0).toNat->((-1000000000000:Int)<=UC (Int.toNat c:Int) T U O A (k*11+4)/\UC (Int.toNat c:Int) T U O A (k*11+4)<=1000000000000)/\(-1000000000000:Int)<=UC (Int.toNat c:Int) T U O A (k+4)/\UC (Int.toNat c:Int) T U O A (k+4)<=1000000000000] (leaf (RV.tup [RV.x (.int .i64 (dbF (UC (Int.toNat c:Int) T U O A) ((UC (Int.toNat c:Int) T U O A 0).toNat+1))),RV.x (JX)])))) (branch (W != 0) (leaf (RV.tup [RV.x (JX),RV.x (.int .i64 (W))])) VM.fail)))) VU ?_;have eq: ∀k,UC (c.toNat:Nat) T U O (fwM c.toNat T U O n a b u v) k=sfB c T U O n a b u v k:=λ_=>rfl;simp only [VM.sat,UB,UH,R9,HA,Ax,not_true_eq_false,false_imp_iff,eq,G0];refine ⟨isRec4 n a b u v,λh1 _=>?_,λh1=>⟨λ_=>?_,λh2=>h1 h2⟩⟩;have hf:=(BB.1 h1).1;have hc:=(P0 (B4.1 hf).1).1;have e0:(sfB c T U O n a b u v 0).toNat=c.toNat:=by rw [Xu6];omega
 refine ⟨⟨by rw [Xu6];omega,λk hk=>?_⟩,?_⟩
 rw [e0] at hk;rw [SX,cP _ _ _ _ _ _ _ _ _ VJ];have h2:=aL hf k 0;have h3:=aL hf 0 k;omega;rw [e0];unfold dtB eB;rw [if_pos h1,h1];exact ⟨⟨rfl,rfl⟩,⟨rfl,rfl⟩,Ak⟩;unfold dtB eB;rw [if_neg h1];exact ⟨⟨rfl,rfl⟩,⟨rfl,rfl⟩,Ak⟩
end
section
variable {sz k:Nat}{l:List AV}{x:AV}
theorem Qs9(h:x∈U4 sz l k):x∈l:=List.mem_of_mem_drop (List.mem_of_mem_take h)
theorem FC(hm:x∈U4 sz l k)(h: ∀y∈l,AV.one y=true):AV.one x=true:=h x (Qs9 hm)
end
theorem Jn7{k j:Nat}{a b:Cg}{x y:Int}(h:j<k+1)(hx:x=a k)(hy:y=b k):GI k (λk=>[i (a k),i (b k)]) (U4 2 [i x,i y]) j=[i (a j),i (b j)]:=by
 have e:j-k=0:=VJ;show H6 (decide (j<k)) [i (a j),i (b j)] (U4 2 [i x,i y] (j-k))=_;rw [e];by_cases hj:j<k;rw [show decide (j<k)=true by simp [hj]]
 rfl;have hk:j=k:=VJ;rw [show decide (j<k)=false by simp [hj],hk,hx,hy]
 rfl
section
variable (c T U O:Int)(n:Nat)(a b u v:Cg)
def Zv4:St:={σ:=[.agg [i c,i T,i U,i O],rds n a b u v,.ptr 0 0,.top,.x (.slice none 0 0),i 0,cO c T U O n a b u v,i 0,.top,.top,.top,.top,.top,.top,.top,.top,.top,.top,.top,.top,.top,i (c+1),.top,.top,.top,.top,.top,.top,.top,.top,.top,.top,.top],m:=[(900,.row 47 2 0 (λ_=>[])),(0,.cells 49 [i c,i T,i U,i O])],nx:=901}
noncomputable def Jv9:Code:=U9 (VS (U7 Tryz.f75) 0)
def Wl5(k:Nat):St:=(upE [(8,.row 900),(22,i k)] [(900,.row 47 2 (k) (λk=>[i (-(fwB c T U O n a b u v k 0)),i (fwB c T U O n a b u v 0 k)])),(0,.cells 49 [i c,i T,i U,i O])] (Zv4 c T U O n a b u v))
def E1(k:Nat):G5->Option St
 | .exit 0=>some (upE [(8,.row 900)] [(900,.row 47 2 (c.toNat+1) (λk=>[i (-(fwB c T U O n a b u v k 0)),i (fwB c T U O n a b u v 0 k)])),(0,.cells 49 [i c,i T,i U,i O])] (Zv4 c T U O n a b u v))
 |_=>none
def Jr3:CT:= .leaf (.exit 0,(E1 c T U O n a b u v 0 (.exit 0)).getD (Zv4 c T U O n a b u v))
def Za7:UG:=GJ [(.slot 8,900,47,2)] (HF (Wl5 c T U O n a b u v (0)) (Jr3 c T U O n a b u v))
abbrev KI:AV:=AV.x (.slice none 0 0)
abbrev Y8:Prop:=(0:Int)=0
theorem Jj1(VR:flt c T U O n a b u v=0):G6 VO (.loop Jv9) (Za7 c T U O n a b u v):=by
 refine zK [(.slot 8,900,47,2)] (L:=[]) (Ae xT Aa) VZ U2 (X:=Nat) (Wl5 c T U O n a b u v) (λk=>k<=c.toNat+1) (λk=>c.toNat+1-k) (E1 c T U O n a b u v) (x0:=0) VT ?_ ?_ ?_;rintro k;kernel_rfl;rintro k y E h;unfold E1 at h;split at h;cases h;kernel_rfl;cases h;rintro Q hQ k hx;refine ⟨(k+1),?_⟩;(with_reducible refine D9 (t:=let A:=(fwM (Int.toNat c) T U O n a b u v);let W:=fwB c T U O n a b u v;let z2:=(VY (roI [] 125 (λk=>UC (Int.toNat c:Int) T U O A k) 0));let z3:=(UC (Int.toNat c:Int) T U O A (k+4));(branch (decide ((k:Int)<c+1)) (need [(0:Int)<=(k:Int)/\(k:Int)<=10,(-1000000000000:Int)<=UC (Int.toNat c:Int) T U O A (k*11+4)/\UC (Int.toNat c:Int) T U O A (k*11+4)<=1000000000000] (need [(k+1)*16<=140737488355328,RP 1 (U4 2 [iI (-UC (Int.toNat c:Int) T U O A (k*11+4)),iI z3])] (need [VL ((k:Int)+1)] (need [VY (agg [iI c,iI T,iI U,iI O]),Q4 n a b u v,XM,KI=KI,Y8,z2,Y8,VY (AV.row 900),VY (c+1),(k:Int)+1=(↑(k+1):Int),k+1=k+1,GV (k+1) (GI k (λk=>[Bo.i (-W k 0),Bo.i (W 0 k)]) (U4 2 [iI (-UC (Int.toNat c:Int) T U O A (k*11+4)),iI z3])) (λi=>[Bo.i (-W i 0),Bo.i (W 0 i)]),c=c,T=T,U=U,O=O] (leaf G5.normal))))) (need [VY (agg [iI c,iI T,iI U,iI O]),Q4 n a b u v,XM,KI=KI,Y8,z2,Y8,VY (AV.row 900),VY (c+1),k=Int.toNat c+1,∀(i:Nat),i<Int.toNat c+1->[Bo.i (-W i 0),Bo.i (W 0 i)]=[Bo.i (-W i 0),Bo.i (W 0 i)],c=c,T=T,U=U,O=O] (leaf (G5.exit 0))))) VU ?_)
 simp only [Jr3,E1,VM.sat,GS] at hQ;have hc:=(P0 (B4.1 VR).1).1;have e0:((c.toNat:Nat):Int)=c:=VJ;have eq: ∀k,UC c.toNat T U O (fwM c.toNat T U O n a b u v) k=sfB c T U O n a b u v k:=λ_=>rfl;simp only [VM.sat,UB,G0,GL,UD,VL,UH,HA,FU,E1,eq]
 refine ⟨λh=>?_,λh=>?_⟩;have h2:=aL VR k 0;have h3:=aL VR 0 k;refine ⟨⟨VJ,by rw [SX];omega⟩,⟨VJ,λi O a ha=>FC ha (by simp [AV.one,Value.oneCell'])⟩,VJ,⟨VJ,λi O=>Jn7 O (by rw [SX]) (by rw [cP _ _ _ _ _ _ _ _ _ VJ])⟩,VJ,VJ⟩
 obtain rfl:k=c.toNat+1:=VJ;exact ⟨⟨rfl,λ_ _=>Ak⟩,λE hE=>by cases hE;exact hQ⟩
theorem nE(VR:qN c T U O n a b u v true=0)(UE:flt c T U O n a b u v=0):VX VO 75 [.agg [i c,i T,i U,i O],rds n a b u v] (.tup [.lst 2 (rZ c T U O n a b u v) (λk=>[i (-(fwB c T U O n a b u v k 0)),i (fwB c T U O n a b u v 0 k)]),i (eB c T U O n a b u v)]):=by
 refine uJ (L:=[Za7 c T U O n a b u v]) (Gd.go true (Gd.go false Gd.rest)) (Ae xT Aa) (Aj Ab Ac (Ah dC (U8.nil _))) VZ Tryz.func75 (UU Tryz.f75) (G7 (lpE (b:= .loop Jv9) VU<|(Jj1 c T U O n a b u v UE).N)) (t:=let A:=fwB c T U O n a b u v;(need [UF 4 n λk=>[i (a k),i (b k),i (u k),i (v k)]] (need [decide (qN c T U O n a b u v true=0)=true] (need [((0:Int) != 0)=false] (need [VL (c+1)] (need [VY (agg [iI c,iI T,iI U,iI O]),Q4 n a b u v,XM,KI=KI,Y8,VY (roI [] 125 (λk=>UC (Int.toNat c:Int) T U O (fwM (Int.toNat c) T U O n a b u v) k) 0),Y8,VY (AV.row 900),VY (c+1),(0:Int)=((0:Nat):Int),0=0,∀(i:Nat),i<0->[]=[Bo.i (-A i 0),Bo.i (A 0 i)],c=c,T=T,U=U,O=O] (leaf (RV.tup [RV.lst 2 (Int.toNat c+1) λk=>[iI (-A k 0),iI (A 0 k)],RV.x (JX)])))))))) VU ?_
 have hc:=(P0 (B4.1 UE).1).1;have hl:rZ c T U O n a b u v=c.toNat+1:=if_pos VR;have he:eB c T U O n a b u v=0:=VR;rw [hl,he];simp only [VM.sat,UB,G0,GL,UD,VL,UH]
 (with_reducible repeat' first|apply Al|intro _)
 all_goals first|exact Ak|with_reducible rfl|omega|exact isRec4 _ _ _ _ _|(simp [*];done)|(rename_i hm;simp only [GM,DL,or_false] at hm;rcases hm with rfl|rfl<;>exact Ak)
theorem nF(VR:qN c T U O n a b u v true≠0):VX VO 75 [.agg [i c,i T,i U,i O],rds n a b u v] (.tup [.lst 2 (rZ c T U O n a b u v) (λk=>[i (-(fwB c T U O n a b u v k 0)),i (fwB c T U O n a b u v 0 k)]),i (eB c T U O n a b u v)]):=by
 refine uJ (L:=[]) (Gd.go false (Gd.go true Gd.rest)) (Ae xT Aa) (Aj Ab Ac (Ah dC (U8.nil _))) VZ Tryz.func75 (UU Tryz.f75) G8 (t:=let A:=qN c T U O n a b u v true;(need [UF 4 n λk=>[i (a k),i (b k),i (u k),i (v k)]] (need [decide (A=0)=false] (need [(A != 0)=true] (leaf (RV.tup [RV.x (.slice none 0 0),RV.x (.int .i64 (A))])))))) VU ?_;have hl:rZ c T U O n a b u v=0:=if_neg VR;have he:eB c T U O n a b u v=qN c T U O n a b u v true:=rfl;rw [hl,he];simp only [VM.sat,UB,G0,GL,UD,VL,UH]
 (with_reducible repeat' first|apply Al|intro _)
 all_goals first|exact Ak|with_reducible rfl|omega|exact isRec4 _ _ _ _ _|(simp [*];done)
end
def S_Heights:UX
 |[.agg [.x (.int .i64 c),.x (.int .i64 T),.x (.int .i64 U),.x (.int .i64 O)],.lst 4 n f]=>some ([UF 4 n f],.tup [.lst 2 (rZ c T U O n (col 0 f) (col 1 f) (col 2 f) (col 3 f)) (λk=>[i (-(fwB c T U O n (col 0 f) (col 1 f) (col 2 f) (col 3 f) k 0)),i (fwB c T U O n (col 0 f) (col 1 f) (col 2 f) (col 3 f) 0 k)]),i (eB c T U O n (col 0 f) (col 1 f) (col 2 f) (col 3 f))])
 |_=>none
theorem uC(c T U O:Int)(n:Nat)(a b u v:Cg):VX VO 75 [.agg [i c,i T,i U,i O],rds n a b u v] (.tup [.lst 2 (rZ c T U O n a b u v) (λk=>[i (-(fwB c T U O n a b u v k 0)),i (fwB c T U O n a b u v 0 k)]),i (eB c T U O n a b u v)]):=by
 by_cases h:qN c T U O n a b u v true=0;exact nE c T U O n a b u v h (BB.1 h).1;exact nF c T U O n a b u v h
theorem Heights_ok:VP VO 75 S_Heights:=by
 refine ⟨(UJ Tryz.func75),?_⟩;intro avs ns Z h I;unfold S_Heights at h;split at h;rename_i c T U O n f;cases h;have hr:UF 4 n f:=I _ (GD);exact (uC c T U O n (col 0 f) (col 1 f) (col 2 f) (col 3 f)).same (.cons (.refl _) (.cons (.lst 4 n _ _ hr) .nil));cases h
