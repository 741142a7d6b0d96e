/- Contracts, put together. Conditions: those of each. -/
import Derived.Test.YtakpdkmhclhlnaaGreatDoorMb
import Derived.Test.YtakpdkmhclhlnaaGreatDoorRows
set_option linter.unusedSimpArgs false
set_option linter.unusedVariables false
set_option maxRecDepth 100000
namespace Go.Sx
open Go Go.RowKit
def yB(i R:Nat):Nat->AV->AV
 | 0,a=>match a with
  | .lit b=> .lit b
  | .x v=> .x v
  | .ro l=> .ro l
  | .lst a b c=> .lst a b c
  | .roI a b c d=> .roI a b c d
  |_=> .top
 |d+1,a=>match a with
  | .row k=>match Nat.beq k i with
   |true=> .row R
   |false=>match Nat.beq k R with
    |true=> .top
    |false=> .row k
  | .ptr k o=>match Nat.beq k i with
   |true=> .ptr R o
   |false=>match Nat.beq k R with
    |true=> .top
    |false=> .ptr k o
  | .elt k x y z=>match Nat.beq k i||Nat.beq k R with
   |true=> .top
   |false=> .elt k x y z
  | .mp k=>match Nat.beq k i||Nat.beq k R with
   |true=> .top
   |false=> .mp k
  | .agg l=> .agg (l.map (yB i R d))
  | .tup l=> .tup (l.map (yB i R d))
  | .fn f l l'=> .fn f (l.map (yB i R d)) (l'.map (yB i R d))
  |a=>a
def UL.ren(e:UL)(i R:Nat):UL:=
 {ro:=e.ro,own:=λb=>match e.own b with|some k=>if k=i then some R else if k=R then none else some k|none=>none,
  live:=λk=>(k=R/\e.live i)\/(e.live k/\k≠i/\k≠R),blk:=λk=>if k=R then e.blk i else e.blk k,val:=λk=>if k=R then e.val i else e.val k}
theorem RA{k i:Nat}(h:Nat.beq k i=false):k≠i:=by
 rintro rfl;rw [Nat.beq_refl] at h;cases h
theorem E7{k i R:Nat}(h:(Nat.beq k i||Nat.beq k R)=false):k≠i/\k≠R:=by
 rw [Bool.or_eq_false_iff] at h;exact ⟨RA h.1,RA h.2⟩
theorem xY{e:UL}{w:World}{i R:Nat}: ∀(d:Nat) (a:AV) (v:Value),Rep e w a v->Rep (e.ren i R) w (yB i R d a) v
 | 0,a,v,r=>by
  cases r with
  |lit b=>exact .lit b
  |x v=>exact .x v
  |roI pre n f off b o Z=>exact Rep.idf (e:=e) (e':=e.ren i R) (λ_ h=>h) (.roI pre n f off b o Z) (zG (Rep.roI pre n f off b o Z) rfl)
  |ro l vs b o h1 h2 h3 h4 h5 h6=>exact Rep.idf (e:=e) (e':=e.ren i R) (λ_ h=>h) (.ro l vs b o h1 h2 h3 h4 h5 h6) (.ro l h3)
  |lstNil sz f=>exact .lstNil sz f
  |lst sz n f b o cap g h1 h2 h3 h4 h5 h6 h7 h8 ad had=>exact Rep.idf (e:=e) (e':=e.ren i R) (λ_ h=>h) (.lst sz n f b o cap g h1 h2 h3 h4 h5 h6 h7 h8 ad had) (.lst sz n f h3)
  |_=>exact .top _
 |d+1,a,v,r=>by
  have ih:=xY (e:=e) (w:=w) (i:=i) (R:=R) d;cases r with
  |top v=>exact .top v
  |lit b=>exact .lit b
  |x v=>exact .x v
  |roI pre n f off b o Z=>exact Rep.idf (e:=e) (e':=e.ren i R) (λ_ h=>h) (.roI pre n f off b o Z) (zG (Rep.roI pre n f off b o Z) rfl)
  |ptr id off hl=>
   simp only [yB];split;rename_i hb;have:=GX hb;subst this;have h:=Rep.ptr (e:=e.ren id R) (w:=w) R off (.inl ⟨rfl,hl⟩)
   rwa [show (e.ren id R).blk R=e.blk id by simp [UL.ren]] at h
   rename_i hb;split;exact .top _;rename_i hb2;have h:=Rep.ptr (e:=e.ren i R) (w:=w) id off (.inr ⟨hl,RA hb,RA hb2⟩)
   rwa [show (e.ren i R).blk id=e.blk id by simp [UL.ren,RA hb2]] at h
  |row id a n c hl hv=>
   simp only [yB];split;rename_i hb;have:=GX hb;subst this;exact .row R a n c (.inl ⟨rfl,hl⟩) (by simp [UL.ren,hv])
   rename_i hb;split;exact .top _;rename_i hb2;exact .row id a n c (.inr ⟨hl,RA hb,RA hb2⟩) (by simp [UL.ren,RA hb2,hv])
  |elt id sz x y b n cap hl hv=>
   simp only [yB];split;exact .top _;rename_i hb;exact .elt (e:=e.ren i R) id sz x y b n cap (.inr ⟨hl,E7 hb⟩) (by simp [UL.ren,(E7 hb).2,hv])
  |mp id hl=>
   simp only [yB];split;exact .top _;rename_i hb;have h:=Rep.mp (e:=e.ren i R) (w:=w) id (.inr ⟨hl,E7 hb⟩)
   rwa [show (e.ren i R).blk id=e.blk id by simp [UL.ren,(E7 hb).2]] at h
  |agg l vs h1 h2=>exact Rep.aggL (U2.map _ ih ⟨h1,h2⟩)
  |tup l vs h1 h2=>exact Rep.tupL (U2.map _ ih ⟨h1,h2⟩)
  |fn f l l' vs vs' h1 h2 h3 h4=>
   have k1:U2 e w l vs:=⟨h1,h2⟩;have k2:U2 e w l' vs':=⟨h3,h4⟩;exact .fn f _ _ vs vs' (U2.map _ ih k1).1 (U2.map _ ih k1).2 (U2.map _ ih k2).1 (U2.map _ ih k2).2
  |ro l vs b o h1 h2 h3 h4 h5 h6=>exact Rep.idf (e:=e) (e':=e.ren i R) (λ_ h=>h) (.ro l vs b o h1 h2 h3 h4 h5 h6) (.ro l h3)
  |mpr g okf vals b es c h1 h2 h3 h4 h5 h6 h7 h8=>exact Rep.idf (e:=e) (e':=e.ren i R) (λ_ h=>h) (.mpr g okf vals b es c h1 h2 h3 h4 h5 h6 h7 h8) (.mpr g okf h3)
  |any1 v hv=>exact .any1 v hv
  |lstNil sz f=>exact .lstNil sz f
  |lst sz n f b o cap g h1 h2 h3 h4 h5 h6 h7 h8 ad had=>exact Rep.idf (e:=e) (e':=e.ren i R) (λ_ h=>h) (.lst sz n f b o cap g h1 h2 h3 h4 h5 h6 h7 h8 ad had) (.lst sz n f h3)
def wW(i R:Nat):GY->GY
 |[]=>[]
 |(k,.row T sz n f)::t=>match Nat.beq k i with
  |true=>(R,.row T sz n f)::wW i R t
  |false=>match Nat.beq k R with
   |true=>wW i R t
   |false=>(k,.row T sz n f)::wW i R t
 |(k,.cells T l)::t=>match Nat.beq k i with
  |true=>(R,.cells T (l.map (yB i R 6)))::wW i R t
  |false=>match Nat.beq k R with
   |true=>wW i R t
   |false=>(k,.cells T (l.map (yB i R 6)))::wW i R t
 |(k,.ints T pre n f)::t=>match Nat.beq k i||Nat.beq k R with
  |true=>wW i R t
  |false=>(k,.ints T (pre.map (yB i R 6)) n f)::wW i R t
 |(k,.memo h f)::t=>match Nat.beq k i||Nat.beq k R with
  |true=>wW i R t
  |false=>(k,.memo h f)::wW i R t
 |(_,.aka _ _ _ _ _)::t=>wW i R t
 |(k,.keep T l)::t=>match Nat.beq k i||Nat.beq k R with
  |true=>wW i R t
  |false=>(k,.keep T (l.map (yB i R 6)))::wW i R t
theorem zC{e:UL}{w:World}{i R:Nat}: ∀{m:GY},UU e m w->UU (e.ren i R) (wW i R m) w
 |[],_=>λp A=>by cases A
 |(k,.row T sz n f)::t,h=>by
  have ih:=zC (i:=i) (R:=R) (m:=t) (λp A=>h p (HI _ A));obtain ⟨h1,h2,hf,xs,h3,h4⟩:=h _ GB;have h4': ∀(i' j:Nat) (a:AV) (v:Value),i'<n->(f i')[j]? =some a->xs[i'*sz+j]? =some v->Rep (e.ren i R) w a v:=
   λi' j a v O ha hv=>Rep.idf (e:=e) (e':=e.ren i R) (λ_ h=>h) (h4 i' j a v O ha hv) ((hf i' O).2 a (F1 ha))
  unfold wW;split;rename_i hb;have:=GX hb;subst this;intro p A;rcases GM.1 A with rfl|A;refine ⟨.inl ⟨rfl,h1⟩,λb hb'=>?_,hf,xs,?_,h4'⟩;simp only [UL.ren,if_true] at hb' ⊢;rw [h2 b hb'];simp;simp only [UL.ren,if_true];exact h3;exact ih p A;rename_i hb;split;exact ih;rename_i hb2;intro p A;rcases GM.1 A with rfl|A;refine ⟨.inr ⟨h1,RA hb,RA hb2⟩,λb hb'=>?_,hf,xs,?_,h4'⟩;simp only [UL.ren,RA hb2,if_false] at hb' ⊢;rw [h2 b hb'];simp [RA hb,RA hb2];simp only [UL.ren,RA hb2,if_false];exact h3;exact ih p A
 |(k,.cells T l)::t,h=>by
  have ih:=zC (i:=i) (R:=R) (m:=t) (λp A=>h p (HI _ A));obtain ⟨h1,h2,vs,h3,h4⟩:=h _ GB;unfold wW;split;rename_i hb;have:=GX hb;subst this;have eb:(e.ren k R).blk R=e.blk k:=by simp [UL.ren]
  intro p A;rcases GM.1 A with rfl|A;refine ⟨.inl ⟨rfl,h1⟩,?_,vs,by rw [eb];exact h3,U2.map _ (xY 6) h4⟩
  rw [eb];simp only [UL.ren];rw [h2];simp;exact ih p A;rename_i hb;split;exact ih;rename_i hb2;have n1:=RA hb;have n2:=RA hb2;have eb:(e.ren i R).blk k=e.blk k:=by simp [UL.ren,n2]
  intro p A;rcases GM.1 A with rfl|A;refine ⟨.inr ⟨h1,n1,n2⟩,?_,vs,by rw [eb];exact h3,U2.map _ (xY 6) h4⟩
  rw [eb];simp only [UL.ren];rw [h2];simp [n1,n2];exact ih p A
 |(k,.ints T pre n f)::t,h=>by
  have ih:=zC (i:=i) (R:=R) (m:=t) (λp A=>h p (HI _ A));obtain ⟨h1,h2,vs,h3,h4⟩:=h _ GB;unfold wW;split;exact ih;rename_i hb;obtain ⟨n1,n2⟩:=E7 hb;intro p A;rcases GM.1 A with rfl|A;have eb:(e.ren i R).blk k=e.blk k:=by simp [UL.ren,n2]
  refine ⟨.inr ⟨h1,n1,n2⟩,?_,vs,by rw [eb];exact h3,?_⟩
  rw [eb];simp only [UL.ren];rw [h2];simp [n1,n2];have:=U2.map _ (xY (i:=i) (R:=R) 6) h4;rw [List.map_append] at this;have hL:(HM n f).map (yB i R 6)=HM n f:=by
   unfold HM;rw [List.map_map];rfl
  rw [hL] at this;exact this;exact ih p A
 |(k,.memo g f)::t,h=>by
  have ih:=zC (i:=i) (R:=R) (m:=t) (λp A=>h p (HI _ A));obtain ⟨h1,h2,es,c,h3,h4⟩:=h _ GB;unfold wW;split;exact ih;rename_i hb;obtain ⟨n1,n2⟩:=E7 hb;intro p A;rcases GM.1 A with rfl|A;have eb:(e.ren i R).blk k=e.blk k:=by simp [UL.ren,n2]
  refine ⟨.inr ⟨h1,n1,n2⟩,?_,es,c,by rw [eb];exact h3,h4⟩
  rw [eb];simp only [UL.ren];rw [h2];simp [n1,n2];exact ih p A
 |(k,.keep T l)::t,h=>by
  have ih:=zC (i:=i) (R:=R) (m:=t) (λp A=>h p (HI _ A));obtain ⟨h1,h2,h0,vs,h3,h4⟩:=h _ GB;unfold wW;split;exact ih;rename_i hb;obtain ⟨n1,n2⟩:=E7 hb;intro p A;rcases GM.1 A with rfl|A;have eb:(e.ren i R).blk k=e.blk k:=by simp [UL.ren,n2]
  exact ⟨.inr ⟨h1,n1,n2⟩,by rw [eb];exact h2,by rw [eb];exact h0,vs,by rw [eb];exact h3,U2.map _ (xY 6) h4⟩
  exact ih p A
 |(k,.aka _ _ _ _ _)::t,h=>zC (i:=i) (R:=R) (m:=t) (λp A=>h p (HI _ A))
def Ql6(i R:Nat)(s:St):St:={s with σ:=s.σ.map (yB i R 6),m:=wW i R s.m,nx:=match Nat.blt R s.nx with|true=>s.nx|false=>R+1,sv:=s.sv.map (·.map (yB i R 6)) }
theorem AZ{cx:Cx}{w0:World}{F:Nat->Prop}{e:UL}{i R:Nat}{s:St}{a:Act}{w:World}(r:F3 cx w0 F e s a w):F3 cx w0 F (e.ren i R) (Ql6 i R s) a w:=by
 refine ⟨⟨λb hb=>?_,λb k hk=>?_,r.env.glob⟩,r.below,zC r.mem,λk hk=>?_,r.foe,⟨r.xt.defers,r.xt.kept,L6.map _ (xY 6) r.xt.saved,r.xt.size⟩,U2.map _ (xY 6) r.slots⟩;obtain ⟨h1,h2⟩:=r.env.apart b hb;exact ⟨by simp [UL.ren,h1],h2⟩
 simp only [UL.ren] at hk;cases ho:e.own b with
 |none=>rw [ho] at hk;cases hk
 |some j=>exact r.env.owned b j ho
 have hk':k=R\/k<s.nx:=by
  rcases hk with ⟨rfl,_⟩|⟨h,_⟩;exact .inl rfl;exact .inr (r.live k h)
 simp only [Ql6];split;rename_i hb;rw [Aw] at hb;omega;rename_i hb;rw [←Bool.not_eq_true,Aw] at hb;omega
inductive Pl where
 |slot (k:Nat)
 |cell (id off:Nat)
def Qc6(s:St):Pl->AV
 | .slot k=>s.σ.getD k .top
 | .cell id off=>match DH s.m id with
  |some (.cells _ l)=>l.getD off .top
  |_=> .top
def cB(s:St)(p:Pl)(v:AV):St:=match p with
 | .slot k=>{s with σ:=s.σ.set k v}
 | .cell id off=>match DH s.m id with
  |some (.cells T l)=>{s with m:=qD s.m id (.cells T (l.set off v)) }
  |_=>s
theorem U2.swap{e:UL}{w:World}{l:List AV}{vs:List Value}{k:Nat}{b:AV}(h:U2 e w l vs)(hb: ∀v,Rep e w (l.getD k .top) v->vs[k]? =some v->Rep e w b v):U2 e w (l.set k b) vs:=by
 refine ⟨by simp [h.1],λi a v ha hv=>?_⟩
 rw [List.getElem?_set] at ha;by_cases hk:k=i;subst hk;simp only [if_true] at ha;split at ha;rename_i hlt;cases ha;exact hb v (by simpa [List.getD,HZ hlt] using h.2 k _ v (HZ hlt) hv) hv
 cases ha;rw [if_neg hk] at ha;exact h.2 i a v ha hv
def UL.nil(e:UL)(R:Nat):UL:={e with live:=λk=>k=R\/e.live k,val:=λk=>if k=R then .slice none 0 0 else e.val k}
theorem Step.nil{e:UL}{w:World}{R:Nat}(h: ¬e.live R):Step e (e.nil R) w w:=by
 refine ⟨λ_ _ h=>⟨h,rfl⟩,λk hk=>⟨.inr hk,rfl,?_⟩,Am _⟩;have:k≠R:=λh'=>h (h'▸hk);simp [UL.nil,this]
def Zm7(p:Pl)(R:Nat)(T:TypeId)(sz:Nat)(s:St):St:=match Qc6 s p with
 | .x (.slice none 0 0)=>{s with σ:=(cB s p (.row R)).σ,m:=(R,.row T sz 0 (λ_=>[]))::(cB s p (.row R)).m}
 |_=>s
theorem Wf5{cx:Cx}{w0:World}{F:Nat->Prop}{e:UL}{p:Pl}{R:Nat}{T:TypeId}{sz:Nat}{s:St}{a:Act}{w:World}(hΦ:cx.Φ s.gh F w0)(r:F3 cx w0 F e s a w)(hd: ¬e.live R)(hR:R<s.nx):Rel cx (Zm7 p R T sz s) a w:=by
 unfold Zm7;split;rename_i A;have st:Step e (e.nil R) w w:=Step.nil hd;have gD:UU (e.nil R) s.m w:=λq hq=>(r.mem q hq).ext (Below.refl _ _) st (λ_ _ h=>h);have EX:GG (e.nil R) w R (.row T sz 0 (λ_=>[])):=by
  refine ⟨.inl rfl,λb hb=>?_,λi O=>VI,[],?_,λi j a v O=>VI⟩;simp [UL.nil,Value.ownBlock] at hb;simp only [UL.nil,if_true];exact World.ownsRow_nil w 0 T sz
 have GL: ∀v,Rep e w (.x (.slice none 0 0)) v->Rep (e.nil R) w (.row R) v:=by
  intro v hv;rw [hv.x_inv];exact .row R none 0 0 (.inl rfl) (by simp [UL.nil])
 refine ⟨w0,F,e.nil R,hΦ,⟨r.env.apart,r.env.owned,r.env.glob⟩,r.below,?_,λk hk=>?_,r.foe,r.xt.step st,?_⟩;intro q hq;rcases GM.1 hq with rfl|hq;exact EX;cases p with
 |slot k=>exact gD q hq
 |cell id off=>
  simp only [cB] at hq;split at hq;rename_i T' l hg;rcases FW hq with rfl|⟨hq,_⟩
  ·obtain ⟨h1,h2,vs,h3,h4⟩:=r.mem _ (UZ hg);obtain ⟨l1,l2,l3⟩:=st.live id h1;refine ⟨l1,by rw [l2];exact h2,vs,by rw [l2];exact h3,?_⟩
   refine U2.swap (h4.step st) ?_;intro v hv hv';simp only [Qc6,hg] at A;have hlt:off<l.length:=by
    rcases An off l.length with h|h;exact h;rw [List.getD,Br h] at A;cases A
   have:=h4.2 off _ v (HZ hlt) hv';rw [List.getD,HZ hlt] at A;simp only [GR] at A;rw [A] at this;exact GL v this
  exact gD q hq;exact gD q hq
 rcases hk with rfl|hk;exact hR;exact r.live k hk
 ·cases p with
  |slot k=>
   simp only [cB];refine U2.swap (r.slots.step st) ?_;intro v hv hv';simp only [Qc6] at A;have hlt:k<s.σ.length:=by
    rcases An k s.σ.length with h|h;exact h;rw [List.getD,Br h] at A;cases A
   have:=r.slots.2 k _ v (HZ hlt) hv';rw [List.getD,HZ hlt] at A;simp only [GR] at A;rw [A] at this;exact GL v this
  |cell id off=>
   simp only [cB];split;exact r.slots.step st;exact r.slots.step st
 exact ⟨w0,F,e,hΦ,r⟩
def fQ(i:Nat):GY->GY
 |[]=>[]
 |(k,r)::t=>match Nat.beq k i with
  |true=>match r with
   | .cells T l=>(k,.keep T l)::fQ i t
   | .keep T l=>(k,.keep T l)::fQ i t
   |_=>fQ i t
  |false=>match HR i r with
   |true=>fQ i t
   |false=>(k,r)::fQ i t
def Qb4(i:Nat)(s:St):St:={s with m:=fQ i s.m}
theorem eG{e:UL}{B:Nat}{w:World}{i:Nat}(hE:G4 e B w): ∀{m:GY},UU e m w->UU (e.sol i) (fQ i m) w
 |[],_=>λp A=>by cases A
 |(k,r)::t,h=>by
  have ih:=eG (i:=i) hE (m:=t) (λp A=>h p (HI _ A));have hk:=h _ GB;unfold fQ;split;rename_i hb;have:=GX hb;subst this;split;rename_i T l;intro p A;rcases GM.1 A with rfl|A;obtain ⟨h1,h2,vs,h3,h4⟩:=hk;exact ⟨h1,.inr h2,(hE.owned _ _ h2).2,vs,h3,h4.step (Step.sol e k w)⟩;exact ih p A;rename_i T l;intro p A;rcases GM.1 A with rfl|A;exact LE (Step.sol e k w) hk;exact ih p A;exact ih;rename_i hb;split;exact ih;rename_i hak;intro p A;rcases GM.1 A with rfl|A;exact GG.sol ⟨RA hb,hak⟩ hk;exact ih p A
theorem NX{c:Cx}{w0:World}{F:Nat->Prop}{e:UL}{i:Nat}{s:St}{a:Act}{w:World}(r:F3 c w0 F e s a w):F3 c w0 F (e.sol i) (Qb4 i s) a w:=by
 have st:=Step.sol e i w;refine ⟨r.env.sol i,r.below,eG r.env r.mem,r.live,λb hb=>⟨(r.foe b hb).1,λZ=>?_⟩,r.xt.step st,r.slots.step st⟩;rcases Z with Z|Z;exact (r.foe b hb).2 Z;have:=(r.env.owned b i Z).1;have:=(r.foe b hb).1;omega
def UL.prom(e:UL)(i q:Nat):UL:={e with own:=λb=>match e.own b with|some k=>if k=q then some i else some k|none=>none}
def cU(i q:Nat):GY->GY
 |[]=>[]
 |(k,r)::t=>match Nat.beq k q||(Nat.beq k i||(HR q r||HR i r)) with
  |true=>cU i q t
  |false=>(k,r)::cU i q t
def cT(i:Nat)(s:St):St:=match DH s.m i with
 |some (.aka q T sz n f)=>{s with m:=(i,.row T sz n f)::cU i q s.m}
 |_=>s
theorem eF{e:UL}{w:World}{i q:Nat}: ∀{m:GY},UU e m w->UU (e.prom i q) (cU i q m) w
 |[],_=>λp A=>by cases A
 |(k,r)::t,h=>by
  have ih:=eF (i:=i) (q:=q) (m:=t) (λp A=>h p (HI _ A));have hk:=h _ GB;unfold cU;split;exact ih;rename_i hb;simp only [Bool.or_eq_false_iff] at hb;obtain ⟨hb1,hb2,hb3,hb4⟩:=hb;have n1:=RA hb1;have n2:=RA hb2;have st:Step e (e.prom i q) w w:=⟨λ_ _ h=>⟨h,rfl⟩,λ_ h=>⟨h,rfl,rfl⟩,Am _⟩;have ow: ∀b o,o≠q->e.own b=some o->(e.prom i q).own b=some o:=λb o ho hbo=>by simp [UL.prom,hbo,ho]
  intro p A;rcases GM.1 A with rfl|A;cases r with
  |cells T l=>
   obtain ⟨h1,h2,vs,h3,h4⟩:=hk;exact ⟨h1,ow _ _ n1 h2,vs,h3,h4.step st⟩
  |ints T pre n f=>
   obtain ⟨h1,h2,vs,h3,h4⟩:=hk;exact ⟨h1,ow _ _ n1 h2,vs,h3,h4.step st⟩
  |memo g f=>
   obtain ⟨h1,h2,es,c,h3,h4⟩:=hk;exact ⟨h1,ow _ _ n1 h2,es,c,h3,h4⟩
  |row T sz n f=>
   obtain ⟨h1,h2,hf,xs,h3,h4⟩:=hk;exact ⟨h1,λb hb=>ow _ _ n1 (h2 b hb),hf,xs,h3,λi j a v O ha hv=>(h4 i j a v O ha hv).step st⟩
  |keep T l=>exact LE st hk
  |aka r T sz n f=>
   obtain ⟨h1,h0,o,hor,h2,hf,xs,h3,h4⟩:=hk;have ho:o≠q:=by
    rcases hor with rfl|rfl;exact n1;exact RA hb3
   exact ⟨h1,h0,o,hor,λb hb=>ow _ _ ho (h2 b hb),hf,xs,h3,λi j a v O ha hv=>(h4 i j a v O ha hv).step st⟩
  exact ih p A
theorem C5{c:Cx}{i:Nat}{s:St}{a:Act}{w:World}(r:Rel c s a w):Rel c (cT i s) a w:=by
 unfold cT;split;rename_i q T sz n f hg;obtain ⟨w0,F,e,hΦ,r⟩:=r;have st:Step e (e.prom i q) w w:=⟨λ_ _ h=>⟨h,rfl⟩,λ_ h=>⟨h,rfl,rfl⟩,Am _⟩;refine ⟨w0,F,e.prom i q,hΦ,⟨⟨λb hb=>?_,λb k hk=>?_,r.env.glob.step st⟩,r.below,?_,r.live,r.foe,r.xt.step st,r.slots.step st⟩⟩;obtain ⟨h1,h2⟩:=r.env.apart b hb;exact ⟨by simp [UL.prom,h1],h2⟩
 simp only [UL.prom] at hk;cases ho:e.own b with
 |none=>rw [ho] at hk;cases hk
 |some j=>exact r.env.owned b j ho
 intro p A;rcases GM.1 A with rfl|A;obtain ⟨h1,h0,o,hor,h2,hf,xs,h3,h4⟩:=r.mem _ (UZ hg);refine ⟨h1,λb hb=>?_,hf,xs,h3,λi' j a v O ha hv=>(h4 i' j a v O ha hv).step st⟩;have:=h2 b hb;rcases hor with rfl|rfl;simp [UL.prom,this];simp [UL.prom,this];exact eF r.mem p A;exact r
def Qb5:List AV->St->St
 |[],s=>s
 | .ptr i _::l,s=>Qb5 l (Qb4 i s)
 |_::l,s=>Qb5 l s
theorem dH{c:Cx}{a:Act}{w:World}: ∀{l:List AV} {s:St},Rel c s a w->Rel c (Qb5 l s) a w
 |[],_,r=>r
 |b::l,s,r=>by
  cases b with
  |ptr i o=>
   obtain ⟨w0,F,e,hΦ,r⟩:=r;exact dH (l:=l) (s:=Qb4 i s) ⟨w0,F,_,hΦ,NX r⟩
  |_=>exact dH (l:=l) (s:=s) r
def Qy7(s:St):St:=match s.sv with
 |[]=>{s with σ:=s.σ.map (DB s.m 40),m:=[] }
 |_=>s
theorem Qy6{c:Cx}{s:St}{a:Act}{w:World}(r:Rel c s a w):Rel c (Qy7 s) a w:=by
 unfold Qy7;split;rename_i hsv;obtain ⟨w0,T,e,hΦ,r⟩:=r
 let e2:UL:={ro:=e.view.ro,own:=λ_=>none,live:=λ_=>False,blk:=λ_=>0,val:=λ_=> .nilIface}
 have hlt: ∀b,e2.ro b->b<w.heap.size:=by
  rintro b (h|⟨id,h⟩);exact (r.env.apart b h).2;exact (r.env.owned b id h).2
 have st2:Step e2 e2 w w:=⟨λb hb Z=>⟨Z,rfl⟩,λ_ h=>h.elim,Am _⟩;have uY:U2 e2 w (s.σ.map (DB s.m 40)) a.tmps.toList:=
  U2.map (DB s.m 40) (λx v hx=>Rep.idf (e:=e.view) (e':=e2) (λ_ h=>h) (L7 r.env r.mem 40 x v hx) (RO r.mem 40 x v hx)) r.slots
 refine ⟨w0,T,e2,hΦ,⟨⟨λb hb=>⟨rfl,hlt b hb⟩,(λb id h=>by cases h),DI.step (e:=e2) (w:=w) (λb p A=>⟨.inl (r.env.glob b p A).1,(r.env.glob b p A).2⟩) st2⟩,r.below,(λp A=>by cases A),(λk hk=>hk.elim),λb hb=>⟨(r.foe b hb).1,?_⟩,⟨⟨λd hd=>by obtain ⟨D,h1,h2,h3,h4,h5⟩:=r.xt.defers.1 d hd;exact ⟨D,h1,.inl h2,h3,h4,h5⟩,r.xt.defers.2⟩,λb o hb=>by obtain ⟨h1,h2,h3⟩:=r.xt.kept b o hb;exact ⟨.inl h1,h2,h3⟩,by
  have:=r.xt.saved.1;rw [hsv] at this;rw [hsv];exact ⟨this,λi a v h=>by simp at h⟩,r.xt.size⟩,uY⟩⟩
 rintro (h|⟨id,h⟩);exact (r.foe b hb).2 h;have:=(r.env.owned b id h).1;have:=(r.foe b hb).1;omega;exact r
def Qa7(p:Pl)(R:Nat)(T:TypeId)(sz:Nat)(s:St):St:=match Qc6 s p with
 | .row i=>match sz with
  | 0=>Qr3 i (cT i s)
  |_+1=>match T with
   | 0=>cT i s
   |_+1=>Ql6 i R (cT i s)
 | .ptr i _=>match sz with
  | 0=>Qb4 i s
  | 1=>Qy7 s
  |_+2=>Ql6 i R s
 | .fn _ _ l=>Qb5 l s
 | .x (.slice none 0 0)=>match T with
  | 0=>s
  |_+1=>Zm7 p R T sz (Ql6 s.nx R s)
 |_=>s
theorem Wf3{cx:Cx}{p:Pl}{R:Nat}{T:TypeId}{sz:Nat}{s:St}{a:Act}{w:World}(r:Rel cx s a w):Rel cx (Qa7 p R T sz s) a w:=by
 unfold Qa7;split;rename_i i _;split;obtain ⟨w0,F,e,hΦ,r⟩:=C5 (i:=i) r;obtain ⟨e',r'⟩:=iV (i:=i) r;exact ⟨w0,F,e',by rw [Qc7];exact hΦ,r'⟩
 split;exact C5 (i:=i) r;obtain ⟨w0,F,e,hΦ,r⟩:=C5 (i:=i) r;exact ⟨w0,F,_,hΦ,AZ r⟩;split;obtain ⟨w0,F,e,hΦ,r⟩:=r;exact ⟨w0,F,_,hΦ,NX r⟩;exact Qy6 r;obtain ⟨w0,F,e,hΦ,r⟩:=r;exact ⟨w0,F,_,hΦ,AZ r⟩;exact dH r;split;exact r;obtain ⟨w0,F,e,hΦ,r⟩:=r;refine Wf5 hΦ (AZ r) ?_ ?_;rintro (⟨_,h⟩|⟨_,_,h⟩);exact Bf _ (r.live _ h);exact h rfl;simp only [Ql6];split;rename_i hb;rw [Aw] at hb;exact hb;exact Bk _;exact r
def FY:List (Pl×Nat×TypeId×Nat)->St->St
 |[],s=>s
 |(p,R,T,sz)::t,s=>FY t (Qa7 p R T sz s)
theorem DG{cx:Cx}{a:Act}{w:World}: ∀{l:List (Pl×Nat×TypeId×Nat)} {s:St},Rel cx s a w->Rel cx (FY l s) a w
 |[],_,r=>r
 |(p,R,T,sz)::t,s,r=>DG (l:=t) (s:=Qa7 p R T sz s) (Wf3 r)
def GI(l:List (Pl×Nat×TypeId×Nat))(sp:UF):UF:=λs=>sp (FY l s)
theorem yN{P:Program}{ro:Option Nat}{cx:Cx}{c:Code}{l:List (Pl×Nat×TypeId×Nat)}{sp:UF}(h:HK P ro cx c sp):HK P ro cx c (GI l sp):=
 λn s t ht Q hQ a w r=>h n (FY l s) t ht Q hQ a w (DG r)
def pO(N:List (Pl×Nat×TypeId×Nat))(nxt:St)(out:G6->Option St)(p:G6×St):VL G6:=match p.1 with
 | .normal=> .needT (BH (FY N p.2) nxt) (.leaf .normal)
 | .exit id=>match out (.exit id) with
  |some E=> .needT (BH (FY N p.2) E) (.leaf (.exit id))
  |none=> .fail
 | .ret=>match out .ret with
  |some E=> .needT (BH (FY N p.2) E) (.leaf .ret)
  |none=> .fail
theorem Ws8{N:List (Pl×Nat×TypeId×Nat)}{t:CT}{nxt:St}{out:G6->Option St}{R:G6->Prop}(h:(t.bind (pO N nxt out)).sat R):
  t.sat (λp=>match p.1 with
   | .normal=>R .normal/\U9 (BH (FY N p.2) nxt)
   |y=> ∃E,out y=some E/\R y/\U9 (BH (FY N p.2) E)):=by
 refine VL.sat_mono ?_ (VL.sat_bind h);rintro ⟨y,s'⟩ A;cases y with
 |normal=>exact ⟨(VL.sat_needT A).2,(VL.sat_needT A).1⟩
 |exit id=>
  dsimp only [pO] at A ⊢
  split at A;rename_i E hE;exact ⟨E,hE,(VL.sat_needT A).2,(VL.sat_needT A).1⟩;exact A.elim
 |ret=>
  dsimp only [pO] at A ⊢
  split at A;rename_i E hE;exact ⟨E,hE,(VL.sat_needT A).2,(VL.sat_needT A).1⟩;exact A.elim
section
variable (P:Program)(G:List (Nat×Spec))
def HW(X:Ext)(L:List UF)(N:List (Pl×Nat×TypeId×Nat))(body:Code)(s nxt:St)(out:G6->Option St):VL G6:=(D3 P G X L body 0 s).bind (pO N nxt out)
def Zh7(L:List UF)(N:List (Pl×Nat×TypeId×Nat))(body:Code)(s nxt:St)(out:G6->Option St):VL G6:=HW P G {} L N body s nxt out
end
section
variable {P:Program}{G:List (Nat×Spec)}
theorem FL{X:Ext}{L:List UF}{ro:Option Nat}{cx:Cx}(N:List (Pl×Nat×TypeId×Nat))(hG:VJ P G)(hX:VV P X cx)(GQ:P.follows .mixedOrders=true){body:Code}(hL: ∀j cj,VQ body j=some cj-> ∀sp,L[j]? =some sp->HK P ro cx cj sp)
  {V:Type}(inv:V->St)(I:V->Prop)(μ:V->Nat)(out:V->G6->Option St){t:CT}{x0:V}(h0:I x0)
  (hok: ∀x,okB (inv x)=true)(qN: ∀x y E,out x y=some E->okB E=true)
  (round: ∀(Q:G6×St->Prop),t.sat Q-> ∀x,I x-> ∃x',(HW P G X L N body (inv x) (inv x') (out x)).sat (λy=>match y with
   | .normal=>I x'/\μ x'<μ x
   |y=> ∀E,out x y=some E->Q (y,E))):HK P ro cx (.loop body) (GI N (HB (inv x0) t)):=by
 refine yN (jA (hok x0) ?_);intro n Q hQ a w r;refine TO μ (λx a w=>I x/\Rel cx (inv x) a w) ?_ ⟨h0,r⟩;rintro x a w ⟨hx,Z⟩;obtain ⟨x',zI⟩:=round Q hQ x hx;refine wpIn_mono (D8 hG hX GQ body 0 (inv x) _ a w (λj cj hj sp hsp=>hL j cj hj sp (by simpa using hsp)) (Ws8 zI) Z) ?_
 rintro ex a₁ w₁ ⟨y,s',rfl,hq,hr'⟩;cases y with
 |normal=>
  obtain ⟨⟨h1,h2⟩,h3⟩:=hq;exact ⟨x',h2,h1,FU (GC h3) (hok x') (DG hr')⟩
 |exit id=>
  obtain ⟨E,hE,h1,h3⟩:=hq;exact ⟨.exit id,E,rfl,h1 E hE,FU (GC h3) (qN x _ E hE) (DG hr')⟩
 |ret=>
  obtain ⟨E,hE,h1,h3⟩:=hq;exact ⟨.ret,E,rfl,h1 E hE,FU (GC h3) (qN x _ E hE) (DG hr')⟩
theorem zE{L:List UF}(N:List (Pl×Nat×TypeId×Nat))(hG:VJ P G)(GQ:P.follows .mixedOrders=true){body:Code}(hL: ∀j cj,VQ body j=some cj-> ∀sp,L[j]? =some sp->G0 P cj sp)
  {X:Type}(inv:X->St)(I:X->Prop)(μ:X->Nat)(out:X->G6->Option St){t:CT}{x0:X}(h0:I x0)
  (hok: ∀x,okB (inv x)=true)(qN: ∀x y E,out x y=some E->okB E=true)
  (round: ∀(Q:G6×St->Prop),t.sat Q-> ∀x,I x-> ∃x',(Zh7 P G L N body (inv x) (inv x') (out x)).sat (λy=>match y with
   | .normal=>I x'/\μ x'<μ x
   |y=> ∀E,out x y=some E->Q (y,E))):G0 P (.loop body) (GI N (HB (inv x0) t)):=
 λro cx=>FL N hG (VV.nil P cx) GQ (λj cj hj sp hsp=>hL j cj hj sp hsp ro cx) inv I μ out h0 hok qN round
end
def FH(ps:List Prop)(sp:UF):UF:=λs=>match sp s with
 |some t=>some (.need ps t)
 |none=>none
theorem wJ{P:Program}{ro:Option Nat}{cx:Cx}{c:Code}{ps:List Prop}{sp:UF}(h:U9 ps->HK P ro cx c sp):HK P ro cx c (FH ps sp):=by
 intro n s t ht Q hQ a w r;unfold FH at ht;split at ht;rename_i t' ht';cases ht;exact h hQ.1 n s t' ht' Q hQ.2 a w r;cases ht
theorem HU{P:Program}{c:Code}{ps:List Prop}{sp:UF}(h:U9 ps->G0 P c sp):G0 P c (FH ps sp):=λro cx=>wJ (λA=>h A ro cx)
section
variable {P:Program}
def Xm0(P:Program)(rs:List ResultVar)(t:CT):VL AV:=t.bind λp=>match p.1 with
 | .exit _=> .fail
 |_=>match BO P p.2 rs with
  |some r=> .leaf (DB p.2.m 40 r)
  |none=> .fail
mutual
def FD:AV->AV->Prop
 | .x u,b=>match b with
  | .top=>True
  | .x v=>UB u v
  | .lst _ n _=>eV u/\n=0
  |b=>AV.x u=b
 | .lit c,b=>match b with
  | .top=>True
  | .x (.bool d)=>c=d
  |b=>AV.lit c=b
 | .lst sz n f,b=>match b with
  | .top=>True
  | .lst sz' n' f'=>sz=sz'/\n=n'/\ ∀i,i<n'->f i=f' i
  |b=>AV.lst sz n f=b
 | .agg l,b=>match b with
  | .top=>True
  | .agg l'=>qR l l'
  |b=>AV.agg l=b
 | .tup l,b=>match b with
  | .top=>True
  | .tup l'=>qR l l'
  |b=>AV.tup l=b
 | .roI pre n f off,b=>match b with
  | .top=>True
  | .roI pre' n' f' off'=>pre=pre'/\n=n'/\(∀k,k<n'->f k=f' k)/\off=off'
  |b=>AV.roI pre n f off=b
 |a,b=>match b with
  | .top=>True
  |b=>a=b
def qR:List AV->List AV->Prop
 |[],l'=>match l' with
  |[]=>True
  |_::_=>False
 |r::l,l'=>match l' with
  |a::l'=>FD r a/\qR l l'
  |[]=>False
end
mutual
theorem RZ{e:UL}{w:World}: ∀{a b:AV} {v:Value},FD a b->Rep e w a v->Rep e w b v
 | .x u,b,v,h,r=>by
  unfold FD at h;split at h;exact .top v;rw [bN h] at r;exact r;obtain ⟨h1,rfl⟩:=h;cases r.x_inv;rw [eU h1];exact .lstNil _ _;rw [←h];exact r
 | .lit c,b,v,h,r=>by
  unfold FD at h;split at h;exact .top v;subst h;cases r.lit_inv;exact .x _;rw [←h];exact r
 | .lst sz n f,b,v,h,r=>by
  unfold FD at h;split at h;exact .top v;obtain ⟨rfl,rfl,h3⟩:=h;exact vW.rep (.lst _ _ _ _ h3) r;rw [←h];exact r
 | .agg l,b,v,h,r=>by
  unfold FD at h;split at h;exact .top v;obtain ⟨vs,rfl,Z⟩:=r.agg_inv;exact Rep.aggL (kQ h Z);rw [←h];exact r
 | .tup l,b,v,h,r=>by
  unfold FD at h;split at h;exact .top v;obtain ⟨vs,rfl,Z⟩:=r.tup_inv;exact Rep.tupL (kQ h Z);rw [←h];exact r
 | .top,b,v,h,r=>by
  unfold FD at h;split at h;exact .top v;rw [←h];exact r
 | .fn _ _ _,b,v,h,r=>by
  unfold FD at h;split at h;exact .top v;rw [←h];exact r
 | .ptr _ _,b,v,h,r=>by
  unfold FD at h;split at h;exact .top v;rw [←h];exact r
 | .row _,b,v,h,r=>by
  unfold FD at h;split at h;exact .top v;rw [←h];exact r
 | .elt _ _ _ _,b,v,h,r=>by
  unfold FD at h;split at h;exact .top v;rw [←h];exact r
 | .ro _,b,v,h,r=>by
  unfold FD at h;split at h;exact .top v;rw [←h];exact r
 | .mp _,b,v,h,r=>by
  unfold FD at h;split at h;exact .top v;rw [←h];exact r
 | .any1,b,v,h,r=>by
  unfold FD at h;split at h;exact .top v;rw [←h];exact r
 | .mpr _ _,b,v,h,r=>by
  unfold FD at h;split at h;exact .top v;rw [←h];exact r
 | .roI pre n f off,b,v,h,r=>by
  unfold FD at h;split at h;exact .top v;obtain ⟨rfl,rfl,h3,rfl⟩:=h;cases r with
  |roI _ _ _ _ b o Z=>
   have hL:HM n f=HM n _:=List.map_congr_left (λk hk=>by rw [h3 k (List.mem_range.1 hk)])
   rw [hL] at Z;exact .roI _ _ _ _ b o Z
  rw [←h];exact r
theorem kQ{e:UL}{w:World}: ∀{l l':List AV} {vs:List Value},qR l l'->U2 e w l vs->U2 e w l' vs
 |[],[],_,_,r=>r
 |[],_::_,_,h,_=>by simp [qR] at h
 |a::l,[],_,h,_=>by simp [qR] at h
 |a::l,b::l',vs,h,r=>by
  unfold qR at h;obtain ⟨v,vs',rfl,hv,hvs⟩:=r.cons_inv;exact U2.cons (RZ h.1 hv) (kQ h.2 hvs)
end
def EndR(P:Program)(fn:Func)(res:AV)(p:G6×St):Prop:=(match p.1 with| .exit _=>False|_=>True)/\ ∃r,BO P p.2 fn.results.toList=some r/\FD (DB p.2.m 40 r) res
theorem Ws9{fn:Func}{res:AV}{t:CT}(h:(Xm0 P fn.results.toList t).sat (λr=>FD r res)):t.sat (EndR P fn res):=by
 refine VL.sat_mono ?_ (VL.sat_bind h);rintro ⟨x,s⟩ hs;cases x with
 |exit i=>exact hs.elim
 |normal=>
  simp only at hs;split at hs;rename_i r Z;exact ⟨trivial,r,Z,hs⟩;exact hs.elim
 |ret=>
  simp only at hs;split at hs;rename_i r Z;exact ⟨trivial,r,Z,hs⟩;exact hs.elim
def EndC(P:Program)(fn:Func)(Q:AV->Prop)(p:G6×St):Prop:=(match p.1 with| .exit _=>False|_=>True)/\ ∃r,BO P p.2 fn.results.toList=some r/\ ∃r',FD (DB p.2.m 40 r) r'/\Q r'
theorem Wt3{fn:Func}{Q:AV->Prop}{t:CT}(h:(Xm0 P fn.results.toList t).sat (λr=> ∃r',FD r r'/\Q r')):t.sat (EndC P fn Q):=by
 refine VL.sat_mono ?_ (VL.sat_bind h);rintro ⟨x,s⟩ hs;cases x with
 |exit i=>exact hs.elim
 |normal=>
  simp only at hs;split at hs;rename_i r Z;exact ⟨trivial,r,Z,hs⟩;exact hs.elim
 |ret=>
  simp only at hs;split at hs;rename_i r Z;exact ⟨trivial,r,Z,hs⟩;exact hs.elim
section
variable {G:List (Nat×Spec)}{X:Ext}{L:List UF}{f:FuncId}{fn:Func}{c:Code}{avs:List AV}
theorem GS{sp t:VL AV}(hG:VJ P G)(hX: ∀cx,VV P X cx)(GQ:P.follows .mixedOrders=true)(hf:P.funcs[f]? =some fn)(hb:fn.body=some c)
  (hL: ∀j cj,VQ c j=some cj-> ∀sp,L[j]? =some sp->HP P cj sp)(ht:Xm0 P fn.results.toList (D3 P G X L c 0 (HN fn avs))=t)(h: ∀Q:AV->Prop,sp.sat Q->t.sat (λr=> ∃r',FD r r'/\Q r')):UK P f avs sp:=by
 subst ht;intro Q hQ e w args hro hgl FO Z;refine xL hG GQ hf hb (cx:=lB w (λb=>b<w.heap.size/\ ¬e.ro b)) (gh:=none) (T:=λb=>b<w.heap.size/\ ¬e.ro b) (e:=e) (hX _) (λ_ _ h=>h) rfl rfl (by rintro g T w0 D ⟨rfl,_⟩ h;exact h) ⟨rfl,rfl⟩ (λb h=>h) hro hgl FO Z (λj cj hj sp hsp=>hL j cj hj sp hsp _ (xK _ _)) (Wt3 (h Q hQ)) ?_ ?_
 rintro x s w0 T' e' tmps w' ⟨hx,r,F0,r',jY,hQr⟩ ⟨rfl,rfl⟩ q1 q2 q3 q5 q4;obtain ⟨u,hu,GL⟩:=DK (P:=P) q3 q4 F0;refine ⟨u,hu,u,r',rfl,hQr,q2,?_⟩;refine RZ jY (Rep.idf (e:=e'.view) ?_ (L7 q1 q3 40 r u GL) (RO q3 40 r u GL));rintro b (hb|⟨k,hb⟩);rcases An b w0.heap.size with h1|h1;refine .inl ?_;rcases Classical.em (e.ro b) with h2|h2;exact h2;exact (q5 b ⟨h1,h2⟩ hb).elim;exact .inr ⟨h1,(q1.apart b hb).2⟩;exact .inr ⟨(q1.owned b k hb).1,(q1.owned b k hb).2⟩;rintro x s ⟨hx,_⟩ i rfl;exact hx
theorem D1{res:AV}{t:VL AV}(hG:VJ P G)(hX: ∀cx,VV P X cx)(GQ:P.follows .mixedOrders=true)(hf:P.funcs[f]? =some fn)(hb:fn.body=some c)
  (hL: ∀j cj,VQ c j=some cj-> ∀sp,L[j]? =some sp->HP P cj sp)(ht:Xm0 P fn.results.toList (D3 P G X L c 0 (HN fn avs))=t)(h:t.sat (λr=>FD r res)):FP P f avs res:=by
 subst ht;intro e w args hro hgl FO Z;refine xL hG GQ hf hb (cx:=lB w (λb=>b<w.heap.size/\ ¬e.ro b)) (gh:=none) (T:=λb=>b<w.heap.size/\ ¬e.ro b) (e:=e) (hX _) (λ_ _ h=>h) rfl rfl (by rintro g T w0 D ⟨rfl,_⟩ h;exact h) ⟨rfl,rfl⟩ (λb h=>h) hro hgl FO Z (λj cj hj sp hsp=>hL j cj hj sp hsp _ (xK _ _)) (Ws9 h) ?_ ?_
 rintro x s w0 T' e' tmps w' ⟨hx,r,F0,jY⟩ ⟨rfl,rfl⟩ q1 q2 q3 q5 q4;obtain ⟨u,hu,GL⟩:=DK (P:=P) q3 q4 F0;refine ⟨u,hu,u,rfl,q2,?_⟩;refine RZ jY (Rep.idf (e:=e'.view) ?_ (L7 q1 q3 40 r u GL) (RO q3 40 r u GL));rintro b (hb|⟨k,hb⟩);rcases An b w0.heap.size with h1|h1;refine .inl ?_;rcases Classical.em (e.ro b) with h2|h2;exact h2;exact (q5 b ⟨h1,h2⟩ hb).elim;exact .inr ⟨h1,(q1.apart b hb).2⟩;exact .inr ⟨(q1.owned b k hb).1,(q1.owned b k hb).2⟩;rintro x s ⟨hx,_⟩ i rfl;exact hx
end
def Jm0(P:Program)(rs:List ResultVar)(t:CT):VL (Option (TypeId×Nat×Nat×(Ci))):=t.bind λp=>match p.1 with
 | .exit _=> .fail
 |_=>match BO P p.2 rs with
  |some (.row id)=>match DH p.2.m id with
   |some (.row T sz n f)=> .leaf (some (T,sz,n,f))
   |_=> .fail
  |some (.x (.slice none 0 0))=> .leaf none
  |_=> .fail
def Ws4(T:TypeId)(sz n:Nat)(g:Ci):Option (TypeId×Nat×Nat×(Ci))->Prop
 |none=>n=0
 |some (T',sz',n',f)=>T'=T/\sz'=sz/\n'=n/\ ∀i,i<n->f i=g i/\ ∀a∈g i,isX a
def EndF(P:Program)(fn:Func)(T:TypeId)(sz n:Nat)(g:Ci)(p:G6×St):Prop:=(match p.1 with| .exit _=>False|_=>True)/\
 ((∃id f,BO P p.2 fn.results.toList=some (.row id)/\DH p.2.m id=some (.row T sz n f)/\ ∀i,i<n->f i=g i/\ ∀a∈g i,isX a)\/(BO P p.2 fn.results.toList=some (.x (.slice none 0 0))/\n=0))
theorem Wt2{fn:Func}{T:TypeId}{sz n:Nat}{g:Ci}{t:CT}(h:(Jm0 P fn.results.toList t).sat (Ws4 T sz n g)):t.sat (EndF P fn T sz n g):=by
 refine VL.sat_mono ?_ (VL.sat_bind h);rintro ⟨x,s⟩ hs;have key:(match BO P s fn.results.toList with
  |some (.row id)=>match DH s.m id with
   |some (.row T sz n f)=>(.leaf (some (T,sz,n,f)):VL (Option (TypeId×Nat×Nat×(Ci))))
   |_=> .fail
  |some (.x (.slice none 0 0))=> .leaf none
  |_=> .fail).sat (Ws4 T sz n g)->(∃id f,BO P s fn.results.toList=some (.row id)/\DH s.m id=some (.row T sz n f)/\ ∀i,i<n->f i=g i/\ ∀a∈g i,isX a)\/(BO P s fn.results.toList=some (.x (.slice none 0 0))/\n=0):=by
  intro h;split at h;rename_i id hid;split at h;rename_i T' sz' n' f hm;obtain ⟨rfl,rfl,rfl,h⟩:=h;exact .inl ⟨id,f,hid,hm,h⟩;exact h.elim;rename_i hid;exact .inr ⟨hid,h⟩;exact h.elim
 cases x with
 |exit i=>exact hs.elim
 |normal=>exact ⟨trivial,key hs⟩
 |ret=>exact ⟨trivial,key hs⟩
theorem P7{G:List (Nat×Spec)}{X:Ext}{L:List UF}{f:FuncId}{fn:Func}{c:Code}{avs:List AV}{T:TypeId}{sz n:Nat}{g:Ci}{t:VL (Option (TypeId×Nat×Nat×(Ci)))}(hG:VJ P G)(hX: ∀cx,VV P X cx)(GQ:P.follows .mixedOrders=true)(hf:P.funcs[f]? =some fn)(hb:fn.body=some c)
  (hL: ∀j cj,VQ c j=some cj-> ∀sp,L[j]? =some sp->HP P cj sp)(ht:Jm0 P fn.results.toList (D3 P G X L c 0 (HN fn avs))=t)(h:t.sat (Ws4 T sz n g))(HT: ∀i,i<n->(g i).length=sz):D6 P f avs T sz n g:=by
 subst ht;intro e w args hro hgl FO Z;refine xL hG GQ hf hb (cx:=lB w (λb=>b<w.heap.size/\ ¬e.ro b)) (gh:=none) (T:=λb=>b<w.heap.size/\ ¬e.ro b) (e:=e) (hX _) (λ_ _ h=>h) rfl rfl (by rintro g T w0 D ⟨rfl,_⟩ h;exact h) ⟨rfl,rfl⟩ (λb h=>h) hro hgl FO Z (λj cj hj sp hsp=>hL j cj hj sp hsp _ (xK _ _)) (Wt2 h) ?_ ?_
 rintro x s w0 T' e' tmps w' ⟨hx,PL⟩ ⟨rfl,rfl⟩ q1 q2 q3 q5 q4;rcases PL with ⟨id,ff,F0,hm,hfg⟩|⟨F0,rfl⟩;obtain ⟨u,hu,GL⟩:=DK (P:=P) q3 q4 F0;obtain ⟨h1,h2,h3,xs,h4,h5⟩:=q3 _ (UZ hm);cases GL with
 |row _ a n' c' hl hv=>
  refine ⟨_,hu,_,xs,rfl,q2,?_,?_,λi O=>⟨HT i O,λa ha=>Wh7 ((hfg i O).2 a ha)⟩,λi j a u O ha hu=>?_⟩;rw [←hv];exact h4;intro b hbv;rw [←hv] at hbv;exact q1.owned b id (h2 b hbv);have hx':=Wh7 ((hfg i O).2 a (F1 ha));obtain ⟨z,rfl⟩:=hx';have:=h5 i j (.x z) u O (by rw [(hfg i O).1];exact ha) hu
  rw [this.x_inv]
 obtain ⟨u,hu,GL⟩:=DK (P:=P) q3 q4 F0;obtain rfl:=GL.x_inv;exact ⟨_,hu,_,[],rfl,q2,World.ownsRow_nil _ _ _ _,(λb (hb:none=some b)=>by cases hb),λi O=>absurd O (Aq _),λi j a u O=>absurd O (Aq _)⟩
 rintro x s ⟨hx,_⟩ i rfl;exact hx
def BD(P:Program)(g:FuncId)(caps:List AV)(N:Nat)(vals:Nat->List Value):Prop:=
 Enters P g/\ ∀(e:UL) (lb:List Value) (w:World) (l:Nat) (Φ:Option Nat->(Nat->Prop)->World->Prop) (T:Nat->Prop),
  (∀b,e.ro b->b<w.heap.size/\ ¬T b)->DI e w->(∀b,T b->b<w.heap.size)->(∀a∈caps,Idf a)->U2 e w caps lb->
  (∀g T w w',Φ g T w->Below w.heap.size w w'->Φ g T w')->
  (∀k T w n,Φ (some k) T w->k<N->YieldAt (fr none) n P l (vals k).toArray w λen w'=>w.heap.size<=w'.heap.size/\(∀b,b<w.heap.size-> ¬T b->w'.heap[b]? =w.heap[b]?)/\
   ∃T',(∀b,T' b->b<w'.heap.size/\(T b\/w.heap.size<=b))/\((en= .returned (.bool true)/\Φ (some (k+1)) T' w')\/(en= .returned (.bool false)/\Φ none T' w')))->
  Φ (some 0) T w->
  Calls P g (.func (.yield l) #[] #[]::lb).toArray w λen w'=>(∃v,en= .returned v)/\((∃T',Φ (some N) T' w')\/(∃T',Φ none T' w'))
def Jl9(N:Nat)(t:CT):VL Unit:=t.bind λp=>match p.1 with
 | .exit _=> .fail
 |_=>match p.2.gh with
  |none=> .leaf ()
  |some k=> .need [k=N] (.leaf ())
theorem Ws6{N:Nat}{t:CT}(h:(Jl9 N t).sat (λ_=>True)):t.sat (λp=>(∀i,p.1≠ .exit i)/\(p.2.gh=none\/p.2.gh=some N)):=by
 refine VL.sat_mono ?_ (VL.sat_bind h);rintro ⟨x,s⟩ hs;have key:(match s.gh with|none=>(.leaf ():VL Unit)|some k=> .need [k=N] (.leaf ())).sat (λ_=>True)->s.gh=none\/s.gh=some N:=by
  cases hg:s.gh with
  |none=>exact λ_=> .inl rfl
  |some k=>
   intro h;have:k=N:=h.1;exact .inr (by rw [this])
 cases x with
 |exit i=>exact hs.elim
 |normal=>exact ⟨λi h=>(by cases h),key hs⟩
 |ret=>exact ⟨λi h=>(by cases h),key hs⟩
def cxY(w:World)(Φ:Option Nat->(Nat->Prop)->World->Prop):Cx:={M:=λ_=>False,Φ:=λg T w'=>w.heap.size<=w'.heap.size/\Φ g T w',K:=λ_ _=>False,saved:=[] }
theorem BN{G:List (Nat×Spec)}{L:Nat->List UF}{g:FuncId}{fn:Func}{c:Code}{caps:List AV}{N:Nat}{vals:Nat->List Value}{t:Nat->VL Unit}(hG:VJ P G)(GQ:P.follows .mixedOrders=true)(PC:Enters P g)(hf:P.funcs[g]? =some fn)(hb:fn.body=some c)(hrs:fn.results=#[])
  (hL: ∀l cx,VV P {Y:=some (l,N,vals) } cx-> ∀j cj,VQ c j=some cj-> ∀sp,(L l)[j]? =some sp->HK P none cx cj sp)
  (ht: ∀l,Jl9 N (D3 P G {Y:=some (l,N,vals) } (L l) c 0 {HN fn (.fn (.yield l) [] []::caps) with gh:=some 0})=t l)(h: ∀l,(t l).sat (λ_=>True)):BD P g caps N vals:=by
 refine ⟨PC,?_⟩;intro e lb w l Φ T hro hgl hT FO Z hst hy h0;have hX:VV P {Y:=some (l,N,vals) } (cxY w Φ):=by
  refine ⟨?_,(λ_ h=>by cases h),(λ_ h=>by cases h),(λ_ h=>by cases h),(λ_ h=>by cases h),(λ_ h=>by cases h)⟩
  intro l' N' vals' hY;cases hY;refine ⟨λk T w1 w2 h hb=>⟨Ar h.1 hb.size,hst _ T w1 w2 h.2 hb⟩,λk T w1 n h hk=>?_⟩;obtain ⟨fn,tmps,assign,body,h1,h2⟩:=hy k T w1 n h.2 hk;refine ⟨fn,tmps,assign,body,h1,h2.mono ?_⟩;rintro en w2 ⟨q1,q2,T',q3,q4⟩;refine ⟨q1,q2,T',q3,q4.imp (λq=>⟨q.1,?_,q.2⟩) (λq=>⟨q.1,?_,q.2⟩)⟩;exact Ar h.1 q1;exact Ar h.1 q1
 have hs:=h l;rw [←ht l] at hs;refine xL hG GQ hf hb (cx:=cxY w Φ) (gh:=some 0) (T:=T) (e:=e) (avs:= .fn (.yield l) [] []::caps) hX (λ_ _ h=>h) rfl rfl (λ_ _ _ _ _ h=>h.elim) ⟨Am _,h0⟩ (λb hb=>⟨hT b hb,λZ=>(hro b Z).2 hb⟩) (λb hb=>(hro b hb).1) hgl ?_ (U2.cons (.fn (.yield l) [] [] [] [] rfl (λi a v h=>by simp at h) rfl (λi a v h=>by simp at h)) Z) (hL l _ hX) (Ws6 hs) ?_ ?_
 intro a ha;rcases GM.1 ha with rfl|ha;exact .fn _ [] [] (λa h=>by cases h) (λa h=>by cases h)
 exact FO a ha;rintro x s w0 T' e' tmps w' ⟨_,hgh⟩ ⟨_,hΦ⟩ _ q2 _ _ _;refine ⟨.tuple #[],?_,⟨_,rfl⟩,?_⟩;simp [results,hrs];have hΦ':=hst _ T' w0 w' hΦ q2;rcases hgh with hgh|hgh;rw [hgh] at hΦ';exact .inr ⟨T',hΦ'⟩;rw [hgh] at hΦ';exact .inl ⟨T',hΦ'⟩;exact λx s h=>h.1
end
section
variable {P:Program}{cx:Cx}{w0:World}{T:Nat->Prop}{e:UL}{s:St}{a:Act}{w:World}
theorem F3.grow(r:F3 cx w0 T e s a w){w':World}(hb:Below w.heap.size w w'):F3 cx w0 T e s a w':=by
 have st:Step e e w w':=⟨λb hlt Z=>⟨Z,hb.block b hlt⟩,λ_ h=>⟨h,rfl,rfl⟩,hb.size⟩;refine ⟨⟨λb hb'=>⟨(r.env.apart b hb').1,?_⟩,λb k hk=>⟨(r.env.owned b k hk).1,?_⟩,r.env.glob.step st⟩,r.below.trans (hb.mono r.hB),r.mem.ext hb st (λ_ _ h=>h),r.live,r.foe,r.xt.step st,r.slots.step st⟩;have:=(r.env.apart b hb').2;have:=hb.size;omega;have:=(r.env.owned b k hk).2;have:=hb.size;omega
theorem F3.moreRo(r:F3 cx w0 T e s a w)(ro':Nat->Prop)(h1: ∀b,e.ro b->ro' b)(h2: ∀b,ro' b->e.own b=none/\b<w.heap.size)(h3: ∀b,ro' b-> ¬T b):F3 cx w0 T {e with ro:=ro'} s a w:=by
 have st:Step e {e with ro:=ro'} w w:=⟨λb _ Z=>⟨h1 b Z,rfl⟩,λ_ h=>⟨h,rfl,rfl⟩,Am _⟩
 exact ⟨⟨h2,r.env.owned,r.env.glob.step st⟩,r.below,r.mem.ext (Below.refl _ _) st (λ_ _ h=>h),r.live,λb hb=>⟨(r.foe b hb).1,λh=>h3 b h hb⟩,r.xt.step st,r.slots.step st⟩
theorem F3.turn(r:F3 cx w0 T e s a w){l:Nat}{o o':Obj}(hl:w.heap[l]? =some o)(ho:o.isCells=false)(ho':o'.isCells=false)(H6:e.own l=none)(hB:w0.heap.size<=l)(hdl: ∃q,o= .loop q){K':Nat->Obj->Prop}
  (hK': ∀b q,K' b q->(b≠l/\cx.K b q)\/(b=l/\q=o'/\e.ro l)):F3 {cx with K:=K'} w0 T e s a (w.putObj l o'):=by
 have hd: ∀x,o≠ .deferred x:=by rintro x rfl;obtain ⟨_,h⟩:=hdl;cases h
 have hom: ∀es c,o≠Obj.map es c:=by rintro es c rfl;obtain ⟨_,h⟩:=hdl;cases h
 have hmp:=qH (o':=o') hl hom;have hlt:=(P5.1 hl).1;have hsz:(w.putObj l o').heap.size=w.heap.size:=World.putObj_size;have hc:=BB (o':=o') hl ho ho';refine ⟨⟨λb hb=>by rw [hsz];exact r.env.apart b hb,λb k hk=>by rw [hsz];exact r.env.owned b k hk,TZ r.env.glob hl ho⟩,?_,λp A=>(r.mem p A).putObj hl hom ho ho' H6,r.live,r.foe,⟨⟨λd hd'=>?_,r.xt.defers.2⟩,λb q hq=>?_,⟨r.xt.saved.1,λi x v hx hv=>(r.xt.saved.2 i x v hx hv).sameCells hsz hc hmp⟩,by rw [hsz];exact r.xt.size⟩,r.slots.sameCells hsz hc hmp⟩
 exact r.below.trans ((Below.refl w0.heap.size w).grown (grownBy_putObj' w l _) (by have:=r.hB;omega) (λk he=>by cases he;exact hB))
 obtain ⟨D,k1,k2,k3,k4,k5⟩:=r.xt.defers.1 d hd';refine ⟨D,k1,k2,by rw [hsz];exact k3,?_,k5⟩
 rw [Bu (λhe=>by subst he;rw [hl] at k4;exact hd _ (Bb k4))]
 exact k4;rcases hK' b q hq with ⟨hne,hk⟩|⟨rfl,rfl,hro⟩;obtain ⟨q1,q2,q3⟩:=r.xt.kept b q hk;exact ⟨q1,by rw [hsz];exact q2,(Bu hne).trans q3⟩
 exact ⟨hro,by rw [hsz];exact hlt,World.putObj_heap_same hlt⟩
def Wb0:List Nat->List Value->List AV->List AV
 |p::ps,v::vs,σ=>Wb0 ps vs (σ.set p (.x v))
 |_,_,σ=>σ
theorem ND: ∀(ps:List Nat) (vs:List Value) (σ:List AV) (us:List Value),U2 e w σ us->U2 e w (Wb0 ps vs σ) ((ps.zip vs).foldl (λt (p:Nat×Value)=>t.set p.1 p.2) us)
 |[],_,_,_,h=>h
 |_::_,[],_,_,h=>h
 |p::ps,v::vs,_,_,h=>ND ps vs _ _ (h.set (.x v) p)
theorem fX: ∀(l:List (Nat×Value)) (t:Array Value),(l.foldl (λt (p:Nat×Value)=>t.setIfInBounds p.1 p.2) t).toList=l.foldl (λt (p:Nat×Value)=>t.set p.1 p.2) t.toList
 |[],_=>rfl
 |p::l,t=>by simp only [List.foldl_cons];rw [fX l];simp
def nB(s:St)(ps:List Nat)(vs:List Value):St:={s with σ:=Wb0 ps vs s.σ,sv:=s.σ::s.sv}
def MJ(s:St):St:=match s.sv with
 |σ::t=>{s with σ:=σ,sv:=t}
 |[]=>s
def AW(P:Program)(G:List (Nat×Spec))(X:Ext)(L:List UF)(N:List (Pl×Nat×TypeId×Nat))(ps:List Nat)(vs:List Value)(assign body:Code)(s nxt:St)(out:G6->Option St):VL G6:=
 (D3 P G X [] assign 0 (nB s ps vs)).bind λp=>match p.1 with
  | .normal=>(D3 P G X L body 0 p.2).bind λq=>pO N nxt out (q.1,MJ q.2)
  |_=> .fail
def G6.code:G6->Code
 | .normal=> .skip
 | .exit id=> .exit id
 | .ret=> .ret
end
section
variable {P:Program}{G:List (Nat×Spec)}{X:Ext}{L:List UF}
theorem nH{N:List (Pl×Nat×TypeId×Nat)}{ps:List Nat}{vs:List Value}{assign body:Code}{s nxt:St}{out:G6->Option St}{R:G6->Prop}(h:(AW P G X L N ps vs assign body s nxt out).sat R):
  (D3 P G X [] assign 0 (nB s ps vs)).sat (λp=>p.1= .normal/\(D3 P G X L body 0 p.2).sat (λq=>match q.1 with
   | .normal=>R .normal/\U9 (BH (FY N (MJ q.2)) nxt)
   |y=> ∃E,out y=some E/\R y/\U9 (BH (FY N (MJ q.2)) E))):=by
 refine VL.sat_mono ?_ (VL.sat_bind h);rintro ⟨y,s1⟩ h1;cases y with
 |normal=>
  refine ⟨rfl,VL.sat_mono ?_ (VL.sat_bind h1)⟩;rintro ⟨y,s'⟩ A;cases y with
  |normal=>exact ⟨(VL.sat_needT A).2,(VL.sat_needT A).1⟩
  |exit id=>
   dsimp only [pO] at A ⊢
   split at A;rename_i E hE;exact ⟨E,hE,(VL.sat_needT A).2,(VL.sat_needT A).1⟩;exact A.elim
  |ret=>
   dsimp only [pO] at A ⊢
   split at A;rename_i E hE;exact ⟨E,hE,(VL.sat_needT A).2,(VL.sat_needT A).1⟩;exact A.elim
 |exit id=>exact h1.elim
 |ret=>exact h1.elim
theorem yL(N:List (Pl×Nat×TypeId×Nat))(hG:VJ P G)(hX: ∀cx,VV P X cx)(GQ:P.follows .mixedOrders=true){f:Operand}{ps:Array Nat}{assign body:Code}
  (hL: ∀j cj,VQ body j=some cj-> ∀sp,L[j]? =some sp->G0 P cj sp)
  {V:Type}(inv:V->St)(I:V->Prop)(idx:V->Nat)(out:V->G6->Option St){t:CT}{x0:V}(h0:I x0)(hi0:idx x0=0)
  (hok: ∀x,okB (inv x)=true)(qN: ∀x y E,out x y=some E->okB E=true)(hgh: ∀x,(inv x).gh=none)(Qp9: ∀x y E,out x y=some E->E.gh=none)
  {g:FuncId}{caps:List AV}{caps0:List AV}(hfv:rho (inv x0).σ f= .fn (.func g) [] caps0)(yR: ∀e w lb,UU e (inv x0).m w->U2 e w caps0 lb->U2 e w caps lb/\ ∀x∈caps,Idf x){M:Nat}{vals:Nat->List Value}(Qp4:BD P g caps M vals)(hps: ∀k,(vals k).length=ps.size)
  (round: ∀(Q:G6×St->Prop),t.sat Q-> ∀x,I x->(idx x<M-> ∃x',idx x'=idx x+1/\(AW P G X L N ps.toList (vals (idx x)) assign body (inv x) (inv x') (out x)).sat (λy=>match y with
   | .normal=>I x'
   |y=> ∀E,out x y=some E->Q (y,E)))/\(idx x=M->Q (.normal,inv x))):HP P (.rangeFunc f ps assign body) (GI N (HB (inv x0) t)):=by
 intro cx Zq1;refine yN (jA (hok x0) ?_);intro n Q hQ a w r;obtain ⟨w0,T0,e,hΦ0,r⟩:=r;rw [hgh] at hΦ0;refine wpIn_rangeFunc ?_;intro fn hfn;obtain ⟨rec,yE⟩: ∃rec:LoopState->Option Code->Loop,rec=λst pe=>{state:=st,pending:=pe,fn,tmps:=a.tmps,params:=ps,assign,body,defers:=w.heap.size}:=⟨_,rfl⟩;obtain ⟨W1,hW1⟩: ∃W1,(w.alloc (.deferred (some []))).alloc (.loop (rec .ready none))=W1:=⟨_,rfl⟩;have hfe:=FK r.slots f;rw [hfv] at hfe;obtain ⟨us,lb,hv,ru,rl⟩:=hfe.fn_inv;cases ru.nil_inv;have hL1:W1.heap[w.heap.size+1]? =some (.loop (rec .ready none)):=by
  rw [←hW1];have:=World.alloc_heap_new (w.alloc (.deferred (some []))) (.loop (rec .ready none));rwa [World.size_alloc] at this
 have hD1:W1.heap[w.heap.size]? =some (.deferred (some [])):=by
  rw [←hW1];exact (Below.heap_alloc _ _ _ VS).trans (World.alloc_heap_new w _)
 have hS1:W1.heap.size=w.heap.size+2:=by rw [←hW1];simp
 have hb1:Below w.heap.size w W1:=by
  rw [←hW1];exact ((Below.refl _ w).alloc (Am _) _).alloc VS _
 have hw0:=r.hB
 obtain ⟨a',ha'⟩: ∃a':Act,a'={tmps:=a.tmps,defers:={target:= .collected w.heap.size,args:=#[] }::a.defers}:=⟨_,rfl⟩
 let own':UL->Nat->Prop:=λe b=>(∃id,e.own b=some id)\/b=w.heap.size+1
 let Φi:Option Nat->(Nat->Prop)->World->Prop:=λk T W=>match k with
  |some k=> ∃x e,I x/\idx x=k/\T=own' e/\F3 cx w0 T0 e (inv x) a' W/\e.own (w.heap.size+1)=none/\W.heap[w.heap.size+1]? =some (.loop (rec .ready none))
  |none=> ∃y E e,y≠G6.normal/\Q (y,E)/\E.gh=none/\T=own' e/\F3 cx w0 T0 e E a' W/\e.own (w.heap.size+1)=none/\W.heap[w.heap.size+1]? =some (.loop (rec .done (some y.code)))
 have hst: ∀g T w w',Φi g T w->Below w.heap.size w w'->Φi g T w':=by
  intro k T w1 w2 h hb;cases k with
  |some k=>
   obtain ⟨x,e,h1,h2,h3,h4,h5,h6⟩:=h;exact ⟨x,e,h1,h2,h3,h4.grow hb,h5,(hb.block _ (P5.1 h6).1).trans h6⟩
  |none=>
   obtain ⟨y,E,e,h1,h2,h2',h3,h4,h5,h6⟩:=h;exact ⟨y,E,e,h1,h2,h2',h3,h4.grow hb,h5,(hb.block _ (P5.1 h6).1).trans h6⟩
 have r1:=r.grow hb1;have hns: ∀d∈a.defers,d≠{target:= .collected w.heap.size,args:=#[] }:=by
  intro d hd he;obtain ⟨D,k1,k2,k3,k4,k5⟩:=r.xt.defers.1 d hd;rw [k1] at he;simp only [Deferred.mk.injEq,Target.collected.injEq,and_true] at he;omega
 let e1:UL:={e with ro:=λb=>e.ro b\/b=w.heap.size}
 have r2:F3 cx w0 T0 e1 (inv x0) a W1:=by
  refine r1.moreRo _ (λb h=> .inl h) ?_ ?_;rintro b (h|rfl);exact r1.env.apart b h;refine ⟨?_,VI⟩;cases ho:e.own w.heap.size with
  |none=>rfl
  |some k=>have:=(r.env.owned _ k ho).2;omega
  rintro b (h|rfl) hT;exact (r.foe b hT).2 h;have:=(r.foe _ hT).1;omega
 have r3:F3 cx w0 T0 e1 (inv x0) a' W1:=by
  rw [ha'];refine ⟨r2.env,r2.below,r2.mem,r2.live,r2.foe,⟨⟨λd hd=>?_,List.nodup_cons.2 ⟨λh=>hns _ h rfl,r2.xt.defers.2⟩⟩,r2.xt.kept,r2.xt.saved,r2.xt.size⟩,r2.slots⟩;rcases GM.1 hd with rfl|hd;exact ⟨w.heap.size,rfl,.inr rfl,VI,hD1,Zq1 _ _ _ _ hΦ0 hw0 r.xt.size⟩;exact r2.xt.defers.1 d hd
 have Jk0:e.own (w.heap.size+1)=none:=by
  cases ho:e.own (w.heap.size+1) with
  |none=>rfl
  |some k=>have:=(r.env.owned _ k ho).2;omega
 refine ⟨w.heap.size+1,[{target:= .collected w.heap.size,args:=#[] }],W1,{target:= .fn (.func g) lb.toArray,args:=#[.func (.yield (w.heap.size+1)) #[] #[]] },W1,g,
  #[.func (.yield (w.heap.size+1)) #[] #[]]++lb.toArray,W1,?_,?_,(λ_ _=>trivial),?_,(λh=>by cases h),?_⟩
 rw [←hW1,yE];exact run_enterLoop_outer _ _ _ _ _;simp only [resolve,hv];simp [go_sem];simp only [invoke];exact LA Qp4.1 _ W1;have OB:#[.func (.yield (w.heap.size+1)) #[] #[]]++lb.toArray=(Value.func (.yield (w.heap.size+1)) #[] #[]::lb).toArray:=Array.ext' VS;rw [OB];obtain ⟨rl,Jl0⟩:=yR e w lb r.mem rl;have stw:Step e e1 w W1:=⟨λb hlt Z=>⟨.inl Z,hb1.block b hlt⟩,λ_ h=>⟨h,rfl,rfl⟩,hb1.size⟩;have FF:=Qp4.2 e1 lb W1 (w.heap.size+1) Φi (own' e1) ?_ (r.env.glob.step stw) ?_ Jl0 (rl.step stw) hst ?_ ⟨x0,e1,h0,hi0,rfl,r3,Jk0,hL1⟩;refine IP (FF.mono ?_);have hw4: ∀{W:World} {s:St} {e:UL} {o:Loop} {o':Loop},F3 cx w0 T0 e s a' W->e.own (w.heap.size+1)=none->W.heap[w.heap.size+1]? =some (.loop o)->s.gh=none->Rel cx s a' (W.putObj (w.heap.size+1) (.loop o')):=by
  intro W s e o o' Z ho hl hg;have hne: ∀b q,cx.K b q->b≠w.heap.size+1:=by
   rintro b q hk rfl;have h1:=r.xt.kept _ q hk;omega
  have:=Z.turn (K':=cx.K) hl rfl (o':= .loop o') rfl ho VI ⟨_,rfl⟩ (λb q hk=> .inl ⟨hne b q hk,hk⟩);exact ⟨w0,T0,e,by rw [hg];exact hΦ0,this⟩
 rintro en W ⟨⟨v,rfl⟩,h⟩;rcases h with ⟨T',x,e',q1,q2,q3,q4,q5,q6⟩|⟨T',y,E,e',q1,q2,q2',q3,q4,q5,q6⟩;refine ⟨none,_,by have:=run_endLoop (P:=P) q6 (by rw [yE];simp);rw [yE] at this;exact this,?_⟩
 have:=hw4 (o':={rec .ready none with state:= .exhausted}) q4 q5 q6 (hgh x)
 rw [ha',yE] at this;exact ⟨.normal,inv x,rfl,(round Q hQ x q1).2 q2,this⟩
 ·have PL:(Instr.endLoop (w.heap.size+1)).run P W= .ok (some y.code) (W.putObj (w.heap.size+1) (.loop {rec .done (some y.code) with state:= .exhausted})):=by
   have:=run_endLoop (P:=P) q6 (by rw [yE];simp)
   rw [yE] at this ⊢;exact this
  refine ⟨some y.code,_,PL,?_⟩;have:=hw4 (o':={rec .done (some y.code) with state:= .exhausted}) q4 q5 q6 q2'
  rw [ha'] at this;cases y with
  |normal=>exact (q1 rfl).elim
  |exit id=>exact wpIn_exit ⟨.exit id,E,rfl,q2,this⟩
  |ret=>exact wpIn_ret ⟨.ret,E,rfl,q2,this⟩
 rintro b (h|rfl);refine ⟨by have:=(r.env.apart b h).2;omega,?_⟩
 rintro (⟨id,h2⟩|rfl);have h2':e.own b=some id:=h2;rw [(r.env.apart b h).1] at h2';cases h2';have:=(r.env.apart _ h).2;omega;refine ⟨VI,?_⟩;rintro (⟨id,h2⟩|h2);have:=(r.env.owned _ id h2).2;omega;omega;rintro b (⟨id,h⟩|rfl);have:=(r.env.owned b id h).2;omega;omega
 ·-- a round
  rintro k T W m ⟨x,ek,hIx,rfl,rfl,rk,hkl,hkr⟩ hkM;obtain ⟨x',hx',zI⟩:=(round Q hQ x hIx).1 hkM;have hWl:=(P5.1 hkr).1;have hy:=run_yield (P:=P) (args:=(vals (idx x)).toArray) hkr (by rw [yE];simp [hps])
  rw [yE] at hy;refine ⟨fn,_,assign,body,hy,roundIn_of_wpIn hfn ?_⟩;clear hy
  let nown:Nat->Prop:=λb=>w0.heap.size<=b/\b<W.heap.size/\ek.own b=none
  let K0:Nat->Obj->Prop:=λb o=>(cx.K b o\/(nown b/\W.heap[b]? =some o)\/(∃d∈a'.defers,d={target:= .collected b,args:=#[] }/\o= .deferred (some [])))/\b≠w.heap.size+1
  let cxk:(Nat->Obj->Prop)->Cx:=λK=>{M:=λ_=>False,Φ:=λg T w=>g=none/\w=w0/\T=T0,K:=K,saved:=a.tmps.toList::cx.saved,sz:=W.heap.size}
  let e2:UL:={ek with ro:=λb=>ek.ro b\/nown b}
  have rk2:F3 cx w0 T0 e2 (inv x) a' W:=by
   refine rk.moreRo _ (λb h=> .inl h) ?_ ?_;rintro b (h|⟨h1,h2,h3⟩);exact rk.env.apart b h;exact ⟨h3,h2⟩;rintro b (h|⟨h1,h2,h3⟩) hT;exact (rk.foe b hT).2 h;have:=(rk.foe b hT).1;omega
  have hKok: ∀b o,K0 b o->e2.ro b/\b<W.heap.size/\W.heap[b]? =some o:=by
   rintro b o ⟨h|⟨h1,h2⟩|⟨d,hd,h1,rfl⟩,_⟩;exact rk2.xt.kept b o h;exact ⟨.inr h1,h1.2.1,h2⟩;obtain ⟨D,k1,k2,k3,k4,k5⟩:=rk2.xt.defers.1 d hd;rw [h1] at k1;simp only [Deferred.mk.injEq,Target.collected.injEq,and_true] at k1;subst k1;exact ⟨k2,k3,k4⟩
  have hlro:e2.ro (w.heap.size+1):= .inr ⟨VI,hWl,hkl⟩;have rs:Rel (cxk (λb o=>K0 b o\/(b=w.heap.size+1/\o= .loop (rec .ready none)))) (nB (inv x) ps.toList (vals (idx x))) {tmps:=(ps.zip (vals (idx x)).toArray).foldl (λt (p,v)=>t.setIfInBounds p v) a.tmps,defers:=[] } W:=by
   refine ⟨w0,T0,e2,⟨hgh x,rfl,rfl⟩,rk2.env,rk2.below,rk2.mem,rk2.live,rk2.foe,⟨⟨(λd hd=>by cases hd),By⟩,?_,L6.cons (by rw [ha'] at rk2;exact rk2.slots) rk2.xt.saved,Am _⟩,?_⟩
   rintro b o (h|⟨rfl,rfl⟩);exact hKok b o h;exact ⟨hlro,hWl,hkr⟩;have h1:=ND (e:=e2) (w:=W) ps.toList (vals (idx x)) (inv x).σ a.tmps.toList (by rw [ha'] at rk2;exact rk2.slots)
   have h2:((ps.zip (vals (idx x)).toArray).foldl (λt (p,v)=>t.setIfInBounds p v) a.tmps).toList=(ps.toList.zip (vals (idx x))).foldl (λt (p:Nat×Value)=>t.set p.1 p.2) a.tmps.toList:=by
    rw [←fX,←Array.foldl_toList];simp
   rw [h2];exact h1
  have FI:=nH zI;refine wpIn_mono (D8 hG (hX _) GQ (ro:=some (w.heap.size+1)) assign 0 _ _ _ W G7 FI rs) ?_;rintro ex a1 W1' ⟨y1,s1,rfl,⟨hy1,Jl1⟩,w0',T',ea,⟨hg1,rfl,rfl⟩,ra⟩;cases hy1;obtain ⟨hlr,hll,hlh⟩:=ra.xt.kept (w.heap.size+1) (.loop (rec .ready none)) (.inr ⟨rfl,rfl⟩);refine ⟨_,run_beginRound hlh (by rw [yE]),?_⟩
  have rb:=ra.turn (K':=λb o=>K0 b o\/(b=w.heap.size+1/\o= .loop {rec .ready none with state:= .busy})) hlh rfl (o':= .loop {rec .ready none with state:= .busy}) rfl (ra.env.apart _ hlr).1 VI ⟨_,rfl⟩ (by
   rintro b q (h|⟨rfl,rfl⟩);exact .inl ⟨h.2,.inl h⟩;exact .inr ⟨rfl,rfl,hlr⟩)
  refine wpIn_mono (D8 hG (hX _) GQ (ro:=some (w.heap.size+1)) (cx:=cxk (λb o=>K0 b o\/(b=w.heap.size+1/\o= .loop {rec .ready none with state:= .busy}))) body 0 s1 _ a1 _ (λj cj hj sp hsp=>hL j cj hj sp (by simpa using hsp) _ _) Jl1 ⟨w0',T',ea,⟨hg1,rfl,rfl⟩,rb⟩) ?_
  rintro ex a3 W3 ⟨y,s3,rfl,hq,w0'',T'',eb,⟨hg3,hw0e,hT0e⟩,rc⟩;subst hw0e hT0e;obtain ⟨Jk7,hll3,Jk8⟩:=rc.xt.kept (w.heap.size+1) _ (.inr ⟨rfl,rfl⟩)
  have back: ∀(jump:Option Code) (E:St),U9 (BH (FY N (MJ s3)) E)->okB E=true->
    (Instr.endRound (w.heap.size+1) jump).run P W3= .ok (.bool jump.isNone) (W3.putObj (w.heap.size+1) (.loop (rec (if jump.isNone then .ready else .done) jump)))/\
    ∃ec,F3 cx w0'' T'' ec E a' (W3.putObj (w.heap.size+1) (.loop (rec (if jump.isNone then .ready else .done) jump)))/\ec.own (w.heap.size+1)=none/\
     (W3.putObj (w.heap.size+1) (.loop (rec (if jump.isNone then .ready else .done) jump))).heap[w.heap.size+1]? =some (.loop (rec (if jump.isNone then .ready else .done) jump))/\
     W.heap.size<=(W3.putObj (w.heap.size+1) (.loop (rec (if jump.isNone then .ready else .done) jump))).heap.size/\
     (∀b,b<W.heap.size-> ¬own' ek b->(W3.putObj (w.heap.size+1) (.loop (rec (if jump.isNone then .ready else .done) jump))).heap[b]? =W.heap[b]?)/\
     ∀b,own' ec b->b<(W3.putObj (w.heap.size+1) (.loop (rec (if jump.isNone then .ready else .done) jump))).heap.size/\(own' ek b\/W.heap.size<=b):=by
   intro jump E p8 hokE;have DN:=run_endRound (P:=P) jump Jk8;refine ⟨by rw [yE] at DN ⊢;exact DN,?_⟩
   obtain ⟨W4,hW4⟩: ∃W4,W4=W3.putObj (w.heap.size+1) (.loop (rec (if jump.isNone then .ready else .done) jump)):=⟨_,rfl⟩
   rw [←hW4];have rd:=rc.turn (K':=K0) Jk8 rfl (o':= .loop (rec (if jump.isNone then .ready else .done) jump)) rfl (rc.env.apart _ Jk7).1 VI ⟨_,rfl⟩ (λb q h=> .inl ⟨h.2,.inl h⟩)
   rw [←hW4] at rd;have hl4:W4.heap[w.heap.size+1]? =some (.loop (rec (if jump.isNone then .ready else .done) jump)):=by rw [hW4];exact World.putObj_heap_same hll3
   have Jj3:W.heap.size<=W4.heap.size:=rd.xt.size
   let cxp:Cx:={M:=λD=>cx.M D,Φ:=λg T w=>g=none/\w=w0''/\T=T'',K:=λb o=>K0 b o\/(b=w.heap.size+1/\o= .loop (rec (if jump.isNone then .ready else .done) jump)),saved:=cx.saved,sz:=cx.sz}
   have hpop:Rel cxp (MJ s3) a' W4:=by
    obtain ⟨σ0,l',hsv,hs1,hs2⟩:=rd.xt.saved.cons_inv;refine ⟨w0'',T'',eb,?_,rd.env,rd.below,?_,?_,rd.foe,⟨⟨λd hd=>?_,?_⟩,?_,?_,Ar rk.xt.size Jj3⟩,?_⟩;exact ⟨by unfold MJ;rw [hsv];exact hg3,rfl,rfl⟩
    unfold MJ;rw [hsv];exact rd.mem;unfold MJ;rw [hsv];exact rd.live;obtain ⟨D,k1,k2,k3,k4,k5⟩:=rk.xt.defers.1 d hd;have hDl:D≠w.heap.size+1:=by
     rintro rfl;rw [hkr] at k4;cases k4
    obtain ⟨q1,q2,q3⟩:=rd.xt.kept D (.deferred (some [])) ⟨.inr (.inr ⟨d,hd,k1,rfl⟩),hDl⟩;exact ⟨D,k1,q1,q2,q3,k5⟩;exact rk.xt.defers.2;rintro b o (h|⟨rfl,rfl⟩);exact rd.xt.kept b o h;exact ⟨Jk7,(P5.1 hl4).1,hl4⟩;unfold MJ;rw [hsv];exact hs2;unfold MJ;rw [hsv];rw [ha'];exact hs1
   obtain ⟨w0p,Tp,ec,⟨_,rfl,rfl⟩,re⟩:=FU (GC p8) hokE (DG (l:=N) hpop);have hlec:=re.xt.kept _ _ (Or.inr ⟨rfl,rfl⟩);refine ⟨ec,⟨re.env,re.below,re.mem,re.live,re.foe,⟨re.xt.defers,λb o h=>?_,re.xt.saved,re.xt.size⟩,re.slots⟩,(re.env.apart _ hlec.1).1,hl4,Jj3,?_,?_⟩;refine re.xt.kept b o (.inl ⟨.inl h,?_⟩);rintro rfl;have h1:=r.xt.kept _ o h;omega;intro b hb hno;rcases An b w0p.heap.size with h1|h1;rw [re.below.block b h1,rk.below.block b h1];have hbn:ek.own b=none:=by
    cases ho:ek.own b with
    |none=>rfl
    |some id=>exact (hno (.inl ⟨id,ho⟩)).elim
   have hbl:b≠w.heap.size+1:=λh=>hno (.inr h);have hlt:b<W.heap.size:=hb;obtain ⟨_,_,q3⟩:=re.xt.kept b W.heap[b] (.inl ⟨.inr (.inl ⟨⟨h1,hlt,hbn⟩,by simp [hlt]⟩),hbl⟩)
   rw [q3];simp [hlt];rintro b (⟨id,h⟩|rfl);obtain ⟨q1,q2⟩:=re.env.owned b id h;refine ⟨q2,?_⟩;rcases An b W.heap.size with h1|h1;refine .inl ?_;cases ho:ek.own b with
   |some id'=>exact .inl ⟨id',ho⟩
   |none=>
    rcases Classical.em (b=w.heap.size+1) with h2|h2;exact .inr h2;exfalso;obtain ⟨q3,_,_⟩:=re.xt.kept b W.heap[b] (.inl ⟨.inr (.inl ⟨⟨q1,h1,ho⟩,by simp [h1]⟩),h2⟩)
    rw [(re.env.apart b q3).1] at h;cases h
   exact .inr h1;exact ⟨(P5.1 hl4).1,.inl (.inr rfl)⟩
  cases y with
  |normal=>
   obtain ⟨hI',p8⟩:=hq;obtain ⟨DN,ec,q1,q2,q3,q4,q5,q6⟩:=back none (inv x') p8 (hok x');exact ⟨_,_,DN,q4,q5,own' ec,q6,.inl ⟨rfl,x',ec,hI',hx',rfl,q1,q2,q3⟩⟩
  |exit id=>
   obtain ⟨E,hE,hQE,p8⟩:=hq;obtain ⟨DN,ec,q1,q2,q3,q4,q5,q6⟩:=back (some (.exit id)) E p8 (qN x _ E hE);exact ⟨_,_,DN,q4,q5,own' ec,q6,.inr ⟨rfl,.exit id,E,ec,(λh=>by cases h),hQE E hE,Qp9 x _ E hE,rfl,q1,q2,q3⟩⟩
  |ret=>
   obtain ⟨E,hE,hQE,p8⟩:=hq;obtain ⟨DN,ec,q1,q2,q3,q4,q5,q6⟩:=back (some .ret) E p8 (qN x _ E hE);exact ⟨_,_,DN,q4,q5,own' ec,q6,.inr ⟨rfl,.ret,E,ec,(λh=>by cases h),hQE E hE,Qp9 x _ E hE,rfl,q1,q2,q3⟩⟩
theorem P9(N:List (Pl×Nat×TypeId×Nat))(hG:VJ P G)(hX: ∀cx,VV P X cx)(GQ:P.follows .mixedOrders=true){f:Operand}{ps:Array Nat}{assign body:Code}
  (hL: ∀j cj,VQ body j=some cj-> ∀sp,L[j]? =some sp->G0 P cj sp)
  {V:Type}(inv:V->St)(I:V->Prop)(idx:V->Nat)(out:V->G6->Option St){t:CT}{x0:V}(h0:I x0)(hi0:idx x0=0)
  (hok: ∀x,okB (inv x)=true)(qN: ∀x y E,out x y=some E->okB E=true)(hgh: ∀x,(inv x).gh=none)(Qp9: ∀x y E,out x y=some E->E.gh=none)
  {g:FuncId}{caps:List AV}(hfv:rho (inv x0).σ f= .fn (.func g) [] caps)(yR:caps.all (rP 6)=true){M:Nat}{vals:Nat->List Value}(Qp4:BD P g caps M vals)(hps: ∀k,(vals k).length=ps.size)
  (round: ∀(Q:G6×St->Prop),t.sat Q-> ∀x,I x->(idx x<M-> ∃x',idx x'=idx x+1/\(AW P G X L N ps.toList (vals (idx x)) assign body (inv x) (inv x') (out x)).sat (λy=>match y with
   | .normal=>I x'
   |y=> ∀E,out x y=some E->Q (y,E)))/\(idx x=M->Q (.normal,inv x))):HP P (.rangeFunc f ps assign body) (GI N (HB (inv x0) t)):=by
 refine yL N hG hX GQ hL inv I idx out h0 hi0 hok qN hgh Qp9 (caps:=caps) hfv ?_ Qp4 hps round;intro e w lb _ rl;refine ⟨rl,λx hx=>?_⟩;obtain ⟨i,O⟩:=wL.1 hx;obtain ⟨v,_,rv⟩:=rl.get O;exact jU 6 x v rv (PN.1 yR x hx)
def rN(m:GY):Nat->AV->AV
 | 0,a=>match a with
  | .lit b=> .lit b
  | .x v=> .x v
  | .ro l=> .ro l
  | .lst a b c=> .lst a b c
  | .roI a b c d=> .roI a b c d
  |_=> .top
 |d+1,a=>match a with
  | .ptr id off=>match DH m id with
   |some (.keep _ l)=> .ro ((l.drop off).map (rN m d))
   |_=> .top
  | .agg l=> .agg (l.map (rN m d))
  | .tup l=> .tup (l.map (rN m d))
  | .fn f l l'=> .fn f (l.map (rN m d)) (l'.map (rN m d))
  | .row _=> .top
  | .elt _ _ _ _=> .top
  | .mp _=> .top
  |a=>a
theorem EN{e:UL}{w:World}{m:GY}(hm:UU e m w): ∀(d:Nat) (a:AV) (v:Value),Rep e w a v->Idf (rN m d a)
 | 0,a,v,h=>by
  cases h with
  |lit b=>exact .lit b
  |x v=>exact .x v
  |ro l vs b o h1 h2 h3 h4 h5 h6=>exact .ro l h3
  |lstNil sz f=>exact .lst sz 0 f (λi O=>VI)
  |lst sz n f b o cap g h1 h2 h3 h4 h5 h6 h7 h8 ad had=>exact .lst sz n f h3
  |roI pre n f off b o Z=>cases Z with|ro _ vs _ _ h1 h2 h3 h4 h5 h6=>exact .roI pre n f off (.ro _ h3)
  |_=>exact .top
 |d+1,a,v,h=>by
  have ih:=EN hm d;cases h with
  |top v=>exact .top
  |lit b=>exact .lit b
  |x v=>exact .x v
  |agg l vs h1 h2=>exact .agg _ (DR ih (⟨h1,h2⟩:U2 e w l vs))
  |tup l vs h1 h2=>exact .tup _ (DR ih (⟨h1,h2⟩:U2 e w l vs))
  |fn f l l' vs vs' h1 h2 h3 h4=>exact .fn f _ _ (DR ih (⟨h1,h2⟩:U2 e w l vs)) (DR ih (⟨h3,h4⟩:U2 e w l' vs'))
  |ptr id off hl=>
   simp only [rN];split;rename_i T l hg;obtain ⟨_,_,_,vs,h3,h4⟩:=hm _ (UZ hg);exact .ro _ (DR ih (h4.drop off));exact .top
  |row id a n c hl hv=>exact .top
  |elt id sz i j b n cap hl hv=>exact .top
  |mp id hl=>exact .top
  |mpr g okf vals b es c h1 h2 h3 h4 h5 h6 h7 h8=>exact .mpr g okf h3
  |any1 v hv=>exact .any1
  |roI pre n f off b o Z=>cases Z with|ro _ vs _ _ h1 h2 h3 h4 h5 h6=>exact .roI pre n f off (.ro _ h3)
  |ro l vs b o h1 h2 h3 h4 h5 h6=>exact .ro l h3
  |lstNil sz f=>exact .lst sz 0 f (λi O=>VI)
  |lst sz n f b o cap g h1 h2 h3 h4 h5 h6 h7 h8 ad had=>exact .lst sz n f h3
theorem eT{e:UL}{w:World}{m:GY}(hm:UU e m w): ∀(d:Nat) (a:AV) (v:Value),Rep e w a v->Rep e w (rN m d a) v
 | 0,a,v,h=>by
  cases a<;>first|exact h|exact .top v
 |d+1,a,v,h=>by
  have ih:=eT hm d;have ihf:=EN hm d;cases h with
  |agg l vs h1 h2=>exact Rep.aggL (U2.map _ ih ⟨h1,h2⟩)
  |tup l vs h1 h2=>exact Rep.tupL (U2.map _ ih ⟨h1,h2⟩)
  |fn f l l' vs vs' h1 h2 h3 h4=>
   have k1:U2 e w l vs:=⟨h1,h2⟩;have k2:U2 e w l' vs':=⟨h3,h4⟩;exact .fn f _ _ vs vs' (U2.map _ ih k1).1 (U2.map _ ih k1).2 (U2.map _ ih k2).1 (U2.map _ ih k2).2
  |ptr id off hl=>
   simp only [rN];split;rename_i T l hg;obtain ⟨_,hro,hlt,vs,h3,h4⟩:=hm _ (UZ hg);have k:=U2.map (rN m d) ih (h4.drop off);refine .ro _ (vs.drop off) (e.blk id) off hro hlt (DR ihf (h4.drop off)) k.1 ?_ k.2;intro j v hj;rw [List.getElem?_drop] at hj;simp [World.cell?,h3,hj];exact .top _
  |row id a n c hl hv=>exact .top _
  |elt id sz i j b n cap hl hv=>exact .top _
  |mp id hl=>exact .top _
  |mpr g okf vals b es c h1 h2 h3 h4 h5 h6 h7 h8=>exact .mpr g okf vals b es c h1 h2 h3 h4 h5 h6 h7 h8
  |any1 v hv=>exact .any1 v hv
  |top v=>exact .top v
  |lit b=>exact .lit b
  |x v=>exact .x v
  |roI pre n f off b o Z=>exact .roI pre n f off b o Z
  |ro l vs b o h1 h2 h3 h4 h5 h6=>exact .ro l vs b o h1 h2 h3 h4 h5 h6
  |lstNil sz f=>exact .lstNil sz f
  |lst sz n f b o cap g h1 h2 h3 h4 h5 h6 h7 h8 ad had=>exact .lst sz n f b o cap g h1 h2 h3 h4 h5 h6 h7 h8 ad had
theorem yK(N:List (Pl×Nat×TypeId×Nat))(hG:VJ P G)(hX: ∀cx,VV P X cx)(GQ:P.follows .mixedOrders=true){f:Operand}{ps:Array Nat}{assign body:Code}
  (hL: ∀j cj,VQ body j=some cj-> ∀sp,L[j]? =some sp->G0 P cj sp)
  {V:Type}(inv:V->St)(I:V->Prop)(idx:V->Nat)(out:V->G6->Option St){t:CT}{x0:V}(h0:I x0)(hi0:idx x0=0)
  (hok: ∀x,okB (inv x)=true)(qN: ∀x y E,out x y=some E->okB E=true)(hgh: ∀x,(inv x).gh=none)(Qp9: ∀x y E,out x y=some E->E.gh=none)
  {g:FuncId}{caps:List AV}{caps0:List AV}(hfv:rho (inv x0).σ f= .fn (.func g) [] caps0)(yR:caps0.map (rN (inv x0).m 6)=caps){M:Nat}{vals:Nat->List Value}(Qp4:BD P g caps M vals)(hps: ∀k,(vals k).length=ps.size)
  (round: ∀(Q:G6×St->Prop),t.sat Q-> ∀x,I x->(idx x<M-> ∃x',idx x'=idx x+1/\(AW P G X L N ps.toList (vals (idx x)) assign body (inv x) (inv x') (out x)).sat (λy=>match y with
   | .normal=>I x'
   |y=> ∀E,out x y=some E->Q (y,E)))/\(idx x=M->Q (.normal,inv x))):HP P (.rangeFunc f ps assign body) (GI N (HB (inv x0) t)):=by
 subst yR;refine yL N hG hX GQ hL inv I idx out h0 hi0 hok qN hgh Qp9 (caps:=caps0.map (rN (inv x0).m 6)) hfv ?_ Qp4 hps round;intro e w lb hm rl;exact ⟨U2.map _ (eT hm 6) rl,DR (EN hm 6) rl⟩
end
def PH(P:Program)(f:FuncId)(s:Spec):Prop:=Enters P f/\ ∀avs ns res,s avs=some (ns,res)->(∀p∈ns,p)->FP P f avs res
def VP(P:Program)(R:List (Nat×Spec)):Prop:= ∀p∈R,PH P p.1 p.2
def VM(P:Program)(H:List (Nat×HY)):Prop:= ∀p∈H,GA P p.1 p.2
theorem VP.nil(P:Program):VP P []:=λ_ h=>by cases h
theorem VP.cons{P:Program}{f:Nat}{s:Spec}{R:List (Nat×Spec)}(h:PH P f s)(k:VP P R):VP P ((f,s)::R):=by
 intro p A;rcases GM.1 A with rfl|A;exact h;exact k p A
theorem VM.nil(P:Program):VM P []:=λ_ h=>by cases h
theorem VM.cons{P:Program}{f:Nat}{s:HY}{R:List (Nat×HY)}(h:GA P f s)(k:VM P R):VM P ((f,s)::R):=by
 intro p A;rcases GM.1 A with rfl|A;exact h;exact k p A
theorem VV.of{P:Program}{R:List (Nat×Spec)}{H:List (Nat×HY)}(hR:VP P R)(hH:VM P H)(cx:Cx):VV P {R:=R,H:=H} cx:=⟨(λ_ _ _ h=>by cases h),hR,hH,(λ_ h=>by cases h),(λ_ h=>by cases h),(λ_ h=>by cases h)⟩
def UA(P:Program)(C:List (Nat×D9)):Prop:= ∀p∈C,Enters P p.1/\ ∀avs t,p.2 avs=some t->UK P p.1 avs t
theorem UA.nil(P:Program):UA P []:=λ_ h=>by cases h
theorem UA.cons{P:Program}{f:Nat}{s:D9}{C:List (Nat×D9)}(h:Enters P f/\ ∀avs t,s avs=some t->UK P f avs t)(k:UA P C):UA P ((f,s)::C):=by
 intro p A;rcases GM.1 A with rfl|A;exact h;exact k p A
theorem VV.ofC{P:Program}{R:List (Nat×Spec)}{H:List (Nat×HY)}{C:List (Nat×D9)}(hR:VP P R)(hH:VM P H)(hC:UA P C)(cx:Cx):VV P {R:=R,H:=H,C:=C} cx:=⟨(λ_ _ _ h=>by cases h),hR,hH,hC,(λ_ h=>by cases h),(λ_ h=>by cases h)⟩
def FV(P:Program)(F:List (Nat×BG)):Prop:= ∀p∈F,Enters P p.1/\ ∀avs ns T sz n g,p.2 avs=some (ns,T,sz,n,g)->(∀q∈ns,q)->D6 P p.1 avs T sz n g
theorem FV.nil(P:Program):FV P []:=λ_ h=>by cases h
theorem FV.cons{P:Program}{f:Nat}{s:BG}{F:List (Nat×BG)}(h:Enters P f/\ ∀avs ns T sz n g,s avs=some (ns,T,sz,n,g)->(∀q∈ns,q)->D6 P f avs T sz n g)(k:FV P F):FV P ((f,s)::F):=by
 intro p A;rcases GM.1 A with rfl|A;exact h;exact k p A
def PI(P:Program)(D:List (Nat×D9)):Prop:= ∀p∈D,Enters P p.1/\ ∀avs t,p.2 avs=some t->PJ P p.1 avs t
theorem PI.nil(P:Program):PI P []:=λ_ h=>by cases h
theorem PI.cons{P:Program}{f:Nat}{s:D9}{D:List (Nat×D9)}(h:Enters P f/\ ∀avs t,s avs=some t->PJ P f avs t)(k:PI P D):PI P ((f,s)::D):=by
 intro p A;rcases GM.1 A with rfl|A;exact h;exact k p A
theorem VV.ofF{P:Program}{R:List (Nat×Spec)}{H:List (Nat×HY)}{C:List (Nat×D9)}{F:List (Nat×BG)}{D:List (Nat×D9)}(hR:VP P R)(hH:VM P H)(hC:UA P C)(hF:FV P F)(hD:PI P D)(cx:Cx):VV P {R:=R,H:=H,C:=C,F:=F,D:=D} cx:=⟨(λ_ _ _ h=>by cases h),hR,hH,hC,hF,hD⟩
open Go Go.RowKit Go.ChangeShapes Go.WideShapes
inductive SK where
 |int (k:IntKind)
 |bool
 |str
def oQ:SK->Value->Prop
 | .int k,v=> ∃n,v= .int k n/\(Lit.int k n).wf=true
 | .bool,v=> ∃b,v= .bool b
 | .str,v=> ∃s,v= .string s
def LL(ks:List SK)(vs:List Value):Prop:=ks.length=vs.length/\ ∀(j:Nat) (k:SK) (v:Value),ks[j]? =some k->vs[j]? =some v->oQ k v
def IE(P:Program)(g:TypeId->Option (List SK)):List Field->Nat->Option (List SK)
 |[],_=>some []
 |f::fs,off=>match g f.type with
  |some ks=>match Nat.beq f.offset off&&Nat.beq ks.length (P.cellsOf f.type) with
   |true=>match IE P g fs (off+ks.length) with
    |some r=>some (ks++r)
    |none=>none
   |false=>none
  |none=>none
def R0(P:Program):Nat->TypeId->Option (List SK)
 | 0,_=>none
 |d+1,t=>match P.underlying t with
  |some (.int k)=>some [.int k]
  |some .bool=>some [.bool]
  |some .string=>some [.str]
  |some (.struct fs)=>match IE P (R0 P d) fs.toList 0 with
   |some ks=>match Nat.beq ks.length (P.cellsOf t) with
    |true=>some ks
    |false=>none
   |none=>none
  |_=>none
inductive MK where
 |sc (k:SK)
 |sl (t e:TypeId) (ks:List SK)
def ID(P:Program)(g:TypeId->Option (List MK)):List Field->Nat->Option (List MK)
 |[],_=>some []
 |f::fs,off=>match g f.type with
  |some ks=>match Nat.beq f.offset off&&Nat.beq ks.length (P.cellsOf f.type) with
   |true=>match ID P g fs (off+ks.length) with
    |some r=>some (ks++r)
    |none=>none
   |false=>none
  |none=>none
def k6(P:Program):Nat->TypeId->Option (List MK)
 | 0,_=>none
 |d+1,t=>match P.underlying t with
  |some (.int k)=>some [.sc (.int k)]
  |some .bool=>some [.sc .bool]
  |some .string=>some [.sc .str]
  |some (.slice e)=>match R0 P 9 e with
   |some ks=>match Nat.beq ks.length (P.cellsOf e) with
    |true=>some [.sl t e ks]
    |false=>none
   |none=>none
  |some (.struct fs)=>match ID P (k6 P d) fs.toList 0 with
   |some ks=>match Nat.beq ks.length (P.cellsOf t) with
    |true=>some ks
    |false=>none
   |none=>none
  |_=>none
def gX:List TypeId->List MK->Bool
 |[],[]=>true
 |u::ts,.sl t _ _::ms=>Nat.beq u t&&gX ts ms
 |_::ts,.sc _::ms=>gX ts ms
 |_,_=>false
def Jc0(P:Program)(t:TypeId)(ms:List MK):Bool:=match P.cellTypes P.depth t with
 |some ts=>gX ts ms&&Nat.beq ms.length (P.cellsOf t)
 |none=>false
theorem AJ: ∀{ts:List TypeId} {ms:List MK},gX ts ms=true->ts.length=ms.length
 |[],[],_=>rfl
 |[],_::_,h=>by simp [gX] at h
 |u::ts,[],h=>by simp [gX] at h
 |u::ts,.sl t _ _::ms,h=>by
  simp only [gX,GT] at h;rw [Bj,Bj,AJ h.2]
 |u::ts,.sc _::ms,h=>by
  simp only [gX] at h;rw [Bj,Bj,AJ h]
theorem AK: ∀{ts:List TypeId} {ms:List MK} {j:Nat} {t e:TypeId} {ks:List SK},gX ts ms=true->ms[j]? =some (.sl t e ks)->ts[j]? =some t
 |[],[],j,t,e,ks,_,hj=>by simp at hj
 |[],_::_,_,_,_,_,h,_=>by simp [gX] at h
 |u::ts,[],_,_,_,_,h,_=>by simp [gX] at h
 |u::ts,.sl t' _ _::ms,j,t,e,ks,h,hj=>by
  simp only [gX,GT] at h;cases j with
  |zero=>
   simp at hj;obtain ⟨rfl,_,_⟩:=hj;have:=GX h.1;simp [this]
  |succ j=>simpa using AK h.2 (by simpa using hj)
 |u::ts,.sc _::ms,j,t,e,ks,h,hj=>by
  simp only [gX] at h;cases j with
  |zero=>simp at hj
  |succ j=>simpa using AK h (by simpa using hj)
def N4(r:MK->Value->Prop)(ks:List MK)(vs:List Value):Prop:=ks.length=vs.length/\ ∀(j:Nat) (k:MK) (v:Value),ks[j]? =some k->vs[j]? =some v->r k v
theorem N4.append{r:MK->Value->Prop}{ks ks':List MK}{vs vs':List Value}(h:N4 r ks vs)(h':N4 r ks' vs'):N4 r (ks++ks') (vs++vs'):=by
 refine ⟨by simp [h.1,h'.1],λj k v hk hv=>?_⟩
 rw [Ce] at hk hv;rw [←h.1] at hv;split at hk;rename_i O;rw [if_pos O] at hv;exact h.2 _ _ _ hk hv;rename_i O;rw [if_neg O] at hv;exact h'.2 _ _ _ hk hv
theorem N4.one{r:MK->Value->Prop}{k:MK}{v:Value}(h:r k v):N4 r [k] [v]:=by
 refine ⟨rfl,λj k' v' hk hv=>?_⟩;cases j with
 |zero=>simp at hk hv;subst hk;subst hv;exact h
 |succ j=>simp at hk
section
variable {H:Type}{enc:TypeId×Value->H}{P:Program}{w:World}{base:Nat}{spare:Nat->Bool}{qO:Bool}
theorem LL.append{ks ks':List SK}{vs vs':List Value}(h:LL ks vs)(h':LL ks' vs'):LL (ks++ks') (vs++vs'):=by
 refine ⟨by simp [h.1,h'.1],λj k v hk hv=>?_⟩
 rw [Ce] at hk hv;rw [←h.1] at hv;split at hk;rename_i O;rw [if_pos O] at hv;exact h.2 _ _ _ hk hv;rename_i O;rw [if_neg O] at hv;exact h'.2 _ _ _ hk hv
theorem OK{g:TypeId->Option (List SK)}{cs:List Value}(hg: ∀t ks (off:Nat),g t=some ks->(∃n x,DataW.trod enc P w base spare qO n t ((cs.drop off).take (P.cellsOf t))=some x)->LL ks ((cs.drop off).take (P.cellsOf t))):
  ∀(fs:List Field) (off:Nat) (ks:List SK),IE P g fs off=some ks->off<=cs.length->(∀f∈fs,∃n x,DataW.trod enc P w base spare qO n f.type ((cs.drop f.offset).take (P.cellsOf f.type))=some x)->LL ks ((cs.drop off).take ks.length)
 |[],_,ks,h,_,_=>by
  simp only [IE,HD] at h;subst h;exact ⟨VS,λj k v h=>by simp at h⟩
 |f::fs,off,ks,h,ho,hf=>by
  unfold IE at h;split at h;rename_i ks1 h1;split at h;rename_i hb;simp only [GT] at hb;have e1:f.offset=off:=GX hb.1;have e2:ks1.length=P.cellsOf f.type:=GX hb.2;split at h;rename_i r Z;cases h;have h2:=hf f GB;rw [e1] at h2;have a1:=hg f.type ks1 off h1 h2;have hl:off+ks1.length<=cs.length:=by
   have:=a1.1;rw [List.length_take,List.length_drop,←e2] at this;omega
  have a2:=OK hg fs (off+ks1.length) r Z hl (λf' hf'=>hf f' (HI _ hf'));have:=a1.append a2;rw [←e2] at this;rw [Be,List.take_add,List.drop_drop];exact this;cases h;cases h;cases h
theorem oB{k:SK}{v:Value}(h:oQ k v):LL [k] [v]:=by
 refine ⟨rfl,λj k' v' hk hv=>?_⟩;cases j with
 |zero=>simp at hk hv;subst hk;subst hv;exact h
 |succ j=>simp at hk
theorem wP: ∀(d:Nat) (t:TypeId) (ks:List SK) (fuel:Nat) (cs:List Value) (x:DataW H×List MemPlace),R0 P d t=some ks->DataW.trod enc P w base spare qO fuel t cs=some x->LL ks cs
 | 0,_,_,_,_,_,h,_=>by simp [R0] at h
 |d+1,t,ks,fuel,cs,x,h,hx=>by
  unfold R0 at h;split at h;rename_i k hu;cases h;obtain ⟨n,rfl,_,hw⟩:=DataW.trod_int hu hx;exact oB ⟨n,rfl,hw⟩;rename_i hu;cases h;obtain ⟨b,rfl,_⟩:=DataW.trod_bool hu hx;exact oB ⟨b,rfl⟩;rename_i hu;cases h;obtain ⟨s,rfl,_⟩:=DataW.trod_string hu hx;exact oB ⟨s,rfl⟩;rename_i fs hu;split at h;rename_i ks' hks;split at h;rename_i hb;cases h;have hl:ks.length=P.cellsOf t:=GX hb;obtain ⟨xs,n,_,_,HT,hxl,hf⟩:=DataW.trod_struct hu hx;have:=OK (enc:=enc) (w:=w) (base:=base) (spare:=spare) (qO:=qO) (cs:=cs) (g:=R0 P d) (λt' ks' off hk ⟨n',x',hx'⟩=>wP d t' ks' n' _ x' hk hx') fs.toList 0 ks hks (Ao _) (λf hf'=>by
   obtain ⟨i,O⟩:=wL.1 hf';have hi':fs[i]? =some f:=by simpa using O
   have hlt:i<xs.length:=by rw [hxl];exact (P5.1 hi').1
   exact ⟨n,xs[i],(hf i f hi').trans (HZ hlt)⟩)
  rw [hl,←HT] at this;simpa using this;cases h;cases h;cases h
def MOk(enc:TypeId×Value->H)(P:Program)(w:World)(base:Nat)(spare:Nat->Bool)(qO:Bool):MK->Value->Prop
 | .sc k,v=>oQ k v
 | .sl t e ks,v=>P.underlying t=some (.slice e)/\R0 P 9 e=some ks/\ks.length=P.cellsOf e/\ ∃n x,DataW.trod enc P w base spare qO n t [v]=some x/\ ∀q∈x.1.weights P t,q<=reachBytes
theorem u7: ∀{ts:List TypeId} {ds:List (DataW H)} {i:Nat} {t:TypeId} {d:DataW H} {q:Nat},ts[i]? =some t->ds[i]? =some d->q∈d.weights P t->q∈DataW.weightsEach P ts ds
 |[],_,i,_,_,_,h,_,_=>by simp at h
 |_::_,[],i,_,_,_,_,h,_=>by simp at h
 |t::ts,d::ds,i,t',d',q,h,h',hq=>by
  simp only [DataW.weightsEach,Bc];cases i with
  |zero=>simp at h h';subst h;subst h';exact .inl hq
  |succ i=>exact .inr (u7 (by simpa using h) (by simpa using h') hq)
theorem OJ{g:TypeId->Option (List MK)}{r:MK->Value->Prop}{cs:List Value}(hg: ∀t ks (off:Nat),g t=some ks->(∃n x,DataW.trod enc P w base spare qO n t ((cs.drop off).take (P.cellsOf t))=some x/\ ∀q∈x.1.weights P t,q<=reachBytes)->N4 r ks ((cs.drop off).take (P.cellsOf t))):
  ∀(fs:List Field) (off:Nat) (ks:List MK),ID P g fs off=some ks->off<=cs.length->(∀f∈fs,∃n x,DataW.trod enc P w base spare qO n f.type ((cs.drop f.offset).take (P.cellsOf f.type))=some x/\ ∀q∈x.1.weights P f.type,q<=reachBytes)->N4 r ks ((cs.drop off).take ks.length)
 |[],_,ks,h,_,_=>by
  simp only [ID,HD] at h;subst h;exact ⟨VS,λj k v h=>by simp at h⟩
 |f::fs,off,ks,h,ho,hf=>by
  unfold ID at h;split at h;rename_i ks1 h1;split at h;rename_i hb;simp only [GT] at hb;have e1:f.offset=off:=GX hb.1;have e2:ks1.length=P.cellsOf f.type:=GX hb.2;split at h;rename_i r' Z;cases h;have h2:=hf f GB;rw [e1] at h2;have a1:=hg f.type ks1 off h1 h2;have hl:off+ks1.length<=cs.length:=by
   have:=a1.1;rw [List.length_take,List.length_drop,←e2] at this;omega
  have a2:=OJ hg fs (off+ks1.length) r' Z hl (λf' hf'=>hf f' (HI _ hf'));have:=a1.append a2;rw [←e2] at this;rw [Be,List.take_add,List.drop_drop];exact this;cases h;cases h;cases h
theorem yU: ∀(d:Nat) (t:TypeId) (ks:List MK) (fuel:Nat) (cs:List Value) (x:DataW H×List MemPlace),k6 P d t=some ks->DataW.trod enc P w base spare qO fuel t cs=some x->(∀q∈x.1.weights P t,q<=reachBytes)->N4 (MOk enc P w base spare qO) ks cs
 | 0,_,_,_,_,_,h,_,_=>by simp [k6] at h
 |d+1,t,ks,fuel,cs,x,h,hx,hz=>by
  unfold k6 at h;split at h;rename_i k hu;cases h;obtain ⟨n,rfl,_,hw⟩:=DataW.trod_int hu hx;exact .one ⟨n,rfl,hw⟩;rename_i hu;cases h;obtain ⟨b,rfl,_⟩:=DataW.trod_bool hu hx;exact .one ⟨b,rfl⟩;rename_i hu;cases h;obtain ⟨s,rfl,_⟩:=DataW.trod_string hu hx;exact .one ⟨s,rfl⟩;rename_i e hu;split at h;rename_i ks' hk;split at h;rename_i hb;cases h;have h1: ∃v,cs=[v]:=by
   rcases Go.Deep.open_slice hu hx with ⟨h0,_⟩|⟨a,len,cap,m,n,D,Pl,h0,_⟩<;>exact ⟨_,h0⟩
  obtain ⟨v,rfl⟩:=h1;exact .one ⟨hu,hk,GX hb,fuel,x,hx,hz⟩;cases h;cases h;rename_i fs hu;split at h;rename_i ks' hks;split at h;rename_i hb;cases h;have hl:ks.length=P.cellsOf t:=GX hb;obtain ⟨xs,n,_,hxe,HT,hxl,hf⟩:=DataW.trod_struct hu hx;have hzz: ∀q∈DataW.weightsEach P (fs.toList.map (·.type)) (xs.map (·.1)),q<=reachBytes:=by
   intro q hq;refine hz q ?_;rw [hxe];simpa [DataW.weights,hu] using hq
  have:=OJ (enc:=enc) (w:=w) (base:=base) (spare:=spare) (qO:=qO) (cs:=cs) (g:=k6 P d) (r:=MOk enc P w base spare qO) (λt' ks' off hk ⟨n',x',hx',hz'⟩=>yU d t' ks' n' _ x' hk hx' hz') fs.toList 0 ks hks (Ao _) (λf hf'=>by
   obtain ⟨i,O⟩:=wL.1 hf';have hi':fs[i]? =some f:=by simpa using O
   have hlt:i<xs.length:=by rw [hxl];exact (P5.1 hi').1
   exact ⟨n,xs[i],(hf i f hi').trans (HZ hlt),λq hq=>hzz q (u7 (i:=i) (by simp [hi']) (by simp [HZ hlt]) hq)⟩)
  rw [hl,←HT] at this;simpa using this;cases h;cases h;cases h
inductive rE (P:Program):MK->AV->Prop
 |sc (k:SK) (v:Value):oQ k v->rE P (.sc k) (.x v)
 |sl (t e:TypeId) (ks:List SK) (n:Nat) (f:Nat->List Value):n<=maxLen->n*P.bytesOf e<=reachBytes->(∀i,i<n->LL ks (f i))->rE P (.sl t e ks) (.lst ks.length n (λi=>(f i).map .x))
def BL(P:Program)(ms:List MK)(l:List AV):Prop:=ms.length=l.length/\ ∀(j:Nat) (k:MK) (a:AV),ms[j]? =some k->l[j]? =some a->rE P k a
inductive wE (P:Program):TypeId->AV->Prop
 |sc (t:TypeId) (k:SK) (v:Value):(∀fs,P.underlying t≠some (.struct fs))->R0 P 9 t=some [k]->oQ k v->wE P t (.x v)
 |st (t:TypeId) (fs:Array Field) (ks:List SK) (vs:List Value):P.underlying t=some (.struct fs)->R0 P 9 t=some ks->LL ks vs->wE P t (.agg (vs.map .x))
 |sl (t e:TypeId) (ks:List SK) (n:Nat) (f:Nat->List Value):P.underlying t=some (.slice e)->R0 P 9 e=some ks->n<=maxLen->n*P.bytesOf e<=reachBytes->(∀i,i<n->LL ks (f i))->wE P t (.lst ks.length n (λi=>(f i).map .x))
 |mx (t:TypeId) (fs:Array Field) (ms:List MK) (l:List AV):P.underlying t=some (.struct fs)->R0 P 9 t=none->k6 P 9 t=some ms->BL P ms l->wE P t (.agg l)
 |sm (t e:TypeId) (fs:Array Field) (ms:List MK) (n:Nat) (f:Ci):P.underlying t=some (.slice e)->P.underlying e=some (.struct fs)->R0 P 9 e=none->k6 P 9 e=some ms->n<=maxLen->n*P.bytesOf e<=reachBytes->(∀i,i<n->BL P ms (f i))->wE P t (.lst ms.length n f)
def I8:List MK->Bool
 |[]=>true
 | .sc _::ms=>I8 ms
 | .sl _ _ ks::ms=> !ks.isEmpty&&I8 ms
def SY(P:Program)(t:TypeId):Bool:=match P.underlying t with
 |some (.int _)|some .bool|some .string=>(R0 P 9 t).isSome
 |some (.struct _)=>match R0 P 9 t with
  |some _=>true
  |none=>match k6 P 9 t with
   |some ms=>Jc0 P t ms
   |none=>false
 |some (.slice e)=>match R0 P 9 e with
  |some ks=>Nat.beq ks.length (P.cellsOf e)
  |none=>match P.underlying e,k6 P 9 e with
   |some (.struct _),some ms=>Nat.beq ms.length (P.cellsOf e)&&(I8 ms&& !ms.isEmpty)
   |_,_=>false
 |_=>false
def j8(w:World):UL:={ro:=λb=>b<w.heap.size,own:=λ_=>none,live:=λ_=>False,blk:=λ_=>0,val:=λ_=> .nilIface}
theorem bX{r:Reach}{b0:Nat}{t e:TypeId}{v:Value}{fuel:Nat}{x:DataW H×List MemPlace}{ks:List SK}(hu:P.underlying t=some (.slice e))(hk:R0 P 9 e=some ks)(hl:ks.length=P.cellsOf e)(hv:Cell.okWide P w r b0 t v)(hf:DataW.trod enc P w 0 (λ_=>true) qO fuel t v.cells.toList=some x)(hz: ∀q∈x.1.weights P t,q<=reachBytes):
  ∃(n:Nat) (f:Nat->List Value),n<=maxLen/\n*P.bytesOf e<=reachBytes/\(∀i,i<n->LL ks (f i))/\Rep (j8 w) w (.lst ks.length n (λi=>(f i).map .x)) v/\Idf (.lst ks.length n (λi=>(f i).map .x)):=by
 obtain ⟨a0,n0,c0,rfl⟩: ∃a0 n0 c0,v= .slice a0 n0 c0:=by
  have hx:=hv;simp only [Cell.okWide,Cell.ok,hu] at hx;split at hx<;>simp_all
 rcases Go.Deep.open_slice hu hf with ⟨h0,_⟩|⟨a,len,cap,m,n,D,Pl,h0,hb,hlc,hm,hmm,Wo9,O⟩;simp [Value.cells] at h0;obtain ⟨rfl,rfl,rfl⟩:=h0;exact ⟨0,λ_=>[],Ao _,VS,(λi O=>VI),.lstNil _ _,.lst _ _ _ (λi O=>VI)⟩;simp [Value.cells] at h0;obtain ⟨rfl,rfl,rfl⟩:=h0;simp only [if_true] at hmm;subst hmm;have hok:w.has P r b0 a e m:=by
  simp only [Value.okWide,hu,Cell.okWide,Cell.ok] at hv;exact hv.2.2
 obtain ⟨_,hsp,row,cells,hsh,_⟩:=hok;obtain ⟨ab,ao,ak⟩:=a;simp only at hsp;subst hsp;have MV:ab<w.heap.size:=by
  unfold World.shape? at hsh;cases hh:w.heap[ab]? with
  |none=>simp only [hh] at hsh;cases hsh
  |some o=>exact (P5.1 hh).1
 let F:Nat->List Value:=λi=>(w.cells? 0 ((⟨ab,ao,none⟩:Addr).add (i*P.cellsOf e)) (P.cellsOf e)).getD []
 have hF: ∀i,i<m->LL ks (F i)/\ ∀j,j<ks.length->w.cell? ⟨ab,ao+(i*ks.length+j),none⟩=(F i)[j]? :=by
  intro i hi';obtain ⟨cs',hcs,htr⟩:=O i hi';have e1:F i=cs':=by simp only [F,hcs,GR]
  rw [e1];refine ⟨wP 9 e ks n cs' _ hk htr,λj hj=>?_⟩;obtain ⟨_,_,h3⟩:=World.cells?_some hcs;have:=h3 j VI;rw [DA,DA] at this;rw [hl,←this,Ba]
 have iC:n0*P.bytesOf e<=reachBytes:=by
  have hd:x.1= .slice ((List.range n0).map D) ((List.range (m-n0)).map λj=>D (n0+j)):=by
   have:=congrArg Prod.fst Wo9;exact this
  have h1:=hz ((((List.range n0).map D).length+((List.range (m-n0)).map λj=>D (n0+j)).length)*P.bytesOf e) (by rw [hd];simp [DataW.weights,hu])
  rw [Bm,List.length_range] at h1;exact Ar (BJ _ (Nat.le_add_right _ _)) h1
 refine ⟨n0,F,VI,iC,(λi hi'=>(hF i VI).1),?_,.lst _ _ _ (λi hi' a ha=>?_)⟩;refine .lst _ _ _ ab ao m (λi j=>(F i).getD j .nilIface) (λ_=>MV) (λ_=>MV) (λi hi' a ha=>?_) hlc hm (λi j hi' hj=>?_) (λi hi'=>?_) (λi j a hi' ha=>?_) _ (λ_=>rfl);obtain ⟨b,_,rfl⟩:=List.mem_map.1 ha;exact .x b;rw [(hF i VI).2 j hj];have hjl:j<(F i).length:=by rw [←(hF i VI).1.1];exact hj
 simp [List.getD,HZ hjl];simp [(hF i VI).1.1];rw [Bn,Ay] at ha;obtain ⟨b,hb',rfl⟩:=ha;simp only [List.getD,hb',GR];exact .x b;obtain ⟨b,_,rfl⟩:=List.mem_map.1 ha;exact .x b
theorem dN: ∀{ms:List MK} {j:Nat} {t e:TypeId} {ks:List SK},I8 ms=true->ms[j]? =some (.sl t e ks)->0<ks.length
 |[],j,t,e,ks,_,hj=>by simp at hj
 | .sc _::ms,j,t,e,ks,h,hj=>by
  cases j with
  |zero=>simp at hj
  |succ j=>exact dN (ms:=ms) h (by simpa using hj)
 | .sl _ _ ks'::ms,j,t,e,ks,h,hj=>by
  simp only [I8,GT] at h;cases j with
  |zero=>
   simp at hj;obtain ⟨_,_,rfl⟩:=hj;cases ks' with
   |nil=>simp at h
   |cons a b=>simp
  |succ j=>exact dN (ms:=ms) h.2 (by simpa using hj)
theorem bY{e:TypeId}{a:Addr}{cap:Nat}{D:Nat->DataW H}{Pl:Nat->List MemPlace}{n:Nat}(hc:0<P.cellsOf e)(O: ∀i,i<cap-> ∃cs',w.cells? 0 (a.add (i*P.cellsOf e)) (P.cellsOf e)=some cs'/\DataW.trod enc P w 0 (λ_=>true) qO n e cs'=some (D i,Pl i))(h:0<cap):a=⟨a.block,a.off,none⟩/\a.block<w.heap.size:=by
 obtain ⟨cs',h1,_⟩:=O 0 h;obtain ⟨_,h2,h3⟩:=World.cells?_some h1;have h4:=h3 0 hc;rw [Nat.zero_mul] at h4;have e0:(a.add 0).add 0=a:=by simp [Addr.add]
 rw [e0,HZ VI] at h4;obtain ⟨ab,ao,ak⟩:=a;unfold World.cell? at h4;split at h4;rename_i c x y hb;have hlt:=(P5.1 hb).1;cases ak with
 |none=>exact ⟨rfl,hlt⟩
 |some s=>simp at h4
 cases h4
theorem Wa8{t e:TypeId}{v:Value}{fuel:Nat}{x:DataW H×List MemPlace}{ks:List SK}(hu:P.underlying t=some (.slice e))(hk:R0 P 9 e=some ks)(hl:ks.length=P.cellsOf e)(Wo1:0<ks.length)(hf:DataW.trod enc P w 0 (λ_=>true) qO fuel t [v]=some x)(hz: ∀q∈x.1.weights P t,q<=reachBytes):
  ∃(n:Nat) (f:Nat->List Value),n<=maxLen/\n*P.bytesOf e<=reachBytes/\(∀i,i<n->LL ks (f i))/\Rep (j8 w) w (.lst ks.length n (λi=>(f i).map .x)) v/\Idf (.lst ks.length n (λi=>(f i).map .x)):=by
 rcases Go.Deep.open_slice hu hf with ⟨h0,_⟩|⟨a,n0,cap,m,n,D,Pl,h0,hb,hlc,hm,hmm,Wo9,O⟩;simp at h0;subst h0;exact ⟨0,λ_=>[],Ao _,VS,(λi O=>VI),.lstNil _ _,.lst _ _ _ (λi O=>VI)⟩;simp at h0;subst h0;simp only [if_true] at hmm;subst hmm;have hat:0<m->a=⟨a.block,a.off,none⟩/\a.block<w.heap.size:=bY VI O
 let F:Nat->List Value:=λi=>(w.cells? 0 (a.add (i*P.cellsOf e)) (P.cellsOf e)).getD []
 have hF: ∀i,i<m->LL ks (F i)/\ ∀j,j<ks.length->w.cell? ⟨a.block,a.off+(i*ks.length+j),none⟩=(F i)[j]? :=by
  intro i hi';obtain ⟨cs',hcs,htr⟩:=O i hi';have e1:F i=cs':=by simp only [F,hcs,GR]
  rw [e1];refine ⟨wP 9 e ks n cs' _ hk htr,λj hj=>?_⟩;obtain ⟨_,_,h3⟩:=World.cells?_some hcs;have:=h3 j VI;rw [(hat VI).1,DA,DA] at this;rw [hl,←this,Ba]
 have iC:n0*P.bytesOf e<=reachBytes:=by
  have hd:x.1= .slice ((List.range n0).map D) ((List.range (m-n0)).map λj=>D (n0+j)):=by
   have:=congrArg Prod.fst Wo9;exact this
  have h1:=hz ((((List.range n0).map D).length+((List.range (m-n0)).map λj=>D (n0+j)).length)*P.bytesOf e) (by rw [hd];simp [DataW.weights,hu])
  rw [Bm,List.length_range] at h1;exact Ar (BJ _ (Nat.le_add_right _ _)) h1
 refine ⟨n0,F,VI,iC,(λi hi'=>(hF i VI).1),?_,.lst _ _ _ (λi hi' a ha=>?_)⟩;refine .lst _ _ _ a.block a.off m (λi j=>(F i).getD j .nilIface) (λh=>(hat VI).2) (λh=>(hat VI).2) (λi hi' a ha=>?_) hlc hm (λi j hi' hj=>?_) (λi hi'=>?_) (λi j a hi' ha=>?_) a (λh=>(hat VI).1);obtain ⟨b,_,rfl⟩:=List.mem_map.1 ha;exact .x b;rw [(hF i VI).2 j hj];have hjl:j<(F i).length:=by rw [←(hF i VI).1.1];exact hj
 simp [List.getD,HZ hjl];simp [(hF i VI).1.1];rw [Bn,Ay] at ha;obtain ⟨b,hb',rfl⟩:=ha;simp only [List.getD,hb',GR];exact .x b;obtain ⟨b,_,rfl⟩:=List.mem_map.1 ha;exact .x b
theorem Wu6{ms:List MK}{vs:List Value}(PB:I8 ms=true)(h:N4 (MOk enc P w 0 (λ_=>true) qO) ms vs): ∃l,BL P ms l/\U2 (j8 w) w l vs/\ ∀a∈l,Idf a:=by
 have key: ∀(j:Nat) (k:MK) (v:Value),ms[j]? =some k->vs[j]? =some v-> ∃a,rE P k a/\Rep (j8 w) w a v/\Idf a:=by
  intro j k v hj hvj;have h2:=h.2 j k v hj hvj;cases k with
  |sc k=>exact ⟨.x v,.sc k v h2,.x v,.x v⟩
  |sl t' e ks=>
   obtain ⟨hu',hk',hl',n',x',hx',hz'⟩:=h2;obtain ⟨n,f,g1,g2,g3,g4,g5⟩:=Wa8 hu' hk' hl' (dN PB hj) hx' hz';exact ⟨_,.sl t' e ks n f g1 g2 g3,g4,g5⟩
 have all: ∀(ms:List MK) (vs:List Value),ms.length=vs.length->(∀(j:Nat) (k:MK) (v:Value),ms[j]? =some k->vs[j]? =some v-> ∃a,rE P k a/\Rep (j8 w) w a v/\Idf a)-> ∃l,BL P ms l/\U2 (j8 w) w l vs/\ ∀a∈l,Idf a:=by
  intro ms
  induction ms with
  |nil=>
   intro vs hl _;cases vs with
   |nil=>exact ⟨[],⟨rfl,λj k a h=>by simp at h⟩,U2.nil _ _,λa ha=>by cases ha⟩
   |cons v vs=>simp at hl
  |cons k ms ih=>
   intro vs hl h;cases vs with
   |nil=>simp at hl
   |cons v vs=>
    obtain ⟨a,a1,a2,a3⟩:=h 0 k v rfl rfl;obtain ⟨l,l1,l2,l3⟩:=ih vs (by simpa using hl) (λj k v hk hv=>h (j+1) k v (by simpa using hk) (by simpa using hv))
    refine ⟨a::l,⟨by simp [l1.1],λj k' a' hk ha=>?_⟩,U2.cons a2 l2,λb hb=>?_⟩
    cases j with
    |zero=>simp at hk ha;subst hk;subst ha;exact a1
    |succ j=>exact l1.2 j k' a' (by simpa using hk) (by simpa using ha)
    rcases GM.1 hb with rfl|hb;exact a3;exact l3 b hb
 exact all ms vs h.1 key
theorem fG{e:TypeId}{d:DataW H}{q:Nat}: ∀{ds:List (DataW H)},d∈ds->q∈d.weights P e->q∈DataW.weightsAll P e ds
 |[],h,_=>by cases h
 |d'::ds,h,hq=>by
  simp only [DataW.weightsAll,Bc];rcases GM.1 h with rfl|h;exact .inl hq;exact .inr (fG h hq)
theorem Wa7{t e:TypeId}{v:Value}{fuel:Nat}{x:DataW H×List MemPlace}{ms:List MK}(hu:P.underlying t=some (.slice e))(hk:k6 P 9 e=some ms)(hl:ms.length=P.cellsOf e)(Wo1:0<ms.length)(PB:I8 ms=true)(hf:DataW.trod enc P w 0 (λ_=>true) qO fuel t [v]=some x)(hz: ∀q∈x.1.weights P t,q<=reachBytes):
  ∃(n:Nat) (f:Ci),n<=maxLen/\n*P.bytesOf e<=reachBytes/\(∀i,i<n->BL P ms (f i))/\Rep (j8 w) w (.lst ms.length n f) v/\Idf (.lst ms.length n f):=by
 rcases Go.Deep.open_slice hu hf with ⟨h0,_⟩|⟨a,n0,cap,m,n,D,Pl,h0,hb,hlc,hm,hmm,Wo9,O⟩;simp at h0;subst h0;exact ⟨0,λ_=>[],Ao _,VS,(λi O=>VI),.lstNil _ _,.lst _ _ _ (λi O=>VI)⟩;simp at h0;subst h0;simp only [if_true] at hmm;subst hmm;have hat:0<m->a=⟨a.block,a.off,none⟩/\a.block<w.heap.size:=bY VI O;have hd:x.1= .slice ((List.range n0).map D) ((List.range (m-n0)).map λj=>D (n0+j)):=by
  have:=congrArg Prod.fst Wo9;exact this
 have iC:n0*P.bytesOf e<=reachBytes:=by
  have h1:=hz ((((List.range n0).map D).length+((List.range (m-n0)).map λj=>D (n0+j)).length)*P.bytesOf e) (by rw [hd];simp [DataW.weights,hu])
  rw [Bm,List.length_range] at h1;exact Ar (BJ _ (Nat.le_add_right _ _)) h1
 let F:Nat->List Value:=λi=>(w.cells? 0 (a.add (i*P.cellsOf e)) (P.cellsOf e)).getD []
 have hF: ∀i,i<n0-> ∃l,(BL P ms l/\U2 (j8 w) w l (F i)/\ ∀a∈l,Idf a)/\(F i).length=ms.length/\ ∀j,j<ms.length->w.cell? ⟨a.block,a.off+(i*ms.length+j),none⟩=(F i)[j]? :=by
  intro i hi';obtain ⟨cs',hcs,htr⟩:=O i VI;have e1:F i=cs':=by simp only [F,hcs,GR]
  rw [e1];have hzi: ∀q∈(D i).weights P e,q<=reachBytes:=λq hq=>hz q (by
   rw [hd];simp only [DataW.weights,hu,GM,Bc];exact .inr (.inl (fG (List.mem_map.2 ⟨i,List.mem_range.2 hi',rfl⟩) hq)))
  have h1:=yU 9 e ms n cs' _ hk htr hzi;obtain ⟨l,h2⟩:=Wu6 PB h1;refine ⟨l,h2,h1.1.symm,λj hj=>?_⟩;obtain ⟨_,_,h3⟩:=World.cells?_some hcs;have:=h3 j VI;rw [(hat VI).1,DA,DA] at this;rw [hl,←this,Ba]
 obtain ⟨f,hf'⟩:=Go.Deep.choose_lt hF;refine ⟨n0,f,VI,iC,(λi hi'=>(hf' i hi').1.1),?_,.lst _ _ _ (λi hi'=>(hf' i hi').1.2.2)⟩;refine .lst _ _ _ a.block a.off m (λi j=>(F i).getD j .nilIface) (λh=>(hat VI).2) (λh=>(hat VI).2) (λi hi'=>(hf' i hi').1.2.2) hlc hm (λi j hi' hj=>?_) (λi hi'=>?_) (λi j b hi' ha=>?_) a (λh=>(hat VI).1);have h1:=hf' i hi';rw [h1.2.2 j hj];have hjl:j<(F i).length:=by rw [h1.2.1];exact hj
 simp [List.getD,HZ hjl];exact (hf' i hi').1.1.1.symm;have h1:=(hf' i hi').1.2.1;have hj:j<(F i).length:=by rw [←h1.1];exact (FT.1 ha).1
 have h2:=h1.2 j b (F i)[j] ha (HZ hj);simpa only [List.getD,HZ hj,GR] using h2
theorem Zs5{r:Reach}{b0:Nat}{t:TypeId}{v:Value}{d:DataW H}{p:List MemPlace}(A:SY P t=true)(hv:Value.okWide P w r b0 t v)(h:DataW.Trod enc P w 0 (λ_=>true) qO t v d p)(hz: ∀q∈d.weights P t,q<=reachBytes):
  ∃av,wE P t av/\Rep (j8 w) w av v/\Idf av:=by
 unfold SY at A;obtain ⟨fuel,hf⟩:=h;have scal: ∀k,(∀fs,P.underlying t≠some (.struct fs))->R0 P 9 t=some [k]->(∀cs,v≠ .agg cs)-> ∃av,wE P t av/\Rep (j8 w) w av v/\Idf av:=by
  intro k hns hk hna;have h1:=wP 9 t [k] fuel _ _ hk hf;have hc:v.cells.toList=[v]:=by cases v<;>first|rfl|exact absurd rfl (hna _)
  rw [hc] at h1;exact ⟨.x v,.sc t k v hns hk (h1.2 0 k v rfl rfl),.x v,.x v⟩
 split at A;rename_i k hu;obtain ⟨n,rfl⟩:=okWide_int hu hv;exact scal (.int k) (λfs h=>by rw [hu] at h;cases h) (by simp [R0,hu]) (λcs h=>by cases h)
 rename_i hu;obtain ⟨b,rfl⟩:=okWide_bool hu hv;exact scal .bool (λfs h=>by rw [hu] at h;cases h) (by simp [R0,hu]) (λcs h=>by cases h)
 rename_i hu;obtain ⟨s,rfl⟩:=okWide_string hu hv;exact scal .str (λfs h=>by rw [hu] at h;cases h) (by simp [R0,hu]) (λcs h=>by cases h)
 rename_i fs hu;cases hk:R0 P 9 t with
 |none=>
  rw [hk] at A;simp only at A;cases hm:k6 P 9 t with
  |none=>rw [hm] at A;cases A
  |some ms=>
   rw [hm] at A;simp only [Jc0] at A;split at A;rename_i ts hts;simp only [GT] at A;have hml:ms.length=P.cellsOf t:=GX A.2;have htl:=AJ A.1;simp only [Value.okWide,hu] at hv;obtain ⟨cs,rfl,hcs,ts',hts',_,EX⟩:=hv;rw [hts] at hts';cases hts';have h1:=yU 9 t ms fuel _ _ hm hf hz;simp only [Value.cells] at h1;have key: ∀(j:Nat) (k:MK) (v:Value),ms[j]? =some k->cs.toList[j]? =some v-> ∃a,rE P k a/\Rep (j8 w) w a v/\Idf a:=by
    intro j k v hj hvj;have h2:=h1.2 j k v hj hvj;cases k with
    |sc k=>exact ⟨.x v,.sc k v h2,.x v,.x v⟩
    |sl t' e ks=>
     obtain ⟨hu',hk',hl',n',x',hx',hz'⟩:=h2;obtain ⟨u,hu2,hc⟩:=EX j v (by simpa using hvj)
     have hjl:j<ts.length:=by rw [htl];exact (FT.1 hj).1
     rw [Nat.mod_eq_of_lt hjl,AK A.1 hj] at hu2;cases hu2;have hvc:v.cells.toList=[v]:=by
      obtain ⟨a0,n0,c0,rfl⟩: ∃a0 n0 c0,v= .slice a0 n0 c0:=by
       have hx:=hc;simp only [Cell.okWide,Cell.ok,hu'] at hx;split at hx<;>simp_all
      rfl
     obtain ⟨n,f,g1,g2,g3,g4,g5⟩:=bX hu' hk' hl' hc (by rw [hvc];exact hx') hz'
     exact ⟨_,.sl t' e ks n f g1 g2 g3,g4,g5⟩
   have all: ∀(ms:List MK) (vs:List Value),ms.length=vs.length->(∀(j:Nat) (k:MK) (v:Value),ms[j]? =some k->vs[j]? =some v-> ∃a,rE P k a/\Rep (j8 w) w a v/\Idf a)-> ∃l,BL P ms l/\U2 (j8 w) w l vs/\ ∀a∈l,Idf a:=by
    intro ms
    induction ms with
    |nil=>
     intro vs hl _;cases vs with
     |nil=>exact ⟨[],⟨rfl,λj k a h=>by simp at h⟩,U2.nil _ _,λa ha=>by cases ha⟩
     |cons v vs=>simp at hl
    |cons k ms ih=>
     intro vs hl h;cases vs with
     |nil=>simp at hl
     |cons v vs=>
      obtain ⟨a,a1,a2,a3⟩:=h 0 k v rfl rfl;obtain ⟨l,l1,l2,l3⟩:=ih vs (by simpa using hl) (λj k v hk hv=>h (j+1) k v (by simpa using hk) (by simpa using hv))
      refine ⟨a::l,⟨by simp [l1.1],λj k' a' hk ha=>?_⟩,U2.cons a2 l2,λb hb=>?_⟩
      cases j with
      |zero=>simp at hk ha;subst hk;subst ha;exact a1
      |succ j=>exact l1.2 j k' a' (by simpa using hk) (by simpa using ha)
      rcases GM.1 hb with rfl|hb;exact a3;exact l3 b hb
   obtain ⟨l,l1,l2,l3⟩:=all ms cs.toList h1.1 key;refine ⟨.agg l,.mx t fs ms l hu hk hm l1,?_,.agg _ l3⟩;have:=Rep.aggL l2;simpa using this;cases A
 |some ks=>
  obtain ⟨cs,rfl,_⟩:=okWide_struct hu hv;have h1:=wP 9 t ks fuel _ _ hk hf;refine ⟨.agg (cs.toList.map .x),.st t fs ks cs.toList hu hk h1,?_,.agg _ (λa ha=>?_)⟩;have:=Rep.aggL (U2.xs (j8 w) w cs.toList);simpa using this;obtain ⟨b,_,rfl⟩:=List.mem_map.1 ha;exact .x b
 rename_i e hu;cases hk:R0 P 9 e with
 |none=>
  rw [hk] at A;simp only at A;split at A;rename_i fs ms hue hms;simp only [GT] at A;have hv':Cell.okWide P w r b0 t v:=by
   simpa only [Value.okWide,hu] using hv
  have hvc:v.cells.toList=[v]:=by
   obtain ⟨a0,n0,c0,rfl⟩: ∃a0 n0 c0,v= .slice a0 n0 c0:=by
    have hx:=hv';simp only [Cell.okWide,Cell.ok,hu] at hx;split at hx<;>simp_all
   rfl
  rw [hvc] at hf;have Wo1:0<ms.length:=by
   cases ms with
   |nil=>simp at A
   |cons a b=>simp
  obtain ⟨n,f,h1,h2,h3,h4,h5⟩:=Wa7 hu hms (GX A.1) Wo1 A.2.1 hf hz;exact ⟨_,.sm t e fs ms n f hu hue hk hms h1 h2 h3,h4,h5⟩;cases A
 |some ks=>
  rw [hk] at A;have hl:ks.length=P.cellsOf e:=GX A;have hv':Cell.okWide P w r b0 t v:=by
   simpa only [Value.okWide,hu] using hv
  obtain ⟨n,f,h1,h2,h3,h4,h5⟩:=bX hu hk hl hv' hf hz;exact ⟨_,.sl t e ks n f hu hk h1 h2 h3,h4,h5⟩
 cases A
inductive MI (P:Program):List TypeId->List AV->Prop
 |nil:MI P [] []
 |cons {t:TypeId} {a:AV} {ts:List TypeId} {l:List AV}:wE P t a->MI P ts l->MI P (t::ts) (a::l)
theorem Qe6{b0:Nat}{r:Reach}: ∀(ts:List TypeId) (vs:List Value) (ds:List (DataW H)) (p:List MemPlace),ts.all (SY P)=true->(∀(j:Nat) t v,ts[j]? =some t->vs[j]? =some v->Value.okWide P w r b0 t v)->
  DataW.TrodAll enc P w 0 (λ_=>true) qO ts vs ds p->(∀q∈DataW.weightsEach P ts ds,q<=reachBytes)-> ∃avs,MI P ts avs/\U2 (j8 w) w avs vs/\ ∀a∈avs,Idf a
 |[],vs,ds,p,_,_,h,_=>by
  cases vs with
  |nil=>exact ⟨[],.nil,U2.nil _ _,λa ha=>by cases ha⟩
  |cons v vs=>cases ds<;>simp [DataW.TrodAll] at h
 |t::ts,vs,ds,p,A,hv,h,hz=>by
  obtain ⟨v,vs',d,ds',p1,q1,rfl,rfl,rfl,h1,h2⟩:=trodAll_cons h;simp only [List.all_cons,GT] at A;obtain ⟨a,ha,Z,O⟩:=Zs5 A.1 (hv 0 t v rfl rfl) h1 (λq hq=>hz q (by simp only [DataW.weightsEach,Bc];exact .inl hq))
  obtain ⟨l,hl,hrl,hil⟩:=Qe6 ts vs' ds' q1 A.2 (λj t' v' ht hv'=>hv (j+1) t' v' (by simpa using ht) (by simpa using hv')) h2 (λq hq=>hz q (by simp only [DataW.weightsEach,Bc];exact .inr hq))
  refine ⟨a::l,.cons ha hl,U2.cons Z hrl,λx hx=>?_⟩;rcases GM.1 hx with rfl|hx;exact O;exact hil x hx
theorem Zy6{f:FuncId}{b0:Nat}{r:Reach}{ts:List TypeId}{vs:Array Value}{ds:List (DataW H)}{p:List MemPlace}(A:ts.all (SY P)=true)(hv: ∀(j:Nat) t v,ts[j]? =some t->vs.toList[j]? =some v->Value.okWide P w r b0 t v)
  (h:DataW.TrodAll enc P w 0 (λ_=>true) qO ts vs.toList ds p)(hz: ∀q∈DataW.weightsEach P ts ds,q<=reachBytes)(hs: ∀avs,MI P ts avs->VW P f avs (.x (.bool true)))(hgl:DI (j8 w) w:=by intro b p h;exact absurd h (by simp [GP])):Calls P f vs w λe w'=>e= .returned (.bool true)/\Below w.heap.size w w':=by
 obtain ⟨avs,h1,h2,h3⟩:=Qe6 ts vs.toList ds p A hv h hz;refine (hs avs h1 (j8 w) w vs.toList (λb hb=>hb) hgl h3 h2).mono λe w' hq=>?_;obtain ⟨v,rfl,hb,Z⟩:=hq;rw [Z.x_inv];exact ⟨rfl,hb⟩
theorem OU{W W':World}{sp:Nat->Bool}(hl:laidOutB P=true)(hb:Below W.heap.size W W'): ∀(ts:List TypeId) (vs:List Value) (ds:List (DataW H)) (p:List MemPlace),ts.all (λt=>P.readableRec t&&decide (t<P.types.size))=true->
  DataW.TrodAll enc P W 0 (λ_=>true) true ts vs ds p->(∀x∈p,x.block<W.heap.size)->(∀x∈p,sp x.block=true)->DataW.TrodAll enc P W' 0 sp true ts vs ds p
 |[],vs,ds,p,_,h,_,_=>by
  cases vs<;>cases ds<;>simp [DataW.TrodAll] at h ⊢;exact h
 |t::ts,vs,ds,p,Z,h,hlt,hsp=>by
  obtain ⟨v,vs',d,ds',p1,q1,rfl,rfl,rfl,h1,h2⟩:=trodAll_cons h;simp only [List.all_cons,GT,kG] at Z;refine ⟨p1,q1,WideElems.Trod_stays hl Z.1.1 Z.1.2 h1 (λx hx=>hb.same (hlt x (Bd _ hx))) (λx hx=>hsp x (Bd _ hx)),OU hl hb ts vs' ds' q1 ?_ h2 (λx hx=>hlt x (As _ hx)) (λx hx=>hsp x (As _ hx)),rfl⟩;simpa using Z.2
theorem Jh8{f:Func}{s:ChangeSpec}{apart fresh A3 again:Bool}{W W':World}{args:Array Value}{ds:List (DataW H)}{before:List MemPlace}{tb:TypeId}(hl:laidOutB P=true)(Z:f.params.toList.all (λt=>P.readableRec t&&decide (t<P.types.size))=true)(F0:f.resultTypes=#[tb])(hub:P.underlying tb=some .bool)
  (Jj1:s.vars=[])(hfr:(s.fn H ds).results=[.lit (.bool true)])(hfa:(s.fn H ds).args=ds)(hfv:(s.fn H ds).vars=[])
  (hW:DataW.Whole enc P f.params.toList s.vars apart W args.toList ds [] before)(hA:DataW.TrodAll enc P W 0 (λ_=>true) true f.params.toList args.toList ds before)(hb:Below W.heap.size W W'):
  s.post enc P f apart fresh A3 again W args (.bool true) W':=by
 have hlt: ∀p∈before,p.block<W.heap.size:=λp A=>hW.lt p A;have Wo3: ∀p∈before,(λb=>decide (b<W.heap.size)) p.block=true:=λp A=>by simpa using hlt p A
 have hres': ∀(b:Nat) (sp:Nat->Bool) (hd:Bool),DataW.TrodAll enc P W' b sp hd f.resultTypes.toList ((Value.bool true).resultList f.resultTypes.size) (s.fn H (ds++[])).results []:=by
  intro b sp hd;rw [List.append_nil,hfr,F0];exact trodAll_mk1 (shut_bool hub true)
 have OB: ∀sp:Nat->Bool,(∀p∈before,sp p.block=true)->DataW.TrodAll enc P W' 0 sp true f.params.toList args.toList (s.fn H (ds++[])).args before:=by
  intro sp hsp;rw [List.append_nil,hfa];exact OU hl hb _ _ _ _ Z hA hlt hsp
 have hvars': ∀sp:Nat->Bool,(∀p∈before,sp p.block=true)->DataW.TrodVars enc P W' sp s.vars (s.fn H (ds++[])).vars []:=by
  intro sp _;rw [List.append_nil,hfv,Jj1];rfl
 refine ⟨ds,[],before,[],before,[],hW,hres' _ _ _,OB _ Wo3,hvars' _ Wo3,World.keptBut_mono (λp A=>⟨A,Or.inr (by simpa using A)⟩) (hb.frame (· ∈before)),λ_=>?_⟩
 obtain ⟨_,_,_,_,_,hz,hn⟩:=hW;refine ⟨ok_one F0 rfl (okWide_bool_mk hub true),_,_,([]++before)++[],⟨[]++before,[],trodAll_append (OB _ (λ_ _=>rfl)) (hres' _ _ _),hvars' _ (λ_ _=>rfl),rfl,?_,?_⟩,?_⟩;intro b off A;have hin:MemPlace.cell b off∈before:=by simpa using A
 rw [hb.frozen (hlt _ hin)];exact hz b off hin;intro ha;have:=hn ha;simpa using this;intro p A _;simpa using A
end
section
variable {P:Program}
section
variable (P:Program)(t:TypeId)
def tJ:Bool:=match P.underlying t with
 |some (.struct _)=>true
 |_=>false
def cC:Bool:=match P.underlying t with
 |some (.int _)|some .bool|some .string=>true
 |_=>false
def tN:Option TypeId:=match P.underlying t with
 |some (.slice e)=>some e
 |_=>none
end
theorem wE.agg{t:TypeId}{av:AV}{ks:List SK}(h:wE P t av)(hs:tJ P t=true)(hk:R0 P 9 t=some ks): ∃vs,av= .agg (vs.map .x)/\LL ks vs:=by
 unfold tJ at hs;split at hs;rename_i fs hu;cases h with
 |sc k v h0 h1 h2=>exact absurd hu (h0 fs)
 |st fs' ks' vs h1 h2 h3=>rw [hk] at h2;cases h2;exact ⟨vs,rfl,h3⟩
 |sl e ks' n f h1 h2 h3 h5 h4=>rw [hu] at h1;cases h1
 |mx fs' ms l h1 h2 h3 h4=>rw [hk] at h2;cases h2
 |sm e fs' ms n f h1=>rw [hu] at h1;cases h1
 cases hs
theorem wE.one{t:TypeId}{av:AV}{k:SK}(h:wE P t av)(hs:cC P t=true)(hk:R0 P 9 t=some [k]): ∃v,av= .x v/\oQ k v:=by
 cases h with
 |sc k' v h0 h1 h2=>rw [hk] at h1;cases h1;exact ⟨v,rfl,h2⟩
 |st fs' ks' vs h1 h2 h3=>unfold cC at hs;rw [h1] at hs;cases hs
 |sl e ks' n f h1 h2 h3 h5 h4=>unfold cC at hs;rw [h1] at hs;cases hs
 |mx fs' ms l h1 h2 h3 h4=>unfold cC at hs;rw [h1] at hs;cases hs
 |sm e fs' ms n f h1=>unfold cC at hs;rw [h1] at hs;cases hs
theorem wE.list{t e:TypeId}{av:AV}{ks:List SK}(h:wE P t av)(hs:tN P t=some e)(hk:R0 P 9 e=some ks): ∃(n:Nat) (f:Nat->List Value),av= .lst ks.length n (λi=>(f i).map .x)/\(n<=maxLen/\n*P.bytesOf e<=reachBytes)/\ ∀i,i<n->LL ks (f i):=by
 unfold tN at hs;split at hs;rename_i e' hu;cases hs;cases h with
 |sc k v h0 h1 h2=>simp [R0,hu] at h1
 |st fs' ks' vs h1 h2 h3=>rw [hu] at h1;cases h1
 |mx fs' ms l h1 h2 h3 h4=>rw [hu] at h1;cases h1
 |sm e' fs' ms n f h1 h2 h3=>rw [hu] at h1;cases h1;rw [hk] at h3;cases h3
 |sl e' ks' n f h1 h2 h3 h5 h4=>
  rw [hu] at h1;cases h1;rw [hk] at h2;cases h2;exact ⟨n,f,rfl,⟨h3,h5⟩,h4⟩
 cases hs
theorem BL.nil{l:List AV}(h:BL P [] l):l=[]:=List.eq_nil_of_length_eq_zero h.1.symm
theorem BL.cons{k:MK}{ms:List MK}{l:List AV}(h:BL P (k::ms) l): ∃a l',l=a::l'/\rE P k a/\BL P ms l':=by
 cases l with
 |nil=>have:=h.1;simp at this
 |cons a l=>exact ⟨a,l,rfl,h.2 0 k a rfl rfl,⟨by have:=h.1;simpa using this,λj k' a' hk ha=>h.2 (j+1) k' a' (by simpa using hk) (by simpa using ha)⟩⟩
theorem LL.nil{vs:List Value}(h:LL [] vs):vs=[]:=List.eq_nil_of_length_eq_zero h.1.symm
theorem LL.cons{k:SK}{ks:List SK}{vs:List Value}(h:LL (k::ks) vs): ∃v vs',vs=v::vs'/\oQ k v/\LL ks vs':=by
 cases vs with
 |nil=>have:=h.1;simp at this
 |cons v vs=>exact ⟨v,vs,rfl,h.2 0 k v rfl rfl,⟨by have:=h.1;simpa using this,λj k' v' hk hv=>h.2 (j+1) k' v' (by simpa using hk) (by simpa using hv)⟩⟩
end
inductive Gd where
 |rest
 |go (b:Bool) (g:Gd)
 |both (g g':Gd)
def zY{α:Type}:VL α->Gd->VL α
 | .fail,_=> .fail
 | .leaf a,_=> .leaf a
 | .need ps t,g=> .need ps (zY t g)
 | .branch b t f,g=>match g with
  | .rest=> .branch b t f
  | .go true g=> .need [b=true] (zY t g)
  | .go false g=> .need [b=false] (zY f g)
  | .both g g'=> .branch b (zY t g) (zY f g')
 | .may p t f,g=>match g with
  | .rest=> .may p t f
  | .go true g=> .may p (zY t g) (zY f g)
  | .go false g=> .need [¬p] (zY f g)
  | .both g g'=> .may p (zY t g) (zY f g')
theorem Qr1{α:Type}{Q:α->Prop}{t:VL α}: ∀{g:Gd},(zY t g).sat Q->t.sat Q:=by
 induction t with
 |fail=>intro g h;exact h
 |leaf a=>intro g h;exact h
 |need ps t ih=>intro g h;exact ⟨h.1,ih h.2⟩
 |branch b t f iht ihf=>
  intro g h;cases g with
  |rest=>exact h
  |go d g=>
   cases d;obtain ⟨h1,h2⟩:=h;exact ⟨λhb=>absurd ((show b=false from h1).symm.trans hb) (by decide),λ_=>ihf h2⟩
   obtain ⟨h1,h2⟩:=h;exact ⟨λ_=>iht h2,λhb=>absurd ((show b=true from h1).symm.trans hb) (by decide)⟩
  |both g g'=>exact ⟨λhb=>iht (h.1 hb),λhb=>ihf (h.2 hb)⟩
 |may p t f iht ihf=>
  intro g h;cases g with
  |rest=>exact h
  |go d g=>
   cases d;exact ⟨λA=>absurd A h.1,ihf h.2⟩;exact ⟨λA=>iht (h.1 A),ihf h.2⟩
  |both g g'=>exact ⟨λA=>iht (h.1 A),ihf h.2⟩
theorem uA{P:Program}{G:List (Nat×Spec)}{X:Ext}{L:List UF}{f:FuncId}{fn:Func}{c:Code}{avs:List AV}{res:AV}{t:VL RV}(g:Gd)(hG:VJ P G)(hX: ∀cx,VV P X cx)(GQ:P.follows .mixedOrders=true)(hf:P.funcs[f]? =some fn)(hb:fn.body=some c)
  (hL: ∀j cj,VQ c j=some cj-> ∀sp,L[j]? =some sp->HP P cj sp)(ht:zY (pN P fn.results.toList (D3 P G X L c 0 (HN fn avs))) g=t)(h:t.sat (λr=>UV r res)):VW P f avs res:=by
 subst ht;exact jD hG hX GQ hf hb hL (xH (Qr1 h))
def Qd6(P:Program)(G:List (Nat×Spec))(X:Ext)(L:List UF)(N:List (Pl×Nat×TypeId×Nat))(s2:St)(rest:Code->Nat->St->CT):Nat->Code->Nat->St->CT
 | 0,c,off,s=> .needT (BH (FY N s) s2) (rest c off s2)
 |k+1,c,off,s=>match c with
  | .seq a b=>(D3 P G X L a off s).bind λp=>match p.1 with
   | .normal=>Qd6 P G X L N s2 rest k b (off+GF a) p.2
   |x=> .leaf (x,p.2)
  |_=> .fail
def tB(P:Program)(cx:Cx)(L:List UF)(ev:Code->Nat->St->CT):Prop:=
 ∀(ro:Option Nat) (n:Nat) (c:Code) (off:Nat) (s:St) (Q:G6×St->Prop) (a:Act) (w:World),(∀j cj,VQ c j=some cj-> ∀sp,L[off+j]? =some sp->HK P ro cx cj sp)->(ev c off s).sat Q->Rel cx s a w->c.wpIn (fr ro) n P (C7 cx Q) a w
theorem lE{P:Program}{G:List (Nat×Spec)}{X:Ext}{cx:Cx}{L:List UF}(hG:VJ P G)(hX:VV P X cx)(GQ:P.follows .mixedOrders=true):tB P cx L (D3 P G X L):=
 λro n c off s Q a w hL h r=>D8 hG hX GQ c off s Q a w hL h r
theorem gO{P:Program}{G:List (Nat×Spec)}{X:Ext}{cx:Cx}{L:List UF}{N:List (Pl×Nat×TypeId×Nat)}{s2:St}{rest:Code->Nat->St->CT}(hG:VJ P G)(hX:VV P X cx)(GQ:P.follows .mixedOrders=true)(O6:tB P cx L rest)(hok:okB s2=true): ∀k,tB P cx L (Qd6 P G X L N s2 rest k)
 | 0=>λro n c off s Q a w hL h r=>by
  have h2:=VL.sat_needT h;exact O6 ro n c off s2 Q a w hL h2.2 (FU (GC h2.1) hok (DG r))
 |k+1=>λro n c off s Q a w hL h r=>by
  unfold Qd6 at h;split at h;rename_i x y;refine wpIn_seq ?_;have hx:=D8 hG hX GQ (ro:=ro) (n:=n) x off s _ a w (λj cj hj sp hsp=>hL j cj (by
   unfold VQ;have hlt:j<GF x:=by
    rcases An j (GF x) with h'|h';exact h';exfalso;rw [P0 x j h'] at hj;cases hj
   have:Nat.blt j (GF x)=true:=by rw [Aw];exact hlt
   rw [this];exact hj) sp hsp) (VL.sat_bind h) r
  refine wpIn_mono hx ?_;rintro e a' w' ⟨ex,s',rfl,hq,Z⟩;cases ex with
  |normal=>
   simp only [G6.ex,Exit.then]
   refine gO hG hX GQ O6 hok k ro n y (off+GF x) s' Q a' w' (λj cj hj sp hsp=>hL (GF x+j) cj ?_ sp (by rw [←Ba];exact hsp)) hq Z
   unfold VQ;have:Nat.blt (GF x+j) (GF x)=false:=by rw [Cb,ne_eq,Aw];omega
   rw [this];simpa using hj
  |exit i=>exact ⟨.exit i,s',rfl,hq,Z⟩
  |ret=>exact ⟨.ret,s',rfl,hq,Z⟩
  exact h.elim
theorem OO{P:Program}{L:List UF}{f:FuncId}{fn:Func}{c:Code}{avs:List AV}{ev:Code->Nat->St->CT}(hf:P.funcs[f]? =some fn)(hb:fn.body=some c)
  {cx:Cx}{gh:Option Nat}{w:World}{T:Nat->Prop}{e:UL}{args:List Value}(hev:tB P cx L ev)(hK: ∀b o,¬cx.K b o)(hsv:cx.saved=[])(Qp1:cx.sz=0)(hM: ∀g T w0 D,cx.Φ g T w0->cx.M D->w0.heap.size<=D)(hΦ:cx.Φ gh T w)
  (hT: ∀b,T b->b<w.heap.size/\ ¬e.ro b)(hro: ∀b,e.ro b->b<w.heap.size)(hgl:DI e w)(FO: ∀a∈avs,Idf a)(Z:U2 e w avs args)
  (hL: ∀j cj,VQ c j=some cj-> ∀sp,L[j]? =some sp->HK P none cx cj sp){E:G6×St->Prop}(h:(ev c 0 {HN fn avs with gh:=gh}).sat E){R:Ending->World->Prop}
  (fin: ∀x s w0 T' e' tmps w',E (x,s)->cx.Φ s.gh T' w0->G4 e' w0.heap.size w'->Below w0.heap.size w0 w'->UU e' s.m w'->(∀b,T' b-> ¬e'.ro b)->U2 e' w' s.σ tmps.toList-> ∃v,(results fn tmps).run P w'= .ok v w'/\R (.returned v) w')
  (hex: ∀x s,E (x,s)-> ∀i,x≠ .exit i):Calls P f args.toArray w R:=by
 let e0:UL:={ro:=e.ro,own:=λ_=>none,live:=λ_=>False,blk:=λ_=>0,val:=λ_=> .nilIface}
 have hr0:U2 e0 w avs args:=⟨Z.1,λi a v ha hv=>Rep.idf (e:=e) (e':=e0) (λ_ h=>h) (Z.2 i a v ha hv) (FO a (F1 ha))⟩;have yD:Rel cx {HN fn avs with gh:=gh} {tmps:=args.toArray++Array.replicate (fn.ntmps-args.toArray.size) undef,defers:=[] } w:=by
  refine ⟨w,T,e0,hΦ,⟨λb hb=>⟨rfl,hro b hb⟩,(λb k hk=>by cases hk),hgl⟩,Below.refl _ _,(λp A=>by cases A),(λk hk=>False.elim hk),hT,⟨⟨(λd hd=>by cases hd),By⟩,(λb o h=>(hK b o h).elim),⟨by rw [hsv];rfl,(λi a v h=>by cases h)⟩,by rw [Qp1];exact Ao _⟩,?_⟩
  have ES:U2 e0 w (List.replicate (fn.ntmps-avs.length) .top) (List.replicate (fn.ntmps-avs.length) undef):=by
   refine ⟨VS,λi a v ha _=>?_⟩;have:=F1 ha;rw [List.mem_replicate] at this;rw [this.2];exact .top v
  have:=hr0.append ES;simpa [HN,Z.1] using this
 refine callsIn_wide (n:=0).1 (callsIn_of_wp_marks (F:=fr none) hf hb trivial (wpIn_mono (hev none 0 c 0 _ _ _ w (λj cj hj sp hsp=>hL j cj hj sp (by simpa using hsp)) h yD) ?_) rfl)
 rintro ex a' w' ⟨x,s',rfl,hE,w0,T',e',hΦ',re⟩;have hx:=hex x s' hE;have yF:LeavesInM (fr none) 0 P fn a'.tmps R a'.defers .returning w':=
  zF (M:=cx.M) (s:=s') (λD hD=>hM _ _ _ D hΦ' hD) (λw2 q1 q2 q3 q4=>fin x s' w0 T' e' a'.tmps w2 hE hΦ' q1 q2 q3 (λb hb=>(re.foe b hb).2) q4) a'.defers w' re.xt.defers re.env re.below re.mem re.slots
 cases x with
 |normal=>exact yF
 |ret=>exact yF
 |exit i=>exact (hx i rfl).elim
theorem fJ{P:Program}{G:List (Nat×Spec)}{X:Ext}{L:List UF}{f:FuncId}{fn:Func}{c:Code}{avs:List AV}{res:AV}{t:VL RV}(k:Nat)(N:List (Pl×Nat×TypeId×Nat))(s2:St)(hG:VJ P G)(hX: ∀cx,VV P X cx)(GQ:P.follows .mixedOrders=true)(hf:P.funcs[f]? =some fn)(hb:fn.body=some c)
  (hL: ∀j cj,VQ c j=some cj-> ∀sp,L[j]? =some sp->HP P cj sp)(hok:okB s2=true)(ht:pN P fn.results.toList (Qd6 P G X L N s2 (D3 P G X L) k c 0 (HN fn avs))=t)(h:t.sat (λr=>UV r res)):VW P f avs res:=by
 subst ht;intro e w args hro hgl FO Z;refine OO hf hb (cx:=lB w (λ_=>False)) (gh:=none) (T:=λ_=>False) (e:=e) (gO hG (hX _) GQ (lE hG (hX _) GQ) hok k) (λ_ _ h=>h) rfl rfl (by rintro g T w0 D ⟨rfl,_⟩ h;exact h) ⟨rfl,rfl⟩ (λb h=>h.elim) hro hgl FO Z (λj cj hj sp hsp=>hL j cj hj sp hsp _ (xK _ _)) (xH h) ?_ ?_
 rintro x s w0 T' e' tmps w' ⟨hx,r,F0,jY⟩ ⟨rfl,_⟩ q1 q2 q3 _ q4;obtain ⟨u,hu,GL⟩:=DK (P:=P) q3 q4 F0;exact ⟨u,hu,u,rfl,q2,jY.rep q1 rfl q3 GL⟩;rintro x s ⟨hx,_⟩ i rfl;exact hx
theorem SM{P:Program}{L:List UF}{f:FuncId}{fn:Func}{c:Code}{avs:List AV}{res:AV}{t:VL RV}{ev:Code->Nat->St->CT}(hf:P.funcs[f]? =some fn)(hb:fn.body=some c)(hev: ∀cx,tB P cx L ev)
  (hL: ∀j cj,VQ c j=some cj-> ∀sp,L[j]? =some sp->HP P cj sp)(ht:pN P fn.results.toList (ev c 0 (HN fn avs))=t)(h:t.sat (λr=>UV r res)):VW P f avs res:=by
 subst ht;intro e w args hro hgl FO Z;refine OO hf hb (cx:=lB w (λ_=>False)) (gh:=none) (T:=λ_=>False) (e:=e) (hev _) (λ_ _ h=>h) rfl rfl (by rintro g T w0 D ⟨rfl,_⟩ h;exact h) ⟨rfl,rfl⟩ (λb h=>h.elim) hro hgl FO Z (λj cj hj sp hsp=>hL j cj hj sp hsp _ (xK _ _)) (xH h) ?_ ?_
 rintro x s w0 T' e' tmps w' ⟨hx,r,F0,jY⟩ ⟨rfl,_⟩ q1 q2 q3 _ q4;obtain ⟨u,hu,GL⟩:=DK (P:=P) q3 q4 F0;exact ⟨u,hu,u,rfl,q2,jY.rep q1 rfl q3 GL⟩;rintro x s ⟨hx,_⟩ i rfl;exact hx
def Qd7(P:Program)(G:List (Nat×Spec))(X:Ext)(L:List UF):Code->Nat->St->CT
 | .region id ops draw,off,s=>match draw with
  |true=>(sC P G X ops.toList ops.size (Array.replicate ops.size false) s).bind λs=> .leaf (.normal,s)
  |false=>D3 P G X L (.region id ops false) off s
 | .seq a b,off,s=>(Qd7 P G X L a off s).bind λp=>match p.1 with
  | .normal=>Qd7 P G X L b (off+GF a) p.2
  |x=> .leaf (x,p.2)
 |c,off,s=>D3 P G X L c off s
theorem Wu3{P:Program}{G:List (Nat×Spec)}{X:Ext}{cx:Cx}{L:List UF}(hG:VJ P G)(hX:VV P X cx)(GQ:P.follows .mixedOrders=true):tB P cx L (Qd7 P G X L):=by
 intro ro n c
 induction c with
 |region id ops draw=>
  intro off s Q a w hL h r;cases draw with
  |false=>exact D8 hG hX GQ _ off s Q a w hL h r
  |true=>
   obtain ⟨w0,T,e,hΦ,r⟩:=r;refine wpIn_region_any GQ ?_;exact zT hG hX (λs' a' w' hs Z=>⟨.normal,s',rfl,hs,Z⟩) ops.size _ s a _ (VL.sat_bind h) ⟨w0,T,e,hΦ,r.drew⟩
 |seq x y ihx ihy=>
  intro off s Q a w hL h r;refine wpIn_seq ?_;have hx:=ihx off s _ a w (λj cj hj sp hsp=>hL j cj (by
    unfold VQ;have hlt:j<GF x:=by
     rcases An j (GF x) with h'|h';exact h';exfalso;rw [P0 x j h'] at hj;cases hj
    have:Nat.blt j (GF x)=true:=by rw [Aw];exact hlt
    rw [this];exact hj) sp hsp) (VL.sat_bind h) r
  refine wpIn_mono hx ?_;rintro e a' w' ⟨ex,s',rfl,hq,Z⟩;cases ex with
  |normal=>
   simp only [G6.ex,Exit.then]
   refine ihy (off+GF x) s' Q a' w' (λj cj hj sp hsp=>hL (GF x+j) cj ?_ sp (by rw [←Ba];exact hsp)) hq Z
   unfold VQ;have:Nat.blt (GF x+j) (GF x)=false:=by rw [Cb,ne_eq,Aw];omega
   rw [this];simpa using hj
  |exit i=>exact ⟨.exit i,s',rfl,hq,Z⟩
  |ret=>exact ⟨.ret,s',rfl,hq,Z⟩
 |_=>
  intro off s Q a w hL h r;exact D8 hG hX GQ _ off s Q a w hL h r
def dJ(P:Program)(G:List (Nat×Spec))(X:Ext)(L:List UF)(fn:Func)(c:Code):HY:=λavs m nx sv=>
 some ((D3 P G X L c 0 {HN fn avs with m:=m,nx:=nx,sv:=sv}).bind λp=>match p.1 with
  | .exit _=> .fail
  |_=>match BO P p.2 fn.results.toList with
   |some r=> .leaf (r,p.2.m,p.2.nx,p.2.sv)
   |none=> .fail)
theorem FZ{P:Program}{G:List (Nat×Spec)}{X:Ext}{L:List UF}{f:FuncId}{fn:Func}{c:Code}(hG:VJ P G)(hX: ∀cx,VV P X cx)(GQ:P.follows .mixedOrders=true)(PC:Enters P f)(hf:P.funcs[f]? =some fn)(hb:fn.body=some c)
  (hL: ∀j cj,VQ c j=some cj-> ∀sp,L[j]? =some sp->G0 P cj sp):GA P f (dJ P G X L fn c):=by
 refine ⟨PC,?_⟩;intro avs m nx sv t ht Q hQ cx w0 T e ds args w hE hB hm hl LO hxt Z;unfold dJ at ht;cases ht
 let K':Nat->Obj->Prop:=λb o=>cx.K b o\/(∃d∈ds,d={target:= .collected b,args:=#[] }/\o= .deferred (some []))
 let cx':Cx:={M:=λ_=>False,Φ:=λg T' w'=>g=none/\T'=T/\w'=w0,K:=K',saved:=cx.saved,sz:=cx.sz}
 have FI:(D3 P G X L c 0 {HN fn avs with m:=m,nx:=nx,sv:=sv}).sat (λp=>(∀i,p.1≠ .exit i)/\p.2.gh=p.2.gh/\ ∃r,BO P p.2 fn.results.toList=some r/\Q (r,p.2.m,p.2.nx,p.2.sv)):=by
  refine VL.sat_mono ?_ (VL.sat_bind hQ);rintro ⟨x,s⟩ hs;cases x with
  |exit i=>exact hs.elim
  |normal=>
   simp only at hs;split at hs;rename_i r Z;exact ⟨λi h=>(by cases h),rfl,r,Z,hs⟩
   exact hs.elim
  |ret=>
   simp only at hs;split at hs;rename_i r Z;exact ⟨λi h=>(by cases h),rfl,r,Z,hs⟩
   exact hs.elim
 have yD:Rel cx' {HN fn avs with m:=m,nx:=nx,sv:=sv} {tmps:=args.toArray++Array.replicate (fn.ntmps-args.toArray.size) undef,defers:=[] } w:=by
  refine ⟨w0,T,e,⟨rfl,rfl,rfl⟩,hE,hB,hm,hl,LO,⟨⟨(λd hd=>by cases hd),By⟩,?_,hxt.saved,hxt.size⟩,?_⟩
  rintro b o (hk|⟨d,hd,h1,rfl⟩);exact hxt.kept b o hk;obtain ⟨D,g1,g2,g3,g4,g5⟩:=hxt.defers.1 d hd;rw [h1] at g1;injection g1 with g1 _
  injection g1 with g1
  subst g1;exact ⟨g2,g3,g4⟩;have ES:U2 e w (List.replicate (fn.ntmps-avs.length) .top) (List.replicate (fn.ntmps-avs.length) undef):=by
   refine ⟨VS,λi a v ha _=>?_⟩;have:=F1 ha;rw [List.mem_replicate] at this;rw [this.2];exact .top v
  have:=Z.append ES;simpa [HN,Z.1] using this
 refine callsIn_wide (n:=0).1 (callsIn_of_wp_marks (F:=fr none) hf hb trivial (wpIn_mono (D8 hG (hX cx') GQ c 0 _ _ _ w (λj cj hj sp hsp=>hL j cj hj sp (by simpa using hsp) none cx') FI yD) ?_) rfl)
 rintro ex a' w' ⟨x,s',rfl,⟨hx,_,r,F0,hq⟩,w0',T',e',⟨_,rfl,rfl⟩,re⟩;have Qp7:a'.defers=[]:=by
  cases hd:a'.defers with
  |nil=>rfl
  |cons d l=>
   obtain ⟨D,_,_,_,_,g5⟩:=re.xt.defers.1 d (by rw [hd];exact GB)
   exact g5.elim
 obtain ⟨u,hu,GL⟩:=DK (P:=P) re.mem re.slots F0;have yF:LeavesInM (fr none) 0 P fn a'.tmps (λen w'=> ∃v r m' nx' sv' e',en= .returned v/\Q (r,m',nx',sv')/\G4 e' w0'.heap.size w'/\Below w0'.heap.size w0' w'/\UU e' m' w'/\(∀k,e'.live k->k<nx')/\
   (∀b,T' b->b<w0'.heap.size/\ ¬e'.ro b)/\Xt cx e' sv' ds w'/\Rep e' w' r v) a'.defers .returning w':=by
  rw [Qp7];refine ⟨u,hu,u,r,s'.m,s'.nx,s'.sv,e',rfl,hq,re.env,re.below,re.mem,re.live,re.foe,⟨⟨λd hd=>?_,hxt.defers.2⟩,λb o hk=>re.xt.kept b o (.inl hk),re.xt.saved,re.xt.size⟩,GL⟩;obtain ⟨D,g1,g2,g3,g4,g5⟩:=hxt.defers.1 d hd;obtain ⟨k1,k2,k3⟩:=re.xt.kept D (.deferred (some [])) (.inr ⟨d,hd,g1,rfl⟩);exact ⟨D,g1,k1,k2,k3,g5⟩
 cases x with
 |normal=>exact yF
 |ret=>exact yF
 |exit i=>exact (hx i rfl).elim
def PP(t:Nat)(F:Nat->UF):UF:=λs=>match s.σ.getD t .top with
 | .x (.int _ n)=>F n.toNat s
 |_=>none
theorem RE{P:Program}{c:Code}{t:Nat}{F:Nat->UF}(h: ∀k,G0 P c (F k)):G0 P c (PP t F):=by
 intro ro cx n s tr ht Q hQ a w r;unfold PP at ht;split at ht;exact h _ ro cx n s tr ht Q hQ a w r;cases ht
theorem UP{P:Program}{G:List (Nat×Spec)}{E:Ext}{L:List UF}(N:List (Pl×Nat×TypeId×Nat))(hG:VJ P G)(hX: ∀cx,VV P E cx)(GQ:P.follows .mixedOrders=true){body:Code}(hL: ∀j cj,VQ body j=some cj-> ∀sp,L[j]? =some sp->G0 P cj sp)
  {X:Type}(inv:X->St)(I:X->Prop)(μ:X->Nat)(out:X->G6->Option St){t:CT}{x0:X}(h0:I x0)
  (hok: ∀x,okB (inv x)=true)(qN: ∀x y E,out x y=some E->okB E=true)
  (round: ∀(Q:G6×St->Prop),t.sat Q-> ∀x,I x-> ∃x',(HW P G E L N body (inv x) (inv x') (out x)).sat (λy=>match y with
   | .normal=>I x'/\μ x'<μ x
   |y=> ∀E,out x y=some E->Q (y,E))):G0 P (.loop body) (GI N (HB (inv x0) t)):=
 λro cx=>FL N hG (hX cx) GQ (λj cj hj sp hsp=>hL j cj hj sp hsp ro cx) inv I μ out h0 hok qN round
theorem VM.inl{P:Program}{f:Nat}{h:HY}{H:List (Nat×HY)}(h1:GA P f h)(k:VM P H):VM P ((f,h)::H):=VM.cons h1 k
inductive Xb1 where
 |ret (a:AV)
 |pan (v:Value)
abbrev DY:=List AV->GY->Nat->List (List AV)->Option (VL (Xb1×GY×Nat×List (List AV)))
def Xx7(e:UL)(w:World):Xb1->Ending->Prop
 | .ret a,en=> ∃v,en= .returned v/\Rep e w a v
 | .pan u,en=>en= .panicked [{v:=u,recovered:=false}]
def D5(P:Program)(f:FuncId)(h:DY):Prop:=Enters P f/\ ∀avs m nx sv t,h avs m nx sv=some t-> ∀Q,t.sat Q-> ∀(c:Cx) (w0:World) (T:Nat->Prop) (e:UL) (ds:List Deferred) (args:List Value) (w:World),
 G4 e w0.heap.size w->Below w0.heap.size w0 w->UU e m w->(∀k,e.live k->k<nx)->(∀b,T b->b<w0.heap.size/\ ¬e.ro b)->Xt c e sv ds w->U2 e w avs args->
  Calls P f args.toArray w λen w'=> ∃r m' nx' sv' e',Xx7 e' w' r en/\Q (r,m',nx',sv')/\G4 e' w0.heap.size w'/\Below w0.heap.size w0 w'/\UU e' m' w'/\(∀k,e'.live k->k<nx')/\
   (∀b,T b->b<w0.heap.size/\ ¬e'.ro b)/\Xt c e' sv' ds w'
def UT(P:Program)(PX:List (Nat×DY)):Prop:= ∀p∈PX,D5 P p.1 p.2
theorem UT.nil(P:Program):UT P []:=λ_ h=>by cases h
theorem UT.cons{P:Program}{f:Nat}{h:DY}{H:List (Nat×DY)}(h1:D5 P f h)(k:UT P H):UT P ((f,h)::H):=by
 intro p A;rcases GM.1 A with rfl|A;exact h1;exact k p A
def Qr2:List (Nat×DY)->Nat->Option DY
 |[],_=>none
 |(k,s)::t,f=>match Nat.beq k f with
  |true=>some s
  |false=>Qr2 t f
theorem Wr0{G:List (Nat×DY)}{f:Nat}{s:DY}(h:Qr2 G f=some s):(f,s)∈G:=by
 induction G with
 |nil=>simp [Qr2] at h
 |cons p t ih=>
  obtain ⟨k,r'⟩:=p;unfold Qr2 at h;split at h;rename_i hk;have:k=f:=GX hk;subst this;cases h;exact GB;exact HI _ (ih h)
inductive PEx where
 |x (e:G6)
 |pan (v:Value)
def PEx.ex:PEx->Exit
 | .x e=>e.ex
 | .pan v=> .panic [{v,recovered:=false}]
abbrev PT:=VL (PEx×St)
def C6(cx:Cx)(Q:PEx×St->Prop):Exit->Act->World->Prop:=λe a w=> ∃x s,e=PEx.ex x/\Q (x,s)/\Rel cx s a w
abbrev PK:=St->Option PT
def LW(P:Program)(ro:Option Nat)(cx:Cx)(c:Code)(sp:PK):Prop:= ∀(n:Nat) (s:St) (t:PT),sp s=some t-> ∀Q:PEx×St->Prop,t.sat Q-> ∀(a:Act) (w:World),Rel cx s a w->c.wpIn (fr ro) n P (C6 cx Q) a w
def Jp1(dst:Option Nat)(s:St)(p:Xb1×GY×Nat×List (List AV)):PT:=match p.2.2.2 with
 |σ::sv=>match p.1 with
  | .ret a=> .leaf (.x .normal,{s with σ:=wS σ dst a,m:=p.2.1,nx:=p.2.2.1,sv:=sv})
  | .pan v=> .leaf (.pan v,{s with σ:=σ,m:=p.2.1,nx:=p.2.2.1,sv:=sv})
 |[]=> .fail
def EE(s:St):PT:= .leaf (.x .normal,s)
def Wh0(P:Program)(G:List (Nat×Spec))(X:Ext)(PX:List (Nat×DY))(ops:List Oper)(o:Oper)(s:St):PT:=
 match o.op with
 | .call c=>match c.callee with
  | .value f=>match rho s.σ f with
   | .fn (.func g) first caps=>match Qr2 PX g with
    |some h=>match o.guard with
     |none=>match h (first++c.args.toList.map (rho s.σ)++caps) s.m s.nx (s.σ::s.sv) with
      |some t=>t.bind (Jp1 o.dst s)
      |none=> .fail
     |some _=> .fail
    |none=>(z8 P G X ops o s).bind EE
   |_=>(z8 P G X ops o s).bind EE
  |_=>(z8 P G X ops o s).bind EE
 | .panic v=>match o.guard,rho s.σ v with
  |none,.x (.iface t u)=> .leaf (.pan (.iface t u),s)
  |_,_=> .fail
 |_=>(z8 P G X ops o s).bind EE
def Jf6(f:St->PT)(p:PEx×St):PT:=match p.1 with
 | .x .normal=>f p.2
 |x=> .leaf (x,p.2)
def cI(P:Program)(G:List (Nat×Spec))(X:Ext)(PX:List (Nat×DY))(ops:List Oper):List Oper->St->PT
 |[],s=>EE s
 |o::rest,s=>(Wh0 P G X PX ops o s).bind (Jf6 (cI P G X PX ops rest))
section
variable (P:Program)(G:List (Nat×Spec))(X:Ext)
def Jf5(PX:List (Nat×DY))(ops:List Oper)(s:St):PT:=cI P G X PX ops ops s
def Jl2(PX:List (Nat×DY)):List Oper->Bool
 |[]=>false
 |o::os=>(match o.op with
  | .call c=>match c.callee with
   | .value (.func g)=>match Qr2 PX g with
    |some _=>true
    |none=>false
   |_=>false
  | .panic _=>true
  |_=>false)||Jl2 PX os
def Wc5(PX:List (Nat×DY))(ops:List Oper)(s:St):PT:=match Jl2 PX ops with
 |true=>Zk6 (cI P G X PX ops) P G X ops s
 |false=>(Xh1 P G X ops s).bind EE
end
def P2(P:Program)(G:List (Nat×Spec))(X:Ext)(PX:List (Nat×DY))(L:List PK):Code->Nat->St->PT
 | .skip,_,s=> .leaf (.x .normal,s)
 | .label _,_,s=> .leaf (.x .normal,s)
 | .region _ ops draw,_,s=>match draw with
  |true=>Wc5 P G X PX ops.toList s
  |false=>Jf5 P G X PX ops.toList s
 | .seq a b,off,s=>(P2 P G X PX L a off s).bind λp=>match p.1 with
  | .x .normal=>P2 P G X PX L b (off+GF a) p.2
  |x=> .leaf (x,p.2)
 | .cond c a b,off,s=>match rho s.σ c with
  | .lit true=>P2 P G X PX L a off s
  | .lit false=>P2 P G X PX L b (off+GF a) s
  | .x (.bool t)=> .branch t (P2 P G X PX L a off (lC s c true)) (P2 P G X PX L b (off+GF a) (lC s c false))
  |_=> .fail
 | .block id c,off,s=>(P2 P G X PX L c off s).bind λp=>match p.1 with
  | .x (.exit i)=>match Nat.beq i id with
   |true=> .leaf (.x .normal,p.2)
   |false=> .leaf (.x (.exit i),p.2)
  |x=> .leaf (x,p.2)
 | .scope c,off,s=>P2 P G X PX L c off s
 | .loop _,off,s=>match L[off]? with
  |some f=>match f s with
   |some t=>t
   |none=> .fail
  |none=> .fail
 | .rangeFunc _ _ _ _,off,s=>match L[off]? with
  |some f=>match f s with
   |some t=>t
   |none=> .fail
  |none=> .fail
 | .exit id,_,s=> .leaf (.x (.exit id),s)
 | .ret,_,s=> .leaf (.x .ret,s)
 | .goto _,_,_=> .fail
 | .refuse _,_,_=> .fail
section
variable {P:Program}{G:List (Nat×Spec)}{X:Ext}{PX:List (Nat×DY)}{cx:Cx}
theorem eR(hG:VJ P G)(hX:VV P X cx)(hP:UT P PX){ro:Option Nat}{n:Nat}{ops:Array Oper}{i:Nat}{o:Oper}(ho:ops[i]? =some o){s:St}{Q R:PEx×St->Prop}{K:Act->World->Prop}(hK: ∀s a w,R (.x .normal,s)->Rel cx s a w->K a w)(hV: ∀v s,R (.pan v,s)->Q (.pan v,s))(h:(Wh0 P G X PX ops.toList o s).sat R){a:Act}{w:World}(r:Rel cx s a w):
  wpOpIn (fr ro) n P ops (C6 cx Q) i K a w:=by
 have plain:((z8 P G X ops.toList o s).bind EE).sat R->wpOpIn (fr ro) n P ops (C6 cx Q) i K a w:=λh=>
  z7 hG hX ho (VL.sat_bind h) r (λs' a' w' hs Z=>hK s' a' w' hs Z)
 unfold Wh0 at h;split at h;rename_i c hop;split at h;rename_i f gH;split at h;rename_i g first caps hfe
 split at h;rename_i hs hhs;split at h;rename_i hg;split at h;rename_i t ht;obtain ⟨w0,T,e,hΦ,r⟩:=r;obtain ⟨dst,op,type,pos,after,guard⟩:=o;simp only at hop hg;subst hop hg;obtain ⟨callee,args,argTypes⟩:=c;simp only at gH;subst gH;have ha:=U2.ops (FK r.slots) args.toList;have hf:=FK r.slots f;rw [hfe] at hf;obtain ⟨us,us',hv,r1,r2⟩:=hf.fn_inv;have HX:U2 e w (first++args.toList.map (rho s.σ)++caps) (us++args.toList.map a.eval++us'):=(r1.append ha).append r2
 obtain ⟨PC,EW⟩:=hP _ (Wr0 hhs);have FF:=EW _ _ _ _ _ ht _ (VL.sat_bind h) {cx with saved:=a.tmps.toList::cx.saved} w0 T e a.defers _ w r.env r.below r.mem r.live r.foe ⟨r.xt.defers,r.xt.kept,L6.cons r.slots r.xt.saved,r.xt.size⟩ HX
 unfold wpOpIn;simp only [ho];rw [if_pos (by simp [Region.wanted])]
 refine HL (λc h=>by cases h) ?_
 unfold Oper.wp;have DN:(execOp a.eval ⟨dst,.call ⟨.value f,args,argTypes⟩,type,pos,after,none⟩).run P w= .ok (.enter g (us++args.toList.map a.eval++us').toArray) w:=by
  have e1:(us++args.toList.map a.eval++us').toArray=us.toArray++args.map a.eval++us'.toArray:=Array.ext' VS;simp only [execOp,resolve,hv,Deferred.ofValue,At,Bv,Au,invoke];rw [e1];exact LA PC _ w
 rw [DN,Oper.upon_enter];refine FF.mono λen w' hq=>?_;obtain ⟨rr,m',nx',sv',e',PL,hQ,hE',hB',hm',hl',hT',hx'⟩:=hq;obtain ⟨a1,l1,he1,hs1,hs2⟩:=hx'.saved.cons_inv;subst he1;cases rr with
 |ret av=>
  obtain ⟨v,rfl,GL⟩:=PL;exact hK _ _ _ hQ ⟨w0,T,e',hΦ,hE',hB',hm',hl',hT',by rw [put_defers];exact ⟨hx'.defers,hx'.kept,hs2,hx'.size⟩,BV hs1 dst GL⟩
 |pan u=>
  cases PL;exact ⟨.pan u,_,rfl,hV _ _ hQ,w0,T,e',hΦ,hE',hB',hm',hl',hT',⟨hx'.defers,hx'.kept,hs2,hx'.size⟩,hs1⟩
 exact h.elim;exact h.elim;exact plain h;exact plain h;exact plain h;rename_i v hop;split at h;rename_i t u hg hu;have r0:=r;obtain ⟨w0,T,e,hΦ,r⟩:=r;have hv:=FK r.slots v;rw [hu] at hv;have hv:=hv.x_inv;obtain ⟨dst,op,type,pos,after,guard⟩:=o;simp only at hop hg;subst hop hg;unfold wpOpIn;simp only [ho];rw [if_pos (by simp [Region.wanted])]
 refine HL (λc h=>by cases h) ?_
 unfold Oper.wp;have DN:(execOp a.eval ⟨dst,.panic v,type,pos,after,none⟩).run P w= .halt (.panic (.iface t u)) w:=by
  simp [execOp,hv,Instr.panic,goPanic]
 rw [DN,Oper.upon_panic];exact ⟨.pan (.iface t u),s,rfl,hV _ _ h,r0⟩;exact h.elim;exact plain h
theorem jH(hG:VJ P G)(hX:VV P X cx)(hP:UT P PX){ro:Option Nat}{n:Nat}{ops:Array Oper}{Q:PEx×St->Prop}:
  ∀(l:List Oper) (k:Nat),l=ops.toList.drop k-> ∀(s:St) (a:Act) (w:World),(cI P G X PX ops.toList l s).sat Q->Rel cx s a w->wpOpsIn (fr ro) n P ops (C6 cx Q) (List.range' k (ops.size-k)) a w
 |[],k,hk,s,a,w,h,r=>by
  have hl:ops.size-k=0:=by
   have:=congrArg List.length hk;simp at this;omega
  rw [hl];exact ⟨.x .normal,s,rfl,h,r⟩
 |o::rest,k,hk,s,a,w,h,r=>by
  have hlt:k<ops.size:=by
   have:=congrArg List.length hk;simp at this;omega
  have hok:ops[k]? =some o:=by
   have:=congrArg (·[0]?) hk;simp at this;exact this.symm
  have O6:rest=ops.toList.drop (k+1):=by
   have:=congrArg List.tail hk;simpa using this
  have e1:ops.size-k=(ops.size-(k+1))+1:=VI;rw [e1,List.range'_succ,wpOpsIn_cons];refine eR (Q:=Q) (R:=λp=>(Jf6 (cI P G X PX ops.toList rest) p).sat Q) hG hX hP hok ?_ (λv s' hs'=>hs') (VL.sat_bind h) r;exact λs' a' w' hs' hr'=>jH hG hX hP rest (k+1) O6 s' a' w' hs' hr'
theorem nK(hG:VJ P G)(hX:VV P X cx)(hP:UT P PX){ro:Option Nat}{n:Nat}{id:Nat}{ops:Array Oper}{s:St}{Q:PEx×St->Prop}(h:(Jf5 P G X PX ops.toList s).sat Q){a:Act}{w:World}(r:Rel cx s a w):
  (Code.region id ops false).wpIn (fr ro) n P (C6 cx Q) a w:=by
 refine wpIn_region ?_;rw [List.range_eq_range' (n:=ops.size)];have:=jH hG hX hP (ro:=ro) (n:=n) ops.toList 0 VS s a w h r;simpa using this
theorem cL(hG:VJ P G)(hX:VV P X cx)(hP:UT P PX)(GQ:P.follows .mixedOrders=true){ro:Option Nat}{n:Nat}{id:Nat}{ops:Array Oper}{s:St}{Q:PEx×St->Prop}(h:(Wc5 P G X PX ops.toList s).sat Q){a:Act}{w:World}(r:Rel cx s a w):
  (Code.region id ops true).wpIn (fr ro) n P (C6 cx Q) a w:=by
 unfold Wc5 at h;split at h;exact wpIn_region_any GQ (cK hG hX GQ h r (λl k hl s a w h r=>jH hG hX hP l k hl s a w h r));exact C0 hG hX GQ (VL.sat_bind h) r (λs' a' w' hs Z=>⟨.x .normal,s',rfl,hs,Z⟩)
theorem rA(hG:VJ P G)(hX:VV P X cx)(hP:UT P PX)(GQ:P.follows .mixedOrders=true){L:List PK}{ro:Option Nat}{n:Nat}:
  ∀(c:Code) (off:Nat) (s:St) (Q:PEx×St->Prop) (a:Act) (w:World),(∀j cj,VQ c j=some cj-> ∀sp,L[off+j]? =some sp->LW P ro cx cj sp)->(P2 P G X PX L c off s).sat Q->Rel cx s a w->c.wpIn (fr ro) n P (C6 cx Q) a w:=by
 intro c
 induction c with
 |skip=>intro off s Q a w _ h r;exact wpIn_skip ⟨.x .normal,s,rfl,h,r⟩
 |label l=>intro off s Q a w _ h r;exact wpIn_label ⟨.x .normal,s,rfl,h,r⟩
 |region id ops draw=>
  intro off s Q a w _ h r;unfold P2 at h;cases draw with
  |true=>exact cL hG hX hP GQ h r
  |false=>exact nK hG hX hP h r
 |seq x y ihx ihy=>
  intro off s Q a w hL h r;unfold P2 at h;refine wpIn_seq ?_;have hx:=ihx off s _ a w (λj cj hj sp hsp=>hL j cj (by
   unfold VQ;have hlt:j<GF x:=by
    rcases An j (GF x) with h'|h';exact h';exfalso;rw [P0 x j h'] at hj;cases hj
   have:Nat.blt j (GF x)=true:=by rw [Aw];exact hlt
   rw [this];exact hj) sp hsp) (VL.sat_bind h) r
  refine wpIn_mono hx ?_;rintro e a' w' ⟨ex,s',rfl,hq,Z⟩;cases ex with
  |pan v=>exact ⟨.pan v,s',rfl,hq,Z⟩
  |x ex=>
  cases ex with
  |normal=>
   simp only [PEx.ex,G6.ex,Exit.then]
   refine ihy (off+GF x) s' Q a' w' (λj cj hj sp hsp=>hL (GF x+j) cj ?_ sp (by rw [←Ba];exact hsp)) hq Z
   unfold VQ;have:Nat.blt (GF x+j) (GF x)=false:=by rw [Cb,ne_eq,Aw];omega
   rw [this];simpa using hj
  |exit i=>exact ⟨.x (.exit i),s',rfl,hq,Z⟩
  |ret=>exact ⟨.x .ret,s',rfl,hq,Z⟩
 |cond t x y ihx ihy=>
  intro off s Q a w hL h r;have hLx: ∀j cj,VQ x j=some cj-> ∀sp,L[off+j]? =some sp->LW P ro cx cj sp:=by
   intro j cj hj sp hsp;refine hL j cj ?_ sp hsp;unfold VQ;split;exact hj;rename_i hb;exfalso;have hge:GF x<=j:=by
    rw [Cb,ne_eq,Aw] at hb;omega
   rw [P0 x j hge] at hj;cases hj
  have hLy: ∀j cj,VQ y j=some cj-> ∀sp,L[off+GF x+j]? =some sp->LW P ro cx cj sp:=by
   intro j cj hj sp hsp;refine hL (GF x+j) cj ?_ sp (by rw [←Ba];exact hsp)
   unfold VQ;have:Nat.blt (GF x+j) (GF x)=false:=by rw [Cb,ne_eq,Aw];omega
   rw [this];simpa using hj
  unfold P2 at h;have r0:=r;obtain ⟨w0,T,e,hΦ,re⟩:=r;have hc:=FK re.slots t;split at h;rename_i heq;rw [heq] at hc;exact wpIn_cond_true hc.lit_inv (ihx off s Q a w hLx h r0);rename_i heq;rw [heq] at hc;exact wpIn_cond_false hc.lit_inv (ihy _ s Q a w hLy h r0);rename_i b heq;rw [heq] at hc;cases b;exact wpIn_cond_false hc.x_inv (ihy _ _ Q a w hLy (h.2 rfl) (gN r0 heq rfl));exact wpIn_cond_true hc.x_inv (ihx _ _ Q a w hLx (h.1 rfl) (gN r0 heq rfl));exact h.elim
 |block id c ih=>
  intro off s Q a w hL h r;unfold P2 at h;refine wpIn_block (wpIn_mono (ih off s _ a w hL (VL.sat_bind h) r) ?_);rintro e a' w' ⟨ex,s',rfl,hq,Z⟩;cases ex with
  |pan v=>exact ⟨.pan v,s',rfl,hq,Z⟩
  |x ex=>
  cases ex with
  |normal=>exact ⟨.x .normal,s',rfl,hq,Z⟩
  |ret=>exact ⟨.x .ret,s',rfl,hq,Z⟩
  |exit i=>
   simp only [PEx.ex,G6.ex,Exit.inBlock];simp only at hq;split at hq;rename_i hb;rw [if_pos (GX hb)];exact ⟨.x .normal,s',rfl,hq,Z⟩;rename_i hb;rw [if_neg (λhe=>by subst he;simp at hb)]
   exact ⟨.x (.exit i),s',rfl,hq,Z⟩
 |scope c ih=>
  intro off s Q a w hL h r;unfold P2 at h;refine AB (wpIn_mono (ih off s Q a w hL h r) ?_);rintro e a' w' ⟨ex,s',rfl,hq,Z⟩;cases ex with
  |pan v=>exact ⟨.pan v,s',rfl,hq,Z⟩
  |x ex=>
  cases ex with
  |normal=>exact ⟨.x .normal,s',rfl,hq,Z⟩
  |ret=>exact ⟨.x .ret,s',rfl,hq,Z⟩
  |exit i=>exact ⟨.x (.exit i),s',rfl,hq,Z⟩
 |loop c ih=>
  intro off s Q a w hL h r;unfold P2 at h;split at h;rename_i f hf;split at h;rename_i t ht;exact hL 0 _ rfl f (by simpa using hf) n s t ht Q h a w r
  exact h.elim;exact h.elim
 |rangeFunc f ps x y ihx ihy=>
  intro off s Q a w hL h r;unfold P2 at h;split at h;rename_i f hf;split at h;rename_i t ht;exact hL 0 _ rfl f (by simpa using hf) n s t ht Q h a w r
  exact h.elim;exact h.elim
 |exit id=>intro off s Q a w _ h r;exact wpIn_exit ⟨.x (.exit id),s,rfl,h,r⟩
 |ret=>intro off s Q a w _ h r;exact wpIn_ret ⟨.x .ret,s,rfl,h,r⟩
 |goto l=>intro off s Q a w _ h r;exact h.elim
 |refuse y=>intro off s Q a w _ h r;exact h.elim
end
def rO(P:Program)(G:List (Nat×Spec))(X:Ext)(PX:List (Nat×DY))(L:List PK)(fn:Func)(c:Code):DY:=λavs m nx sv=>
 some ((P2 P G X PX L c 0 {HN fn avs with m:=m,nx:=nx,sv:=sv}).bind λp=>match p.1 with
  | .pan v=> .leaf (.pan v,p.2.m,p.2.nx,p.2.sv)
  | .x (.exit _)=> .fail
  |_=>match BO P p.2 fn.results.toList with
   |some r=> .leaf (.ret r,p.2.m,p.2.nx,p.2.sv)
   |none=> .fail)
theorem FQ{P:Program}{G:List (Nat×Spec)}{X:Ext}{PX:List (Nat×DY)}{L:List PK}{f:FuncId}{fn:Func}{c:Code}(hG:VJ P G)(hX: ∀cx,VV P X cx)(hP:UT P PX)(GQ:P.follows .mixedOrders=true)(PC:Enters P f)(hf:P.funcs[f]? =some fn)(hb:fn.body=some c)
  (hL: ∀j cj,VQ c j=some cj-> ∀sp,L[j]? =some sp-> ∀ro cx,LW P ro cx cj sp):D5 P f (rO P G X PX L fn c):=by
 refine ⟨PC,?_⟩;intro avs m nx sv t ht Q hQ cx w0 T e ds args w hE hB hm hl LO hxt Z;unfold rO at ht;cases ht
 let K':Nat->Obj->Prop:=λb o=>cx.K b o\/(∃d∈ds,d={target:= .collected b,args:=#[] }/\o= .deferred (some []))
 let cx':Cx:={M:=λ_=>False,Φ:=λg T' w'=>g=none/\T'=T/\w'=w0,K:=K',saved:=cx.saved,sz:=cx.sz}
 have FI:(P2 P G X PX L c 0 {HN fn avs with m:=m,nx:=nx,sv:=sv}).sat (λp=>match p.1 with
   | .pan v=>Q (.pan v,p.2.m,p.2.nx,p.2.sv)
   | .x (.exit _)=>False
   |_=> ∃r,BO P p.2 fn.results.toList=some r/\Q (.ret r,p.2.m,p.2.nx,p.2.sv)):=by
  refine VL.sat_mono ?_ (VL.sat_bind hQ);rintro ⟨x,s⟩ hs;cases x with
  |pan v=>exact hs
  |x x=>
  cases x with
  |exit i=>exact hs.elim
  |normal=>
   simp only at hs ⊢;split at hs;rename_i r Z;exact ⟨r,Z,hs⟩;exact hs.elim
  |ret=>
   simp only at hs ⊢;split at hs;rename_i r Z;exact ⟨r,Z,hs⟩;exact hs.elim
 have yD:Rel cx' {HN fn avs with m:=m,nx:=nx,sv:=sv} {tmps:=args.toArray++Array.replicate (fn.ntmps-args.toArray.size) undef,defers:=[] } w:=by
  refine ⟨w0,T,e,⟨rfl,rfl,rfl⟩,hE,hB,hm,hl,LO,⟨⟨(λd hd=>by cases hd),By⟩,?_,hxt.saved,hxt.size⟩,?_⟩
  rintro b o (hk|⟨d,hd,h1,rfl⟩);exact hxt.kept b o hk;obtain ⟨D,g1,g2,g3,g4,g5⟩:=hxt.defers.1 d hd;rw [h1] at g1;injection g1 with g1 _
  injection g1 with g1
  subst g1;exact ⟨g2,g3,g4⟩;have ES:U2 e w (List.replicate (fn.ntmps-avs.length) .top) (List.replicate (fn.ntmps-avs.length) undef):=by
   refine ⟨VS,λi a v ha _=>?_⟩;have:=F1 ha;rw [List.mem_replicate] at this;rw [this.2];exact .top v
  have:=Z.append ES;simpa [HN,Z.1] using this
 refine callsIn_wide (n:=0).1 (callsIn_of_wp_marks (F:=fr none) hf hb trivial (wpIn_mono (rA hG (hX cx') hP GQ c 0 _ _ _ w (λj cj hj sp hsp=>hL j cj hj sp (by simpa using hsp) none cx') FI yD) ?_) rfl)
 rintro ex a' w' ⟨x,s',rfl,hq,w0',T',e',⟨_,rfl,rfl⟩,re⟩;have Qp7:a'.defers=[]:=by
  cases hd:a'.defers with
  |nil=>rfl
  |cons d l=>
   obtain ⟨D,_,_,_,_,g5⟩:=re.xt.defers.1 d (by rw [hd];exact GB)
   exact g5.elim
 have hxt':Xt cx e' s'.sv ds w':=by
  refine ⟨⟨λd hd=>?_,hxt.defers.2⟩,λb o hk=>re.xt.kept b o (.inl hk),re.xt.saved,re.xt.size⟩;obtain ⟨D,g1,g2,g3,g4,g5⟩:=hxt.defers.1 d hd;obtain ⟨k1,k2,k3⟩:=re.xt.kept D (.deferred (some [])) (.inr ⟨d,hd,g1,rfl⟩);exact ⟨D,g1,k1,k2,k3,g5⟩
 have fin:(∃r,BO P s' fn.results.toList=some r/\Q (.ret r,s'.m,s'.nx,s'.sv))->LeavesInM (fr none) 0 P fn a'.tmps (λen w'=> ∃r m' nx' sv' e',Xx7 e' w' r en/\Q (r,m',nx',sv')/\G4 e' w0'.heap.size w'/\Below w0'.heap.size w0' w'/\UU e' m' w'/\(∀k,e'.live k->k<nx')/\
   (∀b,T' b->b<w0'.heap.size/\ ¬e'.ro b)/\Xt cx e' sv' ds w') a'.defers .returning w':=by
  rintro ⟨r,F0,hq⟩;obtain ⟨u,hu,GL⟩:=DK (P:=P) re.mem re.slots F0;rw [Qp7];exact ⟨u,hu,.ret r,s'.m,s'.nx,s'.sv,e',⟨u,rfl,GL⟩,hq,re.env,re.below,re.mem,re.live,re.foe,hxt'⟩
 cases x with
 |pan v=>
  show LeavesInM (fr none) 0 P fn a'.tmps _ a'.defers (.panicking [{v:=v,recovered:=false}]) w';rw [Qp7];exact ⟨.pan v,s'.m,s'.nx,s'.sv,e',rfl,hq,re.env,re.below,re.mem,re.live,re.foe,hxt'⟩
 |x x=>
 cases x with
 |normal=>exact fin hq
 |ret=>exact fin hq
 |exit i=>exact hq.elim
def Wt1(N:List (Pl×Nat×TypeId×Nat))(nxt:St)(out:PEx->Option St)(p:PEx×St):VL PEx:=match p.1 with
 | .x .normal=> .needT (BH (FY N p.2) nxt) (.leaf (.x .normal))
 | .x (.exit id)=>match out (.x (.exit id)) with
  |some E=> .needT (BH (FY N p.2) E) (.leaf (.x (.exit id)))
  |none=> .fail
 | .x .ret=>match out (.x .ret) with
  |some E=> .needT (BH (FY N p.2) E) (.leaf (.x .ret))
  |none=> .fail
 | .pan v=>match out (.pan v) with
  |some E=> .needT (BH (FY N p.2) E) (.leaf (.pan v))
  |none=> .fail
theorem Wt0{N:List (Pl×Nat×TypeId×Nat)}{t:PT}{nxt:St}{out:PEx->Option St}{R:PEx->Prop}(h:(t.bind (Wt1 N nxt out)).sat R):
  t.sat (λp=>match p.1 with
   | .x .normal=>R (.x .normal)/\U9 (BH (FY N p.2) nxt)
   |y=> ∃E,out y=some E/\R y/\U9 (BH (FY N p.2) E)):=by
 refine VL.sat_mono ?_ (VL.sat_bind h);rintro ⟨y,s'⟩ A;cases y with
 |pan v=>
  dsimp only [Wt1] at A ⊢
  split at A;rename_i E hE;exact ⟨E,hE,(VL.sat_needT A).2,(VL.sat_needT A).1⟩;exact A.elim
 |x y=>
 cases y with
 |normal=>exact ⟨(VL.sat_needT A).2,(VL.sat_needT A).1⟩
 |exit id=>
  dsimp only [Wt1] at A ⊢
  split at A;rename_i E hE;exact ⟨E,hE,(VL.sat_needT A).2,(VL.sat_needT A).1⟩;exact A.elim
 |ret=>
  dsimp only [Wt1] at A ⊢
  split at A;rename_i E hE;exact ⟨E,hE,(VL.sat_needT A).2,(VL.sat_needT A).1⟩;exact A.elim
def Zg7(E:St)(t:PT):PK:=λs=>some (.needT (BH s E) t)
def TI(l:List (Pl×Nat×TypeId×Nat))(sp:PK):PK:=λs=>sp (FY l s)
def Zh6(P:Program)(G:List (Nat×Spec))(X:Ext)(PX:List (Nat×DY))(L:List PK)(N:List (Pl×Nat×TypeId×Nat))(body:Code)(s nxt:St)(out:PEx->Option St):VL PEx:=(P2 P G X PX L body 0 s).bind (Wt1 N nxt out)
theorem TN{P:Program}{G:List (Nat×Spec)}{X:Ext}{PX:List (Nat×DY)}{L:List PK}(N:List (Pl×Nat×TypeId×Nat))(hG:VJ P G)(hX: ∀cx,VV P X cx)(hP:UT P PX)(GQ:P.follows .mixedOrders=true){body:Code}(hL: ∀j cj,VQ body j=some cj-> ∀sp,L[j]? =some sp-> ∀ro cx,LW P ro cx cj sp)
  {V:Type}(inv:V->St)(I:V->Prop)(μ:V->Nat)(out:V->PEx->Option St){t:PT}{x0:V}(h0:I x0)
  (hok: ∀x,okB (inv x)=true)(qN: ∀x y E,out x y=some E->okB E=true)
  (round: ∀(Q:PEx×St->Prop),t.sat Q-> ∀x,I x-> ∃x',(Zh6 P G X PX L N body (inv x) (inv x') (out x)).sat (λy=>match y with
   | .x .normal=>I x'/\μ x'<μ x
   |y=> ∀E,out x y=some E->Q (y,E))): ∀ro cx,LW P ro cx (.loop body) (TI N (Zg7 (inv x0) t)):=by
 intro ro cx n s t' ht Q FI a w r;simp only [TI,Zg7,HD] at ht;subst ht
 replace FI:=VL.sat_needT FI
 have hQ:=FI.2;have r:=FU (GC FI.1) (hok x0) (DG r);refine TO μ (λx a w=>I x/\Rel cx (inv x) a w) ?_ ⟨h0,r⟩;rintro x a w ⟨hx,Z⟩;obtain ⟨x',zI⟩:=round Q hQ x hx;refine wpIn_mono (rA hG (hX cx) hP GQ body 0 (inv x) _ a w (λj cj hj sp hsp=>hL j cj hj sp (by simpa using hsp) ro cx) (Wt0 zI) Z) ?_
 rintro ex a₁ w₁ ⟨y,s',rfl,hq,hr'⟩;cases y with
 |pan v=>
  obtain ⟨E,hE,h1,h3⟩:=hq;exact ⟨.pan v,E,rfl,h1 E hE,FU (GC h3) (qN x _ E hE) (DG hr')⟩
 |x y=>
 cases y with
 |normal=>
  obtain ⟨⟨h1,h2⟩,h3⟩:=hq;exact ⟨x',h2,h1,FU (GC h3) (hok x') (DG hr')⟩
 |exit id=>
  obtain ⟨E,hE,h1,h3⟩:=hq;exact ⟨.x (.exit id),E,rfl,h1 E hE,FU (GC h3) (qN x _ E hE) (DG hr')⟩
 |ret=>
  obtain ⟨E,hE,h1,h3⟩:=hq;exact ⟨.x .ret,E,rfl,h1 E hE,FU (GC h3) (qN x _ E hE) (DG hr')⟩
theorem Step.app{e:UL}{id:Nat}(u:Value)(w:World)(hid: ¬e.live id):Step e (e.app id u) w w:=
 ⟨λb _ h=>⟨h,rfl⟩,λk hk=>⟨.inr hk,rfl,by
  have:k≠id:=λh=>hid (h▸hk);simp [UL.app,this]⟩,Am _⟩
def Wq5(sp:BG):HY:=λavs m nx sv=>match sp (avs.map (DB m 40)) with
 |some (ns,T,sz,n,g)=>some (.needT ns (.leaf (.row nx,(nx,.row T sz n g)::m,nx+1,sv)))
 |none=>none
theorem AR{P:Program}{f:FuncId}{sp:BG}(h:Enters P f/\ ∀avs ns T sz n g,sp avs=some (ns,T,sz,n,g)->(∀q∈ns,q)->D6 P f avs T sz n g):GA P f (Wq5 sp):=by
 refine ⟨h.1,?_⟩;intro avs m nx sv t ht Q hQ c w0 T e ds args w hE hB hm hl LO hxt Z;unfold Wq5 at ht;split at ht;rename_i ns T' sz n g hsp;cases ht;obtain ⟨hns,hq⟩:=VL.sat_needT hQ;have uY:=U2.map (DB m 40) (L7 hE hm 40) Z;have FF:=h.2 _ _ _ _ _ _ hsp (GC hns) e.view w _ (by
  rintro b (hb|⟨k,hb⟩);exact (hE.apart b hb).2;exact (hE.owned b k hb).2) (hE.glob.step (Step.view w)) (DR (RO hm 40) Z) uY
 refine FF.mono ?_;rintro en w' ⟨v,xs,rfl,hb,k1,k2,k3,k4⟩;obtain ⟨e',q1,q2,q3,q4,q5,q6,q7,q8⟩:=IO hE hB.size hm (λhlv=>Bf _ (hl _ hlv)) hb k1 k2 k3 k4;refine ⟨v,_,_,_,_,e',rfl,hq,q3,hB.trans (hb.mono hB.size),q6,λk hk=>?_,λb hT=>⟨(LO b hT).1,λhro=>?_⟩,hxt.step q2,q5⟩;rcases q7 k hk with hk|rfl;exact Nat.lt_succ_of_lt (hl k hk);exact Bk _;rcases q8 b hro with hro|hro;exact (LO b hT).2 hro;have:=(LO b hT).1;have:=hB.size;omega;cases ht
theorem VL.bind_sat{α β:Type}{f:α->VL β}{Q:β->Prop}: ∀{t:VL α},t.sat (λa=>(f a).sat Q)->(t.bind f).sat Q
 | .fail,h=>h.elim
 | .leaf a,h=>h
 | .need ps t,h=>⟨h.1,VL.bind_sat h.2⟩
 | .branch b t t',h=>⟨λhb=>VL.bind_sat (h.1 hb),λhb=>VL.bind_sat (h.2 hb)⟩
 | .may p t t',h=>⟨λhb=>VL.bind_sat (h.1 hb),VL.bind_sat h.2⟩
def Qd1(N:List (Pl×Nat×TypeId×Nat))(ET EF:St)(x:AV×GY×Nat×List (List AV)):VL Bool:=match x.1 with
 | .lit true=> .needT (BH (FY N {σ:=[],m:=x.2.1,nx:=x.2.2.1,sv:=x.2.2.2}) ET) (.leaf true)
 | .lit false=> .needT (BH (FY N {σ:=[],m:=x.2.1,nx:=x.2.2.1,sv:=x.2.2.2}) EF) (.leaf false)
 |_=> .fail
def inlT(P:Program)(G:List (Nat×Spec))(X:Ext)(L:List UF)(fn:Func)(c:Code)(avs:List AV)(m:GY)(nx:Nat)(sv:List (List AV))(N:List (Pl×Nat×TypeId×Nat))(ET EF:St):VL Bool:=
 (D3 P G X L c 0 {HN fn avs with m:=m,nx:=nx,sv:=sv}).bind λp=>match p.1 with
  | .exit _=> .fail
  |_=>match BO P p.2 fn.results.toList with
   |some r=>Qd1 N ET EF (r,p.2.m,p.2.nx,p.2.sv)
   |none=> .fail
theorem yP{P:Program}{fn:Func}{R:Ending->World->Prop}{M:Nat->Prop}{w0:World}{e:UL}{s:St}{tmps:Array Value}{n:Nat}{J:World->Prop}(hB: ∀D,M D->w0.heap.size<=D)
  (hJ: ∀w D,M D->w.heap[D]? =some (.deferred (some []))->J w->J (w.putObj D (.deferred none)))
  (fin: ∀w',G4 e w0.heap.size w'->Below w0.heap.size w0 w'->UU e s.m w'->U2 e w' s.σ tmps.toList->J w'-> ∃v,(results fn tmps).run P w'= .ok v w'/\R (.returned v) w'):
  ∀(ds:List Deferred) (w:World),SD M e w ds->G4 e w0.heap.size w->Below w0.heap.size w0 w->UU e s.m w->U2 e w s.σ tmps.toList->J w->LeavesInM (fr none) n P fn tmps R ds .returning w
 |[],w,_,hE,hb,hm,hs,hj=>fin w hE hb hm hs hj
 |d::ds,w,hd,hE,hb,hm,hs,hj=>by
  obtain ⟨D,h1,h2,h3,h4,h5⟩:=hd.1 d GB;refine ⟨VS,.inl ⟨D,_,by rw [h1],run_takeDeferred h4,?_⟩⟩
  have H6:=(hE.apart D h2).1;have hsz:(w.putObj D (.deferred none)).heap.size=w.heap.size:=World.putObj_size;refine yP hB hJ fin ds _ ⟨λd' hd'=>?_,(List.nodup_cons.1 hd.2).2⟩ ⟨λb hb=>by rw [hsz];exact hE.apart b hb,λb k hk=>by rw [hsz];exact hE.owned b k hk,TZ hE.glob h4 rfl⟩ ?_ (λp A=>(hm p A).putObj h4 (λ_ _ h=>by cases h) rfl rfl H6) (hs.sameCells hsz (BB h4 rfl rfl) (qH h4 (λ_ _ h=>by cases h))) (hJ _ _ h5 h4 hj)
  obtain ⟨D',k1,k2,k3,k4,k5⟩:=hd.1 d' (HI _ hd');have hne:D'≠D:=by
   rintro rfl;exact (List.nodup_cons.1 hd.2).1 (by rw [h1,←k1];exact hd')
  exact ⟨D',k1,k2,by rw [hsz];exact k3,(Bu hne).trans k4,k5⟩
  exact hb.trans ((Below.refl w0.heap.size w).grown (grownBy_putObj' w D _) (by have:=hb.size;have:=hB D h5;omega) (λk he=>by cases he;exact hB D h5))
def Xc8(P:Program)(f:FuncId)(avs:List AV)(m:GY)(nx:Nat)(sv:List (List AV))(ET EF:St)(b:Bool):Prop:=
 ∀(c:Cx) (w0:World) (T:Nat->Prop) (e:UL) (args:List Value) (w:World),
 G4 e w0.heap.size w->Below w0.heap.size w0 w->UU e m w->(∀k,e.live k->k<nx)->(∀b,T b->b<w0.heap.size/\ ¬e.ro b)->Xt c e sv [] w->c.sz=w.heap.size->U2 e w avs args->
  Calls P f args.toArray w λen w'=>en= .returned (.bool b)/\ ∃e',G4 e' w0.heap.size w'/\Below w0.heap.size w0 w'/\UU e' (cond b ET EF).m w'/\(∀k,e'.live k->k<(cond b ET EF).nx)/\
   (∀b,T b->b<w0.heap.size/\ ¬e'.ro b)/\Xt c e' (cond b ET EF).sv [] w'
theorem Qo7{P:Program}{G:List (Nat×Spec)}{X:Ext}{L:List UF}{f:FuncId}{fn:Func}{c:Code}(hG:VJ P G)(hX: ∀cx,VV P X cx)(GQ:P.follows .mixedOrders=true)(hf:P.funcs[f]? =some fn)(hb:fn.body=some c)
  (hL: ∀j cj,VQ c j=some cj-> ∀sp,L[j]? =some sp->HP P cj sp){avs:List AV}{m:GY}{nx:Nat}{sv:List (List AV)}{N:List (Pl×Nat×TypeId×Nat)}{ET EF:St}{b:Bool}{t:VL Bool}
  (hT:okB ET=true)(hF:okB EF=true)(gT:ET.gh=none)(gF:EF.gh=none)(ht:inlT P G X L fn c avs m nx sv N ET EF=t)(FI:t.sat λr=>r=b):Xc8 P f avs m nx sv ET EF b:=by
 subst ht;intro cx w0 T e args w hE hB hm hl LO hxt hsz Z
 let cx':Cx:={M:=λD=>w.heap.size<=D,Φ:=λg T' w'=>g=none/\T'=T/\w'=w0,K:=cx.K,saved:=cx.saved,sz:=w.heap.size}
 have Zq1:cx'.fun:=λ_ _ _ D _ _ h=>h;have yD:Rel cx' {HN fn avs with m:=m,nx:=nx,sv:=sv} {tmps:=args.toArray++Array.replicate (fn.ntmps-args.toArray.size) undef,defers:=[] } w:=by
  refine ⟨w0,T,e,⟨rfl,rfl,rfl⟩,hE,hB,hm,hl,LO,⟨⟨(λd hd=>by cases hd),By⟩,hxt.kept,hxt.saved,Am _⟩,?_⟩
  have ES:U2 e w (List.replicate (fn.ntmps-avs.length) .top) (List.replicate (fn.ntmps-avs.length) undef):=by
   refine ⟨VS,λi a v ha _=>?_⟩;have:=F1 ha;rw [List.mem_replicate] at this;rw [this.2];exact .top v
  have:=Z.append ES;simpa [HN,Z.1] using this
 have hb2:=VL.sat_bind FI;refine callsIn_wide (n:=0).1 (callsIn_of_wp_marks (F:=fr none) hf hb trivial (wpIn_mono (D8 hG (hX cx') GQ c 0 _ _ _ w (λj cj hj sp hsp=>hL j cj hj sp (by simpa using hsp) cx' Zq1) hb2 yD) ?_) rfl)
 rintro ex a' w' ⟨x,s',rfl,hs,w0',T',e',⟨hgh',rfl,rfl⟩,re⟩
 let J:World->Prop:=λw2=>w.heap.size<=w2.heap.size/\Xt {cx' with sz:=0} e' s'.sv [] w2
 have hJ: ∀w2 D,w.heap.size<=D->w2.heap[D]? =some (.deferred (some []))->J w2->J (w2.putObj D (.deferred none)):=by
  rintro w2 D hD h4 ⟨j0,j1,j2,j3,j4⟩;have rQ:(w2.putObj D (.deferred none)).heap.size=w2.heap.size:=World.putObj_size;refine ⟨by rw [rQ];exact j0,⟨⟨λd hd=>(by cases hd),By⟩,λb o hk=>?_,⟨j3.1,λi a v ha hv=>(j3.2 i a v ha hv).sameCells rQ (BB h4 rfl rfl) (qH h4 (λ_ _ h=>by cases h))⟩,Ao _⟩⟩
  obtain ⟨k1,k2,k3⟩:=j2 b o hk;have hlt:=(hxt.kept b o hk).2.1;exact ⟨k1,by rw [rQ];exact k2,(Bu VI).trans k3⟩
 have hJ0:J w':=⟨re.xt.size,⟨⟨λd hd=>(by cases hd),By⟩,re.xt.kept,re.xt.saved,Ao _⟩⟩
 have main:(match x with| .exit _=>False|_=> ∃r,BO P s' fn.results.toList=some r/\(Qd1 N ET EF (r,s'.m,s'.nx,s'.sv)).sat λr=>r=b):=by
  cases x with
  |exit i=>exact hs.elim
  |normal=>
   simp only at hs ⊢;split at hs;rename_i r hr';exact ⟨r,hr',hs⟩;exact hs.elim
  |ret=>
   simp only at hs ⊢;split at hs;rename_i r hr';exact ⟨r,hr',hs⟩;exact hs.elim
 have yF:(∃r,BO P s' fn.results.toList=some r/\(Qd1 N ET EF (r,s'.m,s'.nx,s'.sv)).sat λr=>r=b)->LeavesInM (fr none) 0 P fn a'.tmps (λen w'=>en= .returned (.bool b)/\ ∃e',G4 e' w0'.heap.size w'/\Below w0'.heap.size w0' w'/\UU e' (cond b ET EF).m w'/\(∀k,e'.live k->k<(cond b ET EF).nx)/\
   (∀b,T' b->b<w0'.heap.size/\ ¬e'.ro b)/\Xt cx e' (cond b ET EF).sv [] w') a'.defers .returning w':=by
  rintro ⟨r,F0,hq⟩;refine yP (M:=cx'.M) (s:=s') (J:=J) (λD hD=>Ar hB.size hD) hJ (λw2 q1 q2 q3 q4 q5=>?_) a'.defers w' re.xt.defers re.env re.below re.mem re.slots hJ0;obtain ⟨u,hu,GL⟩:=DK (P:=P) q3 q4 F0
  let c2:Cx:={M:=cx.M,Φ:=λg T'' w''=>g=none/\T''=T'/\w''=w0',K:=cx.K,saved:=cx.saved,sz:=cx.sz}
  have Jj8:Rel c2 {σ:=[],m:=s'.m,nx:=s'.nx,sv:=s'.sv} {tmps:=#[],defers:=[] } w2:=
   ⟨w0',T',e',⟨rfl,rfl,rfl⟩,q1,q2,q3,re.live,re.foe,⟨⟨λd hd=>(by cases hd),By⟩,q5.2.kept,q5.2.saved,by show cx.sz<=_;rw [hsz];exact q5.1⟩,U2.nil _ _⟩
  have hn:=DG (l:=N) Jj8;have fin: ∀E:St,Rel c2 E {tmps:=#[],defers:=[] } w2-> ∃e',G4 e' w0'.heap.size w2/\Below w0'.heap.size w0' w2/\UU e' E.m w2/\(∀k,e'.live k->k<E.nx)/\(∀b,T' b->b<w0'.heap.size/\ ¬e'.ro b)/\Xt cx e' E.sv [] w2:=by
   rintro E ⟨w0'',T'',e2,⟨_,rfl,rfl⟩,r⟩;exact ⟨e2,r.env,r.below,r.mem,r.live,r.foe,⟨r.xt.defers,r.xt.kept,r.xt.saved,r.xt.size⟩⟩
  refine ⟨u,hu,?_⟩;unfold Qd1 at hq;split at hq;rename_i h1;simp only at h1;subst h1;obtain ⟨q1,q2⟩:=VL.sat_needT hq;have q2:true=b:=q2;subst q2;exact ⟨by rw [GL.lit_inv],fin ET (FU (GC q1) hT hn)⟩
  rename_i h1;simp only at h1;subst h1;obtain ⟨q1,q2⟩:=VL.sat_needT hq;have q2:false=b:=q2;subst q2;exact ⟨by rw [GL.lit_inv],fin EF (FU (GC q1) hF hn)⟩
  exact hq.elim
 cases x with
 |normal=>exact yF main
 |ret=>exact yF main
 |exit i=>exact main.elim
def Xv4(N:List (Pl×Nat×TypeId×Nat))(h:HY):HY:=λavs m nx sv=>
 h (FY N {σ:=avs,m:=m,nx:=nx,sv:=sv}).σ (FY N {σ:=avs,m:=m,nx:=nx,sv:=sv}).m (FY N {σ:=avs,m:=m,nx:=nx,sv:=sv}).nx (FY N {σ:=avs,m:=m,nx:=nx,sv:=sv}).sv
theorem e9{P:Program}{f:FuncId}{N:List (Pl×Nat×TypeId×Nat)}{h:HY}(hs:GA P f h):GA P f (Xv4 N h):=by
 refine ⟨hs.1,?_⟩;intro avs m nx sv t ht Q hQ c w0 T e ds args w hE hB hm hl LO hxt Z
 let c':Cx:={M:=c.M,Φ:=λg T' w'=>g=none/\T'=T/\w'=w0,K:=c.K,saved:=c.saved,sz:=c.sz}
 have yD:Rel c' {σ:=avs,m:=m,nx:=nx,sv:=sv} {tmps:=args.toArray,defers:=ds} w:=
  ⟨w0,T,e,⟨rfl,rfl,rfl⟩,hE,hB,hm,hl,LO,⟨hxt.defers,hxt.kept,hxt.saved,hxt.size⟩,by simpa using Z⟩
 obtain ⟨w0',T',e2,⟨_,rfl,rfl⟩,r⟩:=DG (l:=N) yD;exact hs.2 _ _ _ _ _ ht Q hQ c w0' T' e2 ds args w r.env r.below r.mem r.live r.foe ⟨r.xt.defers,r.xt.kept,r.xt.saved,r.xt.size⟩ (by simpa using r.slots)
def Zm0(D:TypeId):Value->Option Int
 | .iface T v=>match Nat.beq T D with
  |true=>match v with
   | .agg a=>match a.toList with
    |[.int .i64 k]=>some k
    |_=>none
   |_=>none
  |false=>none
 |_=>none
theorem Qm7{D:TypeId}{v:Value}{k:Int}(h:Zm0 D v=some k):v= .iface D (.agg #[.int .i64 k]):=by
 unfold Zm0 at h;split at h;split at h;rename_i hb;cases GX hb;split at h;rename_i a;split at h;rename_i k0 ha;cases h;have:a=#[Value.int .i64 k]:=Array.toList_inj.1 ha;rw [this];cases h;cases h;cases h;cases h
def Xm5(D:TypeId)(r:Bool×Int):Ending:=match r.1 with
 |true=> .returned (.tuple #[])
 |false=> .panicked [{v:= .iface D (.agg #[.int .i64 r.2]),recovered:=false}]
def dG(a b:AV):Prop:=match a,b with
 | .lst sz n f,.lst sz' n' f'=>sz=sz'/\n=n'/\ ∀i,i<n'->qR (f i) (f' i)/\ ∀x∈f' i,Idf x
 |a,b=>FD a b
def HA:List AV->List AV->Prop
 |[],[]=>True
 |a::l,b::m=>dG a b/\HA l m
 |_,_=>False
theorem eI{e:UL}{w:World}{a b:AV}{v:Value}(h:dG a b)(r:Rep e w a v):Rep e w b v:=by
 unfold dG at h;split at h;rename_i sz n f sz' n' f';obtain ⟨rfl,rfl,h⟩:=h;cases r with
 |lstNil=>exact .lstNil _ _
 |lst _ _ _ b o cap g h1 h2 h3 h4 h5 h6 h7 h8 ad had=>
  have key: ∀i,i<n->U2 e w (f' i) ((List.range sz).map (g i)):=by
   intro i O;refine kQ (h i O).1 ⟨by rw [h7 i O];simp,λj a v ha hv=>?_⟩
   have hj:j<sz:=by
    have:=(FT.1 ha).1
    rwa [h7 i O] at this
   rw [Bn,List.getElem?_range hj] at hv;simp only [Bt,HD] at hv;rw [←hv];exact h8 i j a O ha
  refine .lst sz n f' b o cap g h1 h2 (λi O=>(h i O).2) h4 h5 h6 (λi O=>by have:=(key i O).1;simpa using this) (λi j a O ha=>?_) ad had
  have hj:j<sz:=by
   have h9:=(key i O).1;have:=(FT.1 ha).1;simp at h9;omega
  exact (key i O).2 j a (g i j) ha (by rw [Bn,List.getElem?_range hj];rfl)
 exact RZ h r
theorem dF{e:UL}{w:World}: ∀{l m:List AV} {vs:List Value},HA l m->U2 e w l vs->U2 e w m vs
 |[],[],_,_,r=>r
 |a::l,b::m,vs,h,r=>by
  obtain ⟨v,vs',rfl,r1,r2⟩:=r.cons_inv;exact .cons (eI h.1 r1) (dF h.2 r2)
 |[],_::_,_,h,_=>h.elim
 |_::_,[],_,h,_=>h.elim
def Qr6(m:GY):GY->List Prop
 |[]=>[]
 |(id,r)::t=>match r with
  | .cells T l=>match DH m id with
   |some (.cells T' l')=>match Nat.beq T' T with
    |true=>HA l' l::Qr6 m t
    |false=>[False]
   |_=>[False]
  | .row T sz n f=>match DH m id with
   |some (.row T' sz' n' f')=>((T',sz',n',f')=(T,sz,n,f))::Qr6 m t
   |_=>[False]
  |_=>[False]
theorem aC{e:UL}{w:World}{m:GY}(hm:UU e m w): ∀{m':GY},(∀p∈Qr6 m m',p)->UU e m' w
 |[],_,p,A=>by cases A
 |(id,r)::t,h,p,A=>by
  unfold Qr6 at h;split at h;rename_i T l;split at h;rename_i T' l' hg;split at h;rename_i hT;rcases GM.1 A with rfl|A;have h1:T'=T:=GX hT;have h2:HA l' l:=h _ GB;subst h1;obtain ⟨g1,g2,vs,g3,g4⟩:=hm _ (UZ hg);exact ⟨g1,g2,vs,g3,dF h2 g4⟩;exact aC hm (m':=t) (λq hq=>h q (HI _ hq)) p A;exact (h False GB).elim;exact (h False GB).elim;rename_i T sz n f;split at h;rename_i T' sz' n' f' hg;rcases GM.1 A with rfl|A;have h2:(T',sz',n',f')=(T,sz,n,f):=h _ GB;cases h2;exact hm _ (UZ hg);exact aC hm (m':=t) (λq hq=>h q (HI _ hq)) p A;exact (h False GB).elim;exact (h False GB).elim
def Ws5(s E:St):List Prop:=match Nat.ble s.nx E.nx with
 |true=>(s.sv=E.sv)::Qr6 s.m E.m
 |false=>[False]
theorem Xl8{s E:St}(h: ∀p∈Ws5 s E,p):s.nx<=E.nx/\s.sv=E.sv/\ ∀p∈Qr6 s.m E.m,p:=by
 unfold Ws5 at h;split at h;rename_i hb;exact ⟨BK hb,h _ GB,λp A=>h p (HI _ A)⟩;exact (h False GB).elim
def Qd2(D:TypeId)(N:List (Pl×Nat×TypeId×Nat))(ET EF:St)(x:Xb1×GY×Nat×List (List AV)):VL (Bool×Int):=match x.1 with
 | .ret (.tup [])=> .needT (Ws5 (FY N {σ:=[],m:=x.2.1,nx:=x.2.2.1,sv:=x.2.2.2}) ET) (.leaf (true,0))
 | .pan v=>match Zm0 D v with
  |some k=> .needT (Ws5 {σ:=[],m:=x.2.1,nx:=x.2.2.1,sv:=x.2.2.2} EF) (.leaf (false,k))
  |none=> .fail
 |_=> .fail
def Ji9(P:Program)(G:List (Nat×Spec))(X:Ext)(PX:List (Nat×DY))(L:List PK)(fn:Func)(c:Code)(avs:List AV)(m:GY)(nx:Nat)(sv:List (List AV))(D:TypeId)(N:List (Pl×Nat×TypeId×Nat))(ET EF:St):VL (Bool×Int):=
 (P2 P G X PX L c 0 {HN fn avs with m:=m,nx:=nx,sv:=sv}).bind λp=>match p.1 with
  | .pan v=>Qd2 D N ET EF (.pan v,p.2.m,p.2.nx,p.2.sv)
  | .x (.exit _)=> .fail
  |_=>match BO P p.2 fn.results.toList with
   |some r=>Qd2 D N ET EF (.ret r,p.2.m,p.2.nx,p.2.sv)
   |none=> .fail
def wD(P:Program)(f:FuncId)(avs:List AV)(m:GY)(nx:Nat)(sv:List (List AV))(D:TypeId)(ET EF:St)(res:Bool×Int):Prop:=
 ∀(c:Cx) (w0:World) (T:Nat->Prop) (e:UL) (ds:List Deferred) (args:List Value) (w:World),
 G4 e w0.heap.size w->Below w0.heap.size w0 w->UU e m w->(∀k,e.live k->k<nx)->(∀b,T b->b<w0.heap.size/\ ¬e.ro b)->Xt c e sv ds w->U2 e w avs args->
  Calls P f args.toArray w λen w'=>en=Xm5 D res/\ ∃e',G4 e' w0.heap.size w'/\Below w0.heap.size w0 w'/\UU e' (cond res.1 ET EF).m w'/\(∀k,e'.live k->k<(cond res.1 ET EF).nx)/\
   (∀b,T b->b<w0.heap.size/\ ¬e'.ro b)/\Xt c e' (cond res.1 ET EF).sv ds w'
theorem Zm1{P:Program}{f:FuncId}{h:DY}(hs:D5 P f h){avs:List AV}{m:GY}{nx:Nat}{sv:List (List AV)}{t:VL (Xb1×GY×Nat×List (List AV))}{D:TypeId}{N:List (Pl×Nat×TypeId×Nat)}{ET EF:St}{res:Bool×Int}(ht:h avs m nx sv=some t)
  (FI:t.sat λx=>(Qd2 D N ET EF x).sat λr=>r=res):wD P f avs m nx sv D ET EF res:=by
 intro c w0 T e ds args w hE hB hm hl LO hxt Z;refine (hs.2 _ _ _ _ _ ht _ FI c w0 T e ds args w hE hB hm hl LO hxt Z).mono ?_;rintro en w' ⟨r,m',nx',sv',e',hpe,hq,g1,g2,g3,g4,g5,g6⟩
 let c':Cx:={M:=c.M,Φ:=λg T' w'=>g=none/\T'=T/\w'=w0,K:=c.K,saved:=c.saved,sz:=c.sz}
 have yD:Rel c' {σ:=[],m:=m',nx:=nx',sv:=sv'} {tmps:=#[],defers:=ds} w':=
  ⟨w0,T,e',⟨rfl,rfl,rfl⟩,g1,g2,g3,g4,g5,⟨g6.defers,g6.kept,g6.saved,g6.size⟩,U2.nil _ _⟩
 have fin: ∀S E:St,Rel c' S {tmps:=#[],defers:=ds} w'->(∀p∈Ws5 S E,p)-> ∃e',G4 e' w0.heap.size w'/\Below w0.heap.size w0 w'/\UU e' E.m w'/\(∀k,e'.live k->k<E.nx)/\(∀b,T b->b<w0.heap.size/\ ¬e'.ro b)/\Xt c e' E.sv ds w':=by
  rintro S E ⟨w0',T',e2,⟨_,rfl,rfl⟩,r⟩ hf;obtain ⟨h1,h2,h3⟩:=Xl8 hf;refine ⟨e2,r.env,r.below,aC r.mem h3,λk hk=>xP (r.live k hk) h1,r.foe,⟨r.xt.defers,r.xt.kept,?_,r.xt.size⟩⟩;rw [←h2];exact r.xt.saved
 unfold Qd2 at hq;split at hq;rename_i h1;simp only at h1;subst h1;obtain ⟨v,rfl,rv⟩:=hpe;obtain ⟨q1,q2⟩:=VL.sat_needT hq;have q2:(true,0)=res:=q2;subst q2;obtain ⟨us,rfl,hus⟩:=rv.tup_inv;obtain rfl:=hus.nil_inv;exact ⟨rfl,fin _ ET (DG (l:=N) yD) (GC q1)⟩;rename_i v h1;simp only at h1;subst h1;split at hq;rename_i k hk;obtain ⟨q1,q2⟩:=VL.sat_needT hq;have q2:(false,k)=res:=q2;subst q2;have hpe:en= .panicked [{v:=v,recovered:=false}]:=hpe;rw [hpe,Qm7 hk];exact ⟨rfl,fin _ EF yD (GC q1)⟩;exact hq.elim;exact hq.elim
theorem LG{P:Program}{G:List (Nat×Spec)}{X:Ext}{PX:List (Nat×DY)}{L:List PK}{f:FuncId}{fn:Func}{c:Code}(hG:VJ P G)(hX: ∀cx,VV P X cx)(hP:UT P PX)(GQ:P.follows .mixedOrders=true)(PC:Enters P f)(hf:P.funcs[f]? =some fn)(hb:fn.body=some c)
  (hL: ∀j cj,VQ c j=some cj-> ∀sp,L[j]? =some sp-> ∀ro cx,LW P ro cx cj sp){avs:List AV}{m:GY}{nx:Nat}{sv:List (List AV)}{D:TypeId}{N:List (Pl×Nat×TypeId×Nat)}{ET EF:St}{res:Bool×Int}{t:VL (Bool×Int)}
  (ht:Ji9 P G X PX L fn c avs m nx sv D N ET EF=t)(FI:t.sat λr=>r=res):wD P f avs m nx sv D ET EF res:=by
 subst ht;refine Zm1 (FQ hG hX hP GQ PC hf hb hL) (h:=rO P G X PX L fn c) (N:=N) rfl (VL.bind_sat (VL.sat_mono ?_ (VL.sat_bind FI)));rintro ⟨x,s⟩ h;cases x with
 |pan v=>exact h
 |x y=>
  cases y with
  |exit i=>exact h.elim
  |normal=>
   simp only at h ⊢;split at h;rename_i r Z;first|exact h|(rw [Z];exact h)|(simp only [Z];exact h)
   exact h.elim
  |ret=>
   simp only at h ⊢;split at h;rename_i r Z;first|exact h|(rw [Z];exact h)|(simp only [Z];exact h)
   exact h.elim
def Wm3(P:Program)(ev:Code->Nat->St->CT)(fn:Func)(c:Code):HY:=λavs m nx sv=>
 some ((ev c 0 {HN fn avs with m:=m,nx:=nx,sv:=sv}).bind λp=>match p.1 with
  | .exit _=> .fail
  |_=>match BO P p.2 fn.results.toList with
   |some r=> .leaf (r,p.2.m,p.2.nx,p.2.sv)
   |none=> .fail)
theorem oX{P:Program}{ev:Code->Nat->St->CT}{L:List UF}{f:FuncId}{fn:Func}{c:Code}(hev: ∀cx,tB P cx L ev)(PC:Enters P f)(hf:P.funcs[f]? =some fn)(hb:fn.body=some c)
  (hL: ∀j cj,VQ c j=some cj-> ∀sp,L[j]? =some sp->G0 P cj sp):GA P f (Wm3 P ev fn c):=by
 refine ⟨PC,?_⟩;intro avs m nx sv t ht Q hQ cx w0 T e ds args w hE hB hm hl LO hxt Z;unfold Wm3 at ht;cases ht
 let K':Nat->Obj->Prop:=λb o=>cx.K b o\/(∃d∈ds,d={target:= .collected b,args:=#[] }/\o= .deferred (some []))
 let cx':Cx:={M:=λ_=>False,Φ:=λg T' w'=>g=none/\T'=T/\w'=w0,K:=K',saved:=cx.saved,sz:=cx.sz}
 have FI:(ev c 0 {HN fn avs with m:=m,nx:=nx,sv:=sv}).sat (λp=>(∀i,p.1≠ .exit i)/\p.2.gh=p.2.gh/\ ∃r,BO P p.2 fn.results.toList=some r/\Q (r,p.2.m,p.2.nx,p.2.sv)):=by
  refine VL.sat_mono ?_ (VL.sat_bind hQ);rintro ⟨x,s⟩ hs;cases x with
  |exit i=>exact hs.elim
  |normal=>
   simp only at hs;split at hs;rename_i r Z;exact ⟨λi h=>(by cases h),rfl,r,Z,hs⟩
   exact hs.elim
  |ret=>
   simp only at hs;split at hs;rename_i r Z;exact ⟨λi h=>(by cases h),rfl,r,Z,hs⟩
   exact hs.elim
 have yD:Rel cx' {HN fn avs with m:=m,nx:=nx,sv:=sv} {tmps:=args.toArray++Array.replicate (fn.ntmps-args.toArray.size) undef,defers:=[] } w:=by
  refine ⟨w0,T,e,⟨rfl,rfl,rfl⟩,hE,hB,hm,hl,LO,⟨⟨(λd hd=>by cases hd),By⟩,?_,hxt.saved,hxt.size⟩,?_⟩
  rintro b o (hk|⟨d,hd,h1,rfl⟩);exact hxt.kept b o hk;obtain ⟨D,g1,g2,g3,g4,g5⟩:=hxt.defers.1 d hd;rw [h1] at g1;injection g1 with g1 _
  injection g1 with g1
  subst g1;exact ⟨g2,g3,g4⟩;have ES:U2 e w (List.replicate (fn.ntmps-avs.length) .top) (List.replicate (fn.ntmps-avs.length) undef):=by
   refine ⟨VS,λi a v ha _=>?_⟩;have:=F1 ha;rw [List.mem_replicate] at this;rw [this.2];exact .top v
  have:=Z.append ES;simpa [HN,Z.1] using this
 refine callsIn_wide (n:=0).1 (callsIn_of_wp_marks (F:=fr none) hf hb trivial (wpIn_mono (hev cx' none 0 c 0 _ _ _ w (λj cj hj sp hsp=>hL j cj hj sp (by simpa using hsp) none cx') FI yD) ?_) rfl)
 rintro ex a' w' ⟨x,s',rfl,⟨hx,_,r,F0,hq⟩,w0',T',e',⟨_,rfl,rfl⟩,re⟩;have Qp7:a'.defers=[]:=by
  cases hd:a'.defers with
  |nil=>rfl
  |cons d l=>
   obtain ⟨D,_,_,_,_,g5⟩:=re.xt.defers.1 d (by rw [hd];exact GB)
   exact g5.elim
 obtain ⟨u,hu,GL⟩:=DK (P:=P) re.mem re.slots F0;have yF:LeavesInM (fr none) 0 P fn a'.tmps (λen w'=> ∃v r m' nx' sv' e',en= .returned v/\Q (r,m',nx',sv')/\G4 e' w0'.heap.size w'/\Below w0'.heap.size w0' w'/\UU e' m' w'/\(∀k,e'.live k->k<nx')/\
   (∀b,T' b->b<w0'.heap.size/\ ¬e'.ro b)/\Xt cx e' sv' ds w'/\Rep e' w' r v) a'.defers .returning w':=by
  rw [Qp7];refine ⟨u,hu,u,r,s'.m,s'.nx,s'.sv,e',rfl,hq,re.env,re.below,re.mem,re.live,re.foe,⟨⟨λd hd=>?_,hxt.defers.2⟩,λb o hk=>re.xt.kept b o (.inl hk),re.xt.saved,re.xt.size⟩,GL⟩;obtain ⟨D,g1,g2,g3,g4,g5⟩:=hxt.defers.1 d hd;obtain ⟨k1,k2,k3⟩:=re.xt.kept D (.deferred (some [])) (.inr ⟨d,hd,g1,rfl⟩);exact ⟨D,g1,k1,k2,k3,g5⟩
 cases x with
 |normal=>exact yF
 |ret=>exact yF
 |exit i=>exact (hx i rfl).elim
def cOf(h:HY)(avs:List AV):VL AV:=match h avs [] 0 [] with
 |some t=>t.bind λx=> .leaf (DB x.2.1 40 x.1)
 |none=> .fail
theorem SL{P:Program}{f:FuncId}{h:HY}(hs:GA P f h){avs:List AV}{sp t:VL AV}(ht:cOf h avs=t)(yF: ∀Q:AV->Prop,sp.sat Q->t.sat (λr=> ∃r',dG r r'/\Q r')):UK P f avs sp:=by
 intro Q hQ e w args hro hgl FO Z
 let T:Nat->Prop:=λb=>b<w.heap.size/\ ¬e.ro b
 let e0:UL:={ro:=e.ro,own:=λ_=>none,live:=λ_=>False,blk:=λ_=>0,val:=λ_=> .nilIface}
 have hr0:U2 e0 w avs args:=⟨Z.1,λi a v ha hv=>Rep.idf (e:=e) (e':=e0) (λ_ h=>h) (Z.2 i a v ha hv) (FO a (F1 ha))⟩;have FI:=yF Q hQ;subst ht;unfold cOf at FI;split at FI;rename_i t0 hh;refine (hs.2 avs [] 0 [] t0 hh _ (VL.sat_bind FI) (lB w T) w T e0 [] args w ⟨λb hb=>⟨rfl,hro b hb⟩,(λb k hk=>by cases hk),hgl⟩ (Below.refl _ _) (λp A=>by cases A) (λk hk=>False.elim hk) (λb h=>h) ⟨⟨(λd hd=>by cases hd),By⟩,(λb o h=>h.elim),⟨rfl,(λi a v h=>by cases h)⟩,Ao _⟩ hr0).mono ?_
 rintro en w' ⟨v,r,m',nx',sv',e',rfl,⟨r',jY,hq⟩,g1,g2,g3,g4,g5,g6,g7⟩;refine ⟨v,r',rfl,hq,g2,?_⟩;refine eI jY (Rep.idf (e:=e'.view) ?_ (L7 g1 g3 40 r v g7) (RO g3 40 r v g7));rintro b (hb|⟨k,hb⟩);rcases An b w.heap.size with h1|h1;refine .inl ?_;rcases Classical.em (e.ro b) with h2|h2;exact h2;exact ((g5 b ⟨h1,h2⟩).2 hb).elim;exact .inr ⟨h1,(g1.apart b hb).2⟩;exact .inr ⟨(g1.owned b k hb).1,(g1.owned b k hb).2⟩;exact FI.elim
abbrev upE(l:List (Nat×AV))(m:GY)(E:St):St:={σ:=H5 l E.σ,m:=m,nx:=E.nx}
abbrev upM(l:List (Nat×AV))(E:St):St:={σ:=H5 l E.σ,m:=E.m,nx:=E.nx}
section
variable {P:Program}{f:FuncId}{fn:Func}
theorem UI(h:P.funcs[f]? =some fn)(h1:(fn.name== "runtime.NumGoroutine")=false:=by kernel_rfl)(h2:fn.body.isNone=false:=by kernel_rfl):Enters P f:=⟨fn,h,h1,h2⟩
abbrev UX:=Spec
theorem GV{avs:List AV}{res:AV}{t:VL RV}(hf:P.funcs[f]? =some fn)(ht:pN P fn.results.toList (lF P [] [] (U6 fn) 0 (HN fn avs))=t)(h:t.sat (λr=>UV r res))(hb:fn.body=some (U6 fn):=by kernel_rfl)(GQ:P.follows .mixedOrders=true:=by kernel_rfl):VW P f avs res:=U0 (VJ.nil _) GQ hf hb U1 ht h
end
abbrev GU{α:Type}(n:Nat)(f g:Nat->α):Prop:= ∀i,i<n->f i=g i
abbrev GO{α:Type}(n:Nat)(f:Nat->α):Prop:= ∀i,i<n->f i=f i
def bE(n:Nat):List Int:=List.replicate n 0
abbrev RH(n:Nat)(f:Ci):Prop:= ∀i,i<n-> ∀a,a∈f i->AV.one a=true
@[simp] abbrev UE (a b:Int):Prop:=0<=a/\a<b
theorem US(f:Func)(h:f.body=some (U6 f):=by kernel_rfl):f.body=some (U6 f):=h
theorem D2{α:Type}{T t:VL α}{Q:α->Prop}(e:T=t)(h:t.sat Q):T.sat Q:=e▸h
section
variable {p:Prop}
theorem yH(h:p:=by
 with_reducible repeat' first|apply Al|intro _
 all_goals first|exact Ak|exact h0|exact VR|omega|exact hQ1 _ (by assumption) (Wq1 VI (by simp_all))|(rename_i k hk;rcases (show k=0\/k=1\/k=2 by omega) with rfl|rfl|rfl<;>rfl)|rfl|with_reducible rfl|exact hQ2 _ (by assumption) (PL VI)|(rename_i h;exact absurd h (Aq _))|exact hQ1 _ (by assumption)|(exfalso;omega)|exact gE (by simp_all) _ (by assumption)|exact qL (gE (by simp_all) _ (by assumption))|contradiction|assumption|exact hQ2 _ (by assumption)|(simp;done)|decide|exact qL (gE (decide_eq_true VI) _ (by assumption))):p:=h
theorem P4(h:p:=by first|exact Ak|omega|with_reducible rfl|(rename_i E hE;cases hE;exact hQ)|rfl):p:=h
theorem YX(h:p:=by
 simp only [VL.sat,U9,UV,GJ,UB,UG,DX];all_goals exact yH):p:=h
theorem YZ(h:p:=by
 rw [if_pos hc];obtain ⟨rfl,rfl⟩:=hc;by_cases h1:x=o;subst h1;by_cases h2:y=x;subst h2;refine ⟨VI,VI,λ_=>VI,λ_=>VI,λ_ _=>VI,λ_=>VI⟩;refine ⟨VI,VI,λ_=>by have:=hoo.2.2.2.2.1 rfl rfl;omega,λh=>absurd h h2,λ_ h=>absurd h h2,λ_=>VI⟩
 by_cases h2:y=o;subst h2;refine ⟨VI,VI,λh=>absurd h h1,λ_=>by have:=hoo.2.2.2.2.1 rfl rfl;omega,λh=>absurd h h1,λ_=>VI⟩
 have q1:=hfo.2.2.2.1 rfl;have q2:=hot.2.2.1 rfl;refine ⟨VI,VI,λh=>absurd h h1,λh=>absurd h h2,λh=>absurd h h1,λ_=>VI⟩):p:=h
theorem V2(h:p:=by
 (with_reducible repeat' first|apply Al|intro _)
 all_goals first|exact P4|(first|(exfalso;rename_i h9;simp at h9;done))):p:=h
theorem V4(h:p:=by exact yH):p:=h
theorem V8(h:p:=by
 exact .lst _ _ _ λj hj x hx=>by
  simp only [GM,D7,or_false] at hx;rcases hx with rfl|rfl<;>exact .x _):p:=h
theorem V9(h:p:=by
 simp only [VL.sat,U9,UV,GJ,UB,UG,VK,DX]
 (with_reducible repeat' first|apply Al|intro _)
 all_goals first|exact Ak|(exfalso;rename_i h9;simp at h9;omega)|omega|(show ((1+1:Nat):Int)<=9223372036854775807;decide)|trace_state):p:=h
theorem VA(h:p:=by
 simp only [VL.sat,U9,UV,UB,UG,H4];simp+contextual):p:=h
theorem VB(h:p:=by
 simp only [VL.sat,U9,UV,GJ,UB,VK,UG];omega):p:=h
theorem VE(h:p:=by
 (with_reducible repeat' first|apply Al|intro _)
 all_goals first|exact P4|(rename_i j hj;rcases (show j<k\/j=k by omega) with h3|h3;exact hx.2 j h3;subst h3;omega)):p:=h
theorem VG(h:p:=by
 (with_reducible repeat' first|apply Al|intro _)
 all_goals first|exact P4|(rename_i hs;exact hs.elim (λh=>sn1 _ h) (λh=>h▸sn2))):p:=h
theorem VH(h:p:=by
 exact .lst _ _ _ λk _ x hx=>by
  simp only [GM,D7,or_false] at hx;rcases hx with rfl|rfl|rfl|rfl|rfl<;>exact .x _):p:=h
end
end Go.Sx
namespace Go.Proofs.YtakpdkmhclhlnaaGreatDoor
noncomputable abbrev VN:Go.Program:=Tryz.prog
abbrev Ad:=Go.Sx.VV.of (Go.Sx.VP.nil VN) (Go.Sx.VM.nil VN)
abbrev Aa:=Go.Sx.VJ.nil VN
abbrev Ab:=Go.Sx.VP.nil VN
abbrev Ac:=Go.Sx.VM.nil VN
abbrev Ae:=@Go.Sx.VJ.cons
abbrev Af:=@Go.Sx.VP.cons
abbrev Ag:=@Go.Sx.VM.cons
abbrev Ah:=@Go.Sx.UA.cons
abbrev Ai:=@Go.Sx.VV.of
abbrev Aj:=@Go.Sx.VV.ofC
end Go.Proofs.YtakpdkmhclhlnaaGreatDoor
namespace Go.Proofs.YtakpdkmhclhlnaaGreatDoor.Pt
open Go Go.Sx Go.RowKit
open Go.Sx.VL (need branch leaf)
open Go.Sx.AV (lst ptr agg roI tup top)
theorem VX:Tryz.prog.follows .mixedOrders=true:=VT
abbrev i(n:Int):AV:= .x (.int .i64 n)
abbrev iI(n:Int):AV:= .x (.int .i64 n)
abbrev bl(b:Bool):AV:= .x (.bool b)
def bt(U n O:Int):Bool:=decide (U<=n)&&decide (n<=O)
def insB(U a b O:Int):Bool:=decide (U<=a)&&decide (a<=b)&&decide (b<=O)
theorem insB_iff(U a b O:Int):insB U a b O=true↔U<=a/\a<=b/\b<=O:=by simp [insB,and_assoc]
def scB(a b:Int):Bool:=bt (-1000) a 1000&&bt (-1000) b 1000&&(a != b)
def BE:UX
 |[.x (.int .i64 n),.x (.int .i64 U),.x (.int .i64 O)]=>some ([],bl (bt U n O))
 |_=>none
theorem wN(n U O:Int):VW VN 190 [i n,i U,i O] (bl (bt U n O)):=by
 refine GV Tryz.func190 (t:=branch (decide (U<=n)) (leaf (RV.x (.bool (decide (n<=O))))) (leaf (RV.x (.bool false)))) VT ?_;simp only [VL.sat,U9,UV,GJ,UB,UG];all_goals (simp+contextual [bt,insB,scB,Bool.and_assoc]);all_goals omega
theorem RN:VO VN 190 BE:=by
 refine ⟨(UI Tryz.func190),?_⟩;intro avs ns Z h I;unfold BE at h;split at h;cases h;exact wN _ _ _;cases h
def BF:UX
 |[.agg [.x (.int .i64 a),.x (.int .i64 b)],.x (.int .i64 U),.x (.int .i64 O)]=>some ([],bl (insB U a b O))
 |_=>none
theorem x9(a b U O:Int):VW VN 153 [.agg [i a,i b],i U,i O] (bl (insB U a b O)):=by
 refine GV Tryz.func153 (t:=branch (decide (U<=a)) (branch (decide (a<=b)) (leaf (RV.x (.bool (decide (b<=O))))) (leaf (RV.x (.bool false)))) (leaf (RV.x (.bool false)))) VT ?_;simp only [VL.sat,U9,UV,GJ,UB,UG];all_goals (simp+contextual [bt,insB,scB,Bool.and_assoc]);all_goals omega
theorem PV:VO VN 153 BF:=by
 refine ⟨(UI Tryz.func153),?_⟩;intro avs ns Z h I;unfold BF at h;split at h;cases h;exact x9 _ _ _ _;cases h
theorem mul_bd{x y X Y:Int}(hx: -X<=x/\x<=X)(hy: -Y<=y/\y<=Y): -(X*Y)<=x*y/\x*y<=X*Y:=by
 have h1:x.natAbs<=X.natAbs:=VI;have h2:y.natAbs<=Y.natAbs:=VI;have h3:(x*y).natAbs<=(X*Y).natAbs:=by rw [Int.natAbs_mul,Int.natAbs_mul];exact Nat.mul_le_mul h1 h2
 have h4:0<=X*Y:=Bz VI VI;omega
abbrev scs(n:Nat)(a b:Cg):AV:= .lst 2 n (λk=>[i (a k),i (b k)])
theorem isRec2(n:Nat)(a b:Cg):UH 2 n (λk=>[i (a k),i (b k)]):=λ_ _=>rfl
def col(j:Nat)(f:Ci):Cg:=λk=>Wm2 (f k) j
def AM(p q:Cg)(k:Nat):Bool:=bt 1 (p k) 2000&&(bt 1 (q k) 2000&&(decide (k=0)||(decide (p (k-1)<p k)&&decide (q (k-1)<q k))))
section
variable (n:Nat)
def xU(p q:Cg):Bool:=D4 (AM p q) n
abbrev QO(p:Cg)(q:Cg):AV:=lst 2 n λk=>[iI (p k),iI (q k)]
def Xd2(p q:Cg):St:={σ:=[QO n p q]++HH 10 [QO n p q,iI (n:Int)]++HH 42 [],m:=[],nx:=10}
noncomputable def Jv7:Code:=U7 (VQ (U6 Tryz.f152) 0)
def Wi3(p q:Cg)(k:Nat):St:=(upM [(13,i k)] (Xd2 n p q))
def vA(p q:Cg)(k:Nat):G6->Option St
 | .exit 0=>some (upM [] (Xd2 n p q))
 | .ret=>some (upM [(2,i 1)] (Xd2 n p q))
 |_=>none
def Jq2(p q:Cg):CT:= .branch (xU n p q) (.leaf (.exit 0,(vA n p q 0 (.exit 0)).getD (Xd2 n p q))) (.leaf (.ret,(vA n p q 0 .ret).getD (Xd2 n p q)))
def Xy4(p q:Cg):UF:=(HB (Wi3 n p q (0)) (Jq2 n p q))
abbrev JN(p:Cg)(q:Cg):Prop:=(QO n p q)=QO n p q
theorem Jc8(p q:Cg)(VR:n<=100000):G0 VN (.loop Jv7) (Xy4 n p q):=by
 refine HG (L:=[]) (Ae RN Aa) VX U1 (X:=Nat) (Wi3 n p q) (λk=>k<=n/\ ∀j,j<k->AM p q j=true) (λk=>n-k) (vA n p q) (x0:=0) ⟨VI,λj hj=>VI⟩ ?_ ?_ ?_;rintro k;kernel_rfl;rintro k y E h;unfold vA at h;split at h;cases h;kernel_rfl;cases h;kernel_rfl;cases h
 ·rintro Q hQ k hx;refine ⟨(k+1),?_⟩;(with_reducible refine D2 (t:=let A:=(need [JN n p q,VY (1:Int),JN n p q,VY (n:Int)] (leaf G6.ret));let W:=(need [VK ((k:Int)+1)] (need [JN n p q,JN n p q,VY (n:Int),(k:Int)+1=(↑(k+1):Int)] (leaf G6.normal)));(branch (decide ((k:Int)<(n:Int))) (need [UE k n] (branch (!bt (1:Int) (p k) (2000:Int)) A (branch (!bt (1:Int) (q k) (2000:Int)) A (branch (decide ((k:Int)>0)) (need [VK ((k:Int)-1)] (need [UE ((k:Int)-1) n] (branch (decide (p k<=p ((k:Int)-1).toNat)) A (need [VK ((k:Int)-1)] (need [UE ((k:Int)-1) n] (branch (decide (q k<=q ((k:Int)-1).toNat)) A W)))))) W)))) (need [JN n p q,JN n p q,VY (n:Int)] (leaf (G6.exit 0))))) VT ?_);simp only [Jq2,vA,VL.sat,GR] at hQ;have Wq1:k<n->AM p q k=false->xU n p q=false:=by
   intro h1 h2;rw [←Bool.not_eq_true];intro h3;have:=GK.1 h3 k h1;rw [h2] at this;cases this
  have gE:AM p q k=true-> ∀j,j<k+1->AM p q j=true:=by
   intro h1 j hj;rcases (show j<k\/j=k by omega) with h|rfl
   exact hx.2 j h;exact h1
  have PL: ¬k<n->xU n p q=true:=λh=>GK.2 (λj hj=>hx.2 j VI);have hQ1: ∀E,vA n p q k .ret=some E->xU n p q=false->Q (.ret,E):=by
   intro E hE hf;cases hE;exact hQ.2 hf
  have hQ2: ∀E,vA n p q k (.exit 0)=some E->xU n p q=true->Q (.exit 0,E):=by
   intro E hE hf;cases hE;exact hQ.1 hf
  have t1:((k:Int)-1).toNat=k-1:=VI;have hsb:AM p q k=(bt 1 (p k) 2000&&(bt 1 (q k) 2000&&(decide (k=0)||(decide (p (k-1)<p k)&&decide (q (k-1)<q k))))):=rfl
  simp only [VL.sat,U9,UG,H4,VK,DX,t1]
  with_reducible repeat' first|apply Al|intro _
  all_goals first|exact Ak|omega|exact hQ1 _ (by assumption) (Wq1 VI (by rw [hsb];grind))|exact hQ2 _ (by assumption) (PL VI)|exact gE (by rw [hsb];grind) _ (by assumption)
def tbE(p q:Cg):Int:=if 8<n then 3 else if n<2 then 1 else if xU n p q then 0 else 1
end
def Qf5:UX
 |[.lst 2 n f]=>some ([UH 2 n f,n<=100000],i (tbE n (col 0 f) (col 1 f)))
 |_=>none
abbrev K5:Value:=Value.int IntKind.i64 (0:Int)
theorem Wa1(n:Nat)(p q:Cg)(VR:n<=100000):VW VN 152 [scs n p q] (i (tbE n p q)):=by
 refine U0 (L:=[Xy4 n p q]) (Ae RN Aa) VX Tryz.func152 (US Tryz.f152) (UY (lpE (b:= .loop Jv7) VT<|Jc8 n p q VR)) (t:=let A:=(leaf (RV.x (.int .i64 (1:Int))));(branch (decide ((n:Int)>8)) (leaf (RV.x (.int .i64 (3:Int)))) (branch (decide ((n:Int)<2)) A (need [JN n p q,JN n p q,VY (n:Int),(0:Int)=((0:Nat):Int)] (branch (xU n p q) (leaf (RV.x (K5))) A))))) VT ?_
 simp only [VL.sat,U9,UV,UB,UG,H4,tbE,Int.natCast_zero];refine ⟨λh=>?_,λh=>⟨λh2=>?_,λh2=>⟨λh3=>?_,λh3=>?_⟩⟩⟩;simp [show 8<n by omega]
 simp [show ¬8<n by omega,show n<2 by omega]
 simp [show ¬8<n by omega,show ¬n<2 by omega,h3]
 simp [show ¬8<n by omega,show ¬n<2 by omega,h3]
theorem Wa0:VO VN 152 Qf5:=by
 refine ⟨(UI Tryz.func152),?_⟩;intro avs ns Z h I;unfold Qf5 at h;split at h;rename_i n f;cases h;have hr:UH 2 n f:=I _ VS;exact (Wa1 n (col 0 f) (col 1 f) (I _ VS)).same (.cons (.lst 2 n _ _ hr) .nil);cases h
def RR(n:Nat)(p:Cg)(x:Int):Nat:=GW (λk=>decide (x<=p (k+1))) (n-1)
def dV(p q:Cg)(x:Int)(k:Nat):Int:=q k+((q (k+1)-q k)*(x-p k)).tdiv (p (k+1)-p k)
def boilI(n:Nat)(p q:Cg)(x:Int):Int:=dV p q x (RR n p x)
theorem LP{n:Nat}{p q:Cg}(h:xU n p q=true){k:Nat}(hk:k<n):1<=p k/\p k<=2000/\1<=q k/\q k<=2000/\(k=0\/p (k-1)<p k/\q (k-1)<q k):=by
 have:=GK.1 h k hk;simp only [AM,bt,GT,Bl,kG] at this;omega
theorem AL{n:Nat}{p q:Cg}(h:xU n p q=true){j k:Nat}(hjk:j<=k)(hk:k<n):p j<=p k/\q j<=q k:=by
 induction k with
 |zero=>
      have:j=0:=VI;subst this;exact ⟨Int.le_refl _,Int.le_refl _⟩
 |succ k ih=>
  rcases (show j<=k\/j=k+1 by omega) with h1|rfl
  have:=ih h1 VI;have h2:=LP h hk;simp only [Bi] at h2;omega;exact ⟨Int.le_refl _,Int.le_refl _⟩
theorem Zh4{n:Nat}{p:Cg}{x:Int}(I:2<=n)(hx:x<=p (n-1)):RR n p x<n-1:=by
 obtain ⟨h1,h2,h3⟩:=F2 (λk=>decide (x<=p (k+1))) (n-1);unfold RR;rcases An (GW (λk=>decide (x<=p (k+1))) (n-1)) (n-1) with h|h
 exact h;have:=h2 (n-2) VI;rw [show n-2+1=n-1 by omega] at this
 simp at this;omega
theorem catF1{k j:Nat}{a:Cg}{x:Int}(h:j<k+1)(hx:x=a k):GD k (λk=>[i (a k)]) (U3 1 [i x]) j=[i (a j)]:=by
 have e:j-k=0:=VI;show H3 (decide (j<k)) [i (a j)] (U3 1 [i x] (j-k))=_;rw [e];by_cases hj:j<k;rw [show decide (j<k)=true by simp [hj]]
 rfl;have hk:j=k:=VI;rw [show decide (j<k)=false by simp [hj],hk,hx]
 rfl
theorem Jo4(a b:Cg):col 0 (λk=>[i (a k),i (b k)])=a:=rfl
theorem Jo3(a b:Cg):col 1 (λk=>[i (a k),i (b k)])=b:=rfl
theorem AT{n:Nat}{p q:Cg}{x:Int}(I:2<=n)(ht:xU n p q=true)(hx:p 0<=x/\x<=p (n-1)):RR n p x<n-1/\p (RR n p x)<=x/\x<=p (RR n p x+1):=by
 have h1:=Zh4 I hx.2;obtain ⟨f1,f2,f3⟩:=F2 (λk=>decide (x<=p (k+1))) (n-1);have h3:=f3 h1;refine ⟨h1,?_,qL h3⟩;rcases Nat.eq_zero_or_pos (RR n p x) with h|h;rw [h];exact hx.1;have:=f2 (RR n p x-1) (by unfold RR at h ⊢;omega)
 rw [show RR n p x-1+1=RR n p x by omega] at this
 simp at this;omega
theorem dU{p q:Cg}{x:Int}{k:Nat}(hp:p k<p (k+1))(hq:q k<q (k+1))(h1:p k<=x)(h2:x<=p (k+1)):dV p q x k=q k+(q (k+1)-q k)*(x-p k) / (p (k+1)-p k)/\q k<=dV p q x k/\dV p q x k<=q (k+1):=by
 have m0:0<=(q (k+1)-q k)*(x-p k):=Bz VI VI;have e:dV p q x k=q k+(q (k+1)-q k)*(x-p k) / (p (k+1)-p k):=by
  unfold dV;rw [Int.tdiv_eq_ediv_of_nonneg m0]
 have m1:(q (k+1)-q k)*(x-p k)<=(q (k+1)-q k)*(p (k+1)-p k):=Int.mul_le_mul_of_nonneg_left VI VI;have d0:0<=(q (k+1)-q k)*(x-p k) / (p (k+1)-p k):=Int.ediv_nonneg m0 VI;have d1:(q (k+1)-q k)*(x-p k) / (p (k+1)-p k)<=q (k+1)-q k:=Int.ediv_le_of_le_mul VI m1;rw [e];omega
theorem Wb1{n:Nat}{p:Cg}{x y:Int}(h:x<=y):RR n p x<=RR n p y:=by
 obtain ⟨f1,f2,f3⟩:=F2 (λk=>decide (x<=p (k+1))) (n-1);obtain ⟨g1,g2,g3⟩:=F2 (λk=>decide (y<=p (k+1))) (n-1);unfold RR;rcases An (GW (λk=>decide (y<=p (k+1))) (n-1)) (GW (λk=>decide (x<=p (k+1))) (n-1)) with hl|hl
 have a1:=f2 _ hl;have a2:=g3 VI;simp at a1 a2;omega;exact hl
theorem boil_spec{n:Nat}{p q:Cg}{x:Int}(I:2<=n)(ht:xU n p q=true)(hx:p 0<=x/\x<=p (n-1)):q 0<=boilI n p q x/\boilI n p q x<=q (n-1)/\1<=boilI n p q x/\boilI n p q x<=2000:=by
 obtain ⟨h1,h2,h3⟩:=AT I ht hx;have s:=LP ht (show RR n p x+1<n by omega)
 simp only [Bi] at s;have b:=dU (p:=p) (q:=q) (x:=x) (k:=RR n p x) VI VI h2 h3;have m1:=AL ht (show 0<=RR n p x by omega) (show RR n p x<n by omega)
 have m2:=AL ht (show RR n p x+1<=n-1 by omega) (show n-1<n by omega)
 have z:=LP ht (show 0<n by omega)
 have z2:=LP ht (show n-1<n by omega)
 unfold boilI;omega
theorem boil_mono{n:Nat}{p q:Cg}{x y:Int}(I:2<=n)(ht:xU n p q=true)(hx:p 0<=x)(hxy:x<=y)(hy:y<=p (n-1)):boilI n p q x<=boilI n p q y:=by
 obtain ⟨h1,h2,h3⟩:=AT I ht (x:=x) VI;obtain ⟨g1,g2,g3⟩:=AT I ht (x:=y) VI;have s:=LP ht (show RR n p x+1<n by omega)
 have s':=LP ht (show RR n p y+1<n by omega)
 simp only [Bi] at s s';have b:=dU (p:=p) (q:=q) (x:=x) (k:=RR n p x) VI VI h2 h3;have b':=dU (p:=p) (q:=q) (x:=y) (k:=RR n p y) VI VI g2 g3;have hm:=Wb1 (n:=n) (p:=p) hxy;unfold boilI;rcases An (RR n p x) (RR n p y) with hl|hl;have m:=AL ht (show RR n p x+1<=RR n p y by omega) (show RR n p y<n by omega)
 omega;have e:RR n p x=RR n p y:=VI;rw [b.1,b'.1,e];rw [e] at s;have:=Int.ediv_le_ediv (show 0<p (RR n p y+1)-p (RR n p y) by omega) (Int.mul_le_mul_of_nonneg_left (show x-p (RR n p y)<=y-p (RR n p y) by omega) (show 0<=q (RR n p y+1)-q (RR n p y) by omega))
 omega
def aQ:UX
 |[.lst 2 n f]=>some ([],.fn (.func 225) [] [.ro [.lst 2 n f]])
 |_=>none
theorem Wa6(n:Nat)(f:Ci):FP VN 191 [.lst 2 n f] (.fn (.func 225) [] [.ro [.lst 2 n f]]):=by
 refine D1 (L:=[]) Aa Ad VX Tryz.func191 (US Tryz.f191) G7 (t:=leaf (AV.fn (Fn.func 225) [] [AV.ro [lst 2 n λa=>f a]])) VT ?_;exact rfl
theorem NC:PH VN 191 aQ:=by
 refine ⟨(UI Tryz.func191),?_⟩;intro avs ns Z h I;unfold aQ at h;split at h;cases h;exact Wa6 _ _;cases h
def stV(p q:Cg)(k:Nat):Value:= .agg #[.int .i64 (p k),.int .i64 (q k)]
def spV(p q:Cg)(k:Nat):List Value:=[stV p q k,stV p q (k+1)]
section
variable (l:Nat)
abbrev KS:AV:=AV.fn (Fn.yield l) [] []
def Xd3(n:Nat)(p q:Cg):St:={σ:=[KS l,AV.ro [QO n p q],top,top,top,top,lst 2 (n-(1:Int).toNat) λi=>[iI (p ((1:Int).toNat+i)),iI (q ((1:Int).toNat+i))],iI (↑(n-(1:Int).toNat):Int)]++HH 14 [],m:=[],nx:=4,gh:=some 0}
noncomputable def Zx7:Code:=U7 (VQ (U6 Tryz.f225) 0)
def TS(n:Nat)(p q:Cg)(k:Nat):St:={σ:=H5 [(8,i k)] (Xd3 l n p q).σ,m:=[],nx:=0,gh:=some (k) }
def jI(n:Nat)(p q:Cg)(k:Nat):G6->Option St
 | .exit 0=>some {σ:=H5 [] (Xd3 l n p q).σ,m:=[],nx:=0,gh:=some (n-1) }
 | .ret=>some {σ:=H5 [] (Xd3 l n p q).σ,m:=[],nx:=0,gh:=none}
 |_=>none
def Jq4(n:Nat)(p q:Cg):CT:= .may True (.leaf (.exit 0,(jI l n p q 0 (.exit 0)).getD (Xd3 l n p q))) (.leaf (.ret,(jI l n p q 0 .ret).getD (Xd3 l n p q)))
def Xy6(n:Nat)(p q:Cg):UF:=GI [] (HB (TS l n p q (0)) (Jq4 l n p q))
theorem Jd3(n:Nat)(p q:Cg)(VR:1<=n/\n<=100000){cx:Cx}(hX:VV VN {Y:=some (l,(n-1),(spV p q)) } cx):HK VN none cx (.loop Zx7) (Xy6 l n p q):=by
 refine FL [] (L:=[]) Aa hX VX G7 (V:=Nat) (TS l n p q) (λk=>k<=n-1) (λk=>n-k) (jI l n p q) (x0:=0) VS ?_ ?_ ?_;rintro k;kernel_rfl;rintro k y E h;unfold jI at h;split at h;cases h;kernel_rfl;cases h;kernel_rfl;cases h
 ·rintro Q hQ k hx;refine ⟨(k+1),?_⟩;have e:HW VN [] {Y:=some (l,(n-1),(spV p q)) } [] [] Zx7 (TS l n p q k) (TS l n p q ((k+1))) (jI l n p q k)=(let A:=(VY (lst 2 (n-(1:Int).toNat) λi=>[iI (p ((1:Int).toNat+i)),iI (q ((1:Int).toNat+i))]));let W:=(VY (↑(n-(1:Int).toNat):Int));(branch (decide ((k:Int)<(↑(n-(1:Int).toNat):Int))) (need [UE k (↑(n-(1:Int).toNat):Int)] (need [UE k n] (need [l=l,k<n-1,[Value.agg {toList:=[Value.int IntKind.i64 (p k),Value.int IntKind.i64 (q k)] },Value.agg {toList:=[Value.int IntKind.i64 (p ((1:Int).toNat+k)),Value.int IntKind.i64 (q ((1:Int).toNat+k))] }]=[Value.agg {toList:=[Value.int IntKind.i64 (p k),Value.int IntKind.i64 (q k)] },Value.agg {toList:=[Value.int IntKind.i64 (p (k+1)),Value.int IntKind.i64 (q (k+1))] }]] (VL.may True (need [VK ((k:Int)+1)] (need [KS l=KS l,VY (AV.ro [QO n p q]),A,W,(k:Int)+1=(↑(k+1):Int),k+1=k+1] (leaf G6.normal))) (need [KS l=KS l,VY (AV.ro [QO n p q]),A,W] (leaf G6.ret)))))) (need [KS l=KS l,VY (AV.ro [QO n p q]),A,W,k=n-1] (leaf (G6.exit 0))))):=VT;rw [e];simp only [Jq4,jI,VL.sat,GR] at hQ;have hQ1: ∀E,jI l n p q k (.exit 0)=some E->Q (.exit 0,E):=λE hE=>by cases hE;exact hQ.1 trivial
  have hQ2: ∀E,jI l n p q k .ret=some E->Q (.ret,E):=λE hE=>by cases hE;exact hQ.2
  have t1:(1:Int).toNat=1:=rfl;have t2:1+k=k+1:=VI;simp only [VL.sat,U9,UG,H4,VK,DX,t1,t2];clear e hQ;all_goals exact V4
end
section
variable (n:Nat)
theorem nC(p q:Cg)(VR:1<=n/\n<=100000):BD Tryz.prog 225 [.ro [scs n p q]] ((n-1)) (spV p q):=by
 refine BN (L:=λl=>[Xy6 l n p q]) Aa VX (UI Tryz.func225) Tryz.func225 (US Tryz.f225) VT (λl cx hX=>UY (lpE (b:= .loop Zx7) VT<|Jd3 l n p q VR hX)) (t:=λl=>(need [(0:Int)<=1/\(1:Int)<=(n:Int)/\(n:Int)<=(n:Int)] (need [VY (AV.fn (Fn.yield l) [] []),VY (AV.ro [QO n p q]),VY (lst 2 (n-(1:Int).toNat) λi=>[iI (p ((1:Int).toNat+i)),iI (q ((1:Int).toNat+i))]),VY (↑(n-(1:Int).toNat):Int),(0:Int)=((0:Nat):Int),0=0] (VL.may True (need [n-1=n-1] (leaf PUnit.unit)) (leaf PUnit.unit))))) (λl=>VT) ?_
 intro l;simp only [VL.sat,U9,UV,GJ,UB,VK,UG,H4,FE];all_goals exact V4
abbrev JX(p:Cg)(q:Cg):AV:=AV.fn (Fn.func 225) [] [AV.ro [QO n p q]]
def tE(p q:Cg)(y:Int):St:={σ:=[QO n p q,iI y,top,ptr 0 0,ptr 1 0,top,top,top,JX n p q]++HH 25 [],m:=[(1,GN.cells 3 [iI 0]),(0,GN.cells 3 [iI y])],nx:=4}
def rfF:Option Code->Operand
 |some (.rangeFunc f _ _ _)=>f
 |_=> .const .nilFunc
def jF:Option Code->Array Nat
 |some (.rangeFunc _ ps _ _)=>ps
 |_=>#[]
def SS:Option Code->Code
 |some (.rangeFunc _ _ a _)=>a
 |_=> .skip
def SR:Option Code->Code
 |some (.rangeFunc _ _ _ b)=>b
 |_=> .skip
noncomputable def Zy5:Code:=SS (VQ (U6 Tryz.f154) 0)
noncomputable def Qu6:Code:=SR (VQ (U6 Tryz.f154) 0)
def vJ(p q:Cg)(y:Int)(k:Nat):St:=(upM [] (tE n p q y))
def PS(p q:Cg)(y:Int)(k:Nat):G6->Option St
 | .ret=>some (upE [] [(1,.cells 3 [i (boilI n p q y)])] (tE n p q y))
 |_=>none
def Wy2(p q:Cg)(y:Int):CT:= .leaf (.ret,(PS n p q y 0 .ret).getD (tE n p q y))
def mN(p q:Cg)(y:Int):UF:=GI [] (HB (vJ n p q y (0)) (Wy2 n p q y))
abbrev YT:Ext:={R:=[(191,aQ)],H:=[] }
theorem Jo9(p q:Cg)(y:Int)(VR:2<=n/\n<=100000)(UD:xU n p q=true)(HF: -100000<=y/\y<=p (n-1)):HP VN (.rangeFunc (rfF (VQ (U6 Tryz.f154) 0)) (jF (VQ (U6 Tryz.f154) 0)) Zy5 Qu6) (mN n p q y):=by
 refine P9 [] (L:=[]) Aa (Ai (Af NC Ab) Ac) VX U1 (V:=Nat) (vJ n p q y) (λk=>k<=n-1/\ ∀j,j<k->decide (y<=p (j+1))=false) (λk=>k) (PS n p q y) (x0:=0) ⟨VI,λj hj=>VI⟩ rfl ?_ ?_ ?_ ?_ (g:=225) (caps:=[.ro [scs n p q]]) VT VT (nC n p q VI) (λ_=>rfl) ?_;rintro k;kernel_rfl;rintro k y E h;unfold PS at h;split at h;cases h;kernel_rfl;cases h;rintro k;rfl;rintro k y E h;unfold PS at h;split at h;cases h;rfl;cases h;rintro Q hQ k hx;refine ⟨λhlt=>⟨(k+1),rfl,?_⟩,λPL=>?_⟩;have e:AW VN [] YT [] [] (jF (VQ (U6 Tryz.f154) 0)).toList ((spV p q) (k)) Zy5 Qu6 (vJ n p q y k) (vJ n p q y ((k+1))) (PS n p q y k)=(branch (decide (y<=p (k+1))) (need [VK (q (k+1)-q k)] (need [VK (y-p k)] (need [VK ((q (k+1)-q k)*(y-p k))] (need [VK (p (k+1)-p k)] (need [p (k+1)-p k≠0,VK (Int.tdiv ((q (k+1)-q k)*(y-p k)) (p (k+1)-p k))] (need [VK (q k+Int.tdiv ((q (k+1)-q k)*(y-p k)) (p (k+1)-p k))] (need [JN n p q,y=y,VY (ptr 0 0),VY (ptr 1 0),VY (JX n p q),q k+Int.tdiv ((q (k+1)-q k)*(y-p k)) (p (k+1)-p k)=boilI n p q y] (leaf G6.ret)))))))) (need [JN n p q,y=y,VY (ptr 0 0),VY (ptr 1 0),VY (JX n p q),VY (0:Int),y=y] (leaf G6.normal))):=VT;rw [e];simp only [Wy2,PS,VL.sat,GR] at hQ;have hQ2: ∀E,PS n p q y k .ret=some E->Q (.ret,E):=λE hE=>by cases hE;exact hQ
 simp only [VL.sat,U9,UG,H4,VK];clear e hQ;have sl:=LP UD (show n-1<n by omega)
 have s0:=LP UD (show k<n by omega)
 have s1:=LP UD (show k+1<n by omega)
 simp only [Bi] at s1;have m:=mul_bd (x:=q (k+1)-q k) (y:=y-p k) (X:=2000) (Y:=200000) VI VI;have dv:(((q (k+1)-q k)*(y-p k)).tdiv (p (k+1)-p k)).natAbs<=((q (k+1)-q k)*(y-p k)).natAbs:=by
  rw [Int.natAbs_tdiv];exact Nat.div_le_self _ _
 refine ⟨λh=>?_,λh=>?_⟩
 ·have hf:RR n p y=k:=zJ hlt (by simpa using h) hx.2
  have hbo:boilI n p q y=q k+((q (k+1)-q k)*(y-p k)).tdiv (p (k+1)-p k):=by unfold boilI;rw [hf];rfl
  rw [hbo];all_goals exact V4
 refine ⟨VI,λj hj=>?_⟩;rcases (show j<k\/j=k by omega) with h1|rfl
 have:=hx.2 j h1;simpa using this;exact h;exfalso;have:=hx.2 (n-2) VI;rw [show n-2+1=n-1 by omega] at this
 simp at this;omega
theorem Xn7(p q:Cg)(y:Int)(VR:2<=n/\n<=100000)(UD:xU n p q=true)(HF: -100000<=y/\y<=p (n-1)):VW VN 154 [scs n p q,i y] (i (boilI n p q y)):=by
 refine G8 (L:=[mN n p q y]) Aa (Ai (Af NC Ab) Ac) VX Tryz.func154 (US Tryz.f154) (UY (lpE (b:= .rangeFunc (rfF (VQ (U6 Tryz.f154) 0)) (jF (VQ (U6 Tryz.f154) 0)) Zy5 Qu6) VT<|Jo9 n p q y VR UD HF)) (t:=need [JN n p q,y=y,VY (ptr 0 0),VY (ptr 1 0),VY (JX n p q),VY (0:Int),y=y] (leaf (RV.x (.int .i64 (boilI n p q y))))) VT ?_
 simp only [VL.sat,U9,UV,GJ,UB,VK,UG];all_goals first|omega|grind
end
def Wy9:UX
 |[.lst 2 n f,.x (.int .i64 y)]=>some ([UH 2 n f,2<=n/\n<=100000,xU n (col 0 f) (col 1 f)=true,-100000<=y/\y<=col 0 f (n-1)],i (boilI n (col 0 f) (col 1 f) y))
 |_=>none
theorem Xn6:VO VN 154 Wy9:=by
 refine ⟨(UI Tryz.func154),?_⟩;intro avs ns Z h I;unfold Wy9 at h;split at h;rename_i n f y;cases h;have hr:UH 2 n f:=I _ VS;exact (Xn7 n (col 0 f) (col 1 f) y (I _ VS) (I _ VS) (I _ VS)).same (.cons (.lst 2 n _ _ hr) (.cons (.refl _) .nil));cases h
section
variable (n:Nat)(p q:Cg)(U O:Int)
def blE:Int:=if tbE n p q=0 then (if insB (p 0) U O (p (n-1)) then 0 else 2) else tbE n p q
def blLo:Int:=if blE n p q U O=0 then boilI n p q U else 0
def blHi:Int:=if blE n p q U O=0 then boilI n p q O else 0
end
theorem Qz9{n:Nat}{p q:Cg}(h:tbE n p q=0):2<=n/\n<=8/\xU n p q=true:=by
 unfold tbE at h;split at h;omega;split at h;omega;split at h;rename_i h3;exact ⟨VI,VI,h3⟩;omega
theorem Xe3(n:Nat)(p q:Cg)(U O:Int)(VR:n<=100000):VW VN 116 [scs n p q,.agg [i U,i O]] (.tup [.agg [i (blLo n p q U O),i (blHi n p q U O)],i (blE n p q U O)]):=by
 refine U0 (L:=[]) (Ae Wa0 (Ae PV (Ae Xn6 Aa))) VX Tryz.func116 (US Tryz.f116) U1 (t:=need [UH 2 n λk=>[i (p k),i (q k)],n<=100000] (branch (tbE n p q != 0) (leaf (RV.tup [RV.agg [RV.x (K5),RV.x (K5)],RV.x (.int .i64 (tbE n p q))])) (need [UE 0 n] (need [VK ((n:Int)-1)] (need [UE ((n:Int)-1) n] (branch (!insB (p (0:Int).toNat) U O (p ((n:Int)-1).toNat)) (leaf (RV.tup [RV.agg [RV.x (K5),RV.x (K5)],RV.x (.int .i64 (2:Int))])) (need [UH 2 n λk=>[i (p k),i (q k)],2<=n/\n<=100000,xU n p q=true,(-100000:Int)<=U/\U<=p (n-1)] (need [UH 2 n λk=>[i (p k),i (q k)],2<=n/\n<=100000,xU n p q=true,(-100000:Int)<=O/\O<=p (n-1)] (leaf (RV.tup [RV.agg [RV.x (.int .i64 (boilI n p q U)),RV.x (.int .i64 (boilI n p q O))],RV.x (K5)])))))))))) VT ?_;simp only [VL.sat,U9,UV,GJ,UB,UG,Jo4,Jo3,VK,show (0:Int).toNat=0 from rfl];refine ⟨⟨isRec2 n p q,VR⟩,λh=>?_,λh=>?_⟩;have h':tbE n p q≠0:=by simpa using h
 simp [blLo,blHi,blE,h'];have h':tbE n p q=0:=by simpa using h
 obtain ⟨t1,t2,t3⟩:=Qz9 h';have e1:((n:Int)-1).toNat=n-1:=VI;have s0:=LP t3 (show 0<n by omega)
 simp only [e1];refine ⟨VI,VI,VI,λh2=>?_,λh2=>?_⟩;have h2':insB (p 0) U O (p (n-1))=false:=by simpa using h2
 simp [blLo,blHi,blE,h',h2'];have h2':insB (p 0) U O (p (n-1))=true:=by simpa using h2
 have b:=(insB_iff _ _ _ _).1 h2';refine ⟨⟨isRec2 n p q,VI,t3,VI⟩,⟨isRec2 n p q,VI,t3,VI⟩,?_⟩;simp [blLo,blHi,blE,h',h2']
def Qh7:UX
 |[.lst 2 n f,.agg [.x (.int .i64 U),.x (.int .i64 O)]]=>some ([UH 2 n f,n<=100000],.tup [.agg [i (blLo n (col 0 f) (col 1 f) U O),i (blHi n (col 0 f) (col 1 f) U O)],i (blE n (col 0 f) (col 1 f) U O)])
 |_=>none
theorem blE_ok{n:Nat}{p q:Cg}{U O:Int}(h:blE n p q U O=0):2<=n/\n<=8/\xU n p q=true/\p 0<=U/\U<=O/\O<=p (n-1):=by
 unfold blE at h;split at h;rename_i h1;obtain ⟨t1,t2,t3⟩:=Qz9 h1;split at h;rename_i h2;have:=(insB_iff _ _ _ _).1 h2;exact ⟨t1,t2,t3,this⟩;omega;contradiction
theorem Boils_ok:VO VN 116 Qh7:=by
 refine ⟨(UI Tryz.func116),?_⟩;intro avs ns Z h I;unfold Qh7 at h;split at h;rename_i n f U O;cases h;have hr:UH 2 n f:=I _ VS;exact (Xe3 n (col 0 f) (col 1 f) U O (I _ VS)).same (.cons (.lst 2 n _ _ hr) (.cons (.refl _) .nil));cases h
end Go.Proofs.YtakpdkmhclhlnaaGreatDoor.Pt
namespace Go.Proofs.YtakpdkmhclhlnaaGreatDoor.Bo
open Go Go.Sx Go.RowKit Go.ChangeShapes Go.WideShapes Go.ChangeAt
open Go.Sx.VL (need branch leaf)
open Go.Sx.AV (lst ptr agg roI tup top)
theorem VX:Tryz.prog.follows .mixedOrders=true:=VT
abbrev i(n:Int):AV:= .x (.int .i64 n)
abbrev iI(n:Int):AV:= .x (.int .i64 n)
abbrev bl(b:Bool):AV:= .x (.bool b)
def bt(U n O:Int):Bool:=decide (U<=n)&&decide (n<=O)
theorem bt_iff(U n O:Int):bt U n O=true↔U<=n/\n<=O:=by simp [bt]
def insB(U a b O:Int):Bool:=decide (U<=a)&&decide (a<=b)&&decide (b<=O)
theorem insB_iff(U a b O:Int):insB U a b O=true↔U<=a/\a<=b/\b<=O:=by simp [insB,and_assoc]
def qA(c T U O:Int):Bool:=bt 1 c 10&&insB 1 U O 200&&bt 1 T 2000&&bt (c*U) T (c*O)
def rdB(c a b u v:Int):Bool:=bt 0 a (c-1)&&bt a b c&&insB 0 u v 2000
def BE:UX
 |[.x (.int .i64 n),.x (.int .i64 U),.x (.int .i64 O)]=>some ([],bl (bt U n O))
 |_=>none
abbrev YG:Value:=Value.bool false
theorem wN(n U O:Int):VW VN 155 [i n,i U,i O] (bl (bt U n O)):=by
 refine GV Tryz.func155 (t:=branch (decide (U<=n)) (leaf (RV.x (.bool (decide (n<=O))))) (leaf (RV.x (YG)))) VT ?_;simp only [VL.sat,U9,UV,GJ,UB,UG];all_goals (simp+contextual [bt,insB,Bool.and_assoc]);all_goals omega
theorem RN:VO VN 155 BE:=by
 refine ⟨(UI Tryz.func155),?_⟩;intro avs ns Z h I;unfold BE at h;split at h;cases h;exact wN _ _ _;cases h
def BF:UX
 |[.agg [.x (.int .i64 a),.x (.int .i64 b)],.x (.int .i64 U),.x (.int .i64 O)]=>some ([],bl (insB U a b O))
 |_=>none
theorem x9(a b U O:Int):VW VN 156 [.agg [i a,i b],i U,i O] (bl (insB U a b O)):=by
 refine GV Tryz.func156 (t:=branch (decide (U<=a)) (branch (decide (a<=b)) (leaf (RV.x (.bool (decide (b<=O))))) (leaf (RV.x (YG)))) (leaf (RV.x (YG)))) VT ?_;simp only [VL.sat,U9,UV,GJ,UB,UG];all_goals (simp+contextual [bt,insB,Bool.and_assoc]);all_goals omega
theorem PV:VO VN 156 BF:=by
 refine ⟨(UI Tryz.func156),?_⟩;intro avs ns Z h I;unfold BF at h;split at h;cases h;exact x9 _ _ _ _;cases h
theorem mul_bd{x y X Y:Int}(hx: -X<=x/\x<=X)(hy: -Y<=y/\y<=Y): -(X*Y)<=x*y/\x*y<=X*Y:=by
 have h1:=Bz (show 0<=X-x by omega) (show 0<=Y-y by omega)
 have h2:=Bz (show 0<=X+x by omega) (show 0<=Y+y by omega)
 have h3:=Bz (show 0<=X-x by omega) (show 0<=Y+y by omega)
 have h4:=Bz (show 0<=X+x by omega) (show 0<=Y-y by omega)
 rw [Int.sub_mul,Int.mul_sub,Int.mul_sub] at h1;rw [Int.add_mul,Int.mul_add,Int.mul_add] at h2;rw [Int.sub_mul,Int.mul_add,Int.mul_add] at h3;rw [Int.add_mul,Int.mul_sub,Int.mul_sub] at h4;omega
def rC:UX
 |[.agg [.x (.int .i64 c),.x (.int .i64 T),.x (.int .i64 U),.x (.int .i64 O)]]=>some ([],i (if qA c T U O then 0 else 1))
 |_=>none
abbrev JR:Value:=Value.int IntKind.i64 (0:Int)
abbrev Y9:Value:=Value.int IntKind.i64 (1:Int)
theorem bA(c T U O:Int):VW VN 117 [.agg [i c,i T,i U,i O]] (i (if qA c T U O then 0 else 1)):=by
 refine U0 (L:=[]) (Ae RN (Ae PV Aa)) VX Tryz.func117 (US Tryz.f117) U1 (t:=branch (!bt (1:Int) c (10:Int)) (leaf (RV.x (Y9))) (branch (!insB (1:Int) U O (200:Int)) (leaf (RV.x (Y9))) (branch (!bt (1:Int) T (2000:Int)) (leaf (RV.x (Y9))) (need [VK (c*U)] (need [VK (c*O)] (branch (!bt (c*U) T (c*O)) (leaf (RV.x (Y9))) (leaf (RV.x (JR))))))))) VT ?_;simp only [VL.sat,U9,UV,UB,UG,VK,qA];rcases Bool.eq_false_or_eq_true (bt 1 c 10) with h1|h1
 rotate_left
 simp [h1];rcases Bool.eq_false_or_eq_true (insB 1 U O 200) with h2|h2
 rotate_left
 simp [h1,h2];rcases Bool.eq_false_or_eq_true (bt 1 T 2000) with h3|h3
 rotate_left
 simp [h1,h2,h3];have e1:=(bt_iff _ _ _).1 h1;have e2:=(insB_iff _ _ _ _).1 h2;have m1:=mul_bd (x:=c) (y:=U) (X:=10) (Y:=200) VI VI;have m2:=mul_bd (x:=c) (y:=O) (X:=10) (Y:=200) VI VI;rcases Bool.eq_false_or_eq_true (bt (c*U) T (c*O)) with h4|h4<;>simp [h1,h2,h3,h4]<;>omega
theorem CheckTube_ok:VO VN 117 rC:=by
 refine ⟨(UI Tryz.func117),?_⟩;intro avs ns Z h I;unfold rC at h;split at h;cases h;exact bA _ _ _ _;cases h
def S0:UX
 |[.agg [.x (.int .i64 c),.x (.int .i64 T),.x (.int .i64 U),.x (.int .i64 O)],.agg [.x (.int .i64 a),.x (.int .i64 b),.x (.int .i64 u),.x (.int .i64 v)]]=>some ([1<=c/\c<=10],bl (rdB c a b u v))
 |_=>none
theorem nO(c T U O a b u v:Int)(VR:1<=c/\c<=10):VW VN 192 [.agg [i c,i T,i U,i O],.agg [i a,i b,i u,i v]] (bl (rdB c a b u v)):=by
 refine U0 (L:=[]) (Ae RN (Ae PV Aa)) VX Tryz.func192 (US Tryz.f192) U1 (t:=need [VK (c-1)] (branch (bt (0:Int) a (c-1)) (branch (bt a b c) (leaf (RV.x (.bool (insB (0:Int) u v (2000:Int))))) (leaf (RV.x (YG)))) (leaf (RV.x (YG))))) VT ?_;simp only [VL.sat,U9,UV,UB,UG,VK,rdB];refine ⟨VI,?_⟩;cases h1:bt 0 a (c-1)<;>cases h2:bt a b c<;>cases h3:insB 0 u v 2000<;>simp
theorem nN:VO VN 192 S0:=by
 refine ⟨(UI Tryz.func192),?_⟩;intro avs ns Z h I;unfold S0 at h;split at h;cases h;exact nO _ _ _ _ _ _ _ _ (I _ VS);cases h
open Go Go.Sx Go.RowKit
theorem Xg5(a b:Int):VW VN 135 [.lst 1 2 (λk=>[i (if k=0 then a else b)])] (i (min a b)):=by
 refine U0 (L:=[λs=>some (xT Tryz.prog [] [] (U7 (VQ (U6 Tryz.f135) 0)) 3 s)]) Aa VX Tryz.func135 (US Tryz.f135) (UY (lpE (b:= .loop (U7 (VQ (U6 Tryz.f135) 0))) VT<|L8 Aa VX U1 _)) (t:=let A:=(min (if (0:Int).toNat=0 then a else b) (if (1:Int).toNat=0 then a else b));(branch (decide (((2:Nat):Int)<1)) VL.fail (need [UE 0 2] (branch (decide ((1:Int)<((2:Nat):Int))) (need [UE 1 2] (need [VK ((1:Int)+1)] (branch (decide ((1:Int)+1<((2:Nat):Int))) (need [(0:Int)<=1+1/\(1:Int)+1<((2:Nat):Int)] (need [VK ((1:Int)+1+1)] (branch (decide ((1:Int)+1+1<((2:Nat):Int))) (need [(0:Int)<=1+1+1/\(1:Int)+1+1<((2:Nat):Int)] (need [VK ((1:Int)+1+1+1)] VL.fail)) (leaf (RV.x (.int .i64 (min A (if ((1:Int)+1).toNat=0 then a else b)))))))) (leaf (RV.x (.int .i64 A)))))) (leaf (RV.x (.int .i64 (if (0:Int).toNat=0 then a else b)))))))) VT ?_
 simp [VL.sat,U9,UV,GJ,UB,VK]
theorem Xg6(a b:Int):VW VN 136 [.lst 1 2 (λk=>[i (if k=0 then a else b)])] (i (max a b)):=by
 refine U0 (L:=[λs=>some (xT Tryz.prog [] [] (U7 (VQ (U6 Tryz.f136) 0)) 3 s)]) Aa VX Tryz.func136 (US Tryz.f136) (UY (lpE (b:= .loop (U7 (VQ (U6 Tryz.f136) 0))) VT<|L8 Aa VX U1 _)) (t:=let A:=(max (if (0:Int).toNat=0 then a else b) (if (1:Int).toNat=0 then a else b));(branch (decide (((2:Nat):Int)<1)) VL.fail (need [UE 0 2] (branch (decide ((1:Int)<((2:Nat):Int))) (need [UE 1 2] (need [VK ((1:Int)+1)] (branch (decide ((1:Int)+1<((2:Nat):Int))) (need [(0:Int)<=1+1/\(1:Int)+1<((2:Nat):Int)] (need [VK ((1:Int)+1+1)] (branch (decide ((1:Int)+1+1<((2:Nat):Int))) (need [(0:Int)<=1+1+1/\(1:Int)+1+1<((2:Nat):Int)] (need [VK ((1:Int)+1+1+1)] VL.fail)) (leaf (RV.x (.int .i64 (max A (if ((1:Int)+1).toNat=0 then a else b)))))))) (leaf (RV.x (.int .i64 A)))))) (leaf (RV.x (.int .i64 (if (0:Int).toNat=0 then a else b)))))))) VT ?_
 simp [VL.sat,U9,UV,GJ,UB,VK]
def kH:UX
 |[.lst 1 2 f]=>(match f 0,f 1 with
  |[.x (.int .i64 a)],[.x (.int .i64 b)]=>some ([],i (min a b))
  |_,_=>none)
 |_=>none
theorem SQ:VO VN 135 kH:=by
 refine ⟨(UI Tryz.func135),?_⟩;intro avs ns Z h I;unfold kH at h;split at h;rename_i f;split at h;rename_i a b h0 h1;cases h;refine (Xg5 a b).same (.cons (.lst 1 2 _ _ ?_) .nil);intro k hk;rcases (show k=0\/k=1 by omega) with rfl|rfl
 exact h0;exact h1;cases h;cases h
def dX:UX
 |[.lst 1 2 f]=>(match f 0,f 1 with
  |[.x (.int .i64 a)],[.x (.int .i64 b)]=>some ([],i (max a b))
  |_,_=>none)
 |_=>none
theorem tQ:VO VN 136 dX:=by
 refine ⟨(UI Tryz.func136),?_⟩;intro avs ns Z h I;unfold dX at h;split at h;rename_i f;split at h;rename_i a b h0 h1;cases h;refine (Xg6 a b).same (.cons (.lst 1 2 _ _ ?_) .nil);intro k hk;rcases (show k=0\/k=1 by omega) with rfl|rfl
 exact h0;exact h1;cases h;cases h
theorem Wg6(a b:Int):VW VN 228 [.lst 1 2 (λk=>[i (if k=0 then a else b)])] (i (min a b)):=by
 refine U0 (L:=[]) (Ae SQ Aa) VX Tryz.func228 (US Tryz.f228) U1 (t:=leaf (RV.x (.int .i64 (min (if 0=0 then a else b) (if 1=0 then a else b))))) VT ?_
 simp [VL.sat,UV,UB]
def A7:UX:=kH
theorem LS:VO VN 228 A7:=by
 refine ⟨(UI Tryz.func228),?_⟩;intro avs ns Z h I;unfold A7 kH at h;split at h;rename_i f;split at h;rename_i a b h0 h1;cases h;refine (Wg6 a b).same (.cons (.lst 1 2 _ _ ?_) .nil);intro k hk;rcases (show k=0\/k=1 by omega) with rfl|rfl
 exact h0;exact h1;cases h;cases h
theorem iS(a b:Int):VW VN 251 [.lst 1 2 (λk=>[i (if k=0 then a else b)])] (i (max a b)):=by
 refine U0 (L:=[]) (Ae tQ Aa) VX Tryz.func251 (US Tryz.f251) U1 (t:=leaf (RV.x (.int .i64 (max (if 0=0 then a else b) (if 1=0 then a else b))))) VT ?_
 simp [VL.sat,UV,UB]
def M7:UX:=dX
theorem fV:VO VN 251 M7:=by
 refine ⟨(UI Tryz.func251),?_⟩;intro avs ns Z h I;unfold M7 dX at h;split at h;rename_i f;split at h;rename_i a b h0 h1;cases h;refine (iS a b).same (.cons (.lst 1 2 _ _ ?_) .nil);intro k hk;rcases (show k=0\/k=1 by omega) with rfl|rfl
 exact h0;exact h1;cases h;cases h
noncomputable def Qj6:HY:=dJ Tryz.prog [(228,A7)] {} [] Tryz.f194 (U6 Tryz.f194)
abbrev JA:List (Nat×UX):=[(228,A7)]
theorem LI:GA VN 194 Qj6:=
 FZ (G:=JA) (X:={}) (L:=[]) (Ae LS Aa) Ad VX (UI Tryz.func194) Tryz.func194 (US Tryz.f194) U1
def UC(c T U O:Int)(M:Nat->Cg)(k:Nat):Int:=if k=0 then c else if k=1 then T else if k=2 then U else if k=3 then O else M ((k-4) / 11) ((k-4)%11)
section
variable (M:Nat->Cg)(a b:Nat)(v:Int)
def wT:Nat->Cg:=λx y=>if x=a/\y=b then v else M x y
def bnd:Nat->Cg:=wT M a b (min (M a b) v)
end
def ini(c:Nat)(k j:Nat):Nat->Cg:=λx y=>if ((x<k/\y<=c)\/(x=k/\y<j))/\x≠y then 2000 else 0
theorem Wa9(c T U O:Int)(cc:Nat): ∀k,U8 (c::T::U::O::List.replicate 121 0) k=UC c T U O (ini cc 0 0) k:=by
 intro k;rcases k with _|_|_|_|k;rfl;rfl;rfl;rfl;have h:U8 (c::T::U::O::List.replicate 121 0) (k+4)=U8 (List.replicate 121 0) k:=rfl;rw [h,gP (by decide)]
 simp [UC,ini]
theorem GH(q:Nat)(v:Int)(f:Cg):j6 q [v] f=UR q v f:=rfl
section
variable (c T U O:Int)
theorem qB(M:Nat->Cg){a b q:Nat}(hq:q=4+a*11+b)(hb:b<11):UC c T U O M q=M a b:=by
 unfold UC;rw [if_neg VI,if_neg VI,if_neg VI,if_neg VI,show (q-4) / 11=a by omega,show (q-4)%11=b by omega]
theorem yW{M M':Nat->Cg}(h: ∀x y,x<11->y<11->M x y=M' x y){k:Nat}(hk:k<125):UC c T U O M k=UC c T U O M' k:=by
 unfold UC;split;rfl;split;rfl;split;rfl;split;rfl;exact h _ _ VI VI
theorem c8(M:Nat->Cg){a b q:Nat}(hq:q=4+a*11+b)(hb:b<11)(v:Int)(k:Nat):UR q v (UC c T U O M) k=UC c T U O (wT M a b v) k:=by
 unfold UR;by_cases hk:k=q;rw [if_pos hk,qB _ _ _ _ _ (hk.trans hq) hb];simp [wT];rw [if_neg hk];unfold UC;by_cases h0:k=0;rw [if_pos h0,if_pos h0];by_cases h1:k=1;rw [if_neg h0,if_neg h0,if_pos h1,if_pos h1];by_cases h2:k=2;rw [if_neg h0,if_neg h0,if_neg h1,if_neg h1,if_pos h2,if_pos h2];by_cases h3:k=3;rw [if_neg h0,if_neg h0,if_neg h1,if_neg h1,if_neg h2,if_neg h2,if_pos h3,if_pos h3];rw [if_neg h0,if_neg h0,if_neg h1,if_neg h1,if_neg h2,if_neg h2,if_neg h3,if_neg h3];unfold wT;rw [if_neg VI]
end
theorem Wm4(c k j:Nat)(hj:j<=c)(h:k≠j)(x y:Nat):wT (ini c k j) k j 2000 x y=ini c k (j+1) x y:=by
 unfold wT ini;split;rename_i hxy;rw [if_pos ⟨.inr VI,VI⟩];rename_i hxy;by_cases h1:((x<k/\y<=c)\/(x=k/\y<j))/\x≠y;rw [if_pos h1,if_pos VI];rw [if_neg h1,if_neg VI]
theorem Wm5(c k:Nat)(x y:Nat):ini c k k x y=ini c k (k+1) x y:=by
 unfold ini;by_cases h1:((x<k/\y<=c)\/(x=k/\y<k))/\x≠y;rw [if_pos h1,if_pos VI];rw [if_neg h1,if_neg VI]
theorem Xj5(c k:Nat)(x y:Nat):ini c k (c+1) x y=ini c (k+1) 0 x y:=by
 unfold ini;by_cases h1:((x<k/\y<=c)\/(x=k/\y<c+1))/\x≠y;rw [if_pos h1,if_pos VI];rw [if_neg h1,if_neg VI]
abbrev rds(n:Nat)(a b u v:Cg):AV:= .lst 4 n (λk=>[i (a k),i (b k),i (u k),i (v k)])
abbrev QU:AV:=AV.x (.pointer none)
abbrev XB(n:Nat)(a:Cg)(b:Cg)(u:Cg)(v:Cg):AV:=lst 4 n λk=>[iI (a k),iI (b k),iI (u k),iI (v k)]
section
variable (c:Nat)(T U O:Int)(n:Nat)(a b u v:Cg)
def Zv2:St:={σ:=[agg [iI (c:Int),iI T,iI U,iI O],XB n a b u v,ptr 0 0,top,QU,AV.lit false,ptr 5 0]++HH 15 [iI ((c:Int)+1)]++HH 155 [],m:=[(5,GN.ints 301 [] 125 λa=>U8 ([(c:Int),T,U,O]++bE 121) a),(0,GN.cells 49 [iI (c:Int),iI T,iI U,iI O])],nx:=11}
noncomputable def Zx9:Code:=U7 (VQ (U6 Tryz.f158) 0)
def Wj2(k:Nat):St:=(upE [(23,i k)] [(5,.ints 301 [] 125 (UC c T U O (ini c k 0))),(0,.cells 49 [i c,i T,i U,i O])] (Zv2 c T U O n a b u v))
def CH(k:Nat):G6->Option St
 | .exit 0=>some (upE [(23,i ((c:Int)+1))] [(5,.ints 301 [] 125 (UC c T U O (ini c (c+1) 0))),(0,.cells 49 [i c,i T,i U,i O])] (Zv2 c T U O n a b u v))
 |_=>none
def Jr2:CT:= .leaf (.exit 0,(CH c T U O n a b u v 0 (.exit 0)).getD (Zv2 c T U O n a b u v))
def Xz4:UF:=GI [] (HB (Wj2 c T U O n a b u v (0)) (Jr2 c T U O n a b u v))
def Zv1(k:Nat):St:={σ:=[agg [iI (c:Int),iI T,iI U,iI O],XB n a b u v,ptr 0 0,top,QU,AV.lit false,ptr 5 0,iI (k:Int)]++HH 14 [iI ((c:Int)+1),iI (k:Int),top,top,top,top,iI ((c:Int)+1)]++HH 149 [],m:=[(5,GN.ints 301 [] 125 λk_1=>UC (c:Int) T U O (ini c k 0) k_1),(0,GN.cells 49 [iI (c:Int),iI T,iI U,iI O])],nx:=18}
noncomputable def Jw4:Code:=(U7 (VQ (U7 (VQ (U6 Tryz.f158) 0)) 0))
def Wj1(k:Nat)(j:Nat):St:=(upE [(29,i j)] [(5,.ints 301 [] 125 (UC c T U O (ini c k j))),(0,.cells 49 [i c,i T,i U,i O])] (Zv1 c T U O n a b u v k))
def CG(k:Nat)(j:Nat):G6->Option St
 | .exit 2=>some (upE [(29,i ((c:Int)+1))] [(5,.ints 301 [] 125 (UC c T U O (ini c k (c+1)))),(0,.cells 49 [i c,i T,i U,i O])] (Zv1 c T U O n a b u v k))
 |_=>none
def Jr1(k:Nat):CT:= .leaf (.exit 2,(CG c T U O n a b u v k 0 (.exit 2)).getD (Zv1 c T U O n a b u v k))
def Xz3(k:Nat):UF:=GI [] (HB (Wj1 c T U O n a b u v k (0)) (Jr1 c T U O n a b u v k))
end
abbrev Q4(n:Nat)(a:Cg)(b:Cg)(u:Cg)(v:Cg):Prop:=(XB n a b u v)=lst 4 n λk=>[iI (a k),iI (b k),iI (u k),iI (v k)]
abbrev X6:Prop:=AV.lit false=AV.lit false
noncomputable abbrev XM:Ext:={R:=[],H:=[(194,Qj6)] }
abbrev XO:Prop:=ptr 0 0=ptr 0 0
abbrev XY:Prop:=ptr 5 0=ptr 5 0
section
variable (c:Nat)(T U O:Int)(n:Nat)(a b u v:Cg)
theorem Jg1(k:Nat)(VR:1<=c/\c<=10)(UD:1<=U/\U<=O/\O<=200/\1<=T/\T<=2000)(HF:k<=c):G0 VN (.loop Jw4) (Xz3 c T U O n a b u v k):=by
 refine UP [] (L:=[]) (Ae LS Aa) (Ai Ab (Ag LI Ac)) VX U1 (X:=Nat) (Wj1 c T U O n a b u v k) (λj=>j<=c+1) (λj=>c+1-j) (CG c T U O n a b u v k) (x0:=0) VS ?_ ?_ ?_;rintro j;kernel_rfl;rintro j y E h;unfold CG at h;split at h;cases h;kernel_rfl;cases h;rintro Q hQ j hx;refine ⟨(j+1),?_⟩;(with_reducible refine D2 (t:=let A:=(VY ((c:Int)+1));let W:=(VY (agg [iI (c:Int),iI T,iI U,iI O]));(branch (decide ((j:Int)<(c:Int)+1)) (branch ((k:Int) != (j:Int)) (need [UE k 11] (need [UE j 11] (need [j*1+(k*11+4)+1<=125] (need [VK ((j:Int)+1)] (need [W,Q4 n a b u v,XO,QU=QU,X6,XY,VY (k:Int),A,VY (k:Int),A,(j:Int)+1=(↑(j+1):Int),125=125,GU 125 (UR (j*1+(k*11+4)) (2000:Int) (UC (c:Int) T U O (ini c k j))) (UC (c:Int) T U O (ini c k (j+1))),VY (c:Int),T=T,U=U,O=O] (leaf G6.normal)))))) (need [VK ((j:Int)+1)] (need [W,Q4 n a b u v,XO,QU=QU,X6,XY,VY (k:Int),A,VY (k:Int),A,(j:Int)+1=(↑(j+1):Int),125=125,GU 125 (UC (c:Int) T U O (ini c k j)) (UC (c:Int) T U O (ini c k (j+1))),VY (c:Int),T=T,U=U,O=O] (leaf G6.normal)))) (need [W,Q4 n a b u v,XO,QU=QU,X6,XY,VY (k:Int),A,VY (k:Int),A,(j:Int)=(c:Int)+1,125=125,GU 125 (UC (c:Int) T U O (ini c k j)) (UC (c:Int) T U O (ini c k (c+1))),VY (c:Int),T=T,U=U,O=O] (leaf (G6.exit 2))))) VT ?_);simp only [Jr1,CG,VL.sat,GR] at hQ;simp only [VL.sat,U9,UV,GJ,UB,VK,UG,H4,FE,FJ,FR,GH,CG]
 refine ⟨λh=>⟨λhne=>?_,λheq=>?_⟩,λh=>?_⟩
 ·(with_reducible repeat' first|apply Al|intro _)
  all_goals first|exact P4|(exact (c8 c T U O _ VI VI _ _).trans (yW c T U O (λx y _ _=>Wm4 c k j VI VI x y) (by assumption)))
 ·obtain rfl:k=j:=VI
  (with_reducible repeat' first|apply Al|intro _)
  all_goals first|exact P4|(exact yW c T U O (λx y _ _=>Wm5 c k x y) (by assumption))
 ·obtain rfl:j=c+1:=VI
  (with_reducible repeat' first|apply Al|intro _)
  all_goals first|exact Ak|omega|with_reducible rfl|(rename_i E hE;cases hE;exact hQ)|rfl
theorem Jg2(VR:1<=c/\c<=10)(UD:1<=U/\U<=O/\O<=200/\1<=T/\T<=2000):G0 VN (.loop Zx9) (Xz4 c T U O n a b u v):=by
 refine UP [] (L:=[PP 7 (λk=>FH [k<=c] (Xz3 c T U O n a b u v k))]) (Ae LS Aa) (Ai Ab (Ag LI Ac)) VX (UY (λcj hcj=>by
  have e:VQ Zx9 0=some (.loop Jw4):=VT;rw [e] at hcj;cases hcj;exact RE (λk=>HU (λh=>Jg1 c T U O n a b u v k VR UD h)))) (X:=Nat) (Wj2 c T U O n a b u v) (λk=>k<=c+1) (λk=>c+1-k) (CH c T U O n a b u v) (x0:=0) VS ?_ ?_ ?_
 rintro k;kernel_rfl;rintro k y E h;unfold CH at h;split at h;cases h;kernel_rfl;cases h;rintro Q hQ k hx;refine ⟨(k+1),?_⟩;(with_reducible refine D2 (t:=let A:=(VY (agg [iI (c:Int),iI T,iI U,iI O]));let W:=(VY ((c:Int)+1));(branch (decide ((k:Int)<(c:Int)+1)) (need [VK ((c:Int)+1)] (need [k<=c] (need [A,Q4 n a b u v,XO,QU=QU,X6,XY,VY (k:Int),W,VY (k:Int),W,(0:Int)=((0:Nat):Int),125=125,GO 125 (UC (c:Int) T U O (ini c k 0)),VY (c:Int),T=T,U=U,O=O] (need [VK ((k:Int)+1)] (need [A,Q4 n a b u v,XO,QU=QU,X6,XY,W,(k:Int)+1=(↑(k+1):Int),125=125,GU 125 (UC (c:Int) T U O (ini c k (c+1))) (UC (c:Int) T U O (ini c (k+1) 0)),VY (c:Int),T=T,U=U,O=O] (leaf G6.normal)))))) (need [A,Q4 n a b u v,XO,QU=QU,X6,XY,W,(k:Int)=(c:Int)+1,125=125,GU 125 (UC (c:Int) T U O (ini c k 0)) (UC (c:Int) T U O (ini c (c+1) 0)),VY (c:Int),T=T,U=U,O=O] (leaf (G6.exit 0))))) VT ?_);simp only [Jr2,CH,VL.sat,GR] at hQ;simp only [VL.sat,U9,UV,GJ,UB,VK,UG,H4,FE,FJ,FR,GH,CH]
 refine ⟨λh=>?_,λh=>?_⟩
 ·(with_reducible repeat' first|apply Al|intro _)
  all_goals first|exact P4|(exact yW c T U O (λx y _ _=>Xj5 c k x y) (by assumption))
 ·obtain rfl:k=c+1:=VI
  (with_reducible repeat' first|apply Al|intro _)
  all_goals first|exact Ak|omega|with_reducible rfl|(rename_i E hE;cases hE;exact hQ)|rfl
end
def cel(c:Nat)(U O:Int):Nat->Nat->Nat->Int
 | 0=>ini c (c+1) 0
 |k+1=>bnd (bnd (cel c U O k) k (k+1) O) (k+1) k (-U)
theorem zQ{c T U O:Int}{M:Nat->Cg}{a b q:Nat}{v:Int}(hq:q=4+a*11+b)(hb:b<11):UR q (min (UC c T U O M q) v) (UC c T U O M)=UC c T U O (bnd M a b v):=by
 funext k;rw [c8 c T U O M hq hb,qB c T U O M hq hb];rfl
section
variable (c:Nat)(T U O:Int)(n:Nat)(a b u v:Cg)
def Zv0:St:={σ:=[agg [iI (c:Int),iI T,iI U,iI O],XB n a b u v,ptr 0 0,top,QU,AV.lit false,ptr 5 0]++HH 15 [iI ((c:Int)+1),iI ((c:Int)+1)]++HH 21 [iI (c:Int)]++HH 132 [],m:=[(5,GN.ints 301 [] 125 λk=>UC (c:Int) T U O (ini c (c+1) 0) k),(0,GN.cells 49 [iI (c:Int),iI T,iI U,iI O])],nx:=14}
noncomputable def Jw3:Code:=U7 (VQ (U6 Tryz.f158) 1)
def Wj0(k:Nat):St:=(upE [(46,i k)] [(5,.ints 301 [] 125 (UC c T U O (cel c U O k))),(0,.cells 49 [i c,i T,i U,i O])] (Zv0 c T U O n a b u v))
def CF(k:Nat):G6->Option St
 | .exit 4=>some (upE [(46,i c)] [(5,.ints 301 [] 125 (UC c T U O (cel c U O c))),(0,.cells 49 [i c,i T,i U,i O])] (Zv0 c T U O n a b u v))
 |_=>none
def Jr0:CT:= .leaf (.exit 4,(CF c T U O n a b u v 0 (.exit 4)).getD (Zv0 c T U O n a b u v))
def Xz2:UF:=GI [] (HB (Wj0 c T U O n a b u v (0)) (Jr0 c T U O n a b u v))
theorem Jg0(VR:1<=c/\c<=10)(UD:1<=U/\U<=O/\O<=200/\1<=T/\T<=2000):G0 VN (.loop Jw3) (Xz2 c T U O n a b u v):=by
 refine UP [] (L:=[]) (Ae LS Aa) (Ai Ab (Ag LI Ac)) VX U1 (X:=Nat) (Wj0 c T U O n a b u v) (λk=>k<=c) (λk=>c-k) (CF c T U O n a b u v) (x0:=0) VS ?_ ?_ ?_;rintro k;kernel_rfl;rintro k y E h;unfold CF at h;split at h;cases h;kernel_rfl;cases h;rintro Q hQ k hx;refine ⟨(k+1),?_⟩;(with_reducible refine D2 (t:=let A:=(UC (c:Int) T U O (cel c U O k) (((k:Int)+1).toNat*1+(k*11+4)));let W:=(UR (((k:Int)+1).toNat*1+(k*11+4)) (min A O) (UC (c:Int) T U O (cel c U O k)) (k*1+(((k:Int)+1).toNat*11+4)));let z2:=(VY ((c:Int)+1));(branch (decide ((k:Int)<(c:Int))) (need [VK ((k:Int)+1)] (need [UE k 11] (need [UE ((k:Int)+1) 11] (need [((k:Int)+1).toNat*1+(k*11+4)<125] (need [UE k 11] (need [UE ((k:Int)+1) 11] (need [((k:Int)+1).toNat*1+(k*11+4)+List.length [min A O]<=125] (need [VK ((k:Int)+1)] (need [VK (-U)] (need [UE ((k:Int)+1) 11] (need [UE k 11] (need [k*1+(((k:Int)+1).toNat*11+4)<125] (need [UE ((k:Int)+1) 11] (need [UE k 11] (need [k*1+(((k:Int)+1).toNat*11+4)+List.length [min W (-U)]<=125] (need [VK ((k:Int)+1)] (need [VY (agg [iI (c:Int),iI T,iI U,iI O]),Q4 n a b u v,XO,QU=QU,X6,XY,z2,z2,VY (c:Int),(k:Int)+1=(↑(k+1):Int),125=125,GU 125 (UR (k*1+(((k:Int)+1).toNat*11+4)) (min W (-U)) (j6 (((k:Int)+1).toNat*1+(k*11+4)) [min A O] (UC (c:Int) T U O (cel c U O k)))) (UC (c:Int) T U O (cel c U O (k+1))),VY (c:Int),T=T,U=U,O=O] (leaf G6.normal)))))))))))))))))) (need [VY (agg [iI (c:Int),iI T,iI U,iI O]),Q4 n a b u v,XO,QU=QU,X6,XY,z2,z2,VY (c:Int),(k:Int)=(c:Int),125=125,GU 125 (UC (c:Int) T U O (cel c U O k)) (UC (c:Int) T U O (cel c U O c)),VY (c:Int),T=T,U=U,O=O] (leaf (G6.exit 4))))) VT ?_);simp only [Jr0,CF,VL.sat,GR] at hQ;simp only [VL.sat,U9,UV,GJ,UB,VK,UG,H4,FE,FJ,FR,GH,CF]
 refine ⟨λh=>?_,λh=>?_⟩
 ·have h1: ∀M v,UR (((k:Int)+1).toNat*1+(k*11+4)) (min (UC c T U O M (((k:Int)+1).toNat*1+(k*11+4))) v) (UC c T U O M)=UC c T U O (bnd M k (k+1) v):=λM v=>zQ VI VI;have h2: ∀M v,UR (k*1+(((k:Int)+1).toNat*11+4)) (min (UC c T U O M (k*1+(((k:Int)+1).toNat*11+4))) v) (UC c T U O M)=UC c T U O (bnd M (k+1) k v):=λM v=>zQ VI VI;simp only [h1,h2]
  (with_reducible repeat' first|apply Al|intro _)
  all_goals first|exact Ak|omega|with_reducible rfl|(rename_i E hE;cases hE;exact hQ)|rfl
 ·obtain rfl:k=c:=VI
  (with_reducible repeat' first|apply Al|intro _)
  all_goals first|exact Ak|omega|with_reducible rfl|(rename_i E hE;cases hE;exact hQ)|rfl
end
def rdS(c:Nat)(M:Nat->Cg)(a b u v:Int):Nat->Cg:=if b<(c:Int) then bnd (bnd M a.toNat b.toNat v) (b+1).toNat a.toNat (-u-1) else bnd M a.toNat b.toNat v
def rdM(c:Nat)(T U O:Int)(a b u v:Cg):Nat->Nat->Nat->Int
 | 0=>bnd (bnd (cel c U O c) 0 c T) c 0 (-T)
 |j+1=>rdS c (rdM c T U O a b u v j) (a j) (b j) (u j) (v j)
def rdV(a b u v:Int):Value:= .agg #[.int .i64 a,.int .i64 b,.int .i64 u,.int .i64 v]
def sn(a b u v:Cg)(k:Nat)(x:Value):Prop:= ∃j,j<k/\x=rdV (a j) (b j) (u j) (v j)
def Ji5(x:Value):Prop:= ∃a b u v,x=rdV a b u v
theorem Wc2(a b u v:Int)(e:UL)(w:World):Rep e w (.agg [i a,i b,i u,i v]) (rdV a b u v):=
 Rep.aggL (U2.cons (.x _) (U2.cons (.x _) (U2.cons (.x _) (U2.one (.x _)))))
theorem Qn3(a b u v:Int):FA Tryz.prog 303 Ji5 (rdV a b u v) (.bool false):=by
 refine ⟨⟨145,4,(match Tryz.prog.underlying 145 with|some (.struct fs)=>fs|_=>#[]),VT,VT,?_,?_,?_⟩,by simp [Instr.sameBits,rdV]⟩
 intro b' w;kernel_rfl;rintro k' ⟨a',b',u',v',rfl⟩ w;refine ⟨a==a'&&(b==b'&&(u==u'&&(v==v'&&true)&&true)),xG (P:=Tryz.prog) (e:=PD w w) Op.maxDepth 145 (.agg [i a,i b,i u,i v]) (.agg [i a',i b',i u',i v']) _ _ _ VT (Wc2 ..) (Wc2 ..),λh=>?_⟩;simp only [Bool.and_true,GT,beq_iff_eq] at h;obtain ⟨rfl,rfl,rfl,rfl⟩:=h;rfl;intro w;kernel_rfl
theorem Xu9{a b u v:Cg}{k:Nat}{x:Value}(h:sn a b u v k x):Ji5 x:=by
 obtain ⟨j,_,h⟩:=h;exact ⟨_,_,_,_,h⟩
section
variable (M:Nat->Cg)(a b:Nat)(v:Int)
theorem wK(x y:Nat):bnd M a b v x y<=M x y:=by
 unfold bnd wT;split;rename_i h;rw [h.1,h.2];omega;omega
theorem aI:bnd M a b v a b<=v:=by
 unfold bnd wT;rw [if_pos ⟨rfl,rfl⟩];omega
end
theorem Wv5{M:Nat->Cg}{a b:Nat}{v:Int}(h:M a b<=v):bnd M a b v=M:=by
 funext x y;unfold bnd wT;split;rename_i h';rw [h'.1,h'.2];omega;rfl
section
variable (c:Nat)(M:Nat->Cg)(a b u v:Int)
theorem Zk9(x y:Nat):rdS c M a b u v x y<=M x y:=by
 unfold rdS;split;exact Bx (wK _ _ _ _ _ _) (wK _ _ _ _ _ _);exact wK _ _ _ _ _ _
theorem Zl1:rdS c M a b u v a.toNat b.toNat<=v/\(b<c->rdS c M a b u v (b+1).toNat a.toNat<= -u-1):=by
 unfold rdS;split;exact ⟨Bx (wK _ _ _ _ _ _) (aI _ _ _ _),λ_=>aI _ _ _ _⟩;exact ⟨aI _ _ _ _,λh=>VI⟩
end
theorem Zl0{c:Nat}{M:Nat->Cg}{a b u v:Int}(h:M a.toNat b.toNat<=v)(h2:b<c->M (b+1).toNat a.toNat<= -u-1):rdS c M a b u v=M:=by
 unfold rdS;rw [Wv5 h];split;rename_i hb;exact Wv5 (h2 hb);rfl
theorem C2(c:Nat)(T U O:Int)(a b u v:Cg)(j:Nat): ∀(k:Nat),j<=k-> ∀x y,rdM c T U O a b u v k x y<=rdM c T U O a b u v j x y
 | 0,h,x,y=>by
           obtain rfl:j=0:=VI;exact Int.le_refl _
 |k+1,h,x,y=>by
  rcases (show j=k+1\/j<=k by omega) with rfl|h
  exact Int.le_refl _;exact Bx (Zk9 _ _ _ _ _ _ _ _) (C2 c T U O a b u v j k h x y)
theorem Wc8{c:Nat}{T U O:Int}{a b u v:Cg}{k:Nat}(h:sn a b u v k (rdV (a k) (b k) (u k) (v k))):rdM c T U O a b u v (k+1)=rdM c T U O a b u v k:=by
 obtain ⟨j,hj,he⟩:=h;unfold rdV at he;injection he with he
 injection he with he
 have e:a k=a j/\b k=b j/\u k=u j/\v k=v j:=by simpa using he
 have h1:=Zl1 c (rdM c T U O a b u v j) (a j) (b j) (u j) (v j);have m:=C2 c T U O a b u v (j+1) k VI;refine Zl0 ?_ (λhb=>?_);rw [e.1,e.2.1,e.2.2.2];exact Bx (m _ _) h1.1;rw [e.1,e.2.1,e.2.2.1];exact Bx (m _ _) (h1.2 (by rw [←e.2.1];exact hb))
section
variable (c:Nat)(T U O:Int)(n:Nat)(a b u v:Cg)
def Zu9:St:={σ:=[agg [iI (c:Int),iI T,iI U,iI O],XB n a b u v,ptr 0 0,top,QU,AV.lit false,ptr 5 0,top,top,top,AV.mp 63]++HH 11 [iI ((c:Int)+1),iI ((c:Int)+1)]++HH 21 [iI (c:Int),iI (c:Int)]++HH 34 [XB n a b u v,iI (n:Int)]++HH 95 [],m:=[(63,GN.memo (λx=>False) λv=>v),(56,GN.row 3 1 2 (U3 1 [iI (UR (c*1+4) (min (UC (c:Int) T U O (cel c U O c) (c*1+4)) T) (UC (c:Int) T U O (cel c U O c)) (0+(c*11+4))),iI (-T)])),(31,GN.row 3 1 2 (U3 1 [iI (UC (c:Int) T U O (cel c U O c) (c*1+4)),iI T])),(5,GN.ints 301 [] 125 λa=>UR (0+(c*11+4)) (min (UR (c*1+4) (min (UC (c:Int) T U O (cel c U O c) (c*1+4)) T) (UC (c:Int) T U O (cel c U O c)) (0+(c*11+4))) (-T)) (j6 (c*1+4) [min (UC (c:Int) T U O (cel c U O c) (c*1+4)) T] (UC (c:Int) T U O (cel c U O c))) a),(0,GN.cells 49 [iI (c:Int),iI T,iI U,iI O])],nx:=68}
noncomputable def Jw2:Code:=U7 (VQ (U6 Tryz.f158) 2)
def Wi9(k:Nat):St:=(upE [(83,i k)] [(5,.ints 301 [] 125 (UC c T U O (rdM c T U O a b u v k))),(0,.cells 49 [i c,i T,i U,i O]),(63,.memo (sn a b u v k) (λ_=> .bool true))] (Zu9 c T U O n a b u v))
def CE(k:Nat):G6->Option St
 | .exit 6=>some (upE [(83,i n)] [(5,.ints 301 [] 125 (UC c T U O (rdM c T U O a b u v n))),(0,.cells 49 [i c,i T,i U,i O]),(63,.memo (sn a b u v n) (λ_=> .bool true))] (Zu9 c T U O n a b u v))
 |_=>none
def Jq9:CT:= .leaf (.exit 6,(CE c T U O n a b u v 0 (.exit 6)).getD (Zu9 c T U O n a b u v))
def Xz1:UF:=GI [] (HB (Wi9 c T U O n a b u v (0)) (Jq9 c T U O n a b u v))
abbrev ZI:Prop:=AV.mp 63=AV.mp 63
theorem Jf8(VR:1<=c/\c<=10)(UD:1<=U/\U<=O/\O<=200/\1<=T/\T<=2000)(HF:n<=1000)(DM:D4 (λk=>rdB c (a k) (b k) (u k) (v k)) n=true):G0 VN (.loop Jw2) (Xz1 c T U O n a b u v):=by
 refine UP [] (L:=[]) (Ae LS Aa) (Ai Ab (Ag LI Ac)) VX U1 (X:=Nat) (Wi9 c T U O n a b u v) (λk=>k<=n) (λk=>n-k) (CE c T U O n a b u v) (x0:=0) VS ?_ ?_ ?_;rintro k;kernel_rfl;rintro k y E h;unfold CE at h;split at h;cases h;kernel_rfl;cases h;rintro Q hQ k hx;refine ⟨(k+1),?_⟩
 (with_reducible refine D2 (t:=let z9:=sn a b u v k;let z3:=(Value.agg #[Value.int IntKind.i64 (a k),Value.int IntKind.i64 (b k),Value.int IntKind.i64 (u k),Value.int IntKind.i64 (v k)]);let z7:=(rdM c T U O a b u v k);let z2:=(UC (c:Int) T U O z7 ((b k).toNat*1+((a k).toNat*11+4)));let z10:=(UC (c:Int) T U O z7);let z5:=(UR ((b k).toNat*1+((a k).toNat*11+4)) (min z2 (v k)) z10 ((a k).toNat*1+((b k+1).toNat*11+4)));let z6:=(VY (agg [iI (c:Int),iI T,iI U,iI O]));let z8:=Q4 n a b u v;let z4:=(VY ((c:Int)+1));let z11:=(rdM c T U O a b u v (k+1));let A:=(need [∀(u_1:Value),z9 u_1->Value.bool true=Value.bool true,FA Tryz.prog 303 (λu_1=>z9 u_1\/u_1=Value.agg #[Value.int IntKind.i64 (a k),Value.int IntKind.i64 (b k),Value.int IntKind.i64 (u k),Value.int IntKind.i64 (v k)]) z3 (YG)] (need [UE (a k) 11] (need [UE (b k) 11] (need [(b k).toNat*1+((a k).toNat*11+4)<125] (need [UE (a k) 11] (need [UE (b k) 11] (need [(b k).toNat*1+((a k).toNat*11+4)+List.length [min z2 (v k)]<=125] (branch (decide (b k<(c:Int))) (need [VK (b k+1)] (need [VK (-u k)] (need [VK (-u k-1)] (need [UE (b k+1) 11] (need [UE (a k) 11] (need [(a k).toNat*1+((b k+1).toNat*11+4)<125] (need [UE (b k+1) 11] (need [UE (a k) 11] (need [(a k).toNat*1+((b k+1).toNat*11+4)+List.length [min z5 (-u k-1)]<=125] (need [VK ((k:Int)+1)] (need [z6,z8,XO,QU=QU,X6,XY,ZI,z4,z4,VY (c:Int),VY (c:Int),z8,VY (n:Int),(k:Int)+1=(↑(k+1):Int),125=125,GU 125 (UR ((a k).toNat*1+((b k+1).toNat*11+4)) (min z5 (-u k-1)) (j6 ((b k).toNat*1+((a k).toNat*11+4)) [min z2 (v k)] z10)) (UC (c:Int) T U O z11),VY (c:Int),T=T,U=U,O=O,∀(k_1:Value),z9 k_1\/k_1=Value.agg #[Value.int IntKind.i64 (a k),Value.int IntKind.i64 (b k),Value.int IntKind.i64 (u k),Value.int IntKind.i64 (v k)]->sn a b u v (k+1) k_1/\Value.bool true=Value.bool true] (leaf G6.normal)))))))))))) (need [VK ((k:Int)+1)] (need [z6,z8,XO,QU=QU,X6,XY,ZI,z4,z4,VY (c:Int),VY (c:Int),z8,VY (n:Int),(k:Int)+1=(↑(k+1):Int),125=125,GU 125 (UR ((b k).toNat*1+((a k).toNat*11+4)) (min z2 (v k)) z10) (UC (c:Int) T U O z11),VY (c:Int),T=T,U=U,O=O,∀(k_1:Value),z9 k_1\/k_1=Value.agg #[Value.int IntKind.i64 (a k),Value.int IntKind.i64 (b k),Value.int IntKind.i64 (u k),Value.int IntKind.i64 (v k)]->sn a b u v (k+1) k_1/\Value.bool true=Value.bool true] (leaf G6.normal)))))))))));let W:=(need [VK ((k:Int)+1)] (need [z6,z8,XO,QU=QU,X6,XY,ZI,z4,z4,VY (c:Int),VY (c:Int),z8,VY (n:Int),(k:Int)+1=(↑(k+1):Int),125=125,GU 125 (UC (c:Int) T U O z7) (UC (c:Int) T U O z11),VY (c:Int),T=T,U=U,O=O,∀(k_1:Value),z9 k_1->sn a b u v (k+1) k_1/\Value.bool true=Value.bool true] (leaf G6.normal)));(branch (decide ((k:Int)<(n:Int))) (need [UE k n] (need [FA Tryz.prog 303 (z9) z3 (YG)] (VL.may (z9 z3) (branch true W A) (branch false W A)))) (need [z6,z8,XO,QU=QU,X6,XY,ZI,z4,z4,VY (c:Int),VY (c:Int),z8,VY (n:Int),(k:Int)=(n:Int),125=125,GU 125 (UC (c:Int) T U O z7) (UC (c:Int) T U O (rdM c T U O a b u v n)),VY (c:Int),T=T,U=U,O=O,∀(k_1:Value),z9 k_1->sn a b u v n k_1/\Value.bool true=Value.bool true] (leaf (G6.exit 6))))) VT ?_)
 simp only [Jq9,CE,VL.sat,GR] at hQ;simp only [VL.sat,U9,UV,GJ,UB,VK,UG,H4,FE,FJ,FR,GH,CE]
 have hv: ∀j,j<n->(0<=a j/\a j<=c-1)/\(a j<=b j/\b j<=c)/\0<=u j/\u j<=v j/\v j<=2000:=by
  intro j hj;have:=GK.1 DM j hj;simp only [rdB,GT,bt_iff,insB_iff] at this;omega
 refine ⟨λh=>?_,λh=>?_⟩;have hk:=hv k VI;have mk:=Qn3 (a k) (b k) (u k) (v k);have q1:FA Tryz.prog 303 (sn a b u v k) (rdV (a k) (b k) (u k) (v k)) (.bool false):=mk.mono (λx hx=>Xu9 hx);have q2:FA Tryz.prog 303 (λx=>sn a b u v k x\/x=rdV (a k) (b k) (u k) (v k)) (rdV (a k) (b k) (u k) (v k)) (.bool false):=mk.mono (λx hx=>hx.elim Xu9 (λhe=>⟨_,_,_,_,he⟩));have sn1: ∀x,sn a b u v k x->sn a b u v (k+1) x:=λx ⟨j,hj,he⟩=>⟨j,VI,he⟩;have sn2:sn a b u v (k+1) (rdV (a k) (b k) (u k) (v k)):=⟨k,VI,rfl⟩;refine ⟨VI,q1,λhs=>⟨λ_=>?_,λhc=>absurd hc (by decide)⟩,λhc=>absurd hc (by decide),λ_=>?_⟩
 ·rw [Wc8 hs]
  (with_reducible repeat' first|apply Al|intro _)
  all_goals first|exact P4|(exact sn1 _ (by assumption))
 have h1: ∀M w,UR ((b k).toNat*1+((a k).toNat*11+4)) (min (UC c T U O M ((b k).toNat*1+((a k).toNat*11+4))) w) (UC c T U O M)=UC c T U O (bnd M (a k).toNat (b k).toNat w):=λM w=>zQ VI VI;refine ⟨⟨λ_ _=>trivial,q2⟩,?_⟩;simp only [h1];refine ⟨VI,VI,VI,VI,VI,VI,λhb=>?_,λhb=>?_⟩;have h2: ∀M w,UR ((a k).toNat*1+((b k+1).toNat*11+4)) (min (UC c T U O M ((a k).toNat*1+((b k+1).toNat*11+4))) w) (UC c T U O M)=UC c T U O (bnd M (b k+1).toNat (a k).toNat w):=λM w=>zQ VI VI;have e3:rdM c T U O a b u v (k+1)=bnd (bnd (rdM c T U O a b u v k) (a k).toNat (b k).toNat (v k)) (b k+1).toNat (a k).toNat (-u k-1):=by
  show rdS _ _ _ _ _ _=_;unfold rdS;rw [if_pos hb]
 simp only [h2,e3];exact VG;have e3:rdM c T U O a b u v (k+1)=bnd (rdM c T U O a b u v k) (a k).toNat (b k).toNat (v k):=by
  show rdS _ _ _ _ _ _=_;unfold rdS;rw [if_neg hb]
 simp only [e3];exact VG
 ·obtain rfl:k=n:=VI
  (with_reducible repeat' first|apply Al|intro _)
  all_goals first|exact P4|(assumption)
end
def fwS(M:Nat->Cg)(o f t:Nat):Nat->Cg:=bnd M f t (M f o+M o t)
def fwT(M:Nat->Cg)(o f:Nat):Nat->Nat->Nat->Int
 | 0=>M
 |t+1=>fwS (fwT M o f t) o f t
def fwF(c:Nat)(M:Nat->Cg)(o:Nat):Nat->Nat->Nat->Int
 | 0=>M
 |f+1=>fwT (fwF c M o f) o f (c+1)
def fwO(c:Nat)(M:Nat->Cg):Nat->Nat->Nat->Int
 | 0=>M
 |o+1=>fwF c (fwO c M o) o (c+1)
def LB(B:Int)(M:Nat->Cg):Prop:= ∀x y,-B<=M x y/\M x y<=2000
def JB(B:Int)(o f t:Nat)(M:Nat->Cg):Prop:= ∀x y,M x y<=2000/\ -(6*B)<=M x y/\(x=o-> -(3*B)<=M x y)/\(y=o-> -(3*B)<=M x y)/\(x=o->y=o-> -(2*B)<=M x y)/\(¬(x<f\/(x=f/\y<t))-> -B<=M x y)
theorem Xc0{B:Int}{o:Nat}{M:Nat->Cg}(hB:0<=B)(h:LB B M):JB B o 0 0 M:=by
 intro x y;have:=h x y;refine ⟨VI,VI,λ_=>VI,λ_=>VI,λ_ _=>VI,λ_=>VI⟩
theorem Xq5{B:Int}{o f t:Nat}{M:Nat->Cg}(hB:0<=B)(h:JB B o f t M):JB B o f (t+1) (fwS M o f t):=by
 have hft:=h f t;have hfo:=h f o;have hot:=h o t;have hoo:=h o o;have I:=hft.2.2.2.2.2 VI;intro x y;have hxy:=h x y;unfold fwS bnd wT;by_cases hc:x=f/\y=t;exact YZ;rw [if_neg hc];exact ⟨hxy.1,hxy.2.1,hxy.2.2.1,hxy.2.2.2.1,hxy.2.2.2.2.1,λhv=>hxy.2.2.2.2.2 VI⟩
theorem Zu0{B:Int}{o f:Nat}{M:Nat->Cg}(hB:0<=B)(h:JB B o f 0 M): ∀t,JB B o f t (fwT M o f t)
 | 0=>h
 |t+1=>Xq5 hB (Zu0 hB h t)
theorem Zt9{B:Int}{o f t:Nat}{M:Nat->Cg}(h:JB B o f t M):JB B o (f+1) 0 M:=by
 intro x y;have hxy:=h x y;exact ⟨hxy.1,hxy.2.1,hxy.2.2.1,hxy.2.2.2.1,hxy.2.2.2.2.1,λhv=>hxy.2.2.2.2.2 VI⟩
theorem Zu1{B:Int}{c o:Nat}{M:Nat->Cg}(hB:0<=B)(h:LB B M): ∀f,JB B o f 0 (fwF c M o f)
 | 0=>Xc0 hB h
 |f+1=>Zt9 (Zu0 hB (Zu1 hB h f) (c+1))
theorem Zt8{c:Nat}{M:Nat->Cg}(h:LB 2001 M): ∀o,LB (2001*6^o) (fwO c M o)
 | 0=>by
  rw [show (2001:Int)*6^0=2001 by decide]
  exact h
 |o+1=>by
  have ih:=Zt8 (c:=c) h o;have hp:(0:Int)<=2001*6^o:=Bz VI (Int.pow_nonneg VI);have hj:=Zu1 (c:=c) (o:=o) hp ih (c+1);intro x y;have:=hj x y;have e:(2001:Int)*6^(o+1)=6*(2001*6^o):=by rw [Int.pow_succ];omega
  rw [e];exact ⟨this.2.1,this.1⟩
theorem Jg5: ∀o:Nat,o<=10->(6:Int)^o<=60466176:=by
 intro o ho;rcases (show o=0\/o=1\/o=2\/o=3\/o=4\/o=5\/o=6\/o=7\/o=8\/o=9\/o=10 by omega) with rfl|rfl|rfl|rfl|rfl|rfl|rfl|rfl|rfl|rfl|rfl<;>decide
theorem Jl7{c:Nat}{M:Nat->Cg}(h:LB 2001 M){o f t:Nat}(ho:o<=10)(x y:Nat): -800000000000<=fwT (fwF c (fwO c M o) o f) o f t x y/\fwT (fwF c (fwO c M o) o f) o f t x y<=2000:=by
 have ih:=Zt8 (c:=c) h o;have hp:(0:Int)<=2001*6^o:=Bz VI (Int.pow_nonneg VI);have hj:=Zu0 hp (Zu1 (c:=c) (o:=o) hp ih f) t x y;have:=Jg5 o ho;omega
theorem vU{B:Int}{M:Nat->Cg}(h:LB B M){a b:Nat}{v:Int}(hv: -B<=v):LB B (bnd M a b v):=by
 intro x y;have h1:=h a b;have h2:=h x y;unfold bnd wT;split<;>omega
theorem Wu7{c:Nat}{U O:Int}(h:1<=U/\U<=O/\O<=200): ∀k,LB 2001 (cel c U O k)
 | 0=>by
  intro x y;unfold cel ini;split<;>omega
 |k+1=>vU (vU (Wu7 h k) VI) VI
theorem nP{c:Nat}{T U O:Int}{a b u v:Cg}{n:Nat}(h:1<=U/\U<=O/\O<=200/\1<=T/\T<=2000)(hv: ∀j,j<n->0<=u j/\u j<=v j/\v j<=2000): ∀k,k<=n->LB 2001 (rdM c T U O a b u v k)
 | 0,_=>vU (vU (Wu7 VI c) VI) VI
 |k+1,hk=>by
  have ih:=nP (c:=c) (a:=a) (b:=b) h hv k VI;have:=hv k VI;show LB 2001 (rdS _ _ _ _ _ _);unfold rdS;split;exact vU (vU ih VI) VI;exact vU ih VI
section
variable (c:Nat)(T U O:Int)(n:Nat)(a b u v:Cg)
def tD:St:={σ:=[agg [iI (c:Int),iI T,iI U,iI O],XB n a b u v,ptr 0 0,top,QU,AV.lit false,ptr 5 0,top,top,top,AV.mp 63]++HH 11 [iI ((c:Int)+1),iI ((c:Int)+1)]++HH 21 [iI (c:Int),iI (c:Int)]++HH 34 [XB n a b u v,iI (n:Int),iI (n:Int)]++HH 37 [iI ((c:Int)+1)]++HH 56 [],m:=[(5,GN.ints 301 [] 125 λk=>UC (c:Int) T U O (rdM c T U O a b u v n) k),(0,GN.cells 49 [iI (c:Int),iI T,iI U,iI O]),(63,GN.memo (λx=>sn a b u v n x) λx=>Value.bool true)],nx:=72}
noncomputable def Qu5:Code:=U7 (VQ (U6 Tryz.f158) 3)
def EP(o:Nat):St:=(upE [(122,i o)] [(5,.ints 301 [] 125 (UC c T U O (fwO c (rdM c T U O a b u v n) o))),(0,.cells 49 [i c,i T,i U,i O])] (tD c T U O n a b u v))
def qF(o:Nat):G6->Option St
 | .exit 8=>some (upE [(122,i ((c:Int)+1))] [(5,.ints 301 [] 125 (UC c T U O (fwO c (rdM c T U O a b u v n) (c+1)))),(0,.cells 49 [i c,i T,i U,i O])] (tD c T U O n a b u v))
 |_=>none
def Wy1:CT:= .leaf (.exit 8,(qF c T U O n a b u v 0 (.exit 8)).getD (tD c T U O n a b u v))
def mM:UF:=GI [] (HB (EP c T U O n a b u v (0)) (Wy1 c T U O n a b u v))
def Zu8(o:Nat):St:={σ:=[agg [iI (c:Int),iI T,iI U,iI O],XB n a b u v,ptr 0 0,top,QU,AV.lit false,ptr 5 0,top,top,top,AV.mp 63,top,top,iI (o:Int)]++HH 8 [iI ((c:Int)+1),iI ((c:Int)+1)]++HH 21 [iI (c:Int),iI (c:Int)]++HH 34 [XB n a b u v,iI (n:Int),iI (n:Int)]++HH 37 [iI ((c:Int)+1),iI (o:Int),top,top,top,top,iI ((c:Int)+1)]++HH 50 [],m:=[(5,GN.ints 301 [] 125 λk=>UC (c:Int) T U O (fwO c (rdM c T U O a b u v n) o) k),(0,GN.cells 49 [iI (c:Int),iI T,iI U,iI O])],nx:=79}
noncomputable def Zx8:Code:=(U7 (VQ (U7 (VQ (U6 Tryz.f158) 3)) 0))
def Wi8(o:Nat)(f:Nat):St:=(upE [(128,i f)] [(5,.ints 301 [] 125 (UC c T U O (fwF c (fwO c (rdM c T U O a b u v n) o) o f))),(0,.cells 49 [i c,i T,i U,i O])] (Zu8 c T U O n a b u v o))
def CD(o:Nat)(f:Nat):G6->Option St
 | .exit 10=>some (upE [(128,i ((c:Int)+1))] [(5,.ints 301 [] 125 (UC c T U O (fwF c (fwO c (rdM c T U O a b u v n) o) o (c+1)))),(0,.cells 49 [i c,i T,i U,i O])] (Zu8 c T U O n a b u v o))
 |_=>none
def Jq8(o:Nat):CT:= .leaf (.exit 10,(CD c T U O n a b u v o 0 (.exit 10)).getD (Zu8 c T U O n a b u v o))
def Xz0(o:Nat):UF:=GI [] (HB (Wi8 c T U O n a b u v o (0)) (Jq8 c T U O n a b u v o))
def b9(o:Nat)(f:Nat):St:={σ:=[agg [iI (c:Int),iI T,iI U,iI O],XB n a b u v,ptr 0 0,top,QU,AV.lit false,ptr 5 0,top,top,top,AV.mp 63,top,top,iI (o:Int),iI (f:Int)]++HH 7 [iI ((c:Int)+1),iI ((c:Int)+1)]++HH 21 [iI (c:Int),iI (c:Int)]++HH 34 [XB n a b u v,iI (n:Int),iI (n:Int)]++HH 37 [iI ((c:Int)+1),iI (o:Int),top,top,top,top,iI ((c:Int)+1),iI (f:Int),top,top,top,top,iI ((c:Int)+1)]++HH 44 [],m:=[(5,GN.ints 301 [] 125 λk=>UC (c:Int) T U O (fwF c (fwO c (rdM c T U O a b u v n) o) o f) k),(0,GN.cells 49 [iI (c:Int),iI T,iI U,iI O])],nx:=86}
noncomputable def Xe5:Code:=(U7 (VQ (U7 (VQ (U7 (VQ (U6 Tryz.f158) 3)) 0)) 0))
def EO(o:Nat)(f:Nat)(t:Nat):St:=(upE [(134,i t)] [(5,.ints 301 [] 125 (UC c T U O (fwT (fwF c (fwO c (rdM c T U O a b u v n) o) o f) o f t))),(0,.cells 49 [i c,i T,i U,i O])] (b9 c T U O n a b u v o f))
def PR(o:Nat)(f:Nat)(t:Nat):G6->Option St
 | .exit 12=>some (upE [(134,i ((c:Int)+1))] [(5,.ints 301 [] 125 (UC c T U O (fwT (fwF c (fwO c (rdM c T U O a b u v n) o) o f) o f (c+1)))),(0,.cells 49 [i c,i T,i U,i O])] (b9 c T U O n a b u v o f))
 |_=>none
def Wy0(o:Nat)(f:Nat):CT:= .leaf (.exit 12,(PR c T U O n a b u v o f 0 (.exit 12)).getD (b9 c T U O n a b u v o f))
def mL(o:Nat)(f:Nat):UF:=GI [] (HB (EO c T U O n a b u v o f (0)) (Wy0 c T U O n a b u v o f))
theorem Wc1(o:Nat)(f:Nat)(VR:1<=c/\c<=10)(UD:1<=U/\U<=O/\O<=200/\1<=T/\T<=2000)(HF:n<=1000)(DM:D4 (λk=>rdB c (a k) (b k) (u k) (v k)) n=true)(B6:o<=c)(z6:f<=c):G0 VN (.loop Xe5) (mL c T U O n a b u v o f):=by
 refine UP [] (L:=[]) (Ae LS Aa) (Ai Ab (Ag LI Ac)) VX U1 (X:=Nat) (EO c T U O n a b u v o f) (λt=>t<=c+1) (λt=>c+1-t) (PR c T U O n a b u v o f) (x0:=0) VS ?_ ?_ ?_;rintro t;kernel_rfl;rintro t y E h;unfold PR at h;split at h;cases h;kernel_rfl;cases h;rintro Q hQ t hx;refine ⟨(t+1),?_⟩;(with_reducible refine D2 (t:=let z2:=(fwF c (fwO c (rdM c T U O a b u v n) o) o f);let A:=(fwT z2 o f t);let W:=(VY ((c:Int)+1));let z3:=(UC (c:Int) T U O A (t*1+(f*11+4)));(branch (decide ((t:Int)<(c:Int)+1)) (need [UE f 11] (need [UE o 11] (need [o*1+(f*11+4)<125] (need [UE o 11] (need [UE t 11] (need [t*1+(o*11+4)<125] (need [VK (UC (c:Int) T U O A (o*1+(f*11+4))+UC (c:Int) T U O A (t*1+(o*11+4)))] (need [UE f 11] (need [UE t 11] (need [t*1+(f*11+4)<125] (need [UE f 11] (need [UE t 11] (need [t*1+(f*11+4)+List.length [min z3 (UC (c:Int) T U O A (o*1+(f*11+4))+UC (c:Int) T U O A (t*1+(o*11+4)))]<=125] (need [VK ((t:Int)+1)] (need [VY (agg [iI (c:Int),iI T,iI U,iI O]),Q4 n a b u v,XO,QU=QU,X6,XY,ZI,VY (o:Int),VY (f:Int),W,W,VY (c:Int),VY (c:Int),Q4 n a b u v,VY (n:Int),VY (n:Int),W,VY (o:Int),W,VY (f:Int),W,(t:Int)+1=(↑(t+1):Int),125=125,GU 125 (UR (t*1+(f*11+4)) (min z3 (UC (c:Int) T U O A (o*1+(f*11+4))+UC (c:Int) T U O A (t*1+(o*11+4)))) (UC (c:Int) T U O A)) (UC (c:Int) T U O (fwT z2 o f (t+1))),VY (c:Int),T=T,U=U,O=O] (leaf G6.normal)))))))))))))))) (need [VY (agg [iI (c:Int),iI T,iI U,iI O]),Q4 n a b u v,XO,QU=QU,X6,XY,ZI,VY (o:Int),VY (f:Int),W,W,VY (c:Int),VY (c:Int),Q4 n a b u v,VY (n:Int),VY (n:Int),W,VY (o:Int),W,VY (f:Int),W,(t:Int)=(c:Int)+1,125=125,GU 125 (UC (c:Int) T U O A) (UC (c:Int) T U O (fwT z2 o f (c+1))),VY (c:Int),T=T,U=U,O=O] (leaf (G6.exit 12))))) VT ?_);simp only [Wy0,PR,VL.sat,GR] at hQ;simp only [VL.sat,U9,UV,GJ,UB,VK,UG,H4,FE,FJ,FR,GH,PR]
 have hv: ∀j,j<n->0<=u j/\u j<=v j/\v j<=2000:=by
  intro j hj;have:=GK.1 DM j hj;simp only [rdB,GT,bt_iff,insB_iff] at this;omega
 have hl:=λx y=>Jl7 (c:=c) (nP (c:=c) (a:=a) (b:=b) UD hv n (Am _)) (o:=o) (f:=f) (t:=t) VI x y;have hfo:=hl f o;have hot:=hl o t;refine ⟨λh=>?_,λh=>?_⟩
 ·have h1: ∀M,UC c T U O M (o*1+(f*11+4))=M f o:=λM=>qB _ _ _ _ _ VI VI;have h2: ∀M,UC c T U O M (t*1+(o*11+4))=M o t:=λM=>qB _ _ _ _ _ VI VI;have h3: ∀M v,UR (t*1+(f*11+4)) (min (UC c T U O M (t*1+(f*11+4))) v) (UC c T U O M)=UC c T U O (bnd M f t v):=λM v=>zQ VI VI;simp only [h3];simp only [h1,h2]
  (with_reducible repeat' first|apply Al|intro _)
  all_goals first|exact Ak|omega|with_reducible rfl|(rename_i E hE;cases hE;exact hQ)|rfl
 ·obtain rfl:t=c+1:=VI
  (with_reducible repeat' first|apply Al|intro _)
  all_goals first|exact Ak|omega|with_reducible rfl|(rename_i E hE;cases hE;exact hQ)|rfl
theorem Jf4(o:Nat)(VR:1<=c/\c<=10)(UD:1<=U/\U<=O/\O<=200/\1<=T/\T<=2000)(HF:n<=1000)(DM:D4 (λk=>rdB c (a k) (b k) (u k) (v k)) n=true)(B6:o<=c):G0 VN (.loop Zx8) (Xz0 c T U O n a b u v o):=by
 refine UP [] (L:=[PP 14 (λk=>FH [k<=c] (mL c T U O n a b u v o k))]) (Ae LS Aa) (Ai Ab (Ag LI Ac)) VX (UY (λcj hcj=>by
  have e:VQ Zx8 0=some (.loop Xe5):=VT;rw [e] at hcj;cases hcj;exact RE (λk=>HU (λh=>Wc1 c T U O n a b u v o k VR UD HF DM B6 h)))) (X:=Nat) (Wi8 c T U O n a b u v o) (λf=>f<=c+1) (λf=>c+1-f) (CD c T U O n a b u v o) (x0:=0) VS ?_ ?_ ?_
 rintro f;kernel_rfl;rintro f y E h;unfold CD at h;split at h;cases h;kernel_rfl;cases h;rintro Q hQ f hx;refine ⟨(f+1),?_⟩;(with_reducible refine D2 (t:=let A:=(VY ((c:Int)+1));let W:=(fwO c (rdM c T U O a b u v n) o);let z2:=(VY (agg [iI (c:Int),iI T,iI U,iI O]));let z3:=Q4 n a b u v;(branch (decide ((f:Int)<(c:Int)+1)) (need [VK ((c:Int)+1)] (need [f<=c] (need [z2,z3,XO,QU=QU,X6,XY,ZI,VY (o:Int),VY (f:Int),A,A,VY (c:Int),VY (c:Int),z3,VY (n:Int),VY (n:Int),A,VY (o:Int),A,VY (f:Int),A,(0:Int)=((0:Nat):Int),125=125,GU 125 (UC (c:Int) T U O (fwF c W o f)) (UC (c:Int) T U O (fwT (fwF c W o f) o f 0)),VY (c:Int),T=T,U=U,O=O] (need [VK ((f:Int)+1)] (need [z2,z3,XO,QU=QU,X6,XY,ZI,VY (o:Int),A,A,VY (c:Int),VY (c:Int),z3,VY (n:Int),VY (n:Int),A,VY (o:Int),A,(f:Int)+1=(↑(f+1):Int),125=125,GU 125 (UC (c:Int) T U O (fwT (fwF c W o f) o f (c+1))) (UC (c:Int) T U O (fwF c W o (f+1))),VY (c:Int),T=T,U=U,O=O] (leaf G6.normal)))))) (need [z2,z3,XO,QU=QU,X6,XY,ZI,VY (o:Int),A,A,VY (c:Int),VY (c:Int),z3,VY (n:Int),VY (n:Int),A,VY (o:Int),A,(f:Int)=(c:Int)+1,125=125,GU 125 (UC (c:Int) T U O (fwF c W o f)) (UC (c:Int) T U O (fwF c W o (c+1))),VY (c:Int),T=T,U=U,O=O] (leaf (G6.exit 10))))) VT ?_);simp only [Jq8,CD,VL.sat,GR] at hQ;simp only [VL.sat,U9,UV,GJ,UB,VK,UG,H4,FE,FJ,FR,GH,CD]
 refine ⟨λh=>?_,λh=>?_⟩
 ·(with_reducible repeat' first|apply Al|intro _)
  all_goals first|exact Ak|omega|with_reducible rfl|(rename_i E hE;cases hE;exact hQ)|rfl
 ·obtain rfl:f=c+1:=VI
  (with_reducible repeat' first|apply Al|intro _)
  all_goals first|exact Ak|omega|with_reducible rfl|(rename_i E hE;cases hE;exact hQ)|rfl
theorem Wc6(VR:1<=c/\c<=10)(UD:1<=U/\U<=O/\O<=200/\1<=T/\T<=2000)(HF:n<=1000)(DM:D4 (λk=>rdB c (a k) (b k) (u k) (v k)) n=true):G0 VN (.loop Qu5) (mM c T U O n a b u v):=by
 refine UP [] (L:=[PP 13 (λk=>FH [k<=c] (Xz0 c T U O n a b u v k))]) (Ae LS Aa) (Ai Ab (Ag LI Ac)) VX (UY (λcj hcj=>by
  have e:VQ Qu5 0=some (.loop Zx8):=VT;rw [e] at hcj;cases hcj;exact RE (λk=>HU (λh=>Jf4 c T U O n a b u v k VR UD HF DM h)))) (X:=Nat) (EP c T U O n a b u v) (λo=>o<=c+1) (λo=>c+1-o) (qF c T U O n a b u v) (x0:=0) VS ?_ ?_ ?_
 rintro o;kernel_rfl;rintro o y E h;unfold qF at h;split at h;cases h;kernel_rfl;cases h;rintro Q hQ o hx;refine ⟨(o+1),?_⟩;(with_reducible refine D2 (t:=let A:=(VY ((c:Int)+1));let W:=(rdM c T U O a b u v n);let z2:=(VY (agg [iI (c:Int),iI T,iI U,iI O]));let z3:=Q4 n a b u v;(branch (decide ((o:Int)<(c:Int)+1)) (need [VK ((c:Int)+1)] (need [o<=c] (need [z2,z3,XO,QU=QU,X6,XY,ZI,VY (o:Int),A,A,VY (c:Int),VY (c:Int),z3,VY (n:Int),VY (n:Int),A,VY (o:Int),A,(0:Int)=((0:Nat):Int),125=125,GU 125 (UC (c:Int) T U O (fwO c W o)) (UC (c:Int) T U O (fwF c (fwO c W o) o 0)),VY (c:Int),T=T,U=U,O=O] (need [VK ((o:Int)+1)] (need [z2,z3,XO,QU=QU,X6,XY,ZI,A,A,VY (c:Int),VY (c:Int),z3,VY (n:Int),VY (n:Int),A,(o:Int)+1=(↑(o+1):Int),125=125,GU 125 (UC (c:Int) T U O (fwF c (fwO c W o) o (c+1))) (UC (c:Int) T U O (fwO c W (o+1))),VY (c:Int),T=T,U=U,O=O] (leaf G6.normal)))))) (need [z2,z3,XO,QU=QU,X6,XY,ZI,A,A,VY (c:Int),VY (c:Int),z3,VY (n:Int),VY (n:Int),A,(o:Int)=(c:Int)+1,125=125,GU 125 (UC (c:Int) T U O (fwO c W o)) (UC (c:Int) T U O (fwO c W (c+1))),VY (c:Int),T=T,U=U,O=O] (leaf (G6.exit 8))))) VT ?_);simp only [Wy1,qF,VL.sat,GR] at hQ;simp only [VL.sat,U9,UV,GJ,UB,VK,UG,H4,FE,FJ,FR,GH,qF]
 refine ⟨λh=>?_,λh=>?_⟩
 ·(with_reducible repeat' first|apply Al|intro _)
  all_goals first|exact Ak|omega|with_reducible rfl|(rename_i E hE;cases hE;exact hQ)|rfl
 ·obtain rfl:o=c+1:=VI
  (with_reducible repeat' first|apply Al|intro _)
  all_goals first|exact Ak|omega|with_reducible rfl|(rename_i E hE;cases hE;exact hQ)|rfl
def fwM:Nat->Cg:=fwO c (rdM c T U O a b u v n) (c+1)
def okR:Bool:=D4 (λk=>decide (0<=fwM c T U O n a b u v k k)) (c+1)
def Xd4:St:={σ:=[agg [iI (c:Int),iI T,iI U,iI O],XB n a b u v,ptr 0 0,top,top,top,ptr 5 0,top,top,top,AV.mp 63]++HH 11 [iI ((c:Int)+1),iI ((c:Int)+1)]++HH 21 [iI (c:Int),iI (c:Int)]++HH 34 [XB n a b u v,iI (n:Int),iI (n:Int)]++HH 37 [iI ((c:Int)+1),iI ((c:Int)+1)]++HH 40 [iI ((c:Int)+1)]++HH 14 [],m:=[(5,GN.ints 301 [] 125 λk=>UC (c:Int) T U O (fwO c (rdM c T U O a b u v n) (c+1)) k),(0,GN.cells 49 [iI (c:Int),iI T,iI U,iI O])],nx:=76}
noncomputable def Jw1:Code:=U7 (VQ (U6 Tryz.f158) 4)
def Wi7(k:Nat):St:=(upE [(164,i k)] [(5,.ints 301 [] 125 (UC c T U O (fwM c T U O n a b u v))),(0,.cells 49 [i c,i T,i U,i O])] (Xd4 c T U O n a b u v))
def d9(k:Nat):G6->Option St
 | .ret=>some (upE [(4,.x (.pointer none)),(5,.lit false),(164,.top)] [(5,.ints 301 [] 125 (UC c T U O (fwM c T U O n a b u v))),(0,.cells 49 [i c,i T,i U,i O])] (Xd4 c T U O n a b u v))
 | .exit 14=>some (upE [(164,.top)] [(5,.ints 301 [] 125 (UC c T U O (fwM c T U O n a b u v))),(0,.cells 49 [i c,i T,i U,i O])] (Xd4 c T U O n a b u v))
 |_=>none
def Jq7:CT:= .branch (okR c T U O n a b u v) (.leaf (.exit 14,(d9 c T U O n a b u v 0 (.exit 14)).getD (Xd4 c T U O n a b u v))) (.leaf (.ret,(d9 c T U O n a b u v 0 .ret).getD (Xd4 c T U O n a b u v)))
def Xy9:UF:=GI [] (HB (Wi7 c T U O n a b u v (0)) (Jq7 c T U O n a b u v))
theorem Jf3(VR:1<=c/\c<=10)(UD:1<=U/\U<=O/\O<=200/\1<=T/\T<=2000)(HF:n<=1000)(DM:D4 (λk=>rdB c (a k) (b k) (u k) (v k)) n=true):G0 VN (.loop Jw1) (Xy9 c T U O n a b u v):=by
 refine UP [] (L:=[]) (Ae LS Aa) (Ai Ab (Ag LI Ac)) VX U1 (X:=Nat) (Wi7 c T U O n a b u v) (λk=>k<=c+1/\ ∀j,j<k->0<=fwM c T U O n a b u v j j) (λk=>c+1-k) (d9 c T U O n a b u v) (x0:=0) VS ?_ ?_ ?_;rintro k;kernel_rfl;rintro k y E h;unfold d9 at h;split at h;cases h;kernel_rfl;cases h;kernel_rfl;cases h;rintro Q hQ k hx;refine ⟨(k+1),?_⟩;(with_reducible refine D2 (t:=let A:=(VY ((c:Int)+1));let W:=(fwM c T U O n a b u v);let z2:=(VY (agg [iI (c:Int),iI T,iI U,iI O]));let z3:=Q4 n a b u v;(branch (decide ((k:Int)<(c:Int)+1)) (need [UE k 11] (need [UE k 11] (need [k*1+(k*11+4)<125] (branch (decide (UC (c:Int) T U O W (k*1+(k*11+4))<0)) (need [z2,z3,XO,QU=QU,X6,XY,ZI,A,A,VY (c:Int),VY (c:Int),z3,VY (n:Int),VY (n:Int),A,A,A,125=125,GO 125 (UC (c:Int) T U O W),VY (c:Int),T=T,U=U,O=O] (leaf G6.ret)) (need [VK ((k:Int)+1)] (need [z2,z3,XO,XY,ZI,A,A,VY (c:Int),VY (c:Int),z3,VY (n:Int),VY (n:Int),A,A,A,(k:Int)+1=(↑(k+1):Int),125=125,GO 125 (UC (c:Int) T U O W),VY (c:Int),T=T,U=U,O=O] (leaf G6.normal))))))) (need [z2,z3,XO,XY,ZI,A,A,VY (c:Int),VY (c:Int),z3,VY (n:Int),VY (n:Int),A,A,A,125=125,GO 125 (UC (c:Int) T U O W),VY (c:Int),T=T,U=U,O=O] (leaf (G6.exit 14))))) VT ?_);simp only [Jq7,d9,VL.sat,GR] at hQ;simp only [VL.sat,U9,UV,GJ,UB,VK,UG,H4,FE,FJ,FR,GH,d9]
 have h1:UC c T U O (fwM c T U O n a b u v) (k*1+(k*11+4))=fwM c T U O n a b u v k k\/11<=k:=by
  rcases An k 11 with h|h;exact .inl (qB _ _ _ _ _ VI h);exact .inr h
 refine ⟨λh=>?_,λh=>?_⟩;have h2:=h1.resolve_right VI;rw [h2];refine ⟨VI,VI,VI,λhneg=>?_,λWo1=>?_⟩
 ·have hno:okR c T U O n a b u v=false:=by
   cases ho:okR c T U O n a b u v;rfl;have:=GK.1 ho k VI;simp at this;omega
  (with_reducible repeat' first|apply Al|intro _)
  all_goals first|exact P4|(rename_i E hE;cases hE;exact hQ.2 hno)
 exact VE
 ·obtain ⟨hx1,hx2⟩:=hx;obtain rfl:k=c+1:=VI;have Wm8:okR c T U O n a b u v=true:=GK.2 (λj hj=>by simpa using hx2 j hj)
  (with_reducible repeat' first|apply Al|intro _)
  all_goals first|exact P4|(rename_i E hE;cases hE;exact hQ.1 Wm8)
end
theorem vP{S:Code->UF->Prop}{c:Code}{s0 s1 s2 s3 s4:UF}(h0: ∀cj,VQ c 0=some cj->S cj s0)(h1: ∀cj,VQ c 1=some cj->S cj s1)(h2: ∀cj,VQ c 2=some cj->S cj s2)(h3: ∀cj,VQ c 3=some cj->S cj s3)(h4: ∀cj,VQ c 4=some cj->S cj s4):
  ∀j cj,VQ c j=some cj-> ∀sp,[s0,s1,s2,s3,s4][j]? =some sp->S cj sp:=by
 intro j cj hj sp hsp
 match j with
 | 0=>simp at hsp;subst hsp;exact h0 cj hj
 | 1=>simp at hsp;subst hsp;exact h1 cj hj
 | 2=>simp at hsp;subst hsp;exact h2 cj hj
 | 3=>simp at hsp;subst hsp;exact h3 cj hj
 | 4=>simp at hsp;subst hsp;exact h4 cj hj
 |j+5=>simp at hsp
theorem UK.same{P:Program}{f:FuncId}{avs avs':List AV}{t:VL AV}(h:UK P f avs' t)(k:LK avs avs'):UK P f avs t:=λQ hQ e w args hro hgl FO hr=>h Q hQ e w args hro hgl (k.idf FO) (k.rep hr)
section
variable (c:Nat)(T U O:Int)(n:Nat)(a b u v:Cg)
abbrev tO:AV:= .roI [] 125 (UC c T U O (fwM c T U O n a b u v)) 0
abbrev nilP:AV:= .x (.pointer none)
theorem SV(VR:1<=c/\c<=10)(UD:1<=U/\U<=O/\O<=200/\1<=T/\T<=2000)(HF:n<=1000)(DM:D4 (λk=>rdB c (a k) (b k) (u k) (v k)) n=true):UK VN 158 [.agg [i c,i T,i U,i O],rds n a b u v] (.branch (okR c T U O n a b u v) (.leaf (.tup [tO c T U O n a b u v,.lit true])) (.leaf (.tup [nilP,.lit false]))):=by
 refine GS (L:=[Xz4 c T U O n a b u v,Xz2 c T U O n a b u v,Xz1 c T U O n a b u v,mM c T U O n a b u v,Xy9 c T U O n a b u v]) (Ae LS Aa) (Ai Ab (Ag LI Ac)) VX Tryz.func158 (US Tryz.f158) (vP (lpE (b:= .loop Zx9) VT<|(Jg2 c T U O n a b u v VR UD).N) (lpE (b:= .loop Jw3) VT<|(Jg0 c T U O n a b u v VR UD).N) (lpE (b:= .loop Jw2) VT<|(Jf8 c T U O n a b u v VR UD HF DM).N) (lpE (b:= .loop Qu5) VT<|(Wc6 c T U O n a b u v VR UD HF DM).N) (lpE (b:= .loop Jw1) VT<|(Jf3 c T U O n a b u v VR UD HF DM).N)) (t:=let A:=(VY ((c:Int)+1));let W:=(VY (agg [iI (c:Int),iI T,iI U,iI O]));let z2:=(UC (c:Int) T U O (cel c U O c) (c*1+4));let z3:=(UR (c*1+4) (min z2 T) (UC (c:Int) T U O (cel c U O c)) (0+(c*11+4)));let z4:=Q4 n a b u v;(need [VK ((c:Int)+1)] (need [W,z4,XO,QU=QU,X6,XY,A,(0:Int)=((0:Nat):Int),List.length ([(c:Int),T,U,O]++bE 121)=125,GU 125 (U8 ([(c:Int),T,U,O]++bE 121)) (UC (c:Int) T U O (ini c 0 0)),VY (c:Int),T=T,U=U,O=O] (need [W,z4,XO,QU=QU,X6,XY,A,A,VY (c:Int),(0:Int)=((0:Nat):Int),125=125,GU 125 (UC (c:Int) T U O (ini c (c+1) 0)) (UC (c:Int) T U O (cel c U O 0)),VY (c:Int),T=T,U=U,O=O] (need [UE 0 11] (need [UE c 11] (need [c*1+4<125] (need [UE 0 11] (need [UE c 11] (need [c*1+4+List.length [min z2 T]<=125] (need [VK (-T)] (need [UE c 11] (need [UE 0 11] (need [0+(c*11+4)<125] (need [UE c 11] (need [UE 0 11] (need [0+(c*11+4)+List.length [min z3 (-T)]<=125] (need [W,z4,XO,QU=QU,X6,XY,ZI,A,A,VY (c:Int),VY (c:Int),z4,VY (n:Int),(0:Int)=((0:Nat):Int),125=125,GU 125 (UR (0+(c*11+4)) (min z3 (-T)) (j6 (c*1+4) [min z2 T] (UC (c:Int) T U O (cel c U O c)))) (UC (c:Int) T U O (rdM c T U O a b u v 0)),VY (c:Int),T=T,U=U,O=O,∀(k:Value),False->sn a b u v 0 k/\k=Value.bool true] (need [VK ((c:Int)+1)] (need [W,z4,XO,QU=QU,X6,XY,ZI,A,A,VY (c:Int),VY (c:Int),z4,VY (n:Int),VY (n:Int),A,(0:Int)=((0:Nat):Int),125=125,GU 125 (UC (c:Int) T U O (rdM c T U O a b u v n)) (UC (c:Int) T U O (fwO c (rdM c T U O a b u v n) 0)),VY (c:Int),T=T,U=U,O=O] (need [VK ((c:Int)+1)] (need [W,z4,XO,XY,ZI,A,A,VY (c:Int),VY (c:Int),z4,VY (n:Int),VY (n:Int),A,A,A,(0:Int)=((0:Nat):Int),125=125,GU 125 (UC (c:Int) T U O (fwO c (rdM c T U O a b u v n) (c+1))) (UC (c:Int) T U O (fwM c T U O n a b u v)),VY (c:Int),T=T,U=U,O=O] (branch (okR c T U O n a b u v) (leaf (tup [roI [] 125 (λk=>UC (c:Int) T U O (fwM c T U O n a b u v) k) 0,AV.lit true])) (leaf (tup [QU,AV.lit false]))))))))))))))))))))))))) VT ?_
 intro Q hQ;have h1: ∀M w,UR (c*1+4) (min (UC c T U O M (c*1+4)) w) (UC c T U O M)=UC c T U O (bnd M 0 c w):=λM w=>zQ VI VI;have h2: ∀M w,UR (0+(c*11+4)) (min (UC c T U O M (0+(c*11+4))) w) (UC c T U O M)=UC c T U O (bnd M c 0 w):=λM w=>zQ VI VI;simp only [VL.sat,U9,UG,VK,FR,GH,h1,h2] at hQ ⊢
 (with_reducible repeat' first|apply Al|intro _)
 all_goals first|exact Ak|omega|with_reducible rfl|rfl|exact Wa9 _ _ _ _ _ _|(rename_i h;exact h.elim)|(rename_i h;exact ⟨.tup [tO c T U O n a b u v,.lit true],⟨⟨rfl,rfl,λ_ _=>rfl,rfl⟩,rfl,Ak⟩,hQ.1 h⟩)|(rename_i h;exact ⟨.tup [nilP,.lit false],⟨rfl,rfl,Ak⟩,hQ.2 h⟩)
end
def col(j:Nat)(f:Ci):Cg:=λk=>Wm2 (f k) j
def fE:D9:=λl=>match l with
 |[.agg [.x (.int .i64 c),.x (.int .i64 T),.x (.int .i64 U),.x (.int .i64 O)],.lst 4 n f]=>some (.need [UH 4 n f,1<=c/\c<=10,1<=U/\U<=O/\O<=200/\1<=T/\T<=2000,n<=1000,D4 (λk=>rdB c (col 0 f k) (col 1 f k) (col 2 f k) (col 3 f k)) n=true]
   (.branch (okR c.toNat T U O n (col 0 f) (col 1 f) (col 2 f) (col 3 f)) (.leaf (.tup [tO c.toNat T U O n (col 0 f) (col 1 f) (col 2 f) (col 3 f),.lit true])) (.leaf (.tup [nilP,.lit false]))))
 |_=>none
theorem wX:Enters VN 158/\ ∀avs t,fE avs=some t->UK VN 158 avs t:=by
 refine ⟨(UI Tryz.func158),?_⟩;intro avs t h;unfold fE at h;split at h;rename_i c T U O n f;cases h;intro Q hQ;have I:=GC hQ.1;have hr:UH 4 n f:=I _ VS;have hc:1<=c/\c<=10:=I _ VS;have HX:D4 (λk=>rdB c (col 0 f k) (col 1 f k) (col 2 f k) (col 3 f k)) n=true:=I _ VS;have e:((c.toNat:Nat):Int)=c:=VI;have h0:=SV c.toNat T U O n (col 0 f) (col 1 f) (col 2 f) (col 3 f) VI (I _ VS) (I _ VS) (by rw [e];exact HX)
 rw [e] at h0;exact UK.same h0 (.cons (.refl _) (.cons (.lst 4 n _ _ hr) .nil)) Q hQ.2;cases h
theorem PJ.same{P:Program}{f:FuncId}{avs avs':List AV}{t:VL AV}(h:PJ P f avs' t)(k:LK avs avs'):PJ P f avs t:=λQ hQ e w args hro hgl FO hr=>h Q hQ e w args hro hgl (k.idf FO) (k.rep hr)
def Qh2:UX
 |[.agg [.x (.int .i64 a),.x (.int .i64 b),.x (.int .i64 u),.x (.int .i64 v)],.ro [.fn (.func 192) [.agg [.x (.int .i64 c),.x (.int .i64 T),.x (.int .i64 U),.x (.int .i64 O)]] []]]=>some ([1<=c/\c<=10],bl (!rdB c a b u v))
 |_=>none
theorem Wx0(c T U O a b u v:Int)(VR:1<=c/\c<=10):VW VN 227 [.agg [i a,i b,i u,i v],.ro [.fn (.func 192) [.agg [i c,i T,i U,i O]] []]] (bl (!rdB c a b u v)):=by
 refine U0 (L:=[]) (Ae nN Aa) VX Tryz.func227 (US Tryz.f227) U1 (t:=need [(1:Int)<=c/\c<=10] (leaf (RV.x (.bool !rdB c a b u v)))) VT ?_;simp [VL.sat,U9,UV,UB];exact VR
theorem lP:VO VN 227 Qh2:=by
 refine ⟨(UI Tryz.func227),?_⟩;intro avs ns Z h I;unfold Qh2 at h;split at h;cases h;exact Wx0 _ _ _ _ _ _ _ _ (I _ VS);cases h
def yC(c:Int)(a b u v:Cg)(k:Nat):Bool:= !rdB c (a k) (b k) (u k) (v k)
def N2(c:Int)(n:Nat)(a b u v:Cg):Bool:=D4 (λk=>rdB c (a k) (b k) (u k) (v k)) n
abbrev X8(c:Int)(T:Int)(U:Int)(O:Int):AV:=AV.fn (Fn.func 227) [] [AV.ro [AV.fn (Fn.func 192) [agg [iI c,iI T,iI U,iI O]] []]]
section
variable (c T U O:Int)(n:Nat)(a b u v:Cg)
def mU:St:={σ:=[XB n a b u v,X8 c T U O]++HH 5 [iI (n:Int)]++HH 11 [],m:=[],nx:=4}
noncomputable def Zc8:Code:=U7 (VQ (U6 Tryz.f245) 0)
def Qb7(k:Nat):St:=(upM [(8,i k)] (mU c T U O n a b u v))
def kS(k:Nat):G6->Option St
 | .ret=>some (upM [(4,i (GW (yC c a b u v) n))] (mU c T U O n a b u v))
 | .exit 0=>some (upM [] (mU c T U O n a b u v))
 |_=>none
def Xw6:CT:= .branch (decide (GW (yC c a b u v) n<n)) (.leaf (.ret,(kS c T U O n a b u v 0 .ret).getD (mU c T U O n a b u v))) (.leaf (.exit 0,(kS c T U O n a b u v 0 (.exit 0)).getD (mU c T U O n a b u v)))
def Xb2:UF:=(HB (Qb7 c T U O n a b u v (0)) (Xw6 c T U O n a b u v))
theorem Zd1(VR:n<=100000)(UD:1<=c/\c<=10):G0 VN (.loop Zc8) (Xb2 c T U O n a b u v):=by
 refine HG (L:=[]) (Ae lP Aa) VX U1 (X:=Nat) (Qb7 c T U O n a b u v) (λk=>k<=n/\ ∀j,j<k->yC c a b u v j=false) (λk=>n-k) (kS c T U O n a b u v) (x0:=0) VS ?_ ?_ ?_;rintro k;kernel_rfl;rintro k y E h;unfold kS at h;split at h;cases h;kernel_rfl;cases h;kernel_rfl;cases h;rintro Q hQ k hx;refine ⟨(k+1),?_⟩;(with_reducible refine D2 (t:=branch (decide ((k:Int)<(n:Int))) (need [UE k n] (need [(1:Int)<=c/\c<=10] (branch (!rdB c (a k) (b k) (u k) (v k)) (need [Q4 n a b u v,VY (X8 c T U O),(k:Int)=(↑(GW (yC c a b u v) n):Int),VY (n:Int)] (leaf G6.ret)) (need [VK ((k:Int)+1)] (need [Q4 n a b u v,VY (X8 c T U O),VY (n:Int),(k:Int)+1=(↑(k+1):Int)] (leaf G6.normal)))))) (need [Q4 n a b u v,VY (X8 c T U O),VY (n:Int)] (leaf (G6.exit 0)))) VT ?_);simp only [Xw6,kS,VL.sat,GR,H4] at hQ;simp only [VL.sat,U9,UG,H4,VK,kS,DX];refine ⟨λh=>⟨VI,UD,λhb=>?_,λhb=>?_⟩,λh=>?_⟩;have hf:GW (yC c a b u v) n=k:=zJ VI hb hx.2;refine ⟨VI,λE hE=>?_⟩;cases hE;exact hQ.1 VI;refine ⟨VI,VI,⟨VI,λj hj=>?_⟩,VI⟩;rcases (show j<k\/j=k by omega) with h1|rfl
 exact hx.2 j h1;exact hb;have hf:GW (yC c a b u v) n=n:=BY (λj hj=>hx.2 j VI);intro E hE;cases hE;exact hQ.2 VI
theorem Zd2(VR:n<=100000)(UD:1<=c/\c<=10):VW VN 245 [rds n a b u v,.fn (.func 227) [] [.ro [.fn (.func 192) [.agg [i c,i T,i U,i O]] []]]] (i (if GW (yC c a b u v) n<n then (GW (yC c a b u v) n:Int) else -1)):=by
 refine U0 (L:=[Xb2 c T U O n a b u v]) (Ae lP Aa) VX Tryz.func245 (US Tryz.f245) (UY (lpE (b:= .loop Zc8) VT<|Zd1 c T U O n a b u v VR UD)) (t:=need [Q4 n a b u v,VY (X8 c T U O),VY (n:Int),(0:Int)=((0:Nat):Int)] (branch (decide (GW (yC c a b u v) n<n)) (leaf (RV.x (.int .i64 (↑(GW (yC c a b u v) n):Int)))) (leaf (RV.x (.int .i64 (-1:Int)))))) VT ?_
 exact VA
end
theorem isRec4(n:Nat)(a b u v:Cg):UH 4 n (λk=>[i (a k),i (b k),i (u k),i (v k)]):=λ_ _=>rfl
def Xw9:UX
 |[.lst 4 n f,.fn (.func 227) [] [.ro [.fn (.func 192) [.agg [.x (.int .i64 c),.x (.int .i64 T),.x (.int .i64 U),.x (.int .i64 O)]] []]]]=>some ([UH 4 n f,n<=100000,1<=c/\c<=10],i (if GW (yC c (col 0 f) (col 1 f) (col 2 f) (col 3 f)) n<n then (GW (yC c (col 0 f) (col 1 f) (col 2 f) (col 3 f)) n:Int) else -1))
 |_=>none
def Xx4:UX
 |[.lst 4 n f,.fn (.func 227) [] [.ro [.fn (.func 192) [.agg [.x (.int .i64 c),.x (.int .i64 T),.x (.int .i64 U),.x (.int .i64 O)]] []]]]=>some ([UH 4 n f,n<=100000,1<=c/\c<=10],bl (!N2 c n (col 0 f) (col 1 f) (col 2 f) (col 3 f)))
 |_=>none
def Wz3:UX
 |[.lst 4 n f,.fn (.func 192) [.agg [.x (.int .i64 c),.x (.int .i64 T),.x (.int .i64 U),.x (.int .i64 O)]] []]=>some ([UH 4 n f,n<=100000,1<=c/\c<=10],bl (N2 c n (col 0 f) (col 1 f) (col 2 f) (col 3 f)))
 |_=>none
def flt(c T U O:Int)(n:Nat)(a b u v:Cg):Int:=if qA c T U O then (if 12<n then 3 else if N2 c n a b u v then 0 else 2) else 1
def Qg6:UX
 |[.agg [.x (.int .i64 c),.x (.int .i64 T),.x (.int .i64 U),.x (.int .i64 O)],.lst 4 n f]=>some ([UH 4 n f],i (flt c T U O n (col 0 f) (col 1 f) (col 2 f) (col 3 f)))
 |_=>none
theorem Zd0:VO VN 245 Xw9:=by
 refine ⟨(UI Tryz.func245),?_⟩;intro avs ns Z h I;unfold Xw9 at h;split at h;cases h;have hr:UH 4 _ _:=I _ (GB);exact (Zd2 _ _ _ _ _ (col 0 _) (col 1 _) (col 2 _) (col 3 _) (I _ VS) (I _ VS)).same (.cons (.lst 4 _ _ _ hr) (.cons (.refl _) .nil));cases h
section
variable (c T U O:Int)(n:Nat)(a b u v:Cg)
theorem Zr6(VR:n<=100000)(UD:1<=c/\c<=10):VW VN 226 [rds n a b u v,.fn (.func 227) [] [.ro [.fn (.func 192) [.agg [i c,i T,i U,i O]] []]]] (bl (!N2 c n a b u v)):=by
 refine U0 (L:=[]) (Ae Zd0 Aa) VX Tryz.func226 (US Tryz.f226) U1 (t:=need [UH 4 n λk=>[i (a k),i (b k),i (u k),i (v k)],n<=100000,(1:Int)<=c/\c<=10] (leaf (RV.x (.bool (decide ((if GW (yC c a b u v) n<n then (↑(GW (yC c a b u v) n):Int) else (-1:Int))>=(0:Int))))))) VT ?_
 simp only [VL.sat,U9,UV,UB,UG];refine ⟨⟨isRec4 n _ _ _ _,VR,UD⟩,?_⟩;unfold N2;rw [kE];have:=F2 (yC c a b u v) n;have e:(λk=> !(λk=>rdB c (a k) (b k) (u k) (v k)) k)=yC c a b u v:=rfl;rw [e];split<;>simp<;>omega
theorem Zr5:VO VN 226 Xx4:=by
 refine ⟨(UI Tryz.func226),?_⟩;intro avs ns Z h I;unfold Xx4 at h;split at h;cases h;have hr:UH 4 _ _:=I _ (GB);exact (Zr6 _ _ _ _ _ (col 0 _) (col 1 _) (col 2 _) (col 3 _) (I _ VS) (I _ VS)).same (.cons (.lst 4 _ _ _ hr) (.cons (.refl _) .nil));cases h
theorem Xp1(VR:n<=100000)(UD:1<=c/\c<=10):VW VN 193 [rds n a b u v,.fn (.func 192) [.agg [i c,i T,i U,i O]] []] (bl (N2 c n a b u v)):=by
 refine U0 (L:=[]) (Ae Zr5 Aa) VX Tryz.func193 (US Tryz.f193) U1 (t:=need [UH 4 n λk=>[i (a k),i (b k),i (u k),i (v k)],n<=100000,(1:Int)<=c/\c<=10] (leaf (RV.x (.bool !!N2 c n a b u v)))) VT ?_;simp only [VL.sat,U9,UV,UB,UG];refine ⟨⟨isRec4 n _ _ _ _,VR,UD⟩,?_⟩;simp
end
theorem Xp0:VO VN 193 Wz3:=by
 refine ⟨(UI Tryz.func193),?_⟩;intro avs ns Z h I;unfold Wz3 at h;split at h;cases h;have hr:UH 4 _ _:=I _ (GB);exact (Xp1 _ _ _ _ _ (col 0 _) (col 1 _) (col 2 _) (col 3 _) (I _ VS) (I _ VS)).same (.cons (.lst 4 _ _ _ hr) (.cons (.refl _) .nil));cases h
theorem LY{c T U O:Int}(h:qA c T U O=true):(1<=c/\c<=10)/\(1<=U/\U<=O/\O<=200/\1<=T/\T<=2000)/\c*U<=T/\T<=c*O:=by
 simp only [qA,GT,bt_iff,insB_iff] at h;omega
theorem Wu5(c T U O:Int)(n:Nat)(a b u v:Cg):VW VN 157 [.agg [i c,i T,i U,i O],rds n a b u v] (i (flt c T U O n a b u v)):=by
 refine U0 (L:=[]) (Ae CheckTube_ok (Ae Xp0 Aa)) VX Tryz.func157 (US Tryz.f157) U1 (t:=branch ((if qA c T U O=true then (0:Int) else (1:Int)) != 0) (leaf (RV.x (.int .i64 (if qA c T U O=true then (0:Int) else (1:Int))))) (branch (decide ((n:Int)>12)) (leaf (RV.x (.int .i64 (3:Int)))) (need [UH 4 n λk=>[i (a k),i (b k),i (u k),i (v k)],n<=100000,(1:Int)<=c/\c<=10] (branch (!N2 c n a b u v) (leaf (RV.x (.int .i64 (2:Int)))) (leaf (RV.x (JR))))))) VT ?_
 simp only [VL.sat,U9,UV,UB,UG,flt];by_cases ht:qA c T U O=true;have hb:=LY ht;by_cases I:12<n;simp [ht,I];omega;cases ha:N2 c n a b u v<;>simp [ht,I,ha,isRec4 n a b u v]<;>omega;simp [ht]
theorem Wu4:VO VN 157 Qg6:=by
 refine ⟨(UI Tryz.func157),?_⟩;intro avs ns Z h I;unfold Qg6 at h;split at h;cases h;have hr:UH 4 _ _:=I _ (GB);exact (Wu5 _ _ _ _ _ (col 0 _) (col 1 _) (col 2 _) (col 3 _)).same (.cons (.refl _) (.cons (.lst 4 _ _ _ hr) .nil));cases h
theorem oI(f:Cg)(k:Nat)(VR:k<=10)(UD: -1000000000000<=f (k*11+4)/\f (k*11+4)<=1000000000000):VW VN 195 [.roI [] 125 f 0,i k] (i (-(f (k*11+4)))):=by
 refine GV Tryz.func195 (t:=need [UE k 11] (need [UE 0 11] (need [0+(k*11+4)<125] (need [VK (-f (0+(k*11+4)))] (leaf (RV.x (.int .i64 (-f (0+(k*11+4)))))))))) VT ?_;simp only [VL.sat,U9,UV,GJ,UB,UG,DX];rw [show 0+(k*11+4)=k*11+4 by omega]
 simp only [VK];simp;omega
def lZ:UX
 |[.roI [] 125 f 0,.x (.int .i64 k)]=>some ([0<=k/\k<=10,-1000000000000<=f (k.toNat*11+4)/\f (k.toNat*11+4)<=1000000000000],i (-(f (k.toNat*11+4))))
 |_=>none
theorem oG:VO VN 195 lZ:=by
 refine ⟨(UI Tryz.func195),?_⟩;intro avs ns Z h I;unfold lZ at h;split at h;rename_i f k;cases h;have hk:0<=k/\k<=10:=I _ VS;have e:((k.toNat:Nat):Int)=k:=VI;have h0:=oI f k.toNat VI (I _ VS);rw [e] at h0;exact h0;cases h
theorem TY(f:Cg)(k:Nat)(VR:k<=10)(UD: -1000000000000<=f (k*11+4)/\f (k*11+4)<=1000000000000):VW VN 196 [.roI [] 125 f 0,i k] (i (f (k+4))):=by
 refine GV Tryz.func196 (t:=need [UE 0 11] (need [UE k 11] (need [k*1+4<125] (leaf (RV.x (.int .i64 (f (k*1+4)))))))) VT ?_;simp only [VL.sat,U9,UV,GJ,UB,UG,DX];rw [show k*1+4=k+4 by omega]
 simp only [VK];simp;omega
def M4:UX
 |[.roI [] 125 f 0,.x (.int .i64 k)]=>some ([0<=k/\k<=10,-1000000000000<=f (k.toNat*11+4)/\f (k.toNat*11+4)<=1000000000000],i (f (k.toNat+4)))
 |_=>none
theorem TX:VO VN 196 M4:=by
 refine ⟨(UI Tryz.func196),?_⟩;intro avs ns Z h I;unfold M4 at h;split at h;rename_i f k;cases h;have hk:0<=k/\k<=10:=I _ VS;have e:((k.toNat:Nat):Int)=k:=VI;have h0:=TY f k.toNat VI (I _ VS);rw [e] at h0;exact h0;cases h
def lY:UX
 |[]=>some ([],.agg [.fn (.func 195) [] []])
 |_=>none
theorem Qn5:VW VN 159 [] (.agg [.fn (.func 195) [] []]):=by
 refine GV Tryz.func159 (t:=leaf (RV.agg [RV.fn (Fn.func 195)])) VT ?_;exact YX
theorem Qn4:VO VN 159 lY:=by
 refine ⟨(UI Tryz.func159),?_⟩;intro avs ns Z h I;unfold lY at h;split at h;cases h;exact Qn5;cases h
def S4:UX
 |[]=>some ([],.agg [.fn (.func 196) [] []])
 |_=>none
theorem pE:VW VN 160 [] (.agg [.fn (.func 196) [] []]):=by
 refine GV Tryz.func160 (t:=leaf (RV.agg [RV.fn (Fn.func 196)])) VT ?_;exact YX
theorem pD:VO VN 160 S4:=by
 refine ⟨(UI Tryz.func160),?_⟩;intro avs ns Z h I;unfold S4 at h;split at h;cases h;exact pE;cases h
theorem Qs7(f:Cg)(k:Nat)(VR:k<=10)(UD: -1000000000000<=f (k*11+4)/\f (k*11+4)<=1000000000000):VW VN 119 [.roI [] 125 f 0,i k] (.agg [i (-(f (k*11+4))),i (f (k+4))]):=by
 refine U0 (L:=[]) (Ae oG (Ae TX (Ae Qn4 (Ae pD Aa)))) VX Tryz.func119 (US Tryz.f119) U1 (t:=need [(0:Int)<=(k:Int)/\(k:Int)<=10,(-1000000000000:Int)<=f (k*11+4)/\f (k*11+4)<=1000000000000] (need [(0:Int)<=(k:Int)/\(k:Int)<=10,(-1000000000000:Int)<=f (k*11+4)/\f (k*11+4)<=1000000000000] (leaf (RV.agg [RV.x (.int .i64 (-f (k*11+4))),RV.x (.int .i64 (f (k+4)))])))) VT ?_;exact YX
def m9:UX
 |[.roI [] 125 f 0,.x (.int .i64 k)]=>some ([0<=k/\k<=10,-1000000000000<=f (k.toNat*11+4)/\f (k.toNat*11+4)<=1000000000000],.agg [i (-(f (k.toNat*11+4))),i (f (k.toNat+4))])
 |_=>none
theorem xM:VO VN 119 m9:=by
 refine ⟨(UI Tryz.func119),?_⟩;intro avs ns Z h I;unfold m9 at h;split at h;rename_i f k;cases h;have hk:0<=k/\k<=10:=I _ VS;have e:((k.toNat:Nat):Int)=k:=VI;have h0:=Qs7 f k.toNat VI (I _ VS);rw [e] at h0;exact h0;cases h
def dbF(f:Cg):Nat->Int
 | 0=>0
 |k+1=>max (dbF f k) (f (k+4)- -(f (k*11+4)))
theorem pP{f:Cg}{c:Nat}(h: ∀k,k<=c->(-1000000000000<=f (k*11+4)/\f (k*11+4)<=1000000000000)/\(-1000000000000<=f (k+4)/\f (k+4)<=1000000000000)): ∀k,k<=c+1->0<=dbF f k/\dbF f k<=2000000000000
 | 0,_=>by simp [dbF]
 |k+1,hk=>by
  have:=pP h k VI;have:=h k VI;simp only [dbF];omega
abbrev KD(f:Cg):AV:=roI [] 125 (λa=>f a) 0
def Zx4(c:Nat)(f:Cg):St:={σ:=[KD f]++HH 9 [iI (f 0+1)]++HH 16 [],m:=[],nx:=8}
noncomputable def Jy6:Code:=U7 (VQ (U6 Tryz.f233) 0)
section
variable (c:Nat)(f:Cg)
def Wl8(k:Nat):St:=(upM [(2,i (dbF f k)),(11,i k)] (Zx4 c f))
def E4(k:Nat):G6->Option St
 | .exit 0=>some (upM [(2,i (dbF f (c+1))),(11,i ((c+1:Nat):Int))] (Zx4 c f))
 |_=>none
def Jt9:CT:= .leaf (.exit 0,(E4 c f 0 (.exit 0)).getD (Zx4 c f))
def Zc4:UF:=(HB (Wl8 c f (0)) (Jt9 c f))
theorem Jn7(VR:c<=10)(UD:f 0=c)(HF: ∀k,k<=c->(-1000000000000<=f (k*11+4)/\f (k*11+4)<=1000000000000)/\(-1000000000000<=f (k+4)/\f (k+4)<=1000000000000)):G0 VN (.loop Jy6) (Zc4 c f):=by
 refine HG (L:=[]) (Ae xM (Ae fV Aa)) VX U1 (X:=Nat) (Wl8 c f) (λk=>k<=c+1) (λk=>c+1-k) (E4 c f) (x0:=0) VS ?_ ?_ ?_;rintro k;kernel_rfl;rintro k y E h;unfold E4 at h;split at h;cases h;kernel_rfl;cases h;rintro Q hQ k hx;refine ⟨(k+1),?_⟩;(with_reducible refine D2 (t:=branch (decide ((k:Int)<f 0+1)) (need [(0:Int)<=(k:Int)/\(k:Int)<=10,(-1000000000000:Int)<=f (k*11+4)/\f (k*11+4)<=1000000000000] (need [VK (f (k+4)- -f (k*11+4))] (need [VK ((k:Int)+1)] (need [KD f=KD f,max (dbF f k) (f (k+4)- -f (k*11+4))=dbF f (k+1),VY (f 0+1),(k:Int)+1=(↑(k+1):Int)] (leaf G6.normal))))) (need [KD f=KD f,dbF f k=dbF f (c+1),VY (f 0+1),(k:Int)=(↑(c+1):Int)] (leaf (G6.exit 0)))) VT ?_);simp only [Jt9,E4,VL.sat,GR] at hQ;simp only [VL.sat,U9,UG,H4,VK,E4,DX];refine ⟨λh=>?_,λh=>?_⟩;have h1:=HF k VI;have h2:=pP HF k VI;refine ⟨⟨VI,h1.1⟩,VI,VI,⟨rfl,VI⟩,VI,VI⟩;obtain rfl:k=c+1:=VI;exact ⟨⟨rfl,rfl⟩,λE hE=>by cases hE;exact hQ⟩
theorem Wt9(VR:c<=10)(UD:f 0=c)(HF: ∀k,k<=c->(-1000000000000<=f (k*11+4)/\f (k*11+4)<=1000000000000)/\(-1000000000000<=f (k+4)/\f (k+4)<=1000000000000)):VW VN 233 [.roI [] 125 f 0] (i (dbF f (c+1))):=by
 refine U0 (L:=[Zc4 c f]) (Ae xM (Ae fV Aa)) VX Tryz.func233 (US Tryz.f233) (UY (lpE (b:= .loop Jy6) VT<|Jn7 c f VR UD HF)) (t:=need [0<125] (need [VK (f 0+1)] (need [KD f=KD f,(0:Int)=dbF f 0,VY (f 0+1),(0:Int)=((0:Nat):Int)] (leaf (RV.x (.int .i64 (dbF f (c+1)))))))) VT ?_
 simp only [VL.sat,U9,UV,GJ,UB,UG,DX];simp only [VK];have h2:=pP HF (c+1) VI;all_goals exact V4
end
def Qg5:UX
 |[.roI [] 125 f 0]=>some ([0<=f 0/\f 0<=10,∀k,k<=(f 0).toNat->(-1000000000000<=f (k*11+4)/\f (k*11+4)<=1000000000000)/\(-1000000000000<=f (k+4)/\f (k+4)<=1000000000000)],i (dbF f ((f 0).toNat+1)))
 |_=>none
theorem Wt8:VO VN 233 Qg5:=by
 refine ⟨(UI Tryz.func233),?_⟩;intro avs ns Z h I;unfold Qg5 at h;split at h;rename_i f;cases h;have hk:0<=f 0/\f 0<=10:=I _ VS;exact Wt9 (f 0).toNat f VI VI (I _ VS);cases h
section
variable (c T U O:Int)(n:Nat)(a b u v:Cg)
abbrev c9:AV:=tO c.toNat T U O n a b u v
def okB:Bool:=okR c.toNat T U O n a b u v
def fltB(r:Bool):Int:=if flt c T U O n a b u v=0 then (if r then (if okB c T U O n a b u v then 0 else 9) else 2) else flt c T U O n a b u v
end
section
variable {c T U O:Int}{n:Nat}{a b u v:Cg}
theorem flt_iff:flt c T U O n a b u v=0↔qA c T U O=true/\n<=12/\D4 (λk=>rdB c (a k) (b k) (u k) (v k)) n=true:=by
 unfold flt N2;split;rename_i h1;split;rename_i h2;constructor;intro h;cases h;intro h;omega;rename_i h2;split;rename_i h3;exact ⟨λ_=>⟨h1,VI,h3⟩,λ_=>rfl⟩;rename_i h3;constructor;intro h;cases h;intro h;exact absurd h.2.2 h3;rename_i h1;constructor;intro h;cases h;intro h;exact absurd h.1 h1
theorem BA{r:Bool}:fltB c T U O n a b u v r=0↔flt c T U O n a b u v=0/\r=true/\okB c T U O n a b u v=true:=by
 unfold fltB;split;rename_i h1;split;rename_i h2;split;rename_i h3;simp [h1,h2,h3];rename_i h3;simp [h1,h2,h3];rename_i h2;simp [h1,h2];rename_i h1;simp [h1]
end
theorem bO(c T U O:Int)(n:Nat)(a b u v:Cg)(r:Bool):UK VN 118 [.agg [i c,i T,i U,i O],rds n a b u v,bl r] (.branch (decide (fltB c T U O n a b u v r=0)) (.leaf (.tup [c9 c T U O n a b u v,i 0])) (.leaf (.tup [nilP,i (fltB c T U O n a b u v r)]))):=by
 refine GS (L:=[]) (Ae Wu4 Aa) (Aj Ab Ac (Ah wX (UA.nil _))) VX Tryz.func118 (US Tryz.f118) G7 (t:=need [UH 4 n λk=>[i (a k),i (b k),i (u k),i (v k)]] (branch (flt c T U O n a b u v != 0) (leaf (tup [QU,iI (flt c T U O n a b u v)])) (branch (!r) (leaf (tup [QU,iI 2])) (need [UH 4 n λk=>[i (a k),i (b k),i (u k),i (v k)],(1:Int)<=c/\c<=10,(1:Int)<=U/\U<=O/\O<=200/\(1:Int)<=T/\T<=2000,n<=1000,D4 (λk=>rdB c (a k) (b k) (u k) (v k)) n=true] (branch (okR (Int.toNat c) T U O n a b u v) (leaf (tup [roI [] 125 (λk=>UC (Int.toNat c:Int) T U O (fwM (Int.toNat c) T U O n a b u v) k) 0,iI 0])) (leaf (tup [QU,iI 9]))))))) VT ?_;intro Q hQ;have e:c.toNat=c\/c<0:=VI;simp only [VL.sat,U9,UG,FJ,H4,Ax] at hQ ⊢;refine ⟨isRec4 n a b u v,λh1=>?_,λh1=>?_⟩;refine ⟨.tup [nilP,i (flt c T U O n a b u v)],⟨rfl,⟨rfl,rfl⟩,Ak⟩,?_⟩;have h2:fltB c T U O n a b u v r=flt c T U O n a b u v:=by unfold fltB;rw [if_neg h1]
 rw [h2] at hQ;exact hQ.2 h1;have hf:=flt_iff.1 h1;have hb:=LY hf.1;refine ⟨λh2=>?_,λh2=>⟨⟨isRec4 n a b u v,hb.1,hb.2.1,by have:=hf.2.1;omega,hf.2.2⟩,λh3=>?_,λh3=>?_⟩⟩
 subst h2;have h4:fltB c T U O n a b u v false=2:=by unfold fltB;rw [if_pos h1];rfl
 rw [h4] at hQ;exact ⟨.tup [nilP,i 2],⟨rfl,⟨rfl,rfl⟩,Ak⟩,hQ.2 VI⟩;have h2:r=true:=by simpa using h2
 subst h2;have h4:fltB c T U O n a b u v true=0:=BA.2 ⟨h1,rfl,h3⟩;exact ⟨.tup [c9 c T U O n a b u v,i 0],⟨⟨rfl,rfl,λ_ _=>rfl,rfl⟩,⟨rfl,rfl⟩,Ak⟩,hQ.1 h4⟩;have h2:r=true:=by simpa using h2
 subst h2;have h4:fltB c T U O n a b u v true=9:=by unfold fltB okB;rw [if_pos h1,h3];rfl
 rw [h4] at hQ;exact ⟨.tup [nilP,i 9],⟨rfl,⟨rfl,rfl⟩,Ak⟩,hQ.2 VI⟩
def bB:D9:=λl=>match l with
 |[.agg [.x (.int .i64 c),.x (.int .i64 T),.x (.int .i64 U),.x (.int .i64 O)],.lst 4 n f,.x (.bool r)]=>some (.need [UH 4 n f] (.branch (decide (fltB c T U O n (col 0 f) (col 1 f) (col 2 f) (col 3 f) r=0)) (.leaf (.tup [c9 c T U O n (col 0 f) (col 1 f) (col 2 f) (col 3 f),i 0])) (.leaf (.tup [nilP,i (fltB c T U O n (col 0 f) (col 1 f) (col 2 f) (col 3 f) r)]))))
 |[.agg [.x (.int .i64 c),.x (.int .i64 T),.x (.int .i64 U),.x (.int .i64 O)],.lst 4 n f,.lit r]=>some (.need [UH 4 n f] (.branch (decide (fltB c T U O n (col 0 f) (col 1 f) (col 2 f) (col 3 f) r=0)) (.leaf (.tup [c9 c T U O n (col 0 f) (col 1 f) (col 2 f) (col 3 f),i 0])) (.leaf (.tup [nilP,i (fltB c T U O n (col 0 f) (col 1 f) (col 2 f) (col 3 f) r)]))))
 |_=>none
theorem U2.lits{e:UL}{w:World}{r:Bool}: ∀{l:List AV} {vs:List Value},U2 e w (l++[.lit r]) vs->U2 e w (l++[.x (.bool r)]) vs
 |[],vs,h=>by
  obtain ⟨v,vs',rfl,hv,hvs⟩:=h.cons_inv;cases hv;exact U2.cons (.x _) hvs
 |a::l,vs,h=>by
  obtain ⟨v,vs',rfl,hv,hvs⟩:=h.cons_inv;exact U2.cons hv (U2.lits hvs)
theorem UK.lits{P:Program}{f:FuncId}{l:List AV}{r:Bool}{t:VL AV}(h:UK P f (l++[.x (.bool r)]) t):UK P f (l++[.lit r]) t:=λQ hQ e w args hro hgl FO hr=>h Q hQ e w args hro hgl (λa ha=>by
 rcases List.mem_append.1 ha with h1|h1;exact FO a (Bd _ h1);cases PM.1 h1;exact .x _) (U2.lits hr)
theorem gY:Enters VN 118/\ ∀avs t,bB avs=some t->UK VN 118 avs t:=by
 refine ⟨(UI Tryz.func118),?_⟩;intro avs t h;unfold bB at h;split at h;rename_i c T U O n f r;cases h;intro Q hQ;have hr:UH 4 n f:=GC hQ.1 _ VS;exact UK.same (bO c T U O n (col 0 f) (col 1 f) (col 2 f) (col 3 f) r) (.cons (.refl _) (.cons (.lst 4 n _ _ hr) (.cons (.refl _) .nil))) Q hQ.2;rename_i c T U O n f r;cases h;intro Q hQ;have hr:UH 4 n f:=GC hQ.1 _ VS;exact UK.lits (l:=[.agg [.x (.int .i64 c),.x (.int .i64 T),.x (.int .i64 U),.x (.int .i64 O)],.lst 4 n f]) (UK.same (bO c T U O n (col 0 f) (col 1 f) (col 2 f) (col 3 f) r) (.cons (.refl _) (.cons (.lst 4 n _ _ hr) (.cons (.refl _) .nil)))) Q hQ.2;cases h
section
variable (c T U O:Int)(n:Nat)(a b u v:Cg)
def eB:Int:=fltB c T U O n a b u v true
def fwB:Nat->Cg:=fwM c.toNat T U O n a b u v
def sfB:Cg:=UC (c.toNat:Nat) T U O (fwB c T U O n a b u v)
def dtB:Int:=if eB c T U O n a b u v=0 then dbF (sfB c T U O n a b u v) (c.toNat+1) else 0
def rM:Nat:=if eB c T U O n a b u v=0 then c.toNat+1 else 0
end
theorem Xv1{c a b u v:Int}(h:rdB c a b u v=true):(0<=a/\a<=c-1)/\(a<=b/\b<=c)/\0<=u/\u<=v/\v<=2000:=by
 simp only [rdB,GT,bt_iff,insB_iff] at h;omega
theorem a8{c T U O:Int}{n:Nat}{a b u v:Cg}(h:flt c T U O n a b u v=0)(x y:Nat): -1000000000000<=fwB c T U O n a b u v x y/\fwB c T U O n a b u v x y<=2000:=by
 have hf:=flt_iff.1 h;have hb:=LY hf.1;have hl:=nP (c:=c.toNat) (a:=a) (b:=b) hb.2.1 (λj hj=>(Xv1 (GK.1 hf.2.2 j hj)).2.2) n (Am n);have h1:=Zt8 (c:=c.toNat) hl (c.toNat+1) x y;have h2:=Jg5 c.toNat VI;rw [Int.pow_succ] at h1;unfold fwB fwM;omega
section
variable (c T U O:Int)(n:Nat)(a b u v:Cg)
theorem Xv0:sfB c T U O n a b u v 0=c.toNat:=rfl
theorem SP(k:Nat):sfB c T U O n a b u v (k*11+4)=fwB c T U O n a b u v k 0:=qB _ _ _ _ _ VI VI
theorem cA{k:Nat}(hk:k<=10):sfB c T U O n a b u v (k+4)=fwB c T U O n a b u v 0 k:=qB _ _ _ _ _ VI VI
abbrev YC:Ext:={R:=[],H:=[],C:=[(118,bB)] }
theorem Xe1:VW VN 203 [.agg [i c,i T,i U,i O],rds n a b u v] (.tup [i (dtB c T U O n a b u v),i (eB c T U O n a b u v)]):=by
 refine G8 (L:=[]) (Ae Wt8 Aa) (Aj Ab Ac (Ah gY (UA.nil _))) VX Tryz.func203 (US Tryz.f203) G7 (t:=let A:=(fwM (Int.toNat c) T U O n a b u v);let W:=fltB c T U O n a b u v true;(need [UH 4 n λk=>[i (a k),i (b k),i (u k),i (v k)]] (branch (decide (W=0)) (branch ((0:Int) != 0) (leaf (RV.tup [RV.x (JR),RV.x (JR)])) (need [(0:Int)<=UC (Int.toNat c:Int) T U O A 0/\UC (Int.toNat c:Int) T U O A 0<=10,∀(k:Nat),k<=(UC (Int.toNat c:Int) T U O A 0).toNat->((-1000000000000:Int)<=UC (Int.toNat c:Int) T U O A (k*11+4)/\UC (Int.toNat c:Int) T U O A (k*11+4)<=1000000000000)/\(-1000000000000:Int)<=UC (Int.toNat c:Int) T U O A (k+4)/\UC (Int.toNat c:Int) T U O A (k+4)<=1000000000000] (leaf (RV.tup [RV.x (.int .i64 (dbF (UC (Int.toNat c:Int) T U O A) ((UC (Int.toNat c:Int) T U O A 0).toNat+1))),RV.x (JR)])))) (branch (W != 0) (leaf (RV.tup [RV.x (JR),RV.x (.int .i64 (W))])) VL.fail)))) VT ?_;have eq: ∀k,UC (c.toNat:Nat) T U O (fwM c.toNat T U O n a b u v) k=sfB c T U O n a b u v k:=λ_=>rfl;simp only [VL.sat,U9,UG,FJ,H4,Ax,not_true_eq_false,false_imp_iff,eq,UV];refine ⟨isRec4 n a b u v,λh1 _=>?_,λh1=>⟨λ_=>?_,λh2=>h1 h2⟩⟩;have hf:=(BA.1 h1).1;have hc:=(LY (flt_iff.1 hf).1).1;have e0:(sfB c T U O n a b u v 0).toNat=c.toNat:=by rw [Xv0];omega
 refine ⟨⟨by rw [Xv0];omega,λk hk=>?_⟩,?_⟩
 rw [e0] at hk;rw [SP,cA _ _ _ _ _ _ _ _ _ VI];have h2:=a8 hf k 0;have h3:=a8 hf 0 k;omega;rw [e0];unfold dtB eB;rw [if_pos h1,h1];exact ⟨⟨rfl,rfl⟩,⟨rfl,rfl⟩,Ak⟩;unfold dtB eB;rw [if_neg h1];exact ⟨⟨rfl,rfl⟩,⟨rfl,rfl⟩,Ak⟩
end
section
variable {sz k:Nat}{l:List AV}{x:AV}
theorem Qs2(h:x∈U3 sz l k):x∈l:=List.mem_of_mem_drop (List.mem_of_mem_take h)
theorem FG(hm:x∈U3 sz l k)(h: ∀y∈l,AV.one y=true):AV.one x=true:=h x (Qs2 hm)
end
theorem Jo7{k j:Nat}{a b:Cg}{x y:Int}(h:j<k+1)(hx:x=a k)(hy:y=b k):GD k (λk=>[i (a k),i (b k)]) (U3 2 [i x,i y]) j=[i (a j),i (b j)]:=by
 have e:j-k=0:=VI;show H3 (decide (j<k)) [i (a j),i (b j)] (U3 2 [i x,i y] (j-k))=_;rw [e];by_cases hj:j<k;rw [show decide (j<k)=true by simp [hj]]
 rfl;have hk:j=k:=VI;rw [show decide (j<k)=false by simp [hj],hk,hx,hy]
 rfl
section
variable (c T U O:Int)(n:Nat)(a b u v:Cg)
def Zv8:St:={σ:=[.agg [i c,i T,i U,i O],rds n a b u v,.ptr 0 0,.top,.x (.slice none 0 0),i 0,c9 c T U O n a b u v,i 0,.top,.top,.top,.top,.top,.top,.top,.top,.top,.top,.top,.top,.top,i (c+1),.top,.top,.top,.top,.top,.top,.top,.top,.top,.top,.top],m:=[(900,.row 47 2 0 (λ_=>[])),(0,.cells 49 [i c,i T,i U,i O])],nx:=901}
noncomputable def Jx2:Code:=U7 (VQ (U6 Tryz.f75) 0)
def Wk1(k:Nat):St:=(upE [(8,.row 900),(22,i k)] [(900,.row 47 2 (k) (λk=>[i (-(fwB c T U O n a b u v k 0)),i (fwB c T U O n a b u v 0 k)])),(0,.cells 49 [i c,i T,i U,i O])] (Zv8 c T U O n a b u v))
def CN(k:Nat):G6->Option St
 | .exit 0=>some (upE [(8,.row 900)] [(900,.row 47 2 (c.toNat+1) (λk=>[i (-(fwB c T U O n a b u v k 0)),i (fwB c T U O n a b u v 0 k)])),(0,.cells 49 [i c,i T,i U,i O])] (Zv8 c T U O n a b u v))
 |_=>none
def Js2:CT:= .leaf (.exit 0,(CN c T U O n a b u v 0 (.exit 0)).getD (Zv8 c T U O n a b u v))
def Za6:UF:=GI [(.slot 8,900,47,2)] (HB (Wk1 c T U O n a b u v (0)) (Js2 c T U O n a b u v))
abbrev KC:AV:=AV.x (.slice none 0 0)
abbrev Y2:Prop:=(0:Int)=0
theorem Jj7(VR:flt c T U O n a b u v=0):G0 VN (.loop Jx2) (Za6 c T U O n a b u v):=by
 refine zE [(.slot 8,900,47,2)] (L:=[]) (Ae xM Aa) VX U1 (X:=Nat) (Wk1 c T U O n a b u v) (λk=>k<=c.toNat+1) (λk=>c.toNat+1-k) (CN c T U O n a b u v) (x0:=0) VS ?_ ?_ ?_;rintro k;kernel_rfl;rintro k y E h;unfold CN at h;split at h;cases h;kernel_rfl;cases h;rintro Q hQ k hx;refine ⟨(k+1),?_⟩;(with_reducible refine D2 (t:=let A:=(fwM (Int.toNat c) T U O n a b u v);let W:=fwB c T U O n a b u v;let z2:=(VY (roI [] 125 (λk=>UC (Int.toNat c:Int) T U O A k) 0));let z3:=(UC (Int.toNat c:Int) T U O A (k+4));(branch (decide ((k:Int)<c+1)) (need [(0:Int)<=(k:Int)/\(k:Int)<=10,(-1000000000000:Int)<=UC (Int.toNat c:Int) T U O A (k*11+4)/\UC (Int.toNat c:Int) T U O A (k*11+4)<=1000000000000] (need [(k+1)*16<=140737488355328,RH 1 (U3 2 [iI (-UC (Int.toNat c:Int) T U O A (k*11+4)),iI z3])] (need [VK ((k:Int)+1)] (need [VY (agg [iI c,iI T,iI U,iI O]),Q4 n a b u v,XO,KC=KC,Y2,z2,Y2,VY (AV.row 900),VY (c+1),(k:Int)+1=(↑(k+1):Int),k+1=k+1,GU (k+1) (GD k (λk=>[Bo.i (-W k 0),Bo.i (W 0 k)]) (U3 2 [iI (-UC (Int.toNat c:Int) T U O A (k*11+4)),iI z3])) (λi=>[Bo.i (-W i 0),Bo.i (W 0 i)]),c=c,T=T,U=U,O=O] (leaf G6.normal))))) (need [VY (agg [iI c,iI T,iI U,iI O]),Q4 n a b u v,XO,KC=KC,Y2,z2,Y2,VY (AV.row 900),VY (c+1),k=Int.toNat c+1,∀(i:Nat),i<Int.toNat c+1->[Bo.i (-W i 0),Bo.i (W 0 i)]=[Bo.i (-W i 0),Bo.i (W 0 i)],c=c,T=T,U=U,O=O] (leaf (G6.exit 0))))) VT ?_)
 simp only [Js2,CN,VL.sat,GR] at hQ;have hc:=(LY (flt_iff.1 VR).1).1;have e0:((c.toNat:Nat):Int)=c:=VI;have eq: ∀k,UC c.toNat T U O (fwM c.toNat T U O n a b u v) k=sfB c T U O n a b u v k:=λ_=>rfl;simp only [VL.sat,U9,UV,GJ,UB,VK,UG,H4,FE,CN,eq]
 refine ⟨λh=>?_,λh=>?_⟩;have h2:=a8 VR k 0;have h3:=a8 VR 0 k;refine ⟨⟨VI,by rw [SP];omega⟩,⟨VI,λi O a ha=>FG ha (by simp [AV.one,Value.oneCell'])⟩,VI,⟨VI,λi O=>Jo7 O (by rw [SP]) (by rw [cA _ _ _ _ _ _ _ _ _ VI])⟩,VI,VI⟩
 obtain rfl:k=c.toNat+1:=VI;exact ⟨⟨rfl,λ_ _=>Ak⟩,λE hE=>by cases hE;exact hQ⟩
theorem mQ(VR:fltB c T U O n a b u v true=0)(UD:flt c T U O n a b u v=0):VW VN 75 [.agg [i c,i T,i U,i O],rds n a b u v] (.tup [.lst 2 (rM c T U O n a b u v) (λk=>[i (-(fwB c T U O n a b u v k 0)),i (fwB c T U O n a b u v 0 k)]),i (eB c T U O n a b u v)]):=by
 refine uA (L:=[Za6 c T U O n a b u v]) (Gd.go true (Gd.go false Gd.rest)) (Ae xM Aa) (Aj Ab Ac (Ah gY (UA.nil _))) VX Tryz.func75 (US Tryz.f75) (UY (lpE (b:= .loop Jx2) VT<|(Jj7 c T U O n a b u v UD).N)) (t:=let A:=fwB c T U O n a b u v;(need [UH 4 n λk=>[i (a k),i (b k),i (u k),i (v k)]] (need [decide (fltB c T U O n a b u v true=0)=true] (need [((0:Int) != 0)=false] (need [VK (c+1)] (need [VY (agg [iI c,iI T,iI U,iI O]),Q4 n a b u v,XO,KC=KC,Y2,VY (roI [] 125 (λk=>UC (Int.toNat c:Int) T U O (fwM (Int.toNat c) T U O n a b u v) k) 0),Y2,VY (AV.row 900),VY (c+1),(0:Int)=((0:Nat):Int),0=0,∀(i:Nat),i<0->[]=[Bo.i (-A i 0),Bo.i (A 0 i)],c=c,T=T,U=U,O=O] (leaf (RV.tup [RV.lst 2 (Int.toNat c+1) λk=>[iI (-A k 0),iI (A 0 k)],RV.x (JR)])))))))) VT ?_
 have hc:=(LY (flt_iff.1 UD).1).1;have hl:rM c T U O n a b u v=c.toNat+1:=if_pos VR;have he:eB c T U O n a b u v=0:=VR;rw [hl,he];simp only [VL.sat,U9,UV,GJ,UB,VK,UG]
 (with_reducible repeat' first|apply Al|intro _)
 all_goals first|exact Ak|with_reducible rfl|omega|exact isRec4 _ _ _ _ _|(simp [*];done)|(rename_i hm;simp only [GM,D7,or_false] at hm;rcases hm with rfl|rfl<;>exact Ak)
theorem mR(VR:fltB c T U O n a b u v true≠0):VW VN 75 [.agg [i c,i T,i U,i O],rds n a b u v] (.tup [.lst 2 (rM c T U O n a b u v) (λk=>[i (-(fwB c T U O n a b u v k 0)),i (fwB c T U O n a b u v 0 k)]),i (eB c T U O n a b u v)]):=by
 refine uA (L:=[]) (Gd.go false (Gd.go true Gd.rest)) (Ae xM Aa) (Aj Ab Ac (Ah gY (UA.nil _))) VX Tryz.func75 (US Tryz.f75) G7 (t:=let A:=fltB c T U O n a b u v true;(need [UH 4 n λk=>[i (a k),i (b k),i (u k),i (v k)]] (need [decide (A=0)=false] (need [(A != 0)=true] (leaf (RV.tup [RV.x (.slice none 0 0),RV.x (.int .i64 (A))])))))) VT ?_;have hl:rM c T U O n a b u v=0:=if_neg VR;have he:eB c T U O n a b u v=fltB c T U O n a b u v true:=rfl;rw [hl,he];simp only [VL.sat,U9,UV,GJ,UB,VK,UG]
 (with_reducible repeat' first|apply Al|intro _)
 all_goals first|exact Ak|with_reducible rfl|omega|exact isRec4 _ _ _ _ _|(simp [*];done)
end
def S_Heights:UX
 |[.agg [.x (.int .i64 c),.x (.int .i64 T),.x (.int .i64 U),.x (.int .i64 O)],.lst 4 n f]=>some ([UH 4 n f],.tup [.lst 2 (rM c T U O n (col 0 f) (col 1 f) (col 2 f) (col 3 f)) (λk=>[i (-(fwB c T U O n (col 0 f) (col 1 f) (col 2 f) (col 3 f) k 0)),i (fwB c T U O n (col 0 f) (col 1 f) (col 2 f) (col 3 f) 0 k)]),i (eB c T U O n (col 0 f) (col 1 f) (col 2 f) (col 3 f))])
 |_=>none
theorem vY(c T U O:Int)(n:Nat)(a b u v:Cg):VW VN 75 [.agg [i c,i T,i U,i O],rds n a b u v] (.tup [.lst 2 (rM c T U O n a b u v) (λk=>[i (-(fwB c T U O n a b u v k 0)),i (fwB c T U O n a b u v 0 k)]),i (eB c T U O n a b u v)]):=by
 by_cases h:fltB c T U O n a b u v true=0;exact mQ c T U O n a b u v h (BA.1 h).1;exact mR c T U O n a b u v h
theorem Heights_ok:VO VN 75 S_Heights:=by
 refine ⟨(UI Tryz.func75),?_⟩;intro avs ns Z h I;unfold S_Heights at h;split at h;rename_i c T U O n f;cases h;have hr:UH 4 n f:=I _ (GB);exact (vY c T U O n (col 0 f) (col 1 f) (col 2 f) (col 3 f)).same (.cons (.refl _) (.cons (.lst 4 n _ _ hr) .nil));cases h
