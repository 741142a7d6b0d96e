/- Contracts, put together. Conditions: those of each. -/
import Derived.Test.YtcdmhnaeifaikaaGreatDoorMb
import Derived.Test.YtcdmhnaeifaikaaGreatDoorRows
set_option linter.unusedSimpArgs false
set_option linter.unusedVariables false
set_option maxRecDepth 100000
namespace Go.Sx
open Go Go.RowKit
def vF(i R:Nat):Nat->AV->AV
 | 0,a=>match a with
  | .lit b=> .lit b
  | .x v=> .x v
  | .ro l=> .ro l
  | .lst a b c=> .lst a b c
  | .roI a b c d=> .roI a b c d
  |_=> .top
 |d+1,a=>match a with
  | .row k=>match Nat.beq k i with
   |true=> .row R
   |false=>match Nat.beq k R with
    |true=> .top
    |false=> .row k
  | .ptr k o=>match Nat.beq k i with
   |true=> .ptr R o
   |false=>match Nat.beq k R with
    |true=> .top
    |false=> .ptr k o
  | .elt k x y z=>match Nat.beq k i||Nat.beq k R with
   |true=> .top
   |false=> .elt k x y z
  | .mp k=>match Nat.beq k i||Nat.beq k R with
   |true=> .top
   |false=> .mp k
  | .agg l=> .agg (l.map (vF i R d))
  | .tup l=> .tup (l.map (vF i R d))
  | .fn f l l'=> .fn f (l.map (vF i R d)) (l'.map (vF i R d))
  |a=>a
def UP.ren(e:UP)(i R:Nat):UP:=
 {ro:=e.ro,own:=λb=>match e.own b with|some k=>if k=i then some R else if k=R then none else some k|none=>none,
  live:=λk=>(k=R/\e.live i)\/(e.live k/\k≠i/\k≠R),blk:=λk=>if k=R then e.blk i else e.blk k,val:=λk=>if k=R then e.val i else e.val k}
theorem RH{k i:Nat}(h:Nat.beq k i=false):k≠i:=by
 rintro rfl;rw [Nat.beq_refl] at h;cases h
theorem ID{k i R:Nat}(h:(Nat.beq k i||Nat.beq k R)=false):k≠i/\k≠R:=by
 rw [Bool.or_eq_false_iff] at h;exact ⟨RH h.1,RH h.2⟩
theorem zZ{e:UP}{w:World}{i R:Nat}: ∀(d:Nat) (a:AV) (v:Value),Rep e w a v->Rep (e.ren i R) w (vF i R d a) v
 | 0,a,v,r=>by
  cases r with
  |lit b=>exact .lit b
  |x v=>exact .x v
  |roI pre n f off b o Z=>exact Rep.idf (e:=e) (e':=e.ren i R) (λ_ h=>h) (.roI pre n f off b o Z) (jF (Rep.roI pre n f off b o Z) rfl)
  |ro l vs b o h1 h2 h3 h4 h5 h6=>exact Rep.idf (e:=e) (e':=e.ren i R) (λ_ h=>h) (.ro l vs b o h1 h2 h3 h4 h5 h6) (.ro l h3)
  |lstNil sz f=>exact .lstNil sz f
  |lst sz n f b o cap g h1 h2 h3 h4 h5 h6 h7 h8 ad had=>exact Rep.idf (e:=e) (e':=e.ren i R) (λ_ h=>h) (.lst sz n f b o cap g h1 h2 h3 h4 h5 h6 h7 h8 ad had) (.lst sz n f h3)
  |_=>exact .top _
 |d+1,a,v,r=>by
  have ih:=zZ (e:=e) (w:=w) (i:=i) (R:=R) d;cases r with
  |top v=>exact .top v
  |lit b=>exact .lit b
  |x v=>exact .x v
  |roI pre n f off b o Z=>exact Rep.idf (e:=e) (e':=e.ren i R) (λ_ h=>h) (.roI pre n f off b o Z) (jF (Rep.roI pre n f off b o Z) rfl)
  |ptr id off hl=>
   simp only [vF];split;rename_i hb;have:=H5 hb;subst this;have h:=Rep.ptr (e:=e.ren id R) (w:=w) R off (.inl ⟨rfl,hl⟩)
   rwa [show (e.ren id R).blk R=e.blk id by simp [UP.ren]] at h
   rename_i hb;split;exact .top _;rename_i hb2;have h:=Rep.ptr (e:=e.ren i R) (w:=w) id off (.inr ⟨hl,RH hb,RH hb2⟩)
   rwa [show (e.ren i R).blk id=e.blk id by simp [UP.ren,RH hb2]] at h
  |row id a n c hl hv=>
   simp only [vF];split;rename_i hb;have:=H5 hb;subst this;exact .row R a n c (.inl ⟨rfl,hl⟩) (by simp [UP.ren,hv])
   rename_i hb;split;exact .top _;rename_i hb2;exact .row id a n c (.inr ⟨hl,RH hb,RH hb2⟩) (by simp [UP.ren,RH hb2,hv])
  |elt id sz x y b n cap hl hv=>
   simp only [vF];split;exact .top _;rename_i hb;exact .elt (e:=e.ren i R) id sz x y b n cap (.inr ⟨hl,ID hb⟩) (by simp [UP.ren,(ID hb).2,hv])
  |mp id hl=>
   simp only [vF];split;exact .top _;rename_i hb;have h:=Rep.mp (e:=e.ren i R) (w:=w) id (.inr ⟨hl,ID hb⟩)
   rwa [show (e.ren i R).blk id=e.blk id by simp [UP.ren,(ID hb).2]] at h
  |agg l vs h1 h2=>exact Rep.aggL (U8.map _ ih ⟨h1,h2⟩)
  |tup l vs h1 h2=>exact Rep.tupL (U8.map _ ih ⟨h1,h2⟩)
  |fn f l l' vs vs' h1 h2 h3 h4=>
   have k1:U8 e w l vs:=⟨h1,h2⟩;have k2:U8 e w l' vs':=⟨h3,h4⟩;exact .fn f _ _ vs vs' (U8.map _ ih k1).1 (U8.map _ ih k1).2 (U8.map _ ih k2).1 (U8.map _ ih k2).2
  |ro l vs b o h1 h2 h3 h4 h5 h6=>exact Rep.idf (e:=e) (e':=e.ren i R) (λ_ h=>h) (.ro l vs b o h1 h2 h3 h4 h5 h6) (.ro l h3)
  |mpr g okf vals b es c h1 h2 h3 h4 h5 h6 h7 h8=>exact Rep.idf (e:=e) (e':=e.ren i R) (λ_ h=>h) (.mpr g okf vals b es c h1 h2 h3 h4 h5 h6 h7 h8) (.mpr g okf h3)
  |any1 v hv=>exact .any1 v hv
  |lstNil sz f=>exact .lstNil sz f
  |lst sz n f b o cap g h1 h2 h3 h4 h5 h6 h7 h8 ad had=>exact Rep.idf (e:=e) (e':=e.ren i R) (λ_ h=>h) (.lst sz n f b o cap g h1 h2 h3 h4 h5 h6 h7 h8 ad had) (.lst sz n f h3)
def xU(i R:Nat):HA->HA
 |[]=>[]
 |(k,.row T sz n f)::t=>match Nat.beq k i with
  |true=>(R,.row T sz n f)::xU i R t
  |false=>match Nat.beq k R with
   |true=>xU i R t
   |false=>(k,.row T sz n f)::xU i R t
 |(k,.cells T l)::t=>match Nat.beq k i with
  |true=>(R,.cells T (l.map (vF i R 6)))::xU i R t
  |false=>match Nat.beq k R with
   |true=>xU i R t
   |false=>(k,.cells T (l.map (vF i R 6)))::xU i R t
 |(k,.ints T pre n f)::t=>match Nat.beq k i||Nat.beq k R with
  |true=>xU i R t
  |false=>(k,.ints T (pre.map (vF i R 6)) n f)::xU i R t
 |(k,.memo h f)::t=>match Nat.beq k i||Nat.beq k R with
  |true=>xU i R t
  |false=>(k,.memo h f)::xU i R t
 |(_,.aka _ _ _ _ _)::t=>xU i R t
 |(k,.keep T l)::t=>match Nat.beq k i||Nat.beq k R with
  |true=>xU i R t
  |false=>(k,.keep T (l.map (vF i R 6)))::xU i R t
theorem jB{e:UP}{w:World}{i R:Nat}: ∀{m:HA},G5 e m w->G5 (e.ren i R) (xU i R m) w
 |[],_=>λp A=>by cases A
 |(k,.row T sz n f)::t,h=>by
  have ih:=jB (i:=i) (R:=R) (m:=t) (λp A=>h p (D1 _ A));obtain ⟨h1,h2,hf,xs,h3,h4⟩:=h _ GN;have h4': ∀(i' j:Nat) (a:AV) (v:Value),i'<n->(f i')[j]? =some a->xs[i'*sz+j]? =some v->Rep (e.ren i R) w a v:=
   λi' j a v O ha hv=>Rep.idf (e:=e) (e':=e.ren i R) (λ_ h=>h) (h4 i' j a v O ha hv) ((hf i' O).2 a (F9 ha))
  unfold xU;split;rename_i hb;have:=H5 hb;subst this;intro p A;rcases GT.1 A with rfl|A;refine ⟨.inl ⟨rfl,h1⟩,λb hb'=>?_,hf,xs,?_,h4'⟩;simp only [UP.ren,if_true] at hb' ⊢;rw [h2 b hb'];simp;simp only [UP.ren,if_true];exact h3;exact ih p A;rename_i hb;split;exact ih;rename_i hb2;intro p A;rcases GT.1 A with rfl|A;refine ⟨.inr ⟨h1,RH hb,RH hb2⟩,λb hb'=>?_,hf,xs,?_,h4'⟩;simp only [UP.ren,RH hb2,if_false] at hb' ⊢;rw [h2 b hb'];simp [RH hb,RH hb2];simp only [UP.ren,RH hb2,if_false];exact h3;exact ih p A
 |(k,.cells T l)::t,h=>by
  have ih:=jB (i:=i) (R:=R) (m:=t) (λp A=>h p (D1 _ A));obtain ⟨h1,h2,vs,h3,h4⟩:=h _ GN;unfold xU;split;rename_i hb;have:=H5 hb;subst this;have eb:(e.ren k R).blk R=e.blk k:=by simp [UP.ren]
  intro p A;rcases GT.1 A with rfl|A;refine ⟨.inl ⟨rfl,h1⟩,?_,vs,by rw [eb];exact h3,U8.map _ (zZ 6) h4⟩
  rw [eb];simp only [UP.ren];rw [h2];simp;exact ih p A;rename_i hb;split;exact ih;rename_i hb2;have n1:=RH hb;have n2:=RH hb2;have eb:(e.ren i R).blk k=e.blk k:=by simp [UP.ren,n2]
  intro p A;rcases GT.1 A with rfl|A;refine ⟨.inr ⟨h1,n1,n2⟩,?_,vs,by rw [eb];exact h3,U8.map _ (zZ 6) h4⟩
  rw [eb];simp only [UP.ren];rw [h2];simp [n1,n2];exact ih p A
 |(k,.ints T pre n f)::t,h=>by
  have ih:=jB (i:=i) (R:=R) (m:=t) (λp A=>h p (D1 _ A));obtain ⟨h1,h2,vs,h3,h4⟩:=h _ GN;unfold xU;split;exact ih;rename_i hb;obtain ⟨n1,n2⟩:=ID hb;intro p A;rcases GT.1 A with rfl|A;have eb:(e.ren i R).blk k=e.blk k:=by simp [UP.ren,n2]
  refine ⟨.inr ⟨h1,n1,n2⟩,?_,vs,by rw [eb];exact h3,?_⟩
  rw [eb];simp only [UP.ren];rw [h2];simp [n1,n2];have:=U8.map _ (zZ (i:=i) (R:=R) 6) h4;rw [List.map_append] at this;have hL:(HY n f).map (vF i R 6)=HY n f:=by
   unfold HY;rw [List.map_map];rfl
  rw [hL] at this;exact this;exact ih p A
 |(k,.memo g f)::t,h=>by
  have ih:=jB (i:=i) (R:=R) (m:=t) (λp A=>h p (D1 _ A));obtain ⟨h1,h2,es,c,h3,h4⟩:=h _ GN;unfold xU;split;exact ih;rename_i hb;obtain ⟨n1,n2⟩:=ID hb;intro p A;rcases GT.1 A with rfl|A;have eb:(e.ren i R).blk k=e.blk k:=by simp [UP.ren,n2]
  refine ⟨.inr ⟨h1,n1,n2⟩,?_,es,c,by rw [eb];exact h3,h4⟩
  rw [eb];simp only [UP.ren];rw [h2];simp [n1,n2];exact ih p A
 |(k,.keep T l)::t,h=>by
  have ih:=jB (i:=i) (R:=R) (m:=t) (λp A=>h p (D1 _ A));obtain ⟨h1,h2,h0,vs,h3,h4⟩:=h _ GN;unfold xU;split;exact ih;rename_i hb;obtain ⟨n1,n2⟩:=ID hb;intro p A;rcases GT.1 A with rfl|A;have eb:(e.ren i R).blk k=e.blk k:=by simp [UP.ren,n2]
  exact ⟨.inr ⟨h1,n1,n2⟩,by rw [eb];exact h2,by rw [eb];exact h0,vs,by rw [eb];exact h3,U8.map _ (zZ 6) h4⟩
  exact ih p A
 |(k,.aka _ _ _ _ _)::t,h=>jB (i:=i) (R:=R) (m:=t) (λp A=>h p (D1 _ A))
def Qr2(i R:Nat)(s:St):St:={s with σ:=s.σ.map (vF i R 6),m:=xU i R s.m,nx:=match Nat.blt R s.nx with|true=>s.nx|false=>R+1,sv:=s.sv.map (·.map (vF i R 6)) }
theorem E6{cx:Cx}{w0:World}{F:Nat->Prop}{e:UP}{i R:Nat}{s:St}{a:Act}{w:World}(r:FB cx w0 F e s a w):FB cx w0 F (e.ren i R) (Qr2 i R s) a w:=by
 refine ⟨⟨λb hb=>?_,λb k hk=>?_,r.env.glob⟩,r.below,jB r.mem,λk hk=>?_,r.foe,⟨r.xt.defers,r.xt.kept,LK.map _ (zZ 6) r.xt.saved,r.xt.size⟩,U8.map _ (zZ 6) r.slots⟩;obtain ⟨h1,h2⟩:=r.env.apart b hb;exact ⟨by simp [UP.ren,h1],h2⟩
 simp only [UP.ren] at hk;cases ho:e.own b with
 |none=>rw [ho] at hk;cases hk
 |some j=>exact r.env.owned b j ho
 have hk':k=R\/k<s.nx:=by
  rcases hk with ⟨rfl,_⟩|⟨h,_⟩;exact .inl rfl;exact .inr (r.live k h)
 simp only [Qr2];split;rename_i hb;rw [Aw] at hb;omega;rename_i hb;rw [←Bool.not_eq_true,Aw] at hb;omega
inductive Pl where
 |slot (k:Nat)
 |cell (id off:Nat)
def Qi7(s:St):Pl->AV
 | .slot k=>s.σ.getD k .top
 | .cell id off=>match DN s.m id with
  |some (.cells _ l)=>l.getD off .top
  |_=> .top
def iL(s:St)(p:Pl)(v:AV):St:=match p with
 | .slot k=>{s with σ:=s.σ.set k v}
 | .cell id off=>match DN s.m id with
  |some (.cells T l)=>{s with m:=qT s.m id (.cells T (l.set off v)) }
  |_=>s
theorem U8.swap{e:UP}{w:World}{l:List AV}{vs:List Value}{k:Nat}{b:AV}(h:U8 e w l vs)(hb: ∀v,Rep e w (l.getD k .top) v->vs[k]? =some v->Rep e w b v):U8 e w (l.set k b) vs:=by
 refine ⟨by simp [h.1],λi a v ha hv=>?_⟩
 rw [List.getElem?_set] at ha;by_cases hk:k=i;subst hk;simp only [if_true] at ha;split at ha;rename_i hlt;cases ha;exact hb v (by simpa [List.getD,D8 hlt] using h.2 k _ v (D8 hlt) hv) hv
 cases ha;rw [if_neg hk] at ha;exact h.2 i a v ha hv
def UP.nil(e:UP)(R:Nat):UP:={e with live:=λk=>k=R\/e.live k,val:=λk=>if k=R then .slice none 0 0 else e.val k}
theorem Step.nil{e:UP}{w:World}{R:Nat}(h: ¬e.live R):Step e (e.nil R) w w:=by
 refine ⟨λ_ _ h=>⟨h,rfl⟩,λk hk=>⟨.inr hk,rfl,?_⟩,Am _⟩;have:k≠R:=λh'=>h (h'▸hk);simp [UP.nil,this]
def Zs9(p:Pl)(R:Nat)(T:TypeId)(sz:Nat)(s:St):St:=match Qi7 s p with
 | .x (.slice none 0 0)=>{s with σ:=(iL s p (.row R)).σ,m:=(R,.row T sz 0 (λ_=>[]))::(iL s p (.row R)).m}
 |_=>s
theorem Wm7{cx:Cx}{w0:World}{F:Nat->Prop}{e:UP}{p:Pl}{R:Nat}{T:TypeId}{sz:Nat}{s:St}{a:Act}{w:World}(hΦ:cx.Φ s.gh F w0)(r:FB cx w0 F e s a w)(hd: ¬e.live R)(hR:R<s.nx):Rel cx (Zs9 p R T sz s) a w:=by
 unfold Zs9;split;rename_i A;have st:Step e (e.nil R) w w:=Step.nil hd;have dL:G5 (e.nil R) s.m w:=λq hq=>(r.mem q hq).ext (Below.refl _ _) st (λ_ _ h=>h);have M3:GM (e.nil R) w R (.row T sz 0 (λ_=>[])):=by
  refine ⟨.inl rfl,λb hb=>?_,λi O=>VO,[],?_,λi j a v O=>VO⟩;simp [UP.nil,Value.ownBlock] at hb;simp only [UP.nil,if_true];exact World.ownsRow_nil w 0 T sz
 have GS: ∀v,Rep e w (.x (.slice none 0 0)) v->Rep (e.nil R) w (.row R) v:=by
  intro v hv;rw [hv.x_inv];exact .row R none 0 0 (.inl rfl) (by simp [UP.nil])
 refine ⟨w0,F,e.nil R,hΦ,⟨r.env.apart,r.env.owned,r.env.glob⟩,r.below,?_,λk hk=>?_,r.foe,r.xt.step st,?_⟩;intro q hq;rcases GT.1 hq with rfl|hq;exact M3;cases p with
 |slot k=>exact dL q hq
 |cell id off=>
  simp only [iL] at hq;split at hq;rename_i T' l hg;rcases RC hq with rfl|⟨hq,_⟩
  ·obtain ⟨h1,h2,vs,h3,h4⟩:=r.mem _ (GA hg);obtain ⟨l1,l2,l3⟩:=st.live id h1;refine ⟨l1,by rw [l2];exact h2,vs,by rw [l2];exact h3,?_⟩
   refine U8.swap (h4.step st) ?_;intro v hv hv';simp only [Qi7,hg] at A;have hlt:off<l.length:=by
    rcases An off l.length with h|h;exact h;rw [List.getD,Br h] at A;cases A
   have:=h4.2 off _ v (D8 hlt) hv';rw [List.getD,D8 hlt] at A;simp only [GW] at A;rw [A] at this;exact GS v this
  exact dL q hq;exact dL q hq
 rcases hk with rfl|hk;exact hR;exact r.live k hk
 ·cases p with
  |slot k=>
   simp only [iL];refine U8.swap (r.slots.step st) ?_;intro v hv hv';simp only [Qi7] at A;have hlt:k<s.σ.length:=by
    rcases An k s.σ.length with h|h;exact h;rw [List.getD,Br h] at A;cases A
   have:=r.slots.2 k _ v (D8 hlt) hv';rw [List.getD,D8 hlt] at A;simp only [GW] at A;rw [A] at this;exact GS v this
  |cell id off=>
   simp only [iL];split;exact r.slots.step st;exact r.slots.step st
 exact ⟨w0,F,e,hΦ,r⟩
def A7(i:Nat):HA->HA
 |[]=>[]
 |(k,r)::t=>match Nat.beq k i with
  |true=>match r with
   | .cells T l=>(k,.keep T l)::A7 i t
   | .keep T l=>(k,.keep T l)::A7 i t
   |_=>A7 i t
  |false=>match D4 i r with
   |true=>A7 i t
   |false=>(k,r)::A7 i t
def Qh5(i:Nat)(s:St):St:={s with m:=A7 i s.m}
theorem lI{e:UP}{B:Nat}{w:World}{i:Nat}(hE:GB e B w): ∀{m:HA},G5 e m w->G5 (e.sol i) (A7 i m) w
 |[],_=>λp A=>by cases A
 |(k,r)::t,h=>by
  have ih:=lI (i:=i) hE (m:=t) (λp A=>h p (D1 _ A));have hk:=h _ GN;unfold A7;split;rename_i hb;have:=H5 hb;subst this;split;rename_i T l;intro p A;rcases GT.1 A with rfl|A;obtain ⟨h1,h2,vs,h3,h4⟩:=hk;exact ⟨h1,.inr h2,(hE.owned _ _ h2).2,vs,h3,h4.step (Step.sol e k w)⟩;exact ih p A;rename_i T l;intro p A;rcases GT.1 A with rfl|A;exact LT (Step.sol e k w) hk;exact ih p A;exact ih;rename_i hb;split;exact ih;rename_i hak;intro p A;rcases GT.1 A with rfl|A;exact GM.sol ⟨RH hb,hak⟩ hk;exact ih p A
theorem SG{c:Cx}{w0:World}{F:Nat->Prop}{e:UP}{i:Nat}{s:St}{a:Act}{w:World}(r:FB c w0 F e s a w):FB c w0 F (e.sol i) (Qh5 i s) a w:=by
 have st:=Step.sol e i w;refine ⟨r.env.sol i,r.below,lI r.env r.mem,r.live,λb hb=>⟨(r.foe b hb).1,λZ=>?_⟩,r.xt.step st,r.slots.step st⟩;rcases Z with Z|Z;exact (r.foe b hb).2 Z;have:=(r.env.owned b i Z).1;have:=(r.foe b hb).1;omega
def UP.prom(e:UP)(i q:Nat):UP:={e with own:=λb=>match e.own b with|some k=>if k=q then some i else some k|none=>none}
def l7(i q:Nat):HA->HA
 |[]=>[]
 |(k,r)::t=>match Nat.beq k q||(Nat.beq k i||(D4 q r||D4 i r)) with
  |true=>l7 i q t
  |false=>(k,r)::l7 i q t
def iZ(i:Nat)(s:St):St:=match DN s.m i with
 |some (.aka q T sz n f)=>{s with m:=(i,.row T sz n f)::l7 i q s.m}
 |_=>s
theorem lH{e:UP}{w:World}{i q:Nat}: ∀{m:HA},G5 e m w->G5 (e.prom i q) (l7 i q m) w
 |[],_=>λp A=>by cases A
 |(k,r)::t,h=>by
  have ih:=lH (i:=i) (q:=q) (m:=t) (λp A=>h p (D1 _ A));have hk:=h _ GN;unfold l7;split;exact ih;rename_i hb;simp only [Bool.or_eq_false_iff] at hb;obtain ⟨hb1,hb2,hb3,hb4⟩:=hb;have n1:=RH hb1;have n2:=RH hb2;have st:Step e (e.prom i q) w w:=⟨λ_ _ h=>⟨h,rfl⟩,λ_ h=>⟨h,rfl,rfl⟩,Am _⟩;have ow: ∀b o,o≠q->e.own b=some o->(e.prom i q).own b=some o:=λb o ho hbo=>by simp [UP.prom,hbo,ho]
  intro p A;rcases GT.1 A with rfl|A;cases r with
  |cells T l=>
   obtain ⟨h1,h2,vs,h3,h4⟩:=hk;exact ⟨h1,ow _ _ n1 h2,vs,h3,h4.step st⟩
  |ints T pre n f=>
   obtain ⟨h1,h2,vs,h3,h4⟩:=hk;exact ⟨h1,ow _ _ n1 h2,vs,h3,h4.step st⟩
  |memo g f=>
   obtain ⟨h1,h2,es,c,h3,h4⟩:=hk;exact ⟨h1,ow _ _ n1 h2,es,c,h3,h4⟩
  |row T sz n f=>
   obtain ⟨h1,h2,hf,xs,h3,h4⟩:=hk;exact ⟨h1,λb hb=>ow _ _ n1 (h2 b hb),hf,xs,h3,λi j a v O ha hv=>(h4 i j a v O ha hv).step st⟩
  |keep T l=>exact LT st hk
  |aka r T sz n f=>
   obtain ⟨h1,h0,o,hor,h2,hf,xs,h3,h4⟩:=hk;have ho:o≠q:=by
    rcases hor with rfl|rfl;exact n1;exact RH hb3
   exact ⟨h1,h0,o,hor,λb hb=>ow _ _ ho (h2 b hb),hf,xs,h3,λi j a v O ha hv=>(h4 i j a v O ha hv).step st⟩
  exact ih p A
theorem ED{c:Cx}{i:Nat}{s:St}{a:Act}{w:World}(r:Rel c s a w):Rel c (iZ i s) a w:=by
 unfold iZ;split;rename_i q T sz n f hg;obtain ⟨w0,F,e,hΦ,r⟩:=r;have st:Step e (e.prom i q) w w:=⟨λ_ _ h=>⟨h,rfl⟩,λ_ h=>⟨h,rfl,rfl⟩,Am _⟩;refine ⟨w0,F,e.prom i q,hΦ,⟨⟨λb hb=>?_,λb k hk=>?_,r.env.glob.step st⟩,r.below,?_,r.live,r.foe,r.xt.step st,r.slots.step st⟩⟩;obtain ⟨h1,h2⟩:=r.env.apart b hb;exact ⟨by simp [UP.prom,h1],h2⟩
 simp only [UP.prom] at hk;cases ho:e.own b with
 |none=>rw [ho] at hk;cases hk
 |some j=>exact r.env.owned b j ho
 intro p A;rcases GT.1 A with rfl|A;obtain ⟨h1,h0,o,hor,h2,hf,xs,h3,h4⟩:=r.mem _ (GA hg);refine ⟨h1,λb hb=>?_,hf,xs,h3,λi' j a v O ha hv=>(h4 i' j a v O ha hv).step st⟩;have:=h2 b hb;rcases hor with rfl|rfl;simp [UP.prom,this];simp [UP.prom,this];exact lH r.mem p A;exact r
def Qh6:List AV->St->St
 |[],s=>s
 | .ptr i _::l,s=>Qh6 l (Qh5 i s)
 |_::l,s=>Qh6 l s
theorem fX{c:Cx}{a:Act}{w:World}: ∀{l:List AV} {s:St},Rel c s a w->Rel c (Qh6 l s) a w
 |[],_,r=>r
 |b::l,s,r=>by
  cases b with
  |ptr i o=>
   obtain ⟨w0,F,e,hΦ,r⟩:=r;exact fX (l:=l) (s:=Qh5 i s) ⟨w0,F,_,hΦ,SG r⟩
  |_=>exact fX (l:=l) (s:=s) r
def Wf0(s:St):St:=match s.sv with
 |[]=>{s with σ:=s.σ.map (DJ s.m 40),m:=[] }
 |_=>s
theorem We9{c:Cx}{s:St}{a:Act}{w:World}(r:Rel c s a w):Rel c (Wf0 s) a w:=by
 unfold Wf0;split;rename_i hsv;obtain ⟨w0,T,e,hΦ,r⟩:=r
 let e2:UP:={ro:=e.view.ro,own:=λ_=>none,live:=λ_=>False,blk:=λ_=>0,val:=λ_=> .nilIface}
 have hlt: ∀b,e2.ro b->b<w.heap.size:=by
  rintro b (h|⟨id,h⟩);exact (r.env.apart b h).2;exact (r.env.owned b id h).2
 have st2:Step e2 e2 w w:=⟨λb hb Z=>⟨Z,rfl⟩,λ_ h=>h.elim,Am _⟩;have dG:U8 e2 w (s.σ.map (DJ s.m 40)) a.tmps.toList:=
  U8.map (DJ s.m 40) (λx v hx=>Rep.idf (e:=e.view) (e':=e2) (λ_ h=>h) (LL r.env r.mem 40 x v hx) (RS r.mem 40 x v hx)) r.slots
 refine ⟨w0,T,e2,hΦ,⟨⟨λb hb=>⟨rfl,hlt b hb⟩,(λb id h=>by cases h),D2.step (e:=e2) (w:=w) (λb p A=>⟨.inl (r.env.glob b p A).1,(r.env.glob b p A).2⟩) st2⟩,r.below,(λp A=>by cases A),(λk hk=>hk.elim),λb hb=>⟨(r.foe b hb).1,?_⟩,⟨⟨λd hd=>by obtain ⟨D,h1,h2,h3,h4,h5⟩:=r.xt.defers.1 d hd;exact ⟨D,h1,.inl h2,h3,h4,h5⟩,r.xt.defers.2⟩,λb o hb=>by obtain ⟨h1,h2,h3⟩:=r.xt.kept b o hb;exact ⟨.inl h1,h2,h3⟩,by
  have:=r.xt.saved.1;rw [hsv] at this;rw [hsv];exact ⟨this,λi a v h=>by simp at h⟩,r.xt.size⟩,dG⟩⟩
 rintro (h|⟨id,h⟩);exact (r.foe b hb).2 h;have:=(r.env.owned b id h).1;have:=(r.foe b hb).1;omega;exact r
def Qg8(p:Pl)(R:Nat)(T:TypeId)(sz:Nat)(s:St):St:=match Qi7 s p with
 | .row i=>match sz with
  | 0=>Qx3 i (iZ i s)
  |_+1=>match T with
   | 0=>iZ i s
   |_+1=>Qr2 i R (iZ i s)
 | .ptr i _=>match sz with
  | 0=>Qh5 i s
  | 1=>Wf0 s
  |_+2=>Qr2 i R s
 | .fn _ _ l=>Qh6 l s
 | .x (.slice none 0 0)=>match T with
  | 0=>s
  |_+1=>Zs9 p R T sz (Qr2 s.nx R s)
 |_=>s
theorem Wm5{cx:Cx}{p:Pl}{R:Nat}{T:TypeId}{sz:Nat}{s:St}{a:Act}{w:World}(r:Rel cx s a w):Rel cx (Qg8 p R T sz s) a w:=by
 unfold Qg8;split;rename_i i _;split;obtain ⟨w0,F,e,hΦ,r⟩:=ED (i:=i) r;obtain ⟨e',r'⟩:=mS (i:=i) r;exact ⟨w0,F,e',by rw [Qi8];exact hΦ,r'⟩
 split;exact ED (i:=i) r;obtain ⟨w0,F,e,hΦ,r⟩:=ED (i:=i) r;exact ⟨w0,F,_,hΦ,E6 r⟩;split;obtain ⟨w0,F,e,hΦ,r⟩:=r;exact ⟨w0,F,_,hΦ,SG r⟩;exact We9 r;obtain ⟨w0,F,e,hΦ,r⟩:=r;exact ⟨w0,F,_,hΦ,E6 r⟩;exact fX r;split;exact r;obtain ⟨w0,F,e,hΦ,r⟩:=r;refine Wm7 hΦ (E6 r) ?_ ?_;rintro (⟨_,h⟩|⟨_,_,h⟩);exact Bf _ (r.live _ h);exact h rfl;simp only [Qr2];split;rename_i hb;rw [Aw] at hb;exact hb;exact Bk _;exact r
def RE:List (Pl×Nat×TypeId×Nat)->St->St
 |[],s=>s
 |(p,R,T,sz)::t,s=>RE t (Qg8 p R T sz s)
theorem DM{cx:Cx}{a:Act}{w:World}: ∀{l:List (Pl×Nat×TypeId×Nat)} {s:St},Rel cx s a w->Rel cx (RE l s) a w
 |[],_,r=>r
 |(p,R,T,sz)::t,s,r=>DM (l:=t) (s:=Qg8 p R T sz s) (Wm5 r)
def GO(l:List (Pl×Nat×TypeId×Nat))(sp:UN):UN:=λs=>sp (RE l s)
theorem vV{P:Program}{ro:Option Nat}{cx:Cx}{c:Code}{l:List (Pl×Nat×TypeId×Nat)}{sp:UN}(h:HQ P ro cx c sp):HQ P ro cx c (GO l sp):=
 λn s t ht Q hQ a w r=>h n (RE l s) t ht Q hQ a w (DM r)
def Qa0(N:List (Pl×Nat×TypeId×Nat))(nxt:St)(out:G8->Option St)(p:G8×St):VR G8:=match p.1 with
 | .normal=> .needT (BV (RE N p.2) nxt) (.leaf .normal)
 | .exit id=>match out (.exit id) with
  |some E=> .needT (BV (RE N p.2) E) (.leaf (.exit id))
  |none=> .fail
 | .ret=>match out .ret with
  |some E=> .needT (BV (RE N p.2) E) (.leaf .ret)
  |none=> .fail
theorem Wz7{N:List (Pl×Nat×TypeId×Nat)}{t:CT}{nxt:St}{out:G8->Option St}{R:G8->Prop}(h:(t.bind (Qa0 N nxt out)).sat R):
  t.sat (λp=>match p.1 with
   | .normal=>R .normal/\UF (BV (RE N p.2) nxt)
   |y=> ∃E,out y=some E/\R y/\UF (BV (RE N p.2) E)):=by
 refine VR.sat_mono ?_ (VR.sat_bind h);rintro ⟨y,s'⟩ A;cases y with
 |normal=>exact ⟨(VR.sat_needT A).2,(VR.sat_needT A).1⟩
 |exit id=>
  dsimp only [Qa0] at A ⊢
  split at A;rename_i E hE;exact ⟨E,hE,(VR.sat_needT A).2,(VR.sat_needT A).1⟩;exact A.elim
 |ret=>
  dsimp only [Qa0] at A ⊢
  split at A;rename_i E hE;exact ⟨E,hE,(VR.sat_needT A).2,(VR.sat_needT A).1⟩;exact A.elim
section
variable (P:Program)(G:List (Nat×Spec))
def HW(X:Ext)(L:List UN)(N:List (Pl×Nat×TypeId×Nat))(body:Code)(s nxt:St)(out:G8->Option St):VR G8:=(DD P G X L body 0 s).bind (Qa0 N nxt out)
def Zn9(L:List UN)(N:List (Pl×Nat×TypeId×Nat))(body:Code)(s nxt:St)(out:G8->Option St):VR G8:=HW P G {} L N body s nxt out
end
section
variable {P:Program}{G:List (Nat×Spec)}
theorem F7{X:Ext}{L:List UN}{ro:Option Nat}{cx:Cx}(N:List (Pl×Nat×TypeId×Nat))(hG:VP P G)(hX:U0 P X cx)(GX:P.follows .mixedOrders=true){body:Code}(hL: ∀j cj,VX body j=some cj-> ∀sp,L[j]? =some sp->HQ P ro cx cj sp)
  {V:Type}(inv:V->St)(I:V->Prop)(μ:V->Nat)(out:V->G8->Option St){t:CT}{x0:V}(h0:I x0)
  (hok: ∀x,okB (inv x)=true)(wF: ∀x y E,out x y=some E->okB E=true)
  (round: ∀(Q:G8×St->Prop),t.sat Q-> ∀x,I x-> ∃x',(HW P G X L N body (inv x) (inv x') (out x)).sat (λy=>match y with
   | .normal=>I x'/\μ x'<μ x
   |y=> ∀E,out x y=some E->Q (y,E))):HQ P ro cx (.loop body) (GO N (HI (inv x0) t)):=by
 refine vV (kE (hok x0) ?_);intro n Q hQ a w r;refine bI μ (λx a w=>I x/\Rel cx (inv x) a w) ?_ ⟨h0,r⟩;rintro x a w ⟨hx,Z⟩;obtain ⟨x',jI⟩:=round Q hQ x hx;refine wpIn_mono (DF hG hX GX body 0 (inv x) _ a w (λj cj hj sp hsp=>hL j cj hj sp (by simpa using hsp)) (Wz7 jI) Z) ?_
 rintro ex a₁ w₁ ⟨y,s',rfl,hq,hr'⟩;cases y with
 |normal=>
  obtain ⟨⟨h1,h2⟩,h3⟩:=hq;exact ⟨x',h2,h1,RB (GI h3) (hok x') (DM hr')⟩
 |exit id=>
  obtain ⟨E,hE,h1,h3⟩:=hq;exact ⟨.exit id,E,rfl,h1 E hE,RB (GI h3) (wF x _ E hE) (DM hr')⟩
 |ret=>
  obtain ⟨E,hE,h1,h3⟩:=hq;exact ⟨.ret,E,rfl,h1 E hE,RB (GI h3) (wF x _ E hE) (DM hr')⟩
theorem jD{L:List UN}(N:List (Pl×Nat×TypeId×Nat))(hG:VP P G)(GX:P.follows .mixedOrders=true){body:Code}(hL: ∀j cj,VX body j=some cj-> ∀sp,L[j]? =some sp->GD P cj sp)
  {X:Type}(inv:X->St)(I:X->Prop)(μ:X->Nat)(out:X->G8->Option St){t:CT}{x0:X}(h0:I x0)
  (hok: ∀x,okB (inv x)=true)(wF: ∀x y E,out x y=some E->okB E=true)
  (round: ∀(Q:G8×St->Prop),t.sat Q-> ∀x,I x-> ∃x',(Zn9 P G L N body (inv x) (inv x') (out x)).sat (λy=>match y with
   | .normal=>I x'/\μ x'<μ x
   |y=> ∀E,out x y=some E->Q (y,E))):GD P (.loop body) (GO N (HI (inv x0) t)):=
 λro cx=>F7 N hG (U0.nil P cx) GX (λj cj hj sp hsp=>hL j cj hj sp hsp ro cx) inv I μ out h0 hok wF round
end
def FX(ps:List Prop)(sp:UN):UN:=λs=>match sp s with
 |some t=>some (.need ps t)
 |none=>none
theorem xG{P:Program}{ro:Option Nat}{cx:Cx}{c:Code}{ps:List Prop}{sp:UN}(h:UF ps->HQ P ro cx c sp):HQ P ro cx c (FX ps sp):=by
 intro n s t ht Q hQ a w r;unfold FX at ht;split at ht;rename_i t' ht';cases ht;exact h hQ.1 n s t' ht' Q hQ.2 a w r;cases ht
theorem DB{P:Program}{c:Code}{ps:List Prop}{sp:UN}(h:UF ps->GD P c sp):GD P c (FX ps sp):=λro cx=>xG (λA=>h A ro cx)
section
variable {P:Program}
def Xt1(P:Program)(rs:List ResultVar)(t:CT):VR AV:=t.bind λp=>match p.1 with
 | .exit _=> .fail
 |_=>match qC P p.2 rs with
  |some r=> .leaf (DJ p.2.m 40 r)
  |none=> .fail
mutual
def FN:AV->AV->Prop
 | .x u,b=>match b with
  | .top=>True
  | .x v=>UH u v
  | .lst _ n _=>lU u/\n=0
  |b=>AV.x u=b
 | .lit c,b=>match b with
  | .top=>True
  | .x (.bool d)=>c=d
  |b=>AV.lit c=b
 | .lst sz n f,b=>match b with
  | .top=>True
  | .lst sz' n' f'=>sz=sz'/\n=n'/\ ∀i,i<n'->f i=f' i
  |b=>AV.lst sz n f=b
 | .agg l,b=>match b with
  | .top=>True
  | .agg l'=>wK l l'
  |b=>AV.agg l=b
 | .tup l,b=>match b with
  | .top=>True
  | .tup l'=>wK l l'
  |b=>AV.tup l=b
 | .roI pre n f off,b=>match b with
  | .top=>True
  | .roI pre' n' f' off'=>pre=pre'/\n=n'/\(∀k,k<n'->f k=f' k)/\off=off'
  |b=>AV.roI pre n f off=b
 |a,b=>match b with
  | .top=>True
  |b=>a=b
def wK:List AV->List AV->Prop
 |[],l'=>match l' with
  |[]=>True
  |_::_=>False
 |r::l,l'=>match l' with
  |a::l'=>FN r a/\wK l l'
  |[]=>False
end
mutual
theorem L9{e:UP}{w:World}: ∀{a b:AV} {v:Value},FN a b->Rep e w a v->Rep e w b v
 | .x u,b,v,h,r=>by
  unfold FN at h;split at h;exact .top v;rw [eV h] at r;exact r;obtain ⟨h1,rfl⟩:=h;cases r.x_inv;rw [lT h1];exact .lstNil _ _;rw [←h];exact r
 | .lit c,b,v,h,r=>by
  unfold FN at h;split at h;exact .top v;subst h;cases r.lit_inv;exact .x _;rw [←h];exact r
 | .lst sz n f,b,v,h,r=>by
  unfold FN at h;split at h;exact .top v;obtain ⟨rfl,rfl,h3⟩:=h;exact gD.rep (.lst _ _ _ _ h3) r;rw [←h];exact r
 | .agg l,b,v,h,r=>by
  unfold FN at h;split at h;exact .top v;obtain ⟨vs,rfl,Z⟩:=r.agg_inv;exact Rep.aggL (yR h Z);rw [←h];exact r
 | .tup l,b,v,h,r=>by
  unfold FN at h;split at h;exact .top v;obtain ⟨vs,rfl,Z⟩:=r.tup_inv;exact Rep.tupL (yR h Z);rw [←h];exact r
 | .top,b,v,h,r=>by
  unfold FN at h;split at h;exact .top v;rw [←h];exact r
 | .fn _ _ _,b,v,h,r=>by
  unfold FN at h;split at h;exact .top v;rw [←h];exact r
 | .ptr _ _,b,v,h,r=>by
  unfold FN at h;split at h;exact .top v;rw [←h];exact r
 | .row _,b,v,h,r=>by
  unfold FN at h;split at h;exact .top v;rw [←h];exact r
 | .elt _ _ _ _,b,v,h,r=>by
  unfold FN at h;split at h;exact .top v;rw [←h];exact r
 | .ro _,b,v,h,r=>by
  unfold FN at h;split at h;exact .top v;rw [←h];exact r
 | .mp _,b,v,h,r=>by
  unfold FN at h;split at h;exact .top v;rw [←h];exact r
 | .any1,b,v,h,r=>by
  unfold FN at h;split at h;exact .top v;rw [←h];exact r
 | .mpr _ _,b,v,h,r=>by
  unfold FN at h;split at h;exact .top v;rw [←h];exact r
 | .roI pre n f off,b,v,h,r=>by
  unfold FN at h;split at h;exact .top v;obtain ⟨rfl,rfl,h3,rfl⟩:=h;cases r with
  |roI _ _ _ _ b o Z=>
   have hL:HY n f=HY n _:=List.map_congr_left (λk hk=>by rw [h3 k (List.mem_range.1 hk)])
   rw [hL] at Z;exact .roI _ _ _ _ b o Z
  rw [←h];exact r
theorem yR{e:UP}{w:World}: ∀{l l':List AV} {vs:List Value},wK l l'->U8 e w l vs->U8 e w l' vs
 |[],[],_,_,r=>r
 |[],_::_,_,h,_=>by simp [wK] at h
 |a::l,[],_,h,_=>by simp [wK] at h
 |a::l,b::l',vs,h,r=>by
  unfold wK at h;obtain ⟨v,vs',rfl,hv,hvs⟩:=r.cons_inv;exact U8.cons (L9 h.1 hv) (yR h.2 hvs)
end
def EndR(P:Program)(fn:Func)(res:AV)(p:G8×St):Prop:=(match p.1 with| .exit _=>False|_=>True)/\ ∃r,qC P p.2 fn.results.toList=some r/\FN (DJ p.2.m 40 r) res
theorem Wz8{fn:Func}{res:AV}{t:CT}(h:(Xt1 P fn.results.toList t).sat (λr=>FN r res)):t.sat (EndR P fn res):=by
 refine VR.sat_mono ?_ (VR.sat_bind h);rintro ⟨x,s⟩ hs;cases x with
 |exit i=>exact hs.elim
 |normal=>
  simp only at hs;split at hs;rename_i r Z;exact ⟨trivial,r,Z,hs⟩;exact hs.elim
 |ret=>
  simp only at hs;split at hs;rename_i r Z;exact ⟨trivial,r,Z,hs⟩;exact hs.elim
def EndC(P:Program)(fn:Func)(Q:AV->Prop)(p:G8×St):Prop:=(match p.1 with| .exit _=>False|_=>True)/\ ∃r,qC P p.2 fn.results.toList=some r/\ ∃r',FN (DJ p.2.m 40 r) r'/\Q r'
theorem Xa2{fn:Func}{Q:AV->Prop}{t:CT}(h:(Xt1 P fn.results.toList t).sat (λr=> ∃r',FN r r'/\Q r')):t.sat (EndC P fn Q):=by
 refine VR.sat_mono ?_ (VR.sat_bind h);rintro ⟨x,s⟩ hs;cases x with
 |exit i=>exact hs.elim
 |normal=>
  simp only at hs;split at hs;rename_i r Z;exact ⟨trivial,r,Z,hs⟩;exact hs.elim
 |ret=>
  simp only at hs;split at hs;rename_i r Z;exact ⟨trivial,r,Z,hs⟩;exact hs.elim
section
variable {G:List (Nat×Spec)}{X:Ext}{L:List UN}{f:FuncId}{fn:Func}{c:Code}{avs:List AV}
theorem GY{sp t:VR AV}(hG:VP P G)(hX: ∀cx,U0 P X cx)(GX:P.follows .mixedOrders=true)(hf:P.funcs[f]? =some fn)(hb:fn.body=some c)
  (hL: ∀j cj,VX c j=some cj-> ∀sp,L[j]? =some sp->HU P cj sp)(ht:Xt1 P fn.results.toList (DD P G X L c 0 (HZ fn avs))=t)(h: ∀Q:AV->Prop,sp.sat Q->t.sat (λr=> ∃r',FN r r'/\Q r')):US P f avs sp:=by
 subst ht;intro Q hQ e w args hro hgl FU Z;refine zL hG GX hf hb (cx:=mZ w (λb=>b<w.heap.size/\ ¬e.ro b)) (gh:=none) (T:=λb=>b<w.heap.size/\ ¬e.ro b) (e:=e) (hX _) (λ_ _ h=>h) rfl rfl (by rintro g T w0 D ⟨rfl,_⟩ h;exact h) ⟨rfl,rfl⟩ (λb h=>h) hro hgl FU Z (λj cj hj sp hsp=>hL j cj hj sp hsp _ (zK _ _)) (Xa2 (h Q hQ)) ?_ ?_
 rintro x s w0 T' e' tmps w' ⟨hx,r,F8,r',y5,hQr⟩ ⟨rfl,rfl⟩ q1 q2 q3 q5 q4;obtain ⟨u,hu,GS⟩:=DS (P:=P) q3 q4 F8;refine ⟨u,hu,u,r',rfl,hQr,q2,?_⟩;refine L9 y5 (Rep.idf (e:=e'.view) ?_ (LL q1 q3 40 r u GS) (RS q3 40 r u GS));rintro b (hb|⟨k,hb⟩);rcases An b w0.heap.size with h1|h1;refine .inl ?_;rcases Classical.em (e.ro b) with h2|h2;exact h2;exact (q5 b ⟨h1,h2⟩ hb).elim;exact .inr ⟨h1,(q1.apart b hb).2⟩;exact .inr ⟨(q1.owned b k hb).1,(q1.owned b k hb).2⟩;rintro x s ⟨hx,_⟩ i rfl;exact hx
theorem D6{res:AV}{t:VR AV}(hG:VP P G)(hX: ∀cx,U0 P X cx)(GX:P.follows .mixedOrders=true)(hf:P.funcs[f]? =some fn)(hb:fn.body=some c)
  (hL: ∀j cj,VX c j=some cj-> ∀sp,L[j]? =some sp->HU P cj sp)(ht:Xt1 P fn.results.toList (DD P G X L c 0 (HZ fn avs))=t)(h:t.sat (λr=>FN r res)):FJ P f avs res:=by
 subst ht;intro e w args hro hgl FU Z;refine zL hG GX hf hb (cx:=mZ w (λb=>b<w.heap.size/\ ¬e.ro b)) (gh:=none) (T:=λb=>b<w.heap.size/\ ¬e.ro b) (e:=e) (hX _) (λ_ _ h=>h) rfl rfl (by rintro g T w0 D ⟨rfl,_⟩ h;exact h) ⟨rfl,rfl⟩ (λb h=>h) hro hgl FU Z (λj cj hj sp hsp=>hL j cj hj sp hsp _ (zK _ _)) (Wz8 h) ?_ ?_
 rintro x s w0 T' e' tmps w' ⟨hx,r,F8,y5⟩ ⟨rfl,rfl⟩ q1 q2 q3 q5 q4;obtain ⟨u,hu,GS⟩:=DS (P:=P) q3 q4 F8;refine ⟨u,hu,u,rfl,q2,?_⟩;refine L9 y5 (Rep.idf (e:=e'.view) ?_ (LL q1 q3 40 r u GS) (RS q3 40 r u GS));rintro b (hb|⟨k,hb⟩);rcases An b w0.heap.size with h1|h1;refine .inl ?_;rcases Classical.em (e.ro b) with h2|h2;exact h2;exact (q5 b ⟨h1,h2⟩ hb).elim;exact .inr ⟨h1,(q1.apart b hb).2⟩;exact .inr ⟨(q1.owned b k hb).1,(q1.owned b k hb).2⟩;rintro x s ⟨hx,_⟩ i rfl;exact hx
end
def Js8(P:Program)(rs:List ResultVar)(t:CT):VR (Option (TypeId×Nat×Nat×(Ci))):=t.bind λp=>match p.1 with
 | .exit _=> .fail
 |_=>match qC P p.2 rs with
  |some (.row id)=>match DN p.2.m id with
   |some (.row T sz n f)=> .leaf (some (T,sz,n,f))
   |_=> .fail
  |some (.x (.slice none 0 0))=> .leaf none
  |_=> .fail
def Xs8(T:TypeId)(sz n:Nat)(g:Ci):Option (TypeId×Nat×Nat×(Ci))->Prop
 |none=>n=0
 |some (T',sz',n',f)=>T'=T/\sz'=sz/\n'=n/\ ∀i,i<n->f i=g i/\ ∀a∈g i,isX a
def EndF(P:Program)(fn:Func)(T:TypeId)(sz n:Nat)(g:Ci)(p:G8×St):Prop:=(match p.1 with| .exit _=>False|_=>True)/\
 ((∃id f,qC P p.2 fn.results.toList=some (.row id)/\DN p.2.m id=some (.row T sz n f)/\ ∀i,i<n->f i=g i/\ ∀a∈g i,isX a)\/(qC P p.2 fn.results.toList=some (.x (.slice none 0 0))/\n=0))
theorem Xa1{fn:Func}{T:TypeId}{sz n:Nat}{g:Ci}{t:CT}(h:(Js8 P fn.results.toList t).sat (Xs8 T sz n g)):t.sat (EndF P fn T sz n g):=by
 refine VR.sat_mono ?_ (VR.sat_bind h);rintro ⟨x,s⟩ hs;have key:(match qC P s fn.results.toList with
  |some (.row id)=>match DN s.m id with
   |some (.row T sz n f)=>(.leaf (some (T,sz,n,f)):VR (Option (TypeId×Nat×Nat×(Ci))))
   |_=> .fail
  |some (.x (.slice none 0 0))=> .leaf none
  |_=> .fail).sat (Xs8 T sz n g)->(∃id f,qC P s fn.results.toList=some (.row id)/\DN s.m id=some (.row T sz n f)/\ ∀i,i<n->f i=g i/\ ∀a∈g i,isX a)\/(qC P s fn.results.toList=some (.x (.slice none 0 0))/\n=0):=by
  intro h;split at h;rename_i id hid;split at h;rename_i T' sz' n' f hm;obtain ⟨rfl,rfl,rfl,h⟩:=h;exact .inl ⟨id,f,hid,hm,h⟩;exact h.elim;rename_i hid;exact .inr ⟨hid,h⟩;exact h.elim
 cases x with
 |exit i=>exact hs.elim
 |normal=>exact ⟨trivial,key hs⟩
 |ret=>exact ⟨trivial,key hs⟩
theorem qB{G:List (Nat×Spec)}{X:Ext}{L:List UN}{f:FuncId}{fn:Func}{c:Code}{avs:List AV}{T:TypeId}{sz n:Nat}{g:Ci}{t:VR (Option (TypeId×Nat×Nat×(Ci)))}(hG:VP P G)(hX: ∀cx,U0 P X cx)(GX:P.follows .mixedOrders=true)(hf:P.funcs[f]? =some fn)(hb:fn.body=some c)
  (hL: ∀j cj,VX c j=some cj-> ∀sp,L[j]? =some sp->HU P cj sp)(ht:Js8 P fn.results.toList (DD P G X L c 0 (HZ fn avs))=t)(h:t.sat (Xs8 T sz n g))(D5: ∀i,i<n->(g i).length=sz):DV P f avs T sz n g:=by
 subst ht;intro e w args hro hgl FU Z;refine zL hG GX hf hb (cx:=mZ w (λb=>b<w.heap.size/\ ¬e.ro b)) (gh:=none) (T:=λb=>b<w.heap.size/\ ¬e.ro b) (e:=e) (hX _) (λ_ _ h=>h) rfl rfl (by rintro g T w0 D ⟨rfl,_⟩ h;exact h) ⟨rfl,rfl⟩ (λb h=>h) hro hgl FU Z (λj cj hj sp hsp=>hL j cj hj sp hsp _ (zK _ _)) (Xa1 h) ?_ ?_
 rintro x s w0 T' e' tmps w' ⟨hx,PR⟩ ⟨rfl,rfl⟩ q1 q2 q3 q5 q4;rcases PR with ⟨id,ff,F8,hm,hfg⟩|⟨F8,rfl⟩;obtain ⟨u,hu,GS⟩:=DS (P:=P) q3 q4 F8;obtain ⟨h1,h2,h3,xs,h4,h5⟩:=q3 _ (GA hm);cases GS with
 |row _ a n' c' hl hv=>
  refine ⟨_,hu,_,xs,rfl,q2,?_,?_,λi O=>⟨D5 i O,λa ha=>Wo7 ((hfg i O).2 a ha)⟩,λi j a u O ha hu=>?_⟩;rw [←hv];exact h4;intro b hbv;rw [←hv] at hbv;exact q1.owned b id (h2 b hbv);have hx':=Wo7 ((hfg i O).2 a (F9 ha));obtain ⟨z,rfl⟩:=hx';have:=h5 i j (.x z) u O (by rw [(hfg i O).1];exact ha) hu
  rw [this.x_inv]
 obtain ⟨u,hu,GS⟩:=DS (P:=P) q3 q4 F8;obtain rfl:=GS.x_inv;exact ⟨_,hu,_,[],rfl,q2,World.ownsRow_nil _ _ _ _,(λb (hb:none=some b)=>by cases hb),λi O=>absurd O (Aq _),λi j a u O=>absurd O (Aq _)⟩
 rintro x s ⟨hx,_⟩ i rfl;exact hx
def PZ(P:Program)(g:FuncId)(caps:List AV)(N:Nat)(vals:Nat->List Value):Prop:=
 Enters P g/\ ∀(e:UP) (lb:List Value) (w:World) (l:Nat) (Φ:Option Nat->(Nat->Prop)->World->Prop) (T:Nat->Prop),
  (∀b,e.ro b->b<w.heap.size/\ ¬T b)->D2 e w->(∀b,T b->b<w.heap.size)->(∀a∈caps,Idf a)->U8 e w caps lb->
  (∀g T w w',Φ g T w->Below w.heap.size w w'->Φ g T w')->
  (∀k T w n,Φ (some k) T w->k<N->YieldAt (fr none) n P l (vals k).toArray w λen w'=>w.heap.size<=w'.heap.size/\(∀b,b<w.heap.size-> ¬T b->w'.heap[b]? =w.heap[b]?)/\
   ∃T',(∀b,T' b->b<w'.heap.size/\(T b\/w.heap.size<=b))/\((en= .returned (.bool true)/\Φ (some (k+1)) T' w')\/(en= .returned (.bool false)/\Φ none T' w')))->
  Φ (some 0) T w->
  Calls P g (.func (.yield l) #[] #[]::lb).toArray w λen w'=>(∃v,en= .returned v)/\((∃T',Φ (some N) T' w')\/(∃T',Φ none T' w'))
def Js7(N:Nat)(t:CT):VR Unit:=t.bind λp=>match p.1 with
 | .exit _=> .fail
 |_=>match p.2.gh with
  |none=> .leaf ()
  |some k=> .need [k=N] (.leaf ())
theorem Wz4{N:Nat}{t:CT}(h:(Js7 N t).sat (λ_=>True)):t.sat (λp=>(∀i,p.1≠ .exit i)/\(p.2.gh=none\/p.2.gh=some N)):=by
 refine VR.sat_mono ?_ (VR.sat_bind h);rintro ⟨x,s⟩ hs;have key:(match s.gh with|none=>(.leaf ():VR Unit)|some k=> .need [k=N] (.leaf ())).sat (λ_=>True)->s.gh=none\/s.gh=some N:=by
  cases hg:s.gh with
  |none=>exact λ_=> .inl rfl
  |some k=>
   intro h;have:k=N:=h.1;exact .inr (by rw [this])
 cases x with
 |exit i=>exact hs.elim
 |normal=>exact ⟨λi h=>(by cases h),key hs⟩
 |ret=>exact ⟨λi h=>(by cases h),key hs⟩
def cxY(w:World)(Φ:Option Nat->(Nat->Prop)->World->Prop):Cx:={M:=λ_=>False,Φ:=λg T w'=>w.heap.size<=w'.heap.size/\Φ g T w',K:=λ_ _=>False,saved:=[] }
theorem PM{G:List (Nat×Spec)}{L:Nat->List UN}{g:FuncId}{fn:Func}{c:Code}{caps:List AV}{N:Nat}{vals:Nat->List Value}{t:Nat->VR Unit}(hG:VP P G)(GX:P.follows .mixedOrders=true)(PQ:Enters P g)(hf:P.funcs[g]? =some fn)(hb:fn.body=some c)(hrs:fn.results=#[])
  (hL: ∀l cx,U0 P {Y:=some (l,N,vals) } cx-> ∀j cj,VX c j=some cj-> ∀sp,(L l)[j]? =some sp->HQ P none cx cj sp)
  (ht: ∀l,Js7 N (DD P G {Y:=some (l,N,vals) } (L l) c 0 {HZ fn (.fn (.yield l) [] []::caps) with gh:=some 0})=t l)(h: ∀l,(t l).sat (λ_=>True)):PZ P g caps N vals:=by
 refine ⟨PQ,?_⟩;intro e lb w l Φ T hro hgl hT FU Z hst hy h0;have hX:U0 P {Y:=some (l,N,vals) } (cxY w Φ):=by
  refine ⟨?_,(λ_ h=>by cases h),(λ_ h=>by cases h),(λ_ h=>by cases h),(λ_ h=>by cases h),(λ_ h=>by cases h)⟩
  intro l' N' vals' hY;cases hY;refine ⟨λk T w1 w2 h hb=>⟨Ar h.1 hb.size,hst _ T w1 w2 h.2 hb⟩,λk T w1 n h hk=>?_⟩;obtain ⟨fn,tmps,assign,body,h1,h2⟩:=hy k T w1 n h.2 hk;refine ⟨fn,tmps,assign,body,h1,h2.mono ?_⟩;rintro en w2 ⟨q1,q2,T',q3,q4⟩;refine ⟨q1,q2,T',q3,q4.imp (λq=>⟨q.1,?_,q.2⟩) (λq=>⟨q.1,?_,q.2⟩)⟩;exact Ar h.1 q1;exact Ar h.1 q1
 have hs:=h l;rw [←ht l] at hs;refine zL hG GX hf hb (cx:=cxY w Φ) (gh:=some 0) (T:=T) (e:=e) (avs:= .fn (.yield l) [] []::caps) hX (λ_ _ h=>h) rfl rfl (λ_ _ _ _ _ h=>h.elim) ⟨Am _,h0⟩ (λb hb=>⟨hT b hb,λZ=>(hro b Z).2 hb⟩) (λb hb=>(hro b hb).1) hgl ?_ (U8.cons (.fn (.yield l) [] [] [] [] rfl (λi a v h=>by simp at h) rfl (λi a v h=>by simp at h)) Z) (hL l _ hX) (Wz4 hs) ?_ ?_
 intro a ha;rcases GT.1 ha with rfl|ha;exact .fn _ [] [] (λa h=>by cases h) (λa h=>by cases h)
 exact FU a ha;rintro x s w0 T' e' tmps w' ⟨_,hgh⟩ ⟨_,hΦ⟩ _ q2 _ _ _;refine ⟨.tuple #[],?_,⟨_,rfl⟩,?_⟩;simp [results,hrs];have hΦ':=hst _ T' w0 w' hΦ q2;rcases hgh with hgh|hgh;rw [hgh] at hΦ';exact .inr ⟨T',hΦ'⟩;rw [hgh] at hΦ';exact .inl ⟨T',hΦ'⟩;exact λx s h=>h.1
end
section
variable {P:Program}{cx:Cx}{w0:World}{T:Nat->Prop}{e:UP}{s:St}{a:Act}{w:World}
theorem FB.grow(r:FB cx w0 T e s a w){w':World}(hb:Below w.heap.size w w'):FB cx w0 T e s a w':=by
 have st:Step e e w w':=⟨λb hlt Z=>⟨Z,hb.block b hlt⟩,λ_ h=>⟨h,rfl,rfl⟩,hb.size⟩;refine ⟨⟨λb hb'=>⟨(r.env.apart b hb').1,?_⟩,λb k hk=>⟨(r.env.owned b k hk).1,?_⟩,r.env.glob.step st⟩,r.below.trans (hb.mono r.hB),r.mem.ext hb st (λ_ _ h=>h),r.live,r.foe,r.xt.step st,r.slots.step st⟩;have:=(r.env.apart b hb').2;have:=hb.size;omega;have:=(r.env.owned b k hk).2;have:=hb.size;omega
theorem FB.moreRo(r:FB cx w0 T e s a w)(ro':Nat->Prop)(h1: ∀b,e.ro b->ro' b)(h2: ∀b,ro' b->e.own b=none/\b<w.heap.size)(h3: ∀b,ro' b-> ¬T b):FB cx w0 T {e with ro:=ro'} s a w:=by
 have st:Step e {e with ro:=ro'} w w:=⟨λb _ Z=>⟨h1 b Z,rfl⟩,λ_ h=>⟨h,rfl,rfl⟩,Am _⟩
 exact ⟨⟨h2,r.env.owned,r.env.glob.step st⟩,r.below,r.mem.ext (Below.refl _ _) st (λ_ _ h=>h),r.live,λb hb=>⟨(r.foe b hb).1,λh=>h3 b h hb⟩,r.xt.step st,r.slots.step st⟩
theorem FB.turn(r:FB cx w0 T e s a w){l:Nat}{o o':Obj}(hl:w.heap[l]? =some o)(ho:o.isCells=false)(ho':o'.isCells=false)(HD:e.own l=none)(hB:w0.heap.size<=l)(hdl: ∃q,o= .loop q){K':Nat->Obj->Prop}
  (hK': ∀b q,K' b q->(b≠l/\cx.K b q)\/(b=l/\q=o'/\e.ro l)):FB {cx with K:=K'} w0 T e s a (w.putObj l o'):=by
 have hd: ∀x,o≠ .deferred x:=by rintro x rfl;obtain ⟨_,h⟩:=hdl;cases h
 have hom: ∀es c,o≠Obj.map es c:=by rintro es c rfl;obtain ⟨_,h⟩:=hdl;cases h
 have hmp:=qY (o':=o') hl hom;have hlt:=(PK.1 hl).1;have hsz:(w.putObj l o').heap.size=w.heap.size:=World.putObj_size;have hc:=BR (o':=o') hl ho ho';refine ⟨⟨λb hb=>by rw [hsz];exact r.env.apart b hb,λb k hk=>by rw [hsz];exact r.env.owned b k hk,bT r.env.glob hl ho⟩,?_,λp A=>(r.mem p A).putObj hl hom ho ho' HD,r.live,r.foe,⟨⟨λd hd'=>?_,r.xt.defers.2⟩,λb q hq=>?_,⟨r.xt.saved.1,λi x v hx hv=>(r.xt.saved.2 i x v hx hv).sameCells hsz hc hmp⟩,by rw [hsz];exact r.xt.size⟩,r.slots.sameCells hsz hc hmp⟩
 exact r.below.trans ((Below.refl w0.heap.size w).grown (grownBy_putObj' w l _) (by have:=r.hB;omega) (λk he=>by cases he;exact hB))
 obtain ⟨D,k1,k2,k3,k4,k5⟩:=r.xt.defers.1 d hd';refine ⟨D,k1,k2,by rw [hsz];exact k3,?_,k5⟩
 rw [Bu (λhe=>by subst he;rw [hl] at k4;exact hd _ (Bb k4))]
 exact k4;rcases hK' b q hq with ⟨hne,hk⟩|⟨rfl,rfl,hro⟩;obtain ⟨q1,q2,q3⟩:=r.xt.kept b q hk;exact ⟨q1,by rw [hsz];exact q2,(Bu hne).trans q3⟩
 exact ⟨hro,by rw [hsz];exact hlt,World.putObj_heap_same hlt⟩
def Wh3:List Nat->List Value->List AV->List AV
 |p::ps,v::vs,σ=>Wh3 ps vs (σ.set p (.x v))
 |_,_,σ=>σ
theorem OW: ∀(ps:List Nat) (vs:List Value) (σ:List AV) (us:List Value),U8 e w σ us->U8 e w (Wh3 ps vs σ) ((ps.zip vs).foldl (λt (p:Nat×Value)=>t.set p.1 p.2) us)
 |[],_,_,_,h=>h
 |_::_,[],_,_,h=>h
 |p::ps,v::vs,_,_,h=>OW ps vs _ _ (h.set (.x v) p)
theorem AB: ∀(l:List (Nat×Value)) (t:Array Value),(l.foldl (λt (p:Nat×Value)=>t.setIfInBounds p.1 p.2) t).toList=l.foldl (λt (p:Nat×Value)=>t.set p.1 p.2) t.toList
 |[],_=>rfl
 |p::l,t=>by simp only [List.foldl_cons];rw [AB l];simp
def pI(s:St)(ps:List Nat)(vs:List Value):St:={s with σ:=Wh3 ps vs s.σ,sv:=s.σ::s.sv}
def NX(s:St):St:=match s.sv with
 |σ::t=>{s with σ:=σ,sv:=t}
 |[]=>s
def fH(P:Program)(G:List (Nat×Spec))(X:Ext)(L:List UN)(N:List (Pl×Nat×TypeId×Nat))(ps:List Nat)(vs:List Value)(assign body:Code)(s nxt:St)(out:G8->Option St):VR G8:=
 (DD P G X [] assign 0 (pI s ps vs)).bind λp=>match p.1 with
  | .normal=>(DD P G X L body 0 p.2).bind λq=>Qa0 N nxt out (q.1,NX q.2)
  |_=> .fail
def G8.code:G8->Code
 | .normal=> .skip
 | .exit id=> .exit id
 | .ret=> .ret
end
section
variable {P:Program}{G:List (Nat×Spec)}{X:Ext}{L:List UN}
theorem pP{N:List (Pl×Nat×TypeId×Nat)}{ps:List Nat}{vs:List Value}{assign body:Code}{s nxt:St}{out:G8->Option St}{R:G8->Prop}(h:(fH P G X L N ps vs assign body s nxt out).sat R):
  (DD P G X [] assign 0 (pI s ps vs)).sat (λp=>p.1= .normal/\(DD P G X L body 0 p.2).sat (λq=>match q.1 with
   | .normal=>R .normal/\UF (BV (RE N (NX q.2)) nxt)
   |y=> ∃E,out y=some E/\R y/\UF (BV (RE N (NX q.2)) E))):=by
 refine VR.sat_mono ?_ (VR.sat_bind h);rintro ⟨y,s1⟩ h1;cases y with
 |normal=>
  refine ⟨rfl,VR.sat_mono ?_ (VR.sat_bind h1)⟩;rintro ⟨y,s'⟩ A;cases y with
  |normal=>exact ⟨(VR.sat_needT A).2,(VR.sat_needT A).1⟩
  |exit id=>
   dsimp only [Qa0] at A ⊢
   split at A;rename_i E hE;exact ⟨E,hE,(VR.sat_needT A).2,(VR.sat_needT A).1⟩;exact A.elim
  |ret=>
   dsimp only [Qa0] at A ⊢
   split at A;rename_i E hE;exact ⟨E,hE,(VR.sat_needT A).2,(VR.sat_needT A).1⟩;exact A.elim
 |exit id=>exact h1.elim
 |ret=>exact h1.elim
theorem vQ(N:List (Pl×Nat×TypeId×Nat))(hG:VP P G)(hX: ∀cx,U0 P X cx)(GX:P.follows .mixedOrders=true){f:Operand}{ps:Array Nat}{assign body:Code}
  (hL: ∀j cj,VX body j=some cj-> ∀sp,L[j]? =some sp->GD P cj sp)
  {V:Type}(inv:V->St)(I:V->Prop)(idx:V->Nat)(out:V->G8->Option St){t:CT}{x0:V}(h0:I x0)(hi0:idx x0=0)
  (hok: ∀x,okB (inv x)=true)(wF: ∀x y E,out x y=some E->okB E=true)(hgh: ∀x,(inv x).gh=none)(Qw0: ∀x y E,out x y=some E->E.gh=none)
  {g:FuncId}{caps:List AV}{caps0:List AV}(hfv:rho (inv x0).σ f= .fn (.func g) [] caps0)(vZ: ∀e w lb,G5 e (inv x0).m w->U8 e w caps0 lb->U8 e w caps lb/\ ∀x∈caps,Idf x){M:Nat}{vals:Nat->List Value}(Qv4:PZ P g caps M vals)(hps: ∀k,(vals k).length=ps.size)
  (round: ∀(Q:G8×St->Prop),t.sat Q-> ∀x,I x->(idx x<M-> ∃x',idx x'=idx x+1/\(fH P G X L N ps.toList (vals (idx x)) assign body (inv x) (inv x') (out x)).sat (λy=>match y with
   | .normal=>I x'
   |y=> ∀E,out x y=some E->Q (y,E)))/\(idx x=M->Q (.normal,inv x))):HU P (.rangeFunc f ps assign body) (GO N (HI (inv x0) t)):=by
 intro cx Zw4;refine vV (kE (hok x0) ?_);intro n Q hQ a w r;obtain ⟨w0,T0,e,hΦ0,r⟩:=r;rw [hgh] at hΦ0;refine wpIn_rangeFunc ?_;intro fn hfn;obtain ⟨rec,vI⟩: ∃rec:LoopState->Option Code->Loop,rec=λst pe=>{state:=st,pending:=pe,fn,tmps:=a.tmps,params:=ps,assign,body,defers:=w.heap.size}:=⟨_,rfl⟩;obtain ⟨W1,hW1⟩: ∃W1,(w.alloc (.deferred (some []))).alloc (.loop (rec .ready none))=W1:=⟨_,rfl⟩;have hfe:=FR r.slots f;rw [hfv] at hfe;obtain ⟨us,lb,hv,ru,rl⟩:=hfe.fn_inv;cases ru.nil_inv;have hL1:W1.heap[w.heap.size+1]? =some (.loop (rec .ready none)):=by
  rw [←hW1];have:=World.alloc_heap_new (w.alloc (.deferred (some []))) (.loop (rec .ready none));rwa [World.size_alloc] at this
 have hD1:W1.heap[w.heap.size]? =some (.deferred (some [])):=by
  rw [←hW1];exact (Below.heap_alloc _ _ _ VY).trans (World.alloc_heap_new w _)
 have hS1:W1.heap.size=w.heap.size+2:=by rw [←hW1];simp
 have hb1:Below w.heap.size w W1:=by
  rw [←hW1];exact ((Below.refl _ w).alloc (Am _) _).alloc VY _
 have hw0:=r.hB
 obtain ⟨a',ha'⟩: ∃a':Act,a'={tmps:=a.tmps,defers:={target:= .collected w.heap.size,args:=#[] }::a.defers}:=⟨_,rfl⟩
 let own':UP->Nat->Prop:=λe b=>(∃id,e.own b=some id)\/b=w.heap.size+1
 let Φi:Option Nat->(Nat->Prop)->World->Prop:=λk T W=>match k with
  |some k=> ∃x e,I x/\idx x=k/\T=own' e/\FB cx w0 T0 e (inv x) a' W/\e.own (w.heap.size+1)=none/\W.heap[w.heap.size+1]? =some (.loop (rec .ready none))
  |none=> ∃y E e,y≠G8.normal/\Q (y,E)/\E.gh=none/\T=own' e/\FB cx w0 T0 e E a' W/\e.own (w.heap.size+1)=none/\W.heap[w.heap.size+1]? =some (.loop (rec .done (some y.code)))
 have hst: ∀g T w w',Φi g T w->Below w.heap.size w w'->Φi g T w':=by
  intro k T w1 w2 h hb;cases k with
  |some k=>
   obtain ⟨x,e,h1,h2,h3,h4,h5,h6⟩:=h;exact ⟨x,e,h1,h2,h3,h4.grow hb,h5,(hb.block _ (PK.1 h6).1).trans h6⟩
  |none=>
   obtain ⟨y,E,e,h1,h2,h2',h3,h4,h5,h6⟩:=h;exact ⟨y,E,e,h1,h2,h2',h3,h4.grow hb,h5,(hb.block _ (PK.1 h6).1).trans h6⟩
 have r1:=r.grow hb1;have hns: ∀d∈a.defers,d≠{target:= .collected w.heap.size,args:=#[] }:=by
  intro d hd he;obtain ⟨D,k1,k2,k3,k4,k5⟩:=r.xt.defers.1 d hd;rw [k1] at he;simp only [Deferred.mk.injEq,Target.collected.injEq,and_true] at he;omega
 let e1:UP:={e with ro:=λb=>e.ro b\/b=w.heap.size}
 have r2:FB cx w0 T0 e1 (inv x0) a W1:=by
  refine r1.moreRo _ (λb h=> .inl h) ?_ ?_;rintro b (h|rfl);exact r1.env.apart b h;refine ⟨?_,VO⟩;cases ho:e.own w.heap.size with
  |none=>rfl
  |some k=>have:=(r.env.owned _ k ho).2;omega
  rintro b (h|rfl) hT;exact (r.foe b hT).2 h;have:=(r.foe _ hT).1;omega
 have r3:FB cx w0 T0 e1 (inv x0) a' W1:=by
  rw [ha'];refine ⟨r2.env,r2.below,r2.mem,r2.live,r2.foe,⟨⟨λd hd=>?_,List.nodup_cons.2 ⟨λh=>hns _ h rfl,r2.xt.defers.2⟩⟩,r2.xt.kept,r2.xt.saved,r2.xt.size⟩,r2.slots⟩;rcases GT.1 hd with rfl|hd;exact ⟨w.heap.size,rfl,.inr rfl,VO,hD1,Zw4 _ _ _ _ hΦ0 hw0 r.xt.size⟩;exact r2.xt.defers.1 d hd
 have Jq6:e.own (w.heap.size+1)=none:=by
  cases ho:e.own (w.heap.size+1) with
  |none=>rfl
  |some k=>have:=(r.env.owned _ k ho).2;omega
 refine ⟨w.heap.size+1,[{target:= .collected w.heap.size,args:=#[] }],W1,{target:= .fn (.func g) lb.toArray,args:=#[.func (.yield (w.heap.size+1)) #[] #[]] },W1,g,
  #[.func (.yield (w.heap.size+1)) #[] #[]]++lb.toArray,W1,?_,?_,(λ_ _=>trivial),?_,(λh=>by cases h),?_⟩
 rw [←hW1,vI];exact run_enterLoop_outer _ _ _ _ _;simp only [resolve,hv];simp [go_sem];simp only [invoke];exact LP Qv4.1 _ W1;have SV:#[.func (.yield (w.heap.size+1)) #[] #[]]++lb.toArray=(Value.func (.yield (w.heap.size+1)) #[] #[]::lb).toArray:=Array.ext' VY;rw [SV];obtain ⟨rl,Jr6⟩:=vZ e w lb r.mem rl;have stw:Step e e1 w W1:=⟨λb hlt Z=>⟨.inl Z,hb1.block b hlt⟩,λ_ h=>⟨h,rfl,rfl⟩,hb1.size⟩;have FO:=Qv4.2 e1 lb W1 (w.heap.size+1) Φi (own' e1) ?_ (r.env.glob.step stw) ?_ Jr6 (rl.step stw) hst ?_ ⟨x0,e1,h0,hi0,rfl,r3,Jq6,hL1⟩;refine MV (FO.mono ?_);have hw4: ∀{W:World} {s:St} {e:UP} {o:Loop} {o':Loop},FB cx w0 T0 e s a' W->e.own (w.heap.size+1)=none->W.heap[w.heap.size+1]? =some (.loop o)->s.gh=none->Rel cx s a' (W.putObj (w.heap.size+1) (.loop o')):=by
  intro W s e o o' Z ho hl hg;have hne: ∀b q,cx.K b q->b≠w.heap.size+1:=by
   rintro b q hk rfl;have h1:=r.xt.kept _ q hk;omega
  have:=Z.turn (K':=cx.K) hl rfl (o':= .loop o') rfl ho VO ⟨_,rfl⟩ (λb q hk=> .inl ⟨hne b q hk,hk⟩);exact ⟨w0,T0,e,by rw [hg];exact hΦ0,this⟩
 rintro en W ⟨⟨v,rfl⟩,h⟩;rcases h with ⟨T',x,e',q1,q2,q3,q4,q5,q6⟩|⟨T',y,E,e',q1,q2,q2',q3,q4,q5,q6⟩;refine ⟨none,_,by have:=run_endLoop (P:=P) q6 (by rw [vI];simp);rw [vI] at this;exact this,?_⟩
 have:=hw4 (o':={rec .ready none with state:= .exhausted}) q4 q5 q6 (hgh x)
 rw [ha',vI] at this;exact ⟨.normal,inv x,rfl,(round Q hQ x q1).2 q2,this⟩
 ·have PR:(Instr.endLoop (w.heap.size+1)).run P W= .ok (some y.code) (W.putObj (w.heap.size+1) (.loop {rec .done (some y.code) with state:= .exhausted})):=by
   have:=run_endLoop (P:=P) q6 (by rw [vI];simp)
   rw [vI] at this ⊢;exact this
  refine ⟨some y.code,_,PR,?_⟩;have:=hw4 (o':={rec .done (some y.code) with state:= .exhausted}) q4 q5 q6 q2'
  rw [ha'] at this;cases y with
  |normal=>exact (q1 rfl).elim
  |exit id=>exact wpIn_exit ⟨.exit id,E,rfl,q2,this⟩
  |ret=>exact wpIn_ret ⟨.ret,E,rfl,q2,this⟩
 rintro b (h|rfl);refine ⟨by have:=(r.env.apart b h).2;omega,?_⟩
 rintro (⟨id,h2⟩|rfl);have h2':e.own b=some id:=h2;rw [(r.env.apart b h).1] at h2';cases h2';have:=(r.env.apart _ h).2;omega;refine ⟨VO,?_⟩;rintro (⟨id,h2⟩|h2);have:=(r.env.owned _ id h2).2;omega;omega;rintro b (⟨id,h⟩|rfl);have:=(r.env.owned b id h).2;omega;omega
 ·-- a round
  rintro k T W m ⟨x,ek,hIx,rfl,rfl,rk,hkl,hkr⟩ hkM;obtain ⟨x',hx',jI⟩:=(round Q hQ x hIx).1 hkM;have hWl:=(PK.1 hkr).1;have hy:=run_yield (P:=P) (args:=(vals (idx x)).toArray) hkr (by rw [vI];simp [hps])
  rw [vI] at hy;refine ⟨fn,_,assign,body,hy,roundIn_of_wpIn hfn ?_⟩;clear hy
  let nown:Nat->Prop:=λb=>w0.heap.size<=b/\b<W.heap.size/\ek.own b=none
  let K0:Nat->Obj->Prop:=λb o=>(cx.K b o\/(nown b/\W.heap[b]? =some o)\/(∃d∈a'.defers,d={target:= .collected b,args:=#[] }/\o= .deferred (some [])))/\b≠w.heap.size+1
  let cxk:(Nat->Obj->Prop)->Cx:=λK=>{M:=λ_=>False,Φ:=λg T w=>g=none/\w=w0/\T=T0,K:=K,saved:=a.tmps.toList::cx.saved,sz:=W.heap.size}
  let e2:UP:={ek with ro:=λb=>ek.ro b\/nown b}
  have rk2:FB cx w0 T0 e2 (inv x) a' W:=by
   refine rk.moreRo _ (λb h=> .inl h) ?_ ?_;rintro b (h|⟨h1,h2,h3⟩);exact rk.env.apart b h;exact ⟨h3,h2⟩;rintro b (h|⟨h1,h2,h3⟩) hT;exact (rk.foe b hT).2 h;have:=(rk.foe b hT).1;omega
  have hKok: ∀b o,K0 b o->e2.ro b/\b<W.heap.size/\W.heap[b]? =some o:=by
   rintro b o ⟨h|⟨h1,h2⟩|⟨d,hd,h1,rfl⟩,_⟩;exact rk2.xt.kept b o h;exact ⟨.inr h1,h1.2.1,h2⟩;obtain ⟨D,k1,k2,k3,k4,k5⟩:=rk2.xt.defers.1 d hd;rw [h1] at k1;simp only [Deferred.mk.injEq,Target.collected.injEq,and_true] at k1;subst k1;exact ⟨k2,k3,k4⟩
  have hlro:e2.ro (w.heap.size+1):= .inr ⟨VO,hWl,hkl⟩;have rs:Rel (cxk (λb o=>K0 b o\/(b=w.heap.size+1/\o= .loop (rec .ready none)))) (pI (inv x) ps.toList (vals (idx x))) {tmps:=(ps.zip (vals (idx x)).toArray).foldl (λt (p,v)=>t.setIfInBounds p v) a.tmps,defers:=[] } W:=by
   refine ⟨w0,T0,e2,⟨hgh x,rfl,rfl⟩,rk2.env,rk2.below,rk2.mem,rk2.live,rk2.foe,⟨⟨(λd hd=>by cases hd),By⟩,?_,LK.cons (by rw [ha'] at rk2;exact rk2.slots) rk2.xt.saved,Am _⟩,?_⟩
   rintro b o (h|⟨rfl,rfl⟩);exact hKok b o h;exact ⟨hlro,hWl,hkr⟩;have h1:=OW (e:=e2) (w:=W) ps.toList (vals (idx x)) (inv x).σ a.tmps.toList (by rw [ha'] at rk2;exact rk2.slots)
   have h2:((ps.zip (vals (idx x)).toArray).foldl (λt (p,v)=>t.setIfInBounds p v) a.tmps).toList=(ps.toList.zip (vals (idx x))).foldl (λt (p:Nat×Value)=>t.set p.1 p.2) a.tmps.toList:=by
    rw [←AB,←Array.foldl_toList];simp
   rw [h2];exact h1
  have FQ:=pP jI;refine wpIn_mono (DF hG (hX _) GX (ro:=some (w.heap.size+1)) assign 0 _ _ _ W G9 FQ rs) ?_;rintro ex a1 W1' ⟨y1,s1,rfl,⟨hy1,Jr7⟩,w0',T',ea,⟨hg1,rfl,rfl⟩,ra⟩;cases hy1;obtain ⟨hlr,hll,hlh⟩:=ra.xt.kept (w.heap.size+1) (.loop (rec .ready none)) (.inr ⟨rfl,rfl⟩);refine ⟨_,run_beginRound hlh (by rw [vI]),?_⟩
  have rb:=ra.turn (K':=λb o=>K0 b o\/(b=w.heap.size+1/\o= .loop {rec .ready none with state:= .busy})) hlh rfl (o':= .loop {rec .ready none with state:= .busy}) rfl (ra.env.apart _ hlr).1 VO ⟨_,rfl⟩ (by
   rintro b q (h|⟨rfl,rfl⟩);exact .inl ⟨h.2,.inl h⟩;exact .inr ⟨rfl,rfl,hlr⟩)
  refine wpIn_mono (DF hG (hX _) GX (ro:=some (w.heap.size+1)) (cx:=cxk (λb o=>K0 b o\/(b=w.heap.size+1/\o= .loop {rec .ready none with state:= .busy}))) body 0 s1 _ a1 _ (λj cj hj sp hsp=>hL j cj hj sp (by simpa using hsp) _ _) Jr7 ⟨w0',T',ea,⟨hg1,rfl,rfl⟩,rb⟩) ?_
  rintro ex a3 W3 ⟨y,s3,rfl,hq,w0'',T'',eb,⟨hg3,hw0e,hT0e⟩,rc⟩;subst hw0e hT0e;obtain ⟨Jr3,hll3,Jr4⟩:=rc.xt.kept (w.heap.size+1) _ (.inr ⟨rfl,rfl⟩)
  have back: ∀(jump:Option Code) (E:St),UF (BV (RE N (NX s3)) E)->okB E=true->
    (Instr.endRound (w.heap.size+1) jump).run P W3= .ok (.bool jump.isNone) (W3.putObj (w.heap.size+1) (.loop (rec (if jump.isNone then .ready else .done) jump)))/\
    ∃ec,FB cx w0'' T'' ec E a' (W3.putObj (w.heap.size+1) (.loop (rec (if jump.isNone then .ready else .done) jump)))/\ec.own (w.heap.size+1)=none/\
     (W3.putObj (w.heap.size+1) (.loop (rec (if jump.isNone then .ready else .done) jump))).heap[w.heap.size+1]? =some (.loop (rec (if jump.isNone then .ready else .done) jump))/\
     W.heap.size<=(W3.putObj (w.heap.size+1) (.loop (rec (if jump.isNone then .ready else .done) jump))).heap.size/\
     (∀b,b<W.heap.size-> ¬own' ek b->(W3.putObj (w.heap.size+1) (.loop (rec (if jump.isNone then .ready else .done) jump))).heap[b]? =W.heap[b]?)/\
     ∀b,own' ec b->b<(W3.putObj (w.heap.size+1) (.loop (rec (if jump.isNone then .ready else .done) jump))).heap.size/\(own' ek b\/W.heap.size<=b):=by
   intro jump E tH hokE;have DW:=run_endRound (P:=P) jump Jr4;refine ⟨by rw [vI] at DW ⊢;exact DW,?_⟩
   obtain ⟨W4,hW4⟩: ∃W4,W4=W3.putObj (w.heap.size+1) (.loop (rec (if jump.isNone then .ready else .done) jump)):=⟨_,rfl⟩
   rw [←hW4];have rd:=rc.turn (K':=K0) Jr4 rfl (o':= .loop (rec (if jump.isNone then .ready else .done) jump)) rfl (rc.env.apart _ Jr3).1 VO ⟨_,rfl⟩ (λb q h=> .inl ⟨h.2,.inl h⟩)
   rw [←hW4] at rd;have hl4:W4.heap[w.heap.size+1]? =some (.loop (rec (if jump.isNone then .ready else .done) jump)):=by rw [hW4];exact World.putObj_heap_same hll3
   have Jp9:W.heap.size<=W4.heap.size:=rd.xt.size
   let cxp:Cx:={M:=λD=>cx.M D,Φ:=λg T w=>g=none/\w=w0''/\T=T'',K:=λb o=>K0 b o\/(b=w.heap.size+1/\o= .loop (rec (if jump.isNone then .ready else .done) jump)),saved:=cx.saved,sz:=cx.sz}
   have hpop:Rel cxp (NX s3) a' W4:=by
    obtain ⟨σ0,l',hsv,hs1,hs2⟩:=rd.xt.saved.cons_inv;refine ⟨w0'',T'',eb,?_,rd.env,rd.below,?_,?_,rd.foe,⟨⟨λd hd=>?_,?_⟩,?_,?_,Ar rk.xt.size Jp9⟩,?_⟩;exact ⟨by unfold NX;rw [hsv];exact hg3,rfl,rfl⟩
    unfold NX;rw [hsv];exact rd.mem;unfold NX;rw [hsv];exact rd.live;obtain ⟨D,k1,k2,k3,k4,k5⟩:=rk.xt.defers.1 d hd;have hDl:D≠w.heap.size+1:=by
     rintro rfl;rw [hkr] at k4;cases k4
    obtain ⟨q1,q2,q3⟩:=rd.xt.kept D (.deferred (some [])) ⟨.inr (.inr ⟨d,hd,k1,rfl⟩),hDl⟩;exact ⟨D,k1,q1,q2,q3,k5⟩;exact rk.xt.defers.2;rintro b o (h|⟨rfl,rfl⟩);exact rd.xt.kept b o h;exact ⟨Jr3,(PK.1 hl4).1,hl4⟩;unfold NX;rw [hsv];exact hs2;unfold NX;rw [hsv];rw [ha'];exact hs1
   obtain ⟨w0p,Tp,ec,⟨_,rfl,rfl⟩,re⟩:=RB (GI tH) hokE (DM (l:=N) hpop);have hlec:=re.xt.kept _ _ (Or.inr ⟨rfl,rfl⟩);refine ⟨ec,⟨re.env,re.below,re.mem,re.live,re.foe,⟨re.xt.defers,λb o h=>?_,re.xt.saved,re.xt.size⟩,re.slots⟩,(re.env.apart _ hlec.1).1,hl4,Jp9,?_,?_⟩;refine re.xt.kept b o (.inl ⟨.inl h,?_⟩);rintro rfl;have h1:=r.xt.kept _ o h;omega;intro b hb hno;rcases An b w0p.heap.size with h1|h1;rw [re.below.block b h1,rk.below.block b h1];have hbn:ek.own b=none:=by
    cases ho:ek.own b with
    |none=>rfl
    |some id=>exact (hno (.inl ⟨id,ho⟩)).elim
   have hbl:b≠w.heap.size+1:=λh=>hno (.inr h);have hlt:b<W.heap.size:=hb;obtain ⟨_,_,q3⟩:=re.xt.kept b W.heap[b] (.inl ⟨.inr (.inl ⟨⟨h1,hlt,hbn⟩,by simp [hlt]⟩),hbl⟩)
   rw [q3];simp [hlt];rintro b (⟨id,h⟩|rfl);obtain ⟨q1,q2⟩:=re.env.owned b id h;refine ⟨q2,?_⟩;rcases An b W.heap.size with h1|h1;refine .inl ?_;cases ho:ek.own b with
   |some id'=>exact .inl ⟨id',ho⟩
   |none=>
    rcases Classical.em (b=w.heap.size+1) with h2|h2;exact .inr h2;exfalso;obtain ⟨q3,_,_⟩:=re.xt.kept b W.heap[b] (.inl ⟨.inr (.inl ⟨⟨q1,h1,ho⟩,by simp [h1]⟩),h2⟩)
    rw [(re.env.apart b q3).1] at h;cases h
   exact .inr h1;exact ⟨(PK.1 hl4).1,.inl (.inr rfl)⟩
  cases y with
  |normal=>
   obtain ⟨hI',tH⟩:=hq;obtain ⟨DW,ec,q1,q2,q3,q4,q5,q6⟩:=back none (inv x') tH (hok x');exact ⟨_,_,DW,q4,q5,own' ec,q6,.inl ⟨rfl,x',ec,hI',hx',rfl,q1,q2,q3⟩⟩
  |exit id=>
   obtain ⟨E,hE,hQE,tH⟩:=hq;obtain ⟨DW,ec,q1,q2,q3,q4,q5,q6⟩:=back (some (.exit id)) E tH (wF x _ E hE);exact ⟨_,_,DW,q4,q5,own' ec,q6,.inr ⟨rfl,.exit id,E,ec,(λh=>by cases h),hQE E hE,Qw0 x _ E hE,rfl,q1,q2,q3⟩⟩
  |ret=>
   obtain ⟨E,hE,hQE,tH⟩:=hq;obtain ⟨DW,ec,q1,q2,q3,q4,q5,q6⟩:=back (some .ret) E tH (wF x _ E hE);exact ⟨_,_,DW,q4,q5,own' ec,q6,.inr ⟨rfl,.ret,E,ec,(λh=>by cases h),hQE E hE,Qw0 x _ E hE,rfl,q1,q2,q3⟩⟩
theorem LQ(N:List (Pl×Nat×TypeId×Nat))(hG:VP P G)(hX: ∀cx,U0 P X cx)(GX:P.follows .mixedOrders=true){f:Operand}{ps:Array Nat}{assign body:Code}
  (hL: ∀j cj,VX body j=some cj-> ∀sp,L[j]? =some sp->GD P cj sp)
  {V:Type}(inv:V->St)(I:V->Prop)(idx:V->Nat)(out:V->G8->Option St){t:CT}{x0:V}(h0:I x0)(hi0:idx x0=0)
  (hok: ∀x,okB (inv x)=true)(wF: ∀x y E,out x y=some E->okB E=true)(hgh: ∀x,(inv x).gh=none)(Qw0: ∀x y E,out x y=some E->E.gh=none)
  {g:FuncId}{caps:List AV}(hfv:rho (inv x0).σ f= .fn (.func g) [] caps)(vZ:caps.all (AW 6)=true){M:Nat}{vals:Nat->List Value}(Qv4:PZ P g caps M vals)(hps: ∀k,(vals k).length=ps.size)
  (round: ∀(Q:G8×St->Prop),t.sat Q-> ∀x,I x->(idx x<M-> ∃x',idx x'=idx x+1/\(fH P G X L N ps.toList (vals (idx x)) assign body (inv x) (inv x') (out x)).sat (λy=>match y with
   | .normal=>I x'
   |y=> ∀E,out x y=some E->Q (y,E)))/\(idx x=M->Q (.normal,inv x))):HU P (.rangeFunc f ps assign body) (GO N (HI (inv x0) t)):=by
 refine vQ N hG hX GX hL inv I idx out h0 hi0 hok wF hgh Qw0 (caps:=caps) hfv ?_ Qv4 hps round;intro e w lb _ rl;refine ⟨rl,λx hx=>?_⟩;obtain ⟨i,O⟩:=xJ.1 hx;obtain ⟨v,_,rv⟩:=rl.get O;exact kW 6 x v rv (BF.1 vZ x hx)
def AS(m:HA):Nat->AV->AV
 | 0,a=>match a with
  | .lit b=> .lit b
  | .x v=> .x v
  | .ro l=> .ro l
  | .lst a b c=> .lst a b c
  | .roI a b c d=> .roI a b c d
  |_=> .top
 |d+1,a=>match a with
  | .ptr id off=>match DN m id with
   |some (.keep _ l)=> .ro ((l.drop off).map (AS m d))
   |_=> .top
  | .agg l=> .agg (l.map (AS m d))
  | .tup l=> .tup (l.map (AS m d))
  | .fn f l l'=> .fn f (l.map (AS m d)) (l'.map (AS m d))
  | .row _=> .top
  | .elt _ _ _ _=> .top
  | .mp _=> .top
  |a=>a
theorem IT{e:UP}{w:World}{m:HA}(hm:G5 e m w): ∀(d:Nat) (a:AV) (v:Value),Rep e w a v->Idf (AS m d a)
 | 0,a,v,h=>by
  cases h with
  |lit b=>exact .lit b
  |x v=>exact .x v
  |ro l vs b o h1 h2 h3 h4 h5 h6=>exact .ro l h3
  |lstNil sz f=>exact .lst sz 0 f (λi O=>VO)
  |lst sz n f b o cap g h1 h2 h3 h4 h5 h6 h7 h8 ad had=>exact .lst sz n f h3
  |roI pre n f off b o Z=>cases Z with|ro _ vs _ _ h1 h2 h3 h4 h5 h6=>exact .roI pre n f off (.ro _ h3)
  |_=>exact .top
 |d+1,a,v,h=>by
  have ih:=IT hm d;cases h with
  |top v=>exact .top
  |lit b=>exact .lit b
  |x v=>exact .x v
  |agg l vs h1 h2=>exact .agg _ (DZ ih (⟨h1,h2⟩:U8 e w l vs))
  |tup l vs h1 h2=>exact .tup _ (DZ ih (⟨h1,h2⟩:U8 e w l vs))
  |fn f l l' vs vs' h1 h2 h3 h4=>exact .fn f _ _ (DZ ih (⟨h1,h2⟩:U8 e w l vs)) (DZ ih (⟨h3,h4⟩:U8 e w l' vs'))
  |ptr id off hl=>
   simp only [AS];split;rename_i T l hg;obtain ⟨_,_,_,vs,h3,h4⟩:=hm _ (GA hg);exact .ro _ (DZ ih (h4.drop off));exact .top
  |row id a n c hl hv=>exact .top
  |elt id sz i j b n cap hl hv=>exact .top
  |mp id hl=>exact .top
  |mpr g okf vals b es c h1 h2 h3 h4 h5 h6 h7 h8=>exact .mpr g okf h3
  |any1 v hv=>exact .any1
  |roI pre n f off b o Z=>cases Z with|ro _ vs _ _ h1 h2 h3 h4 h5 h6=>exact .roI pre n f off (.ro _ h3)
  |ro l vs b o h1 h2 h3 h4 h5 h6=>exact .ro l h3
  |lstNil sz f=>exact .lst sz 0 f (λi O=>VO)
  |lst sz n f b o cap g h1 h2 h3 h4 h5 h6 h7 h8 ad had=>exact .lst sz n f h3
theorem lR{e:UP}{w:World}{m:HA}(hm:G5 e m w): ∀(d:Nat) (a:AV) (v:Value),Rep e w a v->Rep e w (AS m d a) v
 | 0,a,v,h=>by
  cases a<;>first|exact h|exact .top v
 |d+1,a,v,h=>by
  have ih:=lR hm d;have ihf:=IT hm d;cases h with
  |agg l vs h1 h2=>exact Rep.aggL (U8.map _ ih ⟨h1,h2⟩)
  |tup l vs h1 h2=>exact Rep.tupL (U8.map _ ih ⟨h1,h2⟩)
  |fn f l l' vs vs' h1 h2 h3 h4=>
   have k1:U8 e w l vs:=⟨h1,h2⟩;have k2:U8 e w l' vs':=⟨h3,h4⟩;exact .fn f _ _ vs vs' (U8.map _ ih k1).1 (U8.map _ ih k1).2 (U8.map _ ih k2).1 (U8.map _ ih k2).2
  |ptr id off hl=>
   simp only [AS];split;rename_i T l hg;obtain ⟨_,hro,hlt,vs,h3,h4⟩:=hm _ (GA hg);have k:=U8.map (AS m d) ih (h4.drop off);refine .ro _ (vs.drop off) (e.blk id) off hro hlt (DZ ihf (h4.drop off)) k.1 ?_ k.2;intro j v hj;rw [List.getElem?_drop] at hj;simp [World.cell?,h3,hj];exact .top _
  |row id a n c hl hv=>exact .top _
  |elt id sz i j b n cap hl hv=>exact .top _
  |mp id hl=>exact .top _
  |mpr g okf vals b es c h1 h2 h3 h4 h5 h6 h7 h8=>exact .mpr g okf vals b es c h1 h2 h3 h4 h5 h6 h7 h8
  |any1 v hv=>exact .any1 v hv
  |top v=>exact .top v
  |lit b=>exact .lit b
  |x v=>exact .x v
  |roI pre n f off b o Z=>exact .roI pre n f off b o Z
  |ro l vs b o h1 h2 h3 h4 h5 h6=>exact .ro l vs b o h1 h2 h3 h4 h5 h6
  |lstNil sz f=>exact .lstNil sz f
  |lst sz n f b o cap g h1 h2 h3 h4 h5 h6 h7 h8 ad had=>exact .lst sz n f b o cap g h1 h2 h3 h4 h5 h6 h7 h8 ad had
theorem vP(N:List (Pl×Nat×TypeId×Nat))(hG:VP P G)(hX: ∀cx,U0 P X cx)(GX:P.follows .mixedOrders=true){f:Operand}{ps:Array Nat}{assign body:Code}
  (hL: ∀j cj,VX body j=some cj-> ∀sp,L[j]? =some sp->GD P cj sp)
  {V:Type}(inv:V->St)(I:V->Prop)(idx:V->Nat)(out:V->G8->Option St){t:CT}{x0:V}(h0:I x0)(hi0:idx x0=0)
  (hok: ∀x,okB (inv x)=true)(wF: ∀x y E,out x y=some E->okB E=true)(hgh: ∀x,(inv x).gh=none)(Qw0: ∀x y E,out x y=some E->E.gh=none)
  {g:FuncId}{caps:List AV}{caps0:List AV}(hfv:rho (inv x0).σ f= .fn (.func g) [] caps0)(vZ:caps0.map (AS (inv x0).m 6)=caps){M:Nat}{vals:Nat->List Value}(Qv4:PZ P g caps M vals)(hps: ∀k,(vals k).length=ps.size)
  (round: ∀(Q:G8×St->Prop),t.sat Q-> ∀x,I x->(idx x<M-> ∃x',idx x'=idx x+1/\(fH P G X L N ps.toList (vals (idx x)) assign body (inv x) (inv x') (out x)).sat (λy=>match y with
   | .normal=>I x'
   |y=> ∀E,out x y=some E->Q (y,E)))/\(idx x=M->Q (.normal,inv x))):HU P (.rangeFunc f ps assign body) (GO N (HI (inv x0) t)):=by
 subst vZ;refine vQ N hG hX GX hL inv I idx out h0 hi0 hok wF hgh Qw0 (caps:=caps0.map (AS (inv x0).m 6)) hfv ?_ Qv4 hps round;intro e w lb hm rl;exact ⟨U8.map _ (lR hm 6) rl,DZ (IT hm 6) rl⟩
end
def PE(P:Program)(f:FuncId)(s:Spec):Prop:=Enters P f/\ ∀avs ns res,s avs=some (ns,res)->(∀p∈ns,p)->FJ P f avs res
def VV(P:Program)(R:List (Nat×Spec)):Prop:= ∀p∈R,PE P p.1 p.2
def VS(P:Program)(H:List (Nat×D9)):Prop:= ∀p∈H,GH P p.1 p.2
theorem VV.nil(P:Program):VV P []:=λ_ h=>by cases h
theorem VV.cons{P:Program}{f:Nat}{s:Spec}{R:List (Nat×Spec)}(h:PE P f s)(k:VV P R):VV P ((f,s)::R):=by
 intro p A;rcases GT.1 A with rfl|A;exact h;exact k p A
theorem VS.nil(P:Program):VS P []:=λ_ h=>by cases h
theorem VS.cons{P:Program}{f:Nat}{s:D9}{R:List (Nat×D9)}(h:GH P f s)(k:VS P R):VS P ((f,s)::R):=by
 intro p A;rcases GT.1 A with rfl|A;exact h;exact k p A
theorem U0.of{P:Program}{R:List (Nat×Spec)}{H:List (Nat×D9)}(hR:VV P R)(hH:VS P H)(cx:Cx):U0 P {R:=R,H:=H} cx:=⟨(λ_ _ _ h=>by cases h),hR,hH,(λ_ h=>by cases h),(λ_ h=>by cases h),(λ_ h=>by cases h)⟩
def UJ(P:Program)(C:List (Nat×DP)):Prop:= ∀p∈C,Enters P p.1/\ ∀avs t,p.2 avs=some t->US P p.1 avs t
theorem UJ.nil(P:Program):UJ P []:=λ_ h=>by cases h
theorem UJ.cons{P:Program}{f:Nat}{s:DP}{C:List (Nat×DP)}(h:Enters P f/\ ∀avs t,s avs=some t->US P f avs t)(k:UJ P C):UJ P ((f,s)::C):=by
 intro p A;rcases GT.1 A with rfl|A;exact h;exact k p A
theorem U0.ofC{P:Program}{R:List (Nat×Spec)}{H:List (Nat×D9)}{C:List (Nat×DP)}(hR:VV P R)(hH:VS P H)(hC:UJ P C)(cx:Cx):U0 P {R:=R,H:=H,C:=C} cx:=⟨(λ_ _ _ h=>by cases h),hR,hH,hC,(λ_ h=>by cases h),(λ_ h=>by cases h)⟩
def L6(P:Program)(F:List (Nat×BZ)):Prop:= ∀p∈F,Enters P p.1/\ ∀avs ns T sz n g,p.2 avs=some (ns,T,sz,n,g)->(∀q∈ns,q)->DV P p.1 avs T sz n g
theorem L6.nil(P:Program):L6 P []:=λ_ h=>by cases h
theorem L6.cons{P:Program}{f:Nat}{s:BZ}{F:List (Nat×BZ)}(h:Enters P f/\ ∀avs ns T sz n g,s avs=some (ns,T,sz,n,g)->(∀q∈ns,q)->DV P f avs T sz n g)(k:L6 P F):L6 P ((f,s)::F):=by
 intro p A;rcases GT.1 A with rfl|A;exact h;exact k p A
def BH(P:Program)(D:List (Nat×DP)):Prop:= ∀p∈D,Enters P p.1/\ ∀avs t,p.2 avs=some t->B0 P p.1 avs t
theorem BH.nil(P:Program):BH P []:=λ_ h=>by cases h
theorem BH.cons{P:Program}{f:Nat}{s:DP}{D:List (Nat×DP)}(h:Enters P f/\ ∀avs t,s avs=some t->B0 P f avs t)(k:BH P D):BH P ((f,s)::D):=by
 intro p A;rcases GT.1 A with rfl|A;exact h;exact k p A
theorem U0.ofF{P:Program}{R:List (Nat×Spec)}{H:List (Nat×D9)}{C:List (Nat×DP)}{F:List (Nat×BZ)}{D:List (Nat×DP)}(hR:VV P R)(hH:VS P H)(hC:UJ P C)(hF:L6 P F)(hD:BH P D)(cx:Cx):U0 P {R:=R,H:=H,C:=C,F:=F,D:=D} cx:=⟨(λ_ _ _ h=>by cases h),hR,hH,hC,hF,hD⟩
open Go Go.RowKit Go.ChangeShapes Go.WideShapes
inductive SK where
 |int (k:IntKind)
 |bool
 |str
def sZ:SK->Value->Prop
 | .int k,v=> ∃n,v= .int k n/\(Lit.int k n).wf=true
 | .bool,v=> ∃b,v= .bool b
 | .str,v=> ∃s,v= .string s
def LZ(ks:List SK)(vs:List Value):Prop:=ks.length=vs.length/\ ∀(j:Nat) (k:SK) (v:Value),ks[j]? =some k->vs[j]? =some v->sZ k v
def MJ(P:Program)(g:TypeId->Option (List SK)):List Field->Nat->Option (List SK)
 |[],_=>some []
 |f::fs,off=>match g f.type with
  |some ks=>match Nat.beq f.offset off&&Nat.beq ks.length (P.cellsOf f.type) with
   |true=>match MJ P g fs (off+ks.length) with
    |some r=>some (ks++r)
    |none=>none
   |false=>none
  |none=>none
def RF(P:Program):Nat->TypeId->Option (List SK)
 | 0,_=>none
 |d+1,t=>match P.underlying t with
  |some (.int k)=>some [.int k]
  |some .bool=>some [.bool]
  |some .string=>some [.str]
  |some (.struct fs)=>match MJ P (RF P d) fs.toList 0 with
   |some ks=>match Nat.beq ks.length (P.cellsOf t) with
    |true=>some ks
    |false=>none
   |none=>none
  |_=>none
inductive MK where
 |sc (k:SK)
 |sl (t e:TypeId) (ks:List SK)
def MI(P:Program)(g:TypeId->Option (List MK)):List Field->Nat->Option (List MK)
 |[],_=>some []
 |f::fs,off=>match g f.type with
  |some ks=>match Nat.beq f.offset off&&Nat.beq ks.length (P.cellsOf f.type) with
   |true=>match MI P g fs (off+ks.length) with
    |some r=>some (ks++r)
    |none=>none
   |false=>none
  |none=>none
def y7(P:Program):Nat->TypeId->Option (List MK)
 | 0,_=>none
 |d+1,t=>match P.underlying t with
  |some (.int k)=>some [.sc (.int k)]
  |some .bool=>some [.sc .bool]
  |some .string=>some [.sc .str]
  |some (.slice e)=>match RF P 9 e with
   |some ks=>match Nat.beq ks.length (P.cellsOf e) with
    |true=>some [.sl t e ks]
    |false=>none
   |none=>none
  |some (.struct fs)=>match MI P (y7 P d) fs.toList 0 with
   |some ks=>match Nat.beq ks.length (P.cellsOf t) with
    |true=>some ks
    |false=>none
   |none=>none
  |_=>none
def fB:List TypeId->List MK->Bool
 |[],[]=>true
 |u::ts,.sl t _ _::ms=>Nat.beq u t&&fB ts ms
 |_::ts,.sc _::ms=>fB ts ms
 |_,_=>false
def Ji2(P:Program)(t:TypeId)(ms:List MK):Bool:=match P.cellTypes P.depth t with
 |some ts=>fB ts ms&&Nat.beq ms.length (P.cellsOf t)
 |none=>false
theorem CP: ∀{ts:List TypeId} {ms:List MK},fB ts ms=true->ts.length=ms.length
 |[],[],_=>rfl
 |[],_::_,h=>by simp [fB] at h
 |u::ts,[],h=>by simp [fB] at h
 |u::ts,.sl t _ _::ms,h=>by
  simp only [fB,HF] at h;rw [Bj,Bj,CP h.2]
 |u::ts,.sc _::ms,h=>by
  simp only [fB] at h;rw [Bj,Bj,CP h]
theorem CQ: ∀{ts:List TypeId} {ms:List MK} {j:Nat} {t e:TypeId} {ks:List SK},fB ts ms=true->ms[j]? =some (.sl t e ks)->ts[j]? =some t
 |[],[],j,t,e,ks,_,hj=>by simp at hj
 |[],_::_,_,_,_,_,h,_=>by simp [fB] at h
 |u::ts,[],_,_,_,_,h,_=>by simp [fB] at h
 |u::ts,.sl t' _ _::ms,j,t,e,ks,h,hj=>by
  simp only [fB,HF] at h;cases j with
  |zero=>
   simp at hj;obtain ⟨rfl,_,_⟩:=hj;have:=H5 h.1;simp [this]
  |succ j=>simpa using CQ h.2 (by simpa using hj)
 |u::ts,.sc _::ms,j,t,e,ks,h,hj=>by
  simp only [fB] at h;cases j with
  |zero=>simp at hj
  |succ j=>simpa using CQ h (by simpa using hj)
def OL(r:MK->Value->Prop)(ks:List MK)(vs:List Value):Prop:=ks.length=vs.length/\ ∀(j:Nat) (k:MK) (v:Value),ks[j]? =some k->vs[j]? =some v->r k v
theorem OL.append{r:MK->Value->Prop}{ks ks':List MK}{vs vs':List Value}(h:OL r ks vs)(h':OL r ks' vs'):OL r (ks++ks') (vs++vs'):=by
 refine ⟨by simp [h.1,h'.1],λj k v hk hv=>?_⟩
 rw [Ce] at hk hv;rw [←h.1] at hv;split at hk;rename_i O;rw [if_pos O] at hv;exact h.2 _ _ _ hk hv;rename_i O;rw [if_neg O] at hv;exact h'.2 _ _ _ hk hv
theorem OL.one{r:MK->Value->Prop}{k:MK}{v:Value}(h:r k v):OL r [k] [v]:=by
 refine ⟨rfl,λj k' v' hk hv=>?_⟩;cases j with
 |zero=>simp at hk hv;subst hk;subst hv;exact h
 |succ j=>simp at hk
section
variable {H:Type}{enc:TypeId×Value->H}{P:Program}{w:World}{base:Nat}{spare:Nat->Bool}{wG:Bool}
theorem LZ.append{ks ks':List SK}{vs vs':List Value}(h:LZ ks vs)(h':LZ ks' vs'):LZ (ks++ks') (vs++vs'):=by
 refine ⟨by simp [h.1,h'.1],λj k v hk hv=>?_⟩
 rw [Ce] at hk hv;rw [←h.1] at hv;split at hk;rename_i O;rw [if_pos O] at hv;exact h.2 _ _ _ hk hv;rename_i O;rw [if_neg O] at hv;exact h'.2 _ _ _ hk hv
theorem T7{g:TypeId->Option (List SK)}{cs:List Value}(hg: ∀t ks (off:Nat),g t=some ks->(∃n x,DataW.trod enc P w base spare wG n t ((cs.drop off).take (P.cellsOf t))=some x)->LZ ks ((cs.drop off).take (P.cellsOf t))):
  ∀(fs:List Field) (off:Nat) (ks:List SK),MJ P g fs off=some ks->off<=cs.length->(∀f∈fs,∃n x,DataW.trod enc P w base spare wG n f.type ((cs.drop f.offset).take (P.cellsOf f.type))=some x)->LZ ks ((cs.drop off).take ks.length)
 |[],_,ks,h,_,_=>by
  simp only [MJ,HL] at h;subst h;exact ⟨VY,λj k v h=>by simp at h⟩
 |f::fs,off,ks,h,ho,hf=>by
  unfold MJ at h;split at h;rename_i ks1 h1;split at h;rename_i hb;simp only [HF] at hb;have e1:f.offset=off:=H5 hb.1;have e2:ks1.length=P.cellsOf f.type:=H5 hb.2;split at h;rename_i r Z;cases h;have h2:=hf f GN;rw [e1] at h2;have a1:=hg f.type ks1 off h1 h2;have hl:off+ks1.length<=cs.length:=by
   have:=a1.1;rw [List.length_take,List.length_drop,←e2] at this;omega
  have a2:=T7 hg fs (off+ks1.length) r Z hl (λf' hf'=>hf f' (D1 _ hf'));have:=a1.append a2;rw [←e2] at this;rw [Be,List.take_add,List.drop_drop];exact this;cases h;cases h;cases h
theorem sL{k:SK}{v:Value}(h:sZ k v):LZ [k] [v]:=by
 refine ⟨rfl,λj k' v' hk hv=>?_⟩;cases j with
 |zero=>simp at hk hv;subst hk;subst hv;exact h
 |succ j=>simp at hk
theorem xN: ∀(d:Nat) (t:TypeId) (ks:List SK) (fuel:Nat) (cs:List Value) (x:DataW H×List MemPlace),RF P d t=some ks->DataW.trod enc P w base spare wG fuel t cs=some x->LZ ks cs
 | 0,_,_,_,_,_,h,_=>by simp [RF] at h
 |d+1,t,ks,fuel,cs,x,h,hx=>by
  unfold RF at h;split at h;rename_i k hu;cases h;obtain ⟨n,rfl,_,hw⟩:=DataW.trod_int hu hx;exact sL ⟨n,rfl,hw⟩;rename_i hu;cases h;obtain ⟨b,rfl,_⟩:=DataW.trod_bool hu hx;exact sL ⟨b,rfl⟩;rename_i hu;cases h;obtain ⟨s,rfl,_⟩:=DataW.trod_string hu hx;exact sL ⟨s,rfl⟩;rename_i fs hu;split at h;rename_i ks' hks;split at h;rename_i hb;cases h;have hl:ks.length=P.cellsOf t:=H5 hb;obtain ⟨xs,n,_,_,D5,hxl,hf⟩:=DataW.trod_struct hu hx;have:=T7 (enc:=enc) (w:=w) (base:=base) (spare:=spare) (wG:=wG) (cs:=cs) (g:=RF P d) (λt' ks' off hk ⟨n',x',hx'⟩=>xN d t' ks' n' _ x' hk hx') fs.toList 0 ks hks (Ao _) (λf hf'=>by
   obtain ⟨i,O⟩:=xJ.1 hf';have hi':fs[i]? =some f:=by simpa using O
   have hlt:i<xs.length:=by rw [hxl];exact (PK.1 hi').1
   exact ⟨n,xs[i],(hf i f hi').trans (D8 hlt)⟩)
  rw [hl,←D5] at this;simpa using this;cases h;cases h;cases h
def MOk(enc:TypeId×Value->H)(P:Program)(w:World)(base:Nat)(spare:Nat->Bool)(wG:Bool):MK->Value->Prop
 | .sc k,v=>sZ k v
 | .sl t e ks,v=>P.underlying t=some (.slice e)/\RF P 9 e=some ks/\ks.length=P.cellsOf e/\ ∃n x,DataW.trod enc P w base spare wG n t [v]=some x/\ ∀q∈x.1.weights P t,q<=reachBytes
theorem gK: ∀{ts:List TypeId} {ds:List (DataW H)} {i:Nat} {t:TypeId} {d:DataW H} {q:Nat},ts[i]? =some t->ds[i]? =some d->q∈d.weights P t->q∈DataW.weightsEach P ts ds
 |[],_,i,_,_,_,h,_,_=>by simp at h
 |_::_,[],i,_,_,_,_,h,_=>by simp at h
 |t::ts,d::ds,i,t',d',q,h,h',hq=>by
  simp only [DataW.weightsEach,Bc];cases i with
  |zero=>simp at h h';subst h;subst h';exact .inl hq
  |succ i=>exact .inr (gK (by simpa using h) (by simpa using h') hq)
theorem T6{g:TypeId->Option (List MK)}{r:MK->Value->Prop}{cs:List Value}(hg: ∀t ks (off:Nat),g t=some ks->(∃n x,DataW.trod enc P w base spare wG n t ((cs.drop off).take (P.cellsOf t))=some x/\ ∀q∈x.1.weights P t,q<=reachBytes)->OL r ks ((cs.drop off).take (P.cellsOf t))):
  ∀(fs:List Field) (off:Nat) (ks:List MK),MI P g fs off=some ks->off<=cs.length->(∀f∈fs,∃n x,DataW.trod enc P w base spare wG n f.type ((cs.drop f.offset).take (P.cellsOf f.type))=some x/\ ∀q∈x.1.weights P f.type,q<=reachBytes)->OL r ks ((cs.drop off).take ks.length)
 |[],_,ks,h,_,_=>by
  simp only [MI,HL] at h;subst h;exact ⟨VY,λj k v h=>by simp at h⟩
 |f::fs,off,ks,h,ho,hf=>by
  unfold MI at h;split at h;rename_i ks1 h1;split at h;rename_i hb;simp only [HF] at hb;have e1:f.offset=off:=H5 hb.1;have e2:ks1.length=P.cellsOf f.type:=H5 hb.2;split at h;rename_i r' Z;cases h;have h2:=hf f GN;rw [e1] at h2;have a1:=hg f.type ks1 off h1 h2;have hl:off+ks1.length<=cs.length:=by
   have:=a1.1;rw [List.length_take,List.length_drop,←e2] at this;omega
  have a2:=T6 hg fs (off+ks1.length) r' Z hl (λf' hf'=>hf f' (D1 _ hf'));have:=a1.append a2;rw [←e2] at this;rw [Be,List.take_add,List.drop_drop];exact this;cases h;cases h;cases h
theorem uA: ∀(d:Nat) (t:TypeId) (ks:List MK) (fuel:Nat) (cs:List Value) (x:DataW H×List MemPlace),y7 P d t=some ks->DataW.trod enc P w base spare wG fuel t cs=some x->(∀q∈x.1.weights P t,q<=reachBytes)->OL (MOk enc P w base spare wG) ks cs
 | 0,_,_,_,_,_,h,_,_=>by simp [y7] at h
 |d+1,t,ks,fuel,cs,x,h,hx,hz=>by
  unfold y7 at h;split at h;rename_i k hu;cases h;obtain ⟨n,rfl,_,hw⟩:=DataW.trod_int hu hx;exact .one ⟨n,rfl,hw⟩;rename_i hu;cases h;obtain ⟨b,rfl,_⟩:=DataW.trod_bool hu hx;exact .one ⟨b,rfl⟩;rename_i hu;cases h;obtain ⟨s,rfl,_⟩:=DataW.trod_string hu hx;exact .one ⟨s,rfl⟩;rename_i e hu;split at h;rename_i ks' hk;split at h;rename_i hb;cases h;have h1: ∃v,cs=[v]:=by
   rcases Go.Deep.open_slice hu hx with ⟨h0,_⟩|⟨a,len,cap,m,n,D,Pl,h0,_⟩<;>exact ⟨_,h0⟩
  obtain ⟨v,rfl⟩:=h1;exact .one ⟨hu,hk,H5 hb,fuel,x,hx,hz⟩;cases h;cases h;rename_i fs hu;split at h;rename_i ks' hks;split at h;rename_i hb;cases h;have hl:ks.length=P.cellsOf t:=H5 hb;obtain ⟨xs,n,_,hxe,D5,hxl,hf⟩:=DataW.trod_struct hu hx;have hzz: ∀q∈DataW.weightsEach P (fs.toList.map (·.type)) (xs.map (·.1)),q<=reachBytes:=by
   intro q hq;refine hz q ?_;rw [hxe];simpa [DataW.weights,hu] using hq
  have:=T6 (enc:=enc) (w:=w) (base:=base) (spare:=spare) (wG:=wG) (cs:=cs) (g:=y7 P d) (r:=MOk enc P w base spare wG) (λt' ks' off hk ⟨n',x',hx',hz'⟩=>uA d t' ks' n' _ x' hk hx' hz') fs.toList 0 ks hks (Ao _) (λf hf'=>by
   obtain ⟨i,O⟩:=xJ.1 hf';have hi':fs[i]? =some f:=by simpa using O
   have hlt:i<xs.length:=by rw [hxl];exact (PK.1 hi').1
   exact ⟨n,xs[i],(hf i f hi').trans (D8 hlt),λq hq=>hzz q (gK (i:=i) (by simp [hi']) (by simp [D8 hlt]) hq)⟩)
  rw [hl,←D5] at this;simpa using this;cases h;cases h;cases h
inductive AJ (P:Program):MK->AV->Prop
 |sc (k:SK) (v:Value):sZ k v->AJ P (.sc k) (.x v)
 |sl (t e:TypeId) (ks:List SK) (n:Nat) (f:Nat->List Value):n<=maxLen->n*P.bytesOf e<=reachBytes->(∀i,i<n->LZ ks (f i))->AJ P (.sl t e ks) (.lst ks.length n (λi=>(f i).map .x))
def BX(P:Program)(ms:List MK)(l:List AV):Prop:=ms.length=l.length/\ ∀(j:Nat) (k:MK) (a:AV),ms[j]? =some k->l[j]? =some a->AJ P k a
inductive xA (P:Program):TypeId->AV->Prop
 |sc (t:TypeId) (k:SK) (v:Value):(∀fs,P.underlying t≠some (.struct fs))->RF P 9 t=some [k]->sZ k v->xA P t (.x v)
 |st (t:TypeId) (fs:Array Field) (ks:List SK) (vs:List Value):P.underlying t=some (.struct fs)->RF P 9 t=some ks->LZ ks vs->xA P t (.agg (vs.map .x))
 |sl (t e:TypeId) (ks:List SK) (n:Nat) (f:Nat->List Value):P.underlying t=some (.slice e)->RF P 9 e=some ks->n<=maxLen->n*P.bytesOf e<=reachBytes->(∀i,i<n->LZ ks (f i))->xA P t (.lst ks.length n (λi=>(f i).map .x))
 |mx (t:TypeId) (fs:Array Field) (ms:List MK) (l:List AV):P.underlying t=some (.struct fs)->RF P 9 t=none->y7 P 9 t=some ms->BX P ms l->xA P t (.agg l)
 |sm (t e:TypeId) (fs:Array Field) (ms:List MK) (n:Nat) (f:Ci):P.underlying t=some (.slice e)->P.underlying e=some (.struct fs)->RF P 9 e=none->y7 P 9 e=some ms->n<=maxLen->n*P.bytesOf e<=reachBytes->(∀i,i<n->BX P ms (f i))->xA P t (.lst ms.length n f)
def MD:List MK->Bool
 |[]=>true
 | .sc _::ms=>MD ms
 | .sl _ _ ks::ms=> !ks.isEmpty&&MD ms
def aN(P:Program)(t:TypeId):Bool:=match P.underlying t with
 |some (.int _)|some .bool|some .string=>(RF P 9 t).isSome
 |some (.struct _)=>match RF P 9 t with
  |some _=>true
  |none=>match y7 P 9 t with
   |some ms=>Ji2 P t ms
   |none=>false
 |some (.slice e)=>match RF P 9 e with
  |some ks=>Nat.beq ks.length (P.cellsOf e)
  |none=>match P.underlying e,y7 P 9 e with
   |some (.struct _),some ms=>Nat.beq ms.length (P.cellsOf e)&&(MD ms&& !ms.isEmpty)
   |_,_=>false
 |_=>false
def kC(w:World):UP:={ro:=λb=>b<w.heap.size,own:=λ_=>none,live:=λ_=>False,blk:=λ_=>0,val:=λ_=> .nilIface}
theorem iD{r:Reach}{b0:Nat}{t e:TypeId}{v:Value}{fuel:Nat}{x:DataW H×List MemPlace}{ks:List SK}(hu:P.underlying t=some (.slice e))(hk:RF P 9 e=some ks)(hl:ks.length=P.cellsOf e)(hv:Cell.okWide P w r b0 t v)(hf:DataW.trod enc P w 0 (λ_=>true) wG fuel t v.cells.toList=some x)(hz: ∀q∈x.1.weights P t,q<=reachBytes):
  ∃(n:Nat) (f:Nat->List Value),n<=maxLen/\n*P.bytesOf e<=reachBytes/\(∀i,i<n->LZ ks (f i))/\Rep (kC w) w (.lst ks.length n (λi=>(f i).map .x)) v/\Idf (.lst ks.length n (λi=>(f i).map .x)):=by
 obtain ⟨a0,n0,c0,rfl⟩: ∃a0 n0 c0,v= .slice a0 n0 c0:=by
  have hx:=hv;simp only [Cell.okWide,Cell.ok,hu] at hx;split at hx<;>simp_all
 rcases Go.Deep.open_slice hu hf with ⟨h0,_⟩|⟨a,len,cap,m,n,D,Pl,h0,hb,hlc,hm,hmm,Wv5,O⟩;simp [Value.cells] at h0;obtain ⟨rfl,rfl,rfl⟩:=h0;exact ⟨0,λ_=>[],Ao _,VY,(λi O=>VO),.lstNil _ _,.lst _ _ _ (λi O=>VO)⟩;simp [Value.cells] at h0;obtain ⟨rfl,rfl,rfl⟩:=h0;simp only [if_true] at hmm;subst hmm;have hok:w.has P r b0 a e m:=by
  simp only [Value.okWide,hu,Cell.okWide,Cell.ok] at hv;exact hv.2.2
 obtain ⟨_,hsp,row,cells,hsh,_⟩:=hok;obtain ⟨ab,ao,ak⟩:=a;simp only at hsp;subst hsp;have OD:ab<w.heap.size:=by
  unfold World.shape? at hsh;cases hh:w.heap[ab]? with
  |none=>simp only [hh] at hsh;cases hsh
  |some o=>exact (PK.1 hh).1
 let F:Nat->List Value:=λi=>(w.cells? 0 ((⟨ab,ao,none⟩:Addr).add (i*P.cellsOf e)) (P.cellsOf e)).getD []
 have hF: ∀i,i<m->LZ ks (F i)/\ ∀j,j<ks.length->w.cell? ⟨ab,ao+(i*ks.length+j),none⟩=(F i)[j]? :=by
  intro i hi';obtain ⟨cs',hcs,htr⟩:=O i hi';have e1:F i=cs':=by simp only [F,hcs,GW]
  rw [e1];refine ⟨xN 9 e ks n cs' _ hk htr,λj hj=>?_⟩;obtain ⟨_,_,h3⟩:=World.cells?_some hcs;have:=h3 j VO;rw [DI,DI] at this;rw [hl,←this,Ba]
 have mA:n0*P.bytesOf e<=reachBytes:=by
  have hd:x.1= .slice ((List.range n0).map D) ((List.range (m-n0)).map λj=>D (n0+j)):=by
   have:=congrArg Prod.fst Wv5;exact this
  have h1:=hz ((((List.range n0).map D).length+((List.range (m-n0)).map λj=>D (n0+j)).length)*P.bytesOf e) (by rw [hd];simp [DataW.weights,hu])
  rw [Bm,List.length_range] at h1;exact Ar (BS _ (Nat.le_add_right _ _)) h1
 refine ⟨n0,F,VO,mA,(λi hi'=>(hF i VO).1),?_,.lst _ _ _ (λi hi' a ha=>?_)⟩;refine .lst _ _ _ ab ao m (λi j=>(F i).getD j .nilIface) (λ_=>OD) (λ_=>OD) (λi hi' a ha=>?_) hlc hm (λi j hi' hj=>?_) (λi hi'=>?_) (λi j a hi' ha=>?_) _ (λ_=>rfl);obtain ⟨b,_,rfl⟩:=List.mem_map.1 ha;exact .x b;rw [(hF i VO).2 j hj];have hjl:j<(F i).length:=by rw [←(hF i VO).1.1];exact hj
 simp [List.getD,D8 hjl];simp [(hF i VO).1.1];rw [Bn,Ay] at ha;obtain ⟨b,hb',rfl⟩:=ha;simp only [List.getD,hb',GW];exact .x b;obtain ⟨b,_,rfl⟩:=List.mem_map.1 ha;exact .x b
theorem rB: ∀{ms:List MK} {j:Nat} {t e:TypeId} {ks:List SK},MD ms=true->ms[j]? =some (.sl t e ks)->0<ks.length
 |[],j,t,e,ks,_,hj=>by simp at hj
 | .sc _::ms,j,t,e,ks,h,hj=>by
  cases j with
  |zero=>simp at hj
  |succ j=>exact rB (ms:=ms) h (by simpa using hj)
 | .sl _ _ ks'::ms,j,t,e,ks,h,hj=>by
  simp only [MD,HF] at h;cases j with
  |zero=>
   simp at hj;obtain ⟨_,_,rfl⟩:=hj;cases ks' with
   |nil=>simp at h
   |cons a b=>simp
  |succ j=>exact rB (ms:=ms) h.2 (by simpa using hj)
theorem iE{e:TypeId}{a:Addr}{cap:Nat}{D:Nat->DataW H}{Pl:Nat->List MemPlace}{n:Nat}(hc:0<P.cellsOf e)(O: ∀i,i<cap-> ∃cs',w.cells? 0 (a.add (i*P.cellsOf e)) (P.cellsOf e)=some cs'/\DataW.trod enc P w 0 (λ_=>true) wG n e cs'=some (D i,Pl i))(h:0<cap):a=⟨a.block,a.off,none⟩/\a.block<w.heap.size:=by
 obtain ⟨cs',h1,_⟩:=O 0 h;obtain ⟨_,h2,h3⟩:=World.cells?_some h1;have h4:=h3 0 hc;rw [Nat.zero_mul] at h4;have e0:(a.add 0).add 0=a:=by simp [Addr.add]
 rw [e0,D8 VO] at h4;obtain ⟨ab,ao,ak⟩:=a;unfold World.cell? at h4;split at h4;rename_i c x y hb;have hlt:=(PK.1 hb).1;cases ak with
 |none=>exact ⟨rfl,hlt⟩
 |some s=>simp at h4
 cases h4
theorem Wh1{t e:TypeId}{v:Value}{fuel:Nat}{x:DataW H×List MemPlace}{ks:List SK}(hu:P.underlying t=some (.slice e))(hk:RF P 9 e=some ks)(hl:ks.length=P.cellsOf e)(Wu7:0<ks.length)(hf:DataW.trod enc P w 0 (λ_=>true) wG fuel t [v]=some x)(hz: ∀q∈x.1.weights P t,q<=reachBytes):
  ∃(n:Nat) (f:Nat->List Value),n<=maxLen/\n*P.bytesOf e<=reachBytes/\(∀i,i<n->LZ ks (f i))/\Rep (kC w) w (.lst ks.length n (λi=>(f i).map .x)) v/\Idf (.lst ks.length n (λi=>(f i).map .x)):=by
 rcases Go.Deep.open_slice hu hf with ⟨h0,_⟩|⟨a,n0,cap,m,n,D,Pl,h0,hb,hlc,hm,hmm,Wv5,O⟩;simp at h0;subst h0;exact ⟨0,λ_=>[],Ao _,VY,(λi O=>VO),.lstNil _ _,.lst _ _ _ (λi O=>VO)⟩;simp at h0;subst h0;simp only [if_true] at hmm;subst hmm;have hat:0<m->a=⟨a.block,a.off,none⟩/\a.block<w.heap.size:=iE VO O
 let F:Nat->List Value:=λi=>(w.cells? 0 (a.add (i*P.cellsOf e)) (P.cellsOf e)).getD []
 have hF: ∀i,i<m->LZ ks (F i)/\ ∀j,j<ks.length->w.cell? ⟨a.block,a.off+(i*ks.length+j),none⟩=(F i)[j]? :=by
  intro i hi';obtain ⟨cs',hcs,htr⟩:=O i hi';have e1:F i=cs':=by simp only [F,hcs,GW]
  rw [e1];refine ⟨xN 9 e ks n cs' _ hk htr,λj hj=>?_⟩;obtain ⟨_,_,h3⟩:=World.cells?_some hcs;have:=h3 j VO;rw [(hat VO).1,DI,DI] at this;rw [hl,←this,Ba]
 have mA:n0*P.bytesOf e<=reachBytes:=by
  have hd:x.1= .slice ((List.range n0).map D) ((List.range (m-n0)).map λj=>D (n0+j)):=by
   have:=congrArg Prod.fst Wv5;exact this
  have h1:=hz ((((List.range n0).map D).length+((List.range (m-n0)).map λj=>D (n0+j)).length)*P.bytesOf e) (by rw [hd];simp [DataW.weights,hu])
  rw [Bm,List.length_range] at h1;exact Ar (BS _ (Nat.le_add_right _ _)) h1
 refine ⟨n0,F,VO,mA,(λi hi'=>(hF i VO).1),?_,.lst _ _ _ (λi hi' a ha=>?_)⟩;refine .lst _ _ _ a.block a.off m (λi j=>(F i).getD j .nilIface) (λh=>(hat VO).2) (λh=>(hat VO).2) (λi hi' a ha=>?_) hlc hm (λi j hi' hj=>?_) (λi hi'=>?_) (λi j a hi' ha=>?_) a (λh=>(hat VO).1);obtain ⟨b,_,rfl⟩:=List.mem_map.1 ha;exact .x b;rw [(hF i VO).2 j hj];have hjl:j<(F i).length:=by rw [←(hF i VO).1.1];exact hj
 simp [List.getD,D8 hjl];simp [(hF i VO).1.1];rw [Bn,Ay] at ha;obtain ⟨b,hb',rfl⟩:=ha;simp only [List.getD,hb',GW];exact .x b;obtain ⟨b,_,rfl⟩:=List.mem_map.1 ha;exact .x b
theorem Xb4{ms:List MK}{vs:List Value}(PP:MD ms=true)(h:OL (MOk enc P w 0 (λ_=>true) wG) ms vs): ∃l,BX P ms l/\U8 (kC w) w l vs/\ ∀a∈l,Idf a:=by
 have key: ∀(j:Nat) (k:MK) (v:Value),ms[j]? =some k->vs[j]? =some v-> ∃a,AJ P k a/\Rep (kC w) w a v/\Idf a:=by
  intro j k v hj hvj;have h2:=h.2 j k v hj hvj;cases k with
  |sc k=>exact ⟨.x v,.sc k v h2,.x v,.x v⟩
  |sl t' e ks=>
   obtain ⟨hu',hk',hl',n',x',hx',hz'⟩:=h2;obtain ⟨n,f,g1,g2,g3,g4,g5⟩:=Wh1 hu' hk' hl' (rB PP hj) hx' hz';exact ⟨_,.sl t' e ks n f g1 g2 g3,g4,g5⟩
 have all: ∀(ms:List MK) (vs:List Value),ms.length=vs.length->(∀(j:Nat) (k:MK) (v:Value),ms[j]? =some k->vs[j]? =some v-> ∃a,AJ P k a/\Rep (kC w) w a v/\Idf a)-> ∃l,BX P ms l/\U8 (kC w) w l vs/\ ∀a∈l,Idf a:=by
  intro ms
  induction ms with
  |nil=>
   intro vs hl _;cases vs with
   |nil=>exact ⟨[],⟨rfl,λj k a h=>by simp at h⟩,U8.nil _ _,λa ha=>by cases ha⟩
   |cons v vs=>simp at hl
  |cons k ms ih=>
   intro vs hl h;cases vs with
   |nil=>simp at hl
   |cons v vs=>
    obtain ⟨a,a1,a2,a3⟩:=h 0 k v rfl rfl;obtain ⟨l,l1,l2,l3⟩:=ih vs (by simpa using hl) (λj k v hk hv=>h (j+1) k v (by simpa using hk) (by simpa using hv))
    refine ⟨a::l,⟨by simp [l1.1],λj k' a' hk ha=>?_⟩,U8.cons a2 l2,λb hb=>?_⟩
    cases j with
    |zero=>simp at hk ha;subst hk;subst ha;exact a1
    |succ j=>exact l1.2 j k' a' (by simpa using hk) (by simpa using ha)
    rcases GT.1 hb with rfl|hb;exact a3;exact l3 b hb
 exact all ms vs h.1 key
theorem rW{e:TypeId}{d:DataW H}{q:Nat}: ∀{ds:List (DataW H)},d∈ds->q∈d.weights P e->q∈DataW.weightsAll P e ds
 |[],h,_=>by cases h
 |d'::ds,h,hq=>by
  simp only [DataW.weightsAll,Bc];rcases GT.1 h with rfl|h;exact .inl hq;exact .inr (rW h hq)
theorem Wh0{t e:TypeId}{v:Value}{fuel:Nat}{x:DataW H×List MemPlace}{ms:List MK}(hu:P.underlying t=some (.slice e))(hk:y7 P 9 e=some ms)(hl:ms.length=P.cellsOf e)(Wu7:0<ms.length)(PP:MD ms=true)(hf:DataW.trod enc P w 0 (λ_=>true) wG fuel t [v]=some x)(hz: ∀q∈x.1.weights P t,q<=reachBytes):
  ∃(n:Nat) (f:Ci),n<=maxLen/\n*P.bytesOf e<=reachBytes/\(∀i,i<n->BX P ms (f i))/\Rep (kC w) w (.lst ms.length n f) v/\Idf (.lst ms.length n f):=by
 rcases Go.Deep.open_slice hu hf with ⟨h0,_⟩|⟨a,n0,cap,m,n,D,Pl,h0,hb,hlc,hm,hmm,Wv5,O⟩;simp at h0;subst h0;exact ⟨0,λ_=>[],Ao _,VY,(λi O=>VO),.lstNil _ _,.lst _ _ _ (λi O=>VO)⟩;simp at h0;subst h0;simp only [if_true] at hmm;subst hmm;have hat:0<m->a=⟨a.block,a.off,none⟩/\a.block<w.heap.size:=iE VO O;have hd:x.1= .slice ((List.range n0).map D) ((List.range (m-n0)).map λj=>D (n0+j)):=by
  have:=congrArg Prod.fst Wv5;exact this
 have mA:n0*P.bytesOf e<=reachBytes:=by
  have h1:=hz ((((List.range n0).map D).length+((List.range (m-n0)).map λj=>D (n0+j)).length)*P.bytesOf e) (by rw [hd];simp [DataW.weights,hu])
  rw [Bm,List.length_range] at h1;exact Ar (BS _ (Nat.le_add_right _ _)) h1
 let F:Nat->List Value:=λi=>(w.cells? 0 (a.add (i*P.cellsOf e)) (P.cellsOf e)).getD []
 have hF: ∀i,i<n0-> ∃l,(BX P ms l/\U8 (kC w) w l (F i)/\ ∀a∈l,Idf a)/\(F i).length=ms.length/\ ∀j,j<ms.length->w.cell? ⟨a.block,a.off+(i*ms.length+j),none⟩=(F i)[j]? :=by
  intro i hi';obtain ⟨cs',hcs,htr⟩:=O i VO;have e1:F i=cs':=by simp only [F,hcs,GW]
  rw [e1];have hzi: ∀q∈(D i).weights P e,q<=reachBytes:=λq hq=>hz q (by
   rw [hd];simp only [DataW.weights,hu,GT,Bc];exact .inr (.inl (rW (List.mem_map.2 ⟨i,List.mem_range.2 hi',rfl⟩) hq)))
  have h1:=uA 9 e ms n cs' _ hk htr hzi;obtain ⟨l,h2⟩:=Xb4 PP h1;refine ⟨l,h2,h1.1.symm,λj hj=>?_⟩;obtain ⟨_,_,h3⟩:=World.cells?_some hcs;have:=h3 j VO;rw [(hat VO).1,DI,DI] at this;rw [hl,←this,Ba]
 obtain ⟨f,hf'⟩:=Go.Deep.choose_lt hF;refine ⟨n0,f,VO,mA,(λi hi'=>(hf' i hi').1.1),?_,.lst _ _ _ (λi hi'=>(hf' i hi').1.2.2)⟩;refine .lst _ _ _ a.block a.off m (λi j=>(F i).getD j .nilIface) (λh=>(hat VO).2) (λh=>(hat VO).2) (λi hi'=>(hf' i hi').1.2.2) hlc hm (λi j hi' hj=>?_) (λi hi'=>?_) (λi j b hi' ha=>?_) a (λh=>(hat VO).1);have h1:=hf' i hi';rw [h1.2.2 j hj];have hjl:j<(F i).length:=by rw [h1.2.1];exact hj
 simp [List.getD,D8 hjl];exact (hf' i hi').1.1.1.symm;have h1:=(hf' i hi').1.2.1;have hj:j<(F i).length:=by rw [←h1.1];exact (RA.1 ha).1
 have h2:=h1.2 j b (F i)[j] ha (D8 hj);simpa only [List.getD,D8 hj,GW] using h2
theorem Zy8{r:Reach}{b0:Nat}{t:TypeId}{v:Value}{d:DataW H}{p:List MemPlace}(A:aN P t=true)(hv:Value.okWide P w r b0 t v)(h:DataW.Trod enc P w 0 (λ_=>true) wG t v d p)(hz: ∀q∈d.weights P t,q<=reachBytes):
  ∃av,xA P t av/\Rep (kC w) w av v/\Idf av:=by
 unfold aN at A;obtain ⟨fuel,hf⟩:=h;have scal: ∀k,(∀fs,P.underlying t≠some (.struct fs))->RF P 9 t=some [k]->(∀cs,v≠ .agg cs)-> ∃av,xA P t av/\Rep (kC w) w av v/\Idf av:=by
  intro k hns hk hna;have h1:=xN 9 t [k] fuel _ _ hk hf;have hc:v.cells.toList=[v]:=by cases v<;>first|rfl|exact absurd rfl (hna _)
  rw [hc] at h1;exact ⟨.x v,.sc t k v hns hk (h1.2 0 k v rfl rfl),.x v,.x v⟩
 split at A;rename_i k hu;obtain ⟨n,rfl⟩:=okWide_int hu hv;exact scal (.int k) (λfs h=>by rw [hu] at h;cases h) (by simp [RF,hu]) (λcs h=>by cases h)
 rename_i hu;obtain ⟨b,rfl⟩:=okWide_bool hu hv;exact scal .bool (λfs h=>by rw [hu] at h;cases h) (by simp [RF,hu]) (λcs h=>by cases h)
 rename_i hu;obtain ⟨s,rfl⟩:=okWide_string hu hv;exact scal .str (λfs h=>by rw [hu] at h;cases h) (by simp [RF,hu]) (λcs h=>by cases h)
 rename_i fs hu;cases hk:RF P 9 t with
 |none=>
  rw [hk] at A;simp only at A;cases hm:y7 P 9 t with
  |none=>rw [hm] at A;cases A
  |some ms=>
   rw [hm] at A;simp only [Ji2] at A;split at A;rename_i ts hts;simp only [HF] at A;have hml:ms.length=P.cellsOf t:=H5 A.2;have htl:=CP A.1;simp only [Value.okWide,hu] at hv;obtain ⟨cs,rfl,hcs,ts',hts',_,M3⟩:=hv;rw [hts] at hts';cases hts';have h1:=uA 9 t ms fuel _ _ hm hf hz;simp only [Value.cells] at h1;have key: ∀(j:Nat) (k:MK) (v:Value),ms[j]? =some k->cs.toList[j]? =some v-> ∃a,AJ P k a/\Rep (kC w) w a v/\Idf a:=by
    intro j k v hj hvj;have h2:=h1.2 j k v hj hvj;cases k with
    |sc k=>exact ⟨.x v,.sc k v h2,.x v,.x v⟩
    |sl t' e ks=>
     obtain ⟨hu',hk',hl',n',x',hx',hz'⟩:=h2;obtain ⟨u,hu2,hc⟩:=M3 j v (by simpa using hvj)
     have hjl:j<ts.length:=by rw [htl];exact (RA.1 hj).1
     rw [Nat.mod_eq_of_lt hjl,CQ A.1 hj] at hu2;cases hu2;have hvc:v.cells.toList=[v]:=by
      obtain ⟨a0,n0,c0,rfl⟩: ∃a0 n0 c0,v= .slice a0 n0 c0:=by
       have hx:=hc;simp only [Cell.okWide,Cell.ok,hu'] at hx;split at hx<;>simp_all
      rfl
     obtain ⟨n,f,g1,g2,g3,g4,g5⟩:=iD hu' hk' hl' hc (by rw [hvc];exact hx') hz'
     exact ⟨_,.sl t' e ks n f g1 g2 g3,g4,g5⟩
   have all: ∀(ms:List MK) (vs:List Value),ms.length=vs.length->(∀(j:Nat) (k:MK) (v:Value),ms[j]? =some k->vs[j]? =some v-> ∃a,AJ P k a/\Rep (kC w) w a v/\Idf a)-> ∃l,BX P ms l/\U8 (kC w) w l vs/\ ∀a∈l,Idf a:=by
    intro ms
    induction ms with
    |nil=>
     intro vs hl _;cases vs with
     |nil=>exact ⟨[],⟨rfl,λj k a h=>by simp at h⟩,U8.nil _ _,λa ha=>by cases ha⟩
     |cons v vs=>simp at hl
    |cons k ms ih=>
     intro vs hl h;cases vs with
     |nil=>simp at hl
     |cons v vs=>
      obtain ⟨a,a1,a2,a3⟩:=h 0 k v rfl rfl;obtain ⟨l,l1,l2,l3⟩:=ih vs (by simpa using hl) (λj k v hk hv=>h (j+1) k v (by simpa using hk) (by simpa using hv))
      refine ⟨a::l,⟨by simp [l1.1],λj k' a' hk ha=>?_⟩,U8.cons a2 l2,λb hb=>?_⟩
      cases j with
      |zero=>simp at hk ha;subst hk;subst ha;exact a1
      |succ j=>exact l1.2 j k' a' (by simpa using hk) (by simpa using ha)
      rcases GT.1 hb with rfl|hb;exact a3;exact l3 b hb
   obtain ⟨l,l1,l2,l3⟩:=all ms cs.toList h1.1 key;refine ⟨.agg l,.mx t fs ms l hu hk hm l1,?_,.agg _ l3⟩;have:=Rep.aggL l2;simpa using this;cases A
 |some ks=>
  obtain ⟨cs,rfl,_⟩:=okWide_struct hu hv;have h1:=xN 9 t ks fuel _ _ hk hf;refine ⟨.agg (cs.toList.map .x),.st t fs ks cs.toList hu hk h1,?_,.agg _ (λa ha=>?_)⟩;have:=Rep.aggL (U8.xs (kC w) w cs.toList);simpa using this;obtain ⟨b,_,rfl⟩:=List.mem_map.1 ha;exact .x b
 rename_i e hu;cases hk:RF P 9 e with
 |none=>
  rw [hk] at A;simp only at A;split at A;rename_i fs ms hue hms;simp only [HF] at A;have hv':Cell.okWide P w r b0 t v:=by
   simpa only [Value.okWide,hu] using hv
  have hvc:v.cells.toList=[v]:=by
   obtain ⟨a0,n0,c0,rfl⟩: ∃a0 n0 c0,v= .slice a0 n0 c0:=by
    have hx:=hv';simp only [Cell.okWide,Cell.ok,hu] at hx;split at hx<;>simp_all
   rfl
  rw [hvc] at hf;have Wu7:0<ms.length:=by
   cases ms with
   |nil=>simp at A
   |cons a b=>simp
  obtain ⟨n,f,h1,h2,h3,h4,h5⟩:=Wh0 hu hms (H5 A.1) Wu7 A.2.1 hf hz;exact ⟨_,.sm t e fs ms n f hu hue hk hms h1 h2 h3,h4,h5⟩;cases A
 |some ks=>
  rw [hk] at A;have hl:ks.length=P.cellsOf e:=H5 A;have hv':Cell.okWide P w r b0 t v:=by
   simpa only [Value.okWide,hu] using hv
  obtain ⟨n,f,h1,h2,h3,h4,h5⟩:=iD hu hk hl hv' hf hz;exact ⟨_,.sl t e ks n f hu hk h1 h2 h3,h4,h5⟩
 cases A
inductive NU (P:Program):List TypeId->List AV->Prop
 |nil:NU P [] []
 |cons {t:TypeId} {a:AV} {ts:List TypeId} {l:List AV}:xA P t a->NU P ts l->NU P (t::ts) (a::l)
theorem Qk7{b0:Nat}{r:Reach}: ∀(ts:List TypeId) (vs:List Value) (ds:List (DataW H)) (p:List MemPlace),ts.all (aN P)=true->(∀(j:Nat) t v,ts[j]? =some t->vs[j]? =some v->Value.okWide P w r b0 t v)->
  DataW.TrodAll enc P w 0 (λ_=>true) wG ts vs ds p->(∀q∈DataW.weightsEach P ts ds,q<=reachBytes)-> ∃avs,NU P ts avs/\U8 (kC w) w avs vs/\ ∀a∈avs,Idf a
 |[],vs,ds,p,_,_,h,_=>by
  cases vs with
  |nil=>exact ⟨[],.nil,U8.nil _ _,λa ha=>by cases ha⟩
  |cons v vs=>cases ds<;>simp [DataW.TrodAll] at h
 |t::ts,vs,ds,p,A,hv,h,hz=>by
  obtain ⟨v,vs',d,ds',p1,q1,rfl,rfl,rfl,h1,h2⟩:=trodAll_cons h;simp only [List.all_cons,HF] at A;obtain ⟨a,ha,Z,O⟩:=Zy8 A.1 (hv 0 t v rfl rfl) h1 (λq hq=>hz q (by simp only [DataW.weightsEach,Bc];exact .inl hq))
  obtain ⟨l,hl,hrl,hil⟩:=Qk7 ts vs' ds' q1 A.2 (λj t' v' ht hv'=>hv (j+1) t' v' (by simpa using ht) (by simpa using hv')) h2 (λq hq=>hz q (by simp only [DataW.weightsEach,Bc];exact .inr hq))
  refine ⟨a::l,.cons ha hl,U8.cons Z hrl,λx hx=>?_⟩;rcases GT.1 hx with rfl|hx;exact O;exact hil x hx
theorem Je9{f:FuncId}{b0:Nat}{r:Reach}{ts:List TypeId}{vs:Array Value}{ds:List (DataW H)}{p:List MemPlace}(A:ts.all (aN P)=true)(hv: ∀(j:Nat) t v,ts[j]? =some t->vs.toList[j]? =some v->Value.okWide P w r b0 t v)
  (h:DataW.TrodAll enc P w 0 (λ_=>true) wG ts vs.toList ds p)(hz: ∀q∈DataW.weightsEach P ts ds,q<=reachBytes)(hs: ∀avs,NU P ts avs->U2 P f avs (.x (.bool true)))(hgl:D2 (kC w) w:=by intro b p h;exact absurd h (by simp [GP])):Calls P f vs w λe w'=>e= .returned (.bool true)/\Below w.heap.size w w':=by
 obtain ⟨avs,h1,h2,h3⟩:=Qk7 ts vs.toList ds p A hv h hz;refine (hs avs h1 (kC w) w vs.toList (λb hb=>hb) hgl h3 h2).mono λe w' hq=>?_;obtain ⟨v,rfl,hb,Z⟩:=hq;rw [Z.x_inv];exact ⟨rfl,hb⟩
theorem TH{W W':World}{sp:Nat->Bool}(hl:laidOutB P=true)(hb:Below W.heap.size W W'): ∀(ts:List TypeId) (vs:List Value) (ds:List (DataW H)) (p:List MemPlace),ts.all (λt=>P.readableRec t&&decide (t<P.types.size))=true->
  DataW.TrodAll enc P W 0 (λ_=>true) true ts vs ds p->(∀x∈p,x.block<W.heap.size)->(∀x∈p,sp x.block=true)->DataW.TrodAll enc P W' 0 sp true ts vs ds p
 |[],vs,ds,p,_,h,_,_=>by
  cases vs<;>cases ds<;>simp [DataW.TrodAll] at h ⊢;exact h
 |t::ts,vs,ds,p,Z,h,hlt,hsp=>by
  obtain ⟨v,vs',d,ds',p1,q1,rfl,rfl,rfl,h1,h2⟩:=trodAll_cons h;simp only [List.all_cons,HF,vK] at Z;refine ⟨p1,q1,WideElems.Trod_stays hl Z.1.1 Z.1.2 h1 (λx hx=>hb.same (hlt x (Bd _ hx))) (λx hx=>hsp x (Bd _ hx)),TH hl hb ts vs' ds' q1 ?_ h2 (λx hx=>hlt x (As _ hx)) (λx hx=>hsp x (As _ hx)),rfl⟩;simpa using Z.2
theorem Jo5{f:Func}{s:ChangeSpec}{apart fresh C7 again:Bool}{W W':World}{args:Array Value}{ds:List (DataW H)}{before:List MemPlace}{tb:TypeId}(hl:laidOutB P=true)(Z:f.params.toList.all (λt=>P.readableRec t&&decide (t<P.types.size))=true)(F8:f.resultTypes=#[tb])(hub:P.underlying tb=some .bool)
  (Jp7:s.vars=[])(hfr:(s.fn H ds).results=[.lit (.bool true)])(hfa:(s.fn H ds).args=ds)(hfv:(s.fn H ds).vars=[])
  (hW:DataW.Whole enc P f.params.toList s.vars apart W args.toList ds [] before)(hA:DataW.TrodAll enc P W 0 (λ_=>true) true f.params.toList args.toList ds before)(hb:Below W.heap.size W W'):
  s.post enc P f apart fresh C7 again W args (.bool true) W':=by
 have hlt: ∀p∈before,p.block<W.heap.size:=λp A=>hW.lt p A;have Wu9: ∀p∈before,(λb=>decide (b<W.heap.size)) p.block=true:=λp A=>by simpa using hlt p A
 have hres': ∀(b:Nat) (sp:Nat->Bool) (hd:Bool),DataW.TrodAll enc P W' b sp hd f.resultTypes.toList ((Value.bool true).resultList f.resultTypes.size) (s.fn H (ds++[])).results []:=by
  intro b sp hd;rw [List.append_nil,hfr,F8];exact trodAll_mk1 (shut_bool hub true)
 have SV: ∀sp:Nat->Bool,(∀p∈before,sp p.block=true)->DataW.TrodAll enc P W' 0 sp true f.params.toList args.toList (s.fn H (ds++[])).args before:=by
  intro sp hsp;rw [List.append_nil,hfa];exact TH hl hb _ _ _ _ Z hA hlt hsp
 have hvars': ∀sp:Nat->Bool,(∀p∈before,sp p.block=true)->DataW.TrodVars enc P W' sp s.vars (s.fn H (ds++[])).vars []:=by
  intro sp _;rw [List.append_nil,hfv,Jp7];rfl
 refine ⟨ds,[],before,[],before,[],hW,hres' _ _ _,SV _ Wu9,hvars' _ Wu9,World.keptBut_mono (λp A=>⟨A,Or.inr (by simpa using A)⟩) (hb.frame (· ∈before)),λ_=>?_⟩
 obtain ⟨_,_,_,_,_,hz,hn⟩:=hW;refine ⟨ok_one F8 rfl (okWide_bool_mk hub true),_,_,([]++before)++[],⟨[]++before,[],trodAll_append (SV _ (λ_ _=>rfl)) (hres' _ _ _),hvars' _ (λ_ _=>rfl),rfl,?_,?_⟩,?_⟩;intro b off A;have hin:MemPlace.cell b off∈before:=by simpa using A
 rw [hb.frozen (hlt _ hin)];exact hz b off hin;intro ha;have:=hn ha;simpa using this;intro p A _;simpa using A
end
section
variable {P:Program}
section
variable (P:Program)(t:TypeId)
def Qe8:Bool:=match P.underlying t with
 |some (.struct _)=>true
 |_=>false
def iM:Bool:=match P.underlying t with
 |some (.int _)|some .bool|some .string=>true
 |_=>false
def Qf1:Option TypeId:=match P.underlying t with
 |some (.slice e)=>some e
 |_=>none
end
theorem xA.agg{t:TypeId}{av:AV}{ks:List SK}(h:xA P t av)(hs:Qe8 P t=true)(hk:RF P 9 t=some ks): ∃vs,av= .agg (vs.map .x)/\LZ ks vs:=by
 unfold Qe8 at hs;split at hs;rename_i fs hu;cases h with
 |sc k v h0 h1 h2=>exact absurd hu (h0 fs)
 |st fs' ks' vs h1 h2 h3=>rw [hk] at h2;cases h2;exact ⟨vs,rfl,h3⟩
 |sl e ks' n f h1 h2 h3 h5 h4=>rw [hu] at h1;cases h1
 |mx fs' ms l h1 h2 h3 h4=>rw [hk] at h2;cases h2
 |sm e fs' ms n f h1=>rw [hu] at h1;cases h1
 cases hs
theorem xA.one{t:TypeId}{av:AV}{k:SK}(h:xA P t av)(hs:iM P t=true)(hk:RF P 9 t=some [k]): ∃v,av= .x v/\sZ k v:=by
 cases h with
 |sc k' v h0 h1 h2=>rw [hk] at h1;cases h1;exact ⟨v,rfl,h2⟩
 |st fs' ks' vs h1 h2 h3=>unfold iM at hs;rw [h1] at hs;cases hs
 |sl e ks' n f h1 h2 h3 h5 h4=>unfold iM at hs;rw [h1] at hs;cases hs
 |mx fs' ms l h1 h2 h3 h4=>unfold iM at hs;rw [h1] at hs;cases hs
 |sm e fs' ms n f h1=>unfold iM at hs;rw [h1] at hs;cases hs
theorem xA.list{t e:TypeId}{av:AV}{ks:List SK}(h:xA P t av)(hs:Qf1 P t=some e)(hk:RF P 9 e=some ks): ∃(n:Nat) (f:Nat->List Value),av= .lst ks.length n (λi=>(f i).map .x)/\(n<=maxLen/\n*P.bytesOf e<=reachBytes)/\ ∀i,i<n->LZ ks (f i):=by
 unfold Qf1 at hs;split at hs;rename_i e' hu;cases hs;cases h with
 |sc k v h0 h1 h2=>simp [RF,hu] at h1
 |st fs' ks' vs h1 h2 h3=>rw [hu] at h1;cases h1
 |mx fs' ms l h1 h2 h3 h4=>rw [hu] at h1;cases h1
 |sm e' fs' ms n f h1 h2 h3=>rw [hu] at h1;cases h1;rw [hk] at h3;cases h3
 |sl e' ks' n f h1 h2 h3 h5 h4=>
  rw [hu] at h1;cases h1;rw [hk] at h2;cases h2;exact ⟨n,f,rfl,⟨h3,h5⟩,h4⟩
 cases hs
theorem BX.nil{l:List AV}(h:BX P [] l):l=[]:=List.eq_nil_of_length_eq_zero h.1.symm
theorem BX.cons{k:MK}{ms:List MK}{l:List AV}(h:BX P (k::ms) l): ∃a l',l=a::l'/\AJ P k a/\BX P ms l':=by
 cases l with
 |nil=>have:=h.1;simp at this
 |cons a l=>exact ⟨a,l,rfl,h.2 0 k a rfl rfl,⟨by have:=h.1;simpa using this,λj k' a' hk ha=>h.2 (j+1) k' a' (by simpa using hk) (by simpa using ha)⟩⟩
theorem LZ.nil{vs:List Value}(h:LZ [] vs):vs=[]:=List.eq_nil_of_length_eq_zero h.1.symm
theorem LZ.cons{k:SK}{ks:List SK}{vs:List Value}(h:LZ (k::ks) vs): ∃v vs',vs=v::vs'/\sZ k v/\LZ ks vs':=by
 cases vs with
 |nil=>have:=h.1;simp at this
 |cons v vs=>exact ⟨v,vs,rfl,h.2 0 k v rfl rfl,⟨by have:=h.1;simpa using this,λj k' v' hk hv=>h.2 (j+1) k' v' (by simpa using hk) (by simpa using hv)⟩⟩
end
inductive Gd where
 |rest
 |go (b:Bool) (g:Gd)
 |both (g g':Gd)
def jZ{α:Type}:VR α->Gd->VR α
 | .fail,_=> .fail
 | .leaf a,_=> .leaf a
 | .need ps t,g=> .need ps (jZ t g)
 | .branch b t f,g=>match g with
  | .rest=> .branch b t f
  | .go true g=> .need [b=true] (jZ t g)
  | .go false g=> .need [b=false] (jZ f g)
  | .both g g'=> .branch b (jZ t g) (jZ f g')
 | .may p t f,g=>match g with
  | .rest=> .may p t f
  | .go true g=> .may p (jZ t g) (jZ f g)
  | .go false g=> .need [¬p] (jZ f g)
  | .both g g'=> .may p (jZ t g) (jZ f g')
theorem Qx1{α:Type}{Q:α->Prop}{t:VR α}: ∀{g:Gd},(jZ t g).sat Q->t.sat Q:=by
 induction t with
 |fail=>intro g h;exact h
 |leaf a=>intro g h;exact h
 |need ps t ih=>intro g h;exact ⟨h.1,ih h.2⟩
 |branch b t f iht ihf=>
  intro g h;cases g with
  |rest=>exact h
  |go d g=>
   cases d;obtain ⟨h1,h2⟩:=h;exact ⟨λhb=>absurd ((show b=false from h1).symm.trans hb) (by decide),λ_=>ihf h2⟩
   obtain ⟨h1,h2⟩:=h;exact ⟨λ_=>iht h2,λhb=>absurd ((show b=true from h1).symm.trans hb) (by decide)⟩
  |both g g'=>exact ⟨λhb=>iht (h.1 hb),λhb=>ihf (h.2 hb)⟩
 |may p t f iht ihf=>
  intro g h;cases g with
  |rest=>exact h
  |go d g=>
   cases d;exact ⟨λA=>absurd A h.1,ihf h.2⟩;exact ⟨λA=>iht (h.1 A),ihf h.2⟩
  |both g g'=>exact ⟨λA=>iht (h.1 A),ihf h.2⟩
theorem gM{P:Program}{G:List (Nat×Spec)}{X:Ext}{L:List UN}{f:FuncId}{fn:Func}{c:Code}{avs:List AV}{res:AV}{t:VR RV}(g:Gd)(hG:VP P G)(hX: ∀cx,U0 P X cx)(GX:P.follows .mixedOrders=true)(hf:P.funcs[f]? =some fn)(hb:fn.body=some c)
  (hL: ∀j cj,VX c j=some cj-> ∀sp,L[j]? =some sp->HU P cj sp)(ht:jZ (tZ P fn.results.toList (DD P G X L c 0 (HZ fn avs))) g=t)(h:t.sat (λr=>G6 r res)):U2 P f avs res:=by
 subst ht;exact kH hG hX GX hf hb hL (zH (Qx1 h))
def Qj7(P:Program)(G:List (Nat×Spec))(X:Ext)(L:List UN)(N:List (Pl×Nat×TypeId×Nat))(s2:St)(rest:Code->Nat->St->CT):Nat->Code->Nat->St->CT
 | 0,c,off,s=> .needT (BV (RE N s) s2) (rest c off s2)
 |k+1,c,off,s=>match c with
  | .seq a b=>(DD P G X L a off s).bind λp=>match p.1 with
   | .normal=>Qj7 P G X L N s2 rest k b (off+GK a) p.2
   |x=> .leaf (x,p.2)
  |_=> .fail
def Qe1(P:Program)(cx:Cx)(L:List UN)(ev:Code->Nat->St->CT):Prop:=
 ∀(ro:Option Nat) (n:Nat) (c:Code) (off:Nat) (s:St) (Q:G8×St->Prop) (a:Act) (w:World),(∀j cj,VX c j=some cj-> ∀sp,L[off+j]? =some sp->HQ P ro cx cj sp)->(ev c off s).sat Q->Rel cx s a w->c.wpIn (fr ro) n P (EG cx Q) a w
theorem nC{P:Program}{G:List (Nat×Spec)}{X:Ext}{cx:Cx}{L:List UN}(hG:VP P G)(hX:U0 P X cx)(GX:P.follows .mixedOrders=true):Qe1 P cx L (DD P G X L):=
 λro n c off s Q a w hL h r=>DF hG hX GX c off s Q a w hL h r
theorem dU{P:Program}{G:List (Nat×Spec)}{X:Ext}{cx:Cx}{L:List UN}{N:List (Pl×Nat×TypeId×Nat)}{s2:St}{rest:Code->Nat->St->CT}(hG:VP P G)(hX:U0 P X cx)(GX:P.follows .mixedOrders=true)(SN:Qe1 P cx L rest)(hok:okB s2=true): ∀k,Qe1 P cx L (Qj7 P G X L N s2 rest k)
 | 0=>λro n c off s Q a w hL h r=>by
  have h2:=VR.sat_needT h;exact SN ro n c off s2 Q a w hL h2.2 (RB (GI h2.1) hok (DM r))
 |k+1=>λro n c off s Q a w hL h r=>by
  unfold Qj7 at h;split at h;rename_i x y;refine wpIn_seq ?_;have hx:=DF hG hX GX (ro:=ro) (n:=n) x off s _ a w (λj cj hj sp hsp=>hL j cj (by
   unfold VX;have hlt:j<GK x:=by
    rcases An j (GK x) with h'|h';exact h';exfalso;rw [PF x j h'] at hj;cases hj
   have:Nat.blt j (GK x)=true:=by rw [Aw];exact hlt
   rw [this];exact hj) sp hsp) (VR.sat_bind h) r
  refine wpIn_mono hx ?_;rintro e a' w' ⟨ex,s',rfl,hq,Z⟩;cases ex with
  |normal=>
   simp only [G8.ex,Exit.then]
   refine dU hG hX GX SN hok k ro n y (off+GK x) s' Q a' w' (λj cj hj sp hsp=>hL (GK x+j) cj ?_ sp (by rw [←Ba];exact hsp)) hq Z
   unfold VX;have:Nat.blt (GK x+j) (GK x)=false:=by rw [Cb,ne_eq,Aw];omega
   rw [this];simpa using hj
  |exit i=>exact ⟨.exit i,s',rfl,hq,Z⟩
  |ret=>exact ⟨.ret,s',rfl,hq,Z⟩
  exact h.elim
theorem TC{P:Program}{L:List UN}{f:FuncId}{fn:Func}{c:Code}{avs:List AV}{ev:Code->Nat->St->CT}(hf:P.funcs[f]? =some fn)(hb:fn.body=some c)
  {cx:Cx}{gh:Option Nat}{w:World}{T:Nat->Prop}{e:UP}{args:List Value}(hev:Qe1 P cx L ev)(hK: ∀b o,¬cx.K b o)(hsv:cx.saved=[])(Qv1:cx.sz=0)(hM: ∀g T w0 D,cx.Φ g T w0->cx.M D->w0.heap.size<=D)(hΦ:cx.Φ gh T w)
  (hT: ∀b,T b->b<w.heap.size/\ ¬e.ro b)(hro: ∀b,e.ro b->b<w.heap.size)(hgl:D2 e w)(FU: ∀a∈avs,Idf a)(Z:U8 e w avs args)
  (hL: ∀j cj,VX c j=some cj-> ∀sp,L[j]? =some sp->HQ P none cx cj sp){E:G8×St->Prop}(h:(ev c 0 {HZ fn avs with gh:=gh}).sat E){R:Ending->World->Prop}
  (fin: ∀x s w0 T' e' tmps w',E (x,s)->cx.Φ s.gh T' w0->GB e' w0.heap.size w'->Below w0.heap.size w0 w'->G5 e' s.m w'->(∀b,T' b-> ¬e'.ro b)->U8 e' w' s.σ tmps.toList-> ∃v,(results fn tmps).run P w'= .ok v w'/\R (.returned v) w')
  (hex: ∀x s,E (x,s)-> ∀i,x≠ .exit i):Calls P f args.toArray w R:=by
 let e0:UP:={ro:=e.ro,own:=λ_=>none,live:=λ_=>False,blk:=λ_=>0,val:=λ_=> .nilIface}
 have hr0:U8 e0 w avs args:=⟨Z.1,λi a v ha hv=>Rep.idf (e:=e) (e':=e0) (λ_ h=>h) (Z.2 i a v ha hv) (FU a (F9 ha))⟩;have vH:Rel cx {HZ fn avs with gh:=gh} {tmps:=args.toArray++Array.replicate (fn.ntmps-args.toArray.size) undef,defers:=[] } w:=by
  refine ⟨w,T,e0,hΦ,⟨λb hb=>⟨rfl,hro b hb⟩,(λb k hk=>by cases hk),hgl⟩,Below.refl _ _,(λp A=>by cases A),(λk hk=>False.elim hk),hT,⟨⟨(λd hd=>by cases hd),By⟩,(λb o h=>(hK b o h).elim),⟨by rw [hsv];rfl,(λi a v h=>by cases h)⟩,by rw [Qv1];exact Ao _⟩,?_⟩
  have IZ:U8 e0 w (List.replicate (fn.ntmps-avs.length) .top) (List.replicate (fn.ntmps-avs.length) undef):=by
   refine ⟨VY,λi a v ha _=>?_⟩;have:=F9 ha;rw [List.mem_replicate] at this;rw [this.2];exact .top v
  have:=hr0.append IZ;simpa [HZ,Z.1] using this
 refine callsIn_wide (n:=0).1 (callsIn_of_wp_marks (F:=fr none) hf hb trivial (wpIn_mono (hev none 0 c 0 _ _ _ w (λj cj hj sp hsp=>hL j cj hj sp (by simpa using hsp)) h vH) ?_) rfl)
 rintro ex a' w' ⟨x,s',rfl,hE,w0,T',e',hΦ',re⟩;have hx:=hex x s' hE;have vJ:LeavesInM (fr none) 0 P fn a'.tmps R a'.defers .returning w':=
  jE (M:=cx.M) (s:=s') (λD hD=>hM _ _ _ D hΦ' hD) (λw2 q1 q2 q3 q4=>fin x s' w0 T' e' a'.tmps w2 hE hΦ' q1 q2 q3 (λb hb=>(re.foe b hb).2) q4) a'.defers w' re.xt.defers re.env re.below re.mem re.slots
 cases x with
 |normal=>exact vJ
 |ret=>exact vJ
 |exit i=>exact (hx i rfl).elim
theorem rZ{P:Program}{G:List (Nat×Spec)}{X:Ext}{L:List UN}{f:FuncId}{fn:Func}{c:Code}{avs:List AV}{res:AV}{t:VR RV}(k:Nat)(N:List (Pl×Nat×TypeId×Nat))(s2:St)(hG:VP P G)(hX: ∀cx,U0 P X cx)(GX:P.follows .mixedOrders=true)(hf:P.funcs[f]? =some fn)(hb:fn.body=some c)
  (hL: ∀j cj,VX c j=some cj-> ∀sp,L[j]? =some sp->HU P cj sp)(hok:okB s2=true)(ht:tZ P fn.results.toList (Qj7 P G X L N s2 (DD P G X L) k c 0 (HZ fn avs))=t)(h:t.sat (λr=>G6 r res)):U2 P f avs res:=by
 subst ht;intro e w args hro hgl FU Z;refine TC hf hb (cx:=mZ w (λ_=>False)) (gh:=none) (T:=λ_=>False) (e:=e) (dU hG (hX _) GX (nC hG (hX _) GX) hok k) (λ_ _ h=>h) rfl rfl (by rintro g T w0 D ⟨rfl,_⟩ h;exact h) ⟨rfl,rfl⟩ (λb h=>h.elim) hro hgl FU Z (λj cj hj sp hsp=>hL j cj hj sp hsp _ (zK _ _)) (zH h) ?_ ?_
 rintro x s w0 T' e' tmps w' ⟨hx,r,F8,y5⟩ ⟨rfl,_⟩ q1 q2 q3 _ q4;obtain ⟨u,hu,GS⟩:=DS (P:=P) q3 q4 F8;exact ⟨u,hu,u,rfl,q2,y5.rep q1 rfl q3 GS⟩;rintro x s ⟨hx,_⟩ i rfl;exact hx
theorem aC{P:Program}{L:List UN}{f:FuncId}{fn:Func}{c:Code}{avs:List AV}{res:AV}{t:VR RV}{ev:Code->Nat->St->CT}(hf:P.funcs[f]? =some fn)(hb:fn.body=some c)(hev: ∀cx,Qe1 P cx L ev)
  (hL: ∀j cj,VX c j=some cj-> ∀sp,L[j]? =some sp->HU P cj sp)(ht:tZ P fn.results.toList (ev c 0 (HZ fn avs))=t)(h:t.sat (λr=>G6 r res)):U2 P f avs res:=by
 subst ht;intro e w args hro hgl FU Z;refine TC hf hb (cx:=mZ w (λ_=>False)) (gh:=none) (T:=λ_=>False) (e:=e) (hev _) (λ_ _ h=>h) rfl rfl (by rintro g T w0 D ⟨rfl,_⟩ h;exact h) ⟨rfl,rfl⟩ (λb h=>h.elim) hro hgl FU Z (λj cj hj sp hsp=>hL j cj hj sp hsp _ (zK _ _)) (zH h) ?_ ?_
 rintro x s w0 T' e' tmps w' ⟨hx,r,F8,y5⟩ ⟨rfl,_⟩ q1 q2 q3 _ q4;obtain ⟨u,hu,GS⟩:=DS (P:=P) q3 q4 F8;exact ⟨u,hu,u,rfl,q2,y5.rep q1 rfl q3 GS⟩;rintro x s ⟨hx,_⟩ i rfl;exact hx
def Qj8(P:Program)(G:List (Nat×Spec))(X:Ext)(L:List UN):Code->Nat->St->CT
 | .region id ops draw,off,s=>match draw with
  |true=>(Qb8 P G X ops.toList ops.size (Array.replicate ops.size false) s).bind λs=> .leaf (.normal,s)
  |false=>DD P G X L (.region id ops false) off s
 | .seq a b,off,s=>(Qj8 P G X L a off s).bind λp=>match p.1 with
  | .normal=>Qj8 P G X L b (off+GK a) p.2
  |x=> .leaf (x,p.2)
 |c,off,s=>DD P G X L c off s
theorem Xb1{P:Program}{G:List (Nat×Spec)}{X:Ext}{cx:Cx}{L:List UN}(hG:VP P G)(hX:U0 P X cx)(GX:P.follows .mixedOrders=true):Qe1 P cx L (Qj8 P G X L):=by
 intro ro n c
 induction c with
 |region id ops draw=>
  intro off s Q a w hL h r;cases draw with
  |false=>exact DF hG hX GX _ off s Q a w hL h r
  |true=>
   obtain ⟨w0,T,e,hΦ,r⟩:=r;refine wpIn_region_any GX ?_;exact jU hG hX (λs' a' w' hs Z=>⟨.normal,s',rfl,hs,Z⟩) ops.size _ s a _ (VR.sat_bind h) ⟨w0,T,e,hΦ,r.drew⟩
 |seq x y ihx ihy=>
  intro off s Q a w hL h r;refine wpIn_seq ?_;have hx:=ihx off s _ a w (λj cj hj sp hsp=>hL j cj (by
    unfold VX;have hlt:j<GK x:=by
     rcases An j (GK x) with h'|h';exact h';exfalso;rw [PF x j h'] at hj;cases hj
    have:Nat.blt j (GK x)=true:=by rw [Aw];exact hlt
    rw [this];exact hj) sp hsp) (VR.sat_bind h) r
  refine wpIn_mono hx ?_;rintro e a' w' ⟨ex,s',rfl,hq,Z⟩;cases ex with
  |normal=>
   simp only [G8.ex,Exit.then]
   refine ihy (off+GK x) s' Q a' w' (λj cj hj sp hsp=>hL (GK x+j) cj ?_ sp (by rw [←Ba];exact hsp)) hq Z
   unfold VX;have:Nat.blt (GK x+j) (GK x)=false:=by rw [Cb,ne_eq,Aw];omega
   rw [this];simpa using hj
  |exit i=>exact ⟨.exit i,s',rfl,hq,Z⟩
  |ret=>exact ⟨.ret,s',rfl,hq,Z⟩
 |_=>
  intro off s Q a w hL h r;exact DF hG hX GX _ off s Q a w hL h r
def AU(P:Program)(G:List (Nat×Spec))(X:Ext)(L:List UN)(fn:Func)(c:Code):D9:=λavs m nx sv=>
 some ((DD P G X L c 0 {HZ fn avs with m:=m,nx:=nx,sv:=sv}).bind λp=>match p.1 with
  | .exit _=> .fail
  |_=>match qC P p.2 fn.results.toList with
   |some r=> .leaf (r,p.2.m,p.2.nx,p.2.sv)
   |none=> .fail)
theorem RT{P:Program}{G:List (Nat×Spec)}{X:Ext}{L:List UN}{f:FuncId}{fn:Func}{c:Code}(hG:VP P G)(hX: ∀cx,U0 P X cx)(GX:P.follows .mixedOrders=true)(PQ:Enters P f)(hf:P.funcs[f]? =some fn)(hb:fn.body=some c)
  (hL: ∀j cj,VX c j=some cj-> ∀sp,L[j]? =some sp->GD P cj sp):GH P f (AU P G X L fn c):=by
 refine ⟨PQ,?_⟩;intro avs m nx sv t ht Q hQ cx w0 T e ds args w hE hB hm hl P2 hxt Z;unfold AU at ht;cases ht
 let K':Nat->Obj->Prop:=λb o=>cx.K b o\/(∃d∈ds,d={target:= .collected b,args:=#[] }/\o= .deferred (some []))
 let cx':Cx:={M:=λ_=>False,Φ:=λg T' w'=>g=none/\T'=T/\w'=w0,K:=K',saved:=cx.saved,sz:=cx.sz}
 have FQ:(DD P G X L c 0 {HZ fn avs with m:=m,nx:=nx,sv:=sv}).sat (λp=>(∀i,p.1≠ .exit i)/\p.2.gh=p.2.gh/\ ∃r,qC P p.2 fn.results.toList=some r/\Q (r,p.2.m,p.2.nx,p.2.sv)):=by
  refine VR.sat_mono ?_ (VR.sat_bind hQ);rintro ⟨x,s⟩ hs;cases x with
  |exit i=>exact hs.elim
  |normal=>
   simp only at hs;split at hs;rename_i r Z;exact ⟨λi h=>(by cases h),rfl,r,Z,hs⟩
   exact hs.elim
  |ret=>
   simp only at hs;split at hs;rename_i r Z;exact ⟨λi h=>(by cases h),rfl,r,Z,hs⟩
   exact hs.elim
 have vH:Rel cx' {HZ fn avs with m:=m,nx:=nx,sv:=sv} {tmps:=args.toArray++Array.replicate (fn.ntmps-args.toArray.size) undef,defers:=[] } w:=by
  refine ⟨w0,T,e,⟨rfl,rfl,rfl⟩,hE,hB,hm,hl,P2,⟨⟨(λd hd=>by cases hd),By⟩,?_,hxt.saved,hxt.size⟩,?_⟩
  rintro b o (hk|⟨d,hd,h1,rfl⟩);exact hxt.kept b o hk;obtain ⟨D,g1,g2,g3,g4,g5⟩:=hxt.defers.1 d hd;rw [h1] at g1;injection g1 with g1 _
  injection g1 with g1
  subst g1;exact ⟨g2,g3,g4⟩;have IZ:U8 e w (List.replicate (fn.ntmps-avs.length) .top) (List.replicate (fn.ntmps-avs.length) undef):=by
   refine ⟨VY,λi a v ha _=>?_⟩;have:=F9 ha;rw [List.mem_replicate] at this;rw [this.2];exact .top v
  have:=Z.append IZ;simpa [HZ,Z.1] using this
 refine callsIn_wide (n:=0).1 (callsIn_of_wp_marks (F:=fr none) hf hb trivial (wpIn_mono (DF hG (hX cx') GX c 0 _ _ _ w (λj cj hj sp hsp=>hL j cj hj sp (by simpa using hsp) none cx') FQ vH) ?_) rfl)
 rintro ex a' w' ⟨x,s',rfl,⟨hx,_,r,F8,hq⟩,w0',T',e',⟨_,rfl,rfl⟩,re⟩;have Qv8:a'.defers=[]:=by
  cases hd:a'.defers with
  |nil=>rfl
  |cons d l=>
   obtain ⟨D,_,_,_,_,g5⟩:=re.xt.defers.1 d (by rw [hd];exact GN)
   exact g5.elim
 obtain ⟨u,hu,GS⟩:=DS (P:=P) re.mem re.slots F8;have vJ:LeavesInM (fr none) 0 P fn a'.tmps (λen w'=> ∃v r m' nx' sv' e',en= .returned v/\Q (r,m',nx',sv')/\GB e' w0'.heap.size w'/\Below w0'.heap.size w0' w'/\G5 e' m' w'/\(∀k,e'.live k->k<nx')/\
   (∀b,T' b->b<w0'.heap.size/\ ¬e'.ro b)/\Xt cx e' sv' ds w'/\Rep e' w' r v) a'.defers .returning w':=by
  rw [Qv8];refine ⟨u,hu,u,r,s'.m,s'.nx,s'.sv,e',rfl,hq,re.env,re.below,re.mem,re.live,re.foe,⟨⟨λd hd=>?_,hxt.defers.2⟩,λb o hk=>re.xt.kept b o (.inl hk),re.xt.saved,re.xt.size⟩,GS⟩;obtain ⟨D,g1,g2,g3,g4,g5⟩:=hxt.defers.1 d hd;obtain ⟨k1,k2,k3⟩:=re.xt.kept D (.deferred (some [])) (.inr ⟨d,hd,g1,rfl⟩);exact ⟨D,g1,k1,k2,k3,g5⟩
 cases x with
 |normal=>exact vJ
 |ret=>exact vJ
 |exit i=>exact (hx i rfl).elim
def BQ(t:Nat)(F:Nat->UN):UN:=λs=>match s.σ.getD t .top with
 | .x (.int _ n)=>F n.toNat s
 |_=>none
theorem LE{P:Program}{c:Code}{t:Nat}{F:Nat->UN}(h: ∀k,GD P c (F k)):GD P c (BQ t F):=by
 intro ro cx n s tr ht Q hQ a w r;unfold BQ at ht;split at ht;exact h _ ro cx n s tr ht Q hQ a w r;cases ht
theorem UV{P:Program}{G:List (Nat×Spec)}{E:Ext}{L:List UN}(N:List (Pl×Nat×TypeId×Nat))(hG:VP P G)(hX: ∀cx,U0 P E cx)(GX:P.follows .mixedOrders=true){body:Code}(hL: ∀j cj,VX body j=some cj-> ∀sp,L[j]? =some sp->GD P cj sp)
  {X:Type}(inv:X->St)(I:X->Prop)(μ:X->Nat)(out:X->G8->Option St){t:CT}{x0:X}(h0:I x0)
  (hok: ∀x,okB (inv x)=true)(wF: ∀x y E,out x y=some E->okB E=true)
  (round: ∀(Q:G8×St->Prop),t.sat Q-> ∀x,I x-> ∃x',(HW P G E L N body (inv x) (inv x') (out x)).sat (λy=>match y with
   | .normal=>I x'/\μ x'<μ x
   |y=> ∀E,out x y=some E->Q (y,E))):GD P (.loop body) (GO N (HI (inv x0) t)):=
 λro cx=>F7 N hG (hX cx) GX (λj cj hj sp hsp=>hL j cj hj sp hsp ro cx) inv I μ out h0 hok wF round
theorem VS.inl{P:Program}{f:Nat}{h:D9}{H:List (Nat×D9)}(h1:GH P f h)(k:VS P H):VS P ((f,h)::H):=VS.cons h1 k
inductive Xh9 where
 |ret (a:AV)
 |pan (v:Value)
abbrev F4:=List AV->HA->Nat->List (List AV)->Option (VR (Xh9×HA×Nat×List (List AV)))
def Ze4(e:UP)(w:World):Xh9->Ending->Prop
 | .ret a,en=> ∃v,en= .returned v/\Rep e w a v
 | .pan u,en=>en= .panicked [{v:=u,recovered:=false}]
def DE(P:Program)(f:FuncId)(h:F4):Prop:=Enters P f/\ ∀avs m nx sv t,h avs m nx sv=some t-> ∀Q,t.sat Q-> ∀(c:Cx) (w0:World) (T:Nat->Prop) (e:UP) (ds:List Deferred) (args:List Value) (w:World),
 GB e w0.heap.size w->Below w0.heap.size w0 w->G5 e m w->(∀k,e.live k->k<nx)->(∀b,T b->b<w0.heap.size/\ ¬e.ro b)->Xt c e sv ds w->U8 e w avs args->
  Calls P f args.toArray w λen w'=> ∃r m' nx' sv' e',Ze4 e' w' r en/\Q (r,m',nx',sv')/\GB e' w0.heap.size w'/\Below w0.heap.size w0 w'/\G5 e' m' w'/\(∀k,e'.live k->k<nx')/\
   (∀b,T b->b<w0.heap.size/\ ¬e'.ro b)/\Xt c e' sv' ds w'
def UY(P:Program)(PX:List (Nat×F4)):Prop:= ∀p∈PX,DE P p.1 p.2
theorem UY.nil(P:Program):UY P []:=λ_ h=>by cases h
theorem UY.cons{P:Program}{f:Nat}{h:F4}{H:List (Nat×F4)}(h1:DE P f h)(k:UY P H):UY P ((f,h)::H):=by
 intro p A;rcases GT.1 A with rfl|A;exact h1;exact k p A
def Qx2:List (Nat×F4)->Nat->Option F4
 |[],_=>none
 |(k,s)::t,f=>match Nat.beq k f with
  |true=>some s
  |false=>Qx2 t f
theorem Wx6{G:List (Nat×F4)}{f:Nat}{s:F4}(h:Qx2 G f=some s):(f,s)∈G:=by
 induction G with
 |nil=>simp [Qx2] at h
 |cons p t ih=>
  obtain ⟨k,r'⟩:=p;unfold Qx2 at h;split at h;rename_i hk;have:k=f:=H5 hk;subst this;cases h;exact GN;exact D1 _ (ih h)
inductive PEx where
 |x (e:G8)
 |pan (v:Value)
def PEx.ex:PEx->Exit
 | .x e=>e.ex
 | .pan v=> .panic [{v,recovered:=false}]
abbrev PT:=VR (PEx×St)
def EE(cx:Cx)(Q:PEx×St->Prop):Exit->Act->World->Prop:=λe a w=> ∃x s,e=PEx.ex x/\Q (x,s)/\Rel cx s a w
abbrev B1:=St->Option PT
def PB(P:Program)(ro:Option Nat)(cx:Cx)(c:Code)(sp:B1):Prop:= ∀(n:Nat) (s:St) (t:PT),sp s=some t-> ∀Q:PEx×St->Prop,t.sat Q-> ∀(a:Act) (w:World),Rel cx s a w->c.wpIn (fr ro) n P (EE cx Q) a w
def Jv2(dst:Option Nat)(s:St)(p:Xh9×HA×Nat×List (List AV)):PT:=match p.2.2.2 with
 |σ::sv=>match p.1 with
  | .ret a=> .leaf (.x .normal,{s with σ:=xQ σ dst a,m:=p.2.1,nx:=p.2.2.1,sv:=sv})
  | .pan v=> .leaf (.pan v,{s with σ:=σ,m:=p.2.1,nx:=p.2.2.1,sv:=sv})
 |[]=> .fail
def IL(s:St):PT:= .leaf (.x .normal,s)
def Wo2(P:Program)(G:List (Nat×Spec))(X:Ext)(PX:List (Nat×F4))(ops:List Oper)(o:Oper)(s:St):PT:=
 match o.op with
 | .call c=>match c.callee with
  | .value f=>match rho s.σ f with
   | .fn (.func g) first caps=>match Qx2 PX g with
    |some h=>match o.guard with
     |none=>match h (first++c.args.toList.map (rho s.σ)++caps) s.m s.nx (s.σ::s.sv) with
      |some t=>t.bind (Jv2 o.dst s)
      |none=> .fail
     |some _=> .fail
    |none=>(j8 P G X ops o s).bind IL
   |_=>(j8 P G X ops o s).bind IL
  |_=>(j8 P G X ops o s).bind IL
 | .panic v=>match o.guard,rho s.σ v with
  |none,.x (.iface t u)=> .leaf (.pan (.iface t u),s)
  |_,_=> .fail
 |_=>(j8 P G X ops o s).bind IL
def Jm1(f:St->PT)(p:PEx×St):PT:=match p.1 with
 | .x .normal=>f p.2
 |x=> .leaf (x,p.2)
def iS(P:Program)(G:List (Nat×Spec))(X:Ext)(PX:List (Nat×F4))(ops:List Oper):List Oper->St->PT
 |[],s=>IL s
 |o::rest,s=>(Wo2 P G X PX ops o s).bind (Jm1 (iS P G X PX ops rest))
section
variable (P:Program)(G:List (Nat×Spec))(X:Ext)
def Jm0(PX:List (Nat×F4))(ops:List Oper)(s:St):PT:=iS P G X PX ops ops s
def Jr8(PX:List (Nat×F4)):List Oper->Bool
 |[]=>false
 |o::os=>(match o.op with
  | .call c=>match c.callee with
   | .value (.func g)=>match Qx2 PX g with
    |some _=>true
    |none=>false
   |_=>false
  | .panic _=>true
  |_=>false)||Jr8 PX os
def Wi8(PX:List (Nat×F4))(ops:List Oper)(s:St):PT:=match Jr8 PX ops with
 |true=>Zq8 (iS P G X PX ops) P G X ops s
 |false=>(Xn7 P G X ops s).bind IL
end
def PH(P:Program)(G:List (Nat×Spec))(X:Ext)(PX:List (Nat×F4))(L:List B1):Code->Nat->St->PT
 | .skip,_,s=> .leaf (.x .normal,s)
 | .label _,_,s=> .leaf (.x .normal,s)
 | .region _ ops draw,_,s=>match draw with
  |true=>Wi8 P G X PX ops.toList s
  |false=>Jm0 P G X PX ops.toList s
 | .seq a b,off,s=>(PH P G X PX L a off s).bind λp=>match p.1 with
  | .x .normal=>PH P G X PX L b (off+GK a) p.2
  |x=> .leaf (x,p.2)
 | .cond c a b,off,s=>match rho s.σ c with
  | .lit true=>PH P G X PX L a off s
  | .lit false=>PH P G X PX L b (off+GK a) s
  | .x (.bool t)=> .branch t (PH P G X PX L a off (nA s c true)) (PH P G X PX L b (off+GK a) (nA s c false))
  |_=> .fail
 | .block id c,off,s=>(PH P G X PX L c off s).bind λp=>match p.1 with
  | .x (.exit i)=>match Nat.beq i id with
   |true=> .leaf (.x .normal,p.2)
   |false=> .leaf (.x (.exit i),p.2)
  |x=> .leaf (x,p.2)
 | .scope c,off,s=>PH P G X PX L c off s
 | .loop _,off,s=>match L[off]? with
  |some f=>match f s with
   |some t=>t
   |none=> .fail
  |none=> .fail
 | .rangeFunc _ _ _ _,off,s=>match L[off]? with
  |some f=>match f s with
   |some t=>t
   |none=> .fail
  |none=> .fail
 | .exit id,_,s=> .leaf (.x (.exit id),s)
 | .ret,_,s=> .leaf (.x .ret,s)
 | .goto _,_,_=> .fail
 | .refuse _,_,_=> .fail
section
variable {P:Program}{G:List (Nat×Spec)}{X:Ext}{PX:List (Nat×F4)}{cx:Cx}
theorem lP(hG:VP P G)(hX:U0 P X cx)(hP:UY P PX){ro:Option Nat}{n:Nat}{ops:Array Oper}{i:Nat}{o:Oper}(ho:ops[i]? =some o){s:St}{Q R:PEx×St->Prop}{K:Act->World->Prop}(hK: ∀s a w,R (.x .normal,s)->Rel cx s a w->K a w)(hV: ∀v s,R (.pan v,s)->Q (.pan v,s))(h:(Wo2 P G X PX ops.toList o s).sat R){a:Act}{w:World}(r:Rel cx s a w):
  wpOpIn (fr ro) n P ops (EE cx Q) i K a w:=by
 have plain:((j8 P G X ops.toList o s).bind IL).sat R->wpOpIn (fr ro) n P ops (EE cx Q) i K a w:=λh=>
  j7 hG hX ho (VR.sat_bind h) r (λs' a' w' hs Z=>hK s' a' w' hs Z)
 unfold Wo2 at h;split at h;rename_i c hop;split at h;rename_i f dN;split at h;rename_i g first caps hfe
 split at h;rename_i hs hhs;split at h;rename_i hg;split at h;rename_i t ht;obtain ⟨w0,T,e,hΦ,r⟩:=r;obtain ⟨dst,op,type,pos,after,guard⟩:=o;simp only at hop hg;subst hop hg;obtain ⟨callee,args,argTypes⟩:=c;simp only at dN;subst dN;have ha:=U8.ops (FR r.slots) args.toList;have hf:=FR r.slots f;rw [hfe] at hf;obtain ⟨us,us',hv,r1,r2⟩:=hf.fn_inv;have D7:U8 e w (first++args.toList.map (rho s.σ)++caps) (us++args.toList.map a.eval++us'):=(r1.append ha).append r2
 obtain ⟨PQ,M2⟩:=hP _ (Wx6 hhs);have FO:=M2 _ _ _ _ _ ht _ (VR.sat_bind h) {cx with saved:=a.tmps.toList::cx.saved} w0 T e a.defers _ w r.env r.below r.mem r.live r.foe ⟨r.xt.defers,r.xt.kept,LK.cons r.slots r.xt.saved,r.xt.size⟩ D7
 unfold wpOpIn;simp only [ho];rw [if_pos (by simp [Region.wanted])]
 refine HV (λc h=>by cases h) ?_
 unfold Oper.wp;have DW:(execOp a.eval ⟨dst,.call ⟨.value f,args,argTypes⟩,type,pos,after,none⟩).run P w= .ok (.enter g (us++args.toList.map a.eval++us').toArray) w:=by
  have e1:(us++args.toList.map a.eval++us').toArray=us.toArray++args.map a.eval++us'.toArray:=Array.ext' VY;simp only [execOp,resolve,hv,Deferred.ofValue,At,Bv,Au,invoke];rw [e1];exact LP PQ _ w
 rw [DW,Oper.upon_enter];refine FO.mono λen w' hq=>?_;obtain ⟨rr,m',nx',sv',e',PR,hQ,hE',hB',hm',hl',hT',hx'⟩:=hq;obtain ⟨a1,l1,he1,hs1,hs2⟩:=hx'.saved.cons_inv;subst he1;cases rr with
 |ret av=>
  obtain ⟨v,rfl,GS⟩:=PR;exact hK _ _ _ hQ ⟨w0,T,e',hΦ,hE',hB',hm',hl',hT',by rw [put_defers];exact ⟨hx'.defers,hx'.kept,hs2,hx'.size⟩,qL hs1 dst GS⟩
 |pan u=>
  cases PR;exact ⟨.pan u,_,rfl,hV _ _ hQ,w0,T,e',hΦ,hE',hB',hm',hl',hT',⟨hx'.defers,hx'.kept,hs2,hx'.size⟩,hs1⟩
 exact h.elim;exact h.elim;exact plain h;exact plain h;exact plain h;rename_i v hop;split at h;rename_i t u hg hu;have r0:=r;obtain ⟨w0,T,e,hΦ,r⟩:=r;have hv:=FR r.slots v;rw [hu] at hv;have hv:=hv.x_inv;obtain ⟨dst,op,type,pos,after,guard⟩:=o;simp only at hop hg;subst hop hg;unfold wpOpIn;simp only [ho];rw [if_pos (by simp [Region.wanted])]
 refine HV (λc h=>by cases h) ?_
 unfold Oper.wp;have DW:(execOp a.eval ⟨dst,.panic v,type,pos,after,none⟩).run P w= .halt (.panic (.iface t u)) w:=by
  simp [execOp,hv,Instr.panic,goPanic]
 rw [DW,Oper.upon_panic];exact ⟨.pan (.iface t u),s,rfl,hV _ _ h,r0⟩;exact h.elim;exact plain h
theorem kK(hG:VP P G)(hX:U0 P X cx)(hP:UY P PX){ro:Option Nat}{n:Nat}{ops:Array Oper}{Q:PEx×St->Prop}:
  ∀(l:List Oper) (k:Nat),l=ops.toList.drop k-> ∀(s:St) (a:Act) (w:World),(iS P G X PX ops.toList l s).sat Q->Rel cx s a w->wpOpsIn (fr ro) n P ops (EE cx Q) (List.range' k (ops.size-k)) a w
 |[],k,hk,s,a,w,h,r=>by
  have hl:ops.size-k=0:=by
   have:=congrArg List.length hk;simp at this;omega
  rw [hl];exact ⟨.x .normal,s,rfl,h,r⟩
 |o::rest,k,hk,s,a,w,h,r=>by
  have hlt:k<ops.size:=by
   have:=congrArg List.length hk;simp at this;omega
  have hok:ops[k]? =some o:=by
   have:=congrArg (·[0]?) hk;simp at this;exact this.symm
  have SN:rest=ops.toList.drop (k+1):=by
   have:=congrArg List.tail hk;simpa using this
  have e1:ops.size-k=(ops.size-(k+1))+1:=VO;rw [e1,List.range'_succ,wpOpsIn_cons];refine lP (Q:=Q) (R:=λp=>(Jm1 (iS P G X PX ops.toList rest) p).sat Q) hG hX hP hok ?_ (λv s' hs'=>hs') (VR.sat_bind h) r;exact λs' a' w' hs' hr'=>kK hG hX hP rest (k+1) SN s' a' w' hs' hr'
theorem pS(hG:VP P G)(hX:U0 P X cx)(hP:UY P PX){ro:Option Nat}{n:Nat}{id:Nat}{ops:Array Oper}{s:St}{Q:PEx×St->Prop}(h:(Jm0 P G X PX ops.toList s).sat Q){a:Act}{w:World}(r:Rel cx s a w):
  (Code.region id ops false).wpIn (fr ro) n P (EE cx Q) a w:=by
 refine wpIn_region ?_;rw [List.range_eq_range' (n:=ops.size)];have:=kK hG hX hP (ro:=ro) (n:=n) ops.toList 0 VY s a w h r;simpa using this
theorem iV(hG:VP P G)(hX:U0 P X cx)(hP:UY P PX)(GX:P.follows .mixedOrders=true){ro:Option Nat}{n:Nat}{id:Nat}{ops:Array Oper}{s:St}{Q:PEx×St->Prop}(h:(Wi8 P G X PX ops.toList s).sat Q){a:Act}{w:World}(r:Rel cx s a w):
  (Code.region id ops true).wpIn (fr ro) n P (EE cx Q) a w:=by
 unfold Wi8 at h;split at h;exact wpIn_region_any GX (iU hG hX GX h r (λl k hl s a w h r=>kK hG hX hP l k hl s a w h r));exact E7 hG hX GX (VR.sat_bind h) r (λs' a' w' hs Z=>⟨.x .normal,s',rfl,hs,Z⟩)
theorem AF(hG:VP P G)(hX:U0 P X cx)(hP:UY P PX)(GX:P.follows .mixedOrders=true){L:List B1}{ro:Option Nat}{n:Nat}:
  ∀(c:Code) (off:Nat) (s:St) (Q:PEx×St->Prop) (a:Act) (w:World),(∀j cj,VX c j=some cj-> ∀sp,L[off+j]? =some sp->PB P ro cx cj sp)->(PH P G X PX L c off s).sat Q->Rel cx s a w->c.wpIn (fr ro) n P (EE cx Q) a w:=by
 intro c
 induction c with
 |skip=>intro off s Q a w _ h r;exact wpIn_skip ⟨.x .normal,s,rfl,h,r⟩
 |label l=>intro off s Q a w _ h r;exact wpIn_label ⟨.x .normal,s,rfl,h,r⟩
 |region id ops draw=>
  intro off s Q a w _ h r;unfold PH at h;cases draw with
  |true=>exact iV hG hX hP GX h r
  |false=>exact pS hG hX hP h r
 |seq x y ihx ihy=>
  intro off s Q a w hL h r;unfold PH at h;refine wpIn_seq ?_;have hx:=ihx off s _ a w (λj cj hj sp hsp=>hL j cj (by
   unfold VX;have hlt:j<GK x:=by
    rcases An j (GK x) with h'|h';exact h';exfalso;rw [PF x j h'] at hj;cases hj
   have:Nat.blt j (GK x)=true:=by rw [Aw];exact hlt
   rw [this];exact hj) sp hsp) (VR.sat_bind h) r
  refine wpIn_mono hx ?_;rintro e a' w' ⟨ex,s',rfl,hq,Z⟩;cases ex with
  |pan v=>exact ⟨.pan v,s',rfl,hq,Z⟩
  |x ex=>
  cases ex with
  |normal=>
   simp only [PEx.ex,G8.ex,Exit.then]
   refine ihy (off+GK x) s' Q a' w' (λj cj hj sp hsp=>hL (GK x+j) cj ?_ sp (by rw [←Ba];exact hsp)) hq Z
   unfold VX;have:Nat.blt (GK x+j) (GK x)=false:=by rw [Cb,ne_eq,Aw];omega
   rw [this];simpa using hj
  |exit i=>exact ⟨.x (.exit i),s',rfl,hq,Z⟩
  |ret=>exact ⟨.x .ret,s',rfl,hq,Z⟩
 |cond t x y ihx ihy=>
  intro off s Q a w hL h r;have hLx: ∀j cj,VX x j=some cj-> ∀sp,L[off+j]? =some sp->PB P ro cx cj sp:=by
   intro j cj hj sp hsp;refine hL j cj ?_ sp hsp;unfold VX;split;exact hj;rename_i hb;exfalso;have hge:GK x<=j:=by
    rw [Cb,ne_eq,Aw] at hb;omega
   rw [PF x j hge] at hj;cases hj
  have hLy: ∀j cj,VX y j=some cj-> ∀sp,L[off+GK x+j]? =some sp->PB P ro cx cj sp:=by
   intro j cj hj sp hsp;refine hL (GK x+j) cj ?_ sp (by rw [←Ba];exact hsp)
   unfold VX;have:Nat.blt (GK x+j) (GK x)=false:=by rw [Cb,ne_eq,Aw];omega
   rw [this];simpa using hj
  unfold PH at h;have r0:=r;obtain ⟨w0,T,e,hΦ,re⟩:=r;have hc:=FR re.slots t;split at h;rename_i heq;rw [heq] at hc;exact wpIn_cond_true hc.lit_inv (ihx off s Q a w hLx h r0);rename_i heq;rw [heq] at hc;exact wpIn_cond_false hc.lit_inv (ihy _ s Q a w hLy h r0);rename_i b heq;rw [heq] at hc;cases b;exact wpIn_cond_false hc.x_inv (ihy _ _ Q a w hLy (h.2 rfl) (dT r0 heq rfl));exact wpIn_cond_true hc.x_inv (ihx _ _ Q a w hLx (h.1 rfl) (dT r0 heq rfl));exact h.elim
 |block id c ih=>
  intro off s Q a w hL h r;unfold PH at h;refine wpIn_block (wpIn_mono (ih off s _ a w hL (VR.sat_bind h) r) ?_);rintro e a' w' ⟨ex,s',rfl,hq,Z⟩;cases ex with
  |pan v=>exact ⟨.pan v,s',rfl,hq,Z⟩
  |x ex=>
  cases ex with
  |normal=>exact ⟨.x .normal,s',rfl,hq,Z⟩
  |ret=>exact ⟨.x .ret,s',rfl,hq,Z⟩
  |exit i=>
   simp only [PEx.ex,G8.ex,Exit.inBlock];simp only at hq;split at hq;rename_i hb;rw [if_pos (H5 hb)];exact ⟨.x .normal,s',rfl,hq,Z⟩;rename_i hb;rw [if_neg (λhe=>by subst he;simp at hb)]
   exact ⟨.x (.exit i),s',rfl,hq,Z⟩
 |scope c ih=>
  intro off s Q a w hL h r;unfold PH at h;refine CH (wpIn_mono (ih off s Q a w hL h r) ?_);rintro e a' w' ⟨ex,s',rfl,hq,Z⟩;cases ex with
  |pan v=>exact ⟨.pan v,s',rfl,hq,Z⟩
  |x ex=>
  cases ex with
  |normal=>exact ⟨.x .normal,s',rfl,hq,Z⟩
  |ret=>exact ⟨.x .ret,s',rfl,hq,Z⟩
  |exit i=>exact ⟨.x (.exit i),s',rfl,hq,Z⟩
 |loop c ih=>
  intro off s Q a w hL h r;unfold PH at h;split at h;rename_i f hf;split at h;rename_i t ht;exact hL 0 _ rfl f (by simpa using hf) n s t ht Q h a w r
  exact h.elim;exact h.elim
 |rangeFunc f ps x y ihx ihy=>
  intro off s Q a w hL h r;unfold PH at h;split at h;rename_i f hf;split at h;rename_i t ht;exact hL 0 _ rfl f (by simpa using hf) n s t ht Q h a w r
  exact h.elim;exact h.elim
 |exit id=>intro off s Q a w _ h r;exact wpIn_exit ⟨.x (.exit id),s,rfl,h,r⟩
 |ret=>intro off s Q a w _ h r;exact wpIn_ret ⟨.x .ret,s,rfl,h,r⟩
 |goto l=>intro off s Q a w _ h r;exact h.elim
 |refuse y=>intro off s Q a w _ h r;exact h.elim
end
def AT(P:Program)(G:List (Nat×Spec))(X:Ext)(PX:List (Nat×F4))(L:List B1)(fn:Func)(c:Code):F4:=λavs m nx sv=>
 some ((PH P G X PX L c 0 {HZ fn avs with m:=m,nx:=nx,sv:=sv}).bind λp=>match p.1 with
  | .pan v=> .leaf (.pan v,p.2.m,p.2.nx,p.2.sv)
  | .x (.exit _)=> .fail
  |_=>match qC P p.2 fn.results.toList with
   |some r=> .leaf (.ret r,p.2.m,p.2.nx,p.2.sv)
   |none=> .fail)
theorem FY{P:Program}{G:List (Nat×Spec)}{X:Ext}{PX:List (Nat×F4)}{L:List B1}{f:FuncId}{fn:Func}{c:Code}(hG:VP P G)(hX: ∀cx,U0 P X cx)(hP:UY P PX)(GX:P.follows .mixedOrders=true)(PQ:Enters P f)(hf:P.funcs[f]? =some fn)(hb:fn.body=some c)
  (hL: ∀j cj,VX c j=some cj-> ∀sp,L[j]? =some sp-> ∀ro cx,PB P ro cx cj sp):DE P f (AT P G X PX L fn c):=by
 refine ⟨PQ,?_⟩;intro avs m nx sv t ht Q hQ cx w0 T e ds args w hE hB hm hl P2 hxt Z;unfold AT at ht;cases ht
 let K':Nat->Obj->Prop:=λb o=>cx.K b o\/(∃d∈ds,d={target:= .collected b,args:=#[] }/\o= .deferred (some []))
 let cx':Cx:={M:=λ_=>False,Φ:=λg T' w'=>g=none/\T'=T/\w'=w0,K:=K',saved:=cx.saved,sz:=cx.sz}
 have FQ:(PH P G X PX L c 0 {HZ fn avs with m:=m,nx:=nx,sv:=sv}).sat (λp=>match p.1 with
   | .pan v=>Q (.pan v,p.2.m,p.2.nx,p.2.sv)
   | .x (.exit _)=>False
   |_=> ∃r,qC P p.2 fn.results.toList=some r/\Q (.ret r,p.2.m,p.2.nx,p.2.sv)):=by
  refine VR.sat_mono ?_ (VR.sat_bind hQ);rintro ⟨x,s⟩ hs;cases x with
  |pan v=>exact hs
  |x x=>
  cases x with
  |exit i=>exact hs.elim
  |normal=>
   simp only at hs ⊢;split at hs;rename_i r Z;exact ⟨r,Z,hs⟩;exact hs.elim
  |ret=>
   simp only at hs ⊢;split at hs;rename_i r Z;exact ⟨r,Z,hs⟩;exact hs.elim
 have vH:Rel cx' {HZ fn avs with m:=m,nx:=nx,sv:=sv} {tmps:=args.toArray++Array.replicate (fn.ntmps-args.toArray.size) undef,defers:=[] } w:=by
  refine ⟨w0,T,e,⟨rfl,rfl,rfl⟩,hE,hB,hm,hl,P2,⟨⟨(λd hd=>by cases hd),By⟩,?_,hxt.saved,hxt.size⟩,?_⟩
  rintro b o (hk|⟨d,hd,h1,rfl⟩);exact hxt.kept b o hk;obtain ⟨D,g1,g2,g3,g4,g5⟩:=hxt.defers.1 d hd;rw [h1] at g1;injection g1 with g1 _
  injection g1 with g1
  subst g1;exact ⟨g2,g3,g4⟩;have IZ:U8 e w (List.replicate (fn.ntmps-avs.length) .top) (List.replicate (fn.ntmps-avs.length) undef):=by
   refine ⟨VY,λi a v ha _=>?_⟩;have:=F9 ha;rw [List.mem_replicate] at this;rw [this.2];exact .top v
  have:=Z.append IZ;simpa [HZ,Z.1] using this
 refine callsIn_wide (n:=0).1 (callsIn_of_wp_marks (F:=fr none) hf hb trivial (wpIn_mono (AF hG (hX cx') hP GX c 0 _ _ _ w (λj cj hj sp hsp=>hL j cj hj sp (by simpa using hsp) none cx') FQ vH) ?_) rfl)
 rintro ex a' w' ⟨x,s',rfl,hq,w0',T',e',⟨_,rfl,rfl⟩,re⟩;have Qv8:a'.defers=[]:=by
  cases hd:a'.defers with
  |nil=>rfl
  |cons d l=>
   obtain ⟨D,_,_,_,_,g5⟩:=re.xt.defers.1 d (by rw [hd];exact GN)
   exact g5.elim
 have hxt':Xt cx e' s'.sv ds w':=by
  refine ⟨⟨λd hd=>?_,hxt.defers.2⟩,λb o hk=>re.xt.kept b o (.inl hk),re.xt.saved,re.xt.size⟩;obtain ⟨D,g1,g2,g3,g4,g5⟩:=hxt.defers.1 d hd;obtain ⟨k1,k2,k3⟩:=re.xt.kept D (.deferred (some [])) (.inr ⟨d,hd,g1,rfl⟩);exact ⟨D,g1,k1,k2,k3,g5⟩
 have fin:(∃r,qC P s' fn.results.toList=some r/\Q (.ret r,s'.m,s'.nx,s'.sv))->LeavesInM (fr none) 0 P fn a'.tmps (λen w'=> ∃r m' nx' sv' e',Ze4 e' w' r en/\Q (r,m',nx',sv')/\GB e' w0'.heap.size w'/\Below w0'.heap.size w0' w'/\G5 e' m' w'/\(∀k,e'.live k->k<nx')/\
   (∀b,T' b->b<w0'.heap.size/\ ¬e'.ro b)/\Xt cx e' sv' ds w') a'.defers .returning w':=by
  rintro ⟨r,F8,hq⟩;obtain ⟨u,hu,GS⟩:=DS (P:=P) re.mem re.slots F8;rw [Qv8];exact ⟨u,hu,.ret r,s'.m,s'.nx,s'.sv,e',⟨u,rfl,GS⟩,hq,re.env,re.below,re.mem,re.live,re.foe,hxt'⟩
 cases x with
 |pan v=>
  show LeavesInM (fr none) 0 P fn a'.tmps _ a'.defers (.panicking [{v:=v,recovered:=false}]) w';rw [Qv8];exact ⟨.pan v,s'.m,s'.nx,s'.sv,e',rfl,hq,re.env,re.below,re.mem,re.live,re.foe,hxt'⟩
 |x x=>
 cases x with
 |normal=>exact fin hq
 |ret=>exact fin hq
 |exit i=>exact hq.elim
def Xa0(N:List (Pl×Nat×TypeId×Nat))(nxt:St)(out:PEx->Option St)(p:PEx×St):VR PEx:=match p.1 with
 | .x .normal=> .needT (BV (RE N p.2) nxt) (.leaf (.x .normal))
 | .x (.exit id)=>match out (.x (.exit id)) with
  |some E=> .needT (BV (RE N p.2) E) (.leaf (.x (.exit id)))
  |none=> .fail
 | .x .ret=>match out (.x .ret) with
  |some E=> .needT (BV (RE N p.2) E) (.leaf (.x .ret))
  |none=> .fail
 | .pan v=>match out (.pan v) with
  |some E=> .needT (BV (RE N p.2) E) (.leaf (.pan v))
  |none=> .fail
theorem Wz9{N:List (Pl×Nat×TypeId×Nat)}{t:PT}{nxt:St}{out:PEx->Option St}{R:PEx->Prop}(h:(t.bind (Xa0 N nxt out)).sat R):
  t.sat (λp=>match p.1 with
   | .x .normal=>R (.x .normal)/\UF (BV (RE N p.2) nxt)
   |y=> ∃E,out y=some E/\R y/\UF (BV (RE N p.2) E)):=by
 refine VR.sat_mono ?_ (VR.sat_bind h);rintro ⟨y,s'⟩ A;cases y with
 |pan v=>
  dsimp only [Xa0] at A ⊢
  split at A;rename_i E hE;exact ⟨E,hE,(VR.sat_needT A).2,(VR.sat_needT A).1⟩;exact A.elim
 |x y=>
 cases y with
 |normal=>exact ⟨(VR.sat_needT A).2,(VR.sat_needT A).1⟩
 |exit id=>
  dsimp only [Xa0] at A ⊢
  split at A;rename_i E hE;exact ⟨E,hE,(VR.sat_needT A).2,(VR.sat_needT A).1⟩;exact A.elim
 |ret=>
  dsimp only [Xa0] at A ⊢
  split at A;rename_i E hE;exact ⟨E,hE,(VR.sat_needT A).2,(VR.sat_needT A).1⟩;exact A.elim
def Zn1(E:St)(t:PT):B1:=λs=>some (.needT (BV s E) t)
def bC(l:List (Pl×Nat×TypeId×Nat))(sp:B1):B1:=λs=>sp (RE l s)
def Zn8(P:Program)(G:List (Nat×Spec))(X:Ext)(PX:List (Nat×F4))(L:List B1)(N:List (Pl×Nat×TypeId×Nat))(body:Code)(s nxt:St)(out:PEx->Option St):VR PEx:=(PH P G X PX L body 0 s).bind (Xa0 N nxt out)
theorem bH{P:Program}{G:List (Nat×Spec)}{X:Ext}{PX:List (Nat×F4)}{L:List B1}(N:List (Pl×Nat×TypeId×Nat))(hG:VP P G)(hX: ∀cx,U0 P X cx)(hP:UY P PX)(GX:P.follows .mixedOrders=true){body:Code}(hL: ∀j cj,VX body j=some cj-> ∀sp,L[j]? =some sp-> ∀ro cx,PB P ro cx cj sp)
  {V:Type}(inv:V->St)(I:V->Prop)(μ:V->Nat)(out:V->PEx->Option St){t:PT}{x0:V}(h0:I x0)
  (hok: ∀x,okB (inv x)=true)(wF: ∀x y E,out x y=some E->okB E=true)
  (round: ∀(Q:PEx×St->Prop),t.sat Q-> ∀x,I x-> ∃x',(Zn8 P G X PX L N body (inv x) (inv x') (out x)).sat (λy=>match y with
   | .x .normal=>I x'/\μ x'<μ x
   |y=> ∀E,out x y=some E->Q (y,E))): ∀ro cx,PB P ro cx (.loop body) (bC N (Zn1 (inv x0) t)):=by
 intro ro cx n s t' ht Q FQ a w r;simp only [bC,Zn1,HL] at ht;subst ht
 replace FQ:=VR.sat_needT FQ
 have hQ:=FQ.2;have r:=RB (GI FQ.1) (hok x0) (DM r);refine bI μ (λx a w=>I x/\Rel cx (inv x) a w) ?_ ⟨h0,r⟩;rintro x a w ⟨hx,Z⟩;obtain ⟨x',jI⟩:=round Q hQ x hx;refine wpIn_mono (AF hG (hX cx) hP GX body 0 (inv x) _ a w (λj cj hj sp hsp=>hL j cj hj sp (by simpa using hsp) ro cx) (Wz9 jI) Z) ?_
 rintro ex a₁ w₁ ⟨y,s',rfl,hq,hr'⟩;cases y with
 |pan v=>
  obtain ⟨E,hE,h1,h3⟩:=hq;exact ⟨.pan v,E,rfl,h1 E hE,RB (GI h3) (wF x _ E hE) (DM hr')⟩
 |x y=>
 cases y with
 |normal=>
  obtain ⟨⟨h1,h2⟩,h3⟩:=hq;exact ⟨x',h2,h1,RB (GI h3) (hok x') (DM hr')⟩
 |exit id=>
  obtain ⟨E,hE,h1,h3⟩:=hq;exact ⟨.x (.exit id),E,rfl,h1 E hE,RB (GI h3) (wF x _ E hE) (DM hr')⟩
 |ret=>
  obtain ⟨E,hE,h1,h3⟩:=hq;exact ⟨.x .ret,E,rfl,h1 E hE,RB (GI h3) (wF x _ E hE) (DM hr')⟩
theorem Step.app{e:UP}{id:Nat}(u:Value)(w:World)(hid: ¬e.live id):Step e (e.app id u) w w:=
 ⟨λb _ h=>⟨h,rfl⟩,λk hk=>⟨.inr hk,rfl,by
  have:k≠id:=λh=>hid (h▸hk);simp [UP.app,this]⟩,Am _⟩
def Wx1(sp:BZ):D9:=λavs m nx sv=>match sp (avs.map (DJ m 40)) with
 |some (ns,T,sz,n,g)=>some (.needT ns (.leaf (.row nx,(nx,.row T sz n g)::m,nx+1,sv)))
 |none=>none
theorem E0{P:Program}{f:FuncId}{sp:BZ}(h:Enters P f/\ ∀avs ns T sz n g,sp avs=some (ns,T,sz,n,g)->(∀q∈ns,q)->DV P f avs T sz n g):GH P f (Wx1 sp):=by
 refine ⟨h.1,?_⟩;intro avs m nx sv t ht Q hQ c w0 T e ds args w hE hB hm hl P2 hxt Z;unfold Wx1 at ht;split at ht;rename_i ns T' sz n g hsp;cases ht;obtain ⟨hns,hq⟩:=VR.sat_needT hQ;have dG:=U8.map (DJ m 40) (LL hE hm 40) Z;have FO:=h.2 _ _ _ _ _ _ hsp (GI hns) e.view w _ (by
  rintro b (hb|⟨k,hb⟩);exact (hE.apart b hb).2;exact (hE.owned b k hb).2) (hE.glob.step (Step.view w)) (DZ (RS hm 40) Z) dG
 refine FO.mono ?_;rintro en w' ⟨v,xs,rfl,hb,k1,k2,k3,k4⟩;obtain ⟨e',q1,q2,q3,q4,q5,q6,q7,q8⟩:=MU hE hB.size hm (λhlv=>Bf _ (hl _ hlv)) hb k1 k2 k3 k4;refine ⟨v,_,_,_,_,e',rfl,hq,q3,hB.trans (hb.mono hB.size),q6,λk hk=>?_,λb hT=>⟨(P2 b hT).1,λhro=>?_⟩,hxt.step q2,q5⟩;rcases q7 k hk with hk|rfl;exact Nat.lt_succ_of_lt (hl k hk);exact Bk _;rcases q8 b hro with hro|hro;exact (P2 b hT).2 hro;have:=(P2 b hT).1;have:=hB.size;omega;cases ht
theorem VR.bind_sat{α β:Type}{f:α->VR β}{Q:β->Prop}: ∀{t:VR α},t.sat (λa=>(f a).sat Q)->(t.bind f).sat Q
 | .fail,h=>h.elim
 | .leaf a,h=>h
 | .need ps t,h=>⟨h.1,VR.bind_sat h.2⟩
 | .branch b t t',h=>⟨λhb=>VR.bind_sat (h.1 hb),λhb=>VR.bind_sat (h.2 hb)⟩
 | .may p t t',h=>⟨λhb=>VR.bind_sat (h.1 hb),VR.bind_sat h.2⟩
def Qj2(N:List (Pl×Nat×TypeId×Nat))(ET EF:St)(x:AV×HA×Nat×List (List AV)):VR Bool:=match x.1 with
 | .lit true=> .needT (BV (RE N {σ:=[],m:=x.2.1,nx:=x.2.2.1,sv:=x.2.2.2}) ET) (.leaf true)
 | .lit false=> .needT (BV (RE N {σ:=[],m:=x.2.1,nx:=x.2.2.1,sv:=x.2.2.2}) EF) (.leaf false)
 |_=> .fail
def inlT(P:Program)(G:List (Nat×Spec))(X:Ext)(L:List UN)(fn:Func)(c:Code)(avs:List AV)(m:HA)(nx:Nat)(sv:List (List AV))(N:List (Pl×Nat×TypeId×Nat))(ET EF:St):VR Bool:=
 (DD P G X L c 0 {HZ fn avs with m:=m,nx:=nx,sv:=sv}).bind λp=>match p.1 with
  | .exit _=> .fail
  |_=>match qC P p.2 fn.results.toList with
   |some r=>Qj2 N ET EF (r,p.2.m,p.2.nx,p.2.sv)
   |none=> .fail
theorem vX{P:Program}{fn:Func}{R:Ending->World->Prop}{M:Nat->Prop}{w0:World}{e:UP}{s:St}{tmps:Array Value}{n:Nat}{J:World->Prop}(hB: ∀D,M D->w0.heap.size<=D)
  (hJ: ∀w D,M D->w.heap[D]? =some (.deferred (some []))->J w->J (w.putObj D (.deferred none)))
  (fin: ∀w',GB e w0.heap.size w'->Below w0.heap.size w0 w'->G5 e s.m w'->U8 e w' s.σ tmps.toList->J w'-> ∃v,(results fn tmps).run P w'= .ok v w'/\R (.returned v) w'):
  ∀(ds:List Deferred) (w:World),TZ M e w ds->GB e w0.heap.size w->Below w0.heap.size w0 w->G5 e s.m w->U8 e w s.σ tmps.toList->J w->LeavesInM (fr none) n P fn tmps R ds .returning w
 |[],w,_,hE,hb,hm,hs,hj=>fin w hE hb hm hs hj
 |d::ds,w,hd,hE,hb,hm,hs,hj=>by
  obtain ⟨D,h1,h2,h3,h4,h5⟩:=hd.1 d GN;refine ⟨VY,.inl ⟨D,_,by rw [h1],run_takeDeferred h4,?_⟩⟩
  have HD:=(hE.apart D h2).1;have hsz:(w.putObj D (.deferred none)).heap.size=w.heap.size:=World.putObj_size;refine vX hB hJ fin ds _ ⟨λd' hd'=>?_,(List.nodup_cons.1 hd.2).2⟩ ⟨λb hb=>by rw [hsz];exact hE.apart b hb,λb k hk=>by rw [hsz];exact hE.owned b k hk,bT hE.glob h4 rfl⟩ ?_ (λp A=>(hm p A).putObj h4 (λ_ _ h=>by cases h) rfl rfl HD) (hs.sameCells hsz (BR h4 rfl rfl) (qY h4 (λ_ _ h=>by cases h))) (hJ _ _ h5 h4 hj)
  obtain ⟨D',k1,k2,k3,k4,k5⟩:=hd.1 d' (D1 _ hd');have hne:D'≠D:=by
   rintro rfl;exact (List.nodup_cons.1 hd.2).1 (by rw [h1,←k1];exact hd')
  exact ⟨D',k1,k2,by rw [hsz];exact k3,(Bu hne).trans k4,k5⟩
  exact hb.trans ((Below.refl w0.heap.size w).grown (grownBy_putObj' w D _) (by have:=hb.size;have:=hB D h5;omega) (λk he=>by cases he;exact hB D h5))
def Xj5(P:Program)(f:FuncId)(avs:List AV)(m:HA)(nx:Nat)(sv:List (List AV))(ET EF:St)(b:Bool):Prop:=
 ∀(c:Cx) (w0:World) (T:Nat->Prop) (e:UP) (args:List Value) (w:World),
 GB e w0.heap.size w->Below w0.heap.size w0 w->G5 e m w->(∀k,e.live k->k<nx)->(∀b,T b->b<w0.heap.size/\ ¬e.ro b)->Xt c e sv [] w->c.sz=w.heap.size->U8 e w avs args->
  Calls P f args.toArray w λen w'=>en= .returned (.bool b)/\ ∃e',GB e' w0.heap.size w'/\Below w0.heap.size w0 w'/\G5 e' (cond b ET EF).m w'/\(∀k,e'.live k->k<(cond b ET EF).nx)/\
   (∀b,T b->b<w0.heap.size/\ ¬e'.ro b)/\Xt c e' (cond b ET EF).sv [] w'
theorem Qu7{P:Program}{G:List (Nat×Spec)}{X:Ext}{L:List UN}{f:FuncId}{fn:Func}{c:Code}(hG:VP P G)(hX: ∀cx,U0 P X cx)(GX:P.follows .mixedOrders=true)(hf:P.funcs[f]? =some fn)(hb:fn.body=some c)
  (hL: ∀j cj,VX c j=some cj-> ∀sp,L[j]? =some sp->HU P cj sp){avs:List AV}{m:HA}{nx:Nat}{sv:List (List AV)}{N:List (Pl×Nat×TypeId×Nat)}{ET EF:St}{b:Bool}{t:VR Bool}
  (hT:okB ET=true)(hF:okB EF=true)(gT:ET.gh=none)(gF:EF.gh=none)(ht:inlT P G X L fn c avs m nx sv N ET EF=t)(FQ:t.sat λr=>r=b):Xj5 P f avs m nx sv ET EF b:=by
 subst ht;intro cx w0 T e args w hE hB hm hl P2 hxt hsz Z
 let cx':Cx:={M:=λD=>w.heap.size<=D,Φ:=λg T' w'=>g=none/\T'=T/\w'=w0,K:=cx.K,saved:=cx.saved,sz:=w.heap.size}
 have Zw4:cx'.fun:=λ_ _ _ D _ _ h=>h;have vH:Rel cx' {HZ fn avs with m:=m,nx:=nx,sv:=sv} {tmps:=args.toArray++Array.replicate (fn.ntmps-args.toArray.size) undef,defers:=[] } w:=by
  refine ⟨w0,T,e,⟨rfl,rfl,rfl⟩,hE,hB,hm,hl,P2,⟨⟨(λd hd=>by cases hd),By⟩,hxt.kept,hxt.saved,Am _⟩,?_⟩
  have IZ:U8 e w (List.replicate (fn.ntmps-avs.length) .top) (List.replicate (fn.ntmps-avs.length) undef):=by
   refine ⟨VY,λi a v ha _=>?_⟩;have:=F9 ha;rw [List.mem_replicate] at this;rw [this.2];exact .top v
  have:=Z.append IZ;simpa [HZ,Z.1] using this
 have hb2:=VR.sat_bind FQ;refine callsIn_wide (n:=0).1 (callsIn_of_wp_marks (F:=fr none) hf hb trivial (wpIn_mono (DF hG (hX cx') GX c 0 _ _ _ w (λj cj hj sp hsp=>hL j cj hj sp (by simpa using hsp) cx' Zw4) hb2 vH) ?_) rfl)
 rintro ex a' w' ⟨x,s',rfl,hs,w0',T',e',⟨hgh',rfl,rfl⟩,re⟩
 let J:World->Prop:=λw2=>w.heap.size<=w2.heap.size/\Xt {cx' with sz:=0} e' s'.sv [] w2
 have hJ: ∀w2 D,w.heap.size<=D->w2.heap[D]? =some (.deferred (some []))->J w2->J (w2.putObj D (.deferred none)):=by
  rintro w2 D hD h4 ⟨j0,j1,j2,j3,j4⟩;have z8:(w2.putObj D (.deferred none)).heap.size=w2.heap.size:=World.putObj_size;refine ⟨by rw [z8];exact j0,⟨⟨λd hd=>(by cases hd),By⟩,λb o hk=>?_,⟨j3.1,λi a v ha hv=>(j3.2 i a v ha hv).sameCells z8 (BR h4 rfl rfl) (qY h4 (λ_ _ h=>by cases h))⟩,Ao _⟩⟩
  obtain ⟨k1,k2,k3⟩:=j2 b o hk;have hlt:=(hxt.kept b o hk).2.1;exact ⟨k1,by rw [z8];exact k2,(Bu VO).trans k3⟩
 have hJ0:J w':=⟨re.xt.size,⟨⟨λd hd=>(by cases hd),By⟩,re.xt.kept,re.xt.saved,Ao _⟩⟩
 have main:(match x with| .exit _=>False|_=> ∃r,qC P s' fn.results.toList=some r/\(Qj2 N ET EF (r,s'.m,s'.nx,s'.sv)).sat λr=>r=b):=by
  cases x with
  |exit i=>exact hs.elim
  |normal=>
   simp only at hs ⊢;split at hs;rename_i r hr';exact ⟨r,hr',hs⟩;exact hs.elim
  |ret=>
   simp only at hs ⊢;split at hs;rename_i r hr';exact ⟨r,hr',hs⟩;exact hs.elim
 have vJ:(∃r,qC P s' fn.results.toList=some r/\(Qj2 N ET EF (r,s'.m,s'.nx,s'.sv)).sat λr=>r=b)->LeavesInM (fr none) 0 P fn a'.tmps (λen w'=>en= .returned (.bool b)/\ ∃e',GB e' w0'.heap.size w'/\Below w0'.heap.size w0' w'/\G5 e' (cond b ET EF).m w'/\(∀k,e'.live k->k<(cond b ET EF).nx)/\
   (∀b,T' b->b<w0'.heap.size/\ ¬e'.ro b)/\Xt cx e' (cond b ET EF).sv [] w') a'.defers .returning w':=by
  rintro ⟨r,F8,hq⟩;refine vX (M:=cx'.M) (s:=s') (J:=J) (λD hD=>Ar hB.size hD) hJ (λw2 q1 q2 q3 q4 q5=>?_) a'.defers w' re.xt.defers re.env re.below re.mem re.slots hJ0;obtain ⟨u,hu,GS⟩:=DS (P:=P) q3 q4 F8
  let c2:Cx:={M:=cx.M,Φ:=λg T'' w''=>g=none/\T''=T'/\w''=w0',K:=cx.K,saved:=cx.saved,sz:=cx.sz}
  have Jq4:Rel c2 {σ:=[],m:=s'.m,nx:=s'.nx,sv:=s'.sv} {tmps:=#[],defers:=[] } w2:=
   ⟨w0',T',e',⟨rfl,rfl,rfl⟩,q1,q2,q3,re.live,re.foe,⟨⟨λd hd=>(by cases hd),By⟩,q5.2.kept,q5.2.saved,by show cx.sz<=_;rw [hsz];exact q5.1⟩,U8.nil _ _⟩
  have hn:=DM (l:=N) Jq4;have fin: ∀E:St,Rel c2 E {tmps:=#[],defers:=[] } w2-> ∃e',GB e' w0'.heap.size w2/\Below w0'.heap.size w0' w2/\G5 e' E.m w2/\(∀k,e'.live k->k<E.nx)/\(∀b,T' b->b<w0'.heap.size/\ ¬e'.ro b)/\Xt cx e' E.sv [] w2:=by
   rintro E ⟨w0'',T'',e2,⟨_,rfl,rfl⟩,r⟩;exact ⟨e2,r.env,r.below,r.mem,r.live,r.foe,⟨r.xt.defers,r.xt.kept,r.xt.saved,r.xt.size⟩⟩
  refine ⟨u,hu,?_⟩;unfold Qj2 at hq;split at hq;rename_i h1;simp only at h1;subst h1;obtain ⟨q1,q2⟩:=VR.sat_needT hq;have q2:true=b:=q2;subst q2;exact ⟨by rw [GS.lit_inv],fin ET (RB (GI q1) hT hn)⟩
  rename_i h1;simp only at h1;subst h1;obtain ⟨q1,q2⟩:=VR.sat_needT hq;have q2:false=b:=q2;subst q2;exact ⟨by rw [GS.lit_inv],fin EF (RB (GI q1) hF hn)⟩
  exact hq.elim
 cases x with
 |normal=>exact vJ main
 |ret=>exact vJ main
 |exit i=>exact main.elim
def Zc3(N:List (Pl×Nat×TypeId×Nat))(h:D9):D9:=λavs m nx sv=>
 h (RE N {σ:=avs,m:=m,nx:=nx,sv:=sv}).σ (RE N {σ:=avs,m:=m,nx:=nx,sv:=sv}).m (RE N {σ:=avs,m:=m,nx:=nx,sv:=sv}).nx (RE N {σ:=avs,m:=m,nx:=nx,sv:=sv}).sv
theorem lE{P:Program}{f:FuncId}{N:List (Pl×Nat×TypeId×Nat)}{h:D9}(hs:GH P f h):GH P f (Zc3 N h):=by
 refine ⟨hs.1,?_⟩;intro avs m nx sv t ht Q hQ c w0 T e ds args w hE hB hm hl P2 hxt Z
 let c':Cx:={M:=c.M,Φ:=λg T' w'=>g=none/\T'=T/\w'=w0,K:=c.K,saved:=c.saved,sz:=c.sz}
 have vH:Rel c' {σ:=avs,m:=m,nx:=nx,sv:=sv} {tmps:=args.toArray,defers:=ds} w:=
  ⟨w0,T,e,⟨rfl,rfl,rfl⟩,hE,hB,hm,hl,P2,⟨hxt.defers,hxt.kept,hxt.saved,hxt.size⟩,by simpa using Z⟩
 obtain ⟨w0',T',e2,⟨_,rfl,rfl⟩,r⟩:=DM (l:=N) vH;exact hs.2 _ _ _ _ _ ht Q hQ c w0' T' e2 ds args w r.env r.below r.mem r.live r.foe ⟨r.xt.defers,r.xt.kept,r.xt.saved,r.xt.size⟩ (by simpa using r.slots)
def Zs2(D:TypeId):Value->Option Int
 | .iface T v=>match Nat.beq T D with
  |true=>match v with
   | .agg a=>match a.toList with
    |[.int .i64 k]=>some k
    |_=>none
   |_=>none
  |false=>none
 |_=>none
theorem Qs7{D:TypeId}{v:Value}{k:Int}(h:Zs2 D v=some k):v= .iface D (.agg #[.int .i64 k]):=by
 unfold Zs2 at h;split at h;split at h;rename_i hb;cases H5 hb;split at h;rename_i a;split at h;rename_i k0 ha;cases h;have:a=#[Value.int .i64 k]:=Array.toList_inj.1 ha;rw [this];cases h;cases h;cases h;cases h
def Xt6(D:TypeId)(r:Bool×Int):Ending:=match r.1 with
 |true=> .returned (.tuple #[])
 |false=> .panicked [{v:= .iface D (.agg #[.int .i64 r.2]),recovered:=false}]
def fW(a b:AV):Prop:=match a,b with
 | .lst sz n f,.lst sz' n' f'=>sz=sz'/\n=n'/\ ∀i,i<n'->wK (f i) (f' i)/\ ∀x∈f' i,Idf x
 |a,b=>FN a b
def HH:List AV->List AV->Prop
 |[],[]=>True
 |a::l,b::m=>fW a b/\HH l m
 |_,_=>False
theorem lK{e:UP}{w:World}{a b:AV}{v:Value}(h:fW a b)(r:Rep e w a v):Rep e w b v:=by
 unfold fW at h;split at h;rename_i sz n f sz' n' f';obtain ⟨rfl,rfl,h⟩:=h;cases r with
 |lstNil=>exact .lstNil _ _
 |lst _ _ _ b o cap g h1 h2 h3 h4 h5 h6 h7 h8 ad had=>
  have key: ∀i,i<n->U8 e w (f' i) ((List.range sz).map (g i)):=by
   intro i O;refine yR (h i O).1 ⟨by rw [h7 i O];simp,λj a v ha hv=>?_⟩
   have hj:j<sz:=by
    have:=(RA.1 ha).1
    rwa [h7 i O] at this
   rw [Bn,List.getElem?_range hj] at hv;simp only [Bt,HL] at hv;rw [←hv];exact h8 i j a O ha
  refine .lst sz n f' b o cap g h1 h2 (λi O=>(h i O).2) h4 h5 h6 (λi O=>by have:=(key i O).1;simpa using this) (λi j a O ha=>?_) ad had
  have hj:j<sz:=by
   have h9:=(key i O).1;have:=(RA.1 ha).1;simp at h9;omega
  exact (key i O).2 j a (g i j) ha (by rw [Bn,List.getElem?_range hj];rfl)
 exact L9 h r
theorem fV{e:UP}{w:World}: ∀{l m:List AV} {vs:List Value},HH l m->U8 e w l vs->U8 e w m vs
 |[],[],_,_,r=>r
 |a::l,b::m,vs,h,r=>by
  obtain ⟨v,vs',rfl,r1,r2⟩:=r.cons_inv;exact .cons (lK h.1 r1) (fV h.2 r2)
 |[],_::_,_,h,_=>h.elim
 |_::_,[],_,h,_=>h.elim
def Qx6(m:HA):HA->List Prop
 |[]=>[]
 |(id,r)::t=>match r with
  | .cells T l=>match DN m id with
   |some (.cells T' l')=>match Nat.beq T' T with
    |true=>HH l' l::Qx6 m t
    |false=>[False]
   |_=>[False]
  | .row T sz n f=>match DN m id with
   |some (.row T' sz' n' f')=>((T',sz',n',f')=(T,sz,n,f))::Qx6 m t
   |_=>[False]
  |_=>[False]
theorem c8{e:UP}{w:World}{m:HA}(hm:G5 e m w): ∀{m':HA},(∀p∈Qx6 m m',p)->G5 e m' w
 |[],_,p,A=>by cases A
 |(id,r)::t,h,p,A=>by
  unfold Qx6 at h;split at h;rename_i T l;split at h;rename_i T' l' hg;split at h;rename_i hT;rcases GT.1 A with rfl|A;have h1:T'=T:=H5 hT;have h2:HH l' l:=h _ GN;subst h1;obtain ⟨g1,g2,vs,g3,g4⟩:=hm _ (GA hg);exact ⟨g1,g2,vs,g3,fV h2 g4⟩;exact c8 hm (m':=t) (λq hq=>h q (D1 _ hq)) p A;exact (h False GN).elim;exact (h False GN).elim;rename_i T sz n f;split at h;rename_i T' sz' n' f' hg;rcases GT.1 A with rfl|A;have h2:(T',sz',n',f')=(T,sz,n,f):=h _ GN;cases h2;exact hm _ (GA hg);exact c8 hm (m':=t) (λq hq=>h q (D1 _ hq)) p A;exact (h False GN).elim;exact (h False GN).elim
def Wz3(s E:St):List Prop:=match Nat.ble s.nx E.nx with
 |true=>(s.sv=E.sv)::Qx6 s.m E.m
 |false=>[False]
theorem Xs9{s E:St}(h: ∀p∈Wz3 s E,p):s.nx<=E.nx/\s.sv=E.sv/\ ∀p∈Qx6 s.m E.m,p:=by
 unfold Wz3 at h;split at h;rename_i hb;exact ⟨wD hb,h _ GN,λp A=>h p (D1 _ A)⟩;exact (h False GN).elim
def Qj3(D:TypeId)(N:List (Pl×Nat×TypeId×Nat))(ET EF:St)(x:Xh9×HA×Nat×List (List AV)):VR (Bool×Int):=match x.1 with
 | .ret (.tup [])=> .needT (Wz3 (RE N {σ:=[],m:=x.2.1,nx:=x.2.2.1,sv:=x.2.2.2}) ET) (.leaf (true,0))
 | .pan v=>match Zs2 D v with
  |some k=> .needT (Wz3 {σ:=[],m:=x.2.1,nx:=x.2.2.1,sv:=x.2.2.2} EF) (.leaf (false,k))
  |none=> .fail
 |_=> .fail
def Jp5(P:Program)(G:List (Nat×Spec))(X:Ext)(PX:List (Nat×F4))(L:List B1)(fn:Func)(c:Code)(avs:List AV)(m:HA)(nx:Nat)(sv:List (List AV))(D:TypeId)(N:List (Pl×Nat×TypeId×Nat))(ET EF:St):VR (Bool×Int):=
 (PH P G X PX L c 0 {HZ fn avs with m:=m,nx:=nx,sv:=sv}).bind λp=>match p.1 with
  | .pan v=>Qj3 D N ET EF (.pan v,p.2.m,p.2.nx,p.2.sv)
  | .x (.exit _)=> .fail
  |_=>match qC P p.2 fn.results.toList with
   |some r=>Qj3 D N ET EF (.ret r,p.2.m,p.2.nx,p.2.sv)
   |none=> .fail
def x9(P:Program)(f:FuncId)(avs:List AV)(m:HA)(nx:Nat)(sv:List (List AV))(D:TypeId)(ET EF:St)(res:Bool×Int):Prop:=
 ∀(c:Cx) (w0:World) (T:Nat->Prop) (e:UP) (ds:List Deferred) (args:List Value) (w:World),
 GB e w0.heap.size w->Below w0.heap.size w0 w->G5 e m w->(∀k,e.live k->k<nx)->(∀b,T b->b<w0.heap.size/\ ¬e.ro b)->Xt c e sv ds w->U8 e w avs args->
  Calls P f args.toArray w λen w'=>en=Xt6 D res/\ ∃e',GB e' w0.heap.size w'/\Below w0.heap.size w0 w'/\G5 e' (cond res.1 ET EF).m w'/\(∀k,e'.live k->k<(cond res.1 ET EF).nx)/\
   (∀b,T b->b<w0.heap.size/\ ¬e'.ro b)/\Xt c e' (cond res.1 ET EF).sv ds w'
theorem Zs3{P:Program}{f:FuncId}{h:F4}(hs:DE P f h){avs:List AV}{m:HA}{nx:Nat}{sv:List (List AV)}{t:VR (Xh9×HA×Nat×List (List AV))}{D:TypeId}{N:List (Pl×Nat×TypeId×Nat)}{ET EF:St}{res:Bool×Int}(ht:h avs m nx sv=some t)
  (FQ:t.sat λx=>(Qj3 D N ET EF x).sat λr=>r=res):x9 P f avs m nx sv D ET EF res:=by
 intro c w0 T e ds args w hE hB hm hl P2 hxt Z;refine (hs.2 _ _ _ _ _ ht _ FQ c w0 T e ds args w hE hB hm hl P2 hxt Z).mono ?_;rintro en w' ⟨r,m',nx',sv',e',hpe,hq,g1,g2,g3,g4,g5,g6⟩
 let c':Cx:={M:=c.M,Φ:=λg T' w'=>g=none/\T'=T/\w'=w0,K:=c.K,saved:=c.saved,sz:=c.sz}
 have vH:Rel c' {σ:=[],m:=m',nx:=nx',sv:=sv'} {tmps:=#[],defers:=ds} w':=
  ⟨w0,T,e',⟨rfl,rfl,rfl⟩,g1,g2,g3,g4,g5,⟨g6.defers,g6.kept,g6.saved,g6.size⟩,U8.nil _ _⟩
 have fin: ∀S E:St,Rel c' S {tmps:=#[],defers:=ds} w'->(∀p∈Wz3 S E,p)-> ∃e',GB e' w0.heap.size w'/\Below w0.heap.size w0 w'/\G5 e' E.m w'/\(∀k,e'.live k->k<E.nx)/\(∀b,T b->b<w0.heap.size/\ ¬e'.ro b)/\Xt c e' E.sv ds w':=by
  rintro S E ⟨w0',T',e2,⟨_,rfl,rfl⟩,r⟩ hf;obtain ⟨h1,h2,h3⟩:=Xs9 hf;refine ⟨e2,r.env,r.below,c8 r.mem h3,λk hk=>PJ (r.live k hk) h1,r.foe,⟨r.xt.defers,r.xt.kept,?_,r.xt.size⟩⟩;rw [←h2];exact r.xt.saved
 unfold Qj3 at hq;split at hq;rename_i h1;simp only at h1;subst h1;obtain ⟨v,rfl,rv⟩:=hpe;obtain ⟨q1,q2⟩:=VR.sat_needT hq;have q2:(true,0)=res:=q2;subst q2;obtain ⟨us,rfl,hus⟩:=rv.tup_inv;obtain rfl:=hus.nil_inv;exact ⟨rfl,fin _ ET (DM (l:=N) vH) (GI q1)⟩;rename_i v h1;simp only at h1;subst h1;split at hq;rename_i k hk;obtain ⟨q1,q2⟩:=VR.sat_needT hq;have q2:(false,k)=res:=q2;subst q2;have hpe:en= .panicked [{v:=v,recovered:=false}]:=hpe;rw [hpe,Qs7 hk];exact ⟨rfl,fin _ EF vH (GI q1)⟩;exact hq.elim;exact hq.elim
theorem LV{P:Program}{G:List (Nat×Spec)}{X:Ext}{PX:List (Nat×F4)}{L:List B1}{f:FuncId}{fn:Func}{c:Code}(hG:VP P G)(hX: ∀cx,U0 P X cx)(hP:UY P PX)(GX:P.follows .mixedOrders=true)(PQ:Enters P f)(hf:P.funcs[f]? =some fn)(hb:fn.body=some c)
  (hL: ∀j cj,VX c j=some cj-> ∀sp,L[j]? =some sp-> ∀ro cx,PB P ro cx cj sp){avs:List AV}{m:HA}{nx:Nat}{sv:List (List AV)}{D:TypeId}{N:List (Pl×Nat×TypeId×Nat)}{ET EF:St}{res:Bool×Int}{t:VR (Bool×Int)}
  (ht:Jp5 P G X PX L fn c avs m nx sv D N ET EF=t)(FQ:t.sat λr=>r=res):x9 P f avs m nx sv D ET EF res:=by
 subst ht;refine Zs3 (FY hG hX hP GX PQ hf hb hL) (h:=AT P G X PX L fn c) (N:=N) rfl (VR.bind_sat (VR.sat_mono ?_ (VR.sat_bind FQ)));rintro ⟨x,s⟩ h;cases x with
 |pan v=>exact h
 |x y=>
  cases y with
  |exit i=>exact h.elim
  |normal=>
   simp only at h ⊢;split at h;rename_i r Z;first|exact h|(rw [Z];exact h)|(simp only [Z];exact h)
   exact h.elim
  |ret=>
   simp only at h ⊢;split at h;rename_i r Z;first|exact h|(rw [Z];exact h)|(simp only [Z];exact h)
   exact h.elim
def Wt0(P:Program)(ev:Code->Nat->St->CT)(fn:Func)(c:Code):D9:=λavs m nx sv=>
 some ((ev c 0 {HZ fn avs with m:=m,nx:=nx,sv:=sv}).bind λp=>match p.1 with
  | .exit _=> .fail
  |_=>match qC P p.2 fn.results.toList with
   |some r=> .leaf (r,p.2.m,p.2.nx,p.2.sv)
   |none=> .fail)
theorem tF{P:Program}{ev:Code->Nat->St->CT}{L:List UN}{f:FuncId}{fn:Func}{c:Code}(hev: ∀cx,Qe1 P cx L ev)(PQ:Enters P f)(hf:P.funcs[f]? =some fn)(hb:fn.body=some c)
  (hL: ∀j cj,VX c j=some cj-> ∀sp,L[j]? =some sp->GD P cj sp):GH P f (Wt0 P ev fn c):=by
 refine ⟨PQ,?_⟩;intro avs m nx sv t ht Q hQ cx w0 T e ds args w hE hB hm hl P2 hxt Z;unfold Wt0 at ht;cases ht
 let K':Nat->Obj->Prop:=λb o=>cx.K b o\/(∃d∈ds,d={target:= .collected b,args:=#[] }/\o= .deferred (some []))
 let cx':Cx:={M:=λ_=>False,Φ:=λg T' w'=>g=none/\T'=T/\w'=w0,K:=K',saved:=cx.saved,sz:=cx.sz}
 have FQ:(ev c 0 {HZ fn avs with m:=m,nx:=nx,sv:=sv}).sat (λp=>(∀i,p.1≠ .exit i)/\p.2.gh=p.2.gh/\ ∃r,qC P p.2 fn.results.toList=some r/\Q (r,p.2.m,p.2.nx,p.2.sv)):=by
  refine VR.sat_mono ?_ (VR.sat_bind hQ);rintro ⟨x,s⟩ hs;cases x with
  |exit i=>exact hs.elim
  |normal=>
   simp only at hs;split at hs;rename_i r Z;exact ⟨λi h=>(by cases h),rfl,r,Z,hs⟩
   exact hs.elim
  |ret=>
   simp only at hs;split at hs;rename_i r Z;exact ⟨λi h=>(by cases h),rfl,r,Z,hs⟩
   exact hs.elim
 have vH:Rel cx' {HZ fn avs with m:=m,nx:=nx,sv:=sv} {tmps:=args.toArray++Array.replicate (fn.ntmps-args.toArray.size) undef,defers:=[] } w:=by
  refine ⟨w0,T,e,⟨rfl,rfl,rfl⟩,hE,hB,hm,hl,P2,⟨⟨(λd hd=>by cases hd),By⟩,?_,hxt.saved,hxt.size⟩,?_⟩
  rintro b o (hk|⟨d,hd,h1,rfl⟩);exact hxt.kept b o hk;obtain ⟨D,g1,g2,g3,g4,g5⟩:=hxt.defers.1 d hd;rw [h1] at g1;injection g1 with g1 _
  injection g1 with g1
  subst g1;exact ⟨g2,g3,g4⟩;have IZ:U8 e w (List.replicate (fn.ntmps-avs.length) .top) (List.replicate (fn.ntmps-avs.length) undef):=by
   refine ⟨VY,λi a v ha _=>?_⟩;have:=F9 ha;rw [List.mem_replicate] at this;rw [this.2];exact .top v
  have:=Z.append IZ;simpa [HZ,Z.1] using this
 refine callsIn_wide (n:=0).1 (callsIn_of_wp_marks (F:=fr none) hf hb trivial (wpIn_mono (hev cx' none 0 c 0 _ _ _ w (λj cj hj sp hsp=>hL j cj hj sp (by simpa using hsp) none cx') FQ vH) ?_) rfl)
 rintro ex a' w' ⟨x,s',rfl,⟨hx,_,r,F8,hq⟩,w0',T',e',⟨_,rfl,rfl⟩,re⟩;have Qv8:a'.defers=[]:=by
  cases hd:a'.defers with
  |nil=>rfl
  |cons d l=>
   obtain ⟨D,_,_,_,_,g5⟩:=re.xt.defers.1 d (by rw [hd];exact GN)
   exact g5.elim
 obtain ⟨u,hu,GS⟩:=DS (P:=P) re.mem re.slots F8;have vJ:LeavesInM (fr none) 0 P fn a'.tmps (λen w'=> ∃v r m' nx' sv' e',en= .returned v/\Q (r,m',nx',sv')/\GB e' w0'.heap.size w'/\Below w0'.heap.size w0' w'/\G5 e' m' w'/\(∀k,e'.live k->k<nx')/\
   (∀b,T' b->b<w0'.heap.size/\ ¬e'.ro b)/\Xt cx e' sv' ds w'/\Rep e' w' r v) a'.defers .returning w':=by
  rw [Qv8];refine ⟨u,hu,u,r,s'.m,s'.nx,s'.sv,e',rfl,hq,re.env,re.below,re.mem,re.live,re.foe,⟨⟨λd hd=>?_,hxt.defers.2⟩,λb o hk=>re.xt.kept b o (.inl hk),re.xt.saved,re.xt.size⟩,GS⟩;obtain ⟨D,g1,g2,g3,g4,g5⟩:=hxt.defers.1 d hd;obtain ⟨k1,k2,k3⟩:=re.xt.kept D (.deferred (some [])) (.inr ⟨d,hd,g1,rfl⟩);exact ⟨D,g1,k1,k2,k3,g5⟩
 cases x with
 |normal=>exact vJ
 |ret=>exact vJ
 |exit i=>exact (hx i rfl).elim
def cOf(h:D9)(avs:List AV):VR AV:=match h avs [] 0 [] with
 |some t=>t.bind λx=> .leaf (DJ x.2.1 40 x.1)
 |none=> .fail
theorem aB{P:Program}{f:FuncId}{h:D9}(hs:GH P f h){avs:List AV}{sp t:VR AV}(ht:cOf h avs=t)(vJ: ∀Q:AV->Prop,sp.sat Q->t.sat (λr=> ∃r',fW r r'/\Q r')):US P f avs sp:=by
 intro Q hQ e w args hro hgl FU Z
 let T:Nat->Prop:=λb=>b<w.heap.size/\ ¬e.ro b
 let e0:UP:={ro:=e.ro,own:=λ_=>none,live:=λ_=>False,blk:=λ_=>0,val:=λ_=> .nilIface}
 have hr0:U8 e0 w avs args:=⟨Z.1,λi a v ha hv=>Rep.idf (e:=e) (e':=e0) (λ_ h=>h) (Z.2 i a v ha hv) (FU a (F9 ha))⟩;have FQ:=vJ Q hQ;subst ht;unfold cOf at FQ;split at FQ;rename_i t0 hh;refine (hs.2 avs [] 0 [] t0 hh _ (VR.sat_bind FQ) (mZ w T) w T e0 [] args w ⟨λb hb=>⟨rfl,hro b hb⟩,(λb k hk=>by cases hk),hgl⟩ (Below.refl _ _) (λp A=>by cases A) (λk hk=>False.elim hk) (λb h=>h) ⟨⟨(λd hd=>by cases hd),By⟩,(λb o h=>h.elim),⟨rfl,(λi a v h=>by cases h)⟩,Ao _⟩ hr0).mono ?_
 rintro en w' ⟨v,r,m',nx',sv',e',rfl,⟨r',y5,hq⟩,g1,g2,g3,g4,g5,g6,g7⟩;refine ⟨v,r',rfl,hq,g2,?_⟩;refine lK y5 (Rep.idf (e:=e'.view) ?_ (LL g1 g3 40 r v g7) (RS g3 40 r v g7));rintro b (hb|⟨k,hb⟩);rcases An b w.heap.size with h1|h1;refine .inl ?_;rcases Classical.em (e.ro b) with h2|h2;exact h2;exact ((g5 b ⟨h1,h2⟩).2 hb).elim;exact .inr ⟨h1,(g1.apart b hb).2⟩;exact .inr ⟨(g1.owned b k hb).1,(g1.owned b k hb).2⟩;exact FQ.elim
abbrev upE(l:List (Nat×AV))(m:HA)(E:St):St:={σ:=H4 l E.σ,m:=m,nx:=E.nx}
abbrev upM(l:List (Nat×AV))(E:St):St:={σ:=H4 l E.σ,m:=E.m,nx:=E.nx}
section
variable {P:Program}{f:FuncId}{fn:Func}
theorem UM(h:P.funcs[f]? =some fn)(h1:(fn.name== "runtime.NumGoroutine")=false:=by kernel_rfl)(h2:fn.body.isNone=false:=by kernel_rfl):Enters P f:=⟨fn,h,h1,h2⟩
abbrev G4:=Spec
theorem H0{avs:List AV}{res:AV}{t:VR RV}(hf:P.funcs[f]? =some fn)(ht:tZ P fn.results.toList (nD P [] [] (UB fn) 0 (HZ fn avs))=t)(h:t.sat (λr=>G6 r res))(hb:fn.body=some (UB fn):=by kernel_rfl)(GX:P.follows .mixedOrders=true:=by kernel_rfl):U2 P f avs res:=U6 (VP.nil _) GX hf hb U7 ht h
end
abbrev GZ{α:Type}(n:Nat)(f g:Nat->α):Prop:= ∀i,i<n->f i=g i
abbrev GV{α:Type}(n:Nat)(f:Nat->α):Prop:= ∀i,i<n->f i=f i
def eH(n:Nat):List Int:=List.replicate n 0
abbrev RY(n:Nat)(f:Ci):Prop:= ∀i,i<n-> ∀a,a∈f i->AV.one a=true
@[simp] abbrev UO (a b:Int):Prop:=0<=a/\a<b
theorem UW(f:Func)(h:f.body=some (UB f):=by kernel_rfl):f.body=some (UB f):=h
theorem DG{α:Type}{T t:VR α}{Q:α->Prop}(e:T=t)(h:t.sat Q):T.sat Q:=e▸h
section
variable {p:Prop}
theorem vM(h:p:=by
 with_reducible repeat' first|apply Al|intro _
 all_goals first|exact Ak|exact h0|exact VW|omega|exact hQ1 _ (by assumption) (Ww6 VO (by simp_all))|(rename_i k hk;rcases (show k=0\/k=1\/k=2 by omega) with rfl|rfl|rfl<;>rfl)|rfl|with_reducible rfl|exact hQ2 _ (by assumption) (PR VO)|(rename_i h;exact absurd h (Aq _))|exact hQ1 _ (by assumption)|(exfalso;omega)|exact dM (by simp_all) _ (by assumption)|assumption|exact wC (dM (by simp_all) _ (by assumption))|contradiction|exact hQ2 _ (by assumption)|(simp;done)|decide|exact wC (dM (decide_eq_true VO) _ (by assumption))):p:=h
theorem LN(h:p:=by first|exact Ak|omega|with_reducible rfl|(rename_i E hE;cases hE;exact hQ)|rfl):p:=h
theorem V2(h:p:=by
 simp only [VR.sat,UF,G6,GQ,UH,UK,DR];all_goals exact vM):p:=h
theorem V4(h:p:=by
 rw [if_pos hc];obtain ⟨rfl,rfl⟩:=hc;by_cases h1:x=o;subst h1;by_cases h2:y=x;subst h2;refine ⟨VO,VO,λ_=>VO,λ_=>VO,λ_ _=>VO,λ_=>VO⟩;refine ⟨VO,VO,λ_=>by have:=hoo.2.2.2.2.1 rfl rfl;omega,λh=>absurd h h2,λ_ h=>absurd h h2,λ_=>VO⟩
 by_cases h2:y=o;subst h2;refine ⟨VO,VO,λh=>absurd h h1,λ_=>by have:=hoo.2.2.2.2.1 rfl rfl;omega,λh=>absurd h h1,λ_=>VO⟩
 have q1:=hfo.2.2.2.1 rfl;have q2:=hot.2.2.1 rfl;refine ⟨VO,VO,λh=>absurd h h1,λh=>absurd h h2,λh=>absurd h h1,λ_=>VO⟩):p:=h
theorem V8(h:p:=by exact vM):p:=h
theorem VC(h:p:=by
 exact .lst _ _ _ λj hj x hx=>by
  simp only [GT,DO,or_false] at hx;rcases hx with rfl|rfl<;>exact .x _):p:=h
theorem VD(h:p:=by
 simp only [VR.sat,UF,G6,UH,UK,H6];simp+contextual):p:=h
theorem VE(h:p:=by
 simp only [VR.sat,UF,G6,GQ,UH,VQ,UK];omega):p:=h
theorem VF(h:p:=by
 simp only [VR.sat,UF,G6,GQ,UH,UK,VQ,DR]
 (with_reducible repeat' first|apply Al|intro _)
 all_goals first|exact Ak|omega|rfl|contradiction|trace_state):p:=h
theorem VG(h:p:=by
 (with_reducible repeat' first|apply Al|intro _)
 all_goals first|exact LN|(contradiction)):p:=h
theorem VI(h:p:=by
 (with_reducible repeat' first|apply Al|intro _)
 all_goals first|exact LN|(rename_i j hj;rcases (show j<k\/j=k by omega) with h3|h3;exact hx.2 j h3;subst h3;omega)):p:=h
theorem VK(h:p:=by
 (with_reducible repeat' first|apply Al|intro _)
 all_goals first|exact LN|(rename_i hs;exact hs.elim (λh=>sn1 _ h) (λh=>h▸sn2))):p:=h
theorem VN(h:p:=by
 exact .lst _ _ _ λk _ x hx=>by
  simp only [GT,DO,or_false] at hx;rcases hx with rfl|rfl|rfl|rfl|rfl<;>exact .x _):p:=h
end
end Go.Sx
namespace Go.Proofs.YtcdmhnaeifaikaaGreatDoor
noncomputable abbrev VU:Go.Program:=Tryz.prog
abbrev Ad:=Go.Sx.U0.of (Go.Sx.VV.nil VU) (Go.Sx.VS.nil VU)
abbrev Aa:=Go.Sx.VP.nil VU
abbrev Ab:=Go.Sx.VV.nil VU
abbrev Ac:=Go.Sx.VS.nil VU
abbrev Ae:=@Go.Sx.VP.cons
abbrev Af:=@Go.Sx.VV.cons
abbrev Ag:=@Go.Sx.VS.cons
abbrev Ah:=@Go.Sx.UJ.cons
abbrev Ai:=@Go.Sx.U0.of
abbrev Aj:=@Go.Sx.U0.ofC
end Go.Proofs.YtcdmhnaeifaikaaGreatDoor
namespace Go.Proofs.YtcdmhnaeifaikaaGreatDoor.Pt
open Go Go.Sx Go.RowKit
open Go.Sx.VR (need branch leaf)
open Go.Sx.AV (lst ptr agg roI tup top)
theorem U3:Tryz.prog.follows .mixedOrders=true:=VZ
abbrev i(n:Int):AV:= .x (.int .i64 n)
abbrev iI(n:Int):AV:= .x (.int .i64 n)
abbrev bl(b:Bool):AV:= .x (.bool b)
def bt(U n O:Int):Bool:=decide (U<=n)&&decide (n<=O)
def insB(U a b O:Int):Bool:=decide (U<=a)&&decide (a<=b)&&decide (b<=O)
theorem insB_iff(U a b O:Int):insB U a b O=true↔U<=a/\a<=b/\b<=O:=by simp [insB,and_assoc]
def scB(a b:Int):Bool:=bt (-1000) a 1000&&bt (-1000) b 1000&&(a != b)
def BT:G4
 |[.x (.int .i64 n),.x (.int .i64 U),.x (.int .i64 O)]=>some ([],bl (bt U n O))
 |_=>none
theorem xL(n U O:Int):U2 VU 226 [i n,i U,i O] (bl (bt U n O)):=by
 refine H0 Tryz.func226 (t:=branch (decide (U<=n)) (leaf (RV.x (.bool (decide (n<=O))))) (leaf (RV.x (.bool false)))) VZ ?_;simp only [VR.sat,UF,G6,GQ,UH,UK];all_goals (simp+contextual [bt,insB,scB,Bool.and_assoc]);all_goals omega
theorem RR:VT VU 226 BT:=by
 refine ⟨(UM Tryz.func226),?_⟩;intro avs ns Z h I;unfold BT at h;split at h;cases h;exact xL _ _ _;cases h
def BU:G4
 |[.agg [.x (.int .i64 a),.x (.int .i64 b)],.x (.int .i64 U),.x (.int .i64 O)]=>some ([],bl (insB U a b O))
 |_=>none
theorem z7(a b U O:Int):U2 VU 203 [.agg [i a,i b],i U,i O] (bl (insB U a b O)):=by
 refine H0 Tryz.func203 (t:=branch (decide (U<=a)) (branch (decide (a<=b)) (leaf (RV.x (.bool (decide (b<=O))))) (leaf (RV.x (.bool false)))) (leaf (RV.x (.bool false)))) VZ ?_;simp only [VR.sat,UF,G6,GQ,UH,UK];all_goals (simp+contextual [bt,insB,scB,Bool.and_assoc]);all_goals omega
theorem BA:VT VU 203 BU:=by
 refine ⟨(UM Tryz.func203),?_⟩;intro avs ns Z h I;unfold BU at h;split at h;cases h;exact z7 _ _ _ _;cases h
theorem mul_bd{x y X Y:Int}(hx: -X<=x/\x<=X)(hy: -Y<=y/\y<=Y): -(X*Y)<=x*y/\x*y<=X*Y:=by
 have h1:x.natAbs<=X.natAbs:=VO;have h2:y.natAbs<=Y.natAbs:=VO;have h3:(x*y).natAbs<=(X*Y).natAbs:=by rw [Int.natAbs_mul,Int.natAbs_mul];exact Nat.mul_le_mul h1 h2
 have h4:0<=X*Y:=Bz VO VO;omega
abbrev scs(n:Nat)(a b:Cg):AV:= .lst 2 n (λk=>[i (a k),i (b k)])
theorem isRec2(n:Nat)(a b:Cg):UL 2 n (λk=>[i (a k),i (b k)]):=λ_ _=>rfl
def col(j:Nat)(f:Ci):Cg:=λk=>Ws9 (f k) j
def CU(p q:Cg)(k:Nat):Bool:=bt 1 (p k) 2000&&(bt 1 (q k) 2000&&(decide (k=0)||(decide (p (k-1)<p k)&&decide (q (k-1)<q k))))
section
variable (n:Nat)
def zV(p q:Cg):Bool:=DH (CU p q) n
abbrev QS(p:Cg)(q:Cg):AV:=lst 2 n λk=>[iI (p k),iI (q k)]
def Xj9(p q:Cg):St:={σ:=[QS n p q]++HR 10 [QS n p q,iI (n:Int)]++HR 42 [],m:=[],nx:=10}
noncomputable def Kb7:Code:=UD (VX (UB Tryz.f202) 0)
def Wp5(p q:Cg)(k:Nat):St:=(upM [(13,i k)] (Xj9 n p q))
def uL(p q:Cg)(k:Nat):G8->Option St
 | .exit 0=>some (upM [] (Xj9 n p q))
 | .ret=>some (upM [(2,i 1)] (Xj9 n p q))
 |_=>none
def Jw6(p q:Cg):CT:= .branch (zV n p q) (.leaf (.exit 0,(uL n p q 0 (.exit 0)).getD (Xj9 n p q))) (.leaf (.ret,(uL n p q 0 .ret).getD (Xj9 n p q)))
def Zf3(p q:Cg):UN:=(HI (Wp5 n p q (0)) (Jw6 n p q))
abbrev JO(p:Cg)(q:Cg):Prop:=(QS n p q)=QS n p q
theorem Jj3(p q:Cg)(VW:n<=100000):GD VU (.loop Kb7) (Zf3 n p q):=by
 refine HO (L:=[]) (Ae RR Aa) U3 U7 (X:=Nat) (Wp5 n p q) (λk=>k<=n/\ ∀j,j<k->CU p q j=true) (λk=>n-k) (uL n p q) (x0:=0) ⟨VO,λj hj=>VO⟩ ?_ ?_ ?_;rintro k;kernel_rfl;rintro k y E h;unfold uL at h;split at h;cases h;kernel_rfl;cases h;kernel_rfl;cases h
 ·rintro Q hQ k hx;refine ⟨(k+1),?_⟩;(with_reducible refine DG (t:=let A:=(need [JO n p q,U4 (1:Int),JO n p q,U4 (n:Int)] (leaf G8.ret));let W:=(need [VQ ((k:Int)+1)] (need [JO n p q,JO n p q,U4 (n:Int),(k:Int)+1=(↑(k+1):Int)] (leaf G8.normal)));(branch (decide ((k:Int)<(n:Int))) (need [UO k n] (branch (!bt (1:Int) (p k) (2000:Int)) A (branch (!bt (1:Int) (q k) (2000:Int)) A (branch (decide ((k:Int)>0)) (need [VQ ((k:Int)-1)] (need [UO ((k:Int)-1) n] (branch (decide (p k<=p ((k:Int)-1).toNat)) A (need [VQ ((k:Int)-1)] (need [UO ((k:Int)-1) n] (branch (decide (q k<=q ((k:Int)-1).toNat)) A W)))))) W)))) (need [JO n p q,JO n p q,U4 (n:Int)] (leaf (G8.exit 0))))) VZ ?_);simp only [Jw6,uL,VR.sat,GW] at hQ;have Ww6:k<n->CU p q k=false->zV n p q=false:=by
   intro h1 h2;rw [←Bool.not_eq_true];intro h3;have:=H3.1 h3 k h1;rw [h2] at this;cases this
  have dM:CU p q k=true-> ∀j,j<k+1->CU p q j=true:=by
   intro h1 j hj;rcases (show j<k\/j=k by omega) with h|rfl
   exact hx.2 j h;exact h1
  have PR: ¬k<n->zV n p q=true:=λh=>H3.2 (λj hj=>hx.2 j VO);have hQ1: ∀E,uL n p q k .ret=some E->zV n p q=false->Q (.ret,E):=by
   intro E hE hf;cases hE;exact hQ.2 hf
  have hQ2: ∀E,uL n p q k (.exit 0)=some E->zV n p q=true->Q (.exit 0,E):=by
   intro E hE hf;cases hE;exact hQ.1 hf
  have t1:((k:Int)-1).toNat=k-1:=VO;have hsb:CU p q k=(bt 1 (p k) 2000&&(bt 1 (q k) 2000&&(decide (k=0)||(decide (p (k-1)<p k)&&decide (q (k-1)<q k))))):=rfl
  simp only [VR.sat,UF,UK,H6,VQ,DR,t1]
  with_reducible repeat' first|apply Al|intro _
  all_goals first|exact Ak|omega|exact hQ1 _ (by assumption) (Ww6 VO (by rw [hsb];grind))|exact hQ2 _ (by assumption) (PR VO)|exact dM (by rw [hsb];grind) _ (by assumption)
def tbE(p q:Cg):Int:=if 8<n then 3 else if n<2 then 1 else if zV n p q then 0 else 1
end
def Ql5:G4
 |[.lst 2 n f]=>some ([UL 2 n f,n<=100000],i (tbE n (col 0 f) (col 1 f)))
 |_=>none
abbrev K9:Value:=Value.int IntKind.i64 (0:Int)
theorem Wg3(n:Nat)(p q:Cg)(VW:n<=100000):U2 VU 202 [scs n p q] (i (tbE n p q)):=by
 refine U6 (L:=[Zf3 n p q]) (Ae RR Aa) U3 Tryz.func202 (UW Tryz.f202) (G0 (lpE (b:= .loop Kb7) VZ<|Jj3 n p q VW)) (t:=let A:=(leaf (RV.x (.int .i64 (1:Int))));(branch (decide ((n:Int)>8)) (leaf (RV.x (.int .i64 (3:Int)))) (branch (decide ((n:Int)<2)) A (need [JO n p q,JO n p q,U4 (n:Int),(0:Int)=((0:Nat):Int)] (branch (zV n p q) (leaf (RV.x (K9))) A))))) VZ ?_
 simp only [VR.sat,UF,G6,UH,UK,H6,tbE,Int.natCast_zero];refine ⟨λh=>?_,λh=>⟨λh2=>?_,λh2=>⟨λh3=>?_,λh3=>?_⟩⟩⟩;simp [show 8<n by omega]
 simp [show ¬8<n by omega,show n<2 by omega]
 simp [show ¬8<n by omega,show ¬n<2 by omega,h3]
 simp [show ¬8<n by omega,show ¬n<2 by omega,h3]
theorem Wg2:VT VU 202 Ql5:=by
 refine ⟨(UM Tryz.func202),?_⟩;intro avs ns Z h I;unfold Ql5 at h;split at h;rename_i n f;cases h;have hr:UL 2 n f:=I _ VY;exact (Wg3 n (col 0 f) (col 1 f) (I _ VY)).same (.cons (.lst 2 n _ _ hr) .nil);cases h
def RX(n:Nat)(p:Cg)(x:Int):Nat:=H2 (λk=>decide (x<=p (k+1))) (n-1)
def rJ(p q:Cg)(x:Int)(k:Nat):Int:=q k+((q (k+1)-q k)*(x-p k)).tdiv (p (k+1)-p k)
def boilI(n:Nat)(p q:Cg)(x:Int):Int:=rJ p q x (RX n p x)
theorem P3{n:Nat}{p q:Cg}(h:zV n p q=true){k:Nat}(hk:k<n):1<=p k/\p k<=2000/\1<=q k/\q k<=2000/\(k=0\/p (k-1)<p k/\q (k-1)<q k):=by
 have:=H3.1 h k hk;simp only [CU,bt,HF,Bl,vK] at this;omega
theorem CS{n:Nat}{p q:Cg}(h:zV n p q=true){j k:Nat}(hjk:j<=k)(hk:k<n):p j<=p k/\q j<=q k:=by
 induction k with
 |zero=>
      have:j=0:=VO;subst this;exact ⟨Int.le_refl _,Int.le_refl _⟩
 |succ k ih=>
  rcases (show j<=k\/j=k+1 by omega) with h1|rfl
  have:=ih h1 VO;have h2:=P3 h hk;simp only [Bi] at h2;omega;exact ⟨Int.le_refl _,Int.le_refl _⟩
theorem Zn6{n:Nat}{p:Cg}{x:Int}(I:2<=n)(hx:x<=p (n-1)):RX n p x<n-1:=by
 obtain ⟨h1,h2,h3⟩:=FA (λk=>decide (x<=p (k+1))) (n-1);unfold RX;rcases An (H2 (λk=>decide (x<=p (k+1))) (n-1)) (n-1) with h|h
 exact h;have:=h2 (n-2) VO;rw [show n-2+1=n-1 by omega] at this
 simp at this;omega
theorem catF1{k j:Nat}{a:Cg}{x:Int}(h:j<k+1)(hx:x=a k):GL k (λk=>[i (a k)]) (UA 1 [i x]) j=[i (a j)]:=by
 have e:j-k=0:=VO;show HJ (decide (j<k)) [i (a j)] (UA 1 [i x] (j-k))=_;rw [e];by_cases hj:j<k;rw [show decide (j<k)=true by simp [hj]]
 rfl;have hk:j=k:=VO;rw [show decide (j<k)=false by simp [hj],hk,hx]
 rfl
theorem Ju4(a b:Cg):col 0 (λk=>[i (a k),i (b k)])=a:=rfl
theorem Ju3(a b:Cg):col 1 (λk=>[i (a k),i (b k)])=b:=rfl
theorem E2{n:Nat}{p q:Cg}{x:Int}(I:2<=n)(ht:zV n p q=true)(hx:p 0<=x/\x<=p (n-1)):RX n p x<n-1/\p (RX n p x)<=x/\x<=p (RX n p x+1):=by
 have h1:=Zn6 I hx.2;obtain ⟨f1,f2,f3⟩:=FA (λk=>decide (x<=p (k+1))) (n-1);have h3:=f3 h1;refine ⟨h1,?_,wC h3⟩;rcases Nat.eq_zero_or_pos (RX n p x) with h|h;rw [h];exact hx.1;have:=f2 (RX n p x-1) (by unfold RX at h ⊢;omega)
 rw [show RX n p x-1+1=RX n p x by omega] at this
 simp at this;omega
theorem rI{p q:Cg}{x:Int}{k:Nat}(hp:p k<p (k+1))(hq:q k<q (k+1))(h1:p k<=x)(h2:x<=p (k+1)):rJ p q x k=q k+(q (k+1)-q k)*(x-p k) / (p (k+1)-p k)/\q k<=rJ p q x k/\rJ p q x k<=q (k+1):=by
 have m0:0<=(q (k+1)-q k)*(x-p k):=Bz VO VO;have e:rJ p q x k=q k+(q (k+1)-q k)*(x-p k) / (p (k+1)-p k):=by
  unfold rJ;rw [Int.tdiv_eq_ediv_of_nonneg m0]
 have m1:(q (k+1)-q k)*(x-p k)<=(q (k+1)-q k)*(p (k+1)-p k):=Int.mul_le_mul_of_nonneg_left VO VO;have d0:0<=(q (k+1)-q k)*(x-p k) / (p (k+1)-p k):=Int.ediv_nonneg m0 VO;have d1:(q (k+1)-q k)*(x-p k) / (p (k+1)-p k)<=q (k+1)-q k:=Int.ediv_le_of_le_mul VO m1;rw [e];omega
theorem Wh4{n:Nat}{p:Cg}{x y:Int}(h:x<=y):RX n p x<=RX n p y:=by
 obtain ⟨f1,f2,f3⟩:=FA (λk=>decide (x<=p (k+1))) (n-1);obtain ⟨g1,g2,g3⟩:=FA (λk=>decide (y<=p (k+1))) (n-1);unfold RX;rcases An (H2 (λk=>decide (y<=p (k+1))) (n-1)) (H2 (λk=>decide (x<=p (k+1))) (n-1)) with hl|hl
 have a1:=f2 _ hl;have a2:=g3 VO;simp at a1 a2;omega;exact hl
theorem boil_spec{n:Nat}{p q:Cg}{x:Int}(I:2<=n)(ht:zV n p q=true)(hx:p 0<=x/\x<=p (n-1)):q 0<=boilI n p q x/\boilI n p q x<=q (n-1)/\1<=boilI n p q x/\boilI n p q x<=2000:=by
 obtain ⟨h1,h2,h3⟩:=E2 I ht hx;have s:=P3 ht (show RX n p x+1<n by omega)
 simp only [Bi] at s;have b:=rI (p:=p) (q:=q) (x:=x) (k:=RX n p x) VO VO h2 h3;have m1:=CS ht (show 0<=RX n p x by omega) (show RX n p x<n by omega)
 have m2:=CS ht (show RX n p x+1<=n-1 by omega) (show n-1<n by omega)
 have z:=P3 ht (show 0<n by omega)
 have z2:=P3 ht (show n-1<n by omega)
 unfold boilI;omega
theorem boil_mono{n:Nat}{p q:Cg}{x y:Int}(I:2<=n)(ht:zV n p q=true)(hx:p 0<=x)(hxy:x<=y)(hy:y<=p (n-1)):boilI n p q x<=boilI n p q y:=by
 obtain ⟨h1,h2,h3⟩:=E2 I ht (x:=x) VO;obtain ⟨g1,g2,g3⟩:=E2 I ht (x:=y) VO;have s:=P3 ht (show RX n p x+1<n by omega)
 have s':=P3 ht (show RX n p y+1<n by omega)
 simp only [Bi] at s s';have b:=rI (p:=p) (q:=q) (x:=x) (k:=RX n p x) VO VO h2 h3;have b':=rI (p:=p) (q:=q) (x:=y) (k:=RX n p y) VO VO g2 g3;have hm:=Wh4 (n:=n) (p:=p) hxy;unfold boilI;rcases An (RX n p x) (RX n p y) with hl|hl;have m:=CS ht (show RX n p x+1<=RX n p y by omega) (show RX n p y<n by omega)
 omega;have e:RX n p x=RX n p y:=VO;rw [b.1,b'.1,e];rw [e] at s;have:=Int.ediv_le_ediv (show 0<p (RX n p y+1)-p (RX n p y) by omega) (Int.mul_le_mul_of_nonneg_left (show x-p (RX n p y)<=y-p (RX n p y) by omega) (show 0<=q (RX n p y+1)-q (RX n p y) by omega))
 omega
def cP:G4
 |[.lst 2 n f]=>some ([],.fn (.func 240) [] [.ro [.lst 2 n f]])
 |_=>none
theorem Wg9(n:Nat)(f:Ci):FJ VU 227 [.lst 2 n f] (.fn (.func 240) [] [.ro [.lst 2 n f]]):=by
 refine D6 (L:=[]) Aa Ad U3 Tryz.func227 (UW Tryz.f227) G9 (t:=leaf (AV.fn (Fn.func 240) [] [AV.ro [lst 2 n λa=>f a]])) VZ ?_;exact rfl
theorem OV:PE VU 227 cP:=by
 refine ⟨(UM Tryz.func227),?_⟩;intro avs ns Z h I;unfold cP at h;split at h;cases h;exact Wg9 _ _;cases h
def stV(p q:Cg)(k:Nat):Value:= .agg #[.int .i64 (p k),.int .i64 (q k)]
def spV(p q:Cg)(k:Nat):List Value:=[stV p q k,stV p q (k+1)]
section
variable (l:Nat)
abbrev KY:AV:=AV.fn (Fn.yield l) [] []
def Xk0(n:Nat)(p q:Cg):St:={σ:=[KY l,AV.ro [QS n p q],top,top,top,top,lst 2 (n-(1:Int).toNat) λi=>[iI (p ((1:Int).toNat+i)),iI (q ((1:Int).toNat+i))],iI (↑(n-(1:Int).toNat):Int)]++HR 14 [],m:=[],nx:=4,gh:=some 0}
noncomputable def Jd8:Code:=UD (VX (UB Tryz.f240) 0)
def bM(n:Nat)(p q:Cg)(k:Nat):St:={σ:=H4 [(8,i k)] (Xk0 l n p q).σ,m:=[],nx:=0,gh:=some (k) }
def kL(n:Nat)(p q:Cg)(k:Nat):G8->Option St
 | .exit 0=>some {σ:=H4 [] (Xk0 l n p q).σ,m:=[],nx:=0,gh:=some (n-1) }
 | .ret=>some {σ:=H4 [] (Xk0 l n p q).σ,m:=[],nx:=0,gh:=none}
 |_=>none
def Jw8(n:Nat)(p q:Cg):CT:= .may True (.leaf (.exit 0,(kL l n p q 0 (.exit 0)).getD (Xk0 l n p q))) (.leaf (.ret,(kL l n p q 0 .ret).getD (Xk0 l n p q)))
def Zf5(n:Nat)(p q:Cg):UN:=GO [] (HI (bM l n p q (0)) (Jw8 l n p q))
theorem Jj6(n:Nat)(p q:Cg)(VW:1<=n/\n<=100000){cx:Cx}(hX:U0 VU {Y:=some (l,(n-1),(spV p q)) } cx):HQ VU none cx (.loop Jd8) (Zf5 l n p q):=by
 refine F7 [] (L:=[]) Aa hX U3 G9 (V:=Nat) (bM l n p q) (λk=>k<=n-1) (λk=>n-k) (kL l n p q) (x0:=0) VY ?_ ?_ ?_;rintro k;kernel_rfl;rintro k y E h;unfold kL at h;split at h;cases h;kernel_rfl;cases h;kernel_rfl;cases h
 ·rintro Q hQ k hx;refine ⟨(k+1),?_⟩;have e:HW VU [] {Y:=some (l,(n-1),(spV p q)) } [] [] Jd8 (bM l n p q k) (bM l n p q ((k+1))) (kL l n p q k)=(let A:=(U4 (lst 2 (n-(1:Int).toNat) λi=>[iI (p ((1:Int).toNat+i)),iI (q ((1:Int).toNat+i))]));let W:=(U4 (↑(n-(1:Int).toNat):Int));(branch (decide ((k:Int)<(↑(n-(1:Int).toNat):Int))) (need [UO k (↑(n-(1:Int).toNat):Int)] (need [UO k n] (need [l=l,k<n-1,[Value.agg {toList:=[Value.int IntKind.i64 (p k),Value.int IntKind.i64 (q k)] },Value.agg {toList:=[Value.int IntKind.i64 (p ((1:Int).toNat+k)),Value.int IntKind.i64 (q ((1:Int).toNat+k))] }]=[Value.agg {toList:=[Value.int IntKind.i64 (p k),Value.int IntKind.i64 (q k)] },Value.agg {toList:=[Value.int IntKind.i64 (p (k+1)),Value.int IntKind.i64 (q (k+1))] }]] (VR.may True (need [VQ ((k:Int)+1)] (need [KY l=KY l,U4 (AV.ro [QS n p q]),A,W,(k:Int)+1=(↑(k+1):Int),k+1=k+1] (leaf G8.normal))) (need [KY l=KY l,U4 (AV.ro [QS n p q]),A,W] (leaf G8.ret)))))) (need [KY l=KY l,U4 (AV.ro [QS n p q]),A,W,k=n-1] (leaf (G8.exit 0))))):=VZ;rw [e];simp only [Jw8,kL,VR.sat,GW] at hQ;have hQ1: ∀E,kL l n p q k (.exit 0)=some E->Q (.exit 0,E):=λE hE=>by cases hE;exact hQ.1 trivial
  have hQ2: ∀E,kL l n p q k .ret=some E->Q (.ret,E):=λE hE=>by cases hE;exact hQ.2
  have t1:(1:Int).toNat=1:=rfl;have t2:1+k=k+1:=VO;simp only [VR.sat,UF,UK,H6,VQ,DR,t1,t2];clear e hQ;all_goals exact V8
end
section
variable (n:Nat)
theorem pJ(p q:Cg)(VW:1<=n/\n<=100000):PZ Tryz.prog 240 [.ro [scs n p q]] ((n-1)) (spV p q):=by
 refine PM (L:=λl=>[Zf5 l n p q]) Aa U3 (UM Tryz.func240) Tryz.func240 (UW Tryz.f240) VZ (λl cx hX=>G0 (lpE (b:= .loop Jd8) VZ<|Jj6 l n p q VW hX)) (t:=λl=>(need [(0:Int)<=1/\(1:Int)<=(n:Int)/\(n:Int)<=(n:Int)] (need [U4 (AV.fn (Fn.yield l) [] []),U4 (AV.ro [QS n p q]),U4 (lst 2 (n-(1:Int).toNat) λi=>[iI (p ((1:Int).toNat+i)),iI (q ((1:Int).toNat+i))]),U4 (↑(n-(1:Int).toNat):Int),(0:Int)=((0:Nat):Int),0=0] (VR.may True (need [n-1=n-1] (leaf PUnit.unit)) (leaf PUnit.unit))))) (λl=>VZ) ?_
 intro l;simp only [VR.sat,UF,G6,GQ,UH,VQ,UK,H6,FW];all_goals exact V8
abbrev K1(p:Cg)(q:Cg):AV:=AV.fn (Fn.func 240) [] [AV.ro [QS n p q]]
def Qe3(p q:Cg)(y:Int):St:={σ:=[QS n p q,iI y,top,ptr 0 0,ptr 1 0,top,top,top,K1 n p q]++HR 25 [],m:=[(1,GU.cells 3 [iI 0]),(0,GU.cells 3 [iI y])],nx:=4}
def rfF:Option Code->Operand
 |some (.rangeFunc f _ _ _)=>f
 |_=> .const .nilFunc
def xS:Option Code->Array Nat
 |some (.rangeFunc _ ps _ _)=>ps
 |_=>#[]
def NW:Option Code->Code
 |some (.rangeFunc _ _ a _)=>a
 |_=> .skip
def NV:Option Code->Code
 |some (.rangeFunc _ _ _ b)=>b
 |_=> .skip
noncomputable def Je8:Code:=NW (VX (UB Tryz.f204) 0)
noncomputable def Wa9:Code:=NV (VX (UB Tryz.f204) 0)
def uU(p q:Cg)(y:Int)(k:Nat):St:=(upM [] (Qe3 n p q y))
def B7(p q:Cg)(y:Int)(k:Nat):G8->Option St
 | .ret=>some (upE [] [(1,.cells 3 [i (boilI n p q y)])] (Qe3 n p q y))
 |_=>none
def Xe8(p q:Cg)(y:Int):CT:= .leaf (.ret,(B7 n p q y 0 .ret).getD (Qe3 n p q y))
def oQ(p q:Cg)(y:Int):UN:=GO [] (HI (uU n p q y (0)) (Xe8 n p q y))
abbrev YY:Ext:={R:=[(227,cP)],H:=[] }
theorem Jv0(p q:Cg)(y:Int)(VW:2<=n/\n<=100000)(UG:zV n p q=true)(HX: -100000<=y/\y<=p (n-1)):HU VU (.rangeFunc (rfF (VX (UB Tryz.f204) 0)) (xS (VX (UB Tryz.f204) 0)) Je8 Wa9) (oQ n p q y):=by
 refine LQ [] (L:=[]) Aa (Ai (Af OV Ab) Ac) U3 U7 (V:=Nat) (uU n p q y) (λk=>k<=n-1/\ ∀j,j<k->decide (y<=p (j+1))=false) (λk=>k) (B7 n p q y) (x0:=0) ⟨VO,λj hj=>VO⟩ rfl ?_ ?_ ?_ ?_ (g:=240) (caps:=[.ro [scs n p q]]) VZ VZ (pJ n p q VO) (λ_=>rfl) ?_;rintro k;kernel_rfl;rintro k y E h;unfold B7 at h;split at h;cases h;kernel_rfl;cases h;rintro k;rfl;rintro k y E h;unfold B7 at h;split at h;cases h;rfl;cases h;rintro Q hQ k hx;refine ⟨λhlt=>⟨(k+1),rfl,?_⟩,λPR=>?_⟩;have e:fH VU [] YY [] [] (xS (VX (UB Tryz.f204) 0)).toList ((spV p q) (k)) Je8 Wa9 (uU n p q y k) (uU n p q y ((k+1))) (B7 n p q y k)=(branch (decide (y<=p (k+1))) (need [VQ (q (k+1)-q k)] (need [VQ (y-p k)] (need [VQ ((q (k+1)-q k)*(y-p k))] (need [VQ (p (k+1)-p k)] (need [p (k+1)-p k≠0,VQ (Int.tdiv ((q (k+1)-q k)*(y-p k)) (p (k+1)-p k))] (need [VQ (q k+Int.tdiv ((q (k+1)-q k)*(y-p k)) (p (k+1)-p k))] (need [JO n p q,y=y,U4 (ptr 0 0),U4 (ptr 1 0),U4 (K1 n p q),q k+Int.tdiv ((q (k+1)-q k)*(y-p k)) (p (k+1)-p k)=boilI n p q y] (leaf G8.ret)))))))) (need [JO n p q,y=y,U4 (ptr 0 0),U4 (ptr 1 0),U4 (K1 n p q),U4 (0:Int),y=y] (leaf G8.normal))):=VZ;rw [e];simp only [Xe8,B7,VR.sat,GW] at hQ;have hQ2: ∀E,B7 n p q y k .ret=some E->Q (.ret,E):=λE hE=>by cases hE;exact hQ
 simp only [VR.sat,UF,UK,H6,VQ];clear e hQ;have sl:=P3 UG (show n-1<n by omega)
 have s0:=P3 UG (show k<n by omega)
 have s1:=P3 UG (show k+1<n by omega)
 simp only [Bi] at s1;have m:=mul_bd (x:=q (k+1)-q k) (y:=y-p k) (X:=2000) (Y:=200000) VO VO;have dv:(((q (k+1)-q k)*(y-p k)).tdiv (p (k+1)-p k)).natAbs<=((q (k+1)-q k)*(y-p k)).natAbs:=by
  rw [Int.natAbs_tdiv];exact Nat.div_le_self _ _
 refine ⟨λh=>?_,λh=>?_⟩
 ·have hf:RX n p y=k:=jJ hlt (by simpa using h) hx.2
  have hbo:boilI n p q y=q k+((q (k+1)-q k)*(y-p k)).tdiv (p (k+1)-p k):=by unfold boilI;rw [hf];rfl
  rw [hbo];all_goals exact V8
 refine ⟨VO,λj hj=>?_⟩;rcases (show j<k\/j=k by omega) with h1|rfl
 have:=hx.2 j h1;simpa using this;exact h;exfalso;have:=hx.2 (n-2) VO;rw [show n-2+1=n-1 by omega] at this
 simp at this;omega
theorem Xu8(p q:Cg)(y:Int)(VW:2<=n/\n<=100000)(UG:zV n p q=true)(HX: -100000<=y/\y<=p (n-1)):U2 VU 204 [scs n p q,i y] (i (boilI n p q y)):=by
 refine G7 (L:=[oQ n p q y]) Aa (Ai (Af OV Ab) Ac) U3 Tryz.func204 (UW Tryz.f204) (G0 (lpE (b:= .rangeFunc (rfF (VX (UB Tryz.f204) 0)) (xS (VX (UB Tryz.f204) 0)) Je8 Wa9) VZ<|Jv0 n p q y VW UG HX)) (t:=need [JO n p q,y=y,U4 (ptr 0 0),U4 (ptr 1 0),U4 (K1 n p q),U4 (0:Int),y=y] (leaf (RV.x (.int .i64 (boilI n p q y))))) VZ ?_
 simp only [VR.sat,UF,G6,GQ,UH,VQ,UK];all_goals first|omega|grind
end
def Xf6:G4
 |[.lst 2 n f,.x (.int .i64 y)]=>some ([UL 2 n f,2<=n/\n<=100000,zV n (col 0 f) (col 1 f)=true,-100000<=y/\y<=col 0 f (n-1)],i (boilI n (col 0 f) (col 1 f) y))
 |_=>none
theorem Xu7:VT VU 204 Xf6:=by
 refine ⟨(UM Tryz.func204),?_⟩;intro avs ns Z h I;unfold Xf6 at h;split at h;rename_i n f y;cases h;have hr:UL 2 n f:=I _ VY;exact (Xu8 n (col 0 f) (col 1 f) y (I _ VY) (I _ VY) (I _ VY)).same (.cons (.lst 2 n _ _ hr) (.cons (.refl _) .nil));cases h
section
variable (n:Nat)(p q:Cg)(U O:Int)
def blE:Int:=if tbE n p q=0 then (if insB (p 0) U O (p (n-1)) then 0 else 2) else tbE n p q
def blLo:Int:=if blE n p q U O=0 then boilI n p q U else 0
def blHi:Int:=if blE n p q U O=0 then boilI n p q O else 0
end
theorem Wg1{n:Nat}{p q:Cg}(h:tbE n p q=0):2<=n/\n<=8/\zV n p q=true:=by
 unfold tbE at h;split at h;omega;split at h;omega;split at h;rename_i h3;exact ⟨VO,VO,h3⟩;omega
theorem Xl0(n:Nat)(p q:Cg)(U O:Int)(VW:n<=100000):U2 VU 170 [scs n p q,.agg [i U,i O]] (.tup [.agg [i (blLo n p q U O),i (blHi n p q U O)],i (blE n p q U O)]):=by
 refine U6 (L:=[]) (Ae Wg2 (Ae BA (Ae Xu7 Aa))) U3 Tryz.func170 (UW Tryz.f170) U7 (t:=need [UL 2 n λk=>[i (p k),i (q k)],n<=100000] (branch (tbE n p q != 0) (leaf (RV.tup [RV.agg [RV.x (K9),RV.x (K9)],RV.x (.int .i64 (tbE n p q))])) (need [UO 0 n] (need [VQ ((n:Int)-1)] (need [UO ((n:Int)-1) n] (branch (!insB (p (0:Int).toNat) U O (p ((n:Int)-1).toNat)) (leaf (RV.tup [RV.agg [RV.x (K9),RV.x (K9)],RV.x (.int .i64 (2:Int))])) (need [UL 2 n λk=>[i (p k),i (q k)],2<=n/\n<=100000,zV n p q=true,(-100000:Int)<=U/\U<=p (n-1)] (need [UL 2 n λk=>[i (p k),i (q k)],2<=n/\n<=100000,zV n p q=true,(-100000:Int)<=O/\O<=p (n-1)] (leaf (RV.tup [RV.agg [RV.x (.int .i64 (boilI n p q U)),RV.x (.int .i64 (boilI n p q O))],RV.x (K9)])))))))))) VZ ?_;simp only [VR.sat,UF,G6,GQ,UH,UK,Ju4,Ju3,VQ,show (0:Int).toNat=0 from rfl];refine ⟨⟨isRec2 n p q,VW⟩,λh=>?_,λh=>?_⟩;have h':tbE n p q≠0:=by simpa using h
 simp [blLo,blHi,blE,h'];have h':tbE n p q=0:=by simpa using h
 obtain ⟨t1,t2,t3⟩:=Wg1 h';have e1:((n:Int)-1).toNat=n-1:=VO;have s0:=P3 t3 (show 0<n by omega)
 simp only [e1];refine ⟨VO,VO,VO,λh2=>?_,λh2=>?_⟩;have h2':insB (p 0) U O (p (n-1))=false:=by simpa using h2
 simp [blLo,blHi,blE,h',h2'];have h2':insB (p 0) U O (p (n-1))=true:=by simpa using h2
 have b:=(insB_iff _ _ _ _).1 h2';refine ⟨⟨isRec2 n p q,VO,t3,VO⟩,⟨isRec2 n p q,VO,t3,VO⟩,?_⟩;simp [blLo,blHi,blE,h',h2']
def Qn5:G4
 |[.lst 2 n f,.agg [.x (.int .i64 U),.x (.int .i64 O)]]=>some ([UL 2 n f,n<=100000],.tup [.agg [i (blLo n (col 0 f) (col 1 f) U O),i (blHi n (col 0 f) (col 1 f) U O)],i (blE n (col 0 f) (col 1 f) U O)])
 |_=>none
theorem blE_ok{n:Nat}{p q:Cg}{U O:Int}(h:blE n p q U O=0):2<=n/\n<=8/\zV n p q=true/\p 0<=U/\U<=O/\O<=p (n-1):=by
 unfold blE at h;split at h;rename_i h1;obtain ⟨t1,t2,t3⟩:=Wg1 h1;split at h;rename_i h2;have:=(insB_iff _ _ _ _).1 h2;exact ⟨t1,t2,t3,this⟩;omega;contradiction
theorem Boils_ok:VT VU 170 Qn5:=by
 refine ⟨(UM Tryz.func170),?_⟩;intro avs ns Z h I;unfold Qn5 at h;split at h;rename_i n f U O;cases h;have hr:UL 2 n f:=I _ VY;exact (Xl0 n (col 0 f) (col 1 f) U O (I _ VY)).same (.cons (.lst 2 n _ _ hr) (.cons (.refl _) .nil));cases h
end Go.Proofs.YtcdmhnaeifaikaaGreatDoor.Pt
namespace Go.Proofs.YtcdmhnaeifaikaaGreatDoor.Bo
open Go Go.Sx Go.RowKit Go.ChangeShapes Go.WideShapes Go.ChangeAt
open Go.Sx.VR (need branch leaf)
open Go.Sx.AV (lst ptr agg roI tup top)
theorem U3:Tryz.prog.follows .mixedOrders=true:=VZ
abbrev i(n:Int):AV:= .x (.int .i64 n)
abbrev iI(n:Int):AV:= .x (.int .i64 n)
abbrev bl(b:Bool):AV:= .x (.bool b)
def bt(U n O:Int):Bool:=decide (U<=n)&&decide (n<=O)
theorem bt_iff(U n O:Int):bt U n O=true↔U<=n/\n<=O:=by simp [bt]
def insB(U a b O:Int):Bool:=decide (U<=a)&&decide (a<=b)&&decide (b<=O)
theorem insB_iff(U a b O:Int):insB U a b O=true↔U<=a/\a<=b/\b<=O:=by simp [insB,and_assoc]
def qQ(c T U O:Int):Bool:=bt 1 c 10&&insB 1 U O 200&&bt 1 T 2000&&bt (c*U) T (c*O)
def rdB(c a b u v:Int):Bool:=bt 0 a (c-1)&&bt a b c&&insB 0 u v 2000
def BT:G4
 |[.x (.int .i64 n),.x (.int .i64 U),.x (.int .i64 O)]=>some ([],bl (bt U n O))
 |_=>none
abbrev YG:Value:=Value.bool false
theorem xL(n U O:Int):U2 VU 205 [i n,i U,i O] (bl (bt U n O)):=by
 refine H0 Tryz.func205 (t:=branch (decide (U<=n)) (leaf (RV.x (.bool (decide (n<=O))))) (leaf (RV.x (YG)))) VZ ?_;simp only [VR.sat,UF,G6,GQ,UH,UK];all_goals (simp+contextual [bt,insB,Bool.and_assoc]);all_goals omega
theorem RR:VT VU 205 BT:=by
 refine ⟨(UM Tryz.func205),?_⟩;intro avs ns Z h I;unfold BT at h;split at h;cases h;exact xL _ _ _;cases h
def BU:G4
 |[.agg [.x (.int .i64 a),.x (.int .i64 b)],.x (.int .i64 U),.x (.int .i64 O)]=>some ([],bl (insB U a b O))
 |_=>none
theorem z7(a b U O:Int):U2 VU 206 [.agg [i a,i b],i U,i O] (bl (insB U a b O)):=by
 refine H0 Tryz.func206 (t:=branch (decide (U<=a)) (branch (decide (a<=b)) (leaf (RV.x (.bool (decide (b<=O))))) (leaf (RV.x (YG)))) (leaf (RV.x (YG)))) VZ ?_;simp only [VR.sat,UF,G6,GQ,UH,UK];all_goals (simp+contextual [bt,insB,Bool.and_assoc]);all_goals omega
theorem BA:VT VU 206 BU:=by
 refine ⟨(UM Tryz.func206),?_⟩;intro avs ns Z h I;unfold BU at h;split at h;cases h;exact z7 _ _ _ _;cases h
theorem mul_bd{x y X Y:Int}(hx: -X<=x/\x<=X)(hy: -Y<=y/\y<=Y): -(X*Y)<=x*y/\x*y<=X*Y:=by
 have h1:=Bz (show 0<=X-x by omega) (show 0<=Y-y by omega)
 have h2:=Bz (show 0<=X+x by omega) (show 0<=Y+y by omega)
 have h3:=Bz (show 0<=X-x by omega) (show 0<=Y+y by omega)
 have h4:=Bz (show 0<=X+x by omega) (show 0<=Y-y by omega)
 rw [Int.sub_mul,Int.mul_sub,Int.mul_sub] at h1;rw [Int.add_mul,Int.mul_add,Int.mul_add] at h2;rw [Int.sub_mul,Int.mul_add,Int.mul_add] at h3;rw [Int.add_mul,Int.mul_sub,Int.mul_sub] at h4;omega
def AH:G4
 |[.agg [.x (.int .i64 c),.x (.int .i64 T),.x (.int .i64 U),.x (.int .i64 O)]]=>some ([],i (if qQ c T U O then 0 else 1))
 |_=>none
abbrev JT:Value:=Value.int IntKind.i64 (0:Int)
abbrev YE:Value:=Value.int IntKind.i64 (1:Int)
theorem e9(c T U O:Int):U2 VU 171 [.agg [i c,i T,i U,i O]] (i (if qQ c T U O then 0 else 1)):=by
 refine U6 (L:=[]) (Ae RR (Ae BA Aa)) U3 Tryz.func171 (UW Tryz.f171) U7 (t:=branch (!bt (1:Int) c (10:Int)) (leaf (RV.x (YE))) (branch (!insB (1:Int) U O (200:Int)) (leaf (RV.x (YE))) (branch (!bt (1:Int) T (2000:Int)) (leaf (RV.x (YE))) (need [VQ (c*U)] (need [VQ (c*O)] (branch (!bt (c*U) T (c*O)) (leaf (RV.x (YE))) (leaf (RV.x (JT))))))))) VZ ?_;simp only [VR.sat,UF,G6,UH,UK,VQ,qQ];rcases Bool.eq_false_or_eq_true (bt 1 c 10) with h1|h1
 rotate_left
 simp [h1];rcases Bool.eq_false_or_eq_true (insB 1 U O 200) with h2|h2
 rotate_left
 simp [h1,h2];rcases Bool.eq_false_or_eq_true (bt 1 T 2000) with h3|h3
 rotate_left
 simp [h1,h2,h3];have e1:=(bt_iff _ _ _).1 h1;have e2:=(insB_iff _ _ _ _).1 h2;have m1:=mul_bd (x:=c) (y:=U) (X:=10) (Y:=200) VO VO;have m2:=mul_bd (x:=c) (y:=O) (X:=10) (Y:=200) VO VO;rcases Bool.eq_false_or_eq_true (bt (c*U) T (c*O)) with h4|h4<;>simp [h1,h2,h3,h4]<;>omega
theorem CheckTube_ok:VT VU 171 AH:=by
 refine ⟨(UM Tryz.func171),?_⟩;intro avs ns Z h I;unfold AH at h;split at h;cases h;exact e9 _ _ _ _;cases h
def TM:G4
 |[.agg [.x (.int .i64 c),.x (.int .i64 T),.x (.int .i64 U),.x (.int .i64 O)],.agg [.x (.int .i64 a),.x (.int .i64 b),.x (.int .i64 u),.x (.int .i64 v)]]=>some ([1<=c/\c<=10],bl (rdB c a b u v))
 |_=>none
theorem pW(c T U O a b u v:Int)(VW:1<=c/\c<=10):U2 VU 228 [.agg [i c,i T,i U,i O],.agg [i a,i b,i u,i v]] (bl (rdB c a b u v)):=by
 refine U6 (L:=[]) (Ae RR (Ae BA Aa)) U3 Tryz.func228 (UW Tryz.f228) U7 (t:=need [VQ (c-1)] (branch (bt (0:Int) a (c-1)) (branch (bt a b c) (leaf (RV.x (.bool (insB (0:Int) u v (2000:Int))))) (leaf (RV.x (YG)))) (leaf (RV.x (YG))))) VZ ?_;simp only [VR.sat,UF,G6,UH,UK,VQ,rdB];refine ⟨VO,?_⟩;cases h1:bt 0 a (c-1)<;>cases h2:bt a b c<;>cases h3:insB 0 u v 2000<;>simp
theorem pV:VT VU 228 TM:=by
 refine ⟨(UM Tryz.func228),?_⟩;intro avs ns Z h I;unfold TM at h;split at h;cases h;exact pW _ _ _ _ _ _ _ _ (I _ VY);cases h
open Go Go.Sx Go.RowKit
theorem Xn1(a b:Int):U2 VU 125 [.lst 1 2 (λk=>[i (if k=0 then a else b)])] (i (min a b)):=by
 refine U6 (L:=[λs=>some (zT Tryz.prog [] [] (UD (VX (UB Tryz.f125) 0)) 3 s)]) Aa U3 Tryz.func125 (UW Tryz.f125) (G0 (lpE (b:= .loop (UD (VX (UB Tryz.f125) 0))) VZ<|LM Aa U3 U7 _)) (t:=let A:=(min (if (0:Int).toNat=0 then a else b) (if (1:Int).toNat=0 then a else b));(branch (decide (((2:Nat):Int)<1)) VR.fail (need [UO 0 2] (branch (decide ((1:Int)<((2:Nat):Int))) (need [UO 1 2] (need [VQ ((1:Int)+1)] (branch (decide ((1:Int)+1<((2:Nat):Int))) (need [(0:Int)<=1+1/\(1:Int)+1<((2:Nat):Int)] (need [VQ ((1:Int)+1+1)] (branch (decide ((1:Int)+1+1<((2:Nat):Int))) (need [(0:Int)<=1+1+1/\(1:Int)+1+1<((2:Nat):Int)] (need [VQ ((1:Int)+1+1+1)] VR.fail)) (leaf (RV.x (.int .i64 (min A (if ((1:Int)+1).toNat=0 then a else b)))))))) (leaf (RV.x (.int .i64 A)))))) (leaf (RV.x (.int .i64 (if (0:Int).toNat=0 then a else b)))))))) VZ ?_
 simp [VR.sat,UF,G6,GQ,UH,VQ]
theorem Xn2(a b:Int):U2 VU 126 [.lst 1 2 (λk=>[i (if k=0 then a else b)])] (i (max a b)):=by
 refine U6 (L:=[λs=>some (zT Tryz.prog [] [] (UD (VX (UB Tryz.f126) 0)) 3 s)]) Aa U3 Tryz.func126 (UW Tryz.f126) (G0 (lpE (b:= .loop (UD (VX (UB Tryz.f126) 0))) VZ<|LM Aa U3 U7 _)) (t:=let A:=(max (if (0:Int).toNat=0 then a else b) (if (1:Int).toNat=0 then a else b));(branch (decide (((2:Nat):Int)<1)) VR.fail (need [UO 0 2] (branch (decide ((1:Int)<((2:Nat):Int))) (need [UO 1 2] (need [VQ ((1:Int)+1)] (branch (decide ((1:Int)+1<((2:Nat):Int))) (need [(0:Int)<=1+1/\(1:Int)+1<((2:Nat):Int)] (need [VQ ((1:Int)+1+1)] (branch (decide ((1:Int)+1+1<((2:Nat):Int))) (need [(0:Int)<=1+1+1/\(1:Int)+1+1<((2:Nat):Int)] (need [VQ ((1:Int)+1+1+1)] VR.fail)) (leaf (RV.x (.int .i64 (max A (if ((1:Int)+1).toNat=0 then a else b)))))))) (leaf (RV.x (.int .i64 A)))))) (leaf (RV.x (.int .i64 (if (0:Int).toNat=0 then a else b)))))))) VZ ?_
 simp [VR.sat,UF,G6,GQ,UH,VQ]
def yH:G4
 |[.lst 1 2 f]=>(match f 0,f 1 with
  |[.x (.int .i64 a)],[.x (.int .i64 b)]=>some ([],i (min a b))
  |_,_=>none)
 |_=>none
theorem aG:VT VU 125 yH:=by
 refine ⟨(UM Tryz.func125),?_⟩;intro avs ns Z h I;unfold yH at h;split at h;rename_i f;split at h;rename_i a b h0 h1;cases h;refine (Xn1 a b).same (.cons (.lst 1 2 _ _ ?_) .nil);intro k hk;rcases (show k=0\/k=1 by omega) with rfl|rfl
 exact h0;exact h1;cases h;cases h
def rL:G4
 |[.lst 1 2 f]=>(match f 0,f 1 with
  |[.x (.int .i64 a)],[.x (.int .i64 b)]=>some ([],i (max a b))
  |_,_=>none)
 |_=>none
theorem Qf4:VT VU 126 rL:=by
 refine ⟨(UM Tryz.func126),?_⟩;intro avs ns Z h I;unfold rL at h;split at h;rename_i f;split at h;rename_i a b h0 h1;cases h;refine (Xn2 a b).same (.cons (.lst 1 2 _ _ ?_) .nil);intro k hk;rcases (show k=0\/k=1 by omega) with rfl|rfl
 exact h0;exact h1;cases h;cases h
theorem Wn8(a b:Int):U2 VU 243 [.lst 1 2 (λk=>[i (if k=0 then a else b)])] (i (min a b)):=by
 refine U6 (L:=[]) (Ae aG Aa) U3 Tryz.func243 (UW Tryz.f243) U7 (t:=leaf (RV.x (.int .i64 (min (if 0=0 then a else b) (if 1=0 then a else b))))) VZ ?_
 simp [VR.sat,G6,UH]
def CD:G4:=yH
theorem P7:VT VU 243 CD:=by
 refine ⟨(UM Tryz.func243),?_⟩;intro avs ns Z h I;unfold CD yH at h;split at h;rename_i f;split at h;rename_i a b h0 h1;cases h;refine (Wn8 a b).same (.cons (.lst 1 2 _ _ ?_) .nil);intro k hk;rcases (show k=0\/k=1 by omega) with rfl|rfl
 exact h0;exact h1;cases h;cases h
theorem mP(a b:Int):U2 VU 238 [.lst 1 2 (λk=>[i (if k=0 then a else b)])] (i (max a b)):=by
 refine U6 (L:=[]) (Ae Qf4 Aa) U3 Tryz.func238 (UW Tryz.f238) U7 (t:=leaf (RV.x (.int .i64 (max (if 0=0 then a else b) (if 1=0 then a else b))))) VZ ?_
 simp [VR.sat,G6,UH]
def NH:G4:=rL
theorem A9:VT VU 238 NH:=by
 refine ⟨(UM Tryz.func238),?_⟩;intro avs ns Z h I;unfold NH rL at h;split at h;rename_i f;split at h;rename_i a b h0 h1;cases h;refine (mP a b).same (.cons (.lst 1 2 _ _ ?_) .nil);intro k hk;rcases (show k=0\/k=1 by omega) with rfl|rfl
 exact h0;exact h1;cases h;cases h
noncomputable def Qp3:D9:=AU Tryz.prog [(243,CD)] {} [] Tryz.f230 (UB Tryz.f230)
abbrev JA:List (Nat×G4):=[(243,CD)]
theorem LX:GH VU 230 Qp3:=
 RT (G:=JA) (X:={}) (L:=[]) (Ae P7 Aa) Ad U3 (UM Tryz.func230) Tryz.func230 (UW Tryz.f230) U7
def UI(c T U O:Int)(M:Nat->Cg)(k:Nat):Int:=if k=0 then c else if k=1 then T else if k=2 then U else if k=3 then O else M ((k-4) / 11) ((k-4)%11)
section
variable (M:Nat->Cg)(a b:Nat)(v:Int)
def xR:Nat->Cg:=λx y=>if x=a/\y=b then v else M x y
def bnd:Nat->Cg:=xR M a b (min (M a b) v)
end
def ini(c:Nat)(k j:Nat):Nat->Cg:=λx y=>if ((x<k/\y<=c)\/(x=k/\y<j))/\x≠y then 2000 else 0
theorem Wh2(c T U O:Int)(cc:Nat): ∀k,UE (c::T::U::O::List.replicate 121 0) k=UI c T U O (ini cc 0 0) k:=by
 intro k;rcases k with _|_|_|_|k;rfl;rfl;rfl;rfl;have h:UE (c::T::U::O::List.replicate 121 0) (k+4)=UE (List.replicate 121 0) k:=rfl;rw [h,dW (by decide)]
 simp [UI,ini]
theorem GR(q:Nat)(v:Int)(f:Cg):kA q [v] f=UX q v f:=rfl
section
variable (c T U O:Int)
theorem qR(M:Nat->Cg){a b q:Nat}(hq:q=4+a*11+b)(hb:b<11):UI c T U O M q=M a b:=by
 unfold UI;rw [if_neg VO,if_neg VO,if_neg VO,if_neg VO,show (q-4) / 11=a by omega,show (q-4)%11=b by omega]
theorem uD{M M':Nat->Cg}(h: ∀x y,x<11->y<11->M x y=M' x y){k:Nat}(hk:k<125):UI c T U O M k=UI c T U O M' k:=by
 unfold UI;split;rfl;split;rfl;split;rfl;split;rfl;exact h _ _ VO VO
theorem iH(M:Nat->Cg){a b q:Nat}(hq:q=4+a*11+b)(hb:b<11)(v:Int)(k:Nat):UX q v (UI c T U O M) k=UI c T U O (xR M a b v) k:=by
 unfold UX;by_cases hk:k=q;rw [if_pos hk,qR _ _ _ _ _ (hk.trans hq) hb];simp [xR];rw [if_neg hk];unfold UI;by_cases h0:k=0;rw [if_pos h0,if_pos h0];by_cases h1:k=1;rw [if_neg h0,if_neg h0,if_pos h1,if_pos h1];by_cases h2:k=2;rw [if_neg h0,if_neg h0,if_neg h1,if_neg h1,if_pos h2,if_pos h2];by_cases h3:k=3;rw [if_neg h0,if_neg h0,if_neg h1,if_neg h1,if_neg h2,if_neg h2,if_pos h3,if_pos h3];rw [if_neg h0,if_neg h0,if_neg h1,if_neg h1,if_neg h2,if_neg h2,if_neg h3,if_neg h3];unfold xR;rw [if_neg VO]
end
theorem Wt1(c k j:Nat)(hj:j<=c)(h:k≠j)(x y:Nat):xR (ini c k j) k j 2000 x y=ini c k (j+1) x y:=by
 unfold xR ini;split;rename_i hxy;rw [if_pos ⟨.inr VO,VO⟩];rename_i hxy;by_cases h1:((x<k/\y<=c)\/(x=k/\y<j))/\x≠y;rw [if_pos h1,if_pos VO];rw [if_neg h1,if_neg VO]
theorem Wt2(c k:Nat)(x y:Nat):ini c k k x y=ini c k (k+1) x y:=by
 unfold ini;by_cases h1:((x<k/\y<=c)\/(x=k/\y<k))/\x≠y;rw [if_pos h1,if_pos VO];rw [if_neg h1,if_neg VO]
theorem Xq3(c k:Nat)(x y:Nat):ini c k (c+1) x y=ini c (k+1) 0 x y:=by
 unfold ini;by_cases h1:((x<k/\y<=c)\/(x=k/\y<c+1))/\x≠y;rw [if_pos h1,if_pos VO];rw [if_neg h1,if_neg VO]
abbrev rds(n:Nat)(a b u v:Cg):AV:= .lst 4 n (λk=>[i (a k),i (b k),i (u k),i (v k)])
abbrev QV:AV:=AV.x (.pointer none)
abbrev X8(n:Nat)(a:Cg)(b:Cg)(u:Cg)(v:Cg):AV:=lst 4 n λk=>[iI (a k),iI (b k),iI (u k),iI (v k)]
section
variable (c:Nat)(T U O:Int)(n:Nat)(a b u v:Cg)
def Jb7:St:={σ:=[agg [iI (c:Int),iI T,iI U,iI O],X8 n a b u v,ptr 0 0,top,QV,AV.lit false,ptr 5 0]++HR 15 [iI ((c:Int)+1)]++HR 155 [],m:=[(5,GU.ints 339 [] 125 λa=>UE ([(c:Int),T,U,O]++eH 121) a),(0,GU.cells 101 [iI (c:Int),iI T,iI U,iI O])],nx:=11}
noncomputable def Je1:Code:=UD (VX (UB Tryz.f208) 0)
def Wq3(k:Nat):St:=(upE [(23,i k)] [(5,.ints 339 [] 125 (UI c T U O (ini c k 0))),(0,.cells 101 [i c,i T,i U,i O])] (Jb7 c T U O n a b u v))
def ER(k:Nat):G8->Option St
 | .exit 0=>some (upE [(23,i ((c:Int)+1))] [(5,.ints 339 [] 125 (UI c T U O (ini c (c+1) 0))),(0,.cells 101 [i c,i T,i U,i O])] (Jb7 c T U O n a b u v))
 |_=>none
def Jx5:CT:= .leaf (.exit 0,(ER c T U O n a b u v 0 (.exit 0)).getD (Jb7 c T U O n a b u v))
def Zg3:UN:=GO [] (HI (Wq3 c T U O n a b u v (0)) (Jx5 c T U O n a b u v))
def Jb6(k:Nat):St:={σ:=[agg [iI (c:Int),iI T,iI U,iI O],X8 n a b u v,ptr 0 0,top,QV,AV.lit false,ptr 5 0,iI (k:Int)]++HR 14 [iI ((c:Int)+1),iI (k:Int),top,top,top,top,iI ((c:Int)+1)]++HR 149 [],m:=[(5,GU.ints 339 [] 125 λk_1=>UI (c:Int) T U O (ini c k 0) k_1),(0,GU.cells 101 [iI (c:Int),iI T,iI U,iI O])],nx:=18}
noncomputable def Kc3:Code:=(UD (VX (UD (VX (UB Tryz.f208) 0)) 0))
def Wq2(k:Nat)(j:Nat):St:=(upE [(29,i j)] [(5,.ints 339 [] 125 (UI c T U O (ini c k j))),(0,.cells 101 [i c,i T,i U,i O])] (Jb6 c T U O n a b u v k))
def EQ(k:Nat)(j:Nat):G8->Option St
 | .exit 2=>some (upE [(29,i ((c:Int)+1))] [(5,.ints 339 [] 125 (UI c T U O (ini c k (c+1)))),(0,.cells 101 [i c,i T,i U,i O])] (Jb6 c T U O n a b u v k))
 |_=>none
def Jx4(k:Nat):CT:= .leaf (.exit 2,(EQ c T U O n a b u v k 0 (.exit 2)).getD (Jb6 c T U O n a b u v k))
def Zg2(k:Nat):UN:=GO [] (HI (Wq2 c T U O n a b u v k (0)) (Jx4 c T U O n a b u v k))
end
abbrev Q4(n:Nat)(a:Cg)(b:Cg)(u:Cg)(v:Cg):Prop:=(X8 n a b u v)=lst 4 n λk=>[iI (a k),iI (b k),iI (u k),iI (v k)]
abbrev X6:Prop:=AV.lit false=AV.lit false
noncomputable abbrev XH:Ext:={R:=[],H:=[(230,Qp3)] }
abbrev XJ:Prop:=ptr 0 0=ptr 0 0
abbrev XV:Prop:=ptr 5 0=ptr 5 0
section
variable (c:Nat)(T U O:Int)(n:Nat)(a b u v:Cg)
theorem Jm9(k:Nat)(VW:1<=c/\c<=10)(UG:1<=U/\U<=O/\O<=200/\1<=T/\T<=2000)(HX:k<=c):GD VU (.loop Kc3) (Zg2 c T U O n a b u v k):=by
 refine UV [] (L:=[]) (Ae P7 Aa) (Ai Ab (Ag LX Ac)) U3 U7 (X:=Nat) (Wq2 c T U O n a b u v k) (λj=>j<=c+1) (λj=>c+1-j) (EQ c T U O n a b u v k) (x0:=0) VY ?_ ?_ ?_;rintro j;kernel_rfl;rintro j y E h;unfold EQ at h;split at h;cases h;kernel_rfl;cases h;rintro Q hQ j hx;refine ⟨(j+1),?_⟩;(with_reducible refine DG (t:=let A:=(U4 ((c:Int)+1));let W:=(U4 (agg [iI (c:Int),iI T,iI U,iI O]));(branch (decide ((j:Int)<(c:Int)+1)) (branch ((k:Int) != (j:Int)) (need [UO k 11] (need [UO j 11] (need [j*1+(k*11+4)+1<=125] (need [VQ ((j:Int)+1)] (need [W,Q4 n a b u v,XJ,QV=QV,X6,XV,U4 (k:Int),A,U4 (k:Int),A,(j:Int)+1=(↑(j+1):Int),125=125,GZ 125 (UX (j*1+(k*11+4)) (2000:Int) (UI (c:Int) T U O (ini c k j))) (UI (c:Int) T U O (ini c k (j+1))),U4 (c:Int),T=T,U=U,O=O] (leaf G8.normal)))))) (need [VQ ((j:Int)+1)] (need [W,Q4 n a b u v,XJ,QV=QV,X6,XV,U4 (k:Int),A,U4 (k:Int),A,(j:Int)+1=(↑(j+1):Int),125=125,GZ 125 (UI (c:Int) T U O (ini c k j)) (UI (c:Int) T U O (ini c k (j+1))),U4 (c:Int),T=T,U=U,O=O] (leaf G8.normal)))) (need [W,Q4 n a b u v,XJ,QV=QV,X6,XV,U4 (k:Int),A,U4 (k:Int),A,(j:Int)=(c:Int)+1,125=125,GZ 125 (UI (c:Int) T U O (ini c k j)) (UI (c:Int) T U O (ini c k (c+1))),U4 (c:Int),T=T,U=U,O=O] (leaf (G8.exit 2))))) VZ ?_);simp only [Jx4,EQ,VR.sat,GW] at hQ;simp only [VR.sat,UF,G6,GQ,UH,VQ,UK,H6,FW,FZ,RP,GR,EQ]
 refine ⟨λh=>⟨λhne=>?_,λheq=>?_⟩,λh=>?_⟩
 ·(with_reducible repeat' first|apply Al|intro _)
  all_goals first|exact LN|(exact (iH c T U O _ VO VO _ _).trans (uD c T U O (λx y _ _=>Wt1 c k j VO VO x y) (by assumption)))
 ·obtain rfl:k=j:=VO
  (with_reducible repeat' first|apply Al|intro _)
  all_goals first|exact LN|(exact uD c T U O (λx y _ _=>Wt2 c k x y) (by assumption))
 ·obtain rfl:j=c+1:=VO
  (with_reducible repeat' first|apply Al|intro _)
  all_goals first|exact Ak|omega|with_reducible rfl|(rename_i E hE;cases hE;exact hQ)|rfl
theorem Jn0(VW:1<=c/\c<=10)(UG:1<=U/\U<=O/\O<=200/\1<=T/\T<=2000):GD VU (.loop Je1) (Zg3 c T U O n a b u v):=by
 refine UV [] (L:=[BQ 7 (λk=>FX [k<=c] (Zg2 c T U O n a b u v k))]) (Ae P7 Aa) (Ai Ab (Ag LX Ac)) U3 (G0 (λcj hcj=>by
  have e:VX Je1 0=some (.loop Kc3):=VZ;rw [e] at hcj;cases hcj;exact LE (λk=>DB (λh=>Jm9 c T U O n a b u v k VW UG h)))) (X:=Nat) (Wq3 c T U O n a b u v) (λk=>k<=c+1) (λk=>c+1-k) (ER c T U O n a b u v) (x0:=0) VY ?_ ?_ ?_
 rintro k;kernel_rfl;rintro k y E h;unfold ER at h;split at h;cases h;kernel_rfl;cases h;rintro Q hQ k hx;refine ⟨(k+1),?_⟩;(with_reducible refine DG (t:=let A:=(U4 (agg [iI (c:Int),iI T,iI U,iI O]));let W:=(U4 ((c:Int)+1));(branch (decide ((k:Int)<(c:Int)+1)) (need [VQ ((c:Int)+1)] (need [k<=c] (need [A,Q4 n a b u v,XJ,QV=QV,X6,XV,U4 (k:Int),W,U4 (k:Int),W,(0:Int)=((0:Nat):Int),125=125,GV 125 (UI (c:Int) T U O (ini c k 0)),U4 (c:Int),T=T,U=U,O=O] (need [VQ ((k:Int)+1)] (need [A,Q4 n a b u v,XJ,QV=QV,X6,XV,W,(k:Int)+1=(↑(k+1):Int),125=125,GZ 125 (UI (c:Int) T U O (ini c k (c+1))) (UI (c:Int) T U O (ini c (k+1) 0)),U4 (c:Int),T=T,U=U,O=O] (leaf G8.normal)))))) (need [A,Q4 n a b u v,XJ,QV=QV,X6,XV,W,(k:Int)=(c:Int)+1,125=125,GZ 125 (UI (c:Int) T U O (ini c k 0)) (UI (c:Int) T U O (ini c (c+1) 0)),U4 (c:Int),T=T,U=U,O=O] (leaf (G8.exit 0))))) VZ ?_);simp only [Jx5,ER,VR.sat,GW] at hQ;simp only [VR.sat,UF,G6,GQ,UH,VQ,UK,H6,FW,FZ,RP,GR,ER]
 refine ⟨λh=>?_,λh=>?_⟩
 ·(with_reducible repeat' first|apply Al|intro _)
  all_goals first|exact LN|(exact uD c T U O (λx y _ _=>Xq3 c k x y) (by assumption))
 ·obtain rfl:k=c+1:=VO
  (with_reducible repeat' first|apply Al|intro _)
  all_goals first|exact Ak|omega|with_reducible rfl|(rename_i E hE;cases hE;exact hQ)|rfl
end
def cel(c:Nat)(U O:Int):Nat->Nat->Nat->Int
 | 0=>ini c (c+1) 0
 |k+1=>bnd (bnd (cel c U O k) k (k+1) O) (k+1) k (-U)
theorem jR{c T U O:Int}{M:Nat->Cg}{a b q:Nat}{v:Int}(hq:q=4+a*11+b)(hb:b<11):UX q (min (UI c T U O M q) v) (UI c T U O M)=UI c T U O (bnd M a b v):=by
 funext k;rw [iH c T U O M hq hb,qR c T U O M hq hb];rfl
section
variable (c:Nat)(T U O:Int)(n:Nat)(a b u v:Cg)
def NR:St:={σ:=[agg [iI (c:Int),iI T,iI U,iI O],X8 n a b u v,ptr 0 0,top,QV,AV.lit false,ptr 5 0]++HR 15 [iI ((c:Int)+1),iI ((c:Int)+1)]++HR 21 [iI (c:Int)]++HR 132 [],m:=[(5,GU.ints 339 [] 125 λk=>UI (c:Int) T U O (ini c (c+1) 0) k),(0,GU.cells 101 [iI (c:Int),iI T,iI U,iI O])],nx:=14}
noncomputable def eE:Code:=UD (VX (UB Tryz.f208) 1)
def B9(k:Nat):St:=(upE [(46,i k)] [(5,.ints 339 [] 125 (UI c T U O (cel c U O k))),(0,.cells 101 [i c,i T,i U,i O])] (NR c T U O n a b u v))
def xE(k:Nat):G8->Option St
 | .exit 4=>some (upE [(46,i c)] [(5,.ints 339 [] 125 (UI c T U O (cel c U O c))),(0,.cells 101 [i c,i T,i U,i O])] (NR c T U O n a b u v))
 |_=>none
def Wa3:CT:= .leaf (.exit 4,(xE c T U O n a b u v 0 (.exit 4)).getD (NR c T U O n a b u v))
def oP:UN:=GO [] (HI (B9 c T U O n a b u v (0)) (Wa3 c T U O n a b u v))
theorem Jm7(VW:1<=c/\c<=10)(UG:1<=U/\U<=O/\O<=200/\1<=T/\T<=2000):GD VU (.loop eE) (oP c T U O n a b u v):=by
 refine UV [] (L:=[]) (Ae P7 Aa) (Ai Ab (Ag LX Ac)) U3 U7 (X:=Nat) (B9 c T U O n a b u v) (λk=>k<=c) (λk=>c-k) (xE c T U O n a b u v) (x0:=0) VY ?_ ?_ ?_;rintro k;kernel_rfl;rintro k y E h;unfold xE at h;split at h;cases h;kernel_rfl;cases h;rintro Q hQ k hx;refine ⟨(k+1),?_⟩;(with_reducible refine DG (t:=let A:=(UI (c:Int) T U O (cel c U O k) (((k:Int)+1).toNat*1+(k*11+4)));let W:=(UX (((k:Int)+1).toNat*1+(k*11+4)) (min A O) (UI (c:Int) T U O (cel c U O k)) (k*1+(((k:Int)+1).toNat*11+4)));let z2:=(U4 ((c:Int)+1));(branch (decide ((k:Int)<(c:Int))) (need [VQ ((k:Int)+1)] (need [UO k 11] (need [UO ((k:Int)+1) 11] (need [((k:Int)+1).toNat*1+(k*11+4)<125] (need [UO k 11] (need [UO ((k:Int)+1) 11] (need [((k:Int)+1).toNat*1+(k*11+4)+List.length [min A O]<=125] (need [VQ ((k:Int)+1)] (need [VQ (-U)] (need [UO ((k:Int)+1) 11] (need [UO k 11] (need [k*1+(((k:Int)+1).toNat*11+4)<125] (need [UO ((k:Int)+1) 11] (need [UO k 11] (need [k*1+(((k:Int)+1).toNat*11+4)+List.length [min W (-U)]<=125] (need [VQ ((k:Int)+1)] (need [U4 (agg [iI (c:Int),iI T,iI U,iI O]),Q4 n a b u v,XJ,QV=QV,X6,XV,z2,z2,U4 (c:Int),(k:Int)+1=(↑(k+1):Int),125=125,GZ 125 (UX (k*1+(((k:Int)+1).toNat*11+4)) (min W (-U)) (kA (((k:Int)+1).toNat*1+(k*11+4)) [min A O] (UI (c:Int) T U O (cel c U O k)))) (UI (c:Int) T U O (cel c U O (k+1))),U4 (c:Int),T=T,U=U,O=O] (leaf G8.normal)))))))))))))))))) (need [U4 (agg [iI (c:Int),iI T,iI U,iI O]),Q4 n a b u v,XJ,QV=QV,X6,XV,z2,z2,U4 (c:Int),(k:Int)=(c:Int),125=125,GZ 125 (UI (c:Int) T U O (cel c U O k)) (UI (c:Int) T U O (cel c U O c)),U4 (c:Int),T=T,U=U,O=O] (leaf (G8.exit 4))))) VZ ?_);simp only [Wa3,xE,VR.sat,GW] at hQ;simp only [VR.sat,UF,G6,GQ,UH,VQ,UK,H6,FW,FZ,RP,GR,xE]
 refine ⟨λh=>?_,λh=>?_⟩
 ·have h1: ∀M v,UX (((k:Int)+1).toNat*1+(k*11+4)) (min (UI c T U O M (((k:Int)+1).toNat*1+(k*11+4))) v) (UI c T U O M)=UI c T U O (bnd M k (k+1) v):=λM v=>jR VO VO;have h2: ∀M v,UX (k*1+(((k:Int)+1).toNat*11+4)) (min (UI c T U O M (k*1+(((k:Int)+1).toNat*11+4))) v) (UI c T U O M)=UI c T U O (bnd M (k+1) k v):=λM v=>jR VO VO;simp only [h1,h2]
  (with_reducible repeat' first|apply Al|intro _)
  all_goals first|exact Ak|omega|with_reducible rfl|(rename_i E hE;cases hE;exact hQ)|rfl
 ·obtain rfl:k=c:=VO
  (with_reducible repeat' first|apply Al|intro _)
  all_goals first|exact Ak|omega|with_reducible rfl|(rename_i E hE;cases hE;exact hQ)|rfl
end
def rdS(c:Nat)(M:Nat->Cg)(a b u v:Int):Nat->Cg:=if b<(c:Int) then bnd (bnd M a.toNat b.toNat v) (b+1).toNat a.toNat (-u-1) else bnd M a.toNat b.toNat v
def rdM(c:Nat)(T U O:Int)(a b u v:Cg):Nat->Nat->Nat->Int
 | 0=>bnd (bnd (cel c U O c) 0 c T) c 0 (-T)
 |j+1=>rdS c (rdM c T U O a b u v j) (a j) (b j) (u j) (v j)
def rdV(a b u v:Int):Value:= .agg #[.int .i64 a,.int .i64 b,.int .i64 u,.int .i64 v]
def sn(a b u v:Cg)(k:Nat)(x:Value):Prop:= ∃j,j<k/\x=rdV (a j) (b j) (u j) (v j)
def OB(x:Value):Prop:= ∃a b u v,x=rdV a b u v
theorem Wi5(a b u v:Int)(e:UP)(w:World):Rep e w (.agg [i a,i b,i u,i v]) (rdV a b u v):=
 Rep.aggL (U8.cons (.x _) (U8.cons (.x _) (U8.cons (.x _) (U8.one (.x _)))))
theorem Qt3(a b u v:Int):FK Tryz.prog 341 OB (rdV a b u v) (.bool false):=by
 refine ⟨⟨126,4,(match Tryz.prog.underlying 126 with|some (.struct fs)=>fs|_=>#[]),VZ,VZ,?_,?_,?_⟩,by simp [Instr.sameBits,rdV]⟩
 intro b' w;kernel_rfl;rintro k' ⟨a',b',u',v',rfl⟩ w;refine ⟨a==a'&&(b==b'&&(u==u'&&(v==v'&&true)&&true)),zG (P:=Tryz.prog) (e:=PS w w) Op.maxDepth 126 (.agg [i a,i b,i u,i v]) (.agg [i a',i b',i u',i v']) _ _ _ VZ (Wi5 ..) (Wi5 ..),λh=>?_⟩;simp only [Bool.and_true,HF,beq_iff_eq] at h;obtain ⟨rfl,rfl,rfl,rfl⟩:=h;rfl;intro w;kernel_rfl
theorem Zb7{a b u v:Cg}{k:Nat}{x:Value}(h:sn a b u v k x):OB x:=by
 obtain ⟨j,_,h⟩:=h;exact ⟨_,_,_,_,h⟩
section
variable (M:Nat->Cg)(a b:Nat)(v:Int)
theorem xI(x y:Nat):bnd M a b v x y<=M x y:=by
 unfold bnd xR;split;rename_i h;rw [h.1,h.2];omega;omega
theorem cG:bnd M a b v a b<=v:=by
 unfold bnd xR;rw [if_pos ⟨rfl,rfl⟩];omega
end
theorem Xc2{M:Nat->Cg}{a b:Nat}{v:Int}(h:M a b<=v):bnd M a b v=M:=by
 funext x y;unfold bnd xR;split;rename_i h';rw [h'.1,h'.2];omega;rfl
section
variable (c:Nat)(M:Nat->Cg)(a b u v:Int)
theorem Zr1(x y:Nat):rdS c M a b u v x y<=M x y:=by
 unfold rdS;split;exact Bx (xI _ _ _ _ _ _) (xI _ _ _ _ _ _);exact xI _ _ _ _ _ _
theorem Zr3:rdS c M a b u v a.toNat b.toNat<=v/\(b<c->rdS c M a b u v (b+1).toNat a.toNat<= -u-1):=by
 unfold rdS;split;exact ⟨Bx (xI _ _ _ _ _ _) (cG _ _ _ _),λ_=>cG _ _ _ _⟩;exact ⟨cG _ _ _ _,λh=>VO⟩
end
theorem Zr2{c:Nat}{M:Nat->Cg}{a b u v:Int}(h:M a.toNat b.toNat<=v)(h2:b<c->M (b+1).toNat a.toNat<= -u-1):rdS c M a b u v=M:=by
 unfold rdS;rw [Xc2 h];split;rename_i hb;exact Xc2 (h2 hb);rfl
theorem E9(c:Nat)(T U O:Int)(a b u v:Cg)(j:Nat): ∀(k:Nat),j<=k-> ∀x y,rdM c T U O a b u v k x y<=rdM c T U O a b u v j x y
 | 0,h,x,y=>by
           obtain rfl:j=0:=VO;exact Int.le_refl _
 |k+1,h,x,y=>by
  rcases (show j=k+1\/j<=k by omega) with rfl|h
  exact Int.le_refl _;exact Bx (Zr1 _ _ _ _ _ _ _ _) (E9 c T U O a b u v j k h x y)
theorem Wj4{c:Nat}{T U O:Int}{a b u v:Cg}{k:Nat}(h:sn a b u v k (rdV (a k) (b k) (u k) (v k))):rdM c T U O a b u v (k+1)=rdM c T U O a b u v k:=by
 obtain ⟨j,hj,he⟩:=h;unfold rdV at he;injection he with he
 injection he with he
 have e:a k=a j/\b k=b j/\u k=u j/\v k=v j:=by simpa using he
 have h1:=Zr3 c (rdM c T U O a b u v j) (a j) (b j) (u j) (v j);have m:=E9 c T U O a b u v (j+1) k VO;refine Zr2 ?_ (λhb=>?_);rw [e.1,e.2.1,e.2.2.2];exact Bx (m _ _) h1.1;rw [e.1,e.2.1,e.2.2.1];exact Bx (m _ _) (h1.2 (by rw [←e.2.1];exact hb))
section
variable (c:Nat)(T U O:Int)(n:Nat)(a b u v:Cg)
def Jb5:St:={σ:=[agg [iI (c:Int),iI T,iI U,iI O],X8 n a b u v,ptr 0 0,top,QV,AV.lit false,ptr 5 0,top,top,top,AV.mp 63]++HR 11 [iI ((c:Int)+1),iI ((c:Int)+1)]++HR 21 [iI (c:Int),iI (c:Int)]++HR 34 [X8 n a b u v,iI (n:Int)]++HR 95 [],m:=[(63,GU.memo (λx=>False) λv=>v),(56,GU.row 3 1 2 (UA 1 [iI (UX (c*1+4) (min (UI (c:Int) T U O (cel c U O c) (c*1+4)) T) (UI (c:Int) T U O (cel c U O c)) (0+(c*11+4))),iI (-T)])),(31,GU.row 3 1 2 (UA 1 [iI (UI (c:Int) T U O (cel c U O c) (c*1+4)),iI T])),(5,GU.ints 339 [] 125 λa=>UX (0+(c*11+4)) (min (UX (c*1+4) (min (UI (c:Int) T U O (cel c U O c) (c*1+4)) T) (UI (c:Int) T U O (cel c U O c)) (0+(c*11+4))) (-T)) (kA (c*1+4) [min (UI (c:Int) T U O (cel c U O c) (c*1+4)) T] (UI (c:Int) T U O (cel c U O c))) a),(0,GU.cells 101 [iI (c:Int),iI T,iI U,iI O])],nx:=68}
noncomputable def Kc2:Code:=UD (VX (UB Tryz.f208) 2)
def Wq1(k:Nat):St:=(upE [(83,i k)] [(5,.ints 339 [] 125 (UI c T U O (rdM c T U O a b u v k))),(0,.cells 101 [i c,i T,i U,i O]),(63,.memo (sn a b u v k) (λ_=> .bool true))] (Jb5 c T U O n a b u v))
def EP(k:Nat):G8->Option St
 | .exit 6=>some (upE [(83,i n)] [(5,.ints 339 [] 125 (UI c T U O (rdM c T U O a b u v n))),(0,.cells 101 [i c,i T,i U,i O]),(63,.memo (sn a b u v n) (λ_=> .bool true))] (Jb5 c T U O n a b u v))
 |_=>none
def Jx3:CT:= .leaf (.exit 6,(EP c T U O n a b u v 0 (.exit 6)).getD (Jb5 c T U O n a b u v))
def Zg1:UN:=GO [] (HI (Wq1 c T U O n a b u v (0)) (Jx3 c T U O n a b u v))
abbrev ZI:Prop:=AV.mp 63=AV.mp 63
theorem Jm4(VW:1<=c/\c<=10)(UG:1<=U/\U<=O/\O<=200/\1<=T/\T<=2000)(HX:n<=1000)(F6:DH (λk=>rdB c (a k) (b k) (u k) (v k)) n=true):GD VU (.loop Kc2) (Zg1 c T U O n a b u v):=by
 refine UV [] (L:=[]) (Ae P7 Aa) (Ai Ab (Ag LX Ac)) U3 U7 (X:=Nat) (Wq1 c T U O n a b u v) (λk=>k<=n) (λk=>n-k) (EP c T U O n a b u v) (x0:=0) VY ?_ ?_ ?_;rintro k;kernel_rfl;rintro k y E h;unfold EP at h;split at h;cases h;kernel_rfl;cases h;rintro Q hQ k hx;refine ⟨(k+1),?_⟩
 (with_reducible refine DG (t:=let z9:=sn a b u v k;let z3:=(Value.agg #[Value.int IntKind.i64 (a k),Value.int IntKind.i64 (b k),Value.int IntKind.i64 (u k),Value.int IntKind.i64 (v k)]);let z7:=(rdM c T U O a b u v k);let z2:=(UI (c:Int) T U O z7 ((b k).toNat*1+((a k).toNat*11+4)));let z10:=(UI (c:Int) T U O z7);let z5:=(UX ((b k).toNat*1+((a k).toNat*11+4)) (min z2 (v k)) z10 ((a k).toNat*1+((b k+1).toNat*11+4)));let z6:=(U4 (agg [iI (c:Int),iI T,iI U,iI O]));let z8:=Q4 n a b u v;let z4:=(U4 ((c:Int)+1));let z11:=(rdM c T U O a b u v (k+1));let A:=(need [∀(u_1:Value),z9 u_1->Value.bool true=Value.bool true,FK Tryz.prog 341 (λu_1=>z9 u_1\/u_1=Value.agg #[Value.int IntKind.i64 (a k),Value.int IntKind.i64 (b k),Value.int IntKind.i64 (u k),Value.int IntKind.i64 (v k)]) z3 (YG)] (need [UO (a k) 11] (need [UO (b k) 11] (need [(b k).toNat*1+((a k).toNat*11+4)<125] (need [UO (a k) 11] (need [UO (b k) 11] (need [(b k).toNat*1+((a k).toNat*11+4)+List.length [min z2 (v k)]<=125] (branch (decide (b k<(c:Int))) (need [VQ (b k+1)] (need [VQ (-u k)] (need [VQ (-u k-1)] (need [UO (b k+1) 11] (need [UO (a k) 11] (need [(a k).toNat*1+((b k+1).toNat*11+4)<125] (need [UO (b k+1) 11] (need [UO (a k) 11] (need [(a k).toNat*1+((b k+1).toNat*11+4)+List.length [min z5 (-u k-1)]<=125] (need [VQ ((k:Int)+1)] (need [z6,z8,XJ,QV=QV,X6,XV,ZI,z4,z4,U4 (c:Int),U4 (c:Int),z8,U4 (n:Int),(k:Int)+1=(↑(k+1):Int),125=125,GZ 125 (UX ((a k).toNat*1+((b k+1).toNat*11+4)) (min z5 (-u k-1)) (kA ((b k).toNat*1+((a k).toNat*11+4)) [min z2 (v k)] z10)) (UI (c:Int) T U O z11),U4 (c:Int),T=T,U=U,O=O,∀(k_1:Value),z9 k_1\/k_1=Value.agg #[Value.int IntKind.i64 (a k),Value.int IntKind.i64 (b k),Value.int IntKind.i64 (u k),Value.int IntKind.i64 (v k)]->sn a b u v (k+1) k_1/\Value.bool true=Value.bool true] (leaf G8.normal)))))))))))) (need [VQ ((k:Int)+1)] (need [z6,z8,XJ,QV=QV,X6,XV,ZI,z4,z4,U4 (c:Int),U4 (c:Int),z8,U4 (n:Int),(k:Int)+1=(↑(k+1):Int),125=125,GZ 125 (UX ((b k).toNat*1+((a k).toNat*11+4)) (min z2 (v k)) z10) (UI (c:Int) T U O z11),U4 (c:Int),T=T,U=U,O=O,∀(k_1:Value),z9 k_1\/k_1=Value.agg #[Value.int IntKind.i64 (a k),Value.int IntKind.i64 (b k),Value.int IntKind.i64 (u k),Value.int IntKind.i64 (v k)]->sn a b u v (k+1) k_1/\Value.bool true=Value.bool true] (leaf G8.normal)))))))))));let W:=(need [VQ ((k:Int)+1)] (need [z6,z8,XJ,QV=QV,X6,XV,ZI,z4,z4,U4 (c:Int),U4 (c:Int),z8,U4 (n:Int),(k:Int)+1=(↑(k+1):Int),125=125,GZ 125 (UI (c:Int) T U O z7) (UI (c:Int) T U O z11),U4 (c:Int),T=T,U=U,O=O,∀(k_1:Value),z9 k_1->sn a b u v (k+1) k_1/\Value.bool true=Value.bool true] (leaf G8.normal)));(branch (decide ((k:Int)<(n:Int))) (need [UO k n] (need [FK Tryz.prog 341 (z9) z3 (YG)] (VR.may (z9 z3) (branch true W A) (branch false W A)))) (need [z6,z8,XJ,QV=QV,X6,XV,ZI,z4,z4,U4 (c:Int),U4 (c:Int),z8,U4 (n:Int),(k:Int)=(n:Int),125=125,GZ 125 (UI (c:Int) T U O z7) (UI (c:Int) T U O (rdM c T U O a b u v n)),U4 (c:Int),T=T,U=U,O=O,∀(k_1:Value),z9 k_1->sn a b u v n k_1/\Value.bool true=Value.bool true] (leaf (G8.exit 6))))) VZ ?_)
 simp only [Jx3,EP,VR.sat,GW] at hQ;simp only [VR.sat,UF,G6,GQ,UH,VQ,UK,H6,FW,FZ,RP,GR,EP]
 have hv: ∀j,j<n->(0<=a j/\a j<=c-1)/\(a j<=b j/\b j<=c)/\0<=u j/\u j<=v j/\v j<=2000:=by
  intro j hj;have:=H3.1 F6 j hj;simp only [rdB,HF,bt_iff,insB_iff] at this;omega
 refine ⟨λh=>?_,λh=>?_⟩;have hk:=hv k VO;have mk:=Qt3 (a k) (b k) (u k) (v k);have q1:FK Tryz.prog 341 (sn a b u v k) (rdV (a k) (b k) (u k) (v k)) (.bool false):=mk.mono (λx hx=>Zb7 hx);have q2:FK Tryz.prog 341 (λx=>sn a b u v k x\/x=rdV (a k) (b k) (u k) (v k)) (rdV (a k) (b k) (u k) (v k)) (.bool false):=mk.mono (λx hx=>hx.elim Zb7 (λhe=>⟨_,_,_,_,he⟩));have sn1: ∀x,sn a b u v k x->sn a b u v (k+1) x:=λx ⟨j,hj,he⟩=>⟨j,VO,he⟩;have sn2:sn a b u v (k+1) (rdV (a k) (b k) (u k) (v k)):=⟨k,VO,rfl⟩;refine ⟨VO,q1,λhs=>⟨λ_=>?_,λhc=>absurd hc (by decide)⟩,λhc=>absurd hc (by decide),λ_=>?_⟩
 ·rw [Wj4 hs]
  (with_reducible repeat' first|apply Al|intro _)
  all_goals first|exact LN|(exact sn1 _ (by assumption))
 have h1: ∀M w,UX ((b k).toNat*1+((a k).toNat*11+4)) (min (UI c T U O M ((b k).toNat*1+((a k).toNat*11+4))) w) (UI c T U O M)=UI c T U O (bnd M (a k).toNat (b k).toNat w):=λM w=>jR VO VO;refine ⟨⟨λ_ _=>trivial,q2⟩,?_⟩;simp only [h1];refine ⟨VO,VO,VO,VO,VO,VO,λhb=>?_,λhb=>?_⟩;have h2: ∀M w,UX ((a k).toNat*1+((b k+1).toNat*11+4)) (min (UI c T U O M ((a k).toNat*1+((b k+1).toNat*11+4))) w) (UI c T U O M)=UI c T U O (bnd M (b k+1).toNat (a k).toNat w):=λM w=>jR VO VO;have e3:rdM c T U O a b u v (k+1)=bnd (bnd (rdM c T U O a b u v k) (a k).toNat (b k).toNat (v k)) (b k+1).toNat (a k).toNat (-u k-1):=by
  show rdS _ _ _ _ _ _=_;unfold rdS;rw [if_pos hb]
 simp only [h2,e3];exact VK;have e3:rdM c T U O a b u v (k+1)=bnd (rdM c T U O a b u v k) (a k).toNat (b k).toNat (v k):=by
  show rdS _ _ _ _ _ _=_;unfold rdS;rw [if_neg hb]
 simp only [e3];exact VK
 ·obtain rfl:k=n:=VO
  (with_reducible repeat' first|apply Al|intro _)
  all_goals first|exact LN|(assumption)
end
def fwS(M:Nat->Cg)(o f t:Nat):Nat->Cg:=bnd M f t (M f o+M o t)
def fwT(M:Nat->Cg)(o f:Nat):Nat->Nat->Nat->Int
 | 0=>M
 |t+1=>fwS (fwT M o f t) o f t
def fwF(c:Nat)(M:Nat->Cg)(o:Nat):Nat->Nat->Nat->Int
 | 0=>M
 |f+1=>fwT (fwF c M o f) o f (c+1)
def fwO(c:Nat)(M:Nat->Cg):Nat->Nat->Nat->Int
 | 0=>M
 |o+1=>fwF c (fwO c M o) o (c+1)
def LB(B:Int)(M:Nat->Cg):Prop:= ∀x y,-B<=M x y/\M x y<=2000
def JB(B:Int)(o f t:Nat)(M:Nat->Cg):Prop:= ∀x y,M x y<=2000/\ -(6*B)<=M x y/\(x=o-> -(3*B)<=M x y)/\(y=o-> -(3*B)<=M x y)/\(x=o->y=o-> -(2*B)<=M x y)/\(¬(x<f\/(x=f/\y<t))-> -B<=M x y)
theorem Xi8{B:Int}{o:Nat}{M:Nat->Cg}(hB:0<=B)(h:LB B M):JB B o 0 0 M:=by
 intro x y;have:=h x y;refine ⟨VO,VO,λ_=>VO,λ_=>VO,λ_ _=>VO,λ_=>VO⟩
theorem Xx6{B:Int}{o f t:Nat}{M:Nat->Cg}(hB:0<=B)(h:JB B o f t M):JB B o f (t+1) (fwS M o f t):=by
 have hft:=h f t;have hfo:=h f o;have hot:=h o t;have hoo:=h o o;have I:=hft.2.2.2.2.2 VO;intro x y;have hxy:=h x y;unfold fwS bnd xR;by_cases hc:x=f/\y=t;exact V4;rw [if_neg hc];exact ⟨hxy.1,hxy.2.1,hxy.2.2.1,hxy.2.2.2.1,hxy.2.2.2.2.1,λhv=>hxy.2.2.2.2.2 VO⟩
theorem Ja4{B:Int}{o f:Nat}{M:Nat->Cg}(hB:0<=B)(h:JB B o f 0 M): ∀t,JB B o f t (fwT M o f t)
 | 0=>h
 |t+1=>Xx6 hB (Ja4 hB h t)
theorem Ja3{B:Int}{o f t:Nat}{M:Nat->Cg}(h:JB B o f t M):JB B o (f+1) 0 M:=by
 intro x y;have hxy:=h x y;exact ⟨hxy.1,hxy.2.1,hxy.2.2.1,hxy.2.2.2.1,hxy.2.2.2.2.1,λhv=>hxy.2.2.2.2.2 VO⟩
theorem Ja5{B:Int}{c o:Nat}{M:Nat->Cg}(hB:0<=B)(h:LB B M): ∀f,JB B o f 0 (fwF c M o f)
 | 0=>Xi8 hB h
 |f+1=>Ja3 (Ja4 hB (Ja5 hB h f) (c+1))
theorem Ja2{c:Nat}{M:Nat->Cg}(h:LB 2001 M): ∀o,LB (2001*6^o) (fwO c M o)
 | 0=>by
  rw [show (2001:Int)*6^0=2001 by decide]
  exact h
 |o+1=>by
  have ih:=Ja2 (c:=c) h o;have hp:(0:Int)<=2001*6^o:=Bz VO (Int.pow_nonneg VO);have hj:=Ja5 (c:=c) (o:=o) hp ih (c+1);intro x y;have:=hj x y;have e:(2001:Int)*6^(o+1)=6*(2001*6^o):=by rw [Int.pow_succ];omega
  rw [e];exact ⟨this.2.1,this.1⟩
theorem Jn3: ∀o:Nat,o<=10->(6:Int)^o<=60466176:=by
 intro o ho;rcases (show o=0\/o=1\/o=2\/o=3\/o=4\/o=5\/o=6\/o=7\/o=8\/o=9\/o=10 by omega) with rfl|rfl|rfl|rfl|rfl|rfl|rfl|rfl|rfl|rfl|rfl<;>decide
theorem Js3{c:Nat}{M:Nat->Cg}(h:LB 2001 M){o f t:Nat}(ho:o<=10)(x y:Nat): -800000000000<=fwT (fwF c (fwO c M o) o f) o f t x y/\fwT (fwF c (fwO c M o) o f) o f t x y<=2000:=by
 have ih:=Ja2 (c:=c) h o;have hp:(0:Int)<=2001*6^o:=Bz VO (Int.pow_nonneg VO);have hj:=Ja4 hp (Ja5 (c:=c) (o:=o) hp ih f) t x y;have:=Jn3 o ho;omega
theorem gB{B:Int}{M:Nat->Cg}(h:LB B M){a b:Nat}{v:Int}(hv: -B<=v):LB B (bnd M a b v):=by
 intro x y;have h1:=h a b;have h2:=h x y;unfold bnd xR;split<;>omega
theorem Xb5{c:Nat}{U O:Int}(h:1<=U/\U<=O/\O<=200): ∀k,LB 2001 (cel c U O k)
 | 0=>by
  intro x y;unfold cel ini;split<;>omega
 |k+1=>gB (gB (Xb5 h k) VO) VO
theorem pY{c:Nat}{T U O:Int}{a b u v:Cg}{n:Nat}(h:1<=U/\U<=O/\O<=200/\1<=T/\T<=2000)(hv: ∀j,j<n->0<=u j/\u j<=v j/\v j<=2000): ∀k,k<=n->LB 2001 (rdM c T U O a b u v k)
 | 0,_=>gB (gB (Xb5 VO c) VO) VO
 |k+1,hk=>by
  have ih:=pY (c:=c) (a:=a) (b:=b) h hv k VO;have:=hv k VO;show LB 2001 (rdS _ _ _ _ _ _);unfold rdS;split;exact gB (gB ih VO) VO;exact gB ih VO
section
variable (c:Nat)(T U O:Int)(n:Nat)(a b u v:Cg)
def Qe2:St:={σ:=[agg [iI (c:Int),iI T,iI U,iI O],X8 n a b u v,ptr 0 0,top,QV,AV.lit false,ptr 5 0,top,top,top,AV.mp 63]++HR 11 [iI ((c:Int)+1),iI ((c:Int)+1)]++HR 21 [iI (c:Int),iI (c:Int)]++HR 34 [X8 n a b u v,iI (n:Int),iI (n:Int)]++HR 37 [iI ((c:Int)+1)]++HR 56 [],m:=[(5,GU.ints 339 [] 125 λk=>UI (c:Int) T U O (rdM c T U O a b u v n) k),(0,GU.cells 101 [iI (c:Int),iI T,iI U,iI O]),(63,GU.memo (λx=>sn a b u v n x) λx=>Value.bool true)],nx:=72}
noncomputable def Wa8:Code:=UD (VX (UB Tryz.f208) 3)
def IW(o:Nat):St:=(upE [(122,i o)] [(5,.ints 339 [] 125 (UI c T U O (fwO c (rdM c T U O a b u v n) o))),(0,.cells 101 [i c,i T,i U,i O])] (Qe2 c T U O n a b u v))
def qW(o:Nat):G8->Option St
 | .exit 8=>some (upE [(122,i ((c:Int)+1))] [(5,.ints 339 [] 125 (UI c T U O (fwO c (rdM c T U O a b u v n) (c+1)))),(0,.cells 101 [i c,i T,i U,i O])] (Qe2 c T U O n a b u v))
 |_=>none
def Xe7:CT:= .leaf (.exit 8,(qW c T U O n a b u v 0 (.exit 8)).getD (Qe2 c T U O n a b u v))
def oO:UN:=GO [] (HI (IW c T U O n a b u v (0)) (Xe7 c T U O n a b u v))
def Jb4(o:Nat):St:={σ:=[agg [iI (c:Int),iI T,iI U,iI O],X8 n a b u v,ptr 0 0,top,QV,AV.lit false,ptr 5 0,top,top,top,AV.mp 63,top,top,iI (o:Int)]++HR 8 [iI ((c:Int)+1),iI ((c:Int)+1)]++HR 21 [iI (c:Int),iI (c:Int)]++HR 34 [X8 n a b u v,iI (n:Int),iI (n:Int)]++HR 37 [iI ((c:Int)+1),iI (o:Int),top,top,top,top,iI ((c:Int)+1)]++HR 50 [],m:=[(5,GU.ints 339 [] 125 λk=>UI (c:Int) T U O (fwO c (rdM c T U O a b u v n) o) k),(0,GU.cells 101 [iI (c:Int),iI T,iI U,iI O])],nx:=79}
noncomputable def Je0:Code:=(UD (VX (UD (VX (UB Tryz.f208) 3)) 0))
def Wq0(o:Nat)(f:Nat):St:=(upE [(128,i f)] [(5,.ints 339 [] 125 (UI c T U O (fwF c (fwO c (rdM c T U O a b u v n) o) o f))),(0,.cells 101 [i c,i T,i U,i O])] (Jb4 c T U O n a b u v o))
def EO(o:Nat)(f:Nat):G8->Option St
 | .exit 10=>some (upE [(128,i ((c:Int)+1))] [(5,.ints 339 [] 125 (UI c T U O (fwF c (fwO c (rdM c T U O a b u v n) o) o (c+1)))),(0,.cells 101 [i c,i T,i U,i O])] (Jb4 c T U O n a b u v o))
 |_=>none
def Jx2(o:Nat):CT:= .leaf (.exit 10,(EO c T U O n a b u v o 0 (.exit 10)).getD (Jb4 c T U O n a b u v o))
def Zg0(o:Nat):UN:=GO [] (HI (Wq0 c T U O n a b u v o (0)) (Jx2 c T U O n a b u v o))
def e8(o:Nat)(f:Nat):St:={σ:=[agg [iI (c:Int),iI T,iI U,iI O],X8 n a b u v,ptr 0 0,top,QV,AV.lit false,ptr 5 0,top,top,top,AV.mp 63,top,top,iI (o:Int),iI (f:Int)]++HR 7 [iI ((c:Int)+1),iI ((c:Int)+1)]++HR 21 [iI (c:Int),iI (c:Int)]++HR 34 [X8 n a b u v,iI (n:Int),iI (n:Int)]++HR 37 [iI ((c:Int)+1),iI (o:Int),top,top,top,top,iI ((c:Int)+1),iI (f:Int),top,top,top,top,iI ((c:Int)+1)]++HR 44 [],m:=[(5,GU.ints 339 [] 125 λk=>UI (c:Int) T U O (fwF c (fwO c (rdM c T U O a b u v n) o) o f) k),(0,GU.cells 101 [iI (c:Int),iI T,iI U,iI O])],nx:=86}
noncomputable def Xl2:Code:=(UD (VX (UD (VX (UD (VX (UB Tryz.f208) 3)) 0)) 0))
def IV(o:Nat)(f:Nat)(t:Nat):St:=(upE [(134,i t)] [(5,.ints 339 [] 125 (UI c T U O (fwT (fwF c (fwO c (rdM c T U O a b u v n) o) o f) o f t))),(0,.cells 101 [i c,i T,i U,i O])] (e8 c T U O n a b u v o f))
def B6(o:Nat)(f:Nat)(t:Nat):G8->Option St
 | .exit 12=>some (upE [(134,i ((c:Int)+1))] [(5,.ints 339 [] 125 (UI c T U O (fwT (fwF c (fwO c (rdM c T U O a b u v n) o) o f) o f (c+1)))),(0,.cells 101 [i c,i T,i U,i O])] (e8 c T U O n a b u v o f))
 |_=>none
def Xe6(o:Nat)(f:Nat):CT:= .leaf (.exit 12,(B6 c T U O n a b u v o f 0 (.exit 12)).getD (e8 c T U O n a b u v o f))
def oN(o:Nat)(f:Nat):UN:=GO [] (HI (IV c T U O n a b u v o f (0)) (Xe6 c T U O n a b u v o f))
theorem Wi4(o:Nat)(f:Nat)(VW:1<=c/\c<=10)(UG:1<=U/\U<=O/\O<=200/\1<=T/\T<=2000)(HX:n<=1000)(F6:DH (λk=>rdB c (a k) (b k) (u k) (v k)) n=true)(qD:o<=c)(j6:f<=c):GD VU (.loop Xl2) (oN c T U O n a b u v o f):=by
 refine UV [] (L:=[]) (Ae P7 Aa) (Ai Ab (Ag LX Ac)) U3 U7 (X:=Nat) (IV c T U O n a b u v o f) (λt=>t<=c+1) (λt=>c+1-t) (B6 c T U O n a b u v o f) (x0:=0) VY ?_ ?_ ?_;rintro t;kernel_rfl;rintro t y E h;unfold B6 at h;split at h;cases h;kernel_rfl;cases h;rintro Q hQ t hx;refine ⟨(t+1),?_⟩;(with_reducible refine DG (t:=let z2:=(fwF c (fwO c (rdM c T U O a b u v n) o) o f);let A:=(fwT z2 o f t);let W:=(U4 ((c:Int)+1));let z3:=(UI (c:Int) T U O A (t*1+(f*11+4)));(branch (decide ((t:Int)<(c:Int)+1)) (need [UO f 11] (need [UO o 11] (need [o*1+(f*11+4)<125] (need [UO o 11] (need [UO t 11] (need [t*1+(o*11+4)<125] (need [VQ (UI (c:Int) T U O A (o*1+(f*11+4))+UI (c:Int) T U O A (t*1+(o*11+4)))] (need [UO f 11] (need [UO t 11] (need [t*1+(f*11+4)<125] (need [UO f 11] (need [UO t 11] (need [t*1+(f*11+4)+List.length [min z3 (UI (c:Int) T U O A (o*1+(f*11+4))+UI (c:Int) T U O A (t*1+(o*11+4)))]<=125] (need [VQ ((t:Int)+1)] (need [U4 (agg [iI (c:Int),iI T,iI U,iI O]),Q4 n a b u v,XJ,QV=QV,X6,XV,ZI,U4 (o:Int),U4 (f:Int),W,W,U4 (c:Int),U4 (c:Int),Q4 n a b u v,U4 (n:Int),U4 (n:Int),W,U4 (o:Int),W,U4 (f:Int),W,(t:Int)+1=(↑(t+1):Int),125=125,GZ 125 (UX (t*1+(f*11+4)) (min z3 (UI (c:Int) T U O A (o*1+(f*11+4))+UI (c:Int) T U O A (t*1+(o*11+4)))) (UI (c:Int) T U O A)) (UI (c:Int) T U O (fwT z2 o f (t+1))),U4 (c:Int),T=T,U=U,O=O] (leaf G8.normal)))))))))))))))) (need [U4 (agg [iI (c:Int),iI T,iI U,iI O]),Q4 n a b u v,XJ,QV=QV,X6,XV,ZI,U4 (o:Int),U4 (f:Int),W,W,U4 (c:Int),U4 (c:Int),Q4 n a b u v,U4 (n:Int),U4 (n:Int),W,U4 (o:Int),W,U4 (f:Int),W,(t:Int)=(c:Int)+1,125=125,GZ 125 (UI (c:Int) T U O A) (UI (c:Int) T U O (fwT z2 o f (c+1))),U4 (c:Int),T=T,U=U,O=O] (leaf (G8.exit 12))))) VZ ?_);simp only [Xe6,B6,VR.sat,GW] at hQ;simp only [VR.sat,UF,G6,GQ,UH,VQ,UK,H6,FW,FZ,RP,GR,B6]
 have hv: ∀j,j<n->0<=u j/\u j<=v j/\v j<=2000:=by
  intro j hj;have:=H3.1 F6 j hj;simp only [rdB,HF,bt_iff,insB_iff] at this;omega
 have hl:=λx y=>Js3 (c:=c) (pY (c:=c) (a:=a) (b:=b) UG hv n (Am _)) (o:=o) (f:=f) (t:=t) VO x y;have hfo:=hl f o;have hot:=hl o t;refine ⟨λh=>?_,λh=>?_⟩
 ·have h1: ∀M,UI c T U O M (o*1+(f*11+4))=M f o:=λM=>qR _ _ _ _ _ VO VO;have h2: ∀M,UI c T U O M (t*1+(o*11+4))=M o t:=λM=>qR _ _ _ _ _ VO VO;have h3: ∀M v,UX (t*1+(f*11+4)) (min (UI c T U O M (t*1+(f*11+4))) v) (UI c T U O M)=UI c T U O (bnd M f t v):=λM v=>jR VO VO;simp only [h3];simp only [h1,h2]
  (with_reducible repeat' first|apply Al|intro _)
  all_goals first|exact Ak|omega|with_reducible rfl|(rename_i E hE;cases hE;exact hQ)|rfl
 ·obtain rfl:t=c+1:=VO
  (with_reducible repeat' first|apply Al|intro _)
  all_goals first|exact Ak|omega|with_reducible rfl|(rename_i E hE;cases hE;exact hQ)|rfl
theorem Jl9(o:Nat)(VW:1<=c/\c<=10)(UG:1<=U/\U<=O/\O<=200/\1<=T/\T<=2000)(HX:n<=1000)(F6:DH (λk=>rdB c (a k) (b k) (u k) (v k)) n=true)(qD:o<=c):GD VU (.loop Je0) (Zg0 c T U O n a b u v o):=by
 refine UV [] (L:=[BQ 14 (λk=>FX [k<=c] (oN c T U O n a b u v o k))]) (Ae P7 Aa) (Ai Ab (Ag LX Ac)) U3 (G0 (λcj hcj=>by
  have e:VX Je0 0=some (.loop Xl2):=VZ;rw [e] at hcj;cases hcj;exact LE (λk=>DB (λh=>Wi4 c T U O n a b u v o k VW UG HX F6 qD h)))) (X:=Nat) (Wq0 c T U O n a b u v o) (λf=>f<=c+1) (λf=>c+1-f) (EO c T U O n a b u v o) (x0:=0) VY ?_ ?_ ?_
 rintro f;kernel_rfl;rintro f y E h;unfold EO at h;split at h;cases h;kernel_rfl;cases h;rintro Q hQ f hx;refine ⟨(f+1),?_⟩;(with_reducible refine DG (t:=let A:=(U4 ((c:Int)+1));let W:=(fwO c (rdM c T U O a b u v n) o);let z2:=(U4 (agg [iI (c:Int),iI T,iI U,iI O]));let z3:=Q4 n a b u v;(branch (decide ((f:Int)<(c:Int)+1)) (need [VQ ((c:Int)+1)] (need [f<=c] (need [z2,z3,XJ,QV=QV,X6,XV,ZI,U4 (o:Int),U4 (f:Int),A,A,U4 (c:Int),U4 (c:Int),z3,U4 (n:Int),U4 (n:Int),A,U4 (o:Int),A,U4 (f:Int),A,(0:Int)=((0:Nat):Int),125=125,GZ 125 (UI (c:Int) T U O (fwF c W o f)) (UI (c:Int) T U O (fwT (fwF c W o f) o f 0)),U4 (c:Int),T=T,U=U,O=O] (need [VQ ((f:Int)+1)] (need [z2,z3,XJ,QV=QV,X6,XV,ZI,U4 (o:Int),A,A,U4 (c:Int),U4 (c:Int),z3,U4 (n:Int),U4 (n:Int),A,U4 (o:Int),A,(f:Int)+1=(↑(f+1):Int),125=125,GZ 125 (UI (c:Int) T U O (fwT (fwF c W o f) o f (c+1))) (UI (c:Int) T U O (fwF c W o (f+1))),U4 (c:Int),T=T,U=U,O=O] (leaf G8.normal)))))) (need [z2,z3,XJ,QV=QV,X6,XV,ZI,U4 (o:Int),A,A,U4 (c:Int),U4 (c:Int),z3,U4 (n:Int),U4 (n:Int),A,U4 (o:Int),A,(f:Int)=(c:Int)+1,125=125,GZ 125 (UI (c:Int) T U O (fwF c W o f)) (UI (c:Int) T U O (fwF c W o (c+1))),U4 (c:Int),T=T,U=U,O=O] (leaf (G8.exit 10))))) VZ ?_);simp only [Jx2,EO,VR.sat,GW] at hQ;simp only [VR.sat,UF,G6,GQ,UH,VQ,UK,H6,FW,FZ,RP,GR,EO]
 refine ⟨λh=>?_,λh=>?_⟩
 ·(with_reducible repeat' first|apply Al|intro _)
  all_goals first|exact Ak|omega|with_reducible rfl|(rename_i E hE;cases hE;exact hQ)|rfl
 ·obtain rfl:f=c+1:=VO
  (with_reducible repeat' first|apply Al|intro _)
  all_goals first|exact Ak|omega|with_reducible rfl|(rename_i E hE;cases hE;exact hQ)|rfl
theorem Wj2(VW:1<=c/\c<=10)(UG:1<=U/\U<=O/\O<=200/\1<=T/\T<=2000)(HX:n<=1000)(F6:DH (λk=>rdB c (a k) (b k) (u k) (v k)) n=true):GD VU (.loop Wa8) (oO c T U O n a b u v):=by
 refine UV [] (L:=[BQ 13 (λk=>FX [k<=c] (Zg0 c T U O n a b u v k))]) (Ae P7 Aa) (Ai Ab (Ag LX Ac)) U3 (G0 (λcj hcj=>by
  have e:VX Wa8 0=some (.loop Je0):=VZ;rw [e] at hcj;cases hcj;exact LE (λk=>DB (λh=>Jl9 c T U O n a b u v k VW UG HX F6 h)))) (X:=Nat) (IW c T U O n a b u v) (λo=>o<=c+1) (λo=>c+1-o) (qW c T U O n a b u v) (x0:=0) VY ?_ ?_ ?_
 rintro o;kernel_rfl;rintro o y E h;unfold qW at h;split at h;cases h;kernel_rfl;cases h;rintro Q hQ o hx;refine ⟨(o+1),?_⟩;(with_reducible refine DG (t:=let A:=(U4 ((c:Int)+1));let W:=(rdM c T U O a b u v n);let z2:=(U4 (agg [iI (c:Int),iI T,iI U,iI O]));let z3:=Q4 n a b u v;(branch (decide ((o:Int)<(c:Int)+1)) (need [VQ ((c:Int)+1)] (need [o<=c] (need [z2,z3,XJ,QV=QV,X6,XV,ZI,U4 (o:Int),A,A,U4 (c:Int),U4 (c:Int),z3,U4 (n:Int),U4 (n:Int),A,U4 (o:Int),A,(0:Int)=((0:Nat):Int),125=125,GZ 125 (UI (c:Int) T U O (fwO c W o)) (UI (c:Int) T U O (fwF c (fwO c W o) o 0)),U4 (c:Int),T=T,U=U,O=O] (need [VQ ((o:Int)+1)] (need [z2,z3,XJ,QV=QV,X6,XV,ZI,A,A,U4 (c:Int),U4 (c:Int),z3,U4 (n:Int),U4 (n:Int),A,(o:Int)+1=(↑(o+1):Int),125=125,GZ 125 (UI (c:Int) T U O (fwF c (fwO c W o) o (c+1))) (UI (c:Int) T U O (fwO c W (o+1))),U4 (c:Int),T=T,U=U,O=O] (leaf G8.normal)))))) (need [z2,z3,XJ,QV=QV,X6,XV,ZI,A,A,U4 (c:Int),U4 (c:Int),z3,U4 (n:Int),U4 (n:Int),A,(o:Int)=(c:Int)+1,125=125,GZ 125 (UI (c:Int) T U O (fwO c W o)) (UI (c:Int) T U O (fwO c W (c+1))),U4 (c:Int),T=T,U=U,O=O] (leaf (G8.exit 8))))) VZ ?_);simp only [Xe7,qW,VR.sat,GW] at hQ;simp only [VR.sat,UF,G6,GQ,UH,VQ,UK,H6,FW,FZ,RP,GR,qW]
 refine ⟨λh=>?_,λh=>?_⟩
 ·(with_reducible repeat' first|apply Al|intro _)
  all_goals first|exact Ak|omega|with_reducible rfl|(rename_i E hE;cases hE;exact hQ)|rfl
 ·obtain rfl:o=c+1:=VO
  (with_reducible repeat' first|apply Al|intro _)
  all_goals first|exact Ak|omega|with_reducible rfl|(rename_i E hE;cases hE;exact hQ)|rfl
def fwM:Nat->Cg:=fwO c (rdM c T U O a b u v n) (c+1)
def okR:Bool:=DH (λk=>decide (0<=fwM c T U O n a b u v k k)) (c+1)
def Xk1:St:={σ:=[agg [iI (c:Int),iI T,iI U,iI O],X8 n a b u v,ptr 0 0,top,top,top,ptr 5 0,top,top,top,AV.mp 63]++HR 11 [iI ((c:Int)+1),iI ((c:Int)+1)]++HR 21 [iI (c:Int),iI (c:Int)]++HR 34 [X8 n a b u v,iI (n:Int),iI (n:Int)]++HR 37 [iI ((c:Int)+1),iI ((c:Int)+1)]++HR 40 [iI ((c:Int)+1)]++HR 14 [],m:=[(5,GU.ints 339 [] 125 λk=>UI (c:Int) T U O (fwO c (rdM c T U O a b u v n) (c+1)) k),(0,GU.cells 101 [iI (c:Int),iI T,iI U,iI O])],nx:=76}
noncomputable def Kc1:Code:=UD (VX (UB Tryz.f208) 4)
def Wp9(k:Nat):St:=(upE [(164,i k)] [(5,.ints 339 [] 125 (UI c T U O (fwM c T U O n a b u v))),(0,.cells 101 [i c,i T,i U,i O])] (Xk1 c T U O n a b u v))
def fM(k:Nat):G8->Option St
 | .ret=>some (upE [(4,.x (.pointer none)),(5,.lit false),(164,.top)] [(5,.ints 339 [] 125 (UI c T U O (fwM c T U O n a b u v))),(0,.cells 101 [i c,i T,i U,i O])] (Xk1 c T U O n a b u v))
 | .exit 14=>some (upE [(164,.top)] [(5,.ints 339 [] 125 (UI c T U O (fwM c T U O n a b u v))),(0,.cells 101 [i c,i T,i U,i O])] (Xk1 c T U O n a b u v))
 |_=>none
def Jx1:CT:= .branch (okR c T U O n a b u v) (.leaf (.exit 14,(fM c T U O n a b u v 0 (.exit 14)).getD (Xk1 c T U O n a b u v))) (.leaf (.ret,(fM c T U O n a b u v 0 .ret).getD (Xk1 c T U O n a b u v)))
def Zf9:UN:=GO [] (HI (Wp9 c T U O n a b u v (0)) (Jx1 c T U O n a b u v))
theorem Jl7(VW:1<=c/\c<=10)(UG:1<=U/\U<=O/\O<=200/\1<=T/\T<=2000)(HX:n<=1000)(F6:DH (λk=>rdB c (a k) (b k) (u k) (v k)) n=true):GD VU (.loop Kc1) (Zf9 c T U O n a b u v):=by
 refine UV [] (L:=[]) (Ae P7 Aa) (Ai Ab (Ag LX Ac)) U3 U7 (X:=Nat) (Wp9 c T U O n a b u v) (λk=>k<=c+1/\ ∀j,j<k->0<=fwM c T U O n a b u v j j) (λk=>c+1-k) (fM c T U O n a b u v) (x0:=0) VY ?_ ?_ ?_;rintro k;kernel_rfl;rintro k y E h;unfold fM at h;split at h;cases h;kernel_rfl;cases h;kernel_rfl;cases h;rintro Q hQ k hx;refine ⟨(k+1),?_⟩;(with_reducible refine DG (t:=let A:=(U4 ((c:Int)+1));let W:=(fwM c T U O n a b u v);let z2:=(U4 (agg [iI (c:Int),iI T,iI U,iI O]));let z3:=Q4 n a b u v;(branch (decide ((k:Int)<(c:Int)+1)) (need [UO k 11] (need [UO k 11] (need [k*1+(k*11+4)<125] (branch (decide (UI (c:Int) T U O W (k*1+(k*11+4))<0)) (need [z2,z3,XJ,QV=QV,X6,XV,ZI,A,A,U4 (c:Int),U4 (c:Int),z3,U4 (n:Int),U4 (n:Int),A,A,A,125=125,GV 125 (UI (c:Int) T U O W),U4 (c:Int),T=T,U=U,O=O] (leaf G8.ret)) (need [VQ ((k:Int)+1)] (need [z2,z3,XJ,XV,ZI,A,A,U4 (c:Int),U4 (c:Int),z3,U4 (n:Int),U4 (n:Int),A,A,A,(k:Int)+1=(↑(k+1):Int),125=125,GV 125 (UI (c:Int) T U O W),U4 (c:Int),T=T,U=U,O=O] (leaf G8.normal))))))) (need [z2,z3,XJ,XV,ZI,A,A,U4 (c:Int),U4 (c:Int),z3,U4 (n:Int),U4 (n:Int),A,A,A,125=125,GV 125 (UI (c:Int) T U O W),U4 (c:Int),T=T,U=U,O=O] (leaf (G8.exit 14))))) VZ ?_);simp only [Jx1,fM,VR.sat,GW] at hQ;simp only [VR.sat,UF,G6,GQ,UH,VQ,UK,H6,FW,FZ,RP,GR,fM]
 have h1:UI c T U O (fwM c T U O n a b u v) (k*1+(k*11+4))=fwM c T U O n a b u v k k\/11<=k:=by
  rcases An k 11 with h|h;exact .inl (qR _ _ _ _ _ VO h);exact .inr h
 refine ⟨λh=>?_,λh=>?_⟩;have h2:=h1.resolve_right VO;rw [h2];refine ⟨VO,VO,VO,λhneg=>?_,λWu7=>?_⟩
 ·have hno:okR c T U O n a b u v=false:=by
   cases ho:okR c T U O n a b u v;rfl;have:=H3.1 ho k VO;simp at this;omega
  (with_reducible repeat' first|apply Al|intro _)
  all_goals first|exact LN|(rename_i E hE;cases hE;exact hQ.2 hno)
 exact VI
 ·obtain ⟨hx1,hx2⟩:=hx;obtain rfl:k=c+1:=VO;have Wt5:okR c T U O n a b u v=true:=H3.2 (λj hj=>by simpa using hx2 j hj)
  (with_reducible repeat' first|apply Al|intro _)
  all_goals first|exact LN|(rename_i E hE;cases hE;exact hQ.1 Wt5)
end
theorem uZ{S:Code->UN->Prop}{c:Code}{s0 s1 s2 s3 s4:UN}(h0: ∀cj,VX c 0=some cj->S cj s0)(h1: ∀cj,VX c 1=some cj->S cj s1)(h2: ∀cj,VX c 2=some cj->S cj s2)(h3: ∀cj,VX c 3=some cj->S cj s3)(h4: ∀cj,VX c 4=some cj->S cj s4):
  ∀j cj,VX c j=some cj-> ∀sp,[s0,s1,s2,s3,s4][j]? =some sp->S cj sp:=by
 intro j cj hj sp hsp
 match j with
 | 0=>simp at hsp;subst hsp;exact h0 cj hj
 | 1=>simp at hsp;subst hsp;exact h1 cj hj
 | 2=>simp at hsp;subst hsp;exact h2 cj hj
 | 3=>simp at hsp;subst hsp;exact h3 cj hj
 | 4=>simp at hsp;subst hsp;exact h4 cj hj
 |j+5=>simp at hsp
theorem US.same{P:Program}{f:FuncId}{avs avs':List AV}{t:VR AV}(h:US P f avs' t)(k:PA avs avs'):US P f avs t:=λQ hQ e w args hro hgl FU hr=>h Q hQ e w args hro hgl (k.idf FU) (k.rep hr)
section
variable (c:Nat)(T U O:Int)(n:Nat)(a b u v:Cg)
abbrev Qf2:AV:= .roI [] 125 (UI c T U O (fwM c T U O n a b u v)) 0
abbrev nilP:AV:= .x (.pointer none)
theorem aJ(VW:1<=c/\c<=10)(UG:1<=U/\U<=O/\O<=200/\1<=T/\T<=2000)(HX:n<=1000)(F6:DH (λk=>rdB c (a k) (b k) (u k) (v k)) n=true):US VU 208 [.agg [i c,i T,i U,i O],rds n a b u v] (.branch (okR c T U O n a b u v) (.leaf (.tup [Qf2 c T U O n a b u v,.lit true])) (.leaf (.tup [nilP,.lit false]))):=by
 refine GY (L:=[Zg3 c T U O n a b u v,oP c T U O n a b u v,Zg1 c T U O n a b u v,oO c T U O n a b u v,Zf9 c T U O n a b u v]) (Ae P7 Aa) (Ai Ab (Ag LX Ac)) U3 Tryz.func208 (UW Tryz.f208) (uZ (lpE (b:= .loop Je1) VZ<|(Jn0 c T U O n a b u v VW UG).N) (lpE (b:= .loop eE) VZ<|(Jm7 c T U O n a b u v VW UG).N) (lpE (b:= .loop Kc2) VZ<|(Jm4 c T U O n a b u v VW UG HX F6).N) (lpE (b:= .loop Wa8) VZ<|(Wj2 c T U O n a b u v VW UG HX F6).N) (lpE (b:= .loop Kc1) VZ<|(Jl7 c T U O n a b u v VW UG HX F6).N)) (t:=let A:=(U4 ((c:Int)+1));let W:=(U4 (agg [iI (c:Int),iI T,iI U,iI O]));let z2:=(UI (c:Int) T U O (cel c U O c) (c*1+4));let z3:=(UX (c*1+4) (min z2 T) (UI (c:Int) T U O (cel c U O c)) (0+(c*11+4)));let z4:=Q4 n a b u v;(need [VQ ((c:Int)+1)] (need [W,z4,XJ,QV=QV,X6,XV,A,(0:Int)=((0:Nat):Int),List.length ([(c:Int),T,U,O]++eH 121)=125,GZ 125 (UE ([(c:Int),T,U,O]++eH 121)) (UI (c:Int) T U O (ini c 0 0)),U4 (c:Int),T=T,U=U,O=O] (need [W,z4,XJ,QV=QV,X6,XV,A,A,U4 (c:Int),(0:Int)=((0:Nat):Int),125=125,GZ 125 (UI (c:Int) T U O (ini c (c+1) 0)) (UI (c:Int) T U O (cel c U O 0)),U4 (c:Int),T=T,U=U,O=O] (need [UO 0 11] (need [UO c 11] (need [c*1+4<125] (need [UO 0 11] (need [UO c 11] (need [c*1+4+List.length [min z2 T]<=125] (need [VQ (-T)] (need [UO c 11] (need [UO 0 11] (need [0+(c*11+4)<125] (need [UO c 11] (need [UO 0 11] (need [0+(c*11+4)+List.length [min z3 (-T)]<=125] (need [W,z4,XJ,QV=QV,X6,XV,ZI,A,A,U4 (c:Int),U4 (c:Int),z4,U4 (n:Int),(0:Int)=((0:Nat):Int),125=125,GZ 125 (UX (0+(c*11+4)) (min z3 (-T)) (kA (c*1+4) [min z2 T] (UI (c:Int) T U O (cel c U O c)))) (UI (c:Int) T U O (rdM c T U O a b u v 0)),U4 (c:Int),T=T,U=U,O=O,∀(k:Value),False->sn a b u v 0 k/\k=Value.bool true] (need [VQ ((c:Int)+1)] (need [W,z4,XJ,QV=QV,X6,XV,ZI,A,A,U4 (c:Int),U4 (c:Int),z4,U4 (n:Int),U4 (n:Int),A,(0:Int)=((0:Nat):Int),125=125,GZ 125 (UI (c:Int) T U O (rdM c T U O a b u v n)) (UI (c:Int) T U O (fwO c (rdM c T U O a b u v n) 0)),U4 (c:Int),T=T,U=U,O=O] (need [VQ ((c:Int)+1)] (need [W,z4,XJ,XV,ZI,A,A,U4 (c:Int),U4 (c:Int),z4,U4 (n:Int),U4 (n:Int),A,A,A,(0:Int)=((0:Nat):Int),125=125,GZ 125 (UI (c:Int) T U O (fwO c (rdM c T U O a b u v n) (c+1))) (UI (c:Int) T U O (fwM c T U O n a b u v)),U4 (c:Int),T=T,U=U,O=O] (branch (okR c T U O n a b u v) (leaf (tup [roI [] 125 (λk=>UI (c:Int) T U O (fwM c T U O n a b u v) k) 0,AV.lit true])) (leaf (tup [QV,AV.lit false]))))))))))))))))))))))))) VZ ?_
 intro Q hQ;have h1: ∀M w,UX (c*1+4) (min (UI c T U O M (c*1+4)) w) (UI c T U O M)=UI c T U O (bnd M 0 c w):=λM w=>jR VO VO;have h2: ∀M w,UX (0+(c*11+4)) (min (UI c T U O M (0+(c*11+4))) w) (UI c T U O M)=UI c T U O (bnd M c 0 w):=λM w=>jR VO VO;simp only [VR.sat,UF,UK,VQ,RP,GR,h1,h2] at hQ ⊢
 (with_reducible repeat' first|apply Al|intro _)
 all_goals first|exact Ak|omega|with_reducible rfl|rfl|exact Wh2 _ _ _ _ _ _|(rename_i h;exact h.elim)|(rename_i h;exact ⟨.tup [Qf2 c T U O n a b u v,.lit true],⟨⟨rfl,rfl,λ_ _=>rfl,rfl⟩,rfl,Ak⟩,hQ.1 h⟩)|(rename_i h;exact ⟨.tup [nilP,.lit false],⟨rfl,rfl,Ak⟩,hQ.2 h⟩)
end
def col(j:Nat)(f:Ci):Cg:=λk=>Ws9 (f k) j
def rU:DP:=λl=>match l with
 |[.agg [.x (.int .i64 c),.x (.int .i64 T),.x (.int .i64 U),.x (.int .i64 O)],.lst 4 n f]=>some (.need [UL 4 n f,1<=c/\c<=10,1<=U/\U<=O/\O<=200/\1<=T/\T<=2000,n<=1000,DH (λk=>rdB c (col 0 f k) (col 1 f k) (col 2 f k) (col 3 f k)) n=true]
   (.branch (okR c.toNat T U O n (col 0 f) (col 1 f) (col 2 f) (col 3 f)) (.leaf (.tup [Qf2 c.toNat T U O n (col 0 f) (col 1 f) (col 2 f) (col 3 f),.lit true])) (.leaf (.tup [nilP,.lit false]))))
 |_=>none
theorem xV:Enters VU 208/\ ∀avs t,rU avs=some t->US VU 208 avs t:=by
 refine ⟨(UM Tryz.func208),?_⟩;intro avs t h;unfold rU at h;split at h;rename_i c T U O n f;cases h;intro Q hQ;have I:=GI hQ.1;have hr:UL 4 n f:=I _ VY;have hc:1<=c/\c<=10:=I _ VY;have D7:DH (λk=>rdB c (col 0 f k) (col 1 f k) (col 2 f k) (col 3 f k)) n=true:=I _ VY;have e:((c.toNat:Nat):Int)=c:=VO;have h0:=aJ c.toNat T U O n (col 0 f) (col 1 f) (col 2 f) (col 3 f) VO (I _ VY) (I _ VY) (by rw [e];exact D7)
 rw [e] at h0;exact US.same h0 (.cons (.refl _) (.cons (.lst 4 n _ _ hr) .nil)) Q hQ.2;cases h
theorem B0.same{P:Program}{f:FuncId}{avs avs':List AV}{t:VR AV}(h:B0 P f avs' t)(k:PA avs avs'):B0 P f avs t:=λQ hQ e w args hro hgl FU hr=>h Q hQ e w args hro hgl (k.idf FU) (k.rep hr)
def Qn2:G4
 |[.agg [.x (.int .i64 a),.x (.int .i64 b),.x (.int .i64 u),.x (.int .i64 v)],.ro [.fn (.func 228) [.agg [.x (.int .i64 c),.x (.int .i64 T),.x (.int .i64 U),.x (.int .i64 O)]] []]]=>some ([1<=c/\c<=10],bl (!rdB c a b u v))
 |_=>none
theorem Xd8(c T U O a b u v:Int)(VW:1<=c/\c<=10):U2 VU 242 [.agg [i a,i b,i u,i v],.ro [.fn (.func 228) [.agg [i c,i T,i U,i O]] []]] (bl (!rdB c a b u v)):=by
 refine U6 (L:=[]) (Ae pV Aa) U3 Tryz.func242 (UW Tryz.f242) U7 (t:=need [(1:Int)<=c/\c<=10] (leaf (RV.x (.bool !rdB c a b u v)))) VZ ?_;simp [VR.sat,UF,G6,UH];exact VW
theorem nQ:VT VU 242 Qn2:=by
 refine ⟨(UM Tryz.func242),?_⟩;intro avs ns Z h I;unfold Qn2 at h;split at h;cases h;exact Xd8 _ _ _ _ _ _ _ _ (I _ VY);cases h
def vG(c:Int)(a b u v:Cg)(k:Nat):Bool:= !rdB c (a k) (b k) (u k) (v k)
def OJ(c:Int)(n:Nat)(a b u v:Cg):Bool:=DH (λk=>rdB c (a k) (b k) (u k) (v k)) n
abbrev X4(c:Int)(T:Int)(U:Int)(O:Int):AV:=AV.fn (Fn.func 242) [] [AV.ro [AV.fn (Fn.func 228) [agg [iI c,iI T,iI U,iI O]] []]]
section
variable (c T U O:Int)(n:Nat)(a b u v:Cg)
def oX:St:={σ:=[X8 n a b u v,X4 c T U O]++HR 5 [iI (n:Int)]++HR 11 [],m:=[],nx:=4}
noncomputable def Zj3:Code:=UD (VX (UB Tryz.f246) 0)
def Qh8(k:Nat):St:=(upM [(8,i k)] (oX c T U O n a b u v))
def yT(k:Nat):G8->Option St
 | .ret=>some (upM [(4,i (H2 (vG c a b u v) n))] (oX c T U O n a b u v))
 | .exit 0=>some (upM [] (oX c T U O n a b u v))
 |_=>none
def Zd4:CT:= .branch (decide (H2 (vG c a b u v) n<n)) (.leaf (.ret,(yT c T U O n a b u v 0 .ret).getD (oX c T U O n a b u v))) (.leaf (.exit 0,(yT c T U O n a b u v 0 (.exit 0)).getD (oX c T U O n a b u v)))
def Xi0:UN:=(HI (Qh8 c T U O n a b u v (0)) (Zd4 c T U O n a b u v))
theorem Zj6(VW:n<=100000)(UG:1<=c/\c<=10):GD VU (.loop Zj3) (Xi0 c T U O n a b u v):=by
 refine HO (L:=[]) (Ae nQ Aa) U3 U7 (X:=Nat) (Qh8 c T U O n a b u v) (λk=>k<=n/\ ∀j,j<k->vG c a b u v j=false) (λk=>n-k) (yT c T U O n a b u v) (x0:=0) VY ?_ ?_ ?_;rintro k;kernel_rfl;rintro k y E h;unfold yT at h;split at h;cases h;kernel_rfl;cases h;kernel_rfl;cases h;rintro Q hQ k hx;refine ⟨(k+1),?_⟩;(with_reducible refine DG (t:=branch (decide ((k:Int)<(n:Int))) (need [UO k n] (need [(1:Int)<=c/\c<=10] (branch (!rdB c (a k) (b k) (u k) (v k)) (need [Q4 n a b u v,U4 (X4 c T U O),(k:Int)=(↑(H2 (vG c a b u v) n):Int),U4 (n:Int)] (leaf G8.ret)) (need [VQ ((k:Int)+1)] (need [Q4 n a b u v,U4 (X4 c T U O),U4 (n:Int),(k:Int)+1=(↑(k+1):Int)] (leaf G8.normal)))))) (need [Q4 n a b u v,U4 (X4 c T U O),U4 (n:Int)] (leaf (G8.exit 0)))) VZ ?_);simp only [Zd4,yT,VR.sat,GW,H6] at hQ;simp only [VR.sat,UF,UK,H6,VQ,yT,DR];refine ⟨λh=>⟨VO,UG,λhb=>?_,λhb=>?_⟩,λh=>?_⟩;have hf:H2 (vG c a b u v) n=k:=jJ VO hb hx.2;refine ⟨VO,λE hE=>?_⟩;cases hE;exact hQ.1 VO;refine ⟨VO,VO,⟨VO,λj hj=>?_⟩,VO⟩;rcases (show j<k\/j=k by omega) with h1|rfl
 exact hx.2 j h1;exact hb;have hf:H2 (vG c a b u v) n=n:=qO (λj hj=>hx.2 j VO);intro E hE;cases hE;exact hQ.2 VO
theorem Zj7(VW:n<=100000)(UG:1<=c/\c<=10):U2 VU 246 [rds n a b u v,.fn (.func 242) [] [.ro [.fn (.func 228) [.agg [i c,i T,i U,i O]] []]]] (i (if H2 (vG c a b u v) n<n then (H2 (vG c a b u v) n:Int) else -1)):=by
 refine U6 (L:=[Xi0 c T U O n a b u v]) (Ae nQ Aa) U3 Tryz.func246 (UW Tryz.f246) (G0 (lpE (b:= .loop Zj3) VZ<|Zj6 c T U O n a b u v VW UG)) (t:=need [Q4 n a b u v,U4 (X4 c T U O),U4 (n:Int),(0:Int)=((0:Nat):Int)] (branch (decide (H2 (vG c a b u v) n<n)) (leaf (RV.x (.int .i64 (↑(H2 (vG c a b u v) n):Int)))) (leaf (RV.x (.int .i64 (-1:Int)))))) VZ ?_
 exact VD
end
theorem isRec4(n:Nat)(a b u v:Cg):UL 4 n (λk=>[i (a k),i (b k),i (u k),i (v k)]):=λ_ _=>rfl
def Zd7:G4
 |[.lst 4 n f,.fn (.func 242) [] [.ro [.fn (.func 228) [.agg [.x (.int .i64 c),.x (.int .i64 T),.x (.int .i64 U),.x (.int .i64 O)]] []]]]=>some ([UL 4 n f,n<=100000,1<=c/\c<=10],i (if H2 (vG c (col 0 f) (col 1 f) (col 2 f) (col 3 f)) n<n then (H2 (vG c (col 0 f) (col 1 f) (col 2 f) (col 3 f)) n:Int) else -1))
 |_=>none
def Ze2:G4
 |[.lst 4 n f,.fn (.func 242) [] [.ro [.fn (.func 228) [.agg [.x (.int .i64 c),.x (.int .i64 T),.x (.int .i64 U),.x (.int .i64 O)]] []]]]=>some ([UL 4 n f,n<=100000,1<=c/\c<=10],bl (!OJ c n (col 0 f) (col 1 f) (col 2 f) (col 3 f)))
 |_=>none
def Xg0:G4
 |[.lst 4 n f,.fn (.func 228) [.agg [.x (.int .i64 c),.x (.int .i64 T),.x (.int .i64 U),.x (.int .i64 O)]] []]=>some ([UL 4 n f,n<=100000,1<=c/\c<=10],bl (OJ c n (col 0 f) (col 1 f) (col 2 f) (col 3 f)))
 |_=>none
def flt(c T U O:Int)(n:Nat)(a b u v:Cg):Int:=if qQ c T U O then (if 12<n then 3 else if OJ c n a b u v then 0 else 2) else 1
def Qm6:G4
 |[.agg [.x (.int .i64 c),.x (.int .i64 T),.x (.int .i64 U),.x (.int .i64 O)],.lst 4 n f]=>some ([UL 4 n f],i (flt c T U O n (col 0 f) (col 1 f) (col 2 f) (col 3 f)))
 |_=>none
theorem Zj5:VT VU 246 Zd7:=by
 refine ⟨(UM Tryz.func246),?_⟩;intro avs ns Z h I;unfold Zd7 at h;split at h;cases h;have hr:UL 4 _ _:=I _ (GN);exact (Zj7 _ _ _ _ _ (col 0 _) (col 1 _) (col 2 _) (col 3 _) (I _ VY) (I _ VY)).same (.cons (.lst 4 _ _ _ hr) (.cons (.refl _) .nil));cases h
section
variable (c T U O:Int)(n:Nat)(a b u v:Cg)
theorem Zy0(VW:n<=100000)(UG:1<=c/\c<=10):U2 VU 241 [rds n a b u v,.fn (.func 242) [] [.ro [.fn (.func 228) [.agg [i c,i T,i U,i O]] []]]] (bl (!OJ c n a b u v)):=by
 refine U6 (L:=[]) (Ae Zj5 Aa) U3 Tryz.func241 (UW Tryz.f241) U7 (t:=need [UL 4 n λk=>[i (a k),i (b k),i (u k),i (v k)],n<=100000,(1:Int)<=c/\c<=10] (leaf (RV.x (.bool (decide ((if H2 (vG c a b u v) n<n then (↑(H2 (vG c a b u v) n):Int) else (-1:Int))>=(0:Int))))))) VZ ?_
 simp only [VR.sat,UF,G6,UH,UK];refine ⟨⟨isRec4 n _ _ _ _,VW,UG⟩,?_⟩;unfold OJ;rw [yF];have:=FA (vG c a b u v) n;have e:(λk=> !(λk=>rdB c (a k) (b k) (u k) (v k)) k)=vG c a b u v:=rfl;rw [e];split<;>simp<;>omega
theorem Zx9:VT VU 241 Ze2:=by
 refine ⟨(UM Tryz.func241),?_⟩;intro avs ns Z h I;unfold Ze2 at h;split at h;cases h;have hr:UL 4 _ _:=I _ (GN);exact (Zy0 _ _ _ _ _ (col 0 _) (col 1 _) (col 2 _) (col 3 _) (I _ VY) (I _ VY)).same (.cons (.lst 4 _ _ _ hr) (.cons (.refl _) .nil));cases h
theorem Xw3(VW:n<=100000)(UG:1<=c/\c<=10):U2 VU 229 [rds n a b u v,.fn (.func 228) [.agg [i c,i T,i U,i O]] []] (bl (OJ c n a b u v)):=by
 refine U6 (L:=[]) (Ae Zx9 Aa) U3 Tryz.func229 (UW Tryz.f229) U7 (t:=need [UL 4 n λk=>[i (a k),i (b k),i (u k),i (v k)],n<=100000,(1:Int)<=c/\c<=10] (leaf (RV.x (.bool !!OJ c n a b u v)))) VZ ?_;simp only [VR.sat,UF,G6,UH,UK];refine ⟨⟨isRec4 n _ _ _ _,VW,UG⟩,?_⟩;simp
end
theorem Xw2:VT VU 229 Xg0:=by
 refine ⟨(UM Tryz.func229),?_⟩;intro avs ns Z h I;unfold Xg0 at h;split at h;cases h;have hr:UL 4 _ _:=I _ (GN);exact (Xw3 _ _ _ _ _ (col 0 _) (col 1 _) (col 2 _) (col 3 _) (I _ VY) (I _ VY)).same (.cons (.lst 4 _ _ _ hr) (.cons (.refl _) .nil));cases h
theorem qA{c T U O:Int}(h:qQ c T U O=true):(1<=c/\c<=10)/\(1<=U/\U<=O/\O<=200/\1<=T/\T<=2000)/\c*U<=T/\T<=c*O:=by
 simp only [qQ,HF,bt_iff,insB_iff] at h;omega
theorem Xb3(c T U O:Int)(n:Nat)(a b u v:Cg):U2 VU 207 [.agg [i c,i T,i U,i O],rds n a b u v] (i (flt c T U O n a b u v)):=by
 refine U6 (L:=[]) (Ae CheckTube_ok (Ae Xw2 Aa)) U3 Tryz.func207 (UW Tryz.f207) U7 (t:=branch ((if qQ c T U O=true then (0:Int) else (1:Int)) != 0) (leaf (RV.x (.int .i64 (if qQ c T U O=true then (0:Int) else (1:Int))))) (branch (decide ((n:Int)>12)) (leaf (RV.x (.int .i64 (3:Int)))) (need [UL 4 n λk=>[i (a k),i (b k),i (u k),i (v k)],n<=100000,(1:Int)<=c/\c<=10] (branch (!OJ c n a b u v) (leaf (RV.x (.int .i64 (2:Int)))) (leaf (RV.x (JT))))))) VZ ?_
 simp only [VR.sat,UF,G6,UH,UK,flt];by_cases ht:qQ c T U O=true;have hb:=qA ht;by_cases I:12<n;simp [ht,I];omega;cases ha:OJ c n a b u v<;>simp [ht,I,ha,isRec4 n a b u v]<;>omega;simp [ht]
theorem Xb2:VT VU 207 Qm6:=by
 refine ⟨(UM Tryz.func207),?_⟩;intro avs ns Z h I;unfold Qm6 at h;split at h;cases h;have hr:UL 4 _ _:=I _ (GN);exact (Xb3 _ _ _ _ _ (col 0 _) (col 1 _) (col 2 _) (col 3 _)).same (.cons (.refl _) (.cons (.lst 4 _ _ _ hr) .nil));cases h
theorem sT(f:Cg)(k:Nat)(VW:k<=10)(UG: -1000000000000<=f (k*11+4)/\f (k*11+4)<=1000000000000):U2 VU 231 [.roI [] 125 f 0,i k] (i (-(f (k*11+4)))):=by
 refine H0 Tryz.func231 (t:=need [UO k 11] (need [UO 0 11] (need [0+(k*11+4)<125] (need [VQ (-f (0+(k*11+4)))] (leaf (RV.x (.int .i64 (-f (0+(k*11+4)))))))))) VZ ?_;simp only [VR.sat,UF,G6,GQ,UH,UK,DR];rw [show 0+(k*11+4)=k*11+4 by omega]
 simp only [VQ];simp;omega
def nX:G4
 |[.roI [] 125 f 0,.x (.int .i64 k)]=>some ([0<=k/\k<=10,-1000000000000<=f (k.toNat*11+4)/\f (k.toNat*11+4)<=1000000000000],i (-(f (k.toNat*11+4))))
 |_=>none
theorem sQ:VT VU 231 nX:=by
 refine ⟨(UM Tryz.func231),?_⟩;intro avs ns Z h I;unfold nX at h;split at h;rename_i f k;cases h;have hk:0<=k/\k<=10:=I _ VY;have e:((k.toNat:Nat):Int)=k:=VO;have h0:=sT f k.toNat VO (I _ VY);rw [e] at h0;exact h0;cases h
theorem bR(f:Cg)(k:Nat)(VW:k<=10)(UG: -1000000000000<=f (k*11+4)/\f (k*11+4)<=1000000000000):U2 VU 232 [.roI [] 125 f 0,i k] (i (f (k+4))):=by
 refine H0 Tryz.func232 (t:=need [UO 0 11] (need [UO k 11] (need [k*1+4<125] (leaf (RV.x (.int .i64 (f (k*1+4)))))))) VZ ?_;simp only [VR.sat,UF,G6,GQ,UH,UK,DR];rw [show k*1+4=k+4 by omega]
 simp only [VQ];simp;omega
def NE:G4
 |[.roI [] 125 f 0,.x (.int .i64 k)]=>some ([0<=k/\k<=10,-1000000000000<=f (k.toNat*11+4)/\f (k.toNat*11+4)<=1000000000000],i (f (k.toNat+4)))
 |_=>none
theorem bQ:VT VU 232 NE:=by
 refine ⟨(UM Tryz.func232),?_⟩;intro avs ns Z h I;unfold NE at h;split at h;rename_i f k;cases h;have hk:0<=k/\k<=10:=I _ VY;have e:((k.toNat:Nat):Int)=k:=VO;have h0:=bR f k.toNat VO (I _ VY);rw [e] at h0;exact h0;cases h
def nW:G4
 |[]=>some ([],.agg [.fn (.func 231) [] []])
 |_=>none
theorem Qt5:U2 VU 209 [] (.agg [.fn (.func 231) [] []]):=by
 refine H0 Tryz.func209 (t:=leaf (RV.agg [RV.fn (Fn.func 231)])) VZ ?_;exact V2
theorem Qt4:VT VU 209 nW:=by
 refine ⟨(UM Tryz.func209),?_⟩;intro avs ns Z h I;unfold nW at h;split at h;cases h;exact Qt5;cases h
def TP:G4
 |[]=>some ([],.agg [.fn (.func 232) [] []])
 |_=>none
theorem tN:U2 VU 210 [] (.agg [.fn (.func 232) [] []]):=by
 refine H0 Tryz.func210 (t:=leaf (RV.agg [RV.fn (Fn.func 232)])) VZ ?_;exact V2
theorem tM:VT VU 210 TP:=by
 refine ⟨(UM Tryz.func210),?_⟩;intro avs ns Z h I;unfold TP at h;split at h;cases h;exact tN;cases h
theorem Qy8(f:Cg)(k:Nat)(VW:k<=10)(UG: -1000000000000<=f (k*11+4)/\f (k*11+4)<=1000000000000):U2 VU 173 [.roI [] 125 f 0,i k] (.agg [i (-(f (k*11+4))),i (f (k+4))]):=by
 refine U6 (L:=[]) (Ae sQ (Ae bQ (Ae Qt4 (Ae tM Aa)))) U3 Tryz.func173 (UW Tryz.f173) U7 (t:=need [(0:Int)<=(k:Int)/\(k:Int)<=10,(-1000000000000:Int)<=f (k*11+4)/\f (k*11+4)<=1000000000000] (need [(0:Int)<=(k:Int)/\(k:Int)<=10,(-1000000000000:Int)<=f (k*11+4)/\f (k*11+4)<=1000000000000] (leaf (RV.agg [RV.x (.int .i64 (-f (k*11+4))),RV.x (.int .i64 (f (k+4)))])))) VZ ?_;exact V2
def o8:G4
 |[.roI [] 125 f 0,.x (.int .i64 k)]=>some ([0<=k/\k<=10,-1000000000000<=f (k.toNat*11+4)/\f (k.toNat*11+4)<=1000000000000],.agg [i (-(f (k.toNat*11+4))),i (f (k.toNat+4))])
 |_=>none
theorem zM:VT VU 173 o8:=by
 refine ⟨(UM Tryz.func173),?_⟩;intro avs ns Z h I;unfold o8 at h;split at h;rename_i f k;cases h;have hk:0<=k/\k<=10:=I _ VY;have e:((k.toNat:Nat):Int)=k:=VO;have h0:=Qy8 f k.toNat VO (I _ VY);rw [e] at h0;exact h0;cases h
def dbF(f:Cg):Nat->Int
 | 0=>0
 |k+1=>max (dbF f k) (f (k+4)- -(f (k*11+4)))
theorem Qa1{f:Cg}{c:Nat}(h: ∀k,k<=c->(-1000000000000<=f (k*11+4)/\f (k*11+4)<=1000000000000)/\(-1000000000000<=f (k+4)/\f (k+4)<=1000000000000)): ∀k,k<=c+1->0<=dbF f k/\dbF f k<=2000000000000
 | 0,_=>by simp [dbF]
 |k+1,hk=>by
  have:=Qa1 h k VO;have:=h k VO;simp only [dbF];omega
abbrev KJ(f:Cg):AV:=roI [] 125 (λa=>f a) 0
def Jd5(c:Nat)(f:Cg):St:={σ:=[KJ f]++HR 9 [iI (f 0+1)]++HR 16 [],m:=[],nx:=8}
noncomputable def Ke2:Code:=UD (VX (UB Tryz.f217) 0)
section
variable (c:Nat)(f:Cg)
def Ws5(k:Nat):St:=(upM [(2,i (dbF f k)),(11,i k)] (Jd5 c f))
def IA(k:Nat):G8->Option St
 | .exit 0=>some (upM [(2,i (dbF f (c+1))),(11,i ((c+1:Nat):Int))] (Jd5 c f))
 |_=>none
def Jz8:CT:= .leaf (.exit 0,(IA c f 0 (.exit 0)).getD (Jd5 c f))
def Zi9:UN:=(HI (Ws5 c f (0)) (Jz8 c f))
theorem Jt9(VW:c<=10)(UG:f 0=c)(HX: ∀k,k<=c->(-1000000000000<=f (k*11+4)/\f (k*11+4)<=1000000000000)/\(-1000000000000<=f (k+4)/\f (k+4)<=1000000000000)):GD VU (.loop Ke2) (Zi9 c f):=by
 refine HO (L:=[]) (Ae zM (Ae A9 Aa)) U3 U7 (X:=Nat) (Ws5 c f) (λk=>k<=c+1) (λk=>c+1-k) (IA c f) (x0:=0) VY ?_ ?_ ?_;rintro k;kernel_rfl;rintro k y E h;unfold IA at h;split at h;cases h;kernel_rfl;cases h;rintro Q hQ k hx;refine ⟨(k+1),?_⟩;(with_reducible refine DG (t:=branch (decide ((k:Int)<f 0+1)) (need [(0:Int)<=(k:Int)/\(k:Int)<=10,(-1000000000000:Int)<=f (k*11+4)/\f (k*11+4)<=1000000000000] (need [VQ (f (k+4)- -f (k*11+4))] (need [VQ ((k:Int)+1)] (need [KJ f=KJ f,max (dbF f k) (f (k+4)- -f (k*11+4))=dbF f (k+1),U4 (f 0+1),(k:Int)+1=(↑(k+1):Int)] (leaf G8.normal))))) (need [KJ f=KJ f,dbF f k=dbF f (c+1),U4 (f 0+1),(k:Int)=(↑(c+1):Int)] (leaf (G8.exit 0)))) VZ ?_);simp only [Jz8,IA,VR.sat,GW] at hQ;simp only [VR.sat,UF,UK,H6,VQ,IA,DR];refine ⟨λh=>?_,λh=>?_⟩;have h1:=HX k VO;have h2:=Qa1 HX k VO;refine ⟨⟨VO,h1.1⟩,VO,VO,⟨rfl,VO⟩,VO,VO⟩;obtain rfl:k=c+1:=VO;exact ⟨⟨rfl,rfl⟩,λE hE=>by cases hE;exact hQ⟩
theorem Xa8(VW:c<=10)(UG:f 0=c)(HX: ∀k,k<=c->(-1000000000000<=f (k*11+4)/\f (k*11+4)<=1000000000000)/\(-1000000000000<=f (k+4)/\f (k+4)<=1000000000000)):U2 VU 217 [.roI [] 125 f 0] (i (dbF f (c+1))):=by
 refine U6 (L:=[Zi9 c f]) (Ae zM (Ae A9 Aa)) U3 Tryz.func217 (UW Tryz.f217) (G0 (lpE (b:= .loop Ke2) VZ<|Jt9 c f VW UG HX)) (t:=need [0<125] (need [VQ (f 0+1)] (need [KJ f=KJ f,(0:Int)=dbF f 0,U4 (f 0+1),(0:Int)=((0:Nat):Int)] (leaf (RV.x (.int .i64 (dbF f (c+1)))))))) VZ ?_
 simp only [VR.sat,UF,G6,GQ,UH,UK,DR];simp only [VQ];have h2:=Qa1 HX (c+1) VO;all_goals exact V8
end
def Qm5:G4
 |[.roI [] 125 f 0]=>some ([0<=f 0/\f 0<=10,∀k,k<=(f 0).toNat->(-1000000000000<=f (k*11+4)/\f (k*11+4)<=1000000000000)/\(-1000000000000<=f (k+4)/\f (k+4)<=1000000000000)],i (dbF f ((f 0).toNat+1)))
 |_=>none
theorem Xa7:VT VU 217 Qm5:=by
 refine ⟨(UM Tryz.func217),?_⟩;intro avs ns Z h I;unfold Qm5 at h;split at h;rename_i f;cases h;have hk:0<=f 0/\f 0<=10:=I _ VY;exact Xa8 (f 0).toNat f VO VO (I _ VY);cases h
section
variable (c T U O:Int)(n:Nat)(a b u v:Cg)
abbrev iJ:AV:=Qf2 c.toNat T U O n a b u v
def okB:Bool:=okR c.toNat T U O n a b u v
def w9(r:Bool):Int:=if flt c T U O n a b u v=0 then (if r then (if okB c T U O n a b u v then 0 else 9) else 2) else flt c T U O n a b u v
end
section
variable {c T U O:Int}{n:Nat}{a b u v:Cg}
theorem v7:flt c T U O n a b u v=0↔qQ c T U O=true/\n<=12/\DH (λk=>rdB c (a k) (b k) (u k) (v k)) n=true:=by
 unfold flt OJ;split;rename_i h1;split;rename_i h2;constructor;intro h;cases h;intro h;omega;rename_i h2;split;rename_i h3;exact ⟨λ_=>⟨h1,VO,h3⟩,λ_=>rfl⟩;rename_i h3;constructor;intro h;cases h;intro h;exact absurd h.2.2 h3;rename_i h1;constructor;intro h;cases h;intro h;exact absurd h.1 h1
theorem dO{r:Bool}:w9 c T U O n a b u v r=0↔flt c T U O n a b u v=0/\r=true/\okB c T U O n a b u v=true:=by
 unfold w9;split;rename_i h1;split;rename_i h2;split;rename_i h3;simp [h1,h2,h3];rename_i h3;simp [h1,h2,h3];rename_i h2;simp [h1,h2];rename_i h1;simp [h1]
end
theorem eW(c T U O:Int)(n:Nat)(a b u v:Cg)(r:Bool):US VU 172 [.agg [i c,i T,i U,i O],rds n a b u v,bl r] (.branch (decide (w9 c T U O n a b u v r=0)) (.leaf (.tup [iJ c T U O n a b u v,i 0])) (.leaf (.tup [nilP,i (w9 c T U O n a b u v r)]))):=by
 refine GY (L:=[]) (Ae Xb2 Aa) (Aj Ab Ac (Ah xV (UJ.nil _))) U3 Tryz.func172 (UW Tryz.f172) G9 (t:=need [UL 4 n λk=>[i (a k),i (b k),i (u k),i (v k)]] (branch (flt c T U O n a b u v != 0) (leaf (tup [QV,iI (flt c T U O n a b u v)])) (branch (!r) (leaf (tup [QV,iI 2])) (need [UL 4 n λk=>[i (a k),i (b k),i (u k),i (v k)],(1:Int)<=c/\c<=10,(1:Int)<=U/\U<=O/\O<=200/\(1:Int)<=T/\T<=2000,n<=1000,DH (λk=>rdB c (a k) (b k) (u k) (v k)) n=true] (branch (okR (Int.toNat c) T U O n a b u v) (leaf (tup [roI [] 125 (λk=>UI (Int.toNat c:Int) T U O (fwM (Int.toNat c) T U O n a b u v) k) 0,iI 0])) (leaf (tup [QV,iI 9]))))))) VZ ?_;intro Q hQ;have e:c.toNat=c\/c<0:=VO;simp only [VR.sat,UF,UK,FZ,H6,Ax] at hQ ⊢;refine ⟨isRec4 n a b u v,λh1=>?_,λh1=>?_⟩;refine ⟨.tup [nilP,i (flt c T U O n a b u v)],⟨rfl,⟨rfl,rfl⟩,Ak⟩,?_⟩;have h2:w9 c T U O n a b u v r=flt c T U O n a b u v:=by unfold w9;rw [if_neg h1]
 rw [h2] at hQ;exact hQ.2 h1;have hf:=v7.1 h1;have hb:=qA hf.1;refine ⟨λh2=>?_,λh2=>⟨⟨isRec4 n a b u v,hb.1,hb.2.1,by have:=hf.2.1;omega,hf.2.2⟩,λh3=>?_,λh3=>?_⟩⟩
 subst h2;have h4:w9 c T U O n a b u v false=2:=by unfold w9;rw [if_pos h1];rfl
 rw [h4] at hQ;exact ⟨.tup [nilP,i 2],⟨rfl,⟨rfl,rfl⟩,Ak⟩,hQ.2 VO⟩;have h2:r=true:=by simpa using h2
 subst h2;have h4:w9 c T U O n a b u v true=0:=dO.2 ⟨h1,rfl,h3⟩;exact ⟨.tup [iJ c T U O n a b u v,i 0],⟨⟨rfl,rfl,λ_ _=>rfl,rfl⟩,⟨rfl,rfl⟩,Ak⟩,hQ.1 h4⟩;have h2:r=true:=by simpa using h2
 subst h2;have h4:w9 c T U O n a b u v true=9:=by unfold w9 okB;rw [if_pos h1,h3];rfl
 rw [h4] at hQ;exact ⟨.tup [nilP,i 9],⟨rfl,⟨rfl,rfl⟩,Ak⟩,hQ.2 VO⟩
def eA:DP:=λl=>match l with
 |[.agg [.x (.int .i64 c),.x (.int .i64 T),.x (.int .i64 U),.x (.int .i64 O)],.lst 4 n f,.x (.bool r)]=>some (.need [UL 4 n f] (.branch (decide (w9 c T U O n (col 0 f) (col 1 f) (col 2 f) (col 3 f) r=0)) (.leaf (.tup [iJ c T U O n (col 0 f) (col 1 f) (col 2 f) (col 3 f),i 0])) (.leaf (.tup [nilP,i (w9 c T U O n (col 0 f) (col 1 f) (col 2 f) (col 3 f) r)]))))
 |[.agg [.x (.int .i64 c),.x (.int .i64 T),.x (.int .i64 U),.x (.int .i64 O)],.lst 4 n f,.lit r]=>some (.need [UL 4 n f] (.branch (decide (w9 c T U O n (col 0 f) (col 1 f) (col 2 f) (col 3 f) r=0)) (.leaf (.tup [iJ c T U O n (col 0 f) (col 1 f) (col 2 f) (col 3 f),i 0])) (.leaf (.tup [nilP,i (w9 c T U O n (col 0 f) (col 1 f) (col 2 f) (col 3 f) r)]))))
 |_=>none
theorem U8.lits{e:UP}{w:World}{r:Bool}: ∀{l:List AV} {vs:List Value},U8 e w (l++[.lit r]) vs->U8 e w (l++[.x (.bool r)]) vs
 |[],vs,h=>by
  obtain ⟨v,vs',rfl,hv,hvs⟩:=h.cons_inv;cases hv;exact U8.cons (.x _) hvs
 |a::l,vs,h=>by
  obtain ⟨v,vs',rfl,hv,hvs⟩:=h.cons_inv;exact U8.cons hv (U8.lits hvs)
theorem US.lits{P:Program}{f:FuncId}{l:List AV}{r:Bool}{t:VR AV}(h:US P f (l++[.x (.bool r)]) t):US P f (l++[.lit r]) t:=λQ hQ e w args hro hgl FU hr=>h Q hQ e w args hro hgl (λa ha=>by
 rcases List.mem_append.1 ha with h1|h1;exact FU a (Bd _ h1);cases B2.1 h1;exact .x _) (U8.lits hr)
theorem fC:Enters VU 172/\ ∀avs t,eA avs=some t->US VU 172 avs t:=by
 refine ⟨(UM Tryz.func172),?_⟩;intro avs t h;unfold eA at h;split at h;rename_i c T U O n f r;cases h;intro Q hQ;have hr:UL 4 n f:=GI hQ.1 _ VY;exact US.same (eW c T U O n (col 0 f) (col 1 f) (col 2 f) (col 3 f) r) (.cons (.refl _) (.cons (.lst 4 n _ _ hr) (.cons (.refl _) .nil))) Q hQ.2;rename_i c T U O n f r;cases h;intro Q hQ;have hr:UL 4 n f:=GI hQ.1 _ VY;exact US.lits (l:=[.agg [.x (.int .i64 c),.x (.int .i64 T),.x (.int .i64 U),.x (.int .i64 O)],.lst 4 n f]) (US.same (eW c T U O n (col 0 f) (col 1 f) (col 2 f) (col 3 f) r) (.cons (.refl _) (.cons (.lst 4 n _ _ hr) (.cons (.refl _) .nil)))) Q hQ.2;cases h
section
variable (c T U O:Int)(n:Nat)(a b u v:Cg)
def eB:Int:=w9 c T U O n a b u v true
def fwB:Nat->Cg:=fwM c.toNat T U O n a b u v
def sfB:Cg:=UI (c.toNat:Nat) T U O (fwB c T U O n a b u v)
def dtB:Int:=if eB c T U O n a b u v=0 then dbF (sfB c T U O n a b u v) (c.toNat+1) else 0
def AR:Nat:=if eB c T U O n a b u v=0 then c.toNat+1 else 0
end
theorem Zb9{c a b u v:Int}(h:rdB c a b u v=true):(0<=a/\a<=c-1)/\(a<=b/\b<=c)/\0<=u/\u<=v/\v<=2000:=by
 simp only [rdB,HF,bt_iff,insB_iff] at h;omega
theorem bX{c T U O:Int}{n:Nat}{a b u v:Cg}(h:flt c T U O n a b u v=0)(x y:Nat): -1000000000000<=fwB c T U O n a b u v x y/\fwB c T U O n a b u v x y<=2000:=by
 have hf:=v7.1 h;have hb:=qA hf.1;have hl:=pY (c:=c.toNat) (a:=a) (b:=b) hb.2.1 (λj hj=>(Zb9 (H3.1 hf.2.2 j hj)).2.2) n (Am n);have h1:=Ja2 (c:=c.toNat) hl (c.toNat+1) x y;have h2:=Jn3 c.toNat VO;rw [Int.pow_succ] at h1;unfold fwB fwM;omega
section
variable (c T U O:Int)(n:Nat)(a b u v:Cg)
theorem Zb8:sfB c T U O n a b u v 0=c.toNat:=rfl
theorem aF(k:Nat):sfB c T U O n a b u v (k*11+4)=fwB c T U O n a b u v k 0:=qR _ _ _ _ _ VO VO
theorem iK{k:Nat}(hk:k<=10):sfB c T U O n a b u v (k+4)=fwB c T U O n a b u v 0 k:=qR _ _ _ _ _ VO VO
abbrev YI:Ext:={R:=[],H:=[],C:=[(172,eA)] }
theorem Xk8:U2 VU 180 [.agg [i c,i T,i U,i O],rds n a b u v] (.tup [i (dtB c T U O n a b u v),i (eB c T U O n a b u v)]):=by
 refine G7 (L:=[]) (Ae Xa7 Aa) (Aj Ab Ac (Ah fC (UJ.nil _))) U3 Tryz.func180 (UW Tryz.f180) G9 (t:=let A:=(fwM (Int.toNat c) T U O n a b u v);let W:=w9 c T U O n a b u v true;(need [UL 4 n λk=>[i (a k),i (b k),i (u k),i (v k)]] (branch (decide (W=0)) (branch ((0:Int) != 0) (leaf (RV.tup [RV.x (JT),RV.x (JT)])) (need [(0:Int)<=UI (Int.toNat c:Int) T U O A 0/\UI (Int.toNat c:Int) T U O A 0<=10,∀(k:Nat),k<=(UI (Int.toNat c:Int) T U O A 0).toNat->((-1000000000000:Int)<=UI (Int.toNat c:Int) T U O A (k*11+4)/\UI (Int.toNat c:Int) T U O A (k*11+4)<=1000000000000)/\(-1000000000000:Int)<=UI (Int.toNat c:Int) T U O A (k+4)/\UI (Int.toNat c:Int) T U O A (k+4)<=1000000000000] (leaf (RV.tup [RV.x (.int .i64 (dbF (UI (Int.toNat c:Int) T U O A) ((UI (Int.toNat c:Int) T U O A 0).toNat+1))),RV.x (JT)])))) (branch (W != 0) (leaf (RV.tup [RV.x (JT),RV.x (.int .i64 (W))])) VR.fail)))) VZ ?_;have eq: ∀k,UI (c.toNat:Nat) T U O (fwM c.toNat T U O n a b u v) k=sfB c T U O n a b u v k:=λ_=>rfl;simp only [VR.sat,UF,UK,FZ,H6,Ax,not_true_eq_false,false_imp_iff,eq,G6];refine ⟨isRec4 n a b u v,λh1 _=>?_,λh1=>⟨λ_=>?_,λh2=>h1 h2⟩⟩;have hf:=(dO.1 h1).1;have hc:=(qA (v7.1 hf).1).1;have e0:(sfB c T U O n a b u v 0).toNat=c.toNat:=by rw [Zb8];omega
 refine ⟨⟨by rw [Zb8];omega,λk hk=>?_⟩,?_⟩
 rw [e0] at hk;rw [aF,iK _ _ _ _ _ _ _ _ _ VO];have h2:=bX hf k 0;have h3:=bX hf 0 k;omega;rw [e0];unfold dtB eB;rw [if_pos h1,h1];exact ⟨⟨rfl,rfl⟩,⟨rfl,rfl⟩,Ak⟩;unfold dtB eB;rw [if_neg h1];exact ⟨⟨rfl,rfl⟩,⟨rfl,rfl⟩,Ak⟩
end
section
variable {sz k:Nat}{l:List AV}{x:AV}
theorem Qy3(h:x∈UA sz l k):x∈l:=List.mem_of_mem_drop (List.mem_of_mem_take h)
theorem FP(hm:x∈UA sz l k)(h: ∀y∈l,AV.one y=true):AV.one x=true:=h x (Qy3 hm)
end
theorem Ju8{k j:Nat}{a b:Cg}{x y:Int}(h:j<k+1)(hx:x=a k)(hy:y=b k):GL k (λk=>[i (a k),i (b k)]) (UA 2 [i x,i y]) j=[i (a j),i (b j)]:=by
 have e:j-k=0:=VO;show HJ (decide (j<k)) [i (a j),i (b j)] (UA 2 [i x,i y] (j-k))=_;rw [e];by_cases hj:j<k;rw [show decide (j<k)=true by simp [hj]]
 rfl;have hk:j=k:=VO;rw [show decide (j<k)=false by simp [hj],hk,hx,hy]
 rfl
section
variable (c T U O:Int)(n:Nat)(a b u v:Cg)
def Jc2:St:={σ:=[.agg [i c,i T,i U,i O],rds n a b u v,.ptr 0 0,.top,.x (.slice none 0 0),i 0,iJ c T U O n a b u v,i 0,.top,.top,.top,.top,.top,.top,.top,.top,.top,.top,.top,.top,.top,i (c+1),.top,.top,.top,.top,.top,.top,.top,.top,.top,.top,.top],m:=[(900,.row 99 2 0 (λ_=>[])),(0,.cells 101 [i c,i T,i U,i O])],nx:=901}
noncomputable def Kd0:Code:=UD (VX (UB Tryz.f130) 0)
def Wr1(k:Nat):St:=(upE [(8,.row 900),(22,i k)] [(900,.row 99 2 (k) (λk=>[i (-(fwB c T U O n a b u v k 0)),i (fwB c T U O n a b u v 0 k)])),(0,.cells 101 [i c,i T,i U,i O])] (Jc2 c T U O n a b u v))
def EX(k:Nat):G8->Option St
 | .exit 0=>some (upE [(8,.row 900)] [(900,.row 99 2 (c.toNat+1) (λk=>[i (-(fwB c T U O n a b u v k 0)),i (fwB c T U O n a b u v 0 k)])),(0,.cells 101 [i c,i T,i U,i O])] (Jc2 c T U O n a b u v))
 |_=>none
def Jy4:CT:= .leaf (.exit 0,(EX c T U O n a b u v 0 (.exit 0)).getD (Jc2 c T U O n a b u v))
def Zh4:UN:=GO [(.slot 8,900,99,2)] (HI (Wr1 c T U O n a b u v (0)) (Jy4 c T U O n a b u v))
abbrev KI:AV:=AV.x (.slice none 0 0)
abbrev Y6:Prop:=(0:Int)=0
theorem Jq3(VW:flt c T U O n a b u v=0):GD VU (.loop Kd0) (Zh4 c T U O n a b u v):=by
 refine jD [(.slot 8,900,99,2)] (L:=[]) (Ae zM Aa) U3 U7 (X:=Nat) (Wr1 c T U O n a b u v) (λk=>k<=c.toNat+1) (λk=>c.toNat+1-k) (EX c T U O n a b u v) (x0:=0) VY ?_ ?_ ?_;rintro k;kernel_rfl;rintro k y E h;unfold EX at h;split at h;cases h;kernel_rfl;cases h;rintro Q hQ k hx;refine ⟨(k+1),?_⟩;(with_reducible refine DG (t:=let A:=(fwM (Int.toNat c) T U O n a b u v);let W:=fwB c T U O n a b u v;let z2:=(U4 (roI [] 125 (λk=>UI (Int.toNat c:Int) T U O A k) 0));let z3:=(UI (Int.toNat c:Int) T U O A (k+4));(branch (decide ((k:Int)<c+1)) (need [(0:Int)<=(k:Int)/\(k:Int)<=10,(-1000000000000:Int)<=UI (Int.toNat c:Int) T U O A (k*11+4)/\UI (Int.toNat c:Int) T U O A (k*11+4)<=1000000000000] (need [(k+1)*16<=140737488355328,RY 1 (UA 2 [iI (-UI (Int.toNat c:Int) T U O A (k*11+4)),iI z3])] (need [VQ ((k:Int)+1)] (need [U4 (agg [iI c,iI T,iI U,iI O]),Q4 n a b u v,XJ,KI=KI,Y6,z2,Y6,U4 (AV.row 900),U4 (c+1),(k:Int)+1=(↑(k+1):Int),k+1=k+1,GZ (k+1) (GL k (λk=>[Bo.i (-W k 0),Bo.i (W 0 k)]) (UA 2 [iI (-UI (Int.toNat c:Int) T U O A (k*11+4)),iI z3])) (λi=>[Bo.i (-W i 0),Bo.i (W 0 i)]),c=c,T=T,U=U,O=O] (leaf G8.normal))))) (need [U4 (agg [iI c,iI T,iI U,iI O]),Q4 n a b u v,XJ,KI=KI,Y6,z2,Y6,U4 (AV.row 900),U4 (c+1),k=Int.toNat c+1,∀(i:Nat),i<Int.toNat c+1->[Bo.i (-W i 0),Bo.i (W 0 i)]=[Bo.i (-W i 0),Bo.i (W 0 i)],c=c,T=T,U=U,O=O] (leaf (G8.exit 0))))) VZ ?_)
 simp only [Jy4,EX,VR.sat,GW] at hQ;have hc:=(qA (v7.1 VW).1).1;have e0:((c.toNat:Nat):Int)=c:=VO;have eq: ∀k,UI c.toNat T U O (fwM c.toNat T U O n a b u v) k=sfB c T U O n a b u v k:=λ_=>rfl;simp only [VR.sat,UF,G6,GQ,UH,VQ,UK,H6,FW,EX,eq]
 refine ⟨λh=>?_,λh=>?_⟩;have h2:=bX VW k 0;have h3:=bX VW 0 k;refine ⟨⟨VO,by rw [aF];omega⟩,⟨VO,λi O a ha=>FP ha (by simp [AV.one,Value.oneCell'])⟩,VO,⟨VO,λi O=>Ju8 O (by rw [aF]) (by rw [iK _ _ _ _ _ _ _ _ _ VO])⟩,VO,VO⟩
 obtain rfl:k=c.toNat+1:=VO;exact ⟨⟨rfl,λ_ _=>Ak⟩,λE hE=>by cases hE;exact hQ⟩
theorem oT(VW:w9 c T U O n a b u v true=0)(UG:flt c T U O n a b u v=0):U2 VU 130 [.agg [i c,i T,i U,i O],rds n a b u v] (.tup [.lst 2 (AR c T U O n a b u v) (λk=>[i (-(fwB c T U O n a b u v k 0)),i (fwB c T U O n a b u v 0 k)]),i (eB c T U O n a b u v)]):=by
 refine gM (L:=[Zh4 c T U O n a b u v]) (Gd.go true (Gd.go false Gd.rest)) (Ae zM Aa) (Aj Ab Ac (Ah fC (UJ.nil _))) U3 Tryz.func130 (UW Tryz.f130) (G0 (lpE (b:= .loop Kd0) VZ<|(Jq3 c T U O n a b u v UG).N)) (t:=let A:=fwB c T U O n a b u v;(need [UL 4 n λk=>[i (a k),i (b k),i (u k),i (v k)]] (need [decide (w9 c T U O n a b u v true=0)=true] (need [((0:Int) != 0)=false] (need [VQ (c+1)] (need [U4 (agg [iI c,iI T,iI U,iI O]),Q4 n a b u v,XJ,KI=KI,Y6,U4 (roI [] 125 (λk=>UI (Int.toNat c:Int) T U O (fwM (Int.toNat c) T U O n a b u v) k) 0),Y6,U4 (AV.row 900),U4 (c+1),(0:Int)=((0:Nat):Int),0=0,∀(i:Nat),i<0->[]=[Bo.i (-A i 0),Bo.i (A 0 i)],c=c,T=T,U=U,O=O] (leaf (RV.tup [RV.lst 2 (Int.toNat c+1) λk=>[iI (-A k 0),iI (A 0 k)],RV.x (JT)])))))))) VZ ?_
 have hc:=(qA (v7.1 UG).1).1;have hl:AR c T U O n a b u v=c.toNat+1:=if_pos VW;have he:eB c T U O n a b u v=0:=VW;rw [hl,he];simp only [VR.sat,UF,G6,GQ,UH,VQ,UK]
 (with_reducible repeat' first|apply Al|intro _)
 all_goals first|exact Ak|with_reducible rfl|omega|exact isRec4 _ _ _ _ _|(simp [*];done)|(rename_i hm;simp only [GT,DO,or_false] at hm;rcases hm with rfl|rfl<;>exact Ak)
theorem oU(VW:w9 c T U O n a b u v true≠0):U2 VU 130 [.agg [i c,i T,i U,i O],rds n a b u v] (.tup [.lst 2 (AR c T U O n a b u v) (λk=>[i (-(fwB c T U O n a b u v k 0)),i (fwB c T U O n a b u v 0 k)]),i (eB c T U O n a b u v)]):=by
 refine gM (L:=[]) (Gd.go false (Gd.go true Gd.rest)) (Ae zM Aa) (Aj Ab Ac (Ah fC (UJ.nil _))) U3 Tryz.func130 (UW Tryz.f130) G9 (t:=let A:=w9 c T U O n a b u v true;(need [UL 4 n λk=>[i (a k),i (b k),i (u k),i (v k)]] (need [decide (A=0)=false] (need [(A != 0)=true] (leaf (RV.tup [RV.x (.slice none 0 0),RV.x (.int .i64 (A))])))))) VZ ?_;have hl:AR c T U O n a b u v=0:=if_neg VW;have he:eB c T U O n a b u v=w9 c T U O n a b u v true:=rfl;rw [hl,he];simp only [VR.sat,UF,G6,GQ,UH,VQ,UK]
 (with_reducible repeat' first|apply Al|intro _)
 all_goals first|exact Ak|with_reducible rfl|omega|exact isRec4 _ _ _ _ _|(simp [*];done)
end
def S_Heights:G4
 |[.agg [.x (.int .i64 c),.x (.int .i64 T),.x (.int .i64 U),.x (.int .i64 O)],.lst 4 n f]=>some ([UL 4 n f],.tup [.lst 2 (AR c T U O n (col 0 f) (col 1 f) (col 2 f) (col 3 f)) (λk=>[i (-(fwB c T U O n (col 0 f) (col 1 f) (col 2 f) (col 3 f) k 0)),i (fwB c T U O n (col 0 f) (col 1 f) (col 2 f) (col 3 f) 0 k)]),i (eB c T U O n (col 0 f) (col 1 f) (col 2 f) (col 3 f))])
 |_=>none
theorem gG(c T U O:Int)(n:Nat)(a b u v:Cg):U2 VU 130 [.agg [i c,i T,i U,i O],rds n a b u v] (.tup [.lst 2 (AR c T U O n a b u v) (λk=>[i (-(fwB c T U O n a b u v k 0)),i (fwB c T U O n a b u v 0 k)]),i (eB c T U O n a b u v)]):=by
 by_cases h:w9 c T U O n a b u v true=0;exact oT c T U O n a b u v h (dO.1 h).1;exact oU c T U O n a b u v h
theorem Heights_ok:VT VU 130 S_Heights:=by
 refine ⟨(UM Tryz.func130),?_⟩;intro avs ns Z h I;unfold S_Heights at h;split at h;rename_i c T U O n f;cases h;have hr:UL 4 n f:=I _ (GN);exact (gG c T U O n (col 0 f) (col 1 f) (col 2 f) (col 3 f)).same (.cons (.refl _) (.cons (.lst 4 n _ _ hr) .nil));cases h
