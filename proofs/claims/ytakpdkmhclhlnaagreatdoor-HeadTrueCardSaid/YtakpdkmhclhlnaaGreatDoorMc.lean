/- Contracts, put together. Conditions: those of each. -/
import Derived.Test.YtakpdkmhclhlnaaGreatDoorMb
set_option linter.unusedSimpArgs false
set_option linter.unusedVariables false
namespace Go.Sx
open Go Go.RowKit
def yC(i R:Nat):Nat->AV->AV
 | 0,a=>match a with
  | .lit b=> .lit b
  | .x v=> .x v
  | .ro l=> .ro l
  | .lst a b c=> .lst a b c
  | .roI a b c d=> .roI a b c d
  |_=> .top
 |d+1,a=>match a with
  | .row k=>match Nat.beq k i with
   |true=> .row R
   |false=>match Nat.beq k R with
    |true=> .top
    |false=> .row k
  | .ptr k o=>match Nat.beq k i with
   |true=> .ptr R o
   |false=>match Nat.beq k R with
    |true=> .top
    |false=> .ptr k o
  | .elt k x y z=>match Nat.beq k i||Nat.beq k R with
   |true=> .top
   |false=> .elt k x y z
  | .mp k=>match Nat.beq k i||Nat.beq k R with
   |true=> .top
   |false=> .mp k
  | .agg l=> .agg (l.map (yC i R d))
  | .tup l=> .tup (l.map (yC i R d))
  | .fn f l l'=> .fn f (l.map (yC i R d)) (l'.map (yC i R d))
  |a=>a
def UJ.ren(e:UJ)(i R:Nat):UJ:=
 {ro:=e.ro,own:=λb=>match e.own b with|some k=>if k=i then some R else if k=R then none else some k|none=>none,
  live:=λk=>(k=R/\e.live i)\/(e.live k/\k≠i/\k≠R),blk:=λk=>if k=R then e.blk i else e.blk k,val:=λk=>if k=R then e.val i else e.val k}
theorem FY{k i:Nat}(h:Nat.beq k i=false):k≠i:=by
 rintro rfl;rw [Nat.beq_refl] at h;cases h
theorem EB{k i R:Nat}(h:(Nat.beq k i||Nat.beq k R)=false):k≠i/\k≠R:=by
 rw [Bool.or_eq_false_iff] at h;exact ⟨FY h.1,FY h.2⟩
theorem z7{e:UJ}{w:World}{i R:Nat}: ∀(d:Nat) (a:AV) (v:Value),Rep e w a v->Rep (e.ren i R) w (yC i R d a) v
 | 0,a,v,r=>by
  cases r with
  |lit b=>exact .lit b
  |x v=>exact .x v
  |roI pre n f off b o Z=>exact Rep.idf (e:=e) (e':=e.ren i R) (λ_ h=>h) (.roI pre n f off b o Z) (zJ (Rep.roI pre n f off b o Z) rfl)
  |ro l vs b o h1 h2 h3 h4 h5 h6=>exact Rep.idf (e:=e) (e':=e.ren i R) (λ_ h=>h) (.ro l vs b o h1 h2 h3 h4 h5 h6) (.ro l h3)
  |lstNil sz f=>exact .lstNil sz f
  |lst sz n f b o cap g h1 h2 h3 h4 h5 h6 h7 h8 ad had=>exact Rep.idf (e:=e) (e':=e.ren i R) (λ_ h=>h) (.lst sz n f b o cap g h1 h2 h3 h4 h5 h6 h7 h8 ad had) (.lst sz n f h3)
  |_=>exact .top _
 |d+1,a,v,r=>by
  have ih:=z7 (e:=e) (w:=w) (i:=i) (R:=R) d;cases r with
  |top v=>exact .top v
  |lit b=>exact .lit b
  |x v=>exact .x v
  |roI pre n f off b o Z=>exact Rep.idf (e:=e) (e':=e.ren i R) (λ_ h=>h) (.roI pre n f off b o Z) (zJ (Rep.roI pre n f off b o Z) rfl)
  |ptr id off hl=>
   simp only [yC];split;rename_i hb;have:=GU hb;subst this;have h:=Rep.ptr (e:=e.ren id R) (w:=w) R off (.inl ⟨rfl,hl⟩)
   rwa [show (e.ren id R).blk R=e.blk id by simp [UJ.ren]] at h
   rename_i hb;split;exact .top _;rename_i hb2;have h:=Rep.ptr (e:=e.ren i R) (w:=w) id off (.inr ⟨hl,FY hb,FY hb2⟩)
   rwa [show (e.ren i R).blk id=e.blk id by simp [UJ.ren,FY hb2]] at h
  |row id a n c hl hv=>
   simp only [yC];split;rename_i hb;have:=GU hb;subst this;exact .row R a n c (.inl ⟨rfl,hl⟩) (by simp [UJ.ren,hv])
   rename_i hb;split;exact .top _;rename_i hb2;exact .row id a n c (.inr ⟨hl,FY hb,FY hb2⟩) (by simp [UJ.ren,FY hb2,hv])
  |elt id sz x y b n cap hl hv=>
   simp only [yC];split;exact .top _;rename_i hb;exact .elt (e:=e.ren i R) id sz x y b n cap (.inr ⟨hl,EB hb⟩) (by simp [UJ.ren,(EB hb).2,hv])
  |mp id hl=>
   simp only [yC];split;exact .top _;rename_i hb;have h:=Rep.mp (e:=e.ren i R) (w:=w) id (.inr ⟨hl,EB hb⟩)
   rwa [show (e.ren i R).blk id=e.blk id by simp [UJ.ren,(EB hb).2]] at h
  |agg l vs h1 h2=>exact Rep.aggL (VZ.map _ ih ⟨h1,h2⟩)
  |tup l vs h1 h2=>exact Rep.tupL (VZ.map _ ih ⟨h1,h2⟩)
  |fn f l l' vs vs' h1 h2 h3 h4=>
   have k1:VZ e w l vs:=⟨h1,h2⟩;have k2:VZ e w l' vs':=⟨h3,h4⟩;exact .fn f _ _ vs vs' (VZ.map _ ih k1).1 (VZ.map _ ih k1).2 (VZ.map _ ih k2).1 (VZ.map _ ih k2).2
  |ro l vs b o h1 h2 h3 h4 h5 h6=>exact Rep.idf (e:=e) (e':=e.ren i R) (λ_ h=>h) (.ro l vs b o h1 h2 h3 h4 h5 h6) (.ro l h3)
  |mpr g okf vals b es c h1 h2 h3 h4 h5 h6 h7 h8=>exact Rep.idf (e:=e) (e':=e.ren i R) (λ_ h=>h) (.mpr g okf vals b es c h1 h2 h3 h4 h5 h6 h7 h8) (.mpr g okf h3)
  |any1 v hv=>exact .any1 v hv
  |lstNil sz f=>exact .lstNil sz f
  |lst sz n f b o cap g h1 h2 h3 h4 h5 h6 h7 h8 ad had=>exact Rep.idf (e:=e) (e':=e.ren i R) (λ_ h=>h) (.lst sz n f b o cap g h1 h2 h3 h4 h5 h6 h7 h8 ad had) (.lst sz n f h3)
def wY(i R:Nat):GW->GW
 |[]=>[]
 |(k,.row T sz n f)::t=>match Nat.beq k i with
  |true=>(R,.row T sz n f)::wY i R t
  |false=>match Nat.beq k R with
   |true=>wY i R t
   |false=>(k,.row T sz n f)::wY i R t
 |(k,.cells T l)::t=>match Nat.beq k i with
  |true=>(R,.cells T (l.map (yC i R 6)))::wY i R t
  |false=>match Nat.beq k R with
   |true=>wY i R t
   |false=>(k,.cells T (l.map (yC i R 6)))::wY i R t
 |(k,.ints T pre n f)::t=>match Nat.beq k i||Nat.beq k R with
  |true=>wY i R t
  |false=>(k,.ints T (pre.map (yC i R 6)) n f)::wY i R t
 |(k,.memo h f)::t=>match Nat.beq k i||Nat.beq k R with
  |true=>wY i R t
  |false=>(k,.memo h f)::wY i R t
 |(_,.aka _ _ _ _ _)::t=>wY i R t
 |(k,.keep T l)::t=>match Nat.beq k i||Nat.beq k R with
  |true=>wY i R t
  |false=>(k,.keep T (l.map (yC i R 6)))::wY i R t
theorem zF{e:UJ}{w:World}{i R:Nat}: ∀{m:GW},US e m w->US (e.ren i R) (wY i R m) w
 |[],_=>λp A=>by cases A
 |(k,.row T sz n f)::t,h=>by
  have ih:=zF (i:=i) (R:=R) (m:=t) (λp A=>h p (HM _ A));obtain ⟨h1,h2,hf,xs,h3,h4⟩:=h _ GB;have h4': ∀(i' j:Nat) (a:AV) (v:Value),i'<n->(f i')[j]? =some a->xs[i'*sz+j]? =some v->Rep (e.ren i R) w a v:=
   λi' j a v O ha hv=>Rep.idf (e:=e) (e':=e.ren i R) (λ_ h=>h) (h4 i' j a v O ha hv) ((hf i' O).2 a (DY ha))
  unfold wY;split;rename_i hb;have:=GU hb;subst this;intro p A;rcases GK.1 A with rfl|A;refine ⟨.inl ⟨rfl,h1⟩,λb hb'=>?_,hf,xs,?_,h4'⟩;simp only [UJ.ren,if_true] at hb' ⊢;rw [h2 b hb'];simp;simp only [UJ.ren,if_true];exact h3;exact ih p A;rename_i hb;split;exact ih;rename_i hb2;intro p A;rcases GK.1 A with rfl|A;refine ⟨.inr ⟨h1,FY hb,FY hb2⟩,λb hb'=>?_,hf,xs,?_,h4'⟩;simp only [UJ.ren,FY hb2,if_false] at hb' ⊢;rw [h2 b hb'];simp [FY hb,FY hb2];simp only [UJ.ren,FY hb2,if_false];exact h3;exact ih p A
 |(k,.cells T l)::t,h=>by
  have ih:=zF (i:=i) (R:=R) (m:=t) (λp A=>h p (HM _ A));obtain ⟨h1,h2,vs,h3,h4⟩:=h _ GB;unfold wY;split;rename_i hb;have:=GU hb;subst this;have eb:(e.ren k R).blk R=e.blk k:=by simp [UJ.ren]
  intro p A;rcases GK.1 A with rfl|A;refine ⟨.inl ⟨rfl,h1⟩,?_,vs,by rw [eb];exact h3,VZ.map _ (z7 6) h4⟩
  rw [eb];simp only [UJ.ren];rw [h2];simp;exact ih p A;rename_i hb;split;exact ih;rename_i hb2;have n1:=FY hb;have n2:=FY hb2;have eb:(e.ren i R).blk k=e.blk k:=by simp [UJ.ren,n2]
  intro p A;rcases GK.1 A with rfl|A;refine ⟨.inr ⟨h1,n1,n2⟩,?_,vs,by rw [eb];exact h3,VZ.map _ (z7 6) h4⟩
  rw [eb];simp only [UJ.ren];rw [h2];simp [n1,n2];exact ih p A
 |(k,.ints T pre n f)::t,h=>by
  have ih:=zF (i:=i) (R:=R) (m:=t) (λp A=>h p (HM _ A));obtain ⟨h1,h2,vs,h3,h4⟩:=h _ GB;unfold wY;split;exact ih;rename_i hb;obtain ⟨n1,n2⟩:=EB hb;intro p A;rcases GK.1 A with rfl|A;have eb:(e.ren i R).blk k=e.blk k:=by simp [UJ.ren,n2]
  refine ⟨.inr ⟨h1,n1,n2⟩,?_,vs,by rw [eb];exact h3,?_⟩
  rw [eb];simp only [UJ.ren];rw [h2];simp [n1,n2];have:=VZ.map _ (z7 (i:=i) (R:=R) 6) h4;rw [List.map_append] at this;have hL:(HJ n f).map (yC i R 6)=HJ n f:=by
   unfold HJ;rw [List.map_map];rfl
  rw [hL] at this;exact this;exact ih p A
 |(k,.memo g f)::t,h=>by
  have ih:=zF (i:=i) (R:=R) (m:=t) (λp A=>h p (HM _ A));obtain ⟨h1,h2,es,c,h3,h4⟩:=h _ GB;unfold wY;split;exact ih;rename_i hb;obtain ⟨n1,n2⟩:=EB hb;intro p A;rcases GK.1 A with rfl|A;have eb:(e.ren i R).blk k=e.blk k:=by simp [UJ.ren,n2]
  refine ⟨.inr ⟨h1,n1,n2⟩,?_,es,c,by rw [eb];exact h3,h4⟩
  rw [eb];simp only [UJ.ren];rw [h2];simp [n1,n2];exact ih p A
 |(k,.keep T l)::t,h=>by
  have ih:=zF (i:=i) (R:=R) (m:=t) (λp A=>h p (HM _ A));obtain ⟨h1,h2,h0,vs,h3,h4⟩:=h _ GB;unfold wY;split;exact ih;rename_i hb;obtain ⟨n1,n2⟩:=EB hb;intro p A;rcases GK.1 A with rfl|A;have eb:(e.ren i R).blk k=e.blk k:=by simp [UJ.ren,n2]
  exact ⟨.inr ⟨h1,n1,n2⟩,by rw [eb];exact h2,by rw [eb];exact h0,vs,by rw [eb];exact h3,VZ.map _ (z7 6) h4⟩
  exact ih p A
 |(k,.aka _ _ _ _ _)::t,h=>zF (i:=i) (R:=R) (m:=t) (λp A=>h p (HM _ A))
def Ql5(i R:Nat)(s:St):St:={s with σ:=s.σ.map (yC i R 6),m:=wY i R s.m,nx:=match Nat.blt R s.nx with|true=>s.nx|false=>R+1,sv:=s.sv.map (·.map (yC i R 6)) }
theorem C9{cx:Cx}{w0:World}{F:Nat->Prop}{e:UJ}{i R:Nat}{s:St}{a:Act}{w:World}(r:F1 cx w0 F e s a w):F1 cx w0 F (e.ren i R) (Ql5 i R s) a w:=by
 refine ⟨⟨λb hb=>?_,λb k hk=>?_,r.env.glob⟩,r.below,zF r.mem,λk hk=>?_,r.foe,⟨r.xt.defers,r.xt.kept,L4.map _ (z7 6) r.xt.saved,r.xt.size⟩,VZ.map _ (z7 6) r.slots⟩;obtain ⟨h1,h2⟩:=r.env.apart b hb;exact ⟨by simp [UJ.ren,h1],h2⟩
 simp only [UJ.ren] at hk;cases ho:e.own b with
 |none=>rw [ho] at hk;cases hk
 |some j=>exact r.env.owned b j ho
 have hk':k=R\/k<s.nx:=by
  rcases hk with ⟨rfl,_⟩|⟨h,_⟩;exact .inl rfl;exact .inr (r.live k h)
 simp only [Ql5];split;rename_i hb;rw [Aw] at hb;omega;rename_i hb;rw [←Bool.not_eq_true,Aw] at hb;omega
inductive Pl where
 |slot (k:Nat)
 |cell (id off:Nat)
def Qd1(s:St):Pl->AV
 | .slot k=>s.σ.getD k .top
 | .cell id off=>match D8 s.m id with
  |some (.cells _ l)=>l.getD off .top
  |_=> .top
def cG(s:St)(p:Pl)(v:AV):St:=match p with
 | .slot k=>{s with σ:=s.σ.set k v}
 | .cell id off=>match D8 s.m id with
  |some (.cells T l)=>{s with m:=qC s.m id (.cells T (l.set off v)) }
  |_=>s
theorem VZ.swap{e:UJ}{w:World}{l:List AV}{vs:List Value}{k:Nat}{b:AV}(h:VZ e w l vs)(hb: ∀v,Rep e w (l.getD k .top) v->vs[k]? =some v->Rep e w b v):VZ e w (l.set k b) vs:=by
 refine ⟨by simp [h.1],λi a v ha hv=>?_⟩
 rw [List.getElem?_set] at ha;by_cases hk:k=i;subst hk;simp only [if_true] at ha;split at ha;rename_i hlt;cases ha;exact hb v (by simpa [List.getD,HX hlt] using h.2 k _ v (HX hlt) hv) hv
 cases ha;rw [if_neg hk] at ha;exact h.2 i a v ha hv
def UJ.nil(e:UJ)(R:Nat):UJ:={e with live:=λk=>k=R\/e.live k,val:=λk=>if k=R then .slice none 0 0 else e.val k}
theorem Step.nil{e:UJ}{w:World}{R:Nat}(h: ¬e.live R):Step e (e.nil R) w w:=by
 refine ⟨λ_ _ h=>⟨h,rfl⟩,λk hk=>⟨.inr hk,rfl,?_⟩,Am _⟩;have:k≠R:=λh'=>h (h'▸hk);simp [UJ.nil,this]
def Zi4(p:Pl)(R:Nat)(T:TypeId)(sz:Nat)(s:St):St:=match Qd1 s p with
 | .x (.slice none 0 0)=>{s with σ:=(cG s p (.row R)).σ,m:=(R,.row T sz 0 (λ_=>[]))::(cG s p (.row R)).m}
 |_=>s
theorem Wf0{cx:Cx}{w0:World}{F:Nat->Prop}{e:UJ}{p:Pl}{R:Nat}{T:TypeId}{sz:Nat}{s:St}{a:Act}{w:World}(hΦ:cx.Φ s.gh F w0)(r:F1 cx w0 F e s a w)(hd: ¬e.live R)(hR:R<s.nx):Rel cx (Zi4 p R T sz s) a w:=by
 unfold Zi4;split;rename_i A;have st:Step e (e.nil R) w w:=Step.nil hd;have gJ:US (e.nil R) s.m w:=λq hq=>(r.mem q hq).ext (Below.refl _ _) st (λ_ _ h=>h);have I2:GD (e.nil R) w R (.row T sz 0 (λ_=>[])):=by
  refine ⟨.inl rfl,λb hb=>?_,λi O=>VG,[],?_,λi j a v O=>VG⟩;simp [UJ.nil,Value.ownBlock] at hb;simp only [UJ.nil,if_true];exact World.ownsRow_nil w 0 T sz
 have GF: ∀v,Rep e w (.x (.slice none 0 0)) v->Rep (e.nil R) w (.row R) v:=by
  intro v hv;rw [hv.x_inv];exact .row R none 0 0 (.inl rfl) (by simp [UJ.nil])
 refine ⟨w0,F,e.nil R,hΦ,⟨r.env.apart,r.env.owned,r.env.glob⟩,r.below,?_,λk hk=>?_,r.foe,r.xt.step st,?_⟩;intro q hq;rcases GK.1 hq with rfl|hq;exact I2;cases p with
 |slot k=>exact gJ q hq
 |cell id off=>
  simp only [cG] at hq;split at hq;rename_i T' l hg;rcases FS hq with rfl|⟨hq,_⟩
  ·obtain ⟨h1,h2,vs,h3,h4⟩:=r.mem _ (UW hg);obtain ⟨l1,l2,l3⟩:=st.live id h1;refine ⟨l1,by rw [l2];exact h2,vs,by rw [l2];exact h3,?_⟩
   refine VZ.swap (h4.step st) ?_;intro v hv hv';simp only [Qd1,hg] at A;have hlt:off<l.length:=by
    rcases An off l.length with h|h;exact h;rw [List.getD,Br h] at A;cases A
   have:=h4.2 off _ v (HX hlt) hv';rw [List.getD,HX hlt] at A;simp only [GQ] at A;rw [A] at this;exact GF v this
  exact gJ q hq;exact gJ q hq
 rcases hk with rfl|hk;exact hR;exact r.live k hk
 ·cases p with
  |slot k=>
   simp only [cG];refine VZ.swap (r.slots.step st) ?_;intro v hv hv';simp only [Qd1] at A;have hlt:k<s.σ.length:=by
    rcases An k s.σ.length with h|h;exact h;rw [List.getD,Br h] at A;cases A
   have:=r.slots.2 k _ v (HX hlt) hv';rw [List.getD,HX hlt] at A;simp only [GQ] at A;rw [A] at this;exact GF v this
  |cell id off=>
   simp only [cG];split;exact r.slots.step st;exact r.slots.step st
 exact ⟨w0,F,e,hΦ,r⟩
def rA(i:Nat):GW->GW
 |[]=>[]
 |(k,r)::t=>match Nat.beq k i with
  |true=>match r with
   | .cells T l=>(k,.keep T l)::rA i t
   | .keep T l=>(k,.keep T l)::rA i t
   |_=>rA i t
  |false=>match HQ i r with
   |true=>rA i t
   |false=>(k,r)::rA i t
def Qc0(i:Nat)(s:St):St:={s with m:=rA i s.m}
theorem eJ{e:UJ}{B:Nat}{w:World}{i:Nat}(hE:UX e B w): ∀{m:GW},US e m w->US (e.sol i) (rA i m) w
 |[],_=>λp A=>by cases A
 |(k,r)::t,h=>by
  have ih:=eJ (i:=i) hE (m:=t) (λp A=>h p (HM _ A));have hk:=h _ GB;unfold rA;split;rename_i hb;have:=GU hb;subst this;split;rename_i T l;intro p A;rcases GK.1 A with rfl|A;obtain ⟨h1,h2,vs,h3,h4⟩:=hk;exact ⟨h1,.inr h2,(hE.owned _ _ h2).2,vs,h3,h4.step (Step.sol e k w)⟩;exact ih p A;rename_i T l;intro p A;rcases GK.1 A with rfl|A;exact LC (Step.sol e k w) hk;exact ih p A;exact ih;rename_i hb;split;exact ih;rename_i hak;intro p A;rcases GK.1 A with rfl|A;exact GD.sol ⟨FY hb,hak⟩ hk;exact ih p A
theorem O0{c:Cx}{w0:World}{F:Nat->Prop}{e:UJ}{i:Nat}{s:St}{a:Act}{w:World}(r:F1 c w0 F e s a w):F1 c w0 F (e.sol i) (Qc0 i s) a w:=by
 have st:=Step.sol e i w;refine ⟨r.env.sol i,r.below,eJ r.env r.mem,r.live,λb hb=>⟨(r.foe b hb).1,λZ=>?_⟩,r.xt.step st,r.slots.step st⟩;rcases Z with Z|Z;exact (r.foe b hb).2 Z;have:=(r.env.owned b i Z).1;have:=(r.foe b hb).1;omega
def UJ.prom(e:UJ)(i q:Nat):UJ:={e with own:=λb=>match e.own b with|some k=>if k=q then some i else some k|none=>none}
def cZ(i q:Nat):GW->GW
 |[]=>[]
 |(k,r)::t=>match Nat.beq k q||(Nat.beq k i||(HQ q r||HQ i r)) with
  |true=>cZ i q t
  |false=>(k,r)::cZ i q t
def cY(i:Nat)(s:St):St:=match D8 s.m i with
 |some (.aka q T sz n f)=>{s with m:=(i,.row T sz n f)::cZ i q s.m}
 |_=>s
theorem eI{e:UJ}{w:World}{i q:Nat}: ∀{m:GW},US e m w->US (e.prom i q) (cZ i q m) w
 |[],_=>λp A=>by cases A
 |(k,r)::t,h=>by
  have ih:=eI (i:=i) (q:=q) (m:=t) (λp A=>h p (HM _ A));have hk:=h _ GB;unfold cZ;split;exact ih;rename_i hb;simp only [Bool.or_eq_false_iff] at hb;obtain ⟨hb1,hb2,hb3,hb4⟩:=hb;have n1:=FY hb1;have n2:=FY hb2;have st:Step e (e.prom i q) w w:=⟨λ_ _ h=>⟨h,rfl⟩,λ_ h=>⟨h,rfl,rfl⟩,Am _⟩;have ow: ∀b o,o≠q->e.own b=some o->(e.prom i q).own b=some o:=λb o ho hbo=>by simp [UJ.prom,hbo,ho]
  intro p A;rcases GK.1 A with rfl|A;cases r with
  |cells T l=>
   obtain ⟨h1,h2,vs,h3,h4⟩:=hk;exact ⟨h1,ow _ _ n1 h2,vs,h3,h4.step st⟩
  |ints T pre n f=>
   obtain ⟨h1,h2,vs,h3,h4⟩:=hk;exact ⟨h1,ow _ _ n1 h2,vs,h3,h4.step st⟩
  |memo g f=>
   obtain ⟨h1,h2,es,c,h3,h4⟩:=hk;exact ⟨h1,ow _ _ n1 h2,es,c,h3,h4⟩
  |row T sz n f=>
   obtain ⟨h1,h2,hf,xs,h3,h4⟩:=hk;exact ⟨h1,λb hb=>ow _ _ n1 (h2 b hb),hf,xs,h3,λi j a v O ha hv=>(h4 i j a v O ha hv).step st⟩
  |keep T l=>exact LC st hk
  |aka r T sz n f=>
   obtain ⟨h1,h0,o,hor,h2,hf,xs,h3,h4⟩:=hk;have ho:o≠q:=by
    rcases hor with rfl|rfl;exact n1;exact FY hb3
   exact ⟨h1,h0,o,hor,λb hb=>ow _ _ ho (h2 b hb),hf,xs,h3,λi j a v O ha hv=>(h4 i j a v O ha hv).step st⟩
  exact ih p A
theorem CF{c:Cx}{i:Nat}{s:St}{a:Act}{w:World}(r:Rel c s a w):Rel c (cY i s) a w:=by
 unfold cY;split;rename_i q T sz n f hg;obtain ⟨w0,F,e,hΦ,r⟩:=r;have st:Step e (e.prom i q) w w:=⟨λ_ _ h=>⟨h,rfl⟩,λ_ h=>⟨h,rfl,rfl⟩,Am _⟩;refine ⟨w0,F,e.prom i q,hΦ,⟨⟨λb hb=>?_,λb k hk=>?_,r.env.glob.step st⟩,r.below,?_,r.live,r.foe,r.xt.step st,r.slots.step st⟩⟩;obtain ⟨h1,h2⟩:=r.env.apart b hb;exact ⟨by simp [UJ.prom,h1],h2⟩
 simp only [UJ.prom] at hk;cases ho:e.own b with
 |none=>rw [ho] at hk;cases hk
 |some j=>exact r.env.owned b j ho
 intro p A;rcases GK.1 A with rfl|A;obtain ⟨h1,h0,o,hor,h2,hf,xs,h3,h4⟩:=r.mem _ (UW hg);refine ⟨h1,λb hb=>?_,hf,xs,h3,λi' j a v O ha hv=>(h4 i' j a v O ha hv).step st⟩;have:=h2 b hb;rcases hor with rfl|rfl;simp [UJ.prom,this];simp [UJ.prom,this];exact eI r.mem p A;exact r
def Qc1:List AV->St->St
 |[],s=>s
 | .ptr i _::l,s=>Qc1 l (Qc0 i s)
 |_::l,s=>Qc1 l s
theorem dR{c:Cx}{a:Act}{w:World}: ∀{l:List AV} {s:St},Rel c s a w->Rel c (Qc1 l s) a w
 |[],_,r=>r
 |b::l,s,r=>by
  cases b with
  |ptr i o=>
   obtain ⟨w0,F,e,hΦ,r⟩:=r;exact dR (l:=l) (s:=Qc0 i s) ⟨w0,F,_,hΦ,O0 r⟩
  |_=>exact dR (l:=l) (s:=s) r
def Qy1(s:St):St:=match s.sv with
 |[]=>{s with σ:=s.σ.map (D4 s.m 40),m:=[] }
 |_=>s
theorem Qy0{c:Cx}{s:St}{a:Act}{w:World}(r:Rel c s a w):Rel c (Qy1 s) a w:=by
 unfold Qy1;split;rename_i hsv;obtain ⟨w0,T,e,hΦ,r⟩:=r
 let e2:UJ:={ro:=e.view.ro,own:=λ_=>none,live:=λ_=>False,blk:=λ_=>0,val:=λ_=> .nilIface}
 have hlt: ∀b,e2.ro b->b<w.heap.size:=by
  rintro b (h|⟨id,h⟩);exact (r.env.apart b h).2;exact (r.env.owned b id h).2
 have st2:Step e2 e2 w w:=⟨λb hb Z=>⟨Z,rfl⟩,λ_ h=>h.elim,Am _⟩;have gD:VZ e2 w (s.σ.map (D4 s.m 40)) a.tmps.toList:=
  VZ.map (D4 s.m 40) (λx v hx=>Rep.idf (e:=e.view) (e':=e2) (λ_ h=>h) (L5 r.env r.mem 40 x v hx) (RG r.mem 40 x v hx)) r.slots
 refine ⟨w0,T,e2,hΦ,⟨⟨λb hb=>⟨rfl,hlt b hb⟩,(λb id h=>by cases h),D9.step (e:=e2) (w:=w) (λb p A=>⟨.inl (r.env.glob b p A).1,(r.env.glob b p A).2⟩) st2⟩,r.below,(λp A=>by cases A),(λk hk=>hk.elim),λb hb=>⟨(r.foe b hb).1,?_⟩,⟨⟨λd hd=>by obtain ⟨D,h1,h2,h3,h4,h5⟩:=r.xt.defers.1 d hd;exact ⟨D,h1,.inl h2,h3,h4,h5⟩,r.xt.defers.2⟩,λb o hb=>by obtain ⟨h1,h2,h3⟩:=r.xt.kept b o hb;exact ⟨.inl h1,h2,h3⟩,by
  have:=r.xt.saved.1;rw [hsv] at this;rw [hsv];exact ⟨this,λi a v h=>by simp at h⟩,r.xt.size⟩,gD⟩⟩
 rintro (h|⟨id,h⟩);exact (r.foe b hb).2 h;have:=(r.env.owned b id h).1;have:=(r.foe b hb).1;omega;exact r
def Qb4(p:Pl)(R:Nat)(T:TypeId)(sz:Nat)(s:St):St:=match Qd1 s p with
 | .row i=>match sz with
  | 0=>Qq8 i (cY i s)
  |_+1=>match T with
   | 0=>cY i s
   |_+1=>Ql5 i R (cY i s)
 | .ptr i _=>match sz with
  | 0=>Qc0 i s
  | 1=>Qy1 s
  |_+2=>Ql5 i R s
 | .fn _ _ l=>Qc1 l s
 | .x (.slice none 0 0)=>match T with
  | 0=>s
  |_+1=>Zi4 p R T sz (Ql5 s.nx R s)
 |_=>s
theorem We8{cx:Cx}{p:Pl}{R:Nat}{T:TypeId}{sz:Nat}{s:St}{a:Act}{w:World}(r:Rel cx s a w):Rel cx (Qb4 p R T sz s) a w:=by
 unfold Qb4;split;rename_i i _;split;obtain ⟨w0,F,e,hΦ,r⟩:=CF (i:=i) r;obtain ⟨e',r'⟩:=iY (i:=i) r;exact ⟨w0,F,e',by rw [Qd2];exact hΦ,r'⟩
 split;exact CF (i:=i) r;obtain ⟨w0,F,e,hΦ,r⟩:=CF (i:=i) r;exact ⟨w0,F,_,hΦ,C9 r⟩;split;obtain ⟨w0,F,e,hΦ,r⟩:=r;exact ⟨w0,F,_,hΦ,O0 r⟩;exact Qy0 r;obtain ⟨w0,F,e,hΦ,r⟩:=r;exact ⟨w0,F,_,hΦ,C9 r⟩;exact dR r;split;exact r;obtain ⟨w0,F,e,hΦ,r⟩:=r;refine Wf0 hΦ (C9 r) ?_ ?_;rintro (⟨_,h⟩|⟨_,_,h⟩);exact Bf _ (r.live _ h);exact h rfl;simp only [Ql5];split;rename_i hb;rw [Aw] at hb;exact hb;exact Bk _;exact r
def FU:List (Pl×Nat×TypeId×Nat)->St->St
 |[],s=>s
 |(p,R,T,sz)::t,s=>FU t (Qb4 p R T sz s)
theorem D7{cx:Cx}{a:Act}{w:World}: ∀{l:List (Pl×Nat×TypeId×Nat)} {s:St},Rel cx s a w->Rel cx (FU l s) a w
 |[],_,r=>r
 |(p,R,T,sz)::t,s,r=>D7 (l:=t) (s:=Qb4 p R T sz s) (We8 r)
def GG(l:List (Pl×Nat×TypeId×Nat))(sp:UF):UF:=λs=>sp (FU l s)
theorem yO{P:Program}{ro:Option Nat}{cx:Cx}{c:Code}{l:List (Pl×Nat×TypeId×Nat)}{sp:UF}(h:HH P ro cx c sp):HH P ro cx c (GG l sp):=
 λn s t ht Q hQ a w r=>h n (FU l s) t ht Q hQ a w (D7 r)
def pZ(N:List (Pl×Nat×TypeId×Nat))(nxt:St)(out:G4->Option St)(p:G4×St):VJ G4:=match p.1 with
 | .normal=> .needT (BA (FU N p.2) nxt) (.leaf .normal)
 | .exit id=>match out (.exit id) with
  |some E=> .needT (BA (FU N p.2) E) (.leaf (.exit id))
  |none=> .fail
 | .ret=>match out .ret with
  |some E=> .needT (BA (FU N p.2) E) (.leaf .ret)
  |none=> .fail
theorem Wq8{N:List (Pl×Nat×TypeId×Nat)}{t:CT}{nxt:St}{out:G4->Option St}{R:G4->Prop}(h:(t.bind (pZ N nxt out)).sat R):
  t.sat (λp=>match p.1 with
   | .normal=>R .normal/\U8 (BA (FU N p.2) nxt)
   |y=> ∃E,out y=some E/\R y/\U8 (BA (FU N p.2) E)):=by
 refine VJ.sat_mono ?_ (VJ.sat_bind h);rintro ⟨y,s'⟩ A;cases y with
 |normal=>exact ⟨(VJ.sat_needT A).2,(VJ.sat_needT A).1⟩
 |exit id=>
  dsimp only [pZ] at A ⊢
  split at A;rename_i E hE;exact ⟨E,hE,(VJ.sat_needT A).2,(VJ.sat_needT A).1⟩;exact A.elim
 |ret=>
  dsimp only [pZ] at A ⊢
  split at A;rename_i E hE;exact ⟨E,hE,(VJ.sat_needT A).2,(VJ.sat_needT A).1⟩;exact A.elim
section
variable (P:Program)(G:List (Nat×Spec))
def HU(X:Ext)(L:List UF)(N:List (Pl×Nat×TypeId×Nat))(body:Code)(s nxt:St)(out:G4->Option St):VJ G4:=(D1 P G X L body 0 s).bind (pZ N nxt out)
def Zd4(L:List UF)(N:List (Pl×Nat×TypeId×Nat))(body:Code)(s nxt:St)(out:G4->Option St):VJ G4:=HU P G {} L N body s nxt out
end
section
variable {P:Program}{G:List (Nat×Spec)}
theorem FH{X:Ext}{L:List UF}{ro:Option Nat}{cx:Cx}(N:List (Pl×Nat×TypeId×Nat))(hG:VH P G)(hX:VT P X cx)(GN:P.follows .mixedOrders=true){body:Code}(hL: ∀j cj,VP body j=some cj-> ∀sp,L[j]? =some sp->HH P ro cx cj sp)
  {V:Type}(inv:V->St)(I:V->Prop)(μ:V->Nat)(out:V->G4->Option St){t:CT}{x0:V}(h0:I x0)
  (hok: ∀x,okB (inv x)=true)(qN: ∀x y E,out x y=some E->okB E=true)
  (round: ∀(Q:G4×St->Prop),t.sat Q-> ∀x,I x-> ∃x',(HU P G X L N body (inv x) (inv x') (out x)).sat (λy=>match y with
   | .normal=>I x'/\μ x'<μ x
   |y=> ∀E,out x y=some E->Q (y,E))):HH P ro cx (.loop body) (GG N (HD (inv x0) t)):=by
 refine yO (jF (hok x0) ?_);intro n Q hQ a w r;refine TU μ (λx a w=>I x/\Rel cx (inv x) a w) ?_ ⟨h0,r⟩;rintro x a w ⟨hx,Z⟩;obtain ⟨x',zL⟩:=round Q hQ x hx;refine wpIn_mono (D3 hG hX GN body 0 (inv x) _ a w (λj cj hj sp hsp=>hL j cj hj sp (by simpa using hsp)) (Wq8 zL) Z) ?_
 rintro ex a₁ w₁ ⟨y,s',rfl,hq,hr'⟩;cases y with
 |normal=>
  obtain ⟨⟨h1,h2⟩,h3⟩:=hq;exact ⟨x',h2,h1,FQ (GA h3) (hok x') (D7 hr')⟩
 |exit id=>
  obtain ⟨E,hE,h1,h3⟩:=hq;exact ⟨.exit id,E,rfl,h1 E hE,FQ (GA h3) (qN x _ E hE) (D7 hr')⟩
 |ret=>
  obtain ⟨E,hE,h1,h3⟩:=hq;exact ⟨.ret,E,rfl,h1 E hE,FQ (GA h3) (qN x _ E hE) (D7 hr')⟩
theorem zH{L:List UF}(N:List (Pl×Nat×TypeId×Nat))(hG:VH P G)(GN:P.follows .mixedOrders=true){body:Code}(hL: ∀j cj,VP body j=some cj-> ∀sp,L[j]? =some sp->G5 P cj sp)
  {X:Type}(inv:X->St)(I:X->Prop)(μ:X->Nat)(out:X->G4->Option St){t:CT}{x0:X}(h0:I x0)
  (hok: ∀x,okB (inv x)=true)(qN: ∀x y E,out x y=some E->okB E=true)
  (round: ∀(Q:G4×St->Prop),t.sat Q-> ∀x,I x-> ∃x',(Zd4 P G L N body (inv x) (inv x') (out x)).sat (λy=>match y with
   | .normal=>I x'/\μ x'<μ x
   |y=> ∀E,out x y=some E->Q (y,E))):G5 P (.loop body) (GG N (HD (inv x0) t)):=
 λro cx=>FH N hG (VT.nil P cx) GN (λj cj hj sp hsp=>hL j cj hj sp hsp ro cx) inv I μ out h0 hok qN round
end
def FE(ps:List Prop)(sp:UF):UF:=λs=>match sp s with
 |some t=>some (.need ps t)
 |none=>none
theorem wM{P:Program}{ro:Option Nat}{cx:Cx}{c:Code}{ps:List Prop}{sp:UF}(h:U8 ps->HH P ro cx c sp):HH P ro cx c (FE ps sp):=by
 intro n s t ht Q hQ a w r;unfold FE at ht;split at ht;rename_i t' ht';cases ht;exact h hQ.1 n s t' ht' Q hQ.2 a w r;cases ht
theorem HT{P:Program}{c:Code}{ps:List Prop}{sp:UF}(h:U8 ps->G5 P c sp):G5 P c (FE ps sp):=λro cx=>wM (λA=>h A ro cx)
section
variable {P:Program}
def Xj2(P:Program)(rs:List ResultVar)(t:CT):VJ AV:=t.bind λp=>match p.1 with
 | .exit _=> .fail
 |_=>match BL P p.2 rs with
  |some r=> .leaf (D4 p.2.m 40 r)
  |none=> .fail
mutual
def DV:AV->AV->Prop
 | .x u,b=>match b with
  | .top=>True
  | .x v=>UB u v
  | .lst _ n _=>eY u/\n=0
  |b=>AV.x u=b
 | .lit c,b=>match b with
  | .top=>True
  | .x (.bool d)=>c=d
  |b=>AV.lit c=b
 | .lst sz n f,b=>match b with
  | .top=>True
  | .lst sz' n' f'=>sz=sz'/\n=n'/\ ∀i,i<n'->f i=f' i
  |b=>AV.lst sz n f=b
 | .agg l,b=>match b with
  | .top=>True
  | .agg l'=>B1 l l'
  |b=>AV.agg l=b
 | .tup l,b=>match b with
  | .top=>True
  | .tup l'=>B1 l l'
  |b=>AV.tup l=b
 | .roI pre n f off,b=>match b with
  | .top=>True
  | .roI pre' n' f' off'=>pre=pre'/\n=n'/\(∀k,k<n'->f k=f' k)/\off=off'
  |b=>AV.roI pre n f off=b
 |a,b=>match b with
  | .top=>True
  |b=>a=b
def B1:List AV->List AV->Prop
 |[],l'=>match l' with
  |[]=>True
  |_::_=>False
 |r::l,l'=>match l' with
  |a::l'=>DV r a/\B1 l l'
  |[]=>False
end
mutual
theorem LN{e:UJ}{w:World}: ∀{a b:AV} {v:Value},DV a b->Rep e w a v->Rep e w b v
 | .x u,b,v,h,r=>by
  unfold DV at h;split at h;exact .top v;rw [bS h] at r;exact r;obtain ⟨h1,rfl⟩:=h;cases r.x_inv;rw [eX h1];exact .lstNil _ _;rw [←h];exact r
 | .lit c,b,v,h,r=>by
  unfold DV at h;split at h;exact .top v;subst h;cases r.lit_inv;exact .x _;rw [←h];exact r
 | .lst sz n f,b,v,h,r=>by
  unfold DV at h;split at h;exact .top v;obtain ⟨rfl,rfl,h3⟩:=h;exact vZ.rep (.lst _ _ _ _ h3) r;rw [←h];exact r
 | .agg l,b,v,h,r=>by
  unfold DV at h;split at h;exact .top v;obtain ⟨vs,rfl,Z⟩:=r.agg_inv;exact Rep.aggL (kS h Z);rw [←h];exact r
 | .tup l,b,v,h,r=>by
  unfold DV at h;split at h;exact .top v;obtain ⟨vs,rfl,Z⟩:=r.tup_inv;exact Rep.tupL (kS h Z);rw [←h];exact r
 | .top,b,v,h,r=>by
  unfold DV at h;split at h;exact .top v;rw [←h];exact r
 | .fn _ _ _,b,v,h,r=>by
  unfold DV at h;split at h;exact .top v;rw [←h];exact r
 | .ptr _ _,b,v,h,r=>by
  unfold DV at h;split at h;exact .top v;rw [←h];exact r
 | .row _,b,v,h,r=>by
  unfold DV at h;split at h;exact .top v;rw [←h];exact r
 | .elt _ _ _ _,b,v,h,r=>by
  unfold DV at h;split at h;exact .top v;rw [←h];exact r
 | .ro _,b,v,h,r=>by
  unfold DV at h;split at h;exact .top v;rw [←h];exact r
 | .mp _,b,v,h,r=>by
  unfold DV at h;split at h;exact .top v;rw [←h];exact r
 | .any1,b,v,h,r=>by
  unfold DV at h;split at h;exact .top v;rw [←h];exact r
 | .mpr _ _,b,v,h,r=>by
  unfold DV at h;split at h;exact .top v;rw [←h];exact r
 | .roI pre n f off,b,v,h,r=>by
  unfold DV at h;split at h;exact .top v;obtain ⟨rfl,rfl,h3,rfl⟩:=h;cases r with
  |roI _ _ _ _ b o Z=>
   have hL:HJ n f=HJ n _:=List.map_congr_left (λk hk=>by rw [h3 k (List.mem_range.1 hk)])
   rw [hL] at Z;exact .roI _ _ _ _ b o Z
  rw [←h];exact r
theorem kS{e:UJ}{w:World}: ∀{l l':List AV} {vs:List Value},B1 l l'->VZ e w l vs->VZ e w l' vs
 |[],[],_,_,r=>r
 |[],_::_,_,h,_=>by simp [B1] at h
 |a::l,[],_,h,_=>by simp [B1] at h
 |a::l,b::l',vs,h,r=>by
  unfold B1 at h;obtain ⟨v,vs',rfl,hv,hvs⟩:=r.cons_inv;exact VZ.cons (LN h.1 hv) (kS h.2 hvs)
end
def EndR(P:Program)(fn:Func)(res:AV)(p:G4×St):Prop:=(match p.1 with| .exit _=>False|_=>True)/\ ∃r,BL P p.2 fn.results.toList=some r/\DV (D4 p.2.m 40 r) res
theorem Wq9{fn:Func}{res:AV}{t:CT}(h:(Xj2 P fn.results.toList t).sat (λr=>DV r res)):t.sat (EndR P fn res):=by
 refine VJ.sat_mono ?_ (VJ.sat_bind h);rintro ⟨x,s⟩ hs;cases x with
 |exit i=>exact hs.elim
 |normal=>
  simp only at hs;split at hs;rename_i r Z;exact ⟨trivial,r,Z,hs⟩;exact hs.elim
 |ret=>
  simp only at hs;split at hs;rename_i r Z;exact ⟨trivial,r,Z,hs⟩;exact hs.elim
def EndC(P:Program)(fn:Func)(Q:AV->Prop)(p:G4×St):Prop:=(match p.1 with| .exit _=>False|_=>True)/\ ∃r,BL P p.2 fn.results.toList=some r/\ ∃r',DV (D4 p.2.m 40 r) r'/\Q r'
theorem Wr3{fn:Func}{Q:AV->Prop}{t:CT}(h:(Xj2 P fn.results.toList t).sat (λr=> ∃r',DV r r'/\Q r')):t.sat (EndC P fn Q):=by
 refine VJ.sat_mono ?_ (VJ.sat_bind h);rintro ⟨x,s⟩ hs;cases x with
 |exit i=>exact hs.elim
 |normal=>
  simp only at hs;split at hs;rename_i r Z;exact ⟨trivial,r,Z,hs⟩;exact hs.elim
 |ret=>
  simp only at hs;split at hs;rename_i r Z;exact ⟨trivial,r,Z,hs⟩;exact hs.elim
section
variable {G:List (Nat×Spec)}{X:Ext}{L:List UF}{f:FuncId}{fn:Func}{c:Code}{avs:List AV}
theorem GO{sp t:VJ AV}(hG:VH P G)(hX: ∀cx,VT P X cx)(GN:P.follows .mixedOrders=true)(hf:P.funcs[f]? =some fn)(hb:fn.body=some c)
  (hL: ∀j cj,VP c j=some cj-> ∀sp,L[j]? =some sp->HN P cj sp)(ht:Xj2 P fn.results.toList (D1 P G X L c 0 (HK fn avs))=t)(h: ∀Q:AV->Prop,sp.sat Q->t.sat (λr=> ∃r',DV r r'/\Q r')):UH P f avs sp:=by
 subst ht;intro Q hQ e w args hro hgl FK Z;refine xO hG GN hf hb (cx:=lC w (λb=>b<w.heap.size/\ ¬e.ro b)) (gh:=none) (T:=λb=>b<w.heap.size/\ ¬e.ro b) (e:=e) (hX _) (λ_ _ h=>h) rfl rfl (by rintro g T w0 D ⟨rfl,_⟩ h;exact h) ⟨rfl,rfl⟩ (λb h=>h) hro hgl FK Z (λj cj hj sp hsp=>hL j cj hj sp hsp _ (xN _ _)) (Wr3 (h Q hQ)) ?_ ?_
 rintro x s w0 T' e' tmps w' ⟨hx,r,DX,r',kA,hQr⟩ ⟨rfl,rfl⟩ q1 q2 q3 q5 q4;obtain ⟨u,hu,GF⟩:=DE (P:=P) q3 q4 DX;refine ⟨u,hu,u,r',rfl,hQr,q2,?_⟩;refine LN kA (Rep.idf (e:=e'.view) ?_ (L5 q1 q3 40 r u GF) (RG q3 40 r u GF));rintro b (hb|⟨k,hb⟩);rcases An b w0.heap.size with h1|h1;refine .inl ?_;rcases Classical.em (e.ro b) with h2|h2;exact h2;exact (q5 b ⟨h1,h2⟩ hb).elim;exact .inr ⟨h1,(q1.apart b hb).2⟩;exact .inr ⟨(q1.owned b k hb).1,(q1.owned b k hb).2⟩;rintro x s ⟨hx,_⟩ i rfl;exact hx
theorem HE{res:AV}{t:VJ AV}(hG:VH P G)(hX: ∀cx,VT P X cx)(GN:P.follows .mixedOrders=true)(hf:P.funcs[f]? =some fn)(hb:fn.body=some c)
  (hL: ∀j cj,VP c j=some cj-> ∀sp,L[j]? =some sp->HN P cj sp)(ht:Xj2 P fn.results.toList (D1 P G X L c 0 (HK fn avs))=t)(h:t.sat (λr=>DV r res)):DH P f avs res:=by
 subst ht;intro e w args hro hgl FK Z;refine xO hG GN hf hb (cx:=lC w (λb=>b<w.heap.size/\ ¬e.ro b)) (gh:=none) (T:=λb=>b<w.heap.size/\ ¬e.ro b) (e:=e) (hX _) (λ_ _ h=>h) rfl rfl (by rintro g T w0 D ⟨rfl,_⟩ h;exact h) ⟨rfl,rfl⟩ (λb h=>h) hro hgl FK Z (λj cj hj sp hsp=>hL j cj hj sp hsp _ (xN _ _)) (Wq9 h) ?_ ?_
 rintro x s w0 T' e' tmps w' ⟨hx,r,DX,kA⟩ ⟨rfl,rfl⟩ q1 q2 q3 q5 q4;obtain ⟨u,hu,GF⟩:=DE (P:=P) q3 q4 DX;refine ⟨u,hu,u,rfl,q2,?_⟩;refine LN kA (Rep.idf (e:=e'.view) ?_ (L5 q1 q3 40 r u GF) (RG q3 40 r u GF));rintro b (hb|⟨k,hb⟩);rcases An b w0.heap.size with h1|h1;refine .inl ?_;rcases Classical.em (e.ro b) with h2|h2;exact h2;exact (q5 b ⟨h1,h2⟩ hb).elim;exact .inr ⟨h1,(q1.apart b hb).2⟩;exact .inr ⟨(q1.owned b k hb).1,(q1.owned b k hb).2⟩;rintro x s ⟨hx,_⟩ i rfl;exact hx
end
def Jg4(P:Program)(rs:List ResultVar)(t:CT):VJ (Option (TypeId×Nat×Nat×(Nat->List AV))):=t.bind λp=>match p.1 with
 | .exit _=> .fail
 |_=>match BL P p.2 rs with
  |some (.row id)=>match D8 p.2.m id with
   |some (.row T sz n f)=> .leaf (some (T,sz,n,f))
   |_=> .fail
  |some (.x (.slice none 0 0))=> .leaf none
  |_=> .fail
def Xi9(T:TypeId)(sz n:Nat)(g:Nat->List AV):Option (TypeId×Nat×Nat×(Nat->List AV))->Prop
 |none=>n=0
 |some (T',sz',n',f)=>T'=T/\sz'=sz/\n'=n/\ ∀i,i<n->f i=g i/\ ∀a∈g i,isX a
def EndF(P:Program)(fn:Func)(T:TypeId)(sz n:Nat)(g:Nat->List AV)(p:G4×St):Prop:=(match p.1 with| .exit _=>False|_=>True)/\
 ((∃id f,BL P p.2 fn.results.toList=some (.row id)/\D8 p.2.m id=some (.row T sz n f)/\ ∀i,i<n->f i=g i/\ ∀a∈g i,isX a)\/(BL P p.2 fn.results.toList=some (.x (.slice none 0 0))/\n=0))
theorem Wr2{fn:Func}{T:TypeId}{sz n:Nat}{g:Nat->List AV}{t:CT}(h:(Jg4 P fn.results.toList t).sat (Xi9 T sz n g)):t.sat (EndF P fn T sz n g):=by
 refine VJ.sat_mono ?_ (VJ.sat_bind h);rintro ⟨x,s⟩ hs;have key:(match BL P s fn.results.toList with
  |some (.row id)=>match D8 s.m id with
   |some (.row T sz n f)=>(.leaf (some (T,sz,n,f)):VJ (Option (TypeId×Nat×Nat×(Nat->List AV))))
   |_=> .fail
  |some (.x (.slice none 0 0))=> .leaf none
  |_=> .fail).sat (Xi9 T sz n g)->(∃id f,BL P s fn.results.toList=some (.row id)/\D8 s.m id=some (.row T sz n f)/\ ∀i,i<n->f i=g i/\ ∀a∈g i,isX a)\/(BL P s fn.results.toList=some (.x (.slice none 0 0))/\n=0):=by
  intro h;split at h;rename_i id hid;split at h;rename_i T' sz' n' f hm;obtain ⟨rfl,rfl,rfl,h⟩:=h;exact .inl ⟨id,f,hid,hm,h⟩;exact h.elim;rename_i hid;exact .inr ⟨hid,h⟩;exact h.elim
 cases x with
 |exit i=>exact hs.elim
 |normal=>exact ⟨trivial,key hs⟩
 |ret=>exact ⟨trivial,key hs⟩
theorem BK{G:List (Nat×Spec)}{X:Ext}{L:List UF}{f:FuncId}{fn:Func}{c:Code}{avs:List AV}{T:TypeId}{sz n:Nat}{g:Nat->List AV}{t:VJ (Option (TypeId×Nat×Nat×(Nat->List AV)))}(hG:VH P G)(hX: ∀cx,VT P X cx)(GN:P.follows .mixedOrders=true)(hf:P.funcs[f]? =some fn)(hb:fn.body=some c)
  (hL: ∀j cj,VP c j=some cj-> ∀sp,L[j]? =some sp->HN P cj sp)(ht:Jg4 P fn.results.toList (D1 P G X L c 0 (HK fn avs))=t)(h:t.sat (Xi9 T sz n g))(HR: ∀i,i<n->(g i).length=sz):DG P f avs T sz n g:=by
 subst ht;intro e w args hro hgl FK Z;refine xO hG GN hf hb (cx:=lC w (λb=>b<w.heap.size/\ ¬e.ro b)) (gh:=none) (T:=λb=>b<w.heap.size/\ ¬e.ro b) (e:=e) (hX _) (λ_ _ h=>h) rfl rfl (by rintro g T w0 D ⟨rfl,_⟩ h;exact h) ⟨rfl,rfl⟩ (λb h=>h) hro hgl FK Z (λj cj hj sp hsp=>hL j cj hj sp hsp _ (xN _ _)) (Wr2 h) ?_ ?_
 rintro x s w0 T' e' tmps w' ⟨hx,PG⟩ ⟨rfl,rfl⟩ q1 q2 q3 q5 q4;rcases PG with ⟨id,ff,DX,hm,hfg⟩|⟨DX,rfl⟩;obtain ⟨u,hu,GF⟩:=DE (P:=P) q3 q4 DX;obtain ⟨h1,h2,h3,xs,h4,h5⟩:=q3 _ (UW hm);cases GF with
 |row _ a n' c' hl hv=>
  refine ⟨_,hu,_,xs,rfl,q2,?_,?_,λi O=>⟨HR i O,λa ha=>Wg8 ((hfg i O).2 a ha)⟩,λi j a u O ha hu=>?_⟩;rw [←hv];exact h4;intro b hbv;rw [←hv] at hbv;exact q1.owned b id (h2 b hbv);have hx':=Wg8 ((hfg i O).2 a (DY ha));obtain ⟨z,rfl⟩:=hx';have:=h5 i j (.x z) u O (by rw [(hfg i O).1];exact ha) hu
  rw [this.x_inv]
 obtain ⟨u,hu,GF⟩:=DE (P:=P) q3 q4 DX;obtain rfl:=GF.x_inv;exact ⟨_,hu,_,[],rfl,q2,World.ownsRow_nil _ _ _ _,(λb (hb:none=some b)=>by cases hb),λi O=>absurd O (Aq _),λi j a u O=>absurd O (Aq _)⟩
 rintro x s ⟨hx,_⟩ i rfl;exact hx
def B7(P:Program)(g:FuncId)(caps:List AV)(N:Nat)(vals:Nat->List Value):Prop:=
 Enters P g/\ ∀(e:UJ) (lb:List Value) (w:World) (l:Nat) (Φ:Option Nat->(Nat->Prop)->World->Prop) (T:Nat->Prop),
  (∀b,e.ro b->b<w.heap.size/\ ¬T b)->D9 e w->(∀b,T b->b<w.heap.size)->(∀a∈caps,Idf a)->VZ e w caps lb->
  (∀g T w w',Φ g T w->Below w.heap.size w w'->Φ g T w')->
  (∀k T w n,Φ (some k) T w->k<N->YieldAt (fr none) n P l (vals k).toArray w λen w'=>w.heap.size<=w'.heap.size/\(∀b,b<w.heap.size-> ¬T b->w'.heap[b]? =w.heap[b]?)/\
   ∃T',(∀b,T' b->b<w'.heap.size/\(T b\/w.heap.size<=b))/\((en= .returned (.bool true)/\Φ (some (k+1)) T' w')\/(en= .returned (.bool false)/\Φ none T' w')))->
  Φ (some 0) T w->
  Calls P g (.func (.yield l) #[] #[]::lb).toArray w λen w'=>(∃v,en= .returned v)/\((∃T',Φ (some N) T' w')\/(∃T',Φ none T' w'))
def Jg3(N:Nat)(t:CT):VJ Unit:=t.bind λp=>match p.1 with
 | .exit _=> .fail
 |_=>match p.2.gh with
  |none=> .leaf ()
  |some k=> .need [k=N] (.leaf ())
theorem Wq6{N:Nat}{t:CT}(h:(Jg3 N t).sat (λ_=>True)):t.sat (λp=>(∀i,p.1≠ .exit i)/\(p.2.gh=none\/p.2.gh=some N)):=by
 refine VJ.sat_mono ?_ (VJ.sat_bind h);rintro ⟨x,s⟩ hs;have key:(match s.gh with|none=>(.leaf ():VJ Unit)|some k=> .need [k=N] (.leaf ())).sat (λ_=>True)->s.gh=none\/s.gh=some N:=by
  cases hg:s.gh with
  |none=>exact λ_=> .inl rfl
  |some k=>
   intro h;have:k=N:=h.1;exact .inr (by rw [this])
 cases x with
 |exit i=>exact hs.elim
 |normal=>exact ⟨λi h=>(by cases h),key hs⟩
 |ret=>exact ⟨λi h=>(by cases h),key hs⟩
def cxY(w:World)(Φ:Option Nat->(Nat->Prop)->World->Prop):Cx:={M:=λ_=>False,Φ:=λg T w'=>w.heap.size<=w'.heap.size/\Φ g T w',K:=λ_ _=>False,saved:=[] }
theorem BJ{G:List (Nat×Spec)}{L:Nat->List UF}{g:FuncId}{fn:Func}{c:Code}{caps:List AV}{N:Nat}{vals:Nat->List Value}{t:Nat->VJ Unit}(hG:VH P G)(GN:P.follows .mixedOrders=true)(P9:Enters P g)(hf:P.funcs[g]? =some fn)(hb:fn.body=some c)(hrs:fn.results=#[])
  (hL: ∀l cx,VT P {Y:=some (l,N,vals) } cx-> ∀j cj,VP c j=some cj-> ∀sp,(L l)[j]? =some sp->HH P none cx cj sp)
  (ht: ∀l,Jg3 N (D1 P G {Y:=some (l,N,vals) } (L l) c 0 {HK fn (.fn (.yield l) [] []::caps) with gh:=some 0})=t l)(h: ∀l,(t l).sat (λ_=>True)):B7 P g caps N vals:=by
 refine ⟨P9,?_⟩;intro e lb w l Φ T hro hgl hT FK Z hst hy h0;have hX:VT P {Y:=some (l,N,vals) } (cxY w Φ):=by
  refine ⟨?_,(λ_ h=>by cases h),(λ_ h=>by cases h),(λ_ h=>by cases h),(λ_ h=>by cases h),(λ_ h=>by cases h)⟩
  intro l' N' vals' hY;cases hY;refine ⟨λk T w1 w2 h hb=>⟨Ar h.1 hb.size,hst _ T w1 w2 h.2 hb⟩,λk T w1 n h hk=>?_⟩;obtain ⟨fn,tmps,assign,body,h1,h2⟩:=hy k T w1 n h.2 hk;refine ⟨fn,tmps,assign,body,h1,h2.mono ?_⟩;rintro en w2 ⟨q1,q2,T',q3,q4⟩;refine ⟨q1,q2,T',q3,q4.imp (λq=>⟨q.1,?_,q.2⟩) (λq=>⟨q.1,?_,q.2⟩)⟩;exact Ar h.1 q1;exact Ar h.1 q1
 have hs:=h l;rw [←ht l] at hs;refine xO hG GN hf hb (cx:=cxY w Φ) (gh:=some 0) (T:=T) (e:=e) (avs:= .fn (.yield l) [] []::caps) hX (λ_ _ h=>h) rfl rfl (λ_ _ _ _ _ h=>h.elim) ⟨Am _,h0⟩ (λb hb=>⟨hT b hb,λZ=>(hro b Z).2 hb⟩) (λb hb=>(hro b hb).1) hgl ?_ (VZ.cons (.fn (.yield l) [] [] [] [] rfl (λi a v h=>by simp at h) rfl (λi a v h=>by simp at h)) Z) (hL l _ hX) (Wq6 hs) ?_ ?_
 intro a ha;rcases GK.1 ha with rfl|ha;exact .fn _ [] [] (λa h=>by cases h) (λa h=>by cases h)
 exact FK a ha;rintro x s w0 T' e' tmps w' ⟨_,hgh⟩ ⟨_,hΦ⟩ _ q2 _ _ _;refine ⟨.tuple #[],?_,⟨_,rfl⟩,?_⟩;simp [results,hrs];have hΦ':=hst _ T' w0 w' hΦ q2;rcases hgh with hgh|hgh;rw [hgh] at hΦ';exact .inr ⟨T',hΦ'⟩;rw [hgh] at hΦ';exact .inl ⟨T',hΦ'⟩;exact λx s h=>h.1
end
section
variable {P:Program}{cx:Cx}{w0:World}{T:Nat->Prop}{e:UJ}{s:St}{a:Act}{w:World}
theorem F1.grow(r:F1 cx w0 T e s a w){w':World}(hb:Below w.heap.size w w'):F1 cx w0 T e s a w':=by
 have st:Step e e w w':=⟨λb hlt Z=>⟨Z,hb.block b hlt⟩,λ_ h=>⟨h,rfl,rfl⟩,hb.size⟩;refine ⟨⟨λb hb'=>⟨(r.env.apart b hb').1,?_⟩,λb k hk=>⟨(r.env.owned b k hk).1,?_⟩,r.env.glob.step st⟩,r.below.trans (hb.mono r.hB),r.mem.ext hb st (λ_ _ h=>h),r.live,r.foe,r.xt.step st,r.slots.step st⟩;have:=(r.env.apart b hb').2;have:=hb.size;omega;have:=(r.env.owned b k hk).2;have:=hb.size;omega
theorem F1.moreRo(r:F1 cx w0 T e s a w)(ro':Nat->Prop)(h1: ∀b,e.ro b->ro' b)(h2: ∀b,ro' b->e.own b=none/\b<w.heap.size)(h3: ∀b,ro' b-> ¬T b):F1 cx w0 T {e with ro:=ro'} s a w:=by
 have st:Step e {e with ro:=ro'} w w:=⟨λb _ Z=>⟨h1 b Z,rfl⟩,λ_ h=>⟨h,rfl,rfl⟩,Am _⟩
 exact ⟨⟨h2,r.env.owned,r.env.glob.step st⟩,r.below,r.mem.ext (Below.refl _ _) st (λ_ _ h=>h),r.live,λb hb=>⟨(r.foe b hb).1,λh=>h3 b h hb⟩,r.xt.step st,r.slots.step st⟩
theorem F1.turn(r:F1 cx w0 T e s a w){l:Nat}{o o':Obj}(hl:w.heap[l]? =some o)(ho:o.isCells=false)(ho':o'.isCells=false)(H2:e.own l=none)(hB:w0.heap.size<=l)(hdl: ∃q,o= .loop q){K':Nat->Obj->Prop}
  (hK': ∀b q,K' b q->(b≠l/\cx.K b q)\/(b=l/\q=o'/\e.ro l)):F1 {cx with K:=K'} w0 T e s a (w.putObj l o'):=by
 have hd: ∀x,o≠ .deferred x:=by rintro x rfl;obtain ⟨_,h⟩:=hdl;cases h
 have hom: ∀es c,o≠Obj.map es c:=by rintro es c rfl;obtain ⟨_,h⟩:=hdl;cases h
 have hmp:=qG (o':=o') hl hom;have hlt:=(P2.1 hl).1;have hsz:(w.putObj l o').heap.size=w.heap.size:=World.putObj_size;have hc:=B6 (o':=o') hl ho ho';refine ⟨⟨λb hb=>by rw [hsz];exact r.env.apart b hb,λb k hk=>by rw [hsz];exact r.env.owned b k hk,aA r.env.glob hl ho⟩,?_,λp A=>(r.mem p A).putObj hl hom ho ho' H2,r.live,r.foe,⟨⟨λd hd'=>?_,r.xt.defers.2⟩,λb q hq=>?_,⟨r.xt.saved.1,λi x v hx hv=>(r.xt.saved.2 i x v hx hv).sameCells hsz hc hmp⟩,by rw [hsz];exact r.xt.size⟩,r.slots.sameCells hsz hc hmp⟩
 exact r.below.trans ((Below.refl w0.heap.size w).grown (grownBy_putObj' w l _) (by have:=r.hB;omega) (λk he=>by cases he;exact hB))
 obtain ⟨D,k1,k2,k3,k4,k5⟩:=r.xt.defers.1 d hd';refine ⟨D,k1,k2,by rw [hsz];exact k3,?_,k5⟩
 rw [Bu (λhe=>by subst he;rw [hl] at k4;exact hd _ (Bb k4))]
 exact k4;rcases hK' b q hq with ⟨hne,hk⟩|⟨rfl,rfl,hro⟩;obtain ⟨q1,q2,q3⟩:=r.xt.kept b q hk;exact ⟨q1,by rw [hsz];exact q2,(Bu hne).trans q3⟩
 exact ⟨hro,by rw [hsz];exact hlt,World.putObj_heap_same hlt⟩
def Wa4:List Nat->List Value->List AV->List AV
 |p::ps,v::vs,σ=>Wa4 ps vs (σ.set p (.x v))
 |_,_,σ=>σ
theorem NG: ∀(ps:List Nat) (vs:List Value) (σ:List AV) (us:List Value),VZ e w σ us->VZ e w (Wa4 ps vs σ) ((ps.zip vs).foldl (λt (p:Nat×Value)=>t.set p.1 p.2) us)
 |[],_,_,_,h=>h
 |_::_,[],_,_,h=>h
 |p::ps,v::vs,_,_,h=>NG ps vs _ _ (h.set (.x v) p)
theorem rF: ∀(l:List (Nat×Value)) (t:Array Value),(l.foldl (λt (p:Nat×Value)=>t.setIfInBounds p.1 p.2) t).toList=l.foldl (λt (p:Nat×Value)=>t.set p.1 p.2) t.toList
 |[],_=>rfl
 |p::l,t=>by simp only [List.foldl_cons];rw [rF l];simp
def nD(s:St)(ps:List Nat)(vs:List Value):St:={s with σ:=Wa4 ps vs s.σ,sv:=s.σ::s.sv}
def MM(s:St):St:=match s.sv with
 |σ::t=>{s with σ:=σ,sv:=t}
 |[]=>s
def C6(P:Program)(G:List (Nat×Spec))(X:Ext)(L:List UF)(N:List (Pl×Nat×TypeId×Nat))(ps:List Nat)(vs:List Value)(assign body:Code)(s nxt:St)(out:G4->Option St):VJ G4:=
 (D1 P G X [] assign 0 (nD s ps vs)).bind λp=>match p.1 with
  | .normal=>(D1 P G X L body 0 p.2).bind λq=>pZ N nxt out (q.1,MM q.2)
  |_=> .fail
def G4.code:G4->Code
 | .normal=> .skip
 | .exit id=> .exit id
 | .ret=> .ret
end
section
variable {P:Program}{G:List (Nat×Spec)}{X:Ext}{L:List UF}
theorem nK{N:List (Pl×Nat×TypeId×Nat)}{ps:List Nat}{vs:List Value}{assign body:Code}{s nxt:St}{out:G4->Option St}{R:G4->Prop}(h:(C6 P G X L N ps vs assign body s nxt out).sat R):
  (D1 P G X [] assign 0 (nD s ps vs)).sat (λp=>p.1= .normal/\(D1 P G X L body 0 p.2).sat (λq=>match q.1 with
   | .normal=>R .normal/\U8 (BA (FU N (MM q.2)) nxt)
   |y=> ∃E,out y=some E/\R y/\U8 (BA (FU N (MM q.2)) E))):=by
 refine VJ.sat_mono ?_ (VJ.sat_bind h);rintro ⟨y,s1⟩ h1;cases y with
 |normal=>
  refine ⟨rfl,VJ.sat_mono ?_ (VJ.sat_bind h1)⟩;rintro ⟨y,s'⟩ A;cases y with
  |normal=>exact ⟨(VJ.sat_needT A).2,(VJ.sat_needT A).1⟩
  |exit id=>
   dsimp only [pZ] at A ⊢
   split at A;rename_i E hE;exact ⟨E,hE,(VJ.sat_needT A).2,(VJ.sat_needT A).1⟩;exact A.elim
  |ret=>
   dsimp only [pZ] at A ⊢
   split at A;rename_i E hE;exact ⟨E,hE,(VJ.sat_needT A).2,(VJ.sat_needT A).1⟩;exact A.elim
 |exit id=>exact h1.elim
 |ret=>exact h1.elim
theorem yM(N:List (Pl×Nat×TypeId×Nat))(hG:VH P G)(hX: ∀cx,VT P X cx)(GN:P.follows .mixedOrders=true){f:Operand}{ps:Array Nat}{assign body:Code}
  (hL: ∀j cj,VP body j=some cj-> ∀sp,L[j]? =some sp->G5 P cj sp)
  {V:Type}(inv:V->St)(I:V->Prop)(idx:V->Nat)(out:V->G4->Option St){t:CT}{x0:V}(h0:I x0)(hi0:idx x0=0)
  (hok: ∀x,okB (inv x)=true)(qN: ∀x y E,out x y=some E->okB E=true)(hgh: ∀x,(inv x).gh=none)(Qp5: ∀x y E,out x y=some E->E.gh=none)
  {g:FuncId}{caps:List AV}{caps0:List AV}(hfv:rho (inv x0).σ f= .fn (.func g) [] caps0)(yS: ∀e w lb,US e (inv x0).m w->VZ e w caps0 lb->VZ e w caps lb/\ ∀x∈caps,Idf x){M:Nat}{vals:Nat->List Value}(Qp0:B7 P g caps M vals)(hps: ∀k,(vals k).length=ps.size)
  (round: ∀(Q:G4×St->Prop),t.sat Q-> ∀x,I x->(idx x<M-> ∃x',idx x'=idx x+1/\(C6 P G X L N ps.toList (vals (idx x)) assign body (inv x) (inv x') (out x)).sat (λy=>match y with
   | .normal=>I x'
   |y=> ∀E,out x y=some E->Q (y,E)))/\(idx x=M->Q (.normal,inv x))):HN P (.rangeFunc f ps assign body) (GG N (HD (inv x0) t)):=by
 intro cx Zl8;refine yO (jF (hok x0) ?_);intro n Q hQ a w r;obtain ⟨w0,T0,e,hΦ0,r⟩:=r;rw [hgh] at hΦ0;refine wpIn_rangeFunc ?_;intro fn hfn;obtain ⟨rec,yF⟩: ∃rec:LoopState->Option Code->Loop,rec=λst pe=>{state:=st,pending:=pe,fn,tmps:=a.tmps,params:=ps,assign,body,defers:=w.heap.size}:=⟨_,rfl⟩;obtain ⟨W1,hW1⟩: ∃W1,(w.alloc (.deferred (some []))).alloc (.loop (rec .ready none))=W1:=⟨_,rfl⟩;have hfe:=FG r.slots f;rw [hfv] at hfe;obtain ⟨us,lb,hv,ru,rl⟩:=hfe.fn_inv;cases ru.nil_inv;have hL1:W1.heap[w.heap.size+1]? =some (.loop (rec .ready none)):=by
  rw [←hW1];have:=World.alloc_heap_new (w.alloc (.deferred (some []))) (.loop (rec .ready none));rwa [World.size_alloc] at this
 have hD1:W1.heap[w.heap.size]? =some (.deferred (some [])):=by
  rw [←hW1];exact (Below.heap_alloc _ _ _ VS).trans (World.alloc_heap_new w _)
 have hS1:W1.heap.size=w.heap.size+2:=by rw [←hW1];simp
 have hb1:Below w.heap.size w W1:=by
  rw [←hW1];exact ((Below.refl _ w).alloc (Am _) _).alloc VS _
 have hw0:=r.hB
 -- the frame that waits
 obtain ⟨a',ha'⟩: ∃a':Act,a'={tmps:=a.tmps,defers:={target:= .collected w.heap.size,args:=#[] }::a.defers}:=⟨_,rfl⟩
 -- what is so between two calls of yield
 let own':UJ->Nat->Prop:=λe b=>(∃id,e.own b=some id)\/b=w.heap.size+1
 let Φi:Option Nat->(Nat->Prop)->World->Prop:=λk T W=>match k with
  |some k=> ∃x e,I x/\idx x=k/\T=own' e/\F1 cx w0 T0 e (inv x) a' W/\e.own (w.heap.size+1)=none/\W.heap[w.heap.size+1]? =some (.loop (rec .ready none))
  |none=> ∃y E e,y≠G4.normal/\Q (y,E)/\E.gh=none/\T=own' e/\F1 cx w0 T0 e E a' W/\e.own (w.heap.size+1)=none/\W.heap[w.heap.size+1]? =some (.loop (rec .done (some y.code)))
 have hst: ∀g T w w',Φi g T w->Below w.heap.size w w'->Φi g T w':=by
  intro k T w1 w2 h hb;cases k with
  |some k=>
   obtain ⟨x,e,h1,h2,h3,h4,h5,h6⟩:=h;exact ⟨x,e,h1,h2,h3,h4.grow hb,h5,(hb.block _ (P2.1 h6).1).trans h6⟩
  |none=>
   obtain ⟨y,E,e,h1,h2,h2',h3,h4,h5,h6⟩:=h;exact ⟨y,E,e,h1,h2,h2',h3,h4.grow hb,h5,(hb.block _ (P2.1 h6).1).trans h6⟩
 -- the start
 have r1:=r.grow hb1;have hns: ∀d∈a.defers,d≠{target:= .collected w.heap.size,args:=#[] }:=by
  intro d hd he;obtain ⟨D,k1,k2,k3,k4,k5⟩:=r.xt.defers.1 d hd;rw [k1] at he;simp only [Deferred.mk.injEq,Target.collected.injEq,and_true] at he;omega
 let e1:UJ:={e with ro:=λb=>e.ro b\/b=w.heap.size}
 have r2:F1 cx w0 T0 e1 (inv x0) a W1:=by
  refine r1.moreRo _ (λb h=> .inl h) ?_ ?_;rintro b (h|rfl);exact r1.env.apart b h;refine ⟨?_,VG⟩;cases ho:e.own w.heap.size with
  |none=>rfl
  |some k=>have:=(r.env.owned _ k ho).2;omega
  rintro b (h|rfl) hT;exact (r.foe b hT).2 h;have:=(r.foe _ hT).1;omega
 have r3:F1 cx w0 T0 e1 (inv x0) a' W1:=by
  rw [ha'];refine ⟨r2.env,r2.below,r2.mem,r2.live,r2.foe,⟨⟨λd hd=>?_,List.nodup_cons.2 ⟨λh=>hns _ h rfl,r2.xt.defers.2⟩⟩,r2.xt.kept,r2.xt.saved,r2.xt.size⟩,r2.slots⟩;rcases GK.1 hd with rfl|hd;exact ⟨w.heap.size,rfl,.inr rfl,VG,hD1,Zl8 _ _ _ _ hΦ0 hw0 r.xt.size⟩;exact r2.xt.defers.1 d hd
 have Je4:e.own (w.heap.size+1)=none:=by
  cases ho:e.own (w.heap.size+1) with
  |none=>rfl
  |some k=>have:=(r.env.owned _ k ho).2;omega
 refine ⟨w.heap.size+1,[{target:= .collected w.heap.size,args:=#[] }],W1,{target:= .fn (.func g) lb.toArray,args:=#[.func (.yield (w.heap.size+1)) #[] #[]] },W1,g,
  #[.func (.yield (w.heap.size+1)) #[] #[]]++lb.toArray,W1,?_,?_,(λ_ _=>trivial),?_,(λh=>by cases h),?_⟩
 rw [←hW1,yF];exact run_enterLoop_outer _ _ _ _ _;simp only [resolve,hv];simp [go_sem];simp only [invoke];exact L8 Qp0.1 _ W1;have OE:#[.func (.yield (w.heap.size+1)) #[] #[]]++lb.toArray=(Value.func (.yield (w.heap.size+1)) #[] #[]::lb).toArray:=Array.ext' VS;rw [OE];obtain ⟨rl,Jf4⟩:=yS e w lb r.mem rl;have stw:Step e e1 w W1:=⟨λb hlt Z=>⟨.inl Z,hb1.block b hlt⟩,λ_ h=>⟨h,rfl,rfl⟩,hb1.size⟩;have FD:=Qp0.2 e1 lb W1 (w.heap.size+1) Φi (own' e1) ?_ (r.env.glob.step stw) ?_ Jf4 (rl.step stw) hst ?_ ⟨x0,e1,h0,hi0,rfl,r3,Je4,hL1⟩;refine IR (FD.mono ?_);have hw4: ∀{W:World} {s:St} {e:UJ} {o:Loop} {o':Loop},F1 cx w0 T0 e s a' W->e.own (w.heap.size+1)=none->W.heap[w.heap.size+1]? =some (.loop o)->s.gh=none->Rel cx s a' (W.putObj (w.heap.size+1) (.loop o')):=by
  intro W s e o o' Z ho hl hg;have hne: ∀b q,cx.K b q->b≠w.heap.size+1:=by
   rintro b q hk rfl;have h1:=r.xt.kept _ q hk;omega
  have:=Z.turn (K':=cx.K) hl rfl (o':= .loop o') rfl ho VG ⟨_,rfl⟩ (λb q hk=> .inl ⟨hne b q hk,hk⟩);exact ⟨w0,T0,e,by rw [hg];exact hΦ0,this⟩
 rintro en W ⟨⟨v,rfl⟩,h⟩;rcases h with ⟨T',x,e',q1,q2,q3,q4,q5,q6⟩|⟨T',y,E,e',q1,q2,q2',q3,q4,q5,q6⟩;refine ⟨none,_,by have:=run_endLoop (P:=P) q6 (by rw [yF];simp);rw [yF] at this;exact this,?_⟩
 have:=hw4 (o':={rec .ready none with state:= .exhausted}) q4 q5 q6 (hgh x)
 rw [ha',yF] at this;exact ⟨.normal,inv x,rfl,(round Q hQ x q1).2 q2,this⟩
 ·have PG:(Instr.endLoop (w.heap.size+1)).run P W= .ok (some y.code) (W.putObj (w.heap.size+1) (.loop {rec .done (some y.code) with state:= .exhausted})):=by
   have:=run_endLoop (P:=P) q6 (by rw [yF];simp)
   rw [yF] at this ⊢;exact this
  refine ⟨some y.code,_,PG,?_⟩;have:=hw4 (o':={rec .done (some y.code) with state:= .exhausted}) q4 q5 q6 q2'
  rw [ha'] at this;cases y with
  |normal=>exact (q1 rfl).elim
  |exit id=>exact wpIn_exit ⟨.exit id,E,rfl,q2,this⟩
  |ret=>exact wpIn_ret ⟨.ret,E,rfl,q2,this⟩
 rintro b (h|rfl);refine ⟨by have:=(r.env.apart b h).2;omega,?_⟩
 rintro (⟨id,h2⟩|rfl);have h2':e.own b=some id:=h2;rw [(r.env.apart b h).1] at h2';cases h2';have:=(r.env.apart _ h).2;omega;refine ⟨VG,?_⟩;rintro (⟨id,h2⟩|h2);have:=(r.env.owned _ id h2).2;omega;omega;rintro b (⟨id,h⟩|rfl);have:=(r.env.owned b id h).2;omega;omega
 ·-- a round
  rintro k T W m ⟨x,ek,hIx,rfl,rfl,rk,hkl,hkr⟩ hkM;obtain ⟨x',hx',zL⟩:=(round Q hQ x hIx).1 hkM;have hWl:=(P2.1 hkr).1;have hy:=run_yield (P:=P) (args:=(vals (idx x)).toArray) hkr (by rw [yF];simp [hps])
  rw [yF] at hy;refine ⟨fn,_,assign,body,hy,roundIn_of_wpIn hfn ?_⟩;clear hy
  -- the blocks that stay
  let nown:Nat->Prop:=λb=>w0.heap.size<=b/\b<W.heap.size/\ek.own b=none
  let K0:Nat->Obj->Prop:=λb o=>(cx.K b o\/(nown b/\W.heap[b]? =some o)\/(∃d∈a'.defers,d={target:= .collected b,args:=#[] }/\o= .deferred (some [])))/\b≠w.heap.size+1
  let cxk:(Nat->Obj->Prop)->Cx:=λK=>{M:=λ_=>False,Φ:=λg T w=>g=none/\w=w0/\T=T0,K:=K,saved:=a.tmps.toList::cx.saved,sz:=W.heap.size}
  let e2:UJ:={ek with ro:=λb=>ek.ro b\/nown b}
  have rk2:F1 cx w0 T0 e2 (inv x) a' W:=by
   refine rk.moreRo _ (λb h=> .inl h) ?_ ?_;rintro b (h|⟨h1,h2,h3⟩);exact rk.env.apart b h;exact ⟨h3,h2⟩;rintro b (h|⟨h1,h2,h3⟩) hT;exact (rk.foe b hT).2 h;have:=(rk.foe b hT).1;omega
  have hKok: ∀b o,K0 b o->e2.ro b/\b<W.heap.size/\W.heap[b]? =some o:=by
   rintro b o ⟨h|⟨h1,h2⟩|⟨d,hd,h1,rfl⟩,_⟩;exact rk2.xt.kept b o h;exact ⟨.inr h1,h1.2.1,h2⟩;obtain ⟨D,k1,k2,k3,k4,k5⟩:=rk2.xt.defers.1 d hd;rw [h1] at k1;simp only [Deferred.mk.injEq,Target.collected.injEq,and_true] at k1;subst k1;exact ⟨k2,k3,k4⟩
  have hlro:e2.ro (w.heap.size+1):= .inr ⟨VG,hWl,hkl⟩;have rs:Rel (cxk (λb o=>K0 b o\/(b=w.heap.size+1/\o= .loop (rec .ready none)))) (nD (inv x) ps.toList (vals (idx x))) {tmps:=(ps.zip (vals (idx x)).toArray).foldl (λt (p,v)=>t.setIfInBounds p v) a.tmps,defers:=[] } W:=by
   refine ⟨w0,T0,e2,⟨hgh x,rfl,rfl⟩,rk2.env,rk2.below,rk2.mem,rk2.live,rk2.foe,⟨⟨(λd hd=>by cases hd),By⟩,?_,L4.cons (by rw [ha'] at rk2;exact rk2.slots) rk2.xt.saved,Am _⟩,?_⟩
   rintro b o (h|⟨rfl,rfl⟩);exact hKok b o h;exact ⟨hlro,hWl,hkr⟩;have h1:=NG (e:=e2) (w:=W) ps.toList (vals (idx x)) (inv x).σ a.tmps.toList (by rw [ha'] at rk2;exact rk2.slots)
   have h2:((ps.zip (vals (idx x)).toArray).foldl (λt (p,v)=>t.setIfInBounds p v) a.tmps).toList=(ps.toList.zip (vals (idx x))).foldl (λt (p:Nat×Value)=>t.set p.1 p.2) a.tmps.toList:=by
    rw [←rF,←Array.foldl_toList];simp
   rw [h2];exact h1
  have FF:=nK zL;refine wpIn_mono (D3 hG (hX _) GN (ro:=some (w.heap.size+1)) assign 0 _ _ _ W UV FF rs) ?_;rintro ex a1 W1' ⟨y1,s1,rfl,⟨hy1,Jf5⟩,w0',T',ea,⟨hg1,rfl,rfl⟩,ra⟩;cases hy1;obtain ⟨hlr,hll,hlh⟩:=ra.xt.kept (w.heap.size+1) (.loop (rec .ready none)) (.inr ⟨rfl,rfl⟩);refine ⟨_,run_beginRound hlh (by rw [yF]),?_⟩
  have rb:=ra.turn (K':=λb o=>K0 b o\/(b=w.heap.size+1/\o= .loop {rec .ready none with state:= .busy})) hlh rfl (o':= .loop {rec .ready none with state:= .busy}) rfl (ra.env.apart _ hlr).1 VG ⟨_,rfl⟩ (by
   rintro b q (h|⟨rfl,rfl⟩);exact .inl ⟨h.2,.inl h⟩;exact .inr ⟨rfl,rfl,hlr⟩)
  refine wpIn_mono (D3 hG (hX _) GN (ro:=some (w.heap.size+1)) (cx:=cxk (λb o=>K0 b o\/(b=w.heap.size+1/\o= .loop {rec .ready none with state:= .busy}))) body 0 s1 _ a1 _ (λj cj hj sp hsp=>hL j cj hj sp (by simpa using hsp) _ _) Jf5 ⟨w0',T',ea,⟨hg1,rfl,rfl⟩,rb⟩) ?_
  rintro ex a3 W3 ⟨y,s3,rfl,hq,w0'',T'',eb,⟨hg3,hw0e,hT0e⟩,rc⟩;subst hw0e hT0e;obtain ⟨Jf1,hll3,Jf2⟩:=rc.xt.kept (w.heap.size+1) _ (.inr ⟨rfl,rfl⟩)
  -- back to the frame that waits
  have back: ∀(jump:Option Code) (E:St),U8 (BA (FU N (MM s3)) E)->okB E=true->
    (Instr.endRound (w.heap.size+1) jump).run P W3= .ok (.bool jump.isNone) (W3.putObj (w.heap.size+1) (.loop (rec (if jump.isNone then .ready else .done) jump)))/\
    ∃ec,F1 cx w0'' T'' ec E a' (W3.putObj (w.heap.size+1) (.loop (rec (if jump.isNone then .ready else .done) jump)))/\ec.own (w.heap.size+1)=none/\
     (W3.putObj (w.heap.size+1) (.loop (rec (if jump.isNone then .ready else .done) jump))).heap[w.heap.size+1]? =some (.loop (rec (if jump.isNone then .ready else .done) jump))/\
     W.heap.size<=(W3.putObj (w.heap.size+1) (.loop (rec (if jump.isNone then .ready else .done) jump))).heap.size/\
     (∀b,b<W.heap.size-> ¬own' ek b->(W3.putObj (w.heap.size+1) (.loop (rec (if jump.isNone then .ready else .done) jump))).heap[b]? =W.heap[b]?)/\
     ∀b,own' ec b->b<(W3.putObj (w.heap.size+1) (.loop (rec (if jump.isNone then .ready else .done) jump))).heap.size/\(own' ek b\/W.heap.size<=b):=by
   intro jump E pJ hokE;have DI:=run_endRound (P:=P) jump Jf2;refine ⟨by rw [yF] at DI ⊢;exact DI,?_⟩
   obtain ⟨W4,hW4⟩: ∃W4,W4=W3.putObj (w.heap.size+1) (.loop (rec (if jump.isNone then .ready else .done) jump)):=⟨_,rfl⟩
   rw [←hW4];have rd:=rc.turn (K':=K0) Jf2 rfl (o':= .loop (rec (if jump.isNone then .ready else .done) jump)) rfl (rc.env.apart _ Jf1).1 VG ⟨_,rfl⟩ (λb q h=> .inl ⟨h.2,.inl h⟩)
   rw [←hW4] at rd;have hl4:W4.heap[w.heap.size+1]? =some (.loop (rec (if jump.isNone then .ready else .done) jump)):=by rw [hW4];exact World.putObj_heap_same hll3
   have Jd7:W.heap.size<=W4.heap.size:=rd.xt.size
   -- the frame's own state, in a run that is pinned
   let cxp:Cx:={M:=λD=>cx.M D,Φ:=λg T w=>g=none/\w=w0''/\T=T'',K:=λb o=>K0 b o\/(b=w.heap.size+1/\o= .loop (rec (if jump.isNone then .ready else .done) jump)),saved:=cx.saved,sz:=cx.sz}
   have hpop:Rel cxp (MM s3) a' W4:=by
    obtain ⟨σ0,l',hsv,hs1,hs2⟩:=rd.xt.saved.cons_inv;refine ⟨w0'',T'',eb,?_,rd.env,rd.below,?_,?_,rd.foe,⟨⟨λd hd=>?_,?_⟩,?_,?_,Ar rk.xt.size Jd7⟩,?_⟩;exact ⟨by unfold MM;rw [hsv];exact hg3,rfl,rfl⟩
    unfold MM;rw [hsv];exact rd.mem;unfold MM;rw [hsv];exact rd.live;obtain ⟨D,k1,k2,k3,k4,k5⟩:=rk.xt.defers.1 d hd;have hDl:D≠w.heap.size+1:=by
     rintro rfl;rw [hkr] at k4;cases k4
    obtain ⟨q1,q2,q3⟩:=rd.xt.kept D (.deferred (some [])) ⟨.inr (.inr ⟨d,hd,k1,rfl⟩),hDl⟩;exact ⟨D,k1,q1,q2,q3,k5⟩;exact rk.xt.defers.2;rintro b o (h|⟨rfl,rfl⟩);exact rd.xt.kept b o h;exact ⟨Jf1,(P2.1 hl4).1,hl4⟩;unfold MM;rw [hsv];exact hs2;unfold MM;rw [hsv];rw [ha'];exact hs1
   obtain ⟨w0p,Tp,ec,⟨_,rfl,rfl⟩,re⟩:=FQ (GA pJ) hokE (D7 (l:=N) hpop);have hlec:=re.xt.kept _ _ (Or.inr ⟨rfl,rfl⟩);refine ⟨ec,⟨re.env,re.below,re.mem,re.live,re.foe,⟨re.xt.defers,λb o h=>?_,re.xt.saved,re.xt.size⟩,re.slots⟩,(re.env.apart _ hlec.1).1,hl4,Jd7,?_,?_⟩;refine re.xt.kept b o (.inl ⟨.inl h,?_⟩);rintro rfl;have h1:=r.xt.kept _ o h;omega;intro b hb hno;rcases An b w0p.heap.size with h1|h1;rw [re.below.block b h1,rk.below.block b h1];have hbn:ek.own b=none:=by
    cases ho:ek.own b with
    |none=>rfl
    |some id=>exact (hno (.inl ⟨id,ho⟩)).elim
   have hbl:b≠w.heap.size+1:=λh=>hno (.inr h);have hlt:b<W.heap.size:=hb;obtain ⟨_,_,q3⟩:=re.xt.kept b W.heap[b] (.inl ⟨.inr (.inl ⟨⟨h1,hlt,hbn⟩,by simp [hlt]⟩),hbl⟩)
   rw [q3];simp [hlt];rintro b (⟨id,h⟩|rfl);obtain ⟨q1,q2⟩:=re.env.owned b id h;refine ⟨q2,?_⟩;rcases An b W.heap.size with h1|h1;refine .inl ?_;cases ho:ek.own b with
   |some id'=>exact .inl ⟨id',ho⟩
   |none=>
    rcases Classical.em (b=w.heap.size+1) with h2|h2;exact .inr h2;exfalso;obtain ⟨q3,_,_⟩:=re.xt.kept b W.heap[b] (.inl ⟨.inr (.inl ⟨⟨q1,h1,ho⟩,by simp [h1]⟩),h2⟩)
    rw [(re.env.apart b q3).1] at h;cases h
   exact .inr h1;exact ⟨(P2.1 hl4).1,.inl (.inr rfl)⟩
  cases y with
  |normal=>
   obtain ⟨hI',pJ⟩:=hq;obtain ⟨DI,ec,q1,q2,q3,q4,q5,q6⟩:=back none (inv x') pJ (hok x');exact ⟨_,_,DI,q4,q5,own' ec,q6,.inl ⟨rfl,x',ec,hI',hx',rfl,q1,q2,q3⟩⟩
  |exit id=>
   obtain ⟨E,hE,hQE,pJ⟩:=hq;obtain ⟨DI,ec,q1,q2,q3,q4,q5,q6⟩:=back (some (.exit id)) E pJ (qN x _ E hE);exact ⟨_,_,DI,q4,q5,own' ec,q6,.inr ⟨rfl,.exit id,E,ec,(λh=>by cases h),hQE E hE,Qp5 x _ E hE,rfl,q1,q2,q3⟩⟩
  |ret=>
   obtain ⟨E,hE,hQE,pJ⟩:=hq;obtain ⟨DI,ec,q1,q2,q3,q4,q5,q6⟩:=back (some .ret) E pJ (qN x _ E hE);exact ⟨_,_,DI,q4,q5,own' ec,q6,.inr ⟨rfl,.ret,E,ec,(λh=>by cases h),hQE E hE,Qp5 x _ E hE,rfl,q1,q2,q3⟩⟩
theorem P6(N:List (Pl×Nat×TypeId×Nat))(hG:VH P G)(hX: ∀cx,VT P X cx)(GN:P.follows .mixedOrders=true){f:Operand}{ps:Array Nat}{assign body:Code}
  (hL: ∀j cj,VP body j=some cj-> ∀sp,L[j]? =some sp->G5 P cj sp)
  {V:Type}(inv:V->St)(I:V->Prop)(idx:V->Nat)(out:V->G4->Option St){t:CT}{x0:V}(h0:I x0)(hi0:idx x0=0)
  (hok: ∀x,okB (inv x)=true)(qN: ∀x y E,out x y=some E->okB E=true)(hgh: ∀x,(inv x).gh=none)(Qp5: ∀x y E,out x y=some E->E.gh=none)
  {g:FuncId}{caps:List AV}(hfv:rho (inv x0).σ f= .fn (.func g) [] caps)(yS:caps.all (rY 6)=true){M:Nat}{vals:Nat->List Value}(Qp0:B7 P g caps M vals)(hps: ∀k,(vals k).length=ps.size)
  (round: ∀(Q:G4×St->Prop),t.sat Q-> ∀x,I x->(idx x<M-> ∃x',idx x'=idx x+1/\(C6 P G X L N ps.toList (vals (idx x)) assign body (inv x) (inv x') (out x)).sat (λy=>match y with
   | .normal=>I x'
   |y=> ∀E,out x y=some E->Q (y,E)))/\(idx x=M->Q (.normal,inv x))):HN P (.rangeFunc f ps assign body) (GG N (HD (inv x0) t)):=by
 refine yM N hG hX GN hL inv I idx out h0 hi0 hok qN hgh Qp5 (caps:=caps) hfv ?_ Qp0 hps round;intro e w lb _ rl;refine ⟨rl,λx hx=>?_⟩;obtain ⟨i,O⟩:=wO.1 hx;obtain ⟨v,_,rv⟩:=rl.get O;exact jY 6 x v rv (PS.1 yS x hx)
def rV(m:GW):Nat->AV->AV
 | 0,a=>match a with
  | .lit b=> .lit b
  | .x v=> .x v
  | .ro l=> .ro l
  | .lst a b c=> .lst a b c
  | .roI a b c d=> .roI a b c d
  |_=> .top
 |d+1,a=>match a with
  | .ptr id off=>match D8 m id with
   |some (.keep _ l)=> .ro ((l.drop off).map (rV m d))
   |_=> .top
  | .agg l=> .agg (l.map (rV m d))
  | .tup l=> .tup (l.map (rV m d))
  | .fn f l l'=> .fn f (l.map (rV m d)) (l'.map (rV m d))
  | .row _=> .top
  | .elt _ _ _ _=> .top
  | .mp _=> .top
  |a=>a
theorem ER{e:UJ}{w:World}{m:GW}(hm:US e m w): ∀(d:Nat) (a:AV) (v:Value),Rep e w a v->Idf (rV m d a)
 | 0,a,v,h=>by
  cases h with
  |lit b=>exact .lit b
  |x v=>exact .x v
  |ro l vs b o h1 h2 h3 h4 h5 h6=>exact .ro l h3
  |lstNil sz f=>exact .lst sz 0 f (λi O=>VG)
  |lst sz n f b o cap g h1 h2 h3 h4 h5 h6 h7 h8 ad had=>exact .lst sz n f h3
  |roI pre n f off b o Z=>cases Z with|ro _ vs _ _ h1 h2 h3 h4 h5 h6=>exact .roI pre n f off (.ro _ h3)
  |_=>exact .top
 |d+1,a,v,h=>by
  have ih:=ER hm d;cases h with
  |top v=>exact .top
  |lit b=>exact .lit b
  |x v=>exact .x v
  |agg l vs h1 h2=>exact .agg _ (DM ih (⟨h1,h2⟩:VZ e w l vs))
  |tup l vs h1 h2=>exact .tup _ (DM ih (⟨h1,h2⟩:VZ e w l vs))
  |fn f l l' vs vs' h1 h2 h3 h4=>exact .fn f _ _ (DM ih (⟨h1,h2⟩:VZ e w l vs)) (DM ih (⟨h3,h4⟩:VZ e w l' vs'))
  |ptr id off hl=>
   simp only [rV];split;rename_i T l hg;obtain ⟨_,_,_,vs,h3,h4⟩:=hm _ (UW hg);exact .ro _ (DM ih (h4.drop off));exact .top
  |row id a n c hl hv=>exact .top
  |elt id sz i j b n cap hl hv=>exact .top
  |mp id hl=>exact .top
  |mpr g okf vals b es c h1 h2 h3 h4 h5 h6 h7 h8=>exact .mpr g okf h3
  |any1 v hv=>exact .any1
  |roI pre n f off b o Z=>cases Z with|ro _ vs _ _ h1 h2 h3 h4 h5 h6=>exact .roI pre n f off (.ro _ h3)
  |ro l vs b o h1 h2 h3 h4 h5 h6=>exact .ro l h3
  |lstNil sz f=>exact .lst sz 0 f (λi O=>VG)
  |lst sz n f b o cap g h1 h2 h3 h4 h5 h6 h7 h8 ad had=>exact .lst sz n f h3
theorem eW{e:UJ}{w:World}{m:GW}(hm:US e m w): ∀(d:Nat) (a:AV) (v:Value),Rep e w a v->Rep e w (rV m d a) v
 | 0,a,v,h=>by
  cases a<;>first|exact h|exact .top v
 |d+1,a,v,h=>by
  have ih:=eW hm d;have ihf:=ER hm d;cases h with
  |agg l vs h1 h2=>exact Rep.aggL (VZ.map _ ih ⟨h1,h2⟩)
  |tup l vs h1 h2=>exact Rep.tupL (VZ.map _ ih ⟨h1,h2⟩)
  |fn f l l' vs vs' h1 h2 h3 h4=>
   have k1:VZ e w l vs:=⟨h1,h2⟩;have k2:VZ e w l' vs':=⟨h3,h4⟩;exact .fn f _ _ vs vs' (VZ.map _ ih k1).1 (VZ.map _ ih k1).2 (VZ.map _ ih k2).1 (VZ.map _ ih k2).2
  |ptr id off hl=>
   simp only [rV];split;rename_i T l hg;obtain ⟨_,hro,hlt,vs,h3,h4⟩:=hm _ (UW hg);have k:=VZ.map (rV m d) ih (h4.drop off);refine .ro _ (vs.drop off) (e.blk id) off hro hlt (DM ihf (h4.drop off)) k.1 ?_ k.2;intro j v hj;rw [List.getElem?_drop] at hj;simp [World.cell?,h3,hj];exact .top _
  |row id a n c hl hv=>exact .top _
  |elt id sz i j b n cap hl hv=>exact .top _
  |mp id hl=>exact .top _
  |mpr g okf vals b es c h1 h2 h3 h4 h5 h6 h7 h8=>exact .mpr g okf vals b es c h1 h2 h3 h4 h5 h6 h7 h8
  |any1 v hv=>exact .any1 v hv
  |top v=>exact .top v
  |lit b=>exact .lit b
  |x v=>exact .x v
  |roI pre n f off b o Z=>exact .roI pre n f off b o Z
  |ro l vs b o h1 h2 h3 h4 h5 h6=>exact .ro l vs b o h1 h2 h3 h4 h5 h6
  |lstNil sz f=>exact .lstNil sz f
  |lst sz n f b o cap g h1 h2 h3 h4 h5 h6 h7 h8 ad had=>exact .lst sz n f b o cap g h1 h2 h3 h4 h5 h6 h7 h8 ad had
theorem yL(N:List (Pl×Nat×TypeId×Nat))(hG:VH P G)(hX: ∀cx,VT P X cx)(GN:P.follows .mixedOrders=true){f:Operand}{ps:Array Nat}{assign body:Code}
  (hL: ∀j cj,VP body j=some cj-> ∀sp,L[j]? =some sp->G5 P cj sp)
  {V:Type}(inv:V->St)(I:V->Prop)(idx:V->Nat)(out:V->G4->Option St){t:CT}{x0:V}(h0:I x0)(hi0:idx x0=0)
  (hok: ∀x,okB (inv x)=true)(qN: ∀x y E,out x y=some E->okB E=true)(hgh: ∀x,(inv x).gh=none)(Qp5: ∀x y E,out x y=some E->E.gh=none)
  {g:FuncId}{caps:List AV}{caps0:List AV}(hfv:rho (inv x0).σ f= .fn (.func g) [] caps0)(yS:caps0.map (rV (inv x0).m 6)=caps){M:Nat}{vals:Nat->List Value}(Qp0:B7 P g caps M vals)(hps: ∀k,(vals k).length=ps.size)
  (round: ∀(Q:G4×St->Prop),t.sat Q-> ∀x,I x->(idx x<M-> ∃x',idx x'=idx x+1/\(C6 P G X L N ps.toList (vals (idx x)) assign body (inv x) (inv x') (out x)).sat (λy=>match y with
   | .normal=>I x'
   |y=> ∀E,out x y=some E->Q (y,E)))/\(idx x=M->Q (.normal,inv x))):HN P (.rangeFunc f ps assign body) (GG N (HD (inv x0) t)):=by
 subst yS;refine yM N hG hX GN hL inv I idx out h0 hi0 hok qN hgh Qp5 (caps:=caps0.map (rV (inv x0).m 6)) hfv ?_ Qp0 hps round;intro e w lb hm rl;exact ⟨VZ.map _ (eW hm 6) rl,DM (ER hm 6) rl⟩
end
def L2(P:Program)(f:FuncId)(s:Spec):Prop:=Enters P f/\ ∀avs ns res,s avs=some (ns,res)->(∀p∈ns,p)->DH P f avs res
def VN(P:Program)(R:List (Nat×Spec)):Prop:= ∀p∈R,L2 P p.1 p.2
def VK(P:Program)(H:List (Nat×HY)):Prop:= ∀p∈H,G8 P p.1 p.2
theorem VN.nil(P:Program):VN P []:=λ_ h=>by cases h
theorem VN.cons{P:Program}{f:Nat}{s:Spec}{R:List (Nat×Spec)}(h:L2 P f s)(k:VN P R):VN P ((f,s)::R):=by
 intro p A;rcases GK.1 A with rfl|A;exact h;exact k p A
theorem VK.nil(P:Program):VK P []:=λ_ h=>by cases h
theorem VK.cons{P:Program}{f:Nat}{s:HY}{R:List (Nat×HY)}(h:G8 P f s)(k:VK P R):VK P ((f,s)::R):=by
 intro p A;rcases GK.1 A with rfl|A;exact h;exact k p A
theorem VT.of{P:Program}{R:List (Nat×Spec)}{H:List (Nat×HY)}(hR:VN P R)(hH:VK P H)(cx:Cx):VT P {R:=R,H:=H} cx:=⟨(λ_ _ _ h=>by cases h),hR,hH,(λ_ h=>by cases h),(λ_ h=>by cases h),(λ_ h=>by cases h)⟩
def U1(P:Program)(C:List (Nat×HZ)):Prop:= ∀p∈C,Enters P p.1/\ ∀avs t,p.2 avs=some t->UH P p.1 avs t
theorem U1.nil(P:Program):U1 P []:=λ_ h=>by cases h
theorem U1.cons{P:Program}{f:Nat}{s:HZ}{C:List (Nat×HZ)}(h:Enters P f/\ ∀avs t,s avs=some t->UH P f avs t)(k:U1 P C):U1 P ((f,s)::C):=by
 intro p A;rcases GK.1 A with rfl|A;exact h;exact k p A
theorem VT.ofC{P:Program}{R:List (Nat×Spec)}{H:List (Nat×HY)}{C:List (Nat×HZ)}(hR:VN P R)(hH:VK P H)(hC:U1 P C)(cx:Cx):VT P {R:=R,H:=H,C:=C} cx:=⟨(λ_ _ _ h=>by cases h),hR,hH,hC,(λ_ h=>by cases h),(λ_ h=>by cases h)⟩
def RP(P:Program)(F:List (Nat×BI)):Prop:= ∀p∈F,Enters P p.1/\ ∀avs ns T sz n g,p.2 avs=some (ns,T,sz,n,g)->(∀q∈ns,q)->DG P p.1 avs T sz n g
theorem RP.nil(P:Program):RP P []:=λ_ h=>by cases h
theorem RP.cons{P:Program}{f:Nat}{s:BI}{F:List (Nat×BI)}(h:Enters P f/\ ∀avs ns T sz n g,s avs=some (ns,T,sz,n,g)->(∀q∈ns,q)->DG P f avs T sz n g)(k:RP P F):RP P ((f,s)::F):=by
 intro p A;rcases GK.1 A with rfl|A;exact h;exact k p A
def PY(P:Program)(D:List (Nat×HZ)):Prop:= ∀p∈D,Enters P p.1/\ ∀avs t,p.2 avs=some t->PE P p.1 avs t
theorem PY.nil(P:Program):PY P []:=λ_ h=>by cases h
theorem PY.cons{P:Program}{f:Nat}{s:HZ}{D:List (Nat×HZ)}(h:Enters P f/\ ∀avs t,s avs=some t->PE P f avs t)(k:PY P D):PY P ((f,s)::D):=by
 intro p A;rcases GK.1 A with rfl|A;exact h;exact k p A
theorem VT.ofF{P:Program}{R:List (Nat×Spec)}{H:List (Nat×HY)}{C:List (Nat×HZ)}{F:List (Nat×BI)}{D:List (Nat×HZ)}(hR:VN P R)(hH:VK P H)(hC:U1 P C)(hF:RP P F)(hD:PY P D)(cx:Cx):VT P {R:=R,H:=H,C:=C,F:=F,D:=D} cx:=⟨(λ_ _ _ h=>by cases h),hR,hH,hC,hF,hD⟩
open Go Go.RowKit Go.ChangeShapes Go.WideShapes
inductive SK where
 |int (k:IntKind)
 |bool
 |str
def p8:SK->Value->Prop
 | .int k,v=> ∃n,v= .int k n/\(Lit.int k n).wf=true
 | .bool,v=> ∃b,v= .bool b
 | .str,v=> ∃s,v= .string s
def LI(ks:List SK)(vs:List Value):Prop:=ks.length=vs.length/\ ∀(j:Nat) (k:SK) (v:Value),ks[j]? =some k->vs[j]? =some v->p8 k v
def IH(P:Program)(g:TypeId->Option (List SK)):List Field->Nat->Option (List SK)
 |[],_=>some []
 |f::fs,off=>match g f.type with
  |some ks=>match Nat.beq f.offset off&&Nat.beq ks.length (P.cellsOf f.type) with
   |true=>match IH P g fs (off+ks.length) with
    |some r=>some (ks++r)
    |none=>none
   |false=>none
  |none=>none
def FV(P:Program):Nat->TypeId->Option (List SK)
 | 0,_=>none
 |d+1,t=>match P.underlying t with
  |some (.int k)=>some [.int k]
  |some .bool=>some [.bool]
  |some .string=>some [.str]
  |some (.struct fs)=>match IH P (FV P d) fs.toList 0 with
   |some ks=>match Nat.beq ks.length (P.cellsOf t) with
    |true=>some ks
    |false=>none
   |none=>none
  |_=>none
inductive MK where
 |sc (k:SK)
 |sl (t e:TypeId) (ks:List SK)
def IG(P:Program)(g:TypeId->Option (List MK)):List Field->Nat->Option (List MK)
 |[],_=>some []
 |f::fs,off=>match g f.type with
  |some ks=>match Nat.beq f.offset off&&Nat.beq ks.length (P.cellsOf f.type) with
   |true=>match IG P g fs (off+ks.length) with
    |some r=>some (ks++r)
    |none=>none
   |false=>none
  |none=>none
def kC(P:Program):Nat->TypeId->Option (List MK)
 | 0,_=>none
 |d+1,t=>match P.underlying t with
  |some (.int k)=>some [.sc (.int k)]
  |some .bool=>some [.sc .bool]
  |some .string=>some [.sc .str]
  |some (.slice e)=>match FV P 9 e with
   |some ks=>match Nat.beq ks.length (P.cellsOf e) with
    |true=>some [.sl t e ks]
    |false=>none
   |none=>none
  |some (.struct fs)=>match IG P (kC P d) fs.toList 0 with
   |some ks=>match Nat.beq ks.length (P.cellsOf t) with
    |true=>some ks
    |false=>none
   |none=>none
  |_=>none
def d8:List TypeId->List MK->Bool
 |[],[]=>true
 |u::ts,.sl t _ _::ms=>Nat.beq u t&&d8 ts ms
 |_::ts,.sc _::ms=>d8 ts ms
 |_,_=>false
def Zw8(P:Program)(t:TypeId)(ms:List MK):Bool:=match P.cellTypes P.depth t with
 |some ts=>d8 ts ms&&Nat.beq ms.length (P.cellsOf t)
 |none=>false
theorem AS: ∀{ts:List TypeId} {ms:List MK},d8 ts ms=true->ts.length=ms.length
 |[],[],_=>rfl
 |[],_::_,h=>by simp [d8] at h
 |u::ts,[],h=>by simp [d8] at h
 |u::ts,.sl t _ _::ms,h=>by
  simp only [d8,GZ] at h;rw [Bj,Bj,AS h.2]
 |u::ts,.sc _::ms,h=>by
  simp only [d8] at h;rw [Bj,Bj,AS h]
theorem AT: ∀{ts:List TypeId} {ms:List MK} {j:Nat} {t e:TypeId} {ks:List SK},d8 ts ms=true->ms[j]? =some (.sl t e ks)->ts[j]? =some t
 |[],[],j,t,e,ks,_,hj=>by simp at hj
 |[],_::_,_,_,_,_,h,_=>by simp [d8] at h
 |u::ts,[],_,_,_,_,h,_=>by simp [d8] at h
 |u::ts,.sl t' _ _::ms,j,t,e,ks,h,hj=>by
  simp only [d8,GZ] at h;cases j with
  |zero=>
   simp at hj;obtain ⟨rfl,_,_⟩:=hj;have:=GU h.1;simp [this]
  |succ j=>simpa using AT h.2 (by simpa using hj)
 |u::ts,.sc _::ms,j,t,e,ks,h,hj=>by
  simp only [d8] at h;cases j with
  |zero=>simp at hj
  |succ j=>simpa using AT h (by simpa using hj)
def N7(r:MK->Value->Prop)(ks:List MK)(vs:List Value):Prop:=ks.length=vs.length/\ ∀(j:Nat) (k:MK) (v:Value),ks[j]? =some k->vs[j]? =some v->r k v
theorem N7.append{r:MK->Value->Prop}{ks ks':List MK}{vs vs':List Value}(h:N7 r ks vs)(h':N7 r ks' vs'):N7 r (ks++ks') (vs++vs'):=by
 refine ⟨by simp [h.1,h'.1],λj k v hk hv=>?_⟩
 rw [Ce] at hk hv;rw [←h.1] at hv;split at hk;rename_i O;rw [if_pos O] at hv;exact h.2 _ _ _ hk hv;rename_i O;rw [if_neg O] at hv;exact h'.2 _ _ _ hk hv
theorem N7.one{r:MK->Value->Prop}{k:MK}{v:Value}(h:r k v):N7 r [k] [v]:=by
 refine ⟨rfl,λj k' v' hk hv=>?_⟩;cases j with
 |zero=>simp at hk hv;subst hk;subst hv;exact h
 |succ j=>simp at hk
section
variable {H:Type}{enc:TypeId×Value->H}{P:Program}{w:World}{base:Nat}{spare:Nat->Bool}{qO:Bool}
theorem LI.append{ks ks':List SK}{vs vs':List Value}(h:LI ks vs)(h':LI ks' vs'):LI (ks++ks') (vs++vs'):=by
 refine ⟨by simp [h.1,h'.1],λj k v hk hv=>?_⟩
 rw [Ce] at hk hv;rw [←h.1] at hv;split at hk;rename_i O;rw [if_pos O] at hv;exact h.2 _ _ _ hk hv;rename_i O;rw [if_neg O] at hv;exact h'.2 _ _ _ hk hv
theorem OP{g:TypeId->Option (List SK)}{cs:List Value}(hg: ∀t ks (off:Nat),g t=some ks->(∃n x,DataW.trod enc P w base spare qO n t ((cs.drop off).take (P.cellsOf t))=some x)->LI ks ((cs.drop off).take (P.cellsOf t))):
  ∀(fs:List Field) (off:Nat) (ks:List SK),IH P g fs off=some ks->off<=cs.length->(∀f∈fs,∃n x,DataW.trod enc P w base spare qO n f.type ((cs.drop f.offset).take (P.cellsOf f.type))=some x)->LI ks ((cs.drop off).take ks.length)
 |[],_,ks,h,_,_=>by
  simp only [IH,HA] at h;subst h;exact ⟨VS,λj k v h=>by simp at h⟩
 |f::fs,off,ks,h,ho,hf=>by
  unfold IH at h;split at h;rename_i ks1 h1;split at h;rename_i hb;simp only [GZ] at hb;have e1:f.offset=off:=GU hb.1;have e2:ks1.length=P.cellsOf f.type:=GU hb.2;split at h;rename_i r Z;cases h;have h2:=hf f GB;rw [e1] at h2;have a1:=hg f.type ks1 off h1 h2;have hl:off+ks1.length<=cs.length:=by
   have:=a1.1;rw [List.length_take,List.length_drop,←e2] at this;omega
  have a2:=OP hg fs (off+ks1.length) r Z hl (λf' hf'=>hf f' (HM _ hf'));have:=a1.append a2;rw [←e2] at this;rw [Be,List.take_add,List.drop_drop];exact this;cases h;cases h;cases h
theorem oJ{k:SK}{v:Value}(h:p8 k v):LI [k] [v]:=by
 refine ⟨rfl,λj k' v' hk hv=>?_⟩;cases j with
 |zero=>simp at hk hv;subst hk;subst hv;exact h
 |succ j=>simp at hk
theorem wS: ∀(d:Nat) (t:TypeId) (ks:List SK) (fuel:Nat) (cs:List Value) (x:DataW H×List MemPlace),FV P d t=some ks->DataW.trod enc P w base spare qO fuel t cs=some x->LI ks cs
 | 0,_,_,_,_,_,h,_=>by simp [FV] at h
 |d+1,t,ks,fuel,cs,x,h,hx=>by
  unfold FV at h;split at h;rename_i k hu;cases h;obtain ⟨n,rfl,_,hw⟩:=DataW.trod_int hu hx;exact oJ ⟨n,rfl,hw⟩;rename_i hu;cases h;obtain ⟨b,rfl,_⟩:=DataW.trod_bool hu hx;exact oJ ⟨b,rfl⟩;rename_i hu;cases h;obtain ⟨s,rfl,_⟩:=DataW.trod_string hu hx;exact oJ ⟨s,rfl⟩;rename_i fs hu;split at h;rename_i ks' hks;split at h;rename_i hb;cases h;have hl:ks.length=P.cellsOf t:=GU hb;obtain ⟨xs,n,_,_,HR,hxl,hf⟩:=DataW.trod_struct hu hx;have:=OP (enc:=enc) (w:=w) (base:=base) (spare:=spare) (qO:=qO) (cs:=cs) (g:=FV P d) (λt' ks' off hk ⟨n',x',hx'⟩=>wS d t' ks' n' _ x' hk hx') fs.toList 0 ks hks (Ao _) (λf hf'=>by
   obtain ⟨i,O⟩:=wO.1 hf';have hi':fs[i]? =some f:=by simpa using O
   have hlt:i<xs.length:=by rw [hxl];exact (P2.1 hi').1
   exact ⟨n,xs[i],(hf i f hi').trans (HX hlt)⟩)
  rw [hl,←HR] at this;simpa using this;cases h;cases h;cases h
def MOk(enc:TypeId×Value->H)(P:Program)(w:World)(base:Nat)(spare:Nat->Bool)(qO:Bool):MK->Value->Prop
 | .sc k,v=>p8 k v
 | .sl t e ks,v=>P.underlying t=some (.slice e)/\FV P 9 e=some ks/\ks.length=P.cellsOf e/\ ∃n x,DataW.trod enc P w base spare qO n t [v]=some x/\ ∀q∈x.1.weights P t,q<=reachBytes
theorem uB: ∀{ts:List TypeId} {ds:List (DataW H)} {i:Nat} {t:TypeId} {d:DataW H} {q:Nat},ts[i]? =some t->ds[i]? =some d->q∈d.weights P t->q∈DataW.weightsEach P ts ds
 |[],_,i,_,_,_,h,_,_=>by simp at h
 |_::_,[],i,_,_,_,_,h,_=>by simp at h
 |t::ts,d::ds,i,t',d',q,h,h',hq=>by
  simp only [DataW.weightsEach,Bc];cases i with
  |zero=>simp at h h';subst h;subst h';exact .inl hq
  |succ i=>exact .inr (uB (by simpa using h) (by simpa using h') hq)
theorem OO{g:TypeId->Option (List MK)}{r:MK->Value->Prop}{cs:List Value}(hg: ∀t ks (off:Nat),g t=some ks->(∃n x,DataW.trod enc P w base spare qO n t ((cs.drop off).take (P.cellsOf t))=some x/\ ∀q∈x.1.weights P t,q<=reachBytes)->N7 r ks ((cs.drop off).take (P.cellsOf t))):
  ∀(fs:List Field) (off:Nat) (ks:List MK),IG P g fs off=some ks->off<=cs.length->(∀f∈fs,∃n x,DataW.trod enc P w base spare qO n f.type ((cs.drop f.offset).take (P.cellsOf f.type))=some x/\ ∀q∈x.1.weights P f.type,q<=reachBytes)->N7 r ks ((cs.drop off).take ks.length)
 |[],_,ks,h,_,_=>by
  simp only [IG,HA] at h;subst h;exact ⟨VS,λj k v h=>by simp at h⟩
 |f::fs,off,ks,h,ho,hf=>by
  unfold IG at h;split at h;rename_i ks1 h1;split at h;rename_i hb;simp only [GZ] at hb;have e1:f.offset=off:=GU hb.1;have e2:ks1.length=P.cellsOf f.type:=GU hb.2;split at h;rename_i r' Z;cases h;have h2:=hf f GB;rw [e1] at h2;have a1:=hg f.type ks1 off h1 h2;have hl:off+ks1.length<=cs.length:=by
   have:=a1.1;rw [List.length_take,List.length_drop,←e2] at this;omega
  have a2:=OO hg fs (off+ks1.length) r' Z hl (λf' hf'=>hf f' (HM _ hf'));have:=a1.append a2;rw [←e2] at this;rw [Be,List.take_add,List.drop_drop];exact this;cases h;cases h;cases h
theorem yV: ∀(d:Nat) (t:TypeId) (ks:List MK) (fuel:Nat) (cs:List Value) (x:DataW H×List MemPlace),kC P d t=some ks->DataW.trod enc P w base spare qO fuel t cs=some x->(∀q∈x.1.weights P t,q<=reachBytes)->N7 (MOk enc P w base spare qO) ks cs
 | 0,_,_,_,_,_,h,_,_=>by simp [kC] at h
 |d+1,t,ks,fuel,cs,x,h,hx,hz=>by
  unfold kC at h;split at h;rename_i k hu;cases h;obtain ⟨n,rfl,_,hw⟩:=DataW.trod_int hu hx;exact .one ⟨n,rfl,hw⟩;rename_i hu;cases h;obtain ⟨b,rfl,_⟩:=DataW.trod_bool hu hx;exact .one ⟨b,rfl⟩;rename_i hu;cases h;obtain ⟨s,rfl,_⟩:=DataW.trod_string hu hx;exact .one ⟨s,rfl⟩;rename_i e hu;split at h;rename_i ks' hk;split at h;rename_i hb;cases h;have h1: ∃v,cs=[v]:=by
   rcases Go.Deep.open_slice hu hx with ⟨h0,_⟩|⟨a,len,cap,m,n,D,Pl,h0,_⟩<;>exact ⟨_,h0⟩
  obtain ⟨v,rfl⟩:=h1;exact .one ⟨hu,hk,GU hb,fuel,x,hx,hz⟩;cases h;cases h;rename_i fs hu;split at h;rename_i ks' hks;split at h;rename_i hb;cases h;have hl:ks.length=P.cellsOf t:=GU hb;obtain ⟨xs,n,_,hxe,HR,hxl,hf⟩:=DataW.trod_struct hu hx;have hzz: ∀q∈DataW.weightsEach P (fs.toList.map (·.type)) (xs.map (·.1)),q<=reachBytes:=by
   intro q hq;refine hz q ?_;rw [hxe];simpa [DataW.weights,hu] using hq
  have:=OO (enc:=enc) (w:=w) (base:=base) (spare:=spare) (qO:=qO) (cs:=cs) (g:=kC P d) (r:=MOk enc P w base spare qO) (λt' ks' off hk ⟨n',x',hx',hz'⟩=>yV d t' ks' n' _ x' hk hx' hz') fs.toList 0 ks hks (Ao _) (λf hf'=>by
   obtain ⟨i,O⟩:=wO.1 hf';have hi':fs[i]? =some f:=by simpa using O
   have hlt:i<xs.length:=by rw [hxl];exact (P2.1 hi').1
   exact ⟨n,xs[i],(hf i f hi').trans (HX hlt),λq hq=>hzz q (uB (i:=i) (by simp [hi']) (by simp [HX hlt]) hq)⟩)
  rw [hl,←HR] at this;simpa using this;cases h;cases h;cases h
inductive rN (P:Program):MK->AV->Prop
 |sc (k:SK) (v:Value):p8 k v->rN P (.sc k) (.x v)
 |sl (t e:TypeId) (ks:List SK) (n:Nat) (f:Nat->List Value):n<=maxLen->n*P.bytesOf e<=reachBytes->(∀i,i<n->LI ks (f i))->rN P (.sl t e ks) (.lst ks.length n (λi=>(f i).map .x))
def BD(P:Program)(ms:List MK)(l:List AV):Prop:=ms.length=l.length/\ ∀(j:Nat) (k:MK) (a:AV),ms[j]? =some k->l[j]? =some a->rN P k a
inductive wG (P:Program):TypeId->AV->Prop
 |sc (t:TypeId) (k:SK) (v:Value):(∀fs,P.underlying t≠some (.struct fs))->FV P 9 t=some [k]->p8 k v->wG P t (.x v)
 |st (t:TypeId) (fs:Array Field) (ks:List SK) (vs:List Value):P.underlying t=some (.struct fs)->FV P 9 t=some ks->LI ks vs->wG P t (.agg (vs.map .x))
 |sl (t e:TypeId) (ks:List SK) (n:Nat) (f:Nat->List Value):P.underlying t=some (.slice e)->FV P 9 e=some ks->n<=maxLen->n*P.bytesOf e<=reachBytes->(∀i,i<n->LI ks (f i))->wG P t (.lst ks.length n (λi=>(f i).map .x))
 |mx (t:TypeId) (fs:Array Field) (ms:List MK) (l:List AV):P.underlying t=some (.struct fs)->FV P 9 t=none->kC P 9 t=some ms->BD P ms l->wG P t (.agg l)
 |sm (t e:TypeId) (fs:Array Field) (ms:List MK) (n:Nat) (f:Nat->List AV):P.underlying t=some (.slice e)->P.underlying e=some (.struct fs)->FV P 9 e=none->kC P 9 e=some ms->n<=maxLen->n*P.bytesOf e<=reachBytes->(∀i,i<n->BD P ms (f i))->wG P t (.lst ms.length n f)
def IB:List MK->Bool
 |[]=>true
 | .sc _::ms=>IB ms
 | .sl _ _ ks::ms=> !ks.isEmpty&&IB ms
def T6(P:Program)(t:TypeId):Bool:=match P.underlying t with
 |some (.int _)|some .bool|some .string=>(FV P 9 t).isSome
 |some (.struct _)=>match FV P 9 t with
  |some _=>true
  |none=>match kC P 9 t with
   |some ms=>Zw8 P t ms
   |none=>false
 |some (.slice e)=>match FV P 9 e with
  |some ks=>Nat.beq ks.length (P.cellsOf e)
  |none=>match P.underlying e,kC P 9 e with
   |some (.struct _),some ms=>Nat.beq ms.length (P.cellsOf e)&&(IB ms&& !ms.isEmpty)
   |_,_=>false
 |_=>false
def jD(w:World):UJ:={ro:=λb=>b<w.heap.size,own:=λ_=>none,live:=λ_=>False,blk:=λ_=>0,val:=λ_=> .nilIface}
theorem c9{r:Reach}{b0:Nat}{t e:TypeId}{v:Value}{fuel:Nat}{x:DataW H×List MemPlace}{ks:List SK}(hu:P.underlying t=some (.slice e))(hk:FV P 9 e=some ks)(hl:ks.length=P.cellsOf e)(hv:Cell.okWide P w r b0 t v)(hf:DataW.trod enc P w 0 (λ_=>true) qO fuel t v.cells.toList=some x)(hz: ∀q∈x.1.weights P t,q<=reachBytes):
  ∃(n:Nat) (f:Nat->List Value),n<=maxLen/\n*P.bytesOf e<=reachBytes/\(∀i,i<n->LI ks (f i))/\Rep (jD w) w (.lst ks.length n (λi=>(f i).map .x)) v/\Idf (.lst ks.length n (λi=>(f i).map .x)):=by
 obtain ⟨a0,n0,c0,rfl⟩: ∃a0 n0 c0,v= .slice a0 n0 c0:=by
  have hx:=hv;simp only [Cell.okWide,Cell.ok,hu] at hx;split at hx<;>simp_all
 rcases Go.Deep.open_slice hu hf with ⟨h0,_⟩|⟨a,len,cap,m,n,D,Pl,h0,hb,hlc,hm,hmm,Wn2,O⟩;simp [Value.cells] at h0;obtain ⟨rfl,rfl,rfl⟩:=h0;exact ⟨0,λ_=>[],Ao _,VS,(λi O=>VG),.lstNil _ _,.lst _ _ _ (λi O=>VG)⟩;simp [Value.cells] at h0;obtain ⟨rfl,rfl,rfl⟩:=h0;simp only [if_true] at hmm;subst hmm;have hok:w.has P r b0 a e m:=by
  simp only [Value.okWide,hu,Cell.okWide,Cell.ok] at hv;exact hv.2.2
 obtain ⟨_,hsp,row,cells,hsh,_⟩:=hok;obtain ⟨ab,ao,ak⟩:=a;simp only at hsp;subst hsp;have MY:ab<w.heap.size:=by
  unfold World.shape? at hsh;cases hh:w.heap[ab]? with
  |none=>simp only [hh] at hsh;cases hsh
  |some o=>exact (P2.1 hh).1
 let F:Nat->List Value:=λi=>(w.cells? 0 ((⟨ab,ao,none⟩:Addr).add (i*P.cellsOf e)) (P.cellsOf e)).getD []
 have hF: ∀i,i<m->LI ks (F i)/\ ∀j,j<ks.length->w.cell? ⟨ab,ao+(i*ks.length+j),none⟩=(F i)[j]? :=by
  intro i hi';obtain ⟨cs',hcs,htr⟩:=O i hi';have e1:F i=cs':=by simp only [F,hcs,GQ]
  rw [e1];refine ⟨wS 9 e ks n cs' _ hk htr,λj hj=>?_⟩;obtain ⟨_,_,h3⟩:=World.cells?_some hcs;have:=h3 j VG;rw [DD,DD] at this;rw [hl,←this,Ba]
 have iF:n0*P.bytesOf e<=reachBytes:=by
  have hd:x.1= .slice ((List.range n0).map D) ((List.range (m-n0)).map λj=>D (n0+j)):=by
   have:=congrArg Prod.fst Wn2;exact this
  have h1:=hz ((((List.range n0).map D).length+((List.range (m-n0)).map λj=>D (n0+j)).length)*P.bytesOf e) (by rw [hd];simp [DataW.weights,hu])
  rw [Bm,List.length_range] at h1;exact Ar (BC _ (Nat.le_add_right _ _)) h1
 refine ⟨n0,F,VG,iF,(λi hi'=>(hF i VG).1),?_,.lst _ _ _ (λi hi' a ha=>?_)⟩;refine .lst _ _ _ ab ao m (λi j=>(F i).getD j .nilIface) (λ_=>MY) (λ_=>MY) (λi hi' a ha=>?_) hlc hm (λi j hi' hj=>?_) (λi hi'=>?_) (λi j a hi' ha=>?_) _ (λ_=>rfl);obtain ⟨b,_,rfl⟩:=List.mem_map.1 ha;exact .x b;rw [(hF i VG).2 j hj];have hjl:j<(F i).length:=by rw [←(hF i VG).1.1];exact hj
 simp [List.getD,HX hjl];simp [(hF i VG).1.1];rw [Bn,Ay] at ha;obtain ⟨b,hb',rfl⟩:=ha;simp only [List.getD,hb',GQ];exact .x b;obtain ⟨b,_,rfl⟩:=List.mem_map.1 ha;exact .x b
theorem dW: ∀{ms:List MK} {j:Nat} {t e:TypeId} {ks:List SK},IB ms=true->ms[j]? =some (.sl t e ks)->0<ks.length
 |[],j,t,e,ks,_,hj=>by simp at hj
 | .sc _::ms,j,t,e,ks,h,hj=>by
  cases j with
  |zero=>simp at hj
  |succ j=>exact dW (ms:=ms) h (by simpa using hj)
 | .sl _ _ ks'::ms,j,t,e,ks,h,hj=>by
  simp only [IB,GZ] at h;cases j with
  |zero=>
   simp at hj;obtain ⟨_,_,rfl⟩:=hj;cases ks' with
   |nil=>simp at h
   |cons a b=>simp
  |succ j=>exact dW (ms:=ms) h.2 (by simpa using hj)
theorem cA{e:TypeId}{a:Addr}{cap:Nat}{D:Nat->DataW H}{Pl:Nat->List MemPlace}{n:Nat}(hc:0<P.cellsOf e)(O: ∀i,i<cap-> ∃cs',w.cells? 0 (a.add (i*P.cellsOf e)) (P.cellsOf e)=some cs'/\DataW.trod enc P w 0 (λ_=>true) qO n e cs'=some (D i,Pl i))(h:0<cap):a=⟨a.block,a.off,none⟩/\a.block<w.heap.size:=by
 obtain ⟨cs',h1,_⟩:=O 0 h;obtain ⟨_,h2,h3⟩:=World.cells?_some h1;have h4:=h3 0 hc;rw [Nat.zero_mul] at h4;have e0:(a.add 0).add 0=a:=by simp [Addr.add]
 rw [e0,HX VG] at h4;obtain ⟨ab,ao,ak⟩:=a;unfold World.cell? at h4;split at h4;rename_i c x y hb;have hlt:=(P2.1 hb).1;cases ak with
 |none=>exact ⟨rfl,hlt⟩
 |some s=>simp at h4
 cases h4
theorem Wa2{t e:TypeId}{v:Value}{fuel:Nat}{x:DataW H×List MemPlace}{ks:List SK}(hu:P.underlying t=some (.slice e))(hk:FV P 9 e=some ks)(hl:ks.length=P.cellsOf e)(Wm4:0<ks.length)(hf:DataW.trod enc P w 0 (λ_=>true) qO fuel t [v]=some x)(hz: ∀q∈x.1.weights P t,q<=reachBytes):
  ∃(n:Nat) (f:Nat->List Value),n<=maxLen/\n*P.bytesOf e<=reachBytes/\(∀i,i<n->LI ks (f i))/\Rep (jD w) w (.lst ks.length n (λi=>(f i).map .x)) v/\Idf (.lst ks.length n (λi=>(f i).map .x)):=by
 rcases Go.Deep.open_slice hu hf with ⟨h0,_⟩|⟨a,n0,cap,m,n,D,Pl,h0,hb,hlc,hm,hmm,Wn2,O⟩;simp at h0;subst h0;exact ⟨0,λ_=>[],Ao _,VS,(λi O=>VG),.lstNil _ _,.lst _ _ _ (λi O=>VG)⟩;simp at h0;subst h0;simp only [if_true] at hmm;subst hmm;have hat:0<m->a=⟨a.block,a.off,none⟩/\a.block<w.heap.size:=cA VG O
 let F:Nat->List Value:=λi=>(w.cells? 0 (a.add (i*P.cellsOf e)) (P.cellsOf e)).getD []
 have hF: ∀i,i<m->LI ks (F i)/\ ∀j,j<ks.length->w.cell? ⟨a.block,a.off+(i*ks.length+j),none⟩=(F i)[j]? :=by
  intro i hi';obtain ⟨cs',hcs,htr⟩:=O i hi';have e1:F i=cs':=by simp only [F,hcs,GQ]
  rw [e1];refine ⟨wS 9 e ks n cs' _ hk htr,λj hj=>?_⟩;obtain ⟨_,_,h3⟩:=World.cells?_some hcs;have:=h3 j VG;rw [(hat VG).1,DD,DD] at this;rw [hl,←this,Ba]
 have iF:n0*P.bytesOf e<=reachBytes:=by
  have hd:x.1= .slice ((List.range n0).map D) ((List.range (m-n0)).map λj=>D (n0+j)):=by
   have:=congrArg Prod.fst Wn2;exact this
  have h1:=hz ((((List.range n0).map D).length+((List.range (m-n0)).map λj=>D (n0+j)).length)*P.bytesOf e) (by rw [hd];simp [DataW.weights,hu])
  rw [Bm,List.length_range] at h1;exact Ar (BC _ (Nat.le_add_right _ _)) h1
 refine ⟨n0,F,VG,iF,(λi hi'=>(hF i VG).1),?_,.lst _ _ _ (λi hi' a ha=>?_)⟩;refine .lst _ _ _ a.block a.off m (λi j=>(F i).getD j .nilIface) (λh=>(hat VG).2) (λh=>(hat VG).2) (λi hi' a ha=>?_) hlc hm (λi j hi' hj=>?_) (λi hi'=>?_) (λi j a hi' ha=>?_) a (λh=>(hat VG).1);obtain ⟨b,_,rfl⟩:=List.mem_map.1 ha;exact .x b;rw [(hF i VG).2 j hj];have hjl:j<(F i).length:=by rw [←(hF i VG).1.1];exact hj
 simp [List.getD,HX hjl];simp [(hF i VG).1.1];rw [Bn,Ay] at ha;obtain ⟨b,hb',rfl⟩:=ha;simp only [List.getD,hb',GQ];exact .x b;obtain ⟨b,_,rfl⟩:=List.mem_map.1 ha;exact .x b
theorem Ws6{ms:List MK}{vs:List Value}(P8:IB ms=true)(h:N7 (MOk enc P w 0 (λ_=>true) qO) ms vs): ∃l,BD P ms l/\VZ (jD w) w l vs/\ ∀a∈l,Idf a:=by
 have key: ∀(j:Nat) (k:MK) (v:Value),ms[j]? =some k->vs[j]? =some v-> ∃a,rN P k a/\Rep (jD w) w a v/\Idf a:=by
  intro j k v hj hvj;have h2:=h.2 j k v hj hvj;cases k with
  |sc k=>exact ⟨.x v,.sc k v h2,.x v,.x v⟩
  |sl t' e ks=>
   obtain ⟨hu',hk',hl',n',x',hx',hz'⟩:=h2;obtain ⟨n,f,g1,g2,g3,g4,g5⟩:=Wa2 hu' hk' hl' (dW P8 hj) hx' hz';exact ⟨_,.sl t' e ks n f g1 g2 g3,g4,g5⟩
 have all: ∀(ms:List MK) (vs:List Value),ms.length=vs.length->(∀(j:Nat) (k:MK) (v:Value),ms[j]? =some k->vs[j]? =some v-> ∃a,rN P k a/\Rep (jD w) w a v/\Idf a)-> ∃l,BD P ms l/\VZ (jD w) w l vs/\ ∀a∈l,Idf a:=by
  intro ms
  induction ms with
  |nil=>
   intro vs hl _;cases vs with
   |nil=>exact ⟨[],⟨rfl,λj k a h=>by simp at h⟩,VZ.nil _ _,λa ha=>by cases ha⟩
   |cons v vs=>simp at hl
  |cons k ms ih=>
   intro vs hl h;cases vs with
   |nil=>simp at hl
   |cons v vs=>
    obtain ⟨a,a1,a2,a3⟩:=h 0 k v rfl rfl;obtain ⟨l,l1,l2,l3⟩:=ih vs (by simpa using hl) (λj k v hk hv=>h (j+1) k v (by simpa using hk) (by simpa using hv))
    refine ⟨a::l,⟨by simp [l1.1],λj k' a' hk ha=>?_⟩,VZ.cons a2 l2,λb hb=>?_⟩
    cases j with
    |zero=>simp at hk ha;subst hk;subst ha;exact a1
    |succ j=>exact l1.2 j k' a' (by simpa using hk) (by simpa using ha)
    rcases GK.1 hb with rfl|hb;exact a3;exact l3 b hb
 exact all ms vs h.1 key
theorem fO{e:TypeId}{d:DataW H}{q:Nat}: ∀{ds:List (DataW H)},d∈ds->q∈d.weights P e->q∈DataW.weightsAll P e ds
 |[],h,_=>by cases h
 |d'::ds,h,hq=>by
  simp only [DataW.weightsAll,Bc];rcases GK.1 h with rfl|h;exact .inl hq;exact .inr (fO h hq)
theorem Wa1{t e:TypeId}{v:Value}{fuel:Nat}{x:DataW H×List MemPlace}{ms:List MK}(hu:P.underlying t=some (.slice e))(hk:kC P 9 e=some ms)(hl:ms.length=P.cellsOf e)(Wm4:0<ms.length)(P8:IB ms=true)(hf:DataW.trod enc P w 0 (λ_=>true) qO fuel t [v]=some x)(hz: ∀q∈x.1.weights P t,q<=reachBytes):
  ∃(n:Nat) (f:Nat->List AV),n<=maxLen/\n*P.bytesOf e<=reachBytes/\(∀i,i<n->BD P ms (f i))/\Rep (jD w) w (.lst ms.length n f) v/\Idf (.lst ms.length n f):=by
 rcases Go.Deep.open_slice hu hf with ⟨h0,_⟩|⟨a,n0,cap,m,n,D,Pl,h0,hb,hlc,hm,hmm,Wn2,O⟩;simp at h0;subst h0;exact ⟨0,λ_=>[],Ao _,VS,(λi O=>VG),.lstNil _ _,.lst _ _ _ (λi O=>VG)⟩;simp at h0;subst h0;simp only [if_true] at hmm;subst hmm;have hat:0<m->a=⟨a.block,a.off,none⟩/\a.block<w.heap.size:=cA VG O;have hd:x.1= .slice ((List.range n0).map D) ((List.range (m-n0)).map λj=>D (n0+j)):=by
  have:=congrArg Prod.fst Wn2;exact this
 have iF:n0*P.bytesOf e<=reachBytes:=by
  have h1:=hz ((((List.range n0).map D).length+((List.range (m-n0)).map λj=>D (n0+j)).length)*P.bytesOf e) (by rw [hd];simp [DataW.weights,hu])
  rw [Bm,List.length_range] at h1;exact Ar (BC _ (Nat.le_add_right _ _)) h1
 let F:Nat->List Value:=λi=>(w.cells? 0 (a.add (i*P.cellsOf e)) (P.cellsOf e)).getD []
 have hF: ∀i,i<n0-> ∃l,(BD P ms l/\VZ (jD w) w l (F i)/\ ∀a∈l,Idf a)/\(F i).length=ms.length/\ ∀j,j<ms.length->w.cell? ⟨a.block,a.off+(i*ms.length+j),none⟩=(F i)[j]? :=by
  intro i hi';obtain ⟨cs',hcs,htr⟩:=O i VG;have e1:F i=cs':=by simp only [F,hcs,GQ]
  rw [e1];have hzi: ∀q∈(D i).weights P e,q<=reachBytes:=λq hq=>hz q (by
   rw [hd];simp only [DataW.weights,hu,GK,Bc];exact .inr (.inl (fO (List.mem_map.2 ⟨i,List.mem_range.2 hi',rfl⟩) hq)))
  have h1:=yV 9 e ms n cs' _ hk htr hzi;obtain ⟨l,h2⟩:=Ws6 P8 h1;refine ⟨l,h2,h1.1.symm,λj hj=>?_⟩;obtain ⟨_,_,h3⟩:=World.cells?_some hcs;have:=h3 j VG;rw [(hat VG).1,DD,DD] at this;rw [hl,←this,Ba]
 obtain ⟨f,hf'⟩:=Go.Deep.choose_lt hF;refine ⟨n0,f,VG,iF,(λi hi'=>(hf' i hi').1.1),?_,.lst _ _ _ (λi hi'=>(hf' i hi').1.2.2)⟩;refine .lst _ _ _ a.block a.off m (λi j=>(F i).getD j .nilIface) (λh=>(hat VG).2) (λh=>(hat VG).2) (λi hi'=>(hf' i hi').1.2.2) hlc hm (λi j hi' hj=>?_) (λi hi'=>?_) (λi j b hi' ha=>?_) a (λh=>(hat VG).1);have h1:=hf' i hi';rw [h1.2.2 j hj];have hjl:j<(F i).length:=by rw [h1.2.1];exact hj
 simp [List.getD,HX hjl];exact (hf' i hi').1.1.1.symm;have h1:=(hf' i hi').1.2.1;have hj:j<(F i).length:=by rw [←h1.1];exact (FP.1 ha).1
 have h2:=h1.2 j b (F i)[j] ha (HX hj);simpa only [List.getD,HX hj,GQ] using h2
theorem Zo3{r:Reach}{b0:Nat}{t:TypeId}{v:Value}{d:DataW H}{p:List MemPlace}(A:T6 P t=true)(hv:Value.okWide P w r b0 t v)(h:DataW.Trod enc P w 0 (λ_=>true) qO t v d p)(hz: ∀q∈d.weights P t,q<=reachBytes):
  ∃av,wG P t av/\Rep (jD w) w av v/\Idf av:=by
 unfold T6 at A;obtain ⟨fuel,hf⟩:=h;have scal: ∀k,(∀fs,P.underlying t≠some (.struct fs))->FV P 9 t=some [k]->(∀cs,v≠ .agg cs)-> ∃av,wG P t av/\Rep (jD w) w av v/\Idf av:=by
  intro k hns hk hna;have h1:=wS 9 t [k] fuel _ _ hk hf;have hc:v.cells.toList=[v]:=by cases v<;>first|rfl|exact absurd rfl (hna _)
  rw [hc] at h1;exact ⟨.x v,.sc t k v hns hk (h1.2 0 k v rfl rfl),.x v,.x v⟩
 split at A;rename_i k hu;obtain ⟨n,rfl⟩:=okWide_int hu hv;exact scal (.int k) (λfs h=>by rw [hu] at h;cases h) (by simp [FV,hu]) (λcs h=>by cases h)
 rename_i hu;obtain ⟨b,rfl⟩:=okWide_bool hu hv;exact scal .bool (λfs h=>by rw [hu] at h;cases h) (by simp [FV,hu]) (λcs h=>by cases h)
 rename_i hu;obtain ⟨s,rfl⟩:=okWide_string hu hv;exact scal .str (λfs h=>by rw [hu] at h;cases h) (by simp [FV,hu]) (λcs h=>by cases h)
 rename_i fs hu;cases hk:FV P 9 t with
 |none=>
  rw [hk] at A;simp only at A;cases hm:kC P 9 t with
  |none=>rw [hm] at A;cases A
  |some ms=>
   rw [hm] at A;simp only [Zw8] at A;split at A;rename_i ts hts;simp only [GZ] at A;have hml:ms.length=P.cellsOf t:=GU A.2;have htl:=AS A.1;simp only [Value.okWide,hu] at hv;obtain ⟨cs,rfl,hcs,ts',hts',_,I2⟩:=hv;rw [hts] at hts';cases hts';have h1:=yV 9 t ms fuel _ _ hm hf hz;simp only [Value.cells] at h1;have key: ∀(j:Nat) (k:MK) (v:Value),ms[j]? =some k->cs.toList[j]? =some v-> ∃a,rN P k a/\Rep (jD w) w a v/\Idf a:=by
    intro j k v hj hvj;have h2:=h1.2 j k v hj hvj;cases k with
    |sc k=>exact ⟨.x v,.sc k v h2,.x v,.x v⟩
    |sl t' e ks=>
     obtain ⟨hu',hk',hl',n',x',hx',hz'⟩:=h2;obtain ⟨u,hu2,hc⟩:=I2 j v (by simpa using hvj)
     have hjl:j<ts.length:=by rw [htl];exact (FP.1 hj).1
     rw [Nat.mod_eq_of_lt hjl,AT A.1 hj] at hu2;cases hu2;have hvc:v.cells.toList=[v]:=by
      obtain ⟨a0,n0,c0,rfl⟩: ∃a0 n0 c0,v= .slice a0 n0 c0:=by
       have hx:=hc;simp only [Cell.okWide,Cell.ok,hu'] at hx;split at hx<;>simp_all
      rfl
     obtain ⟨n,f,g1,g2,g3,g4,g5⟩:=c9 hu' hk' hl' hc (by rw [hvc];exact hx') hz'
     exact ⟨_,.sl t' e ks n f g1 g2 g3,g4,g5⟩
   have all: ∀(ms:List MK) (vs:List Value),ms.length=vs.length->(∀(j:Nat) (k:MK) (v:Value),ms[j]? =some k->vs[j]? =some v-> ∃a,rN P k a/\Rep (jD w) w a v/\Idf a)-> ∃l,BD P ms l/\VZ (jD w) w l vs/\ ∀a∈l,Idf a:=by
    intro ms
    induction ms with
    |nil=>
     intro vs hl _;cases vs with
     |nil=>exact ⟨[],⟨rfl,λj k a h=>by simp at h⟩,VZ.nil _ _,λa ha=>by cases ha⟩
     |cons v vs=>simp at hl
    |cons k ms ih=>
     intro vs hl h;cases vs with
     |nil=>simp at hl
     |cons v vs=>
      obtain ⟨a,a1,a2,a3⟩:=h 0 k v rfl rfl;obtain ⟨l,l1,l2,l3⟩:=ih vs (by simpa using hl) (λj k v hk hv=>h (j+1) k v (by simpa using hk) (by simpa using hv))
      refine ⟨a::l,⟨by simp [l1.1],λj k' a' hk ha=>?_⟩,VZ.cons a2 l2,λb hb=>?_⟩
      cases j with
      |zero=>simp at hk ha;subst hk;subst ha;exact a1
      |succ j=>exact l1.2 j k' a' (by simpa using hk) (by simpa using ha)
      rcases GK.1 hb with rfl|hb;exact a3;exact l3 b hb
   obtain ⟨l,l1,l2,l3⟩:=all ms cs.toList h1.1 key;refine ⟨.agg l,.mx t fs ms l hu hk hm l1,?_,.agg _ l3⟩;have:=Rep.aggL l2;simpa using this;cases A
 |some ks=>
  obtain ⟨cs,rfl,_⟩:=okWide_struct hu hv;have h1:=wS 9 t ks fuel _ _ hk hf;refine ⟨.agg (cs.toList.map .x),.st t fs ks cs.toList hu hk h1,?_,.agg _ (λa ha=>?_)⟩;have:=Rep.aggL (VZ.xs (jD w) w cs.toList);simpa using this;obtain ⟨b,_,rfl⟩:=List.mem_map.1 ha;exact .x b
 rename_i e hu;cases hk:FV P 9 e with
 |none=>
  rw [hk] at A;simp only at A;split at A;rename_i fs ms hue hms;simp only [GZ] at A;have hv':Cell.okWide P w r b0 t v:=by
   simpa only [Value.okWide,hu] using hv
  have hvc:v.cells.toList=[v]:=by
   obtain ⟨a0,n0,c0,rfl⟩: ∃a0 n0 c0,v= .slice a0 n0 c0:=by
    have hx:=hv';simp only [Cell.okWide,Cell.ok,hu] at hx;split at hx<;>simp_all
   rfl
  rw [hvc] at hf;have Wm4:0<ms.length:=by
   cases ms with
   |nil=>simp at A
   |cons a b=>simp
  obtain ⟨n,f,h1,h2,h3,h4,h5⟩:=Wa1 hu hms (GU A.1) Wm4 A.2.1 hf hz;exact ⟨_,.sm t e fs ms n f hu hue hk hms h1 h2 h3,h4,h5⟩;cases A
 |some ks=>
  rw [hk] at A;have hl:ks.length=P.cellsOf e:=GU A;have hv':Cell.okWide P w r b0 t v:=by
   simpa only [Value.okWide,hu] using hv
  obtain ⟨n,f,h1,h2,h3,h4,h5⟩:=c9 hu hk hl hv' hf hz;exact ⟨_,.sl t e ks n f hu hk h1 h2 h3,h4,h5⟩
 cases A
inductive ML (P:Program):List TypeId->List AV->Prop
 |nil:ML P [] []
 |cons {t:TypeId} {a:AV} {ts:List TypeId} {l:List AV}:wG P t a->ML P ts l->ML P (t::ts) (a::l)
theorem Qf0{b0:Nat}{r:Reach}: ∀(ts:List TypeId) (vs:List Value) (ds:List (DataW H)) (p:List MemPlace),ts.all (T6 P)=true->(∀(j:Nat) t v,ts[j]? =some t->vs[j]? =some v->Value.okWide P w r b0 t v)->
  DataW.TrodAll enc P w 0 (λ_=>true) qO ts vs ds p->(∀q∈DataW.weightsEach P ts ds,q<=reachBytes)-> ∃avs,ML P ts avs/\VZ (jD w) w avs vs/\ ∀a∈avs,Idf a
 |[],vs,ds,p,_,_,h,_=>by
  cases vs with
  |nil=>exact ⟨[],.nil,VZ.nil _ _,λa ha=>by cases ha⟩
  |cons v vs=>cases ds<;>simp [DataW.TrodAll] at h
 |t::ts,vs,ds,p,A,hv,h,hz=>by
  obtain ⟨v,vs',d,ds',p1,q1,rfl,rfl,rfl,h1,h2⟩:=trodAll_cons h;simp only [List.all_cons,GZ] at A;obtain ⟨a,ha,Z,O⟩:=Zo3 A.1 (hv 0 t v rfl rfl) h1 (λq hq=>hz q (by simp only [DataW.weightsEach,Bc];exact .inl hq))
  obtain ⟨l,hl,hrl,hil⟩:=Qf0 ts vs' ds' q1 A.2 (λj t' v' ht hv'=>hv (j+1) t' v' (by simpa using ht) (by simpa using hv')) h2 (λq hq=>hz q (by simp only [DataW.weightsEach,Bc];exact .inr hq))
  refine ⟨a::l,.cons ha hl,VZ.cons Z hrl,λx hx=>?_⟩;rcases GK.1 hx with rfl|hx;exact O;exact hil x hx
theorem Zt8{f:FuncId}{b0:Nat}{r:Reach}{ts:List TypeId}{vs:Array Value}{ds:List (DataW H)}{p:List MemPlace}(A:ts.all (T6 P)=true)(hv: ∀(j:Nat) t v,ts[j]? =some t->vs.toList[j]? =some v->Value.okWide P w r b0 t v)
  (h:DataW.TrodAll enc P w 0 (λ_=>true) qO ts vs.toList ds p)(hz: ∀q∈DataW.weightsEach P ts ds,q<=reachBytes)(hs: ∀avs,ML P ts avs->VV P f avs (.x (.bool true)))(hgl:D9 (jD w) w:=by intro b p h;exact absurd h (by simp [GP])):Calls P f vs w λe w'=>e= .returned (.bool true)/\Below w.heap.size w w':=by
 obtain ⟨avs,h1,h2,h3⟩:=Qf0 ts vs.toList ds p A hv h hz;refine (hs avs h1 (jD w) w vs.toList (λb hb=>hb) hgl h3 h2).mono λe w' hq=>?_;obtain ⟨v,rfl,hb,Z⟩:=hq;rw [Z.x_inv];exact ⟨rfl,hb⟩
theorem OZ{W W':World}{sp:Nat->Bool}(hl:laidOutB P=true)(hb:Below W.heap.size W W'): ∀(ts:List TypeId) (vs:List Value) (ds:List (DataW H)) (p:List MemPlace),ts.all (λt=>P.readableRec t&&decide (t<P.types.size))=true->
  DataW.TrodAll enc P W 0 (λ_=>true) true ts vs ds p->(∀x∈p,x.block<W.heap.size)->(∀x∈p,sp x.block=true)->DataW.TrodAll enc P W' 0 sp true ts vs ds p
 |[],vs,ds,p,_,h,_,_=>by
  cases vs<;>cases ds<;>simp [DataW.TrodAll] at h ⊢;exact h
 |t::ts,vs,ds,p,Z,h,hlt,hsp=>by
  obtain ⟨v,vs',d,ds',p1,q1,rfl,rfl,rfl,h1,h2⟩:=trodAll_cons h;simp only [List.all_cons,GZ,kJ] at Z;refine ⟨p1,q1,WideElems.Trod_stays hl Z.1.1 Z.1.2 h1 (λx hx=>hb.same (hlt x (Bd _ hx))) (λx hx=>hsp x (Bd _ hx)),OZ hl hb ts vs' ds' q1 ?_ h2 (λx hx=>hlt x (As _ hx)) (λx hx=>hsp x (As _ hx)),rfl⟩;simpa using Z.2
theorem Jc2{f:Func}{s:ChangeSpec}{apart fresh AC again:Bool}{W W':World}{args:Array Value}{ds:List (DataW H)}{before:List MemPlace}{tb:TypeId}(hl:laidOutB P=true)(Z:f.params.toList.all (λt=>P.readableRec t&&decide (t<P.types.size))=true)(DX:f.resultTypes=#[tb])(hub:P.underlying tb=some .bool)
  (Jd5:s.vars=[])(hfr:(s.fn H ds).results=[.lit (.bool true)])(hfa:(s.fn H ds).args=ds)(hfv:(s.fn H ds).vars=[])
  (hW:DataW.Whole enc P f.params.toList s.vars apart W args.toList ds [] before)(hA:DataW.TrodAll enc P W 0 (λ_=>true) true f.params.toList args.toList ds before)(hb:Below W.heap.size W W'):
  s.post enc P f apart fresh AC again W args (.bool true) W':=by
 have hlt: ∀p∈before,p.block<W.heap.size:=λp A=>hW.lt p A;have Wm6: ∀p∈before,(λb=>decide (b<W.heap.size)) p.block=true:=λp A=>by simpa using hlt p A
 have hres': ∀(b:Nat) (sp:Nat->Bool) (hd:Bool),DataW.TrodAll enc P W' b sp hd f.resultTypes.toList ((Value.bool true).resultList f.resultTypes.size) (s.fn H (ds++[])).results []:=by
  intro b sp hd;rw [List.append_nil,hfr,DX];exact trodAll_mk1 (shut_bool hub true)
 have OE: ∀sp:Nat->Bool,(∀p∈before,sp p.block=true)->DataW.TrodAll enc P W' 0 sp true f.params.toList args.toList (s.fn H (ds++[])).args before:=by
  intro sp hsp;rw [List.append_nil,hfa];exact OZ hl hb _ _ _ _ Z hA hlt hsp
 have hvars': ∀sp:Nat->Bool,(∀p∈before,sp p.block=true)->DataW.TrodVars enc P W' sp s.vars (s.fn H (ds++[])).vars []:=by
  intro sp _;rw [List.append_nil,hfv,Jd5];rfl
 refine ⟨ds,[],before,[],before,[],hW,hres' _ _ _,OE _ Wm6,hvars' _ Wm6,World.keptBut_mono (λp A=>⟨A,Or.inr (by simpa using A)⟩) (hb.frame (· ∈before)),λ_=>?_⟩
 obtain ⟨_,_,_,_,_,hz,hn⟩:=hW;refine ⟨ok_one DX rfl (okWide_bool_mk hub true),_,_,([]++before)++[],⟨[]++before,[],trodAll_append (OE _ (λ_ _=>rfl)) (hres' _ _ _),hvars' _ (λ_ _=>rfl),rfl,?_,?_⟩,?_⟩;intro b off A;have hin:MemPlace.cell b off∈before:=by simpa using A
 rw [hb.frozen (hlt _ hin)];exact hz b off hin;intro ha;have:=hn ha;simpa using this;intro p A _;simpa using A
end
end Go.Sx
namespace Go.Sx
open Go Go.RowKit
section
variable {P:Program}
section
variable (P:Program)(t:TypeId)
def tV:Bool:=match P.underlying t with
 |some (.struct _)=>true
 |_=>false
def cH:Bool:=match P.underlying t with
 |some (.int _)|some .bool|some .string=>true
 |_=>false
def tZ:Option TypeId:=match P.underlying t with
 |some (.slice e)=>some e
 |_=>none
end
theorem wG.agg{t:TypeId}{av:AV}{ks:List SK}(h:wG P t av)(hs:tV P t=true)(hk:FV P 9 t=some ks): ∃vs,av= .agg (vs.map .x)/\LI ks vs:=by
 unfold tV at hs;split at hs;rename_i fs hu;cases h with
 |sc k v h0 h1 h2=>exact absurd hu (h0 fs)
 |st fs' ks' vs h1 h2 h3=>rw [hk] at h2;cases h2;exact ⟨vs,rfl,h3⟩
 |sl e ks' n f h1 h2 h3 h5 h4=>rw [hu] at h1;cases h1
 |mx fs' ms l h1 h2 h3 h4=>rw [hk] at h2;cases h2
 |sm e fs' ms n f h1=>rw [hu] at h1;cases h1
 cases hs
theorem wG.one{t:TypeId}{av:AV}{k:SK}(h:wG P t av)(hs:cH P t=true)(hk:FV P 9 t=some [k]): ∃v,av= .x v/\p8 k v:=by
 cases h with
 |sc k' v h0 h1 h2=>rw [hk] at h1;cases h1;exact ⟨v,rfl,h2⟩
 |st fs' ks' vs h1 h2 h3=>unfold cH at hs;rw [h1] at hs;cases hs
 |sl e ks' n f h1 h2 h3 h5 h4=>unfold cH at hs;rw [h1] at hs;cases hs
 |mx fs' ms l h1 h2 h3 h4=>unfold cH at hs;rw [h1] at hs;cases hs
 |sm e fs' ms n f h1=>unfold cH at hs;rw [h1] at hs;cases hs
theorem wG.list{t e:TypeId}{av:AV}{ks:List SK}(h:wG P t av)(hs:tZ P t=some e)(hk:FV P 9 e=some ks): ∃(n:Nat) (f:Nat->List Value),av= .lst ks.length n (λi=>(f i).map .x)/\(n<=maxLen/\n*P.bytesOf e<=reachBytes)/\ ∀i,i<n->LI ks (f i):=by
 unfold tZ at hs;split at hs;rename_i e' hu;cases hs;cases h with
 |sc k v h0 h1 h2=>simp [FV,hu] at h1
 |st fs' ks' vs h1 h2 h3=>rw [hu] at h1;cases h1
 |mx fs' ms l h1 h2 h3 h4=>rw [hu] at h1;cases h1
 |sm e' fs' ms n f h1 h2 h3=>rw [hu] at h1;cases h1;rw [hk] at h3;cases h3
 |sl e' ks' n f h1 h2 h3 h5 h4=>
  rw [hu] at h1;cases h1;rw [hk] at h2;cases h2;exact ⟨n,f,rfl,⟨h3,h5⟩,h4⟩
 cases hs
theorem BD.nil{l:List AV}(h:BD P [] l):l=[]:=List.eq_nil_of_length_eq_zero h.1.symm
theorem BD.cons{k:MK}{ms:List MK}{l:List AV}(h:BD P (k::ms) l): ∃a l',l=a::l'/\rN P k a/\BD P ms l':=by
 cases l with
 |nil=>have:=h.1;simp at this
 |cons a l=>exact ⟨a,l,rfl,h.2 0 k a rfl rfl,⟨by have:=h.1;simpa using this,λj k' a' hk ha=>h.2 (j+1) k' a' (by simpa using hk) (by simpa using ha)⟩⟩
theorem LI.nil{vs:List Value}(h:LI [] vs):vs=[]:=List.eq_nil_of_length_eq_zero h.1.symm
theorem LI.cons{k:SK}{ks:List SK}{vs:List Value}(h:LI (k::ks) vs): ∃v vs',vs=v::vs'/\p8 k v/\LI ks vs':=by
 cases vs with
 |nil=>have:=h.1;simp at this
 |cons v vs=>exact ⟨v,vs,rfl,h.2 0 k v rfl rfl,⟨by have:=h.1;simpa using this,λj k' v' hk hv=>h.2 (j+1) k' v' (by simpa using hk) (by simpa using hv)⟩⟩
end
inductive Gd where
 |rest
 |go (b:Bool) (g:Gd)
 |both (g g':Gd)
def j7{α:Type}:VJ α->Gd->VJ α
 | .fail,_=> .fail
 | .leaf a,_=> .leaf a
 | .need ps t,g=> .need ps (j7 t g)
 | .branch b t f,g=>match g with
  | .rest=> .branch b t f
  | .go true g=> .need [b=true] (j7 t g)
  | .go false g=> .need [b=false] (j7 f g)
  | .both g g'=> .branch b (j7 t g) (j7 f g')
 | .may p t f,g=>match g with
  | .rest=> .may p t f
  | .go true g=> .may p (j7 t g) (j7 f g)
  | .go false g=> .need [¬p] (j7 f g)
  | .both g g'=> .may p (j7 t g) (j7 f g')
theorem Qq6{α:Type}{Q:α->Prop}{t:VJ α}: ∀{g:Gd},(j7 t g).sat Q->t.sat Q:=by
 induction t with
 |fail=>intro g h;exact h
 |leaf a=>intro g h;exact h
 |need ps t ih=>intro g h;exact ⟨h.1,ih h.2⟩
 |branch b t f iht ihf=>
  intro g h;cases g with
  |rest=>exact h
  |go d g=>
   cases d;obtain ⟨h1,h2⟩:=h;exact ⟨λhb=>absurd ((show b=false from h1).symm.trans hb) (by decide),λ_=>ihf h2⟩
   obtain ⟨h1,h2⟩:=h;exact ⟨λ_=>iht h2,λhb=>absurd ((show b=true from h1).symm.trans hb) (by decide)⟩
  |both g g'=>exact ⟨λhb=>iht (h.1 hb),λhb=>ihf (h.2 hb)⟩
 |may p t f iht ihf=>
  intro g h;cases g with
  |rest=>exact h
  |go d g=>
   cases d;exact ⟨λA=>absurd A h.1,ihf h.2⟩;exact ⟨λA=>iht (h.1 A),ihf h.2⟩
  |both g g'=>exact ⟨λA=>iht (h.1 A),ihf h.2⟩
theorem uC{P:Program}{G:List (Nat×Spec)}{X:Ext}{L:List UF}{f:FuncId}{fn:Func}{c:Code}{avs:List AV}{res:AV}{t:VJ RV}(g:Gd)(hG:VH P G)(hX: ∀cx,VT P X cx)(GN:P.follows .mixedOrders=true)(hf:P.funcs[f]? =some fn)(hb:fn.body=some c)
  (hL: ∀j cj,VP c j=some cj-> ∀sp,L[j]? =some sp->HN P cj sp)(ht:j7 (pY P fn.results.toList (D1 P G X L c 0 (HK fn avs))) g=t)(h:t.sat (λr=>UZ r res)):VV P f avs res:=by
 subst ht;exact jI hG hX GN hf hb hL (xK (Qq6 h))
def Qe2(P:Program)(G:List (Nat×Spec))(X:Ext)(L:List UF)(N:List (Pl×Nat×TypeId×Nat))(s2:St)(rest:Code->Nat->St->CT):Nat->Code->Nat->St->CT
 | 0,c,off,s=> .needT (BA (FU N s) s2) (rest c off s2)
 |k+1,c,off,s=>match c with
  | .seq a b=>(D1 P G X L a off s).bind λp=>match p.1 with
   | .normal=>Qe2 P G X L N s2 rest k b (off+GC a) p.2
   |x=> .leaf (x,p.2)
  |_=> .fail
def tN(P:Program)(cx:Cx)(L:List UF)(ev:Code->Nat->St->CT):Prop:=
 ∀(ro:Option Nat) (n:Nat) (c:Code) (off:Nat) (s:St) (Q:G4×St->Prop) (a:Act) (w:World),(∀j cj,VP c j=some cj-> ∀sp,L[off+j]? =some sp->HH P ro cx cj sp)->(ev c off s).sat Q->Rel cx s a w->c.wpIn (fr ro) n P (CH cx Q) a w
theorem lF{P:Program}{G:List (Nat×Spec)}{X:Ext}{cx:Cx}{L:List UF}(hG:VH P G)(hX:VT P X cx)(GN:P.follows .mixedOrders=true):tN P cx L (D1 P G X L):=
 λro n c off s Q a w hL h r=>D3 hG hX GN c off s Q a w hL h r
theorem gW{P:Program}{G:List (Nat×Spec)}{X:Ext}{cx:Cx}{L:List UF}{N:List (Pl×Nat×TypeId×Nat)}{s2:St}{rest:Code->Nat->St->CT}(hG:VH P G)(hX:VT P X cx)(GN:P.follows .mixedOrders=true)(O9:tN P cx L rest)(hok:okB s2=true): ∀k,tN P cx L (Qe2 P G X L N s2 rest k)
 | 0=>λro n c off s Q a w hL h r=>by
  have h2:=VJ.sat_needT h;exact O9 ro n c off s2 Q a w hL h2.2 (FQ (GA h2.1) hok (D7 r))
 |k+1=>λro n c off s Q a w hL h r=>by
  unfold Qe2 at h;split at h;rename_i x y;refine wpIn_seq ?_;have hx:=D3 hG hX GN (ro:=ro) (n:=n) x off s _ a w (λj cj hj sp hsp=>hL j cj (by
   unfold VP;have hlt:j<GC x:=by
    rcases An j (GC x) with h'|h';exact h';exfalso;rw [LX x j h'] at hj;cases hj
   have:Nat.blt j (GC x)=true:=by rw [Aw];exact hlt
   rw [this];exact hj) sp hsp) (VJ.sat_bind h) r
  refine wpIn_mono hx ?_;rintro e a' w' ⟨ex,s',rfl,hq,Z⟩;cases ex with
  |normal=>
   simp only [G4.ex,Exit.then]
   refine gW hG hX GN O9 hok k ro n y (off+GC x) s' Q a' w' (λj cj hj sp hsp=>hL (GC x+j) cj ?_ sp (by rw [←Ba];exact hsp)) hq Z
   unfold VP;have:Nat.blt (GC x+j) (GC x)=false:=by rw [Cb,ne_eq,Aw];omega
   rw [this];simpa using hj
  |exit i=>exact ⟨.exit i,s',rfl,hq,Z⟩
  |ret=>exact ⟨.ret,s',rfl,hq,Z⟩
  exact h.elim
theorem OT{P:Program}{L:List UF}{f:FuncId}{fn:Func}{c:Code}{avs:List AV}{ev:Code->Nat->St->CT}(hf:P.funcs[f]? =some fn)(hb:fn.body=some c)
  {cx:Cx}{gh:Option Nat}{w:World}{T:Nat->Prop}{e:UJ}{args:List Value}(hev:tN P cx L ev)(hK: ∀b o,¬cx.K b o)(hsv:cx.saved=[])(Qo7:cx.sz=0)(hM: ∀g T w0 D,cx.Φ g T w0->cx.M D->w0.heap.size<=D)(hΦ:cx.Φ gh T w)
  (hT: ∀b,T b->b<w.heap.size/\ ¬e.ro b)(hro: ∀b,e.ro b->b<w.heap.size)(hgl:D9 e w)(FK: ∀a∈avs,Idf a)(Z:VZ e w avs args)
  (hL: ∀j cj,VP c j=some cj-> ∀sp,L[j]? =some sp->HH P none cx cj sp){E:G4×St->Prop}(h:(ev c 0 {HK fn avs with gh:=gh}).sat E){R:Ending->World->Prop}
  (fin: ∀x s w0 T' e' tmps w',E (x,s)->cx.Φ s.gh T' w0->UX e' w0.heap.size w'->Below w0.heap.size w0 w'->US e' s.m w'->(∀b,T' b-> ¬e'.ro b)->VZ e' w' s.σ tmps.toList-> ∃v,(results fn tmps).run P w'= .ok v w'/\R (.returned v) w')
  (hex: ∀x s,E (x,s)-> ∀i,x≠ .exit i):Calls P f args.toArray w R:=by
 let e0:UJ:={ro:=e.ro,own:=λ_=>none,live:=λ_=>False,blk:=λ_=>0,val:=λ_=> .nilIface}
 have hr0:VZ e0 w avs args:=⟨Z.1,λi a v ha hv=>Rep.idf (e:=e) (e':=e0) (λ_ h=>h) (Z.2 i a v ha hv) (FK a (DY ha))⟩;have yE:Rel cx {HK fn avs with gh:=gh} {tmps:=args.toArray++Array.replicate (fn.ntmps-args.toArray.size) undef,defers:=[] } w:=by
  refine ⟨w,T,e0,hΦ,⟨λb hb=>⟨rfl,hro b hb⟩,(λb k hk=>by cases hk),hgl⟩,Below.refl _ _,(λp A=>by cases A),(λk hk=>False.elim hk),hT,⟨⟨(λd hd=>by cases hd),By⟩,(λb o h=>(hK b o h).elim),⟨by rw [hsv];rfl,(λi a v h=>by cases h)⟩,by rw [Qo7];exact Ao _⟩,?_⟩
  have EY:VZ e0 w (List.replicate (fn.ntmps-avs.length) .top) (List.replicate (fn.ntmps-avs.length) undef):=by
   refine ⟨VS,λi a v ha _=>?_⟩;have:=DY ha;rw [List.mem_replicate] at this;rw [this.2];exact .top v
  have:=hr0.append EY;simpa [HK,Z.1] using this
 refine callsIn_wide (n:=0).1 (callsIn_of_wp_marks (F:=fr none) hf hb trivial (wpIn_mono (hev none 0 c 0 _ _ _ w (λj cj hj sp hsp=>hL j cj hj sp (by simpa using hsp)) h yE) ?_) rfl)
 rintro ex a' w' ⟨x,s',rfl,hE,w0,T',e',hΦ',re⟩;have hx:=hex x s' hE;have yG:LeavesInM (fr none) 0 P fn a'.tmps R a'.defers .returning w':=
  zI (M:=cx.M) (s:=s') (λD hD=>hM _ _ _ D hΦ' hD) (λw2 q1 q2 q3 q4=>fin x s' w0 T' e' a'.tmps w2 hE hΦ' q1 q2 q3 (λb hb=>(re.foe b hb).2) q4) a'.defers w' re.xt.defers re.env re.below re.mem re.slots
 cases x with
 |normal=>exact yG
 |ret=>exact yG
 |exit i=>exact (hx i rfl).elim
theorem fU{P:Program}{G:List (Nat×Spec)}{X:Ext}{L:List UF}{f:FuncId}{fn:Func}{c:Code}{avs:List AV}{res:AV}{t:VJ RV}(k:Nat)(N:List (Pl×Nat×TypeId×Nat))(s2:St)(hG:VH P G)(hX: ∀cx,VT P X cx)(GN:P.follows .mixedOrders=true)(hf:P.funcs[f]? =some fn)(hb:fn.body=some c)
  (hL: ∀j cj,VP c j=some cj-> ∀sp,L[j]? =some sp->HN P cj sp)(hok:okB s2=true)(ht:pY P fn.results.toList (Qe2 P G X L N s2 (D1 P G X L) k c 0 (HK fn avs))=t)(h:t.sat (λr=>UZ r res)):VV P f avs res:=by
 subst ht;intro e w args hro hgl FK Z;refine OT hf hb (cx:=lC w (λ_=>False)) (gh:=none) (T:=λ_=>False) (e:=e) (gW hG (hX _) GN (lF hG (hX _) GN) hok k) (λ_ _ h=>h) rfl rfl (by rintro g T w0 D ⟨rfl,_⟩ h;exact h) ⟨rfl,rfl⟩ (λb h=>h.elim) hro hgl FK Z (λj cj hj sp hsp=>hL j cj hj sp hsp _ (xN _ _)) (xK h) ?_ ?_
 rintro x s w0 T' e' tmps w' ⟨hx,r,DX,kA⟩ ⟨rfl,_⟩ q1 q2 q3 _ q4;obtain ⟨u,hu,GF⟩:=DE (P:=P) q3 q4 DX;exact ⟨u,hu,u,rfl,q2,kA.rep q1 rfl q3 GF⟩;rintro x s ⟨hx,_⟩ i rfl;exact hx
theorem SQ{P:Program}{L:List UF}{f:FuncId}{fn:Func}{c:Code}{avs:List AV}{res:AV}{t:VJ RV}{ev:Code->Nat->St->CT}(hf:P.funcs[f]? =some fn)(hb:fn.body=some c)(hev: ∀cx,tN P cx L ev)
  (hL: ∀j cj,VP c j=some cj-> ∀sp,L[j]? =some sp->HN P cj sp)(ht:pY P fn.results.toList (ev c 0 (HK fn avs))=t)(h:t.sat (λr=>UZ r res)):VV P f avs res:=by
 subst ht;intro e w args hro hgl FK Z;refine OT hf hb (cx:=lC w (λ_=>False)) (gh:=none) (T:=λ_=>False) (e:=e) (hev _) (λ_ _ h=>h) rfl rfl (by rintro g T w0 D ⟨rfl,_⟩ h;exact h) ⟨rfl,rfl⟩ (λb h=>h.elim) hro hgl FK Z (λj cj hj sp hsp=>hL j cj hj sp hsp _ (xN _ _)) (xK h) ?_ ?_
 rintro x s w0 T' e' tmps w' ⟨hx,r,DX,kA⟩ ⟨rfl,_⟩ q1 q2 q3 _ q4;obtain ⟨u,hu,GF⟩:=DE (P:=P) q3 q4 DX;exact ⟨u,hu,u,rfl,q2,kA.rep q1 rfl q3 GF⟩;rintro x s ⟨hx,_⟩ i rfl;exact hx
def Qe3(P:Program)(G:List (Nat×Spec))(X:Ext)(L:List UF):Code->Nat->St->CT
 | .region id ops draw,off,s=>match draw with
  |true=>(sP P G X ops.toList ops.size (Array.replicate ops.size false) s).bind λs=> .leaf (.normal,s)
  |false=>D1 P G X L (.region id ops false) off s
 | .seq a b,off,s=>(Qe3 P G X L a off s).bind λp=>match p.1 with
  | .normal=>Qe3 P G X L b (off+GC a) p.2
  |x=> .leaf (x,p.2)
 |c,off,s=>D1 P G X L c off s
theorem Ws2{P:Program}{G:List (Nat×Spec)}{X:Ext}{cx:Cx}{L:List UF}(hG:VH P G)(hX:VT P X cx)(GN:P.follows .mixedOrders=true):tN P cx L (Qe3 P G X L):=by
 intro ro n c
 induction c with
 |region id ops draw=>
  intro off s Q a w hL h r;cases draw with
  |false=>exact D3 hG hX GN _ off s Q a w hL h r
  |true=>
   obtain ⟨w0,T,e,hΦ,r⟩:=r;refine wpIn_region_any GN ?_;exact zW hG hX (λs' a' w' hs Z=>⟨.normal,s',rfl,hs,Z⟩) ops.size _ s a _ (VJ.sat_bind h) ⟨w0,T,e,hΦ,r.drew⟩
 |seq x y ihx ihy=>
  intro off s Q a w hL h r;refine wpIn_seq ?_;have hx:=ihx off s _ a w (λj cj hj sp hsp=>hL j cj (by
    unfold VP;have hlt:j<GC x:=by
     rcases An j (GC x) with h'|h';exact h';exfalso;rw [LX x j h'] at hj;cases hj
    have:Nat.blt j (GC x)=true:=by rw [Aw];exact hlt
    rw [this];exact hj) sp hsp) (VJ.sat_bind h) r
  refine wpIn_mono hx ?_;rintro e a' w' ⟨ex,s',rfl,hq,Z⟩;cases ex with
  |normal=>
   simp only [G4.ex,Exit.then]
   refine ihy (off+GC x) s' Q a' w' (λj cj hj sp hsp=>hL (GC x+j) cj ?_ sp (by rw [←Ba];exact hsp)) hq Z
   unfold VP;have:Nat.blt (GC x+j) (GC x)=false:=by rw [Cb,ne_eq,Aw];omega
   rw [this];simpa using hj
  |exit i=>exact ⟨.exit i,s',rfl,hq,Z⟩
  |ret=>exact ⟨.ret,s',rfl,hq,Z⟩
 |_=>
  intro off s Q a w hL h r;exact D3 hG hX GN _ off s Q a w hL h r
def rX(P:Program)(G:List (Nat×Spec))(X:Ext)(L:List UF)(fn:Func)(c:Code):HY:=λavs m nx sv=>
 some ((D1 P G X L c 0 {HK fn avs with m:=m,nx:=nx,sv:=sv}).bind λp=>match p.1 with
  | .exit _=> .fail
  |_=>match BL P p.2 fn.results.toList with
   |some r=> .leaf (r,p.2.m,p.2.nx,p.2.sv)
   |none=> .fail)
theorem RH{P:Program}{G:List (Nat×Spec)}{X:Ext}{L:List UF}{f:FuncId}{fn:Func}{c:Code}(hG:VH P G)(hX: ∀cx,VT P X cx)(GN:P.follows .mixedOrders=true)(P9:Enters P f)(hf:P.funcs[f]? =some fn)(hb:fn.body=some c)
  (hL: ∀j cj,VP c j=some cj-> ∀sp,L[j]? =some sp->G5 P cj sp):G8 P f (rX P G X L fn c):=by
 refine ⟨P9,?_⟩;intro avs m nx sv t ht Q hQ cx w0 T e ds args w hE hB hm hl LL hxt Z;unfold rX at ht;cases ht
 let K':Nat->Obj->Prop:=λb o=>cx.K b o\/(∃d∈ds,d={target:= .collected b,args:=#[] }/\o= .deferred (some []))
 let cx':Cx:={M:=λ_=>False,Φ:=λg T' w'=>g=none/\T'=T/\w'=w0,K:=K',saved:=cx.saved,sz:=cx.sz}
 have FF:(D1 P G X L c 0 {HK fn avs with m:=m,nx:=nx,sv:=sv}).sat (λp=>(∀i,p.1≠ .exit i)/\p.2.gh=p.2.gh/\ ∃r,BL P p.2 fn.results.toList=some r/\Q (r,p.2.m,p.2.nx,p.2.sv)):=by
  refine VJ.sat_mono ?_ (VJ.sat_bind hQ);rintro ⟨x,s⟩ hs;cases x with
  |exit i=>exact hs.elim
  |normal=>
   simp only at hs;split at hs;rename_i r Z;exact ⟨λi h=>(by cases h),rfl,r,Z,hs⟩
   exact hs.elim
  |ret=>
   simp only at hs;split at hs;rename_i r Z;exact ⟨λi h=>(by cases h),rfl,r,Z,hs⟩
   exact hs.elim
 have yE:Rel cx' {HK fn avs with m:=m,nx:=nx,sv:=sv} {tmps:=args.toArray++Array.replicate (fn.ntmps-args.toArray.size) undef,defers:=[] } w:=by
  refine ⟨w0,T,e,⟨rfl,rfl,rfl⟩,hE,hB,hm,hl,LL,⟨⟨(λd hd=>by cases hd),By⟩,?_,hxt.saved,hxt.size⟩,?_⟩
  rintro b o (hk|⟨d,hd,h1,rfl⟩);exact hxt.kept b o hk;obtain ⟨D,g1,g2,g3,g4,g5⟩:=hxt.defers.1 d hd;rw [h1] at g1;injection g1 with g1 _
  injection g1 with g1
  subst g1;exact ⟨g2,g3,g4⟩;have EY:VZ e w (List.replicate (fn.ntmps-avs.length) .top) (List.replicate (fn.ntmps-avs.length) undef):=by
   refine ⟨VS,λi a v ha _=>?_⟩;have:=DY ha;rw [List.mem_replicate] at this;rw [this.2];exact .top v
  have:=Z.append EY;simpa [HK,Z.1] using this
 refine callsIn_wide (n:=0).1 (callsIn_of_wp_marks (F:=fr none) hf hb trivial (wpIn_mono (D3 hG (hX cx') GN c 0 _ _ _ w (λj cj hj sp hsp=>hL j cj hj sp (by simpa using hsp) none cx') FF yE) ?_) rfl)
 rintro ex a' w' ⟨x,s',rfl,⟨hx,_,r,DX,hq⟩,w0',T',e',⟨_,rfl,rfl⟩,re⟩;have Qp3:a'.defers=[]:=by
  cases hd:a'.defers with
  |nil=>rfl
  |cons d l=>
   obtain ⟨D,_,_,_,_,g5⟩:=re.xt.defers.1 d (by rw [hd];exact GB)
   exact g5.elim
 obtain ⟨u,hu,GF⟩:=DE (P:=P) re.mem re.slots DX;have yG:LeavesInM (fr none) 0 P fn a'.tmps (λen w'=> ∃v r m' nx' sv' e',en= .returned v/\Q (r,m',nx',sv')/\UX e' w0'.heap.size w'/\Below w0'.heap.size w0' w'/\US e' m' w'/\(∀k,e'.live k->k<nx')/\
   (∀b,T' b->b<w0'.heap.size/\ ¬e'.ro b)/\Xt cx e' sv' ds w'/\Rep e' w' r v) a'.defers .returning w':=by
  rw [Qp3];refine ⟨u,hu,u,r,s'.m,s'.nx,s'.sv,e',rfl,hq,re.env,re.below,re.mem,re.live,re.foe,⟨⟨λd hd=>?_,hxt.defers.2⟩,λb o hk=>re.xt.kept b o (.inl hk),re.xt.saved,re.xt.size⟩,GF⟩;obtain ⟨D,g1,g2,g3,g4,g5⟩:=hxt.defers.1 d hd;obtain ⟨k1,k2,k3⟩:=re.xt.kept D (.deferred (some [])) (.inr ⟨d,hd,g1,rfl⟩);exact ⟨D,g1,k1,k2,k3,g5⟩
 cases x with
 |normal=>exact yG
 |ret=>exact yG
 |exit i=>exact (hx i rfl).elim
def BG(t:Nat)(F:Nat->UF):UF:=λs=>match s.σ.getD t .top with
 | .x (.int _ n)=>F n.toNat s
 |_=>none
theorem LZ{P:Program}{c:Code}{t:Nat}{F:Nat->UF}(h: ∀k,G5 P c (F k)):G5 P c (BG t F):=by
 intro ro cx n s tr ht Q hQ a w r;unfold BG at ht;split at ht;exact h _ ro cx n s tr ht Q hQ a w r;cases ht
theorem UT{P:Program}{G:List (Nat×Spec)}{E:Ext}{L:List UF}(N:List (Pl×Nat×TypeId×Nat))(hG:VH P G)(hX: ∀cx,VT P E cx)(GN:P.follows .mixedOrders=true){body:Code}(hL: ∀j cj,VP body j=some cj-> ∀sp,L[j]? =some sp->G5 P cj sp)
  {X:Type}(inv:X->St)(I:X->Prop)(μ:X->Nat)(out:X->G4->Option St){t:CT}{x0:X}(h0:I x0)
  (hok: ∀x,okB (inv x)=true)(qN: ∀x y E,out x y=some E->okB E=true)
  (round: ∀(Q:G4×St->Prop),t.sat Q-> ∀x,I x-> ∃x',(HU P G E L N body (inv x) (inv x') (out x)).sat (λy=>match y with
   | .normal=>I x'/\μ x'<μ x
   |y=> ∀E,out x y=some E->Q (y,E))):G5 P (.loop body) (GG N (HD (inv x0) t)):=
 λro cx=>FH N hG (hX cx) GN (λj cj hj sp hsp=>hL j cj hj sp hsp ro cx) inv I μ out h0 hok qN round
theorem VK.inl{P:Program}{f:Nat}{h:HY}{H:List (Nat×HY)}(h1:G8 P f h)(k:VK P H):VK P ((f,h)::H):=VK.cons h1 k
inductive Wy7 where
 |ret (a:AV)
 |pan (v:Value)
abbrev DU:=List AV->GW->Nat->List (List AV)->Option (VJ (Wy7×GW×Nat×List (List AV)))
def Xu4(e:UJ)(w:World):Wy7->Ending->Prop
 | .ret a,en=> ∃v,en= .returned v/\Rep e w a v
 | .pan u,en=>en= .panicked [{v:=u,recovered:=false}]
def D2(P:Program)(f:FuncId)(h:DU):Prop:=Enters P f/\ ∀avs m nx sv t,h avs m nx sv=some t-> ∀Q,t.sat Q-> ∀(c:Cx) (w0:World) (T:Nat->Prop) (e:UJ) (ds:List Deferred) (args:List Value) (w:World),
 UX e w0.heap.size w->Below w0.heap.size w0 w->US e m w->(∀k,e.live k->k<nx)->(∀b,T b->b<w0.heap.size/\ ¬e.ro b)->Xt c e sv ds w->VZ e w avs args->
  Calls P f args.toArray w λen w'=> ∃r m' nx' sv' e',Xu4 e' w' r en/\Q (r,m',nx',sv')/\UX e' w0.heap.size w'/\Below w0.heap.size w0 w'/\US e' m' w'/\(∀k,e'.live k->k<nx')/\
   (∀b,T b->b<w0.heap.size/\ ¬e'.ro b)/\Xt c e' sv' ds w'
def UQ(P:Program)(PX:List (Nat×DU)):Prop:= ∀p∈PX,D2 P p.1 p.2
theorem UQ.nil(P:Program):UQ P []:=λ_ h=>by cases h
theorem UQ.cons{P:Program}{f:Nat}{h:DU}{H:List (Nat×DU)}(h1:D2 P f h)(k:UQ P H):UQ P ((f,h)::H):=by
 intro p A;rcases GK.1 A with rfl|A;exact h1;exact k p A
def Qq7:List (Nat×DU)->Nat->Option DU
 |[],_=>none
 |(k,s)::t,f=>match Nat.beq k f with
  |true=>some s
  |false=>Qq7 t f
theorem Wp2{G:List (Nat×DU)}{f:Nat}{s:DU}(h:Qq7 G f=some s):(f,s)∈G:=by
 induction G with
 |nil=>simp [Qq7] at h
 |cons p t ih=>
  obtain ⟨k,r'⟩:=p;unfold Qq7 at h;split at h;rename_i hk;have:k=f:=GU hk;subst this;cases h;exact GB;exact HM _ (ih h)
inductive PEx where
 |x (e:G4)
 |pan (v:Value)
def PEx.ex:PEx->Exit
 | .x e=>e.ex
 | .pan v=> .panic [{v,recovered:=false}]
abbrev PT:=VJ (PEx×St)
def CG(cx:Cx)(Q:PEx×St->Prop):Exit->Act->World->Prop:=λe a w=> ∃x s,e=PEx.ex x/\Q (x,s)/\Rel cx s a w
abbrev PF:=St->Option PT
def LT(P:Program)(ro:Option Nat)(cx:Cx)(c:Code)(sp:PF):Prop:= ∀(n:Nat) (s:St) (t:PT),sp s=some t-> ∀Q:PEx×St->Prop,t.sat Q-> ∀(a:Act) (w:World),Rel cx s a w->c.wpIn (fr ro) n P (CG cx Q) a w
def Jj0(dst:Option Nat)(s:St)(p:Wy7×GW×Nat×List (List AV)):PT:=match p.2.2.2 with
 |σ::sv=>match p.1 with
  | .ret a=> .leaf (.x .normal,{s with σ:=wV σ dst a,m:=p.2.1,nx:=p.2.2.1,sv:=sv})
  | .pan v=> .leaf (.pan v,{s with σ:=σ,m:=p.2.1,nx:=p.2.2.1,sv:=sv})
 |[]=> .fail
def EJ(s:St):PT:= .leaf (.x .normal,s)
def Wg3(P:Program)(G:List (Nat×Spec))(X:Ext)(PX:List (Nat×DU))(ops:List Oper)(o:Oper)(s:St):PT:=
 match o.op with
 | .call c=>match c.callee with
  | .value f=>match rho s.σ f with
   | .fn (.func g) first caps=>match Qq7 PX g with
    |some h=>match o.guard with
     |none=>match h (first++c.args.toList.map (rho s.σ)++caps) s.m s.nx (s.σ::s.sv) with
      |some t=>t.bind (Jj0 o.dst s)
      |none=> .fail
     |some _=> .fail
    |none=>(zC P G X ops o s).bind EJ
   |_=>(zC P G X ops o s).bind EJ
  |_=>(zC P G X ops o s).bind EJ
 | .panic v=>match o.guard,rho s.σ v with
  |none,.x (.iface t u)=> .leaf (.pan (.iface t u),s)
  |_,_=> .fail
 |_=>(zC P G X ops o s).bind EJ
def Ja1(f:St->PT)(p:PEx×St):PT:=match p.1 with
 | .x .normal=>f p.2
 |x=> .leaf (x,p.2)
def cO(P:Program)(G:List (Nat×Spec))(X:Ext)(PX:List (Nat×DU))(ops:List Oper):List Oper->St->PT
 |[],s=>EJ s
 |o::rest,s=>(Wg3 P G X PX ops o s).bind (Ja1 (cO P G X PX ops rest))
section
variable (P:Program)(G:List (Nat×Spec))(X:Ext)
def Ja0(PX:List (Nat×DU))(ops:List Oper)(s:St):PT:=cO P G X PX ops ops s
def Jf6(PX:List (Nat×DU)):List Oper->Bool
 |[]=>false
 |o::os=>(match o.op with
  | .call c=>match c.callee with
   | .value (.func g)=>match Qq7 PX g with
    |some _=>true
    |none=>false
   |_=>false
  | .panic _=>true
  |_=>false)||Jf6 PX os
def Wb8(PX:List (Nat×DU))(ops:List Oper)(s:St):PT:=match Jf6 PX ops with
 |true=>Zg3 (cO P G X PX ops) P G X ops s
 |false=>(Xe1 P G X ops s).bind EJ
end
def P0(P:Program)(G:List (Nat×Spec))(X:Ext)(PX:List (Nat×DU))(L:List PF):Code->Nat->St->PT
 | .skip,_,s=> .leaf (.x .normal,s)
 | .label _,_,s=> .leaf (.x .normal,s)
 | .region _ ops draw,_,s=>match draw with
  |true=>Wb8 P G X PX ops.toList s
  |false=>Ja0 P G X PX ops.toList s
 | .seq a b,off,s=>(P0 P G X PX L a off s).bind λp=>match p.1 with
  | .x .normal=>P0 P G X PX L b (off+GC a) p.2
  |x=> .leaf (x,p.2)
 | .cond c a b,off,s=>match rho s.σ c with
  | .lit true=>P0 P G X PX L a off s
  | .lit false=>P0 P G X PX L b (off+GC a) s
  | .x (.bool t)=> .branch t (P0 P G X PX L a off (lD s c true)) (P0 P G X PX L b (off+GC a) (lD s c false))
  |_=> .fail
 | .block id c,off,s=>(P0 P G X PX L c off s).bind λp=>match p.1 with
  | .x (.exit i)=>match Nat.beq i id with
   |true=> .leaf (.x .normal,p.2)
   |false=> .leaf (.x (.exit i),p.2)
  |x=> .leaf (x,p.2)
 | .scope c,off,s=>P0 P G X PX L c off s
 | .loop _,off,s=>match L[off]? with
  |some f=>match f s with
   |some t=>t
   |none=> .fail
  |none=> .fail
 | .rangeFunc _ _ _ _,off,s=>match L[off]? with
  |some f=>match f s with
   |some t=>t
   |none=> .fail
  |none=> .fail
 | .exit id,_,s=> .leaf (.x (.exit id),s)
 | .ret,_,s=> .leaf (.x .ret,s)
 | .goto _,_,_=> .fail
 | .refuse _,_,_=> .fail
section
variable {P:Program}{G:List (Nat×Spec)}{X:Ext}{PX:List (Nat×DU)}{cx:Cx}
theorem eU(hG:VH P G)(hX:VT P X cx)(hP:UQ P PX){ro:Option Nat}{n:Nat}{ops:Array Oper}{i:Nat}{o:Oper}(ho:ops[i]? =some o){s:St}{Q R:PEx×St->Prop}{K:Act->World->Prop}(hK: ∀s a w,R (.x .normal,s)->Rel cx s a w->K a w)(hV: ∀v s,R (.pan v,s)->Q (.pan v,s))(h:(Wg3 P G X PX ops.toList o s).sat R){a:Act}{w:World}(r:Rel cx s a w):
  wpOpIn (fr ro) n P ops (CG cx Q) i K a w:=by
 have plain:((zC P G X ops.toList o s).bind EJ).sat R->wpOpIn (fr ro) n P ops (CG cx Q) i K a w:=λh=>
  zA hG hX ho (VJ.sat_bind h) r (λs' a' w' hs Z=>hK s' a' w' hs Z)
 unfold Wg3 at h;split at h;rename_i c hop;split at h;rename_i f gM;split at h;rename_i g first caps hfe
 split at h;rename_i hs hhs;split at h;rename_i hg;split at h;rename_i t ht;obtain ⟨w0,T,e,hΦ,r⟩:=r;obtain ⟨dst,op,type,pos,after,guard⟩:=o;simp only at hop hg;subst hop hg;obtain ⟨callee,args,argTypes⟩:=c;simp only at gM;subst gM;have ha:=VZ.ops (FG r.slots) args.toList;have hf:=FG r.slots f;rw [hfe] at hf;obtain ⟨us,us',hv,r1,r2⟩:=hf.fn_inv;have HV:VZ e w (first++args.toList.map (rho s.σ)++caps) (us++args.toList.map a.eval++us'):=(r1.append ha).append r2
 obtain ⟨P9,I1⟩:=hP _ (Wp2 hhs);have FD:=I1 _ _ _ _ _ ht _ (VJ.sat_bind h) {cx with saved:=a.tmps.toList::cx.saved} w0 T e a.defers _ w r.env r.below r.mem r.live r.foe ⟨r.xt.defers,r.xt.kept,L4.cons r.slots r.xt.saved,r.xt.size⟩ HV
 unfold wpOpIn;simp only [ho];rw [if_pos (by simp [Region.wanted])]
 refine HI (λc h=>by cases h) ?_
 unfold Oper.wp;have DI:(execOp a.eval ⟨dst,.call ⟨.value f,args,argTypes⟩,type,pos,after,none⟩).run P w= .ok (.enter g (us++args.toList.map a.eval++us').toArray) w:=by
  have e1:(us++args.toList.map a.eval++us').toArray=us.toArray++args.map a.eval++us'.toArray:=Array.ext' VS;simp only [execOp,resolve,hv,Deferred.ofValue,At,Bv,Au,invoke];rw [e1];exact L8 P9 _ w
 rw [DI,Oper.upon_enter];refine FD.mono λen w' hq=>?_;obtain ⟨rr,m',nx',sv',e',PG,hQ,hE',hB',hm',hl',hT',hx'⟩:=hq;obtain ⟨a1,l1,he1,hs1,hs2⟩:=hx'.saved.cons_inv;subst he1;cases rr with
 |ret av=>
  obtain ⟨v,rfl,GF⟩:=PG;exact hK _ _ _ hQ ⟨w0,T,e',hΦ,hE',hB',hm',hl',hT',by rw [put_defers];exact ⟨hx'.defers,hx'.kept,hs2,hx'.size⟩,BU hs1 dst GF⟩
 |pan u=>
  cases PG;exact ⟨.pan u,_,rfl,hV _ _ hQ,w0,T,e',hΦ,hE',hB',hm',hl',hT',⟨hx'.defers,hx'.kept,hs2,hx'.size⟩,hs1⟩
 exact h.elim;exact h.elim;exact plain h;exact plain h;exact plain h;rename_i v hop;split at h;rename_i t u hg hu;have r0:=r;obtain ⟨w0,T,e,hΦ,r⟩:=r;have hv:=FG r.slots v;rw [hu] at hv;have hv:=hv.x_inv;obtain ⟨dst,op,type,pos,after,guard⟩:=o;simp only at hop hg;subst hop hg;unfold wpOpIn;simp only [ho];rw [if_pos (by simp [Region.wanted])]
 refine HI (λc h=>by cases h) ?_
 unfold Oper.wp;have DI:(execOp a.eval ⟨dst,.panic v,type,pos,after,none⟩).run P w= .halt (.panic (.iface t u)) w:=by
  simp [execOp,hv,Instr.panic,goPanic]
 rw [DI,Oper.upon_panic];exact ⟨.pan (.iface t u),s,rfl,hV _ _ h,r0⟩;exact h.elim;exact plain h
theorem jM(hG:VH P G)(hX:VT P X cx)(hP:UQ P PX){ro:Option Nat}{n:Nat}{ops:Array Oper}{Q:PEx×St->Prop}:
  ∀(l:List Oper) (k:Nat),l=ops.toList.drop k-> ∀(s:St) (a:Act) (w:World),(cO P G X PX ops.toList l s).sat Q->Rel cx s a w->wpOpsIn (fr ro) n P ops (CG cx Q) (List.range' k (ops.size-k)) a w
 |[],k,hk,s,a,w,h,r=>by
  have hl:ops.size-k=0:=by
   have:=congrArg List.length hk;simp at this;omega
  rw [hl];exact ⟨.x .normal,s,rfl,h,r⟩
 |o::rest,k,hk,s,a,w,h,r=>by
  have hlt:k<ops.size:=by
   have:=congrArg List.length hk;simp at this;omega
  have hok:ops[k]? =some o:=by
   have:=congrArg (·[0]?) hk;simp at this;exact this.symm
  have O9:rest=ops.toList.drop (k+1):=by
   have:=congrArg List.tail hk;simpa using this
  have e1:ops.size-k=(ops.size-(k+1))+1:=VG;rw [e1,List.range'_succ,wpOpsIn_cons];refine eU (Q:=Q) (R:=λp=>(Ja1 (cO P G X PX ops.toList rest) p).sat Q) hG hX hP hok ?_ (λv s' hs'=>hs') (VJ.sat_bind h) r;exact λs' a' w' hs' hr'=>jM hG hX hP rest (k+1) O9 s' a' w' hs' hr'
theorem nN(hG:VH P G)(hX:VT P X cx)(hP:UQ P PX){ro:Option Nat}{n:Nat}{id:Nat}{ops:Array Oper}{s:St}{Q:PEx×St->Prop}(h:(Ja0 P G X PX ops.toList s).sat Q){a:Act}{w:World}(r:Rel cx s a w):
  (Code.region id ops false).wpIn (fr ro) n P (CG cx Q) a w:=by
 refine wpIn_region ?_;rw [List.range_eq_range' (n:=ops.size)];have:=jM hG hX hP (ro:=ro) (n:=n) ops.toList 0 VS s a w h r;simpa using this
theorem cS(hG:VH P G)(hX:VT P X cx)(hP:UQ P PX)(GN:P.follows .mixedOrders=true){ro:Option Nat}{n:Nat}{id:Nat}{ops:Array Oper}{s:St}{Q:PEx×St->Prop}(h:(Wb8 P G X PX ops.toList s).sat Q){a:Act}{w:World}(r:Rel cx s a w):
  (Code.region id ops true).wpIn (fr ro) n P (CG cx Q) a w:=by
 unfold Wb8 at h;split at h;exact wpIn_region_any GN (cQ hG hX GN h r (λl k hl s a w h r=>jM hG hX hP l k hl s a w h r));exact CA hG hX GN (VJ.sat_bind h) r (λs' a' w' hs Z=>⟨.x .normal,s',rfl,hs,Z⟩)
theorem rJ(hG:VH P G)(hX:VT P X cx)(hP:UQ P PX)(GN:P.follows .mixedOrders=true){L:List PF}{ro:Option Nat}{n:Nat}:
  ∀(c:Code) (off:Nat) (s:St) (Q:PEx×St->Prop) (a:Act) (w:World),(∀j cj,VP c j=some cj-> ∀sp,L[off+j]? =some sp->LT P ro cx cj sp)->(P0 P G X PX L c off s).sat Q->Rel cx s a w->c.wpIn (fr ro) n P (CG cx Q) a w:=by
 intro c
 induction c with
 |skip=>intro off s Q a w _ h r;exact wpIn_skip ⟨.x .normal,s,rfl,h,r⟩
 |label l=>intro off s Q a w _ h r;exact wpIn_label ⟨.x .normal,s,rfl,h,r⟩
 |region id ops draw=>
  intro off s Q a w _ h r;unfold P0 at h;cases draw with
  |true=>exact cS hG hX hP GN h r
  |false=>exact nN hG hX hP h r
 |seq x y ihx ihy=>
  intro off s Q a w hL h r;unfold P0 at h;refine wpIn_seq ?_;have hx:=ihx off s _ a w (λj cj hj sp hsp=>hL j cj (by
   unfold VP;have hlt:j<GC x:=by
    rcases An j (GC x) with h'|h';exact h';exfalso;rw [LX x j h'] at hj;cases hj
   have:Nat.blt j (GC x)=true:=by rw [Aw];exact hlt
   rw [this];exact hj) sp hsp) (VJ.sat_bind h) r
  refine wpIn_mono hx ?_;rintro e a' w' ⟨ex,s',rfl,hq,Z⟩;cases ex with
  |pan v=>exact ⟨.pan v,s',rfl,hq,Z⟩
  |x ex=>
  cases ex with
  |normal=>
   simp only [PEx.ex,G4.ex,Exit.then]
   refine ihy (off+GC x) s' Q a' w' (λj cj hj sp hsp=>hL (GC x+j) cj ?_ sp (by rw [←Ba];exact hsp)) hq Z
   unfold VP;have:Nat.blt (GC x+j) (GC x)=false:=by rw [Cb,ne_eq,Aw];omega
   rw [this];simpa using hj
  |exit i=>exact ⟨.x (.exit i),s',rfl,hq,Z⟩
  |ret=>exact ⟨.x .ret,s',rfl,hq,Z⟩
 |cond t x y ihx ihy=>
  intro off s Q a w hL h r;have hLx: ∀j cj,VP x j=some cj-> ∀sp,L[off+j]? =some sp->LT P ro cx cj sp:=by
   intro j cj hj sp hsp;refine hL j cj ?_ sp hsp;unfold VP;split;exact hj;rename_i hb;exfalso;have hge:GC x<=j:=by
    rw [Cb,ne_eq,Aw] at hb;omega
   rw [LX x j hge] at hj;cases hj
  have hLy: ∀j cj,VP y j=some cj-> ∀sp,L[off+GC x+j]? =some sp->LT P ro cx cj sp:=by
   intro j cj hj sp hsp;refine hL (GC x+j) cj ?_ sp (by rw [←Ba];exact hsp)
   unfold VP;have:Nat.blt (GC x+j) (GC x)=false:=by rw [Cb,ne_eq,Aw];omega
   rw [this];simpa using hj
  unfold P0 at h;have r0:=r;obtain ⟨w0,T,e,hΦ,re⟩:=r;have hc:=FG re.slots t;split at h;rename_i heq;rw [heq] at hc;exact wpIn_cond_true hc.lit_inv (ihx off s Q a w hLx h r0);rename_i heq;rw [heq] at hc;exact wpIn_cond_false hc.lit_inv (ihy _ s Q a w hLy h r0);rename_i b heq;rw [heq] at hc;cases b;exact wpIn_cond_false hc.x_inv (ihy _ _ Q a w hLy (h.2 rfl) (gV r0 heq rfl));exact wpIn_cond_true hc.x_inv (ihx _ _ Q a w hLx (h.1 rfl) (gV r0 heq rfl));exact h.elim
 |block id c ih=>
  intro off s Q a w hL h r;unfold P0 at h;refine wpIn_block (wpIn_mono (ih off s _ a w hL (VJ.sat_bind h) r) ?_);rintro e a' w' ⟨ex,s',rfl,hq,Z⟩;cases ex with
  |pan v=>exact ⟨.pan v,s',rfl,hq,Z⟩
  |x ex=>
  cases ex with
  |normal=>exact ⟨.x .normal,s',rfl,hq,Z⟩
  |ret=>exact ⟨.x .ret,s',rfl,hq,Z⟩
  |exit i=>
   simp only [PEx.ex,G4.ex,Exit.inBlock];simp only at hq;split at hq;rename_i hb;rw [if_pos (GU hb)];exact ⟨.x .normal,s',rfl,hq,Z⟩;rename_i hb;rw [if_neg (λhe=>by subst he;simp at hb)]
   exact ⟨.x (.exit i),s',rfl,hq,Z⟩
 |scope c ih=>
  intro off s Q a w hL h r;unfold P0 at h;refine AJ (wpIn_mono (ih off s Q a w hL h r) ?_);rintro e a' w' ⟨ex,s',rfl,hq,Z⟩;cases ex with
  |pan v=>exact ⟨.pan v,s',rfl,hq,Z⟩
  |x ex=>
  cases ex with
  |normal=>exact ⟨.x .normal,s',rfl,hq,Z⟩
  |ret=>exact ⟨.x .ret,s',rfl,hq,Z⟩
  |exit i=>exact ⟨.x (.exit i),s',rfl,hq,Z⟩
 |loop c ih=>
  intro off s Q a w hL h r;unfold P0 at h;split at h;rename_i f hf;split at h;rename_i t ht;exact hL 0 _ rfl f (by simpa using hf) n s t ht Q h a w r
  exact h.elim;exact h.elim
 |rangeFunc f ps x y ihx ihy=>
  intro off s Q a w hL h r;unfold P0 at h;split at h;rename_i f hf;split at h;rename_i t ht;exact hL 0 _ rfl f (by simpa using hf) n s t ht Q h a w r
  exact h.elim;exact h.elim
 |exit id=>intro off s Q a w _ h r;exact wpIn_exit ⟨.x (.exit id),s,rfl,h,r⟩
 |ret=>intro off s Q a w _ h r;exact wpIn_ret ⟨.x .ret,s,rfl,h,r⟩
 |goto l=>intro off s Q a w _ h r;exact h.elim
 |refuse y=>intro off s Q a w _ h r;exact h.elim
end
def rW(P:Program)(G:List (Nat×Spec))(X:Ext)(PX:List (Nat×DU))(L:List PF)(fn:Func)(c:Code):DU:=λavs m nx sv=>
 some ((P0 P G X PX L c 0 {HK fn avs with m:=m,nx:=nx,sv:=sv}).bind λp=>match p.1 with
  | .pan v=> .leaf (.pan v,p.2.m,p.2.nx,p.2.sv)
  | .x (.exit _)=> .fail
  |_=>match BL P p.2 fn.results.toList with
   |some r=> .leaf (.ret r,p.2.m,p.2.nx,p.2.sv)
   |none=> .fail)
theorem FN{P:Program}{G:List (Nat×Spec)}{X:Ext}{PX:List (Nat×DU)}{L:List PF}{f:FuncId}{fn:Func}{c:Code}(hG:VH P G)(hX: ∀cx,VT P X cx)(hP:UQ P PX)(GN:P.follows .mixedOrders=true)(P9:Enters P f)(hf:P.funcs[f]? =some fn)(hb:fn.body=some c)
  (hL: ∀j cj,VP c j=some cj-> ∀sp,L[j]? =some sp-> ∀ro cx,LT P ro cx cj sp):D2 P f (rW P G X PX L fn c):=by
 refine ⟨P9,?_⟩;intro avs m nx sv t ht Q hQ cx w0 T e ds args w hE hB hm hl LL hxt Z;unfold rW at ht;cases ht
 let K':Nat->Obj->Prop:=λb o=>cx.K b o\/(∃d∈ds,d={target:= .collected b,args:=#[] }/\o= .deferred (some []))
 let cx':Cx:={M:=λ_=>False,Φ:=λg T' w'=>g=none/\T'=T/\w'=w0,K:=K',saved:=cx.saved,sz:=cx.sz}
 have FF:(P0 P G X PX L c 0 {HK fn avs with m:=m,nx:=nx,sv:=sv}).sat (λp=>match p.1 with
   | .pan v=>Q (.pan v,p.2.m,p.2.nx,p.2.sv)
   | .x (.exit _)=>False
   |_=> ∃r,BL P p.2 fn.results.toList=some r/\Q (.ret r,p.2.m,p.2.nx,p.2.sv)):=by
  refine VJ.sat_mono ?_ (VJ.sat_bind hQ);rintro ⟨x,s⟩ hs;cases x with
  |pan v=>exact hs
  |x x=>
  cases x with
  |exit i=>exact hs.elim
  |normal=>
   simp only at hs ⊢;split at hs;rename_i r Z;exact ⟨r,Z,hs⟩;exact hs.elim
  |ret=>
   simp only at hs ⊢;split at hs;rename_i r Z;exact ⟨r,Z,hs⟩;exact hs.elim
 have yE:Rel cx' {HK fn avs with m:=m,nx:=nx,sv:=sv} {tmps:=args.toArray++Array.replicate (fn.ntmps-args.toArray.size) undef,defers:=[] } w:=by
  refine ⟨w0,T,e,⟨rfl,rfl,rfl⟩,hE,hB,hm,hl,LL,⟨⟨(λd hd=>by cases hd),By⟩,?_,hxt.saved,hxt.size⟩,?_⟩
  rintro b o (hk|⟨d,hd,h1,rfl⟩);exact hxt.kept b o hk;obtain ⟨D,g1,g2,g3,g4,g5⟩:=hxt.defers.1 d hd;rw [h1] at g1;injection g1 with g1 _
  injection g1 with g1
  subst g1;exact ⟨g2,g3,g4⟩;have EY:VZ e w (List.replicate (fn.ntmps-avs.length) .top) (List.replicate (fn.ntmps-avs.length) undef):=by
   refine ⟨VS,λi a v ha _=>?_⟩;have:=DY ha;rw [List.mem_replicate] at this;rw [this.2];exact .top v
  have:=Z.append EY;simpa [HK,Z.1] using this
 refine callsIn_wide (n:=0).1 (callsIn_of_wp_marks (F:=fr none) hf hb trivial (wpIn_mono (rJ hG (hX cx') hP GN c 0 _ _ _ w (λj cj hj sp hsp=>hL j cj hj sp (by simpa using hsp) none cx') FF yE) ?_) rfl)
 rintro ex a' w' ⟨x,s',rfl,hq,w0',T',e',⟨_,rfl,rfl⟩,re⟩;have Qp3:a'.defers=[]:=by
  cases hd:a'.defers with
  |nil=>rfl
  |cons d l=>
   obtain ⟨D,_,_,_,_,g5⟩:=re.xt.defers.1 d (by rw [hd];exact GB)
   exact g5.elim
 have hxt':Xt cx e' s'.sv ds w':=by
  refine ⟨⟨λd hd=>?_,hxt.defers.2⟩,λb o hk=>re.xt.kept b o (.inl hk),re.xt.saved,re.xt.size⟩;obtain ⟨D,g1,g2,g3,g4,g5⟩:=hxt.defers.1 d hd;obtain ⟨k1,k2,k3⟩:=re.xt.kept D (.deferred (some [])) (.inr ⟨d,hd,g1,rfl⟩);exact ⟨D,g1,k1,k2,k3,g5⟩
 have fin:(∃r,BL P s' fn.results.toList=some r/\Q (.ret r,s'.m,s'.nx,s'.sv))->LeavesInM (fr none) 0 P fn a'.tmps (λen w'=> ∃r m' nx' sv' e',Xu4 e' w' r en/\Q (r,m',nx',sv')/\UX e' w0'.heap.size w'/\Below w0'.heap.size w0' w'/\US e' m' w'/\(∀k,e'.live k->k<nx')/\
   (∀b,T' b->b<w0'.heap.size/\ ¬e'.ro b)/\Xt cx e' sv' ds w') a'.defers .returning w':=by
  rintro ⟨r,DX,hq⟩;obtain ⟨u,hu,GF⟩:=DE (P:=P) re.mem re.slots DX;rw [Qp3];exact ⟨u,hu,.ret r,s'.m,s'.nx,s'.sv,e',⟨u,rfl,GF⟩,hq,re.env,re.below,re.mem,re.live,re.foe,hxt'⟩
 cases x with
 |pan v=>
  show LeavesInM (fr none) 0 P fn a'.tmps _ a'.defers (.panicking [{v:=v,recovered:=false}]) w';rw [Qp3];exact ⟨.pan v,s'.m,s'.nx,s'.sv,e',rfl,hq,re.env,re.below,re.mem,re.live,re.foe,hxt'⟩
 |x x=>
 cases x with
 |normal=>exact fin hq
 |ret=>exact fin hq
 |exit i=>exact hq.elim
def Wr1(N:List (Pl×Nat×TypeId×Nat))(nxt:St)(out:PEx->Option St)(p:PEx×St):VJ PEx:=match p.1 with
 | .x .normal=> .needT (BA (FU N p.2) nxt) (.leaf (.x .normal))
 | .x (.exit id)=>match out (.x (.exit id)) with
  |some E=> .needT (BA (FU N p.2) E) (.leaf (.x (.exit id)))
  |none=> .fail
 | .x .ret=>match out (.x .ret) with
  |some E=> .needT (BA (FU N p.2) E) (.leaf (.x .ret))
  |none=> .fail
 | .pan v=>match out (.pan v) with
  |some E=> .needT (BA (FU N p.2) E) (.leaf (.pan v))
  |none=> .fail
theorem Wr0{N:List (Pl×Nat×TypeId×Nat)}{t:PT}{nxt:St}{out:PEx->Option St}{R:PEx->Prop}(h:(t.bind (Wr1 N nxt out)).sat R):
  t.sat (λp=>match p.1 with
   | .x .normal=>R (.x .normal)/\U8 (BA (FU N p.2) nxt)
   |y=> ∃E,out y=some E/\R y/\U8 (BA (FU N p.2) E)):=by
 refine VJ.sat_mono ?_ (VJ.sat_bind h);rintro ⟨y,s'⟩ A;cases y with
 |pan v=>
  dsimp only [Wr1] at A ⊢
  split at A;rename_i E hE;exact ⟨E,hE,(VJ.sat_needT A).2,(VJ.sat_needT A).1⟩;exact A.elim
 |x y=>
 cases y with
 |normal=>exact ⟨(VJ.sat_needT A).2,(VJ.sat_needT A).1⟩
 |exit id=>
  dsimp only [Wr1] at A ⊢
  split at A;rename_i E hE;exact ⟨E,hE,(VJ.sat_needT A).2,(VJ.sat_needT A).1⟩;exact A.elim
 |ret=>
  dsimp only [Wr1] at A ⊢
  split at A;rename_i E hE;exact ⟨E,hE,(VJ.sat_needT A).2,(VJ.sat_needT A).1⟩;exact A.elim
def Zc7(E:St)(t:PT):PF:=λs=>some (.needT (BA s E) t)
def TN(l:List (Pl×Nat×TypeId×Nat))(sp:PF):PF:=λs=>sp (FU l s)
def Zd3(P:Program)(G:List (Nat×Spec))(X:Ext)(PX:List (Nat×DU))(L:List PF)(N:List (Pl×Nat×TypeId×Nat))(body:Code)(s nxt:St)(out:PEx->Option St):VJ PEx:=(P0 P G X PX L body 0 s).bind (Wr1 N nxt out)
theorem TS{P:Program}{G:List (Nat×Spec)}{X:Ext}{PX:List (Nat×DU)}{L:List PF}(N:List (Pl×Nat×TypeId×Nat))(hG:VH P G)(hX: ∀cx,VT P X cx)(hP:UQ P PX)(GN:P.follows .mixedOrders=true){body:Code}(hL: ∀j cj,VP body j=some cj-> ∀sp,L[j]? =some sp-> ∀ro cx,LT P ro cx cj sp)
  {V:Type}(inv:V->St)(I:V->Prop)(μ:V->Nat)(out:V->PEx->Option St){t:PT}{x0:V}(h0:I x0)
  (hok: ∀x,okB (inv x)=true)(qN: ∀x y E,out x y=some E->okB E=true)
  (round: ∀(Q:PEx×St->Prop),t.sat Q-> ∀x,I x-> ∃x',(Zd3 P G X PX L N body (inv x) (inv x') (out x)).sat (λy=>match y with
   | .x .normal=>I x'/\μ x'<μ x
   |y=> ∀E,out x y=some E->Q (y,E))): ∀ro cx,LT P ro cx (.loop body) (TN N (Zc7 (inv x0) t)):=by
 intro ro cx n s t' ht Q FF a w r;simp only [TN,Zc7,HA] at ht;subst ht
 replace FF:=VJ.sat_needT FF
 have hQ:=FF.2;have r:=FQ (GA FF.1) (hok x0) (D7 r);refine TU μ (λx a w=>I x/\Rel cx (inv x) a w) ?_ ⟨h0,r⟩;rintro x a w ⟨hx,Z⟩;obtain ⟨x',zL⟩:=round Q hQ x hx;refine wpIn_mono (rJ hG (hX cx) hP GN body 0 (inv x) _ a w (λj cj hj sp hsp=>hL j cj hj sp (by simpa using hsp) ro cx) (Wr0 zL) Z) ?_
 rintro ex a₁ w₁ ⟨y,s',rfl,hq,hr'⟩;cases y with
 |pan v=>
  obtain ⟨E,hE,h1,h3⟩:=hq;exact ⟨.pan v,E,rfl,h1 E hE,FQ (GA h3) (qN x _ E hE) (D7 hr')⟩
 |x y=>
 cases y with
 |normal=>
  obtain ⟨⟨h1,h2⟩,h3⟩:=hq;exact ⟨x',h2,h1,FQ (GA h3) (hok x') (D7 hr')⟩
 |exit id=>
  obtain ⟨E,hE,h1,h3⟩:=hq;exact ⟨.x (.exit id),E,rfl,h1 E hE,FQ (GA h3) (qN x _ E hE) (D7 hr')⟩
 |ret=>
  obtain ⟨E,hE,h1,h3⟩:=hq;exact ⟨.x .ret,E,rfl,h1 E hE,FQ (GA h3) (qN x _ E hE) (D7 hr')⟩
theorem Step.app{e:UJ}{id:Nat}(u:Value)(w:World)(hid: ¬e.live id):Step e (e.app id u) w w:=
 ⟨λb _ h=>⟨h,rfl⟩,λk hk=>⟨.inr hk,rfl,by
  have:k≠id:=λh=>hid (h▸hk);simp [UJ.app,this]⟩,Am _⟩
def Wo7(sp:BI):HY:=λavs m nx sv=>match sp (avs.map (D4 m 40)) with
 |some (ns,T,sz,n,g)=>some (.needT ns (.leaf (.row nx,(nx,.row T sz n g)::m,nx+1,sv)))
 |none=>none
theorem C2{P:Program}{f:FuncId}{sp:BI}(h:Enters P f/\ ∀avs ns T sz n g,sp avs=some (ns,T,sz,n,g)->(∀q∈ns,q)->DG P f avs T sz n g):G8 P f (Wo7 sp):=by
 refine ⟨h.1,?_⟩;intro avs m nx sv t ht Q hQ c w0 T e ds args w hE hB hm hl LL hxt Z;unfold Wo7 at ht;split at ht;rename_i ns T' sz n g hsp;cases ht;obtain ⟨hns,hq⟩:=VJ.sat_needT hQ;have gD:=VZ.map (D4 m 40) (L5 hE hm 40) Z;have FD:=h.2 _ _ _ _ _ _ hsp (GA hns) e.view w _ (by
  rintro b (hb|⟨k,hb⟩);exact (hE.apart b hb).2;exact (hE.owned b k hb).2) (hE.glob.step (Step.view w)) (DM (RG hm 40) Z) gD
 refine FD.mono ?_;rintro en w' ⟨v,xs,rfl,hb,k1,k2,k3,k4⟩;obtain ⟨e',q1,q2,q3,q4,q5,q6,q7,q8⟩:=IQ hE hB.size hm (λhlv=>Bf _ (hl _ hlv)) hb k1 k2 k3 k4;refine ⟨v,_,_,_,_,e',rfl,hq,q3,hB.trans (hb.mono hB.size),q6,λk hk=>?_,λb hT=>⟨(LL b hT).1,λhro=>?_⟩,hxt.step q2,q5⟩;rcases q7 k hk with hk|rfl;exact Nat.lt_succ_of_lt (hl k hk);exact Bk _;rcases q8 b hro with hro|hro;exact (LL b hT).2 hro;have:=(LL b hT).1;have:=hB.size;omega;cases ht
theorem VJ.bind_sat{α β:Type}{f:α->VJ β}{Q:β->Prop}: ∀{t:VJ α},t.sat (λa=>(f a).sat Q)->(t.bind f).sat Q
 | .fail,h=>h.elim
 | .leaf a,h=>h
 | .need ps t,h=>⟨h.1,VJ.bind_sat h.2⟩
 | .branch b t t',h=>⟨λhb=>VJ.bind_sat (h.1 hb),λhb=>VJ.bind_sat (h.2 hb)⟩
 | .may p t t',h=>⟨λhb=>VJ.bind_sat (h.1 hb),VJ.bind_sat h.2⟩
def Qd7(N:List (Pl×Nat×TypeId×Nat))(ET EF:St)(x:AV×GW×Nat×List (List AV)):VJ Bool:=match x.1 with
 | .lit true=> .needT (BA (FU N {σ:=[],m:=x.2.1,nx:=x.2.2.1,sv:=x.2.2.2}) ET) (.leaf true)
 | .lit false=> .needT (BA (FU N {σ:=[],m:=x.2.1,nx:=x.2.2.1,sv:=x.2.2.2}) EF) (.leaf false)
 |_=> .fail
def inlT(P:Program)(G:List (Nat×Spec))(X:Ext)(L:List UF)(fn:Func)(c:Code)(avs:List AV)(m:GW)(nx:Nat)(sv:List (List AV))(N:List (Pl×Nat×TypeId×Nat))(ET EF:St):VJ Bool:=
 (D1 P G X L c 0 {HK fn avs with m:=m,nx:=nx,sv:=sv}).bind λp=>match p.1 with
  | .exit _=> .fail
  |_=>match BL P p.2 fn.results.toList with
   |some r=>Qd7 N ET EF (r,p.2.m,p.2.nx,p.2.sv)
   |none=> .fail
theorem yQ{P:Program}{fn:Func}{R:Ending->World->Prop}{M:Nat->Prop}{w0:World}{e:UJ}{s:St}{tmps:Array Value}{n:Nat}{J:World->Prop}(hB: ∀D,M D->w0.heap.size<=D)
  (hJ: ∀w D,M D->w.heap[D]? =some (.deferred (some []))->J w->J (w.putObj D (.deferred none)))
  (fin: ∀w',UX e w0.heap.size w'->Below w0.heap.size w0 w'->US e s.m w'->VZ e w' s.σ tmps.toList->J w'-> ∃v,(results fn tmps).run P w'= .ok v w'/\R (.returned v) w'):
  ∀(ds:List Deferred) (w:World),SI M e w ds->UX e w0.heap.size w->Below w0.heap.size w0 w->US e s.m w->VZ e w s.σ tmps.toList->J w->LeavesInM (fr none) n P fn tmps R ds .returning w
 |[],w,_,hE,hb,hm,hs,hj=>fin w hE hb hm hs hj
 |d::ds,w,hd,hE,hb,hm,hs,hj=>by
  obtain ⟨D,h1,h2,h3,h4,h5⟩:=hd.1 d GB;refine ⟨VS,.inl ⟨D,_,by rw [h1],run_takeDeferred h4,?_⟩⟩
  have H2:=(hE.apart D h2).1;have hsz:(w.putObj D (.deferred none)).heap.size=w.heap.size:=World.putObj_size;refine yQ hB hJ fin ds _ ⟨λd' hd'=>?_,(List.nodup_cons.1 hd.2).2⟩ ⟨λb hb=>by rw [hsz];exact hE.apart b hb,λb k hk=>by rw [hsz];exact hE.owned b k hk,aA hE.glob h4 rfl⟩ ?_ (λp A=>(hm p A).putObj h4 (λ_ _ h=>by cases h) rfl rfl H2) (hs.sameCells hsz (B6 h4 rfl rfl) (qG h4 (λ_ _ h=>by cases h))) (hJ _ _ h5 h4 hj)
  obtain ⟨D',k1,k2,k3,k4,k5⟩:=hd.1 d' (HM _ hd');have hne:D'≠D:=by
   rintro rfl;exact (List.nodup_cons.1 hd.2).1 (by rw [h1,←k1];exact hd')
  exact ⟨D',k1,k2,by rw [hsz];exact k3,(Bu hne).trans k4,k5⟩
  exact hb.trans ((Below.refl w0.heap.size w).grown (grownBy_putObj' w D _) (by have:=hb.size;have:=hB D h5;omega) (λk he=>by cases he;exact hB D h5))
def Xa3(P:Program)(f:FuncId)(avs:List AV)(m:GW)(nx:Nat)(sv:List (List AV))(ET EF:St)(b:Bool):Prop:=
 ∀(c:Cx) (w0:World) (T:Nat->Prop) (e:UJ) (args:List Value) (w:World),
 UX e w0.heap.size w->Below w0.heap.size w0 w->US e m w->(∀k,e.live k->k<nx)->(∀b,T b->b<w0.heap.size/\ ¬e.ro b)->Xt c e sv [] w->c.sz=w.heap.size->VZ e w avs args->
  Calls P f args.toArray w λen w'=>en= .returned (.bool b)/\ ∃e',UX e' w0.heap.size w'/\Below w0.heap.size w0 w'/\US e' (cond b ET EF).m w'/\(∀k,e'.live k->k<(cond b ET EF).nx)/\
   (∀b,T b->b<w0.heap.size/\ ¬e'.ro b)/\Xt c e' (cond b ET EF).sv [] w'
theorem Qo3{P:Program}{G:List (Nat×Spec)}{X:Ext}{L:List UF}{f:FuncId}{fn:Func}{c:Code}(hG:VH P G)(hX: ∀cx,VT P X cx)(GN:P.follows .mixedOrders=true)(hf:P.funcs[f]? =some fn)(hb:fn.body=some c)
  (hL: ∀j cj,VP c j=some cj-> ∀sp,L[j]? =some sp->HN P cj sp){avs:List AV}{m:GW}{nx:Nat}{sv:List (List AV)}{N:List (Pl×Nat×TypeId×Nat)}{ET EF:St}{b:Bool}{t:VJ Bool}
  (hT:okB ET=true)(hF:okB EF=true)(gT:ET.gh=none)(gF:EF.gh=none)(ht:inlT P G X L fn c avs m nx sv N ET EF=t)(FF:t.sat λr=>r=b):Xa3 P f avs m nx sv ET EF b:=by
 subst ht;intro cx w0 T e args w hE hB hm hl LL hxt hsz Z
 let cx':Cx:={M:=λD=>w.heap.size<=D,Φ:=λg T' w'=>g=none/\T'=T/\w'=w0,K:=cx.K,saved:=cx.saved,sz:=w.heap.size}
 have Zl8:cx'.fun:=λ_ _ _ D _ _ h=>h;have yE:Rel cx' {HK fn avs with m:=m,nx:=nx,sv:=sv} {tmps:=args.toArray++Array.replicate (fn.ntmps-args.toArray.size) undef,defers:=[] } w:=by
  refine ⟨w0,T,e,⟨rfl,rfl,rfl⟩,hE,hB,hm,hl,LL,⟨⟨(λd hd=>by cases hd),By⟩,hxt.kept,hxt.saved,Am _⟩,?_⟩
  have EY:VZ e w (List.replicate (fn.ntmps-avs.length) .top) (List.replicate (fn.ntmps-avs.length) undef):=by
   refine ⟨VS,λi a v ha _=>?_⟩;have:=DY ha;rw [List.mem_replicate] at this;rw [this.2];exact .top v
  have:=Z.append EY;simpa [HK,Z.1] using this
 have hb2:=VJ.sat_bind FF;refine callsIn_wide (n:=0).1 (callsIn_of_wp_marks (F:=fr none) hf hb trivial (wpIn_mono (D3 hG (hX cx') GN c 0 _ _ _ w (λj cj hj sp hsp=>hL j cj hj sp (by simpa using hsp) cx' Zl8) hb2 yE) ?_) rfl)
 rintro ex a' w' ⟨x,s',rfl,hs,w0',T',e',⟨hgh',rfl,rfl⟩,re⟩
 let J:World->Prop:=λw2=>w.heap.size<=w2.heap.size/\Xt {cx' with sz:=0} e' s'.sv [] w2
 have hJ: ∀w2 D,w.heap.size<=D->w2.heap[D]? =some (.deferred (some []))->J w2->J (w2.putObj D (.deferred none)):=by
  rintro w2 D hD h4 ⟨j0,j1,j2,j3,j4⟩;have rZ:(w2.putObj D (.deferred none)).heap.size=w2.heap.size:=World.putObj_size;refine ⟨by rw [rZ];exact j0,⟨⟨λd hd=>(by cases hd),By⟩,λb o hk=>?_,⟨j3.1,λi a v ha hv=>(j3.2 i a v ha hv).sameCells rZ (B6 h4 rfl rfl) (qG h4 (λ_ _ h=>by cases h))⟩,Ao _⟩⟩
  obtain ⟨k1,k2,k3⟩:=j2 b o hk;have hlt:=(hxt.kept b o hk).2.1;exact ⟨k1,by rw [rZ];exact k2,(Bu VG).trans k3⟩
 have hJ0:J w':=⟨re.xt.size,⟨⟨λd hd=>(by cases hd),By⟩,re.xt.kept,re.xt.saved,Ao _⟩⟩
 have main:(match x with| .exit _=>False|_=> ∃r,BL P s' fn.results.toList=some r/\(Qd7 N ET EF (r,s'.m,s'.nx,s'.sv)).sat λr=>r=b):=by
  cases x with
  |exit i=>exact hs.elim
  |normal=>
   simp only at hs ⊢;split at hs;rename_i r hr';exact ⟨r,hr',hs⟩;exact hs.elim
  |ret=>
   simp only at hs ⊢;split at hs;rename_i r hr';exact ⟨r,hr',hs⟩;exact hs.elim
 have yG:(∃r,BL P s' fn.results.toList=some r/\(Qd7 N ET EF (r,s'.m,s'.nx,s'.sv)).sat λr=>r=b)->LeavesInM (fr none) 0 P fn a'.tmps (λen w'=>en= .returned (.bool b)/\ ∃e',UX e' w0'.heap.size w'/\Below w0'.heap.size w0' w'/\US e' (cond b ET EF).m w'/\(∀k,e'.live k->k<(cond b ET EF).nx)/\
   (∀b,T' b->b<w0'.heap.size/\ ¬e'.ro b)/\Xt cx e' (cond b ET EF).sv [] w') a'.defers .returning w':=by
  rintro ⟨r,DX,hq⟩;refine yQ (M:=cx'.M) (s:=s') (J:=J) (λD hD=>Ar hB.size hD) hJ (λw2 q1 q2 q3 q4 q5=>?_) a'.defers w' re.xt.defers re.env re.below re.mem re.slots hJ0;obtain ⟨u,hu,GF⟩:=DE (P:=P) q3 q4 DX
  let c2:Cx:={M:=cx.M,Φ:=λg T'' w''=>g=none/\T''=T'/\w''=w0',K:=cx.K,saved:=cx.saved,sz:=cx.sz}
  have Je2:Rel c2 {σ:=[],m:=s'.m,nx:=s'.nx,sv:=s'.sv} {tmps:=#[],defers:=[] } w2:=
   ⟨w0',T',e',⟨rfl,rfl,rfl⟩,q1,q2,q3,re.live,re.foe,⟨⟨λd hd=>(by cases hd),By⟩,q5.2.kept,q5.2.saved,by show cx.sz<=_;rw [hsz];exact q5.1⟩,VZ.nil _ _⟩
  have hn:=D7 (l:=N) Je2;have fin: ∀E:St,Rel c2 E {tmps:=#[],defers:=[] } w2-> ∃e',UX e' w0'.heap.size w2/\Below w0'.heap.size w0' w2/\US e' E.m w2/\(∀k,e'.live k->k<E.nx)/\(∀b,T' b->b<w0'.heap.size/\ ¬e'.ro b)/\Xt cx e' E.sv [] w2:=by
   rintro E ⟨w0'',T'',e2,⟨_,rfl,rfl⟩,r⟩;exact ⟨e2,r.env,r.below,r.mem,r.live,r.foe,⟨r.xt.defers,r.xt.kept,r.xt.saved,r.xt.size⟩⟩
  refine ⟨u,hu,?_⟩;unfold Qd7 at hq;split at hq;rename_i h1;simp only at h1;subst h1;obtain ⟨q1,q2⟩:=VJ.sat_needT hq;have q2:true=b:=q2;subst q2;exact ⟨by rw [GF.lit_inv],fin ET (FQ (GA q1) hT hn)⟩
  rename_i h1;simp only at h1;subst h1;obtain ⟨q1,q2⟩:=VJ.sat_needT hq;have q2:false=b:=q2;subst q2;exact ⟨by rw [GF.lit_inv],fin EF (FQ (GA q1) hF hn)⟩
  exact hq.elim
 cases x with
 |normal=>exact yG main
 |ret=>exact yG main
 |exit i=>exact main.elim
def Xs3(N:List (Pl×Nat×TypeId×Nat))(h:HY):HY:=λavs m nx sv=>
 h (FU N {σ:=avs,m:=m,nx:=nx,sv:=sv}).σ (FU N {σ:=avs,m:=m,nx:=nx,sv:=sv}).m (FU N {σ:=avs,m:=m,nx:=nx,sv:=sv}).nx (FU N {σ:=avs,m:=m,nx:=nx,sv:=sv}).sv
theorem eF{P:Program}{f:FuncId}{N:List (Pl×Nat×TypeId×Nat)}{h:HY}(hs:G8 P f h):G8 P f (Xs3 N h):=by
 refine ⟨hs.1,?_⟩;intro avs m nx sv t ht Q hQ c w0 T e ds args w hE hB hm hl LL hxt Z
 let c':Cx:={M:=c.M,Φ:=λg T' w'=>g=none/\T'=T/\w'=w0,K:=c.K,saved:=c.saved,sz:=c.sz}
 have yE:Rel c' {σ:=avs,m:=m,nx:=nx,sv:=sv} {tmps:=args.toArray,defers:=ds} w:=
  ⟨w0,T,e,⟨rfl,rfl,rfl⟩,hE,hB,hm,hl,LL,⟨hxt.defers,hxt.kept,hxt.saved,hxt.size⟩,by simpa using Z⟩
 obtain ⟨w0',T',e2,⟨_,rfl,rfl⟩,r⟩:=D7 (l:=N) yE;exact hs.2 _ _ _ _ _ ht Q hQ c w0' T' e2 ds args w r.env r.below r.mem r.live r.foe ⟨r.xt.defers,r.xt.kept,r.xt.saved,r.xt.size⟩ (by simpa using r.slots)
def Zh6(D:TypeId):Value->Option Int
 | .iface T v=>match Nat.beq T D with
  |true=>match v with
   | .agg a=>match a.toList with
    |[.int .i64 k]=>some k
    |_=>none
   |_=>none
  |false=>none
 |_=>none
theorem Qm5{D:TypeId}{v:Value}{k:Int}(h:Zh6 D v=some k):v= .iface D (.agg #[.int .i64 k]):=by
 unfold Zh6 at h;split at h;split at h;rename_i hb;cases GU hb;split at h;rename_i a;split at h;rename_i k0 ha;cases h;have:a=#[Value.int .i64 k]:=Array.toList_inj.1 ha;rw [this];cases h;cases h;cases h;cases h
def Xj7(D:TypeId)(r:Bool×Int):Ending:=match r.1 with
 |true=> .returned (.tuple #[])
 |false=> .panicked [{v:= .iface D (.agg #[.int .i64 r.2]),recovered:=false}]
def dP(a b:AV):Prop:=match a,b with
 | .lst sz n f,.lst sz' n' f'=>sz=sz'/\n=n'/\ ∀i,i<n'->B1 (f i) (f' i)/\ ∀x∈f' i,Idf x
 |a,b=>DV a b
def H5:List AV->List AV->Prop
 |[],[]=>True
 |a::l,b::m=>dP a b/\H5 l m
 |_,_=>False
theorem eM{e:UJ}{w:World}{a b:AV}{v:Value}(h:dP a b)(r:Rep e w a v):Rep e w b v:=by
 unfold dP at h;split at h;rename_i sz n f sz' n' f';obtain ⟨rfl,rfl,h⟩:=h;cases r with
 |lstNil=>exact .lstNil _ _
 |lst _ _ _ b o cap g h1 h2 h3 h4 h5 h6 h7 h8 ad had=>
  have key: ∀i,i<n->VZ e w (f' i) ((List.range sz).map (g i)):=by
   intro i O;refine kS (h i O).1 ⟨by rw [h7 i O];simp,λj a v ha hv=>?_⟩
   have hj:j<sz:=by
    have:=(FP.1 ha).1
    rwa [h7 i O] at this
   rw [Bn,List.getElem?_range hj] at hv;simp only [Bt,HA] at hv;rw [←hv];exact h8 i j a O ha
  refine .lst sz n f' b o cap g h1 h2 (λi O=>(h i O).2) h4 h5 h6 (λi O=>by have:=(key i O).1;simpa using this) (λi j a O ha=>?_) ad had
  have hj:j<sz:=by
   have h9:=(key i O).1;have:=(FP.1 ha).1;simp at h9;omega
  exact (key i O).2 j a (g i j) ha (by rw [Bn,List.getElem?_range hj];rfl)
 exact LN h r
theorem dO{e:UJ}{w:World}: ∀{l m:List AV} {vs:List Value},H5 l m->VZ e w l vs->VZ e w m vs
 |[],[],_,_,r=>r
 |a::l,b::m,vs,h,r=>by
  obtain ⟨v,vs',rfl,r1,r2⟩:=r.cons_inv;exact .cons (eM h.1 r1) (dO h.2 r2)
 |[],_::_,_,h,_=>h.elim
 |_::_,[],_,h,_=>h.elim
def Qr1(m:GW):GW->List Prop
 |[]=>[]
 |(id,r)::t=>match r with
  | .cells T l=>match D8 m id with
   |some (.cells T' l')=>match Nat.beq T' T with
    |true=>H5 l' l::Qr1 m t
    |false=>[False]
   |_=>[False]
  | .row T sz n f=>match D8 m id with
   |some (.row T' sz' n' f')=>((T',sz',n',f')=(T,sz,n,f))::Qr1 m t
   |_=>[False]
  |_=>[False]
theorem aG{e:UJ}{w:World}{m:GW}(hm:US e m w): ∀{m':GW},(∀p∈Qr1 m m',p)->US e m' w
 |[],_,p,A=>by cases A
 |(id,r)::t,h,p,A=>by
  unfold Qr1 at h;split at h;rename_i T l;split at h;rename_i T' l' hg;split at h;rename_i hT;rcases GK.1 A with rfl|A;have h1:T'=T:=GU hT;have h2:H5 l' l:=h _ GB;subst h1;obtain ⟨g1,g2,vs,g3,g4⟩:=hm _ (UW hg);exact ⟨g1,g2,vs,g3,dO h2 g4⟩;exact aG hm (m':=t) (λq hq=>h q (HM _ hq)) p A;exact (h False GB).elim;exact (h False GB).elim;rename_i T sz n f;split at h;rename_i T' sz' n' f' hg;rcases GK.1 A with rfl|A;have h2:(T',sz',n',f')=(T,sz,n,f):=h _ GB;cases h2;exact hm _ (UW hg);exact aG hm (m':=t) (λq hq=>h q (HM _ hq)) p A;exact (h False GB).elim;exact (h False GB).elim
def Wq5(s E:St):List Prop:=match Nat.ble s.nx E.nx with
 |true=>(s.sv=E.sv)::Qr1 s.m E.m
 |false=>[False]
theorem Xj0{s E:St}(h: ∀p∈Wq5 s E,p):s.nx<=E.nx/\s.sv=E.sv/\ ∀p∈Qr1 s.m E.m,p:=by
 unfold Wq5 at h;split at h;rename_i hb;exact ⟨qM hb,h _ GB,λp A=>h p (HM _ A)⟩;exact (h False GB).elim
def Qd8(D:TypeId)(N:List (Pl×Nat×TypeId×Nat))(ET EF:St)(x:Wy7×GW×Nat×List (List AV)):VJ (Bool×Int):=match x.1 with
 | .ret (.tup [])=> .needT (Wq5 (FU N {σ:=[],m:=x.2.1,nx:=x.2.2.1,sv:=x.2.2.2}) ET) (.leaf (true,0))
 | .pan v=>match Zh6 D v with
  |some k=> .needT (Wq5 {σ:=[],m:=x.2.1,nx:=x.2.2.1,sv:=x.2.2.2} EF) (.leaf (false,k))
  |none=> .fail
 |_=> .fail
def Jd3(P:Program)(G:List (Nat×Spec))(X:Ext)(PX:List (Nat×DU))(L:List PF)(fn:Func)(c:Code)(avs:List AV)(m:GW)(nx:Nat)(sv:List (List AV))(D:TypeId)(N:List (Pl×Nat×TypeId×Nat))(ET EF:St):VJ (Bool×Int):=
 (P0 P G X PX L c 0 {HK fn avs with m:=m,nx:=nx,sv:=sv}).bind λp=>match p.1 with
  | .pan v=>Qd8 D N ET EF (.pan v,p.2.m,p.2.nx,p.2.sv)
  | .x (.exit _)=> .fail
  |_=>match BL P p.2 fn.results.toList with
   |some r=>Qd8 D N ET EF (.ret r,p.2.m,p.2.nx,p.2.sv)
   |none=> .fail
def wF(P:Program)(f:FuncId)(avs:List AV)(m:GW)(nx:Nat)(sv:List (List AV))(D:TypeId)(ET EF:St)(res:Bool×Int):Prop:=
 ∀(c:Cx) (w0:World) (T:Nat->Prop) (e:UJ) (ds:List Deferred) (args:List Value) (w:World),
 UX e w0.heap.size w->Below w0.heap.size w0 w->US e m w->(∀k,e.live k->k<nx)->(∀b,T b->b<w0.heap.size/\ ¬e.ro b)->Xt c e sv ds w->VZ e w avs args->
  Calls P f args.toArray w λen w'=>en=Xj7 D res/\ ∃e',UX e' w0.heap.size w'/\Below w0.heap.size w0 w'/\US e' (cond res.1 ET EF).m w'/\(∀k,e'.live k->k<(cond res.1 ET EF).nx)/\
   (∀b,T b->b<w0.heap.size/\ ¬e'.ro b)/\Xt c e' (cond res.1 ET EF).sv ds w'
theorem Zh7{P:Program}{f:FuncId}{h:DU}(hs:D2 P f h){avs:List AV}{m:GW}{nx:Nat}{sv:List (List AV)}{t:VJ (Wy7×GW×Nat×List (List AV))}{D:TypeId}{N:List (Pl×Nat×TypeId×Nat)}{ET EF:St}{res:Bool×Int}(ht:h avs m nx sv=some t)
  (FF:t.sat λx=>(Qd8 D N ET EF x).sat λr=>r=res):wF P f avs m nx sv D ET EF res:=by
 intro c w0 T e ds args w hE hB hm hl LL hxt Z;refine (hs.2 _ _ _ _ _ ht _ FF c w0 T e ds args w hE hB hm hl LL hxt Z).mono ?_;rintro en w' ⟨r,m',nx',sv',e',hpe,hq,g1,g2,g3,g4,g5,g6⟩
 let c':Cx:={M:=c.M,Φ:=λg T' w'=>g=none/\T'=T/\w'=w0,K:=c.K,saved:=c.saved,sz:=c.sz}
 have yE:Rel c' {σ:=[],m:=m',nx:=nx',sv:=sv'} {tmps:=#[],defers:=ds} w':=
  ⟨w0,T,e',⟨rfl,rfl,rfl⟩,g1,g2,g3,g4,g5,⟨g6.defers,g6.kept,g6.saved,g6.size⟩,VZ.nil _ _⟩
 have fin: ∀S E:St,Rel c' S {tmps:=#[],defers:=ds} w'->(∀p∈Wq5 S E,p)-> ∃e',UX e' w0.heap.size w'/\Below w0.heap.size w0 w'/\US e' E.m w'/\(∀k,e'.live k->k<E.nx)/\(∀b,T b->b<w0.heap.size/\ ¬e'.ro b)/\Xt c e' E.sv ds w':=by
  rintro S E ⟨w0',T',e2,⟨_,rfl,rfl⟩,r⟩ hf;obtain ⟨h1,h2,h3⟩:=Xj0 hf;refine ⟨e2,r.env,r.below,aG r.mem h3,λk hk=>xS (r.live k hk) h1,r.foe,⟨r.xt.defers,r.xt.kept,?_,r.xt.size⟩⟩;rw [←h2];exact r.xt.saved
 unfold Qd8 at hq;split at hq;rename_i h1;simp only at h1;subst h1;obtain ⟨v,rfl,rv⟩:=hpe;obtain ⟨q1,q2⟩:=VJ.sat_needT hq;have q2:(true,0)=res:=q2;subst q2;obtain ⟨us,rfl,hus⟩:=rv.tup_inv;obtain rfl:=hus.nil_inv;exact ⟨rfl,fin _ ET (D7 (l:=N) yE) (GA q1)⟩;rename_i v h1;simp only at h1;subst h1;split at hq;rename_i k hk;obtain ⟨q1,q2⟩:=VJ.sat_needT hq;have q2:(false,k)=res:=q2;subst q2;have hpe:en= .panicked [{v:=v,recovered:=false}]:=hpe;rw [hpe,Qm5 hk];exact ⟨rfl,fin _ EF yE (GA q1)⟩;exact hq.elim;exact hq.elim
theorem LE{P:Program}{G:List (Nat×Spec)}{X:Ext}{PX:List (Nat×DU)}{L:List PF}{f:FuncId}{fn:Func}{c:Code}(hG:VH P G)(hX: ∀cx,VT P X cx)(hP:UQ P PX)(GN:P.follows .mixedOrders=true)(P9:Enters P f)(hf:P.funcs[f]? =some fn)(hb:fn.body=some c)
  (hL: ∀j cj,VP c j=some cj-> ∀sp,L[j]? =some sp-> ∀ro cx,LT P ro cx cj sp){avs:List AV}{m:GW}{nx:Nat}{sv:List (List AV)}{D:TypeId}{N:List (Pl×Nat×TypeId×Nat)}{ET EF:St}{res:Bool×Int}{t:VJ (Bool×Int)}
  (ht:Jd3 P G X PX L fn c avs m nx sv D N ET EF=t)(FF:t.sat λr=>r=res):wF P f avs m nx sv D ET EF res:=by
 subst ht;refine Zh7 (FN hG hX hP GN P9 hf hb hL) (h:=rW P G X PX L fn c) (N:=N) rfl (VJ.bind_sat (VJ.sat_mono ?_ (VJ.sat_bind FF)));rintro ⟨x,s⟩ h;cases x with
 |pan v=>exact h
 |x y=>
  cases y with
  |exit i=>exact h.elim
  |normal=>
   simp only at h ⊢;split at h;rename_i r Z;first|exact h|(rw [Z];exact h)|(simp only [Z];exact h)
   exact h.elim
  |ret=>
   simp only at h ⊢;split at h;rename_i r Z;first|exact h|(rw [Z];exact h)|(simp only [Z];exact h)
   exact h.elim
def Wk7(P:Program)(ev:Code->Nat->St->CT)(fn:Func)(c:Code):HY:=λavs m nx sv=>
 some ((ev c 0 {HK fn avs with m:=m,nx:=nx,sv:=sv}).bind λp=>match p.1 with
  | .exit _=> .fail
  |_=>match BL P p.2 fn.results.toList with
   |some r=> .leaf (r,p.2.m,p.2.nx,p.2.sv)
   |none=> .fail)
theorem pG{P:Program}{ev:Code->Nat->St->CT}{L:List UF}{f:FuncId}{fn:Func}{c:Code}(hev: ∀cx,tN P cx L ev)(P9:Enters P f)(hf:P.funcs[f]? =some fn)(hb:fn.body=some c)
  (hL: ∀j cj,VP c j=some cj-> ∀sp,L[j]? =some sp->G5 P cj sp):G8 P f (Wk7 P ev fn c):=by
 refine ⟨P9,?_⟩;intro avs m nx sv t ht Q hQ cx w0 T e ds args w hE hB hm hl LL hxt Z;unfold Wk7 at ht;cases ht
 let K':Nat->Obj->Prop:=λb o=>cx.K b o\/(∃d∈ds,d={target:= .collected b,args:=#[] }/\o= .deferred (some []))
 let cx':Cx:={M:=λ_=>False,Φ:=λg T' w'=>g=none/\T'=T/\w'=w0,K:=K',saved:=cx.saved,sz:=cx.sz}
 have FF:(ev c 0 {HK fn avs with m:=m,nx:=nx,sv:=sv}).sat (λp=>(∀i,p.1≠ .exit i)/\p.2.gh=p.2.gh/\ ∃r,BL P p.2 fn.results.toList=some r/\Q (r,p.2.m,p.2.nx,p.2.sv)):=by
  refine VJ.sat_mono ?_ (VJ.sat_bind hQ);rintro ⟨x,s⟩ hs;cases x with
  |exit i=>exact hs.elim
  |normal=>
   simp only at hs;split at hs;rename_i r Z;exact ⟨λi h=>(by cases h),rfl,r,Z,hs⟩
   exact hs.elim
  |ret=>
   simp only at hs;split at hs;rename_i r Z;exact ⟨λi h=>(by cases h),rfl,r,Z,hs⟩
   exact hs.elim
 have yE:Rel cx' {HK fn avs with m:=m,nx:=nx,sv:=sv} {tmps:=args.toArray++Array.replicate (fn.ntmps-args.toArray.size) undef,defers:=[] } w:=by
  refine ⟨w0,T,e,⟨rfl,rfl,rfl⟩,hE,hB,hm,hl,LL,⟨⟨(λd hd=>by cases hd),By⟩,?_,hxt.saved,hxt.size⟩,?_⟩
  rintro b o (hk|⟨d,hd,h1,rfl⟩);exact hxt.kept b o hk;obtain ⟨D,g1,g2,g3,g4,g5⟩:=hxt.defers.1 d hd;rw [h1] at g1;injection g1 with g1 _
  injection g1 with g1
  subst g1;exact ⟨g2,g3,g4⟩;have EY:VZ e w (List.replicate (fn.ntmps-avs.length) .top) (List.replicate (fn.ntmps-avs.length) undef):=by
   refine ⟨VS,λi a v ha _=>?_⟩;have:=DY ha;rw [List.mem_replicate] at this;rw [this.2];exact .top v
  have:=Z.append EY;simpa [HK,Z.1] using this
 refine callsIn_wide (n:=0).1 (callsIn_of_wp_marks (F:=fr none) hf hb trivial (wpIn_mono (hev cx' none 0 c 0 _ _ _ w (λj cj hj sp hsp=>hL j cj hj sp (by simpa using hsp) none cx') FF yE) ?_) rfl)
 rintro ex a' w' ⟨x,s',rfl,⟨hx,_,r,DX,hq⟩,w0',T',e',⟨_,rfl,rfl⟩,re⟩;have Qp3:a'.defers=[]:=by
  cases hd:a'.defers with
  |nil=>rfl
  |cons d l=>
   obtain ⟨D,_,_,_,_,g5⟩:=re.xt.defers.1 d (by rw [hd];exact GB)
   exact g5.elim
 obtain ⟨u,hu,GF⟩:=DE (P:=P) re.mem re.slots DX;have yG:LeavesInM (fr none) 0 P fn a'.tmps (λen w'=> ∃v r m' nx' sv' e',en= .returned v/\Q (r,m',nx',sv')/\UX e' w0'.heap.size w'/\Below w0'.heap.size w0' w'/\US e' m' w'/\(∀k,e'.live k->k<nx')/\
   (∀b,T' b->b<w0'.heap.size/\ ¬e'.ro b)/\Xt cx e' sv' ds w'/\Rep e' w' r v) a'.defers .returning w':=by
  rw [Qp3];refine ⟨u,hu,u,r,s'.m,s'.nx,s'.sv,e',rfl,hq,re.env,re.below,re.mem,re.live,re.foe,⟨⟨λd hd=>?_,hxt.defers.2⟩,λb o hk=>re.xt.kept b o (.inl hk),re.xt.saved,re.xt.size⟩,GF⟩;obtain ⟨D,g1,g2,g3,g4,g5⟩:=hxt.defers.1 d hd;obtain ⟨k1,k2,k3⟩:=re.xt.kept D (.deferred (some [])) (.inr ⟨d,hd,g1,rfl⟩);exact ⟨D,g1,k1,k2,k3,g5⟩
 cases x with
 |normal=>exact yG
 |ret=>exact yG
 |exit i=>exact (hx i rfl).elim
def cOf(h:HY)(avs:List AV):VJ AV:=match h avs [] 0 [] with
 |some t=>t.bind λx=> .leaf (D4 x.2.1 40 x.1)
 |none=> .fail
theorem SP{P:Program}{f:FuncId}{h:HY}(hs:G8 P f h){avs:List AV}{sp t:VJ AV}(ht:cOf h avs=t)(yG: ∀Q:AV->Prop,sp.sat Q->t.sat (λr=> ∃r',dP r r'/\Q r')):UH P f avs sp:=by
 intro Q hQ e w args hro hgl FK Z
 let T:Nat->Prop:=λb=>b<w.heap.size/\ ¬e.ro b
 let e0:UJ:={ro:=e.ro,own:=λ_=>none,live:=λ_=>False,blk:=λ_=>0,val:=λ_=> .nilIface}
 have hr0:VZ e0 w avs args:=⟨Z.1,λi a v ha hv=>Rep.idf (e:=e) (e':=e0) (λ_ h=>h) (Z.2 i a v ha hv) (FK a (DY ha))⟩;have FF:=yG Q hQ;subst ht;unfold cOf at FF;split at FF;rename_i t0 hh;refine (hs.2 avs [] 0 [] t0 hh _ (VJ.sat_bind FF) (lC w T) w T e0 [] args w ⟨λb hb=>⟨rfl,hro b hb⟩,(λb k hk=>by cases hk),hgl⟩ (Below.refl _ _) (λp A=>by cases A) (λk hk=>False.elim hk) (λb h=>h) ⟨⟨(λd hd=>by cases hd),By⟩,(λb o h=>h.elim),⟨rfl,(λi a v h=>by cases h)⟩,Ao _⟩ hr0).mono ?_
 rintro en w' ⟨v,r,m',nx',sv',e',rfl,⟨r',kA,hq⟩,g1,g2,g3,g4,g5,g6,g7⟩;refine ⟨v,r',rfl,hq,g2,?_⟩;refine eM kA (Rep.idf (e:=e'.view) ?_ (L5 g1 g3 40 r v g7) (RG g3 40 r v g7));rintro b (hb|⟨k,hb⟩);rcases An b w.heap.size with h1|h1;refine .inl ?_;rcases Classical.em (e.ro b) with h2|h2;exact h2;exact ((g5 b ⟨h1,h2⟩).2 hb).elim;exact .inr ⟨h1,(g1.apart b hb).2⟩;exact .inr ⟨(g1.owned b k hb).1,(g1.owned b k hb).2⟩;exact FF.elim
end Go.Sx
namespace Go.Sx
open Go Go.RowKit
abbrev upE(l:List (Nat×AV))(m:GW)(E:St):St:={σ:=H0 l E.σ,m:=m,nx:=E.nx}
abbrev upM(l:List (Nat×AV))(E:St):St:={σ:=H0 l E.σ,m:=E.m,nx:=E.nx}
section
variable {P:Program}{f:FuncId}{fn:Func}
theorem UC(h:P.funcs[f]? =some fn)(h1:(fn.name== "runtime.NumGoroutine")=false:=by kernel_rfl)(h2:fn.body.isNone=false:=by kernel_rfl):Enters P f:=⟨fn,h,h1,h2⟩
abbrev UU:=Spec
theorem GS{avs:List AV}{res:AV}{t:VJ RV}(hf:P.funcs[f]? =some fn)(ht:pY P fn.results.toList (lG P [] [] (U5 fn) 0 (HK fn avs))=t)(h:t.sat (λr=>UZ r res))(hb:fn.body=some (U5 fn):=by kernel_rfl)(GN:P.follows .mixedOrders=true:=by kernel_rfl):VV P f avs res:=VY (VH.nil _) GN hf hb U0 ht h
end
abbrev GR{α:Type}(n:Nat)(f g:Nat->α):Prop:= ∀i,i<n->f i=g i
abbrev GM{α:Type}(n:Nat)(f:Nat->α):Prop:= ∀i,i<n->f i=f i
def bJ(n:Nat):List Int:=List.replicate n 0
abbrev RQ(n:Nat)(f:Nat->List AV):Prop:= ∀i,i<n-> ∀a,a∈f i->AV.one a=true
@[simp] abbrev UG (a b:Int):Prop:=0<=a/\a<b
theorem UR(f:Func)(h:f.body=some (U5 f):=by kernel_rfl):f.body=some (U5 f):=h
theorem DA{α:Type}{T t:VJ α}{Q:α->Prop}(e:T=t)(h:t.sat Q):T.sat Q:=e▸h
section
variable {p:Prop}
theorem yI(h:p:=by
 with_reducible repeat' first|apply Al|intro _
 all_goals first|exact Ak|exact h0|exact VO|omega|exact hQ1 _ (by assumption) (Wo3 VG (by simp_all))|(rename_i k hk;rcases (show k=0\/k=1\/k=2 by omega) with rfl|rfl|rfl<;>rfl)|rfl|with_reducible rfl|exact hQ2 _ (by assumption) (PG VG)|(rename_i h;exact absurd h (Aq _))|exact hQ1 _ (by assumption)|(exfalso;omega)|exact gK (by simp_all) _ (by assumption)|exact BT (gK (by simp_all) _ (by assumption))|contradiction|assumption|exact hQ2 _ (by assumption)|(simp;done)|decide|exact BT (gK (decide_eq_true VG) _ (by assumption))):p:=h
theorem P4(h:p:=by first|exact Ak|omega|with_reducible rfl|(rename_i E hE;cases hE;exact hQ)|rfl):p:=h
theorem YX(h:p:=by
 simp only [VJ.sat,U8,UZ,GH,UB,UE,FC];all_goals exact yI):p:=h
theorem YZ(h:p:=by
 rw [if_pos hc];obtain ⟨rfl,rfl⟩:=hc;by_cases h1:x=o;subst h1;by_cases h2:y=x;subst h2;refine ⟨VG,VG,λ_=>VG,λ_=>VG,λ_ _=>VG,λ_=>VG⟩;refine ⟨VG,VG,λ_=>by have:=hoo.2.2.2.2.1 rfl rfl;omega,λh=>absurd h h2,λ_ h=>absurd h h2,λ_=>VG⟩
 by_cases h2:y=o;subst h2;refine ⟨VG,VG,λh=>absurd h h1,λ_=>by have:=hoo.2.2.2.2.1 rfl rfl;omega,λh=>absurd h h1,λ_=>VG⟩
 have q1:=hfo.2.2.2.1 rfl;have q2:=hot.2.2.1 rfl;refine ⟨VG,VG,λh=>absurd h h1,λh=>absurd h h2,λh=>absurd h h1,λ_=>VG⟩):p:=h
theorem V3(h:p:=by exact yI):p:=h
theorem V7(h:p:=by
 exact .lst _ _ _ λj hj x hx=>by
  simp only [GK,DP,or_false] at hx;rcases hx with rfl|rfl<;>exact .x _):p:=h
theorem V8(h:p:=by
 simp only [VJ.sat,U8,UZ,UB,UE,H6];simp+contextual):p:=h
theorem V9(h:p:=by
 simp only [VJ.sat,U8,UZ,GH,UB,VI,UE];omega):p:=h
theorem VC(h:p:=by
 (with_reducible repeat' first|apply Al|intro _)
 all_goals first|exact P4|(rename_i j hj;rcases (show j<k\/j=k by omega) with h3|h3;exact hx.2 j h3;subst h3;omega)):p:=h
theorem VE(h:p:=by
 (with_reducible repeat' first|apply Al|intro _)
 all_goals first|exact P4|(rename_i hs;exact hs.elim (λh=>sn1 _ h) (λh=>h▸sn2))):p:=h
theorem VF(h:p:=by
 exact .lst _ _ _ λk _ x hx=>by
  simp only [GK,DP,or_false] at hx;rcases hx with rfl|rfl|rfl|rfl|rfl<;>exact .x _):p:=h
end
end Go.Sx
