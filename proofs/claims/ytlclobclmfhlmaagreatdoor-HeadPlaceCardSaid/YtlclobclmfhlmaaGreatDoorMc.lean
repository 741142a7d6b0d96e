/- Contracts, put together. Conditions: those of each. -/
import Derived.Test.YtlclobclmfhlmaaGreatDoorMb
set_option linter.unusedSimpArgs false
set_option linter.unusedVariables false
namespace Go.Sx
open Go Go.RowKit
def yU(i R:Nat):Nat->AV->AV
 | 0,a=>match a with
  | .lit b=> .lit b
  | .x v=> .x v
  | .ro l=> .ro l
  | .lst a b c=> .lst a b c
  | .roI a b c d=> .roI a b c d
  |_=> .top
 |d+1,a=>match a with
  | .row k=>match Nat.beq k i with
   |true=> .row R
   |false=>match Nat.beq k R with
    |true=> .top
    |false=> .row k
  | .ptr k o=>match Nat.beq k i with
   |true=> .ptr R o
   |false=>match Nat.beq k R with
    |true=> .top
    |false=> .ptr k o
  | .elt k x y z=>match Nat.beq k i||Nat.beq k R with
   |true=> .top
   |false=> .elt k x y z
  | .mp k=>match Nat.beq k i||Nat.beq k R with
   |true=> .top
   |false=> .mp k
  | .agg l=> .agg (l.map (yU i R d))
  | .tup l=> .tup (l.map (yU i R d))
  | .fn f l l'=> .fn f (l.map (yU i R d)) (l'.map (yU i R d))
  |a=>a
def UN.ren(e:UN)(i R:Nat):UN:=
 {ro:=e.ro,own:=λb=>match e.own b with|some k=>if k=i then some R else if k=R then none else some k|none=>none,
  live:=λk=>(k=R/\e.live i)\/(e.live k/\k≠i/\k≠R),blk:=λk=>if k=R then e.blk i else e.blk k,val:=λk=>if k=R then e.val i else e.val k}
theorem RC{k i:Nat}(h:Nat.beq k i=false):k≠i:=by
 rintro rfl;rw [Nat.beq_refl] at h;cases h
theorem EH{k i R:Nat}(h:(Nat.beq k i||Nat.beq k R)=false):k≠i/\k≠R:=by
 rw [Bool.or_eq_false_iff] at h;exact ⟨RC h.1,RC h.2⟩
theorem zR{e:UN}{w:World}{i R:Nat}: ∀(d:Nat) (a:AV) (v:Value),Rep e w a v->Rep (e.ren i R) w (yU i R d a) v
 | 0,a,v,r=>by
  cases r with
  |lit b=>exact .lit b
  |x v=>exact .x v
  |roI pre n f off b o Z=>exact Rep.idf (e:=e) (e':=e.ren i R) (λ_ h=>h) (.roI pre n f off b o Z) (j7 (Rep.roI pre n f off b o Z) rfl)
  |ro l vs b o h1 h2 h3 h4 h5 h6=>exact Rep.idf (e:=e) (e':=e.ren i R) (λ_ h=>h) (.ro l vs b o h1 h2 h3 h4 h5 h6) (.ro l h3)
  |lstNil sz f=>exact .lstNil sz f
  |lst sz n f b o cap g h1 h2 h3 h4 h5 h6 h7 h8 ad had=>exact Rep.idf (e:=e) (e':=e.ren i R) (λ_ h=>h) (.lst sz n f b o cap g h1 h2 h3 h4 h5 h6 h7 h8 ad had) (.lst sz n f h3)
  |_=>exact .top _
 |d+1,a,v,r=>by
  have ih:=zR (e:=e) (w:=w) (i:=i) (R:=R) d;cases r with
  |top v=>exact .top v
  |lit b=>exact .lit b
  |x v=>exact .x v
  |roI pre n f off b o Z=>exact Rep.idf (e:=e) (e':=e.ren i R) (λ_ h=>h) (.roI pre n f off b o Z) (j7 (Rep.roI pre n f off b o Z) rfl)
  |ptr id off hl=>
   simp only [yU];split
   ·rename_i hb;have:=H2 hb;subst this;have h:=Rep.ptr (e:=e.ren id R) (w:=w) R off (.inl ⟨rfl,hl⟩)
    rwa [show (e.ren id R).blk R=e.blk id by simp [UN.ren]] at h
   ·rename_i hb;split
    ·exact .top _
    ·rename_i hb2;have h:=Rep.ptr (e:=e.ren i R) (w:=w) id off (.inr ⟨hl,RC hb,RC hb2⟩)
     rwa [show (e.ren i R).blk id=e.blk id by simp [UN.ren,RC hb2]] at h
  |row id a n c hl hv=>
   simp only [yU];split
   ·rename_i hb;have:=H2 hb;subst this;exact .row R a n c (.inl ⟨rfl,hl⟩) (by simp [UN.ren,hv])
   ·rename_i hb;split
    ·exact .top _
    ·rename_i hb2;exact .row id a n c (.inr ⟨hl,RC hb,RC hb2⟩) (by simp [UN.ren,RC hb2,hv])
  |elt id sz x y b n cap hl hv=>
   simp only [yU];split
   ·exact .top _
   ·rename_i hb;exact .elt (e:=e.ren i R) id sz x y b n cap (.inr ⟨hl,EH hb⟩) (by simp [UN.ren,(EH hb).2,hv])
  |mp id hl=>
   simp only [yU];split
   ·exact .top _
   ·rename_i hb;have h:=Rep.mp (e:=e.ren i R) (w:=w) id (.inr ⟨hl,EH hb⟩)
    rwa [show (e.ren i R).blk id=e.blk id by simp [UN.ren,(EH hb).2]] at h
  |agg l vs h1 h2=>exact Rep.aggL (U5.map _ ih ⟨h1,h2⟩)
  |tup l vs h1 h2=>exact Rep.tupL (U5.map _ ih ⟨h1,h2⟩)
  |fn f l l' vs vs' h1 h2 h3 h4=>
   have k1:U5 e w l vs:=⟨h1,h2⟩;have k2:U5 e w l' vs':=⟨h3,h4⟩;exact .fn f _ _ vs vs' (U5.map _ ih k1).1 (U5.map _ ih k1).2 (U5.map _ ih k2).1 (U5.map _ ih k2).2
  |ro l vs b o h1 h2 h3 h4 h5 h6=>exact Rep.idf (e:=e) (e':=e.ren i R) (λ_ h=>h) (.ro l vs b o h1 h2 h3 h4 h5 h6) (.ro l h3)
  |mpr g okf vals b es c h1 h2 h3 h4 h5 h6 h7 h8=>exact Rep.idf (e:=e) (e':=e.ren i R) (λ_ h=>h) (.mpr g okf vals b es c h1 h2 h3 h4 h5 h6 h7 h8) (.mpr g okf h3)
  |any1 v hv=>exact .any1 v hv
  |lstNil sz f=>exact .lstNil sz f
  |lst sz n f b o cap g h1 h2 h3 h4 h5 h6 h7 h8 ad had=>exact Rep.idf (e:=e) (e':=e.ren i R) (λ_ h=>h) (.lst sz n f b o cap g h1 h2 h3 h4 h5 h6 h7 h8 ad had) (.lst sz n f h3)
def xM(i R:Nat):H5->H5
 |[]=>[]
 |(k,.row T sz n f)::t=>match Nat.beq k i with
  |true=>(R,.row T sz n f)::xM i R t
  |false=>match Nat.beq k R with
   |true=>xM i R t
   |false=>(k,.row T sz n f)::xM i R t
 |(k,.cells T l)::t=>match Nat.beq k i with
  |true=>(R,.cells T (l.map (yU i R 6)))::xM i R t
  |false=>match Nat.beq k R with
   |true=>xM i R t
   |false=>(k,.cells T (l.map (yU i R 6)))::xM i R t
 |(k,.ints T pre n f)::t=>match Nat.beq k i||Nat.beq k R with
  |true=>xM i R t
  |false=>(k,.ints T (pre.map (yU i R 6)) n f)::xM i R t
 |(k,.memo h f)::t=>match Nat.beq k i||Nat.beq k R with
  |true=>xM i R t
  |false=>(k,.memo h f)::xM i R t
 |(_,.aka _ _ _ _ _)::t=>xM i R t
 |(k,.keep T l)::t=>match Nat.beq k i||Nat.beq k R with
  |true=>xM i R t
  |false=>(k,.keep T (l.map (yU i R 6)))::xM i R t
theorem zY{e:UN}{w:World}{i R:Nat}: ∀{m:H5},UX e m w->UX (e.ren i R) (xM i R m) w
 |[],_=>λp A=>by cases A
 |(k,.row T sz n f)::t,h=>by
  have ih:=zY (i:=i) (R:=R) (m:=t) (λp A=>h p (HW _ A))
  obtain ⟨h1,h2,hf,xs,h3,h4⟩:=h _ GJ;have h4': ∀(i' j:Nat) (a:AV) (v:Value),i'<n->(f i')[j]? =some a->xs[i'*sz+j]? =some v->Rep (e.ren i R) w a v:=
   λi' j a v O ha hv=>Rep.idf (e:=e) (e':=e.ren i R) (λ_ h=>h) (h4 i' j a v O ha hv) ((hf i' O).2 a (F4 ha))
  unfold xM;split
  ·rename_i hb;have:=H2 hb;subst this;intro p A;rcases GQ.1 A with rfl|A
   ·refine ⟨.inl ⟨rfl,h1⟩,λb hb'=>?_,hf,xs,?_,h4'⟩
    ·simp only [UN.ren,if_true] at hb' ⊢;rw [h2 b hb'];simp
    ·simp only [UN.ren,if_true];exact h3
   ·exact ih p A
  ·rename_i hb;split
   ·exact ih
   ·rename_i hb2;intro p A;rcases GQ.1 A with rfl|A
    ·refine ⟨.inr ⟨h1,RC hb,RC hb2⟩,λb hb'=>?_,hf,xs,?_,h4'⟩
     ·simp only [UN.ren,RC hb2,if_false] at hb' ⊢;rw [h2 b hb'];simp [RC hb,RC hb2]
     ·simp only [UN.ren,RC hb2,if_false];exact h3
    ·exact ih p A
 |(k,.cells T l)::t,h=>by
  have ih:=zY (i:=i) (R:=R) (m:=t) (λp A=>h p (HW _ A))
  obtain ⟨h1,h2,vs,h3,h4⟩:=h _ GJ;unfold xM;split
  ·rename_i hb;have:=H2 hb;subst this;have eb:(e.ren k R).blk R=e.blk k:=by simp [UN.ren]
   intro p A;rcases GQ.1 A with rfl|A
   ·refine ⟨.inl ⟨rfl,h1⟩,?_,vs,by rw [eb];exact h3,U5.map _ (zR 6) h4⟩
    rw [eb];simp only [UN.ren];rw [h2];simp
   ·exact ih p A
  ·rename_i hb;split
   ·exact ih
   ·rename_i hb2;have n1:=RC hb;have n2:=RC hb2;have eb:(e.ren i R).blk k=e.blk k:=by simp [UN.ren,n2]
    intro p A;rcases GQ.1 A with rfl|A
    ·refine ⟨.inr ⟨h1,n1,n2⟩,?_,vs,by rw [eb];exact h3,U5.map _ (zR 6) h4⟩
     rw [eb];simp only [UN.ren];rw [h2];simp [n1,n2]
    ·exact ih p A
 |(k,.ints T pre n f)::t,h=>by
  have ih:=zY (i:=i) (R:=R) (m:=t) (λp A=>h p (HW _ A))
  obtain ⟨h1,h2,vs,h3,h4⟩:=h _ GJ;unfold xM;split
  ·exact ih
  ·rename_i hb;obtain ⟨n1,n2⟩:=EH hb;intro p A;rcases GQ.1 A with rfl|A
   ·have eb:(e.ren i R).blk k=e.blk k:=by simp [UN.ren,n2]
    refine ⟨.inr ⟨h1,n1,n2⟩,?_,vs,by rw [eb];exact h3,?_⟩
    ·rw [eb];simp only [UN.ren];rw [h2];simp [n1,n2]
    ·have:=U5.map _ (zR (i:=i) (R:=R) 6) h4;rw [List.map_append] at this;have hL:(HR n f).map (yU i R 6)=HR n f:=by
      unfold HR;rw [List.map_map];rfl
     rw [hL] at this;exact this
   ·exact ih p A
 |(k,.memo g f)::t,h=>by
  have ih:=zY (i:=i) (R:=R) (m:=t) (λp A=>h p (HW _ A))
  obtain ⟨h1,h2,es,c,h3,h4⟩:=h _ GJ;unfold xM;split
  ·exact ih
  ·rename_i hb;obtain ⟨n1,n2⟩:=EH hb;intro p A;rcases GQ.1 A with rfl|A
   ·have eb:(e.ren i R).blk k=e.blk k:=by simp [UN.ren,n2]
    refine ⟨.inr ⟨h1,n1,n2⟩,?_,es,c,by rw [eb];exact h3,h4⟩
    rw [eb];simp only [UN.ren];rw [h2];simp [n1,n2]
   ·exact ih p A
 |(k,.keep T l)::t,h=>by
  have ih:=zY (i:=i) (R:=R) (m:=t) (λp A=>h p (HW _ A))
  obtain ⟨h1,h2,h0,vs,h3,h4⟩:=h _ GJ;unfold xM;split
  ·exact ih
  ·rename_i hb;obtain ⟨n1,n2⟩:=EH hb;intro p A;rcases GQ.1 A with rfl|A
   ·have eb:(e.ren i R).blk k=e.blk k:=by simp [UN.ren,n2]
    exact ⟨.inr ⟨h1,n1,n2⟩,by rw [eb];exact h2,by rw [eb];exact h0,vs,by rw [eb];exact h3,U5.map _ (zR 6) h4⟩
   ·exact ih p A
 |(k,.aka _ _ _ _ _)::t,h=>zY (i:=i) (R:=R) (m:=t) (λp A=>h p (HW _ A))
def Qo1(i R:Nat)(s:St):St:={s with σ:=s.σ.map (yU i R 6),m:=xM i R s.m,nx:=match Nat.blt R s.nx with|true=>s.nx|false=>R+1,sv:=s.sv.map (·.map (yU i R 6)) }
theorem CE{cx:Cx}{w0:World}{F:Nat->Prop}{e:UN}{i R:Nat}{s:St}{a:Act}{w:World}(r:F7 cx w0 F e s a w):F7 cx w0 F (e.ren i R) (Qo1 i R s) a w:=by
 refine ⟨⟨λb hb=>?_,λb k hk=>?_,r.env.glob⟩,r.below,zY r.mem,λk hk=>?_,r.foe,⟨r.xt.defers,r.xt.kept,LC.map _ (zR 6) r.xt.saved,r.xt.size⟩,U5.map _ (zR 6) r.slots⟩
 ·obtain ⟨h1,h2⟩:=r.env.apart b hb;exact ⟨by simp [UN.ren,h1],h2⟩
 ·simp only [UN.ren] at hk;cases ho:e.own b with
  |none=>rw [ho] at hk;cases hk
  |some j=>exact r.env.owned b j ho
 ·have hk':k=R\/k<s.nx:=by
   rcases hk with ⟨rfl,_⟩|⟨h,_⟩
   ·exact .inl rfl
   ·exact .inr (r.live k h)
  simp only [Qo1];split
  ·rename_i hb;rw [Aw] at hb;omega
  ·rename_i hb;rw [←Bool.not_eq_true,Aw] at hb;omega
inductive Pl where
 |slot (k:Nat)
 |cell (id off:Nat)
def Qf3(s:St):Pl->AV
 | .slot k=>s.σ.getD k .top
 | .cell id off=>match DJ s.m id with
  |some (.cells _ l)=>l.getD off .top
  |_=> .top
def eA(s:St)(p:Pl)(v:AV):St:=match p with
 | .slot k=>{s with σ:=s.σ.set k v}
 | .cell id off=>match DJ s.m id with
  |some (.cells T l)=>{s with m:=qN s.m id (.cells T (l.set off v)) }
  |_=>s
theorem U5.swap{e:UN}{w:World}{l:List AV}{vs:List Value}{k:Nat}{b:AV}(h:U5 e w l vs)(hb: ∀v,Rep e w (l.getD k .top) v->vs[k]? =some v->Rep e w b v):U5 e w (l.set k b) vs:=by
 refine ⟨by simp [h.1],λi a v ha hv=>?_⟩
 rw [List.getElem?_set] at ha;by_cases hk:k=i
 ·subst hk;simp only [if_true] at ha;split at ha
  ·rename_i hlt;cases ha;exact hb v (by simpa [List.getD,D4 hlt] using h.2 k _ v (D4 hlt) hv) hv
  ·cases ha
 ·rw [if_neg hk] at ha;exact h.2 i a v ha hv
def UN.nil(e:UN)(R:Nat):UN:={e with live:=λk=>k=R\/e.live k,val:=λk=>if k=R then .slice none 0 0 else e.val k}
theorem Step.nil{e:UN}{w:World}{R:Nat}(h: ¬e.live R):Step e (e.nil R) w w:=by
 refine ⟨λ_ _ h=>⟨h,rfl⟩,λk hk=>⟨.inr hk,rfl,?_⟩,Am _⟩
 have:k≠R:=λh'=>h (h'▸hk)
 simp [UN.nil,this]
def Zl6(p:Pl)(R:Nat)(T:TypeId)(sz:Nat)(s:St):St:=match Qf3 s p with
 | .x (.slice none 0 0)=>{s with σ:=(eA s p (.row R)).σ,m:=(R,.row T sz 0 (λ_=>[]))::(eA s p (.row R)).m}
 |_=>s
theorem Wi4{cx:Cx}{w0:World}{F:Nat->Prop}{e:UN}{p:Pl}{R:Nat}{T:TypeId}{sz:Nat}{s:St}{a:Act}{w:World}(hΦ:cx.Φ s.gh F w0)(r:F7 cx w0 F e s a w)(hd: ¬e.live R)(hR:R<s.nx):Rel cx (Zl6 p R T sz s) a w:=by
 unfold Zl6;split
 ·rename_i A;have st:Step e (e.nil R) w w:=Step.nil hd;have gZ:UX (e.nil R) s.m w:=λq hq=>(r.mem q hq).ext (Below.refl _ _) st (λ_ _ h=>h)
  have I7:GK (e.nil R) w R (.row T sz 0 (λ_=>[])):=by
   refine ⟨.inl rfl,λb hb=>?_,λi O=>VM,[],?_,λi j a v O=>VM⟩
   ·simp [UN.nil,Value.ownBlock] at hb
   ·simp only [UN.nil,if_true];exact World.ownsRow_nil w 0 T sz
  have GN: ∀v,Rep e w (.x (.slice none 0 0)) v->Rep (e.nil R) w (.row R) v:=by
   intro v hv;rw [hv.x_inv];exact .row R none 0 0 (.inl rfl) (by simp [UN.nil])
  refine ⟨w0,F,e.nil R,hΦ,⟨r.env.apart,r.env.owned,r.env.glob⟩,r.below,?_,λk hk=>?_,r.foe,r.xt.step st,?_⟩
  ·intro q hq;rcases GQ.1 hq with rfl|hq
   ·exact I7
   ·cases p with
    |slot k=>exact gZ q hq
    |cell id off=>
     simp only [eA] at hq;split at hq
     ·rename_i T' l hg;rcases FZ hq with rfl|⟨hq,_⟩
      ·obtain ⟨h1,h2,vs,h3,h4⟩:=r.mem _ (G0 hg);obtain ⟨l1,l2,l3⟩:=st.live id h1;refine ⟨l1,by rw [l2];exact h2,vs,by rw [l2];exact h3,?_⟩
       refine U5.swap (h4.step st) ?_;intro v hv hv';simp only [Qf3,hg] at A;have hlt:off<l.length:=by
        rcases An off l.length with h|h
        ·exact h
        ·rw [List.getD,Br h] at A;cases A
       have:=h4.2 off _ v (D4 hlt) hv';rw [List.getD,D4 hlt] at A;simp only [GX] at A;rw [A] at this;exact GN v this
      ·exact gZ q hq
     ·exact gZ q hq
  ·rcases hk with rfl|hk
   ·exact hR
   ·exact r.live k hk
  ·cases p with
   |slot k=>
    simp only [eA];refine U5.swap (r.slots.step st) ?_;intro v hv hv';simp only [Qf3] at A;have hlt:k<s.σ.length:=by
     rcases An k s.σ.length with h|h
     ·exact h
     ·rw [List.getD,Br h] at A;cases A
    have:=r.slots.2 k _ v (D4 hlt) hv';rw [List.getD,D4 hlt] at A;simp only [GX] at A;rw [A] at this;exact GN v this
   |cell id off=>
    simp only [eA];split
    ·exact r.slots.step st
    ·exact r.slots.step st
 ·exact ⟨w0,F,e,hΦ,r⟩
def rM(i:Nat):H5->H5
 |[]=>[]
 |(k,r)::t=>match Nat.beq k i with
  |true=>match r with
   | .cells T l=>(k,.keep T l)::rM i t
   | .keep T l=>(k,.keep T l)::rM i t
   |_=>rM i t
  |false=>match HY i r with
   |true=>rM i t
   |false=>(k,r)::rM i t
def Qe0(i:Nat)(s:St):St:={s with m:=rM i s.m}
theorem iF{e:UN}{B:Nat}{w:World}{i:Nat}(hE:G4 e B w): ∀{m:H5},UX e m w->UX (e.sol i) (rM i m) w
 |[],_=>λp A=>by cases A
 |(k,r)::t,h=>by
  have ih:=iF (i:=i) hE (m:=t) (λp A=>h p (HW _ A))
  have hk:=h _ GJ;unfold rM;split
  ·rename_i hb;have:=H2 hb;subst this;split
   ·rename_i T l;intro p A;rcases GQ.1 A with rfl|A
    ·obtain ⟨h1,h2,vs,h3,h4⟩:=hk;exact ⟨h1,.inr h2,(hE.owned _ _ h2).2,vs,h3,h4.step (Step.sol e k w)⟩
    ·exact ih p A
   ·rename_i T l;intro p A;rcases GQ.1 A with rfl|A
    ·exact LK (Step.sol e k w) hk
    ·exact ih p A
   ·exact ih
  ·rename_i hb;split
   ·exact ih
   ·rename_i hak;intro p A;rcases GQ.1 A with rfl|A
    ·exact GK.sol ⟨RC hb,hak⟩ hk
    ·exact ih p A
theorem OG{c:Cx}{w0:World}{F:Nat->Prop}{e:UN}{i:Nat}{s:St}{a:Act}{w:World}(r:F7 c w0 F e s a w):F7 c w0 F (e.sol i) (Qe0 i s) a w:=by
 have st:=Step.sol e i w;refine ⟨r.env.sol i,r.below,iF r.env r.mem,r.live,λb hb=>⟨(r.foe b hb).1,λZ=>?_⟩,r.xt.step st,r.slots.step st⟩
 rcases Z with Z|Z
 ·exact (r.foe b hb).2 Z
 ·have:=(r.env.owned b i Z).1;have:=(r.foe b hb).1;omega
def UN.prom(e:UN)(i q:Nat):UN:={e with own:=λb=>match e.own b with|some k=>if k=q then some i else some k|none=>none}
def eV(i q:Nat):H5->H5
 |[]=>[]
 |(k,r)::t=>match Nat.beq k q||(Nat.beq k i||(HY q r||HY i r)) with
  |true=>eV i q t
  |false=>(k,r)::eV i q t
def eU(i:Nat)(s:St):St:=match DJ s.m i with
 |some (.aka q T sz n f)=>{s with m:=(i,.row T sz n f)::eV i q s.m}
 |_=>s
theorem iE{e:UN}{w:World}{i q:Nat}: ∀{m:H5},UX e m w->UX (e.prom i q) (eV i q m) w
 |[],_=>λp A=>by cases A
 |(k,r)::t,h=>by
  have ih:=iE (i:=i) (q:=q) (m:=t) (λp A=>h p (HW _ A))
  have hk:=h _ GJ;unfold eV;split
  ·exact ih
  ·rename_i hb;simp only [Bool.or_eq_false_iff] at hb;obtain ⟨hb1,hb2,hb3,hb4⟩:=hb;have n1:=RC hb1;have n2:=RC hb2;have st:Step e (e.prom i q) w w:=⟨λ_ _ h=>⟨h,rfl⟩,λ_ h=>⟨h,rfl,rfl⟩,Am _⟩
   have ow: ∀b o,o≠q->e.own b=some o->(e.prom i q).own b=some o:=λb o ho hbo=>by simp [UN.prom,hbo,ho]
   intro p A;rcases GQ.1 A with rfl|A
   ·cases r with
    |cells T l=>
     obtain ⟨h1,h2,vs,h3,h4⟩:=hk;exact ⟨h1,ow _ _ n1 h2,vs,h3,h4.step st⟩
    |ints T pre n f=>
     obtain ⟨h1,h2,vs,h3,h4⟩:=hk;exact ⟨h1,ow _ _ n1 h2,vs,h3,h4.step st⟩
    |memo g f=>
     obtain ⟨h1,h2,es,c,h3,h4⟩:=hk;exact ⟨h1,ow _ _ n1 h2,es,c,h3,h4⟩
    |row T sz n f=>
     obtain ⟨h1,h2,hf,xs,h3,h4⟩:=hk;exact ⟨h1,λb hb=>ow _ _ n1 (h2 b hb),hf,xs,h3,λi j a v O ha hv=>(h4 i j a v O ha hv).step st⟩
    |keep T l=>exact LK st hk
    |aka r T sz n f=>
     obtain ⟨h1,h0,o,hor,h2,hf,xs,h3,h4⟩:=hk;have ho:o≠q:=by
      rcases hor with rfl|rfl
      ·exact n1
      ·exact RC hb3
     exact ⟨h1,h0,o,hor,λb hb=>ow _ _ ho (h2 b hb),hf,xs,h3,λi j a v O ha hv=>(h4 i j a v O ha hv).step st⟩
   ·exact ih p A
theorem CL{c:Cx}{i:Nat}{s:St}{a:Act}{w:World}(r:Rel c s a w):Rel c (eU i s) a w:=by
 unfold eU;split
 ·rename_i q T sz n f hg;obtain ⟨w0,F,e,hΦ,r⟩:=r;have st:Step e (e.prom i q) w w:=⟨λ_ _ h=>⟨h,rfl⟩,λ_ h=>⟨h,rfl,rfl⟩,Am _⟩
  refine ⟨w0,F,e.prom i q,hΦ,⟨⟨λb hb=>?_,λb k hk=>?_,r.env.glob.step st⟩,r.below,?_,r.live,r.foe,r.xt.step st,r.slots.step st⟩⟩
  ·obtain ⟨h1,h2⟩:=r.env.apart b hb;exact ⟨by simp [UN.prom,h1],h2⟩
  ·simp only [UN.prom] at hk;cases ho:e.own b with
   |none=>rw [ho] at hk;cases hk
   |some j=>exact r.env.owned b j ho
  ·intro p A;rcases GQ.1 A with rfl|A
   ·obtain ⟨h1,h0,o,hor,h2,hf,xs,h3,h4⟩:=r.mem _ (G0 hg);refine ⟨h1,λb hb=>?_,hf,xs,h3,λi' j a v O ha hv=>(h4 i' j a v O ha hv).step st⟩
    have:=h2 b hb;rcases hor with rfl|rfl
    ·simp [UN.prom,this]
    ·simp [UN.prom,this]
   ·exact iE r.mem p A
 ·exact r
def Qe1:List AV->St->St
 |[],s=>s
 | .ptr i _::l,s=>Qe1 l (Qe0 i s)
 |_::l,s=>Qe1 l s
theorem f9{c:Cx}{a:Act}{w:World}: ∀{l:List AV} {s:St},Rel c s a w->Rel c (Qe1 l s) a w
 |[],_,r=>r
 |b::l,s,r=>by
  cases b with
  |ptr i o=>
   obtain ⟨w0,F,e,hΦ,r⟩:=r;exact f9 (l:=l) (s:=Qe0 i s) ⟨w0,F,_,hΦ,OG r⟩
  |_=>exact f9 (l:=l) (s:=s) r
def Wb2(s:St):St:=match s.sv with
 |[]=>{s with σ:=s.σ.map (DF s.m 40),m:=[] }
 |_=>s
theorem Wb1{c:Cx}{s:St}{a:Act}{w:World}(r:Rel c s a w):Rel c (Wb2 s) a w:=by
 unfold Wb2;split
 ·rename_i hsv;obtain ⟨w0,T,e,hΦ,r⟩:=r
  let e2:UN:={ro:=e.view.ro,own:=λ_=>none,live:=λ_=>False,blk:=λ_=>0,val:=λ_=> .nilIface}
  have hlt: ∀b,e2.ro b->b<w.heap.size:=by
   rintro b (h|⟨id,h⟩)
   ·exact (r.env.apart b h).2
   ·exact (r.env.owned b id h).2
  have st2:Step e2 e2 w w:=⟨λb hb Z=>⟨Z,rfl⟩,λ_ h=>h.elim,Am _⟩
  have gU:U5 e2 w (s.σ.map (DF s.m 40)) a.tmps.toList:=
   U5.map (DF s.m 40) (λx v hx=>Rep.idf (e:=e.view) (e':=e2) (λ_ h=>h) (LD r.env r.mem 40 x v hx) (RN r.mem 40 x v hx)) r.slots
  refine ⟨w0,T,e2,hΦ,⟨⟨λb hb=>⟨rfl,hlt b hb⟩,(λb id h=>by cases h),D5.step (e:=e2) (w:=w) (λb p A=>⟨.inl (r.env.glob b p A).1,(r.env.glob b p A).2⟩) st2⟩,r.below,(λp A=>by cases A),(λk hk=>hk.elim),λb hb=>⟨(r.foe b hb).1,?_⟩,⟨⟨λd hd=>by obtain ⟨D,h1,h2,h3,h4,h5⟩:=r.xt.defers.1 d hd;exact ⟨D,h1,.inl h2,h3,h4,h5⟩,r.xt.defers.2⟩,λb o hb=>by obtain ⟨h1,h2,h3⟩:=r.xt.kept b o hb;exact ⟨.inl h1,h2,h3⟩,by
   have:=r.xt.saved.1;rw [hsv] at this;rw [hsv];exact ⟨this,λi a v h=>by simp at h⟩,r.xt.size⟩,gU⟩⟩
  rintro (h|⟨id,h⟩)
  ·exact (r.foe b hb).2 h
  ·have:=(r.env.owned b id h).1;have:=(r.foe b hb).1;omega
 ·exact r
def Qd3(p:Pl)(R:Nat)(T:TypeId)(sz:Nat)(s:St):St:=match Qf3 s p with
 | .row i=>match sz with
  | 0=>Qt7 i (eU i s)
  |_+1=>match T with
   | 0=>eU i s
   |_+1=>Qo1 i R (eU i s)
 | .ptr i _=>match sz with
  | 0=>Qe0 i s
  | 1=>Wb2 s
  |_+2=>Qo1 i R s
 | .fn _ _ l=>Qe1 l s
 | .x (.slice none 0 0)=>match T with
  | 0=>s
  |_+1=>Zl6 p R T sz (Qo1 s.nx R s)
 |_=>s
theorem Wi2{cx:Cx}{p:Pl}{R:Nat}{T:TypeId}{sz:Nat}{s:St}{a:Act}{w:World}(r:Rel cx s a w):Rel cx (Qd3 p R T sz s) a w:=by
 unfold Qd3;split
 ·rename_i i _;split
  ·obtain ⟨w0,F,e,hΦ,r⟩:=CL (i:=i) r;obtain ⟨e',r'⟩:=lO (i:=i) r;exact ⟨w0,F,e',by rw [Qf4];exact hΦ,r'⟩
  ·split
   ·exact CL (i:=i) r
   ·obtain ⟨w0,F,e,hΦ,r⟩:=CL (i:=i) r;exact ⟨w0,F,_,hΦ,CE r⟩
 ·split
  ·obtain ⟨w0,F,e,hΦ,r⟩:=r;exact ⟨w0,F,_,hΦ,OG r⟩
  ·exact Wb1 r
  ·obtain ⟨w0,F,e,hΦ,r⟩:=r;exact ⟨w0,F,_,hΦ,CE r⟩
 ·exact f9 r
 ·split
  ·exact r
  ·obtain ⟨w0,F,e,hΦ,r⟩:=r;refine Wi4 hΦ (CE r) ?_ ?_
   ·rintro (⟨_,h⟩|⟨_,_,h⟩)
    ·exact Bf _ (r.live _ h)
    ·exact h rfl
   ·simp only [Qo1];split
    ·rename_i hb;rw [Aw] at hb;exact hb
    ·exact Bk _
 ·exact r
def R9:List (Pl×Nat×TypeId×Nat)->St->St
 |[],s=>s
 |(p,R,T,sz)::t,s=>R9 t (Qd3 p R T sz s)
theorem DI{cx:Cx}{a:Act}{w:World}: ∀{l:List (Pl×Nat×TypeId×Nat)} {s:St},Rel cx s a w->Rel cx (R9 l s) a w
 |[],_,r=>r
 |(p,R,T,sz)::t,s,r=>DI (l:=t) (s:=Qd3 p R T sz s) (Wi2 r)
def GM(l:List (Pl×Nat×TypeId×Nat))(sp:UL):UL:=λs=>sp (R9 l s)
theorem vD{P:Program}{ro:Option Nat}{cx:Cx}{c:Code}{l:List (Pl×Nat×TypeId×Nat)}{sp:UL}(h:HL P ro cx c sp):HL P ro cx c (GM l sp):=
 λn s t ht Q hQ a w r=>h n (R9 l s) t ht Q hQ a w (DI r)
def sM(N:List (Pl×Nat×TypeId×Nat))(nxt:St)(out:G9->Option St)(p:G9×St):VP G9:=match p.1 with
 | .normal=> .needT (BK (R9 N p.2) nxt) (.leaf .normal)
 | .exit id=>match out (.exit id) with
  |some E=> .needT (BK (R9 N p.2) E) (.leaf (.exit id))
  |none=> .fail
 | .ret=>match out .ret with
  |some E=> .needT (BK (R9 N p.2) E) (.leaf .ret)
  |none=> .fail
theorem Wu7{N:List (Pl×Nat×TypeId×Nat)}{t:CT}{nxt:St}{out:G9->Option St}{R:G9->Prop}(h:(t.bind (sM N nxt out)).sat R):
  t.sat (λp=>match p.1 with
   | .normal=>R .normal/\UD (BK (R9 N p.2) nxt)
   |y=> ∃E,out y=some E/\R y/\UD (BK (R9 N p.2) E)):=by
 refine VP.sat_mono ?_ (VP.sat_bind h);rintro ⟨y,s'⟩ A;cases y with
 |normal=>exact ⟨(VP.sat_needT A).2,(VP.sat_needT A).1⟩
 |exit id=>
  dsimp only [sM] at A ⊢
  split at A
  ·rename_i E hE;exact ⟨E,hE,(VP.sat_needT A).2,(VP.sat_needT A).1⟩
  ·exact A.elim
 |ret=>
  dsimp only [sM] at A ⊢
  split at A
  ·rename_i E hE;exact ⟨E,hE,(VP.sat_needT A).2,(VP.sat_needT A).1⟩
  ·exact A.elim
section
variable (P:Program)(G:List (Nat×Spec))
def HP(X:Ext)(L:List UL)(N:List (Pl×Nat×TypeId×Nat))(body:Code)(s nxt:St)(out:G9->Option St):VP G9:=(D9 P G X L body 0 s).bind (sM N nxt out)
def Zg8(L:List UL)(N:List (Pl×Nat×TypeId×Nat))(body:Code)(s nxt:St)(out:G9->Option St):VP G9:=HP P G {} L N body s nxt out
end
section
variable {P:Program}{G:List (Nat×Spec)}
theorem F2{X:Ext}{L:List UL}{ro:Option Nat}{cx:Cx}(N:List (Pl×Nat×TypeId×Nat))(hG:VN P G)(hX:VZ P X cx)(GU:P.follows .mixedOrders=true){body:Code}(hL: ∀j cj,VV body j=some cj-> ∀sp,L[j]? =some sp->HL P ro cx cj sp)
  {V:Type}(inv:V->St)(I:V->Prop)(μ:V->Nat)(out:V->G9->Option St){t:CT}{x0:V}(h0:I x0)
  (hok: ∀x,okB (inv x)=true)(w8: ∀x y E,out x y=some E->okB E=true)
  (round: ∀(Q:G9×St->Prop),t.sat Q-> ∀x,I x-> ∃x',(HP P G X L N body (inv x) (inv x') (out x)).sat (λy=>match y with
   | .normal=>I x'/\μ x'<μ x
   |y=> ∀E,out x y=some E->Q (y,E))):HL P ro cx (.loop body) (GM N (HK (inv x0) t)):=by
 refine vD (jX (hok x0) ?_);intro n Q hQ a w r;refine aD μ (λx a w=>I x/\Rel cx (inv x) a w) ?_ ⟨h0,r⟩
 rintro x a w ⟨hx,Z⟩;obtain ⟨x',jA⟩:=round Q hQ x hx;refine wpIn_mono (DB hG hX GU body 0 (inv x) _ a w (λj cj hj sp hsp=>hL j cj hj sp (by simpa using hsp)) (Wu7 jA) Z) ?_
 rintro ex a₁ w₁ ⟨y,s',rfl,hq,hr'⟩;cases y with
 |normal=>
  obtain ⟨⟨h1,h2⟩,h3⟩:=hq;exact ⟨x',h2,h1,FX (GF h3) (hok x') (DI hr')⟩
 |exit id=>
  obtain ⟨E,hE,h1,h3⟩:=hq;exact ⟨.exit id,E,rfl,h1 E hE,FX (GF h3) (w8 x _ E hE) (DI hr')⟩
 |ret=>
  obtain ⟨E,hE,h1,h3⟩:=hq;exact ⟨.ret,E,rfl,h1 E hE,FX (GF h3) (w8 x _ E hE) (DI hr')⟩
theorem j5{L:List UL}(N:List (Pl×Nat×TypeId×Nat))(hG:VN P G)(GU:P.follows .mixedOrders=true){body:Code}(hL: ∀j cj,VV body j=some cj-> ∀sp,L[j]? =some sp->GA P cj sp)
  {X:Type}(inv:X->St)(I:X->Prop)(μ:X->Nat)(out:X->G9->Option St){t:CT}{x0:X}(h0:I x0)
  (hok: ∀x,okB (inv x)=true)(w8: ∀x y E,out x y=some E->okB E=true)
  (round: ∀(Q:G9×St->Prop),t.sat Q-> ∀x,I x-> ∃x',(Zg8 P G L N body (inv x) (inv x') (out x)).sat (λy=>match y with
   | .normal=>I x'/\μ x'<μ x
   |y=> ∀E,out x y=some E->Q (y,E))):GA P (.loop body) (GM N (HK (inv x0) t)):=
 λro cx=>F2 N hG (VZ.nil P cx) GU (λj cj hj sp hsp=>hL j cj hj sp hsp ro cx) inv I μ out h0 hok w8 round
end
def FT(ps:List Prop)(sp:UL):UL:=λs=>match sp s with
 |some t=>some (.need ps t)
 |none=>none
theorem xA{P:Program}{ro:Option Nat}{cx:Cx}{c:Code}{ps:List Prop}{sp:UL}(h:UD ps->HL P ro cx c sp):HL P ro cx c (FT ps sp):=by
 intro n s t ht Q hQ a w r;unfold FT at ht;split at ht
 ·rename_i t' ht';cases ht;exact h hQ.1 n s t' ht' Q hQ.2 a w r
 ·cases ht
theorem D8{P:Program}{c:Code}{ps:List Prop}{sp:UL}(h:UD ps->GA P c sp):GA P c (FT ps sp):=λro cx=>xA (λA=>h A ro cx)
section
variable {P:Program}
def Xm9(P:Program)(rs:List ResultVar)(t:CT):VP AV:=t.bind λp=>match p.1 with
 | .exit _=> .fail
 |_=>match BT P p.2 rs with
  |some r=> .leaf (DF p.2.m 40 r)
  |none=> .fail
mutual
def FJ:AV->AV->Prop
 | .x u,b=>match b with
  | .top=>True
  | .x v=>UG u v
  | .lst _ n _=>iQ u/\n=0
  |b=>AV.x u=b
 | .lit c,b=>match b with
  | .top=>True
  | .x (.bool d)=>c=d
  |b=>AV.lit c=b
 | .lst sz n f,b=>match b with
  | .top=>True
  | .lst sz' n' f'=>sz=sz'/\n=n'/\ ∀i,i<n'->f i=f' i
  |b=>AV.lst sz n f=b
 | .agg l,b=>match b with
  | .top=>True
  | .agg l'=>wD l l'
  |b=>AV.agg l=b
 | .tup l,b=>match b with
  | .top=>True
  | .tup l'=>wD l l'
  |b=>AV.tup l=b
 | .roI pre n f off,b=>match b with
  | .top=>True
  | .roI pre' n' f' off'=>pre=pre'/\n=n'/\(∀k,k<n'->f k=f' k)/\off=off'
  |b=>AV.roI pre n f off=b
 |a,b=>match b with
  | .top=>True
  |b=>a=b
def wD:List AV->List AV->Prop
 |[],l'=>match l' with
  |[]=>True
  |_::_=>False
 |r::l,l'=>match l' with
  |a::l'=>FJ r a/\wD l l'
  |[]=>False
end
mutual
theorem L2{e:UN}{w:World}: ∀{a b:AV} {v:Value},FJ a b->Rep e w a v->Rep e w b v
 | .x u,b,v,h,r=>by
  unfold FJ at h;split at h
  ·exact .top v
  ·rw [cK h] at r;exact r
  ·obtain ⟨h1,rfl⟩:=h;cases r.x_inv;rw [iP h1];exact .lstNil _ _
  ·rw [←h];exact r
 | .lit c,b,v,h,r=>by
  unfold FJ at h;split at h
  ·exact .top v
  ·subst h;cases r.lit_inv;exact .x _
  ·rw [←h];exact r
 | .lst sz n f,b,v,h,r=>by
  unfold FJ at h;split at h
  ·exact .top v
  ·obtain ⟨rfl,rfl,h3⟩:=h;exact uM.rep (.lst _ _ _ _ h3) r
  ·rw [←h];exact r
 | .agg l,b,v,h,r=>by
  unfold FJ at h;split at h
  ·exact .top v
  ·obtain ⟨vs,rfl,Z⟩:=r.agg_inv;exact Rep.aggL (yE h Z)
  ·rw [←h];exact r
 | .tup l,b,v,h,r=>by
  unfold FJ at h;split at h
  ·exact .top v
  ·obtain ⟨vs,rfl,Z⟩:=r.tup_inv;exact Rep.tupL (yE h Z)
  ·rw [←h];exact r
 | .top,b,v,h,r=>by
  unfold FJ at h;split at h
  ·exact .top v
  ·rw [←h];exact r
 | .fn _ _ _,b,v,h,r=>by
  unfold FJ at h;split at h
  ·exact .top v
  ·rw [←h];exact r
 | .ptr _ _,b,v,h,r=>by
  unfold FJ at h;split at h
  ·exact .top v
  ·rw [←h];exact r
 | .row _,b,v,h,r=>by
  unfold FJ at h;split at h
  ·exact .top v
  ·rw [←h];exact r
 | .elt _ _ _ _,b,v,h,r=>by
  unfold FJ at h;split at h
  ·exact .top v
  ·rw [←h];exact r
 | .ro _,b,v,h,r=>by
  unfold FJ at h;split at h
  ·exact .top v
  ·rw [←h];exact r
 | .mp _,b,v,h,r=>by
  unfold FJ at h;split at h
  ·exact .top v
  ·rw [←h];exact r
 | .any1,b,v,h,r=>by
  unfold FJ at h;split at h
  ·exact .top v
  ·rw [←h];exact r
 | .mpr _ _,b,v,h,r=>by
  unfold FJ at h;split at h
  ·exact .top v
  ·rw [←h];exact r
 | .roI pre n f off,b,v,h,r=>by
  unfold FJ at h;split at h
  ·exact .top v
  ·obtain ⟨rfl,rfl,h3,rfl⟩:=h;cases r with
   |roI _ _ _ _ b o Z=>
    have hL:HR n f=HR n _:=List.map_congr_left (λk hk=>by rw [h3 k (List.mem_range.1 hk)])
    rw [hL] at Z;exact .roI _ _ _ _ b o Z
  ·rw [←h];exact r
theorem yE{e:UN}{w:World}: ∀{l l':List AV} {vs:List Value},wD l l'->U5 e w l vs->U5 e w l' vs
 |[],[],_,_,r=>r
 |[],_::_,_,h,_=>by simp [wD] at h
 |a::l,[],_,h,_=>by simp [wD] at h
 |a::l,b::l',vs,h,r=>by
  unfold wD at h;obtain ⟨v,vs',rfl,hv,hvs⟩:=r.cons_inv;exact U5.cons (L2 h.1 hv) (yE h.2 hvs)
end
def EndR(P:Program)(fn:Func)(res:AV)(p:G9×St):Prop:=(match p.1 with| .exit _=>False|_=>True)/\ ∃r,BT P p.2 fn.results.toList=some r/\FJ (DF p.2.m 40 r) res
theorem Wu8{fn:Func}{res:AV}{t:CT}(h:(Xm9 P fn.results.toList t).sat (λr=>FJ r res)):t.sat (EndR P fn res):=by
 refine VP.sat_mono ?_ (VP.sat_bind h);rintro ⟨x,s⟩ hs;cases x with
 |exit i=>exact hs.elim
 |normal=>
  simp only at hs;split at hs
  ·rename_i r Z;exact ⟨trivial,r,Z,hs⟩
  ·exact hs.elim
 |ret=>
  simp only at hs;split at hs
  ·rename_i r Z;exact ⟨trivial,r,Z,hs⟩
  ·exact hs.elim
def EndC(P:Program)(fn:Func)(Q:AV->Prop)(p:G9×St):Prop:=(match p.1 with| .exit _=>False|_=>True)/\ ∃r,BT P p.2 fn.results.toList=some r/\ ∃r',FJ (DF p.2.m 40 r) r'/\Q r'
theorem Wv2{fn:Func}{Q:AV->Prop}{t:CT}(h:(Xm9 P fn.results.toList t).sat (λr=> ∃r',FJ r r'/\Q r')):t.sat (EndC P fn Q):=by
 refine VP.sat_mono ?_ (VP.sat_bind h);rintro ⟨x,s⟩ hs;cases x with
 |exit i=>exact hs.elim
 |normal=>
  simp only at hs;split at hs
  ·rename_i r Z;exact ⟨trivial,r,Z,hs⟩
  ·exact hs.elim
 |ret=>
  simp only at hs;split at hs
  ·rename_i r Z;exact ⟨trivial,r,Z,hs⟩
  ·exact hs.elim
section
variable {G:List (Nat×Spec)}{X:Ext}{L:List UL}{f:FuncId}{fn:Func}{c:Code}{avs:List AV}
theorem GV{sp t:VP AV}(hG:VN P G)(hX: ∀cx,VZ P X cx)(GU:P.follows .mixedOrders=true)(hf:P.funcs[f]? =some fn)(hb:fn.body=some c)
  (hL: ∀j cj,VV c j=some cj-> ∀sp,L[j]? =some sp->HN P cj sp)(ht:Xm9 P fn.results.toList (D9 P G X L c 0 (HT fn avs))=t)(h: ∀Q:AV->Prop,sp.sat Q->t.sat (λr=> ∃r',FJ r r'/\Q r')):UQ P f avs sp:=by
 subst ht;intro Q hQ e w args hro hgl FP Z;refine zC hG GU hf hb (cx:=lW w (λb=>b<w.heap.size/\ ¬e.ro b)) (gh:=none) (T:=λb=>b<w.heap.size/\ ¬e.ro b) (e:=e) (hX _) (λ_ _ h=>h) rfl rfl (by rintro g T w0 D ⟨rfl,_⟩ h;exact h) ⟨rfl,rfl⟩ (λb h=>h) hro hgl FP Z (λj cj hj sp hsp=>hL j cj hj sp hsp _ (zA _ _)) (Wv2 (h Q hQ)) ?_ ?_
 ·rintro x s w0 T' e' tmps w' ⟨hx,r,F3,r',kR,hQr⟩ ⟨rfl,rfl⟩ q1 q2 q3 q5 q4;obtain ⟨u,hu,GN⟩:=DN (P:=P) q3 q4 F3;refine ⟨u,hu,u,r',rfl,hQr,q2,?_⟩;refine L2 kR (Rep.idf (e:=e'.view) ?_ (LD q1 q3 40 r u GN) (RN q3 40 r u GN));rintro b (hb|⟨k,hb⟩)
  ·rcases An b w0.heap.size with h1|h1
   ·refine .inl ?_;rcases Classical.em (e.ro b) with h2|h2
    ·exact h2
    ·exact (q5 b ⟨h1,h2⟩ hb).elim
   ·exact .inr ⟨h1,(q1.apart b hb).2⟩
  ·exact .inr ⟨(q1.owned b k hb).1,(q1.owned b k hb).2⟩
 ·rintro x s ⟨hx,_⟩ i rfl;exact hx
theorem D0{res:AV}{t:VP AV}(hG:VN P G)(hX: ∀cx,VZ P X cx)(GU:P.follows .mixedOrders=true)(hf:P.funcs[f]? =some fn)(hb:fn.body=some c)
  (hL: ∀j cj,VV c j=some cj-> ∀sp,L[j]? =some sp->HN P cj sp)(ht:Xm9 P fn.results.toList (D9 P G X L c 0 (HT fn avs))=t)(h:t.sat (λr=>FJ r res)):FF P f avs res:=by
 subst ht;intro e w args hro hgl FP Z;refine zC hG GU hf hb (cx:=lW w (λb=>b<w.heap.size/\ ¬e.ro b)) (gh:=none) (T:=λb=>b<w.heap.size/\ ¬e.ro b) (e:=e) (hX _) (λ_ _ h=>h) rfl rfl (by rintro g T w0 D ⟨rfl,_⟩ h;exact h) ⟨rfl,rfl⟩ (λb h=>h) hro hgl FP Z (λj cj hj sp hsp=>hL j cj hj sp hsp _ (zA _ _)) (Wu8 h) ?_ ?_
 ·rintro x s w0 T' e' tmps w' ⟨hx,r,F3,kR⟩ ⟨rfl,rfl⟩ q1 q2 q3 q5 q4;obtain ⟨u,hu,GN⟩:=DN (P:=P) q3 q4 F3;refine ⟨u,hu,u,rfl,q2,?_⟩;refine L2 kR (Rep.idf (e:=e'.view) ?_ (LD q1 q3 40 r u GN) (RN q3 40 r u GN));rintro b (hb|⟨k,hb⟩)
  ·rcases An b w0.heap.size with h1|h1
   ·refine .inl ?_;rcases Classical.em (e.ro b) with h2|h2
    ·exact h2
    ·exact (q5 b ⟨h1,h2⟩ hb).elim
   ·exact .inr ⟨h1,(q1.apart b hb).2⟩
  ·exact .inr ⟨(q1.owned b k hb).1,(q1.owned b k hb).2⟩
 ·rintro x s ⟨hx,_⟩ i rfl;exact hx
end
def Jk3(P:Program)(rs:List ResultVar)(t:CT):VP (Option (TypeId×Nat×Nat×(Nat->List AV))):=t.bind λp=>match p.1 with
 | .exit _=> .fail
 |_=>match BT P p.2 rs with
  |some (.row id)=>match DJ p.2.m id with
   |some (.row T sz n f)=> .leaf (some (T,sz,n,f))
   |_=> .fail
  |some (.x (.slice none 0 0))=> .leaf none
  |_=> .fail
def Xm6(T:TypeId)(sz n:Nat)(g:Nat->List AV):Option (TypeId×Nat×Nat×(Nat->List AV))->Prop
 |none=>n=0
 |some (T',sz',n',f)=>T'=T/\sz'=sz/\n'=n/\ ∀i,i<n->f i=g i/\ ∀a∈g i,isX a
def EndF(P:Program)(fn:Func)(T:TypeId)(sz n:Nat)(g:Nat->List AV)(p:G9×St):Prop:=(match p.1 with| .exit _=>False|_=>True)/\
 ((∃id f,BT P p.2 fn.results.toList=some (.row id)/\DJ p.2.m id=some (.row T sz n f)/\ ∀i,i<n->f i=g i/\ ∀a∈g i,isX a)\/(BT P p.2 fn.results.toList=some (.x (.slice none 0 0))/\n=0))
theorem Wv1{fn:Func}{T:TypeId}{sz n:Nat}{g:Nat->List AV}{t:CT}(h:(Jk3 P fn.results.toList t).sat (Xm6 T sz n g)):t.sat (EndF P fn T sz n g):=by
 refine VP.sat_mono ?_ (VP.sat_bind h);rintro ⟨x,s⟩ hs;have key:(match BT P s fn.results.toList with
  |some (.row id)=>match DJ s.m id with
   |some (.row T sz n f)=>(.leaf (some (T,sz,n,f)):VP (Option (TypeId×Nat×Nat×(Nat->List AV))))
   |_=> .fail
  |some (.x (.slice none 0 0))=> .leaf none
  |_=> .fail).sat (Xm6 T sz n g)->(∃id f,BT P s fn.results.toList=some (.row id)/\DJ s.m id=some (.row T sz n f)/\ ∀i,i<n->f i=g i/\ ∀a∈g i,isX a)\/(BT P s fn.results.toList=some (.x (.slice none 0 0))/\n=0):=by
  intro h;split at h
  ·rename_i id hid;split at h
   ·rename_i T' sz' n' f hm;obtain ⟨rfl,rfl,rfl,h⟩:=h;exact .inl ⟨id,f,hid,hm,h⟩
   ·exact h.elim
  ·rename_i hid;exact .inr ⟨hid,h⟩
  ·exact h.elim
 cases x with
 |exit i=>exact hs.elim
 |normal=>exact ⟨trivial,key hs⟩
 |ret=>exact ⟨trivial,key hs⟩
theorem BS{G:List (Nat×Spec)}{X:Ext}{L:List UL}{f:FuncId}{fn:Func}{c:Code}{avs:List AV}{T:TypeId}{sz n:Nat}{g:Nat->List AV}{t:VP (Option (TypeId×Nat×Nat×(Nat->List AV)))}(hG:VN P G)(hX: ∀cx,VZ P X cx)(GU:P.follows .mixedOrders=true)(hf:P.funcs[f]? =some fn)(hb:fn.body=some c)
  (hL: ∀j cj,VV c j=some cj-> ∀sp,L[j]? =some sp->HN P cj sp)(ht:Jk3 P fn.results.toList (D9 P G X L c 0 (HT fn avs))=t)(h:t.sat (Xm6 T sz n g))(HZ: ∀i,i<n->(g i).length=sz):DR P f avs T sz n g:=by
 subst ht;intro e w args hro hgl FP Z;refine zC hG GU hf hb (cx:=lW w (λb=>b<w.heap.size/\ ¬e.ro b)) (gh:=none) (T:=λb=>b<w.heap.size/\ ¬e.ro b) (e:=e) (hX _) (λ_ _ h=>h) rfl rfl (by rintro g T w0 D ⟨rfl,_⟩ h;exact h) ⟨rfl,rfl⟩ (λb h=>h) hro hgl FP Z (λj cj hj sp hsp=>hL j cj hj sp hsp _ (zA _ _)) (Wv1 h) ?_ ?_
 ·rintro x s w0 T' e' tmps w' ⟨hx,PI⟩ ⟨rfl,rfl⟩ q1 q2 q3 q5 q4;rcases PI with ⟨id,ff,F3,hm,hfg⟩|⟨F3,rfl⟩
  ·obtain ⟨u,hu,GN⟩:=DN (P:=P) q3 q4 F3;obtain ⟨h1,h2,h3,xs,h4,h5⟩:=q3 _ (G0 hm);cases GN with
   |row _ a n' c' hl hv=>
    refine ⟨_,hu,_,xs,rfl,q2,?_,?_,λi O=>⟨HZ i O,λa ha=>Wk3 ((hfg i O).2 a ha)⟩,λi j a u O ha hu=>?_⟩
    ·rw [←hv];exact h4
    ·intro b hbv;rw [←hv] at hbv;exact q1.owned b id (h2 b hbv)
    ·have hx':=Wk3 ((hfg i O).2 a (F4 ha));obtain ⟨z,rfl⟩:=hx';have:=h5 i j (.x z) u O (by rw [(hfg i O).1];exact ha) hu
     rw [this.x_inv]
  ·obtain ⟨u,hu,GN⟩:=DN (P:=P) q3 q4 F3;obtain rfl:=GN.x_inv;exact ⟨_,hu,_,[],rfl,q2,World.ownsRow_nil _ _ _ _,(λb (hb:none=some b)=>by cases hb),λi O=>absurd O (Aq _),λi j a u O=>absurd O (Aq _)⟩
 ·rintro x s ⟨hx,_⟩ i rfl;exact hx
def PN(P:Program)(g:FuncId)(caps:List AV)(N:Nat)(vals:Nat->List Value):Prop:=
 Enters P g/\ ∀(e:UN) (lb:List Value) (w:World) (l:Nat) (Φ:Option Nat->(Nat->Prop)->World->Prop) (T:Nat->Prop),
  (∀b,e.ro b->b<w.heap.size/\ ¬T b)->D5 e w->(∀b,T b->b<w.heap.size)->(∀a∈caps,Idf a)->U5 e w caps lb->
  (∀g T w w',Φ g T w->Below w.heap.size w w'->Φ g T w')->
  (∀k T w n,Φ (some k) T w->k<N->YieldAt (fr none) n P l (vals k).toArray w λen w'=>w.heap.size<=w'.heap.size/\(∀b,b<w.heap.size-> ¬T b->w'.heap[b]? =w.heap[b]?)/\
   ∃T',(∀b,T' b->b<w'.heap.size/\(T b\/w.heap.size<=b))/\((en= .returned (.bool true)/\Φ (some (k+1)) T' w')\/(en= .returned (.bool false)/\Φ none T' w')))->
  Φ (some 0) T w->
  Calls P g (.func (.yield l) #[] #[]::lb).toArray w λen w'=>(∃v,en= .returned v)/\((∃T',Φ (some N) T' w')\/(∃T',Φ none T' w'))
def Jk2(N:Nat)(t:CT):VP Unit:=t.bind λp=>match p.1 with
 | .exit _=> .fail
 |_=>match p.2.gh with
  |none=> .leaf ()
  |some k=> .need [k=N] (.leaf ())
theorem Wu5{N:Nat}{t:CT}(h:(Jk2 N t).sat (λ_=>True)):t.sat (λp=>(∀i,p.1≠ .exit i)/\(p.2.gh=none\/p.2.gh=some N)):=by
 refine VP.sat_mono ?_ (VP.sat_bind h);rintro ⟨x,s⟩ hs;have key:(match s.gh with|none=>(.leaf ():VP Unit)|some k=> .need [k=N] (.leaf ())).sat (λ_=>True)->s.gh=none\/s.gh=some N:=by
  cases hg:s.gh with
  |none=>exact λ_=> .inl rfl
  |some k=>
   intro h;have:k=N:=h.1;exact .inr (by rw [this])
 cases x with
 |exit i=>exact hs.elim
 |normal=>exact ⟨λi h=>(by cases h),key hs⟩
 |ret=>exact ⟨λi h=>(by cases h),key hs⟩
def cxY(w:World)(Φ:Option Nat->(Nat->Prop)->World->Prop):Cx:={M:=λ_=>False,Φ:=λg T w'=>w.heap.size<=w'.heap.size/\Φ g T w',K:=λ_ _=>False,saved:=[] }
theorem PD{G:List (Nat×Spec)}{L:Nat->List UL}{g:FuncId}{fn:Func}{c:Code}{caps:List AV}{N:Nat}{vals:Nat->List Value}{t:Nat->VP Unit}(hG:VN P G)(GU:P.follows .mixedOrders=true)(PH:Enters P g)(hf:P.funcs[g]? =some fn)(hb:fn.body=some c)(hrs:fn.results=#[])
  (hL: ∀l cx,VZ P {Y:=some (l,N,vals) } cx-> ∀j cj,VV c j=some cj-> ∀sp,(L l)[j]? =some sp->HL P none cx cj sp)
  (ht: ∀l,Jk2 N (D9 P G {Y:=some (l,N,vals) } (L l) c 0 {HT fn (.fn (.yield l) [] []::caps) with gh:=some 0})=t l)(h: ∀l,(t l).sat (λ_=>True)):PN P g caps N vals:=by
 refine ⟨PH,?_⟩;intro e lb w l Φ T hro hgl hT FP Z hst hy h0;have hX:VZ P {Y:=some (l,N,vals) } (cxY w Φ):=by
  refine ⟨?_,(λ_ h=>by cases h),(λ_ h=>by cases h),(λ_ h=>by cases h),(λ_ h=>by cases h),(λ_ h=>by cases h)⟩
  intro l' N' vals' hY;cases hY;refine ⟨λk T w1 w2 h hb=>⟨Ar h.1 hb.size,hst _ T w1 w2 h.2 hb⟩,λk T w1 n h hk=>?_⟩
  obtain ⟨fn,tmps,assign,body,h1,h2⟩:=hy k T w1 n h.2 hk;refine ⟨fn,tmps,assign,body,h1,h2.mono ?_⟩;rintro en w2 ⟨q1,q2,T',q3,q4⟩;refine ⟨q1,q2,T',q3,q4.imp (λq=>⟨q.1,?_,q.2⟩) (λq=>⟨q.1,?_,q.2⟩)⟩
  ·exact Ar h.1 q1
  ·exact Ar h.1 q1
 have hs:=h l;rw [←ht l] at hs;refine zC hG GU hf hb (cx:=cxY w Φ) (gh:=some 0) (T:=T) (e:=e) (avs:= .fn (.yield l) [] []::caps) hX (λ_ _ h=>h) rfl rfl (λ_ _ _ _ _ h=>h.elim) ⟨Am _,h0⟩ (λb hb=>⟨hT b hb,λZ=>(hro b Z).2 hb⟩) (λb hb=>(hro b hb).1) hgl ?_ (U5.cons (.fn (.yield l) [] [] [] [] rfl (λi a v h=>by simp at h) rfl (λi a v h=>by simp at h)) Z) (hL l _ hX) (Wu5 hs) ?_ ?_
 ·intro a ha;rcases GQ.1 ha with rfl|ha
  ·exact .fn _ [] [] (λa h=>by cases h) (λa h=>by cases h)
  ·exact FP a ha
 ·rintro x s w0 T' e' tmps w' ⟨_,hgh⟩ ⟨_,hΦ⟩ _ q2 _ _ _;refine ⟨.tuple #[],?_,⟨_,rfl⟩,?_⟩
  ·simp [results,hrs]
  ·have hΦ':=hst _ T' w0 w' hΦ q2;rcases hgh with hgh|hgh
   ·rw [hgh] at hΦ';exact .inr ⟨T',hΦ'⟩
   ·rw [hgh] at hΦ';exact .inl ⟨T',hΦ'⟩
 ·exact λx s h=>h.1
end
section
variable {P:Program}{cx:Cx}{w0:World}{T:Nat->Prop}{e:UN}{s:St}{a:Act}{w:World}
theorem F7.grow(r:F7 cx w0 T e s a w){w':World}(hb:Below w.heap.size w w'):F7 cx w0 T e s a w':=by
 have st:Step e e w w':=⟨λb hlt Z=>⟨Z,hb.block b hlt⟩,λ_ h=>⟨h,rfl,rfl⟩,hb.size⟩
 refine ⟨⟨λb hb'=>⟨(r.env.apart b hb').1,?_⟩,λb k hk=>⟨(r.env.owned b k hk).1,?_⟩,r.env.glob.step st⟩,r.below.trans (hb.mono r.hB),r.mem.ext hb st (λ_ _ h=>h),r.live,r.foe,r.xt.step st,r.slots.step st⟩
 ·have:=(r.env.apart b hb').2;have:=hb.size;omega
 ·have:=(r.env.owned b k hk).2;have:=hb.size;omega
theorem F7.moreRo(r:F7 cx w0 T e s a w)(ro':Nat->Prop)(h1: ∀b,e.ro b->ro' b)(h2: ∀b,ro' b->e.own b=none/\b<w.heap.size)(h3: ∀b,ro' b-> ¬T b):F7 cx w0 T {e with ro:=ro'} s a w:=by
 have st:Step e {e with ro:=ro'} w w:=⟨λb _ Z=>⟨h1 b Z,rfl⟩,λ_ h=>⟨h,rfl,rfl⟩,Am _⟩
 exact ⟨⟨h2,r.env.owned,r.env.glob.step st⟩,r.below,r.mem.ext (Below.refl _ _) st (λ_ _ h=>h),r.live,λb hb=>⟨(r.foe b hb).1,λh=>h3 b h hb⟩,r.xt.step st,r.slots.step st⟩
theorem F7.turn(r:F7 cx w0 T e s a w){l:Nat}{o o':Obj}(hl:w.heap[l]? =some o)(ho:o.isCells=false)(ho':o'.isCells=false)(HA:e.own l=none)(hB:w0.heap.size<=l)(hdl: ∃q,o= .loop q){K':Nat->Obj->Prop}
  (hK': ∀b q,K' b q->(b≠l/\cx.K b q)\/(b=l/\q=o'/\e.ro l)):F7 {cx with K:=K'} w0 T e s a (w.putObj l o'):=by
 have hd: ∀x,o≠ .deferred x:=by rintro x rfl;obtain ⟨_,h⟩:=hdl;cases h
 have hom: ∀es c,o≠Obj.map es c:=by rintro es c rfl;obtain ⟨_,h⟩:=hdl;cases h
 have hmp:=qR (o':=o') hl hom;have hlt:=(PB.1 hl).1;have hsz:(w.putObj l o').heap.size=w.heap.size:=World.putObj_size;have hc:=BH (o':=o') hl ho ho';refine ⟨⟨λb hb=>by rw [hsz];exact r.env.apart b hb,λb k hk=>by rw [hsz];exact r.env.owned b k hk,aO r.env.glob hl ho⟩,?_,λp A=>(r.mem p A).putObj hl hom ho ho' HA,r.live,r.foe,⟨⟨λd hd'=>?_,r.xt.defers.2⟩,λb q hq=>?_,⟨r.xt.saved.1,λi x v hx hv=>(r.xt.saved.2 i x v hx hv).sameCells hsz hc hmp⟩,by rw [hsz];exact r.xt.size⟩,r.slots.sameCells hsz hc hmp⟩
 ·exact r.below.trans ((Below.refl w0.heap.size w).grown (grownBy_putObj' w l _) (by have:=r.hB;omega) (λk he=>by cases he;exact hB))
 ·obtain ⟨D,k1,k2,k3,k4,k5⟩:=r.xt.defers.1 d hd';refine ⟨D,k1,k2,by rw [hsz];exact k3,?_,k5⟩
  rw [World.putObj_heap_other (λhe=>by subst he;rw [hl] at k4;exact hd _ (Bb k4))]
  exact k4
 ·rcases hK' b q hq with ⟨hne,hk⟩|⟨rfl,rfl,hro⟩
  ·obtain ⟨q1,q2,q3⟩:=r.xt.kept b q hk;exact ⟨q1,by rw [hsz];exact q2,(World.putObj_heap_other hne).trans q3⟩
  ·exact ⟨hro,by rw [hsz];exact hlt,World.putObj_heap_same hlt⟩
def Wd6:List Nat->List Value->List AV->List AV
 |p::ps,v::vs,σ=>Wd6 ps vs (σ.set p (.x v))
 |_,_,σ=>σ
theorem NS: ∀(ps:List Nat) (vs:List Value) (σ:List AV) (us:List Value),U5 e w σ us->U5 e w (Wd6 ps vs σ) ((ps.zip vs).foldl (λt (p:Nat×Value)=>t.set p.1 p.2) us)
 |[],_,_,_,h=>h
 |_::_,[],_,_,h=>h
 |p::ps,v::vs,_,_,h=>NS ps vs _ _ (h.set (.x v) p)
theorem rQ: ∀(l:List (Nat×Value)) (t:Array Value),(l.foldl (λt (p:Nat×Value)=>t.setIfInBounds p.1 p.2) t).toList=l.foldl (λt (p:Nat×Value)=>t.set p.1 p.2) t.toList
 |[],_=>rfl
 |p::l,t=>by simp only [List.foldl_cons];rw [rQ l];simp
def nY(s:St)(ps:List Nat)(vs:List Value):St:={s with σ:=Wd6 ps vs s.σ,sv:=s.σ::s.sv}
def MY(s:St):St:=match s.sv with
 |σ::t=>{s with σ:=σ,sv:=t}
 |[]=>s
def CB(P:Program)(G:List (Nat×Spec))(X:Ext)(L:List UL)(N:List (Pl×Nat×TypeId×Nat))(ps:List Nat)(vs:List Value)(assign body:Code)(s nxt:St)(out:G9->Option St):VP G9:=
 (D9 P G X [] assign 0 (nY s ps vs)).bind λp=>match p.1 with
  | .normal=>(D9 P G X L body 0 p.2).bind λq=>sM N nxt out (q.1,MY q.2)
  |_=> .fail
def G9.code:G9->Code
 | .normal=> .skip
 | .exit id=> .exit id
 | .ret=> .ret
end
section
variable {P:Program}{G:List (Nat×Spec)}{X:Ext}{L:List UL}
theorem oC{N:List (Pl×Nat×TypeId×Nat)}{ps:List Nat}{vs:List Value}{assign body:Code}{s nxt:St}{out:G9->Option St}{R:G9->Prop}(h:(CB P G X L N ps vs assign body s nxt out).sat R):
  (D9 P G X [] assign 0 (nY s ps vs)).sat (λp=>p.1= .normal/\(D9 P G X L body 0 p.2).sat (λq=>match q.1 with
   | .normal=>R .normal/\UD (BK (R9 N (MY q.2)) nxt)
   |y=> ∃E,out y=some E/\R y/\UD (BK (R9 N (MY q.2)) E))):=by
 refine VP.sat_mono ?_ (VP.sat_bind h);rintro ⟨y,s1⟩ h1;cases y with
 |normal=>
  refine ⟨rfl,VP.sat_mono ?_ (VP.sat_bind h1)⟩;rintro ⟨y,s'⟩ A;cases y with
  |normal=>exact ⟨(VP.sat_needT A).2,(VP.sat_needT A).1⟩
  |exit id=>
   dsimp only [sM] at A ⊢
   split at A
   ·rename_i E hE;exact ⟨E,hE,(VP.sat_needT A).2,(VP.sat_needT A).1⟩
   ·exact A.elim
  |ret=>
   dsimp only [sM] at A ⊢
   split at A
   ·rename_i E hE;exact ⟨E,hE,(VP.sat_needT A).2,(VP.sat_needT A).1⟩
   ·exact A.elim
 |exit id=>exact h1.elim
 |ret=>exact h1.elim
theorem vA(N:List (Pl×Nat×TypeId×Nat))(hG:VN P G)(hX: ∀cx,VZ P X cx)(GU:P.follows .mixedOrders=true){f:Operand}{ps:Array Nat}{assign body:Code}
  (hL: ∀j cj,VV body j=some cj-> ∀sp,L[j]? =some sp->GA P cj sp)
  {V:Type}(inv:V->St)(I:V->Prop)(idx:V->Nat)(out:V->G9->Option St){t:CT}{x0:V}(h0:I x0)(hi0:idx x0=0)
  (hok: ∀x,okB (inv x)=true)(w8: ∀x y E,out x y=some E->okB E=true)(hgh: ∀x,(inv x).gh=none)(Qs4: ∀x y E,out x y=some E->E.gh=none)
  {g:FuncId}{caps:List AV}{caps0:List AV}(hfv:rho (inv x0).σ f= .fn (.func g) [] caps0)(vH: ∀e w lb,UX e (inv x0).m w->U5 e w caps0 lb->U5 e w caps lb/\ ∀x∈caps,Idf x){M:Nat}{vals:Nat->List Value}(Qr9:PN P g caps M vals)(hps: ∀k,(vals k).length=ps.size)
  (round: ∀(Q:G9×St->Prop),t.sat Q-> ∀x,I x->(idx x<M-> ∃x',idx x'=idx x+1/\(CB P G X L N ps.toList (vals (idx x)) assign body (inv x) (inv x') (out x)).sat (λy=>match y with
   | .normal=>I x'
   |y=> ∀E,out x y=some E->Q (y,E)))/\(idx x=M->Q (.normal,inv x))):HN P (.rangeFunc f ps assign body) (GM N (HK (inv x0) t)):=by
 intro cx Zo8;refine vD (jX (hok x0) ?_);intro n Q hQ a w r;obtain ⟨w0,T0,e,hΦ0,r⟩:=r;rw [hgh] at hΦ0;refine wpIn_rangeFunc ?_;intro fn hfn;obtain ⟨rec,yX⟩: ∃rec:LoopState->Option Code->Loop,rec=λst pe=>{state:=st,pending:=pe,fn,tmps:=a.tmps,params:=ps,assign,body,defers:=w.heap.size}:=⟨_,rfl⟩
 obtain ⟨W1,hW1⟩: ∃W1,(w.alloc (.deferred (some []))).alloc (.loop (rec .ready none))=W1:=⟨_,rfl⟩;have hfe:=FM r.slots f;rw [hfv] at hfe;obtain ⟨us,lb,hv,ru,rl⟩:=hfe.fn_inv;cases ru.nil_inv;have hL1:W1.heap[w.heap.size+1]? =some (.loop (rec .ready none)):=by
  rw [←hW1];have:=World.alloc_heap_new (w.alloc (.deferred (some []))) (.loop (rec .ready none));rwa [World.size_alloc] at this
 have hD1:W1.heap[w.heap.size]? =some (.deferred (some [])):=by
  rw [←hW1];exact (Below.heap_alloc _ _ _ VX).trans (World.alloc_heap_new w _)
 have hS1:W1.heap.size=w.heap.size+2:=by rw [←hW1];simp
 have hb1:Below w.heap.size w W1:=by
  rw [←hW1];exact ((Below.refl _ w).alloc (Am _) _).alloc VX _
 have hw0:=r.hB
 -- the frame that waits
 obtain ⟨a',ha'⟩: ∃a':Act,a'={tmps:=a.tmps,defers:={target:= .collected w.heap.size,args:=#[] }::a.defers}:=⟨_,rfl⟩
 -- what is so between two calls of yield
 let own':UN->Nat->Prop:=λe b=>(∃id,e.own b=some id)\/b=w.heap.size+1
 let Φi:Option Nat->(Nat->Prop)->World->Prop:=λk T W=>match k with
  |some k=> ∃x e,I x/\idx x=k/\T=own' e/\F7 cx w0 T0 e (inv x) a' W/\e.own (w.heap.size+1)=none/\W.heap[w.heap.size+1]? =some (.loop (rec .ready none))
  |none=> ∃y E e,y≠G9.normal/\Q (y,E)/\E.gh=none/\T=own' e/\F7 cx w0 T0 e E a' W/\e.own (w.heap.size+1)=none/\W.heap[w.heap.size+1]? =some (.loop (rec .done (some y.code)))
 have hst: ∀g T w w',Φi g T w->Below w.heap.size w w'->Φi g T w':=by
  intro k T w1 w2 h hb;cases k with
  |some k=>
   obtain ⟨x,e,h1,h2,h3,h4,h5,h6⟩:=h;exact ⟨x,e,h1,h2,h3,h4.grow hb,h5,(hb.block _ (PB.1 h6).1).trans h6⟩
  |none=>
   obtain ⟨y,E,e,h1,h2,h2',h3,h4,h5,h6⟩:=h;exact ⟨y,E,e,h1,h2,h2',h3,h4.grow hb,h5,(hb.block _ (PB.1 h6).1).trans h6⟩
 -- the start
 have r1:=r.grow hb1;have hns: ∀d∈a.defers,d≠{target:= .collected w.heap.size,args:=#[] }:=by
  intro d hd he;obtain ⟨D,k1,k2,k3,k4,k5⟩:=r.xt.defers.1 d hd;rw [k1] at he;simp only [Deferred.mk.injEq,Target.collected.injEq,and_true] at he;omega
 let e1:UN:={e with ro:=λb=>e.ro b\/b=w.heap.size}
 have r2:F7 cx w0 T0 e1 (inv x0) a W1:=by
  refine r1.moreRo _ (λb h=> .inl h) ?_ ?_
  ·rintro b (h|rfl)
   ·exact r1.env.apart b h
   ·refine ⟨?_,VM⟩;cases ho:e.own w.heap.size with
    |none=>rfl
    |some k=>have:=(r.env.owned _ k ho).2;omega
  ·rintro b (h|rfl) hT
   ·exact (r.foe b hT).2 h
   ·have:=(r.foe _ hT).1;omega
 have r3:F7 cx w0 T0 e1 (inv x0) a' W1:=by
  rw [ha'];refine ⟨r2.env,r2.below,r2.mem,r2.live,r2.foe,⟨⟨λd hd=>?_,List.nodup_cons.2 ⟨λh=>hns _ h rfl,r2.xt.defers.2⟩⟩,r2.xt.kept,r2.xt.saved,r2.xt.size⟩,r2.slots⟩
  rcases GQ.1 hd with rfl|hd
  ·exact ⟨w.heap.size,rfl,.inr rfl,VM,hD1,Zo8 _ _ _ _ hΦ0 hw0 r.xt.size⟩
  ·exact r2.xt.defers.1 d hd
 have Ji2:e.own (w.heap.size+1)=none:=by
  cases ho:e.own (w.heap.size+1) with
  |none=>rfl
  |some k=>have:=(r.env.owned _ k ho).2;omega
 refine ⟨w.heap.size+1,[{target:= .collected w.heap.size,args:=#[] }],W1,{target:= .fn (.func g) lb.toArray,args:=#[.func (.yield (w.heap.size+1)) #[] #[]] },W1,g,
  #[.func (.yield (w.heap.size+1)) #[] #[]]++lb.toArray,W1,?_,?_,(λ_ _=>trivial),?_,(λh=>by cases h),?_⟩
 ·rw [←hW1,yX];exact run_enterLoop_outer _ _ _ _ _
 ·simp only [resolve,hv];simp [go_sem]
 ·simp only [invoke];exact LG Qr9.1 _ W1
 have OU:#[.func (.yield (w.heap.size+1)) #[] #[]]++lb.toArray=(Value.func (.yield (w.heap.size+1)) #[] #[]::lb).toArray:=Array.ext' VX;rw [OU];obtain ⟨rl,Jj2⟩:=vH e w lb r.mem rl;have stw:Step e e1 w W1:=⟨λb hlt Z=>⟨.inl Z,hb1.block b hlt⟩,λ_ h=>⟨h,rfl,rfl⟩,hb1.size⟩
 have FK:=Qr9.2 e1 lb W1 (w.heap.size+1) Φi (own' e1) ?_ (r.env.glob.step stw) ?_ Jj2 (rl.step stw) hst ?_ ⟨x0,e1,h0,hi0,rfl,r3,Ji2,hL1⟩
 ·refine IZ (FK.mono ?_);have hw4: ∀{W:World} {s:St} {e:UN} {o:Loop} {o':Loop},F7 cx w0 T0 e s a' W->e.own (w.heap.size+1)=none->W.heap[w.heap.size+1]? =some (.loop o)->s.gh=none->Rel cx s a' (W.putObj (w.heap.size+1) (.loop o')):=by
   intro W s e o o' Z ho hl hg;have hne: ∀b q,cx.K b q->b≠w.heap.size+1:=by
    rintro b q hk rfl;have h1:=r.xt.kept _ q hk;omega
   have:=Z.turn (K':=cx.K) hl rfl (o':= .loop o') rfl ho VM ⟨_,rfl⟩ (λb q hk=> .inl ⟨hne b q hk,hk⟩)
   exact ⟨w0,T0,e,by rw [hg];exact hΦ0,this⟩
  rintro en W ⟨⟨v,rfl⟩,h⟩;rcases h with ⟨T',x,e',q1,q2,q3,q4,q5,q6⟩|⟨T',y,E,e',q1,q2,q2',q3,q4,q5,q6⟩
  ·refine ⟨none,_,by have:=run_endLoop (P:=P) q6 (by rw [yX];simp);rw [yX] at this;exact this,?_⟩
   have:=hw4 (o':={rec .ready none with state:= .exhausted}) q4 q5 q6 (hgh x)
   rw [ha',yX] at this;exact ⟨.normal,inv x,rfl,(round Q hQ x q1).2 q2,this⟩
  ·have PI:(Instr.endLoop (w.heap.size+1)).run P W= .ok (some y.code) (W.putObj (w.heap.size+1) (.loop {rec .done (some y.code) with state:= .exhausted})):=by
    have:=run_endLoop (P:=P) q6 (by rw [yX];simp)
    rw [yX] at this ⊢;exact this
   refine ⟨some y.code,_,PI,?_⟩;have:=hw4 (o':={rec .done (some y.code) with state:= .exhausted}) q4 q5 q6 q2'
   rw [ha'] at this;cases y with
   |normal=>exact (q1 rfl).elim
   |exit id=>exact wpIn_exit ⟨.exit id,E,rfl,q2,this⟩
   |ret=>exact wpIn_ret ⟨.ret,E,rfl,q2,this⟩
 ·rintro b (h|rfl)
  ·refine ⟨by have:=(r.env.apart b h).2;omega,?_⟩
   rintro (⟨id,h2⟩|rfl)
   ·have h2':e.own b=some id:=h2;rw [(r.env.apart b h).1] at h2';cases h2'
   ·have:=(r.env.apart _ h).2;omega
  ·refine ⟨VM,?_⟩;rintro (⟨id,h2⟩|h2)
   ·have:=(r.env.owned _ id h2).2;omega
   ·omega
 ·rintro b (⟨id,h⟩|rfl)
  ·have:=(r.env.owned b id h).2;omega
  ·omega
 ·-- a round
  rintro k T W m ⟨x,ek,hIx,rfl,rfl,rk,hkl,hkr⟩ hkM;obtain ⟨x',hx',jA⟩:=(round Q hQ x hIx).1 hkM;have hWl:=(PB.1 hkr).1;have hy:=run_yield (P:=P) (args:=(vals (idx x)).toArray) hkr (by rw [yX];simp [hps])
  rw [yX] at hy;refine ⟨fn,_,assign,body,hy,roundIn_of_wpIn hfn ?_⟩;clear hy
  -- the blocks that stay
  let nown:Nat->Prop:=λb=>w0.heap.size<=b/\b<W.heap.size/\ek.own b=none
  let K0:Nat->Obj->Prop:=λb o=>(cx.K b o\/(nown b/\W.heap[b]? =some o)\/(∃d∈a'.defers,d={target:= .collected b,args:=#[] }/\o= .deferred (some [])))/\b≠w.heap.size+1
  let cxk:(Nat->Obj->Prop)->Cx:=λK=>{M:=λ_=>False,Φ:=λg T w=>g=none/\w=w0/\T=T0,K:=K,saved:=a.tmps.toList::cx.saved,sz:=W.heap.size}
  let e2:UN:={ek with ro:=λb=>ek.ro b\/nown b}
  have rk2:F7 cx w0 T0 e2 (inv x) a' W:=by
   refine rk.moreRo _ (λb h=> .inl h) ?_ ?_
   ·rintro b (h|⟨h1,h2,h3⟩)
    ·exact rk.env.apart b h
    ·exact ⟨h3,h2⟩
   ·rintro b (h|⟨h1,h2,h3⟩) hT
    ·exact (rk.foe b hT).2 h
    ·have:=(rk.foe b hT).1;omega
  have hKok: ∀b o,K0 b o->e2.ro b/\b<W.heap.size/\W.heap[b]? =some o:=by
   rintro b o ⟨h|⟨h1,h2⟩|⟨d,hd,h1,rfl⟩,_⟩
   ·exact rk2.xt.kept b o h
   ·exact ⟨.inr h1,h1.2.1,h2⟩
   ·obtain ⟨D,k1,k2,k3,k4,k5⟩:=rk2.xt.defers.1 d hd;rw [h1] at k1;simp only [Deferred.mk.injEq,Target.collected.injEq,and_true] at k1;subst k1;exact ⟨k2,k3,k4⟩
  have hlro:e2.ro (w.heap.size+1):= .inr ⟨VM,hWl,hkl⟩;have rs:Rel (cxk (λb o=>K0 b o\/(b=w.heap.size+1/\o= .loop (rec .ready none)))) (nY (inv x) ps.toList (vals (idx x))) {tmps:=(ps.zip (vals (idx x)).toArray).foldl (λt (p,v)=>t.setIfInBounds p v) a.tmps,defers:=[] } W:=by
   refine ⟨w0,T0,e2,⟨hgh x,rfl,rfl⟩,rk2.env,rk2.below,rk2.mem,rk2.live,rk2.foe,⟨⟨(λd hd=>by cases hd),List.nodup_nil⟩,?_,LC.cons (by rw [ha'] at rk2;exact rk2.slots) rk2.xt.saved,Am _⟩,?_⟩
   ·rintro b o (h|⟨rfl,rfl⟩)
    ·exact hKok b o h
    ·exact ⟨hlro,hWl,hkr⟩
   ·have h1:=NS (e:=e2) (w:=W) ps.toList (vals (idx x)) (inv x).σ a.tmps.toList (by rw [ha'] at rk2;exact rk2.slots)
    have h2:((ps.zip (vals (idx x)).toArray).foldl (λt (p,v)=>t.setIfInBounds p v) a.tmps).toList=(ps.toList.zip (vals (idx x))).foldl (λt (p:Nat×Value)=>t.set p.1 p.2) a.tmps.toList:=by
     rw [←rQ,←Array.foldl_toList];simp
    rw [h2];exact h1
  have FL:=oC jA;refine wpIn_mono (DB hG (hX _) GU (ro:=some (w.heap.size+1)) assign 0 _ _ _ W G7 FL rs) ?_;rintro ex a1 W1' ⟨y1,s1,rfl,⟨hy1,Jj4⟩,w0',T',ea,⟨hg1,rfl,rfl⟩,ra⟩;cases hy1;obtain ⟨hlr,hll,hlh⟩:=ra.xt.kept (w.heap.size+1) (.loop (rec .ready none)) (.inr ⟨rfl,rfl⟩);refine ⟨_,run_beginRound hlh (by rw [yX]),?_⟩
  have rb:=ra.turn (K':=λb o=>K0 b o\/(b=w.heap.size+1/\o= .loop {rec .ready none with state:= .busy})) hlh rfl (o':= .loop {rec .ready none with state:= .busy}) rfl (ra.env.apart _ hlr).1 VM ⟨_,rfl⟩ (by
   rintro b q (h|⟨rfl,rfl⟩)
   ·exact .inl ⟨h.2,.inl h⟩
   ·exact .inr ⟨rfl,rfl,hlr⟩)
  refine wpIn_mono (DB hG (hX _) GU (ro:=some (w.heap.size+1)) (cx:=cxk (λb o=>K0 b o\/(b=w.heap.size+1/\o= .loop {rec .ready none with state:= .busy}))) body 0 s1 _ a1 _ (λj cj hj sp hsp=>hL j cj hj sp (by simpa using hsp) _ _) Jj4 ⟨w0',T',ea,⟨hg1,rfl,rfl⟩,rb⟩) ?_
  rintro ex a3 W3 ⟨y,s3,rfl,hq,w0'',T'',eb,⟨hg3,hw0e,hT0e⟩,rc⟩;subst hw0e hT0e;obtain ⟨Ji9,hll3,Jj0⟩:=rc.xt.kept (w.heap.size+1) _ (.inr ⟨rfl,rfl⟩)
  -- back to the frame that waits
  have back: ∀(jump:Option Code) (E:St),UD (BK (R9 N (MY s3)) E)->okB E=true->
    (Instr.endRound (w.heap.size+1) jump).run P W3= .ok (.bool jump.isNone) (W3.putObj (w.heap.size+1) (.loop (rec (if jump.isNone then .ready else .done) jump)))/\
    ∃ec,F7 cx w0'' T'' ec E a' (W3.putObj (w.heap.size+1) (.loop (rec (if jump.isNone then .ready else .done) jump)))/\ec.own (w.heap.size+1)=none/\
     (W3.putObj (w.heap.size+1) (.loop (rec (if jump.isNone then .ready else .done) jump))).heap[w.heap.size+1]? =some (.loop (rec (if jump.isNone then .ready else .done) jump))/\
     W.heap.size<=(W3.putObj (w.heap.size+1) (.loop (rec (if jump.isNone then .ready else .done) jump))).heap.size/\
     (∀b,b<W.heap.size-> ¬own' ek b->(W3.putObj (w.heap.size+1) (.loop (rec (if jump.isNone then .ready else .done) jump))).heap[b]? =W.heap[b]?)/\
     ∀b,own' ec b->b<(W3.putObj (w.heap.size+1) (.loop (rec (if jump.isNone then .ready else .done) jump))).heap.size/\(own' ek b\/W.heap.size<=b):=by
   intro jump E pY hokE;have DS:=run_endRound (P:=P) jump Jj0;refine ⟨by rw [yX] at DS ⊢;exact DS,?_⟩
   obtain ⟨W4,hW4⟩: ∃W4,W4=W3.putObj (w.heap.size+1) (.loop (rec (if jump.isNone then .ready else .done) jump)):=⟨_,rfl⟩
   rw [←hW4];have rd:=rc.turn (K':=K0) Jj0 rfl (o':= .loop (rec (if jump.isNone then .ready else .done) jump)) rfl (rc.env.apart _ Ji9).1 VM ⟨_,rfl⟩ (λb q h=> .inl ⟨h.2,.inl h⟩)
   rw [←hW4] at rd;have hl4:W4.heap[w.heap.size+1]? =some (.loop (rec (if jump.isNone then .ready else .done) jump)):=by rw [hW4];exact World.putObj_heap_same hll3
   have Jh4:W.heap.size<=W4.heap.size:=rd.xt.size
   -- the frame's own state, in a run that is pinned
   let cxp:Cx:={M:=λD=>cx.M D,Φ:=λg T w=>g=none/\w=w0''/\T=T'',K:=λb o=>K0 b o\/(b=w.heap.size+1/\o= .loop (rec (if jump.isNone then .ready else .done) jump)),saved:=cx.saved,sz:=cx.sz}
   have hpop:Rel cxp (MY s3) a' W4:=by
    obtain ⟨σ0,l',hsv,hs1,hs2⟩:=rd.xt.saved.cons_inv;refine ⟨w0'',T'',eb,?_,rd.env,rd.below,?_,?_,rd.foe,⟨⟨λd hd=>?_,?_⟩,?_,?_,Ar rk.xt.size Jh4⟩,?_⟩
    ·exact ⟨by unfold MY;rw [hsv];exact hg3,rfl,rfl⟩
    ·unfold MY;rw [hsv];exact rd.mem
    ·unfold MY;rw [hsv];exact rd.live
    ·obtain ⟨D,k1,k2,k3,k4,k5⟩:=rk.xt.defers.1 d hd;have hDl:D≠w.heap.size+1:=by
      rintro rfl;rw [hkr] at k4;cases k4
     obtain ⟨q1,q2,q3⟩:=rd.xt.kept D (.deferred (some [])) ⟨.inr (.inr ⟨d,hd,k1,rfl⟩),hDl⟩;exact ⟨D,k1,q1,q2,q3,k5⟩
    ·exact rk.xt.defers.2
    ·rintro b o (h|⟨rfl,rfl⟩)
     ·exact rd.xt.kept b o h
     ·exact ⟨Ji9,(PB.1 hl4).1,hl4⟩
    ·unfold MY;rw [hsv];exact hs2
    ·unfold MY;rw [hsv];rw [ha'];exact hs1
   obtain ⟨w0p,Tp,ec,⟨_,rfl,rfl⟩,re⟩:=FX (GF pY) hokE (DI (l:=N) hpop);have hlec:=re.xt.kept _ _ (Or.inr ⟨rfl,rfl⟩);refine ⟨ec,⟨re.env,re.below,re.mem,re.live,re.foe,⟨re.xt.defers,λb o h=>?_,re.xt.saved,re.xt.size⟩,re.slots⟩,(re.env.apart _ hlec.1).1,hl4,Jh4,?_,?_⟩
   ·refine re.xt.kept b o (.inl ⟨.inl h,?_⟩);rintro rfl;have h1:=r.xt.kept _ o h;omega
   ·intro b hb hno;rcases An b w0p.heap.size with h1|h1
    ·rw [re.below.block b h1,rk.below.block b h1]
    ·have hbn:ek.own b=none:=by
      cases ho:ek.own b with
      |none=>rfl
      |some id=>exact (hno (.inl ⟨id,ho⟩)).elim
     have hbl:b≠w.heap.size+1:=λh=>hno (.inr h)
     have hlt:b<W.heap.size:=hb;obtain ⟨_,_,q3⟩:=re.xt.kept b W.heap[b] (.inl ⟨.inr (.inl ⟨⟨h1,hlt,hbn⟩,by simp [hlt]⟩),hbl⟩)
     rw [q3];simp [hlt]
   ·rintro b (⟨id,h⟩|rfl)
    ·obtain ⟨q1,q2⟩:=re.env.owned b id h;refine ⟨q2,?_⟩;rcases An b W.heap.size with h1|h1
     ·refine .inl ?_;cases ho:ek.own b with
      |some id'=>exact .inl ⟨id',ho⟩
      |none=>
       rcases Classical.em (b=w.heap.size+1) with h2|h2
       ·exact .inr h2
       ·exfalso;obtain ⟨q3,_,_⟩:=re.xt.kept b W.heap[b] (.inl ⟨.inr (.inl ⟨⟨q1,h1,ho⟩,by simp [h1]⟩),h2⟩)
        rw [(re.env.apart b q3).1] at h;cases h
     ·exact .inr h1
    ·exact ⟨(PB.1 hl4).1,.inl (.inr rfl)⟩
  cases y with
  |normal=>
   obtain ⟨hI',pY⟩:=hq;obtain ⟨DS,ec,q1,q2,q3,q4,q5,q6⟩:=back none (inv x') pY (hok x');exact ⟨_,_,DS,q4,q5,own' ec,q6,.inl ⟨rfl,x',ec,hI',hx',rfl,q1,q2,q3⟩⟩
  |exit id=>
   obtain ⟨E,hE,hQE,pY⟩:=hq;obtain ⟨DS,ec,q1,q2,q3,q4,q5,q6⟩:=back (some (.exit id)) E pY (w8 x _ E hE);exact ⟨_,_,DS,q4,q5,own' ec,q6,.inr ⟨rfl,.exit id,E,ec,(λh=>by cases h),hQE E hE,Qs4 x _ E hE,rfl,q1,q2,q3⟩⟩
  |ret=>
   obtain ⟨E,hE,hQE,pY⟩:=hq;obtain ⟨DS,ec,q1,q2,q3,q4,q5,q6⟩:=back (some .ret) E pY (w8 x _ E hE);exact ⟨_,_,DS,q4,q5,own' ec,q6,.inr ⟨rfl,.ret,E,ec,(λh=>by cases h),hQE E hE,Qs4 x _ E hE,rfl,q1,q2,q3⟩⟩
theorem LH(N:List (Pl×Nat×TypeId×Nat))(hG:VN P G)(hX: ∀cx,VZ P X cx)(GU:P.follows .mixedOrders=true){f:Operand}{ps:Array Nat}{assign body:Code}
  (hL: ∀j cj,VV body j=some cj-> ∀sp,L[j]? =some sp->GA P cj sp)
  {V:Type}(inv:V->St)(I:V->Prop)(idx:V->Nat)(out:V->G9->Option St){t:CT}{x0:V}(h0:I x0)(hi0:idx x0=0)
  (hok: ∀x,okB (inv x)=true)(w8: ∀x y E,out x y=some E->okB E=true)(hgh: ∀x,(inv x).gh=none)(Qs4: ∀x y E,out x y=some E->E.gh=none)
  {g:FuncId}{caps:List AV}(hfv:rho (inv x0).σ f= .fn (.func g) [] caps)(vH:caps.all (AA 6)=true){M:Nat}{vals:Nat->List Value}(Qr9:PN P g caps M vals)(hps: ∀k,(vals k).length=ps.size)
  (round: ∀(Q:G9×St->Prop),t.sat Q-> ∀x,I x->(idx x<M-> ∃x',idx x'=idx x+1/\(CB P G X L N ps.toList (vals (idx x)) assign body (inv x) (inv x') (out x)).sat (λy=>match y with
   | .normal=>I x'
   |y=> ∀E,out x y=some E->Q (y,E)))/\(idx x=M->Q (.normal,inv x))):HN P (.rangeFunc f ps assign body) (GM N (HK (inv x0) t)):=by
 refine vA N hG hX GU hL inv I idx out h0 hi0 hok w8 hgh Qs4 (caps:=caps) hfv ?_ Qr9 hps round;intro e w lb _ rl;refine ⟨rl,λx hx=>?_⟩
 obtain ⟨i,O⟩:=xC.1 hx;obtain ⟨v,_,rv⟩:=rl.get O;exact kN 6 x v rv (B7.1 vH x hx)
def A7(m:H5):Nat->AV->AV
 | 0,a=>match a with
  | .lit b=> .lit b
  | .x v=> .x v
  | .ro l=> .ro l
  | .lst a b c=> .lst a b c
  | .roI a b c d=> .roI a b c d
  |_=> .top
 |d+1,a=>match a with
  | .ptr id off=>match DJ m id with
   |some (.keep _ l)=> .ro ((l.drop off).map (A7 m d))
   |_=> .top
  | .agg l=> .agg (l.map (A7 m d))
  | .tup l=> .tup (l.map (A7 m d))
  | .fn f l l'=> .fn f (l.map (A7 m d)) (l'.map (A7 m d))
  | .row _=> .top
  | .elt _ _ _ _=> .top
  | .mp _=> .top
  |a=>a
theorem EY{e:UN}{w:World}{m:H5}(hm:UX e m w): ∀(d:Nat) (a:AV) (v:Value),Rep e w a v->Idf (A7 m d a)
 | 0,a,v,h=>by
  cases h with
  |lit b=>exact .lit b
  |x v=>exact .x v
  |ro l vs b o h1 h2 h3 h4 h5 h6=>exact .ro l h3
  |lstNil sz f=>exact .lst sz 0 f (λi O=>VM)
  |lst sz n f b o cap g h1 h2 h3 h4 h5 h6 h7 h8 ad had=>exact .lst sz n f h3
  |roI pre n f off b o Z=>cases Z with|ro _ vs _ _ h1 h2 h3 h4 h5 h6=>exact .roI pre n f off (.ro _ h3)
  |_=>exact .top
 |d+1,a,v,h=>by
  have ih:=EY hm d;cases h with
  |top v=>exact .top
  |lit b=>exact .lit b
  |x v=>exact .x v
  |agg l vs h1 h2=>exact .agg _ (DW ih (⟨h1,h2⟩:U5 e w l vs))
  |tup l vs h1 h2=>exact .tup _ (DW ih (⟨h1,h2⟩:U5 e w l vs))
  |fn f l l' vs vs' h1 h2 h3 h4=>exact .fn f _ _ (DW ih (⟨h1,h2⟩:U5 e w l vs)) (DW ih (⟨h3,h4⟩:U5 e w l' vs'))
  |ptr id off hl=>
   simp only [A7];split
   ·rename_i T l hg;obtain ⟨_,_,_,vs,h3,h4⟩:=hm _ (G0 hg);exact .ro _ (DW ih (h4.drop off))
   ·exact .top
  |row id a n c hl hv=>exact .top
  |elt id sz i j b n cap hl hv=>exact .top
  |mp id hl=>exact .top
  |mpr g okf vals b es c h1 h2 h3 h4 h5 h6 h7 h8=>exact .mpr g okf h3
  |any1 v hv=>exact .any1
  |roI pre n f off b o Z=>cases Z with|ro _ vs _ _ h1 h2 h3 h4 h5 h6=>exact .roI pre n f off (.ro _ h3)
  |ro l vs b o h1 h2 h3 h4 h5 h6=>exact .ro l h3
  |lstNil sz f=>exact .lst sz 0 f (λi O=>VM)
  |lst sz n f b o cap g h1 h2 h3 h4 h5 h6 h7 h8 ad had=>exact .lst sz n f h3
theorem iO{e:UN}{w:World}{m:H5}(hm:UX e m w): ∀(d:Nat) (a:AV) (v:Value),Rep e w a v->Rep e w (A7 m d a) v
 | 0,a,v,h=>by
  cases a<;>first|exact h|exact .top v
 |d+1,a,v,h=>by
  have ih:=iO hm d;have ihf:=EY hm d;cases h with
  |agg l vs h1 h2=>exact Rep.aggL (U5.map _ ih ⟨h1,h2⟩)
  |tup l vs h1 h2=>exact Rep.tupL (U5.map _ ih ⟨h1,h2⟩)
  |fn f l l' vs vs' h1 h2 h3 h4=>
   have k1:U5 e w l vs:=⟨h1,h2⟩;have k2:U5 e w l' vs':=⟨h3,h4⟩;exact .fn f _ _ vs vs' (U5.map _ ih k1).1 (U5.map _ ih k1).2 (U5.map _ ih k2).1 (U5.map _ ih k2).2
  |ptr id off hl=>
   simp only [A7];split
   ·rename_i T l hg;obtain ⟨_,hro,hlt,vs,h3,h4⟩:=hm _ (G0 hg);have k:=U5.map (A7 m d) ih (h4.drop off);refine .ro _ (vs.drop off) (e.blk id) off hro hlt (DW ihf (h4.drop off)) k.1 ?_ k.2;intro j v hj;rw [List.getElem?_drop] at hj;simp [World.cell?,h3,hj]
   ·exact .top _
  |row id a n c hl hv=>exact .top _
  |elt id sz i j b n cap hl hv=>exact .top _
  |mp id hl=>exact .top _
  |mpr g okf vals b es c h1 h2 h3 h4 h5 h6 h7 h8=>exact .mpr g okf vals b es c h1 h2 h3 h4 h5 h6 h7 h8
  |any1 v hv=>exact .any1 v hv
  |top v=>exact .top v
  |lit b=>exact .lit b
  |x v=>exact .x v
  |roI pre n f off b o Z=>exact .roI pre n f off b o Z
  |ro l vs b o h1 h2 h3 h4 h5 h6=>exact .ro l vs b o h1 h2 h3 h4 h5 h6
  |lstNil sz f=>exact .lstNil sz f
  |lst sz n f b o cap g h1 h2 h3 h4 h5 h6 h7 h8 ad had=>exact .lst sz n f b o cap g h1 h2 h3 h4 h5 h6 h7 h8 ad had
theorem v9(N:List (Pl×Nat×TypeId×Nat))(hG:VN P G)(hX: ∀cx,VZ P X cx)(GU:P.follows .mixedOrders=true){f:Operand}{ps:Array Nat}{assign body:Code}
  (hL: ∀j cj,VV body j=some cj-> ∀sp,L[j]? =some sp->GA P cj sp)
  {V:Type}(inv:V->St)(I:V->Prop)(idx:V->Nat)(out:V->G9->Option St){t:CT}{x0:V}(h0:I x0)(hi0:idx x0=0)
  (hok: ∀x,okB (inv x)=true)(w8: ∀x y E,out x y=some E->okB E=true)(hgh: ∀x,(inv x).gh=none)(Qs4: ∀x y E,out x y=some E->E.gh=none)
  {g:FuncId}{caps:List AV}{caps0:List AV}(hfv:rho (inv x0).σ f= .fn (.func g) [] caps0)(vH:caps0.map (A7 (inv x0).m 6)=caps){M:Nat}{vals:Nat->List Value}(Qr9:PN P g caps M vals)(hps: ∀k,(vals k).length=ps.size)
  (round: ∀(Q:G9×St->Prop),t.sat Q-> ∀x,I x->(idx x<M-> ∃x',idx x'=idx x+1/\(CB P G X L N ps.toList (vals (idx x)) assign body (inv x) (inv x') (out x)).sat (λy=>match y with
   | .normal=>I x'
   |y=> ∀E,out x y=some E->Q (y,E)))/\(idx x=M->Q (.normal,inv x))):HN P (.rangeFunc f ps assign body) (GM N (HK (inv x0) t)):=by
 subst vH;refine vA N hG hX GU hL inv I idx out h0 hi0 hok w8 hgh Qs4 (caps:=caps0.map (A7 (inv x0).m 6)) hfv ?_ Qr9 hps round;intro e w lb hm rl;exact ⟨U5.map _ (iO hm 6) rl,DW (EY hm 6) rl⟩
end
def P5(P:Program)(f:FuncId)(s:Spec):Prop:=Enters P f/\ ∀avs ns res,s avs=some (ns,res)->(∀p∈ns,p)->FF P f avs res
def VT(P:Program)(R:List (Nat×Spec)):Prop:= ∀p∈R,P5 P p.1 p.2
def VQ(P:Program)(H:List (Nat×D6)):Prop:= ∀p∈H,GE P p.1 p.2
theorem VT.nil(P:Program):VT P []:=λ_ h=>by cases h
theorem VT.cons{P:Program}{f:Nat}{s:Spec}{R:List (Nat×Spec)}(h:P5 P f s)(k:VT P R):VT P ((f,s)::R):=by
 intro p A;rcases GQ.1 A with rfl|A
 ·exact h
 ·exact k p A
theorem VQ.nil(P:Program):VQ P []:=λ_ h=>by cases h
theorem VQ.cons{P:Program}{f:Nat}{s:D6}{R:List (Nat×D6)}(h:GE P f s)(k:VQ P R):VQ P ((f,s)::R):=by
 intro p A;rcases GQ.1 A with rfl|A
 ·exact h
 ·exact k p A
theorem VZ.of{P:Program}{R:List (Nat×Spec)}{H:List (Nat×D6)}(hR:VT P R)(hH:VQ P H)(cx:Cx):VZ P {R:=R,H:=H} cx:=⟨(λ_ _ _ h=>by cases h),hR,hH,(λ_ h=>by cases h),(λ_ h=>by cases h),(λ_ h=>by cases h)⟩
def UE(P:Program)(C:List (Nat×DK)):Prop:= ∀p∈C,Enters P p.1/\ ∀avs t,p.2 avs=some t->UQ P p.1 avs t
theorem UE.nil(P:Program):UE P []:=λ_ h=>by cases h
theorem UE.cons{P:Program}{f:Nat}{s:DK}{C:List (Nat×DK)}(h:Enters P f/\ ∀avs t,s avs=some t->UQ P f avs t)(k:UE P C):UE P ((f,s)::C):=by
 intro p A;rcases GQ.1 A with rfl|A
 ·exact h
 ·exact k p A
theorem VZ.ofC{P:Program}{R:List (Nat×Spec)}{H:List (Nat×D6)}{C:List (Nat×DK)}(hR:VT P R)(hH:VQ P H)(hC:UE P C)(cx:Cx):VZ P {R:=R,H:=H,C:=C} cx:=⟨(λ_ _ _ h=>by cases h),hR,hH,hC,(λ_ h=>by cases h),(λ_ h=>by cases h)⟩
def RY(P:Program)(F:List (Nat×BQ)):Prop:= ∀p∈F,Enters P p.1/\ ∀avs ns T sz n g,p.2 avs=some (ns,T,sz,n,g)->(∀q∈ns,q)->DR P p.1 avs T sz n g
theorem RY.nil(P:Program):RY P []:=λ_ h=>by cases h
theorem RY.cons{P:Program}{f:Nat}{s:BQ}{F:List (Nat×BQ)}(h:Enters P f/\ ∀avs ns T sz n g,s avs=some (ns,T,sz,n,g)->(∀q∈ns,q)->DR P f avs T sz n g)(k:RY P F):RY P ((f,s)::F):=by
 intro p A;rcases GQ.1 A with rfl|A
 ·exact h
 ·exact k p A
def B9(P:Program)(D:List (Nat×DK)):Prop:= ∀p∈D,Enters P p.1/\ ∀avs t,p.2 avs=some t->PO P p.1 avs t
theorem B9.nil(P:Program):B9 P []:=λ_ h=>by cases h
theorem B9.cons{P:Program}{f:Nat}{s:DK}{D:List (Nat×DK)}(h:Enters P f/\ ∀avs t,s avs=some t->PO P f avs t)(k:B9 P D):B9 P ((f,s)::D):=by
 intro p A;rcases GQ.1 A with rfl|A
 ·exact h
 ·exact k p A
theorem VZ.ofF{P:Program}{R:List (Nat×Spec)}{H:List (Nat×D6)}{C:List (Nat×DK)}{F:List (Nat×BQ)}{D:List (Nat×DK)}(hR:VT P R)(hH:VQ P H)(hC:UE P C)(hF:RY P F)(hD:B9 P D)(cx:Cx):VZ P {R:=R,H:=H,C:=C,F:=F,D:=D} cx:=⟨(λ_ _ _ h=>by cases h),hR,hH,hC,hF,hD⟩
open Go Go.RowKit Go.ChangeShapes Go.WideShapes
inductive SK where
 |int (k:IntKind)
 |bool
 |str
def pO:SK->Value->Prop
 | .int k,v=> ∃n,v= .int k n/\(Lit.int k n).wf=true
 | .bool,v=> ∃b,v= .bool b
 | .str,v=> ∃s,v= .string s
def LQ(ks:List SK)(vs:List Value):Prop:=ks.length=vs.length/\ ∀(j:Nat) (k:SK) (v:Value),ks[j]? =some k->vs[j]? =some v->pO k v
def IN(P:Program)(g:TypeId->Option (List SK)):List Field->Nat->Option (List SK)
 |[],_=>some []
 |f::fs,off=>match g f.type with
  |some ks=>match Nat.beq f.offset off&&Nat.beq ks.length (P.cellsOf f.type) with
   |true=>match IN P g fs (off+ks.length) with
    |some r=>some (ks++r)
    |none=>none
   |false=>none
  |none=>none
def RA(P:Program):Nat->TypeId->Option (List SK)
 | 0,_=>none
 |d+1,t=>match P.underlying t with
  |some (.int k)=>some [.int k]
  |some .bool=>some [.bool]
  |some .string=>some [.str]
  |some (.struct fs)=>match IN P (RA P d) fs.toList 0 with
   |some ks=>match Nat.beq ks.length (P.cellsOf t) with
    |true=>some ks
    |false=>none
   |none=>none
  |_=>none
inductive MK where
 |sc (k:SK)
 |sl (t e:TypeId) (ks:List SK)
def IM(P:Program)(g:TypeId->Option (List MK)):List Field->Nat->Option (List MK)
 |[],_=>some []
 |f::fs,off=>match g f.type with
  |some ks=>match Nat.beq f.offset off&&Nat.beq ks.length (P.cellsOf f.type) with
   |true=>match IM P g fs (off+ks.length) with
    |some r=>some (ks++r)
    |none=>none
   |false=>none
  |none=>none
def kT(P:Program):Nat->TypeId->Option (List MK)
 | 0,_=>none
 |d+1,t=>match P.underlying t with
  |some (.int k)=>some [.sc (.int k)]
  |some .bool=>some [.sc .bool]
  |some .string=>some [.sc .str]
  |some (.slice e)=>match RA P 9 e with
   |some ks=>match Nat.beq ks.length (P.cellsOf e) with
    |true=>some [.sl t e ks]
    |false=>none
   |none=>none
  |some (.struct fs)=>match IM P (kT P d) fs.toList 0 with
   |some ks=>match Nat.beq ks.length (P.cellsOf t) with
    |true=>some ks
    |false=>none
   |none=>none
  |_=>none
def dJ:List TypeId->List MK->Bool
 |[],[]=>true
 |u::ts,.sl t _ _::ms=>Nat.beq u t&&dJ ts ms
 |_::ts,.sc _::ms=>dJ ts ms
 |_,_=>false
def Zz6(P:Program)(t:TypeId)(ms:List MK):Bool:=match P.cellTypes P.depth t with
 |some ts=>dJ ts ms&&Nat.beq ms.length (P.cellsOf t)
 |none=>false
theorem AZ: ∀{ts:List TypeId} {ms:List MK},dJ ts ms=true->ts.length=ms.length
 |[],[],_=>rfl
 |[],_::_,h=>by simp [dJ] at h
 |u::ts,[],h=>by simp [dJ] at h
 |u::ts,.sl t _ _::ms,h=>by
  simp only [dJ,HC] at h;rw [Bj,Bj,AZ h.2]
 |u::ts,.sc _::ms,h=>by
  simp only [dJ] at h;rw [Bj,Bj,AZ h]
theorem C0: ∀{ts:List TypeId} {ms:List MK} {j:Nat} {t e:TypeId} {ks:List SK},dJ ts ms=true->ms[j]? =some (.sl t e ks)->ts[j]? =some t
 |[],[],j,t,e,ks,_,hj=>by simp at hj
 |[],_::_,_,_,_,_,h,_=>by simp [dJ] at h
 |u::ts,[],_,_,_,_,h,_=>by simp [dJ] at h
 |u::ts,.sl t' _ _::ms,j,t,e,ks,h,hj=>by
  simp only [dJ,HC] at h;cases j with
  |zero=>
   simp at hj;obtain ⟨rfl,_,_⟩:=hj;have:=H2 h.1;simp [this]
  |succ j=>simpa using C0 h.2 (by simpa using hj)
 |u::ts,.sc _::ms,j,t,e,ks,h,hj=>by
  simp only [dJ] at h;cases j with
  |zero=>simp at hj
  |succ j=>simpa using C0 h (by simpa using hj)
def NJ(r:MK->Value->Prop)(ks:List MK)(vs:List Value):Prop:=ks.length=vs.length/\ ∀(j:Nat) (k:MK) (v:Value),ks[j]? =some k->vs[j]? =some v->r k v
theorem NJ.append{r:MK->Value->Prop}{ks ks':List MK}{vs vs':List Value}(h:NJ r ks vs)(h':NJ r ks' vs'):NJ r (ks++ks') (vs++vs'):=by
 refine ⟨by simp [h.1,h'.1],λj k v hk hv=>?_⟩
 rw [List.getElem?_append] at hk hv;rw [←h.1] at hv;split at hk
 ·rename_i O;rw [if_pos O] at hv;exact h.2 _ _ _ hk hv
 ·rename_i O;rw [if_neg O] at hv;exact h'.2 _ _ _ hk hv
theorem NJ.one{r:MK->Value->Prop}{k:MK}{v:Value}(h:r k v):NJ r [k] [v]:=by
 refine ⟨rfl,λj k' v' hk hv=>?_⟩
 cases j with
 |zero=>simp at hk hv;subst hk;subst hv;exact h
 |succ j=>simp at hk
section
variable {H:Type}{enc:TypeId×Value->H}{P:Program}{w:World}{base:Nat}{spare:Nat->Bool}{w9:Bool}
theorem LQ.append{ks ks':List SK}{vs vs':List Value}(h:LQ ks vs)(h':LQ ks' vs'):LQ (ks++ks') (vs++vs'):=by
 refine ⟨by simp [h.1,h'.1],λj k v hk hv=>?_⟩
 rw [List.getElem?_append] at hk hv;rw [←h.1] at hv;split at hk
 ·rename_i O;rw [if_pos O] at hv;exact h.2 _ _ _ hk hv
 ·rename_i O;rw [if_neg O] at hv;exact h'.2 _ _ _ hk hv
theorem S4{g:TypeId->Option (List SK)}{cs:List Value}(hg: ∀t ks (off:Nat),g t=some ks->(∃n x,DataW.trod enc P w base spare w9 n t ((cs.drop off).take (P.cellsOf t))=some x)->LQ ks ((cs.drop off).take (P.cellsOf t))):
  ∀(fs:List Field) (off:Nat) (ks:List SK),IN P g fs off=some ks->off<=cs.length->(∀f∈fs,∃n x,DataW.trod enc P w base spare w9 n f.type ((cs.drop f.offset).take (P.cellsOf f.type))=some x)->LQ ks ((cs.drop off).take ks.length)
 |[],_,ks,h,_,_=>by
  simp only [IN,HH] at h;subst h;exact ⟨VX,λj k v h=>by simp at h⟩
 |f::fs,off,ks,h,ho,hf=>by
  unfold IN at h;split at h
  ·rename_i ks1 h1;split at h
   ·rename_i hb;simp only [HC] at hb;have e1:f.offset=off:=H2 hb.1;have e2:ks1.length=P.cellsOf f.type:=H2 hb.2;split at h
    ·rename_i r Z;cases h;have h2:=hf f GJ;rw [e1] at h2;have a1:=hg f.type ks1 off h1 h2;have hl:off+ks1.length<=cs.length:=by
      have:=a1.1;rw [List.length_take,List.length_drop,←e2] at this;omega
     have a2:=S4 hg fs (off+ks1.length) r Z hl (λf' hf'=>hf f' (HW _ hf'))
     have:=a1.append a2;rw [←e2] at this;rw [Be,List.take_add,List.drop_drop];exact this
    ·cases h
   ·cases h
  ·cases h
theorem pD{k:SK}{v:Value}(h:pO k v):LQ [k] [v]:=by
 refine ⟨rfl,λj k' v' hk hv=>?_⟩
 cases j with
 |zero=>simp at hk hv;subst hk;subst hv;exact h
 |succ j=>simp at hk
theorem xG: ∀(d:Nat) (t:TypeId) (ks:List SK) (fuel:Nat) (cs:List Value) (x:DataW H×List MemPlace),RA P d t=some ks->DataW.trod enc P w base spare w9 fuel t cs=some x->LQ ks cs
 | 0,_,_,_,_,_,h,_=>by simp [RA] at h
 |d+1,t,ks,fuel,cs,x,h,hx=>by
  unfold RA at h;split at h
  ·rename_i k hu;cases h;obtain ⟨n,rfl,_,hw⟩:=DataW.trod_int hu hx;exact pD ⟨n,rfl,hw⟩
  ·rename_i hu;cases h;obtain ⟨b,rfl,_⟩:=DataW.trod_bool hu hx;exact pD ⟨b,rfl⟩
  ·rename_i hu;cases h;obtain ⟨s,rfl,_⟩:=DataW.trod_string hu hx;exact pD ⟨s,rfl⟩
  ·rename_i fs hu;split at h
   ·rename_i ks' hks;split at h
    ·rename_i hb;cases h;have hl:ks.length=P.cellsOf t:=H2 hb;obtain ⟨xs,n,_,_,HZ,hxl,hf⟩:=DataW.trod_struct hu hx;have:=S4 (enc:=enc) (w:=w) (base:=base) (spare:=spare) (w9:=w9) (cs:=cs) (g:=RA P d) (λt' ks' off hk ⟨n',x',hx'⟩=>xG d t' ks' n' _ x' hk hx') fs.toList 0 ks hks (Ao _) (λf hf'=>by
      obtain ⟨i,O⟩:=xC.1 hf';have hi':fs[i]? =some f:=by simpa using O
      have hlt:i<xs.length:=by rw [hxl];exact (PB.1 hi').1
      exact ⟨n,xs[i],(hf i f hi').trans (D4 hlt)⟩)
     rw [hl,←HZ] at this;simpa using this
    ·cases h
   ·cases h
  ·cases h
def MOk(enc:TypeId×Value->H)(P:Program)(w:World)(base:Nat)(spare:Nat->Bool)(w9:Bool):MK->Value->Prop
 | .sc k,v=>pO k v
 | .sl t e ks,v=>P.underlying t=some (.slice e)/\RA P 9 e=some ks/\ks.length=P.cellsOf e/\ ∃n x,DataW.trod enc P w base spare w9 n t [v]=some x/\ ∀q∈x.1.weights P t,q<=reachBytes
theorem uR: ∀{ts:List TypeId} {ds:List (DataW H)} {i:Nat} {t:TypeId} {d:DataW H} {q:Nat},ts[i]? =some t->ds[i]? =some d->q∈d.weights P t->q∈DataW.weightsEach P ts ds
 |[],_,i,_,_,_,h,_,_=>by simp at h
 |_::_,[],i,_,_,_,_,h,_=>by simp at h
 |t::ts,d::ds,i,t',d',q,h,h',hq=>by
  simp only [DataW.weightsEach,Bc];cases i with
  |zero=>simp at h h';subst h;subst h';exact .inl hq
  |succ i=>exact .inr (uR (by simpa using h) (by simpa using h') hq)
theorem S3{g:TypeId->Option (List MK)}{r:MK->Value->Prop}{cs:List Value}(hg: ∀t ks (off:Nat),g t=some ks->(∃n x,DataW.trod enc P w base spare w9 n t ((cs.drop off).take (P.cellsOf t))=some x/\ ∀q∈x.1.weights P t,q<=reachBytes)->NJ r ks ((cs.drop off).take (P.cellsOf t))):
  ∀(fs:List Field) (off:Nat) (ks:List MK),IM P g fs off=some ks->off<=cs.length->(∀f∈fs,∃n x,DataW.trod enc P w base spare w9 n f.type ((cs.drop f.offset).take (P.cellsOf f.type))=some x/\ ∀q∈x.1.weights P f.type,q<=reachBytes)->NJ r ks ((cs.drop off).take ks.length)
 |[],_,ks,h,_,_=>by
  simp only [IM,HH] at h;subst h;exact ⟨VX,λj k v h=>by simp at h⟩
 |f::fs,off,ks,h,ho,hf=>by
  unfold IM at h;split at h
  ·rename_i ks1 h1;split at h
   ·rename_i hb;simp only [HC] at hb;have e1:f.offset=off:=H2 hb.1;have e2:ks1.length=P.cellsOf f.type:=H2 hb.2;split at h
    ·rename_i r' Z;cases h;have h2:=hf f GJ;rw [e1] at h2;have a1:=hg f.type ks1 off h1 h2;have hl:off+ks1.length<=cs.length:=by
      have:=a1.1;rw [List.length_take,List.length_drop,←e2] at this;omega
     have a2:=S3 hg fs (off+ks1.length) r' Z hl (λf' hf'=>hf f' (HW _ hf'))
     have:=a1.append a2;rw [←e2] at this;rw [Be,List.take_add,List.drop_drop];exact this
    ·cases h
   ·cases h
  ·cases h
theorem vK: ∀(d:Nat) (t:TypeId) (ks:List MK) (fuel:Nat) (cs:List Value) (x:DataW H×List MemPlace),kT P d t=some ks->DataW.trod enc P w base spare w9 fuel t cs=some x->(∀q∈x.1.weights P t,q<=reachBytes)->NJ (MOk enc P w base spare w9) ks cs
 | 0,_,_,_,_,_,h,_,_=>by simp [kT] at h
 |d+1,t,ks,fuel,cs,x,h,hx,hz=>by
  unfold kT at h;split at h
  ·rename_i k hu;cases h;obtain ⟨n,rfl,_,hw⟩:=DataW.trod_int hu hx;exact .one ⟨n,rfl,hw⟩
  ·rename_i hu;cases h;obtain ⟨b,rfl,_⟩:=DataW.trod_bool hu hx;exact .one ⟨b,rfl⟩
  ·rename_i hu;cases h;obtain ⟨s,rfl,_⟩:=DataW.trod_string hu hx;exact .one ⟨s,rfl⟩
  ·rename_i e hu;split at h
   ·rename_i ks' hk;split at h
    ·rename_i hb;cases h;have h1: ∃v,cs=[v]:=by
      rcases Go.Deep.open_slice hu hx with ⟨h0,_⟩|⟨a,len,cap,m,n,D,Pl,h0,_⟩<;>exact ⟨_,h0⟩
     obtain ⟨v,rfl⟩:=h1;exact .one ⟨hu,hk,H2 hb,fuel,x,hx,hz⟩
    ·cases h
   ·cases h
  ·rename_i fs hu;split at h
   ·rename_i ks' hks;split at h
    ·rename_i hb;cases h;have hl:ks.length=P.cellsOf t:=H2 hb;obtain ⟨xs,n,_,hxe,HZ,hxl,hf⟩:=DataW.trod_struct hu hx;have hzz: ∀q∈DataW.weightsEach P (fs.toList.map (·.type)) (xs.map (·.1)),q<=reachBytes:=by
      intro q hq;refine hz q ?_;rw [hxe];simpa [DataW.weights,hu] using hq
     have:=S3 (enc:=enc) (w:=w) (base:=base) (spare:=spare) (w9:=w9) (cs:=cs) (g:=kT P d) (r:=MOk enc P w base spare w9) (λt' ks' off hk ⟨n',x',hx',hz'⟩=>vK d t' ks' n' _ x' hk hx' hz') fs.toList 0 ks hks (Ao _) (λf hf'=>by
      obtain ⟨i,O⟩:=xC.1 hf';have hi':fs[i]? =some f:=by simpa using O
      have hlt:i<xs.length:=by rw [hxl];exact (PB.1 hi').1
      exact ⟨n,xs[i],(hf i f hi').trans (D4 hlt),λq hq=>hzz q (uR (i:=i) (by simp [hi']) (by simp [D4 hlt]) hq)⟩)
     rw [hl,←HZ] at this;simpa using this
    ·cases h
   ·cases h
  ·cases h
inductive rY (P:Program):MK->AV->Prop
 |sc (k:SK) (v:Value):pO k v->rY P (.sc k) (.x v)
 |sl (t e:TypeId) (ks:List SK) (n:Nat) (f:Nat->List Value):n<=maxLen->n*P.bytesOf e<=reachBytes->(∀i,i<n->LQ ks (f i))->rY P (.sl t e ks) (.lst ks.length n (λi=>(f i).map .x))
def BN(P:Program)(ms:List MK)(l:List AV):Prop:=ms.length=l.length/\ ∀(j:Nat) (k:MK) (a:AV),ms[j]? =some k->l[j]? =some a->rY P k a
inductive wY (P:Program):TypeId->AV->Prop
 |sc (t:TypeId) (k:SK) (v:Value):(∀fs,P.underlying t≠some (.struct fs))->RA P 9 t=some [k]->pO k v->wY P t (.x v)
 |st (t:TypeId) (fs:Array Field) (ks:List SK) (vs:List Value):P.underlying t=some (.struct fs)->RA P 9 t=some ks->LQ ks vs->wY P t (.agg (vs.map .x))
 |sl (t e:TypeId) (ks:List SK) (n:Nat) (f:Nat->List Value):P.underlying t=some (.slice e)->RA P 9 e=some ks->n<=maxLen->n*P.bytesOf e<=reachBytes->(∀i,i<n->LQ ks (f i))->wY P t (.lst ks.length n (λi=>(f i).map .x))
 |mx (t:TypeId) (fs:Array Field) (ms:List MK) (l:List AV):P.underlying t=some (.struct fs)->RA P 9 t=none->kT P 9 t=some ms->BN P ms l->wY P t (.agg l)
 |sm (t e:TypeId) (fs:Array Field) (ms:List MK) (n:Nat) (f:Nat->List AV):P.underlying t=some (.slice e)->P.underlying e=some (.struct fs)->RA P 9 e=none->kT P 9 e=some ms->n<=maxLen->n*P.bytesOf e<=reachBytes->(∀i,i<n->BN P ms (f i))->wY P t (.lst ms.length n f)
def IH:List MK->Bool
 |[]=>true
 | .sc _::ms=>IH ms
 | .sl _ _ ks::ms=> !ks.isEmpty&&IH ms
def TK(P:Program)(t:TypeId):Bool:=match P.underlying t with
 |some (.int _)|some .bool|some .string=>(RA P 9 t).isSome
 |some (.struct _)=>match RA P 9 t with
  |some _=>true
  |none=>match kT P 9 t with
   |some ms=>Zz6 P t ms
   |none=>false
 |some (.slice e)=>match RA P 9 e with
  |some ks=>Nat.beq ks.length (P.cellsOf e)
  |none=>match P.underlying e,kT P 9 e with
   |some (.struct _),some ms=>Nat.beq ms.length (P.cellsOf e)&&(IH ms&& !ms.isEmpty)
   |_,_=>false
 |_=>false
def jV(w:World):UN:={ro:=λb=>b<w.heap.size,own:=λ_=>none,live:=λ_=>False,blk:=λ_=>0,val:=λ_=> .nilIface}
theorem cW{r:Reach}{b0:Nat}{t e:TypeId}{v:Value}{fuel:Nat}{x:DataW H×List MemPlace}{ks:List SK}(hu:P.underlying t=some (.slice e))(hk:RA P 9 e=some ks)(hl:ks.length=P.cellsOf e)(hv:Cell.okWide P w r b0 t v)(hf:DataW.trod enc P w 0 (λ_=>true) w9 fuel t v.cells.toList=some x)(hz: ∀q∈x.1.weights P t,q<=reachBytes):
  ∃(n:Nat) (f:Nat->List Value),n<=maxLen/\n*P.bytesOf e<=reachBytes/\(∀i,i<n->LQ ks (f i))/\Rep (jV w) w (.lst ks.length n (λi=>(f i).map .x)) v/\Idf (.lst ks.length n (λi=>(f i).map .x)):=by
 obtain ⟨a0,n0,c0,rfl⟩: ∃a0 n0 c0,v= .slice a0 n0 c0:=by
  have hx:=hv;simp only [Cell.okWide,Cell.ok,hu] at hx;split at hx<;>simp_all
 rcases Go.Deep.open_slice hu hf with ⟨h0,_⟩|⟨a,len,cap,m,n,D,Pl,h0,hb,hlc,hm,hmm,Wq8,O⟩
 ·simp [Value.cells] at h0;obtain ⟨rfl,rfl,rfl⟩:=h0;exact ⟨0,λ_=>[],Ao _,VX,(λi O=>VM),.lstNil _ _,.lst _ _ _ (λi O=>VM)⟩
 ·simp [Value.cells] at h0;obtain ⟨rfl,rfl,rfl⟩:=h0;simp only [if_true] at hmm;subst hmm;have hok:w.has P r b0 a e m:=by
   simp only [Value.okWide,hu,Cell.okWide,Cell.ok] at hv;exact hv.2.2
  obtain ⟨_,hsp,row,cells,hsh,_⟩:=hok;obtain ⟨ab,ao,as⟩:=a;simp only at hsp;subst hsp;have NB:ab<w.heap.size:=by
   unfold World.shape? at hsh;cases hh:w.heap[ab]? with
   |none=>simp only [hh] at hsh;cases hsh
   |some o=>exact (PB.1 hh).1
  let F:Nat->List Value:=λi=>(w.cells? 0 ((⟨ab,ao,none⟩:Addr).add (i*P.cellsOf e)) (P.cellsOf e)).getD []
  have hF: ∀i,i<m->LQ ks (F i)/\ ∀j,j<ks.length->w.cell? ⟨ab,ao+(i*ks.length+j),none⟩=(F i)[j]? :=by
   intro i hi';obtain ⟨cs',hcs,htr⟩:=O i hi';have e1:F i=cs':=by simp only [F,hcs,GX]
   rw [e1];refine ⟨xG 9 e ks n cs' _ hk htr,λj hj=>?_⟩
   obtain ⟨_,_,h3⟩:=World.cells?_some hcs;have:=h3 j VM;rw [DE,DE] at this;rw [hl,←this,Ba]
  have iY:n0*P.bytesOf e<=reachBytes:=by
   have hd:x.1= .slice ((List.range n0).map D) ((List.range (m-n0)).map λj=>D (n0+j)):=by
    have:=congrArg Prod.fst Wq8;exact this
   have h1:=hz ((((List.range n0).map D).length+((List.range (m-n0)).map λj=>D (n0+j)).length)*P.bytesOf e) (by rw [hd];simp [DataW.weights,hu])
   rw [Bm,List.length_range] at h1;exact Ar (BM _ (Nat.le_add_right _ _)) h1
  refine ⟨n0,F,VM,iY,(λi hi'=>(hF i VM).1),?_,.lst _ _ _ (λi hi' a ha=>?_)⟩
  ·refine .lst _ _ _ ab ao m (λi j=>(F i).getD j .nilIface) (λ_=>NB) (λ_=>NB) (λi hi' a ha=>?_) hlc hm (λi j hi' hj=>?_) (λi hi'=>?_) (λi j a hi' ha=>?_) _ (λ_=>rfl)
   ·obtain ⟨b,_,rfl⟩:=List.mem_map.1 ha;exact .x b
   ·rw [(hF i VM).2 j hj];have hjl:j<(F i).length:=by rw [←(hF i VM).1.1];exact hj
    simp [List.getD,D4 hjl]
   ·simp [(hF i VM).1.1]
   ·rw [Bn,Ay] at ha;obtain ⟨b,hb',rfl⟩:=ha;simp only [List.getD,hb',GX];exact .x b
  ·obtain ⟨b,_,rfl⟩:=List.mem_map.1 ha;exact .x b
theorem fE: ∀{ms:List MK} {j:Nat} {t e:TypeId} {ks:List SK},IH ms=true->ms[j]? =some (.sl t e ks)->0<ks.length
 |[],j,t,e,ks,_,hj=>by simp at hj
 | .sc _::ms,j,t,e,ks,h,hj=>by
  cases j with
  |zero=>simp at hj
  |succ j=>exact fE (ms:=ms) h (by simpa using hj)
 | .sl _ _ ks'::ms,j,t,e,ks,h,hj=>by
  simp only [IH,HC] at h;cases j with
  |zero=>
   simp at hj;obtain ⟨_,_,rfl⟩:=hj;cases ks' with
   |nil=>simp at h
   |cons a b=>simp
  |succ j=>exact fE (ms:=ms) h.2 (by simpa using hj)
theorem cX{e:TypeId}{a:Addr}{cap:Nat}{D:Nat->DataW H}{Pl:Nat->List MemPlace}{n:Nat}(hc:0<P.cellsOf e)(O: ∀i,i<cap-> ∃cs',w.cells? 0 (a.add (i*P.cellsOf e)) (P.cellsOf e)=some cs'/\DataW.trod enc P w 0 (λ_=>true) w9 n e cs'=some (D i,Pl i))(h:0<cap):a=⟨a.block,a.off,none⟩/\a.block<w.heap.size:=by
 obtain ⟨cs',h1,_⟩:=O 0 h;obtain ⟨_,h2,h3⟩:=World.cells?_some h1;have h4:=h3 0 hc;rw [Nat.zero_mul] at h4;have e0:(a.add 0).add 0=a:=by simp [Addr.add]
 rw [e0,D4 VM] at h4;obtain ⟨ab,ao,as⟩:=a;unfold World.cell? at h4;split at h4
 ·rename_i c x y hb;have hlt:=(PB.1 hb).1;cases as with
  |none=>exact ⟨rfl,hlt⟩
  |some s=>simp at h4
 ·cases h4
theorem Wd4{t e:TypeId}{v:Value}{fuel:Nat}{x:DataW H×List MemPlace}{ks:List SK}(hu:P.underlying t=some (.slice e))(hk:RA P 9 e=some ks)(hl:ks.length=P.cellsOf e)(Wq0:0<ks.length)(hf:DataW.trod enc P w 0 (λ_=>true) w9 fuel t [v]=some x)(hz: ∀q∈x.1.weights P t,q<=reachBytes):
  ∃(n:Nat) (f:Nat->List Value),n<=maxLen/\n*P.bytesOf e<=reachBytes/\(∀i,i<n->LQ ks (f i))/\Rep (jV w) w (.lst ks.length n (λi=>(f i).map .x)) v/\Idf (.lst ks.length n (λi=>(f i).map .x)):=by
 rcases Go.Deep.open_slice hu hf with ⟨h0,_⟩|⟨a,n0,cap,m,n,D,Pl,h0,hb,hlc,hm,hmm,Wq8,O⟩
 ·simp at h0;subst h0;exact ⟨0,λ_=>[],Ao _,VX,(λi O=>VM),.lstNil _ _,.lst _ _ _ (λi O=>VM)⟩
 ·simp at h0;subst h0;simp only [if_true] at hmm;subst hmm;have hat:0<m->a=⟨a.block,a.off,none⟩/\a.block<w.heap.size:=cX VM O
  let F:Nat->List Value:=λi=>(w.cells? 0 (a.add (i*P.cellsOf e)) (P.cellsOf e)).getD []
  have hF: ∀i,i<m->LQ ks (F i)/\ ∀j,j<ks.length->w.cell? ⟨a.block,a.off+(i*ks.length+j),none⟩=(F i)[j]? :=by
   intro i hi';obtain ⟨cs',hcs,htr⟩:=O i hi';have e1:F i=cs':=by simp only [F,hcs,GX]
   rw [e1];refine ⟨xG 9 e ks n cs' _ hk htr,λj hj=>?_⟩
   obtain ⟨_,_,h3⟩:=World.cells?_some hcs;have:=h3 j VM;rw [(hat VM).1,DE,DE] at this;rw [hl,←this,Ba]
  have iY:n0*P.bytesOf e<=reachBytes:=by
   have hd:x.1= .slice ((List.range n0).map D) ((List.range (m-n0)).map λj=>D (n0+j)):=by
    have:=congrArg Prod.fst Wq8;exact this
   have h1:=hz ((((List.range n0).map D).length+((List.range (m-n0)).map λj=>D (n0+j)).length)*P.bytesOf e) (by rw [hd];simp [DataW.weights,hu])
   rw [Bm,List.length_range] at h1;exact Ar (BM _ (Nat.le_add_right _ _)) h1
  refine ⟨n0,F,VM,iY,(λi hi'=>(hF i VM).1),?_,.lst _ _ _ (λi hi' a ha=>?_)⟩
  ·refine .lst _ _ _ a.block a.off m (λi j=>(F i).getD j .nilIface) (λh=>(hat VM).2) (λh=>(hat VM).2) (λi hi' a ha=>?_) hlc hm (λi j hi' hj=>?_) (λi hi'=>?_) (λi j a hi' ha=>?_) a (λh=>(hat VM).1)
   ·obtain ⟨b,_,rfl⟩:=List.mem_map.1 ha;exact .x b
   ·rw [(hF i VM).2 j hj];have hjl:j<(F i).length:=by rw [←(hF i VM).1.1];exact hj
    simp [List.getD,D4 hjl]
   ·simp [(hF i VM).1.1]
   ·rw [Bn,Ay] at ha;obtain ⟨b,hb',rfl⟩:=ha;simp only [List.getD,hb',GX];exact .x b
  ·obtain ⟨b,_,rfl⟩:=List.mem_map.1 ha;exact .x b
theorem Ww3{ms:List MK}{vs:List Value}(PG:IH ms=true)(h:NJ (MOk enc P w 0 (λ_=>true) w9) ms vs): ∃l,BN P ms l/\U5 (jV w) w l vs/\ ∀a∈l,Idf a:=by
 have key: ∀(j:Nat) (k:MK) (v:Value),ms[j]? =some k->vs[j]? =some v-> ∃a,rY P k a/\Rep (jV w) w a v/\Idf a:=by
  intro j k v hj hvj;have h2:=h.2 j k v hj hvj;cases k with
  |sc k=>exact ⟨.x v,.sc k v h2,.x v,.x v⟩
  |sl t' e ks=>
   obtain ⟨hu',hk',hl',n',x',hx',hz'⟩:=h2;obtain ⟨n,f,g1,g2,g3,g4,g5⟩:=Wd4 hu' hk' hl' (fE PG hj) hx' hz';exact ⟨_,.sl t' e ks n f g1 g2 g3,g4,g5⟩
 have all: ∀(ms:List MK) (vs:List Value),ms.length=vs.length->(∀(j:Nat) (k:MK) (v:Value),ms[j]? =some k->vs[j]? =some v-> ∃a,rY P k a/\Rep (jV w) w a v/\Idf a)-> ∃l,BN P ms l/\U5 (jV w) w l vs/\ ∀a∈l,Idf a:=by
  intro ms
  induction ms with
  |nil=>
   intro vs hl _;cases vs with
   |nil=>exact ⟨[],⟨rfl,λj k a h=>by simp at h⟩,U5.nil _ _,λa ha=>by cases ha⟩
   |cons v vs=>simp at hl
  |cons k ms ih=>
   intro vs hl h;cases vs with
   |nil=>simp at hl
   |cons v vs=>
    obtain ⟨a,a1,a2,a3⟩:=h 0 k v rfl rfl;obtain ⟨l,l1,l2,l3⟩:=ih vs (by simpa using hl) (λj k v hk hv=>h (j+1) k v (by simpa using hk) (by simpa using hv))
    refine ⟨a::l,⟨by simp [l1.1],λj k' a' hk ha=>?_⟩,U5.cons a2 l2,λb hb=>?_⟩
    ·cases j with
     |zero=>simp at hk ha;subst hk;subst ha;exact a1
     |succ j=>exact l1.2 j k' a' (by simpa using hk) (by simpa using ha)
    ·rcases GQ.1 hb with rfl|hb
     ·exact a3
     ·exact l3 b hb
 exact all ms vs h.1 key
theorem rB{e:TypeId}{d:DataW H}{q:Nat}: ∀{ds:List (DataW H)},d∈ds->q∈d.weights P e->q∈DataW.weightsAll P e ds
 |[],h,_=>by cases h
 |d'::ds,h,hq=>by
  simp only [DataW.weightsAll,Bc];rcases GQ.1 h with rfl|h
  ·exact .inl hq
  ·exact .inr (rB h hq)
theorem Wd3{t e:TypeId}{v:Value}{fuel:Nat}{x:DataW H×List MemPlace}{ms:List MK}(hu:P.underlying t=some (.slice e))(hk:kT P 9 e=some ms)(hl:ms.length=P.cellsOf e)(Wq0:0<ms.length)(PG:IH ms=true)(hf:DataW.trod enc P w 0 (λ_=>true) w9 fuel t [v]=some x)(hz: ∀q∈x.1.weights P t,q<=reachBytes):
  ∃(n:Nat) (f:Nat->List AV),n<=maxLen/\n*P.bytesOf e<=reachBytes/\(∀i,i<n->BN P ms (f i))/\Rep (jV w) w (.lst ms.length n f) v/\Idf (.lst ms.length n f):=by
 rcases Go.Deep.open_slice hu hf with ⟨h0,_⟩|⟨a,n0,cap,m,n,D,Pl,h0,hb,hlc,hm,hmm,Wq8,O⟩
 ·simp at h0;subst h0;exact ⟨0,λ_=>[],Ao _,VX,(λi O=>VM),.lstNil _ _,.lst _ _ _ (λi O=>VM)⟩
 ·simp at h0;subst h0;simp only [if_true] at hmm;subst hmm;have hat:0<m->a=⟨a.block,a.off,none⟩/\a.block<w.heap.size:=cX VM O;have hd:x.1= .slice ((List.range n0).map D) ((List.range (m-n0)).map λj=>D (n0+j)):=by
   have:=congrArg Prod.fst Wq8;exact this
  have iY:n0*P.bytesOf e<=reachBytes:=by
   have h1:=hz ((((List.range n0).map D).length+((List.range (m-n0)).map λj=>D (n0+j)).length)*P.bytesOf e) (by rw [hd];simp [DataW.weights,hu])
   rw [Bm,List.length_range] at h1;exact Ar (BM _ (Nat.le_add_right _ _)) h1
  let F:Nat->List Value:=λi=>(w.cells? 0 (a.add (i*P.cellsOf e)) (P.cellsOf e)).getD []
  have hF: ∀i,i<n0-> ∃l,(BN P ms l/\U5 (jV w) w l (F i)/\ ∀a∈l,Idf a)/\(F i).length=ms.length/\ ∀j,j<ms.length->w.cell? ⟨a.block,a.off+(i*ms.length+j),none⟩=(F i)[j]? :=by
   intro i hi';obtain ⟨cs',hcs,htr⟩:=O i VM;have e1:F i=cs':=by simp only [F,hcs,GX]
   rw [e1];have hzi: ∀q∈(D i).weights P e,q<=reachBytes:=λq hq=>hz q (by
    rw [hd];simp only [DataW.weights,hu,GQ,Bc];exact .inr (.inl (rB (List.mem_map.2 ⟨i,List.mem_range.2 hi',rfl⟩) hq)))
   have h1:=vK 9 e ms n cs' _ hk htr hzi;obtain ⟨l,h2⟩:=Ww3 PG h1;refine ⟨l,h2,h1.1.symm,λj hj=>?_⟩
   obtain ⟨_,_,h3⟩:=World.cells?_some hcs;have:=h3 j VM;rw [(hat VM).1,DE,DE] at this;rw [hl,←this,Ba]
  obtain ⟨f,hf'⟩:=Go.Deep.choose_lt hF;refine ⟨n0,f,VM,iY,(λi hi'=>(hf' i hi').1.1),?_,.lst _ _ _ (λi hi'=>(hf' i hi').1.2.2)⟩
  refine .lst _ _ _ a.block a.off m (λi j=>(F i).getD j .nilIface) (λh=>(hat VM).2) (λh=>(hat VM).2) (λi hi'=>(hf' i hi').1.2.2) hlc hm (λi j hi' hj=>?_) (λi hi'=>?_) (λi j b hi' ha=>?_) a (λh=>(hat VM).1)
  ·have h1:=hf' i hi';rw [h1.2.2 j hj];have hjl:j<(F i).length:=by rw [h1.2.1];exact hj
   simp [List.getD,D4 hjl]
  ·exact (hf' i hi').1.1.1.symm
  ·have h1:=(hf' i hi').1.2.1;have hj:j<(F i).length:=by rw [←h1.1];exact (FW.1 ha).1
   have h2:=h1.2 j b (F i)[j] ha (D4 hj);simpa only [List.getD,D4 hj,GX] using h2
theorem Zr2{r:Reach}{b0:Nat}{t:TypeId}{v:Value}{d:DataW H}{p:List MemPlace}(A:TK P t=true)(hv:Value.okWide P w r b0 t v)(h:DataW.Trod enc P w 0 (λ_=>true) w9 t v d p)(hz: ∀q∈d.weights P t,q<=reachBytes):
  ∃av,wY P t av/\Rep (jV w) w av v/\Idf av:=by
 unfold TK at A;obtain ⟨fuel,hf⟩:=h;have scal: ∀k,(∀fs,P.underlying t≠some (.struct fs))->RA P 9 t=some [k]->(∀cs,v≠ .agg cs)-> ∃av,wY P t av/\Rep (jV w) w av v/\Idf av:=by
  intro k hns hk hna;have h1:=xG 9 t [k] fuel _ _ hk hf;have hc:v.cells.toList=[v]:=by cases v<;>first|rfl|exact absurd rfl (hna _)
  rw [hc] at h1;exact ⟨.x v,.sc t k v hns hk (h1.2 0 k v rfl rfl),.x v,.x v⟩
 split at A
 ·rename_i k hu;obtain ⟨n,rfl⟩:=okWide_int hu hv;exact scal (.int k) (λfs h=>by rw [hu] at h;cases h) (by simp [RA,hu]) (λcs h=>by cases h)
 ·rename_i hu;obtain ⟨b,rfl⟩:=okWide_bool hu hv;exact scal .bool (λfs h=>by rw [hu] at h;cases h) (by simp [RA,hu]) (λcs h=>by cases h)
 ·rename_i hu;obtain ⟨s,rfl⟩:=okWide_string hu hv;exact scal .str (λfs h=>by rw [hu] at h;cases h) (by simp [RA,hu]) (λcs h=>by cases h)
 ·rename_i fs hu;cases hk:RA P 9 t with
  |none=>
   rw [hk] at A;simp only at A;cases hm:kT P 9 t with
   |none=>rw [hm] at A;cases A
   |some ms=>
    rw [hm] at A;simp only [Zz6] at A;split at A
    ·rename_i ts hts;simp only [HC] at A;have hml:ms.length=P.cellsOf t:=H2 A.2;have htl:=AZ A.1;simp only [Value.okWide,hu] at hv;obtain ⟨cs,rfl,hcs,ts',hts',_,I7⟩:=hv;rw [hts] at hts';cases hts';have h1:=vK 9 t ms fuel _ _ hm hf hz;simp only [Value.cells] at h1;have key: ∀(j:Nat) (k:MK) (v:Value),ms[j]? =some k->cs.toList[j]? =some v-> ∃a,rY P k a/\Rep (jV w) w a v/\Idf a:=by
      intro j k v hj hvj;have h2:=h1.2 j k v hj hvj;cases k with
      |sc k=>exact ⟨.x v,.sc k v h2,.x v,.x v⟩
      |sl t' e ks=>
       obtain ⟨hu',hk',hl',n',x',hx',hz'⟩:=h2;obtain ⟨u,hu2,hc⟩:=I7 j v (by simpa using hvj)
       have hjl:j<ts.length:=by rw [htl];exact (FW.1 hj).1
       rw [Nat.mod_eq_of_lt hjl,C0 A.1 hj] at hu2;cases hu2;have hvc:v.cells.toList=[v]:=by
        obtain ⟨a0,n0,c0,rfl⟩: ∃a0 n0 c0,v= .slice a0 n0 c0:=by
         have hx:=hc;simp only [Cell.okWide,Cell.ok,hu'] at hx;split at hx<;>simp_all
        rfl
       obtain ⟨n,f,g1,g2,g3,g4,g5⟩:=cW hu' hk' hl' hc (by rw [hvc];exact hx') hz'
       exact ⟨_,.sl t' e ks n f g1 g2 g3,g4,g5⟩
     have all: ∀(ms:List MK) (vs:List Value),ms.length=vs.length->(∀(j:Nat) (k:MK) (v:Value),ms[j]? =some k->vs[j]? =some v-> ∃a,rY P k a/\Rep (jV w) w a v/\Idf a)-> ∃l,BN P ms l/\U5 (jV w) w l vs/\ ∀a∈l,Idf a:=by
      intro ms
      induction ms with
      |nil=>
       intro vs hl _;cases vs with
       |nil=>exact ⟨[],⟨rfl,λj k a h=>by simp at h⟩,U5.nil _ _,λa ha=>by cases ha⟩
       |cons v vs=>simp at hl
      |cons k ms ih=>
       intro vs hl h;cases vs with
       |nil=>simp at hl
       |cons v vs=>
        obtain ⟨a,a1,a2,a3⟩:=h 0 k v rfl rfl;obtain ⟨l,l1,l2,l3⟩:=ih vs (by simpa using hl) (λj k v hk hv=>h (j+1) k v (by simpa using hk) (by simpa using hv))
        refine ⟨a::l,⟨by simp [l1.1],λj k' a' hk ha=>?_⟩,U5.cons a2 l2,λb hb=>?_⟩
        ·cases j with
         |zero=>simp at hk ha;subst hk;subst ha;exact a1
         |succ j=>exact l1.2 j k' a' (by simpa using hk) (by simpa using ha)
        ·rcases GQ.1 hb with rfl|hb
         ·exact a3
         ·exact l3 b hb
     obtain ⟨l,l1,l2,l3⟩:=all ms cs.toList h1.1 key;refine ⟨.agg l,.mx t fs ms l hu hk hm l1,?_,.agg _ l3⟩;have:=Rep.aggL l2;simpa using this
    ·cases A
  |some ks=>
   obtain ⟨cs,rfl,_⟩:=okWide_struct hu hv;have h1:=xG 9 t ks fuel _ _ hk hf;refine ⟨.agg (cs.toList.map .x),.st t fs ks cs.toList hu hk h1,?_,.agg _ (λa ha=>?_)⟩
   ·have:=Rep.aggL (U5.xs (jV w) w cs.toList);simpa using this
   ·obtain ⟨b,_,rfl⟩:=List.mem_map.1 ha;exact .x b
 ·rename_i e hu;cases hk:RA P 9 e with
  |none=>
   rw [hk] at A;simp only at A;split at A
   ·rename_i fs ms hue hms;simp only [HC] at A;have hv':Cell.okWide P w r b0 t v:=by
     simpa only [Value.okWide,hu] using hv
    have hvc:v.cells.toList=[v]:=by
     obtain ⟨a0,n0,c0,rfl⟩: ∃a0 n0 c0,v= .slice a0 n0 c0:=by
      have hx:=hv';simp only [Cell.okWide,Cell.ok,hu] at hx;split at hx<;>simp_all
     rfl
    rw [hvc] at hf;have Wq0:0<ms.length:=by
     cases ms with
     |nil=>simp at A
     |cons a b=>simp
    obtain ⟨n,f,h1,h2,h3,h4,h5⟩:=Wd3 hu hms (H2 A.1) Wq0 A.2.1 hf hz;exact ⟨_,.sm t e fs ms n f hu hue hk hms h1 h2 h3,h4,h5⟩
   ·cases A
  |some ks=>
   rw [hk] at A;have hl:ks.length=P.cellsOf e:=H2 A;have hv':Cell.okWide P w r b0 t v:=by
    simpa only [Value.okWide,hu] using hv
   obtain ⟨n,f,h1,h2,h3,h4,h5⟩:=cW hu hk hl hv' hf hz;exact ⟨_,.sl t e ks n f hu hk h1 h2 h3,h4,h5⟩
 ·cases A
inductive MV (P:Program):List TypeId->List AV->Prop
 |nil:MV P [] []
 |cons {t:TypeId} {a:AV} {ts:List TypeId} {l:List AV}:wY P t a->MV P ts l->MV P (t::ts) (a::l)
theorem Qh4{b0:Nat}{r:Reach}: ∀(ts:List TypeId) (vs:List Value) (ds:List (DataW H)) (p:List MemPlace),ts.all (TK P)=true->(∀(j:Nat) t v,ts[j]? =some t->vs[j]? =some v->Value.okWide P w r b0 t v)->
  DataW.TrodAll enc P w 0 (λ_=>true) w9 ts vs ds p->(∀q∈DataW.weightsEach P ts ds,q<=reachBytes)-> ∃avs,MV P ts avs/\U5 (jV w) w avs vs/\ ∀a∈avs,Idf a
 |[],vs,ds,p,_,_,h,_=>by
  cases vs with
  |nil=>exact ⟨[],.nil,U5.nil _ _,λa ha=>by cases ha⟩
  |cons v vs=>cases ds<;>simp [DataW.TrodAll] at h
 |t::ts,vs,ds,p,A,hv,h,hz=>by
  obtain ⟨v,vs',d,ds',p1,q1,rfl,rfl,rfl,h1,h2⟩:=trodAll_cons h;simp only [List.all_cons,HC] at A;obtain ⟨a,ha,Z,O⟩:=Zr2 A.1 (hv 0 t v rfl rfl) h1 (λq hq=>hz q (by simp only [DataW.weightsEach,Bc];exact .inl hq))
  obtain ⟨l,hl,hrl,hil⟩:=Qh4 ts vs' ds' q1 A.2 (λj t' v' ht hv'=>hv (j+1) t' v' (by simpa using ht) (by simpa using hv')) h2 (λq hq=>hz q (by simp only [DataW.weightsEach,Bc];exact .inr hq))
  refine ⟨a::l,.cons ha hl,U5.cons Z hrl,λx hx=>?_⟩
  rcases GQ.1 hx with rfl|hx
  ·exact O
  ·exact hil x hx
theorem Zw6{f:FuncId}{b0:Nat}{r:Reach}{ts:List TypeId}{vs:Array Value}{ds:List (DataW H)}{p:List MemPlace}(A:ts.all (TK P)=true)(hv: ∀(j:Nat) t v,ts[j]? =some t->vs.toList[j]? =some v->Value.okWide P w r b0 t v)
  (h:DataW.TrodAll enc P w 0 (λ_=>true) w9 ts vs.toList ds p)(hz: ∀q∈DataW.weightsEach P ts ds,q<=reachBytes)(hs: ∀avs,MV P ts avs->U0 P f avs (.x (.bool true)))(hgl:D5 (jV w) w:=by intro b p h;exact absurd h (by simp [GP])):Calls P f vs w λe w'=>e= .returned (.bool true)/\Below w.heap.size w w':=by
 obtain ⟨avs,h1,h2,h3⟩:=Qh4 ts vs.toList ds p A hv h hz;refine (hs avs h1 (jV w) w vs.toList (λb hb=>hb) hgl h3 h2).mono λe w' hq=>?_
 obtain ⟨v,rfl,hb,Z⟩:=hq;rw [Z.x_inv];exact ⟨rfl,hb⟩
theorem SE{W W':World}{sp:Nat->Bool}(hl:laidOutB P=true)(hb:Below W.heap.size W W'): ∀(ts:List TypeId) (vs:List Value) (ds:List (DataW H)) (p:List MemPlace),ts.all (λt=>P.readableRec t&&decide (t<P.types.size))=true->
  DataW.TrodAll enc P W 0 (λ_=>true) true ts vs ds p->(∀x∈p,x.block<W.heap.size)->(∀x∈p,sp x.block=true)->DataW.TrodAll enc P W' 0 sp true ts vs ds p
 |[],vs,ds,p,_,h,_,_=>by
  cases vs<;>cases ds<;>simp [DataW.TrodAll] at h ⊢;exact h
 |t::ts,vs,ds,p,Z,h,hlt,hsp=>by
  obtain ⟨v,vs',d,ds',p1,q1,rfl,rfl,rfl,h1,h2⟩:=trodAll_cons h;simp only [List.all_cons,HC,y5] at Z;refine ⟨p1,q1,WideElems.Trod_stays hl Z.1.1 Z.1.2 h1 (λx hx=>hb.same (hlt x (Bd _ hx))) (λx hx=>hsp x (Bd _ hx)),SE hl hb ts vs' ds' q1 ?_ h2 (λx hx=>hlt x (As _ hx)) (λx hx=>hsp x (As _ hx)),rfl⟩
  simpa using Z.2
theorem Jf9{f:Func}{s:ChangeSpec}{apart fresh AK again:Bool}{W W':World}{args:Array Value}{ds:List (DataW H)}{before:List MemPlace}{tb:TypeId}(hl:laidOutB P=true)(Z:f.params.toList.all (λt=>P.readableRec t&&decide (t<P.types.size))=true)(F3:f.resultTypes=#[tb])(hub:P.underlying tb=some .bool)
  (Jh2:s.vars=[])(hfr:(s.fn H ds).results=[.lit (.bool true)])(hfa:(s.fn H ds).args=ds)(hfv:(s.fn H ds).vars=[])
  (hW:DataW.Whole enc P f.params.toList s.vars apart W args.toList ds [] before)(hA:DataW.TrodAll enc P W 0 (λ_=>true) true f.params.toList args.toList ds before)(hb:Below W.heap.size W W'):
  s.post enc P f apart fresh AK again W args (.bool true) W':=by
 have hlt: ∀p∈before,p.block<W.heap.size:=λp A=>hW.lt p A
 have Wq2: ∀p∈before,(λb=>decide (b<W.heap.size)) p.block=true:=λp A=>by simpa using hlt p A
 have hres': ∀(b:Nat) (sp:Nat->Bool) (hd:Bool),DataW.TrodAll enc P W' b sp hd f.resultTypes.toList ((Value.bool true).resultList f.resultTypes.size) (s.fn H (ds++[])).results []:=by
  intro b sp hd;rw [List.append_nil,hfr,F3];exact trodAll_mk1 (shut_bool hub true)
 have OU: ∀sp:Nat->Bool,(∀p∈before,sp p.block=true)->DataW.TrodAll enc P W' 0 sp true f.params.toList args.toList (s.fn H (ds++[])).args before:=by
  intro sp hsp;rw [List.append_nil,hfa];exact SE hl hb _ _ _ _ Z hA hlt hsp
 have hvars': ∀sp:Nat->Bool,(∀p∈before,sp p.block=true)->DataW.TrodVars enc P W' sp s.vars (s.fn H (ds++[])).vars []:=by
  intro sp _;rw [List.append_nil,hfv,Jh2];rfl
 refine ⟨ds,[],before,[],before,[],hW,hres' _ _ _,OU _ Wq2,hvars' _ Wq2,World.keptBut_mono (λp A=>⟨A,Or.inr (by simpa using A)⟩) (hb.frame (· ∈before)),λ_=>?_⟩
 obtain ⟨_,_,_,_,_,hz,hn⟩:=hW;refine ⟨ok_one F3 rfl (okWide_bool_mk hub true),_,_,([]++before)++[],⟨[]++before,[],trodAll_append (OU _ (λ_ _=>rfl)) (hres' _ _ _),hvars' _ (λ_ _=>rfl),rfl,?_,?_⟩,?_⟩
 ·intro b off A;have hin:MemPlace.cell b off∈before:=by simpa using A
  rw [hb.frozen (hlt _ hin)];exact hz b off hin
 ·intro ha;have:=hn ha;simpa using this
 ·intro p A _;simpa using A
end
end Go.Sx
namespace Go.Sx
open Go Go.RowKit
section
variable {P:Program}
section
variable (P:Program)(t:TypeId)
def Qb1:Bool:=match P.underlying t with
 |some (.struct _)=>true
 |_=>false
def eC:Bool:=match P.underlying t with
 |some (.int _)|some .bool|some .string=>true
 |_=>false
def Qb4:Option TypeId:=match P.underlying t with
 |some (.slice e)=>some e
 |_=>none
end
theorem wY.agg{t:TypeId}{av:AV}{ks:List SK}(h:wY P t av)(hs:Qb1 P t=true)(hk:RA P 9 t=some ks): ∃vs,av= .agg (vs.map .x)/\LQ ks vs:=by
 unfold Qb1 at hs;split at hs
 ·rename_i fs hu;cases h with
  |sc k v h0 h1 h2=>exact absurd hu (h0 fs)
  |st fs' ks' vs h1 h2 h3=>rw [hk] at h2;cases h2;exact ⟨vs,rfl,h3⟩
  |sl e ks' n f h1 h2 h3 h5 h4=>rw [hu] at h1;cases h1
  |mx fs' ms l h1 h2 h3 h4=>rw [hk] at h2;cases h2
  |sm e fs' ms n f h1=>rw [hu] at h1;cases h1
 ·cases hs
theorem wY.one{t:TypeId}{av:AV}{k:SK}(h:wY P t av)(hs:eC P t=true)(hk:RA P 9 t=some [k]): ∃v,av= .x v/\pO k v:=by
 cases h with
 |sc k' v h0 h1 h2=>rw [hk] at h1;cases h1;exact ⟨v,rfl,h2⟩
 |st fs' ks' vs h1 h2 h3=>unfold eC at hs;rw [h1] at hs;cases hs
 |sl e ks' n f h1 h2 h3 h5 h4=>unfold eC at hs;rw [h1] at hs;cases hs
 |mx fs' ms l h1 h2 h3 h4=>unfold eC at hs;rw [h1] at hs;cases hs
 |sm e fs' ms n f h1=>unfold eC at hs;rw [h1] at hs;cases hs
theorem wY.list{t e:TypeId}{av:AV}{ks:List SK}(h:wY P t av)(hs:Qb4 P t=some e)(hk:RA P 9 e=some ks): ∃(n:Nat) (f:Nat->List Value),av= .lst ks.length n (λi=>(f i).map .x)/\(n<=maxLen/\n*P.bytesOf e<=reachBytes)/\ ∀i,i<n->LQ ks (f i):=by
 unfold Qb4 at hs;split at hs
 ·rename_i e' hu;cases hs;cases h with
  |sc k v h0 h1 h2=>simp [RA,hu] at h1
  |st fs' ks' vs h1 h2 h3=>rw [hu] at h1;cases h1
  |mx fs' ms l h1 h2 h3 h4=>rw [hu] at h1;cases h1
  |sm e' fs' ms n f h1 h2 h3=>rw [hu] at h1;cases h1;rw [hk] at h3;cases h3
  |sl e' ks' n f h1 h2 h3 h5 h4=>
   rw [hu] at h1;cases h1;rw [hk] at h2;cases h2;exact ⟨n,f,rfl,⟨h3,h5⟩,h4⟩
 ·cases hs
theorem BN.nil{l:List AV}(h:BN P [] l):l=[]:=List.eq_nil_of_length_eq_zero h.1.symm
theorem BN.cons{k:MK}{ms:List MK}{l:List AV}(h:BN P (k::ms) l): ∃a l',l=a::l'/\rY P k a/\BN P ms l':=by
 cases l with
 |nil=>have:=h.1;simp at this
 |cons a l=>exact ⟨a,l,rfl,h.2 0 k a rfl rfl,⟨by have:=h.1;simpa using this,λj k' a' hk ha=>h.2 (j+1) k' a' (by simpa using hk) (by simpa using ha)⟩⟩
theorem LQ.nil{vs:List Value}(h:LQ [] vs):vs=[]:=List.eq_nil_of_length_eq_zero h.1.symm
theorem LQ.cons{k:SK}{ks:List SK}{vs:List Value}(h:LQ (k::ks) vs): ∃v vs',vs=v::vs'/\pO k v/\LQ ks vs':=by
 cases vs with
 |nil=>have:=h.1;simp at this
 |cons v vs=>exact ⟨v,vs,rfl,h.2 0 k v rfl rfl,⟨by have:=h.1;simpa using this,λj k' v' hk hv=>h.2 (j+1) k' v' (by simpa using hk) (by simpa using hv)⟩⟩
end
inductive Gd where
 |rest
 |go (b:Bool) (g:Gd)
 |both (g g':Gd)
def jQ{α:Type}:VP α->Gd->VP α
 | .fail,_=> .fail
 | .leaf a,_=> .leaf a
 | .need ps t,g=> .need ps (jQ t g)
 | .branch b t f,g=>match g with
  | .rest=> .branch b t f
  | .go true g=> .need [b=true] (jQ t g)
  | .go false g=> .need [b=false] (jQ f g)
  | .both g g'=> .branch b (jQ t g) (jQ f g')
 | .may p t f,g=>match g with
  | .rest=> .may p t f
  | .go true g=> .may p (jQ t g) (jQ f g)
  | .go false g=> .need [¬p] (jQ f g)
  | .both g g'=> .may p (jQ t g) (jQ f g')
theorem Qt5{α:Type}{Q:α->Prop}{t:VP α}: ∀{g:Gd},(jQ t g).sat Q->t.sat Q:=by
 induction t with
 |fail=>intro g h;exact h
 |leaf a=>intro g h;exact h
 |need ps t ih=>intro g h;exact ⟨h.1,ih h.2⟩
 |branch b t f iht ihf=>
  intro g h;cases g with
  |rest=>exact h
  |go d g=>
   cases d
   ·obtain ⟨h1,h2⟩:=h;exact ⟨λhb=>absurd ((show b=false from h1).symm.trans hb) (by decide),λ_=>ihf h2⟩
   ·obtain ⟨h1,h2⟩:=h;exact ⟨λ_=>iht h2,λhb=>absurd ((show b=true from h1).symm.trans hb) (by decide)⟩
  |both g g'=>exact ⟨λhb=>iht (h.1 hb),λhb=>ihf (h.2 hb)⟩
 |may p t f iht ihf=>
  intro g h;cases g with
  |rest=>exact h
  |go d g=>
   cases d
   ·exact ⟨λA=>absurd A h.1,ihf h.2⟩
   ·exact ⟨λA=>iht (h.1 A),ihf h.2⟩
  |both g g'=>exact ⟨λA=>iht (h.1 A),ihf h.2⟩
theorem uS{P:Program}{G:List (Nat×Spec)}{X:Ext}{L:List UL}{f:FuncId}{fn:Func}{c:Code}{avs:List AV}{res:AV}{t:VP RV}(g:Gd)(hG:VN P G)(hX: ∀cx,VZ P X cx)(GU:P.follows .mixedOrders=true)(hf:P.funcs[f]? =some fn)(hb:fn.body=some c)
  (hL: ∀j cj,VV c j=some cj-> ∀sp,L[j]? =some sp->HN P cj sp)(ht:jQ (sL P fn.results.toList (D9 P G X L c 0 (HT fn avs))) g=t)(h:t.sat (λr=>G8 r res)):U0 P f avs res:=by
 subst ht;exact k6 hG hX GU hf hb hL (z7 (Qt5 h))
def Qg3(P:Program)(G:List (Nat×Spec))(X:Ext)(L:List UL)(N:List (Pl×Nat×TypeId×Nat))(s2:St)(rest:Code->Nat->St->CT):Nat->Code->Nat->St->CT
 | 0,c,off,s=> .needT (BK (R9 N s) s2) (rest c off s2)
 |k+1,c,off,s=>match c with
  | .seq a b=>(D9 P G X L a off s).bind λp=>match p.1 with
   | .normal=>Qg3 P G X L N s2 rest k b (off+GH a) p.2
   |x=> .leaf (x,p.2)
  |_=> .fail
def Qa7(P:Program)(cx:Cx)(L:List UL)(ev:Code->Nat->St->CT):Prop:=
 ∀(ro:Option Nat) (n:Nat) (c:Code) (off:Nat) (s:St) (Q:G9×St->Prop) (a:Act) (w:World),(∀j cj,VV c j=some cj-> ∀sp,L[off+j]? =some sp->HL P ro cx cj sp)->(ev c off s).sat Q->Rel cx s a w->c.wpIn (fr ro) n P (CN cx Q) a w
theorem lZ{P:Program}{G:List (Nat×Spec)}{X:Ext}{cx:Cx}{L:List UL}(hG:VN P G)(hX:VZ P X cx)(GU:P.follows .mixedOrders=true):Qa7 P cx L (D9 P G X L):=
 λro n c off s Q a w hL h r=>DB hG hX GU c off s Q a w hL h r
theorem dC{P:Program}{G:List (Nat×Spec)}{X:Ext}{cx:Cx}{L:List UL}{N:List (Pl×Nat×TypeId×Nat)}{s2:St}{rest:Code->Nat->St->CT}(hG:VN P G)(hX:VZ P X cx)(GU:P.follows .mixedOrders=true)(ON:Qa7 P cx L rest)(hok:okB s2=true): ∀k,Qa7 P cx L (Qg3 P G X L N s2 rest k)
 | 0=>λro n c off s Q a w hL h r=>by
  have h2:=VP.sat_needT h;exact ON ro n c off s2 Q a w hL h2.2 (FX (GF h2.1) hok (DI r))
 |k+1=>λro n c off s Q a w hL h r=>by
  unfold Qg3 at h;split at h
  ·rename_i x y;refine wpIn_seq ?_;have hx:=DB hG hX GU (ro:=ro) (n:=n) x off s _ a w (λj cj hj sp hsp=>hL j cj (by
    unfold VV;have hlt:j<GH x:=by
     rcases An j (GH x) with h'|h'
     ·exact h'
     ·exfalso;rw [P6 x j h'] at hj;cases hj
    have:Nat.blt j (GH x)=true:=by rw [Aw];exact hlt
    rw [this];exact hj) sp hsp) (VP.sat_bind h) r
   refine wpIn_mono hx ?_;rintro e a' w' ⟨ex,s',rfl,hq,Z⟩;cases ex with
   |normal=>
    simp only [G9.ex,Exit.then]
    refine dC hG hX GU ON hok k ro n y (off+GH x) s' Q a' w' (λj cj hj sp hsp=>hL (GH x+j) cj ?_ sp (by rw [←Ba];exact hsp)) hq Z
    unfold VV;have:Nat.blt (GH x+j) (GH x)=false:=by rw [Bool.eq_false_iff,ne_eq,Aw];omega
    rw [this];simpa using hj
   |exit i=>exact ⟨.exit i,s',rfl,hq,Z⟩
   |ret=>exact ⟨.ret,s',rfl,hq,Z⟩
  ·exact h.elim
theorem S9{P:Program}{L:List UL}{f:FuncId}{fn:Func}{c:Code}{avs:List AV}{ev:Code->Nat->St->CT}(hf:P.funcs[f]? =some fn)(hb:fn.body=some c)
  {cx:Cx}{gh:Option Nat}{w:World}{T:Nat->Prop}{e:UN}{args:List Value}(hev:Qa7 P cx L ev)(hK: ∀b o,¬cx.K b o)(hsv:cx.saved=[])(Qr6:cx.sz=0)(hM: ∀g T w0 D,cx.Φ g T w0->cx.M D->w0.heap.size<=D)(hΦ:cx.Φ gh T w)
  (hT: ∀b,T b->b<w.heap.size/\ ¬e.ro b)(hro: ∀b,e.ro b->b<w.heap.size)(hgl:D5 e w)(FP: ∀a∈avs,Idf a)(Z:U5 e w avs args)
  (hL: ∀j cj,VV c j=some cj-> ∀sp,L[j]? =some sp->HL P none cx cj sp){E:G9×St->Prop}(h:(ev c 0 {HT fn avs with gh:=gh}).sat E){R:Ending->World->Prop}
  (fin: ∀x s w0 T' e' tmps w',E (x,s)->cx.Φ s.gh T' w0->G4 e' w0.heap.size w'->Below w0.heap.size w0 w'->UX e' s.m w'->(∀b,T' b-> ¬e'.ro b)->U5 e' w' s.σ tmps.toList-> ∃v,(results fn tmps).run P w'= .ok v w'/\R (.returned v) w')
  (hex: ∀x s,E (x,s)-> ∀i,x≠ .exit i):Calls P f args.toArray w R:=by
 let e0:UN:={ro:=e.ro,own:=λ_=>none,live:=λ_=>False,blk:=λ_=>0,val:=λ_=> .nilIface}
 have hr0:U5 e0 w avs args:=⟨Z.1,λi a v ha hv=>Rep.idf (e:=e) (e':=e0) (λ_ h=>h) (Z.2 i a v ha hv) (FP a (F4 ha))⟩
 have yW:Rel cx {HT fn avs with gh:=gh} {tmps:=args.toArray++Array.replicate (fn.ntmps-args.toArray.size) undef,defers:=[] } w:=by
  refine ⟨w,T,e0,hΦ,⟨λb hb=>⟨rfl,hro b hb⟩,(λb k hk=>by cases hk),hgl⟩,Below.refl _ _,(λp A=>by cases A),(λk hk=>False.elim hk),hT,⟨⟨(λd hd=>by cases hd),List.nodup_nil⟩,(λb o h=>(hK b o h).elim),⟨by rw [hsv];rfl,(λi a v h=>by cases h)⟩,by rw [Qr6];exact Ao _⟩,?_⟩
  have I3:U5 e0 w (List.replicate (fn.ntmps-avs.length) .top) (List.replicate (fn.ntmps-avs.length) undef):=by
   refine ⟨VX,λi a v ha _=>?_⟩
   have:=F4 ha;rw [List.mem_replicate] at this;rw [this.2];exact .top v
  have:=hr0.append I3;simpa [HT,Z.1] using this
 refine callsIn_wide (n:=0).1 (callsIn_of_wp_marks (F:=fr none) hf hb trivial (wpIn_mono (hev none 0 c 0 _ _ _ w (λj cj hj sp hsp=>hL j cj hj sp (by simpa using hsp)) h yW) ?_) rfl)
 rintro ex a' w' ⟨x,s',rfl,hE,w0,T',e',hΦ',re⟩;have hx:=hex x s' hE;have yY:LeavesInM (fr none) 0 P fn a'.tmps R a'.defers .returning w':=
  j6 (M:=cx.M) (s:=s') (λD hD=>hM _ _ _ D hΦ' hD) (λw2 q1 q2 q3 q4=>fin x s' w0 T' e' a'.tmps w2 hE hΦ' q1 q2 q3 (λb hb=>(re.foe b hb).2) q4) a'.defers w' re.xt.defers re.env re.below re.mem re.slots
 cases x with
 |normal=>exact yY
 |ret=>exact yY
 |exit i=>exact (hx i rfl).elim
theorem rE{P:Program}{G:List (Nat×Spec)}{X:Ext}{L:List UL}{f:FuncId}{fn:Func}{c:Code}{avs:List AV}{res:AV}{t:VP RV}(k:Nat)(N:List (Pl×Nat×TypeId×Nat))(s2:St)(hG:VN P G)(hX: ∀cx,VZ P X cx)(GU:P.follows .mixedOrders=true)(hf:P.funcs[f]? =some fn)(hb:fn.body=some c)
  (hL: ∀j cj,VV c j=some cj-> ∀sp,L[j]? =some sp->HN P cj sp)(hok:okB s2=true)(ht:sL P fn.results.toList (Qg3 P G X L N s2 (D9 P G X L) k c 0 (HT fn avs))=t)(h:t.sat (λr=>G8 r res)):U0 P f avs res:=by
 subst ht;intro e w args hro hgl FP Z;refine S9 hf hb (cx:=lW w (λ_=>False)) (gh:=none) (T:=λ_=>False) (e:=e) (dC hG (hX _) GU (lZ hG (hX _) GU) hok k) (λ_ _ h=>h) rfl rfl (by rintro g T w0 D ⟨rfl,_⟩ h;exact h) ⟨rfl,rfl⟩ (λb h=>h.elim) hro hgl FP Z (λj cj hj sp hsp=>hL j cj hj sp hsp _ (zA _ _)) (z7 h) ?_ ?_
 ·rintro x s w0 T' e' tmps w' ⟨hx,r,F3,kR⟩ ⟨rfl,_⟩ q1 q2 q3 _ q4;obtain ⟨u,hu,GN⟩:=DN (P:=P) q3 q4 F3;exact ⟨u,hu,u,rfl,q2,kR.rep q1 rfl q3 GN⟩
 ·rintro x s ⟨hx,_⟩ i rfl;exact hx
theorem TA{P:Program}{L:List UL}{f:FuncId}{fn:Func}{c:Code}{avs:List AV}{res:AV}{t:VP RV}{ev:Code->Nat->St->CT}(hf:P.funcs[f]? =some fn)(hb:fn.body=some c)(hev: ∀cx,Qa7 P cx L ev)
  (hL: ∀j cj,VV c j=some cj-> ∀sp,L[j]? =some sp->HN P cj sp)(ht:sL P fn.results.toList (ev c 0 (HT fn avs))=t)(h:t.sat (λr=>G8 r res)):U0 P f avs res:=by
 subst ht;intro e w args hro hgl FP Z;refine S9 hf hb (cx:=lW w (λ_=>False)) (gh:=none) (T:=λ_=>False) (e:=e) (hev _) (λ_ _ h=>h) rfl rfl (by rintro g T w0 D ⟨rfl,_⟩ h;exact h) ⟨rfl,rfl⟩ (λb h=>h.elim) hro hgl FP Z (λj cj hj sp hsp=>hL j cj hj sp hsp _ (zA _ _)) (z7 h) ?_ ?_
 ·rintro x s w0 T' e' tmps w' ⟨hx,r,F3,kR⟩ ⟨rfl,_⟩ q1 q2 q3 _ q4;obtain ⟨u,hu,GN⟩:=DN (P:=P) q3 q4 F3;exact ⟨u,hu,u,rfl,q2,kR.rep q1 rfl q3 GN⟩
 ·rintro x s ⟨hx,_⟩ i rfl;exact hx
def Qg4(P:Program)(G:List (Nat×Spec))(X:Ext)(L:List UL):Code->Nat->St->CT
 | .region id ops draw,off,s=>match draw with
  |true=>(tH P G X ops.toList ops.size (Array.replicate ops.size false) s).bind λs=> .leaf (.normal,s)
  |false=>D9 P G X L (.region id ops false) off s
 | .seq a b,off,s=>(Qg4 P G X L a off s).bind λp=>match p.1 with
  | .normal=>Qg4 P G X L b (off+GH a) p.2
  |x=> .leaf (x,p.2)
 |c,off,s=>D9 P G X L c off s
theorem Ww0{P:Program}{G:List (Nat×Spec)}{X:Ext}{cx:Cx}{L:List UL}(hG:VN P G)(hX:VZ P X cx)(GU:P.follows .mixedOrders=true):Qa7 P cx L (Qg4 P G X L):=by
 intro ro n c
 induction c with
 |region id ops draw=>
  intro off s Q a w hL h r;cases draw with
  |false=>exact DB hG hX GU _ off s Q a w hL h r
  |true=>
   obtain ⟨w0,T,e,hΦ,r⟩:=r;refine wpIn_region_any GU ?_;exact jL hG hX (λs' a' w' hs Z=>⟨.normal,s',rfl,hs,Z⟩) ops.size _ s a _ (VP.sat_bind h) ⟨w0,T,e,hΦ,r.drew⟩
 |seq x y ihx ihy=>
  intro off s Q a w hL h r;refine wpIn_seq ?_;have hx:=ihx off s _ a w (λj cj hj sp hsp=>hL j cj (by
    unfold VV;have hlt:j<GH x:=by
     rcases An j (GH x) with h'|h'
     ·exact h'
     ·exfalso;rw [P6 x j h'] at hj;cases hj
    have:Nat.blt j (GH x)=true:=by rw [Aw];exact hlt
    rw [this];exact hj) sp hsp) (VP.sat_bind h) r
  refine wpIn_mono hx ?_;rintro e a' w' ⟨ex,s',rfl,hq,Z⟩;cases ex with
  |normal=>
   simp only [G9.ex,Exit.then]
   refine ihy (off+GH x) s' Q a' w' (λj cj hj sp hsp=>hL (GH x+j) cj ?_ sp (by rw [←Ba];exact hsp)) hq Z
   unfold VV;have:Nat.blt (GH x+j) (GH x)=false:=by rw [Bool.eq_false_iff,ne_eq,Aw];omega
   rw [this];simpa using hj
  |exit i=>exact ⟨.exit i,s',rfl,hq,Z⟩
  |ret=>exact ⟨.ret,s',rfl,hq,Z⟩
 |_=>
  intro off s Q a w hL h r;exact DB hG hX GU _ off s Q a w hL h r
def A9(P:Program)(G:List (Nat×Spec))(X:Ext)(L:List UL)(fn:Func)(c:Code):D6:=λavs m nx sv=>
 some ((D9 P G X L c 0 {HT fn avs with m:=m,nx:=nx,sv:=sv}).bind λp=>match p.1 with
  | .exit _=> .fail
  |_=>match BT P p.2 fn.results.toList with
   |some r=> .leaf (r,p.2.m,p.2.nx,p.2.sv)
   |none=> .fail)
theorem RO{P:Program}{G:List (Nat×Spec)}{X:Ext}{L:List UL}{f:FuncId}{fn:Func}{c:Code}(hG:VN P G)(hX: ∀cx,VZ P X cx)(GU:P.follows .mixedOrders=true)(PH:Enters P f)(hf:P.funcs[f]? =some fn)(hb:fn.body=some c)
  (hL: ∀j cj,VV c j=some cj-> ∀sp,L[j]? =some sp->GA P cj sp):GE P f (A9 P G X L fn c):=by
 refine ⟨PH,?_⟩;intro avs m nx sv t ht Q hQ cx w0 T e ds args w hE hB hm hl LT hxt Z;unfold A9 at ht;cases ht
 let K':Nat->Obj->Prop:=λb o=>cx.K b o\/(∃d∈ds,d={target:= .collected b,args:=#[] }/\o= .deferred (some []))
 let cx':Cx:={M:=λ_=>False,Φ:=λg T' w'=>g=none/\T'=T/\w'=w0,K:=K',saved:=cx.saved,sz:=cx.sz}
 have FL:(D9 P G X L c 0 {HT fn avs with m:=m,nx:=nx,sv:=sv}).sat (λp=>(∀i,p.1≠ .exit i)/\p.2.gh=p.2.gh/\ ∃r,BT P p.2 fn.results.toList=some r/\Q (r,p.2.m,p.2.nx,p.2.sv)):=by
  refine VP.sat_mono ?_ (VP.sat_bind hQ);rintro ⟨x,s⟩ hs;cases x with
  |exit i=>exact hs.elim
  |normal=>
   simp only at hs;split at hs
   ·rename_i r Z;exact ⟨λi h=>(by cases h),rfl,r,Z,hs⟩
   ·exact hs.elim
  |ret=>
   simp only at hs;split at hs
   ·rename_i r Z;exact ⟨λi h=>(by cases h),rfl,r,Z,hs⟩
   ·exact hs.elim
 have yW:Rel cx' {HT fn avs with m:=m,nx:=nx,sv:=sv} {tmps:=args.toArray++Array.replicate (fn.ntmps-args.toArray.size) undef,defers:=[] } w:=by
  refine ⟨w0,T,e,⟨rfl,rfl,rfl⟩,hE,hB,hm,hl,LT,⟨⟨(λd hd=>by cases hd),List.nodup_nil⟩,?_,hxt.saved,hxt.size⟩,?_⟩
  ·rintro b o (hk|⟨d,hd,h1,rfl⟩)
   ·exact hxt.kept b o hk
   ·obtain ⟨D,g1,g2,g3,g4,g5⟩:=hxt.defers.1 d hd;rw [h1] at g1;injection g1 with g1 _
    injection g1 with g1
    subst g1;exact ⟨g2,g3,g4⟩
  ·have I3:U5 e w (List.replicate (fn.ntmps-avs.length) .top) (List.replicate (fn.ntmps-avs.length) undef):=by
    refine ⟨VX,λi a v ha _=>?_⟩
    have:=F4 ha;rw [List.mem_replicate] at this;rw [this.2];exact .top v
   have:=Z.append I3;simpa [HT,Z.1] using this
 refine callsIn_wide (n:=0).1 (callsIn_of_wp_marks (F:=fr none) hf hb trivial (wpIn_mono (DB hG (hX cx') GU c 0 _ _ _ w (λj cj hj sp hsp=>hL j cj hj sp (by simpa using hsp) none cx') FL yW) ?_) rfl)
 rintro ex a' w' ⟨x,s',rfl,⟨hx,_,r,F3,hq⟩,w0',T',e',⟨_,rfl,rfl⟩,re⟩;have Qs2:a'.defers=[]:=by
  cases hd:a'.defers with
  |nil=>rfl
  |cons d l=>
   obtain ⟨D,_,_,_,_,g5⟩:=re.xt.defers.1 d (by rw [hd];exact GJ)
   exact g5.elim
 obtain ⟨u,hu,GN⟩:=DN (P:=P) re.mem re.slots F3;have yY:LeavesInM (fr none) 0 P fn a'.tmps (λen w'=> ∃v r m' nx' sv' e',en= .returned v/\Q (r,m',nx',sv')/\G4 e' w0'.heap.size w'/\Below w0'.heap.size w0' w'/\UX e' m' w'/\(∀k,e'.live k->k<nx')/\
   (∀b,T' b->b<w0'.heap.size/\ ¬e'.ro b)/\Xt cx e' sv' ds w'/\Rep e' w' r v) a'.defers .returning w':=by
  rw [Qs2];refine ⟨u,hu,u,r,s'.m,s'.nx,s'.sv,e',rfl,hq,re.env,re.below,re.mem,re.live,re.foe,⟨⟨λd hd=>?_,hxt.defers.2⟩,λb o hk=>re.xt.kept b o (.inl hk),re.xt.saved,re.xt.size⟩,GN⟩
  obtain ⟨D,g1,g2,g3,g4,g5⟩:=hxt.defers.1 d hd;obtain ⟨k1,k2,k3⟩:=re.xt.kept D (.deferred (some [])) (.inr ⟨d,hd,g1,rfl⟩);exact ⟨D,g1,k1,k2,k3,g5⟩
 cases x with
 |normal=>exact yY
 |ret=>exact yY
 |exit i=>exact (hx i rfl).elim
def BP(t:Nat)(F:Nat->UL):UL:=λs=>match s.σ.getD t .top with
 | .x (.int _ n)=>F n.toNat s
 |_=>none
theorem P8{P:Program}{c:Code}{t:Nat}{F:Nat->UL}(h: ∀k,GA P c (F k)):GA P c (BP t F):=by
 intro ro cx n s tr ht Q hQ a w r;unfold BP at ht;split at ht
 ·exact h _ ro cx n s tr ht Q hQ a w r
 ·cases ht
theorem G5{P:Program}{G:List (Nat×Spec)}{E:Ext}{L:List UL}(N:List (Pl×Nat×TypeId×Nat))(hG:VN P G)(hX: ∀cx,VZ P E cx)(GU:P.follows .mixedOrders=true){body:Code}(hL: ∀j cj,VV body j=some cj-> ∀sp,L[j]? =some sp->GA P cj sp)
  {X:Type}(inv:X->St)(I:X->Prop)(μ:X->Nat)(out:X->G9->Option St){t:CT}{x0:X}(h0:I x0)
  (hok: ∀x,okB (inv x)=true)(w8: ∀x y E,out x y=some E->okB E=true)
  (round: ∀(Q:G9×St->Prop),t.sat Q-> ∀x,I x-> ∃x',(HP P G E L N body (inv x) (inv x') (out x)).sat (λy=>match y with
   | .normal=>I x'/\μ x'<μ x
   |y=> ∀E,out x y=some E->Q (y,E))):GA P (.loop body) (GM N (HK (inv x0) t)):=
 λro cx=>F2 N hG (hX cx) GU (λj cj hj sp hsp=>hL j cj hj sp hsp ro cx) inv I μ out h0 hok w8 round
theorem VQ.inl{P:Program}{f:Nat}{h:D6}{H:List (Nat×D6)}(h1:GE P f h)(k:VQ P H):VQ P ((f,h)::H):=VQ.cons h1 k
inductive Xc2 where
 |ret (a:AV)
 |pan (v:Value)
abbrev F0:=List AV->H5->Nat->List (List AV)->Option (VP (Xc2×H5×Nat×List (List AV)))
def Xx9(e:UN)(w:World):Xc2->Ending->Prop
 | .ret a,en=> ∃v,en= .returned v/\Rep e w a v
 | .pan u,en=>en= .panicked [{v:=u,recovered:=false}]
def DA(P:Program)(f:FuncId)(h:F0):Prop:=Enters P f/\ ∀avs m nx sv t,h avs m nx sv=some t-> ∀Q,t.sat Q-> ∀(c:Cx) (w0:World) (T:Nat->Prop) (e:UN) (ds:List Deferred) (args:List Value) (w:World),
 G4 e w0.heap.size w->Below w0.heap.size w0 w->UX e m w->(∀k,e.live k->k<nx)->(∀b,T b->b<w0.heap.size/\ ¬e.ro b)->Xt c e sv ds w->U5 e w avs args->
  Calls P f args.toArray w λen w'=> ∃r m' nx' sv' e',Xx9 e' w' r en/\Q (r,m',nx',sv')/\G4 e' w0.heap.size w'/\Below w0.heap.size w0 w'/\UX e' m' w'/\(∀k,e'.live k->k<nx')/\
   (∀b,T b->b<w0.heap.size/\ ¬e'.ro b)/\Xt c e' sv' ds w'
def UU(P:Program)(PX:List (Nat×F0)):Prop:= ∀p∈PX,DA P p.1 p.2
theorem UU.nil(P:Program):UU P []:=λ_ h=>by cases h
theorem UU.cons{P:Program}{f:Nat}{h:F0}{H:List (Nat×F0)}(h1:DA P f h)(k:UU P H):UU P ((f,h)::H):=by
 intro p A;rcases GQ.1 A with rfl|A
 ·exact h1
 ·exact k p A
def Qt6:List (Nat×F0)->Nat->Option F0
 |[],_=>none
 |(k,s)::t,f=>match Nat.beq k f with
  |true=>some s
  |false=>Qt6 t f
theorem Ws9{G:List (Nat×F0)}{f:Nat}{s:F0}(h:Qt6 G f=some s):(f,s)∈G:=by
 induction G with
 |nil=>simp [Qt6] at h
 |cons p t ih=>
  obtain ⟨k,r'⟩:=p;unfold Qt6 at h;split at h
  ·rename_i hk;have:k=f:=H2 hk;subst this;cases h;exact GJ
  ·exact HW _ (ih h)
inductive PEx where
 |x (e:G9)
 |pan (v:Value)
def PEx.ex:PEx->Exit
 | .x e=>e.ex
 | .pan v=> .panic [{v,recovered:=false}]
abbrev PT:=VP (PEx×St)
def CM(cx:Cx)(Q:PEx×St->Prop):Exit->Act->World->Prop:=λe a w=> ∃x s,e=PEx.ex x/\Q (x,s)/\Rel cx s a w
abbrev PP:=St->Option PT
def P2(P:Program)(ro:Option Nat)(cx:Cx)(c:Code)(sp:PP):Prop:= ∀(n:Nat) (s:St) (t:PT),sp s=some t-> ∀Q:PEx×St->Prop,t.sat Q-> ∀(a:Act) (w:World),Rel cx s a w->c.wpIn (fr ro) n P (CM cx Q) a w
def Jm7(dst:Option Nat)(s:St)(p:Xc2×H5×Nat×List (List AV)):PT:=match p.2.2.2 with
 |σ::sv=>match p.1 with
  | .ret a=> .leaf (.x .normal,{s with σ:=xJ σ dst a,m:=p.2.1,nx:=p.2.2.1,sv:=sv})
  | .pan v=> .leaf (.pan v,{s with σ:=σ,m:=p.2.1,nx:=p.2.2.1,sv:=sv})
 |[]=> .fail
def EO(s:St):PT:= .leaf (.x .normal,s)
def Wj8(P:Program)(G:List (Nat×Spec))(X:Ext)(PX:List (Nat×F0))(ops:List Oper)(o:Oper)(s:St):PT:=
 match o.op with
 | .call c=>match c.callee with
  | .value f=>match rho s.σ f with
   | .fn (.func g) first caps=>match Qt6 PX g with
    |some h=>match o.guard with
     |none=>match h (first++c.args.toList.map (rho s.σ)++caps) s.m s.nx (s.σ::s.sv) with
      |some t=>t.bind (Jm7 o.dst s)
      |none=> .fail
     |some _=> .fail
    |none=>(zV P G X ops o s).bind EO
   |_=>(zV P G X ops o s).bind EO
  |_=>(zV P G X ops o s).bind EO
 | .panic v=>match o.guard,rho s.σ v with
  |none,.x (.iface t u)=> .leaf (.pan (.iface t u),s)
  |_,_=> .fail
 |_=>(zV P G X ops o s).bind EO
def Jd2(f:St->PT)(p:PEx×St):PT:=match p.1 with
 | .x .normal=>f p.2
 |x=> .leaf (x,p.2)
def eJ(P:Program)(G:List (Nat×Spec))(X:Ext)(PX:List (Nat×F0))(ops:List Oper):List Oper->St->PT
 |[],s=>EO s
 |o::rest,s=>(Wj8 P G X PX ops o s).bind (Jd2 (eJ P G X PX ops rest))
section
variable (P:Program)(G:List (Nat×Spec))(X:Ext)
def Jd1(PX:List (Nat×F0))(ops:List Oper)(s:St):PT:=eJ P G X PX ops ops s
def Jj5(PX:List (Nat×F0)):List Oper->Bool
 |[]=>false
 |o::os=>(match o.op with
  | .call c=>match c.callee with
   | .value (.func g)=>match Qt6 PX g with
    |some _=>true
    |none=>false
   |_=>false
  | .panic _=>true
  |_=>false)||Jj5 PX os
def Wf0(PX:List (Nat×F0))(ops:List Oper)(s:St):PT:=match Jj5 PX ops with
 |true=>Zj7 (eJ P G X PX ops) P G X ops s
 |false=>(Xh7 P G X ops s).bind EO
end
def P9(P:Program)(G:List (Nat×Spec))(X:Ext)(PX:List (Nat×F0))(L:List PP):Code->Nat->St->PT
 | .skip,_,s=> .leaf (.x .normal,s)
 | .label _,_,s=> .leaf (.x .normal,s)
 | .region _ ops draw,_,s=>match draw with
  |true=>Wf0 P G X PX ops.toList s
  |false=>Jd1 P G X PX ops.toList s
 | .seq a b,off,s=>(P9 P G X PX L a off s).bind λp=>match p.1 with
  | .x .normal=>P9 P G X PX L b (off+GH a) p.2
  |x=> .leaf (x,p.2)
 | .cond c a b,off,s=>match rho s.σ c with
  | .lit true=>P9 P G X PX L a off s
  | .lit false=>P9 P G X PX L b (off+GH a) s
  | .x (.bool t)=> .branch t (P9 P G X PX L a off (lX s c true)) (P9 P G X PX L b (off+GH a) (lX s c false))
  |_=> .fail
 | .block id c,off,s=>(P9 P G X PX L c off s).bind λp=>match p.1 with
  | .x (.exit i)=>match Nat.beq i id with
   |true=> .leaf (.x .normal,p.2)
   |false=> .leaf (.x (.exit i),p.2)
  |x=> .leaf (x,p.2)
 | .scope c,off,s=>P9 P G X PX L c off s
 | .loop _,off,s=>match L[off]? with
  |some f=>match f s with
   |some t=>t
   |none=> .fail
  |none=> .fail
 | .rangeFunc _ _ _ _,off,s=>match L[off]? with
  |some f=>match f s with
   |some t=>t
   |none=> .fail
  |none=> .fail
 | .exit id,_,s=> .leaf (.x (.exit id),s)
 | .ret,_,s=> .leaf (.x .ret,s)
 | .goto _,_,_=> .fail
 | .refuse _,_,_=> .fail
section
variable {P:Program}{G:List (Nat×Spec)}{X:Ext}{PX:List (Nat×F0)}{cx:Cx}
theorem iN(hG:VN P G)(hX:VZ P X cx)(hP:UU P PX){ro:Option Nat}{n:Nat}{ops:Array Oper}{i:Nat}{o:Oper}(ho:ops[i]? =some o){s:St}{Q R:PEx×St->Prop}{K:Act->World->Prop}(hK: ∀s a w,R (.x .normal,s)->Rel cx s a w->K a w)(hV: ∀v s,R (.pan v,s)->Q (.pan v,s))(h:(Wj8 P G X PX ops.toList o s).sat R){a:Act}{w:World}(r:Rel cx s a w):
  wpOpIn (fr ro) n P ops (CM cx Q) i K a w:=by
 have plain:((zV P G X ops.toList o s).bind EO).sat R->wpOpIn (fr ro) n P ops (CM cx Q) i K a w:=λh=>
  zU hG hX ho (VP.sat_bind h) r (λs' a' w' hs Z=>hK s' a' w' hs Z)
 unfold Wj8 at h;split at h
 ·rename_i c hop;split at h
  ·rename_i f hU;split at h
   ·rename_i g first caps hfe
    split at h
    ·rename_i hs hhs;split at h
     ·rename_i hg;split at h
      ·rename_i t ht;obtain ⟨w0,T,e,hΦ,r⟩:=r;obtain ⟨dst,op,type,pos,after,guard⟩:=o;simp only at hop hg;subst hop hg;obtain ⟨callee,args,argTypes⟩:=c;simp only at hU;subst hU;have ha:=U5.ops (FM r.slots) args.toList;have hf:=FM r.slots f;rw [hfe] at hf;obtain ⟨us,us',hv,r1,r2⟩:=hf.fn_inv;have D3:U5 e w (first++args.toList.map (rho s.σ)++caps) (us++args.toList.map a.eval++us'):=(r1.append ha).append r2
       obtain ⟨PH,I6⟩:=hP _ (Ws9 hhs);have FK:=I6 _ _ _ _ _ ht _ (VP.sat_bind h) {cx with saved:=a.tmps.toList::cx.saved} w0 T e a.defers _ w r.env r.below r.mem r.live r.foe ⟨r.xt.defers,r.xt.kept,LC.cons r.slots r.xt.saved,r.xt.size⟩ D3
       unfold wpOpIn;simp only [ho];rw [if_pos (by simp [Region.wanted])]
       refine HO (λc h=>by cases h) ?_
       unfold Oper.wp;have DS:(execOp a.eval ⟨dst,.call ⟨.value f,args,argTypes⟩,type,pos,after,none⟩).run P w= .ok (.enter g (us++args.toList.map a.eval++us').toArray) w:=by
        have e1:(us++args.toList.map a.eval++us').toArray=us.toArray++args.map a.eval++us'.toArray:=Array.ext' VX;simp only [execOp,resolve,hv,Deferred.ofValue,At,Sem.run_pure,Au,invoke];rw [e1];exact LG PH _ w
       rw [DS,Oper.upon_enter];refine FK.mono λen w' hq=>?_
       obtain ⟨rr,m',nx',sv',e',PI,hQ,hE',hB',hm',hl',hT',hx'⟩:=hq;obtain ⟨a1,l1,he1,hs1,hs2⟩:=hx'.saved.cons_inv;subst he1;cases rr with
       |ret av=>
        obtain ⟨v,rfl,GN⟩:=PI;exact hK _ _ _ hQ ⟨w0,T,e',hΦ,hE',hB',hm',hl',hT',by rw [put_defers];exact ⟨hx'.defers,hx'.kept,hs2,hx'.size⟩,qE hs1 dst GN⟩
       |pan u=>
        cases PI;exact ⟨.pan u,_,rfl,hV _ _ hQ,w0,T,e',hΦ,hE',hB',hm',hl',hT',⟨hx'.defers,hx'.kept,hs2,hx'.size⟩,hs1⟩
      ·exact h.elim
     ·exact h.elim
    ·exact plain h
   ·exact plain h
  ·exact plain h
 ·rename_i v hop;split at h
  ·rename_i t u hg hu;have r0:=r;obtain ⟨w0,T,e,hΦ,r⟩:=r;have hv:=FM r.slots v;rw [hu] at hv;have hv:=hv.x_inv;obtain ⟨dst,op,type,pos,after,guard⟩:=o;simp only at hop hg;subst hop hg;unfold wpOpIn;simp only [ho];rw [if_pos (by simp [Region.wanted])]
   refine HO (λc h=>by cases h) ?_
   unfold Oper.wp;have DS:(execOp a.eval ⟨dst,.panic v,type,pos,after,none⟩).run P w= .halt (.panic (.iface t u)) w:=by
    simp [execOp,hv,Instr.panic,goPanic]
   rw [DS,Oper.upon_panic];exact ⟨.pan (.iface t u),s,rfl,hV _ _ h,r0⟩
  ·exact h.elim
 ·exact plain h
theorem kB(hG:VN P G)(hX:VZ P X cx)(hP:UU P PX){ro:Option Nat}{n:Nat}{ops:Array Oper}{Q:PEx×St->Prop}:
  ∀(l:List Oper) (k:Nat),l=ops.toList.drop k-> ∀(s:St) (a:Act) (w:World),(eJ P G X PX ops.toList l s).sat Q->Rel cx s a w->wpOpsIn (fr ro) n P ops (CM cx Q) (List.range' k (ops.size-k)) a w
 |[],k,hk,s,a,w,h,r=>by
  have hl:ops.size-k=0:=by
   have:=congrArg List.length hk;simp at this;omega
  rw [hl];exact ⟨.x .normal,s,rfl,h,r⟩
 |o::rest,k,hk,s,a,w,h,r=>by
  have hlt:k<ops.size:=by
   have:=congrArg List.length hk;simp at this;omega
  have hok:ops[k]? =some o:=by
   have:=congrArg (·[0]?) hk;simp at this;exact this.symm
  have ON:rest=ops.toList.drop (k+1):=by
   have:=congrArg List.tail hk;simpa using this
  have e1:ops.size-k=(ops.size-(k+1))+1:=VM;rw [e1,List.range'_succ,wpOpsIn_cons];refine iN (Q:=Q) (R:=λp=>(Jd2 (eJ P G X PX ops.toList rest) p).sat Q) hG hX hP hok ?_ (λv s' hs'=>hs') (VP.sat_bind h) r
  exact λs' a' w' hs' hr'=>kB hG hX hP rest (k+1) ON s' a' w' hs' hr'
theorem oF(hG:VN P G)(hX:VZ P X cx)(hP:UU P PX){ro:Option Nat}{n:Nat}{id:Nat}{ops:Array Oper}{s:St}{Q:PEx×St->Prop}(h:(Jd1 P G X PX ops.toList s).sat Q){a:Act}{w:World}(r:Rel cx s a w):
  (Code.region id ops false).wpIn (fr ro) n P (CM cx Q) a w:=by
 refine wpIn_region ?_;rw [List.range_eq_range' (n:=ops.size)];have:=kB hG hX hP (ro:=ro) (n:=n) ops.toList 0 VX s a w h r;simpa using this
theorem eO(hG:VN P G)(hX:VZ P X cx)(hP:UU P PX)(GU:P.follows .mixedOrders=true){ro:Option Nat}{n:Nat}{id:Nat}{ops:Array Oper}{s:St}{Q:PEx×St->Prop}(h:(Wf0 P G X PX ops.toList s).sat Q){a:Act}{w:World}(r:Rel cx s a w):
  (Code.region id ops true).wpIn (fr ro) n P (CM cx Q) a w:=by
 unfold Wf0 at h;split at h
 ·exact wpIn_region_any GU (eM hG hX GU h r (λl k hl s a w h r=>kB hG hX hP l k hl s a w h r))
 ·exact CF hG hX GU (VP.sat_bind h) r (λs' a' w' hs Z=>⟨.x .normal,s',rfl,hs,Z⟩)
theorem rU(hG:VN P G)(hX:VZ P X cx)(hP:UU P PX)(GU:P.follows .mixedOrders=true){L:List PP}{ro:Option Nat}{n:Nat}:
  ∀(c:Code) (off:Nat) (s:St) (Q:PEx×St->Prop) (a:Act) (w:World),(∀j cj,VV c j=some cj-> ∀sp,L[off+j]? =some sp->P2 P ro cx cj sp)->(P9 P G X PX L c off s).sat Q->Rel cx s a w->c.wpIn (fr ro) n P (CM cx Q) a w:=by
 intro c
 induction c with
 |skip=>intro off s Q a w _ h r;exact wpIn_skip ⟨.x .normal,s,rfl,h,r⟩
 |label l=>intro off s Q a w _ h r;exact wpIn_label ⟨.x .normal,s,rfl,h,r⟩
 |region id ops draw=>
  intro off s Q a w _ h r;unfold P9 at h;cases draw with
  |true=>exact eO hG hX hP GU h r
  |false=>exact oF hG hX hP h r
 |seq x y ihx ihy=>
  intro off s Q a w hL h r;unfold P9 at h;refine wpIn_seq ?_;have hx:=ihx off s _ a w (λj cj hj sp hsp=>hL j cj (by
   unfold VV;have hlt:j<GH x:=by
    rcases An j (GH x) with h'|h'
    ·exact h'
    ·exfalso;rw [P6 x j h'] at hj;cases hj
   have:Nat.blt j (GH x)=true:=by rw [Aw];exact hlt
   rw [this];exact hj) sp hsp) (VP.sat_bind h) r
  refine wpIn_mono hx ?_;rintro e a' w' ⟨ex,s',rfl,hq,Z⟩;cases ex with
  |pan v=>exact ⟨.pan v,s',rfl,hq,Z⟩
  |x ex=>
  cases ex with
  |normal=>
   simp only [PEx.ex,G9.ex,Exit.then]
   refine ihy (off+GH x) s' Q a' w' (λj cj hj sp hsp=>hL (GH x+j) cj ?_ sp (by rw [←Ba];exact hsp)) hq Z
   unfold VV;have:Nat.blt (GH x+j) (GH x)=false:=by rw [Bool.eq_false_iff,ne_eq,Aw];omega
   rw [this];simpa using hj
  |exit i=>exact ⟨.x (.exit i),s',rfl,hq,Z⟩
  |ret=>exact ⟨.x .ret,s',rfl,hq,Z⟩
 |cond t x y ihx ihy=>
  intro off s Q a w hL h r;have hLx: ∀j cj,VV x j=some cj-> ∀sp,L[off+j]? =some sp->P2 P ro cx cj sp:=by
   intro j cj hj sp hsp;refine hL j cj ?_ sp hsp;unfold VV;split
   ·exact hj
   ·rename_i hb;exfalso;have hge:GH x<=j:=by
     rw [Bool.eq_false_iff,ne_eq,Aw] at hb;omega
    rw [P6 x j hge] at hj;cases hj
  have hLy: ∀j cj,VV y j=some cj-> ∀sp,L[off+GH x+j]? =some sp->P2 P ro cx cj sp:=by
   intro j cj hj sp hsp;refine hL (GH x+j) cj ?_ sp (by rw [←Ba];exact hsp)
   unfold VV;have:Nat.blt (GH x+j) (GH x)=false:=by rw [Bool.eq_false_iff,ne_eq,Aw];omega
   rw [this];simpa using hj
  unfold P9 at h;have r0:=r;obtain ⟨w0,T,e,hΦ,re⟩:=r;have hc:=FM re.slots t;split at h
  ·rename_i heq;rw [heq] at hc;exact wpIn_cond_true hc.lit_inv (ihx off s Q a w hLx h r0)
  ·rename_i heq;rw [heq] at hc;exact wpIn_cond_false hc.lit_inv (ihy _ s Q a w hLy h r0)
  ·rename_i b heq;rw [heq] at hc;cases b
   ·exact wpIn_cond_false hc.x_inv (ihy _ _ Q a w hLy (h.2 rfl) (dB r0 heq rfl))
   ·exact wpIn_cond_true hc.x_inv (ihx _ _ Q a w hLx (h.1 rfl) (dB r0 heq rfl))
  ·exact h.elim
 |block id c ih=>
  intro off s Q a w hL h r;unfold P9 at h;refine wpIn_block (wpIn_mono (ih off s _ a w hL (VP.sat_bind h) r) ?_);rintro e a' w' ⟨ex,s',rfl,hq,Z⟩;cases ex with
  |pan v=>exact ⟨.pan v,s',rfl,hq,Z⟩
  |x ex=>
  cases ex with
  |normal=>exact ⟨.x .normal,s',rfl,hq,Z⟩
  |ret=>exact ⟨.x .ret,s',rfl,hq,Z⟩
  |exit i=>
   simp only [PEx.ex,G9.ex,Exit.inBlock];simp only at hq;split at hq
   ·rename_i hb;rw [if_pos (H2 hb)];exact ⟨.x .normal,s',rfl,hq,Z⟩
   ·rename_i hb;rw [if_neg (λhe=>by subst he;simp at hb)]
    exact ⟨.x (.exit i),s',rfl,hq,Z⟩
 |scope c ih=>
  intro off s Q a w hL h r;unfold P9 at h;refine AQ (wpIn_mono (ih off s Q a w hL h r) ?_);rintro e a' w' ⟨ex,s',rfl,hq,Z⟩;cases ex with
  |pan v=>exact ⟨.pan v,s',rfl,hq,Z⟩
  |x ex=>
  cases ex with
  |normal=>exact ⟨.x .normal,s',rfl,hq,Z⟩
  |ret=>exact ⟨.x .ret,s',rfl,hq,Z⟩
  |exit i=>exact ⟨.x (.exit i),s',rfl,hq,Z⟩
 |loop c ih=>
  intro off s Q a w hL h r;unfold P9 at h;split at h
  ·rename_i f hf;split at h
   ·rename_i t ht;exact hL 0 _ rfl f (by simpa using hf) n s t ht Q h a w r
   ·exact h.elim
  ·exact h.elim
 |rangeFunc f ps x y ihx ihy=>
  intro off s Q a w hL h r;unfold P9 at h;split at h
  ·rename_i f hf;split at h
   ·rename_i t ht;exact hL 0 _ rfl f (by simpa using hf) n s t ht Q h a w r
   ·exact h.elim
  ·exact h.elim
 |exit id=>intro off s Q a w _ h r;exact wpIn_exit ⟨.x (.exit id),s,rfl,h,r⟩
 |ret=>intro off s Q a w _ h r;exact wpIn_ret ⟨.x .ret,s,rfl,h,r⟩
 |goto l=>intro off s Q a w _ h r;exact h.elim
 |refuse y=>intro off s Q a w _ h r;exact h.elim
end
def A8(P:Program)(G:List (Nat×Spec))(X:Ext)(PX:List (Nat×F0))(L:List PP)(fn:Func)(c:Code):F0:=λavs m nx sv=>
 some ((P9 P G X PX L c 0 {HT fn avs with m:=m,nx:=nx,sv:=sv}).bind λp=>match p.1 with
  | .pan v=> .leaf (.pan v,p.2.m,p.2.nx,p.2.sv)
  | .x (.exit _)=> .fail
  |_=>match BT P p.2 fn.results.toList with
   |some r=> .leaf (.ret r,p.2.m,p.2.nx,p.2.sv)
   |none=> .fail)
theorem FU{P:Program}{G:List (Nat×Spec)}{X:Ext}{PX:List (Nat×F0)}{L:List PP}{f:FuncId}{fn:Func}{c:Code}(hG:VN P G)(hX: ∀cx,VZ P X cx)(hP:UU P PX)(GU:P.follows .mixedOrders=true)(PH:Enters P f)(hf:P.funcs[f]? =some fn)(hb:fn.body=some c)
  (hL: ∀j cj,VV c j=some cj-> ∀sp,L[j]? =some sp-> ∀ro cx,P2 P ro cx cj sp):DA P f (A8 P G X PX L fn c):=by
 refine ⟨PH,?_⟩;intro avs m nx sv t ht Q hQ cx w0 T e ds args w hE hB hm hl LT hxt Z;unfold A8 at ht;cases ht
 let K':Nat->Obj->Prop:=λb o=>cx.K b o\/(∃d∈ds,d={target:= .collected b,args:=#[] }/\o= .deferred (some []))
 let cx':Cx:={M:=λ_=>False,Φ:=λg T' w'=>g=none/\T'=T/\w'=w0,K:=K',saved:=cx.saved,sz:=cx.sz}
 have FL:(P9 P G X PX L c 0 {HT fn avs with m:=m,nx:=nx,sv:=sv}).sat (λp=>match p.1 with
   | .pan v=>Q (.pan v,p.2.m,p.2.nx,p.2.sv)
   | .x (.exit _)=>False
   |_=> ∃r,BT P p.2 fn.results.toList=some r/\Q (.ret r,p.2.m,p.2.nx,p.2.sv)):=by
  refine VP.sat_mono ?_ (VP.sat_bind hQ);rintro ⟨x,s⟩ hs;cases x with
  |pan v=>exact hs
  |x x=>
  cases x with
  |exit i=>exact hs.elim
  |normal=>
   simp only at hs ⊢;split at hs
   ·rename_i r Z;exact ⟨r,Z,hs⟩
   ·exact hs.elim
  |ret=>
   simp only at hs ⊢;split at hs
   ·rename_i r Z;exact ⟨r,Z,hs⟩
   ·exact hs.elim
 have yW:Rel cx' {HT fn avs with m:=m,nx:=nx,sv:=sv} {tmps:=args.toArray++Array.replicate (fn.ntmps-args.toArray.size) undef,defers:=[] } w:=by
  refine ⟨w0,T,e,⟨rfl,rfl,rfl⟩,hE,hB,hm,hl,LT,⟨⟨(λd hd=>by cases hd),List.nodup_nil⟩,?_,hxt.saved,hxt.size⟩,?_⟩
  ·rintro b o (hk|⟨d,hd,h1,rfl⟩)
   ·exact hxt.kept b o hk
   ·obtain ⟨D,g1,g2,g3,g4,g5⟩:=hxt.defers.1 d hd;rw [h1] at g1;injection g1 with g1 _
    injection g1 with g1
    subst g1;exact ⟨g2,g3,g4⟩
  ·have I3:U5 e w (List.replicate (fn.ntmps-avs.length) .top) (List.replicate (fn.ntmps-avs.length) undef):=by
    refine ⟨VX,λi a v ha _=>?_⟩
    have:=F4 ha;rw [List.mem_replicate] at this;rw [this.2];exact .top v
   have:=Z.append I3;simpa [HT,Z.1] using this
 refine callsIn_wide (n:=0).1 (callsIn_of_wp_marks (F:=fr none) hf hb trivial (wpIn_mono (rU hG (hX cx') hP GU c 0 _ _ _ w (λj cj hj sp hsp=>hL j cj hj sp (by simpa using hsp) none cx') FL yW) ?_) rfl)
 rintro ex a' w' ⟨x,s',rfl,hq,w0',T',e',⟨_,rfl,rfl⟩,re⟩;have Qs2:a'.defers=[]:=by
  cases hd:a'.defers with
  |nil=>rfl
  |cons d l=>
   obtain ⟨D,_,_,_,_,g5⟩:=re.xt.defers.1 d (by rw [hd];exact GJ)
   exact g5.elim
 have hxt':Xt cx e' s'.sv ds w':=by
  refine ⟨⟨λd hd=>?_,hxt.defers.2⟩,λb o hk=>re.xt.kept b o (.inl hk),re.xt.saved,re.xt.size⟩
  obtain ⟨D,g1,g2,g3,g4,g5⟩:=hxt.defers.1 d hd;obtain ⟨k1,k2,k3⟩:=re.xt.kept D (.deferred (some [])) (.inr ⟨d,hd,g1,rfl⟩);exact ⟨D,g1,k1,k2,k3,g5⟩
 have fin:(∃r,BT P s' fn.results.toList=some r/\Q (.ret r,s'.m,s'.nx,s'.sv))->LeavesInM (fr none) 0 P fn a'.tmps (λen w'=> ∃r m' nx' sv' e',Xx9 e' w' r en/\Q (r,m',nx',sv')/\G4 e' w0'.heap.size w'/\Below w0'.heap.size w0' w'/\UX e' m' w'/\(∀k,e'.live k->k<nx')/\
   (∀b,T' b->b<w0'.heap.size/\ ¬e'.ro b)/\Xt cx e' sv' ds w') a'.defers .returning w':=by
  rintro ⟨r,F3,hq⟩;obtain ⟨u,hu,GN⟩:=DN (P:=P) re.mem re.slots F3;rw [Qs2];exact ⟨u,hu,.ret r,s'.m,s'.nx,s'.sv,e',⟨u,rfl,GN⟩,hq,re.env,re.below,re.mem,re.live,re.foe,hxt'⟩
 cases x with
 |pan v=>
  show LeavesInM (fr none) 0 P fn a'.tmps _ a'.defers (.panicking [{v:=v,recovered:=false}]) w';rw [Qs2];exact ⟨.pan v,s'.m,s'.nx,s'.sv,e',rfl,hq,re.env,re.below,re.mem,re.live,re.foe,hxt'⟩
 |x x=>
 cases x with
 |normal=>exact fin hq
 |ret=>exact fin hq
 |exit i=>exact hq.elim
def Wv0(N:List (Pl×Nat×TypeId×Nat))(nxt:St)(out:PEx->Option St)(p:PEx×St):VP PEx:=match p.1 with
 | .x .normal=> .needT (BK (R9 N p.2) nxt) (.leaf (.x .normal))
 | .x (.exit id)=>match out (.x (.exit id)) with
  |some E=> .needT (BK (R9 N p.2) E) (.leaf (.x (.exit id)))
  |none=> .fail
 | .x .ret=>match out (.x .ret) with
  |some E=> .needT (BK (R9 N p.2) E) (.leaf (.x .ret))
  |none=> .fail
 | .pan v=>match out (.pan v) with
  |some E=> .needT (BK (R9 N p.2) E) (.leaf (.pan v))
  |none=> .fail
theorem Wu9{N:List (Pl×Nat×TypeId×Nat)}{t:PT}{nxt:St}{out:PEx->Option St}{R:PEx->Prop}(h:(t.bind (Wv0 N nxt out)).sat R):
  t.sat (λp=>match p.1 with
   | .x .normal=>R (.x .normal)/\UD (BK (R9 N p.2) nxt)
   |y=> ∃E,out y=some E/\R y/\UD (BK (R9 N p.2) E)):=by
 refine VP.sat_mono ?_ (VP.sat_bind h);rintro ⟨y,s'⟩ A;cases y with
 |pan v=>
  dsimp only [Wv0] at A ⊢
  split at A
  ·rename_i E hE;exact ⟨E,hE,(VP.sat_needT A).2,(VP.sat_needT A).1⟩
  ·exact A.elim
 |x y=>
 cases y with
 |normal=>exact ⟨(VP.sat_needT A).2,(VP.sat_needT A).1⟩
 |exit id=>
  dsimp only [Wv0] at A ⊢
  split at A
  ·rename_i E hE;exact ⟨E,hE,(VP.sat_needT A).2,(VP.sat_needT A).1⟩
  ·exact A.elim
 |ret=>
  dsimp only [Wv0] at A ⊢
  split at A
  ·rename_i E hE;exact ⟨E,hE,(VP.sat_needT A).2,(VP.sat_needT A).1⟩
  ·exact A.elim
def Zg1(E:St)(t:PT):PP:=λs=>some (.needT (BK s E) t)
def a7(l:List (Pl×Nat×TypeId×Nat))(sp:PP):PP:=λs=>sp (R9 l s)
def Zg7(P:Program)(G:List (Nat×Spec))(X:Ext)(PX:List (Nat×F0))(L:List PP)(N:List (Pl×Nat×TypeId×Nat))(body:Code)(s nxt:St)(out:PEx->Option St):VP PEx:=(P9 P G X PX L body 0 s).bind (Wv0 N nxt out)
theorem aC{P:Program}{G:List (Nat×Spec)}{X:Ext}{PX:List (Nat×F0)}{L:List PP}(N:List (Pl×Nat×TypeId×Nat))(hG:VN P G)(hX: ∀cx,VZ P X cx)(hP:UU P PX)(GU:P.follows .mixedOrders=true){body:Code}(hL: ∀j cj,VV body j=some cj-> ∀sp,L[j]? =some sp-> ∀ro cx,P2 P ro cx cj sp)
  {V:Type}(inv:V->St)(I:V->Prop)(μ:V->Nat)(out:V->PEx->Option St){t:PT}{x0:V}(h0:I x0)
  (hok: ∀x,okB (inv x)=true)(w8: ∀x y E,out x y=some E->okB E=true)
  (round: ∀(Q:PEx×St->Prop),t.sat Q-> ∀x,I x-> ∃x',(Zg7 P G X PX L N body (inv x) (inv x') (out x)).sat (λy=>match y with
   | .x .normal=>I x'/\μ x'<μ x
   |y=> ∀E,out x y=some E->Q (y,E))): ∀ro cx,P2 P ro cx (.loop body) (a7 N (Zg1 (inv x0) t)):=by
 intro ro cx n s t' ht Q FL a w r;simp only [a7,Zg1,HH] at ht;subst ht
 replace FL:=VP.sat_needT FL
 have hQ:=FL.2;have r:=FX (GF FL.1) (hok x0) (DI r);refine aD μ (λx a w=>I x/\Rel cx (inv x) a w) ?_ ⟨h0,r⟩
 rintro x a w ⟨hx,Z⟩;obtain ⟨x',jA⟩:=round Q hQ x hx;refine wpIn_mono (rU hG (hX cx) hP GU body 0 (inv x) _ a w (λj cj hj sp hsp=>hL j cj hj sp (by simpa using hsp) ro cx) (Wu9 jA) Z) ?_
 rintro ex a₁ w₁ ⟨y,s',rfl,hq,hr'⟩;cases y with
 |pan v=>
  obtain ⟨E,hE,h1,h3⟩:=hq;exact ⟨.pan v,E,rfl,h1 E hE,FX (GF h3) (w8 x _ E hE) (DI hr')⟩
 |x y=>
 cases y with
 |normal=>
  obtain ⟨⟨h1,h2⟩,h3⟩:=hq;exact ⟨x',h2,h1,FX (GF h3) (hok x') (DI hr')⟩
 |exit id=>
  obtain ⟨E,hE,h1,h3⟩:=hq;exact ⟨.x (.exit id),E,rfl,h1 E hE,FX (GF h3) (w8 x _ E hE) (DI hr')⟩
 |ret=>
  obtain ⟨E,hE,h1,h3⟩:=hq;exact ⟨.x .ret,E,rfl,h1 E hE,FX (GF h3) (w8 x _ E hE) (DI hr')⟩
theorem Step.app{e:UN}{id:Nat}(u:Value)(w:World)(hid: ¬e.live id):Step e (e.app id u) w w:=
 ⟨λb _ h=>⟨h,rfl⟩,λk hk=>⟨.inr hk,rfl,by
  have:k≠id:=λh=>hid (h▸hk)
  simp [UN.app,this]⟩,Am _⟩
def Ws4(sp:BQ):D6:=λavs m nx sv=>match sp (avs.map (DF m 40)) with
 |some (ns,T,sz,n,g)=>some (.needT ns (.leaf (.row nx,(nx,.row T sz n g)::m,nx+1,sv)))
 |none=>none
theorem C7{P:Program}{f:FuncId}{sp:BQ}(h:Enters P f/\ ∀avs ns T sz n g,sp avs=some (ns,T,sz,n,g)->(∀q∈ns,q)->DR P f avs T sz n g):GE P f (Ws4 sp):=by
 refine ⟨h.1,?_⟩;intro avs m nx sv t ht Q hQ c w0 T e ds args w hE hB hm hl LT hxt Z;unfold Ws4 at ht;split at ht
 ·rename_i ns T' sz n g hsp;cases ht;obtain ⟨hns,hq⟩:=VP.sat_needT hQ;have gU:=U5.map (DF m 40) (LD hE hm 40) Z;have FK:=h.2 _ _ _ _ _ _ hsp (GF hns) e.view w _ (by
   rintro b (hb|⟨k,hb⟩)
   ·exact (hE.apart b hb).2
   ·exact (hE.owned b k hb).2) (hE.glob.step (Step.view w)) (DW (RN hm 40) Z) gU
  refine FK.mono ?_;rintro en w' ⟨v,xs,rfl,hb,k1,k2,k3,k4⟩;obtain ⟨e',q1,q2,q3,q4,q5,q6,q7,q8⟩:=IY hE hB.size hm (λhlv=>Bf _ (hl _ hlv)) hb k1 k2 k3 k4
  refine ⟨v,_,_,_,_,e',rfl,hq,q3,hB.trans (hb.mono hB.size),q6,λk hk=>?_,λb hT=>⟨(LT b hT).1,λhro=>?_⟩,hxt.step q2,q5⟩
  ·rcases q7 k hk with hk|rfl
   ·exact Nat.lt_succ_of_lt (hl k hk)
   ·exact Bk _
  ·rcases q8 b hro with hro|hro
   ·exact (LT b hT).2 hro
   ·have:=(LT b hT).1;have:=hB.size;omega
 ·cases ht
theorem VP.bind_sat{α β:Type}{f:α->VP β}{Q:β->Prop}: ∀{t:VP α},t.sat (λa=>(f a).sat Q)->(t.bind f).sat Q
 | .fail,h=>h.elim
 | .leaf a,h=>h
 | .need ps t,h=>⟨h.1,VP.bind_sat h.2⟩
 | .branch b t t',h=>⟨λhb=>VP.bind_sat (h.1 hb),λhb=>VP.bind_sat (h.2 hb)⟩
 | .may p t t',h=>⟨λhb=>VP.bind_sat (h.1 hb),VP.bind_sat h.2⟩
def Qf8(N:List (Pl×Nat×TypeId×Nat))(ET EF:St)(x:AV×H5×Nat×List (List AV)):VP Bool:=match x.1 with
 | .lit true=> .needT (BK (R9 N {σ:=[],m:=x.2.1,nx:=x.2.2.1,sv:=x.2.2.2}) ET) (.leaf true)
 | .lit false=> .needT (BK (R9 N {σ:=[],m:=x.2.1,nx:=x.2.2.1,sv:=x.2.2.2}) EF) (.leaf false)
 |_=> .fail
def inlT(P:Program)(G:List (Nat×Spec))(X:Ext)(L:List UL)(fn:Func)(c:Code)(avs:List AV)(m:H5)(nx:Nat)(sv:List (List AV))(N:List (Pl×Nat×TypeId×Nat))(ET EF:St):VP Bool:=
 (D9 P G X L c 0 {HT fn avs with m:=m,nx:=nx,sv:=sv}).bind λp=>match p.1 with
  | .exit _=> .fail
  |_=>match BT P p.2 fn.results.toList with
   |some r=>Qf8 N ET EF (r,p.2.m,p.2.nx,p.2.sv)
   |none=> .fail
theorem vF{P:Program}{fn:Func}{R:Ending->World->Prop}{M:Nat->Prop}{w0:World}{e:UN}{s:St}{tmps:Array Value}{n:Nat}{J:World->Prop}(hB: ∀D,M D->w0.heap.size<=D)
  (hJ: ∀w D,M D->w.heap[D]? =some (.deferred (some []))->J w->J (w.putObj D (.deferred none)))
  (fin: ∀w',G4 e w0.heap.size w'->Below w0.heap.size w0 w'->UX e s.m w'->U5 e w' s.σ tmps.toList->J w'-> ∃v,(results fn tmps).run P w'= .ok v w'/\R (.returned v) w'):
  ∀(ds:List Deferred) (w:World),SX M e w ds->G4 e w0.heap.size w->Below w0.heap.size w0 w->UX e s.m w->U5 e w s.σ tmps.toList->J w->LeavesInM (fr none) n P fn tmps R ds .returning w
 |[],w,_,hE,hb,hm,hs,hj=>fin w hE hb hm hs hj
 |d::ds,w,hd,hE,hb,hm,hs,hj=>by
  obtain ⟨D,h1,h2,h3,h4,h5⟩:=hd.1 d GJ;refine ⟨VX,.inl ⟨D,_,by rw [h1],run_takeDeferred h4,?_⟩⟩
  have HA:=(hE.apart D h2).1;have hsz:(w.putObj D (.deferred none)).heap.size=w.heap.size:=World.putObj_size;refine vF hB hJ fin ds _ ⟨λd' hd'=>?_,(List.nodup_cons.1 hd.2).2⟩ ⟨λb hb=>by rw [hsz];exact hE.apart b hb,λb k hk=>by rw [hsz];exact hE.owned b k hk,aO hE.glob h4 rfl⟩ ?_ (λp A=>(hm p A).putObj h4 (λ_ _ h=>by cases h) rfl rfl HA) (hs.sameCells hsz (BH h4 rfl rfl) (qR h4 (λ_ _ h=>by cases h))) (hJ _ _ h5 h4 hj)
  ·obtain ⟨D',k1,k2,k3,k4,k5⟩:=hd.1 d' (HW _ hd');have hne:D'≠D:=by
    rintro rfl;exact (List.nodup_cons.1 hd.2).1 (by rw [h1,←k1];exact hd')
   exact ⟨D',k1,k2,by rw [hsz];exact k3,(World.putObj_heap_other hne).trans k4,k5⟩
  ·exact hb.trans ((Below.refl w0.heap.size w).grown (grownBy_putObj' w D _) (by have:=hb.size;have:=hB D h5;omega) (λk he=>by cases he;exact hB D h5))
def Xd8(P:Program)(f:FuncId)(avs:List AV)(m:H5)(nx:Nat)(sv:List (List AV))(ET EF:St)(b:Bool):Prop:=
 ∀(c:Cx) (w0:World) (T:Nat->Prop) (e:UN) (args:List Value) (w:World),
 G4 e w0.heap.size w->Below w0.heap.size w0 w->UX e m w->(∀k,e.live k->k<nx)->(∀b,T b->b<w0.heap.size/\ ¬e.ro b)->Xt c e sv [] w->c.sz=w.heap.size->U5 e w avs args->
  Calls P f args.toArray w λen w'=>en= .returned (.bool b)/\ ∃e',G4 e' w0.heap.size w'/\Below w0.heap.size w0 w'/\UX e' (cond b ET EF).m w'/\(∀k,e'.live k->k<(cond b ET EF).nx)/\
   (∀b,T b->b<w0.heap.size/\ ¬e'.ro b)/\Xt c e' (cond b ET EF).sv [] w'
theorem Qr2{P:Program}{G:List (Nat×Spec)}{X:Ext}{L:List UL}{f:FuncId}{fn:Func}{c:Code}(hG:VN P G)(hX: ∀cx,VZ P X cx)(GU:P.follows .mixedOrders=true)(hf:P.funcs[f]? =some fn)(hb:fn.body=some c)
  (hL: ∀j cj,VV c j=some cj-> ∀sp,L[j]? =some sp->HN P cj sp){avs:List AV}{m:H5}{nx:Nat}{sv:List (List AV)}{N:List (Pl×Nat×TypeId×Nat)}{ET EF:St}{b:Bool}{t:VP Bool}
  (hT:okB ET=true)(hF:okB EF=true)(gT:ET.gh=none)(gF:EF.gh=none)(ht:inlT P G X L fn c avs m nx sv N ET EF=t)(FL:t.sat λr=>r=b):Xd8 P f avs m nx sv ET EF b:=by
 subst ht;intro cx w0 T e args w hE hB hm hl LT hxt hsz Z
 let cx':Cx:={M:=λD=>w.heap.size<=D,Φ:=λg T' w'=>g=none/\T'=T/\w'=w0,K:=cx.K,saved:=cx.saved,sz:=w.heap.size}
 have Zo8:cx'.fun:=λ_ _ _ D _ _ h=>h
 have yW:Rel cx' {HT fn avs with m:=m,nx:=nx,sv:=sv} {tmps:=args.toArray++Array.replicate (fn.ntmps-args.toArray.size) undef,defers:=[] } w:=by
  refine ⟨w0,T,e,⟨rfl,rfl,rfl⟩,hE,hB,hm,hl,LT,⟨⟨(λd hd=>by cases hd),List.nodup_nil⟩,hxt.kept,hxt.saved,Am _⟩,?_⟩
  have I3:U5 e w (List.replicate (fn.ntmps-avs.length) .top) (List.replicate (fn.ntmps-avs.length) undef):=by
   refine ⟨VX,λi a v ha _=>?_⟩
   have:=F4 ha;rw [List.mem_replicate] at this;rw [this.2];exact .top v
  have:=Z.append I3;simpa [HT,Z.1] using this
 have hb2:=VP.sat_bind FL;refine callsIn_wide (n:=0).1 (callsIn_of_wp_marks (F:=fr none) hf hb trivial (wpIn_mono (DB hG (hX cx') GU c 0 _ _ _ w (λj cj hj sp hsp=>hL j cj hj sp (by simpa using hsp) cx' Zo8) hb2 yW) ?_) rfl)
 rintro ex a' w' ⟨x,s',rfl,hs,w0',T',e',⟨hgh',rfl,rfl⟩,re⟩
 let J:World->Prop:=λw2=>w.heap.size<=w2.heap.size/\Xt {cx' with sz:=0} e' s'.sv [] w2
 have hJ: ∀w2 D,w.heap.size<=D->w2.heap[D]? =some (.deferred (some []))->J w2->J (w2.putObj D (.deferred none)):=by
  rintro w2 D hD h4 ⟨j0,j1,j2,j3,j4⟩;have uE:(w2.putObj D (.deferred none)).heap.size=w2.heap.size:=World.putObj_size;refine ⟨by rw [uE];exact j0,⟨⟨λd hd=>(by cases hd),List.nodup_nil⟩,λb o hk=>?_,⟨j3.1,λi a v ha hv=>(j3.2 i a v ha hv).sameCells uE (BH h4 rfl rfl) (qR h4 (λ_ _ h=>by cases h))⟩,Ao _⟩⟩
  obtain ⟨k1,k2,k3⟩:=j2 b o hk;have hlt:=(hxt.kept b o hk).2.1;exact ⟨k1,by rw [uE];exact k2,(World.putObj_heap_other VM).trans k3⟩
 have hJ0:J w':=⟨re.xt.size,⟨⟨λd hd=>(by cases hd),List.nodup_nil⟩,re.xt.kept,re.xt.saved,Ao _⟩⟩
 have main:(match x with| .exit _=>False|_=> ∃r,BT P s' fn.results.toList=some r/\(Qf8 N ET EF (r,s'.m,s'.nx,s'.sv)).sat λr=>r=b):=by
  cases x with
  |exit i=>exact hs.elim
  |normal=>
   simp only at hs ⊢;split at hs
   ·rename_i r hr';exact ⟨r,hr',hs⟩
   ·exact hs.elim
  |ret=>
   simp only at hs ⊢;split at hs
   ·rename_i r hr';exact ⟨r,hr',hs⟩
   ·exact hs.elim
 have yY:(∃r,BT P s' fn.results.toList=some r/\(Qf8 N ET EF (r,s'.m,s'.nx,s'.sv)).sat λr=>r=b)->LeavesInM (fr none) 0 P fn a'.tmps (λen w'=>en= .returned (.bool b)/\ ∃e',G4 e' w0'.heap.size w'/\Below w0'.heap.size w0' w'/\UX e' (cond b ET EF).m w'/\(∀k,e'.live k->k<(cond b ET EF).nx)/\
   (∀b,T' b->b<w0'.heap.size/\ ¬e'.ro b)/\Xt cx e' (cond b ET EF).sv [] w') a'.defers .returning w':=by
  rintro ⟨r,F3,hq⟩;refine vF (M:=cx'.M) (s:=s') (J:=J) (λD hD=>Ar hB.size hD) hJ (λw2 q1 q2 q3 q4 q5=>?_) a'.defers w' re.xt.defers re.env re.below re.mem re.slots hJ0
  obtain ⟨u,hu,GN⟩:=DN (P:=P) q3 q4 F3
  let c2:Cx:={M:=cx.M,Φ:=λg T'' w''=>g=none/\T''=T'/\w''=w0',K:=cx.K,saved:=cx.saved,sz:=cx.sz}
  have Ji0:Rel c2 {σ:=[],m:=s'.m,nx:=s'.nx,sv:=s'.sv} {tmps:=#[],defers:=[] } w2:=
   ⟨w0',T',e',⟨rfl,rfl,rfl⟩,q1,q2,q3,re.live,re.foe,⟨⟨λd hd=>(by cases hd),List.nodup_nil⟩,q5.2.kept,q5.2.saved,by show cx.sz<=_;rw [hsz];exact q5.1⟩,U5.nil _ _⟩
  have hn:=DI (l:=N) Ji0;have fin: ∀E:St,Rel c2 E {tmps:=#[],defers:=[] } w2-> ∃e',G4 e' w0'.heap.size w2/\Below w0'.heap.size w0' w2/\UX e' E.m w2/\(∀k,e'.live k->k<E.nx)/\(∀b,T' b->b<w0'.heap.size/\ ¬e'.ro b)/\Xt cx e' E.sv [] w2:=by
   rintro E ⟨w0'',T'',e2,⟨_,rfl,rfl⟩,r⟩;exact ⟨e2,r.env,r.below,r.mem,r.live,r.foe,⟨r.xt.defers,r.xt.kept,r.xt.saved,r.xt.size⟩⟩
  refine ⟨u,hu,?_⟩;unfold Qf8 at hq;split at hq
  ·rename_i h1;simp only at h1;subst h1;obtain ⟨q1,q2⟩:=VP.sat_needT hq;have q2:true=b:=q2;subst q2;exact ⟨by rw [GN.lit_inv],fin ET (FX (GF q1) hT hn)⟩
  ·rename_i h1;simp only at h1;subst h1;obtain ⟨q1,q2⟩:=VP.sat_needT hq;have q2:false=b:=q2;subst q2;exact ⟨by rw [GN.lit_inv],fin EF (FX (GF q1) hF hn)⟩
  ·exact hq.elim
 cases x with
 |normal=>exact yY main
 |ret=>exact yY main
 |exit i=>exact main.elim
def Xv7(N:List (Pl×Nat×TypeId×Nat))(h:D6):D6:=λavs m nx sv=>
 h (R9 N {σ:=avs,m:=m,nx:=nx,sv:=sv}).σ (R9 N {σ:=avs,m:=m,nx:=nx,sv:=sv}).m (R9 N {σ:=avs,m:=m,nx:=nx,sv:=sv}).nx (R9 N {σ:=avs,m:=m,nx:=nx,sv:=sv}).sv
theorem iB{P:Program}{f:FuncId}{N:List (Pl×Nat×TypeId×Nat)}{h:D6}(hs:GE P f h):GE P f (Xv7 N h):=by
 refine ⟨hs.1,?_⟩;intro avs m nx sv t ht Q hQ c w0 T e ds args w hE hB hm hl LT hxt Z
 let c':Cx:={M:=c.M,Φ:=λg T' w'=>g=none/\T'=T/\w'=w0,K:=c.K,saved:=c.saved,sz:=c.sz}
 have yW:Rel c' {σ:=avs,m:=m,nx:=nx,sv:=sv} {tmps:=args.toArray,defers:=ds} w:=
  ⟨w0,T,e,⟨rfl,rfl,rfl⟩,hE,hB,hm,hl,LT,⟨hxt.defers,hxt.kept,hxt.saved,hxt.size⟩,by simpa using Z⟩
 obtain ⟨w0',T',e2,⟨_,rfl,rfl⟩,r⟩:=DI (l:=N) yW;exact hs.2 _ _ _ _ _ ht Q hQ c w0' T' e2 ds args w r.env r.below r.mem r.live r.foe ⟨r.xt.defers,r.xt.kept,r.xt.saved,r.xt.size⟩ (by simpa using r.slots)
def Zk9(D:TypeId):Value->Option Int
 | .iface T v=>match Nat.beq T D with
  |true=>match v with
   | .agg a=>match a.toList with
    |[.int .i64 k]=>some k
    |_=>none
   |_=>none
  |false=>none
 |_=>none
theorem Qp3{D:TypeId}{v:Value}{k:Int}(h:Zk9 D v=some k):v= .iface D (.agg #[.int .i64 k]):=by
 unfold Zk9 at h;split at h
 ·split at h
  ·rename_i hb;cases H2 hb;split at h
   ·rename_i a;split at h
    ·rename_i k0 ha;cases h;have:a=#[Value.int .i64 k]:=Array.toList_inj.1 ha;rw [this]
    ·cases h
   ·cases h
  ·cases h
 ·cases h
def Xn4(D:TypeId)(r:Bool×Int):Ending:=match r.1 with
 |true=> .returned (.tuple #[])
 |false=> .panicked [{v:= .iface D (.agg #[.int .i64 r.2]),recovered:=false}]
def dZ(a b:AV):Prop:=match a,b with
 | .lst sz n f,.lst sz' n' f'=>sz=sz'/\n=n'/\ ∀i,i<n'->wD (f i) (f' i)/\ ∀x∈f' i,Idf x
 |a,b=>FJ a b
def HE:List AV->List AV->Prop
 |[],[]=>True
 |a::l,b::m=>dZ a b/\HE l m
 |_,_=>False
theorem iH{e:UN}{w:World}{a b:AV}{v:Value}(h:dZ a b)(r:Rep e w a v):Rep e w b v:=by
 unfold dZ at h;split at h
 ·rename_i sz n f sz' n' f';obtain ⟨rfl,rfl,h⟩:=h;cases r with
  |lstNil=>exact .lstNil _ _
  |lst _ _ _ b o cap g h1 h2 h3 h4 h5 h6 h7 h8 ad had=>
   have key: ∀i,i<n->U5 e w (f' i) ((List.range sz).map (g i)):=by
    intro i O;refine yE (h i O).1 ⟨by rw [h7 i O];simp,λj a v ha hv=>?_⟩
    have hj:j<sz:=by
     have:=(FW.1 ha).1
     rwa [h7 i O] at this
    rw [Bn,List.getElem?_range hj] at hv;simp only [Bt,HH] at hv;rw [←hv];exact h8 i j a O ha
   refine .lst sz n f' b o cap g h1 h2 (λi O=>(h i O).2) h4 h5 h6 (λi O=>by have:=(key i O).1;simpa using this) (λi j a O ha=>?_) ad had
   have hj:j<sz:=by
    have h9:=(key i O).1;have:=(FW.1 ha).1;simp at h9;omega
   exact (key i O).2 j a (g i j) ha (by rw [Bn,List.getElem?_range hj];rfl)
 ·exact L2 h r
theorem dY{e:UN}{w:World}: ∀{l m:List AV} {vs:List Value},HE l m->U5 e w l vs->U5 e w m vs
 |[],[],_,_,r=>r
 |a::l,b::m,vs,h,r=>by
  obtain ⟨v,vs',rfl,r1,r2⟩:=r.cons_inv;exact .cons (iH h.1 r1) (dY h.2 r2)
 |[],_::_,_,h,_=>h.elim
 |_::_,[],_,h,_=>h.elim
def Qu0(m:H5):H5->List Prop
 |[]=>[]
 |(id,r)::t=>match r with
  | .cells T l=>match DJ m id with
   |some (.cells T' l')=>match Nat.beq T' T with
    |true=>HE l' l::Qu0 m t
    |false=>[False]
   |_=>[False]
  | .row T sz n f=>match DJ m id with
   |some (.row T' sz' n' f')=>((T',sz',n',f')=(T,sz,n,f))::Qu0 m t
   |_=>[False]
  |_=>[False]
theorem aX{e:UN}{w:World}{m:H5}(hm:UX e m w): ∀{m':H5},(∀p∈Qu0 m m',p)->UX e m' w
 |[],_,p,A=>by cases A
 |(id,r)::t,h,p,A=>by
  unfold Qu0 at h;split at h
  ·rename_i T l;split at h
   ·rename_i T' l' hg;split at h
    ·rename_i hT;rcases GQ.1 A with rfl|A
     ·have h1:T'=T:=H2 hT;have h2:HE l' l:=h _ GJ;subst h1;obtain ⟨g1,g2,vs,g3,g4⟩:=hm _ (G0 hg);exact ⟨g1,g2,vs,g3,dY h2 g4⟩
     ·exact aX hm (m':=t) (λq hq=>h q (HW _ hq)) p A
    ·exact (h False GJ).elim
   ·exact (h False GJ).elim
  ·rename_i T sz n f;split at h
   ·rename_i T' sz' n' f' hg;rcases GQ.1 A with rfl|A
    ·have h2:(T',sz',n',f')=(T,sz,n,f):=h _ GJ;cases h2;exact hm _ (G0 hg)
    ·exact aX hm (m':=t) (λq hq=>h q (HW _ hq)) p A
   ·exact (h False GJ).elim
  ·exact (h False GJ).elim
def Wu4(s E:St):List Prop:=match Nat.ble s.nx E.nx with
 |true=>(s.sv=E.sv)::Qu0 s.m E.m
 |false=>[False]
theorem Xm7{s E:St}(h: ∀p∈Wu4 s E,p):s.nx<=E.nx/\s.sv=E.sv/\ ∀p∈Qu0 s.m E.m,p:=by
 unfold Wu4 at h;split at h
 ·rename_i hb;exact ⟨qY hb,h _ GJ,λp A=>h p (HW _ A)⟩
 ·exact (h False GJ).elim
def Qf9(D:TypeId)(N:List (Pl×Nat×TypeId×Nat))(ET EF:St)(x:Xc2×H5×Nat×List (List AV)):VP (Bool×Int):=match x.1 with
 | .ret (.tup [])=> .needT (Wu4 (R9 N {σ:=[],m:=x.2.1,nx:=x.2.2.1,sv:=x.2.2.2}) ET) (.leaf (true,0))
 | .pan v=>match Zk9 D v with
  |some k=> .needT (Wu4 {σ:=[],m:=x.2.1,nx:=x.2.2.1,sv:=x.2.2.2} EF) (.leaf (false,k))
  |none=> .fail
 |_=> .fail
def Jh0(P:Program)(G:List (Nat×Spec))(X:Ext)(PX:List (Nat×F0))(L:List PP)(fn:Func)(c:Code)(avs:List AV)(m:H5)(nx:Nat)(sv:List (List AV))(D:TypeId)(N:List (Pl×Nat×TypeId×Nat))(ET EF:St):VP (Bool×Int):=
 (P9 P G X PX L c 0 {HT fn avs with m:=m,nx:=nx,sv:=sv}).bind λp=>match p.1 with
  | .pan v=>Qf9 D N ET EF (.pan v,p.2.m,p.2.nx,p.2.sv)
  | .x (.exit _)=> .fail
  |_=>match BT P p.2 fn.results.toList with
   |some r=>Qf9 D N ET EF (.ret r,p.2.m,p.2.nx,p.2.sv)
   |none=> .fail
def wX(P:Program)(f:FuncId)(avs:List AV)(m:H5)(nx:Nat)(sv:List (List AV))(D:TypeId)(ET EF:St)(res:Bool×Int):Prop:=
 ∀(c:Cx) (w0:World) (T:Nat->Prop) (e:UN) (ds:List Deferred) (args:List Value) (w:World),
 G4 e w0.heap.size w->Below w0.heap.size w0 w->UX e m w->(∀k,e.live k->k<nx)->(∀b,T b->b<w0.heap.size/\ ¬e.ro b)->Xt c e sv ds w->U5 e w avs args->
  Calls P f args.toArray w λen w'=>en=Xn4 D res/\ ∃e',G4 e' w0.heap.size w'/\Below w0.heap.size w0 w'/\UX e' (cond res.1 ET EF).m w'/\(∀k,e'.live k->k<(cond res.1 ET EF).nx)/\
   (∀b,T b->b<w0.heap.size/\ ¬e'.ro b)/\Xt c e' (cond res.1 ET EF).sv ds w'
theorem Zl0{P:Program}{f:FuncId}{h:F0}(hs:DA P f h){avs:List AV}{m:H5}{nx:Nat}{sv:List (List AV)}{t:VP (Xc2×H5×Nat×List (List AV))}{D:TypeId}{N:List (Pl×Nat×TypeId×Nat)}{ET EF:St}{res:Bool×Int}(ht:h avs m nx sv=some t)
  (FL:t.sat λx=>(Qf9 D N ET EF x).sat λr=>r=res):wX P f avs m nx sv D ET EF res:=by
 intro c w0 T e ds args w hE hB hm hl LT hxt Z;refine (hs.2 _ _ _ _ _ ht _ FL c w0 T e ds args w hE hB hm hl LT hxt Z).mono ?_;rintro en w' ⟨r,m',nx',sv',e',hpe,hq,g1,g2,g3,g4,g5,g6⟩
 let c':Cx:={M:=c.M,Φ:=λg T' w'=>g=none/\T'=T/\w'=w0,K:=c.K,saved:=c.saved,sz:=c.sz}
 have yW:Rel c' {σ:=[],m:=m',nx:=nx',sv:=sv'} {tmps:=#[],defers:=ds} w':=
  ⟨w0,T,e',⟨rfl,rfl,rfl⟩,g1,g2,g3,g4,g5,⟨g6.defers,g6.kept,g6.saved,g6.size⟩,U5.nil _ _⟩
 have fin: ∀S E:St,Rel c' S {tmps:=#[],defers:=ds} w'->(∀p∈Wu4 S E,p)-> ∃e',G4 e' w0.heap.size w'/\Below w0.heap.size w0 w'/\UX e' E.m w'/\(∀k,e'.live k->k<E.nx)/\(∀b,T b->b<w0.heap.size/\ ¬e'.ro b)/\Xt c e' E.sv ds w':=by
  rintro S E ⟨w0',T',e2,⟨_,rfl,rfl⟩,r⟩ hf;obtain ⟨h1,h2,h3⟩:=Xm7 hf;refine ⟨e2,r.env,r.below,aX r.mem h3,λk hk=>qD (r.live k hk) h1,r.foe,⟨r.xt.defers,r.xt.kept,?_,r.xt.size⟩⟩
  rw [←h2];exact r.xt.saved
 unfold Qf9 at hq;split at hq
 ·rename_i h1;simp only at h1;subst h1;obtain ⟨v,rfl,rv⟩:=hpe;obtain ⟨q1,q2⟩:=VP.sat_needT hq;have q2:(true,0)=res:=q2;subst q2;obtain ⟨us,rfl,hus⟩:=rv.tup_inv;obtain rfl:=hus.nil_inv;exact ⟨rfl,fin _ ET (DI (l:=N) yW) (GF q1)⟩
 ·rename_i v h1;simp only at h1;subst h1;split at hq
  ·rename_i k hk;obtain ⟨q1,q2⟩:=VP.sat_needT hq;have q2:(false,k)=res:=q2;subst q2;have hpe:en= .panicked [{v:=v,recovered:=false}]:=hpe;rw [hpe,Qp3 hk];exact ⟨rfl,fin _ EF yW (GF q1)⟩
  ·exact hq.elim
 ·exact hq.elim
theorem LM{P:Program}{G:List (Nat×Spec)}{X:Ext}{PX:List (Nat×F0)}{L:List PP}{f:FuncId}{fn:Func}{c:Code}(hG:VN P G)(hX: ∀cx,VZ P X cx)(hP:UU P PX)(GU:P.follows .mixedOrders=true)(PH:Enters P f)(hf:P.funcs[f]? =some fn)(hb:fn.body=some c)
  (hL: ∀j cj,VV c j=some cj-> ∀sp,L[j]? =some sp-> ∀ro cx,P2 P ro cx cj sp){avs:List AV}{m:H5}{nx:Nat}{sv:List (List AV)}{D:TypeId}{N:List (Pl×Nat×TypeId×Nat)}{ET EF:St}{res:Bool×Int}{t:VP (Bool×Int)}
  (ht:Jh0 P G X PX L fn c avs m nx sv D N ET EF=t)(FL:t.sat λr=>r=res):wX P f avs m nx sv D ET EF res:=by
 subst ht;refine Zl0 (FU hG hX hP GU PH hf hb hL) (h:=A8 P G X PX L fn c) (N:=N) rfl (VP.bind_sat (VP.sat_mono ?_ (VP.sat_bind FL)));rintro ⟨x,s⟩ h;cases x with
 |pan v=>exact h
 |x y=>
  cases y with
  |exit i=>exact h.elim
  |normal=>
   simp only at h ⊢;split at h
   ·rename_i r Z
    first|exact h|(rw [Z];exact h)|(simp only [Z];exact h)
   ·exact h.elim
  |ret=>
   simp only at h ⊢;split at h
   ·rename_i r Z
    first|exact h|(rw [Z];exact h)|(simp only [Z];exact h)
   ·exact h.elim
def Wo2(P:Program)(ev:Code->Nat->St->CT)(fn:Func)(c:Code):D6:=λavs m nx sv=>
 some ((ev c 0 {HT fn avs with m:=m,nx:=nx,sv:=sv}).bind λp=>match p.1 with
  | .exit _=> .fail
  |_=>match BT P p.2 fn.results.toList with
   |some r=> .leaf (r,p.2.m,p.2.nx,p.2.sv)
   |none=> .fail)
theorem pW{P:Program}{ev:Code->Nat->St->CT}{L:List UL}{f:FuncId}{fn:Func}{c:Code}(hev: ∀cx,Qa7 P cx L ev)(PH:Enters P f)(hf:P.funcs[f]? =some fn)(hb:fn.body=some c)
  (hL: ∀j cj,VV c j=some cj-> ∀sp,L[j]? =some sp->GA P cj sp):GE P f (Wo2 P ev fn c):=by
 refine ⟨PH,?_⟩;intro avs m nx sv t ht Q hQ cx w0 T e ds args w hE hB hm hl LT hxt Z;unfold Wo2 at ht;cases ht
 let K':Nat->Obj->Prop:=λb o=>cx.K b o\/(∃d∈ds,d={target:= .collected b,args:=#[] }/\o= .deferred (some []))
 let cx':Cx:={M:=λ_=>False,Φ:=λg T' w'=>g=none/\T'=T/\w'=w0,K:=K',saved:=cx.saved,sz:=cx.sz}
 have FL:(ev c 0 {HT fn avs with m:=m,nx:=nx,sv:=sv}).sat (λp=>(∀i,p.1≠ .exit i)/\p.2.gh=p.2.gh/\ ∃r,BT P p.2 fn.results.toList=some r/\Q (r,p.2.m,p.2.nx,p.2.sv)):=by
  refine VP.sat_mono ?_ (VP.sat_bind hQ);rintro ⟨x,s⟩ hs;cases x with
  |exit i=>exact hs.elim
  |normal=>
   simp only at hs;split at hs
   ·rename_i r Z;exact ⟨λi h=>(by cases h),rfl,r,Z,hs⟩
   ·exact hs.elim
  |ret=>
   simp only at hs;split at hs
   ·rename_i r Z;exact ⟨λi h=>(by cases h),rfl,r,Z,hs⟩
   ·exact hs.elim
 have yW:Rel cx' {HT fn avs with m:=m,nx:=nx,sv:=sv} {tmps:=args.toArray++Array.replicate (fn.ntmps-args.toArray.size) undef,defers:=[] } w:=by
  refine ⟨w0,T,e,⟨rfl,rfl,rfl⟩,hE,hB,hm,hl,LT,⟨⟨(λd hd=>by cases hd),List.nodup_nil⟩,?_,hxt.saved,hxt.size⟩,?_⟩
  ·rintro b o (hk|⟨d,hd,h1,rfl⟩)
   ·exact hxt.kept b o hk
   ·obtain ⟨D,g1,g2,g3,g4,g5⟩:=hxt.defers.1 d hd;rw [h1] at g1;injection g1 with g1 _
    injection g1 with g1
    subst g1;exact ⟨g2,g3,g4⟩
  ·have I3:U5 e w (List.replicate (fn.ntmps-avs.length) .top) (List.replicate (fn.ntmps-avs.length) undef):=by
    refine ⟨VX,λi a v ha _=>?_⟩
    have:=F4 ha;rw [List.mem_replicate] at this;rw [this.2];exact .top v
   have:=Z.append I3;simpa [HT,Z.1] using this
 refine callsIn_wide (n:=0).1 (callsIn_of_wp_marks (F:=fr none) hf hb trivial (wpIn_mono (hev cx' none 0 c 0 _ _ _ w (λj cj hj sp hsp=>hL j cj hj sp (by simpa using hsp) none cx') FL yW) ?_) rfl)
 rintro ex a' w' ⟨x,s',rfl,⟨hx,_,r,F3,hq⟩,w0',T',e',⟨_,rfl,rfl⟩,re⟩;have Qs2:a'.defers=[]:=by
  cases hd:a'.defers with
  |nil=>rfl
  |cons d l=>
   obtain ⟨D,_,_,_,_,g5⟩:=re.xt.defers.1 d (by rw [hd];exact GJ)
   exact g5.elim
 obtain ⟨u,hu,GN⟩:=DN (P:=P) re.mem re.slots F3;have yY:LeavesInM (fr none) 0 P fn a'.tmps (λen w'=> ∃v r m' nx' sv' e',en= .returned v/\Q (r,m',nx',sv')/\G4 e' w0'.heap.size w'/\Below w0'.heap.size w0' w'/\UX e' m' w'/\(∀k,e'.live k->k<nx')/\
   (∀b,T' b->b<w0'.heap.size/\ ¬e'.ro b)/\Xt cx e' sv' ds w'/\Rep e' w' r v) a'.defers .returning w':=by
  rw [Qs2];refine ⟨u,hu,u,r,s'.m,s'.nx,s'.sv,e',rfl,hq,re.env,re.below,re.mem,re.live,re.foe,⟨⟨λd hd=>?_,hxt.defers.2⟩,λb o hk=>re.xt.kept b o (.inl hk),re.xt.saved,re.xt.size⟩,GN⟩
  obtain ⟨D,g1,g2,g3,g4,g5⟩:=hxt.defers.1 d hd;obtain ⟨k1,k2,k3⟩:=re.xt.kept D (.deferred (some [])) (.inr ⟨d,hd,g1,rfl⟩);exact ⟨D,g1,k1,k2,k3,g5⟩
 cases x with
 |normal=>exact yY
 |ret=>exact yY
 |exit i=>exact (hx i rfl).elim
def cOf(h:D6)(avs:List AV):VP AV:=match h avs [] 0 [] with
 |some t=>t.bind λx=> .leaf (DF x.2.1 40 x.1)
 |none=> .fail
theorem T9{P:Program}{f:FuncId}{h:D6}(hs:GE P f h){avs:List AV}{sp t:VP AV}(ht:cOf h avs=t)(yY: ∀Q:AV->Prop,sp.sat Q->t.sat (λr=> ∃r',dZ r r'/\Q r')):UQ P f avs sp:=by
 intro Q hQ e w args hro hgl FP Z
 let T:Nat->Prop:=λb=>b<w.heap.size/\ ¬e.ro b
 let e0:UN:={ro:=e.ro,own:=λ_=>none,live:=λ_=>False,blk:=λ_=>0,val:=λ_=> .nilIface}
 have hr0:U5 e0 w avs args:=⟨Z.1,λi a v ha hv=>Rep.idf (e:=e) (e':=e0) (λ_ h=>h) (Z.2 i a v ha hv) (FP a (F4 ha))⟩
 have FL:=yY Q hQ;subst ht;unfold cOf at FL;split at FL
 ·rename_i t0 hh;refine (hs.2 avs [] 0 [] t0 hh _ (VP.sat_bind FL) (lW w T) w T e0 [] args w ⟨λb hb=>⟨rfl,hro b hb⟩,(λb k hk=>by cases hk),hgl⟩ (Below.refl _ _) (λp A=>by cases A) (λk hk=>False.elim hk) (λb h=>h) ⟨⟨(λd hd=>by cases hd),List.nodup_nil⟩,(λb o h=>h.elim),⟨rfl,(λi a v h=>by cases h)⟩,Ao _⟩ hr0).mono ?_
  rintro en w' ⟨v,r,m',nx',sv',e',rfl,⟨r',kR,hq⟩,g1,g2,g3,g4,g5,g6,g7⟩;refine ⟨v,r',rfl,hq,g2,?_⟩;refine iH kR (Rep.idf (e:=e'.view) ?_ (LD g1 g3 40 r v g7) (RN g3 40 r v g7));rintro b (hb|⟨k,hb⟩)
  ·rcases An b w.heap.size with h1|h1
   ·refine .inl ?_;rcases Classical.em (e.ro b) with h2|h2
    ·exact h2
    ·exact ((g5 b ⟨h1,h2⟩).2 hb).elim
   ·exact .inr ⟨h1,(g1.apart b hb).2⟩
  ·exact .inr ⟨(g1.owned b k hb).1,(g1.owned b k hb).2⟩
 ·exact FL.elim
end Go.Sx
namespace Go.Sx
open Go Go.RowKit
abbrev upE(l:List (Nat×AV))(m:H5)(E:St):St:={σ:=H4 l E.σ,m:=m,nx:=E.nx}
abbrev upM(l:List (Nat×AV))(E:St):St:={σ:=H4 l E.σ,m:=E.m,nx:=E.nx}
section
variable {P:Program}{f:FuncId}{fn:Func}
theorem UK(h:P.funcs[f]? =some fn)(h1:(fn.name== "runtime.NumGoroutine")=false:=by kernel_rfl)(h2:fn.body.isNone=false:=by kernel_rfl):Enters P f:=⟨fn,h,h1,h2⟩
abbrev UY:=Spec
theorem GZ{avs:List AV}{res:AV}{t:VP RV}(hf:P.funcs[f]? =some fn)(ht:sL P fn.results.toList (m6 P [] [] (U9 fn) 0 (HT fn avs))=t)(h:t.sat (λr=>G8 r res))(hb:fn.body=some (U9 fn):=by kernel_rfl)(GU:P.follows .mixedOrders=true:=by kernel_rfl):U0 P f avs res:=U4 (VN.nil _) GU hf hb U6 ht h
end
abbrev GY{α:Type}(n:Nat)(f g:Nat->α):Prop:= ∀i,i<n->f i=g i
abbrev GT{α:Type}(n:Nat)(f:Nat->α):Prop:= ∀i,i<n->f i=f i
def cA(n:Nat):List Int:=List.replicate n 0
abbrev RZ(n:Nat)(f:Nat->List AV):Prop:= ∀i,i<n-> ∀a,a∈f i->AV.one a=true
@[simp] abbrev UM (a b:Int):Prop:=0<=a/\a<b
theorem UW(f:Func)(h:f.body=some (U9 f):=by kernel_rfl):f.body=some (U9 f):=h
theorem DL{α:Type}{T t:VP α}{Q:α->Prop}(e:T=t)(h:t.sat Q):T.sat Q:=e▸h
section
variable {p:Prop}
theorem v6(h:p:=by
 with_reducible repeat' first|apply Al|intro _
 all_goals first|exact Ak|exact h0|exact VU|omega|exact hQ1 _ (by assumption) (Wr9 VM (by simp_all))|(rename_i k hk;rcases (show k=0\/k=1\/k=2 by omega) with rfl|rfl|rfl<;>rfl)|rfl|with_reducible rfl|exact hQ2 _ (by assumption) (PI VM)|(rename_i h;exact absurd h (Aq _))|exact hQ1 _ (by assumption)|(exfalso;omega)|exact hO (by simp_all) _ (by assumption)|exact qC (hO (by simp_all) _ (by assumption))|contradiction|assumption|exact hQ2 _ (by assumption)|(simp;done)|decide|exact qC (hO (decide_eq_true VM) _ (by assumption))):p:=h
theorem PQ(h:p:=by first|exact Ak|omega|with_reducible rfl|(rename_i E hE;cases hE;exact hQ)|rfl):p:=h
theorem V4(h:p:=by
 simp only [VP.sat,UD,G8,GO,UG,UJ,DP];all_goals exact v6):p:=h
theorem V6(h:p:=by
 rw [if_pos hc];obtain ⟨rfl,rfl⟩:=hc;by_cases h1:x=o
 ·subst h1;by_cases h2:y=x
  ·subst h2;refine ⟨VM,VM,λ_=>VM,λ_=>VM,λ_ _=>VM,λ_=>VM⟩
  ·refine ⟨VM,VM,λ_=>by have:=hoo.2.2.2.2.1 rfl rfl;omega,λh=>absurd h h2,λ_ h=>absurd h h2,λ_=>VM⟩
 ·by_cases h2:y=o
  ·subst h2;refine ⟨VM,VM,λh=>absurd h h1,λ_=>by have:=hoo.2.2.2.2.1 rfl rfl;omega,λh=>absurd h h1,λ_=>VM⟩
  ·have q1:=hfo.2.2.2.1 rfl;have q2:=hot.2.2.1 rfl;refine ⟨VM,VM,λh=>absurd h h1,λh=>absurd h h2,λh=>absurd h h1,λ_=>VM⟩):p:=h
theorem VA(h:p:=by exact v6):p:=h
theorem VE(h:p:=by
 exact .lst _ _ _ λj hj x hx=>by
  simp only [GQ,DQ,or_false] at hx;rcases hx with rfl|rfl<;>exact .x _):p:=h
theorem VF(h:p:=by
 simp only [VP.sat,UD,G8,UG,UJ,HB];simp+contextual):p:=h
theorem VG(h:p:=by
 simp only [VP.sat,UD,G8,GO,UG,VO,UJ];omega):p:=h
theorem VI(h:p:=by
 (with_reducible repeat' first|apply Al|intro _)
 all_goals first|exact PQ|(rename_i j hj;rcases (show j<k\/j=k by omega) with h3|h3;exact hx.2 j h3;subst h3;omega)):p:=h
theorem VK(h:p:=by
 (with_reducible repeat' first|apply Al|intro _)
 all_goals first|exact PQ|(rename_i hs;exact hs.elim (λh=>sn1 _ h) (λh=>h▸sn2))):p:=h
theorem VL(h:p:=by
 exact .lst _ _ _ λk _ x hx=>by
  simp only [GQ,DQ,or_false] at hx;rcases hx with rfl|rfl|rfl|rfl|rfl<;>exact .x _):p:=h
end
end Go.Sx
