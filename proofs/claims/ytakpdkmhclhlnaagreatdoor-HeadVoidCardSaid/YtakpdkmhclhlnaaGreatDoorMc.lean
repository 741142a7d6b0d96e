/- Contracts, put together. Conditions: those of each. -/
import Derived.Test.YtakpdkmhclhlnaaGreatDoorMb
set_option linter.unusedSimpArgs false
set_option linter.unusedVariables false
namespace Go.Sx
open Go Go.RowKit
def y8(i R:Nat):Nat->AV->AV
 | 0,a=>match a with
  | .lit b=> .lit b
  | .x v=> .x v
  | .ro l=> .ro l
  | .lst a b c=> .lst a b c
  | .roI a b c d=> .roI a b c d
  |_=> .top
 |d+1,a=>match a with
  | .row k=>match Nat.beq k i with
   |true=> .row R
   |false=>match Nat.beq k R with
    |true=> .top
    |false=> .row k
  | .ptr k o=>match Nat.beq k i with
   |true=> .ptr R o
   |false=>match Nat.beq k R with
    |true=> .top
    |false=> .ptr k o
  | .elt k x y z=>match Nat.beq k i||Nat.beq k R with
   |true=> .top
   |false=> .elt k x y z
  | .mp k=>match Nat.beq k i||Nat.beq k R with
   |true=> .top
   |false=> .mp k
  | .agg l=> .agg (l.map (y8 i R d))
  | .tup l=> .tup (l.map (y8 i R d))
  | .fn f l l'=> .fn f (l.map (y8 i R d)) (l'.map (y8 i R d))
  |a=>a
def UK.ren(e:UK)(i R:Nat):UK:=
 {ro:=e.ro,own:=λb=>match e.own b with|some k=>if k=i then some R else if k=R then none else some k|none=>none,
  live:=λk=>(k=R/\e.live i)\/(e.live k/\k≠i/\k≠R),blk:=λk=>if k=R then e.blk i else e.blk k,val:=λk=>if k=R then e.val i else e.val k}
theorem R0{k i:Nat}(h:Nat.beq k i=false):k≠i:=by
 rintro rfl;rw [Nat.beq_refl] at h;cases h
theorem CY{k i R:Nat}(h:(Nat.beq k i||Nat.beq k R)=false):k≠i/\k≠R:=by
 rw [Bool.or_eq_false_iff] at h;exact ⟨R0 h.1,R0 h.2⟩
theorem xV{e:UK}{w:World}{i R:Nat}: ∀(d:Nat) (a:AV) (v:Value),Rep e w a v->Rep (e.ren i R) w (y8 i R d a) v
 | 0,a,v,r=>by
  cases r with
  |lit b=>exact .lit b
  |x v=>exact .x v
  |roI pre n f off b o Z=>exact Rep.idf (e:=e) (e':=e.ren i R) (λ_ h=>h) (.roI pre n f off b o Z) (zD (Rep.roI pre n f off b o Z) rfl)
  |ro l vs b o h1 h2 h3 h4 h5 h6=>exact Rep.idf (e:=e) (e':=e.ren i R) (λ_ h=>h) (.ro l vs b o h1 h2 h3 h4 h5 h6) (.ro l h3)
  |lstNil sz f=>exact .lstNil sz f
  |lst sz n f b o cap g h1 h2 h3 h4 h5 h6 h7 h8 ad had=>exact Rep.idf (e:=e) (e':=e.ren i R) (λ_ h=>h) (.lst sz n f b o cap g h1 h2 h3 h4 h5 h6 h7 h8 ad had) (.lst sz n f h3)
  |_=>exact .top _
 |d+1,a,v,r=>by
  have ih:=xV (e:=e) (w:=w) (i:=i) (R:=R) d;cases r with
  |top v=>exact .top v
  |lit b=>exact .lit b
  |x v=>exact .x v
  |roI pre n f off b o Z=>exact Rep.idf (e:=e) (e':=e.ren i R) (λ_ h=>h) (.roI pre n f off b o Z) (zD (Rep.roI pre n f off b o Z) rfl)
  |ptr id off hl=>
   simp only [y8];split
   ·rename_i hb;have:=GX hb;subst this;have h:=Rep.ptr (e:=e.ren id R) (w:=w) R off (.inl ⟨rfl,hl⟩)
    rwa [show (e.ren id R).blk R=e.blk id by simp [UK.ren]] at h
   ·rename_i hb;split
    ·exact .top _
    ·rename_i hb2;have h:=Rep.ptr (e:=e.ren i R) (w:=w) id off (.inr ⟨hl,R0 hb,R0 hb2⟩)
     rwa [show (e.ren i R).blk id=e.blk id by simp [UK.ren,R0 hb2]] at h
  |row id a n c hl hv=>
   simp only [y8];split
   ·rename_i hb;have:=GX hb;subst this;exact .row R a n c (.inl ⟨rfl,hl⟩) (by simp [UK.ren,hv])
   ·rename_i hb;split
    ·exact .top _
    ·rename_i hb2;exact .row id a n c (.inr ⟨hl,R0 hb,R0 hb2⟩) (by simp [UK.ren,R0 hb2,hv])
  |elt id sz x y b n cap hl hv=>
   simp only [y8];split
   ·exact .top _
   ·rename_i hb;exact .elt (e:=e.ren i R) id sz x y b n cap (.inr ⟨hl,CY hb⟩) (by simp [UK.ren,(CY hb).2,hv])
  |mp id hl=>
   simp only [y8];split
   ·exact .top _
   ·rename_i hb;have h:=Rep.mp (e:=e.ren i R) (w:=w) id (.inr ⟨hl,CY hb⟩)
    rwa [show (e.ren i R).blk id=e.blk id by simp [UK.ren,(CY hb).2]] at h
  |agg l vs h1 h2=>exact Rep.aggL (U2.map _ ih ⟨h1,h2⟩)
  |tup l vs h1 h2=>exact Rep.tupL (U2.map _ ih ⟨h1,h2⟩)
  |fn f l l' vs vs' h1 h2 h3 h4=>
   have k1:U2 e w l vs:=⟨h1,h2⟩;have k2:U2 e w l' vs':=⟨h3,h4⟩;exact .fn f _ _ vs vs' (U2.map _ ih k1).1 (U2.map _ ih k1).2 (U2.map _ ih k2).1 (U2.map _ ih k2).2
  |ro l vs b o h1 h2 h3 h4 h5 h6=>exact Rep.idf (e:=e) (e':=e.ren i R) (λ_ h=>h) (.ro l vs b o h1 h2 h3 h4 h5 h6) (.ro l h3)
  |mpr g okf vals b es c h1 h2 h3 h4 h5 h6 h7 h8=>exact Rep.idf (e:=e) (e':=e.ren i R) (λ_ h=>h) (.mpr g okf vals b es c h1 h2 h3 h4 h5 h6 h7 h8) (.mpr g okf h3)
  |any1 v hv=>exact .any1 v hv
  |lstNil sz f=>exact .lstNil sz f
  |lst sz n f b o cap g h1 h2 h3 h4 h5 h6 h7 h8 ad had=>exact Rep.idf (e:=e) (e':=e.ren i R) (λ_ h=>h) (.lst sz n f b o cap g h1 h2 h3 h4 h5 h6 h7 h8 ad had) (.lst sz n f h3)
def wU(i R:Nat):GZ->GZ
 |[]=>[]
 |(k,.row T sz n f)::t=>match Nat.beq k i with
  |true=>(R,.row T sz n f)::wU i R t
  |false=>match Nat.beq k R with
   |true=>wU i R t
   |false=>(k,.row T sz n f)::wU i R t
 |(k,.cells T l)::t=>match Nat.beq k i with
  |true=>(R,.cells T (l.map (y8 i R 6)))::wU i R t
  |false=>match Nat.beq k R with
   |true=>wU i R t
   |false=>(k,.cells T (l.map (y8 i R 6)))::wU i R t
 |(k,.ints T pre n f)::t=>match Nat.beq k i||Nat.beq k R with
  |true=>wU i R t
  |false=>(k,.ints T (pre.map (y8 i R 6)) n f)::wU i R t
 |(k,.memo h f)::t=>match Nat.beq k i||Nat.beq k R with
  |true=>wU i R t
  |false=>(k,.memo h f)::wU i R t
 |(_,.aka _ _ _ _ _)::t=>wU i R t
 |(k,.keep T l)::t=>match Nat.beq k i||Nat.beq k R with
  |true=>wU i R t
  |false=>(k,.keep T (l.map (y8 i R 6)))::wU i R t
theorem z8{e:UK}{w:World}{i R:Nat}: ∀{m:GZ},UU e m w->UU (e.ren i R) (wU i R m) w
 |[],_=>λp A=>by cases A
 |(k,.row T sz n f)::t,h=>by
  have ih:=z8 (i:=i) (R:=R) (m:=t) (λp A=>h p (HO _ A))
  obtain ⟨h1,h2,hf,xs,h3,h4⟩:=h _ GG;have h4': ∀(i' j:Nat) (a:AV) (v:Value),i'<n->(f i')[j]? =some a->xs[i'*sz+j]? =some v->Rep (e.ren i R) w a v:=
   λi' j a v O ha hv=>Rep.idf (e:=e) (e':=e.ren i R) (λ_ h=>h) (h4 i' j a v O ha hv) ((hf i' O).2 a (F0 ha))
  unfold wU;split
  ·rename_i hb;have:=GX hb;subst this;intro p A;rcases GM.1 A with rfl|A
   ·refine ⟨.inl ⟨rfl,h1⟩,λb hb'=>?_,hf,xs,?_,h4'⟩
    ·simp only [UK.ren,if_true] at hb' ⊢;rw [h2 b hb'];simp
    ·simp only [UK.ren,if_true];exact h3
   ·exact ih p A
  ·rename_i hb;split
   ·exact ih
   ·rename_i hb2;intro p A;rcases GM.1 A with rfl|A
    ·refine ⟨.inr ⟨h1,R0 hb,R0 hb2⟩,λb hb'=>?_,hf,xs,?_,h4'⟩
     ·simp only [UK.ren,R0 hb2,if_false] at hb' ⊢;rw [h2 b hb'];simp [R0 hb,R0 hb2]
     ·simp only [UK.ren,R0 hb2,if_false];exact h3
    ·exact ih p A
 |(k,.cells T l)::t,h=>by
  have ih:=z8 (i:=i) (R:=R) (m:=t) (λp A=>h p (HO _ A))
  obtain ⟨h1,h2,vs,h3,h4⟩:=h _ GG;unfold wU;split
  ·rename_i hb;have:=GX hb;subst this;have eb:(e.ren k R).blk R=e.blk k:=by simp [UK.ren]
   intro p A;rcases GM.1 A with rfl|A
   ·refine ⟨.inl ⟨rfl,h1⟩,?_,vs,by rw [eb];exact h3,U2.map _ (xV 6) h4⟩
    rw [eb];simp only [UK.ren];rw [h2];simp
   ·exact ih p A
  ·rename_i hb;split
   ·exact ih
   ·rename_i hb2;have n1:=R0 hb;have n2:=R0 hb2;have eb:(e.ren i R).blk k=e.blk k:=by simp [UK.ren,n2]
    intro p A;rcases GM.1 A with rfl|A
    ·refine ⟨.inr ⟨h1,n1,n2⟩,?_,vs,by rw [eb];exact h3,U2.map _ (xV 6) h4⟩
     rw [eb];simp only [UK.ren];rw [h2];simp [n1,n2]
    ·exact ih p A
 |(k,.ints T pre n f)::t,h=>by
  have ih:=z8 (i:=i) (R:=R) (m:=t) (λp A=>h p (HO _ A))
  obtain ⟨h1,h2,vs,h3,h4⟩:=h _ GG;unfold wU;split
  ·exact ih
  ·rename_i hb;obtain ⟨n1,n2⟩:=CY hb;intro p A;rcases GM.1 A with rfl|A
   ·have eb:(e.ren i R).blk k=e.blk k:=by simp [UK.ren,n2]
    refine ⟨.inr ⟨h1,n1,n2⟩,?_,vs,by rw [eb];exact h3,?_⟩
    ·rw [eb];simp only [UK.ren];rw [h2];simp [n1,n2]
    ·have:=U2.map _ (xV (i:=i) (R:=R) 6) h4;rw [List.map_append] at this;have hL:(HL n f).map (y8 i R 6)=HL n f:=by
      unfold HL;rw [List.map_map];rfl
     rw [hL] at this;exact this
   ·exact ih p A
 |(k,.memo g f)::t,h=>by
  have ih:=z8 (i:=i) (R:=R) (m:=t) (λp A=>h p (HO _ A))
  obtain ⟨h1,h2,es,c,h3,h4⟩:=h _ GG;unfold wU;split
  ·exact ih
  ·rename_i hb;obtain ⟨n1,n2⟩:=CY hb;intro p A;rcases GM.1 A with rfl|A
   ·have eb:(e.ren i R).blk k=e.blk k:=by simp [UK.ren,n2]
    refine ⟨.inr ⟨h1,n1,n2⟩,?_,es,c,by rw [eb];exact h3,h4⟩
    rw [eb];simp only [UK.ren];rw [h2];simp [n1,n2]
   ·exact ih p A
 |(k,.keep T l)::t,h=>by
  have ih:=z8 (i:=i) (R:=R) (m:=t) (λp A=>h p (HO _ A))
  obtain ⟨h1,h2,h0,vs,h3,h4⟩:=h _ GG;unfold wU;split
  ·exact ih
  ·rename_i hb;obtain ⟨n1,n2⟩:=CY hb;intro p A;rcases GM.1 A with rfl|A
   ·have eb:(e.ren i R).blk k=e.blk k:=by simp [UK.ren,n2]
    exact ⟨.inr ⟨h1,n1,n2⟩,by rw [eb];exact h2,by rw [eb];exact h0,vs,by rw [eb];exact h3,U2.map _ (xV 6) h4⟩
   ·exact ih p A
 |(k,.aka _ _ _ _ _)::t,h=>z8 (i:=i) (R:=R) (m:=t) (λp A=>h p (HO _ A))
def Qj3(i R:Nat)(s:St):St:={s with σ:=s.σ.map (y8 i R 6),m:=wU i R s.m,nx:=match Nat.blt R s.nx with|true=>s.nx|false=>R+1,sv:=s.sv.map (·.map (y8 i R 6)) }
theorem AU{cx:Cx}{w0:World}{F:Nat->Prop}{e:UK}{i R:Nat}{s:St}{a:Act}{w:World}(r:F3 cx w0 F e s a w):F3 cx w0 F (e.ren i R) (Qj3 i R s) a w:=by
 refine ⟨⟨λb hb=>?_,λb k hk=>?_,r.env.glob⟩,r.below,z8 r.mem,λk hk=>?_,r.foe,⟨r.xt.defers,r.xt.kept,L6.map _ (xV 6) r.xt.saved,r.xt.size⟩,U2.map _ (xV 6) r.slots⟩
 ·obtain ⟨h1,h2⟩:=r.env.apart b hb;exact ⟨by simp [UK.ren,h1],h2⟩
 ·simp only [UK.ren] at hk;cases ho:e.own b with
  |none=>rw [ho] at hk;cases hk
  |some j=>exact r.env.owned b j ho
 ·have hk':k=R\/k<s.nx:=by
   rcases hk with ⟨rfl,_⟩|⟨h,_⟩
   ·exact .inl rfl
   ·exact .inr (r.live k h)
  simp only [Qj3];split
  ·rename_i hb;rw [Aw] at hb;omega
  ·rename_i hb;rw [←Bool.not_eq_true,Aw] at hb;omega
inductive Pl where
 |slot (k:Nat)
 |cell (id off:Nat)
def Qa9(s:St):Pl->AV
 | .slot k=>s.σ.getD k .top
 | .cell id off=>match DE s.m id with
  |some (.cells _ l)=>l.getD off .top
  |_=> .top
def bU(s:St)(p:Pl)(v:AV):St:=match p with
 | .slot k=>{s with σ:=s.σ.set k v}
 | .cell id off=>match DE s.m id with
  |some (.cells T l)=>{s with m:=qA s.m id (.cells T (l.set off v)) }
  |_=>s
theorem U2.swap{e:UK}{w:World}{l:List AV}{vs:List Value}{k:Nat}{b:AV}(h:U2 e w l vs)(hb: ∀v,Rep e w (l.getD k .top) v->vs[k]? =some v->Rep e w b v):U2 e w (l.set k b) vs:=by
 refine ⟨by simp [h.1],λi a v ha hv=>?_⟩
 rw [List.getElem?_set] at ha;by_cases hk:k=i
 ·subst hk;simp only [if_true] at ha;split at ha
  ·rename_i hlt;cases ha;exact hb v (by simpa [List.getD,HY hlt] using h.2 k _ v (HY hlt) hv) hv
  ·cases ha
 ·rw [if_neg hk] at ha;exact h.2 i a v ha hv
def UK.nil(e:UK)(R:Nat):UK:={e with live:=λk=>k=R\/e.live k,val:=λk=>if k=R then .slice none 0 0 else e.val k}
theorem Step.nil{e:UK}{w:World}{R:Nat}(h: ¬e.live R):Step e (e.nil R) w w:=by
 refine ⟨λ_ _ h=>⟨h,rfl⟩,λk hk=>⟨.inr hk,rfl,?_⟩,Am _⟩
 have:k≠R:=λh'=>h (h'▸hk)
 simp [UK.nil,this]
def Zh7(p:Pl)(R:Nat)(T:TypeId)(sz:Nat)(s:St):St:=match Qa9 s p with
 | .x (.slice none 0 0)=>{s with σ:=(bU s p (.row R)).σ,m:=(R,.row T sz 0 (λ_=>[]))::(bU s p (.row R)).m}
 |_=>s
theorem Wc9{cx:Cx}{w0:World}{F:Nat->Prop}{e:UK}{p:Pl}{R:Nat}{T:TypeId}{sz:Nat}{s:St}{a:Act}{w:World}(hΦ:cx.Φ s.gh F w0)(r:F3 cx w0 F e s a w)(hd: ¬e.live R)(hR:R<s.nx):Rel cx (Zh7 p R T sz s) a w:=by
 unfold Zh7;split
 ·rename_i A;have st:Step e (e.nil R) w w:=Step.nil hd;have uY:UU (e.nil R) s.m w:=λq hq=>(r.mem q hq).ext (Below.refl _ _) st (λ_ _ h=>h)
  have EN:GH (e.nil R) w R (.row T sz 0 (λ_=>[])):=by
   refine ⟨.inl rfl,λb hb=>?_,λi O=>VJ,[],?_,λi j a v O=>VJ⟩
   ·simp [UK.nil,Value.ownBlock] at hb
   ·simp only [UK.nil,if_true];exact World.ownsRow_nil w 0 T sz
  have GI: ∀v,Rep e w (.x (.slice none 0 0)) v->Rep (e.nil R) w (.row R) v:=by
   intro v hv;rw [hv.x_inv];exact .row R none 0 0 (.inl rfl) (by simp [UK.nil])
  refine ⟨w0,F,e.nil R,hΦ,⟨r.env.apart,r.env.owned,r.env.glob⟩,r.below,?_,λk hk=>?_,r.foe,r.xt.step st,?_⟩
  ·intro q hq;rcases GM.1 hq with rfl|hq
   ·exact EN
   ·cases p with
    |slot k=>exact uY q hq
    |cell id off=>
     simp only [bU] at hq;split at hq
     ·rename_i T' l hg;rcases FT hq with rfl|⟨hq,_⟩
      ·obtain ⟨h1,h2,vs,h3,h4⟩:=r.mem _ (UX hg);obtain ⟨l1,l2,l3⟩:=st.live id h1;refine ⟨l1,by rw [l2];exact h2,vs,by rw [l2];exact h3,?_⟩
       refine U2.swap (h4.step st) ?_;intro v hv hv';simp only [Qa9,hg] at A;have hlt:off<l.length:=by
        rcases An off l.length with h|h
        ·exact h
        ·rw [List.getD,Br h] at A;cases A
       have:=h4.2 off _ v (HY hlt) hv';rw [List.getD,HY hlt] at A;simp only [GT] at A;rw [A] at this;exact GI v this
      ·exact uY q hq
     ·exact uY q hq
  ·rcases hk with rfl|hk
   ·exact hR
   ·exact r.live k hk
  ·cases p with
   |slot k=>
    simp only [bU];refine U2.swap (r.slots.step st) ?_;intro v hv hv';simp only [Qa9] at A;have hlt:k<s.σ.length:=by
     rcases An k s.σ.length with h|h
     ·exact h
     ·rw [List.getD,Br h] at A;cases A
    have:=r.slots.2 k _ v (HY hlt) hv';rw [List.getD,HY hlt] at A;simp only [GT] at A;rw [A] at this;exact GI v this
   |cell id off=>
    simp only [bU];split
    ·exact r.slots.step st
    ·exact r.slots.step st
 ·exact ⟨w0,F,e,hΦ,r⟩
def fO(i:Nat):GZ->GZ
 |[]=>[]
 |(k,r)::t=>match Nat.beq k i with
  |true=>match r with
   | .cells T l=>(k,.keep T l)::fO i t
   | .keep T l=>(k,.keep T l)::fO i t
   |_=>fO i t
  |false=>match HT i r with
   |true=>fO i t
   |false=>(k,r)::fO i t
def tX(i:Nat)(s:St):St:={s with m:=fO i s.m}
theorem cW{e:UK}{B:Nat}{w:World}{i:Nat}(hE:UY e B w): ∀{m:GZ},UU e m w->UU (e.sol i) (fO i m) w
 |[],_=>λp A=>by cases A
 |(k,r)::t,h=>by
  have ih:=cW (i:=i) hE (m:=t) (λp A=>h p (HO _ A))
  have hk:=h _ GG;unfold fO;split
  ·rename_i hb;have:=GX hb;subst this;split
   ·rename_i T l;intro p A;rcases GM.1 A with rfl|A
    ·obtain ⟨h1,h2,vs,h3,h4⟩:=hk;exact ⟨h1,.inr h2,(hE.owned _ _ h2).2,vs,h3,h4.step (Step.sol e k w)⟩
    ·exact ih p A
   ·rename_i T l;intro p A;rcases GM.1 A with rfl|A
    ·exact LE (Step.sol e k w) hk
    ·exact ih p A
   ·exact ih
  ·rename_i hb;split
   ·exact ih
   ·rename_i hak;intro p A;rcases GM.1 A with rfl|A
    ·exact GH.sol ⟨R0 hb,hak⟩ hk
    ·exact ih p A
theorem NM{c:Cx}{w0:World}{F:Nat->Prop}{e:UK}{i:Nat}{s:St}{a:Act}{w:World}(r:F3 c w0 F e s a w):F3 c w0 F (e.sol i) (tX i s) a w:=by
 have st:=Step.sol e i w;refine ⟨r.env.sol i,r.below,cW r.env r.mem,r.live,λb hb=>⟨(r.foe b hb).1,λZ=>?_⟩,r.xt.step st,r.slots.step st⟩
 rcases Z with Z|Z
 ·exact (r.foe b hb).2 Z
 ·have:=(r.env.owned b i Z).1;have:=(r.foe b hb).1;omega
def UK.prom(e:UK)(i q:Nat):UK:={e with own:=λb=>match e.own b with|some k=>if k=q then some i else some k|none=>none}
def cJ(i q:Nat):GZ->GZ
 |[]=>[]
 |(k,r)::t=>match Nat.beq k q||(Nat.beq k i||(HT q r||HT i r)) with
  |true=>cJ i q t
  |false=>(k,r)::cJ i q t
def cI(i:Nat)(s:St):St:=match DE s.m i with
 |some (.aka q T sz n f)=>{s with m:=(i,.row T sz n f)::cJ i q s.m}
 |_=>s
theorem cV{e:UK}{w:World}{i q:Nat}: ∀{m:GZ},UU e m w->UU (e.prom i q) (cJ i q m) w
 |[],_=>λp A=>by cases A
 |(k,r)::t,h=>by
  have ih:=cV (i:=i) (q:=q) (m:=t) (λp A=>h p (HO _ A))
  have hk:=h _ GG;unfold cJ;split
  ·exact ih
  ·rename_i hb;simp only [Bool.or_eq_false_iff] at hb;obtain ⟨hb1,hb2,hb3,hb4⟩:=hb;have n1:=R0 hb1;have n2:=R0 hb2;have st:Step e (e.prom i q) w w:=⟨λ_ _ h=>⟨h,rfl⟩,λ_ h=>⟨h,rfl,rfl⟩,Am _⟩
   have ow: ∀b o,o≠q->e.own b=some o->(e.prom i q).own b=some o:=λb o ho hbo=>by simp [UK.prom,hbo,ho]
   intro p A;rcases GM.1 A with rfl|A
   ·cases r with
    |cells T l=>
     obtain ⟨h1,h2,vs,h3,h4⟩:=hk;exact ⟨h1,ow _ _ n1 h2,vs,h3,h4.step st⟩
    |ints T pre n f=>
     obtain ⟨h1,h2,vs,h3,h4⟩:=hk;exact ⟨h1,ow _ _ n1 h2,vs,h3,h4.step st⟩
    |memo g f=>
     obtain ⟨h1,h2,es,c,h3,h4⟩:=hk;exact ⟨h1,ow _ _ n1 h2,es,c,h3,h4⟩
    |row T sz n f=>
     obtain ⟨h1,h2,hf,xs,h3,h4⟩:=hk;exact ⟨h1,λb hb=>ow _ _ n1 (h2 b hb),hf,xs,h3,λi j a v O ha hv=>(h4 i j a v O ha hv).step st⟩
    |keep T l=>exact LE st hk
    |aka r T sz n f=>
     obtain ⟨h1,h0,o,hor,h2,hf,xs,h3,h4⟩:=hk;have ho:o≠q:=by
      rcases hor with rfl|rfl
      ·exact n1
      ·exact R0 hb3
     exact ⟨h1,h0,o,hor,λb hb=>ow _ _ ho (h2 b hb),hf,xs,h3,λi j a v O ha hv=>(h4 i j a v O ha hv).step st⟩
   ·exact ih p A
theorem C1{c:Cx}{i:Nat}{s:St}{a:Act}{w:World}(r:Rel c s a w):Rel c (cI i s) a w:=by
 unfold cI;split
 ·rename_i q T sz n f hg;obtain ⟨w0,F,e,hΦ,r⟩:=r;have st:Step e (e.prom i q) w w:=⟨λ_ _ h=>⟨h,rfl⟩,λ_ h=>⟨h,rfl,rfl⟩,Am _⟩
  refine ⟨w0,F,e.prom i q,hΦ,⟨⟨λb hb=>?_,λb k hk=>?_,r.env.glob.step st⟩,r.below,?_,r.live,r.foe,r.xt.step st,r.slots.step st⟩⟩
  ·obtain ⟨h1,h2⟩:=r.env.apart b hb;exact ⟨by simp [UK.prom,h1],h2⟩
  ·simp only [UK.prom] at hk;cases ho:e.own b with
   |none=>rw [ho] at hk;cases hk
   |some j=>exact r.env.owned b j ho
  ·intro p A;rcases GM.1 A with rfl|A
   ·obtain ⟨h1,h0,o,hor,h2,hf,xs,h3,h4⟩:=r.mem _ (UX hg);refine ⟨h1,λb hb=>?_,hf,xs,h3,λi' j a v O ha hv=>(h4 i' j a v O ha hv).step st⟩
    have:=h2 b hb;rcases hor with rfl|rfl
    ·simp [UK.prom,this]
    ·simp [UK.prom,this]
   ·exact cV r.mem p A
 ·exact r
def tY:List AV->St->St
 |[],s=>s
 | .ptr i _::l,s=>tY l (tX i s)
 |_::l,s=>tY l s
theorem dE{c:Cx}{a:Act}{w:World}: ∀{l:List AV} {s:St},Rel c s a w->Rel c (tY l s) a w
 |[],_,r=>r
 |b::l,s,r=>by
  cases b with
  |ptr i o=>
   obtain ⟨w0,F,e,hΦ,r⟩:=r;exact dE (l:=l) (s:=tX i s) ⟨w0,F,_,hΦ,NM r⟩
  |_=>exact dE (l:=l) (s:=s) r
def Qw2(s:St):St:=match s.sv with
 |[]=>{s with σ:=s.σ.map (D8 s.m 40),m:=[] }
 |_=>s
theorem Qw1{c:Cx}{s:St}{a:Act}{w:World}(r:Rel c s a w):Rel c (Qw2 s) a w:=by
 unfold Qw2;split
 ·rename_i hsv;obtain ⟨w0,T,e,hΦ,r⟩:=r
  let e2:UK:={ro:=e.view.ro,own:=λ_=>none,live:=λ_=>False,blk:=λ_=>0,val:=λ_=> .nilIface}
  have hlt: ∀b,e2.ro b->b<w.heap.size:=by
   rintro b (h|⟨id,h⟩)
   ·exact (r.env.apart b h).2
   ·exact (r.env.owned b id h).2
  have st2:Step e2 e2 w w:=⟨λb hb Z=>⟨Z,rfl⟩,λ_ h=>h.elim,Am _⟩
  have uT:U2 e2 w (s.σ.map (D8 s.m 40)) a.tmps.toList:=
   U2.map (D8 s.m 40) (λx v hx=>Rep.idf (e:=e.view) (e':=e2) (λ_ h=>h) (L7 r.env r.mem 40 x v hx) (RJ r.mem 40 x v hx)) r.slots
  refine ⟨w0,T,e2,hΦ,⟨⟨λb hb=>⟨rfl,hlt b hb⟩,(λb id h=>by cases h),DF.step (e:=e2) (w:=w) (λb p A=>⟨.inl (r.env.glob b p A).1,(r.env.glob b p A).2⟩) st2⟩,r.below,(λp A=>by cases A),(λk hk=>hk.elim),λb hb=>⟨(r.foe b hb).1,?_⟩,⟨⟨λd hd=>by obtain ⟨D,h1,h2,h3,h4,h5⟩:=r.xt.defers.1 d hd;exact ⟨D,h1,.inl h2,h3,h4,h5⟩,r.xt.defers.2⟩,λb o hb=>by obtain ⟨h1,h2,h3⟩:=r.xt.kept b o hb;exact ⟨.inl h1,h2,h3⟩,by
   have:=r.xt.saved.1;rw [hsv] at this;rw [hsv];exact ⟨this,λi a v h=>by simp at h⟩,r.xt.size⟩,uT⟩⟩
  rintro (h|⟨id,h⟩)
  ·exact (r.foe b hb).2 h
  ·have:=(r.env.owned b id h).1;have:=(r.foe b hb).1;omega
 ·exact r
def tN(p:Pl)(R:Nat)(T:TypeId)(sz:Nat)(s:St):St:=match Qa9 s p with
 | .row i=>match sz with
  | 0=>Qo8 i (cI i s)
  |_+1=>match T with
   | 0=>cI i s
   |_+1=>Qj3 i R (cI i s)
 | .ptr i _=>match sz with
  | 0=>tX i s
  | 1=>Qw2 s
  |_+2=>Qj3 i R s
 | .fn _ _ l=>tY l s
 | .x (.slice none 0 0)=>match T with
  | 0=>s
  |_+1=>Zh7 p R T sz (Qj3 s.nx R s)
 |_=>s
theorem Wc7{cx:Cx}{p:Pl}{R:Nat}{T:TypeId}{sz:Nat}{s:St}{a:Act}{w:World}(r:Rel cx s a w):Rel cx (tN p R T sz s) a w:=by
 unfold tN;split
 ·rename_i i _;split
  ·obtain ⟨w0,F,e,hΦ,r⟩:=C1 (i:=i) r;obtain ⟨e',r'⟩:=iJ (i:=i) r;exact ⟨w0,F,e',by rw [Qb0];exact hΦ,r'⟩
  ·split
   ·exact C1 (i:=i) r
   ·obtain ⟨w0,F,e,hΦ,r⟩:=C1 (i:=i) r;exact ⟨w0,F,_,hΦ,AU r⟩
 ·split
  ·obtain ⟨w0,F,e,hΦ,r⟩:=r;exact ⟨w0,F,_,hΦ,NM r⟩
  ·exact Qw1 r
  ·obtain ⟨w0,F,e,hΦ,r⟩:=r;exact ⟨w0,F,_,hΦ,AU r⟩
 ·exact dE r
 ·split
  ·exact r
  ·obtain ⟨w0,F,e,hΦ,r⟩:=r;refine Wc9 hΦ (AU r) ?_ ?_
   ·rintro (⟨_,h⟩|⟨_,_,h⟩)
    ·exact Bf _ (r.live _ h)
    ·exact h rfl
   ·simp only [Qj3];split
    ·rename_i hb;rw [Aw] at hb;exact hb
    ·exact Bk _
 ·exact r
def FV:List (Pl×Nat×TypeId×Nat)->St->St
 |[],s=>s
 |(p,R,T,sz)::t,s=>FV t (tN p R T sz s)
theorem DD{cx:Cx}{a:Act}{w:World}: ∀{l:List (Pl×Nat×TypeId×Nat)} {s:St},Rel cx s a w->Rel cx (FV l s) a w
 |[],_,r=>r
 |(p,R,T,sz)::t,s,r=>DD (l:=t) (s:=tN p R T sz s) (Wc7 r)
def GK(l:List (Pl×Nat×TypeId×Nat))(sp:UI):UI:=λs=>sp (FV l s)
theorem yK{P:Program}{ro:Option Nat}{cx:Cx}{c:Code}{l:List (Pl×Nat×TypeId×Nat)}{sp:UI}(h:HI P ro cx c sp):HI P ro cx c (GK l sp):=
 λn s t ht Q hQ a w r=>h n (FV l s) t ht Q hQ a w (DD r)
def pC(N:List (Pl×Nat×TypeId×Nat))(nxt:St)(out:G7->Option St)(p:G7×St):VM G7:=match p.1 with
 | .normal=> .needT (B9 (FV N p.2) nxt) (.leaf .normal)
 | .exit id=>match out (.exit id) with
  |some E=> .needT (B9 (FV N p.2) E) (.leaf (.exit id))
  |none=> .fail
 | .ret=>match out .ret with
  |some E=> .needT (B9 (FV N p.2) E) (.leaf .ret)
  |none=> .fail
theorem Wp2{N:List (Pl×Nat×TypeId×Nat)}{t:CT}{nxt:St}{out:G7->Option St}{R:G7->Prop}(h:(t.bind (pC N nxt out)).sat R):
  t.sat (λp=>match p.1 with
   | .normal=>R .normal/\UB (B9 (FV N p.2) nxt)
   |y=> ∃E,out y=some E/\R y/\UB (B9 (FV N p.2) E)):=by
 refine VM.sat_mono ?_ (VM.sat_bind h);rintro ⟨y,s'⟩ A;cases y with
 |normal=>exact ⟨(VM.sat_needT A).2,(VM.sat_needT A).1⟩
 |exit id=>
  dsimp only [pC] at A ⊢
  split at A
  ·rename_i E hE;exact ⟨E,hE,(VM.sat_needT A).2,(VM.sat_needT A).1⟩
  ·exact A.elim
 |ret=>
  dsimp only [pC] at A ⊢
  split at A
  ·rename_i E hE;exact ⟨E,hE,(VM.sat_needT A).2,(VM.sat_needT A).1⟩
  ·exact A.elim
section
variable (P:Program)(G:List (Nat×Spec))
def HV(X:Ext)(L:List UI)(N:List (Pl×Nat×TypeId×Nat))(body:Code)(s nxt:St)(out:G7->Option St):VM G7:=(D3 P G X L body 0 s).bind (pC N nxt out)
def Zc8(L:List UI)(N:List (Pl×Nat×TypeId×Nat))(body:Code)(s nxt:St)(out:G7->Option St):VM G7:=HV P G {} L N body s nxt out
end
section
variable {P:Program}{G:List (Nat×Spec)}
theorem FJ{X:Ext}{L:List UI}{ro:Option Nat}{cx:Cx}(N:List (Pl×Nat×TypeId×Nat))(hG:VK P G)(hX:VW P X cx)(GQ:P.follows .mixedOrders=true){body:Code}(hL: ∀j cj,VS body j=some cj-> ∀sp,L[j]? =some sp->HI P ro cx cj sp)
  {V:Type}(inv:V->St)(I:V->Prop)(μ:V->Nat)(out:V->G7->Option St){t:CT}{x0:V}(h0:I x0)
  (hok: ∀x,okB (inv x)=true)(qM: ∀x y E,out x y=some E->okB E=true)
  (round: ∀(Q:G7×St->Prop),t.sat Q-> ∀x,I x-> ∃x',(HV P G X L N body (inv x) (inv x') (out x)).sat (λy=>match y with
   | .normal=>I x'/\μ x'<μ x
   |y=> ∀E,out x y=some E->Q (y,E))):HI P ro cx (.loop body) (GK N (HG (inv x0) t)):=by
 refine yK (j7 (hok x0) ?_);intro n Q hQ a w r;refine TE μ (λx a w=>I x/\Rel cx (inv x) a w) ?_ ⟨h0,r⟩
 rintro x a w ⟨hx,Z⟩;obtain ⟨x',zF⟩:=round Q hQ x hx;refine wpIn_mono (D6 hG hX GQ body 0 (inv x) _ a w (λj cj hj sp hsp=>hL j cj hj sp (by simpa using hsp)) (Wp2 zF) Z) ?_
 rintro ex a₁ w₁ ⟨y,s',rfl,hq,hr'⟩;cases y with
 |normal=>
  obtain ⟨⟨h1,h2⟩,h3⟩:=hq;exact ⟨x',h2,h1,FS (GC h3) (hok x') (DD hr')⟩
 |exit id=>
  obtain ⟨E,hE,h1,h3⟩:=hq;exact ⟨.exit id,E,rfl,h1 E hE,FS (GC h3) (qM x _ E hE) (DD hr')⟩
 |ret=>
  obtain ⟨E,hE,h1,h3⟩:=hq;exact ⟨.ret,E,rfl,h1 E hE,FS (GC h3) (qM x _ E hE) (DD hr')⟩
theorem zA{L:List UI}(N:List (Pl×Nat×TypeId×Nat))(hG:VK P G)(GQ:P.follows .mixedOrders=true){body:Code}(hL: ∀j cj,VS body j=some cj-> ∀sp,L[j]? =some sp->G8 P cj sp)
  {X:Type}(inv:X->St)(I:X->Prop)(μ:X->Nat)(out:X->G7->Option St){t:CT}{x0:X}(h0:I x0)
  (hok: ∀x,okB (inv x)=true)(qM: ∀x y E,out x y=some E->okB E=true)
  (round: ∀(Q:G7×St->Prop),t.sat Q-> ∀x,I x-> ∃x',(Zc8 P G L N body (inv x) (inv x') (out x)).sat (λy=>match y with
   | .normal=>I x'/\μ x'<μ x
   |y=> ∀E,out x y=some E->Q (y,E))):G8 P (.loop body) (GK N (HG (inv x0) t)):=
 λro cx=>FJ N hG (VW.nil P cx) GQ (λj cj hj sp hsp=>hL j cj hj sp hsp ro cx) inv I μ out h0 hok qM round
end
def FO(ps:List Prop)(sp:UI):UI:=λs=>match sp s with
 |some t=>some (.need ps t)
 |none=>none
theorem wI{P:Program}{ro:Option Nat}{cx:Cx}{c:Code}{ps:List Prop}{sp:UI}(h:UB ps->HI P ro cx c sp):HI P ro cx c (FO ps sp):=by
 intro n s t ht Q hQ a w r;unfold FO at ht;split at ht
 ·rename_i t' ht';cases ht;exact h hQ.1 n s t' ht' Q hQ.2 a w r
 ·cases ht
theorem D2{P:Program}{c:Code}{ps:List Prop}{sp:UI}(h:UB ps->G8 P c sp):G8 P c (FO ps sp):=λro cx=>wI (λA=>h A ro cx)
section
variable {P:Program}
def Xh9(P:Program)(rs:List ResultVar)(t:CT):VM AV:=t.bind λp=>match p.1 with
 | .exit _=> .fail
 |_=>match BK P p.2 rs with
  |some r=> .leaf (D8 p.2.m 40 r)
  |none=> .fail
mutual
def FE:AV->AV->Prop
 | .x u,b=>match b with
  | .top=>True
  | .x v=>UD u v
  | .lst _ n _=>eF u/\n=0
  |b=>AV.x u=b
 | .lit c,b=>match b with
  | .top=>True
  | .x (.bool d)=>c=d
  |b=>AV.lit c=b
 | .lst sz n f,b=>match b with
  | .top=>True
  | .lst sz' n' f'=>sz=sz'/\n=n'/\ ∀i,i<n'->f i=f' i
  |b=>AV.lst sz n f=b
 | .agg l,b=>match b with
  | .top=>True
  | .agg l'=>qQ l l'
  |b=>AV.agg l=b
 | .tup l,b=>match b with
  | .top=>True
  | .tup l'=>qQ l l'
  |b=>AV.tup l=b
 | .roI pre n f off,b=>match b with
  | .top=>True
  | .roI pre' n' f' off'=>pre=pre'/\n=n'/\(∀k,k<n'->f k=f' k)/\off=off'
  |b=>AV.roI pre n f off=b
 |a,b=>match b with
  | .top=>True
  |b=>a=b
def qQ:List AV->List AV->Prop
 |[],l'=>match l' with
  |[]=>True
  |_::_=>False
 |r::l,l'=>match l' with
  |a::l'=>FE r a/\qQ l l'
  |[]=>False
end
mutual
theorem RY{e:UK}{w:World}: ∀{a b:AV} {v:Value},FE a b->Rep e w a v->Rep e w b v
 | .x u,b,v,h,r=>by
  unfold FE at h;split at h
  ·exact .top v
  ·rw [bE h] at r;exact r
  ·obtain ⟨h1,rfl⟩:=h;cases r.x_inv;rw [eE h1];exact .lstNil _ _
  ·rw [←h];exact r
 | .lit c,b,v,h,r=>by
  unfold FE at h;split at h
  ·exact .top v
  ·subst h;cases r.lit_inv;exact .x _
  ·rw [←h];exact r
 | .lst sz n f,b,v,h,r=>by
  unfold FE at h;split at h
  ·exact .top v
  ·obtain ⟨rfl,rfl,h3⟩:=h;exact vQ.rep (.lst _ _ _ _ h3) r
  ·rw [←h];exact r
 | .agg l,b,v,h,r=>by
  unfold FE at h;split at h
  ·exact .top v
  ·obtain ⟨vs,rfl,Z⟩:=r.agg_inv;exact Rep.aggL (kN h Z)
  ·rw [←h];exact r
 | .tup l,b,v,h,r=>by
  unfold FE at h;split at h
  ·exact .top v
  ·obtain ⟨vs,rfl,Z⟩:=r.tup_inv;exact Rep.tupL (kN h Z)
  ·rw [←h];exact r
 | .top,b,v,h,r=>by
  unfold FE at h;split at h
  ·exact .top v
  ·rw [←h];exact r
 | .fn _ _ _,b,v,h,r=>by
  unfold FE at h;split at h
  ·exact .top v
  ·rw [←h];exact r
 | .ptr _ _,b,v,h,r=>by
  unfold FE at h;split at h
  ·exact .top v
  ·rw [←h];exact r
 | .row _,b,v,h,r=>by
  unfold FE at h;split at h
  ·exact .top v
  ·rw [←h];exact r
 | .elt _ _ _ _,b,v,h,r=>by
  unfold FE at h;split at h
  ·exact .top v
  ·rw [←h];exact r
 | .ro _,b,v,h,r=>by
  unfold FE at h;split at h
  ·exact .top v
  ·rw [←h];exact r
 | .mp _,b,v,h,r=>by
  unfold FE at h;split at h
  ·exact .top v
  ·rw [←h];exact r
 | .any1,b,v,h,r=>by
  unfold FE at h;split at h
  ·exact .top v
  ·rw [←h];exact r
 | .mpr _ _,b,v,h,r=>by
  unfold FE at h;split at h
  ·exact .top v
  ·rw [←h];exact r
 | .roI pre n f off,b,v,h,r=>by
  unfold FE at h;split at h
  ·exact .top v
  ·obtain ⟨rfl,rfl,h3,rfl⟩:=h;cases r with
   |roI _ _ _ _ b o Z=>
    have hL:HL n f=HL n _:=List.map_congr_left (λk hk=>by rw [h3 k (List.mem_range.1 hk)])
    rw [hL] at Z;exact .roI _ _ _ _ b o Z
  ·rw [←h];exact r
theorem kN{e:UK}{w:World}: ∀{l l':List AV} {vs:List Value},qQ l l'->U2 e w l vs->U2 e w l' vs
 |[],[],_,_,r=>r
 |[],_::_,_,h,_=>by simp [qQ] at h
 |a::l,[],_,h,_=>by simp [qQ] at h
 |a::l,b::l',vs,h,r=>by
  unfold qQ at h;obtain ⟨v,vs',rfl,hv,hvs⟩:=r.cons_inv;exact U2.cons (RY h.1 hv) (kN h.2 hvs)
end
def EndR(P:Program)(fn:Func)(res:AV)(p:G7×St):Prop:=(match p.1 with| .exit _=>False|_=>True)/\ ∃r,BK P p.2 fn.results.toList=some r/\FE (D8 p.2.m 40 r) res
theorem Wp3{fn:Func}{res:AV}{t:CT}(h:(Xh9 P fn.results.toList t).sat (λr=>FE r res)):t.sat (EndR P fn res):=by
 refine VM.sat_mono ?_ (VM.sat_bind h);rintro ⟨x,s⟩ hs;cases x with
 |exit i=>exact hs.elim
 |normal=>
  simp only at hs;split at hs
  ·rename_i r Z;exact ⟨trivial,r,Z,hs⟩
  ·exact hs.elim
 |ret=>
  simp only at hs;split at hs
  ·rename_i r Z;exact ⟨trivial,r,Z,hs⟩
  ·exact hs.elim
def EndC(P:Program)(fn:Func)(Q:AV->Prop)(p:G7×St):Prop:=(match p.1 with| .exit _=>False|_=>True)/\ ∃r,BK P p.2 fn.results.toList=some r/\ ∃r',FE (D8 p.2.m 40 r) r'/\Q r'
theorem Wp7{fn:Func}{Q:AV->Prop}{t:CT}(h:(Xh9 P fn.results.toList t).sat (λr=> ∃r',FE r r'/\Q r')):t.sat (EndC P fn Q):=by
 refine VM.sat_mono ?_ (VM.sat_bind h);rintro ⟨x,s⟩ hs;cases x with
 |exit i=>exact hs.elim
 |normal=>
  simp only at hs;split at hs
  ·rename_i r Z;exact ⟨trivial,r,Z,hs⟩
  ·exact hs.elim
 |ret=>
  simp only at hs;split at hs
  ·rename_i r Z;exact ⟨trivial,r,Z,hs⟩
  ·exact hs.elim
section
variable {G:List (Nat×Spec)}{X:Ext}{L:List UI}{f:FuncId}{fn:Func}{c:Code}{avs:List AV}
theorem GS{sp t:VM AV}(hG:VK P G)(hX: ∀cx,VW P X cx)(GQ:P.follows .mixedOrders=true)(hf:P.funcs[f]? =some fn)(hb:fn.body=some c)
  (hL: ∀j cj,VS c j=some cj-> ∀sp,L[j]? =some sp->HP P cj sp)(ht:Xh9 P fn.results.toList (D3 P G X L c 0 (HM fn avs))=t)(h: ∀Q:AV->Prop,sp.sat Q->t.sat (λr=> ∃r',FE r r'/\Q r')):UN P f avs sp:=by
 subst ht;intro Q hQ e w args hro hgl FM Z;refine xJ hG GQ hf hb (cx:=iR w (λb=>b<w.heap.size/\ ¬e.ro b)) (gh:=none) (T:=λb=>b<w.heap.size/\ ¬e.ro b) (e:=e) (hX _) (λ_ _ h=>h) rfl rfl (by rintro g T w0 D ⟨rfl,_⟩ h;exact h) ⟨rfl,rfl⟩ (λb h=>h) hro hgl FM Z (λj cj hj sp hsp=>hL j cj hj sp hsp _ (xI _ _)) (Wp7 (h Q hQ)) ?_ ?_
 ·rintro x s w0 T' e' tmps w' ⟨hx,r,DY,r',jV,hQr⟩ ⟨rfl,rfl⟩ q1 q2 q3 q5 q4;obtain ⟨u,hu,GI⟩:=DJ (P:=P) q3 q4 DY;refine ⟨u,hu,u,r',rfl,hQr,q2,?_⟩;refine RY jV (Rep.idf (e:=e'.view) ?_ (L7 q1 q3 40 r u GI) (RJ q3 40 r u GI));rintro b (hb|⟨k,hb⟩)
  ·rcases An b w0.heap.size with h1|h1
   ·refine .inl ?_;rcases Classical.em (e.ro b) with h2|h2
    ·exact h2
    ·exact (q5 b ⟨h1,h2⟩ hb).elim
   ·exact .inr ⟨h1,(q1.apart b hb).2⟩
  ·exact .inr ⟨(q1.owned b k hb).1,(q1.owned b k hb).2⟩
 ·rintro x s ⟨hx,_⟩ i rfl;exact hx
theorem D1{res:AV}{t:VM AV}(hG:VK P G)(hX: ∀cx,VW P X cx)(GQ:P.follows .mixedOrders=true)(hf:P.funcs[f]? =some fn)(hb:fn.body=some c)
  (hL: ∀j cj,VS c j=some cj-> ∀sp,L[j]? =some sp->HP P cj sp)(ht:Xh9 P fn.results.toList (D3 P G X L c 0 (HM fn avs))=t)(h:t.sat (λr=>FE r res)):FN P f avs res:=by
 subst ht;intro e w args hro hgl FM Z;refine xJ hG GQ hf hb (cx:=iR w (λb=>b<w.heap.size/\ ¬e.ro b)) (gh:=none) (T:=λb=>b<w.heap.size/\ ¬e.ro b) (e:=e) (hX _) (λ_ _ h=>h) rfl rfl (by rintro g T w0 D ⟨rfl,_⟩ h;exact h) ⟨rfl,rfl⟩ (λb h=>h) hro hgl FM Z (λj cj hj sp hsp=>hL j cj hj sp hsp _ (xI _ _)) (Wp3 h) ?_ ?_
 ·rintro x s w0 T' e' tmps w' ⟨hx,r,DY,jV⟩ ⟨rfl,rfl⟩ q1 q2 q3 q5 q4;obtain ⟨u,hu,GI⟩:=DJ (P:=P) q3 q4 DY;refine ⟨u,hu,u,rfl,q2,?_⟩;refine RY jV (Rep.idf (e:=e'.view) ?_ (L7 q1 q3 40 r u GI) (RJ q3 40 r u GI));rintro b (hb|⟨k,hb⟩)
  ·rcases An b w0.heap.size with h1|h1
   ·refine .inl ?_;rcases Classical.em (e.ro b) with h2|h2
    ·exact h2
    ·exact (q5 b ⟨h1,h2⟩ hb).elim
   ·exact .inr ⟨h1,(q1.apart b hb).2⟩
  ·exact .inr ⟨(q1.owned b k hb).1,(q1.owned b k hb).2⟩
 ·rintro x s ⟨hx,_⟩ i rfl;exact hx
end
def Jg2(P:Program)(rs:List ResultVar)(t:CT):VM (Option (TypeId×Nat×Nat×(Nat->List AV))):=t.bind λp=>match p.1 with
 | .exit _=> .fail
 |_=>match BK P p.2 rs with
  |some (.row id)=>match DE p.2.m id with
   |some (.row T sz n f)=> .leaf (some (T,sz,n,f))
   |_=> .fail
  |some (.x (.slice none 0 0))=> .leaf none
  |_=> .fail
def Xh6(T:TypeId)(sz n:Nat)(g:Nat->List AV):Option (TypeId×Nat×Nat×(Nat->List AV))->Prop
 |none=>n=0
 |some (T',sz',n',f)=>T'=T/\sz'=sz/\n'=n/\ ∀i,i<n->f i=g i/\ ∀a∈g i,isX a
def EndF(P:Program)(fn:Func)(T:TypeId)(sz n:Nat)(g:Nat->List AV)(p:G7×St):Prop:=(match p.1 with| .exit _=>False|_=>True)/\
 ((∃id f,BK P p.2 fn.results.toList=some (.row id)/\DE p.2.m id=some (.row T sz n f)/\ ∀i,i<n->f i=g i/\ ∀a∈g i,isX a)\/(BK P p.2 fn.results.toList=some (.x (.slice none 0 0))/\n=0))
theorem Wp6{fn:Func}{T:TypeId}{sz n:Nat}{g:Nat->List AV}{t:CT}(h:(Jg2 P fn.results.toList t).sat (Xh6 T sz n g)):t.sat (EndF P fn T sz n g):=by
 refine VM.sat_mono ?_ (VM.sat_bind h);rintro ⟨x,s⟩ hs;have key:(match BK P s fn.results.toList with
  |some (.row id)=>match DE s.m id with
   |some (.row T sz n f)=>(.leaf (some (T,sz,n,f)):VM (Option (TypeId×Nat×Nat×(Nat->List AV))))
   |_=> .fail
  |some (.x (.slice none 0 0))=> .leaf none
  |_=> .fail).sat (Xh6 T sz n g)->(∃id f,BK P s fn.results.toList=some (.row id)/\DE s.m id=some (.row T sz n f)/\ ∀i,i<n->f i=g i/\ ∀a∈g i,isX a)\/(BK P s fn.results.toList=some (.x (.slice none 0 0))/\n=0):=by
  intro h;split at h
  ·rename_i id hid;split at h
   ·rename_i T' sz' n' f hm;obtain ⟨rfl,rfl,rfl,h⟩:=h;exact .inl ⟨id,f,hid,hm,h⟩
   ·exact h.elim
  ·rename_i hid;exact .inr ⟨hid,h⟩
  ·exact h.elim
 cases x with
 |exit i=>exact hs.elim
 |normal=>exact ⟨trivial,key hs⟩
 |ret=>exact ⟨trivial,key hs⟩
theorem BI{G:List (Nat×Spec)}{X:Ext}{L:List UI}{f:FuncId}{fn:Func}{c:Code}{avs:List AV}{T:TypeId}{sz n:Nat}{g:Nat->List AV}{t:VM (Option (TypeId×Nat×Nat×(Nat->List AV)))}(hG:VK P G)(hX: ∀cx,VW P X cx)(GQ:P.follows .mixedOrders=true)(hf:P.funcs[f]? =some fn)(hb:fn.body=some c)
  (hL: ∀j cj,VS c j=some cj-> ∀sp,L[j]? =some sp->HP P cj sp)(ht:Jg2 P fn.results.toList (D3 P G X L c 0 (HM fn avs))=t)(h:t.sat (Xh6 T sz n g))(HU: ∀i,i<n->(g i).length=sz):DL P f avs T sz n g:=by
 subst ht;intro e w args hro hgl FM Z;refine xJ hG GQ hf hb (cx:=iR w (λb=>b<w.heap.size/\ ¬e.ro b)) (gh:=none) (T:=λb=>b<w.heap.size/\ ¬e.ro b) (e:=e) (hX _) (λ_ _ h=>h) rfl rfl (by rintro g T w0 D ⟨rfl,_⟩ h;exact h) ⟨rfl,rfl⟩ (λb h=>h) hro hgl FM Z (λj cj hj sp hsp=>hL j cj hj sp hsp _ (xI _ _)) (Wp6 h) ?_ ?_
 ·rintro x s w0 T' e' tmps w' ⟨hx,PI⟩ ⟨rfl,rfl⟩ q1 q2 q3 q5 q4;rcases PI with ⟨id,ff,DY,hm,hfg⟩|⟨DY,rfl⟩
  ·obtain ⟨u,hu,GI⟩:=DJ (P:=P) q3 q4 DY;obtain ⟨h1,h2,h3,xs,h4,h5⟩:=q3 _ (UX hm);cases GI with
   |row _ a n' c' hl hv=>
    refine ⟨_,hu,_,xs,rfl,q2,?_,?_,λi O=>⟨HU i O,λa ha=>We8 ((hfg i O).2 a ha)⟩,λi j a u O ha hu=>?_⟩
    ·rw [←hv];exact h4
    ·intro b hbv;rw [←hv] at hbv;exact q1.owned b id (h2 b hbv)
    ·have hx':=We8 ((hfg i O).2 a (F0 ha));obtain ⟨z,rfl⟩:=hx';have:=h5 i j (.x z) u O (by rw [(hfg i O).1];exact ha) hu
     rw [this.x_inv]
  ·obtain ⟨u,hu,GI⟩:=DJ (P:=P) q3 q4 DY;obtain rfl:=GI.x_inv;exact ⟨_,hu,_,[],rfl,q2,World.ownsRow_nil _ _ _ _,(λb (hb:none=some b)=>by cases hb),λi O=>absurd O (Aq _),λi j a u O=>absurd O (Aq _)⟩
 ·rintro x s ⟨hx,_⟩ i rfl;exact hx
def B6(P:Program)(g:FuncId)(caps:List AV)(N:Nat)(vals:Nat->List Value):Prop:=
 Enters P g/\ ∀(e:UK) (lb:List Value) (w:World) (l:Nat) (Φ:Option Nat->(Nat->Prop)->World->Prop) (T:Nat->Prop),
  (∀b,e.ro b->b<w.heap.size/\ ¬T b)->DF e w->(∀b,T b->b<w.heap.size)->(∀a∈caps,Idf a)->U2 e w caps lb->
  (∀g T w w',Φ g T w->Below w.heap.size w w'->Φ g T w')->
  (∀k T w n,Φ (some k) T w->k<N->YieldAt (fr none) n P l (vals k).toArray w λen w'=>w.heap.size<=w'.heap.size/\(∀b,b<w.heap.size-> ¬T b->w'.heap[b]? =w.heap[b]?)/\
   ∃T',(∀b,T' b->b<w'.heap.size/\(T b\/w.heap.size<=b))/\((en= .returned (.bool true)/\Φ (some (k+1)) T' w')\/(en= .returned (.bool false)/\Φ none T' w')))->
  Φ (some 0) T w->
  Calls P g (.func (.yield l) #[] #[]::lb).toArray w λen w'=>(∃v,en= .returned v)/\((∃T',Φ (some N) T' w')\/(∃T',Φ none T' w'))
def Jg1(N:Nat)(t:CT):VM Unit:=t.bind λp=>match p.1 with
 | .exit _=> .fail
 |_=>match p.2.gh with
  |none=> .leaf ()
  |some k=> .need [k=N] (.leaf ())
theorem Wp0{N:Nat}{t:CT}(h:(Jg1 N t).sat (λ_=>True)):t.sat (λp=>(∀i,p.1≠ .exit i)/\(p.2.gh=none\/p.2.gh=some N)):=by
 refine VM.sat_mono ?_ (VM.sat_bind h);rintro ⟨x,s⟩ hs;have key:(match s.gh with|none=>(.leaf ():VM Unit)|some k=> .need [k=N] (.leaf ())).sat (λ_=>True)->s.gh=none\/s.gh=some N:=by
  cases hg:s.gh with
  |none=>exact λ_=> .inl rfl
  |some k=>
   intro h;have:k=N:=h.1;exact .inr (by rw [this])
 cases x with
 |exit i=>exact hs.elim
 |normal=>exact ⟨λi h=>(by cases h),key hs⟩
 |ret=>exact ⟨λi h=>(by cases h),key hs⟩
def cxY(w:World)(Φ:Option Nat->(Nat->Prop)->World->Prop):Cx:={M:=λ_=>False,Φ:=λg T w'=>w.heap.size<=w'.heap.size/\Φ g T w',K:=λ_ _=>False,saved:=[] }
theorem BH{G:List (Nat×Spec)}{L:Nat->List UI}{g:FuncId}{fn:Func}{c:Code}{caps:List AV}{N:Nat}{vals:Nat->List Value}{t:Nat->VM Unit}(hG:VK P G)(GQ:P.follows .mixedOrders=true)(PA:Enters P g)(hf:P.funcs[g]? =some fn)(hb:fn.body=some c)(hrs:fn.results=#[])
  (hL: ∀l cx,VW P {Y:=some (l,N,vals) } cx-> ∀j cj,VS c j=some cj-> ∀sp,(L l)[j]? =some sp->HI P none cx cj sp)
  (ht: ∀l,Jg1 N (D3 P G {Y:=some (l,N,vals) } (L l) c 0 {HM fn (.fn (.yield l) [] []::caps) with gh:=some 0})=t l)(h: ∀l,(t l).sat (λ_=>True)):B6 P g caps N vals:=by
 refine ⟨PA,?_⟩;intro e lb w l Φ T hro hgl hT FM Z hst hy h0;have hX:VW P {Y:=some (l,N,vals) } (cxY w Φ):=by
  refine ⟨?_,(λ_ h=>by cases h),(λ_ h=>by cases h),(λ_ h=>by cases h),(λ_ h=>by cases h),(λ_ h=>by cases h)⟩
  intro l' N' vals' hY;cases hY;refine ⟨λk T w1 w2 h hb=>⟨Ar h.1 hb.size,hst _ T w1 w2 h.2 hb⟩,λk T w1 n h hk=>?_⟩
  obtain ⟨fn,tmps,assign,body,h1,h2⟩:=hy k T w1 n h.2 hk;refine ⟨fn,tmps,assign,body,h1,h2.mono ?_⟩;rintro en w2 ⟨q1,q2,T',q3,q4⟩;refine ⟨q1,q2,T',q3,q4.imp (λq=>⟨q.1,?_,q.2⟩) (λq=>⟨q.1,?_,q.2⟩)⟩
  ·exact Ar h.1 q1
  ·exact Ar h.1 q1
 have hs:=h l;rw [←ht l] at hs;refine xJ hG GQ hf hb (cx:=cxY w Φ) (gh:=some 0) (T:=T) (e:=e) (avs:= .fn (.yield l) [] []::caps) hX (λ_ _ h=>h) rfl rfl (λ_ _ _ _ _ h=>h.elim) ⟨Am _,h0⟩ (λb hb=>⟨hT b hb,λZ=>(hro b Z).2 hb⟩) (λb hb=>(hro b hb).1) hgl ?_ (U2.cons (.fn (.yield l) [] [] [] [] rfl (λi a v h=>by simp at h) rfl (λi a v h=>by simp at h)) Z) (hL l _ hX) (Wp0 hs) ?_ ?_
 ·intro a ha;rcases GM.1 ha with rfl|ha
  ·exact .fn _ [] [] (λa h=>by cases h) (λa h=>by cases h)
  ·exact FM a ha
 ·rintro x s w0 T' e' tmps w' ⟨_,hgh⟩ ⟨_,hΦ⟩ _ q2 _ _ _;refine ⟨.tuple #[],?_,⟨_,rfl⟩,?_⟩
  ·simp [results,hrs]
  ·have hΦ':=hst _ T' w0 w' hΦ q2;rcases hgh with hgh|hgh
   ·rw [hgh] at hΦ';exact .inr ⟨T',hΦ'⟩
   ·rw [hgh] at hΦ';exact .inl ⟨T',hΦ'⟩
 ·exact λx s h=>h.1
end
section
variable {P:Program}{cx:Cx}{w0:World}{T:Nat->Prop}{e:UK}{s:St}{a:Act}{w:World}
theorem F3.grow(r:F3 cx w0 T e s a w){w':World}(hb:Below w.heap.size w w'):F3 cx w0 T e s a w':=by
 have st:Step e e w w':=⟨λb hlt Z=>⟨Z,hb.block b hlt⟩,λ_ h=>⟨h,rfl,rfl⟩,hb.size⟩
 refine ⟨⟨λb hb'=>⟨(r.env.apart b hb').1,?_⟩,λb k hk=>⟨(r.env.owned b k hk).1,?_⟩,r.env.glob.step st⟩,r.below.trans (hb.mono r.hB),r.mem.ext hb st (λ_ _ h=>h),r.live,r.foe,r.xt.step st,r.slots.step st⟩
 ·have:=(r.env.apart b hb').2;have:=hb.size;omega
 ·have:=(r.env.owned b k hk).2;have:=hb.size;omega
theorem F3.moreRo(r:F3 cx w0 T e s a w)(ro':Nat->Prop)(h1: ∀b,e.ro b->ro' b)(h2: ∀b,ro' b->e.own b=none/\b<w.heap.size)(h3: ∀b,ro' b-> ¬T b):F3 cx w0 T {e with ro:=ro'} s a w:=by
 have st:Step e {e with ro:=ro'} w w:=⟨λb _ Z=>⟨h1 b Z,rfl⟩,λ_ h=>⟨h,rfl,rfl⟩,Am _⟩
 exact ⟨⟨h2,r.env.owned,r.env.glob.step st⟩,r.below,r.mem.ext (Below.refl _ _) st (λ_ _ h=>h),r.live,λb hb=>⟨(r.foe b hb).1,λh=>h3 b h hb⟩,r.xt.step st,r.slots.step st⟩
theorem F3.turn(r:F3 cx w0 T e s a w){l:Nat}{o o':Obj}(hl:w.heap[l]? =some o)(ho:o.isCells=false)(ho':o'.isCells=false)(H5:e.own l=none)(hB:w0.heap.size<=l)(hdl: ∃q,o= .loop q){K':Nat->Obj->Prop}
  (hK': ∀b q,K' b q->(b≠l/\cx.K b q)\/(b=l/\q=o'/\e.ro l)):F3 {cx with K:=K'} w0 T e s a (w.putObj l o'):=by
 have hd: ∀x,o≠ .deferred x:=by rintro x rfl;obtain ⟨_,h⟩:=hdl;cases h
 have hom: ∀es c,o≠Obj.map es c:=by rintro es c rfl;obtain ⟨_,h⟩:=hdl;cases h
 have hmp:=qE (o':=o') hl hom;have hlt:=(P4.1 hl).1;have hsz:(w.putObj l o').heap.size=w.heap.size:=World.putObj_size;have hc:=B5 (o':=o') hl ho ho';refine ⟨⟨λb hb=>by rw [hsz];exact r.env.apart b hb,λb k hk=>by rw [hsz];exact r.env.owned b k hk,TO r.env.glob hl ho⟩,?_,λp A=>(r.mem p A).putObj hl hom ho ho' H5,r.live,r.foe,⟨⟨λd hd'=>?_,r.xt.defers.2⟩,λb q hq=>?_,⟨r.xt.saved.1,λi x v hx hv=>(r.xt.saved.2 i x v hx hv).sameCells hsz hc hmp⟩,by rw [hsz];exact r.xt.size⟩,r.slots.sameCells hsz hc hmp⟩
 ·exact r.below.trans ((Below.refl w0.heap.size w).grown (grownBy_putObj' w l _) (by have:=r.hB;omega) (λk he=>by cases he;exact hB))
 ·obtain ⟨D,k1,k2,k3,k4,k5⟩:=r.xt.defers.1 d hd';refine ⟨D,k1,k2,by rw [hsz];exact k3,?_,k5⟩
  rw [World.putObj_heap_other (λhe=>by subst he;rw [hl] at k4;exact hd _ (Bb k4))]
  exact k4
 ·rcases hK' b q hq with ⟨hne,hk⟩|⟨rfl,rfl,hro⟩
  ·obtain ⟨q1,q2,q3⟩:=r.xt.kept b q hk;exact ⟨q1,by rw [hsz];exact q2,(World.putObj_heap_other hne).trans q3⟩
  ·exact ⟨hro,by rw [hsz];exact hlt,World.putObj_heap_same hlt⟩
def Qy6:List Nat->List Value->List AV->List AV
 |p::ps,v::vs,σ=>Qy6 ps vs (σ.set p (.x v))
 |_,_,σ=>σ
theorem N2: ∀(ps:List Nat) (vs:List Value) (σ:List AV) (us:List Value),U2 e w σ us->U2 e w (Qy6 ps vs σ) ((ps.zip vs).foldl (λt (p:Nat×Value)=>t.set p.1 p.2) us)
 |[],_,_,_,h=>h
 |_::_,[],_,_,h=>h
 |p::ps,v::vs,_,_,h=>N2 ps vs _ _ (h.set (.x v) p)
theorem fV: ∀(l:List (Nat×Value)) (t:Array Value),(l.foldl (λt (p:Nat×Value)=>t.setIfInBounds p.1 p.2) t).toList=l.foldl (λt (p:Nat×Value)=>t.set p.1 p.2) t.toList
 |[],_=>rfl
 |p::l,t=>by simp only [List.foldl_cons];rw [fV l];simp
def mN(s:St)(ps:List Nat)(vs:List Value):St:={s with σ:=Qy6 ps vs s.σ,sv:=s.σ::s.sv}
def M7(s:St):St:=match s.sv with
 |σ::t=>{s with σ:=σ,sv:=t}
 |[]=>s
def AR(P:Program)(G:List (Nat×Spec))(X:Ext)(L:List UI)(N:List (Pl×Nat×TypeId×Nat))(ps:List Nat)(vs:List Value)(assign body:Code)(s nxt:St)(out:G7->Option St):VM G7:=
 (D3 P G X [] assign 0 (mN s ps vs)).bind λp=>match p.1 with
  | .normal=>(D3 P G X L body 0 p.2).bind λq=>pC N nxt out (q.1,M7 q.2)
  |_=> .fail
def G7.code:G7->Code
 | .normal=> .skip
 | .exit id=> .exit id
 | .ret=> .ret
end
section
variable {P:Program}{G:List (Nat×Spec)}{X:Ext}{L:List UI}
theorem mT{N:List (Pl×Nat×TypeId×Nat)}{ps:List Nat}{vs:List Value}{assign body:Code}{s nxt:St}{out:G7->Option St}{R:G7->Prop}(h:(AR P G X L N ps vs assign body s nxt out).sat R):
  (D3 P G X [] assign 0 (mN s ps vs)).sat (λp=>p.1= .normal/\(D3 P G X L body 0 p.2).sat (λq=>match q.1 with
   | .normal=>R .normal/\UB (B9 (FV N (M7 q.2)) nxt)
   |y=> ∃E,out y=some E/\R y/\UB (B9 (FV N (M7 q.2)) E))):=by
 refine VM.sat_mono ?_ (VM.sat_bind h);rintro ⟨y,s1⟩ h1;cases y with
 |normal=>
  refine ⟨rfl,VM.sat_mono ?_ (VM.sat_bind h1)⟩;rintro ⟨y,s'⟩ A;cases y with
  |normal=>exact ⟨(VM.sat_needT A).2,(VM.sat_needT A).1⟩
  |exit id=>
   dsimp only [pC] at A ⊢
   split at A
   ·rename_i E hE;exact ⟨E,hE,(VM.sat_needT A).2,(VM.sat_needT A).1⟩
   ·exact A.elim
  |ret=>
   dsimp only [pC] at A ⊢
   split at A
   ·rename_i E hE;exact ⟨E,hE,(VM.sat_needT A).2,(VM.sat_needT A).1⟩
   ·exact A.elim
 |exit id=>exact h1.elim
 |ret=>exact h1.elim
theorem yI(N:List (Pl×Nat×TypeId×Nat))(hG:VK P G)(hX: ∀cx,VW P X cx)(GQ:P.follows .mixedOrders=true){f:Operand}{ps:Array Nat}{assign body:Code}
  (hL: ∀j cj,VS body j=some cj-> ∀sp,L[j]? =some sp->G8 P cj sp)
  {V:Type}(inv:V->St)(I:V->Prop)(idx:V->Nat)(out:V->G7->Option St){t:CT}{x0:V}(h0:I x0)(hi0:idx x0=0)
  (hok: ∀x,okB (inv x)=true)(qM: ∀x y E,out x y=some E->okB E=true)(hgh: ∀x,(inv x).gh=none)(Qn4: ∀x y E,out x y=some E->E.gh=none)
  {g:FuncId}{caps:List AV}{caps0:List AV}(hfv:rho (inv x0).σ f= .fn (.func g) [] caps0)(yO: ∀e w lb,UU e (inv x0).m w->U2 e w caps0 lb->U2 e w caps lb/\ ∀x∈caps,Idf x){M:Nat}{vals:Nat->List Value}(Qm9:B6 P g caps M vals)(hps: ∀k,(vals k).length=ps.size)
  (round: ∀(Q:G7×St->Prop),t.sat Q-> ∀x,I x->(idx x<M-> ∃x',idx x'=idx x+1/\(AR P G X L N ps.toList (vals (idx x)) assign body (inv x) (inv x') (out x)).sat (λy=>match y with
   | .normal=>I x'
   |y=> ∀E,out x y=some E->Q (y,E)))/\(idx x=M->Q (.normal,inv x))):HP P (.rangeFunc f ps assign body) (GK N (HG (inv x0) t)):=by
 intro cx Zl1;refine yK (j7 (hok x0) ?_);intro n Q hQ a w r;obtain ⟨w0,T0,e,hΦ0,r⟩:=r;rw [hgh] at hΦ0;refine wpIn_rangeFunc ?_;intro fn hfn;obtain ⟨rec,yB⟩: ∃rec:LoopState->Option Code->Loop,rec=λst pe=>{state:=st,pending:=pe,fn,tmps:=a.tmps,params:=ps,assign,body,defers:=w.heap.size}:=⟨_,rfl⟩
 obtain ⟨W1,hW1⟩: ∃W1,(w.alloc (.deferred (some []))).alloc (.loop (rec .ready none))=W1:=⟨_,rfl⟩;have hfe:=FI r.slots f;rw [hfv] at hfe;obtain ⟨us,lb,hv,ru,rl⟩:=hfe.fn_inv;cases ru.nil_inv;have hL1:W1.heap[w.heap.size+1]? =some (.loop (rec .ready none)):=by
  rw [←hW1];have:=World.alloc_heap_new (w.alloc (.deferred (some []))) (.loop (rec .ready none));rwa [World.size_alloc] at this
 have hD1:W1.heap[w.heap.size]? =some (.deferred (some [])):=by
  rw [←hW1];exact (Below.heap_alloc _ _ _ VV).trans (World.alloc_heap_new w _)
 have hS1:W1.heap.size=w.heap.size+2:=by rw [←hW1];simp
 have hb1:Below w.heap.size w W1:=by
  rw [←hW1];exact ((Below.refl _ w).alloc (Am _) _).alloc VV _
 have hw0:=r.hB
 -- the frame that waits
 obtain ⟨a',ha'⟩: ∃a':Act,a'={tmps:=a.tmps,defers:={target:= .collected w.heap.size,args:=#[] }::a.defers}:=⟨_,rfl⟩
 -- what is so between two calls of yield
 let own':UK->Nat->Prop:=λe b=>(∃id,e.own b=some id)\/b=w.heap.size+1
 let Φi:Option Nat->(Nat->Prop)->World->Prop:=λk T W=>match k with
  |some k=> ∃x e,I x/\idx x=k/\T=own' e/\F3 cx w0 T0 e (inv x) a' W/\e.own (w.heap.size+1)=none/\W.heap[w.heap.size+1]? =some (.loop (rec .ready none))
  |none=> ∃y E e,y≠G7.normal/\Q (y,E)/\E.gh=none/\T=own' e/\F3 cx w0 T0 e E a' W/\e.own (w.heap.size+1)=none/\W.heap[w.heap.size+1]? =some (.loop (rec .done (some y.code)))
 have hst: ∀g T w w',Φi g T w->Below w.heap.size w w'->Φi g T w':=by
  intro k T w1 w2 h hb;cases k with
  |some k=>
   obtain ⟨x,e,h1,h2,h3,h4,h5,h6⟩:=h;exact ⟨x,e,h1,h2,h3,h4.grow hb,h5,(hb.block _ (P4.1 h6).1).trans h6⟩
  |none=>
   obtain ⟨y,E,e,h1,h2,h2',h3,h4,h5,h6⟩:=h;exact ⟨y,E,e,h1,h2,h2',h3,h4.grow hb,h5,(hb.block _ (P4.1 h6).1).trans h6⟩
 -- the start
 have r1:=r.grow hb1;have hns: ∀d∈a.defers,d≠{target:= .collected w.heap.size,args:=#[] }:=by
  intro d hd he;obtain ⟨D,k1,k2,k3,k4,k5⟩:=r.xt.defers.1 d hd;rw [k1] at he;simp only [Deferred.mk.injEq,Target.collected.injEq,and_true] at he;omega
 let e1:UK:={e with ro:=λb=>e.ro b\/b=w.heap.size}
 have r2:F3 cx w0 T0 e1 (inv x0) a W1:=by
  refine r1.moreRo _ (λb h=> .inl h) ?_ ?_
  ·rintro b (h|rfl)
   ·exact r1.env.apart b h
   ·refine ⟨?_,VJ⟩;cases ho:e.own w.heap.size with
    |none=>rfl
    |some k=>have:=(r.env.owned _ k ho).2;omega
  ·rintro b (h|rfl) hT
   ·exact (r.foe b hT).2 h
   ·have:=(r.foe _ hT).1;omega
 have r3:F3 cx w0 T0 e1 (inv x0) a' W1:=by
  rw [ha'];refine ⟨r2.env,r2.below,r2.mem,r2.live,r2.foe,⟨⟨λd hd=>?_,List.nodup_cons.2 ⟨λh=>hns _ h rfl,r2.xt.defers.2⟩⟩,r2.xt.kept,r2.xt.saved,r2.xt.size⟩,r2.slots⟩
  rcases GM.1 hd with rfl|hd
  ·exact ⟨w.heap.size,rfl,.inr rfl,VJ,hD1,Zl1 _ _ _ _ hΦ0 hw0 r.xt.size⟩
  ·exact r2.xt.defers.1 d hd
 have Je2:e.own (w.heap.size+1)=none:=by
  cases ho:e.own (w.heap.size+1) with
  |none=>rfl
  |some k=>have:=(r.env.owned _ k ho).2;omega
 refine ⟨w.heap.size+1,[{target:= .collected w.heap.size,args:=#[] }],W1,{target:= .fn (.func g) lb.toArray,args:=#[.func (.yield (w.heap.size+1)) #[] #[]] },W1,g,
  #[.func (.yield (w.heap.size+1)) #[] #[]]++lb.toArray,W1,?_,?_,(λ_ _=>trivial),?_,(λh=>by cases h),?_⟩
 ·rw [←hW1,yB];exact run_enterLoop_outer _ _ _ _ _
 ·simp only [resolve,hv];simp [go_sem]
 ·simp only [invoke];exact LA Qm9.1 _ W1
 have NX:#[.func (.yield (w.heap.size+1)) #[] #[]]++lb.toArray=(Value.func (.yield (w.heap.size+1)) #[] #[]::lb).toArray:=Array.ext' VV;rw [NX];obtain ⟨rl,Jf2⟩:=yO e w lb r.mem rl;have stw:Step e e1 w W1:=⟨λb hlt Z=>⟨.inl Z,hb1.block b hlt⟩,λ_ h=>⟨h,rfl,rfl⟩,hb1.size⟩
 have FF:=Qm9.2 e1 lb W1 (w.heap.size+1) Φi (own' e1) ?_ (r.env.glob.step stw) ?_ Jf2 (rl.step stw) hst ?_ ⟨x0,e1,h0,hi0,rfl,r3,Je2,hL1⟩
 ·refine ID (FF.mono ?_);have hw4: ∀{W:World} {s:St} {e:UK} {o:Loop} {o':Loop},F3 cx w0 T0 e s a' W->e.own (w.heap.size+1)=none->W.heap[w.heap.size+1]? =some (.loop o)->s.gh=none->Rel cx s a' (W.putObj (w.heap.size+1) (.loop o')):=by
   intro W s e o o' Z ho hl hg;have hne: ∀b q,cx.K b q->b≠w.heap.size+1:=by
    rintro b q hk rfl;have h1:=r.xt.kept _ q hk;omega
   have:=Z.turn (K':=cx.K) hl rfl (o':= .loop o') rfl ho VJ ⟨_,rfl⟩ (λb q hk=> .inl ⟨hne b q hk,hk⟩)
   exact ⟨w0,T0,e,by rw [hg];exact hΦ0,this⟩
  rintro en W ⟨⟨v,rfl⟩,h⟩;rcases h with ⟨T',x,e',q1,q2,q3,q4,q5,q6⟩|⟨T',y,E,e',q1,q2,q2',q3,q4,q5,q6⟩
  ·refine ⟨none,_,by have:=run_endLoop (P:=P) q6 (by rw [yB];simp);rw [yB] at this;exact this,?_⟩
   have:=hw4 (o':={rec .ready none with state:= .exhausted}) q4 q5 q6 (hgh x)
   rw [ha',yB] at this;exact ⟨.normal,inv x,rfl,(round Q hQ x q1).2 q2,this⟩
  ·have PI:(Instr.endLoop (w.heap.size+1)).run P W= .ok (some y.code) (W.putObj (w.heap.size+1) (.loop {rec .done (some y.code) with state:= .exhausted})):=by
    have:=run_endLoop (P:=P) q6 (by rw [yB];simp)
    rw [yB] at this ⊢;exact this
   refine ⟨some y.code,_,PI,?_⟩;have:=hw4 (o':={rec .done (some y.code) with state:= .exhausted}) q4 q5 q6 q2'
   rw [ha'] at this;cases y with
   |normal=>exact (q1 rfl).elim
   |exit id=>exact wpIn_exit ⟨.exit id,E,rfl,q2,this⟩
   |ret=>exact wpIn_ret ⟨.ret,E,rfl,q2,this⟩
 ·rintro b (h|rfl)
  ·refine ⟨by have:=(r.env.apart b h).2;omega,?_⟩
   rintro (⟨id,h2⟩|rfl)
   ·have h2':e.own b=some id:=h2;rw [(r.env.apart b h).1] at h2';cases h2'
   ·have:=(r.env.apart _ h).2;omega
  ·refine ⟨VJ,?_⟩;rintro (⟨id,h2⟩|h2)
   ·have:=(r.env.owned _ id h2).2;omega
   ·omega
 ·rintro b (⟨id,h⟩|rfl)
  ·have:=(r.env.owned b id h).2;omega
  ·omega
 ·-- a round
  rintro k T W m ⟨x,ek,hIx,rfl,rfl,rk,hkl,hkr⟩ hkM;obtain ⟨x',hx',zF⟩:=(round Q hQ x hIx).1 hkM;have hWl:=(P4.1 hkr).1;have hy:=run_yield (P:=P) (args:=(vals (idx x)).toArray) hkr (by rw [yB];simp [hps])
  rw [yB] at hy;refine ⟨fn,_,assign,body,hy,roundIn_of_wpIn hfn ?_⟩;clear hy
  -- the blocks that stay
  let nown:Nat->Prop:=λb=>w0.heap.size<=b/\b<W.heap.size/\ek.own b=none
  let K0:Nat->Obj->Prop:=λb o=>(cx.K b o\/(nown b/\W.heap[b]? =some o)\/(∃d∈a'.defers,d={target:= .collected b,args:=#[] }/\o= .deferred (some [])))/\b≠w.heap.size+1
  let cxk:(Nat->Obj->Prop)->Cx:=λK=>{M:=λ_=>False,Φ:=λg T w=>g=none/\w=w0/\T=T0,K:=K,saved:=a.tmps.toList::cx.saved,sz:=W.heap.size}
  let e2:UK:={ek with ro:=λb=>ek.ro b\/nown b}
  have rk2:F3 cx w0 T0 e2 (inv x) a' W:=by
   refine rk.moreRo _ (λb h=> .inl h) ?_ ?_
   ·rintro b (h|⟨h1,h2,h3⟩)
    ·exact rk.env.apart b h
    ·exact ⟨h3,h2⟩
   ·rintro b (h|⟨h1,h2,h3⟩) hT
    ·exact (rk.foe b hT).2 h
    ·have:=(rk.foe b hT).1;omega
  have hKok: ∀b o,K0 b o->e2.ro b/\b<W.heap.size/\W.heap[b]? =some o:=by
   rintro b o ⟨h|⟨h1,h2⟩|⟨d,hd,h1,rfl⟩,_⟩
   ·exact rk2.xt.kept b o h
   ·exact ⟨.inr h1,h1.2.1,h2⟩
   ·obtain ⟨D,k1,k2,k3,k4,k5⟩:=rk2.xt.defers.1 d hd;rw [h1] at k1;simp only [Deferred.mk.injEq,Target.collected.injEq,and_true] at k1;subst k1;exact ⟨k2,k3,k4⟩
  have hlro:e2.ro (w.heap.size+1):= .inr ⟨VJ,hWl,hkl⟩;have rs:Rel (cxk (λb o=>K0 b o\/(b=w.heap.size+1/\o= .loop (rec .ready none)))) (mN (inv x) ps.toList (vals (idx x))) {tmps:=(ps.zip (vals (idx x)).toArray).foldl (λt (p,v)=>t.setIfInBounds p v) a.tmps,defers:=[] } W:=by
   refine ⟨w0,T0,e2,⟨hgh x,rfl,rfl⟩,rk2.env,rk2.below,rk2.mem,rk2.live,rk2.foe,⟨⟨(λd hd=>by cases hd),List.nodup_nil⟩,?_,L6.cons (by rw [ha'] at rk2;exact rk2.slots) rk2.xt.saved,Am _⟩,?_⟩
   ·rintro b o (h|⟨rfl,rfl⟩)
    ·exact hKok b o h
    ·exact ⟨hlro,hWl,hkr⟩
   ·have h1:=N2 (e:=e2) (w:=W) ps.toList (vals (idx x)) (inv x).σ a.tmps.toList (by rw [ha'] at rk2;exact rk2.slots)
    have h2:((ps.zip (vals (idx x)).toArray).foldl (λt (p,v)=>t.setIfInBounds p v) a.tmps).toList=(ps.toList.zip (vals (idx x))).foldl (λt (p:Nat×Value)=>t.set p.1 p.2) a.tmps.toList:=by
     rw [←fV,←Array.foldl_toList];simp
    rw [h2];exact h1
  have FH:=mT zF;refine wpIn_mono (D6 hG (hX _) GQ (ro:=some (w.heap.size+1)) assign 0 _ _ _ W G5 FH rs) ?_;rintro ex a1 W1' ⟨y1,s1,rfl,⟨hy1,Jf3⟩,w0',T',ea,⟨hg1,rfl,rfl⟩,ra⟩;cases hy1;obtain ⟨hlr,hll,hlh⟩:=ra.xt.kept (w.heap.size+1) (.loop (rec .ready none)) (.inr ⟨rfl,rfl⟩);refine ⟨_,run_beginRound hlh (by rw [yB]),?_⟩
  have rb:=ra.turn (K':=λb o=>K0 b o\/(b=w.heap.size+1/\o= .loop {rec .ready none with state:= .busy})) hlh rfl (o':= .loop {rec .ready none with state:= .busy}) rfl (ra.env.apart _ hlr).1 VJ ⟨_,rfl⟩ (by
   rintro b q (h|⟨rfl,rfl⟩)
   ·exact .inl ⟨h.2,.inl h⟩
   ·exact .inr ⟨rfl,rfl,hlr⟩)
  refine wpIn_mono (D6 hG (hX _) GQ (ro:=some (w.heap.size+1)) (cx:=cxk (λb o=>K0 b o\/(b=w.heap.size+1/\o= .loop {rec .ready none with state:= .busy}))) body 0 s1 _ a1 _ (λj cj hj sp hsp=>hL j cj hj sp (by simpa using hsp) _ _) Jf3 ⟨w0',T',ea,⟨hg1,rfl,rfl⟩,rb⟩) ?_
  rintro ex a3 W3 ⟨y,s3,rfl,hq,w0'',T'',eb,⟨hg3,hw0e,hT0e⟩,rc⟩;subst hw0e hT0e;obtain ⟨Je9,hll3,Jf0⟩:=rc.xt.kept (w.heap.size+1) _ (.inr ⟨rfl,rfl⟩)
  -- back to the frame that waits
  have back: ∀(jump:Option Code) (E:St),UB (B9 (FV N (M7 s3)) E)->okB E=true->
    (Instr.endRound (w.heap.size+1) jump).run P W3= .ok (.bool jump.isNone) (W3.putObj (w.heap.size+1) (.loop (rec (if jump.isNone then .ready else .done) jump)))/\
    ∃ec,F3 cx w0'' T'' ec E a' (W3.putObj (w.heap.size+1) (.loop (rec (if jump.isNone then .ready else .done) jump)))/\ec.own (w.heap.size+1)=none/\
     (W3.putObj (w.heap.size+1) (.loop (rec (if jump.isNone then .ready else .done) jump))).heap[w.heap.size+1]? =some (.loop (rec (if jump.isNone then .ready else .done) jump))/\
     W.heap.size<=(W3.putObj (w.heap.size+1) (.loop (rec (if jump.isNone then .ready else .done) jump))).heap.size/\
     (∀b,b<W.heap.size-> ¬own' ek b->(W3.putObj (w.heap.size+1) (.loop (rec (if jump.isNone then .ready else .done) jump))).heap[b]? =W.heap[b]?)/\
     ∀b,own' ec b->b<(W3.putObj (w.heap.size+1) (.loop (rec (if jump.isNone then .ready else .done) jump))).heap.size/\(own' ek b\/W.heap.size<=b):=by
   intro jump E oO hokE;have DM:=run_endRound (P:=P) jump Jf0;refine ⟨by rw [yB] at DM ⊢;exact DM,?_⟩
   obtain ⟨W4,hW4⟩: ∃W4,W4=W3.putObj (w.heap.size+1) (.loop (rec (if jump.isNone then .ready else .done) jump)):=⟨_,rfl⟩
   rw [←hW4];have rd:=rc.turn (K':=K0) Jf0 rfl (o':= .loop (rec (if jump.isNone then .ready else .done) jump)) rfl (rc.env.apart _ Je9).1 VJ ⟨_,rfl⟩ (λb q h=> .inl ⟨h.2,.inl h⟩)
   rw [←hW4] at rd;have hl4:W4.heap[w.heap.size+1]? =some (.loop (rec (if jump.isNone then .ready else .done) jump)):=by rw [hW4];exact World.putObj_heap_same hll3
   have Jd5:W.heap.size<=W4.heap.size:=rd.xt.size
   -- the frame's own state, in a run that is pinned
   let cxp:Cx:={M:=λD=>cx.M D,Φ:=λg T w=>g=none/\w=w0''/\T=T'',K:=λb o=>K0 b o\/(b=w.heap.size+1/\o= .loop (rec (if jump.isNone then .ready else .done) jump)),saved:=cx.saved,sz:=cx.sz}
   have hpop:Rel cxp (M7 s3) a' W4:=by
    obtain ⟨σ0,l',hsv,hs1,hs2⟩:=rd.xt.saved.cons_inv;refine ⟨w0'',T'',eb,?_,rd.env,rd.below,?_,?_,rd.foe,⟨⟨λd hd=>?_,?_⟩,?_,?_,Ar rk.xt.size Jd5⟩,?_⟩
    ·exact ⟨by unfold M7;rw [hsv];exact hg3,rfl,rfl⟩
    ·unfold M7;rw [hsv];exact rd.mem
    ·unfold M7;rw [hsv];exact rd.live
    ·obtain ⟨D,k1,k2,k3,k4,k5⟩:=rk.xt.defers.1 d hd;have hDl:D≠w.heap.size+1:=by
      rintro rfl;rw [hkr] at k4;cases k4
     obtain ⟨q1,q2,q3⟩:=rd.xt.kept D (.deferred (some [])) ⟨.inr (.inr ⟨d,hd,k1,rfl⟩),hDl⟩;exact ⟨D,k1,q1,q2,q3,k5⟩
    ·exact rk.xt.defers.2
    ·rintro b o (h|⟨rfl,rfl⟩)
     ·exact rd.xt.kept b o h
     ·exact ⟨Je9,(P4.1 hl4).1,hl4⟩
    ·unfold M7;rw [hsv];exact hs2
    ·unfold M7;rw [hsv];rw [ha'];exact hs1
   obtain ⟨w0p,Tp,ec,⟨_,rfl,rfl⟩,re⟩:=FS (GC oO) hokE (DD (l:=N) hpop);have hlec:=re.xt.kept _ _ (Or.inr ⟨rfl,rfl⟩);refine ⟨ec,⟨re.env,re.below,re.mem,re.live,re.foe,⟨re.xt.defers,λb o h=>?_,re.xt.saved,re.xt.size⟩,re.slots⟩,(re.env.apart _ hlec.1).1,hl4,Jd5,?_,?_⟩
   ·refine re.xt.kept b o (.inl ⟨.inl h,?_⟩);rintro rfl;have h1:=r.xt.kept _ o h;omega
   ·intro b hb hno;rcases An b w0p.heap.size with h1|h1
    ·rw [re.below.block b h1,rk.below.block b h1]
    ·have hbn:ek.own b=none:=by
      cases ho:ek.own b with
      |none=>rfl
      |some id=>exact (hno (.inl ⟨id,ho⟩)).elim
     have hbl:b≠w.heap.size+1:=λh=>hno (.inr h)
     have hlt:b<W.heap.size:=hb;obtain ⟨_,_,q3⟩:=re.xt.kept b W.heap[b] (.inl ⟨.inr (.inl ⟨⟨h1,hlt,hbn⟩,by simp [hlt]⟩),hbl⟩)
     rw [q3];simp [hlt]
   ·rintro b (⟨id,h⟩|rfl)
    ·obtain ⟨q1,q2⟩:=re.env.owned b id h;refine ⟨q2,?_⟩;rcases An b W.heap.size with h1|h1
     ·refine .inl ?_;cases ho:ek.own b with
      |some id'=>exact .inl ⟨id',ho⟩
      |none=>
       rcases Classical.em (b=w.heap.size+1) with h2|h2
       ·exact .inr h2
       ·exfalso;obtain ⟨q3,_,_⟩:=re.xt.kept b W.heap[b] (.inl ⟨.inr (.inl ⟨⟨q1,h1,ho⟩,by simp [h1]⟩),h2⟩)
        rw [(re.env.apart b q3).1] at h;cases h
     ·exact .inr h1
    ·exact ⟨(P4.1 hl4).1,.inl (.inr rfl)⟩
  cases y with
  |normal=>
   obtain ⟨hI',oO⟩:=hq;obtain ⟨DM,ec,q1,q2,q3,q4,q5,q6⟩:=back none (inv x') oO (hok x');exact ⟨_,_,DM,q4,q5,own' ec,q6,.inl ⟨rfl,x',ec,hI',hx',rfl,q1,q2,q3⟩⟩
  |exit id=>
   obtain ⟨E,hE,hQE,oO⟩:=hq;obtain ⟨DM,ec,q1,q2,q3,q4,q5,q6⟩:=back (some (.exit id)) E oO (qM x _ E hE);exact ⟨_,_,DM,q4,q5,own' ec,q6,.inr ⟨rfl,.exit id,E,ec,(λh=>by cases h),hQE E hE,Qn4 x _ E hE,rfl,q1,q2,q3⟩⟩
  |ret=>
   obtain ⟨E,hE,hQE,oO⟩:=hq;obtain ⟨DM,ec,q1,q2,q3,q4,q5,q6⟩:=back (some .ret) E oO (qM x _ E hE);exact ⟨_,_,DM,q4,q5,own' ec,q6,.inr ⟨rfl,.ret,E,ec,(λh=>by cases h),hQE E hE,Qn4 x _ E hE,rfl,q1,q2,q3⟩⟩
theorem P7(N:List (Pl×Nat×TypeId×Nat))(hG:VK P G)(hX: ∀cx,VW P X cx)(GQ:P.follows .mixedOrders=true){f:Operand}{ps:Array Nat}{assign body:Code}
  (hL: ∀j cj,VS body j=some cj-> ∀sp,L[j]? =some sp->G8 P cj sp)
  {V:Type}(inv:V->St)(I:V->Prop)(idx:V->Nat)(out:V->G7->Option St){t:CT}{x0:V}(h0:I x0)(hi0:idx x0=0)
  (hok: ∀x,okB (inv x)=true)(qM: ∀x y E,out x y=some E->okB E=true)(hgh: ∀x,(inv x).gh=none)(Qn4: ∀x y E,out x y=some E->E.gh=none)
  {g:FuncId}{caps:List AV}(hfv:rho (inv x0).σ f= .fn (.func g) [] caps)(yO:caps.all (rN 6)=true){M:Nat}{vals:Nat->List Value}(Qm9:B6 P g caps M vals)(hps: ∀k,(vals k).length=ps.size)
  (round: ∀(Q:G7×St->Prop),t.sat Q-> ∀x,I x->(idx x<M-> ∃x',idx x'=idx x+1/\(AR P G X L N ps.toList (vals (idx x)) assign body (inv x) (inv x') (out x)).sat (λy=>match y with
   | .normal=>I x'
   |y=> ∀E,out x y=some E->Q (y,E)))/\(idx x=M->Q (.normal,inv x))):HP P (.rangeFunc f ps assign body) (GK N (HG (inv x0) t)):=by
 refine yI N hG hX GQ hL inv I idx out h0 hi0 hok qM hgh Qn4 (caps:=caps) hfv ?_ Qm9 hps round;intro e w lb _ rl;refine ⟨rl,λx hx=>?_⟩
 obtain ⟨i,O⟩:=wK.1 hx;obtain ⟨v,_,rv⟩:=rl.get O;exact jR 6 x v rv (PU.1 yO x hx)
def rL(m:GZ):Nat->AV->AV
 | 0,a=>match a with
  | .lit b=> .lit b
  | .x v=> .x v
  | .ro l=> .ro l
  | .lst a b c=> .lst a b c
  | .roI a b c d=> .roI a b c d
  |_=> .top
 |d+1,a=>match a with
  | .ptr id off=>match DE m id with
   |some (.keep _ l)=> .ro ((l.drop off).map (rL m d))
   |_=> .top
  | .agg l=> .agg (l.map (rL m d))
  | .tup l=> .tup (l.map (rL m d))
  | .fn f l l'=> .fn f (l.map (rL m d)) (l'.map (rL m d))
  | .row _=> .top
  | .elt _ _ _ _=> .top
  | .mp _=> .top
  |a=>a
theorem ED{e:UK}{w:World}{m:GZ}(hm:UU e m w): ∀(d:Nat) (a:AV) (v:Value),Rep e w a v->Idf (rL m d a)
 | 0,a,v,h=>by
  cases h with
  |lit b=>exact .lit b
  |x v=>exact .x v
  |ro l vs b o h1 h2 h3 h4 h5 h6=>exact .ro l h3
  |lstNil sz f=>exact .lst sz 0 f (λi O=>VJ)
  |lst sz n f b o cap g h1 h2 h3 h4 h5 h6 h7 h8 ad had=>exact .lst sz n f h3
  |roI pre n f off b o Z=>cases Z with|ro _ vs _ _ h1 h2 h3 h4 h5 h6=>exact .roI pre n f off (.ro _ h3)
  |_=>exact .top
 |d+1,a,v,h=>by
  have ih:=ED hm d;cases h with
  |top v=>exact .top
  |lit b=>exact .lit b
  |x v=>exact .x v
  |agg l vs h1 h2=>exact .agg _ (DR ih (⟨h1,h2⟩:U2 e w l vs))
  |tup l vs h1 h2=>exact .tup _ (DR ih (⟨h1,h2⟩:U2 e w l vs))
  |fn f l l' vs vs' h1 h2 h3 h4=>exact .fn f _ _ (DR ih (⟨h1,h2⟩:U2 e w l vs)) (DR ih (⟨h3,h4⟩:U2 e w l' vs'))
  |ptr id off hl=>
   simp only [rL];split
   ·rename_i T l hg;obtain ⟨_,_,_,vs,h3,h4⟩:=hm _ (UX hg);exact .ro _ (DR ih (h4.drop off))
   ·exact .top
  |row id a n c hl hv=>exact .top
  |elt id sz i j b n cap hl hv=>exact .top
  |mp id hl=>exact .top
  |mpr g okf vals b es c h1 h2 h3 h4 h5 h6 h7 h8=>exact .mpr g okf h3
  |any1 v hv=>exact .any1
  |roI pre n f off b o Z=>cases Z with|ro _ vs _ _ h1 h2 h3 h4 h5 h6=>exact .roI pre n f off (.ro _ h3)
  |ro l vs b o h1 h2 h3 h4 h5 h6=>exact .ro l h3
  |lstNil sz f=>exact .lst sz 0 f (λi O=>VJ)
  |lst sz n f b o cap g h1 h2 h3 h4 h5 h6 h7 h8 ad had=>exact .lst sz n f h3
theorem eC{e:UK}{w:World}{m:GZ}(hm:UU e m w): ∀(d:Nat) (a:AV) (v:Value),Rep e w a v->Rep e w (rL m d a) v
 | 0,a,v,h=>by
  cases a<;>first|exact h|exact .top v
 |d+1,a,v,h=>by
  have ih:=eC hm d;have ihf:=ED hm d;cases h with
  |agg l vs h1 h2=>exact Rep.aggL (U2.map _ ih ⟨h1,h2⟩)
  |tup l vs h1 h2=>exact Rep.tupL (U2.map _ ih ⟨h1,h2⟩)
  |fn f l l' vs vs' h1 h2 h3 h4=>
   have k1:U2 e w l vs:=⟨h1,h2⟩;have k2:U2 e w l' vs':=⟨h3,h4⟩;exact .fn f _ _ vs vs' (U2.map _ ih k1).1 (U2.map _ ih k1).2 (U2.map _ ih k2).1 (U2.map _ ih k2).2
  |ptr id off hl=>
   simp only [rL];split
   ·rename_i T l hg;obtain ⟨_,hro,hlt,vs,h3,h4⟩:=hm _ (UX hg);have k:=U2.map (rL m d) ih (h4.drop off);refine .ro _ (vs.drop off) (e.blk id) off hro hlt (DR ihf (h4.drop off)) k.1 ?_ k.2;intro j v hj;rw [List.getElem?_drop] at hj;simp [World.cell?,h3,hj]
   ·exact .top _
  |row id a n c hl hv=>exact .top _
  |elt id sz i j b n cap hl hv=>exact .top _
  |mp id hl=>exact .top _
  |mpr g okf vals b es c h1 h2 h3 h4 h5 h6 h7 h8=>exact .mpr g okf vals b es c h1 h2 h3 h4 h5 h6 h7 h8
  |any1 v hv=>exact .any1 v hv
  |top v=>exact .top v
  |lit b=>exact .lit b
  |x v=>exact .x v
  |roI pre n f off b o Z=>exact .roI pre n f off b o Z
  |ro l vs b o h1 h2 h3 h4 h5 h6=>exact .ro l vs b o h1 h2 h3 h4 h5 h6
  |lstNil sz f=>exact .lstNil sz f
  |lst sz n f b o cap g h1 h2 h3 h4 h5 h6 h7 h8 ad had=>exact .lst sz n f b o cap g h1 h2 h3 h4 h5 h6 h7 h8 ad had
theorem yH(N:List (Pl×Nat×TypeId×Nat))(hG:VK P G)(hX: ∀cx,VW P X cx)(GQ:P.follows .mixedOrders=true){f:Operand}{ps:Array Nat}{assign body:Code}
  (hL: ∀j cj,VS body j=some cj-> ∀sp,L[j]? =some sp->G8 P cj sp)
  {V:Type}(inv:V->St)(I:V->Prop)(idx:V->Nat)(out:V->G7->Option St){t:CT}{x0:V}(h0:I x0)(hi0:idx x0=0)
  (hok: ∀x,okB (inv x)=true)(qM: ∀x y E,out x y=some E->okB E=true)(hgh: ∀x,(inv x).gh=none)(Qn4: ∀x y E,out x y=some E->E.gh=none)
  {g:FuncId}{caps:List AV}{caps0:List AV}(hfv:rho (inv x0).σ f= .fn (.func g) [] caps0)(yO:caps0.map (rL (inv x0).m 6)=caps){M:Nat}{vals:Nat->List Value}(Qm9:B6 P g caps M vals)(hps: ∀k,(vals k).length=ps.size)
  (round: ∀(Q:G7×St->Prop),t.sat Q-> ∀x,I x->(idx x<M-> ∃x',idx x'=idx x+1/\(AR P G X L N ps.toList (vals (idx x)) assign body (inv x) (inv x') (out x)).sat (λy=>match y with
   | .normal=>I x'
   |y=> ∀E,out x y=some E->Q (y,E)))/\(idx x=M->Q (.normal,inv x))):HP P (.rangeFunc f ps assign body) (GK N (HG (inv x0) t)):=by
 subst yO;refine yI N hG hX GQ hL inv I idx out h0 hi0 hok qM hgh Qn4 (caps:=caps0.map (rL (inv x0).m 6)) hfv ?_ Qm9 hps round;intro e w lb hm rl;exact ⟨U2.map _ (eC hm 6) rl,DR (ED hm 6) rl⟩
end
def PF(P:Program)(f:FuncId)(s:Spec):Prop:=Enters P f/\ ∀avs ns res,s avs=some (ns,res)->(∀p∈ns,p)->FN P f avs res
def VQ(P:Program)(R:List (Nat×Spec)):Prop:= ∀p∈R,PF P p.1 p.2
def VN(P:Program)(H:List (Nat×HX)):Prop:= ∀p∈H,GB P p.1 p.2
theorem VQ.nil(P:Program):VQ P []:=λ_ h=>by cases h
theorem VQ.cons{P:Program}{f:Nat}{s:Spec}{R:List (Nat×Spec)}(h:PF P f s)(k:VQ P R):VQ P ((f,s)::R):=by
 intro p A;rcases GM.1 A with rfl|A
 ·exact h
 ·exact k p A
theorem VN.nil(P:Program):VN P []:=λ_ h=>by cases h
theorem VN.cons{P:Program}{f:Nat}{s:HX}{R:List (Nat×HX)}(h:GB P f s)(k:VN P R):VN P ((f,s)::R):=by
 intro p A;rcases GM.1 A with rfl|A
 ·exact h
 ·exact k p A
theorem VW.of{P:Program}{R:List (Nat×Spec)}{H:List (Nat×HX)}(hR:VQ P R)(hH:VN P H)(cx:Cx):VW P {R:=R,H:=H} cx:=⟨(λ_ _ _ h=>by cases h),hR,hH,(λ_ h=>by cases h),(λ_ h=>by cases h),(λ_ h=>by cases h)⟩
def UA(P:Program)(C:List (Nat×DA)):Prop:= ∀p∈C,Enters P p.1/\ ∀avs t,p.2 avs=some t->UN P p.1 avs t
theorem UA.nil(P:Program):UA P []:=λ_ h=>by cases h
theorem UA.cons{P:Program}{f:Nat}{s:DA}{C:List (Nat×DA)}(h:Enters P f/\ ∀avs t,s avs=some t->UN P f avs t)(k:UA P C):UA P ((f,s)::C):=by
 intro p A;rcases GM.1 A with rfl|A
 ·exact h
 ·exact k p A
theorem VW.ofC{P:Program}{R:List (Nat×Spec)}{H:List (Nat×HX)}{C:List (Nat×DA)}(hR:VQ P R)(hH:VN P H)(hC:UA P C)(cx:Cx):VW P {R:=R,H:=H,C:=C} cx:=⟨(λ_ _ _ h=>by cases h),hR,hH,hC,(λ_ h=>by cases h),(λ_ h=>by cases h)⟩
def RS(P:Program)(F:List (Nat×BF)):Prop:= ∀p∈F,Enters P p.1/\ ∀avs ns T sz n g,p.2 avs=some (ns,T,sz,n,g)->(∀q∈ns,q)->DL P p.1 avs T sz n g
theorem RS.nil(P:Program):RS P []:=λ_ h=>by cases h
theorem RS.cons{P:Program}{f:Nat}{s:BF}{F:List (Nat×BF)}(h:Enters P f/\ ∀avs ns T sz n g,s avs=some (ns,T,sz,n,g)->(∀q∈ns,q)->DL P f avs T sz n g)(k:RS P F):RS P ((f,s)::F):=by
 intro p A;rcases GM.1 A with rfl|A
 ·exact h
 ·exact k p A
def PW(P:Program)(D:List (Nat×DA)):Prop:= ∀p∈D,Enters P p.1/\ ∀avs t,p.2 avs=some t->PG P p.1 avs t
theorem PW.nil(P:Program):PW P []:=λ_ h=>by cases h
theorem PW.cons{P:Program}{f:Nat}{s:DA}{D:List (Nat×DA)}(h:Enters P f/\ ∀avs t,s avs=some t->PG P f avs t)(k:PW P D):PW P ((f,s)::D):=by
 intro p A;rcases GM.1 A with rfl|A
 ·exact h
 ·exact k p A
theorem VW.ofF{P:Program}{R:List (Nat×Spec)}{H:List (Nat×HX)}{C:List (Nat×DA)}{F:List (Nat×BF)}{D:List (Nat×DA)}(hR:VQ P R)(hH:VN P H)(hC:UA P C)(hF:RS P F)(hD:PW P D)(cx:Cx):VW P {R:=R,H:=H,C:=C,F:=F,D:=D} cx:=⟨(λ_ _ _ h=>by cases h),hR,hH,hC,hF,hD⟩
open Go Go.RowKit Go.ChangeShapes Go.WideShapes
inductive SK where
 |int (k:IntKind)
 |bool
 |str
def oC:SK->Value->Prop
 | .int k,v=> ∃n,v= .int k n/\(Lit.int k n).wf=true
 | .bool,v=> ∃b,v= .bool b
 | .str,v=> ∃s,v= .string s
def LK(ks:List SK)(vs:List Value):Prop:=ks.length=vs.length/\ ∀(j:Nat) (k:SK) (v:Value),ks[j]? =some k->vs[j]? =some v->oC k v
def I4(P:Program)(g:TypeId->Option (List SK)):List Field->Nat->Option (List SK)
 |[],_=>some []
 |f::fs,off=>match g f.type with
  |some ks=>match Nat.beq f.offset off&&Nat.beq ks.length (P.cellsOf f.type) with
   |true=>match I4 P g fs (off+ks.length) with
    |some r=>some (ks++r)
    |none=>none
   |false=>none
  |none=>none
def FX(P:Program):Nat->TypeId->Option (List SK)
 | 0,_=>none
 |d+1,t=>match P.underlying t with
  |some (.int k)=>some [.int k]
  |some .bool=>some [.bool]
  |some .string=>some [.str]
  |some (.struct fs)=>match I4 P (FX P d) fs.toList 0 with
   |some ks=>match Nat.beq ks.length (P.cellsOf t) with
    |true=>some ks
    |false=>none
   |none=>none
  |_=>none
inductive MK where
 |sc (k:SK)
 |sl (t e:TypeId) (ks:List SK)
def I3(P:Program)(g:TypeId->Option (List MK)):List Field->Nat->Option (List MK)
 |[],_=>some []
 |f::fs,off=>match g f.type with
  |some ks=>match Nat.beq f.offset off&&Nat.beq ks.length (P.cellsOf f.type) with
   |true=>match I3 P g fs (off+ks.length) with
    |some r=>some (ks++r)
    |none=>none
   |false=>none
  |none=>none
def jX(P:Program):Nat->TypeId->Option (List MK)
 | 0,_=>none
 |d+1,t=>match P.underlying t with
  |some (.int k)=>some [.sc (.int k)]
  |some .bool=>some [.sc .bool]
  |some .string=>some [.sc .str]
  |some (.slice e)=>match FX P 9 e with
   |some ks=>match Nat.beq ks.length (P.cellsOf e) with
    |true=>some [.sl t e ks]
    |false=>none
   |none=>none
  |some (.struct fs)=>match I3 P (jX P d) fs.toList 0 with
   |some ks=>match Nat.beq ks.length (P.cellsOf t) with
    |true=>some ks
    |false=>none
   |none=>none
  |_=>none
def gU:List TypeId->List MK->Bool
 |[],[]=>true
 |u::ts,.sl t _ _::ms=>Nat.beq u t&&gU ts ms
 |_::ts,.sc _::ms=>gU ts ms
 |_,_=>false
def Zw3(P:Program)(t:TypeId)(ms:List MK):Bool:=match P.cellTypes P.depth t with
 |some ts=>gU ts ms&&Nat.beq ms.length (P.cellsOf t)
 |none=>false
theorem AF: ∀{ts:List TypeId} {ms:List MK},gU ts ms=true->ts.length=ms.length
 |[],[],_=>rfl
 |[],_::_,h=>by simp [gU] at h
 |u::ts,[],h=>by simp [gU] at h
 |u::ts,.sl t _ _::ms,h=>by
  simp only [gU,H6] at h;rw [Bj,Bj,AF h.2]
 |u::ts,.sc _::ms,h=>by
  simp only [gU] at h;rw [Bj,Bj,AF h]
theorem AG: ∀{ts:List TypeId} {ms:List MK} {j:Nat} {t e:TypeId} {ks:List SK},gU ts ms=true->ms[j]? =some (.sl t e ks)->ts[j]? =some t
 |[],[],j,t,e,ks,_,hj=>by simp at hj
 |[],_::_,_,_,_,_,h,_=>by simp [gU] at h
 |u::ts,[],_,_,_,_,h,_=>by simp [gU] at h
 |u::ts,.sl t' _ _::ms,j,t,e,ks,h,hj=>by
  simp only [gU,H6] at h;cases j with
  |zero=>
   simp at hj;obtain ⟨rfl,_,_⟩:=hj;have:=GX h.1;simp [this]
  |succ j=>simpa using AG h.2 (by simpa using hj)
 |u::ts,.sc _::ms,j,t,e,ks,h,hj=>by
  simp only [gU] at h;cases j with
  |zero=>simp at hj
  |succ j=>simpa using AG h (by simpa using hj)
def MS(r:MK->Value->Prop)(ks:List MK)(vs:List Value):Prop:=ks.length=vs.length/\ ∀(j:Nat) (k:MK) (v:Value),ks[j]? =some k->vs[j]? =some v->r k v
theorem MS.append{r:MK->Value->Prop}{ks ks':List MK}{vs vs':List Value}(h:MS r ks vs)(h':MS r ks' vs'):MS r (ks++ks') (vs++vs'):=by
 refine ⟨by simp [h.1,h'.1],λj k v hk hv=>?_⟩
 rw [List.getElem?_append] at hk hv;rw [←h.1] at hv;split at hk
 ·rename_i O;rw [if_pos O] at hv;exact h.2 _ _ _ hk hv
 ·rename_i O;rw [if_neg O] at hv;exact h'.2 _ _ _ hk hv
theorem MS.one{r:MK->Value->Prop}{k:MK}{v:Value}(h:r k v):MS r [k] [v]:=by
 refine ⟨rfl,λj k' v' hk hv=>?_⟩
 cases j with
 |zero=>simp at hk hv;subst hk;subst hv;exact h
 |succ j=>simp at hk
section
variable {H:Type}{enc:TypeId×Value->H}{P:Program}{w:World}{base:Nat}{spare:Nat->Bool}{qN:Bool}
theorem LK.append{ks ks':List SK}{vs vs':List Value}(h:LK ks vs)(h':LK ks' vs'):LK (ks++ks') (vs++vs'):=by
 refine ⟨by simp [h.1,h'.1],λj k v hk hv=>?_⟩
 rw [List.getElem?_append] at hk hv;rw [←h.1] at hv;split at hk
 ·rename_i O;rw [if_pos O] at hv;exact h.2 _ _ _ hk hv
 ·rename_i O;rw [if_neg O] at hv;exact h'.2 _ _ _ hk hv
theorem O9{g:TypeId->Option (List SK)}{cs:List Value}(hg: ∀t ks (off:Nat),g t=some ks->(∃n x,DataW.trod enc P w base spare qN n t ((cs.drop off).take (P.cellsOf t))=some x)->LK ks ((cs.drop off).take (P.cellsOf t))):
  ∀(fs:List Field) (off:Nat) (ks:List SK),I4 P g fs off=some ks->off<=cs.length->(∀f∈fs,∃n x,DataW.trod enc P w base spare qN n f.type ((cs.drop f.offset).take (P.cellsOf f.type))=some x)->LK ks ((cs.drop off).take ks.length)
 |[],_,ks,h,_,_=>by
  simp only [I4,HD] at h;subst h;exact ⟨VV,λj k v h=>by simp at h⟩
 |f::fs,off,ks,h,ho,hf=>by
  unfold I4 at h;split at h
  ·rename_i ks1 h1;split at h
   ·rename_i hb;simp only [H6] at hb;have e1:f.offset=off:=GX hb.1;have e2:ks1.length=P.cellsOf f.type:=GX hb.2;split at h
    ·rename_i r Z;cases h;have h2:=hf f GG;rw [e1] at h2;have a1:=hg f.type ks1 off h1 h2;have hl:off+ks1.length<=cs.length:=by
      have:=a1.1;rw [List.length_take,List.length_drop,←e2] at this;omega
     have a2:=O9 hg fs (off+ks1.length) r Z hl (λf' hf'=>hf f' (HO _ hf'))
     have:=a1.append a2;rw [←e2] at this;rw [Be,List.take_add,List.drop_drop];exact this
    ·cases h
   ·cases h
  ·cases h
theorem nR{k:SK}{v:Value}(h:oC k v):LK [k] [v]:=by
 refine ⟨rfl,λj k' v' hk hv=>?_⟩
 cases j with
 |zero=>simp at hk hv;subst hk;subst hv;exact h
 |succ j=>simp at hk
theorem wO: ∀(d:Nat) (t:TypeId) (ks:List SK) (fuel:Nat) (cs:List Value) (x:DataW H×List MemPlace),FX P d t=some ks->DataW.trod enc P w base spare qN fuel t cs=some x->LK ks cs
 | 0,_,_,_,_,_,h,_=>by simp [FX] at h
 |d+1,t,ks,fuel,cs,x,h,hx=>by
  unfold FX at h;split at h
  ·rename_i k hu;cases h;obtain ⟨n,rfl,_,hw⟩:=DataW.trod_int hu hx;exact nR ⟨n,rfl,hw⟩
  ·rename_i hu;cases h;obtain ⟨b,rfl,_⟩:=DataW.trod_bool hu hx;exact nR ⟨b,rfl⟩
  ·rename_i hu;cases h;obtain ⟨s,rfl,_⟩:=DataW.trod_string hu hx;exact nR ⟨s,rfl⟩
  ·rename_i fs hu;split at h
   ·rename_i ks' hks;split at h
    ·rename_i hb;cases h;have hl:ks.length=P.cellsOf t:=GX hb;obtain ⟨xs,n,_,_,HU,hxl,hf⟩:=DataW.trod_struct hu hx;have:=O9 (enc:=enc) (w:=w) (base:=base) (spare:=spare) (qN:=qN) (cs:=cs) (g:=FX P d) (λt' ks' off hk ⟨n',x',hx'⟩=>wO d t' ks' n' _ x' hk hx') fs.toList 0 ks hks (Ao _) (λf hf'=>by
      obtain ⟨i,O⟩:=wK.1 hf';have hi':fs[i]? =some f:=by simpa using O
      have hlt:i<xs.length:=by rw [hxl];exact (P4.1 hi').1
      exact ⟨n,xs[i],(hf i f hi').trans (HY hlt)⟩)
     rw [hl,←HU] at this;simpa using this
    ·cases h
   ·cases h
  ·cases h
def MOk(enc:TypeId×Value->H)(P:Program)(w:World)(base:Nat)(spare:Nat->Bool)(qN:Bool):MK->Value->Prop
 | .sc k,v=>oC k v
 | .sl t e ks,v=>P.underlying t=some (.slice e)/\FX P 9 e=some ks/\ks.length=P.cellsOf e/\ ∃n x,DataW.trod enc P w base spare qN n t [v]=some x/\ ∀q∈x.1.weights P t,q<=reachBytes
theorem vY: ∀{ts:List TypeId} {ds:List (DataW H)} {i:Nat} {t:TypeId} {d:DataW H} {q:Nat},ts[i]? =some t->ds[i]? =some d->q∈d.weights P t->q∈DataW.weightsEach P ts ds
 |[],_,i,_,_,_,h,_,_=>by simp at h
 |_::_,[],i,_,_,_,_,h,_=>by simp at h
 |t::ts,d::ds,i,t',d',q,h,h',hq=>by
  simp only [DataW.weightsEach,Bc];cases i with
  |zero=>simp at h h';subst h;subst h';exact .inl hq
  |succ i=>exact .inr (vY (by simpa using h) (by simpa using h') hq)
theorem O8{g:TypeId->Option (List MK)}{r:MK->Value->Prop}{cs:List Value}(hg: ∀t ks (off:Nat),g t=some ks->(∃n x,DataW.trod enc P w base spare qN n t ((cs.drop off).take (P.cellsOf t))=some x/\ ∀q∈x.1.weights P t,q<=reachBytes)->MS r ks ((cs.drop off).take (P.cellsOf t))):
  ∀(fs:List Field) (off:Nat) (ks:List MK),I3 P g fs off=some ks->off<=cs.length->(∀f∈fs,∃n x,DataW.trod enc P w base spare qN n f.type ((cs.drop f.offset).take (P.cellsOf f.type))=some x/\ ∀q∈x.1.weights P f.type,q<=reachBytes)->MS r ks ((cs.drop off).take ks.length)
 |[],_,ks,h,_,_=>by
  simp only [I3,HD] at h;subst h;exact ⟨VV,λj k v h=>by simp at h⟩
 |f::fs,off,ks,h,ho,hf=>by
  unfold I3 at h;split at h
  ·rename_i ks1 h1;split at h
   ·rename_i hb;simp only [H6] at hb;have e1:f.offset=off:=GX hb.1;have e2:ks1.length=P.cellsOf f.type:=GX hb.2;split at h
    ·rename_i r' Z;cases h;have h2:=hf f GG;rw [e1] at h2;have a1:=hg f.type ks1 off h1 h2;have hl:off+ks1.length<=cs.length:=by
      have:=a1.1;rw [List.length_take,List.length_drop,←e2] at this;omega
     have a2:=O8 hg fs (off+ks1.length) r' Z hl (λf' hf'=>hf f' (HO _ hf'))
     have:=a1.append a2;rw [←e2] at this;rw [Be,List.take_add,List.drop_drop];exact this
    ·cases h
   ·cases h
  ·cases h
theorem yR: ∀(d:Nat) (t:TypeId) (ks:List MK) (fuel:Nat) (cs:List Value) (x:DataW H×List MemPlace),jX P d t=some ks->DataW.trod enc P w base spare qN fuel t cs=some x->(∀q∈x.1.weights P t,q<=reachBytes)->MS (MOk enc P w base spare qN) ks cs
 | 0,_,_,_,_,_,h,_,_=>by simp [jX] at h
 |d+1,t,ks,fuel,cs,x,h,hx,hz=>by
  unfold jX at h;split at h
  ·rename_i k hu;cases h;obtain ⟨n,rfl,_,hw⟩:=DataW.trod_int hu hx;exact .one ⟨n,rfl,hw⟩
  ·rename_i hu;cases h;obtain ⟨b,rfl,_⟩:=DataW.trod_bool hu hx;exact .one ⟨b,rfl⟩
  ·rename_i hu;cases h;obtain ⟨s,rfl,_⟩:=DataW.trod_string hu hx;exact .one ⟨s,rfl⟩
  ·rename_i e hu;split at h
   ·rename_i ks' hk;split at h
    ·rename_i hb;cases h;have h1: ∃v,cs=[v]:=by
      rcases Go.Deep.open_slice hu hx with ⟨h0,_⟩|⟨a,len,cap,m,n,D,Pl,h0,_⟩<;>exact ⟨_,h0⟩
     obtain ⟨v,rfl⟩:=h1;exact .one ⟨hu,hk,GX hb,fuel,x,hx,hz⟩
    ·cases h
   ·cases h
  ·rename_i fs hu;split at h
   ·rename_i ks' hks;split at h
    ·rename_i hb;cases h;have hl:ks.length=P.cellsOf t:=GX hb;obtain ⟨xs,n,_,hxe,HU,hxl,hf⟩:=DataW.trod_struct hu hx;have hzz: ∀q∈DataW.weightsEach P (fs.toList.map (·.type)) (xs.map (·.1)),q<=reachBytes:=by
      intro q hq;refine hz q ?_;rw [hxe];simpa [DataW.weights,hu] using hq
     have:=O8 (enc:=enc) (w:=w) (base:=base) (spare:=spare) (qN:=qN) (cs:=cs) (g:=jX P d) (r:=MOk enc P w base spare qN) (λt' ks' off hk ⟨n',x',hx',hz'⟩=>yR d t' ks' n' _ x' hk hx' hz') fs.toList 0 ks hks (Ao _) (λf hf'=>by
      obtain ⟨i,O⟩:=wK.1 hf';have hi':fs[i]? =some f:=by simpa using O
      have hlt:i<xs.length:=by rw [hxl];exact (P4.1 hi').1
      exact ⟨n,xs[i],(hf i f hi').trans (HY hlt),λq hq=>hzz q (vY (i:=i) (by simp [hi']) (by simp [HY hlt]) hq)⟩)
     rw [hl,←HU] at this;simpa using this
    ·cases h
   ·cases h
  ·cases h
inductive rC (P:Program):MK->AV->Prop
 |sc (k:SK) (v:Value):oC k v->rC P (.sc k) (.x v)
 |sl (t e:TypeId) (ks:List SK) (n:Nat) (f:Nat->List Value):n<=maxLen->n*P.bytesOf e<=reachBytes->(∀i,i<n->LK ks (f i))->rC P (.sl t e ks) (.lst ks.length n (λi=>(f i).map .x))
def BD(P:Program)(ms:List MK)(l:List AV):Prop:=ms.length=l.length/\ ∀(j:Nat) (k:MK) (a:AV),ms[j]? =some k->l[j]? =some a->rC P k a
inductive wD (P:Program):TypeId->AV->Prop
 |sc (t:TypeId) (k:SK) (v:Value):(∀fs,P.underlying t≠some (.struct fs))->FX P 9 t=some [k]->oC k v->wD P t (.x v)
 |st (t:TypeId) (fs:Array Field) (ks:List SK) (vs:List Value):P.underlying t=some (.struct fs)->FX P 9 t=some ks->LK ks vs->wD P t (.agg (vs.map .x))
 |sl (t e:TypeId) (ks:List SK) (n:Nat) (f:Nat->List Value):P.underlying t=some (.slice e)->FX P 9 e=some ks->n<=maxLen->n*P.bytesOf e<=reachBytes->(∀i,i<n->LK ks (f i))->wD P t (.lst ks.length n (λi=>(f i).map .x))
 |mx (t:TypeId) (fs:Array Field) (ms:List MK) (l:List AV):P.underlying t=some (.struct fs)->FX P 9 t=none->jX P 9 t=some ms->BD P ms l->wD P t (.agg l)
 |sm (t e:TypeId) (fs:Array Field) (ms:List MK) (n:Nat) (f:Nat->List AV):P.underlying t=some (.slice e)->P.underlying e=some (.struct fs)->FX P 9 e=none->jX P 9 e=some ms->n<=maxLen->n*P.bytesOf e<=reachBytes->(∀i,i<n->BD P ms (f i))->wD P t (.lst ms.length n f)
def EY:List MK->Bool
 |[]=>true
 | .sc _::ms=>EY ms
 | .sl _ _ ks::ms=> !ks.isEmpty&&EY ms
def SP(P:Program)(t:TypeId):Bool:=match P.underlying t with
 |some (.int _)|some .bool|some .string=>(FX P 9 t).isSome
 |some (.struct _)=>match FX P 9 t with
  |some _=>true
  |none=>match jX P 9 t with
   |some ms=>Zw3 P t ms
   |none=>false
 |some (.slice e)=>match FX P 9 e with
  |some ks=>Nat.beq ks.length (P.cellsOf e)
  |none=>match P.underlying e,jX P 9 e with
   |some (.struct _),some ms=>Nat.beq ms.length (P.cellsOf e)&&(EY ms&& !ms.isEmpty)
   |_,_=>false
 |_=>false
def j5(w:World):UK:={ro:=λb=>b<w.heap.size,own:=λ_=>none,live:=λ_=>False,blk:=λ_=>0,val:=λ_=> .nilIface}
theorem bN{r:Reach}{b0:Nat}{t e:TypeId}{v:Value}{fuel:Nat}{x:DataW H×List MemPlace}{ks:List SK}(hu:P.underlying t=some (.slice e))(hk:FX P 9 e=some ks)(hl:ks.length=P.cellsOf e)(hv:Cell.okWide P w r b0 t v)(hf:DataW.trod enc P w 0 (λ_=>true) qN fuel t v.cells.toList=some x)(hz: ∀q∈x.1.weights P t,q<=reachBytes):
  ∃(n:Nat) (f:Nat->List Value),n<=maxLen/\n*P.bytesOf e<=reachBytes/\(∀i,i<n->LK ks (f i))/\Rep (j5 w) w (.lst ks.length n (λi=>(f i).map .x)) v/\Idf (.lst ks.length n (λi=>(f i).map .x)):=by
 obtain ⟨a0,n0,c0,rfl⟩: ∃a0 n0 c0,v= .slice a0 n0 c0:=by
  have hx:=hv;simp only [Cell.okWide,Cell.ok,hu] at hx;split at hx<;>simp_all
 rcases Go.Deep.open_slice hu hf with ⟨h0,_⟩|⟨a,len,cap,m,n,D,Pl,h0,hb,hlc,hm,hmm,Wl4,O⟩
 ·simp [Value.cells] at h0;obtain ⟨rfl,rfl,rfl⟩:=h0;exact ⟨0,λ_=>[],Ao _,VV,(λi O=>VJ),.lstNil _ _,.lst _ _ _ (λi O=>VJ)⟩
 ·simp [Value.cells] at h0;obtain ⟨rfl,rfl,rfl⟩:=h0;simp only [if_true] at hmm;subst hmm;have hok:w.has P r b0 a e m:=by
   simp only [Value.okWide,hu,Cell.okWide,Cell.ok] at hv;exact hv.2.2
  obtain ⟨_,hsp,row,cells,hsh,_⟩:=hok;obtain ⟨ab,ao,as⟩:=a;simp only at hsp;subst hsp;have MJ:ab<w.heap.size:=by
   unfold World.shape? at hsh;cases hh:w.heap[ab]? with
   |none=>simp only [hh] at hsh;cases hsh
   |some o=>exact (P4.1 hh).1
  let F:Nat->List Value:=λi=>(w.cells? 0 ((⟨ab,ao,none⟩:Addr).add (i*P.cellsOf e)) (P.cellsOf e)).getD []
  have hF: ∀i,i<m->LK ks (F i)/\ ∀j,j<ks.length->w.cell? ⟨ab,ao+(i*ks.length+j),none⟩=(F i)[j]? :=by
   intro i hi';obtain ⟨cs',hcs,htr⟩:=O i hi';have e1:F i=cs':=by simp only [F,hcs,GT]
   rw [e1];refine ⟨wO 9 e ks n cs' _ hk htr,λj hj=>?_⟩
   obtain ⟨_,_,h3⟩:=World.cells?_some hcs;have:=h3 j VJ;rw [D7,D7] at this;rw [hl,←this,Ba]
  have eO:n0*P.bytesOf e<=reachBytes:=by
   have hd:x.1= .slice ((List.range n0).map D) ((List.range (m-n0)).map λj=>D (n0+j)):=by
    have:=congrArg Prod.fst Wl4;exact this
   have h1:=hz ((((List.range n0).map D).length+((List.range (m-n0)).map λj=>D (n0+j)).length)*P.bytesOf e) (by rw [hd];simp [DataW.weights,hu])
   rw [Bm,List.length_range] at h1;exact Ar (BB _ (Nat.le_add_right _ _)) h1
  refine ⟨n0,F,VJ,eO,(λi hi'=>(hF i VJ).1),?_,.lst _ _ _ (λi hi' a ha=>?_)⟩
  ·refine .lst _ _ _ ab ao m (λi j=>(F i).getD j .nilIface) (λ_=>MJ) (λ_=>MJ) (λi hi' a ha=>?_) hlc hm (λi j hi' hj=>?_) (λi hi'=>?_) (λi j a hi' ha=>?_) _ (λ_=>rfl)
   ·obtain ⟨b,_,rfl⟩:=List.mem_map.1 ha;exact .x b
   ·rw [(hF i VJ).2 j hj];have hjl:j<(F i).length:=by rw [←(hF i VJ).1.1];exact hj
    simp [List.getD,HY hjl]
   ·simp [(hF i VJ).1.1]
   ·rw [Bn,Ay] at ha;obtain ⟨b,hb',rfl⟩:=ha;simp only [List.getD,hb',GT];exact .x b
  ·obtain ⟨b,_,rfl⟩:=List.mem_map.1 ha;exact .x b
theorem dK: ∀{ms:List MK} {j:Nat} {t e:TypeId} {ks:List SK},EY ms=true->ms[j]? =some (.sl t e ks)->0<ks.length
 |[],j,t,e,ks,_,hj=>by simp at hj
 | .sc _::ms,j,t,e,ks,h,hj=>by
  cases j with
  |zero=>simp at hj
  |succ j=>exact dK (ms:=ms) h (by simpa using hj)
 | .sl _ _ ks'::ms,j,t,e,ks,h,hj=>by
  simp only [EY,H6] at h;cases j with
  |zero=>
   simp at hj;obtain ⟨_,_,rfl⟩:=hj;cases ks' with
   |nil=>simp at h
   |cons a b=>simp
  |succ j=>exact dK (ms:=ms) h.2 (by simpa using hj)
theorem bO{e:TypeId}{a:Addr}{cap:Nat}{D:Nat->DataW H}{Pl:Nat->List MemPlace}{n:Nat}(hc:0<P.cellsOf e)(O: ∀i,i<cap-> ∃cs',w.cells? 0 (a.add (i*P.cellsOf e)) (P.cellsOf e)=some cs'/\DataW.trod enc P w 0 (λ_=>true) qN n e cs'=some (D i,Pl i))(h:0<cap):a=⟨a.block,a.off,none⟩/\a.block<w.heap.size:=by
 obtain ⟨cs',h1,_⟩:=O 0 h;obtain ⟨_,h2,h3⟩:=World.cells?_some h1;have h4:=h3 0 hc;rw [Nat.zero_mul] at h4;have e0:(a.add 0).add 0=a:=by simp [Addr.add]
 rw [e0,HY VJ] at h4;obtain ⟨ab,ao,as⟩:=a;unfold World.cell? at h4;split at h4
 ·rename_i c x y hb;have hlt:=(P4.1 hb).1;cases as with
  |none=>exact ⟨rfl,hlt⟩
  |some s=>simp at h4
 ·cases h4
theorem Qy4{t e:TypeId}{v:Value}{fuel:Nat}{x:DataW H×List MemPlace}{ks:List SK}(hu:P.underlying t=some (.slice e))(hk:FX P 9 e=some ks)(hl:ks.length=P.cellsOf e)(Wk6:0<ks.length)(hf:DataW.trod enc P w 0 (λ_=>true) qN fuel t [v]=some x)(hz: ∀q∈x.1.weights P t,q<=reachBytes):
  ∃(n:Nat) (f:Nat->List Value),n<=maxLen/\n*P.bytesOf e<=reachBytes/\(∀i,i<n->LK ks (f i))/\Rep (j5 w) w (.lst ks.length n (λi=>(f i).map .x)) v/\Idf (.lst ks.length n (λi=>(f i).map .x)):=by
 rcases Go.Deep.open_slice hu hf with ⟨h0,_⟩|⟨a,n0,cap,m,n,D,Pl,h0,hb,hlc,hm,hmm,Wl4,O⟩
 ·simp at h0;subst h0;exact ⟨0,λ_=>[],Ao _,VV,(λi O=>VJ),.lstNil _ _,.lst _ _ _ (λi O=>VJ)⟩
 ·simp at h0;subst h0;simp only [if_true] at hmm;subst hmm;have hat:0<m->a=⟨a.block,a.off,none⟩/\a.block<w.heap.size:=bO VJ O
  let F:Nat->List Value:=λi=>(w.cells? 0 (a.add (i*P.cellsOf e)) (P.cellsOf e)).getD []
  have hF: ∀i,i<m->LK ks (F i)/\ ∀j,j<ks.length->w.cell? ⟨a.block,a.off+(i*ks.length+j),none⟩=(F i)[j]? :=by
   intro i hi';obtain ⟨cs',hcs,htr⟩:=O i hi';have e1:F i=cs':=by simp only [F,hcs,GT]
   rw [e1];refine ⟨wO 9 e ks n cs' _ hk htr,λj hj=>?_⟩
   obtain ⟨_,_,h3⟩:=World.cells?_some hcs;have:=h3 j VJ;rw [(hat VJ).1,D7,D7] at this;rw [hl,←this,Ba]
  have eO:n0*P.bytesOf e<=reachBytes:=by
   have hd:x.1= .slice ((List.range n0).map D) ((List.range (m-n0)).map λj=>D (n0+j)):=by
    have:=congrArg Prod.fst Wl4;exact this
   have h1:=hz ((((List.range n0).map D).length+((List.range (m-n0)).map λj=>D (n0+j)).length)*P.bytesOf e) (by rw [hd];simp [DataW.weights,hu])
   rw [Bm,List.length_range] at h1;exact Ar (BB _ (Nat.le_add_right _ _)) h1
  refine ⟨n0,F,VJ,eO,(λi hi'=>(hF i VJ).1),?_,.lst _ _ _ (λi hi' a ha=>?_)⟩
  ·refine .lst _ _ _ a.block a.off m (λi j=>(F i).getD j .nilIface) (λh=>(hat VJ).2) (λh=>(hat VJ).2) (λi hi' a ha=>?_) hlc hm (λi j hi' hj=>?_) (λi hi'=>?_) (λi j a hi' ha=>?_) a (λh=>(hat VJ).1)
   ·obtain ⟨b,_,rfl⟩:=List.mem_map.1 ha;exact .x b
   ·rw [(hF i VJ).2 j hj];have hjl:j<(F i).length:=by rw [←(hF i VJ).1.1];exact hj
    simp [List.getD,HY hjl]
   ·simp [(hF i VJ).1.1]
   ·rw [Bn,Ay] at ha;obtain ⟨b,hb',rfl⟩:=ha;simp only [List.getD,hb',GT];exact .x b
  ·obtain ⟨b,_,rfl⟩:=List.mem_map.1 ha;exact .x b
theorem Wq9{ms:List MK}{vs:List Value}(P9:EY ms=true)(h:MS (MOk enc P w 0 (λ_=>true) qN) ms vs): ∃l,BD P ms l/\U2 (j5 w) w l vs/\ ∀a∈l,Idf a:=by
 have key: ∀(j:Nat) (k:MK) (v:Value),ms[j]? =some k->vs[j]? =some v-> ∃a,rC P k a/\Rep (j5 w) w a v/\Idf a:=by
  intro j k v hj hvj;have h2:=h.2 j k v hj hvj;cases k with
  |sc k=>exact ⟨.x v,.sc k v h2,.x v,.x v⟩
  |sl t' e ks=>
   obtain ⟨hu',hk',hl',n',x',hx',hz'⟩:=h2;obtain ⟨n,f,g1,g2,g3,g4,g5⟩:=Qy4 hu' hk' hl' (dK P9 hj) hx' hz';exact ⟨_,.sl t' e ks n f g1 g2 g3,g4,g5⟩
 have all: ∀(ms:List MK) (vs:List Value),ms.length=vs.length->(∀(j:Nat) (k:MK) (v:Value),ms[j]? =some k->vs[j]? =some v-> ∃a,rC P k a/\Rep (j5 w) w a v/\Idf a)-> ∃l,BD P ms l/\U2 (j5 w) w l vs/\ ∀a∈l,Idf a:=by
  intro ms
  induction ms with
  |nil=>
   intro vs hl _;cases vs with
   |nil=>exact ⟨[],⟨rfl,λj k a h=>by simp at h⟩,U2.nil _ _,λa ha=>by cases ha⟩
   |cons v vs=>simp at hl
  |cons k ms ih=>
   intro vs hl h;cases vs with
   |nil=>simp at hl
   |cons v vs=>
    obtain ⟨a,a1,a2,a3⟩:=h 0 k v rfl rfl;obtain ⟨l,l1,l2,l3⟩:=ih vs (by simpa using hl) (λj k v hk hv=>h (j+1) k v (by simpa using hk) (by simpa using hv))
    refine ⟨a::l,⟨by simp [l1.1],λj k' a' hk ha=>?_⟩,U2.cons a2 l2,λb hb=>?_⟩
    ·cases j with
     |zero=>simp at hk ha;subst hk;subst ha;exact a1
     |succ j=>exact l1.2 j k' a' (by simpa using hk) (by simpa using ha)
    ·rcases GM.1 hb with rfl|hb
     ·exact a3
     ·exact l3 b hb
 exact all ms vs h.1 key
theorem fE{e:TypeId}{d:DataW H}{q:Nat}: ∀{ds:List (DataW H)},d∈ds->q∈d.weights P e->q∈DataW.weightsAll P e ds
 |[],h,_=>by cases h
 |d'::ds,h,hq=>by
  simp only [DataW.weightsAll,Bc];rcases GM.1 h with rfl|h
  ·exact .inl hq
  ·exact .inr (fE h hq)
theorem Qy3{t e:TypeId}{v:Value}{fuel:Nat}{x:DataW H×List MemPlace}{ms:List MK}(hu:P.underlying t=some (.slice e))(hk:jX P 9 e=some ms)(hl:ms.length=P.cellsOf e)(Wk6:0<ms.length)(P9:EY ms=true)(hf:DataW.trod enc P w 0 (λ_=>true) qN fuel t [v]=some x)(hz: ∀q∈x.1.weights P t,q<=reachBytes):
  ∃(n:Nat) (f:Nat->List AV),n<=maxLen/\n*P.bytesOf e<=reachBytes/\(∀i,i<n->BD P ms (f i))/\Rep (j5 w) w (.lst ms.length n f) v/\Idf (.lst ms.length n f):=by
 rcases Go.Deep.open_slice hu hf with ⟨h0,_⟩|⟨a,n0,cap,m,n,D,Pl,h0,hb,hlc,hm,hmm,Wl4,O⟩
 ·simp at h0;subst h0;exact ⟨0,λ_=>[],Ao _,VV,(λi O=>VJ),.lstNil _ _,.lst _ _ _ (λi O=>VJ)⟩
 ·simp at h0;subst h0;simp only [if_true] at hmm;subst hmm;have hat:0<m->a=⟨a.block,a.off,none⟩/\a.block<w.heap.size:=bO VJ O;have hd:x.1= .slice ((List.range n0).map D) ((List.range (m-n0)).map λj=>D (n0+j)):=by
   have:=congrArg Prod.fst Wl4;exact this
  have eO:n0*P.bytesOf e<=reachBytes:=by
   have h1:=hz ((((List.range n0).map D).length+((List.range (m-n0)).map λj=>D (n0+j)).length)*P.bytesOf e) (by rw [hd];simp [DataW.weights,hu])
   rw [Bm,List.length_range] at h1;exact Ar (BB _ (Nat.le_add_right _ _)) h1
  let F:Nat->List Value:=λi=>(w.cells? 0 (a.add (i*P.cellsOf e)) (P.cellsOf e)).getD []
  have hF: ∀i,i<n0-> ∃l,(BD P ms l/\U2 (j5 w) w l (F i)/\ ∀a∈l,Idf a)/\(F i).length=ms.length/\ ∀j,j<ms.length->w.cell? ⟨a.block,a.off+(i*ms.length+j),none⟩=(F i)[j]? :=by
   intro i hi';obtain ⟨cs',hcs,htr⟩:=O i VJ;have e1:F i=cs':=by simp only [F,hcs,GT]
   rw [e1];have hzi: ∀q∈(D i).weights P e,q<=reachBytes:=λq hq=>hz q (by
    rw [hd];simp only [DataW.weights,hu,GM,Bc];exact .inr (.inl (fE (List.mem_map.2 ⟨i,List.mem_range.2 hi',rfl⟩) hq)))
   have h1:=yR 9 e ms n cs' _ hk htr hzi;obtain ⟨l,h2⟩:=Wq9 P9 h1;refine ⟨l,h2,h1.1.symm,λj hj=>?_⟩
   obtain ⟨_,_,h3⟩:=World.cells?_some hcs;have:=h3 j VJ;rw [(hat VJ).1,D7,D7] at this;rw [hl,←this,Ba]
  obtain ⟨f,hf'⟩:=Go.Deep.choose_lt hF;refine ⟨n0,f,VJ,eO,(λi hi'=>(hf' i hi').1.1),?_,.lst _ _ _ (λi hi'=>(hf' i hi').1.2.2)⟩
  refine .lst _ _ _ a.block a.off m (λi j=>(F i).getD j .nilIface) (λh=>(hat VJ).2) (λh=>(hat VJ).2) (λi hi'=>(hf' i hi').1.2.2) hlc hm (λi j hi' hj=>?_) (λi hi'=>?_) (λi j b hi' ha=>?_) a (λh=>(hat VJ).1)
  ·have h1:=hf' i hi';rw [h1.2.2 j hj];have hjl:j<(F i).length:=by rw [h1.2.1];exact hj
   simp [List.getD,HY hjl]
  ·exact (hf' i hi').1.1.1.symm
  ·have h1:=(hf' i hi').1.2.1;have hj:j<(F i).length:=by rw [←h1.1];exact (FR.1 ha).1
   have h2:=h1.2 j b (F i)[j] ha (HY hj);simpa only [List.getD,HY hj,GT] using h2
theorem Zn3{r:Reach}{b0:Nat}{t:TypeId}{v:Value}{d:DataW H}{p:List MemPlace}(A:SP P t=true)(hv:Value.okWide P w r b0 t v)(h:DataW.Trod enc P w 0 (λ_=>true) qN t v d p)(hz: ∀q∈d.weights P t,q<=reachBytes):
  ∃av,wD P t av/\Rep (j5 w) w av v/\Idf av:=by
 unfold SP at A;obtain ⟨fuel,hf⟩:=h;have scal: ∀k,(∀fs,P.underlying t≠some (.struct fs))->FX P 9 t=some [k]->(∀cs,v≠ .agg cs)-> ∃av,wD P t av/\Rep (j5 w) w av v/\Idf av:=by
  intro k hns hk hna;have h1:=wO 9 t [k] fuel _ _ hk hf;have hc:v.cells.toList=[v]:=by cases v<;>first|rfl|exact absurd rfl (hna _)
  rw [hc] at h1;exact ⟨.x v,.sc t k v hns hk (h1.2 0 k v rfl rfl),.x v,.x v⟩
 split at A
 ·rename_i k hu;obtain ⟨n,rfl⟩:=okWide_int hu hv;exact scal (.int k) (λfs h=>by rw [hu] at h;cases h) (by simp [FX,hu]) (λcs h=>by cases h)
 ·rename_i hu;obtain ⟨b,rfl⟩:=okWide_bool hu hv;exact scal .bool (λfs h=>by rw [hu] at h;cases h) (by simp [FX,hu]) (λcs h=>by cases h)
 ·rename_i hu;obtain ⟨s,rfl⟩:=okWide_string hu hv;exact scal .str (λfs h=>by rw [hu] at h;cases h) (by simp [FX,hu]) (λcs h=>by cases h)
 ·rename_i fs hu;cases hk:FX P 9 t with
  |none=>
   rw [hk] at A;simp only at A;cases hm:jX P 9 t with
   |none=>rw [hm] at A;cases A
   |some ms=>
    rw [hm] at A;simp only [Zw3] at A;split at A
    ·rename_i ts hts;simp only [H6] at A;have hml:ms.length=P.cellsOf t:=GX A.2;have htl:=AF A.1;simp only [Value.okWide,hu] at hv;obtain ⟨cs,rfl,hcs,ts',hts',_,EN⟩:=hv;rw [hts] at hts';cases hts';have h1:=yR 9 t ms fuel _ _ hm hf hz;simp only [Value.cells] at h1;have key: ∀(j:Nat) (k:MK) (v:Value),ms[j]? =some k->cs.toList[j]? =some v-> ∃a,rC P k a/\Rep (j5 w) w a v/\Idf a:=by
      intro j k v hj hvj;have h2:=h1.2 j k v hj hvj;cases k with
      |sc k=>exact ⟨.x v,.sc k v h2,.x v,.x v⟩
      |sl t' e ks=>
       obtain ⟨hu',hk',hl',n',x',hx',hz'⟩:=h2;obtain ⟨u,hu2,hc⟩:=EN j v (by simpa using hvj)
       have hjl:j<ts.length:=by rw [htl];exact (FR.1 hj).1
       rw [Nat.mod_eq_of_lt hjl,AG A.1 hj] at hu2;cases hu2;have hvc:v.cells.toList=[v]:=by
        obtain ⟨a0,n0,c0,rfl⟩: ∃a0 n0 c0,v= .slice a0 n0 c0:=by
         have hx:=hc;simp only [Cell.okWide,Cell.ok,hu'] at hx;split at hx<;>simp_all
        rfl
       obtain ⟨n,f,g1,g2,g3,g4,g5⟩:=bN hu' hk' hl' hc (by rw [hvc];exact hx') hz'
       exact ⟨_,.sl t' e ks n f g1 g2 g3,g4,g5⟩
     have all: ∀(ms:List MK) (vs:List Value),ms.length=vs.length->(∀(j:Nat) (k:MK) (v:Value),ms[j]? =some k->vs[j]? =some v-> ∃a,rC P k a/\Rep (j5 w) w a v/\Idf a)-> ∃l,BD P ms l/\U2 (j5 w) w l vs/\ ∀a∈l,Idf a:=by
      intro ms
      induction ms with
      |nil=>
       intro vs hl _;cases vs with
       |nil=>exact ⟨[],⟨rfl,λj k a h=>by simp at h⟩,U2.nil _ _,λa ha=>by cases ha⟩
       |cons v vs=>simp at hl
      |cons k ms ih=>
       intro vs hl h;cases vs with
       |nil=>simp at hl
       |cons v vs=>
        obtain ⟨a,a1,a2,a3⟩:=h 0 k v rfl rfl;obtain ⟨l,l1,l2,l3⟩:=ih vs (by simpa using hl) (λj k v hk hv=>h (j+1) k v (by simpa using hk) (by simpa using hv))
        refine ⟨a::l,⟨by simp [l1.1],λj k' a' hk ha=>?_⟩,U2.cons a2 l2,λb hb=>?_⟩
        ·cases j with
         |zero=>simp at hk ha;subst hk;subst ha;exact a1
         |succ j=>exact l1.2 j k' a' (by simpa using hk) (by simpa using ha)
        ·rcases GM.1 hb with rfl|hb
         ·exact a3
         ·exact l3 b hb
     obtain ⟨l,l1,l2,l3⟩:=all ms cs.toList h1.1 key;refine ⟨.agg l,.mx t fs ms l hu hk hm l1,?_,.agg _ l3⟩;have:=Rep.aggL l2;simpa using this
    ·cases A
  |some ks=>
   obtain ⟨cs,rfl,_⟩:=okWide_struct hu hv;have h1:=wO 9 t ks fuel _ _ hk hf;refine ⟨.agg (cs.toList.map .x),.st t fs ks cs.toList hu hk h1,?_,.agg _ (λa ha=>?_)⟩
   ·have:=Rep.aggL (U2.xs (j5 w) w cs.toList);simpa using this
   ·obtain ⟨b,_,rfl⟩:=List.mem_map.1 ha;exact .x b
 ·rename_i e hu;cases hk:FX P 9 e with
  |none=>
   rw [hk] at A;simp only at A;split at A
   ·rename_i fs ms hue hms;simp only [H6] at A;have hv':Cell.okWide P w r b0 t v:=by
     simpa only [Value.okWide,hu] using hv
    have hvc:v.cells.toList=[v]:=by
     obtain ⟨a0,n0,c0,rfl⟩: ∃a0 n0 c0,v= .slice a0 n0 c0:=by
      have hx:=hv';simp only [Cell.okWide,Cell.ok,hu] at hx;split at hx<;>simp_all
     rfl
    rw [hvc] at hf;have Wk6:0<ms.length:=by
     cases ms with
     |nil=>simp at A
     |cons a b=>simp
    obtain ⟨n,f,h1,h2,h3,h4,h5⟩:=Qy3 hu hms (GX A.1) Wk6 A.2.1 hf hz;exact ⟨_,.sm t e fs ms n f hu hue hk hms h1 h2 h3,h4,h5⟩
   ·cases A
  |some ks=>
   rw [hk] at A;have hl:ks.length=P.cellsOf e:=GX A;have hv':Cell.okWide P w r b0 t v:=by
    simpa only [Value.okWide,hu] using hv
   obtain ⟨n,f,h1,h2,h3,h4,h5⟩:=bN hu hk hl hv' hf hz;exact ⟨_,.sl t e ks n f hu hk h1 h2 h3,h4,h5⟩
 ·cases A
inductive M6 (P:Program):List TypeId->List AV->Prop
 |nil:M6 P [] []
 |cons {t:TypeId} {a:AV} {ts:List TypeId} {l:List AV}:wD P t a->M6 P ts l->M6 P (t::ts) (a::l)
theorem Qc8{b0:Nat}{r:Reach}: ∀(ts:List TypeId) (vs:List Value) (ds:List (DataW H)) (p:List MemPlace),ts.all (SP P)=true->(∀(j:Nat) t v,ts[j]? =some t->vs[j]? =some v->Value.okWide P w r b0 t v)->
  DataW.TrodAll enc P w 0 (λ_=>true) qN ts vs ds p->(∀q∈DataW.weightsEach P ts ds,q<=reachBytes)-> ∃avs,M6 P ts avs/\U2 (j5 w) w avs vs/\ ∀a∈avs,Idf a
 |[],vs,ds,p,_,_,h,_=>by
  cases vs with
  |nil=>exact ⟨[],.nil,U2.nil _ _,λa ha=>by cases ha⟩
  |cons v vs=>cases ds<;>simp [DataW.TrodAll] at h
 |t::ts,vs,ds,p,A,hv,h,hz=>by
  obtain ⟨v,vs',d,ds',p1,q1,rfl,rfl,rfl,h1,h2⟩:=trodAll_cons h;simp only [List.all_cons,H6] at A;obtain ⟨a,ha,Z,O⟩:=Zn3 A.1 (hv 0 t v rfl rfl) h1 (λq hq=>hz q (by simp only [DataW.weightsEach,Bc];exact .inl hq))
  obtain ⟨l,hl,hrl,hil⟩:=Qc8 ts vs' ds' q1 A.2 (λj t' v' ht hv'=>hv (j+1) t' v' (by simpa using ht) (by simpa using hv')) h2 (λq hq=>hz q (by simp only [DataW.weightsEach,Bc];exact .inr hq))
  refine ⟨a::l,.cons ha hl,U2.cons Z hrl,λx hx=>?_⟩
  rcases GM.1 hx with rfl|hx
  ·exact O
  ·exact hil x hx
theorem Zs9{f:FuncId}{b0:Nat}{r:Reach}{ts:List TypeId}{vs:Array Value}{ds:List (DataW H)}{p:List MemPlace}(A:ts.all (SP P)=true)(hv: ∀(j:Nat) t v,ts[j]? =some t->vs.toList[j]? =some v->Value.okWide P w r b0 t v)
  (h:DataW.TrodAll enc P w 0 (λ_=>true) qN ts vs.toList ds p)(hz: ∀q∈DataW.weightsEach P ts ds,q<=reachBytes)(hs: ∀avs,M6 P ts avs->VX P f avs (.x (.bool true)))(hgl:DF (j5 w) w:=by intro b p h;exact absurd h (by simp [GP])):Calls P f vs w λe w'=>e= .returned (.bool true)/\Below w.heap.size w w':=by
 obtain ⟨avs,h1,h2,h3⟩:=Qc8 ts vs.toList ds p A hv h hz;refine (hs avs h1 (j5 w) w vs.toList (λb hb=>hb) hgl h3 h2).mono λe w' hq=>?_
 obtain ⟨v,rfl,hb,Z⟩:=hq;rw [Z.x_inv];exact ⟨rfl,hb⟩
theorem OJ{W W':World}{sp:Nat->Bool}(hl:laidOutB P=true)(hb:Below W.heap.size W W'): ∀(ts:List TypeId) (vs:List Value) (ds:List (DataW H)) (p:List MemPlace),ts.all (λt=>P.readableRec t&&decide (t<P.types.size))=true->
  DataW.TrodAll enc P W 0 (λ_=>true) true ts vs ds p->(∀x∈p,x.block<W.heap.size)->(∀x∈p,sp x.block=true)->DataW.TrodAll enc P W' 0 sp true ts vs ds p
 |[],vs,ds,p,_,h,_,_=>by
  cases vs<;>cases ds<;>simp [DataW.TrodAll] at h ⊢;exact h
 |t::ts,vs,ds,p,Z,h,hlt,hsp=>by
  obtain ⟨v,vs',d,ds',p1,q1,rfl,rfl,rfl,h1,h2⟩:=trodAll_cons h;simp only [List.all_cons,H6,kD] at Z;refine ⟨p1,q1,WideElems.Trod_stays hl Z.1.1 Z.1.2 h1 (λx hx=>hb.same (hlt x (Bd _ hx))) (λx hx=>hsp x (Bd _ hx)),OJ hl hb ts vs' ds' q1 ?_ h2 (λx hx=>hlt x (As _ hx)) (λx hx=>hsp x (As _ hx)),rfl⟩
  simpa using Z.2
theorem Jc0{f:Func}{s:ChangeSpec}{apart fresh A1 again:Bool}{W W':World}{args:Array Value}{ds:List (DataW H)}{before:List MemPlace}{tb:TypeId}(hl:laidOutB P=true)(Z:f.params.toList.all (λt=>P.readableRec t&&decide (t<P.types.size))=true)(DY:f.resultTypes=#[tb])(hub:P.underlying tb=some .bool)
  (Jd3:s.vars=[])(hfr:(s.fn H ds).results=[.lit (.bool true)])(hfa:(s.fn H ds).args=ds)(hfv:(s.fn H ds).vars=[])
  (hW:DataW.Whole enc P f.params.toList s.vars apart W args.toList ds [] before)(hA:DataW.TrodAll enc P W 0 (λ_=>true) true f.params.toList args.toList ds before)(hb:Below W.heap.size W W'):
  s.post enc P f apart fresh A1 again W args (.bool true) W':=by
 have hlt: ∀p∈before,p.block<W.heap.size:=λp A=>hW.lt p A
 have Wk8: ∀p∈before,(λb=>decide (b<W.heap.size)) p.block=true:=λp A=>by simpa using hlt p A
 have hres': ∀(b:Nat) (sp:Nat->Bool) (hd:Bool),DataW.TrodAll enc P W' b sp hd f.resultTypes.toList ((Value.bool true).resultList f.resultTypes.size) (s.fn H (ds++[])).results []:=by
  intro b sp hd;rw [List.append_nil,hfr,DY];exact trodAll_mk1 (shut_bool hub true)
 have NX: ∀sp:Nat->Bool,(∀p∈before,sp p.block=true)->DataW.TrodAll enc P W' 0 sp true f.params.toList args.toList (s.fn H (ds++[])).args before:=by
  intro sp hsp;rw [List.append_nil,hfa];exact OJ hl hb _ _ _ _ Z hA hlt hsp
 have hvars': ∀sp:Nat->Bool,(∀p∈before,sp p.block=true)->DataW.TrodVars enc P W' sp s.vars (s.fn H (ds++[])).vars []:=by
  intro sp _;rw [List.append_nil,hfv,Jd3];rfl
 refine ⟨ds,[],before,[],before,[],hW,hres' _ _ _,NX _ Wk8,hvars' _ Wk8,World.keptBut_mono (λp A=>⟨A,Or.inr (by simpa using A)⟩) (hb.frame (· ∈before)),λ_=>?_⟩
 obtain ⟨_,_,_,_,_,hz,hn⟩:=hW;refine ⟨ok_one DY rfl (okWide_bool_mk hub true),_,_,([]++before)++[],⟨[]++before,[],trodAll_append (NX _ (λ_ _=>rfl)) (hres' _ _ _),hvars' _ (λ_ _=>rfl),rfl,?_,?_⟩,?_⟩
 ·intro b off A;have hin:MemPlace.cell b off∈before:=by simpa using A
  rw [hb.frozen (hlt _ hin)];exact hz b off hin
 ·intro ha;have:=hn ha;simpa using this
 ·intro p A _;simpa using A
end
end Go.Sx
namespace Go.Sx
open Go Go.RowKit
section
variable {P:Program}
section
variable (P:Program)(t:TypeId)
def sU:Bool:=match P.underlying t with
 |some (.struct _)=>true
 |_=>false
def bW:Bool:=match P.underlying t with
 |some (.int _)|some .bool|some .string=>true
 |_=>false
def sY:Option TypeId:=match P.underlying t with
 |some (.slice e)=>some e
 |_=>none
end
theorem wD.agg{t:TypeId}{av:AV}{ks:List SK}(h:wD P t av)(hs:sU P t=true)(hk:FX P 9 t=some ks): ∃vs,av= .agg (vs.map .x)/\LK ks vs:=by
 unfold sU at hs;split at hs
 ·rename_i fs hu;cases h with
  |sc k v h0 h1 h2=>exact absurd hu (h0 fs)
  |st fs' ks' vs h1 h2 h3=>rw [hk] at h2;cases h2;exact ⟨vs,rfl,h3⟩
  |sl e ks' n f h1 h2 h3 h5 h4=>rw [hu] at h1;cases h1
  |mx fs' ms l h1 h2 h3 h4=>rw [hk] at h2;cases h2
  |sm e fs' ms n f h1=>rw [hu] at h1;cases h1
 ·cases hs
theorem wD.one{t:TypeId}{av:AV}{k:SK}(h:wD P t av)(hs:bW P t=true)(hk:FX P 9 t=some [k]): ∃v,av= .x v/\oC k v:=by
 cases h with
 |sc k' v h0 h1 h2=>rw [hk] at h1;cases h1;exact ⟨v,rfl,h2⟩
 |st fs' ks' vs h1 h2 h3=>unfold bW at hs;rw [h1] at hs;cases hs
 |sl e ks' n f h1 h2 h3 h5 h4=>unfold bW at hs;rw [h1] at hs;cases hs
 |mx fs' ms l h1 h2 h3 h4=>unfold bW at hs;rw [h1] at hs;cases hs
 |sm e fs' ms n f h1=>unfold bW at hs;rw [h1] at hs;cases hs
theorem wD.list{t e:TypeId}{av:AV}{ks:List SK}(h:wD P t av)(hs:sY P t=some e)(hk:FX P 9 e=some ks): ∃(n:Nat) (f:Nat->List Value),av= .lst ks.length n (λi=>(f i).map .x)/\(n<=maxLen/\n*P.bytesOf e<=reachBytes)/\ ∀i,i<n->LK ks (f i):=by
 unfold sY at hs;split at hs
 ·rename_i e' hu;cases hs;cases h with
  |sc k v h0 h1 h2=>simp [FX,hu] at h1
  |st fs' ks' vs h1 h2 h3=>rw [hu] at h1;cases h1
  |mx fs' ms l h1 h2 h3 h4=>rw [hu] at h1;cases h1
  |sm e' fs' ms n f h1 h2 h3=>rw [hu] at h1;cases h1;rw [hk] at h3;cases h3
  |sl e' ks' n f h1 h2 h3 h5 h4=>
   rw [hu] at h1;cases h1;rw [hk] at h2;cases h2;exact ⟨n,f,rfl,⟨h3,h5⟩,h4⟩
 ·cases hs
theorem BD.nil{l:List AV}(h:BD P [] l):l=[]:=List.eq_nil_of_length_eq_zero h.1.symm
theorem BD.cons{k:MK}{ms:List MK}{l:List AV}(h:BD P (k::ms) l): ∃a l',l=a::l'/\rC P k a/\BD P ms l':=by
 cases l with
 |nil=>have:=h.1;simp at this
 |cons a l=>exact ⟨a,l,rfl,h.2 0 k a rfl rfl,⟨by have:=h.1;simpa using this,λj k' a' hk ha=>h.2 (j+1) k' a' (by simpa using hk) (by simpa using ha)⟩⟩
theorem LK.nil{vs:List Value}(h:LK [] vs):vs=[]:=List.eq_nil_of_length_eq_zero h.1.symm
theorem LK.cons{k:SK}{ks:List SK}{vs:List Value}(h:LK (k::ks) vs): ∃v vs',vs=v::vs'/\oC k v/\LK ks vs':=by
 cases vs with
 |nil=>have:=h.1;simp at this
 |cons v vs=>exact ⟨v,vs,rfl,h.2 0 k v rfl rfl,⟨by have:=h.1;simpa using this,λj k' v' hk hv=>h.2 (j+1) k' v' (by simpa using hk) (by simpa using hv)⟩⟩
end
inductive Gd where
 |rest
 |go (b:Bool) (g:Gd)
 |both (g g':Gd)
def zV{α:Type}:VM α->Gd->VM α
 | .fail,_=> .fail
 | .leaf a,_=> .leaf a
 | .need ps t,g=> .need ps (zV t g)
 | .branch b t f,g=>match g with
  | .rest=> .branch b t f
  | .go true g=> .need [b=true] (zV t g)
  | .go false g=> .need [b=false] (zV f g)
  | .both g g'=> .branch b (zV t g) (zV f g')
 | .may p t f,g=>match g with
  | .rest=> .may p t f
  | .go true g=> .may p (zV t g) (zV f g)
  | .go false g=> .need [¬p] (zV f g)
  | .both g g'=> .may p (zV t g) (zV f g')
theorem Qo6{α:Type}{Q:α->Prop}{t:VM α}: ∀{g:Gd},(zV t g).sat Q->t.sat Q:=by
 induction t with
 |fail=>intro g h;exact h
 |leaf a=>intro g h;exact h
 |need ps t ih=>intro g h;exact ⟨h.1,ih h.2⟩
 |branch b t f iht ihf=>
  intro g h;cases g with
  |rest=>exact h
  |go d g=>
   cases d
   ·obtain ⟨h1,h2⟩:=h;exact ⟨λhb=>absurd ((show b=false from h1).symm.trans hb) (by decide),λ_=>ihf h2⟩
   ·obtain ⟨h1,h2⟩:=h;exact ⟨λ_=>iht h2,λhb=>absurd ((show b=true from h1).symm.trans hb) (by decide)⟩
  |both g g'=>exact ⟨λhb=>iht (h.1 hb),λhb=>ihf (h.2 hb)⟩
 |may p t f iht ihf=>
  intro g h;cases g with
  |rest=>exact h
  |go d g=>
   cases d
   ·exact ⟨λA=>absurd A h.1,ihf h.2⟩
   ·exact ⟨λA=>iht (h.1 A),ihf h.2⟩
  |both g g'=>exact ⟨λA=>iht (h.1 A),ihf h.2⟩
theorem vZ{P:Program}{G:List (Nat×Spec)}{X:Ext}{L:List UI}{f:FuncId}{fn:Func}{c:Code}{avs:List AV}{res:AV}{t:VM RV}(g:Gd)(hG:VK P G)(hX: ∀cx,VW P X cx)(GQ:P.follows .mixedOrders=true)(hf:P.funcs[f]? =some fn)(hb:fn.body=some c)
  (hL: ∀j cj,VS c j=some cj-> ∀sp,L[j]? =some sp->HP P cj sp)(ht:zV (pB P fn.results.toList (D3 P G X L c 0 (HM fn avs))) g=t)(h:t.sat (λr=>G4 r res)):VX P f avs res:=by
 subst ht;exact jA hG hX GQ hf hb hL (xF (Qo6 h))
def Qb9(P:Program)(G:List (Nat×Spec))(X:Ext)(L:List UI)(N:List (Pl×Nat×TypeId×Nat))(s2:St)(rest:Code->Nat->St->CT):Nat->Code->Nat->St->CT
 | 0,c,off,s=> .needT (B9 (FV N s) s2) (rest c off s2)
 |k+1,c,off,s=>match c with
  | .seq a b=>(D3 P G X L a off s).bind λp=>match p.1 with
   | .normal=>Qb9 P G X L N s2 rest k b (off+GF a) p.2
   |x=> .leaf (x,p.2)
  |_=> .fail
def sO(P:Program)(cx:Cx)(L:List UI)(ev:Code->Nat->St->CT):Prop:=
 ∀(ro:Option Nat) (n:Nat) (c:Code) (off:Nat) (s:St) (Q:G7×St->Prop) (a:Act) (w:World),(∀j cj,VS c j=some cj-> ∀sp,L[off+j]? =some sp->HI P ro cx cj sp)->(ev c off s).sat Q->Rel cx s a w->c.wpIn (fr ro) n P (C3 cx Q) a w
theorem iU{P:Program}{G:List (Nat×Spec)}{X:Ext}{cx:Cx}{L:List UI}(hG:VK P G)(hX:VW P X cx)(GQ:P.follows .mixedOrders=true):sO P cx L (D3 P G X L):=
 λro n c off s Q a w hL h r=>D6 hG hX GQ c off s Q a w hL h r
theorem gK{P:Program}{G:List (Nat×Spec)}{X:Ext}{cx:Cx}{L:List UI}{N:List (Pl×Nat×TypeId×Nat)}{s2:St}{rest:Code->Nat->St->CT}(hG:VK P G)(hX:VW P X cx)(GQ:P.follows .mixedOrders=true)(NS:sO P cx L rest)(hok:okB s2=true): ∀k,sO P cx L (Qb9 P G X L N s2 rest k)
 | 0=>λro n c off s Q a w hL h r=>by
  have h2:=VM.sat_needT h;exact NS ro n c off s2 Q a w hL h2.2 (FS (GC h2.1) hok (DD r))
 |k+1=>λro n c off s Q a w hL h r=>by
  unfold Qb9 at h;split at h
  ·rename_i x y;refine wpIn_seq ?_;have hx:=D6 hG hX GQ (ro:=ro) (n:=n) x off s _ a w (λj cj hj sp hsp=>hL j cj (by
    unfold VS;have hlt:j<GF x:=by
     rcases An j (GF x) with h'|h'
     ·exact h'
     ·exfalso;rw [LZ x j h'] at hj;cases hj
    have:Nat.blt j (GF x)=true:=by rw [Aw];exact hlt
    rw [this];exact hj) sp hsp) (VM.sat_bind h) r
   refine wpIn_mono hx ?_;rintro e a' w' ⟨ex,s',rfl,hq,Z⟩;cases ex with
   |normal=>
    simp only [G7.ex,Exit.then]
    refine gK hG hX GQ NS hok k ro n y (off+GF x) s' Q a' w' (λj cj hj sp hsp=>hL (GF x+j) cj ?_ sp (by rw [←Ba];exact hsp)) hq Z
    unfold VS;have:Nat.blt (GF x+j) (GF x)=false:=by rw [Bool.eq_false_iff,ne_eq,Aw];omega
    rw [this];simpa using hj
   |exit i=>exact ⟨.exit i,s',rfl,hq,Z⟩
   |ret=>exact ⟨.ret,s',rfl,hq,Z⟩
  ·exact h.elim
theorem OE{P:Program}{L:List UI}{f:FuncId}{fn:Func}{c:Code}{avs:List AV}{ev:Code->Nat->St->CT}(hf:P.funcs[f]? =some fn)(hb:fn.body=some c)
  {cx:Cx}{gh:Option Nat}{w:World}{T:Nat->Prop}{e:UK}{args:List Value}(hev:sO P cx L ev)(hK: ∀b o,¬cx.K b o)(hsv:cx.saved=[])(Qm6:cx.sz=0)(hM: ∀g T w0 D,cx.Φ g T w0->cx.M D->w0.heap.size<=D)(hΦ:cx.Φ gh T w)
  (hT: ∀b,T b->b<w.heap.size/\ ¬e.ro b)(hro: ∀b,e.ro b->b<w.heap.size)(hgl:DF e w)(FM: ∀a∈avs,Idf a)(Z:U2 e w avs args)
  (hL: ∀j cj,VS c j=some cj-> ∀sp,L[j]? =some sp->HI P none cx cj sp){E:G7×St->Prop}(h:(ev c 0 {HM fn avs with gh:=gh}).sat E){R:Ending->World->Prop}
  (fin: ∀x s w0 T' e' tmps w',E (x,s)->cx.Φ s.gh T' w0->UY e' w0.heap.size w'->Below w0.heap.size w0 w'->UU e' s.m w'->(∀b,T' b-> ¬e'.ro b)->U2 e' w' s.σ tmps.toList-> ∃v,(results fn tmps).run P w'= .ok v w'/\R (.returned v) w')
  (hex: ∀x s,E (x,s)-> ∀i,x≠ .exit i):Calls P f args.toArray w R:=by
 let e0:UK:={ro:=e.ro,own:=λ_=>none,live:=λ_=>False,blk:=λ_=>0,val:=λ_=> .nilIface}
 have hr0:U2 e0 w avs args:=⟨Z.1,λi a v ha hv=>Rep.idf (e:=e) (e':=e0) (λ_ h=>h) (Z.2 i a v ha hv) (FM a (F0 ha))⟩
 have yA:Rel cx {HM fn avs with gh:=gh} {tmps:=args.toArray++Array.replicate (fn.ntmps-args.toArray.size) undef,defers:=[] } w:=by
  refine ⟨w,T,e0,hΦ,⟨λb hb=>⟨rfl,hro b hb⟩,(λb k hk=>by cases hk),hgl⟩,Below.refl _ _,(λp A=>by cases A),(λk hk=>False.elim hk),hT,⟨⟨(λd hd=>by cases hd),List.nodup_nil⟩,(λb o h=>(hK b o h).elim),⟨by rw [hsv];rfl,(λi a v h=>by cases h)⟩,by rw [Qm6];exact Ao _⟩,?_⟩
  have EJ:U2 e0 w (List.replicate (fn.ntmps-avs.length) .top) (List.replicate (fn.ntmps-avs.length) undef):=by
   refine ⟨VV,λi a v ha _=>?_⟩
   have:=F0 ha;rw [List.mem_replicate] at this;rw [this.2];exact .top v
  have:=hr0.append EJ;simpa [HM,Z.1] using this
 refine callsIn_wide (n:=0).1 (callsIn_of_wp_marks (F:=fr none) hf hb trivial (wpIn_mono (hev none 0 c 0 _ _ _ w (λj cj hj sp hsp=>hL j cj hj sp (by simpa using hsp)) h yA) ?_) rfl)
 rintro ex a' w' ⟨x,s',rfl,hE,w0,T',e',hΦ',re⟩;have hx:=hex x s' hE;have yC:LeavesInM (fr none) 0 P fn a'.tmps R a'.defers .returning w':=
  zC (M:=cx.M) (s:=s') (λD hD=>hM _ _ _ D hΦ' hD) (λw2 q1 q2 q3 q4=>fin x s' w0 T' e' a'.tmps w2 hE hΦ' q1 q2 q3 (λb hb=>(re.foe b hb).2) q4) a'.defers w' re.xt.defers re.env re.below re.mem re.slots
 cases x with
 |normal=>exact yC
 |ret=>exact yC
 |exit i=>exact (hx i rfl).elim
theorem fH{P:Program}{G:List (Nat×Spec)}{X:Ext}{L:List UI}{f:FuncId}{fn:Func}{c:Code}{avs:List AV}{res:AV}{t:VM RV}(k:Nat)(N:List (Pl×Nat×TypeId×Nat))(s2:St)(hG:VK P G)(hX: ∀cx,VW P X cx)(GQ:P.follows .mixedOrders=true)(hf:P.funcs[f]? =some fn)(hb:fn.body=some c)
  (hL: ∀j cj,VS c j=some cj-> ∀sp,L[j]? =some sp->HP P cj sp)(hok:okB s2=true)(ht:pB P fn.results.toList (Qb9 P G X L N s2 (D3 P G X L) k c 0 (HM fn avs))=t)(h:t.sat (λr=>G4 r res)):VX P f avs res:=by
 subst ht;intro e w args hro hgl FM Z;refine OE hf hb (cx:=iR w (λ_=>False)) (gh:=none) (T:=λ_=>False) (e:=e) (gK hG (hX _) GQ (iU hG (hX _) GQ) hok k) (λ_ _ h=>h) rfl rfl (by rintro g T w0 D ⟨rfl,_⟩ h;exact h) ⟨rfl,rfl⟩ (λb h=>h.elim) hro hgl FM Z (λj cj hj sp hsp=>hL j cj hj sp hsp _ (xI _ _)) (xF h) ?_ ?_
 ·rintro x s w0 T' e' tmps w' ⟨hx,r,DY,jV⟩ ⟨rfl,_⟩ q1 q2 q3 _ q4;obtain ⟨u,hu,GI⟩:=DJ (P:=P) q3 q4 DY;exact ⟨u,hu,u,rfl,q2,jV.rep q1 rfl q3 GI⟩
 ·rintro x s ⟨hx,_⟩ i rfl;exact hx
theorem SC{P:Program}{L:List UI}{f:FuncId}{fn:Func}{c:Code}{avs:List AV}{res:AV}{t:VM RV}{ev:Code->Nat->St->CT}(hf:P.funcs[f]? =some fn)(hb:fn.body=some c)(hev: ∀cx,sO P cx L ev)
  (hL: ∀j cj,VS c j=some cj-> ∀sp,L[j]? =some sp->HP P cj sp)(ht:pB P fn.results.toList (ev c 0 (HM fn avs))=t)(h:t.sat (λr=>G4 r res)):VX P f avs res:=by
 subst ht;intro e w args hro hgl FM Z;refine OE hf hb (cx:=iR w (λ_=>False)) (gh:=none) (T:=λ_=>False) (e:=e) (hev _) (λ_ _ h=>h) rfl rfl (by rintro g T w0 D ⟨rfl,_⟩ h;exact h) ⟨rfl,rfl⟩ (λb h=>h.elim) hro hgl FM Z (λj cj hj sp hsp=>hL j cj hj sp hsp _ (xI _ _)) (xF h) ?_ ?_
 ·rintro x s w0 T' e' tmps w' ⟨hx,r,DY,jV⟩ ⟨rfl,_⟩ q1 q2 q3 _ q4;obtain ⟨u,hu,GI⟩:=DJ (P:=P) q3 q4 DY;exact ⟨u,hu,u,rfl,q2,jV.rep q1 rfl q3 GI⟩
 ·rintro x s ⟨hx,_⟩ i rfl;exact hx
def Qc0(P:Program)(G:List (Nat×Spec))(X:Ext)(L:List UI):Code->Nat->St->CT
 | .region id ops draw,off,s=>match draw with
  |true=>(pU P G X ops.toList ops.size (Array.replicate ops.size false) s).bind λs=> .leaf (.normal,s)
  |false=>D3 P G X L (.region id ops false) off s
 | .seq a b,off,s=>(Qc0 P G X L a off s).bind λp=>match p.1 with
  | .normal=>Qc0 P G X L b (off+GF a) p.2
  |x=> .leaf (x,p.2)
 |c,off,s=>D3 P G X L c off s
theorem Wq6{P:Program}{G:List (Nat×Spec)}{X:Ext}{cx:Cx}{L:List UI}(hG:VK P G)(hX:VW P X cx)(GQ:P.follows .mixedOrders=true):sO P cx L (Qc0 P G X L):=by
 intro ro n c
 induction c with
 |region id ops draw=>
  intro off s Q a w hL h r;cases draw with
  |false=>exact D6 hG hX GQ _ off s Q a w hL h r
  |true=>
   obtain ⟨w0,T,e,hΦ,r⟩:=r;refine wpIn_region_any GQ ?_;exact zQ hG hX (λs' a' w' hs Z=>⟨.normal,s',rfl,hs,Z⟩) ops.size _ s a _ (VM.sat_bind h) ⟨w0,T,e,hΦ,r.drew⟩
 |seq x y ihx ihy=>
  intro off s Q a w hL h r;refine wpIn_seq ?_;have hx:=ihx off s _ a w (λj cj hj sp hsp=>hL j cj (by
    unfold VS;have hlt:j<GF x:=by
     rcases An j (GF x) with h'|h'
     ·exact h'
     ·exfalso;rw [LZ x j h'] at hj;cases hj
    have:Nat.blt j (GF x)=true:=by rw [Aw];exact hlt
    rw [this];exact hj) sp hsp) (VM.sat_bind h) r
  refine wpIn_mono hx ?_;rintro e a' w' ⟨ex,s',rfl,hq,Z⟩;cases ex with
  |normal=>
   simp only [G7.ex,Exit.then]
   refine ihy (off+GF x) s' Q a' w' (λj cj hj sp hsp=>hL (GF x+j) cj ?_ sp (by rw [←Ba];exact hsp)) hq Z
   unfold VS;have:Nat.blt (GF x+j) (GF x)=false:=by rw [Bool.eq_false_iff,ne_eq,Aw];omega
   rw [this];simpa using hj
  |exit i=>exact ⟨.exit i,s',rfl,hq,Z⟩
  |ret=>exact ⟨.ret,s',rfl,hq,Z⟩
 |_=>
  intro off s Q a w hL h r;exact D6 hG hX GQ _ off s Q a w hL h r
def dG(P:Program)(G:List (Nat×Spec))(X:Ext)(L:List UI)(fn:Func)(c:Code):HX:=λavs m nx sv=>
 some ((D3 P G X L c 0 {HM fn avs with m:=m,nx:=nx,sv:=sv}).bind λp=>match p.1 with
  | .exit _=> .fail
  |_=>match BK P p.2 fn.results.toList with
   |some r=> .leaf (r,p.2.m,p.2.nx,p.2.sv)
   |none=> .fail)
theorem FW{P:Program}{G:List (Nat×Spec)}{X:Ext}{L:List UI}{f:FuncId}{fn:Func}{c:Code}(hG:VK P G)(hX: ∀cx,VW P X cx)(GQ:P.follows .mixedOrders=true)(PA:Enters P f)(hf:P.funcs[f]? =some fn)(hb:fn.body=some c)
  (hL: ∀j cj,VS c j=some cj-> ∀sp,L[j]? =some sp->G8 P cj sp):GB P f (dG P G X L fn c):=by
 refine ⟨PA,?_⟩;intro avs m nx sv t ht Q hQ cx w0 T e ds args w hE hB hm hl LN hxt Z;unfold dG at ht;cases ht
 let K':Nat->Obj->Prop:=λb o=>cx.K b o\/(∃d∈ds,d={target:= .collected b,args:=#[] }/\o= .deferred (some []))
 let cx':Cx:={M:=λ_=>False,Φ:=λg T' w'=>g=none/\T'=T/\w'=w0,K:=K',saved:=cx.saved,sz:=cx.sz}
 have FH:(D3 P G X L c 0 {HM fn avs with m:=m,nx:=nx,sv:=sv}).sat (λp=>(∀i,p.1≠ .exit i)/\p.2.gh=p.2.gh/\ ∃r,BK P p.2 fn.results.toList=some r/\Q (r,p.2.m,p.2.nx,p.2.sv)):=by
  refine VM.sat_mono ?_ (VM.sat_bind hQ);rintro ⟨x,s⟩ hs;cases x with
  |exit i=>exact hs.elim
  |normal=>
   simp only at hs;split at hs
   ·rename_i r Z;exact ⟨λi h=>(by cases h),rfl,r,Z,hs⟩
   ·exact hs.elim
  |ret=>
   simp only at hs;split at hs
   ·rename_i r Z;exact ⟨λi h=>(by cases h),rfl,r,Z,hs⟩
   ·exact hs.elim
 have yA:Rel cx' {HM fn avs with m:=m,nx:=nx,sv:=sv} {tmps:=args.toArray++Array.replicate (fn.ntmps-args.toArray.size) undef,defers:=[] } w:=by
  refine ⟨w0,T,e,⟨rfl,rfl,rfl⟩,hE,hB,hm,hl,LN,⟨⟨(λd hd=>by cases hd),List.nodup_nil⟩,?_,hxt.saved,hxt.size⟩,?_⟩
  ·rintro b o (hk|⟨d,hd,h1,rfl⟩)
   ·exact hxt.kept b o hk
   ·obtain ⟨D,g1,g2,g3,g4,g5⟩:=hxt.defers.1 d hd;rw [h1] at g1;injection g1 with g1 _
    injection g1 with g1
    subst g1;exact ⟨g2,g3,g4⟩
  ·have EJ:U2 e w (List.replicate (fn.ntmps-avs.length) .top) (List.replicate (fn.ntmps-avs.length) undef):=by
    refine ⟨VV,λi a v ha _=>?_⟩
    have:=F0 ha;rw [List.mem_replicate] at this;rw [this.2];exact .top v
   have:=Z.append EJ;simpa [HM,Z.1] using this
 refine callsIn_wide (n:=0).1 (callsIn_of_wp_marks (F:=fr none) hf hb trivial (wpIn_mono (D6 hG (hX cx') GQ c 0 _ _ _ w (λj cj hj sp hsp=>hL j cj hj sp (by simpa using hsp) none cx') FH yA) ?_) rfl)
 rintro ex a' w' ⟨x,s',rfl,⟨hx,_,r,DY,hq⟩,w0',T',e',⟨_,rfl,rfl⟩,re⟩;have Qn2:a'.defers=[]:=by
  cases hd:a'.defers with
  |nil=>rfl
  |cons d l=>
   obtain ⟨D,_,_,_,_,g5⟩:=re.xt.defers.1 d (by rw [hd];exact GG)
   exact g5.elim
 obtain ⟨u,hu,GI⟩:=DJ (P:=P) re.mem re.slots DY;have yC:LeavesInM (fr none) 0 P fn a'.tmps (λen w'=> ∃v r m' nx' sv' e',en= .returned v/\Q (r,m',nx',sv')/\UY e' w0'.heap.size w'/\Below w0'.heap.size w0' w'/\UU e' m' w'/\(∀k,e'.live k->k<nx')/\
   (∀b,T' b->b<w0'.heap.size/\ ¬e'.ro b)/\Xt cx e' sv' ds w'/\Rep e' w' r v) a'.defers .returning w':=by
  rw [Qn2];refine ⟨u,hu,u,r,s'.m,s'.nx,s'.sv,e',rfl,hq,re.env,re.below,re.mem,re.live,re.foe,⟨⟨λd hd=>?_,hxt.defers.2⟩,λb o hk=>re.xt.kept b o (.inl hk),re.xt.saved,re.xt.size⟩,GI⟩
  obtain ⟨D,g1,g2,g3,g4,g5⟩:=hxt.defers.1 d hd;obtain ⟨k1,k2,k3⟩:=re.xt.kept D (.deferred (some [])) (.inr ⟨d,hd,g1,rfl⟩);exact ⟨D,g1,k1,k2,k3,g5⟩
 cases x with
 |normal=>exact yC
 |ret=>exact yC
 |exit i=>exact (hx i rfl).elim
def B4(t:Nat)(F:Nat->UI):UI:=λs=>match s.σ.getD t .top with
 | .x (.int _ n)=>F n.toNat s
 |_=>none
theorem L2{P:Program}{c:Code}{t:Nat}{F:Nat->UI}(h: ∀k,G8 P c (F k)):G8 P c (B4 t F):=by
 intro ro cx n s tr ht Q hQ a w r;unfold B4 at ht;split at ht
 ·exact h _ ro cx n s tr ht Q hQ a w r
 ·cases ht
theorem UV{P:Program}{G:List (Nat×Spec)}{E:Ext}{L:List UI}(N:List (Pl×Nat×TypeId×Nat))(hG:VK P G)(hX: ∀cx,VW P E cx)(GQ:P.follows .mixedOrders=true){body:Code}(hL: ∀j cj,VS body j=some cj-> ∀sp,L[j]? =some sp->G8 P cj sp)
  {X:Type}(inv:X->St)(I:X->Prop)(μ:X->Nat)(out:X->G7->Option St){t:CT}{x0:X}(h0:I x0)
  (hok: ∀x,okB (inv x)=true)(qM: ∀x y E,out x y=some E->okB E=true)
  (round: ∀(Q:G7×St->Prop),t.sat Q-> ∀x,I x-> ∃x',(HV P G E L N body (inv x) (inv x') (out x)).sat (λy=>match y with
   | .normal=>I x'/\μ x'<μ x
   |y=> ∀E,out x y=some E->Q (y,E))):G8 P (.loop body) (GK N (HG (inv x0) t)):=
 λro cx=>FJ N hG (hX cx) GQ (λj cj hj sp hsp=>hL j cj hj sp hsp ro cx) inv I μ out h0 hok qM round
theorem VN.inl{P:Program}{f:Nat}{h:HX}{H:List (Nat×HX)}(h1:GB P f h)(k:VN P H):VN P ((f,h)::H):=VN.cons h1 k
inductive Ww8 where
 |ret (a:AV)
 |pan (v:Value)
abbrev DW:=List AV->GZ->Nat->List (List AV)->Option (VM (Ww8×GZ×Nat×List (List AV)))
def Xt3(e:UK)(w:World):Ww8->Ending->Prop
 | .ret a,en=> ∃v,en= .returned v/\Rep e w a v
 | .pan u,en=>en= .panicked [{v:=u,recovered:=false}]
def D4(P:Program)(f:FuncId)(h:DW):Prop:=Enters P f/\ ∀avs m nx sv t,h avs m nx sv=some t-> ∀Q,t.sat Q-> ∀(c:Cx) (w0:World) (T:Nat->Prop) (e:UK) (ds:List Deferred) (args:List Value) (w:World),
 UY e w0.heap.size w->Below w0.heap.size w0 w->UU e m w->(∀k,e.live k->k<nx)->(∀b,T b->b<w0.heap.size/\ ¬e.ro b)->Xt c e sv ds w->U2 e w avs args->
  Calls P f args.toArray w λen w'=> ∃r m' nx' sv' e',Xt3 e' w' r en/\Q (r,m',nx',sv')/\UY e' w0.heap.size w'/\Below w0.heap.size w0 w'/\UU e' m' w'/\(∀k,e'.live k->k<nx')/\
   (∀b,T b->b<w0.heap.size/\ ¬e'.ro b)/\Xt c e' sv' ds w'
def US(P:Program)(PX:List (Nat×DW)):Prop:= ∀p∈PX,D4 P p.1 p.2
theorem US.nil(P:Program):US P []:=λ_ h=>by cases h
theorem US.cons{P:Program}{f:Nat}{h:DW}{H:List (Nat×DW)}(h1:D4 P f h)(k:US P H):US P ((f,h)::H):=by
 intro p A;rcases GM.1 A with rfl|A
 ·exact h1
 ·exact k p A
def Qo7:List (Nat×DW)->Nat->Option DW
 |[],_=>none
 |(k,s)::t,f=>match Nat.beq k f with
  |true=>some s
  |false=>Qo7 t f
theorem Wn5{G:List (Nat×DW)}{f:Nat}{s:DW}(h:Qo7 G f=some s):(f,s)∈G:=by
 induction G with
 |nil=>simp [Qo7] at h
 |cons p t ih=>
  obtain ⟨k,r'⟩:=p;unfold Qo7 at h;split at h
  ·rename_i hk;have:k=f:=GX hk;subst this;cases h;exact GG
  ·exact HO _ (ih h)
inductive PEx where
 |x (e:G7)
 |pan (v:Value)
def PEx.ex:PEx->Exit
 | .x e=>e.ex
 | .pan v=> .panic [{v,recovered:=false}]
abbrev PT:=VM (PEx×St)
def C2(cx:Cx)(Q:PEx×St->Prop):Exit->Act->World->Prop:=λe a w=> ∃x s,e=PEx.ex x/\Q (x,s)/\Rel cx s a w
abbrev PH:=St->Option PT
def LW(P:Program)(ro:Option Nat)(cx:Cx)(c:Code)(sp:PH):Prop:= ∀(n:Nat) (s:St) (t:PT),sp s=some t-> ∀Q:PEx×St->Prop,t.sat Q-> ∀(a:Act) (w:World),Rel cx s a w->c.wpIn (fr ro) n P (C2 cx Q) a w
def Ji5(dst:Option Nat)(s:St)(p:Ww8×GZ×Nat×List (List AV)):PT:=match p.2.2.2 with
 |σ::sv=>match p.1 with
  | .ret a=> .leaf (.x .normal,{s with σ:=wR σ dst a,m:=p.2.1,nx:=p.2.2.1,sv:=sv})
  | .pan v=> .leaf (.pan v,{s with σ:=σ,m:=p.2.1,nx:=p.2.2.1,sv:=sv})
 |[]=> .fail
def E5(s:St):PT:= .leaf (.x .normal,s)
def We3(P:Program)(G:List (Nat×Spec))(X:Ext)(PX:List (Nat×DW))(ops:List Oper)(o:Oper)(s:St):PT:=
 match o.op with
 | .call c=>match c.callee with
  | .value f=>match rho s.σ f with
   | .fn (.func g) first caps=>match Qo7 PX g with
    |some h=>match o.guard with
     |none=>match h (first++c.args.toList.map (rho s.σ)++caps) s.m s.nx (s.σ::s.sv) with
      |some t=>t.bind (Ji5 o.dst s)
      |none=> .fail
     |some _=> .fail
    |none=>(xZ P G X ops o s).bind E5
   |_=>(xZ P G X ops o s).bind E5
  |_=>(xZ P G X ops o s).bind E5
 | .panic v=>match o.guard,rho s.σ v with
  |none,.x (.iface t u)=> .leaf (.pan (.iface t u),s)
  |_,_=> .fail
 |_=>(xZ P G X ops o s).bind E5
def Zz7(f:St->PT)(p:PEx×St):PT:=match p.1 with
 | .x .normal=>f p.2
 |x=> .leaf (x,p.2)
def cA(P:Program)(G:List (Nat×Spec))(X:Ext)(PX:List (Nat×DW))(ops:List Oper):List Oper->St->PT
 |[],s=>E5 s
 |o::rest,s=>(We3 P G X PX ops o s).bind (Zz7 (cA P G X PX ops rest))
section
variable (P:Program)(G:List (Nat×Spec))(X:Ext)
def Zz6(PX:List (Nat×DW))(ops:List Oper)(s:St):PT:=cA P G X PX ops ops s
def Jf4(PX:List (Nat×DW)):List Oper->Bool
 |[]=>false
 |o::os=>(match o.op with
  | .call c=>match c.callee with
   | .value (.func g)=>match Qo7 PX g with
    |some _=>true
    |none=>false
   |_=>false
  | .panic _=>true
  |_=>false)||Jf4 PX os
def Wa0(PX:List (Nat×DW))(ops:List Oper)(s:St):PT:=match Jf4 PX ops with
 |true=>Zf7 (cA P G X PX ops) P G X ops s
 |false=>(Xc7 P G X ops s).bind E5
end
def P1(P:Program)(G:List (Nat×Spec))(X:Ext)(PX:List (Nat×DW))(L:List PH):Code->Nat->St->PT
 | .skip,_,s=> .leaf (.x .normal,s)
 | .label _,_,s=> .leaf (.x .normal,s)
 | .region _ ops draw,_,s=>match draw with
  |true=>Wa0 P G X PX ops.toList s
  |false=>Zz6 P G X PX ops.toList s
 | .seq a b,off,s=>(P1 P G X PX L a off s).bind λp=>match p.1 with
  | .x .normal=>P1 P G X PX L b (off+GF a) p.2
  |x=> .leaf (x,p.2)
 | .cond c a b,off,s=>match rho s.σ c with
  | .lit true=>P1 P G X PX L a off s
  | .lit false=>P1 P G X PX L b (off+GF a) s
  | .x (.bool t)=> .branch t (P1 P G X PX L a off (iS s c true)) (P1 P G X PX L b (off+GF a) (iS s c false))
  |_=> .fail
 | .block id c,off,s=>(P1 P G X PX L c off s).bind λp=>match p.1 with
  | .x (.exit i)=>match Nat.beq i id with
   |true=> .leaf (.x .normal,p.2)
   |false=> .leaf (.x (.exit i),p.2)
  |x=> .leaf (x,p.2)
 | .scope c,off,s=>P1 P G X PX L c off s
 | .loop _,off,s=>match L[off]? with
  |some f=>match f s with
   |some t=>t
   |none=> .fail
  |none=> .fail
 | .rangeFunc _ _ _ _,off,s=>match L[off]? with
  |some f=>match f s with
   |some t=>t
   |none=> .fail
  |none=> .fail
 | .exit id,_,s=> .leaf (.x (.exit id),s)
 | .ret,_,s=> .leaf (.x .ret,s)
 | .goto _,_,_=> .fail
 | .refuse _,_,_=> .fail
section
variable {P:Program}{G:List (Nat×Spec)}{X:Ext}{PX:List (Nat×DW)}{cx:Cx}
theorem eA(hG:VK P G)(hX:VW P X cx)(hP:US P PX){ro:Option Nat}{n:Nat}{ops:Array Oper}{i:Nat}{o:Oper}(ho:ops[i]? =some o){s:St}{Q R:PEx×St->Prop}{K:Act->World->Prop}(hK: ∀s a w,R (.x .normal,s)->Rel cx s a w->K a w)(hV: ∀v s,R (.pan v,s)->Q (.pan v,s))(h:(We3 P G X PX ops.toList o s).sat R){a:Act}{w:World}(r:Rel cx s a w):
  wpOpIn (fr ro) n P ops (C2 cx Q) i K a w:=by
 have plain:((xZ P G X ops.toList o s).bind E5).sat R->wpOpIn (fr ro) n P ops (C2 cx Q) i K a w:=λh=>
  xY hG hX ho (VM.sat_bind h) r (λs' a' w' hs Z=>hK s' a' w' hs Z)
 unfold We3 at h;split at h
 ·rename_i c hop;split at h
  ·rename_i f gB;split at h
   ·rename_i g first caps hfe
    split at h
    ·rename_i hs hhs;split at h
     ·rename_i hg;split at h
      ·rename_i t ht;obtain ⟨w0,T,e,hΦ,r⟩:=r;obtain ⟨dst,op,type,pos,after,guard⟩:=o;simp only at hop hg;subst hop hg;obtain ⟨callee,args,argTypes⟩:=c;simp only at gB;subst gB;have ha:=U2.ops (FI r.slots) args.toList;have hf:=FI r.slots f;rw [hfe] at hf;obtain ⟨us,us',hv,r1,r2⟩:=hf.fn_inv;have HW:U2 e w (first++args.toList.map (rho s.σ)++caps) (us++args.toList.map a.eval++us'):=(r1.append ha).append r2
       obtain ⟨PA,EM⟩:=hP _ (Wn5 hhs);have FF:=EM _ _ _ _ _ ht _ (VM.sat_bind h) {cx with saved:=a.tmps.toList::cx.saved} w0 T e a.defers _ w r.env r.below r.mem r.live r.foe ⟨r.xt.defers,r.xt.kept,L6.cons r.slots r.xt.saved,r.xt.size⟩ HW
       unfold wpOpIn;simp only [ho];rw [if_pos (by simp [Region.wanted])]
       refine HJ (λc h=>by cases h) ?_
       unfold Oper.wp;have DM:(execOp a.eval ⟨dst,.call ⟨.value f,args,argTypes⟩,type,pos,after,none⟩).run P w= .ok (.enter g (us++args.toList.map a.eval++us').toArray) w:=by
        have e1:(us++args.toList.map a.eval++us').toArray=us.toArray++args.map a.eval++us'.toArray:=Array.ext' VV;simp only [execOp,resolve,hv,Deferred.ofValue,At,Sem.run_pure,Au,invoke];rw [e1];exact LA PA _ w
       rw [DM,Oper.upon_enter];refine FF.mono λen w' hq=>?_
       obtain ⟨rr,m',nx',sv',e',PI,hQ,hE',hB',hm',hl',hT',hx'⟩:=hq;obtain ⟨a1,l1,he1,hs1,hs2⟩:=hx'.saved.cons_inv;subst he1;cases rr with
       |ret av=>
        obtain ⟨v,rfl,GI⟩:=PI;exact hK _ _ _ hQ ⟨w0,T,e',hΦ,hE',hB',hm',hl',hT',by rw [put_defers];exact ⟨hx'.defers,hx'.kept,hs2,hx'.size⟩,BS hs1 dst GI⟩
       |pan u=>
        cases PI;exact ⟨.pan u,_,rfl,hV _ _ hQ,w0,T,e',hΦ,hE',hB',hm',hl',hT',⟨hx'.defers,hx'.kept,hs2,hx'.size⟩,hs1⟩
      ·exact h.elim
     ·exact h.elim
    ·exact plain h
   ·exact plain h
  ·exact plain h
 ·rename_i v hop;split at h
  ·rename_i t u hg hu;have r0:=r;obtain ⟨w0,T,e,hΦ,r⟩:=r;have hv:=FI r.slots v;rw [hu] at hv;have hv:=hv.x_inv;obtain ⟨dst,op,type,pos,after,guard⟩:=o;simp only at hop hg;subst hop hg;unfold wpOpIn;simp only [ho];rw [if_pos (by simp [Region.wanted])]
   refine HJ (λc h=>by cases h) ?_
   unfold Oper.wp;have DM:(execOp a.eval ⟨dst,.panic v,type,pos,after,none⟩).run P w= .halt (.panic (.iface t u)) w:=by
    simp [execOp,hv,Instr.panic,goPanic]
   rw [DM,Oper.upon_panic];exact ⟨.pan (.iface t u),s,rfl,hV _ _ h,r0⟩
  ·exact h.elim
 ·exact plain h
theorem jF(hG:VK P G)(hX:VW P X cx)(hP:US P PX){ro:Option Nat}{n:Nat}{ops:Array Oper}{Q:PEx×St->Prop}:
  ∀(l:List Oper) (k:Nat),l=ops.toList.drop k-> ∀(s:St) (a:Act) (w:World),(cA P G X PX ops.toList l s).sat Q->Rel cx s a w->wpOpsIn (fr ro) n P ops (C2 cx Q) (List.range' k (ops.size-k)) a w
 |[],k,hk,s,a,w,h,r=>by
  have hl:ops.size-k=0:=by
   have:=congrArg List.length hk;simp at this;omega
  rw [hl];exact ⟨.x .normal,s,rfl,h,r⟩
 |o::rest,k,hk,s,a,w,h,r=>by
  have hlt:k<ops.size:=by
   have:=congrArg List.length hk;simp at this;omega
  have hok:ops[k]? =some o:=by
   have:=congrArg (·[0]?) hk;simp at this;exact this.symm
  have NS:rest=ops.toList.drop (k+1):=by
   have:=congrArg List.tail hk;simpa using this
  have e1:ops.size-k=(ops.size-(k+1))+1:=VJ;rw [e1,List.range'_succ,wpOpsIn_cons];refine eA (Q:=Q) (R:=λp=>(Zz7 (cA P G X PX ops.toList rest) p).sat Q) hG hX hP hok ?_ (λv s' hs'=>hs') (VM.sat_bind h) r
  exact λs' a' w' hs' hr'=>jF hG hX hP rest (k+1) NS s' a' w' hs' hr'
theorem mW(hG:VK P G)(hX:VW P X cx)(hP:US P PX){ro:Option Nat}{n:Nat}{id:Nat}{ops:Array Oper}{s:St}{Q:PEx×St->Prop}(h:(Zz6 P G X PX ops.toList s).sat Q){a:Act}{w:World}(r:Rel cx s a w):
  (Code.region id ops false).wpIn (fr ro) n P (C2 cx Q) a w:=by
 refine wpIn_region ?_;rw [List.range_eq_range' (n:=ops.size)];have:=jF hG hX hP (ro:=ro) (n:=n) ops.toList 0 VV s a w h r;simpa using this
theorem cD(hG:VK P G)(hX:VW P X cx)(hP:US P PX)(GQ:P.follows .mixedOrders=true){ro:Option Nat}{n:Nat}{id:Nat}{ops:Array Oper}{s:St}{Q:PEx×St->Prop}(h:(Wa0 P G X PX ops.toList s).sat Q){a:Act}{w:World}(r:Rel cx s a w):
  (Code.region id ops true).wpIn (fr ro) n P (C2 cx Q) a w:=by
 unfold Wa0 at h;split at h
 ·exact wpIn_region_any GQ (cC hG hX GQ h r (λl k hl s a w h r=>jF hG hX hP l k hl s a w h r))
 ·exact AW hG hX GQ (VM.sat_bind h) r (λs' a' w' hs Z=>⟨.x .normal,s',rfl,hs,Z⟩)
theorem fZ(hG:VK P G)(hX:VW P X cx)(hP:US P PX)(GQ:P.follows .mixedOrders=true){L:List PH}{ro:Option Nat}{n:Nat}:
  ∀(c:Code) (off:Nat) (s:St) (Q:PEx×St->Prop) (a:Act) (w:World),(∀j cj,VS c j=some cj-> ∀sp,L[off+j]? =some sp->LW P ro cx cj sp)->(P1 P G X PX L c off s).sat Q->Rel cx s a w->c.wpIn (fr ro) n P (C2 cx Q) a w:=by
 intro c
 induction c with
 |skip=>intro off s Q a w _ h r;exact wpIn_skip ⟨.x .normal,s,rfl,h,r⟩
 |label l=>intro off s Q a w _ h r;exact wpIn_label ⟨.x .normal,s,rfl,h,r⟩
 |region id ops draw=>
  intro off s Q a w _ h r;unfold P1 at h;cases draw with
  |true=>exact cD hG hX hP GQ h r
  |false=>exact mW hG hX hP h r
 |seq x y ihx ihy=>
  intro off s Q a w hL h r;unfold P1 at h;refine wpIn_seq ?_;have hx:=ihx off s _ a w (λj cj hj sp hsp=>hL j cj (by
   unfold VS;have hlt:j<GF x:=by
    rcases An j (GF x) with h'|h'
    ·exact h'
    ·exfalso;rw [LZ x j h'] at hj;cases hj
   have:Nat.blt j (GF x)=true:=by rw [Aw];exact hlt
   rw [this];exact hj) sp hsp) (VM.sat_bind h) r
  refine wpIn_mono hx ?_;rintro e a' w' ⟨ex,s',rfl,hq,Z⟩;cases ex with
  |pan v=>exact ⟨.pan v,s',rfl,hq,Z⟩
  |x ex=>
  cases ex with
  |normal=>
   simp only [PEx.ex,G7.ex,Exit.then]
   refine ihy (off+GF x) s' Q a' w' (λj cj hj sp hsp=>hL (GF x+j) cj ?_ sp (by rw [←Ba];exact hsp)) hq Z
   unfold VS;have:Nat.blt (GF x+j) (GF x)=false:=by rw [Bool.eq_false_iff,ne_eq,Aw];omega
   rw [this];simpa using hj
  |exit i=>exact ⟨.x (.exit i),s',rfl,hq,Z⟩
  |ret=>exact ⟨.x .ret,s',rfl,hq,Z⟩
 |cond t x y ihx ihy=>
  intro off s Q a w hL h r;have hLx: ∀j cj,VS x j=some cj-> ∀sp,L[off+j]? =some sp->LW P ro cx cj sp:=by
   intro j cj hj sp hsp;refine hL j cj ?_ sp hsp;unfold VS;split
   ·exact hj
   ·rename_i hb;exfalso;have hge:GF x<=j:=by
     rw [Bool.eq_false_iff,ne_eq,Aw] at hb;omega
    rw [LZ x j hge] at hj;cases hj
  have hLy: ∀j cj,VS y j=some cj-> ∀sp,L[off+GF x+j]? =some sp->LW P ro cx cj sp:=by
   intro j cj hj sp hsp;refine hL (GF x+j) cj ?_ sp (by rw [←Ba];exact hsp)
   unfold VS;have:Nat.blt (GF x+j) (GF x)=false:=by rw [Bool.eq_false_iff,ne_eq,Aw];omega
   rw [this];simpa using hj
  unfold P1 at h;have r0:=r;obtain ⟨w0,T,e,hΦ,re⟩:=r;have hc:=FI re.slots t;split at h
  ·rename_i heq;rw [heq] at hc;exact wpIn_cond_true hc.lit_inv (ihx off s Q a w hLx h r0)
  ·rename_i heq;rw [heq] at hc;exact wpIn_cond_false hc.lit_inv (ihy _ s Q a w hLy h r0)
  ·rename_i b heq;rw [heq] at hc;cases b
   ·exact wpIn_cond_false hc.x_inv (ihy _ _ Q a w hLy (h.2 rfl) (gJ r0 heq rfl))
   ·exact wpIn_cond_true hc.x_inv (ihx _ _ Q a w hLx (h.1 rfl) (gJ r0 heq rfl))
  ·exact h.elim
 |block id c ih=>
  intro off s Q a w hL h r;unfold P1 at h;refine wpIn_block (wpIn_mono (ih off s _ a w hL (VM.sat_bind h) r) ?_);rintro e a' w' ⟨ex,s',rfl,hq,Z⟩;cases ex with
  |pan v=>exact ⟨.pan v,s',rfl,hq,Z⟩
  |x ex=>
  cases ex with
  |normal=>exact ⟨.x .normal,s',rfl,hq,Z⟩
  |ret=>exact ⟨.x .ret,s',rfl,hq,Z⟩
  |exit i=>
   simp only [PEx.ex,G7.ex,Exit.inBlock];simp only at hq;split at hq
   ·rename_i hb;rw [if_pos (GX hb)];exact ⟨.x .normal,s',rfl,hq,Z⟩
   ·rename_i hb;rw [if_neg (λhe=>by subst he;simp at hb)]
    exact ⟨.x (.exit i),s',rfl,hq,Z⟩
 |scope c ih=>
  intro off s Q a w hL h r;unfold P1 at h;refine A7 (wpIn_mono (ih off s Q a w hL h r) ?_);rintro e a' w' ⟨ex,s',rfl,hq,Z⟩;cases ex with
  |pan v=>exact ⟨.pan v,s',rfl,hq,Z⟩
  |x ex=>
  cases ex with
  |normal=>exact ⟨.x .normal,s',rfl,hq,Z⟩
  |ret=>exact ⟨.x .ret,s',rfl,hq,Z⟩
  |exit i=>exact ⟨.x (.exit i),s',rfl,hq,Z⟩
 |loop c ih=>
  intro off s Q a w hL h r;unfold P1 at h;split at h
  ·rename_i f hf;split at h
   ·rename_i t ht;exact hL 0 _ rfl f (by simpa using hf) n s t ht Q h a w r
   ·exact h.elim
  ·exact h.elim
 |rangeFunc f ps x y ihx ihy=>
  intro off s Q a w hL h r;unfold P1 at h;split at h
  ·rename_i f hf;split at h
   ·rename_i t ht;exact hL 0 _ rfl f (by simpa using hf) n s t ht Q h a w r
   ·exact h.elim
  ·exact h.elim
 |exit id=>intro off s Q a w _ h r;exact wpIn_exit ⟨.x (.exit id),s,rfl,h,r⟩
 |ret=>intro off s Q a w _ h r;exact wpIn_ret ⟨.x .ret,s,rfl,h,r⟩
 |goto l=>intro off s Q a w _ h r;exact h.elim
 |refuse y=>intro off s Q a w _ h r;exact h.elim
end
def rM(P:Program)(G:List (Nat×Spec))(X:Ext)(PX:List (Nat×DW))(L:List PH)(fn:Func)(c:Code):DW:=λavs m nx sv=>
 some ((P1 P G X PX L c 0 {HM fn avs with m:=m,nx:=nx,sv:=sv}).bind λp=>match p.1 with
  | .pan v=> .leaf (.pan v,p.2.m,p.2.nx,p.2.sv)
  | .x (.exit _)=> .fail
  |_=>match BK P p.2 fn.results.toList with
   |some r=> .leaf (.ret r,p.2.m,p.2.nx,p.2.sv)
   |none=> .fail)
theorem FP{P:Program}{G:List (Nat×Spec)}{X:Ext}{PX:List (Nat×DW)}{L:List PH}{f:FuncId}{fn:Func}{c:Code}(hG:VK P G)(hX: ∀cx,VW P X cx)(hP:US P PX)(GQ:P.follows .mixedOrders=true)(PA:Enters P f)(hf:P.funcs[f]? =some fn)(hb:fn.body=some c)
  (hL: ∀j cj,VS c j=some cj-> ∀sp,L[j]? =some sp-> ∀ro cx,LW P ro cx cj sp):D4 P f (rM P G X PX L fn c):=by
 refine ⟨PA,?_⟩;intro avs m nx sv t ht Q hQ cx w0 T e ds args w hE hB hm hl LN hxt Z;unfold rM at ht;cases ht
 let K':Nat->Obj->Prop:=λb o=>cx.K b o\/(∃d∈ds,d={target:= .collected b,args:=#[] }/\o= .deferred (some []))
 let cx':Cx:={M:=λ_=>False,Φ:=λg T' w'=>g=none/\T'=T/\w'=w0,K:=K',saved:=cx.saved,sz:=cx.sz}
 have FH:(P1 P G X PX L c 0 {HM fn avs with m:=m,nx:=nx,sv:=sv}).sat (λp=>match p.1 with
   | .pan v=>Q (.pan v,p.2.m,p.2.nx,p.2.sv)
   | .x (.exit _)=>False
   |_=> ∃r,BK P p.2 fn.results.toList=some r/\Q (.ret r,p.2.m,p.2.nx,p.2.sv)):=by
  refine VM.sat_mono ?_ (VM.sat_bind hQ);rintro ⟨x,s⟩ hs;cases x with
  |pan v=>exact hs
  |x x=>
  cases x with
  |exit i=>exact hs.elim
  |normal=>
   simp only at hs ⊢;split at hs
   ·rename_i r Z;exact ⟨r,Z,hs⟩
   ·exact hs.elim
  |ret=>
   simp only at hs ⊢;split at hs
   ·rename_i r Z;exact ⟨r,Z,hs⟩
   ·exact hs.elim
 have yA:Rel cx' {HM fn avs with m:=m,nx:=nx,sv:=sv} {tmps:=args.toArray++Array.replicate (fn.ntmps-args.toArray.size) undef,defers:=[] } w:=by
  refine ⟨w0,T,e,⟨rfl,rfl,rfl⟩,hE,hB,hm,hl,LN,⟨⟨(λd hd=>by cases hd),List.nodup_nil⟩,?_,hxt.saved,hxt.size⟩,?_⟩
  ·rintro b o (hk|⟨d,hd,h1,rfl⟩)
   ·exact hxt.kept b o hk
   ·obtain ⟨D,g1,g2,g3,g4,g5⟩:=hxt.defers.1 d hd;rw [h1] at g1;injection g1 with g1 _
    injection g1 with g1
    subst g1;exact ⟨g2,g3,g4⟩
  ·have EJ:U2 e w (List.replicate (fn.ntmps-avs.length) .top) (List.replicate (fn.ntmps-avs.length) undef):=by
    refine ⟨VV,λi a v ha _=>?_⟩
    have:=F0 ha;rw [List.mem_replicate] at this;rw [this.2];exact .top v
   have:=Z.append EJ;simpa [HM,Z.1] using this
 refine callsIn_wide (n:=0).1 (callsIn_of_wp_marks (F:=fr none) hf hb trivial (wpIn_mono (fZ hG (hX cx') hP GQ c 0 _ _ _ w (λj cj hj sp hsp=>hL j cj hj sp (by simpa using hsp) none cx') FH yA) ?_) rfl)
 rintro ex a' w' ⟨x,s',rfl,hq,w0',T',e',⟨_,rfl,rfl⟩,re⟩;have Qn2:a'.defers=[]:=by
  cases hd:a'.defers with
  |nil=>rfl
  |cons d l=>
   obtain ⟨D,_,_,_,_,g5⟩:=re.xt.defers.1 d (by rw [hd];exact GG)
   exact g5.elim
 have hxt':Xt cx e' s'.sv ds w':=by
  refine ⟨⟨λd hd=>?_,hxt.defers.2⟩,λb o hk=>re.xt.kept b o (.inl hk),re.xt.saved,re.xt.size⟩
  obtain ⟨D,g1,g2,g3,g4,g5⟩:=hxt.defers.1 d hd;obtain ⟨k1,k2,k3⟩:=re.xt.kept D (.deferred (some [])) (.inr ⟨d,hd,g1,rfl⟩);exact ⟨D,g1,k1,k2,k3,g5⟩
 have fin:(∃r,BK P s' fn.results.toList=some r/\Q (.ret r,s'.m,s'.nx,s'.sv))->LeavesInM (fr none) 0 P fn a'.tmps (λen w'=> ∃r m' nx' sv' e',Xt3 e' w' r en/\Q (r,m',nx',sv')/\UY e' w0'.heap.size w'/\Below w0'.heap.size w0' w'/\UU e' m' w'/\(∀k,e'.live k->k<nx')/\
   (∀b,T' b->b<w0'.heap.size/\ ¬e'.ro b)/\Xt cx e' sv' ds w') a'.defers .returning w':=by
  rintro ⟨r,DY,hq⟩;obtain ⟨u,hu,GI⟩:=DJ (P:=P) re.mem re.slots DY;rw [Qn2];exact ⟨u,hu,.ret r,s'.m,s'.nx,s'.sv,e',⟨u,rfl,GI⟩,hq,re.env,re.below,re.mem,re.live,re.foe,hxt'⟩
 cases x with
 |pan v=>
  show LeavesInM (fr none) 0 P fn a'.tmps _ a'.defers (.panicking [{v:=v,recovered:=false}]) w';rw [Qn2];exact ⟨.pan v,s'.m,s'.nx,s'.sv,e',rfl,hq,re.env,re.below,re.mem,re.live,re.foe,hxt'⟩
 |x x=>
 cases x with
 |normal=>exact fin hq
 |ret=>exact fin hq
 |exit i=>exact hq.elim
def Wp5(N:List (Pl×Nat×TypeId×Nat))(nxt:St)(out:PEx->Option St)(p:PEx×St):VM PEx:=match p.1 with
 | .x .normal=> .needT (B9 (FV N p.2) nxt) (.leaf (.x .normal))
 | .x (.exit id)=>match out (.x (.exit id)) with
  |some E=> .needT (B9 (FV N p.2) E) (.leaf (.x (.exit id)))
  |none=> .fail
 | .x .ret=>match out (.x .ret) with
  |some E=> .needT (B9 (FV N p.2) E) (.leaf (.x .ret))
  |none=> .fail
 | .pan v=>match out (.pan v) with
  |some E=> .needT (B9 (FV N p.2) E) (.leaf (.pan v))
  |none=> .fail
theorem Wp4{N:List (Pl×Nat×TypeId×Nat)}{t:PT}{nxt:St}{out:PEx->Option St}{R:PEx->Prop}(h:(t.bind (Wp5 N nxt out)).sat R):
  t.sat (λp=>match p.1 with
   | .x .normal=>R (.x .normal)/\UB (B9 (FV N p.2) nxt)
   |y=> ∃E,out y=some E/\R y/\UB (B9 (FV N p.2) E)):=by
 refine VM.sat_mono ?_ (VM.sat_bind h);rintro ⟨y,s'⟩ A;cases y with
 |pan v=>
  dsimp only [Wp5] at A ⊢
  split at A
  ·rename_i E hE;exact ⟨E,hE,(VM.sat_needT A).2,(VM.sat_needT A).1⟩
  ·exact A.elim
 |x y=>
 cases y with
 |normal=>exact ⟨(VM.sat_needT A).2,(VM.sat_needT A).1⟩
 |exit id=>
  dsimp only [Wp5] at A ⊢
  split at A
  ·rename_i E hE;exact ⟨E,hE,(VM.sat_needT A).2,(VM.sat_needT A).1⟩
  ·exact A.elim
 |ret=>
  dsimp only [Wp5] at A ⊢
  split at A
  ·rename_i E hE;exact ⟨E,hE,(VM.sat_needT A).2,(VM.sat_needT A).1⟩
  ·exact A.elim
def Zc0(E:St)(t:PT):PH:=λs=>some (.needT (B9 s E) t)
def T8(l:List (Pl×Nat×TypeId×Nat))(sp:PH):PH:=λs=>sp (FV l s)
def Zc7(P:Program)(G:List (Nat×Spec))(X:Ext)(PX:List (Nat×DW))(L:List PH)(N:List (Pl×Nat×TypeId×Nat))(body:Code)(s nxt:St)(out:PEx->Option St):VM PEx:=(P1 P G X PX L body 0 s).bind (Wp5 N nxt out)
theorem TD{P:Program}{G:List (Nat×Spec)}{X:Ext}{PX:List (Nat×DW)}{L:List PH}(N:List (Pl×Nat×TypeId×Nat))(hG:VK P G)(hX: ∀cx,VW P X cx)(hP:US P PX)(GQ:P.follows .mixedOrders=true){body:Code}(hL: ∀j cj,VS body j=some cj-> ∀sp,L[j]? =some sp-> ∀ro cx,LW P ro cx cj sp)
  {V:Type}(inv:V->St)(I:V->Prop)(μ:V->Nat)(out:V->PEx->Option St){t:PT}{x0:V}(h0:I x0)
  (hok: ∀x,okB (inv x)=true)(qM: ∀x y E,out x y=some E->okB E=true)
  (round: ∀(Q:PEx×St->Prop),t.sat Q-> ∀x,I x-> ∃x',(Zc7 P G X PX L N body (inv x) (inv x') (out x)).sat (λy=>match y with
   | .x .normal=>I x'/\μ x'<μ x
   |y=> ∀E,out x y=some E->Q (y,E))): ∀ro cx,LW P ro cx (.loop body) (T8 N (Zc0 (inv x0) t)):=by
 intro ro cx n s t' ht Q FH a w r;simp only [T8,Zc0,HD] at ht;subst ht
 replace FH:=VM.sat_needT FH
 have hQ:=FH.2;have r:=FS (GC FH.1) (hok x0) (DD r);refine TE μ (λx a w=>I x/\Rel cx (inv x) a w) ?_ ⟨h0,r⟩
 rintro x a w ⟨hx,Z⟩;obtain ⟨x',zF⟩:=round Q hQ x hx;refine wpIn_mono (fZ hG (hX cx) hP GQ body 0 (inv x) _ a w (λj cj hj sp hsp=>hL j cj hj sp (by simpa using hsp) ro cx) (Wp4 zF) Z) ?_
 rintro ex a₁ w₁ ⟨y,s',rfl,hq,hr'⟩;cases y with
 |pan v=>
  obtain ⟨E,hE,h1,h3⟩:=hq;exact ⟨.pan v,E,rfl,h1 E hE,FS (GC h3) (qM x _ E hE) (DD hr')⟩
 |x y=>
 cases y with
 |normal=>
  obtain ⟨⟨h1,h2⟩,h3⟩:=hq;exact ⟨x',h2,h1,FS (GC h3) (hok x') (DD hr')⟩
 |exit id=>
  obtain ⟨E,hE,h1,h3⟩:=hq;exact ⟨.x (.exit id),E,rfl,h1 E hE,FS (GC h3) (qM x _ E hE) (DD hr')⟩
 |ret=>
  obtain ⟨E,hE,h1,h3⟩:=hq;exact ⟨.x .ret,E,rfl,h1 E hE,FS (GC h3) (qM x _ E hE) (DD hr')⟩
theorem Step.app{e:UK}{id:Nat}(u:Value)(w:World)(hid: ¬e.live id):Step e (e.app id u) w w:=
 ⟨λb _ h=>⟨h,rfl⟩,λk hk=>⟨.inr hk,rfl,by
  have:k≠id:=λh=>hid (h▸hk)
  simp [UK.app,this]⟩,Am _⟩
def Wn0(sp:BF):HX:=λavs m nx sv=>match sp (avs.map (D8 m 40)) with
 |some (ns,T,sz,n,g)=>some (.needT ns (.leaf (.row nx,(nx,.row T sz n g)::m,nx+1,sv)))
 |none=>none
theorem AN{P:Program}{f:FuncId}{sp:BF}(h:Enters P f/\ ∀avs ns T sz n g,sp avs=some (ns,T,sz,n,g)->(∀q∈ns,q)->DL P f avs T sz n g):GB P f (Wn0 sp):=by
 refine ⟨h.1,?_⟩;intro avs m nx sv t ht Q hQ c w0 T e ds args w hE hB hm hl LN hxt Z;unfold Wn0 at ht;split at ht
 ·rename_i ns T' sz n g hsp;cases ht;obtain ⟨hns,hq⟩:=VM.sat_needT hQ;have uT:=U2.map (D8 m 40) (L7 hE hm 40) Z;have FF:=h.2 _ _ _ _ _ _ hsp (GC hns) e.view w _ (by
   rintro b (hb|⟨k,hb⟩)
   ·exact (hE.apart b hb).2
   ·exact (hE.owned b k hb).2) (hE.glob.step (Step.view w)) (DR (RJ hm 40) Z) uT
  refine FF.mono ?_;rintro en w' ⟨v,xs,rfl,hb,k1,k2,k3,k4⟩;obtain ⟨e',q1,q2,q3,q4,q5,q6,q7,q8⟩:=IC hE hB.size hm (λhlv=>Bf _ (hl _ hlv)) hb k1 k2 k3 k4
  refine ⟨v,_,_,_,_,e',rfl,hq,q3,hB.trans (hb.mono hB.size),q6,λk hk=>?_,λb hT=>⟨(LN b hT).1,λhro=>?_⟩,hxt.step q2,q5⟩
  ·rcases q7 k hk with hk|rfl
   ·exact Nat.lt_succ_of_lt (hl k hk)
   ·exact Bk _
  ·rcases q8 b hro with hro|hro
   ·exact (LN b hT).2 hro
   ·have:=(LN b hT).1;have:=hB.size;omega
 ·cases ht
theorem VM.bind_sat{α β:Type}{f:α->VM β}{Q:β->Prop}: ∀{t:VM α},t.sat (λa=>(f a).sat Q)->(t.bind f).sat Q
 | .fail,h=>h.elim
 | .leaf a,h=>h
 | .need ps t,h=>⟨h.1,VM.bind_sat h.2⟩
 | .branch b t t',h=>⟨λhb=>VM.bind_sat (h.1 hb),λhb=>VM.bind_sat (h.2 hb)⟩
 | .may p t t',h=>⟨λhb=>VM.bind_sat (h.1 hb),VM.bind_sat h.2⟩
def Qb4(N:List (Pl×Nat×TypeId×Nat))(ET EF:St)(x:AV×GZ×Nat×List (List AV)):VM Bool:=match x.1 with
 | .lit true=> .needT (B9 (FV N {σ:=[],m:=x.2.1,nx:=x.2.2.1,sv:=x.2.2.2}) ET) (.leaf true)
 | .lit false=> .needT (B9 (FV N {σ:=[],m:=x.2.1,nx:=x.2.2.1,sv:=x.2.2.2}) EF) (.leaf false)
 |_=> .fail
def inlT(P:Program)(G:List (Nat×Spec))(X:Ext)(L:List UI)(fn:Func)(c:Code)(avs:List AV)(m:GZ)(nx:Nat)(sv:List (List AV))(N:List (Pl×Nat×TypeId×Nat))(ET EF:St):VM Bool:=
 (D3 P G X L c 0 {HM fn avs with m:=m,nx:=nx,sv:=sv}).bind λp=>match p.1 with
  | .exit _=> .fail
  |_=>match BK P p.2 fn.results.toList with
   |some r=>Qb4 N ET EF (r,p.2.m,p.2.nx,p.2.sv)
   |none=> .fail
theorem yM{P:Program}{fn:Func}{R:Ending->World->Prop}{M:Nat->Prop}{w0:World}{e:UK}{s:St}{tmps:Array Value}{n:Nat}{J:World->Prop}(hB: ∀D,M D->w0.heap.size<=D)
  (hJ: ∀w D,M D->w.heap[D]? =some (.deferred (some []))->J w->J (w.putObj D (.deferred none)))
  (fin: ∀w',UY e w0.heap.size w'->Below w0.heap.size w0 w'->UU e s.m w'->U2 e w' s.σ tmps.toList->J w'-> ∃v,(results fn tmps).run P w'= .ok v w'/\R (.returned v) w'):
  ∀(ds:List Deferred) (w:World),S5 M e w ds->UY e w0.heap.size w->Below w0.heap.size w0 w->UU e s.m w->U2 e w s.σ tmps.toList->J w->LeavesInM (fr none) n P fn tmps R ds .returning w
 |[],w,_,hE,hb,hm,hs,hj=>fin w hE hb hm hs hj
 |d::ds,w,hd,hE,hb,hm,hs,hj=>by
  obtain ⟨D,h1,h2,h3,h4,h5⟩:=hd.1 d GG;refine ⟨VV,.inl ⟨D,_,by rw [h1],run_takeDeferred h4,?_⟩⟩
  have H5:=(hE.apart D h2).1;have hsz:(w.putObj D (.deferred none)).heap.size=w.heap.size:=World.putObj_size;refine yM hB hJ fin ds _ ⟨λd' hd'=>?_,(List.nodup_cons.1 hd.2).2⟩ ⟨λb hb=>by rw [hsz];exact hE.apart b hb,λb k hk=>by rw [hsz];exact hE.owned b k hk,TO hE.glob h4 rfl⟩ ?_ (λp A=>(hm p A).putObj h4 (λ_ _ h=>by cases h) rfl rfl H5) (hs.sameCells hsz (B5 h4 rfl rfl) (qE h4 (λ_ _ h=>by cases h))) (hJ _ _ h5 h4 hj)
  ·obtain ⟨D',k1,k2,k3,k4,k5⟩:=hd.1 d' (HO _ hd');have hne:D'≠D:=by
    rintro rfl;exact (List.nodup_cons.1 hd.2).1 (by rw [h1,←k1];exact hd')
   exact ⟨D',k1,k2,by rw [hsz];exact k3,(World.putObj_heap_other hne).trans k4,k5⟩
  ·exact hb.trans ((Below.refl w0.heap.size w).grown (grownBy_putObj' w D _) (by have:=hb.size;have:=hB D h5;omega) (λk he=>by cases he;exact hB D h5))
def Wy4(P:Program)(f:FuncId)(avs:List AV)(m:GZ)(nx:Nat)(sv:List (List AV))(ET EF:St)(b:Bool):Prop:=
 ∀(c:Cx) (w0:World) (T:Nat->Prop) (e:UK) (args:List Value) (w:World),
 UY e w0.heap.size w->Below w0.heap.size w0 w->UU e m w->(∀k,e.live k->k<nx)->(∀b,T b->b<w0.heap.size/\ ¬e.ro b)->Xt c e sv [] w->c.sz=w.heap.size->U2 e w avs args->
  Calls P f args.toArray w λen w'=>en= .returned (.bool b)/\ ∃e',UY e' w0.heap.size w'/\Below w0.heap.size w0 w'/\UU e' (cond b ET EF).m w'/\(∀k,e'.live k->k<(cond b ET EF).nx)/\
   (∀b,T b->b<w0.heap.size/\ ¬e'.ro b)/\Xt c e' (cond b ET EF).sv [] w'
theorem Qm2{P:Program}{G:List (Nat×Spec)}{X:Ext}{L:List UI}{f:FuncId}{fn:Func}{c:Code}(hG:VK P G)(hX: ∀cx,VW P X cx)(GQ:P.follows .mixedOrders=true)(hf:P.funcs[f]? =some fn)(hb:fn.body=some c)
  (hL: ∀j cj,VS c j=some cj-> ∀sp,L[j]? =some sp->HP P cj sp){avs:List AV}{m:GZ}{nx:Nat}{sv:List (List AV)}{N:List (Pl×Nat×TypeId×Nat)}{ET EF:St}{b:Bool}{t:VM Bool}
  (hT:okB ET=true)(hF:okB EF=true)(gT:ET.gh=none)(gF:EF.gh=none)(ht:inlT P G X L fn c avs m nx sv N ET EF=t)(FH:t.sat λr=>r=b):Wy4 P f avs m nx sv ET EF b:=by
 subst ht;intro cx w0 T e args w hE hB hm hl LN hxt hsz Z
 let cx':Cx:={M:=λD=>w.heap.size<=D,Φ:=λg T' w'=>g=none/\T'=T/\w'=w0,K:=cx.K,saved:=cx.saved,sz:=w.heap.size}
 have Zl1:cx'.fun:=λ_ _ _ D _ _ h=>h
 have yA:Rel cx' {HM fn avs with m:=m,nx:=nx,sv:=sv} {tmps:=args.toArray++Array.replicate (fn.ntmps-args.toArray.size) undef,defers:=[] } w:=by
  refine ⟨w0,T,e,⟨rfl,rfl,rfl⟩,hE,hB,hm,hl,LN,⟨⟨(λd hd=>by cases hd),List.nodup_nil⟩,hxt.kept,hxt.saved,Am _⟩,?_⟩
  have EJ:U2 e w (List.replicate (fn.ntmps-avs.length) .top) (List.replicate (fn.ntmps-avs.length) undef):=by
   refine ⟨VV,λi a v ha _=>?_⟩
   have:=F0 ha;rw [List.mem_replicate] at this;rw [this.2];exact .top v
  have:=Z.append EJ;simpa [HM,Z.1] using this
 have hb2:=VM.sat_bind FH;refine callsIn_wide (n:=0).1 (callsIn_of_wp_marks (F:=fr none) hf hb trivial (wpIn_mono (D6 hG (hX cx') GQ c 0 _ _ _ w (λj cj hj sp hsp=>hL j cj hj sp (by simpa using hsp) cx' Zl1) hb2 yA) ?_) rfl)
 rintro ex a' w' ⟨x,s',rfl,hs,w0',T',e',⟨hgh',rfl,rfl⟩,re⟩
 let J:World->Prop:=λw2=>w.heap.size<=w2.heap.size/\Xt {cx' with sz:=0} e' s'.sv [] w2
 have hJ: ∀w2 D,w.heap.size<=D->w2.heap[D]? =some (.deferred (some []))->J w2->J (w2.putObj D (.deferred none)):=by
  rintro w2 D hD h4 ⟨j0,j1,j2,j3,j4⟩;have rO:(w2.putObj D (.deferred none)).heap.size=w2.heap.size:=World.putObj_size;refine ⟨by rw [rO];exact j0,⟨⟨λd hd=>(by cases hd),List.nodup_nil⟩,λb o hk=>?_,⟨j3.1,λi a v ha hv=>(j3.2 i a v ha hv).sameCells rO (B5 h4 rfl rfl) (qE h4 (λ_ _ h=>by cases h))⟩,Ao _⟩⟩
  obtain ⟨k1,k2,k3⟩:=j2 b o hk;have hlt:=(hxt.kept b o hk).2.1;exact ⟨k1,by rw [rO];exact k2,(World.putObj_heap_other VJ).trans k3⟩
 have hJ0:J w':=⟨re.xt.size,⟨⟨λd hd=>(by cases hd),List.nodup_nil⟩,re.xt.kept,re.xt.saved,Ao _⟩⟩
 have main:(match x with| .exit _=>False|_=> ∃r,BK P s' fn.results.toList=some r/\(Qb4 N ET EF (r,s'.m,s'.nx,s'.sv)).sat λr=>r=b):=by
  cases x with
  |exit i=>exact hs.elim
  |normal=>
   simp only at hs ⊢;split at hs
   ·rename_i r hr';exact ⟨r,hr',hs⟩
   ·exact hs.elim
  |ret=>
   simp only at hs ⊢;split at hs
   ·rename_i r hr';exact ⟨r,hr',hs⟩
   ·exact hs.elim
 have yC:(∃r,BK P s' fn.results.toList=some r/\(Qb4 N ET EF (r,s'.m,s'.nx,s'.sv)).sat λr=>r=b)->LeavesInM (fr none) 0 P fn a'.tmps (λen w'=>en= .returned (.bool b)/\ ∃e',UY e' w0'.heap.size w'/\Below w0'.heap.size w0' w'/\UU e' (cond b ET EF).m w'/\(∀k,e'.live k->k<(cond b ET EF).nx)/\
   (∀b,T' b->b<w0'.heap.size/\ ¬e'.ro b)/\Xt cx e' (cond b ET EF).sv [] w') a'.defers .returning w':=by
  rintro ⟨r,DY,hq⟩;refine yM (M:=cx'.M) (s:=s') (J:=J) (λD hD=>Ar hB.size hD) hJ (λw2 q1 q2 q3 q4 q5=>?_) a'.defers w' re.xt.defers re.env re.below re.mem re.slots hJ0
  obtain ⟨u,hu,GI⟩:=DJ (P:=P) q3 q4 DY
  let c2:Cx:={M:=cx.M,Φ:=λg T'' w''=>g=none/\T''=T'/\w''=w0',K:=cx.K,saved:=cx.saved,sz:=cx.sz}
  have Je0:Rel c2 {σ:=[],m:=s'.m,nx:=s'.nx,sv:=s'.sv} {tmps:=#[],defers:=[] } w2:=
   ⟨w0',T',e',⟨rfl,rfl,rfl⟩,q1,q2,q3,re.live,re.foe,⟨⟨λd hd=>(by cases hd),List.nodup_nil⟩,q5.2.kept,q5.2.saved,by show cx.sz<=_;rw [hsz];exact q5.1⟩,U2.nil _ _⟩
  have hn:=DD (l:=N) Je0;have fin: ∀E:St,Rel c2 E {tmps:=#[],defers:=[] } w2-> ∃e',UY e' w0'.heap.size w2/\Below w0'.heap.size w0' w2/\UU e' E.m w2/\(∀k,e'.live k->k<E.nx)/\(∀b,T' b->b<w0'.heap.size/\ ¬e'.ro b)/\Xt cx e' E.sv [] w2:=by
   rintro E ⟨w0'',T'',e2,⟨_,rfl,rfl⟩,r⟩;exact ⟨e2,r.env,r.below,r.mem,r.live,r.foe,⟨r.xt.defers,r.xt.kept,r.xt.saved,r.xt.size⟩⟩
  refine ⟨u,hu,?_⟩;unfold Qb4 at hq;split at hq
  ·rename_i h1;simp only at h1;subst h1;obtain ⟨q1,q2⟩:=VM.sat_needT hq;have q2:true=b:=q2;subst q2;exact ⟨by rw [GI.lit_inv],fin ET (FS (GC q1) hT hn)⟩
  ·rename_i h1;simp only at h1;subst h1;obtain ⟨q1,q2⟩:=VM.sat_needT hq;have q2:false=b:=q2;subst q2;exact ⟨by rw [GI.lit_inv],fin EF (FS (GC q1) hF hn)⟩
  ·exact hq.elim
 cases x with
 |normal=>exact yC main
 |ret=>exact yC main
 |exit i=>exact main.elim
def Xq9(N:List (Pl×Nat×TypeId×Nat))(h:HX):HX:=λavs m nx sv=>
 h (FV N {σ:=avs,m:=m,nx:=nx,sv:=sv}).σ (FV N {σ:=avs,m:=m,nx:=nx,sv:=sv}).m (FV N {σ:=avs,m:=m,nx:=nx,sv:=sv}).nx (FV N {σ:=avs,m:=m,nx:=nx,sv:=sv}).sv
theorem cS{P:Program}{f:FuncId}{N:List (Pl×Nat×TypeId×Nat)}{h:HX}(hs:GB P f h):GB P f (Xq9 N h):=by
 refine ⟨hs.1,?_⟩;intro avs m nx sv t ht Q hQ c w0 T e ds args w hE hB hm hl LN hxt Z
 let c':Cx:={M:=c.M,Φ:=λg T' w'=>g=none/\T'=T/\w'=w0,K:=c.K,saved:=c.saved,sz:=c.sz}
 have yA:Rel c' {σ:=avs,m:=m,nx:=nx,sv:=sv} {tmps:=args.toArray,defers:=ds} w:=
  ⟨w0,T,e,⟨rfl,rfl,rfl⟩,hE,hB,hm,hl,LN,⟨hxt.defers,hxt.kept,hxt.saved,hxt.size⟩,by simpa using Z⟩
 obtain ⟨w0',T',e2,⟨_,rfl,rfl⟩,r⟩:=DD (l:=N) yA;exact hs.2 _ _ _ _ _ ht Q hQ c w0' T' e2 ds args w r.env r.below r.mem r.live r.foe ⟨r.xt.defers,r.xt.kept,r.xt.saved,r.xt.size⟩ (by simpa using r.slots)
def Zh0(D:TypeId):Value->Option Int
 | .iface T v=>match Nat.beq T D with
  |true=>match v with
   | .agg a=>match a.toList with
    |[.int .i64 k]=>some k
    |_=>none
   |_=>none
  |false=>none
 |_=>none
theorem Qk4{D:TypeId}{v:Value}{k:Int}(h:Zh0 D v=some k):v= .iface D (.agg #[.int .i64 k]):=by
 unfold Zh0 at h;split at h
 ·split at h
  ·rename_i hb;cases GX hb;split at h
   ·rename_i a;split at h
    ·rename_i k0 ha;cases h;have:a=#[Value.int .i64 k]:=Array.toList_inj.1 ha;rw [this]
    ·cases h
   ·cases h
  ·cases h
 ·cases h
def Xi4(D:TypeId)(r:Bool×Int):Ending:=match r.1 with
 |true=> .returned (.tuple #[])
 |false=> .panicked [{v:= .iface D (.agg #[.int .i64 r.2]),recovered:=false}]
def dD(a b:AV):Prop:=match a,b with
 | .lst sz n f,.lst sz' n' f'=>sz=sz'/\n=n'/\ ∀i,i<n'->qQ (f i) (f' i)/\ ∀x∈f' i,Idf x
 |a,b=>FE a b
def H9:List AV->List AV->Prop
 |[],[]=>True
 |a::l,b::m=>dD a b/\H9 l m
 |_,_=>False
theorem cY{e:UK}{w:World}{a b:AV}{v:Value}(h:dD a b)(r:Rep e w a v):Rep e w b v:=by
 unfold dD at h;split at h
 ·rename_i sz n f sz' n' f';obtain ⟨rfl,rfl,h⟩:=h;cases r with
  |lstNil=>exact .lstNil _ _
  |lst _ _ _ b o cap g h1 h2 h3 h4 h5 h6 h7 h8 ad had=>
   have key: ∀i,i<n->U2 e w (f' i) ((List.range sz).map (g i)):=by
    intro i O;refine kN (h i O).1 ⟨by rw [h7 i O];simp,λj a v ha hv=>?_⟩
    have hj:j<sz:=by
     have:=(FR.1 ha).1
     rwa [h7 i O] at this
    rw [Bn,List.getElem?_range hj] at hv;simp only [Bt,HD] at hv;rw [←hv];exact h8 i j a O ha
   refine .lst sz n f' b o cap g h1 h2 (λi O=>(h i O).2) h4 h5 h6 (λi O=>by have:=(key i O).1;simpa using this) (λi j a O ha=>?_) ad had
   have hj:j<sz:=by
    have h9:=(key i O).1;have:=(FR.1 ha).1;simp at h9;omega
   exact (key i O).2 j a (g i j) ha (by rw [Bn,List.getElem?_range hj];rfl)
 ·exact RY h r
theorem dC{e:UK}{w:World}: ∀{l m:List AV} {vs:List Value},H9 l m->U2 e w l vs->U2 e w m vs
 |[],[],_,_,r=>r
 |a::l,b::m,vs,h,r=>by
  obtain ⟨v,vs',rfl,r1,r2⟩:=r.cons_inv;exact .cons (cY h.1 r1) (dC h.2 r2)
 |[],_::_,_,h,_=>h.elim
 |_::_,[],_,h,_=>h.elim
def Qp1(m:GZ):GZ->List Prop
 |[]=>[]
 |(id,r)::t=>match r with
  | .cells T l=>match DE m id with
   |some (.cells T' l')=>match Nat.beq T' T with
    |true=>H9 l' l::Qp1 m t
    |false=>[False]
   |_=>[False]
  | .row T sz n f=>match DE m id with
   |some (.row T' sz' n' f')=>((T',sz',n',f')=(T,sz,n,f))::Qp1 m t
   |_=>[False]
  |_=>[False]
theorem TW{e:UK}{w:World}{m:GZ}(hm:UU e m w): ∀{m':GZ},(∀p∈Qp1 m m',p)->UU e m' w
 |[],_,p,A=>by cases A
 |(id,r)::t,h,p,A=>by
  unfold Qp1 at h;split at h
  ·rename_i T l;split at h
   ·rename_i T' l' hg;split at h
    ·rename_i hT;rcases GM.1 A with rfl|A
     ·have h1:T'=T:=GX hT;have h2:H9 l' l:=h _ GG;subst h1;obtain ⟨g1,g2,vs,g3,g4⟩:=hm _ (UX hg);exact ⟨g1,g2,vs,g3,dC h2 g4⟩
     ·exact TW hm (m':=t) (λq hq=>h q (HO _ hq)) p A
    ·exact (h False GG).elim
   ·exact (h False GG).elim
  ·rename_i T sz n f;split at h
   ·rename_i T' sz' n' f' hg;rcases GM.1 A with rfl|A
    ·have h2:(T',sz',n',f')=(T,sz,n,f):=h _ GG;cases h2;exact hm _ (UX hg)
    ·exact TW hm (m':=t) (λq hq=>h q (HO _ hq)) p A
   ·exact (h False GG).elim
  ·exact (h False GG).elim
def Wo9(s E:St):List Prop:=match Nat.ble s.nx E.nx with
 |true=>(s.sv=E.sv)::Qp1 s.m E.m
 |false=>[False]
theorem Xh7{s E:St}(h: ∀p∈Wo9 s E,p):s.nx<=E.nx/\s.sv=E.sv/\ ∀p∈Qp1 s.m E.m,p:=by
 unfold Wo9 at h;split at h
 ·rename_i hb;exact ⟨qK hb,h _ GG,λp A=>h p (HO _ A)⟩
 ·exact (h False GG).elim
def Qb5(D:TypeId)(N:List (Pl×Nat×TypeId×Nat))(ET EF:St)(x:Ww8×GZ×Nat×List (List AV)):VM (Bool×Int):=match x.1 with
 | .ret (.tup [])=> .needT (Wo9 (FV N {σ:=[],m:=x.2.1,nx:=x.2.2.1,sv:=x.2.2.2}) ET) (.leaf (true,0))
 | .pan v=>match Zh0 D v with
  |some k=> .needT (Wo9 {σ:=[],m:=x.2.1,nx:=x.2.2.1,sv:=x.2.2.2} EF) (.leaf (false,k))
  |none=> .fail
 |_=> .fail
def Jd1(P:Program)(G:List (Nat×Spec))(X:Ext)(PX:List (Nat×DW))(L:List PH)(fn:Func)(c:Code)(avs:List AV)(m:GZ)(nx:Nat)(sv:List (List AV))(D:TypeId)(N:List (Pl×Nat×TypeId×Nat))(ET EF:St):VM (Bool×Int):=
 (P1 P G X PX L c 0 {HM fn avs with m:=m,nx:=nx,sv:=sv}).bind λp=>match p.1 with
  | .pan v=>Qb5 D N ET EF (.pan v,p.2.m,p.2.nx,p.2.sv)
  | .x (.exit _)=> .fail
  |_=>match BK P p.2 fn.results.toList with
   |some r=>Qb5 D N ET EF (.ret r,p.2.m,p.2.nx,p.2.sv)
   |none=> .fail
def wC(P:Program)(f:FuncId)(avs:List AV)(m:GZ)(nx:Nat)(sv:List (List AV))(D:TypeId)(ET EF:St)(res:Bool×Int):Prop:=
 ∀(c:Cx) (w0:World) (T:Nat->Prop) (e:UK) (ds:List Deferred) (args:List Value) (w:World),
 UY e w0.heap.size w->Below w0.heap.size w0 w->UU e m w->(∀k,e.live k->k<nx)->(∀b,T b->b<w0.heap.size/\ ¬e.ro b)->Xt c e sv ds w->U2 e w avs args->
  Calls P f args.toArray w λen w'=>en=Xi4 D res/\ ∃e',UY e' w0.heap.size w'/\Below w0.heap.size w0 w'/\UU e' (cond res.1 ET EF).m w'/\(∀k,e'.live k->k<(cond res.1 ET EF).nx)/\
   (∀b,T b->b<w0.heap.size/\ ¬e'.ro b)/\Xt c e' (cond res.1 ET EF).sv ds w'
theorem Zh1{P:Program}{f:FuncId}{h:DW}(hs:D4 P f h){avs:List AV}{m:GZ}{nx:Nat}{sv:List (List AV)}{t:VM (Ww8×GZ×Nat×List (List AV))}{D:TypeId}{N:List (Pl×Nat×TypeId×Nat)}{ET EF:St}{res:Bool×Int}(ht:h avs m nx sv=some t)
  (FH:t.sat λx=>(Qb5 D N ET EF x).sat λr=>r=res):wC P f avs m nx sv D ET EF res:=by
 intro c w0 T e ds args w hE hB hm hl LN hxt Z;refine (hs.2 _ _ _ _ _ ht _ FH c w0 T e ds args w hE hB hm hl LN hxt Z).mono ?_;rintro en w' ⟨r,m',nx',sv',e',hpe,hq,g1,g2,g3,g4,g5,g6⟩
 let c':Cx:={M:=c.M,Φ:=λg T' w'=>g=none/\T'=T/\w'=w0,K:=c.K,saved:=c.saved,sz:=c.sz}
 have yA:Rel c' {σ:=[],m:=m',nx:=nx',sv:=sv'} {tmps:=#[],defers:=ds} w':=
  ⟨w0,T,e',⟨rfl,rfl,rfl⟩,g1,g2,g3,g4,g5,⟨g6.defers,g6.kept,g6.saved,g6.size⟩,U2.nil _ _⟩
 have fin: ∀S E:St,Rel c' S {tmps:=#[],defers:=ds} w'->(∀p∈Wo9 S E,p)-> ∃e',UY e' w0.heap.size w'/\Below w0.heap.size w0 w'/\UU e' E.m w'/\(∀k,e'.live k->k<E.nx)/\(∀b,T b->b<w0.heap.size/\ ¬e'.ro b)/\Xt c e' E.sv ds w':=by
  rintro S E ⟨w0',T',e2,⟨_,rfl,rfl⟩,r⟩ hf;obtain ⟨h1,h2,h3⟩:=Xh7 hf;refine ⟨e2,r.env,r.below,TW r.mem h3,λk hk=>xM (r.live k hk) h1,r.foe,⟨r.xt.defers,r.xt.kept,?_,r.xt.size⟩⟩
  rw [←h2];exact r.xt.saved
 unfold Qb5 at hq;split at hq
 ·rename_i h1;simp only at h1;subst h1;obtain ⟨v,rfl,rv⟩:=hpe;obtain ⟨q1,q2⟩:=VM.sat_needT hq;have q2:(true,0)=res:=q2;subst q2;obtain ⟨us,rfl,hus⟩:=rv.tup_inv;obtain rfl:=hus.nil_inv;exact ⟨rfl,fin _ ET (DD (l:=N) yA) (GC q1)⟩
 ·rename_i v h1;simp only at h1;subst h1;split at hq
  ·rename_i k hk;obtain ⟨q1,q2⟩:=VM.sat_needT hq;have q2:(false,k)=res:=q2;subst q2;have hpe:en= .panicked [{v:=v,recovered:=false}]:=hpe;rw [hpe,Qk4 hk];exact ⟨rfl,fin _ EF yA (GC q1)⟩
  ·exact hq.elim
 ·exact hq.elim
theorem LG{P:Program}{G:List (Nat×Spec)}{X:Ext}{PX:List (Nat×DW)}{L:List PH}{f:FuncId}{fn:Func}{c:Code}(hG:VK P G)(hX: ∀cx,VW P X cx)(hP:US P PX)(GQ:P.follows .mixedOrders=true)(PA:Enters P f)(hf:P.funcs[f]? =some fn)(hb:fn.body=some c)
  (hL: ∀j cj,VS c j=some cj-> ∀sp,L[j]? =some sp-> ∀ro cx,LW P ro cx cj sp){avs:List AV}{m:GZ}{nx:Nat}{sv:List (List AV)}{D:TypeId}{N:List (Pl×Nat×TypeId×Nat)}{ET EF:St}{res:Bool×Int}{t:VM (Bool×Int)}
  (ht:Jd1 P G X PX L fn c avs m nx sv D N ET EF=t)(FH:t.sat λr=>r=res):wC P f avs m nx sv D ET EF res:=by
 subst ht;refine Zh1 (FP hG hX hP GQ PA hf hb hL) (h:=rM P G X PX L fn c) (N:=N) rfl (VM.bind_sat (VM.sat_mono ?_ (VM.sat_bind FH)));rintro ⟨x,s⟩ h;cases x with
 |pan v=>exact h
 |x y=>
  cases y with
  |exit i=>exact h.elim
  |normal=>
   simp only at h ⊢;split at h
   ·rename_i r Z
    first|exact h|(rw [Z];exact h)|(simp only [Z];exact h)
   ·exact h.elim
  |ret=>
   simp only at h ⊢;split at h
   ·rename_i r Z
    first|exact h|(rw [Z];exact h)|(simp only [Z];exact h)
   ·exact h.elim
def Wi9(P:Program)(ev:Code->Nat->St->CT)(fn:Func)(c:Code):HX:=λavs m nx sv=>
 some ((ev c 0 {HM fn avs with m:=m,nx:=nx,sv:=sv}).bind λp=>match p.1 with
  | .exit _=> .fail
  |_=>match BK P p.2 fn.results.toList with
   |some r=> .leaf (r,p.2.m,p.2.nx,p.2.sv)
   |none=> .fail)
theorem oK{P:Program}{ev:Code->Nat->St->CT}{L:List UI}{f:FuncId}{fn:Func}{c:Code}(hev: ∀cx,sO P cx L ev)(PA:Enters P f)(hf:P.funcs[f]? =some fn)(hb:fn.body=some c)
  (hL: ∀j cj,VS c j=some cj-> ∀sp,L[j]? =some sp->G8 P cj sp):GB P f (Wi9 P ev fn c):=by
 refine ⟨PA,?_⟩;intro avs m nx sv t ht Q hQ cx w0 T e ds args w hE hB hm hl LN hxt Z;unfold Wi9 at ht;cases ht
 let K':Nat->Obj->Prop:=λb o=>cx.K b o\/(∃d∈ds,d={target:= .collected b,args:=#[] }/\o= .deferred (some []))
 let cx':Cx:={M:=λ_=>False,Φ:=λg T' w'=>g=none/\T'=T/\w'=w0,K:=K',saved:=cx.saved,sz:=cx.sz}
 have FH:(ev c 0 {HM fn avs with m:=m,nx:=nx,sv:=sv}).sat (λp=>(∀i,p.1≠ .exit i)/\p.2.gh=p.2.gh/\ ∃r,BK P p.2 fn.results.toList=some r/\Q (r,p.2.m,p.2.nx,p.2.sv)):=by
  refine VM.sat_mono ?_ (VM.sat_bind hQ);rintro ⟨x,s⟩ hs;cases x with
  |exit i=>exact hs.elim
  |normal=>
   simp only at hs;split at hs
   ·rename_i r Z;exact ⟨λi h=>(by cases h),rfl,r,Z,hs⟩
   ·exact hs.elim
  |ret=>
   simp only at hs;split at hs
   ·rename_i r Z;exact ⟨λi h=>(by cases h),rfl,r,Z,hs⟩
   ·exact hs.elim
 have yA:Rel cx' {HM fn avs with m:=m,nx:=nx,sv:=sv} {tmps:=args.toArray++Array.replicate (fn.ntmps-args.toArray.size) undef,defers:=[] } w:=by
  refine ⟨w0,T,e,⟨rfl,rfl,rfl⟩,hE,hB,hm,hl,LN,⟨⟨(λd hd=>by cases hd),List.nodup_nil⟩,?_,hxt.saved,hxt.size⟩,?_⟩
  ·rintro b o (hk|⟨d,hd,h1,rfl⟩)
   ·exact hxt.kept b o hk
   ·obtain ⟨D,g1,g2,g3,g4,g5⟩:=hxt.defers.1 d hd;rw [h1] at g1;injection g1 with g1 _
    injection g1 with g1
    subst g1;exact ⟨g2,g3,g4⟩
  ·have EJ:U2 e w (List.replicate (fn.ntmps-avs.length) .top) (List.replicate (fn.ntmps-avs.length) undef):=by
    refine ⟨VV,λi a v ha _=>?_⟩
    have:=F0 ha;rw [List.mem_replicate] at this;rw [this.2];exact .top v
   have:=Z.append EJ;simpa [HM,Z.1] using this
 refine callsIn_wide (n:=0).1 (callsIn_of_wp_marks (F:=fr none) hf hb trivial (wpIn_mono (hev cx' none 0 c 0 _ _ _ w (λj cj hj sp hsp=>hL j cj hj sp (by simpa using hsp) none cx') FH yA) ?_) rfl)
 rintro ex a' w' ⟨x,s',rfl,⟨hx,_,r,DY,hq⟩,w0',T',e',⟨_,rfl,rfl⟩,re⟩;have Qn2:a'.defers=[]:=by
  cases hd:a'.defers with
  |nil=>rfl
  |cons d l=>
   obtain ⟨D,_,_,_,_,g5⟩:=re.xt.defers.1 d (by rw [hd];exact GG)
   exact g5.elim
 obtain ⟨u,hu,GI⟩:=DJ (P:=P) re.mem re.slots DY;have yC:LeavesInM (fr none) 0 P fn a'.tmps (λen w'=> ∃v r m' nx' sv' e',en= .returned v/\Q (r,m',nx',sv')/\UY e' w0'.heap.size w'/\Below w0'.heap.size w0' w'/\UU e' m' w'/\(∀k,e'.live k->k<nx')/\
   (∀b,T' b->b<w0'.heap.size/\ ¬e'.ro b)/\Xt cx e' sv' ds w'/\Rep e' w' r v) a'.defers .returning w':=by
  rw [Qn2];refine ⟨u,hu,u,r,s'.m,s'.nx,s'.sv,e',rfl,hq,re.env,re.below,re.mem,re.live,re.foe,⟨⟨λd hd=>?_,hxt.defers.2⟩,λb o hk=>re.xt.kept b o (.inl hk),re.xt.saved,re.xt.size⟩,GI⟩
  obtain ⟨D,g1,g2,g3,g4,g5⟩:=hxt.defers.1 d hd;obtain ⟨k1,k2,k3⟩:=re.xt.kept D (.deferred (some [])) (.inr ⟨d,hd,g1,rfl⟩);exact ⟨D,g1,k1,k2,k3,g5⟩
 cases x with
 |normal=>exact yC
 |ret=>exact yC
 |exit i=>exact (hx i rfl).elim
def cOf(h:HX)(avs:List AV):VM AV:=match h avs [] 0 [] with
 |some t=>t.bind λx=> .leaf (D8 x.2.1 40 x.1)
 |none=> .fail
theorem SB{P:Program}{f:FuncId}{h:HX}(hs:GB P f h){avs:List AV}{sp t:VM AV}(ht:cOf h avs=t)(yC: ∀Q:AV->Prop,sp.sat Q->t.sat (λr=> ∃r',dD r r'/\Q r')):UN P f avs sp:=by
 intro Q hQ e w args hro hgl FM Z
 let T:Nat->Prop:=λb=>b<w.heap.size/\ ¬e.ro b
 let e0:UK:={ro:=e.ro,own:=λ_=>none,live:=λ_=>False,blk:=λ_=>0,val:=λ_=> .nilIface}
 have hr0:U2 e0 w avs args:=⟨Z.1,λi a v ha hv=>Rep.idf (e:=e) (e':=e0) (λ_ h=>h) (Z.2 i a v ha hv) (FM a (F0 ha))⟩
 have FH:=yC Q hQ;subst ht;unfold cOf at FH;split at FH
 ·rename_i t0 hh;refine (hs.2 avs [] 0 [] t0 hh _ (VM.sat_bind FH) (iR w T) w T e0 [] args w ⟨λb hb=>⟨rfl,hro b hb⟩,(λb k hk=>by cases hk),hgl⟩ (Below.refl _ _) (λp A=>by cases A) (λk hk=>False.elim hk) (λb h=>h) ⟨⟨(λd hd=>by cases hd),List.nodup_nil⟩,(λb o h=>h.elim),⟨rfl,(λi a v h=>by cases h)⟩,Ao _⟩ hr0).mono ?_
  rintro en w' ⟨v,r,m',nx',sv',e',rfl,⟨r',jV,hq⟩,g1,g2,g3,g4,g5,g6,g7⟩;refine ⟨v,r',rfl,hq,g2,?_⟩;refine cY jV (Rep.idf (e:=e'.view) ?_ (L7 g1 g3 40 r v g7) (RJ g3 40 r v g7));rintro b (hb|⟨k,hb⟩)
  ·rcases An b w.heap.size with h1|h1
   ·refine .inl ?_;rcases Classical.em (e.ro b) with h2|h2
    ·exact h2
    ·exact ((g5 b ⟨h1,h2⟩).2 hb).elim
   ·exact .inr ⟨h1,(g1.apart b hb).2⟩
  ·exact .inr ⟨(g1.owned b k hb).1,(g1.owned b k hb).2⟩
 ·exact FH.elim
end Go.Sx
namespace Go.Sx
open Go Go.RowKit
abbrev upE(l:List (Nat×AV))(m:GZ)(E:St):St:={σ:=H4 l E.σ,m:=m,nx:=E.nx}
abbrev upM(l:List (Nat×AV))(E:St):St:={σ:=H4 l E.σ,m:=E.m,nx:=E.nx}
section
variable {P:Program}{f:FuncId}{fn:Func}
theorem UG(h:P.funcs[f]? =some fn)(h1:(fn.name== "runtime.NumGoroutine")=false:=by kernel_rfl)(h2:fn.body.isNone=false:=by kernel_rfl):Enters P f:=⟨fn,h,h1,h2⟩
abbrev UW:=Spec
theorem GV{avs:List AV}{res:AV}{t:VM RV}(hf:P.funcs[f]? =some fn)(ht:pB P fn.results.toList (iV P [] [] (U7 fn) 0 (HM fn avs))=t)(h:t.sat (λr=>G4 r res))(hb:fn.body=some (U7 fn):=by kernel_rfl)(GQ:P.follows .mixedOrders=true:=by kernel_rfl):VX P f avs res:=U1 (VK.nil _) GQ hf hb U3 ht h
end
abbrev GU{α:Type}(n:Nat)(f g:Nat->α):Prop:= ∀i,i<n->f i=g i
abbrev GO{α:Type}(n:Nat)(f:Nat->α):Prop:= ∀i,i<n->f i=f i
def aY(n:Nat):List Int:=List.replicate n 0
abbrev RT(n:Nat)(f:Nat->List AV):Prop:= ∀i,i<n-> ∀a,a∈f i->AV.one a=true
@[simp] abbrev UJ (a b:Int):Prop:=0<=a/\a<b
theorem UT(f:Func)(h:f.body=some (U7 f):=by kernel_rfl):f.body=some (U7 f):=h
theorem DH{α:Type}{T t:VM α}{Q:α->Prop}(e:T=t)(h:t.sat Q):T.sat Q:=e▸h
section
variable {p:Prop}
theorem yE(h:p:=by
 with_reducible repeat' first|apply Al|intro _
 all_goals first|exact Ak|exact h0|exact VR|omega|exact hQ1 _ (by assumption) (Wm6 VJ (by simp_all))|(rename_i k hk;rcases (show k=0\/k=1\/k=2 by omega) with rfl|rfl|rfl<;>rfl)|rfl|with_reducible rfl|exact hQ2 _ (by assumption) (PI VJ)|(rename_i h;exact absurd h (Aq _))|exact hQ1 _ (by assumption)|(exfalso;omega)|exact uZ (by simp_all) _ (by assumption)|exact qJ (uZ (by simp_all) _ (by assumption))|contradiction|assumption|exact hQ2 _ (by assumption)|(simp;done)|decide|exact qJ (uZ (decide_eq_true VJ) _ (by assumption))):p:=h
theorem P3(h:p:=by first|exact Ak|omega|with_reducible rfl|(rename_i E hE;cases hE;exact hQ)|rfl):p:=h
theorem V0(h:p:=by
 simp only [VM.sat,UB,G4,GJ,UD,UH,DZ];all_goals exact yE):p:=h
theorem V2(h:p:=by
 rw [if_pos hc];obtain ⟨rfl,rfl⟩:=hc;by_cases h1:x=o
 ·subst h1;by_cases h2:y=x
  ·subst h2;refine ⟨VJ,VJ,λ_=>VJ,λ_=>VJ,λ_ _=>VJ,λ_=>VJ⟩
  ·refine ⟨VJ,VJ,λ_=>by have:=hoo.2.2.2.2.1 rfl rfl;omega,λh=>absurd h h2,λ_ h=>absurd h h2,λ_=>VJ⟩
 ·by_cases h2:y=o
  ·subst h2;refine ⟨VJ,VJ,λh=>absurd h h1,λ_=>by have:=hoo.2.2.2.2.1 rfl rfl;omega,λh=>absurd h h1,λ_=>VJ⟩
  ·have q1:=hfo.2.2.2.1 rfl;have q2:=hot.2.2.1 rfl;refine ⟨VJ,VJ,λh=>absurd h h1,λh=>absurd h h2,λh=>absurd h h1,λ_=>VJ⟩):p:=h
theorem V6(h:p:=by exact yE):p:=h
theorem VA(h:p:=by
 exact .lst _ _ _ λj hj x hx=>by
  simp only [GM,DO,or_false] at hx;rcases hx with rfl|rfl<;>exact .x _):p:=h
theorem VB(h:p:=by
 simp only [VM.sat,UB,G4,UD,UH,HA];simp+contextual):p:=h
theorem VC(h:p:=by
 simp only [VM.sat,UB,G4,GJ,UD,VL,UH];omega):p:=h
theorem VF(h:p:=by
 (with_reducible repeat' first|apply Al|intro _)
 all_goals first|exact P3|(rename_i j hj;rcases (show j<k\/j=k by omega) with h3|h3;exact hx.2 j h3;subst h3;omega)):p:=h
theorem VH(h:p:=by
 (with_reducible repeat' first|apply Al|intro _)
 all_goals first|exact P3|(rename_i hs;exact hs.elim (λh=>sn1 _ h) (λh=>h▸sn2))):p:=h
theorem VI(h:p:=by
 exact .lst _ _ _ λk _ x hx=>by
  simp only [GM,DO,or_false] at hx;rcases hx with rfl|rfl|rfl|rfl|rfl<;>exact .x _):p:=h
end
end Go.Sx
