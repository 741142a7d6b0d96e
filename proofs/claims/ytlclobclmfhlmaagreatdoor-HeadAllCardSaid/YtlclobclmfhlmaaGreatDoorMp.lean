/- Contracts, put together. Conditions: those of each. -/
import Derived.Test.YtlclobclmfhlmaaGreatDoorMo
import Derived.Test.YtlclobclmfhlmaaGreatDoorCards
import Derived.Test.YtlclobclmfhlmaaGreatDoorTie
import Derived.LaidMore
import Derived.OpenShut
import Derived.Stop.Joined
import Derived.Stop.LaidErr
import Derived.Lib.LaidTab
import Derived.Handed
import Derived.SevenTiedAt
set_option linter.unusedSimpArgs false
set_option linter.unusedVariables false
set_option maxRecDepth 100000
namespace Go.Proofs.YtlclobclmfhlmaaGreatDoor.Hd
open Go Go.Sx Go.RowKit Go.ChangeShapes Go.WideShapes Go.ChangeAt
open Go.Sx.VL (need branch leaf)
open Go.Sx.AV (lst ptr agg roI tup top)
abbrev Qa3:List (String×DataW Unit):=Rows.headReplaysRow.laid
theorem rowWrap{H:Type}{enc:TypeId×Value->H}{a:Assume}{C:Checked}{os:Os}{f:FuncId}{fn:Func}{s:ChangeSpec}{conds:List PathCond}{apart fresh A4 again:Bool}{laid:List (String×DataW Unit)}
  (own:ownKnob C.prog.godebug=none)(started:os.Started)(noInit:C.prog.inits.idxOf? f=none)(hfn:C.prog.funcs[f]? =some fn)
  (witness: ∃(w:World) (tape:Tape) (i:Input),w.os=os/\(w.forCall tape i).Shaped C.prog/\i.vars=[]/\Input.okWide C.prog (w.forCall tape i) .any w.heap.size f i/\
   ((s.pre enc C.prog fn conds apart (w.forCall tape i).memory i.args/\laidMetH C.prog laid (w.forCall tape i).memory)/\sizedMet enc C.prog fn (OpenSpec.ofChange s) apart (w.forCall tape i).memory i.args)/\a.holds C.prog (lone (Frame.enter C.prog f i.args .normal) [] (w.forCall tape i)))
  (contract: ∀(W:World) (base:Nat) (args:Array Value) (ds gs:List (DataW H)) (before:List MemPlace),
   (∀(j:Nat) t v,fn.params[j]? =some t->args[j]? =some v->Value.okWide C.prog W .any base t v)->
   DataW.Whole enc C.prog fn.params.toList s.vars apart W args.toList ds gs before->
   (DataW.weightsEach C.prog (fn.params.toList++s.plain.varTypes C.prog) (ds++gs)).all (· <=reachBytes)=true->laidMetH C.prog laid W->W.ShapedOpen C.prog->
   Calls C.prog f args W λe W'=> ∃v,e= .returned v/\s.post enc C.prog fn apart fresh A4 again W args v W'):
  ReturnsInHanded a C os f .any (λw args=>(s.pre enc C.prog fn conds apart w args/\laidMetH C.prog laid w)/\sizedMet enc C.prog fn (OpenSpec.ofChange s) apart w args) (s.post enc C.prog fn apart fresh A4 again):=by
 refine returnsInHanded_of_calls own started noInit witness ?_;intro w tape i _ hsh _ hok uW _;obtain ⟨_,_,_,fn',hfn',_,_,_,_,MR⟩:=hok;obtain rfl:fn'=fn:=Option.some.inj (hfn'.symm.trans hfn);obtain ⟨⟨⟨ds,gs,before,hw,_⟩,hl⟩,hz⟩:=uW;refine (contract (w.forCall tape i) w.heap.size i.args ds gs before MR (DataW.Whole.of_heap (w':=w.forCall tape i) (by rfl) hw) (hz.weights hw) (hl.of_heap (by rfl)) hsh).mono λe W' ⟨v,he,hp⟩=>?_
 subst he;exact ChangeSpec.post_blind hp
theorem own0:ownKnob Tryz.prog.godebug=none:=VS
theorem Xp8: "*"++ "errors.errorString"= "*errors.errorString":=by decide
theorem Qz8(u:TypeId)(h:Tryz.prog.typeName? 3 u=some "*errors.errorString"):u=320:=
 typeName_ptr_named (nm:= "errors.errorString") (by rw [Xp8];kernel_rfl) VS (by decide) u (by rw [Xp8];exact h)
theorem gR:Tryz.prog.globalNamed "strconv.ErrRange"=some 1:=VS
theorem gS:Tryz.prog.globalNamed "strconv.ErrSyntax"=some 0:=VS
theorem gT:Tryz.prog.globalNamed "internal/strconv.uint64pow10"=some 2:=VS
theorem Zg0{W:World}(h:laidMet Tryz.prog Qa3 W):Lib.TabIs Tryz.prog W "internal/strconv.uint64pow10" .u64 Lib.pow10Tab:=
 Lib.tabIs_of_head (g:=2) (t:=306) (e:=189) (n:=20) gT VS Tryz.underlying306 Tryz.underlying189 VS VS (laidMet.tail (laidMet.tail h))
theorem zN{W:World}{n:String}{g:Nat}{c:Array Value}{zero:Array Value}{t:TypeId}(hg:Tryz.prog.globalNamed n=some g)(hv:W.var? Tryz.prog n=some c): ∃t fr,W.heap[g]? =some (.cells c t fr):=by
 unfold World.var? at hv;rw [hg] at hv
 dsimp only [Option.bind] at hv
 cases ho:W.heap[g]? with
 |none=>simp [ho] at hv
 |some o=>
  cases o<;>simp [ho] at hv;exact ⟨_,_,by rw [hv]⟩
theorem glob_of{W:World}(h:laidMetH Tryz.prog Qa3 W)(hsh:W.ShapedOpen Tryz.prog):DB (j7 W) W:=by
 have hL:laidMet Tryz.prog Qa3 W:=by
  have h1:=h;rw [MakeChecks.laidMetH_plain _ _ _ VS] at h1;exact h1
 obtain ⟨aR,sR,vR,_⟩:=laid_sentinel (laidMet.tail (laidMet.tail (laidMet.tail (laidMet.tail hL)))) gR VS Tryz.underlying113 Qz8 Tryz.underlying320 Tryz.underlying322 rfl rfl Tryz.underlying9 VS VS;obtain ⟨aS,sS,vS,_⟩:=laid_sentinel (laidMet.tail (laidMet.tail (laidMet.tail (laidMet.tail (laidMet.tail hL))))) gS VS Tryz.underlying113 Qz8 Tryz.underlying320 Tryz.underlying322 rfl rfl Tryz.underlying9 VS VS;have vT:=Zg0 hL;obtain ⟨tR,fR,hR⟩:=zN (zero:=#[]) (t:=0) gR vR;obtain ⟨tS,fS,hS⟩:=zN (zero:=#[]) (t:=0) gS vS;obtain ⟨tT,fT,hT⟩:=zN (zero:=#[]) (t:=0) gT vT;obtain ⟨cs,hM,hsz,hok⟩:=hsh.1 3 #[.int .i64 0] 3 (qL VS) VS;obtain ⟨ts,hts,_,HW⟩:=hok VS;have hts':Tryz.prog.cellTypes Tryz.prog.depth 3=some [3]:=VS;rw [hts'] at hts;cases hts;have h1:0<cs.size:=by rw [hsz];decide
 obtain ⟨u,hu,hc⟩:=HW 0 cs[0] (by simp [h1])
 obtain rfl:u=3:=by simpa using hu.symm
 have hm: ∃m,cs=#[.int .i64 m]:=by
  unfold Cell.ok at hc;rw [Tryz.underlying3] at hc;have hsz':cs.size=1:=hsz;have e:cs=#[cs[0]]:=by
   apply Array.ext
   ·simp [hsz']
   ·intro j a1 a2;have:j=0:=by simp at a2;omega
    subst this;rfl
  cases hv:cs[0] with
  |int k m=>
   rw [hv] at hc;have hk:k= .i64:=by
    have h9:=hc;simp at h9;exact h9.1
   subst hk;exact ⟨m,by rw [e,hv]⟩
  |_=>rw [hv] at hc;simp at hc
 obtain ⟨m,rfl⟩:=hm;have lt: ∀{g:Nat} {o:Obj},W.heap[g]? =some o->g<W.heap.size:=λh=>(P5.1 h).1
 intro b p hp
 match b,hp with
 | 0,hp=>cases hp;exact ⟨lt hS,lt hS,_,hS,rfl,_,_,_,_,rfl⟩
 | 1,hp=>cases hp;exact ⟨lt hR,lt hR,_,hR,rfl,_,_,_,_,rfl⟩
 | 2,hp=>cases hp;exact ⟨lt hT,lt hT,_,hT,rfl,_,_,rfl⟩
 | 3,hp=>cases hp;exact ⟨lt hM,lt hM,_,hM,rfl,_,_,_,rfl⟩
 |b+4,hp=>cases hp
def Ja7:DataW Unit->List Value
 | .agg l=>l.map λ
  | .lit (.int k n)=> .int k n
  |_=> .nilIface
 |_=>[]
noncomputable def Jg3(os:Os):World:={World.doorLaid Tryz.prog 72 os with heap:=(World.doorLaid Tryz.prog 72 os).heap.modify 6 λ
 | .cells _ t fr=> .cells (Ja7 Go.Pinned.utf8First).toArray t fr
 |o=>o}
theorem Jg2(os:Os)(args:Array Value):laidMetH Tryz.prog Qa3 (((Jg3 os).forCall (λ_ _=>0) ⟨#[],args,[]⟩).memory):=
 laidMetH_of_parts3 (fuel:=8) (laidMet_of_run' 8 VS VS) VS VS
end Go.Proofs.YtlclobclmfhlmaaGreatDoor.Hd
namespace Go.Proofs.YtlclobclmfhlmaaGreatDoor.Hd
open Go Go.Sx Go.RowKit
open Go.Sx.VL (need branch leaf)
open Go.Sx.AV (lst ptr agg roI tup top)
def dlt(a b c:Int)(k:Nat):Int:=(if (k:Int)=b then c else 0)-(if (k:Int)=a then c else 0)
theorem rU(F:Nat->Int)(a b c:Int)(k:Nat):sld F a b c k=F k+dlt a b c k:=by
 unfold sld dlt
 repeat' split
 all_goals omega
theorem lt8{n d:Nat}(h8:n<=8)(h:d<2^n):d<8192:=by
 have:=B9 h8 h;omega
theorem Xh2{n d s k:Nat}(h8:n<=8)(h:d<2^n)(hs:s<n):gD ((d ||| 2^s:Nat):Int) k=(gD d k||decide (s=k)):=by
 rw [gC (lt8 h8 (cU h hs)),gC (lt8 h8 h),Nat.testBit_or,Nat.testBit_two_pow]
theorem Xp9{n d s:Nat}{a b c:Nat->Int}(h8:n<=8)(h:d<2^n)(hs:s<n)(h0:gD d s=false)(j:Nat):
  ∀k,stF a b c ((d ||| 2^s:Nat):Int) k j=stF a b c d k j+(if s<k then dlt (a s) (b s) (c s) j else 0)
 | 0=>by simp [stF]
 |k+1=>by
  have ih:=Xp9 (a:=a) (b:=b) (c:=c) h8 h hs h0 j k;have e:=Xh2 (k:=k) h8 h hs;simp only [stF,e];by_cases hk:s=k
  ·subst hk;rw [h0,decide_eq_true rfl,Bool.or_true,if_pos rfl,if_neg (by decide),rU,ih,if_neg VI,if_pos VI]
   omega
  ·rw [decide_eq_false hk,Bool.or_false];have e2:(if s<k+1 then dlt (a s) (b s) (c s) j else 0)=(if s<k then dlt (a s) (b s) (c s) j else 0):=by
    by_cases h1:s<k
    ·rw [if_pos h1,if_pos VI]
    ·rw [if_neg h1,if_neg VI]
   rw [e2];split
   ·rw [rU,rU,ih];omega
   ·exact ih
theorem tE{a b c:Nat->Int}(j:Nat): ∀k,stF a b c ((0:Nat):Int) k j=sg0 j
 | 0=>rfl
 |k+1=>by
  have h:gD ((0:Nat):Int) k=false:=by
   rw [gC (by decide)]
   simp
  simp only [stF,h];exact tE j k
theorem Zl1{a b c:Int}{F:Nat->Int}(ha:0<=a/\a<=3)(hab:a≠b)(hc:1<=c)(hF: ∀j,j<4->0<=F j)(h:c<=F a.toNat){j:Nat}(hj:j<4):0<=F j+dlt a b c j:=by
 have h1:=hF j hj;unfold dlt;by_cases e1:(j:Int)=a
 ·rw [if_neg VI,if_pos e1];have:a.toNat=j:=VI;rw [this] at h;omega
 ·rw [if_neg e1];split<;>omega
def EV(n:Nat)(a b c:Nat->Int)(E:Nat->Int):Prop:= ∀d,d<2^n->E d=101\/(E d<=100/\ ∀j,j<4->0<=stF a b c d n j)
theorem Xr7{n d:Nat}{a b c lo hi:Nat->Int}{E:Nat->Int}(h:sV n a b c lo hi)(hd:d<2^n)(h0: ∀j,j<4->0<=stF a b c d n j)(hE:EV n a b c E):
  ∀q,q<=quN n a b c d->EV n a b c (eQ (DR n a b c d) n lo hi d E q)
 | 0,_=>hE
 |q+1,hq=>by
  have ih:=Xr7 h hd h0 hE q VI;have hs:=xW (show q<G5 (DR n a b c d) n from hq);simp only [eQ];split
  ·rename_i hc;intro d' hd';unfold UO;split
   ·rename_i e;have hv:=AU h hs.1;refine .inr ⟨VI,?_⟩;intro j hj;have h2:=hs.2;unfold DR at h2;rw [H2,j8,Bool.not_eq_true'] at h2;rw [e,Xp9 h.1 hd hs.1 h2.1,if_pos hs.1];exact Zl1 hv.1 hv.2.2.1 hv.2.2.2.1.1 h0 h2.2 hj
   ·exact ih d' hd'
  ·exact ih
theorem Xr8{n:Nat}{a b c lo hi:Nat->Int}(h:sV n a b c lo hi): ∀d,d<=2^n->EV n a b c (eD n a b c lo hi d)
 | 0,_=>by
  intro d _;simp only [eD];split
  ·rename_i e;subst e;refine .inr ⟨by decide,λj _=>?_⟩
   rw [tE];unfold sg0;split<;>decide
  ·exact .inl rfl
 |d+1,hd=>by
  have ih:=Xr8 h d VI;simp only [eD];split
  ·exact ih
  ·rename_i hc;rcases ih d VI with h1|h1
   ·exact absurd h1 hc
   ·exact Xr7 h VI h1.2 ih _ (Nat.le_refl _)
def LV(n:Nat)(F:Nat->Int):Prop:=(∀d,d<2^n-1->F d<=100)/\F (2^n-1)=101
theorem Xr1{n d:Nat}{a b c lo hi:Nat->Int}{F:Nat->Int}(h:sV n a b c lo hi)(hd:d<2^n-1)(D:Int)(hF:LV n F):
  ∀q,q<=quN n a b c D->LV n (lQ (DR n a b c D) n lo hi d F q)
 | 0,_=>hF
 |q+1,hq=>by
  have ih:=Xr1 h hd D hF q VI;have hs:=xW (show q<G5 (DR n a b c D) n from hq);have hv:=AU h hs.1;simp only [lQ];split
  ·refine ⟨λd' hd'=>?_,?_⟩
   ·unfold UO;split
    ·have:=ih.1 d hd;omega
    ·exact ih.1 d' hd'
   ·unfold UO;rw [if_neg VI];exact ih.2
  ·exact ih
theorem Xr0{n:Nat}{a b c lo hi:Nat->Int}(h:sV n a b c lo hi): ∀s,s<=2^n-1->LV n (lS n a b c lo hi s)
 | 0,_=>by
  simp only [lS];refine ⟨λd hd=>?_,?_⟩
  ·unfold UO;rw [if_neg VI];show (-1:Int)<=100;decide
  ·unfold UO;rw [if_pos rfl]
 |s+1,hs=>by
  simp only [lS];exact Xr1 h VI _ (Xr0 h s VI) _ (Nat.le_refl _)
theorem iC{n:Nat}{a b c:Nat->Int}{E F:Nat->Int}(hF:LV n F)(ow:Int): ∀d,d<=2^n-1->hoF n a b c E F ow 100 d=(1001,-1)
 | 0,_=>rfl
 |d+1,hd=>by
  have h1:=hF.1 d VI;have e:(decide (E d<=100)&&decide (F d>100))=false:=by
   rw [decide_eq_false (show ¬F d>100 by omega),Bool.and_false]
  simp only [hoF,e];exact iC hF ow d VI
theorem Qy2{n:Nat}{a b c lo hi:Nat->Int}(h:sV n a b c lo hi)(d:Int): ∀k,k<=n->stF a b c d k 0+stF a b c d k 1+stF a b c d k 2+stF a b c d k 3=10
 | 0,_=>by
  show sg0 0+sg0 1+sg0 2+sg0 3=10;decide
 |k+1,hk=>by
  have ih:=Qy2 h d k VI;have hv:=AU h (show k<n by omega)
  simp only [stF];split
  ·simp only [rU];have h2:dlt (a k) (b k) (c k) 0+dlt (a k) (b k) (c k) 1+dlt (a k) (b k) (c k) 2+dlt (a k) (b k) (c k) 3=0:=by
    unfold dlt;rcases (show a k=0\/a k=1\/a k=2\/a k=3 by omega) with e|e|e|e<;>rcases (show b k=0\/b k=1\/b k=2\/b k=3 by omega) with e2|e2|e2|e2<;>rw [e,e2]<;>simp<;>omega
   omega
  ·exact ih
def enF(n:Nat)(a b c:Nat->Int)(j:Nat):Int:=stF a b c ((2^n-1:Nat):Int) n j
theorem oZ{n:Nat}{a b c lo hi:Nat->Int}(h:sV n a b c lo hi)(hf:qJ n a b c lo hi=true):
  enF n a b c 0+enF n a b c 1+enF n a b c 2+enF n a b c 3=10/\ ∀ow:Nat,ow<4->0<=enF n a b c ow/\hoS n a b c lo hi ow 100=(enF n a b c ow,enF n a b c ow):=by
 have hp:1<=2^n:=Nat.one_le_two_pow;have h1:0<=enF n a b c 0/\0<=enF n a b c 1/\0<=enF n a b c 2/\0<=enF n a b c 3/\eD n a b c lo hi (2^n) (2^n-1)<=100:=by
  rcases Xr8 h (2^n) (Nat.le_refl _) (2^n-1) VI with h1|h1
  ·unfold qJ at hf;rw [h1] at hf;exact absurd hf (by decide)
  ·exact ⟨h1.2 0 VI,h1.2 1 VI,h1.2 2 VI,h1.2 3 VI,h1.1⟩
 have h2:=Qy2 h ((2^n-1:Nat):Int) n (Nat.le_refl _);refine ⟨h2,λow how=>?_⟩
 have h0:enF n a b c ow<=10/\0<=enF n a b c ow:=by
  have h2:enF n a b c 0+enF n a b c 1+enF n a b c 2+enF n a b c 3=10:=h2;rcases (show ow=0\/ow=1\/ow=2\/ow=3 by omega) with rfl|rfl|rfl|rfl<;>omega
 refine ⟨h0.2,?_⟩;have hl:=Xr0 h (2^n-1) (Nat.le_refl _);unfold hoS;obtain ⟨m,hm⟩: ∃m,2^n=m+1:=⟨2^n-1,VI⟩;have hm1:2^n-1=m:=VI;have hE:=iC (a:=a) (b:=b) (c:=c) (E:=eD n a b c lo hi (2^n)) hl (ow:Int) (2^n-1) (Nat.le_refl _);have e:(decide (eD n a b c lo hi (2^n) (2^n-1)<=100)&&decide (lS n a b c lo hi (2^n-1) (2^n-1)>100))=true:=by
  rw [hl.2,decide_eq_true h1.2.2.2.2];rfl
 have e0:((ow:Nat):Int).toNat=ow:=F9 ow;have h3:hoF n a b c (eD n a b c lo hi (2^n)) (lS n a b c lo hi (2^n-1)) ow 100 (2^n-1+1)=(min 1001 (enF n a b c ow),max (-1) (enF n a b c ow)):=by
  simp only [hoF,e,hE,e0];rfl
 have h4:2^n-1+1=2^n:=VI;rw [h4] at h3;rw [h3];have h5:min 1001 (enF n a b c ow)=enF n a b c ow:=VI;have h6:max (-1) (enF n a b c ow)=enF n a b c ow:=VI;rw [h5,h6]
def fiS(s:HS):Bool:=qJ s.ns s.sa s.sb s.sc s.sl s.sh
theorem Qy3{W:Nat->ByteArray}{n:Nat}{s:HS}(hs:fiS s=true)(h0:RW W n s=0):fiS (DS W s)=true:=by
 unfold RW at h0;unfold DS;split at h0
 ·exact hs
 ·exact hs
 ·exact hs
 ·exact hs
 ·exact hs
 ·exact hs
 ·exact hs
 ·have h:=fm0 h0;unfold slE at h;split at h
  ·split at h
   ·split at h
    ·rename_i g;unfold orE at g;split at g
     ·rename_i g2;exact g2
     ·exact absurd g (by decide)
    ·exact absurd h (by decide)
   ·exact absurd h (by decide)
  ·exact absurd h (by decide)
 ·exact absurd h0 (by decide)
theorem AW(L:Nat->ByteArray): ∀k,fiS (sK L k)=true
 | 0=>by
  show fiS hs0=true;decide
 |k+1=>by
  show fiS (lnS (L k) (sK L k))=true;unfold lnS;split
  ·rename_i h;exact Qy3 (AW L k) h
  ·exact AW L k
def enS(s:HS)(k:Nat):Int:=enF s.ns s.sa s.sb s.sc k
theorem Qz4(L:Nat->ByteArray)(k:Nat):enS (sK L k) 0+enS (sK L k) 1+enS (sK L k) 2+enS (sK L k) 3=10/\ ∀ow:Nat,ow<4->0<=enS (sK L k) ow:=
 ⟨(oZ (jE L k).sV (AW L k)).1,λow h=>((oZ (jE L k).sV (AW L k)).2 ow h).1⟩
open Go Go.Sx Go.RowKit Bo
def lV:UV
 |[.agg [.lst 4 nr fr,.x (.int .i64 pl),.x (.int .i64 ph),.lst 3 nb fb,.lst 5 nc fc,.lst 5 ns fs]]=>some ([],.agg [i 4,i 10,.lst 5 ns fs])
 |_=>none
theorem Qm5(nr nb nc ns:Nat)(fr fb fc fs:Nat->List AV)(pl ph:Int):FB VN 12 [.agg [.lst 4 nr fr,i pl,i ph,.lst 3 nb fb,.lst 5 nc fc,.lst 5 ns fs]] (.agg [i 4,i 10,.lst 5 ns fs]):=by
 refine HU (L:=[]) (VJ.nil _) (VV.of (VP.nil _) (VM.nil _)) VY Tryz.func12 (US Tryz.f12) G4 (t:=leaf (agg [iI 4,iI 10,lst 5 ns λa=>fs a])) VS ?_
 simp only [VL.sat,F5,qC,UC,UG];all_goals exact V5
theorem EK:LZ VN 12 lV:=by
 refine ⟨(UF Tryz.func12),?_⟩;intro avs ns res h hn;unfold lV at h;split at h
 ·cases h;exact Qm5 _ _ _ _ _ _ _ _ _ _
 ·cases h
def smI(F:Nat->Int):Nat->Int
 | 0=>0
 |k+1=>smI F k+F k
def Jm1(n:Nat)(L:Nat->ByteArray):D7:=λl=>some (.need [l=[lns n L],ckE n L=0] (.leaf (.tup [.agg (hsL (sK L n)),.lst 1 (kpN L n) (λz=>[.x (.string (kpF L n z))]),bl true])))
def Xt0(s:HS):D7:=λl=>match l with
 |[.agg [.x (.int .i64 c),.x (.int .i64 t),.lst 5 m f],.x (.int .i64 ow),.x (.int .i64 d)]=>some (.need [lst 5 m f=hsS s,c=4,t=10,d=100,0<=ow/\ow<4] (.leaf (.tup [.agg [i (enS s ow.toNat),i (enS s ow.toNat)],i 0])))
 |_=>none
theorem Wb9(n:Nat)(L:Nat->ByteArray):Sx.Enters Tryz.prog 9/\ ∀avs t,Jm1 n L avs=some t->UM VN 9 avs t:=by
 refine ⟨(UF Tryz.func9),?_⟩;intro avs t h;cases h;intro Q hQ;have e:avs=[lns n L]:=hQ.1.1;have h0:ckE n L=0:=hQ.1.2;subst e;exact oK n L h0 Q hQ.2
theorem Zm5(s:HS)(hs:gP s)(hf:fiS s=true):Sx.Enters Tryz.prog 11/\ ∀avs t,Xt0 s avs=some t->UM VN 11 avs t:=by
 refine ⟨(UF Tryz.func11),?_⟩;intro avs t h;unfold Xt0 at h;split at h
 ·rename_i c t m f ow d;cases h;intro Q hQ;obtain ⟨e1,rfl,rfl,rfl,h0⟩:=hQ.1;have h0:0<=ow/\ow<4:=h0;obtain ⟨k,rfl⟩: ∃k:Nat,ow=k:=⟨ow.toNat,VI⟩;have hk:k<4:=VI;have h3:=((oZ hs.sV hf).2 k hk).2;have h1:=NG s.ns s.sa s.sb s.sc s.sl s.sh k 100 hs.sV;rw [e1];refine h1 Q ?_;have hf':qJ s.ns s.sa s.sb s.sc s.sl s.sh=true:=hf;have hb:(bt 0 (k:Int) 3&&bt 0 100 100)=true:=by
   rw [H2,bt_iff,bt_iff];omega
  rw [hb,hf',h3];exact ⟨λ_=>⟨λh=>Bool.noConfusion h,λ_=>hQ.2⟩,λh=>Bool.noConfusion h⟩
 ·cases h
section
variable (n:Nat)(L:Nat->ByteArray)
def Zr1:St:={σ:=[Q8 n L,top,top,ptr 10 0,ZE L n,AV.x (.bool true)]++HG 50 [],m:=[(10,GM.cells 32 (hL (sK L n)))],nx:=18}
noncomputable def Jq1:Code:=U8 (VQ (U6 Tryz.f4) 0)
def Wj3(k:Nat):St:=(upM [(6,i (smI (enS (sK L n)) k)),(7,i (k:Nat)),(8,.top),(9,.top)] (Zr1 n L))
def E2(k:Nat):G6->Option St
 | .exit 0=>some (upM [(6,i (smI (enS (sK L n)) 4)),(7,i (4:Nat)),(8,.top),(9,.top)] (Zr1 n L))
 |_=>none
def Jl8:CT:= .leaf (.exit 0,(E2 n L 0 (.exit 0)).getD (Zr1 n L))
def Xx5:UH:=GJ [] (HF (Wj3 n L (0)) (Jl8 n L))
theorem Jh8(VR:ckE n L=0):G7 VN (.loop Jq1) (Xx5 n L):=by
 refine UX [] (L:=[]) (VJ.cons (EJ n L 50) (VJ.cons bK (VJ.nil _))) (VV.ofC (VP.cons EK (VP.nil _)) (VM.nil _) (U9.cons (Wb9 n L) (U9.cons (Zm5 (sK L n) (jE L n) (AW L n)) (U9.nil _)))) VY U2 (X:=Nat) (Wj3 n L) (λk=>k<=4) (λk=>4-k) (E2 n L) (x0:=0) VU ?_ ?_ ?_
 ·rintro k;kernel_rfl
 ·rintro k y E h;unfold E2 at h;split at h
  ·cases h;kernel_rfl
  ·cases h
 ·rintro Q hQ k hx;refine ⟨(k+1),?_⟩;(with_reducible refine DF (t:=let z0:=(VX (hT ((sK L n).ns) (sK L n)));(branch (decide ((k:Int)<4)) (need [z0,QZ,W8,VX (100:Int),(0:Int)<=(k:Int)/\(k:Int)<4] (branch ((0:Int) != 0) VL.fail (branch (enS (sK L n) k != enS (sK L n) k) VL.fail (branch (decide (enS (sK L n) k<0)) VL.fail (need [VK (smI (enS (sK L n)) k+enS (sK L n) k)] (need [VK ((k:Int)+1)] (need [VX (Q8 n L),VX (ptr 10 0),VX (ZE L n),true=true,smI (enS (sK L n)) k+enS (sK L n) k=smI (enS (sK L n)) (k+1),(k:Int)+1=(↑(k+1):Int),VX (hR ((sK L n).nr) (sK L n)),VX ((sK L n).pl),VX ((sK L n).ph),VX (hY ((sK L n).nb) (sK L n)),VX (hC ((sK L n).nc) (sK L n)),z0] (leaf G6.normal)))))))) (need [VX (Q8 n L),VX (ptr 10 0),VX (ZE L n),true=true,smI (enS (sK L n)) k=smI (enS (sK L n)) 4,(k:Int)=(↑(4:Nat):Int),VX (hR ((sK L n).nr) (sK L n)),VX ((sK L n).pl),VX ((sK L n).ph),VX (hY ((sK L n).nb) (sK L n)),VX (hC ((sK L n).nc) (sK L n)),z0] (leaf (G6.exit 0))))) VS ?_);simp only [Jl8,E2,VL.sat,GS] at hQ;simp only [VL.sat,UA,UZ,GI,UC,VK,UG,H9,R0,RF,L1,GL,E2]
  have hE:=Qz4 L n;refine ⟨λh=>?_,λh=>?_⟩
  ·have hk:k<4:=VI;have h4:=hE.2 k hk;have h5:0<=smI (enS (sK L n)) k/\smI (enS (sK L n)) k+enS (sK L n) k<=10:=by
    have g0:=hE.2 0 VI;have g1:=hE.2 1 VI;have g2:=hE.2 2 VI;have g3:=hE.2 3 VI;rcases (show k=0\/k=1\/k=2\/k=3 by omega) with rfl|rfl|rfl|rfl<;>simp only [smI]<;>omega
   (with_reducible repeat' first|apply And.intro|intro _)
   all_goals first|exact P7|((exfalso;rename_i h9;simp at h9;done))
  ·obtain rfl:k=4:=VI;exact YY
theorem Zo2:VW VN 4 [lns n L] (bl true):=by
 refine GA (L:=[FO [ckE n L=0] (Xx5 n L)]) (VJ.cons (EJ n L 50) (VJ.cons bK (VJ.nil _))) (VV.ofC (VP.cons EK (VP.nil _)) (VM.nil _) (U9.cons (Wb9 n L) (U9.nil _))) VY Tryz.func4 (US Tryz.f4) (G0 (lpE (b:= .loop Jq1) VS<|(D0 (ps:=[ckE n L=0]) (λh=>Jh8 n L h)).N)) (t:=need [VX ([Q8 n L,iI 50])] (branch (!rdB n L (50:Int)) (leaf (RV.x (.bool true))) (need [(KW n L),ckE n L=0] (branch (!true) (leaf (RV.x (WM))) (need [ckE n L=0] (need [VX (Q8 n L),VX (ptr 10 0),VX (ZE L n),true=true,(0:Int)=smI (enS (sK L n)) 0,(0:Int)=(↑(0:Nat):Int),VX (hR ((sK L n).nr) (sK L n)),VX ((sK L n).pl),VX ((sK L n).ph),VX (hY ((sK L n).nb) (sK L n)),VX (hC ((sK L n).nc) (sK L n)),VX (hT ((sK L n).ns) (sK L n))] (branch (smI (enS (sK L n)) 4==10) (leaf (RV.x (.bool true))) (leaf (RV.x (WM)))))))))) VS ?_
 have hk:rdB n L 50=true->ckE n L=0:=λh=>(Zy8 h).1
 have hE:=Qz4 L n;have h10:smI (enS (sK L n)) 4=10:=by
  have e:smI (enS (sK L n)) 4=0+enS (sK L n) 0+enS (sK L n) 1+enS (sK L n) 2+enS (sK L n) 3:=rfl;omega
 simp only [VL.sat,UA,UZ,GI,UC,UG,VK,F9]
 (with_reducible repeat' first|apply And.intro|intro _)
 all_goals first|exact True.intro|contradiction|exact hk (by simp_all)|(rename_i h9;exact absurd h9 (by rw [h10];simp))|(exfalso;rename_i h9;simp at h9;done)|omega|rfl|trace_state
end
end Go.Proofs.YtlclobclmfhlmaaGreatDoor.Hd
