/- Contracts, put together. Conditions: those of each. -/
import Derived.Test.YtakpdkmhclhlnaaGreatDoorMn
import Derived.Test.YtakpdkmhclhlnaaGreatDoorCards
import Derived.Test.YtakpdkmhclhlnaaGreatDoorTie
import Derived.LaidMore
import Derived.OpenShut
import Derived.Stop.Joined
import Derived.Stop.LaidErr
import Derived.Lib.LaidTab
import Derived.Handed
import Derived.SevenTiedAt
set_option linter.unusedSimpArgs false
set_option linter.unusedVariables false
set_option maxRecDepth 100000
namespace Go.Proofs.YtakpdkmhclhlnaaGreatDoor.Hd
open Go Go.Sx Go.RowKit Go.ChangeShapes Go.WideShapes Go.ChangeAt
open Go.Sx.VJ (need branch leaf)
open Go.Sx.AV (lst ptr agg roI tup top)
abbrev Qb9:List (String×DataW Unit):=Rows.headVoidRow.laid
theorem rowWrap{H:Type}{enc:TypeId×Value->H}{a:Assume}{C:Checked}{os:Os}{f:FuncId}{fn:Func}{s:ChangeSpec}{conds:List PathCond}{apart fresh AC again:Bool}{laid:List (String×DataW Unit)}
  (own:ownKnob C.prog.godebug=none)(started:os.Started)(noInit:C.prog.inits.idxOf? f=none)(hfn:C.prog.funcs[f]? =some fn)
  (witness: ∃(w:World) (tape:Tape) (i:Input),w.os=os/\(w.forCall tape i).Shaped C.prog/\i.vars=[]/\Input.okWide C.prog (w.forCall tape i) .any w.heap.size f i/\
   ((s.pre enc C.prog fn conds apart (w.forCall tape i).memory i.args/\laidMetH C.prog laid (w.forCall tape i).memory)/\sizedMet enc C.prog fn (OpenSpec.ofChange s) apart (w.forCall tape i).memory i.args)/\a.holds C.prog (lone (Frame.enter C.prog f i.args .normal) [] (w.forCall tape i)))
  (contract: ∀(W:World) (base:Nat) (args:Array Value) (ds gs:List (DataW H)) (before:List MemPlace),
   (∀(j:Nat) t v,fn.params[j]? =some t->args[j]? =some v->Value.okWide C.prog W .any base t v)->
   DataW.Whole enc C.prog fn.params.toList s.vars apart W args.toList ds gs before->
   (DataW.weightsEach C.prog (fn.params.toList++s.plain.varTypes C.prog) (ds++gs)).all (· <=reachBytes)=true->laidMetH C.prog laid W->W.ShapedOpen C.prog->
   Calls C.prog f args W λe W'=> ∃v,e= .returned v/\s.post enc C.prog fn apart fresh AC again W args v W'):
  ReturnsInHanded a C os f .any (λw args=>(s.pre enc C.prog fn conds apart w args/\laidMetH C.prog laid w)/\sizedMet enc C.prog fn (OpenSpec.ofChange s) apart w args) (s.post enc C.prog fn apart fresh AC again):=by
 refine returnsInHanded_of_calls own started noInit witness ?_;intro w tape i _ hsh _ hok gH _;obtain ⟨_,_,_,fn',hfn',_,_,_,_,MX⟩:=hok;obtain rfl:fn'=fn:=Bb (hfn'.symm.trans hfn);obtain ⟨⟨⟨ds,gs,before,hw,_⟩,hl⟩,hz⟩:=gH;refine (contract (w.forCall tape i) w.heap.size i.args ds gs before MX (DataW.Whole.of_heap (w':=w.forCall tape i) (by rfl) hw) (hz.weights hw) (hl.of_heap (by rfl)) hsh).mono λe W' ⟨v,he,A⟩=>?_
 subst he;exact ChangeSpec.post_blind A
theorem own0:ownKnob Tryz.prog.godebug=none:=VQ
theorem Xr3: "*"++ "errors.errorString"= "*errors.errorString":=by decide
theorem Wa9(u:TypeId)(h:Tryz.prog.typeName? 3 u=some "*errors.errorString"):u=355:=
 typeName_ptr_named (nm:= "errors.errorString") (by rw [Xr3];kernel_rfl) VQ (by decide) u (by rw [Xr3];exact h)
theorem gR:Tryz.prog.globalNamed "strconv.ErrRange"=some 3:=VQ
theorem gS:Tryz.prog.globalNamed "strconv.ErrSyntax"=some 2:=VQ
theorem gT:Tryz.prog.globalNamed "internal/strconv.uint64pow10"=some 0:=VQ
theorem Zh5{W:World}(h:laidMet Tryz.prog Qb9 W):Lib.TabIs Tryz.prog W "internal/strconv.uint64pow10" .u64 Lib.pow10Tab:=
 Lib.tabIs_of_head (g:=0) (t:=328) (e:=181) (n:=20) gT VQ Tryz.underlying328 Tryz.underlying181 VQ VQ (laidMet.tail (laidMet.tail h))
theorem zR{W:World}{n:String}{g:Nat}{c:Array Value}{zero:Array Value}{t:TypeId}(hg:Tryz.prog.globalNamed n=some g)(I:W.var? Tryz.prog n=some c): ∃t fr,W.heap[g]? =some (.cells c t fr):=by
 unfold World.var? at I;rw [hg] at I
 dsimp only [Option.bind] at I
 cases ho:W.heap[g]? with
 |none=>simp [ho] at I
 |some o=>
  cases o<;>simp [ho] at I;exact ⟨_,_,by rw [I]⟩
theorem glob_of{W:World}(h:laidMetH Tryz.prog Qb9 W)(hsh:W.ShapedOpen Tryz.prog):D9 (jD W) W:=by
 have hL:laidMet Tryz.prog Qb9 W:=by
  have h1:=h;rw [MakeChecks.laidMetH_plain _ _ _ VQ] at h1;exact h1
 obtain ⟨aR,sR,vR,_⟩:=laid_sentinel (laidMet.tail (laidMet.tail (laidMet.tail (laidMet.tail hL)))) gR VQ Tryz.underlying107 Wa9 Tryz.underlying355 Tryz.underlying357 rfl rfl Tryz.underlying9 VQ VQ;obtain ⟨aS,sS,vS,_⟩:=laid_sentinel (laidMet.tail (laidMet.tail (laidMet.tail (laidMet.tail (laidMet.tail hL))))) gS VQ Tryz.underlying107 Wa9 Tryz.underlying355 Tryz.underlying357 rfl rfl Tryz.underlying9 VQ VQ;have vT:=Zh5 hL;obtain ⟨tR,fR,hR⟩:=zR (zero:=#[]) (t:=0) gR vR;obtain ⟨tS,fS,Z⟩:=zR (zero:=#[]) (t:=0) gS vS;obtain ⟨tT,fT,hT⟩:=zR (zero:=#[]) (t:=0) gT vT;obtain ⟨cs,hM,S,hok⟩:=hsh.1 1 #[.int .i64 0] 3 (BT VQ) VQ;obtain ⟨ts,hts,_,HV⟩:=hok VQ;have hts':Tryz.prog.cellTypes Tryz.prog.depth 3=some [3]:=VQ;rw [hts'] at hts;cases hts;have h1:0<cs.size:=by rw [S];decide
 obtain ⟨u,hu,hc⟩:=HV 0 cs[0] (by simp [h1])
 obtain rfl:u=3:=by simpa using hu.symm
 have hm: ∃m,cs=#[.int .i64 m]:=by
  unfold Cell.ok at hc;rw [Tryz.underlying3] at hc;have hsz':cs.size=1:=S;have e:cs=#[cs[0]]:=by
   apply Array.ext;simp [hsz'];intro j a1 a2;have:j=0:=by simp at a2;omega
   subst this;rfl
  cases I:cs[0] with
  |int k m=>
   rw [I] at hc;have hk:k= .i64:=by
    have h9:=hc;simp at h9;exact h9.1
   subst hk;exact ⟨m,by rw [e,I]⟩
  |_=>rw [I] at hc;simp at hc
 obtain ⟨m,rfl⟩:=hm;have lt: ∀{g:Nat} {o:Obj},W.heap[g]? =some o->g<W.heap.size:=λh=>(P2.1 h).1;intro b p A
 match b,A with
 | 0,A=>cases A;exact ⟨lt hT,lt hT,_,hT,rfl,_,_,rfl⟩
 | 1,A=>cases A;exact ⟨lt hM,lt hM,_,hM,rfl,_,_,_,rfl⟩
 | 2,A=>cases A;exact ⟨lt Z,lt Z,_,Z,rfl,_,_,_,_,rfl⟩
 | 3,A=>cases A;exact ⟨lt hR,lt hR,_,hR,rfl,_,_,_,_,rfl⟩
 |b+4,A=>cases A
def Jc1:DataW Unit->List Value
 | .agg l=>l.map λ
  | .lit (.int k n)=> .int k n
  |_=> .nilIface
 |_=>[]
noncomputable def Jh7(os:Os):World:={World.doorLaid Tryz.prog 68 os with heap:=(World.doorLaid Tryz.prog 68 os).heap.modify 6 λ
 | .cells _ t fr=> .cells (Jc1 Go.Pinned.utf8First).toArray t fr
 |o=>o}
theorem Jh6(os:Os)(args:Array Value):laidMetH Tryz.prog Qb9 (((Jh7 os).forCall (λ_ _=>0) ⟨#[],args,[]⟩).memory):=
 laidMetH_of_parts3 (fuel:=8) (laidMet_of_run' 8 VQ VQ) VQ VQ
end Go.Proofs.YtakpdkmhclhlnaaGreatDoor.Hd
