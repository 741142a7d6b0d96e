/- Contracts, put together. Conditions: those of each. -/
import Derived.Test.YtlclobclmfhlmaaGreatDoorMh
import Derived.Shelf.Slices.Cells
import Derived.Deep.Upon
set_option linter.unusedSimpArgs false
set_option linter.unusedVariables false
set_option maxRecDepth 100000
namespace Go.Proofs.YtlclobclmfhlmaaGreatDoor.Hd
open Go Go.Shelf Go.Sx Go.RowKit
def oI:Go.Shelf.Ren:=⟨λ| 112=>223|n=>n,λ| 28=>61|n=>n,λn=>n⟩
theorem Wf0:Go.Proofs.Lays.n112 Tryz.prog oI:=by
 constructor<;>first|(intro _;kernel_rfl)|kernel_rfl|(constructor<;>first|(intro _;kernel_rfl)|kernel_rfl|(constructor<;>first|(intro _;kernel_rfl)|kernel_rfl))
def sQ:HY:=λavs m nx sv=>match avs with
 |[.row q]=>match DA m q with
  |some (.row T sz n g)=>match NN [(T,3),(sz,1)] with
   |true=>some (.needT [UD 1 n g,n<=100000] (.leaf (.tup [],j6 (oA m) q,nx,sv)))
   |false=>none
  |_=>none
 |_=>none
theorem yG(b:Nat): ∀(vs:List Value) (o:Nat) (w:World),(w.setCells b o vs).heap.size=w.heap.size
 |[],_,_=>rfl
 |v::r,o,w=>by
  rw [World.setCells,yG b r];simp
theorem yF(b:Nat): ∀(vs:List Value) (o:Nat) (w:World),(w.setCells b o vs).tape=w.tape
 |[],_,_=>rfl
 |v::r,o,w=>by
  rw [World.setCells,yF b r];simp
theorem Qj8{w:World}{ov:Value}{n:Nat}{l:List Int}(hn:n<=100000)(ho:w.ownsRow 0 3 1 ov n (l.map (Value.int .i64))):
  Calls Tryz.prog 223 #[ov] w λen w1=>en= .returned (.tuple #[])/\w1.heap.size=w.heap.size/\w1.os=w.os/\w1.tape=w.tape/\w1.output=w.output/\ ∀x,x<w.heap.size->ov.ownBlock≠some x->w1.heap[x]? =w.heap[x]? :=by
 have HT:l.length=n:=by
  have:=ho.1;simpa using this
 rcases ho.2 with ⟨rfl,rfl⟩|⟨g,cap,cur,rfl,_,hh,r1,r2,r3,r4⟩
 ·refine Calls.mono (Any.slices_Reverse_int_empty Wf0 none 0 w) ?_;rintro en w1 ⟨rfl,rfl⟩;exact ⟨rfl,rfl,rfl,rfl,rfl,λ_ _ _=>rfl⟩
 ·have gA: ∀j,j<l.length->w.cell? ⟨g,0+j,none⟩=some (.int .i64 (l.getD j 0)):=by
   intro j hj;have h2:cur[j]? =some (.int .i64 (l.getD j 0)):=by
    have h3:=congrArg (λl=>l[j]?) r4
    simp only [List.getElem?_take,List.getElem?_map] at h3;rw [if_pos VI,HX hj] at h3;rw [List.getD_eq_getElem?_getD,HX hj];simpa using h3
   rw [Nat.zero_add];simp [World.cell?,hh,h2]
  refine Calls.mono (Any.slices_Reverse_int_cells Wf0 g 0 n cap l w VI VI gA (λj _=>by simp [World.frozen?,hh])) ?_
  rintro en w1 ⟨rfl,q,rfl⟩;refine ⟨rfl,?_,?_,?_,?_,λx hx hne=>?_⟩
  ·rw [yG];rfl
  ·rw [World.os_setCells];rfl
  ·rw [yF];rfl
  ·rw [World.output_setCells];rfl
  ·exact World.heap_setCells_other (w.drewN q) g 0 _ hx (λh=>hne (by rw [h];rfl))
theorem Wb8:G9 VN 223 sQ:=by
 refine ⟨(UF Tryz.func223),?_⟩;intro avs m nx sv tr ht Q hQ cx w0 TT e ds args w hE hB hm hlv LL hxt hr;unfold sQ at ht;split at ht
 ·rename_i q;split at ht
  ·rename_i T sz n g h1;split at ht
   ·rename_i hb;simp only [E8] at hb;obtain ⟨rfl,rfl,_⟩:=hb;cases ht;obtain ⟨hn,hq⟩:=VL.sat_needT hQ;obtain ⟨n1,n2⟩:=hn;obtain ⟨ov,l1,rfl,r1,hr⟩:=hr.cons_inv;obtain rfl:=hr.nil_inv;have H1:=hm _ (UU h1);have R1:=qB H1 n1;have hv:e.val q=ov:=by
     cases r1 with
     |row _ a n c _ hv=>exact hv
    simp only at R1;rw [hv] at R1;have own1: ∀x,ov.ownBlock=some x->e.own x=some q:=λx hx=>H1.2.1 x (by show (e.val q).ownBlock=some x;rw [hv];exact hx)
    refine (Qj8 n2 R1).mono ?_;rintro en w1 ⟨rfl,hsz,q1,q2,q3,zW⟩;have dne: ∀{x y j j':Nat},e.own x=some j->e.own y=some j'->j≠j'->x≠y:=by
     rintro x y j j' hx hy hj rfl;rw [hx] at hy;exact hj (Option.some.inj hy)
    have Xg2: ∀x,x<w.heap.size->e.ro x->w1.heap[x]? =w.heap[x]? :=λx hx hx2=>zW x hx (λh=>by
     have:=own1 x h;rw [(hE.apart x hx2).1] at this;cases this)
    have st:Step e e w w1:=⟨λx hx hx2=>⟨hx2,Xg2 x hx hx2⟩,λ_ h=>⟨h,rfl,rfl⟩,VI⟩
    have hBel:Below w0.heap.size w0 w1:=by
     refine ⟨q1.trans hB.os,q2.trans hB.tape,q3.trans hB.output,by have:=hB.size;omega,λx hx=>?_⟩
     rw [zW x (xO hx hB.size) (λh=>by have:=(hE.owned _ _ (own1 x h)).1;omega)]
     exact hB.block x hx
    refine ⟨_,_,_,_,_,e,rfl,hq,⟨λx hx=>⟨(hE.apart x hx).1,by rw [hsz];exact (hE.apart x hx).2⟩,λx j hx=>⟨(hE.owned x j hx).1,by rw [hsz];exact (hE.owned x j hx).2⟩,hE.glob.step st⟩,hBel,?_,hlv,LL,hxt.step st,Rep.tupL (.nil _ _)⟩
    intro p hp;obtain ⟨hp,hne⟩:=L0 hp;obtain ⟨hpm,hna⟩:=EB hp;exact LF st (λx hx=>⟨hx,zW x (hE.owned x _ hx).2 (λh=>dne hx (own1 x h) hne rfl)⟩) hna (hm p hpm)
   ·cases ht
  ·cases ht
 ·cases ht
end Go.Proofs.YtlclobclmfhlmaaGreatDoor.Hd
namespace Go.Proofs.YtlclobclmfhlmaaGreatDoor.Hd
open Go Go.Sx Go.RowKit Bo
open Go.Sx.VL (need branch leaf)
open Go.Sx.AV (lst ptr agg roI tup top)
section
variable (n:Nat)(a b c lo hi:Nat->Int)
def orE:Int:=if qJ n a b c lo hi=true then 0 else 9
theorem Qk8(VR:sV n a b c lo hi):VW VN 193 [.agg [i 4,i 10,sls n a b c lo hi]] (.tup [.top,.top,i (orE n a b c lo hi)]):=by
 refine GA (X:={R:=[],H:=[(222,(Xq5 [(.slot 1,0,0,0),(.slot 2,0,0,0),(.slot 3,0,0,0),(.cell 1 0,900,3,1)] (mO n a b c lo hi (2^n)))),(223,sQ)],C:=[(26,(M6 n a b c lo hi))] }) (L:=[]) (VJ.nil _) (VV.ofC (VP.nil _) (VM.cons (e7 (Wc3 VR (2^n))) (VM.cons Wb8 (VM.nil _))) (U9.cons (yW n a b c lo hi VR) (U9.nil _))) VY Tryz.func193 (US Tryz.f193) G4 (t:=let z2:=(orG n a b c lo hi (0:Int).toNat (0:Int));let z0:=(leaf (RV.tup [RV.top,RV.lst 1 n λj=>[iI (dyU z2 (col 0 λx=>List.map AV.x (Array.toList (Value.cells (X0)))) j)],RV.x (X0)]));let z1:=(leaf (RV.tup [RV.top,RV.lst 1 n λx=>[iI 0],RV.x (X0)]));let z3:=(need [(0:Int)<=(n:Int)/\(n:Int)<=1000000,VX (n:Int)] VL.fail);(need [QP n a b c lo hi] (branch (!true) (branch ((2:Int) != 0) (leaf (RV.tup [RV.x (J3),RV.x (J3),RV.x (.int .i64 (2:Int))])) z3) (branch (!qJ n a b c lo hi) (branch ((9:Int) != 0) (leaf (RV.tup [RV.x (J3),RV.x (J3),RV.x (.int .i64 (9:Int))])) z3) (branch ((0:Int) != 0) (leaf (RV.tup [RV.x (J3),RV.x (J3),RV.x (X0)])) (need [(0:Int)<=(n:Int)/\(n:Int)<=1000000,VX (n:Int)] (need [VX (iI 4),VX (iI 10),W2 n a b c lo hi,∀(x:Value),False->orH n a b c lo hi x/\x=orV x,UD 1 0 λx=>[],UD 1 n λx=>List.map AV.x (Array.toList (Value.cells (X0))),n=n,(0:Int)<=0/\(0:Int)<2^n,2^n-(0:Int).toNat<=2^n,(0:Int)<=0/\(0:Int)<=100,0<=1000] (branch (Option.isSome (orS n a b c lo hi (0:Int).toNat (0:Int))) (need [UD 1 (List.length ((x8 0 λx=>[])++orL z2)) λj=>[i (U7 ((x8 0 λx=>[])++orL z2) j)],List.length ((x8 0 λx=>[])++orL z2)<=100000] (VL.may True z0 (VL.may True z0 z0))) (need [UD 1 0 λx=>[],0<=100000] (VL.may True z1 (VL.may True z1 z1))))))))))) VS ?_
 have h8:=VR.1;have hp1:1<=2^n:=Nat.one_le_two_pow;have hpi:=uG h8;have h256:=rS h8;have hgl:=tQ n a b c lo hi 0 0;simp only [VL.sat,UA,UZ,GI,UC,UG,orE,Int.toNat_zero];refine ⟨λh=>by simp at h,λ_=>⟨λh=>?_,λh=>?_⟩⟩
 ·have hf: ¬qJ n a b c lo hi=true:=by
   rw [Bool.not_eq_true'] at h;rw [h];simp
  rw [if_neg hf];exact ⟨λ_=>rfl,λh=>by simp at h⟩
 ·have hf:qJ n a b c lo hi=true:=by simpa using h
  rw [if_pos hf];have HT:((x8 0 λx=>[])++orL (orG n a b c lo hi 0 0)).length<=100000:=by
   rw [List.length_append];simp only [x8,orL,List.range_zero,List.map_nil,List.length_nil,List.length_map];omega
  refine ⟨λh=>by simp at h,λ_=>⟨VI,⟨λ_ h=>h.elim,λk hk=>absurd hk (Nat.not_lt_zero _),λk _=>rfl,VI,VI⟩,λ_=>?_,λ_=>?_⟩⟩
  ·exact ⟨⟨nI _ _,HT⟩,λ_=>rfl,λ_=>rfl,rfl⟩
  ·exact ⟨⟨λk hk=>absurd hk (Nat.not_lt_zero _),VI⟩,λ_=>rfl,λ_=>rfl,rfl⟩
end
def gdX(sz n:Nat)(f:Nat->List AV):Prop:= ∀k,k<n->(f k).length=sz/\ ∀x∈f k,isX x/\AV.one x=true
def HD(n:Nat)(f:Nat->Int)(x:Int)(k:Nat):Int:=if k<n then f k else x
def apB(n:Nat)(f:Nat->Bool)(x:Bool)(k:Nat):Bool:=if k<n then f k else x
abbrev crs(n:Nat)(a b c d:Nat->Int)(v:Nat->Bool):AV:= .lst 5 n (λk=>[i (a k),i (b k),i (c k),i (d k),bl (v k)])
theorem lC(f:Nat->List AV)(k:Nat):GG 0 (λ_=>[]) f k=f k:=by
 show H6 (decide (k<0)) [] (f (k-0))=_;rw [show decide (k<0)=false by simp]
 rfl
theorem V4{p:Prop}(h:p:=by
 simp only [VL.sat,UA,Xh5,true_and];refine ⟨λh=>h,⟨VI,λk hk x hm=>((UE k hk).2 x hm).2⟩,VI,λk hk=>⟨lC f k,λx hm=>((UE k hk).2 x hm).1⟩⟩):p:=h
theorem Wm7(n:Nat)(f:Nat->List AV)(VR:n<=100000)(UE:gdX 4 n f):DI VN 64 [.lst 4 n f] 72 4 (n) (f):=by
 refine BJ (L:=[]) (VJ.nil _) (VV.of (VP.nil _) (VM.nil _)) VY Tryz.func64 (US Tryz.f64) G4 (t:=VL.may (n=0) (leaf none) (need [(0+n)*32<=140737488355328,∀(i:Nat),i<n-> ∀(a:AV),a∈f i->AV.one a=true] (leaf (some (72,4,0+n,GG 0 (λx=>[]) λa=>f a))))) VS ?_ (λk hk=>(UE k hk).1)
 exact V4
def sY:BG:=λl=>match l with
 |[.lst 4 n f]=>some ([n<=100000,gdX 4 n f],72,4,n,f)
 |_=>none
theorem Wm6:Sx.Enters Tryz.prog 64/\ ∀avs ns T sz n g,sY avs=some (ns,T,sz,n,g)->(∀q∈ns,q)->DI VN 64 avs T sz n g:=by
 refine ⟨(UF Tryz.func64),?_⟩;intro avs ns T sz n g h hn;unfold sY at h;split at h
 ·cases h;exact Wm7 _ _ (hn _ VU) (hn _ VU)
 ·cases h
theorem Wm9(n:Nat)(f:Nat->List AV)(VR:n<=100000)(UE:gdX 5 n f):DI VN 65 [.lst 5 n f] 81 5 (n) (f):=by
 refine BJ (L:=[]) (VJ.nil _) (VV.of (VP.nil _) (VM.nil _)) VY Tryz.func65 (US Tryz.f65) G4 (t:=VL.may (n=0) (leaf none) (need [(0+n)*40<=140737488355328,∀(i:Nat),i<n-> ∀(a:AV),a∈f i->AV.one a=true] (leaf (some (81,5,0+n,GG 0 (λx=>[]) λa=>f a))))) VS ?_ (λk hk=>(UE k hk).1)
 exact V4
def aW:BG:=λl=>match l with
 |[.lst 5 n f]=>some ([n<=100000,gdX 5 n f],81,5,n,f)
 |_=>none
theorem iK:Sx.Enters Tryz.prog 65/\ ∀avs ns T sz n g,aW avs=some (ns,T,sz,n,g)->(∀q∈ns,q)->DI VN 65 avs T sz n g:=by
 refine ⟨(UF Tryz.func65),?_⟩;intro avs ns T sz n g h hn;unfold aW at h;split at h
 ·cases h;exact Wm9 _ _ (hn _ VU) (hn _ VU)
 ·cases h
theorem Wm5(n:Nat)(f:Nat->List AV)(VR:n<=100000)(UE:gdX 5 n f):DI VN 66 [.lst 5 n f] 83 5 (n) (f):=by
 refine BJ (L:=[]) (VJ.nil _) (VV.of (VP.nil _) (VM.nil _)) VY Tryz.func66 (US Tryz.f66) G4 (t:=VL.may (n=0) (leaf none) (need [(0+n)*40<=140737488355328,∀(i:Nat),i<n-> ∀(a:AV),a∈f i->AV.one a=true] (leaf (some (83,5,0+n,GG 0 (λx=>[]) λa=>f a))))) VS ?_ (λk hk=>(UE k hk).1)
 exact V4
def sX:BG:=λl=>match l with
 |[.lst 5 n f]=>some ([n<=100000,gdX 5 n f],83,5,n,f)
 |_=>none
theorem Wm4:Sx.Enters Tryz.prog 66/\ ∀avs ns T sz n g,sX avs=some (ns,T,sz,n,g)->(∀q∈ns,q)->DI VN 66 avs T sz n g:=by
 refine ⟨(UF Tryz.func66),?_⟩;intro avs ns T sz n g h hn;unfold sX at h;split at h
 ·cases h;exact Wm5 _ _ (hn _ VU) (hn _ VU)
 ·cases h
theorem Wm3(n:Nat)(f:Nat->List AV)(VR:n<=100000)(UE:gdX 2 n f):DI VN 67 [.lst 2 n f] 77 2 (n) (f):=by
 refine BJ (L:=[]) (VJ.nil _) (VV.of (VP.nil _) (VM.nil _)) VY Tryz.func67 (US Tryz.f67) G4 (t:=VL.may (n=0) (leaf none) (need [(0+n)*16<=140737488355328,∀(i:Nat),i<n-> ∀(a:AV),a∈f i->AV.one a=true] (leaf (some (77,2,0+n,GG 0 (λx=>[]) λa=>f a))))) VS ?_ (λk hk=>(UE k hk).1)
 exact V4
def sW:BG:=λl=>match l with
 |[.lst 2 n f]=>some ([n<=100000,gdX 2 n f],77,2,n,f)
 |_=>none
theorem Wm2:Sx.Enters Tryz.prog 67/\ ∀avs ns T sz n g,sW avs=some (ns,T,sz,n,g)->(∀q∈ns,q)->DI VN 67 avs T sz n g:=by
 refine ⟨(UF Tryz.func67),?_⟩;intro avs ns T sz n g h hn;unfold sW at h;split at h
 ·cases h;exact Wm3 _ _ (hn _ VU) (hn _ VU)
 ·cases h
abbrev rdl(n:Nat)(r v:Nat->Int):AV:= .lst 2 n (λk=>[i (r k),i (v k)])
theorem V0{p:Prop}(h:p:=by
 have e0:j-n=0:=VI;show H6 (decide (j<n)) _ (U4 _ _ (j-n))=_;rw [e0];rcases (show j<n\/j=n by omega) with h|rfl
 ·rw [decide_eq_true h];simp only [HD,apB,if_pos h];rfl
 ·rw [show decide (j<j)=false by simp]
  simp only [HD,apB,if_neg (Nat.lt_irrefl j)];rfl):p:=h
section
variable (n:Nat)
theorem Zi7(a b u v:Nat->Int)(x0 x1 x2 x3:Int)(VR:n<=100000):VW VN 183 [rds n a b u v,.agg [i x0,i x1,i x2,i x3]] (rds (n+1) (HD n a x0) (HD n b x1) (HD n u x2) (HD n v x3)):=by
 refine GA (X:={R:=[],H:=[],C:=[],F:=[(64,sY)],D:=[] }) (L:=[]) (VJ.nil _) (VV.ofF (VP.nil _) (VM.nil _) (U9.nil _) (RR.cons Wm6 (RR.nil _)) (PY.nil _)) VY Tryz.func183 (US Tryz.f183) G4 (t:=need [n<=100000,gdX 4 n λk=>[Bo.i (a k),Bo.i (b k),Bo.i (u k),Bo.i (v k)]] (need [(n+1)*32<=140737488355328,RS 1 (U4 4 [iI x0,iI x1,iI x2,iI x3])] (leaf (RV.lst 4 (n+1) (GG n ((rq4 a b u v)) (U4 4 [iI x0,iI x1,iI x2,iI x3])))))) VS ?_
 simp only [VL.sat,UA,UZ,GI,UC,UG];have hg:gdX 4 n (λk=>[i (a k),i (b k),i (u k),i (v k)]):=λk _=>⟨rfl,λx hx=>by
  simp only [GK,DQ,or_false] at hx;rcases hx with rfl|rfl|rfl|rfl<;>exact ⟨True.intro,by simp [AV.one,Value.oneCell']⟩⟩
 refine ⟨⟨VR,hg⟩,⟨VI,λj hj x hx=>?_⟩,?_⟩
 ·obtain rfl:j=0:=VI;have hx:x∈[i x0,i x1,i x2,i x3]:=hx;simp only [GK,DQ,or_false] at hx;rcases hx with rfl|rfl|rfl|rfl<;>simp [AV.one,Value.oneCell']
 ·intro j hj;refine ⟨?_,λx hx=>?_⟩
  ·exact V0
  ·simp only [GK,DQ,or_false] at hx;rcases hx with rfl|rfl|rfl|rfl<;>exact True.intro
def Qg9(a b u v:Nat->Int):UV
 |[.lst 4 n1 f1,.agg [.x (.int .i64 x0),.x (.int .i64 x1),.x (.int .i64 x2),.x (.int .i64 x3)]]=>some ([lst 4 n1 f1=rds n a b u v,n<=100000],rds (n+1) (HD n a x0) (HD n b x1) (HD n u x2) (HD n v x3))
 |_=>none
theorem Xf7(a b u v:Nat->Int):VO VN 183 (Qg9 n a b u v):=by
 refine ⟨(UF Tryz.func183),?_⟩;intro avs ns res h hn;unfold Qg9 at h;split at h
 ·cases h;have e:=hn _ GD;rw [e];exact Zi7 n a b u v _ _ _ _ (hn _ VU)
 ·cases h
theorem Zi6(a b c lo hi:Nat->Int)(x0 x1 x2 x3 x4:Int)(VR:n<=100000):VW VN 192 [sls n a b c lo hi,.agg [i x0,i x1,i x2,i x3,i x4]] (sls (n+1) (HD n a x0) (HD n b x1) (HD n c x2) (HD n lo x3) (HD n hi x4)):=by
 refine GA (X:={R:=[],H:=[],C:=[],F:=[(66,sX)],D:=[] }) (L:=[]) (VJ.nil _) (VV.ofF (VP.nil _) (VM.nil _) (U9.nil _) (RR.cons Wm4 (RR.nil _)) (PY.nil _)) VY Tryz.func192 (US Tryz.f192) G4 (t:=need [n<=100000,gdX 5 n λk=>[i (a k),i (b k),i (c k),i (lo k),i (hi k)]] (need [(n+1)*40<=140737488355328,RS 1 (U4 5 [iI x0,iI x1,iI x2,iI x3,iI x4])] (leaf (RV.lst 5 (n+1) (GG n (λk=>[iI (a k),iI (b k),iI (c k),iI (lo k),iI (hi k)]) (U4 5 [iI x0,iI x1,iI x2,iI x3,iI x4])))))) VS ?_
 simp only [VL.sat,UA,UZ,GI,UC,UG];have hg:gdX 5 n (λk=>[i (a k),i (b k),i (c k),i (lo k),i (hi k)]):=λk _=>⟨rfl,λx hx=>by
  simp only [GK,DQ,or_false] at hx;rcases hx with rfl|rfl|rfl|rfl|rfl<;>exact ⟨True.intro,by simp [AV.one,Value.oneCell']⟩⟩
 refine ⟨⟨VR,hg⟩,⟨VI,λj hj x hx=>?_⟩,?_⟩
 ·obtain rfl:j=0:=VI;have hx:x∈[i x0,i x1,i x2,i x3,i x4]:=hx;simp only [GK,DQ,or_false] at hx;rcases hx with rfl|rfl|rfl|rfl|rfl<;>simp [AV.one,Value.oneCell']
 ·intro j hj;refine ⟨?_,λx hx=>?_⟩
  ·exact V0
  ·simp only [GK,DQ,or_false] at hx;rcases hx with rfl|rfl|rfl|rfl|rfl<;>exact True.intro
def Qg8(a b c lo hi:Nat->Int):UV
 |[.lst 5 n1 f1,.agg [.x (.int .i64 x0),.x (.int .i64 x1),.x (.int .i64 x2),.x (.int .i64 x3),.x (.int .i64 x4)]]=>some ([lst 5 n1 f1=sls n a b c lo hi,n<=100000],sls (n+1) (HD n a x0) (HD n b x1) (HD n c x2) (HD n lo x3) (HD n hi x4))
 |_=>none
theorem Xf6(a b c lo hi:Nat->Int):VO VN 192 (Qg8 n a b c lo hi):=by
 refine ⟨(UF Tryz.func192),?_⟩;intro avs ns res h hn;unfold Qg8 at h;split at h
 ·cases h;have e:=hn _ GD;rw [e];exact Zi6 n a b c lo hi _ _ _ _ _ (hn _ VU)
 ·cases h
theorem Zi5(r v:Nat->Int)(x0 x1:Int)(VR:n<=100000):VW VN 190 [rdl n r v,.agg [i x0,i x1]] (rdl (n+1) (HD n r x0) (HD n v x1)):=by
 refine GA (X:={R:=[],H:=[],C:=[],F:=[(67,sW)],D:=[] }) (L:=[]) (VJ.nil _) (VV.ofF (VP.nil _) (VM.nil _) (U9.nil _) (RR.cons Wm2 (RR.nil _)) (PY.nil _)) VY Tryz.func190 (US Tryz.f190) G4 (t:=need [n<=100000,gdX 2 n λk=>[i (r k),i (v k)]] (need [(n+1)*16<=140737488355328,RS 1 (U4 2 [iI x0,iI x1])] (leaf (RV.lst 2 (n+1) (GG n (λk=>[iI (r k),iI (v k)]) (U4 2 [iI x0,iI x1])))))) VS ?_
 simp only [VL.sat,UA,UZ,GI,UC,UG];have hg:gdX 2 n (λk=>[i (r k),i (v k)]):=λk _=>⟨rfl,λx hx=>by
  simp only [GK,DQ,or_false] at hx;rcases hx with rfl|rfl<;>exact ⟨True.intro,by simp [AV.one,Value.oneCell']⟩⟩
 refine ⟨⟨VR,hg⟩,⟨VI,λj hj x hx=>?_⟩,?_⟩
 ·obtain rfl:j=0:=VI;have hx:x∈[i x0,i x1]:=hx;simp only [GK,DQ,or_false] at hx;rcases hx with rfl|rfl<;>simp [AV.one,Value.oneCell']
 ·intro j hj;refine ⟨?_,λx hx=>?_⟩
  ·exact V0
  ·simp only [GK,DQ,or_false] at hx;rcases hx with rfl|rfl<;>exact True.intro
def Qg7(r v:Nat->Int):UV
 |[.lst 2 n1 f1,.agg [.x (.int .i64 x0),.x (.int .i64 x1)]]=>some ([lst 2 n1 f1=rdl n r v,n<=100000],rdl (n+1) (HD n r x0) (HD n v x1))
 |_=>none
theorem Xf5(r v:Nat->Int):VO VN 190 (Qg7 n r v):=by
 refine ⟨(UF Tryz.func190),?_⟩;intro avs ns res h hn;unfold Qg7 at h;split at h
 ·cases h;have e:=hn _ GD;rw [e];exact Zi5 n r v _ _ (hn _ VU)
 ·cases h
theorem Zi8(a b c d:Nat->Int)(w:Nat->Bool)(x0 x1 x2 x3:Int)(xw:Bool)(VR:n<=100000):VW VN 191 [crs n a b c d w,.agg [i x0,i x1,i x2,i x3,bl xw]] (crs (n+1) (HD n a x0) (HD n b x1) (HD n c x2) (HD n d x3) (apB n w xw)):=by
 refine GA (X:={R:=[],H:=[],C:=[],F:=[(65,aW)],D:=[] }) (L:=[]) (VJ.nil _) (VV.ofF (VP.nil _) (VM.nil _) (U9.nil _) (RR.cons iK (RR.nil _)) (PY.nil _)) VY Tryz.func191 (US Tryz.f191) G4 (t:=need [n<=100000,gdX 5 n λk=>[i (a k),i (b k),i (c k),i (d k),bl (w k)]] (need [(n+1)*40<=140737488355328,RS 1 (U4 5 [iI x0,iI x1,iI x2,iI x3,AV.x (.bool xw)])] (leaf (RV.lst 5 (n+1) (GG n (λk=>[iI (a k),iI (b k),iI (c k),iI (d k),AV.x (.bool (w k))]) (U4 5 [iI x0,iI x1,iI x2,iI x3,AV.x (.bool xw)])))))) VS ?_
 simp only [VL.sat,UA,UZ,GI,UC,UG];have hg:gdX 5 n (λk=>[i (a k),i (b k),i (c k),i (d k),bl (w k)]):=λk _=>⟨rfl,λx hx=>by
  simp only [GK,DQ,or_false] at hx;rcases hx with rfl|rfl|rfl|rfl|rfl<;>exact ⟨True.intro,by simp [AV.one,Value.oneCell']⟩⟩
 refine ⟨⟨VR,hg⟩,⟨VI,λj hj x hx=>?_⟩,?_⟩
 ·obtain rfl:j=0:=VI;have hx:x∈[i x0,i x1,i x2,i x3,bl xw]:=hx;simp only [GK,DQ,or_false] at hx;rcases hx with rfl|rfl|rfl|rfl|rfl<;>simp [AV.one,Value.oneCell']
 ·intro j hj;refine ⟨?_,λx hx=>?_⟩
  ·exact V0
  ·simp only [GK,DQ,or_false] at hx;rcases hx with rfl|rfl|rfl|rfl|rfl<;>exact True.intro
def Qh0(a b c d:Nat->Int)(w:Nat->Bool):UV
 |[.lst 5 n1 f1,.agg [.x (.int .i64 x0),.x (.int .i64 x1),.x (.int .i64 x2),.x (.int .i64 x3),.x (.bool xw)]]=>some ([lst 5 n1 f1=crs n a b c d w,n<=100000],crs (n+1) (HD n a x0) (HD n b x1) (HD n c x2) (HD n d x3) (apB n w xw))
 |_=>none
theorem Xf8(a b c d:Nat->Int)(w:Nat->Bool):VO VN 191 (Qh0 n a b c d w):=by
 refine ⟨(UF Tryz.func191),?_⟩;intro avs ns res h hn;unfold Qh0 at h;split at h
 ·cases h;have e:=hn _ GD;rw [e];exact Zi8 n a b c d w _ _ _ _ _ (hn _ VU)
 ·cases h
end
def RL:UV
 |[.x (.int .i64 n),.x (.int .i64 lo),.x (.int .i64 hi)]=>some ([],bl (bt lo n hi))
 |_=>none
theorem oU(n lo hi:Int):VW VN 37 [i n,i lo,i hi] (bl (bt lo n hi)):=by
 refine GU Tryz.func37 (t:=branch (decide (lo<=n)) (leaf (RV.x (.bool (decide (n<=hi))))) (leaf (RV.x (WM)))) VS ?_;exact V8
theorem PQ:VO VN 37 RL:=by
 refine ⟨(UF Tryz.func37),?_⟩;intro avs ns res h hn;unfold RL at h;split at h
 ·cases h;exact oU _ _ _
 ·cases h
end Go.Proofs.YtlclobclmfhlmaaGreatDoor.Hd
