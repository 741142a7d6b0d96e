/- Contracts, put together. Conditions: those of each. -/
import Derived.Test.YtakpdkmhclhlnaaGreatDoorMh
import Derived.Shelf.Slices.Cells
import Derived.Deep.Upon
set_option linter.unusedSimpArgs false
set_option linter.unusedVariables false
set_option maxRecDepth 100000
namespace Go.Proofs.YtakpdkmhclhlnaaGreatDoor.Hd
open Go Go.Shelf Go.Sx Go.RowKit
def oW:Go.Shelf.Ren:=⟨λ| 112=>238|n=>n,λ| 28=>22|n=>n,λn=>n⟩
theorem Wg2:Go.Proofs.Lays.n112 Tryz.prog oW:=by
 constructor<;>first|(intro _;kernel_rfl)|kernel_rfl|(constructor<;>first|(intro _;kernel_rfl)|kernel_rfl|(constructor<;>first|(intro _;kernel_rfl)|kernel_rfl))
def tH:HY:=λavs m nx sv=>match avs with
 |[.row q]=>match D8 m q with
  |some (.row T sz n g)=>match NT [(T,3),(sz,1)] with
   |true=>some (.needT [U9 1 n g,n<=100000] (.leaf (.tup [],jC (oO m) q,nx,sv)))
   |false=>none
  |_=>none
 |_=>none
theorem yK(b:Nat): ∀(vs:List Value) (o:Nat) (w:World),(w.setCells b o vs).heap.size=w.heap.size
 |[],_,_=>rfl
 |v::r,o,w=>by
  rw [World.setCells,yK b r];simp
theorem yJ(b:Nat): ∀(vs:List Value) (o:Nat) (w:World),(w.setCells b o vs).tape=w.tape
 |[],_,_=>rfl
 |v::r,o,w=>by
  rw [World.setCells,yJ b r];simp
theorem Ql3{w:World}{ov:Value}{n:Nat}{l:List Int}(I:n<=100000)(ho:w.ownsRow 0 3 1 ov n (l.map (Value.int .i64))):
  Calls Tryz.prog 238 #[ov] w λen Z=>en= .returned (.tuple #[])/\Z.heap.size=w.heap.size/\Z.os=w.os/\Z.tape=w.tape/\Z.output=w.output/\ ∀x,x<w.heap.size->ov.ownBlock≠some x->Z.heap[x]? =w.heap[x]? :=by
 have HR:l.length=n:=by
  have:=ho.1;simpa using this
 rcases ho.2 with ⟨rfl,rfl⟩|⟨g,cap,cur,rfl,_,hh,r1,r2,r3,r4⟩;refine Calls.mono (Any.slices_Reverse_int_empty Wg2 none 0 w) ?_;rintro en Z ⟨rfl,rfl⟩;exact ⟨rfl,rfl,rfl,rfl,rfl,λ_ _ _=>rfl⟩;have gL: ∀j,j<l.length->w.cell? ⟨g,0+j,none⟩=some (.int .i64 (l.getD j 0)):=by
  intro j hj;have h2:cur[j]? =some (.int .i64 (l.getD j 0)):=by
   have h3:=congrArg (λl=>l[j]?) r4;simp only [List.getElem?_take,Bn] at h3;rw [if_pos VG,HX hj] at h3;rw [List.getD_eq_getElem?_getD,HX hj];simpa using h3
  rw [Ap];simp [World.cell?,hh,h2]
 refine Calls.mono (Any.slices_Reverse_int_cells Wg2 g 0 n cap l w VG VG gL (λj _=>by simp [World.frozen?,hh])) ?_
 rintro en Z ⟨rfl,q,rfl⟩;refine ⟨rfl,?_,?_,?_,?_,λx hx hne=>?_⟩;rw [yK];rfl;rw [World.os_setCells];rfl;rw [yJ];rfl;rw [World.output_setCells];rfl;exact World.heap_setCells_other (w.drewN q) g 0 _ hx (λh=>hne (by rw [h];rfl))
theorem Wc9:G8 VL 238 tH:=by
 refine ⟨(UC Tryz.func238),?_⟩;intro avs m nx sv tr ht Q hQ cx w0 TT e ds args w hE hB hm hlv LL hxt hr;unfold tH at ht;split at ht;rename_i q;split at ht;rename_i T sz n g h1;split at ht;rename_i hb;simp only [EH] at hb;obtain ⟨rfl,rfl,_⟩:=hb;cases ht;obtain ⟨I,hq⟩:=VJ.sat_needT hQ;obtain ⟨n1,n2⟩:=I;obtain ⟨ov,l1,rfl,r1,hr⟩:=hr.cons_inv;obtain rfl:=hr.nil_inv;have H1:=hm _ (UW h1);have R1:=qD H1 n1;have hv:e.val q=ov:=by
  cases r1 with
  |row _ a n c _ hv=>exact hv
 simp only at R1;rw [hv] at R1;have own1: ∀x,ov.ownBlock=some x->e.own x=some q:=λx hx=>H1.2.1 x (by show (e.val q).ownBlock=some x;rw [hv];exact hx)
 refine (Ql3 n2 R1).mono ?_;rintro en Z ⟨rfl,hsz,q1,q2,q3,j6⟩;have dne: ∀{x y j j':Nat},e.own x=some j->e.own y=some j'->j≠j'->x≠y:=by
  rintro x y j j' hx hy hj rfl;rw [hx] at hy;exact hj (Bb hy)
 have Xh7: ∀x,x<w.heap.size->e.ro x->Z.heap[x]? =w.heap[x]? :=λx hx hx2=>j6 x hx (λh=>by
  have:=own1 x h;rw [(hE.apart x hx2).1] at this;cases this)
 have st:Step e e w Z:=⟨λx hx hx2=>⟨hx2,Xh7 x hx hx2⟩,λ_ h=>⟨h,rfl,rfl⟩,VG⟩;have hBel:Below w0.heap.size w0 Z:=by
  refine ⟨q1.trans hB.os,q2.trans hB.tape,q3.trans hB.output,by have:=hB.size;omega,λx hx=>?_⟩
  rw [j6 x (xS hx hB.size) (λh=>by have:=(hE.owned _ _ (own1 x h)).1;omega)]
  exact hB.block x hx
 refine ⟨_,_,_,_,_,e,rfl,hq,⟨λx hx=>⟨(hE.apart x hx).1,by rw [hsz];exact (hE.apart x hx).2⟩,λx j hx=>⟨(hE.owned x j hx).1,by rw [hsz];exact (hE.owned x j hx).2⟩,hE.glob.step st⟩,hBel,?_,hlv,LL,hxt.step st,Rep.tupL (.nil _ _)⟩
 intro p hp;obtain ⟨hp,hne⟩:=L0 hp;obtain ⟨hpm,hna⟩:=EK hp;exact LF st (λx hx=>⟨hx,j6 x (hE.owned x _ hx).2 (λh=>dne hx (own1 x h) hne rfl)⟩) hna (hm p hpm);cases ht;cases ht;cases ht
end Go.Proofs.YtakpdkmhclhlnaaGreatDoor.Hd
namespace Go.Proofs.YtakpdkmhclhlnaaGreatDoor.Hd
open Go Go.Sx Go.RowKit Bo
open Go.Sx.VJ (need branch leaf)
open Go.Sx.AV (lst ptr agg roI tup top)
section
variable (n:Nat)(a b c U O:Nat->Int)
def orE:Int:=if xI n a b c U O=true then 0 else 9
theorem Qm2(VO:sV n a b c U O):VV VL 213 [.agg [i 4,i 10,sls n a b c U O]] (.tup [.top,.top,i (orE n a b c U O)]):=by
 refine G9 (X:={R:=[],H:=[(237,(Xs3 [(.slot 1,0,0,0),(.slot 2,0,0,0),(.slot 3,0,0,0),(.cell 1 0,900,3,1)] (mV n a b c U O (2^n)))),(238,tH)],C:=[(55,(MC n a b c U O))] }) (L:=[]) Aa (Aj Ab (Ag (eF (Wd4 VO (2^n))) (Ag Wc9 Ac)) (Ah (v6 n a b c U O VO) (U1.nil _))) VW Tryz.func213 (UR Tryz.f213) UV (t:=let z2:=(orG n a b c U O (0:Int).toNat (0:Int));let z0:=(leaf (RV.tup [RV.top,RV.lst 1 n λj=>[iI (dyU z2 (col 0 λx=>List.map AV.x (Array.toList (Value.cells (X0)))) j)],RV.x (X0)]));let z1:=(leaf (RV.tup [RV.top,RV.lst 1 n λx=>[iI 0],RV.x (X0)]));let z3:=(need [(0:Int)<=(n:Int)/\(n:Int)<=1000000,VU (n:Int)] VJ.fail);(need [QP n a b c U O] (branch (!true) (branch ((2:Int) != 0) (leaf (RV.tup [RV.x (J2),RV.x (J2),RV.x (.int .i64 (2:Int))])) z3) (branch (!xI n a b c U O) (branch ((9:Int) != 0) (leaf (RV.tup [RV.x (J2),RV.x (J2),RV.x (.int .i64 (9:Int))])) z3) (branch ((0:Int) != 0) (leaf (RV.tup [RV.x (J2),RV.x (J2),RV.x (X0)])) (need [(0:Int)<=(n:Int)/\(n:Int)<=1000000,VU (n:Int)] (need [VU (iI 4),VU (iI 10),W0 n a b c U O,∀(x:Value),False->orH n a b c U O x/\x=orV x,U9 1 0 λx=>[],U9 1 n λx=>List.map AV.x (Array.toList (Value.cells (X0))),n=n,(0:Int)<=0/\(0:Int)<2^n,2^n-(0:Int).toNat<=2^n,(0:Int)<=0/\(0:Int)<=100,0<=1000] (branch (Option.isSome (orS n a b c U O (0:Int).toNat (0:Int))) (need [U9 1 (List.length ((xA 0 λx=>[])++orL z2)) λj=>[i (U6 ((xA 0 λx=>[])++orL z2) j)],List.length ((xA 0 λx=>[])++orL z2)<=100000] (VJ.may True z0 (VJ.may True z0 z0))) (need [U9 1 0 λx=>[],0<=100000] (VJ.may True z1 (VJ.may True z1 z1))))))))))) VQ ?_;have h8:=VO.1;have hp1:1<=2^n:=Cc;have hpi:=uO h8;have h256:=A1 h8;have hgl:=Qb1 n a b c U O 0 0;simp only [VJ.sat,U8,UZ,GH,UB,UE,orE,Int.toNat_zero];refine ⟨λh=>by simp at h,λ_=>⟨λh=>?_,λh=>?_⟩⟩
 have hf: ¬xI n a b c U O=true:=by
  rw [Ax] at h;rw [h];simp
 rw [if_neg hf];exact ⟨λ_=>rfl,λh=>by simp at h⟩
 have hf:xI n a b c U O=true:=by simpa using h
 rw [if_pos hf];have HR:((xA 0 λx=>[])++orL (orG n a b c U O 0 0)).length<=100000:=by
  rw [Be];simp only [xA,orL,List.range_zero,List.map_nil,List.length_nil,Bm];omega
 refine ⟨λh=>by simp at h,λ_=>⟨VG,⟨λ_ h=>h.elim,λk hk=>absurd hk (Aq _),λk _=>rfl,VG,VG⟩,λ_=>?_,λ_=>?_⟩⟩
 exact ⟨⟨nP _ _,HR⟩,λ_=>rfl,λ_=>rfl,rfl⟩;exact ⟨⟨λk hk=>absurd hk (Aq _),VG⟩,λ_=>rfl,λ_=>rfl,rfl⟩
end
def gdX(sz n:Nat)(f:Nat->List AV):Prop:= ∀k,k<n->(f k).length=sz/\ ∀x∈f k,isX x/\AV.one x=true
def H3(n:Nat)(f:Nat->Int)(x:Int)(k:Nat):Int:=if k<n then f k else x
def apB(n:Nat)(f:Nat->Bool)(x:Bool)(k:Nat):Bool:=if k<n then f k else x
abbrev crs(n:Nat)(a b c d:Nat->Int)(v:Nat->Bool):AV:= .lst 5 n (λk=>[i (a k),i (b k),i (c k),i (d k),bl (v k)])
theorem lI(f:Nat->List AV)(k:Nat):GE 0 (λ_=>[]) f k=f k:=by
 show H9 (decide (k<0)) [] (f (k-0))=_;rw [show decide (k<0)=false by simp]
 rfl
theorem V2{p:Prop}(h:p:=by
 simp only [VJ.sat,U8,Xi9,true_and];refine ⟨λh=>h,⟨VG,λk hk x hm=>((UD k hk).2 x hm).2⟩,VG,λk hk=>⟨lI f k,λx hm=>((UD k hk).2 x hm).1⟩⟩):p:=h
theorem Wn8(n:Nat)(f:Nat->List AV)(VO:n<=100000)(UD:gdX 4 n f):DG VL 99 [.lst 4 n f] 145 4 (n) (f):=by
 refine BK (L:=[]) Aa Ad VW Tryz.func99 (UR Tryz.f99) UV (t:=VJ.may (n=0) (leaf none) (need [(0+n)*32<=140737488355328,∀(i:Nat),i<n-> ∀(a:AV),a∈f i->AV.one a=true] (leaf (some (145,4,0+n,GE 0 (λx=>[]) λa=>f a))))) VQ ?_ (λk hk=>(UD k hk).1);exact V2
def tM:BI:=λl=>match l with
 |[.lst 4 n f]=>some ([n<=100000,gdX 4 n f],145,4,n,f)
 |_=>none
theorem Wn7:Sx.Enters Tryz.prog 99/\ ∀avs ns T sz n g,tM avs=some (ns,T,sz,n,g)->(∀q∈ns,q)->DG VL 99 avs T sz n g:=by
 refine ⟨(UC Tryz.func99),?_⟩;intro avs ns T sz n g h I;unfold tM at h;split at h;cases h;exact Wn8 _ _ (I _ VS) (I _ VS);cases h
theorem Wo0(n:Nat)(f:Nat->List AV)(VO:n<=100000)(UD:gdX 5 n f):DG VL 100 [.lst 5 n f] 74 5 (n) (f):=by
 refine BK (L:=[]) Aa Ad VW Tryz.func100 (UR Tryz.f100) UV (t:=VJ.may (n=0) (leaf none) (need [(0+n)*40<=140737488355328,∀(i:Nat),i<n-> ∀(a:AV),a∈f i->AV.one a=true] (leaf (some (74,5,0+n,GE 0 (λx=>[]) λa=>f a))))) VQ ?_ (λk hk=>(UD k hk).1);exact V2
def b9:BI:=λl=>match l with
 |[.lst 5 n f]=>some ([n<=100000,gdX 5 n f],74,5,n,f)
 |_=>none
theorem iR:Sx.Enters Tryz.prog 100/\ ∀avs ns T sz n g,b9 avs=some (ns,T,sz,n,g)->(∀q∈ns,q)->DG VL 100 avs T sz n g:=by
 refine ⟨(UC Tryz.func100),?_⟩;intro avs ns T sz n g h I;unfold b9 at h;split at h;cases h;exact Wo0 _ _ (I _ VS) (I _ VS);cases h
theorem Wn6(n:Nat)(f:Nat->List AV)(VO:n<=100000)(UD:gdX 5 n f):DG VL 101 [.lst 5 n f] 152 5 (n) (f):=by
 refine BK (L:=[]) Aa Ad VW Tryz.func101 (UR Tryz.f101) UV (t:=VJ.may (n=0) (leaf none) (need [(0+n)*40<=140737488355328,∀(i:Nat),i<n-> ∀(a:AV),a∈f i->AV.one a=true] (leaf (some (152,5,0+n,GE 0 (λx=>[]) λa=>f a))))) VQ ?_ (λk hk=>(UD k hk).1);exact V2
def tL:BI:=λl=>match l with
 |[.lst 5 n f]=>some ([n<=100000,gdX 5 n f],152,5,n,f)
 |_=>none
theorem Wn5:Sx.Enters Tryz.prog 101/\ ∀avs ns T sz n g,tL avs=some (ns,T,sz,n,g)->(∀q∈ns,q)->DG VL 101 avs T sz n g:=by
 refine ⟨(UC Tryz.func101),?_⟩;intro avs ns T sz n g h I;unfold tL at h;split at h;cases h;exact Wn6 _ _ (I _ VS) (I _ VS);cases h
theorem Wn4(n:Nat)(f:Nat->List AV)(VO:n<=100000)(UD:gdX 2 n f):DG VL 102 [.lst 2 n f] 150 2 (n) (f):=by
 refine BK (L:=[]) Aa Ad VW Tryz.func102 (UR Tryz.f102) UV (t:=VJ.may (n=0) (leaf none) (need [(0+n)*16<=140737488355328,∀(i:Nat),i<n-> ∀(a:AV),a∈f i->AV.one a=true] (leaf (some (150,2,0+n,GE 0 (λx=>[]) λa=>f a))))) VQ ?_ (λk hk=>(UD k hk).1);exact V2
def tK:BI:=λl=>match l with
 |[.lst 2 n f]=>some ([n<=100000,gdX 2 n f],150,2,n,f)
 |_=>none
theorem Wn3:Sx.Enters Tryz.prog 102/\ ∀avs ns T sz n g,tK avs=some (ns,T,sz,n,g)->(∀q∈ns,q)->DG VL 102 avs T sz n g:=by
 refine ⟨(UC Tryz.func102),?_⟩;intro avs ns T sz n g h I;unfold tK at h;split at h;cases h;exact Wn4 _ _ (I _ VS) (I _ VS);cases h
abbrev rdl(n:Nat)(r v:Nat->Int):AV:= .lst 2 n (λk=>[i (r k),i (v k)])
theorem YY{p:Prop}(h:p:=by
 have e0:j-n=0:=VG;show H9 (decide (j<n)) _ (U3 _ _ (j-n))=_;rw [e0];rcases (show j<n\/j=n by omega) with h|rfl
 rw [decide_eq_true h];simp only [H3,apB,if_pos h];rfl;rw [show decide (j<j)=false by simp]
 simp only [H3,apB,if_neg (Bf j)];rfl):p:=h
section
variable (n:Nat)
theorem Zk4(a b u v:Nat->Int)(x0 A W S:Int)(VO:n<=100000):VV VL 204 [rds n a b u v,.agg [i x0,i A,i W,i S]] (rds (n+1) (H3 n a x0) (H3 n b A) (H3 n u W) (H3 n v S)):=by
 refine G9 (X:={R:=[],H:=[],C:=[],F:=[(99,tM)],D:=[] }) (L:=[]) Aa (VT.ofF Ab Ac (U1.nil _) (RP.cons Wn7 (RP.nil _)) (PY.nil _)) VW Tryz.func204 (UR Tryz.f204) UV (t:=need [n<=100000,gdX 4 n λk=>[Bo.i (a k),Bo.i (b k),Bo.i (u k),Bo.i (v k)]] (need [(n+1)*32<=140737488355328,RQ 1 (U3 4 [iI x0,iI A,iI W,iI S])] (leaf (RV.lst 4 (n+1) (GE n ((rq4 a b u v)) (U3 4 [iI x0,iI A,iI W,iI S])))))) VQ ?_;simp only [VJ.sat,U8,UZ,GH,UB,UE];have hg:gdX 4 n (λk=>[i (a k),i (b k),i (u k),i (v k)]):=λk _=>⟨rfl,λx hx=>by
  simp only [GK,DP,or_false] at hx;rcases hx with rfl|rfl|rfl|rfl<;>exact ⟨Ak,by simp [AV.one,Value.oneCell']⟩⟩
 refine ⟨⟨VO,hg⟩,⟨VG,λj hj x hx=>?_⟩,?_⟩;obtain rfl:j=0:=VG;have hx:x∈[i x0,i A,i W,i S]:=hx;simp only [GK,DP,or_false] at hx;rcases hx with rfl|rfl|rfl|rfl<;>simp [AV.one,Value.oneCell'];intro j hj;refine ⟨?_,λx hx=>?_⟩;exact YY;simp only [GK,DP,or_false] at hx;rcases hx with rfl|rfl|rfl|rfl<;>exact Ak
def Qi5(a b u v:Nat->Int):UU
 |[.lst 4 n1 f1,.agg [.x (.int .i64 x0),.x (.int .i64 A),.x (.int .i64 W),.x (.int .i64 S)]]=>some ([lst 4 n1 f1=rds n a b u v,n<=100000],rds (n+1) (H3 n a x0) (H3 n b A) (H3 n u W) (H3 n v S))
 |_=>none
theorem Xh2(a b u v:Nat->Int):VM VL 204 (Qi5 n a b u v):=by
 refine ⟨(UC Tryz.func204),?_⟩;intro avs ns res h I;unfold Qi5 at h;split at h;cases h;have e:=I _ GB;rw [e];exact Zk4 n a b u v _ _ _ _ (I _ VS);cases h
theorem Zk3(a b c U O:Nat->Int)(x0 A W S x4:Int)(VO:n<=100000):VV VL 212 [sls n a b c U O,.agg [i x0,i A,i W,i S,i x4]] (sls (n+1) (H3 n a x0) (H3 n b A) (H3 n c W) (H3 n U S) (H3 n O x4)):=by
 refine G9 (X:={R:=[],H:=[],C:=[],F:=[(101,tL)],D:=[] }) (L:=[]) Aa (VT.ofF Ab Ac (U1.nil _) (RP.cons Wn5 (RP.nil _)) (PY.nil _)) VW Tryz.func212 (UR Tryz.f212) UV (t:=need [n<=100000,gdX 5 n λk=>[i (a k),i (b k),i (c k),i (U k),i (O k)]] (need [(n+1)*40<=140737488355328,RQ 1 (U3 5 [iI x0,iI A,iI W,iI S,iI x4])] (leaf (RV.lst 5 (n+1) (GE n (λk=>[iI (a k),iI (b k),iI (c k),iI (U k),iI (O k)]) (U3 5 [iI x0,iI A,iI W,iI S,iI x4])))))) VQ ?_;simp only [VJ.sat,U8,UZ,GH,UB,UE];have hg:gdX 5 n (λk=>[i (a k),i (b k),i (c k),i (U k),i (O k)]):=λk _=>⟨rfl,λx hx=>by
  simp only [GK,DP,or_false] at hx;rcases hx with rfl|rfl|rfl|rfl|rfl<;>exact ⟨Ak,by simp [AV.one,Value.oneCell']⟩⟩
 refine ⟨⟨VO,hg⟩,⟨VG,λj hj x hx=>?_⟩,?_⟩;obtain rfl:j=0:=VG;have hx:x∈[i x0,i A,i W,i S,i x4]:=hx;simp only [GK,DP,or_false] at hx;rcases hx with rfl|rfl|rfl|rfl|rfl<;>simp [AV.one,Value.oneCell'];intro j hj;refine ⟨?_,λx hx=>?_⟩;exact YY;simp only [GK,DP,or_false] at hx;rcases hx with rfl|rfl|rfl|rfl|rfl<;>exact Ak
def Qi4(a b c U O:Nat->Int):UU
 |[.lst 5 n1 f1,.agg [.x (.int .i64 x0),.x (.int .i64 A),.x (.int .i64 W),.x (.int .i64 S),.x (.int .i64 x4)]]=>some ([lst 5 n1 f1=sls n a b c U O,n<=100000],sls (n+1) (H3 n a x0) (H3 n b A) (H3 n c W) (H3 n U S) (H3 n O x4))
 |_=>none
theorem Xh1(a b c U O:Nat->Int):VM VL 212 (Qi4 n a b c U O):=by
 refine ⟨(UC Tryz.func212),?_⟩;intro avs ns res h I;unfold Qi4 at h;split at h;cases h;have e:=I _ GB;rw [e];exact Zk3 n a b c U O _ _ _ _ _ (I _ VS);cases h
theorem Zk2(r v:Nat->Int)(x0 A:Int)(VO:n<=100000):VV VL 210 [rdl n r v,.agg [i x0,i A]] (rdl (n+1) (H3 n r x0) (H3 n v A)):=by
 refine G9 (X:={R:=[],H:=[],C:=[],F:=[(102,tK)],D:=[] }) (L:=[]) Aa (VT.ofF Ab Ac (U1.nil _) (RP.cons Wn3 (RP.nil _)) (PY.nil _)) VW Tryz.func210 (UR Tryz.f210) UV (t:=need [n<=100000,gdX 2 n λk=>[i (r k),i (v k)]] (need [(n+1)*16<=140737488355328,RQ 1 (U3 2 [iI x0,iI A])] (leaf (RV.lst 2 (n+1) (GE n (λk=>[iI (r k),iI (v k)]) (U3 2 [iI x0,iI A])))))) VQ ?_;simp only [VJ.sat,U8,UZ,GH,UB,UE];have hg:gdX 2 n (λk=>[i (r k),i (v k)]):=λk _=>⟨rfl,λx hx=>by
  simp only [GK,DP,or_false] at hx;rcases hx with rfl|rfl<;>exact ⟨Ak,by simp [AV.one,Value.oneCell']⟩⟩
 refine ⟨⟨VO,hg⟩,⟨VG,λj hj x hx=>?_⟩,?_⟩;obtain rfl:j=0:=VG;have hx:x∈[i x0,i A]:=hx;simp only [GK,DP,or_false] at hx;rcases hx with rfl|rfl<;>simp [AV.one,Value.oneCell'];intro j hj;refine ⟨?_,λx hx=>?_⟩;exact YY;simp only [GK,DP,or_false] at hx;rcases hx with rfl|rfl<;>exact Ak
def Qi3(r v:Nat->Int):UU
 |[.lst 2 n1 f1,.agg [.x (.int .i64 x0),.x (.int .i64 A)]]=>some ([lst 2 n1 f1=rdl n r v,n<=100000],rdl (n+1) (H3 n r x0) (H3 n v A))
 |_=>none
theorem Xh0(r v:Nat->Int):VM VL 210 (Qi3 n r v):=by
 refine ⟨(UC Tryz.func210),?_⟩;intro avs ns res h I;unfold Qi3 at h;split at h;cases h;have e:=I _ GB;rw [e];exact Zk2 n r v _ _ (I _ VS);cases h
theorem Zk5(a b c d:Nat->Int)(w:Nat->Bool)(x0 A W S:Int)(xw:Bool)(VO:n<=100000):VV VL 211 [crs n a b c d w,.agg [i x0,i A,i W,i S,bl xw]] (crs (n+1) (H3 n a x0) (H3 n b A) (H3 n c W) (H3 n d S) (apB n w xw)):=by
 refine G9 (X:={R:=[],H:=[],C:=[],F:=[(100,b9)],D:=[] }) (L:=[]) Aa (VT.ofF Ab Ac (U1.nil _) (RP.cons iR (RP.nil _)) (PY.nil _)) VW Tryz.func211 (UR Tryz.f211) UV (t:=need [n<=100000,gdX 5 n λk=>[i (a k),i (b k),i (c k),i (d k),bl (w k)]] (need [(n+1)*40<=140737488355328,RQ 1 (U3 5 [iI x0,iI A,iI W,iI S,AV.x (.bool xw)])] (leaf (RV.lst 5 (n+1) (GE n (λk=>[iI (a k),iI (b k),iI (c k),iI (d k),AV.x (.bool (w k))]) (U3 5 [iI x0,iI A,iI W,iI S,AV.x (.bool xw)])))))) VQ ?_;simp only [VJ.sat,U8,UZ,GH,UB,UE];have hg:gdX 5 n (λk=>[i (a k),i (b k),i (c k),i (d k),bl (w k)]):=λk _=>⟨rfl,λx hx=>by
  simp only [GK,DP,or_false] at hx;rcases hx with rfl|rfl|rfl|rfl|rfl<;>exact ⟨Ak,by simp [AV.one,Value.oneCell']⟩⟩
 refine ⟨⟨VO,hg⟩,⟨VG,λj hj x hx=>?_⟩,?_⟩;obtain rfl:j=0:=VG;have hx:x∈[i x0,i A,i W,i S,bl xw]:=hx;simp only [GK,DP,or_false] at hx;rcases hx with rfl|rfl|rfl|rfl|rfl<;>simp [AV.one,Value.oneCell'];intro j hj;refine ⟨?_,λx hx=>?_⟩;exact YY;simp only [GK,DP,or_false] at hx;rcases hx with rfl|rfl|rfl|rfl|rfl<;>exact Ak
def Qi6(a b c d:Nat->Int)(w:Nat->Bool):UU
 |[.lst 5 n1 f1,.agg [.x (.int .i64 x0),.x (.int .i64 A),.x (.int .i64 W),.x (.int .i64 S),.x (.bool xw)]]=>some ([lst 5 n1 f1=crs n a b c d w,n<=100000],crs (n+1) (H3 n a x0) (H3 n b A) (H3 n c W) (H3 n d S) (apB n w xw))
 |_=>none
theorem Xh3(a b c d:Nat->Int)(w:Nat->Bool):VM VL 211 (Qi6 n a b c d w):=by
 refine ⟨(UC Tryz.func211),?_⟩;intro avs ns res h I;unfold Qi6 at h;split at h;cases h;have e:=I _ GB;rw [e];exact Zk5 n a b c d w _ _ _ _ _ (I _ VS);cases h
end
def RJ:UU
 |[.x (.int .i64 n),.x (.int .i64 U),.x (.int .i64 O)]=>some ([],bl (bt U n O))
 |_=>none
theorem pH(n U O:Int):VV VL 36 [i n,i U,i O] (bl (bt U n O)):=by
 refine GS Tryz.func36 (t:=branch (decide (U<=n)) (leaf (RV.x (.bool (decide (n<=O))))) (leaf (RV.x (WK)))) VQ ?_;exact V6
theorem PO:VM VL 36 RJ:=by
 refine ⟨(UC Tryz.func36),?_⟩;intro avs ns res h I;unfold RJ at h;split at h;cases h;exact pH _ _ _;cases h
end Go.Proofs.YtakpdkmhclhlnaaGreatDoor.Hd
