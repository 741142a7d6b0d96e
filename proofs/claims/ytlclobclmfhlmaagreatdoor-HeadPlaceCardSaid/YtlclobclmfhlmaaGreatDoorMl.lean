/- Contracts, put together. Conditions: those of each. -/
import Derived.Test.YtlclobclmfhlmaaGreatDoorMk
import Derived.Shelf.Spec.SlicesGrow
set_option linter.unusedSimpArgs false
set_option linter.unusedVariables false
set_option maxRecDepth 100000
namespace Go.Proofs.YtlclobclmfhlmaaGreatDoor.Hd
open Go Go.Shelf
def iL:Go.Shelf.Ren:=⟨λ| 4=>219|n=>n,λ| 22=>25| 25=>72|n=>n,λn=>n⟩
theorem Qd8:Go.Proofs.Lays8.n4 Tryz.prog iL:=by
 constructor
 case f4=>exact ⟨Tryz.f219.name,(of_decide_eq_true (by kernel_rfl)),Tryz.func219.trans (congrArg some (by kernel_rfl))⟩
 all_goals first|(intro _;kernel_rfl)|kernel_rfl
open Go Go.Shelf Go.Sx Go.RowKit
theorem Zn0: ∃i0 z,Tryz.prog.info? 72=some i0/\i0.zero=some z/\i0.size=4/\i0.bytes=32/\z.cells.size=4:=by
 have h:((Tryz.prog.info? 72).bind λi=>i.zero.map λz=>(i.size,i.bytes,z.cells.size))=some (4,32,4):=VW
 cases O:Tryz.prog.info? 72 with
 |none=>rw [O] at h;cases h
 |some i0=>
  rw [O] at h;cases hz:i0.zero with
  |none=>
   have h:(i0.zero.map λz=>(i0.size,i0.bytes,z.cells.size))=some (4,32,4):=h
   rw [hz] at h;cases h
  |some z=>
   have h:(i0.zero.map λz=>(i0.size,i0.bytes,z.cells.size))=some (4,32,4):=h
   rw [hz] at h;simp only [Bt,HH,FE] at h;exact ⟨i0,z,rfl,hz,h.1,h.2.1,h.2.2⟩
theorem sG(k:Nat)(hk:k<=100000)(w:World):Calls Tryz.prog 219 #[.slice none 0 0,.int .i64 k] w λen w'=> ∃v,en= .returned v/\Below w.heap.size w w'/\w'.ownsRow 0 72 4 v 0 []/\ ∀b,v.ownBlock=some b->w.heap.size<=b/\b<w'.heap.size:=by
 rcases Nat.eq_zero_or_pos k with rfl|h0
 ·refine Calls.mono (Any8.slices_Grow_room Qd8 none 0 0 0 w VM VM VM VM) ?_;rintro en w' ⟨rfl,rfl⟩;exact ⟨_,rfl,Below.refl _ _,⟨rfl,.inl ⟨rfl,rfl⟩⟩,λb h=>by cases h⟩
 ·obtain ⟨i0,z,e0,e1,e2,e3,e4⟩:=Zn0;refine Calls.mono (Any8.slices_Grow_grow Qd8 i0 z e0 e1 VM none 0 0 k [] w VM VM (by rw [e3];omega) VM VX (λ_=>rfl) (λa h=>by cases h)) ?_
  rintro en w' ⟨rfl,rfl⟩;have g1:k<=grownCap w (0+k) 0 72:=by have:=grownCap_ge w (0+k) 0 72;omega
  refine ⟨_,rfl,((Below.refl _ _).drew).alloc (Am _) _,⟨rfl,.inr ⟨w.heap.size,grownCap w (0+k) 0 72,#[]++Builtin.zeroCells z.cells (0+k-0)++Builtin.zeroCells z.cells (grownCap w (0+k) 0 72-(0+k)),rfl,Ao _,?_,Ao _,grownCap_le_maxLen w (0+k) 0 72 (by unfold maxLen;omega),?_,VX⟩⟩,?_⟩
  ·show (w.drew.heap.push _)[w.heap.size]? =_;exact Array.getElem?_push_size ..
  ·rw [Ap] at g1 ⊢;simp [Builtin.zeroCells,e4];omega
  ·intro b h;cases h;exact ⟨Am _,by show w.heap.size<(w.drew.heap.push _).size;rw [Array.size_push];exact Bk _⟩
def bT:BQ:=λl=>match l with
 |[.x (.slice none 0 0),.x (.int .i64 k)]=>some ([0<=k/\k<=100000],72,4,0,λ_=>[])
 |_=>none
theorem Ws8:Sx.Enters Tryz.prog 219/\ ∀avs ns T sz n g,bT avs=some (ns,T,sz,n,g)->(∀q∈ns,q)->DR VR 219 avs T sz n g:=by
 refine ⟨(UK Tryz.func219),?_⟩;intro avs ns T sz n g h Z;unfold bT at h;split at h
 ·rename_i k;cases h;obtain ⟨h1,h2⟩:0<=k/\k<=100000:=Z _ GJ;intro e w args q1 q2 q3 q4;obtain ⟨u,us,rfl,r1,q5⟩:=q4.cons_inv;obtain ⟨u',us',rfl,r2,q6⟩:=q5.cons_inv;obtain rfl:=q6.nil_inv;cases r1;cases r2;obtain ⟨k',rfl⟩:=Int.eq_ofNat_of_zero_le h1;refine (sG k' VM w).mono ?_;rintro en w' ⟨v,rfl,g1,g2,g3⟩;exact ⟨v,[],rfl,g1,g2,g3,λi O=>VM,λi j a u O=>VM⟩
 ·cases h
theorem Ws7:GE VR 219 (Ws4 bT):=C7 Ws8
end Go.Proofs.YtlclobclmfhlmaaGreatDoor.Hd
namespace Go.Proofs.YtlclobclmfhlmaaGreatDoor.Hd
open Go Go.Sx Go.RowKit Bo
open Go.Sx.VP (need branch leaf)
open Go.Sx.AV (lst ptr agg roI tup top)
theorem nW{S:Code->UL->Prop}{c:Code}{s0 s1:UL}(h0: ∀cj,VV c 0=some cj->S cj s0)(h1: ∀cj,VV c 1=some cj->S cj s1):
  ∀j cj,VV c j=some cj-> ∀sp,[s0,s1][j]? =some sp->S cj sp:=by
 intro j cj hj sp hsp
 match j with
 | 0=>simp at hsp;subst hsp;exact h0 cj hj
 | 1=>simp at hsp;subst hsp;exact h1 cj hj
 |j+2=>simp at hsp
def ctI(p:Nat)(a b:Nat->Int)(k:Nat):Int:=if k<p then a k else b (k-p)
def AO:UY
 |[.lst 1 n F]=>match F 0,F 1 with
  |[.lst 4 p f],[.lst 4 q g]=>some ([n=2,UH 4 p f,UH 4 q g,p<=10000,q<=10000],.lst 4 (p+q) (λk=>[i (ctI p (col 0 f) (col 0 g) k),i (ctI p (col 1 f) (col 1 g) k),i (ctI p (col 2 f) (col 2 g) k),i (ctI p (col 3 f) (col 3 g) k)]))
  |_,_=>none
 |_=>none
theorem Ws6(p:Nat)(a b u v:Nat->Int)(q:Nat)(a1 b1 u1 v1:Nat->Int)(VU:p<=10000)(UI:q<=10000):U0 VR 185 [.lst 1 2 (U8 1 [rds p a b u v,rds q a1 b1 u1 v1])] (.lst 4 (p+q) (λk=>[i (ctI p a a1 k),i (ctI p b b1 k),i (ctI p u u1 k),i (ctI p v v1 k)])):=by
 refine GD (X:={R:=[],H:=[(219,(Ws4 bT))] }) (L:=[(λs=>some (zK Tryz.prog [] [] (UC (VV (U9 Tryz.f185) 0)) 3 s)),(λs=>some (zK Tryz.prog [] [] (UC (VV (U9 Tryz.f185) 1)) 3 s))]) Aa (Ai Ab (Ag Ws7 Ac)) U1 Tryz.func185 (UW Tryz.f185) (nW (lpE (b:= .loop (UC (VV (U9 Tryz.f185) 0))) VW<|(LE Aa U1 U6 _).N) (lpE (b:= .loop (UC (VV (U9 Tryz.f185) 1))) VW<|(LE Aa U1 U6 _).N)) (t:=let z1:=(need [(0:Int)<=0+1+1/\(0:Int)+1+1<(↑(2:Nat):Int)] VP.fail);let z2:=(GI 0 (λx=>[]) (rq4 a b u v));let z0:=(branch (decide ((0:Int)<(↑(2:Nat):Int))) (need [UM 0 2] (need [(0+p)*32<=140737488355328,∀(i:Nat),i<p-> ∀(a_2:AV),a_2∈[Bo.i (a i),Bo.i (b i),Bo.i (u i),Bo.i (v i)]->AV.one a_2=true] (need [VO ((0:Int)+1)] (branch (decide ((0:Int)+1<(↑(2:Nat):Int))) (need [(0:Int)<=0+1/\(0:Int)+1<(↑(2:Nat):Int)] (need [(0+p+q)*32<=140737488355328,∀(i:Nat),i<q-> ∀(a:AV),a∈[Bo.i (a1 i),Bo.i (b1 i),Bo.i (u1 i),Bo.i (v1 i)]->AV.one a=true] (need [VO ((0:Int)+1+1)] (branch (decide ((0:Int)+1+1<(↑(2:Nat):Int))) z1 (leaf (RV.lst 4 (0+p+q) (GI (0+p) z2 (rq4 a1 b1 u1 v1)))))))) (leaf (RV.lst 4 (0+p) z2)))))) (leaf (RV.lst 4 0 λx=>[])));(branch (decide ((0:Int)<(↑(2:Nat):Int))) (need [UM 0 2] (need [VO ((0:Int)+(p:Int))] (branch (decide ((0:Int)+(p:Int)<0)) VP.fail (need [VO ((0:Int)+1)] (branch (decide ((0:Int)+1<(↑(2:Nat):Int))) (need [(0:Int)<=0+1/\(0:Int)+1<(↑(2:Nat):Int)] (need [VO ((0:Int)+(p:Int)+(q:Int))] (branch (decide ((0:Int)+(p:Int)+(q:Int)<0)) VP.fail (need [VO ((0:Int)+1+1)] (branch (decide ((0:Int)+1+1<(↑(2:Nat):Int))) z1 (need [(0:Int)<=0+(p:Int)+(q:Int)/\(0:Int)+(p:Int)+(q:Int)<=100000] z0)))))) (need [(0:Int)<=0+(p:Int)/\(0:Int)+(p:Int)<=100000] z0)))))) (need [(0:Int)<=0/\(0:Int)<=100000] z0))) VW ?_
 have hX: ∀(k:Nat),k<p+q->GI (0+p) (GI 0 (λ_=>[]) λk=>[i (a k),i (b k),i (u k),i (v k)]) (λk=>[i (a1 k),i (b1 k),i (u1 k),i (v1 k)]) k=[i (ctI p a a1 k),i (ctI p b b1 k),i (ctI p u u1 k),i (ctI p v v1 k)]/\ ∀x∈[i (ctI p a a1 k),i (ctI p b b1 k),i (ctI p u u1 k),i (ctI p v v1 k)],isX x:=by
  intro k hk;refine ⟨?_,λx hx=>?_⟩
  ·show HD (decide (k<0+p)) (GI 0 (λ_=>[]) (λk=>[i (a k),i (b k),i (u k),i (v k)]) k) [i (a1 (k-(0+p))),i (b1 (k-(0+p))),i (u1 (k-(0+p))),i (v1 (k-(0+p)))]=_
   rw [S7,Ap];unfold ctI;by_cases h:k<p
   ·rw [decide_eq_true h];simp only [if_pos h];rfl
   ·rw [decide_eq_false h];simp only [if_neg h];rfl
  ·simp only [GQ,DQ,or_false] at hx;rcases hx with rfl|rfl|rfl|rfl<;>exact Ak
 have hA: ∀(a b u v:Nat->Int) (n k:Nat),k<n-> ∀(x:AV),x∈[i (a k),i (b k),i (u k),i (v k)]->x.one=true:=by
  intro a b u v n k hk x hx;simp only [GQ,DQ,or_false] at hx;rcases hx with rfl|rfl|rfl|rfl<;>simp [AV.one,Value.oneCell']
 simp only [VP.sat,UD,G8,GO,UG,true_and,HB,VO]
 (repeat' first|exact hA _ _ _ _ _|exact hX|with_reducible apply Al|with_reducible intro _)
 all_goals omega
theorem Ws5:VS VR 185 AO:=by
 refine ⟨(UK Tryz.func185),?_⟩;intro avs ns res h Z;unfold AO at h;split at h
 ·rename_i n F;split at h
  ·rename_i p f q g h0 h1;cases h;obtain rfl:n=2:=Z _ VX;have r0:UH 4 p f:=Z (UH 4 p f) VX;have r1:UH 4 q g:=Z (UH 4 q g) VX;have hp:p<=10000:=Z (p<=10000) VX;have hq:q<=10000:=Z (q<=10000) VX;refine (Ws6 p (col 0 f) (col 1 f) (col 2 f) (col 3 f) q (col 0 g) (col 1 g) (col 2 g) (col 3 g) hp hq).same (.cons (.deep 1 2 F _ (λk hk=>?_) (λk j a b hk A hb=>?_)) .nil)
   ·rcases (show k=0\/k=1 by omega) with rfl|rfl
    ·rw [h0];rfl
    ·rw [h1];rfl
   ·rcases (show k=0\/k=1 by omega) with rfl|rfl
    ·rw [h0] at A;have hb:[rds p (col 0 f) (col 1 f) (col 2 f) (col 3 f)][j]? =some b:=hb;cases j with
     |zero=>
      cases A;cases hb;exact .lst 4 p f _ r0
     |succ j=>simp at A
    ·rw [h1] at A;have hb:[rds q (col 0 g) (col 1 g) (col 2 g) (col 3 g)][j]? =some b:=hb;cases j with
     |zero=>
      cases A;cases hb;exact .lst 4 q g _ r1
     |succ j=>simp at A
  ·cases h
 ·cases h
def skF(x0:Int)(a:Nat->Int)(k:Nat):Int:=if k<x0.toNat then a k else a (k+1)
def stS(s:HS)(x0:Int):HS:={s with nr:=s.nr-1,ra:=skF x0 s.ra,rb:=skF x0 s.rb,ru:=skF x0 s.ru,rv:=skF x0 s.rv}
def stE(s:HS)(x0:Int):Int:=if bt 0 x0 ((s.nr:Int)-1)=true then 0 else 7
theorem TC{x:Int}(h:0<=x)(a:Nat->Int)(k:Nat):ctI (x.toNat-Int.toNat 0) (λi=>a (Int.toNat 0+i)) (λi=>a ((x+1).toNat+i)) k=skF x a k:=by
 unfold ctI skF;by_cases h':k<x.toNat
 ·rw [if_pos (show k<x.toNat-Int.toNat 0 by simpa using h'),if_pos h']
  exact congrArg a VX
 ·rw [if_neg (show ¬k<x.toNat-Int.toNat 0 by simpa using h'),if_neg h']
  exact congrArg a (by simp;omega)
noncomputable abbrev SV(s:HS):F0:=A8 Tryz.prog [(185,AO),(37,RQ)] {} [(114,RD)] [] Tryz.f147 (U9 Tryz.f147)
theorem iX(s:HS):DA VR 147 (SV s):=
 FU (G:=[(185,AO),(37,RQ)]) (X:=WD) (PX:=[(114,RD)]) (L:=[]) (Ae Ws5 (Ae B1 Aa)) Ad (UU.cons RS (UU.nil _)) U1 (UK Tryz.func147) Tryz.func147 (UW Tryz.f147) (λj cj _ sp hsp=>by simp at hsp)
theorem Qq3(V:Nat->ByteArray)(n:Nat)(str:ByteArray)(s:HS)(VU:uB str n (U7 (UR 1) V))(UI:s.nr<=12):wX VR 90 [.ptr 0 0,.x (.string str)] (X9 s) 901 [[.ptr 0 0,.row 1,.row 2]] 182 (OS (stS s (U3 (V 0)))) (OX s) (rsE (fmE (U7 (UR 1) V) n 1 (stE s (U3 (V 0))))):=by
 refine LM (PX:=[(114,RD),(115,jS),(147,(SV s))]) (L:=[vJ (U7 (UR 1) V) n 1 147 s]) (Ae (LF VU) (Ae wV Aa)) Ad (UU.cons RS (UU.cons x9 (UU.cons (iX s) (UU.nil _)))) U1 (UK Tryz.func90) Tryz.func90 (UW Tryz.f90) (LJ (lpE (b:= .loop NI) VW<|gN (U7 (UR 1) V) n 1 147 s VU.2.2.2 (BB VU))) (N:=[]) (t:=let z0:=(U3 (U7 (UR 1) V 1));let z1:=(U7 (UR 1) V (0:Int).toNat);let z2:=(need [[Q5]=[Q5],HE (hL s) QU,QA s,QB s] (leaf (false,(4:Int))));(need [N9 str str {data:=#[32] }] (need [UM 0 n] (branch (wdO z1) (need [VO (wdM (wdK z1)+1)] (branch (!(n:Int)==wdM (wdK z1)+1) z2 (need [(0:Int)<=1/\(1:Int)<=(n:Int)/\(n:Int)<=(n:Int)] (need [QS,U2 (lst 1 n λk=>[FY (U7 (UR 1) V k)]),ZR,WJ,(lst 1 (n-(1:Int).toNat) λi=>[AV.x (.string (U7 (UR 1) V ((1:Int).toNat+i)))])=lst 1 (n-1) λj=>[FY (U7 (UR 1) V (1+j))],(↑(n-(1:Int).toNat):Int)=(↑(n-1):Int),(0:Int)=(↑(0:Nat):Int),0=0,∀(i:Nat),i<0->[]=[iI (U3 (U7 (UR 1) V (1+i)))],wdM (wdK z1)=1,U2 (AV.fn (Fn.func 147) [] []),XI s,JS s,JT s,XW s,XO s,XP s,KO s,∀(i:Nat),i<s.xn->s.xg i=s.xg i,KP s,∀(i:Nat),i<s.yn->s.yg i=s.yg i,QS,JY,JZ] (branch (nuB (U7 (UR 1) V) n) (need [UM 0 (↑(n-1):Int)] (need [(0:Int).toNat<n-1] (need [VO ((↑s.nr:Int)-1)] (branch (!bt (0:Int) z0 ((↑s.nr:Int)-1)) (need [[Q5]=[Q5],HE (hL s) QU,QA s,QB s] (leaf (false,(7:Int)))) (need [UM 0 (↑(n-1):Int)] (need [(0:Int).toNat<n-1] (need [(0:Int)<=0/\(0:Int)<=U3 (U7 (UR 1) V 1)/\U3 (U7 (UR 1) V 1)<=(↑s.nr:Int)] (need [UM 0 (↑(n-1):Int)] (need [(0:Int).toNat<n-1] (need [VO (U3 (U7 (UR 1) V 1)+1)] (need [(0:Int)<=U3 (U7 (UR 1) V 1)+1/\U3 (U7 (UR 1) V 1)+1<=(↑s.nr:Int)/\(↑s.nr:Int)<=(↑s.nr:Int)] (need [2=2,UH 4 (Int.toNat z0-(0:Int).toNat) λi=>[Bo.i (s.ra ((0:Int).toNat+i)),Bo.i (s.rb ((0:Int).toNat+i)),Bo.i (s.ru ((0:Int).toNat+i)),Bo.i (s.rv ((0:Int).toNat+i))],UH 4 (s.nr-(U3 (U7 (UR 1) V 1)+1).toNat) λi=>[Bo.i (s.ra ((U3 (U7 (UR 1) V 1)+1).toNat+i)),Bo.i (s.rb ((U3 (U7 (UR 1) V 1)+1).toNat+i)),Bo.i (s.ru ((U3 (U7 (UR 1) V 1)+1).toNat+i)),Bo.i (s.rv ((U3 (U7 (UR 1) V 1)+1).toNat+i))],Int.toNat z0-(0:Int).toNat<=10000,s.nr-(U3 (U7 (UR 1) V 1)+1).toNat<=10000] (need [[Q5]=[Q5],HE [lst 4 (Int.toNat z0-(0:Int).toNat+(s.nr-(U3 (U7 (UR 1) V 1)+1).toNat)) λk=>[iI (ctI (Int.toNat z0-(0:Int).toNat) (λi=>s.ra ((0:Int).toNat+i)) (λi=>s.ra ((U3 (U7 (UR 1) V 1)+1).toNat+i)) k),iI (ctI (Int.toNat z0-(0:Int).toNat) (λi=>s.rb ((0:Int).toNat+i)) (λi=>s.rb ((U3 (U7 (UR 1) V 1)+1).toNat+i)) k),iI (ctI (Int.toNat z0-(0:Int).toNat) (λi=>s.ru ((0:Int).toNat+i)) (λi=>s.ru ((U3 (U7 (UR 1) V 1)+1).toNat+i)) k),iI (ctI (Int.toNat z0-(0:Int).toNat) (λi=>s.rv ((0:Int).toNat+i)) (λi=>s.rv ((U3 (U7 (UR 1) V 1)+1).toNat+i)) k)],iI s.pl,iI s.ph,hY s.nb s,hC s.nc s,hT s.ns s] (hL (stS s (U3 (V 0)))),((38:TypeId),1,s.xn,s.xg)=((38:TypeId),1,(stS s (U3 (V 0))).xn,(stS s (U3 (V 0))).xg),((9:TypeId),1,s.yn,s.yg)=((9:TypeId),1,(stS s (U3 (V 0))).yn,(stS s (U3 (V 0))).yg)] (leaf (true,(0:Int)))))))))))))))) (need [[Q5]=[Q5],HE QU QU,QA s,QB s] (leaf (false,(4:Int))))))))) z2)))) VW ?_
 have hw:wdO (U7 (UR 1) V (Int.toNat 0))=true:=VW;have hm:wdM (wdK (U7 (UR 1) V (Int.toNat 0)))=1:=VW;have hn1:1<=n:=by have:=VU.2.1;omega
 have hnl:=BB VU;simp only [VP.sat,UD,UJ,hm,hw,true_imp_iff];refine ⟨⟨rfl,rfl⟩,⟨VM,VM⟩,⟨by simp only [VO];omega,λh4=>?_,λh4=>?_⟩,λh=>by cases h⟩
 ·exact VB
 ·have hN:n=1+1:=by
   simp at h4;omega
  refine ⟨⟨VM,VM,VM⟩,?_,λh5=>?_,λh5=>?_⟩
  rotate_left 2
  ·exact VC
  ·all_goals exact v6
  ·have hk1:n-1=1:=VM;have hx0:U3 (U7 (UR 1) V 1)=U3 (V 0):=rfl;rw [hk1];simp only [hx0];refine ⟨VM,by decide,by simp only [VO];omega,λh6=>⟨DO _ _ _ _ _ _,FB hN h5 ?_ (by decide)⟩,λh6=>?_⟩
   ·unfold stE;rw [bnt h6];rfl
   have h7:=bnf h6;have h8:=(bt_iff _ _ _).1 h7;refine ⟨VM,by decide,VM,VM,by decide,by simp only [VO];omega,VM,⟨Bo.isRec4 _ _ _ _ _,Bo.isRec4 _ _ _ _ _,VM,VM⟩,⟨⟨⟨rfl,?_,λk hk=>⟨?_,?_⟩⟩,zZ _,zZ _,BF s,BE s,PF s,trivial⟩,rfl,rfl⟩,uY hN h5 ?_⟩
   ·show _=s.nr-1;have e0:Int.toNat 0=0:=rfl;omega
   ·dsimp only
    rw [TC h8.1 s.ra k,TC h8.1 s.rb k,TC h8.1 s.ru k,TC h8.1 s.rv k];exact ⟨(PE _).2,(PE _).2,(PE _).2,(PE _).2,trivial⟩
   ·intro x hx;simp only [GQ,DQ,or_false] at hx;rcases hx with rfl|rfl|rfl|rfl<;>exact .x _
   ·unfold stE;rw [h7];rfl
def Qk2:UY
 |[]=>some ([],.mpr (λ_=>[.any1,.any1]) wdO)
 |_=>none
theorem Wz1:U0 VR 113 [] (.mpr (λ_=>[.any1,.any1]) wdO):=by
 intro e w args hro hgl FP hr;obtain rfl:=hr.nil_inv;refine (MA w).mono ?_;rintro en w' ⟨rfl,rfl⟩;have hsz:(w.alloc (.map wdE.toArray 8)).heap.size=w.heap.size+1:=VX;refine ⟨_,rfl,(Below.refl _ _).alloc (Am _) _,?_⟩;refine .mpr _ wdO wdV w.heap.size wdE.toArray 8 (show w.heap.size<=w.heap.size/\w.heap.size<(w.alloc (.map wdE.toArray 8)).heap.size by omega) VM (λs a A=>?_) (World.alloc_heap_new w _) (λs hs=>by simpa using lU hs) (λs hs=>⟨by simpa using Qf5 hs,λa A=>?_⟩) (λs hs=>rfl) (λs k a v hs A I=>?_)
 ·simp only [GQ,DQ,or_false,or_self] at A;subst A;exact .any1
 ·exact .inr (by simpa using A)
 ·match k,A,I with
  | 0,A,I=>
   simp only [wdV,List.getElem?_cons_zero,HH] at A I;subst A I;exact .any1 _ rfl
  | 1,A,I=>
   simp only [wdV,List.getElem?_cons_succ,List.getElem?_cons_zero,HH] at A I;subst A I;exact .any1 _ rfl
  |k+2,A,I=>simp at A
theorem Wz0:VS VR 113 Qk2:=by
 refine ⟨(UK Tryz.func113),?_⟩;intro avs ns res h Z;unfold Qk2 at h;split at h
 ·cases h;exact Wz1
 ·cases h
theorem Jf7(W:Nat->ByteArray)(n:Nat)(str:ByteArray)(s:HS)(VU:uB str n W)(UI:wdO (W 0)=false):wX VR 90 [.ptr 0 0,.x (.string str)] (X9 s) 901 [[.ptr 0 0,.row 1,.row 2]] 182 (OS s) (OX s) (rsE 4):=by
 refine LM (PX:=[(114,RD),(115,jS)]) (L:=[vJ W n 0 0 s]) (Ae (LF VU) (Ae Wz0 Aa)) Ad (UU.cons RS (UU.cons x9 (UU.nil _))) U1 (UK Tryz.func90) Tryz.func90 (UW Tryz.f90) (LJ (lpE (b:= .loop NI) VW<|gN W n 0 0 s VU.2.2.2 (BB VU))) (N:=[]) (t:=need [N9 str str {data:=#[32] }] (need [UM 0 n] (branch (wdO (W (0:Int).toNat)) VP.fail (need [[Q5]=[Q5],HE (hL s) QU,QA s,QB s] (leaf (false,(4:Int))))))) VW ?_
 have hn1:1<=n:=by have:=VU.2.1;omega
 have h0:wdO (W (Int.toNat 0))=false:=UI;simp only [VP.sat,UD,UJ,h0];exact ⟨⟨rfl,rfl⟩,⟨VM,VM⟩,(λh=>by cases h),λ_=>⟨DO _ _ _ _ _ _,rfl⟩⟩
abbrev lns(n:Nat)(L:Nat->ByteArray):AV:= .lst 1 n (λk=>[.x (.string (L k))])
def lgB(L:Nat->ByteArray)(mx:Int)(j:Nat):Bool:= !decide (((L j).size:Int)<=mx)
section
variable (n:Nat)(L:Nat->ByteArray)
def shB(mx:Int):Bool:=DD (λj=>decide (((L j).size:Int)<=mx)) n
def ckE:Int:=if n<=50/\shB n L 200=true then 0 else 3
end
def mR:UY
 |[.x (.int .i64 mx),.x (.string s)]=>some ([],bl (decide ((s.size:Int)<=mx)))
 |_=>none
theorem Qr8(s:ByteArray)(mx:Int):U0 VR 56 [i mx,.x (.string s)] (bl (decide ((s.size:Int)<=mx))):=by
 refine GZ Tryz.func56 (t:=leaf (RV.x (.bool (decide ((↑(ByteArray.size s):Int)<=mx))))) VW ?_;exact V4
theorem Qr7:VS VR 56 mR:=by
 refine ⟨(UK Tryz.func56),?_⟩;intro avs ns res h Z;unfold mR at h;split at h
 ·cases h;exact Qr8 _ _
 ·cases h
def mT:UY
 |[.x (.string s),.ro [.fn (.func 56) [.x (.int .i64 mx)] []]]=>some ([],bl (!decide ((s.size:Int)<=mx)))
 |_=>none
theorem Qt3(s:ByteArray)(mx:Int):U0 VR 86 [.x (.string s),.ro [.fn (.func 56) [i mx] []]] (bl (!decide ((s.size:Int)<=mx))):=by
 refine U4 (L:=[]) (Ae Qr7 Aa) U1 Tryz.func86 (UW Tryz.f86) U6 (t:=leaf (RV.x (.bool !decide ((↑(ByteArray.size s):Int)<=mx)))) VW ?_;exact V4
theorem OW:VS VR 86 mT:=by
 refine ⟨(UK Tryz.func86),?_⟩;intro avs ns res h Z;unfold mT at h;split at h
 ·cases h;exact Qt3 _ _
 ·cases h
abbrev Q8(n:Nat)(L:Nat->ByteArray):AV:=lst 1 n λk=>[FY (L k)]
abbrev WP(mx:Int):AV:=AV.fn (Fn.func 86) [] [AV.ro [AV.fn (Fn.func 56) [iI mx] []]]
section
variable (n:Nat)(L:Nat->ByteArray)(mx:Int)
def dI:St:={σ:=[Q8 n L,WP mx]++HM 5 [iI (n:Int)]++HM 11 [],m:=[],nx:=4}
noncomputable def Qm5:Code:=UC (VV (U9 Tryz.f109) 0)
def OJ(k:Nat):St:=(upM [(8,i k)] (dI n L mx))
def qG(k:Nat):G9->Option St
 | .ret=>some (upM [(4,i (H0 ((lgB L mx)) n))] (dI n L mx))
 | .exit 0=>some (upM [] (dI n L mx))
 |_=>none
def Qh7:CT:= .branch (decide (H0 ((lgB L mx)) n<n)) (.leaf (.ret,(qG n L mx 0 .ret).getD (dI n L mx))) (.leaf (.exit 0,(qG n L mx 0 (.exit 0)).getD (dI n L mx)))
def nD:UL:=(HK (OJ n L mx (0)) (Qh7 n L mx))
theorem Qx5(VU:n<=100000):GA VR (.loop Qm5) (nD n L mx):=by
 refine HJ (L:=[]) (Ae OW Aa) U1 U6 (X:=Nat) (OJ n L mx) (λk=>k<=n/\ ∀j,j<k->(lgB L mx) j=false) (λk=>n-k) (qG n L mx) (x0:=0) ⟨VM,λj hj=>VM⟩ ?_ ?_ ?_
 ·rintro k;kernel_rfl
 ·rintro k y E h;unfold qG at h;split at h
  ·cases h;kernel_rfl
  ·cases h;kernel_rfl
  ·cases h
 ·rintro Q hQ k hx;refine ⟨(k+1),?_⟩;(with_reducible refine DL (t:=branch (decide ((k:Int)<(n:Int))) (need [UM k n] (branch (!decide ((↑(ByteArray.size (L k)):Int)<=mx)) (need [U2 (Q8 n L),WP mx=WP mx,(k:Int)=(↑(H0 (lgB L mx) n):Int),U2 (n:Int)] (leaf G9.ret)) (need [VO ((k:Int)+1)] (need [U2 (Q8 n L),WP mx=WP mx,U2 (n:Int),(k:Int)+1=(↑(k+1):Int)] (leaf G9.normal))))) (need [U2 (Q8 n L),WP mx=WP mx,U2 (n:Int)] (leaf (G9.exit 0)))) VW ?_);simp only [Qh7,qG,VP.sat,GX,HB] at hQ;simp only [VP.sat,UD,UJ,HB,VO,qG,DP];have Xl5:k<n->((lgB L mx)) k=true->H0 ((lgB L mx)) n=k:=λh hb=>jB h hb hx.2
  have PI: ¬k<n->H0 ((lgB L mx)) n=n:=λh=>qH (λj hj=>hx.2 j VM)
  have hgo:((lgB L mx)) k=false-> ∀j,j<k+1->((lgB L mx)) j=false:=by
   intro hb j hj;rcases (show j<k\/j=k by omega) with h1|rfl
   ·exact hx.2 j h1
   ·exact hb
  refine ⟨λh=>⟨VM,?_⟩,λh=>?_⟩
  rotate_left
  ·intro E hE;cases hE;exact hQ.2 (by rw [PI VM];omega)
  have hk:k<n:=VM;refine ⟨λhb=>?_,λhb=>?_⟩
  ·exact VH
  ·exact ⟨VM,VM,⟨VM,hgo hb⟩,VM⟩
theorem Xk5(VU:n<=100000):U0 VR 109 [lns n L,.fn (.func 86) [] [.ro [.fn (.func 56) [i mx] []]]] (i (if H0 ((lgB L mx)) n<n then (H0 ((lgB L mx)) n:Int) else -1)):=by
 refine U4 (L:=[nD n L mx]) (Ae OW Aa) U1 Tryz.func109 (UW Tryz.f109) (UZ (lpE (b:= .loop Qm5) VW<|Qx5 n L mx VU)) (t:=need [U2 (Q8 n L),WP mx=WP mx,U2 (n:Int),(0:Int)=(↑(0:Nat):Int)] (branch (decide (H0 (lgB L mx) n<n)) (leaf (RV.x (.int .i64 (↑(H0 (lgB L mx) n):Int)))) (leaf (RV.x (KJ))))) VW ?_
 exact VF
def Zs1:UY:=λl=>some ([l=[lns n L,.fn (.func 86) [] [.ro [.fn (.func 56) [i mx] []]]]],i (if H0 (lgB L mx) n<n then (H0 (lgB L mx) n:Int) else -1))
theorem Wo9(VU:n<=100000):VS VR 109 (Zs1 n L mx):=by
 refine ⟨(UK Tryz.func109),?_⟩;intro avs ns res h Z;cases h;have e:=Z _ GJ;subst e;exact Xk5 n L mx VU
theorem Xm2(VU:n<=100000):U0 VR 85 [lns n L,.fn (.func 86) [] [.ro [.fn (.func 56) [i mx] []]]] (bl (!shB n L mx)):=by
 refine U4 (L:=[]) (Ae (Wo9 n L mx VU) Aa) U1 Tryz.func85 (UW Tryz.f85) U6 (t:=need [U2 ([Q8 n L,WP mx])] (leaf (RV.x (.bool (decide ((if H0 (lgB L mx) n<n then (↑(H0 (lgB L mx) n):Int) else (-1:Int))>=(0:Int))))))) VW ?_
 simp only [VP.sat,UD,G8,UG,UJ];unfold shB;rw [kY];have:=F6 (lgB L mx) n;have e:(λk=> !(λj=>decide (((L j).size:Int)<=mx)) k)=lgB L mx:=rfl
 rw [e];show decide ((if H0 (lgB L mx) n<n then (H0 (lgB L mx) n:Int) else -1)>=0)=_
 split<;>simp<;>omega
def Zs3:UY:=λl=>some ([l=[lns n L,.fn (.func 86) [] [.ro [.fn (.func 56) [i mx] []]]]],bl (!shB n L mx))
theorem Wr8(VU:n<=100000):VS VR 85 (Zs3 n L mx):=by
 refine ⟨(UK Tryz.func85),?_⟩;intro avs ns res h Z;cases h;have e:=Z _ GJ;subst e;exact Xm2 n L mx VU
theorem Ws2(VU:n<=100000):U0 VR 57 [lns n L,.fn (.func 56) [i mx] []] (bl (shB n L mx)):=by
 refine U4 (L:=[]) (Ae (Wr8 n L mx VU) Aa) U1 Tryz.func57 (UW Tryz.f57) U6 (t:=need [U2 ([Q8 n L,WP mx])] (leaf (RV.x (.bool !!shB n L mx)))) VW ?_;simp only [VP.sat,UD,G8,UG,UJ];show (!!shB n L mx)=_;simp
def Xr0:UY:=λl=>some ([l=[lns n L,.fn (.func 56) [i mx] []]],bl (shB n L mx))
theorem Qt2(VU:n<=100000):VS VR 57 (Xr0 n L mx):=by
 refine ⟨(UK Tryz.func57),?_⟩;intro avs ns res h Z;cases h;have e:=Z _ GJ;subst e;exact Ws2 n L mx VU
end
section
variable (n:Nat)(L:Nat->ByteArray)
abbrev YM:List AV:=[Q8 n L,AV.fn (Fn.func 56) [iI 200] []]
theorem OT(VU:n<=100000):U0 VR 30 [lns n L] (i (ckE n L)):=by
 refine U4 (L:=[]) (Ae (Qt2 n L 200 VU) Aa) U1 Tryz.func30 (UW Tryz.f30) U6 (t:=branch (decide ((n:Int)>50)) (leaf (RV.x (KM))) (need [U2 (YM n L)] (branch (!shB n L (200:Int)) (leaf (RV.x (KM))) (leaf (RV.x (X2)))))) VW ?_;simp only [VP.sat,UD,G8,UG,UJ,HB];have hc: ∀b:Bool,shB n L 200=b->ckE n L=if n<=50/\b=true then 0 else 3:=λb h=>by unfold ckE;rw [h]
 cases hs:shB n L 200
 all_goals
  rw [hc _ hs];simp
  try omega
def Xc0:UY:=λl=>some ([l=[lns n L]],i (ckE n L))
theorem B2(VU:n<=100000):VS VR 30 (Xc0 n L):=by
 refine ⟨(UK Tryz.func30),?_⟩;intro avs ns res h Z;cases h;have e:=Z _ GJ;subst e;exact OT n L VU
end
def tM:UY
 |[.lst 4 n f]=>some ([n<=100000,gdX 4 n f],.lst 4 n f)
 |_=>none
theorem V8{p:Prop}(h:p:=by
 simp only [VP.sat,UD,G8,true_and];refine ⟨λh=>⟨Ak,h⟩,⟨VM,λk hk x hm=>((UI k hk).2 x hm).2⟩,Ap n,?_⟩
 exact λk hk=>⟨S7 f k,λx hm=>((UI k hk).2 x hm).1⟩):p:=h
theorem Xl9(n:Nat)(f:Nat->List AV)(VU:n<=100000)(UI:gdX 4 n f):U0 VR 64 [.lst 4 n f] (.lst 4 n f):=by
 refine GD (L:=[]) Aa Ad U1 Tryz.func64 (UW Tryz.f64) G7 (t:=VP.may (n=0) (leaf (RV.x (J4))) (need [(0+n)*32<=140737488355328,∀(i:Nat),i<n-> ∀(a:AV),a∈f i->AV.one a=true] (leaf (RV.lst 4 (0+n) (GI 0 (λx=>[]) λa=>f a))))) VW ?_
 exact V8
theorem Qf1:VS VR 64 tM:=by
 refine ⟨(UK Tryz.func64),?_⟩;intro avs ns res h Z;unfold tM at h;split at h
 ·cases h;exact Xl9 _ _ (Z _ VX) (Z _ VX)
 ·cases h
def tN:UY
 |[.lst 5 n f]=>some ([n<=100000,gdX 5 n f],.lst 5 n f)
 |_=>none
theorem Xm0(n:Nat)(f:Nat->List AV)(VU:n<=100000)(UI:gdX 5 n f):U0 VR 65 [.lst 5 n f] (.lst 5 n f):=by
 refine GD (L:=[]) Aa Ad U1 Tryz.func65 (UW Tryz.f65) G7 (t:=VP.may (n=0) (leaf (RV.x (J4))) (need [(0+n)*40<=140737488355328,∀(i:Nat),i<n-> ∀(a:AV),a∈f i->AV.one a=true] (leaf (RV.lst 5 (0+n) (GI 0 (λx=>[]) λa=>f a))))) VW ?_
 exact V8
theorem Qf2:VS VR 65 tN:=by
 refine ⟨(UK Tryz.func65),?_⟩;intro avs ns res h Z;unfold tN at h;split at h
 ·cases h;exact Xm0 _ _ (Z _ VX) (Z _ VX)
 ·cases h
def tL:UY
 |[.lst 5 n f]=>some ([n<=100000,gdX 5 n f],.lst 5 n f)
 |_=>none
theorem Xl8(n:Nat)(f:Nat->List AV)(VU:n<=100000)(UI:gdX 5 n f):U0 VR 66 [.lst 5 n f] (.lst 5 n f):=by
 refine GD (L:=[]) Aa Ad U1 Tryz.func66 (UW Tryz.f66) G7 (t:=VP.may (n=0) (leaf (RV.x (J4))) (need [(0+n)*40<=140737488355328,∀(i:Nat),i<n-> ∀(a:AV),a∈f i->AV.one a=true] (leaf (RV.lst 5 (0+n) (GI 0 (λx=>[]) λa=>f a))))) VW ?_
 exact V8
theorem Qf0:VS VR 66 tL:=by
 refine ⟨(UK Tryz.func66),?_⟩;intro avs ns res h Z;unfold tL at h;split at h
 ·cases h;exact Xl8 _ _ (Z _ VX) (Z _ VX)
 ·cases h
def tK:UY
 |[.lst 2 n f]=>some ([n<=100000,gdX 2 n f],.lst 2 n f)
 |_=>none
theorem Xl7(n:Nat)(f:Nat->List AV)(VU:n<=100000)(UI:gdX 2 n f):U0 VR 67 [.lst 2 n f] (.lst 2 n f):=by
 refine GD (L:=[]) Aa Ad U1 Tryz.func67 (UW Tryz.f67) G7 (t:=VP.may (n=0) (leaf (RV.x (J4))) (need [(0+n)*16<=140737488355328,∀(i:Nat),i<n-> ∀(a:AV),a∈f i->AV.one a=true] (leaf (RV.lst 2 (0+n) (GI 0 (λx=>[]) λa=>f a))))) VW ?_
 exact V8
theorem Qe9:VS VR 67 tK:=by
 refine ⟨(UK Tryz.func67),?_⟩;intro avs ns res h Z;unfold tK at h;split at h
 ·cases h;exact Xl7 _ _ (Z _ VX) (Z _ VX)
 ·cases h
end Go.Proofs.YtlclobclmfhlmaaGreatDoor.Hd
namespace Go.Proofs.YtlclobclmfhlmaaGreatDoor.Hd
open Go Go.Sx Go.RowKit
open Go.Sx.VP (need branch leaf)
open Go.Sx.AV (lst ptr agg roI tup top)
def F9(W:Nat->ByteArray)(s:HS):HS:=match wdK (W 0) with
 | 0=>thS s (U3 (W 1)) (U3 (W 2)) (U3 (W 3)) (U3 (W 4))
 | 1=>stS s (U3 (W 1))
 | 2=>baS s (U3 (W 1)) (U3 (W 2))
 | 3=>btS s (U3 (W 1)) (U3 (W 2))
 | 4=>seS s (U3 (W 1)) (U3 (W 2))
 | 5=>isS s (U3 (W 1)) (U3 (W 2)) (U3 (W 3)) (U3 (W 4))
 | 6=>voS s (U3 (W 1))
 | 7=>slS s (U3 (W 1)) (U3 (W 2)) (U3 (W 3)) (U3 (W 4)) (U3 (W 5))
 |_=>s
def LV(W:Nat->ByteArray)(n:Nat)(s:HS):Int:=match wdK (W 0) with
 | 0=>fmE W n 4 (thE s (U3 (W 1)) (U3 (W 2)) (U3 (W 3)) (U3 (W 4)))
 | 1=>fmE W n 1 (stE s (U3 (W 1)))
 | 2=>fmE W n 2 (baE s (U3 (W 1)) (U3 (W 2)))
 | 3=>fmE W n 2 (btE s (U3 (W 1)) (U3 (W 2)))
 | 4=>fmE W n 2 (seE s (U3 (W 1)) (U3 (W 2)))
 | 5=>fmE W n 4 (isE s (U3 (W 1)) (U3 (W 2)) (U3 (W 3)) (U3 (W 4)))
 | 6=>fmE W n 1 (voE s (U3 (W 1)))
 | 7=>fmE W n 5 (slE s (U3 (W 1)) (U3 (W 2)) (U3 (W 3)) (U3 (W 4)) (U3 (W 5)))
 |_=>4
structure fZ (s:HS):Prop where
 nr:s.nr<=12
 bV:bV s.nb s.ql s.qh s.qm s.qr s.qv
 nc:s.nc<=10
 sV:sV s.ns s.sa s.sb s.sc s.sl s.sh
abbrev hsM(s:HS):H5:=[(0,.cells 100 (hsL s)),(1,.row 38 1 s.xn s.xg),(2,.row 9 1 s.yn s.yg)]
theorem Qq4{str:ByteArray}{n:Nat}{W:Nat->ByteArray}{s:HS}(h:uB str n W)(hs:fZ s):
  wX VR 90 [.ptr 0 0,.x (.string str)] (hsM s) 901 [[.ptr 0 0,.row 1,.row 2]] 182 (OS (F9 W s)) (OX s) (rsE (LV W n s)):=by
 rcases AT (W 0) with ⟨h1,h2⟩|⟨h1,_⟩
 ·have hV: ∀q,wdL[q]? =some (W 0)->U7 (UR q) (λk=>W (k+1))=W:=by
   intro q hq;funext k;cases k with
   |zero=>
    show UR q=W 0;unfold UR;rw [List.getD_eq_getElem?_getD,hq];rfl
   |succ k=>rfl
  unfold F9 LV;rcases (show wdK (W 0)=0\/wdK (W 0)=1\/wdK (W 0)=2\/wdK (W 0)=3\/wdK (W 0)=4\/wdK (W 0)=5\/wdK (W 0)=6\/wdK (W 0)=7 by omega) with h3|h3|h3|h3|h3|h3|h3|h3
  all_goals
   rw [h3] at h2 ⊢;have e:=hV _ h2;have h':=h;rw [←e] at h'
  ·have k:=Qq2 (λk=>W (k+1)) n str s h' hs.nr
   rw [e] at k;exact k
  ·have k:=Qq3 (λk=>W (k+1)) n str s h' hs.nr
   rw [e] at k;exact k
  ·have k:=Xj3 (λk=>W (k+1)) n str s h'
   rw [e] at k;exact k
  ·have k:=Xj2 (λk=>W (k+1)) n str s h' hs.bV.1.1
   rw [e] at k;exact k
  ·have k:=Zm4 (λk=>W (k+1)) n str s h' hs.bV
   rw [e] at k;exact k
  ·have k:=Wj1 (λk=>W (k+1)) n str s h' hs.nc
   rw [e] at k;exact k
  ·have k:=Xj0 (λk=>W (k+1)) n str s h' hs.nc
   rw [e] at k;exact k
  ·have k:=Xj1 (λk=>W (k+1)) n str s h' hs.sV
   rw [e] at k;exact k
 ·have h0:wdO (W 0)=false:=by
   unfold wdO;rw [h1];rfl
  have k:=Jf7 W n str s h h0;unfold LV;rw [h1];show wX _ _ _ _ _ _ _ (OS (F9 W s)) _ _;have e:F9 W s=s:=by
   unfold F9;rw [h1];rfl
  rw [e];exact k
theorem fm0{W:Nat->ByteArray}{n many:Nat}{e:Int}(h:fmE W n many e=0):e=0:=by
 unfold fmE at h;split at h
 ·exact h
 ·exact absurd h (by decide)
theorem Xg7{W:Nat->ByteArray}{n:Nat}{s:HS}(hs:fZ s)(h0:LV W n s=0):fZ (F9 W s):=by
 unfold LV at h0;unfold F9;split at h0
 ·have h:=fm0 h0;unfold thE at h;split at h
  ·split at h
   ·exact ⟨by show s.nr+1<=12;omega,hs.bV,hs.nc,hs.sV⟩
   ·exact absurd h (by decide)
  ·exact absurd h (by decide)
 ·exact ⟨by show s.nr-1<=12;have:=hs.nr;omega,hs.bV,hs.nc,hs.sV⟩
 ·exact ⟨hs.nr,hs.bV,hs.nc,hs.sV⟩
 ·have h:=fm0 h0;unfold btE at h;split at h
  ·rename_i hb;split at h
   ·rename_i h6;have hx:=(bt_iff _ _ _).1 hb.1;refine ⟨hs.nr,⟨⟨by show s.nb+1<=6;omega,λb hb'=>?_⟩,λb hb' j k hjk hk=>?_⟩,hs.nc,hs.sV⟩
    ·have hb':b<s.nb+1:=hb';show (if b<s.nb then s.qm b else 0)<=10/\0<=HI s.nb s.ql _ b/\HI s.nb s.ql _ b<=HI s.nb s.qh _ b/\HI s.nb s.qh _ b<=1000/\ ∀j,j<(if b<s.nb then s.qm b else 0)->0<=s.qr b j/\s.qr b j<=2/\ -1000<=s.qv b j/\s.qv b j<=2000
     unfold HI;by_cases e:b<s.nb
     ·simp only [if_pos e];exact hs.bV.1.2 b e
     ·simp only [if_neg e];exact ⟨VM,hx.1,hx.2,hb.2,λj hj=>VM⟩
    ·have hk:k<(if b<s.nb then s.qm b else 0):=hk
     by_cases e:b<s.nb
     ·rw [if_pos e] at hk;exact hs.bV.2 b e j k hjk hk
     ·rw [if_neg e] at hk;omega
   ·exact absurd h (by decide)
  ·exact absurd h (by decide)
 ·have h:=fm0 h0;unfold seE at h;split at h
  ·rename_i g1;split at h
   ·rename_i g2;split at h
    ·rename_i g3;split at h
     ·rename_i g4;exact ⟨hs.nr,Jc5 hs.bV g1 g2 g3 g4,hs.nc,hs.sV⟩
     ·exact absurd h (by decide)
    ·exact absurd h (by decide)
   ·exact absurd h (by decide)
  ·exact absurd h (by decide)
 ·have h:=fm0 h0;unfold isE at h;split at h
  ·split at h
   ·exact ⟨hs.nr,hs.bV,by show s.nc+1<=10;omega,hs.sV⟩
   ·exact absurd h (by decide)
  ·exact absurd h (by decide)
 ·exact ⟨hs.nr,hs.bV,hs.nc,hs.sV⟩
 ·have h:=fm0 h0;unfold slE at h;split at h
  ·rename_i g1;split at h
   ·rename_i g2;exact ⟨hs.nr,hs.bV,hs.nc,slV g1 (by simp;omega) hs.sV⟩
   ·exact absurd h (by decide)
  ·exact absurd h (by decide)
 ·exact absurd h0 (by decide)
def LS(e:UN)(q r t:Nat)(x:Nat):Option Nat:=if x=e.blk q then some q else if (e.val r).ownBlock=some x then some r else if (e.val t).ownBlock=some x then some t else none
theorem Qe4(s:HS): ∀a∈hsL s,Idf a:=by
 intro a A;simp only [GQ,DQ,or_false] at A;rcases A with rfl|rfl|rfl|rfl|rfl|rfl
 ·exact .lst _ _ _ λk _ x hx=>by
   simp only [GQ,DQ,or_false] at hx;rcases hx with rfl|rfl|rfl|rfl<;>exact .x _
 ·exact .x _
 ·exact .x _
 ·exact Qe5 _ _ _ _ _ _
 ·exact VL
 ·exact VL
theorem Zm6{str:ByteArray}{s s':HS}{er:Int}(hE:wX VR 90 [.ptr 0 0,.x (.string str)] (hsM s) 901 [[.ptr 0 0,.row 1,.row 2]] 182 (OS s') (OX s) (rsE er))(hx:s'.xn=s.xn/\s'.xg=s.xg/\s'.yn=s.yn/\s'.yg=s.yg)
  {e:UN}{w0 w:World}{T:Nat->Prop}{q r t:Nat}(hEv:G4 e w0.heap.size w)(hB:Below w0.heap.size w0 w)(hT: ∀b,T b->b<w0.heap.size/\ ¬e.ro b)
  (hq:GK e w q (.cells 100 (hsL s)))(hr:GK e w r (.row 38 1 s.xn s.xg))(ht:GK e w t (.row 9 1 s.yn s.yg))(hqr:q≠r)(hqt:q≠t)(hrt:r≠t)(hrv: ∃a b c,e.val r= .slice a b c)(htv: ∃a b c,e.val t= .slice a b c):
  Calls Tryz.prog 90 #[.pointer (some ⟨e.blk q,0,none⟩),.string str] w λen w1=>en=Xn4 182 (rsE er)/\Below w0.heap.size w0 w1/\w.heap.size<=w1.heap.size/\
   (∀x,(e.ro x\/(w0.heap.size<=x/\x<w.heap.size/\e.own x≠some q/\e.own x≠some r/\e.own x≠some t))->w1.heap[x]? =w.heap[x]?)/\
   ∃ro1:Nat->Prop,(∀x,e.ro x->ro1 x)/\(∀x,T x-> ¬ro1 x)/\G4 {e with ro:=ro1,own:=LS e q r t} w0.heap.size w1/\
    GK {e with ro:=ro1,own:=LS e q r t} w1 q (.cells 100 (cond (rsE er).1 (hsL s') [.top,.top,.top,.top,.top,.top]))/\
    GK {e with ro:=ro1,own:=LS e q r t} w1 r (.row 38 1 s.xn s.xg)/\GK {e with ro:=ro1,own:=LS e q r t} w1 t (.row 9 1 s.yn s.yg):=by
 let e0:UN:={ro:=λx=>e.ro x\/(w0.heap.size<=x/\x<w.heap.size/\e.own x≠some q/\e.own x≠some r/\e.own x≠some t),own:=λx=>if e.own x=some q then some 0 else if e.own x=some r then some 1 else if e.own x=some t then some 2 else none,live:=λk=>k<901,blk:=λ_=>e.blk q,val:=λk=>if k=1 then e.val r else e.val t}
 obtain ⟨ql,qo,vs,qh,qv⟩:=hq;obtain ⟨rl,ro,rf,rxs,rh,rv⟩:=hr;obtain ⟨tl,to,tf,txs,th,tv⟩:=ht;have oq: ∀{x},e.own x=some q->e0.own x=some 0:=λh=>if_pos h
 have or_: ∀{x},e.own x=some r->e0.own x=some 1:=λh=>by simp [e0,h,hqr.symm]
 have ot: ∀{x},e.own x=some t->e0.own x=some 2:=λh=>by simp [e0,h,hqt.symm,hrt.symm]
 have hE0:G4 e0 w0.heap.size w:=by
  refine ⟨λx hx=>?_,λx k hk=>?_,λg p hp=>⟨.inl (hEv.glob g p hp).1,(hEv.glob g p hp).2⟩⟩
  ·rcases hx with hx|⟨_,h2,h3,h4,h5⟩
   ·obtain ⟨h1,h2⟩:=hEv.apart x hx;exact ⟨by simp [e0,h1],h2⟩
   ·exact ⟨by simp [e0,h3,h4,h5],h2⟩
  ·have hk:(if e.own x=some q then some 0 else if e.own x=some r then some 1 else if e.own x=some t then some 2 else none)=some k:=hk
   split at hk
   ·rename_i h;exact hEv.owned x _ h
   split at hk
   ·rename_i h;exact hEv.owned x _ h
   split at hk
   ·rename_i h;exact hEv.owned x _ h
   ·cases hk
 have sub0: ∀b,e.ro b->e0.ro b:=λb h=> .inl h
 have idfL:=Qe4 s;have hM:UX e0 (hsM s) w:=by
  intro p hp;simp only [GQ,DQ,or_false] at hp;rcases hp with rfl|rfl|rfl
  ·exact ⟨show 0<901 by omega,oq qo,vs,qh,⟨qv.1,λi a v A I=>Rep.idf sub0 (qv.2 i a v A I) (idfL a (F4 A))⟩⟩
  ·exact ⟨show 1<901 by omega,λb hb=>or_ (ro b hb),rf,rxs,rh,λi j a v O A I=>Rep.idf sub0 (rv i j a v O A I) ((rf i O).2 a (F4 A))⟩
  ·exact ⟨show 2<901 by omega,λb hb=>ot (to b hb),tf,txs,th,λi j a v O A I=>Rep.idf sub0 (tv i j a v O A I) ((tf i O).2 a (F4 A))⟩
 let c0:Cx:={M:=λ_=>False,Φ:=λ_ _ _=>True,K:=λx o=>e0.ro x/\w.heap[x]? =some o,saved:=[[.pointer (some ⟨e.blk q,0,none⟩),e.val r,e.val t]],sz:=w.heap.size}
 have hS:U5 e0 w [.ptr 0 0,.row 1,.row 2] [.pointer (some ⟨e.blk q,0,none⟩),e.val r,e.val t]:=by
  obtain ⟨a1,b1,d1,h1⟩:=hrv;obtain ⟨a2,b2,d2,h2⟩:=htv;refine .cons (.ptr 0 0 (show 0<901 by omega)) (.cons ?_ (.cons ?_ (.nil _ _)))
  ·rw [h1];exact .row 1 _ _ _ (show 1<901 by omega) h1
  ·rw [h2];exact .row 2 _ _ _ (show 2<901 by omega) h2
 have hX:Xt c0 e0 [[.ptr 0 0,.row 1,.row 2]] [] w:=
  ⟨⟨λd hd=>(by cases hd),List.nodup_nil⟩,λx o hk=>⟨hk.1,(hE0.apart x hk.1).2,hk.2⟩,LC.cons hS ⟨rfl,λi a v h=>by simp at h⟩,Am _⟩
 have hT0: ∀b,T b->b<w0.heap.size/\ ¬e0.ro b:=λb hb=>⟨(hT b hb).1,λh=>by
  rcases h with h|⟨h,_⟩
  ·exact (hT b hb).2 h
  ·have:=(hT b hb).1;omega⟩
 have hA:U5 e0 w [.ptr 0 0,.x (.string str)] [.pointer (some ⟨e.blk q,0,none⟩),.string str]:= .cons (.ptr 0 0 (show 0<901 by omega)) (.cons (.x _) (.nil _ _))
 refine (hE c0 w0 T e0 [] _ w hE0 hB hM (λk hk=>hk) hT0 hX hA).mono ?_
 rintro en w1 ⟨hen,e1,g1,g2,g3,g4,g5,g6⟩;have OR: ∀x,e0.ro x->e1.ro x/\w1.heap[x]? =w.heap[x]? :=by
  intro x hx;have hlt:=(hE0.apart x hx).2;have hk:=g6.kept x w.heap[x] ⟨hx,by simp [hlt]⟩
  exact ⟨hk.1,by rw [hk.2.2];simp [hlt]⟩
 have hsv:(cond (rsE er).1 (OS s') (OX s)).sv=[[.ptr 0 0,.row 1,.row 2]]:=by
  cases (rsE er).1<;>rfl
 have hsd:=g6.saved;rw [hsv] at hsd;have hs1:=hsd.2 0 _ _ rfl rfl;obtain ⟨v0,l0,q0,r0,hs1⟩:=hs1.cons_inv;obtain ⟨rfl,rfl⟩:=List.cons.inj q0;obtain ⟨v1,l1,q1,r1,hs1⟩:=hs1.cons_inv;obtain ⟨rfl,rfl⟩:=List.cons.inj q1;obtain ⟨v2,l2,q2,r2,_⟩:=hs1.cons_inv;obtain ⟨rfl,rfl⟩:=List.cons.inj q2;have b0:e1.blk 0=e.blk q:=by
  generalize I:Value.pointer (some ⟨e.blk q,0,none⟩)=v at r0;cases r0;injection I with I
  injection I with I
  injection I with I _
  exact I.symm
 have u1:e1.val 1=e.val r:=by
  generalize I:e.val r=v at r1;cases r1;assumption
 have u2:e1.val 2=e.val t:=by
  generalize I:e.val t=v at r2;cases r2;assumption
 have m0:GK e1 w1 0 (.cells 100 (cond (rsE er).1 (hsL s') [.top,.top,.top,.top,.top,.top])):=by
  cases hb:(rsE er).1
  ·rw [hb] at g3;exact g3 (0,.cells 100 [.top,.top,.top,.top,.top,.top]) (by simp [OX])
  ·rw [hb] at g3;exact g3 (0,.cells 100 (hsL s')) (by simp [OS])
 have m1:GK e1 w1 1 (.row 38 1 s.xn s.xg):=by
  cases hb:(rsE er).1
  ·rw [hb] at g3;exact g3 (1,.row 38 1 s.xn s.xg) (by simp [OX])
  ·rw [hb] at g3;have:=g3 (1,.row 38 1 s'.xn s'.xg) (by simp [OS]);rw [hx.1,hx.2.1] at this;exact this
 have m2:GK e1 w1 2 (.row 9 1 s.yn s.yg):=by
  cases hb:(rsE er).1
  ·rw [hb] at g3;exact g3 (2,.row 9 1 s.yn s.yg) (by simp [OX])
  ·rw [hb] at g3;have:=g3 (2,.row 9 1 s'.yn s'.yg) (by simp [OS]);rw [hx.2.2.1,hx.2.2.2] at this;exact this
 have hsz:w.heap.size<=w1.heap.size:=g6.size;obtain ⟨_,n0,vs1,k0,k1⟩:=m0;obtain ⟨_,n1,f1,xs1,p1,p2⟩:=m1;obtain ⟨_,n2,f2,xs2,y1,y2⟩:=m2;rw [b0] at n0 k0;rw [u1] at n1 p1;rw [u2] at n2 y1;have idfC: ∀a∈(cond (rsE er).1 (hsL s') [.top,.top,.top,.top,.top,.top]),Idf a:=by
  cases (rsE er).1
  ·intro a A;simp only [cond_false,GQ,DQ,or_false,or_self] at A;subst A;exact .top
  ·exact Qe4 s'
 have oq1:LS e q r t (e.blk q)=some q:=if_pos rfl;have or1: ∀b,(e.val r).ownBlock=some b->LS e q r t b=some r:=by
  intro b hb;have:b≠e.blk q:=by
   rintro rfl;have:=n1 _ hb;rw [n0] at this;cases this
  unfold LS;rw [if_neg this,if_pos hb]
 have ot1: ∀b,(e.val t).ownBlock=some b->LS e q r t b=some t:=by
  intro b hb;have h1:b≠e.blk q:=by
   rintro rfl;have:=n2 _ hb;rw [n0] at this;cases this
  have h2:(e.val r).ownBlock≠some b:=by
   intro h;have h3:=n1 _ h;rw [n2 _ hb] at h3;cases h3
  unfold LS;rw [if_neg h1,if_neg h2,if_pos hb]
 have cv: ∀{a:AV} {v:Value},Rep e1 w1 a v->Idf a->Rep {e with ro:=e1.ro,own:=LS e q r t} w1 a v:=λh k=>Rep.idf (e:=e1) (e':={e with ro:=e1.ro,own:=LS e q r t}) (λ_ h=>h) h k
 refine ⟨hen,g2,hsz,λx hx=>(OR x hx).2,e1.ro,λx hx=>(OR x (sub0 x hx)).1,λx hx=>(g5 x hx).2,⟨λx hx=>⟨?_,(g1.apart x hx).2⟩,λx k hk=>?_,λg p hp=>g1.glob g p hp⟩,⟨ql,oq1,vs1,k0,⟨k1.1,λi a v A I=>cv (k1.2 i a v A I) (idfC a (F4 A))⟩⟩,⟨rl,or1,f1,xs1,p1,λi j a v O A I=>cv (p2 i j a v O A I) ((f1 i O).2 a (F4 A))⟩,⟨tl,ot1,f2,xs2,y1,λi j a v O A I=>cv (y2 i j a v O A I) ((f2 i O).2 a (F4 A))⟩⟩
 ·have h0:=(g1.apart x hx).1;have c1:x≠e.blk q:=by
   rintro rfl;rw [n0] at h0;cases h0
  have c2:(e.val r).ownBlock≠some x:=λh=>by
   rw [n1 _ h] at h0;cases h0
  have c3:(e.val t).ownBlock≠some x:=λh=>by
   rw [n2 _ h] at h0;cases h0
  show LS e q r t x=none;unfold LS;rw [if_neg c1,if_neg c2,if_neg c3]
 ·have up: ∀{x j},e.own x=some j->w0.heap.size<=x/\x<w1.heap.size:=λh=>⟨(hEv.owned _ _ h).1,qD (hEv.owned _ _ h).2 hsz⟩
  have hk:LS e q r t x=some k:=hk;unfold LS at hk;split at hk
  ·rename_i h;rw [h];exact up qo
  split at hk
  ·rename_i h;exact up (ro _ h)
  split at hk
  ·rename_i h;exact up (to _ h)
  ·cases hk
end Go.Proofs.YtlclobclmfhlmaaGreatDoor.Hd
