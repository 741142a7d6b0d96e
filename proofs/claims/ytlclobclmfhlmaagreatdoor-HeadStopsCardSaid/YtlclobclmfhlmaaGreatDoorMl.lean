/- Contracts, put together. Conditions: those of each. -/
import Derived.Test.YtlclobclmfhlmaaGreatDoorMk
import Derived.Shelf.Spec.SlicesGrow
set_option linter.unusedSimpArgs false
set_option linter.unusedVariables false
set_option maxRecDepth 100000
namespace Go.Proofs.YtlclobclmfhlmaaGreatDoor.Hd
open Go Go.Shelf
def iM:Go.Shelf.Ren:=⟨λ| 4=>219|n=>n,λ| 22=>25| 25=>72|n=>n,λn=>n⟩
theorem Qd9:Go.Proofs.Lays8.n4 Tryz.prog iM:=by
 constructor
 case f4=>exact ⟨Tryz.f219.name,(of_decide_eq_true (by kernel_rfl)),Tryz.func219.trans (congrArg some (by kernel_rfl))⟩
 all_goals first|(intro _;kernel_rfl)|kernel_rfl
open Go Go.Shelf Go.Sx Go.RowKit
theorem Zm6: ∃i0 z,Tryz.prog.info? 72=some i0/\i0.zero=some z/\i0.size=4/\i0.bytes=32/\z.cells.size=4:=by
 have h:((Tryz.prog.info? 72).bind λi=>i.zero.map λz=>(i.size,i.bytes,z.cells.size))=some (4,32,4):=VY
 cases O:Tryz.prog.info? 72 with
 |none=>rw [O] at h;cases h
 |some i0=>
  rw [O] at h;cases hz:i0.zero with
  |none=>
   have h:(i0.zero.map λz=>(i0.size,i0.bytes,z.cells.size))=some (4,32,4):=h
   rw [hz] at h;cases h
  |some z=>
   have h:(i0.zero.map λz=>(i0.size,i0.bytes,z.cells.size))=some (4,32,4):=h
   rw [hz] at h;simp only [Bt,HJ,FG] at h;exact ⟨i0,z,rfl,hz,h.1,h.2.1,h.2.2⟩
theorem sI(k:Nat)(hk:k<=100000)(w:World):Calls Tryz.prog 219 #[.slice none 0 0,.int .i64 k] w λen w'=> ∃v,en= .returned v/\Below w.heap.size w w'/\w'.ownsRow 0 72 4 v 0 []/\ ∀b,v.ownBlock=some b->w.heap.size<=b/\b<w'.heap.size:=by
 rcases Nat.eq_zero_or_pos k with rfl|h0
 ·refine Calls.mono (Any8.slices_Grow_room Qd9 none 0 0 0 w VO VO VO VO) ?_;rintro en w' ⟨rfl,rfl⟩;exact ⟨_,rfl,Below.refl _ _,⟨rfl,.inl ⟨rfl,rfl⟩⟩,λb h=>by cases h⟩
 ·obtain ⟨i0,z,e0,e1,e2,e3,e4⟩:=Zm6;refine Calls.mono (Any8.slices_Grow_grow Qd9 i0 z e0 e1 VO none 0 0 k [] w VO VO (by rw [e3];omega) VO VZ (λ_=>rfl) (λa h=>by cases h)) ?_
  rintro en w' ⟨rfl,rfl⟩;have g1:k<=grownCap w (0+k) 0 72:=by have:=grownCap_ge w (0+k) 0 72;omega
  refine ⟨_,rfl,((Below.refl _ _).drew).alloc (Am _) _,⟨rfl,.inr ⟨w.heap.size,grownCap w (0+k) 0 72,#[]++Builtin.zeroCells z.cells (0+k-0)++Builtin.zeroCells z.cells (grownCap w (0+k) 0 72-(0+k)),rfl,Ao _,?_,Ao _,grownCap_le_maxLen w (0+k) 0 72 (by unfold maxLen;omega),?_,VZ⟩⟩,?_⟩
  ·show (w.drew.heap.push _)[w.heap.size]? =_;exact Array.getElem?_push_size ..
  ·rw [Ap] at g1 ⊢;simp [Builtin.zeroCells,e4];omega
  ·intro b h;cases h;exact ⟨Am _,by show w.heap.size<(w.drew.heap.push _).size;rw [Array.size_push];exact Bk _⟩
def bU:BT:=λl=>match l with
 |[.x (.slice none 0 0),.x (.int .i64 k)]=>some ([0<=k/\k<=100000],72,4,0,λ_=>[])
 |_=>none
theorem Ws6:Sx.Enters Tryz.prog 219/\ ∀avs ns T sz n g,bU avs=some (ns,T,sz,n,g)->(∀q∈ns,q)->DU VT 219 avs T sz n g:=by
 refine ⟨(UM Tryz.func219),?_⟩;intro avs ns T sz n g h Z;unfold bU at h;split at h
 ·rename_i k;cases h;obtain ⟨h1,h2⟩:0<=k/\k<=100000:=Z _ GK;intro e w args q1 q2 q3 q4;obtain ⟨u,us,rfl,r1,q5⟩:=q4.cons_inv;obtain ⟨u',us',rfl,r2,q6⟩:=q5.cons_inv;obtain rfl:=q6.nil_inv;cases r1;cases r2;obtain ⟨k',rfl⟩:=Int.eq_ofNat_of_zero_le h1;refine (sI k' VO w).mono ?_;rintro en w' ⟨v,rfl,g1,g2,g3⟩;exact ⟨v,[],rfl,g1,g2,g3,λi O=>VO,λi j a u O=>VO⟩
 ·cases h
theorem Ws5:GG VT 219 (Ws2 bU):=CB Ws6
end Go.Proofs.YtlclobclmfhlmaaGreatDoor.Hd
namespace Go.Proofs.YtlclobclmfhlmaaGreatDoor.Hd
open Go Go.Sx Go.RowKit Bo
open Go.Sx.VR (need branch leaf)
open Go.Sx.AV (lst ptr agg roI tup top)
theorem nY{S:Code->UN->Prop}{c:Code}{s0 s1:UN}(h0: ∀cj,VX c 0=some cj->S cj s0)(h1: ∀cj,VX c 1=some cj->S cj s1):
  ∀j cj,VX c j=some cj-> ∀sp,[s0,s1][j]? =some sp->S cj sp:=by
 intro j cj hj sp hsp
 match j with
 | 0=>simp at hsp;subst hsp;exact h0 cj hj
 | 1=>simp at hsp;subst hsp;exact h1 cj hj
 |j+2=>simp at hsp
def ctI(p:Nat)(a b:Nat->Int)(k:Nat):Int:=if k<p then a k else b (k-p)
def AR:G0
 |[.lst 1 n F]=>match F 0,F 1 with
  |[.lst 4 p f],[.lst 4 q g]=>some ([n=2,UJ 4 p f,UJ 4 q g,p<=10000,q<=10000],.lst 4 (p+q) (λk=>[i (ctI p (col 0 f) (col 0 g) k),i (ctI p (col 1 f) (col 1 g) k),i (ctI p (col 2 f) (col 2 g) k),i (ctI p (col 3 f) (col 3 g) k)]))
  |_,_=>none
 |_=>none
theorem Ws4(p:Nat)(a b u v:Nat->Int)(q:Nat)(a1 b1 u1 v1:Nat->Int)(VW:p<=10000)(UK:q<=10000):U2 VT 185 [.lst 1 2 (UA 1 [rds p a b u v,rds q a1 b1 u1 v1])] (.lst 4 (p+q) (λk=>[i (ctI p a a1 k),i (ctI p b b1 k),i (ctI p u u1 k),i (ctI p v v1 k)])):=by
 refine GF (X:={R:=[],H:=[(219,(Ws2 bU))] }) (L:=[(λs=>some (zN Tryz.prog [] [] (UE (VX (UB Tryz.f185) 0)) 3 s)),(λs=>some (zN Tryz.prog [] [] (UE (VX (UB Tryz.f185) 1)) 3 s))]) Aa (Ai Ab (Ag Ws5 Ac)) U3 Tryz.func185 (UY Tryz.f185) (nY (lpE (b:= .loop (UE (VX (UB Tryz.f185) 0))) VY<|(LF Aa U3 U8 _).N) (lpE (b:= .loop (UE (VX (UB Tryz.f185) 1))) VY<|(LF Aa U3 U8 _).N)) (t:=let z1:=(need [(0:Int)<=0+1+1/\(0:Int)+1+1<(↑(2:Nat):Int)] VR.fail);let z2:=(GM 0 (λx=>[]) (rq4 a b u v));let z0:=(branch (decide ((0:Int)<(↑(2:Nat):Int))) (need [UO 0 2] (need [(0+p)*32<=140737488355328,∀(i:Nat),i<p-> ∀(a_2:AV),a_2∈[Bo.i (a i),Bo.i (b i),Bo.i (u i),Bo.i (v i)]->AV.one a_2=true] (need [VQ ((0:Int)+1)] (branch (decide ((0:Int)+1<(↑(2:Nat):Int))) (need [(0:Int)<=0+1/\(0:Int)+1<(↑(2:Nat):Int)] (need [(0+p+q)*32<=140737488355328,∀(i:Nat),i<q-> ∀(a:AV),a∈[Bo.i (a1 i),Bo.i (b1 i),Bo.i (u1 i),Bo.i (v1 i)]->AV.one a=true] (need [VQ ((0:Int)+1+1)] (branch (decide ((0:Int)+1+1<(↑(2:Nat):Int))) z1 (leaf (RV.lst 4 (0+p+q) (GM (0+p) z2 (rq4 a1 b1 u1 v1)))))))) (leaf (RV.lst 4 (0+p) z2)))))) (leaf (RV.lst 4 0 λx=>[])));(branch (decide ((0:Int)<(↑(2:Nat):Int))) (need [UO 0 2] (need [VQ ((0:Int)+(p:Int))] (branch (decide ((0:Int)+(p:Int)<0)) VR.fail (need [VQ ((0:Int)+1)] (branch (decide ((0:Int)+1<(↑(2:Nat):Int))) (need [(0:Int)<=0+1/\(0:Int)+1<(↑(2:Nat):Int)] (need [VQ ((0:Int)+(p:Int)+(q:Int))] (branch (decide ((0:Int)+(p:Int)+(q:Int)<0)) VR.fail (need [VQ ((0:Int)+1+1)] (branch (decide ((0:Int)+1+1<(↑(2:Nat):Int))) z1 (need [(0:Int)<=0+(p:Int)+(q:Int)/\(0:Int)+(p:Int)+(q:Int)<=100000] z0)))))) (need [(0:Int)<=0+(p:Int)/\(0:Int)+(p:Int)<=100000] z0)))))) (need [(0:Int)<=0/\(0:Int)<=100000] z0))) VY ?_
 have hX: ∀(k:Nat),k<p+q->GM (0+p) (GM 0 (λ_=>[]) λk=>[i (a k),i (b k),i (u k),i (v k)]) (λk=>[i (a1 k),i (b1 k),i (u1 k),i (v1 k)]) k=[i (ctI p a a1 k),i (ctI p b b1 k),i (ctI p u u1 k),i (ctI p v v1 k)]/\ ∀x∈[i (ctI p a a1 k),i (ctI p b b1 k),i (ctI p u u1 k),i (ctI p v v1 k)],isX x:=by
  intro k hk;refine ⟨?_,λx hx=>?_⟩
  ·show HG (decide (k<0+p)) (GM 0 (λ_=>[]) (λk=>[i (a k),i (b k),i (u k),i (v k)]) k) [i (a1 (k-(0+p))),i (b1 (k-(0+p))),i (u1 (k-(0+p))),i (v1 (k-(0+p)))]=_
   rw [IY,Ap];unfold ctI;by_cases h:k<p
   ·rw [decide_eq_true h];simp only [if_pos h];rfl
   ·rw [decide_eq_false h];simp only [if_neg h];rfl
  ·simp only [GS,DS,or_false] at hx;rcases hx with rfl|rfl|rfl|rfl<;>exact Ak
 have hA: ∀(a b u v:Nat->Int) (n k:Nat),k<n-> ∀(x:AV),x∈[i (a k),i (b k),i (u k),i (v k)]->x.one=true:=by
  intro a b u v n k hk x hx;simp only [GS,DS,or_false] at hx;rcases hx with rfl|rfl|rfl|rfl<;>simp [AV.one,Value.oneCell']
 simp only [VR.sat,UF,GA,GR,UI,true_and,HD,VQ]
 (repeat' first|exact hA _ _ _ _ _|exact hX|with_reducible apply Al|with_reducible intro _)
 all_goals omega
theorem Ws3:VU VT 185 AR:=by
 refine ⟨(UM Tryz.func185),?_⟩;intro avs ns res h Z;unfold AR at h;split at h
 ·rename_i n F;split at h
  ·rename_i p f q g h0 h1;cases h;obtain rfl:n=2:=Z _ VZ;have r0:UJ 4 p f:=Z (UJ 4 p f) VZ;have r1:UJ 4 q g:=Z (UJ 4 q g) VZ;have hp:p<=10000:=Z (p<=10000) VZ;have hq:q<=10000:=Z (q<=10000) VZ;refine (Ws4 p (col 0 f) (col 1 f) (col 2 f) (col 3 f) q (col 0 g) (col 1 g) (col 2 g) (col 3 g) hp hq).same (.cons (.deep 1 2 F _ (λk hk=>?_) (λk j a b hk A hb=>?_)) .nil)
   ·rcases (show k=0\/k=1 by omega) with rfl|rfl
    ·rw [h0];rfl
    ·rw [h1];rfl
   ·rcases (show k=0\/k=1 by omega) with rfl|rfl
    ·rw [h0] at A;have hb:[rds p (col 0 f) (col 1 f) (col 2 f) (col 3 f)][j]? =some b:=hb;cases j with
     |zero=>
      cases A;cases hb;exact .lst 4 p f _ r0
     |succ j=>simp at A
    ·rw [h1] at A;have hb:[rds q (col 0 g) (col 1 g) (col 2 g) (col 3 g)][j]? =some b:=hb;cases j with
     |zero=>
      cases A;cases hb;exact .lst 4 q g _ r1
     |succ j=>simp at A
  ·cases h
 ·cases h
def skF(x0:Int)(a:Nat->Int)(k:Nat):Int:=if k<x0.toNat then a k else a (k+1)
def stS(s:HS)(x0:Int):HS:={s with nr:=s.nr-1,ra:=skF x0 s.ra,rb:=skF x0 s.rb,ru:=skF x0 s.ru,rv:=skF x0 s.rv}
def stE(s:HS)(x0:Int):Int:=if bt 0 x0 ((s.nr:Int)-1)=true then 0 else 7
theorem TD{x:Int}(h:0<=x)(a:Nat->Int)(k:Nat):ctI (x.toNat-Int.toNat 0) (λi=>a (Int.toNat 0+i)) (λi=>a ((x+1).toNat+i)) k=skF x a k:=by
 unfold ctI skF;by_cases h':k<x.toNat
 ·rw [if_pos (show k<x.toNat-Int.toNat 0 by simpa using h'),if_pos h']
  exact congrArg a VZ
 ·rw [if_neg (show ¬k<x.toNat-Int.toNat 0 by simpa using h'),if_neg h']
  exact congrArg a (by simp;omega)
noncomputable abbrev SW(s:HS):F3:=AB Tryz.prog [(185,AR),(37,RR)] {} [(114,RE)] [] Tryz.f147 (UB Tryz.f147)
theorem iY(s:HS):DB VT 147 (SW s):=
 FW (G:=[(185,AR),(37,RR)]) (X:=WD) (PX:=[(114,RE)]) (L:=[]) (Ae Ws3 (Ae B5 Aa)) Ad (UW.cons RT (UW.nil _)) U3 (UM Tryz.func147) Tryz.func147 (UY Tryz.f147) (λj cj _ sp hsp=>by simp at hsp)
theorem Qq4(V:Nat->ByteArray)(n:Nat)(str:ByteArray)(s:HS)(VW:uC str n (U9 (UT 1) V))(UK:s.nr<=12):x6 VT 90 [.ptr 0 0,.x (.string str)] (X9 s) 901 [[.ptr 0 0,.row 1,.row 2]] 182 (OS (stS s (U5 (V 0)))) (OX s) (rsE (fmE (U9 (UT 1) V) n 1 (stE s (U5 (V 0))))):=by
 refine LN (PX:=[(114,RE),(115,jU),(147,(SW s))]) (L:=[vK (U9 (UT 1) V) n 1 147 s]) (Ae (LG VW) (Ae wY Aa)) Ad (UW.cons RT (UW.cons xC (UW.cons (iY s) (UW.nil _)))) U3 (UM Tryz.func90) Tryz.func90 (UY Tryz.f90) (LK (lpE (b:= .loop NK) VY<|gQ (U9 (UT 1) V) n 1 147 s VW.2.2.2 (BE VW))) (N:=[]) (t:=let z0:=(U5 (U9 (UT 1) V 1));let z1:=(U9 (UT 1) V (0:Int).toNat);let z2:=(need [[Q5]=[Q5],HF (hL s) QU,QA s,QB s] (leaf (false,(4:Int))));(need [NB str str {data:=#[32] }] (need [UO 0 n] (branch (wdO z1) (need [VQ (wdM (wdK z1)+1)] (branch (!(n:Int)==wdM (wdK z1)+1) z2 (need [(0:Int)<=1/\(1:Int)<=(n:Int)/\(n:Int)<=(n:Int)] (need [QS,U4 (lst 1 n λk=>[FO (U9 (UT 1) V k)]),ZS,WJ,(lst 1 (n-(1:Int).toNat) λi=>[AV.x (.string (U9 (UT 1) V ((1:Int).toNat+i)))])=lst 1 (n-1) λj=>[FO (U9 (UT 1) V (1+j))],(↑(n-(1:Int).toNat):Int)=(↑(n-1):Int),(0:Int)=(↑(0:Nat):Int),0=0,∀(i:Nat),i<0->[]=[iI (U5 (U9 (UT 1) V (1+i)))],wdM (wdK z1)=1,U4 (AV.fn (Fn.func 147) [] []),XJ s,JU s,JV s,XY s,XQ s,XR s,KP s,∀(i:Nat),i<s.xn->s.xg i=s.xg i,KR s,∀(i:Nat),i<s.yn->s.yg i=s.yg i,QS,K1,K2] (branch (nuB (U9 (UT 1) V) n) (need [UO 0 (↑(n-1):Int)] (need [(0:Int).toNat<n-1] (need [VQ ((↑s.nr:Int)-1)] (branch (!bt (0:Int) z0 ((↑s.nr:Int)-1)) (need [[Q5]=[Q5],HF (hL s) QU,QA s,QB s] (leaf (false,(7:Int)))) (need [UO 0 (↑(n-1):Int)] (need [(0:Int).toNat<n-1] (need [(0:Int)<=0/\(0:Int)<=U5 (U9 (UT 1) V 1)/\U5 (U9 (UT 1) V 1)<=(↑s.nr:Int)] (need [UO 0 (↑(n-1):Int)] (need [(0:Int).toNat<n-1] (need [VQ (U5 (U9 (UT 1) V 1)+1)] (need [(0:Int)<=U5 (U9 (UT 1) V 1)+1/\U5 (U9 (UT 1) V 1)+1<=(↑s.nr:Int)/\(↑s.nr:Int)<=(↑s.nr:Int)] (need [2=2,UJ 4 (Int.toNat z0-(0:Int).toNat) λi=>[Bo.i (s.ra ((0:Int).toNat+i)),Bo.i (s.rb ((0:Int).toNat+i)),Bo.i (s.ru ((0:Int).toNat+i)),Bo.i (s.rv ((0:Int).toNat+i))],UJ 4 (s.nr-(U5 (U9 (UT 1) V 1)+1).toNat) λi=>[Bo.i (s.ra ((U5 (U9 (UT 1) V 1)+1).toNat+i)),Bo.i (s.rb ((U5 (U9 (UT 1) V 1)+1).toNat+i)),Bo.i (s.ru ((U5 (U9 (UT 1) V 1)+1).toNat+i)),Bo.i (s.rv ((U5 (U9 (UT 1) V 1)+1).toNat+i))],Int.toNat z0-(0:Int).toNat<=10000,s.nr-(U5 (U9 (UT 1) V 1)+1).toNat<=10000] (need [[Q5]=[Q5],HF [lst 4 (Int.toNat z0-(0:Int).toNat+(s.nr-(U5 (U9 (UT 1) V 1)+1).toNat)) λk=>[iI (ctI (Int.toNat z0-(0:Int).toNat) (λi=>s.ra ((0:Int).toNat+i)) (λi=>s.ra ((U5 (U9 (UT 1) V 1)+1).toNat+i)) k),iI (ctI (Int.toNat z0-(0:Int).toNat) (λi=>s.rb ((0:Int).toNat+i)) (λi=>s.rb ((U5 (U9 (UT 1) V 1)+1).toNat+i)) k),iI (ctI (Int.toNat z0-(0:Int).toNat) (λi=>s.ru ((0:Int).toNat+i)) (λi=>s.ru ((U5 (U9 (UT 1) V 1)+1).toNat+i)) k),iI (ctI (Int.toNat z0-(0:Int).toNat) (λi=>s.rv ((0:Int).toNat+i)) (λi=>s.rv ((U5 (U9 (UT 1) V 1)+1).toNat+i)) k)],iI s.pl,iI s.ph,hY s.nb s,hC s.nc s,hT s.ns s] (hL (stS s (U5 (V 0)))),((38:TypeId),1,s.xn,s.xg)=((38:TypeId),1,(stS s (U5 (V 0))).xn,(stS s (U5 (V 0))).xg),((9:TypeId),1,s.yn,s.yg)=((9:TypeId),1,(stS s (U5 (V 0))).yn,(stS s (U5 (V 0))).yg)] (leaf (true,(0:Int)))))))))))))))) (need [[Q5]=[Q5],HF QU QU,QA s,QB s] (leaf (false,(4:Int))))))))) z2)))) VY ?_
 have hw:wdO (U9 (UT 1) V (Int.toNat 0))=true:=VY;have hm:wdM (wdK (U9 (UT 1) V (Int.toNat 0)))=1:=VY;have hn1:1<=n:=by have:=VW.2.1;omega
 have hnl:=BE VW;simp only [VR.sat,UF,UL,hm,hw,true_imp_iff];refine ⟨⟨rfl,rfl⟩,⟨VO,VO⟩,⟨by simp only [VQ];omega,λh4=>?_,λh4=>?_⟩,λh=>by cases h⟩
 ·exact VC
 ·have hN:n=1+1:=by
   simp at h4;omega
  refine ⟨⟨VO,VO,VO⟩,?_,λh5=>?_,λh5=>?_⟩
  rotate_left 2
  ·exact VD
  ·all_goals exact v7
  ·have hk1:n-1=1:=VO;have hx0:U5 (U9 (UT 1) V 1)=U5 (V 0):=rfl;rw [hk1];simp only [hx0];refine ⟨VO,by decide,by simp only [VQ];omega,λh6=>⟨DQ _ _ _ _ _ _,FD hN h5 ?_ (by decide)⟩,λh6=>?_⟩
   ·unfold stE;rw [bnt h6];rfl
   have h7:=bnf h6;have h8:=(bt_iff _ _ _).1 h7;refine ⟨VO,by decide,VO,VO,by decide,by simp only [VQ];omega,VO,⟨Bo.isRec4 _ _ _ _ _,Bo.isRec4 _ _ _ _ _,VO,VO⟩,⟨⟨⟨rfl,?_,λk hk=>⟨?_,?_⟩⟩,j6 _,j6 _,BI s,BH s,PI s,trivial⟩,rfl,rfl⟩,gB hN h5 ?_⟩
   ·show _=s.nr-1;have e0:Int.toNat 0=0:=rfl;omega
   ·dsimp only
    rw [TD h8.1 s.ra k,TD h8.1 s.rb k,TD h8.1 s.ru k,TD h8.1 s.rv k];exact ⟨(PG _).2,(PG _).2,(PG _).2,(PG _).2,trivial⟩
   ·intro x hx;simp only [GS,DS,or_false] at hx;rcases hx with rfl|rfl|rfl|rfl<;>exact .x _
   ·unfold stE;rw [h7];rfl
def Qk3:G0
 |[]=>some ([],.mpr (λ_=>[.any1,.any1]) wdO)
 |_=>none
theorem Wz0:U2 VT 113 [] (.mpr (λ_=>[.any1,.any1]) wdO):=by
 intro e w args hro hgl FS hr;obtain rfl:=hr.nil_inv;refine (MC w).mono ?_;rintro en w' ⟨rfl,rfl⟩;have hsz:(w.alloc (.map wdE.toArray 8)).heap.size=w.heap.size+1:=VZ;refine ⟨_,rfl,(Below.refl _ _).alloc (Am _) _,?_⟩;refine .mpr _ wdO wdV w.heap.size wdE.toArray 8 (show w.heap.size<=w.heap.size/\w.heap.size<(w.alloc (.map wdE.toArray 8)).heap.size by omega) VO (λs a A=>?_) (World.alloc_heap_new w _) (λs hs=>by simpa using lV hs) (λs hs=>⟨by simpa using Qf6 hs,λa A=>?_⟩) (λs hs=>rfl) (λs k a v hs A I=>?_)
 ·simp only [GS,DS,or_false,or_self] at A;subst A;exact .any1
 ·exact .inr (by simpa using A)
 ·match k,A,I with
  | 0,A,I=>
   simp only [wdV,List.getElem?_cons_zero,HJ] at A I;subst A I;exact .any1 _ rfl
  | 1,A,I=>
   simp only [wdV,List.getElem?_cons_succ,List.getElem?_cons_zero,HJ] at A I;subst A I;exact .any1 _ rfl
  |k+2,A,I=>simp at A
theorem Wy9:VU VT 113 Qk3:=by
 refine ⟨(UM Tryz.func113),?_⟩;intro avs ns res h Z;unfold Qk3 at h;split at h
 ·cases h;exact Wz0
 ·cases h
theorem Jf2(W:Nat->ByteArray)(n:Nat)(str:ByteArray)(s:HS)(VW:uC str n W)(UK:wdO (W 0)=false):x6 VT 90 [.ptr 0 0,.x (.string str)] (X9 s) 901 [[.ptr 0 0,.row 1,.row 2]] 182 (OS s) (OX s) (rsE 4):=by
 refine LN (PX:=[(114,RE),(115,jU)]) (L:=[vK W n 0 0 s]) (Ae (LG VW) (Ae Wy9 Aa)) Ad (UW.cons RT (UW.cons xC (UW.nil _))) U3 (UM Tryz.func90) Tryz.func90 (UY Tryz.f90) (LK (lpE (b:= .loop NK) VY<|gQ W n 0 0 s VW.2.2.2 (BE VW))) (N:=[]) (t:=need [NB str str {data:=#[32] }] (need [UO 0 n] (branch (wdO (W (0:Int).toNat)) VR.fail (need [[Q5]=[Q5],HF (hL s) QU,QA s,QB s] (leaf (false,(4:Int))))))) VY ?_
 have hn1:1<=n:=by have:=VW.2.1;omega
 have h0:wdO (W (Int.toNat 0))=false:=UK;simp only [VR.sat,UF,UL,h0];exact ⟨⟨rfl,rfl⟩,⟨VO,VO⟩,(λh=>by cases h),λ_=>⟨DQ _ _ _ _ _ _,rfl⟩⟩
abbrev lns(n:Nat)(L:Nat->ByteArray):AV:= .lst 1 n (λk=>[.x (.string (L k))])
def lgB(L:Nat->ByteArray)(mx:Int)(j:Nat):Bool:= !decide (((L j).size:Int)<=mx)
section
variable (n:Nat)(L:Nat->ByteArray)
def shB(mx:Int):Bool:=DF (λj=>decide (((L j).size:Int)<=mx)) n
def ckE:Int:=if n<=50/\shB n L 200=true then 0 else 3
end
def mS:G0
 |[.x (.int .i64 mx),.x (.string s)]=>some ([],bl (decide ((s.size:Int)<=mx)))
 |_=>none
theorem Qr9(s:ByteArray)(mx:Int):U2 VT 56 [i mx,.x (.string s)] (bl (decide ((s.size:Int)<=mx))):=by
 refine H3 Tryz.func56 (t:=leaf (RV.x (.bool (decide ((↑(ByteArray.size s):Int)<=mx))))) VY ?_;exact V5
theorem Qr8:VU VT 56 mS:=by
 refine ⟨(UM Tryz.func56),?_⟩;intro avs ns res h Z;unfold mS at h;split at h
 ·cases h;exact Qr9 _ _
 ·cases h
def mU:G0
 |[.x (.string s),.ro [.fn (.func 56) [.x (.int .i64 mx)] []]]=>some ([],bl (!decide ((s.size:Int)<=mx)))
 |_=>none
theorem Qt4(s:ByteArray)(mx:Int):U2 VT 86 [.x (.string s),.ro [.fn (.func 56) [i mx] []]] (bl (!decide ((s.size:Int)<=mx))):=by
 refine U6 (L:=[]) (Ae Qr8 Aa) U3 Tryz.func86 (UY Tryz.f86) U8 (t:=leaf (RV.x (.bool !decide ((↑(ByteArray.size s):Int)<=mx)))) VY ?_;exact V5
theorem OZ:VU VT 86 mU:=by
 refine ⟨(UM Tryz.func86),?_⟩;intro avs ns res h Z;unfold mU at h;split at h
 ·cases h;exact Qt4 _ _
 ·cases h
abbrev Q8(n:Nat)(L:Nat->ByteArray):AV:=lst 1 n λk=>[FO (L k)]
abbrev WP(mx:Int):AV:=AV.fn (Fn.func 86) [] [AV.ro [AV.fn (Fn.func 56) [iI mx] []]]
section
variable (n:Nat)(L:Nat->ByteArray)(mx:Int)
def dL:St:={σ:=[Q8 n L,WP mx]++HO 5 [iI (n:Int)]++HO 11 [],m:=[],nx:=4}
noncomputable def Qm6:Code:=UE (VX (UB Tryz.f109) 0)
def OL(k:Nat):St:=(upM [(8,i k)] (dL n L mx))
def qI(k:Nat):GB->Option St
 | .ret=>some (upM [(4,i (H0 ((lgB L mx)) n))] (dL n L mx))
 | .exit 0=>some (upM [] (dL n L mx))
 |_=>none
def Qh8:CT:= .branch (decide (H0 ((lgB L mx)) n<n)) (.leaf (.ret,(qI n L mx 0 .ret).getD (dL n L mx))) (.leaf (.exit 0,(qI n L mx 0 (.exit 0)).getD (dL n L mx)))
def nE:UN:=(HM (OL n L mx (0)) (Qh8 n L mx))
theorem Qx7(VW:n<=100000):GC VT (.loop Qm6) (nE n L mx):=by
 refine HL (L:=[]) (Ae OZ Aa) U3 U8 (X:=Nat) (OL n L mx) (λk=>k<=n/\ ∀j,j<k->(lgB L mx) j=false) (λk=>n-k) (qI n L mx) (x0:=0) ⟨VO,λj hj=>VO⟩ ?_ ?_ ?_
 ·rintro k;kernel_rfl
 ·rintro k y E h;unfold qI at h;split at h
  ·cases h;kernel_rfl
  ·cases h;kernel_rfl
  ·cases h
 ·rintro Q hQ k hx;refine ⟨(k+1),?_⟩;(with_reducible refine DN (t:=branch (decide ((k:Int)<(n:Int))) (need [UO k n] (branch (!decide ((↑(ByteArray.size (L k)):Int)<=mx)) (need [U4 (Q8 n L),WP mx=WP mx,(k:Int)=(↑(H0 (lgB L mx) n):Int),U4 (n:Int)] (leaf GB.ret)) (need [VQ ((k:Int)+1)] (need [U4 (Q8 n L),WP mx=WP mx,U4 (n:Int),(k:Int)+1=(↑(k+1):Int)] (leaf GB.normal))))) (need [U4 (Q8 n L),WP mx=WP mx,U4 (n:Int)] (leaf (GB.exit 0)))) VY ?_);simp only [Qh8,qI,VR.sat,GZ,HD] at hQ;simp only [VR.sat,UF,UL,HD,VQ,qI,DR];have Xl4:k<n->((lgB L mx)) k=true->H0 ((lgB L mx)) n=k:=λh hb=>jD h hb hx.2
  have PL: ¬k<n->H0 ((lgB L mx)) n=n:=λh=>qJ (λj hj=>hx.2 j VO)
  have hgo:((lgB L mx)) k=false-> ∀j,j<k+1->((lgB L mx)) j=false:=by
   intro hb j hj;rcases (show j<k\/j=k by omega) with h1|rfl
   ·exact hx.2 j h1
   ·exact hb
  refine ⟨λh=>⟨VO,?_⟩,λh=>?_⟩
  rotate_left
  ·intro E hE;cases hE;exact hQ.2 (by rw [PL VO];omega)
  have hk:k<n:=VO;refine ⟨λhb=>?_,λhb=>?_⟩
  ·exact VI
  ·exact ⟨VO,VO,⟨VO,hgo hb⟩,VO⟩
theorem Xk4(VW:n<=100000):U2 VT 109 [lns n L,.fn (.func 86) [] [.ro [.fn (.func 56) [i mx] []]]] (i (if H0 ((lgB L mx)) n<n then (H0 ((lgB L mx)) n:Int) else -1)):=by
 refine U6 (L:=[nE n L mx]) (Ae OZ Aa) U3 Tryz.func109 (UY Tryz.f109) (G4 (lpE (b:= .loop Qm6) VY<|Qx7 n L mx VW)) (t:=need [U4 (Q8 n L),WP mx=WP mx,U4 (n:Int),(0:Int)=(↑(0:Nat):Int)] (branch (decide (H0 (lgB L mx) n<n)) (leaf (RV.x (.int .i64 (↑(H0 (lgB L mx) n):Int)))) (leaf (RV.x (KL))))) VY ?_
 exact VG
def Zr6:G0:=λl=>some ([l=[lns n L,.fn (.func 86) [] [.ro [.fn (.func 56) [i mx] []]]]],i (if H0 (lgB L mx) n<n then (H0 (lgB L mx) n:Int) else -1))
theorem Wo7(VW:n<=100000):VU VT 109 (Zr6 n L mx):=by
 refine ⟨(UM Tryz.func109),?_⟩;intro avs ns res h Z;cases h;have e:=Z _ GK;subst e;exact Xk4 n L mx VW
theorem Xm1(VW:n<=100000):U2 VT 85 [lns n L,.fn (.func 86) [] [.ro [.fn (.func 56) [i mx] []]]] (bl (!shB n L mx)):=by
 refine U6 (L:=[]) (Ae (Wo7 n L mx VW) Aa) U3 Tryz.func85 (UY Tryz.f85) U8 (t:=need [U4 ([Q8 n L,WP mx])] (leaf (RV.x (.bool (decide ((if H0 (lgB L mx) n<n then (↑(H0 (lgB L mx) n):Int) else (-1:Int))>=(0:Int))))))) VY ?_
 simp only [VR.sat,UF,GA,UI,UL];unfold shB;rw [kZ];have:=F0 (lgB L mx) n;have e:(λk=> !(λj=>decide (((L j).size:Int)<=mx)) k)=lgB L mx:=rfl
 rw [e];show decide ((if H0 (lgB L mx) n<n then (H0 (lgB L mx) n:Int) else -1)>=0)=_
 split<;>simp<;>omega
def Zr8:G0:=λl=>some ([l=[lns n L,.fn (.func 86) [] [.ro [.fn (.func 56) [i mx] []]]]],bl (!shB n L mx))
theorem Wr6(VW:n<=100000):VU VT 85 (Zr8 n L mx):=by
 refine ⟨(UM Tryz.func85),?_⟩;intro avs ns res h Z;cases h;have e:=Z _ GK;subst e;exact Xm1 n L mx VW
theorem Ws0(VW:n<=100000):U2 VT 57 [lns n L,.fn (.func 56) [i mx] []] (bl (shB n L mx)):=by
 refine U6 (L:=[]) (Ae (Wr6 n L mx VW) Aa) U3 Tryz.func57 (UY Tryz.f57) U8 (t:=need [U4 ([Q8 n L,WP mx])] (leaf (RV.x (.bool !!shB n L mx)))) VY ?_;simp only [VR.sat,UF,GA,UI,UL];show (!!shB n L mx)=_;simp
def Xq7:G0:=λl=>some ([l=[lns n L,.fn (.func 56) [i mx] []]],bl (shB n L mx))
theorem Qt3(VW:n<=100000):VU VT 57 (Xq7 n L mx):=by
 refine ⟨(UM Tryz.func57),?_⟩;intro avs ns res h Z;cases h;have e:=Z _ GK;subst e;exact Ws0 n L mx VW
end
section
variable (n:Nat)(L:Nat->ByteArray)
abbrev YO:List AV:=[Q8 n L,AV.fn (Fn.func 56) [iI 200] []]
theorem OV(VW:n<=100000):U2 VT 30 [lns n L] (i (ckE n L)):=by
 refine U6 (L:=[]) (Ae (Qt3 n L 200 VW) Aa) U3 Tryz.func30 (UY Tryz.f30) U8 (t:=branch (decide ((n:Int)>50)) (leaf (RV.x (KN))) (need [U4 (YO n L)] (branch (!shB n L (200:Int)) (leaf (RV.x (KN))) (leaf (RV.x (X2)))))) VY ?_;simp only [VR.sat,UF,GA,UI,UL,HD];have hc: ∀b:Bool,shB n L 200=b->ckE n L=if n<=50/\b=true then 0 else 3:=λb h=>by unfold ckE;rw [h]
 cases hs:shB n L 200
 all_goals
  rw [hc _ hs];simp
  try omega
def Xc0:G0:=λl=>some ([l=[lns n L]],i (ckE n L))
theorem B6(VW:n<=100000):VU VT 30 (Xc0 n L):=by
 refine ⟨(UM Tryz.func30),?_⟩;intro avs ns res h Z;cases h;have e:=Z _ GK;subst e;exact OV n L VW
end
def tN:G0
 |[.lst 4 n f]=>some ([n<=100000,gdX 4 n f],.lst 4 n f)
 |_=>none
theorem V9{p:Prop}(h:p:=by
 simp only [VR.sat,UF,GA,true_and];refine ⟨λh=>⟨Ak,h⟩,⟨VO,λk hk x hm=>((UK k hk).2 x hm).2⟩,Ap n,?_⟩
 exact λk hk=>⟨IY f k,λx hm=>((UK k hk).2 x hm).1⟩):p:=h
theorem Xl8(n:Nat)(f:Nat->List AV)(VW:n<=100000)(UK:gdX 4 n f):U2 VT 64 [.lst 4 n f] (.lst 4 n f):=by
 refine GF (L:=[]) Aa Ad U3 Tryz.func64 (UY Tryz.f64) G9 (t:=VR.may (n=0) (leaf (RV.x (J6))) (need [(0+n)*32<=140737488355328,∀(i:Nat),i<n-> ∀(a:AV),a∈f i->AV.one a=true] (leaf (RV.lst 4 (0+n) (GM 0 (λx=>[]) λa=>f a))))) VY ?_
 exact V9
theorem Qf2:VU VT 64 tN:=by
 refine ⟨(UM Tryz.func64),?_⟩;intro avs ns res h Z;unfold tN at h;split at h
 ·cases h;exact Xl8 _ _ (Z _ VZ) (Z _ VZ)
 ·cases h
def tO:G0
 |[.lst 5 n f]=>some ([n<=100000,gdX 5 n f],.lst 5 n f)
 |_=>none
theorem Xl9(n:Nat)(f:Nat->List AV)(VW:n<=100000)(UK:gdX 5 n f):U2 VT 65 [.lst 5 n f] (.lst 5 n f):=by
 refine GF (L:=[]) Aa Ad U3 Tryz.func65 (UY Tryz.f65) G9 (t:=VR.may (n=0) (leaf (RV.x (J6))) (need [(0+n)*40<=140737488355328,∀(i:Nat),i<n-> ∀(a:AV),a∈f i->AV.one a=true] (leaf (RV.lst 5 (0+n) (GM 0 (λx=>[]) λa=>f a))))) VY ?_
 exact V9
theorem Qf3:VU VT 65 tO:=by
 refine ⟨(UM Tryz.func65),?_⟩;intro avs ns res h Z;unfold tO at h;split at h
 ·cases h;exact Xl9 _ _ (Z _ VZ) (Z _ VZ)
 ·cases h
def tM:G0
 |[.lst 5 n f]=>some ([n<=100000,gdX 5 n f],.lst 5 n f)
 |_=>none
theorem Xl7(n:Nat)(f:Nat->List AV)(VW:n<=100000)(UK:gdX 5 n f):U2 VT 66 [.lst 5 n f] (.lst 5 n f):=by
 refine GF (L:=[]) Aa Ad U3 Tryz.func66 (UY Tryz.f66) G9 (t:=VR.may (n=0) (leaf (RV.x (J6))) (need [(0+n)*40<=140737488355328,∀(i:Nat),i<n-> ∀(a:AV),a∈f i->AV.one a=true] (leaf (RV.lst 5 (0+n) (GM 0 (λx=>[]) λa=>f a))))) VY ?_
 exact V9
theorem Qf1:VU VT 66 tM:=by
 refine ⟨(UM Tryz.func66),?_⟩;intro avs ns res h Z;unfold tM at h;split at h
 ·cases h;exact Xl7 _ _ (Z _ VZ) (Z _ VZ)
 ·cases h
def tL:G0
 |[.lst 2 n f]=>some ([n<=100000,gdX 2 n f],.lst 2 n f)
 |_=>none
theorem Xl6(n:Nat)(f:Nat->List AV)(VW:n<=100000)(UK:gdX 2 n f):U2 VT 67 [.lst 2 n f] (.lst 2 n f):=by
 refine GF (L:=[]) Aa Ad U3 Tryz.func67 (UY Tryz.f67) G9 (t:=VR.may (n=0) (leaf (RV.x (J6))) (need [(0+n)*16<=140737488355328,∀(i:Nat),i<n-> ∀(a:AV),a∈f i->AV.one a=true] (leaf (RV.lst 2 (0+n) (GM 0 (λx=>[]) λa=>f a))))) VY ?_
 exact V9
theorem Qf0:VU VT 67 tL:=by
 refine ⟨(UM Tryz.func67),?_⟩;intro avs ns res h Z;unfold tL at h;split at h
 ·cases h;exact Xl6 _ _ (Z _ VZ) (Z _ VZ)
 ·cases h
end Go.Proofs.YtlclobclmfhlmaaGreatDoor.Hd
namespace Go.Proofs.YtlclobclmfhlmaaGreatDoor.Hd
open Go Go.Sx Go.RowKit
open Go.Sx.VR (need branch leaf)
open Go.Sx.AV (lst ptr agg roI tup top)
def FB(W:Nat->ByteArray)(s:HS):HS:=match wdK (W 0) with
 | 0=>thS s (U5 (W 1)) (U5 (W 2)) (U5 (W 3)) (U5 (W 4))
 | 1=>stS s (U5 (W 1))
 | 2=>baS s (U5 (W 1)) (U5 (W 2))
 | 3=>btS s (U5 (W 1)) (U5 (W 2))
 | 4=>seS s (U5 (W 1)) (U5 (W 2))
 | 5=>isS s (U5 (W 1)) (U5 (W 2)) (U5 (W 3)) (U5 (W 4))
 | 6=>voS s (U5 (W 1))
 | 7=>slS s (U5 (W 1)) (U5 (W 2)) (U5 (W 3)) (U5 (W 4)) (U5 (W 5))
 |_=>s
def LX(W:Nat->ByteArray)(n:Nat)(s:HS):Int:=match wdK (W 0) with
 | 0=>fmE W n 4 (thE s (U5 (W 1)) (U5 (W 2)) (U5 (W 3)) (U5 (W 4)))
 | 1=>fmE W n 1 (stE s (U5 (W 1)))
 | 2=>fmE W n 2 (baE s (U5 (W 1)) (U5 (W 2)))
 | 3=>fmE W n 2 (btE s (U5 (W 1)) (U5 (W 2)))
 | 4=>fmE W n 2 (seE s (U5 (W 1)) (U5 (W 2)))
 | 5=>fmE W n 4 (isE s (U5 (W 1)) (U5 (W 2)) (U5 (W 3)) (U5 (W 4)))
 | 6=>fmE W n 1 (voE s (U5 (W 1)))
 | 7=>fmE W n 5 (slE s (U5 (W 1)) (U5 (W 2)) (U5 (W 3)) (U5 (W 4)) (U5 (W 5)))
 |_=>4
structure rB (s:HS):Prop where
 nr:s.nr<=12
 bV:bV s.nb s.ql s.qh s.qm s.qr s.qv
 nc:s.nc<=10
 sV:sV s.ns s.sa s.sb s.sc s.sl s.sh
abbrev hsM(s:HS):H9:=[(0,.cells 100 (hsL s)),(1,.row 38 1 s.xn s.xg),(2,.row 9 1 s.yn s.yg)]
theorem Qq5{str:ByteArray}{n:Nat}{W:Nat->ByteArray}{s:HS}(h:uC str n W)(hs:rB s):
  x6 VT 90 [.ptr 0 0,.x (.string str)] (hsM s) 901 [[.ptr 0 0,.row 1,.row 2]] 182 (OS (FB W s)) (OX s) (rsE (LX W n s)):=by
 rcases AY (W 0) with ⟨h1,h2⟩|⟨h1,_⟩
 ·have hV: ∀q,wdL[q]? =some (W 0)->U9 (UT q) (λk=>W (k+1))=W:=by
   intro q hq;funext k;cases k with
   |zero=>
    show UT q=W 0;unfold UT;rw [List.getD_eq_getElem?_getD,hq];rfl
   |succ k=>rfl
  unfold FB LX;rcases (show wdK (W 0)=0\/wdK (W 0)=1\/wdK (W 0)=2\/wdK (W 0)=3\/wdK (W 0)=4\/wdK (W 0)=5\/wdK (W 0)=6\/wdK (W 0)=7 by omega) with h3|h3|h3|h3|h3|h3|h3|h3
  all_goals
   rw [h3] at h2 ⊢;have e:=hV _ h2;have h':=h;rw [←e] at h'
  ·have k:=Qq3 (λk=>W (k+1)) n str s h' hs.nr
   rw [e] at k;exact k
  ·have k:=Qq4 (λk=>W (k+1)) n str s h' hs.nr
   rw [e] at k;exact k
  ·have k:=Xj2 (λk=>W (k+1)) n str s h'
   rw [e] at k;exact k
  ·have k:=Xj1 (λk=>W (k+1)) n str s h' hs.bV.1.1
   rw [e] at k;exact k
  ·have k:=Zm0 (λk=>W (k+1)) n str s h' hs.bV
   rw [e] at k;exact k
  ·have k:=Wj0 (λk=>W (k+1)) n str s h' hs.nc
   rw [e] at k;exact k
  ·have k:=Xi9 (λk=>W (k+1)) n str s h' hs.nc
   rw [e] at k;exact k
  ·have k:=Xj0 (λk=>W (k+1)) n str s h' hs.sV
   rw [e] at k;exact k
 ·have h0:wdO (W 0)=false:=by
   unfold wdO;rw [h1];rfl
  have k:=Jf2 W n str s h h0;unfold LX;rw [h1];show x6 _ _ _ _ _ _ _ (OS (FB W s)) _ _;have e:FB W s=s:=by
   unfold FB;rw [h1];rfl
  rw [e];exact k
theorem fm0{W:Nat->ByteArray}{n many:Nat}{e:Int}(h:fmE W n many e=0):e=0:=by
 unfold fmE at h;split at h
 ·exact h
 ·exact absurd h (by decide)
theorem Xg6{W:Nat->ByteArray}{n:Nat}{s:HS}(hs:rB s)(h0:LX W n s=0):rB (FB W s):=by
 unfold LX at h0;unfold FB;split at h0
 ·have h:=fm0 h0;unfold thE at h;split at h
  ·split at h
   ·exact ⟨by show s.nr+1<=12;omega,hs.bV,hs.nc,hs.sV⟩
   ·exact absurd h (by decide)
  ·exact absurd h (by decide)
 ·exact ⟨by show s.nr-1<=12;have:=hs.nr;omega,hs.bV,hs.nc,hs.sV⟩
 ·exact ⟨hs.nr,hs.bV,hs.nc,hs.sV⟩
 ·have h:=fm0 h0;unfold btE at h;split at h
  ·rename_i hb;split at h
   ·rename_i h6;have hx:=(bt_iff _ _ _).1 hb.1;refine ⟨hs.nr,⟨⟨by show s.nb+1<=6;omega,λb hb'=>?_⟩,λb hb' j k hjk hk=>?_⟩,hs.nc,hs.sV⟩
    ·have hb':b<s.nb+1:=hb';show (if b<s.nb then s.qm b else 0)<=10/\0<=HK s.nb s.ql _ b/\HK s.nb s.ql _ b<=HK s.nb s.qh _ b/\HK s.nb s.qh _ b<=1000/\ ∀j,j<(if b<s.nb then s.qm b else 0)->0<=s.qr b j/\s.qr b j<=2/\ -1000<=s.qv b j/\s.qv b j<=2000
     unfold HK;by_cases e:b<s.nb
     ·simp only [if_pos e];exact hs.bV.1.2 b e
     ·simp only [if_neg e];exact ⟨VO,hx.1,hx.2,hb.2,λj hj=>VO⟩
    ·have hk:k<(if b<s.nb then s.qm b else 0):=hk
     by_cases e:b<s.nb
     ·rw [if_pos e] at hk;exact hs.bV.2 b e j k hjk hk
     ·rw [if_neg e] at hk;omega
   ·exact absurd h (by decide)
  ·exact absurd h (by decide)
 ·have h:=fm0 h0;unfold seE at h;split at h
  ·rename_i g1;split at h
   ·rename_i g2;split at h
    ·rename_i g3;split at h
     ·rename_i g4;exact ⟨hs.nr,Jc1 hs.bV g1 g2 g3 g4,hs.nc,hs.sV⟩
     ·exact absurd h (by decide)
    ·exact absurd h (by decide)
   ·exact absurd h (by decide)
  ·exact absurd h (by decide)
 ·have h:=fm0 h0;unfold isE at h;split at h
  ·split at h
   ·exact ⟨hs.nr,hs.bV,by show s.nc+1<=10;omega,hs.sV⟩
   ·exact absurd h (by decide)
  ·exact absurd h (by decide)
 ·exact ⟨hs.nr,hs.bV,hs.nc,hs.sV⟩
 ·have h:=fm0 h0;unfold slE at h;split at h
  ·rename_i g1;split at h
   ·rename_i g2;exact ⟨hs.nr,hs.bV,hs.nc,slV g1 (by simp;omega) hs.sV⟩
   ·exact absurd h (by decide)
  ·exact absurd h (by decide)
 ·exact absurd h0 (by decide)
def LT(e:UP)(q r t:Nat)(x:Nat):Option Nat:=if x=e.blk q then some q else if (e.val r).ownBlock=some x then some r else if (e.val t).ownBlock=some x then some t else none
theorem Qe5(s:HS): ∀a∈hsL s,Idf a:=by
 intro a A;simp only [GS,DS,or_false] at A;rcases A with rfl|rfl|rfl|rfl|rfl|rfl
 ·exact .lst _ _ _ λk _ x hx=>by
   simp only [GS,DS,or_false] at hx;rcases hx with rfl|rfl|rfl|rfl<;>exact .x _
 ·exact .x _
 ·exact .x _
 ·exact Qe6 _ _ _ _ _ _
 ·exact VM
 ·exact VM
theorem Zm2{str:ByteArray}{s s':HS}{er:Int}(hE:x6 VT 90 [.ptr 0 0,.x (.string str)] (hsM s) 901 [[.ptr 0 0,.row 1,.row 2]] 182 (OS s') (OX s) (rsE er))(hx:s'.xn=s.xn/\s'.xg=s.xg/\s'.yn=s.yn/\s'.yg=s.yg)
  {e:UP}{w0 w:World}{T:Nat->Prop}{q r t:Nat}(hEv:G6 e w0.heap.size w)(hB:Below w0.heap.size w0 w)(hT: ∀b,T b->b<w0.heap.size/\ ¬e.ro b)
  (hq:GL e w q (.cells 100 (hsL s)))(hr:GL e w r (.row 38 1 s.xn s.xg))(ht:GL e w t (.row 9 1 s.yn s.yg))(hqr:q≠r)(hqt:q≠t)(hrt:r≠t)(hrv: ∃a b c,e.val r= .slice a b c)(htv: ∃a b c,e.val t= .slice a b c):
  Calls Tryz.prog 90 #[.pointer (some ⟨e.blk q,0,none⟩),.string str] w λen w1=>en=Xn3 182 (rsE er)/\Below w0.heap.size w0 w1/\w.heap.size<=w1.heap.size/\
   (∀x,(e.ro x\/(w0.heap.size<=x/\x<w.heap.size/\e.own x≠some q/\e.own x≠some r/\e.own x≠some t))->w1.heap[x]? =w.heap[x]?)/\
   ∃ro1:Nat->Prop,(∀x,e.ro x->ro1 x)/\(∀x,T x-> ¬ro1 x)/\G6 {e with ro:=ro1,own:=LT e q r t} w0.heap.size w1/\
    GL {e with ro:=ro1,own:=LT e q r t} w1 q (.cells 100 (cond (rsE er).1 (hsL s') [.top,.top,.top,.top,.top,.top]))/\
    GL {e with ro:=ro1,own:=LT e q r t} w1 r (.row 38 1 s.xn s.xg)/\GL {e with ro:=ro1,own:=LT e q r t} w1 t (.row 9 1 s.yn s.yg):=by
 let e0:UP:={ro:=λx=>e.ro x\/(w0.heap.size<=x/\x<w.heap.size/\e.own x≠some q/\e.own x≠some r/\e.own x≠some t),own:=λx=>if e.own x=some q then some 0 else if e.own x=some r then some 1 else if e.own x=some t then some 2 else none,live:=λk=>k<901,blk:=λ_=>e.blk q,val:=λk=>if k=1 then e.val r else e.val t}
 obtain ⟨ql,qo,vs,qh,qv⟩:=hq;obtain ⟨rl,ro,rf,rxs,rh,rv⟩:=hr;obtain ⟨tl,to,tf,txs,th,tv⟩:=ht;have oq: ∀{x},e.own x=some q->e0.own x=some 0:=λh=>if_pos h
 have or_: ∀{x},e.own x=some r->e0.own x=some 1:=λh=>by simp [e0,h,hqr.symm]
 have ot: ∀{x},e.own x=some t->e0.own x=some 2:=λh=>by simp [e0,h,hqt.symm,hrt.symm]
 have hE0:G6 e0 w0.heap.size w:=by
  refine ⟨λx hx=>?_,λx k hk=>?_,λg p hp=>⟨.inl (hEv.glob g p hp).1,(hEv.glob g p hp).2⟩⟩
  ·rcases hx with hx|⟨_,h2,h3,h4,h5⟩
   ·obtain ⟨h1,h2⟩:=hEv.apart x hx;exact ⟨by simp [e0,h1],h2⟩
   ·exact ⟨by simp [e0,h3,h4,h5],h2⟩
  ·have hk:(if e.own x=some q then some 0 else if e.own x=some r then some 1 else if e.own x=some t then some 2 else none)=some k:=hk
   split at hk
   ·rename_i h;exact hEv.owned x _ h
   split at hk
   ·rename_i h;exact hEv.owned x _ h
   split at hk
   ·rename_i h;exact hEv.owned x _ h
   ·cases hk
 have sub0: ∀b,e.ro b->e0.ro b:=λb h=> .inl h
 have idfL:=Qe5 s;have hM:UZ e0 (hsM s) w:=by
  intro p hp;simp only [GS,DS,or_false] at hp;rcases hp with rfl|rfl|rfl
  ·exact ⟨show 0<901 by omega,oq qo,vs,qh,⟨qv.1,λi a v A I=>Rep.idf sub0 (qv.2 i a v A I) (idfL a (F7 A))⟩⟩
  ·exact ⟨show 1<901 by omega,λb hb=>or_ (ro b hb),rf,rxs,rh,λi j a v O A I=>Rep.idf sub0 (rv i j a v O A I) ((rf i O).2 a (F7 A))⟩
  ·exact ⟨show 2<901 by omega,λb hb=>ot (to b hb),tf,txs,th,λi j a v O A I=>Rep.idf sub0 (tv i j a v O A I) ((tf i O).2 a (F7 A))⟩
 let c0:Cx:={M:=λ_=>False,Φ:=λ_ _ _=>True,K:=λx o=>e0.ro x/\w.heap[x]? =some o,saved:=[[.pointer (some ⟨e.blk q,0,none⟩),e.val r,e.val t]],sz:=w.heap.size}
 have hS:U7 e0 w [.ptr 0 0,.row 1,.row 2] [.pointer (some ⟨e.blk q,0,none⟩),e.val r,e.val t]:=by
  obtain ⟨a1,b1,d1,h1⟩:=hrv;obtain ⟨a2,b2,d2,h2⟩:=htv;refine .cons (.ptr 0 0 (show 0<901 by omega)) (.cons ?_ (.cons ?_ (.nil _ _)))
  ·rw [h1];exact .row 1 _ _ _ (show 1<901 by omega) h1
  ·rw [h2];exact .row 2 _ _ _ (show 2<901 by omega) h2
 have hX:Xt c0 e0 [[.ptr 0 0,.row 1,.row 2]] [] w:=
  ⟨⟨λd hd=>(by cases hd),List.nodup_nil⟩,λx o hk=>⟨hk.1,(hE0.apart x hk.1).2,hk.2⟩,LD.cons hS ⟨rfl,λi a v h=>by simp at h⟩,Am _⟩
 have hT0: ∀b,T b->b<w0.heap.size/\ ¬e0.ro b:=λb hb=>⟨(hT b hb).1,λh=>by
  rcases h with h|⟨h,_⟩
  ·exact (hT b hb).2 h
  ·have:=(hT b hb).1;omega⟩
 have hA:U7 e0 w [.ptr 0 0,.x (.string str)] [.pointer (some ⟨e.blk q,0,none⟩),.string str]:= .cons (.ptr 0 0 (show 0<901 by omega)) (.cons (.x _) (.nil _ _))
 refine (hE c0 w0 T e0 [] _ w hE0 hB hM (λk hk=>hk) hT0 hX hA).mono ?_
 rintro en w1 ⟨hen,e1,g1,g2,g3,g4,g5,g6⟩;have OU: ∀x,e0.ro x->e1.ro x/\w1.heap[x]? =w.heap[x]? :=by
  intro x hx;have hlt:=(hE0.apart x hx).2;have hk:=g6.kept x w.heap[x] ⟨hx,by simp [hlt]⟩
  exact ⟨hk.1,by rw [hk.2.2];simp [hlt]⟩
 have hsv:(cond (rsE er).1 (OS s') (OX s)).sv=[[.ptr 0 0,.row 1,.row 2]]:=by
  cases (rsE er).1<;>rfl
 have hsd:=g6.saved;rw [hsv] at hsd;have hs1:=hsd.2 0 _ _ rfl rfl;obtain ⟨v0,l0,q0,r0,hs1⟩:=hs1.cons_inv;obtain ⟨rfl,rfl⟩:=List.cons.inj q0;obtain ⟨v1,l1,q1,r1,hs1⟩:=hs1.cons_inv;obtain ⟨rfl,rfl⟩:=List.cons.inj q1;obtain ⟨v2,l2,q2,r2,_⟩:=hs1.cons_inv;obtain ⟨rfl,rfl⟩:=List.cons.inj q2;have b0:e1.blk 0=e.blk q:=by
  generalize I:Value.pointer (some ⟨e.blk q,0,none⟩)=v at r0;cases r0;injection I with I
  injection I with I
  injection I with I _
  exact I.symm
 have u1:e1.val 1=e.val r:=by
  generalize I:e.val r=v at r1;cases r1;assumption
 have u2:e1.val 2=e.val t:=by
  generalize I:e.val t=v at r2;cases r2;assumption
 have m0:GL e1 w1 0 (.cells 100 (cond (rsE er).1 (hsL s') [.top,.top,.top,.top,.top,.top])):=by
  cases hb:(rsE er).1
  ·rw [hb] at g3;exact g3 (0,.cells 100 [.top,.top,.top,.top,.top,.top]) (by simp [OX])
  ·rw [hb] at g3;exact g3 (0,.cells 100 (hsL s')) (by simp [OS])
 have m1:GL e1 w1 1 (.row 38 1 s.xn s.xg):=by
  cases hb:(rsE er).1
  ·rw [hb] at g3;exact g3 (1,.row 38 1 s.xn s.xg) (by simp [OX])
  ·rw [hb] at g3;have:=g3 (1,.row 38 1 s'.xn s'.xg) (by simp [OS]);rw [hx.1,hx.2.1] at this;exact this
 have m2:GL e1 w1 2 (.row 9 1 s.yn s.yg):=by
  cases hb:(rsE er).1
  ·rw [hb] at g3;exact g3 (2,.row 9 1 s.yn s.yg) (by simp [OX])
  ·rw [hb] at g3;have:=g3 (2,.row 9 1 s'.yn s'.yg) (by simp [OS]);rw [hx.2.2.1,hx.2.2.2] at this;exact this
 have hsz:w.heap.size<=w1.heap.size:=g6.size;obtain ⟨_,n0,vs1,k0,k1⟩:=m0;obtain ⟨_,n1,f1,xs1,p1,p2⟩:=m1;obtain ⟨_,n2,f2,xs2,y1,y2⟩:=m2;rw [b0] at n0 k0;rw [u1] at n1 p1;rw [u2] at n2 y1;have idfC: ∀a∈(cond (rsE er).1 (hsL s') [.top,.top,.top,.top,.top,.top]),Idf a:=by
  cases (rsE er).1
  ·intro a A;simp only [cond_false,GS,DS,or_false,or_self] at A;subst A;exact .top
  ·exact Qe5 s'
 have oq1:LT e q r t (e.blk q)=some q:=if_pos rfl;have or1: ∀b,(e.val r).ownBlock=some b->LT e q r t b=some r:=by
  intro b hb;have:b≠e.blk q:=by
   rintro rfl;have:=n1 _ hb;rw [n0] at this;cases this
  unfold LT;rw [if_neg this,if_pos hb]
 have ot1: ∀b,(e.val t).ownBlock=some b->LT e q r t b=some t:=by
  intro b hb;have h1:b≠e.blk q:=by
   rintro rfl;have:=n2 _ hb;rw [n0] at this;cases this
  have h2:(e.val r).ownBlock≠some b:=by
   intro h;have h3:=n1 _ h;rw [n2 _ hb] at h3;cases h3
  unfold LT;rw [if_neg h1,if_neg h2,if_pos hb]
 have cv: ∀{a:AV} {v:Value},Rep e1 w1 a v->Idf a->Rep {e with ro:=e1.ro,own:=LT e q r t} w1 a v:=λh k=>Rep.idf (e:=e1) (e':={e with ro:=e1.ro,own:=LT e q r t}) (λ_ h=>h) h k
 refine ⟨hen,g2,hsz,λx hx=>(OU x hx).2,e1.ro,λx hx=>(OU x (sub0 x hx)).1,λx hx=>(g5 x hx).2,⟨λx hx=>⟨?_,(g1.apart x hx).2⟩,λx k hk=>?_,λg p hp=>g1.glob g p hp⟩,⟨ql,oq1,vs1,k0,⟨k1.1,λi a v A I=>cv (k1.2 i a v A I) (idfC a (F7 A))⟩⟩,⟨rl,or1,f1,xs1,p1,λi j a v O A I=>cv (p2 i j a v O A I) ((f1 i O).2 a (F7 A))⟩,⟨tl,ot1,f2,xs2,y1,λi j a v O A I=>cv (y2 i j a v O A I) ((f2 i O).2 a (F7 A))⟩⟩
 ·have h0:=(g1.apart x hx).1;have c1:x≠e.blk q:=by
   rintro rfl;rw [n0] at h0;cases h0
  have c2:(e.val r).ownBlock≠some x:=λh=>by
   rw [n1 _ h] at h0;cases h0
  have c3:(e.val t).ownBlock≠some x:=λh=>by
   rw [n2 _ h] at h0;cases h0
  show LT e q r t x=none;unfold LT;rw [if_neg c1,if_neg c2,if_neg c3]
 ·have up: ∀{x j},e.own x=some j->w0.heap.size<=x/\x<w1.heap.size:=λh=>⟨(hEv.owned _ _ h).1,qF (hEv.owned _ _ h).2 hsz⟩
  have hk:LT e q r t x=some k:=hk;unfold LT at hk;split at hk
  ·rename_i h;rw [h];exact up qo
  split at hk
  ·rename_i h;exact up (ro _ h)
  split at hk
  ·rename_i h;exact up (to _ h)
  ·cases hk
end Go.Proofs.YtlclobclmfhlmaaGreatDoor.Hd
