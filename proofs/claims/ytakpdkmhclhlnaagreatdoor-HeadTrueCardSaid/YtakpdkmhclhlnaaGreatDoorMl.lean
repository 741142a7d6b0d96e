/- Contracts, put together. Conditions: those of each. -/
import Derived.Test.YtakpdkmhclhlnaaGreatDoorMk
import Derived.Shelf.Spec.SlicesGrow
set_option linter.unusedSimpArgs false
set_option linter.unusedVariables false
set_option maxRecDepth 100000
namespace Go.Proofs.YtakpdkmhclhlnaaGreatDoor.Hd
open Go Go.Shelf
def eS:Go.Shelf.Ren:=⟨λ| 4=>234|n=>n,λ| 22=>36| 25=>145|n=>n,λn=>n⟩
theorem Qb8:Go.Proofs.Lays8.n4 Tryz.prog eS:=by
 constructor
 case f4=>exact ⟨Tryz.f234.name,(of_decide_eq_true (by kernel_rfl)),Tryz.func234.trans (congrArg some (by kernel_rfl))⟩
 all_goals first|(intro _;kernel_rfl)|kernel_rfl
open Go Go.Shelf Go.Sx Go.RowKit
theorem Zj8: ∃i0 z,Tryz.prog.info? 145=some i0/\i0.zero=some z/\i0.size=4/\i0.bytes=32/\z.cells.size=4:=by
 have h:((Tryz.prog.info? 145).bind λi=>i.zero.map λz=>(i.size,i.bytes,z.cells.size))=some (4,32,4):=VQ;cases O:Tryz.prog.info? 145 with
 |none=>rw [O] at h;cases h
 |some i0=>
  rw [O] at h;cases hz:i0.zero with
  |none=>
   have h:(i0.zero.map λz=>(i0.size,i0.bytes,z.cells.size))=some (4,32,4):=h;rw [hz] at h;cases h
  |some z=>
   have h:(i0.zero.map λz=>(i0.size,i0.bytes,z.cells.size))=some (4,32,4):=h;rw [hz] at h;simp only [Bt,HA,F7] at h;exact ⟨i0,z,rfl,hz,h.1,h.2.1,h.2.2⟩
theorem pT(k:Nat)(hk:k<=100000)(w:World):Calls Tryz.prog 234 #[.slice none 0 0,.int .i64 k] w λen w'=> ∃v,en= .returned v/\Below w.heap.size w w'/\w'.ownsRow 0 145 4 v 0 []/\ ∀b,v.ownBlock=some b->w.heap.size<=b/\b<w'.heap.size:=by
 rcases Nat.eq_zero_or_pos k with rfl|h0;refine Calls.mono (Any8.slices_Grow_room Qb8 none 0 0 0 w VG VG VG VG) ?_;rintro en w' ⟨rfl,rfl⟩;exact ⟨_,rfl,Below.refl _ _,⟨rfl,.inl ⟨rfl,rfl⟩⟩,λb h=>by cases h⟩
 obtain ⟨i0,z,e0,e1,e2,e3,e4⟩:=Zj8;refine Calls.mono (Any8.slices_Grow_grow Qb8 i0 z e0 e1 VG none 0 0 k [] w VG VG (by rw [e3];omega) VG VS (λ_=>rfl) (λa h=>by cases h)) ?_
 rintro en w' ⟨rfl,rfl⟩;have g1:k<=grownCap w (0+k) 0 145:=by have:=grownCap_ge w (0+k) 0 145;omega
 refine ⟨_,rfl,((Below.refl _ _).drew).alloc (Am _) _,⟨rfl,.inr ⟨w.heap.size,grownCap w (0+k) 0 145,#[]++Builtin.zeroCells z.cells (0+k-0)++Builtin.zeroCells z.cells (grownCap w (0+k) 0 145-(0+k)),rfl,Ao _,?_,Ao _,grownCap_le_maxLen w (0+k) 0 145 (by unfold maxLen;omega),?_,VS⟩⟩,?_⟩
 show (w.drew.heap.push _)[w.heap.size]? =_;exact Array.getElem?_push_size ..;rw [Ap] at g1 ⊢;simp [Builtin.zeroCells,e4];omega;intro b h;cases h;exact ⟨Am _,by show w.heap.size<(w.drew.heap.push _).size;rw [Array.size_push];exact Bk _⟩
def bA:BI:=λl=>match l with
 |[.x (.slice none 0 0),.x (.int .i64 k)]=>some ([0<=k/\k<=100000],145,4,0,λ_=>[])
 |_=>none
theorem Wp1:Sx.Enters Tryz.prog 234/\ ∀avs ns T sz n g,bA avs=some (ns,T,sz,n,g)->(∀q∈ns,q)->DG VL 234 avs T sz n g:=by
 refine ⟨(UC Tryz.func234),?_⟩;intro avs ns T sz n g h Z;unfold bA at h;split at h;rename_i k;cases h;obtain ⟨h1,h2⟩:0<=k/\k<=100000:=Z _ GB;intro e w args q1 q2 q3 q4;obtain ⟨u,us,rfl,r1,q5⟩:=q4.cons_inv;obtain ⟨u',us',rfl,r2,q6⟩:=q5.cons_inv;obtain rfl:=q6.nil_inv;cases r1;cases r2;obtain ⟨k',rfl⟩:=Int.eq_ofNat_of_zero_le h1;refine (pT k' VG w).mono ?_;rintro en w' ⟨v,rfl,g1,g2,g3⟩;exact ⟨v,[],rfl,g1,g2,g3,λi O=>VG,λi j a u O=>VG⟩;cases h
theorem Wp0:G8 VL 234 (Wo7 bA):=C2 Wp1
end Go.Proofs.YtakpdkmhclhlnaaGreatDoor.Hd
namespace Go.Proofs.YtakpdkmhclhlnaaGreatDoor.Hd
open Go Go.Sx Go.RowKit Bo
open Go.Sx.VJ (need branch leaf)
open Go.Sx.AV (lst ptr agg roI tup top)
theorem AU{S:Code->UF->Prop}{c:Code}{s0 s1:UF}(h0: ∀cj,VP c 0=some cj->S cj s0)(h1: ∀cj,VP c 1=some cj->S cj s1):
  ∀j cj,VP c j=some cj-> ∀sp,[s0,s1][j]? =some sp->S cj sp:=by
 intro j cj hj sp hsp
 match j with
 | 0=>simp at hsp;subst hsp;exact h0 cj hj
 | 1=>simp at hsp;subst hsp;exact h1 cj hj
 |j+2=>simp at hsp
def ctI(p:Nat)(a b:Nat->Int)(k:Nat):Int:=if k<p then a k else b (k-p)
def AH:UU
 |[.lst 1 n F]=>match F 0,F 1 with
  |[.lst 4 p f],[.lst 4 q g]=>some ([n=2,U9 4 p f,U9 4 q g,p<=10000,q<=10000],.lst 4 (p+q) (λk=>[i (ctI p (col 0 f) (col 0 g) k),i (ctI p (col 1 f) (col 1 g) k),i (ctI p (col 2 f) (col 2 g) k),i (ctI p (col 3 f) (col 3 g) k)]))
  |_,_=>none
 |_=>none
theorem Wo9(p:Nat)(a b u v:Nat->Int)(q:Nat)(a1 b1 u1 v1:Nat->Int)(VO:p<=10000)(UD:q<=10000):VV VL 205 [.lst 1 2 (U3 1 [rds p a b u v,rds q a1 b1 u1 v1])] (.lst 4 (p+q) (λk=>[i (ctI p a a1 k),i (ctI p b b1 k),i (ctI p u u1 k),i (ctI p v v1 k)])):=by
 refine G9 (X:={R:=[],H:=[(234,(Wo7 bA))] }) (L:=[(λs=>some (xW Tryz.prog [] [] (U7 (VP (U5 Tryz.f205) 0)) 3 s)),(λs=>some (xW Tryz.prog [] [] (U7 (VP (U5 Tryz.f205) 1)) 3 s))]) Aa (Ai Ab (Ag Wp0 Ac)) VW Tryz.func205 (UR Tryz.f205) (AU (lpE (b:= .loop (U7 (VP (U5 Tryz.f205) 0))) VQ<|(L6 Aa VW U0 _).N) (lpE (b:= .loop (U7 (VP (U5 Tryz.f205) 1))) VQ<|(L6 Aa VW U0 _).N)) (t:=let z1:=(need [(0:Int)<=0+1+1/\(0:Int)+1+1<(↑(2:Nat):Int)] VJ.fail);let z2:=(GE 0 (λx=>[]) (rq4 a b u v));let z0:=(branch (decide ((0:Int)<(↑(2:Nat):Int))) (need [UG 0 2] (need [(0+p)*32<=140737488355328,∀(i:Nat),i<p-> ∀(a_2:AV),a_2∈[Bo.i (a i),Bo.i (b i),Bo.i (u i),Bo.i (v i)]->AV.one a_2=true] (need [VI ((0:Int)+1)] (branch (decide ((0:Int)+1<(↑(2:Nat):Int))) (need [(0:Int)<=0+1/\(0:Int)+1<(↑(2:Nat):Int)] (need [(0+p+q)*32<=140737488355328,∀(i:Nat),i<q-> ∀(a:AV),a∈[Bo.i (a1 i),Bo.i (b1 i),Bo.i (u1 i),Bo.i (v1 i)]->AV.one a=true] (need [VI ((0:Int)+1+1)] (branch (decide ((0:Int)+1+1<(↑(2:Nat):Int))) z1 (leaf (RV.lst 4 (0+p+q) (GE (0+p) z2 (rq4 a1 b1 u1 v1)))))))) (leaf (RV.lst 4 (0+p) z2)))))) (leaf (RV.lst 4 0 λx=>[])));(branch (decide ((0:Int)<(↑(2:Nat):Int))) (need [UG 0 2] (need [VI ((0:Int)+(p:Int))] (branch (decide ((0:Int)+(p:Int)<0)) VJ.fail (need [VI ((0:Int)+1)] (branch (decide ((0:Int)+1<(↑(2:Nat):Int))) (need [(0:Int)<=0+1/\(0:Int)+1<(↑(2:Nat):Int)] (need [VI ((0:Int)+(p:Int)+(q:Int))] (branch (decide ((0:Int)+(p:Int)+(q:Int)<0)) VJ.fail (need [VI ((0:Int)+1+1)] (branch (decide ((0:Int)+1+1<(↑(2:Nat):Int))) z1 (need [(0:Int)<=0+(p:Int)+(q:Int)/\(0:Int)+(p:Int)+(q:Int)<=100000] z0)))))) (need [(0:Int)<=0+(p:Int)/\(0:Int)+(p:Int)<=100000] z0)))))) (need [(0:Int)<=0/\(0:Int)<=100000] z0))) VQ ?_
 have hX: ∀(k:Nat),k<p+q->GE (0+p) (GE 0 (λ_=>[]) λk=>[i (a k),i (b k),i (u k),i (v k)]) (λk=>[i (a1 k),i (b1 k),i (u1 k),i (v1 k)]) k=[i (ctI p a a1 k),i (ctI p b b1 k),i (ctI p u u1 k),i (ctI p v v1 k)]/\ ∀x∈[i (ctI p a a1 k),i (ctI p b b1 k),i (ctI p u u1 k),i (ctI p v v1 k)],isX x:=by
  intro k hk;refine ⟨?_,λx hx=>?_⟩;show H9 (decide (k<0+p)) (GE 0 (λ_=>[]) (λk=>[i (a k),i (b k),i (u k),i (v k)]) k) [i (a1 (k-(0+p))),i (b1 (k-(0+p))),i (u1 (k-(0+p))),i (v1 (k-(0+p)))]=_
  rw [lI,Ap];unfold ctI;by_cases h:k<p;rw [decide_eq_true h];simp only [if_pos h];rfl;rw [decide_eq_false h];simp only [if_neg h];rfl;simp only [GK,DP,or_false] at hx;rcases hx with rfl|rfl|rfl|rfl<;>exact Ak
 have hA: ∀(a b u v:Nat->Int) (n k:Nat),k<n-> ∀(x:AV),x∈[i (a k),i (b k),i (u k),i (v k)]->x.one=true:=by
  intro a b u v n k hk x hx;simp only [GK,DP,or_false] at hx;rcases hx with rfl|rfl|rfl|rfl<;>simp [AV.one,Value.oneCell']
 simp only [VJ.sat,U8,UZ,GH,UB,true_and,H6,VI]
 (repeat' first|exact hA _ _ _ _ _|exact hX|with_reducible apply Al|with_reducible intro _)
 all_goals omega
theorem Wo8:VM VL 205 AH:=by
 refine ⟨(UC Tryz.func205),?_⟩;intro avs ns res h Z;unfold AH at h;split at h;rename_i n F;split at h;rename_i p f q g h0 h1;cases h;obtain rfl:n=2:=Z _ VS;have r0:U9 4 p f:=Z (U9 4 p f) VS;have r1:U9 4 q g:=Z (U9 4 q g) VS;have hp:p<=10000:=Z (p<=10000) VS;have hq:q<=10000:=Z (q<=10000) VS;refine (Wo9 p (col 0 f) (col 1 f) (col 2 f) (col 3 f) q (col 0 g) (col 1 g) (col 2 g) (col 3 g) hp hq).same (.cons (.deep 1 2 F _ (λk hk=>?_) (λk j a b hk A hb=>?_)) .nil);rcases (show k=0\/k=1 by omega) with rfl|rfl
 rw [h0];rfl;rw [h1];rfl;rcases (show k=0\/k=1 by omega) with rfl|rfl
 rw [h0] at A;have hb:[rds p (col 0 f) (col 1 f) (col 2 f) (col 3 f)][j]? =some b:=hb;cases j with
 |zero=>
  cases A;cases hb;exact .lst 4 p f _ r0
 |succ j=>simp at A
 rw [h1] at A;have hb:[rds q (col 0 g) (col 1 g) (col 2 g) (col 3 g)][j]? =some b:=hb;cases j with
 |zero=>
  cases A;cases hb;exact .lst 4 q g _ r1
 |succ j=>simp at A
 cases h;cases h
def skF(x0:Int)(a:Nat->Int)(k:Nat):Int:=if k<x0.toNat then a k else a (k+1)
def stS(s:HS)(x0:Int):HS:={s with nr:=s.nr-1,ra:=skF x0 s.ra,rb:=skF x0 s.rb,ru:=skF x0 s.ru,rv:=skF x0 s.rv}
def stE(s:HS)(x0:Int):Int:=if bt 0 x0 ((s.nr:Int)-1)=true then 0 else 7
theorem SS{x:Int}(h:0<=x)(a:Nat->Int)(k:Nat):ctI (x.toNat-Int.toNat 0) (λi=>a (Int.toNat 0+i)) (λi=>a ((x+1).toNat+i)) k=skF x a k:=by
 unfold ctI skF;by_cases h':k<x.toNat;rw [if_pos (show k<x.toNat-Int.toNat 0 by simpa using h'),if_pos h']
 exact congrArg a VS;rw [if_neg (show ¬k<x.toNat-Int.toNat 0 by simpa using h'),if_neg h']
 exact congrArg a (by simp;omega)
noncomputable abbrev SG(s:HS):DU:=rW Tryz.prog [(205,AH),(36,RJ)] {} [(145,FZ)] [] Tryz.f175 (U5 Tryz.f175)
theorem iE(s:HS):D2 VL 175 (SG s):=
 FN (G:=[(205,AH),(36,RJ)]) (X:=WC) (PX:=[(145,FZ)]) (L:=[]) (Ae Wo8 (Ae PO Aa)) Ad (UQ.cons RL (UQ.nil _)) VW (UC Tryz.func175) Tryz.func175 (UR Tryz.f175) (λj cj _ sp hsp=>by simp at hsp)
theorem Qn5(V:Nat->ByteArray)(n:Nat)(str:ByteArray)(s:HS)(VO:vK str n (U2 (UM 1) V))(UD:s.nr<=12):wF VL 106 [.ptr 0 0,.x (.string str)] (X7 s) 901 [[.ptr 0 0,.row 1,.row 2]] 211 (OS (stS s (VX (V 0)))) (OX s) (rsE (fmE (U2 (UM 1) V) n 1 (stE s (VX (V 0))))):=by
 refine LE (PX:=[(145,FZ),(146,jA),(175,(SG s))]) (L:=[yU (U2 (UM 1) V) n 1 175 s]) (Ae (L7 VO) (Ae wD Aa)) Ad (UQ.cons RL (UQ.cons wL (UQ.cons (iE s) (UQ.nil _)))) VW (UC Tryz.func106) Tryz.func106 (UR Tryz.f106) (LA (lpE (b:= .loop N6) VQ<|uZ (U2 (UM 1) V) n 1 175 s VO.2.2.2 (B0 VO))) (N:=[]) (t:=let z0:=(VX (U2 (UM 1) V 1));let z1:=(U2 (UM 1) V (0:Int).toNat);let z2:=(need [[Q5]=[Q5],H5 (hL s) QT,QA s,QB s] (leaf (false,(4:Int))));(need [MW str str {data:=#[32] }] (need [UG 0 n] (branch (wdO z1) (need [VI (wdM (wdK z1)+1)] (branch (!(n:Int)==wdM (wdK z1)+1) z2 (need [(0:Int)<=1/\(1:Int)<=(n:Int)/\(n:Int)<=(n:Int)] (need [QO,VU (lst 1 n λk=>[FL (U2 (UM 1) V k)]),ZP,WI,(lst 1 (n-(1:Int).toNat) λi=>[AV.x (.string (U2 (UM 1) V ((1:Int).toNat+i)))])=lst 1 (n-1) λj=>[FL (U2 (UM 1) V (1+j))],(↑(n-(1:Int).toNat):Int)=(↑(n-1):Int),(0:Int)=(↑(0:Nat):Int),0=0,∀(i:Nat),i<0->[]=[iI (VX (U2 (UM 1) V (1+i)))],wdM (wdK z1)=1,VU (AV.fn (Fn.func 175) [] []),XH s,JO s,JP s,XW s,XN s,XO s,KL s,∀(i:Nat),i<s.xn->s.xg i=s.xg i,KM s,∀(i:Nat),i<s.yn->s.yg i=s.yg i,QO,JU,JV] (branch (nuB (U2 (UM 1) V) n) (need [UG 0 (↑(n-1):Int)] (need [(0:Int).toNat<n-1] (need [VI ((↑s.nr:Int)-1)] (branch (!bt (0:Int) z0 ((↑s.nr:Int)-1)) (need [[Q5]=[Q5],H5 (hL s) QT,QA s,QB s] (leaf (false,(7:Int)))) (need [UG 0 (↑(n-1):Int)] (need [(0:Int).toNat<n-1] (need [(0:Int)<=0/\(0:Int)<=VX (U2 (UM 1) V 1)/\VX (U2 (UM 1) V 1)<=(↑s.nr:Int)] (need [UG 0 (↑(n-1):Int)] (need [(0:Int).toNat<n-1] (need [VI (VX (U2 (UM 1) V 1)+1)] (need [(0:Int)<=VX (U2 (UM 1) V 1)+1/\VX (U2 (UM 1) V 1)+1<=(↑s.nr:Int)/\(↑s.nr:Int)<=(↑s.nr:Int)] (need [2=2,U9 4 (Int.toNat z0-(0:Int).toNat) λi=>[Bo.i (s.ra ((0:Int).toNat+i)),Bo.i (s.rb ((0:Int).toNat+i)),Bo.i (s.ru ((0:Int).toNat+i)),Bo.i (s.rv ((0:Int).toNat+i))],U9 4 (s.nr-(VX (U2 (UM 1) V 1)+1).toNat) λi=>[Bo.i (s.ra ((VX (U2 (UM 1) V 1)+1).toNat+i)),Bo.i (s.rb ((VX (U2 (UM 1) V 1)+1).toNat+i)),Bo.i (s.ru ((VX (U2 (UM 1) V 1)+1).toNat+i)),Bo.i (s.rv ((VX (U2 (UM 1) V 1)+1).toNat+i))],Int.toNat z0-(0:Int).toNat<=10000,s.nr-(VX (U2 (UM 1) V 1)+1).toNat<=10000] (need [[Q5]=[Q5],H5 [lst 4 (Int.toNat z0-(0:Int).toNat+(s.nr-(VX (U2 (UM 1) V 1)+1).toNat)) λk=>[iI (ctI (Int.toNat z0-(0:Int).toNat) (λi=>s.ra ((0:Int).toNat+i)) (λi=>s.ra ((VX (U2 (UM 1) V 1)+1).toNat+i)) k),iI (ctI (Int.toNat z0-(0:Int).toNat) (λi=>s.rb ((0:Int).toNat+i)) (λi=>s.rb ((VX (U2 (UM 1) V 1)+1).toNat+i)) k),iI (ctI (Int.toNat z0-(0:Int).toNat) (λi=>s.ru ((0:Int).toNat+i)) (λi=>s.ru ((VX (U2 (UM 1) V 1)+1).toNat+i)) k),iI (ctI (Int.toNat z0-(0:Int).toNat) (λi=>s.rv ((0:Int).toNat+i)) (λi=>s.rv ((VX (U2 (UM 1) V 1)+1).toNat+i)) k)],iI s.pl,iI s.ph,hY s.nb s,hC s.nc s,hT s.ns s] (hL (stS s (VX (V 0)))),((23:TypeId),1,s.xn,s.xg)=((23:TypeId),1,(stS s (VX (V 0))).xn,(stS s (VX (V 0))).xg),((9:TypeId),1,s.yn,s.yg)=((9:TypeId),1,(stS s (VX (V 0))).yn,(stS s (VX (V 0))).yg)] (leaf (true,(0:Int)))))))))))))))) (need [[Q5]=[Q5],H5 QT QT,QA s,QB s] (leaf (false,(4:Int))))))))) z2)))) VQ ?_
 have hw:wdO (U2 (UM 1) V (Int.toNat 0))=true:=VQ;have hm:wdM (wdK (U2 (UM 1) V (Int.toNat 0)))=1:=VQ;have hn1:1<=n:=by have:=VO.2.1;omega
 have hnl:=B0 VO;simp only [VJ.sat,U8,UE,hm,hw,true_imp_iff];refine ⟨⟨rfl,rfl⟩,⟨VG,VG⟩,⟨by simp only [VI];omega,λh4=>?_,λh4=>?_⟩,λh=>by cases h⟩
 exact V4
 ·have hN:n=1+1:=by
   simp at h4;omega
  refine ⟨⟨VG,VG,VG⟩,?_,λh5=>?_,λh5=>?_⟩
  rotate_left 2
  exact V5
  ·all_goals exact yI
  have hk1:n-1=1:=VG;have hx0:VX (U2 (UM 1) V 1)=VX (V 0):=rfl;rw [hk1];simp only [hx0];refine ⟨VG,by decide,by simp only [VI];omega,λh6=>⟨DF _ _ _ _ _ _,F4 hN h5 ?_ (by decide)⟩,λh6=>?_⟩
  unfold stE;rw [bnt h6];rfl;have h7:=bnf h6;have h8:=(bt_iff _ _ _).1 h7;refine ⟨VG,by decide,VG,VG,by decide,by simp only [VI];omega,VG,⟨Bo.isRec4 _ _ _ _ _,Bo.isRec4 _ _ _ _ _,VG,VG⟩,⟨⟨⟨rfl,?_,λk hk=>⟨?_,?_⟩⟩,zG _,zG _,B5 s,B4 s,P7 s,trivial⟩,rfl,rfl⟩,uI hN h5 ?_⟩
  show _=s.nr-1;have e0:Int.toNat 0=0:=rfl;omega
  dsimp only
  rw [SS h8.1 s.ra k,SS h8.1 s.rb k,SS h8.1 s.ru k,SS h8.1 s.rv k];exact ⟨(P5 _).2,(P5 _).2,(P5 _).2,(P5 _).2,trivial⟩;intro x hx;simp only [GK,DP,or_false] at hx;rcases hx with rfl|rfl|rfl|rfl<;>exact .x _;unfold stE;rw [h7];rfl
def Qh8:UU
 |[]=>some ([],.mpr (λ_=>[.any1,.any1]) wdO)
 |_=>none
theorem Wv5:VV VL 144 [] (.mpr (λ_=>[.any1,.any1]) wdO):=by
 intro e w args hro hgl FK hr;obtain rfl:=hr.nil_inv;refine (M1 w).mono ?_;rintro en w' ⟨rfl,rfl⟩;have hsz:(w.alloc (.map wdE.toArray 8)).heap.size=w.heap.size+1:=VS;refine ⟨_,rfl,(Below.refl _ _).alloc (Am _) _,?_⟩;refine .mpr _ wdO wdV w.heap.size wdE.toArray 8 (show w.heap.size<=w.heap.size/\w.heap.size<(w.alloc (.map wdE.toArray 8)).heap.size by omega) VG (λs a A=>?_) (World.alloc_heap_new w _) (λs hs=>by simpa using lA hs) (λs hs=>⟨by simpa using Qd3 hs,λa A=>?_⟩) (λs hs=>rfl) (λs k a v hs A I=>?_)
 simp only [GK,DP,or_false,or_self] at A;subst A;exact .any1;exact .inr (by simpa using A)
 match k,A,I with
 | 0,A,I=>
  simp only [wdV,List.getElem?_cons_zero,HA] at A I;subst A I;exact .any1 _ rfl
 | 1,A,I=>
  simp only [wdV,List.getElem?_cons_succ,List.getElem?_cons_zero,HA] at A I;subst A I;exact .any1 _ rfl
 |k+2,A,I=>simp at A
theorem Wv4:VM VL 144 Qh8:=by
 refine ⟨(UC Tryz.func144),?_⟩;intro avs ns res h Z;unfold Qh8 at h;split at h;cases h;exact Wv5;cases h
theorem Jc0(W:Nat->ByteArray)(n:Nat)(str:ByteArray)(s:HS)(VO:vK str n W)(UD:wdO (W 0)=false):wF VL 106 [.ptr 0 0,.x (.string str)] (X7 s) 901 [[.ptr 0 0,.row 1,.row 2]] 211 (OS s) (OX s) (rsE 4):=by
 refine LE (PX:=[(145,FZ),(146,jA)]) (L:=[yU W n 0 0 s]) (Ae (L7 VO) (Ae Wv4 Aa)) Ad (UQ.cons RL (UQ.cons wL (UQ.nil _))) VW (UC Tryz.func106) Tryz.func106 (UR Tryz.f106) (LA (lpE (b:= .loop N6) VQ<|uZ W n 0 0 s VO.2.2.2 (B0 VO))) (N:=[]) (t:=need [MW str str {data:=#[32] }] (need [UG 0 n] (branch (wdO (W (0:Int).toNat)) VJ.fail (need [[Q5]=[Q5],H5 (hL s) QT,QA s,QB s] (leaf (false,(4:Int))))))) VQ ?_
 have hn1:1<=n:=by have:=VO.2.1;omega
 have h0:wdO (W (Int.toNat 0))=false:=UD;simp only [VJ.sat,U8,UE,h0];exact ⟨⟨rfl,rfl⟩,⟨VG,VG⟩,(λh=>by cases h),λ_=>⟨DF _ _ _ _ _ _,rfl⟩⟩
abbrev lns(n:Nat)(L:Nat->ByteArray):AV:= .lst 1 n (λk=>[.x (.string (L k))])
def lgB(L:Nat->ByteArray)(mx:Int)(j:Nat):Bool:= !decide (((L j).size:Int)<=mx)
section
variable (n:Nat)(L:Nat->ByteArray)
def shB(mx:Int):Bool:=HW (λj=>decide (((L j).size:Int)<=mx)) n
def ckE:Int:=if n<=50/\shB n L 200=true then 0 else 3
end
def m8:UU
 |[.x (.int .i64 mx),.x (.string s)]=>some ([],bl (decide ((s.size:Int)<=mx)))
 |_=>none
theorem Qo9(s:ByteArray)(mx:Int):VV VL 65 [i mx,.x (.string s)] (bl (decide ((s.size:Int)<=mx))):=by
 refine GS Tryz.func65 (t:=leaf (RV.x (.bool (decide ((↑(ByteArray.size s):Int)<=mx))))) VQ ?_;exact YX
theorem Qo8:VM VL 65 m8:=by
 refine ⟨(UC Tryz.func65),?_⟩;intro avs ns res h Z;unfold m8 at h;split at h;cases h;exact Qo9 _ _;cases h
def mA:UU
 |[.x (.string s),.ro [.fn (.func 65) [.x (.int .i64 mx)] []]]=>some ([],bl (!decide ((s.size:Int)<=mx)))
 |_=>none
theorem Qq4(s:ByteArray)(mx:Int):VV VL 110 [.x (.string s),.ro [.fn (.func 65) [i mx] []]] (bl (!decide ((s.size:Int)<=mx))):=by
 refine VY (L:=[]) (Ae Qo8 Aa) VW Tryz.func110 (UR Tryz.f110) U0 (t:=leaf (RV.x (.bool !decide ((↑(ByteArray.size s):Int)<=mx)))) VQ ?_;exact YX
theorem OG:VM VL 110 mA:=by
 refine ⟨(UC Tryz.func110),?_⟩;intro avs ns res h Z;unfold mA at h;split at h;cases h;exact Qq4 _ _;cases h
abbrev Q6(n:Nat)(L:Nat->ByteArray):AV:=lst 1 n λk=>[FL (L k)]
abbrev WN(mx:Int):AV:=AV.fn (Fn.func 110) [] [AV.ro [AV.fn (Fn.func 65) [iI mx] []]]
section
variable (n:Nat)(L:Nat->ByteArray)(mx:Int)
def d7:St:={σ:=[Q6 n L,WN mx]++HF 5 [iI (n:Int)]++HF 11 [],m:=[],nx:=4}
noncomputable def Qk0:Code:=U7 (VP (U5 Tryz.f148) 0)
def O6(k:Nat):St:=(upM [(8,i k)] (d7 n L mx))
def BW(k:Nat):G4->Option St
 | .ret=>some (upM [(4,i (GT ((lgB L mx)) n))] (d7 n L mx))
 | .exit 0=>some (upM [] (d7 n L mx))
 |_=>none
def Qf3:CT:= .branch (decide (GT ((lgB L mx)) n<n)) (.leaf (.ret,(BW n L mx 0 .ret).getD (d7 n L mx))) (.leaf (.exit 0,(BW n L mx 0 (.exit 0)).getD (d7 n L mx)))
def mK:UF:=(HD (O6 n L mx (0)) (Qf3 n L mx))
theorem Qu5(VO:n<=100000):G5 VL (.loop Qk0) (mK n L mx):=by
 refine HC (L:=[]) (Ae OG Aa) VW U0 (X:=Nat) (O6 n L mx) (λk=>k<=n/\ ∀j,j<k->(lgB L mx) j=false) (λk=>n-k) (BW n L mx) (x0:=0) ⟨VG,λj hj=>VG⟩ ?_ ?_ ?_;rintro k;kernel_rfl;rintro k y E h;unfold BW at h;split at h;cases h;kernel_rfl;cases h;kernel_rfl;cases h
 ·rintro Q hQ k hx;refine ⟨(k+1),?_⟩;(with_reducible refine DA (t:=branch (decide ((k:Int)<(n:Int))) (need [UG k n] (branch (!decide ((↑(ByteArray.size (L k)):Int)<=mx)) (need [VU (Q6 n L),WN mx=WN mx,(k:Int)=(↑(GT (lgB L mx) n):Int),VU (n:Int)] (leaf G4.ret)) (need [VI ((k:Int)+1)] (need [VU (Q6 n L),WN mx=WN mx,VU (n:Int),(k:Int)+1=(↑(k+1):Int)] (leaf G4.normal))))) (need [VU (Q6 n L),WN mx=WN mx,VU (n:Int)] (leaf (G4.exit 0)))) VQ ?_);simp only [Qf3,BW,VJ.sat,GQ,H6] at hQ;simp only [VJ.sat,U8,UE,H6,VI,BW,FC];have Xh9:k<n->((lgB L mx)) k=true->GT ((lgB L mx)) n=k:=λh hb=>zM h hb hx.2;have PG: ¬k<n->GT ((lgB L mx)) n=n:=λh=>BX (λj hj=>hx.2 j VG);have hgo:((lgB L mx)) k=false-> ∀j,j<k+1->((lgB L mx)) j=false:=by
   intro hb j hj;rcases (show j<k\/j=k by omega) with h1|rfl
   exact hx.2 j h1;exact hb
  refine ⟨λh=>⟨VG,?_⟩,λh=>?_⟩
  rotate_left
  intro E hE;cases hE;exact hQ.2 (by rw [PG VG];omega)
  have hk:k<n:=VG;refine ⟨λhb=>?_,λhb=>?_⟩;exact VA;exact ⟨VG,VG,⟨VG,hgo hb⟩,VG⟩
theorem Xg9(VO:n<=100000):VV VL 148 [lns n L,.fn (.func 110) [] [.ro [.fn (.func 65) [i mx] []]]] (i (if GT ((lgB L mx)) n<n then (GT ((lgB L mx)) n:Int) else -1)):=by
 refine VY (L:=[mK n L mx]) (Ae OG Aa) VW Tryz.func148 (UR Tryz.f148) (G0 (lpE (b:= .loop Qk0) VQ<|Qu5 n L mx VO)) (t:=need [VU (Q6 n L),WN mx=WN mx,VU (n:Int),(0:Int)=(↑(0:Nat):Int)] (branch (decide (GT (lgB L mx) n<n)) (leaf (RV.x (.int .i64 (↑(GT (lgB L mx) n):Int)))) (leaf (RV.x (KH))))) VQ ?_
 exact V8
def Zp2:UU:=λl=>some ([l=[lns n L,.fn (.func 110) [] [.ro [.fn (.func 65) [i mx] []]]]],i (if GT (lgB L mx) n<n then (GT (lgB L mx) n:Int) else -1))
theorem Wl4(VO:n<=100000):VM VL 148 (Zp2 n L mx):=by
 refine ⟨(UC Tryz.func148),?_⟩;intro avs ns res h Z;cases h;have e:=Z _ GB;subst e;exact Xg9 n L mx VO
theorem Xi6(VO:n<=100000):VV VL 109 [lns n L,.fn (.func 110) [] [.ro [.fn (.func 65) [i mx] []]]] (bl (!shB n L mx)):=by
 refine VY (L:=[]) (Ae (Wl4 n L mx VO) Aa) VW Tryz.func109 (UR Tryz.f109) U0 (t:=need [VU ([Q6 n L,WN mx])] (leaf (RV.x (.bool (decide ((if GT (lgB L mx) n<n then (↑(GT (lgB L mx) n):Int) else (-1:Int))>=(0:Int))))))) VQ ?_
 simp only [VJ.sat,U8,UZ,UB,UE];unfold shB;rw [kH];have:=F0 (lgB L mx) n;have e:(λk=> !(λj=>decide (((L j).size:Int)<=mx)) k)=lgB L mx:=rfl;rw [e];show decide ((if GT (lgB L mx) n<n then (GT (lgB L mx) n:Int) else -1)>=0)=_
 split<;>simp<;>omega
def Zp4:UU:=λl=>some ([l=[lns n L,.fn (.func 110) [] [.ro [.fn (.func 65) [i mx] []]]]],bl (!shB n L mx))
theorem Wo2(VO:n<=100000):VM VL 109 (Zp4 n L mx):=by
 refine ⟨(UC Tryz.func109),?_⟩;intro avs ns res h Z;cases h;have e:=Z _ GB;subst e;exact Xi6 n L mx VO
theorem Wo6(VO:n<=100000):VV VL 66 [lns n L,.fn (.func 65) [i mx] []] (bl (shB n L mx)):=by
 refine VY (L:=[]) (Ae (Wo2 n L mx VO) Aa) VW Tryz.func66 (UR Tryz.f66) U0 (t:=need [VU ([Q6 n L,WN mx])] (leaf (RV.x (.bool !!shB n L mx)))) VQ ?_;simp only [VJ.sat,U8,UZ,UB,UE];show (!!shB n L mx)=_;simp
def Xn3:UU:=λl=>some ([l=[lns n L,.fn (.func 65) [i mx] []]],bl (shB n L mx))
theorem Qq3(VO:n<=100000):VM VL 66 (Xn3 n L mx):=by
 refine ⟨(UC Tryz.func66),?_⟩;intro avs ns res h Z;cases h;have e:=Z _ GB;subst e;exact Wo6 n L mx VO
end
section
variable (n:Nat)(L:Nat->ByteArray)
abbrev YI:List AV:=[Q6 n L,AV.fn (Fn.func 65) [iI 200] []]
theorem OD(VO:n<=100000):VV VL 35 [lns n L] (i (ckE n L)):=by
 refine VY (L:=[]) (Ae (Qq3 n L 200 VO) Aa) VW Tryz.func35 (UR Tryz.f35) U0 (t:=branch (decide ((n:Int)>50)) (leaf (RV.x (KJ))) (need [VU (YI n L)] (branch (!shB n L (200:Int)) (leaf (RV.x (KJ))) (leaf (RV.x (X0)))))) VQ ?_;simp only [VJ.sat,U8,UZ,UB,UE,H6];have hc: ∀b:Bool,shB n L 200=b->ckE n L=if n<=50/\b=true then 0 else 3:=λb h=>by unfold ckE;rw [h]
 cases hs:shB n L 200
 all_goals
  rw [hc _ hs];simp
  try omega
def Wy4:UU:=λl=>some ([l=[lns n L]],i (ckE n L))
theorem PP(VO:n<=100000):VM VL 35 (Wy4 n L):=by
 refine ⟨(UC Tryz.func35),?_⟩;intro avs ns res h Z;cases h;have e:=Z _ GB;subst e;exact OD n L VO
end
def sX:UU
 |[.lst 4 n f]=>some ([n<=100000,gdX 4 n f],.lst 4 n f)
 |_=>none
theorem V1{p:Prop}(h:p:=by
 simp only [VJ.sat,U8,UZ,true_and];refine ⟨λh=>⟨Ak,h⟩,⟨VG,λk hk x hm=>((UD k hk).2 x hm).2⟩,Ap n,?_⟩;exact λk hk=>⟨lI f k,λx hm=>((UD k hk).2 x hm).1⟩):p:=h
theorem Xi3(n:Nat)(f:Nat->List AV)(VO:n<=100000)(UD:gdX 4 n f):VV VL 99 [.lst 4 n f] (.lst 4 n f):=by
 refine G9 (L:=[]) Aa Ad VW Tryz.func99 (UR Tryz.f99) UV (t:=VJ.may (n=0) (leaf (RV.x (J2))) (need [(0+n)*32<=140737488355328,∀(i:Nat),i<n-> ∀(a:AV),a∈f i->AV.one a=true] (leaf (RV.lst 4 (0+n) (GE 0 (λx=>[]) λa=>f a))))) VQ ?_;exact V1
theorem Qc9:VM VL 99 sX:=by
 refine ⟨(UC Tryz.func99),?_⟩;intro avs ns res h Z;unfold sX at h;split at h;cases h;exact Xi3 _ _ (Z _ VS) (Z _ VS);cases h
def sY:UU
 |[.lst 5 n f]=>some ([n<=100000,gdX 5 n f],.lst 5 n f)
 |_=>none
theorem Xi4(n:Nat)(f:Nat->List AV)(VO:n<=100000)(UD:gdX 5 n f):VV VL 100 [.lst 5 n f] (.lst 5 n f):=by
 refine G9 (L:=[]) Aa Ad VW Tryz.func100 (UR Tryz.f100) UV (t:=VJ.may (n=0) (leaf (RV.x (J2))) (need [(0+n)*40<=140737488355328,∀(i:Nat),i<n-> ∀(a:AV),a∈f i->AV.one a=true] (leaf (RV.lst 5 (0+n) (GE 0 (λx=>[]) λa=>f a))))) VQ ?_;exact V1
theorem Qd0:VM VL 100 sY:=by
 refine ⟨(UC Tryz.func100),?_⟩;intro avs ns res h Z;unfold sY at h;split at h;cases h;exact Xi4 _ _ (Z _ VS) (Z _ VS);cases h
def sW:UU
 |[.lst 5 n f]=>some ([n<=100000,gdX 5 n f],.lst 5 n f)
 |_=>none
theorem Xi2(n:Nat)(f:Nat->List AV)(VO:n<=100000)(UD:gdX 5 n f):VV VL 101 [.lst 5 n f] (.lst 5 n f):=by
 refine G9 (L:=[]) Aa Ad VW Tryz.func101 (UR Tryz.f101) UV (t:=VJ.may (n=0) (leaf (RV.x (J2))) (need [(0+n)*40<=140737488355328,∀(i:Nat),i<n-> ∀(a:AV),a∈f i->AV.one a=true] (leaf (RV.lst 5 (0+n) (GE 0 (λx=>[]) λa=>f a))))) VQ ?_;exact V1
theorem Qc8:VM VL 101 sW:=by
 refine ⟨(UC Tryz.func101),?_⟩;intro avs ns res h Z;unfold sW at h;split at h;cases h;exact Xi2 _ _ (Z _ VS) (Z _ VS);cases h
def sU:UU
 |[.lst 2 n f]=>some ([n<=100000,gdX 2 n f],.lst 2 n f)
 |_=>none
theorem Xi1(n:Nat)(f:Nat->List AV)(VO:n<=100000)(UD:gdX 2 n f):VV VL 102 [.lst 2 n f] (.lst 2 n f):=by
 refine G9 (L:=[]) Aa Ad VW Tryz.func102 (UR Tryz.f102) UV (t:=VJ.may (n=0) (leaf (RV.x (J2))) (need [(0+n)*16<=140737488355328,∀(i:Nat),i<n-> ∀(a:AV),a∈f i->AV.one a=true] (leaf (RV.lst 2 (0+n) (GE 0 (λx=>[]) λa=>f a))))) VQ ?_;exact V1
theorem Qc7:VM VL 102 sU:=by
 refine ⟨(UC Tryz.func102),?_⟩;intro avs ns res h Z;unfold sU at h;split at h;cases h;exact Xi1 _ _ (Z _ VS) (Z _ VS);cases h
end Go.Proofs.YtakpdkmhclhlnaaGreatDoor.Hd
namespace Go.Proofs.YtakpdkmhclhlnaaGreatDoor.Hd
open Go Go.Sx Go.RowKit
open Go.Sx.VJ (need branch leaf)
open Go.Sx.AV (lst ptr agg roI tup top)
def DQ(W:Nat->ByteArray)(s:HS):HS:=match wdK (W 0) with
 | 0=>thS s (VX (W 1)) (VX (W 2)) (VX (W 3)) (VX (W 4))
 | 1=>stS s (VX (W 1))
 | 2=>baS s (VX (W 1)) (VX (W 2))
 | 3=>btS s (VX (W 1)) (VX (W 2))
 | 4=>seS s (VX (W 1)) (VX (W 2))
 | 5=>isS s (VX (W 1)) (VX (W 2)) (VX (W 3)) (VX (W 4))
 | 6=>voS s (VX (W 1))
 | 7=>slS s (VX (W 1)) (VX (W 2)) (VX (W 3)) (VX (W 4)) (VX (W 5))
 |_=>s
def RW(W:Nat->ByteArray)(n:Nat)(s:HS):Int:=match wdK (W 0) with
 | 0=>fmE W n 4 (thE s (VX (W 1)) (VX (W 2)) (VX (W 3)) (VX (W 4)))
 | 1=>fmE W n 1 (stE s (VX (W 1)))
 | 2=>fmE W n 2 (baE s (VX (W 1)) (VX (W 2)))
 | 3=>fmE W n 2 (btE s (VX (W 1)) (VX (W 2)))
 | 4=>fmE W n 2 (seE s (VX (W 1)) (VX (W 2)))
 | 5=>fmE W n 4 (isE s (VX (W 1)) (VX (W 2)) (VX (W 3)) (VX (W 4)))
 | 6=>fmE W n 1 (voE s (VX (W 1)))
 | 7=>fmE W n 5 (slE s (VX (W 1)) (VX (W 2)) (VX (W 3)) (VX (W 4)) (VX (W 5)))
 |_=>4
structure hZ (s:HS):Prop where
 nr:s.nr<=12
 bV:bV s.nb s.ql s.qh s.qm s.qr s.qv
 nc:s.nc<=10
 sV:sV s.ns s.sa s.sb s.sc s.sl s.sh
abbrev hsM(s:HS):GW:=[(0,.cells 99 (hsL s)),(1,.row 23 1 s.xn s.xg),(2,.row 9 1 s.yn s.yg)]
theorem Qn6{str:ByteArray}{n:Nat}{W:Nat->ByteArray}{s:HS}(h:vK str n W)(hs:hZ s):
  wF VL 106 [.ptr 0 0,.x (.string str)] (hsM s) 901 [[.ptr 0 0,.row 1,.row 2]] 211 (OS (DQ W s)) (OX s) (rsE (RW W n s)):=by
 rcases AM (W 0) with ⟨h1,h2⟩|⟨h1,_⟩
 ·have hV: ∀q,wdL[q]? =some (W 0)->U2 (UM q) (λk=>W (k+1))=W:=by
   intro q hq;funext k;cases k with
   |zero=>
    show UM q=W 0;unfold UM;rw [List.getD_eq_getElem?_getD,hq];rfl
   |succ k=>rfl
  unfold DQ RW;rcases (show wdK (W 0)=0\/wdK (W 0)=1\/wdK (W 0)=2\/wdK (W 0)=3\/wdK (W 0)=4\/wdK (W 0)=5\/wdK (W 0)=6\/wdK (W 0)=7 by omega) with h3|h3|h3|h3|h3|h3|h3|h3
  all_goals
   rw [h3] at h2 ⊢;have e:=hV _ h2;have h':=h;rw [←e] at h'
  have k:=Qn4 (λk=>W (k+1)) n str s h' hs.nr;rw [e] at k;exact k;have k:=Qn5 (λk=>W (k+1)) n str s h' hs.nr;rw [e] at k;exact k;have k:=Xf7 (λk=>W (k+1)) n str s h';rw [e] at k;exact k;have k:=Xf6 (λk=>W (k+1)) n str s h' hs.bV.1.1;rw [e] at k;exact k;have k:=Zj2 (λk=>W (k+1)) n str s h' hs.bV;rw [e] at k;exact k;have k:=Wf7 (λk=>W (k+1)) n str s h' hs.nc;rw [e] at k;exact k;have k:=Xf4 (λk=>W (k+1)) n str s h' hs.nc;rw [e] at k;exact k;have k:=Xf5 (λk=>W (k+1)) n str s h' hs.sV;rw [e] at k;exact k
 have h0:wdO (W 0)=false:=by
  unfold wdO;rw [h1];rfl
 have k:=Jc0 W n str s h h0;unfold RW;rw [h1];show wF _ _ _ _ _ _ _ (OS (DQ W s)) _ _;have e:DQ W s=s:=by
  unfold DQ;rw [h1];rfl
 rw [e];exact k
theorem fm0{W:Nat->ByteArray}{n many:Nat}{e:Int}(h:fmE W n many e=0):e=0:=by
 unfold fmE at h;split at h;exact h;exact absurd h (by decide)
theorem tW{W:Nat->ByteArray}{n:Nat}{s:HS}(hs:hZ s)(h0:RW W n s=0):hZ (DQ W s):=by
 unfold RW at h0;unfold DQ;split at h0;have h:=fm0 h0;unfold thE at h;split at h;split at h;exact ⟨by show s.nr+1<=12;omega,hs.bV,hs.nc,hs.sV⟩
 exact absurd h (by decide)
 exact absurd h (by decide)
 exact ⟨by show s.nr-1<=12;have:=hs.nr;omega,hs.bV,hs.nc,hs.sV⟩
 exact ⟨hs.nr,hs.bV,hs.nc,hs.sV⟩;have h:=fm0 h0;unfold btE at h;split at h;rename_i hb;split at h;rename_i h6;have hx:=(bt_iff _ _ _).1 hb.1;refine ⟨hs.nr,⟨⟨by show s.nb+1<=6;omega,λb hb'=>?_⟩,λb hb' j k hjk hk=>?_⟩,hs.nc,hs.sV⟩
 have hb':b<s.nb+1:=hb';show (if b<s.nb then s.qm b else 0)<=10/\0<=H3 s.nb s.ql _ b/\H3 s.nb s.ql _ b<=H3 s.nb s.qh _ b/\H3 s.nb s.qh _ b<=1000/\ ∀j,j<(if b<s.nb then s.qm b else 0)->0<=s.qr b j/\s.qr b j<=2/\ -1000<=s.qv b j/\s.qv b j<=2000
 unfold H3;by_cases e:b<s.nb;simp only [if_pos e];exact hs.bV.1.2 b e;simp only [if_neg e];exact ⟨VG,hx.1,hx.2,hb.2,λj hj=>VG⟩;have hk:k<(if b<s.nb then s.qm b else 0):=hk
 by_cases e:b<s.nb;rw [if_pos e] at hk;exact hs.bV.2 b e j k hjk hk;rw [if_neg e] at hk;omega;exact absurd h (by decide)
 exact absurd h (by decide)
 have h:=fm0 h0;unfold seE at h;split at h;rename_i g1;split at h;rename_i g2;split at h;rename_i g3;split at h;rename_i g4;exact ⟨hs.nr,Zz5 hs.bV g1 g2 g3 g4,hs.nc,hs.sV⟩;exact absurd h (by decide)
 exact absurd h (by decide)
 exact absurd h (by decide)
 exact absurd h (by decide)
 have h:=fm0 h0;unfold isE at h;split at h;split at h;exact ⟨hs.nr,hs.bV,by show s.nc+1<=10;omega,hs.sV⟩
 exact absurd h (by decide)
 exact absurd h (by decide)
 exact ⟨hs.nr,hs.bV,hs.nc,hs.sV⟩;have h:=fm0 h0;unfold slE at h;split at h;rename_i g1;split at h;rename_i g2;exact ⟨hs.nr,hs.bV,hs.nc,slV g1 (by simp;omega) hs.sV⟩
 exact absurd h (by decide)
 exact absurd h (by decide)
 exact absurd h0 (by decide)
def LK(e:UJ)(q r t:Nat)(x:Nat):Option Nat:=if x=e.blk q then some q else if (e.val r).ownBlock=some x then some r else if (e.val t).ownBlock=some x then some t else none
theorem Qc4(s:HS): ∀a∈hsL s,Idf a:=by
 intro a A;simp only [GK,DP,or_false] at A;rcases A with rfl|rfl|rfl|rfl|rfl|rfl;exact .lst _ _ _ λk _ x hx=>by
  simp only [GK,DP,or_false] at hx;rcases hx with rfl|rfl|rfl|rfl<;>exact .x _
 exact .x _;exact .x _;exact Qc5 _ _ _ _ _ _;exact VF;exact VF
theorem Zj4{str:ByteArray}{s s':HS}{er:Int}(hE:wF VL 106 [.ptr 0 0,.x (.string str)] (hsM s) 901 [[.ptr 0 0,.row 1,.row 2]] 211 (OS s') (OX s) (rsE er))(hx:s'.xn=s.xn/\s'.xg=s.xg/\s'.yn=s.yn/\s'.yg=s.yg)
  {e:UJ}{w0 w:World}{T:Nat->Prop}{q r t:Nat}(hEv:UX e w0.heap.size w)(hB:Below w0.heap.size w0 w)(hT: ∀b,T b->b<w0.heap.size/\ ¬e.ro b)
  (hq:GD e w q (.cells 99 (hsL s)))(hr:GD e w r (.row 23 1 s.xn s.xg))(ht:GD e w t (.row 9 1 s.yn s.yg))(hqr:q≠r)(hqt:q≠t)(hrt:r≠t)(hrv: ∃a b c,e.val r= .slice a b c)(htv: ∃a b c,e.val t= .slice a b c):
  Calls Tryz.prog 106 #[.pointer (some ⟨e.blk q,0,none⟩),.string str] w λen w1=>en=Xj7 211 (rsE er)/\Below w0.heap.size w0 w1/\w.heap.size<=w1.heap.size/\
   (∀x,(e.ro x\/(w0.heap.size<=x/\x<w.heap.size/\e.own x≠some q/\e.own x≠some r/\e.own x≠some t))->w1.heap[x]? =w.heap[x]?)/\
   ∃ro1:Nat->Prop,(∀x,e.ro x->ro1 x)/\(∀x,T x-> ¬ro1 x)/\UX {e with ro:=ro1,own:=LK e q r t} w0.heap.size w1/\
    GD {e with ro:=ro1,own:=LK e q r t} w1 q (.cells 99 (cond (rsE er).1 (hsL s') [.top,.top,.top,.top,.top,.top]))/\
    GD {e with ro:=ro1,own:=LK e q r t} w1 r (.row 23 1 s.xn s.xg)/\GD {e with ro:=ro1,own:=LK e q r t} w1 t (.row 9 1 s.yn s.yg):=by
 let e0:UJ:={ro:=λx=>e.ro x\/(w0.heap.size<=x/\x<w.heap.size/\e.own x≠some q/\e.own x≠some r/\e.own x≠some t),own:=λx=>if e.own x=some q then some 0 else if e.own x=some r then some 1 else if e.own x=some t then some 2 else none,live:=λk=>k<901,blk:=λ_=>e.blk q,val:=λk=>if k=1 then e.val r else e.val t}
 obtain ⟨ql,qo,vs,qh,qv⟩:=hq;obtain ⟨rl,ro,rf,rxs,rh,rv⟩:=hr;obtain ⟨tl,to,tf,txs,th,tv⟩:=ht;have oq: ∀{x},e.own x=some q->e0.own x=some 0:=λh=>if_pos h;have or_: ∀{x},e.own x=some r->e0.own x=some 1:=λh=>by simp [e0,h,hqr.symm]
 have ot: ∀{x},e.own x=some t->e0.own x=some 2:=λh=>by simp [e0,h,hqt.symm,hrt.symm]
 have hE0:UX e0 w0.heap.size w:=by
  refine ⟨λx hx=>?_,λx k hk=>?_,λg p hp=>⟨.inl (hEv.glob g p hp).1,(hEv.glob g p hp).2⟩⟩;rcases hx with hx|⟨_,h2,h3,h4,h5⟩;obtain ⟨h1,h2⟩:=hEv.apart x hx;exact ⟨by simp [e0,h1],h2⟩
  exact ⟨by simp [e0,h3,h4,h5],h2⟩
  have hk:(if e.own x=some q then some 0 else if e.own x=some r then some 1 else if e.own x=some t then some 2 else none)=some k:=hk
  split at hk;rename_i h;exact hEv.owned x _ h;split at hk;rename_i h;exact hEv.owned x _ h;split at hk;rename_i h;exact hEv.owned x _ h;cases hk
 have sub0: ∀b,e.ro b->e0.ro b:=λb h=> .inl h;have idfL:=Qc4 s;have hM:US e0 (hsM s) w:=by
  intro p hp;simp only [GK,DP,or_false] at hp;rcases hp with rfl|rfl|rfl;exact ⟨show 0<901 by omega,oq qo,vs,qh,⟨qv.1,λi a v A I=>Rep.idf sub0 (qv.2 i a v A I) (idfL a (DY A))⟩⟩
  exact ⟨show 1<901 by omega,λb hb=>or_ (ro b hb),rf,rxs,rh,λi j a v O A I=>Rep.idf sub0 (rv i j a v O A I) ((rf i O).2 a (DY A))⟩
  exact ⟨show 2<901 by omega,λb hb=>ot (to b hb),tf,txs,th,λi j a v O A I=>Rep.idf sub0 (tv i j a v O A I) ((tf i O).2 a (DY A))⟩
 let c0:Cx:={M:=λ_=>False,Φ:=λ_ _ _=>True,K:=λx o=>e0.ro x/\w.heap[x]? =some o,saved:=[[.pointer (some ⟨e.blk q,0,none⟩),e.val r,e.val t]],sz:=w.heap.size}
 have hS:VZ e0 w [.ptr 0 0,.row 1,.row 2] [.pointer (some ⟨e.blk q,0,none⟩),e.val r,e.val t]:=by
  obtain ⟨a1,b1,d1,h1⟩:=hrv;obtain ⟨a2,b2,d2,h2⟩:=htv;refine .cons (.ptr 0 0 (show 0<901 by omega)) (.cons ?_ (.cons ?_ (.nil _ _)))
  rw [h1];exact .row 1 _ _ _ (show 1<901 by omega) h1
  rw [h2];exact .row 2 _ _ _ (show 2<901 by omega) h2
 have hX:Xt c0 e0 [[.ptr 0 0,.row 1,.row 2]] [] w:=
  ⟨⟨λd hd=>(by cases hd),By⟩,λx o hk=>⟨hk.1,(hE0.apart x hk.1).2,hk.2⟩,L4.cons hS ⟨rfl,λi a v h=>by simp at h⟩,Am _⟩
 have hT0: ∀b,T b->b<w0.heap.size/\ ¬e0.ro b:=λb hb=>⟨(hT b hb).1,λh=>by
  rcases h with h|⟨h,_⟩;exact (hT b hb).2 h;have:=(hT b hb).1;omega⟩
 have hA:VZ e0 w [.ptr 0 0,.x (.string str)] [.pointer (some ⟨e.blk q,0,none⟩),.string str]:= .cons (.ptr 0 0 (show 0<901 by omega)) (.cons (.x _) (.nil _ _))
 refine (hE c0 w0 T e0 [] _ w hE0 hB hM (λk hk=>hk) hT0 hX hA).mono ?_;rintro en w1 ⟨hen,e1,g1,g2,g3,g4,g5,g6⟩;have OC: ∀x,e0.ro x->e1.ro x/\w1.heap[x]? =w.heap[x]? :=by
  intro x hx;have hlt:=(hE0.apart x hx).2;have hk:=g6.kept x w.heap[x] ⟨hx,by simp [hlt]⟩
  exact ⟨hk.1,by rw [hk.2.2];simp [hlt]⟩
 have hsv:(cond (rsE er).1 (OS s') (OX s)).sv=[[.ptr 0 0,.row 1,.row 2]]:=by
  cases (rsE er).1<;>rfl
 have hsd:=g6.saved;rw [hsv] at hsd;have hs1:=hsd.2 0 _ _ rfl rfl;obtain ⟨v0,l0,q0,r0,hs1⟩:=hs1.cons_inv;obtain ⟨rfl,rfl⟩:=List.cons.inj q0;obtain ⟨v1,l1,q1,r1,hs1⟩:=hs1.cons_inv;obtain ⟨rfl,rfl⟩:=List.cons.inj q1;obtain ⟨v2,l2,q2,r2,_⟩:=hs1.cons_inv;obtain ⟨rfl,rfl⟩:=List.cons.inj q2;have b0:e1.blk 0=e.blk q:=by
  generalize I:Value.pointer (some ⟨e.blk q,0,none⟩)=v at r0;cases r0;injection I with I
  injection I with I
  injection I with I _
  exact I.symm
 have u1:e1.val 1=e.val r:=by
  generalize I:e.val r=v at r1;cases r1;assumption
 have u2:e1.val 2=e.val t:=by
  generalize I:e.val t=v at r2;cases r2;assumption
 have m0:GD e1 w1 0 (.cells 99 (cond (rsE er).1 (hsL s') [.top,.top,.top,.top,.top,.top])):=by
  cases hb:(rsE er).1;rw [hb] at g3;exact g3 (0,.cells 99 [.top,.top,.top,.top,.top,.top]) (by simp [OX])
  rw [hb] at g3;exact g3 (0,.cells 99 (hsL s')) (by simp [OS])
 have m1:GD e1 w1 1 (.row 23 1 s.xn s.xg):=by
  cases hb:(rsE er).1;rw [hb] at g3;exact g3 (1,.row 23 1 s.xn s.xg) (by simp [OX])
  rw [hb] at g3;have:=g3 (1,.row 23 1 s'.xn s'.xg) (by simp [OS]);rw [hx.1,hx.2.1] at this;exact this
 have m2:GD e1 w1 2 (.row 9 1 s.yn s.yg):=by
  cases hb:(rsE er).1;rw [hb] at g3;exact g3 (2,.row 9 1 s.yn s.yg) (by simp [OX])
  rw [hb] at g3;have:=g3 (2,.row 9 1 s'.yn s'.yg) (by simp [OS]);rw [hx.2.2.1,hx.2.2.2] at this;exact this
 have hsz:w.heap.size<=w1.heap.size:=g6.size;obtain ⟨_,n0,vs1,k0,k1⟩:=m0;obtain ⟨_,n1,f1,xs1,p1,p2⟩:=m1;obtain ⟨_,n2,f2,xs2,y1,y2⟩:=m2;rw [b0] at n0 k0;rw [u1] at n1 p1;rw [u2] at n2 y1;have idfC: ∀a∈(cond (rsE er).1 (hsL s') [.top,.top,.top,.top,.top,.top]),Idf a:=by
  cases (rsE er).1;intro a A;simp only [cond_false,GK,DP,or_false,or_self] at A;subst A;exact .top;exact Qc4 s'
 have oq1:LK e q r t (e.blk q)=some q:=if_pos rfl;have or1: ∀b,(e.val r).ownBlock=some b->LK e q r t b=some r:=by
  intro b hb;have:b≠e.blk q:=by
   rintro rfl;have:=n1 _ hb;rw [n0] at this;cases this
  unfold LK;rw [if_neg this,if_pos hb]
 have ot1: ∀b,(e.val t).ownBlock=some b->LK e q r t b=some t:=by
  intro b hb;have h1:b≠e.blk q:=by
   rintro rfl;have:=n2 _ hb;rw [n0] at this;cases this
  have h2:(e.val r).ownBlock≠some b:=by
   intro h;have h3:=n1 _ h;rw [n2 _ hb] at h3;cases h3
  unfold LK;rw [if_neg h1,if_neg h2,if_pos hb]
 have cv: ∀{a:AV} {v:Value},Rep e1 w1 a v->Idf a->Rep {e with ro:=e1.ro,own:=LK e q r t} w1 a v:=λh k=>Rep.idf (e:=e1) (e':={e with ro:=e1.ro,own:=LK e q r t}) (λ_ h=>h) h k
 refine ⟨hen,g2,hsz,λx hx=>(OC x hx).2,e1.ro,λx hx=>(OC x (sub0 x hx)).1,λx hx=>(g5 x hx).2,⟨λx hx=>⟨?_,(g1.apart x hx).2⟩,λx k hk=>?_,λg p hp=>g1.glob g p hp⟩,⟨ql,oq1,vs1,k0,⟨k1.1,λi a v A I=>cv (k1.2 i a v A I) (idfC a (DY A))⟩⟩,⟨rl,or1,f1,xs1,p1,λi j a v O A I=>cv (p2 i j a v O A I) ((f1 i O).2 a (DY A))⟩,⟨tl,ot1,f2,xs2,y1,λi j a v O A I=>cv (y2 i j a v O A I) ((f2 i O).2 a (DY A))⟩⟩;have h0:=(g1.apart x hx).1;have c1:x≠e.blk q:=by
  rintro rfl;rw [n0] at h0;cases h0
 have c2:(e.val r).ownBlock≠some x:=λh=>by
  rw [n1 _ h] at h0;cases h0
 have c3:(e.val t).ownBlock≠some x:=λh=>by
  rw [n2 _ h] at h0;cases h0
 show LK e q r t x=none;unfold LK;rw [if_neg c1,if_neg c2,if_neg c3];have up: ∀{x j},e.own x=some j->w0.heap.size<=x/\x<w1.heap.size:=λh=>⟨(hEv.owned _ _ h).1,xS (hEv.owned _ _ h).2 hsz⟩;have hk:LK e q r t x=some k:=hk;unfold LK at hk;split at hk;rename_i h;rw [h];exact up qo;split at hk;rename_i h;exact up (ro _ h);split at hk;rename_i h;exact up (to _ h);cases hk
end Go.Proofs.YtakpdkmhclhlnaaGreatDoor.Hd
