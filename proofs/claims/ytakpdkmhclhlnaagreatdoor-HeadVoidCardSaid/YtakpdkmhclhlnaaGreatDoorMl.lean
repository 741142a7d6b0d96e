/- Contracts, put together. Conditions: those of each. -/
import Derived.Test.YtakpdkmhclhlnaaGreatDoorMk
import Derived.Shelf.Spec.SlicesGrow
set_option linter.unusedSimpArgs false
set_option linter.unusedVariables false
set_option maxRecDepth 100000
namespace Go.Proofs.YtakpdkmhclhlnaaGreatDoor.Hd
open Go Go.Shelf
def e8:Go.Shelf.Ren:=⟨λ| 4=>234|n=>n,λ| 22=>36| 25=>145|n=>n,λn=>n⟩
theorem tV:Go.Proofs.Lays8.n4 Tryz.prog e8:=by
 constructor
 case f4=>exact ⟨Tryz.f234.name,(of_decide_eq_true (by kernel_rfl)),Tryz.func234.trans (congrArg some (by kernel_rfl))⟩
 all_goals first|(intro _;kernel_rfl)|kernel_rfl
open Go Go.Shelf Go.Sx Go.RowKit
theorem Zj3: ∃i0 z,Tryz.prog.info? 145=some i0/\i0.zero=some z/\i0.size=4/\i0.bytes=32/\z.cells.size=4:=by
 have h:((Tryz.prog.info? 145).bind λi=>i.zero.map λz=>(i.size,i.bytes,z.cells.size))=some (4,32,4):=VT
 cases O:Tryz.prog.info? 145 with
 |none=>rw [O] at h;cases h
 |some i0=>
  rw [O] at h;cases hz:i0.zero with
  |none=>
   have h:(i0.zero.map λz=>(i0.size,i0.bytes,z.cells.size))=some (4,32,4):=h
   rw [hz] at h;cases h
  |some z=>
   have h:(i0.zero.map λz=>(i0.size,i0.bytes,z.cells.size))=some (4,32,4):=h
   rw [hz] at h;simp only [Bt,HD,FA] at h;exact ⟨i0,z,rfl,hz,h.1,h.2.1,h.2.2⟩
theorem oY(k:Nat)(hk:k<=100000)(w:World):Calls Tryz.prog 234 #[.slice none 0 0,.int .i64 k] w λen w'=> ∃v,en= .returned v/\Below w.heap.size w w'/\w'.ownsRow 0 145 4 v 0 []/\ ∀b,v.ownBlock=some b->w.heap.size<=b/\b<w'.heap.size:=by
 rcases Nat.eq_zero_or_pos k with rfl|h0
 ·refine Calls.mono (Any8.slices_Grow_room tV none 0 0 0 w VJ VJ VJ VJ) ?_;rintro en w' ⟨rfl,rfl⟩;exact ⟨_,rfl,Below.refl _ _,⟨rfl,.inl ⟨rfl,rfl⟩⟩,λb h=>by cases h⟩
 ·obtain ⟨i0,z,e0,e1,e2,e3,e4⟩:=Zj3;refine Calls.mono (Any8.slices_Grow_grow tV i0 z e0 e1 VJ none 0 0 k [] w VJ VJ (by rw [e3];omega) VJ VV (λ_=>rfl) (λa h=>by cases h)) ?_
  rintro en w' ⟨rfl,rfl⟩;have g1:k<=grownCap w (0+k) 0 145:=by have:=grownCap_ge w (0+k) 0 145;omega
  refine ⟨_,rfl,((Below.refl _ _).drew).alloc (Am _) _,⟨rfl,.inr ⟨w.heap.size,grownCap w (0+k) 0 145,#[]++Builtin.zeroCells z.cells (0+k-0)++Builtin.zeroCells z.cells (grownCap w (0+k) 0 145-(0+k)),rfl,Ao _,?_,Ao _,grownCap_le_maxLen w (0+k) 0 145 (by unfold maxLen;omega),?_,VV⟩⟩,?_⟩
  ·show (w.drew.heap.push _)[w.heap.size]? =_;exact Array.getElem?_push_size ..
  ·rw [Ap] at g1 ⊢;simp [Builtin.zeroCells,e4];omega
  ·intro b h;cases h;exact ⟨Am _,by show w.heap.size<(w.drew.heap.push _).size;rw [Array.size_push];exact Bk _⟩
def aO:BF:=λl=>match l with
 |[.x (.slice none 0 0),.x (.int .i64 k)]=>some ([0<=k/\k<=100000],145,4,0,λ_=>[])
 |_=>none
theorem Wn4:Sx.Enters Tryz.prog 234/\ ∀avs ns T sz n g,aO avs=some (ns,T,sz,n,g)->(∀q∈ns,q)->DL VO 234 avs T sz n g:=by
 refine ⟨(UG Tryz.func234),?_⟩;intro avs ns T sz n g h Z;unfold aO at h;split at h
 ·rename_i k;cases h;obtain ⟨h1,h2⟩:0<=k/\k<=100000:=Z _ GG;intro e w args q1 q2 q3 q4;obtain ⟨u,us,rfl,r1,q5⟩:=q4.cons_inv;obtain ⟨u',us',rfl,r2,q6⟩:=q5.cons_inv;obtain rfl:=q6.nil_inv;cases r1;cases r2;obtain ⟨k',rfl⟩:=Int.eq_ofNat_of_zero_le h1;refine (oY k' VJ w).mono ?_;rintro en w' ⟨v,rfl,g1,g2,g3⟩;exact ⟨v,[],rfl,g1,g2,g3,λi O=>VJ,λi j a u O=>VJ⟩
 ·cases h
theorem Wn3:GB VO 234 (Wn0 aO):=AN Wn4
end Go.Proofs.YtakpdkmhclhlnaaGreatDoor.Hd
namespace Go.Proofs.YtakpdkmhclhlnaaGreatDoor.Hd
open Go Go.Sx Go.RowKit Bo
open Go.Sx.VM (need branch leaf)
open Go.Sx.AV (lst ptr agg roI tup top)
theorem mM{S:Code->UI->Prop}{c:Code}{s0 s1:UI}(h0: ∀cj,VS c 0=some cj->S cj s0)(h1: ∀cj,VS c 1=some cj->S cj s1):
  ∀j cj,VS c j=some cj-> ∀sp,[s0,s1][j]? =some sp->S cj sp:=by
 intro j cj hj sp hsp
 match j with
 | 0=>simp at hsp;subst hsp;exact h0 cj hj
 | 1=>simp at hsp;subst hsp;exact h1 cj hj
 |j+2=>simp at hsp
def ctI(p:Nat)(a b:Nat->Int)(k:Nat):Int:=if k<p then a k else b (k-p)
def A5:UW
 |[.lst 1 n F]=>match F 0,F 1 with
  |[.lst 4 p f],[.lst 4 q g]=>some ([n=2,UF 4 p f,UF 4 q g,p<=10000,q<=10000],.lst 4 (p+q) (λk=>[i (ctI p (col 0 f) (col 0 g) k),i (ctI p (col 1 f) (col 1 g) k),i (ctI p (col 2 f) (col 2 g) k),i (ctI p (col 3 f) (col 3 g) k)]))
  |_,_=>none
 |_=>none
theorem Wn2(p:Nat)(a b u v:Nat->Int)(q:Nat)(a1 b1 u1 v1:Nat->Int)(VR:p<=10000)(UE:q<=10000):VX VO 205 [.lst 1 2 (U4 1 [rds p a b u v,rds q a1 b1 u1 v1])] (.lst 4 (p+q) (λk=>[i (ctI p a a1 k),i (ctI p b b1 k),i (ctI p u u1 k),i (ctI p v v1 k)])):=by
 refine GA (X:={R:=[],H:=[(234,(Wn0 aO))] }) (L:=[(λs=>some (xQ Tryz.prog [] [] (U9 (VS (U7 Tryz.f205) 0)) 3 s)),(λs=>some (xQ Tryz.prog [] [] (U9 (VS (U7 Tryz.f205) 1)) 3 s))]) Aa (Ai Ab (Ag Wn3 Ac)) VY Tryz.func205 (UT Tryz.f205) (mM (lpE (b:= .loop (U9 (VS (U7 Tryz.f205) 0))) VT<|(L8 Aa VY U3 _).N) (lpE (b:= .loop (U9 (VS (U7 Tryz.f205) 1))) VT<|(L8 Aa VY U3 _).N)) (t:=let z1:=(need [(0:Int)<=0+1+1/\(0:Int)+1+1<(↑(2:Nat):Int)] VM.fail);let z2:=(GE 0 (λx=>[]) (rq4 a b u v));let z0:=(branch (decide ((0:Int)<(↑(2:Nat):Int))) (need [UJ 0 2] (need [(0+p)*32<=140737488355328,∀(i:Nat),i<p-> ∀(a_2:AV),a_2∈[Bo.i (a i),Bo.i (b i),Bo.i (u i),Bo.i (v i)]->AV.one a_2=true] (need [VL ((0:Int)+1)] (branch (decide ((0:Int)+1<(↑(2:Nat):Int))) (need [(0:Int)<=0+1/\(0:Int)+1<(↑(2:Nat):Int)] (need [(0+p+q)*32<=140737488355328,∀(i:Nat),i<q-> ∀(a:AV),a∈[Bo.i (a1 i),Bo.i (b1 i),Bo.i (u1 i),Bo.i (v1 i)]->AV.one a=true] (need [VL ((0:Int)+1+1)] (branch (decide ((0:Int)+1+1<(↑(2:Nat):Int))) z1 (leaf (RV.lst 4 (0+p+q) (GE (0+p) z2 (rq4 a1 b1 u1 v1)))))))) (leaf (RV.lst 4 (0+p) z2)))))) (leaf (RV.lst 4 0 λx=>[])));(branch (decide ((0:Int)<(↑(2:Nat):Int))) (need [UJ 0 2] (need [VL ((0:Int)+(p:Int))] (branch (decide ((0:Int)+(p:Int)<0)) VM.fail (need [VL ((0:Int)+1)] (branch (decide ((0:Int)+1<(↑(2:Nat):Int))) (need [(0:Int)<=0+1/\(0:Int)+1<(↑(2:Nat):Int)] (need [VL ((0:Int)+(p:Int)+(q:Int))] (branch (decide ((0:Int)+(p:Int)+(q:Int)<0)) VM.fail (need [VL ((0:Int)+1+1)] (branch (decide ((0:Int)+1+1<(↑(2:Nat):Int))) z1 (need [(0:Int)<=0+(p:Int)+(q:Int)/\(0:Int)+(p:Int)+(q:Int)<=100000] z0)))))) (need [(0:Int)<=0+(p:Int)/\(0:Int)+(p:Int)<=100000] z0)))))) (need [(0:Int)<=0/\(0:Int)<=100000] z0))) VT ?_
 have hX: ∀(k:Nat),k<p+q->GE (0+p) (GE 0 (λ_=>[]) λk=>[i (a k),i (b k),i (u k),i (v k)]) (λk=>[i (a1 k),i (b1 k),i (u1 k),i (v1 k)]) k=[i (ctI p a a1 k),i (ctI p b b1 k),i (ctI p u u1 k),i (ctI p v v1 k)]/\ ∀x∈[i (ctI p a a1 k),i (ctI p b b1 k),i (ctI p u u1 k),i (ctI p v v1 k)],isX x:=by
  intro k hk;refine ⟨?_,λx hx=>?_⟩
  ·show H0 (decide (k<0+p)) (GE 0 (λ_=>[]) (λk=>[i (a k),i (b k),i (u k),i (v k)]) k) [i (a1 (k-(0+p))),i (b1 (k-(0+p))),i (u1 (k-(0+p))),i (v1 (k-(0+p)))]=_
   rw [OC,Ap];unfold ctI;by_cases h:k<p
   ·rw [decide_eq_true h];simp only [if_pos h];rfl
   ·rw [decide_eq_false h];simp only [if_neg h];rfl
  ·simp only [GM,DO,or_false] at hx;rcases hx with rfl|rfl|rfl|rfl<;>exact Ak
 have hA: ∀(a b u v:Nat->Int) (n k:Nat),k<n-> ∀(x:AV),x∈[i (a k),i (b k),i (u k),i (v k)]->x.one=true:=by
  intro a b u v n k hk x hx;simp only [GM,DO,or_false] at hx;rcases hx with rfl|rfl|rfl|rfl<;>simp [AV.one,Value.oneCell']
 simp only [VM.sat,UB,G4,GJ,UD,true_and,HA,VL]
 (repeat' first|exact hA _ _ _ _ _|exact hX|with_reducible apply Al|with_reducible intro _)
 all_goals omega
theorem Wn1:VP VO 205 A5:=by
 refine ⟨(UG Tryz.func205),?_⟩;intro avs ns res h Z;unfold A5 at h;split at h
 ·rename_i n F;split at h
  ·rename_i p f q g h0 h1;cases h;obtain rfl:n=2:=Z _ VV;have r0:UF 4 p f:=Z (UF 4 p f) VV;have r1:UF 4 q g:=Z (UF 4 q g) VV;have hp:p<=10000:=Z (p<=10000) VV;have hq:q<=10000:=Z (q<=10000) VV;refine (Wn2 p (col 0 f) (col 1 f) (col 2 f) (col 3 f) q (col 0 g) (col 1 g) (col 2 g) (col 3 g) hp hq).same (.cons (.deep 1 2 F _ (λk hk=>?_) (λk j a b hk A hb=>?_)) .nil)
   ·rcases (show k=0\/k=1 by omega) with rfl|rfl
    ·rw [h0];rfl
    ·rw [h1];rfl
   ·rcases (show k=0\/k=1 by omega) with rfl|rfl
    ·rw [h0] at A;have hb:[rds p (col 0 f) (col 1 f) (col 2 f) (col 3 f)][j]? =some b:=hb;cases j with
     |zero=>
      cases A;cases hb;exact .lst 4 p f _ r0
     |succ j=>simp at A
    ·rw [h1] at A;have hb:[rds q (col 0 g) (col 1 g) (col 2 g) (col 3 g)][j]? =some b:=hb;cases j with
     |zero=>
      cases A;cases hb;exact .lst 4 q g _ r1
     |succ j=>simp at A
  ·cases h
 ·cases h
def skF(x0:Int)(a:Nat->Int)(k:Nat):Int:=if k<x0.toNat then a k else a (k+1)
def stS(s:HS)(x0:Int):HS:={s with nr:=s.nr-1,ra:=skF x0 s.ra,rb:=skF x0 s.rb,ru:=skF x0 s.ru,rv:=skF x0 s.rv}
def stE(s:HS)(x0:Int):Int:=if bt 0 x0 ((s.nr:Int)-1)=true then 0 else 7
theorem SE{x:Int}(h:0<=x)(a:Nat->Int)(k:Nat):ctI (x.toNat-Int.toNat 0) (λi=>a (Int.toNat 0+i)) (λi=>a ((x+1).toNat+i)) k=skF x a k:=by
 unfold ctI skF;by_cases h':k<x.toNat
 ·rw [if_pos (show k<x.toNat-Int.toNat 0 by simpa using h'),if_pos h']
  exact congrArg a VV
 ·rw [if_neg (show ¬k<x.toNat-Int.toNat 0 by simpa using h'),if_neg h']
  exact congrArg a (by simp;omega)
noncomputable abbrev S3(s:HS):DW:=rM Tryz.prog [(205,A5),(36,RL)] {} [(145,R9)] [] Tryz.f175 (U7 Tryz.f175)
theorem eM(s:HS):D4 VO 175 (S3 s):=
 FP (G:=[(205,A5),(36,RL)]) (X:=WA) (PX:=[(145,R9)]) (L:=[]) (Ae Wn1 (Ae PP Aa)) Ad (US.cons RN (US.nil _)) VY (UG Tryz.func175) Tryz.func175 (UT Tryz.f175) (λj cj _ sp hsp=>by simp at hsp)
theorem Ql4(V:Nat->ByteArray)(n:Nat)(str:ByteArray)(s:HS)(VR:vF str n (U5 (UO 1) V))(UE:s.nr<=12):wC VO 106 [.ptr 0 0,.x (.string str)] (X7 s) 901 [[.ptr 0 0,.row 1,.row 2]] 211 (OS (stS s (U0 (V 0)))) (OX s) (rsE (fmE (U5 (UO 1) V) n 1 (stE s (U0 (V 0))))):=by
 refine LG (PX:=[(145,R9),(146,zX),(175,(S3 s))]) (L:=[yQ (U5 (UO 1) V) n 1 175 s]) (Ae (L9 VR) (Ae wA Aa)) Ad (US.cons RN (US.cons wH (US.cons (eM s) (US.nil _)))) VY (UG Tryz.func106) Tryz.func106 (UT Tryz.f106) (LD (lpE (b:= .loop MR) VT<|uP (U5 (UO 1) V) n 1 175 s VR.2.2.2 (PZ VR))) (N:=[]) (t:=let z0:=(U0 (U5 (UO 1) V 1));let z1:=(U5 (UO 1) V (0:Int).toNat);let z2:=(need [[Q5]=[Q5],H9 (hL s) QU,QB s,QC s] (leaf (false,(4:Int))));(need [MH str str {data:=#[32] }] (need [UJ 0 n] (branch (wdO z1) (need [VL (wdM (wdK z1)+1)] (branch (!(n:Int)==wdM (wdK z1)+1) z2 (need [(0:Int)<=1/\(1:Int)<=(n:Int)/\(n:Int)<=(n:Int)] (need [QO,VZ (lst 1 n λk=>[HZ (U5 (UO 1) V k)]),ZQ,WI,(lst 1 (n-(1:Int).toNat) λi=>[AV.x (.string (U5 (UO 1) V ((1:Int).toNat+i)))])=lst 1 (n-1) λj=>[HZ (U5 (UO 1) V (1+j))],(↑(n-(1:Int).toNat):Int)=(↑(n-1):Int),(0:Int)=(↑(0:Nat):Int),0=0,∀(i:Nat),i<0->[]=[iI (U0 (U5 (UO 1) V (1+i)))],wdM (wdK z1)=1,VZ (AV.fn (Fn.func 175) [] []),XH s,JR s,JS s,XW s,XN s,XO s,KM s,∀(i:Nat),i<s.xn->s.xg i=s.xg i,KN s,∀(i:Nat),i<s.yn->s.yg i=s.yg i,QO,JX,JY] (branch (nuB (U5 (UO 1) V) n) (need [UJ 0 (↑(n-1):Int)] (need [(0:Int).toNat<n-1] (need [VL ((↑s.nr:Int)-1)] (branch (!bt (0:Int) z0 ((↑s.nr:Int)-1)) (need [[Q5]=[Q5],H9 (hL s) QU,QB s,QC s] (leaf (false,(7:Int)))) (need [UJ 0 (↑(n-1):Int)] (need [(0:Int).toNat<n-1] (need [(0:Int)<=0/\(0:Int)<=U0 (U5 (UO 1) V 1)/\U0 (U5 (UO 1) V 1)<=(↑s.nr:Int)] (need [UJ 0 (↑(n-1):Int)] (need [(0:Int).toNat<n-1] (need [VL (U0 (U5 (UO 1) V 1)+1)] (need [(0:Int)<=U0 (U5 (UO 1) V 1)+1/\U0 (U5 (UO 1) V 1)+1<=(↑s.nr:Int)/\(↑s.nr:Int)<=(↑s.nr:Int)] (need [2=2,UF 4 (Int.toNat z0-(0:Int).toNat) λi=>[Bo.i (s.ra ((0:Int).toNat+i)),Bo.i (s.rb ((0:Int).toNat+i)),Bo.i (s.ru ((0:Int).toNat+i)),Bo.i (s.rv ((0:Int).toNat+i))],UF 4 (s.nr-(U0 (U5 (UO 1) V 1)+1).toNat) λi=>[Bo.i (s.ra ((U0 (U5 (UO 1) V 1)+1).toNat+i)),Bo.i (s.rb ((U0 (U5 (UO 1) V 1)+1).toNat+i)),Bo.i (s.ru ((U0 (U5 (UO 1) V 1)+1).toNat+i)),Bo.i (s.rv ((U0 (U5 (UO 1) V 1)+1).toNat+i))],Int.toNat z0-(0:Int).toNat<=10000,s.nr-(U0 (U5 (UO 1) V 1)+1).toNat<=10000] (need [[Q5]=[Q5],H9 [lst 4 (Int.toNat z0-(0:Int).toNat+(s.nr-(U0 (U5 (UO 1) V 1)+1).toNat)) λk=>[iI (ctI (Int.toNat z0-(0:Int).toNat) (λi=>s.ra ((0:Int).toNat+i)) (λi=>s.ra ((U0 (U5 (UO 1) V 1)+1).toNat+i)) k),iI (ctI (Int.toNat z0-(0:Int).toNat) (λi=>s.rb ((0:Int).toNat+i)) (λi=>s.rb ((U0 (U5 (UO 1) V 1)+1).toNat+i)) k),iI (ctI (Int.toNat z0-(0:Int).toNat) (λi=>s.ru ((0:Int).toNat+i)) (λi=>s.ru ((U0 (U5 (UO 1) V 1)+1).toNat+i)) k),iI (ctI (Int.toNat z0-(0:Int).toNat) (λi=>s.rv ((0:Int).toNat+i)) (λi=>s.rv ((U0 (U5 (UO 1) V 1)+1).toNat+i)) k)],iI s.pl,iI s.ph,hY s.nb s,hC s.nc s,hT s.ns s] (hL (stS s (U0 (V 0)))),((23:TypeId),1,s.xn,s.xg)=((23:TypeId),1,(stS s (U0 (V 0))).xn,(stS s (U0 (V 0))).xg),((9:TypeId),1,s.yn,s.yg)=((9:TypeId),1,(stS s (U0 (V 0))).yn,(stS s (U0 (V 0))).yg)] (leaf (true,(0:Int)))))))))))))))) (need [[Q5]=[Q5],H9 QU QU,QB s,QC s] (leaf (false,(4:Int))))))))) z2)))) VT ?_
 have hw:wdO (U5 (UO 1) V (Int.toNat 0))=true:=VT;have hm:wdM (wdK (U5 (UO 1) V (Int.toNat 0)))=1:=VT;have hn1:1<=n:=by have:=VR.2.1;omega
 have hnl:=PZ VR;simp only [VM.sat,UB,UH,hm,hw,true_imp_iff];refine ⟨⟨rfl,rfl⟩,⟨VJ,VJ⟩,⟨by simp only [VL];omega,λh4=>?_,λh4=>?_⟩,λh=>by cases h⟩
 ·exact V7
 ·have hN:n=1+1:=by
   simp at h4;omega
  refine ⟨⟨VJ,VJ,VJ⟩,?_,λh5=>?_,λh5=>?_⟩
  rotate_left 2
  ·exact V8
  ·all_goals exact yE
  ·have hk1:n-1=1:=VJ;have hx0:U0 (U5 (UO 1) V 1)=U0 (V 0):=rfl;rw [hk1];simp only [hx0];refine ⟨VJ,by decide,by simp only [VL];omega,λh6=>⟨DK _ _ _ _ _ _,F6 hN h5 ?_ (by decide)⟩,λh6=>?_⟩
   ·unfold stE;rw [bnt h6];rfl
   have h7:=bnf h6;have h8:=(bt_iff _ _ _).1 h7;refine ⟨VJ,by decide,VJ,VJ,by decide,by simp only [VL];omega,VJ,⟨Bo.isRec4 _ _ _ _ _,Bo.isRec4 _ _ _ _ _,VJ,VJ⟩,⟨⟨⟨rfl,?_,λk hk=>⟨?_,?_⟩⟩,z9 _,z9 _,B2 s,B1 s,P8 s,trivial⟩,rfl,rfl⟩,uB hN h5 ?_⟩
   ·show _=s.nr-1;have e0:Int.toNat 0=0:=rfl;omega
   ·dsimp only
    rw [SE h8.1 s.ra k,SE h8.1 s.rb k,SE h8.1 s.ru k,SE h8.1 s.rv k];exact ⟨(P6 _).2,(P6 _).2,(P6 _).2,(P6 _).2,trivial⟩
   ·intro x hx;simp only [GM,DO,or_false] at hx;rcases hx with rfl|rfl|rfl|rfl<;>exact .x _
   ·unfold stE;rw [h7];rfl
def Qf5:UW
 |[]=>some ([],.mpr (λ_=>[.any1,.any1]) wdO)
 |_=>none
theorem Wt7:VX VO 144 [] (.mpr (λ_=>[.any1,.any1]) wdO):=by
 intro e w args hro hgl FM hr;obtain rfl:=hr.nil_inv;refine (IN w).mono ?_;rintro en w' ⟨rfl,rfl⟩;have hsz:(w.alloc (.map wdE.toArray 8)).heap.size=w.heap.size+1:=VV;refine ⟨_,rfl,(Below.refl _ _).alloc (Am _) _,?_⟩;refine .mpr _ wdO wdV w.heap.size wdE.toArray 8 (show w.heap.size<=w.heap.size/\w.heap.size<(w.alloc (.map wdE.toArray 8)).heap.size by omega) VJ (λs a A=>?_) (World.alloc_heap_new w _) (λs hs=>by simpa using iO hs) (λs hs=>⟨by simpa using Qb1 hs,λa A=>?_⟩) (λs hs=>rfl) (λs k a v hs A I=>?_)
 ·simp only [GM,DO,or_false,or_self] at A;subst A;exact .any1
 ·exact .inr (by simpa using A)
 ·match k,A,I with
  | 0,A,I=>
   simp only [wdV,List.getElem?_cons_zero,HD] at A I;subst A I;exact .any1 _ rfl
  | 1,A,I=>
   simp only [wdV,List.getElem?_cons_succ,List.getElem?_cons_zero,HD] at A I;subst A I;exact .any1 _ rfl
  |k+2,A,I=>simp at A
theorem Wt6:VP VO 144 Qf5:=by
 refine ⟨(UG Tryz.func144),?_⟩;intro avs ns res h Z;unfold Qf5 at h;split at h
 ·cases h;exact Wt7
 ·cases h
theorem Jb8(W:Nat->ByteArray)(n:Nat)(str:ByteArray)(s:HS)(VR:vF str n W)(UE:wdO (W 0)=false):wC VO 106 [.ptr 0 0,.x (.string str)] (X7 s) 901 [[.ptr 0 0,.row 1,.row 2]] 211 (OS s) (OX s) (rsE 4):=by
 refine LG (PX:=[(145,R9),(146,zX)]) (L:=[yQ W n 0 0 s]) (Ae (L9 VR) (Ae Wt6 Aa)) Ad (US.cons RN (US.cons wH (US.nil _))) VY (UG Tryz.func106) Tryz.func106 (UT Tryz.f106) (LD (lpE (b:= .loop MR) VT<|uP W n 0 0 s VR.2.2.2 (PZ VR))) (N:=[]) (t:=need [MH str str {data:=#[32] }] (need [UJ 0 n] (branch (wdO (W (0:Int).toNat)) VM.fail (need [[Q5]=[Q5],H9 (hL s) QU,QB s,QC s] (leaf (false,(4:Int))))))) VT ?_
 have hn1:1<=n:=by have:=VR.2.1;omega
 have h0:wdO (W (Int.toNat 0))=false:=UE;simp only [VM.sat,UB,UH,h0];exact ⟨⟨rfl,rfl⟩,⟨VJ,VJ⟩,(λh=>by cases h),λ_=>⟨DK _ _ _ _ _ _,rfl⟩⟩
abbrev lns(n:Nat)(L:Nat->ByteArray):AV:= .lst 1 n (λk=>[.x (.string (L k))])
def lgB(L:Nat->ByteArray)(mx:Int)(j:Nat):Bool:= !decide (((L j).size:Int)<=mx)
section
variable (n:Nat)(L:Nat->ByteArray)
def shB(mx:Int):Bool:=D5 (λj=>decide (((L j).size:Int)<=mx)) n
def ckE:Int:=if n<=50/\shB n L 200=true then 0 else 3
end
def lK:UW
 |[.x (.int .i64 mx),.x (.string s)]=>some ([],bl (decide ((s.size:Int)<=mx)))
 |_=>none
theorem Qm8(s:ByteArray)(mx:Int):VX VO 65 [i mx,.x (.string s)] (bl (decide ((s.size:Int)<=mx))):=by
 refine GV Tryz.func65 (t:=leaf (RV.x (.bool (decide ((↑(ByteArray.size s):Int)<=mx))))) VT ?_;exact V0
theorem Qm7:VP VO 65 lK:=by
 refine ⟨(UG Tryz.func65),?_⟩;intro avs ns res h Z;unfold lK at h;split at h
 ·cases h;exact Qm8 _ _
 ·cases h
def lM:UW
 |[.x (.string s),.ro [.fn (.func 65) [.x (.int .i64 mx)] []]]=>some ([],bl (!decide ((s.size:Int)<=mx)))
 |_=>none
theorem Qo3(s:ByteArray)(mx:Int):VX VO 110 [.x (.string s),.ro [.fn (.func 65) [i mx] []]] (bl (!decide ((s.size:Int)<=mx))):=by
 refine U1 (L:=[]) (Ae Qm7 Aa) VY Tryz.func110 (UT Tryz.f110) U3 (t:=leaf (RV.x (.bool !decide ((↑(ByteArray.size s):Int)<=mx)))) VT ?_;exact V0
theorem NZ:VP VO 110 lM:=by
 refine ⟨(UG Tryz.func110),?_⟩;intro avs ns res h Z;unfold lM at h;split at h
 ·cases h;exact Qo3 _ _
 ·cases h
abbrev Q8(n:Nat)(L:Nat->ByteArray):AV:=lst 1 n λk=>[HZ (L k)]
abbrev WN(mx:Int):AV:=AV.fn (Fn.func 110) [] [AV.ro [AV.fn (Fn.func 65) [iI mx] []]]
section
variable (n:Nat)(L:Nat->ByteArray)(mx:Int)
def gQ:St:={σ:=[Q8 n L,WN mx]++HH 5 [iI (n:Int)]++HH 11 [],m:=[],nx:=4}
noncomputable def Qh8:Code:=U9 (VS (U7 Tryz.f148) 0)
def NP(k:Nat):St:=(upM [(8,i k)] (gQ n L mx))
def BU(k:Nat):G7->Option St
 | .ret=>some (upM [(4,i (GW ((lgB L mx)) n))] (gQ n L mx))
 | .exit 0=>some (upM [] (gQ n L mx))
 |_=>none
def Qd1:CT:= .branch (decide (GW ((lgB L mx)) n<n)) (.leaf (.ret,(BU n L mx 0 .ret).getD (gQ n L mx))) (.leaf (.exit 0,(BU n L mx 0 (.exit 0)).getD (gQ n L mx)))
def lY:UI:=(HG (NP n L mx (0)) (Qd1 n L mx))
theorem Qs5(VR:n<=100000):G8 VO (.loop Qh8) (lY n L mx):=by
 refine HF (L:=[]) (Ae NZ Aa) VY U3 (X:=Nat) (NP n L mx) (λk=>k<=n/\ ∀j,j<k->(lgB L mx) j=false) (λk=>n-k) (BU n L mx) (x0:=0) ⟨VJ,λj hj=>VJ⟩ ?_ ?_ ?_
 ·rintro k;kernel_rfl
 ·rintro k y E h;unfold BU at h;split at h
  ·cases h;kernel_rfl
  ·cases h;kernel_rfl
  ·cases h
 ·rintro Q hQ k hx;refine ⟨(k+1),?_⟩;(with_reducible refine DH (t:=branch (decide ((k:Int)<(n:Int))) (need [UJ k n] (branch (!decide ((↑(ByteArray.size (L k)):Int)<=mx)) (need [VZ (Q8 n L),WN mx=WN mx,(k:Int)=(↑(GW (lgB L mx) n):Int),VZ (n:Int)] (leaf G7.ret)) (need [VL ((k:Int)+1)] (need [VZ (Q8 n L),WN mx=WN mx,VZ (n:Int),(k:Int)+1=(↑(k+1):Int)] (leaf G7.normal))))) (need [VZ (Q8 n L),WN mx=WN mx,VZ (n:Int)] (leaf (G7.exit 0)))) VT ?_);simp only [Qd1,BU,VM.sat,GT,HA] at hQ;simp only [VM.sat,UB,UH,HA,VL,BU,DZ];have Xg6:k<n->((lgB L mx)) k=true->GW ((lgB L mx)) n=k:=λh hb=>zG h hb hx.2
  have PI: ¬k<n->GW ((lgB L mx)) n=n:=λh=>BV (λj hj=>hx.2 j VJ)
  have hgo:((lgB L mx)) k=false-> ∀j,j<k+1->((lgB L mx)) j=false:=by
   intro hb j hj;rcases (show j<k\/j=k by omega) with h1|rfl
   ·exact hx.2 j h1
   ·exact hb
  refine ⟨λh=>⟨VJ,?_⟩,λh=>?_⟩
  rotate_left
  ·intro E hE;cases hE;exact hQ.2 (by rw [PI VJ];omega)
  have hk:k<n:=VJ;refine ⟨λhb=>?_,λhb=>?_⟩
  ·exact VD
  ·exact ⟨VJ,VJ,⟨VJ,hgo hb⟩,VJ⟩
theorem Xf6(VR:n<=100000):VX VO 148 [lns n L,.fn (.func 110) [] [.ro [.fn (.func 65) [i mx] []]]] (i (if GW ((lgB L mx)) n<n then (GW ((lgB L mx)) n:Int) else -1)):=by
 refine U1 (L:=[lY n L mx]) (Ae NZ Aa) VY Tryz.func148 (UT Tryz.f148) (G0 (lpE (b:= .loop Qh8) VT<|Qs5 n L mx VR)) (t:=need [VZ (Q8 n L),WN mx=WN mx,VZ (n:Int),(0:Int)=(↑(0:Nat):Int)] (branch (decide (GW (lgB L mx) n<n)) (leaf (RV.x (.int .i64 (↑(GW (lgB L mx) n):Int)))) (leaf (RV.x (KI))))) VT ?_
 exact VB
def Zo2:UW:=λl=>some ([l=[lns n L,.fn (.func 110) [] [.ro [.fn (.func 65) [i mx] []]]]],i (if GW (lgB L mx) n<n then (GW (lgB L mx) n:Int) else -1))
theorem Wj6(VR:n<=100000):VP VO 148 (Zo2 n L mx):=by
 refine ⟨(UG Tryz.func148),?_⟩;intro avs ns res h Z;cases h;have e:=Z _ GG;subst e;exact Xf6 n L mx VR
theorem Xh3(VR:n<=100000):VX VO 109 [lns n L,.fn (.func 110) [] [.ro [.fn (.func 65) [i mx] []]]] (bl (!shB n L mx)):=by
 refine U1 (L:=[]) (Ae (Wj6 n L mx VR) Aa) VY Tryz.func109 (UT Tryz.f109) U3 (t:=need [VZ ([Q8 n L,WN mx])] (leaf (RV.x (.bool (decide ((if GW (lgB L mx) n<n then (↑(GW (lgB L mx) n):Int) else (-1:Int))>=(0:Int))))))) VT ?_
 simp only [VM.sat,UB,G4,UD,UH];unfold shB;rw [kB];have:=F2 (lgB L mx) n;have e:(λk=> !(λj=>decide (((L j).size:Int)<=mx)) k)=lgB L mx:=rfl
 rw [e];show decide ((if GW (lgB L mx) n<n then (GW (lgB L mx) n:Int) else -1)>=0)=_
 split<;>simp<;>omega
def Zo4:UW:=λl=>some ([l=[lns n L,.fn (.func 110) [] [.ro [.fn (.func 65) [i mx] []]]]],bl (!shB n L mx))
theorem Wm4(VR:n<=100000):VP VO 109 (Zo4 n L mx):=by
 refine ⟨(UG Tryz.func109),?_⟩;intro avs ns res h Z;cases h;have e:=Z _ GG;subst e;exact Xh3 n L mx VR
theorem Wm9(VR:n<=100000):VX VO 66 [lns n L,.fn (.func 65) [i mx] []] (bl (shB n L mx)):=by
 refine U1 (L:=[]) (Ae (Wm4 n L mx VR) Aa) VY Tryz.func66 (UT Tryz.f66) U3 (t:=need [VZ ([Q8 n L,WN mx])] (leaf (RV.x (.bool !!shB n L mx)))) VT ?_;simp only [VM.sat,UB,G4,UD,UH];show (!!shB n L mx)=_;simp
def Xm1:UW:=λl=>some ([l=[lns n L,.fn (.func 65) [i mx] []]],bl (shB n L mx))
theorem Qo2(VR:n<=100000):VP VO 66 (Xm1 n L mx):=by
 refine ⟨(UG Tryz.func66),?_⟩;intro avs ns res h Z;cases h;have e:=Z _ GG;subst e;exact Wm9 n L mx VR
end
section
variable (n:Nat)(L:Nat->ByteArray)
abbrev YL:List AV:=[Q8 n L,AV.fn (Fn.func 65) [iI 200] []]
theorem NW(VR:n<=100000):VX VO 35 [lns n L] (i (ckE n L)):=by
 refine U1 (L:=[]) (Ae (Qo2 n L 200 VR) Aa) VY Tryz.func35 (UT Tryz.f35) U3 (t:=branch (decide ((n:Int)>50)) (leaf (RV.x (KK))) (need [VZ (YL n L)] (branch (!shB n L (200:Int)) (leaf (RV.x (KK))) (leaf (RV.x (X0)))))) VT ?_;simp only [VM.sat,UB,G4,UD,UH,HA];have hc: ∀b:Bool,shB n L 200=b->ckE n L=if n<=50/\b=true then 0 else 3:=λb h=>by unfold ckE;rw [h]
 cases hs:shB n L 200
 all_goals
  rw [hc _ hs];simp
  try omega
def Ww5:UW:=λl=>some ([l=[lns n L]],i (ckE n L))
theorem PQ(VR:n<=100000):VP VO 35 (Ww5 n L):=by
 refine ⟨(UG Tryz.func35),?_⟩;intro avs ns res h Z;cases h;have e:=Z _ GG;subst e;exact NW n L VR
end
def pZ:UW
 |[.lst 4 n f]=>some ([n<=100000,gdX 4 n f],.lst 4 n f)
 |_=>none
theorem V4{p:Prop}(h:p:=by
 simp only [VM.sat,UB,G4,true_and];refine ⟨λh=>⟨Ak,h⟩,⟨VJ,λk hk x hm=>((UE k hk).2 x hm).2⟩,Ap n,?_⟩
 exact λk hk=>⟨OC f k,λx hm=>((UE k hk).2 x hm).1⟩):p:=h
theorem Xh0(n:Nat)(f:Nat->List AV)(VR:n<=100000)(UE:gdX 4 n f):VX VO 99 [.lst 4 n f] (.lst 4 n f):=by
 refine GA (L:=[]) Aa Ad VY Tryz.func99 (UT Tryz.f99) G5 (t:=VM.may (n=0) (leaf (RV.x (J4))) (need [(0+n)*32<=140737488355328,∀(i:Nat),i<n-> ∀(a:AV),a∈f i->AV.one a=true] (leaf (RV.lst 4 (0+n) (GE 0 (λx=>[]) λa=>f a))))) VT ?_
 exact V4
theorem Qa7:VP VO 99 pZ:=by
 refine ⟨(UG Tryz.func99),?_⟩;intro avs ns res h Z;unfold pZ at h;split at h
 ·cases h;exact Xh0 _ _ (Z _ VV) (Z _ VV)
 ·cases h
def s6:UW
 |[.lst 5 n f]=>some ([n<=100000,gdX 5 n f],.lst 5 n f)
 |_=>none
theorem Xh1(n:Nat)(f:Nat->List AV)(VR:n<=100000)(UE:gdX 5 n f):VX VO 100 [.lst 5 n f] (.lst 5 n f):=by
 refine GA (L:=[]) Aa Ad VY Tryz.func100 (UT Tryz.f100) G5 (t:=VM.may (n=0) (leaf (RV.x (J4))) (need [(0+n)*40<=140737488355328,∀(i:Nat),i<n-> ∀(a:AV),a∈f i->AV.one a=true] (leaf (RV.lst 5 (0+n) (GE 0 (λx=>[]) λa=>f a))))) VT ?_
 exact V4
theorem Qa8:VP VO 100 s6:=by
 refine ⟨(UG Tryz.func100),?_⟩;intro avs ns res h Z;unfold s6 at h;split at h
 ·cases h;exact Xh1 _ _ (Z _ VV) (Z _ VV)
 ·cases h
def pY:UW
 |[.lst 5 n f]=>some ([n<=100000,gdX 5 n f],.lst 5 n f)
 |_=>none
theorem Xg9(n:Nat)(f:Nat->List AV)(VR:n<=100000)(UE:gdX 5 n f):VX VO 101 [.lst 5 n f] (.lst 5 n f):=by
 refine GA (L:=[]) Aa Ad VY Tryz.func101 (UT Tryz.f101) G5 (t:=VM.may (n=0) (leaf (RV.x (J4))) (need [(0+n)*40<=140737488355328,∀(i:Nat),i<n-> ∀(a:AV),a∈f i->AV.one a=true] (leaf (RV.lst 5 (0+n) (GE 0 (λx=>[]) λa=>f a))))) VT ?_
 exact V4
theorem Qa6:VP VO 101 pY:=by
 refine ⟨(UG Tryz.func101),?_⟩;intro avs ns res h Z;unfold pY at h;split at h
 ·cases h;exact Xg9 _ _ (Z _ VV) (Z _ VV)
 ·cases h
def pX:UW
 |[.lst 2 n f]=>some ([n<=100000,gdX 2 n f],.lst 2 n f)
 |_=>none
theorem Xg8(n:Nat)(f:Nat->List AV)(VR:n<=100000)(UE:gdX 2 n f):VX VO 102 [.lst 2 n f] (.lst 2 n f):=by
 refine GA (L:=[]) Aa Ad VY Tryz.func102 (UT Tryz.f102) G5 (t:=VM.may (n=0) (leaf (RV.x (J4))) (need [(0+n)*16<=140737488355328,∀(i:Nat),i<n-> ∀(a:AV),a∈f i->AV.one a=true] (leaf (RV.lst 2 (0+n) (GE 0 (λx=>[]) λa=>f a))))) VT ?_
 exact V4
theorem Qa5:VP VO 102 pX:=by
 refine ⟨(UG Tryz.func102),?_⟩;intro avs ns res h Z;unfold pX at h;split at h
 ·cases h;exact Xg8 _ _ (Z _ VV) (Z _ VV)
 ·cases h
end Go.Proofs.YtakpdkmhclhlnaaGreatDoor.Hd
namespace Go.Proofs.YtakpdkmhclhlnaaGreatDoor.Hd
open Go Go.Sx Go.RowKit
open Go.Sx.VM (need branch leaf)
open Go.Sx.AV (lst ptr agg roI tup top)
def DG(W:Nat->ByteArray)(s:HS):HS:=match wdK (W 0) with
 | 0=>thS s (U0 (W 1)) (U0 (W 2)) (U0 (W 3)) (U0 (W 4))
 | 1=>stS s (U0 (W 1))
 | 2=>baS s (U0 (W 1)) (U0 (W 2))
 | 3=>btS s (U0 (W 1)) (U0 (W 2))
 | 4=>seS s (U0 (W 1)) (U0 (W 2))
 | 5=>isS s (U0 (W 1)) (U0 (W 2)) (U0 (W 3)) (U0 (W 4))
 | 6=>voS s (U0 (W 1))
 | 7=>slS s (U0 (W 1)) (U0 (W 2)) (U0 (W 3)) (U0 (W 4)) (U0 (W 5))
 |_=>s
def RO(W:Nat->ByteArray)(n:Nat)(s:HS):Int:=match wdK (W 0) with
 | 0=>fmE W n 4 (thE s (U0 (W 1)) (U0 (W 2)) (U0 (W 3)) (U0 (W 4)))
 | 1=>fmE W n 1 (stE s (U0 (W 1)))
 | 2=>fmE W n 2 (baE s (U0 (W 1)) (U0 (W 2)))
 | 3=>fmE W n 2 (btE s (U0 (W 1)) (U0 (W 2)))
 | 4=>fmE W n 2 (seE s (U0 (W 1)) (U0 (W 2)))
 | 5=>fmE W n 4 (isE s (U0 (W 1)) (U0 (W 2)) (U0 (W 3)) (U0 (W 4)))
 | 6=>fmE W n 1 (voE s (U0 (W 1)))
 | 7=>fmE W n 5 (slE s (U0 (W 1)) (U0 (W 2)) (U0 (W 3)) (U0 (W 4)) (U0 (W 5)))
 |_=>4
structure fB (s:HS):Prop where
 nr:s.nr<=12
 bV:bV s.nb s.ql s.qh s.qm s.qr s.qv
 nc:s.nc<=10
 sV:sV s.ns s.sa s.sb s.sc s.sl s.sh
abbrev hsM(s:HS):GZ:=[(0,.cells 99 (hsL s)),(1,.row 23 1 s.xn s.xg),(2,.row 9 1 s.yn s.yg)]
theorem Ql5{str:ByteArray}{n:Nat}{W:Nat->ByteArray}{s:HS}(h:vF str n W)(hs:fB s):
  wC VO 106 [.ptr 0 0,.x (.string str)] (hsM s) 901 [[.ptr 0 0,.row 1,.row 2]] 211 (OS (DG W s)) (OX s) (rsE (RO W n s)):=by
 rcases AA (W 0) with ⟨h1,h2⟩|⟨h1,_⟩
 ·have hV: ∀q,wdL[q]? =some (W 0)->U5 (UO q) (λk=>W (k+1))=W:=by
   intro q hq;funext k;cases k with
   |zero=>
    show UO q=W 0;unfold UO;rw [List.getD_eq_getElem?_getD,hq];rfl
   |succ k=>rfl
  unfold DG RO;rcases (show wdK (W 0)=0\/wdK (W 0)=1\/wdK (W 0)=2\/wdK (W 0)=3\/wdK (W 0)=4\/wdK (W 0)=5\/wdK (W 0)=6\/wdK (W 0)=7 by omega) with h3|h3|h3|h3|h3|h3|h3|h3
  all_goals
   rw [h3] at h2 ⊢;have e:=hV _ h2;have h':=h;rw [←e] at h'
  ·have k:=Ql3 (λk=>W (k+1)) n str s h' hs.nr
   rw [e] at k;exact k
  ·have k:=Ql4 (λk=>W (k+1)) n str s h' hs.nr
   rw [e] at k;exact k
  ·have k:=Xe4 (λk=>W (k+1)) n str s h'
   rw [e] at k;exact k
  ·have k:=Xe3 (λk=>W (k+1)) n str s h' hs.bV.1.1
   rw [e] at k;exact k
  ·have k:=Zi5 (λk=>W (k+1)) n str s h' hs.bV
   rw [e] at k;exact k
  ·have k:=Wd6 (λk=>W (k+1)) n str s h' hs.nc
   rw [e] at k;exact k
  ·have k:=Xe1 (λk=>W (k+1)) n str s h' hs.nc
   rw [e] at k;exact k
  ·have k:=Xe2 (λk=>W (k+1)) n str s h' hs.sV
   rw [e] at k;exact k
 ·have h0:wdO (W 0)=false:=by
   unfold wdO;rw [h1];rfl
  have k:=Jb8 W n str s h h0;unfold RO;rw [h1];show wC _ _ _ _ _ _ _ (OS (DG W s)) _ _;have e:DG W s=s:=by
   unfold DG;rw [h1];rfl
  rw [e];exact k
theorem fm0{W:Nat->ByteArray}{n many:Nat}{e:Int}(h:fmE W n many e=0):e=0:=by
 unfold fmE at h;split at h
 ·exact h
 ·exact absurd h (by decide)
theorem Xb8{W:Nat->ByteArray}{n:Nat}{s:HS}(hs:fB s)(h0:RO W n s=0):fB (DG W s):=by
 unfold RO at h0;unfold DG;split at h0
 ·have h:=fm0 h0;unfold thE at h;split at h
  ·split at h
   ·exact ⟨by show s.nr+1<=12;omega,hs.bV,hs.nc,hs.sV⟩
   ·exact absurd h (by decide)
  ·exact absurd h (by decide)
 ·exact ⟨by show s.nr-1<=12;have:=hs.nr;omega,hs.bV,hs.nc,hs.sV⟩
 ·exact ⟨hs.nr,hs.bV,hs.nc,hs.sV⟩
 ·have h:=fm0 h0;unfold btE at h;split at h
  ·rename_i hb;split at h
   ·rename_i h6;have hx:=(bt_iff _ _ _).1 hb.1;refine ⟨hs.nr,⟨⟨by show s.nb+1<=6;omega,λb hb'=>?_⟩,λb hb' j k hjk hk=>?_⟩,hs.nc,hs.sV⟩
    ·have hb':b<s.nb+1:=hb';show (if b<s.nb then s.qm b else 0)<=10/\0<=HE s.nb s.ql _ b/\HE s.nb s.ql _ b<=HE s.nb s.qh _ b/\HE s.nb s.qh _ b<=1000/\ ∀j,j<(if b<s.nb then s.qm b else 0)->0<=s.qr b j/\s.qr b j<=2/\ -1000<=s.qv b j/\s.qv b j<=2000
     unfold HE;by_cases e:b<s.nb
     ·simp only [if_pos e];exact hs.bV.1.2 b e
     ·simp only [if_neg e];exact ⟨VJ,hx.1,hx.2,hb.2,λj hj=>VJ⟩
    ·have hk:k<(if b<s.nb then s.qm b else 0):=hk
     by_cases e:b<s.nb
     ·rw [if_pos e] at hk;exact hs.bV.2 b e j k hjk hk
     ·rw [if_neg e] at hk;omega
   ·exact absurd h (by decide)
  ·exact absurd h (by decide)
 ·have h:=fm0 h0;unfold seE at h;split at h
  ·rename_i g1;split at h
   ·rename_i g2;split at h
    ·rename_i g3;split at h
     ·rename_i g4;exact ⟨hs.nr,Zz1 hs.bV g1 g2 g3 g4,hs.nc,hs.sV⟩
     ·exact absurd h (by decide)
    ·exact absurd h (by decide)
   ·exact absurd h (by decide)
  ·exact absurd h (by decide)
 ·have h:=fm0 h0;unfold isE at h;split at h
  ·split at h
   ·exact ⟨hs.nr,hs.bV,by show s.nc+1<=10;omega,hs.sV⟩
   ·exact absurd h (by decide)
  ·exact absurd h (by decide)
 ·exact ⟨hs.nr,hs.bV,hs.nc,hs.sV⟩
 ·have h:=fm0 h0;unfold slE at h;split at h
  ·rename_i g1;split at h
   ·rename_i g2;exact ⟨hs.nr,hs.bV,hs.nc,slV g1 (by simp;omega) hs.sV⟩
   ·exact absurd h (by decide)
  ·exact absurd h (by decide)
 ·exact absurd h0 (by decide)
def LM(e:UK)(q r t:Nat)(x:Nat):Option Nat:=if x=e.blk q then some q else if (e.val r).ownBlock=some x then some r else if (e.val t).ownBlock=some x then some t else none
theorem Qa1(s:HS): ∀a∈hsL s,Idf a:=by
 intro a A;simp only [GM,DO,or_false] at A;rcases A with rfl|rfl|rfl|rfl|rfl|rfl
 ·exact .lst _ _ _ λk _ x hx=>by
   simp only [GM,DO,or_false] at hx;rcases hx with rfl|rfl|rfl|rfl<;>exact .x _
 ·exact .x _
 ·exact .x _
 ·exact Qa2 _ _ _ _ _ _
 ·exact VI
 ·exact VI
theorem Zi7{str:ByteArray}{s s':HS}{er:Int}(hE:wC VO 106 [.ptr 0 0,.x (.string str)] (hsM s) 901 [[.ptr 0 0,.row 1,.row 2]] 211 (OS s') (OX s) (rsE er))(hx:s'.xn=s.xn/\s'.xg=s.xg/\s'.yn=s.yn/\s'.yg=s.yg)
  {e:UK}{w0 w:World}{T:Nat->Prop}{q r t:Nat}(hEv:UY e w0.heap.size w)(hB:Below w0.heap.size w0 w)(hT: ∀b,T b->b<w0.heap.size/\ ¬e.ro b)
  (hq:GH e w q (.cells 99 (hsL s)))(hr:GH e w r (.row 23 1 s.xn s.xg))(ht:GH e w t (.row 9 1 s.yn s.yg))(hqr:q≠r)(hqt:q≠t)(hrt:r≠t)(hrv: ∃a b c,e.val r= .slice a b c)(htv: ∃a b c,e.val t= .slice a b c):
  Calls Tryz.prog 106 #[.pointer (some ⟨e.blk q,0,none⟩),.string str] w λen w1=>en=Xi4 211 (rsE er)/\Below w0.heap.size w0 w1/\w.heap.size<=w1.heap.size/\
   (∀x,(e.ro x\/(w0.heap.size<=x/\x<w.heap.size/\e.own x≠some q/\e.own x≠some r/\e.own x≠some t))->w1.heap[x]? =w.heap[x]?)/\
   ∃ro1:Nat->Prop,(∀x,e.ro x->ro1 x)/\(∀x,T x-> ¬ro1 x)/\UY {e with ro:=ro1,own:=LM e q r t} w0.heap.size w1/\
    GH {e with ro:=ro1,own:=LM e q r t} w1 q (.cells 99 (cond (rsE er).1 (hsL s') [.top,.top,.top,.top,.top,.top]))/\
    GH {e with ro:=ro1,own:=LM e q r t} w1 r (.row 23 1 s.xn s.xg)/\GH {e with ro:=ro1,own:=LM e q r t} w1 t (.row 9 1 s.yn s.yg):=by
 let e0:UK:={ro:=λx=>e.ro x\/(w0.heap.size<=x/\x<w.heap.size/\e.own x≠some q/\e.own x≠some r/\e.own x≠some t),own:=λx=>if e.own x=some q then some 0 else if e.own x=some r then some 1 else if e.own x=some t then some 2 else none,live:=λk=>k<901,blk:=λ_=>e.blk q,val:=λk=>if k=1 then e.val r else e.val t}
 obtain ⟨ql,qo,vs,qh,qv⟩:=hq;obtain ⟨rl,ro,rf,rxs,rh,rv⟩:=hr;obtain ⟨tl,to,tf,txs,th,tv⟩:=ht;have oq: ∀{x},e.own x=some q->e0.own x=some 0:=λh=>if_pos h
 have or_: ∀{x},e.own x=some r->e0.own x=some 1:=λh=>by simp [e0,h,hqr.symm]
 have ot: ∀{x},e.own x=some t->e0.own x=some 2:=λh=>by simp [e0,h,hqt.symm,hrt.symm]
 have hE0:UY e0 w0.heap.size w:=by
  refine ⟨λx hx=>?_,λx k hk=>?_,λg p hp=>⟨.inl (hEv.glob g p hp).1,(hEv.glob g p hp).2⟩⟩
  ·rcases hx with hx|⟨_,h2,h3,h4,h5⟩
   ·obtain ⟨h1,h2⟩:=hEv.apart x hx;exact ⟨by simp [e0,h1],h2⟩
   ·exact ⟨by simp [e0,h3,h4,h5],h2⟩
  ·have hk:(if e.own x=some q then some 0 else if e.own x=some r then some 1 else if e.own x=some t then some 2 else none)=some k:=hk
   split at hk
   ·rename_i h;exact hEv.owned x _ h
   split at hk
   ·rename_i h;exact hEv.owned x _ h
   split at hk
   ·rename_i h;exact hEv.owned x _ h
   ·cases hk
 have sub0: ∀b,e.ro b->e0.ro b:=λb h=> .inl h
 have idfL:=Qa1 s;have hM:UU e0 (hsM s) w:=by
  intro p hp;simp only [GM,DO,or_false] at hp;rcases hp with rfl|rfl|rfl
  ·exact ⟨show 0<901 by omega,oq qo,vs,qh,⟨qv.1,λi a v A I=>Rep.idf sub0 (qv.2 i a v A I) (idfL a (F0 A))⟩⟩
  ·exact ⟨show 1<901 by omega,λb hb=>or_ (ro b hb),rf,rxs,rh,λi j a v O A I=>Rep.idf sub0 (rv i j a v O A I) ((rf i O).2 a (F0 A))⟩
  ·exact ⟨show 2<901 by omega,λb hb=>ot (to b hb),tf,txs,th,λi j a v O A I=>Rep.idf sub0 (tv i j a v O A I) ((tf i O).2 a (F0 A))⟩
 let c0:Cx:={M:=λ_=>False,Φ:=λ_ _ _=>True,K:=λx o=>e0.ro x/\w.heap[x]? =some o,saved:=[[.pointer (some ⟨e.blk q,0,none⟩),e.val r,e.val t]],sz:=w.heap.size}
 have hS:U2 e0 w [.ptr 0 0,.row 1,.row 2] [.pointer (some ⟨e.blk q,0,none⟩),e.val r,e.val t]:=by
  obtain ⟨a1,b1,d1,h1⟩:=hrv;obtain ⟨a2,b2,d2,h2⟩:=htv;refine .cons (.ptr 0 0 (show 0<901 by omega)) (.cons ?_ (.cons ?_ (.nil _ _)))
  ·rw [h1];exact .row 1 _ _ _ (show 1<901 by omega) h1
  ·rw [h2];exact .row 2 _ _ _ (show 2<901 by omega) h2
 have hX:Xt c0 e0 [[.ptr 0 0,.row 1,.row 2]] [] w:=
  ⟨⟨λd hd=>(by cases hd),List.nodup_nil⟩,λx o hk=>⟨hk.1,(hE0.apart x hk.1).2,hk.2⟩,L6.cons hS ⟨rfl,λi a v h=>by simp at h⟩,Am _⟩
 have hT0: ∀b,T b->b<w0.heap.size/\ ¬e0.ro b:=λb hb=>⟨(hT b hb).1,λh=>by
  rcases h with h|⟨h,_⟩
  ·exact (hT b hb).2 h
  ·have:=(hT b hb).1;omega⟩
 have hA:U2 e0 w [.ptr 0 0,.x (.string str)] [.pointer (some ⟨e.blk q,0,none⟩),.string str]:= .cons (.ptr 0 0 (show 0<901 by omega)) (.cons (.x _) (.nil _ _))
 refine (hE c0 w0 T e0 [] _ w hE0 hB hM (λk hk=>hk) hT0 hX hA).mono ?_
 rintro en w1 ⟨hen,e1,g1,g2,g3,g4,g5,g6⟩;have NV: ∀x,e0.ro x->e1.ro x/\w1.heap[x]? =w.heap[x]? :=by
  intro x hx;have hlt:=(hE0.apart x hx).2;have hk:=g6.kept x w.heap[x] ⟨hx,by simp [hlt]⟩
  exact ⟨hk.1,by rw [hk.2.2];simp [hlt]⟩
 have hsv:(cond (rsE er).1 (OS s') (OX s)).sv=[[.ptr 0 0,.row 1,.row 2]]:=by
  cases (rsE er).1<;>rfl
 have hsd:=g6.saved;rw [hsv] at hsd;have hs1:=hsd.2 0 _ _ rfl rfl;obtain ⟨v0,l0,q0,r0,hs1⟩:=hs1.cons_inv;obtain ⟨rfl,rfl⟩:=List.cons.inj q0;obtain ⟨v1,l1,q1,r1,hs1⟩:=hs1.cons_inv;obtain ⟨rfl,rfl⟩:=List.cons.inj q1;obtain ⟨v2,l2,q2,r2,_⟩:=hs1.cons_inv;obtain ⟨rfl,rfl⟩:=List.cons.inj q2;have b0:e1.blk 0=e.blk q:=by
  generalize I:Value.pointer (some ⟨e.blk q,0,none⟩)=v at r0;cases r0;injection I with I
  injection I with I
  injection I with I _
  exact I.symm
 have u1:e1.val 1=e.val r:=by
  generalize I:e.val r=v at r1;cases r1;assumption
 have u2:e1.val 2=e.val t:=by
  generalize I:e.val t=v at r2;cases r2;assumption
 have m0:GH e1 w1 0 (.cells 99 (cond (rsE er).1 (hsL s') [.top,.top,.top,.top,.top,.top])):=by
  cases hb:(rsE er).1
  ·rw [hb] at g3;exact g3 (0,.cells 99 [.top,.top,.top,.top,.top,.top]) (by simp [OX])
  ·rw [hb] at g3;exact g3 (0,.cells 99 (hsL s')) (by simp [OS])
 have m1:GH e1 w1 1 (.row 23 1 s.xn s.xg):=by
  cases hb:(rsE er).1
  ·rw [hb] at g3;exact g3 (1,.row 23 1 s.xn s.xg) (by simp [OX])
  ·rw [hb] at g3;have:=g3 (1,.row 23 1 s'.xn s'.xg) (by simp [OS]);rw [hx.1,hx.2.1] at this;exact this
 have m2:GH e1 w1 2 (.row 9 1 s.yn s.yg):=by
  cases hb:(rsE er).1
  ·rw [hb] at g3;exact g3 (2,.row 9 1 s.yn s.yg) (by simp [OX])
  ·rw [hb] at g3;have:=g3 (2,.row 9 1 s'.yn s'.yg) (by simp [OS]);rw [hx.2.2.1,hx.2.2.2] at this;exact this
 have hsz:w.heap.size<=w1.heap.size:=g6.size;obtain ⟨_,n0,vs1,k0,k1⟩:=m0;obtain ⟨_,n1,f1,xs1,p1,p2⟩:=m1;obtain ⟨_,n2,f2,xs2,y1,y2⟩:=m2;rw [b0] at n0 k0;rw [u1] at n1 p1;rw [u2] at n2 y1;have idfC: ∀a∈(cond (rsE er).1 (hsL s') [.top,.top,.top,.top,.top,.top]),Idf a:=by
  cases (rsE er).1
  ·intro a A;simp only [cond_false,GM,DO,or_false,or_self] at A;subst A;exact .top
  ·exact Qa1 s'
 have oq1:LM e q r t (e.blk q)=some q:=if_pos rfl;have or1: ∀b,(e.val r).ownBlock=some b->LM e q r t b=some r:=by
  intro b hb;have:b≠e.blk q:=by
   rintro rfl;have:=n1 _ hb;rw [n0] at this;cases this
  unfold LM;rw [if_neg this,if_pos hb]
 have ot1: ∀b,(e.val t).ownBlock=some b->LM e q r t b=some t:=by
  intro b hb;have h1:b≠e.blk q:=by
   rintro rfl;have:=n2 _ hb;rw [n0] at this;cases this
  have h2:(e.val r).ownBlock≠some b:=by
   intro h;have h3:=n1 _ h;rw [n2 _ hb] at h3;cases h3
  unfold LM;rw [if_neg h1,if_neg h2,if_pos hb]
 have cv: ∀{a:AV} {v:Value},Rep e1 w1 a v->Idf a->Rep {e with ro:=e1.ro,own:=LM e q r t} w1 a v:=λh k=>Rep.idf (e:=e1) (e':={e with ro:=e1.ro,own:=LM e q r t}) (λ_ h=>h) h k
 refine ⟨hen,g2,hsz,λx hx=>(NV x hx).2,e1.ro,λx hx=>(NV x (sub0 x hx)).1,λx hx=>(g5 x hx).2,⟨λx hx=>⟨?_,(g1.apart x hx).2⟩,λx k hk=>?_,λg p hp=>g1.glob g p hp⟩,⟨ql,oq1,vs1,k0,⟨k1.1,λi a v A I=>cv (k1.2 i a v A I) (idfC a (F0 A))⟩⟩,⟨rl,or1,f1,xs1,p1,λi j a v O A I=>cv (p2 i j a v O A I) ((f1 i O).2 a (F0 A))⟩,⟨tl,ot1,f2,xs2,y1,λi j a v O A I=>cv (y2 i j a v O A I) ((f2 i O).2 a (F0 A))⟩⟩
 ·have h0:=(g1.apart x hx).1;have c1:x≠e.blk q:=by
   rintro rfl;rw [n0] at h0;cases h0
  have c2:(e.val r).ownBlock≠some x:=λh=>by
   rw [n1 _ h] at h0;cases h0
  have c3:(e.val t).ownBlock≠some x:=λh=>by
   rw [n2 _ h] at h0;cases h0
  show LM e q r t x=none;unfold LM;rw [if_neg c1,if_neg c2,if_neg c3]
 ·have up: ∀{x j},e.own x=some j->w0.heap.size<=x/\x<w1.heap.size:=λh=>⟨(hEv.owned _ _ h).1,xM (hEv.owned _ _ h).2 hsz⟩
  have hk:LM e q r t x=some k:=hk;unfold LM at hk;split at hk
  ·rename_i h;rw [h];exact up qo
  split at hk
  ·rename_i h;exact up (ro _ h)
  split at hk
  ·rename_i h;exact up (to _ h)
  ·cases hk
end Go.Proofs.YtakpdkmhclhlnaaGreatDoor.Hd
