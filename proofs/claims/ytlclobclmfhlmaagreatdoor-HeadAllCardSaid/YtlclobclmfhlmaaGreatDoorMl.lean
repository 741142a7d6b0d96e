/- Contracts, put together. Conditions: those of each. -/
import Derived.Test.YtlclobclmfhlmaaGreatDoorMk
import Derived.Shelf.Spec.SlicesGrow
set_option linter.unusedSimpArgs false
set_option linter.unusedVariables false
set_option maxRecDepth 100000
namespace Go.Proofs.YtlclobclmfhlmaaGreatDoor.Hd
open Go Go.Shelf
def eI:Go.Shelf.Ren:=⟨λ| 4=>219|n=>n,λ| 22=>25| 25=>72|n=>n,λn=>n⟩
theorem Qa2:Go.Proofs.Lays8.n4 Tryz.prog eI:=by
 constructor
 case f4=>exact ⟨Tryz.f219.name,(of_decide_eq_true (by kernel_rfl)),Tryz.func219.trans (congrArg some (by kernel_rfl))⟩
 all_goals first|(intro _;kernel_rfl)|kernel_rfl
open Go Go.Shelf Go.Sx Go.RowKit
theorem Zi2: ∃i0 z,Tryz.prog.info? 72=some i0/\i0.zero=some z/\i0.size=4/\i0.bytes=32/\z.cells.size=4:=by
 have h:((Tryz.prog.info? 72).bind λi=>i.zero.map λz=>(i.size,i.bytes,z.cells.size))=some (4,32,4):=VS
 cases hi:Tryz.prog.info? 72 with
 |none=>rw [hi] at h;cases h
 |some i0=>
  rw [hi] at h;cases hz:i0.zero with
  |none=>
   have h:(i0.zero.map λz=>(i0.size,i0.bytes,z.cells.size))=some (4,32,4):=h
   rw [hz] at h;cases h
  |some z=>
   have h:(i0.zero.map λz=>(i0.size,i0.bytes,z.cells.size))=some (4,32,4):=h
   rw [hz] at h;simp only [Option.map_some,HC,FA] at h;exact ⟨i0,z,rfl,hz,h.1,h.2.1,h.2.2⟩
theorem pG(k:Nat)(hk:k<=100000)(w:World):Calls Tryz.prog 219 #[.slice none 0 0,.int .i64 k] w λen w'=> ∃v,en= .returned v/\Below w.heap.size w w'/\w'.ownsRow 0 72 4 v 0 []/\ ∀b,v.ownBlock=some b->w.heap.size<=b/\b<w'.heap.size:=by
 rcases Nat.eq_zero_or_pos k with rfl|h0
 ·refine Calls.mono (Any8.slices_Grow_room Qa2 none 0 0 0 w VI VI VI VI) ?_;rintro en w' ⟨rfl,rfl⟩;exact ⟨_,rfl,Below.refl _ _,⟨rfl,.inl ⟨rfl,rfl⟩⟩,λb h=>by cases h⟩
 ·obtain ⟨i0,z,e0,e1,e2,e3,e4⟩:=Zi2;refine Calls.mono (Any8.slices_Grow_grow Qa2 i0 z e0 e1 VI none 0 0 k [] w VI VI (by rw [e3];omega) VI VU (λ_=>rfl) (λa h=>by cases h)) ?_
  rintro en w' ⟨rfl,rfl⟩;have g1:k<=grownCap w (0+k) 0 72:=by have:=grownCap_ge w (0+k) 0 72;omega
  refine ⟨_,rfl,((Below.refl _ _).drew).alloc (Nat.le_refl _) _,⟨rfl,.inr ⟨w.heap.size,grownCap w (0+k) 0 72,#[]++Builtin.zeroCells z.cells (0+k-0)++Builtin.zeroCells z.cells (grownCap w (0+k) 0 72-(0+k)),rfl,Nat.zero_le _,?_,Nat.zero_le _,grownCap_le_maxLen w (0+k) 0 72 (by unfold maxLen;omega),?_,VU⟩⟩,?_⟩
  ·show (w.drew.heap.push _)[w.heap.size]? =_;exact Array.getElem?_push_size ..
  ·rw [Nat.zero_add] at g1 ⊢;simp [Builtin.zeroCells,e4];omega
  ·intro b h;cases h;exact ⟨Nat.le_refl _,by show w.heap.size<(w.drew.heap.push _).size;rw [Array.size_push];exact Nat.lt_succ_self _⟩
def aX:BG:=λl=>match l with
 |[.x (.slice none 0 0),.x (.int .i64 k)]=>some ([0<=k/\k<=100000],72,4,0,λ_=>[])
 |_=>none
theorem Wn9:Sx.Enters Tryz.prog 219/\ ∀avs ns T sz n g,aX avs=some (ns,T,sz,n,g)->(∀q∈ns,q)->DI VN 219 avs T sz n g:=by
 refine ⟨(UF Tryz.func219),?_⟩;intro avs ns T sz n g h hn;unfold aX at h;split at h
 ·rename_i k;cases h;obtain ⟨h1,h2⟩:0<=k/\k<=100000:=hn _ GD;intro e w args q1 q2 q3 q4;obtain ⟨u,us,rfl,r1,q5⟩:=q4.cons_inv;obtain ⟨u',us',rfl,r2,q6⟩:=q5.cons_inv;obtain rfl:=q6.nil_inv;cases r1;cases r2;obtain ⟨k',rfl⟩:=Int.eq_ofNat_of_zero_le h1;refine (pG k' VI w).mono ?_;rintro en w' ⟨v,rfl,g1,g2,g3⟩;exact ⟨v,[],rfl,g1,g2,g3,λi hi=>VI,λi j a u hi=>VI⟩
 ·cases h
theorem Wn8:G9 VN 219 (Wn5 aX):=AR Wn9
end Go.Proofs.YtlclobclmfhlmaaGreatDoor.Hd
namespace Go.Proofs.YtlclobclmfhlmaaGreatDoor.Hd
open Go Go.Sx Go.RowKit Bo
open Go.Sx.VL (need branch leaf)
open Go.Sx.AV (lst ptr agg roI tup top)
theorem mW{S:Code->UH->Prop}{c:Code}{s0 s1:UH}(h0: ∀cj,VQ c 0=some cj->S cj s0)(h1: ∀cj,VQ c 1=some cj->S cj s1):
  ∀j cj,VQ c j=some cj-> ∀sp,[s0,s1][j]? =some sp->S cj sp:=by
 intro j cj hj sp hsp
 match j with
 | 0=>simp at hsp;subst hsp;exact h0 cj hj
 | 1=>simp at hsp;subst hsp;exact h1 cj hj
 |j+2=>simp at hsp
def ctI(p:Nat)(a b:Nat->Int)(k:Nat):Int:=if k<p then a k else b (k-p)
def A9:UV
 |[.lst 1 n F]=>match F 0,F 1 with
  |[.lst 4 p f],[.lst 4 q g]=>some ([n=2,UD 4 p f,UD 4 q g,p<=10000,q<=10000],.lst 4 (p+q) (λk=>[i (ctI p (col 0 f) (col 0 g) k),i (ctI p (col 1 f) (col 1 g) k),i (ctI p (col 2 f) (col 2 g) k),i (ctI p (col 3 f) (col 3 g) k)]))
  |_,_=>none
 |_=>none
theorem Wn7(p:Nat)(a b u v:Nat->Int)(q:Nat)(a1 b1 u1 v1:Nat->Int)(VR:p<=10000)(UE:q<=10000):VW VN 185 [.lst 1 2 (U4 1 [rds p a b u v,rds q a1 b1 u1 v1])] (.lst 4 (p+q) (λk=>[i (ctI p a a1 k),i (ctI p b b1 k),i (ctI p u u1 k),i (ctI p v v1 k)])):=by
 refine GA (X:={R:=[],H:=[(219,(Wn5 aX))] }) (L:=[(λs=>some (xS Tryz.prog [] [] (U8 (VQ (U6 Tryz.f185) 0)) 3 s)),(λs=>some (xS Tryz.prog [] [] (U8 (VQ (U6 Tryz.f185) 1)) 3 s))]) (VJ.nil _) (VV.of (VP.nil _) (VM.cons Wn8 (VM.nil _))) VY Tryz.func185 (US Tryz.f185) (mW (lpE (b:= .loop (U8 (VQ (U6 Tryz.f185) 0))) VS<|(L6 (VJ.nil _) VY U2 _).N) (lpE (b:= .loop (U8 (VQ (U6 Tryz.f185) 1))) VS<|(L6 (VJ.nil _) VY U2 _).N)) (t:=let z1:=(need [(0:Int)<=0+1+1/\(0:Int)+1+1<(↑(2:Nat):Int)] VL.fail);let z2:=(GG 0 (λx=>[]) (rq4 a b u v));let z0:=(branch (decide ((0:Int)<(↑(2:Nat):Int))) (need [UI 0 2] (need [(0+p)*32<=140737488355328,∀(i:Nat),i<p-> ∀(a_2:AV),a_2∈[Bo.i (a i),Bo.i (b i),Bo.i (u i),Bo.i (v i)]->AV.one a_2=true] (need [VK ((0:Int)+1)] (branch (decide ((0:Int)+1<(↑(2:Nat):Int))) (need [(0:Int)<=0+1/\(0:Int)+1<(↑(2:Nat):Int)] (need [(0+p+q)*32<=140737488355328,∀(i:Nat),i<q-> ∀(a:AV),a∈[Bo.i (a1 i),Bo.i (b1 i),Bo.i (u1 i),Bo.i (v1 i)]->AV.one a=true] (need [VK ((0:Int)+1+1)] (branch (decide ((0:Int)+1+1<(↑(2:Nat):Int))) z1 (leaf (RV.lst 4 (0+p+q) (GG (0+p) z2 (rq4 a1 b1 u1 v1)))))))) (leaf (RV.lst 4 (0+p) z2)))))) (leaf (RV.lst 4 0 λx=>[])));(branch (decide ((0:Int)<(↑(2:Nat):Int))) (need [UI 0 2] (need [VK ((0:Int)+(p:Int))] (branch (decide ((0:Int)+(p:Int)<0)) VL.fail (need [VK ((0:Int)+1)] (branch (decide ((0:Int)+1<(↑(2:Nat):Int))) (need [(0:Int)<=0+1/\(0:Int)+1<(↑(2:Nat):Int)] (need [VK ((0:Int)+(p:Int)+(q:Int))] (branch (decide ((0:Int)+(p:Int)+(q:Int)<0)) VL.fail (need [VK ((0:Int)+1+1)] (branch (decide ((0:Int)+1+1<(↑(2:Nat):Int))) z1 (need [(0:Int)<=0+(p:Int)+(q:Int)/\(0:Int)+(p:Int)+(q:Int)<=100000] z0)))))) (need [(0:Int)<=0+(p:Int)/\(0:Int)+(p:Int)<=100000] z0)))))) (need [(0:Int)<=0/\(0:Int)<=100000] z0))) VS ?_
 have hX: ∀(k:Nat),k<p+q->GG (0+p) (GG 0 (λ_=>[]) λk=>[i (a k),i (b k),i (u k),i (v k)]) (λk=>[i (a1 k),i (b1 k),i (u1 k),i (v1 k)]) k=[i (ctI p a a1 k),i (ctI p b b1 k),i (ctI p u u1 k),i (ctI p v v1 k)]/\ ∀x∈[i (ctI p a a1 k),i (ctI p b b1 k),i (ctI p u u1 k),i (ctI p v v1 k)],isX x:=by
  intro k hk;refine ⟨?_,λx hx=>?_⟩
  ·show H6 (decide (k<0+p)) (GG 0 (λ_=>[]) (λk=>[i (a k),i (b k),i (u k),i (v k)]) k) [i (a1 (k-(0+p))),i (b1 (k-(0+p))),i (u1 (k-(0+p))),i (v1 (k-(0+p)))]=_
   rw [lC,Nat.zero_add];unfold ctI;by_cases h:k<p
   ·rw [decide_eq_true h];simp only [if_pos h];rfl
   ·rw [decide_eq_false h];simp only [if_neg h];rfl
  ·simp only [GK,DQ,or_false] at hx;rcases hx with rfl|rfl|rfl|rfl<;>exact True.intro
 have hA: ∀(a b u v:Nat->Int) (n k:Nat),k<n-> ∀(x:AV),x∈[i (a k),i (b k),i (u k),i (v k)]->x.one=true:=by
  intro a b u v n k hk x hx;simp only [GK,DQ,or_false] at hx;rcases hx with rfl|rfl|rfl|rfl<;>simp [AV.one,Value.oneCell']
 simp only [VL.sat,UA,UZ,GI,UC,true_and,H9,VK]
 (repeat' first|exact hA _ _ _ _ _|exact hX|with_reducible apply And.intro|with_reducible intro _)
 all_goals omega
theorem Wn6:VO VN 185 A9:=by
 refine ⟨(UF Tryz.func185),?_⟩;intro avs ns res h hn;unfold A9 at h;split at h
 ·rename_i n F;split at h
  ·rename_i p f q g h0 h1;cases h;obtain rfl:n=2:=hn _ VU;have r0:UD 4 p f:=hn (UD 4 p f) VU;have r1:UD 4 q g:=hn (UD 4 q g) VU;have hp:p<=10000:=hn (p<=10000) VU;have hq:q<=10000:=hn (q<=10000) VU;refine (Wn7 p (col 0 f) (col 1 f) (col 2 f) (col 3 f) q (col 0 g) (col 1 g) (col 2 g) (col 3 g) hp hq).same (.cons (.deep 1 2 F _ (λk hk=>?_) (λk j a b hk ha hb=>?_)) .nil)
   ·rcases (show k=0\/k=1 by omega) with rfl|rfl
    ·rw [h0];rfl
    ·rw [h1];rfl
   ·rcases (show k=0\/k=1 by omega) with rfl|rfl
    ·rw [h0] at ha;have hb:[rds p (col 0 f) (col 1 f) (col 2 f) (col 3 f)][j]? =some b:=hb;cases j with
     |zero=>
      cases ha;cases hb;exact .lst 4 p f _ r0
     |succ j=>simp at ha
    ·rw [h1] at ha;have hb:[rds q (col 0 g) (col 1 g) (col 2 g) (col 3 g)][j]? =some b:=hb;cases j with
     |zero=>
      cases ha;cases hb;exact .lst 4 q g _ r1
     |succ j=>simp at ha
  ·cases h
 ·cases h
def skF(x0:Int)(a:Nat->Int)(k:Nat):Int:=if k<x0.toNat then a k else a (k+1)
def stS(s:HS)(x0:Int):HS:={s with nr:=s.nr-1,ra:=skF x0 s.ra,rb:=skF x0 s.rb,ru:=skF x0 s.ru,rv:=skF x0 s.rv}
def stE(s:HS)(x0:Int):Int:=if bt 0 x0 ((s.nr:Int)-1)=true then 0 else 7
theorem SL{x:Int}(h:0<=x)(a:Nat->Int)(k:Nat):ctI (x.toNat-Int.toNat 0) (λi=>a (Int.toNat 0+i)) (λi=>a ((x+1).toNat+i)) k=skF x a k:=by
 unfold ctI skF;by_cases h':k<x.toNat
 ·rw [if_pos (show k<x.toNat-Int.toNat 0 by simpa using h'),if_pos h']
  exact congrArg a VU
 ·rw [if_neg (show ¬k<x.toNat-Int.toNat 0 by simpa using h'),if_neg h']
  exact congrArg a (by simp;omega)
noncomputable abbrev S9(s:HS):DV:=rN Tryz.prog [(185,A9),(37,RL)] {} [(114,FZ)] [] Tryz.f147 (U6 Tryz.f147)
theorem eX(s:HS):D2 VN 147 (S9 s):=
 FP (G:=[(185,A9),(37,RL)]) (X:=WE) (PX:=[(114,FZ)]) (L:=[]) (VJ.cons Wn6 (VJ.cons PQ (VJ.nil _))) (VV.of (VP.nil _) (VM.nil _)) (UR.cons RN (UR.nil _)) VY (UF Tryz.func147) Tryz.func147 (US Tryz.f147) (λj cj _ sp hsp=>by simp at hsp)
theorem Qm0(V:Nat->ByteArray)(n:Nat)(str:ByteArray)(s:HS)(VR:vF str n (U3 (UN 1) V))(UE:s.nr<=12):wE VN 90 [.ptr 0 0,.x (.string str)] (X7 s) 901 [[.ptr 0 0,.row 1,.row 2]] 182 (OS (stS s (VZ (V 0)))) (OX s) (rsE (fmE (U3 (UN 1) V) n 1 (stE s (VZ (V 0))))):=by
 refine LE (PX:=[(114,FZ),(115,zZ),(147,(S9 s))]) (L:=[yQ (U3 (UN 1) V) n 1 147 s]) (VJ.cons (L7 VR) (VJ.cons wC (VJ.nil _))) (VV.of (VP.nil _) (VM.nil _)) (UR.cons RN (UR.cons wJ (UR.cons (eX s) (UR.nil _)))) VY (UF Tryz.func90) Tryz.func90 (US Tryz.f90) (LA (lpE (b:= .loop MY) VS<|uP (U3 (UN 1) V) n 1 147 s VR.2.2.2 (B0 VR))) (N:=[]) (t:=let z0:=(VZ (U3 (UN 1) V 1));let z1:=(U3 (UN 1) V (0:Int).toNat);let z2:=(need [[Q5]=[Q5],H5 (hL s) QU,QB s,QC s] (leaf (false,(4:Int))));(need [MQ str str {data:=#[32] }] (need [UI 0 n] (branch (wdO z1) (need [VK (wdM (wdK z1)+1)] (branch (!(n:Int)==wdM (wdK z1)+1) z2 (need [(0:Int)<=1/\(1:Int)<=(n:Int)/\(n:Int)<=(n:Int)] (need [QO,VX (lst 1 n λk=>[FM (U3 (UN 1) V k)]),ZQ,WI,(lst 1 (n-(1:Int).toNat) λi=>[AV.x (.string (U3 (UN 1) V ((1:Int).toNat+i)))])=lst 1 (n-1) λj=>[FM (U3 (UN 1) V (1+j))],(↑(n-(1:Int).toNat):Int)=(↑(n-1):Int),(0:Int)=(↑(0:Nat):Int),0=0,∀(i:Nat),i<0->[]=[iI (VZ (U3 (UN 1) V (1+i)))],wdM (wdK z1)=1,VX (AV.fn (Fn.func 147) [] []),XH s,JQ s,JR s,XW s,XN s,XO s,KL s,∀(i:Nat),i<s.xn->s.xg i=s.xg i,KM s,∀(i:Nat),i<s.yn->s.yg i=s.yg i,QO,JW,JX] (branch (nuB (U3 (UN 1) V) n) (need [UI 0 (↑(n-1):Int)] (need [(0:Int).toNat<n-1] (need [VK ((↑s.nr:Int)-1)] (branch (!bt (0:Int) z0 ((↑s.nr:Int)-1)) (need [[Q5]=[Q5],H5 (hL s) QU,QB s,QC s] (leaf (false,(7:Int)))) (need [UI 0 (↑(n-1):Int)] (need [(0:Int).toNat<n-1] (need [(0:Int)<=0/\(0:Int)<=VZ (U3 (UN 1) V 1)/\VZ (U3 (UN 1) V 1)<=(↑s.nr:Int)] (need [UI 0 (↑(n-1):Int)] (need [(0:Int).toNat<n-1] (need [VK (VZ (U3 (UN 1) V 1)+1)] (need [(0:Int)<=VZ (U3 (UN 1) V 1)+1/\VZ (U3 (UN 1) V 1)+1<=(↑s.nr:Int)/\(↑s.nr:Int)<=(↑s.nr:Int)] (need [2=2,UD 4 (Int.toNat z0-(0:Int).toNat) λi=>[Bo.i (s.ra ((0:Int).toNat+i)),Bo.i (s.rb ((0:Int).toNat+i)),Bo.i (s.ru ((0:Int).toNat+i)),Bo.i (s.rv ((0:Int).toNat+i))],UD 4 (s.nr-(VZ (U3 (UN 1) V 1)+1).toNat) λi=>[Bo.i (s.ra ((VZ (U3 (UN 1) V 1)+1).toNat+i)),Bo.i (s.rb ((VZ (U3 (UN 1) V 1)+1).toNat+i)),Bo.i (s.ru ((VZ (U3 (UN 1) V 1)+1).toNat+i)),Bo.i (s.rv ((VZ (U3 (UN 1) V 1)+1).toNat+i))],Int.toNat z0-(0:Int).toNat<=10000,s.nr-(VZ (U3 (UN 1) V 1)+1).toNat<=10000] (need [[Q5]=[Q5],H5 [lst 4 (Int.toNat z0-(0:Int).toNat+(s.nr-(VZ (U3 (UN 1) V 1)+1).toNat)) λk=>[iI (ctI (Int.toNat z0-(0:Int).toNat) (λi=>s.ra ((0:Int).toNat+i)) (λi=>s.ra ((VZ (U3 (UN 1) V 1)+1).toNat+i)) k),iI (ctI (Int.toNat z0-(0:Int).toNat) (λi=>s.rb ((0:Int).toNat+i)) (λi=>s.rb ((VZ (U3 (UN 1) V 1)+1).toNat+i)) k),iI (ctI (Int.toNat z0-(0:Int).toNat) (λi=>s.ru ((0:Int).toNat+i)) (λi=>s.ru ((VZ (U3 (UN 1) V 1)+1).toNat+i)) k),iI (ctI (Int.toNat z0-(0:Int).toNat) (λi=>s.rv ((0:Int).toNat+i)) (λi=>s.rv ((VZ (U3 (UN 1) V 1)+1).toNat+i)) k)],iI s.pl,iI s.ph,hY s.nb s,hC s.nc s,hT s.ns s] (hL (stS s (VZ (V 0)))),((38:TypeId),1,s.xn,s.xg)=((38:TypeId),1,(stS s (VZ (V 0))).xn,(stS s (VZ (V 0))).xg),((9:TypeId),1,s.yn,s.yg)=((9:TypeId),1,(stS s (VZ (V 0))).yn,(stS s (VZ (V 0))).yg)] (leaf (true,(0:Int)))))))))))))))) (need [[Q5]=[Q5],H5 QU QU,QB s,QC s] (leaf (false,(4:Int))))))))) z2)))) VS ?_
 have hw:wdO (U3 (UN 1) V (Int.toNat 0))=true:=VS;have hm:wdM (wdK (U3 (UN 1) V (Int.toNat 0)))=1:=VS;have hn1:1<=n:=by have:=VR.2.1;omega
 have hnl:=B0 VR;simp only [VL.sat,UA,UG,hm,hw,true_imp_iff];refine ⟨⟨rfl,rfl⟩,⟨VI,VI⟩,⟨by simp only [VK];omega,λh4=>?_,λh4=>?_⟩,λh=>by cases h⟩
 ·exact V6
 ·have hN:n=1+1:=by
   simp at h4;omega
  refine ⟨⟨VI,VI,VI⟩,?_,λh5=>?_,λh5=>?_⟩
  rotate_left 2
  ·exact V7
  ·all_goals exact yE
  ·have hk1:n-1=1:=VI;have hx0:VZ (U3 (UN 1) V 1)=VZ (V 0):=rfl;rw [hk1];simp only [hx0];refine ⟨VI,by decide,by simp only [VK];omega,λh6=>⟨DH _ _ _ _ _ _,F4 hN h5 ?_ (by decide)⟩,λh6=>?_⟩
   ·unfold stE;rw [bnt h6];rfl
   have h7:=bnf h6;have h8:=(bt_iff _ _ _).1 h7;refine ⟨VI,by decide,VI,VI,by decide,by simp only [VK];omega,VI,⟨Bo.isRec4 _ _ _ _ _,Bo.isRec4 _ _ _ _ _,VI,VI⟩,⟨⟨⟨rfl,?_,λk hk=>⟨?_,?_⟩⟩,zD _,zD _,B4 s,B2 s,PA s,trivial⟩,rfl,rfl⟩,uB hN h5 ?_⟩
   ·show _=s.nr-1;have e0:Int.toNat 0=0:=rfl;omega
   ·dsimp only
    rw [SL h8.1 s.ra k,SL h8.1 s.rb k,SL h8.1 s.ru k,SL h8.1 s.rv k];exact ⟨(P8 _).2,(P8 _).2,(P8 _).2,(P8 _).2,trivial⟩
   ·intro x hx;simp only [GK,DQ,or_false] at hx;rcases hx with rfl|rfl|rfl|rfl<;>exact .x _
   ·unfold stE;rw [h7];rfl
def Qg2:UV
 |[]=>some ([],.mpr (λ_=>[.any1,.any1]) wdO)
 |_=>none
theorem Wu1:VW VN 113 [] (.mpr (λ_=>[.any1,.any1]) wdO):=by
 intro e w args hro hgl FL hr;obtain rfl:=hr.nil_inv;refine (IV w).mono ?_;rintro en w' ⟨rfl,rfl⟩;have hsz:(w.alloc (.map wdE.toArray 8)).heap.size=w.heap.size+1:=VU;refine ⟨_,rfl,(Below.refl _ _).alloc (Nat.le_refl _) _,?_⟩;refine .mpr _ wdO wdV w.heap.size wdE.toArray 8 (show w.heap.size<=w.heap.size/\w.heap.size<(w.alloc (.map wdE.toArray 8)).heap.size by omega) VI (λs a ha=>?_) (World.alloc_heap_new w _) (λs hs=>by simpa using iX hs) (λs hs=>⟨by simpa using Qb8 hs,λa ha=>?_⟩) (λs hs=>rfl) (λs k a v hs ha hv=>?_)
 ·simp only [GK,DQ,or_false,or_self] at ha;subst ha;exact .any1
 ·exact .inr (by simpa using ha)
 ·match k,ha,hv with
  | 0,ha,hv=>
   simp only [wdV,List.getElem?_cons_zero,HC] at ha hv;subst ha hv;exact .any1 _ rfl
  | 1,ha,hv=>
   simp only [wdV,List.getElem?_cons_succ,List.getElem?_cons_zero,HC] at ha hv;subst ha hv;exact .any1 _ rfl
  |k+2,ha,hv=>simp at ha
theorem Wu0:VO VN 113 Qg2:=by
 refine ⟨(UF Tryz.func113),?_⟩;intro avs ns res h hn;unfold Qg2 at h;split at h
 ·cases h;exact Wu1
 ·cases h
theorem Ja6(W:Nat->ByteArray)(n:Nat)(str:ByteArray)(s:HS)(VR:vF str n W)(UE:wdO (W 0)=false):wE VN 90 [.ptr 0 0,.x (.string str)] (X7 s) 901 [[.ptr 0 0,.row 1,.row 2]] 182 (OS s) (OX s) (rsE 4):=by
 refine LE (PX:=[(114,FZ),(115,zZ)]) (L:=[yQ W n 0 0 s]) (VJ.cons (L7 VR) (VJ.cons Wu0 (VJ.nil _))) (VV.of (VP.nil _) (VM.nil _)) (UR.cons RN (UR.cons wJ (UR.nil _))) VY (UF Tryz.func90) Tryz.func90 (US Tryz.f90) (LA (lpE (b:= .loop MY) VS<|uP W n 0 0 s VR.2.2.2 (B0 VR))) (N:=[]) (t:=need [MQ str str {data:=#[32] }] (need [UI 0 n] (branch (wdO (W (0:Int).toNat)) VL.fail (need [[Q5]=[Q5],H5 (hL s) QU,QB s,QC s] (leaf (false,(4:Int))))))) VS ?_
 have hn1:1<=n:=by have:=VR.2.1;omega
 have h0:wdO (W (Int.toNat 0))=false:=UE;simp only [VL.sat,UA,UG,h0];exact ⟨⟨rfl,rfl⟩,⟨VI,VI⟩,(λh=>by cases h),λ_=>⟨DH _ _ _ _ _ _,rfl⟩⟩
abbrev lns(n:Nat)(L:Nat->ByteArray):AV:= .lst 1 n (λk=>[.x (.string (L k))])
def lgB(L:Nat->ByteArray)(mx:Int)(j:Nat):Bool:= !decide (((L j).size:Int)<=mx)
section
variable (n:Nat)(L:Nat->ByteArray)
def shB(mx:Int):Bool:=D4 (λj=>decide (((L j).size:Int)<=mx)) n
def ckE:Int:=if n<=50/\shB n L 200=true then 0 else 3
end
def lW:UV
 |[.x (.int .i64 mx),.x (.string s)]=>some ([],bl (decide ((s.size:Int)<=mx)))
 |_=>none
theorem Qn4(s:ByteArray)(mx:Int):VW VN 56 [i mx,.x (.string s)] (bl (decide ((s.size:Int)<=mx))):=by
 refine GU Tryz.func56 (t:=leaf (RV.x (.bool (decide ((↑(ByteArray.size s):Int)<=mx))))) VS ?_;exact YZ
theorem Qn3:VO VN 56 lW:=by
 refine ⟨(UF Tryz.func56),?_⟩;intro avs ns res h hn;unfold lW at h;split at h
 ·cases h;exact Qn4 _ _
 ·cases h
def lY:UV
 |[.x (.string s),.ro [.fn (.func 56) [.x (.int .i64 mx)] []]]=>some ([],bl (!decide ((s.size:Int)<=mx)))
 |_=>none
theorem Qo9(s:ByteArray)(mx:Int):VW VN 86 [.x (.string s),.ro [.fn (.func 56) [i mx] []]] (bl (!decide ((s.size:Int)<=mx))):=by
 refine U0 (L:=[]) (VJ.cons Qn3 (VJ.nil _)) VY Tryz.func86 (US Tryz.f86) U2 (t:=leaf (RV.x (.bool !decide ((↑(ByteArray.size s):Int)<=mx)))) VS ?_;exact YZ
theorem OA:VO VN 86 lY:=by
 refine ⟨(UF Tryz.func86),?_⟩;intro avs ns res h hn;unfold lY at h;split at h
 ·cases h;exact Qo9 _ _
 ·cases h
abbrev Q8(n:Nat)(L:Nat->ByteArray):AV:=lst 1 n λk=>[FM (L k)]
abbrev WN(mx:Int):AV:=AV.fn (Fn.func 86) [] [AV.ro [AV.fn (Fn.func 56) [iI mx] []]]
section
variable (n:Nat)(L:Nat->ByteArray)(mx:Int)
def gU:St:={σ:=[Q8 n L,WN mx]++HG 5 [iI (n:Int)]++HG 11 [],m:=[],nx:=4}
noncomputable def Qi5:Code:=U8 (VQ (U6 Tryz.f109) 0)
def NX(k:Nat):St:=(upM [(8,i k)] (gU n L mx))
def BV(k:Nat):G6->Option St
 | .ret=>some (upM [(4,i (GV ((lgB L mx)) n))] (gU n L mx))
 | .exit 0=>some (upM [] (gU n L mx))
 |_=>none
def Qd8:CT:= .branch (decide (GV ((lgB L mx)) n<n)) (.leaf (.ret,(BV n L mx 0 .ret).getD (gU n L mx))) (.leaf (.exit 0,(BV n L mx 0 (.exit 0)).getD (gU n L mx)))
def mE:UH:=(HF (NX n L mx (0)) (Qd8 n L mx))
theorem Qt1(VR:n<=100000):G7 VN (.loop Qi5) (mE n L mx):=by
 refine HE (L:=[]) (VJ.cons OA (VJ.nil _)) VY U2 (X:=Nat) (NX n L mx) (λk=>k<=n/\ ∀j,j<k->(lgB L mx) j=false) (λk=>n-k) (BV n L mx) (x0:=0) ⟨VI,λj hj=>VI⟩ ?_ ?_ ?_
 ·rintro k;kernel_rfl
 ·rintro k y E h;unfold BV at h;split at h
  ·cases h;kernel_rfl
  ·cases h;kernel_rfl
  ·cases h
 ·rintro Q hQ k hx;refine ⟨(k+1),?_⟩;(with_reducible refine DF (t:=branch (decide ((k:Int)<(n:Int))) (need [UI k n] (branch (!decide ((↑(ByteArray.size (L k)):Int)<=mx)) (need [VX (Q8 n L),WN mx=WN mx,(k:Int)=(↑(GV (lgB L mx) n):Int),VX (n:Int)] (leaf G6.ret)) (need [VK ((k:Int)+1)] (need [VX (Q8 n L),WN mx=WN mx,VX (n:Int),(k:Int)+1=(↑(k+1):Int)] (leaf G6.normal))))) (need [VX (Q8 n L),WN mx=WN mx,VX (n:Int)] (leaf (G6.exit 0)))) VS ?_);simp only [Qd8,BV,VL.sat,GS,H9] at hQ;simp only [VL.sat,UA,UG,H9,VK,BV,F9];have Xg4:k<n->((lgB L mx)) k=true->GV ((lgB L mx)) n=k:=λh hb=>zJ h hb hx.2
  have PJ: ¬k<n->GV ((lgB L mx)) n=n:=λh=>BW (λj hj=>hx.2 j VI)
  have hgo:((lgB L mx)) k=false-> ∀j,j<k+1->((lgB L mx)) j=false:=by
   intro hb j hj;rcases (show j<k\/j=k by omega) with h1|rfl
   ·exact hx.2 j h1
   ·exact hb
  refine ⟨λh=>⟨VI,?_⟩,λh=>?_⟩
  rotate_left
  ·intro E hE;cases hE;exact hQ.2 (by rw [PJ VI];omega)
  have hk:k<n:=VI;refine ⟨λhb=>?_,λhb=>?_⟩
  ·exact VC
  ·exact ⟨VI,VI,⟨VI,hgo hb⟩,VI⟩
theorem Xf4(VR:n<=100000):VW VN 109 [lns n L,.fn (.func 86) [] [.ro [.fn (.func 56) [i mx] []]]] (i (if GV ((lgB L mx)) n<n then (GV ((lgB L mx)) n:Int) else -1)):=by
 refine U0 (L:=[mE n L mx]) (VJ.cons OA (VJ.nil _)) VY Tryz.func109 (US Tryz.f109) (G0 (lpE (b:= .loop Qi5) VS<|Qt1 n L mx VR)) (t:=need [VX (Q8 n L),WN mx=WN mx,VX (n:Int),(0:Int)=(↑(0:Nat):Int)] (branch (decide (GV (lgB L mx) n<n)) (leaf (RV.x (.int .i64 (↑(GV (lgB L mx) n):Int)))) (leaf (RV.x (KH))))) VS ?_
 exact VA
def Zn4:UV:=λl=>some ([l=[lns n L,.fn (.func 86) [] [.ro [.fn (.func 56) [i mx] []]]]],i (if GV (lgB L mx) n<n then (GV (lgB L mx) n:Int) else -1))
theorem Wk3(VR:n<=100000):VO VN 109 (Zn4 n L mx):=by
 refine ⟨(UF Tryz.func109),?_⟩;intro avs ns res h hn;cases h;have e:=hn _ GD;subst e;exact Xf4 n L mx VR
theorem Xh1(VR:n<=100000):VW VN 85 [lns n L,.fn (.func 86) [] [.ro [.fn (.func 56) [i mx] []]]] (bl (!shB n L mx)):=by
 refine U0 (L:=[]) (VJ.cons (Wk3 n L mx VR) (VJ.nil _)) VY Tryz.func85 (US Tryz.f85) U2 (t:=need [VX ([Q8 n L,WN mx])] (leaf (RV.x (.bool (decide ((if GV (lgB L mx) n<n then (↑(GV (lgB L mx) n):Int) else (-1:Int))>=(0:Int))))))) VS ?_
 simp only [VL.sat,UA,UZ,UC,UG];unfold shB;rw [kD];have:=F0 (lgB L mx) n;have e:(λk=> !(λj=>decide (((L j).size:Int)<=mx)) k)=lgB L mx:=rfl
 rw [e];show decide ((if GV (lgB L mx) n<n then (GV (lgB L mx) n:Int) else -1)>=0)=_
 split<;>simp<;>omega
def Zn6:UV:=λl=>some ([l=[lns n L,.fn (.func 86) [] [.ro [.fn (.func 56) [i mx] []]]]],bl (!shB n L mx))
theorem Wn1(VR:n<=100000):VO VN 85 (Zn6 n L mx):=by
 refine ⟨(UF Tryz.func85),?_⟩;intro avs ns res h hn;cases h;have e:=hn _ GD;subst e;exact Xh1 n L mx VR
theorem Wn4(VR:n<=100000):VW VN 57 [lns n L,.fn (.func 56) [i mx] []] (bl (shB n L mx)):=by
 refine U0 (L:=[]) (VJ.cons (Wn1 n L mx VR) (VJ.nil _)) VY Tryz.func57 (US Tryz.f57) U2 (t:=need [VX ([Q8 n L,WN mx])] (leaf (RV.x (.bool !!shB n L mx)))) VS ?_;simp only [VL.sat,UA,UZ,UC,UG];show (!!shB n L mx)=_;simp
def Xl9:UV:=λl=>some ([l=[lns n L,.fn (.func 56) [i mx] []]],bl (shB n L mx))
theorem Qo8(VR:n<=100000):VO VN 57 (Xl9 n L mx):=by
 refine ⟨(UF Tryz.func57),?_⟩;intro avs ns res h hn;cases h;have e:=hn _ GD;subst e;exact Wn4 n L mx VR
end
section
variable (n:Nat)(L:Nat->ByteArray)
abbrev YJ:List AV:=[Q8 n L,AV.fn (Fn.func 56) [iI 200] []]
theorem O7(VR:n<=100000):VW VN 30 [lns n L] (i (ckE n L)):=by
 refine U0 (L:=[]) (VJ.cons (Qo8 n L 200 VR) (VJ.nil _)) VY Tryz.func30 (US Tryz.f30) U2 (t:=branch (decide ((n:Int)>50)) (leaf (RV.x (KJ))) (need [VX (YJ n L)] (branch (!shB n L (200:Int)) (leaf (RV.x (KJ))) (leaf (RV.x (X0)))))) VS ?_;simp only [VL.sat,UA,UZ,UC,UG,H9];have hc: ∀b:Bool,shB n L 200=b->ckE n L=if n<=50/\b=true then 0 else 3:=λb h=>by unfold ckE;rw [h]
 cases hs:shB n L 200
 all_goals
  rw [hc _ hs];simp
  try omega
def Ww9:UV:=λl=>some ([l=[lns n L]],i (ckE n L))
theorem PR(VR:n<=100000):VO VN 30 (Ww9 n L):=by
 refine ⟨(UF Tryz.func30),?_⟩;intro avs ns res h hn;cases h;have e:=hn _ GD;subst e;exact O7 n L VR
end
def sE:UV
 |[.lst 4 n f]=>some ([n<=100000,gdX 4 n f],.lst 4 n f)
 |_=>none
theorem V3{p:Prop}(h:p:=by
 simp only [VL.sat,UA,UZ,true_and];refine ⟨λh=>⟨True.intro,h⟩,⟨VI,λk hk x hm=>((UE k hk).2 x hm).2⟩,Nat.zero_add n,?_⟩
 exact λk hk=>⟨lC f k,λx hm=>((UE k hk).2 x hm).1⟩):p:=h
theorem Xg8(n:Nat)(f:Nat->List AV)(VR:n<=100000)(UE:gdX 4 n f):VW VN 64 [.lst 4 n f] (.lst 4 n f):=by
 refine GA (L:=[]) (VJ.nil _) (VV.of (VP.nil _) (VM.nil _)) VY Tryz.func64 (US Tryz.f64) G4 (t:=VL.may (n=0) (leaf (RV.x (J3))) (need [(0+n)*32<=140737488355328,∀(i:Nat),i<n-> ∀(a:AV),a∈f i->AV.one a=true] (leaf (RV.lst 4 (0+n) (GG 0 (λx=>[]) λa=>f a))))) VS ?_
 exact V3
theorem Qb4:VO VN 64 sE:=by
 refine ⟨(UF Tryz.func64),?_⟩;intro avs ns res h hn;unfold sE at h;split at h
 ·cases h;exact Xg8 _ _ (hn _ VU) (hn _ VU)
 ·cases h
def sF:UV
 |[.lst 5 n f]=>some ([n<=100000,gdX 5 n f],.lst 5 n f)
 |_=>none
theorem Xg9(n:Nat)(f:Nat->List AV)(VR:n<=100000)(UE:gdX 5 n f):VW VN 65 [.lst 5 n f] (.lst 5 n f):=by
 refine GA (L:=[]) (VJ.nil _) (VV.of (VP.nil _) (VM.nil _)) VY Tryz.func65 (US Tryz.f65) G4 (t:=VL.may (n=0) (leaf (RV.x (J3))) (need [(0+n)*40<=140737488355328,∀(i:Nat),i<n-> ∀(a:AV),a∈f i->AV.one a=true] (leaf (RV.lst 5 (0+n) (GG 0 (λx=>[]) λa=>f a))))) VS ?_
 exact V3
theorem Qb5:VO VN 65 sF:=by
 refine ⟨(UF Tryz.func65),?_⟩;intro avs ns res h hn;unfold sF at h;split at h
 ·cases h;exact Xg9 _ _ (hn _ VU) (hn _ VU)
 ·cases h
def sD:UV
 |[.lst 5 n f]=>some ([n<=100000,gdX 5 n f],.lst 5 n f)
 |_=>none
theorem Xg7(n:Nat)(f:Nat->List AV)(VR:n<=100000)(UE:gdX 5 n f):VW VN 66 [.lst 5 n f] (.lst 5 n f):=by
 refine GA (L:=[]) (VJ.nil _) (VV.of (VP.nil _) (VM.nil _)) VY Tryz.func66 (US Tryz.f66) G4 (t:=VL.may (n=0) (leaf (RV.x (J3))) (need [(0+n)*40<=140737488355328,∀(i:Nat),i<n-> ∀(a:AV),a∈f i->AV.one a=true] (leaf (RV.lst 5 (0+n) (GG 0 (λx=>[]) λa=>f a))))) VS ?_
 exact V3
theorem Qb3:VO VN 66 sD:=by
 refine ⟨(UF Tryz.func66),?_⟩;intro avs ns res h hn;unfold sD at h;split at h
 ·cases h;exact Xg7 _ _ (hn _ VU) (hn _ VU)
 ·cases h
def sC:UV
 |[.lst 2 n f]=>some ([n<=100000,gdX 2 n f],.lst 2 n f)
 |_=>none
theorem Xg6(n:Nat)(f:Nat->List AV)(VR:n<=100000)(UE:gdX 2 n f):VW VN 67 [.lst 2 n f] (.lst 2 n f):=by
 refine GA (L:=[]) (VJ.nil _) (VV.of (VP.nil _) (VM.nil _)) VY Tryz.func67 (US Tryz.f67) G4 (t:=VL.may (n=0) (leaf (RV.x (J3))) (need [(0+n)*16<=140737488355328,∀(i:Nat),i<n-> ∀(a:AV),a∈f i->AV.one a=true] (leaf (RV.lst 2 (0+n) (GG 0 (λx=>[]) λa=>f a))))) VS ?_
 exact V3
theorem Qb2:VO VN 67 sC:=by
 refine ⟨(UF Tryz.func67),?_⟩;intro avs ns res h hn;unfold sC at h;split at h
 ·cases h;exact Xg6 _ _ (hn _ VU) (hn _ VU)
 ·cases h
end Go.Proofs.YtlclobclmfhlmaaGreatDoor.Hd
namespace Go.Proofs.YtlclobclmfhlmaaGreatDoor.Hd
open Go Go.Sx Go.RowKit
open Go.Sx.VL (need branch leaf)
open Go.Sx.AV (lst ptr agg roI tup top)
def DS(W:Nat->ByteArray)(s:HS):HS:=match wdK (W 0) with
 | 0=>thS s (VZ (W 1)) (VZ (W 2)) (VZ (W 3)) (VZ (W 4))
 | 1=>stS s (VZ (W 1))
 | 2=>baS s (VZ (W 1)) (VZ (W 2))
 | 3=>btS s (VZ (W 1)) (VZ (W 2))
 | 4=>seS s (VZ (W 1)) (VZ (W 2))
 | 5=>isS s (VZ (W 1)) (VZ (W 2)) (VZ (W 3)) (VZ (W 4))
 | 6=>voS s (VZ (W 1))
 | 7=>slS s (VZ (W 1)) (VZ (W 2)) (VZ (W 3)) (VZ (W 4)) (VZ (W 5))
 |_=>s
def RW(W:Nat->ByteArray)(n:Nat)(s:HS):Int:=match wdK (W 0) with
 | 0=>fmE W n 4 (thE s (VZ (W 1)) (VZ (W 2)) (VZ (W 3)) (VZ (W 4)))
 | 1=>fmE W n 1 (stE s (VZ (W 1)))
 | 2=>fmE W n 2 (baE s (VZ (W 1)) (VZ (W 2)))
 | 3=>fmE W n 2 (btE s (VZ (W 1)) (VZ (W 2)))
 | 4=>fmE W n 2 (seE s (VZ (W 1)) (VZ (W 2)))
 | 5=>fmE W n 4 (isE s (VZ (W 1)) (VZ (W 2)) (VZ (W 3)) (VZ (W 4)))
 | 6=>fmE W n 1 (voE s (VZ (W 1)))
 | 7=>fmE W n 5 (slE s (VZ (W 1)) (VZ (W 2)) (VZ (W 3)) (VZ (W 4)) (VZ (W 5)))
 |_=>4
structure gP (s:HS):Prop where
 nr:s.nr<=12
 bV:bV s.nb s.ql s.qh s.qm s.qr s.qv
 nc:s.nc<=10
 sV:sV s.ns s.sa s.sb s.sc s.sl s.sh
abbrev hsM(s:HS):GY:=[(0,.cells 100 (hsL s)),(1,.row 38 1 s.xn s.xg),(2,.row 9 1 s.yn s.yg)]
theorem Qm1{str:ByteArray}{n:Nat}{W:Nat->ByteArray}{s:HS}(h:vF str n W)(hs:gP s):
  wE VN 90 [.ptr 0 0,.x (.string str)] (hsM s) 901 [[.ptr 0 0,.row 1,.row 2]] 182 (OS (DS W s)) (OX s) (rsE (RW W n s)):=by
 rcases AE (W 0) with ⟨h1,h2⟩|⟨h1,_⟩
 ·have hV: ∀q,wdL[q]? =some (W 0)->U3 (UN q) (λk=>W (k+1))=W:=by
   intro q hq;funext k;cases k with
   |zero=>
    show UN q=W 0;unfold UN;rw [List.getD_eq_getElem?_getD,hq];rfl
   |succ k=>rfl
  unfold DS RW;rcases (show wdK (W 0)=0\/wdK (W 0)=1\/wdK (W 0)=2\/wdK (W 0)=3\/wdK (W 0)=4\/wdK (W 0)=5\/wdK (W 0)=6\/wdK (W 0)=7 by omega) with h3|h3|h3|h3|h3|h3|h3|h3
  all_goals
   rw [h3] at h2 ⊢;have e:=hV _ h2;have h':=h;rw [←e] at h'
  ·have k:=Ql9 (λk=>W (k+1)) n str s h' hs.nr
   rw [e] at k;exact k
  ·have k:=Qm0 (λk=>W (k+1)) n str s h' hs.nr
   rw [e] at k;exact k
  ·have k:=Xe2 (λk=>W (k+1)) n str s h'
   rw [e] at k;exact k
  ·have k:=Xe1 (λk=>W (k+1)) n str s h' hs.bV.1.1
   rw [e] at k;exact k
  ·have k:=Zh6 (λk=>W (k+1)) n str s h' hs.bV
   rw [e] at k;exact k
  ·have k:=We4 (λk=>W (k+1)) n str s h' hs.nc
   rw [e] at k;exact k
  ·have k:=Xd9 (λk=>W (k+1)) n str s h' hs.nc
   rw [e] at k;exact k
  ·have k:=Xe0 (λk=>W (k+1)) n str s h' hs.sV
   rw [e] at k;exact k
 ·have h0:wdO (W 0)=false:=by
   unfold wdO;rw [h1];rfl
  have k:=Ja6 W n str s h h0;unfold RW;rw [h1];show wE _ _ _ _ _ _ _ (OS (DS W s)) _ _;have e:DS W s=s:=by
   unfold DS;rw [h1];rfl
  rw [e];exact k
theorem fm0{W:Nat->ByteArray}{n many:Nat}{e:Int}(h:fmE W n many e=0):e=0:=by
 unfold fmE at h;split at h
 ·exact h
 ·exact absurd h (by decide)
theorem Xb7{W:Nat->ByteArray}{n:Nat}{s:HS}(hs:gP s)(h0:RW W n s=0):gP (DS W s):=by
 unfold RW at h0;unfold DS;split at h0
 ·have h:=fm0 h0;unfold thE at h;split at h
  ·split at h
   ·exact ⟨by show s.nr+1<=12;omega,hs.bV,hs.nc,hs.sV⟩
   ·exact absurd h (by decide)
  ·exact absurd h (by decide)
 ·exact ⟨by show s.nr-1<=12;have:=hs.nr;omega,hs.bV,hs.nc,hs.sV⟩
 ·exact ⟨hs.nr,hs.bV,hs.nc,hs.sV⟩
 ·have h:=fm0 h0;unfold btE at h;split at h
  ·rename_i hb;split at h
   ·rename_i h6;have hx:=(bt_iff _ _ _).1 hb.1;refine ⟨hs.nr,⟨⟨by show s.nb+1<=6;omega,λb hb'=>?_⟩,λb hb' j k hjk hk=>?_⟩,hs.nc,hs.sV⟩
    ·have hb':b<s.nb+1:=hb';show (if b<s.nb then s.qm b else 0)<=10/\0<=HD s.nb s.ql _ b/\HD s.nb s.ql _ b<=HD s.nb s.qh _ b/\HD s.nb s.qh _ b<=1000/\ ∀j,j<(if b<s.nb then s.qm b else 0)->0<=s.qr b j/\s.qr b j<=2/\ -1000<=s.qv b j/\s.qv b j<=2000
     unfold HD;by_cases e:b<s.nb
     ·simp only [if_pos e];exact hs.bV.1.2 b e
     ·simp only [if_neg e];exact ⟨VI,hx.1,hx.2,hb.2,λj hj=>VI⟩
    ·have hk:k<(if b<s.nb then s.qm b else 0):=hk
     by_cases e:b<s.nb
     ·rw [if_pos e] at hk;exact hs.bV.2 b e j k hjk hk
     ·rw [if_neg e] at hk;omega
   ·exact absurd h (by decide)
  ·exact absurd h (by decide)
 ·have h:=fm0 h0;unfold seE at h;split at h
  ·rename_i g1;split at h
   ·rename_i g2;split at h
    ·rename_i g3;split at h
     ·rename_i g4;exact ⟨hs.nr,Zx9 hs.bV g1 g2 g3 g4,hs.nc,hs.sV⟩
     ·exact absurd h (by decide)
    ·exact absurd h (by decide)
   ·exact absurd h (by decide)
  ·exact absurd h (by decide)
 ·have h:=fm0 h0;unfold isE at h;split at h
  ·split at h
   ·exact ⟨hs.nr,hs.bV,by show s.nc+1<=10;omega,hs.sV⟩
   ·exact absurd h (by decide)
  ·exact absurd h (by decide)
 ·exact ⟨hs.nr,hs.bV,hs.nc,hs.sV⟩
 ·have h:=fm0 h0;unfold slE at h;split at h
  ·rename_i g1;split at h
   ·rename_i g2;exact ⟨hs.nr,hs.bV,hs.nc,slV g1 (by simp;omega) hs.sV⟩
   ·exact absurd h (by decide)
  ·exact absurd h (by decide)
 ·exact absurd h0 (by decide)
def LK(e:UJ)(q r t:Nat)(x:Nat):Option Nat:=if x=e.blk q then some q else if (e.val r).ownBlock=some x then some r else if (e.val t).ownBlock=some x then some t else none
theorem Qa8(s:HS): ∀a∈hsL s,Idf a:=by
 intro a ha;simp only [GK,DQ,or_false] at ha;rcases ha with rfl|rfl|rfl|rfl|rfl|rfl
 ·exact .lst _ _ _ λk _ x hx=>by
   simp only [GK,DQ,or_false] at hx;rcases hx with rfl|rfl|rfl|rfl<;>exact .x _
 ·exact .x _
 ·exact .x _
 ·exact Qa9 _ _ _ _ _ _
 ·exact VH
 ·exact VH
theorem Zh8{str:ByteArray}{s s':HS}{er:Int}(hE:wE VN 90 [.ptr 0 0,.x (.string str)] (hsM s) 901 [[.ptr 0 0,.row 1,.row 2]] 182 (OS s') (OX s) (rsE er))(hx:s'.xn=s.xn/\s'.xg=s.xg/\s'.yn=s.yn/\s'.yg=s.yg)
  {e:UJ}{w0 w:World}{T:Nat->Prop}{q r t:Nat}(hEv:UW e w0.heap.size w)(hB:Below w0.heap.size w0 w)(hT: ∀b,T b->b<w0.heap.size/\ ¬e.ro b)
  (hq:GF e w q (.cells 100 (hsL s)))(hr:GF e w r (.row 38 1 s.xn s.xg))(ht:GF e w t (.row 9 1 s.yn s.yg))(hqr:q≠r)(hqt:q≠t)(hrt:r≠t)(hrv: ∃a b c,e.val r= .slice a b c)(htv: ∃a b c,e.val t= .slice a b c):
  Calls Tryz.prog 90 #[.pointer (some ⟨e.blk q,0,none⟩),.string str] w λen w1=>en=Xi3 182 (rsE er)/\Below w0.heap.size w0 w1/\w.heap.size<=w1.heap.size/\
   (∀x,(e.ro x\/(w0.heap.size<=x/\x<w.heap.size/\e.own x≠some q/\e.own x≠some r/\e.own x≠some t))->w1.heap[x]? =w.heap[x]?)/\
   ∃ro1:Nat->Prop,(∀x,e.ro x->ro1 x)/\(∀x,T x-> ¬ro1 x)/\UW {e with ro:=ro1,own:=LK e q r t} w0.heap.size w1/\
    GF {e with ro:=ro1,own:=LK e q r t} w1 q (.cells 100 (cond (rsE er).1 (hsL s') [.top,.top,.top,.top,.top,.top]))/\
    GF {e with ro:=ro1,own:=LK e q r t} w1 r (.row 38 1 s.xn s.xg)/\GF {e with ro:=ro1,own:=LK e q r t} w1 t (.row 9 1 s.yn s.yg):=by
 let e0:UJ:={ro:=λx=>e.ro x\/(w0.heap.size<=x/\x<w.heap.size/\e.own x≠some q/\e.own x≠some r/\e.own x≠some t),own:=λx=>if e.own x=some q then some 0 else if e.own x=some r then some 1 else if e.own x=some t then some 2 else none,live:=λk=>k<901,blk:=λ_=>e.blk q,val:=λk=>if k=1 then e.val r else e.val t}
 obtain ⟨ql,qo,vs,qh,qv⟩:=hq;obtain ⟨rl,ro,rf,rxs,rh,rv⟩:=hr;obtain ⟨tl,to,tf,txs,th,tv⟩:=ht;have oq: ∀{x},e.own x=some q->e0.own x=some 0:=λh=>if_pos h
 have or_: ∀{x},e.own x=some r->e0.own x=some 1:=λh=>by simp [e0,h,hqr.symm]
 have ot: ∀{x},e.own x=some t->e0.own x=some 2:=λh=>by simp [e0,h,hqt.symm,hrt.symm]
 have hE0:UW e0 w0.heap.size w:=by
  refine ⟨λx hx=>?_,λx k hk=>?_,λg p hp=>⟨.inl (hEv.glob g p hp).1,(hEv.glob g p hp).2⟩⟩
  ·rcases hx with hx|⟨_,h2,h3,h4,h5⟩
   ·obtain ⟨h1,h2⟩:=hEv.apart x hx;exact ⟨by simp [e0,h1],h2⟩
   ·exact ⟨by simp [e0,h3,h4,h5],h2⟩
  ·have hk:(if e.own x=some q then some 0 else if e.own x=some r then some 1 else if e.own x=some t then some 2 else none)=some k:=hk
   split at hk
   ·rename_i h;exact hEv.owned x _ h
   split at hk
   ·rename_i h;exact hEv.owned x _ h
   split at hk
   ·rename_i h;exact hEv.owned x _ h
   ·cases hk
 have sub0: ∀b,e.ro b->e0.ro b:=λb h=> .inl h
 have idfL:=Qa8 s;have hM:UT e0 (hsM s) w:=by
  intro p hp;simp only [GK,DQ,or_false] at hp;rcases hp with rfl|rfl|rfl
  ·exact ⟨show 0<901 by omega,oq qo,vs,qh,⟨qv.1,λi a v ha hv=>Rep.idf sub0 (qv.2 i a v ha hv) (idfL a (DY ha))⟩⟩
  ·exact ⟨show 1<901 by omega,λb hb=>or_ (ro b hb),rf,rxs,rh,λi j a v hi ha hv=>Rep.idf sub0 (rv i j a v hi ha hv) ((rf i hi).2 a (DY ha))⟩
  ·exact ⟨show 2<901 by omega,λb hb=>ot (to b hb),tf,txs,th,λi j a v hi ha hv=>Rep.idf sub0 (tv i j a v hi ha hv) ((tf i hi).2 a (DY ha))⟩
 let c0:Cx:={M:=λ_=>False,Φ:=λ_ _ _=>True,K:=λx o=>e0.ro x/\w.heap[x]? =some o,saved:=[[.pointer (some ⟨e.blk q,0,none⟩),e.val r,e.val t]],sz:=w.heap.size}
 have hS:U1 e0 w [.ptr 0 0,.row 1,.row 2] [.pointer (some ⟨e.blk q,0,none⟩),e.val r,e.val t]:=by
  obtain ⟨a1,b1,d1,h1⟩:=hrv;obtain ⟨a2,b2,d2,h2⟩:=htv;refine .cons (.ptr 0 0 (show 0<901 by omega)) (.cons ?_ (.cons ?_ (.nil _ _)))
  ·rw [h1];exact .row 1 _ _ _ (show 1<901 by omega) h1
  ·rw [h2];exact .row 2 _ _ _ (show 2<901 by omega) h2
 have hX:Xt c0 e0 [[.ptr 0 0,.row 1,.row 2]] [] w:=
  ⟨⟨λd hd=>(by cases hd),List.nodup_nil⟩,λx o hk=>⟨hk.1,(hE0.apart x hk.1).2,hk.2⟩,L4.cons hS ⟨rfl,λi a v h=>by simp at h⟩,Nat.le_refl _⟩
 have hT0: ∀b,T b->b<w0.heap.size/\ ¬e0.ro b:=λb hb=>⟨(hT b hb).1,λh=>by
  rcases h with h|⟨h,_⟩
  ·exact (hT b hb).2 h
  ·have:=(hT b hb).1;omega⟩
 have hA:U1 e0 w [.ptr 0 0,.x (.string str)] [.pointer (some ⟨e.blk q,0,none⟩),.string str]:= .cons (.ptr 0 0 (show 0<901 by omega)) (.cons (.x _) (.nil _ _))
 refine (hE c0 w0 T e0 [] _ w hE0 hB hM (λk hk=>hk) hT0 hX hA).mono ?_
 rintro en w1 ⟨hen,e1,g1,g2,g3,g4,g5,g6⟩;have O6: ∀x,e0.ro x->e1.ro x/\w1.heap[x]? =w.heap[x]? :=by
  intro x hx;have hlt:=(hE0.apart x hx).2;have hk:=g6.kept x w.heap[x] ⟨hx,by simp [hlt]⟩
  exact ⟨hk.1,by rw [hk.2.2];simp [hlt]⟩
 have hsv:(cond (rsE er).1 (OS s') (OX s)).sv=[[.ptr 0 0,.row 1,.row 2]]:=by
  cases (rsE er).1<;>rfl
 have hsd:=g6.saved;rw [hsv] at hsd;have hs1:=hsd.2 0 _ _ rfl rfl;obtain ⟨v0,l0,q0,r0,hs1⟩:=hs1.cons_inv;obtain ⟨rfl,rfl⟩:=List.cons.inj q0;obtain ⟨v1,l1,q1,r1,hs1⟩:=hs1.cons_inv;obtain ⟨rfl,rfl⟩:=List.cons.inj q1;obtain ⟨v2,l2,q2,r2,_⟩:=hs1.cons_inv;obtain ⟨rfl,rfl⟩:=List.cons.inj q2;have b0:e1.blk 0=e.blk q:=by
  generalize hv:Value.pointer (some ⟨e.blk q,0,none⟩)=v at r0;cases r0;injection hv with hv
  injection hv with hv
  injection hv with hv _
  exact hv.symm
 have u1:e1.val 1=e.val r:=by
  generalize hv:e.val r=v at r1;cases r1;assumption
 have u2:e1.val 2=e.val t:=by
  generalize hv:e.val t=v at r2;cases r2;assumption
 have m0:GF e1 w1 0 (.cells 100 (cond (rsE er).1 (hsL s') [.top,.top,.top,.top,.top,.top])):=by
  cases hb:(rsE er).1
  ·rw [hb] at g3;exact g3 (0,.cells 100 [.top,.top,.top,.top,.top,.top]) (by simp [OX])
  ·rw [hb] at g3;exact g3 (0,.cells 100 (hsL s')) (by simp [OS])
 have m1:GF e1 w1 1 (.row 38 1 s.xn s.xg):=by
  cases hb:(rsE er).1
  ·rw [hb] at g3;exact g3 (1,.row 38 1 s.xn s.xg) (by simp [OX])
  ·rw [hb] at g3;have:=g3 (1,.row 38 1 s'.xn s'.xg) (by simp [OS]);rw [hx.1,hx.2.1] at this;exact this
 have m2:GF e1 w1 2 (.row 9 1 s.yn s.yg):=by
  cases hb:(rsE er).1
  ·rw [hb] at g3;exact g3 (2,.row 9 1 s.yn s.yg) (by simp [OX])
  ·rw [hb] at g3;have:=g3 (2,.row 9 1 s'.yn s'.yg) (by simp [OS]);rw [hx.2.2.1,hx.2.2.2] at this;exact this
 have hsz:w.heap.size<=w1.heap.size:=g6.size;obtain ⟨_,n0,vs1,k0,k1⟩:=m0;obtain ⟨_,n1,f1,xs1,p1,p2⟩:=m1;obtain ⟨_,n2,f2,xs2,y1,y2⟩:=m2;rw [b0] at n0 k0;rw [u1] at n1 p1;rw [u2] at n2 y1;have idfC: ∀a∈(cond (rsE er).1 (hsL s') [.top,.top,.top,.top,.top,.top]),Idf a:=by
  cases (rsE er).1
  ·intro a ha;simp only [cond_false,GK,DQ,or_false,or_self] at ha;subst ha;exact .top
  ·exact Qa8 s'
 have oq1:LK e q r t (e.blk q)=some q:=if_pos rfl;have or1: ∀b,(e.val r).ownBlock=some b->LK e q r t b=some r:=by
  intro b hb;have:b≠e.blk q:=by
   rintro rfl;have:=n1 _ hb;rw [n0] at this;cases this
  unfold LK;rw [if_neg this,if_pos hb]
 have ot1: ∀b,(e.val t).ownBlock=some b->LK e q r t b=some t:=by
  intro b hb;have h1:b≠e.blk q:=by
   rintro rfl;have:=n2 _ hb;rw [n0] at this;cases this
  have h2:(e.val r).ownBlock≠some b:=by
   intro h;have h3:=n1 _ h;rw [n2 _ hb] at h3;cases h3
  unfold LK;rw [if_neg h1,if_neg h2,if_pos hb]
 have cv: ∀{a:AV} {v:Value},Rep e1 w1 a v->Idf a->Rep {e with ro:=e1.ro,own:=LK e q r t} w1 a v:=λh k=>Rep.idf (e:=e1) (e':={e with ro:=e1.ro,own:=LK e q r t}) (λ_ h=>h) h k
 refine ⟨hen,g2,hsz,λx hx=>(O6 x hx).2,e1.ro,λx hx=>(O6 x (sub0 x hx)).1,λx hx=>(g5 x hx).2,⟨λx hx=>⟨?_,(g1.apart x hx).2⟩,λx k hk=>?_,λg p hp=>g1.glob g p hp⟩,⟨ql,oq1,vs1,k0,⟨k1.1,λi a v ha hv=>cv (k1.2 i a v ha hv) (idfC a (DY ha))⟩⟩,⟨rl,or1,f1,xs1,p1,λi j a v hi ha hv=>cv (p2 i j a v hi ha hv) ((f1 i hi).2 a (DY ha))⟩,⟨tl,ot1,f2,xs2,y1,λi j a v hi ha hv=>cv (y2 i j a v hi ha hv) ((f2 i hi).2 a (DY ha))⟩⟩
 ·have h0:=(g1.apart x hx).1;have c1:x≠e.blk q:=by
   rintro rfl;rw [n0] at h0;cases h0
  have c2:(e.val r).ownBlock≠some x:=λh=>by
   rw [n1 _ h] at h0;cases h0
  have c3:(e.val t).ownBlock≠some x:=λh=>by
   rw [n2 _ h] at h0;cases h0
  show LK e q r t x=none;unfold LK;rw [if_neg c1,if_neg c2,if_neg c3]
 ·have up: ∀{x j},e.own x=some j->w0.heap.size<=x/\x<w1.heap.size:=λh=>⟨(hEv.owned _ _ h).1,xO (hEv.owned _ _ h).2 hsz⟩
  have hk:LK e q r t x=some k:=hk;unfold LK at hk;split at hk
  ·rename_i h;rw [h];exact up qo
  split at hk
  ·rename_i h;exact up (ro _ h)
  split at hk
  ·rename_i h;exact up (to _ h)
  ·cases hk
end Go.Proofs.YtlclobclmfhlmaaGreatDoor.Hd
