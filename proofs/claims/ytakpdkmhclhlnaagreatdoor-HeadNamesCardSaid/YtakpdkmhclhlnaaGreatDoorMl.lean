/- Contracts, put together. Conditions: those of each. -/
import Derived.Test.YtakpdkmhclhlnaaGreatDoorMk
import Derived.Shelf.Spec.SlicesGrow
set_option linter.unusedSimpArgs false
set_option linter.unusedVariables false
set_option maxRecDepth 100000
namespace Go.Proofs.YtakpdkmhclhlnaaGreatDoor.Hd
open Go Go.Shelf
def cT:Go.Shelf.Ren:=⟨λ| 4=>234|n=>n,λ| 22=>36| 25=>145|n=>n,λn=>n⟩
theorem tK:Go.Proofs.Lays8.n4 Tryz.prog cT:=by
 constructor
 case f4=>exact ⟨Tryz.f234.name,(of_decide_eq_true (by kernel_rfl)),Tryz.func234.trans (congrArg some (by kernel_rfl))⟩
 all_goals first|(intro _;kernel_rfl)|kernel_rfl
open Go Go.Shelf Go.Sx Go.RowKit
theorem Zf7: ∃i0 z,Tryz.prog.info? 145=some i0/\i0.zero=some z/\i0.size=4/\i0.bytes=32/\z.cells.size=4:=by
 have h:((Tryz.prog.info? 145).bind λi=>i.zero.map λz=>(i.size,i.bytes,z.cells.size))=some (4,32,4):=VX
 cases O:Tryz.prog.info? 145 with
 |none=>rw [O] at h;cases h
 |some i0=>
  rw [O] at h;cases hz:i0.zero with
  |none=>
   have h:(i0.zero.map λz=>(i0.size,i0.bytes,z.cells.size))=some (4,32,4):=h
   rw [hz] at h;cases h
  |some z=>
   have h:(i0.zero.map λz=>(i0.size,i0.bytes,z.cells.size))=some (4,32,4):=h
   rw [hz] at h;simp only [Bs,HD,F7] at h;exact ⟨i0,z,rfl,hz,h.1,h.2.1,h.2.2⟩
theorem oM(k:Nat)(hk:k<=100000)(w:World):Calls Tryz.prog 234 #[.slice none 0 0,.int .i64 k] w λen w'=> ∃v,en= .returned v/\Below w.heap.size w w'/\w'.ownsRow 0 145 4 v 0 []/\ ∀b,v.ownBlock=some b->w.heap.size<=b/\b<w'.heap.size:=by
 rcases Nat.eq_zero_or_pos k with rfl|h0
 ·refine Calls.mono (Any8.slices_Grow_room tK none 0 0 0 w VL VL VL VL) ?_;rintro en w' ⟨rfl,rfl⟩;exact ⟨_,rfl,Below.refl _ _,⟨rfl,.inl ⟨rfl,rfl⟩⟩,λb h=>by cases h⟩
 ·obtain ⟨i0,z,e0,e1,e2,e3,e4⟩:=Zf7;refine Calls.mono (Any8.slices_Grow_grow tK i0 z e0 e1 VL none 0 0 k [] w VL VL (by rw [e3];omega) VL VW (λ_=>rfl) (λa h=>by cases h)) ?_
  rintro en w' ⟨rfl,rfl⟩;have g1:k<=grownCap w (0+k) 0 145:=by have:=grownCap_ge w (0+k) 0 145;omega
  refine ⟨_,rfl,((Below.refl _ _).drew).alloc (Am _) _,⟨rfl,.inr ⟨w.heap.size,grownCap w (0+k) 0 145,#[]++Builtin.zeroCells z.cells (0+k-0)++Builtin.zeroCells z.cells (grownCap w (0+k) 0 145-(0+k)),rfl,Ao _,?_,Ao _,grownCap_le_maxLen w (0+k) 0 145 (by unfold maxLen;omega),?_,VW⟩⟩,?_⟩
  ·show (w.drew.heap.push _)[w.heap.size]? =_;exact Array.getElem?_push_size ..
  ·rw [Ap] at g1 ⊢;simp [Builtin.zeroCells,e4];omega
  ·intro b h;cases h;exact ⟨Am _,by show w.heap.size<(w.drew.heap.push _).size;rw [Array.size_push];exact Bk _⟩
def aG:BH:=λl=>match l with
 |[.x (.slice none 0 0),.x (.int .i64 k)]=>some ([0<=k/\k<=100000],145,4,0,λ_=>[])
 |_=>none
theorem Wl9:Sx.Enters Tryz.prog 234/\ ∀avs ns T sz n g,aG avs=some (ns,T,sz,n,g)->(∀q∈ns,q)->DI VQ 234 avs T sz n g:=by
 refine ⟨(UJ Tryz.func234),?_⟩;intro avs ns T sz n g h hn;unfold aG at h;split at h
 ·rename_i k;cases h;obtain ⟨h1,h2⟩:0<=k/\k<=100000:=hn _ GI;intro e w args q1 q2 q3 q4;obtain ⟨u,us,rfl,r1,q5⟩:=q4.cons_inv;obtain ⟨u',us',rfl,r2,q6⟩:=q5.cons_inv;obtain rfl:=q6.nil_inv;cases r1;cases r2;obtain ⟨k',rfl⟩:=Int.eq_ofNat_of_zero_le h1;refine (oM k' VL w).mono ?_;rintro en w' ⟨v,rfl,g1,g2,g3⟩;exact ⟨v,[],rfl,g1,g2,g3,λi O=>VL,λi j a u O=>VL⟩
 ·cases h
theorem Wl8:GC VQ 234 (Wl5 aG):=AI Wl9
end Go.Proofs.YtakpdkmhclhlnaaGreatDoor.Hd
namespace Go.Proofs.YtakpdkmhclhlnaaGreatDoor.Hd
open Go Go.Sx Go.RowKit Bo
open Go.Sx.VO (need branch leaf)
open Go.Sx.AV (lst ptr agg roI tup top)
theorem mE{S:Code->UL->Prop}{c:Code}{s0 s1:UL}(h0: ∀cj,VU c 0=some cj->S cj s0)(h1: ∀cj,VU c 1=some cj->S cj s1):
  ∀j cj,VU c j=some cj-> ∀sp,[s0,s1][j]? =some sp->S cj sp:=by
 intro j cj hj sp hsp
 match j with
 | 0=>simp at hsp;subst hsp;exact h0 cj hj
 | 1=>simp at hsp;subst hsp;exact h1 cj hj
 |j+2=>simp at hsp
def ctI(p:Nat)(a b:Nat->Int)(k:Nat):Int:=if k<p then a k else b (k-p)
def A1:G0
 |[.lst 1 n F]=>match F 0,F 1 with
  |[.lst 4 p f],[.lst 4 q g]=>some ([n=2,UG 4 p f,UG 4 q g,p<=10000,q<=10000],.lst 4 (p+q) (λk=>[i (ctI p (col 0 f) (col 0 g) k),i (ctI p (col 1 f) (col 1 g) k),i (ctI p (col 2 f) (col 2 g) k),i (ctI p (col 3 f) (col 3 g) k)]))
  |_,_=>none
 |_=>none
theorem Wl7(p:Nat)(a b u v:Nat->Int)(q:Nat)(a1 b1 u1 v1:Nat->Int)(VV:p<=10000)(UI:q<=10000):VZ VQ 205 [.lst 1 2 (U8 1 [rds p a b u v,rds q a1 b1 u1 v1])] (.lst 4 (p+q) (λk=>[i (ctI p a a1 k),i (ctI p b b1 k),i (ctI p u u1 k),i (ctI p v v1 k)])):=by
 refine G9 (X:={R:=[],H:=[(234,(Wl5 aG))] }) (L:=[(λs=>some (xS Tryz.prog [] [] (UC (VU (UA Tryz.f205) 0)) 3 s)),(λs=>some (xS Tryz.prog [] [] (UC (VU (UA Tryz.f205) 1)) 3 s))]) Aa (Ai Ab (Ag Wl8 Ac)) U0 Tryz.func205 (UV Tryz.f205) (mE (lpE (b:= .loop (UC (VU (UA Tryz.f205) 0))) VX<|(L8 Aa U0 U7 _).N) (lpE (b:= .loop (UC (VU (UA Tryz.f205) 1))) VX<|(L8 Aa U0 U7 _).N)) (t:=let z1:=(need [(0:Int)<=0+1+1/\(0:Int)+1+1<(↑(2:Nat):Int)] VO.fail);let z2:=(GJ 0 (λx=>[]) (rq4 a b u v));let z0:=(branch (decide ((0:Int)<(↑(2:Nat):Int))) (need [UN 0 2] (need [(0+p)*32<=140737488355328,∀(i:Nat),i<p-> ∀(a_2:AV),a_2∈[Bo.i (a i),Bo.i (b i),Bo.i (u i),Bo.i (v i)]->AV.one a_2=true] (need [VN ((0:Int)+1)] (branch (decide ((0:Int)+1<(↑(2:Nat):Int))) (need [(0:Int)<=0+1/\(0:Int)+1<(↑(2:Nat):Int)] (need [(0+p+q)*32<=140737488355328,∀(i:Nat),i<q-> ∀(a:AV),a∈[Bo.i (a1 i),Bo.i (b1 i),Bo.i (u1 i),Bo.i (v1 i)]->AV.one a=true] (need [VN ((0:Int)+1+1)] (branch (decide ((0:Int)+1+1<(↑(2:Nat):Int))) z1 (leaf (RV.lst 4 (0+p+q) (GJ (0+p) z2 (rq4 a1 b1 u1 v1)))))))) (leaf (RV.lst 4 (0+p) z2)))))) (leaf (RV.lst 4 0 λx=>[])));(branch (decide ((0:Int)<(↑(2:Nat):Int))) (need [UN 0 2] (need [VN ((0:Int)+(p:Int))] (branch (decide ((0:Int)+(p:Int)<0)) VO.fail (need [VN ((0:Int)+1)] (branch (decide ((0:Int)+1<(↑(2:Nat):Int))) (need [(0:Int)<=0+1/\(0:Int)+1<(↑(2:Nat):Int)] (need [VN ((0:Int)+(p:Int)+(q:Int))] (branch (decide ((0:Int)+(p:Int)+(q:Int)<0)) VO.fail (need [VN ((0:Int)+1+1)] (branch (decide ((0:Int)+1+1<(↑(2:Nat):Int))) z1 (need [(0:Int)<=0+(p:Int)+(q:Int)/\(0:Int)+(p:Int)+(q:Int)<=100000] z0)))))) (need [(0:Int)<=0+(p:Int)/\(0:Int)+(p:Int)<=100000] z0)))))) (need [(0:Int)<=0/\(0:Int)<=100000] z0))) VX ?_
 have hX: ∀(k:Nat),k<p+q->GJ (0+p) (GJ 0 (λ_=>[]) λk=>[i (a k),i (b k),i (u k),i (v k)]) (λk=>[i (a1 k),i (b1 k),i (u1 k),i (v1 k)]) k=[i (ctI p a a1 k),i (ctI p b b1 k),i (ctI p u u1 k),i (ctI p v v1 k)]/\ ∀x∈[i (ctI p a a1 k),i (ctI p b b1 k),i (ctI p u u1 k),i (ctI p v v1 k)],isX x:=by
  intro k hk;refine ⟨?_,λx hx=>?_⟩
  ·show HF (decide (k<0+p)) (GJ 0 (λ_=>[]) (λk=>[i (a k),i (b k),i (u k),i (v k)]) k) [i (a1 (k-(0+p))),i (b1 (k-(0+p))),i (u1 (k-(0+p))),i (v1 (k-(0+p)))]=_
   rw [Qb4,Ap];unfold ctI;by_cases h:k<p
   ·rw [decide_eq_true h];simp only [if_pos h];rfl
   ·rw [decide_eq_false h];simp only [if_neg h];rfl
  ·simp only [GM,DL,or_false] at hx;rcases hx with rfl|rfl|rfl|rfl<;>exact Ak
 have hA: ∀(a b u v:Nat->Int) (n k:Nat),k<n-> ∀(x:AV),x∈[i (a k),i (b k),i (u k),i (v k)]->x.one=true:=by
  intro a b u v n k hk x hx;simp only [GM,DL,or_false] at hx;rcases hx with rfl|rfl|rfl|rfl<;>simp [AV.one,Value.oneCell']
 simp only [VO.sat,UE,G5,GL,UH,true_and,HG,VN]
 (repeat' first|exact hA _ _ _ _ _|exact hX|with_reducible apply Al|with_reducible intro _)
 all_goals omega
theorem Wl6:VS VQ 205 A1:=by
 refine ⟨(UJ Tryz.func205),?_⟩;intro avs ns I h hn;unfold A1 at h;split at h
 ·rename_i n F;split at h
  ·rename_i p f q g h0 h1;cases h;obtain rfl:n=2:=hn _ VW;have r0:UG 4 p f:=hn (UG 4 p f) VW;have r1:UG 4 q g:=hn (UG 4 q g) VW;have hp:p<=10000:=hn (p<=10000) VW;have hq:q<=10000:=hn (q<=10000) VW;refine (Wl7 p (col 0 f) (col 1 f) (col 2 f) (col 3 f) q (col 0 g) (col 1 g) (col 2 g) (col 3 g) hp hq).same (.cons (.deep 1 2 F _ (λk hk=>?_) (λk j a b hk ha hb=>?_)) .nil)
   ·rcases (show k=0\/k=1 by omega) with rfl|rfl
    ·rw [h0];rfl
    ·rw [h1];rfl
   ·rcases (show k=0\/k=1 by omega) with rfl|rfl
    ·rw [h0] at ha;have hb:[rds p (col 0 f) (col 1 f) (col 2 f) (col 3 f)][j]? =some b:=hb;cases j with
     |zero=>
      cases ha;cases hb;exact .lst 4 p f _ r0
     |succ j=>simp at ha
    ·rw [h1] at ha;have hb:[rds q (col 0 g) (col 1 g) (col 2 g) (col 3 g)][j]? =some b:=hb;cases j with
     |zero=>
      cases ha;cases hb;exact .lst 4 q g _ r1
     |succ j=>simp at ha
  ·cases h
 ·cases h
def skF(x0:Int)(a:Nat->Int)(k:Nat):Int:=if k<x0.toNat then a k else a (k+1)
def stS(s:HS)(x0:Int):HS:={s with nr:=s.nr-1,ra:=skF x0 s.ra,rb:=skF x0 s.rb,ru:=skF x0 s.ru,rv:=skF x0 s.rv}
def stE(s:HS)(x0:Int):Int:=if bt 0 x0 ((s.nr:Int)-1)=true then 0 else 7
theorem S5{x:Int}(h:0<=x)(a:Nat->Int)(k:Nat):ctI (x.toNat-Int.toNat 0) (λi=>a (Int.toNat 0+i)) (λi=>a ((x+1).toNat+i)) k=skF x a k:=by
 unfold ctI skF;by_cases h':k<x.toNat
 ·rw [if_pos (show k<x.toNat-Int.toNat 0 by simpa using h'),if_pos h']
  exact congrArg a VW
 ·rw [if_neg (show ¬k<x.toNat-Int.toNat 0 by simpa using h'),if_neg h']
  exact congrArg a (by simp;omega)
noncomputable abbrev OR(s:HS):DS:=rI Tryz.prog [(205,A1),(36,RM)] {} [(145,RA)] [] Tryz.f175 (UA Tryz.f175)
theorem eC(s:HS):D4 VQ 175 (OR s):=
 FP (G:=[(205,A1),(36,RM)]) (X:=WH) (PX:=[(145,RA)]) (L:=[]) (Ae Wl6 (Ae PR Aa)) Ad (UT.cons RQ (UT.nil _)) U0 (UJ Tryz.func175) Tryz.func175 (UV Tryz.f175) (λj cj _ sp hsp=>by simp at hsp)
theorem Ql0(V:Nat->ByteArray)(n:Nat)(str:ByteArray)(s:HS)(VV:vD str n (U6 (UQ 1) V))(UI:s.nr<=12):wD VQ 106 [.ptr 0 0,.x (.string str)] (X7 s) 901 [[.ptr 0 0,.row 1,.row 2]] 211 (OS (stS s (U2 (V 0)))) (OX s) (rsE (fmE (U6 (UQ 1) V) n 1 (stE s (U2 (V 0))))):=by
 refine LG (PX:=[(145,RA),(146,zZ),(175,(OR s))]) (L:=[yO (U6 (UQ 1) V) n 1 175 s]) (Ae (L9 VV) (Ae wB Aa)) Ad (UT.cons RQ (UT.cons wI (UT.cons (eC s) (UT.nil _)))) U0 (UJ Tryz.func106) Tryz.func106 (UV Tryz.f106) (LD (lpE (b:= .loop MI) VX<|uO (U6 (UQ 1) V) n 1 175 s VV.2.2.2 (B1 VV))) (N:=[]) (t:=let z0:=(U2 (U6 (UQ 1) V 1));let z1:=(U6 (UQ 1) V (0:Int).toNat);let z2:=(need [[Q5]=[Q5],H9 (hL s) QT,QA s,QB s] (leaf (false,(4:Int))));(need [M9 str str {data:=#[32] }] (need [UN 0 n] (branch (wdO z1) (need [VN (wdM (wdK z1)+1)] (branch (!(n:Int)==wdM (wdK z1)+1) z2 (need [(0:Int)<=1/\(1:Int)<=(n:Int)/\(n:Int)<=(n:Int)] (need [QO,U1 (lst 1 n λk=>[FR (U6 (UQ 1) V k)]),ZQ,WJ,(lst 1 (n-(1:Int).toNat) λi=>[AV.x (.string (U6 (UQ 1) V ((1:Int).toNat+i)))])=lst 1 (n-1) λj=>[FR (U6 (UQ 1) V (1+j))],(↑(n-(1:Int).toNat):Int)=(↑(n-1):Int),(0:Int)=(↑(0:Nat):Int),0=0,∀(i:Nat),i<0->[]=[iI (U2 (U6 (UQ 1) V (1+i)))],wdM (wdK z1)=1,U1 (AV.fn (Fn.func 175) [] []),XH s,JQ s,JR s,XW s,XO s,XP s,KK s,∀(i:Nat),i<s.xn->s.xg i=s.xg i,KL s,∀(i:Nat),i<s.yn->s.yg i=s.yg i,QO,JW,JX] (branch (nuB (U6 (UQ 1) V) n) (need [UN 0 (↑(n-1):Int)] (need [(0:Int).toNat<n-1] (need [VN ((↑s.nr:Int)-1)] (branch (!bt (0:Int) z0 ((↑s.nr:Int)-1)) (need [[Q5]=[Q5],H9 (hL s) QT,QA s,QB s] (leaf (false,(7:Int)))) (need [UN 0 (↑(n-1):Int)] (need [(0:Int).toNat<n-1] (need [(0:Int)<=0/\(0:Int)<=U2 (U6 (UQ 1) V 1)/\U2 (U6 (UQ 1) V 1)<=(↑s.nr:Int)] (need [UN 0 (↑(n-1):Int)] (need [(0:Int).toNat<n-1] (need [VN (U2 (U6 (UQ 1) V 1)+1)] (need [(0:Int)<=U2 (U6 (UQ 1) V 1)+1/\U2 (U6 (UQ 1) V 1)+1<=(↑s.nr:Int)/\(↑s.nr:Int)<=(↑s.nr:Int)] (need [2=2,UG 4 (Int.toNat z0-(0:Int).toNat) λi=>[Bo.i (s.ra ((0:Int).toNat+i)),Bo.i (s.rb ((0:Int).toNat+i)),Bo.i (s.ru ((0:Int).toNat+i)),Bo.i (s.rv ((0:Int).toNat+i))],UG 4 (s.nr-(U2 (U6 (UQ 1) V 1)+1).toNat) λi=>[Bo.i (s.ra ((U2 (U6 (UQ 1) V 1)+1).toNat+i)),Bo.i (s.rb ((U2 (U6 (UQ 1) V 1)+1).toNat+i)),Bo.i (s.ru ((U2 (U6 (UQ 1) V 1)+1).toNat+i)),Bo.i (s.rv ((U2 (U6 (UQ 1) V 1)+1).toNat+i))],Int.toNat z0-(0:Int).toNat<=10000,s.nr-(U2 (U6 (UQ 1) V 1)+1).toNat<=10000] (need [[Q5]=[Q5],H9 [lst 4 (Int.toNat z0-(0:Int).toNat+(s.nr-(U2 (U6 (UQ 1) V 1)+1).toNat)) λk=>[iI (ctI (Int.toNat z0-(0:Int).toNat) (λi=>s.ra ((0:Int).toNat+i)) (λi=>s.ra ((U2 (U6 (UQ 1) V 1)+1).toNat+i)) k),iI (ctI (Int.toNat z0-(0:Int).toNat) (λi=>s.rb ((0:Int).toNat+i)) (λi=>s.rb ((U2 (U6 (UQ 1) V 1)+1).toNat+i)) k),iI (ctI (Int.toNat z0-(0:Int).toNat) (λi=>s.ru ((0:Int).toNat+i)) (λi=>s.ru ((U2 (U6 (UQ 1) V 1)+1).toNat+i)) k),iI (ctI (Int.toNat z0-(0:Int).toNat) (λi=>s.rv ((0:Int).toNat+i)) (λi=>s.rv ((U2 (U6 (UQ 1) V 1)+1).toNat+i)) k)],iI s.pl,iI s.ph,hY s.nb s,hC s.nc s,hT s.ns s] (hL (stS s (U2 (V 0)))),((23:TypeId),1,s.xn,s.xg)=((23:TypeId),1,(stS s (U2 (V 0))).xn,(stS s (U2 (V 0))).xg),((9:TypeId),1,s.yn,s.yg)=((9:TypeId),1,(stS s (U2 (V 0))).yn,(stS s (U2 (V 0))).yg)] (leaf (true,(0:Int)))))))))))))))) (need [[Q5]=[Q5],H9 QT QT,QA s,QB s] (leaf (false,(4:Int))))))))) z2)))) VX ?_
 have hw:wdO (U6 (UQ 1) V (Int.toNat 0))=true:=VX;have hm:wdM (wdK (U6 (UQ 1) V (Int.toNat 0)))=1:=VX;have hn1:1<=n:=by have:=VV.2.1;omega
 have hnl:=B1 VV;simp only [VO.sat,UE,UK,hm,hw,true_imp_iff];refine ⟨⟨rfl,rfl⟩,⟨VL,VL⟩,⟨by simp only [VN];omega,λh4=>?_,λh4=>?_⟩,λh=>by cases h⟩
 ·exact V5
 ·have hN:n=1+1:=by
   simp at h4;omega
  refine ⟨⟨VL,VL,VL⟩,?_,λh5=>?_,λh5=>?_⟩
  rotate_left 2
  ·exact V7
  ·all_goals exact yC
  ·have hk1:n-1=1:=VL;have hx0:U2 (U6 (UQ 1) V 1)=U2 (V 0):=rfl;rw [hk1];simp only [hx0];refine ⟨VL,by decide,by simp only [VN];omega,λh6=>⟨DH _ _ _ _ _ _,F4 hN h5 ?_ (by decide)⟩,λh6=>?_⟩
   ·unfold stE;rw [bnt h6];rfl
   have h7:=bnf h6;have h8:=(bt_iff _ _ _).1 h7;refine ⟨VL,by decide,VL,VL,by decide,by simp only [VN];omega,VL,⟨Bo.isRec4 _ _ _ _ _,Bo.isRec4 _ _ _ _ _,VL,VL⟩,⟨⟨⟨rfl,?_,λk hk=>⟨?_,?_⟩⟩,zC _,zC _,B5 s,B4 s,PB s,trivial⟩,rfl,rfl⟩,uA hN h5 ?_⟩
   ·show _=s.nr-1;have e0:Int.toNat 0=0:=rfl;omega
   ·dsimp only
    rw [S5 h8.1 s.ra k,S5 h8.1 s.rb k,S5 h8.1 s.ru k,S5 h8.1 s.rv k];exact ⟨(P9 _).2,(P9 _).2,(P9 _).2,(P9 _).2,trivial⟩
   ·intro x hx;simp only [GM,DL,or_false] at hx;rcases hx with rfl|rfl|rfl|rfl<;>exact .x _
   ·unfold stE;rw [h7];rfl
def Qf0:G0
 |[]=>some ([],.mpr (λ_=>[.any1,.any1]) wdO)
 |_=>none
theorem Ws2:VZ VQ 144 [] (.mpr (λ_=>[.any1,.any1]) wdO):=by
 intro e w args hro hgl FL hr;obtain rfl:=hr.nil_inv;refine (IF w).mono ?_;rintro en w' ⟨rfl,rfl⟩;have hsz:(w.alloc (.map wdE.toArray 8)).heap.size=w.heap.size+1:=VW;refine ⟨_,rfl,(Below.refl _ _).alloc (Am _) _,?_⟩;refine .mpr _ wdO wdV w.heap.size wdE.toArray 8 (show w.heap.size<=w.heap.size/\w.heap.size<(w.alloc (.map wdE.toArray 8)).heap.size by omega) VL (λs a ha=>?_) (World.alloc_heap_new w _) (λs hs=>by simpa using iH hs) (λs hs=>⟨by simpa using Qa4 hs,λa ha=>?_⟩) (λs hs=>rfl) (λs k a v hs ha A=>?_)
 ·simp only [GM,DL,or_false,or_self] at ha;subst ha;exact .any1
 ·exact .inr (by simpa using ha)
 ·match k,ha,A with
  | 0,ha,A=>
   simp only [wdV,List.getElem?_cons_zero,HD] at ha A;subst ha A;exact .any1 _ rfl
  | 1,ha,A=>
   simp only [wdV,List.getElem?_cons_succ,List.getElem?_cons_zero,HD] at ha A;subst ha A;exact .any1 _ rfl
  |k+2,ha,A=>simp at ha
theorem Ws1:VS VQ 144 Qf0:=by
 refine ⟨(UJ Tryz.func144),?_⟩;intro avs ns I h hn;unfold Qf0 at h;split at h
 ·cases h;exact Ws2
 ·cases h
theorem Zz3(W:Nat->ByteArray)(n:Nat)(str:ByteArray)(s:HS)(VV:vD str n W)(UI:wdO (W 0)=false):wD VQ 106 [.ptr 0 0,.x (.string str)] (X7 s) 901 [[.ptr 0 0,.row 1,.row 2]] 211 (OS s) (OX s) (rsE 4):=by
 refine LG (PX:=[(145,RA),(146,zZ)]) (L:=[yO W n 0 0 s]) (Ae (L9 VV) (Ae Ws1 Aa)) Ad (UT.cons RQ (UT.cons wI (UT.nil _))) U0 (UJ Tryz.func106) Tryz.func106 (UV Tryz.f106) (LD (lpE (b:= .loop MI) VX<|uO W n 0 0 s VV.2.2.2 (B1 VV))) (N:=[]) (t:=need [M9 str str {data:=#[32] }] (need [UN 0 n] (branch (wdO (W (0:Int).toNat)) VO.fail (need [[Q5]=[Q5],H9 (hL s) QT,QA s,QB s] (leaf (false,(4:Int))))))) VX ?_
 have hn1:1<=n:=by have:=VV.2.1;omega
 have h0:wdO (W (Int.toNat 0))=false:=UI;simp only [VO.sat,UE,UK,h0];exact ⟨⟨rfl,rfl⟩,⟨VL,VL⟩,(λh=>by cases h),λ_=>⟨DH _ _ _ _ _ _,rfl⟩⟩
abbrev lns(n:Nat)(L:Nat->ByteArray):AV:= .lst 1 n (λk=>[.x (.string (L k))])
def lgB(L:Nat->ByteArray)(mx:Int)(j:Nat):Bool:= !decide (((L j).size:Int)<=mx)
section
variable (n:Nat)(L:Nat->ByteArray)
def shB(mx:Int):Bool:=FN (λj=>decide (((L j).size:Int)<=mx)) n
def ckE:Int:=if n<=50/\shB n L 200=true then 0 else 3
end
def lD:G0
 |[.x (.int .i64 mx),.x (.string s)]=>some ([],bl (decide ((s.size:Int)<=mx)))
 |_=>none
theorem Qm0(s:ByteArray)(mx:Int):VZ VQ 65 [i mx,.x (.string s)] (bl (decide ((s.size:Int)<=mx))):=by
 refine GT Tryz.func65 (t:=leaf (RV.x (.bool (decide ((↑(ByteArray.size s):Int)<=mx))))) VX ?_;exact YZ
theorem Ql9:VS VQ 65 lD:=by
 refine ⟨(UJ Tryz.func65),?_⟩;intro avs ns I h hn;unfold lD at h;split at h
 ·cases h;exact Qm0 _ _
 ·cases h
def lF:G0
 |[.x (.string s),.ro [.fn (.func 65) [.x (.int .i64 mx)] []]]=>some ([],bl (!decide ((s.size:Int)<=mx)))
 |_=>none
theorem Qn5(s:ByteArray)(mx:Int):VZ VQ 110 [.x (.string s),.ro [.fn (.func 65) [i mx] []]] (bl (!decide ((s.size:Int)<=mx))):=by
 refine U4 (L:=[]) (Ae Ql9 Aa) U0 Tryz.func110 (UV Tryz.f110) U7 (t:=leaf (RV.x (.bool !decide ((↑(ByteArray.size s):Int)<=mx)))) VX ?_;exact YZ
theorem NQ:VS VQ 110 lF:=by
 refine ⟨(UJ Tryz.func110),?_⟩;intro avs ns I h hn;unfold lF at h;split at h
 ·cases h;exact Qn5 _ _
 ·cases h
abbrev QF(n:Nat)(L:Nat->ByteArray):AV:=lst 1 n λk=>[FR (L k)]
abbrev WM(mx:Int):AV:=AV.fn (Fn.func 110) [] [AV.ro [AV.fn (Fn.func 65) [iI mx] []]]
section
variable (n:Nat)(L:Nat->ByteArray)(mx:Int)
def gN:St:={σ:=[QF n L,WM mx]++HK 5 [iI (n:Int)]++HK 11 [],m:=[],nx:=4}
noncomputable def Qh3:Code:=UC (VU (UA Tryz.f148) 0)
def NG(k:Nat):St:=(upM [(8,i k)] (gN n L mx))
def BW(k:Nat):GB->Option St
 | .ret=>some (upM [(4,i (GW ((lgB L mx)) n))] (gN n L mx))
 | .exit 0=>some (upM [] (gN n L mx))
 |_=>none
def Qc5:CT:= .branch (decide (GW ((lgB L mx)) n<n)) (.leaf (.ret,(BW n L mx 0 .ret).getD (gN n L mx))) (.leaf (.exit 0,(BW n L mx 0 (.exit 0)).getD (gN n L mx)))
def lP:UL:=(HM (NG n L mx (0)) (Qc5 n L mx))
theorem Qr5(VV:n<=100000):GD VQ (.loop Qh3) (lP n L mx):=by
 refine HT (L:=[]) (Ae NQ Aa) U0 U7 (X:=Nat) (NG n L mx) (λk=>k<=n/\ ∀j,j<k->(lgB L mx) j=false) (λk=>n-k) (BW n L mx) (x0:=0) ⟨VL,λj hj=>VL⟩ ?_ ?_ ?_
 ·rintro k;kernel_rfl
 ·rintro k y E h;unfold BW at h;split at h
  ·cases h;kernel_rfl
  ·cases h;kernel_rfl
  ·cases h
 ·rintro Q hQ k hx;refine ⟨(k+1),?_⟩;(with_reducible refine DU (t:=branch (decide ((k:Int)<(n:Int))) (need [UN k n] (branch (!decide ((↑(ByteArray.size (L k)):Int)<=mx)) (need [U1 (QF n L),WM mx=WM mx,(k:Int)=(↑(GW (lgB L mx) n):Int),U1 (n:Int)] (leaf GB.ret)) (need [VN ((k:Int)+1)] (need [U1 (QF n L),WM mx=WM mx,U1 (n:Int),(k:Int)+1=(↑(k+1):Int)] (leaf GB.normal))))) (need [U1 (QF n L),WM mx=WM mx,U1 (n:Int)] (leaf (GB.exit 0)))) VX ?_);simp only [Qc5,BW,VO.sat,GX,HG] at hQ;simp only [VO.sat,UE,UK,HG,VN,BW,FF];have Xe6:k<n->((lgB L mx)) k=true->GW ((lgB L mx)) n=k:=λh hb=>zI h hb hx.2
  have PS: ¬k<n->GW ((lgB L mx)) n=n:=λh=>BX (λj hj=>hx.2 j VL)
  have hgo:((lgB L mx)) k=false-> ∀j,j<k+1->((lgB L mx)) j=false:=by
   intro hb j hj;rcases (show j<k\/j=k by omega) with h1|rfl
   ·exact hx.2 j h1
   ·exact hb
  refine ⟨λh=>⟨VL,?_⟩,λh=>?_⟩
  rotate_left
  ·intro E hE;cases hE;exact hQ.2 (by rw [PS VL];omega)
  have hk:k<n:=VL;refine ⟨λhb=>?_,λhb=>?_⟩
  ·exact VE
  ·exact ⟨VL,VL,⟨VL,hgo hb⟩,VL⟩
theorem Xd6(VV:n<=100000):VZ VQ 148 [lns n L,.fn (.func 110) [] [.ro [.fn (.func 65) [i mx] []]]] (i (if GW ((lgB L mx)) n<n then (GW ((lgB L mx)) n:Int) else -1)):=by
 refine U4 (L:=[lP n L mx]) (Ae NQ Aa) U0 Tryz.func148 (UV Tryz.f148) (GA (lpE (b:= .loop Qh3) VX<|Qr5 n L mx VV)) (t:=need [U1 (QF n L),WM mx=WM mx,U1 (n:Int),(0:Int)=(↑(0:Nat):Int)] (branch (decide (GW (lgB L mx) n<n)) (leaf (RV.x (.int .i64 (↑(GW (lgB L mx) n):Int)))) (leaf (RV.x (JO))))) VX ?_
 exact VB
def Zk8:G0:=λl=>some ([l=[lns n L,.fn (.func 110) [] [.ro [.fn (.func 65) [i mx] []]]]],i (if GW (lgB L mx) n<n then (GW (lgB L mx) n:Int) else -1))
theorem Wi3(VV:n<=100000):VS VQ 148 (Zk8 n L mx):=by
 refine ⟨(UJ Tryz.func148),?_⟩;intro avs ns I h hn;cases h;have e:=hn _ GI;subst e;exact Xd6 n L mx VV
theorem Xf3(VV:n<=100000):VZ VQ 109 [lns n L,.fn (.func 110) [] [.ro [.fn (.func 65) [i mx] []]]] (bl (!shB n L mx)):=by
 refine U4 (L:=[]) (Ae (Wi3 n L mx VV) Aa) U0 Tryz.func109 (UV Tryz.f109) U7 (t:=need [U1 ([QF n L,WM mx])] (leaf (RV.x (.bool (decide ((if GW (lgB L mx) n<n then (↑(GW (lgB L mx) n):Int) else (-1:Int))>=(0:Int))))))) VX ?_
 simp only [VO.sat,UE,G5,UH,UK];unfold shB;rw [kB];have:=DZ (lgB L mx) n;have e:(λk=> !(λj=>decide (((L j).size:Int)<=mx)) k)=lgB L mx:=rfl
 rw [e];show decide ((if GW (lgB L mx) n<n then (GW (lgB L mx) n:Int) else -1)>=0)=_
 split<;>simp<;>omega
def Zl0:G0:=λl=>some ([l=[lns n L,.fn (.func 110) [] [.ro [.fn (.func 65) [i mx] []]]]],bl (!shB n L mx))
theorem Wl1(VV:n<=100000):VS VQ 109 (Zl0 n L mx):=by
 refine ⟨(UJ Tryz.func109),?_⟩;intro avs ns I h hn;cases h;have e:=hn _ GI;subst e;exact Xf3 n L mx VV
theorem Wl4(VV:n<=100000):VZ VQ 66 [lns n L,.fn (.func 65) [i mx] []] (bl (shB n L mx)):=by
 refine U4 (L:=[]) (Ae (Wl1 n L mx VV) Aa) U0 Tryz.func66 (UV Tryz.f66) U7 (t:=need [U1 ([QF n L,WM mx])] (leaf (RV.x (.bool !!shB n L mx)))) VX ?_;simp only [VO.sat,UE,G5,UH,UK];show (!!shB n L mx)=_;simp
def Xj8:G0:=λl=>some ([l=[lns n L,.fn (.func 65) [i mx] []]],bl (shB n L mx))
theorem Qn4(VV:n<=100000):VS VQ 66 (Xj8 n L mx):=by
 refine ⟨(UJ Tryz.func66),?_⟩;intro avs ns I h hn;cases h;have e:=hn _ GI;subst e;exact Wl4 n L mx VV
end
section
variable (n:Nat)(L:Nat->ByteArray)
abbrev YI:List AV:=[QF n L,AV.fn (Fn.func 65) [iI 200] []]
theorem NN(VV:n<=100000):VZ VQ 35 [lns n L] (i (ckE n L)):=by
 refine U4 (L:=[]) (Ae (Qn4 n L 200 VV) Aa) U0 Tryz.func35 (UV Tryz.f35) U7 (t:=branch (decide ((n:Int)>50)) (leaf (RV.x (KI))) (need [U1 (YI n L)] (branch (!shB n L (200:Int)) (leaf (RV.x (KI))) (leaf (RV.x (X0)))))) VX ?_;simp only [VO.sat,UE,G5,UH,UK,HG];have hc: ∀b:Bool,shB n L 200=b->ckE n L=if n<=50/\b=true then 0 else 3:=λb h=>by unfold ckE;rw [h]
 cases hs:shB n L 200
 all_goals
  rw [hc _ hs];simp
  try omega
def Wv1:G0:=λl=>some ([l=[lns n L]],i (ckE n L))
theorem LZ(VV:n<=100000):VS VQ 35 (Wv1 n L):=by
 refine ⟨(UJ Tryz.func35),?_⟩;intro avs ns I h hn;cases h;have e:=hn _ GI;subst e;exact NN n L VV
end
def pP:G0
 |[.lst 4 n f]=>some ([n<=100000,gdX 4 n f],.lst 4 n f)
 |_=>none
theorem V3{p:Prop}(h:p:=by
 simp only [VO.sat,UE,G5,true_and];refine ⟨λh=>⟨Ak,h⟩,⟨VL,λk hk x hm=>((UI k hk).2 x hm).2⟩,Ap n,?_⟩
 exact λk hk=>⟨Qb4 f k,λx hm=>((UI k hk).2 x hm).1⟩):p:=h
theorem Xf0(n:Nat)(f:Nat->List AV)(VV:n<=100000)(UI:gdX 4 n f):VZ VQ 99 [.lst 4 n f] (.lst 4 n f):=by
 refine G9 (L:=[]) Aa Ad U0 Tryz.func99 (UV Tryz.f99) G4 (t:=VO.may (n=0) (leaf (RV.x (J4))) (need [(0+n)*32<=140737488355328,∀(i:Nat),i<n-> ∀(a:AV),a∈f i->AV.one a=true] (leaf (RV.lst 4 (0+n) (GJ 0 (λx=>[]) λa=>f a))))) VX ?_
 exact V3
theorem Qa0:VS VQ 99 pP:=by
 refine ⟨(UJ Tryz.func99),?_⟩;intro avs ns I h hn;unfold pP at h;split at h
 ·cases h;exact Xf0 _ _ (hn _ VW) (hn _ VW)
 ·cases h
def pQ:G0
 |[.lst 5 n f]=>some ([n<=100000,gdX 5 n f],.lst 5 n f)
 |_=>none
theorem Xf1(n:Nat)(f:Nat->List AV)(VV:n<=100000)(UI:gdX 5 n f):VZ VQ 100 [.lst 5 n f] (.lst 5 n f):=by
 refine G9 (L:=[]) Aa Ad U0 Tryz.func100 (UV Tryz.f100) G4 (t:=VO.may (n=0) (leaf (RV.x (J4))) (need [(0+n)*40<=140737488355328,∀(i:Nat),i<n-> ∀(a:AV),a∈f i->AV.one a=true] (leaf (RV.lst 5 (0+n) (GJ 0 (λx=>[]) λa=>f a))))) VX ?_
 exact V3
theorem Qa1:VS VQ 100 pQ:=by
 refine ⟨(UJ Tryz.func100),?_⟩;intro avs ns I h hn;unfold pQ at h;split at h
 ·cases h;exact Xf1 _ _ (hn _ VW) (hn _ VW)
 ·cases h
def pO:G0
 |[.lst 5 n f]=>some ([n<=100000,gdX 5 n f],.lst 5 n f)
 |_=>none
theorem Xe9(n:Nat)(f:Nat->List AV)(VV:n<=100000)(UI:gdX 5 n f):VZ VQ 101 [.lst 5 n f] (.lst 5 n f):=by
 refine G9 (L:=[]) Aa Ad U0 Tryz.func101 (UV Tryz.f101) G4 (t:=VO.may (n=0) (leaf (RV.x (J4))) (need [(0+n)*40<=140737488355328,∀(i:Nat),i<n-> ∀(a:AV),a∈f i->AV.one a=true] (leaf (RV.lst 5 (0+n) (GJ 0 (λx=>[]) λa=>f a))))) VX ?_
 exact V3
theorem tZ:VS VQ 101 pO:=by
 refine ⟨(UJ Tryz.func101),?_⟩;intro avs ns I h hn;unfold pO at h;split at h
 ·cases h;exact Xe9 _ _ (hn _ VW) (hn _ VW)
 ·cases h
def pN:G0
 |[.lst 2 n f]=>some ([n<=100000,gdX 2 n f],.lst 2 n f)
 |_=>none
theorem Xe8(n:Nat)(f:Nat->List AV)(VV:n<=100000)(UI:gdX 2 n f):VZ VQ 102 [.lst 2 n f] (.lst 2 n f):=by
 refine G9 (L:=[]) Aa Ad U0 Tryz.func102 (UV Tryz.f102) G4 (t:=VO.may (n=0) (leaf (RV.x (J4))) (need [(0+n)*16<=140737488355328,∀(i:Nat),i<n-> ∀(a:AV),a∈f i->AV.one a=true] (leaf (RV.lst 2 (0+n) (GJ 0 (λx=>[]) λa=>f a))))) VX ?_
 exact V3
theorem tY:VS VQ 102 pN:=by
 refine ⟨(UJ Tryz.func102),?_⟩;intro avs ns I h hn;unfold pN at h;split at h
 ·cases h;exact Xe8 _ _ (hn _ VW) (hn _ VW)
 ·cases h
end Go.Proofs.YtakpdkmhclhlnaaGreatDoor.Hd
namespace Go.Proofs.YtakpdkmhclhlnaaGreatDoor.Hd
open Go Go.Sx Go.RowKit
open Go.Sx.VO (need branch leaf)
open Go.Sx.AV (lst ptr agg roI tup top)
def F2(W:Nat->ByteArray)(s:HS):HS:=match wdK (W 0) with
 | 0=>thS s (U2 (W 1)) (U2 (W 2)) (U2 (W 3)) (U2 (W 4))
 | 1=>stS s (U2 (W 1))
 | 2=>baS s (U2 (W 1)) (U2 (W 2))
 | 3=>btS s (U2 (W 1)) (U2 (W 2))
 | 4=>seS s (U2 (W 1)) (U2 (W 2))
 | 5=>isS s (U2 (W 1)) (U2 (W 2)) (U2 (W 3)) (U2 (W 4))
 | 6=>voS s (U2 (W 1))
 | 7=>slS s (U2 (W 1)) (U2 (W 2)) (U2 (W 3)) (U2 (W 4)) (U2 (W 5))
 |_=>s
def LQ(W:Nat->ByteArray)(n:Nat)(s:HS):Int:=match wdK (W 0) with
 | 0=>fmE W n 4 (thE s (U2 (W 1)) (U2 (W 2)) (U2 (W 3)) (U2 (W 4)))
 | 1=>fmE W n 1 (stE s (U2 (W 1)))
 | 2=>fmE W n 2 (baE s (U2 (W 1)) (U2 (W 2)))
 | 3=>fmE W n 2 (btE s (U2 (W 1)) (U2 (W 2)))
 | 4=>fmE W n 2 (seE s (U2 (W 1)) (U2 (W 2)))
 | 5=>fmE W n 4 (isE s (U2 (W 1)) (U2 (W 2)) (U2 (W 3)) (U2 (W 4)))
 | 6=>fmE W n 1 (voE s (U2 (W 1)))
 | 7=>fmE W n 5 (slE s (U2 (W 1)) (U2 (W 2)) (U2 (W 3)) (U2 (W 4)) (U2 (W 5)))
 |_=>4
structure dY (s:HS):Prop where
 nr:s.nr<=12
 bV:bV s.nb s.ql s.qh s.qm s.qr s.qv
 nc:s.nc<=10
 sV:sV s.ns s.sa s.sb s.sc s.sl s.sh
abbrev hsM(s:HS):H0:=[(0,.cells 99 (hsL s)),(1,.row 23 1 s.xn s.xg),(2,.row 9 1 s.yn s.yg)]
theorem Ql1{str:ByteArray}{n:Nat}{W:Nat->ByteArray}{s:HS}(h:vD str n W)(hs:dY s):
  wD VQ 106 [.ptr 0 0,.x (.string str)] (hsM s) 901 [[.ptr 0 0,.row 1,.row 2]] 211 (OS (F2 W s)) (OX s) (rsE (LQ W n s)):=by
 rcases A5 (W 0) with ⟨h1,h2⟩|⟨h1,_⟩
 ·have hV: ∀q,wdL[q]? =some (W 0)->U6 (UQ q) (λk=>W (k+1))=W:=by
   intro q hq;funext k;cases k with
   |zero=>
    show UQ q=W 0;unfold UQ;rw [List.getD_eq_getElem?_getD,hq];rfl
   |succ k=>rfl
  unfold F2 LQ;rcases (show wdK (W 0)=0\/wdK (W 0)=1\/wdK (W 0)=2\/wdK (W 0)=3\/wdK (W 0)=4\/wdK (W 0)=5\/wdK (W 0)=6\/wdK (W 0)=7 by omega) with h3|h3|h3|h3|h3|h3|h3|h3
  all_goals
   rw [h3] at h2 ⊢;have e:=hV _ h2;have h':=h;rw [←e] at h'
  ·have k:=Qk9 (λk=>W (k+1)) n str s h' hs.nr
   rw [e] at k;exact k
  ·have k:=Ql0 (λk=>W (k+1)) n str s h' hs.nr
   rw [e] at k;exact k
  ·have k:=Xc4 (λk=>W (k+1)) n str s h'
   rw [e] at k;exact k
  ·have k:=Xc3 (λk=>W (k+1)) n str s h' hs.bV.1.1
   rw [e] at k;exact k
  ·have k:=Zf1 (λk=>W (k+1)) n str s h' hs.bV
   rw [e] at k;exact k
  ·have k:=Wc8 (λk=>W (k+1)) n str s h' hs.nc
   rw [e] at k;exact k
  ·have k:=Xc1 (λk=>W (k+1)) n str s h' hs.nc
   rw [e] at k;exact k
  ·have k:=Xc2 (λk=>W (k+1)) n str s h' hs.sV
   rw [e] at k;exact k
 ·have h0:wdO (W 0)=false:=by
   unfold wdO;rw [h1];rfl
  have k:=Zz3 W n str s h h0;unfold LQ;rw [h1];show wD _ _ _ _ _ _ _ (OS (F2 W s)) _ _;have e:F2 W s=s:=by
   unfold F2;rw [h1];rfl
  rw [e];exact k
theorem fm0{W:Nat->ByteArray}{n many:Nat}{e:Int}(h:fmE W n many e=0):e=0:=by
 unfold fmE at h;split at h
 ·exact h
 ·exact absurd h (by decide)
theorem Wz6{W:Nat->ByteArray}{n:Nat}{s:HS}(hs:dY s)(h0:LQ W n s=0):dY (F2 W s):=by
 unfold LQ at h0;unfold F2;split at h0
 ·have h:=fm0 h0;unfold thE at h;split at h
  ·split at h
   ·exact ⟨by show s.nr+1<=12;omega,hs.bV,hs.nc,hs.sV⟩
   ·exact absurd h (by decide)
  ·exact absurd h (by decide)
 ·exact ⟨by show s.nr-1<=12;have:=hs.nr;omega,hs.bV,hs.nc,hs.sV⟩
 ·exact ⟨hs.nr,hs.bV,hs.nc,hs.sV⟩
 ·have h:=fm0 h0;unfold btE at h;split at h
  ·rename_i hb;split at h
   ·rename_i h6;have hx:=(bt_iff _ _ _).1 hb.1;refine ⟨hs.nr,⟨⟨by show s.nb+1<=6;omega,λb hb'=>?_⟩,λb hb' j k hjk hk=>?_⟩,hs.nc,hs.sV⟩
    ·have hb':b<s.nb+1:=hb';show (if b<s.nb then s.qm b else 0)<=10/\0<=HE s.nb s.ql _ b/\HE s.nb s.ql _ b<=HE s.nb s.qh _ b/\HE s.nb s.qh _ b<=1000/\ ∀j,j<(if b<s.nb then s.qm b else 0)->0<=s.qr b j/\s.qr b j<=2/\ -1000<=s.qv b j/\s.qv b j<=2000
     unfold HE;by_cases e:b<s.nb
     ·simp only [if_pos e];exact hs.bV.1.2 b e
     ·simp only [if_neg e];exact ⟨VL,hx.1,hx.2,hb.2,λj hj=>VL⟩
    ·have hk:k<(if b<s.nb then s.qm b else 0):=hk
     by_cases e:b<s.nb
     ·rw [if_pos e] at hk;exact hs.bV.2 b e j k hjk hk
     ·rw [if_neg e] at hk;omega
   ·exact absurd h (by decide)
  ·exact absurd h (by decide)
 ·have h:=fm0 h0;unfold seE at h;split at h
  ·rename_i g1;split at h
   ·rename_i g2;split at h
    ·rename_i g3;split at h
     ·rename_i g4;exact ⟨hs.nr,Zu9 hs.bV g1 g2 g3 g4,hs.nc,hs.sV⟩
     ·exact absurd h (by decide)
    ·exact absurd h (by decide)
   ·exact absurd h (by decide)
  ·exact absurd h (by decide)
 ·have h:=fm0 h0;unfold isE at h;split at h
  ·split at h
   ·exact ⟨hs.nr,hs.bV,by show s.nc+1<=10;omega,hs.sV⟩
   ·exact absurd h (by decide)
  ·exact absurd h (by decide)
 ·exact ⟨hs.nr,hs.bV,hs.nc,hs.sV⟩
 ·have h:=fm0 h0;unfold slE at h;split at h
  ·rename_i g1;split at h
   ·rename_i g2;exact ⟨hs.nr,hs.bV,hs.nc,slV g1 (by simp;omega) hs.sV⟩
   ·exact absurd h (by decide)
  ·exact absurd h (by decide)
 ·exact absurd h0 (by decide)
def LM(e:UM)(q r t:Nat)(x:Nat):Option Nat:=if x=e.blk q then some q else if (e.val r).ownBlock=some x then some r else if (e.val t).ownBlock=some x then some t else none
theorem tQ(s:HS): ∀a∈hsL s,Idf a:=by
 intro a ha;simp only [GM,DL,or_false] at ha;rcases ha with rfl|rfl|rfl|rfl|rfl|rfl
 ·exact .lst _ _ _ λk _ x hx=>by
   simp only [GM,DL,or_false] at hx;rcases hx with rfl|rfl|rfl|rfl<;>exact .x _
 ·exact .x _
 ·exact .x _
 ·exact tU _ _ _ _ _ _
 ·exact VK
 ·exact VK
theorem Zf3{str:ByteArray}{s s':HS}{er:Int}(hE:wD VQ 106 [.ptr 0 0,.x (.string str)] (hsM s) 901 [[.ptr 0 0,.row 1,.row 2]] 211 (OS s') (OX s) (rsE er))(hx:s'.xn=s.xn/\s'.xg=s.xg/\s'.yn=s.yn/\s'.yg=s.yg)
  {e:UM}{w0 w:World}{T:Nat->Prop}{q r t:Nat}(hEv:UY e w0.heap.size w)(hB:Below w0.heap.size w0 w)(hT: ∀b,T b->b<w0.heap.size/\ ¬e.ro b)
  (hq:GH e w q (.cells 99 (hsL s)))(hr:GH e w r (.row 23 1 s.xn s.xg))(ht:GH e w t (.row 9 1 s.yn s.yg))(hqr:q≠r)(hqt:q≠t)(hrt:r≠t)(hrv: ∃a b c,e.val r= .slice a b c)(htv: ∃a b c,e.val t= .slice a b c):
  Calls Tryz.prog 106 #[.pointer (some ⟨e.blk q,0,none⟩),.string str] w λen Z=>en=Xg4 211 (rsE er)/\Below w0.heap.size w0 Z/\w.heap.size<=Z.heap.size/\
   (∀x,(e.ro x\/(w0.heap.size<=x/\x<w.heap.size/\e.own x≠some q/\e.own x≠some r/\e.own x≠some t))->Z.heap[x]? =w.heap[x]?)/\
   ∃ro1:Nat->Prop,(∀x,e.ro x->ro1 x)/\(∀x,T x-> ¬ro1 x)/\UY {e with ro:=ro1,own:=LM e q r t} w0.heap.size Z/\
    GH {e with ro:=ro1,own:=LM e q r t} Z q (.cells 99 (cond (rsE er).1 (hsL s') [.top,.top,.top,.top,.top,.top]))/\
    GH {e with ro:=ro1,own:=LM e q r t} Z r (.row 23 1 s.xn s.xg)/\GH {e with ro:=ro1,own:=LM e q r t} Z t (.row 9 1 s.yn s.yg):=by
 let e0:UM:={ro:=λx=>e.ro x\/(w0.heap.size<=x/\x<w.heap.size/\e.own x≠some q/\e.own x≠some r/\e.own x≠some t),own:=λx=>if e.own x=some q then some 0 else if e.own x=some r then some 1 else if e.own x=some t then some 2 else none,live:=λk=>k<901,blk:=λ_=>e.blk q,val:=λk=>if k=1 then e.val r else e.val t}
 obtain ⟨ql,qo,vs,qh,qv⟩:=hq;obtain ⟨rl,ro,rf,rxs,rh,rv⟩:=hr;obtain ⟨tl,to,tf,txs,th,tv⟩:=ht;have oq: ∀{x},e.own x=some q->e0.own x=some 0:=λh=>if_pos h
 have or_: ∀{x},e.own x=some r->e0.own x=some 1:=λh=>by simp [e0,h,hqr.symm]
 have ot: ∀{x},e.own x=some t->e0.own x=some 2:=λh=>by simp [e0,h,hqt.symm,hrt.symm]
 have hE0:UY e0 w0.heap.size w:=by
  refine ⟨λx hx=>?_,λx k hk=>?_,λg p hp=>⟨.inl (hEv.glob g p hp).1,(hEv.glob g p hp).2⟩⟩
  ·rcases hx with hx|⟨_,h2,h3,h4,h5⟩
   ·obtain ⟨h1,h2⟩:=hEv.apart x hx;exact ⟨by simp [e0,h1],h2⟩
   ·exact ⟨by simp [e0,h3,h4,h5],h2⟩
  ·have hk:(if e.own x=some q then some 0 else if e.own x=some r then some 1 else if e.own x=some t then some 2 else none)=some k:=hk
   split at hk
   ·rename_i h;exact hEv.owned x _ h
   split at hk
   ·rename_i h;exact hEv.owned x _ h
   split at hk
   ·rename_i h;exact hEv.owned x _ h
   ·cases hk
 have sub0: ∀b,e.ro b->e0.ro b:=λb h=> .inl h
 have idfL:=tQ s;have hM:UW e0 (hsM s) w:=by
  intro p hp;simp only [GM,DL,or_false] at hp;rcases hp with rfl|rfl|rfl
  ·exact ⟨show 0<901 by omega,oq qo,vs,qh,⟨qv.1,λi a v ha A=>Rep.idf sub0 (qv.2 i a v ha A) (idfL a (DX ha))⟩⟩
  ·exact ⟨show 1<901 by omega,λb hb=>or_ (ro b hb),rf,rxs,rh,λi j a v O ha A=>Rep.idf sub0 (rv i j a v O ha A) ((rf i O).2 a (DX ha))⟩
  ·exact ⟨show 2<901 by omega,λb hb=>ot (to b hb),tf,txs,th,λi j a v O ha A=>Rep.idf sub0 (tv i j a v O ha A) ((tf i O).2 a (DX ha))⟩
 let c0:Cx:={M:=λ_=>False,Φ:=λ_ _ _=>True,K:=λx o=>e0.ro x/\w.heap[x]? =some o,saved:=[[.pointer (some ⟨e.blk q,0,none⟩),e.val r,e.val t]],sz:=w.heap.size}
 have hS:U3 e0 w [.ptr 0 0,.row 1,.row 2] [.pointer (some ⟨e.blk q,0,none⟩),e.val r,e.val t]:=by
  obtain ⟨a1,b1,d1,h1⟩:=hrv;obtain ⟨a2,b2,d2,h2⟩:=htv;refine .cons (.ptr 0 0 (show 0<901 by omega)) (.cons ?_ (.cons ?_ (.nil _ _)))
  ·rw [h1];exact .row 1 _ _ _ (show 1<901 by omega) h1
  ·rw [h2];exact .row 2 _ _ _ (show 2<901 by omega) h2
 have hX:Xt c0 e0 [[.ptr 0 0,.row 1,.row 2]] [] w:=
  ⟨⟨λd hd=>(by cases hd),List.nodup_nil⟩,λx o hk=>⟨hk.1,(hE0.apart x hk.1).2,hk.2⟩,L6.cons hS ⟨rfl,λi a v h=>by simp at h⟩,Am _⟩
 have hT0: ∀b,T b->b<w0.heap.size/\ ¬e0.ro b:=λb hb=>⟨(hT b hb).1,λh=>by
  rcases h with h|⟨h,_⟩
  ·exact (hT b hb).2 h
  ·have:=(hT b hb).1;omega⟩
 have hA:U3 e0 w [.ptr 0 0,.x (.string str)] [.pointer (some ⟨e.blk q,0,none⟩),.string str]:= .cons (.ptr 0 0 (show 0<901 by omega)) (.cons (.x _) (.nil _ _))
 refine (hE c0 w0 T e0 [] _ w hE0 hB hM (λk hk=>hk) hT0 hX hA).mono ?_
 rintro en Z ⟨hen,e1,g1,g2,g3,g4,g5,g6⟩;have NM: ∀x,e0.ro x->e1.ro x/\Z.heap[x]? =w.heap[x]? :=by
  intro x hx;have hlt:=(hE0.apart x hx).2;have hk:=g6.kept x w.heap[x] ⟨hx,by simp [hlt]⟩
  exact ⟨hk.1,by rw [hk.2.2];simp [hlt]⟩
 have hsv:(cond (rsE er).1 (OS s') (OX s)).sv=[[.ptr 0 0,.row 1,.row 2]]:=by
  cases (rsE er).1<;>rfl
 have hsd:=g6.saved;rw [hsv] at hsd;have hs1:=hsd.2 0 _ _ rfl rfl;obtain ⟨v0,l0,q0,r0,hs1⟩:=hs1.cons_inv;obtain ⟨rfl,rfl⟩:=List.cons.inj q0;obtain ⟨v1,l1,q1,r1,hs1⟩:=hs1.cons_inv;obtain ⟨rfl,rfl⟩:=List.cons.inj q1;obtain ⟨v2,l2,q2,r2,_⟩:=hs1.cons_inv;obtain ⟨rfl,rfl⟩:=List.cons.inj q2;have b0:e1.blk 0=e.blk q:=by
  generalize A:Value.pointer (some ⟨e.blk q,0,none⟩)=v at r0;cases r0;injection A with A
  injection A with A
  injection A with A _
  exact A.symm
 have u1:e1.val 1=e.val r:=by
  generalize A:e.val r=v at r1;cases r1;assumption
 have u2:e1.val 2=e.val t:=by
  generalize A:e.val t=v at r2;cases r2;assumption
 have m0:GH e1 Z 0 (.cells 99 (cond (rsE er).1 (hsL s') [.top,.top,.top,.top,.top,.top])):=by
  cases hb:(rsE er).1
  ·rw [hb] at g3;exact g3 (0,.cells 99 [.top,.top,.top,.top,.top,.top]) (by simp [OX])
  ·rw [hb] at g3;exact g3 (0,.cells 99 (hsL s')) (by simp [OS])
 have m1:GH e1 Z 1 (.row 23 1 s.xn s.xg):=by
  cases hb:(rsE er).1
  ·rw [hb] at g3;exact g3 (1,.row 23 1 s.xn s.xg) (by simp [OX])
  ·rw [hb] at g3;have:=g3 (1,.row 23 1 s'.xn s'.xg) (by simp [OS]);rw [hx.1,hx.2.1] at this;exact this
 have m2:GH e1 Z 2 (.row 9 1 s.yn s.yg):=by
  cases hb:(rsE er).1
  ·rw [hb] at g3;exact g3 (2,.row 9 1 s.yn s.yg) (by simp [OX])
  ·rw [hb] at g3;have:=g3 (2,.row 9 1 s'.yn s'.yg) (by simp [OS]);rw [hx.2.2.1,hx.2.2.2] at this;exact this
 have hsz:w.heap.size<=Z.heap.size:=g6.size;obtain ⟨_,n0,vs1,k0,k1⟩:=m0;obtain ⟨_,n1,f1,xs1,p1,p2⟩:=m1;obtain ⟨_,n2,f2,xs2,y1,y2⟩:=m2;rw [b0] at n0 k0;rw [u1] at n1 p1;rw [u2] at n2 y1;have idfC: ∀a∈(cond (rsE er).1 (hsL s') [.top,.top,.top,.top,.top,.top]),Idf a:=by
  cases (rsE er).1
  ·intro a ha;simp only [cond_false,GM,DL,or_false,or_self] at ha;subst ha;exact .top
  ·exact tQ s'
 have oq1:LM e q r t (e.blk q)=some q:=if_pos rfl;have or1: ∀b,(e.val r).ownBlock=some b->LM e q r t b=some r:=by
  intro b hb;have:b≠e.blk q:=by
   rintro rfl;have:=n1 _ hb;rw [n0] at this;cases this
  unfold LM;rw [if_neg this,if_pos hb]
 have ot1: ∀b,(e.val t).ownBlock=some b->LM e q r t b=some t:=by
  intro b hb;have h1:b≠e.blk q:=by
   rintro rfl;have:=n2 _ hb;rw [n0] at this;cases this
  have h2:(e.val r).ownBlock≠some b:=by
   intro h;have h3:=n1 _ h;rw [n2 _ hb] at h3;cases h3
  unfold LM;rw [if_neg h1,if_neg h2,if_pos hb]
 have cv: ∀{a:AV} {v:Value},Rep e1 Z a v->Idf a->Rep {e with ro:=e1.ro,own:=LM e q r t} Z a v:=λh k=>Rep.idf (e:=e1) (e':={e with ro:=e1.ro,own:=LM e q r t}) (λ_ h=>h) h k
 refine ⟨hen,g2,hsz,λx hx=>(NM x hx).2,e1.ro,λx hx=>(NM x (sub0 x hx)).1,λx hx=>(g5 x hx).2,⟨λx hx=>⟨?_,(g1.apart x hx).2⟩,λx k hk=>?_,λg p hp=>g1.glob g p hp⟩,⟨ql,oq1,vs1,k0,⟨k1.1,λi a v ha A=>cv (k1.2 i a v ha A) (idfC a (DX ha))⟩⟩,⟨rl,or1,f1,xs1,p1,λi j a v O ha A=>cv (p2 i j a v O ha A) ((f1 i O).2 a (DX ha))⟩,⟨tl,ot1,f2,xs2,y1,λi j a v O ha A=>cv (y2 i j a v O ha A) ((f2 i O).2 a (DX ha))⟩⟩
 ·have h0:=(g1.apart x hx).1;have c1:x≠e.blk q:=by
   rintro rfl;rw [n0] at h0;cases h0
  have c2:(e.val r).ownBlock≠some x:=λh=>by
   rw [n1 _ h] at h0;cases h0
  have c3:(e.val t).ownBlock≠some x:=λh=>by
   rw [n2 _ h] at h0;cases h0
  show LM e q r t x=none;unfold LM;rw [if_neg c1,if_neg c2,if_neg c3]
 ·have up: ∀{x j},e.own x=some j->w0.heap.size<=x/\x<Z.heap.size:=λh=>⟨(hEv.owned _ _ h).1,xO (hEv.owned _ _ h).2 hsz⟩
  have hk:LM e q r t x=some k:=hk;unfold LM at hk;split at hk
  ·rename_i h;rw [h];exact up qo
  split at hk
  ·rename_i h;exact up (ro _ h)
  split at hk
  ·rename_i h;exact up (to _ h)
  ·cases hk
end Go.Proofs.YtakpdkmhclhlnaaGreatDoor.Hd
