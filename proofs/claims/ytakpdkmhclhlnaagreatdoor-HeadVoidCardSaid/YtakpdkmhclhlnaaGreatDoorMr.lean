/- Contracts, put together. Conditions: those of each. -/
import Derived.Test.YtakpdkmhclhlnaaGreatDoorMq
import Derived.Deep.RegionHeld3
set_option linter.unusedSimpArgs false
set_option linter.unusedVariables false
set_option maxRecDepth 100000
namespace Go.Proofs.YtakpdkmhclhlnaaGreatDoor.Hd
open Go Go.Shelf Go.Sx Go.RowKit
theorem Wq5{w:World}{b o n S:Nat}{s:ByteArray}(hs:s.size=n)(h: ∀j,j<n->w.cell? ⟨b,o+j,none⟩=some (.int .u8 (byN s j))):
  (convert 87 9 (.slice (some ⟨b,o,none⟩) n S)).run Tryz.prog w= .ok (.string s) w:=by
 have hk:=run_convert_bytes_back (P:=Tryz.prog) w 87 9 5 ⟨b,o,none⟩ S s.data.toList VT VT VT (λj hj=>by
  have hj':j<s.data.size:=by simpa using hj
  have h2:=h j (by have:s.data.size=s.size:=rfl;omega)
  rw [D7,h2];unfold byN;rw [LU,Array.getElem?_eq_getElem hj'];simp)
 have e1:s.data.toList.length=n:=by
  rw [Array.length_toList];exact hs
 rw [e1] at hk;exact hk
set_option maxHeartbeats 4000000 in
theorem iQ{n:Int}(h:0<=n/\n<=9){s:ByteArray}(hs:s.size=1)(hb:byN s 0=48+n)(w:World):Calls Tryz.prog 29 #[.int .i64 n] w λen w'=>en= .returned (.string s)/\Below w.heap.size w w':=by
 have h1:decide (n<0)=false:=decide_eq_false VJ;have h2:decide (n<10)=true:=decide_eq_true VJ;have h3: ¬n<0:=VJ;have h4:n<10:=VJ;have hc:(convert 87 9 (.slice (some ⟨w.heap.size,0,none⟩) 1 1)).run Tryz.prog (w.alloc (Obj.cells #[.int .u8 (48+n)] 5))= .ok (.string s) (w.alloc (Obj.cells #[.int .u8 (48+n)] 5)):=by
  refine Wq5 hs λj hj=>?_
  obtain rfl:j=0:=VJ;have hh:(w.alloc (Obj.cells #[.int .u8 (48+n)] 5)).heap[w.heap.size]? =some (Obj.cells #[.int .u8 (48+n)] 5):=heap_alloc_new w _;rw [hb];simp only [World.cell?,hh];rfl
 have hB:Below w.heap.size w (w.alloc (Obj.cells #[.int .u8 (48+n)] 5)):=(Below.refl _ _).alloc (Am _) _
 go_enter Tryz.func29,Tryz.ntmps29
 go_wp2
 try rw [hc]
 try go_wp2
 go_ret
 exact ⟨rfl,hB⟩
def Wv6:UW
 |[.x (.int .i64 n)]=>some ([0<=n/\n<=9],.x (.string ⟨#[UInt8.ofNat (48+n.toNat)]⟩))
 |_=>none
theorem Xl4:VP VO 29 Wv6:=by
 refine ⟨(UG Tryz.func29),?_⟩;intro avs ns I h A;unfold Wv6 at h;split at h
 ·rename_i n;cases h;have h1:0<=n/\n<=9:=A _ VV;intro e w args q1 q2 q3 q4;obtain ⟨u,us,rfl,r1,r2⟩:=q4.cons_inv;cases r2.nil_inv;cases r1.x_inv;refine (iQ (s:=⟨#[UInt8.ofNat (48+n.toNat)]⟩) h1 rfl (by
   show ((UInt8.ofNat (48+n.toNat)).toNat:Int)=_;rw [UInt8.toNat_ofNat_of_lt' (by show _<256;omega)]
   omega) w).mono ?_
  rintro en w1 ⟨rfl,hb⟩;exact ⟨_,rfl,hb,.x _⟩
 ·cases h
end Go.Proofs.YtakpdkmhclhlnaaGreatDoor.Hd
namespace Go.Proofs.YtakpdkmhclhlnaaGreatDoor.Hd
open Go Go.Sx Go.RowKit Bo
open Go.Sx.VM (need branch leaf)
open Go.Sx.AV (lst ptr agg roI tup top)
def sF(n:Nat)(f g:Nat->List AV):Prop:= ∀k,k<n->f k=g k
def Xs9:UW
 |[.lst 1 n f,.x (.int .i64 most)]=>some ([sF n f (λk=>[.x (.string (lnF f k))])],bl (rdB n (lnF f) most))
 |_=>none
def Jn2(n:Nat)(L:Nat->ByteArray):DA:=λl=>some (.need [l=[lns n L],ckE n L=0] (.leaf (.tup [.agg (hsL (sK L n)),.lst 1 (kpN L n) (λz=>[.x (.string (kpF L n z))]),bl true])))
def Zj2:List AV->Int
 |[.x (.int .i64 v)]=>v
 |_=>0
def Xe0(n:Nat)(g:Nat->List AV)(k:Int):Prop:= ∀j,j<n->g j=[i (Zj2 (g j))]/\Zj2 (g j)≠k
def OR:UW
 |[.lst 1 1 f,.lst 1 n g]=>match f 0 with
  |[.x (.int .i64 k)]=>some ([n<=100000,Xe0 n g k],bl false)
  |_=>none
 |_=>none
def vkN(n:Nat)(L:Nat->ByteArray)(d:Int):Nat:=(d.tmod ((sK L n).nc:Nat)).toNat
def Xt2(n m:Nat)(L M:Nat->ByteArray)(k:Nat):DA:=λl=>match l with
 |[.lst 1 N f,.x (.int .i64 y)]=>some (.need [N=n+1+m,sF N f (λj=>[.x (.string (vdL n L k M j))]),ckE (n+1+m) (vdL n L k M)=0,0<=y/\y<=10000] (.leaf (.tup [.lst 1 (G6 (stP (sK (vdL n L k M) (n+1+m)) y) (sK (vdL n L k M) (n+1+m)).nc) (λz=>[i (UP (stP (sK (vdL n L k M) (n+1+m)) y) (sK (vdL n L k M) (n+1+m)).nc z)]),i 0])))
 |_=>none
theorem Zi9:VP VO 15 Xs9:=by
 refine ⟨(UG Tryz.func15),?_⟩;intro avs ns I h A;unfold Xs9 at h;split at h
 ·rename_i n f most;cases h;have h1:sF n f (λk=>[.x (.string (lnF f k))]):=A _ VV
  exact (Ql8 n (lnF f) most).same (.cons (.lst 1 n _ _ h1) (.cons (.refl _) .nil))
 ·cases h
theorem Zg9(n:Nat)(L:Nat->ByteArray):Sx.Enters Tryz.prog 16/\ ∀avs t,Jn2 n L avs=some t->UN VO 16 avs t:=by
 refine ⟨(UG Tryz.func16),?_⟩;intro avs t h;cases h;intro Q hQ;have e:avs=[lns n L]:=hQ.1.1;have h0:ckE n L=0:=hQ.1.2;subst e;exact oB n L h0 Q hQ.2
theorem o2:VP VO 30 OR:=by
 refine ⟨(UG Tryz.func30),?_⟩;intro avs ns I h A;unfold OR at h;split at h
 ·rename_i f n g;split at h
  ·rename_i k hf;cases h;have h1:n<=100000:=A _ VV;have h2:Xe0 n g k:=A _ VV;refine (o8 n (λj=>Zj2 (g j)) k h1 λj hj=>(h2 j hj).2).same (.cons (.lst 1 1 _ _ λq hq=>?_) (.cons (.lst 1 n _ _ λq hq=>(h2 q hq).1) .nil))
   obtain rfl:q=0:=VJ;exact hf
  ·cases h
 ·cases h
theorem Zc2(n m:Nat)(L M:Nat->ByteArray)(k:Nat):Sx.Enters Tryz.prog 9/\ ∀avs t,Xt2 n m L M k avs=some t->UN VO 9 avs t:=by
 refine ⟨(UG Tryz.func9),?_⟩;intro avs t h;unfold Xt2 at h;split at h
 ·rename_i N f y;cases h;intro Q hQ;obtain rfl:N=n+1+m:=hQ.1.1;have h2:sF (n+1+m) f (λj=>[.x (.string (vdL n L k M j))]):=hQ.1.2.1
  have h0:ckE (n+1+m) (vdL n L k M)=0:=hQ.1.2.2.1;have h3:0<=y/\y<=10000:=hQ.1.2.2.2;have hk:=jZ h0;have hb:bt 0 y 10000=true:=(bt_iff _ _ _).2 h3;intro e w args q1 q2 q3 q4;refine gC (n+1+m) (vdL n L k M) y VJ Q ⟨λh=>?_,λ_=>⟨λh=>?_,λ_=>hQ.2⟩⟩ e w args q1 q2 ?_ ?_
  ·rw [h0] at h;exact absurd h (by decide)
  ·rw [hb] at h;exact absurd h (by decide)
  ·intro a ha;simp only [GM,DO,or_false] at ha;rcases ha with rfl|rfl
   ·exact .lst _ _ _ λk _ x hx=>by rw [BC.1 hx];exact .x _
   ·exact .x _
  ·obtain ⟨u,us,rfl,r1,r2⟩:=q4.cons_inv;exact .cons (RY (a:= .lst 1 (n+1+m) f) ⟨rfl,rfl,h2⟩ r1) r2
 ·cases h
theorem Zb5{n:Nat}{L:Nat->ByteArray}{d:Int}(A:0<(sK L n).nc)(h:0<=d):d.tmod ((sK L n).nc:Nat)=(vkN n L d:Int)/\vkN n L d<(sK L n).nc:=by
 have h1:d.tmod ((sK L n).nc:Nat)=d%((sK L n).nc:Nat):=Int.tmod_eq_emod_of_nonneg h;have h2:=Int.emod_nonneg d (show (((sK L n).nc:Nat):Int)≠0 by omega)
 have h3:=Int.emod_lt_of_pos d (show (0:Int)<((sK L n).nc:Nat) by omega)
 unfold vkN;omega
section
variable (s:ByteArray)(l:List AV)
theorem Jb6:H0 true [.x (.string s)] l=[.x (.string s)]:=by
 cases l with
 |nil=>rfl
 |cons b l=>cases l<;>rfl
theorem mg_f(h:l.length<=1):H0 false l [.x (.string s)]=[.x (.string s)]:=by
 match l,h with
 |[],_=>rfl
 |[a],_=>
  cases a with
  |x v=>cases v<;>rfl
  |_=>rfl
 |_::_::_,h=>simp at h
end
section
variable {n m k:Nat}{L M:Nat->ByteArray}
theorem Zb6{x:ByteArray}(hx:x=vdB k):sF (n+1+m) (GE (n+1) (GE n (GE 0 (λ_=>[]) (λz=>[.x (.string (L z))])) (U4 1 [.x (.string x)])) (λz=>[.x (.string (M z))])) (λj=>[.x (.string (vdL n L k M j))]):=by
 subst hx;intro j hj;show H0 (decide (j<n+1)) (H0 (decide (j<n)) (GE 0 (λ_=>[]) (λz=>[HZ (L z)]) j) (U4 1 _ (j-n))) [AV.x (.string (M (j-(n+1))))]=[HZ (vdL n L k M j)]
 rw [OC];unfold vdL;rcases An j n with h1|h1
 ·rw [if_pos h1,decide_eq_true (show j<n+1 by omega),decide_eq_true h1,Jb6,Jb6]
 ·rw [if_neg VJ];rcases (show j=n\/n+1<=j by omega) with rfl|h2
  ·rw [if_pos rfl,decide_eq_true (show j<j+1 by omega),decide_eq_false (show ¬j<j by omega),Bs]
   rfl
  ·rw [if_neg VJ,decide_eq_false (show ¬j<n+1 by omega),decide_eq_false (show ¬j<n by omega)]
   refine mg_f _ _ ?_;generalize hc:U4 1 [HZ (vdB k)] (j-n)=c;have hl:c.length<=1:=by
    rw [←hc];unfold U4;rw [List.length_take];omega
   match c,hl with
   |[],_=>exact Ao _
   |[b],_=>exact Am _
   |_::_::_,h=>simp at h
theorem Zw0(A:n<=24)(hm:m<=24)(h1:ckE n L=0)(h2:ckE m M=0):ckE (n+1+m) (vdL n L k M)=0:=by
 refine Xr9 VJ λj hj=>?_
 unfold vdL;split
 ·rename_i h;exact (jZ h1).2 j h
 ·split
  ·show 6<=200;omega
  ·exact (jZ h2).2 _ VJ
theorem Zv9(hk:k<(sK L n).nc)(y:Int):Xe0 (G6 (stP (sK (vdL n L k M) (n+1+m)) y) (sK (vdL n L k M) (n+1+m)).nc) (λz=>[i (UP (stP (sK (vdL n L k M) (n+1+m)) y) (sK (vdL n L k M) (n+1+m)).nc z)]) k:=by
 intro j hj;refine ⟨rfl,?_⟩;show ((UP (stP (sK (vdL n L k M) (n+1+m)) y) (sK (vdL n L k M) (n+1+m)).nc j:Nat):Int)≠k;intro e;have e:UP (stP (sK (vdL n L k M) (n+1+m)) y) (sK (vdL n L k M) (n+1+m)).nc j=k:=VJ;have h1:=(kM hj).2;rw [e] at h1;have h2:=(Zb7 (m:=m) (M:=M) hk).2;unfold stP stB at h1;rw [h2] at h1;simp at h1
end
noncomputable def Xm6:HX:=dG Tryz.prog [] {} [] Tryz.f22 (U7 Tryz.f22)
theorem Ql9:GB VO 22 Xm6:=
 FW (G:=[]) (X:=WA) (L:=[]) Aa Ad VY (UG Tryz.func22) Tryz.func22 (UT Tryz.f22) U3
theorem Xx9(n:Nat)(L:Nat->ByteArray)(m:Nat)(M:Nat->ByteArray)(d y:Int)(VR:0<=d/\d<=255)(UE:0<=y/\y<=65535):VX VO 7 [lns n L,lns m M,.x (.int .u8 d),.x (.int .u16 y)] (bl true):=by
 refine GA (L:=[]) (Ae Zi9 (Ae Qv9 (Ae Xl4 (Ae o2 Aa)))) (Aj Ab (Ag Ql9 Ac) (Ah (Zg9 n L) (Ah (Zc2 n m L M (vkN n L d)) (UA.nil _)))) VY Tryz.func7 (UT Tryz.f7) G5 (t:=let Z:=(sK (vdL n L (vkN n L d) M) (n+1+m));let z3:=(Int.tmod d (↑((sK L n).nc):Int));let z1:=([HZ ({data:=#[118,111,105,100,32] }++{data:=#[UInt8.ofNat (48+Int.toNat z3)] })]);let W:=(leaf (RV.x (.bool true)));let z4:=(stP Z (Int.tmod y (10001:Int)));(need [sF n (λk=>[HZ (L k)]) λk=>[AV.x (.string (lnF (λk=>[HZ (L k)]) k))]] (branch (!rdB n (lnF λk=>[HZ (L k)]) (24:Int)) W (need [sF m (λk=>[HZ (M k)]) λk=>[AV.x (.string (lnF (λk=>[HZ (M k)]) k))]] (branch (!rdB m (lnF λk=>[HZ (M k)]) (24:Int)) W (need [(KV n L),ckE n L=0] (branch (!true) (leaf (RV.x (WM))) (branch ((↑((sK L n).nc):Int)==0) W (need [VL d] (need [(↑((sK L n).nc):Int)≠0] (need [(0+n)*16<=140737488355328,∀(i:Nat),i<n-> ∀(a:AV),a∈[HZ (L i)]->AV.one a=true] (need [(0:Int)<=Int.tmod d (↑((sK L n).nc):Int)/\Int.tmod d (↑((sK L n).nc):Int)<=9] (need [(↑(ByteArray.size {data:=#[118,111,105,100,32] }+ByteArray.size {data:=#[UInt8.ofNat (48+Int.toNat z3)] }):Int)<=9223372036854775807] (need [(0+n+1)*16<=140737488355328,∀(i:Nat),i<1-> ∀(a:AV),a∈U4 1 z1 i->AV.one a=true] (need [(0+n+1+m)*16<=140737488355328,∀(i:Nat),i<m-> ∀(a:AV),a∈[HZ (M i)]->AV.one a=true] (need [VL y] (need [(10001:Int)≠0] (need [0+n+1+m=n+1+m,sF (0+n+1+m) (GE (0+n+1) (GE (0+n) (GE 0 (λx=>[]) λk=>[HZ (L k)]) (U4 1 z1)) λk=>[HZ (M k)]) λj=>[HZ (vdL n L (vkN n L d) M j)],ckE (n+1+m) (vdL n L (vkN n L d) M)=0,(0:Int)<=Int.tmod y (10001:Int)/\Int.tmod y (10001:Int)<=10000] (branch ((0:Int)==0) (need [G6 z4 Z.nc<=100000,Xe0 (G6 z4 Z.nc) (λz=>[i (↑(UP z4 Z.nc z):Int)]) z3] (branch (!false) W (leaf (RV.x (WM))))) (leaf (RV.x (WM)))))))))))))))))))))) VT ?_
 have hL0:(lnF λk=>[HZ (L k)])=L:=rfl
 have hM0:(lnF λk=>[HZ (M k)])=M:=rfl
 rw [hL0,hM0];simp only [VM.sat,UB,G4,GJ,UD,UH,VL,DZ];refine ⟨λj _=>rfl,λ_=>Ak,λhr=>⟨λj _=>rfl,λ_=>Ak,λhs=>?_⟩⟩
 have hr:rdB n L 24=true:=by simpa using hr
 have hs:rdB m M 24=true:=by simpa using hs
 obtain ⟨h0,A⟩:=Xq5 hr;obtain ⟨h1,hm⟩:=Xq5 hs;refine ⟨h0,λh=>absurd h (by decide),λ_=>⟨λ_=>Ak,λhc=>?_⟩⟩
 have hc:0<(sK L n).nc:=by
  simp at hc;omega
 have hnc:=(jB L n).nc;obtain ⟨p1,p2⟩:=Zb5 hc VR.1;have hx:(⟨#[118,111,105,100,32]⟩:ByteArray)++⟨#[UInt8.ofNat (48+vkN n L d)]⟩=vdB (vkN n L d):=rfl;have Wm5:=Zb6 (n:=n) (m:=m) (L:=L) (M:=M) hx;have hck:=Zw0 (k:=vkN n L d) VJ VJ h0 h1;have hno:=Zv9 (m:=m) (M:=M) p2 (y.tmod 10001);have hy:0<=y.tmod 10001/\y.tmod 10001<=10000:=by
  rw [Int.tmod_eq_emod_of_nonneg UE.1];omega
 have hcn:=gL (stP (sK (vdL n L (vkN n L d) M) (n+1+m)) (y.tmod 10001)) (sK (vdL n L (vkN n L d) M) (n+1+m)).nc;have hnc2:=(jB (vdL n L (vkN n L d) M) (n+1+m)).nc;have e0:0+n=n:=Ap n;simp only [p1,DZ,e0];clear hr hs
 (with_reducible repeat' first|apply Al|intro _)
 all_goals first|exact Ak|contradiction|exact hck|exact Wm5|exact hno|omega|(exfalso;rename_i h9;simp at h9;done)|rfl|(rename_i ha;rw [BC.1 ha];rfl)|exact FG (by assumption) (by simp [AV.one,Value.oneCell'])|(show ((6:Nat):Int)<=9223372036854775807;decide)|trace_state
end Go.Proofs.YtakpdkmhclhlnaaGreatDoor.Hd
