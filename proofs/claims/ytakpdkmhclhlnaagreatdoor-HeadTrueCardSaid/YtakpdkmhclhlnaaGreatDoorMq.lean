/- Contracts, put together. Conditions: those of each. -/
import Derived.Test.YtakpdkmhclhlnaaGreatDoorMp
set_option linter.unusedSimpArgs false
set_option linter.unusedVariables false
set_option maxRecDepth 100000
namespace Go.Proofs.YtakpdkmhclhlnaaGreatDoor.Hd
open Go Go.Sx Go.RowKit Bo
open Go.Sx.VJ (need branch leaf)
open Go.Sx.AV (lst ptr agg roI tup top)
def Qg4:UU
 |[.agg [.lst 4 nr fr,.x (.int .i64 pl),.x (.int .i64 ph),.lst 3 nb fb,.lst 5 nc fc,.lst 5 ns fs]]=>some ([],.agg [i 4,i 100,i 20,i 30,.lst 4 nr fr,.lst 2 3 (λk=>[i (tbP k),i (tbQ k)]),i pl,i ph,i 1,i 3])
 |_=>none
theorem Wg5(nr nb nc ns:Nat)(fr fb fc fs:Nat->List AV)(pl ph:Int):DH VL 18 [.agg [.lst 4 nr fr,i pl,i ph,.lst 3 nb fb,.lst 5 nc fc,.lst 5 ns fs]] (.agg [i 4,i 100,i 20,i 30,.lst 4 nr fr,.lst 2 3 (λk=>[i (tbP k),i (tbQ k)]),i pl,i ph,i 1,i 3]):=by
 refine HE (L:=[]) Aa Ad VW Tryz.func18 (UR Tryz.f18) UV (t:=leaf (JK nr fr pl ph)) VQ ?_;simp only [VJ.sat,DV,B1,UB,UE];all_goals exact V3
theorem dQ:L2 VL 18 Qg4:=by
 refine ⟨(UC Tryz.func18),?_⟩;intro avs ns res h hn;unfold Qg4 at h;split at h;cases h;exact Wg5 _ _ _ _ _ _ _ _ _ _;cases h
def S6:UU
 |[.agg [.lst 4 nr fr,.x (.int .i64 pl),.x (.int .i64 ph),.lst 3 nb fb,.lst 5 nc fc,.lst 5 ns fs]]=>some ([],.agg [ofs,i 1,.lst 3 nb fb])
 |_=>none
theorem oX(nr nb nc ns:Nat)(fr fb fc fs:Nat->List AV)(pl ph:Int):DH VL 20 [.agg [.lst 4 nr fr,i pl,i ph,.lst 3 nb fb,.lst 5 nc fc,.lst 5 ns fs]] (.agg [ofs,i 1,.lst 3 nb fb]):=by
 refine HE (L:=[]) Aa Ad VW Tryz.func20 (UR Tryz.f20) UV (t:=leaf (agg [J8,iI 1,lst 3 nb λa=>fb a])) VQ ?_;simp only [VJ.sat,DV,B1,UB,UE];all_goals exact V3
theorem jW:L2 VL 20 S6:=by
 refine ⟨(UC Tryz.func20),?_⟩;intro avs ns res h hn;unfold S6 at h;split at h;cases h;exact oX _ _ _ _ _ _ _ _ _ _;cases h
def m7:UU
 |[.agg [.lst 4 nr fr,.x (.int .i64 pl),.x (.int .i64 ph),.lst 3 nb fb,.lst 5 nc fc,.lst 5 ns fs]]=>some ([],.agg [i 4,i 10,.lst 5 ns fs])
 |_=>none
theorem Qo0(nr nb nc ns:Nat)(fr fb fc fs:Nat->List AV)(pl ph:Int):DH VL 24 [.agg [.lst 4 nr fr,i pl,i ph,.lst 3 nb fb,.lst 5 nc fc,.lst 5 ns fs]] (.agg [i 4,i 10,.lst 5 ns fs]):=by
 refine HE (L:=[]) Aa Ad VW Tryz.func24 (UR Tryz.f24) UV (t:=leaf (agg [iI 4,iI 10,lst 5 ns λa=>fs a])) VQ ?_;simp only [VJ.sat,DV,B1,UB,UE];all_goals exact V3
theorem vI:L2 VL 24 m7:=by
 refine ⟨(UC Tryz.func24),?_⟩;intro avs ns res h hn;unfold m7 at h;split at h;cases h;exact Qo0 _ _ _ _ _ _ _ _ _ _;cases h
abbrev ofT(s:HS):AV:= .lst 2 3 (λk=>[i (boL s.nb s.ql s.qh s.qm s.qr s.qv k),i (boH s.nb s.ql s.qh s.qm s.qr s.qv k)])
abbrev slT(p:Nat->Bool)(m:Nat):AV:= .lst 1 (UN p m) (λz=>[i (UI p m z)])
abbrev reT(s:HS)(y:Int):AV:= .tup [slT (caB s.ns s.sa s.sb s.sc s.sl s.sh y) 4,slT (suB s.ns s.sa s.sb s.sc s.sl s.sh y) 4,i 0]
section
variable (n:Nat)(L:Nat->ByteArray)
def Jn9:HZ:=λl=>some (.need [l=[lns n L],ckE n L=0] (.leaf (.tup [.agg (hsL (sK L n)),.lst 1 (kpN L n) (λz=>[.x (.string (kpF L n z))]),bl true])))
def Jo1:UU:=λl=>some ([l=[lns n L],n<=100000],lns n L)
def Jo0:HZ:=λl=>some (.need [l=[lns n L],ckE n L=0] (.leaf (.tup [ofT (sK L n),i 0])))
end
def Jo2(s:HS):UU:=λl=>some ([l=[.agg [ofs,i 1,hsB s]]],.tup [ofT s,i 0])
def Jn7(n:Nat)(L:Nat->ByteArray)(y:Int):HZ:=λl=>some (.need [l=[lns n L,i y],ckE n L=0,0<=y/\y<=100] (.leaf (reT (sK L n) y)))
def Jn8(s:HS)(y:Int):HZ:=λl=>some (.need [l=[.agg [i 4,i 10,hsS s],i y],0<=y/\y<=100] (.leaf (reT s y)))
section
variable (n:Nat)(L:Nat->ByteArray)
def Jn6(y:Int):HZ:=λl=>some (.need [l=[lns n L,i y],ckE n L=0,0<=y/\y<=10000] (.leaf (.tup [slT (stP (sK L n) y) (sK L n).nc,i 0])))
theorem o2:Sx.Enters Tryz.prog 16/\ ∀avs t,Jn9 n L avs=some t->UH VL 16 avs t:=by
 refine ⟨(UC Tryz.func16),?_⟩;intro avs t h;cases h;intro Q hQ;have e:avs=[lns n L]:=hQ.1.1;have h0:ckE n L=0:=hQ.1.2;subst e;exact oZ n L h0 Q hQ.2
theorem oR:VM VL 22 (Jo1 n L):=by
 refine ⟨(UC Tryz.func22),?_⟩;intro avs ns res h hn;cases h;have e:avs=[lns n L]:=hn _ VS;have h0:n<=100000:=hn _ VS;subst e;exact eV n L h0
end
theorem Ji5{N:Nat}{U O:Nat->Int}{m:Nat->Nat}{r v:Nat->Nat->Int}(h:boE N U O m r v=0):boN N U O m r v=3:=by
 unfold boE at h;unfold boN;split at h;rename_i h1;rw [if_pos h1];exact absurd h (by decide)
theorem Wd3{n:Nat}{a b c U O:Nat->Int}(h:orE n a b c U O=0):xI n a b c U O=true:=by
 unfold orE at h;split at h;assumption;exact absurd h (by decide)
theorem Wt2{a x b:Int}(h:a<=x/\x<=b): ¬(!bt a x b)=true:=by
 rw [(bt_iff _ _ _).2 h];decide
theorem Ws3{n:Nat}{L:Nat->ByteArray}(h:ckE n L=0): ¬(ckE n L != 0)=true:=by
 rw [h];decide
theorem oK(n:Nat)(L:Nat->ByteArray):Sx.Enters Tryz.prog 21/\ ∀avs t,Jo0 n L avs=some t->UH VL 21 avs t:=by
 refine ⟨(UC Tryz.func21),?_⟩;intro avs t h;cases h;intro Q hQ;have e:avs=[lns n L]:=hQ.1.1;have h0:ckE n L=0:=hQ.1.2;subst e;have ho:=(zZ L n).bo;refine rC n L (by have:=(j9 h0).1;omega) Q ⟨λh=>absurd h (Ws3 h0),λ_=>?_⟩
 rw [Ji5 ho,ho];exact hQ.2
theorem sJ(s:HS)(hb:bV s.nb s.ql s.qh s.qm s.qr s.qv)(ho:boE s.nb s.ql s.qh s.qm s.qr s.qv=0):VM VL 19 (Jo2 s):=by
 refine ⟨(gX _ _ _ _ _ _ hb).1,?_⟩;intro avs ns res h hn;cases h;have e:=hn _ GB;subst e;have h1:=wC s.nb s.ql s.qh s.qm s.qr s.qv hb;rw [Ji5 ho,ho] at h1;exact h1
theorem nS(n:Nat)(L:Nat->ByteArray)(y:Int):Sx.Enters Tryz.prog 11/\ ∀avs t,Jn7 n L y avs=some t->UH VL 11 avs t:=by
 refine ⟨(UC Tryz.func11),?_⟩;intro avs t h;cases h;intro Q hQ;have e:avs=[lns n L,i y]:=hQ.1.1;have h0:ckE n L=0:=hQ.1.2.1;have h1:0<=y/\y<=100:=hQ.1.2.2;subst e;have hf:=Wd3 (zZ L n).sf;refine OH n L y (by have:=(j9 h0).1;omega) Q ⟨λh=>absurd h (Ws3 h0),λ_=>⟨λh=>absurd h (Wt2 h1),λ_=>⟨λh=>?_,λ_=>hQ.2⟩⟩⟩
 rw [hf] at h;exact absurd h (by decide)
theorem nW(s:HS)(y:Int)(hs:sV s.ns s.sa s.sb s.sc s.sl s.sh)(hf:orE s.ns s.sa s.sb s.sc s.sl s.sh=0):Sx.Enters Tryz.prog 23/\ ∀avs t,Jn8 s y avs=some t->UH VL 23 avs t:=by
 refine ⟨(UC Tryz.func23),?_⟩;intro avs t h;cases h;intro Q hQ;have e:avs=[.agg [i 4,i 10,hsS s],i y]:=hQ.1.1;have h1:0<=y/\y<=100:=hQ.1.2;subst e;have hf:=Wd3 hf;refine NN s.ns s.sa s.sb s.sc s.sl s.sh y hs Q ⟨λh=>absurd h (Wt2 h1),λ_=>⟨λh=>?_,λ_=>hQ.2⟩⟩;rw [hf] at h;exact absurd h (by decide)
theorem nH(n:Nat)(L:Nat->ByteArray)(y:Int):Sx.Enters Tryz.prog 9/\ ∀avs t,Jn6 n L y avs=some t->UH VL 9 avs t:=by
 refine ⟨(UC Tryz.func9),?_⟩;intro avs t h;cases h;intro Q hQ;have e:avs=[lns n L,i y]:=hQ.1.1;have h0:ckE n L=0:=hQ.1.2.1;have h1:0<=y/\y<=10000:=hQ.1.2.2;subst e;exact gN n L y (by have:=(j9 h0).1;omega) Q ⟨λh=>absurd h (Ws3 h0),λ_=>⟨λh=>absurd h (Wt2 h1),λ_=>hQ.2⟩⟩
theorem Ws0{y:Int}(h:0<=y/\y<=65535):(0<=y.tmod 101/\y.tmod 101<=100)/\0<=y.tmod 10001/\y.tmod 10001<=10000:=by
 rw [Int.tmod_eq_emod_of_nonneg h.1,Int.tmod_eq_emod_of_nonneg h.1];omega
section
variable (n:Nat)(L:Nat->ByteArray)(y:Int)
def Zq1:St:={σ:=[Q6 n L,AV.x (.int IntKind.u16 y),top,top,top,ptr 10 0,W6 L n,AV.x (.bool true),lst 2 3 λk=>[iI (boL ((sK L n).nb) ((sK L n).ql) ((sK L n).qh) ((sK L n).qm) ((sK L n).qr) ((sK L n).qv) k),iI (boH ((sK L n).nb) ((sK L n).ql) ((sK L n).qh) ((sK L n).qm) ((sK L n).qr) ((sK L n).qv) k)],iI 0,lst 2 3 λk=>[iI (boL ((sK L n).nb) ((sK L n).ql) ((sK L n).qh) ((sK L n).qm) ((sK L n).qr) ((sK L n).qv) k),iI (boH ((sK L n).nb) ((sK L n).ql) ((sK L n).qh) ((sK L n).qm) ((sK L n).qr) ((sK L n).qv) k)],iI 0,lst 1 (UN (caB ((sK L n).ns) ((sK L n).sa) ((sK L n).sb) ((sK L n).sc) ((sK L n).sl) ((sK L n).sh) (Int.tmod y (101:Int))) 4) λz=>[iI (↑(UI (caB ((sK L n).ns) ((sK L n).sa) ((sK L n).sb) ((sK L n).sc) ((sK L n).sl) ((sK L n).sh) (Int.tmod y (101:Int))) 4 z):Int)],lst 1 (UN (suB ((sK L n).ns) ((sK L n).sa) ((sK L n).sb) ((sK L n).sc) ((sK L n).sl) ((sK L n).sh) (Int.tmod y (101:Int))) 4) λz=>[iI (↑(UI (suB ((sK L n).ns) ((sK L n).sa) ((sK L n).sb) ((sK L n).sc) ((sK L n).sl) ((sK L n).sh) (Int.tmod y (101:Int))) 4 z):Int)],iI 0,lst 1 (UN (caB ((sK L n).ns) ((sK L n).sa) ((sK L n).sb) ((sK L n).sc) ((sK L n).sl) ((sK L n).sh) (Int.tmod y (101:Int))) 4) λz=>[iI (↑(UI (caB ((sK L n).ns) ((sK L n).sa) ((sK L n).sb) ((sK L n).sc) ((sK L n).sl) ((sK L n).sh) (Int.tmod y (101:Int))) 4 z):Int)],lst 1 (UN (suB ((sK L n).ns) ((sK L n).sa) ((sK L n).sb) ((sK L n).sc) ((sK L n).sl) ((sK L n).sh) (Int.tmod y (101:Int))) 4) λz=>[iI (↑(UI (suB ((sK L n).ns) ((sK L n).sa) ((sK L n).sb) ((sK L n).sc) ((sK L n).sl) ((sK L n).sh) (Int.tmod y (101:Int))) 4 z):Int)],iI 0]++HF 183 [],m:=[(10,GL.cells 43 (hL (sK L n)))],nx:=98}
noncomputable def Jp3:Code:=U7 (VP (U5 Tryz.f4) 0)
def Wh2(k:Nat):St:=(upM [(18,i k)] (Zq1 n L y))
def CJ(k:Nat):G4->Option St
 | .exit 0=>some (upM [(18,i (3:Nat))] (Zq1 n L y))
 |_=>none
def Jj9:CT:= .leaf (.exit 0,(CJ n L y 0 (.exit 0)).getD (Zq1 n L y))
def Xu9:UF:=GG [] (HD (Wh2 n L y (0)) (Jj9 n L y))
abbrev KC:Prop:=ptr 10 0=ptr 10 0
theorem Zx5(VO:ckE n L=0)(UD:0<=y/\y<=65535):G5 VL (.loop Jp3) (Xu9 n L y):=by
 refine UT [] (L:=[]) (Ae (vH n L 50) (Ae AN (Ae F9 (Ae hU (Ae uY (Ae (oR n L) (Ae (sJ (sK L n) (BE L n).bV (zZ L n).bo) Aa))))))) (Aj Ab Ac (Ah (o2 n L) (Ah (xP dQ) (Ah (xP jW) (Ah (xP vI) (Ah (oK n L) (Ah (nS n L (y.tmod 101)) (Ah (nW (sK L n) (y.tmod 101) (BE L n).sV (zZ L n).sf) (Ah (nH n L (y.tmod 10001)) (U1.nil _)))))))))) VW U0 (X:=Nat) (Wh2 n L y) (λk=>k<=3) (λk=>3-k) (CJ n L y) (x0:=0) VS ?_ ?_ ?_;rintro k;kernel_rfl;rintro k y E h;unfold CJ at h;split at h;cases h;kernel_rfl;cases h;rintro Q hQ k hx;refine ⟨(k+1),?_⟩;(with_reducible refine DA (t:=let Z:=(caB ((sK L n).ns) ((sK L n).sa) ((sK L n).sb) ((sK L n).sc) ((sK L n).sl) ((sK L n).sh) (Int.tmod y (101:Int)));let I:=(VU (lst 1 (UN Z 4) λz=>[iI (↑(UI Z 4 z):Int)]));let S:=(suB ((sK L n).ns) ((sK L n).sa) ((sK L n).sb) ((sK L n).sc) ((sK L n).sl) ((sK L n).sh) (Int.tmod y (101:Int)));let A:=(VU (lst 1 (UN S 4) λz=>[iI (↑(UI S 4 z):Int)]));let W:=(VU (lst 2 3 λk=>[iI (boL ((sK L n).nb) ((sK L n).ql) ((sK L n).qh) ((sK L n).qm) ((sK L n).qr) ((sK L n).qv) k),iI (boH ((sK L n).nb) ((sK L n).ql) ((sK L n).qh) ((sK L n).qm) ((sK L n).qr) ((sK L n).qv) k)]));(branch (decide ((k:Int)<(↑(3:Nat):Int))) (need [UG k 3] (need [UG k 3] (branch (!(boL ((sK L n).nb) ((sK L n).ql) ((sK L n).qh) ((sK L n).qm) ((sK L n).qr) ((sK L n).qv) k==boL ((sK L n).nb) ((sK L n).ql) ((sK L n).qh) ((sK L n).qm) ((sK L n).qr) ((sK L n).qv) k&&(boH ((sK L n).nb) ((sK L n).ql) ((sK L n).qh) ((sK L n).qm) ((sK L n).qr) ((sK L n).qv) k==boH ((sK L n).nb) ((sK L n).ql) ((sK L n).qh) ((sK L n).qm) ((sK L n).qr) ((sK L n).qv) k&&true))) VJ.fail (need [VI ((k:Int)+1)] (need [VU (Q6 n L),y=y,KC,VU (W6 L n),true=true,W,QI,W,QI,I,A,QI,I,A,QI,(k:Int)+1=(↑(k+1):Int),VU (hR ((sK L n).nr) (sK L n)),VU ((sK L n).pl),VU ((sK L n).ph),VU (hY ((sK L n).nb) (sK L n)),VU (hC ((sK L n).nc) (sK L n)),VU (hT ((sK L n).ns) (sK L n))] (leaf G4.normal)))))) (need [VU (Q6 n L),y=y,KC,VU (W6 L n),true=true,W,QI,W,QI,I,A,QI,I,A,QI,(k:Int)=(↑(3:Nat):Int),VU (hR ((sK L n).nr) (sK L n)),VU ((sK L n).pl),VU ((sK L n).ph),VU (hY ((sK L n).nb) (sK L n)),VU (hC ((sK L n).nc) (sK L n)),VU (hT ((sK L n).ns) (sK L n))] (leaf (G4.exit 0))))) VQ ?_)
 simp only [Jj9,CJ,VJ.sat,GQ] at hQ;simp only [VJ.sat,U8,UZ,GH,UB,VI,UE,H6,FW,R0,RT,GJ,CJ]
 refine ⟨λh=>?_,λh=>?_⟩
 ·have hk:k<3:=VG
  (with_reducible repeat' first|apply Al|intro _)
  all_goals first|exact P4|((exfalso;rename_i h9;simp at h9;done))
 obtain rfl:k=3:=VG;exact YW
def bD:St:={σ:=[Q6 n L,AV.x (.int IntKind.u16 y),top,top,top,ptr 10 0,W6 L n,AV.x (.bool true),lst 2 3 λk=>[iI (boL ((sK L n).nb) ((sK L n).ql) ((sK L n).qh) ((sK L n).qm) ((sK L n).qr) ((sK L n).qv) k),iI (boH ((sK L n).nb) ((sK L n).ql) ((sK L n).qh) ((sK L n).qm) ((sK L n).qr) ((sK L n).qv) k)],iI 0,lst 2 3 λk=>[iI (boL ((sK L n).nb) ((sK L n).ql) ((sK L n).qh) ((sK L n).qm) ((sK L n).qr) ((sK L n).qv) k),iI (boH ((sK L n).nb) ((sK L n).ql) ((sK L n).qh) ((sK L n).qm) ((sK L n).qr) ((sK L n).qv) k)],iI 0,lst 1 (UN (caB ((sK L n).ns) ((sK L n).sa) ((sK L n).sb) ((sK L n).sc) ((sK L n).sl) ((sK L n).sh) (Int.tmod y (101:Int))) 4) λz=>[iI (↑(UI (caB ((sK L n).ns) ((sK L n).sa) ((sK L n).sb) ((sK L n).sc) ((sK L n).sl) ((sK L n).sh) (Int.tmod y (101:Int))) 4 z):Int)],lst 1 (UN (suB ((sK L n).ns) ((sK L n).sa) ((sK L n).sb) ((sK L n).sc) ((sK L n).sl) ((sK L n).sh) (Int.tmod y (101:Int))) 4) λz=>[iI (↑(UI (suB ((sK L n).ns) ((sK L n).sa) ((sK L n).sb) ((sK L n).sc) ((sK L n).sl) ((sK L n).sh) (Int.tmod y (101:Int))) 4 z):Int)],iI 0,lst 1 (UN (caB ((sK L n).ns) ((sK L n).sa) ((sK L n).sb) ((sK L n).sc) ((sK L n).sl) ((sK L n).sh) (Int.tmod y (101:Int))) 4) λz=>[iI (↑(UI (caB ((sK L n).ns) ((sK L n).sa) ((sK L n).sb) ((sK L n).sc) ((sK L n).sl) ((sK L n).sh) (Int.tmod y (101:Int))) 4 z):Int)],lst 1 (UN (suB ((sK L n).ns) ((sK L n).sa) ((sK L n).sb) ((sK L n).sc) ((sK L n).sl) ((sK L n).sh) (Int.tmod y (101:Int))) 4) λz=>[iI (↑(UI (suB ((sK L n).ns) ((sK L n).sa) ((sK L n).sb) ((sK L n).sc) ((sK L n).sl) ((sK L n).sh) (Int.tmod y (101:Int))) 4 z):Int)],iI 0,iI (↑(3:Nat):Int),iI (Int.tmod y (10001:Int)),lst 1 (UN (stP (sK L n) (Int.tmod y (10001:Int))) ((sK L n).nc)) λz=>[iI (↑(UI (stP (sK L n) (Int.tmod y (10001:Int))) ((sK L n).nc) z):Int)],iI 0]++HF 179 [],m:=[(10,GL.cells 43 (hL (sK L n)))],nx:=113}
noncomputable def Xb9:Code:=U7 (VP (U5 Tryz.f4) 1)
def ES(k:Nat):St:=(upM [(22,i (UN (stP (sK L n) (y.tmod 10001)) k)),(23,i (k:Nat)),(24,.top),(25,.top)] (bD n L y))
def PJ(k:Nat):G4->Option St
 | .exit 2=>some (upM [(22,i (UN (stP (sK L n) (y.tmod 10001)) (sK L n).nc)),(23,i ((sK L n).nc:Nat)),(24,.top),(25,.top)] (bD n L y))
 |_=>none
def Wv7:CT:= .leaf (.exit 2,(PJ n L y 0 (.exit 2)).getD (bD n L y))
def mN:UF:=GG [] (HD (ES n L y (0)) (Wv7 n L y))
end
abbrev J3(y:Int):Prop:=Int.tmod y (10001:Int)=Int.tmod y (10001:Int)
section
variable (n:Nat)(L:Nat->ByteArray)(y:Int)
theorem Qz1(VO:ckE n L=0)(UD:0<=y/\y<=65535):G5 VL (.loop Xb9) (mN n L y):=by
 refine UT [] (L:=[]) (Ae (vH n L 50) (Ae AN (Ae F9 (Ae hU (Ae uY (Ae (oR n L) (Ae (sJ (sK L n) (BE L n).bV (zZ L n).bo) Aa))))))) (Aj Ab Ac (Ah (o2 n L) (Ah (xP dQ) (Ah (xP jW) (Ah (xP vI) (Ah (oK n L) (Ah (nS n L (y.tmod 101)) (Ah (nW (sK L n) (y.tmod 101) (BE L n).sV (zZ L n).sf) (Ah (nH n L (y.tmod 10001)) (U1.nil _)))))))))) VW U0 (X:=Nat) (ES n L y) (λk=>k<=(sK L n).nc) (λk=>(sK L n).nc-k) (PJ n L y) (x0:=0) VS ?_ ?_ ?_;rintro k;kernel_rfl;rintro k y E h;unfold PJ at h;split at h;cases h;kernel_rfl;cases h;rintro Q hQ k hx;refine ⟨(k+1),?_⟩
 (with_reducible refine DA (t:=let Z:=(VU (lst 2 3 λk=>[iI (boL ((sK L n).nb) ((sK L n).ql) ((sK L n).qh) ((sK L n).qm) ((sK L n).qr) ((sK L n).qv) k),iI (boH ((sK L n).nb) ((sK L n).ql) ((sK L n).qh) ((sK L n).qm) ((sK L n).qr) ((sK L n).qv) k)]));let z6:=(caB ((sK L n).ns) ((sK L n).sa) ((sK L n).sb) ((sK L n).sc) ((sK L n).sl) ((sK L n).sh) (Int.tmod y (101:Int)));let A:=(VU (lst 1 (UN z6 4) λz=>[iI (↑(UI z6 4 z):Int)]));let z7:=(suB ((sK L n).ns) ((sK L n).sa) ((sK L n).sb) ((sK L n).sc) ((sK L n).sl) ((sK L n).sh) (Int.tmod y (101:Int)));let W:=(VU (lst 1 (UN z7 4) λz=>[iI (↑(UI z7 4 z):Int)]));let z13:=(Int.tmod y (10001:Int));let S:=(stP (sK L n) z13);let z8:=(UN S ((sK L n).nc));let z5:=(VU (lst 1 z8 λz=>[iI (↑(UI S ((sK L n).nc) z):Int)]));let z9:=(VU (hR ((sK L n).nr) (sK L n)));let z10:=(VU (hY ((sK L n).nb) (sK L n)));let z11:=(VU (hC ((sK L n).nc) (sK L n)));let z12:=(VU (hT ((sK L n).ns) (sK L n)));let I:=(need [VI ((k:Int)+1)] (need [VU (Q6 n L),y=y,KC,VU (W6 L n),true=true,Z,QI,Z,QI,A,W,QI,A,W,QI,VU (↑(3:Nat):Int),J3 y,z5,QI,(↑(UN S k):Int)=(↑(UN S (k+1)):Int),(k:Int)+1=(↑(k+1):Int),z9,VU ((sK L n).pl),VU ((sK L n).ph),z10,z11,z12] (leaf G4.normal)));(branch (decide ((k:Int)<(↑((sK L n).nc):Int))) (need [UG k ((sK L n).nc)] (need [U9 4 ((sK L n).nr) λk=>[iI ((sK L n).ra k),iI ((sK L n).rb k),iI ((sK L n).ru k),iI ((sK L n).rv k)],U9 2 3 λk=>[i (tbP k),i (tbQ k)]] (branch (asE (4:Int) (100:Int) (20:Int) (30:Int) ((sK L n).nr) ((sK L n).ra) ((sK L n).rb) ((sK L n).ru) ((sK L n).rv) 3 tbP tbQ ((sK L n).pl) ((sK L n).ph) (1:Int) (3:Int) ((sK L n).ca k) ((sK L n).cb k) ((sK L n).cc k) z13 != 0) VJ.fail (branch (kpB (4:Int) (100:Int) (20:Int) (30:Int) ((sK L n).nr) ((sK L n).ra) ((sK L n).rb) ((sK L n).ru) ((sK L n).rv) 3 tbP tbQ ((sK L n).pl) ((sK L n).ph) (1:Int) (3:Int) ((sK L n).ca k) ((sK L n).cb k) ((sK L n).cc k) z13) (need [UG k ((sK L n).nc)] (branch (!(sK L n).cv k) (need [UG k ((sK L n).nc)] (branch (decide (Int.tmod y (10001:Int)>=(sK L n).cd k)) (branch (decide ((↑(UN S k):Int)>=(z8:Int))) VJ.fail (need [UG (↑(UN S k):Int) z8] (branch ((↑(UI S ((sK L n).nc) (UN S k)):Int) != (k:Int)) VJ.fail (need [VI ((↑(UN S k):Int)+1)] (need [VI ((k:Int)+1)] (need [VU (Q6 n L),y=y,KC,VU (W6 L n),true=true,Z,QI,Z,QI,A,W,QI,A,W,QI,VU (↑(3:Nat):Int),J3 y,z5,QI,(↑(UN S k):Int)+1=(↑(UN S (k+1)):Int),(k:Int)+1=(↑(k+1):Int),z9,VU ((sK L n).pl),VU ((sK L n).ph),z10,z11,z12] (leaf G4.normal))))))) I)) I)) I)))) (need [VU (Q6 n L),y=y,KC,VU (W6 L n),true=true,Z,QI,Z,QI,A,W,QI,A,W,QI,VU (↑(3:Nat):Int),J3 y,z5,QI,(↑(UN S k):Int)=(z8:Int),(k:Int)=(↑((sK L n).nc):Int),z9,VU ((sK L n).pl),VU ((sK L n).ph),z10,z11,z12] (leaf (G4.exit 2))))) VQ ?_)
 simp only [Wv7,PJ,VJ.sat,GQ] at hQ;simp only [VJ.sat,U8,UZ,GH,UB,VI,UE,H6,FW,R0,RT,GJ,PJ]
 have hst:=zZ L n;have hy:=(Ws0 UD).2;have hnc:=(BE L n).nc;have hle:=zQ (p:=(stP (sK L n) (y.tmod 10001))) (k:=k);refine ⟨λh=>?_,λh=>?_⟩;have hk:k<(sK L n).nc:=VG;have ha:asE 4 100 20 30 (sK L n).nr (sK L n).ra (sK L n).rb (sK L n).ru (sK L n).rv 3 tbP tbQ (sK L n).pl (sK L n).ph 1 3 ((sK L n).ca k) ((sK L n).cb k) ((sK L n).cc k) (y.tmod 10001)=0:=Zo2 hst.rd (hst.us k hk) hy;have hpe:(stP (sK L n) (y.tmod 10001)) k=(!(sK L n).cv k&&(decide (y.tmod 10001>=(sK L n).cd k)&&kpB 4 100 20 30 (sK L n).nr (sK L n).ra (sK L n).rb (sK L n).ru (sK L n).rv 3 tbP tbQ (sK L n).pl (sK L n).ph 1 3 ((sK L n).ca k) ((sK L n).cb k) ((sK L n).cc k) (y.tmod 10001))):=by
  unfold stP stB;rw [ha];rfl
 have e3:=f8 (stP (sK L n) (y.tmod 10001)) (show k+1<=(sK L n).nc by omega)
 have hno:(stP (sK L n) (y.tmod 10001)) k=false->((k:Int)+1<=9223372036854775807/\ -9223372036854775808<=(k:Int)+1)/\((UN (stP (sK L n) (y.tmod 10001)) k:Nat):Int)=(UN (stP (sK L n) (y.tmod 10001)) (k+1):Nat):=λhc=>by
  have e1:=FR hc;omega
 refine ⟨VG,hsI,λh1=>absurd ha h1,λ_=>⟨λhkp=>⟨VG,λhcv=>⟨VG,λhcd=>?_,λhcd=>?_⟩,λhcv=>?_⟩,λhkp=>?_⟩⟩;have hc:(stP (sK L n) (y.tmod 10001)) k=true:=by
  rw [hpe,hkp,hcv,decide_eq_true hcd];rfl
 have e1:=DS hc;have e2:=PV hk hc;exact ⟨λh9=>VG,λ_=>⟨VG,λh9=>h9 (by rw [e2]),λ_=>⟨VG,VG,⟨VG,VG⟩,VG,VG⟩⟩⟩
 have h1:=hno (by
  rw [hpe,hkp,hcv,decide_eq_false hcd];rfl)
 exact ⟨VG,⟨h1.2,VG⟩,VG,VG⟩;have h1:=hno (by
  rw [hpe,hcv];rfl)
 exact ⟨VG,⟨h1.2,VG⟩,VG,VG⟩;have h1:=hno (by
  rw [hpe,hkp,Bool.and_false,Bool.and_false])
 exact ⟨VG,⟨h1.2,VG⟩,VG,VG⟩;obtain rfl:k=(sK L n).nc:=VG;exact YW
theorem Xy8(VO:0<=y/\y<=65535):VV VL 4 [lns n L,.x (.int .u16 y)] (bl true):=by
 refine G9 (L:=[FE [ckE n L=0] (Xu9 n L y),FE [ckE n L=0] (mN n L y)]) (Ae (vH n L 50) (Ae AN (Ae F9 (Ae hU (Ae uY (Ae (oR n L) (Ae (sJ (sK L n) (BE L n).bV (zZ L n).bo) Aa))))))) (Aj Ab Ac (Ah (o2 n L) (Ah (xP dQ) (Ah (xP jW) (Ah (xP vI) (Ah (oK n L) (Ah (nS n L (y.tmod 101)) (Ah (nW (sK L n) (y.tmod 101) (BE L n).sV (zZ L n).sf) (Ah (nH n L (y.tmod 10001)) (U1.nil _)))))))))) VW Tryz.func4 (UR Tryz.f4) (AU (lpE (b:= .loop Jp3) VQ<|(HT (ps:=[ckE n L=0]) (λh=>Zx5 n L y h VO)).N) (lpE (b:= .loop Xb9) VQ<|(HT (ps:=[ckE n L=0]) (λh=>Qz1 n L y h VO)).N)) (t:=let z6:=(Int.tmod y (101:Int));let I:=(caB ((sK L n).ns) ((sK L n).sa) ((sK L n).sb) ((sK L n).sc) ((sK L n).sl) ((sK L n).sh) z6);let A:=(suB ((sK L n).ns) ((sK L n).sa) ((sK L n).sb) ((sK L n).sc) ((sK L n).sl) ((sK L n).sh) z6);let W:=(VU (lst 2 3 λk=>[iI (boL ((sK L n).nb) ((sK L n).ql) ((sK L n).qh) ((sK L n).qm) ((sK L n).qr) ((sK L n).qv) k),iI (boH ((sK L n).nb) ((sK L n).ql) ((sK L n).qh) ((sK L n).qm) ((sK L n).qr) ((sK L n).qv) k)]));let Z:=(VU (lst 1 (UN I 4) λz=>[iI (↑(UI I 4 z):Int)]));let S:=(VU (lst 1 (UN A 4) λz=>[iI (↑(UI A 4 z):Int)]));let z5:=(stP (sK L n) (Int.tmod y (10001:Int)));let z7:=(UN z5 ((sK L n).nc));(need [VU ([Q6 n L,iI 50])] (branch (!rdB n L (50:Int)) (leaf (RV.x (.bool true))) (need [(K2 n L),ckE n L=0] (branch (!true) (leaf (RV.x (WK))) (need [U9 4 ((sK L n).nr) λk=>[Bo.i ((sK L n).ra k),Bo.i ((sK L n).rb k),Bo.i ((sK L n).ru k),Bo.i ((sK L n).rv k)],U9 2 3 λk=>[i (tbP k),i (tbQ k)]] (branch (rdE (4:Int) (100:Int) (20:Int) (30:Int) ((sK L n).nr) ((sK L n).ra) ((sK L n).rb) ((sK L n).ru) ((sK L n).rv) 3 tbP tbQ ((sK L n).pl) ((sK L n).ph) (1:Int) (3:Int) != 0) (leaf (RV.x (WK))) (need [VU ([agg [lst 2 3 λk=>[iI (oL k),iI (oH k)],iI 1,hY ((sK L n).nb) (sK L n)]])] (need [(K2 n L),n<=100000] (need [(K2 n L),ckE n L=0] (need [VI y] (need [(101:Int)≠0] (need [VU ([agg [iI 4,iI 10,hT ((sK L n).ns) (sK L n)],iI z6]),(0:Int)<=Int.tmod y (101:Int)/\Int.tmod y (101:Int)<=100] (need [(K2 n L),n<=100000] (need [VI y] (need [(101:Int)≠0] (need [VU ([Q6 n L,iI z6]),ckE n L=0,(0:Int)<=Int.tmod y (101:Int)/\Int.tmod y (101:Int)<=100] (branch ((0:Int) != 0) (leaf (RV.x (WK))) (branch ((0:Int) != 0) (leaf (RV.x (WK))) (branch ((↑(3:Nat):Int) != (↑(3:Nat):Int)) (leaf (RV.x (WK))) (branch ((0:Int) != 0) (leaf (RV.x (WK))) (branch ((0:Int) != 0) (leaf (RV.x (WK))) (need [U9 1 (UN I 4) λz=>[i (↑(UI I 4 z):Int)],U9 1 (UN I 4) λz=>[i (↑(UI I 4 z):Int)],UN I 4<=100000] (branch (!(decide (UN I 4=UN I 4)&&HW (λk=>(↑(UI I 4 k):Int)==(↑(UI I 4 k):Int)) (UN I 4))) (leaf (RV.x (WK))) (need [U9 1 (UN A 4) λz=>[i (↑(UI A 4 z):Int)],U9 1 (UN A 4) λz=>[i (↑(UI A 4 z):Int)],UN A 4<=100000] (branch (!(decide (UN A 4=UN A 4)&&HW (λk=>(↑(UI A 4 k):Int)==(↑(UI A 4 k):Int)) (UN A 4))) (leaf (RV.x (WK))) (need [ckE n L=0] (need [VU (Q6 n L),y=y,KC,VU (W6 L n),true=true,W,QI,W,QI,Z,S,QI,Z,S,QI,(0:Int)=(↑(0:Nat):Int),VU (hR ((sK L n).nr) (sK L n)),VU ((sK L n).pl),VU ((sK L n).ph),VU (hY ((sK L n).nb) (sK L n)),VU (hC ((sK L n).nc) (sK L n)),VU (hT ((sK L n).ns) (sK L n))] (need [VI y] (need [(10001:Int)≠0] (need [(K2 n L),n<=100000] (need [VU ([Q6 n L,iI (Int.tmod y (10001:Int))]),ckE n L=0,(0:Int)<=Int.tmod y (10001:Int)/\Int.tmod y (10001:Int)<=10000] (need [ckE n L=0] (need [VU (Q6 n L),y=y,KC,VU (W6 L n),true=true,W,QI,W,QI,Z,S,QI,Z,S,QI,VU (↑(3:Nat):Int),J3 y,VU (lst 1 z7 λz=>[iI (↑(UI z5 ((sK L n).nc) z):Int)]),QI,(0:Int)=(↑(UN z5 0):Int),(0:Int)=(↑(0:Nat):Int),VU (hR ((sK L n).nr) (sK L n)),VU ((sK L n).pl),VU ((sK L n).ph),VU (hY ((sK L n).nb) (sK L n)),VU (hC ((sK L n).nc) (sK L n)),VU (hT ((sK L n).ns) (sK L n))] (branch ((0:Int)==0) (branch ((z7:Int)==(z7:Int)) (leaf (RV.x (.bool true))) (leaf (RV.x (WK)))) (leaf (RV.x (WK)))))))))))))))))))))))))))))))))))))) VQ ?_
 have hk:rdB n L 50=true->ckE n L=0:=λh=>(Ja4 h).1;have hst:=zZ L n;have hrd:rdE 4 100 20 30 (sK L n).nr (sK L n).ra (sK L n).rb (sK L n).ru (sK L n).rv 3 tbP tbQ (sK L n).pl (sK L n).ph 1 3=0:=hst.rd;have hy:=Ws0 VO;have c1:=zQ (p:=(caB (sK L n).ns (sK L n).sa (sK L n).sb (sK L n).sc (sK L n).sl (sK L n).sh (y.tmod 101))) (k:=4);have c2:=zQ (p:=(suB (sK L n).ns (sK L n).sa (sK L n).sb (sK L n).sc (sK L n).sl (sK L n).sh (y.tmod 101))) (k:=4);have O: ∀(m:Nat) (g:Nat->Int),U9 1 m (λz=>[i (g z)]):=λm g k hk=>rfl;have hq: ∀(p:Nat->Bool) (m:Nat),(!(decide True&&HW (λk=>((UI p m k:Nat):Int)==((UI p m k:Nat):Int)) (UN p m)))=false:=λp m=>by
  rw [GI.2 λk hk=>beq_self_eq_true _];rfl
 simp only [VJ.sat,U8,UZ,GH,UB,UE,VI,FC];rcases Bool.eq_false_or_eq_true (rdB n L 50) with hr|hr
 ·have h0:=hk hr;have hn:=(j9 h0).1
  (with_reducible repeat' first|apply Al|intro _)
  all_goals first|exact Ak|contradiction|exact h0|omega|exact hy.1|exact hy.2|exact Bo.isRec4 _ _ _ _ _|exact Pt.isRec2 _ _ _|exact O _ _|rfl|(exfalso;rename_i h9;rw [hrd] at h9;exact Bool.noConfusion h9)|(exfalso;rename_i h9;rw [hr] at h9;exact Bool.noConfusion h9)|(rename_i h9;simp at h9;done)|(exfalso;rename_i h9;exact Bool.noConfusion ((hq _ _).symm.trans h9))|trace_state
 ·(with_reducible repeat' first|apply Al|intro _)
  all_goals first|exact Ak|(exfalso;simp_all;done)|trace_state
end
end Go.Proofs.YtakpdkmhclhlnaaGreatDoor.Hd
