/- Contracts, put together. Conditions: those of each. -/
import Derived.Test.YtlclobclmfhlmaaGreatDoorMe
set_option linter.unusedSimpArgs false
set_option linter.unusedVariables false
set_option maxRecDepth 100000
namespace Go.Proofs.YtlclobclmfhlmaaGreatDoor.Hd
open Go Go.Sx Go.RowKit Bo
open Go.Sx.VP (need branch leaf)
open Go.Sx.AV (lst ptr agg roI tup top)
section
variable (N:Nat)(U O:Nat->Int)(m:Nat->Nat)(r v:Nat->Nat->Int)
def Xf0:St:={σ:=[AV.ro [lst 2 3 λk=>[iI (oL k),iI (oH k)],iI 1,Q1 N U O m r v,Q2 m N,top],agg QC,top,ptr 0 0,top,top,ptr 4 0]++HM 15 [iI 13]++HM 20 [lst 2 3 λk=>[iI (oL k),iI (oH k)],iI (↑(3:Nat):Int),iI 3]++HM 20 [Q1 N U O m r v,iI (N:Int),iI (N:Int)]++HM 14 [Q2 m N,iI (↑(HG m N):Int),iI (↑(HG m N):Int)]++HM 50 [iI 13]++HM 54 [],m:=[(4,GS.ints 237 [] 169 λk=>G6 (fwO 12 (r0M N U O m r v) 13) k),(0,KZ)],nx:=29}
noncomputable def Ju3:Code:=UC (VV (U9 Tryz.f93) 5)
def Wm8(k:Nat):St:=(upE [(178,i k)] [(4,.ints 237 [] 169 (G6 (PK N U O m r v))),(0,.cells 191 [.x (.int .u64 0)])] (Xf0 N U O m r v))
def dT(k:Nat):G9->Option St
 | .ret=>some (upE [(4,.x (.pointer none)),(5,.lit false),(178,.top)] [(4,.ints 237 [] 169 (G6 (PK N U O m r v))),(0,.cells 191 [.x (.int .u64 0)])] (Xf0 N U O m r v))
 | .exit 16=>some (upE [(178,.top)] [(4,.ints 237 [] 169 (G6 (PK N U O m r v))),(0,.cells 191 [.x (.int .u64 0)])] (Xf0 N U O m r v))
 |_=>none
def Jp9:CT:= .branch (xZ N U O m r v) (.leaf (.exit 16,(dT N U O m r v 0 (.exit 16)).getD (Xf0 N U O m r v))) (.leaf (.ret,(dT N U O m r v 0 .ret).getD (Xf0 N U O m r v)))
def Zb0:UL:=GM [] (HK (Wm8 N U O m r v (0)) (Jp9 N U O m r v))
theorem Jk4(VU:bOK N U O m r v):GA VR (.loop Ju3) (Zb0 N U O m r v):=by
 refine G5 [] (L:=[]) (Ae RL (Ae P0 (Ae RB Aa))) (Ai Ab (Ag RP Ac)) U1 U6 (X:=Nat) (Wm8 N U O m r v) (λk=>k<=13/\ ∀j,j<k->0<=PK N U O m r v j j) (λk=>13-k) (dT N U O m r v) (x0:=0) VX ?_ ?_ ?_
 ·rintro k;kernel_rfl
 ·rintro k y E h;unfold dT at h;split at h
  ·cases h;kernel_rfl
  ·cases h;kernel_rfl
  ·cases h
 ·rintro Q hQ k hx;refine ⟨(k+1),?_⟩;(with_reducible refine DL (t:=let W:=(U2 (AV.ro [lst 2 3 λk=>[iI (oL k),iI (oH k)],iI 1,Q1 N U O m r v,Q2 m N,top]));let z1:=(U2 (↑(HG m N):Int));let z2:=PK N U O m r v;let z3:=(U2 (lst 2 3 λk=>[iI (oL k),iI (oH k)]));(branch (decide ((k:Int)<13)) (need [UM k 13] (need [UM k 13] (need [k*1+(k*13+0)<169] (branch (decide (G6 (z2) (k*1+(k*13+0))<0)) (need [W,U2 (agg QC),QS,QD=QD,WN,W7,XC,z3,U2 (↑(3:Nat):Int),XG,WU N U O m r v,U2 (N:Int),U2 (N:Int),U2 (Q2 m N),z1,z1,XC,169=169,GT 169 (G6 (z2)),QY] (leaf G9.ret)) (need [VO ((k:Int)+1)] (need [W,U2 (agg QC),QS,W7,XC,z3,U2 (↑(3:Nat):Int),XG,WU N U O m r v,U2 (N:Int),U2 (N:Int),U2 (Q2 m N),z1,z1,XC,(k:Int)+1=(↑(k+1):Int),169=169,GT 169 (G6 (z2)),QY] (leaf G9.normal))))))) (need [W,U2 (agg QC),QS,W7,XC,z3,U2 (↑(3:Nat):Int),XG,WU N U O m r v,U2 (N:Int),U2 (N:Int),U2 (Q2 m N),z1,z1,XC,169=169,GT 169 (G6 (z2)),QY] (leaf (G9.exit 16))))) VW ?_)
  simp only [Jp9,dT,VP.sat,GX] at hQ;simp only [VP.sat,UD,G8,GO,UG,VO,UJ,HB,RE,RF,L7,GR,dT]
  have h1:G6 (PK N U O m r v) (k*1+(k*13+0))=PK N U O m r v k k\/13<=k:=by
   rcases An k 13 with h|h
   ·exact .inl (yP _ VM h)
   ·exact .inr h
  refine ⟨λh=>?_,λh=>?_⟩
  ·have h2:=h1.resolve_right VM;rw [h2];refine ⟨VM,VM,VM,λhneg=>?_,λWq0=>?_⟩
   ·have hno:xZ N U O m r v=false:=by
     cases ho:xZ N U O m r v
     ·rfl
     ·have:=GW.1 ho k VM;simp at this;omega
    (with_reducible repeat' first|apply Al|intro _)
    all_goals first|exact PQ|(rename_i E hE;cases hE;exact hQ.2 hno)
   ·exact VI
  ·obtain ⟨hx1,hx2⟩:=hx;obtain rfl:k=13:=VM;have Wo7:xZ N U O m r v=true:=GW.2 (λj hj=>by simpa using hx2 j hj)
   (with_reducible repeat' first|apply Al|intro _)
   all_goals first|exact PQ|(rename_i E hE;cases hE;exact hQ.1 Wo7)
end
theorem Qn5{S:Code->UL->Prop}{c:Code}{s0 s1 s2 s3 s4 s5:UL}(h0: ∀cj,VV c 0=some cj->S cj s0)(h1: ∀cj,VV c 1=some cj->S cj s1)(h2: ∀cj,VV c 2=some cj->S cj s2)(h3: ∀cj,VV c 3=some cj->S cj s3)(h4: ∀cj,VV c 4=some cj->S cj s4)(h5: ∀cj,VV c 5=some cj->S cj s5):
  ∀j cj,VV c j=some cj-> ∀sp,[s0,s1,s2,s3,s4,s5][j]? =some sp->S cj sp:=by
 intro j cj hj sp hsp
 match j with
 | 0=>simp at hsp;subst hsp;exact h0 cj hj
 | 1=>simp at hsp;subst hsp;exact h1 cj hj
 | 2=>simp at hsp;subst hsp;exact h2 cj hj
 | 3=>simp at hsp;subst hsp;exact h3 cj hj
 | 4=>simp at hsp;subst hsp;exact h4 cj hj
 | 5=>simp at hsp;subst hsp;exact h5 cj hj
 |j+6=>simp at hsp
section
variable (N:Nat)
abbrev KE(U:Nat->Int)(O:Nat->Int)(m:Nat->Nat)(r:Nat->Nat->Int)(v:Nat->Nat->Int):AV:=roI [] 169 (λk=>G6 (PK N U O m r v) k) 0
theorem Xo9(U O:Nat->Int)(m:Nat->Nat)(r v:Nat->Nat->Int)(VU:bOK N U O m r v):UQ VR 93 [.ro [ofs,i 1,bds N U O m r v,.lst 2 (HG m N) (plF m N),.top],.agg [.x (.int .u64 0)]] (.branch (xZ N U O m r v) (.leaf (.tup [.roI [] 169 (G6 (PK N U O m r v)) 0,.lit true])) (.leaf (.tup [Bo.nilP,.lit false]))):=by
 refine GV (L:=[Zb8 N U O m r v,Zb6 N U O m r v,Zb5 N U O m r v,Zb4 N U O m r v,Zb3 N U O m r v,Zb0 N U O m r v]) (Ae RL (Ae P0 (Ae RB Aa))) (Ai Ab (Ag RP Ac)) U1 Tryz.func93 (UW Tryz.f93) (Qn5 (lpE (b:= .loop Zw4) VW<|(Jl2 N U O m r v).N) (lpE (b:= .loop Ju7) VW<|(Jl0 N U O m r v).N) (lpE (b:= .loop Ju6) VW<|(Jk9 N U O m r v VU).N) (lpE (b:= .loop Ju5) VW<|(Jk8 N U O m r v VU).N) (lpE (b:= .loop Zw3) VW<|(Jk7 N U O m r v VU).N) (lpE (b:= .loop Ju3) VW<|(Jk4 N U O m r v VU).N)) (t:=let W:=(U2 (AV.ro [lst 2 3 λk=>[iI (oL k),iI (oH k)],iI 1,Q1 N U O m r v,Q2 m N,top]));let z1:=(U2 (lst 2 3 λk=>[iI (oL k),iI (oH k)]));let z2:=(U2 (↑(HG m N):Int));let z3:=(U2 (↑(3:Nat):Int));(need [W,U2 (agg QC),QS,QD=QD,WN,W7,(0:Int)=(↑(0:Nat):Int),169=169,GY 169 (UB QM) (G6 (LZ 0 0)),QY] (need [W,U2 (agg QC),QS,QD=QD,WN,W7,XC,z1,z3,(0:Int)=(↑(0:Nat):Int),169=169,GY 169 (G6 (LZ 13 0)) (G6 (ofM 0)),QY] (need [W,U2 (agg QC),QS,QD=QD,WN,W7,XC,z1,z3,XG,WU N U O m r v,U2 (N:Int),(0:Int)=(↑(0:Nat):Int),169=169,GY 169 (G6 (ofM 3)) (G6 (btM U O 0)),QY] (need [W,U2 (agg QC),QS,QD=QD,WN,W7,XC,z1,z3,XG,WU N U O m r v,U2 (N:Int),U2 (N:Int),U2 (Q2 m N),z2,(0:Int)=(↑(0:Nat):Int),169=169,GY 169 (G6 (btM U O N)) (G6 (A0 N U O m r v 0)),QY] (need [W,U2 (agg QC),QS,QD=QD,WN,W7,XC,z1,z3,XG,WU N U O m r v,U2 (N:Int),U2 (N:Int),U2 (Q2 m N),z2,z2,(0:Int)=(↑(0:Nat):Int),169=169,GY 169 (G6 (A0 N U O m r v (HG m N))) (G6 (fwO 12 (r0M N U O m r v) 0)),QY] (need [W,U2 (agg QC),QS,W7,XC,z1,z3,XG,WU N U O m r v,U2 (N:Int),U2 (N:Int),U2 (Q2 m N),z2,z2,XC,(0:Int)=(↑(0:Nat):Int),169=169,GY 169 (G6 (fwO 12 (r0M N U O m r v) 13)) (G6 (PK N U O m r v)),QY] (branch (xZ N U O m r v) (leaf (tup [KE N U O m r v,AV.lit true])) (leaf (tup [QD,AV.lit false])))))))))) VW ?_
 intro Q hQ;simp only [VP.sat,UD,UJ,VO,L7,GR] at hQ ⊢
 (with_reducible repeat' first|apply Al|intro _)
 all_goals first|exact Ak|omega|with_reducible rfl|rfl|exact Xn0 _|(rename_i h;exact h.elim)|(rename_i h;exact ⟨.tup [.roI [] 169 (G6 (PK N U O m r v)) 0,.lit true],⟨⟨rfl,rfl,λ_ _=>rfl,rfl⟩,rfl,Ak⟩,hQ.1 h⟩)|(rename_i h;exact ⟨.tup [Bo.nilP,.lit false],⟨rfl,rfl,Ak⟩,hQ.2 h⟩)
def Zs4(U O:Nat->Int)(m:Nat->Nat)(r v:Nat->Nat->Int):DK:=λl=>some (.need [l=[.ro [ofs,i 1,bds N U O m r v,.lst 2 (HG m N) (plF m N),.top],.agg [.x (.int .u64 0)]]] (.branch (xZ N U O m r v) (.leaf (.tup [.roI [] 169 (G6 (PK N U O m r v)) 0,.lit true])) (.leaf (.tup [Bo.nilP,.lit false]))))
theorem Wx6(U O:Nat->Int)(m:Nat->Nat)(r v:Nat->Nat->Int)(VU:bOK N U O m r v):Sx.Enters Tryz.prog 93/\ ∀avs t,Zs4 N U O m r v avs=some t->UQ VR 93 avs t:=by
 refine ⟨(UK Tryz.func93),?_⟩;intro avs t h;cases h;intro Q hQ;have e:=hQ.1
 dsimp only [UD] at e
 subst e;exact Xo9 N U O m r v VU Q hQ.2
def bV(U O:Nat->Int)(m:Nat->Nat)(r v:Nat->Nat->Int):Prop:=bOK N U O m r v/\ ∀b,b<N-> ∀j k,j<k->k<m b->r b j≠r b k
end
section
variable {N:Nat}{U O:Nat->Int}{m:Nat->Nat}{r v:Nat->Nat->Int}
theorem Zz4(h:bV N U O m r v):vB N (λk=>[i (U k),i (O k),bts (m k) (r k) (v k)]):=by
 refine ⟨h.1.1,U,O,m,λk j=>[i (r k j),i (v k j)],λ_ _=>rfl,λk hk=>⟨λ_ _=>rfl,⟨?_,λj hj=>?_,λj q hj hq=>?_⟩,?_⟩⟩
 ·have:=(h.1.2 k hk).1;omega
 ·obtain ⟨h1,h2,h3,h4,h5⟩:=h.1.2 k hk;exact h5 j hj
 ·exact h.2 k hk j q hj hq
 ·obtain ⟨h1,h2,h3,h4,h5⟩:=h.1.2 k hk;exact (insB_iff _ _ _ _).2 ⟨h2,h3,h4⟩
theorem Wy3(h:bV N U O m r v):N<=1000/\ ∀b,b<N->m b<=1000:=⟨by have:=h.1.1;omega,λb hb=>by have:=(h.1.2 b hb).1;omega⟩
end
section
variable (f:Nat->List AV)(er:Int)(N:Nat)(U O:Nat->Int)(m:Nat->Nat)(r v:Nat->Nat->Int)
def Xr1:UY:=λl=>some ([l=[.agg [.lst 2 3 f,i er,bds N U O m r v]]],.ro [.lst 2 3 f,i er,bds N U O m r v,.lst 2 (HG m N) (plF m N),.top])
theorem Qu7(VU:N<=1000)(UI: ∀b,b<N->m b<=1000):P5 VR 92 (Xr1 f er N U O m r v):=by
 refine ⟨(UK Tryz.func92),?_⟩;intro avs ns res h hn;cases h;have e:=hn _ GJ;subst e;exact Ww7 f er N U O m r v VU UI
end
section
variable (N:Nat)(U O:Nat->Int)(m:Nat->Nat)(r v:Nat->Nat->Int)
theorem Qu8(VU:bV N U O m r v):UQ VR 68 [.agg [ofs,i 1,bds N U O m r v],.lit true] (.branch (xZ N U O m r v) (.leaf (.tup [.roI [] 169 (G6 (PK N U O m r v)) 0,i 0])) (.leaf (.tup [Bo.nilP,i 9]))):=by
 refine GV (L:=[]) (Ae Qv6 Aa) (Aj (Af (Qu7 (λk=>[i (oL k),i (oH k)]) 1 N U O m r v (Wy3 VU).1 (Wy3 VU).2) Ab) Ac (Ah (Wx6 N U O m r v VU.1) (UE.nil _))) U1 Tryz.func68 (UW Tryz.f68) G7 (t:=need [ofB λk=>[i (oL k),i (oH k)],vB N λk=>[i (U k),i (O k),bts (m k) (r k) (v k)]] (branch ((0:Int) != 0) (leaf (tup [QD,iI 0])) (need [U2 ([agg [lst 2 3 λk=>[iI (oL k),iI (oH k)],iI 1,Q1 N U O m r v]])] (need [U2 ([AV.ro [lst 2 3 λk=>[iI (oL k),iI (oH k)],iI 1,Q1 N U O m r v,Q2 m N,top],agg QC])] (branch (xZ N U O m r v) (leaf (tup [KE N U O m r v,iI 0])) (leaf (tup [QD,iI 9]))))))) VW ?_
 intro Q hQ;simp only [VP.sat,UD,UJ] at hQ ⊢;refine ⟨⟨λ_ _=>rfl,Zz4 VU⟩,λh=>by simp at h,λ_=>⟨λh=>⟨.tup [.roI [] 169 (G6 (PK N U O m r v)) 0,i 0],⟨⟨rfl,rfl,λ_ _=>rfl,rfl⟩,⟨rfl,rfl⟩,Ak⟩,hQ.1 h⟩,λh=>⟨.tup [Bo.nilP,i 9],⟨rfl,⟨rfl,rfl⟩,Ak⟩,hQ.2 h⟩⟩⟩
def Xc1:DK:=λl=>some (.need [l=[.agg [ofs,i 1,bds N U O m r v],.lit true]] (.branch (xZ N U O m r v) (.leaf (.tup [.roI [] 169 (G6 (PK N U O m r v)) 0,i 0])) (.leaf (.tup [Bo.nilP,i 9]))))
theorem M0(VU:bV N U O m r v):Sx.Enters Tryz.prog 68/\ ∀avs t,Xc1 N U O m r v avs=some t->UQ VR 68 avs t:=by
 refine ⟨(UK Tryz.func68),?_⟩;intro avs t h;cases h;intro Q hQ;have e:=hQ.1
 dsimp only [UD] at e
 subst e;exact Qu8 N U O m r v VU Q hQ.2
end
def Xa4:UY
 |[.roI [] 169 F 0,.x (.int .i64 a),.x (.int .i64 b)]=>some ([0<=a/\a<=12,0<=b/\b<=12,-1000000000000000<=F (b.toNat*13+a.toNat)/\F (b.toNat*13+a.toNat)<=1000000000000000],i (-(F (b.toNat*13+a.toNat))))
 |_=>none
theorem Xo8(F:Nat->Int)(a b:Int)(VU:0<=a/\a<=12)(UI:0<=b/\b<=12)(HU: -1000000000000000<=F (b.toNat*13+a.toNat)/\F (b.toNat*13+a.toNat)<=1000000000000000):U0 VR 94 [.roI [] 169 F 0,i a,i b] (i (-(F (b.toNat*13+a.toNat)))):=by
 refine GZ Tryz.func94 (t:=need [UM b 13] (need [UM a 13] (need [Int.toNat a*1+(Int.toNat b*13+0)<169] (need [VO (-F (Int.toNat a*1+(Int.toNat b*13+0)))] (leaf (RV.x (.int .i64 (-F (Int.toNat a*1+(Int.toNat b*13+0)))))))))) VW ?_;simp only [VP.sat,UD,G8,GO,UG,UJ,DP];rw [show a.toNat*1+(b.toNat*13+0)=b.toNat*13+a.toNat by omega]
 simp only [VO];simp;omega
theorem Xo7:VS VR 94 Xa4:=by
 refine ⟨(UK Tryz.func94),?_⟩;intro avs ns res h hn;unfold Xa4 at h;split at h
 ·cases h;exact Xo8 _ _ _ (hn _ VX) (hn _ VX) (hn _ VX)
 ·cases h
def Qj5:UY
 |[.roI [] 169 F 0,.x (.int .i64 a),.x (.int .i64 b)]=>some ([0<=a/\a<=12,0<=b/\b<=12,-1000000000000000<=F (a.toNat*13+b.toNat)/\F (a.toNat*13+b.toNat)<=1000000000000000],i (F (a.toNat*13+b.toNat)))
 |_=>none
theorem Wx4(F:Nat->Int)(a b:Int)(VU:0<=a/\a<=12)(UI:0<=b/\b<=12)(HU: -1000000000000000<=F (a.toNat*13+b.toNat)/\F (a.toNat*13+b.toNat)<=1000000000000000):U0 VR 95 [.roI [] 169 F 0,i a,i b] (i (F (a.toNat*13+b.toNat))):=by
 refine GZ Tryz.func95 (t:=need [UM a 13] (need [UM b 13] (need [Int.toNat b*1+(Int.toNat a*13+0)<169] (leaf (RV.x (.int .i64 (F (Int.toNat b*1+(Int.toNat a*13+0))))))))) VW ?_;simp only [VP.sat,UD,G8,GO,UG,UJ,DP];rw [show b.toNat*1+(a.toNat*13+0)=a.toNat*13+b.toNat by omega]
 simp only [VO];simp;omega
theorem Wx3:VS VR 95 Qj5:=by
 refine ⟨(UK Tryz.func95),?_⟩;intro avs ns res h hn;unfold Qj5 at h;split at h
 ·cases h;exact Wx4 _ _ _ (hn _ VX) (hn _ VX) (hn _ VX)
 ·cases h
def ML:UY
 |[.roI [] 169 F 0,.x (.int .i64 a),.x (.int .i64 b)]=>some ([0<=a/\a<=12,0<=b/\b<=12,-1000000000000000<=F (b.toNat*13+a.toNat)/\F (b.toNat*13+a.toNat)<=1000000000000000,-1000000000000000<=F (a.toNat*13+b.toNat)/\F (a.toNat*13+b.toNat)<=1000000000000000],.agg [i (-(F (b.toNat*13+a.toNat))),i (F (a.toNat*13+b.toNat))])
 |_=>none
theorem mD(F:Nat->Int)(a b:Int)(VU:0<=a/\a<=12)(UI:0<=b/\b<=12)(HU: -1000000000000000<=F (b.toNat*13+a.toNat)/\F (b.toNat*13+a.toNat)<=1000000000000000)(F5: -1000000000000000<=F (a.toNat*13+b.toNat)/\F (a.toNat*13+b.toNat)<=1000000000000000):U0 VR 69 [.roI [] 169 F 0,i a,i b] (.agg [i (-(F (b.toNat*13+a.toNat))),i (F (a.toNat*13+b.toNat))]):=by
 refine U4 (L:=[]) (Ae Xo7 (Ae Wx3 Aa)) U1 Tryz.func69 (UW Tryz.f69) U6 (t:=need [(0:Int)<=a/\a<=12,(0:Int)<=b/\b<=12,(-1000000000000000:Int)<=F (Int.toNat b*13+Int.toNat a)/\F (Int.toNat b*13+Int.toNat a)<=1000000000000000] (need [(0:Int)<=a/\a<=12,(0:Int)<=b/\b<=12,(-1000000000000000:Int)<=F (Int.toNat a*13+Int.toNat b)/\F (Int.toNat a*13+Int.toNat b)<=1000000000000000] (leaf (RV.agg [RV.x (.int .i64 (-F (Int.toNat b*13+Int.toNat a))),RV.x (.int .i64 (F (Int.toNat a*13+Int.toNat b)))])))) VW ?_;exact V4
theorem rV:VS VR 69 ML:=by
 refine ⟨(UK Tryz.func69),?_⟩;intro avs ns res h hn;unfold ML at h;split at h
 ·cases h;exact mD _ _ _ (hn _ VX) (hn _ VX) (hn _ VX) (hn _ VX)
 ·cases h
theorem Xn1{N:Nat}{U O:Nat->Int}{m:Nat->Nat}{r v:Nat->Nat->Int}(h:bOK N U O m r v)(x y:Nat): -1000000000000000<=PK N U O m r v x y/\PK N U O m r v x y<=1000000000000000:=by
 have:=Xd0 (c:=12) (TI h (HG m N) (Am _)) 13 x y;rw [show (8001:Int)*6^13=104498612822016 by decide] at this
 unfold PK r0M;omega
section
variable (N:Nat)(U O:Nat->Int)(m:Nat->Nat)(r v:Nat->Nat->Int)
def boE:Int:=if xZ N U O m r v=true then 0 else 9
def boN:Nat:=if xZ N U O m r v=true then 3 else 0
def boL(k:Nat):Int:= -(PK N U O m r v 0 (1+k))
def boH(k:Nat):Int:=PK N U O m r v (1+k) 0
abbrev QH:AV:=AV.x (.slice none 0 0)
def Qa9:St:={σ:=[agg [lst 2 3 λk=>[iI (oL k),iI (oH k)],iI 1,Q1 N U O m r v],ptr 0 0,QH,iI 0,QD,iI 9]++HM 12 [iI (↑(3:Nat):Int)]++HM 12 [],m:=[(901,GS.row 68 2 0 λx=>[]),(0,GS.cells 103 [lst 2 3 λk=>[iI (oL k),iI (oH k)],iI 1,Q1 N U O m r v])],nx:=902}
noncomputable def Qx1:Code:=UC (VV (U9 Tryz.f35) 0)
def uC(k:Nat):St:={σ:=H4 [(19,i k),(6,.row 901),(4,.roI [] 169 (G6 (PK N U O m r v)) 0),(5,i 0)] (Qa9 N U O m r v).σ,m:=[(901,.row 68 2 k (λk=>[i (boL N U O m r v k),i (boH N U O m r v k)])),(0,.cells 103 [ofs,i 1,bds N U O m r v])],nx:=902}
def PW(k:Nat):G9->Option St
 | .exit 0=>some {σ:=H4 [(19,i 3),(6,.row 901),(4,.roI [] 169 (G6 (PK N U O m r v)) 0),(5,i 0)] (Qa9 N U O m r v).σ,m:=[(901,.row 68 2 3 (λk=>[i (boL N U O m r v k),i (boH N U O m r v k)])),(0,.cells 103 [ofs,i 1,bds N U O m r v])],nx:=902}
 |_=>none
def Wz6:CT:= .leaf (.exit 0,(PW N U O m r v 0 (.exit 0)).getD (Qa9 N U O m r v))
def nJ:UL:=GM [(.slot 6,901,68,2)] (HK (uC N U O m r v (0)) (Wz6 N U O m r v))
abbrev KU:Prop:=(1:Int)=1
theorem Jm4(VU:bV N U O m r v):GA VR (.loop Qx1) (nJ N U O m r v):=by
 refine G5 [(.slot 6,901,68,2)] (L:=[]) (Ae RL (Ae rV Aa)) (Aj Ab Ac (Ah (M0 N U O m r v VU) (UE.nil _))) U1 U6 (X:=Nat) (uC N U O m r v) (λk=>k<=3) (λk=>3-k) (PW N U O m r v) (x0:=0) VX ?_ ?_ ?_
 ·rintro k;kernel_rfl
 ·rintro k y E h;unfold PW at h;split at h
  ·cases h;kernel_rfl
  ·cases h
 ·rintro Q hQ k hx;refine ⟨(k+1),?_⟩;(with_reducible refine DL (t:=let W:=PK N U O m r v;let z1:=(U2 (agg [lst 2 3 λk=>[iI (oL k),iI (oH k)],iI 1,Q1 N U O m r v]));let z2:=(G6 (W) (((1:Int)+(k:Int)).toNat*13+(0:Int).toNat));(branch (decide ((k:Int)<(↑(3:Nat):Int))) (need [(0:Int)<=(k:Int)/\(k:Int)<=1000] (need [(0:Int)<=1+(k:Int)/\(1:Int)+(k:Int)<=12,(0:Int)<=0/\(0:Int)<=12,(-1000000000000000:Int)<=G6 (W) (0+((1:Int)+(k:Int)).toNat)/\G6 (W) (0+((1:Int)+(k:Int)).toNat)<=1000000000000000,(-1000000000000000:Int)<=G6 (W) (((1:Int)+(k:Int)).toNat*13+(0:Int).toNat)/\G6 (W) (((1:Int)+(k:Int)).toNat*13+(0:Int).toNat)<=1000000000000000] (need [(k+1)*16<=140737488355328,RZ 1 (U8 2 [iI (-G6 (W) (0+((1:Int)+(k:Int)).toNat)),iI z2])] (need [VO ((k:Int)+1)] (need [z1,QS,QH=QH,QY,U2 (KE N U O m r v),QY,WI,U2 (↑(3:Nat):Int),(k:Int)+1=(↑(k+1):Int),k+1=k+1,GY (k+1) (GI k (λk=>[iI (boL N U O m r v k),iI (boH N U O m r v k)]) (U8 2 [iI (-G6 (W) (0+((1:Int)+(k:Int)).toNat)),iI z2])) (λi=>[iI (boL N U O m r v i),iI (boH N U O m r v i)]),U2 (lst 2 3 λk=>[iI (oL k),iI (oH k)]),KU,WU N U O m r v] (leaf G9.normal)))))) (need [z1,QS,QH=QH,QY,U2 (KE N U O m r v),QY,WI,U2 (↑(3:Nat):Int),(k:Int)=3,k=3,∀(i:Nat),i<3->[iI (boL N U O m r v i),iI (boH N U O m r v i)]=[iI (boL N U O m r v i),iI (boH N U O m r v i)],U2 (lst 2 3 λk=>[iI (oL k),iI (oH k)]),KU,WU N U O m r v] (leaf (G9.exit 0))))) VW ?_)
  simp only [Wz6,PW,VP.sat,GX] at hQ;simp only [VP.sat,UD,G8,GO,UG,VO,UJ,HB,RE,RF,L7,GR,PW]
  have hb:=λx y=>Xn1 VU.1 x y
  have e1:(1+(k:Int)).toNat=1+k:=VM;have g1:k<3->G6 (PK N U O m r v) (0*13+(1+k))=PK N U O m r v 0 (1+k):=λ_=>yP _ VM VM
  have g2:k<3->G6 (PK N U O m r v) ((1+k)*13+0)=PK N U O m r v (1+k) 0:=λ_=>yP _ VM VM
  have b1:=hb 0 (1+k);have b2:=hb (1+k) 0;refine ⟨λh=>?_,λh=>?_⟩
  ·have hk:k<3:=VM;have f1:=g1 hk;have f2:=g2 hk;rw [e1];simp only [Int.toNat_zero,f1,f2]
   (with_reducible repeat' first|apply Al|intro _)
   all_goals first|exact Ak|omega|rfl|exact FS (by assumption) (by simp [AV.one,Value.oneCell'])|exact Zq9 rfl rfl (by assumption)
  ·obtain rfl:k=3:=VM;exact V3
abbrev J4:Value:=Value.slice none 0 0
abbrev Y9:Value:=Value.pointer none
theorem kX(VU:bV N U O m r v):U0 VR 35 [.agg [ofs,i 1,bds N U O m r v]] (.tup [.lst 2 (boN N U O m r v) (λk=>[i (boL N U O m r v k),i (boH N U O m r v k)]),i (boE N U O m r v)]):=by
 refine GD (L:=[nJ N U O m r v]) (Ae RL (Ae rV Aa)) (Aj Ab Ac (Ah (M0 N U O m r v VU) (UE.nil _))) U1 Tryz.func35 (UW Tryz.f35) (UZ (lpE (b:= .loop Qx1) VW<|(Jm4 N U O m r v VU).N)) (t:=let W:=([lst 2 3 λk=>[iI (oL k),iI (oH k)],iI 1,Q1 N U O m r v]);let z1:=(leaf (RV.tup [RV.lst 2 3 λk=>[iI (boL N U O m r v k),iI (boH N U O m r v k)],RV.x (X2)]));(need [U2 ([agg W,AV.lit true])] (branch (xZ N U O m r v) (branch ((0:Int) != 0) (leaf (RV.tup [RV.x (J4),RV.x (X2)])) (need [U2 (agg W),QS,QH=QH,QY,U2 (KE N U O m r v),QY,WI,U2 (↑(3:Nat):Int),(0:Int)=(↑(0:Nat):Int),0=0,∀(i:Nat),i<0->[]=[iI (boL N U O m r v i),iI (boH N U O m r v i)],U2 (lst 2 3 λk=>[iI (oL k),iI (oH k)]),KU,WU N U O m r v] z1)) (branch ((9:Int) != 0) (leaf (RV.tup [RV.x (J4),RV.x (.int .i64 (9:Int))])) (need [U2 (agg W),QS,QH=QH,QY,AV.x (Y9)=roI [] 169 (λk=>G6 (PK N U O m r v) k) 0,(9:Int)=0,WI,U2 (↑(3:Nat):Int),(0:Int)=(↑(0:Nat):Int),0=0,∀(i:Nat),i<0->[]=[iI (boL N U O m r v i),iI (boH N U O m r v i)],U2 (lst 2 3 λk=>[iI (oL k),iI (oH k)]),KU,WU N U O m r v] z1))))) VW ?_
 simp only [VP.sat,UD,G8,GO,UG,UJ];refine ⟨λhok=>⟨λh=>by simp at h,λ_=>?_⟩,λhno=>⟨λ_=>?_,λh=>by simp at h⟩⟩
 ·unfold boN boE;rw [if_pos hok,if_pos hok]
  (with_reducible repeat' first|apply Al|intro _)
  all_goals first|exact Ak|omega|rfl|(rename_i hm;simp only [GQ,DQ,or_false] at hm;rcases hm with rfl|rfl<;>exact Ak)
 ·unfold boN boE;rw [if_neg (by simp [hno]),if_neg (by simp [hno])]
  exact ⟨⟨Ak,rfl⟩,rfl⟩
def tX:UY:=λl=>some ([l=[.agg [ofs,i 1,bds N U O m r v]]],.tup [.lst 2 (boN N U O m r v) (λk=>[i (boL N U O m r v k),i (boH N U O m r v k)]),i (boE N U O m r v)])
theorem bF(VU:bV N U O m r v):VS VR 35 (tX N U O m r v):=by
 refine ⟨(UK Tryz.func35),?_⟩;intro avs ns res h hn;cases h;have e:=hn _ GJ;subst e;exact kX N U O m r v VU
end
def SL:UY
 |[.x (.int .i64 n),.x (.int .i64 U),.x (.int .i64 O)]=>some ([],bl (bt U n O))
 |_=>none
theorem oP(n U O:Int):U0 VR 27 [i n,i U,i O] (bl (bt U n O)):=by
 refine GZ Tryz.func27 (t:=branch (decide (U<=n)) (leaf (RV.x (.bool (decide (n<=O))))) (leaf (RV.x (WO)))) VW ?_;exact VD
theorem zS:VS VR 27 SL:=by
 refine ⟨(UK Tryz.func27),?_⟩;intro avs ns res h hn;unfold SL at h;split at h
 ·cases h;exact oP _ _ _
 ·cases h
def Wz8:UY
 |[.x (.int .i64 n)]=>some ([],bl (bt 0 n 100))
 |_=>none
theorem Xi2(n:Int):U0 VR 28 [i n] (bl (bt 0 n 100)):=by
 refine U4 (L:=[]) (Ae zS Aa) U1 Tryz.func28 (UW Tryz.f28) U6 (t:=leaf (RV.x (.bool (bt (0:Int) n (100:Int))))) VW ?_;exact V4
theorem AE:VS VR 28 Wz8:=by
 refine ⟨(UK Tryz.func28),?_⟩;intro avs ns res h hn;unfold Wz8 at h;split at h
 ·cases h;exact Xi2 _
 ·cases h
def ME:UY:=y6
theorem Qo6(a b:Int):U0 VR 54 [.lst 1 2 (λk=>[i (if k=0 then a else b)])] (i (min a b)):=by
 refine U4 (L:=[]) (Ae TE Aa) U1 Tryz.func54 (UW Tryz.f54) U6 (t:=leaf (RV.x (.int .i64 (min (if 0=0 then a else b) (if 1=0 then a else b))))) VW ?_
 simp [VP.sat,G8,UG]
theorem PU:VS VR 54 ME:=by
 refine ⟨(UK Tryz.func54),?_⟩;intro avs ns res h hn;unfold ME y6 at h;split at h
 ·rename_i f;split at h
  ·rename_i a b h0 h1;cases h;refine (Qo6 a b).same (.cons (.lst 1 2 _ _ ?_) .nil);intro k hk;rcases (show k=0\/k=1 by omega) with rfl|rfl
   ·exact h0
   ·exact h1
  ·cases h
 ·cases h
def y7:UY:=fO
theorem TJ(a b:Int):U0 VR 55 [.lst 1 2 (λk=>[i (if k=0 then a else b)])] (i (max a b)):=by
 refine U4 (L:=[]) (Ae Qb7 Aa) U1 Tryz.func55 (UW Tryz.f55) U6 (t:=leaf (RV.x (.int .i64 (max (if 0=0 then a else b) (if 1=0 then a else b))))) VW ?_
 simp [VP.sat,G8,UG]
theorem F1:VS VR 55 y7:=by
 refine ⟨(UK Tryz.func55),?_⟩;intro avs ns res h hn;unfold y7 fO at h;split at h
 ·rename_i f;split at h
  ·rename_i a b h0 h1;cases h;refine (TJ a b).same (.cons (.lst 1 2 _ _ ?_) .nil);intro k hk;rcases (show k=0\/k=1 by omega) with rfl|rfl
   ·exact h0
   ·exact h1
  ·cases h
 ·cases h
def saB(f t q U O:Int):Bool:=bt 0 f 3&&bt 0 t 3&&(f != t)&&bt 1 q 1000&&bt 0 U 100&&bt 0 O 100&&decide (U<=O)
abbrev sls(n:Nat)(f t q U O:Nat->Int):AV:= .lst 5 n (λk=>[i (f k),i (t k),i (q k),i (U k),i (O k)])
def NC(d:Int)(n:Nat):Bool:=Xp8 (d / 2^n) 1==1
theorem Xh0{f t q U O:Int}:saB f t q U O=true↔(0<=f/\f<=3)/\(0<=t/\t<=3)/\f≠t/\(1<=q/\q<=1000)/\(0<=U/\U<=100)/\(0<=O/\O<=100)/\U<=O:=by
 simp [saB,bt_iff,and_assoc]
theorem cF{q:Nat}(h:q<2^40):IntKind.i64.wrap (q:Int)=q:=by
 have e:IntKind.i64.wrap (q:Int)=if (true&&decide ((q:Int)%2^64>=2^63))=true then (q:Int)%2^64-2^64 else (q:Int)%2^64:=rfl
 have e2:(q:Int)%2^64=q:=Int.emod_eq_of_lt VM VM;rw [e,e2,if_neg];rw [Bool.true_and,y5];omega
theorem t8{z:Nat}(hz:z<8192):(BitVec.ofInt 64 (z:Int)).toNat=z:=by
 rw [BitVec.toNat_ofInt];omega
theorem Xi8{x y:Nat}(hx:x<8192)(hy:y<8192):orI x y=((x ||| y:Nat):Int):=by
 unfold orI;rw [BitVec.toNat_or,t8 hx,t8 hy];have hlt:x ||| y<2^13:=Nat.or_lt_two_pow VM VM
 exact cF VM
theorem Wy6{x:Nat}(hx:x<8192):Xp8 x 1=((x%2:Nat):Int):=by
 unfold Xp8;rw [BitVec.toNat_and,t8 hx,show (BitVec.ofInt 64 1).toNat=1 from rfl,Nat.and_one_is_mod];exact cF VM
theorem Zp9(d n:Nat):((d:Int) / 2^n)=((d / 2^n:Nat):Int):=by
 rw [Int.natCast_ediv,Int.natCast_pow];rfl
theorem Ws0{d n:Nat}(hd:d<8192):NC d n=d.testBit n:=by
 unfold NC;rw [Zp9,Wy6 (Nat.lt_of_le_of_lt (Nat.div_le_self _ _) hd),Nat.testBit_eq_decide_div_mod_eq,Bool.eq_iff_iff,beq_iff_eq,y5];omega
def tJ:UY
 |[.x (.int .i64 d),.x (.int .i64 n)]=>some ([0<=n/\n<=64],bl (NC d n.toNat))
 |_=>none
theorem Xi1(d n:Int)(VU:0<=n/\n<=64):U0 VR 81 [i d,i n] (bl (NC d n.toNat)):=by
 refine GZ Tryz.func81 (t:=need [(0:Int)<=n/\n<=64] (leaf (RV.x (.bool (IntKind.wrap IntKind.i64 (↑(BitVec.toNat (BitVec.ofInt 64 (d / (2:Int)^Int.toNat n) &&& BitVec.ofInt 64 (1:Int))):Int)==1))))) VW ?_;exact V4
theorem AD:VS VR 81 tJ:=by
 refine ⟨(UK Tryz.func81),?_⟩;intro avs ns res h hn;unfold tJ at h;split at h
 ·cases h;exact Xi1 _ _ (hn _ VX)
 ·cases h
def Qi5:UY
 |[.agg [.x (.int .i64 4),.x (.int .i64 10),.lst 5 n f],.agg [.x (.int .i64 a),.x (.int .i64 b),.x (.int .i64 c),.x (.int .i64 U),.x (.int .i64 O)]]=>some ([],bl (saB a b c U O))
 |_=>none
theorem Wf8(f:Nat->List AV)(n:Nat)(a b c U O:Int):U0 VR 77 [.agg [i 4,i 10,.lst 5 n f],.agg [i a,i b,i c,i U,i O]] (bl (saB a b c U O)):=by
 refine U4 (L:=[]) (Ae zS (Ae AE Aa)) U1 Tryz.func77 (UW Tryz.f77) U6 (t:=need [VO ((4:Int)-1)] (branch (bt (0:Int) a ((4:Int)-1)) (need [VO ((4:Int)-1)] (branch (bt (0:Int) b ((4:Int)-1)) (branch (a != b) (branch (bt (1:Int) c (1000:Int)) (branch (bt (0:Int) U (100:Int)) (branch (bt (0:Int) O (100:Int)) (leaf (RV.x (.bool (decide (U<=O))))) (leaf (RV.x (WO)))) (leaf (RV.x (WO)))) (leaf (RV.x (WO)))) (leaf (RV.x (WO)))) (leaf (RV.x (WO))))) (leaf (RV.x (WO))))) VW ?_;simp only [VP.sat,UD,G8,GO,UG,UJ,VO,saB];refine ⟨VM,?_⟩;cases h1:bt 0 a 3<;>cases h2:bt 0 b 3<;>cases h3:(a != b)<;>cases h4:bt 1 c 1000<;>cases h5:bt 0 U 100<;>cases h6:bt 0 O 100<;>simp [h1,h2,h3,h4,h5,h6]
theorem Wf7:VS VR 77 Qi5:=by
 refine ⟨(UK Tryz.func77),?_⟩;intro avs ns res h hn;unfold Qi5 at h;split at h
 ·cases h;exact Wf8 _ _ _ _ _ _ _
 ·cases h
def Qi6:UY
 |[.agg [.x (.int .i64 a),.x (.int .i64 b),.x (.int .i64 c),.x (.int .i64 U),.x (.int .i64 O)],.ro [.fn (.func 77) [.agg [.x (.int .i64 4),.x (.int .i64 10),.lst 5 n f]] []]]=>some ([],bl (!saB a b c U O))
 |_=>none
theorem Wg2(f:Nat->List AV)(n:Nat)(a b c U O:Int):U0 VR 107 [.agg [i a,i b,i c,i U,i O],.ro [.fn (.func 77) [.agg [i 4,i 10,.lst 5 n f]] []]] (bl (!saB a b c U O)):=by
 refine U4 (L:=[]) (Ae Wf7 Aa) U1 Tryz.func107 (UW Tryz.f107) U6 (t:=leaf (RV.x (.bool !saB a b c U O))) VW ?_;exact V4
theorem eT:VS VR 107 Qi6:=by
 refine ⟨(UK Tryz.func107),?_⟩;intro avs ns res h hn;unfold Qi6 at h;split at h
 ·cases h;exact Wg2 _ _ _ _ _ _ _
 ·cases h
def nsB(a b c U O:Nat->Int)(j:Nat):Bool:= !saB (a j) (b j) (c j) (U j) (O j)
def jM(n:Nat)(a b c U O:Nat->Int):Bool:=DD (λj=>saB (a j) (b j) (c j) (U j) (O j)) n
abbrev Q0(n:Nat)(a:Nat->Int)(b:Nat->Int)(c:Nat->Int)(U:Nat->Int)(O:Nat->Int):AV:=lst 5 n λk=>[iI (a k),iI (b k),iI (c k),iI (U k),iI (O k)]
abbrev WK(n1:Nat)(f:Nat->List AV):AV:=AV.fn (Fn.func 107) [] [AV.ro [AV.fn (Fn.func 77) [agg [iI 4,iI 10,lst 5 n1 λa=>f a]] []]]
section
variable (n:Nat)(a b c U O:Nat->Int)(f:Nat->List AV)(n1:Nat)
def MP:St:={σ:=[Q0 n a b c U O,WK n1 f]++HM 5 [iI (n:Int)]++HM 11 [],m:=[],nx:=4}
noncomputable def Xf4:Code:=UC (VV (U9 Tryz.f139) 0)
def iR(k:Nat):St:=(upM [(8,i k)] (MP n a b c U O f n1))
def xP(k:Nat):G9->Option St
 | .ret=>some (upM [(4,i (H0 ((nsB a b c U O)) n))] (MP n a b c U O f n1))
 | .exit 0=>some (upM [] (MP n a b c U O f n1))
 |_=>none
def Wz2:CT:= .branch (decide (H0 ((nsB a b c U O)) n<n)) (.leaf (.ret,(xP n a b c U O f n1 0 .ret).getD (MP n a b c U O f n1))) (.leaf (.exit 0,(xP n a b c U O f n1 0 (.exit 0)).getD (MP n a b c U O f n1)))
def Ql7:UL:=(HK (iR n a b c U O f n1 (0)) (Wz2 n a b c U O f n1))
end
abbrev W5(n:Nat)(a:Nat->Int)(b:Nat->Int)(c:Nat->Int)(U:Nat->Int)(O:Nat->Int):Prop:=(Q0 n a b c U O)=Q0 n a b c U O
theorem VH{p:Prop}(h:p:=by
 refine ⟨by have:=Xl5 hk hb;omega,λE hE=>?_⟩
 cases hE;exact hQ.1 (by rw [Xl5 hk hb];exact hk)):p:=h
section
variable (n:Nat)(a b c U O:Nat->Int)(f:Nat->List AV)(n1:Nat)
theorem Xf7(VU:n<=100000):GA VR (.loop Xf4) (Ql7 n a b c U O f n1):=by
 refine HJ (L:=[]) (Ae eT Aa) U1 U6 (X:=Nat) (iR n a b c U O f n1) (λk=>k<=n/\ ∀j,j<k->(nsB a b c U O) j=false) (λk=>n-k) (xP n a b c U O f n1) (x0:=0) ⟨VM,λj hj=>VM⟩ ?_ ?_ ?_
 ·rintro k;kernel_rfl
 ·rintro k y E h;unfold xP at h;split at h
  ·cases h;kernel_rfl
  ·cases h;kernel_rfl
  ·cases h
 ·rintro Q hQ k hx;refine ⟨(k+1),?_⟩;(with_reducible refine DL (t:=branch (decide ((k:Int)<(n:Int))) (need [UM k n] (branch (!saB (a k) (b k) (c k) (U k) (O k)) (need [W5 n a b c U O,U2 (WK n1 f),(k:Int)=(↑(H0 (nsB a b c U O) n):Int),U2 (n:Int)] (leaf G9.ret)) (need [VO ((k:Int)+1)] (need [W5 n a b c U O,U2 (WK n1 f),U2 (n:Int),(k:Int)+1=(↑(k+1):Int)] (leaf G9.normal))))) (need [W5 n a b c U O,U2 (WK n1 f),U2 (n:Int)] (leaf (G9.exit 0)))) VW ?_);simp only [Wz2,xP,VP.sat,GX,HB] at hQ;simp only [VP.sat,UD,UJ,HB,VO,xP,DP];have Xl5:k<n->((nsB a b c U O)) k=true->H0 ((nsB a b c U O)) n=k:=λh hb=>jB h hb hx.2
  have PI: ¬k<n->H0 ((nsB a b c U O)) n=n:=λh=>qH (λj hj=>hx.2 j VM)
  have hgo:((nsB a b c U O)) k=false-> ∀j,j<k+1->((nsB a b c U O)) j=false:=by
   intro hb j hj;rcases (show j<k\/j=k by omega) with h1|rfl
   ·exact hx.2 j h1
   ·exact hb
  refine ⟨λh=>⟨VM,?_⟩,λh=>?_⟩
  rotate_left
  ·intro E hE;cases hE;exact hQ.2 (by rw [PI VM];omega)
  have hk:k<n:=VM;refine ⟨λhb=>?_,λhb=>?_⟩
  ·exact VH
  ·exact ⟨VM,VM,⟨VM,hgo hb⟩,VM⟩
theorem Zk5(VU:n<=100000):U0 VR 139 [sls n a b c U O,.fn (.func 107) [] [.ro [.fn (.func 77) [.agg [i 4,i 10,.lst 5 n1 f]] []]]] (i (if H0 ((nsB a b c U O)) n<n then (H0 ((nsB a b c U O)) n:Int) else -1)):=by
 refine U4 (L:=[Ql7 n a b c U O f n1]) (Ae eT Aa) U1 Tryz.func139 (UW Tryz.f139) (UZ (lpE (b:= .loop Xf4) VW<|Xf7 n a b c U O f n1 VU)) (t:=need [W5 n a b c U O,U2 (WK n1 f),U2 (n:Int),(0:Int)=(↑(0:Nat):Int)] (branch (decide (H0 (nsB a b c U O) n<n)) (leaf (RV.x (.int .i64 (↑(H0 (nsB a b c U O) n):Int)))) (leaf (RV.x (KJ))))) VW ?_
 exact VF
end
def Xx4:UY
 |[.lst 5 n f,.fn (.func 107) [] [.ro [.fn (.func 77) [.agg [.x (.int .i64 4),.x (.int .i64 10),.lst 5 n1 f1]] []]]]=>some ([UH 5 n f,n<=100000],i (if H0 (nsB (col 0 f) (col 1 f) (col 2 f) (col 3 f) (col 4 f)) n<n then (H0 (nsB (col 0 f) (col 1 f) (col 2 f) (col 3 f) (col 4 f)) n:Int) else -1))
 |_=>none
theorem Zk4:VS VR 139 Xx4:=by
 refine ⟨(UK Tryz.func139),?_⟩;intro avs ns res h hn;unfold Xx4 at h;split at h
 ·cases h;have hr:_:=hn _ (GJ);have hr1:_:=hn _ (HW _ (GJ));exact (Zk5 _ (col 0 _) (col 1 _) (col 2 _) (col 3 _) (col 4 _) _ _ hr1).same (.cons (.lst 5 _ _ _ hr) (.cons (.refl _) .nil))
 ·cases h
theorem Zk7(n:Nat)(a b c U O:Nat->Int)(f:Nat->List AV)(n1:Nat)(VU:n<=100000):U0 VR 106 [sls n a b c U O,.fn (.func 107) [] [.ro [.fn (.func 77) [.agg [i 4,i 10,.lst 5 n1 f]] []]]] (bl (!jM n a b c U O)):=by
 refine U4 (L:=[]) (Ae Zk4 Aa) U1 Tryz.func106 (UW Tryz.f106) U6 (t:=need [UH 5 n λk=>[i (a k),i (b k),i (c k),i (U k),i (O k)],n<=100000] (leaf (RV.x (.bool (decide ((if H0 (nsB a b c U O) n<n then (↑(H0 (nsB a b c U O) n):Int) else (-1:Int))>=(0:Int))))))) VW ?_
 simp only [VP.sat,UD,G8,UG,UJ];refine ⟨⟨λ_ _=>rfl,VU⟩,?_⟩
 unfold jM;rw [kY];have:=F6 (nsB a b c U O) n;have e:(λk=> !(λk=>saB (a k) (b k) (c k) (U k) (O k)) k)=nsB a b c U O:=rfl
 rw [e];show decide ((if H0 (nsB a b c U O) n<n then (H0 (nsB a b c U O) n:Int) else -1)>=0)=_
 split<;>simp<;>omega
def Xx5:UY
 |[.lst 5 n f,.fn (.func 107) [] [.ro [.fn (.func 77) [.agg [.x (.int .i64 4),.x (.int .i64 10),.lst 5 n1 f1]] []]]]=>some ([UH 5 n f,n<=100000],bl (!jM n (col 0 f) (col 1 f) (col 2 f) (col 3 f) (col 4 f)))
 |_=>none
theorem Zk6:VS VR 106 Xx5:=by
 refine ⟨(UK Tryz.func106),?_⟩;intro avs ns res h hn;unfold Xx5 at h;split at h
 ·cases h;have hr:_:=hn _ (GJ);have hr1:_:=hn _ (HW _ (GJ));exact (Zk7 _ (col 0 _) (col 1 _) (col 2 _) (col 3 _) (col 4 _) _ _ hr1).same (.cons (.lst 5 _ _ _ hr) (.cons (.refl _) .nil))
 ·cases h
theorem Xi4(n:Nat)(a b c U O:Nat->Int)(f:Nat->List AV)(n1:Nat)(VU:n<=100000):U0 VR 78 [sls n a b c U O,.fn (.func 77) [.agg [i 4,i 10,.lst 5 n1 f]] []] (bl (jM n a b c U O)):=by
 refine U4 (L:=[]) (Ae Zk6 Aa) U1 Tryz.func78 (UW Tryz.f78) U6 (t:=need [UH 5 n λk=>[i (a k),i (b k),i (c k),i (U k),i (O k)],n<=100000] (leaf (RV.x (.bool !!jM n a b c U O)))) VW ?_
 simp only [VP.sat,UD,G8,UG,UJ];refine ⟨⟨λ_ _=>rfl,VU⟩,?_⟩
 show (!!jM n a b c U O)=_;simp
def Wz9:UY
 |[.lst 5 n f,.fn (.func 77) [.agg [.x (.int .i64 4),.x (.int .i64 10),.lst 5 n1 f1]] []]=>some ([UH 5 n f,n<=100000],bl (jM n (col 0 f) (col 1 f) (col 2 f) (col 3 f) (col 4 f)))
 |_=>none
theorem Xi3:VS VR 78 Wz9:=by
 refine ⟨(UK Tryz.func78),?_⟩;intro avs ns res h hn;unfold Wz9 at h;split at h
 ·cases h;have hr:_:=hn _ (GJ);have hr1:_:=hn _ (HW _ (GJ));exact (Xi4 _ (col 0 _) (col 1 _) (col 2 _) (col 3 _) (col 4 _) _ _ hr1).same (.cons (.lst 5 _ _ _ hr) (.cons (.refl _) .nil))
 ·cases h
theorem NZ(n:Nat)(a b c U O:Nat->Int)(VU:n<=8):U0 VR 48 [.agg [i 4,i 10,sls n a b c U O]] (i (if jM n a b c U O then 0 else 1)):=by
 refine U4 (L:=[]) (Ae Xi3 (Ae zS Aa)) U1 Tryz.func48 (UW Tryz.f48) U6 (t:=branch (decide ((n:Int)>8)) (leaf (RV.x (KM))) (branch (!bt (1:Int) (4:Int) (6:Int)) (leaf (RV.x (JW))) (branch (!bt (0:Int) (10:Int) (1000:Int)) (leaf (RV.x (JW))) (need [UH 5 n λk=>[i (a k),i (b k),i (c k),i (U k),i (O k)],n<=100000] (branch (!jM n a b c U O) (leaf (RV.x (JW))) (leaf (RV.x (X2)))))))) VW ?_
 simp only [VP.sat,UD,G8,UG,UJ];have h1:(!bt 1 4 6)=false:=by decide
 have h2:(!bt 0 10 1000)=false:=by decide
 rw [h1,h2];refine ⟨λh=>absurd h (by simp;omega),λ_=>⟨λh=>(Bool.noConfusion h),λ_=>⟨λh=>(Bool.noConfusion h),λ_=>⟨⟨λ_ _=>rfl,VM⟩,λh=>?_,λh=>?_⟩⟩⟩⟩
 ·rw [Ax] at h;rw [h];rfl
 ·rw [Bool.not_eq_false'] at h;rw [h];rfl
def sg0(k:Nat):Int:=if k=0 then 10 else 0
def sld(F:Nat->Int)(a b c:Int)(k:Nat):Int:=if (k:Int)=b then (if (k:Int)=a then F k-c else F k)+c else if (k:Int)=a then F k-c else F k
abbrev sgs(F:Nat->Int):AV:= .agg [i (F 0),i (F 1),i (F 2),i (F 3),i (F 4),i (F 5)]
def mN:UY
 |[.agg [.x (.int .i64 4),.x (.int .i64 10),.lst 5 n f]]=>some ([],.agg [i 10,i 0,i 0,i 0,i 0,i 0])
 |_=>none
abbrev Q3:List Int:=[(0:Int),0,0,0,0,0]
theorem Qo8(f:Nat->List AV)(n:Nat):U0 VR 80 [.agg [i 4,i 10,.lst 5 n f]] (.agg [i 10,i 0,i 0,i 0,i 0,i 0]):=by
 refine GZ Tryz.func80 (t:=let W:=(UT 4 (UT 0 (10:Int) (BO Q3) 4) (UT 3 (UT 0 (10:Int) (BO Q3) 3) (UT 2 (UT 0 (10:Int) (BO Q3) 2) (UT 1 (UT 0 (10:Int) (BO Q3) 1) (UT 0 (UT 0 (10:Int) (BO Q3) 0) (jT 0 [(10:Int)] (BO Q3)))))));let z1:=(UT 0 (10:Int) (BO Q3) 5);(need [UM 0 6] (need [1<=6] (need [6<=6] (need [6<=6] (leaf (RV.agg [RV.x (.int .i64 (UT 5 z1 W 0)),RV.x (.int .i64 (UT 5 z1 W 1)),RV.x (.int .i64 (UT 5 z1 W 2)),RV.x (.int .i64 (UT 5 z1 W 3)),RV.x (.int .i64 (UT 5 z1 W 4)),RV.x (.int .i64 (UT 5 z1 W 5))]))))))) VW ?_;exact V4
theorem NY:VS VR 80 mN:=by
 refine ⟨(UK Tryz.func80),?_⟩;intro avs ns res h hn;unfold mN at h;split at h
 ·cases h;exact Qo8 _ _
 ·cases h
theorem Wf6(F:Nat->Int)(a b c U O:Int)(VU: ∀k,k<6-> -1000000<=F k/\F k<=1000000)(UI:0<=a/\a<=3)(HU:0<=b/\b<=3)(F5:a≠b)(BU:1<=c/\c<=1000):U0 VR 82 [sgs F,.agg [i a,i b,i c,i U,i O]] (sgs (sld F a b c)):=by
 refine GZ Tryz.func82 (t:=let z1:=(jT (Int.toNat a*1+0) [UB [F 0,F 1,F 2,F 3,F 4,F 5] (Int.toNat a*1+0)-c] (UB [F 0,F 1,F 2,F 3,F 4,F 5]));let W:=(UT 4 (UT (Int.toNat b*1+0) (UT (Int.toNat a*1+0) (UB [F 0,F 1,F 2,F 3,F 4,F 5] (Int.toNat a*1+0)-c) (UB [F 0,F 1,F 2,F 3,F 4,F 5]) (Int.toNat b*1+0)+c) z1 4) (UT 3 (UT (Int.toNat b*1+0) (UT (Int.toNat a*1+0) (UB [F 0,F 1,F 2,F 3,F 4,F 5] (Int.toNat a*1+0)-c) (UB [F 0,F 1,F 2,F 3,F 4,F 5]) (Int.toNat b*1+0)+c) z1 3) (UT 2 (UT (Int.toNat b*1+0) (UT (Int.toNat a*1+0) (UB [F 0,F 1,F 2,F 3,F 4,F 5] (Int.toNat a*1+0)-c) (UB [F 0,F 1,F 2,F 3,F 4,F 5]) (Int.toNat b*1+0)+c) z1 2) (UT 1 (UT (Int.toNat b*1+0) (UT (Int.toNat a*1+0) (UB [F 0,F 1,F 2,F 3,F 4,F 5] (Int.toNat a*1+0)-c) (UB [F 0,F 1,F 2,F 3,F 4,F 5]) (Int.toNat b*1+0)+c) z1 1) (UT 0 (UT (Int.toNat b*1+0) (UT (Int.toNat a*1+0) (UB [F 0,F 1,F 2,F 3,F 4,F 5] (Int.toNat a*1+0)-c) (UB [F 0,F 1,F 2,F 3,F 4,F 5]) (Int.toNat b*1+0)+c) z1 0) (BO Q3))))));let z2:=(UT (Int.toNat b*1+0) (UT (Int.toNat a*1+0) (UB [F 0,F 1,F 2,F 3,F 4,F 5] (Int.toNat a*1+0)-c) (UB [F 0,F 1,F 2,F 3,F 4,F 5]) (Int.toNat b*1+0)+c) z1 5);(need [UM a 6] (need [Int.toNat a*1+0<List.length [F 0,F 1,F 2,F 3,F 4,F 5]] (need [VO (UB [F 0,F 1,F 2,F 3,F 4,F 5] (Int.toNat a*1+0)-c)] (need [UM a 6] (need [Int.toNat a*1+0+List.length [UB [F 0,F 1,F 2,F 3,F 4,F 5] (Int.toNat a*1+0)-c]<=List.length [F 0,F 1,F 2,F 3,F 4,F 5]] (need [UM b 6] (need [Int.toNat b*1+0<List.length [F 0,F 1,F 2,F 3,F 4,F 5]] (need [VO (UT (Int.toNat a*1+0) (UB [F 0,F 1,F 2,F 3,F 4,F 5] (Int.toNat a*1+0)-c) (UB [F 0,F 1,F 2,F 3,F 4,F 5]) (Int.toNat b*1+0)+c)] (need [UM b 6] (need [Int.toNat b*1+0+List.length [UT (Int.toNat a*1+0) (UB [F 0,F 1,F 2,F 3,F 4,F 5] (Int.toNat a*1+0)-c) (UB [F 0,F 1,F 2,F 3,F 4,F 5]) (Int.toNat b*1+0)+c]<=List.length [F 0,F 1,F 2,F 3,F 4,F 5]] (need [6<=List.length [F 0,F 1,F 2,F 3,F 4,F 5]] (need [0+List.length [UT (Int.toNat b*1+0) (UT (Int.toNat a*1+0) (UB [F 0,F 1,F 2,F 3,F 4,F 5] (Int.toNat a*1+0)-c) (UB [F 0,F 1,F 2,F 3,F 4,F 5]) (Int.toNat b*1+0)+c) z1 0,UT (Int.toNat b*1+0) (UT (Int.toNat a*1+0) (UB [F 0,F 1,F 2,F 3,F 4,F 5] (Int.toNat a*1+0)-c) (UB [F 0,F 1,F 2,F 3,F 4,F 5]) (Int.toNat b*1+0)+c) z1 1,UT (Int.toNat b*1+0) (UT (Int.toNat a*1+0) (UB [F 0,F 1,F 2,F 3,F 4,F 5] (Int.toNat a*1+0)-c) (UB [F 0,F 1,F 2,F 3,F 4,F 5]) (Int.toNat b*1+0)+c) z1 2,UT (Int.toNat b*1+0) (UT (Int.toNat a*1+0) (UB [F 0,F 1,F 2,F 3,F 4,F 5] (Int.toNat a*1+0)-c) (UB [F 0,F 1,F 2,F 3,F 4,F 5]) (Int.toNat b*1+0)+c) z1 3,UT (Int.toNat b*1+0) (UT (Int.toNat a*1+0) (UB [F 0,F 1,F 2,F 3,F 4,F 5] (Int.toNat a*1+0)-c) (UB [F 0,F 1,F 2,F 3,F 4,F 5]) (Int.toNat b*1+0)+c) z1 4,UT (Int.toNat b*1+0) (UT (Int.toNat a*1+0) (UB [F 0,F 1,F 2,F 3,F 4,F 5] (Int.toNat a*1+0)-c) (UB [F 0,F 1,F 2,F 3,F 4,F 5]) (Int.toNat b*1+0)+c) z1 5]<=6] (leaf (RV.agg [RV.x (.int .i64 (UT 5 z2 W 0)),RV.x (.int .i64 (UT 5 z2 W 1)),RV.x (.int .i64 (UT 5 z2 W 2)),RV.x (.int .i64 (UT 5 z2 W 3)),RV.x (.int .i64 (UT 5 z2 W 4)),RV.x (.int .i64 (UT 5 z2 W 5))]))))))))))))))) VW ?_;simp only [VP.sat,UD,G8,GO,UG,UJ,VO];obtain ⟨A,rfl⟩: ∃A:Nat,a=A:=⟨a.toNat,VM⟩;obtain ⟨B,rfl⟩: ∃B:Nat,b=B:=⟨b.toNat,VM⟩;have h0:=VU 0 VM;have h1:=VU 1 VM;have h2:=VU 2 VM;have h3:=VU 3 VM
 have h4:=VU 4 VM;have h5:=VU 5 VM;rcases (show A=0\/A=1\/A=2\/A=3 by omega) with rfl|rfl|rfl|rfl<;>rcases (show B=0\/B=1\/B=2\/B=3 by omega) with rfl|rfl|rfl|rfl<;>first|(exfalso;omega)|(simp [GR,UT,UB,sld];omega)
def Qi4:UY
 |[.agg [.x (.int .i64 s0),.x (.int .i64 s1),.x (.int .i64 s2),.x (.int .i64 s3),.x (.int .i64 s4),.x (.int .i64 s5)],.agg [.x (.int .i64 a),.x (.int .i64 b),.x (.int .i64 c),.x (.int .i64 U),.x (.int .i64 O)]]=>some ([-1000000<=s0/\s0<=1000000,-1000000<=s1/\s1<=1000000,-1000000<=s2/\s2<=1000000,-1000000<=s3/\s3<=1000000,-1000000<=s4/\s4<=1000000,-1000000<=s5/\s5<=1000000,0<=a/\a<=3,0<=b/\b<=3,a≠b,1<=c/\c<=1000],sgs (sld (UB [s0,s1,s2,s3,s4,s5]) a b c))
 |_=>none
def sV(n:Nat)(a b c U O:Nat->Int):Prop:=n<=8/\ ∀k,k<n->saB (a k) (b k) (c k) (U k) (O k)=true
def stF(a b c:Nat->Int)(d:Int):Nat->Nat->Int
 | 0=>sg0
 |k+1=>if NC d k then sld (stF a b c d k) (a k) (b k) (c k) else stF a b c d k
theorem eR:VS VR 82 Qi4:=by
 refine ⟨(UK Tryz.func82),?_⟩;intro avs ns res h hn;unfold Qi4 at h;split at h
 ·cases h;rename_i s0 s1 s2 s3 s4 s5 a b c U O;refine Wf6 (UB [s0,s1,s2,s3,s4,s5]) a b c U O ?_ (hn _ VX) (hn _ VX) (hn _ VX) (hn _ VX);intro k hk
  match k,hk with
  | 0,_=>exact hn (-1000000<=s0/\s0<=1000000) VX
  | 1,_=>exact hn (-1000000<=s1/\s1<=1000000) VX
  | 2,_=>exact hn (-1000000<=s2/\s2<=1000000) VX
  | 3,_=>exact hn (-1000000<=s3/\s3<=1000000) VX
  | 4,_=>exact hn (-1000000<=s4/\s4<=1000000) VX
  | 5,_=>exact hn (-1000000<=s5/\s5<=1000000) VX
 ·cases h
theorem upd6(F:Nat->Int)(a b c:Int)(q:Nat)(hq:q<6):
  UT 5 (sld (UB [F 0,F 1,F 2,F 3,F 4,F 5]) a b c 5) (UT 4 (sld (UB [F 0,F 1,F 2,F 3,F 4,F 5]) a b c 4) (UT 3 (sld (UB [F 0,F 1,F 2,F 3,F 4,F 5]) a b c 3)
   (UT 2 (sld (UB [F 0,F 1,F 2,F 3,F 4,F 5]) a b c 2) (UT 1 (sld (UB [F 0,F 1,F 2,F 3,F 4,F 5]) a b c 1) (UT 0 (sld (UB [F 0,F 1,F 2,F 3,F 4,F 5]) a b c 0) F))))) q=sld F a b c q:=by
 match q,hq with
 | 0,_=>rfl
 | 1,_=>rfl
 | 2,_=>rfl
 | 3,_=>rfl
 | 4,_=>rfl
 | 5,_=>rfl
theorem Xu3(F:Nat->Int)(x0 x1 x2 x3 x4 x5:Int)(q:Nat)(hq:q<6):
  UT 5 x5 (UT 4 x4 (UT 3 x3 (UT 2 x2 (UT 1 x1 (UT 0 x0 F))))) q=UB [x0,x1,x2,x3,x4,x5] q:=by
 match q,hq with
 | 0,_=>rfl
 | 1,_=>rfl
 | 2,_=>rfl
 | 3,_=>rfl
 | 4,_=>rfl
 | 5,_=>rfl
theorem Qb6{n:Nat}{a b c U O:Nat->Int}(h:sV n a b c U O){k:Nat}(hk:k<n):(0<=a k/\a k<=3)/\(0<=b k/\b k<=3)/\a k≠b k/\(1<=c k/\c k<=1000)/\(0<=U k/\U k<=100)/\(0<=O k/\O k<=100)/\U k<=O k:=Xh0.1 (h.2 k hk)
theorem Wc9{n:Nat}{a b c U O:Nat->Int}(h:sV n a b c U O)(d:Int): ∀k,k<=n-> ∀j,-(1000*k:Int)<=stF a b c d k j/\stF a b c d k j<=10+1000*k
 | 0,_,j=>by
  simp only [stF,sg0];split<;>omega
 |k+1,hk,j=>by
  obtain ⟨_,_,h3,h4,_⟩:=Qb6 h (show k<n by omega)
  have ih:=Wc9 h d k VM j;simp only [stF];split
  ·unfold sld
   repeat' split
   all_goals omega
  ·omega
theorem Zg3{n:Nat}{a b c U O:Nat->Int}(h:sV n a b c U O)(d:Int){k:Nat}(hk:k<=n)(j:Nat): -1000000<=stF a b c d k j/\stF a b c d k j<=1000000:=by
 have:=Wc9 h d k hk j;have:=h.1;omega
abbrev QQ(n:Nat)(a:Nat->Int)(b:Nat->Int)(c:Nat->Int)(U:Nat->Int)(O:Nat->Int)(ea:AV)(la:AV):AV:=AV.ro [iI 4,iI 10,Q0 n a b c U O,ea,la]
section
variable (ea la:AV)(n:Nat)(a b c U O:Nat->Int)(d:Int)
def Zt1:St:={σ:=[QQ n a b c U O ea la,iI d,top,top,ptr 0 0,ptr 6 0]++HM 11 [Q0 n a b c U O,iI (n:Int)]++HM 13 [],m:=[(6,GS.ints 137 [] 6 λa=>UT 5 (0:Int) (UT 4 (0:Int) (UT 3 (0:Int) (UT 2 (0:Int) (UT 1 (0:Int) (UT 0 (10:Int) (BO Q3)))))) a),(0,GS.ints 137 [] 6 λa=>(0:Int))],nx:=15}
noncomputable def Js6:Code:=UC (VV (U9 Tryz.f53) 0)
def Wk9(k:Nat):St:={σ:=H4 [(6,.top),(7,.top),(19,i k)] (Zt1 ea la n a b c U O d).σ,m:=[(6,.ints 137 [] 6 (stF a b c d (k))),(0,.ints 137 [] 6 (λ_=>0))],nx:=15}
def CQ(k:Nat):G9->Option St
 | .exit 0=>some {σ:=H4 [(6,.top),(7,.top),(19,i n)] (Zt1 ea la n a b c U O d).σ,m:=[(6,.ints 137 [] 6 (stF a b c d (n))),(0,.ints 137 [] 6 (λ_=>0))],nx:=15}
 |_=>none
def Jn8:CT:= .leaf (.exit 0,(CQ ea la n a b c U O d 0 (.exit 0)).getD (Zt1 ea la n a b c U O d))
def Xy6:UL:=(HK (Wk9 ea la n a b c U O d (0)) (Jn8 ea la n a b c U O d))
end
abbrev ZO(n:Nat)(a:Nat->Int)(b:Nat->Int)(c:Nat->Int)(U:Nat->Int)(O:Nat->Int)(ea:AV)(la:AV):Prop:=QQ n a b c U O ea la=QQ n a b c U O ea la
section
variable (ea la:AV)(n:Nat)(a b c U O:Nat->Int)(d:Int)
theorem Ja7(VU:sV n a b c U O)(UI:0<=d/\d<256):GA VR (.loop Js6) (Xy6 ea la n a b c U O d):=by
 refine HJ (L:=[]) (Ae AD (Ae eR (Ae NY Aa))) U1 U6 (X:=Nat) (Wk9 ea la n a b c U O d) (λk=>k<=n) (λk=>n-k) (CQ ea la n a b c U O d) (x0:=0) VM ?_ ?_ ?_
 ·rintro k;kernel_rfl
 ·rintro k y E h;unfold CQ at h;split at h
  ·cases h;kernel_rfl
  ·cases h
 ·rintro Q hQ k hx;refine ⟨(k+1),?_⟩;(with_reducible refine DL (t:=let z1:=stF a b c d k;let W:=(UB [z1 0,z1 1,z1 2,z1 3,z1 4,z1 5]);(branch (decide ((k:Int)<(n:Int))) (need [UM k n] (need [(0:Int)<=(k:Int)/\(k:Int)<=64] (branch (NC d k) (need [6<=6] (need [(-1000000:Int)<=z1 0/\z1 0<=1000000,(-1000000:Int)<=z1 1/\z1 1<=1000000,(-1000000:Int)<=z1 2/\z1 2<=1000000,(-1000000:Int)<=z1 3/\z1 3<=1000000,(-1000000:Int)<=z1 4/\z1 4<=1000000,(-1000000:Int)<=z1 5/\z1 5<=1000000,(0:Int)<=a k/\a k<=3,(0:Int)<=b k/\b k<=3,a k≠b k,(1:Int)<=c k/\c k<=1000] (need [0+List.length [sld W (a k) (b k) (c k) 0,sld W (a k) (b k) (c k) 1,sld W (a k) (b k) (c k) 2,sld W (a k) (b k) (c k) 3,sld W (a k) (b k) (c k) 4,sld W (a k) (b k) (c k) 5]<=6] (need [VO ((k:Int)+1)] (need [ZO n a b c U O ea la,d=d,QS,YS,W5 n a b c U O,U2 (n:Int),(k:Int)+1=(↑(k+1):Int),6=6,GY 6 (UT 5 (sld W (a k) (b k) (c k) 5) (UT 4 (sld W (a k) (b k) (c k) 4) (UT 3 (sld W (a k) (b k) (c k) 3) (UT 2 (sld W (a k) (b k) (c k) 2) (UT 1 (sld W (a k) (b k) (c k) 1) (UT 0 (sld W (a k) (b k) (c k) 0) (z1))))))) (stF a b c d (k+1)),6=6,∀(k:Nat),k<6->(0:Int)=0] (leaf G9.normal)))))) (need [VO ((k:Int)+1)] (need [ZO n a b c U O ea la,d=d,QS,YS,W5 n a b c U O,U2 (n:Int),(k:Int)+1=(↑(k+1):Int),6=6,GY 6 z1 (stF a b c d (k+1)),6=6,∀(k:Nat),k<6->(0:Int)=0] (leaf G9.normal)))))) (need [ZO n a b c U O ea la,d=d,QS,YS,W5 n a b c U O,U2 (n:Int),(k:Int)=(n:Int),6=6,GY 6 z1 (stF a b c d n),6=6,∀(k:Nat),k<6->(0:Int)=0] (leaf (G9.exit 0))))) VW ?_);simp only [Jn8,CQ,VP.sat,GX] at hQ;simp only [VP.sat,UD,G8,GO,UG,VO,UJ,HB,RE,RF,L7,GR,CQ]
  have h8:=VU.1;refine ⟨λh=>?_,λh=>?_⟩
  ·have hs:=Qb6 VU (show k<n by omega)
   have hl:=Zg3 VU d (show k<=n by omega)
   cases hb:NC d k
   ·(with_reducible repeat' first|apply Al|intro _)
    all_goals first|exact PQ|(first|contradiction|(simp [stF,hb]))
   ·(with_reducible repeat' first|apply Al|intro _)
    all_goals first|exact PQ|(first|contradiction|exact (hl _).1|exact (hl _).2|(simp only [stF,hb,if_true];exact upd6 _ _ _ _ _ (by assumption)))
  ·obtain rfl:k=n:=VM;exact V3
theorem oQ(VU:sV n a b c U O)(UI:0<=d/\d<256):U0 VR 53 [.ro [i 4,i 10,sls n a b c U O,ea,la],i d] (sgs (stF a b c d n)):=by
 refine U4 (L:=[Xy6 ea la n a b c U O d]) (Ae AD (Ae eR (Ae NY Aa))) U1 Tryz.func53 (UW Tryz.f53) (UZ (lpE (b:= .loop Js6) VW<|Ja7 ea la n a b c U O d VU UI)) (t:=let z1:=stF a b c d n;let W:=(UT 4 (z1 4) (UT 3 (z1 3) (UT 2 (z1 2) (UT 1 (z1 1) (UT 0 (z1 0) λx=>(0:Int))))));(need [6<=6] (need [ZO n a b c U O ea la,d=d,QS,YS,W5 n a b c U O,U2 (n:Int),(0:Int)=(↑(0:Nat):Int),6=6,GY 6 (UT 5 (0:Int) (UT 4 (0:Int) (UT 3 (0:Int) (UT 2 (0:Int) (UT 1 (0:Int) (UT 0 (10:Int) (BO Q3))))))) (stF a b c d 0),6=6,∀(k:Nat),k<6->(0:Int)=0] (need [6<=6] (need [0+List.length [z1 0,z1 1,z1 2,z1 3,z1 4,z1 5]<=6] (leaf (RV.agg [RV.x (.int .i64 (UT 5 (z1 5) W 0)),RV.x (.int .i64 (UT 5 (z1 5) W 1)),RV.x (.int .i64 (UT 5 (z1 5) W 2)),RV.x (.int .i64 (UT 5 (z1 5) W 3)),RV.x (.int .i64 (UT 5 (z1 5) W 4)),RV.x (.int .i64 (UT 5 (z1 5) W 5))]))))))) VW ?_
 simp only [VP.sat,UD,G8,GO,UG,UJ]
 (with_reducible repeat' first|apply Al|intro _)
 all_goals first|exact Ak|omega|with_reducible rfl|rfl|(simp;done)|skip
 rename_i q hq;rw [Xu3 _ _ _ _ _ _ _ q hq]
 match q,hq with
 | 0,_=>rfl
 | 1,_=>rfl
 | 2,_=>rfl
 | 3,_=>rfl
 | 4,_=>rfl
 | 5,_=>rfl
end
section
variable (n:Nat)(a b c U O:Nat->Int)
def fV:UY
 |[.ro [.x (.int .i64 4),.x (.int .i64 10),.lst 5 n1 f1,ea,la],.x (.int .i64 d)]=>some ([lst 5 n1 f1=sls n a b c U O,0<=d/\d<256],sgs (stF a b c d n))
 |_=>none
theorem wE(VU:sV n a b c U O):VS VR 53 (fV n a b c U O):=by
 refine ⟨(UK Tryz.func53),?_⟩;intro avs ns res h hn;unfold fV at h;split at h
 ·cases h;rename_i n1 f1 ea la d;have e:=hn _ GJ;rw [e];exact oQ ea la n a b c U O d VU (hn _ VX)
 ·cases h
end
theorem gD{n:Nat}(h:n<=8):(1:Int)<=2^n/\(2:Int)^n<=256:=by
 rcases (show n=0\/n=1\/n=2\/n=3\/n=4\/n=5\/n=6\/n=7\/n=8 by omega) with rfl|rfl|rfl|rfl|rfl|rfl|rfl|rfl|rfl<;>decide
def MD:UY
 |[.ro [.x (.int .i64 4),.x (.int .i64 10),.lst 5 n f,ea,la]]=>some ([n<=8],i (2^n-1))
 |_=>none
theorem Qo4(ea la:AV)(n:Nat)(f:Nat->List AV)(VU:n<=8):U0 VR 51 [.ro [i 4,i 10,.lst 5 n f,ea,la]] (i (2^n-1)):=by
 refine GZ Tryz.func51 (t:=need [(0:Int)<=(n:Int)/\(n:Int)<=64,VO ((1:Int)*2^n)] (need [VO ((1:Int)*2^n-1)] (leaf (RV.x (.int .i64 ((1:Int)*2^n-1)))))) VW ?_;simp only [VP.sat,UD,G8,GO,UG,UJ,Int.one_mul,VO];have h:=gD VU;omega
theorem LI:VS VR 51 MD:=by
 refine ⟨(UK Tryz.func51),?_⟩;intro avs ns res h hn;unfold MD at h;split at h
 ·cases h;exact Qo4 _ _ _ _ (hn _ VX)
 ·cases h
def GC(p:Nat->Bool):Nat->Nat
 | 0=>0
 |k+1=>GC p k+(match p k with|true=>1|false=>0)
def UV(p:Nat->Bool)(n q:Nat):Nat:=H0 (λj=>p j&&Nat.beq (GC p j) q) n
def st6(F:Nat->Int):Nat->Int:=UT 5 (F 5) (UT 4 (F 4) (UT 3 (F 3) (UT 2 (F 2) (UT 1 (F 1) (UT 0 (F 0) (BO [0,0,0,0,0,0]))))))
def quB(n:Nat)(a b c:Nat->Int)(d:Int)(j:Nat):Bool:= !NC d j&&decide (stF a b c d n (a j).toNat>=c j)
def saV(a b c U O:Nat->Int)(j:Nat):List Value:=[.int .i64 j,.agg #[.int .i64 (a j),.int .i64 (b j),.int .i64 (c j),.int .i64 (U j),.int .i64 (O j)]]
def quV(n:Nat)(a b c U O:Nat->Int)(d:Int)(q:Nat):List Value:=saV a b c U O (UV (quB n a b c d) n q)
def quN(n:Nat)(a b c:Nat->Int)(d:Int):Nat:=GC (quB n a b c d) n
theorem Zg4(F:Nat->Int){q:Nat}(hq:q<6):st6 F q=F q:=by
 unfold st6;rw [Xu3 _ _ _ _ _ _ _ q hq]
 match q,hq with
 | 0,_=>rfl
 | 1,_=>rfl
 | 2,_=>rfl
 | 3,_=>rfl
 | 4,_=>rfl
 | 5,_=>rfl
theorem S6(p:Nat->Bool){b c:Nat}(h:b<=c):GC p b<=GC p c:=by
 induction h with
 |refl=>exact Am _
 |step _ ih=>exact Ar ih (Nat.le_add_right _ _)
section
variable {p:Nat->Bool}
theorem FQ{k:Nat}(h:p k=true):GC p (k+1)=GC p k+1:=by
 simp only [GC,h]
theorem RW{k:Nat}(h:p k=false):GC p (k+1)=GC p k:=by
 simp only [GC,h,Bg]
theorem wC{n k:Nat}(hk:k<n)(h:p k=true):UV p n (GC p k)=k:=by
 refine jB hk ?_ λj hj=>?_
 ·simp [h]
 ·cases hp:p j
  ·rfl
  ·have h1:=FQ hp;have h2:=S6 p (show j+1<=k by omega)
   simp only [Bool.true_and];cases hb:Nat.beq (GC p j) (GC p k)
   ·rfl
   ·have:=H2 hb;omega
end
theorem bA(p:Nat->Bool): ∀k,GC p k<=k
 | 0=>Am 0
 |k+1=>by
  have:=bA p k;unfold GC;split<;>omega
theorem m7{p:Nat->Bool}: ∀{k q:Nat},q<GC p k-> ∃j,j<k/\p j=true/\GC p j=q
 | 0,q,h=>absurd h (by simp [GC])
 |k+1,q,h=>by
  rcases An q (GC p k) with h1|h1
  ·obtain ⟨j,hj,h2⟩:=m7 h1;exact ⟨j,VM,h2⟩
  ·cases hp:p k
   ·rw [RW hp] at h;omega
   ·rw [FQ hp] at h;exact ⟨k,VM,hp,VM⟩
theorem uV{p:Nat->Bool}{n q:Nat}(h:q<GC p n):UV p n q<n/\p (UV p n q)=true:=by
 obtain ⟨j,hj,hp,hc⟩:=m7 h;rw [←hc,wC hj hp];exact ⟨hj,hp⟩
def AL:UY
 |[.ro [.x (.int .i64 4),.x (.int .i64 10),.lst 5 n f,ea,la],.x (.int .i64 d)]=>some ([],.fn (.func 108) [] [.ro [.ro [i 4,i 10,.lst 5 n f,ea,la]],.ro [i d]])
 |_=>none
theorem Wf9(ea la:AV)(n:Nat)(f:Nat->List AV)(d:Int):FF VR 79 [.ro [i 4,i 10,.lst 5 n f,ea,la],i d] (.fn (.func 108) [] [.ro [.ro [i 4,i 10,.lst 5 n f,ea,la]],.ro [i d]]):=by
 refine D0 (L:=[]) Aa Ad U1 Tryz.func79 (UW Tryz.f79) G7 (t:=leaf (AV.fn (Fn.func 108) [] [AV.ro [AV.ro [iI 4,iI 10,lst 5 n λa=>f a,ea,la]],AV.ro [iI d]])) VW ?_
 exact rfl
theorem NX:P5 VR 79 AL:=by
 refine ⟨(UK Tryz.func79),?_⟩;intro avs ns res h hn;unfold AL at h;split at h
 ·cases h;exact Wf9 _ _ _ _ _
 ·cases h
section
variable (l:Nat)(ea la:AV)(n:Nat)(a b c U O:Nat->Int)(d:Int)
def Xe5:St:={σ:=[AV.fn (Fn.yield l) [] [],AV.ro [QQ n a b c U O ea la],AV.ro [iI d],top,ptr 3 0]++HM 9 [Q0 n a b c U O,iI (n:Int)]++HM 26 [],m:=[(3,GS.ints 137 [] 6 λa_1=>UT 5 (stF a b c d n 5) (UT 4 (stF a b c d n 4) (UT 3 (stF a b c d n 3) (UT 2 (stF a b c d n 2) (UT 1 (stF a b c d n 1) (UT 0 (stF a b c d n 0) (BO Q3)))))) a_1)],nx:=12,gh:=some 0}
noncomputable def Zw0:Code:=UC (VV (U9 Tryz.f108) 0)
def aI(k:Nat):St:={σ:=H4 [(4,.roI [] 6 (st6 (stF a b c d n)) 0),(5,.top),(6,.top),(16,i k)] (Xe5 l ea la n a b c U O d).σ,m:=[],nx:=12,gh:=some (GC (quB n a b c d) k) }
def kD(k:Nat):G9->Option St
 | .exit 0=>some {σ:=H4 [(4,.roI [] 6 (st6 (stF a b c d n)) 0),(5,.top),(6,.top),(16,i n)] (Xe5 l ea la n a b c U O d).σ,m:=[],nx:=12,gh:=some (quN n a b c d) }
 | .ret=>some {σ:=H4 [(4,.roI [] 6 (st6 (stF a b c d n)) 0),(5,.top),(6,.top),(16,.top)] (Xe5 l ea la n a b c U O d).σ,m:=[],nx:=12,gh:=none}
 |_=>none
def Jo7:CT:= .may True (.leaf (.exit 0,(kD l ea la n a b c U O d 0 (.exit 0)).getD (Xe5 l ea la n a b c U O d))) (.leaf (.ret,(kD l ea la n a b c U O d 0 .ret).getD (Xe5 l ea la n a b c U O d)))
def Xz6:UL:=GM [(.slot 4,3,137,1)] (HK (aI l ea la n a b c U O d (0)) (Jo7 l ea la n a b c U O d))
end
abbrev ZS(a:Nat->Int)(b:Nat->Int)(c:Nat->Int)(d:Int)(n:Nat):Prop:=roI [] 6 (λa_1=>st6 (stF a b c d n) a_1) 0=roI [] 6 (λa_1=>st6 (stF a b c d n) a_1) 0
abbrev Y2(d:Int):Prop:=AV.ro [iI d]=AV.ro [iI d]
abbrev YC(n:Nat)(a:Nat->Int)(b:Nat->Int)(c:Nat->Int)(U:Nat->Int)(O:Nat->Int)(ea:AV)(la:AV):Prop:=AV.ro [QQ n a b c U O ea la]=AV.ro [QQ n a b c U O ea la]
theorem Je4(l:Nat)(ea la:AV)(n:Nat)(a b c U O:Nat->Int)(d:Int)(VU:sV n a b c U O)(UI:0<=d/\d<256){cx:Cx}(hX:VZ VR {Y:=some (l,(quN n a b c d),(quV n a b c U O d)) } cx):HL VR none cx (.loop Zw0) (Xz6 l ea la n a b c U O d):=by
 refine F2 [(.slot 4,3,137,1)] (L:=[]) (Ae AD (Ae (wE n a b c U O VU) Aa)) hX U1 G7 (V:=Nat) (aI l ea la n a b c U O d) (λk=>k<=n) (λk=>n-k) (kD l ea la n a b c U O d) (x0:=0) VX ?_ ?_ ?_
 ·rintro k;kernel_rfl
 ·rintro k y E h;unfold kD at h;split at h
  ·cases h;kernel_rfl
  ·cases h;kernel_rfl
  ·cases h
 ·rintro Q hQ k hx;refine ⟨(k+1),?_⟩;have e:HP VR [(81,tJ),(53,(fV n a b c U O))] {Y:=some (l,(quN n a b c d),(quV n a b c U O d)) } [] [(.slot 4,3,137,1)] Zw0 (aI l ea la n a b c U O d k) (aI l ea la n a b c U O d ((k+1))) (kD l ea la n a b c U O d k)=(let z3:=YC n a b c U O ea la;let z2:=quB n a b c d;let W:=(need [VO ((k:Int)+1)] (need [W6 l,z3,Y2 d,ZS a b c d n,W5 n a b c U O,U2 (n:Int),(k:Int)+1=(↑(k+1):Int),GC (z2) k=GC (z2) (k+1)] (leaf G9.normal)));let z1:=(UV (z2) n (GC (z2) k));(branch (decide ((k:Int)<(n:Int))) (need [UM k n] (need [(0:Int)<=(k:Int)/\(k:Int)<=64] (branch (!NC d k) (need [UM (a k) 6] (need [(a k).toNat*1+0<6] (branch (decide (st6 (stF a b c d n) ((a k).toNat*1+0)>=c k)) (need [l=l,GC (z2) k<quN n a b c d,[Value.int IntKind.i64 (k:Int),Value.agg {toList:=[Value.int IntKind.i64 (a k),Value.int IntKind.i64 (b k),Value.int IntKind.i64 (c k),Value.int IntKind.i64 (U k),Value.int IntKind.i64 (O k)] }]=[Value.int IntKind.i64 (z1:Int),Value.agg {toList:=[Value.int IntKind.i64 (a z1),Value.int IntKind.i64 (b z1),Value.int IntKind.i64 (c z1),Value.int IntKind.i64 (U z1),Value.int IntKind.i64 (O z1)] }]] (VP.may True (need [VO ((k:Int)+1)] (need [W6 l,z3,Y2 d,ZS a b c d n,W5 n a b c U O,U2 (n:Int),(k:Int)+1=(↑(k+1):Int),GC (z2) k+1=GC (z2) (k+1)] (leaf G9.normal))) (need [W6 l,z3,Y2 d,ZS a b c d n,W5 n a b c U O,U2 (n:Int)] (leaf G9.ret)))) W))) W))) (need [W6 l,z3,Y2 d,ZS a b c d n,W5 n a b c U O,U2 (n:Int),(k:Int)=(n:Int),GC (z2) k=quN n a b c d] (leaf (G9.exit 0))))):=VW;rw [e];simp only [Jo7,kD,VP.sat,GX] at hQ;have hQ1: ∀E,kD l ea la n a b c U O d k (.exit 0)=some E->Q (.exit 0,E):=λE hE=>by cases hE;exact hQ.1 trivial
  have hQ2: ∀E,kD l ea la n a b c U O d k .ret=some E->Q (.ret,E):=λE hE=>by cases hE;exact hQ.2
  simp only [VP.sat,UD,UJ,HB,VO,DP];clear e hQ;have h8:=VU.1;have hX:(a k).toNat*1+0=(a k).toNat:=VM;rw [hX];refine ⟨λh=>?_,λh=>?_⟩
  ·have hk:k<n:=VM;have hs:=Qb6 VU hk;have hno:quB n a b c d k=false->GC (quB n a b c d) k=GC (quB n a b c d) (k+1):=λh=>(RW h).symm
   rw [Zg4 _ (show (a k).toNat<6 by omega)]
   refine ⟨VM,VM,λh1=>⟨VM,VM,λh2=>?_,λh2=>?_⟩,λh1=>?_⟩
   ·have hq:quB n a b c d k=true:=by
     unfold quB;rw [h1,decide_eq_true h2];rfl
    have hy:=FQ hq;have hm:=S6 (quB n a b c d) (show k+1<=n by omega)
    rw [wC hk hq]
    (with_reducible repeat' first|apply Al|intro _)
    all_goals first|exact Ak|(simp only [quN];omega)|omega|rfl|exact hQ1 _ (by assumption)|exact hQ2 _ (by assumption)
   ·have hq:quB n a b c d k=false:=by
     unfold quB;rw [decide_eq_false h2,Bool.and_false]
    have hy:=RW hq;all_goals exact VA
   ·have hq:quB n a b c d k=false:=by
     unfold quB;rw [h1];rfl
    have hy:=RW hq;all_goals exact VA
  ·obtain rfl:k=n:=VM;all_goals exact VA
theorem vQ(ea la:AV)(n:Nat)(a b c U O:Nat->Int)(d:Int)(VU:sV n a b c U O)(UI:0<=d/\d<256):PN Tryz.prog 108 [.ro [.ro [i 4,i 10,sls n a b c U O,ea,la]],.ro [i d]] ((quN n a b c d)) (quV n a b c U O d):=by
 refine PD (L:=λl=>[Xz6 l ea la n a b c U O d]) (Ae AD (Ae (wE n a b c U O VU) Aa)) U1 (UK Tryz.func108) Tryz.func108 (UW Tryz.f108) VW (λl cx hX=>UZ (lpE (b:= .loop Zw0) VW<|Je4 l ea la n a b c U O d VU UI hX)) (t:=λl=>(let W:=stF a b c d n;(need [W5 n a b c U O,(0:Int)<=d/\d<256] (need [0+List.length [W 0,W 1,W 2,W 3,W 4,W 5]<=6] (need [U2 (AV.fn (Fn.yield l) [] []),YC n a b c U O ea la,Y2 d,roI [] 6 (λa_1=>UT 5 (W 5) (UT 4 (W 4) (UT 3 (W 3) (UT 2 (W 2) (UT 1 (W 1) (UT 0 (W 0) (BO Q3)))))) a_1) 0=roI [] 6 (λa_1=>st6 (W) a_1) 0,W5 n a b c U O,U2 (n:Int),(0:Int)=(↑(0:Nat):Int),0=GC (quB n a b c d) 0] (VP.may True (need [U2 (quN n a b c d)] (leaf PUnit.unit)) (leaf PUnit.unit))))))) (λl=>VW) ?_
 intro l;simp only [VP.sat,UD,G8,GO,UG,UJ];exact ⟨UI,VX,⟨rfl,rfl,rfl⟩,λ_=>trivial⟩
noncomputable def Ql9:D6:=A9 Tryz.prog [] {} [] Tryz.f79 (U9 Tryz.f79)
theorem dO:GE VR 79 Ql9:=
 RO (G:=[]) (X:=WD) (L:=[]) Aa Ad U1 (UK Tryz.func79) Tryz.func79 (UW Tryz.f79) U6
section
variable (n:Nat)
abbrev ZG:AV:=iI ((2:Int)^n-1+1)
abbrev ZT(a:Nat->Int)(b:Nat->Int)(c:Nat->Int)(U:Nat->Int)(O:Nat->Int):List AV:=[iI 4,iI 10,Q0 n a b c U O]
abbrev KS(a:Nat->Int)(b:Nat->Int)(c:Nat->Int)(U:Nat->Int)(O:Nat->Int):List AV:=[iI 4,iI 10,Q0 n a b c U O,AV.row 901,AV.row 902]
abbrev YA:GS:=GS.row 3 1 0 λx=>[]
abbrev YN:GS:=GS.cells 84 [ptr 4 0]
def Zu2(a b c U O:Nat->Int):St:={σ:=[agg (ZT n a b c U O),ptr 0 0,QD,ptr 5 0]++HM 14 [ZG n]++HM 140 [],m:=[(902,YA),(901,YA),(5,YN),(4,GS.cells 174 (KS n a b c U O)),(0,GS.cells 42 (ZT n a b c U O))],nx:=903}
noncomputable def Jt9:Code:=UC (VV (U9 Tryz.f49) 0)
def Wm4(a b c U O:Nat->Int)(k:Nat):St:={σ:=H4 [(19,i k)] (Zu2 n a b c U O).σ,m:=[(902,.row 3 1 (k) (λz=>[i ((λ_=> -1) z)])),(901,.row 3 1 (k) (λz=>[i ((λ_=>101) z)])),(5,.cells 84 [.ptr 4 0]),(4,.cells 174 [i 4,i 10,sls n a b c U O,.row 901,.row 902]),(0,.cells 42 [i 4,i 10,sls n a b c U O])],nx:=903}
def E1(a b c U O:Nat->Int)(k:Nat):G9->Option St
 | .exit 0=>some {σ:=H4 [(19,i (2^n))] (Zu2 n a b c U O).σ,m:=[(902,.row 3 1 (2^n) (λz=>[i ((λ_=> -1) z)])),(901,.row 3 1 (2^n) (λz=>[i ((λ_=>101) z)])),(5,.cells 84 [.ptr 4 0]),(4,.cells 174 [i 4,i 10,sls n a b c U O,.row 901,.row 902]),(0,.cells 42 [i 4,i 10,sls n a b c U O])],nx:=903}
 |_=>none
def Jp5(a b c U O:Nat->Int):CT:= .leaf (.exit 0,(E1 n a b c U O 0 (.exit 0)).getD (Zu2 n a b c U O))
abbrev K5:List (Pl×Nat×TypeId×Nat):=[(.cell 4 3,0,0,1),(.cell 4 4,0,0,1),(.cell 4 3,901,3,1),(.cell 4 4,902,3,1)]
def Za6(a b c U O:Nat->Int):UL:=GM K5 (HK (Wm4 n a b c U O (0)) (Jp5 n a b c U O))
abbrev QG:Prop:=(2:Int)^n-1+1=2^n-1+1
abbrev QP(a:Nat->Int)(b:Nat->Int)(c:Nat->Int)(U:Nat->Int)(O:Nat->Int):Prop:=agg (ZT n a b c U O)=agg (ZT n a b c U O)
abbrev W0:Prop:=(4:Int)=4
abbrev WB:Prop:=(10:Int)=10
abbrev WJ:Prop:=AV.row 902=AV.row 902
abbrev ZX:List AV:=[iI 101]
abbrev YO:Nat->List AV:=λz=>[iI (-1:Int)]
theorem Jg5(a b c U O:Nat->Int)(VU:sV n a b c U O):GA VR (.loop Jt9) (Za6 n a b c U O):=by
 refine j5 K5 (L:=[]) (Ae LI Aa) U1 U6 (X:=Nat) (Wm4 n a b c U O) (λk=>k<=2^n) (λk=>2^n-k) (E1 n a b c U O) (x0:=0) VX ?_ ?_ ?_
 ·rintro k;kernel_rfl
 ·rintro k y E h;unfold E1 at h;split at h
  ·cases h;kernel_rfl
  ·cases h
 ·rintro Q hQ k hx;refine ⟨(k+1),?_⟩;(with_reducible refine DL (t:=let W:=(need [VO ((k:Int)+1)] (need [QP n a b c U O,QS,QD=QD,ZN,QG n,(k:Int)+1=(↑(k+1):Int),k+1=k+1,GY (k+1) (GI k (YO) (U8 1 [iI (-1:Int)])) (λi=>[iI (-1:Int)]),k+1=k+1,GY (k+1) (GI k (λz=>ZX) (U8 1 ZX)) (λi=>ZX),W7,W0,WB,W5 n a b c U O,WI,WJ,W0,WB,W5 n a b c U O] (leaf G9.normal)));(branch (decide ((k:Int)<2^n-1+1)) (need [(k+1)*8<=140737488355328,∀(i:Nat),i<1-> ∀(a:AV),a∈U8 1 ZX i->AV.one a=true] (need [(k+1)*8<=140737488355328,RZ 1 (U8 1 [iI (-1:Int)])] (VP.may True W (VP.may True W (VP.may True W (VP.may True W W)))))) (need [QP n a b c U O,QS,QD=QD,ZN,QG n,(k:Int)=2^n,k=2^n,∀(i:Nat),i<2^n->[iI (-1:Int)]=[iI (-1:Int)],k=2^n,∀(i:Nat),i<2^n->ZX=ZX,W7,W0,WB,W5 n a b c U O,WI,WJ,W0,WB,W5 n a b c U O] (leaf (G9.exit 0))))) VW ?_)
  simp only [Jp5,E1,VP.sat,GX] at hQ;simp only [VP.sat,UD,G8,GO,UG,VO,UJ,HB,RE,RF,L7,GR,E1]
  have h8:=VU.1;have hp:=gD h8;have hpn:((2^n:Nat):Int)=2^n:=VX;refine ⟨λh=>?_,λh=>?_⟩
  ·have hk:k<2^n:=VM
   (with_reducible repeat' first|apply Al|intro _)
   all_goals first|exact PQ|(first|exact FS (by assumption) (by simp [AV.one,Value.oneCell'])|exact Pt.catF1 (a:=λ_=>101) (by assumption) rfl|exact Pt.catF1 (a:=λ_=> -1) (by assumption) rfl)
  ·obtain rfl:k=2^n:=VM;exact V3
end
def eQ(p:Nat->Bool)(n:Nat)(U O:Nat->Int)(d:Nat)(E:Nat->Int):Nat->Nat->Int
 | 0=>E
 |q+1=>if max (eQ p n U O d E q d) (U (UV p n q))<=O (UV p n q) then UT (d ||| 2^UV p n q) (min (eQ p n U O d E q (d ||| 2^UV p n q)) (max (eQ p n U O d E q d) (U (UV p n q)))) (eQ p n U O d E q) else eQ p n U O d E q
def eD(n:Nat)(a b c U O:Nat->Int):Nat->Nat->Int
 | 0=>λk=>if k=0 then 0 else 101
 |d+1=>if eD n a b c U O d d=101 then eD n a b c U O d else eQ (quB n a b c d) n U O d (eD n a b c U O d) (quN n a b c d)
section
variable (n:Nat)(a b c U O:Nat->Int)
noncomputable def Zu1:St:={σ:=[agg (ZT n a b c U O),ptr 0 0,QD,ptr 5 0]++HM 14 [ZG n,iI ((2:Int)^n)]++HM 27 [ZG n]++HM 111 [],m:=[(902,GS.row 3 1 (2^n) λz=>[iI (-1:Int)]),(901,GS.row 3 1 (2^n) λk=>iI (if decide (k=(0:Int).toNat)=true then (0:Int) else (101:Int))::Bool.rec ([]) ([]) (decide (k=(0:Int).toNat))),(5,YN),(4,GS.keep 174 (KS n a b c U O)),(0,GS.cells 42 (ZT n a b c U O))],nx:=913}
noncomputable def c9:Code:=UC (VV (U9 Tryz.f49) 1)
noncomputable def Wm3(d:Nat):St:={σ:=H4 [(4,.top),(48,i d),(5,.top),(6,.top),(7,.top),(8,.top)] (Zu1 n a b c U O).σ,m:=[(902,.row 3 1 (2^n) (λz=>[i ((λ_=> -1) z)])),(901,.row 3 1 (2^n) (λz=>[i ((eD n a b c U O (d)) z)])),(5,.cells 84 [.ptr 4 0]),(4,.keep 174 [i 4,i 10,sls n a b c U O,.row 901,.row 902]),(0,.cells 42 [i 4,i 10,sls n a b c U O])],nx:=903}
noncomputable def E0(d:Nat):G9->Option St
 | .exit 2=>some {σ:=H4 [(4,.top),(48,i (2^n)),(5,.top),(6,.top),(7,.top),(8,.top)] (Zu1 n a b c U O).σ,m:=[(902,.row 3 1 (2^n) (λz=>[i ((λ_=> -1) z)])),(901,.row 3 1 (2^n) (λz=>[i ((eD n a b c U O (2^n)) z)])),(5,.cells 84 [.ptr 4 0]),(4,.keep 174 [i 4,i 10,sls n a b c U O,.row 901,.row 902]),(0,.cells 42 [i 4,i 10,sls n a b c U O])],nx:=903}
 |_=>none
noncomputable def Jp4:CT:= .leaf (.exit 2,(E0 n a b c U O 0 (.exit 2)).getD (Zu1 n a b c U O))
noncomputable def Za5:UL:=GM [(.cell 5 0,0,0,0)] (HK (Wm3 n a b c U O (0)) (Jp4 n a b c U O))
end
theorem qI{n d:Nat}(h8:n<=8)(h:d<2^n):(0:Int)<=d/\(d:Int)<256:=by
 have hp:=gD h8;have hpn:((2^n:Nat):Int)=2^n:=VX;omega
theorem Qc7{n d s:Nat}(h:d<2^n)(hs:s<n):d ||| 2^s<2^n:=Nat.or_lt_two_pow h (Nat.pow_lt_pow_right (by decide) hs)
theorem Wg7{n d s:Nat}(h8:n<=8)(h:d<2^n)(hs:s<n):IntKind.i64.wrap ((BitVec.ofInt 64 (d:Int) ||| BitVec.ofInt 64 (1*2^s)).toNat:Int)=((d ||| 2^s:Nat):Int):=by
 have h2:=qI h8 h;have h3:2^s<2^n:=Nat.pow_lt_pow_right (by decide) hs
 have h4:=qI h8 h3;have e:(1*2^s:Int)=((2^s:Nat):Int):=by rw [Int.one_mul];simp
 rw [e];exact Xi8 VM VM
theorem uZ{F:Nat->Int}{v:Int}{q j:Nat}:HD (decide (j=q)) [i v] [i (F j)]=[i (UT q v F j)]:=by
 unfold UT;by_cases h:j=q
 ·rw [decide_eq_true h,if_pos h];rfl
 ·rw [decide_eq_false h,if_neg h];rfl
abbrev ZY:AV:=AV.fn (Fn.func 108) [] [ptr 917 0,ptr 918 0]
section
variable (n:Nat)(a b c U O:Nat->Int)(d:Nat)
def Jr7:St:={σ:=[agg (ZT n a b c U O),ptr 0 0,QD,ptr 5 0,ptr 905 0]++HM 13 [ZG n,iI ((2:Int)^n)]++HM 27 [ZG n,iI (d:Int)]++HM 12 [ZY]++HM 97 [],m:=[(918,GS.keep 133 [iI (d:Int)]),(917,GS.keep 84 [ptr 4 0]),(905,GS.cells 133 [iI (d:Int)]),(902,GS.row 3 1 (2^n) λz=>[iI (-1:Int)]),(901,GS.row 3 1 (2^n) λz=>[iI (eD n a b c U O d z)]),(5,YN),(4,GS.keep 174 (KS n a b c U O)),(0,GS.cells 42 (ZT n a b c U O))],nx:=922}
noncomputable def Jv8:Code:=MX (VV c9 0)
noncomputable def Jt8:Code:=MW (VV c9 0)
def pS(k:Nat):St:={σ:=H4 [(5,.top),(6,.top),(7,.top),(8,.top)] (Jr7 n a b c U O d).σ,m:=[(918,.keep 133 [i d]),(917,.keep 84 [.ptr 4 0]),(905,.cells 133 [i d]),(902,.row 3 1 (2^n) (λz=>[i ((λ_=> -1) z)])),(901,.row 3 1 (2^n) (λz=>[i ((eQ (quB n a b c d) n U O d (eD n a b c U O d) (k)) z)])),(5,.cells 84 [.ptr 4 0]),(4,.keep 174 [i 4,i 10,sls n a b c U O,.row 901,.row 902]),(0,.cells 42 [i 4,i 10,sls n a b c U O])],nx:=922}
def oY(k:Nat):G9->Option St
 | .normal=>some {σ:=H4 [(5,.top),(6,.top),(7,.top),(8,.top)] (Jr7 n a b c U O d).σ,m:=[(918,.keep 133 [i d]),(917,.keep 84 [.ptr 4 0]),(905,.cells 133 [i d]),(902,.row 3 1 (2^n) (λz=>[i ((λ_=> -1) z)])),(901,.row 3 1 (2^n) (λz=>[i ((eQ (quB n a b c d) n U O d (eD n a b c U O d) ((quN n a b c d))) z)])),(5,.cells 84 [.ptr 4 0]),(4,.keep 174 [i 4,i 10,sls n a b c U O,.row 901,.row 902]),(0,.cells 42 [i 4,i 10,sls n a b c U O])],nx:=922}
 |_=>none
def T_kc:CT:= .leaf (.normal,pS n a b c U O d (quN n a b c d))
def Za4:UL:=GM [(.slot 61,0,0,0)] (HK (pS n a b c U O d (0)) (T_kc n a b c U O d))
end
abbrev XU(n:Nat):Prop:=(2:Int)^n=2^n
theorem Jg3(n:Nat)(a b c U O:Nat->Int)(d:Nat)(VU:sV n a b c U O)(UI:d<2^n):HN VR (.rangeFunc (rfF (VV c9 0)) (zQ (VV c9 0)) Jv8 Jt8) (Za4 n a b c U O d):=by
 refine v9 [(.slot 61,0,0,0)] (L:=[]) (Ae F1 (Ae PU Aa)) Ad U1 U6 (V:=Nat) (pS n a b c U O d) (λk=>k<=(quN n a b c d)) (λk=>k) (oY n a b c U O d) (x0:=0) VX rfl ?_ ?_ ?_ ?_ (g:=108) (caps:=[.ro [.ro [i 4,i 10,sls n a b c U O,.top,.top]],.ro [i d]]) (caps0:=[.ptr 917 0,.ptr 918 0]) VW VW (vQ .top .top n a b c U O d VU (qI VU.1 UI)) (λ_=>rfl) ?_
 ·rintro k;kernel_rfl
 ·rintro k y E h;unfold oY at h;split at h
  ·cases h;kernel_rfl
  ·cases h
 ·rintro k;rfl
 ·rintro k y E h;unfold oY at h;split at h
  ·cases h;rfl
  ·cases h
 ·rintro Q hQ k hx;refine ⟨λhlt=>⟨(k+1),rfl,?_⟩,λPI=>?_⟩
  ·(with_reducible refine DL (t:=let z1:=(quB n a b c (d:Int));let W:=(BitVec.toNat (BitVec.ofInt 64 (d:Int) ||| BitVec.ofInt 64 ((1:Int)*2^UV z1 n k)));let z2:=(IntKind.wrap IntKind.i64 (W:Int));let z3:=eD n a b c U O d;let z4:=eQ z1 n U O d;(need [UM d (↑(2^n):Int)] (need [d<2^n] (branch (decide (max (z4 (z3) k d) (U (UV z1 n k))<=O (UV z1 n k))) (need [(0:Int)<=(↑(UV z1 n k):Int)/\(↑(UV z1 n k):Int)<=64,VO ((1:Int)*2^UV z1 n k)] (need [UM (IntKind.wrap IntKind.i64 (W:Int)) (↑(2^n):Int)] (need [Int.toNat z2<2^n] (need [UM (IntKind.wrap IntKind.i64 (W:Int)) (↑(2^n):Int)] (need [Int.toNat z2<2^n] (need [QP n a b c U O,QS,QD=QD,ZN,U2 (ptr 905 0),QG n,XU n,QG n,U2 (d:Int),ZY=ZY,U2 (d:Int),W7,U2 (d:Int),2^n=2^n,∀(i:Nat),i<2^n->[iI (-1:Int)]=[iI (-1:Int)],2^n=2^n,∀(i:Nat),i<2^n->HD (decide (i=Int.toNat z2)) [iI (min (z4 (z3) k (Int.toNat z2)) (max (z4 (z3) k d) (U (UV z1 n k))))] [iI (z4 (z3) k i)]=[iI (z4 (z3) (k+1) i)],W7,W0,WB,W5 n a b c U O,WI,WJ,W0,WB,W5 n a b c U O] (leaf G9.normal))))))) (need [QP n a b c U O,QS,QD=QD,ZN,U2 (ptr 905 0),QG n,XU n,QG n,U2 (d:Int),ZY=ZY,U2 (d:Int),W7,U2 (d:Int),2^n=2^n,∀(i:Nat),i<2^n->[iI (-1:Int)]=[iI (-1:Int)],2^n=2^n,∀(i:Nat),i<2^n->[iI (z4 (z3) k i)]=[iI (z4 (z3) (k+1) i)],W7,W0,WB,W5 n a b c U O,WI,WJ,W0,WB,W5 n a b c U O] (leaf G9.normal)))))) VW ?_)
   have h8:=VU.1;have hd:=qI h8 UI;have hpn:((2^n:Nat):Int)=2^n:=VX;have hs:=uV hlt;have hor:=Wg7 h8 UI hs.1;have hol:=Qc7 UI hs.1;simp only [VP.sat,UD,UJ,hor,DP,HB]
   have hd2:(d:Int)<2^n:=by
    have h:(d:Int)<((2^n:Nat):Int):=Int.ofNat_lt.2 UI
    rwa [hpn] at h
   have Qs1:((d ||| 2^UV (quB n a b c d) n k:Nat):Int)<2^n:=by
    have h:((d ||| 2^UV (quB n a b c d) n k:Nat):Int)<((2^n:Nat):Int):=Int.ofNat_lt.2 hol
    rwa [hpn] at h
   have hk1:k+1<=quN n a b c d:=hlt;have h2s:(1:Int)<=2^UV (quB n a b c d) n k/\(2:Int)^UV (quB n a b c d) n k<=256:=gD VM;have h64:=hs.1;refine ⟨⟨VM,hd2⟩,UI,λh=>?_,λh=>?_⟩
   ·refine ⟨⟨⟨VM,VM⟩,by simp only [VO,Int.one_mul];omega⟩,⟨VM,Qs1⟩,hol,⟨VM,Qs1⟩,hol,⟨λ_ _=>trivial,λj hj=>?_⟩,hk1⟩
    simp only [eQ,if_pos h];exact uZ
   ·refine ⟨⟨λ_ _=>trivial,λj hj=>?_⟩,hk1⟩
    simp only [eQ,if_neg h]
  ·have hk:k=quN n a b c d:=VM;subst hk;exact hQ
theorem gM{P:Program}{G:List (Nat×UY)}{E:Ext}{L:List UL}(N:List (Pl×Nat×TypeId×Nat))(hG:VN P G)(hX: ∀cx,VZ P E cx)(GU:P.follows .mixedOrders=true){body:Code}(hL: ∀j cj,VV body j=some cj-> ∀sp,L[j]? =some sp->HN P cj sp)
  {X:Type}(inv:X->St)(I:X->Prop)(μ:X->Nat)(out:X->G9->Option St){t:CT}{x0:X}(h0:I x0)
  (hok: ∀x,Go.Sx.okB (inv x)=true)(w8: ∀x y E,out x y=some E->Go.Sx.okB E=true)
  (round: ∀(Q:G9×St->Prop),t.sat Q-> ∀x,I x-> ∃x',(HP P G E L N body (inv x) (inv x') (out x)).sat (λy=>match y with
   | .normal=>I x'/\μ x'<μ x
   |y=> ∀E,out x y=some E->Q (y,E))):HN P (.loop body) (GM N (HK (inv x0) t)):=
 λcx hf=>F2 N hG (hX cx) GU (λj cj hj sp hsp=>hL j cj hj sp hsp cx hf) inv I μ out h0 hok w8 round
theorem d9{P:Program}{c:Code}{t:Nat}{F:Nat->UL}(h: ∀k,HN P c (F k)):HN P c (BP t F):=by
 intro cx hf n s tr ht Q hQ a w r;unfold BP at ht;split at ht
 ·exact h _ cx hf n s tr ht Q hQ a w r
 ·cases ht
abbrev JO:List (Nat×UY):=[(51,MD),(55,y7),(54,ME)]
noncomputable abbrev KG:Ext:={R:=[],H:=[(79,Ql9)] }
theorem Jg4(n:Nat)(a b c U O:Nat->Int)(VU:sV n a b c U O):HN VR (.loop c9) (Za5 n a b c U O):=by
 refine gM [(.cell 5 0,0,0,0)] (L:=[BP 48 (λd=>FT [d<2^n] (Za4 n a b c U O d))]) (Ae LI (Ae F1 (Ae PU Aa))) (Ai Ab (Ag dO Ac)) U1 (UZ (λcj hcj=>by
  have e:VV c9 0=some (.rangeFunc (rfF (VV c9 0)) (zQ (VV c9 0)) Jv8 Jt8):=VW;rw [e] at hcj;cases hcj;exact d9 (λd=>B8 (λh=>Jg3 n a b c U O d VU h)))) (X:=Nat) (Wm3 n a b c U O) (λd=>d<=2^n) (λd=>2^n-d) (E0 n a b c U O) (x0:=0) VX ?_ ?_ ?_
 ·rintro d;kernel_rfl
 ·rintro d y E h;unfold E0 at h;split at h
  ·cases h;kernel_rfl
  ·cases h
 ·rintro Q hQ d hx;refine ⟨(d+1),?_⟩;(with_reducible refine DL (t:=let W:=W5 n a b c U O;let z1:=eD n a b c U O d;(branch (decide ((d:Int)<2^n-1+1)) (need [UM d (↑(2^n):Int)] (need [d<2^n] (branch (z1 d==101) (need [VO ((d:Int)+1)] (need [QP n a b c U O,QS,QD=QD,ZN,QG n,XU n,QG n,(d:Int)+1=(↑(d+1):Int),2^n=2^n,∀(i:Nat),i<2^n->[iI (-1:Int)]=[iI (-1:Int)],2^n=2^n,∀(i:Nat),i<2^n->[iI (z1 i)]=[iI (eD n a b c U O (d+1) i)],W7,W0,WB,W,WI,WJ,W0,WB,W] (leaf G9.normal))) (need [d<2^n] (need [QP n a b c U O,QS,QD=QD,ZN,U2 (ptr 905 0),QG n,XU n,QG n,U2 (d:Int),ZY=ZY,U2 (d:Int),W7,U2 (d:Int),2^n=2^n,∀(i:Nat),i<2^n->[iI (-1:Int)]=[iI (-1:Int)],2^n=2^n,∀(i:Nat),i<2^n->[iI (z1 i)]=[iI (eQ (quB n a b c (d:Int)) n U O d (z1) 0 i)],W7,W0,WB,W,WI,WJ,W0,WB,W] (need [VO ((d:Int)+1)] (need [QP n a b c U O,QS,QD=QD,ZN,QG n,XU n,QG n,(d:Int)+1=(↑(d+1):Int),2^n=2^n,∀(i:Nat),i<2^n->[iI (-1:Int)]=[iI (-1:Int)],2^n=2^n,∀(i:Nat),i<2^n->[iI (eQ (quB n a b c (d:Int)) n U O d (z1) (quN n a b c (d:Int)) i)]=[iI (eD n a b c U O (d+1) i)],W7,W0,WB,W,WI,WJ,W0,WB,W] (leaf G9.normal)))))))) (need [QP n a b c U O,QS,QD=QD,ZN,QG n,XU n,QG n,(d:Int)=2^n,2^n=2^n,∀(i:Nat),i<2^n->[iI (-1:Int)]=[iI (-1:Int)],2^n=2^n,∀(i:Nat),i<2^n->[iI (z1 i)]=[iI (eD n a b c U O (2^n) i)],W7,W0,WB,W,WI,WJ,W0,WB,W] (leaf (G9.exit 2))))) VW ?_);simp only [Jp4,E0,VP.sat,GX] at hQ;simp only [VP.sat,UD,G8,GO,UG,VO,UJ,HB,RE,RF,L7,GR,E0]
  have h8:=VU.1;have hp:=gD h8;have hpn:((2^n:Nat):Int)=2^n:=VX;refine ⟨λh=>?_,λh=>?_⟩
  ·have hd3:(d:Int)<2^n:=VM;have hd:d<2^n:=by
    have h':(d:Int)<((2^n:Nat):Int):=by rw [hpn];exact hd3
    exact Int.ofNat_lt.1 h'
   have hd2:=qI h8 hd;refine ⟨⟨VM,hd3⟩,hd,λhb=>?_,λhb=>?_⟩
   ·rw [beq_iff_eq] at hb;refine ⟨VM,⟨VM,λ_ _=>trivial,λj hj=>by simp only [eD,if_pos hb]⟩,hd,VM⟩
   ·rw [beq_eq_false_iff_ne] at hb;refine ⟨hd,⟨λ_ _=>trivial,λj hj=>rfl⟩,VM,⟨VM,λ_ _=>trivial,λj hj=>by simp only [eD,if_neg hb]⟩,hd,VM⟩
  ·have hd:d=2^n:=by
    have h': ¬(d:Int)<((2^n:Nat):Int):=by rw [hpn];omega
    omega
   subst hd;exact ⟨⟨hpn,λ_ _=>trivial,λj hj=>rfl⟩,λE hE=>by cases hE;exact hQ⟩
def pm(n:Nat):Nat:=2^n-1
def lQ(p:Nat->Bool)(n:Nat)(U O:Nat->Int)(d:Nat)(F:Nat->Int):Nat->Nat->Int
 | 0=>F
 |q+1=>if min (lQ p n U O d F q (d ||| 2^UV p n q)) (O (UV p n q))>=U (UV p n q) then UT d (max (lQ p n U O d F q d) (min (lQ p n U O d F q (d ||| 2^UV p n q)) (O (UV p n q)))) (lQ p n U O d F q) else lQ p n U O d F q
def lS(n:Nat)(a b c U O:Nat->Int):Nat->Nat->Int
 | 0=>UT (2^n-1) 101 (λ_=> -1)
 |s+1=>lQ (quB n a b c ((2^n-2-s:Nat):Int)) n U O (2^n-2-s) (lS n a b c U O s) (quN n a b c ((2^n-2-s:Nat):Int))
section
variable (n:Nat)(a b c U O:Nat->Int)
noncomputable def Zu0:St:={σ:=[agg (ZT n a b c U O),ptr 0 0,QD,ptr 5 0]++HM 14 [ZG n,iI ((2:Int)^n)]++HM 27 [ZG n,iI ((2:Int)^n)]++HM 110 [],m:=[(903,GS.cells 133 [iI ((2:Int)^n-1-1)]),(902,GS.row 3 1 (2^n) λk=>iI (if decide (k=((2:Int)^n-1).toNat)=true then (101:Int) else (-1:Int))::Bool.rec ([]) ([]) (decide (k=((2:Int)^n-1).toNat))),(901,GS.row 3 1 (2^n) λz=>[iI (eD n a b c U O (2^n) z)]),(5,YN),(4,GS.keep 174 (KS n a b c U O)),(0,GS.cells 42 (ZT n a b c U O))],nx:=916}
noncomputable def c8:Code:=UC (VV (U9 Tryz.f49) 2)
noncomputable def Wm2(d:Nat):St:={σ:=H4 [(9,.ptr 903 0),(10,.top),(11,.top),(12,.top)] (Zu0 n a b c U O).σ,m:=[(903,.cells 133 [i (((d:Nat):Int)-1)]),(902,.row 3 1 (2^n) (λz=>[i ((lS n a b c U O (2^n-1-(d))) z)])),(901,.row 3 1 (2^n) (λz=>[i ((eD n a b c U O (2^n)) z)])),(5,.cells 84 [.ptr 4 0]),(4,.keep 174 [i 4,i 10,sls n a b c U O,.row 901,.row 902]),(0,.cells 42 [i 4,i 10,sls n a b c U O])],nx:=904}
noncomputable def CZ(d:Nat):G9->Option St
 | .exit 6=>some {σ:=H4 [(9,.ptr 903 0),(10,.top),(11,.top),(12,.top)] (Zu0 n a b c U O).σ,m:=[(903,.cells 133 [i (((0:Nat):Int)-1)]),(902,.row 3 1 (2^n) (λz=>[i ((lS n a b c U O (2^n-1-(0))) z)])),(901,.row 3 1 (2^n) (λz=>[i ((eD n a b c U O (2^n)) z)])),(5,.cells 84 [.ptr 4 0]),(4,.keep 174 [i 4,i 10,sls n a b c U O,.row 901,.row 902]),(0,.cells 42 [i 4,i 10,sls n a b c U O])],nx:=904}
 |_=>none
noncomputable def Jp3:CT:= .leaf (.exit 6,(CZ n a b c U O (pm n) (.exit 6)).getD (Zu0 n a b c U O))
noncomputable def Za3:UL:=GM [(.slot 9,903,133,2),(.cell 5 0,0,0,0)] (HK (Wm2 n a b c U O (pm n)) (Jp3 n a b c U O))
abbrev ZZ:AV:=AV.fn (Fn.func 108) [] [ptr 908 0,ptr 909 0]
def Jr6(d:Nat):St:={σ:=[agg (ZT n a b c U O),ptr 0 0,QD,ptr 5 0]++HM 5 [ptr 903 0]++HM 8 [ZG n,iI ((2:Int)^n)]++HM 27 [ZG n,iI ((2:Int)^n)]++HM 69 [ZZ]++HM 40 [],m:=[(909,GS.keep 133 [iI ((d:Int)-1)]),(908,GS.keep 84 [ptr 4 0]),(903,GS.cells 133 [iI ((d:Int)-1)]),(902,GS.row 3 1 (2^n) λz=>[iI (lS n a b c U O (2^n-1-d) z)]),(901,GS.row 3 1 (2^n) λz=>[iI (eD n a b c U O (2^n) z)]),(5,YN),(4,GS.keep 174 (KS n a b c U O)),(0,GS.cells 42 (ZT n a b c U O))],nx:=913}
noncomputable def Jv7:Code:=MX (VV c8 0)
noncomputable def Jt7:Code:=MW (VV c8 0)
def pR(d:Nat)(k:Nat):St:={σ:=H4 [(10,.top),(11,.top),(12,.top)] (Jr6 n a b c U O d).σ,m:=[(909,.keep 133 [i ((d:Int)-1)]),(908,.keep 84 [.ptr 4 0]),(903,.cells 133 [i (((d:Nat):Int)-1)]),(902,.row 3 1 (2^n) (λz=>[i ((lQ (quB n a b c ((d:Int)-1)) n U O (d-1) (lS n a b c U O (2^n-1-d)) (k)) z)])),(901,.row 3 1 (2^n) (λz=>[i ((eD n a b c U O (2^n)) z)])),(5,.cells 84 [.ptr 4 0]),(4,.keep 174 [i 4,i 10,sls n a b c U O,.row 901,.row 902]),(0,.cells 42 [i 4,i 10,sls n a b c U O])],nx:=913}
def oX(d:Nat)(k:Nat):G9->Option St
 | .normal=>some {σ:=H4 [(10,.top),(11,.top),(12,.top)] (Jr6 n a b c U O d).σ,m:=[(909,.keep 133 [i ((d:Int)-1)]),(908,.keep 84 [.ptr 4 0]),(903,.cells 133 [i (((d:Nat):Int)-1)]),(902,.row 3 1 (2^n) (λz=>[i ((lQ (quB n a b c ((d:Int)-1)) n U O (d-1) (lS n a b c U O (2^n-1-d)) ((quN n a b c ((d:Int)-1)))) z)])),(901,.row 3 1 (2^n) (λz=>[i ((eD n a b c U O (2^n)) z)])),(5,.cells 84 [.ptr 4 0]),(4,.keep 174 [i 4,i 10,sls n a b c U O,.row 901,.row 902]),(0,.cells 42 [i 4,i 10,sls n a b c U O])],nx:=913}
 |_=>none
def T_ke(d:Nat):CT:= .leaf (.normal,pR n a b c U O d (quN n a b c ((d:Int)-1)))
def Za2(d:Nat):UL:=GM [(.slot 118,0,0,0)] (HK (pR n a b c U O d (0)) (T_ke n a b c U O d))
abbrev ZR:Prop:=ptr 903 0=ptr 903 0
theorem Jg1(d:Nat)(VU:sV n a b c U O)(UI:1<=d)(HU:d<2^n):HN VR (.rangeFunc (rfF (VV c8 0)) (zQ (VV c8 0)) Jv7 Jt7) (Za2 n a b c U O d):=by
 refine v9 [(.slot 118,0,0,0)] (L:=[]) (Ae F1 (Ae PU Aa)) Ad U1 U6 (V:=Nat) (pR n a b c U O d) (λk=>k<=(quN n a b c ((d:Int)-1))) (λk=>k) (oX n a b c U O d) (x0:=0) VX rfl ?_ ?_ ?_ ?_ (g:=108) (caps:=[.ro [.ro [i 4,i 10,sls n a b c U O,.top,.top]],.ro [i ((d:Int)-1)]]) (caps0:=[.ptr 908 0,.ptr 909 0]) VW VW (vQ .top .top n a b c U O ((d:Int)-1) VU (by have:=qI VU.1 HU;omega)) (λ_=>rfl) ?_
 ·rintro k;kernel_rfl
 ·rintro k y E h;unfold oX at h;split at h
  ·cases h;kernel_rfl
  ·cases h
 ·rintro k;rfl
 ·rintro k y E h;unfold oX at h;split at h
  ·cases h;rfl
  ·cases h
 ·rintro Q hQ k hx;refine ⟨λhlt=>⟨(k+1),rfl,?_⟩,λPI=>?_⟩
  ·(with_reducible refine DL (t:=let W:=(quB n a b c ((d:Int)-1));let z1:=(BitVec.toNat (BitVec.ofInt 64 ((d:Int)-1) ||| BitVec.ofInt 64 ((1:Int)*2^UV W n k)));let z2:=(lS n a b c U O (2^n-1-d));let z3:=(U2 ((d:Int)-1));let z5:=lQ W n U O;let z4:=(z5 (d-1) z2 k (IntKind.wrap IntKind.i64 (z1:Int)).toNat);(need [(0:Int)<=(↑(UV W n k):Int)/\(↑(UV W n k):Int)<=64,VO ((1:Int)*2^UV W n k)] (need [UM (IntKind.wrap IntKind.i64 (z1:Int)) (↑(2^n):Int)] (need [(IntKind.wrap IntKind.i64 (z1:Int)).toNat<2^n] (branch (decide (min z4 (O (UV W n k))>=U (UV W n k))) (need [UM ((d:Int)-1) (↑(2^n):Int)] (need [((d:Int)-1).toNat<2^n] (need [UM ((d:Int)-1) (↑(2^n):Int)] (need [((d:Int)-1).toNat<2^n] (need [QP n a b c U O,QS,QD=QD,ZN,ZR,QG n,XU n,QG n,XU n,ZZ=ZZ,z3,W7,z3,2^n=2^n,∀(i:Nat),i<2^n->HD (decide (i=((d:Int)-1).toNat)) [iI (max (z5 (d-1) z2 k ((d:Int)-1).toNat) (min z4 (O (UV W n k))))] [iI (z5 (d-1) z2 k i)]=[iI (z5 (d-1) z2 (k+1) i)],2^n=2^n,∀(i:Nat),i<2^n->[iI (eD n a b c U O (2^n) i)]=[iI (eD n a b c U O (2^n) i)],W7,W0,WB,W5 n a b c U O,WI,WJ,W0,WB,W5 n a b c U O] (leaf G9.normal)))))) (need [QP n a b c U O,QS,QD=QD,ZN,ZR,QG n,XU n,QG n,XU n,ZZ=ZZ,z3,W7,z3,2^n=2^n,∀(i:Nat),i<2^n->[iI (z5 (d-1) z2 k i)]=[iI (z5 (d-1) z2 (k+1) i)],2^n=2^n,∀(i:Nat),i<2^n->[iI (eD n a b c U O (2^n) i)]=[iI (eD n a b c U O (2^n) i)],W7,W0,WB,W5 n a b c U O,WI,WJ,W0,WB,W5 n a b c U O] (leaf G9.normal))))))) VW ?_)
   have h8:=VU.1;obtain ⟨D,rfl⟩: ∃D,d=D+1:=⟨d-1,VM⟩;have hD:(((D+1:Nat):Int)-1)=(D:Int):=VM;have hd:D<2^n:=VM;have hdi:=qI h8 hd;have hpn:((2^n:Nat):Int)=2^n:=VX;simp only [hD] at*;have hs:=uV hlt;have hor:=Wg7 h8 hd hs.1;have hol:=Qc7 hd hs.1;simp only [VP.sat,UD,UJ,hor,DP,HB,Bi]
   have hd2:(D:Int)<2^n:=by
    have h:(D:Int)<((2^n:Nat):Int):=Int.ofNat_lt.2 hd
    rwa [hpn] at h
   have Qs1:((D ||| 2^UV (quB n a b c D) n k:Nat):Int)<2^n:=by
    have h:((D ||| 2^UV (quB n a b c D) n k:Nat):Int)<((2^n:Nat):Int):=Int.ofNat_lt.2 hol
    rwa [hpn] at h
   have hk1:k+1<=quN n a b c D:=hlt;have h2s:(1:Int)<=2^UV (quB n a b c D) n k/\(2:Int)^UV (quB n a b c D) n k<=256:=gD VM;have h64:=hs.1;refine ⟨⟨⟨VM,VM⟩,by simp only [VO,Int.one_mul];omega⟩,⟨VM,Qs1⟩,hol,λh=>?_,λh=>?_⟩
   ·refine ⟨⟨VM,hd2⟩,hd,⟨VM,hd2⟩,hd,⟨λj hj=>?_,λ_ _=>trivial⟩,hk1⟩
    simp only [lQ,if_pos h];exact uZ
   ·refine ⟨⟨λj hj=>?_,λ_ _=>trivial⟩,hk1⟩
    simp only [lQ,if_neg h]
  ·have hk:k=quN n a b c ((d:Int)-1):=VM;subst hk;exact hQ
theorem Jg2(VU:sV n a b c U O):HN VR (.loop c8) (Za3 n a b c U O):=by
 refine gM [(.slot 9,903,133,2),(.cell 5 0,0,0,0)] (L:=[BP 117 (λd=>FT [d+1<2^n] (Za2 n a b c U O (d+1)))]) (Ae LI (Ae F1 (Ae PU Aa))) (Ai Ab (Ag dO Ac)) U1 (UZ (λcj hcj=>by
  have e:VV c8 0=some (.rangeFunc (rfF (VV c8 0)) (zQ (VV c8 0)) Jv7 Jt7):=VW;rw [e] at hcj;cases hcj;exact d9 (λd=>B8 (λh=>Jg1 n a b c U O (d+1) VU (Nat.succ_le_succ (Ao _)) h)))) (X:=Nat) (Wm2 n a b c U O) (λd=>d<=pm n) (λd=>d) (CZ n a b c U O) (x0:=pm n) (Am _) ?_ ?_ ?_
 ·rintro d;kernel_rfl
 ·rintro d y E h;unfold CZ at h;split at h
  ·cases h;kernel_rfl
  ·cases h
 ·rintro Q hQ d hx;refine ⟨(d-1),?_⟩;(with_reducible refine DL (t:=let W:=(quB n a b c ((↑(((d:Int)-1).toNat+1):Int)-1));let z4:=lS n a b c U O;let z1:=(z4 (2^n-1-(((d:Int)-1).toNat+1)));let z2:=eD n a b c U O;let z3:=W5 n a b c U O;(branch (decide ((d:Int)-1>=(0:Int))) (need [((d:Int)-1).toNat+1<2^n] (need [QP n a b c U O,QS,QD=QD,ZN,ZR,QG n,XU n,QG n,XU n,ZZ=ZZ,(d:Int)-1=(↑(((d:Int)-1).toNat+1):Int)-1,W7,(d:Int)-1=(↑(((d:Int)-1).toNat+1):Int)-1,2^n=2^n,∀(i:Nat),i<2^n->[iI (z4 (2^n-1-d) i)]=[iI (lQ W n U O (((d:Int)-1).toNat+1-1) z1 0 i)],2^n=2^n,∀(i:Nat),i<2^n->[iI (z2 (2^n) i)]=[iI (z2 (2^n) i)],W7,W0,WB,z3,WI,WJ,W0,WB,z3] (need [VO ((↑(((d:Int)-1).toNat+1):Int)-1-1)] (need [QP n a b c U O,QS,QD=QD,ZN,ZR,QG n,XU n,QG n,XU n,(↑(((d:Int)-1).toNat+1):Int)-1-1=(↑(d-1):Int)-1,2^n=2^n,∀(i:Nat),i<2^n->[iI (lQ W n U O (((d:Int)-1).toNat+1-1) z1 (quN n a b c ((↑(((d:Int)-1).toNat+1):Int)-1)) i)]=[iI (z4 (2^n-1-(d-1)) i)],2^n=2^n,∀(i:Nat),i<2^n->[iI (z2 (2^n) i)]=[iI (z2 (2^n) i)],W7,W0,WB,z3,WI,WJ,W0,WB,z3] (leaf G9.normal))))) (need [QP n a b c U O,QS,QD=QD,ZN,ZR,QG n,XU n,QG n,XU n,(d:Int)-1=(↑(0:Nat):Int)-1,2^n=2^n,∀(i:Nat),i<2^n->[iI (z4 (2^n-1-d) i)]=[iI (z4 (2^n-1-0) i)],2^n=2^n,∀(i:Nat),i<2^n->[iI (z2 (2^n) i)]=[iI (z2 (2^n) i)],W7,W0,WB,z3,WI,WJ,W0,WB,z3] (leaf (G9.exit 6))))) VW ?_);simp only [Jp3,CZ,VP.sat,GX] at hQ;simp only [VP.sat,UD,G8,GO,UG,VO,UJ,HB,RE,RF,L7,GR,CZ]
  have h8:=VU.1;have hpm:pm n=2^n-1:=rfl;rw [hpm] at hx ⊢;have hp:=gD h8;have hpn:((2^n:Nat):Int)=2^n:=VX;refine ⟨λh=>?_,λh=>?_⟩
  ·obtain ⟨D,rfl⟩: ∃D,d=D+1:=⟨d-1,VM⟩;have e1:(((D+1:Nat):Int)-1).toNat=D:=VM;have e2:(((D+1:Nat):Int)-1)=(D:Int):=VM;have hd:D+1<2^n:=VM;have hdi:=qI h8 hd;simp only [e2,DP,Bi,true_and];have hst:lQ (quB n a b c D) n U O D (lS n a b c U O (2^n-1-(D+1))) (quN n a b c D)=lS n a b c U O (2^n-1-D):=by
    have h1:2^n-1-D=(2^n-1-(D+1))+1:=VM;have h2:2^n-2-(2^n-1-(D+1))=D:=VM;rw [h1];simp only [lS,h2]
   refine ⟨hd,⟨λj hj=>rfl,λ_ _=>trivial⟩,VM,⟨λj hj=>by rw [hst],λ_ _=>trivial⟩,VM,VM⟩
  ·obtain rfl:d=0:=VM;exact ⟨⟨rfl,λj hj=>rfl,λ_ _=>trivial⟩,λE hE=>by cases hE;exact hQ⟩
end
theorem t9{S:Code->UL->Prop}{c:Code}{s0 s1 s2:UL}(h0: ∀cj,VV c 0=some cj->S cj s0)(h1: ∀cj,VV c 1=some cj->S cj s1)(h2: ∀cj,VV c 2=some cj->S cj s2):
  ∀j cj,VV c j=some cj-> ∀sp,[s0,s1,s2][j]? =some sp->S cj sp:=by
 intro j cj hj sp hsp
 match j with
 | 0=>simp at hsp;subst hsp;exact h0 cj hj
 | 1=>simp at hsp;subst hsp;exact h1 cj hj
 | 2=>simp at hsp;subst hsp;exact h2 cj hj
 |j+3=>simp at hsp
section
variable (n:Nat)(a b c U O:Nat->Int)
theorem Wg1(VU:sV n a b c U O):FF VR 49 [.agg [i 4,i 10,sls n a b c U O]] (.ro [i 4,i 10,sls n a b c U O,.lst 1 (2^n) (λz=>[i (eD n a b c U O (2^n) z)]),.lst 1 (2^n) (λz=>[i (lS n a b c U O (2^n-1) z)])]):=by
 refine D0 (L:=[Za6 n a b c U O,Za5 n a b c U O,Za3 n a b c U O]) (Ae LI (Ae F1 (Ae PU Aa))) (Ai Ab (Ag dO Ac)) U1 Tryz.func49 (UW Tryz.f49) (t9 (lpE (b:= .loop Jt9) VW<|(Jg5 n a b c U O VU).N) (lpE (b:= .loop c9) VW<|Jg4 n a b c U O VU) (lpE (b:= .loop c8) VW<|Jg2 n a b c U O VU)) (t:=let W:=W5 n a b c U O;(need [n<=8] (need [VO ((2:Int)^n-1+1)] (need [QP n a b c U O,QS,QD=QD,ZN,QG n,(0:Int)=(↑(0:Nat):Int),0=0,∀(i:Nat),i<0->[]=[iI (-1:Int)],0=0,∀(i:Nat),i<0->[]=ZX,W7,W0,WB,W,WI,WJ,W0,WB,W] (need [UM 0 (↑(2^n):Int)] (need [(0:Int).toNat<2^n] (need [n<=8] (need [VO ((2:Int)^n-1+1)] (need [QP n a b c U O,QS,QD=QD,ZN,QG n,XU n,QG n,(0:Int)=(↑(0:Nat):Int),2^n=2^n,∀(i:Nat),i<2^n->[iI (-1:Int)]=[iI (-1:Int)],2^n=2^n,∀(i:Nat),i<2^n->HD (decide (i=(0:Int).toNat)) [iI 0] ZX=[iI (eD n a b c U O 0 i)],W7,W0,WB,W,WI,WJ,W0,WB,W] (need [n<=8] (need [(0:Int)<=2^n-1/\(2:Int)^n-1<(↑(2^n):Int)] (need [((2:Int)^n-1).toNat<2^n] (need [n<=8] (need [VO ((2:Int)^n-1-1)] (need [QP n a b c U O,QS,QD=QD,ZN,ZR,QG n,XU n,QG n,XU n,(2:Int)^n-1-1=(↑(pm n):Int)-1,2^n=2^n,∀(i:Nat),i<2^n->HD (decide (i=((2:Int)^n-1).toNat)) ZX [iI (-1:Int)]=[iI (lS n a b c U O (2^n-1-pm n) i)],2^n=2^n,∀(i:Nat),i<2^n->[iI (eD n a b c U O (2^n) i)]=[iI (eD n a b c U O (2^n) i)],W7,W0,WB,W,WI,WJ,W0,WB,W] (leaf (AV.ro [iI 4,iI 10,Q0 n a b c U O,lst 1 (2^n) λz=>[iI (eD n a b c U O (2^n) z)],lst 1 (2^n) λz=>[iI (lS n a b c U O (2^n-1-0) z)]]))))))))))))))))) VW ?_
 have h8:=VU.1;have hp:=gD h8;have hpn:((2^n:Nat):Int)=2^n:=VX;have hp1:1<=2^n:=Nat.one_le_two_pow;have hpt:((2:Int)^n-1).toNat=2^n-1:=VM;simp only [VP.sat,UD,UJ,VO,hpt,Int.toNat_zero]
 (with_reducible repeat' first|apply Al|intro _)
 all_goals first|exact Ak|omega|with_reducible rfl|rfl|skip
 ·rename_i q hq;exact uZ (F:=λ_=>101)
 ·have h1:((pm n:Nat):Int)=((2^n:Nat):Int)-1:=by
   unfold pm;omega
  rw [h1,hpn]
 ·rename_i q hq;rw [show 2^n-1-pm n=0 from Bs _];exact uZ (F:=λ_=> -1)
def Xq8:UY:=λl=>some ([l=[.agg [i 4,i 10,sls n a b c U O]]],.ro [i 4,i 10,sls n a b c U O,.lst 1 (2^n) (λz=>[i (eD n a b c U O (2^n) z)]),.lst 1 (2^n) (λz=>[i (lS n a b c U O (2^n-1) z)])])
theorem dQ(VU:sV n a b c U O):P5 VR 49 (Xq8 n a b c U O):=by
 refine ⟨(UK Tryz.func49),?_⟩;intro avs ns res h hn;cases h;have e:=hn _ GJ;subst e;exact Wg1 n a b c U O VU
def Xb2:UY:=λl=>some ([l=[.agg [i 4,i 10,sls n a b c U O]]],i (if jM n a b c U O then 0 else 1))
theorem vV(VU:n<=8):VS VR 48 (Xb2 n a b c U O):=by
 refine ⟨(UK Tryz.func48),?_⟩;intro avs ns res h hn;cases h;have e:=hn _ GJ;subst e;exact NZ n a b c U O VU
theorem Wg0(E F:Nat->Int)(VU:n<=8):U0 VR 50 [.ro [i 4,i 10,sls n a b c U O,.lst 1 (2^n) (λz=>[i (E z)]),.lst 1 (2^n) (λz=>[i (F z)])]] (bl (E (2^n-1) != 101)):=by
 refine U4 (L:=[]) (Ae LI Aa) U1 Tryz.func50 (UW Tryz.f50) U6 (t:=need [n<=8] (need [(0:Int)<=2^n-1/\(2:Int)^n-1<(↑(2^n):Int)] (leaf (RV.x (.bool (E ((2:Int)^n-1).toNat != 101)))))) VW ?_;have hp:=gD VU;have hpn:((2^n:Nat):Int)=2^n:=VX;have hp1:1<=2^n:=Nat.one_le_two_pow;have hpt:((2:Int)^n-1).toNat=2^n-1:=VM;simp only [VP.sat,UD,G8,GO,UG,UJ,hpt]
 (with_reducible repeat' first|apply Al|intro _)
 all_goals first|exact VU|omega|rfl|trivial
def Xq7(E F:Nat->Int):UY:=λl=>some ([l=[.ro [i 4,i 10,sls n a b c U O,.lst 1 (2^n) (λz=>[i (E z)]),.lst 1 (2^n) (λz=>[i (F z)])]]],bl (E (2^n-1) != 101))
theorem dP(E F:Nat->Int)(VU:n<=8):VS VR 50 (Xq7 n a b c U O E F):=by
 refine ⟨(UK Tryz.func50),?_⟩;intro avs ns res h hn;cases h;have e:=hn _ GJ;subst e;exact Wg0 n a b c U O E F VU
theorem eS(E F:Nat->Int)(d Z:Int)(VU:0<=d/\d<2^n):U0 VR 52 [.ro [i 4,i 10,sls n a b c U O,.lst 1 (2^n) (λz=>[i (E z)]),.lst 1 (2^n) (λz=>[i (F z)])],i d,i Z] (bl (decide (E d.toNat<=Z)&&decide (F d.toNat>Z))):=by
 refine GZ Tryz.func52 (t:=need [UM d (↑(2^n):Int)] (branch (decide (E (Int.toNat d)<=Z)) (need [UM d (↑(2^n):Int)] (leaf (RV.x (.bool (decide (F (Int.toNat d)>Z)))))) (leaf (RV.x (WO))))) VW ?_;have hpn:((2^n:Nat):Int)=2^n:=VX;simp only [VP.sat,UD,G8,GO,UG,UJ];have hd:d.toNat<2^n:=VM
 (with_reducible repeat' first|apply Al|intro _)
 all_goals first|omega|(rename_i h;rw [h];rfl)
def MN(E F:Nat->Int):UY
 |[bk,.x (.int .i64 d),.x (.int .i64 Z)]=>some ([bk= .ro [i 4,i 10,sls n a b c U O,.lst 1 (2^n) (λz=>[i (E z)]),.lst 1 (2^n) (λz=>[i (F z)])],0<=d/\d<2^n],bl (decide (E d.toNat<=Z)&&decide (F d.toNat>Z)))
 |_=>none
theorem gC(E F:Nat->Int):VS VR 52 (MN n a b c U O E F):=by
 refine ⟨(UK Tryz.func52),?_⟩;intro avs ns res h hn;unfold MN at h;split at h
 ·cases h;rename_i bk d Z;have e:=hn _ GJ;rw [e];exact eS n a b c U O E F d Z (hn _ VX)
 ·cases h
end
def hoF(n:Nat)(a b c:Nat->Int)(E F:Nat->Int)(ow Z:Int):Nat->Int×Int
 | 0=>(1001,-1)
 |d+1=>match decide (E d<=Z)&&decide (F d>Z) with
  |true=>(min (hoF n a b c E F ow Z d).1 (stF a b c d n ow.toNat),max (hoF n a b c E F ow Z d).2 (stF a b c d n ow.toNat))
  |false=>hoF n a b c E F ow Z d
theorem nth6(F:Nat->Int){q:Nat}(hq:q<6):UB [F 0,F 1,F 2,F 3,F 4,F 5] q=F q:=by
 match q,hq with
 | 0,_=>rfl
 | 1,_=>rfl
 | 2,_=>rfl
 | 3,_=>rfl
 | 4,_=>rfl
 | 5,_=>rfl
section
variable (n:Nat)
abbrev WF(a:Nat->Int)(b:Nat->Int)(c:Nat->Int)(U:Nat->Int)(O:Nat->Int)(E:Nat->Int)(F:Nat->Int):AV:=AV.ro [iI 4,iI 10,Q0 n a b c U O,lst 1 (2^n) λz=>[iI (E z)],lst 1 (2^n) λz=>[iI (F z)]]
abbrev JQ:List AV:=[iI 0,iI 0]
def Zu4(a b c U O:Nat->Int)(E F:Nat->Int)(ow Z:Int):St:={σ:=[WF n a b c U O E F,iI ow,iI Z,top,top,top,ptr 0 0,ptr 2 0]++HM 5 [ZG n]++HM 25 [],m:=[(2,GS.cells 37 [iI 1001,iI (-1:Int)]),(0,GS.cells 37 JQ)],nx:=8}
noncomputable def Ju1:Code:=UC (VV (U9 Tryz.f29) 0)
def Wm6(a b c U O:Nat->Int)(E F:Nat->Int)(ow Z:Int)(d:Nat):St:={σ:=H4 [(8,.top),(9,.top),(14,i d)] (Zu4 n a b c U O E F ow Z).σ,m:=[(2,.cells 37 [i (hoF n a b c E F ow Z (d)).1,i (hoF n a b c E F ow Z (d)).2]),(0,.cells 37 [i 0,i 0])],nx:=8}
def E3(a b c U O:Nat->Int)(E F:Nat->Int)(ow Z:Int)(d:Nat):G9->Option St
 | .exit 0=>some {σ:=H4 [(8,.top),(9,.top),(14,i (2^n))] (Zu4 n a b c U O E F ow Z).σ,m:=[(2,.cells 37 [i (hoF n a b c E F ow Z (2^n)).1,i (hoF n a b c E F ow Z (2^n)).2]),(0,.cells 37 [i 0,i 0])],nx:=8}
 |_=>none
def Jp7(a b c U O:Nat->Int)(E F:Nat->Int)(ow Z:Int):CT:= .leaf (.exit 0,(E3 n a b c U O E F ow Z 0 (.exit 0)).getD (Zu4 n a b c U O E F ow Z))
def Za8(a b c U O:Nat->Int)(E F:Nat->Int)(ow Z:Int):UL:=(HK (Wm6 n a b c U O E F ow Z (0)) (Jp7 n a b c U O E F ow Z))
abbrev ZC:Prop:=ptr 2 0=ptr 2 0
theorem Ji4(a b c U O:Nat->Int)(E F:Nat->Int)(ow Z:Int)(VU:sV n a b c U O)(UI:0<=ow/\ow<4):GA VR (.loop Ju1) (Za8 n a b c U O E F ow Z):=by
 refine HJ (L:=[]) (Ae PU (Ae F1 (Ae LI (Ae (gC n a b c U O E F) (Ae (wE n a b c U O VU) Aa))))) U1 U6 (X:=Nat) (Wm6 n a b c U O E F ow Z) (λd=>d<=2^n) (λd=>2^n-d) (E3 n a b c U O E F ow Z) (x0:=0) VX ?_ ?_ ?_
 ·rintro d;kernel_rfl
 ·rintro d y E h;unfold E3 at h;split at h
  ·cases h;kernel_rfl
  ·cases h
 ·rintro Q hQ d hx;refine ⟨(d+1),?_⟩;(with_reducible refine DL (t:=let W:=(UB [stF a b c (d:Int) n 0,stF a b c (d:Int) n 1,stF a b c (d:Int) n 2,stF a b c (d:Int) n 3,stF a b c (d:Int) n 4,stF a b c (d:Int) n 5] (Int.toNat ow));let z2:=hoF n a b c E F ow Z;let z1:=(z2 d);let z3:=(U2 (WF n a b c U O E F));(branch (decide ((d:Int)<2^n-1+1)) (need [z3,(0:Int)<=(d:Int)/\(d:Int)<2^n] (branch (decide (E d<=Z)&&decide (F d>Z)) (need [W5 n a b c U O,(0:Int)<=(d:Int)/\(d:Int)<256] (need [UM ow 6] (need [VO ((d:Int)+1)] (need [z3,ow=ow,Z=Z,QS,ZC,QG n,(d:Int)+1=(↑(d+1):Int),min (Prod.fst z1) W=Prod.fst (z2 (d+1)),max (Prod.snd z1) W=Prod.snd (z2 (d+1)),QY,QY] (leaf G9.normal))))) (need [VO ((d:Int)+1)] (need [z3,ow=ow,Z=Z,QS,ZC,QG n,(d:Int)+1=(↑(d+1):Int),Prod.fst z1=Prod.fst (z2 (d+1)),Prod.snd z1=Prod.snd (z2 (d+1)),QY,QY] (leaf G9.normal))))) (need [z3,ow=ow,Z=Z,QS,ZC,QG n,(d:Int)=2^n,Prod.fst z1=Prod.fst (z2 (2^n)),Prod.snd z1=Prod.snd (z2 (2^n)),QY,QY] (leaf (G9.exit 0))))) VW ?_);simp only [Jp7,E3,VP.sat,GX] at hQ;simp only [VP.sat,UD,G8,GO,UG,VO,UJ,HB,RE,RF,L7,GR,E3]
  have h8:=VU.1;have hp:=gD h8;have hpn:((2^n:Nat):Int)=2^n:=VX;refine ⟨λh=>?_,λh=>?_⟩
  ·have hd3:(d:Int)<2^n:=VM;have hd:d<2^n:=by
    have h':(d:Int)<((2^n:Nat):Int):=by rw [hpn];exact hd3
    exact Int.ofNat_lt.1 h'
   have hd2:=qI h8 hd;have h6:=nth6 (stF a b c d n) (show ow.toNat<6 by omega)
   refine ⟨⟨VM,hd3⟩,λhb=>?_,λhb=>?_⟩
   ·refine ⟨hd2,⟨VM,VM⟩,VM,⟨VM,?_,?_⟩,hd,VM⟩
    ·simp only [hoF,hb];rw [h6]
    ·simp only [hoF,hb];rw [h6]
   ·refine ⟨VM,⟨VM,?_,?_⟩,hd,VM⟩
    ·simp only [hoF,hb]
    ·simp only [hoF,hb]
  ·have hd:d=2^n:=by
    have h': ¬(d:Int)<((2^n:Nat):Int):=by rw [hpn];omega
    omega
   subst hd;exact ⟨⟨hpn,rfl,rfl⟩,λE hE=>by cases hE;exact hQ⟩
theorem Qo7(a b c U O:Nat->Int)(E F:Nat->Int)(ow Z:Int)(VU:sV n a b c U O)(UI:0<=ow/\ow<4):U0 VR 29 [.ro [i 4,i 10,sls n a b c U O,.lst 1 (2^n) (λz=>[i (E z)]),.lst 1 (2^n) (λz=>[i (F z)])],i ow,i Z] (.agg [i (hoF n a b c E F ow Z (2^n)).1,i (hoF n a b c E F ow Z (2^n)).2]):=by
 refine U4 (L:=[Za8 n a b c U O E F ow Z]) (Ae PU (Ae F1 (Ae LI (Ae (gC n a b c U O E F) (Ae (wE n a b c U O VU) Aa))))) U1 Tryz.func29 (UW Tryz.f29) (UZ (lpE (b:= .loop Ju1) VW<|Ji4 n a b c U O E F ow Z VU UI)) (t:=let W:=hoF n a b c E F ow Z;(need [n<=8] (need [VO ((2:Int)^n-1+1)] (need [U2 (WF n a b c U O E F),ow=ow,Z=Z,QS,ZC,QG n,(0:Int)=(↑(0:Nat):Int),(1001:Int)=Prod.fst (W 0),(-1:Int)=Prod.snd (W 0),QY,QY] (leaf (RV.agg [RV.x (.int .i64 (Prod.fst (W (2^n)))),RV.x (.int .i64 (Prod.snd (W (2^n))))])))))) VW ?_
 have h8:=VU.1;have hp:=gD h8;have hpn:((2^n:Nat):Int)=2^n:=VX;simp only [VP.sat,UD,G8,GO,UG,UJ,VO,Prod.fst,Prod.snd]
 (with_reducible repeat' first|apply Al|intro _)
 all_goals first|exact Ak|exact h8|omega|rfl
def nA(a b c U O:Nat->Int)(E F:Nat->Int):UY
 |[bk,.x (.int .i64 ow),.x (.int .i64 Z)]=>some ([bk= .ro [i 4,i 10,sls n a b c U O,.lst 1 (2^n) (λz=>[i (E z)]),.lst 1 (2^n) (λz=>[i (F z)])],0<=ow/\ow<4],.agg [i (hoF n a b c E F ow Z (2^n)).1,i (hoF n a b c E F ow Z (2^n)).2])
 |_=>none
theorem vU(a b c U O:Nat->Int)(E F:Nat->Int)(VU:sV n a b c U O):VS VR 29 (nA n a b c U O E F):=by
 refine ⟨(UK Tryz.func29),?_⟩;intro avs ns res h hn;unfold nA at h;split at h
 ·cases h;rename_i bk ow Z;have e:=hn _ GJ;rw [e];exact Qo7 n a b c U O E F ow Z VU (hn _ VX)
 ·cases h
def jD(a b c U O:Nat->Int):Bool:=eD n a b c U O (2^n) (2^n-1) != 101
end
theorem bJ{n:Nat}{a b c U O:Nat->Int}(h:sV n a b c U O):jM n a b c U O=true:=GW.2 h.2
section
variable (n:Nat)
abbrev X7(a:Nat->Int)(b:Nat->Int)(c:Nat->Int)(U:Nat->Int)(O:Nat->Int):List AV:=[agg [iI 4,iI 10,Q0 n a b c U O]]
theorem Qo5(a b c U O:Nat->Int)(rt:Bool)(VU:sV n a b c U O):UQ VR 26 [.agg [i 4,i 10,sls n a b c U O],bl rt] (.branch (!rt) (.leaf (.tup [Bo.nilP,i 2])) (.branch (!jD n a b c U O) (.leaf (.tup [Bo.nilP,i 9])) (.leaf (.tup [.ro [i 4,i 10,sls n a b c U O,.lst 1 (2^n) (λz=>[i (eD n a b c U O (2^n) z)]),.lst 1 (2^n) (λz=>[i (lS n a b c U O (2^n-1) z)])],i 0])))):=by
 refine GV (L:=[]) (Ae (vV n a b c U O VU.1) (Ae (dP n a b c U O (eD n a b c U O (2^n)) (lS n a b c U O (2^n-1)) VU.1) Aa)) (Ai (Af (dQ n a b c U O VU) Ab) Ac) U1 Tryz.func26 (UW Tryz.f26) G7 (t:=let W:=(AV.ro [iI 4,iI 10,Q0 n a b c U O,lst 1 (2^n) λz=>[iI (eD n a b c U O (2^n) z)],lst 1 (2^n) λz=>[iI (lS n a b c U O (2^n-1) z)]]);(need [U2 (X7 n a b c U O)] (branch ((if jM n a b c U O=true then (0:Int) else (1:Int)) != 0) (leaf (tup [QD,iI (if jM n a b c U O=true then (0:Int) else (1:Int))])) (branch (!rt) (leaf (tup [QD,iI 2])) (need [U2 (X7 n a b c U O)] (need [U2 ([W])] (branch (!eD n a b c U O (2^n) (2^n-1) != 101) (leaf (tup [QD,iI 9])) (leaf (tup [W,iI 0]))))))))) VW ?_
 intro Q hQ;simp only [VP.sat,UD,UJ] at hQ ⊢;rw [bJ VU];refine ⟨λh=>by simp at h,λ_=>⟨λh=>⟨.tup [Bo.nilP,i 2],⟨rfl,⟨rfl,rfl⟩,Ak⟩,hQ.1 h⟩,λh=>⟨λh2=>⟨.tup [Bo.nilP,i 9],⟨rfl,⟨rfl,rfl⟩,Ak⟩,(hQ.2 h).1 h2⟩,λh2=>⟨.tup [.ro [i 4,i 10,sls n a b c U O,.lst 1 (2^n) (λz=>[i (eD n a b c U O (2^n) z)]),.lst 1 (2^n) (λz=>[i (lS n a b c U O (2^n-1) z)])],i 0],⟨rfl,⟨rfl,rfl⟩,Ak⟩,(hQ.2 h).2 h2⟩⟩⟩⟩
theorem CK(a b c U O:Nat->Int)(VU:sV n a b c U O):UQ VR 26 [.agg [i 4,i 10,sls n a b c U O],.lit true] (.branch (!true) (.leaf (.tup [Bo.nilP,i 2])) (.branch (!jD n a b c U O) (.leaf (.tup [Bo.nilP,i 9])) (.leaf (.tup [.ro [i 4,i 10,sls n a b c U O,.lst 1 (2^n) (λz=>[i (eD n a b c U O (2^n) z)]),.lst 1 (2^n) (λz=>[i (lS n a b c U O (2^n-1) z)])],i 0])))):=by
 refine GV (L:=[]) (Ae (vV n a b c U O VU.1) (Ae (dP n a b c U O (eD n a b c U O (2^n)) (lS n a b c U O (2^n-1)) VU.1) Aa)) (Ai (Af (dQ n a b c U O VU) Ab) Ac) U1 Tryz.func26 (UW Tryz.f26) G7 (t:=let W:=(AV.ro [iI 4,iI 10,Q0 n a b c U O,lst 1 (2^n) λz=>[iI (eD n a b c U O (2^n) z)],lst 1 (2^n) λz=>[iI (lS n a b c U O (2^n-1) z)]]);(need [U2 (X7 n a b c U O)] (branch ((if jM n a b c U O=true then (0:Int) else (1:Int)) != 0) (leaf (tup [QD,iI (if jM n a b c U O=true then (0:Int) else (1:Int))])) (need [U2 (X7 n a b c U O)] (need [U2 ([W])] (branch (!eD n a b c U O (2^n) (2^n-1) != 101) (leaf (tup [QD,iI 9])) (leaf (tup [W,iI 0])))))))) VW ?_
 intro Q hQ;simp only [VP.sat,UD,UJ] at hQ ⊢;rw [bJ VU]
 replace hQ:=hQ.2 rfl
 refine ⟨λh=>by simp at h,λ_=>⟨λh2=>⟨.tup [Bo.nilP,i 9],⟨rfl,⟨rfl,rfl⟩,Ak⟩,hQ.1 h2⟩,λh2=>⟨.tup [.ro [i 4,i 10,sls n a b c U O,.lst 1 (2^n) (λz=>[i (eD n a b c U O (2^n) z)]),.lst 1 (2^n) (λz=>[i (lS n a b c U O (2^n-1) z)])],i 0],⟨rfl,⟨rfl,rfl⟩,Ak⟩,hQ.2 h2⟩⟩⟩
theorem A1(a b c U O:Nat->Int)(VU:sV n a b c U O):UQ VR 26 [.agg [i 4,i 10,sls n a b c U O],.lit false] (.branch (!false) (.leaf (.tup [Bo.nilP,i 2])) (.branch (!jD n a b c U O) (.leaf (.tup [Bo.nilP,i 9])) (.leaf (.tup [.ro [i 4,i 10,sls n a b c U O,.lst 1 (2^n) (λz=>[i (eD n a b c U O (2^n) z)]),.lst 1 (2^n) (λz=>[i (lS n a b c U O (2^n-1) z)])],i 0])))):=by
 refine GV (L:=[]) (Ae (vV n a b c U O VU.1) (Ae (dP n a b c U O (eD n a b c U O (2^n)) (lS n a b c U O (2^n-1)) VU.1) Aa)) (Ai (Af (dQ n a b c U O VU) Ab) Ac) U1 Tryz.func26 (UW Tryz.f26) G7 (t:=need [U2 (X7 n a b c U O)] (branch ((if jM n a b c U O=true then (0:Int) else (1:Int)) != 0) (leaf (tup [QD,iI (if jM n a b c U O=true then (0:Int) else (1:Int))])) (leaf (tup [QD,iI 2])))) VW ?_
 intro Q hQ;simp only [VP.sat,UD,UJ] at hQ ⊢;rw [bJ VU];exact ⟨λh=>by simp at h,λ_=>⟨.tup [Bo.nilP,i 2],⟨rfl,⟨rfl,rfl⟩,Ak⟩,hQ.1 rfl⟩⟩
def MM(a b c U O:Nat->Int):DK:=λl=>match l with
 |[bt,.x (.bool rt)]=>some (.need [bt= .agg [i 4,i 10,sls n a b c U O]] (.branch (!rt) (.leaf (.tup [Bo.nilP,i 2])) (.branch (!jD n a b c U O) (.leaf (.tup [Bo.nilP,i 9])) (.leaf (.tup [.ro [i 4,i 10,sls n a b c U O,.lst 1 (2^n) (λz=>[i (eD n a b c U O (2^n) z)]),.lst 1 (2^n) (λz=>[i (lS n a b c U O (2^n-1) z)])],i 0])))))
 |[bt,.lit rt]=>some (.need [bt= .agg [i 4,i 10,sls n a b c U O]] (.branch (!rt) (.leaf (.tup [Bo.nilP,i 2])) (.branch (!jD n a b c U O) (.leaf (.tup [Bo.nilP,i 9])) (.leaf (.tup [.ro [i 4,i 10,sls n a b c U O,.lst 1 (2^n) (λz=>[i (eD n a b c U O (2^n) z)]),.lst 1 (2^n) (λz=>[i (lS n a b c U O (2^n-1) z)])],i 0])))))
 |_=>none
theorem vP(a b c U O:Nat->Int)(VU:sV n a b c U O):Sx.Enters Tryz.prog 26/\ ∀avs t,MM n a b c U O avs=some t->UQ VR 26 avs t:=by
 refine ⟨(UK Tryz.func26),?_⟩;intro avs t h;unfold MM at h;split at h
 ·cases h;intro Q hQ;have e:=hQ.1
  dsimp only [UD] at e
  subst e;exact Qo5 n a b c U O _ VU Q hQ.2
 ·cases h;intro Q hQ;have e:=hQ.1
  dsimp only [UD] at e
  subst e;rename_i rt;cases rt
  ·exact A1 n a b c U O VU Q hQ.2
  ·exact CK n a b c U O VU Q hQ.2
 ·cases h
def fG{α:Type}(f:Nat->Option α):Nat->Nat->Option α
 |_,0=>none
 |s,k+1=>match f s with
  |some r=>some r
  |none=>fG f (s+1) k
def orQ(a b c U O:Nat->Int)(g:Nat->Int->Option (List (Nat×Int)))(d:Nat)(Z:Int)(q:Nat):Option (List (Nat×Int)):=
 if max Z (U (UV (quB n a b c d) n q))>O (UV (quB n a b c d) n q) then none else
  match g (d ||| 2^UV (quB n a b c d) n q) (max Z (U (UV (quB n a b c d) n q))) with
  |some l=>some (l++[(UV (quB n a b c d) n q,max Z (U (UV (quB n a b c d) n q)))])
  |none=>none
end
def orF(n:Nat)(a b c U O:Nat->Int):Nat->Nat->Int->Option (List (Nat×Int))
 | 0,_,_=>none
 |N+1,d,Z=>if d=2^n-1 then some [] else fG (orQ n a b c U O (orF n a b c U O N) d Z) 0 (quN n a b c d)
def orS(n:Nat)(a b c U O:Nat->Int)(d:Nat)(Z:Int):Option (List (Nat×Int)):=orF n a b c U O (2^n) d Z
def orL(l:List (Nat×Int)):List Int:=l.map λp=>(p.1:Int)
def dyU:List (Nat×Int)->(Nat->Int)->Nat->Int
 |[],f=>f
 |p::t,f=>dyU t (UT p.1 p.2 f)
section
variable (n:Nat)(a b c U O:Nat->Int)
def orG(d:Nat)(Z:Int):List (Nat×Int):=(orS n a b c U O d Z).getD []
def orH(x:Value):Prop:= ∃(d:Nat) (Z:Int),x= .agg #[.int .i64 d,.int .i64 Z]/\d<2^n/\orS n a b c U O d Z=none
end
def orV:Value->Value:=λ_=> .bool true
def stK(x:Value):Prop:= ∃(d Z:Int),x= .agg #[.int .i64 d,.int .i64 Z]
theorem Wi1(l m:List Int): ∀k,UB (l++m) k=if k<l.length then UB l k else UB m (k-l.length):=by
 induction l with
 |nil=>intro k;simp
 |cons x l ih=>
  intro k;cases k with
  |zero=>simp [UB]
  |succ k=>
   show UB (l++m) k=_;rw [ih];simp only [Bj,Nat.add_lt_add_iff_right,Nat.add_sub_add_right];rfl
theorem EN: ∀{l:List Int} {k:Nat} (h:k<l.length),UB l k=l[k]
 |x::l,0,h=>rfl
 |x::l,k+1,h=>EN (l:=l) (k:=k) (by simpa using h)
theorem fF{α:Type}{f:Nat->Option α}: ∀{k s:Nat},fG f s k=none↔ ∀j,s<=j->j<s+k->f j=none
 | 0,s=>⟨λ_ j h1 h2=>VM,λ_=>rfl⟩
 |k+1,s=>by
  unfold fG;cases h:f s with
  |some r=>exact ⟨λh1=>(by cases h1),λh1=>(by rw [h1 s (Am _) VM] at h;cases h)⟩
  |none=>
   simp only;rw [fF];refine ⟨λh1 j h2 h3=>?_,λh1 j h2 h3=>h1 j VM VM⟩
   rcases (show j=s\/s+1<=j by omega) with rfl|h4
   ·exact h
   ·exact h1 j h4 VM
theorem S0{α:Type}{f:Nat->Option α}{r:α}{q:Nat}(hq:f q=some r): ∀{k s:Nat},s<=q->q<s+k->(∀j,s<=j->j<q->f j=none)->fG f s k=some r
 | 0,s,h1,h2,_=>VM
 |k+1,s,h1,h2,h3=>by
  unfold fG;rcases (show s=q\/s<q by omega) with rfl|h4
  ·rw [hq]
  ·rw [h3 s (Am _) h4];exact S0 hq h4 VM (λj h5 h6=>h3 j VM h6)
theorem II{α:Type}{f g:Nat->Option α}: ∀{k s:Nat},(∀j,s<=j->j<s+k->f j=g j)->fG f s k=fG g s k
 | 0,_,_=>rfl
 |k+1,s,h=>by
  unfold fG;rw [h s (Am _) VM,II (λj h1 h2=>h j VM VM)]
theorem AC{n:Nat}(h:n<=8):2^n<=256:=by
 have:=gD h;have hpn:((2^n:Nat):Int)=2^n:=VX;omega
theorem Xv5{n:Nat}{a b c:Nat->Int}{d q:Nat}(h8:n<=8)(hd:d<2^n)(hq:q<quN n a b c d):d<d ||| 2^UV (quB n a b c d) n q:=by
 have hs:=uV hq;have h2:=AC h8;have hb:NC d (UV (quB n a b c d) n q)=false:=by
  have:=hs.2;unfold quB at this;rw [HC] at this;have h1:=this.1;unfold quB;simpa using h1
 rw [Ws0 VM] at hb;have hle:d<=d ||| 2^UV (quB n a b c d) n q:=Nat.left_le_or
 rcases Nat.lt_or_eq_of_le hle with h|h
 ·exact h
 ·exfalso;have:(d ||| 2^UV (quB n a b c d) n q).testBit (UV (quB n a b c d) n q)=true:=by
   rw [Nat.testBit_or,Nat.testBit_two_pow_self,Bool.or_true]
  rw [←h,hb] at this;cases this
theorem eY{n:Nat}{a b c U O:Nat->Int}(h8:n<=8): ∀(N N' d:Nat) (Z:Int),d<2^n->2^n-d<=N->2^n-d<=N'->orF n a b c U O N d Z=orF n a b c U O N' d Z
 | 0,_,d,_,h1,h2,_=>VM
 |N+1,0,d,_,h1,_,h3=>VM
 |N+1,N'+1,d,Z,h1,h2,h3=>by
  simp only [orF];split
  ·rfl
  ·refine II λq _ hq=>?_
   have hq:q<quN n a b c d:=VM;have hg:=Xv5 h8 h1 hq;have hl:=Qc7 h1 (uV hq).1;unfold orQ;rw [eY h8 N N' _ _ hl VM VM]
section
variable {n:Nat}{a b c U O:Nat->Int}
theorem pA(h8:n<=8){d:Nat}(Z:Int)(hd:d<2^n):orS n a b c U O d Z=if d=2^n-1 then some [] else fG (orQ n a b c U O (orS n a b c U O) d Z) 0 (quN n a b c d):=by
 have h:orS n a b c U O d Z=orF n a b c U O (2^n+1) d Z:=eY h8 _ _ _ _ hd VM VM;rw [h];rfl
theorem Wg9(h8:n<=8)(Z:Int):orS n a b c U O (2^n-1) Z=some []:=by
 have:=AC h8;have:0<2^n:=Nat.two_pow_pos n;rw [pA h8 Z VM,if_pos rfl]
end
theorem Xi7(l:List (Nat×Int))(p:Nat×Int):orL (l++[p])=orL l++[(p.1:Int)]:=by simp [orL]
theorem Qg0: ∀(l:List (Nat×Int)) (p:Nat×Int) (f:Nat->Int),dyU (l++[p]) f=UT p.1 p.2 (dyU l f)
 |[],_,_=>rfl
 |_::t,p,f=>Qg0 t p _
theorem Qc9{n:Nat}{a b c U O:Nat->Int}: ∀(N d:Nat) (Z:Int) (l:List (Nat×Int)),orF n a b c U O N d Z=some l->l.length<=N
 | 0,_,_,_,h=>by simp [orF] at h
 |N+1,d,Z,l,h=>by
  simp only [orF] at h;split at h
  ·cases h;exact Ao _
  ·obtain ⟨q,hq⟩: ∃q,orQ n a b c U O (orF n a b c U O N) d Z q=some l:=by
    refine Classical.byContradiction λhno=>?_
    rw [fF.2 (λj _ _=>?_)] at h
    ·cases h
    ·cases hj:orQ n a b c U O (orF n a b c U O N) d Z j with
     |none=>rfl
     |some r=>
      exfalso;have: ∀(f:Nat->Option (List (Nat×Int))) (k s:Nat) (r:List (Nat×Int)),fG f s k=some r-> ∃q,f q=some r:=by
       intro f k
       induction k with
       |zero=>intro s r h;cases h
       |succ k ih=>
        intro s r h;unfold fG at h;cases hf:f s with
        |some r'=>rw [hf] at h;cases h;exact ⟨s,hf⟩
        |none=>rw [hf] at h;exact ih _ _ h
      exact hno (this _ _ _ _ h)
   unfold orQ at hq;split at hq
   ·cases hq
   ·split at hq
    ·rename_i l' hl';cases hq;have:=Qc9 N _ _ _ hl';rw [Be];simp;omega
    ·cases hq
theorem Qc8(n:Nat)(a b c U O:Nat->Int)(d:Nat)(Z:Int):(orG n a b c U O d Z).length<=2^n:=by
 unfold orG;cases h:orS n a b c U O d Z with
 |none=>exact Ao _
 |some l=>exact Qc9 _ _ _ _ h
theorem OA(d Z:Int):FG Tryz.prog 329 stK (.agg #[.int .i64 d,.int .i64 Z]) (.bool false):=by
 refine ⟨⟨332,4,(match Tryz.prog.underlying 332 with|some (.struct fs)=>fs|_=>#[]),VW,VW,?_,?_,?_⟩,by simp [Instr.sameBits]⟩
 ·intro b' w;kernel_rfl
 ·rintro k' ⟨d',day',rfl⟩ w;refine ⟨d==d'&&(Z==day'&&true),z6 (P:=Tryz.prog) (e:=PJ w w) Op.maxDepth 332 (.agg [i d,i Z]) (.agg [i d',i day']) _ _ _ VW (Rep.aggL (U5.cons (.x _) (U5.one (.x _)))) (Rep.aggL (U5.cons (.x _) (U5.one (.x _)))),λh=>?_⟩
  simp only [Bool.and_true,HC,beq_iff_eq] at h;obtain ⟨rfl,rfl⟩:=h;rfl
 ·intro w;kernel_rfl
theorem Wh0{n:Nat}{a b c U O:Nat->Int}{x:Value}(h:orH n a b c U O x):stK x:=by
 obtain ⟨d,Z,h,_⟩:=h;exact ⟨_,_,h⟩
section
variable (n:Nat)(a b c U O:Nat->Int)(ea la:AV)
def OM(d:Nat)(Z:Int)(ord:List Int)(dy:Nat->Int)(oa:Option Addr)(ol oc:Nat)(da:Option Addr)(dl dc:Nat):H5:=[(3,.cells 61 [.row 900]),(3,.cells 61 [.x (.slice oa ol oc)]),(900,.row 3 1 ord.length (λj=>[i (UB ord j)])),(5,.memo (orH n a b c U O) orV),(7,.row 3 1 n (λj=>[i (dy j)])),(0,.keep 84 [.ro [i 4,i 10,sls n a b c U O,ea,la]]),(1,.keep 329 [.mp 5]),(2,.keep 330 [.fn (.func 222) [] [.ptr 0 0,.ptr 1 0,.ptr 2 0,.ptr 3 0,.ptr 4 0]]),(4,.cells 61 [.row 7]),(4,.cells 61 [.x (.slice da dl dc)])]
def OT_(d:Nat)(Z:Int)(ord:List Int)(dy:Nat->Int)(oa:Option Addr)(ol oc:Nat)(da:Option Addr)(dl dc:Nat)(l:List (Nat×Int)):St:={σ:=[],m:=[(3,.cells 61 [.row 900]),(900,.row 3 1 (ord++orL l).length (λj=>[i (UB (ord++orL l) j)])),(5,.memo (orH n a b c U O) orV),(7,.row 3 1 n (λj=>[i ((dyU l dy) j)])),(0,.keep 84 [.ro [i 4,i 10,sls n a b c U O,ea,la]]),(1,.keep 329 [.mp 5]),(2,.keep 330 [.fn (.func 222) [] [.ptr 0 0,.ptr 1 0,.ptr 2 0,.ptr 3 0,.ptr 4 0]]),(4,.cells 61 [.row 7]),(4,.cells 61 [.x (.slice da dl dc)])],nx:=901,sv:=[[.ptr 0 0,.ptr 1 0,.ptr 2 0,.ptr 3 0,.ptr 4 0]] }
def OF_(d:Nat)(Z:Int)(ord:List Int)(dy:Nat->Int)(oa:Option Addr)(ol oc:Nat)(da:Option Addr)(dl dc:Nat):St:={σ:=[],m:=[(3,.cells 61 [.row 900]),(3,.cells 61 [.x (.slice oa ol oc)]),(900,.row 3 1 ord.length (λj=>[i (UB ord j)])),(5,.memo (orH n a b c U O) orV),(7,.row 3 1 n (λj=>[i (dy j)])),(0,.keep 84 [.ro [i 4,i 10,sls n a b c U O,ea,la]]),(1,.keep 329 [.mp 5]),(2,.keep 330 [.fn (.func 222) [] [.ptr 0 0,.ptr 1 0,.ptr 2 0,.ptr 3 0,.ptr 4 0]]),(4,.cells 61 [.row 7]),(4,.cells 61 [.x (.slice da dl dc)])],nx:=901,sv:=[[.ptr 0 0,.ptr 1 0,.ptr 2 0,.ptr 3 0,.ptr 4 0]] }
end
def O8:List (Nat×Nat)->Bool
 |[]=>true
 |(x,y)::t=>match Nat.beq x y with
  |true=>O8 t
  |false=>false
def Xk1:GS->Bool
 | .aka _ _ _ _ _=>true
 |_=>false
def pF:H5->H5
 |[]=>[]
 |(k,r)::t=>match Xk1 r with
  |true=>pF t
  |false=>(k,r)::pF t
def xS(k:Nat)(g:Nat->List AV):List Int:=(List.range k).map (col 0 g)
def nO(n:Nat)(a b c U O:Nat->Int)(N:Nat):D6:=λavs m nx sv=>match avs with
 |[.agg [.x (.int .i64 d),.x (.int .i64 Z)],.ptr k W,.ptr g z1,.ptr f z2,.ptr o z3,.ptr dd z4]=>match DJ m k,DJ m g,DJ m f,DJ m o,DJ m dd with
  |some (.keep Tk [.ro [c1,c2,sl,ea,la]]),some (.keep Tg [.mp mg]),some (.keep Tf [.fn (.func fg) [] [.ptr k' y0,.ptr g' y1,.ptr f' y2,.ptr o' y3,.ptr d' y4]]),some (.cells To [.row q]),some (.cells Td [.row r])=>match DJ m mg,DJ m q,DJ m r with
   |some (.memo h ff),some (.row T1 s1 k1 g1),some (.row T2 s2 k2 g2)=>
    match O8 [(W,0),(z1,0),(z2,0),(z3,0),(z4,0),(y0,0),(y1,0),(y2,0),(y3,0),(y4,0),(Tk,84),(Tg,329),(Tf,330),(To,61),(Td,61),(fg,222),(k,k'),(g,g'),(f,f'),(o,o'),(dd,d'),(T1,3),(s1,1),(T2,3),(s2,1)]&&(!Nat.beq q r&& !Nat.beq o dd) with
    |true=>some (.needT [c1=i 4,c2=i 10,sl=sls n a b c U O,∀x,h x->orH n a b c U O x/\ff x=orV x,UH 1 k1 g1,UH 1 k2 g2,k2=n,0<=d/\d<2^n,2^n-d.toNat<=N,0<=Z/\Z<=100,k1<=1000]
      (.branch (orS n a b c U O d.toNat Z).isSome
       (.leaf (.lit true,(nx,.row 3 1 (xS k1 g1++orL (orG n a b c U O d.toNat Z)).length (λj=>[i (UB (xS k1 g1++orL (orG n a b c U O d.toNat Z)) j)]))::qN (qN (qN (jU (pF m) q) o (.cells 61 [.row nx])) r (.row 3 1 n (λj=>[i (dyU (orG n a b c U O d.toNat Z) (col 0 g2) j)]))) mg (.memo (orH n a b c U O) orV),nx+1,sv))
       (.leaf (.lit false,qN (qN (qN (pF m) q (.row 3 1 k1 g1)) r (.row 3 1 n g2)) mg (.memo (orH n a b c U O) orV),nx,sv))))
    |false=>none
   |_,_,_=>none
  |_,_,_,_,_=>none
 |_=>none
theorem Jm2{l:List Int}{x:Int}{j:Nat}(h:j<l.length+1):GI l.length (λj=>[i (UB l j)]) (U8 1 [i x]) j=[i (UB (l++[x]) j)]:=by
 rw [Wi1];show HD (decide (j<l.length)) _ (U8 1 [i x] (j-l.length))=_;rw [show j-l.length=0 by omega]
 by_cases hj:j<l.length
 ·rw [decide_eq_true hj,if_pos hj];rfl
 ·rw [decide_eq_false hj,if_neg hj];rfl
theorem oI(n:Nat)(f:Nat->Int):UH 1 n (λj=>[i (f j)]):=λj _=>rfl
theorem TO(l:List Int):xS l.length (λj=>[i (UB l j)])=l:=by
 unfold xS;apply List.ext_getElem?;intro j;rcases An j l.length with hj|hj
 ·rw [Bn,List.getElem?_range hj,D4 VM];simp only [Bt,HH];unfold col;show UB l j=l[j];exact EN VM
 ·rw [Br (by simp;omega),Br VM]
abbrev QN:AV:=AV.fn (Fn.func 222) [] [ptr 0 0,ptr 1 0,ptr 2 0,ptr 3 0,ptr 4 0]
section
variable (n:Nat)(a b c U O:Nat->Int)(ea la:AV)(d:Nat)(Z:Int)(ord:List Int)(dy:Nat->Int)(oa:Option Addr)(ol oc:Nat)(da:Option Addr)(dl dc:Nat)
def Xe6(N:Nat):St:={σ:=[agg [iI (d:Int),iI Z],ptr 0 0,ptr 1 0,ptr 2 0,ptr 3 0,ptr 4 0,ptr 901 0,ptr 902 0]++HM 14 [AV.fn (Fn.func 108) [] [AV.ro [QQ n a b c U O ea la],AV.ro [iI (d:Int)]]]++HM 33 [],m:=[(902,GS.cells 4 [AV.x (WO)]),(901,GS.cells 332 [iI (d:Int),iI Z]),(3,GS.cells 61 [AV.row 900]),(3,GS.cells 61 [AV.x (.slice oa ol oc)]),(900,GS.row 3 1 (List.length ord) λj=>[iI (UB ord j)]),(5,GS.memo (λx=>orH n a b c U O x) λa=>Value.bool true),(7,GS.row 3 1 n λj=>[iI (dy j)]),(0,GS.keep 84 [QQ n a b c U O ea la]),(1,GS.keep 329 [AV.mp 5]),(2,GS.keep 330 [QN]),(4,GS.cells 61 [AV.row 7]),(4,GS.cells 61 [AV.x (.slice da dl dc)])],nx:=915,sv:=[[ptr 0 0,ptr 1 0,ptr 2 0,ptr 3 0,ptr 4 0]] }
noncomputable def Jv6:Code:=MX (VV (U9 Tryz.f222) 0)
noncomputable def Jt5:Code:=MW (VV (U9 Tryz.f222) 0)
def Wl9(N:Nat)(k:Nat):St:={σ:=H4 [(8,.top),(9,.top),(10,.top)] (Xe6 n a b c U O ea la d Z ord dy oa ol oc da dl dc N).σ,m:=[(902,.cells 4 [.x (.bool false)]),(901,.cells 332 [i d,i Z]),(3,.cells 61 [.row 900]),(3,.cells 61 [.x (.slice oa ol oc)]),(900,.row 3 1 ord.length (λj=>[i (UB ord j)])),(5,.memo (orH n a b c U O) orV),(7,.row 3 1 n (λj=>[i (dy j)])),(0,.keep 84 [.ro [i 4,i 10,sls n a b c U O,ea,la]]),(1,.keep 329 [.mp 5]),(2,.keep 330 [.fn (.func 222) [] [.ptr 0 0,.ptr 1 0,.ptr 2 0,.ptr 3 0,.ptr 4 0]]),(4,.cells 61 [.row 7]),(4,.cells 61 [.x (.slice da dl dc)])],nx:=920,sv:=[[.ptr 0 0,.ptr 1 0,.ptr 2 0,.ptr 3 0,.ptr 4 0]] }
def vY(N:Nat)(k:Nat):G9->Option St
 | .normal=>some {σ:=H4 [(8,.top),(9,.top),(10,.top)] (Xe6 n a b c U O ea la d Z ord dy oa ol oc da dl dc N).σ,m:=[(902,.cells 4 [.x (.bool false)]),(901,.cells 332 [i d,i Z]),(3,.cells 61 [.row 900]),(3,.cells 61 [.x (.slice oa ol oc)]),(900,.row 3 1 ord.length (λj=>[i (UB ord j)])),(5,.memo (orH n a b c U O) orV),(7,.row 3 1 n (λj=>[i (dy j)])),(0,.keep 84 [.ro [i 4,i 10,sls n a b c U O,ea,la]]),(1,.keep 329 [.mp 5]),(2,.keep 330 [.fn (.func 222) [] [.ptr 0 0,.ptr 1 0,.ptr 2 0,.ptr 3 0,.ptr 4 0]]),(4,.cells 61 [.row 7]),(4,.cells 61 [.x (.slice da dl dc)])],nx:=920,sv:=[[.ptr 0 0,.ptr 1 0,.ptr 2 0,.ptr 3 0,.ptr 4 0]] }
 | .ret=>some {σ:=H4 [(8,.top),(9,.top),(10,.top)] (Xe6 n a b c U O ea la d Z ord dy oa ol oc da dl dc N).σ,m:=[(902,.cells 4 [.lit true]),(901,.cells 332 [i d,i Z]),(3,.cells 61 [.row 900]),(900,.row 3 1 (ord++orL (orG n a b c U O d Z)).length (λj=>[i (UB (ord++orL (orG n a b c U O d Z)) j)])),(5,.memo (orH n a b c U O) orV),(7,.row 3 1 n (λj=>[i ((dyU (orG n a b c U O d Z) dy) j)])),(0,.keep 84 [.ro [i 4,i 10,sls n a b c U O,ea,la]]),(1,.keep 329 [.mp 5]),(2,.keep 330 [.fn (.func 222) [] [.ptr 0 0,.ptr 1 0,.ptr 2 0,.ptr 3 0,.ptr 4 0]]),(4,.cells 61 [.row 7]),(4,.cells 61 [.x (.slice da dl dc)])],nx:=920,sv:=[[.ptr 0 0,.ptr 1 0,.ptr 2 0,.ptr 3 0,.ptr 4 0]] }
 |_=>none
def Zr3(N:Nat):CT:= .branch (orS n a b c U O d Z).isSome (.leaf (.ret,(vY n a b c U O ea la d Z ord dy oa ol oc da dl dc N 0 .ret).getD (Xe6 n a b c U O ea la d Z ord dy oa ol oc da dl dc N))) (.leaf (.normal,(vY n a b c U O ea la d Z ord dy oa ol oc da dl dc N 0 .normal).getD (Xe6 n a b c U O ea la d Z ord dy oa ol oc da dl dc N)))
def Xz9(N:Nat):UL:=GM [(.cell 3 0,900,3,1)] (HK (Wl9 n a b c U O ea la d Z ord dy oa ol oc da dl dc N (0)) (Zr3 n a b c U O ea la d Z ord dy oa ol oc da dl dc N))
end
abbrev ZW:Prop:=AV.row 900=AV.row 900
abbrev J7:Prop:=AV.row 7=AV.row 7
abbrev JL:Prop:=AV.mp 5=AV.mp 5
abbrev JX(ord:List Int):Prop:=List.length ord=List.length ord
abbrev KV:Prop:=ptr 901 0=ptr 901 0
abbrev KW:Prop:=ptr 902 0=ptr 902 0
theorem Jf0(n:Nat)(a b c U O:Nat->Int)(ea la:AV)(d:Nat)(Z:Int)(ord:List Int)(dy:Nat->Int)(oa:Option Addr)(ol oc:Nat)(da:Option Addr)(dl dc:Nat)(N:Nat)(VU:sV n a b c U O)(UI:d<2^n/\d≠2^n-1)(HU:2^n-d<=N+1)(F5:0<=Z/\Z<=100)(BU:ord.length<=1000)(zT:GE VR 222 (nO n a b c U O N)):HN VR (.rangeFunc (rfF (VV (U9 Tryz.f222) 0)) (zQ (VV (U9 Tryz.f222) 0)) Jv6 Jt5) (Xz9 n a b c U O ea la d Z ord dy oa ol oc da dl dc N):=by
 refine LH [(.cell 3 0,900,3,1)] (X:={R:=[(79,AL)],H:=[(222,(nO n a b c U O N))] }) (L:=[]) (Ae F1 (Ae LI Aa)) (Ai (Af NX Ab) (Ag zT Ac)) U1 U6 (V:=Nat) (Wl9 n a b c U O ea la d Z ord dy oa ol oc da dl dc N) (λk=>k<=(quN n a b c d)/\ ∀j,j<k->orQ n a b c U O (orS n a b c U O) d Z j=none) (λk=>k) (vY n a b c U O ea la d Z ord dy oa ol oc da dl dc N) (x0:=0) ⟨Ao _,λj h=>absurd h (Aq _)⟩ rfl ?_ ?_ ?_ ?_ (g:=108) (caps:=[.ro [.ro [i 4,i 10,sls n a b c U O,ea,la]],.ro [i d]]) VW VW (vQ ea la n a b c U O d VU (qI VU.1 UI.1)) (λ_=>rfl) ?_
 ·rintro k;kernel_rfl
 ·rintro k y E h;unfold vY at h;split at h
  ·cases h;kernel_rfl
  ·cases h;kernel_rfl
  ·cases h
 ·rintro k;rfl
 ·rintro k y E h;unfold vY at h;split at h
  ·cases h;rfl
  ·cases h;rfl
  ·cases h
 ·rintro Q hQ k hx;refine ⟨λhlt=>⟨(k+1),rfl,?_⟩,λPI=>?_⟩
  ·(with_reducible refine DL (t:=let z5:=(quB n a b c (d:Int));let z3:=(UV z5 n k);let z6:=(U2 (AV.fn (Fn.func 108) [] [AV.ro [QQ n a b c U O ea la],AV.ro [iI (d:Int)]]));let z10:=(xS (List.length ord) λj=>[i (UB ord j)]);let z1:=(BitVec.toNat (BitVec.ofInt 64 (d:Int) ||| BitVec.ofInt 64 ((1:Int)*2^UV z5 n k)));let z8:=(IntKind.wrap IntKind.i64 (z1:Int));let z4:=(orG n a b c U O (Int.toNat z8) (max Z (U z3)));let z9:=(orG n a b c U O d Z);let z7:=orH n a b c U O;let W:=(need [UM z3 n] (need [UV z5 n k<n] (need [U2 (agg [iI (d:Int),iI Z]),QS,Z4,ZC,ZH,W7,KV,KW,z6,U2 (AV.lit true),U2 (d:Int),Z=Z,ZW,List.length (z10++orL z4)+1=List.length (ord++orL z9),∀(i:Nat),i<List.length (ord++orL z9)->GI (List.length ((xS (List.length ord) λj=>[iI (UB ord j)])++orL z4)) (λj=>[iI (UB ((xS (List.length ord) λj=>[iI (UB ord j)])++orL z4) j)]) (U8 1 [iI (z3:Int)]) i=[iI (UB (ord++orL z9) i)],∀(k:Value),z7 k->z7 k/\orV k=orV k,n=n,∀(i:Nat),i<n->HD (decide (i=UV z5 n k)) [iI (max Z (U z3))] [iI (dyU z4 dy i)]=[iI (dyU z9 dy i)],ZO n a b c U O ea la,JL,QN=QN,J7,U2 (AV.x (.slice da dl dc)),QS,Z4,ZC,ZH,W7] (leaf G9.ret))));let z2:=(need [U2 (agg [iI (d:Int),iI Z]),QS,Z4,ZC,ZH,W7,KV,KW,z6,false=false,U2 (d:Int),Z=Z,ZW,U2 (AV.x (.slice oa ol oc)),JX ord,∀(i:Nat),i<List.length ord->[iI (UB ord i)]=[iI (UB ord i)],∀(k:Value),z7 k->z7 k/\orV k=orV k,n=n,∀(i:Nat),i<n->[iI (dy i)]=[iI (dy i)],ZO n a b c U O ea la,JL,QN=QN,J7,U2 (AV.x (.slice da dl dc)),QS,Z4,ZC,ZH,W7] (leaf G9.normal));(branch (decide (max Z (U z3)>O z3)) z2 (need [(0:Int)<=(z3:Int)/\(z3:Int)<=64,VO ((1:Int)*2^UV z5 n k)] (need [U2 (iI 4),U2 (iI 10),W5 n a b c U O,∀(x:Value),z7 x->z7 x/\orV x=orV x,UH 1 (List.length ord) λj=>[i (UB ord j)],UH 1 n λj=>[i (dy j)],n=n,(0:Int)<=IntKind.wrap IntKind.i64 (z1:Int)/\IntKind.wrap IntKind.i64 (z1:Int)<2^n,2^n-Int.toNat z8<=N,(0:Int)<=max Z (U z3)/\max Z (U z3)<=100,List.length ord<=1000] (branch (Option.isSome (orS n a b c U O (Int.toNat z8) (max Z (U z3)))) (need [(List.length (z10++orL z4)+1)*8<=140737488355328,RZ 1 (U8 1 [iI (z3:Int)])] (VP.may True W (VP.may True W W))) z2))))) VW ?_)
   simp only [Zr3,vY,VP.sat,GX] at hQ;obtain ⟨x1,x2⟩:=hx;have h8:=VU.1;have hd:=UI.1;have hd2:=qI h8 hd;have hpn:((2^n:Nat):Int)=2^n:=VX;have h256:=AC h8;have hs:=uV hlt;have hor:=Wg7 h8 hd hs.1;have hol:=Qc7 hd hs.1;have hgt:=Xv5 h8 hd hlt;have hsv:=Qb6 VU hs.1;have h2s:(1:Int)<=2^UV (quB n a b c d) n k/\(2:Int)^UV (quB n a b c d) n k<=256:=gD VM;have qA:orS n a b c U O d Z=fG (orQ n a b c U O (orS n a b c U O) d Z) 0 (quN n a b c d):=by
    rw [pA h8 Z hd,if_neg UI.2]
   simp only [VP.sat,UD,UJ,hor,DP,HB,TO]
   have Qs1:((d ||| 2^UV (quB n a b c d) n k:Nat):Int)<2^n:=by
    have h:((d ||| 2^UV (quB n a b c d) n k:Nat):Int)<((2^n:Nat):Int):=Int.ofNat_lt.2 hol
    rwa [hpn] at h
   have Xw3:orQ n a b c U O (orS n a b c U O) d Z k=none-> ∀j,j<k+1->orQ n a b c U O (orS n a b c U O) d Z j=none:=by
    intro h1 j h2;rcases (show j=k\/j<k by omega) with rfl|h3
    ·exact h1
    ·exact x2 j h3
   have hQe:orQ n a b c U O (orS n a b c U O) d Z k=(if max Z (U (UV (quB n a b c d) n k))>O (UV (quB n a b c d) n k) then none else match orS n a b c U O (d ||| 2^UV (quB n a b c d) n k) (max Z (U (UV (quB n a b c d) n k))) with
     |some l=>some (l++[(UV (quB n a b c d) n k,max Z (U (UV (quB n a b c d) n k)))])
     |none=>none):=rfl
   have hO: ¬max Z (U (UV (quB n a b c d) n k))>O (UV (quB n a b c d) n k)->(orS n a b c U O (d ||| 2^UV (quB n a b c d) n k) (max Z (U (UV (quB n a b c d) n k)))).isSome=true->
     (orS n a b c U O d Z).isSome=true/\orG n a b c U O d Z=orG n a b c U O (d ||| 2^UV (quB n a b c d) n k) (max Z (U (UV (quB n a b c d) n k)))++[(UV (quB n a b c d) n k,max Z (U (UV (quB n a b c d) n k)))]:=by
    intro h1 h2;obtain ⟨l,hl⟩:=Option.isSome_iff_exists.1 h2;rw [if_neg h1,hl] at hQe;have h3:orS n a b c U O d Z=some (l++[(UV (quB n a b c d) n k,max Z (U (UV (quB n a b c d) n k)))]):=by
     rw [qA];exact S0 (q:=k) hQe (Ao _) VM (λj _ h4=>x2 j h4)
    unfold orG;rw [h3,hl];exact ⟨rfl,rfl⟩
   have hk1:k+1<=quN n a b c d:=hlt;have hc1: ∀x:Int,∀(j:Nat),j<1-> ∀y,y∈U8 1 [iI x] j->AV.one y=true:=λx j _ y hy=>FS hy (by simp [AV.one,Value.oneCell'])
   have hGl:=Qc8 n a b c U O (d ||| 2^UV (quB n a b c d) n k) (max Z (U (UV (quB n a b c d) n k)))
   have hoL: ∀l:List (Nat×Int),(orL l).length=l.length:=λl=>by simp [orL]
   refine ⟨λh=>?_,λh=>?_⟩
   ·have hno:orQ n a b c U O (orS n a b c U O) d Z k=none:=by
     rw [hQe,if_pos h]
    exact ⟨⟨λ_ _=>trivial,λ_ h=>h,λ_ _=>trivial⟩,hk1,Xw3 hno⟩
   ·refine ⟨⟨⟨VM,VM⟩,by simp only [VO,Int.one_mul];omega⟩,⟨λ_ h=>h,oI _ _,oI _ _,⟨VM,Qs1⟩,VM,⟨VM,VM⟩,BU⟩,λh2=>?_,λh2=>?_⟩
    ·obtain ⟨g1,g2⟩:=hO VM h2;rw [g2];have hln:(ord++orL (orG n a b c U O (d ||| 2^UV (quB n a b c d) n k) (max Z (U (UV (quB n a b c d) n k))))).length<=2000:=by
      rw [Be,hoL];omega
     have hap:ord++orL (orG n a b c U O (d ||| 2^UV (quB n a b c d) n k) (max Z (U (UV (quB n a b c d) n k)))++[(UV (quB n a b c d) n k,max Z (U (UV (quB n a b c d) n k)))])=(ord++orL (orG n a b c U O (d ||| 2^UV (quB n a b c d) n k) (max Z (U (UV (quB n a b c d) n k)))))++[((UV (quB n a b c d) n k:Nat):Int)]:=by
      rw [Xi7,List.append_assoc]
     have hdy:dyU (orG n a b c U O (d ||| 2^UV (quB n a b c d) n k) (max Z (U (UV (quB n a b c d) n k)))++[(UV (quB n a b c d) n k,max Z (U (UV (quB n a b c d) n k)))]) dy=UT (UV (quB n a b c d) n k) (max Z (U (UV (quB n a b c d) n k))) (dyU (orG n a b c U O (d ||| 2^UV (quB n a b c d) n k) (max Z (U (UV (quB n a b c d) n k)))) dy):=Qg0 _ _ _
     rw [hap,hdy];refine ⟨⟨VM,hc1 _⟩,?_⟩;have hin:(0<=((UV (quB n a b c d) n k:Nat):Int)/\((UV (quB n a b c d) n k:Nat):Int)<n):=⟨VM,by have:=hs.1;omega⟩
     have hrw: ∀j,j<((ord++orL (orG n a b c U O (d ||| 2^UV (quB n a b c d) n k) (max Z (U (UV (quB n a b c d) n k)))))++[((UV (quB n a b c d) n k:Nat):Int)]).length->j<(ord++orL (orG n a b c U O (d ||| 2^UV (quB n a b c d) n k) (max Z (U (UV (quB n a b c d) n k))))).length+1:=λj hj=>by
      rw [Be] at hj;simpa using hj
     (with_reducible repeat' first|apply Al|intro _)
     all_goals first|exact Ak|exact hin.1|exact hin.2|exact hs.1|(rename_i E hE;cases hE;exact hQ.1 g1)|rfl|exact Jm2 (hrw _ (by assumption))|exact uZ|(rw [Be (bs:=[_])];rfl)|assumption
    ·have hno:orQ n a b c U O (orS n a b c U O) d Z k=none:=by
      rw [hQe,if_neg VM];cases ho:orS n a b c U O (d ||| 2^UV (quB n a b c d) n k) (max Z (U (UV (quB n a b c d) n k))) with
      |none=>rfl
      |some l=>rw [ho] at h2;cases h2
     exact ⟨⟨λ_ _=>trivial,λ_ h=>h,λ_ _=>trivial⟩,hk1,Xw3 hno⟩
  ·have hk:k=quN n a b c d:=VM;subst hk;simp only [Zr3,vY,VP.sat,GX] at hQ;refine hQ.2 ?_;rw [pA VU.1 Z UI.1,if_neg UI.2,fF.2 (λj _ hj=>hx.2 j VM)]
   rfl
theorem EM{x y:Nat}{t:List (Nat×Nat)}:O8 ((x,y)::t)=true↔x=y/\O8 t=true:=by
 show (match Nat.beq x y with|true=>O8 t|false=>false)=true↔_
 cases h:Nat.beq x y with
 |true=>simp [H2 h]
 |false=>
  simp only [Bool.false_eq_true,false_iff,not_and];intro he;rw [he,Nat.beq_refl] at h;cases h
theorem EP{m:H5}{p:Nat×GS}(h:p∈pF m):p∈m/\Xk1 p.2=false:=by
 induction m with
 |nil=>cases h
 |cons q t ih=>
  obtain ⟨k,r⟩:=q;unfold pF at h;split at h
  ·exact ⟨HW _ (ih h).1,(ih h).2⟩
  ·rename_i hb;rcases GQ.1 h with rfl|h
   ·exact ⟨GJ,hb⟩
   ·exact ⟨HW _ (ih h).1,(ih h).2⟩
theorem L6{m:H5}{id:Nat}{p:Nat×GS}(h:p∈jU m id):p∈m/\p.1≠id:=by
 induction m with
 |nil=>cases h
 |cons q t ih=>
  obtain ⟨k,r⟩:=q;unfold jU at h;split at h
  ·exact ⟨HW _ (ih h).1,(ih h).2⟩
  ·rename_i hb;rcases GQ.1 h with rfl|h
   ·refine ⟨GJ,?_⟩;rintro rfl;simp at hb
   ·exact ⟨HW _ (ih h).1,(ih h).2⟩
theorem Qn8{e:UN}{w:World}{id o n:Nat}{f:Nat->List AV}(h:Jr2 e w id o 3 1 n f)(hr:UH 1 n f):w.ownsRow 0 3 1 (e.val id) n ((xS n f).map (Value.int .i64)):=by
 obtain ⟨h2,hf,xs,h3,h4⟩:=h;have hx:xs=(xS n f).map (Value.int .i64):=by
  apply List.ext_getElem?;intro j;unfold xS;have hl:xs.length=n*1:=h3.1;rcases An j n with hj|hj
  ·have hx:xs[j]? =some xs[j]:=D4 VM;have e1:(f j)[0]? =some (iI (col 0 f j)):=by
    rw [hr j hj];rfl
   have:=h4 j 0 _ xs[j] hj e1 (by rw [show j*1+0=j by omega];exact hx)
   rw [hx,this.x_inv];simp [hj]
  ·rw [Br VM,Br (by simp;omega)]
 subst hx;exact h3
theorem qO{e:UN}{w:World}{id n:Nat}{f:Nat->List AV}(h:GK e w id (.row 3 1 n f))(hr:UH 1 n f):w.ownsRow 0 3 1 (e.val id) n ((xS n f).map (Value.int .i64)):=Qn8 (o:=id) h.2 hr
theorem Qc6(n:Nat)(f:Nat->Int):xS n (λj=>[i (f j)])=(List.range n).map f:=rfl
theorem xX{e:UN}{w:World}{id n:Nat}{f:Nat->Int}{ov:Value}{l:List Int}(hl:e.live id)(hv:e.val id=ov)(hob: ∀x,ov.ownBlock=some x->e.own x=some id)(HZ:l.length=n)(hf: ∀j,j<n->l[j]? =some (f j))(ho:w.ownsRow 0 3 1 ov n (l.map (Value.int .i64))):GK e w id (.row 3 1 n (λj=>[i (f j)])):=by
 subst hv;refine ⟨hl,hob,λi O=>⟨rfl,λa ha=>by rw [B6.1 ha];exact .x _⟩,_,ho,λi j a v O ha hv=>?_⟩
 cases j with
 |zero=>
  simp only [List.getElem?_cons_zero,HH] at ha;subst ha;rw [show i*1+0=i by omega,Bn,hf i O] at hv
  simp only [Bt,HH] at hv;rw [←hv];exact .x _
 |succ j=>simp at ha
theorem Qd2{l:List Int}{j:Nat}(h:j<l.length):l[j]? =some (UB l j):=by
 rw [EN h,D4 h]
theorem CJ{n:Nat}{f:Nat->Int}{j:Nat}(h:j<n):((List.range n).map f)[j]? =some (f j):=by
 rw [Bn,List.getElem?_range h];rfl
abbrev LW(b:Nat):Value:= .pointer (some ⟨b,0,none⟩)
abbrev Zl1(bk bg bf bo bd:Nat):Value:= .func (.func 222) #[] #[LW bk,LW bg,LW bf,LW bo,LW bd]
def Ql6(n:Nat)(a b c U O:Nat->Int)(N:Nat):Prop:= ∀(ea la:AV) (d:Nat) (Z:Int) (ord:List Int) (dy:Nat->Int) (oa:Option Addr) (ol oc:Nat) (da:Option Addr) (dl dc:Nat),d<2^n->2^n-d<=N->(0<=Z/\Z<=100)->ord.length<=1000->
 Xd8 VR 222 [.agg [i d,i Z],.ptr 0 0,.ptr 1 0,.ptr 2 0,.ptr 3 0,.ptr 4 0] (OM n a b c U O ea la d Z ord dy oa ol oc da dl dc) 901 [[.ptr 0 0,.ptr 1 0,.ptr 2 0,.ptr 3 0,.ptr 4 0]] (OT_ n a b c U O ea la d Z ord dy oa ol oc da dl dc (orG n a b c U O d Z)) (OF_ n a b c U O ea la d Z ord dy oa ol oc da dl dc) (orS n a b c U O d Z).isSome
theorem Qb8{w:World}{ov:Value}{n:Nat}{xs:List Value}(h:w.ownsRow 0 3 1 ov n xs){b:Nat}(hb:ov.ownBlock=some b):b<w.heap.size:=(h.lt b hb).2
theorem Wg6{n:Nat}{a b c U O:Nat->Int}{N:Nat}(hs:Ql6 n a b c U O N){d:Nat}{Z:Int}{ord:List Int}{dy:Nat->Int}(h1:d<2^n)(h2:2^n-d<=N)(h3:0<=Z/\Z<=100)(h4:ord.length<=1000)
  {w:World}{bk bg bf bo bd bm:Nat}{rb dv ov:Value}{ea la:AV}{R:UN}{es:Array MapEntry}{cn:Nat}(hgl:D5 R w)
  (hk:w.heap[bk]? =some (.cells #[rb] 84 (0,0)))(hg:w.heap[bg]? =some (.cells #[.map (some bm)] 329 (0,0)))(hf:w.heap[bf]? =some (.cells #[Zl1 bk bg bf bo bd] 330 (0,0)))(hdb:w.heap[bd]? =some (.cells #[dv] 61 (0,0)))
  (ho:w.heap[bo]? =some (.cells #[ov] 61 (0,0)))(hm:w.heap[bm]? =some (.map es cn))(hes: ∀x∈es.toList,orH n a b c U O x.key/\x.val=orV x.key)
  (I7:w.ownsRow 0 3 1 ov ord.length (ord.map (Value.int .i64)))(Xw4:w.ownsRow 0 3 1 dv n (((List.range n).map dy).map (Value.int .i64)))(hov: ∃p q r,ov= .slice p q r)(hdv: ∃p q r,dv= .slice p q r)
  (hobm:bo≠bm)(hobd:bo≠bd)(hmbd:bm≠bd)(hoo: ∀x,ov.ownBlock=some x->x≠bo/\x≠bm/\x≠bd/\dv.ownBlock≠some x)(hdo: ∀x,dv.ownBlock=some x->x≠bo/\x≠bm/\x≠bd)
  (hR:Rep R w (.ro [i 4,i 10,sls n a b c U O,ea,la]) rb)(hro: ∀x,R.ro x->x<w.heap.size/\x≠bo/\x≠bm/\x≠bd/\ov.ownBlock≠some x/\dv.ownBlock≠some x)(rk:R.ro bk)(rg:R.ro bg)(rf:R.ro bf):
  Calls Tryz.prog 222 #[.agg #[.int .i64 d,.int .i64 Z],LW bk,LW bg,LW bf,LW bo,LW bd] w λen w1=>en= .returned (.bool (orS n a b c U O d Z).isSome)/\w.heap.size<=w1.heap.size/\w1.os=w.os/\w1.tape=w.tape/\w1.output=w.output/\
   (∀x,x<w.heap.size->x≠bo->x≠bm->ov.ownBlock≠some x->dv.ownBlock≠some x->w1.heap[x]? =w.heap[x]?)/\(∃(es':Array MapEntry) (c':Nat),w1.heap[bm]? =some (.map es' c')/\ ∀x∈es'.toList,orH n a b c U O x.key/\x.val=orV x.key)/\
   ((orS n a b c U O d Z).isSome=false->w1.heap[bo]? =some (.cells #[ov] 61 (0,0))/\w1.ownsRow 0 3 1 ov ord.length (ord.map (Value.int .i64))/\w1.ownsRow 0 3 1 dv n (((List.range n).map dy).map (Value.int .i64)))/\
   ((orS n a b c U O d Z).isSome=true-> ∃y',w1.heap[bo]? =some (.cells #[y'] 61 (0,0))/\(∃p q r,y'= .slice p q r)/\w1.ownsRow 0 3 1 y' (ord++orL (orG n a b c U O d Z)).length ((ord++orL (orG n a b c U O d Z)).map (Value.int .i64))/\
    (∀x,y'.ownBlock=some x->w.heap.size<=x\/ov.ownBlock=some x)/\w1.ownsRow 0 3 1 dv n (((List.range n).map (dyU (orG n a b c U O d Z) dy)).map (Value.int .i64))):=by
 have hob:=(PB.1 ho).1;have hmb:=(PB.1 hm).1;have hbb:=(PB.1 hdb).1;obtain ⟨oa,ol,oc,hov⟩:=hov;obtain ⟨da,dl,dc,hdv⟩:=hdv
 let e0:UN:={ro:=λx=>x<w.heap.size/\x≠bo/\x≠bm/\x≠bd/\ov.ownBlock≠some x/\dv.ownBlock≠some x,own:=λx=>if x=bo then some 3 else if x=bm then some 5 else if x=bd then some 4 else if ov.ownBlock=some x then some 900 else if dv.ownBlock=some x then some 7 else none,live:=λk=>k<901,blk:=λk=>if k=0 then bk else if k=1 then bg else if k=2 then bf else if k=3 then bo else if k=4 then bd else bm,val:=λk=>if k=7 then dv else ov}
 let c0:Cx:={M:=λ_=>False,Φ:=λ_ _ _=>True,K:=λx o=>e0.ro x/\w.heap[x]? =some o,saved:=[[LW bk,LW bg,LW bf,LW bo,LW bd]],sz:=w.heap.size}
 let w00:World:={w with heap:=#[] }
 have Wp6: ∀x,R.ro x->e0.ro x:=λx hx=>hro x hx
 have o3:e0.own bo=some 3:=if_pos rfl;have o5:e0.own bm=some 5:=by simp [e0,Ne.symm hobm]
 have o4:e0.own bd=some 4:=by simp [e0,Ne.symm hobd,Ne.symm hmbd]
 have o9: ∀x,ov.ownBlock=some x->e0.own x=some 900:=by
  intro x hx;obtain ⟨q1,q2,q2',q3⟩:=hoo x hx;simp [e0,q1,q2,q2',hx]
 have o7: ∀x,dv.ownBlock=some x->e0.own x=some 7:=by
  intro x hx;obtain ⟨q1,q2,q2'⟩:=hdo x hx;have q3:ov.ownBlock≠some x:=λh=>(hoo x h).2.2.2 hx
  simp [e0,q1,q2,q2',q3,hx]
 have hE:G4 e0 w00.heap.size w:=by
  refine ⟨λx hx=>?_,λx k hk=>⟨Ao _,?_⟩,λq p hp=>?_⟩
  ·obtain ⟨q0,q1,q2,q2',q3,q4⟩:=hx;exact ⟨by simp [e0,q1,q2,q2',q3,q4],q0⟩
  ·have hk:(if x=bo then some 3 else if x=bm then some 5 else if x=bd then some 4 else if ov.ownBlock=some x then some 900 else if dv.ownBlock=some x then some 7 else none)=some k:=hk
   split at hk
   ·rename_i h;rw [h];exact hob
   split at hk
   ·rename_i h;rw [h];exact hmb
   split at hk
   ·rename_i h;rw [h];exact hbb
   split at hk
   ·rename_i h;exact Qb8 I7 h
   split at hk
   ·rename_i h;exact Qb8 Xw4 h
   ·cases hk
  ·obtain ⟨q1,q2⟩:=hgl q p hp;exact ⟨Wp6 _ q1,q2⟩
 have p0:Rep e0 w (.ptr 0 0) (LW bk):= .ptr 0 0 (show 0<901 by omega)
 have p1:Rep e0 w (.ptr 1 0) (LW bg):= .ptr 1 0 (show 1<901 by omega)
 have p2:Rep e0 w (.ptr 2 0) (LW bf):= .ptr 2 0 (show 2<901 by omega)
 have p3:Rep e0 w (.ptr 3 0) (LW bo):= .ptr 3 0 (show 3<901 by omega)
 have p4:Rep e0 w (.ptr 4 0) (LW bd):= .ptr 4 0 (show 4<901 by omega)
 have p9:Rep e0 w (.row 900) ov:=by
  rw [hov];exact .row 900 _ _ _ (show 900<901 by omega) hov
 have p7:Rep e0 w (.row 7) dv:=by
  rw [hdv];exact .row 7 _ _ _ (show 7<901 by omega) hdv
 have p5:Rep e0 w (.mp 5) (.map (some bm)):= .mp 5 (show 5<901 by omega)
 have vH:U5 e0 w [.ptr 0 0,.ptr 1 0,.ptr 2 0,.ptr 3 0,.ptr 4 0] [LW bk,LW bg,LW bf,LW bo,LW bd]:= .cons p0 (.cons p1 (.cons p2 (.cons p3 (.cons p4 (.nil _ _)))));have hfn:Rep e0 w (.fn (.func 222) [] [.ptr 0 0,.ptr 1 0,.ptr 2 0,.ptr 3 0,.ptr 4 0]) (Zl1 bk bg bf bo bd):= .fn _ [] _ [] _ rfl (λi a v h=>by simp at h) vH.1 vH.2
 have hrb:Rep e0 w (.ro [i 4,i 10,sls n a b c U O,ea,la]) rb:=by
  refine Rep.idf (e:=R) (e':=e0) Wp6 hR ?_;cases hR with
  |ro l vs b' o' g1 g2 g3 g4 g5 g6=>exact .ro _ g3
 have hM:UX e0 (OM n a b c U O ea la d Z ord dy oa ol oc da dl dc) w:=by
  intro p hp;unfold OM at hp;simp only [GQ,DQ,or_false] at hp;rcases hp with rfl|rfl|rfl|rfl|rfl|rfl|rfl|rfl|rfl|rfl
  ·exact ⟨show 3<901 by omega,o3,[ov],ho,.cons p9 (.nil _ _)⟩
  ·exact ⟨show 3<901 by omega,o3,[ov],ho,.cons (by rw [hov];exact .x _) (.nil _ _)⟩
  ·exact xX (show 900<901 by omega) rfl o9 rfl (λj hj=>Qd2 hj) I7
  ·exact ⟨show 5<901 by omega,o5,es,cn,hm,hes⟩
  ·exact xX (show 7<901 by omega) rfl o7 VX (λj hj=>CJ hj) Xw4
  ·exact ⟨show 0<901 by omega,Wp6 _ rk,(hro _ rk).1,[rb],hk,.cons hrb (.nil _ _)⟩
  ·exact ⟨show 1<901 by omega,Wp6 _ rg,(hro _ rg).1,[.map (some bm)],hg,.cons p5 (.nil _ _)⟩
  ·exact ⟨show 2<901 by omega,Wp6 _ rf,(hro _ rf).1,[Zl1 bk bg bf bo bd],hf,.cons hfn (.nil _ _)⟩
  ·exact ⟨show 4<901 by omega,o4,[dv],hdb,.cons p7 (.nil _ _)⟩
  ·exact ⟨show 4<901 by omega,o4,[dv],hdb,.cons (by rw [hdv];exact .x _) (.nil _ _)⟩
 have hX:Xt c0 e0 [[.ptr 0 0,.ptr 1 0,.ptr 2 0,.ptr 3 0,.ptr 4 0]] [] w:=
  ⟨⟨λd hd=>(by cases hd),List.nodup_nil⟩,λx o hk=>⟨hk.1,hk.1.1,hk.2⟩,LC.cons vH ⟨rfl,λi a v h=>by simp at h⟩,Am _⟩
 have hA:U5 e0 w [.agg [i d,i Z],.ptr 0 0,.ptr 1 0,.ptr 2 0,.ptr 3 0,.ptr 4 0] [.agg #[.int .i64 d,.int .i64 Z],LW bk,LW bg,LW bf,LW bo,LW bd]:= .cons (Rep.aggL (.cons (.x _) (.cons (.x _) (.nil _ _)))) vH;have FK:=hs ea la d Z ord dy oa ol oc da dl dc h1 h2 h3 h4 c0 w00 (λ_=>False) e0 _ w hE ⟨rfl,rfl,rfl,Ao _,λk hk=>absurd hk (Aq _)⟩ hM (λk hk=>hk) (λ_ h=>h.elim) hX rfl hA
 refine FK.mono ?_;rintro en w1 ⟨hen,e1,g1,g2,g3,g4,_,g6⟩;have hsz:w.heap.size<=w1.heap.size:=g6.size;have OR: ∀x,x<w.heap.size->x≠bo->x≠bm->x≠bd->ov.ownBlock≠some x->dv.ownBlock≠some x->e1.ro x/\w1.heap[x]? =w.heap[x]? :=by
  intro x hx n1 n2 n2' n3 n4;have hk:=g6.kept x w.heap[x] ⟨⟨hx,n1,n2,n2',n3,n4⟩,by simp [hx]⟩
  exact ⟨hk.1,by rw [hk.2.2];simp [hx]⟩
 have keptR: ∀x,R.ro x->w1.heap[x]? =w.heap[x]? :=λx hx=>(OR x (hro x hx).1 (hro x hx).2.1 (hro x hx).2.2.1 (hro x hx).2.2.2.1 (hro x hx).2.2.2.2.1 (hro x hx).2.2.2.2.2).2
 have hsv:(cond (orS n a b c U O d Z).isSome (OT_ n a b c U O ea la d Z ord dy oa ol oc da dl dc (orG n a b c U O d Z)) (OF_ n a b c U O ea la d Z ord dy oa ol oc da dl dc)).sv=[[.ptr 0 0,.ptr 1 0,.ptr 2 0,.ptr 3 0,.ptr 4 0]]:=by
  cases (orS n a b c U O d Z).isSome<;>rfl
 have hsd:=g6.saved;rw [hsv] at hsd;have hs1:=hsd.2 0 _ _ rfl rfl;obtain ⟨v0,l0,q,r0,hs1⟩:=hs1.cons_inv;obtain ⟨rfl,rfl⟩:=List.cons.inj q;obtain ⟨v1,l1,q,r1,hs1⟩:=hs1.cons_inv;obtain ⟨rfl,rfl⟩:=List.cons.inj q;obtain ⟨v2,l2,q,r2,hs1⟩:=hs1.cons_inv;obtain ⟨rfl,rfl⟩:=List.cons.inj q;obtain ⟨v3,l3,q,r3,hs1⟩:=hs1.cons_inv;obtain ⟨rfl,rfl⟩:=List.cons.inj q;obtain ⟨v4,l4,q,r4,_⟩:=hs1.cons_inv;obtain ⟨rfl,rfl⟩:=List.cons.inj q;have ptr_inv: ∀{k x:Nat},Rep e1 w1 (.ptr k 0) (LW x)->e1.blk k=x:=by
  intro k x h;cases h;rfl
 have b1:=ptr_inv r1;have b3:=ptr_inv r3;have b4:=ptr_inv r4;have gZ: ∀p,(p∈(OT_ n a b c U O ea la d Z ord dy oa ol oc da dl dc (orG n a b c U O d Z)).m/\p∈(OF_ n a b c U O ea la d Z ord dy oa ol oc da dl dc).m)->GK e1 w1 p.1 p.2:=by
  intro p hp;refine g3 p ?_;cases (orS n a b c U O d Z).isSome
  ·exact hp.2
  ·exact hp.1
 -- the days' row and the map bear their numbers still
 have hbd:w1.heap[bd]? =some (.cells #[dv] 61 (0,0)):=by
  obtain ⟨_,_,vs,q1,q2⟩:=gZ (4,.cells 61 [.x (.slice da dl dc)]) ⟨by simp [OT_],by simp [OF_]⟩
  obtain ⟨x,xs,rfl,t1,q2⟩:=q2.cons_inv;obtain rfl:=q2.nil_inv;rw [b4,t1.x_inv,←hdv] at q1;exact q1
 have b7:e1.val 7=dv:=by
  obtain ⟨_,_,vs,q1,q2⟩:=gZ (4,.cells 61 [.row 7]) ⟨by simp [OT_],by simp [OF_]⟩
  obtain ⟨x,xs,rfl,t1,q2⟩:=q2.cons_inv;obtain rfl:=q2.nil_inv;rw [b4,hbd] at q1;simp only [HH,Obj.cells.injEq] at q1;have:dv=x:=by simpa using q1.1
  subst this;clear q1 hbd;generalize dv=z at t1;cases t1 with
  |row _ a n c _ hv=>exact hv
 have hsm: ∀x,x<w.heap.size->x≠bo->x≠bm->ov.ownBlock≠some x->dv.ownBlock≠some x->w1.heap[x]? =w.heap[x]? :=by
  intro x hx n1 n2 n3 n4;rcases Classical.em (x=bd) with rfl|n5
  ·rw [hbd,hdb]
  ·exact (OR x hx n1 n2 n5 n3 n4).2
 have b5:e1.blk 5=bm:=by
  obtain ⟨_,_,_,vs,q1,q2⟩:=gZ (1,.keep 329 [.mp 5]) ⟨by simp [OT_],by simp [OF_]⟩
  obtain ⟨x,xs,rfl,t1,q2⟩:=q2.cons_inv;obtain rfl:=q2.nil_inv;rw [b1,keptR _ rg,hg] at q1;simp only [HH,Obj.cells.injEq] at q1;have:Value.map (some bm)=x:=by simpa using q1.1
  subst this;cases t1;rfl
 have Ji8: ∃(es':Array MapEntry) (c':Nat),w1.heap[bm]? =some (.map es' c')/\ ∀x∈es'.toList,orH n a b c U O x.key/\x.val=orV x.key:=by
  obtain ⟨_,_,es',c',q1,q2⟩:=gZ (5,.memo (orH n a b c U O) orV) ⟨by simp [OT_],by simp [OF_]⟩
  rw [b5] at q1;exact ⟨es',c',q1,q2⟩
 refine ⟨hen,hsz,g2.os,g2.tape,g2.output,hsm,Ji8,λhb=>?_,λhb=>?_⟩
 ·rw [hb] at g3;have k3:=g3 (3,.cells 61 [.row 900]) (by simp [OF_])
  have k3':=g3 (3,.cells 61 [.x (.slice oa ol oc)]) (by simp [OF_])
  have k9:=g3 (900,.row 3 1 ord.length (λj=>[i (UB ord j)])) (by simp [OF_])
  have k7:=g3 (7,.row 3 1 n (λj=>[i (dy j)])) (by simp [OF_])
  obtain ⟨_,_,vs,q1,q2⟩:=k3';obtain ⟨x,xs,rfl,t1,q2⟩:=q2.cons_inv;obtain rfl:=q2.nil_inv;have hx:x=ov:=by rw [hov];exact t1.x_inv
  subst hx;have q1':w1.heap[e1.blk 3]? =some (.cells #[x] 61 (0,0)):=q1;rw [b3] at q1';have h9:e1.val 900=x:=by
   obtain ⟨_,_,vs,u1,u2⟩:=k3;obtain ⟨y,ys,rfl,t2,u2⟩:=u2.cons_inv;obtain rfl:=u2.nil_inv;have u1':w1.heap[e1.blk 3]? =some (.cells #[y] 61 (0,0)):=u1;rw [b3,q1'] at u1';simp only [HH,Obj.cells.injEq] at u1';have:x=y:=by simpa using u1'.1
   subst this;clear q1' u1' q1 u1 t1;generalize x=z at t2;cases t2 with
   |row _ a n c _ hv=>exact hv
  have r9:=qO k9 (oI _ _);have r7:=qO k7 (oI _ _);rw [h9,TO] at r9;rw [b7,Qc6] at r7;exact ⟨q1',r9,r7⟩
 ·rw [hb] at g3;have k3:=g3 (3,.cells 61 [.row 900]) (by simp [OT_])
  have k9:=g3 (900,.row 3 1 (ord++orL (orG n a b c U O d Z)).length (λj=>[i (UB (ord++orL (orG n a b c U O d Z)) j)])) (by simp [OT_])
  have k7:=g3 (7,.row 3 1 n (λj=>[i (dyU (orG n a b c U O d Z) dy j)])) (by simp [OT_])
  have k5:=g3 (5,.memo (orH n a b c U O) orV) (by simp [OT_])
  have o3':=k3.2.1;rw [b3] at o3';have o5':=k5.2.1;rw [b5] at o5';obtain ⟨_,_,vs,q1,q2⟩:=k3;obtain ⟨y,ys,rfl,t1,q2⟩:=q2.cons_inv;obtain rfl:=q2.nil_inv;have q1':w1.heap[e1.blk 3]? =some (.cells #[y] 61 (0,0)):=q1;rw [b3] at q1';have hy:(∃p q r,y= .slice p q r)/\e1.val 900=y:=by
   cases t1 with
   |row _ a n c _ hv=>exact ⟨⟨a,n,c,rfl⟩,hv⟩
  have r9:=qO k9 (oI _ _);have r7:=qO k7 (oI _ _);rw [hy.2,TO] at r9;rw [b7,Qc6] at r7;refine ⟨y,q1',hy.1,r9,λz hz=>?_,r7⟩
  rcases An z w.heap.size with hlt|hge
  ·refine .inr ?_;have hoz:e1.own z=some 900:=k9.2.1 z (by show (e1.val 900).ownBlock=some z;rw [hy.2];exact hz)
   refine Classical.byContradiction λn3=>?_
   have n1:z≠bo:=by
    rintro rfl;rw [o3'] at hoz;cases hoz
   have n2:z≠bm:=by
    rintro rfl;rw [o5'] at hoz;cases hoz
   have n4:dv.ownBlock≠some z:=by
    intro h;have:=k7.2.1 z (by show (e1.val 7).ownBlock=some z;rw [b7];exact h)
    rw [this] at hoz;cases hoz
   have n5:z≠bd:=by
    rintro rfl;have:=(g3 (4,.cells 61 [.row 7]) (by simp [OT_])).2.1
    rw [b4] at this;rw [this] at hoz;cases hoz
   have hk:=OR z hlt n1 n2 n5 n3 n4;rw [(g1.apart z hk.1).1] at hoz;cases hoz
  ·exact .inl hge
theorem LN{e e':UN}{w w1:World}{id:Nat}{r:GS}(st:Step e e' w w1)(HA: ∀x,e.own x=some id->e'.own x=some id/\w1.heap[x]? =w.heap[x]?)(hna:Xk1 r=false)(h:GK e w id r):GK e' w1 id r:=by
 cases r with
 |cells T l=>
  obtain ⟨h1,h2,vs,h3,h4⟩:=h;obtain ⟨l1,l2,l3⟩:=st.live id h1;obtain ⟨k1,k2⟩:=HA _ h2;exact ⟨l1,by rw [l2];exact k1,vs,by rw [l2,k2];exact h3,h4.step st⟩
 |ints T pre n f=>
  obtain ⟨h1,h2,vs,h3,h4⟩:=h;obtain ⟨l1,l2,l3⟩:=st.live id h1;obtain ⟨k1,k2⟩:=HA _ h2;exact ⟨l1,by rw [l2];exact k1,vs,by rw [l2,k2];exact h3,h4.step st⟩
 |memo g f=>
  obtain ⟨h1,h2,es,c,h3,h4⟩:=h;obtain ⟨l1,l2,l3⟩:=st.live id h1;obtain ⟨k1,k2⟩:=HA _ h2;exact ⟨l1,by rw [l2];exact k1,es,c,by rw [l2,k2];exact h3,h4⟩
 |keep T l=>exact LK st h
 |aka _ _ _ _ _=>cases hna
 |row T sz n f=>
  obtain ⟨h1,h2,hf,ys,h3,h4⟩:=h;obtain ⟨l1,l2,l3⟩:=st.live id h1;refine ⟨l1,λx hx=>(HA _ (h2 x (by rw [←l3];exact hx))).1,hf,ys,?_,λi j a v O ha hv=>(h4 i j a v O ha hv).step st⟩
  rw [l3];refine ⟨h3.1,h3.2.imp (λh=>h) ?_⟩
  rintro ⟨g',cap',cur',hv,hg,hh,rest⟩;exact ⟨g',cap',cur',hv,hg,(HA g' (h2 g' (by rw [hv];rfl))).2.trans hh,rest⟩
theorem IC{e:UN}{w:World}{id n:Nat}{g:Nat->List AV}{ov:Value}(hr:UH 1 n g)(hl:e.live id)(hv:e.val id=ov)(hob: ∀x,ov.ownBlock=some x->e.own x=some id)(ho:w.ownsRow 0 3 1 ov n (((List.range n).map (col 0 g)).map (Value.int .i64))):GK e w id (.row 3 1 n g):=by
 have h:=xX (f:=col 0 g) hl hv hob VX (λj hj=>CJ hj) ho
 obtain ⟨h1,h2,h3,xs,h4,h5⟩:=h;refine ⟨h1,h2,λj hj=>?_,xs,h4,λi j a v O ha hv=>?_⟩
 ·rw [hr j hj];exact h3 j hj
 ·rw [hr i O] at ha;exact h5 i j a v O ha hv
theorem eX{n:Nat}{a b c U O:Nat->Int}{N:Nat}(hs:Ql6 n a b c U O N):GE VR 222 (nO n a b c U O N):=by
 refine ⟨(UK Tryz.func222),?_⟩;intro avs m nx sv tr ht Q hQ cx w0 TT e ds args w hE hB hm hlv LT hxt hr;unfold nO at ht;split at ht
 ·rename_i d Z k W g z1 f z2 o z3 dd z4;split at ht
  ·rename_i Tk c1 c2 sl ea la Tg mg Tf fg k' y0 g' y1 f' y2 o' y3 d' y4 To q Td r h1 h2 h3 h4 h5;split at ht
   ·rename_i hh ff T1 s1 k1 g1 T2 s2 k2 g2 h6 h7 h8;split at ht
    ·rename_i hb;rw [HC] at hb;obtain ⟨hb1,hb2⟩:=hb;simp only [EM] at hb1;obtain ⟨rfl,rfl,rfl,rfl,rfl,rfl,rfl,rfl,rfl,rfl,rfl,rfl,rfl,rfl,rfl,rfl,rfl,rfl,rfl,rfl,rfl,rfl,rfl,rfl,rfl,_⟩:=hb1;rw [HC] at hb2;have hqr:q≠r:=by
      rintro rfl;simp at hb2
     have hod:o≠dd:=by
      rintro rfl;simp at hb2
     cases ht;obtain ⟨hn,hq⟩:=VP.sat_needT hQ;have hn:=GF hn;have n1:c1=i 4:=hn _ VX;have n2:c2=i 10:=hn _ VX;have n3:sl=sls n a b c U O:=hn _ VX;have n4: ∀x,hh x->orH n a b c U O x/\ff x=orV x:=hn _ VX;have n6:UH 1 k1 g1:=hn _ VX;have n7:UH 1 k2 g2:=hn _ VX;have n8:k2=n:=hn _ VX;have n9:0<=d/\d<2^n:=hn _ VX;have n10:2^n-d.toNat<=N:=hn _ VX;have n11:0<=Z/\Z<=100:=hn _ VX;have n12:k1<=1000:=hn _ VX;clear hn hQ;subst n1 n2 n3 n8;obtain ⟨d,rfl⟩: ∃d':Nat,d=d':=⟨d.toNat,VM⟩;simp only [DP] at hq n10;have hpn:((2^k2:Nat):Int)=2^k2:=VX;have hdn:d<2^k2:=by
      have h:=n9.2;rw [←hpn] at h;exact Int.ofNat_lt.1 h
     obtain ⟨v0,l1,rfl,r1,hr⟩:=hr.cons_inv;obtain ⟨v1,l1,rfl,r2,hr⟩:=hr.cons_inv;obtain ⟨v2,l2,rfl,r3,hr⟩:=hr.cons_inv;obtain ⟨v3,l3,rfl,r4,hr⟩:=hr.cons_inv;obtain ⟨v4,l4,rfl,r5,hr⟩:=hr.cons_inv;obtain ⟨v5,l5,rfl,r6,hr⟩:=hr.cons_inv;obtain rfl:=hr.nil_inv;obtain ⟨us,rfl,ru⟩:=r1.agg_inv;obtain ⟨u1,us1,rfl,q1,ru⟩:=ru.cons_inv;obtain ⟨u2,us2,rfl,q2,ru⟩:=ru.cons_inv;obtain rfl:=ru.nil_inv;obtain rfl:=q1.x_inv;obtain rfl:=q2.x_inv;have z: ∀{k:Nat} {x:Value},Rep e w (.ptr k 0) x->x=LW (e.blk k):=by
      intro k x h;cases h;rfl
     obtain rfl:=z r2;obtain rfl:=z r3;obtain rfl:=z r4;obtain rfl:=z r5;obtain rfl:=z r6;have m4:=G0 h4;obtain ⟨_,ro1,_,vs1,hp1,e1⟩:=hm _ (G0 h1);obtain ⟨rb,xs,rfl,t1,e1⟩:=e1.cons_inv;obtain rfl:=e1.nil_inv;obtain ⟨_,ro2,_,vs2,hp2,e2⟩:=hm _ (G0 h2);obtain ⟨mv,xs,rfl,t2,e2⟩:=e2.cons_inv;obtain rfl:=e2.nil_inv;have hmv:mv= .map (some (e.blk mg)):=by
      cases t2;rfl
     subst hmv;obtain ⟨_,ro3,_,vs3,hp3,e3⟩:=hm _ (G0 h3);obtain ⟨fv,xs,rfl,t3,e3⟩:=e3.cons_inv;obtain rfl:=e3.nil_inv;obtain ⟨us,us',rfl,t6,t7⟩:=t3.fn_inv;obtain rfl:=t6.nil_inv;obtain ⟨x1,xs,rfl,s1,t7⟩:=t7.cons_inv;obtain ⟨x2,xs,rfl,s2,t7⟩:=t7.cons_inv;obtain ⟨x3,xs,rfl,s3,t7⟩:=t7.cons_inv;obtain ⟨x4,xs,rfl,s4,t7⟩:=t7.cons_inv;obtain ⟨x5,xs,rfl,s5,t7⟩:=t7.cons_inv;obtain rfl:=t7.nil_inv;obtain rfl:=z s1;obtain rfl:=z s2;obtain rfl:=z s3;obtain rfl:=z s4;obtain rfl:=z s5;obtain ⟨live4,own4,vs4,hp4,e4⟩:=hm _ m4;obtain ⟨ov,xs,rfl,t4,e4⟩:=e4.cons_inv;obtain rfl:=e4.nil_inv;obtain ⟨_,own5,vs5,hp5,e5⟩:=hm _ (G0 h5);obtain ⟨dv,xs,rfl,t5,e5⟩:=e5.cons_inv;obtain rfl:=e5.nil_inv;have hov:(∃p q r,ov= .slice p q r)/\e.val q=ov:=by
      cases t4 with
      |row _ a n c _ hv=>exact ⟨⟨a,n,c,rfl⟩,hv⟩
     have hdv:(∃p q r,dv= .slice p q r)/\e.val r=dv:=by
      cases t5 with
      |row _ a n c _ hv=>exact ⟨⟨a,n,c,rfl⟩,hv⟩
     obtain ⟨live6,own6,es,cn,hp6,hes0⟩:=hm _ (G0 h6);have hes: ∀x∈es.toList,orH k2 a b c U O x.key/\x.val=orV x.key:=λx hx=>by
      obtain ⟨g1,g2⟩:=hes0 x hx;exact ⟨(n4 _ g1).1,by rw [g2,(n4 _ g1).2]⟩
     have H7:=hm _ (G0 h7);have H8:=hm _ (G0 h8);have R7:=qO H7 n6;have R8:=qO H8 n7;simp only at hp1 hp2 hp3 hp4 hp5 hp6 own4 own6 live4 live6 R7 R8 ro1 ro2 ro3 own5;rw [hov.2] at R7;rw [hdv.2] at R8;have own7: ∀x,ov.ownBlock=some x->e.own x=some q:=λx hx=>H7.2.1 x (by show (e.val q).ownBlock=some x;rw [hov.2];exact hx)
     have own8: ∀x,dv.ownBlock=some x->e.own x=some r:=λx hx=>H8.2.1 x (by show (e.val r).ownBlock=some x;rw [hdv.2];exact hx)
     have live7:e.live q:=H7.1;have live8:e.live r:=H8.1;have ho_q:o≠q:=by
      rintro rfl;rw [h7] at h4;cases h4
     have ho_r:o≠r:=by
      rintro rfl;rw [h8] at h4;cases h4
     have ho_m:o≠mg:=by
      rintro rfl;rw [h6] at h4;cases h4
     have hm_q:mg≠q:=by
      rintro rfl;rw [h7] at h6;cases h6
     have hm_r:mg≠r:=by
      rintro rfl;rw [h8] at h6;cases h6
     have hd_q:dd≠q:=by
      rintro rfl;rw [h7] at h5;cases h5
     have hd_r:dd≠r:=by
      rintro rfl;rw [h8] at h5;cases h5
     have hd_m:dd≠mg:=by
      rintro rfl;rw [h6] at h5;cases h5
     have dne: ∀{x y j j':Nat},e.own x=some j->e.own y=some j'->j≠j'->x≠y:=by
      rintro x y j j' hx hy hj rfl;rw [hx] at hy;exact hj (Bb hy)
     have HZ:(xS k1 g1).length=k1:=by simp [xS]
     have hro: ∀x,e.ro x->x<w.heap.size/\x≠e.blk o/\x≠e.blk mg/\x≠e.blk dd/\ov.ownBlock≠some x/\dv.ownBlock≠some x:=by
      intro x hx;obtain ⟨hx1,hx2⟩:=hE.apart x hx;have nx_: ∀{y j:Nat},e.own y=some j->x≠y:=by
       rintro y j hy rfl;rw [hx1] at hy;cases hy
      exact ⟨hx2,nx_ own4,nx_ own6,nx_ own5,λh=>(nx_ (own7 x h)) rfl,λh=>(nx_ (own8 x h)) rfl⟩
     have FK:=Wg6 hs (ord:=xS k1 g1) (dy:=col 0 g2) hdn n10 n11 (by rw [HZ];exact n12) (w:=w) (bk:=e.blk k) (bg:=e.blk g) (bf:=e.blk f) (bo:=e.blk o) (bd:=e.blk dd) (bm:=e.blk mg) (R:=e) hE.glob
      hp1 hp2 hp3 hp5 hp4 hp6 hes (by rw [HZ];exact R7) R8 hov.1 hdv.1 (dne own4 own6 ho_m) (dne own4 own5 hod) (dne own6 own5 (Ne.symm hd_m)) (λx hx=>⟨dne (own7 x hx) own4 (Ne.symm ho_q),dne (own7 x hx) own6 (Ne.symm hm_q),dne (own7 x hx) own5 (Ne.symm hd_q),λh=>dne (own7 x hx) (own8 x h) hqr rfl⟩)
      (λx hx=>⟨dne (own8 x hx) own4 (Ne.symm ho_r),dne (own8 x hx) own6 (Ne.symm hm_r),dne (own8 x hx) own5 (Ne.symm hd_r)⟩) t1 hro ro1 ro2 ro3
     refine FK.mono ?_;rintro en w1 ⟨rfl,hsz,q1,q2,q3,jP,⟨es',c',hmp,hes'⟩,hF,hT⟩;rw [HZ] at hF;have hlt: ∀{x j:Nat},e.own x=some j->w0.heap.size<=x:=λh=>(hE.owned _ _ h).1
     have hBel:Below w0.heap.size w0 w1:=by
      refine ⟨q1.trans hB.os,q2.trans hB.tape,q3.trans hB.output,Ar hB.size hsz,λx hx=>?_⟩
      have ne_: ∀{y j:Nat},e.own y=some j->x≠y:=λh he=>by have:=hlt h;omega
      rw [jP x (qD hx hB.size) (ne_ own4) (ne_ own6) (λh=>ne_ (own7 x h) rfl) (λh=>ne_ (own8 x h) rfl)]
      exact hB.block x hx
     have Xl3: ∀x,x<w.heap.size->e.ro x->w1.heap[x]? =w.heap[x]? :=λx hx hx2=>jP x hx (hro x hx2).2.1 (hro x hx2).2.2.1 (hro x hx2).2.2.2.2.1 (hro x hx2).2.2.2.2.2
     cases hb:(orS k2 a b c U O d Z).isSome with
     |false=>
      have hq:=hq.2 hb;obtain ⟨f1,f2,f3⟩:=hF hb;have st:Step e e w w1:=⟨λx hx hx2=>⟨hx2,Xl3 x hx hx2⟩,λ_ h=>⟨h,rfl,rfl⟩,hsz⟩
      refine ⟨_,_,_,_,_,e,rfl,hq,⟨λx hx=>⟨(hE.apart x hx).1,qD (hE.apart x hx).2 hsz⟩,λx j hx=>⟨(hE.owned x j hx).1,qD (hE.owned x j hx).2 hsz⟩,hE.glob.step st⟩,hBel,?_,hlv,LT,hxt.step st,.lit false⟩
      intro p hp;rcases FZ hp with rfl|⟨hp,Zo6,_⟩
      ·exact ⟨live6,own6,es',c',hmp,hes'⟩
      rcases FZ hp with rfl|⟨hp,uF,_⟩
      ·exact IC n7 live8 hdv.2 own8 f3
      rcases FZ hp with rfl|⟨hp,Zo5,_⟩
      ·exact IC n6 live7 hov.2 own7 f2
      obtain ⟨hpm,hna⟩:=EP hp;refine LN st (λx hx=>⟨hx,?_⟩) hna (hm p hpm)
      rcases Classical.em (x=e.blk o) with rfl|hxo
      ·rw [f1,hp4]
      ·exact jP x (hE.owned x _ hx).2 hxo (dne hx own6 Zo6) (λh=>dne hx (own7 x h) Zo5 rfl) (λh=>dne hx (own8 x h) uF rfl)
     |true=>
      have hq:=hq.1 hb;obtain ⟨y',t1,⟨ya,yn,yc,hy0⟩,t2,t3,t4⟩:=hT hb;have hid: ¬e.live nx:=λh=>Bf _ (hlv _ h)
      have hfr: ∀x j,e.own x=some j->j≠q->y'.ownBlock≠some x:=by
       intro x j hx hj h;rcases t3 x h with h|h
       ·have:=(hE.owned x j hx).2;omega
       ·exact dne hx (own7 x h) hj rfl
      have hfr2: ∀x,e.ro x->y'.ownBlock≠some x:=by
       intro x hx h;rcases t3 x h with h|h
       ·have:=(hro x hx).1;omega
       ·exact (hro x hx).2.2.2.2.1 h
      have HA: ∀x j,e.own x=some j->j≠q->(e.app nx y').own x=some j:=by
       intro x j hx hj;simp only [UN.app];rw [if_neg (hfr x j hx hj)];exact hx
      have st:Step e (e.app nx y') w w1:=⟨λx hx hx2=>⟨hx2,Xl3 x hx hx2⟩,λj hj=>⟨.inr hj,rfl,by
       have:j≠nx:=λh=>hid (h▸hj)
       simp [UN.app,this]⟩,hsz⟩
      have vne: ∀{j:Nat},e.live j->(e.app nx y').val j=e.val j:=λ{j} hj=>by
       have:j≠nx:=λh=>hid (h▸hj)
       simp [UN.app,this]
      refine ⟨_,_,_,_,_,e.app nx y',rfl,hq,⟨λx hx=>⟨?_,qD (hE.apart x hx).2 hsz⟩,λx j hx=>?_,hE.glob.step st⟩,hBel,?_,?_,LT,hxt.step st,.lit true⟩
      ·simp only [UN.app];rw [if_neg (hfr2 x hx)];exact (hE.apart x hx).1
      ·simp only [UN.app] at hx;split at hx
       ·rename_i hxb;refine ⟨?_,(t2.lt x hxb).2⟩;rcases t3 x hxb with h|h
        ·exact Ar hB.size h
        ·exact hlt (own7 x h)
       ·exact ⟨(hE.owned x j hx).1,qD (hE.owned x j hx).2 hsz⟩
      ·intro p hp;rcases GQ.1 hp with rfl|hp
       ·exact xX (ov:=y') (.inl rfl) (by simp [UN.app]) (λx hx=>by simp [UN.app,hx]) rfl (λj hj=>Qd2 hj) t2
       rcases FZ hp with rfl|⟨hp,Zo6,_⟩
       ·exact ⟨.inr live6,HA _ _ own6 hm_q,es',c',hmp,hes'⟩
       rcases FZ hp with rfl|⟨hp,uF,_⟩
       ·exact xX (ov:=dv) (.inr live8) (by rw [vne live8];exact hdv.2) (λx hx=>HA _ _ (own8 x hx) (Ne.symm hqr)) VX (λj hj=>CJ hj) t4
       rcases FZ hp with rfl|⟨hp,Zo5,_⟩
       ·refine ⟨.inr live4,HA _ _ own4 ho_q,[y'],t1,.cons ?_ (.nil _ _)⟩;rw [hy0];exact .row nx _ _ _ (.inl rfl) (by simp [UN.app])
       obtain ⟨hp,Ji6⟩:=L6 hp;obtain ⟨hpm,hna⟩:=EP hp;refine LN st (λx hx=>⟨HA _ _ hx Ji6,?_⟩) hna (hm p hpm)
       exact jP x (hE.owned x _ hx).2 (dne hx own4 Zo5) (dne hx own6 Zo6) (λh=>dne hx (own7 x h) Ji6 rfl) (λh=>dne hx (own8 x h) uF rfl)
      ·rintro j (rfl|hj)
       ·exact Bk _
       ·exact Nat.lt_succ_of_lt (hlv j hj)
    ·cases ht
   ·cases ht
  ·cases ht
 ·cases ht
end Go.Proofs.YtlclobclmfhlmaaGreatDoor.Hd
