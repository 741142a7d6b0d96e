/- Contracts, put together. Conditions: those of each. -/
import Derived.Test.YtlclobclmfhlmaaGreatDoorMe
set_option linter.unusedSimpArgs false
set_option linter.unusedVariables false
set_option maxRecDepth 100000
namespace Go.Proofs.YtlclobclmfhlmaaGreatDoor.Hd
open Go Go.Sx Go.RowKit Bo
open Go.Sx.VR (need branch leaf)
open Go.Sx.AV (lst ptr agg roI tup top)
section
variable (N:Nat)(U O:Nat->Int)(m:Nat->Nat)(r v:Nat->Nat->Int)
def Xe9:St:={σ:=[AV.ro [lst 2 3 λk=>[iI (oL k),iI (oH k)],iI 1,Q1 N U O m r v,Q2 m N,top],agg QC,top,ptr 0 0,top,top,ptr 4 0]++HO 15 [iI 13]++HO 20 [lst 2 3 λk=>[iI (oL k),iI (oH k)],iI (↑(3:Nat):Int),iI 3]++HO 20 [Q1 N U O m r v,iI (N:Int),iI (N:Int)]++HO 14 [Q2 m N,iI (↑(HI m N):Int),iI (↑(HI m N):Int)]++HO 50 [iI 13]++HO 54 [],m:=[(4,GU.ints 237 [] 169 λk=>G8 (fwO 12 (r0M N U O m r v) 13) k),(0,Y0)],nx:=29}
noncomputable def Jt5:Code:=UE (VX (UB Tryz.f93) 5)
def Wm6(k:Nat):St:=(upE [(178,i k)] [(4,.ints 237 [] 169 (G8 (PN N U O m r v))),(0,.cells 191 [.x (.int .u64 0)])] (Xe9 N U O m r v))
def dW(k:Nat):GB->Option St
 | .ret=>some (upE [(4,.x (.pointer none)),(5,.lit false),(178,.top)] [(4,.ints 237 [] 169 (G8 (PN N U O m r v))),(0,.cells 191 [.x (.int .u64 0)])] (Xe9 N U O m r v))
 | .exit 16=>some (upE [(178,.top)] [(4,.ints 237 [] 169 (G8 (PN N U O m r v))),(0,.cells 191 [.x (.int .u64 0)])] (Xe9 N U O m r v))
 |_=>none
def Jp2:CT:= .branch (z8 N U O m r v) (.leaf (.exit 16,(dW N U O m r v 0 (.exit 16)).getD (Xe9 N U O m r v))) (.leaf (.ret,(dW N U O m r v 0 .ret).getD (Xe9 N U O m r v)))
def Za5:UN:=GO [] (HM (Wm6 N U O m r v (0)) (Jp2 N U O m r v))
theorem Jj9(VW:bOK N U O m r v):GC VT (.loop Jt5) (Za5 N U O m r v):=by
 refine G7 [] (L:=[]) (Ae RM (Ae P2 (Ae RC Aa))) (Ai Ab (Ag RQ Ac)) U3 U8 (X:=Nat) (Wm6 N U O m r v) (λk=>k<=13/\ ∀j,j<k->0<=PN N U O m r v j j) (λk=>13-k) (dW N U O m r v) (x0:=0) VZ ?_ ?_ ?_
 ·rintro k;kernel_rfl
 ·rintro k y E h;unfold dW at h;split at h
  ·cases h;kernel_rfl
  ·cases h;kernel_rfl
  ·cases h
 ·rintro Q hQ k hx;refine ⟨(k+1),?_⟩;(with_reducible refine DN (t:=let W:=(U4 (AV.ro [lst 2 3 λk=>[iI (oL k),iI (oH k)],iI 1,Q1 N U O m r v,Q2 m N,top]));let z1:=(U4 (↑(HI m N):Int));let z2:=PN N U O m r v;let z3:=(U4 (lst 2 3 λk=>[iI (oL k),iI (oH k)]));(branch (decide ((k:Int)<13)) (need [UO k 13] (need [UO k 13] (need [k*1+(k*13+0)<169] (branch (decide (G8 (z2) (k*1+(k*13+0))<0)) (need [W,U4 (agg QC),QS,QD=QD,WO,W7,XC,z3,U4 (↑(3:Nat):Int),XG,WU N U O m r v,U4 (N:Int),U4 (N:Int),U4 (Q2 m N),z1,z1,XC,169=169,GV 169 (G8 (z2)),QY] (leaf GB.ret)) (need [VQ ((k:Int)+1)] (need [W,U4 (agg QC),QS,W7,XC,z3,U4 (↑(3:Nat):Int),XG,WU N U O m r v,U4 (N:Int),U4 (N:Int),U4 (Q2 m N),z1,z1,XC,(k:Int)+1=(↑(k+1):Int),169=169,GV 169 (G8 (z2)),QY] (leaf GB.normal))))))) (need [W,U4 (agg QC),QS,W7,XC,z3,U4 (↑(3:Nat):Int),XG,WU N U O m r v,U4 (N:Int),U4 (N:Int),U4 (Q2 m N),z1,z1,XC,169=169,GV 169 (G8 (z2)),QY] (leaf (GB.exit 16))))) VY ?_)
  simp only [Jp2,dW,VR.sat,GZ] at hQ;simp only [VR.sat,UF,GA,GR,UI,VQ,UL,HD,RF,RG,L9,GT,dW]
  have h1:G8 (PN N U O m r v) (k*1+(k*13+0))=PN N U O m r v k k\/13<=k:=by
   rcases An k 13 with h|h
   ·exact .inl (yQ _ VO h)
   ·exact .inr h
  refine ⟨λh=>?_,λh=>?_⟩
  ·have h2:=h1.resolve_right VO;rw [h2];refine ⟨VO,VO,VO,λhneg=>?_,λWp8=>?_⟩
   ·have hno:z8 N U O m r v=false:=by
     cases ho:z8 N U O m r v
     ·rfl
     ·have:=GY.1 ho k VO;simp at this;omega
    (with_reducible repeat' first|apply Al|intro _)
    all_goals first|exact PU|(rename_i E hE;cases hE;exact hQ.2 hno)
   ·exact VJ
  ·obtain ⟨hx1,hx2⟩:=hx;obtain rfl:k=13:=VO;have Wo5:z8 N U O m r v=true:=GY.2 (λj hj=>by simpa using hx2 j hj)
   (with_reducible repeat' first|apply Al|intro _)
   all_goals first|exact PU|(rename_i E hE;cases hE;exact hQ.1 Wo5)
end
theorem Qn6{S:Code->UN->Prop}{c:Code}{s0 s1 s2 s3 s4 s5:UN}(h0: ∀cj,VX c 0=some cj->S cj s0)(h1: ∀cj,VX c 1=some cj->S cj s1)(h2: ∀cj,VX c 2=some cj->S cj s2)(h3: ∀cj,VX c 3=some cj->S cj s3)(h4: ∀cj,VX c 4=some cj->S cj s4)(h5: ∀cj,VX c 5=some cj->S cj s5):
  ∀j cj,VX c j=some cj-> ∀sp,[s0,s1,s2,s3,s4,s5][j]? =some sp->S cj sp:=by
 intro j cj hj sp hsp
 match j with
 | 0=>simp at hsp;subst hsp;exact h0 cj hj
 | 1=>simp at hsp;subst hsp;exact h1 cj hj
 | 2=>simp at hsp;subst hsp;exact h2 cj hj
 | 3=>simp at hsp;subst hsp;exact h3 cj hj
 | 4=>simp at hsp;subst hsp;exact h4 cj hj
 | 5=>simp at hsp;subst hsp;exact h5 cj hj
 |j+6=>simp at hsp
section
variable (N:Nat)
abbrev KG(U:Nat->Int)(O:Nat->Int)(m:Nat->Nat)(r:Nat->Nat->Int)(v:Nat->Nat->Int):AV:=roI [] 169 (λk=>G8 (PN N U O m r v) k) 0
theorem Xo6(U O:Nat->Int)(m:Nat->Nat)(r v:Nat->Nat->Int)(VW:bOK N U O m r v):US VT 93 [.ro [ofs,i 1,bds N U O m r v,.lst 2 (HI m N) (plF m N),.top],.agg [.x (.int .u64 0)]] (.branch (z8 N U O m r v) (.leaf (.tup [.roI [] 169 (G8 (PN N U O m r v)) 0,.lit true])) (.leaf (.tup [Bo.nilP,.lit false]))):=by
 refine GX (L:=[Zb3 N U O m r v,Zb1 N U O m r v,Zb0 N U O m r v,Za9 N U O m r v,Za8 N U O m r v,Za5 N U O m r v]) (Ae RM (Ae P2 (Ae RC Aa))) (Ai Ab (Ag RQ Ac)) U3 Tryz.func93 (UY Tryz.f93) (Qn6 (lpE (b:= .loop Zv7) VY<|(Jk7 N U O m r v).N) (lpE (b:= .loop Jt9) VY<|(Jk5 N U O m r v).N) (lpE (b:= .loop Jt8) VY<|(Jk4 N U O m r v VW).N) (lpE (b:= .loop Jt7) VY<|(Jk3 N U O m r v VW).N) (lpE (b:= .loop Zv6) VY<|(Jk2 N U O m r v VW).N) (lpE (b:= .loop Jt5) VY<|(Jj9 N U O m r v VW).N)) (t:=let W:=(U4 (AV.ro [lst 2 3 λk=>[iI (oL k),iI (oH k)],iI 1,Q1 N U O m r v,Q2 m N,top]));let z1:=(U4 (lst 2 3 λk=>[iI (oL k),iI (oH k)]));let z2:=(U4 (↑(HI m N):Int));let z3:=(U4 (↑(3:Nat):Int));(need [W,U4 (agg QC),QS,QD=QD,WO,W7,(0:Int)=(↑(0:Nat):Int),169=169,H2 169 (UD QM) (G8 (P1 0 0)),QY] (need [W,U4 (agg QC),QS,QD=QD,WO,W7,XC,z1,z3,(0:Int)=(↑(0:Nat):Int),169=169,H2 169 (G8 (P1 13 0)) (G8 (ofM 0)),QY] (need [W,U4 (agg QC),QS,QD=QD,WO,W7,XC,z1,z3,XG,WU N U O m r v,U4 (N:Int),(0:Int)=(↑(0:Nat):Int),169=169,H2 169 (G8 (ofM 3)) (G8 (btM U O 0)),QY] (need [W,U4 (agg QC),QS,QD=QD,WO,W7,XC,z1,z3,XG,WU N U O m r v,U4 (N:Int),U4 (N:Int),U4 (Q2 m N),z2,(0:Int)=(↑(0:Nat):Int),169=169,H2 169 (G8 (btM U O N)) (G8 (A3 N U O m r v 0)),QY] (need [W,U4 (agg QC),QS,QD=QD,WO,W7,XC,z1,z3,XG,WU N U O m r v,U4 (N:Int),U4 (N:Int),U4 (Q2 m N),z2,z2,(0:Int)=(↑(0:Nat):Int),169=169,H2 169 (G8 (A3 N U O m r v (HI m N))) (G8 (fwO 12 (r0M N U O m r v) 0)),QY] (need [W,U4 (agg QC),QS,W7,XC,z1,z3,XG,WU N U O m r v,U4 (N:Int),U4 (N:Int),U4 (Q2 m N),z2,z2,XC,(0:Int)=(↑(0:Nat):Int),169=169,H2 169 (G8 (fwO 12 (r0M N U O m r v) 13)) (G8 (PN N U O m r v)),QY] (branch (z8 N U O m r v) (leaf (tup [KG N U O m r v,AV.lit true])) (leaf (tup [QD,AV.lit false])))))))))) VY ?_
 intro Q hQ;simp only [VR.sat,UF,UL,VQ,L9,GT] at hQ ⊢
 (with_reducible repeat' first|apply Al|intro _)
 all_goals first|exact Ak|omega|with_reducible rfl|rfl|exact Xm9 _|(rename_i h;exact h.elim)|(rename_i h;exact ⟨.tup [.roI [] 169 (G8 (PN N U O m r v)) 0,.lit true],⟨⟨rfl,rfl,λ_ _=>rfl,rfl⟩,rfl,Ak⟩,hQ.1 h⟩)|(rename_i h;exact ⟨.tup [Bo.nilP,.lit false],⟨rfl,rfl,Ak⟩,hQ.2 h⟩)
def Zr9(U O:Nat->Int)(m:Nat->Nat)(r v:Nat->Nat->Int):DM:=λl=>some (.need [l=[.ro [ofs,i 1,bds N U O m r v,.lst 2 (HI m N) (plF m N),.top],.agg [.x (.int .u64 0)]]] (.branch (z8 N U O m r v) (.leaf (.tup [.roI [] 169 (G8 (PN N U O m r v)) 0,.lit true])) (.leaf (.tup [Bo.nilP,.lit false]))))
theorem Wx5(U O:Nat->Int)(m:Nat->Nat)(r v:Nat->Nat->Int)(VW:bOK N U O m r v):Sx.Enters Tryz.prog 93/\ ∀avs t,Zr9 N U O m r v avs=some t->US VT 93 avs t:=by
 refine ⟨(UM Tryz.func93),?_⟩;intro avs t h;cases h;intro Q hQ;have e:=hQ.1
 dsimp only [UF] at e
 subst e;exact Xo6 N U O m r v VW Q hQ.2
def bV(U O:Nat->Int)(m:Nat->Nat)(r v:Nat->Nat->Int):Prop:=bOK N U O m r v/\ ∀b,b<N-> ∀j k,j<k->k<m b->r b j≠r b k
end
section
variable {N:Nat}{U O:Nat->Int}{m:Nat->Nat}{r v:Nat->Nat->Int}
theorem Zy9(h:bV N U O m r v):vB N (λk=>[i (U k),i (O k),bts (m k) (r k) (v k)]):=by
 refine ⟨h.1.1,U,O,m,λk j=>[i (r k j),i (v k j)],λ_ _=>rfl,λk hk=>⟨λ_ _=>rfl,⟨?_,λj hj=>?_,λj q hj hq=>?_⟩,?_⟩⟩
 ·have:=(h.1.2 k hk).1;omega
 ·obtain ⟨h1,h2,h3,h4,h5⟩:=h.1.2 k hk;exact h5 j hj
 ·exact h.2 k hk j q hj hq
 ·obtain ⟨h1,h2,h3,h4,h5⟩:=h.1.2 k hk;exact (insB_iff _ _ _ _).2 ⟨h2,h3,h4⟩
theorem Wy2(h:bV N U O m r v):N<=1000/\ ∀b,b<N->m b<=1000:=⟨by have:=h.1.1;omega,λb hb=>by have:=(h.1.2 b hb).1;omega⟩
end
section
variable (f:Nat->List AV)(er:Int)(N:Nat)(U O:Nat->Int)(m:Nat->Nat)(r v:Nat->Nat->Int)
def Xq8:G0:=λl=>some ([l=[.agg [.lst 2 3 f,i er,bds N U O m r v]]],.ro [.lst 2 3 f,i er,bds N U O m r v,.lst 2 (HI m N) (plF m N),.top])
theorem Qu8(VW:N<=1000)(UK: ∀b,b<N->m b<=1000):P7 VT 92 (Xq8 f er N U O m r v):=by
 refine ⟨(UM Tryz.func92),?_⟩;intro avs ns res h hn;cases h;have e:=hn _ GK;subst e;exact Ww6 f er N U O m r v VW UK
end
section
variable (N:Nat)(U O:Nat->Int)(m:Nat->Nat)(r v:Nat->Nat->Int)
theorem Qu9(VW:bV N U O m r v):US VT 68 [.agg [ofs,i 1,bds N U O m r v],.lit true] (.branch (z8 N U O m r v) (.leaf (.tup [.roI [] 169 (G8 (PN N U O m r v)) 0,i 0])) (.leaf (.tup [Bo.nilP,i 9]))):=by
 refine GX (L:=[]) (Ae Qv7 Aa) (Aj (Af (Qu8 (λk=>[i (oL k),i (oH k)]) 1 N U O m r v (Wy2 VW).1 (Wy2 VW).2) Ab) Ac (Ah (Wx5 N U O m r v VW.1) (UG.nil _))) U3 Tryz.func68 (UY Tryz.f68) G9 (t:=need [ofB λk=>[i (oL k),i (oH k)],vB N λk=>[i (U k),i (O k),bts (m k) (r k) (v k)]] (branch ((0:Int) != 0) (leaf (tup [QD,iI 0])) (need [U4 ([agg [lst 2 3 λk=>[iI (oL k),iI (oH k)],iI 1,Q1 N U O m r v]])] (need [U4 ([AV.ro [lst 2 3 λk=>[iI (oL k),iI (oH k)],iI 1,Q1 N U O m r v,Q2 m N,top],agg QC])] (branch (z8 N U O m r v) (leaf (tup [KG N U O m r v,iI 0])) (leaf (tup [QD,iI 9]))))))) VY ?_
 intro Q hQ;simp only [VR.sat,UF,UL] at hQ ⊢;refine ⟨⟨λ_ _=>rfl,Zy9 VW⟩,λh=>by simp at h,λ_=>⟨λh=>⟨.tup [.roI [] 169 (G8 (PN N U O m r v)) 0,i 0],⟨⟨rfl,rfl,λ_ _=>rfl,rfl⟩,⟨rfl,rfl⟩,Ak⟩,hQ.1 h⟩,λh=>⟨.tup [Bo.nilP,i 9],⟨rfl,⟨rfl,rfl⟩,Ak⟩,hQ.2 h⟩⟩⟩
def Xc1:DM:=λl=>some (.need [l=[.agg [ofs,i 1,bds N U O m r v],.lit true]] (.branch (z8 N U O m r v) (.leaf (.tup [.roI [] 169 (G8 (PN N U O m r v)) 0,i 0])) (.leaf (.tup [Bo.nilP,i 9]))))
theorem M2(VW:bV N U O m r v):Sx.Enters Tryz.prog 68/\ ∀avs t,Xc1 N U O m r v avs=some t->US VT 68 avs t:=by
 refine ⟨(UM Tryz.func68),?_⟩;intro avs t h;cases h;intro Q hQ;have e:=hQ.1
 dsimp only [UF] at e
 subst e;exact Qu9 N U O m r v VW Q hQ.2
end
def Xa4:G0
 |[.roI [] 169 F 0,.x (.int .i64 a),.x (.int .i64 b)]=>some ([0<=a/\a<=12,0<=b/\b<=12,-1000000000000000<=F (b.toNat*13+a.toNat)/\F (b.toNat*13+a.toNat)<=1000000000000000],i (-(F (b.toNat*13+a.toNat))))
 |_=>none
theorem Xo5(F:Nat->Int)(a b:Int)(VW:0<=a/\a<=12)(UK:0<=b/\b<=12)(HY: -1000000000000000<=F (b.toNat*13+a.toNat)/\F (b.toNat*13+a.toNat)<=1000000000000000):U2 VT 94 [.roI [] 169 F 0,i a,i b] (i (-(F (b.toNat*13+a.toNat)))):=by
 refine H3 Tryz.func94 (t:=need [UO b 13] (need [UO a 13] (need [Int.toNat a*1+(Int.toNat b*13+0)<169] (need [VQ (-F (Int.toNat a*1+(Int.toNat b*13+0)))] (leaf (RV.x (.int .i64 (-F (Int.toNat a*1+(Int.toNat b*13+0)))))))))) VY ?_;simp only [VR.sat,UF,GA,GR,UI,UL,DR];rw [show a.toNat*1+(b.toNat*13+0)=b.toNat*13+a.toNat by omega]
 simp only [VQ];simp;omega
theorem Xo4:VU VT 94 Xa4:=by
 refine ⟨(UM Tryz.func94),?_⟩;intro avs ns res h hn;unfold Xa4 at h;split at h
 ·cases h;exact Xo5 _ _ _ (hn _ VZ) (hn _ VZ) (hn _ VZ)
 ·cases h
def Qj6:G0
 |[.roI [] 169 F 0,.x (.int .i64 a),.x (.int .i64 b)]=>some ([0<=a/\a<=12,0<=b/\b<=12,-1000000000000000<=F (a.toNat*13+b.toNat)/\F (a.toNat*13+b.toNat)<=1000000000000000],i (F (a.toNat*13+b.toNat)))
 |_=>none
theorem Wx3(F:Nat->Int)(a b:Int)(VW:0<=a/\a<=12)(UK:0<=b/\b<=12)(HY: -1000000000000000<=F (a.toNat*13+b.toNat)/\F (a.toNat*13+b.toNat)<=1000000000000000):U2 VT 95 [.roI [] 169 F 0,i a,i b] (i (F (a.toNat*13+b.toNat))):=by
 refine H3 Tryz.func95 (t:=need [UO a 13] (need [UO b 13] (need [Int.toNat b*1+(Int.toNat a*13+0)<169] (leaf (RV.x (.int .i64 (F (Int.toNat b*1+(Int.toNat a*13+0))))))))) VY ?_;simp only [VR.sat,UF,GA,GR,UI,UL,DR];rw [show b.toNat*1+(a.toNat*13+0)=a.toNat*13+b.toNat by omega]
 simp only [VQ];simp;omega
theorem Wx2:VU VT 95 Qj6:=by
 refine ⟨(UM Tryz.func95),?_⟩;intro avs ns res h hn;unfold Qj6 at h;split at h
 ·cases h;exact Wx3 _ _ _ (hn _ VZ) (hn _ VZ) (hn _ VZ)
 ·cases h
def MN:G0
 |[.roI [] 169 F 0,.x (.int .i64 a),.x (.int .i64 b)]=>some ([0<=a/\a<=12,0<=b/\b<=12,-1000000000000000<=F (b.toNat*13+a.toNat)/\F (b.toNat*13+a.toNat)<=1000000000000000,-1000000000000000<=F (a.toNat*13+b.toNat)/\F (a.toNat*13+b.toNat)<=1000000000000000],.agg [i (-(F (b.toNat*13+a.toNat))),i (F (a.toNat*13+b.toNat))])
 |_=>none
theorem mE(F:Nat->Int)(a b:Int)(VW:0<=a/\a<=12)(UK:0<=b/\b<=12)(HY: -1000000000000000<=F (b.toNat*13+a.toNat)/\F (b.toNat*13+a.toNat)<=1000000000000000)(F8: -1000000000000000<=F (a.toNat*13+b.toNat)/\F (a.toNat*13+b.toNat)<=1000000000000000):U2 VT 69 [.roI [] 169 F 0,i a,i b] (.agg [i (-(F (b.toNat*13+a.toNat))),i (F (a.toNat*13+b.toNat))]):=by
 refine U6 (L:=[]) (Ae Xo4 (Ae Wx2 Aa)) U3 Tryz.func69 (UY Tryz.f69) U8 (t:=need [(0:Int)<=a/\a<=12,(0:Int)<=b/\b<=12,(-1000000000000000:Int)<=F (Int.toNat b*13+Int.toNat a)/\F (Int.toNat b*13+Int.toNat a)<=1000000000000000] (need [(0:Int)<=a/\a<=12,(0:Int)<=b/\b<=12,(-1000000000000000:Int)<=F (Int.toNat a*13+Int.toNat b)/\F (Int.toNat a*13+Int.toNat b)<=1000000000000000] (leaf (RV.agg [RV.x (.int .i64 (-F (Int.toNat b*13+Int.toNat a))),RV.x (.int .i64 (F (Int.toNat a*13+Int.toNat b)))])))) VY ?_;exact V5
theorem rY:VU VT 69 MN:=by
 refine ⟨(UM Tryz.func69),?_⟩;intro avs ns res h hn;unfold MN at h;split at h
 ·cases h;exact mE _ _ _ (hn _ VZ) (hn _ VZ) (hn _ VZ) (hn _ VZ)
 ·cases h
theorem Xn0{N:Nat}{U O:Nat->Int}{m:Nat->Nat}{r v:Nat->Nat->Int}(h:bOK N U O m r v)(x y:Nat): -1000000000000000<=PN N U O m r v x y/\PN N U O m r v x y<=1000000000000000:=by
 have:=Xd0 (c:=12) (TJ h (HI m N) (Am _)) 13 x y;rw [show (8001:Int)*6^13=104498612822016 by decide] at this
 unfold PN r0M;omega
section
variable (N:Nat)(U O:Nat->Int)(m:Nat->Nat)(r v:Nat->Nat->Int)
def boE:Int:=if z8 N U O m r v=true then 0 else 9
def boN:Nat:=if z8 N U O m r v=true then 3 else 0
def boL(k:Nat):Int:= -(PN N U O m r v 0 (1+k))
def boH(k:Nat):Int:=PN N U O m r v (1+k) 0
abbrev QH:AV:=AV.x (.slice none 0 0)
def Qb0:St:={σ:=[agg [lst 2 3 λk=>[iI (oL k),iI (oH k)],iI 1,Q1 N U O m r v],ptr 0 0,QH,iI 0,QD,iI 9]++HO 12 [iI (↑(3:Nat):Int)]++HO 12 [],m:=[(901,GU.row 68 2 0 λx=>[]),(0,GU.cells 103 [lst 2 3 λk=>[iI (oL k),iI (oH k)],iI 1,Q1 N U O m r v])],nx:=902}
noncomputable def Qx3:Code:=UE (VX (UB Tryz.f35) 0)
def uE(k:Nat):St:={σ:=H6 [(19,i k),(6,.row 901),(4,.roI [] 169 (G8 (PN N U O m r v)) 0),(5,i 0)] (Qb0 N U O m r v).σ,m:=[(901,.row 68 2 k (λk=>[i (boL N U O m r v k),i (boH N U O m r v k)])),(0,.cells 103 [ofs,i 1,bds N U O m r v])],nx:=902}
def B0(k:Nat):GB->Option St
 | .exit 0=>some {σ:=H6 [(19,i 3),(6,.row 901),(4,.roI [] 169 (G8 (PN N U O m r v)) 0),(5,i 0)] (Qb0 N U O m r v).σ,m:=[(901,.row 68 2 3 (λk=>[i (boL N U O m r v k),i (boH N U O m r v k)])),(0,.cells 103 [ofs,i 1,bds N U O m r v])],nx:=902}
 |_=>none
def Wz6:CT:= .leaf (.exit 0,(B0 N U O m r v 0 (.exit 0)).getD (Qb0 N U O m r v))
def nL:UN:=GO [(.slot 6,901,68,2)] (HM (uE N U O m r v (0)) (Wz6 N U O m r v))
abbrev KV:Prop:=(1:Int)=1
theorem Jl9(VW:bV N U O m r v):GC VT (.loop Qx3) (nL N U O m r v):=by
 refine G7 [(.slot 6,901,68,2)] (L:=[]) (Ae RM (Ae rY Aa)) (Aj Ab Ac (Ah (M2 N U O m r v VW) (UG.nil _))) U3 U8 (X:=Nat) (uE N U O m r v) (λk=>k<=3) (λk=>3-k) (B0 N U O m r v) (x0:=0) VZ ?_ ?_ ?_
 ·rintro k;kernel_rfl
 ·rintro k y E h;unfold B0 at h;split at h
  ·cases h;kernel_rfl
  ·cases h
 ·rintro Q hQ k hx;refine ⟨(k+1),?_⟩;(with_reducible refine DN (t:=let W:=PN N U O m r v;let z1:=(U4 (agg [lst 2 3 λk=>[iI (oL k),iI (oH k)],iI 1,Q1 N U O m r v]));let z2:=(G8 (W) (((1:Int)+(k:Int)).toNat*13+(0:Int).toNat));(branch (decide ((k:Int)<(↑(3:Nat):Int))) (need [(0:Int)<=(k:Int)/\(k:Int)<=1000] (need [(0:Int)<=1+(k:Int)/\(1:Int)+(k:Int)<=12,(0:Int)<=0/\(0:Int)<=12,(-1000000000000000:Int)<=G8 (W) (0+((1:Int)+(k:Int)).toNat)/\G8 (W) (0+((1:Int)+(k:Int)).toNat)<=1000000000000000,(-1000000000000000:Int)<=G8 (W) (((1:Int)+(k:Int)).toNat*13+(0:Int).toNat)/\G8 (W) (((1:Int)+(k:Int)).toNat*13+(0:Int).toNat)<=1000000000000000] (need [(k+1)*16<=140737488355328,L1 1 (UA 2 [iI (-G8 (W) (0+((1:Int)+(k:Int)).toNat)),iI z2])] (need [VQ ((k:Int)+1)] (need [z1,QS,QH=QH,QY,U4 (KG N U O m r v),QY,WI,U4 (↑(3:Nat):Int),(k:Int)+1=(↑(k+1):Int),k+1=k+1,H2 (k+1) (GM k (λk=>[iI (boL N U O m r v k),iI (boH N U O m r v k)]) (UA 2 [iI (-G8 (W) (0+((1:Int)+(k:Int)).toNat)),iI z2])) (λi=>[iI (boL N U O m r v i),iI (boH N U O m r v i)]),U4 (lst 2 3 λk=>[iI (oL k),iI (oH k)]),KV,WU N U O m r v] (leaf GB.normal)))))) (need [z1,QS,QH=QH,QY,U4 (KG N U O m r v),QY,WI,U4 (↑(3:Nat):Int),(k:Int)=3,k=3,∀(i:Nat),i<3->[iI (boL N U O m r v i),iI (boH N U O m r v i)]=[iI (boL N U O m r v i),iI (boH N U O m r v i)],U4 (lst 2 3 λk=>[iI (oL k),iI (oH k)]),KV,WU N U O m r v] (leaf (GB.exit 0))))) VY ?_)
  simp only [Wz6,B0,VR.sat,GZ] at hQ;simp only [VR.sat,UF,GA,GR,UI,VQ,UL,HD,RF,RG,L9,GT,B0]
  have hb:=λx y=>Xn0 VW.1 x y
  have e1:(1+(k:Int)).toNat=1+k:=VO;have g1:k<3->G8 (PN N U O m r v) (0*13+(1+k))=PN N U O m r v 0 (1+k):=λ_=>yQ _ VO VO
  have g2:k<3->G8 (PN N U O m r v) ((1+k)*13+0)=PN N U O m r v (1+k) 0:=λ_=>yQ _ VO VO
  have b1:=hb 0 (1+k);have b2:=hb (1+k) 0;refine ⟨λh=>?_,λh=>?_⟩
  ·have hk:k<3:=VO;have f1:=g1 hk;have f2:=g2 hk;rw [e1];simp only [Int.toNat_zero,f1,f2]
   (with_reducible repeat' first|apply Al|intro _)
   all_goals first|exact Ak|omega|rfl|exact FU (by assumption) (by simp [AV.one,Value.oneCell'])|exact Zq4 rfl rfl (by assumption)
  ·obtain rfl:k=3:=VO;exact V4
abbrev J6:Value:=Value.slice none 0 0
abbrev YA:Value:=Value.pointer none
theorem kY(VW:bV N U O m r v):U2 VT 35 [.agg [ofs,i 1,bds N U O m r v]] (.tup [.lst 2 (boN N U O m r v) (λk=>[i (boL N U O m r v k),i (boH N U O m r v k)]),i (boE N U O m r v)]):=by
 refine GF (L:=[nL N U O m r v]) (Ae RM (Ae rY Aa)) (Aj Ab Ac (Ah (M2 N U O m r v VW) (UG.nil _))) U3 Tryz.func35 (UY Tryz.f35) (G4 (lpE (b:= .loop Qx3) VY<|(Jl9 N U O m r v VW).N)) (t:=let W:=([lst 2 3 λk=>[iI (oL k),iI (oH k)],iI 1,Q1 N U O m r v]);let z1:=(leaf (RV.tup [RV.lst 2 3 λk=>[iI (boL N U O m r v k),iI (boH N U O m r v k)],RV.x (X2)]));(need [U4 ([agg W,AV.lit true])] (branch (z8 N U O m r v) (branch ((0:Int) != 0) (leaf (RV.tup [RV.x (J6),RV.x (X2)])) (need [U4 (agg W),QS,QH=QH,QY,U4 (KG N U O m r v),QY,WI,U4 (↑(3:Nat):Int),(0:Int)=(↑(0:Nat):Int),0=0,∀(i:Nat),i<0->[]=[iI (boL N U O m r v i),iI (boH N U O m r v i)],U4 (lst 2 3 λk=>[iI (oL k),iI (oH k)]),KV,WU N U O m r v] z1)) (branch ((9:Int) != 0) (leaf (RV.tup [RV.x (J6),RV.x (.int .i64 (9:Int))])) (need [U4 (agg W),QS,QH=QH,QY,AV.x (YA)=roI [] 169 (λk=>G8 (PN N U O m r v) k) 0,(9:Int)=0,WI,U4 (↑(3:Nat):Int),(0:Int)=(↑(0:Nat):Int),0=0,∀(i:Nat),i<0->[]=[iI (boL N U O m r v i),iI (boH N U O m r v i)],U4 (lst 2 3 λk=>[iI (oL k),iI (oH k)]),KV,WU N U O m r v] z1))))) VY ?_
 simp only [VR.sat,UF,GA,GR,UI,UL];refine ⟨λhok=>⟨λh=>by simp at h,λ_=>?_⟩,λhno=>⟨λ_=>?_,λh=>by simp at h⟩⟩
 ·unfold boN boE;rw [if_pos hok,if_pos hok]
  (with_reducible repeat' first|apply Al|intro _)
  all_goals first|exact Ak|omega|rfl|(rename_i hm;simp only [GS,DS,or_false] at hm;rcases hm with rfl|rfl<;>exact Ak)
 ·unfold boN boE;rw [if_neg (by simp [hno]),if_neg (by simp [hno])]
  exact ⟨⟨Ak,rfl⟩,rfl⟩
def tY:G0:=λl=>some ([l=[.agg [ofs,i 1,bds N U O m r v]]],.tup [.lst 2 (boN N U O m r v) (λk=>[i (boL N U O m r v k),i (boH N U O m r v k)]),i (boE N U O m r v)])
theorem bG(VW:bV N U O m r v):VU VT 35 (tY N U O m r v):=by
 refine ⟨(UM Tryz.func35),?_⟩;intro avs ns res h hn;cases h;have e:=hn _ GK;subst e;exact kY N U O m r v VW
end
def SM:G0
 |[.x (.int .i64 n),.x (.int .i64 U),.x (.int .i64 O)]=>some ([],bl (bt U n O))
 |_=>none
theorem oR(n U O:Int):U2 VT 27 [i n,i U,i O] (bl (bt U n O)):=by
 refine H3 Tryz.func27 (t:=branch (decide (U<=n)) (leaf (RV.x (.bool (decide (n<=O))))) (leaf (RV.x (WN)))) VY ?_;exact VE
theorem zU:VU VT 27 SM:=by
 refine ⟨(UM Tryz.func27),?_⟩;intro avs ns res h hn;unfold SM at h;split at h
 ·cases h;exact oR _ _ _
 ·cases h
def Wz8:G0
 |[.x (.int .i64 n)]=>some ([],bl (bt 0 n 100))
 |_=>none
theorem Xi1(n:Int):U2 VT 28 [i n] (bl (bt 0 n 100)):=by
 refine U6 (L:=[]) (Ae zU Aa) U3 Tryz.func28 (UY Tryz.f28) U8 (t:=leaf (RV.x (.bool (bt (0:Int) n (100:Int))))) VY ?_;exact V5
theorem AH:VU VT 28 Wz8:=by
 refine ⟨(UM Tryz.func28),?_⟩;intro avs ns res h hn;unfold Wz8 at h;split at h
 ·cases h;exact Xi1 _
 ·cases h
def MG:G0:=y7
theorem Qo7(a b:Int):U2 VT 54 [.lst 1 2 (λk=>[i (if k=0 then a else b)])] (i (min a b)):=by
 refine U6 (L:=[]) (Ae TF Aa) U3 Tryz.func54 (UY Tryz.f54) U8 (t:=leaf (RV.x (.int .i64 (min (if 0=0 then a else b) (if 1=0 then a else b))))) VY ?_
 simp [VR.sat,GA,UI]
theorem PY:VU VT 54 MG:=by
 refine ⟨(UM Tryz.func54),?_⟩;intro avs ns res h hn;unfold MG y7 at h;split at h
 ·rename_i f;split at h
  ·rename_i a b h0 h1;cases h;refine (Qo7 a b).same (.cons (.lst 1 2 _ _ ?_) .nil);intro k hk;rcases (show k=0\/k=1 by omega) with rfl|rfl
   ·exact h0
   ·exact h1
  ·cases h
 ·cases h
def y8:G0:=fU
theorem TK(a b:Int):U2 VT 55 [.lst 1 2 (λk=>[i (if k=0 then a else b)])] (i (max a b)):=by
 refine U6 (L:=[]) (Ae Qb8 Aa) U3 Tryz.func55 (UY Tryz.f55) U8 (t:=leaf (RV.x (.int .i64 (max (if 0=0 then a else b) (if 1=0 then a else b))))) VY ?_
 simp [VR.sat,GA,UI]
theorem F4:VU VT 55 y8:=by
 refine ⟨(UM Tryz.func55),?_⟩;intro avs ns res h hn;unfold y8 fU at h;split at h
 ·rename_i f;split at h
  ·rename_i a b h0 h1;cases h;refine (TK a b).same (.cons (.lst 1 2 _ _ ?_) .nil);intro k hk;rcases (show k=0\/k=1 by omega) with rfl|rfl
   ·exact h0
   ·exact h1
  ·cases h
 ·cases h
def saB(f t q U O:Int):Bool:=bt 0 f 3&&bt 0 t 3&&(f != t)&&bt 1 q 1000&&bt 0 U 100&&bt 0 O 100&&decide (U<=O)
abbrev sls(n:Nat)(f t q U O:Nat->Int):AV:= .lst 5 n (λk=>[i (f k),i (t k),i (q k),i (U k),i (O k)])
def NE(d:Int)(n:Nat):Bool:=Xp5 (d / 2^n) 1==1
theorem Xg9{f t q U O:Int}:saB f t q U O=true↔(0<=f/\f<=3)/\(0<=t/\t<=3)/\f≠t/\(1<=q/\q<=1000)/\(0<=U/\U<=100)/\(0<=O/\O<=100)/\U<=O:=by
 simp [saB,bt_iff,and_assoc]
theorem cH{q:Nat}(h:q<2^40):IntKind.i64.wrap (q:Int)=q:=by
 have e:IntKind.i64.wrap (q:Int)=if (true&&decide ((q:Int)%2^64>=2^63))=true then (q:Int)%2^64-2^64 else (q:Int)%2^64:=rfl
 have e2:(q:Int)%2^64=q:=Int.emod_eq_of_lt VO VO;rw [e,e2,if_neg];rw [Bool.true_and,y6];omega
theorem t9{z:Nat}(hz:z<8192):(BitVec.ofInt 64 (z:Int)).toNat=z:=by
 rw [BitVec.toNat_ofInt];omega
theorem Xi7{x y:Nat}(hx:x<8192)(hy:y<8192):orI x y=((x ||| y:Nat):Int):=by
 unfold orI;rw [BitVec.toNat_or,t9 hx,t9 hy];have hlt:x ||| y<2^13:=Nat.or_lt_two_pow VO VO
 exact cH VO
theorem Wy5{x:Nat}(hx:x<8192):Xp5 x 1=((x%2:Nat):Int):=by
 unfold Xp5;rw [BitVec.toNat_and,t9 hx,show (BitVec.ofInt 64 1).toNat=1 from rfl,Nat.and_one_is_mod];exact cH VO
theorem Zp5(d n:Nat):((d:Int) / 2^n)=((d / 2^n:Nat):Int):=by
 rw [Int.natCast_ediv,Int.natCast_pow];rfl
theorem Wr8{d n:Nat}(hd:d<8192):NE d n=d.testBit n:=by
 unfold NE;rw [Zp5,Wy5 (Nat.lt_of_le_of_lt (Nat.div_le_self _ _) hd),Nat.testBit_eq_decide_div_mod_eq,Bool.eq_iff_iff,beq_iff_eq,y6];omega
def tK:G0
 |[.x (.int .i64 d),.x (.int .i64 n)]=>some ([0<=n/\n<=64],bl (NE d n.toNat))
 |_=>none
theorem Xi0(d n:Int)(VW:0<=n/\n<=64):U2 VT 81 [i d,i n] (bl (NE d n.toNat)):=by
 refine H3 Tryz.func81 (t:=need [(0:Int)<=n/\n<=64] (leaf (RV.x (.bool (IntKind.wrap IntKind.i64 (↑(BitVec.toNat (BitVec.ofInt 64 (d / (2:Int)^Int.toNat n) &&& BitVec.ofInt 64 (1:Int))):Int)==1))))) VY ?_;exact V5
theorem AG:VU VT 81 tK:=by
 refine ⟨(UM Tryz.func81),?_⟩;intro avs ns res h hn;unfold tK at h;split at h
 ·cases h;exact Xi0 _ _ (hn _ VZ)
 ·cases h
def Qi6:G0
 |[.agg [.x (.int .i64 4),.x (.int .i64 10),.lst 5 n f],.agg [.x (.int .i64 a),.x (.int .i64 b),.x (.int .i64 c),.x (.int .i64 U),.x (.int .i64 O)]]=>some ([],bl (saB a b c U O))
 |_=>none
theorem Wf8(f:Nat->List AV)(n:Nat)(a b c U O:Int):U2 VT 77 [.agg [i 4,i 10,.lst 5 n f],.agg [i a,i b,i c,i U,i O]] (bl (saB a b c U O)):=by
 refine U6 (L:=[]) (Ae zU (Ae AH Aa)) U3 Tryz.func77 (UY Tryz.f77) U8 (t:=need [VQ ((4:Int)-1)] (branch (bt (0:Int) a ((4:Int)-1)) (need [VQ ((4:Int)-1)] (branch (bt (0:Int) b ((4:Int)-1)) (branch (a != b) (branch (bt (1:Int) c (1000:Int)) (branch (bt (0:Int) U (100:Int)) (branch (bt (0:Int) O (100:Int)) (leaf (RV.x (.bool (decide (U<=O))))) (leaf (RV.x (WN)))) (leaf (RV.x (WN)))) (leaf (RV.x (WN)))) (leaf (RV.x (WN)))) (leaf (RV.x (WN))))) (leaf (RV.x (WN))))) VY ?_;simp only [VR.sat,UF,GA,GR,UI,UL,VQ,saB];refine ⟨VO,?_⟩;cases h1:bt 0 a 3<;>cases h2:bt 0 b 3<;>cases h3:(a != b)<;>cases h4:bt 1 c 1000<;>cases h5:bt 0 U 100<;>cases h6:bt 0 O 100<;>simp [h1,h2,h3,h4,h5,h6]
theorem Wf7:VU VT 77 Qi6:=by
 refine ⟨(UM Tryz.func77),?_⟩;intro avs ns res h hn;unfold Qi6 at h;split at h
 ·cases h;exact Wf8 _ _ _ _ _ _ _
 ·cases h
def Qi7:G0
 |[.agg [.x (.int .i64 a),.x (.int .i64 b),.x (.int .i64 c),.x (.int .i64 U),.x (.int .i64 O)],.ro [.fn (.func 77) [.agg [.x (.int .i64 4),.x (.int .i64 10),.lst 5 n f]] []]]=>some ([],bl (!saB a b c U O))
 |_=>none
theorem Wg2(f:Nat->List AV)(n:Nat)(a b c U O:Int):U2 VT 107 [.agg [i a,i b,i c,i U,i O],.ro [.fn (.func 77) [.agg [i 4,i 10,.lst 5 n f]] []]] (bl (!saB a b c U O)):=by
 refine U6 (L:=[]) (Ae Wf7 Aa) U3 Tryz.func107 (UY Tryz.f107) U8 (t:=leaf (RV.x (.bool !saB a b c U O))) VY ?_;exact V5
theorem eU:VU VT 107 Qi7:=by
 refine ⟨(UM Tryz.func107),?_⟩;intro avs ns res h hn;unfold Qi7 at h;split at h
 ·cases h;exact Wg2 _ _ _ _ _ _ _
 ·cases h
def nsB(a b c U O:Nat->Int)(j:Nat):Bool:= !saB (a j) (b j) (c j) (U j) (O j)
def jO(n:Nat)(a b c U O:Nat->Int):Bool:=DF (λj=>saB (a j) (b j) (c j) (U j) (O j)) n
abbrev Q0(n:Nat)(a:Nat->Int)(b:Nat->Int)(c:Nat->Int)(U:Nat->Int)(O:Nat->Int):AV:=lst 5 n λk=>[iI (a k),iI (b k),iI (c k),iI (U k),iI (O k)]
abbrev WK(n1:Nat)(f:Nat->List AV):AV:=AV.fn (Fn.func 107) [] [AV.ro [AV.fn (Fn.func 77) [agg [iI 4,iI 10,lst 5 n1 λa=>f a]] []]]
section
variable (n:Nat)(a b c U O:Nat->Int)(f:Nat->List AV)(n1:Nat)
def MR:St:={σ:=[Q0 n a b c U O,WK n1 f]++HO 5 [iI (n:Int)]++HO 11 [],m:=[],nx:=4}
noncomputable def Xf3:Code:=UE (VX (UB Tryz.f139) 0)
def iS(k:Nat):St:=(upM [(8,i k)] (MR n a b c U O f n1))
def xS(k:Nat):GB->Option St
 | .ret=>some (upM [(4,i (H0 ((nsB a b c U O)) n))] (MR n a b c U O f n1))
 | .exit 0=>some (upM [] (MR n a b c U O f n1))
 |_=>none
def Wz1:CT:= .branch (decide (H0 ((nsB a b c U O)) n<n)) (.leaf (.ret,(xS n a b c U O f n1 0 .ret).getD (MR n a b c U O f n1))) (.leaf (.exit 0,(xS n a b c U O f n1 0 (.exit 0)).getD (MR n a b c U O f n1)))
def Ql8:UN:=(HM (iS n a b c U O f n1 (0)) (Wz1 n a b c U O f n1))
end
abbrev W5(n:Nat)(a:Nat->Int)(b:Nat->Int)(c:Nat->Int)(U:Nat->Int)(O:Nat->Int):Prop:=(Q0 n a b c U O)=Q0 n a b c U O
theorem VI{p:Prop}(h:p:=by
 refine ⟨by have:=Xl4 hk hb;omega,λE hE=>?_⟩
 cases hE;exact hQ.1 (by rw [Xl4 hk hb];exact hk)):p:=h
section
variable (n:Nat)(a b c U O:Nat->Int)(f:Nat->List AV)(n1:Nat)
theorem Xf6(VW:n<=100000):GC VT (.loop Xf3) (Ql8 n a b c U O f n1):=by
 refine HL (L:=[]) (Ae eU Aa) U3 U8 (X:=Nat) (iS n a b c U O f n1) (λk=>k<=n/\ ∀j,j<k->(nsB a b c U O) j=false) (λk=>n-k) (xS n a b c U O f n1) (x0:=0) ⟨VO,λj hj=>VO⟩ ?_ ?_ ?_
 ·rintro k;kernel_rfl
 ·rintro k y E h;unfold xS at h;split at h
  ·cases h;kernel_rfl
  ·cases h;kernel_rfl
  ·cases h
 ·rintro Q hQ k hx;refine ⟨(k+1),?_⟩;(with_reducible refine DN (t:=branch (decide ((k:Int)<(n:Int))) (need [UO k n] (branch (!saB (a k) (b k) (c k) (U k) (O k)) (need [W5 n a b c U O,U4 (WK n1 f),(k:Int)=(↑(H0 (nsB a b c U O) n):Int),U4 (n:Int)] (leaf GB.ret)) (need [VQ ((k:Int)+1)] (need [W5 n a b c U O,U4 (WK n1 f),U4 (n:Int),(k:Int)+1=(↑(k+1):Int)] (leaf GB.normal))))) (need [W5 n a b c U O,U4 (WK n1 f),U4 (n:Int)] (leaf (GB.exit 0)))) VY ?_);simp only [Wz1,xS,VR.sat,GZ,HD] at hQ;simp only [VR.sat,UF,UL,HD,VQ,xS,DR];have Xl4:k<n->((nsB a b c U O)) k=true->H0 ((nsB a b c U O)) n=k:=λh hb=>jD h hb hx.2
  have PL: ¬k<n->H0 ((nsB a b c U O)) n=n:=λh=>qJ (λj hj=>hx.2 j VO)
  have hgo:((nsB a b c U O)) k=false-> ∀j,j<k+1->((nsB a b c U O)) j=false:=by
   intro hb j hj;rcases (show j<k\/j=k by omega) with h1|rfl
   ·exact hx.2 j h1
   ·exact hb
  refine ⟨λh=>⟨VO,?_⟩,λh=>?_⟩
  rotate_left
  ·intro E hE;cases hE;exact hQ.2 (by rw [PL VO];omega)
  have hk:k<n:=VO;refine ⟨λhb=>?_,λhb=>?_⟩
  ·exact VI
  ·exact ⟨VO,VO,⟨VO,hgo hb⟩,VO⟩
theorem Zk1(VW:n<=100000):U2 VT 139 [sls n a b c U O,.fn (.func 107) [] [.ro [.fn (.func 77) [.agg [i 4,i 10,.lst 5 n1 f]] []]]] (i (if H0 ((nsB a b c U O)) n<n then (H0 ((nsB a b c U O)) n:Int) else -1)):=by
 refine U6 (L:=[Ql8 n a b c U O f n1]) (Ae eU Aa) U3 Tryz.func139 (UY Tryz.f139) (G4 (lpE (b:= .loop Xf3) VY<|Xf6 n a b c U O f n1 VW)) (t:=need [W5 n a b c U O,U4 (WK n1 f),U4 (n:Int),(0:Int)=(↑(0:Nat):Int)] (branch (decide (H0 (nsB a b c U O) n<n)) (leaf (RV.x (.int .i64 (↑(H0 (nsB a b c U O) n):Int)))) (leaf (RV.x (KL))))) VY ?_
 exact VG
end
def Xx1:G0
 |[.lst 5 n f,.fn (.func 107) [] [.ro [.fn (.func 77) [.agg [.x (.int .i64 4),.x (.int .i64 10),.lst 5 n1 f1]] []]]]=>some ([UJ 5 n f,n<=100000],i (if H0 (nsB (col 0 f) (col 1 f) (col 2 f) (col 3 f) (col 4 f)) n<n then (H0 (nsB (col 0 f) (col 1 f) (col 2 f) (col 3 f) (col 4 f)) n:Int) else -1))
 |_=>none
theorem Zk0:VU VT 139 Xx1:=by
 refine ⟨(UM Tryz.func139),?_⟩;intro avs ns res h hn;unfold Xx1 at h;split at h
 ·cases h;have hr:_:=hn _ (GK);have hr1:_:=hn _ (HX _ (GK));exact (Zk1 _ (col 0 _) (col 1 _) (col 2 _) (col 3 _) (col 4 _) _ _ hr1).same (.cons (.lst 5 _ _ _ hr) (.cons (.refl _) .nil))
 ·cases h
theorem Zk3(n:Nat)(a b c U O:Nat->Int)(f:Nat->List AV)(n1:Nat)(VW:n<=100000):U2 VT 106 [sls n a b c U O,.fn (.func 107) [] [.ro [.fn (.func 77) [.agg [i 4,i 10,.lst 5 n1 f]] []]]] (bl (!jO n a b c U O)):=by
 refine U6 (L:=[]) (Ae Zk0 Aa) U3 Tryz.func106 (UY Tryz.f106) U8 (t:=need [UJ 5 n λk=>[i (a k),i (b k),i (c k),i (U k),i (O k)],n<=100000] (leaf (RV.x (.bool (decide ((if H0 (nsB a b c U O) n<n then (↑(H0 (nsB a b c U O) n):Int) else (-1:Int))>=(0:Int))))))) VY ?_
 simp only [VR.sat,UF,GA,UI,UL];refine ⟨⟨λ_ _=>rfl,VW⟩,?_⟩
 unfold jO;rw [kZ];have:=F0 (nsB a b c U O) n;have e:(λk=> !(λk=>saB (a k) (b k) (c k) (U k) (O k)) k)=nsB a b c U O:=rfl
 rw [e];show decide ((if H0 (nsB a b c U O) n<n then (H0 (nsB a b c U O) n:Int) else -1)>=0)=_
 split<;>simp<;>omega
def Xx2:G0
 |[.lst 5 n f,.fn (.func 107) [] [.ro [.fn (.func 77) [.agg [.x (.int .i64 4),.x (.int .i64 10),.lst 5 n1 f1]] []]]]=>some ([UJ 5 n f,n<=100000],bl (!jO n (col 0 f) (col 1 f) (col 2 f) (col 3 f) (col 4 f)))
 |_=>none
theorem Zk2:VU VT 106 Xx2:=by
 refine ⟨(UM Tryz.func106),?_⟩;intro avs ns res h hn;unfold Xx2 at h;split at h
 ·cases h;have hr:_:=hn _ (GK);have hr1:_:=hn _ (HX _ (GK));exact (Zk3 _ (col 0 _) (col 1 _) (col 2 _) (col 3 _) (col 4 _) _ _ hr1).same (.cons (.lst 5 _ _ _ hr) (.cons (.refl _) .nil))
 ·cases h
theorem Xi3(n:Nat)(a b c U O:Nat->Int)(f:Nat->List AV)(n1:Nat)(VW:n<=100000):U2 VT 78 [sls n a b c U O,.fn (.func 77) [.agg [i 4,i 10,.lst 5 n1 f]] []] (bl (jO n a b c U O)):=by
 refine U6 (L:=[]) (Ae Zk2 Aa) U3 Tryz.func78 (UY Tryz.f78) U8 (t:=need [UJ 5 n λk=>[i (a k),i (b k),i (c k),i (U k),i (O k)],n<=100000] (leaf (RV.x (.bool !!jO n a b c U O)))) VY ?_
 simp only [VR.sat,UF,GA,UI,UL];refine ⟨⟨λ_ _=>rfl,VW⟩,?_⟩
 show (!!jO n a b c U O)=_;simp
def Wz9:G0
 |[.lst 5 n f,.fn (.func 77) [.agg [.x (.int .i64 4),.x (.int .i64 10),.lst 5 n1 f1]] []]=>some ([UJ 5 n f,n<=100000],bl (jO n (col 0 f) (col 1 f) (col 2 f) (col 3 f) (col 4 f)))
 |_=>none
theorem Xi2:VU VT 78 Wz9:=by
 refine ⟨(UM Tryz.func78),?_⟩;intro avs ns res h hn;unfold Wz9 at h;split at h
 ·cases h;have hr:_:=hn _ (GK);have hr1:_:=hn _ (HX _ (GK));exact (Xi3 _ (col 0 _) (col 1 _) (col 2 _) (col 3 _) (col 4 _) _ _ hr1).same (.cons (.lst 5 _ _ _ hr) (.cons (.refl _) .nil))
 ·cases h
theorem O4(n:Nat)(a b c U O:Nat->Int)(VW:n<=8):U2 VT 48 [.agg [i 4,i 10,sls n a b c U O]] (i (if jO n a b c U O then 0 else 1)):=by
 refine U6 (L:=[]) (Ae Xi2 (Ae zU Aa)) U3 Tryz.func48 (UY Tryz.f48) U8 (t:=branch (decide ((n:Int)>8)) (leaf (RV.x (KN))) (branch (!bt (1:Int) (4:Int) (6:Int)) (leaf (RV.x (JY))) (branch (!bt (0:Int) (10:Int) (1000:Int)) (leaf (RV.x (JY))) (need [UJ 5 n λk=>[i (a k),i (b k),i (c k),i (U k),i (O k)],n<=100000] (branch (!jO n a b c U O) (leaf (RV.x (JY))) (leaf (RV.x (X2)))))))) VY ?_
 simp only [VR.sat,UF,GA,UI,UL];have h1:(!bt 1 4 6)=false:=by decide
 have h2:(!bt 0 10 1000)=false:=by decide
 rw [h1,h2];refine ⟨λh=>absurd h (by simp;omega),λ_=>⟨λh=>(Bool.noConfusion h),λ_=>⟨λh=>(Bool.noConfusion h),λ_=>⟨⟨λ_ _=>rfl,VO⟩,λh=>?_,λh=>?_⟩⟩⟩⟩
 ·rw [Ax] at h;rw [h];rfl
 ·rw [Bool.not_eq_false'] at h;rw [h];rfl
def sg0(k:Nat):Int:=if k=0 then 10 else 0
def sld(F:Nat->Int)(a b c:Int)(k:Nat):Int:=if (k:Int)=b then (if (k:Int)=a then F k-c else F k)+c else if (k:Int)=a then F k-c else F k
abbrev sgs(F:Nat->Int):AV:= .agg [i (F 0),i (F 1),i (F 2),i (F 3),i (F 4),i (F 5)]
def mO:G0
 |[.agg [.x (.int .i64 4),.x (.int .i64 10),.lst 5 n f]]=>some ([],.agg [i 10,i 0,i 0,i 0,i 0,i 0])
 |_=>none
abbrev Q3:List Int:=[(0:Int),0,0,0,0,0]
theorem Qo9(f:Nat->List AV)(n:Nat):U2 VT 80 [.agg [i 4,i 10,.lst 5 n f]] (.agg [i 10,i 0,i 0,i 0,i 0,i 0]):=by
 refine H3 Tryz.func80 (t:=let W:=(UV 4 (UV 0 (10:Int) (BR Q3) 4) (UV 3 (UV 0 (10:Int) (BR Q3) 3) (UV 2 (UV 0 (10:Int) (BR Q3) 2) (UV 1 (UV 0 (10:Int) (BR Q3) 1) (UV 0 (UV 0 (10:Int) (BR Q3) 0) (jV 0 [(10:Int)] (BR Q3)))))));let z1:=(UV 0 (10:Int) (BR Q3) 5);(need [UO 0 6] (need [1<=6] (need [6<=6] (need [6<=6] (leaf (RV.agg [RV.x (.int .i64 (UV 5 z1 W 0)),RV.x (.int .i64 (UV 5 z1 W 1)),RV.x (.int .i64 (UV 5 z1 W 2)),RV.x (.int .i64 (UV 5 z1 W 3)),RV.x (.int .i64 (UV 5 z1 W 4)),RV.x (.int .i64 (UV 5 z1 W 5))]))))))) VY ?_;exact V5
theorem O0:VU VT 80 mO:=by
 refine ⟨(UM Tryz.func80),?_⟩;intro avs ns res h hn;unfold mO at h;split at h
 ·cases h;exact Qo9 _ _
 ·cases h
theorem Wf6(F:Nat->Int)(a b c U O:Int)(VW: ∀k,k<6-> -1000000<=F k/\F k<=1000000)(UK:0<=a/\a<=3)(HY:0<=b/\b<=3)(F8:a≠b)(BX:1<=c/\c<=1000):U2 VT 82 [sgs F,.agg [i a,i b,i c,i U,i O]] (sgs (sld F a b c)):=by
 refine H3 Tryz.func82 (t:=let z1:=(jV (Int.toNat a*1+0) [UD [F 0,F 1,F 2,F 3,F 4,F 5] (Int.toNat a*1+0)-c] (UD [F 0,F 1,F 2,F 3,F 4,F 5]));let W:=(UV 4 (UV (Int.toNat b*1+0) (UV (Int.toNat a*1+0) (UD [F 0,F 1,F 2,F 3,F 4,F 5] (Int.toNat a*1+0)-c) (UD [F 0,F 1,F 2,F 3,F 4,F 5]) (Int.toNat b*1+0)+c) z1 4) (UV 3 (UV (Int.toNat b*1+0) (UV (Int.toNat a*1+0) (UD [F 0,F 1,F 2,F 3,F 4,F 5] (Int.toNat a*1+0)-c) (UD [F 0,F 1,F 2,F 3,F 4,F 5]) (Int.toNat b*1+0)+c) z1 3) (UV 2 (UV (Int.toNat b*1+0) (UV (Int.toNat a*1+0) (UD [F 0,F 1,F 2,F 3,F 4,F 5] (Int.toNat a*1+0)-c) (UD [F 0,F 1,F 2,F 3,F 4,F 5]) (Int.toNat b*1+0)+c) z1 2) (UV 1 (UV (Int.toNat b*1+0) (UV (Int.toNat a*1+0) (UD [F 0,F 1,F 2,F 3,F 4,F 5] (Int.toNat a*1+0)-c) (UD [F 0,F 1,F 2,F 3,F 4,F 5]) (Int.toNat b*1+0)+c) z1 1) (UV 0 (UV (Int.toNat b*1+0) (UV (Int.toNat a*1+0) (UD [F 0,F 1,F 2,F 3,F 4,F 5] (Int.toNat a*1+0)-c) (UD [F 0,F 1,F 2,F 3,F 4,F 5]) (Int.toNat b*1+0)+c) z1 0) (BR Q3))))));let z2:=(UV (Int.toNat b*1+0) (UV (Int.toNat a*1+0) (UD [F 0,F 1,F 2,F 3,F 4,F 5] (Int.toNat a*1+0)-c) (UD [F 0,F 1,F 2,F 3,F 4,F 5]) (Int.toNat b*1+0)+c) z1 5);(need [UO a 6] (need [Int.toNat a*1+0<List.length [F 0,F 1,F 2,F 3,F 4,F 5]] (need [VQ (UD [F 0,F 1,F 2,F 3,F 4,F 5] (Int.toNat a*1+0)-c)] (need [UO a 6] (need [Int.toNat a*1+0+List.length [UD [F 0,F 1,F 2,F 3,F 4,F 5] (Int.toNat a*1+0)-c]<=List.length [F 0,F 1,F 2,F 3,F 4,F 5]] (need [UO b 6] (need [Int.toNat b*1+0<List.length [F 0,F 1,F 2,F 3,F 4,F 5]] (need [VQ (UV (Int.toNat a*1+0) (UD [F 0,F 1,F 2,F 3,F 4,F 5] (Int.toNat a*1+0)-c) (UD [F 0,F 1,F 2,F 3,F 4,F 5]) (Int.toNat b*1+0)+c)] (need [UO b 6] (need [Int.toNat b*1+0+List.length [UV (Int.toNat a*1+0) (UD [F 0,F 1,F 2,F 3,F 4,F 5] (Int.toNat a*1+0)-c) (UD [F 0,F 1,F 2,F 3,F 4,F 5]) (Int.toNat b*1+0)+c]<=List.length [F 0,F 1,F 2,F 3,F 4,F 5]] (need [6<=List.length [F 0,F 1,F 2,F 3,F 4,F 5]] (need [0+List.length [UV (Int.toNat b*1+0) (UV (Int.toNat a*1+0) (UD [F 0,F 1,F 2,F 3,F 4,F 5] (Int.toNat a*1+0)-c) (UD [F 0,F 1,F 2,F 3,F 4,F 5]) (Int.toNat b*1+0)+c) z1 0,UV (Int.toNat b*1+0) (UV (Int.toNat a*1+0) (UD [F 0,F 1,F 2,F 3,F 4,F 5] (Int.toNat a*1+0)-c) (UD [F 0,F 1,F 2,F 3,F 4,F 5]) (Int.toNat b*1+0)+c) z1 1,UV (Int.toNat b*1+0) (UV (Int.toNat a*1+0) (UD [F 0,F 1,F 2,F 3,F 4,F 5] (Int.toNat a*1+0)-c) (UD [F 0,F 1,F 2,F 3,F 4,F 5]) (Int.toNat b*1+0)+c) z1 2,UV (Int.toNat b*1+0) (UV (Int.toNat a*1+0) (UD [F 0,F 1,F 2,F 3,F 4,F 5] (Int.toNat a*1+0)-c) (UD [F 0,F 1,F 2,F 3,F 4,F 5]) (Int.toNat b*1+0)+c) z1 3,UV (Int.toNat b*1+0) (UV (Int.toNat a*1+0) (UD [F 0,F 1,F 2,F 3,F 4,F 5] (Int.toNat a*1+0)-c) (UD [F 0,F 1,F 2,F 3,F 4,F 5]) (Int.toNat b*1+0)+c) z1 4,UV (Int.toNat b*1+0) (UV (Int.toNat a*1+0) (UD [F 0,F 1,F 2,F 3,F 4,F 5] (Int.toNat a*1+0)-c) (UD [F 0,F 1,F 2,F 3,F 4,F 5]) (Int.toNat b*1+0)+c) z1 5]<=6] (leaf (RV.agg [RV.x (.int .i64 (UV 5 z2 W 0)),RV.x (.int .i64 (UV 5 z2 W 1)),RV.x (.int .i64 (UV 5 z2 W 2)),RV.x (.int .i64 (UV 5 z2 W 3)),RV.x (.int .i64 (UV 5 z2 W 4)),RV.x (.int .i64 (UV 5 z2 W 5))]))))))))))))))) VY ?_;simp only [VR.sat,UF,GA,GR,UI,UL,VQ];obtain ⟨A,rfl⟩: ∃A:Nat,a=A:=⟨a.toNat,VO⟩;obtain ⟨B,rfl⟩: ∃B:Nat,b=B:=⟨b.toNat,VO⟩;have h0:=VW 0 VO;have h1:=VW 1 VO;have h2:=VW 2 VO;have h3:=VW 3 VO
 have h4:=VW 4 VO;have h5:=VW 5 VO;rcases (show A=0\/A=1\/A=2\/A=3 by omega) with rfl|rfl|rfl|rfl<;>rcases (show B=0\/B=1\/B=2\/B=3 by omega) with rfl|rfl|rfl|rfl<;>first|(exfalso;omega)|(simp [GT,UV,UD,sld];omega)
def Qi5:G0
 |[.agg [.x (.int .i64 s0),.x (.int .i64 s1),.x (.int .i64 s2),.x (.int .i64 s3),.x (.int .i64 s4),.x (.int .i64 s5)],.agg [.x (.int .i64 a),.x (.int .i64 b),.x (.int .i64 c),.x (.int .i64 U),.x (.int .i64 O)]]=>some ([-1000000<=s0/\s0<=1000000,-1000000<=s1/\s1<=1000000,-1000000<=s2/\s2<=1000000,-1000000<=s3/\s3<=1000000,-1000000<=s4/\s4<=1000000,-1000000<=s5/\s5<=1000000,0<=a/\a<=3,0<=b/\b<=3,a≠b,1<=c/\c<=1000],sgs (sld (UD [s0,s1,s2,s3,s4,s5]) a b c))
 |_=>none
def sV(n:Nat)(a b c U O:Nat->Int):Prop:=n<=8/\ ∀k,k<n->saB (a k) (b k) (c k) (U k) (O k)=true
def stF(a b c:Nat->Int)(d:Int):Nat->Nat->Int
 | 0=>sg0
 |k+1=>if NE d k then sld (stF a b c d k) (a k) (b k) (c k) else stF a b c d k
theorem eS:VU VT 82 Qi5:=by
 refine ⟨(UM Tryz.func82),?_⟩;intro avs ns res h hn;unfold Qi5 at h;split at h
 ·cases h;rename_i s0 s1 s2 s3 s4 s5 a b c U O;refine Wf6 (UD [s0,s1,s2,s3,s4,s5]) a b c U O ?_ (hn _ VZ) (hn _ VZ) (hn _ VZ) (hn _ VZ);intro k hk
  match k,hk with
  | 0,_=>exact hn (-1000000<=s0/\s0<=1000000) VZ
  | 1,_=>exact hn (-1000000<=s1/\s1<=1000000) VZ
  | 2,_=>exact hn (-1000000<=s2/\s2<=1000000) VZ
  | 3,_=>exact hn (-1000000<=s3/\s3<=1000000) VZ
  | 4,_=>exact hn (-1000000<=s4/\s4<=1000000) VZ
  | 5,_=>exact hn (-1000000<=s5/\s5<=1000000) VZ
 ·cases h
theorem upd6(F:Nat->Int)(a b c:Int)(q:Nat)(hq:q<6):
  UV 5 (sld (UD [F 0,F 1,F 2,F 3,F 4,F 5]) a b c 5) (UV 4 (sld (UD [F 0,F 1,F 2,F 3,F 4,F 5]) a b c 4) (UV 3 (sld (UD [F 0,F 1,F 2,F 3,F 4,F 5]) a b c 3)
   (UV 2 (sld (UD [F 0,F 1,F 2,F 3,F 4,F 5]) a b c 2) (UV 1 (sld (UD [F 0,F 1,F 2,F 3,F 4,F 5]) a b c 1) (UV 0 (sld (UD [F 0,F 1,F 2,F 3,F 4,F 5]) a b c 0) F))))) q=sld F a b c q:=by
 match q,hq with
 | 0,_=>rfl
 | 1,_=>rfl
 | 2,_=>rfl
 | 3,_=>rfl
 | 4,_=>rfl
 | 5,_=>rfl
theorem Xu0(F:Nat->Int)(x0 x1 x2 x3 x4 x5:Int)(q:Nat)(hq:q<6):
  UV 5 x5 (UV 4 x4 (UV 3 x3 (UV 2 x2 (UV 1 x1 (UV 0 x0 F))))) q=UD [x0,x1,x2,x3,x4,x5] q:=by
 match q,hq with
 | 0,_=>rfl
 | 1,_=>rfl
 | 2,_=>rfl
 | 3,_=>rfl
 | 4,_=>rfl
 | 5,_=>rfl
theorem Qb7{n:Nat}{a b c U O:Nat->Int}(h:sV n a b c U O){k:Nat}(hk:k<n):(0<=a k/\a k<=3)/\(0<=b k/\b k<=3)/\a k≠b k/\(1<=c k/\c k<=1000)/\(0<=U k/\U k<=100)/\(0<=O k/\O k<=100)/\U k<=O k:=Xg9.1 (h.2 k hk)
theorem Wd0{n:Nat}{a b c U O:Nat->Int}(h:sV n a b c U O)(d:Int): ∀k,k<=n-> ∀j,-(1000*k:Int)<=stF a b c d k j/\stF a b c d k j<=10+1000*k
 | 0,_,j=>by
  simp only [stF,sg0];split<;>omega
 |k+1,hk,j=>by
  obtain ⟨_,_,h3,h4,_⟩:=Qb7 h (show k<n by omega)
  have ih:=Wd0 h d k VO j;simp only [stF];split
  ·unfold sld
   repeat' split
   all_goals omega
  ·omega
theorem Zf8{n:Nat}{a b c U O:Nat->Int}(h:sV n a b c U O)(d:Int){k:Nat}(hk:k<=n)(j:Nat): -1000000<=stF a b c d k j/\stF a b c d k j<=1000000:=by
 have:=Wd0 h d k hk j;have:=h.1;omega
abbrev QQ(n:Nat)(a:Nat->Int)(b:Nat->Int)(c:Nat->Int)(U:Nat->Int)(O:Nat->Int)(ea:AV)(la:AV):AV:=AV.ro [iI 4,iI 10,Q0 n a b c U O,ea,la]
section
variable (ea la:AV)(n:Nat)(a b c U O:Nat->Int)(d:Int)
def Zs6:St:={σ:=[QQ n a b c U O ea la,iI d,top,top,ptr 0 0,ptr 6 0]++HO 11 [Q0 n a b c U O,iI (n:Int)]++HO 13 [],m:=[(6,GU.ints 137 [] 6 λa=>UV 5 (0:Int) (UV 4 (0:Int) (UV 3 (0:Int) (UV 2 (0:Int) (UV 1 (0:Int) (UV 0 (10:Int) (BR Q3)))))) a),(0,GU.ints 137 [] 6 λa=>(0:Int))],nx:=15}
noncomputable def Jr9:Code:=UE (VX (UB Tryz.f53) 0)
def Wk8(k:Nat):St:={σ:=H6 [(6,.top),(7,.top),(19,i k)] (Zs6 ea la n a b c U O d).σ,m:=[(6,.ints 137 [] 6 (stF a b c d (k))),(0,.ints 137 [] 6 (λ_=>0))],nx:=15}
def CV(k:Nat):GB->Option St
 | .exit 0=>some {σ:=H6 [(6,.top),(7,.top),(19,i n)] (Zs6 ea la n a b c U O d).σ,m:=[(6,.ints 137 [] 6 (stF a b c d (n))),(0,.ints 137 [] 6 (λ_=>0))],nx:=15}
 |_=>none
def Jn3:CT:= .leaf (.exit 0,(CV ea la n a b c U O d 0 (.exit 0)).getD (Zs6 ea la n a b c U O d))
def Xy3:UN:=(HM (Wk8 ea la n a b c U O d (0)) (Jn3 ea la n a b c U O d))
end
abbrev ZP(n:Nat)(a:Nat->Int)(b:Nat->Int)(c:Nat->Int)(U:Nat->Int)(O:Nat->Int)(ea:AV)(la:AV):Prop:=QQ n a b c U O ea la=QQ n a b c U O ea la
section
variable (ea la:AV)(n:Nat)(a b c U O:Nat->Int)(d:Int)
theorem Ja2(VW:sV n a b c U O)(UK:0<=d/\d<256):GC VT (.loop Jr9) (Xy3 ea la n a b c U O d):=by
 refine HL (L:=[]) (Ae AG (Ae eS (Ae O0 Aa))) U3 U8 (X:=Nat) (Wk8 ea la n a b c U O d) (λk=>k<=n) (λk=>n-k) (CV ea la n a b c U O d) (x0:=0) VO ?_ ?_ ?_
 ·rintro k;kernel_rfl
 ·rintro k y E h;unfold CV at h;split at h
  ·cases h;kernel_rfl
  ·cases h
 ·rintro Q hQ k hx;refine ⟨(k+1),?_⟩;(with_reducible refine DN (t:=let z1:=stF a b c d k;let W:=(UD [z1 0,z1 1,z1 2,z1 3,z1 4,z1 5]);(branch (decide ((k:Int)<(n:Int))) (need [UO k n] (need [(0:Int)<=(k:Int)/\(k:Int)<=64] (branch (NE d k) (need [6<=6] (need [(-1000000:Int)<=z1 0/\z1 0<=1000000,(-1000000:Int)<=z1 1/\z1 1<=1000000,(-1000000:Int)<=z1 2/\z1 2<=1000000,(-1000000:Int)<=z1 3/\z1 3<=1000000,(-1000000:Int)<=z1 4/\z1 4<=1000000,(-1000000:Int)<=z1 5/\z1 5<=1000000,(0:Int)<=a k/\a k<=3,(0:Int)<=b k/\b k<=3,a k≠b k,(1:Int)<=c k/\c k<=1000] (need [0+List.length [sld W (a k) (b k) (c k) 0,sld W (a k) (b k) (c k) 1,sld W (a k) (b k) (c k) 2,sld W (a k) (b k) (c k) 3,sld W (a k) (b k) (c k) 4,sld W (a k) (b k) (c k) 5]<=6] (need [VQ ((k:Int)+1)] (need [ZP n a b c U O ea la,d=d,QS,YT,W5 n a b c U O,U4 (n:Int),(k:Int)+1=(↑(k+1):Int),6=6,H2 6 (UV 5 (sld W (a k) (b k) (c k) 5) (UV 4 (sld W (a k) (b k) (c k) 4) (UV 3 (sld W (a k) (b k) (c k) 3) (UV 2 (sld W (a k) (b k) (c k) 2) (UV 1 (sld W (a k) (b k) (c k) 1) (UV 0 (sld W (a k) (b k) (c k) 0) (z1))))))) (stF a b c d (k+1)),6=6,∀(k:Nat),k<6->(0:Int)=0] (leaf GB.normal)))))) (need [VQ ((k:Int)+1)] (need [ZP n a b c U O ea la,d=d,QS,YT,W5 n a b c U O,U4 (n:Int),(k:Int)+1=(↑(k+1):Int),6=6,H2 6 z1 (stF a b c d (k+1)),6=6,∀(k:Nat),k<6->(0:Int)=0] (leaf GB.normal)))))) (need [ZP n a b c U O ea la,d=d,QS,YT,W5 n a b c U O,U4 (n:Int),(k:Int)=(n:Int),6=6,H2 6 z1 (stF a b c d n),6=6,∀(k:Nat),k<6->(0:Int)=0] (leaf (GB.exit 0))))) VY ?_);simp only [Jn3,CV,VR.sat,GZ] at hQ;simp only [VR.sat,UF,GA,GR,UI,VQ,UL,HD,RF,RG,L9,GT,CV]
  have h8:=VW.1;refine ⟨λh=>?_,λh=>?_⟩
  ·have hs:=Qb7 VW (show k<n by omega)
   have hl:=Zf8 VW d (show k<=n by omega)
   cases hb:NE d k
   ·(with_reducible repeat' first|apply Al|intro _)
    all_goals first|exact PU|(first|contradiction|(simp [stF,hb]))
   ·(with_reducible repeat' first|apply Al|intro _)
    all_goals first|exact PU|(first|contradiction|exact (hl _).1|exact (hl _).2|(simp only [stF,hb,if_true];exact upd6 _ _ _ _ _ (by assumption)))
  ·obtain rfl:k=n:=VO;exact V4
theorem oS(VW:sV n a b c U O)(UK:0<=d/\d<256):U2 VT 53 [.ro [i 4,i 10,sls n a b c U O,ea,la],i d] (sgs (stF a b c d n)):=by
 refine U6 (L:=[Xy3 ea la n a b c U O d]) (Ae AG (Ae eS (Ae O0 Aa))) U3 Tryz.func53 (UY Tryz.f53) (G4 (lpE (b:= .loop Jr9) VY<|Ja2 ea la n a b c U O d VW UK)) (t:=let z1:=stF a b c d n;let W:=(UV 4 (z1 4) (UV 3 (z1 3) (UV 2 (z1 2) (UV 1 (z1 1) (UV 0 (z1 0) λx=>(0:Int))))));(need [6<=6] (need [ZP n a b c U O ea la,d=d,QS,YT,W5 n a b c U O,U4 (n:Int),(0:Int)=(↑(0:Nat):Int),6=6,H2 6 (UV 5 (0:Int) (UV 4 (0:Int) (UV 3 (0:Int) (UV 2 (0:Int) (UV 1 (0:Int) (UV 0 (10:Int) (BR Q3))))))) (stF a b c d 0),6=6,∀(k:Nat),k<6->(0:Int)=0] (need [6<=6] (need [0+List.length [z1 0,z1 1,z1 2,z1 3,z1 4,z1 5]<=6] (leaf (RV.agg [RV.x (.int .i64 (UV 5 (z1 5) W 0)),RV.x (.int .i64 (UV 5 (z1 5) W 1)),RV.x (.int .i64 (UV 5 (z1 5) W 2)),RV.x (.int .i64 (UV 5 (z1 5) W 3)),RV.x (.int .i64 (UV 5 (z1 5) W 4)),RV.x (.int .i64 (UV 5 (z1 5) W 5))]))))))) VY ?_
 simp only [VR.sat,UF,GA,GR,UI,UL]
 (with_reducible repeat' first|apply Al|intro _)
 all_goals first|exact Ak|omega|with_reducible rfl|rfl|(simp;done)|skip
 rename_i q hq;rw [Xu0 _ _ _ _ _ _ _ q hq]
 match q,hq with
 | 0,_=>rfl
 | 1,_=>rfl
 | 2,_=>rfl
 | 3,_=>rfl
 | 4,_=>rfl
 | 5,_=>rfl
end
section
variable (n:Nat)(a b c U O:Nat->Int)
def fY:G0
 |[.ro [.x (.int .i64 4),.x (.int .i64 10),.lst 5 n1 f1,ea,la],.x (.int .i64 d)]=>some ([lst 5 n1 f1=sls n a b c U O,0<=d/\d<256],sgs (stF a b c d n))
 |_=>none
theorem wH(VW:sV n a b c U O):VU VT 53 (fY n a b c U O):=by
 refine ⟨(UM Tryz.func53),?_⟩;intro avs ns res h hn;unfold fY at h;split at h
 ·cases h;rename_i n1 f1 ea la d;have e:=hn _ GK;rw [e];exact oS ea la n a b c U O d VW (hn _ VZ)
 ·cases h
end
theorem gH{n:Nat}(h:n<=8):(1:Int)<=2^n/\(2:Int)^n<=256:=by
 rcases (show n=0\/n=1\/n=2\/n=3\/n=4\/n=5\/n=6\/n=7\/n=8 by omega) with rfl|rfl|rfl|rfl|rfl|rfl|rfl|rfl|rfl<;>decide
def MF:G0
 |[.ro [.x (.int .i64 4),.x (.int .i64 10),.lst 5 n f,ea,la]]=>some ([n<=8],i (2^n-1))
 |_=>none
theorem Qo5(ea la:AV)(n:Nat)(f:Nat->List AV)(VW:n<=8):U2 VT 51 [.ro [i 4,i 10,.lst 5 n f,ea,la]] (i (2^n-1)):=by
 refine H3 Tryz.func51 (t:=need [(0:Int)<=(n:Int)/\(n:Int)<=64,VQ ((1:Int)*2^n)] (need [VQ ((1:Int)*2^n-1)] (leaf (RV.x (.int .i64 ((1:Int)*2^n-1)))))) VY ?_;simp only [VR.sat,UF,GA,GR,UI,UL,Int.one_mul,VQ];have h:=gH VW;omega
theorem LJ:VU VT 51 MF:=by
 refine ⟨(UM Tryz.func51),?_⟩;intro avs ns res h hn;unfold MF at h;split at h
 ·cases h;exact Qo5 _ _ _ _ (hn _ VZ)
 ·cases h
def GE(p:Nat->Bool):Nat->Nat
 | 0=>0
 |k+1=>GE p k+(match p k with|true=>1|false=>0)
def UX(p:Nat->Bool)(n q:Nat):Nat:=H0 (λj=>p j&&Nat.beq (GE p j) q) n
def st6(F:Nat->Int):Nat->Int:=UV 5 (F 5) (UV 4 (F 4) (UV 3 (F 3) (UV 2 (F 2) (UV 1 (F 1) (UV 0 (F 0) (BR [0,0,0,0,0,0]))))))
def quB(n:Nat)(a b c:Nat->Int)(d:Int)(j:Nat):Bool:= !NE d j&&decide (stF a b c d n (a j).toNat>=c j)
def saV(a b c U O:Nat->Int)(j:Nat):List Value:=[.int .i64 j,.agg #[.int .i64 (a j),.int .i64 (b j),.int .i64 (c j),.int .i64 (U j),.int .i64 (O j)]]
def quV(n:Nat)(a b c U O:Nat->Int)(d:Int)(q:Nat):List Value:=saV a b c U O (UX (quB n a b c d) n q)
def quN(n:Nat)(a b c:Nat->Int)(d:Int):Nat:=GE (quB n a b c d) n
theorem Zf9(F:Nat->Int){q:Nat}(hq:q<6):st6 F q=F q:=by
 unfold st6;rw [Xu0 _ _ _ _ _ _ _ q hq]
 match q,hq with
 | 0,_=>rfl
 | 1,_=>rfl
 | 2,_=>rfl
 | 3,_=>rfl
 | 4,_=>rfl
 | 5,_=>rfl
theorem S8(p:Nat->Bool){b c:Nat}(h:b<=c):GE p b<=GE p c:=by
 induction h with
 |refl=>exact Am _
 |step _ ih=>exact Ar ih (Nat.le_add_right _ _)
section
variable {p:Nat->Bool}
theorem FT{k:Nat}(h:p k=true):GE p (k+1)=GE p k+1:=by
 simp only [GE,h]
theorem RX{k:Nat}(h:p k=false):GE p (k+1)=GE p k:=by
 simp only [GE,h,Bg]
theorem wF{n k:Nat}(hk:k<n)(h:p k=true):UX p n (GE p k)=k:=by
 refine jD hk ?_ λj hj=>?_
 ·simp [h]
 ·cases hp:p j
  ·rfl
  ·have h1:=FT hp;have h2:=S8 p (show j+1<=k by omega)
   simp only [Bool.true_and];cases hb:Nat.beq (GE p j) (GE p k)
   ·rfl
   ·have:=H4 hb;omega
end
theorem bB(p:Nat->Bool): ∀k,GE p k<=k
 | 0=>Am 0
 |k+1=>by
  have:=bB p k;unfold GE;split<;>omega
theorem m8{p:Nat->Bool}: ∀{k q:Nat},q<GE p k-> ∃j,j<k/\p j=true/\GE p j=q
 | 0,q,h=>absurd h (by simp [GE])
 |k+1,q,h=>by
  rcases An q (GE p k) with h1|h1
  ·obtain ⟨j,hj,h2⟩:=m8 h1;exact ⟨j,VO,h2⟩
  ·cases hp:p k
   ·rw [RX hp] at h;omega
   ·rw [FT hp] at h;exact ⟨k,VO,hp,VO⟩
theorem uY{p:Nat->Bool}{n q:Nat}(h:q<GE p n):UX p n q<n/\p (UX p n q)=true:=by
 obtain ⟨j,hj,hp,hc⟩:=m8 h;rw [←hc,wF hj hp];exact ⟨hj,hp⟩
def AO:G0
 |[.ro [.x (.int .i64 4),.x (.int .i64 10),.lst 5 n f,ea,la],.x (.int .i64 d)]=>some ([],.fn (.func 108) [] [.ro [.ro [i 4,i 10,.lst 5 n f,ea,la]],.ro [i d]])
 |_=>none
theorem Wf9(ea la:AV)(n:Nat)(f:Nat->List AV)(d:Int):FH VT 79 [.ro [i 4,i 10,.lst 5 n f,ea,la],i d] (.fn (.func 108) [] [.ro [.ro [i 4,i 10,.lst 5 n f,ea,la]],.ro [i d]]):=by
 refine D2 (L:=[]) Aa Ad U3 Tryz.func79 (UY Tryz.f79) G9 (t:=leaf (AV.fn (Fn.func 108) [] [AV.ro [AV.ro [iI 4,iI 10,lst 5 n λa=>f a,ea,la]],AV.ro [iI d]])) VY ?_
 exact rfl
theorem NZ:P7 VT 79 AO:=by
 refine ⟨(UM Tryz.func79),?_⟩;intro avs ns res h hn;unfold AO at h;split at h
 ·cases h;exact Wf9 _ _ _ _ _
 ·cases h
section
variable (l:Nat)(ea la:AV)(n:Nat)(a b c U O:Nat->Int)(d:Int)
def Xe4:St:={σ:=[AV.fn (Fn.yield l) [] [],AV.ro [QQ n a b c U O ea la],AV.ro [iI d],top,ptr 3 0]++HO 9 [Q0 n a b c U O,iI (n:Int)]++HO 26 [],m:=[(3,GU.ints 137 [] 6 λa_1=>UV 5 (stF a b c d n 5) (UV 4 (stF a b c d n 4) (UV 3 (stF a b c d n 3) (UV 2 (stF a b c d n 2) (UV 1 (stF a b c d n 1) (UV 0 (stF a b c d n 0) (BR Q3)))))) a_1)],nx:=12,gh:=some 0}
noncomputable def Zv3:Code:=UE (VX (UB Tryz.f108) 0)
def aI(k:Nat):St:={σ:=H6 [(4,.roI [] 6 (st6 (stF a b c d n)) 0),(5,.top),(6,.top),(16,i k)] (Xe4 l ea la n a b c U O d).σ,m:=[],nx:=12,gh:=some (GE (quB n a b c d) k) }
def kE(k:Nat):GB->Option St
 | .exit 0=>some {σ:=H6 [(4,.roI [] 6 (st6 (stF a b c d n)) 0),(5,.top),(6,.top),(16,i n)] (Xe4 l ea la n a b c U O d).σ,m:=[],nx:=12,gh:=some (quN n a b c d) }
 | .ret=>some {σ:=H6 [(4,.roI [] 6 (st6 (stF a b c d n)) 0),(5,.top),(6,.top),(16,.top)] (Xe4 l ea la n a b c U O d).σ,m:=[],nx:=12,gh:=none}
 |_=>none
def Jo1:CT:= .may True (.leaf (.exit 0,(kE l ea la n a b c U O d 0 (.exit 0)).getD (Xe4 l ea la n a b c U O d))) (.leaf (.ret,(kE l ea la n a b c U O d 0 .ret).getD (Xe4 l ea la n a b c U O d)))
def Xz2:UN:=GO [(.slot 4,3,137,1)] (HM (aI l ea la n a b c U O d (0)) (Jo1 l ea la n a b c U O d))
end
abbrev ZT(a:Nat->Int)(b:Nat->Int)(c:Nat->Int)(d:Int)(n:Nat):Prop:=roI [] 6 (λa_1=>st6 (stF a b c d n) a_1) 0=roI [] 6 (λa_1=>st6 (stF a b c d n) a_1) 0
abbrev Y3(d:Int):Prop:=AV.ro [iI d]=AV.ro [iI d]
abbrev YD(n:Nat)(a:Nat->Int)(b:Nat->Int)(c:Nat->Int)(U:Nat->Int)(O:Nat->Int)(ea:AV)(la:AV):Prop:=AV.ro [QQ n a b c U O ea la]=AV.ro [QQ n a b c U O ea la]
theorem Je0(l:Nat)(ea la:AV)(n:Nat)(a b c U O:Nat->Int)(d:Int)(VW:sV n a b c U O)(UK:0<=d/\d<256){cx:Cx}(hX:U1 VT {Y:=some (l,(quN n a b c d),(quV n a b c U O d)) } cx):HN VT none cx (.loop Zv3) (Xz2 l ea la n a b c U O d):=by
 refine F5 [(.slot 4,3,137,1)] (L:=[]) (Ae AG (Ae (wH n a b c U O VW) Aa)) hX U3 G9 (V:=Nat) (aI l ea la n a b c U O d) (λk=>k<=n) (λk=>n-k) (kE l ea la n a b c U O d) (x0:=0) VZ ?_ ?_ ?_
 ·rintro k;kernel_rfl
 ·rintro k y E h;unfold kE at h;split at h
  ·cases h;kernel_rfl
  ·cases h;kernel_rfl
  ·cases h
 ·rintro Q hQ k hx;refine ⟨(k+1),?_⟩;have e:HR VT [(81,tK),(53,(fY n a b c U O))] {Y:=some (l,(quN n a b c d),(quV n a b c U O d)) } [] [(.slot 4,3,137,1)] Zv3 (aI l ea la n a b c U O d k) (aI l ea la n a b c U O d ((k+1))) (kE l ea la n a b c U O d k)=(let z3:=YD n a b c U O ea la;let z2:=quB n a b c d;let W:=(need [VQ ((k:Int)+1)] (need [W6 l,z3,Y3 d,ZT a b c d n,W5 n a b c U O,U4 (n:Int),(k:Int)+1=(↑(k+1):Int),GE (z2) k=GE (z2) (k+1)] (leaf GB.normal)));let z1:=(UX (z2) n (GE (z2) k));(branch (decide ((k:Int)<(n:Int))) (need [UO k n] (need [(0:Int)<=(k:Int)/\(k:Int)<=64] (branch (!NE d k) (need [UO (a k) 6] (need [(a k).toNat*1+0<6] (branch (decide (st6 (stF a b c d n) ((a k).toNat*1+0)>=c k)) (need [l=l,GE (z2) k<quN n a b c d,[Value.int IntKind.i64 (k:Int),Value.agg {toList:=[Value.int IntKind.i64 (a k),Value.int IntKind.i64 (b k),Value.int IntKind.i64 (c k),Value.int IntKind.i64 (U k),Value.int IntKind.i64 (O k)] }]=[Value.int IntKind.i64 (z1:Int),Value.agg {toList:=[Value.int IntKind.i64 (a z1),Value.int IntKind.i64 (b z1),Value.int IntKind.i64 (c z1),Value.int IntKind.i64 (U z1),Value.int IntKind.i64 (O z1)] }]] (VR.may True (need [VQ ((k:Int)+1)] (need [W6 l,z3,Y3 d,ZT a b c d n,W5 n a b c U O,U4 (n:Int),(k:Int)+1=(↑(k+1):Int),GE (z2) k+1=GE (z2) (k+1)] (leaf GB.normal))) (need [W6 l,z3,Y3 d,ZT a b c d n,W5 n a b c U O,U4 (n:Int)] (leaf GB.ret)))) W))) W))) (need [W6 l,z3,Y3 d,ZT a b c d n,W5 n a b c U O,U4 (n:Int),(k:Int)=(n:Int),GE (z2) k=quN n a b c d] (leaf (GB.exit 0))))):=VY;rw [e];simp only [Jo1,kE,VR.sat,GZ] at hQ;have hQ1: ∀E,kE l ea la n a b c U O d k (.exit 0)=some E->Q (.exit 0,E):=λE hE=>by cases hE;exact hQ.1 trivial
  have hQ2: ∀E,kE l ea la n a b c U O d k .ret=some E->Q (.ret,E):=λE hE=>by cases hE;exact hQ.2
  simp only [VR.sat,UF,UL,HD,VQ,DR];clear e hQ;have h8:=VW.1;have hX:(a k).toNat*1+0=(a k).toNat:=VO;rw [hX];refine ⟨λh=>?_,λh=>?_⟩
  ·have hk:k<n:=VO;have hs:=Qb7 VW hk;have hno:quB n a b c d k=false->GE (quB n a b c d) k=GE (quB n a b c d) (k+1):=λh=>(RX h).symm
   rw [Zf9 _ (show (a k).toNat<6 by omega)]
   refine ⟨VO,VO,λh1=>⟨VO,VO,λh2=>?_,λh2=>?_⟩,λh1=>?_⟩
   ·have hq:quB n a b c d k=true:=by
     unfold quB;rw [h1,decide_eq_true h2];rfl
    have hy:=FT hq;have hm:=S8 (quB n a b c d) (show k+1<=n by omega)
    rw [wF hk hq]
    (with_reducible repeat' first|apply Al|intro _)
    all_goals first|exact Ak|(simp only [quN];omega)|omega|rfl|exact hQ1 _ (by assumption)|exact hQ2 _ (by assumption)
   ·have hq:quB n a b c d k=false:=by
     unfold quB;rw [decide_eq_false h2,Bool.and_false]
    have hy:=RX hq;all_goals exact VB
   ·have hq:quB n a b c d k=false:=by
     unfold quB;rw [h1];rfl
    have hy:=RX hq;all_goals exact VB
  ·obtain rfl:k=n:=VO;all_goals exact VB
theorem vU(ea la:AV)(n:Nat)(a b c U O:Nat->Int)(d:Int)(VW:sV n a b c U O)(UK:0<=d/\d<256):PQ Tryz.prog 108 [.ro [.ro [i 4,i 10,sls n a b c U O,ea,la]],.ro [i d]] ((quN n a b c d)) (quV n a b c U O d):=by
 refine PF (L:=λl=>[Xz2 l ea la n a b c U O d]) (Ae AG (Ae (wH n a b c U O VW) Aa)) U3 (UM Tryz.func108) Tryz.func108 (UY Tryz.f108) VY (λl cx hX=>G4 (lpE (b:= .loop Zv3) VY<|Je0 l ea la n a b c U O d VW UK hX)) (t:=λl=>(let W:=stF a b c d n;(need [W5 n a b c U O,(0:Int)<=d/\d<256] (need [0+List.length [W 0,W 1,W 2,W 3,W 4,W 5]<=6] (need [U4 (AV.fn (Fn.yield l) [] []),YD n a b c U O ea la,Y3 d,roI [] 6 (λa_1=>UV 5 (W 5) (UV 4 (W 4) (UV 3 (W 3) (UV 2 (W 2) (UV 1 (W 1) (UV 0 (W 0) (BR Q3)))))) a_1) 0=roI [] 6 (λa_1=>st6 (W) a_1) 0,W5 n a b c U O,U4 (n:Int),(0:Int)=(↑(0:Nat):Int),0=GE (quB n a b c d) 0] (VR.may True (need [U4 (quN n a b c d)] (leaf PUnit.unit)) (leaf PUnit.unit))))))) (λl=>VY) ?_
 intro l;simp only [VR.sat,UF,GA,GR,UI,UL];exact ⟨UK,VZ,⟨rfl,rfl,rfl⟩,λ_=>trivial⟩
noncomputable def Qm0:D7:=AC Tryz.prog [] {} [] Tryz.f79 (UB Tryz.f79)
theorem dR:GG VT 79 Qm0:=
 RP (G:=[]) (X:=WD) (L:=[]) Aa Ad U3 (UM Tryz.func79) Tryz.func79 (UY Tryz.f79) U8
section
variable (n:Nat)
abbrev ZH:AV:=iI ((2:Int)^n-1+1)
abbrev ZU(a:Nat->Int)(b:Nat->Int)(c:Nat->Int)(U:Nat->Int)(O:Nat->Int):List AV:=[iI 4,iI 10,Q0 n a b c U O]
abbrev KT(a:Nat->Int)(b:Nat->Int)(c:Nat->Int)(U:Nat->Int)(O:Nat->Int):List AV:=[iI 4,iI 10,Q0 n a b c U O,AV.row 901,AV.row 902]
abbrev YB:GU:=GU.row 3 1 0 λx=>[]
abbrev YP:GU:=GU.cells 84 [ptr 4 0]
def Zt6(a b c U O:Nat->Int):St:={σ:=[agg (ZU n a b c U O),ptr 0 0,QD,ptr 5 0]++HO 14 [ZH n]++HO 140 [],m:=[(902,YB),(901,YB),(5,YP),(4,GU.cells 174 (KT n a b c U O)),(0,GU.cells 42 (ZU n a b c U O))],nx:=903}
noncomputable def Jt1:Code:=UE (VX (UB Tryz.f49) 0)
def Wm2(a b c U O:Nat->Int)(k:Nat):St:={σ:=H6 [(19,i k)] (Zt6 n a b c U O).σ,m:=[(902,.row 3 1 (k) (λz=>[i ((λ_=> -1) z)])),(901,.row 3 1 (k) (λz=>[i ((λ_=>101) z)])),(5,.cells 84 [.ptr 4 0]),(4,.cells 174 [i 4,i 10,sls n a b c U O,.row 901,.row 902]),(0,.cells 42 [i 4,i 10,sls n a b c U O])],nx:=903}
def E4(a b c U O:Nat->Int)(k:Nat):GB->Option St
 | .exit 0=>some {σ:=H6 [(19,i (2^n))] (Zt6 n a b c U O).σ,m:=[(902,.row 3 1 (2^n) (λz=>[i ((λ_=> -1) z)])),(901,.row 3 1 (2^n) (λz=>[i ((λ_=>101) z)])),(5,.cells 84 [.ptr 4 0]),(4,.cells 174 [i 4,i 10,sls n a b c U O,.row 901,.row 902]),(0,.cells 42 [i 4,i 10,sls n a b c U O])],nx:=903}
 |_=>none
def Jo8(a b c U O:Nat->Int):CT:= .leaf (.exit 0,(E4 n a b c U O 0 (.exit 0)).getD (Zt6 n a b c U O))
abbrev K7:List (Pl×Nat×TypeId×Nat):=[(.cell 4 3,0,0,1),(.cell 4 4,0,0,1),(.cell 4 3,901,3,1),(.cell 4 4,902,3,1)]
def Za1(a b c U O:Nat->Int):UN:=GO K7 (HM (Wm2 n a b c U O (0)) (Jo8 n a b c U O))
abbrev QG:Prop:=(2:Int)^n-1+1=2^n-1+1
abbrev QP(a:Nat->Int)(b:Nat->Int)(c:Nat->Int)(U:Nat->Int)(O:Nat->Int):Prop:=agg (ZU n a b c U O)=agg (ZU n a b c U O)
abbrev W0:Prop:=(4:Int)=4
abbrev WB:Prop:=(10:Int)=10
abbrev WJ:Prop:=AV.row 902=AV.row 902
abbrev ZY:List AV:=[iI 101]
abbrev YQ:Nat->List AV:=λz=>[iI (-1:Int)]
theorem Jg0(a b c U O:Nat->Int)(VW:sV n a b c U O):GC VT (.loop Jt1) (Za1 n a b c U O):=by
 refine j7 K7 (L:=[]) (Ae LJ Aa) U3 U8 (X:=Nat) (Wm2 n a b c U O) (λk=>k<=2^n) (λk=>2^n-k) (E4 n a b c U O) (x0:=0) VZ ?_ ?_ ?_
 ·rintro k;kernel_rfl
 ·rintro k y E h;unfold E4 at h;split at h
  ·cases h;kernel_rfl
  ·cases h
 ·rintro Q hQ k hx;refine ⟨(k+1),?_⟩;(with_reducible refine DN (t:=let W:=(need [VQ ((k:Int)+1)] (need [QP n a b c U O,QS,QD=QD,ZO,QG n,(k:Int)+1=(↑(k+1):Int),k+1=k+1,H2 (k+1) (GM k (YQ) (UA 1 [iI (-1:Int)])) (λi=>[iI (-1:Int)]),k+1=k+1,H2 (k+1) (GM k (λz=>ZY) (UA 1 ZY)) (λi=>ZY),W7,W0,WB,W5 n a b c U O,WI,WJ,W0,WB,W5 n a b c U O] (leaf GB.normal)));(branch (decide ((k:Int)<2^n-1+1)) (need [(k+1)*8<=140737488355328,∀(i:Nat),i<1-> ∀(a:AV),a∈UA 1 ZY i->AV.one a=true] (need [(k+1)*8<=140737488355328,L1 1 (UA 1 [iI (-1:Int)])] (VR.may True W (VR.may True W (VR.may True W (VR.may True W W)))))) (need [QP n a b c U O,QS,QD=QD,ZO,QG n,(k:Int)=2^n,k=2^n,∀(i:Nat),i<2^n->[iI (-1:Int)]=[iI (-1:Int)],k=2^n,∀(i:Nat),i<2^n->ZY=ZY,W7,W0,WB,W5 n a b c U O,WI,WJ,W0,WB,W5 n a b c U O] (leaf (GB.exit 0))))) VY ?_)
  simp only [Jo8,E4,VR.sat,GZ] at hQ;simp only [VR.sat,UF,GA,GR,UI,VQ,UL,HD,RF,RG,L9,GT,E4]
  have h8:=VW.1;have hp:=gH h8;have hpn:((2^n:Nat):Int)=2^n:=VZ;refine ⟨λh=>?_,λh=>?_⟩
  ·have hk:k<2^n:=VO
   (with_reducible repeat' first|apply Al|intro _)
   all_goals first|exact PU|(first|exact FU (by assumption) (by simp [AV.one,Value.oneCell'])|exact Pt.catF1 (a:=λ_=>101) (by assumption) rfl|exact Pt.catF1 (a:=λ_=> -1) (by assumption) rfl)
  ·obtain rfl:k=2^n:=VO;exact V4
end
def eQ(p:Nat->Bool)(n:Nat)(U O:Nat->Int)(d:Nat)(E:Nat->Int):Nat->Nat->Int
 | 0=>E
 |q+1=>if max (eQ p n U O d E q d) (U (UX p n q))<=O (UX p n q) then UV (d ||| 2^UX p n q) (min (eQ p n U O d E q (d ||| 2^UX p n q)) (max (eQ p n U O d E q d) (U (UX p n q)))) (eQ p n U O d E q) else eQ p n U O d E q
def eD(n:Nat)(a b c U O:Nat->Int):Nat->Nat->Int
 | 0=>λk=>if k=0 then 0 else 101
 |d+1=>if eD n a b c U O d d=101 then eD n a b c U O d else eQ (quB n a b c d) n U O d (eD n a b c U O d) (quN n a b c d)
section
variable (n:Nat)(a b c U O:Nat->Int)
noncomputable def Zt5:St:={σ:=[agg (ZU n a b c U O),ptr 0 0,QD,ptr 5 0]++HO 14 [ZH n,iI ((2:Int)^n)]++HO 27 [ZH n]++HO 111 [],m:=[(902,GU.row 3 1 (2^n) λz=>[iI (-1:Int)]),(901,GU.row 3 1 (2^n) λk=>iI (if decide (k=(0:Int).toNat)=true then (0:Int) else (101:Int))::Bool.rec ([]) ([]) (decide (k=(0:Int).toNat))),(5,YP),(4,GU.keep 174 (KT n a b c U O)),(0,GU.cells 42 (ZU n a b c U O))],nx:=913}
noncomputable def cB:Code:=UE (VX (UB Tryz.f49) 1)
noncomputable def Wm1(d:Nat):St:={σ:=H6 [(4,.top),(48,i d),(5,.top),(6,.top),(7,.top),(8,.top)] (Zt5 n a b c U O).σ,m:=[(902,.row 3 1 (2^n) (λz=>[i ((λ_=> -1) z)])),(901,.row 3 1 (2^n) (λz=>[i ((eD n a b c U O (d)) z)])),(5,.cells 84 [.ptr 4 0]),(4,.keep 174 [i 4,i 10,sls n a b c U O,.row 901,.row 902]),(0,.cells 42 [i 4,i 10,sls n a b c U O])],nx:=903}
noncomputable def E3(d:Nat):GB->Option St
 | .exit 2=>some {σ:=H6 [(4,.top),(48,i (2^n)),(5,.top),(6,.top),(7,.top),(8,.top)] (Zt5 n a b c U O).σ,m:=[(902,.row 3 1 (2^n) (λz=>[i ((λ_=> -1) z)])),(901,.row 3 1 (2^n) (λz=>[i ((eD n a b c U O (2^n)) z)])),(5,.cells 84 [.ptr 4 0]),(4,.keep 174 [i 4,i 10,sls n a b c U O,.row 901,.row 902]),(0,.cells 42 [i 4,i 10,sls n a b c U O])],nx:=903}
 |_=>none
noncomputable def Jo7:CT:= .leaf (.exit 2,(E3 n a b c U O 0 (.exit 2)).getD (Zt5 n a b c U O))
noncomputable def Za0:UN:=GO [(.cell 5 0,0,0,0)] (HM (Wm1 n a b c U O (0)) (Jo7 n a b c U O))
end
theorem qK{n d:Nat}(h8:n<=8)(h:d<2^n):(0:Int)<=d/\(d:Int)<256:=by
 have hp:=gH h8;have hpn:((2^n:Nat):Int)=2^n:=VZ;omega
theorem Qc8{n d s:Nat}(h:d<2^n)(hs:s<n):d ||| 2^s<2^n:=Nat.or_lt_two_pow h (Nat.pow_lt_pow_right (by decide) hs)
theorem Wg6{n d s:Nat}(h8:n<=8)(h:d<2^n)(hs:s<n):IntKind.i64.wrap ((BitVec.ofInt 64 (d:Int) ||| BitVec.ofInt 64 (1*2^s)).toNat:Int)=((d ||| 2^s:Nat):Int):=by
 have h2:=qK h8 h;have h3:2^s<2^n:=Nat.pow_lt_pow_right (by decide) hs
 have h4:=qK h8 h3;have e:(1*2^s:Int)=((2^s:Nat):Int):=by rw [Int.one_mul];simp
 rw [e];exact Xi7 VO VO
theorem gC{F:Nat->Int}{v:Int}{q j:Nat}:HG (decide (j=q)) [i v] [i (F j)]=[i (UV q v F j)]:=by
 unfold UV;by_cases h:j=q
 ·rw [decide_eq_true h,if_pos h];rfl
 ·rw [decide_eq_false h,if_neg h];rfl
abbrev J0:AV:=AV.fn (Fn.func 108) [] [ptr 917 0,ptr 918 0]
section
variable (n:Nat)(a b c U O:Nat->Int)(d:Nat)
def Jr0:St:={σ:=[agg (ZU n a b c U O),ptr 0 0,QD,ptr 5 0,ptr 905 0]++HO 13 [ZH n,iI ((2:Int)^n)]++HO 27 [ZH n,iI (d:Int)]++HO 12 [J0]++HO 97 [],m:=[(918,GU.keep 133 [iI (d:Int)]),(917,GU.keep 84 [ptr 4 0]),(905,GU.cells 133 [iI (d:Int)]),(902,GU.row 3 1 (2^n) λz=>[iI (-1:Int)]),(901,GU.row 3 1 (2^n) λz=>[iI (eD n a b c U O d z)]),(5,YP),(4,GU.keep 174 (KT n a b c U O)),(0,GU.cells 42 (ZU n a b c U O))],nx:=922}
noncomputable def Jv0:Code:=MZ (VX cB 0)
noncomputable def Jt0:Code:=MY (VX cB 0)
def pU(k:Nat):St:={σ:=H6 [(5,.top),(6,.top),(7,.top),(8,.top)] (Jr0 n a b c U O d).σ,m:=[(918,.keep 133 [i d]),(917,.keep 84 [.ptr 4 0]),(905,.cells 133 [i d]),(902,.row 3 1 (2^n) (λz=>[i ((λ_=> -1) z)])),(901,.row 3 1 (2^n) (λz=>[i ((eQ (quB n a b c d) n U O d (eD n a b c U O d) (k)) z)])),(5,.cells 84 [.ptr 4 0]),(4,.keep 174 [i 4,i 10,sls n a b c U O,.row 901,.row 902]),(0,.cells 42 [i 4,i 10,sls n a b c U O])],nx:=922}
def p8(k:Nat):GB->Option St
 | .normal=>some {σ:=H6 [(5,.top),(6,.top),(7,.top),(8,.top)] (Jr0 n a b c U O d).σ,m:=[(918,.keep 133 [i d]),(917,.keep 84 [.ptr 4 0]),(905,.cells 133 [i d]),(902,.row 3 1 (2^n) (λz=>[i ((λ_=> -1) z)])),(901,.row 3 1 (2^n) (λz=>[i ((eQ (quB n a b c d) n U O d (eD n a b c U O d) ((quN n a b c d))) z)])),(5,.cells 84 [.ptr 4 0]),(4,.keep 174 [i 4,i 10,sls n a b c U O,.row 901,.row 902]),(0,.cells 42 [i 4,i 10,sls n a b c U O])],nx:=922}
 |_=>none
def T_kc:CT:= .leaf (.normal,pU n a b c U O d (quN n a b c d))
def Xz9:UN:=GO [(.slot 61,0,0,0)] (HM (pU n a b c U O d (0)) (T_kc n a b c U O d))
end
abbrev XW(n:Nat):Prop:=(2:Int)^n=2^n
theorem Jf8(n:Nat)(a b c U O:Nat->Int)(d:Nat)(VW:sV n a b c U O)(UK:d<2^n):HP VT (.rangeFunc (rfF (VX cB 0)) (zS (VX cB 0)) Jv0 Jt0) (Xz9 n a b c U O d):=by
 refine vA [(.slot 61,0,0,0)] (L:=[]) (Ae F4 (Ae PY Aa)) Ad U3 U8 (V:=Nat) (pU n a b c U O d) (λk=>k<=(quN n a b c d)) (λk=>k) (p8 n a b c U O d) (x0:=0) VZ rfl ?_ ?_ ?_ ?_ (g:=108) (caps:=[.ro [.ro [i 4,i 10,sls n a b c U O,.top,.top]],.ro [i d]]) (caps0:=[.ptr 917 0,.ptr 918 0]) VY VY (vU .top .top n a b c U O d VW (qK VW.1 UK)) (λ_=>rfl) ?_
 ·rintro k;kernel_rfl
 ·rintro k y E h;unfold p8 at h;split at h
  ·cases h;kernel_rfl
  ·cases h
 ·rintro k;rfl
 ·rintro k y E h;unfold p8 at h;split at h
  ·cases h;rfl
  ·cases h
 ·rintro Q hQ k hx;refine ⟨λhlt=>⟨(k+1),rfl,?_⟩,λPL=>?_⟩
  ·(with_reducible refine DN (t:=let z1:=(quB n a b c (d:Int));let W:=(BitVec.toNat (BitVec.ofInt 64 (d:Int) ||| BitVec.ofInt 64 ((1:Int)*2^UX z1 n k)));let z2:=(IntKind.wrap IntKind.i64 (W:Int));let z3:=eD n a b c U O d;let z4:=eQ z1 n U O d;(need [UO d (↑(2^n):Int)] (need [d<2^n] (branch (decide (max (z4 (z3) k d) (U (UX z1 n k))<=O (UX z1 n k))) (need [(0:Int)<=(↑(UX z1 n k):Int)/\(↑(UX z1 n k):Int)<=64,VQ ((1:Int)*2^UX z1 n k)] (need [UO (IntKind.wrap IntKind.i64 (W:Int)) (↑(2^n):Int)] (need [Int.toNat z2<2^n] (need [UO (IntKind.wrap IntKind.i64 (W:Int)) (↑(2^n):Int)] (need [Int.toNat z2<2^n] (need [QP n a b c U O,QS,QD=QD,ZO,U4 (ptr 905 0),QG n,XW n,QG n,U4 (d:Int),J0=J0,U4 (d:Int),W7,U4 (d:Int),2^n=2^n,∀(i:Nat),i<2^n->[iI (-1:Int)]=[iI (-1:Int)],2^n=2^n,∀(i:Nat),i<2^n->HG (decide (i=Int.toNat z2)) [iI (min (z4 (z3) k (Int.toNat z2)) (max (z4 (z3) k d) (U (UX z1 n k))))] [iI (z4 (z3) k i)]=[iI (z4 (z3) (k+1) i)],W7,W0,WB,W5 n a b c U O,WI,WJ,W0,WB,W5 n a b c U O] (leaf GB.normal))))))) (need [QP n a b c U O,QS,QD=QD,ZO,U4 (ptr 905 0),QG n,XW n,QG n,U4 (d:Int),J0=J0,U4 (d:Int),W7,U4 (d:Int),2^n=2^n,∀(i:Nat),i<2^n->[iI (-1:Int)]=[iI (-1:Int)],2^n=2^n,∀(i:Nat),i<2^n->[iI (z4 (z3) k i)]=[iI (z4 (z3) (k+1) i)],W7,W0,WB,W5 n a b c U O,WI,WJ,W0,WB,W5 n a b c U O] (leaf GB.normal)))))) VY ?_)
   have h8:=VW.1;have hd:=qK h8 UK;have hpn:((2^n:Nat):Int)=2^n:=VZ;have hs:=uY hlt;have hor:=Wg6 h8 UK hs.1;have hol:=Qc8 UK hs.1;simp only [VR.sat,UF,UL,hor,DR,HD]
   have hd2:(d:Int)<2^n:=by
    have h:(d:Int)<((2^n:Nat):Int):=Int.ofNat_lt.2 UK
    rwa [hpn] at h
   have Qs2:((d ||| 2^UX (quB n a b c d) n k:Nat):Int)<2^n:=by
    have h:((d ||| 2^UX (quB n a b c d) n k:Nat):Int)<((2^n:Nat):Int):=Int.ofNat_lt.2 hol
    rwa [hpn] at h
   have hk1:k+1<=quN n a b c d:=hlt;have h2s:(1:Int)<=2^UX (quB n a b c d) n k/\(2:Int)^UX (quB n a b c d) n k<=256:=gH VO;have h64:=hs.1;refine ⟨⟨VO,hd2⟩,UK,λh=>?_,λh=>?_⟩
   ·refine ⟨⟨⟨VO,VO⟩,by simp only [VQ,Int.one_mul];omega⟩,⟨VO,Qs2⟩,hol,⟨VO,Qs2⟩,hol,⟨λ_ _=>trivial,λj hj=>?_⟩,hk1⟩
    simp only [eQ,if_pos h];exact gC
   ·refine ⟨⟨λ_ _=>trivial,λj hj=>?_⟩,hk1⟩
    simp only [eQ,if_neg h]
  ·have hk:k=quN n a b c d:=VO;subst hk;exact hQ
theorem gP{P:Program}{G:List (Nat×G0)}{E:Ext}{L:List UN}(N:List (Pl×Nat×TypeId×Nat))(hG:VP P G)(hX: ∀cx,U1 P E cx)(GW:P.follows .mixedOrders=true){body:Code}(hL: ∀j cj,VX body j=some cj-> ∀sp,L[j]? =some sp->HP P cj sp)
  {X:Type}(inv:X->St)(I:X->Prop)(μ:X->Nat)(out:X->GB->Option St){t:CT}{x0:X}(h0:I x0)
  (hok: ∀x,Go.Sx.okB (inv x)=true)(wB: ∀x y E,out x y=some E->Go.Sx.okB E=true)
  (round: ∀(Q:GB×St->Prop),t.sat Q-> ∀x,I x-> ∃x',(HR P G E L N body (inv x) (inv x') (out x)).sat (λy=>match y with
   | .normal=>I x'/\μ x'<μ x
   |y=> ∀E,out x y=some E->Q (y,E))):HP P (.loop body) (GO N (HM (inv x0) t)):=
 λcx hf=>F5 N hG (hX cx) GW (λj cj hj sp hsp=>hL j cj hj sp hsp cx hf) inv I μ out h0 hok wB round
theorem dC{P:Program}{c:Code}{t:Nat}{F:Nat->UN}(h: ∀k,HP P c (F k)):HP P c (BS t F):=by
 intro cx hf n s tr ht Q hQ a w r;unfold BS at ht;split at ht
 ·exact h _ cx hf n s tr ht Q hQ a w r
 ·cases ht
abbrev JQ:List (Nat×G0):=[(51,MF),(55,y8),(54,MG)]
noncomputable abbrev KI:Ext:={R:=[],H:=[(79,Qm0)] }
theorem Jf9(n:Nat)(a b c U O:Nat->Int)(VW:sV n a b c U O):HP VT (.loop cB) (Za0 n a b c U O):=by
 refine gP [(.cell 5 0,0,0,0)] (L:=[BS 48 (λd=>FV [d<2^n] (Xz9 n a b c U O d))]) (Ae LJ (Ae F4 (Ae PY Aa))) (Ai Ab (Ag dR Ac)) U3 (G4 (λcj hcj=>by
  have e:VX cB 0=some (.rangeFunc (rfF (VX cB 0)) (zS (VX cB 0)) Jv0 Jt0):=VY;rw [e] at hcj;cases hcj;exact dC (λd=>BB (λh=>Jf8 n a b c U O d VW h)))) (X:=Nat) (Wm1 n a b c U O) (λd=>d<=2^n) (λd=>2^n-d) (E3 n a b c U O) (x0:=0) VZ ?_ ?_ ?_
 ·rintro d;kernel_rfl
 ·rintro d y E h;unfold E3 at h;split at h
  ·cases h;kernel_rfl
  ·cases h
 ·rintro Q hQ d hx;refine ⟨(d+1),?_⟩;(with_reducible refine DN (t:=let W:=W5 n a b c U O;let z1:=eD n a b c U O d;(branch (decide ((d:Int)<2^n-1+1)) (need [UO d (↑(2^n):Int)] (need [d<2^n] (branch (z1 d==101) (need [VQ ((d:Int)+1)] (need [QP n a b c U O,QS,QD=QD,ZO,QG n,XW n,QG n,(d:Int)+1=(↑(d+1):Int),2^n=2^n,∀(i:Nat),i<2^n->[iI (-1:Int)]=[iI (-1:Int)],2^n=2^n,∀(i:Nat),i<2^n->[iI (z1 i)]=[iI (eD n a b c U O (d+1) i)],W7,W0,WB,W,WI,WJ,W0,WB,W] (leaf GB.normal))) (need [d<2^n] (need [QP n a b c U O,QS,QD=QD,ZO,U4 (ptr 905 0),QG n,XW n,QG n,U4 (d:Int),J0=J0,U4 (d:Int),W7,U4 (d:Int),2^n=2^n,∀(i:Nat),i<2^n->[iI (-1:Int)]=[iI (-1:Int)],2^n=2^n,∀(i:Nat),i<2^n->[iI (z1 i)]=[iI (eQ (quB n a b c (d:Int)) n U O d (z1) 0 i)],W7,W0,WB,W,WI,WJ,W0,WB,W] (need [VQ ((d:Int)+1)] (need [QP n a b c U O,QS,QD=QD,ZO,QG n,XW n,QG n,(d:Int)+1=(↑(d+1):Int),2^n=2^n,∀(i:Nat),i<2^n->[iI (-1:Int)]=[iI (-1:Int)],2^n=2^n,∀(i:Nat),i<2^n->[iI (eQ (quB n a b c (d:Int)) n U O d (z1) (quN n a b c (d:Int)) i)]=[iI (eD n a b c U O (d+1) i)],W7,W0,WB,W,WI,WJ,W0,WB,W] (leaf GB.normal)))))))) (need [QP n a b c U O,QS,QD=QD,ZO,QG n,XW n,QG n,(d:Int)=2^n,2^n=2^n,∀(i:Nat),i<2^n->[iI (-1:Int)]=[iI (-1:Int)],2^n=2^n,∀(i:Nat),i<2^n->[iI (z1 i)]=[iI (eD n a b c U O (2^n) i)],W7,W0,WB,W,WI,WJ,W0,WB,W] (leaf (GB.exit 2))))) VY ?_);simp only [Jo7,E3,VR.sat,GZ] at hQ;simp only [VR.sat,UF,GA,GR,UI,VQ,UL,HD,RF,RG,L9,GT,E3]
  have h8:=VW.1;have hp:=gH h8;have hpn:((2^n:Nat):Int)=2^n:=VZ;refine ⟨λh=>?_,λh=>?_⟩
  ·have hd3:(d:Int)<2^n:=VO;have hd:d<2^n:=by
    have h':(d:Int)<((2^n:Nat):Int):=by rw [hpn];exact hd3
    exact Int.ofNat_lt.1 h'
   have hd2:=qK h8 hd;refine ⟨⟨VO,hd3⟩,hd,λhb=>?_,λhb=>?_⟩
   ·rw [beq_iff_eq] at hb;refine ⟨VO,⟨VO,λ_ _=>trivial,λj hj=>by simp only [eD,if_pos hb]⟩,hd,VO⟩
   ·rw [beq_eq_false_iff_ne] at hb;refine ⟨hd,⟨λ_ _=>trivial,λj hj=>rfl⟩,VO,⟨VO,λ_ _=>trivial,λj hj=>by simp only [eD,if_neg hb]⟩,hd,VO⟩
  ·have hd:d=2^n:=by
    have h': ¬(d:Int)<((2^n:Nat):Int):=by rw [hpn];omega
    omega
   subst hd;exact ⟨⟨hpn,λ_ _=>trivial,λj hj=>rfl⟩,λE hE=>by cases hE;exact hQ⟩
def pm(n:Nat):Nat:=2^n-1
def lQ(p:Nat->Bool)(n:Nat)(U O:Nat->Int)(d:Nat)(F:Nat->Int):Nat->Nat->Int
 | 0=>F
 |q+1=>if min (lQ p n U O d F q (d ||| 2^UX p n q)) (O (UX p n q))>=U (UX p n q) then UV d (max (lQ p n U O d F q d) (min (lQ p n U O d F q (d ||| 2^UX p n q)) (O (UX p n q)))) (lQ p n U O d F q) else lQ p n U O d F q
def lS(n:Nat)(a b c U O:Nat->Int):Nat->Nat->Int
 | 0=>UV (2^n-1) 101 (λ_=> -1)
 |s+1=>lQ (quB n a b c ((2^n-2-s:Nat):Int)) n U O (2^n-2-s) (lS n a b c U O s) (quN n a b c ((2^n-2-s:Nat):Int))
section
variable (n:Nat)(a b c U O:Nat->Int)
noncomputable def Zt4:St:={σ:=[agg (ZU n a b c U O),ptr 0 0,QD,ptr 5 0]++HO 14 [ZH n,iI ((2:Int)^n)]++HO 27 [ZH n,iI ((2:Int)^n)]++HO 110 [],m:=[(903,GU.cells 133 [iI ((2:Int)^n-1-1)]),(902,GU.row 3 1 (2^n) λk=>iI (if decide (k=((2:Int)^n-1).toNat)=true then (101:Int) else (-1:Int))::Bool.rec ([]) ([]) (decide (k=((2:Int)^n-1).toNat))),(901,GU.row 3 1 (2^n) λz=>[iI (eD n a b c U O (2^n) z)]),(5,YP),(4,GU.keep 174 (KT n a b c U O)),(0,GU.cells 42 (ZU n a b c U O))],nx:=916}
noncomputable def cA:Code:=UE (VX (UB Tryz.f49) 2)
noncomputable def Wm0(d:Nat):St:={σ:=H6 [(9,.ptr 903 0),(10,.top),(11,.top),(12,.top)] (Zt4 n a b c U O).σ,m:=[(903,.cells 133 [i (((d:Nat):Int)-1)]),(902,.row 3 1 (2^n) (λz=>[i ((lS n a b c U O (2^n-1-(d))) z)])),(901,.row 3 1 (2^n) (λz=>[i ((eD n a b c U O (2^n)) z)])),(5,.cells 84 [.ptr 4 0]),(4,.keep 174 [i 4,i 10,sls n a b c U O,.row 901,.row 902]),(0,.cells 42 [i 4,i 10,sls n a b c U O])],nx:=904}
noncomputable def E2(d:Nat):GB->Option St
 | .exit 6=>some {σ:=H6 [(9,.ptr 903 0),(10,.top),(11,.top),(12,.top)] (Zt4 n a b c U O).σ,m:=[(903,.cells 133 [i (((0:Nat):Int)-1)]),(902,.row 3 1 (2^n) (λz=>[i ((lS n a b c U O (2^n-1-(0))) z)])),(901,.row 3 1 (2^n) (λz=>[i ((eD n a b c U O (2^n)) z)])),(5,.cells 84 [.ptr 4 0]),(4,.keep 174 [i 4,i 10,sls n a b c U O,.row 901,.row 902]),(0,.cells 42 [i 4,i 10,sls n a b c U O])],nx:=904}
 |_=>none
noncomputable def Jo6:CT:= .leaf (.exit 6,(E2 n a b c U O (pm n) (.exit 6)).getD (Zt4 n a b c U O))
noncomputable def Xz8:UN:=GO [(.slot 9,903,133,2),(.cell 5 0,0,0,0)] (HM (Wm0 n a b c U O (pm n)) (Jo6 n a b c U O))
abbrev J1:AV:=AV.fn (Fn.func 108) [] [ptr 908 0,ptr 909 0]
def Jq9(d:Nat):St:={σ:=[agg (ZU n a b c U O),ptr 0 0,QD,ptr 5 0]++HO 5 [ptr 903 0]++HO 8 [ZH n,iI ((2:Int)^n)]++HO 27 [ZH n,iI ((2:Int)^n)]++HO 69 [J1]++HO 40 [],m:=[(909,GU.keep 133 [iI ((d:Int)-1)]),(908,GU.keep 84 [ptr 4 0]),(903,GU.cells 133 [iI ((d:Int)-1)]),(902,GU.row 3 1 (2^n) λz=>[iI (lS n a b c U O (2^n-1-d) z)]),(901,GU.row 3 1 (2^n) λz=>[iI (eD n a b c U O (2^n) z)]),(5,YP),(4,GU.keep 174 (KT n a b c U O)),(0,GU.cells 42 (ZU n a b c U O))],nx:=913}
noncomputable def Ju9:Code:=MZ (VX cA 0)
noncomputable def Js9:Code:=MY (VX cA 0)
def pT(d:Nat)(k:Nat):St:={σ:=H6 [(10,.top),(11,.top),(12,.top)] (Jq9 n a b c U O d).σ,m:=[(909,.keep 133 [i ((d:Int)-1)]),(908,.keep 84 [.ptr 4 0]),(903,.cells 133 [i (((d:Nat):Int)-1)]),(902,.row 3 1 (2^n) (λz=>[i ((lQ (quB n a b c ((d:Int)-1)) n U O (d-1) (lS n a b c U O (2^n-1-d)) (k)) z)])),(901,.row 3 1 (2^n) (λz=>[i ((eD n a b c U O (2^n)) z)])),(5,.cells 84 [.ptr 4 0]),(4,.keep 174 [i 4,i 10,sls n a b c U O,.row 901,.row 902]),(0,.cells 42 [i 4,i 10,sls n a b c U O])],nx:=913}
def oZ(d:Nat)(k:Nat):GB->Option St
 | .normal=>some {σ:=H6 [(10,.top),(11,.top),(12,.top)] (Jq9 n a b c U O d).σ,m:=[(909,.keep 133 [i ((d:Int)-1)]),(908,.keep 84 [.ptr 4 0]),(903,.cells 133 [i (((d:Nat):Int)-1)]),(902,.row 3 1 (2^n) (λz=>[i ((lQ (quB n a b c ((d:Int)-1)) n U O (d-1) (lS n a b c U O (2^n-1-d)) ((quN n a b c ((d:Int)-1)))) z)])),(901,.row 3 1 (2^n) (λz=>[i ((eD n a b c U O (2^n)) z)])),(5,.cells 84 [.ptr 4 0]),(4,.keep 174 [i 4,i 10,sls n a b c U O,.row 901,.row 902]),(0,.cells 42 [i 4,i 10,sls n a b c U O])],nx:=913}
 |_=>none
def T_ke(d:Nat):CT:= .leaf (.normal,pT n a b c U O d (quN n a b c ((d:Int)-1)))
def Xz7(d:Nat):UN:=GO [(.slot 118,0,0,0)] (HM (pT n a b c U O d (0)) (T_ke n a b c U O d))
abbrev ZS:Prop:=ptr 903 0=ptr 903 0
theorem Jf6(d:Nat)(VW:sV n a b c U O)(UK:1<=d)(HY:d<2^n):HP VT (.rangeFunc (rfF (VX cA 0)) (zS (VX cA 0)) Ju9 Js9) (Xz7 n a b c U O d):=by
 refine vA [(.slot 118,0,0,0)] (L:=[]) (Ae F4 (Ae PY Aa)) Ad U3 U8 (V:=Nat) (pT n a b c U O d) (λk=>k<=(quN n a b c ((d:Int)-1))) (λk=>k) (oZ n a b c U O d) (x0:=0) VZ rfl ?_ ?_ ?_ ?_ (g:=108) (caps:=[.ro [.ro [i 4,i 10,sls n a b c U O,.top,.top]],.ro [i ((d:Int)-1)]]) (caps0:=[.ptr 908 0,.ptr 909 0]) VY VY (vU .top .top n a b c U O ((d:Int)-1) VW (by have:=qK VW.1 HY;omega)) (λ_=>rfl) ?_
 ·rintro k;kernel_rfl
 ·rintro k y E h;unfold oZ at h;split at h
  ·cases h;kernel_rfl
  ·cases h
 ·rintro k;rfl
 ·rintro k y E h;unfold oZ at h;split at h
  ·cases h;rfl
  ·cases h
 ·rintro Q hQ k hx;refine ⟨λhlt=>⟨(k+1),rfl,?_⟩,λPL=>?_⟩
  ·(with_reducible refine DN (t:=let W:=(quB n a b c ((d:Int)-1));let z1:=(BitVec.toNat (BitVec.ofInt 64 ((d:Int)-1) ||| BitVec.ofInt 64 ((1:Int)*2^UX W n k)));let z2:=(lS n a b c U O (2^n-1-d));let z3:=(U4 ((d:Int)-1));let z5:=lQ W n U O;let z4:=(z5 (d-1) z2 k (IntKind.wrap IntKind.i64 (z1:Int)).toNat);(need [(0:Int)<=(↑(UX W n k):Int)/\(↑(UX W n k):Int)<=64,VQ ((1:Int)*2^UX W n k)] (need [UO (IntKind.wrap IntKind.i64 (z1:Int)) (↑(2^n):Int)] (need [(IntKind.wrap IntKind.i64 (z1:Int)).toNat<2^n] (branch (decide (min z4 (O (UX W n k))>=U (UX W n k))) (need [UO ((d:Int)-1) (↑(2^n):Int)] (need [((d:Int)-1).toNat<2^n] (need [UO ((d:Int)-1) (↑(2^n):Int)] (need [((d:Int)-1).toNat<2^n] (need [QP n a b c U O,QS,QD=QD,ZO,ZS,QG n,XW n,QG n,XW n,J1=J1,z3,W7,z3,2^n=2^n,∀(i:Nat),i<2^n->HG (decide (i=((d:Int)-1).toNat)) [iI (max (z5 (d-1) z2 k ((d:Int)-1).toNat) (min z4 (O (UX W n k))))] [iI (z5 (d-1) z2 k i)]=[iI (z5 (d-1) z2 (k+1) i)],2^n=2^n,∀(i:Nat),i<2^n->[iI (eD n a b c U O (2^n) i)]=[iI (eD n a b c U O (2^n) i)],W7,W0,WB,W5 n a b c U O,WI,WJ,W0,WB,W5 n a b c U O] (leaf GB.normal)))))) (need [QP n a b c U O,QS,QD=QD,ZO,ZS,QG n,XW n,QG n,XW n,J1=J1,z3,W7,z3,2^n=2^n,∀(i:Nat),i<2^n->[iI (z5 (d-1) z2 k i)]=[iI (z5 (d-1) z2 (k+1) i)],2^n=2^n,∀(i:Nat),i<2^n->[iI (eD n a b c U O (2^n) i)]=[iI (eD n a b c U O (2^n) i)],W7,W0,WB,W5 n a b c U O,WI,WJ,W0,WB,W5 n a b c U O] (leaf GB.normal))))))) VY ?_)
   have h8:=VW.1;obtain ⟨D,rfl⟩: ∃D,d=D+1:=⟨d-1,VO⟩;have hD:(((D+1:Nat):Int)-1)=(D:Int):=VO;have hd:D<2^n:=VO;have hdi:=qK h8 hd;have hpn:((2^n:Nat):Int)=2^n:=VZ;simp only [hD] at*;have hs:=uY hlt;have hor:=Wg6 h8 hd hs.1;have hol:=Qc8 hd hs.1;simp only [VR.sat,UF,UL,hor,DR,HD,Bi]
   have hd2:(D:Int)<2^n:=by
    have h:(D:Int)<((2^n:Nat):Int):=Int.ofNat_lt.2 hd
    rwa [hpn] at h
   have Qs2:((D ||| 2^UX (quB n a b c D) n k:Nat):Int)<2^n:=by
    have h:((D ||| 2^UX (quB n a b c D) n k:Nat):Int)<((2^n:Nat):Int):=Int.ofNat_lt.2 hol
    rwa [hpn] at h
   have hk1:k+1<=quN n a b c D:=hlt;have h2s:(1:Int)<=2^UX (quB n a b c D) n k/\(2:Int)^UX (quB n a b c D) n k<=256:=gH VO;have h64:=hs.1;refine ⟨⟨⟨VO,VO⟩,by simp only [VQ,Int.one_mul];omega⟩,⟨VO,Qs2⟩,hol,λh=>?_,λh=>?_⟩
   ·refine ⟨⟨VO,hd2⟩,hd,⟨VO,hd2⟩,hd,⟨λj hj=>?_,λ_ _=>trivial⟩,hk1⟩
    simp only [lQ,if_pos h];exact gC
   ·refine ⟨⟨λj hj=>?_,λ_ _=>trivial⟩,hk1⟩
    simp only [lQ,if_neg h]
  ·have hk:k=quN n a b c ((d:Int)-1):=VO;subst hk;exact hQ
theorem Jf7(VW:sV n a b c U O):HP VT (.loop cA) (Xz8 n a b c U O):=by
 refine gP [(.slot 9,903,133,2),(.cell 5 0,0,0,0)] (L:=[BS 117 (λd=>FV [d+1<2^n] (Xz7 n a b c U O (d+1)))]) (Ae LJ (Ae F4 (Ae PY Aa))) (Ai Ab (Ag dR Ac)) U3 (G4 (λcj hcj=>by
  have e:VX cA 0=some (.rangeFunc (rfF (VX cA 0)) (zS (VX cA 0)) Ju9 Js9):=VY;rw [e] at hcj;cases hcj;exact dC (λd=>BB (λh=>Jf6 n a b c U O (d+1) VW (Nat.succ_le_succ (Ao _)) h)))) (X:=Nat) (Wm0 n a b c U O) (λd=>d<=pm n) (λd=>d) (E2 n a b c U O) (x0:=pm n) (Am _) ?_ ?_ ?_
 ·rintro d;kernel_rfl
 ·rintro d y E h;unfold E2 at h;split at h
  ·cases h;kernel_rfl
  ·cases h
 ·rintro Q hQ d hx;refine ⟨(d-1),?_⟩;(with_reducible refine DN (t:=let W:=(quB n a b c ((↑(((d:Int)-1).toNat+1):Int)-1));let z4:=lS n a b c U O;let z1:=(z4 (2^n-1-(((d:Int)-1).toNat+1)));let z2:=eD n a b c U O;let z3:=W5 n a b c U O;(branch (decide ((d:Int)-1>=(0:Int))) (need [((d:Int)-1).toNat+1<2^n] (need [QP n a b c U O,QS,QD=QD,ZO,ZS,QG n,XW n,QG n,XW n,J1=J1,(d:Int)-1=(↑(((d:Int)-1).toNat+1):Int)-1,W7,(d:Int)-1=(↑(((d:Int)-1).toNat+1):Int)-1,2^n=2^n,∀(i:Nat),i<2^n->[iI (z4 (2^n-1-d) i)]=[iI (lQ W n U O (((d:Int)-1).toNat+1-1) z1 0 i)],2^n=2^n,∀(i:Nat),i<2^n->[iI (z2 (2^n) i)]=[iI (z2 (2^n) i)],W7,W0,WB,z3,WI,WJ,W0,WB,z3] (need [VQ ((↑(((d:Int)-1).toNat+1):Int)-1-1)] (need [QP n a b c U O,QS,QD=QD,ZO,ZS,QG n,XW n,QG n,XW n,(↑(((d:Int)-1).toNat+1):Int)-1-1=(↑(d-1):Int)-1,2^n=2^n,∀(i:Nat),i<2^n->[iI (lQ W n U O (((d:Int)-1).toNat+1-1) z1 (quN n a b c ((↑(((d:Int)-1).toNat+1):Int)-1)) i)]=[iI (z4 (2^n-1-(d-1)) i)],2^n=2^n,∀(i:Nat),i<2^n->[iI (z2 (2^n) i)]=[iI (z2 (2^n) i)],W7,W0,WB,z3,WI,WJ,W0,WB,z3] (leaf GB.normal))))) (need [QP n a b c U O,QS,QD=QD,ZO,ZS,QG n,XW n,QG n,XW n,(d:Int)-1=(↑(0:Nat):Int)-1,2^n=2^n,∀(i:Nat),i<2^n->[iI (z4 (2^n-1-d) i)]=[iI (z4 (2^n-1-0) i)],2^n=2^n,∀(i:Nat),i<2^n->[iI (z2 (2^n) i)]=[iI (z2 (2^n) i)],W7,W0,WB,z3,WI,WJ,W0,WB,z3] (leaf (GB.exit 6))))) VY ?_);simp only [Jo6,E2,VR.sat,GZ] at hQ;simp only [VR.sat,UF,GA,GR,UI,VQ,UL,HD,RF,RG,L9,GT,E2]
  have h8:=VW.1;have hpm:pm n=2^n-1:=rfl;rw [hpm] at hx ⊢;have hp:=gH h8;have hpn:((2^n:Nat):Int)=2^n:=VZ;refine ⟨λh=>?_,λh=>?_⟩
  ·obtain ⟨D,rfl⟩: ∃D,d=D+1:=⟨d-1,VO⟩;have e1:(((D+1:Nat):Int)-1).toNat=D:=VO;have e2:(((D+1:Nat):Int)-1)=(D:Int):=VO;have hd:D+1<2^n:=VO;have hdi:=qK h8 hd;simp only [e2,DR,Bi,true_and];have hst:lQ (quB n a b c D) n U O D (lS n a b c U O (2^n-1-(D+1))) (quN n a b c D)=lS n a b c U O (2^n-1-D):=by
    have h1:2^n-1-D=(2^n-1-(D+1))+1:=VO;have h2:2^n-2-(2^n-1-(D+1))=D:=VO;rw [h1];simp only [lS,h2]
   refine ⟨hd,⟨λj hj=>rfl,λ_ _=>trivial⟩,VO,⟨λj hj=>by rw [hst],λ_ _=>trivial⟩,VO,VO⟩
  ·obtain rfl:d=0:=VO;exact ⟨⟨rfl,λj hj=>rfl,λ_ _=>trivial⟩,λE hE=>by cases hE;exact hQ⟩
end
theorem tA{S:Code->UN->Prop}{c:Code}{s0 s1 s2:UN}(h0: ∀cj,VX c 0=some cj->S cj s0)(h1: ∀cj,VX c 1=some cj->S cj s1)(h2: ∀cj,VX c 2=some cj->S cj s2):
  ∀j cj,VX c j=some cj-> ∀sp,[s0,s1,s2][j]? =some sp->S cj sp:=by
 intro j cj hj sp hsp
 match j with
 | 0=>simp at hsp;subst hsp;exact h0 cj hj
 | 1=>simp at hsp;subst hsp;exact h1 cj hj
 | 2=>simp at hsp;subst hsp;exact h2 cj hj
 |j+3=>simp at hsp
section
variable (n:Nat)(a b c U O:Nat->Int)
theorem Wg1(VW:sV n a b c U O):FH VT 49 [.agg [i 4,i 10,sls n a b c U O]] (.ro [i 4,i 10,sls n a b c U O,.lst 1 (2^n) (λz=>[i (eD n a b c U O (2^n) z)]),.lst 1 (2^n) (λz=>[i (lS n a b c U O (2^n-1) z)])]):=by
 refine D2 (L:=[Za1 n a b c U O,Za0 n a b c U O,Xz8 n a b c U O]) (Ae LJ (Ae F4 (Ae PY Aa))) (Ai Ab (Ag dR Ac)) U3 Tryz.func49 (UY Tryz.f49) (tA (lpE (b:= .loop Jt1) VY<|(Jg0 n a b c U O VW).N) (lpE (b:= .loop cB) VY<|Jf9 n a b c U O VW) (lpE (b:= .loop cA) VY<|Jf7 n a b c U O VW)) (t:=let W:=W5 n a b c U O;(need [n<=8] (need [VQ ((2:Int)^n-1+1)] (need [QP n a b c U O,QS,QD=QD,ZO,QG n,(0:Int)=(↑(0:Nat):Int),0=0,∀(i:Nat),i<0->[]=[iI (-1:Int)],0=0,∀(i:Nat),i<0->[]=ZY,W7,W0,WB,W,WI,WJ,W0,WB,W] (need [UO 0 (↑(2^n):Int)] (need [(0:Int).toNat<2^n] (need [n<=8] (need [VQ ((2:Int)^n-1+1)] (need [QP n a b c U O,QS,QD=QD,ZO,QG n,XW n,QG n,(0:Int)=(↑(0:Nat):Int),2^n=2^n,∀(i:Nat),i<2^n->[iI (-1:Int)]=[iI (-1:Int)],2^n=2^n,∀(i:Nat),i<2^n->HG (decide (i=(0:Int).toNat)) [iI 0] ZY=[iI (eD n a b c U O 0 i)],W7,W0,WB,W,WI,WJ,W0,WB,W] (need [n<=8] (need [(0:Int)<=2^n-1/\(2:Int)^n-1<(↑(2^n):Int)] (need [((2:Int)^n-1).toNat<2^n] (need [n<=8] (need [VQ ((2:Int)^n-1-1)] (need [QP n a b c U O,QS,QD=QD,ZO,ZS,QG n,XW n,QG n,XW n,(2:Int)^n-1-1=(↑(pm n):Int)-1,2^n=2^n,∀(i:Nat),i<2^n->HG (decide (i=((2:Int)^n-1).toNat)) ZY [iI (-1:Int)]=[iI (lS n a b c U O (2^n-1-pm n) i)],2^n=2^n,∀(i:Nat),i<2^n->[iI (eD n a b c U O (2^n) i)]=[iI (eD n a b c U O (2^n) i)],W7,W0,WB,W,WI,WJ,W0,WB,W] (leaf (AV.ro [iI 4,iI 10,Q0 n a b c U O,lst 1 (2^n) λz=>[iI (eD n a b c U O (2^n) z)],lst 1 (2^n) λz=>[iI (lS n a b c U O (2^n-1-0) z)]]))))))))))))))))) VY ?_
 have h8:=VW.1;have hp:=gH h8;have hpn:((2^n:Nat):Int)=2^n:=VZ;have hp1:1<=2^n:=Nat.one_le_two_pow;have hpt:((2:Int)^n-1).toNat=2^n-1:=VO;simp only [VR.sat,UF,UL,VQ,hpt,Int.toNat_zero]
 (with_reducible repeat' first|apply Al|intro _)
 all_goals first|exact Ak|omega|with_reducible rfl|rfl|skip
 ·rename_i q hq;exact gC (F:=λ_=>101)
 ·have h1:((pm n:Nat):Int)=((2^n:Nat):Int)-1:=by
   unfold pm;omega
  rw [h1,hpn]
 ·rename_i q hq;rw [show 2^n-1-pm n=0 from Bs _];exact gC (F:=λ_=> -1)
def Xq5:G0:=λl=>some ([l=[.agg [i 4,i 10,sls n a b c U O]]],.ro [i 4,i 10,sls n a b c U O,.lst 1 (2^n) (λz=>[i (eD n a b c U O (2^n) z)]),.lst 1 (2^n) (λz=>[i (lS n a b c U O (2^n-1) z)])])
theorem dT(VW:sV n a b c U O):P7 VT 49 (Xq5 n a b c U O):=by
 refine ⟨(UM Tryz.func49),?_⟩;intro avs ns res h hn;cases h;have e:=hn _ GK;subst e;exact Wg1 n a b c U O VW
def Xb2:G0:=λl=>some ([l=[.agg [i 4,i 10,sls n a b c U O]]],i (if jO n a b c U O then 0 else 1))
theorem vW(VW:n<=8):VU VT 48 (Xb2 n a b c U O):=by
 refine ⟨(UM Tryz.func48),?_⟩;intro avs ns res h hn;cases h;have e:=hn _ GK;subst e;exact O4 n a b c U O VW
theorem Wg0(E F:Nat->Int)(VW:n<=8):U2 VT 50 [.ro [i 4,i 10,sls n a b c U O,.lst 1 (2^n) (λz=>[i (E z)]),.lst 1 (2^n) (λz=>[i (F z)])]] (bl (E (2^n-1) != 101)):=by
 refine U6 (L:=[]) (Ae LJ Aa) U3 Tryz.func50 (UY Tryz.f50) U8 (t:=need [n<=8] (need [(0:Int)<=2^n-1/\(2:Int)^n-1<(↑(2^n):Int)] (leaf (RV.x (.bool (E ((2:Int)^n-1).toNat != 101)))))) VY ?_;have hp:=gH VW;have hpn:((2^n:Nat):Int)=2^n:=VZ;have hp1:1<=2^n:=Nat.one_le_two_pow;have hpt:((2:Int)^n-1).toNat=2^n-1:=VO;simp only [VR.sat,UF,GA,GR,UI,UL,hpt]
 (with_reducible repeat' first|apply Al|intro _)
 all_goals first|exact VW|omega|rfl|trivial
def Xq4(E F:Nat->Int):G0:=λl=>some ([l=[.ro [i 4,i 10,sls n a b c U O,.lst 1 (2^n) (λz=>[i (E z)]),.lst 1 (2^n) (λz=>[i (F z)])]]],bl (E (2^n-1) != 101))
theorem dS(E F:Nat->Int)(VW:n<=8):VU VT 50 (Xq4 n a b c U O E F):=by
 refine ⟨(UM Tryz.func50),?_⟩;intro avs ns res h hn;cases h;have e:=hn _ GK;subst e;exact Wg0 n a b c U O E F VW
theorem eT(E F:Nat->Int)(d Z:Int)(VW:0<=d/\d<2^n):U2 VT 52 [.ro [i 4,i 10,sls n a b c U O,.lst 1 (2^n) (λz=>[i (E z)]),.lst 1 (2^n) (λz=>[i (F z)])],i d,i Z] (bl (decide (E d.toNat<=Z)&&decide (F d.toNat>Z))):=by
 refine H3 Tryz.func52 (t:=need [UO d (↑(2^n):Int)] (branch (decide (E (Int.toNat d)<=Z)) (need [UO d (↑(2^n):Int)] (leaf (RV.x (.bool (decide (F (Int.toNat d)>Z)))))) (leaf (RV.x (WN))))) VY ?_;have hpn:((2^n:Nat):Int)=2^n:=VZ;simp only [VR.sat,UF,GA,GR,UI,UL];have hd:d.toNat<2^n:=VO
 (with_reducible repeat' first|apply Al|intro _)
 all_goals first|omega|(rename_i h;rw [h];rfl)
def MP(E F:Nat->Int):G0
 |[bk,.x (.int .i64 d),.x (.int .i64 Z)]=>some ([bk= .ro [i 4,i 10,sls n a b c U O,.lst 1 (2^n) (λz=>[i (E z)]),.lst 1 (2^n) (λz=>[i (F z)])],0<=d/\d<2^n],bl (decide (E d.toNat<=Z)&&decide (F d.toNat>Z)))
 |_=>none
theorem gG(E F:Nat->Int):VU VT 52 (MP n a b c U O E F):=by
 refine ⟨(UM Tryz.func52),?_⟩;intro avs ns res h hn;unfold MP at h;split at h
 ·cases h;rename_i bk d Z;have e:=hn _ GK;rw [e];exact eT n a b c U O E F d Z (hn _ VZ)
 ·cases h
end
def hoF(n:Nat)(a b c:Nat->Int)(E F:Nat->Int)(ow Z:Int):Nat->Int×Int
 | 0=>(1001,-1)
 |d+1=>match decide (E d<=Z)&&decide (F d>Z) with
  |true=>(min (hoF n a b c E F ow Z d).1 (stF a b c d n ow.toNat),max (hoF n a b c E F ow Z d).2 (stF a b c d n ow.toNat))
  |false=>hoF n a b c E F ow Z d
theorem nth6(F:Nat->Int){q:Nat}(hq:q<6):UD [F 0,F 1,F 2,F 3,F 4,F 5] q=F q:=by
 match q,hq with
 | 0,_=>rfl
 | 1,_=>rfl
 | 2,_=>rfl
 | 3,_=>rfl
 | 4,_=>rfl
 | 5,_=>rfl
section
variable (n:Nat)
abbrev WF(a:Nat->Int)(b:Nat->Int)(c:Nat->Int)(U:Nat->Int)(O:Nat->Int)(E:Nat->Int)(F:Nat->Int):AV:=AV.ro [iI 4,iI 10,Q0 n a b c U O,lst 1 (2^n) λz=>[iI (E z)],lst 1 (2^n) λz=>[iI (F z)]]
abbrev JS:List AV:=[iI 0,iI 0]
def Zt8(a b c U O:Nat->Int)(E F:Nat->Int)(ow Z:Int):St:={σ:=[WF n a b c U O E F,iI ow,iI Z,top,top,top,ptr 0 0,ptr 2 0]++HO 5 [ZH n]++HO 25 [],m:=[(2,GU.cells 37 [iI 1001,iI (-1:Int)]),(0,GU.cells 37 JS)],nx:=8}
noncomputable def Jt3:Code:=UE (VX (UB Tryz.f29) 0)
def Wm4(a b c U O:Nat->Int)(E F:Nat->Int)(ow Z:Int)(d:Nat):St:={σ:=H6 [(8,.top),(9,.top),(14,i d)] (Zt8 n a b c U O E F ow Z).σ,m:=[(2,.cells 37 [i (hoF n a b c E F ow Z (d)).1,i (hoF n a b c E F ow Z (d)).2]),(0,.cells 37 [i 0,i 0])],nx:=8}
def E6(a b c U O:Nat->Int)(E F:Nat->Int)(ow Z:Int)(d:Nat):GB->Option St
 | .exit 0=>some {σ:=H6 [(8,.top),(9,.top),(14,i (2^n))] (Zt8 n a b c U O E F ow Z).σ,m:=[(2,.cells 37 [i (hoF n a b c E F ow Z (2^n)).1,i (hoF n a b c E F ow Z (2^n)).2]),(0,.cells 37 [i 0,i 0])],nx:=8}
 |_=>none
def Jp0(a b c U O:Nat->Int)(E F:Nat->Int)(ow Z:Int):CT:= .leaf (.exit 0,(E6 n a b c U O E F ow Z 0 (.exit 0)).getD (Zt8 n a b c U O E F ow Z))
def Za3(a b c U O:Nat->Int)(E F:Nat->Int)(ow Z:Int):UN:=(HM (Wm4 n a b c U O E F ow Z (0)) (Jp0 n a b c U O E F ow Z))
abbrev ZD:Prop:=ptr 2 0=ptr 2 0
theorem Jh9(a b c U O:Nat->Int)(E F:Nat->Int)(ow Z:Int)(VW:sV n a b c U O)(UK:0<=ow/\ow<4):GC VT (.loop Jt3) (Za3 n a b c U O E F ow Z):=by
 refine HL (L:=[]) (Ae PY (Ae F4 (Ae LJ (Ae (gG n a b c U O E F) (Ae (wH n a b c U O VW) Aa))))) U3 U8 (X:=Nat) (Wm4 n a b c U O E F ow Z) (λd=>d<=2^n) (λd=>2^n-d) (E6 n a b c U O E F ow Z) (x0:=0) VZ ?_ ?_ ?_
 ·rintro d;kernel_rfl
 ·rintro d y E h;unfold E6 at h;split at h
  ·cases h;kernel_rfl
  ·cases h
 ·rintro Q hQ d hx;refine ⟨(d+1),?_⟩;(with_reducible refine DN (t:=let W:=(UD [stF a b c (d:Int) n 0,stF a b c (d:Int) n 1,stF a b c (d:Int) n 2,stF a b c (d:Int) n 3,stF a b c (d:Int) n 4,stF a b c (d:Int) n 5] (Int.toNat ow));let z2:=hoF n a b c E F ow Z;let z1:=(z2 d);let z3:=(U4 (WF n a b c U O E F));(branch (decide ((d:Int)<2^n-1+1)) (need [z3,(0:Int)<=(d:Int)/\(d:Int)<2^n] (branch (decide (E d<=Z)&&decide (F d>Z)) (need [W5 n a b c U O,(0:Int)<=(d:Int)/\(d:Int)<256] (need [UO ow 6] (need [VQ ((d:Int)+1)] (need [z3,ow=ow,Z=Z,QS,ZD,QG n,(d:Int)+1=(↑(d+1):Int),min (Prod.fst z1) W=Prod.fst (z2 (d+1)),max (Prod.snd z1) W=Prod.snd (z2 (d+1)),QY,QY] (leaf GB.normal))))) (need [VQ ((d:Int)+1)] (need [z3,ow=ow,Z=Z,QS,ZD,QG n,(d:Int)+1=(↑(d+1):Int),Prod.fst z1=Prod.fst (z2 (d+1)),Prod.snd z1=Prod.snd (z2 (d+1)),QY,QY] (leaf GB.normal))))) (need [z3,ow=ow,Z=Z,QS,ZD,QG n,(d:Int)=2^n,Prod.fst z1=Prod.fst (z2 (2^n)),Prod.snd z1=Prod.snd (z2 (2^n)),QY,QY] (leaf (GB.exit 0))))) VY ?_);simp only [Jp0,E6,VR.sat,GZ] at hQ;simp only [VR.sat,UF,GA,GR,UI,VQ,UL,HD,RF,RG,L9,GT,E6]
  have h8:=VW.1;have hp:=gH h8;have hpn:((2^n:Nat):Int)=2^n:=VZ;refine ⟨λh=>?_,λh=>?_⟩
  ·have hd3:(d:Int)<2^n:=VO;have hd:d<2^n:=by
    have h':(d:Int)<((2^n:Nat):Int):=by rw [hpn];exact hd3
    exact Int.ofNat_lt.1 h'
   have hd2:=qK h8 hd;have h6:=nth6 (stF a b c d n) (show ow.toNat<6 by omega)
   refine ⟨⟨VO,hd3⟩,λhb=>?_,λhb=>?_⟩
   ·refine ⟨hd2,⟨VO,VO⟩,VO,⟨VO,?_,?_⟩,hd,VO⟩
    ·simp only [hoF,hb];rw [h6]
    ·simp only [hoF,hb];rw [h6]
   ·refine ⟨VO,⟨VO,?_,?_⟩,hd,VO⟩
    ·simp only [hoF,hb]
    ·simp only [hoF,hb]
  ·have hd:d=2^n:=by
    have h': ¬(d:Int)<((2^n:Nat):Int):=by rw [hpn];omega
    omega
   subst hd;exact ⟨⟨hpn,rfl,rfl⟩,λE hE=>by cases hE;exact hQ⟩
theorem Qo8(a b c U O:Nat->Int)(E F:Nat->Int)(ow Z:Int)(VW:sV n a b c U O)(UK:0<=ow/\ow<4):U2 VT 29 [.ro [i 4,i 10,sls n a b c U O,.lst 1 (2^n) (λz=>[i (E z)]),.lst 1 (2^n) (λz=>[i (F z)])],i ow,i Z] (.agg [i (hoF n a b c E F ow Z (2^n)).1,i (hoF n a b c E F ow Z (2^n)).2]):=by
 refine U6 (L:=[Za3 n a b c U O E F ow Z]) (Ae PY (Ae F4 (Ae LJ (Ae (gG n a b c U O E F) (Ae (wH n a b c U O VW) Aa))))) U3 Tryz.func29 (UY Tryz.f29) (G4 (lpE (b:= .loop Jt3) VY<|Jh9 n a b c U O E F ow Z VW UK)) (t:=let W:=hoF n a b c E F ow Z;(need [n<=8] (need [VQ ((2:Int)^n-1+1)] (need [U4 (WF n a b c U O E F),ow=ow,Z=Z,QS,ZD,QG n,(0:Int)=(↑(0:Nat):Int),(1001:Int)=Prod.fst (W 0),(-1:Int)=Prod.snd (W 0),QY,QY] (leaf (RV.agg [RV.x (.int .i64 (Prod.fst (W (2^n)))),RV.x (.int .i64 (Prod.snd (W (2^n))))])))))) VY ?_
 have h8:=VW.1;have hp:=gH h8;have hpn:((2^n:Nat):Int)=2^n:=VZ;simp only [VR.sat,UF,GA,GR,UI,UL,VQ,Prod.fst,Prod.snd]
 (with_reducible repeat' first|apply Al|intro _)
 all_goals first|exact Ak|exact h8|omega|rfl
def nB(a b c U O:Nat->Int)(E F:Nat->Int):G0
 |[bk,.x (.int .i64 ow),.x (.int .i64 Z)]=>some ([bk= .ro [i 4,i 10,sls n a b c U O,.lst 1 (2^n) (λz=>[i (E z)]),.lst 1 (2^n) (λz=>[i (F z)])],0<=ow/\ow<4],.agg [i (hoF n a b c E F ow Z (2^n)).1,i (hoF n a b c E F ow Z (2^n)).2])
 |_=>none
theorem vV(a b c U O:Nat->Int)(E F:Nat->Int)(VW:sV n a b c U O):VU VT 29 (nB n a b c U O E F):=by
 refine ⟨(UM Tryz.func29),?_⟩;intro avs ns res h hn;unfold nB at h;split at h
 ·cases h;rename_i bk ow Z;have e:=hn _ GK;rw [e];exact Qo8 n a b c U O E F ow Z VW (hn _ VZ)
 ·cases h
def jF(a b c U O:Nat->Int):Bool:=eD n a b c U O (2^n) (2^n-1) != 101
end
theorem bK{n:Nat}{a b c U O:Nat->Int}(h:sV n a b c U O):jO n a b c U O=true:=GY.2 h.2
section
variable (n:Nat)
abbrev X7(a:Nat->Int)(b:Nat->Int)(c:Nat->Int)(U:Nat->Int)(O:Nat->Int):List AV:=[agg [iI 4,iI 10,Q0 n a b c U O]]
theorem Qo6(a b c U O:Nat->Int)(rt:Bool)(VW:sV n a b c U O):US VT 26 [.agg [i 4,i 10,sls n a b c U O],bl rt] (.branch (!rt) (.leaf (.tup [Bo.nilP,i 2])) (.branch (!jF n a b c U O) (.leaf (.tup [Bo.nilP,i 9])) (.leaf (.tup [.ro [i 4,i 10,sls n a b c U O,.lst 1 (2^n) (λz=>[i (eD n a b c U O (2^n) z)]),.lst 1 (2^n) (λz=>[i (lS n a b c U O (2^n-1) z)])],i 0])))):=by
 refine GX (L:=[]) (Ae (vW n a b c U O VW.1) (Ae (dS n a b c U O (eD n a b c U O (2^n)) (lS n a b c U O (2^n-1)) VW.1) Aa)) (Ai (Af (dT n a b c U O VW) Ab) Ac) U3 Tryz.func26 (UY Tryz.f26) G9 (t:=let W:=(AV.ro [iI 4,iI 10,Q0 n a b c U O,lst 1 (2^n) λz=>[iI (eD n a b c U O (2^n) z)],lst 1 (2^n) λz=>[iI (lS n a b c U O (2^n-1) z)]]);(need [U4 (X7 n a b c U O)] (branch ((if jO n a b c U O=true then (0:Int) else (1:Int)) != 0) (leaf (tup [QD,iI (if jO n a b c U O=true then (0:Int) else (1:Int))])) (branch (!rt) (leaf (tup [QD,iI 2])) (need [U4 (X7 n a b c U O)] (need [U4 ([W])] (branch (!eD n a b c U O (2^n) (2^n-1) != 101) (leaf (tup [QD,iI 9])) (leaf (tup [W,iI 0]))))))))) VY ?_
 intro Q hQ;simp only [VR.sat,UF,UL] at hQ ⊢;rw [bK VW];refine ⟨λh=>by simp at h,λ_=>⟨λh=>⟨.tup [Bo.nilP,i 2],⟨rfl,⟨rfl,rfl⟩,Ak⟩,hQ.1 h⟩,λh=>⟨λh2=>⟨.tup [Bo.nilP,i 9],⟨rfl,⟨rfl,rfl⟩,Ak⟩,(hQ.2 h).1 h2⟩,λh2=>⟨.tup [.ro [i 4,i 10,sls n a b c U O,.lst 1 (2^n) (λz=>[i (eD n a b c U O (2^n) z)]),.lst 1 (2^n) (λz=>[i (lS n a b c U O (2^n-1) z)])],i 0],⟨rfl,⟨rfl,rfl⟩,Ak⟩,(hQ.2 h).2 h2⟩⟩⟩⟩
theorem CO(a b c U O:Nat->Int)(VW:sV n a b c U O):US VT 26 [.agg [i 4,i 10,sls n a b c U O],.lit true] (.branch (!true) (.leaf (.tup [Bo.nilP,i 2])) (.branch (!jF n a b c U O) (.leaf (.tup [Bo.nilP,i 9])) (.leaf (.tup [.ro [i 4,i 10,sls n a b c U O,.lst 1 (2^n) (λz=>[i (eD n a b c U O (2^n) z)]),.lst 1 (2^n) (λz=>[i (lS n a b c U O (2^n-1) z)])],i 0])))):=by
 refine GX (L:=[]) (Ae (vW n a b c U O VW.1) (Ae (dS n a b c U O (eD n a b c U O (2^n)) (lS n a b c U O (2^n-1)) VW.1) Aa)) (Ai (Af (dT n a b c U O VW) Ab) Ac) U3 Tryz.func26 (UY Tryz.f26) G9 (t:=let W:=(AV.ro [iI 4,iI 10,Q0 n a b c U O,lst 1 (2^n) λz=>[iI (eD n a b c U O (2^n) z)],lst 1 (2^n) λz=>[iI (lS n a b c U O (2^n-1) z)]]);(need [U4 (X7 n a b c U O)] (branch ((if jO n a b c U O=true then (0:Int) else (1:Int)) != 0) (leaf (tup [QD,iI (if jO n a b c U O=true then (0:Int) else (1:Int))])) (need [U4 (X7 n a b c U O)] (need [U4 ([W])] (branch (!eD n a b c U O (2^n) (2^n-1) != 101) (leaf (tup [QD,iI 9])) (leaf (tup [W,iI 0])))))))) VY ?_
 intro Q hQ;simp only [VR.sat,UF,UL] at hQ ⊢;rw [bK VW]
 replace hQ:=hQ.2 rfl
 refine ⟨λh=>by simp at h,λ_=>⟨λh2=>⟨.tup [Bo.nilP,i 9],⟨rfl,⟨rfl,rfl⟩,Ak⟩,hQ.1 h2⟩,λh2=>⟨.tup [.ro [i 4,i 10,sls n a b c U O,.lst 1 (2^n) (λz=>[i (eD n a b c U O (2^n) z)]),.lst 1 (2^n) (λz=>[i (lS n a b c U O (2^n-1) z)])],i 0],⟨rfl,⟨rfl,rfl⟩,Ak⟩,hQ.2 h2⟩⟩⟩
theorem A4(a b c U O:Nat->Int)(VW:sV n a b c U O):US VT 26 [.agg [i 4,i 10,sls n a b c U O],.lit false] (.branch (!false) (.leaf (.tup [Bo.nilP,i 2])) (.branch (!jF n a b c U O) (.leaf (.tup [Bo.nilP,i 9])) (.leaf (.tup [.ro [i 4,i 10,sls n a b c U O,.lst 1 (2^n) (λz=>[i (eD n a b c U O (2^n) z)]),.lst 1 (2^n) (λz=>[i (lS n a b c U O (2^n-1) z)])],i 0])))):=by
 refine GX (L:=[]) (Ae (vW n a b c U O VW.1) (Ae (dS n a b c U O (eD n a b c U O (2^n)) (lS n a b c U O (2^n-1)) VW.1) Aa)) (Ai (Af (dT n a b c U O VW) Ab) Ac) U3 Tryz.func26 (UY Tryz.f26) G9 (t:=need [U4 (X7 n a b c U O)] (branch ((if jO n a b c U O=true then (0:Int) else (1:Int)) != 0) (leaf (tup [QD,iI (if jO n a b c U O=true then (0:Int) else (1:Int))])) (leaf (tup [QD,iI 2])))) VY ?_
 intro Q hQ;simp only [VR.sat,UF,UL] at hQ ⊢;rw [bK VW];exact ⟨λh=>by simp at h,λ_=>⟨.tup [Bo.nilP,i 2],⟨rfl,⟨rfl,rfl⟩,Ak⟩,hQ.1 rfl⟩⟩
def MO(a b c U O:Nat->Int):DM:=λl=>match l with
 |[bt,.x (.bool rt)]=>some (.need [bt= .agg [i 4,i 10,sls n a b c U O]] (.branch (!rt) (.leaf (.tup [Bo.nilP,i 2])) (.branch (!jF n a b c U O) (.leaf (.tup [Bo.nilP,i 9])) (.leaf (.tup [.ro [i 4,i 10,sls n a b c U O,.lst 1 (2^n) (λz=>[i (eD n a b c U O (2^n) z)]),.lst 1 (2^n) (λz=>[i (lS n a b c U O (2^n-1) z)])],i 0])))))
 |[bt,.lit rt]=>some (.need [bt= .agg [i 4,i 10,sls n a b c U O]] (.branch (!rt) (.leaf (.tup [Bo.nilP,i 2])) (.branch (!jF n a b c U O) (.leaf (.tup [Bo.nilP,i 9])) (.leaf (.tup [.ro [i 4,i 10,sls n a b c U O,.lst 1 (2^n) (λz=>[i (eD n a b c U O (2^n) z)]),.lst 1 (2^n) (λz=>[i (lS n a b c U O (2^n-1) z)])],i 0])))))
 |_=>none
theorem vQ(a b c U O:Nat->Int)(VW:sV n a b c U O):Sx.Enters Tryz.prog 26/\ ∀avs t,MO n a b c U O avs=some t->US VT 26 avs t:=by
 refine ⟨(UM Tryz.func26),?_⟩;intro avs t h;unfold MO at h;split at h
 ·cases h;intro Q hQ;have e:=hQ.1
  dsimp only [UF] at e
  subst e;exact Qo6 n a b c U O _ VW Q hQ.2
 ·cases h;intro Q hQ;have e:=hQ.1
  dsimp only [UF] at e
  subst e;rename_i rt;cases rt
  ·exact A4 n a b c U O VW Q hQ.2
  ·exact CO n a b c U O VW Q hQ.2
 ·cases h
def fJ{α:Type}(f:Nat->Option α):Nat->Nat->Option α
 |_,0=>none
 |s,k+1=>match f s with
  |some r=>some r
  |none=>fJ f (s+1) k
def orQ(a b c U O:Nat->Int)(g:Nat->Int->Option (List (Nat×Int)))(d:Nat)(Z:Int)(q:Nat):Option (List (Nat×Int)):=
 if max Z (U (UX (quB n a b c d) n q))>O (UX (quB n a b c d) n q) then none else
  match g (d ||| 2^UX (quB n a b c d) n q) (max Z (U (UX (quB n a b c d) n q))) with
  |some l=>some (l++[(UX (quB n a b c d) n q,max Z (U (UX (quB n a b c d) n q)))])
  |none=>none
end
def orF(n:Nat)(a b c U O:Nat->Int):Nat->Nat->Int->Option (List (Nat×Int))
 | 0,_,_=>none
 |N+1,d,Z=>if d=2^n-1 then some [] else fJ (orQ n a b c U O (orF n a b c U O N) d Z) 0 (quN n a b c d)
def orS(n:Nat)(a b c U O:Nat->Int)(d:Nat)(Z:Int):Option (List (Nat×Int)):=orF n a b c U O (2^n) d Z
def orL(l:List (Nat×Int)):List Int:=l.map λp=>(p.1:Int)
def dyU:List (Nat×Int)->(Nat->Int)->Nat->Int
 |[],f=>f
 |p::t,f=>dyU t (UV p.1 p.2 f)
section
variable (n:Nat)(a b c U O:Nat->Int)
def orG(d:Nat)(Z:Int):List (Nat×Int):=(orS n a b c U O d Z).getD []
def orH(x:Value):Prop:= ∃(d:Nat) (Z:Int),x= .agg #[.int .i64 d,.int .i64 Z]/\d<2^n/\orS n a b c U O d Z=none
end
def orV:Value->Value:=λ_=> .bool true
def stK(x:Value):Prop:= ∃(d Z:Int),x= .agg #[.int .i64 d,.int .i64 Z]
theorem Wi0(l m:List Int): ∀k,UD (l++m) k=if k<l.length then UD l k else UD m (k-l.length):=by
 induction l with
 |nil=>intro k;simp
 |cons x l ih=>
  intro k;cases k with
  |zero=>simp [UD]
  |succ k=>
   show UD (l++m) k=_;rw [ih];simp only [Bj,Nat.add_lt_add_iff_right,Nat.add_sub_add_right];rfl
theorem EQ: ∀{l:List Int} {k:Nat} (h:k<l.length),UD l k=l[k]
 |x::l,0,h=>rfl
 |x::l,k+1,h=>EQ (l:=l) (k:=k) (by simpa using h)
theorem fI{α:Type}{f:Nat->Option α}: ∀{k s:Nat},fJ f s k=none↔ ∀j,s<=j->j<s+k->f j=none
 | 0,s=>⟨λ_ j h1 h2=>VO,λ_=>rfl⟩
 |k+1,s=>by
  unfold fJ;cases h:f s with
  |some r=>exact ⟨λh1=>(by cases h1),λh1=>(by rw [h1 s (Am _) VO] at h;cases h)⟩
  |none=>
   simp only;rw [fI];refine ⟨λh1 j h2 h3=>?_,λh1 j h2 h3=>h1 j VO VO⟩
   rcases (show j=s\/s+1<=j by omega) with rfl|h4
   ·exact h
   ·exact h1 j h4 VO
theorem S2{α:Type}{f:Nat->Option α}{r:α}{q:Nat}(hq:f q=some r): ∀{k s:Nat},s<=q->q<s+k->(∀j,s<=j->j<q->f j=none)->fJ f s k=some r
 | 0,s,h1,h2,_=>VO
 |k+1,s,h1,h2,h3=>by
  unfold fJ;rcases (show s=q\/s<q by omega) with rfl|h4
  ·rw [hq]
  ·rw [h3 s (Am _) h4];exact S2 hq h4 VO (λj h5 h6=>h3 j VO h6)
theorem IL{α:Type}{f g:Nat->Option α}: ∀{k s:Nat},(∀j,s<=j->j<s+k->f j=g j)->fJ f s k=fJ g s k
 | 0,_,_=>rfl
 |k+1,s,h=>by
  unfold fJ;rw [h s (Am _) VO,IL (λj h1 h2=>h j VO VO)]
theorem AF{n:Nat}(h:n<=8):2^n<=256:=by
 have:=gH h;have hpn:((2^n:Nat):Int)=2^n:=VZ;omega
theorem Xv2{n:Nat}{a b c:Nat->Int}{d q:Nat}(h8:n<=8)(hd:d<2^n)(hq:q<quN n a b c d):d<d ||| 2^UX (quB n a b c d) n q:=by
 have hs:=uY hq;have h2:=AF h8;have hb:NE d (UX (quB n a b c d) n q)=false:=by
  have:=hs.2;unfold quB at this;rw [HE] at this;have h1:=this.1;unfold quB;simpa using h1
 rw [Wr8 VO] at hb;have hle:d<=d ||| 2^UX (quB n a b c d) n q:=Nat.left_le_or
 rcases Nat.lt_or_eq_of_le hle with h|h
 ·exact h
 ·exfalso;have:(d ||| 2^UX (quB n a b c d) n q).testBit (UX (quB n a b c d) n q)=true:=by
   rw [Nat.testBit_or,Nat.testBit_two_pow_self,Bool.or_true]
  rw [←h,hb] at this;cases this
theorem eZ{n:Nat}{a b c U O:Nat->Int}(h8:n<=8): ∀(N N' d:Nat) (Z:Int),d<2^n->2^n-d<=N->2^n-d<=N'->orF n a b c U O N d Z=orF n a b c U O N' d Z
 | 0,_,d,_,h1,h2,_=>VO
 |N+1,0,d,_,h1,_,h3=>VO
 |N+1,N'+1,d,Z,h1,h2,h3=>by
  simp only [orF];split
  ·rfl
  ·refine IL λq _ hq=>?_
   have hq:q<quN n a b c d:=VO;have hg:=Xv2 h8 h1 hq;have hl:=Qc8 h1 (uY hq).1;unfold orQ;rw [eZ h8 N N' _ _ hl VO VO]
section
variable {n:Nat}{a b c U O:Nat->Int}
theorem pC(h8:n<=8){d:Nat}(Z:Int)(hd:d<2^n):orS n a b c U O d Z=if d=2^n-1 then some [] else fJ (orQ n a b c U O (orS n a b c U O) d Z) 0 (quN n a b c d):=by
 have h:orS n a b c U O d Z=orF n a b c U O (2^n+1) d Z:=eZ h8 _ _ _ _ hd VO VO;rw [h];rfl
theorem Wg8(h8:n<=8)(Z:Int):orS n a b c U O (2^n-1) Z=some []:=by
 have:=AF h8;have:0<2^n:=Nat.two_pow_pos n;rw [pC h8 Z VO,if_pos rfl]
end
theorem Xi6(l:List (Nat×Int))(p:Nat×Int):orL (l++[p])=orL l++[(p.1:Int)]:=by simp [orL]
theorem Qg1: ∀(l:List (Nat×Int)) (p:Nat×Int) (f:Nat->Int),dyU (l++[p]) f=UV p.1 p.2 (dyU l f)
 |[],_,_=>rfl
 |_::t,p,f=>Qg1 t p _
theorem Qd0{n:Nat}{a b c U O:Nat->Int}: ∀(N d:Nat) (Z:Int) (l:List (Nat×Int)),orF n a b c U O N d Z=some l->l.length<=N
 | 0,_,_,_,h=>by simp [orF] at h
 |N+1,d,Z,l,h=>by
  simp only [orF] at h;split at h
  ·cases h;exact Ao _
  ·obtain ⟨q,hq⟩: ∃q,orQ n a b c U O (orF n a b c U O N) d Z q=some l:=by
    refine Classical.byContradiction λhno=>?_
    rw [fI.2 (λj _ _=>?_)] at h
    ·cases h
    ·cases hj:orQ n a b c U O (orF n a b c U O N) d Z j with
     |none=>rfl
     |some r=>
      exfalso;have: ∀(f:Nat->Option (List (Nat×Int))) (k s:Nat) (r:List (Nat×Int)),fJ f s k=some r-> ∃q,f q=some r:=by
       intro f k
       induction k with
       |zero=>intro s r h;cases h
       |succ k ih=>
        intro s r h;unfold fJ at h;cases hf:f s with
        |some r'=>rw [hf] at h;cases h;exact ⟨s,hf⟩
        |none=>rw [hf] at h;exact ih _ _ h
      exact hno (this _ _ _ _ h)
   unfold orQ at hq;split at hq
   ·cases hq
   ·split at hq
    ·rename_i l' hl';cases hq;have:=Qd0 N _ _ _ hl';rw [Be];simp;omega
    ·cases hq
theorem Qc9(n:Nat)(a b c U O:Nat->Int)(d:Nat)(Z:Int):(orG n a b c U O d Z).length<=2^n:=by
 unfold orG;cases h:orS n a b c U O d Z with
 |none=>exact Ao _
 |some l=>exact Qd0 _ _ _ _ h
theorem OC(d Z:Int):FI Tryz.prog 329 stK (.agg #[.int .i64 d,.int .i64 Z]) (.bool false):=by
 refine ⟨⟨332,4,(match Tryz.prog.underlying 332 with|some (.struct fs)=>fs|_=>#[]),VY,VY,?_,?_,?_⟩,by simp [Instr.sameBits]⟩
 ·intro b' w;kernel_rfl
 ·rintro k' ⟨d',day',rfl⟩ w;refine ⟨d==d'&&(Z==day'&&true),z9 (P:=Tryz.prog) (e:=PM w w) Op.maxDepth 332 (.agg [i d,i Z]) (.agg [i d',i day']) _ _ _ VY (Rep.aggL (U7.cons (.x _) (U7.one (.x _)))) (Rep.aggL (U7.cons (.x _) (U7.one (.x _)))),λh=>?_⟩
  simp only [Bool.and_true,HE,beq_iff_eq] at h;obtain ⟨rfl,rfl⟩:=h;rfl
 ·intro w;kernel_rfl
theorem Wg9{n:Nat}{a b c U O:Nat->Int}{x:Value}(h:orH n a b c U O x):stK x:=by
 obtain ⟨d,Z,h,_⟩:=h;exact ⟨_,_,h⟩
section
variable (n:Nat)(a b c U O:Nat->Int)(ea la:AV)
def OM(d:Nat)(Z:Int)(ord:List Int)(dy:Nat->Int)(oa:Option Addr)(ol oc:Nat)(da:Option Addr)(dl dc:Nat):H9:=[(3,.cells 61 [.row 900]),(3,.cells 61 [.x (.slice oa ol oc)]),(900,.row 3 1 ord.length (λj=>[i (UD ord j)])),(5,.memo (orH n a b c U O) orV),(7,.row 3 1 n (λj=>[i (dy j)])),(0,.keep 84 [.ro [i 4,i 10,sls n a b c U O,ea,la]]),(1,.keep 329 [.mp 5]),(2,.keep 330 [.fn (.func 222) [] [.ptr 0 0,.ptr 1 0,.ptr 2 0,.ptr 3 0,.ptr 4 0]]),(4,.cells 61 [.row 7]),(4,.cells 61 [.x (.slice da dl dc)])]
def OT_(d:Nat)(Z:Int)(ord:List Int)(dy:Nat->Int)(oa:Option Addr)(ol oc:Nat)(da:Option Addr)(dl dc:Nat)(l:List (Nat×Int)):St:={σ:=[],m:=[(3,.cells 61 [.row 900]),(900,.row 3 1 (ord++orL l).length (λj=>[i (UD (ord++orL l) j)])),(5,.memo (orH n a b c U O) orV),(7,.row 3 1 n (λj=>[i ((dyU l dy) j)])),(0,.keep 84 [.ro [i 4,i 10,sls n a b c U O,ea,la]]),(1,.keep 329 [.mp 5]),(2,.keep 330 [.fn (.func 222) [] [.ptr 0 0,.ptr 1 0,.ptr 2 0,.ptr 3 0,.ptr 4 0]]),(4,.cells 61 [.row 7]),(4,.cells 61 [.x (.slice da dl dc)])],nx:=901,sv:=[[.ptr 0 0,.ptr 1 0,.ptr 2 0,.ptr 3 0,.ptr 4 0]] }
def OF_(d:Nat)(Z:Int)(ord:List Int)(dy:Nat->Int)(oa:Option Addr)(ol oc:Nat)(da:Option Addr)(dl dc:Nat):St:={σ:=[],m:=[(3,.cells 61 [.row 900]),(3,.cells 61 [.x (.slice oa ol oc)]),(900,.row 3 1 ord.length (λj=>[i (UD ord j)])),(5,.memo (orH n a b c U O) orV),(7,.row 3 1 n (λj=>[i (dy j)])),(0,.keep 84 [.ro [i 4,i 10,sls n a b c U O,ea,la]]),(1,.keep 329 [.mp 5]),(2,.keep 330 [.fn (.func 222) [] [.ptr 0 0,.ptr 1 0,.ptr 2 0,.ptr 3 0,.ptr 4 0]]),(4,.cells 61 [.row 7]),(4,.cells 61 [.x (.slice da dl dc)])],nx:=901,sv:=[[.ptr 0 0,.ptr 1 0,.ptr 2 0,.ptr 3 0,.ptr 4 0]] }
end
def OA:List (Nat×Nat)->Bool
 |[]=>true
 |(x,y)::t=>match Nat.beq x y with
  |true=>OA t
  |false=>false
def Xk0:GU->Bool
 | .aka _ _ _ _ _=>true
 |_=>false
def pH:H9->H9
 |[]=>[]
 |(k,r)::t=>match Xk0 r with
  |true=>pH t
  |false=>(k,r)::pH t
def xV(k:Nat)(g:Nat->List AV):List Int:=(List.range k).map (col 0 g)
def nQ(n:Nat)(a b c U O:Nat->Int)(N:Nat):D7:=λavs m nx sv=>match avs with
 |[.agg [.x (.int .i64 d),.x (.int .i64 Z)],.ptr k W,.ptr g z1,.ptr f z2,.ptr o z3,.ptr dd z4]=>match DL m k,DL m g,DL m f,DL m o,DL m dd with
  |some (.keep Tk [.ro [c1,c2,sl,ea,la]]),some (.keep Tg [.mp mg]),some (.keep Tf [.fn (.func fg) [] [.ptr k' y0,.ptr g' y1,.ptr f' y2,.ptr o' y3,.ptr d' y4]]),some (.cells To [.row q]),some (.cells Td [.row r])=>match DL m mg,DL m q,DL m r with
   |some (.memo h ff),some (.row T1 s1 k1 g1),some (.row T2 s2 k2 g2)=>
    match OA [(W,0),(z1,0),(z2,0),(z3,0),(z4,0),(y0,0),(y1,0),(y2,0),(y3,0),(y4,0),(Tk,84),(Tg,329),(Tf,330),(To,61),(Td,61),(fg,222),(k,k'),(g,g'),(f,f'),(o,o'),(dd,d'),(T1,3),(s1,1),(T2,3),(s2,1)]&&(!Nat.beq q r&& !Nat.beq o dd) with
    |true=>some (.needT [c1=i 4,c2=i 10,sl=sls n a b c U O,∀x,h x->orH n a b c U O x/\ff x=orV x,UJ 1 k1 g1,UJ 1 k2 g2,k2=n,0<=d/\d<2^n,2^n-d.toNat<=N,0<=Z/\Z<=100,k1<=1000]
      (.branch (orS n a b c U O d.toNat Z).isSome
       (.leaf (.lit true,(nx,.row 3 1 (xV k1 g1++orL (orG n a b c U O d.toNat Z)).length (λj=>[i (UD (xV k1 g1++orL (orG n a b c U O d.toNat Z)) j)]))::qP (qP (qP (jW (pH m) q) o (.cells 61 [.row nx])) r (.row 3 1 n (λj=>[i (dyU (orG n a b c U O d.toNat Z) (col 0 g2) j)]))) mg (.memo (orH n a b c U O) orV),nx+1,sv))
       (.leaf (.lit false,qP (qP (qP (pH m) q (.row 3 1 k1 g1)) r (.row 3 1 n g2)) mg (.memo (orH n a b c U O) orV),nx,sv))))
    |false=>none
   |_,_,_=>none
  |_,_,_,_,_=>none
 |_=>none
theorem Jl7{l:List Int}{x:Int}{j:Nat}(h:j<l.length+1):GM l.length (λj=>[i (UD l j)]) (UA 1 [i x]) j=[i (UD (l++[x]) j)]:=by
 rw [Wi0];show HG (decide (j<l.length)) _ (UA 1 [i x] (j-l.length))=_;rw [show j-l.length=0 by omega]
 by_cases hj:j<l.length
 ·rw [decide_eq_true hj,if_pos hj];rfl
 ·rw [decide_eq_false hj,if_neg hj];rfl
theorem oK(n:Nat)(f:Nat->Int):UJ 1 n (λj=>[i (f j)]):=λj _=>rfl
theorem TP(l:List Int):xV l.length (λj=>[i (UD l j)])=l:=by
 unfold xV;apply List.ext_getElem?;intro j;rcases An j l.length with hj|hj
 ·rw [Bn,List.getElem?_range hj,D5 VO];simp only [Bt,HJ];unfold col;show UD l j=l[j];exact EQ VO
 ·rw [Br (by simp;omega),Br VO]
abbrev QN:AV:=AV.fn (Fn.func 222) [] [ptr 0 0,ptr 1 0,ptr 2 0,ptr 3 0,ptr 4 0]
section
variable (n:Nat)(a b c U O:Nat->Int)(ea la:AV)(d:Nat)(Z:Int)(ord:List Int)(dy:Nat->Int)(oa:Option Addr)(ol oc:Nat)(da:Option Addr)(dl dc:Nat)
def Xe5(N:Nat):St:={σ:=[agg [iI (d:Int),iI Z],ptr 0 0,ptr 1 0,ptr 2 0,ptr 3 0,ptr 4 0,ptr 901 0,ptr 902 0]++HO 14 [AV.fn (Fn.func 108) [] [AV.ro [QQ n a b c U O ea la],AV.ro [iI (d:Int)]]]++HO 33 [],m:=[(902,GU.cells 4 [AV.x (WN)]),(901,GU.cells 332 [iI (d:Int),iI Z]),(3,GU.cells 61 [AV.row 900]),(3,GU.cells 61 [AV.x (.slice oa ol oc)]),(900,GU.row 3 1 (List.length ord) λj=>[iI (UD ord j)]),(5,GU.memo (λx=>orH n a b c U O x) λa=>Value.bool true),(7,GU.row 3 1 n λj=>[iI (dy j)]),(0,GU.keep 84 [QQ n a b c U O ea la]),(1,GU.keep 329 [AV.mp 5]),(2,GU.keep 330 [QN]),(4,GU.cells 61 [AV.row 7]),(4,GU.cells 61 [AV.x (.slice da dl dc)])],nx:=915,sv:=[[ptr 0 0,ptr 1 0,ptr 2 0,ptr 3 0,ptr 4 0]] }
noncomputable def Ju8:Code:=MZ (VX (UB Tryz.f222) 0)
noncomputable def Js7:Code:=MY (VX (UB Tryz.f222) 0)
def Wl7(N:Nat)(k:Nat):St:={σ:=H6 [(8,.top),(9,.top),(10,.top)] (Xe5 n a b c U O ea la d Z ord dy oa ol oc da dl dc N).σ,m:=[(902,.cells 4 [.x (.bool false)]),(901,.cells 332 [i d,i Z]),(3,.cells 61 [.row 900]),(3,.cells 61 [.x (.slice oa ol oc)]),(900,.row 3 1 ord.length (λj=>[i (UD ord j)])),(5,.memo (orH n a b c U O) orV),(7,.row 3 1 n (λj=>[i (dy j)])),(0,.keep 84 [.ro [i 4,i 10,sls n a b c U O,ea,la]]),(1,.keep 329 [.mp 5]),(2,.keep 330 [.fn (.func 222) [] [.ptr 0 0,.ptr 1 0,.ptr 2 0,.ptr 3 0,.ptr 4 0]]),(4,.cells 61 [.row 7]),(4,.cells 61 [.x (.slice da dl dc)])],nx:=920,sv:=[[.ptr 0 0,.ptr 1 0,.ptr 2 0,.ptr 3 0,.ptr 4 0]] }
def vZ(N:Nat)(k:Nat):GB->Option St
 | .normal=>some {σ:=H6 [(8,.top),(9,.top),(10,.top)] (Xe5 n a b c U O ea la d Z ord dy oa ol oc da dl dc N).σ,m:=[(902,.cells 4 [.x (.bool false)]),(901,.cells 332 [i d,i Z]),(3,.cells 61 [.row 900]),(3,.cells 61 [.x (.slice oa ol oc)]),(900,.row 3 1 ord.length (λj=>[i (UD ord j)])),(5,.memo (orH n a b c U O) orV),(7,.row 3 1 n (λj=>[i (dy j)])),(0,.keep 84 [.ro [i 4,i 10,sls n a b c U O,ea,la]]),(1,.keep 329 [.mp 5]),(2,.keep 330 [.fn (.func 222) [] [.ptr 0 0,.ptr 1 0,.ptr 2 0,.ptr 3 0,.ptr 4 0]]),(4,.cells 61 [.row 7]),(4,.cells 61 [.x (.slice da dl dc)])],nx:=920,sv:=[[.ptr 0 0,.ptr 1 0,.ptr 2 0,.ptr 3 0,.ptr 4 0]] }
 | .ret=>some {σ:=H6 [(8,.top),(9,.top),(10,.top)] (Xe5 n a b c U O ea la d Z ord dy oa ol oc da dl dc N).σ,m:=[(902,.cells 4 [.lit true]),(901,.cells 332 [i d,i Z]),(3,.cells 61 [.row 900]),(900,.row 3 1 (ord++orL (orG n a b c U O d Z)).length (λj=>[i (UD (ord++orL (orG n a b c U O d Z)) j)])),(5,.memo (orH n a b c U O) orV),(7,.row 3 1 n (λj=>[i ((dyU (orG n a b c U O d Z) dy) j)])),(0,.keep 84 [.ro [i 4,i 10,sls n a b c U O,ea,la]]),(1,.keep 329 [.mp 5]),(2,.keep 330 [.fn (.func 222) [] [.ptr 0 0,.ptr 1 0,.ptr 2 0,.ptr 3 0,.ptr 4 0]]),(4,.cells 61 [.row 7]),(4,.cells 61 [.x (.slice da dl dc)])],nx:=920,sv:=[[.ptr 0 0,.ptr 1 0,.ptr 2 0,.ptr 3 0,.ptr 4 0]] }
 |_=>none
def Zq8(N:Nat):CT:= .branch (orS n a b c U O d Z).isSome (.leaf (.ret,(vZ n a b c U O ea la d Z ord dy oa ol oc da dl dc N 0 .ret).getD (Xe5 n a b c U O ea la d Z ord dy oa ol oc da dl dc N))) (.leaf (.normal,(vZ n a b c U O ea la d Z ord dy oa ol oc da dl dc N 0 .normal).getD (Xe5 n a b c U O ea la d Z ord dy oa ol oc da dl dc N)))
def Xz4(N:Nat):UN:=GO [(.cell 3 0,900,3,1)] (HM (Wl7 n a b c U O ea la d Z ord dy oa ol oc da dl dc N (0)) (Zq8 n a b c U O ea la d Z ord dy oa ol oc da dl dc N))
end
abbrev ZX:Prop:=AV.row 900=AV.row 900
abbrev J9:Prop:=AV.row 7=AV.row 7
abbrev JN:Prop:=AV.mp 5=AV.mp 5
abbrev JZ(ord:List Int):Prop:=List.length ord=List.length ord
abbrev KW:Prop:=ptr 901 0=ptr 901 0
abbrev KX:Prop:=ptr 902 0=ptr 902 0
theorem Je5(n:Nat)(a b c U O:Nat->Int)(ea la:AV)(d:Nat)(Z:Int)(ord:List Int)(dy:Nat->Int)(oa:Option Addr)(ol oc:Nat)(da:Option Addr)(dl dc:Nat)(N:Nat)(VW:sV n a b c U O)(UK:d<2^n/\d≠2^n-1)(HY:2^n-d<=N+1)(F8:0<=Z/\Z<=100)(BX:ord.length<=1000)(zV:GG VT 222 (nQ n a b c U O N)):HP VT (.rangeFunc (rfF (VX (UB Tryz.f222) 0)) (zS (VX (UB Tryz.f222) 0)) Ju8 Js7) (Xz4 n a b c U O ea la d Z ord dy oa ol oc da dl dc N):=by
 refine LI [(.cell 3 0,900,3,1)] (X:={R:=[(79,AO)],H:=[(222,(nQ n a b c U O N))] }) (L:=[]) (Ae F4 (Ae LJ Aa)) (Ai (Af NZ Ab) (Ag zV Ac)) U3 U8 (V:=Nat) (Wl7 n a b c U O ea la d Z ord dy oa ol oc da dl dc N) (λk=>k<=(quN n a b c d)/\ ∀j,j<k->orQ n a b c U O (orS n a b c U O) d Z j=none) (λk=>k) (vZ n a b c U O ea la d Z ord dy oa ol oc da dl dc N) (x0:=0) ⟨Ao _,λj h=>absurd h (Aq _)⟩ rfl ?_ ?_ ?_ ?_ (g:=108) (caps:=[.ro [.ro [i 4,i 10,sls n a b c U O,ea,la]],.ro [i d]]) VY VY (vU ea la n a b c U O d VW (qK VW.1 UK.1)) (λ_=>rfl) ?_
 ·rintro k;kernel_rfl
 ·rintro k y E h;unfold vZ at h;split at h
  ·cases h;kernel_rfl
  ·cases h;kernel_rfl
  ·cases h
 ·rintro k;rfl
 ·rintro k y E h;unfold vZ at h;split at h
  ·cases h;rfl
  ·cases h;rfl
  ·cases h
 ·rintro Q hQ k hx;refine ⟨λhlt=>⟨(k+1),rfl,?_⟩,λPL=>?_⟩
  ·(with_reducible refine DN (t:=let z5:=(quB n a b c (d:Int));let z3:=(UX z5 n k);let z6:=(U4 (AV.fn (Fn.func 108) [] [AV.ro [QQ n a b c U O ea la],AV.ro [iI (d:Int)]]));let z10:=(xV (List.length ord) λj=>[i (UD ord j)]);let z1:=(BitVec.toNat (BitVec.ofInt 64 (d:Int) ||| BitVec.ofInt 64 ((1:Int)*2^UX z5 n k)));let z8:=(IntKind.wrap IntKind.i64 (z1:Int));let z4:=(orG n a b c U O (Int.toNat z8) (max Z (U z3)));let z9:=(orG n a b c U O d Z);let z7:=orH n a b c U O;let W:=(need [UO z3 n] (need [UX z5 n k<n] (need [U4 (agg [iI (d:Int),iI Z]),QS,Z6,ZD,ZI,W7,KW,KX,z6,U4 (AV.lit true),U4 (d:Int),Z=Z,ZX,List.length (z10++orL z4)+1=List.length (ord++orL z9),∀(i:Nat),i<List.length (ord++orL z9)->GM (List.length ((xV (List.length ord) λj=>[iI (UD ord j)])++orL z4)) (λj=>[iI (UD ((xV (List.length ord) λj=>[iI (UD ord j)])++orL z4) j)]) (UA 1 [iI (z3:Int)]) i=[iI (UD (ord++orL z9) i)],∀(k:Value),z7 k->z7 k/\orV k=orV k,n=n,∀(i:Nat),i<n->HG (decide (i=UX z5 n k)) [iI (max Z (U z3))] [iI (dyU z4 dy i)]=[iI (dyU z9 dy i)],ZP n a b c U O ea la,JN,QN=QN,J9,U4 (AV.x (.slice da dl dc)),QS,Z6,ZD,ZI,W7] (leaf GB.ret))));let z2:=(need [U4 (agg [iI (d:Int),iI Z]),QS,Z6,ZD,ZI,W7,KW,KX,z6,false=false,U4 (d:Int),Z=Z,ZX,U4 (AV.x (.slice oa ol oc)),JZ ord,∀(i:Nat),i<List.length ord->[iI (UD ord i)]=[iI (UD ord i)],∀(k:Value),z7 k->z7 k/\orV k=orV k,n=n,∀(i:Nat),i<n->[iI (dy i)]=[iI (dy i)],ZP n a b c U O ea la,JN,QN=QN,J9,U4 (AV.x (.slice da dl dc)),QS,Z6,ZD,ZI,W7] (leaf GB.normal));(branch (decide (max Z (U z3)>O z3)) z2 (need [(0:Int)<=(z3:Int)/\(z3:Int)<=64,VQ ((1:Int)*2^UX z5 n k)] (need [U4 (iI 4),U4 (iI 10),W5 n a b c U O,∀(x:Value),z7 x->z7 x/\orV x=orV x,UJ 1 (List.length ord) λj=>[i (UD ord j)],UJ 1 n λj=>[i (dy j)],n=n,(0:Int)<=IntKind.wrap IntKind.i64 (z1:Int)/\IntKind.wrap IntKind.i64 (z1:Int)<2^n,2^n-Int.toNat z8<=N,(0:Int)<=max Z (U z3)/\max Z (U z3)<=100,List.length ord<=1000] (branch (Option.isSome (orS n a b c U O (Int.toNat z8) (max Z (U z3)))) (need [(List.length (z10++orL z4)+1)*8<=140737488355328,L1 1 (UA 1 [iI (z3:Int)])] (VR.may True W (VR.may True W W))) z2))))) VY ?_)
   simp only [Zq8,vZ,VR.sat,GZ] at hQ;obtain ⟨x1,x2⟩:=hx;have h8:=VW.1;have hd:=UK.1;have hd2:=qK h8 hd;have hpn:((2^n:Nat):Int)=2^n:=VZ;have h256:=AF h8;have hs:=uY hlt;have hor:=Wg6 h8 hd hs.1;have hol:=Qc8 hd hs.1;have hgt:=Xv2 h8 hd hlt;have hsv:=Qb7 VW hs.1;have h2s:(1:Int)<=2^UX (quB n a b c d) n k/\(2:Int)^UX (quB n a b c d) n k<=256:=gH VO;have qD:orS n a b c U O d Z=fJ (orQ n a b c U O (orS n a b c U O) d Z) 0 (quN n a b c d):=by
    rw [pC h8 Z hd,if_neg UK.2]
   simp only [VR.sat,UF,UL,hor,DR,HD,TP]
   have Qs2:((d ||| 2^UX (quB n a b c d) n k:Nat):Int)<2^n:=by
    have h:((d ||| 2^UX (quB n a b c d) n k:Nat):Int)<((2^n:Nat):Int):=Int.ofNat_lt.2 hol
    rwa [hpn] at h
   have Xw0:orQ n a b c U O (orS n a b c U O) d Z k=none-> ∀j,j<k+1->orQ n a b c U O (orS n a b c U O) d Z j=none:=by
    intro h1 j h2;rcases (show j=k\/j<k by omega) with rfl|h3
    ·exact h1
    ·exact x2 j h3
   have hQe:orQ n a b c U O (orS n a b c U O) d Z k=(if max Z (U (UX (quB n a b c d) n k))>O (UX (quB n a b c d) n k) then none else match orS n a b c U O (d ||| 2^UX (quB n a b c d) n k) (max Z (U (UX (quB n a b c d) n k))) with
     |some l=>some (l++[(UX (quB n a b c d) n k,max Z (U (UX (quB n a b c d) n k)))])
     |none=>none):=rfl
   have d6: ¬max Z (U (UX (quB n a b c d) n k))>O (UX (quB n a b c d) n k)->(orS n a b c U O (d ||| 2^UX (quB n a b c d) n k) (max Z (U (UX (quB n a b c d) n k)))).isSome=true->
     (orS n a b c U O d Z).isSome=true/\orG n a b c U O d Z=orG n a b c U O (d ||| 2^UX (quB n a b c d) n k) (max Z (U (UX (quB n a b c d) n k)))++[(UX (quB n a b c d) n k,max Z (U (UX (quB n a b c d) n k)))]:=by
    intro h1 h2;obtain ⟨l,hl⟩:=Option.isSome_iff_exists.1 h2;rw [if_neg h1,hl] at hQe;have h3:orS n a b c U O d Z=some (l++[(UX (quB n a b c d) n k,max Z (U (UX (quB n a b c d) n k)))]):=by
     rw [qD];exact S2 (q:=k) hQe (Ao _) VO (λj _ h4=>x2 j h4)
    unfold orG;rw [h3,hl];exact ⟨rfl,rfl⟩
   have hk1:k+1<=quN n a b c d:=hlt;have hc1: ∀x:Int,∀(j:Nat),j<1-> ∀y,y∈UA 1 [iI x] j->AV.one y=true:=λx j _ y hy=>FU hy (by simp [AV.one,Value.oneCell'])
   have hGl:=Qc9 n a b c U O (d ||| 2^UX (quB n a b c d) n k) (max Z (U (UX (quB n a b c d) n k)))
   have hoL: ∀l:List (Nat×Int),(orL l).length=l.length:=λl=>by simp [orL]
   refine ⟨λh=>?_,λh=>?_⟩
   ·have hno:orQ n a b c U O (orS n a b c U O) d Z k=none:=by
     rw [hQe,if_pos h]
    exact ⟨⟨λ_ _=>trivial,λ_ h=>h,λ_ _=>trivial⟩,hk1,Xw0 hno⟩
   ·refine ⟨⟨⟨VO,VO⟩,by simp only [VQ,Int.one_mul];omega⟩,⟨λ_ h=>h,oK _ _,oK _ _,⟨VO,Qs2⟩,VO,⟨VO,VO⟩,BX⟩,λh2=>?_,λh2=>?_⟩
    ·obtain ⟨g1,g2⟩:=d6 VO h2;rw [g2];have hln:(ord++orL (orG n a b c U O (d ||| 2^UX (quB n a b c d) n k) (max Z (U (UX (quB n a b c d) n k))))).length<=2000:=by
      rw [Be,hoL];omega
     have hap:ord++orL (orG n a b c U O (d ||| 2^UX (quB n a b c d) n k) (max Z (U (UX (quB n a b c d) n k)))++[(UX (quB n a b c d) n k,max Z (U (UX (quB n a b c d) n k)))])=(ord++orL (orG n a b c U O (d ||| 2^UX (quB n a b c d) n k) (max Z (U (UX (quB n a b c d) n k)))))++[((UX (quB n a b c d) n k:Nat):Int)]:=by
      rw [Xi6,List.append_assoc]
     have hdy:dyU (orG n a b c U O (d ||| 2^UX (quB n a b c d) n k) (max Z (U (UX (quB n a b c d) n k)))++[(UX (quB n a b c d) n k,max Z (U (UX (quB n a b c d) n k)))]) dy=UV (UX (quB n a b c d) n k) (max Z (U (UX (quB n a b c d) n k))) (dyU (orG n a b c U O (d ||| 2^UX (quB n a b c d) n k) (max Z (U (UX (quB n a b c d) n k)))) dy):=Qg1 _ _ _
     rw [hap,hdy];refine ⟨⟨VO,hc1 _⟩,?_⟩;have hin:(0<=((UX (quB n a b c d) n k:Nat):Int)/\((UX (quB n a b c d) n k:Nat):Int)<n):=⟨VO,by have:=hs.1;omega⟩
     have hrw: ∀j,j<((ord++orL (orG n a b c U O (d ||| 2^UX (quB n a b c d) n k) (max Z (U (UX (quB n a b c d) n k)))))++[((UX (quB n a b c d) n k:Nat):Int)]).length->j<(ord++orL (orG n a b c U O (d ||| 2^UX (quB n a b c d) n k) (max Z (U (UX (quB n a b c d) n k))))).length+1:=λj hj=>by
      rw [Be] at hj;simpa using hj
     (with_reducible repeat' first|apply Al|intro _)
     all_goals first|exact Ak|exact hin.1|exact hin.2|exact hs.1|(rename_i E hE;cases hE;exact hQ.1 g1)|rfl|exact Jl7 (hrw _ (by assumption))|exact gC|(rw [Be (bs:=[_])];rfl)|assumption
    ·have hno:orQ n a b c U O (orS n a b c U O) d Z k=none:=by
      rw [hQe,if_neg VO];cases ho:orS n a b c U O (d ||| 2^UX (quB n a b c d) n k) (max Z (U (UX (quB n a b c d) n k))) with
      |none=>rfl
      |some l=>rw [ho] at h2;cases h2
     exact ⟨⟨λ_ _=>trivial,λ_ h=>h,λ_ _=>trivial⟩,hk1,Xw0 hno⟩
  ·have hk:k=quN n a b c d:=VO;subst hk;simp only [Zq8,vZ,VR.sat,GZ] at hQ;refine hQ.2 ?_;rw [pC VW.1 Z UK.1,if_neg UK.2,fI.2 (λj _ hj=>hx.2 j VO)]
   rfl
theorem EP{x y:Nat}{t:List (Nat×Nat)}:OA ((x,y)::t)=true↔x=y/\OA t=true:=by
 show (match Nat.beq x y with|true=>OA t|false=>false)=true↔_
 cases h:Nat.beq x y with
 |true=>simp [H4 h]
 |false=>
  simp only [Bool.false_eq_true,false_iff,not_and];intro he;rw [he,Nat.beq_refl] at h;cases h
theorem ES{m:H9}{p:Nat×GU}(h:p∈pH m):p∈m/\Xk0 p.2=false:=by
 induction m with
 |nil=>cases h
 |cons q t ih=>
  obtain ⟨k,r⟩:=q;unfold pH at h;split at h
  ·exact ⟨HX _ (ih h).1,(ih h).2⟩
  ·rename_i hb;rcases GS.1 h with rfl|h
   ·exact ⟨GK,hb⟩
   ·exact ⟨HX _ (ih h).1,(ih h).2⟩
theorem L8{m:H9}{id:Nat}{p:Nat×GU}(h:p∈jW m id):p∈m/\p.1≠id:=by
 induction m with
 |nil=>cases h
 |cons q t ih=>
  obtain ⟨k,r⟩:=q;unfold jW at h;split at h
  ·exact ⟨HX _ (ih h).1,(ih h).2⟩
  ·rename_i hb;rcases GS.1 h with rfl|h
   ·refine ⟨GK,?_⟩;rintro rfl;simp at hb
   ·exact ⟨HX _ (ih h).1,(ih h).2⟩
theorem Qn9{e:UP}{w:World}{id o n:Nat}{f:Nat->List AV}(h:Jq5 e w id o 3 1 n f)(hr:UJ 1 n f):w.ownsRow 0 3 1 (e.val id) n ((xV n f).map (Value.int .i64)):=by
 obtain ⟨h2,hf,xs,h3,h4⟩:=h;have hx:xs=(xV n f).map (Value.int .i64):=by
  apply List.ext_getElem?;intro j;unfold xV;have hl:xs.length=n*1:=h3.1;rcases An j n with hj|hj
  ·have hx:xs[j]? =some xs[j]:=D5 VO;have e1:(f j)[0]? =some (iI (col 0 f j)):=by
    rw [hr j hj];rfl
   have:=h4 j 0 _ xs[j] hj e1 (by rw [show j*1+0=j by omega];exact hx)
   rw [hx,this.x_inv];simp [hj]
  ·rw [Br VO,Br (by simp;omega)]
 subst hx;exact h3
theorem qQ{e:UP}{w:World}{id n:Nat}{f:Nat->List AV}(h:GL e w id (.row 3 1 n f))(hr:UJ 1 n f):w.ownsRow 0 3 1 (e.val id) n ((xV n f).map (Value.int .i64)):=Qn9 (o:=id) h.2 hr
theorem Qc7(n:Nat)(f:Nat->Int):xV n (λj=>[i (f j)])=(List.range n).map f:=rfl
theorem z6{e:UP}{w:World}{id n:Nat}{f:Nat->Int}{ov:Value}{l:List Int}(hl:e.live id)(hv:e.val id=ov)(hob: ∀x,ov.ownBlock=some x->e.own x=some id)(D1:l.length=n)(hf: ∀j,j<n->l[j]? =some (f j))(ho:w.ownsRow 0 3 1 ov n (l.map (Value.int .i64))):GL e w id (.row 3 1 n (λj=>[i (f j)])):=by
 subst hv;refine ⟨hl,hob,λi O=>⟨rfl,λa ha=>by rw [B9.1 ha];exact .x _⟩,_,ho,λi j a v O ha hv=>?_⟩
 cases j with
 |zero=>
  simp only [List.getElem?_cons_zero,HJ] at ha;subst ha;rw [show i*1+0=i by omega,Bn,hf i O] at hv
  simp only [Bt,HJ] at hv;rw [←hv];exact .x _
 |succ j=>simp at ha
theorem Qd3{l:List Int}{j:Nat}(h:j<l.length):l[j]? =some (UD l j):=by
 rw [EQ h,D5 h]
theorem CN{n:Nat}{f:Nat->Int}{j:Nat}(h:j<n):((List.range n).map f)[j]? =some (f j):=by
 rw [Bn,List.getElem?_range h];rfl
abbrev LY(b:Nat):Value:= .pointer (some ⟨b,0,none⟩)
abbrev Zk7(bk bg bf bo bd:Nat):Value:= .func (.func 222) #[] #[LY bk,LY bg,LY bf,LY bo,LY bd]
def Ql7(n:Nat)(a b c U O:Nat->Int)(N:Nat):Prop:= ∀(ea la:AV) (d:Nat) (Z:Int) (ord:List Int) (dy:Nat->Int) (oa:Option Addr) (ol oc:Nat) (da:Option Addr) (dl dc:Nat),d<2^n->2^n-d<=N->(0<=Z/\Z<=100)->ord.length<=1000->
 Xd8 VT 222 [.agg [i d,i Z],.ptr 0 0,.ptr 1 0,.ptr 2 0,.ptr 3 0,.ptr 4 0] (OM n a b c U O ea la d Z ord dy oa ol oc da dl dc) 901 [[.ptr 0 0,.ptr 1 0,.ptr 2 0,.ptr 3 0,.ptr 4 0]] (OT_ n a b c U O ea la d Z ord dy oa ol oc da dl dc (orG n a b c U O d Z)) (OF_ n a b c U O ea la d Z ord dy oa ol oc da dl dc) (orS n a b c U O d Z).isSome
theorem Qb9{w:World}{ov:Value}{n:Nat}{xs:List Value}(h:w.ownsRow 0 3 1 ov n xs){b:Nat}(hb:ov.ownBlock=some b):b<w.heap.size:=(h.lt b hb).2
theorem Wg5{n:Nat}{a b c U O:Nat->Int}{N:Nat}(hs:Ql7 n a b c U O N){d:Nat}{Z:Int}{ord:List Int}{dy:Nat->Int}(h1:d<2^n)(h2:2^n-d<=N)(h3:0<=Z/\Z<=100)(h4:ord.length<=1000)
  {w:World}{bk bg bf bo bd bm:Nat}{rb dv ov:Value}{ea la:AV}{R:UP}{es:Array MapEntry}{cn:Nat}(hgl:D6 R w)
  (hk:w.heap[bk]? =some (.cells #[rb] 84 (0,0)))(hg:w.heap[bg]? =some (.cells #[.map (some bm)] 329 (0,0)))(hf:w.heap[bf]? =some (.cells #[Zk7 bk bg bf bo bd] 330 (0,0)))(hdb:w.heap[bd]? =some (.cells #[dv] 61 (0,0)))
  (ho:w.heap[bo]? =some (.cells #[ov] 61 (0,0)))(hm:w.heap[bm]? =some (.map es cn))(hes: ∀x∈es.toList,orH n a b c U O x.key/\x.val=orV x.key)
  (IA:w.ownsRow 0 3 1 ov ord.length (ord.map (Value.int .i64)))(Xw1:w.ownsRow 0 3 1 dv n (((List.range n).map dy).map (Value.int .i64)))(hov: ∃p q r,ov= .slice p q r)(hdv: ∃p q r,dv= .slice p q r)
  (hobm:bo≠bm)(hobd:bo≠bd)(hmbd:bm≠bd)(hoo: ∀x,ov.ownBlock=some x->x≠bo/\x≠bm/\x≠bd/\dv.ownBlock≠some x)(hdo: ∀x,dv.ownBlock=some x->x≠bo/\x≠bm/\x≠bd)
  (hR:Rep R w (.ro [i 4,i 10,sls n a b c U O,ea,la]) rb)(hro: ∀x,R.ro x->x<w.heap.size/\x≠bo/\x≠bm/\x≠bd/\ov.ownBlock≠some x/\dv.ownBlock≠some x)(rk:R.ro bk)(rg:R.ro bg)(rf:R.ro bf):
  Calls Tryz.prog 222 #[.agg #[.int .i64 d,.int .i64 Z],LY bk,LY bg,LY bf,LY bo,LY bd] w λen w1=>en= .returned (.bool (orS n a b c U O d Z).isSome)/\w.heap.size<=w1.heap.size/\w1.os=w.os/\w1.tape=w.tape/\w1.output=w.output/\
   (∀x,x<w.heap.size->x≠bo->x≠bm->ov.ownBlock≠some x->dv.ownBlock≠some x->w1.heap[x]? =w.heap[x]?)/\(∃(es':Array MapEntry) (c':Nat),w1.heap[bm]? =some (.map es' c')/\ ∀x∈es'.toList,orH n a b c U O x.key/\x.val=orV x.key)/\
   ((orS n a b c U O d Z).isSome=false->w1.heap[bo]? =some (.cells #[ov] 61 (0,0))/\w1.ownsRow 0 3 1 ov ord.length (ord.map (Value.int .i64))/\w1.ownsRow 0 3 1 dv n (((List.range n).map dy).map (Value.int .i64)))/\
   ((orS n a b c U O d Z).isSome=true-> ∃y',w1.heap[bo]? =some (.cells #[y'] 61 (0,0))/\(∃p q r,y'= .slice p q r)/\w1.ownsRow 0 3 1 y' (ord++orL (orG n a b c U O d Z)).length ((ord++orL (orG n a b c U O d Z)).map (Value.int .i64))/\
    (∀x,y'.ownBlock=some x->w.heap.size<=x\/ov.ownBlock=some x)/\w1.ownsRow 0 3 1 dv n (((List.range n).map (dyU (orG n a b c U O d Z) dy)).map (Value.int .i64))):=by
 have hob:=(PD.1 ho).1;have hmb:=(PD.1 hm).1;have hbb:=(PD.1 hdb).1;obtain ⟨oa,ol,oc,hov⟩:=hov;obtain ⟨da,dl,dc,hdv⟩:=hdv
 let e0:UP:={ro:=λx=>x<w.heap.size/\x≠bo/\x≠bm/\x≠bd/\ov.ownBlock≠some x/\dv.ownBlock≠some x,own:=λx=>if x=bo then some 3 else if x=bm then some 5 else if x=bd then some 4 else if ov.ownBlock=some x then some 900 else if dv.ownBlock=some x then some 7 else none,live:=λk=>k<901,blk:=λk=>if k=0 then bk else if k=1 then bg else if k=2 then bf else if k=3 then bo else if k=4 then bd else bm,val:=λk=>if k=7 then dv else ov}
 let c0:Cx:={M:=λ_=>False,Φ:=λ_ _ _=>True,K:=λx o=>e0.ro x/\w.heap[x]? =some o,saved:=[[LY bk,LY bg,LY bf,LY bo,LY bd]],sz:=w.heap.size}
 let w00:World:={w with heap:=#[] }
 have Wp4: ∀x,R.ro x->e0.ro x:=λx hx=>hro x hx
 have o3:e0.own bo=some 3:=if_pos rfl;have o5:e0.own bm=some 5:=by simp [e0,Ne.symm hobm]
 have o4:e0.own bd=some 4:=by simp [e0,Ne.symm hobd,Ne.symm hmbd]
 have o9: ∀x,ov.ownBlock=some x->e0.own x=some 900:=by
  intro x hx;obtain ⟨q1,q2,q2',q3⟩:=hoo x hx;simp [e0,q1,q2,q2',hx]
 have o7: ∀x,dv.ownBlock=some x->e0.own x=some 7:=by
  intro x hx;obtain ⟨q1,q2,q2'⟩:=hdo x hx;have q3:ov.ownBlock≠some x:=λh=>(hoo x h).2.2.2 hx
  simp [e0,q1,q2,q2',q3,hx]
 have hE:G6 e0 w00.heap.size w:=by
  refine ⟨λx hx=>?_,λx k hk=>⟨Ao _,?_⟩,λq p hp=>?_⟩
  ·obtain ⟨q0,q1,q2,q2',q3,q4⟩:=hx;exact ⟨by simp [e0,q1,q2,q2',q3,q4],q0⟩
  ·have hk:(if x=bo then some 3 else if x=bm then some 5 else if x=bd then some 4 else if ov.ownBlock=some x then some 900 else if dv.ownBlock=some x then some 7 else none)=some k:=hk
   split at hk
   ·rename_i h;rw [h];exact hob
   split at hk
   ·rename_i h;rw [h];exact hmb
   split at hk
   ·rename_i h;rw [h];exact hbb
   split at hk
   ·rename_i h;exact Qb9 IA h
   split at hk
   ·rename_i h;exact Qb9 Xw1 h
   ·cases hk
  ·obtain ⟨q1,q2⟩:=hgl q p hp;exact ⟨Wp4 _ q1,q2⟩
 have p0:Rep e0 w (.ptr 0 0) (LY bk):= .ptr 0 0 (show 0<901 by omega)
 have p1:Rep e0 w (.ptr 1 0) (LY bg):= .ptr 1 0 (show 1<901 by omega)
 have p2:Rep e0 w (.ptr 2 0) (LY bf):= .ptr 2 0 (show 2<901 by omega)
 have p3:Rep e0 w (.ptr 3 0) (LY bo):= .ptr 3 0 (show 3<901 by omega)
 have p4:Rep e0 w (.ptr 4 0) (LY bd):= .ptr 4 0 (show 4<901 by omega)
 have p9:Rep e0 w (.row 900) ov:=by
  rw [hov];exact .row 900 _ _ _ (show 900<901 by omega) hov
 have p7:Rep e0 w (.row 7) dv:=by
  rw [hdv];exact .row 7 _ _ _ (show 7<901 by omega) hdv
 have p5:Rep e0 w (.mp 5) (.map (some bm)):= .mp 5 (show 5<901 by omega)
 have vI:U7 e0 w [.ptr 0 0,.ptr 1 0,.ptr 2 0,.ptr 3 0,.ptr 4 0] [LY bk,LY bg,LY bf,LY bo,LY bd]:= .cons p0 (.cons p1 (.cons p2 (.cons p3 (.cons p4 (.nil _ _)))));have hfn:Rep e0 w (.fn (.func 222) [] [.ptr 0 0,.ptr 1 0,.ptr 2 0,.ptr 3 0,.ptr 4 0]) (Zk7 bk bg bf bo bd):= .fn _ [] _ [] _ rfl (λi a v h=>by simp at h) vI.1 vI.2
 have hrb:Rep e0 w (.ro [i 4,i 10,sls n a b c U O,ea,la]) rb:=by
  refine Rep.idf (e:=R) (e':=e0) Wp4 hR ?_;cases hR with
  |ro l vs b' o' g1 g2 g3 g4 g5 g6=>exact .ro _ g3
 have hM:UZ e0 (OM n a b c U O ea la d Z ord dy oa ol oc da dl dc) w:=by
  intro p hp;unfold OM at hp;simp only [GS,DS,or_false] at hp;rcases hp with rfl|rfl|rfl|rfl|rfl|rfl|rfl|rfl|rfl|rfl
  ·exact ⟨show 3<901 by omega,o3,[ov],ho,.cons p9 (.nil _ _)⟩
  ·exact ⟨show 3<901 by omega,o3,[ov],ho,.cons (by rw [hov];exact .x _) (.nil _ _)⟩
  ·exact z6 (show 900<901 by omega) rfl o9 rfl (λj hj=>Qd3 hj) IA
  ·exact ⟨show 5<901 by omega,o5,es,cn,hm,hes⟩
  ·exact z6 (show 7<901 by omega) rfl o7 VZ (λj hj=>CN hj) Xw1
  ·exact ⟨show 0<901 by omega,Wp4 _ rk,(hro _ rk).1,[rb],hk,.cons hrb (.nil _ _)⟩
  ·exact ⟨show 1<901 by omega,Wp4 _ rg,(hro _ rg).1,[.map (some bm)],hg,.cons p5 (.nil _ _)⟩
  ·exact ⟨show 2<901 by omega,Wp4 _ rf,(hro _ rf).1,[Zk7 bk bg bf bo bd],hf,.cons hfn (.nil _ _)⟩
  ·exact ⟨show 4<901 by omega,o4,[dv],hdb,.cons p7 (.nil _ _)⟩
  ·exact ⟨show 4<901 by omega,o4,[dv],hdb,.cons (by rw [hdv];exact .x _) (.nil _ _)⟩
 have hX:Xt c0 e0 [[.ptr 0 0,.ptr 1 0,.ptr 2 0,.ptr 3 0,.ptr 4 0]] [] w:=
  ⟨⟨λd hd=>(by cases hd),List.nodup_nil⟩,λx o hk=>⟨hk.1,hk.1.1,hk.2⟩,LD.cons vI ⟨rfl,λi a v h=>by simp at h⟩,Am _⟩
 have hA:U7 e0 w [.agg [i d,i Z],.ptr 0 0,.ptr 1 0,.ptr 2 0,.ptr 3 0,.ptr 4 0] [.agg #[.int .i64 d,.int .i64 Z],LY bk,LY bg,LY bf,LY bo,LY bd]:= .cons (Rep.aggL (.cons (.x _) (.cons (.x _) (.nil _ _)))) vI;have FM:=hs ea la d Z ord dy oa ol oc da dl dc h1 h2 h3 h4 c0 w00 (λ_=>False) e0 _ w hE ⟨rfl,rfl,rfl,Ao _,λk hk=>absurd hk (Aq _)⟩ hM (λk hk=>hk) (λ_ h=>h.elim) hX rfl hA
 refine FM.mono ?_;rintro en w1 ⟨hen,e1,g1,g2,g3,g4,_,g6⟩;have hsz:w.heap.size<=w1.heap.size:=g6.size;have OU: ∀x,x<w.heap.size->x≠bo->x≠bm->x≠bd->ov.ownBlock≠some x->dv.ownBlock≠some x->e1.ro x/\w1.heap[x]? =w.heap[x]? :=by
  intro x hx n1 n2 n2' n3 n4;have hk:=g6.kept x w.heap[x] ⟨⟨hx,n1,n2,n2',n3,n4⟩,by simp [hx]⟩
  exact ⟨hk.1,by rw [hk.2.2];simp [hx]⟩
 have keptR: ∀x,R.ro x->w1.heap[x]? =w.heap[x]? :=λx hx=>(OU x (hro x hx).1 (hro x hx).2.1 (hro x hx).2.2.1 (hro x hx).2.2.2.1 (hro x hx).2.2.2.2.1 (hro x hx).2.2.2.2.2).2
 have hsv:(cond (orS n a b c U O d Z).isSome (OT_ n a b c U O ea la d Z ord dy oa ol oc da dl dc (orG n a b c U O d Z)) (OF_ n a b c U O ea la d Z ord dy oa ol oc da dl dc)).sv=[[.ptr 0 0,.ptr 1 0,.ptr 2 0,.ptr 3 0,.ptr 4 0]]:=by
  cases (orS n a b c U O d Z).isSome<;>rfl
 have hsd:=g6.saved;rw [hsv] at hsd;have hs1:=hsd.2 0 _ _ rfl rfl;obtain ⟨v0,l0,q,r0,hs1⟩:=hs1.cons_inv;obtain ⟨rfl,rfl⟩:=List.cons.inj q;obtain ⟨v1,l1,q,r1,hs1⟩:=hs1.cons_inv;obtain ⟨rfl,rfl⟩:=List.cons.inj q;obtain ⟨v2,l2,q,r2,hs1⟩:=hs1.cons_inv;obtain ⟨rfl,rfl⟩:=List.cons.inj q;obtain ⟨v3,l3,q,r3,hs1⟩:=hs1.cons_inv;obtain ⟨rfl,rfl⟩:=List.cons.inj q;obtain ⟨v4,l4,q,r4,_⟩:=hs1.cons_inv;obtain ⟨rfl,rfl⟩:=List.cons.inj q;have ptr_inv: ∀{k x:Nat},Rep e1 w1 (.ptr k 0) (LY x)->e1.blk k=x:=by
  intro k x h;cases h;rfl
 have b1:=ptr_inv r1;have b3:=ptr_inv r3;have b4:=ptr_inv r4;have hZ: ∀p,(p∈(OT_ n a b c U O ea la d Z ord dy oa ol oc da dl dc (orG n a b c U O d Z)).m/\p∈(OF_ n a b c U O ea la d Z ord dy oa ol oc da dl dc).m)->GL e1 w1 p.1 p.2:=by
  intro p hp;refine g3 p ?_;cases (orS n a b c U O d Z).isSome
  ·exact hp.2
  ·exact hp.1
 -- the days' row and the map bear their numbers still
 have hbd:w1.heap[bd]? =some (.cells #[dv] 61 (0,0)):=by
  obtain ⟨_,_,vs,q1,q2⟩:=hZ (4,.cells 61 [.x (.slice da dl dc)]) ⟨by simp [OT_],by simp [OF_]⟩
  obtain ⟨x,xs,rfl,t1,q2⟩:=q2.cons_inv;obtain rfl:=q2.nil_inv;rw [b4,t1.x_inv,←hdv] at q1;exact q1
 have b7:e1.val 7=dv:=by
  obtain ⟨_,_,vs,q1,q2⟩:=hZ (4,.cells 61 [.row 7]) ⟨by simp [OT_],by simp [OF_]⟩
  obtain ⟨x,xs,rfl,t1,q2⟩:=q2.cons_inv;obtain rfl:=q2.nil_inv;rw [b4,hbd] at q1;simp only [HJ,Obj.cells.injEq] at q1;have:dv=x:=by simpa using q1.1
  subst this;clear q1 hbd;generalize dv=z at t1;cases t1 with
  |row _ a n c _ hv=>exact hv
 have hsm: ∀x,x<w.heap.size->x≠bo->x≠bm->ov.ownBlock≠some x->dv.ownBlock≠some x->w1.heap[x]? =w.heap[x]? :=by
  intro x hx n1 n2 n3 n4;rcases Classical.em (x=bd) with rfl|n5
  ·rw [hbd,hdb]
  ·exact (OU x hx n1 n2 n5 n3 n4).2
 have b5:e1.blk 5=bm:=by
  obtain ⟨_,_,_,vs,q1,q2⟩:=hZ (1,.keep 329 [.mp 5]) ⟨by simp [OT_],by simp [OF_]⟩
  obtain ⟨x,xs,rfl,t1,q2⟩:=q2.cons_inv;obtain rfl:=q2.nil_inv;rw [b1,keptR _ rg,hg] at q1;simp only [HJ,Obj.cells.injEq] at q1;have:Value.map (some bm)=x:=by simpa using q1.1
  subst this;cases t1;rfl
 have Ji3: ∃(es':Array MapEntry) (c':Nat),w1.heap[bm]? =some (.map es' c')/\ ∀x∈es'.toList,orH n a b c U O x.key/\x.val=orV x.key:=by
  obtain ⟨_,_,es',c',q1,q2⟩:=hZ (5,.memo (orH n a b c U O) orV) ⟨by simp [OT_],by simp [OF_]⟩
  rw [b5] at q1;exact ⟨es',c',q1,q2⟩
 refine ⟨hen,hsz,g2.os,g2.tape,g2.output,hsm,Ji3,λhb=>?_,λhb=>?_⟩
 ·rw [hb] at g3;have k3:=g3 (3,.cells 61 [.row 900]) (by simp [OF_])
  have k3':=g3 (3,.cells 61 [.x (.slice oa ol oc)]) (by simp [OF_])
  have k9:=g3 (900,.row 3 1 ord.length (λj=>[i (UD ord j)])) (by simp [OF_])
  have k7:=g3 (7,.row 3 1 n (λj=>[i (dy j)])) (by simp [OF_])
  obtain ⟨_,_,vs,q1,q2⟩:=k3';obtain ⟨x,xs,rfl,t1,q2⟩:=q2.cons_inv;obtain rfl:=q2.nil_inv;have hx:x=ov:=by rw [hov];exact t1.x_inv
  subst hx;have q1':w1.heap[e1.blk 3]? =some (.cells #[x] 61 (0,0)):=q1;rw [b3] at q1';have h9:e1.val 900=x:=by
   obtain ⟨_,_,vs,u1,u2⟩:=k3;obtain ⟨y,ys,rfl,t2,u2⟩:=u2.cons_inv;obtain rfl:=u2.nil_inv;have u1':w1.heap[e1.blk 3]? =some (.cells #[y] 61 (0,0)):=u1;rw [b3,q1'] at u1';simp only [HJ,Obj.cells.injEq] at u1';have:x=y:=by simpa using u1'.1
   subst this;clear q1' u1' q1 u1 t1;generalize x=z at t2;cases t2 with
   |row _ a n c _ hv=>exact hv
  have r9:=qQ k9 (oK _ _);have r7:=qQ k7 (oK _ _);rw [h9,TP] at r9;rw [b7,Qc7] at r7;exact ⟨q1',r9,r7⟩
 ·rw [hb] at g3;have k3:=g3 (3,.cells 61 [.row 900]) (by simp [OT_])
  have k9:=g3 (900,.row 3 1 (ord++orL (orG n a b c U O d Z)).length (λj=>[i (UD (ord++orL (orG n a b c U O d Z)) j)])) (by simp [OT_])
  have k7:=g3 (7,.row 3 1 n (λj=>[i (dyU (orG n a b c U O d Z) dy j)])) (by simp [OT_])
  have k5:=g3 (5,.memo (orH n a b c U O) orV) (by simp [OT_])
  have o3':=k3.2.1;rw [b3] at o3';have o5':=k5.2.1;rw [b5] at o5';obtain ⟨_,_,vs,q1,q2⟩:=k3;obtain ⟨y,ys,rfl,t1,q2⟩:=q2.cons_inv;obtain rfl:=q2.nil_inv;have q1':w1.heap[e1.blk 3]? =some (.cells #[y] 61 (0,0)):=q1;rw [b3] at q1';have hy:(∃p q r,y= .slice p q r)/\e1.val 900=y:=by
   cases t1 with
   |row _ a n c _ hv=>exact ⟨⟨a,n,c,rfl⟩,hv⟩
  have r9:=qQ k9 (oK _ _);have r7:=qQ k7 (oK _ _);rw [hy.2,TP] at r9;rw [b7,Qc7] at r7;refine ⟨y,q1',hy.1,r9,λz hz=>?_,r7⟩
  rcases An z w.heap.size with hlt|hge
  ·refine .inr ?_;have hoz:e1.own z=some 900:=k9.2.1 z (by show (e1.val 900).ownBlock=some z;rw [hy.2];exact hz)
   refine Classical.byContradiction λn3=>?_
   have n1:z≠bo:=by
    rintro rfl;rw [o3'] at hoz;cases hoz
   have n2:z≠bm:=by
    rintro rfl;rw [o5'] at hoz;cases hoz
   have n4:dv.ownBlock≠some z:=by
    intro h;have:=k7.2.1 z (by show (e1.val 7).ownBlock=some z;rw [b7];exact h)
    rw [this] at hoz;cases hoz
   have n5:z≠bd:=by
    rintro rfl;have:=(g3 (4,.cells 61 [.row 7]) (by simp [OT_])).2.1
    rw [b4] at this;rw [this] at hoz;cases hoz
   have hk:=OU z hlt n1 n2 n5 n3 n4;rw [(g1.apart z hk.1).1] at hoz;cases hoz
  ·exact .inl hge
theorem LO{e e':UP}{w w1:World}{id:Nat}{r:GU}(st:Step e e' w w1)(HC: ∀x,e.own x=some id->e'.own x=some id/\w1.heap[x]? =w.heap[x]?)(hna:Xk0 r=false)(h:GL e w id r):GL e' w1 id r:=by
 cases r with
 |cells T l=>
  obtain ⟨h1,h2,vs,h3,h4⟩:=h;obtain ⟨l1,l2,l3⟩:=st.live id h1;obtain ⟨k1,k2⟩:=HC _ h2;exact ⟨l1,by rw [l2];exact k1,vs,by rw [l2,k2];exact h3,h4.step st⟩
 |ints T pre n f=>
  obtain ⟨h1,h2,vs,h3,h4⟩:=h;obtain ⟨l1,l2,l3⟩:=st.live id h1;obtain ⟨k1,k2⟩:=HC _ h2;exact ⟨l1,by rw [l2];exact k1,vs,by rw [l2,k2];exact h3,h4.step st⟩
 |memo g f=>
  obtain ⟨h1,h2,es,c,h3,h4⟩:=h;obtain ⟨l1,l2,l3⟩:=st.live id h1;obtain ⟨k1,k2⟩:=HC _ h2;exact ⟨l1,by rw [l2];exact k1,es,c,by rw [l2,k2];exact h3,h4⟩
 |keep T l=>exact LL st h
 |aka _ _ _ _ _=>cases hna
 |row T sz n f=>
  obtain ⟨h1,h2,hf,ys,h3,h4⟩:=h;obtain ⟨l1,l2,l3⟩:=st.live id h1;refine ⟨l1,λx hx=>(HC _ (h2 x (by rw [←l3];exact hx))).1,hf,ys,?_,λi j a v O ha hv=>(h4 i j a v O ha hv).step st⟩
  rw [l3];refine ⟨h3.1,h3.2.imp (λh=>h) ?_⟩
  rintro ⟨g',cap',cur',hv,hg,hh,rest⟩;exact ⟨g',cap',cur',hv,hg,(HC g' (h2 g' (by rw [hv];rfl))).2.trans hh,rest⟩
theorem IF{e:UP}{w:World}{id n:Nat}{g:Nat->List AV}{ov:Value}(hr:UJ 1 n g)(hl:e.live id)(hv:e.val id=ov)(hob: ∀x,ov.ownBlock=some x->e.own x=some id)(ho:w.ownsRow 0 3 1 ov n (((List.range n).map (col 0 g)).map (Value.int .i64))):GL e w id (.row 3 1 n g):=by
 have h:=z6 (f:=col 0 g) hl hv hob VZ (λj hj=>CN hj) ho
 obtain ⟨h1,h2,h3,xs,h4,h5⟩:=h;refine ⟨h1,h2,λj hj=>?_,xs,h4,λi j a v O ha hv=>?_⟩
 ·rw [hr j hj];exact h3 j hj
 ·rw [hr i O] at ha;exact h5 i j a v O ha hv
theorem eY{n:Nat}{a b c U O:Nat->Int}{N:Nat}(hs:Ql7 n a b c U O N):GG VT 222 (nQ n a b c U O N):=by
 refine ⟨(UM Tryz.func222),?_⟩;intro avs m nx sv tr ht Q hQ cx w0 TT e ds args w hE hB hm hlv LU hxt hr;unfold nQ at ht;split at ht
 ·rename_i d Z k W g z1 f z2 o z3 dd z4;split at ht
  ·rename_i Tk c1 c2 sl ea la Tg mg Tf fg k' y0 g' y1 f' y2 o' y3 d' y4 To q Td r h1 h2 h3 h4 h5;split at ht
   ·rename_i hh ff T1 s1 k1 g1 T2 s2 k2 g2 h6 h7 h8;split at ht
    ·rename_i hb;rw [HE] at hb;obtain ⟨hb1,hb2⟩:=hb;simp only [EP] at hb1;obtain ⟨rfl,rfl,rfl,rfl,rfl,rfl,rfl,rfl,rfl,rfl,rfl,rfl,rfl,rfl,rfl,rfl,rfl,rfl,rfl,rfl,rfl,rfl,rfl,rfl,rfl,_⟩:=hb1;rw [HE] at hb2;have hqr:q≠r:=by
      rintro rfl;simp at hb2
     have hod:o≠dd:=by
      rintro rfl;simp at hb2
     cases ht;obtain ⟨hn,hq⟩:=VR.sat_needT hQ;have hn:=GH hn;have n1:c1=i 4:=hn _ VZ;have n2:c2=i 10:=hn _ VZ;have n3:sl=sls n a b c U O:=hn _ VZ;have n4: ∀x,hh x->orH n a b c U O x/\ff x=orV x:=hn _ VZ;have n6:UJ 1 k1 g1:=hn _ VZ;have n7:UJ 1 k2 g2:=hn _ VZ;have n8:k2=n:=hn _ VZ;have n9:0<=d/\d<2^n:=hn _ VZ;have n10:2^n-d.toNat<=N:=hn _ VZ;have n11:0<=Z/\Z<=100:=hn _ VZ;have n12:k1<=1000:=hn _ VZ;clear hn hQ;subst n1 n2 n3 n8;obtain ⟨d,rfl⟩: ∃d':Nat,d=d':=⟨d.toNat,VO⟩;simp only [DR] at hq n10;have hpn:((2^k2:Nat):Int)=2^k2:=VZ;have hdn:d<2^k2:=by
      have h:=n9.2;rw [←hpn] at h;exact Int.ofNat_lt.1 h
     obtain ⟨v0,l1,rfl,r1,hr⟩:=hr.cons_inv;obtain ⟨v1,l1,rfl,r2,hr⟩:=hr.cons_inv;obtain ⟨v2,l2,rfl,r3,hr⟩:=hr.cons_inv;obtain ⟨v3,l3,rfl,r4,hr⟩:=hr.cons_inv;obtain ⟨v4,l4,rfl,r5,hr⟩:=hr.cons_inv;obtain ⟨v5,l5,rfl,r6,hr⟩:=hr.cons_inv;obtain rfl:=hr.nil_inv;obtain ⟨us,rfl,ru⟩:=r1.agg_inv;obtain ⟨u1,us1,rfl,q1,ru⟩:=ru.cons_inv;obtain ⟨u2,us2,rfl,q2,ru⟩:=ru.cons_inv;obtain rfl:=ru.nil_inv;obtain rfl:=q1.x_inv;obtain rfl:=q2.x_inv;have z: ∀{k:Nat} {x:Value},Rep e w (.ptr k 0) x->x=LY (e.blk k):=by
      intro k x h;cases h;rfl
     obtain rfl:=z r2;obtain rfl:=z r3;obtain rfl:=z r4;obtain rfl:=z r5;obtain rfl:=z r6;have m4:=G5 h4;obtain ⟨_,ro1,_,vs1,hp1,e1⟩:=hm _ (G5 h1);obtain ⟨rb,xs,rfl,t1,e1⟩:=e1.cons_inv;obtain rfl:=e1.nil_inv;obtain ⟨_,ro2,_,vs2,hp2,e2⟩:=hm _ (G5 h2);obtain ⟨mv,xs,rfl,t2,e2⟩:=e2.cons_inv;obtain rfl:=e2.nil_inv;have hmv:mv= .map (some (e.blk mg)):=by
      cases t2;rfl
     subst hmv;obtain ⟨_,ro3,_,vs3,hp3,e3⟩:=hm _ (G5 h3);obtain ⟨fv,xs,rfl,t3,e3⟩:=e3.cons_inv;obtain rfl:=e3.nil_inv;obtain ⟨us,us',rfl,t6,t7⟩:=t3.fn_inv;obtain rfl:=t6.nil_inv;obtain ⟨x1,xs,rfl,s1,t7⟩:=t7.cons_inv;obtain ⟨x2,xs,rfl,s2,t7⟩:=t7.cons_inv;obtain ⟨x3,xs,rfl,s3,t7⟩:=t7.cons_inv;obtain ⟨x4,xs,rfl,s4,t7⟩:=t7.cons_inv;obtain ⟨x5,xs,rfl,s5,t7⟩:=t7.cons_inv;obtain rfl:=t7.nil_inv;obtain rfl:=z s1;obtain rfl:=z s2;obtain rfl:=z s3;obtain rfl:=z s4;obtain rfl:=z s5;obtain ⟨live4,own4,vs4,hp4,e4⟩:=hm _ m4;obtain ⟨ov,xs,rfl,t4,e4⟩:=e4.cons_inv;obtain rfl:=e4.nil_inv;obtain ⟨_,own5,vs5,hp5,e5⟩:=hm _ (G5 h5);obtain ⟨dv,xs,rfl,t5,e5⟩:=e5.cons_inv;obtain rfl:=e5.nil_inv;have hov:(∃p q r,ov= .slice p q r)/\e.val q=ov:=by
      cases t4 with
      |row _ a n c _ hv=>exact ⟨⟨a,n,c,rfl⟩,hv⟩
     have hdv:(∃p q r,dv= .slice p q r)/\e.val r=dv:=by
      cases t5 with
      |row _ a n c _ hv=>exact ⟨⟨a,n,c,rfl⟩,hv⟩
     obtain ⟨live6,own6,es,cn,hp6,hes0⟩:=hm _ (G5 h6);have hes: ∀x∈es.toList,orH k2 a b c U O x.key/\x.val=orV x.key:=λx hx=>by
      obtain ⟨g1,g2⟩:=hes0 x hx;exact ⟨(n4 _ g1).1,by rw [g2,(n4 _ g1).2]⟩
     have H7:=hm _ (G5 h7);have H8:=hm _ (G5 h8);have R7:=qQ H7 n6;have R8:=qQ H8 n7;simp only at hp1 hp2 hp3 hp4 hp5 hp6 own4 own6 live4 live6 R7 R8 ro1 ro2 ro3 own5;rw [hov.2] at R7;rw [hdv.2] at R8;have own7: ∀x,ov.ownBlock=some x->e.own x=some q:=λx hx=>H7.2.1 x (by show (e.val q).ownBlock=some x;rw [hov.2];exact hx)
     have own8: ∀x,dv.ownBlock=some x->e.own x=some r:=λx hx=>H8.2.1 x (by show (e.val r).ownBlock=some x;rw [hdv.2];exact hx)
     have live7:e.live q:=H7.1;have live8:e.live r:=H8.1;have ho_q:o≠q:=by
      rintro rfl;rw [h7] at h4;cases h4
     have ho_r:o≠r:=by
      rintro rfl;rw [h8] at h4;cases h4
     have ho_m:o≠mg:=by
      rintro rfl;rw [h6] at h4;cases h4
     have hm_q:mg≠q:=by
      rintro rfl;rw [h7] at h6;cases h6
     have hm_r:mg≠r:=by
      rintro rfl;rw [h8] at h6;cases h6
     have hd_q:dd≠q:=by
      rintro rfl;rw [h7] at h5;cases h5
     have hd_r:dd≠r:=by
      rintro rfl;rw [h8] at h5;cases h5
     have hd_m:dd≠mg:=by
      rintro rfl;rw [h6] at h5;cases h5
     have dne: ∀{x y j j':Nat},e.own x=some j->e.own y=some j'->j≠j'->x≠y:=by
      rintro x y j j' hx hy hj rfl;rw [hx] at hy;exact hj (Bb hy)
     have D1:(xV k1 g1).length=k1:=by simp [xV]
     have hro: ∀x,e.ro x->x<w.heap.size/\x≠e.blk o/\x≠e.blk mg/\x≠e.blk dd/\ov.ownBlock≠some x/\dv.ownBlock≠some x:=by
      intro x hx;obtain ⟨hx1,hx2⟩:=hE.apart x hx;have nx_: ∀{y j:Nat},e.own y=some j->x≠y:=by
       rintro y j hy rfl;rw [hx1] at hy;cases hy
      exact ⟨hx2,nx_ own4,nx_ own6,nx_ own5,λh=>(nx_ (own7 x h)) rfl,λh=>(nx_ (own8 x h)) rfl⟩
     have FM:=Wg5 hs (ord:=xV k1 g1) (dy:=col 0 g2) hdn n10 n11 (by rw [D1];exact n12) (w:=w) (bk:=e.blk k) (bg:=e.blk g) (bf:=e.blk f) (bo:=e.blk o) (bd:=e.blk dd) (bm:=e.blk mg) (R:=e) hE.glob
      hp1 hp2 hp3 hp5 hp4 hp6 hes (by rw [D1];exact R7) R8 hov.1 hdv.1 (dne own4 own6 ho_m) (dne own4 own5 hod) (dne own6 own5 (Ne.symm hd_m)) (λx hx=>⟨dne (own7 x hx) own4 (Ne.symm ho_q),dne (own7 x hx) own6 (Ne.symm hm_q),dne (own7 x hx) own5 (Ne.symm hd_q),λh=>dne (own7 x hx) (own8 x h) hqr rfl⟩)
      (λx hx=>⟨dne (own8 x hx) own4 (Ne.symm ho_r),dne (own8 x hx) own6 (Ne.symm hm_r),dne (own8 x hx) own5 (Ne.symm hd_r)⟩) t1 hro ro1 ro2 ro3
     refine FM.mono ?_;rintro en w1 ⟨rfl,hsz,q1,q2,q3,jR,⟨es',c',hmp,hes'⟩,hF,hT⟩;rw [D1] at hF;have hlt: ∀{x j:Nat},e.own x=some j->w0.heap.size<=x:=λh=>(hE.owned _ _ h).1
     have hBel:Below w0.heap.size w0 w1:=by
      refine ⟨q1.trans hB.os,q2.trans hB.tape,q3.trans hB.output,Ar hB.size hsz,λx hx=>?_⟩
      have ne_: ∀{y j:Nat},e.own y=some j->x≠y:=λh he=>by have:=hlt h;omega
      rw [jR x (qF hx hB.size) (ne_ own4) (ne_ own6) (λh=>ne_ (own7 x h) rfl) (λh=>ne_ (own8 x h) rfl)]
      exact hB.block x hx
     have Xl2: ∀x,x<w.heap.size->e.ro x->w1.heap[x]? =w.heap[x]? :=λx hx hx2=>jR x hx (hro x hx2).2.1 (hro x hx2).2.2.1 (hro x hx2).2.2.2.2.1 (hro x hx2).2.2.2.2.2
     cases hb:(orS k2 a b c U O d Z).isSome with
     |false=>
      have hq:=hq.2 hb;obtain ⟨f1,f2,f3⟩:=hF hb;have st:Step e e w w1:=⟨λx hx hx2=>⟨hx2,Xl2 x hx hx2⟩,λ_ h=>⟨h,rfl,rfl⟩,hsz⟩
      refine ⟨_,_,_,_,_,e,rfl,hq,⟨λx hx=>⟨(hE.apart x hx).1,qF (hE.apart x hx).2 hsz⟩,λx j hx=>⟨(hE.owned x j hx).1,qF (hE.owned x j hx).2 hsz⟩,hE.glob.step st⟩,hBel,?_,hlv,LU,hxt.step st,.lit false⟩
      intro p hp;rcases R0 hp with rfl|⟨hp,Zo2,_⟩
      ·exact ⟨live6,own6,es',c',hmp,hes'⟩
      rcases R0 hp with rfl|⟨hp,uH,_⟩
      ·exact IF n7 live8 hdv.2 own8 f3
      rcases R0 hp with rfl|⟨hp,Zo1,_⟩
      ·exact IF n6 live7 hov.2 own7 f2
      obtain ⟨hpm,hna⟩:=ES hp;refine LO st (λx hx=>⟨hx,?_⟩) hna (hm p hpm)
      rcases Classical.em (x=e.blk o) with rfl|hxo
      ·rw [f1,hp4]
      ·exact jR x (hE.owned x _ hx).2 hxo (dne hx own6 Zo2) (λh=>dne hx (own7 x h) Zo1 rfl) (λh=>dne hx (own8 x h) uH rfl)
     |true=>
      have hq:=hq.1 hb;obtain ⟨y',t1,⟨ya,yn,yc,hy0⟩,t2,t3,t4⟩:=hT hb;have hid: ¬e.live nx:=λh=>Bf _ (hlv _ h)
      have hfr: ∀x j,e.own x=some j->j≠q->y'.ownBlock≠some x:=by
       intro x j hx hj h;rcases t3 x h with h|h
       ·have:=(hE.owned x j hx).2;omega
       ·exact dne hx (own7 x h) hj rfl
      have hfr2: ∀x,e.ro x->y'.ownBlock≠some x:=by
       intro x hx h;rcases t3 x h with h|h
       ·have:=(hro x hx).1;omega
       ·exact (hro x hx).2.2.2.2.1 h
      have HC: ∀x j,e.own x=some j->j≠q->(e.app nx y').own x=some j:=by
       intro x j hx hj;simp only [UP.app];rw [if_neg (hfr x j hx hj)];exact hx
      have st:Step e (e.app nx y') w w1:=⟨λx hx hx2=>⟨hx2,Xl2 x hx hx2⟩,λj hj=>⟨.inr hj,rfl,by
       have:j≠nx:=λh=>hid (h▸hj)
       simp [UP.app,this]⟩,hsz⟩
      have vne: ∀{j:Nat},e.live j->(e.app nx y').val j=e.val j:=λ{j} hj=>by
       have:j≠nx:=λh=>hid (h▸hj)
       simp [UP.app,this]
      refine ⟨_,_,_,_,_,e.app nx y',rfl,hq,⟨λx hx=>⟨?_,qF (hE.apart x hx).2 hsz⟩,λx j hx=>?_,hE.glob.step st⟩,hBel,?_,?_,LU,hxt.step st,.lit true⟩
      ·simp only [UP.app];rw [if_neg (hfr2 x hx)];exact (hE.apart x hx).1
      ·simp only [UP.app] at hx;split at hx
       ·rename_i hxb;refine ⟨?_,(t2.lt x hxb).2⟩;rcases t3 x hxb with h|h
        ·exact Ar hB.size h
        ·exact hlt (own7 x h)
       ·exact ⟨(hE.owned x j hx).1,qF (hE.owned x j hx).2 hsz⟩
      ·intro p hp;rcases GS.1 hp with rfl|hp
       ·exact z6 (ov:=y') (.inl rfl) (by simp [UP.app]) (λx hx=>by simp [UP.app,hx]) rfl (λj hj=>Qd3 hj) t2
       rcases R0 hp with rfl|⟨hp,Zo2,_⟩
       ·exact ⟨.inr live6,HC _ _ own6 hm_q,es',c',hmp,hes'⟩
       rcases R0 hp with rfl|⟨hp,uH,_⟩
       ·exact z6 (ov:=dv) (.inr live8) (by rw [vne live8];exact hdv.2) (λx hx=>HC _ _ (own8 x hx) (Ne.symm hqr)) VZ (λj hj=>CN hj) t4
       rcases R0 hp with rfl|⟨hp,Zo1,_⟩
       ·refine ⟨.inr live4,HC _ _ own4 ho_q,[y'],t1,.cons ?_ (.nil _ _)⟩;rw [hy0];exact .row nx _ _ _ (.inl rfl) (by simp [UP.app])
       obtain ⟨hp,Ji1⟩:=L8 hp;obtain ⟨hpm,hna⟩:=ES hp;refine LO st (λx hx=>⟨HC _ _ hx Ji1,?_⟩) hna (hm p hpm)
       exact jR x (hE.owned x _ hx).2 (dne hx own4 Zo1) (dne hx own6 Zo2) (λh=>dne hx (own7 x h) Ji1 rfl) (λh=>dne hx (own8 x h) uH rfl)
      ·rintro j (rfl|hj)
       ·exact Bk _
       ·exact Nat.lt_succ_of_lt (hlv j hj)
    ·cases ht
   ·cases ht
  ·cases ht
 ·cases ht
end Go.Proofs.YtlclobclmfhlmaaGreatDoor.Hd
