/- Contracts, put together. Conditions: those of each. -/
import Derived.Test.YtlclobclmfhlmaaGreatDoorMe
set_option linter.unusedSimpArgs false
set_option linter.unusedVariables false
set_option maxRecDepth 100000
namespace Go.Proofs.YtlclobclmfhlmaaGreatDoor.Hd
open Go Go.Sx Go.RowKit Bo
open Go.Sx.VN (need branch leaf)
open Go.Sx.AV (lst ptr agg roI tup top)
section
variable (N:Nat)(lo hi:Nat->Int)(m:Nat->Nat)(r v:Nat->Nat->Int)
def Xa3:St:={σ:=[AV.ro [lst 2 3 λk=>[iI (oL k),iI (oH k)],iI 1,Q1 N lo hi m r v,Q2 m N,top],agg QD,top,ptr 0 0,top,top,ptr 4 0]++HI 15 [iI 13]++HI 20 [lst 2 3 λk=>[iI (oL k),iI (oH k)],iI (↑(3:Nat):Int),iI 3]++HI 20 [Q1 N lo hi m r v,iI (N:Int),iI (N:Int)]++HI 14 [Q2 m N,iI (↑(HD m N):Int),iI (↑(HD m N):Int)]++HI 50 [iI 13]++HI 54 [],m:=[(4,GO.ints 237 [] 169 λk=>G4 (fwO 12 (r0M N lo hi m r v) 13) k),(0,KX)],nx:=29}
noncomputable def Jq4:Code:=U9 (VS (U8 Tryz.f93) 5)
def Wh7(k:Nat):St:=(upE [(178,i k)] [(4,.ints 237 [] 169 (G4 (PE N lo hi m r v))),(0,.cells 191 [.x (.int .u64 0)])] (Xa3 N lo hi m r v))
def d7(k:Nat):G6->Option St
 | .ret=>some (upE [(4,.x (.pointer none)),(5,.lit false),(178,.top)] [(4,.ints 237 [] 169 (G4 (PE N lo hi m r v))),(0,.cells 191 [.x (.int .u64 0)])] (Xa3 N lo hi m r v))
 | .exit 16=>some (upE [(178,.top)] [(4,.ints 237 [] 169 (G4 (PE N lo hi m r v))),(0,.cells 191 [.x (.int .u64 0)])] (Xa3 N lo hi m r v))
 |_=>none
def Jl7:CT:= .branch (xE N lo hi m r v) (.leaf (.exit 16,(d7 N lo hi m r v 0 (.exit 16)).getD (Xa3 N lo hi m r v))) (.leaf (.ret,(d7 N lo hi m r v 0 .ret).getD (Xa3 N lo hi m r v)))
def Xw3:UG:=GK [] (HF (Wh7 N lo hi m r v (0)) (Jl7 N lo hi m r v))
theorem Jf9(VT:bOK N lo hi m r v):G5 VP (.loop Jq4) (Xw3 N lo hi m r v):=by
 refine US [] (L:=[]) (VL.cons RI (VL.cons LU (VL.cons R9 (VL.nil _)))) (VX.of (VR.nil _) (VO.cons RM (VO.nil _))) VZ U3 (X:=Nat) (Wh7 N lo hi m r v) (λk=>k<=13/\ ∀j,j<k->0<=PE N lo hi m r v j j) (λk=>13-k) (d7 N lo hi m r v) (x0:=0) VW ?_ ?_ ?_
 ·rintro k;kernel_rfl
 ·rintro k y E h;unfold d7 at h;split at h
  ·cases h;kernel_rfl
  ·cases h;kernel_rfl
  ·cases h
 ·rintro Q hQ k hx;refine ⟨(k+1),?_⟩;(with_reducible refine D6 (t:=let z0:=(U0 (AV.ro [lst 2 3 λk=>[iI (oL k),iI (oH k)],iI 1,Q1 N lo hi m r v,Q2 m N,top]));let z1:=(U0 (↑(HD m N):Int));let z2:=PE N lo hi m r v;let z3:=(U0 (lst 2 3 λk=>[iI (oL k),iI (oH k)]));(branch (decide ((k:Int)<13)) (need [UH k 13] (need [UH k 13] (need [k*1+(k*13+0)<169] (branch (decide (G4 (z2) (k*1+(k*13+0))<0)) (need [z0,U0 (agg QD),QL,QE=QE,WO,W9,XI,z3,U0 (↑(3:Nat):Int),XM,WX N lo hi m r v,U0 (N:Int),U0 (N:Int),U0 (Q2 m N),z1,z1,XI,169=169,GQ 169 (G4 (z2)),QT] (leaf G6.ret)) (need [VM ((k:Int)+1)] (need [z0,U0 (agg QD),QL,W9,XI,z3,U0 (↑(3:Nat):Int),XM,WX N lo hi m r v,U0 (N:Int),U0 (N:Int),U0 (Q2 m N),z1,z1,XI,(k:Int)+1=(↑(k+1):Int),169=169,GQ 169 (G4 (z2)),QT] (leaf G6.normal))))))) (need [z0,U0 (agg QD),QL,W9,XI,z3,U0 (↑(3:Nat):Int),XM,WX N lo hi m r v,U0 (N:Int),U0 (N:Int),U0 (Q2 m N),z1,z1,XI,169=169,GQ 169 (G4 (z2)),QT] (leaf (G6.exit 16))))) VU ?_)
  simp only [Jl7,d7,VN.sat,GS] at hQ;simp only [VN.sat,UB,UY,GL,UE,VM,UJ,H6,FO,FT,RH,GJ,d7]
  have h1:G4 (PE N lo hi m r v) (k*1+(k*13+0))=PE N lo hi m r v k k\/13<=k:=by
   rcases Nat.lt_or_ge k 13 with h|h
   ·exact .inl (kW _ VK h)
   ·exact .inr h
  refine ⟨λh=>?_,λh=>?_⟩
  ·have h2:=h1.resolve_right VK;rw [h2];refine ⟨VK,VK,VK,λhneg=>?_,λWl4=>?_⟩
   ·have hno:xE N lo hi m r v=false:=by
     cases ho:xE N lo hi m r v
     ·rfl
     ·have:=GU.1 ho k VK;simp at this;omega
    (with_reducible repeat' first|apply And.intro|intro _)
    all_goals first|exact P6|(rename_i E hE;cases hE;exact hQ.2 hno)
   ·exact VG
  ·obtain ⟨hx1,hx2⟩:=hx;obtain rfl:k=13:=VK;have Wk1:xE N lo hi m r v=true:=GU.2 (λj hj=>by simpa using hx2 j hj)
   (with_reducible repeat' first|apply And.intro|intro _)
   all_goals first|exact P6|(rename_i E hE;cases hE;exact hQ.1 Wk1)
end
theorem Qj0{S:Code->UG->Prop}{c:Code}{s0 s1 s2 s3 s4 s5:UG}(h0: ∀cj,VS c 0=some cj->S cj s0)(h1: ∀cj,VS c 1=some cj->S cj s1)(h2: ∀cj,VS c 2=some cj->S cj s2)(h3: ∀cj,VS c 3=some cj->S cj s3)(h4: ∀cj,VS c 4=some cj->S cj s4)(h5: ∀cj,VS c 5=some cj->S cj s5):
  ∀j cj,VS c j=some cj-> ∀sp,[s0,s1,s2,s3,s4,s5][j]? =some sp->S cj sp:=by
 intro j cj hj sp hsp
 match j with
 | 0=>simp at hsp;subst hsp;exact h0 cj hj
 | 1=>simp at hsp;subst hsp;exact h1 cj hj
 | 2=>simp at hsp;subst hsp;exact h2 cj hj
 | 3=>simp at hsp;subst hsp;exact h3 cj hj
 | 4=>simp at hsp;subst hsp;exact h4 cj hj
 | 5=>simp at hsp;subst hsp;exact h5 cj hj
 |j+6=>simp at hsp
section
variable (N:Nat)
abbrev KD(lo:Nat->Int)(hi:Nat->Int)(m:Nat->Nat)(r:Nat->Nat->Int)(v:Nat->Nat->Int):AV:=roI [] 169 (λk=>G4 (PE N lo hi m r v) k) 0
theorem Xk0(lo hi:Nat->Int)(m:Nat->Nat)(r v:Nat->Nat->Int)(VT:bOK N lo hi m r v):UO VP 93 [.ro [ofs,i 1,bds N lo hi m r v,.lst 2 (HD m N) (plF m N),.top],.agg [.x (.int .u64 0)]] (.branch (xE N lo hi m r v) (.leaf (.tup [.roI [] 169 (G4 (PE N lo hi m r v)) 0,.lit true])) (.leaf (.tup [Bo.nilP,.lit false]))):=by
 refine GT (L:=[Xx1 N lo hi m r v,Xw9 N lo hi m r v,Xw8 N lo hi m r v,Xw7 N lo hi m r v,Xw6 N lo hi m r v,Xw3 N lo hi m r v]) (VL.cons RI (VL.cons LU (VL.cons R9 (VL.nil _)))) (VX.of (VR.nil _) (VO.cons RM (VO.nil _))) VZ Tryz.func93 (UV Tryz.f93) (Qj0 (lpE (b:= .loop Zs7) VU<|(Jg7 N lo hi m r v).N) (lpE (b:= .loop Jq8) VU<|(Jg5 N lo hi m r v).N) (lpE (b:= .loop Jq7) VU<|(Jg4 N lo hi m r v VT).N) (lpE (b:= .loop Jq6) VU<|(Jg3 N lo hi m r v VT).N) (lpE (b:= .loop Zs6) VU<|(Jg2 N lo hi m r v VT).N) (lpE (b:= .loop Jq4) VU<|(Jf9 N lo hi m r v VT).N)) (t:=let z0:=(U0 (AV.ro [lst 2 3 λk=>[iI (oL k),iI (oH k)],iI 1,Q1 N lo hi m r v,Q2 m N,top]));let z1:=(U0 (lst 2 3 λk=>[iI (oL k),iI (oH k)]));let z2:=(U0 (↑(HD m N):Int));let z3:=(U0 (↑(3:Nat):Int));(need [z0,U0 (agg QD),QL,QE=QE,WO,W9,(0:Int)=(↑(0:Nat):Int),169=169,GV 169 (UA QM) (G4 (LT 0 0)),QT] (need [z0,U0 (agg QD),QL,QE=QE,WO,W9,XI,z1,z3,(0:Int)=(↑(0:Nat):Int),169=169,GV 169 (G4 (LT 13 0)) (G4 (ofM 0)),QT] (need [z0,U0 (agg QD),QL,QE=QE,WO,W9,XI,z1,z3,XM,WX N lo hi m r v,U0 (N:Int),(0:Int)=(↑(0:Nat):Int),169=169,GV 169 (G4 (ofM 3)) (G4 (btM lo hi 0)),QT] (need [z0,U0 (agg QD),QL,QE=QE,WO,W9,XI,z1,z3,XM,WX N lo hi m r v,U0 (N:Int),U0 (N:Int),U0 (Q2 m N),z2,(0:Int)=(↑(0:Nat):Int),169=169,GV 169 (G4 (btM lo hi N)) (G4 (rE N lo hi m r v 0)),QT] (need [z0,U0 (agg QD),QL,QE=QE,WO,W9,XI,z1,z3,XM,WX N lo hi m r v,U0 (N:Int),U0 (N:Int),U0 (Q2 m N),z2,z2,(0:Int)=(↑(0:Nat):Int),169=169,GV 169 (G4 (rE N lo hi m r v (HD m N))) (G4 (fwO 12 (r0M N lo hi m r v) 0)),QT] (need [z0,U0 (agg QD),QL,W9,XI,z1,z3,XM,WX N lo hi m r v,U0 (N:Int),U0 (N:Int),U0 (Q2 m N),z2,z2,XI,(0:Int)=(↑(0:Nat):Int),169=169,GV 169 (G4 (fwO 12 (r0M N lo hi m r v) 13)) (G4 (PE N lo hi m r v)),QT] (branch (xE N lo hi m r v) (leaf (tup [KD N lo hi m r v,AV.lit true])) (leaf (tup [QE,AV.lit false])))))))))) VU ?_
 intro Q hQ;simp only [VN.sat,UB,UJ,VM,RH,GJ] at hQ ⊢
 (with_reducible repeat' first|apply And.intro|intro _)
 all_goals first|exact True.intro|omega|with_reducible rfl|rfl|exact Xi2 _|(rename_i h;exact h.elim)|(rename_i h;exact ⟨.tup [.roI [] 169 (G4 (PE N lo hi m r v)) 0,.lit true],⟨⟨rfl,rfl,λ_ _=>rfl,rfl⟩,rfl,True.intro⟩,hQ.1 h⟩)|(rename_i h;exact ⟨.tup [Bo.nilP,.lit false],⟨rfl,rfl,True.intro⟩,hQ.2 h⟩)
def Zo2(lo hi:Nat->Int)(m:Nat->Nat)(r v:Nat->Nat->Int):DG:=λl=>some (.need [l=[.ro [ofs,i 1,bds N lo hi m r v,.lst 2 (HD m N) (plF m N),.top],.agg [.x (.int .u64 0)]]] (.branch (xE N lo hi m r v) (.leaf (.tup [.roI [] 169 (G4 (PE N lo hi m r v)) 0,.lit true])) (.leaf (.tup [Bo.nilP,.lit false]))))
theorem Ws8(lo hi:Nat->Int)(m:Nat->Nat)(r v:Nat->Nat->Int)(VT:bOK N lo hi m r v):Sx.Enters Tryz.prog 93/\ ∀avs t,Zo2 N lo hi m r v avs=some t->UO VP 93 avs t:=by
 refine ⟨(UK Tryz.func93),?_⟩;intro avs t h;cases h;intro Q hQ;have e:=hQ.1
 dsimp only [UB] at e
 subst e;exact Xk0 N lo hi m r v VT Q hQ.2
def bV(lo hi:Nat->Int)(m:Nat->Nat)(r v:Nat->Nat->Int):Prop:=bOK N lo hi m r v/\ ∀b,b<N-> ∀j k,j<k->k<m b->r b j≠r b k
end
section
variable {N:Nat}{lo hi:Nat->Int}{m:Nat->Nat}{r v:Nat->Nat->Int}
theorem Zv7(h:bV N lo hi m r v):vB N (λk=>[i (lo k),i (hi k),bts (m k) (r k) (v k)]):=by
 refine ⟨h.1.1,lo,hi,m,λk j=>[i (r k j),i (v k j)],λ_ _=>rfl,λk hk=>⟨λ_ _=>rfl,⟨?_,λj hj=>?_,λj q hj hq=>?_⟩,?_⟩⟩
 ·have:=(h.1.2 k hk).1;omega
 ·obtain ⟨h1,h2,h3,h4,h5⟩:=h.1.2 k hk;exact h5 j hj
 ·exact h.2 k hk j q hj hq
 ·obtain ⟨h1,h2,h3,h4,h5⟩:=h.1.2 k hk;exact (insB_iff _ _ _ _).2 ⟨h2,h3,h4⟩
theorem Wt5(h:bV N lo hi m r v):N<=1000/\ ∀b,b<N->m b<=1000:=⟨by have:=h.1.1;omega,λb hb=>by have:=(h.1.2 b hb).1;omega⟩
end
section
variable (f:Nat->List AV)(er:Int)(N:Nat)(lo hi:Nat->Int)(m:Nat->Nat)(r v:Nat->Nat->Int)
def Xm4:UZ:=λl=>some ([l=[.agg [.lst 2 3 f,i er,bds N lo hi m r v]]],.ro [.lst 2 3 f,i er,bds N lo hi m r v,.lst 2 (HD m N) (plF m N),.top])
theorem Qq1(VT:N<=1000)(UI: ∀b,b<N->m b<=1000):PH VP 92 (Xm4 f er N lo hi m r v):=by
 refine ⟨(UK Tryz.func92),?_⟩;intro avs ns res h hn;cases h;have e:=hn _ GF;subst e;exact Wr9 f er N lo hi m r v VT UI
end
section
variable (N:Nat)(lo hi:Nat->Int)(m:Nat->Nat)(r v:Nat->Nat->Int)
theorem Qq2(VT:bV N lo hi m r v):UO VP 68 [.agg [ofs,i 1,bds N lo hi m r v],.lit true] (.branch (xE N lo hi m r v) (.leaf (.tup [.roI [] 169 (G4 (PE N lo hi m r v)) 0,i 0])) (.leaf (.tup [Bo.nilP,i 9]))):=by
 refine GT (L:=[]) (VL.cons Qr0 (VL.nil _)) (VX.ofC (VR.cons (Qq1 (λk=>[i (oL k),i (oH k)]) 1 N lo hi m r v (Wt5 VT).1 (Wt5 VT).2) (VR.nil _)) (VO.nil _) (UC.cons (Ws8 N lo hi m r v VT.1) (UC.nil _))) VZ Tryz.func68 (UV Tryz.f68) G8 (t:=need [ofB λk=>[i (oL k),i (oH k)],vB N λk=>[i (lo k),i (hi k),bts (m k) (r k) (v k)]] (branch ((0:Int) != 0) (leaf (tup [QE,iI 0])) (need [U0 ([agg [lst 2 3 λk=>[iI (oL k),iI (oH k)],iI 1,Q1 N lo hi m r v]])] (need [U0 ([AV.ro [lst 2 3 λk=>[iI (oL k),iI (oH k)],iI 1,Q1 N lo hi m r v,Q2 m N,top],agg QD])] (branch (xE N lo hi m r v) (leaf (tup [KD N lo hi m r v,iI 0])) (leaf (tup [QE,iI 9]))))))) VU ?_
 intro Q hQ;simp only [VN.sat,UB,UJ] at hQ ⊢;refine ⟨⟨λ_ _=>rfl,Zv7 VT⟩,λh=>by simp at h,λ_=>⟨λh=>⟨.tup [.roI [] 169 (G4 (PE N lo hi m r v)) 0,i 0],⟨⟨rfl,rfl,λ_ _=>rfl,rfl⟩,⟨rfl,rfl⟩,True.intro⟩,hQ.1 h⟩,λh=>⟨.tup [Bo.nilP,i 9],⟨rfl,⟨rfl,rfl⟩,True.intro⟩,hQ.2 h⟩⟩⟩
def Wx3:DG:=λl=>some (.need [l=[.agg [ofs,i 1,bds N lo hi m r v],.lit true]] (.branch (xE N lo hi m r v) (.leaf (.tup [.roI [] 169 (G4 (PE N lo hi m r v)) 0,i 0])) (.leaf (.tup [Bo.nilP,i 9]))))
theorem IJ(VT:bV N lo hi m r v):Sx.Enters Tryz.prog 68/\ ∀avs t,Wx3 N lo hi m r v avs=some t->UO VP 68 avs t:=by
 refine ⟨(UK Tryz.func68),?_⟩;intro avs t h;cases h;intro Q hQ;have e:=hQ.1
 dsimp only [UB] at e
 subst e;exact Qq2 N lo hi m r v VT Q hQ.2
end
def Wv6:UZ
 |[.roI [] 169 F 0,.x (.int .i64 a),.x (.int .i64 b)]=>some ([0<=a/\a<=12,0<=b/\b<=12,-1000000000000000<=F (b.toNat*13+a.toNat)/\F (b.toNat*13+a.toNat)<=1000000000000000],i (-(F (b.toNat*13+a.toNat))))
 |_=>none
theorem Xj9(F:Nat->Int)(a b:Int)(VT:0<=a/\a<=12)(UI:0<=b/\b<=12)(HR: -1000000000000000<=F (b.toNat*13+a.toNat)/\F (b.toNat*13+a.toNat)<=1000000000000000):VY VP 94 [.roI [] 169 F 0,i a,i b] (i (-(F (b.toNat*13+a.toNat)))):=by
 refine GW Tryz.func94 (t:=need [UH b 13] (need [UH a 13] (need [Int.toNat a*1+(Int.toNat b*13+0)<169] (need [VM (-F (Int.toNat a*1+(Int.toNat b*13+0)))] (leaf (RV.x (.int .i64 (-F (Int.toNat a*1+(Int.toNat b*13+0)))))))))) VU ?_;simp only [VN.sat,UB,UY,GL,UE,UJ,FA];rw [show a.toNat*1+(b.toNat*13+0)=b.toNat*13+a.toNat by omega]
 simp only [VM];simp;omega
theorem Xj8:VQ VP 94 Wv6:=by
 refine ⟨(UK Tryz.func94),?_⟩;intro avs ns res h hn;unfold Wv6 at h;split at h
 ·cases h;exact Xj9 _ _ _ (hn _ VW) (hn _ VW) (hn _ VW)
 ·cases h
def Qf1:UZ
 |[.roI [] 169 F 0,.x (.int .i64 a),.x (.int .i64 b)]=>some ([0<=a/\a<=12,0<=b/\b<=12,-1000000000000000<=F (a.toNat*13+b.toNat)/\F (a.toNat*13+b.toNat)<=1000000000000000],i (F (a.toNat*13+b.toNat)))
 |_=>none
theorem Ws6(F:Nat->Int)(a b:Int)(VT:0<=a/\a<=12)(UI:0<=b/\b<=12)(HR: -1000000000000000<=F (a.toNat*13+b.toNat)/\F (a.toNat*13+b.toNat)<=1000000000000000):VY VP 95 [.roI [] 169 F 0,i a,i b] (i (F (a.toNat*13+b.toNat))):=by
 refine GW Tryz.func95 (t:=need [UH a 13] (need [UH b 13] (need [Int.toNat b*1+(Int.toNat a*13+0)<169] (leaf (RV.x (.int .i64 (F (Int.toNat b*1+(Int.toNat a*13+0))))))))) VU ?_;simp only [VN.sat,UB,UY,GL,UE,UJ,FA];rw [show b.toNat*1+(a.toNat*13+0)=a.toNat*13+b.toNat by omega]
 simp only [VM];simp;omega
theorem Ws5:VQ VP 95 Qf1:=by
 refine ⟨(UK Tryz.func95),?_⟩;intro avs ns res h hn;unfold Qf1 at h;split at h
 ·cases h;exact Ws6 _ _ _ (hn _ VW) (hn _ VW) (hn _ VW)
 ·cases h
def M2:UZ
 |[.roI [] 169 F 0,.x (.int .i64 a),.x (.int .i64 b)]=>some ([0<=a/\a<=12,0<=b/\b<=12,-1000000000000000<=F (b.toNat*13+a.toNat)/\F (b.toNat*13+a.toNat)<=1000000000000000,-1000000000000000<=F (a.toNat*13+b.toNat)/\F (a.toNat*13+b.toNat)<=1000000000000000],.agg [i (-(F (b.toNat*13+a.toNat))),i (F (a.toNat*13+b.toNat))])
 |_=>none
theorem lD(F:Nat->Int)(a b:Int)(VT:0<=a/\a<=12)(UI:0<=b/\b<=12)(HR: -1000000000000000<=F (b.toNat*13+a.toNat)/\F (b.toNat*13+a.toNat)<=1000000000000000)(F1: -1000000000000000<=F (a.toNat*13+b.toNat)/\F (a.toNat*13+b.toNat)<=1000000000000000):VY VP 69 [.roI [] 169 F 0,i a,i b] (.agg [i (-(F (b.toNat*13+a.toNat))),i (F (a.toNat*13+b.toNat))]):=by
 refine U2 (L:=[]) (VL.cons Xj8 (VL.cons Ws5 (VL.nil _))) VZ Tryz.func69 (UV Tryz.f69) U3 (t:=need [(0:Int)<=a/\a<=12,(0:Int)<=b/\b<=12,(-1000000000000000:Int)<=F (Int.toNat b*13+Int.toNat a)/\F (Int.toNat b*13+Int.toNat a)<=1000000000000000] (need [(0:Int)<=a/\a<=12,(0:Int)<=b/\b<=12,(-1000000000000000:Int)<=F (Int.toNat a*13+Int.toNat b)/\F (Int.toNat a*13+Int.toNat b)<=1000000000000000] (leaf (RV.agg [RV.x (.int .i64 (-F (Int.toNat b*13+Int.toNat a))),RV.x (.int .i64 (F (Int.toNat a*13+Int.toNat b)))])))) VU ?_;exact V0
theorem r8:VQ VP 69 M2:=by
 refine ⟨(UK Tryz.func69),?_⟩;intro avs ns res h hn;unfold M2 at h;split at h
 ·cases h;exact lD _ _ _ (hn _ VW) (hn _ VW) (hn _ VW) (hn _ VW)
 ·cases h
theorem Xi3{N:Nat}{lo hi:Nat->Int}{m:Nat->Nat}{r v:Nat->Nat->Int}(h:bOK N lo hi m r v)(x y:Nat): -1000000000000000<=PE N lo hi m r v x y/\PE N lo hi m r v x y<=1000000000000000:=by
 have:=Wy2 (c:=12) (SQ h (HD m N) (Nat.le_refl _)) 13 x y;rw [show (8001:Int)*6^13=104498612822016 by decide] at this
 unfold PE r0M;omega
section
variable (N:Nat)(lo hi:Nat->Int)(m:Nat->Nat)(r v:Nat->Nat->Int)
def boE:Int:=if xE N lo hi m r v=true then 0 else 9
def boN:Nat:=if xE N lo hi m r v=true then 3 else 0
def boL(k:Nat):Int:= -(PE N lo hi m r v 0 (1+k))
def boH(k:Nat):Int:=PE N lo hi m r v (1+k) 0
abbrev QA:AV:=AV.x (.slice none 0 0)
def sU:St:={σ:=[agg [lst 2 3 λk=>[iI (oL k),iI (oH k)],iI 1,Q1 N lo hi m r v],ptr 0 0,QA,iI 0,QE,iI 9]++HI 12 [iI (↑(3:Nat):Int)]++HI 12 [],m:=[(901,GO.row 68 2 0 λx=>[]),(0,GO.cells 103 [lst 2 3 λk=>[iI (oL k),iI (oH k)],iI 1,Q1 N lo hi m r v])],nx:=902}
noncomputable def Qs4:Code:=U9 (VS (U8 Tryz.f35) 0)
def vF(k:Nat):St:={σ:=H4 [(19,i k),(6,.row 901),(4,.roI [] 169 (G4 (PE N lo hi m r v)) 0),(5,i 0)] (sU N lo hi m r v).σ,m:=[(901,.row 68 2 k (λk=>[i (boL N lo hi m r v k),i (boH N lo hi m r v k)])),(0,.cells 103 [ofs,i 1,bds N lo hi m r v])],nx:=902}
def PO(k:Nat):G6->Option St
 | .exit 0=>some {σ:=H4 [(19,i 3),(6,.row 901),(4,.roI [] 169 (G4 (PE N lo hi m r v)) 0),(5,i 0)] (sU N lo hi m r v).σ,m:=[(901,.row 68 2 3 (λk=>[i (boL N lo hi m r v k),i (boH N lo hi m r v k)])),(0,.cells 103 [ofs,i 1,bds N lo hi m r v])],nx:=902}
 |_=>none
def Wu8:CT:= .leaf (.exit 0,(PO N lo hi m r v 0 (.exit 0)).getD (sU N lo hi m r v))
def mD:UG:=GK [(.slot 6,901,68,2)] (HF (vF N lo hi m r v (0)) (Wu8 N lo hi m r v))
abbrev KS:Prop:=(1:Int)=1
theorem Ji3(VT:bV N lo hi m r v):G5 VP (.loop Qs4) (mD N lo hi m r v):=by
 refine US [(.slot 6,901,68,2)] (L:=[]) (VL.cons RI (VL.cons r8 (VL.nil _))) (VX.ofC (VR.nil _) (VO.nil _) (UC.cons (IJ N lo hi m r v VT) (UC.nil _))) VZ U3 (X:=Nat) (vF N lo hi m r v) (λk=>k<=3) (λk=>3-k) (PO N lo hi m r v) (x0:=0) VW ?_ ?_ ?_
 ·rintro k;kernel_rfl
 ·rintro k y E h;unfold PO at h;split at h
  ·cases h;kernel_rfl
  ·cases h
 ·rintro Q hQ k hx;refine ⟨(k+1),?_⟩;(with_reducible refine D6 (t:=let z0:=PE N lo hi m r v;let z1:=(U0 (agg [lst 2 3 λk=>[iI (oL k),iI (oH k)],iI 1,Q1 N lo hi m r v]));let z2:=(G4 (z0) (((1:Int)+(k:Int)).toNat*13+(0:Int).toNat));(branch (decide ((k:Int)<(↑(3:Nat):Int))) (need [(0:Int)<=(k:Int)/\(k:Int)<=1000] (need [(0:Int)<=1+(k:Int)/\(1:Int)+(k:Int)<=12,(0:Int)<=0/\(0:Int)<=12,(-1000000000000000:Int)<=G4 (z0) (0+((1:Int)+(k:Int)).toNat)/\G4 (z0) (0+((1:Int)+(k:Int)).toNat)<=1000000000000000,(-1000000000000000:Int)<=G4 (z0) (((1:Int)+(k:Int)).toNat*13+(0:Int).toNat)/\G4 (z0) (((1:Int)+(k:Int)).toNat*13+(0:Int).toNat)<=1000000000000000] (need [(k+1)*16<=140737488355328,RU 1 (U6 2 [iI (-G4 (z0) (0+((1:Int)+(k:Int)).toNat)),iI z2])] (need [VM ((k:Int)+1)] (need [z1,QL,QA=QA,QT,U0 (KD N lo hi m r v),QT,WK,U0 (↑(3:Nat):Int),(k:Int)+1=(↑(k+1):Int),k+1=k+1,GV (k+1) (GI k (λk=>[iI (boL N lo hi m r v k),iI (boH N lo hi m r v k)]) (U6 2 [iI (-G4 (z0) (0+((1:Int)+(k:Int)).toNat)),iI z2])) (λi=>[iI (boL N lo hi m r v i),iI (boH N lo hi m r v i)]),U0 (lst 2 3 λk=>[iI (oL k),iI (oH k)]),KS,WX N lo hi m r v] (leaf G6.normal)))))) (need [z1,QL,QA=QA,QT,U0 (KD N lo hi m r v),QT,WK,U0 (↑(3:Nat):Int),(k:Int)=3,k=3,∀(i:Nat),i<3->[iI (boL N lo hi m r v i),iI (boH N lo hi m r v i)]=[iI (boL N lo hi m r v i),iI (boH N lo hi m r v i)],U0 (lst 2 3 λk=>[iI (oL k),iI (oH k)]),KS,WX N lo hi m r v] (leaf (G6.exit 0))))) VU ?_)
  simp only [Wu8,PO,VN.sat,GS] at hQ;simp only [VN.sat,UB,UY,GL,UE,VM,UJ,H6,FO,FT,RH,GJ,PO]
  have hb:=λx y=>Xi3 VT.1 x y
  have e1:(1+(k:Int)).toNat=1+k:=VK;have g1:k<3->G4 (PE N lo hi m r v) (0*13+(1+k))=PE N lo hi m r v 0 (1+k):=λ_=>kW _ VK VK
  have g2:k<3->G4 (PE N lo hi m r v) ((1+k)*13+0)=PE N lo hi m r v (1+k) 0:=λ_=>kW _ VK VK
  have b1:=hb 0 (1+k);have b2:=hb (1+k) 0;refine ⟨λh=>?_,λh=>?_⟩
  ·have hk:k<3:=VK;have f1:=g1 hk;have f2:=g2 hk;rw [e1];simp only [Int.toNat_zero,f1,f2]
   (with_reducible repeat' first|apply And.intro|intro _)
   all_goals first|exact True.intro|omega|rfl|exact FQ (by assumption) (by simp [AV.one,Value.oneCell'])|exact Zm7 rfl rfl (by assumption)
  ·obtain rfl:k=3:=VK;exact YZ
abbrev J5:Value:=Value.slice none 0 0
abbrev Y7:Value:=Value.pointer none
theorem k8(VT:bV N lo hi m r v):VY VP 35 [.agg [ofs,i 1,bds N lo hi m r v]] (.tup [.lst 2 (boN N lo hi m r v) (λk=>[i (boL N lo hi m r v k),i (boH N lo hi m r v k)]),i (boE N lo hi m r v)]):=by
 refine GB (L:=[mD N lo hi m r v]) (VL.cons RI (VL.cons r8 (VL.nil _))) (VX.ofC (VR.nil _) (VO.nil _) (UC.cons (IJ N lo hi m r v VT) (UC.nil _))) VZ Tryz.func35 (UV Tryz.f35) (G7 (lpE (b:= .loop Qs4) VU<|(Ji3 N lo hi m r v VT).N)) (t:=let z0:=([lst 2 3 λk=>[iI (oL k),iI (oH k)],iI 1,Q1 N lo hi m r v]);let z1:=(leaf (RV.tup [RV.lst 2 3 λk=>[iI (boL N lo hi m r v k),iI (boH N lo hi m r v k)],RV.x (X7)]));(need [U0 ([agg z0,AV.lit true])] (branch (xE N lo hi m r v) (branch ((0:Int) != 0) (leaf (RV.tup [RV.x (J5),RV.x (X7)])) (need [U0 (agg z0),QL,QA=QA,QT,U0 (KD N lo hi m r v),QT,WK,U0 (↑(3:Nat):Int),(0:Int)=(↑(0:Nat):Int),0=0,∀(i:Nat),i<0->[]=[iI (boL N lo hi m r v i),iI (boH N lo hi m r v i)],U0 (lst 2 3 λk=>[iI (oL k),iI (oH k)]),KS,WX N lo hi m r v] z1)) (branch ((9:Int) != 0) (leaf (RV.tup [RV.x (J5),RV.x (.int .i64 (9:Int))])) (need [U0 (agg z0),QL,QA=QA,QT,AV.x (Y7)=roI [] 169 (λk=>G4 (PE N lo hi m r v) k) 0,(9:Int)=0,WK,U0 (↑(3:Nat):Int),(0:Int)=(↑(0:Nat):Int),0=0,∀(i:Nat),i<0->[]=[iI (boL N lo hi m r v i),iI (boH N lo hi m r v i)],U0 (lst 2 3 λk=>[iI (oL k),iI (oH k)]),KS,WX N lo hi m r v] z1))))) VU ?_
 simp only [VN.sat,UB,UY,GL,UE,UJ];refine ⟨λhok=>⟨λh=>by simp at h,λ_=>?_⟩,λhno=>⟨λ_=>?_,λh=>by simp at h⟩⟩
 ·unfold boN boE;rw [if_pos hok,if_pos hok]
  (with_reducible repeat' first|apply And.intro|intro _)
  all_goals first|exact True.intro|omega|rfl|(rename_i hm;simp only [GN,DU,or_false] at hm;rcases hm with rfl|rfl<;>exact True.intro)
 ·unfold boN boE;rw [if_neg (by simp [hno]),if_neg (by simp [hno])]
  exact ⟨⟨True.intro,rfl⟩,rfl⟩
def sF:UZ:=λl=>some ([l=[.agg [ofs,i 1,bds N lo hi m r v]]],.tup [.lst 2 (boN N lo hi m r v) (λk=>[i (boL N lo hi m r v k),i (boH N lo hi m r v k)]),i (boE N lo hi m r v)])
theorem aE(VT:bV N lo hi m r v):VQ VP 35 (sF N lo hi m r v):=by
 refine ⟨(UK Tryz.func35),?_⟩;intro avs ns res h hn;cases h;have e:=hn _ GF;subst e;exact k8 N lo hi m r v VT
end
def OV:UZ
 |[.x (.int .i64 n),.x (.int .i64 lo),.x (.int .i64 hi)]=>some ([],bl (bt lo n hi))
 |_=>none
theorem nH(n lo hi:Int):VY VP 27 [i n,i lo,i hi] (bl (bt lo n hi)):=by
 refine GW Tryz.func27 (t:=branch (decide (lo<=n)) (leaf (RV.x (.bool (decide (n<=hi))))) (leaf (RV.x (WQ)))) VU ?_;exact VA
theorem xX:VQ VP 27 OV:=by
 refine ⟨(UK Tryz.func27),?_⟩;intro avs ns res h hn;unfold OV at h;split at h
 ·cases h;exact nH _ _ _
 ·cases h
def Wv0:UZ
 |[.x (.int .i64 n)]=>some ([],bl (bt 0 n 100))
 |_=>none
theorem Xd5(n:Int):VY VP 28 [i n] (bl (bt 0 n 100)):=by
 refine U2 (L:=[]) (VL.cons xX (VL.nil _)) VZ Tryz.func28 (UV Tryz.f28) U3 (t:=leaf (RV.x (.bool (bt (0:Int) n (100:Int))))) VU ?_;exact V0
theorem rU:VQ VP 28 Wv0:=by
 refine ⟨(UK Tryz.func28),?_⟩;intro avs ns res h hn;unfold Wv0 at h;split at h
 ·cases h;exact Xd5 _
 ·cases h
def IW:UZ:=kD
theorem Qk0(a b:Int):VY VP 54 [.lst 1 2 (λk=>[i (if k=0 then a else b)])] (i (min a b)):=by
 refine U2 (L:=[]) (VL.cons SJ (VL.nil _)) VZ Tryz.func54 (UV Tryz.f54) U3 (t:=leaf (RV.x (.int .i64 (min (if 0=0 then a else b) (if 1=0 then a else b))))) VU ?_
 simp [VN.sat,UY,UE]
theorem PM:VQ VP 54 IW:=by
 refine ⟨(UK Tryz.func54),?_⟩;intro avs ns res h hn;unfold IW kD at h;split at h
 ·rename_i f;split at h
  ·rename_i a b h0 h1;cases h;refine (Qk0 a b).same (.cons (.lst 1 2 _ _ ?_) .nil);intro k hk;rcases (show k=0\/k=1 by omega) with rfl|rfl
   ·exact h0
   ·exact h1
  ·cases h
 ·cases h
def kE:UZ:=dT
theorem SR(a b:Int):VY VP 55 [.lst 1 2 (λk=>[i (if k=0 then a else b)])] (i (max a b)):=by
 refine U2 (L:=[]) (VL.cons tB (VL.nil _)) VZ Tryz.func55 (UV Tryz.f55) U3 (t:=leaf (RV.x (.int .i64 (max (if 0=0 then a else b) (if 1=0 then a else b))))) VU ?_
 simp [VN.sat,UY,UE]
theorem DY:VQ VP 55 kE:=by
 refine ⟨(UK Tryz.func55),?_⟩;intro avs ns res h hn;unfold kE dT at h;split at h
 ·rename_i f;split at h
  ·rename_i a b h0 h1;cases h;refine (SR a b).same (.cons (.lst 1 2 _ _ ?_) .nil);intro k hk;rcases (show k=0\/k=1 by omega) with rfl|rfl
   ·exact h0
   ·exact h1
  ·cases h
 ·cases h
def saB(f t q lo hi:Int):Bool:=bt 0 f 3&&bt 0 t 3&&(f != t)&&bt 1 q 1000&&bt 0 lo 100&&bt 0 hi 100&&decide (lo<=hi)
abbrev sls(n:Nat)(f t q lo hi:Nat->Int):AV:= .lst 5 n (λk=>[i (f k),i (t k),i (q k),i (lo k),i (hi k)])
def MQ(d:Int)(n:Nat):Bool:=Xk9 (d / 2^n) 1==1
theorem Xc3{f t q lo hi:Int}:saB f t q lo hi=true↔(0<=f/\f<=3)/\(0<=t/\t<=3)/\f≠t/\(1<=q/\q<=1000)/\(0<=lo/\lo<=100)/\(0<=hi/\hi<=100)/\lo<=hi:=by
 simp [saB,bt_iff,and_assoc]
theorem bE{q:Nat}(h:q<2^40):IntKind.i64.wrap (q:Int)=q:=by
 have e:IntKind.i64.wrap (q:Int)=if (true&&decide ((q:Int)%2^64>=2^63))=true then (q:Int)%2^64-2^64 else (q:Int)%2^64:=rfl
 have e2:(q:Int)%2^64=q:=Int.emod_eq_of_lt VK VK;rw [e,e2,if_neg];rw [Bool.true_and,kC];omega
theorem pP{z:Nat}(hz:z<8192):(BitVec.ofInt 64 (z:Int)).toNat=z:=by
 rw [BitVec.toNat_ofInt];omega
theorem Xe1{x y:Nat}(hx:x<8192)(hy:y<8192):orI x y=((x ||| y:Nat):Int):=by
 unfold orI;rw [BitVec.toNat_or,pP hx,pP hy];have hlt:x ||| y<2^13:=Nat.or_lt_two_pow VK VK
 exact bE VK
theorem Wt8{x:Nat}(hx:x<8192):Xk9 x 1=((x%2:Nat):Int):=by
 unfold Xk9;rw [BitVec.toNat_and,pP hx,show (BitVec.ofInt 64 1).toNat=1 from rfl,Nat.and_one_is_mod];exact bE VK
theorem Zl8(d n:Nat):((d:Int) / 2^n)=((d / 2^n:Nat):Int):=by
 rw [Int.natCast_ediv,Int.natCast_pow];rfl
theorem Wn4{d n:Nat}(hd:d<8192):MQ d n=d.testBit n:=by
 unfold MQ;rw [Zl8,Wt8 (Nat.lt_of_le_of_lt (Nat.div_le_self _ _) hd),Nat.testBit_eq_decide_div_mod_eq,Bool.eq_iff_iff,beq_iff_eq,kC];omega
def pZ:UZ
 |[.x (.int .i64 d),.x (.int .i64 n)]=>some ([0<=n/\n<=64],bl (MQ d n.toNat))
 |_=>none
theorem Xd4(d n:Int)(VT:0<=n/\n<=64):VY VP 81 [i d,i n] (bl (MQ d n.toNat)):=by
 refine GW Tryz.func81 (t:=need [(0:Int)<=n/\n<=64] (leaf (RV.x (.bool (IntKind.wrap IntKind.i64 (↑(BitVec.toNat (BitVec.ofInt 64 (d / (2:Int)^Int.toNat n) &&& BitVec.ofInt 64 (1:Int))):Int)==1))))) VU ?_;exact V0
theorem rT:VQ VP 81 pZ:=by
 refine ⟨(UK Tryz.func81),?_⟩;intro avs ns res h hn;unfold pZ at h;split at h
 ·cases h;exact Xd4 _ _ (hn _ VW)
 ·cases h
def Qe2:UZ
 |[.agg [.x (.int .i64 4),.x (.int .i64 10),.lst 5 n f],.agg [.x (.int .i64 a),.x (.int .i64 b),.x (.int .i64 c),.x (.int .i64 lo),.x (.int .i64 hi)]]=>some ([],bl (saB a b c lo hi))
 |_=>none
theorem Wa8(f:Nat->List AV)(n:Nat)(a b c lo hi:Int):VY VP 77 [.agg [i 4,i 10,.lst 5 n f],.agg [i a,i b,i c,i lo,i hi]] (bl (saB a b c lo hi)):=by
 refine U2 (L:=[]) (VL.cons xX (VL.cons rU (VL.nil _))) VZ Tryz.func77 (UV Tryz.f77) U3 (t:=need [VM ((4:Int)-1)] (branch (bt (0:Int) a ((4:Int)-1)) (need [VM ((4:Int)-1)] (branch (bt (0:Int) b ((4:Int)-1)) (branch (a != b) (branch (bt (1:Int) c (1000:Int)) (branch (bt (0:Int) lo (100:Int)) (branch (bt (0:Int) hi (100:Int)) (leaf (RV.x (.bool (decide (lo<=hi))))) (leaf (RV.x (WQ)))) (leaf (RV.x (WQ)))) (leaf (RV.x (WQ)))) (leaf (RV.x (WQ)))) (leaf (RV.x (WQ))))) (leaf (RV.x (WQ))))) VU ?_;simp only [VN.sat,UB,UY,GL,UE,UJ,VM,saB];refine ⟨VK,?_⟩;cases h1:bt 0 a 3<;>cases h2:bt 0 b 3<;>cases h3:(a != b)<;>cases h4:bt 1 c 1000<;>cases h5:bt 0 lo 100<;>cases h6:bt 0 hi 100<;>simp [h1,h2,h3,h4,h5,h6]
theorem Wa7:VQ VP 77 Qe2:=by
 refine ⟨(UK Tryz.func77),?_⟩;intro avs ns res h hn;unfold Qe2 at h;split at h
 ·cases h;exact Wa8 _ _ _ _ _ _ _
 ·cases h
def Qe3:UZ
 |[.agg [.x (.int .i64 a),.x (.int .i64 b),.x (.int .i64 c),.x (.int .i64 lo),.x (.int .i64 hi)],.ro [.fn (.func 77) [.agg [.x (.int .i64 4),.x (.int .i64 10),.lst 5 n f]] []]]=>some ([],bl (!saB a b c lo hi))
 |_=>none
theorem Wb2(f:Nat->List AV)(n:Nat)(a b c lo hi:Int):VY VP 107 [.agg [i a,i b,i c,i lo,i hi],.ro [.fn (.func 77) [.agg [i 4,i 10,.lst 5 n f]] []]] (bl (!saB a b c lo hi)):=by
 refine U2 (L:=[]) (VL.cons Wa7 (VL.nil _)) VZ Tryz.func107 (UV Tryz.f107) U3 (t:=leaf (RV.x (.bool !saB a b c lo hi))) VU ?_;exact V0
theorem cK:VQ VP 107 Qe3:=by
 refine ⟨(UK Tryz.func107),?_⟩;intro avs ns res h hn;unfold Qe3 at h;split at h
 ·cases h;exact Wb2 _ _ _ _ _ _ _
 ·cases h
def nsB(a b c lo hi:Nat->Int)(j:Nat):Bool:= !saB (a j) (b j) (c j) (lo j) (hi j)
def zS(n:Nat)(a b c lo hi:Nat->Int):Bool:=D7 (λj=>saB (a j) (b j) (c j) (lo j) (hi j)) n
abbrev Q0(n:Nat)(a:Nat->Int)(b:Nat->Int)(c:Nat->Int)(lo:Nat->Int)(hi:Nat->Int):AV:=lst 5 n λk=>[iI (a k),iI (b k),iI (c k),iI (lo k),iI (hi k)]
abbrev WL(n1:Nat)(f:Nat->List AV):AV:=AV.fn (Fn.func 107) [] [AV.ro [AV.fn (Fn.func 77) [agg [iI 4,iI 10,lst 5 n1 λa=>f a]] []]]
section
variable (n:Nat)(a b c lo hi:Nat->Int)(f:Nat->List AV)(n1:Nat)
def M6:St:={σ:=[Q0 n a b c lo hi,WL n1 f]++HI 5 [iI (n:Int)]++HI 11 [],m:=[],nx:=4}
noncomputable def Xa7:Code:=U9 (VS (U8 Tryz.f139) 0)
def eJ(k:Nat):St:=(upM [(8,i k)] (M6 n a b c lo hi f n1))
def wY(k:Nat):G6->Option St
 | .ret=>some (upM [(4,i (GX ((nsB a b c lo hi)) n))] (M6 n a b c lo hi f n1))
 | .exit 0=>some (upM [] (M6 n a b c lo hi f n1))
 |_=>none
def Wu4:CT:= .branch (decide (GX ((nsB a b c lo hi)) n<n)) (.leaf (.ret,(wY n a b c lo hi f n1 0 .ret).getD (M6 n a b c lo hi f n1))) (.leaf (.exit 0,(wY n a b c lo hi f n1 0 (.exit 0)).getD (M6 n a b c lo hi f n1)))
def Qh3:UG:=(HF (eJ n a b c lo hi f n1 (0)) (Wu4 n a b c lo hi f n1))
end
abbrev W8(n:Nat)(a:Nat->Int)(b:Nat->Int)(c:Nat->Int)(lo:Nat->Int)(hi:Nat->Int):Prop:=(Q0 n a b c lo hi)=Q0 n a b c lo hi
theorem VE{p:Prop}(h:p:=by
 refine ⟨by have:=Xg8 hk hb;omega,λE hE=>?_⟩
 cases hE;exact hQ.1 (by rw [Xg8 hk hb];exact hk)):p:=h
section
variable (n:Nat)(a b c lo hi:Nat->Int)(f:Nat->List AV)(n1:Nat)
theorem Xb0(VT:n<=100000):G5 VP (.loop Xa7) (Qh3 n a b c lo hi f n1):=by
 refine HH (L:=[]) (VL.cons cK (VL.nil _)) VZ U3 (X:=Nat) (eJ n a b c lo hi f n1) (λk=>k<=n/\ ∀j,j<k->(nsB a b c lo hi) j=false) (λk=>n-k) (wY n a b c lo hi f n1) (x0:=0) ⟨VK,λj hj=>VK⟩ ?_ ?_ ?_
 ·rintro k;kernel_rfl
 ·rintro k y E h;unfold wY at h;split at h
  ·cases h;kernel_rfl
  ·cases h;kernel_rfl
  ·cases h
 ·rintro Q hQ k hx;refine ⟨(k+1),?_⟩;(with_reducible refine D6 (t:=branch (decide ((k:Int)<(n:Int))) (need [UH k n] (branch (!saB (a k) (b k) (c k) (lo k) (hi k)) (need [W8 n a b c lo hi,U0 (WL n1 f),(k:Int)=(↑(GX (nsB a b c lo hi) n):Int),U0 (n:Int)] (leaf G6.ret)) (need [VM ((k:Int)+1)] (need [W8 n a b c lo hi,U0 (WL n1 f),U0 (n:Int),(k:Int)+1=(↑(k+1):Int)] (leaf G6.normal))))) (need [W8 n a b c lo hi,U0 (WL n1 f),U0 (n:Int)] (leaf (G6.exit 0)))) VU ?_);simp only [Wu4,wY,VN.sat,GS,H6] at hQ;simp only [VN.sat,UB,UJ,H6,VM,wY,FA];have Xg8:k<n->((nsB a b c lo hi)) k=true->GX ((nsB a b c lo hi)) n=k:=λh hb=>zH h hb hx.2
  have PK: ¬k<n->GX ((nsB a b c lo hi)) n=n:=λh=>BW (λj hj=>hx.2 j VK)
  have hgo:((nsB a b c lo hi)) k=false-> ∀j,j<k+1->((nsB a b c lo hi)) j=false:=by
   intro hb j hj;rcases (show j<k\/j=k by omega) with h1|rfl
   ·exact hx.2 j h1
   ·exact hb
  refine ⟨λh=>⟨VK,?_⟩,λh=>?_⟩
  rotate_left
  ·intro E hE;cases hE;exact hQ.2 (by rw [PK VK];omega)
  have hk:k<n:=VK;refine ⟨λhb=>?_,λhb=>?_⟩
  ·exact VE
  ·exact ⟨VK,VK,⟨VK,hgo hb⟩,VK⟩
theorem Zg3(VT:n<=100000):VY VP 139 [sls n a b c lo hi,.fn (.func 107) [] [.ro [.fn (.func 77) [.agg [i 4,i 10,.lst 5 n1 f]] []]]] (i (if GX ((nsB a b c lo hi)) n<n then (GX ((nsB a b c lo hi)) n:Int) else -1)):=by
 refine U2 (L:=[Qh3 n a b c lo hi f n1]) (VL.cons cK (VL.nil _)) VZ Tryz.func139 (UV Tryz.f139) (G7 (lpE (b:= .loop Xa7) VU<|Xb0 n a b c lo hi f n1 VT)) (t:=need [W8 n a b c lo hi,U0 (WL n1 f),U0 (n:Int),(0:Int)=(↑(0:Nat):Int)] (branch (decide (GX (nsB a b c lo hi) n<n)) (leaf (RV.x (.int .i64 (↑(GX (nsB a b c lo hi) n):Int)))) (leaf (RV.x (KI))))) VU ?_
 exact VC
end
def Xs8:UZ
 |[.lst 5 n f,.fn (.func 107) [] [.ro [.fn (.func 77) [.agg [.x (.int .i64 4),.x (.int .i64 10),.lst 5 n1 f1]] []]]]=>some ([UF 5 n f,n<=100000],i (if GX (nsB (col 0 f) (col 1 f) (col 2 f) (col 3 f) (col 4 f)) n<n then (GX (nsB (col 0 f) (col 1 f) (col 2 f) (col 3 f) (col 4 f)) n:Int) else -1))
 |_=>none
theorem Zg2:VQ VP 139 Xs8:=by
 refine ⟨(UK Tryz.func139),?_⟩;intro avs ns res h hn;unfold Xs8 at h;split at h
 ·cases h;have hr:_:=hn _ (GF);have hr1:_:=hn _ (HP _ (GF));exact (Zg3 _ (col 0 _) (col 1 _) (col 2 _) (col 3 _) (col 4 _) _ _ hr1).same (.cons (.lst 5 _ _ _ hr) (.cons (.refl _) .nil))
 ·cases h
theorem Zg5(n:Nat)(a b c lo hi:Nat->Int)(f:Nat->List AV)(n1:Nat)(VT:n<=100000):VY VP 106 [sls n a b c lo hi,.fn (.func 107) [] [.ro [.fn (.func 77) [.agg [i 4,i 10,.lst 5 n1 f]] []]]] (bl (!zS n a b c lo hi)):=by
 refine U2 (L:=[]) (VL.cons Zg2 (VL.nil _)) VZ Tryz.func106 (UV Tryz.f106) U3 (t:=need [UF 5 n λk=>[i (a k),i (b k),i (c k),i (lo k),i (hi k)],n<=100000] (leaf (RV.x (.bool (decide ((if GX (nsB a b c lo hi) n<n then (↑(GX (nsB a b c lo hi) n):Int) else (-1:Int))>=(0:Int))))))) VU ?_
 simp only [VN.sat,UB,UY,UE,UJ];refine ⟨⟨λ_ _=>rfl,VT⟩,?_⟩
 unfold zS;rw [kA];have:=F2 (nsB a b c lo hi) n;have e:(λk=> !(λk=>saB (a k) (b k) (c k) (lo k) (hi k)) k)=nsB a b c lo hi:=rfl
 rw [e];show decide ((if GX (nsB a b c lo hi) n<n then (GX (nsB a b c lo hi) n:Int) else -1)>=0)=_
 split<;>simp<;>omega
def Xs9:UZ
 |[.lst 5 n f,.fn (.func 107) [] [.ro [.fn (.func 77) [.agg [.x (.int .i64 4),.x (.int .i64 10),.lst 5 n1 f1]] []]]]=>some ([UF 5 n f,n<=100000],bl (!zS n (col 0 f) (col 1 f) (col 2 f) (col 3 f) (col 4 f)))
 |_=>none
theorem Zg4:VQ VP 106 Xs9:=by
 refine ⟨(UK Tryz.func106),?_⟩;intro avs ns res h hn;unfold Xs9 at h;split at h
 ·cases h;have hr:_:=hn _ (GF);have hr1:_:=hn _ (HP _ (GF));exact (Zg5 _ (col 0 _) (col 1 _) (col 2 _) (col 3 _) (col 4 _) _ _ hr1).same (.cons (.lst 5 _ _ _ hr) (.cons (.refl _) .nil))
 ·cases h
theorem Xd7(n:Nat)(a b c lo hi:Nat->Int)(f:Nat->List AV)(n1:Nat)(VT:n<=100000):VY VP 78 [sls n a b c lo hi,.fn (.func 77) [.agg [i 4,i 10,.lst 5 n1 f]] []] (bl (zS n a b c lo hi)):=by
 refine U2 (L:=[]) (VL.cons Zg4 (VL.nil _)) VZ Tryz.func78 (UV Tryz.f78) U3 (t:=need [UF 5 n λk=>[i (a k),i (b k),i (c k),i (lo k),i (hi k)],n<=100000] (leaf (RV.x (.bool !!zS n a b c lo hi)))) VU ?_
 simp only [VN.sat,UB,UY,UE,UJ];refine ⟨⟨λ_ _=>rfl,VT⟩,?_⟩
 show (!!zS n a b c lo hi)=_;simp
def Wv1:UZ
 |[.lst 5 n f,.fn (.func 77) [.agg [.x (.int .i64 4),.x (.int .i64 10),.lst 5 n1 f1]] []]=>some ([UF 5 n f,n<=100000],bl (zS n (col 0 f) (col 1 f) (col 2 f) (col 3 f) (col 4 f)))
 |_=>none
theorem Xd6:VQ VP 78 Wv1:=by
 refine ⟨(UK Tryz.func78),?_⟩;intro avs ns res h hn;unfold Wv1 at h;split at h
 ·cases h;have hr:_:=hn _ (GF);have hr1:_:=hn _ (HP _ (GF));exact (Xd7 _ (col 0 _) (col 1 _) (col 2 _) (col 3 _) (col 4 _) _ _ hr1).same (.cons (.lst 5 _ _ _ hr) (.cons (.refl _) .nil))
 ·cases h
theorem NE(n:Nat)(a b c lo hi:Nat->Int)(VT:n<=8):VY VP 48 [.agg [i 4,i 10,sls n a b c lo hi]] (i (if zS n a b c lo hi then 0 else 1)):=by
 refine U2 (L:=[]) (VL.cons Xd6 (VL.cons xX (VL.nil _))) VZ Tryz.func48 (UV Tryz.f48) U3 (t:=branch (decide ((n:Int)>8)) (leaf (RV.x (KK))) (branch (!bt (1:Int) (4:Int) (6:Int)) (leaf (RV.x (JV))) (branch (!bt (0:Int) (10:Int) (1000:Int)) (leaf (RV.x (JV))) (need [UF 5 n λk=>[i (a k),i (b k),i (c k),i (lo k),i (hi k)],n<=100000] (branch (!zS n a b c lo hi) (leaf (RV.x (JV))) (leaf (RV.x (X7)))))))) VU ?_
 simp only [VN.sat,UB,UY,UE,UJ];have h1:(!bt 1 4 6)=false:=by decide
 have h2:(!bt 0 10 1000)=false:=by decide
 rw [h1,h2];refine ⟨λh=>absurd h (by simp;omega),λ_=>⟨λh=>(Bool.noConfusion h),λ_=>⟨λh=>(Bool.noConfusion h),λ_=>⟨⟨λ_ _=>rfl,VK⟩,λh=>?_,λh=>?_⟩⟩⟩⟩
 ·rw [Bool.not_eq_true'] at h;rw [h];rfl
 ·rw [Bool.not_eq_false'] at h;rw [h];rfl
def sg0(k:Nat):Int:=if k=0 then 10 else 0
def sld(F:Nat->Int)(a b c:Int)(k:Nat):Int:=if (k:Int)=b then (if (k:Int)=a then F k-c else F k)+c else if (k:Int)=a then F k-c else F k
abbrev sgs(F:Nat->Int):AV:= .agg [i (F 0),i (F 1),i (F 2),i (F 3),i (F 4),i (F 5)]
def lL:UZ
 |[.agg [.x (.int .i64 4),.x (.int .i64 10),.lst 5 n f]]=>some ([],.agg [i 10,i 0,i 0,i 0,i 0,i 0])
 |_=>none
abbrev Q3:List Int:=[(0:Int),0,0,0,0,0]
theorem Qk2(f:Nat->List AV)(n:Nat):VY VP 80 [.agg [i 4,i 10,.lst 5 n f]] (.agg [i 10,i 0,i 0,i 0,i 0,i 0]):=by
 refine GW Tryz.func80 (t:=let z0:=(UT 4 (UT 0 (10:Int) (BG Q3) 4) (UT 3 (UT 0 (10:Int) (BG Q3) 3) (UT 2 (UT 0 (10:Int) (BG Q3) 2) (UT 1 (UT 0 (10:Int) (BG Q3) 1) (UT 0 (UT 0 (10:Int) (BG Q3) 0) (zZ 0 [(10:Int)] (BG Q3)))))));let z1:=(UT 0 (10:Int) (BG Q3) 5);(need [UH 0 6] (need [1<=6] (need [6<=6] (need [6<=6] (leaf (RV.agg [RV.x (.int .i64 (UT 5 z1 z0 0)),RV.x (.int .i64 (UT 5 z1 z0 1)),RV.x (.int .i64 (UT 5 z1 z0 2)),RV.x (.int .i64 (UT 5 z1 z0 3)),RV.x (.int .i64 (UT 5 z1 z0 4)),RV.x (.int .i64 (UT 5 z1 z0 5))]))))))) VU ?_;exact V0
theorem ND:VQ VP 80 lL:=by
 refine ⟨(UK Tryz.func80),?_⟩;intro avs ns res h hn;unfold lL at h;split at h
 ·cases h;exact Qk2 _ _
 ·cases h
theorem Wa6(F:Nat->Int)(a b c lo hi:Int)(VT: ∀k,k<6-> -1000000<=F k/\F k<=1000000)(UI:0<=a/\a<=3)(HR:0<=b/\b<=3)(F1:a≠b)(BM:1<=c/\c<=1000):VY VP 82 [sgs F,.agg [i a,i b,i c,i lo,i hi]] (sgs (sld F a b c)):=by
 refine GW Tryz.func82 (t:=let z1:=(zZ (Int.toNat a*1+0) [UA [F 0,F 1,F 2,F 3,F 4,F 5] (Int.toNat a*1+0)-c] (UA [F 0,F 1,F 2,F 3,F 4,F 5]));let z0:=(UT 4 (UT (Int.toNat b*1+0) (UT (Int.toNat a*1+0) (UA [F 0,F 1,F 2,F 3,F 4,F 5] (Int.toNat a*1+0)-c) (UA [F 0,F 1,F 2,F 3,F 4,F 5]) (Int.toNat b*1+0)+c) z1 4) (UT 3 (UT (Int.toNat b*1+0) (UT (Int.toNat a*1+0) (UA [F 0,F 1,F 2,F 3,F 4,F 5] (Int.toNat a*1+0)-c) (UA [F 0,F 1,F 2,F 3,F 4,F 5]) (Int.toNat b*1+0)+c) z1 3) (UT 2 (UT (Int.toNat b*1+0) (UT (Int.toNat a*1+0) (UA [F 0,F 1,F 2,F 3,F 4,F 5] (Int.toNat a*1+0)-c) (UA [F 0,F 1,F 2,F 3,F 4,F 5]) (Int.toNat b*1+0)+c) z1 2) (UT 1 (UT (Int.toNat b*1+0) (UT (Int.toNat a*1+0) (UA [F 0,F 1,F 2,F 3,F 4,F 5] (Int.toNat a*1+0)-c) (UA [F 0,F 1,F 2,F 3,F 4,F 5]) (Int.toNat b*1+0)+c) z1 1) (UT 0 (UT (Int.toNat b*1+0) (UT (Int.toNat a*1+0) (UA [F 0,F 1,F 2,F 3,F 4,F 5] (Int.toNat a*1+0)-c) (UA [F 0,F 1,F 2,F 3,F 4,F 5]) (Int.toNat b*1+0)+c) z1 0) (BG Q3))))));let z2:=(UT (Int.toNat b*1+0) (UT (Int.toNat a*1+0) (UA [F 0,F 1,F 2,F 3,F 4,F 5] (Int.toNat a*1+0)-c) (UA [F 0,F 1,F 2,F 3,F 4,F 5]) (Int.toNat b*1+0)+c) z1 5);(need [UH a 6] (need [Int.toNat a*1+0<List.length [F 0,F 1,F 2,F 3,F 4,F 5]] (need [VM (UA [F 0,F 1,F 2,F 3,F 4,F 5] (Int.toNat a*1+0)-c)] (need [UH a 6] (need [Int.toNat a*1+0+List.length [UA [F 0,F 1,F 2,F 3,F 4,F 5] (Int.toNat a*1+0)-c]<=List.length [F 0,F 1,F 2,F 3,F 4,F 5]] (need [UH b 6] (need [Int.toNat b*1+0<List.length [F 0,F 1,F 2,F 3,F 4,F 5]] (need [VM (UT (Int.toNat a*1+0) (UA [F 0,F 1,F 2,F 3,F 4,F 5] (Int.toNat a*1+0)-c) (UA [F 0,F 1,F 2,F 3,F 4,F 5]) (Int.toNat b*1+0)+c)] (need [UH b 6] (need [Int.toNat b*1+0+List.length [UT (Int.toNat a*1+0) (UA [F 0,F 1,F 2,F 3,F 4,F 5] (Int.toNat a*1+0)-c) (UA [F 0,F 1,F 2,F 3,F 4,F 5]) (Int.toNat b*1+0)+c]<=List.length [F 0,F 1,F 2,F 3,F 4,F 5]] (need [6<=List.length [F 0,F 1,F 2,F 3,F 4,F 5]] (need [0+List.length [UT (Int.toNat b*1+0) (UT (Int.toNat a*1+0) (UA [F 0,F 1,F 2,F 3,F 4,F 5] (Int.toNat a*1+0)-c) (UA [F 0,F 1,F 2,F 3,F 4,F 5]) (Int.toNat b*1+0)+c) z1 0,UT (Int.toNat b*1+0) (UT (Int.toNat a*1+0) (UA [F 0,F 1,F 2,F 3,F 4,F 5] (Int.toNat a*1+0)-c) (UA [F 0,F 1,F 2,F 3,F 4,F 5]) (Int.toNat b*1+0)+c) z1 1,UT (Int.toNat b*1+0) (UT (Int.toNat a*1+0) (UA [F 0,F 1,F 2,F 3,F 4,F 5] (Int.toNat a*1+0)-c) (UA [F 0,F 1,F 2,F 3,F 4,F 5]) (Int.toNat b*1+0)+c) z1 2,UT (Int.toNat b*1+0) (UT (Int.toNat a*1+0) (UA [F 0,F 1,F 2,F 3,F 4,F 5] (Int.toNat a*1+0)-c) (UA [F 0,F 1,F 2,F 3,F 4,F 5]) (Int.toNat b*1+0)+c) z1 3,UT (Int.toNat b*1+0) (UT (Int.toNat a*1+0) (UA [F 0,F 1,F 2,F 3,F 4,F 5] (Int.toNat a*1+0)-c) (UA [F 0,F 1,F 2,F 3,F 4,F 5]) (Int.toNat b*1+0)+c) z1 4,UT (Int.toNat b*1+0) (UT (Int.toNat a*1+0) (UA [F 0,F 1,F 2,F 3,F 4,F 5] (Int.toNat a*1+0)-c) (UA [F 0,F 1,F 2,F 3,F 4,F 5]) (Int.toNat b*1+0)+c) z1 5]<=6] (leaf (RV.agg [RV.x (.int .i64 (UT 5 z2 z0 0)),RV.x (.int .i64 (UT 5 z2 z0 1)),RV.x (.int .i64 (UT 5 z2 z0 2)),RV.x (.int .i64 (UT 5 z2 z0 3)),RV.x (.int .i64 (UT 5 z2 z0 4)),RV.x (.int .i64 (UT 5 z2 z0 5))]))))))))))))))) VU ?_;simp only [VN.sat,UB,UY,GL,UE,UJ,VM];obtain ⟨A,rfl⟩: ∃A:Nat,a=A:=⟨a.toNat,VK⟩;obtain ⟨B,rfl⟩: ∃B:Nat,b=B:=⟨b.toNat,VK⟩;have h0:=VT 0 VK;have h1:=VT 1 VK;have h2:=VT 2 VK;have h3:=VT 3 VK
 have h4:=VT 4 VK;have h5:=VT 5 VK;rcases (show A=0\/A=1\/A=2\/A=3 by omega) with rfl|rfl|rfl|rfl<;>rcases (show B=0\/B=1\/B=2\/B=3 by omega) with rfl|rfl|rfl|rfl<;>first|(exfalso;omega)|(simp [GJ,UT,UA,sld];omega)
def Qe1:UZ
 |[.agg [.x (.int .i64 s0),.x (.int .i64 s1),.x (.int .i64 s2),.x (.int .i64 s3),.x (.int .i64 s4),.x (.int .i64 s5)],.agg [.x (.int .i64 a),.x (.int .i64 b),.x (.int .i64 c),.x (.int .i64 lo),.x (.int .i64 hi)]]=>some ([-1000000<=s0/\s0<=1000000,-1000000<=s1/\s1<=1000000,-1000000<=s2/\s2<=1000000,-1000000<=s3/\s3<=1000000,-1000000<=s4/\s4<=1000000,-1000000<=s5/\s5<=1000000,0<=a/\a<=3,0<=b/\b<=3,a≠b,1<=c/\c<=1000],sgs (sld (UA [s0,s1,s2,s3,s4,s5]) a b c))
 |_=>none
def sV(n:Nat)(a b c lo hi:Nat->Int):Prop:=n<=8/\ ∀k,k<n->saB (a k) (b k) (c k) (lo k) (hi k)=true
def stF(a b c:Nat->Int)(d:Int):Nat->Nat->Int
 | 0=>sg0
 |k+1=>if MQ d k then sld (stF a b c d k) (a k) (b k) (c k) else stF a b c d k
theorem cI:VQ VP 82 Qe1:=by
 refine ⟨(UK Tryz.func82),?_⟩;intro avs ns res h hn;unfold Qe1 at h;split at h
 ·cases h;rename_i s0 s1 s2 s3 s4 s5 a b c lo hi;refine Wa6 (UA [s0,s1,s2,s3,s4,s5]) a b c lo hi ?_ (hn _ VW) (hn _ VW) (hn _ VW) (hn _ VW);intro k hk
  match k,hk with
  | 0,_=>exact hn (-1000000<=s0/\s0<=1000000) VW
  | 1,_=>exact hn (-1000000<=s1/\s1<=1000000) VW
  | 2,_=>exact hn (-1000000<=s2/\s2<=1000000) VW
  | 3,_=>exact hn (-1000000<=s3/\s3<=1000000) VW
  | 4,_=>exact hn (-1000000<=s4/\s4<=1000000) VW
  | 5,_=>exact hn (-1000000<=s5/\s5<=1000000) VW
 ·cases h
theorem upd6(F:Nat->Int)(a b c:Int)(q:Nat)(hq:q<6):
  UT 5 (sld (UA [F 0,F 1,F 2,F 3,F 4,F 5]) a b c 5) (UT 4 (sld (UA [F 0,F 1,F 2,F 3,F 4,F 5]) a b c 4) (UT 3 (sld (UA [F 0,F 1,F 2,F 3,F 4,F 5]) a b c 3)
   (UT 2 (sld (UA [F 0,F 1,F 2,F 3,F 4,F 5]) a b c 2) (UT 1 (sld (UA [F 0,F 1,F 2,F 3,F 4,F 5]) a b c 1) (UT 0 (sld (UA [F 0,F 1,F 2,F 3,F 4,F 5]) a b c 0) F))))) q=sld F a b c q:=by
 match q,hq with
 | 0,_=>rfl
 | 1,_=>rfl
 | 2,_=>rfl
 | 3,_=>rfl
 | 4,_=>rfl
 | 5,_=>rfl
theorem Xp6(F:Nat->Int)(x0 x1 x2 x3 x4 x5:Int)(q:Nat)(hq:q<6):
  UT 5 x5 (UT 4 x4 (UT 3 x3 (UT 2 x2 (UT 1 x1 (UT 0 x0 F))))) q=UA [x0,x1,x2,x3,x4,x5] q:=by
 match q,hq with
 | 0,_=>rfl
 | 1,_=>rfl
 | 2,_=>rfl
 | 3,_=>rfl
 | 4,_=>rfl
 | 5,_=>rfl
theorem tA{n:Nat}{a b c lo hi:Nat->Int}(h:sV n a b c lo hi){k:Nat}(hk:k<n):(0<=a k/\a k<=3)/\(0<=b k/\b k<=3)/\a k≠b k/\(1<=c k/\c k<=1000)/\(0<=lo k/\lo k<=100)/\(0<=hi k/\hi k<=100)/\lo k<=hi k:=Xc3.1 (h.2 k hk)
theorem Qy1{n:Nat}{a b c lo hi:Nat->Int}(h:sV n a b c lo hi)(d:Int): ∀k,k<=n-> ∀j,-(1000*k:Int)<=stF a b c d k j/\stF a b c d k j<=10+1000*k
 | 0,_,j=>by
  simp only [stF,sg0];split<;>omega
 |k+1,hk,j=>by
  obtain ⟨_,_,h3,h4,_⟩:=tA h (show k<n by omega)
  have ih:=Qy1 h d k VK j;simp only [stF];split
  ·unfold sld
   repeat' split
   all_goals omega
  ·omega
theorem Zc1{n:Nat}{a b c lo hi:Nat->Int}(h:sV n a b c lo hi)(d:Int){k:Nat}(hk:k<=n)(j:Nat): -1000000<=stF a b c d k j/\stF a b c d k j<=1000000:=by
 have:=Qy1 h d k hk j;have:=h.1;omega
abbrev QQ(n:Nat)(a:Nat->Int)(b:Nat->Int)(c:Nat->Int)(lo:Nat->Int)(hi:Nat->Int)(ea:AV)(la:AV):AV:=AV.ro [iI 4,iI 10,Q0 n a b c lo hi,ea,la]
section
variable (ea la:AV)(n:Nat)(a b c lo hi:Nat->Int)(d:Int)
def Zo8:St:={σ:=[QQ n a b c lo hi ea la,iI d,top,top,ptr 0 0,ptr 6 0]++HI 11 [Q0 n a b c lo hi,iI (n:Int)]++HI 13 [],m:=[(6,GO.ints 137 [] 6 λa=>UT 5 (0:Int) (UT 4 (0:Int) (UT 3 (0:Int) (UT 2 (0:Int) (UT 1 (0:Int) (UT 0 (10:Int) (BG Q3)))))) a),(0,GO.ints 137 [] 6 λa=>(0:Int))],nx:=15}
noncomputable def Jo7:Code:=U9 (VS (U8 Tryz.f53) 0)
def Wf7(k:Nat):St:={σ:=H4 [(6,.top),(7,.top),(19,i k)] (Zo8 ea la n a b c lo hi d).σ,m:=[(6,.ints 137 [] 6 (stF a b c d (k))),(0,.ints 137 [] 6 (λ_=>0))],nx:=15}
def C6(k:Nat):G6->Option St
 | .exit 0=>some {σ:=H4 [(6,.top),(7,.top),(19,i n)] (Zo8 ea la n a b c lo hi d).σ,m:=[(6,.ints 137 [] 6 (stF a b c d (n))),(0,.ints 137 [] 6 (λ_=>0))],nx:=15}
 |_=>none
def Jj5:CT:= .leaf (.exit 0,(C6 ea la n a b c lo hi d 0 (.exit 0)).getD (Zo8 ea la n a b c lo hi d))
def Xt9:UG:=(HF (Wf7 ea la n a b c lo hi d (0)) (Jj5 ea la n a b c lo hi d))
end
abbrev ZP(n:Nat)(a:Nat->Int)(b:Nat->Int)(c:Nat->Int)(lo:Nat->Int)(hi:Nat->Int)(ea:AV)(la:AV):Prop:=QQ n a b c lo hi ea la=QQ n a b c lo hi ea la
section
variable (ea la:AV)(n:Nat)(a b c lo hi:Nat->Int)(d:Int)
theorem Zw9(VT:sV n a b c lo hi)(UI:0<=d/\d<256):G5 VP (.loop Jo7) (Xt9 ea la n a b c lo hi d):=by
 refine HH (L:=[]) (VL.cons rT (VL.cons cI (VL.cons ND (VL.nil _)))) VZ U3 (X:=Nat) (Wf7 ea la n a b c lo hi d) (λk=>k<=n) (λk=>n-k) (C6 ea la n a b c lo hi d) (x0:=0) VK ?_ ?_ ?_
 ·rintro k;kernel_rfl
 ·rintro k y E h;unfold C6 at h;split at h
  ·cases h;kernel_rfl
  ·cases h
 ·rintro Q hQ k hx;refine ⟨(k+1),?_⟩;(with_reducible refine D6 (t:=let z1:=stF a b c d k;let z0:=(UA [z1 0,z1 1,z1 2,z1 3,z1 4,z1 5]);(branch (decide ((k:Int)<(n:Int))) (need [UH k n] (need [(0:Int)<=(k:Int)/\(k:Int)<=64] (branch (MQ d k) (need [6<=6] (need [(-1000000:Int)<=z1 0/\z1 0<=1000000,(-1000000:Int)<=z1 1/\z1 1<=1000000,(-1000000:Int)<=z1 2/\z1 2<=1000000,(-1000000:Int)<=z1 3/\z1 3<=1000000,(-1000000:Int)<=z1 4/\z1 4<=1000000,(-1000000:Int)<=z1 5/\z1 5<=1000000,(0:Int)<=a k/\a k<=3,(0:Int)<=b k/\b k<=3,a k≠b k,(1:Int)<=c k/\c k<=1000] (need [0+List.length [sld z0 (a k) (b k) (c k) 0,sld z0 (a k) (b k) (c k) 1,sld z0 (a k) (b k) (c k) 2,sld z0 (a k) (b k) (c k) 3,sld z0 (a k) (b k) (c k) 4,sld z0 (a k) (b k) (c k) 5]<=6] (need [VM ((k:Int)+1)] (need [ZP n a b c lo hi ea la,d=d,QL,YP,W8 n a b c lo hi,U0 (n:Int),(k:Int)+1=(↑(k+1):Int),6=6,GV 6 (UT 5 (sld z0 (a k) (b k) (c k) 5) (UT 4 (sld z0 (a k) (b k) (c k) 4) (UT 3 (sld z0 (a k) (b k) (c k) 3) (UT 2 (sld z0 (a k) (b k) (c k) 2) (UT 1 (sld z0 (a k) (b k) (c k) 1) (UT 0 (sld z0 (a k) (b k) (c k) 0) (z1))))))) (stF a b c d (k+1)),6=6,∀(k:Nat),k<6->(0:Int)=0] (leaf G6.normal)))))) (need [VM ((k:Int)+1)] (need [ZP n a b c lo hi ea la,d=d,QL,YP,W8 n a b c lo hi,U0 (n:Int),(k:Int)+1=(↑(k+1):Int),6=6,GV 6 z1 (stF a b c d (k+1)),6=6,∀(k:Nat),k<6->(0:Int)=0] (leaf G6.normal)))))) (need [ZP n a b c lo hi ea la,d=d,QL,YP,W8 n a b c lo hi,U0 (n:Int),(k:Int)=(n:Int),6=6,GV 6 z1 (stF a b c d n),6=6,∀(k:Nat),k<6->(0:Int)=0] (leaf (G6.exit 0))))) VU ?_);simp only [Jj5,C6,VN.sat,GS] at hQ;simp only [VN.sat,UB,UY,GL,UE,VM,UJ,H6,FO,FT,RH,GJ,C6]
  have h8:=VT.1;refine ⟨λh=>?_,λh=>?_⟩
  ·have hs:=tA VT (show k<n by omega)
   have hl:=Zc1 VT d (show k<=n by omega)
   cases hb:MQ d k
   ·(with_reducible repeat' first|apply And.intro|intro _)
    all_goals first|exact P6|(first|contradiction|(simp [stF,hb]))
   ·(with_reducible repeat' first|apply And.intro|intro _)
    all_goals first|exact P6|(first|contradiction|exact (hl _).1|exact (hl _).2|(simp only [stF,hb,if_true];exact upd6 _ _ _ _ _ (by assumption)))
  ·obtain rfl:k=n:=VK;exact YZ
theorem nI(VT:sV n a b c lo hi)(UI:0<=d/\d<256):VY VP 53 [.ro [i 4,i 10,sls n a b c lo hi,ea,la],i d] (sgs (stF a b c d n)):=by
 refine U2 (L:=[Xt9 ea la n a b c lo hi d]) (VL.cons rT (VL.cons cI (VL.cons ND (VL.nil _)))) VZ Tryz.func53 (UV Tryz.f53) (G7 (lpE (b:= .loop Jo7) VU<|Zw9 ea la n a b c lo hi d VT UI)) (t:=let z1:=stF a b c d n;let z0:=(UT 4 (z1 4) (UT 3 (z1 3) (UT 2 (z1 2) (UT 1 (z1 1) (UT 0 (z1 0) λx=>(0:Int))))));(need [6<=6] (need [ZP n a b c lo hi ea la,d=d,QL,YP,W8 n a b c lo hi,U0 (n:Int),(0:Int)=(↑(0:Nat):Int),6=6,GV 6 (UT 5 (0:Int) (UT 4 (0:Int) (UT 3 (0:Int) (UT 2 (0:Int) (UT 1 (0:Int) (UT 0 (10:Int) (BG Q3))))))) (stF a b c d 0),6=6,∀(k:Nat),k<6->(0:Int)=0] (need [6<=6] (need [0+List.length [z1 0,z1 1,z1 2,z1 3,z1 4,z1 5]<=6] (leaf (RV.agg [RV.x (.int .i64 (UT 5 (z1 5) z0 0)),RV.x (.int .i64 (UT 5 (z1 5) z0 1)),RV.x (.int .i64 (UT 5 (z1 5) z0 2)),RV.x (.int .i64 (UT 5 (z1 5) z0 3)),RV.x (.int .i64 (UT 5 (z1 5) z0 4)),RV.x (.int .i64 (UT 5 (z1 5) z0 5))]))))))) VU ?_
 simp only [VN.sat,UB,UY,GL,UE,UJ]
 (with_reducible repeat' first|apply And.intro|intro _)
 all_goals first|exact True.intro|omega|with_reducible rfl|rfl|(simp;done)|skip
 rename_i q hq;rw [Xp6 _ _ _ _ _ _ _ q hq]
 match q,hq with
 | 0,_=>rfl
 | 1,_=>rfl
 | 2,_=>rfl
 | 3,_=>rfl
 | 4,_=>rfl
 | 5,_=>rfl
end
section
variable (n:Nat)(a b c lo hi:Nat->Int)
def dX:UZ
 |[.ro [.x (.int .i64 4),.x (.int .i64 10),.lst 5 n1 f1,ea,la],.x (.int .i64 d)]=>some ([lst 5 n1 f1=sls n a b c lo hi,0<=d/\d<256],sgs (stF a b c d n))
 |_=>none
theorem qS(VT:sV n a b c lo hi):VQ VP 53 (dX n a b c lo hi):=by
 refine ⟨(UK Tryz.func53),?_⟩;intro avs ns res h hn;unfold dX at h;split at h
 ·cases h;rename_i n1 f1 ea la d;have e:=hn _ GF;rw [e];exact nI ea la n a b c lo hi d VT (hn _ VW)
 ·cases h
end
theorem uH{n:Nat}(h:n<=8):(1:Int)<=2^n/\(2:Int)^n<=256:=by
 rcases (show n=0\/n=1\/n=2\/n=3\/n=4\/n=5\/n=6\/n=7\/n=8 by omega) with rfl|rfl|rfl|rfl|rfl|rfl|rfl|rfl|rfl<;>decide
def IV:UZ
 |[.ro [.x (.int .i64 4),.x (.int .i64 10),.lst 5 n f,ea,la]]=>some ([n<=8],i (2^n-1))
 |_=>none
theorem Qj8(ea la:AV)(n:Nat)(f:Nat->List AV)(VT:n<=8):VY VP 51 [.ro [i 4,i 10,.lst 5 n f,ea,la]] (i (2^n-1)):=by
 refine GW Tryz.func51 (t:=need [(0:Int)<=(n:Int)/\(n:Int)<=64,VM ((1:Int)*2^n)] (need [VM ((1:Int)*2^n-1)] (leaf (RV.x (.int .i64 ((1:Int)*2^n-1)))))) VU ?_;simp only [VN.sat,UB,UY,GL,UE,UJ,Int.one_mul,VM];have h:=uH VT;omega
theorem LC:VQ VP 51 IV:=by
 refine ⟨(UK Tryz.func51),?_⟩;intro avs ns res h hn;unfold IV at h;split at h
 ·cases h;exact Qj8 _ _ _ _ (hn _ VW)
 ·cases h
def G9(p:Nat->Bool):Nat->Nat
 | 0=>0
 |k+1=>G9 p k+(match p k with|true=>1|false=>0)
def UR(p:Nat->Bool)(n q:Nat):Nat:=GX (λj=>p j&&Nat.beq (G9 p j) q) n
def st6(F:Nat->Int):Nat->Int:=UT 5 (F 5) (UT 4 (F 4) (UT 3 (F 3) (UT 2 (F 2) (UT 1 (F 1) (UT 0 (F 0) (BG [0,0,0,0,0,0]))))))
def quB(n:Nat)(a b c:Nat->Int)(d:Int)(j:Nat):Bool:= !MQ d j&&decide (stF a b c d n (a j).toNat>=c j)
def saV(a b c lo hi:Nat->Int)(j:Nat):List Value:=[.int .i64 j,.agg #[.int .i64 (a j),.int .i64 (b j),.int .i64 (c j),.int .i64 (lo j),.int .i64 (hi j)]]
def quV(n:Nat)(a b c lo hi:Nat->Int)(d:Int)(q:Nat):List Value:=saV a b c lo hi (UR (quB n a b c d) n q)
def quN(n:Nat)(a b c:Nat->Int)(d:Int):Nat:=G9 (quB n a b c d) n
theorem Zc2(F:Nat->Int){q:Nat}(hq:q<6):st6 F q=F q:=by
 unfold st6;rw [Xp6 _ _ _ _ _ _ _ q hq]
 match q,hq with
 | 0,_=>rfl
 | 1,_=>rfl
 | 2,_=>rfl
 | 3,_=>rfl
 | 4,_=>rfl
 | 5,_=>rfl
theorem OG(p:Nat->Bool){b c:Nat}(h:b<=c):G9 p b<=G9 p c:=by
 induction h with
 |refl=>exact Nat.le_refl _
 |step _ ih=>exact Nat.le_trans ih (Nat.le_add_right _ _)
section
variable {p:Nat->Bool}
theorem DA{k:Nat}(h:p k=true):G9 p (k+1)=G9 p k+1:=by
 simp only [G9,h]
theorem FN{k:Nat}(h:p k=false):G9 p (k+1)=G9 p k:=by
 simp only [G9,h,Nat.add_zero]
theorem P7{n k:Nat}(hk:k<n)(h:p k=true):UR p n (G9 p k)=k:=by
 refine zH hk ?_ λj hj=>?_
 ·simp [h]
 ·cases hp:p j
  ·rfl
  ·have h1:=DA hp;have h2:=OG p (show j+1<=k by omega)
   simp only [Bool.true_and];cases hb:Nat.beq (G9 p j) (G9 p k)
   ·rfl
   ·have:=GY hb;omega
end
theorem gL(p:Nat->Bool): ∀k,G9 p k<=k
 | 0=>Nat.le_refl 0
 |k+1=>by
  have:=gL p k;unfold G9;split<;>omega
theorem iZ{p:Nat->Bool}: ∀{k q:Nat},q<G9 p k-> ∃j,j<k/\p j=true/\G9 p j=q
 | 0,q,h=>absurd h (by simp [G9])
 |k+1,q,h=>by
  rcases Nat.lt_or_ge q (G9 p k) with h1|h1
  ·obtain ⟨j,hj,h2⟩:=iZ h1;exact ⟨j,VK,h2⟩
  ·cases hp:p k
   ·rw [FN hp] at h;omega
   ·rw [DA hp] at h;exact ⟨k,VK,hp,VK⟩
theorem u7{p:Nat->Bool}{n q:Nat}(h:q<G9 p n):UR p n q<n/\p (UR p n q)=true:=by
 obtain ⟨j,hj,hp,hc⟩:=iZ h;rw [←hc,P7 hj hp];exact ⟨hj,hp⟩
def A3:UZ
 |[.ro [.x (.int .i64 4),.x (.int .i64 10),.lst 5 n f,ea,la],.x (.int .i64 d)]=>some ([],.fn (.func 108) [] [.ro [.ro [i 4,i 10,.lst 5 n f,ea,la]],.ro [i d]])
 |_=>none
theorem Wa9(ea la:AV)(n:Nat)(f:Nat->List AV)(d:Int):FP VP 79 [.ro [i 4,i 10,.lst 5 n f,ea,la],i d] (.fn (.func 108) [] [.ro [.ro [i 4,i 10,.lst 5 n f,ea,la]],.ro [i d]]):=by
 refine D1 (L:=[]) (VL.nil _) (VX.of (VR.nil _) (VO.nil _)) VZ Tryz.func79 (UV Tryz.f79) G8 (t:=leaf (AV.fn (Fn.func 108) [] [AV.ro [AV.ro [iI 4,iI 10,lst 5 n λa=>f a,ea,la]],AV.ro [iI d]])) VU ?_
 exact rfl
theorem NC:PH VP 79 A3:=by
 refine ⟨(UK Tryz.func79),?_⟩;intro avs ns res h hn;unfold A3 at h;split at h
 ·cases h;exact Wa9 _ _ _ _ _
 ·cases h
section
variable (l:Nat)(ea la:AV)(n:Nat)(a b c lo hi:Nat->Int)(d:Int)
def Wz8:St:={σ:=[AV.fn (Fn.yield l) [] [],AV.ro [QQ n a b c lo hi ea la],AV.ro [iI d],top,ptr 3 0]++HI 9 [Q0 n a b c lo hi,iI (n:Int)]++HI 26 [],m:=[(3,GO.ints 137 [] 6 λa_1=>UT 5 (stF a b c d n 5) (UT 4 (stF a b c d n 4) (UT 3 (stF a b c d n 3) (UT 2 (stF a b c d n 2) (UT 1 (stF a b c d n 1) (UT 0 (stF a b c d n 0) (BG Q3)))))) a_1)],nx:=12,gh:=some 0}
noncomputable def Zs3:Code:=U9 (VS (U8 Tryz.f108) 0)
def TM(k:Nat):St:={σ:=H4 [(4,.roI [] 6 (st6 (stF a b c d n)) 0),(5,.top),(6,.top),(16,i k)] (Wz8 l ea la n a b c lo hi d).σ,m:=[],nx:=12,gh:=some (G9 (quB n a b c d) k) }
def jH(k:Nat):G6->Option St
 | .exit 0=>some {σ:=H4 [(4,.roI [] 6 (st6 (stF a b c d n)) 0),(5,.top),(6,.top),(16,i n)] (Wz8 l ea la n a b c lo hi d).σ,m:=[],nx:=12,gh:=some (quN n a b c d) }
 | .ret=>some {σ:=H4 [(4,.roI [] 6 (st6 (stF a b c d n)) 0),(5,.top),(6,.top),(16,.top)] (Wz8 l ea la n a b c lo hi d).σ,m:=[],nx:=12,gh:=none}
 |_=>none
def Jk5:CT:= .may True (.leaf (.exit 0,(jH l ea la n a b c lo hi d 0 (.exit 0)).getD (Wz8 l ea la n a b c lo hi d))) (.leaf (.ret,(jH l ea la n a b c lo hi d 0 .ret).getD (Wz8 l ea la n a b c lo hi d)))
def Xu9:UG:=GK [(.slot 4,3,137,1)] (HF (TM l ea la n a b c lo hi d (0)) (Jk5 l ea la n a b c lo hi d))
end
abbrev ZT(a:Nat->Int)(b:Nat->Int)(c:Nat->Int)(d:Int)(n:Nat):Prop:=roI [] 6 (λa_1=>st6 (stF a b c d n) a_1) 0=roI [] 6 (λa_1=>st6 (stF a b c d n) a_1) 0
abbrev Y0(d:Int):Prop:=AV.ro [iI d]=AV.ro [iI d]
abbrev YA(n:Nat)(a:Nat->Int)(b:Nat->Int)(c:Nat->Int)(lo:Nat->Int)(hi:Nat->Int)(ea:AV)(la:AV):Prop:=AV.ro [QQ n a b c lo hi ea la]=AV.ro [QQ n a b c lo hi ea la]
theorem Ja0(l:Nat)(ea la:AV)(n:Nat)(a b c lo hi:Nat->Int)(d:Int)(VT:sV n a b c lo hi)(UI:0<=d/\d<256){cx:Cx}(hX:VX VP {Y:=some (l,(quN n a b c d),(quV n a b c lo hi d)) } cx):HJ VP none cx (.loop Zs3) (Xu9 l ea la n a b c lo hi d):=by
 refine FJ [(.slot 4,3,137,1)] (L:=[]) (VL.cons rT (VL.cons (qS n a b c lo hi VT) (VL.nil _))) hX VZ G8 (V:=Nat) (TM l ea la n a b c lo hi d) (λk=>k<=n) (λk=>n-k) (jH l ea la n a b c lo hi d) (x0:=0) VW ?_ ?_ ?_
 ·rintro k;kernel_rfl
 ·rintro k y E h;unfold jH at h;split at h
  ·cases h;kernel_rfl
  ·cases h;kernel_rfl
  ·cases h
 ·rintro Q hQ k hx;refine ⟨(k+1),?_⟩;have e:HW VP [(81,pZ),(53,(dX n a b c lo hi))] {Y:=some (l,(quN n a b c d),(quV n a b c lo hi d)) } [] [(.slot 4,3,137,1)] Zs3 (TM l ea la n a b c lo hi d k) (TM l ea la n a b c lo hi d ((k+1))) (jH l ea la n a b c lo hi d k)=(let z3:=YA n a b c lo hi ea la;let z2:=quB n a b c d;let z0:=(need [VM ((k:Int)+1)] (need [XO l,z3,Y0 d,ZT a b c d n,W8 n a b c lo hi,U0 (n:Int),(k:Int)+1=(↑(k+1):Int),G9 (z2) k=G9 (z2) (k+1)] (leaf G6.normal)));let z1:=(UR (z2) n (G9 (z2) k));(branch (decide ((k:Int)<(n:Int))) (need [UH k n] (need [(0:Int)<=(k:Int)/\(k:Int)<=64] (branch (!MQ d k) (need [UH (a k) 6] (need [(a k).toNat*1+0<6] (branch (decide (st6 (stF a b c d n) ((a k).toNat*1+0)>=c k)) (need [l=l,G9 (z2) k<quN n a b c d,[Value.int IntKind.i64 (k:Int),Value.agg {toList:=[Value.int IntKind.i64 (a k),Value.int IntKind.i64 (b k),Value.int IntKind.i64 (c k),Value.int IntKind.i64 (lo k),Value.int IntKind.i64 (hi k)] }]=[Value.int IntKind.i64 (z1:Int),Value.agg {toList:=[Value.int IntKind.i64 (a z1),Value.int IntKind.i64 (b z1),Value.int IntKind.i64 (c z1),Value.int IntKind.i64 (lo z1),Value.int IntKind.i64 (hi z1)] }]] (VN.may True (need [VM ((k:Int)+1)] (need [XO l,z3,Y0 d,ZT a b c d n,W8 n a b c lo hi,U0 (n:Int),(k:Int)+1=(↑(k+1):Int),G9 (z2) k+1=G9 (z2) (k+1)] (leaf G6.normal))) (need [XO l,z3,Y0 d,ZT a b c d n,W8 n a b c lo hi,U0 (n:Int)] (leaf G6.ret)))) z0))) z0))) (need [XO l,z3,Y0 d,ZT a b c d n,W8 n a b c lo hi,U0 (n:Int),(k:Int)=(n:Int),G9 (z2) k=quN n a b c d] (leaf (G6.exit 0))))):=VU;rw [e];simp only [Jk5,jH,VN.sat,GS] at hQ;have hQ1: ∀E,jH l ea la n a b c lo hi d k (.exit 0)=some E->Q (.exit 0,E):=λE hE=>by cases hE;exact hQ.1 trivial
  have hQ2: ∀E,jH l ea la n a b c lo hi d k .ret=some E->Q (.ret,E):=λE hE=>by cases hE;exact hQ.2
  simp only [VN.sat,UB,UJ,H6,VM,FA];clear e hQ;have h8:=VT.1;have hX:(a k).toNat*1+0=(a k).toNat:=VK;rw [hX];refine ⟨λh=>?_,λh=>?_⟩
  ·have hk:k<n:=VK;have hs:=tA VT hk;have hno:quB n a b c d k=false->G9 (quB n a b c d) k=G9 (quB n a b c d) (k+1):=λh=>(FN h).symm
   rw [Zc2 _ (show (a k).toNat<6 by omega)]
   refine ⟨VK,VK,λh1=>⟨VK,VK,λh2=>?_,λh2=>?_⟩,λh1=>?_⟩
   ·have hq:quB n a b c d k=true:=by
     unfold quB;rw [h1,decide_eq_true h2];rfl
    have hy:=DA hq;have hm:=OG (quB n a b c d) (show k+1<=n by omega)
    rw [P7 hk hq]
    (with_reducible repeat' first|apply And.intro|intro _)
    all_goals first|exact True.intro|(simp only [quN];omega)|omega|rfl|exact hQ1 _ (by assumption)|exact hQ2 _ (by assumption)
   ·have hq:quB n a b c d k=false:=by
     unfold quB;rw [decide_eq_false h2,Bool.and_false]
    have hy:=FN hq;all_goals exact V7
   ·have hq:quB n a b c d k=false:=by
     unfold quB;rw [h1];rfl
    have hy:=FN hq;all_goals exact V7
  ·obtain rfl:k=n:=VK;all_goals exact V7
theorem yW(ea la:AV)(n:Nat)(a b c lo hi:Nat->Int)(d:Int)(VT:sV n a b c lo hi)(UI:0<=d/\d<256):B8 Tryz.prog 108 [.ro [.ro [i 4,i 10,sls n a b c lo hi,ea,la]],.ro [i d]] ((quN n a b c d)) (quV n a b c lo hi d):=by
 refine BJ (L:=λl=>[Xu9 l ea la n a b c lo hi d]) (VL.cons rT (VL.cons (qS n a b c lo hi VT) (VL.nil _))) VZ (UK Tryz.func108) Tryz.func108 (UV Tryz.f108) VU (λl cx hX=>G7 (lpE (b:= .loop Zs3) VU<|Ja0 l ea la n a b c lo hi d VT UI hX)) (t:=λl=>(let z0:=stF a b c d n;(need [W8 n a b c lo hi,(0:Int)<=d/\d<256] (need [0+List.length [z0 0,z0 1,z0 2,z0 3,z0 4,z0 5]<=6] (need [U0 (AV.fn (Fn.yield l) [] []),YA n a b c lo hi ea la,Y0 d,roI [] 6 (λa_1=>UT 5 (z0 5) (UT 4 (z0 4) (UT 3 (z0 3) (UT 2 (z0 2) (UT 1 (z0 1) (UT 0 (z0 0) (BG Q3)))))) a_1) 0=roI [] 6 (λa_1=>st6 (z0) a_1) 0,W8 n a b c lo hi,U0 (n:Int),(0:Int)=(↑(0:Nat):Int),0=G9 (quB n a b c d) 0] (VN.may True (need [U0 (quN n a b c d)] (leaf PUnit.unit)) (leaf PUnit.unit))))))) (λl=>VU) ?_
 intro l;simp only [VN.sat,UB,UY,GL,UE,UJ];exact ⟨UI,VW,⟨rfl,rfl,rfl⟩,λ_=>trivial⟩
noncomputable def Qh5:HZ:=rN Tryz.prog [] {} [] Tryz.f79 (U8 Tryz.f79)
theorem gZ:GC VP 79 Qh5:=
 RL (G:=[]) (X:=WA) (L:=[]) (VL.nil _) (VX.of (VR.nil _) (VO.nil _)) VZ (UK Tryz.func79) Tryz.func79 (UV Tryz.f79) U3
section
variable (n:Nat)
abbrev ZH:AV:=iI ((2:Int)^n-1+1)
abbrev ZU(a:Nat->Int)(b:Nat->Int)(c:Nat->Int)(lo:Nat->Int)(hi:Nat->Int):List AV:=[iI 4,iI 10,Q0 n a b c lo hi]
abbrev KP(a:Nat->Int)(b:Nat->Int)(c:Nat->Int)(lo:Nat->Int)(hi:Nat->Int):List AV:=[iI 4,iI 10,Q0 n a b c lo hi,AV.row 901,AV.row 902]
abbrev Y8:GO:=GO.row 3 1 0 λx=>[]
abbrev YM:GO:=GO.cells 84 [ptr 4 0]
def Zq0(a b c lo hi:Nat->Int):St:={σ:=[agg (ZU n a b c lo hi),ptr 0 0,QE,ptr 5 0]++HI 14 [ZH n]++HI 140 [],m:=[(902,Y8),(901,Y8),(5,YM),(4,GO.cells 174 (KP n a b c lo hi)),(0,GO.cells 42 (ZU n a b c lo hi))],nx:=903}
noncomputable def Jq0:Code:=U9 (VS (U8 Tryz.f49) 0)
def Wh3(a b c lo hi:Nat->Int)(k:Nat):St:={σ:=H4 [(19,i k)] (Zq0 n a b c lo hi).σ,m:=[(902,.row 3 1 (k) (λz=>[i ((λ_=> -1) z)])),(901,.row 3 1 (k) (λz=>[i ((λ_=>101) z)])),(5,.cells 84 [.ptr 4 0]),(4,.cells 174 [i 4,i 10,sls n a b c lo hi,.row 901,.row 902]),(0,.cells 42 [i 4,i 10,sls n a b c lo hi])],nx:=903}
def CH(a b c lo hi:Nat->Int)(k:Nat):G6->Option St
 | .exit 0=>some {σ:=H4 [(19,i (2^n))] (Zq0 n a b c lo hi).σ,m:=[(902,.row 3 1 (2^n) (λz=>[i ((λ_=> -1) z)])),(901,.row 3 1 (2^n) (λz=>[i ((λ_=>101) z)])),(5,.cells 84 [.ptr 4 0]),(4,.cells 174 [i 4,i 10,sls n a b c lo hi,.row 901,.row 902]),(0,.cells 42 [i 4,i 10,sls n a b c lo hi])],nx:=903}
 |_=>none
def Jl3(a b c lo hi:Nat->Int):CT:= .leaf (.exit 0,(CH n a b c lo hi 0 (.exit 0)).getD (Zq0 n a b c lo hi))
abbrev K4:List (Pl×Nat×TypeId×Nat):=[(.cell 4 3,0,0,1),(.cell 4 4,0,0,1),(.cell 4 3,901,3,1),(.cell 4 4,902,3,1)]
def Xv9(a b c lo hi:Nat->Int):UG:=GK K4 (HF (Wh3 n a b c lo hi (0)) (Jl3 n a b c lo hi))
abbrev QH:Prop:=(2:Int)^n-1+1=2^n-1+1
abbrev QP(a:Nat->Int)(b:Nat->Int)(c:Nat->Int)(lo:Nat->Int)(hi:Nat->Int):Prop:=agg (ZU n a b c lo hi)=agg (ZU n a b c lo hi)
abbrev W6:Prop:=(4:Int)=4
abbrev WE:Prop:=(10:Int)=10
abbrev WM:Prop:=AV.row 902=AV.row 902
abbrev ZY:List AV:=[iI 101]
abbrev YN:Nat->List AV:=λz=>[iI (-1:Int)]
theorem Jc2(a b c lo hi:Nat->Int)(VT:sV n a b c lo hi):G5 VP (.loop Jq0) (Xv9 n a b c lo hi):=by
 refine zC K4 (L:=[]) (VL.cons LC (VL.nil _)) VZ U3 (X:=Nat) (Wh3 n a b c lo hi) (λk=>k<=2^n) (λk=>2^n-k) (CH n a b c lo hi) (x0:=0) VW ?_ ?_ ?_
 ·rintro k;kernel_rfl
 ·rintro k y E h;unfold CH at h;split at h
  ·cases h;kernel_rfl
  ·cases h
 ·rintro Q hQ k hx;refine ⟨(k+1),?_⟩;(with_reducible refine D6 (t:=let z0:=(need [VM ((k:Int)+1)] (need [QP n a b c lo hi,QL,QE=QE,ZO,QH n,(k:Int)+1=(↑(k+1):Int),k+1=k+1,GV (k+1) (GI k (YN) (U6 1 [iI (-1:Int)])) (λi=>[iI (-1:Int)]),k+1=k+1,GV (k+1) (GI k (λz=>ZY) (U6 1 ZY)) (λi=>ZY),W9,W6,WE,W8 n a b c lo hi,WK,WM,W6,WE,W8 n a b c lo hi] (leaf G6.normal)));(branch (decide ((k:Int)<2^n-1+1)) (need [(k+1)*8<=140737488355328,∀(i:Nat),i<1-> ∀(a:AV),a∈U6 1 ZY i->AV.one a=true] (need [(k+1)*8<=140737488355328,RU 1 (U6 1 [iI (-1:Int)])] (VN.may True z0 (VN.may True z0 (VN.may True z0 (VN.may True z0 z0)))))) (need [QP n a b c lo hi,QL,QE=QE,ZO,QH n,(k:Int)=2^n,k=2^n,∀(i:Nat),i<2^n->[iI (-1:Int)]=[iI (-1:Int)],k=2^n,∀(i:Nat),i<2^n->ZY=ZY,W9,W6,WE,W8 n a b c lo hi,WK,WM,W6,WE,W8 n a b c lo hi] (leaf (G6.exit 0))))) VU ?_)
  simp only [Jl3,CH,VN.sat,GS] at hQ;simp only [VN.sat,UB,UY,GL,UE,VM,UJ,H6,FO,FT,RH,GJ,CH]
  have h8:=VT.1;have hp:=uH h8;have hpn:((2^n:Nat):Int)=2^n:=VW;refine ⟨λh=>?_,λh=>?_⟩
  ·have hk:k<2^n:=VK
   (with_reducible repeat' first|apply And.intro|intro _)
   all_goals first|exact P6|(first|exact FQ (by assumption) (by simp [AV.one,Value.oneCell'])|exact Pt.catF1 (a:=λ_=>101) (by assumption) rfl|exact Pt.catF1 (a:=λ_=> -1) (by assumption) rfl)
  ·obtain rfl:k=2^n:=VK;exact YZ
end
def eQ(p:Nat->Bool)(n:Nat)(lo hi:Nat->Int)(d:Nat)(E:Nat->Int):Nat->Nat->Int
 | 0=>E
 |q+1=>if max (eQ p n lo hi d E q d) (lo (UR p n q))<=hi (UR p n q) then UT (d ||| 2^UR p n q) (min (eQ p n lo hi d E q (d ||| 2^UR p n q)) (max (eQ p n lo hi d E q d) (lo (UR p n q)))) (eQ p n lo hi d E q) else eQ p n lo hi d E q
def eD(n:Nat)(a b c lo hi:Nat->Int):Nat->Nat->Int
 | 0=>λk=>if k=0 then 0 else 101
 |d+1=>if eD n a b c lo hi d d=101 then eD n a b c lo hi d else eQ (quB n a b c d) n lo hi d (eD n a b c lo hi d) (quN n a b c d)
section
variable (n:Nat)(a b c lo hi:Nat->Int)
noncomputable def Zp9:St:={σ:=[agg (ZU n a b c lo hi),ptr 0 0,QE,ptr 5 0]++HI 14 [ZH n,iI ((2:Int)^n)]++HI 27 [ZH n]++HI 111 [],m:=[(902,GO.row 3 1 (2^n) λz=>[iI (-1:Int)]),(901,GO.row 3 1 (2^n) λk=>iI (if decide (k=(0:Int).toNat)=true then (0:Int) else (101:Int))::Bool.rec ([]) ([]) (decide (k=(0:Int).toNat))),(5,YM),(4,GO.keep 174 (KP n a b c lo hi)),(0,GO.cells 42 (ZU n a b c lo hi))],nx:=913}
noncomputable def b8:Code:=U9 (VS (U8 Tryz.f49) 1)
noncomputable def Wh2(d:Nat):St:={σ:=H4 [(4,.top),(48,i d),(5,.top),(6,.top),(7,.top),(8,.top)] (Zp9 n a b c lo hi).σ,m:=[(902,.row 3 1 (2^n) (λz=>[i ((λ_=> -1) z)])),(901,.row 3 1 (2^n) (λz=>[i ((eD n a b c lo hi (d)) z)])),(5,.cells 84 [.ptr 4 0]),(4,.keep 174 [i 4,i 10,sls n a b c lo hi,.row 901,.row 902]),(0,.cells 42 [i 4,i 10,sls n a b c lo hi])],nx:=903}
noncomputable def CG(d:Nat):G6->Option St
 | .exit 2=>some {σ:=H4 [(4,.top),(48,i (2^n)),(5,.top),(6,.top),(7,.top),(8,.top)] (Zp9 n a b c lo hi).σ,m:=[(902,.row 3 1 (2^n) (λz=>[i ((λ_=> -1) z)])),(901,.row 3 1 (2^n) (λz=>[i ((eD n a b c lo hi (2^n)) z)])),(5,.cells 84 [.ptr 4 0]),(4,.keep 174 [i 4,i 10,sls n a b c lo hi,.row 901,.row 902]),(0,.cells 42 [i 4,i 10,sls n a b c lo hi])],nx:=903}
 |_=>none
noncomputable def Jl2:CT:= .leaf (.exit 2,(CG n a b c lo hi 0 (.exit 2)).getD (Zp9 n a b c lo hi))
noncomputable def Xv8:UG:=GK [(.cell 5 0,0,0,0)] (HF (Wh2 n a b c lo hi (0)) (Jl2 n a b c lo hi))
end
theorem BX{n d:Nat}(h8:n<=8)(h:d<2^n):(0:Int)<=d/\(d:Int)<256:=by
 have hp:=uH h8;have hpn:((2^n:Nat):Int)=2^n:=VW;omega
theorem tK{n d s:Nat}(h:d<2^n)(hs:s<n):d ||| 2^s<2^n:=Nat.or_lt_two_pow h (Nat.pow_lt_pow_right (by decide) hs)
theorem Wb6{n d s:Nat}(h8:n<=8)(h:d<2^n)(hs:s<n):IntKind.i64.wrap ((BitVec.ofInt 64 (d:Int) ||| BitVec.ofInt 64 (1*2^s)).toNat:Int)=((d ||| 2^s:Nat):Int):=by
 have h2:=BX h8 h;have h3:2^s<2^n:=Nat.pow_lt_pow_right (by decide) hs
 have h4:=BX h8 h3;have e:(1*2^s:Int)=((2^s:Nat):Int):=by rw [Int.one_mul];simp
 rw [e];exact Xe1 VK VK
theorem uD{F:Nat->Int}{v:Int}{q j:Nat}:HB (decide (j=q)) [i v] [i (F j)]=[i (UT q v F j)]:=by
 unfold UT;by_cases h:j=q
 ·rw [decide_eq_true h,if_pos h];rfl
 ·rw [decide_eq_false h,if_neg h];rfl
abbrev ZZ:AV:=AV.fn (Fn.func 108) [] [ptr 917 0,ptr 918 0]
section
variable (n:Nat)(a b c lo hi:Nat->Int)(d:Nat)
def Jn9:St:={σ:=[agg (ZU n a b c lo hi),ptr 0 0,QE,ptr 5 0,ptr 905 0]++HI 13 [ZH n,iI ((2:Int)^n)]++HI 27 [ZH n,iI (d:Int)]++HI 12 [ZZ]++HI 97 [],m:=[(918,GO.keep 133 [iI (d:Int)]),(917,GO.keep 84 [ptr 4 0]),(905,GO.cells 133 [iI (d:Int)]),(902,GO.row 3 1 (2^n) λz=>[iI (-1:Int)]),(901,GO.row 3 1 (2^n) λz=>[iI (eD n a b c lo hi d z)]),(5,YM),(4,GO.keep 174 (KP n a b c lo hi)),(0,GO.cells 42 (ZU n a b c lo hi))],nx:=922}
noncomputable def Js2:Code:=SM (VS b8 0)
noncomputable def Jp9:Code:=SL (VS b8 0)
def oJ(k:Nat):St:={σ:=H4 [(5,.top),(6,.top),(7,.top),(8,.top)] (Jn9 n a b c lo hi d).σ,m:=[(918,.keep 133 [i d]),(917,.keep 84 [.ptr 4 0]),(905,.cells 133 [i d]),(902,.row 3 1 (2^n) (λz=>[i ((λ_=> -1) z)])),(901,.row 3 1 (2^n) (λz=>[i ((eQ (quB n a b c d) n lo hi d (eD n a b c lo hi d) (k)) z)])),(5,.cells 84 [.ptr 4 0]),(4,.keep 174 [i 4,i 10,sls n a b c lo hi,.row 901,.row 902]),(0,.cells 42 [i 4,i 10,sls n a b c lo hi])],nx:=922}
def nP(k:Nat):G6->Option St
 | .normal=>some {σ:=H4 [(5,.top),(6,.top),(7,.top),(8,.top)] (Jn9 n a b c lo hi d).σ,m:=[(918,.keep 133 [i d]),(917,.keep 84 [.ptr 4 0]),(905,.cells 133 [i d]),(902,.row 3 1 (2^n) (λz=>[i ((λ_=> -1) z)])),(901,.row 3 1 (2^n) (λz=>[i ((eQ (quB n a b c d) n lo hi d (eD n a b c lo hi d) ((quN n a b c d))) z)])),(5,.cells 84 [.ptr 4 0]),(4,.keep 174 [i 4,i 10,sls n a b c lo hi,.row 901,.row 902]),(0,.cells 42 [i 4,i 10,sls n a b c lo hi])],nx:=922}
 |_=>none
def T_kc:CT:= .leaf (.normal,oJ n a b c lo hi d (quN n a b c d))
def Xv7:UG:=GK [(.slot 61,0,0,0)] (HF (oJ n a b c lo hi d (0)) (T_kc n a b c lo hi d))
end
abbrev XY(n:Nat):Prop:=(2:Int)^n=2^n
theorem Jc0(n:Nat)(a b c lo hi:Nat->Int)(d:Nat)(VT:sV n a b c lo hi)(UI:d<2^n):HQ VP (.rangeFunc (rfF (VS b8 0)) (jD (VS b8 0)) Js2 Jp9) (Xv7 n a b c lo hi d):=by
 refine yF [(.slot 61,0,0,0)] (L:=[]) (VL.cons DY (VL.cons PM (VL.nil _))) (VX.of (VR.nil _) (VO.nil _)) VZ U3 (V:=Nat) (oJ n a b c lo hi d) (λk=>k<=(quN n a b c d)) (λk=>k) (nP n a b c lo hi d) (x0:=0) VW rfl ?_ ?_ ?_ ?_ (g:=108) (caps:=[.ro [.ro [i 4,i 10,sls n a b c lo hi,.top,.top]],.ro [i d]]) (caps0:=[.ptr 917 0,.ptr 918 0]) VU VU (yW .top .top n a b c lo hi d VT (BX VT.1 UI)) (λ_=>rfl) ?_
 ·rintro k;kernel_rfl
 ·rintro k y E h;unfold nP at h;split at h
  ·cases h;kernel_rfl
  ·cases h
 ·rintro k;rfl
 ·rintro k y E h;unfold nP at h;split at h
  ·cases h;rfl
  ·cases h
 ·rintro Q hQ k hx;refine ⟨λhlt=>⟨(k+1),rfl,?_⟩,λPK=>?_⟩
  ·(with_reducible refine D6 (t:=let z1:=(quB n a b c (d:Int));let z0:=(BitVec.toNat (BitVec.ofInt 64 (d:Int) ||| BitVec.ofInt 64 ((1:Int)*2^UR z1 n k)));let z2:=(IntKind.wrap IntKind.i64 (z0:Int));let z3:=eD n a b c lo hi d;let z4:=eQ z1 n lo hi d;(need [UH d (↑(2^n):Int)] (need [d<2^n] (branch (decide (max (z4 (z3) k d) (lo (UR z1 n k))<=hi (UR z1 n k))) (need [(0:Int)<=(↑(UR z1 n k):Int)/\(↑(UR z1 n k):Int)<=64,VM ((1:Int)*2^UR z1 n k)] (need [UH (IntKind.wrap IntKind.i64 (z0:Int)) (↑(2^n):Int)] (need [Int.toNat z2<2^n] (need [UH (IntKind.wrap IntKind.i64 (z0:Int)) (↑(2^n):Int)] (need [Int.toNat z2<2^n] (need [QP n a b c lo hi,QL,QE=QE,ZO,U0 (ptr 905 0),QH n,XY n,QH n,U0 (d:Int),ZZ=ZZ,U0 (d:Int),W9,U0 (d:Int),2^n=2^n,∀(i:Nat),i<2^n->[iI (-1:Int)]=[iI (-1:Int)],2^n=2^n,∀(i:Nat),i<2^n->HB (decide (i=Int.toNat z2)) [iI (min (z4 (z3) k (Int.toNat z2)) (max (z4 (z3) k d) (lo (UR z1 n k))))] [iI (z4 (z3) k i)]=[iI (z4 (z3) (k+1) i)],W9,W6,WE,W8 n a b c lo hi,WK,WM,W6,WE,W8 n a b c lo hi] (leaf G6.normal))))))) (need [QP n a b c lo hi,QL,QE=QE,ZO,U0 (ptr 905 0),QH n,XY n,QH n,U0 (d:Int),ZZ=ZZ,U0 (d:Int),W9,U0 (d:Int),2^n=2^n,∀(i:Nat),i<2^n->[iI (-1:Int)]=[iI (-1:Int)],2^n=2^n,∀(i:Nat),i<2^n->[iI (z4 (z3) k i)]=[iI (z4 (z3) (k+1) i)],W9,W6,WE,W8 n a b c lo hi,WK,WM,W6,WE,W8 n a b c lo hi] (leaf G6.normal)))))) VU ?_)
   have h8:=VT.1;have hd:=BX h8 UI;have hpn:((2^n:Nat):Int)=2^n:=VW;have hs:=u7 hlt;have hor:=Wb6 h8 UI hs.1;have hol:=tK UI hs.1;simp only [VN.sat,UB,UJ,hor,FA,H6]
   have hd2:(d:Int)<2^n:=by
    have h:(d:Int)<((2^n:Nat):Int):=Int.ofNat_lt.2 UI
    rwa [hpn] at h
   have Qn4:((d ||| 2^UR (quB n a b c d) n k:Nat):Int)<2^n:=by
    have h:((d ||| 2^UR (quB n a b c d) n k:Nat):Int)<((2^n:Nat):Int):=Int.ofNat_lt.2 hol
    rwa [hpn] at h
   have hk1:k+1<=quN n a b c d:=hlt;have h2s:(1:Int)<=2^UR (quB n a b c d) n k/\(2:Int)^UR (quB n a b c d) n k<=256:=uH VK;have h64:=hs.1;refine ⟨⟨VK,hd2⟩,UI,λh=>?_,λh=>?_⟩
   ·refine ⟨⟨⟨VK,VK⟩,by simp only [VM,Int.one_mul];omega⟩,⟨VK,Qn4⟩,hol,⟨VK,Qn4⟩,hol,⟨λ_ _=>trivial,λj hj=>?_⟩,hk1⟩
    simp only [eQ,if_pos h];exact uD
   ·refine ⟨⟨λ_ _=>trivial,λj hj=>?_⟩,hk1⟩
    simp only [eQ,if_neg h]
  ·have hk:k=quN n a b c d:=VK;subst hk;exact hQ
theorem uP{P:Program}{G:List (Nat×UZ)}{E:Ext}{L:List UG}(N:List (Pl×Nat×TypeId×Nat))(hG:VL P G)(hX: ∀cx,VX P E cx)(GR:P.follows .mixedOrders=true){body:Code}(hL: ∀j cj,VS body j=some cj-> ∀sp,L[j]? =some sp->HQ P cj sp)
  {X:Type}(inv:X->St)(I:X->Prop)(μ:X->Nat)(out:X->G6->Option St){t:CT}{x0:X}(h0:I x0)
  (hok: ∀x,Go.Sx.okB (inv x)=true)(qN: ∀x y E,out x y=some E->Go.Sx.okB E=true)
  (round: ∀(Q:G6×St->Prop),t.sat Q-> ∀x,I x-> ∃x',(HW P G E L N body (inv x) (inv x') (out x)).sat (λy=>match y with
   | .normal=>I x'/\μ x'<μ x
   |y=> ∀E,out x y=some E->Q (y,E))):HQ P (.loop body) (GK N (HF (inv x0) t)):=
 λcx hf=>FJ N hG (hX cx) GR (λj cj hj sp hsp=>hL j cj hj sp hsp cx hf) inv I μ out h0 hok qN round
theorem gI{P:Program}{c:Code}{t:Nat}{F:Nat->UG}(h: ∀k,HQ P c (F k)):HQ P c (B6 t F):=by
 intro cx hf n s tr ht Q hQ a w r;unfold B6 at ht;split at ht
 ·exact h _ cx hf n s tr ht Q hQ a w r
 ·cases ht
abbrev JP:List (Nat×UZ):=[(51,IV),(55,kE),(54,IW)]
noncomputable abbrev KF:Ext:={R:=[],H:=[(79,Qh5)] }
theorem Jc1(n:Nat)(a b c lo hi:Nat->Int)(VT:sV n a b c lo hi):HQ VP (.loop b8) (Xv8 n a b c lo hi):=by
 refine uP [(.cell 5 0,0,0,0)] (L:=[B6 48 (λd=>FR [d<2^n] (Xv7 n a b c lo hi d))]) (VL.cons LC (VL.cons DY (VL.cons PM (VL.nil _)))) (VX.of (VR.nil _) (VO.cons gZ (VO.nil _))) VZ (G7 (λcj hcj=>by
  have e:VS b8 0=some (.rangeFunc (rfF (VS b8 0)) (jD (VS b8 0)) Js2 Jp9):=VU;rw [e] at hcj;cases hcj;exact gI (λd=>PY (λh=>Jc0 n a b c lo hi d VT h)))) (X:=Nat) (Wh2 n a b c lo hi) (λd=>d<=2^n) (λd=>2^n-d) (CG n a b c lo hi) (x0:=0) VW ?_ ?_ ?_
 ·rintro d;kernel_rfl
 ·rintro d y E h;unfold CG at h;split at h
  ·cases h;kernel_rfl
  ·cases h
 ·rintro Q hQ d hx;refine ⟨(d+1),?_⟩;(with_reducible refine D6 (t:=let z0:=W8 n a b c lo hi;let z1:=eD n a b c lo hi d;(branch (decide ((d:Int)<2^n-1+1)) (need [UH d (↑(2^n):Int)] (need [d<2^n] (branch (z1 d==101) (need [VM ((d:Int)+1)] (need [QP n a b c lo hi,QL,QE=QE,ZO,QH n,XY n,QH n,(d:Int)+1=(↑(d+1):Int),2^n=2^n,∀(i:Nat),i<2^n->[iI (-1:Int)]=[iI (-1:Int)],2^n=2^n,∀(i:Nat),i<2^n->[iI (z1 i)]=[iI (eD n a b c lo hi (d+1) i)],W9,W6,WE,z0,WK,WM,W6,WE,z0] (leaf G6.normal))) (need [d<2^n] (need [QP n a b c lo hi,QL,QE=QE,ZO,U0 (ptr 905 0),QH n,XY n,QH n,U0 (d:Int),ZZ=ZZ,U0 (d:Int),W9,U0 (d:Int),2^n=2^n,∀(i:Nat),i<2^n->[iI (-1:Int)]=[iI (-1:Int)],2^n=2^n,∀(i:Nat),i<2^n->[iI (z1 i)]=[iI (eQ (quB n a b c (d:Int)) n lo hi d (z1) 0 i)],W9,W6,WE,z0,WK,WM,W6,WE,z0] (need [VM ((d:Int)+1)] (need [QP n a b c lo hi,QL,QE=QE,ZO,QH n,XY n,QH n,(d:Int)+1=(↑(d+1):Int),2^n=2^n,∀(i:Nat),i<2^n->[iI (-1:Int)]=[iI (-1:Int)],2^n=2^n,∀(i:Nat),i<2^n->[iI (eQ (quB n a b c (d:Int)) n lo hi d (z1) (quN n a b c (d:Int)) i)]=[iI (eD n a b c lo hi (d+1) i)],W9,W6,WE,z0,WK,WM,W6,WE,z0] (leaf G6.normal)))))))) (need [QP n a b c lo hi,QL,QE=QE,ZO,QH n,XY n,QH n,(d:Int)=2^n,2^n=2^n,∀(i:Nat),i<2^n->[iI (-1:Int)]=[iI (-1:Int)],2^n=2^n,∀(i:Nat),i<2^n->[iI (z1 i)]=[iI (eD n a b c lo hi (2^n) i)],W9,W6,WE,z0,WK,WM,W6,WE,z0] (leaf (G6.exit 2))))) VU ?_);simp only [Jl2,CG,VN.sat,GS] at hQ;simp only [VN.sat,UB,UY,GL,UE,VM,UJ,H6,FO,FT,RH,GJ,CG]
  have h8:=VT.1;have hp:=uH h8;have hpn:((2^n:Nat):Int)=2^n:=VW;refine ⟨λh=>?_,λh=>?_⟩
  ·have hd3:(d:Int)<2^n:=VK;have hd:d<2^n:=by
    have h':(d:Int)<((2^n:Nat):Int):=by rw [hpn];exact hd3
    exact Int.ofNat_lt.1 h'
   have hd2:=BX h8 hd;refine ⟨⟨VK,hd3⟩,hd,λhb=>?_,λhb=>?_⟩
   ·rw [beq_iff_eq] at hb;refine ⟨VK,⟨VK,λ_ _=>trivial,λj hj=>by simp only [eD,if_pos hb]⟩,hd,VK⟩
   ·rw [beq_eq_false_iff_ne] at hb;refine ⟨hd,⟨λ_ _=>trivial,λj hj=>rfl⟩,VK,⟨VK,λ_ _=>trivial,λj hj=>by simp only [eD,if_neg hb]⟩,hd,VK⟩
  ·have hd:d=2^n:=by
    have h': ¬(d:Int)<((2^n:Nat):Int):=by rw [hpn];omega
    omega
   subst hd;exact ⟨⟨hpn,λ_ _=>trivial,λj hj=>rfl⟩,λE hE=>by cases hE;exact hQ⟩
def pm(n:Nat):Nat:=2^n-1
def lQ(p:Nat->Bool)(n:Nat)(lo hi:Nat->Int)(d:Nat)(F:Nat->Int):Nat->Nat->Int
 | 0=>F
 |q+1=>if min (lQ p n lo hi d F q (d ||| 2^UR p n q)) (hi (UR p n q))>=lo (UR p n q) then UT d (max (lQ p n lo hi d F q d) (min (lQ p n lo hi d F q (d ||| 2^UR p n q)) (hi (UR p n q)))) (lQ p n lo hi d F q) else lQ p n lo hi d F q
def lS(n:Nat)(a b c lo hi:Nat->Int):Nat->Nat->Int
 | 0=>UT (2^n-1) 101 (λ_=> -1)
 |s+1=>lQ (quB n a b c ((2^n-2-s:Nat):Int)) n lo hi (2^n-2-s) (lS n a b c lo hi s) (quN n a b c ((2^n-2-s:Nat):Int))
section
variable (n:Nat)(a b c lo hi:Nat->Int)
noncomputable def Zp8:St:={σ:=[agg (ZU n a b c lo hi),ptr 0 0,QE,ptr 5 0]++HI 14 [ZH n,iI ((2:Int)^n)]++HI 27 [ZH n,iI ((2:Int)^n)]++HI 110 [],m:=[(903,GO.cells 133 [iI ((2:Int)^n-1-1)]),(902,GO.row 3 1 (2^n) λk=>iI (if decide (k=((2:Int)^n-1).toNat)=true then (101:Int) else (-1:Int))::Bool.rec ([]) ([]) (decide (k=((2:Int)^n-1).toNat))),(901,GO.row 3 1 (2^n) λz=>[iI (eD n a b c lo hi (2^n) z)]),(5,YM),(4,GO.keep 174 (KP n a b c lo hi)),(0,GO.cells 42 (ZU n a b c lo hi))],nx:=916}
noncomputable def b6:Code:=U9 (VS (U8 Tryz.f49) 2)
noncomputable def Wh1(d:Nat):St:={σ:=H4 [(9,.ptr 903 0),(10,.top),(11,.top),(12,.top)] (Zp8 n a b c lo hi).σ,m:=[(903,.cells 133 [i (((d:Nat):Int)-1)]),(902,.row 3 1 (2^n) (λz=>[i ((lS n a b c lo hi (2^n-1-(d))) z)])),(901,.row 3 1 (2^n) (λz=>[i ((eD n a b c lo hi (2^n)) z)])),(5,.cells 84 [.ptr 4 0]),(4,.keep 174 [i 4,i 10,sls n a b c lo hi,.row 901,.row 902]),(0,.cells 42 [i 4,i 10,sls n a b c lo hi])],nx:=904}
noncomputable def CF(d:Nat):G6->Option St
 | .exit 6=>some {σ:=H4 [(9,.ptr 903 0),(10,.top),(11,.top),(12,.top)] (Zp8 n a b c lo hi).σ,m:=[(903,.cells 133 [i (((0:Nat):Int)-1)]),(902,.row 3 1 (2^n) (λz=>[i ((lS n a b c lo hi (2^n-1-(0))) z)])),(901,.row 3 1 (2^n) (λz=>[i ((eD n a b c lo hi (2^n)) z)])),(5,.cells 84 [.ptr 4 0]),(4,.keep 174 [i 4,i 10,sls n a b c lo hi,.row 901,.row 902]),(0,.cells 42 [i 4,i 10,sls n a b c lo hi])],nx:=904}
 |_=>none
noncomputable def Jl1:CT:= .leaf (.exit 6,(CF n a b c lo hi (pm n) (.exit 6)).getD (Zp8 n a b c lo hi))
noncomputable def Xv6:UG:=GK [(.slot 9,903,133,2),(.cell 5 0,0,0,0)] (HF (Wh1 n a b c lo hi (pm n)) (Jl1 n a b c lo hi))
abbrev J0:AV:=AV.fn (Fn.func 108) [] [ptr 908 0,ptr 909 0]
def Jn8(d:Nat):St:={σ:=[agg (ZU n a b c lo hi),ptr 0 0,QE,ptr 5 0]++HI 5 [ptr 903 0]++HI 8 [ZH n,iI ((2:Int)^n)]++HI 27 [ZH n,iI ((2:Int)^n)]++HI 69 [J0]++HI 40 [],m:=[(909,GO.keep 133 [iI ((d:Int)-1)]),(908,GO.keep 84 [ptr 4 0]),(903,GO.cells 133 [iI ((d:Int)-1)]),(902,GO.row 3 1 (2^n) λz=>[iI (lS n a b c lo hi (2^n-1-d) z)]),(901,GO.row 3 1 (2^n) λz=>[iI (eD n a b c lo hi (2^n) z)]),(5,YM),(4,GO.keep 174 (KP n a b c lo hi)),(0,GO.cells 42 (ZU n a b c lo hi))],nx:=913}
noncomputable def Js1:Code:=SM (VS b6 0)
noncomputable def Jp8:Code:=SL (VS b6 0)
def oI(d:Nat)(k:Nat):St:={σ:=H4 [(10,.top),(11,.top),(12,.top)] (Jn8 n a b c lo hi d).σ,m:=[(909,.keep 133 [i ((d:Int)-1)]),(908,.keep 84 [.ptr 4 0]),(903,.cells 133 [i (((d:Nat):Int)-1)]),(902,.row 3 1 (2^n) (λz=>[i ((lQ (quB n a b c ((d:Int)-1)) n lo hi (d-1) (lS n a b c lo hi (2^n-1-d)) (k)) z)])),(901,.row 3 1 (2^n) (λz=>[i ((eD n a b c lo hi (2^n)) z)])),(5,.cells 84 [.ptr 4 0]),(4,.keep 174 [i 4,i 10,sls n a b c lo hi,.row 901,.row 902]),(0,.cells 42 [i 4,i 10,sls n a b c lo hi])],nx:=913}
def nO(d:Nat)(k:Nat):G6->Option St
 | .normal=>some {σ:=H4 [(10,.top),(11,.top),(12,.top)] (Jn8 n a b c lo hi d).σ,m:=[(909,.keep 133 [i ((d:Int)-1)]),(908,.keep 84 [.ptr 4 0]),(903,.cells 133 [i (((d:Nat):Int)-1)]),(902,.row 3 1 (2^n) (λz=>[i ((lQ (quB n a b c ((d:Int)-1)) n lo hi (d-1) (lS n a b c lo hi (2^n-1-d)) ((quN n a b c ((d:Int)-1)))) z)])),(901,.row 3 1 (2^n) (λz=>[i ((eD n a b c lo hi (2^n)) z)])),(5,.cells 84 [.ptr 4 0]),(4,.keep 174 [i 4,i 10,sls n a b c lo hi,.row 901,.row 902]),(0,.cells 42 [i 4,i 10,sls n a b c lo hi])],nx:=913}
 |_=>none
def T_ke(d:Nat):CT:= .leaf (.normal,oI n a b c lo hi d (quN n a b c ((d:Int)-1)))
def Xv5(d:Nat):UG:=GK [(.slot 118,0,0,0)] (HF (oI n a b c lo hi d (0)) (T_ke n a b c lo hi d))
abbrev ZS:Prop:=ptr 903 0=ptr 903 0
theorem Jb8(d:Nat)(VT:sV n a b c lo hi)(UI:1<=d)(HR:d<2^n):HQ VP (.rangeFunc (rfF (VS b6 0)) (jD (VS b6 0)) Js1 Jp8) (Xv5 n a b c lo hi d):=by
 refine yF [(.slot 118,0,0,0)] (L:=[]) (VL.cons DY (VL.cons PM (VL.nil _))) (VX.of (VR.nil _) (VO.nil _)) VZ U3 (V:=Nat) (oI n a b c lo hi d) (λk=>k<=(quN n a b c ((d:Int)-1))) (λk=>k) (nO n a b c lo hi d) (x0:=0) VW rfl ?_ ?_ ?_ ?_ (g:=108) (caps:=[.ro [.ro [i 4,i 10,sls n a b c lo hi,.top,.top]],.ro [i ((d:Int)-1)]]) (caps0:=[.ptr 908 0,.ptr 909 0]) VU VU (yW .top .top n a b c lo hi ((d:Int)-1) VT (by have:=BX VT.1 HR;omega)) (λ_=>rfl) ?_
 ·rintro k;kernel_rfl
 ·rintro k y E h;unfold nO at h;split at h
  ·cases h;kernel_rfl
  ·cases h
 ·rintro k;rfl
 ·rintro k y E h;unfold nO at h;split at h
  ·cases h;rfl
  ·cases h
 ·rintro Q hQ k hx;refine ⟨λhlt=>⟨(k+1),rfl,?_⟩,λPK=>?_⟩
  ·(with_reducible refine D6 (t:=let z0:=(quB n a b c ((d:Int)-1));let z1:=(BitVec.toNat (BitVec.ofInt 64 ((d:Int)-1) ||| BitVec.ofInt 64 ((1:Int)*2^UR z0 n k)));let z2:=(lS n a b c lo hi (2^n-1-d));let z3:=(U0 ((d:Int)-1));let z5:=lQ z0 n lo hi;let z4:=(z5 (d-1) z2 k (IntKind.wrap IntKind.i64 (z1:Int)).toNat);(need [(0:Int)<=(↑(UR z0 n k):Int)/\(↑(UR z0 n k):Int)<=64,VM ((1:Int)*2^UR z0 n k)] (need [UH (IntKind.wrap IntKind.i64 (z1:Int)) (↑(2^n):Int)] (need [(IntKind.wrap IntKind.i64 (z1:Int)).toNat<2^n] (branch (decide (min z4 (hi (UR z0 n k))>=lo (UR z0 n k))) (need [UH ((d:Int)-1) (↑(2^n):Int)] (need [((d:Int)-1).toNat<2^n] (need [UH ((d:Int)-1) (↑(2^n):Int)] (need [((d:Int)-1).toNat<2^n] (need [QP n a b c lo hi,QL,QE=QE,ZO,ZS,QH n,XY n,QH n,XY n,J0=J0,z3,W9,z3,2^n=2^n,∀(i:Nat),i<2^n->HB (decide (i=((d:Int)-1).toNat)) [iI (max (z5 (d-1) z2 k ((d:Int)-1).toNat) (min z4 (hi (UR z0 n k))))] [iI (z5 (d-1) z2 k i)]=[iI (z5 (d-1) z2 (k+1) i)],2^n=2^n,∀(i:Nat),i<2^n->[iI (eD n a b c lo hi (2^n) i)]=[iI (eD n a b c lo hi (2^n) i)],W9,W6,WE,W8 n a b c lo hi,WK,WM,W6,WE,W8 n a b c lo hi] (leaf G6.normal)))))) (need [QP n a b c lo hi,QL,QE=QE,ZO,ZS,QH n,XY n,QH n,XY n,J0=J0,z3,W9,z3,2^n=2^n,∀(i:Nat),i<2^n->[iI (z5 (d-1) z2 k i)]=[iI (z5 (d-1) z2 (k+1) i)],2^n=2^n,∀(i:Nat),i<2^n->[iI (eD n a b c lo hi (2^n) i)]=[iI (eD n a b c lo hi (2^n) i)],W9,W6,WE,W8 n a b c lo hi,WK,WM,W6,WE,W8 n a b c lo hi] (leaf G6.normal))))))) VU ?_)
   have h8:=VT.1;obtain ⟨D,rfl⟩: ∃D,d=D+1:=⟨d-1,VK⟩;have hD:(((D+1:Nat):Int)-1)=(D:Int):=VK;have hd:D<2^n:=VK;have hdi:=BX h8 hd;have hpn:((2^n:Nat):Int)=2^n:=VW;simp only [hD] at*;have hs:=u7 hlt;have hor:=Wb6 h8 hd hs.1;have hol:=tK hd hs.1;simp only [VN.sat,UB,UJ,hor,FA,H6,Nat.add_sub_cancel]
   have hd2:(D:Int)<2^n:=by
    have h:(D:Int)<((2^n:Nat):Int):=Int.ofNat_lt.2 hd
    rwa [hpn] at h
   have Qn4:((D ||| 2^UR (quB n a b c D) n k:Nat):Int)<2^n:=by
    have h:((D ||| 2^UR (quB n a b c D) n k:Nat):Int)<((2^n:Nat):Int):=Int.ofNat_lt.2 hol
    rwa [hpn] at h
   have hk1:k+1<=quN n a b c D:=hlt;have h2s:(1:Int)<=2^UR (quB n a b c D) n k/\(2:Int)^UR (quB n a b c D) n k<=256:=uH VK;have h64:=hs.1;refine ⟨⟨⟨VK,VK⟩,by simp only [VM,Int.one_mul];omega⟩,⟨VK,Qn4⟩,hol,λh=>?_,λh=>?_⟩
   ·refine ⟨⟨VK,hd2⟩,hd,⟨VK,hd2⟩,hd,⟨λj hj=>?_,λ_ _=>trivial⟩,hk1⟩
    simp only [lQ,if_pos h];exact uD
   ·refine ⟨⟨λj hj=>?_,λ_ _=>trivial⟩,hk1⟩
    simp only [lQ,if_neg h]
  ·have hk:k=quN n a b c ((d:Int)-1):=VK;subst hk;exact hQ
theorem Jb9(VT:sV n a b c lo hi):HQ VP (.loop b6) (Xv6 n a b c lo hi):=by
 refine uP [(.slot 9,903,133,2),(.cell 5 0,0,0,0)] (L:=[B6 117 (λd=>FR [d+1<2^n] (Xv5 n a b c lo hi (d+1)))]) (VL.cons LC (VL.cons DY (VL.cons PM (VL.nil _)))) (VX.of (VR.nil _) (VO.cons gZ (VO.nil _))) VZ (G7 (λcj hcj=>by
  have e:VS b6 0=some (.rangeFunc (rfF (VS b6 0)) (jD (VS b6 0)) Js1 Jp8):=VU;rw [e] at hcj;cases hcj;exact gI (λd=>PY (λh=>Jb8 n a b c lo hi (d+1) VT (Nat.succ_le_succ (Nat.zero_le _)) h)))) (X:=Nat) (Wh1 n a b c lo hi) (λd=>d<=pm n) (λd=>d) (CF n a b c lo hi) (x0:=pm n) (Nat.le_refl _) ?_ ?_ ?_
 ·rintro d;kernel_rfl
 ·rintro d y E h;unfold CF at h;split at h
  ·cases h;kernel_rfl
  ·cases h
 ·rintro Q hQ d hx;refine ⟨(d-1),?_⟩;(with_reducible refine D6 (t:=let z0:=(quB n a b c ((↑(((d:Int)-1).toNat+1):Int)-1));let z4:=lS n a b c lo hi;let z1:=(z4 (2^n-1-(((d:Int)-1).toNat+1)));let z2:=eD n a b c lo hi;let z3:=W8 n a b c lo hi;(branch (decide ((d:Int)-1>=(0:Int))) (need [((d:Int)-1).toNat+1<2^n] (need [QP n a b c lo hi,QL,QE=QE,ZO,ZS,QH n,XY n,QH n,XY n,J0=J0,(d:Int)-1=(↑(((d:Int)-1).toNat+1):Int)-1,W9,(d:Int)-1=(↑(((d:Int)-1).toNat+1):Int)-1,2^n=2^n,∀(i:Nat),i<2^n->[iI (z4 (2^n-1-d) i)]=[iI (lQ z0 n lo hi (((d:Int)-1).toNat+1-1) z1 0 i)],2^n=2^n,∀(i:Nat),i<2^n->[iI (z2 (2^n) i)]=[iI (z2 (2^n) i)],W9,W6,WE,z3,WK,WM,W6,WE,z3] (need [VM ((↑(((d:Int)-1).toNat+1):Int)-1-1)] (need [QP n a b c lo hi,QL,QE=QE,ZO,ZS,QH n,XY n,QH n,XY n,(↑(((d:Int)-1).toNat+1):Int)-1-1=(↑(d-1):Int)-1,2^n=2^n,∀(i:Nat),i<2^n->[iI (lQ z0 n lo hi (((d:Int)-1).toNat+1-1) z1 (quN n a b c ((↑(((d:Int)-1).toNat+1):Int)-1)) i)]=[iI (z4 (2^n-1-(d-1)) i)],2^n=2^n,∀(i:Nat),i<2^n->[iI (z2 (2^n) i)]=[iI (z2 (2^n) i)],W9,W6,WE,z3,WK,WM,W6,WE,z3] (leaf G6.normal))))) (need [QP n a b c lo hi,QL,QE=QE,ZO,ZS,QH n,XY n,QH n,XY n,(d:Int)-1=(↑(0:Nat):Int)-1,2^n=2^n,∀(i:Nat),i<2^n->[iI (z4 (2^n-1-d) i)]=[iI (z4 (2^n-1-0) i)],2^n=2^n,∀(i:Nat),i<2^n->[iI (z2 (2^n) i)]=[iI (z2 (2^n) i)],W9,W6,WE,z3,WK,WM,W6,WE,z3] (leaf (G6.exit 6))))) VU ?_);simp only [Jl1,CF,VN.sat,GS] at hQ;simp only [VN.sat,UB,UY,GL,UE,VM,UJ,H6,FO,FT,RH,GJ,CF]
  have h8:=VT.1;have hpm:pm n=2^n-1:=rfl;rw [hpm] at hx ⊢;have hp:=uH h8;have hpn:((2^n:Nat):Int)=2^n:=VW;refine ⟨λh=>?_,λh=>?_⟩
  ·obtain ⟨D,rfl⟩: ∃D,d=D+1:=⟨d-1,VK⟩;have e1:(((D+1:Nat):Int)-1).toNat=D:=VK;have e2:(((D+1:Nat):Int)-1)=(D:Int):=VK;have hd:D+1<2^n:=VK;have hdi:=BX h8 hd;simp only [e2,FA,Nat.add_sub_cancel,true_and];have hst:lQ (quB n a b c D) n lo hi D (lS n a b c lo hi (2^n-1-(D+1))) (quN n a b c D)=lS n a b c lo hi (2^n-1-D):=by
    have h1:2^n-1-D=(2^n-1-(D+1))+1:=VK;have h2:2^n-2-(2^n-1-(D+1))=D:=VK;rw [h1];simp only [lS,h2]
   refine ⟨hd,⟨λj hj=>rfl,λ_ _=>trivial⟩,VK,⟨λj hj=>by rw [hst],λ_ _=>trivial⟩,VK,VK⟩
  ·obtain rfl:d=0:=VK;exact ⟨⟨rfl,λj hj=>rfl,λ_ _=>trivial⟩,λE hE=>by cases hE;exact hQ⟩
end
theorem pQ{S:Code->UG->Prop}{c:Code}{s0 s1 s2:UG}(h0: ∀cj,VS c 0=some cj->S cj s0)(h1: ∀cj,VS c 1=some cj->S cj s1)(h2: ∀cj,VS c 2=some cj->S cj s2):
  ∀j cj,VS c j=some cj-> ∀sp,[s0,s1,s2][j]? =some sp->S cj sp:=by
 intro j cj hj sp hsp
 match j with
 | 0=>simp at hsp;subst hsp;exact h0 cj hj
 | 1=>simp at hsp;subst hsp;exact h1 cj hj
 | 2=>simp at hsp;subst hsp;exact h2 cj hj
 |j+3=>simp at hsp
section
variable (n:Nat)(a b c lo hi:Nat->Int)
theorem Wb1(VT:sV n a b c lo hi):FP VP 49 [.agg [i 4,i 10,sls n a b c lo hi]] (.ro [i 4,i 10,sls n a b c lo hi,.lst 1 (2^n) (λz=>[i (eD n a b c lo hi (2^n) z)]),.lst 1 (2^n) (λz=>[i (lS n a b c lo hi (2^n-1) z)])]):=by
 refine D1 (L:=[Xv9 n a b c lo hi,Xv8 n a b c lo hi,Xv6 n a b c lo hi]) (VL.cons LC (VL.cons DY (VL.cons PM (VL.nil _)))) (VX.of (VR.nil _) (VO.cons gZ (VO.nil _))) VZ Tryz.func49 (UV Tryz.f49) (pQ (lpE (b:= .loop Jq0) VU<|(Jc2 n a b c lo hi VT).N) (lpE (b:= .loop b8) VU<|Jc1 n a b c lo hi VT) (lpE (b:= .loop b6) VU<|Jb9 n a b c lo hi VT)) (t:=let z0:=W8 n a b c lo hi;(need [n<=8] (need [VM ((2:Int)^n-1+1)] (need [QP n a b c lo hi,QL,QE=QE,ZO,QH n,(0:Int)=(↑(0:Nat):Int),0=0,∀(i:Nat),i<0->[]=[iI (-1:Int)],0=0,∀(i:Nat),i<0->[]=ZY,W9,W6,WE,z0,WK,WM,W6,WE,z0] (need [UH 0 (↑(2^n):Int)] (need [(0:Int).toNat<2^n] (need [n<=8] (need [VM ((2:Int)^n-1+1)] (need [QP n a b c lo hi,QL,QE=QE,ZO,QH n,XY n,QH n,(0:Int)=(↑(0:Nat):Int),2^n=2^n,∀(i:Nat),i<2^n->[iI (-1:Int)]=[iI (-1:Int)],2^n=2^n,∀(i:Nat),i<2^n->HB (decide (i=(0:Int).toNat)) [iI 0] ZY=[iI (eD n a b c lo hi 0 i)],W9,W6,WE,z0,WK,WM,W6,WE,z0] (need [n<=8] (need [(0:Int)<=2^n-1/\(2:Int)^n-1<(↑(2^n):Int)] (need [((2:Int)^n-1).toNat<2^n] (need [n<=8] (need [VM ((2:Int)^n-1-1)] (need [QP n a b c lo hi,QL,QE=QE,ZO,ZS,QH n,XY n,QH n,XY n,(2:Int)^n-1-1=(↑(pm n):Int)-1,2^n=2^n,∀(i:Nat),i<2^n->HB (decide (i=((2:Int)^n-1).toNat)) ZY [iI (-1:Int)]=[iI (lS n a b c lo hi (2^n-1-pm n) i)],2^n=2^n,∀(i:Nat),i<2^n->[iI (eD n a b c lo hi (2^n) i)]=[iI (eD n a b c lo hi (2^n) i)],W9,W6,WE,z0,WK,WM,W6,WE,z0] (leaf (AV.ro [iI 4,iI 10,Q0 n a b c lo hi,lst 1 (2^n) λz=>[iI (eD n a b c lo hi (2^n) z)],lst 1 (2^n) λz=>[iI (lS n a b c lo hi (2^n-1-0) z)]]))))))))))))))))) VU ?_
 have h8:=VT.1;have hp:=uH h8;have hpn:((2^n:Nat):Int)=2^n:=VW;have hp1:1<=2^n:=Nat.one_le_two_pow;have hpt:((2:Int)^n-1).toNat=2^n-1:=VK;simp only [VN.sat,UB,UJ,VM,hpt,Int.toNat_zero]
 (with_reducible repeat' first|apply And.intro|intro _)
 all_goals first|exact True.intro|omega|with_reducible rfl|rfl|skip
 ·rename_i q hq;exact uD (F:=λ_=>101)
 ·have h1:((pm n:Nat):Int)=((2^n:Nat):Int)-1:=by
   unfold pm;omega
  rw [h1,hpn]
 ·rename_i q hq;rw [show 2^n-1-pm n=0 from Nat.sub_self _];exact uD (F:=λ_=> -1)
def Xl9:UZ:=λl=>some ([l=[.agg [i 4,i 10,sls n a b c lo hi]]],.ro [i 4,i 10,sls n a b c lo hi,.lst 1 (2^n) (λz=>[i (eD n a b c lo hi (2^n) z)]),.lst 1 (2^n) (λz=>[i (lS n a b c lo hi (2^n-1) z)])])
theorem hU(VT:sV n a b c lo hi):PH VP 49 (Xl9 n a b c lo hi):=by
 refine ⟨(UK Tryz.func49),?_⟩;intro avs ns res h hn;cases h;have e:=hn _ GF;subst e;exact Wb1 n a b c lo hi VT
def Ww4:UZ:=λl=>some ([l=[.agg [i 4,i 10,sls n a b c lo hi]]],i (if zS n a b c lo hi then 0 else 1))
theorem yY(VT:n<=8):VQ VP 48 (Ww4 n a b c lo hi):=by
 refine ⟨(UK Tryz.func48),?_⟩;intro avs ns res h hn;cases h;have e:=hn _ GF;subst e;exact NE n a b c lo hi VT
theorem Wb0(E F:Nat->Int)(VT:n<=8):VY VP 50 [.ro [i 4,i 10,sls n a b c lo hi,.lst 1 (2^n) (λz=>[i (E z)]),.lst 1 (2^n) (λz=>[i (F z)])]] (bl (E (2^n-1) != 101)):=by
 refine U2 (L:=[]) (VL.cons LC (VL.nil _)) VZ Tryz.func50 (UV Tryz.f50) U3 (t:=need [n<=8] (need [(0:Int)<=2^n-1/\(2:Int)^n-1<(↑(2^n):Int)] (leaf (RV.x (.bool (E ((2:Int)^n-1).toNat != 101)))))) VU ?_;have hp:=uH VT;have hpn:((2^n:Nat):Int)=2^n:=VW;have hp1:1<=2^n:=Nat.one_le_two_pow;have hpt:((2:Int)^n-1).toNat=2^n-1:=VK;simp only [VN.sat,UB,UY,GL,UE,UJ,hpt]
 (with_reducible repeat' first|apply And.intro|intro _)
 all_goals first|exact VT|omega|rfl|trivial
def Xl8(E F:Nat->Int):UZ:=λl=>some ([l=[.ro [i 4,i 10,sls n a b c lo hi,.lst 1 (2^n) (λz=>[i (E z)]),.lst 1 (2^n) (λz=>[i (F z)])]]],bl (E (2^n-1) != 101))
theorem hO(E F:Nat->Int)(VT:n<=8):VQ VP 50 (Xl8 n a b c lo hi E F):=by
 refine ⟨(UK Tryz.func50),?_⟩;intro avs ns res h hn;cases h;have e:=hn _ GF;subst e;exact Wb0 n a b c lo hi E F VT
theorem cJ(E F:Nat->Int)(d day:Int)(VT:0<=d/\d<2^n):VY VP 52 [.ro [i 4,i 10,sls n a b c lo hi,.lst 1 (2^n) (λz=>[i (E z)]),.lst 1 (2^n) (λz=>[i (F z)])],i d,i day] (bl (decide (E d.toNat<=day)&&decide (F d.toNat>day))):=by
 refine GW Tryz.func52 (t:=need [UH d (↑(2^n):Int)] (branch (decide (E (Int.toNat d)<=day)) (need [UH d (↑(2^n):Int)] (leaf (RV.x (.bool (decide (F (Int.toNat d)>day)))))) (leaf (RV.x (WQ))))) VU ?_;have hpn:((2^n:Nat):Int)=2^n:=VW;simp only [VN.sat,UB,UY,GL,UE,UJ];have hd:d.toNat<2^n:=VK
 (with_reducible repeat' first|apply And.intro|intro _)
 all_goals first|omega|(rename_i h;rw [h];rfl)
def M4(E F:Nat->Int):UZ
 |[bk,.x (.int .i64 d),.x (.int .i64 day)]=>some ([bk= .ro [i 4,i 10,sls n a b c lo hi,.lst 1 (2^n) (λz=>[i (E z)]),.lst 1 (2^n) (λz=>[i (F z)])],0<=d/\d<2^n],bl (decide (E d.toNat<=day)&&decide (F d.toNat>day)))
 |_=>none
theorem uG(E F:Nat->Int):VQ VP 52 (M4 n a b c lo hi E F):=by
 refine ⟨(UK Tryz.func52),?_⟩;intro avs ns res h hn;unfold M4 at h;split at h
 ·cases h;rename_i bk d day;have e:=hn _ GF;rw [e];exact cJ n a b c lo hi E F d day (hn _ VW)
 ·cases h
end
def hoF(n:Nat)(a b c:Nat->Int)(E F:Nat->Int)(ow day:Int):Nat->Int×Int
 | 0=>(1001,-1)
 |d+1=>match decide (E d<=day)&&decide (F d>day) with
  |true=>(min (hoF n a b c E F ow day d).1 (stF a b c d n ow.toNat),max (hoF n a b c E F ow day d).2 (stF a b c d n ow.toNat))
  |false=>hoF n a b c E F ow day d
theorem nth6(F:Nat->Int){q:Nat}(hq:q<6):UA [F 0,F 1,F 2,F 3,F 4,F 5] q=F q:=by
 match q,hq with
 | 0,_=>rfl
 | 1,_=>rfl
 | 2,_=>rfl
 | 3,_=>rfl
 | 4,_=>rfl
 | 5,_=>rfl
section
variable (n:Nat)
abbrev WH(a:Nat->Int)(b:Nat->Int)(c:Nat->Int)(lo:Nat->Int)(hi:Nat->Int)(E:Nat->Int)(F:Nat->Int):AV:=AV.ro [iI 4,iI 10,Q0 n a b c lo hi,lst 1 (2^n) λz=>[iI (E z)],lst 1 (2^n) λz=>[iI (F z)]]
abbrev JR:List AV:=[iI 0,iI 0]
def Zq2(a b c lo hi:Nat->Int)(E F:Nat->Int)(ow day:Int):St:={σ:=[WH n a b c lo hi E F,iI ow,iI day,top,top,top,ptr 0 0,ptr 2 0]++HI 5 [ZH n]++HI 25 [],m:=[(2,GO.cells 37 [iI 1001,iI (-1:Int)]),(0,GO.cells 37 JR)],nx:=8}
noncomputable def Jq2:Code:=U9 (VS (U8 Tryz.f29) 0)
def Wh5(a b c lo hi:Nat->Int)(E F:Nat->Int)(ow day:Int)(d:Nat):St:={σ:=H4 [(8,.top),(9,.top),(14,i d)] (Zq2 n a b c lo hi E F ow day).σ,m:=[(2,.cells 37 [i (hoF n a b c E F ow day (d)).1,i (hoF n a b c E F ow day (d)).2]),(0,.cells 37 [i 0,i 0])],nx:=8}
def CJ(a b c lo hi:Nat->Int)(E F:Nat->Int)(ow day:Int)(d:Nat):G6->Option St
 | .exit 0=>some {σ:=H4 [(8,.top),(9,.top),(14,i (2^n))] (Zq2 n a b c lo hi E F ow day).σ,m:=[(2,.cells 37 [i (hoF n a b c E F ow day (2^n)).1,i (hoF n a b c E F ow day (2^n)).2]),(0,.cells 37 [i 0,i 0])],nx:=8}
 |_=>none
def Jl5(a b c lo hi:Nat->Int)(E F:Nat->Int)(ow day:Int):CT:= .leaf (.exit 0,(CJ n a b c lo hi E F ow day 0 (.exit 0)).getD (Zq2 n a b c lo hi E F ow day))
def Xw1(a b c lo hi:Nat->Int)(E F:Nat->Int)(ow day:Int):UG:=(HF (Wh5 n a b c lo hi E F ow day (0)) (Jl5 n a b c lo hi E F ow day))
abbrev ZD:Prop:=ptr 2 0=ptr 2 0
theorem Je0(a b c lo hi:Nat->Int)(E F:Nat->Int)(ow day:Int)(VT:sV n a b c lo hi)(UI:0<=ow/\ow<4):G5 VP (.loop Jq2) (Xw1 n a b c lo hi E F ow day):=by
 refine HH (L:=[]) (VL.cons PM (VL.cons DY (VL.cons LC (VL.cons (uG n a b c lo hi E F) (VL.cons (qS n a b c lo hi VT) (VL.nil _)))))) VZ U3 (X:=Nat) (Wh5 n a b c lo hi E F ow day) (λd=>d<=2^n) (λd=>2^n-d) (CJ n a b c lo hi E F ow day) (x0:=0) VW ?_ ?_ ?_
 ·rintro d;kernel_rfl
 ·rintro d y E h;unfold CJ at h;split at h
  ·cases h;kernel_rfl
  ·cases h
 ·rintro Q hQ d hx;refine ⟨(d+1),?_⟩;(with_reducible refine D6 (t:=let z0:=(UA [stF a b c (d:Int) n 0,stF a b c (d:Int) n 1,stF a b c (d:Int) n 2,stF a b c (d:Int) n 3,stF a b c (d:Int) n 4,stF a b c (d:Int) n 5] (Int.toNat ow));let z2:=hoF n a b c E F ow day;let z1:=(z2 d);let z3:=(U0 (WH n a b c lo hi E F));(branch (decide ((d:Int)<2^n-1+1)) (need [z3,(0:Int)<=(d:Int)/\(d:Int)<2^n] (branch (decide (E d<=day)&&decide (F d>day)) (need [W8 n a b c lo hi,(0:Int)<=(d:Int)/\(d:Int)<256] (need [UH ow 6] (need [VM ((d:Int)+1)] (need [z3,ow=ow,day=day,QL,ZD,QH n,(d:Int)+1=(↑(d+1):Int),min (Prod.fst z1) z0=Prod.fst (z2 (d+1)),max (Prod.snd z1) z0=Prod.snd (z2 (d+1)),QT,QT] (leaf G6.normal))))) (need [VM ((d:Int)+1)] (need [z3,ow=ow,day=day,QL,ZD,QH n,(d:Int)+1=(↑(d+1):Int),Prod.fst z1=Prod.fst (z2 (d+1)),Prod.snd z1=Prod.snd (z2 (d+1)),QT,QT] (leaf G6.normal))))) (need [z3,ow=ow,day=day,QL,ZD,QH n,(d:Int)=2^n,Prod.fst z1=Prod.fst (z2 (2^n)),Prod.snd z1=Prod.snd (z2 (2^n)),QT,QT] (leaf (G6.exit 0))))) VU ?_);simp only [Jl5,CJ,VN.sat,GS] at hQ;simp only [VN.sat,UB,UY,GL,UE,VM,UJ,H6,FO,FT,RH,GJ,CJ]
  have h8:=VT.1;have hp:=uH h8;have hpn:((2^n:Nat):Int)=2^n:=VW;refine ⟨λh=>?_,λh=>?_⟩
  ·have hd3:(d:Int)<2^n:=VK;have hd:d<2^n:=by
    have h':(d:Int)<((2^n:Nat):Int):=by rw [hpn];exact hd3
    exact Int.ofNat_lt.1 h'
   have hd2:=BX h8 hd;have h6:=nth6 (stF a b c d n) (show ow.toNat<6 by omega)
   refine ⟨⟨VK,hd3⟩,λhb=>?_,λhb=>?_⟩
   ·refine ⟨hd2,⟨VK,VK⟩,VK,⟨VK,?_,?_⟩,hd,VK⟩
    ·simp only [hoF,hb];rw [h6]
    ·simp only [hoF,hb];rw [h6]
   ·refine ⟨VK,⟨VK,?_,?_⟩,hd,VK⟩
    ·simp only [hoF,hb]
    ·simp only [hoF,hb]
  ·have hd:d=2^n:=by
    have h': ¬(d:Int)<((2^n:Nat):Int):=by rw [hpn];omega
    omega
   subst hd;exact ⟨⟨hpn,rfl,rfl⟩,λE hE=>by cases hE;exact hQ⟩
theorem Qk1(a b c lo hi:Nat->Int)(E F:Nat->Int)(ow day:Int)(VT:sV n a b c lo hi)(UI:0<=ow/\ow<4):VY VP 29 [.ro [i 4,i 10,sls n a b c lo hi,.lst 1 (2^n) (λz=>[i (E z)]),.lst 1 (2^n) (λz=>[i (F z)])],i ow,i day] (.agg [i (hoF n a b c E F ow day (2^n)).1,i (hoF n a b c E F ow day (2^n)).2]):=by
 refine U2 (L:=[Xw1 n a b c lo hi E F ow day]) (VL.cons PM (VL.cons DY (VL.cons LC (VL.cons (uG n a b c lo hi E F) (VL.cons (qS n a b c lo hi VT) (VL.nil _)))))) VZ Tryz.func29 (UV Tryz.f29) (G7 (lpE (b:= .loop Jq2) VU<|Je0 n a b c lo hi E F ow day VT UI)) (t:=let z0:=hoF n a b c E F ow day;(need [n<=8] (need [VM ((2:Int)^n-1+1)] (need [U0 (WH n a b c lo hi E F),ow=ow,day=day,QL,ZD,QH n,(0:Int)=(↑(0:Nat):Int),(1001:Int)=Prod.fst (z0 0),(-1:Int)=Prod.snd (z0 0),QT,QT] (leaf (RV.agg [RV.x (.int .i64 (Prod.fst (z0 (2^n)))),RV.x (.int .i64 (Prod.snd (z0 (2^n))))])))))) VU ?_
 have h8:=VT.1;have hp:=uH h8;have hpn:((2^n:Nat):Int)=2^n:=VW;simp only [VN.sat,UB,UY,GL,UE,UJ,VM,Prod.fst,Prod.snd]
 (with_reducible repeat' first|apply And.intro|intro _)
 all_goals first|exact True.intro|exact h8|omega|rfl
def lZ(a b c lo hi:Nat->Int)(E F:Nat->Int):UZ
 |[bk,.x (.int .i64 ow),.x (.int .i64 day)]=>some ([bk= .ro [i 4,i 10,sls n a b c lo hi,.lst 1 (2^n) (λz=>[i (E z)]),.lst 1 (2^n) (λz=>[i (F z)])],0<=ow/\ow<4],.agg [i (hoF n a b c E F ow day (2^n)).1,i (hoF n a b c E F ow day (2^n)).2])
 |_=>none
theorem yX(a b c lo hi:Nat->Int)(E F:Nat->Int)(VT:sV n a b c lo hi):VQ VP 29 (lZ n a b c lo hi E F):=by
 refine ⟨(UK Tryz.func29),?_⟩;intro avs ns res h hn;unfold lZ at h;split at h
 ·cases h;rename_i bk ow day;have e:=hn _ GF;rw [e];exact Qk1 n a b c lo hi E F ow day VT (hn _ VW)
 ·cases h
def zJ(a b c lo hi:Nat->Int):Bool:=eD n a b c lo hi (2^n) (2^n-1) != 101
end
theorem aI{n:Nat}{a b c lo hi:Nat->Int}(h:sV n a b c lo hi):zS n a b c lo hi=true:=GU.2 h.2
section
variable (n:Nat)
abbrev XB(a:Nat->Int)(b:Nat->Int)(c:Nat->Int)(lo:Nat->Int)(hi:Nat->Int):List AV:=[agg [iI 4,iI 10,Q0 n a b c lo hi]]
theorem Qj9(a b c lo hi:Nat->Int)(rt:Bool)(VT:sV n a b c lo hi):UO VP 26 [.agg [i 4,i 10,sls n a b c lo hi],bl rt] (.branch (!rt) (.leaf (.tup [Bo.nilP,i 2])) (.branch (!zJ n a b c lo hi) (.leaf (.tup [Bo.nilP,i 9])) (.leaf (.tup [.ro [i 4,i 10,sls n a b c lo hi,.lst 1 (2^n) (λz=>[i (eD n a b c lo hi (2^n) z)]),.lst 1 (2^n) (λz=>[i (lS n a b c lo hi (2^n-1) z)])],i 0])))):=by
 refine GT (L:=[]) (VL.cons (yY n a b c lo hi VT.1) (VL.cons (hO n a b c lo hi (eD n a b c lo hi (2^n)) (lS n a b c lo hi (2^n-1)) VT.1) (VL.nil _))) (VX.of (VR.cons (hU n a b c lo hi VT) (VR.nil _)) (VO.nil _)) VZ Tryz.func26 (UV Tryz.f26) G8 (t:=let z0:=(AV.ro [iI 4,iI 10,Q0 n a b c lo hi,lst 1 (2^n) λz=>[iI (eD n a b c lo hi (2^n) z)],lst 1 (2^n) λz=>[iI (lS n a b c lo hi (2^n-1) z)]]);(need [U0 (XB n a b c lo hi)] (branch ((if zS n a b c lo hi=true then (0:Int) else (1:Int)) != 0) (leaf (tup [QE,iI (if zS n a b c lo hi=true then (0:Int) else (1:Int))])) (branch (!rt) (leaf (tup [QE,iI 2])) (need [U0 (XB n a b c lo hi)] (need [U0 ([z0])] (branch (!eD n a b c lo hi (2^n) (2^n-1) != 101) (leaf (tup [QE,iI 9])) (leaf (tup [z0,iI 0]))))))))) VU ?_
 intro Q hQ;simp only [VN.sat,UB,UJ] at hQ ⊢;rw [aI VT];refine ⟨λh=>by simp at h,λ_=>⟨λh=>⟨.tup [Bo.nilP,i 2],⟨rfl,⟨rfl,rfl⟩,True.intro⟩,hQ.1 h⟩,λh=>⟨λh2=>⟨.tup [Bo.nilP,i 9],⟨rfl,⟨rfl,rfl⟩,True.intro⟩,(hQ.2 h).1 h2⟩,λh2=>⟨.tup [.ro [i 4,i 10,sls n a b c lo hi,.lst 1 (2^n) (λz=>[i (eD n a b c lo hi (2^n) z)]),.lst 1 (2^n) (λz=>[i (lS n a b c lo hi (2^n-1) z)])],i 0],⟨rfl,⟨rfl,rfl⟩,True.intro⟩,(hQ.2 h).2 h2⟩⟩⟩⟩
theorem C1(a b c lo hi:Nat->Int)(VT:sV n a b c lo hi):UO VP 26 [.agg [i 4,i 10,sls n a b c lo hi],.lit true] (.branch (!true) (.leaf (.tup [Bo.nilP,i 2])) (.branch (!zJ n a b c lo hi) (.leaf (.tup [Bo.nilP,i 9])) (.leaf (.tup [.ro [i 4,i 10,sls n a b c lo hi,.lst 1 (2^n) (λz=>[i (eD n a b c lo hi (2^n) z)]),.lst 1 (2^n) (λz=>[i (lS n a b c lo hi (2^n-1) z)])],i 0])))):=by
 refine GT (L:=[]) (VL.cons (yY n a b c lo hi VT.1) (VL.cons (hO n a b c lo hi (eD n a b c lo hi (2^n)) (lS n a b c lo hi (2^n-1)) VT.1) (VL.nil _))) (VX.of (VR.cons (hU n a b c lo hi VT) (VR.nil _)) (VO.nil _)) VZ Tryz.func26 (UV Tryz.f26) G8 (t:=let z0:=(AV.ro [iI 4,iI 10,Q0 n a b c lo hi,lst 1 (2^n) λz=>[iI (eD n a b c lo hi (2^n) z)],lst 1 (2^n) λz=>[iI (lS n a b c lo hi (2^n-1) z)]]);(need [U0 (XB n a b c lo hi)] (branch ((if zS n a b c lo hi=true then (0:Int) else (1:Int)) != 0) (leaf (tup [QE,iI (if zS n a b c lo hi=true then (0:Int) else (1:Int))])) (need [U0 (XB n a b c lo hi)] (need [U0 ([z0])] (branch (!eD n a b c lo hi (2^n) (2^n-1) != 101) (leaf (tup [QE,iI 9])) (leaf (tup [z0,iI 0])))))))) VU ?_
 intro Q hQ;simp only [VN.sat,UB,UJ] at hQ ⊢;rw [aI VT]
 replace hQ:=hQ.2 rfl
 refine ⟨λh=>by simp at h,λ_=>⟨λh2=>⟨.tup [Bo.nilP,i 9],⟨rfl,⟨rfl,rfl⟩,True.intro⟩,hQ.1 h2⟩,λh2=>⟨.tup [.ro [i 4,i 10,sls n a b c lo hi,.lst 1 (2^n) (λz=>[i (eD n a b c lo hi (2^n) z)]),.lst 1 (2^n) (λz=>[i (lS n a b c lo hi (2^n-1) z)])],i 0],⟨rfl,⟨rfl,rfl⟩,True.intro⟩,hQ.2 h2⟩⟩⟩
theorem rF(a b c lo hi:Nat->Int)(VT:sV n a b c lo hi):UO VP 26 [.agg [i 4,i 10,sls n a b c lo hi],.lit false] (.branch (!false) (.leaf (.tup [Bo.nilP,i 2])) (.branch (!zJ n a b c lo hi) (.leaf (.tup [Bo.nilP,i 9])) (.leaf (.tup [.ro [i 4,i 10,sls n a b c lo hi,.lst 1 (2^n) (λz=>[i (eD n a b c lo hi (2^n) z)]),.lst 1 (2^n) (λz=>[i (lS n a b c lo hi (2^n-1) z)])],i 0])))):=by
 refine GT (L:=[]) (VL.cons (yY n a b c lo hi VT.1) (VL.cons (hO n a b c lo hi (eD n a b c lo hi (2^n)) (lS n a b c lo hi (2^n-1)) VT.1) (VL.nil _))) (VX.of (VR.cons (hU n a b c lo hi VT) (VR.nil _)) (VO.nil _)) VZ Tryz.func26 (UV Tryz.f26) G8 (t:=need [U0 (XB n a b c lo hi)] (branch ((if zS n a b c lo hi=true then (0:Int) else (1:Int)) != 0) (leaf (tup [QE,iI (if zS n a b c lo hi=true then (0:Int) else (1:Int))])) (leaf (tup [QE,iI 2])))) VU ?_
 intro Q hQ;simp only [VN.sat,UB,UJ] at hQ ⊢;rw [aI VT];exact ⟨λh=>by simp at h,λ_=>⟨.tup [Bo.nilP,i 2],⟨rfl,⟨rfl,rfl⟩,True.intro⟩,hQ.1 rfl⟩⟩
def M3(a b c lo hi:Nat->Int):DG:=λl=>match l with
 |[bt,.x (.bool rt)]=>some (.need [bt= .agg [i 4,i 10,sls n a b c lo hi]] (.branch (!rt) (.leaf (.tup [Bo.nilP,i 2])) (.branch (!zJ n a b c lo hi) (.leaf (.tup [Bo.nilP,i 9])) (.leaf (.tup [.ro [i 4,i 10,sls n a b c lo hi,.lst 1 (2^n) (λz=>[i (eD n a b c lo hi (2^n) z)]),.lst 1 (2^n) (λz=>[i (lS n a b c lo hi (2^n-1) z)])],i 0])))))
 |[bt,.lit rt]=>some (.need [bt= .agg [i 4,i 10,sls n a b c lo hi]] (.branch (!rt) (.leaf (.tup [Bo.nilP,i 2])) (.branch (!zJ n a b c lo hi) (.leaf (.tup [Bo.nilP,i 9])) (.leaf (.tup [.ro [i 4,i 10,sls n a b c lo hi,.lst 1 (2^n) (λz=>[i (eD n a b c lo hi (2^n) z)]),.lst 1 (2^n) (λz=>[i (lS n a b c lo hi (2^n-1) z)])],i 0])))))
 |_=>none
theorem yV(a b c lo hi:Nat->Int)(VT:sV n a b c lo hi):Sx.Enters Tryz.prog 26/\ ∀avs t,M3 n a b c lo hi avs=some t->UO VP 26 avs t:=by
 refine ⟨(UK Tryz.func26),?_⟩;intro avs t h;unfold M3 at h;split at h
 ·cases h;intro Q hQ;have e:=hQ.1
  dsimp only [UB] at e
  subst e;exact Qj9 n a b c lo hi _ VT Q hQ.2
 ·cases h;intro Q hQ;have e:=hQ.1
  dsimp only [UB] at e
  subst e;rename_i rt;cases rt
  ·exact rF n a b c lo hi VT Q hQ.2
  ·exact C1 n a b c lo hi VT Q hQ.2
 ·cases h
def dL{α:Type}(f:Nat->Option α):Nat->Nat->Option α
 |_,0=>none
 |s,k+1=>match f s with
  |some r=>some r
  |none=>dL f (s+1) k
def orQ(a b c lo hi:Nat->Int)(g:Nat->Int->Option (List (Nat×Int)))(d:Nat)(day:Int)(q:Nat):Option (List (Nat×Int)):=
 if max day (lo (UR (quB n a b c d) n q))>hi (UR (quB n a b c d) n q) then none else
  match g (d ||| 2^UR (quB n a b c d) n q) (max day (lo (UR (quB n a b c d) n q))) with
  |some l=>some (l++[(UR (quB n a b c d) n q,max day (lo (UR (quB n a b c d) n q)))])
  |none=>none
end
def orF(n:Nat)(a b c lo hi:Nat->Int):Nat->Nat->Int->Option (List (Nat×Int))
 | 0,_,_=>none
 |N+1,d,day=>if d=2^n-1 then some [] else dL (orQ n a b c lo hi (orF n a b c lo hi N) d day) 0 (quN n a b c d)
def orS(n:Nat)(a b c lo hi:Nat->Int)(d:Nat)(day:Int):Option (List (Nat×Int)):=orF n a b c lo hi (2^n) d day
def orL(l:List (Nat×Int)):List Int:=l.map λp=>(p.1:Int)
def dyU:List (Nat×Int)->(Nat->Int)->Nat->Int
 |[],f=>f
 |p::t,f=>dyU t (UT p.1 p.2 f)
section
variable (n:Nat)(a b c lo hi:Nat->Int)
def orG(d:Nat)(day:Int):List (Nat×Int):=(orS n a b c lo hi d day).getD []
def orH(x:Value):Prop:= ∃(d:Nat) (day:Int),x= .agg #[.int .i64 d,.int .i64 day]/\d<2^n/\orS n a b c lo hi d day=none
end
def orV:Value->Value:=λ_=> .bool true
def stK(x:Value):Prop:= ∃(d day:Int),x= .agg #[.int .i64 d,.int .i64 day]
theorem Wc8(l m:List Int): ∀k,UA (l++m) k=if k<l.length then UA l k else UA m (k-l.length):=by
 induction l with
 |nil=>intro k;simp
 |cons x l ih=>
  intro k;cases k with
  |zero=>simp [UA]
  |succ k=>
   show UA (l++m) k=_;rw [ih];simp only [List.length_cons,Nat.add_lt_add_iff_right,Nat.add_sub_add_right];rfl
theorem E8: ∀{l:List Int} {k:Nat} (h:k<l.length),UA l k=l[k]
 |x::l,0,h=>rfl
 |x::l,k+1,h=>E8 (l:=l) (k:=k) (by simpa using h)
theorem dK{α:Type}{f:Nat->Option α}: ∀{k s:Nat},dL f s k=none↔ ∀j,s<=j->j<s+k->f j=none
 | 0,s=>⟨λ_ j h1 h2=>VK,λ_=>rfl⟩
 |k+1,s=>by
  unfold dL;cases h:f s with
  |some r=>exact ⟨λh1=>(by cases h1),λh1=>(by rw [h1 s (Nat.le_refl _) VK] at h;cases h)⟩
  |none=>
   simp only;rw [dK];refine ⟨λh1 j h2 h3=>?_,λh1 j h2 h3=>h1 j VK VK⟩
   rcases (show j=s\/s+1<=j by omega) with rfl|h4
   ·exact h
   ·exact h1 j h4 VK
theorem OA{α:Type}{f:Nat->Option α}{r:α}{q:Nat}(hq:f q=some r): ∀{k s:Nat},s<=q->q<s+k->(∀j,s<=j->j<q->f j=none)->dL f s k=some r
 | 0,s,h1,h2,_=>VK
 |k+1,s,h1,h2,h3=>by
  unfold dL;rcases (show s=q\/s<q by omega) with rfl|h4
  ·rw [hq]
  ·rw [h3 s (Nat.le_refl _) h4];exact OA hq h4 VK (λj h5 h6=>h3 j VK h6)
theorem I4{α:Type}{f g:Nat->Option α}: ∀{k s:Nat},(∀j,s<=j->j<s+k->f j=g j)->dL f s k=dL g s k
 | 0,_,_=>rfl
 |k+1,s,h=>by
  unfold dL;rw [h s (Nat.le_refl _) VK,I4 (λj h1 h2=>h j VK VK)]
theorem rR{n:Nat}(h:n<=8):2^n<=256:=by
 have:=uH h;have hpn:((2^n:Nat):Int)=2^n:=VW;omega
theorem Xq8{n:Nat}{a b c:Nat->Int}{d q:Nat}(h8:n<=8)(hd:d<2^n)(hq:q<quN n a b c d):d<d ||| 2^UR (quB n a b c d) n q:=by
 have hs:=u7 hq;have h2:=rR h8;have hb:MQ d (UR (quB n a b c d) n q)=false:=by
  have:=hs.2;unfold quB at this;rw [H9] at this;have h1:=this.1;unfold quB;simpa using h1
 rw [Wn4 VK] at hb;have hle:d<=d ||| 2^UR (quB n a b c d) n q:=Nat.left_le_or
 rcases Nat.lt_or_eq_of_le hle with h|h
 ·exact h
 ·exfalso;have:(d ||| 2^UR (quB n a b c d) n q).testBit (UR (quB n a b c d) n q)=true:=by
   rw [Nat.testBit_or,Nat.testBit_two_pow_self,Bool.or_true]
  rw [←h,hb] at this;cases this
theorem cQ{n:Nat}{a b c lo hi:Nat->Int}(h8:n<=8): ∀(N N' d:Nat) (day:Int),d<2^n->2^n-d<=N->2^n-d<=N'->orF n a b c lo hi N d day=orF n a b c lo hi N' d day
 | 0,_,d,_,h1,h2,_=>VK
 |N+1,0,d,_,h1,_,h3=>VK
 |N+1,N'+1,d,day,h1,h2,h3=>by
  simp only [orF];split
  ·rfl
  ·refine I4 λq _ hq=>?_
   have hq:q<quN n a b c d:=VK;have hg:=Xq8 h8 h1 hq;have hl:=tK h1 (u7 hq).1;unfold orQ;rw [cQ h8 N N' _ _ hl VK VK]
section
variable {n:Nat}{a b c lo hi:Nat->Int}
theorem nS(h8:n<=8){d:Nat}(day:Int)(hd:d<2^n):orS n a b c lo hi d day=if d=2^n-1 then some [] else dL (orQ n a b c lo hi (orS n a b c lo hi) d day) 0 (quN n a b c d):=by
 have h:orS n a b c lo hi d day=orF n a b c lo hi (2^n+1) d day:=cQ h8 _ _ _ _ hd VK VK;rw [h];rfl
theorem Wb8(h8:n<=8)(day:Int):orS n a b c lo hi (2^n-1) day=some []:=by
 have:=rR h8;have:0<2^n:=Nat.two_pow_pos n;rw [nS h8 day VK,if_pos rfl]
end
theorem Xe0(l:List (Nat×Int))(p:Nat×Int):orL (l++[p])=orL l++[(p.1:Int)]:=by simp [orL]
theorem Qb9: ∀(l:List (Nat×Int)) (p:Nat×Int) (f:Nat->Int),dyU (l++[p]) f=UT p.1 p.2 (dyU l f)
 |[],_,_=>rfl
 |_::t,p,f=>Qb9 t p _
theorem tM{n:Nat}{a b c lo hi:Nat->Int}: ∀(N d:Nat) (day:Int) (l:List (Nat×Int)),orF n a b c lo hi N d day=some l->l.length<=N
 | 0,_,_,_,h=>by simp [orF] at h
 |N+1,d,day,l,h=>by
  simp only [orF] at h;split at h
  ·cases h;exact Nat.zero_le _
  ·obtain ⟨q,hq⟩: ∃q,orQ n a b c lo hi (orF n a b c lo hi N) d day q=some l:=by
    refine Classical.byContradiction λhno=>?_
    rw [dK.2 (λj _ _=>?_)] at h
    ·cases h
    ·cases hj:orQ n a b c lo hi (orF n a b c lo hi N) d day j with
     |none=>rfl
     |some r=>
      exfalso;have: ∀(f:Nat->Option (List (Nat×Int))) (k s:Nat) (r:List (Nat×Int)),dL f s k=some r-> ∃q,f q=some r:=by
       intro f k
       induction k with
       |zero=>intro s r h;cases h
       |succ k ih=>
        intro s r h;unfold dL at h;cases hf:f s with
        |some r'=>rw [hf] at h;cases h;exact ⟨s,hf⟩
        |none=>rw [hf] at h;exact ih _ _ h
      exact hno (this _ _ _ _ h)
   unfold orQ at hq;split at hq
   ·cases hq
   ·split at hq
    ·rename_i l' hl';cases hq;have:=tM N _ _ _ hl';rw [List.length_append];simp;omega
    ·cases hq
theorem tL(n:Nat)(a b c lo hi:Nat->Int)(d:Nat)(day:Int):(orG n a b c lo hi d day).length<=2^n:=by
 unfold orG;cases h:orS n a b c lo hi d day with
 |none=>exact Nat.zero_le _
 |some l=>exact tM _ _ _ _ h
theorem NM(d day:Int):FC Tryz.prog 329 stK (.agg #[.int .i64 d,.int .i64 day]) (.bool false):=by
 refine ⟨⟨332,4,(match Tryz.prog.underlying 332 with|some (.struct fs)=>fs|_=>#[]),VU,VU,?_,?_,?_⟩,by simp [Instr.sameBits]⟩
 ·intro b' w;kernel_rfl
 ·rintro k' ⟨d',day',rfl⟩ w;refine ⟨d==d'&&(day==day'&&true),xF (P:=Tryz.prog) (e:=PD w w) Op.maxDepth 332 (.agg [i d,i day]) (.agg [i d',i day']) _ _ _ VU (Rep.aggL (U4.cons (.x _) (U4.one (.x _)))) (Rep.aggL (U4.cons (.x _) (U4.one (.x _)))),λh=>?_⟩
  simp only [Bool.and_true,H9,beq_iff_eq] at h;obtain ⟨rfl,rfl⟩:=h;rfl
 ·intro w;kernel_rfl
theorem Wb9{n:Nat}{a b c lo hi:Nat->Int}{x:Value}(h:orH n a b c lo hi x):stK x:=by
 obtain ⟨d,day,h,_⟩:=h;exact ⟨_,_,h⟩
section
variable (n:Nat)(a b c lo hi:Nat->Int)(ea la:AV)
def OM(d:Nat)(day:Int)(ord:List Int)(dy:Nat->Int)(oa:Option Addr)(ol oc:Nat)(da:Option Addr)(dl dc:Nat):GZ:=[(3,.cells 61 [.row 900]),(3,.cells 61 [.x (.slice oa ol oc)]),(900,.row 3 1 ord.length (λj=>[i (UA ord j)])),(5,.memo (orH n a b c lo hi) orV),(7,.row 3 1 n (λj=>[i (dy j)])),(0,.keep 84 [.ro [i 4,i 10,sls n a b c lo hi,ea,la]]),(1,.keep 329 [.mp 5]),(2,.keep 330 [.fn (.func 222) [] [.ptr 0 0,.ptr 1 0,.ptr 2 0,.ptr 3 0,.ptr 4 0]]),(4,.cells 61 [.row 7]),(4,.cells 61 [.x (.slice da dl dc)])]
def OT_(d:Nat)(day:Int)(ord:List Int)(dy:Nat->Int)(oa:Option Addr)(ol oc:Nat)(da:Option Addr)(dl dc:Nat)(l:List (Nat×Int)):St:={σ:=[],m:=[(3,.cells 61 [.row 900]),(900,.row 3 1 (ord++orL l).length (λj=>[i (UA (ord++orL l) j)])),(5,.memo (orH n a b c lo hi) orV),(7,.row 3 1 n (λj=>[i ((dyU l dy) j)])),(0,.keep 84 [.ro [i 4,i 10,sls n a b c lo hi,ea,la]]),(1,.keep 329 [.mp 5]),(2,.keep 330 [.fn (.func 222) [] [.ptr 0 0,.ptr 1 0,.ptr 2 0,.ptr 3 0,.ptr 4 0]]),(4,.cells 61 [.row 7]),(4,.cells 61 [.x (.slice da dl dc)])],nx:=901,sv:=[[.ptr 0 0,.ptr 1 0,.ptr 2 0,.ptr 3 0,.ptr 4 0]] }
def OF_(d:Nat)(day:Int)(ord:List Int)(dy:Nat->Int)(oa:Option Addr)(ol oc:Nat)(da:Option Addr)(dl dc:Nat):St:={σ:=[],m:=[(3,.cells 61 [.row 900]),(3,.cells 61 [.x (.slice oa ol oc)]),(900,.row 3 1 ord.length (λj=>[i (UA ord j)])),(5,.memo (orH n a b c lo hi) orV),(7,.row 3 1 n (λj=>[i (dy j)])),(0,.keep 84 [.ro [i 4,i 10,sls n a b c lo hi,ea,la]]),(1,.keep 329 [.mp 5]),(2,.keep 330 [.fn (.func 222) [] [.ptr 0 0,.ptr 1 0,.ptr 2 0,.ptr 3 0,.ptr 4 0]]),(4,.cells 61 [.row 7]),(4,.cells 61 [.x (.slice da dl dc)])],nx:=901,sv:=[[.ptr 0 0,.ptr 1 0,.ptr 2 0,.ptr 3 0,.ptr 4 0]] }
end
def NK:List (Nat×Nat)->Bool
 |[]=>true
 |(x,y)::t=>match Nat.beq x y with
  |true=>NK t
  |false=>false
def Xf4:GO->Bool
 | .aka _ _ _ _ _=>true
 |_=>false
def nX:GZ->GZ
 |[]=>[]
 |(k,r)::t=>match Xf4 r with
  |true=>nX t
  |false=>(k,r)::nX t
def x7(k:Nat)(g:Nat->List AV):List Int:=(List.range k).map (col 0 g)
def mI(n:Nat)(a b c lo hi:Nat->Int)(N:Nat):HZ:=λavs m nx sv=>match avs with
 |[.agg [.x (.int .i64 d),.x (.int .i64 day)],.ptr k z0,.ptr g z1,.ptr f z2,.ptr o z3,.ptr dd z4]=>match DE m k,DE m g,DE m f,DE m o,DE m dd with
  |some (.keep Tk [.ro [c1,c2,sl,ea,la]]),some (.keep Tg [.mp mg]),some (.keep Tf [.fn (.func fg) [] [.ptr k' y0,.ptr g' y1,.ptr f' y2,.ptr o' y3,.ptr d' y4]]),some (.cells To [.row q]),some (.cells Td [.row r])=>match DE m mg,DE m q,DE m r with
   |some (.memo h ff),some (.row T1 s1 k1 g1),some (.row T2 s2 k2 g2)=>
    match NK [(z0,0),(z1,0),(z2,0),(z3,0),(z4,0),(y0,0),(y1,0),(y2,0),(y3,0),(y4,0),(Tk,84),(Tg,329),(Tf,330),(To,61),(Td,61),(fg,222),(k,k'),(g,g'),(f,f'),(o,o'),(dd,d'),(T1,3),(s1,1),(T2,3),(s2,1)]&&(!Nat.beq q r&& !Nat.beq o dd) with
    |true=>some (.needT [c1=i 4,c2=i 10,sl=sls n a b c lo hi,∀x,h x->orH n a b c lo hi x/\ff x=orV x,UF 1 k1 g1,UF 1 k2 g2,k2=n,0<=d/\d<2^n,2^n-d.toNat<=N,0<=day/\day<=100,k1<=1000]
      (.branch (orS n a b c lo hi d.toNat day).isSome
       (.leaf (.lit true,(nx,.row 3 1 (x7 k1 g1++orL (orG n a b c lo hi d.toNat day)).length (λj=>[i (UA (x7 k1 g1++orL (orG n a b c lo hi d.toNat day)) j)]))::qB (qB (qB (j5 (nX m) q) o (.cells 61 [.row nx])) r (.row 3 1 n (λj=>[i (dyU (orG n a b c lo hi d.toNat day) (col 0 g2) j)]))) mg (.memo (orH n a b c lo hi) orV),nx+1,sv))
       (.leaf (.lit false,qB (qB (qB (nX m) q (.row 3 1 k1 g1)) r (.row 3 1 n g2)) mg (.memo (orH n a b c lo hi) orV),nx,sv))))
    |false=>none
   |_,_,_=>none
  |_,_,_,_,_=>none
 |_=>none
theorem Ji1{l:List Int}{x:Int}{j:Nat}(h:j<l.length+1):GI l.length (λj=>[i (UA l j)]) (U6 1 [i x]) j=[i (UA (l++[x]) j)]:=by
 rw [Wc8];show HB (decide (j<l.length)) _ (U6 1 [i x] (j-l.length))=_;rw [show j-l.length=0 by omega]
 by_cases hj:j<l.length
 ·rw [decide_eq_true hj,if_pos hj];rfl
 ·rw [decide_eq_false hj,if_neg hj];rfl
theorem nC(n:Nat)(f:Nat->Int):UF 1 n (λj=>[i (f j)]):=λj _=>rfl
theorem SW(l:List Int):x7 l.length (λj=>[i (UA l j)])=l:=by
 unfold x7;apply List.ext_getElem?;intro j;rcases Nat.lt_or_ge j l.length with hj|hj
 ·rw [List.getElem?_map,List.getElem?_range hj,HY VK];simp only [Option.map_some,HE];unfold col;show UA l j=l[j];exact E8 VK
 ·rw [List.getElem?_eq_none (by simp;omega),List.getElem?_eq_none VK]
abbrev QN:AV:=AV.fn (Fn.func 222) [] [ptr 0 0,ptr 1 0,ptr 2 0,ptr 3 0,ptr 4 0]
section
variable (n:Nat)(a b c lo hi:Nat->Int)(ea la:AV)(d:Nat)(day:Int)(ord:List Int)(dy:Nat->Int)(oa:Option Addr)(ol oc:Nat)(da:Option Addr)(dl dc:Nat)
def Wz9(N:Nat):St:={σ:=[agg [iI (d:Int),iI day],ptr 0 0,ptr 1 0,ptr 2 0,ptr 3 0,ptr 4 0,ptr 901 0,ptr 902 0]++HI 14 [AV.fn (Fn.func 108) [] [AV.ro [QQ n a b c lo hi ea la],AV.ro [iI (d:Int)]]]++HI 33 [],m:=[(902,GO.cells 4 [AV.x (WQ)]),(901,GO.cells 332 [iI (d:Int),iI day]),(3,GO.cells 61 [AV.row 900]),(3,GO.cells 61 [AV.x (.slice oa ol oc)]),(900,GO.row 3 1 (List.length ord) λj=>[iI (UA ord j)]),(5,GO.memo (λx=>orH n a b c lo hi x) λa=>Value.bool true),(7,GO.row 3 1 n λj=>[iI (dy j)]),(0,GO.keep 84 [QQ n a b c lo hi ea la]),(1,GO.keep 329 [AV.mp 5]),(2,GO.keep 330 [QN]),(4,GO.cells 61 [AV.row 7]),(4,GO.cells 61 [AV.x (.slice da dl dc)])],nx:=915,sv:=[[ptr 0 0,ptr 1 0,ptr 2 0,ptr 3 0,ptr 4 0]] }
noncomputable def Js0:Code:=SM (VS (U8 Tryz.f222) 0)
noncomputable def Jp6:Code:=SL (VS (U8 Tryz.f222) 0)
def Wg8(N:Nat)(k:Nat):St:={σ:=H4 [(8,.top),(9,.top),(10,.top)] (Wz9 n a b c lo hi ea la d day ord dy oa ol oc da dl dc N).σ,m:=[(902,.cells 4 [.x (.bool false)]),(901,.cells 332 [i d,i day]),(3,.cells 61 [.row 900]),(3,.cells 61 [.x (.slice oa ol oc)]),(900,.row 3 1 ord.length (λj=>[i (UA ord j)])),(5,.memo (orH n a b c lo hi) orV),(7,.row 3 1 n (λj=>[i (dy j)])),(0,.keep 84 [.ro [i 4,i 10,sls n a b c lo hi,ea,la]]),(1,.keep 329 [.mp 5]),(2,.keep 330 [.fn (.func 222) [] [.ptr 0 0,.ptr 1 0,.ptr 2 0,.ptr 3 0,.ptr 4 0]]),(4,.cells 61 [.row 7]),(4,.cells 61 [.x (.slice da dl dc)])],nx:=920,sv:=[[.ptr 0 0,.ptr 1 0,.ptr 2 0,.ptr 3 0,.ptr 4 0]] }
def v7(N:Nat)(k:Nat):G6->Option St
 | .normal=>some {σ:=H4 [(8,.top),(9,.top),(10,.top)] (Wz9 n a b c lo hi ea la d day ord dy oa ol oc da dl dc N).σ,m:=[(902,.cells 4 [.x (.bool false)]),(901,.cells 332 [i d,i day]),(3,.cells 61 [.row 900]),(3,.cells 61 [.x (.slice oa ol oc)]),(900,.row 3 1 ord.length (λj=>[i (UA ord j)])),(5,.memo (orH n a b c lo hi) orV),(7,.row 3 1 n (λj=>[i (dy j)])),(0,.keep 84 [.ro [i 4,i 10,sls n a b c lo hi,ea,la]]),(1,.keep 329 [.mp 5]),(2,.keep 330 [.fn (.func 222) [] [.ptr 0 0,.ptr 1 0,.ptr 2 0,.ptr 3 0,.ptr 4 0]]),(4,.cells 61 [.row 7]),(4,.cells 61 [.x (.slice da dl dc)])],nx:=920,sv:=[[.ptr 0 0,.ptr 1 0,.ptr 2 0,.ptr 3 0,.ptr 4 0]] }
 | .ret=>some {σ:=H4 [(8,.top),(9,.top),(10,.top)] (Wz9 n a b c lo hi ea la d day ord dy oa ol oc da dl dc N).σ,m:=[(902,.cells 4 [.lit true]),(901,.cells 332 [i d,i day]),(3,.cells 61 [.row 900]),(900,.row 3 1 (ord++orL (orG n a b c lo hi d day)).length (λj=>[i (UA (ord++orL (orG n a b c lo hi d day)) j)])),(5,.memo (orH n a b c lo hi) orV),(7,.row 3 1 n (λj=>[i ((dyU (orG n a b c lo hi d day) dy) j)])),(0,.keep 84 [.ro [i 4,i 10,sls n a b c lo hi,ea,la]]),(1,.keep 329 [.mp 5]),(2,.keep 330 [.fn (.func 222) [] [.ptr 0 0,.ptr 1 0,.ptr 2 0,.ptr 3 0,.ptr 4 0]]),(4,.cells 61 [.row 7]),(4,.cells 61 [.x (.slice da dl dc)])],nx:=920,sv:=[[.ptr 0 0,.ptr 1 0,.ptr 2 0,.ptr 3 0,.ptr 4 0]] }
 |_=>none
def Zn1(N:Nat):CT:= .branch (orS n a b c lo hi d day).isSome (.leaf (.ret,(v7 n a b c lo hi ea la d day ord dy oa ol oc da dl dc N 0 .ret).getD (Wz9 n a b c lo hi ea la d day ord dy oa ol oc da dl dc N))) (.leaf (.normal,(v7 n a b c lo hi ea la d day ord dy oa ol oc da dl dc N 0 .normal).getD (Wz9 n a b c lo hi ea la d day ord dy oa ol oc da dl dc N)))
def Xv2(N:Nat):UG:=GK [(.cell 3 0,900,3,1)] (HF (Wg8 n a b c lo hi ea la d day ord dy oa ol oc da dl dc N (0)) (Zn1 n a b c lo hi ea la d day ord dy oa ol oc da dl dc N))
end
abbrev ZX:Prop:=AV.row 900=AV.row 900
abbrev J8:Prop:=AV.row 7=AV.row 7
abbrev JM:Prop:=AV.mp 5=AV.mp 5
abbrev JW(ord:List Int):Prop:=List.length ord=List.length ord
abbrev KT:Prop:=ptr 901 0=ptr 901 0
abbrev KU:Prop:=ptr 902 0=ptr 902 0
theorem Ja6(n:Nat)(a b c lo hi:Nat->Int)(ea la:AV)(d:Nat)(day:Int)(ord:List Int)(dy:Nat->Int)(oa:Option Addr)(ol oc:Nat)(da:Option Addr)(dl dc:Nat)(N:Nat)(VT:sV n a b c lo hi)(UI:d<2^n/\d≠2^n-1)(HR:2^n-d<=N+1)(F1:0<=day/\day<=100)(BM:ord.length<=1000)(xY:GC VP 222 (mI n a b c lo hi N)):HQ VP (.rangeFunc (rfF (VS (U8 Tryz.f222) 0)) (jD (VS (U8 Tryz.f222) 0)) Js0 Jp6) (Xv2 n a b c lo hi ea la d day ord dy oa ol oc da dl dc N):=by
 refine P9 [(.cell 3 0,900,3,1)] (X:={R:=[(79,A3)],H:=[(222,(mI n a b c lo hi N))] }) (L:=[]) (VL.cons DY (VL.cons LC (VL.nil _))) (VX.of (VR.cons NC (VR.nil _)) (VO.cons xY (VO.nil _))) VZ U3 (V:=Nat) (Wg8 n a b c lo hi ea la d day ord dy oa ol oc da dl dc N) (λk=>k<=(quN n a b c d)/\ ∀j,j<k->orQ n a b c lo hi (orS n a b c lo hi) d day j=none) (λk=>k) (v7 n a b c lo hi ea la d day ord dy oa ol oc da dl dc N) (x0:=0) ⟨Nat.zero_le _,λj h=>absurd h (Nat.not_lt_zero _)⟩ rfl ?_ ?_ ?_ ?_ (g:=108) (caps:=[.ro [.ro [i 4,i 10,sls n a b c lo hi,ea,la]],.ro [i d]]) VU VU (yW ea la n a b c lo hi d VT (BX VT.1 UI.1)) (λ_=>rfl) ?_
 ·rintro k;kernel_rfl
 ·rintro k y E h;unfold v7 at h;split at h
  ·cases h;kernel_rfl
  ·cases h;kernel_rfl
  ·cases h
 ·rintro k;rfl
 ·rintro k y E h;unfold v7 at h;split at h
  ·cases h;rfl
  ·cases h;rfl
  ·cases h
 ·rintro Q hQ k hx;refine ⟨λhlt=>⟨(k+1),rfl,?_⟩,λPK=>?_⟩
  ·(with_reducible refine D6 (t:=let z5:=(quB n a b c (d:Int));let z3:=(UR z5 n k);let z6:=(U0 (AV.fn (Fn.func 108) [] [AV.ro [QQ n a b c lo hi ea la],AV.ro [iI (d:Int)]]));let z10:=(x7 (List.length ord) λj=>[i (UA ord j)]);let z1:=(BitVec.toNat (BitVec.ofInt 64 (d:Int) ||| BitVec.ofInt 64 ((1:Int)*2^UR z5 n k)));let z8:=(IntKind.wrap IntKind.i64 (z1:Int));let z4:=(orG n a b c lo hi (Int.toNat z8) (max day (lo z3)));let z9:=(orG n a b c lo hi d day);let z7:=orH n a b c lo hi;let z0:=(need [UH z3 n] (need [UR z5 n k<n] (need [U0 (agg [iI (d:Int),iI day]),QL,WS,ZD,ZI,W9,KT,KU,z6,U0 (AV.lit true),U0 (d:Int),day=day,ZX,List.length (z10++orL z4)+1=List.length (ord++orL z9),∀(i:Nat),i<List.length (ord++orL z9)->GI (List.length ((x7 (List.length ord) λj=>[iI (UA ord j)])++orL z4)) (λj=>[iI (UA ((x7 (List.length ord) λj=>[iI (UA ord j)])++orL z4) j)]) (U6 1 [iI (z3:Int)]) i=[iI (UA (ord++orL z9) i)],∀(k:Value),z7 k->z7 k/\orV k=orV k,n=n,∀(i:Nat),i<n->HB (decide (i=UR z5 n k)) [iI (max day (lo z3))] [iI (dyU z4 dy i)]=[iI (dyU z9 dy i)],ZP n a b c lo hi ea la,JM,QN=QN,J8,U0 (AV.x (.slice da dl dc)),QL,WS,ZD,ZI,W9] (leaf G6.ret))));let z2:=(need [U0 (agg [iI (d:Int),iI day]),QL,WS,ZD,ZI,W9,KT,KU,z6,false=false,U0 (d:Int),day=day,ZX,U0 (AV.x (.slice oa ol oc)),JW ord,∀(i:Nat),i<List.length ord->[iI (UA ord i)]=[iI (UA ord i)],∀(k:Value),z7 k->z7 k/\orV k=orV k,n=n,∀(i:Nat),i<n->[iI (dy i)]=[iI (dy i)],ZP n a b c lo hi ea la,JM,QN=QN,J8,U0 (AV.x (.slice da dl dc)),QL,WS,ZD,ZI,W9] (leaf G6.normal));(branch (decide (max day (lo z3)>hi z3)) z2 (need [(0:Int)<=(z3:Int)/\(z3:Int)<=64,VM ((1:Int)*2^UR z5 n k)] (need [U0 (iI 4),U0 (iI 10),W8 n a b c lo hi,∀(x:Value),z7 x->z7 x/\orV x=orV x,UF 1 (List.length ord) λj=>[i (UA ord j)],UF 1 n λj=>[i (dy j)],n=n,(0:Int)<=IntKind.wrap IntKind.i64 (z1:Int)/\IntKind.wrap IntKind.i64 (z1:Int)<2^n,2^n-Int.toNat z8<=N,(0:Int)<=max day (lo z3)/\max day (lo z3)<=100,List.length ord<=1000] (branch (Option.isSome (orS n a b c lo hi (Int.toNat z8) (max day (lo z3)))) (need [(List.length (z10++orL z4)+1)*8<=140737488355328,RU 1 (U6 1 [iI (z3:Int)])] (VN.may True z0 (VN.may True z0 z0))) z2))))) VU ?_)
   simp only [Zn1,v7,VN.sat,GS] at hQ;obtain ⟨x1,x2⟩:=hx;have h8:=VT.1;have hd:=UI.1;have hd2:=BX h8 hd;have hpn:((2^n:Nat):Int)=2^n:=VW;have h256:=rR h8;have hs:=u7 hlt;have hor:=Wb6 h8 hd hs.1;have hol:=tK hd hs.1;have hgt:=Xq8 h8 hd hlt;have hsv:=tA VT hs.1;have h2s:(1:Int)<=2^UR (quB n a b c d) n k/\(2:Int)^UR (quB n a b c d) n k<=256:=uH VK;have BR:orS n a b c lo hi d day=dL (orQ n a b c lo hi (orS n a b c lo hi) d day) 0 (quN n a b c d):=by
    rw [nS h8 day hd,if_neg UI.2]
   simp only [VN.sat,UB,UJ,hor,FA,H6,SW]
   have Qn4:((d ||| 2^UR (quB n a b c d) n k:Nat):Int)<2^n:=by
    have h:((d ||| 2^UR (quB n a b c d) n k:Nat):Int)<((2^n:Nat):Int):=Int.ofNat_lt.2 hol
    rwa [hpn] at h
   have Xr6:orQ n a b c lo hi (orS n a b c lo hi) d day k=none-> ∀j,j<k+1->orQ n a b c lo hi (orS n a b c lo hi) d day j=none:=by
    intro h1 j h2;rcases (show j=k\/j<k by omega) with rfl|h3
    ·exact h1
    ·exact x2 j h3
   have hQe:orQ n a b c lo hi (orS n a b c lo hi) d day k=(if max day (lo (UR (quB n a b c d) n k))>hi (UR (quB n a b c d) n k) then none else match orS n a b c lo hi (d ||| 2^UR (quB n a b c d) n k) (max day (lo (UR (quB n a b c d) n k))) with
     |some l=>some (l++[(UR (quB n a b c d) n k,max day (lo (UR (quB n a b c d) n k)))])
     |none=>none):=rfl
   have gA: ¬max day (lo (UR (quB n a b c d) n k))>hi (UR (quB n a b c d) n k)->(orS n a b c lo hi (d ||| 2^UR (quB n a b c d) n k) (max day (lo (UR (quB n a b c d) n k)))).isSome=true->
     (orS n a b c lo hi d day).isSome=true/\orG n a b c lo hi d day=orG n a b c lo hi (d ||| 2^UR (quB n a b c d) n k) (max day (lo (UR (quB n a b c d) n k)))++[(UR (quB n a b c d) n k,max day (lo (UR (quB n a b c d) n k)))]:=by
    intro h1 h2;obtain ⟨l,hl⟩:=Option.isSome_iff_exists.1 h2;rw [if_neg h1,hl] at hQe;have h3:orS n a b c lo hi d day=some (l++[(UR (quB n a b c d) n k,max day (lo (UR (quB n a b c d) n k)))]):=by
     rw [BR];exact OA (q:=k) hQe (Nat.zero_le _) VK (λj _ h4=>x2 j h4)
    unfold orG;rw [h3,hl];exact ⟨rfl,rfl⟩
   have hk1:k+1<=quN n a b c d:=hlt;have hc1: ∀x:Int,∀(j:Nat),j<1-> ∀y,y∈U6 1 [iI x] j->AV.one y=true:=λx j _ y hy=>FQ hy (by simp [AV.one,Value.oneCell'])
   have hGl:=tL n a b c lo hi (d ||| 2^UR (quB n a b c d) n k) (max day (lo (UR (quB n a b c d) n k)))
   have hoL: ∀l:List (Nat×Int),(orL l).length=l.length:=λl=>by simp [orL]
   refine ⟨λh=>?_,λh=>?_⟩
   ·have hno:orQ n a b c lo hi (orS n a b c lo hi) d day k=none:=by
     rw [hQe,if_pos h]
    exact ⟨⟨λ_ _=>trivial,λ_ h=>h,λ_ _=>trivial⟩,hk1,Xr6 hno⟩
   ·refine ⟨⟨⟨VK,VK⟩,by simp only [VM,Int.one_mul];omega⟩,⟨λ_ h=>h,nC _ _,nC _ _,⟨VK,Qn4⟩,VK,⟨VK,VK⟩,BM⟩,λh2=>?_,λh2=>?_⟩
    ·obtain ⟨g1,g2⟩:=gA VK h2;rw [g2];have hln:(ord++orL (orG n a b c lo hi (d ||| 2^UR (quB n a b c d) n k) (max day (lo (UR (quB n a b c d) n k))))).length<=2000:=by
      rw [List.length_append,hoL];omega
     have hap:ord++orL (orG n a b c lo hi (d ||| 2^UR (quB n a b c d) n k) (max day (lo (UR (quB n a b c d) n k)))++[(UR (quB n a b c d) n k,max day (lo (UR (quB n a b c d) n k)))])=(ord++orL (orG n a b c lo hi (d ||| 2^UR (quB n a b c d) n k) (max day (lo (UR (quB n a b c d) n k)))))++[((UR (quB n a b c d) n k:Nat):Int)]:=by
      rw [Xe0,List.append_assoc]
     have hdy:dyU (orG n a b c lo hi (d ||| 2^UR (quB n a b c d) n k) (max day (lo (UR (quB n a b c d) n k)))++[(UR (quB n a b c d) n k,max day (lo (UR (quB n a b c d) n k)))]) dy=UT (UR (quB n a b c d) n k) (max day (lo (UR (quB n a b c d) n k))) (dyU (orG n a b c lo hi (d ||| 2^UR (quB n a b c d) n k) (max day (lo (UR (quB n a b c d) n k)))) dy):=Qb9 _ _ _
     rw [hap,hdy];refine ⟨⟨VK,hc1 _⟩,?_⟩;have hin:(0<=((UR (quB n a b c d) n k:Nat):Int)/\((UR (quB n a b c d) n k:Nat):Int)<n):=⟨VK,by have:=hs.1;omega⟩
     have hrw: ∀j,j<((ord++orL (orG n a b c lo hi (d ||| 2^UR (quB n a b c d) n k) (max day (lo (UR (quB n a b c d) n k)))))++[((UR (quB n a b c d) n k:Nat):Int)]).length->j<(ord++orL (orG n a b c lo hi (d ||| 2^UR (quB n a b c d) n k) (max day (lo (UR (quB n a b c d) n k))))).length+1:=λj hj=>by
      rw [List.length_append] at hj;simpa using hj
     (with_reducible repeat' first|apply And.intro|intro _)
     all_goals first|exact True.intro|exact hin.1|exact hin.2|exact hs.1|(rename_i E hE;cases hE;exact hQ.1 g1)|rfl|exact Ji1 (hrw _ (by assumption))|exact uD|(rw [List.length_append (bs:=[_])];rfl)|assumption
    ·have hno:orQ n a b c lo hi (orS n a b c lo hi) d day k=none:=by
      rw [hQe,if_neg VK];cases ho:orS n a b c lo hi (d ||| 2^UR (quB n a b c d) n k) (max day (lo (UR (quB n a b c d) n k))) with
      |none=>rfl
      |some l=>rw [ho] at h2;cases h2
     exact ⟨⟨λ_ _=>trivial,λ_ h=>h,λ_ _=>trivial⟩,hk1,Xr6 hno⟩
  ·have hk:k=quN n a b c d:=VK;subst hk;simp only [Zn1,v7,VN.sat,GS] at hQ;refine hQ.2 ?_;rw [nS VT.1 day UI.1,if_neg UI.2,dK.2 (λj _ hj=>hx.2 j VK)]
   rfl
theorem E7{x y:Nat}{t:List (Nat×Nat)}:NK ((x,y)::t)=true↔x=y/\NK t=true:=by
 show (match Nat.beq x y with|true=>NK t|false=>false)=true↔_
 cases h:Nat.beq x y with
 |true=>simp [GY h]
 |false=>
  simp only [Bool.false_eq_true,false_iff,not_and];intro he;rw [he,Nat.beq_refl] at h;cases h
theorem EA{m:GZ}{p:Nat×GO}(h:p∈nX m):p∈m/\Xf4 p.2=false:=by
 induction m with
 |nil=>cases h
 |cons q t ih=>
  obtain ⟨k,r⟩:=q;unfold nX at h;split at h
  ·exact ⟨HP _ (ih h).1,(ih h).2⟩
  ·rename_i hb;rcases GN.1 h with rfl|h
   ·exact ⟨GF,hb⟩
   ·exact ⟨HP _ (ih h).1,(ih h).2⟩
theorem L3{m:GZ}{id:Nat}{p:Nat×GO}(h:p∈j5 m id):p∈m/\p.1≠id:=by
 induction m with
 |nil=>cases h
 |cons q t ih=>
  obtain ⟨k,r⟩:=q;unfold j5 at h;split at h
  ·exact ⟨HP _ (ih h).1,(ih h).2⟩
  ·rename_i hb;rcases GN.1 h with rfl|h
   ·refine ⟨GF,?_⟩;rintro rfl;simp at hb
   ·exact ⟨HP _ (ih h).1,(ih h).2⟩
theorem Qj3{e:UL}{w:World}{id o n:Nat}{f:Nat->List AV}(h:Jn5 e w id o 3 1 n f)(hr:UF 1 n f):w.ownsRow 0 3 1 (e.val id) n ((x7 n f).map (Value.int .i64)):=by
 obtain ⟨h2,hf,xs,h3,h4⟩:=h;have hx:xs=(x7 n f).map (Value.int .i64):=by
  apply List.ext_getElem?;intro j;unfold x7;have hl:xs.length=n*1:=h3.1;rcases Nat.lt_or_ge j n with hj|hj
  ·have hx:xs[j]? =some xs[j]:=HY VK;have e1:(f j)[0]? =some (iI (col 0 f j)):=by
    rw [hr j hj];rfl
   have:=h4 j 0 _ xs[j] hj e1 (by rw [show j*1+0=j by omega];exact hx)
   rw [hx,this.x_inv];simp [hj]
  ·rw [List.getElem?_eq_none VK,List.getElem?_eq_none (by simp;omega)]
 subst hx;exact h3
theorem qC{e:UL}{w:World}{id n:Nat}{f:Nat->List AV}(h:GH e w id (.row 3 1 n f))(hr:UF 1 n f):w.ownsRow 0 3 1 (e.val id) n ((x7 n f).map (Value.int .i64)):=Qj3 (o:=id) h.2 hr
theorem tJ(n:Nat)(f:Nat->Int):x7 n (λj=>[i (f j)])=(List.range n).map f:=rfl
theorem xC{e:UL}{w:World}{id n:Nat}{f:Nat->Int}{ov:Value}{l:List Int}(hl:e.live id)(hv:e.val id=ov)(hob: ∀x,ov.ownBlock=some x->e.own x=some id)(HV:l.length=n)(hf: ∀j,j<n->l[j]? =some (f j))(ho:w.ownsRow 0 3 1 ov n (l.map (Value.int .i64))):GH e w id (.row 3 1 n (λj=>[i (f j)])):=by
 subst hv;refine ⟨hl,hob,λi hi=>⟨rfl,λa ha=>by rw [BE.1 ha];exact .x _⟩,_,ho,λi j a v hi ha hv=>?_⟩
 cases j with
 |zero=>
  simp only [List.getElem?_cons_zero,HE] at ha;subst ha;rw [show i*1+0=i by omega,List.getElem?_map,hf i hi] at hv
  simp only [Option.map_some,HE] at hv;rw [←hv];exact .x _
 |succ j=>simp at ha
theorem tO{l:List Int}{j:Nat}(h:j<l.length):l[j]? =some (UA l j):=by
 rw [E8 h,HY h]
theorem C0{n:Nat}{f:Nat->Int}{j:Nat}(h:j<n):((List.range n).map f)[j]? =some (f j):=by
 rw [List.getElem?_map,List.getElem?_range h];rfl
abbrev LQ(b:Nat):Value:= .pointer (some ⟨b,0,none⟩)
abbrev Zh0(bk bg bf bo bd:Nat):Value:= .func (.func 222) #[] #[LQ bk,LQ bg,LQ bf,LQ bo,LQ bd]
def Qh2(n:Nat)(a b c lo hi:Nat->Int)(N:Nat):Prop:= ∀(ea la:AV) (d:Nat) (day:Int) (ord:List Int) (dy:Nat->Int) (oa:Option Addr) (ol oc:Nat) (da:Option Addr) (dl dc:Nat),d<2^n->2^n-d<=N->(0<=day/\day<=100)->ord.length<=1000->
 Wz1 VP 222 [.agg [i d,i day],.ptr 0 0,.ptr 1 0,.ptr 2 0,.ptr 3 0,.ptr 4 0] (OM n a b c lo hi ea la d day ord dy oa ol oc da dl dc) 901 [[.ptr 0 0,.ptr 1 0,.ptr 2 0,.ptr 3 0,.ptr 4 0]] (OT_ n a b c lo hi ea la d day ord dy oa ol oc da dl dc (orG n a b c lo hi d day)) (OF_ n a b c lo hi ea la d day ord dy oa ol oc da dl dc) (orS n a b c lo hi d day).isSome
theorem tD{w:World}{ov:Value}{n:Nat}{xs:List Value}(h:w.ownsRow 0 3 1 ov n xs){b:Nat}(hb:ov.ownBlock=some b):b<w.heap.size:=(h.lt b hb).2
theorem Wb5{n:Nat}{a b c lo hi:Nat->Int}{N:Nat}(hs:Qh2 n a b c lo hi N){d:Nat}{day:Int}{ord:List Int}{dy:Nat->Int}(h1:d<2^n)(h2:2^n-d<=N)(h3:0<=day/\day<=100)(h4:ord.length<=1000)
  {w:World}{bk bg bf bo bd bm:Nat}{rb dv ov:Value}{ea la:AV}{R:UL}{es:Array MapEntry}{cn:Nat}(hgl:DF R w)
  (hk:w.heap[bk]? =some (.cells #[rb] 84 (0,0)))(hg:w.heap[bg]? =some (.cells #[.map (some bm)] 329 (0,0)))(hf:w.heap[bf]? =some (.cells #[Zh0 bk bg bf bo bd] 330 (0,0)))(hdb:w.heap[bd]? =some (.cells #[dv] 61 (0,0)))
  (ho:w.heap[bo]? =some (.cells #[ov] 61 (0,0)))(hm:w.heap[bm]? =some (.map es cn))(hes: ∀x∈es.toList,orH n a b c lo hi x.key/\x.val=orV x.key)
  (ES:w.ownsRow 0 3 1 ov ord.length (ord.map (Value.int .i64)))(Xr7:w.ownsRow 0 3 1 dv n (((List.range n).map dy).map (Value.int .i64)))(hov: ∃p q r,ov= .slice p q r)(hdv: ∃p q r,dv= .slice p q r)
  (hobm:bo≠bm)(hobd:bo≠bd)(hmbd:bm≠bd)(hoo: ∀x,ov.ownBlock=some x->x≠bo/\x≠bm/\x≠bd/\dv.ownBlock≠some x)(hdo: ∀x,dv.ownBlock=some x->x≠bo/\x≠bm/\x≠bd)
  (hR:Rep R w (.ro [i 4,i 10,sls n a b c lo hi,ea,la]) rb)(hro: ∀x,R.ro x->x<w.heap.size/\x≠bo/\x≠bm/\x≠bd/\ov.ownBlock≠some x/\dv.ownBlock≠some x)(rk:R.ro bk)(rg:R.ro bg)(rf:R.ro bf):
  Calls Tryz.prog 222 #[.agg #[.int .i64 d,.int .i64 day],LQ bk,LQ bg,LQ bf,LQ bo,LQ bd] w λen w1=>en= .returned (.bool (orS n a b c lo hi d day).isSome)/\w.heap.size<=w1.heap.size/\w1.os=w.os/\w1.tape=w.tape/\w1.output=w.output/\
   (∀x,x<w.heap.size->x≠bo->x≠bm->ov.ownBlock≠some x->dv.ownBlock≠some x->w1.heap[x]? =w.heap[x]?)/\(∃(es':Array MapEntry) (c':Nat),w1.heap[bm]? =some (.map es' c')/\ ∀x∈es'.toList,orH n a b c lo hi x.key/\x.val=orV x.key)/\
   ((orS n a b c lo hi d day).isSome=false->w1.heap[bo]? =some (.cells #[ov] 61 (0,0))/\w1.ownsRow 0 3 1 ov ord.length (ord.map (Value.int .i64))/\w1.ownsRow 0 3 1 dv n (((List.range n).map dy).map (Value.int .i64)))/\
   ((orS n a b c lo hi d day).isSome=true-> ∃y',w1.heap[bo]? =some (.cells #[y'] 61 (0,0))/\(∃p q r,y'= .slice p q r)/\w1.ownsRow 0 3 1 y' (ord++orL (orG n a b c lo hi d day)).length ((ord++orL (orG n a b c lo hi d day)).map (Value.int .i64))/\
    (∀x,y'.ownBlock=some x->w.heap.size<=x\/ov.ownBlock=some x)/\w1.ownsRow 0 3 1 dv n (((List.range n).map (dyU (orG n a b c lo hi d day) dy)).map (Value.int .i64))):=by
 have hob:=(P4.1 ho).1;have hmb:=(P4.1 hm).1;have hbb:=(P4.1 hdb).1;obtain ⟨oa,ol,oc,hov⟩:=hov;obtain ⟨da,dl,dc,hdv⟩:=hdv
 let e0:UL:={ro:=λx=>x<w.heap.size/\x≠bo/\x≠bm/\x≠bd/\ov.ownBlock≠some x/\dv.ownBlock≠some x,own:=λx=>if x=bo then some 3 else if x=bm then some 5 else if x=bd then some 4 else if ov.ownBlock=some x then some 900 else if dv.ownBlock=some x then some 7 else none,live:=λk=>k<901,blk:=λk=>if k=0 then bk else if k=1 then bg else if k=2 then bf else if k=3 then bo else if k=4 then bd else bm,val:=λk=>if k=7 then dv else ov}
 let c0:Cx:={M:=λ_=>False,Φ:=λ_ _ _=>True,K:=λx o=>e0.ro x/\w.heap[x]? =some o,saved:=[[LQ bk,LQ bg,LQ bf,LQ bo,LQ bd]],sz:=w.heap.size}
 let w00:World:={w with heap:=#[] }
 have Wl2: ∀x,R.ro x->e0.ro x:=λx hx=>hro x hx
 have o3:e0.own bo=some 3:=if_pos rfl;have o5:e0.own bm=some 5:=by simp [e0,Ne.symm hobm]
 have o4:e0.own bd=some 4:=by simp [e0,Ne.symm hobd,Ne.symm hmbd]
 have o9: ∀x,ov.ownBlock=some x->e0.own x=some 900:=by
  intro x hx;obtain ⟨q1,q2,q2',q3⟩:=hoo x hx;simp [e0,q1,q2,q2',hx]
 have o7: ∀x,dv.ownBlock=some x->e0.own x=some 7:=by
  intro x hx;obtain ⟨q1,q2,q2'⟩:=hdo x hx;have q3:ov.ownBlock≠some x:=λh=>(hoo x h).2.2.2 hx
  simp [e0,q1,q2,q2',q3,hx]
 have hE:G0 e0 w00.heap.size w:=by
  refine ⟨λx hx=>?_,λx k hk=>⟨Nat.zero_le _,?_⟩,λq p hp=>?_⟩
  ·obtain ⟨q0,q1,q2,q2',q3,q4⟩:=hx;exact ⟨by simp [e0,q1,q2,q2',q3,q4],q0⟩
  ·have hk:(if x=bo then some 3 else if x=bm then some 5 else if x=bd then some 4 else if ov.ownBlock=some x then some 900 else if dv.ownBlock=some x then some 7 else none)=some k:=hk
   split at hk
   ·rename_i h;rw [h];exact hob
   split at hk
   ·rename_i h;rw [h];exact hmb
   split at hk
   ·rename_i h;rw [h];exact hbb
   split at hk
   ·rename_i h;exact tD ES h
   split at hk
   ·rename_i h;exact tD Xr7 h
   ·cases hk
  ·obtain ⟨q1,q2⟩:=hgl q p hp;exact ⟨Wl2 _ q1,q2⟩
 have p0:Rep e0 w (.ptr 0 0) (LQ bk):= .ptr 0 0 (show 0<901 by omega)
 have p1:Rep e0 w (.ptr 1 0) (LQ bg):= .ptr 1 0 (show 1<901 by omega)
 have p2:Rep e0 w (.ptr 2 0) (LQ bf):= .ptr 2 0 (show 2<901 by omega)
 have p3:Rep e0 w (.ptr 3 0) (LQ bo):= .ptr 3 0 (show 3<901 by omega)
 have p4:Rep e0 w (.ptr 4 0) (LQ bd):= .ptr 4 0 (show 4<901 by omega)
 have p9:Rep e0 w (.row 900) ov:=by
  rw [hov];exact .row 900 _ _ _ (show 900<901 by omega) hov
 have p7:Rep e0 w (.row 7) dv:=by
  rw [hdv];exact .row 7 _ _ _ (show 7<901 by omega) hdv
 have p5:Rep e0 w (.mp 5) (.map (some bm)):= .mp 5 (show 5<901 by omega)
 have yM:U4 e0 w [.ptr 0 0,.ptr 1 0,.ptr 2 0,.ptr 3 0,.ptr 4 0] [LQ bk,LQ bg,LQ bf,LQ bo,LQ bd]:= .cons p0 (.cons p1 (.cons p2 (.cons p3 (.cons p4 (.nil _ _)))));have hfn:Rep e0 w (.fn (.func 222) [] [.ptr 0 0,.ptr 1 0,.ptr 2 0,.ptr 3 0,.ptr 4 0]) (Zh0 bk bg bf bo bd):= .fn _ [] _ [] _ rfl (λi a v h=>by simp at h) yM.1 yM.2
 have hrb:Rep e0 w (.ro [i 4,i 10,sls n a b c lo hi,ea,la]) rb:=by
  refine Rep.idf (e:=R) (e':=e0) Wl2 hR ?_;cases hR with
  |ro l vs b' o' g1 g2 g3 g4 g5 g6=>exact .ro _ g3
 have hM:UW e0 (OM n a b c lo hi ea la d day ord dy oa ol oc da dl dc) w:=by
  intro p hp;unfold OM at hp;simp only [GN,DU,or_false] at hp;rcases hp with rfl|rfl|rfl|rfl|rfl|rfl|rfl|rfl|rfl|rfl
  ·exact ⟨show 3<901 by omega,o3,[ov],ho,.cons p9 (.nil _ _)⟩
  ·exact ⟨show 3<901 by omega,o3,[ov],ho,.cons (by rw [hov];exact .x _) (.nil _ _)⟩
  ·exact xC (show 900<901 by omega) rfl o9 rfl (λj hj=>tO hj) ES
  ·exact ⟨show 5<901 by omega,o5,es,cn,hm,hes⟩
  ·exact xC (show 7<901 by omega) rfl o7 VW (λj hj=>C0 hj) Xr7
  ·exact ⟨show 0<901 by omega,Wl2 _ rk,(hro _ rk).1,[rb],hk,.cons hrb (.nil _ _)⟩
  ·exact ⟨show 1<901 by omega,Wl2 _ rg,(hro _ rg).1,[.map (some bm)],hg,.cons p5 (.nil _ _)⟩
  ·exact ⟨show 2<901 by omega,Wl2 _ rf,(hro _ rf).1,[Zh0 bk bg bf bo bd],hf,.cons hfn (.nil _ _)⟩
  ·exact ⟨show 4<901 by omega,o4,[dv],hdb,.cons p7 (.nil _ _)⟩
  ·exact ⟨show 4<901 by omega,o4,[dv],hdb,.cons (by rw [hdv];exact .x _) (.nil _ _)⟩
 have hX:Xt c0 e0 [[.ptr 0 0,.ptr 1 0,.ptr 2 0,.ptr 3 0,.ptr 4 0]] [] w:=
  ⟨⟨λd hd=>(by cases hd),List.nodup_nil⟩,λx o hk=>⟨hk.1,hk.1.1,hk.2⟩,L6.cons yM ⟨rfl,λi a v h=>by simp at h⟩,Nat.le_refl _⟩
 have hA:U4 e0 w [.agg [i d,i day],.ptr 0 0,.ptr 1 0,.ptr 2 0,.ptr 3 0,.ptr 4 0] [.agg #[.int .i64 d,.int .i64 day],LQ bk,LQ bg,LQ bf,LQ bo,LQ bd]:= .cons (Rep.aggL (.cons (.x _) (.cons (.x _) (.nil _ _)))) yM;have FG:=hs ea la d day ord dy oa ol oc da dl dc h1 h2 h3 h4 c0 w00 (λ_=>False) e0 _ w hE ⟨rfl,rfl,rfl,Nat.zero_le _,λk hk=>absurd hk (Nat.not_lt_zero _)⟩ hM (λk hk=>hk) (λ_ h=>h.elim) hX rfl hA
 refine FG.mono ?_;rintro en w1 ⟨hen,e1,g1,g2,g3,g4,_,g6⟩;have hsz:w.heap.size<=w1.heap.size:=g6.size;have O0: ∀x,x<w.heap.size->x≠bo->x≠bm->x≠bd->ov.ownBlock≠some x->dv.ownBlock≠some x->e1.ro x/\w1.heap[x]? =w.heap[x]? :=by
  intro x hx n1 n2 n2' n3 n4;have hk:=g6.kept x w.heap[x] ⟨⟨hx,n1,n2,n2',n3,n4⟩,by simp [hx]⟩
  exact ⟨hk.1,by rw [hk.2.2];simp [hx]⟩
 have keptR: ∀x,R.ro x->w1.heap[x]? =w.heap[x]? :=λx hx=>(O0 x (hro x hx).1 (hro x hx).2.1 (hro x hx).2.2.1 (hro x hx).2.2.2.1 (hro x hx).2.2.2.2.1 (hro x hx).2.2.2.2.2).2
 have hsv:(cond (orS n a b c lo hi d day).isSome (OT_ n a b c lo hi ea la d day ord dy oa ol oc da dl dc (orG n a b c lo hi d day)) (OF_ n a b c lo hi ea la d day ord dy oa ol oc da dl dc)).sv=[[.ptr 0 0,.ptr 1 0,.ptr 2 0,.ptr 3 0,.ptr 4 0]]:=by
  cases (orS n a b c lo hi d day).isSome<;>rfl
 have hsd:=g6.saved;rw [hsv] at hsd;have hs1:=hsd.2 0 _ _ rfl rfl;obtain ⟨v0,l0,q,r0,hs1⟩:=hs1.cons_inv;obtain ⟨rfl,rfl⟩:=List.cons.inj q;obtain ⟨v1,l1,q,r1,hs1⟩:=hs1.cons_inv;obtain ⟨rfl,rfl⟩:=List.cons.inj q;obtain ⟨v2,l2,q,r2,hs1⟩:=hs1.cons_inv;obtain ⟨rfl,rfl⟩:=List.cons.inj q;obtain ⟨v3,l3,q,r3,hs1⟩:=hs1.cons_inv;obtain ⟨rfl,rfl⟩:=List.cons.inj q;obtain ⟨v4,l4,q,r4,_⟩:=hs1.cons_inv;obtain ⟨rfl,rfl⟩:=List.cons.inj q;have ptr_inv: ∀{k x:Nat},Rep e1 w1 (.ptr k 0) (LQ x)->e1.blk k=x:=by
  intro k x h;cases h;rfl
 have b1:=ptr_inv r1;have b3:=ptr_inv r3;have b4:=ptr_inv r4;have uZ: ∀p,(p∈(OT_ n a b c lo hi ea la d day ord dy oa ol oc da dl dc (orG n a b c lo hi d day)).m/\p∈(OF_ n a b c lo hi ea la d day ord dy oa ol oc da dl dc).m)->GH e1 w1 p.1 p.2:=by
  intro p hp;refine g3 p ?_;cases (orS n a b c lo hi d day).isSome
  ·exact hp.2
  ·exact hp.1
 -- the days' row and the map bear their numbers still
 have hbd:w1.heap[bd]? =some (.cells #[dv] 61 (0,0)):=by
  obtain ⟨_,_,vs,q1,q2⟩:=uZ (4,.cells 61 [.x (.slice da dl dc)]) ⟨by simp [OT_],by simp [OF_]⟩
  obtain ⟨x,xs,rfl,t1,q2⟩:=q2.cons_inv;obtain rfl:=q2.nil_inv;rw [b4,t1.x_inv,←hdv] at q1;exact q1
 have b7:e1.val 7=dv:=by
  obtain ⟨_,_,vs,q1,q2⟩:=uZ (4,.cells 61 [.row 7]) ⟨by simp [OT_],by simp [OF_]⟩
  obtain ⟨x,xs,rfl,t1,q2⟩:=q2.cons_inv;obtain rfl:=q2.nil_inv;rw [b4,hbd] at q1;simp only [HE,Obj.cells.injEq] at q1;have:dv=x:=by simpa using q1.1
  subst this;clear q1 hbd;generalize dv=z at t1;cases t1 with
  |row _ a n c _ hv=>exact hv
 have hsm: ∀x,x<w.heap.size->x≠bo->x≠bm->ov.ownBlock≠some x->dv.ownBlock≠some x->w1.heap[x]? =w.heap[x]? :=by
  intro x hx n1 n2 n3 n4;rcases Classical.em (x=bd) with rfl|n5
  ·rw [hbd,hdb]
  ·exact (O0 x hx n1 n2 n5 n3 n4).2
 have b5:e1.blk 5=bm:=by
  obtain ⟨_,_,_,vs,q1,q2⟩:=uZ (1,.keep 329 [.mp 5]) ⟨by simp [OT_],by simp [OF_]⟩
  obtain ⟨x,xs,rfl,t1,q2⟩:=q2.cons_inv;obtain rfl:=q2.nil_inv;rw [b1,keptR _ rg,hg] at q1;simp only [HE,Obj.cells.injEq] at q1;have:Value.map (some bm)=x:=by simpa using q1.1
  subst this;cases t1;rfl
 have Je4: ∃(es':Array MapEntry) (c':Nat),w1.heap[bm]? =some (.map es' c')/\ ∀x∈es'.toList,orH n a b c lo hi x.key/\x.val=orV x.key:=by
  obtain ⟨_,_,es',c',q1,q2⟩:=uZ (5,.memo (orH n a b c lo hi) orV) ⟨by simp [OT_],by simp [OF_]⟩
  rw [b5] at q1;exact ⟨es',c',q1,q2⟩
 refine ⟨hen,hsz,g2.os,g2.tape,g2.output,hsm,Je4,λhb=>?_,λhb=>?_⟩
 ·rw [hb] at g3;have k3:=g3 (3,.cells 61 [.row 900]) (by simp [OF_])
  have k3':=g3 (3,.cells 61 [.x (.slice oa ol oc)]) (by simp [OF_])
  have k9:=g3 (900,.row 3 1 ord.length (λj=>[i (UA ord j)])) (by simp [OF_])
  have k7:=g3 (7,.row 3 1 n (λj=>[i (dy j)])) (by simp [OF_])
  obtain ⟨_,_,vs,q1,q2⟩:=k3';obtain ⟨x,xs,rfl,t1,q2⟩:=q2.cons_inv;obtain rfl:=q2.nil_inv;have hx:x=ov:=by rw [hov];exact t1.x_inv
  subst hx;have q1':w1.heap[e1.blk 3]? =some (.cells #[x] 61 (0,0)):=q1;rw [b3] at q1';have h9:e1.val 900=x:=by
   obtain ⟨_,_,vs,u1,u2⟩:=k3;obtain ⟨y,ys,rfl,t2,u2⟩:=u2.cons_inv;obtain rfl:=u2.nil_inv;have u1':w1.heap[e1.blk 3]? =some (.cells #[y] 61 (0,0)):=u1;rw [b3,q1'] at u1';simp only [HE,Obj.cells.injEq] at u1';have:x=y:=by simpa using u1'.1
   subst this;clear q1' u1' q1 u1 t1;generalize x=z at t2;cases t2 with
   |row _ a n c _ hv=>exact hv
  have r9:=qC k9 (nC _ _);have r7:=qC k7 (nC _ _);rw [h9,SW] at r9;rw [b7,tJ] at r7;exact ⟨q1',r9,r7⟩
 ·rw [hb] at g3;have k3:=g3 (3,.cells 61 [.row 900]) (by simp [OT_])
  have k9:=g3 (900,.row 3 1 (ord++orL (orG n a b c lo hi d day)).length (λj=>[i (UA (ord++orL (orG n a b c lo hi d day)) j)])) (by simp [OT_])
  have k7:=g3 (7,.row 3 1 n (λj=>[i (dyU (orG n a b c lo hi d day) dy j)])) (by simp [OT_])
  have k5:=g3 (5,.memo (orH n a b c lo hi) orV) (by simp [OT_])
  have o3':=k3.2.1;rw [b3] at o3';have o5':=k5.2.1;rw [b5] at o5';obtain ⟨_,_,vs,q1,q2⟩:=k3;obtain ⟨y,ys,rfl,t1,q2⟩:=q2.cons_inv;obtain rfl:=q2.nil_inv;have q1':w1.heap[e1.blk 3]? =some (.cells #[y] 61 (0,0)):=q1;rw [b3] at q1';have hy:(∃p q r,y= .slice p q r)/\e1.val 900=y:=by
   cases t1 with
   |row _ a n c _ hv=>exact ⟨⟨a,n,c,rfl⟩,hv⟩
  have r9:=qC k9 (nC _ _);have r7:=qC k7 (nC _ _);rw [hy.2,SW] at r9;rw [b7,tJ] at r7;refine ⟨y,q1',hy.1,r9,λz hz=>?_,r7⟩
  rcases Nat.lt_or_ge z w.heap.size with hlt|hge
  ·refine .inr ?_;have hoz:e1.own z=some 900:=k9.2.1 z (by show (e1.val 900).ownBlock=some z;rw [hy.2];exact hz)
   refine Classical.byContradiction λn3=>?_
   have n1:z≠bo:=by
    rintro rfl;rw [o3'] at hoz;cases hoz
   have n2:z≠bm:=by
    rintro rfl;rw [o5'] at hoz;cases hoz
   have n4:dv.ownBlock≠some z:=by
    intro h;have:=k7.2.1 z (by show (e1.val 7).ownBlock=some z;rw [b7];exact h)
    rw [this] at hoz;cases hoz
   have n5:z≠bd:=by
    rintro rfl;have:=(g3 (4,.cells 61 [.row 7]) (by simp [OT_])).2.1
    rw [b4] at this;rw [this] at hoz;cases hoz
   have hk:=O0 z hlt n1 n2 n5 n3 n4;rw [(g1.apart z hk.1).1] at hoz;cases hoz
  ·exact .inl hge
theorem LH{e e':UL}{w w1:World}{id:Nat}{r:GO}(st:Step e e' w w1)(H5: ∀x,e.own x=some id->e'.own x=some id/\w1.heap[x]? =w.heap[x]?)(hna:Xf4 r=false)(h:GH e w id r):GH e' w1 id r:=by
 cases r with
 |cells T l=>
  obtain ⟨h1,h2,vs,h3,h4⟩:=h;obtain ⟨l1,l2,l3⟩:=st.live id h1;obtain ⟨k1,k2⟩:=H5 _ h2;exact ⟨l1,by rw [l2];exact k1,vs,by rw [l2,k2];exact h3,h4.step st⟩
 |ints T pre n f=>
  obtain ⟨h1,h2,vs,h3,h4⟩:=h;obtain ⟨l1,l2,l3⟩:=st.live id h1;obtain ⟨k1,k2⟩:=H5 _ h2;exact ⟨l1,by rw [l2];exact k1,vs,by rw [l2,k2];exact h3,h4.step st⟩
 |memo g f=>
  obtain ⟨h1,h2,es,c,h3,h4⟩:=h;obtain ⟨l1,l2,l3⟩:=st.live id h1;obtain ⟨k1,k2⟩:=H5 _ h2;exact ⟨l1,by rw [l2];exact k1,es,c,by rw [l2,k2];exact h3,h4⟩
 |keep T l=>exact LE st h
 |aka _ _ _ _ _=>cases hna
 |row T sz n f=>
  obtain ⟨h1,h2,hf,ys,h3,h4⟩:=h;obtain ⟨l1,l2,l3⟩:=st.live id h1;refine ⟨l1,λx hx=>(H5 _ (h2 x (by rw [←l3];exact hx))).1,hf,ys,?_,λi j a v hi ha hv=>(h4 i j a v hi ha hv).step st⟩
  rw [l3];refine ⟨h3.1,h3.2.imp (λh=>h) ?_⟩
  rintro ⟨g',cap',cur',hv,hg,hh,rest⟩;exact ⟨g',cap',cur',hv,hg,(H5 g' (h2 g' (by rw [hv];rfl))).2.trans hh,rest⟩
theorem EY{e:UL}{w:World}{id n:Nat}{g:Nat->List AV}{ov:Value}(hr:UF 1 n g)(hl:e.live id)(hv:e.val id=ov)(hob: ∀x,ov.ownBlock=some x->e.own x=some id)(ho:w.ownsRow 0 3 1 ov n (((List.range n).map (col 0 g)).map (Value.int .i64))):GH e w id (.row 3 1 n g):=by
 have h:=xC (f:=col 0 g) hl hv hob VW (λj hj=>C0 hj) ho
 obtain ⟨h1,h2,h3,xs,h4,h5⟩:=h;refine ⟨h1,h2,λj hj=>?_,xs,h4,λi j a v hi ha hv=>?_⟩
 ·rw [hr j hj];exact h3 j hj
 ·rw [hr i hi] at ha;exact h5 i j a v hi ha hv
theorem cP{n:Nat}{a b c lo hi:Nat->Int}{N:Nat}(hs:Qh2 n a b c lo hi N):GC VP 222 (mI n a b c lo hi N):=by
 refine ⟨(UK Tryz.func222),?_⟩;intro avs m nx sv tr ht Q hQ cx w0 TT e ds args w hE hB hm hlv LN hxt hr;unfold mI at ht;split at ht
 ·rename_i d day k z0 g z1 f z2 o z3 dd z4;split at ht
  ·rename_i Tk c1 c2 sl ea la Tg mg Tf fg k' y0 g' y1 f' y2 o' y3 d' y4 To q Td r h1 h2 h3 h4 h5;split at ht
   ·rename_i hh ff T1 s1 k1 g1 T2 s2 k2 g2 h6 h7 h8;split at ht
    ·rename_i hb;rw [H9] at hb;obtain ⟨hb1,hb2⟩:=hb;simp only [E7] at hb1;obtain ⟨rfl,rfl,rfl,rfl,rfl,rfl,rfl,rfl,rfl,rfl,rfl,rfl,rfl,rfl,rfl,rfl,rfl,rfl,rfl,rfl,rfl,rfl,rfl,rfl,rfl,_⟩:=hb1;rw [H9] at hb2;have hqr:q≠r:=by
      rintro rfl;simp at hb2
     have hod:o≠dd:=by
      rintro rfl;simp at hb2
     cases ht;obtain ⟨hn,hq⟩:=VN.sat_needT hQ;have hn:=GD hn;have n1:c1=i 4:=hn _ VW;have n2:c2=i 10:=hn _ VW;have n3:sl=sls n a b c lo hi:=hn _ VW;have n4: ∀x,hh x->orH n a b c lo hi x/\ff x=orV x:=hn _ VW;have n6:UF 1 k1 g1:=hn _ VW;have n7:UF 1 k2 g2:=hn _ VW;have n8:k2=n:=hn _ VW;have n9:0<=d/\d<2^n:=hn _ VW;have n10:2^n-d.toNat<=N:=hn _ VW;have n11:0<=day/\day<=100:=hn _ VW;have n12:k1<=1000:=hn _ VW;clear hn hQ;subst n1 n2 n3 n8;obtain ⟨d,rfl⟩: ∃d':Nat,d=d':=⟨d.toNat,VK⟩;simp only [FA] at hq n10;have hpn:((2^k2:Nat):Int)=2^k2:=VW;have hdn:d<2^k2:=by
      have h:=n9.2;rw [←hpn] at h;exact Int.ofNat_lt.1 h
     obtain ⟨v0,l1,rfl,r1,hr⟩:=hr.cons_inv;obtain ⟨v1,l1,rfl,r2,hr⟩:=hr.cons_inv;obtain ⟨v2,l2,rfl,r3,hr⟩:=hr.cons_inv;obtain ⟨v3,l3,rfl,r4,hr⟩:=hr.cons_inv;obtain ⟨v4,l4,rfl,r5,hr⟩:=hr.cons_inv;obtain ⟨v5,l5,rfl,r6,hr⟩:=hr.cons_inv;obtain rfl:=hr.nil_inv;obtain ⟨us,rfl,ru⟩:=r1.agg_inv;obtain ⟨u1,us1,rfl,q1,ru⟩:=ru.cons_inv;obtain ⟨u2,us2,rfl,q2,ru⟩:=ru.cons_inv;obtain rfl:=ru.nil_inv;obtain rfl:=q1.x_inv;obtain rfl:=q2.x_inv;have z: ∀{k:Nat} {x:Value},Rep e w (.ptr k 0) x->x=LQ (e.blk k):=by
      intro k x h;cases h;rfl
     obtain rfl:=z r2;obtain rfl:=z r3;obtain rfl:=z r4;obtain rfl:=z r5;obtain rfl:=z r6;have m4:=UX h4;obtain ⟨_,ro1,_,vs1,hp1,e1⟩:=hm _ (UX h1);obtain ⟨rb,xs,rfl,t1,e1⟩:=e1.cons_inv;obtain rfl:=e1.nil_inv;obtain ⟨_,ro2,_,vs2,hp2,e2⟩:=hm _ (UX h2);obtain ⟨mv,xs,rfl,t2,e2⟩:=e2.cons_inv;obtain rfl:=e2.nil_inv;have hmv:mv= .map (some (e.blk mg)):=by
      cases t2;rfl
     subst hmv;obtain ⟨_,ro3,_,vs3,hp3,e3⟩:=hm _ (UX h3);obtain ⟨fv,xs,rfl,t3,e3⟩:=e3.cons_inv;obtain rfl:=e3.nil_inv;obtain ⟨us,us',rfl,t6,t7⟩:=t3.fn_inv;obtain rfl:=t6.nil_inv;obtain ⟨x1,xs,rfl,s1,t7⟩:=t7.cons_inv;obtain ⟨x2,xs,rfl,s2,t7⟩:=t7.cons_inv;obtain ⟨x3,xs,rfl,s3,t7⟩:=t7.cons_inv;obtain ⟨x4,xs,rfl,s4,t7⟩:=t7.cons_inv;obtain ⟨x5,xs,rfl,s5,t7⟩:=t7.cons_inv;obtain rfl:=t7.nil_inv;obtain rfl:=z s1;obtain rfl:=z s2;obtain rfl:=z s3;obtain rfl:=z s4;obtain rfl:=z s5;obtain ⟨live4,own4,vs4,hp4,e4⟩:=hm _ m4;obtain ⟨ov,xs,rfl,t4,e4⟩:=e4.cons_inv;obtain rfl:=e4.nil_inv;obtain ⟨_,own5,vs5,hp5,e5⟩:=hm _ (UX h5);obtain ⟨dv,xs,rfl,t5,e5⟩:=e5.cons_inv;obtain rfl:=e5.nil_inv;have hov:(∃p q r,ov= .slice p q r)/\e.val q=ov:=by
      cases t4 with
      |row _ a n c _ hv=>exact ⟨⟨a,n,c,rfl⟩,hv⟩
     have hdv:(∃p q r,dv= .slice p q r)/\e.val r=dv:=by
      cases t5 with
      |row _ a n c _ hv=>exact ⟨⟨a,n,c,rfl⟩,hv⟩
     obtain ⟨live6,own6,es,cn,hp6,hes0⟩:=hm _ (UX h6);have hes: ∀x∈es.toList,orH k2 a b c lo hi x.key/\x.val=orV x.key:=λx hx=>by
      obtain ⟨g1,g2⟩:=hes0 x hx;exact ⟨(n4 _ g1).1,by rw [g2,(n4 _ g1).2]⟩
     have H7:=hm _ (UX h7);have H8:=hm _ (UX h8);have R7:=qC H7 n6;have R8:=qC H8 n7;simp only at hp1 hp2 hp3 hp4 hp5 hp6 own4 own6 live4 live6 R7 R8 ro1 ro2 ro3 own5;rw [hov.2] at R7;rw [hdv.2] at R8;have own7: ∀x,ov.ownBlock=some x->e.own x=some q:=λx hx=>H7.2.1 x (by show (e.val q).ownBlock=some x;rw [hov.2];exact hx)
     have own8: ∀x,dv.ownBlock=some x->e.own x=some r:=λx hx=>H8.2.1 x (by show (e.val r).ownBlock=some x;rw [hdv.2];exact hx)
     have live7:e.live q:=H7.1;have live8:e.live r:=H8.1;have ho_q:o≠q:=by
      rintro rfl;rw [h7] at h4;cases h4
     have ho_r:o≠r:=by
      rintro rfl;rw [h8] at h4;cases h4
     have ho_m:o≠mg:=by
      rintro rfl;rw [h6] at h4;cases h4
     have hm_q:mg≠q:=by
      rintro rfl;rw [h7] at h6;cases h6
     have hm_r:mg≠r:=by
      rintro rfl;rw [h8] at h6;cases h6
     have hd_q:dd≠q:=by
      rintro rfl;rw [h7] at h5;cases h5
     have hd_r:dd≠r:=by
      rintro rfl;rw [h8] at h5;cases h5
     have hd_m:dd≠mg:=by
      rintro rfl;rw [h6] at h5;cases h5
     have dne: ∀{x y j j':Nat},e.own x=some j->e.own y=some j'->j≠j'->x≠y:=by
      rintro x y j j' hx hy hj rfl;rw [hx] at hy;exact hj (Option.some.inj hy)
     have HV:(x7 k1 g1).length=k1:=by simp [x7]
     have hro: ∀x,e.ro x->x<w.heap.size/\x≠e.blk o/\x≠e.blk mg/\x≠e.blk dd/\ov.ownBlock≠some x/\dv.ownBlock≠some x:=by
      intro x hx;obtain ⟨hx1,hx2⟩:=hE.apart x hx;have nx_: ∀{y j:Nat},e.own y=some j->x≠y:=by
       rintro y j hy rfl;rw [hx1] at hy;cases hy
      exact ⟨hx2,nx_ own4,nx_ own6,nx_ own5,λh=>(nx_ (own7 x h)) rfl,λh=>(nx_ (own8 x h)) rfl⟩
     have FG:=Wb5 hs (ord:=x7 k1 g1) (dy:=col 0 g2) hdn n10 n11 (by rw [HV];exact n12) (w:=w) (bk:=e.blk k) (bg:=e.blk g) (bf:=e.blk f) (bo:=e.blk o) (bd:=e.blk dd) (bm:=e.blk mg) (R:=e) hE.glob
      hp1 hp2 hp3 hp5 hp4 hp6 hes (by rw [HV];exact R7) R8 hov.1 hdv.1 (dne own4 own6 ho_m) (dne own4 own5 hod) (dne own6 own5 (Ne.symm hd_m)) (λx hx=>⟨dne (own7 x hx) own4 (Ne.symm ho_q),dne (own7 x hx) own6 (Ne.symm hm_q),dne (own7 x hx) own5 (Ne.symm hd_q),λh=>dne (own7 x hx) (own8 x h) hqr rfl⟩)
      (λx hx=>⟨dne (own8 x hx) own4 (Ne.symm ho_r),dne (own8 x hx) own6 (Ne.symm hm_r),dne (own8 x hx) own5 (Ne.symm hd_r)⟩) t1 hro ro1 ro2 ro3
     refine FG.mono ?_;rintro en w1 ⟨rfl,hsz,q1,q2,q3,zV,⟨es',c',hmp,hes'⟩,hF,hT⟩;rw [HV] at hF;have hlt: ∀{x j:Nat},e.own x=some j->w0.heap.size<=x:=λh=>(hE.owned _ _ h).1
     have hBel:Below w0.heap.size w0 w1:=by
      refine ⟨q1.trans hB.os,q2.trans hB.tape,q3.trans hB.output,Nat.le_trans hB.size hsz,λx hx=>?_⟩
      have ne_: ∀{y j:Nat},e.own y=some j->x≠y:=λh he=>by have:=hlt h;omega
      rw [zV x (xN hx hB.size) (ne_ own4) (ne_ own6) (λh=>ne_ (own7 x h) rfl) (λh=>ne_ (own8 x h) rfl)]
      exact hB.block x hx
     have Xg6: ∀x,x<w.heap.size->e.ro x->w1.heap[x]? =w.heap[x]? :=λx hx hx2=>zV x hx (hro x hx2).2.1 (hro x hx2).2.2.1 (hro x hx2).2.2.2.2.1 (hro x hx2).2.2.2.2.2
     cases hb:(orS k2 a b c lo hi d day).isSome with
     |false=>
      have hq:=hq.2 hb;obtain ⟨f1,f2,f3⟩:=hF hb;have st:Step e e w w1:=⟨λx hx hx2=>⟨hx2,Xg6 x hx hx2⟩,λ_ h=>⟨h,rfl,rfl⟩,hsz⟩
      refine ⟨_,_,_,_,_,e,rfl,hq,⟨λx hx=>⟨(hE.apart x hx).1,xN (hE.apart x hx).2 hsz⟩,λx j hx=>⟨(hE.owned x j hx).1,xN (hE.owned x j hx).2 hsz⟩,hE.glob.step st⟩,hBel,?_,hlv,LN,hxt.step st,.lit false⟩
      intro p hp;rcases FX hp with rfl|⟨hp,Zk5,_⟩
      ·exact ⟨live6,own6,es',c',hmp,hes'⟩
      rcases FX hp with rfl|⟨hp,vH,_⟩
      ·exact EY n7 live8 hdv.2 own8 f3
      rcases FX hp with rfl|⟨hp,Zk4,_⟩
      ·exact EY n6 live7 hov.2 own7 f2
      obtain ⟨hpm,hna⟩:=EA hp;refine LH st (λx hx=>⟨hx,?_⟩) hna (hm p hpm)
      rcases Classical.em (x=e.blk o) with rfl|hxo
      ·rw [f1,hp4]
      ·exact zV x (hE.owned x _ hx).2 hxo (dne hx own6 Zk5) (λh=>dne hx (own7 x h) Zk4 rfl) (λh=>dne hx (own8 x h) vH rfl)
     |true=>
      have hq:=hq.1 hb;obtain ⟨y',t1,⟨ya,yn,yc,hy0⟩,t2,t3,t4⟩:=hT hb;have hid: ¬e.live nx:=λh=>Nat.lt_irrefl _ (hlv _ h)
      have hfr: ∀x j,e.own x=some j->j≠q->y'.ownBlock≠some x:=by
       intro x j hx hj h;rcases t3 x h with h|h
       ·have:=(hE.owned x j hx).2;omega
       ·exact dne hx (own7 x h) hj rfl
      have hfr2: ∀x,e.ro x->y'.ownBlock≠some x:=by
       intro x hx h;rcases t3 x h with h|h
       ·have:=(hro x hx).1;omega
       ·exact (hro x hx).2.2.2.2.1 h
      have H5: ∀x j,e.own x=some j->j≠q->(e.app nx y').own x=some j:=by
       intro x j hx hj;simp only [UL.app];rw [if_neg (hfr x j hx hj)];exact hx
      have st:Step e (e.app nx y') w w1:=⟨λx hx hx2=>⟨hx2,Xg6 x hx hx2⟩,λj hj=>⟨.inr hj,rfl,by
       have:j≠nx:=λh=>hid (h▸hj)
       simp [UL.app,this]⟩,hsz⟩
      have vne: ∀{j:Nat},e.live j->(e.app nx y').val j=e.val j:=λ{j} hj=>by
       have:j≠nx:=λh=>hid (h▸hj)
       simp [UL.app,this]
      refine ⟨_,_,_,_,_,e.app nx y',rfl,hq,⟨λx hx=>⟨?_,xN (hE.apart x hx).2 hsz⟩,λx j hx=>?_,hE.glob.step st⟩,hBel,?_,?_,LN,hxt.step st,.lit true⟩
      ·simp only [UL.app];rw [if_neg (hfr2 x hx)];exact (hE.apart x hx).1
      ·simp only [UL.app] at hx;split at hx
       ·rename_i hxb;refine ⟨?_,(t2.lt x hxb).2⟩;rcases t3 x hxb with h|h
        ·exact Nat.le_trans hB.size h
        ·exact hlt (own7 x h)
       ·exact ⟨(hE.owned x j hx).1,xN (hE.owned x j hx).2 hsz⟩
      ·intro p hp;rcases GN.1 hp with rfl|hp
       ·exact xC (ov:=y') (.inl rfl) (by simp [UL.app]) (λx hx=>by simp [UL.app,hx]) rfl (λj hj=>tO hj) t2
       rcases FX hp with rfl|⟨hp,Zk5,_⟩
       ·exact ⟨.inr live6,H5 _ _ own6 hm_q,es',c',hmp,hes'⟩
       rcases FX hp with rfl|⟨hp,vH,_⟩
       ·exact xC (ov:=dv) (.inr live8) (by rw [vne live8];exact hdv.2) (λx hx=>H5 _ _ (own8 x hx) (Ne.symm hqr)) VW (λj hj=>C0 hj) t4
       rcases FX hp with rfl|⟨hp,Zk4,_⟩
       ·refine ⟨.inr live4,H5 _ _ own4 ho_q,[y'],t1,.cons ?_ (.nil _ _)⟩;rw [hy0];exact .row nx _ _ _ (.inl rfl) (by simp [UL.app])
       obtain ⟨hp,Je2⟩:=L3 hp;obtain ⟨hpm,hna⟩:=EA hp;refine LH st (λx hx=>⟨H5 _ _ hx Je2,?_⟩) hna (hm p hpm)
       exact zV x (hE.owned x _ hx).2 (dne hx own4 Zk4) (dne hx own6 Zk5) (λh=>dne hx (own7 x h) Je2 rfl) (λh=>dne hx (own8 x h) vH rfl)
      ·rintro j (rfl|hj)
       ·exact Nat.lt_succ_self _
       ·exact Nat.lt_succ_of_lt (hlv j hj)
    ·cases ht
   ·cases ht
  ·cases ht
 ·cases ht
end Go.Proofs.YtlclobclmfhlmaaGreatDoor.Hd
